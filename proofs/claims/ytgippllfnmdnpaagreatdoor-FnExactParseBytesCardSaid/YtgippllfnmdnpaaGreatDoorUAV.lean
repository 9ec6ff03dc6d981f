/- Own text: part UAV. -/
import Derived.Test.YtgippllfnmdnpaaGreatDoorUAU
set_option linter.all false
namespace Go.T
variable [Go.Vg.Glob]
open Go.Proofs Go.Vg Go.RowKit Go.TT Go.Pl
set_option maxRecDepth 10000
set_option maxHeartbeats 4000000
theorem ztd (r:Int):PF Tryz.prog 271 [.i .i64 r] (.s (rnB r)):=by
 refine HP va.d 13 [[0],[0,9],[2],[2]] Tryz.func271 [.tmp 2] ?_;simp only [↓XC,X1,seval,TES,ks];refine ⟨fun h=>?_,fun h=>?_⟩
 ·rw [uw (by simp only [Yi] at h;omega)]
 ·have hv:¬(r<0∨1114111<r∨(55296≤r∧r≤57343)):=by simp only [Yi] at h;omega
  exact CR fun _=>by rw [z2e hv]
noncomputable def zcr:PE:=peR (fun (r:Int)=>[.i .i64 r]) (fun (r:Int)=>True) (fun (r:Int)=>.s (rnB r))
theorem zff {r:Int}:zcr [.i .i64 r]=some (True,.s (rnB r)):=yg (by rintro a b h;simp_all []) r
theorem zfe:PE1 Tryz.prog 271 zcr:=yo (by rintro r hp;exact ztd r)
theorem ztc (r:Int):PF Tryz.prog 222 [.i .i64 r] (.s (rnB r)):=by
 refine HP pn 76 [[0],[0,3],[2],[0,18],[2],[0,25],[2],[0,38],[2],[2]] Tryz.func222 [.tmp 2] ?_;simp only [↓XC,X1,seval,TES];refine ⟨fun h=>?_,fun h=>?_⟩
 ·rw [uw (by simp only [Yi] at h;omega)]
 have hv:¬(r<0∨1114111<r∨(55296≤r∧r≤57343)):=by simp only [Yi] at h;omega
 clear h;obtain ⟨n,rfl⟩:∃ n:Nat,r=n:=⟨r.toNat,by omega⟩
 have e1:(n:Int).tdiv 64=((n / 64:Nat):Int):=zhh n 64;have e2:(n:Int).tdiv 4096=((n / 4096:Nat):Int):=zhh n 4096;have e3:(n:Int).tdiv 262144=((n / 262144:Nat):Int):=zhh n 262144;have e4:∀ k:Nat,(k:Int).tmod 64=((k % 64:Nat):Int):=fun k=>zua k 64;have t1:∀ c k:Nat,((c:Int)+(k:Int)).toNat=c+k:=fun c k=>by omega
 simp only [e1,e2,e3,e4]
 repeat' (first | with_reducible refine Chk.mk ?_ fun _=>?_ | with_reducible refine And.intro ?_ ?_ | intro _)
 all_goals first
  | decide
  | omega
  | (simp only [inR];omega)
  | (exact zep [_] _ (by assumption))
  | (exact zep [_,_] _ (by assumption))
  | (exact zep [_,_,_] _ (by assumption))
  | (exact zep [_,_,_,_] _ (by assumption))
  | (rw [zzw hv (by omega),Int.toNat_natCast])
  | (rw [zzv hv (by omega) (by omega)];exact congrArg SV.s ((zaj [_,_]).trans (by simp only [List.map_cons,List.map_nil];first | rfl | (congr 2<;>omega))))
  | (rw [zzu hv (by omega) (by omega)];exact congrArg SV.s ((zaj [_,_,_]).trans (by simp only [List.map_cons,List.map_nil];first | rfl | (congr 2<;>omega))))
  | (rw [zzt hv (by omega)];exact congrArg SV.s ((zaj [_,_,_,_]).trans (by simp only [List.map_cons,List.map_nil];first | rfl | (congr 2<;>omega))))
noncomputable def zcq:PE:=peR (fun (r:Int)=>[.i .i64 r]) (fun (r:Int)=>True) (fun (r:Int)=>.s (rnB r))
theorem kn {r:Int}:zcq [.i .i64 r]=some (True,.s (rnB r)):=yg (by rintro a b h;simp_all []) r
theorem u6:PE1 Tryz.prog 222 zcq:=yo (by rintro r hp;exact ztc r)
theorem zr7 (b:Int) (hp : -1≤b∧b≤255):PF Tryz.prog 270 [.i .i64 b] (.i .i64 (shE b)):=by
 refine HP pn 42 [[0],[0,3],[0,3,4],[2],[0,3,6],[0,3,6],[2],[0,3,12],[0,3,12],[2],[0,3,15],[2],[0,3,17],[0,3,17],[2],[0,3,24],[2],[0,3,26],[2],[0,3,28],[0,3,28],[0,3,28],[0,3,28],[2],[3,34],[2],[3,36],[2],[3,38],[2],[40],[2],[2]] Tryz.func270 [.tmp 2] ?_;simp only [↓XC,X1,seval,TES]
 repeat' (first | with_reducible refine Chk.mk ?_ fun _=>?_ | with_reducible refine And.intro ?_ ?_ | intro _)
 all_goals first
  | (simp only [inR];omega)
  | omega
  | (exfalso;omega)
  | (subst_vars;rfl)
  | (rw [zzb (by omega)])
noncomputable def zcm:PE:=peR (fun (b:Int)=>[.i .i64 b]) (fun (b:Int) => -1≤b∧b≤255) (fun (b:Int)=>.i .i64 (shE b))
theorem zfb {b:Int}:zcm [.i .i64 b]=some (-1≤b∧b≤255,.i .i64 (shE b)):=yg (by rintro a b h;simp_all []) b
theorem zfa:PE1 Tryz.prog 270 zcm:=yo (by rintro b hp;exact zr7 b hp)
theorem hexValue (s:Bs) (p m:Int) (hp:s.length≤1048576∧0≤p∧p≤s.length+9∧0≤m∧m≤8):PF Tryz.prog 272 [.s s,.i .i64 p,.i .i64 m] (.tup [.i .i64 (if (hxV s p.toNat m.toNat 0)<0 then 0 else (hxV s p.toNat m.toNat 0)),.b (decide (0≤(hxV s p.toNat m.toNat 0)))]):=by
 refine HP (zt.c va.d) 48 [[0,1,2],[0,1,2,8],[0,1,8,11,12],[0,1,8,11,12,13],[0,1,8,9,11,12],[0,1,8,10,11,12],[6,7],[0,1,8,10,11,12,20],[0,1,8,11,12],[0,1,8,10,11,12,28],[0,1,8,11,12],[0,1,8,10,11,12,37],[0,1,8,11,12],[0,1,8,11,12],[6,7]] Tryz.func272 [.tmp 6,.tmp 7] ?_;simp only [↓XC,X1,seval,TES,zc,ks];refine zl.of (ι:={x:Nat×Nat // x.1≤m.toNat∧x.2<16 ^ x.1∧hxV s (p.toNat+x.1) (m.toNat-x.1) x.2=hxV s p.toNat m.toNat 0}) (fun x=>⟨[(0,.s s),(1,.i .i64 p),(8,.i .i64 (x.1.2:Nat)),(11,.i .i64 m),(12,.i .i64 (x.1.1:Nat))],[]⟩) (fun x=>m.toNat-x.1.1) ⟨(0,0),Nat.zero_le _,by decide,rfl⟩ (Ent.refl _ _) ?_;rintro ⟨⟨i,a⟩,hi,ha,hv⟩;simp only [↓XC,X1,seval,TES,zc,ks];simp only at hi ha hv;have h16:=hx16 (i:=i) (by omega);refine ⟨fun h=>CR fun _=>Chk.mk hp.1 fun _=>?_,fun h=>?_⟩
 ·have hb:byt s (spot s (p+(i:Nat)))=byt s (p.toNat+i):=by rw [vo (by omega)];congr 1;omega
  rw [hb];obtain ⟨b,hbe⟩:∃ b,byt s (p.toNat+i)=b:=⟨_,rfl⟩
  rw [hbe];refine ⟨fun h1=>?_,fun h1=>⟨fun h2=>?_,fun h2=>⟨fun h3=>?_,fun h3=>?_⟩⟩⟩
  ·simp only [Yi] at h1;have hd:hxD b=b-48:=by first | exact zxu (by omega) (by omega) | exact zxt (by omega) (by omega) | exact zxs (by omega) (by omega)
   have hs:=zcd (s:=s) (p:=p.toNat+i) (n:=m.toNat-(i+1)) (a:=a) (by rw [hbe,hd];omega);rw [show m.toNat-(i+1)+1=m.toNat-i by omega,hv,hbe,hd] at hs;refine CR fun _=>CR fun _=>CR fun _=>CR fun _=>⟨⟨(i+1,(16 * (a:Int)+(b-48)).toNat),by simp only;omega,by simp only [Nat.pow_succ];omega,by simp only;rw [hs,←Nat.add_assoc];congr 1;omega⟩,by simp only;omega, ?_⟩
   rw [show ((16:Int) * a+b-48)=(((16 * (a:Int)+(b-48)).toNat:Nat):Int) by omega];exact (by first | exact Ent.refl _ _ | (simp only [Int.natCast_add,Int.natCast_one];exact Ent.refl _ _))
  ·simp only [Yi] at h2;have hd:hxD b=b-97+10:=by first | exact zxu (by omega) (by omega) | exact zxt (by omega) (by omega) | exact zxs (by omega) (by omega)
   have hs:=zcd (s:=s) (p:=p.toNat+i) (n:=m.toNat-(i+1)) (a:=a) (by rw [hbe,hd];omega);rw [show m.toNat-(i+1)+1=m.toNat-i by omega,hv,hbe,hd] at hs;refine CR fun _=>CR fun _=>CR fun _=>CR fun _=>CR fun _=>⟨⟨(i+1,(16 * (a:Int)+(b-97+10)).toNat),by simp only;omega,by simp only [Nat.pow_succ];omega,by simp only;rw [hs,←Nat.add_assoc];congr 1;omega⟩,by simp only;omega, ?_⟩
   rw [show ((16:Int) * a+b-97+10)=(((16 * (a:Int)+(b-97+10)).toNat:Nat):Int) by omega];exact (by first | exact Ent.refl _ _ | (simp only [Int.natCast_add,Int.natCast_one];exact Ent.refl _ _))
  ·simp only [Yi] at h3;have hd:hxD b=b-65+10:=by first | exact zxu (by omega) (by omega) | exact zxt (by omega) (by omega) | exact zxs (by omega) (by omega)
   have hs:=zcd (s:=s) (p:=p.toNat+i) (n:=m.toNat-(i+1)) (a:=a) (by rw [hbe,hd];omega);rw [show m.toNat-(i+1)+1=m.toNat-i by omega,hv,hbe,hd] at hs;refine CR fun _=>CR fun _=>CR fun _=>CR fun _=>CR fun _=>⟨⟨(i+1,(16 * (a:Int)+(b-65+10)).toNat),by simp only;omega,by simp only [Nat.pow_succ];omega,by simp only;rw [hs,←Nat.add_assoc];congr 1;omega⟩,by simp only;omega, ?_⟩
   rw [show ((16:Int) * a+b-65+10)=(((16 * (a:Int)+(b-65+10)).toNat:Nat):Int) by omega];exact (by first | exact Ent.refl _ _ | (simp only [Int.natCast_add,Int.natCast_one];exact Ent.refl _ _))
  ·simp only [Yi] at h1;simp only [Yi] at h2;simp only [Yi] at h3;have hs:=zsx (s:=s) (p:=p.toNat+i) (n:=m.toNat-(i+1)) (a:=a) (by rw [hbe,hxD_n (by omega) (by omega) (by omega)];decide);rw [show m.toNat-(i+1)+1=m.toNat-i by omega,hv] at hs;rw [hs];rfl
 ·have hs:hxV s p.toNat m.toNat 0=a:=by rw [←hv,show m.toNat-i=0 by omega];rfl
  rw [hs,if_neg (by omega)];simp
noncomputable def zia:PE:=peR (fun (x:Bs×Int×Int)=>match x with | (s,p,m)=>[.s s,.i .i64 p,.i .i64 m]) (fun (x:Bs×Int×Int)=>match x with | (s,p,m)=>s.length≤1048576∧0≤p∧p≤s.length+9∧0≤m∧m≤8) (fun (x:Bs×Int×Int)=>match x with | (s,p,m)=>.tup [.i .i64 (if (hxV s p.toNat m.toNat 0)<0 then 0 else (hxV s p.toNat m.toNat 0)),.b (decide (0≤(hxV s p.toNat m.toNat 0)))])
theorem zka {s:Bs} {p m:Int}:zia [.s s,.i .i64 p,.i .i64 m]=some (s.length≤1048576∧0≤p∧p≤s.length+9∧0≤m∧m≤8,.tup [.i .i64 (if (hxV s p.toNat m.toNat 0)<0 then 0 else (hxV s p.toNat m.toNat 0)),.b (decide (0≤(hxV s p.toNat m.toNat 0)))]):=yg (by rintro ⟨a0,a1,a2⟩ ⟨b0,b1,b2⟩ h;simp_all []) (s,p,m)
theorem zj9:PE1 Tryz.prog 272 zia:=yo (by rintro ⟨s,p,m⟩ hp;exact hexValue s p m hp)
theorem Hex_s (s:Bs) (p m:Int) (hp:s.length≤1048576∧0≤p∧p≤s.length+9∧0≤m∧m≤8):PF Tryz.prog 350 [.s s,.i .i64 p,.i .i64 m] (.i .i64 (hxV s p.toNat m.toNat 0)):=by
 refine HP pn 67 [[0,1,2],[0,1,2,7],[0,1,2,7,8],[0,1,2,7,8,15],[0,1,2,7,8],[0,1,2,7,8,21],[6],[0,1,2,7,8,9],[6],[0,1,2,7,8,9,25],[0,1,2,7,8],[0,1,2,7,8,9,38],[0,1,2,7,8],[0,1,2,7,8,9,52],[0,1,2,7,8],[6]] Tryz.func350 [.tmp 6] ?_;simp only [↓XC,X1,seval,TES];refine zl.of (ι:={x:Nat×Nat // x.1≤m.toNat∧x.2<16 ^ x.1∧hxV s (p.toNat+x.1) (m.toNat-x.1) x.2=hxV s p.toNat m.toNat 0}) (fun x=>⟨[(0,.s s),(1,.i .i64 p),(2,.i .i64 m),(7,.i .i64 (x.1.2:Nat)),(8,.i .i64 (p+(x.1.1:Nat)))],[]⟩) (fun x=>m.toNat-x.1.1) ⟨(0,0),Nat.zero_le _,by decide,rfl⟩ (by simp only [Int.natCast_zero,Int.add_zero];exact Ent.refl _ _) ?_;rintro ⟨⟨i,a⟩,hi,ha,hv⟩;simp only [↓XC,X1,seval,TES];simp only at hi ha hv;have h16:=hx16 (i:=i) (by omega);have ET:(p+(i:Int)).toNat=p.toNat+i:=by omega
 rw [ET];refine CR fun _=>⟨fun h=>⟨fun hg=>?_,fun hg=>CO fun _=>?_⟩,fun h=>?_⟩
 ·have hs:=zsx (s:=s) (p:=p.toNat+i) (n:=m.toNat-(i+1)) (a:=a) (by rw [qk (by omega)];decide);rw [show m.toNat-(i+1)+1=m.toNat-i by omega,hv] at hs;rw [hs]
 ·obtain ⟨b,hbe⟩:∃ b,byt s (p.toNat+i)=b:=⟨_,rfl⟩
  have hbb:((s.getD (p.toNat+i) 0).toNat:Int)=b:=by rw [←hbe,zw (by omega)]
  rw [hbb];have hr:=zac s (p.toNat+i);rw [hbe] at hr;refine ⟨fun h1=>?_,fun h1=>⟨fun h2=>?_,fun h2=>⟨fun h3=>?_,fun h3=>?_⟩⟩⟩
  ·simp only [Yi] at h1;have hd:hxD b=b-48:=by first | exact zxu (by omega) (by omega) | exact zxt (by omega) (by omega) | exact zxs (by omega) (by omega)
   have hs:=zcd (s:=s) (p:=p.toNat+i) (n:=m.toNat-(i+1)) (a:=a) (by rw [hbe,hd];omega);rw [show m.toNat-(i+1)+1=m.toNat-i by omega,hv,hbe,hd] at hs;refine CR fun _=>CR fun _=>CR fun _=>CR fun _=>CR fun _=>⟨⟨(i+1,(16 * (a:Int)+(b-48)).toNat),by simp only;omega,by simp only [Nat.pow_succ];omega,by simp only;rw [hs,←Nat.add_assoc];congr 1;omega⟩,by simp only;omega, ?_⟩
   rw [show (a:Int) * 16+(b-48)=(((16 * (a:Int)+(b-48)).toNat:Nat):Int) by omega,Int.add_assoc];exact (by first | exact Ent.refl _ _ | (simp only [Int.natCast_add,Int.natCast_one];exact Ent.refl _ _))
  ·simp only [Yi] at h2;have hd:hxD b=b-97+10:=by first | exact zxu (by omega) (by omega) | exact zxt (by omega) (by omega) | exact zxs (by omega) (by omega)
   have hs:=zcd (s:=s) (p:=p.toNat+i) (n:=m.toNat-(i+1)) (a:=a) (by rw [hbe,hd];omega);rw [show m.toNat-(i+1)+1=m.toNat-i by omega,hv,hbe,hd] at hs;refine CR fun _=>CR fun _=>CR fun _=>CR fun _=>CR fun _=>CR fun _=>⟨⟨(i+1,(16 * (a:Int)+(b-97+10)).toNat),by simp only;omega,by simp only [Nat.pow_succ];omega,by simp only;rw [hs,←Nat.add_assoc];congr 1;omega⟩,by simp only;omega, ?_⟩
   rw [show (a:Int) * 16+(b-97)+10=(((16 * (a:Int)+(b-97+10)).toNat:Nat):Int) by omega,Int.add_assoc];exact (by first | exact Ent.refl _ _ | (simp only [Int.natCast_add,Int.natCast_one];exact Ent.refl _ _))
  ·simp only [Yi] at h3;have hd:hxD b=b-65+10:=by first | exact zxu (by omega) (by omega) | exact zxt (by omega) (by omega) | exact zxs (by omega) (by omega)
   have hs:=zcd (s:=s) (p:=p.toNat+i) (n:=m.toNat-(i+1)) (a:=a) (by rw [hbe,hd];omega);rw [show m.toNat-(i+1)+1=m.toNat-i by omega,hv,hbe,hd] at hs;refine CR fun _=>CR fun _=>CR fun _=>CR fun _=>CR fun _=>CR fun _=>⟨⟨(i+1,(16 * (a:Int)+(b-65+10)).toNat),by simp only;omega,by simp only [Nat.pow_succ];omega,by simp only;rw [hs,←Nat.add_assoc];congr 1;omega⟩,by simp only;omega, ?_⟩
   rw [show (a:Int) * 16+(b-65)+10=(((16 * (a:Int)+(b-65+10)).toNat:Nat):Int) by omega,Int.add_assoc];exact (by first | exact Ent.refl _ _ | (simp only [Int.natCast_add,Int.natCast_one];exact Ent.refl _ _))
  ·simp only [Yi] at h1;simp only [Yi] at h2;simp only [Yi] at h3;have hs:=zsx (s:=s) (p:=p.toNat+i) (n:=m.toNat-(i+1)) (a:=a) (by rw [hbe,hxD_n (by omega) (by omega) (by omega)];decide);rw [show m.toNat-(i+1)+1=m.toNat-i by omega,hv] at hs;rw [hs]
 ·have hs:hxV s p.toNat m.toNat 0=a:=by rw [←hv,show m.toNat-i=0 by omega];rfl
  rw [hs]
noncomputable def zu4:PE:=peR (fun (x:Bs×Int×Int)=>match x with | (s,p,m)=>[.s s,.i .i64 p,.i .i64 m]) (fun (x:Bs×Int×Int)=>match x with | (s,p,m)=>s.length≤1048576∧0≤p∧p≤s.length+9∧0≤m∧m≤8) (fun (x:Bs×Int×Int)=>match x with | (s,p,m)=>.i .i64 (hxV s p.toNat m.toNat 0))
theorem ziu {s:Bs} {p m:Int}:zu4 [.s s,.i .i64 p,.i .i64 m]=some (s.length≤1048576∧0≤p∧p≤s.length+9∧0≤m∧m≤8,.i .i64 (hxV s p.toNat m.toNat 0)):=yg (by rintro ⟨a0,a1,a2⟩ ⟨b0,b1,b2⟩ h;simp_all []) (s,p,m)
theorem zsi:PE1 Tryz.prog 350 zu4:=yo (by rintro ⟨s,p,m⟩ hp;exact Hex_s s p m hp)
theorem mp_hx (b:Int):(lookS (zaw (zaw (zaw [] (120:Int) 2) 117 4) 85 8) b).getD 0=(hxN b:Int):=by
 unfold hxN;by_cases h1:b=120
 ·subst h1;rfl
 by_cases h2:b=117
 ·subst h2;rfl
 by_cases h3:b=85
 ·subst h3;rfl
 rw [if_neg h1,if_neg h2,if_neg h3];have e1:¬(120:Int)=b:=fun e=>h1 e.symm;have e2:¬(117:Int)=b:=fun e=>h2 e.symm;have e3:¬(85:Int)=b:=fun e=>h3 e.symm;simp [zaw,lookS,e1,e2,e3]
theorem zyh (s:Bs) (p:Int) (hp:s.length≤1048576):PF Tryz.prog 241 [.s s,.i .i64 p] (.tup [.s (esA s (spot s p)).1,.i .i64 ((esA s (spot s p)).2:Nat)]):=by
 refine HP (yd.c (zt.c (zfa.c (zfe.c zj9.d)))) 67 [[0,1],[0,1],[0,1,25],[4,5],[0,1,6],[0,1,6,7],[0,1,6,7,33],[4,5],[0,1,8],[1,8,9,10],[1,8,10,11],[1,8,11,61],[4,5],[4,5]] Tryz.func241 [.tmp 4,.tmp 5] ?_;simp only [↓XC,X1,seval,TES,ye,zc,zfb,zff,zka];have h0:=yh s p;rw [zg s h0];have e0:((spot s p:Nat)+1:Int).toNat=spot s p+1:=by omega
 have e1:byt s (spot s ((spot s p:Nat)+1:Int))=byt s (spot s p+1):=by rw [vo (by omega),e0]
 have e2:((spot s p:Nat)+2:Int).toNat=spot s p+2:=by omega
 rw [e1,e2];simp only [mp_hx,Int.toNat_natCast];generalize spot s p=q at *;have hr:=zac s (q+1);have hn:=hxN_le (byt s (q+1));refine Chk.mk hp fun _=>Chk.mk (fun _=>by simp only [inR];omega) fun _=>⟨fun h=>?_,fun h=>CR fun _=>Chk.mk hp fun _=>Chk.mk hr fun _=>?_⟩
 ·rw [z2d (by simp only [Yi] at h;omega)];rfl
 have hb:byt s q=92∧q+1<s.length:=by simp only [Yi] at h;omega
 refine ⟨fun h1=>CR fun _=>?_,fun h1=>CR fun _=>Chk.mk ⟨hp,by omega,by omega,by omega,by omega⟩ fun _=>⟨fun h2=>?_,fun h2=>CR fun _=>CR fun _=>?_⟩⟩
 ·rw [zrf hb h1];simp
 ·rw [z19 hb h1];rfl;simp only [Yi] at h2;rcases h2 with (h2 | h2) | h2
  ·exact .inl (by omega)
  ·exact .inr (uw (.inl h2))
  ·right;by_cases h3:hxV s (q+2) (hxN (byt s (q+1))) 0<0
   ·exact uw (.inl h3)
   ·rw [if_neg h3] at h2;exact h2
 ·simp only [Yi] at h2;rw [if_neg (by omega)] at h2 ⊢;rw [z2b hb h1 (by rintro (h3 | h3);exact h2.1.1 (by omega);exact h2.2 h3)];simp
noncomputable def zee:=qsi (fun s p=>s.length≤1048576) fun s p=>.tup [.s (esA s (spot s p)).1,.i .i64 ((esA s (spot s p)).2:Nat)]
theorem za5 {s} {p}:zee [.s s,.i .i64 p]=some (s.length≤1048576,.tup [.s (esA s (spot s p)).1,.i .i64 ((esA s (spot s p)).2:Nat)]):=y7
theorem zg8:PE1 Tryz.prog 241 zee:=y6 zyh
theorem zyg (s:Bs) (p:Int) (hp:s.length≤1048576):PF Tryz.prog 328 [.s s,.i .i64 p] (.tup [.s (esA s (spot s p)).1,.i .i64 ((esA s (spot s p)).2:Nat)]):=by
 refine HP (yl.c (u6.c zsi.d)) 72 [[0,1],[0,1],[0,1,25],[4,5],[0,1,6],[0,1,6,31,32,33],[0,1,6,31,32,33,34],[0,1,6,7,8,31,32,33],[0,1,6,7,31,32,33,40],[1,9],[4,5],[0,1,6,31,32,33],[0,1,6,10],[0,1,10,50],[0,1,10,50,51],[0,1,10],[0,1,10,50,53],[0,1,10],[0,1,10,55],[0,1,10],[0,1,10,58],[4,5],[1,10,11],[1,10,11,66],[4,5],[4,5]] Tryz.func328 [.tmp 4,.tmp 5] ?_;simp only [↓XC,X1,reduceIte,Nat.reduceAdd,Nat.reduceLT,Nat.reduceEqDiff,Nat.reduceBEq,Nat.reduceLeDiff,reduceCtorEq,Nat.reduceSub,Nat.reduceMul,Int.reduceToNat,Int.reduceLT,Int.reduceLE,TES,yn,kn,ziu];have h0:=yh s p;have e0:((spot s p:Nat)+1:Int).toNat=spot s p+1:=by omega
 rw [e0];generalize spot s p=q at *;refine CR fun _=>Chk.mk (fun h=>by simp only [Yi] at h;omega) fun _=>⟨fun h=>?_,fun h=>CR fun _=>Chk.mk (by simp only [Yi] at h;omega) fun _=>?_⟩
 ·rw [z2d (by rintro ⟨h1,h2⟩;rw [zw (by omega)] at h1;simp only [Yi] at h;omega)];rfl
 have hb:byt s q=92∧q+1<s.length:=by simp only [Yi] at h;exact ⟨by rw [zw (by omega)];omega,by omega⟩
 rw [←zw hb.2];rw [zoq];refine cvO_of rfl (by rfl) rfl (by rfl) (by decide) ?_;simp only [putS_s,↓XC,X1,reduceIte,Nat.reduceAdd,Nat.reduceLT,Nat.reduceEqDiff,Nat.reduceBEq,Nat.reduceLeDiff,reduceCtorEq,Nat.reduceSub,Nat.reduceMul,Int.reduceToNat,Int.reduceLT,Int.reduceLE,TES];refine zl.of (ι:={i:Nat // i≤18∧∀ j,j<i→(shL.getD j (0,0)).1≠byt s (q+1)}) (fun x=>⟨[(0,.s s),(1,.i .i64 (q:Nat)),(6,.i .u8 (byt s (q+1))),(31,.slc 0 0 18),(32,.i .i64 18),(33,.i .i64 (x.1:Nat))],[some (.row false 1 18 (zu j7 0 ([48,97,98,116,9,110,118,102,114,101,32,34,47,92,78,95,76,80]:List UInt8)))]⟩) (fun x=>18-x.1) ⟨0,Nat.zero_le _,fun j hj=>absurd hj (Nat.not_lt_zero _)⟩ (Ent.ren1 [0] (by decide) (by simp only [Yd];exact yi fun j hj=>(qx (by rfl)).trans (zi8 (b:=([48,97,98,116,9,110,118,102,114,101,32,34,47,92,78,95,76,80]:List UInt8)) (by rfl) j hj).symm) (by simp [ze,Vg.look,SV.mapH,muL])) ?_;rintro ⟨i,hi,hj⟩;simp only [↓XC,X1,reduceIte,Nat.reduceAdd,Nat.reduceLT,Nat.reduceEqDiff,Nat.reduceBEq,Nat.reduceLeDiff,reduceCtorEq,Nat.reduceSub,Nat.reduceMul,Int.reduceToNat,Int.reduceLT,Int.reduceLE,TES,kn,ziu,XR];have hA:∀ i,i<18→((([48,97,98,116,9,110,118,102,114,101,32,34,47,92,78,95,76,80]:List UInt8).getD i 0).toNat:Int)=(shL.getD i (0,0)).1:=by decide
 have hB:∀ i,i<18→(([0,7,8,9,9,10,11,12,13,27,32,34,47,92,133,160,8232,8233]:List Int).getD i 0)=(shL.getD i (0,0)).2∧0≤(shL.getD i (0,0)).2:=by decide
 have e2:((q:Nat)+2:Int).toNat=q+2:=by omega
 rw [e2];refine ⟨fun hil=>CO fun _=>CO fun _=>⟨fun he=>CO fun _=>CO fun _=>?_,fun he=>CR fun _=>⟨⟨i+1,by omega, ?_⟩,by simp only;omega,(Ent.ren1 [0] (by decide) (by simp only [Yd];exact za fun _=>rfl) (by simp [ze,Vg.look,SV.mapH,muL]))⟩⟩,fun hil=>?_⟩
 ·have hi18:i<18:=by omega
  rw [z1n (b:=[0,7,8,9,9,10,11,12,13,27,32,34,47,92,133,160,8232,8233]) (by rfl) hi18,(hB i hi18).1];simp only [↓XC,X1,reduceIte,Nat.reduceAdd,Nat.reduceLT,Nat.reduceEqDiff,Nat.reduceBEq,Nat.reduceLeDiff,reduceCtorEq,Nat.reduceSub,Nat.reduceMul,Int.reduceToNat,Int.reduceLT,Int.reduceLE,TES,kn,XR];rw [hA i hi18] at he;have hs:=shE_at hi18 he.symm hj;rw [zrf hb (by rw [hs];exact (hB i hi18).2),hs];exact CR fun _=>by simp
 ·intro j hjj;rcases Nat.lt_or_ge j i with h1 | h1
  ·exact hj j h1
  ·obtain rfl:j=i:=by omega
   rw [←hA j (by omega)];exact fun e=>he e.symm
 ·have hs:¬0≤shE (byt s (q+1)):=by rw [zuc];decide;intro p hp;obtain ⟨j,hj1,rfl⟩:=List.mem_iff_getElem.1 hp;have:=hj j (by have:shL.length=18:=rfl;omega);simpa [List.getD,hj1] using this
  have hN:hxN (byt s (q+1))=if byt s (q+1)=120 then 2 else if byt s (q+1)=117 then 4 else if byt s (q+1)=85 then 8 else 0:=rfl;have FIN:∀ n:Nat,hxN (byt s (q+1))=n→(rnB (hxV s (q+2) n 0)=[]→SV.tup [SV.s [],SV.i .i64 0]=SV.tup [SV.s (esA s q).1,SV.i .i64 ((esA s q).2:Nat)])∧(n≠0→¬rnB (hxV s (q+2) n 0)=[]→SV.tup [SV.s (rnB (hxV s (q+2) n 0)),SV.i .i64 ((q:Int)+2+n)]=SV.tup [SV.s (esA s q).1,SV.i .i64 ((esA s q).2:Nat)]):=by rintro n rfl;refine ⟨fun h1=>by rw [z19 hb hs (.inr h1)];rfl,fun h0 h1=>by rw [z2b hb hs (by rintro (h2 | h2);exact h0 h2;exact h1 h2)];simp⟩
  have W:∀ n:Nat,n≤8→n≠0→hxN (byt s (q+1))=n→((n:Int)=0→SV.tup [SV.s [],SV.i .i64 0]=SV.tup [SV.s (esA s q).1,SV.i .i64 ((esA s q).2:Nat)])∧(¬(n:Int)=0→Chk (inR IntKind.i64 ((q:Int)+2)) (Chk (s.length≤1048576∧0≤(q:Int)+2∧(q:Int)+2≤s.length+9) ((rnB (hxV s (q+2) n 0)=[]→SV.tup [SV.s [],SV.i .i64 0]=SV.tup [SV.s (esA s q).1,SV.i .i64 ((esA s q).2:Nat)])∧(¬rnB (hxV s (q+2) n 0)=[]→Chk (inR IntKind.i64 ((q:Int)+2)) (Chk (inR IntKind.i64 ((q:Int)+2+n)) (SV.tup [SV.s (rnB (hxV s (q+2) n 0)),SV.i .i64 ((q:Int)+2+n)]=SV.tup [SV.s (esA s q).1,SV.i .i64 ((esA s q).2:Nat)])))))):=by intro n h8 h0 hn;exact ⟨fun h=>absurd h (by omega),fun _=>CR fun _=>Chk.mk ⟨hp,by omega,by omega⟩ fun _=>⟨(FIN n hn).1,fun h=>CR fun _=>CR fun _=>(FIN n hn).2 h0 h⟩⟩
  refine ⟨fun h1=>W 2 (by omega) (by omega) (by rw [hN,if_pos h1]),fun h1=>⟨fun h2=>W 4 (by omega) (by omega) (by rw [hN,if_neg h1,if_pos h2]),fun h2=>⟨fun h3=>W 8 (by omega) (by omega) (by rw [hN,if_neg h1,if_neg h2,if_pos h3]),fun h3=>?_⟩⟩⟩;rw [z19 hb hs (.inl (by rw [hN,if_neg h1,if_neg h2,if_neg h3]))];rfl
noncomputable def zed:=qsi (fun s p=>s.length≤1048576) fun s p=>.tup [.s (esA s (spot s p)).1,.i .i64 ((esA s (spot s p)).2:Nat)]
theorem j2 {s} {p}:zed [.s s,.i .i64 p]=some (s.length≤1048576,.tup [.s (esA s (spot s p)).1,.i .i64 ((esA s (spot s p)).2:Nat)]):=y7
theorem zg7:PE1 Tryz.prog 328 zed:=y6 zyg
end Go.T
