/- Own text: part RAY. -/
import Derived.Test.YtgippllfnmdnpaaGreatDoorRBH
import Derived.Test.YtgippllfnmdnpaaGreatDoorRAW
set_option linter.unusedVariables false
set_option linter.unusedSimpArgs false
set_option linter.unusedSectionVars false
set_option linter.unnecessarySimpa false
namespace Go.T
variable [Go.Vg.Glob]
open Go.Proofs Go.Vg Go.RowKit Go.TT Go.Pl
set_option maxRecDepth 10000
set_option maxHeartbeats 4000000
theorem zpk (r:Int):PF Tryz.prog 271 [.i .i64 r] (.s (rnB r)):=by
 refine ⟨rfl,rfl,FnK.of (cf:=zk Tryz.prog te [(147,qj)] 13 0 false (fun _=>false) (kp [(0,[0]),(1,[0,9]),(2,[2]),(3,[2])]) [] []) (zf te_ok (l:=[(147,qj)]) (⟨w8,trivial⟩) zd) Tryz.func271 rfl rfl rfl (by simp [zk]) (by simp [zk]) (rs:=[.tmp 2]) rfl 100000 ?_⟩
 simp only [↓XC,XV,XT,Yg,seval,TES,q7]
 refine ⟨fun h=>?_,fun h=>?_⟩
 ·rw [zj3 (by simp only [Yi] at h;omega)]
 ·have hv:¬(r<0∨1114111<r∨(55296≤r∧r≤57343)):=by simp only [Yi] at h;omega
  exact Chk.mk (by simp only [inR];omega) fun _=>by rw [zxj hv]
noncomputable def j7:PE:=peR (fun (r:Int)=>[.i .i64 r]) (fun (r:Int)=>True) (fun (r:Int)=>.s (rnB r))
theorem zdv {r:Int}:j7 [.i .i64 r]=some (True,.s (rnB r)):=z6 (by rintro a b h;simp_all []) r
theorem zdu:PE1 Tryz.prog 271 j7:=yb (by rintro r hp;exact zpk r)
theorem zoq (b:Int) (hp : -1≤b∧b≤255):PF Tryz.prog 270 [.i .i64 b] (.i .i64 (shE b)):=by
 refine ⟨rfl,rfl,FnK.of (cf:=zk Tryz.prog te [] 42 0 false (fun _=>false) (kp [(0,[0]),(1,[0,3]),(2,[0,3,4]),(3,[2]),(4,[0,3,6]),(5,[0,3,6]),(6,[2]),(7,[0,3,12]),(8,[0,3,12]),(9,[2]),(10,[0,3,15]),(11,[2]),(12,[0,3,17]),(13,[0,3,17]),(14,[2]),(15,[0,3,24]),(16,[2]),(17,[0,3,26]),(18,[2]),(19,[0,3,28]),(20,[0,3,28]),(21,[0,3,28]),(22,[0,3,28]),(23,[2]),(24,[3,34]),(25,[2]),(26,[3,36]),(27,[2]),(28,[3,38]),(29,[2]),(30,[40]),(31,[2]),(32,[2])]) [] []) (zf te_ok (l:=[]) (trivial) zd) Tryz.func270 rfl rfl rfl (by simp [zk]) (by simp [zk]) (rs:=[.tmp 2]) rfl 100000 ?_⟩
 simp only [↓XC,XV,XT,Yg,seval,TES]
 repeat' (first | with_reducible refine Chk.mk ?_ fun _=>?_ | with_reducible refine And.intro ?_ ?_ | intro _)
 all_goals first
  | (simp only [inR];omega)
  | omega
  | (exfalso;omega)
  | (subst_vars;rfl)
  | (rw [zux (by omega)])
noncomputable def j5:PE:=peR (fun (b:Int)=>[.i .i64 b]) (fun (b:Int) => -1≤b∧b≤255) (fun (b:Int)=>.i .i64 (shE b))
theorem zdq {b:Int}:j5 [.i .i64 b]=some (-1≤b∧b≤255,.i .i64 (shE b)):=z6 (by rintro a b h;simp_all []) b
theorem zdp:PE1 Tryz.prog 270 j5:=yb (by rintro b hp;exact zoq b hp)
theorem hexValue (s:Bs) (p m:Int) (hp:s.length≤1048576∧0≤p∧p≤s.length+9∧0≤m∧m≤8):PF Tryz.prog 272 [.s s,.i .i64 p,.i .i64 m] (.tup [.i .i64 (if (hxV s p.toNat m.toNat 0)<0 then 0 else (hxV s p.toNat m.toNat 0)),.b (decide (0≤(hxV s p.toNat m.toNat 0)))]):=by
 refine ⟨rfl,rfl,FnK.of (cf:=zk Tryz.prog te [(107,zl),(147,qj)] 48 0 false (fun _=>false) (kp [(0,[0,1,2]),(1,[0,1,2,8]),(2,[0,1,8,11,12]),(3,[0,1,8,11,12,13]),(4,[0,1,8,9,11,12]),(5,[0,1,8,10,11,12]),(6,[6,7]),(7,[0,1,8,10,11,12,20]),(8,[0,1,8,11,12]),(9,[0,1,8,10,11,12,28]),(10,[0,1,8,11,12]),(11,[0,1,8,10,11,12,37]),(12,[0,1,8,11,12]),(13,[0,1,8,11,12]),(14,[6,7])]) [] []) (zf te_ok (l:=[(107,zl),(147,qj)]) (⟨zu,w8,trivial⟩) zd) Tryz.func272 rfl rfl rfl (by simp [zk]) (by simp [zk]) (rs:=[.tmp 6,.tmp 7]) rfl 100000 ?_⟩
 simp only [↓XC,XV,XT,Yg,seval,TES,zc,q7]
 refine yv.of (ι:={x:Nat×Nat // x.1≤m.toNat∧x.2<16 ^ x.1∧hxV s (p.toNat+x.1) (m.toNat-x.1) x.2=hxV s p.toNat m.toNat 0}) (fun x=>⟨[(0,.s s),(1,.i .i64 p),(8,.i .i64 (x.1.2:Nat)),(11,.i .i64 m),(12,.i .i64 (x.1.1:Nat))],[]⟩) (fun x=>m.toNat-x.1.1) ⟨(0,0),Nat.zero_le _,by decide,rfl⟩ (Ent.refl _ _) ?_
 rintro ⟨⟨i,a⟩,hi,ha,hv⟩
 simp only [↓XC,XV,XT,Yg,seval,TES,zc,q7]
 simp only at hi ha hv
 have h16:=hx16 (i:=i) (by omega)
 refine ⟨fun h=>Chk.mk (by simp only [inR];omega) fun _=>Chk.mk hp.1 fun _=>?_,fun h=>?_⟩
 ·have hb:byt s (spot s (p+(i:Nat)))=byt s (p.toNat+i):=by rw [jx (by omega)];congr 1;omega
  rw [hb]
  obtain ⟨b,hbe⟩:∃ b,byt s (p.toNat+i)=b:=⟨_,rfl⟩
  rw [hbe]
  refine ⟨fun h1=>?_,fun h1=>⟨fun h2=>?_,fun h2=>⟨fun h3=>?_,fun h3=>?_⟩⟩⟩
  ·simp only [Yi] at h1
   have hd:hxD b=b-48:=by first | exact hxD_1 (by omega) (by omega) | exact hxD_2 (by omega) (by omega) | exact hxD_3 (by omega) (by omega)
   have hs:=zkx (s:=s) (p:=p.toNat+i) (n:=m.toNat-(i+1)) (a:=a) (by rw [hbe,hd];omega)
   rw [show m.toNat-(i+1)+1=m.toNat-i by omega,hv,hbe,hd] at hs
   refine Chk.mk (by simp only [inR];omega) fun _=>Chk.mk (by simp only [inR];omega) fun _=>Chk.mk (by simp only [inR];omega) fun _=>Chk.mk (by simp only [inR];omega) fun _=>⟨⟨(i+1,(16 * (a:Int)+(b-48)).toNat),by simp only;omega,by simp only [Nat.pow_succ];omega,by simp only;rw [hs,←Nat.add_assoc];congr 1;omega⟩,by simp only;omega, ?_⟩
   rw [show ((16:Int) * a+b-48)=(((16 * (a:Int)+(b-48)).toNat:Nat):Int) by omega];exact (by first | exact Ent.refl _ _ | (simp only [Int.natCast_add,Int.natCast_one];exact Ent.refl _ _))
  ·simp only [Yi] at h2
   have hd:hxD b=b-97+10:=by first | exact hxD_1 (by omega) (by omega) | exact hxD_2 (by omega) (by omega) | exact hxD_3 (by omega) (by omega)
   have hs:=zkx (s:=s) (p:=p.toNat+i) (n:=m.toNat-(i+1)) (a:=a) (by rw [hbe,hd];omega)
   rw [show m.toNat-(i+1)+1=m.toNat-i by omega,hv,hbe,hd] at hs
   refine Chk.mk (by simp only [inR];omega) fun _=>Chk.mk (by simp only [inR];omega) fun _=>Chk.mk (by simp only [inR];omega) fun _=>Chk.mk (by simp only [inR];omega) fun _=>Chk.mk (by simp only [inR];omega) fun _=>⟨⟨(i+1,(16 * (a:Int)+(b-97+10)).toNat),by simp only;omega,by simp only [Nat.pow_succ];omega,by simp only;rw [hs,←Nat.add_assoc];congr 1;omega⟩,by simp only;omega, ?_⟩
   rw [show ((16:Int) * a+b-97+10)=(((16 * (a:Int)+(b-97+10)).toNat:Nat):Int) by omega];exact (by first | exact Ent.refl _ _ | (simp only [Int.natCast_add,Int.natCast_one];exact Ent.refl _ _))
  ·simp only [Yi] at h3
   have hd:hxD b=b-65+10:=by first | exact hxD_1 (by omega) (by omega) | exact hxD_2 (by omega) (by omega) | exact hxD_3 (by omega) (by omega)
   have hs:=zkx (s:=s) (p:=p.toNat+i) (n:=m.toNat-(i+1)) (a:=a) (by rw [hbe,hd];omega)
   rw [show m.toNat-(i+1)+1=m.toNat-i by omega,hv,hbe,hd] at hs
   refine Chk.mk (by simp only [inR];omega) fun _=>Chk.mk (by simp only [inR];omega) fun _=>Chk.mk (by simp only [inR];omega) fun _=>Chk.mk (by simp only [inR];omega) fun _=>Chk.mk (by simp only [inR];omega) fun _=>⟨⟨(i+1,(16 * (a:Int)+(b-65+10)).toNat),by simp only;omega,by simp only [Nat.pow_succ];omega,by simp only;rw [hs,←Nat.add_assoc];congr 1;omega⟩,by simp only;omega, ?_⟩
   rw [show ((16:Int) * a+b-65+10)=(((16 * (a:Int)+(b-65+10)).toNat:Nat):Int) by omega];exact (by first | exact Ent.refl _ _ | (simp only [Int.natCast_add,Int.natCast_one];exact Ent.refl _ _))
  ·simp only [Yi] at h1
   simp only [Yi] at h2
   simp only [Yi] at h3
   have hs:=hxV_neg (s:=s) (p:=p.toNat+i) (n:=m.toNat-(i+1)) (a:=a) (by rw [hbe,hxD_n (by omega) (by omega) (by omega)];decide)
   rw [show m.toNat-(i+1)+1=m.toNat-i by omega,hv] at hs
   rw [hs];rfl
 ·have hs:hxV s p.toNat m.toNat 0=a:=by rw [←hv,show m.toNat-i=0 by omega];rfl
  rw [hs,if_neg (by omega)]
  simp
noncomputable def uw:PE:=peR (fun (x:Bs×Int×Int)=>match x with | (s,p,m)=>[.s s,.i .i64 p,.i .i64 m]) (fun (x:Bs×Int×Int)=>match x with | (s,p,m)=>s.length≤1048576∧0≤p∧p≤s.length+9∧0≤m∧m≤8) (fun (x:Bs×Int×Int)=>match x with | (s,p,m)=>.tup [.i .i64 (if (hxV s p.toNat m.toNat 0)<0 then 0 else (hxV s p.toNat m.toNat 0)),.b (decide (0≤(hxV s p.toNat m.toNat 0)))])
theorem zg9 {s:Bs} {p m:Int}:uw [.s s,.i .i64 p,.i .i64 m]=some (s.length≤1048576∧0≤p∧p≤s.length+9∧0≤m∧m≤8,.tup [.i .i64 (if (hxV s p.toNat m.toNat 0)<0 then 0 else (hxV s p.toNat m.toNat 0)),.b (decide (0≤(hxV s p.toNat m.toNat 0)))]):=z6 (by rintro ⟨a0,a1,a2⟩ ⟨b0,b1,b2⟩ h;simp_all []) (s,p,m)
theorem zg8:PE1 Tryz.prog 272 uw:=yb (by rintro ⟨s,p,m⟩ hp;exact hexValue s p m hp)
theorem mp_hx (b:Int):(lookS (x9 (x9 (x9 [] (120:Int) 2) 117 4) 85 8) b).getD 0=(hxN b:Int):=by
 unfold hxN
 by_cases h1:b=120
 ·subst h1;rfl
 by_cases h2:b=117
 ·subst h2;rfl
 by_cases h3:b=85
 ·subst h3;rfl
 rw [if_neg h1,if_neg h2,if_neg h3]
 have e1:¬(120:Int)=b:=fun e=>h1 e.symm
 have e2:¬(117:Int)=b:=fun e=>h2 e.symm
 have e3:¬(85:Int)=b:=fun e=>h3 e.symm
 simp [x9,lookS,e1,e2,e3]
theorem zt5 (s:Bs) (p:Int) (hp:s.length≤1048576):PF Tryz.prog 241 [.s s,.i .i64 p] (.tup [.s (esA s (spot s p)).1,.i .i64 ((esA s (spot s p)).2:Nat)]):=by
 refine ⟨rfl,rfl,FnK.of (cf:=zk Tryz.prog te [(100,zr),(107,zl),(270,j5),(271,j7),(272,uw)] 67 0 false (fun _=>false) (kp [(0,[0,1]),(1,[0,1]),(2,[0,1,25]),(3,[4,5]),(4,[0,1,6]),(5,[0,1,6,7]),(6,[0,1,6,7,33]),(7,[4,5]),(8,[0,1,8]),(9,[1,8,9,10]),(10,[1,8,10,11]),(11,[1,8,11,61]),(12,[4,5]),(13,[4,5])]) [] []) (zf te_ok (l:=[(100,zr),(107,zl),(270,j5),(271,j7),(272,uw)]) (⟨yc,zu,zdp,zdu,zg8,trivial⟩) zd) Tryz.func241 rfl rfl rfl (by simp [zk]) (by simp [zk]) (rs:=[.tmp 4,.tmp 5]) rfl 100000 ?_⟩
 simp only [↓XC,XV,XT,Yg,seval,TES,yd,zc,zdq,zdv,zg9]
 have h0:=ql s p
 rw [zq s h0]
 have e0:((spot s p:Nat)+1:Int).toNat=spot s p+1:=by omega
 have e1:byt s (spot s ((spot s p:Nat)+1:Int))=byt s (spot s p+1):=by rw [jx (by omega),e0]
 have e2:((spot s p:Nat)+2:Int).toNat=spot s p+2:=by omega
 rw [e1,e2]
 simp only [mp_hx,Int.toNat_natCast]
 generalize spot s p=q at *
 have hr:=za7 s (q+1)
 have hn:=hxN_le (byt s (q+1))
 refine Chk.mk hp fun _=>Chk.mk (fun _=>by simp only [inR];omega) fun _=>⟨fun h=>?_,fun h=>Chk.mk (by simp only [inR];omega) fun _=>Chk.mk hp fun _=>Chk.mk hr fun _=>?_⟩
 ·rw [esA_bad (by simp only [Yi] at h;omega)];rfl
 have hb:byt s q=92∧q+1<s.length:=by simp only [Yi] at h;omega
 refine ⟨fun h1=>Chk.mk (by simp only [inR];omega) fun _=>?_,fun h1=>Chk.mk (by simp only [inR];omega) fun _=>Chk.mk ⟨hp,by omega,by omega,by omega,by omega⟩ fun _=>⟨fun h2=>?_,fun h2=>Chk.mk (by simp only [inR];omega) fun _=>Chk.mk (by simp only [inR];omega) fun _=>?_⟩⟩
 ·rw [zxh hb h1];simp
 ·rw [esA_no hb h1];rfl
  simp only [Yi] at h2
  rcases h2 with (h2 | h2) | h2
  ·exact .inl (by omega)
  ·exact .inr (zj3 (.inl h2))
  ·right
   by_cases h3:hxV s (q+2) (hxN (byt s (q+1))) 0<0
   ·exact zj3 (.inl h3)
   ·rw [if_neg h3] at h2;exact h2
 ·simp only [Yi] at h2
  rw [if_neg (by omega)] at h2 ⊢
  rw [esA_hex hb h1 (by rintro (h3 | h3);exact h2.1.1 (by omega);exact h2.2 h3)]
  simp
noncomputable def vq:PE:=peR (fun (x:Bs×Int)=>match x with | (s,p)=>[.s s,.i .i64 p]) (fun (x:Bs×Int)=>match x with | (s,p)=>s.length≤1048576) (fun (x:Bs×Int)=>match x with | (s,p)=>.tup [.s (esA s (spot s p)).1,.i .i64 ((esA s (spot s p)).2:Nat)])
theorem zai {s:Bs} {p:Int}:vq [.s s,.i .i64 p]=some (s.length≤1048576,.tup [.s (esA s (spot s p)).1,.i .i64 ((esA s (spot s p)).2:Nat)]):=z6 (by rintro ⟨a0,a1⟩ ⟨b0,b1⟩ h;simp_all []) (s,p)
theorem zev:PE1 Tryz.prog 241 vq:=yb (by rintro ⟨s,p⟩ hp;exact zt5 s p hp)
end Go.T
