/- Own text: part UBC. -/
import Derived.Test.YtgippllfnmdnpaaGreatDoorUAT
import Derived.Test.YtgippllfnmdnpaaGreatDoorUAY
import Derived.Test.YtgippllfnmdnpaaGreatDoorUAZ
import Derived.Test.YtgippllfnmdnpaaGreatDoorUAW
import Derived.Test.YtgippllfnmdnpaaGreatDoorUAR
import Derived.Test.YtgippllfnmdnpaaGreatDoorUBA
set_option linter.all false
section
namespace Go.T
variable [Go.Vg.Glob]
open Go.Proofs Go.Vg Go.RowKit Go.TT Go.Pl
set_option maxRecDepth 10000
set_option maxHeartbeats 4000000
theorem zf2 (s:Bs) (p:Int) (hp:s.length≤1048576):FnK Tryz.prog 249 0 [.s s,.i .i64 p] [] (fun z c=>z=.tup [.slc 0 0 (zcg s (en s (spot s p)) (spot s p)).length,.i .i64 (en s (spot s p):Nat)]∧c=[some (.row false 1 (zcg s (en s (spot s p)) (spot s p)).length (zu j4 [] (zcg s (en s (spot s p)) (spot s p))))]):=by
 refine HE (yd.c (jt.c (qv.c kh.d))) 45 [[0,1],[0,1],[0,1,6],[0,1,6,7],[0,1,6,7],[0,1,6,7,27],[4,5],[0,1,6,7,8],[0,1,6,7,8,34],[0,1,6,7,8],[0,6,7,8],[0,1,6,7]] Tryz.func249 [.tmp 4,.tmp 5] ?_;simp only [↓XC,X1,seval,TES,ye,qn,zz,zr];refine Chk.mk hp fun _=>?_;rw [zg s (yh s p)];have hi0:=yh s p;generalize spot s p=i0 at *;have he:=uo s i0 hi0;refine zl.of (ι:={x:Nat×List Bs // i0≤x.1∧x.1≤s.length∧x.2.length≤x.1∧x.2++zcg s (en s i0) x.1=zcg s (en s i0) i0}) (fun x=>⟨[(0,.s s),(1,.i .i64 (x.1.1:Nat)),(6,.i .i64 (en s i0:Nat)),(7,.slc 0 0 x.1.2.length)],[some (.row false 1 x.1.2.length (zu j4 [] x.1.2))]⟩) (fun x=>s.length-x.1.1) ⟨(i0,[]),Nat.le_refl _,hi0,Nat.zero_le _,rfl⟩ (Ent.ren1 [0] (by decide) (by simp only [Yd];exact yi fun i hi=>by simp at hi) (by simp [ze,Vg.look,SV.mapH,muL])) ?_;rintro ⟨⟨q0,out⟩,hq0,hq,hol,hd⟩;simp only [↓XC,X1,seval,TES,zz,zr];simp only at hq0 hq hol hd;rw [zg s hq];have hw1:=jh s q0;have hw2:=jg s q0 hq;have hdd:zcg s (en s i0) q0=if wh s q0<en s i0∧byt s (wh s q0)≠35∧gap s (wh s q0)=false then sub s (wh s q0) (gp s (wh s q0))::zcg s (en s i0) (gp s (wh s q0)) else []:=by rw [zcg];simp only [dite_eq_ite]
 refine Chk.mk hp fun _=>Chk.mk (fun h=>?_) fun _=>⟨fun h=>?_,fun h=>?_⟩
 ·simp only [Yi] at h;omega
 ·have hx:zcg s (en s i0) q0=[]:=by rw [hdd,if_neg];rintro ⟨h1,h2,_⟩;rw [zw (by omega)] at h2;simp only [Yi] at h;omega
  rw [hx,List.append_nil] at hd;subst hd;exact ⟨[0],by decide,by simp only [Yd];exact za fun _=>rfl,by simp only [↓XC,X1,seval];try simp [Yf],by simp [z6,SO.ro,YC],by simp⟩
 have hlt:wh s q0<en s i0∧byt s (wh s q0)≠35:=by simp only [Yi] at h;exact ⟨by omega,by rw [zw (by omega)];omega⟩
 have hg:gap s (wh s q0)=false:=by unfold gap;rw [zyn,en_lt (by omega) hlt.1];rfl
 rw [if_pos ⟨hlt.1,hlt.2,hg⟩] at hdd;refine zl.of (ι:={x:Nat // wh s q0≤x∧x≤s.length∧gp s x=gp s (wh s q0)}) (fun x=>⟨[(0,.s s),(1,.i .i64 (wh s q0:Nat)),(6,.i .i64 (en s i0:Nat)),(7,.slc 0 0 out.length),(8,.i .i64 (x.1:Nat))],[some (.row false 1 out.length (zu j4 [] out))]⟩) (fun x=>s.length-x.1) ⟨wh s q0,Nat.le_refl _,hw2,rfl⟩ (Ent.refl _ _) ?_;rintro ⟨q,h1,h2,h3⟩;simp only [↓XC,X1,seval,TES,zr];refine Chk.mk ⟨hp,by omega⟩ fun _=>⟨fun hg1=>CR fun _=>?_,fun hg1=>CO fun _=>⟨z2 rfl rfl,CO fun _=>?_⟩⟩
 ·have hg2:gap s q=false:=by simpa using hg1
  have:=wk hg2;exact ⟨⟨q+1,by omega,by omega,by rw [←gp_t hg2];exact h3⟩,by simp only;omega,(by first | exact Ent.refl _ _ | (simp only [Int.natCast_add,Int.natCast_one];exact Ent.refl _ _))⟩
 ·have hg2:gap s q=true:=by simpa using hg1
  rw [gp_f hg2] at h3;have hq1:wh s q0≠q:=by intro e;rw [e] at hg;rw [hg] at hg2;cases hg2
  refine ⟨⟨(q,out++[sub s (wh s q0) q]),by simp only;omega,h2,by simp only [List.length_append,List.length_singleton];omega, ?_⟩,by simp only;omega,(Ent.ren1 [2] (by decide) (by simp only [Yd];exact qq (y:=sub s (wh s q0) q) (fun _=>rfl) rfl (fun _ _=>rfl) rfl) (by simp [ze,Vg.look,SV.mapH,muL]))⟩;simp only;rw [List.append_assoc,←hd,hdd,←h3];rfl
theorem zol (s:Bs) (p:Int) (hp:s.length≤1048576):PF Tryz.prog 249 [.s s,.i .i64 p] (.tup [.fs 1 ((zcg s (en s (spot s p)) (spot s p)).map j4),.i .i64 (en s (spot s p):Nat)]):=PF.ofOwn (zf2 s p hp) rfl rfl (by simp only [vz,jx,zcj,vn,zq,and_true];exact ⟨⟨by omega,fun j hj=>⟨rfl,rfl⟩⟩,by rw [yf rfl]⟩)
noncomputable def zba:=qsi (fun s p=>s.length≤1048576) fun s p=>.tup [.fs 1 ((zcg s (en s (spot s p)) (spot s p)).map j4),.i .i64 (en s (spot s p):Nat)]
theorem zn {s} {p}:zba [.s s,.i .i64 p]=some (s.length≤1048576,.tup [.fs 1 ((zcg s (en s (spot s p)) (spot s p)).map j4),.i .i64 (en s (spot s p):Nat)]):=y7
theorem zdd:PE1 Tryz.prog 249 zba:=y6 zol
theorem zf1 (s:Bs) (p:Int) (hp:s.length≤1048576):FnK Tryz.prog 224 0 [.s s,.i .i64 p] [] (fun z c=>z=.tup [.slc 0 0 (zcg s (en s (spot s p)) (spot s p)).length,.i .i64 (en s (spot s p):Nat)]∧c=[some (.row false 1 (zcg s (en s (spot s p)) (spot s p)).length (zu j4 [] (zcg s (en s (spot s p)) (spot s p))))]):=by
 refine HE (yl.c (kc.c (qi.c km.d))) 45 [[0,1],[0,1],[0,1,6],[0,1,6,7],[0,1,6,7],[0,1,6,7,27],[4,5],[0,1,6,7,8],[0,1,6,7,8,34],[0,1,6,7,8],[0,6,7,8],[0,1,6,7]] Tryz.func224 [.tmp 4,.tmp 5] ?_;simp only [↓XC,X1,seval,TES,yn,yw,zj,z8];refine Chk.mk hp fun _=>?_;rw [zg s (yh s p)];have hi0:=yh s p;generalize spot s p=i0 at *;have he:=uo s i0 hi0;refine zl.of (ι:={x:Nat×List Bs // i0≤x.1∧x.1≤s.length∧x.2.length≤x.1∧x.2++zcg s (en s i0) x.1=zcg s (en s i0) i0}) (fun x=>⟨[(0,.s s),(1,.i .i64 (x.1.1:Nat)),(6,.i .i64 (en s i0:Nat)),(7,.slc 0 0 x.1.2.length)],[some (.row false 1 x.1.2.length (zu j4 [] x.1.2))]⟩) (fun x=>s.length-x.1.1) ⟨(i0,[]),Nat.le_refl _,hi0,Nat.zero_le _,rfl⟩ (Ent.ren1 [0] (by decide) (by simp only [Yd];exact yi fun i hi=>by simp at hi) (by simp [ze,Vg.look,SV.mapH,muL])) ?_;rintro ⟨⟨q0,out⟩,hq0,hq,hol,hd⟩;simp only [↓XC,X1,seval,TES,zj,z8];simp only at hq0 hq hol hd;rw [zg s hq];have hw1:=jh s q0;have hw2:=jg s q0 hq;have hdd:zcg s (en s i0) q0=if wh s q0<en s i0∧byt s (wh s q0)≠35∧gap s (wh s q0)=false then sub s (wh s q0) (gp s (wh s q0))::zcg s (en s i0) (gp s (wh s q0)) else []:=by rw [zcg];simp only [dite_eq_ite]
 refine Chk.mk hp fun _=>Chk.mk (fun h=>?_) fun _=>⟨fun h=>?_,fun h=>?_⟩
 ·simp only [Yi] at h;omega
 ·have hx:zcg s (en s i0) q0=[]:=by rw [hdd,if_neg];rintro ⟨h1,h2,_⟩;rw [zw (by omega)] at h2;simp only [Yi] at h;omega
  rw [hx,List.append_nil] at hd;subst hd;exact ⟨[0],by decide,by simp only [Yd];exact za fun _=>rfl,by simp only [↓XC,X1,seval];try simp [Yf],by simp [z6,SO.ro,YC],by simp⟩
 have hlt:wh s q0<en s i0∧byt s (wh s q0)≠35:=by simp only [Yi] at h;exact ⟨by omega,by rw [zw (by omega)];omega⟩
 have hg:gap s (wh s q0)=false:=by unfold gap;rw [zyn,en_lt (by omega) hlt.1];rfl
 rw [if_pos ⟨hlt.1,hlt.2,hg⟩] at hdd;refine zl.of (ι:={x:Nat // wh s q0≤x∧x≤s.length∧gp s x=gp s (wh s q0)}) (fun x=>⟨[(0,.s s),(1,.i .i64 (wh s q0:Nat)),(6,.i .i64 (en s i0:Nat)),(7,.slc 0 0 out.length),(8,.i .i64 (x.1:Nat))],[some (.row false 1 out.length (zu j4 [] out))]⟩) (fun x=>s.length-x.1) ⟨wh s q0,Nat.le_refl _,hw2,rfl⟩ (Ent.refl _ _) ?_;rintro ⟨q,h1,h2,h3⟩;simp only [↓XC,X1,seval,TES,z8];refine Chk.mk ⟨hp,by omega⟩ fun _=>⟨fun hg1=>CR fun _=>?_,fun hg1=>CO fun _=>⟨z2 rfl rfl,CO fun _=>?_⟩⟩
 ·have hg2:gap s q=false:=by simpa using hg1
  have:=wk hg2;exact ⟨⟨q+1,by omega,by omega,by rw [←gp_t hg2];exact h3⟩,by simp only;omega,(by first | exact Ent.refl _ _ | (simp only [Int.natCast_add,Int.natCast_one];exact Ent.refl _ _))⟩
 ·have hg2:gap s q=true:=by simpa using hg1
  rw [gp_f hg2] at h3;have hq1:wh s q0≠q:=by intro e;rw [e] at hg;rw [hg] at hg2;cases hg2
  refine ⟨⟨(q,out++[sub s (wh s q0) q]),by simp only;omega,h2,by simp only [List.length_append,List.length_singleton];omega, ?_⟩,by simp only;omega,(Ent.ren1 [2] (by decide) (by simp only [Yd];exact qq (y:=sub s (wh s q0) q) (fun _=>rfl) rfl (fun _ _=>rfl) rfl) (by simp [ze,Vg.look,SV.mapH,muL]))⟩;simp only;rw [List.append_assoc,←hd,hdd,←h3];rfl
theorem zok (s:Bs) (p:Int) (hp:s.length≤1048576):PF Tryz.prog 224 [.s s,.i .i64 p] (.tup [.fs 1 ((zcg s (en s (spot s p)) (spot s p)).map j4),.i .i64 (en s (spot s p):Nat)]):=PF.ofOwn (zf1 s p hp) rfl rfl (by simp only [vz,jx,zcj,vn,zq,and_true];exact ⟨⟨by omega,fun j hj=>⟨rfl,rfl⟩⟩,by rw [yf rfl]⟩)
noncomputable def za9:=qsi (fun s p=>s.length≤1048576) fun s p=>.tup [.fs 1 ((zcg s (en s (spot s p)) (spot s p)).map j4),.i .i64 (en s (spot s p):Nat)]
theorem zdc {s} {p}:za9 [.s s,.i .i64 p]=some (s.length≤1048576,.tup [.fs 1 ((zcg s (en s (spot s p)) (spot s p)).map j4),.i .i64 (en s (spot s p):Nat)]):=y7
theorem zdb:PE1 Tryz.prog 224 za9:=y6 zok
end Go.T
end
section
namespace Go.T
variable [Go.Vg.Glob] [Go.Vg.GlobTabs 0 1]
open Go.Proofs Go.Vg Go.RowKit Go.TT Go.Pl Go.TSh
set_option maxRecDepth 10000
set_option maxHeartbeats 4000000
theorem keyEnd (s:Bs) (p:Int) (hp:s.length≤1048576∧0≤p∧p≤s.length):PF Tryz.prog 105 [.s s,.i .i64 p] (.tup [.i .i64 (keE s p.toNat).1,.b (keE s p.toNat).2]):=by
 refine HP (zt.c (uy.c (vj.c (za0.c (za7.c (zxi.c (ka.c xg.d))))))) 70 [[0,1],[0,1,6],[0,1,6,17],[8,9],[4,5],[0,1,6,29],[0,1,6,11,12],[0,1,11,12,40],[0,1,11,12],[4,5],[0,1,59],[1,13],[4,5],[4,5]] Tryz.func105 [.tmp 4,.tmp 5] ?_;simp only [↓XC,X1,seval,TES,zc,uz,ya,za1,za8,zxj,zk,w8];obtain ⟨q,rfl⟩:∃ q:Nat,p=q:=⟨p.toNat,by omega⟩
 have hq:q≤s.length:=by omega
 have h2:=zhx hq;have h3:=zjp hq;have hp0:=hp.1;rw [zg s hq,Int.toNat_natCast];have hm:∀ e:Nat,q≤e→e≤s.length→decide ((10:UInt8)∈List.drop q (List.take e s))=!oneL s q e:=fun e h1 h2=>mem_sub h1 h2;refine Chk.mk hp0 fun _=>⟨fun h42=>Chk.mk hp0 fun _=>?_,fun h42=>⟨fun hQ=>Chk.mk hp0 fun _=>⟨fun h34=>Chk.mk hp0 fun _=>Chk.mk (fun h=>by omega) fun _=>?_,fun h34=>Chk.mk (fun h=>by omega) fun _=>?_⟩,fun hQ=>Chk.mk hp0 fun _=>⟨fun hf=>Chk.mk hp0 fun _=>?_,fun hf=>?_⟩⟩⟩
 ·unfold keE;rw [if_pos h42]
 ·unfold keE;rw [if_neg h42,if_neg (by omega),if_pos h34,hm _ h3.1 h3.2.1,Bool.not_not]
 ·have h39:byt s q=39:=by simpa [h34] using hQ
  unfold keE;rw [if_neg h42,if_pos h39,hm _ h2.1 h2.2.1,Bool.not_not]
 ·have h39:¬byt s q=39∧¬byt s q=34:=by simpa using hQ
  unfold keE;rw [if_neg h42,if_neg h39.1,if_neg h39.2,if_pos hf];simp only [gt_iff_lt,Int.ofNat_lt]
 ·have h39:¬byt s q=39∧¬byt s q=34:=by simpa using hQ
  unfold keE;rw [if_neg h42,if_neg h39.1,if_neg h39.2,if_neg (by rw [hf];simp)]
noncomputable def zpv:=qsi (fun s p=>s.length≤1048576∧0≤p∧p≤s.length) fun s p=>.tup [.i .i64 (keE s p.toNat).1,.b (keE s p.toNat).2]
theorem zpu {s} {p}:zpv [.s s,.i .i64 p]=some (s.length≤1048576∧0≤p∧p≤s.length,.tup [.i .i64 (keE s p.toNat).1,.b (keE s p.toNat).2]):=y7
theorem zpt:PE1 Tryz.prog 105 zpv:=y6 keyEnd
theorem KeyAt_i (s:Bs) (p:Int) (hp:s.length≤1048576):PF Tryz.prog 32 [.s s,.i .i64 p] (.tup [.i .i64 (kyA s (spot s p)).1,.i .i64 (kyA s (spot s p)).2.1,.b (kyA s (spot s p)).2.2]):=by
 refine HP (yd.c (zpt.c (qv.c (zt.c kh.d)))) 43 [[0,1],[0,1],[0,1,7,8],[0,7,26],[4,5,6],[0,7,9],[7,9,40],[4,5,6],[4,5,6]] Tryz.func32 [.tmp 4,.tmp 5,.tmp 6] ?_;simp only [↓XC,X1,seval,TES,ye,zpu,zz,zc,zr];have h0:=yh s p;generalize spot s p=q at *;have h1:=zja h0;obtain ⟨e,he⟩:∃ e:Nat,(keE s q).1=e:=⟨(keE s q).1.toNat,by omega⟩
 rw [he] at h1 ⊢;have hel:e≤s.length:=by omega
 rw [zg s hel];have hwl:=jg s e hel;rw [zg s hwl];have e1:((wh s e:Nat)+1:Int).toNat=wh s e+1:=by omega
 rw [e1];have hN:(keE s q).1.toNat=e:=by omega
 refine Chk.mk ⟨hp,by omega,by omega⟩ fun _=>Chk.mk (fun _=>by simp only [inR];omega) fun _=>⟨fun h=>?_,fun h=>Chk.mk hp fun _=>Chk.mk hp fun _=>Chk.mk (fun _=>by simp only [inR];omega) fun _=>Chk.mk (fun h=>⟨⟨h,h⟩,hp,by omega⟩) fun _=>⟨fun h4=>?_,fun h4=>?_⟩⟩
 ·rw [z1r];rintro ⟨h2,h3,_⟩;rw [he] at h3;rw [h2,decide_eq_false (by omega)] at h;cases h
 ·rw [z1r];rintro ⟨_,_,h2,h3⟩;rw [hN] at h2 h3;rw [h2,h3] at h4;simp at h4
 ·have h5:(keE s q).2=true∧¬(e:Int)-q>1000:=by simpa using h
  have h6:byt s (wh s e)=58∧gap s (wh s e+1)=true:=by simpa using h4
  rw [kyA_t ⟨h5.1,by rw [he];omega,by rw [hN];exact h6.1,by rw [hN];exact h6.2⟩,he,Int.toNat_natCast]
noncomputable def zlw:=qsi (fun s p=>s.length≤1048576) fun s p=>.tup [.i .i64 (kyA s (spot s p)).1,.i .i64 (kyA s (spot s p)).2.1,.b (kyA s (spot s p)).2.2]
theorem y8 {s} {p}:zlw [.s s,.i .i64 p]=some (s.length≤1048576,.tup [.i .i64 (kyA s (spot s p)).1,.i .i64 (kyA s (spot s p)).2.1,.b (kyA s (spot s p)).2.2]):=y7
theorem zam:PE1 Tryz.prog 32 zlw:=y6 KeyAt_i
theorem z3k (s:Bs) (p e:Int) (hp:s.length≤1048576):PF Tryz.prog 292 [.s s,.i .i64 p,.i .i64 e] (.b (decide (e≤en s (spot s p)))):=by refine HP kc.d 12 [[0,1,2],[6]] Tryz.func292 [.tmp 6] ?_;simp only [↓XC,X1,seval,TES,yw];exact Chk.mk hp fun _=>trivial
noncomputable def zgl:PE:=peR (fun (x:Bs×Int×Int)=>match x with | (s,p,e)=>[.s s,.i .i64 p,.i .i64 e]) (fun (x:Bs×Int×Int)=>match x with | (s,p,e)=>s.length≤1048576) (fun (x:Bs×Int×Int)=>match x with | (s,p,e)=>.b (decide (e≤en s (spot s p))))
theorem ud {s:Bs} {p e:Int}:zgl [.s s,.i .i64 p,.i .i64 e]=some (s.length≤1048576,.b (decide (e≤en s (spot s p)))):=yg (by rintro ⟨a0,a1,a2⟩ ⟨b0,b1,b2⟩ h;simp_all []) (s,p,e)
theorem zil:PE1 Tryz.prog 292 zgl:=yo (by rintro ⟨s,p,e⟩ hp;exact z3k s p e hp)
theorem KeyAt_s (s:Bs) (p:Int) (hp:s.length≤1048576):PF Tryz.prog 258 [.s s,.i .i64 p] (.tup [.i .i64 (kyA s (spot s p)).1,.i .i64 (kyA s (spot s p)).2.1,.b (kyA s (spot s p)).2.2]):=by
 refine HPx (yl.c (ux.c (zaz.c (zil.c (za6.c (vl.c (za2.c (qi.c km.d)))))))) 122 [[0,1],[0,1],[0,1,24],[4,5,6],[0,1,7],[0,1,7,26],[0,1,7,9,10],[0,1,7,9,38],[0,1,7],[0,1,7,40],[0,1,7,12,13],[0,1,7,12,59],[0,1,7],[0,1,7,61],[0,1,7,15,16],[0,1,7,15,80],[0,1,7],[0,1,7,82],[0,1,7],[0,1,7,17],[7,17,119],[4,5,6],[4,5,6]] Tryz.func258 [.tmp 4,.tmp 5,.tmp 6] (fun _=>false) [19] [] ?_;simp only [↓XC,X1,seval,TES,yn,yz,j1,ud,jc,wj,w7,zj,z8,zp];have h0:=yh s p;have h1:=zja h0;have hsp:=zg s h0;generalize spot s p=q at *;refine ⟨fun h=>?_,fun h=>zav.of (ι:=Unit) (fun _=>⟨[(0,.s s),(1,.i .i64 (q:Nat)),(7,.i .i64 (if (keE s q).2=true then (keE s q).1 else (q:Int)))],[]⟩) ?_ (fun _=>?_)⟩
 ·rw [z1r];have hq:s.length≤q:=by omega
  rintro ⟨h2,_⟩;unfold keE at h2;rw [qk hq,if_neg (by omega),if_neg (by omega),if_neg (by omega),if_neg (by rw [zse (gap_end hq)];simp)] at h2;cases h2
 ·have hq:q<s.length:=by omega
  have hbt:=zw hq;simp only [↓XC,X1,seval,TES,yz,j1,jc,wj,w7,ud,zj,z8,zp];rw [hsp,←hbt];refine CO fun _=>⟨fun h42=>Chk.mk hp fun _=>?_,fun h42=>CO fun _=>⟨fun h39=>Chk.mk hp fun _=>Chk.mk (fun h=>⟨⟨h,h,h⟩,hp⟩) fun _=>?_,fun h39=>CO fun _=>⟨fun h34=>Chk.mk hp fun _=>Chk.mk (fun h=>⟨⟨h,h,h⟩,hp⟩) fun _=>?_,fun h34=>Chk.mk hp fun _=>⟨fun hf=>Chk.mk hp fun _=>?_,fun hf=>?_⟩⟩⟩⟩
  ·have hK:(if (keE s q).2=true then (keE s q).1 else (q:Int))=if (nmA s q).2.2=true then (nmA s q).2.1 else (q:Int):=by unfold keE;rw [if_pos h42]
   rw [hK];refine ⟨fun h=>?_,fun h=>?_⟩
   ·rw [if_pos h];exact ⟨(),(by (try simp only [Int.natCast_add,Int.natCast_one]);exact Ent.nil (by simp [ze,Vg.look,SV.mapH]))⟩
   ·rw [if_neg (by rw [h];simp)];exact ⟨(),(by (try simp only [Int.natCast_add,Int.natCast_one]);exact Ent.nil (by simp [ze,Vg.look,SV.mapH]))⟩
  ·have hK:(if (keE s q).2=true then (keE s q).1 else (q:Int))=if (decide ((sgA s q).2.2=0)&&decide (((sgA s q).2.1:Int)≤(en s q:Int)))=true then ((sgA s q).2.1:Int) else (q:Int):=by unfold keE oneL;rw [if_neg h42,if_pos h39];simp only [Int.ofNat_le]
   rw [hK];refine ⟨fun h=>?_,fun h=>?_⟩
   ·rw [if_pos h];exact ⟨(),(by (try simp only [Int.natCast_add,Int.natCast_one]);exact Ent.nil (by simp [ze,Vg.look,SV.mapH]))⟩
   ·rw [if_neg (by rw [h];simp)];exact ⟨(),(by (try simp only [Int.natCast_add,Int.natCast_one]);exact Ent.nil (by simp [ze,Vg.look,SV.mapH]))⟩
  ·have hK:(if (keE s q).2=true then (keE s q).1 else (q:Int))=if (decide ((dbA s q).2.2=0)&&decide (((dbA s q).2.1:Int)≤(en s q:Int)))=true then ((dbA s q).2.1:Int) else (q:Int):=by unfold keE oneL;rw [if_neg h42,if_neg h39,if_pos h34];simp only [Int.ofNat_le]
   rw [hK];refine ⟨fun h=>?_,fun h=>?_⟩
   ·rw [if_pos h];exact ⟨(),(by (try simp only [Int.natCast_add,Int.natCast_one]);exact Ent.nil (by simp [ze,Vg.look,SV.mapH]))⟩
   ·rw [if_neg (by rw [h];simp)];exact ⟨(),(by (try simp only [Int.natCast_add,Int.natCast_one]);exact Ent.nil (by simp [ze,Vg.look,SV.mapH]))⟩
  ·have hK:(if (keE s q).2=true then (keE s q).1 else (q:Int))=(plE s q false:Int):=by have hg:=zuz s q false;unfold keE;rw [if_neg h42,if_neg h39,if_neg h34,if_pos hf];simp only [decide_eq_true_eq];split<;>omega
   rw [hK];exact ⟨(),(by (try simp only [Int.natCast_add,Int.natCast_one]);exact Ent.nil (by simp [ze,Vg.look,SV.mapH]))⟩
  ·have hK:(if (keE s q).2=true then (keE s q).1 else (q:Int))=(q:Int):=by unfold keE;rw [if_neg h42,if_neg h39,if_neg h34,if_neg (by rw [hf];simp)];try rfl
   rw [hK];exact ⟨(),(by (try simp only [Int.natCast_add,Int.natCast_one]);exact Ent.nil (by simp [ze,Vg.look,SV.mapH]))⟩
 ·have hq:q<s.length:=by omega
  simp only [↓XC,X1,seval,TES,yz,j1,jc,wj,w7,ud,zj,z8,zp];obtain ⟨e,he⟩:∃ e:Nat,(if (keE s q).2=true then (keE s q).1 else (q:Int))=e:=⟨(if (keE s q).2=true then (keE s q).1 else (q:Int)).toNat,by split<;>omega⟩
  have hel:e≤s.length:=by split at he<;>omega
  have heq:(decide ((e:Int)=(q:Int)))=!(keE s q).2:=by
   cases hk:(keE s q).2
   ·rw [hk] at he;simp at he;simp [he]
   ·rw [hk] at he;simp at he;have:=h1.2.2 hk;simp;omega
  have hN:(keE s q).2=true→(keE s q).1=e:=fun hk=>by rw [if_pos hk] at he;exact he
  rw [he,zg s hel];have hwl:=jg s e hel;have e1:((wh s e:Nat)+1:Int).toNat=wh s e+1:=by omega
  rw [e1,heq];refine Chk.mk hp fun _=>Chk.mk (fun _=>by simp only [inR];omega) fun _=>Chk.mk (fun h=>by simp only [Yi] at h;omega) fun _=>Chk.mk (fun _=>by simp only [inR];omega) fun _=>Chk.mk (fun h=>⟨⟨h,h⟩,hp,by omega⟩) fun _=>⟨fun h=>?_,fun h=>?_⟩
  ·rw [z1r];rintro ⟨k1,k2,k3,k4⟩;have hE:=hN k1;rw [hE] at k2 k3 k4;rw [Int.toNat_natCast] at k3 k4;have hl2:wh s e<s.length:=by
    rcases Nat.lt_or_ge (wh s e) s.length with h3 | h3
    ·exact h3
    ·rw [qk h3] at k3;omega
   rw [zw hl2] at k3;rw [k1,k3,k4,decide_eq_false (show ¬((e:Int)-q>1000) by omega),decide_eq_false (show ¬((wh s e:Int)≥s.length) by omega)] at h;simp at h
  ·simp only [Yi] at h;have hE:=hN (by have:=h.1.1.1.1;simpa using this);have hl2:wh s e<s.length:=by omega
   rw [kyA_t ⟨by have:=h.1.1.1.1;simpa using this,by rw [hE];omega,by rw [hE,Int.toNat_natCast,zw hl2];exact h.1.2,by rw [hE,Int.toNat_natCast];exact h.2⟩,hE,Int.toNat_natCast]
noncomputable def zlv:=qsi (fun s p=>s.length≤1048576) fun s p=>.tup [.i .i64 (kyA s (spot s p)).1,.i .i64 (kyA s (spot s p)).2.1,.b (kyA s (spot s p)).2.2]
theorem jq {s} {p}:zlv [.s s,.i .i64 p]=some (s.length≤1048576,.tup [.i .i64 (kyA s (spot s p)).1,.i .i64 (kyA s (spot s p)).2.1,.b (kyA s (spot s p)).2.2]):=y7
theorem zal:PE1 Tryz.prog 258 zlv:=y6 KeyAt_s
end Go.T
end
section
namespace Go.T
variable [Go.Vg.Glob] [Go.Vg.GlobTabs 0 1]
open Go.Proofs Go.Vg Go.RowKit Go.TT Go.Pl
set_option maxRecDepth 10000
set_option maxHeartbeats 4000000
theorem Rest_i (s:Bs) (p:Int) (hp:s.length≤1048576):PF Tryz.prog 210 [.s s,.i .i64 p] (.tup [.i .i64 ((rsA s (spot s p)).1:Nat),.b (rsA s (spot s p)).2]):=by
 refine HP (yd.c (qv.c (zt.c (xr.c (kj.c jt.d))))) 39 [[0,1],[0,1],[0,1,6],[0,1,6,7],[0,6,34],[4,5],[4,5]] Tryz.func210 [.tmp 4,.tmp 5] ?_;simp only [↓XC,X1,seval,TES,ye,zz,zc,vk,wt,qn];have h0:=yh s p;generalize spot s p=q at *;have hw:=jg s q h0;simp only [zg s h0,zg s hw];have hC:(byt s (wh s q)==10||decide (byt s (wh s q)<0)||decide (byt s (wh s q)=35)&&(!decide ((wh s q:Int)=q)||decide ((la s q:Int)=q)))=decide (isB s (wh s q)=true∨(byt s (wh s q)=35∧(wh s q≠q∨la s q=q))):=by rw [Bool.eq_iff_iff];simp only [isB,Bool.or_eq_true,Bool.and_eq_true,decide_eq_true_eq,Bool.not_eq_true',decide_eq_false_iff_not,Int.natCast_inj,ne_eq]
 rw [hC];refine Chk.mk hp fun _=>Chk.mk hp fun _=>Chk.mk (fun h=>⟨⟨h,h⟩,hp⟩) fun _=>⟨fun h=>Chk.mk hp fun _=>?_,fun h=>?_⟩
 ·unfold rsA;rw [if_pos (of_decide_eq_true h)]
 ·unfold rsA;rw [if_neg (of_decide_eq_false h)]
noncomputable def zp5:=qsi (fun s p=>s.length≤1048576) fun s p=>.tup [.i .i64 ((rsA s (spot s p)).1:Nat),.b (rsA s (spot s p)).2]
theorem yu {s} {p}:zp5 [.s s,.i .i64 p]=some (s.length≤1048576,.tup [.i .i64 ((rsA s (spot s p)).1:Nat),.b (rsA s (spot s p)).2]):=y7
theorem vd:PE1 Tryz.prog 210 zp5:=y6 Rest_i
theorem Col_i (s:Bs) (p:Int) (hp:s.length≤1048576):PF Tryz.prog 248 [.s s,.i .i64 p] (.i .i64 (coA s (spot s p):Nat)):=by refine HP (yd.c kj.d) 12 [[0,1],[4]] Tryz.func248 [.tmp 4] ?_;simp only [↓XC,X1,seval,TES,ye,wt];have h0:=yh s p;have hl:=zfq s (spot s p);exact Chk.mk hp fun _=>CR fun _=>by unfold coA;rw [Int.ofNat_sub hl]
noncomputable def zu9:=qsi (fun s p=>s.length≤1048576) fun s p=>.i .i64 (coA s (spot s p):Nat)
theorem wz {s} {p}:zu9 [.s s,.i .i64 p]=some (s.length≤1048576,.i .i64 (coA s (spot s p):Nat)):=y7
theorem zao:PE1 Tryz.prog 248 zu9:=y6 Col_i
theorem isDash (s:Bs) (p:Int) (hp:s.length≤1048576∧0≤p∧p≤s.length):PF Tryz.prog 281 [.s s,.i .i64 p] (.b (zgq s p.toNat)):=by
 refine HP (zt.c kh.d) 15 [[0,1],[4]] Tryz.func281 [.tmp 4] ?_;simp only [↓XC,X1,seval,TES,zc,zr];have e1:spot s p=p.toNat:=by unfold spot;omega
 have e2:(p+1).toNat=p.toNat+1:=by omega
 rw [e1,e2];exact Chk.mk hp.1 fun _=>Chk.mk (fun _=>by simp only [inR];omega) fun _=>Chk.mk (fun h=>⟨⟨h,h⟩,hp.1,by omega⟩) fun _=>rfl
noncomputable def zpz:=qsi (fun s p=>s.length≤1048576∧0≤p∧p≤s.length) fun s p=>.b (zgq s p.toNat)
theorem y3 {s} {p}:zpz [.s s,.i .i64 p]=some (s.length≤1048576∧0≤p∧p≤s.length,.b (zgq s p.toNat)):=y7
theorem zbm:PE1 Tryz.prog 281 zpz:=y6 isDash
theorem HeadAt_i (s:Bs) (p:Int) (hp:s.length≤1048576):PF Tryz.prog 344 [.s s,.i .i64 p] (.tup [.i .i64 (hdA s (spot s p)).1,.i .i64 (hdA s (spot s p)).2.1,.i .i64 ((hdA s (spot s p)).2.2.1:Nat),.i .i64 (hdA s (spot s p)).2.2.2]):=by
 refine HP (yd.c (zt.c (va.c vd.d))) 71 [[0,1],[0,1],[0,1,8],[0,1,26],[4,5,6,7],[0,1,9,10,11],[0,9,10,11,12],[0,8,9,10,11,12],[9,10,13,14],[9,10,13,40],[4,5,6,7],[4,5,6,7],[0,8,9,10,11,12,45],[0,9,10,11,12],[0,8,9,10,11,12,54],[0,8,9,11,12],[0,8,9,10,11,12],[0,9,10,11,12,68],[0,9,10,11,12],[0,9,10,11,12]] Tryz.func344 [.tmp 4,.tmp 5,.tmp 6,.tmp 7] ?_;simp only [↓XC,X1,seval,TES,ye,zc,ks,yu];have h0:=yh s p;generalize spot s p=q0 at *;rw [zg s h0];refine Chk.mk hp fun _=>⟨fun h=>?_,fun h=>CR fun _=>?_⟩
 ·unfold hdA;rw [if_neg (by simp at h;omega)]
 have h':byt s q0=124∨byt s q0=62:=by simp at h;omega
 have hl:q0<s.length:=by
  rcases h' with h | h
  ·exact zm h (by decide)
  ·exact zm h (by decide)
 unfold hdA;rw [if_pos h'];refine zl.of (ι:={x:(Nat×Int)×Int×Bool // x.1.1≤s.length∧hdS s x.1.1 x.1.2 x.2.1 x.2.2=hdS s (q0+1) 0 0 false}) (fun x=>⟨[(0,.s s),(9,.i .i64 x.1.1.2),(10,.i .i64 x.1.2.1),(11,.i .i64 (if x.1.2.2=true then 1 else 0)),(12,.i .i64 (x.1.1.1:Nat))],[]⟩) (fun x=>s.length-x.1.1.1) ⟨((q0+1,0),0,false),by simp only;omega,rfl⟩ (Ent.refl _ _) ?_;rintro ⟨⟨⟨q,dg⟩,ch,sg⟩,hq,hw⟩;simp only [↓XC,X1,seval,TES,zc,ks,yu];simp only at hq hw;rw [zg s hq];have hA:(decide (49≤byt s q)&&decide (byt s q≤57)&&decide (dg=0))=decide ((49≤byt s q∧byt s q≤57)∧dg=0):=by rw [Bool.decide_and,Bool.decide_and]
 have hB:((decide (byt s q=43)||decide (byt s q=45))&&decide ((if sg=true then (1:Int) else 0)=0))=decide ((byt s q=43∨byt s q=45)∧sg=false):=by rw [Bool.decide_and,Bool.decide_or];cases sg<;>rfl
 rw [hA,hB];refine Chk.mk hp fun _=>⟨fun h1=>Chk.mk (by have:=zac s q;simp only [inR];omega) fun _=>CR fun _=>?_,fun h1=>⟨fun h2=>Chk.mk (by simp only [inR];split<;>omega) fun _=>?_,fun h2=>Chk.mk hp fun _=>?_⟩⟩
 ·have h1':=of_decide_eq_true h1;have hl2:q<s.length:=zm (b:=byt s q) rfl (by omega);exact ⟨⟨((q+1,byt s q-48),ch,sg),by simp only;omega,by simp only;rw [←hdS_d h1'];exact hw⟩,by simp only;omega,(by first | exact Ent.refl _ _ | (simp only [Int.natCast_add,Int.natCast_one];exact Ent.refl _ _))⟩
 ·have h1':=of_decide_eq_false h1;have h2':=of_decide_eq_true h2;have hl2:q<s.length:=zm (b:=byt s q) rfl (by omega);have hsg:=h2'.2;subst hsg;refine ⟨fun h3=>CR fun _=>?_,fun h3=>CR fun _=>?_⟩
  ·exact ⟨⟨((q+1,dg),1,true),by simp only;omega,by simp only;rw [←hw,hdS_c h1' h2',chv,if_pos h3]⟩,by simp only;omega,(by first | exact Ent.refl _ _ | (simp only [Int.natCast_add,Int.natCast_one];exact Ent.refl _ _))⟩
  ·exact ⟨⟨((q+1,dg),2,true),by simp only;omega,by simp only;rw [←hw,hdS_c h1' h2',chv,if_neg h3]⟩,by simp only;omega,(by first | exact Ent.refl _ _ | (simp only [Int.natCast_add,Int.natCast_one];exact Ent.refl _ _))⟩
 ·rw [←hw,hdS_r (of_decide_eq_false h1) (of_decide_eq_false h2)];refine ⟨fun h3=>?_,fun h3=>?_⟩
  ·rw [if_neg (by simpa using h3)]
  ·rw [if_pos (by simpa using h3)]
noncomputable def ziw:=qsi (fun s p=>s.length≤1048576) fun s p=>.tup [.i .i64 (hdA s (spot s p)).1,.i .i64 (hdA s (spot s p)).2.1,.i .i64 ((hdA s (spot s p)).2.2.1:Nat),.i .i64 (hdA s (spot s p)).2.2.2]
theorem zkm {s} {p}:ziw [.s s,.i .i64 p]=some (s.length≤1048576,.tup [.i .i64 (hdA s (spot s p)).1,.i .i64 (hdA s (spot s p)).2.1,.i .i64 ((hdA s (spot s p)).2.2.1:Nat),.i .i64 (hdA s (spot s p)).2.2.2]):=y7
theorem zkl:PE1 Tryz.prog 344 ziw:=y6 HeadAt_i
theorem zx2 (s:Bs) (e:Int) (hp:s.length≤1048576∧0≤e∧e≤s.length):PF Tryz.prog 345 [.s s,.i .i64 e] (.i .i64 (bhL s e.toNat:Nat)):=by refine HP pn 10 [[0,1],[4]] Tryz.func345 [.tmp 4] ?_;simp only [↓XC,X1,seval,TES];exact CR fun _=>by unfold bhL;congr 1;split<;>omega
noncomputable def zd1:=qsi (fun s e=>s.length≤1048576∧0≤e∧e≤s.length) fun s e=>.i .i64 (bhL s e.toNat:Nat)
theorem w6 {s} {e}:zd1 [.s s,.i .i64 e]=some (s.length≤1048576∧0≤e∧e≤s.length,.i .i64 (bhL s e.toNat:Nat)):=y7
theorem zay:PE1 Tryz.prog 345 zd1:=y6 zx2
theorem zxq (s:Bs) (a n:Int) (hp:s.length≤1048576∧0≤a∧a≤s.length):PF Tryz.prog 346 [.s s,.i .i64 a,.i .i64 n] (.tup [.i .i64 ((ltC s a.toNat n).1:Nat),.i .i64 ((ltC s a.toNat n).2:Nat)]):=by
 refine HP (we.c (zbs.c (xi.c (jt.c zay.d)))) 38 [[0,1,2],[0,1,2,17],[0,1,2,21],[0,1,26],[6,7],[0,1,2],[6,7]] Tryz.func346 [.tmp 6,.tmp 7] ?_;simp only [↓XC,X1,seval,TES,zd,kv,qy,qn,w6];obtain ⟨a,rfl⟩:∃ k:Nat,a=k:=⟨a.toNat,by omega⟩
 rw [Int.toNat_natCast];refine zl.of (ι:={q:Nat // q≤s.length∧ltC s q n=ltC s a n}) (fun x=>⟨[(0,.s s),(1,.i .i64 (x.1:Nat)),(2,.i .i64 n)],[]⟩) (fun x=>s.length-x.1) ⟨a,by omega,rfl⟩ (Ent.refl _ _) ?_;rintro ⟨q,hq,hw⟩;simp only [↓XC,X1,seval,TES,zd,kv,qy,qn,w6];rw [zg s hq];have hb:=uk s (en s q);have he:=uo s q hq;have hA:(decide ((q:Int)<(s.length:Nat))&&decide (mkA s q=0))=decide (q<s.length∧mkA s q=0):=by rw [Bool.decide_and,decide_eq_decide.2 (Int.ofNat_lt)]
 rw [hA];refine Chk.mk (fun h=>⟨⟨h,h⟩,hp.1⟩) fun _=>⟨fun h1=>Chk.mk hp.1 fun _=>⟨fun h2=>Chk.mk hp.1 fun _=>⟨fun h3=>Chk.mk hp.1 fun _=>?_,fun h3=>?_⟩,fun h2=>Chk.mk hp.1 fun _=>Chk.mk ⟨hp.1,by omega,by omega⟩ fun _=>?_⟩,fun h1=>?_⟩
 ·rw [←hw,ltC_l (of_decide_eq_true h1) (by simpa using h2),if_pos h3]
 ·rw [←hw,ltC_l (of_decide_eq_true h1) (by simpa using h2),if_neg h3];rfl
 ·have h4:=zad (of_decide_eq_true h1).1;exact ⟨⟨bhL s (en s q),hb,by rw [←zsu (of_decide_eq_true h1) (by simpa using h2)];exact hw⟩,by simp only;omega,Ent.refl _ _⟩
 ·rw [←hw,ltC_e (of_decide_eq_false h1)];rfl
noncomputable def zdx:PE:=peR (fun (x:Bs×Int×Int)=>match x with | (s,a,n)=>[.s s,.i .i64 a,.i .i64 n]) (fun (x:Bs×Int×Int)=>match x with | (s,a,n)=>s.length≤1048576∧0≤a∧a≤s.length) (fun (x:Bs×Int×Int)=>match x with | (s,a,n)=>.tup [.i .i64 ((ltC s a.toNat n).1:Nat),.i .i64 ((ltC s a.toNat n).2:Nat)])
theorem zg3 {s:Bs} {a n:Int}:zdx [.s s,.i .i64 a,.i .i64 n]=some (s.length≤1048576∧0≤a∧a≤s.length,.tup [.i .i64 ((ltC s a.toNat n).1:Nat),.i .i64 ((ltC s a.toNat n).2:Nat)]):=yg (by rintro ⟨a0,a1,a2⟩ ⟨b0,b1,b2⟩ h;simp_all []) (s,a,n)
theorem zg2:PE1 Tryz.prog 346 zdx:=yo (by rintro ⟨s,a,n⟩ hp;exact zxq s a n hp)
end Go.T
end
section
namespace Go.T
variable [Go.Vg.Glob] [Go.Vg.GlobTabs 0 1]
open Go.Proofs Go.Vg Go.RowKit Go.TT Go.Pl Go.TSh
set_option maxRecDepth 10000
set_option maxHeartbeats 4000000
theorem mayStand (r:Nat):PF Tryz.prog 142 [.i .i64 (r:Nat)] (.b (z1d r)):=by refine HP va.d 29 [[0],[2]] Tryz.func142 [.tmp 2] ?_;simp only [↓XC,X1,seval,TES,ks,XR];unfold z1d;congr 1;rw [Bool.eq_iff_iff];simp only [Bool.or_eq_true,Bool.and_eq_true,decide_eq_true_eq,Bool.not_eq_true',decide_eq_false_iff_not];omega
noncomputable def zh3:PE:=peR (fun (r:Nat)=>[.i .i64 (r:Nat)]) (fun (r:Nat)=>True) (fun (r:Nat)=>.b (z1d r))
theorem zco {r:Nat}:zh3 [.i .i64 (r:Nat)]=some (True,.b (z1d r)):=yg (by rintro a b h;simp_all [Int.natCast_inj]) r
theorem zj6:PE1 Tryz.prog 142 zh3:=yo (by rintro r hp;exact mayStand r)
theorem RuneAt_i (s:Bs) (p:Int) (hp:s.length≤1048576):PF Tryz.prog 141 [.s s,.i .i64 p] (.tup [.i .i64 ((rnA (s.drop (spot s p))).1:Nat),.i .i64 ((rnA (s.drop (spot s p))).2:Nat)]):=by
 refine HP (yd.c zxg.d) 30 [[0,1],[6,7],[6,7,26],[4,5],[4,5]] Tryz.func141 [.tmp 4,.tmp 5] ?_;simp only [↓XC,X1,seval,TES,ye,zxh,XR];have h0:=yh s p;have hb:=dcG_bd (s.drop (spot s p));rw [List.length_drop] at hb;unfold rnA;change Chk _ (((decide (((dcG (s.drop (spot s p))).2:Int)=0)||decide (((dcG (s.drop (spot s p))).1:Int)=65533)&&decide (((dcG (s.drop (spot s p))).2:Int)=1))=true→_)∧((decide (((dcG (s.drop (spot s p))).2:Int)=0)||decide (((dcG (s.drop (spot s p))).1:Int)=65533)&&decide (((dcG (s.drop (spot s p))).2:Int)=1))=false→Chk (inR .i64 ((dcG (s.drop (spot s p))).1:Int)) (SV.tup [.i .i64 ((dcG (s.drop (spot s p))).1:Nat),.i .i64 ((dcG (s.drop (spot s p))).2:Nat)]=_)));generalize dcG (s.drop (spot s p))=D at *;have hC:(decide ((D.2:Int)=0)||decide ((D.1:Int)=65533)&&decide ((D.2:Int)=1))=decide (D.2=0∨(D.1=65533∧D.2=1)):=by rw [Bool.eq_iff_iff];simp only [Bool.or_eq_true,Bool.and_eq_true,decide_eq_true_eq];omega
 rw [hC];refine Chk.mk ⟨by omega,by omega,by omega⟩ fun _=>⟨fun h=>by rw [if_pos (of_decide_eq_true h)];rfl,fun h=>CR fun _=>by rw [if_neg (of_decide_eq_false h)]⟩
noncomputable def zig:=qsi (fun s p=>s.length≤1048576) fun s p=>.tup [.i .i64 ((rnA (s.drop (spot s p))).1:Nat),.i .i64 ((rnA (s.drop (spot s p))).2:Nat)]
theorem zct {s} {p}:zig [.s s,.i .i64 p]=some (s.length≤1048576,.tup [.i .i64 ((rnA (s.drop (spot s p))).1:Nat),.i .i64 ((rnA (s.drop (spot s p))).2:Nat)]):=y7
theorem zkd:PE1 Tryz.prog 141 zig:=y6 RuneAt_i
theorem Clean_i (s:Bs) (hp:s.length≤1048576):PF Tryz.prog 68 [.s s] (.i .i64 (clA s 0:Nat)):=by
 refine HP (zkd.c zj6.d) 29 [[0],[0,3],[0,3,9],[0,3,4,5],[0,3,5,22],[2],[0,3],[2]] Tryz.func68 [.tmp 2] ?_;simp only [↓XC,X1,seval,TES,zct,zco,XR];refine zl.of (ι:={p:Nat // p≤s.length∧clA s p=clA s 0}) (fun x=>⟨[(0,.s s),(3,.i .i64 (x.1:Nat))],[]⟩) (fun x=>s.length-x.1) ⟨0,Nat.zero_le _,rfl⟩ (Ent.refl _ _) ?_;rintro ⟨p,h1,h2⟩;simp only [↓XC,X1,seval,TES,zco,zct];rw [zg s h1];have hb:=zzx (s.drop p);rw [List.length_drop] at hb;refine ⟨fun h=>Chk.mk hp fun _=>⟨fun h3=>?_,fun h3=>CR fun _=>?_⟩,fun h=>?_⟩
 ·rw [←h2,clA_f];rintro ⟨h4,h5⟩;rw [h5] at h3;simp at h3;omega
 ·simp only [Bool.or_eq_false_iff,decide_eq_false_iff_not,Bool.not_eq_false'] at h3;exact ⟨⟨p+(rnA (s.drop p)).2,by omega,by rw [←clA_t (by omega) (by omega) h3.2];exact h2⟩,by simp only;omega,(by first | exact Ent.refl _ _ | (simp only [Int.natCast_add,Int.natCast_one];exact Ent.refl _ _))⟩
 ·rw [←h2,clA_e (by omega),show p=s.length by omega]
noncomputable def zl1:PE:=peR (fun (s:Bs)=>[.s s]) (fun (s:Bs)=>s.length≤1048576) (fun (s:Bs)=>.i .i64 (clA s 0:Nat))
theorem xw {s:Bs}:zl1 [.s s]=some (s.length≤1048576,.i .i64 (clA s 0:Nat)):=yg (by rintro a b h;simp_all []) s
theorem zei:PE1 Tryz.prog 68 zl1:=yo (by rintro s hp;exact Clean_i s hp)
end Go.T
end
section
namespace Go.T
variable [Go.Vg.Glob] [Go.Vg.GlobTabs 0 1]
open Go.Proofs Go.Vg Go.RowKit Go.TT Go.Pl
set_option maxRecDepth 10000
set_option maxHeartbeats 4000000
theorem isPrint (s:Bs) (hp:s.length≤1048576):PF Tryz.prog 277 [.s s] (.b (s.all fun b=>decide (33≤b.toNat)&&decide (b.toNat≤126))):=by
 refine HP pn 20 [[0],[0,5,6],[0,5,6,7],[0,3,5,6],[0,5,6,18],[2],[0,5,6],[2]] Tryz.func277 [.tmp 2] ?_;simp only [↓XC,X1,seval,TES,XR];refine zl.of (ι:={i:Nat // i≤s.length∧((s.drop i).all fun b=>decide (33≤b.toNat)&&decide (b.toNat≤126))=(s.all fun b=>decide (33≤b.toNat)&&decide (b.toNat≤126))}) (fun x=>⟨[(0,.s s),(5,.i .i64 (s.length:Nat)),(6,.i .i64 (x.1:Nat))],[]⟩) (fun x=>s.length-x.1) ⟨0,Nat.zero_le _,rfl⟩ (Ent.refl _ _) ?_;rintro ⟨i,h1,h2⟩;simp only [↓XC,X1,seval,TES];have hc:=(s.getD i 0).toNat_lt;refine ⟨fun h=>?_,fun h=>?_⟩
 ·have hi:i<s.length:=by omega
  have e:s.drop i=s.getD i 0::s.drop (i+1):=by rw [List.drop_eq_getElem_cons hi];congr 1;simp [List.getD,hi]
  rw [e,List.all_cons] at h2;refine CO fun _=>Chk.mk (fun _=>by omega) fun _=>⟨fun h3=>?_,fun h3=>CR fun _=>?_⟩
  ·simp only [Bool.or_eq_true,decide_eq_true_eq] at h3;have:(decide (33≤(s.getD i 0).toNat)&&decide ((s.getD i 0).toNat≤126))=false:=by
    rw [Bool.and_eq_false_iff];rcases h3 with h4 | h4
    ·exact .inl (by rw [decide_eq_false_iff_not];omega)
    ·exact .inr (by rw [decide_eq_false_iff_not];omega)
   rw [←h2,this];rfl
  ·simp only [Bool.or_eq_false_iff,decide_eq_false_iff_not] at h3;have:(decide (33≤(s.getD i 0).toNat)&&decide ((s.getD i 0).toNat≤126))=true:=by rw [Bool.and_eq_true,decide_eq_true_eq,decide_eq_true_eq];omega
   rw [this,Bool.true_and] at h2;exact ⟨⟨i+1,by omega,h2⟩,by simp only;omega,(by first | exact Ent.refl _ _ | (simp only [Int.natCast_add,Int.natCast_one];exact Ent.refl _ _))⟩
 ·rw [←h2,List.drop_eq_nil_of_le (by omega)];rfl
noncomputable def zlm:PE:=peR (fun (s:Bs)=>[.s s]) (fun (s:Bs)=>s.length≤1048576) (fun (s:Bs)=>.b (s.all fun b=>decide (33≤b.toNat)&&decide (b.toNat≤126)))
theorem znr {s:Bs}:zlm [.s s]=some (s.length≤1048576,.b (s.all fun b=>decide (33≤b.toNat)&&decide (b.toNat≤126))):=yg (by rintro a b h;simp_all []) s
theorem znq:PE1 Tryz.prog 277 zlm:=yo (by rintro s hp;exact isPrint s hp)
theorem zyd (na pr:Bs) (hp:na.length≤1048576∧pr.length≤1048576):PF Tryz.prog 250 [.agg [.s na,.s pr]] (.b (hkO ⟨na,pr⟩)):=by
 refine HP (zgc.c (va.c znq.d)) 17 [[1],[2]] Tryz.func250 [.tmp 2] ?_;simp only [↓XC,X1,seval,TES,zgd,ks,znr,XR];have e:(decide ((1:Int)≤(pr.length:Nat))&&decide (((pr.length:Nat):Int)≤60))=(decide (1≤pr.length)&&decide (pr.length≤60)):=by
  congr 1
  ·rw [decide_eq_decide];omega
  ·rw [decide_eq_decide];omega
 rw [e];exact Chk.mk hp.1 fun _=>Chk.mk (fun h=>⟨h,hp.2⟩) fun _=>rfl
noncomputable def zea:PE:=peR (fun (x:Bs×Bs)=>match x with | (na,pr)=>[.agg [.s na,.s pr]]) (fun (x:Bs×Bs)=>match x with | (na,pr)=>na.length≤1048576∧pr.length≤1048576) (fun (x:Bs×Bs)=>match x with | (na,pr)=>.b (hkO ⟨na,pr⟩))
theorem zx {na pr:Bs}:zea [.agg [.s na,.s pr]]=some (na.length≤1048576∧pr.length≤1048576,.b (hkO ⟨na,pr⟩)):=yg (by rintro ⟨a0,a1⟩ ⟨b0,b1⟩ h;simp_all []) (na,pr)
theorem zg6:PE1 Tryz.prog 250 zea:=yo (by rintro ⟨na,pr⟩ hp;exact zyd na pr hp)
theorem zda (s:Bs) (r:Rd) (fr:Bool) (la:Int) (p:Nat) (hp:s.length≤1048576∧p≤s.length):FnK Tryz.prog 216 5 [.ptr 0 0 0,.i .i64 (p:Nat)] (rdC s (r) fr la) (fun z c=>z=.b (jl s p)∧c=(rdC s (r) fr la)):=by
 refine HE we.d 21 [[0,1],[4]] Tryz.func216 [.tmp 4] ?_;simp only [↓XC,X1,seval,X2,zd];rw [zg s hp.2];have e:(decide ((p:Int)≥(s.length:Nat))||!decide (mkA s p=0))=jl s p:=by unfold jl;congr 1;rw [decide_eq_decide];omega
 rw [e];exact Chk.mk (fun h=>⟨⟨h,h⟩,hp.1⟩) fun _=>⟨[0,1,2,3,4],by decide,by simp only [Yd];exact ⟨zb (by simp [Yf,Yh]),za fun _=>rfl,za fun _=>rfl,zi,za fun _=>rfl⟩,by simp only [↓XC,X1,seval];try first | rfl | simp [Yf],by simp [z6,SO.ro,YC],by simp⟩
theorem rlined (s:Bs) (r:Rd) (fr:Bool) (la:Int) (hp:s.length≤1048576∧r.cd=0∧r.pos≤s.length):FnK Tryz.prog 251 5 [.ptr 0 0 0] (rdC s (r) fr la) (fun z c=>z=.b (decide ((ze1 s r).cd=0))∧c=(rdC s (ze1 s r) fr la)):=by
 refine HEx (kj.c (qv.c zh7.d)) 45 [[0],[0,3],[0,3,24],[2],[0,3,4],[2]] Tryz.func251 [.tmp 2] (fun _=>true) [] [(1,[],[],qa (.q0 3 [3] (.q0 7 [7] (.alt 8 (.q1 9 .fin) .fin)))),(2,[],[],.q1 0 (.q1 1 (.q1 2 (.q1 4 (.q1 6 (.q1 7 (.q1 8 (.q0 3 [3] (.q0 9 [9] (.alt 5 (.q1 10 .fin) .fin)))))))))),(4,[],[],qa (.q1 7 (.q0 3 [3] (.q0 8 [8] (.q1 9 (.alt 10 (.q1 11 .fin) .fin))))))] ?_;simp only [↓XC,X1,reduceIte,Nat.reduceAdd,Nat.reduceLT,Nat.reduceEqDiff,Nat.reduceBEq,Nat.reduceLeDiff,reduceCtorEq,Nat.reduceSub,Nat.reduceMul,Int.reduceToNat,Int.reduceLT,Int.reduceLE,X2,wt,zz,zh8];obtain ⟨hs,hcd,hpos⟩:=hp;have hl:=zfq s r.pos;rw [zg s hpos,zg s (show Pl.la s r.pos≤s.length by omega)];refine ⟨by decide +kernel,Chk.mk hs fun _=>⟨by decide +kernel,Chk.mk hs fun _=>⟨fun h=>?_,fun h=>⟨by decide +kernel,Chk.mk ⟨by omega,by omega,by omega⟩ fun _=>?_⟩⟩⟩⟩
 ·have e:ze1 s r=r:=by unfold ze1;rw [if_pos (by simp at h;omega)]
  rw [e,decide_eq_true hcd];exact Wf (by simp only [↓XC,X1,reduceIte,Nat.reduceAdd,Nat.reduceLT,Nat.reduceEqDiff,Nat.reduceBEq,Nat.reduceLeDiff,reduceCtorEq,Nat.reduceSub,Nat.reduceMul,Int.reduceToNat,Int.reduceLT,Int.reduceLE];try first | rfl | simp [Yf])
 ·have hw:¬wh s (Pl.la s r.pos)≠r.pos:=by simp at h;omega
  rw [show List.drop (Pl.la s r.pos) (List.take r.pos s)=sub s (Pl.la s r.pos) r.pos from rfl,show (UInt8.ofNat 9:UInt8)=9 from rfl];have hb:=idx_bd (sub s (Pl.la s r.pos) r.pos) 9;have hsl:(sub s (Pl.la s r.pos) r.pos).length≤r.pos-Pl.la s r.pos:=by simp only [sub,List.length_drop,List.length_take];omega
  have hL:ze1 s r=if idx (sub s (Pl.la s r.pos) r.pos) 9<0 then r else flt r 2 (Pl.la s r.pos+(idx (sub s (Pl.la s r.pos) r.pos) 9).toNat):=by unfold ze1;rw [if_neg hw]
  generalize idx (sub s (Pl.la s r.pos) r.pos) 9=k at *;by_cases hk0:k<0
  ·simp only [decide_eq_true hk0];simp only [↓XC,X1,reduceIte,Nat.reduceAdd,Nat.reduceLT,Nat.reduceEqDiff,Nat.reduceBEq,Nat.reduceLeDiff,reduceCtorEq,Nat.reduceSub,Nat.reduceMul,Int.reduceToNat,Int.reduceLT,Int.reduceLE,X2,↓Ya,Yb];rw [hL,if_pos hk0,decide_eq_true hcd];exact Wf (by simp only [↓XC,X1,reduceIte,Nat.reduceAdd,Nat.reduceLT,Nat.reduceEqDiff,Nat.reduceBEq,Nat.reduceLeDiff,reduceCtorEq,Nat.reduceSub,Nat.reduceMul,Int.reduceToNat,Int.reduceLT,Int.reduceLE];try first | rfl | simp [Yf])
  ·simp only [decide_eq_false hk0];simp only [↓XC,X1,reduceIte,Nat.reduceAdd,Nat.reduceLT,Nat.reduceEqDiff,Nat.reduceBEq,Nat.reduceLeDiff,reduceCtorEq,Nat.reduceSub,Nat.reduceMul,Int.reduceToNat,Int.reduceLT,Int.reduceLE,X2,↓Ya,Yb];refine CR fun _=>?_;rw [show ((Pl.la s r.pos:Nat):Int)+k=((Pl.la s r.pos+k.toNat:Nat):Int) by omega,hL,if_neg hk0];refine Wm (wy s r fr la 2 (Pl.la s r.pos+k.toNat) hcd) ?_;simp only [↓XC,X1,reduceIte,Nat.reduceAdd,Nat.reduceLT,Nat.reduceEqDiff,Nat.reduceBEq,Nat.reduceLeDiff,reduceCtorEq,Nat.reduceSub,Nat.reduceMul,Int.reduceToNat,Int.reduceLT,Int.reduceLE,X2,↓Ya,Yb,XM];exact Wf (by simp only [↓XC,X1,reduceIte,Nat.reduceAdd,Nat.reduceLT,Nat.reduceEqDiff,Nat.reduceBEq,Nat.reduceLeDiff,reduceCtorEq,Nat.reduceSub,Nat.reduceMul,Int.reduceToNat,Int.reduceLT,Int.reduceLE];try first | rfl | simp [Yf])
theorem zzp (s:Bs) (r:Rd) (fr:Bool) (la:Int) (p:Nat) (hp:s.length≤1048576∧r.cd=0∧p≤s.length):FnK Tryz.prog 253 5 [.ptr 0 0 0,.i .i64 (p:Nat)] (rdC s (r) fr la) (fun z c=>z=.b (decide ((ovR s r p).cd=0))∧c=(rdC s (ovR s r p) fr la)):=by
 refine HEx ue.d 24 [[0,1],[0],[4]] Tryz.func253 [.tmp 4] (fun _=>true) [] [] ?_;simp only [↓XC,X1,seval,X2,z1];obtain ⟨hs,hcd,hpos⟩:=hp;have hg:=qr s p hpos;rw [zg s hpos];refine Chk.mk hs fun _=>?_;refine Wm (zda s (atR r (gpE s p)) fr la (gpE s p) ⟨hs,hg⟩) ?_;simp only [↓XC,X1,seval,X2,XM];by_cases hst:jl s (gpE s p)=true
 ·rw [hst];simp only [↓XC,X1,seval,X2,↓Ya,Yb];have e:ovR s r p=atR r (gpE s p):=by unfold ovR;rw [if_pos hst]
  rw [e,decide_eq_true (show (atR r (gpE s p)).cd=0 from hcd)];exact Wf
 ·rw [Bool.not_eq_true] at hst;rw [hst];simp only [↓XC,X1,seval,X2,↓Ya,Yb];have e:ovR s r p=ze1 s (atR r (gpE s p)):=by unfold ovR;rw [if_neg (by rw [hst];simp)]
  rw [e];refine Wm (rlined s (atR r (gpE s p)) fr la ⟨hs,hcd,hg⟩) ?_;simp only [↓XC,X1,seval,X2,↓Ya,Yb,XM];exact Wf
theorem zdr (s:Bs) (r:Rd) (fr:Bool) (la:Int) (ha:Bool) (an tg:Bs) (pf:Int) (pe:Nat) (e:Nat) (hp:r.ev.length≤16777216∧r.dn.length=r.ev.length∧r.bs≤r.ev.length):FnK Tryz.prog 254 1 [.ptr 0 0 0,.agg [.b ha,.s an,.s tg,.i .i64 pf,.i .i64 (pe:Nat)],.i .i64 (e:Nat)] (rdC s (r) fr la) (fun z c=>z=.tup []∧c=(rdC s (ntR r (⟨ha,an,tg,pe⟩:Pp) e) true la)):=by
 refine HE pn 16 [[0,2,4],[0,2],[0],[]] Tryz.func254 [] ?_;simp only [↓XC,X1,seval,X2];refine Wb (zhy s r fr la 1 [] ha an tg pf pe hp) ?_;simp only [↓XC,X1,seval,X2,XM];try simp only [ntR,atR,yb,zf,List.length_append,List.length_cons,List.length_nil,Nat.zero_add]
 exact Wf
theorem zz0 (s:Bs) (r:Rd) (fr:Bool) (la:Int) (n:Int) (lo:Bool) (hp:s.length≤1048576∧r.pos≤s.length):FnK Tryz.prog 279 5 [.ptr 0 0 0,.i .i64 n,.b lo] (rdC s (r) fr la) (fun z c=>z=.b (dpA s r.pos n lo)∧c=(rdC s (r) fr la)):=by refine HEx (zao.c zbm.d) 39 [[0,1,2],[0,1,2,7],[6]] Tryz.func279 [.tmp 6] (fun _=>false) [] [(1,[],[],qa (.q0 3 [3] (.q0 7 [7] (.alt 8 (.q1 9 .fin) .fin)))),(2,[],[],qe (.q1 4 (.q1 5 (.q1 6 (.q1 7 (.q1 8 (qh (.q1 15 (.q1 16 (.q1 17 (.q0 14 [14] (.q0 18 [18] (.alt 19 (.q1 20 (.q1 21 (.q1 22 .fin))) .fin)))))))))))))] ?_;simp only [↓XC,X1,seval,X2,wz,y3];rw [zg s hp.2];refine ⟨by decide +kernel,Chk.mk hp.1 fun _=>⟨by decide +kernel,Chk.mk (fun h=>⟨⟨h,h⟩,hp.1,by omega,by omega⟩) fun _=>?_⟩⟩;rw [show (decide ((coA s r.pos:Int)>n)||lo&&decide ((coA s r.pos:Int)=n)&&zgq s r.pos)=dpA s r.pos n lo from rfl];exact Wf
theorem rnext (s:Bs) (r:Rd) (fr:Bool) (la:Int) (hp:s.length≤1048576∧r.cd=0∧r.pos≤s.length):FnK Tryz.prog 215 5 [.ptr 0 0 0] (rdC s (r) fr la) (fun z c=>z=.b (decide ((nxK s ⟨r,fr,0⟩).r.cd=0))∧c=(rdC s ((nxK s ⟨r,fr,0⟩).r) fr (r.pos:Nat))):=by
 refine HEx vd.d 40 [[0],[0],[0,16],[0,3,4],[0,3,30],[2],[2]] Tryz.func215 [.tmp 2] (fun _=>false) [] [(3,[],[],qa (.q0 3 [3] (.q0 7 [7] (.alt 8 (qh .fin) .fin))))] ?_;simp only [↓XC,X1,seval,X2,yu];obtain ⟨hs,hcd,hpos⟩:=hp;rw [zg s hpos];have hR:=wx hpos;refine ⟨fun hf=>⟨by decide +kernel,Chk.mk hs fun _=>⟨fun h=>?_,fun h=>?_⟩⟩,fun h=>?_⟩
 ·have hf':fr=false:=by simpa using hf
  subst hf';refine Wm (wy s r false (r.pos:Nat) 8 (rsA s r.pos).1 hcd) ?_;simp only [↓XC,X1,seval,X2,XM];have e:nxK s ⟨r,false,0⟩=⟨flt r 8 (rsA s r.pos).1,false,r.pos⟩:=by unfold nxK;rw [if_pos ⟨rfl,by simpa using h⟩]
  rw [e];exact Wf
 ·have hf':fr=false:=by simpa using hf
  subst hf';refine Wm (zzp s r false (r.pos:Nat) r.pos ⟨hs,hcd,hpos⟩) ?_;simp only [↓XC,X1,seval,X2,XM];have e:nxK s ⟨r,false,0⟩=⟨ovR s r r.pos,false,r.pos⟩:=by unfold nxK;rw [if_neg (by simpa using h)]
  rw [e];exact Wf
 ·have hf':fr=true:=by simpa using h
  subst hf';refine Wm (zzp s r true (r.pos:Nat) r.pos ⟨hs,hcd,hpos⟩) ?_;simp only [↓XC,X1,seval,X2,XM];have e:nxK s ⟨r,true,0⟩=⟨ovR s r r.pos,true,r.pos⟩:=by unfold nxK;rw [if_neg (by simpa using h)]
  rw [e];exact Wf
theorem rdone (s:Bs) (r:Rd) (fr:Bool) (k lt:Nat) (hp:r.ev.length≤16777216∧r.dn.length=r.ev.length∧r.bs≤r.ev.length∧k<r.ev.length∧0<r.dp∧r.dp≤40):FnK Tryz.prog 316 1 [.ptr 0 0 0,.i .i64 (k:Nat)] (rdC s (r) fr (lt:Nat)) (fun z c=>z=.b true∧c=(rdC s ((dnK ⟨r,fr,lt⟩ k).r) true (lt:Nat))):=by
 refine HE pn 18 [[0,1],[0],[0],[],[4]] Tryz.func316 [.tmp 4] ?_;simp only [↓XC,X1,seval,X2];refine Wb (rshut s r fr (lt:Nat) k hp) ?_;simp only [↓XC,X1,seval,X2,XM];try simp only [dnK,atR,shR,List.length_append,List.length_cons,List.length_nil,Nat.zero_add]
 exact Wf
end Go.T
end
