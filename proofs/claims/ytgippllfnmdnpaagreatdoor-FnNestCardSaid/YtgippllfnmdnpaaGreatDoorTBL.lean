/- Own text: part TBL. -/
import Derived.Test.YtgippllfnmdnpaaGreatDoorTBH
import Derived.Test.YtgippllfnmdnpaaGreatDoorTBB
import Derived.Test.YtgippllfnmdnpaaGreatDoorTBG
import Derived.Test.YtgippllfnmdnpaaGreatDoorTAW
import Derived.Test.YtgippllfnmdnpaaGreatDoorTBK
section
set_option linter.unusedVariables false
set_option linter.unusedSimpArgs false
set_option linter.unusedSectionVars false
set_option linter.unnecessarySimpa false
namespace Go.T
variable [Go.Vg.Glob] [Go.Vg.GlobTabs 0 1]
open Go.Proofs Go.Vg Go.RowKit Go.TT Go.Pl
set_option maxRecDepth 10000
set_option maxHeartbeats 4000000
theorem Rest_i (s:Bs) (p:Int) (hp:s.length≤1048576):PF Tryz.prog 210 [.s s,.i .i64 p] (.tup [.i .i64 ((rsA s (spot s p)).1:Nat),.b (rsA s (spot s p)).2]):=by
 refine ⟨rfl,rfl,FnK.of (cf:=zk Tryz.prog te [(100,zx),(106,yp),(107,zm),(184,wo),(209,qd),(187,qz)] 39 0 false (fun _=>false) (kp [(0,[0,1]),(1,[0,1]),(2,[0,1,6]),(3,[0,1,6,7]),(4,[0,6,34]),(5,[4,5]),(6,[4,5])]) [] []) (zf te_ok (l:=[(100,zx),(106,yp),(107,zm),(184,wo),(209,qd),(187,qz)]) (⟨ym,qi,z6,vf,w7,ji,trivial⟩) zc) Tryz.func210 rfl rfl rfl (by simp [zk]) (by simp [zk]) (rs:=[.tmp 4,.tmp 5]) rfl 100000 ?_⟩
 simp only [↓XC,XV,XT,Yg,seval,TES,yn,yc,zd,km,wb,qg]
 have h0:=q8 s p
 generalize spot s p=q at *
 have hw:=vk s q h0
 simp only [zu s h0,zu s hw]
 have hC:(byt s (wh s q)==10||decide (byt s (wh s q)<0)||decide (byt s (wh s q)=35)&&(!decide ((wh s q:Int)=q)||decide ((la s q:Int)=q)))=decide (isB s (wh s q)=true∨(byt s (wh s q)=35∧(wh s q≠q∨la s q=q))):=by
  rw [Bool.eq_iff_iff]
  simp only [isB,Bool.or_eq_true,Bool.and_eq_true,decide_eq_true_eq,Bool.not_eq_true',decide_eq_false_iff_not,Int.natCast_inj,ne_eq]
 rw [hC]
 refine Chk.mk hp fun _=>Chk.mk hp fun _=>Chk.mk (fun h=>⟨⟨h,h⟩,hp⟩) fun _=>⟨fun h=>Chk.mk hp fun _=>?_,fun h=>?_⟩
 ·unfold rsA;rw [if_pos (of_decide_eq_true h)]
 ·unfold rsA;rw [if_neg (of_decide_eq_false h)]
noncomputable def wv:PE:=peR (fun (x:Bs×Int)=>match x with | (s,p)=>[.s s,.i .i64 p]) (fun (x:Bs×Int)=>match x with | (s,p)=>s.length≤1048576) (fun (x:Bs×Int)=>match x with | (s,p)=>.tup [.i .i64 ((rsA s (spot s p)).1:Nat),.b (rsA s (spot s p)).2])
theorem yz {s:Bs} {p:Int}:wv [.s s,.i .i64 p]=some (s.length≤1048576,.tup [.i .i64 ((rsA s (spot s p)).1:Nat),.b (rsA s (spot s p)).2]):=yh (by rintro ⟨a0,a1⟩ ⟨b0,b1⟩ h;simp_all []) (s,p)
theorem j6:PE1 Tryz.prog 210 wv:=yl (by rintro ⟨s,p⟩ hp;exact Rest_i s p hp)
theorem Col_i (s:Bs) (p:Int) (hp:s.length≤1048576):PF Tryz.prog 248 [.s s,.i .i64 p] (.i .i64 (coA s (spot s p):Nat)):=by
 refine ⟨rfl,rfl,FnK.of (cf:=zk Tryz.prog te [(100,zx),(209,qd)] 12 0 false (fun _=>false) (kp [(0,[0,1]),(1,[4])]) [] []) (zf te_ok (l:=[(100,zx),(209,qd)]) (⟨ym,w7,trivial⟩) zc) Tryz.func248 rfl rfl rfl (by simp [zk]) (by simp [zk]) (rs:=[.tmp 4]) rfl 100000 ?_⟩
 simp only [↓XC,XV,XT,Yg,seval,TES,yn,wb]
 have h0:=q8 s p
 have hl:=zoq s (spot s p)
 exact Chk.mk hp fun _=>Chk.mk (by simp only [inR];omega) fun _=>by unfold coA;rw [Int.ofNat_sub hl]
noncomputable def xg:PE:=peR (fun (x:Bs×Int)=>match x with | (s,p)=>[.s s,.i .i64 p]) (fun (x:Bs×Int)=>match x with | (s,p)=>s.length≤1048576) (fun (x:Bs×Int)=>match x with | (s,p)=>.i .i64 (coA s (spot s p):Nat))
theorem wi {s:Bs} {p:Int}:xg [.s s,.i .i64 p]=some (s.length≤1048576,.i .i64 (coA s (spot s p):Nat)):=yh (by rintro ⟨a0,a1⟩ ⟨b0,b1⟩ h;simp_all []) (s,p)
theorem za7:PE1 Tryz.prog 248 xg:=yl (by rintro ⟨s,p⟩ hp;exact Col_i s p hp)
theorem isDash (s:Bs) (p:Int) (hp:s.length≤1048576∧0≤p∧p≤s.length):PF Tryz.prog 281 [.s s,.i .i64 p] (.b (zo0 s p.toNat)):=by
 refine ⟨rfl,rfl,FnK.of (cf:=zk Tryz.prog te [(107,zm),(108,qn)] 15 0 false (fun _=>false) (kp [(0,[0,1]),(1,[4])]) [] []) (zf te_ok (l:=[(107,zm),(108,qn)]) (⟨z6,w5,trivial⟩) zc) Tryz.func281 rfl rfl rfl (by simp [zk]) (by simp [zk]) (rs:=[.tmp 4]) rfl 100000 ?_⟩
 simp only [↓XC,XV,XT,Yg,seval,TES,zd,zz]
 have e1:spot s p=p.toNat:=by unfold spot;omega
 have e2:(p+1).toNat=p.toNat+1:=by omega
 rw [e1,e2]
 exact Chk.mk hp.1 fun _=>Chk.mk (fun _=>by simp only [inR];omega) fun _=>Chk.mk (fun h=>⟨⟨h,h⟩,hp.1,by omega⟩) fun _=>rfl
noncomputable def xi:PE:=peR (fun (x:Bs×Int)=>match x with | (s,p)=>[.s s,.i .i64 p]) (fun (x:Bs×Int)=>match x with | (s,p)=>s.length≤1048576∧0≤p∧p≤s.length) (fun (x:Bs×Int)=>match x with | (s,p)=>.b (zo0 s p.toNat))
theorem y7 {s:Bs} {p:Int}:xi [.s s,.i .i64 p]=some (s.length≤1048576∧0≤p∧p≤s.length,.b (zo0 s p.toNat)):=yh (by rintro ⟨a0,a1⟩ ⟨b0,b1⟩ h;simp_all []) (s,p)
theorem zb2:PE1 Tryz.prog 281 xi:=yl (by rintro ⟨s,p⟩ hp;exact isDash s p hp)
theorem HeadAt_i (s:Bs) (p:Int) (hp:s.length≤1048576):PF Tryz.prog 344 [.s s,.i .i64 p] (.tup [.i .i64 (hdA s (spot s p)).1,.i .i64 (hdA s (spot s p)).2.1,.i .i64 ((hdA s (spot s p)).2.2.1:Nat),.i .i64 (hdA s (spot s p)).2.2.2]):=by
 refine ⟨rfl,rfl,FnK.of (cf:=zk Tryz.prog te [(100,zx),(107,zm),(147,qr),(210,wv)] 71 0 false (fun _=>false) (kp [(0,[0,1]),(1,[0,1]),(2,[0,1,8]),(3,[0,1,26]),(4,[4,5,6,7]),(5,[0,1,9,10,11]),(6,[0,9,10,11,12]),(7,[0,8,9,10,11,12]),(8,[9,10,13,14]),(9,[9,10,13,40]),(10,[4,5,6,7]),(11,[4,5,6,7]),(12,[0,8,9,10,11,12,45]),(13,[0,9,10,11,12]),(14,[0,8,9,10,11,12,54]),(15,[0,8,9,11,12]),(16,[0,8,9,10,11,12]),(17,[0,9,10,11,12,68]),(18,[0,9,10,11,12]),(19,[0,9,10,11,12])]) [] []) (zf te_ok (l:=[(100,zx),(107,zm),(147,qr),(210,wv)]) (⟨ym,z6,kb,j6,trivial⟩) zc) Tryz.func344 rfl rfl rfl (by simp [zk]) (by simp [zk]) (rs:=[.tmp 4,.tmp 5,.tmp 6,.tmp 7]) rfl 100000 ?_⟩
 simp only [↓XC,XV,XT,Yg,seval,TES,yn,zd,wa,yz]
 have h0:=q8 s p
 generalize spot s p=q0 at *
 rw [zu s h0]
 refine Chk.mk hp fun _=>⟨fun h=>?_,fun h=>Chk.mk (by simp only [inR];omega) fun _=>?_⟩
 ·unfold hdA;rw [if_neg (by simp at h;omega)]
 have h':byt s q0=124∨byt s q0=62:=by simp at h;omega
 have hl:q0<s.length:=by
  rcases h' with h | h
  ·exact zy h (by decide)
  ·exact zy h (by decide)
 unfold hdA
 rw [if_pos h']
 refine yv.of (ι:={x:(Nat×Int)×Int×Bool // x.1.1≤s.length∧hdS s x.1.1 x.1.2 x.2.1 x.2.2=hdS s (q0+1) 0 0 false}) (fun x=>⟨[(0,.s s),(9,.i .i64 x.1.1.2),(10,.i .i64 x.1.2.1),(11,.i .i64 (if x.1.2.2=true then 1 else 0)),(12,.i .i64 (x.1.1.1:Nat))],[]⟩) (fun x=>s.length-x.1.1.1) ⟨((q0+1,0),0,false),by simp only;omega,rfl⟩ (Ent.refl _ _) ?_
 rintro ⟨⟨⟨q,dg⟩,ch,sg⟩,hq,hw⟩
 simp only [↓XC,XV,XT,Yg,seval,TES,zd,wa,yz]
 simp only at hq hw
 rw [zu s hq]
 have hA:(decide (49≤byt s q)&&decide (byt s q≤57)&&decide (dg=0))=decide ((49≤byt s q∧byt s q≤57)∧dg=0):=by rw [Bool.decide_and,Bool.decide_and]
 have hB:((decide (byt s q=43)||decide (byt s q=45))&&decide ((if sg=true then (1:Int) else 0)=0))=decide ((byt s q=43∨byt s q=45)∧sg=false):=by
  rw [Bool.decide_and,Bool.decide_or];cases sg<;>rfl
 rw [hA,hB]
 refine Chk.mk hp fun _=>⟨fun h1=>Chk.mk (by have:=zcf s q;simp only [inR];omega) fun _=>Chk.mk (by simp only [inR];omega) fun _=>?_,fun h1=>⟨fun h2=>Chk.mk (by simp only [inR];split<;>omega) fun _=>?_,fun h2=>Chk.mk hp fun _=>?_⟩⟩
 ·have h1':=of_decide_eq_true h1
  have hl2:q<s.length:=zy (b:=byt s q) rfl (by omega)
  exact ⟨⟨((q+1,byt s q-48),ch,sg),by simp only;omega,by simp only;rw [←hdS_d h1'];exact hw⟩,by simp only;omega,(by first | exact Ent.refl _ _ | (simp only [Int.natCast_add,Int.natCast_one];exact Ent.refl _ _))⟩
 ·have h1':=of_decide_eq_false h1
  have h2':=of_decide_eq_true h2
  have hl2:q<s.length:=zy (b:=byt s q) rfl (by omega)
  have hsg:=h2'.2
  subst hsg
  refine ⟨fun h3=>Chk.mk (by simp only [inR];omega) fun _=>?_,fun h3=>Chk.mk (by simp only [inR];omega) fun _=>?_⟩
  ·exact ⟨⟨((q+1,dg),1,true),by simp only;omega,by simp only;rw [←hw,hdS_c h1' h2',chv,if_pos h3]⟩,by simp only;omega,(by first | exact Ent.refl _ _ | (simp only [Int.natCast_add,Int.natCast_one];exact Ent.refl _ _))⟩
  ·exact ⟨⟨((q+1,dg),2,true),by simp only;omega,by simp only;rw [←hw,hdS_c h1' h2',chv,if_neg h3]⟩,by simp only;omega,(by first | exact Ent.refl _ _ | (simp only [Int.natCast_add,Int.natCast_one];exact Ent.refl _ _))⟩
 ·rw [←hw,hdS_r (of_decide_eq_false h1) (of_decide_eq_false h2)]
  refine ⟨fun h3=>?_,fun h3=>?_⟩
  ·rw [if_neg (by simpa using h3)]
  ·rw [if_pos (by simpa using h3)]
noncomputable def za6:PE:=peR (fun (x:Bs×Int)=>match x with | (s,p)=>[.s s,.i .i64 p]) (fun (x:Bs×Int)=>match x with | (s,p)=>s.length≤1048576) (fun (x:Bs×Int)=>match x with | (s,p)=>.tup [.i .i64 (hdA s (spot s p)).1,.i .i64 (hdA s (spot s p)).2.1,.i .i64 ((hdA s (spot s p)).2.2.1:Nat),.i .i64 (hdA s (spot s p)).2.2.2])
theorem zi7 {s:Bs} {p:Int}:za6 [.s s,.i .i64 p]=some (s.length≤1048576,.tup [.i .i64 (hdA s (spot s p)).1,.i .i64 (hdA s (spot s p)).2.1,.i .i64 ((hdA s (spot s p)).2.2.1:Nat),.i .i64 (hdA s (spot s p)).2.2.2]):=yh (by rintro ⟨a0,a1⟩ ⟨b0,b1⟩ h;simp_all []) (s,p)
theorem zi6:PE1 Tryz.prog 344 za6:=yl (by rintro ⟨s,p⟩ hp;exact HeadAt_i s p hp)
theorem zvn (s:Bs) (e:Int) (hp:s.length≤1048576∧0≤e∧e≤s.length):PF Tryz.prog 345 [.s s,.i .i64 e] (.i .i64 (bhL s e.toNat:Nat)):=by
 refine ⟨rfl,rfl,FnK.of (cf:=zk Tryz.prog te [] 10 0 false (fun _=>false) (kp [(0,[0,1]),(1,[4])]) [] []) (zf te_ok (l:=[]) (trivial) zc) Tryz.func345 rfl rfl rfl (by simp [zk]) (by simp [zk]) (rs:=[.tmp 4]) rfl 100000 ?_⟩
 simp only [↓XC,XV,XT,Yg,seval,TES]
 exact Chk.mk (by simp only [inR];omega) fun _=>by unfold bhL;congr 1;split<;>omega
noncomputable def je:PE:=peR (fun (x:Bs×Int)=>match x with | (s,e)=>[.s s,.i .i64 e]) (fun (x:Bs×Int)=>match x with | (s,e)=>s.length≤1048576∧0≤e∧e≤s.length) (fun (x:Bs×Int)=>match x with | (s,e)=>.i .i64 (bhL s e.toNat:Nat))
theorem wq {s:Bs} {e:Int}:je [.s s,.i .i64 e]=some (s.length≤1048576∧0≤e∧e≤s.length,.i .i64 (bhL s e.toNat:Nat)):=yh (by rintro ⟨a0,a1⟩ ⟨b0,b1⟩ h;simp_all []) (s,e)
theorem zbl:PE1 Tryz.prog 345 je:=yl (by rintro ⟨s,e⟩ hp;exact zvn s e hp)
theorem zva (s:Bs) (a n:Int) (hp:s.length≤1048576∧0≤a∧a≤s.length):PF Tryz.prog 346 [.s s,.i .i64 a,.i .i64 n] (.tup [.i .i64 ((ltC s a.toNat n).1:Nat),.i .i64 ((ltC s a.toNat n).2:Nat)]):=by
 refine ⟨rfl,rfl,FnK.of (cf:=zk Tryz.prog te [(144,yu),(186,xj),(188,wy),(187,qz),(345,je)] 38 0 false (fun _=>false) (kp [(0,[0,1,2]),(1,[0,1,2,17]),(2,[0,1,2,21]),(3,[0,1,26]),(4,[6,7]),(5,[0,1,2]),(6,[6,7])]) [] []) (zf te_ok (l:=[(144,yu),(186,xj),(188,wy),(187,qz),(345,je)]) (⟨qw,zb4,xp,ji,zbl,trivial⟩) zc) Tryz.func346 rfl rfl rfl (by simp [zk]) (by simp [zk]) (rs:=[.tmp 6,.tmp 7]) rfl 100000 ?_⟩
 simp only [↓XC,XV,XT,Yg,seval,TES,ze,kc,qk,qg,wq]
 obtain ⟨a,rfl⟩:∃ k:Nat,a=k:=⟨a.toNat,by omega⟩
 rw [Int.toNat_natCast]
 refine yv.of (ι:={q:Nat // q≤s.length∧ltC s q n=ltC s a n}) (fun x=>⟨[(0,.s s),(1,.i .i64 (x.1:Nat)),(2,.i .i64 n)],[]⟩) (fun x=>s.length-x.1) ⟨a,by omega,rfl⟩ (Ent.refl _ _) ?_
 rintro ⟨q,hq,hw⟩
 simp only [↓XC,XV,XT,Yg,seval,TES,ze,kc,qk,qg,wq]
 rw [zu s hq]
 have hb:=zej s (en s q)
 have he:=zcd s q hq
 have hA:(decide ((q:Int)<(s.length:Nat))&&decide (mkA s q=0))=decide (q<s.length∧mkA s q=0):=by rw [Bool.decide_and,decide_eq_decide.2 (Int.ofNat_lt)]
 rw [hA]
 refine Chk.mk (fun h=>⟨⟨h,h⟩,hp.1⟩) fun _=>⟨fun h1=>Chk.mk hp.1 fun _=>⟨fun h2=>Chk.mk hp.1 fun _=>⟨fun h3=>Chk.mk hp.1 fun _=>?_,fun h3=>?_⟩,fun h2=>Chk.mk hp.1 fun _=>Chk.mk ⟨hp.1,by omega,by omega⟩ fun _=>?_⟩,fun h1=>?_⟩
 ·rw [←hw,ltC_l (of_decide_eq_true h1) (by simpa using h2),if_pos h3]
 ·rw [←hw,ltC_l (of_decide_eq_true h1) (by simpa using h2),if_neg h3];rfl
 ·have h4:=zio (of_decide_eq_true h1).1
  exact ⟨⟨bhL s (en s q),hb,by rw [←ltC_n (of_decide_eq_true h1) (by simpa using h2)];exact hw⟩,by simp only;omega,Ent.refl _ _⟩
 ·rw [←hw,ltC_e (of_decide_eq_false h1)];rfl
noncomputable def x7:PE:=peR (fun (x:Bs×Int×Int)=>match x with | (s,a,n)=>[.s s,.i .i64 a,.i .i64 n]) (fun (x:Bs×Int×Int)=>match x with | (s,a,n)=>s.length≤1048576∧0≤a∧a≤s.length) (fun (x:Bs×Int×Int)=>match x with | (s,a,n)=>.tup [.i .i64 ((ltC s a.toNat n).1:Nat),.i .i64 ((ltC s a.toNat n).2:Nat)])
theorem zgd {s:Bs} {a n:Int}:x7 [.s s,.i .i64 a,.i .i64 n]=some (s.length≤1048576∧0≤a∧a≤s.length,.tup [.i .i64 ((ltC s a.toNat n).1:Nat),.i .i64 ((ltC s a.toNat n).2:Nat)]):=yh (by rintro ⟨a0,a1,a2⟩ ⟨b0,b1,b2⟩ h;simp_all []) (s,a,n)
theorem zgc:PE1 Tryz.prog 346 x7:=yl (by rintro ⟨s,a,n⟩ hp;exact zva s a n hp)
end Go.T
end
section
set_option linter.unusedVariables false
set_option linter.unusedSimpArgs false
set_option linter.unusedSectionVars false
set_option linter.unnecessarySimpa false
namespace Go.T
variable [Go.Vg.Glob] [Go.Vg.GlobTabs 0 1]
open Go.Proofs Go.Vg Go.RowKit Go.TT Go.Pl Go.TSh
set_option maxRecDepth 10000
set_option maxHeartbeats 4000000
theorem mayStand (r:Nat):PF Tryz.prog 142 [.i .i64 (r:Nat)] (.b (mayS r)):=by
 refine ⟨rfl,rfl,FnK.of (cf:=zk Tryz.prog te [(147,qr)] 29 0 false (fun _=>false) (kp [(0,[0]),(1,[2])]) [] []) (zf te_ok (l:=[(147,qr)]) (⟨kb,trivial⟩) zc) Tryz.func142 rfl rfl rfl (by simp [zk]) (by simp [zk]) (rs:=[.tmp 2]) rfl 100000 ?_⟩
 simp only [↓XC,XV,XT,Yg,seval,TES,wa,XR]
 unfold mayS
 congr 1
 rw [Bool.eq_iff_iff]
 simp only [Bool.or_eq_true,Bool.and_eq_true,decide_eq_true_eq,Bool.not_eq_true',decide_eq_false_iff_not]
 omega
noncomputable def za1:PE:=peR (fun (r:Nat)=>[.i .i64 (r:Nat)]) (fun (r:Nat)=>True) (fun (r:Nat)=>.b (mayS r))
theorem zc1 {r:Nat}:za1 [.i .i64 (r:Nat)]=some (True,.b (mayS r)):=yh (by rintro a b h;simp_all [Int.natCast_inj]) r
theorem zi1:PE1 Tryz.prog 142 za1:=yl (by rintro r hp;exact mayStand r)
theorem RuneAt_i (s:Bs) (p:Int) (hp:s.length≤1048576):PF Tryz.prog 141 [.s s,.i .i64 p] (.tup [.i .i64 ((rnA (s.drop (spot s p))).1:Nat),.i .i64 ((rnA (s.drop (spot s p))).2:Nat)]):=by
 refine ⟨rfl,rfl,FnK.of (cf:=zk Tryz.prog te [(100,zx),(208,zl0)] 30 0 false (fun _=>false) (kp [(0,[0,1]),(1,[6,7]),(2,[6,7,26]),(3,[4,5]),(4,[4,5])]) [] []) (zf te_ok (l:=[(100,zx),(208,zl0)]) (⟨ym,zu0,trivial⟩) zc) Tryz.func141 rfl rfl rfl (by simp [zk]) (by simp [zk]) (rs:=[.tmp 4,.tmp 5]) rfl 100000 ?_⟩
 simp only [↓XC,XV,XT,Yg,seval,TES,yn,zu1,XR]
 have h0:=q8 s p
 have hb:=dcG_bd (s.drop (spot s p))
 rw [List.length_drop] at hb
 unfold rnA
 change Chk _ (((decide (((dcG (s.drop (spot s p))).2:Int)=0)||decide (((dcG (s.drop (spot s p))).1:Int)=65533)&&decide (((dcG (s.drop (spot s p))).2:Int)=1))=true→_)∧((decide (((dcG (s.drop (spot s p))).2:Int)=0)||decide (((dcG (s.drop (spot s p))).1:Int)=65533)&&decide (((dcG (s.drop (spot s p))).2:Int)=1))=false→Chk (inR .i64 ((dcG (s.drop (spot s p))).1:Int)) (SV.tup [.i .i64 ((dcG (s.drop (spot s p))).1:Nat),.i .i64 ((dcG (s.drop (spot s p))).2:Nat)]=_)))
 generalize dcG (s.drop (spot s p))=D at *
 have hC:(decide ((D.2:Int)=0)||decide ((D.1:Int)=65533)&&decide ((D.2:Int)=1))=decide (D.2=0∨(D.1=65533∧D.2=1)):=by
  rw [Bool.eq_iff_iff]
  simp only [Bool.or_eq_true,Bool.and_eq_true,decide_eq_true_eq]
  omega
 rw [hC]
 refine Chk.mk ⟨by omega,by omega,by omega⟩ fun _=>⟨fun h=>by rw [if_pos (of_decide_eq_true h)];rfl,fun h=>Chk.mk (by simp only [inR];omega) fun _=>by rw [if_neg (of_decide_eq_false h)]⟩
noncomputable def za3:PE:=peR (fun (x:Bs×Int)=>match x with | (s,p)=>[.s s,.i .i64 p]) (fun (x:Bs×Int)=>match x with | (s,p)=>s.length≤1048576) (fun (x:Bs×Int)=>match x with | (s,p)=>.tup [.i .i64 ((rnA (s.drop (spot s p))).1:Nat),.i .i64 ((rnA (s.drop (spot s p))).2:Nat)])
theorem zc2 {s:Bs} {p:Int}:za3 [.s s,.i .i64 p]=some (s.length≤1048576,.tup [.i .i64 ((rnA (s.drop (spot s p))).1:Nat),.i .i64 ((rnA (s.drop (spot s p))).2:Nat)]):=yh (by rintro ⟨a0,a1⟩ ⟨b0,b1⟩ h;simp_all []) (s,p)
theorem zi4:PE1 Tryz.prog 141 za3:=yl (by rintro ⟨s,p⟩ hp;exact RuneAt_i s p hp)
theorem Clean_i (s:Bs) (hp:s.length≤1048576):PF Tryz.prog 68 [.s s] (.i .i64 (clA s 0:Nat)):=by
 refine ⟨rfl,rfl,FnK.of (cf:=zk Tryz.prog te [(141,za3),(142,za1)] 29 0 false (fun _=>false) (kp [(0,[0]),(1,[0,3]),(2,[0,3,9]),(3,[0,3,4,5]),(4,[0,3,5,22]),(5,[2]),(6,[0,3]),(7,[2])]) [] []) (zf te_ok (l:=[(141,za3),(142,za1)]) (⟨zi4,zi1,trivial⟩) zc) Tryz.func68 rfl rfl rfl (by simp [zk]) (by simp [zk]) (rs:=[.tmp 2]) rfl 100000 ?_⟩
 simp only [↓XC,XV,XT,Yg,seval,TES,zc2,zc1,XR]
 refine yv.of (ι:={p:Nat // p≤s.length∧clA s p=clA s 0}) (fun x=>⟨[(0,.s s),(3,.i .i64 (x.1:Nat))],[]⟩) (fun x=>s.length-x.1) ⟨0,Nat.zero_le _,rfl⟩ (Ent.refl _ _) ?_
 rintro ⟨p,h1,h2⟩
 simp only [↓XC,XV,XT,Yg,seval,TES,zc1,zc2]
 rw [zu s h1]
 have hb:=rnA_bd (s.drop p)
 rw [List.length_drop] at hb
 refine ⟨fun h=>Chk.mk hp fun _=>⟨fun h3=>?_,fun h3=>Chk.mk (by simp only [inR];omega) fun _=>?_⟩,fun h=>?_⟩
 ·rw [←h2,clA_f]
  rintro ⟨h4,h5⟩
  rw [h5] at h3
  simp at h3;omega
 ·simp only [Bool.or_eq_false_iff,decide_eq_false_iff_not,Bool.not_eq_false'] at h3
  exact ⟨⟨p+(rnA (s.drop p)).2,by omega,by rw [←clA_t (by omega) (by omega) h3.2];exact h2⟩,by simp only;omega,(by first | exact Ent.refl _ _ | (simp only [Int.natCast_add,Int.natCast_one];exact Ent.refl _ _))⟩
 ·rw [←h2,clA_e (by omega),show p=s.length by omega]
noncomputable def zcr:PE:=peR (fun (s:Bs)=>[.s s]) (fun (s:Bs)=>s.length≤1048576) (fun (s:Bs)=>.i .i64 (clA s 0:Nat))
theorem zl7 {s:Bs}:zcr [.s s]=some (s.length≤1048576,.i .i64 (clA s 0:Nat)):=yh (by rintro a b h;simp_all []) s
theorem zl6:PE1 Tryz.prog 68 zcr:=yl (by rintro s hp;exact Clean_i s hp)
end Go.T
end
section
set_option linter.unusedVariables false
set_option linter.unusedSimpArgs false
set_option linter.unusedSectionVars false
set_option linter.unnecessarySimpa false
namespace Go.T
variable [Go.Vg.Glob] [Go.Vg.GlobTabs 0 1]
open Go.Proofs Go.Vg Go.RowKit Go.TT Go.Pl
set_option maxRecDepth 10000
set_option maxHeartbeats 4000000
theorem isPrint (s:Bs) (hp:s.length≤1048576):PF Tryz.prog 277 [.s s] (.b (s.all fun b=>decide (33≤b.toNat)&&decide (b.toNat≤126))):=by
 refine ⟨rfl,rfl,FnK.of (cf:=zk Tryz.prog te [] 20 0 false (fun _=>false) (kp [(0,[0]),(1,[0,5,6]),(2,[0,5,6,7]),(3,[0,3,5,6]),(4,[0,5,6,18]),(5,[2]),(6,[0,5,6]),(7,[2])]) [] []) (zf te_ok (l:=[]) (trivial) zc) Tryz.func277 rfl rfl rfl (by simp [zk]) (by simp [zk]) (rs:=[.tmp 2]) rfl 100000 ?_⟩
 simp only [↓XC,XV,XT,Yg,seval,TES,XR]
 refine yv.of (ι:={i:Nat // i≤s.length∧((s.drop i).all fun b=>decide (33≤b.toNat)&&decide (b.toNat≤126))=(s.all fun b=>decide (33≤b.toNat)&&decide (b.toNat≤126))}) (fun x=>⟨[(0,.s s),(5,.i .i64 (s.length:Nat)),(6,.i .i64 (x.1:Nat))],[]⟩) (fun x=>s.length-x.1) ⟨0,Nat.zero_le _,rfl⟩ (Ent.refl _ _) ?_
 rintro ⟨i,h1,h2⟩
 simp only [↓XC,XV,XT,Yg,seval,TES]
 have hc:=(s.getD i 0).toNat_lt
 refine ⟨fun h=>?_,fun h=>?_⟩
 ·have hi:i<s.length:=by omega
  have e:s.drop i=s.getD i 0::s.drop (i+1):=by rw [List.drop_eq_getElem_cons hi];congr 1;simp [List.getD,hi]
  rw [e,List.all_cons] at h2
  refine Chk.mk (by omega) fun _=>Chk.mk (fun _=>by omega) fun _=>⟨fun h3=>?_,fun h3=>Chk.mk (by simp only [inR];omega) fun _=>?_⟩
  ·simp only [Bool.or_eq_true,decide_eq_true_eq] at h3
   have:(decide (33≤(s.getD i 0).toNat)&&decide ((s.getD i 0).toNat≤126))=false:=by
    rw [Bool.and_eq_false_iff]
    rcases h3 with h4 | h4
    ·exact .inl (by rw [decide_eq_false_iff_not];omega)
    ·exact .inr (by rw [decide_eq_false_iff_not];omega)
   rw [←h2,this];rfl
  ·simp only [Bool.or_eq_false_iff,decide_eq_false_iff_not] at h3
   have:(decide (33≤(s.getD i 0).toNat)&&decide ((s.getD i 0).toNat≤126))=true:=by
    rw [Bool.and_eq_true,decide_eq_true_eq,decide_eq_true_eq];omega
   rw [this,Bool.true_and] at h2
   exact ⟨⟨i+1,by omega,h2⟩,by simp only;omega,(by first | exact Ent.refl _ _ | (simp only [Int.natCast_add,Int.natCast_one];exact Ent.refl _ _))⟩
 ·rw [←h2,List.drop_eq_nil_of_le (by omega)];rfl
noncomputable def zcn:PE:=peR (fun (s:Bs)=>[.s s]) (fun (s:Bs)=>s.length≤1048576) (fun (s:Bs)=>.b (s.all fun b=>decide (33≤b.toNat)&&decide (b.toNat≤126)))
theorem zlz {s:Bs}:zcn [.s s]=some (s.length≤1048576,.b (s.all fun b=>decide (33≤b.toNat)&&decide (b.toNat≤126))):=yh (by rintro a b h;simp_all []) s
theorem zly:PE1 Tryz.prog 277 zcn:=yl (by rintro s hp;exact isPrint s hp)
theorem zvv (na pr:Bs) (hp:na.length≤1048576∧pr.length≤1048576):PF Tryz.prog 250 [.agg [.s na,.s pr]] (.b (hkO ⟨na,pr⟩)):=by
 refine ⟨rfl,rfl,FnK.of (cf:=zk Tryz.prog te [(276,zan),(147,qr),(277,zcn)] 17 0 false (fun _=>false) (kp [(0,[1]),(1,[2])]) [] []) (zf te_ok (l:=[(276,zan),(147,qr),(277,zcn)]) (⟨zfu,kb,zly,trivial⟩) zc) Tryz.func250 rfl rfl rfl (by simp [zk]) (by simp [zk]) (rs:=[.tmp 2]) rfl 100000 ?_⟩
 simp only [↓XC,XV,XT,Yg,seval,TES,zfv,wa,zlz,XR]
 have e:(decide ((1:Int)≤(pr.length:Nat))&&decide (((pr.length:Nat):Int)≤60))=(decide (1≤pr.length)&&decide (pr.length≤60)):=by
  congr 1
  ·rw [decide_eq_decide];omega
  ·rw [decide_eq_decide];omega
 rw [e]
 exact Chk.mk hp.1 fun _=>Chk.mk (fun h=>⟨h,hp.2⟩) fun _=>rfl
noncomputable def x9:PE:=peR (fun (x:Bs×Bs)=>match x with | (na,pr)=>[.agg [.s na,.s pr]]) (fun (x:Bs×Bs)=>match x with | (na,pr)=>na.length≤1048576∧pr.length≤1048576) (fun (x:Bs×Bs)=>match x with | (na,pr)=>.b (hkO ⟨na,pr⟩))
theorem ya {na pr:Bs}:x9 [.agg [.s na,.s pr]]=some (na.length≤1048576∧pr.length≤1048576,.b (hkO ⟨na,pr⟩)):=yh (by rintro ⟨a0,a1⟩ ⟨b0,b1⟩ h;simp_all []) (na,pr)
theorem zge:PE1 Tryz.prog 250 x9:=yl (by rintro ⟨na,pr⟩ hp;exact zvv na pr hp)
end Go.T
end
