/- Own text: part UBI. -/
import Derived.Test.YtgippllfnmdnpaaGreatDoorUAZ
import Derived.Test.YtgippllfnmdnpaaGreatDoorUAR
set_option linter.all false
section
namespace Go.T
variable [Go.Vg.Glob] [Go.Vg.GlobTabs 0 1]
open Go.Proofs Go.Vg Go.RowKit Go.TT Go.Pl
set_option maxRecDepth 10000
set_option maxHeartbeats 4000000
theorem Rest_s (s:Bs) (p:Int) (hp:s.length≤1048576):PF Tryz.prog 168 [.s s,.i .i64 p] (.tup [.i .i64 ((rsA s (spot s p)).1:Nat),.b (rsA s (spot s p)).2]):=by
 refine HP (yl.c (qi.c (xx.c (ki.c kc.d)))) 38 [[0,1],[0,1],[0,1,6],[0,6,33],[4,5],[4,5]] Tryz.func168 [.tmp 4,.tmp 5] ?_;simp only [↓XC,X1,seval,TES,yn,zj,vm,ws,yw];have h0:=yh s p;generalize spot s p=q at *;have hw:=jg s q h0;have hg:=jh s q;simp only [zg s h0,zg s hw];have hC:(isB s (wh s q)||decide ((((s.getD (wh s q) 0).toNat:Nat):Int)=35)&&(decide ((wh s q:Int)>q)||decide ((la s q:Int)=q)))=decide (isB s (wh s q)=true∨(byt s (wh s q)=35∧(wh s q≠q∨la s q=q))):=by
  cases hb:isB s (wh s q)
  ·have hl:=vw hb;rw [zw hl,Bool.eq_iff_iff];simp only [Bool.false_or,Bool.and_eq_true,Bool.or_eq_true,decide_eq_true_eq,Bool.false_eq_true,false_or];omega
  ·simp
 rw [hC];have hN:(!isB s (wh s q))=true→wh s q<s.length:=fun h=>vw (by simpa using h);refine Chk.mk hp fun _=>Chk.mk ⟨hp,by omega⟩ fun _=>Chk.mk (fun h=>by have:=hN h;omega) fun _=>Chk.mk (fun h=>⟨⟨h,h⟩,hp⟩) fun _=>⟨fun h=>Chk.mk hp fun _=>?_,fun h=>?_⟩
 ·unfold rsA;rw [if_pos (of_decide_eq_true h)]
 ·unfold rsA;rw [if_neg (of_decide_eq_false h)]
noncomputable def zp4:=qsi (fun s p=>s.length≤1048576) fun s p=>.tup [.i .i64 ((rsA s (spot s p)).1:Nat),.b (rsA s (spot s p)).2]
theorem wq {s} {p}:zp4 [.s s,.i .i64 p]=some (s.length≤1048576,.tup [.i .i64 ((rsA s (spot s p)).1:Nat),.b (rsA s (spot s p)).2]):=y7
theorem ku:PE1 Tryz.prog 168 zp4:=y6 Rest_s
theorem Col_s (s:Bs) (p:Int) (hp:s.length≤1048576):PF Tryz.prog 171 [.s s,.i .i64 p] (.i .i64 (coA s (spot s p):Nat)):=by refine HP (yl.c ki.d) 12 [[0,1],[4]] Tryz.func171 [.tmp 4] ?_;simp only [↓XC,X1,seval,TES,yn,ws];have h0:=yh s p;have hl:=zfq s (spot s p);exact Chk.mk hp fun _=>CR fun _=>by unfold coA;rw [Int.ofNat_sub hl]
noncomputable def zu8:=qsi (fun s p=>s.length≤1048576) fun s p=>.i .i64 (coA s (spot s p):Nat)
theorem yj {s} {p}:zu8 [.s s,.i .i64 p]=some (s.length≤1048576,.i .i64 (coA s (spot s p):Nat)):=y7
theorem zan:PE1 Tryz.prog 171 zu8:=y6 Col_s
theorem l11Dash (s:Bs) (p:Int) (hp:s.length≤1048576∧0≤p∧p≤s.length):PF Tryz.prog 260 [.s s,.i .i64 p] (.b (zgq s p.toNat)):=by
 refine HP km.d 21 [[0,1],[4]] Tryz.func260 [.tmp 4] ?_;simp only [↓XC,X1,seval,TES,z8];obtain ⟨p,rfl⟩:∃ k:Nat,p=k:=⟨p.toNat,by omega⟩
 rw [Int.toNat_natCast];have e2:((p:Int)+1).toNat=p+1:=by omega
 have hD:(decide ((p:Int)<(s.length:Nat))&&decide ((((s.getD p 0).toNat:Nat):Int)=45))=decide (byt s p=45):=by
  rcases Nat.lt_or_ge p s.length with hl | hl
  ·rw [zw hl,decide_eq_true (show (p:Int)<(s.length:Nat) by omega),Bool.true_and]
  ·rw [qk hl,decide_eq_false (show ¬(p:Int)<(s.length:Nat) by omega)];rfl
 rw [hD,e2];refine Chk.mk (fun h=>by omega) fun _=>Chk.mk (fun h=>by simp only [inR];omega) fun _=>Chk.mk (fun h=>⟨⟨h,h⟩,hp.1,by omega⟩) fun _=>rfl
noncomputable def zli:=qsi (fun s p=>s.length≤1048576∧0≤p∧p≤s.length) fun s p=>.b (zgq s p.toNat)
theorem kz {s} {p}:zli [.s s,.i .i64 p]=some (s.length≤1048576∧0≤p∧p≤s.length,.b (zgq s p.toNat)):=y7
theorem zak:PE1 Tryz.prog 260 zli:=y6 l11Dash
theorem l08Next (s:Bs) (p:Int) (hp:s.length≤1048576):PF Tryz.prog 330 [.s s,.i .i64 p] (.i .i64 (bhL s (en s (spot s p)):Nat)):=by
 refine HP kc.d 16 [[0,1],[0,5],[5,12],[5],[4]] Tryz.func330 [.tmp 4] ?_;simp only [↓XC,X1,seval,TES,yw];have h0:=uo s _ (yh s p);have e:bhL s (en s (spot s p))=min (en s (spot s p)+1) s.length:=rfl;refine Chk.mk hp fun _=>⟨fun h=>CR fun _=>?_,fun h=>?_⟩
 ·rw [e,show min (en s (spot s p)+1) s.length=en s (spot s p)+1 by omega];rfl
 ·rw [e,show min (en s (spot s p)+1) s.length=en s (spot s p) by omega]
noncomputable def zlj:=qsi (fun s p=>s.length≤1048576) fun s p=>.i .i64 (bhL s (en s (spot s p)):Nat)
theorem jp {s} {p}:zlj [.s s,.i .i64 p]=some (s.length≤1048576,.i .i64 (bhL s (en s (spot s p)):Nat)):=y7
theorem zdy:PE1 Tryz.prog 330 zlj:=y6 l08Next
theorem l05Far (s:Bs) (hp:s.length≤1048576):PF Tryz.prog 359 [.s s] (.b (far s)):=by refine HP j0.d 5 [[0],[2]] Tryz.func359 [.tmp 2] ?_;simp only [↓XC,X1,seval,TES,ql];exact Chk.mk hp fun _=>rfl
noncomputable def zps:PE:=peR (fun (s:Bs)=>[.s s]) (fun (s:Bs)=>s.length≤1048576) (fun (s:Bs)=>.b (far s))
theorem zge {s:Bs}:zps [.s s]=some (s.length≤1048576,.b (far s)):=yg (by rintro a b h;simp_all []) s
theorem zpr:PE1 Tryz.prog 359 zps:=yo (by rintro s hp;exact l05Far s hp)
theorem HeadAt_s (s:Bs) (p:Int) (hp:s.length≤1048576):PF Tryz.prog 329 [.s s,.i .i64 p] (.tup [.i .i64 (hdA s (spot s p)).1,.i .i64 (hdA s (spot s p)).2.1,.i .i64 ((hdA s (spot s p)).2.2.1:Nat),.i .i64 (hdA s (spot s p)).2.2.2]):=by
 refine HP (yl.c ku.d) 88 [[0,1],[0,1],[0,1,31],[4,5,6,7],[0,1,8],[0,1,8,9],[0,8,9,10],[0,8,9,10,38],[0,8,9,10,52],[0,8,9,10],[0,8,9,10,65],[0,8,9,10],[0,8,9,10,73],[0,8,9,10],[0,8,9,10],[8,9,11,12],[8,9,11,83],[4,5,6,7],[4,5,6,7]] Tryz.func329 [.tmp 4,.tmp 5,.tmp 6,.tmp 7] ?_;simp only [↓XC,X1,seval,TES,yn,wq];have h0:=yh s p;generalize spot s p=q0 at *;have hE:(decide ((q0:Int)≥(s.length:Nat))||!decide ((((s.getD q0 0).toNat:Nat):Int)=124)&&!decide ((((s.getD q0 0).toNat:Nat):Int)=62))=!decide (byt s q0=124∨byt s q0=62):=by
  rcases Nat.lt_or_ge q0 s.length with hl | hl
  ·rw [zw hl,decide_eq_false (show ¬(q0:Int)≥(s.length:Nat) by omega),Bool.false_or,Bool.decide_or,Bool.not_or]
  ·rw [qk hl,decide_eq_true (show (q0:Int)≥(s.length:Nat) by omega)];rfl
 rw [hE];refine Chk.mk (fun h=>by simp at h;omega) fun _=>Chk.mk (fun h=>by simp at h;omega) fun _=>⟨fun h=>?_,fun h=>CR fun _=>?_⟩
 ·unfold hdA;rw [if_neg (by simpa using h)]
 have h':byt s q0=124∨byt s q0=62:=by
  cases hd:decide (byt s q0=124∨byt s q0=62)
  ·rw [hd] at h;cases h
  ·exact of_decide_eq_true hd
 have hl:q0<s.length:=by
  rcases h' with h | h
  ·exact zm h (by decide)
  ·exact zm h (by decide)
 unfold hdA;rw [if_pos h'];refine zl.of (ι:={x:(Nat×Int)×Int×Bool // x.1.1≤s.length∧0≤x.1.2∧x.1.2≤9∧(x.2.2=false↔x.2.1=0)∧hdS s x.1.1 x.1.2 x.2.1 x.2.2=hdS s (q0+1) 0 0 false}) (fun x=>⟨[(0,.s s),(8,.i .i64 x.1.1.2),(9,.i .i64 x.1.2.1),(10,.i .i64 (x.1.1.1:Nat))],[]⟩) (fun x=>s.length-x.1.1.1) ⟨((q0+1,0),0,false),by simp only;omega,Int.le_refl 0,(show (0:Int)≤9 by decide),by simp,rfl⟩ (Ent.refl _ _) ?_;rintro ⟨⟨⟨q,dg⟩,ch,sg⟩,hq,hd0,hd9,hsg,hw⟩;simp only [↓XC,X1,seval,TES,wq];simp only at hq hd0 hd9 hsg hw;have hF:¬((49≤byt s q∧byt s q≤57)∧dg=0)→¬((byt s q=43∨byt s q=45)∧sg=false)→Chk (s.length≤1048576) (((!(rsA s (spot s q)).2)=true→SV.tup [.i .i64 0,.i .i64 0,.i .i64 ((rsA s (spot s q)).1:Nat),.i .i64 6]=.tup [.i .i64 (hdS s (q0+1) 0 0 false).1,.i .i64 (hdS s (q0+1) 0 0 false).2.1,.i .i64 ((hdS s (q0+1) 0 0 false).2.2.1:Nat),.i .i64 (hdS s (q0+1) 0 0 false).2.2.2])∧((!(rsA s (spot s q)).2)=false→SV.tup [.i .i64 dg,.i .i64 ch,.i .i64 ((rsA s (spot s q)).1:Nat),.i .i64 0]=.tup [.i .i64 (hdS s (q0+1) 0 0 false).1,.i .i64 (hdS s (q0+1) 0 0 false).2.1,.i .i64 ((hdS s (q0+1) 0 0 false).2.2.1:Nat),.i .i64 (hdS s (q0+1) 0 0 false).2.2.2])):=by
  intro h1 h2;rw [zg s hq,←hw,hdS_r h1 h2];refine Chk.mk hp fun _=>⟨fun h3=>?_,fun h3=>?_⟩
  ·rw [if_neg (by simpa using h3)]
  ·rw [if_pos (by simpa using h3)]
 refine ⟨fun hl=>?_,fun hl=>?_⟩
 ·have hl2:q<s.length:=by omega
  have hA:(decide ((((s.getD q 0).toNat:Nat):Int)≥49)&&decide ((((s.getD q 0).toNat:Nat):Int)≤57)&&decide (dg=0))=decide ((49≤byt s q∧byt s q≤57)∧dg=0):=by rw [zw hl2,Bool.decide_and,Bool.decide_and]
  have hcs:decide (ch=0)=!sg:=by
   cases sg
   ·rw [decide_eq_true (hsg.1 rfl)];rfl
   ·rw [decide_eq_false (fun h=>by have:=hsg.2 h;cases this)];rfl
  have hB:(decide ((((s.getD q 0).toNat:Nat):Int)=43)&&decide (ch=0))=decide (byt s q=43∧sg=false):=by rw [zw hl2,hcs,Bool.decide_and];cases sg<;>rfl
  have hC:(decide ((((s.getD q 0).toNat:Nat):Int)=45)&&decide (ch=0))=decide (byt s q=45∧sg=false):=by rw [zw hl2,hcs,Bool.decide_and];cases sg<;>rfl
  rw [hA,hB,hC];have hv:=zw hl2;refine CO fun _=>Chk.mk (fun _=>by omega) fun _=>⟨fun h1=>?_,fun h1=>CO fun _=>⟨fun h2=>CR fun _=>?_,fun h2=>CO fun _=>⟨fun h3=>CR fun _=>?_,fun h3=>?_⟩⟩⟩
  ·have h1':=of_decide_eq_true h1;refine CO fun _=>CR fun _=>CR fun _=>CR fun _=>?_;rw [←hv];exact ⟨⟨((q+1,byt s q-48),ch,sg),by simp only;omega,by simp only;omega,by simp only;omega,hsg,by simp only;rw [←hdS_d h1'];exact hw⟩,by simp only;omega,(by first | exact Ent.refl _ _ | (simp only [Int.natCast_add,Int.natCast_one];exact Ent.refl _ _))⟩
  ·have h1':=of_decide_eq_false h1;have h2':=of_decide_eq_true h2;have e:=hdS_c h1' ⟨.inl h2'.1,h2'.2⟩ (ch:=ch);rw [chv,if_neg (by omega)] at e;exact ⟨⟨((q+1,dg),2,true),by simp only;omega,hd0,hd9,by simp,by simp only;rw [←e];exact hw⟩,by simp only;omega,(by first | exact Ent.refl _ _ | (simp only [Int.natCast_add,Int.natCast_one];exact Ent.refl _ _))⟩
  ·have h1':=of_decide_eq_false h1;have h3':=of_decide_eq_true h3;have e:=hdS_c h1' ⟨.inr h3'.1,h3'.2⟩ (ch:=ch);rw [chv,if_pos h3'.1] at e;exact ⟨⟨((q+1,dg),1,true),by simp only;omega,hd0,hd9,by simp,by simp only;rw [←e];exact hw⟩,by simp only;omega,(by first | exact Ent.refl _ _ | (simp only [Int.natCast_add,Int.natCast_one];exact Ent.refl _ _))⟩
  ·have h2':=of_decide_eq_false h2;have h3':=of_decide_eq_false h3;exact hF (of_decide_eq_false h1) (fun h=>by rcases h with ⟨h | h,h4⟩;exact h2' ⟨h,h4⟩;exact h3' ⟨h,h4⟩)
 ·have hv:=qk (s:=s) (i:=q) (by omega);exact hF (by omega) (by omega)
noncomputable def ziv:=qsi (fun s p=>s.length≤1048576) fun s p=>.tup [.i .i64 (hdA s (spot s p)).1,.i .i64 (hdA s (spot s p)).2.1,.i .i64 ((hdA s (spot s p)).2.2.1:Nat),.i .i64 (hdA s (spot s p)).2.2.2]
theorem zkk {s} {p}:ziv [.s s,.i .i64 p]=some (s.length≤1048576,.tup [.i .i64 (hdA s (spot s p)).1,.i .i64 (hdA s (spot s p)).2.1,.i .i64 ((hdA s (spot s p)).2.2.1:Nat),.i .i64 (hdA s (spot s p)).2.2.2]):=y7
theorem zkj:PE1 Tryz.prog 329 ziv:=y6 HeadAt_s
theorem l08Depth (s:Bs) (a n:Int) (hp:s.length≤1048576∧0≤a∧a≤s.length):PF Tryz.prog 331 [.s s,.i .i64 a,.i .i64 n] (.i .i64 ((ltC s a.toNat n).1:Nat)):=by
 refine HP (zbr.c (kc.c (zdy.c (wd.c xh.d)))) 52 [[0,1,2],[0,1,2,23],[0,1,2],[0,1,48],[6],[6]] Tryz.func331 [.tmp 6] ?_;simp only [↓XC,X1,seval,TES,kb,yw,jp,zh,qm,XR];obtain ⟨a,rfl⟩:∃ k:Nat,a=k:=⟨a.toNat,by omega⟩
 rw [Int.toNat_natCast];refine zl.of (ι:={q:Nat // q≤s.length∧ltC s q n=ltC s a n}) (fun x=>⟨[(0,.s s),(1,.i .i64 (x.1:Nat)),(2,.i .i64 n)],[]⟩) (fun x=>s.length-x.1) ⟨a,by omega,rfl⟩ (Ent.refl _ _) ?_;rintro ⟨q,hq,hw⟩;simp only [↓XC,X1,seval,TES,kb,yw,jp,zh,qm];rw [zg s hq];refine Chk.mk (fun h=>⟨⟨h,h⟩,hp.1⟩) fun _=>Chk.mk (fun h=>⟨⟨h,h⟩,hp.1⟩) fun _=>⟨fun h=>Chk.mk hp.1 fun _=>?_,fun h=>Chk.mk (fun h=>⟨⟨h,h⟩,hp.1⟩) fun _=>Chk.mk (fun h=>⟨⟨h,h⟩,hp.1⟩) fun _=>Chk.mk (fun h=>⟨⟨h,h⟩,hp.1⟩) fun _=>?_⟩
 ·simp only [Bool.and_eq_true,decide_eq_true_eq] at h;have hl:q<s.length:=by omega
  have h4:=zad hl;exact ⟨⟨bhL s (en s q),uk s _,by rw [←zsu ⟨hl,z1h h.1.2⟩ h.1.2];exact hw⟩,by simp only;omega,Ent.refl _ _⟩
 ·rw [←hw];have hm:=mkA_range s q;rcases Nat.lt_or_ge q s.length with hl | hl
  ·cases hn:lnA s q
   ·have e1:decide ((q:Int)≥(s.length:Nat))=false:=decide_eq_false (by omega);rw [e1,Bool.false_or,Bool.false_or];by_cases hz:mkA s q=0
    ·rw [ltC_l ⟨hl,hz⟩ hn,hz];refine ⟨fun h5=>?_,fun h5=>Chk.mk hp.1 fun _=>?_⟩
     ·simp at h5;rw [if_neg (by omega)];rfl
     ·simp at h5;rw [if_pos (by omega)]
    ·rw [ltC_e (fun h=>hz h.2)];refine ⟨fun _=>rfl,fun h5=>?_⟩;simp at h5;omega
   ·rw [hn,decide_eq_true (show (q:Int)<(s.length:Nat) by omega)] at h;rw [ltC_end hl hn (by simp at h;omega)];refine ⟨fun _=>rfl,fun h5=>by simp at h5⟩
  ·rw [ltC_e (by omega),decide_eq_true (show (q:Int)≥(s.length:Nat) by omega)];refine ⟨fun _=>rfl,fun h5=>by simp at h5⟩
noncomputable def zh5:PE:=peR (fun (x:Bs×Int×Int)=>match x with | (s,a,n)=>[.s s,.i .i64 a,.i .i64 n]) (fun (x:Bs×Int×Int)=>match x with | (s,a,n)=>s.length≤1048576∧0≤a∧a≤s.length) (fun (x:Bs×Int×Int)=>match x with | (s,a,n)=>.i .i64 ((ltC s a.toNat n).1:Nat))
theorem zj8 {s:Bs} {a n:Int}:zh5 [.s s,.i .i64 a,.i .i64 n]=some (s.length≤1048576∧0≤a∧a≤s.length,.i .i64 ((ltC s a.toNat n).1:Nat)):=yg (by rintro ⟨a0,a1,a2⟩ ⟨b0,b1,b2⟩ h;simp_all []) (s,a,n)
theorem zj7:PE1 Tryz.prog 331 zh5:=yo (by rintro ⟨s,a,n⟩ hp;exact l08Depth s a n hp)
theorem zti (l:List Bs) (hp:lnW l≤1073741824∧∀ x∈l,x.length≤1048576):PF Tryz.prog 351 [.fs 1 (l.map j4)] (.s (fbk l [] 0 [])):=by
 refine HP zpr.d 54 [[0],[0,3],[0,3,4],[0,3,4,5],[0,3,4,5,8,9,10],[0,3,4,5,8,9,10,11],[0,3,4,5,6,7,8,9,10],[0,3,4,5,6,7,8,9,10,16],[0,3,4,5,8,9,10],[0,3,4,5,6,7,8,9,10,31],[0,3,4,5,6,7,8,9,10],[0,3,4,6,7,8,9,10,39],[0,3,4,6,7,8,9,10],[0,3,4,6,7,8,9,10,43],[0,3,4,6,7,8,9,10],[0,3,4,6,7,8,9,10],[0,3,4,6,8,9,10],[0,3,4,5,8,9,10],[0,3,4,5,8,9,10],[2]] Tryz.func351 [.tmp 2] ?_;simp only [↓XC,X1,seval,TES,zge,XR];refine zl.of (ι:={x:(Nat×Nat)×Bs×Int // x.1.1≤l.length ∧ -1≤x.2.2∧x.2.2<x.1.1∧(0≤x.2.2→l.getD x.2.2.toNat []≠[])∧x.2.1.length+x.1.2+lnW (l.drop x.1.1)≤lnW l∧fbk (l.drop x.1.1) (if x.2.2<0 then [] else l.getD x.2.2.toNat []) x.1.2 x.2.1=fbk l [] 0 []}) (fun x=>⟨[(0,.fs 1 (l.map j4)),(3,.s x.1.2.1),(4,.i .i64 (x.1.1.2:Nat)),(5,.i .i64 x.1.2.2),(8,.fs 1 (l.map j4)),(9,.i .i64 (l.length:Nat)),(10,.i .i64 (x.1.1.1:Nat))],[]⟩) (fun x=>l.length-x.1.1.1) ⟨((0,0),[],-1),Nat.zero_le _,Int.le_refl _,(show (-1:Int)<0 by decide),fun h=>absurd h (show ¬(0:Int) ≤ -1 by decide),by simp,rfl⟩ (Ent.refl _ _) ?_;rintro ⟨⟨⟨i,k⟩,out,la⟩,h1,h2,h3,h4,h5,h6⟩;simp only [↓XC,X1,seval,TES,zge,XR];simp only at h1 h2 h3 h4 h5 h6;have hN:=uh l;have hW:=hp.1;have hmem:∀ i,i<l.length→(l.getD i []).length≤1048576:=fun i hi=>hp.2 _ (by rw [List.getD_eq_getElem?_getD,List.getElem?_eq_getElem hi];exact List.getElem_mem hi);refine ⟨fun h=>?_,fun h=>?_⟩
 ·have hi:i<l.length:=by omega
  have hd:=zs6 hi;have hlw:=zvw hi;rw [hlw] at h5;refine CO fun _=>⟨fun hx0=>?_,fun hx0=>?_⟩
  ·rw [hx0] at h5;simp only [List.length_nil] at h5;exact CR fun _=>CR fun _=>⟨⟨((i+1,k+1),out,la),by simp only;omega,h2,by simp only;omega,h4,by simp only;omega,by simp only;rw [←h6,hd,fbk_e hx0]⟩,by simp only;omega,(by first | exact Ent.refl _ _ | (simp only [Int.natCast_add,Int.natCast_one];exact Ent.refl _ _))⟩
  ·refine Chk.mk (fun h=>⟨h,hmem i hi⟩) fun _=>Chk.mk (fun h=>by simp only [Bool.and_eq_true,decide_eq_true_eq] at h;omega) fun _=>Chk.mk (fun h=>⟨h,hmem _ (by simp only [Bool.and_eq_true,decide_eq_true_eq] at h;omega)⟩) fun _=>⟨fun hf=>CR fun _=>⟨fun hz=>by simp only [Bool.and_eq_true,decide_eq_true_eq] at hz;omega,fun _=>?_⟩,fun hf=>⟨fun hz=>CO fun _=>?_,fun hz=>?_⟩⟩
   ·simp only [Bool.and_eq_true,Bool.or_eq_true,decide_eq_true_eq] at hf;have hl0:=h4 hf.1;refine zl.of (ι:={r:Nat // r≤(k+1)}) (fun x=>⟨[(0,.fs 1 (l.map j4)),(3,.s (out++List.replicate ((k+1)-x.1) 10)),(4,.i .i64 (x.1:Nat)),(6,.i .i64 (i:Nat)),(7,.s (l.getD i [])),(8,.fs 1 (l.map j4)),(9,.i .i64 (l.length:Nat)),(10,.i .i64 (i:Nat))],[]⟩) (fun x=>x.1) ⟨(k+1),Nat.le_refl _⟩ (Ent.ren1 [] (by decide) (by simp only [kf]) (by simp [ze,Vg.look,SV.mapH,muL])) ?_;rintro ⟨r,hr⟩;simp only [↓XC,X1,seval,TES,XR];refine ⟨fun h=>?_,fun h=>?_⟩
    ·rcases r with _ | r
     ·omega
     refine Chk.mk (by simp only [List.length_append,List.length_replicate,List.length_cons,List.length_nil];omega) fun _=>CR fun _=>⟨⟨r,by omega⟩,by simp only;omega, ?_⟩
     rw [show (((r+1:Nat):Int)-1)=(r:Nat) by omega,show (out++List.replicate ((k+1)-(r+1)) (10:UInt8)++[10])=out++List.replicate ((k+1)-r) 10 by rw [List.append_assoc,show (k+1)-r=(k+1)-(r+1)+1 by omega,List.replicate_succ']]
     exact Ent.refl _ _
    ·obtain rfl:r=0:=by omega
     rw [Nat.sub_zero];refine Chk.mk (by simp only [List.length_append,List.length_replicate,List.length_cons,List.length_nil];omega) fun _=>CR fun _=>⟨⟨((i+1,0),out++List.replicate ((k+1)) 10++l.getD i [],(i:Int)),by simp only;omega,by simp only;omega,by simp only;omega,fun _=>by simpa using hx0,by simp only [List.length_append,List.length_replicate,List.length_cons,List.length_nil];omega, ?_⟩,by simp only;omega,(by first | exact Ent.refl _ _ | (simp only [Int.natCast_add,Int.natCast_one];exact Ent.refl _ _))⟩
     simp only;rw [if_neg (by omega),Int.toNat_natCast,←h6,hd];rw [zs5 hx0,if_neg (show ¬la<0 by omega),if_neg hl0,if_pos hf.2.symm]
   ·simp only [Bool.and_eq_true,decide_eq_true_eq] at hz;have hk0:k=0:=by omega
    have hl0:=h4 hz.1;rw [decide_eq_true hz.1,Bool.true_and] at hf;have hf2:¬(far (l.getD la.toNat [])=true∨far (l.getD i [])=true):=by intro h9;rcases h9 with h9 | h9<;>rw [h9] at hf<;>simp at hf
    subst hk0;refine zl.of (ι:={r:Nat // r≤0}) (fun x=>⟨[(0,.fs 1 (l.map j4)),(3,.s ((out++[32])++List.replicate (0-x.1) 10)),(4,.i .i64 (x.1:Nat)),(6,.i .i64 (i:Nat)),(7,.s (l.getD i [])),(8,.fs 1 (l.map j4)),(9,.i .i64 (l.length:Nat)),(10,.i .i64 (i:Nat))],[]⟩) (fun x=>x.1) ⟨0,Nat.le_refl _⟩ (Ent.ren1 [] (by decide) (by simp only [kf]) (by simp [ze,Vg.look,SV.mapH,muL])) ?_;rintro ⟨r,hr⟩;simp only [↓XC,X1,seval,TES,XR];refine ⟨fun h=>?_,fun h=>?_⟩
    ·rcases r with _ | r
     ·omega
     refine Chk.mk (by simp only [List.length_append,List.length_replicate,List.length_cons,List.length_nil];omega) fun _=>CR fun _=>⟨⟨r,by omega⟩,by simp only;omega, ?_⟩
     rw [show (((r+1:Nat):Int)-1)=(r:Nat) by omega,show ((out++[32])++List.replicate (0-(r+1)) (10:UInt8)++[10])=(out++[32])++List.replicate (0-r) 10 by rw [List.append_assoc,show 0-r=0-(r+1)+1 by omega,List.replicate_succ']]
     exact Ent.refl _ _
    ·obtain rfl:r=0:=by omega
     rw [Nat.sub_zero];refine Chk.mk (by simp only [List.length_append,List.length_replicate,List.length_cons,List.length_nil];omega) fun _=>CR fun _=>⟨⟨((i+1,0),(out++[32])++List.replicate (0) 10++l.getD i [],(i:Int)),by simp only;omega,by simp only;omega,by simp only;omega,fun _=>by simpa using hx0,by simp only [List.length_append,List.length_replicate,List.length_cons,List.length_nil];omega, ?_⟩,by simp only;omega,(by first | exact Ent.refl _ _ | (simp only [Int.natCast_add,Int.natCast_one];exact Ent.refl _ _))⟩
     simp only;rw [if_neg (by omega),Int.toNat_natCast,←h6,hd];rw [zs5 hx0,if_neg (show ¬la<0 by omega),if_neg hl0,if_neg hf2,if_pos rfl];simp
   ·have hkey:(if (if la<0 then ([]:Bs) else l.getD la.toNat [])=[] then List.replicate k (10:UInt8) else if far (if la<0 then ([]:Bs) else l.getD la.toNat [])=true∨far (l.getD i [])=true then List.replicate (k+1) 10 else if k=0 then [32] else List.replicate k 10)=List.replicate k 10:=by
     by_cases hl:la<0
     ·rw [if_pos hl,if_pos rfl]
     ·have hl0:=h4 (by omega);rw [decide_eq_true (show la≥0 by omega),Bool.true_and] at hf hz;have hf2:¬(far (l.getD la.toNat [])=true∨far (l.getD i [])=true):=by intro h9;rcases h9 with h9 | h9<;>rw [h9] at hf<;>simp at hf
      have hk0:¬k=0:=by intro h9;subst h9;simp at hz
      rw [if_neg hl,if_neg hl0,if_neg hf2,if_neg hk0]
    refine zl.of (ι:={r:Nat // r≤k}) (fun x=>⟨[(0,.fs 1 (l.map j4)),(3,.s (out++List.replicate (k-x.1) 10)),(4,.i .i64 (x.1:Nat)),(6,.i .i64 (i:Nat)),(7,.s (l.getD i [])),(8,.fs 1 (l.map j4)),(9,.i .i64 (l.length:Nat)),(10,.i .i64 (i:Nat))],[]⟩) (fun x=>x.1) ⟨k,Nat.le_refl _⟩ (Ent.ren1 [] (by decide) (by simp only [kf]) (by simp [ze,Vg.look,SV.mapH,muL])) ?_;rintro ⟨r,hr⟩;simp only [↓XC,X1,seval,TES,XR];refine ⟨fun h=>?_,fun h=>?_⟩
    ·rcases r with _ | r
     ·omega
     refine Chk.mk (by simp only [List.length_append,List.length_replicate,List.length_cons,List.length_nil];omega) fun _=>CR fun _=>⟨⟨r,by omega⟩,by simp only;omega, ?_⟩
     rw [show (((r+1:Nat):Int)-1)=(r:Nat) by omega,show (out++List.replicate (k-(r+1)) (10:UInt8)++[10])=out++List.replicate (k-r) 10 by rw [List.append_assoc,show k-r=k-(r+1)+1 by omega,List.replicate_succ']]
     exact Ent.refl _ _
    ·obtain rfl:r=0:=by omega
     rw [Nat.sub_zero];refine Chk.mk (by simp only [List.length_append,List.length_replicate,List.length_cons,List.length_nil];omega) fun _=>CR fun _=>⟨⟨((i+1,0),out++List.replicate (k) 10++l.getD i [],(i:Int)),by simp only;omega,by simp only;omega,by simp only;omega,fun _=>by simpa using hx0,by simp only [List.length_append,List.length_replicate,List.length_cons,List.length_nil];omega, ?_⟩,by simp only;omega,(by first | exact Ent.refl _ _ | (simp only [Int.natCast_add,Int.natCast_one];exact Ent.refl _ _))⟩
     simp only;rw [if_neg (by omega),Int.toNat_natCast,←h6,hd];rw [zs5 hx0,hkey]
 ·rw [←h6,List.drop_eq_nil_of_le (by omega)];rfl
noncomputable def zcx:PE:=peR (fun (l:List Bs)=>[.fs 1 (l.map j4)]) (fun (l:List Bs)=>lnW l≤1073741824∧∀ x∈l,x.length≤1048576) (fun (l:List Bs)=>.s (fbk l [] 0 []))
theorem vv {l:List Bs}:zcx [.fs 1 (l.map j4)]=some (lnW l≤1073741824∧∀ x∈l,x.length≤1048576,.s (fbk l [] 0 [])):=yg (by rintro a b h;simp_all [zhi]) l
theorem zfj:PE1 Tryz.prog 351 zcx:=yo (by rintro l hp;exact zti l hp)
theorem ztk (l:List Bs) (fo:Bool) (ch:Int) (hp:lnW l≤1073741824∧∀ x∈l,x.length≤1048576):PF Tryz.prog 334 [.fs 1 (l.map j4),.b fo,.i .i64 ch] (.s (btA l fo ch)):=by
 refine HP zfj.d 70 [[0,1,2],[0,1,2,7],[0,1,2,7,23],[0,1,2,7],[0,1,2,7,8],[0,2,7,8,26],[0,2,7,8],[0,2,7,8,33,34,35],[0,2,7,8,33,34,35,36],[0,2,7,8,9,10,33,34,35],[0,2,7,8,10,33,34,35,41],[0,2,7,8,10,33,34,35],[0,2,7,8,33,34,35],[0,2,7,8,33,34,35],[0,2,7,8,53],[0,2,7,8],[0,2,8,11],[0,2,8,11,64],[0,2,8,11],[0,2,8,11],[6]] Tryz.func334 [.tmp 6] ?_;simp only [↓XC,X1,seval,TES,vv,XR];refine zl.of (ι:={n:Nat // n≤l.length∧lsN l n=lsN l l.length}) (fun x=>⟨[(0,.fs 1 (l.map j4)),(1,.b fo),(2,.i .i64 ch),(7,.i .i64 (x.1:Nat))],[]⟩) (fun x=>x.1) ⟨l.length,Nat.le_refl _,rfl⟩ (Ent.refl _ _) ?_;rintro ⟨n,h1,h2⟩;simp only [↓XC,X1,seval,TES,vv,XR];have hW:=hp.1;have e1:((n:Int)-1).toNat=n-1:=by omega
 have hN:=uh l;simp only [e1,←List.map_take];simp only [↓XC,X1,seval,TES,vv,XR];refine Chk.mk (fun _=>by simp only [inR];omega) fun _=>Chk.mk (fun _=>by omega) fun _=>⟨fun h=>CR fun _=>?_,fun h=>?_⟩
 ·simp only [gt_iff_lt,Bool.and_eq_true,decide_eq_true_eq] at h;refine ⟨⟨n-1,by omega,by rw [←zvv (by omega) h.2];exact h2⟩,by simp only;omega, ?_⟩;rw [show ((n:Int)-1)=((n-1:Nat):Int) by omega];exact Ent.refl _ _
 simp only [gt_iff_lt,Bool.and_eq_false_iff,decide_eq_false_iff_not] at h;have hn:lsN l l.length=n:=by rw [←h2];exact z1g fun h3=>h.resolve_left (by omega)
 have hN2:=zhl l n;have hJ:=zhm (l.take n);have hF:=zoc (l.take n) [] 0 [];simp only [List.length_nil] at hF;have hT:(l.take n).length=n:=by rw [List.length_take];omega
 refine ⟨fun hf=>CO fun _=>Chk.mk ⟨by omega,fun x hx=>hp.2 x (List.mem_of_mem_take hx)⟩ fun _=>?_,fun hf=>CO fun _=>?_⟩
 ·refine ⟨fun h5=>CO fun _=>?_,fun h5=>?_⟩
  ·simp only [Bool.and_eq_true,decide_eq_true_eq,Bool.not_eq_true',decide_eq_false_iff_not] at h5;refine zl.of (ι:={i:Nat // n≤i∧i≤l.length∧(ch≠2→i=n)}) (fun x=>⟨[(0,.fs 1 (l.map j4)),(2,.i .i64 ch),(8,.s ((fbk (l.take n) [] 0 []++[10])++List.replicate (x.1-n) 10)),(11,.i .i64 (x.1:Nat))],[]⟩) (fun x=>l.length-x.1) ⟨n,Nat.le_refl _,h1,fun _=>rfl⟩ (by simp only [Nat.sub_self,List.replicate_zero,List.append_nil];exact Ent.ren1 [] (by decide) (by simp only [kf]) (by simp [ze,Vg.look,SV.mapH,muL])) ?_;rintro ⟨i,hi1,hi2,hi3⟩;simp only [↓XC,X1,seval,TES,XR];refine ⟨fun h=>?_,fun h=>?_⟩
   ·simp only [Bool.and_eq_true,decide_eq_true_eq] at h;refine Chk.mk (by simp only [List.length_append,List.length_replicate,List.length_cons,List.length_nil];omega) fun _=>CR fun _=>⟨⟨i+1,by omega,by omega,fun h9=>absurd h.2 h9⟩,by simp only;omega, ?_⟩
    rw [show List.replicate (i+1-n) (10:UInt8)=List.replicate (i-n) 10++[10] by rw [show i+1-n=(i-n)+1 by omega,List.replicate_succ'],←List.append_assoc];simp only [Int.natCast_add,Int.natCast_one];exact Ent.refl _ _
   ·have hi4:ch=2→i=l.length:=fun h9=>by simp only [Bool.and_eq_false_iff,decide_eq_false_iff_not] at h;omega
    have hb:=zwf (fo:=fo) hn hi1 hi2 hi4 hi3;rw [if_pos ⟨by omega,h5.2⟩,if_pos hf] at hb;rw [hb]
  ·have h5':¬(0<n∧ch≠1):=by intro h9;rw [decide_eq_true (show (n:Int)>0 by omega),decide_eq_false h9.2] at h5;cases h5
   refine zl.of (ι:={i:Nat // n≤i∧i≤l.length∧(ch≠2→i=n)}) (fun x=>⟨[(0,.fs 1 (l.map j4)),(2,.i .i64 ch),(8,.s (fbk (l.take n) [] 0 []++List.replicate (x.1-n) 10)),(11,.i .i64 (x.1:Nat))],[]⟩) (fun x=>l.length-x.1) ⟨n,Nat.le_refl _,h1,fun _=>rfl⟩ (by simp only [Nat.sub_self,List.replicate_zero,List.append_nil];exact Ent.ren1 [] (by decide) (by simp only [kf]) (by simp [ze,Vg.look,SV.mapH,muL])) ?_;rintro ⟨i,hi1,hi2,hi3⟩;simp only [↓XC,X1,seval,TES,XR];refine ⟨fun h=>?_,fun h=>?_⟩
   ·simp only [Bool.and_eq_true,decide_eq_true_eq] at h;refine Chk.mk (by simp only [List.length_append,List.length_replicate,List.length_cons,List.length_nil];omega) fun _=>CR fun _=>⟨⟨i+1,by omega,by omega,fun h9=>absurd h.2 h9⟩,by simp only;omega, ?_⟩
    rw [show List.replicate (i+1-n) (10:UInt8)=List.replicate (i-n) 10++[10] by rw [show i+1-n=(i-n)+1 by omega,List.replicate_succ'],←List.append_assoc];simp only [Int.natCast_add,Int.natCast_one];exact Ent.refl _ _
   ·have hi4:ch=2→i=l.length:=fun h9=>by simp only [Bool.and_eq_false_iff,decide_eq_false_iff_not] at h;omega
    have hb:=zwf (fo:=fo) hn hi1 hi2 hi4 hi3;rw [if_neg h5',if_pos hf] at hb;rw [hb]
 ·have hf2:¬fo=true:=by simpa using hf
  refine zl.of (ι:={j:Nat // j≤n}) (fun x=>⟨[(0,.fs 1 (l.map j4)),(2,.i .i64 ch),(7,.i .i64 (n:Nat)),(8,.s (Lib.join (l.take x.1) [10])),(33,.fs 1 ((l.take n).map j4)),(34,.i .i64 ((l.take n).length:Nat)),(35,.i .i64 (x.1:Nat))],[]⟩) (fun x=>n-x.1) ⟨0,Nat.zero_le _⟩ (Ent.refl _ _) ?_;rintro ⟨j,hj⟩;simp only [↓XC,X1,seval,TES,XR];have hJj:=zhm (l.take j);have hLj:=zhl l j;refine ⟨fun h=>?_,fun h=>?_⟩
  ·have hjn:j<n:=by omega
   have eG:(l.take n).getD j []=l.getD j []:=by rw [List.getD_eq_getElem?_getD,List.getD_eq_getElem?_getD,List.getElem?_take_of_lt hjn]
   have hx:(l.getD j []).length≤1048576:=hp.2 _ (by rw [List.getD_eq_getElem?_getD,List.getElem?_eq_getElem (show j<l.length by omega)];exact List.getElem_mem _);have eJ:=z1u (l:=l) (i:=j) (by omega);rw [eG];refine CO fun _=>⟨fun h0=>CO fun _=>CO fun _=>CR fun _=>⟨⟨j+1,hjn⟩,by simp only;omega, ?_⟩,fun h0=>CO fun _=>CR fun _=>⟨⟨j+1,hjn⟩,by simp only;omega, ?_⟩⟩
   ·simp only;rw [eJ,if_neg (by omega)];simp only [Int.natCast_add,Int.natCast_one];exact Ent.refl _ _
   ·obtain rfl:j=0:=by omega
    simp only;rw [eJ,if_pos rfl];exact Ent.refl _ _
  obtain rfl:j=n:=by omega
  have hi1:True:=trivial;refine ⟨fun h5=>CO fun _=>?_,fun h5=>?_⟩
  ·simp only [Bool.and_eq_true,decide_eq_true_eq,Bool.not_eq_true',decide_eq_false_iff_not] at h5;refine zl.of (ι:={i:Nat // j≤i∧i≤l.length∧(ch≠2→i=j)}) (fun x=>⟨[(0,.fs 1 (l.map j4)),(2,.i .i64 ch),(8,.s ((Lib.join (l.take j) [10]++[10])++List.replicate (x.1-j) 10)),(11,.i .i64 (x.1:Nat))],[]⟩) (fun x=>l.length-x.1) ⟨j,Nat.le_refl _,h1,fun _=>rfl⟩ (by simp only [Nat.sub_self,List.replicate_zero,List.append_nil];exact Ent.ren1 [] (by decide) (by simp only [kf]) (by simp [ze,Vg.look,SV.mapH,muL])) ?_;rintro ⟨i,hi1,hi2,hi3⟩;simp only [↓XC,X1,seval,TES,XR];refine ⟨fun h=>?_,fun h=>?_⟩
   ·simp only [Bool.and_eq_true,decide_eq_true_eq] at h;refine Chk.mk (by simp only [List.length_append,List.length_replicate,List.length_cons,List.length_nil];omega) fun _=>CR fun _=>⟨⟨i+1,by omega,by omega,fun h9=>absurd h.2 h9⟩,by simp only;omega, ?_⟩
    rw [show List.replicate (i+1-j) (10:UInt8)=List.replicate (i-j) 10++[10] by rw [show i+1-j=(i-j)+1 by omega,List.replicate_succ'],←List.append_assoc];simp only [Int.natCast_add,Int.natCast_one];exact Ent.refl _ _
   ·have hi4:ch=2→i=l.length:=fun h9=>by simp only [Bool.and_eq_false_iff,decide_eq_false_iff_not] at h;omega
    have hb:=zwf (fo:=fo) hn hi1 hi2 hi4 hi3;rw [if_pos ⟨by omega,h5.2⟩,if_neg hf2] at hb;rw [hb]
  ·have h5':¬(0<j∧ch≠1):=by intro h9;rw [decide_eq_true (show (j:Int)>0 by omega),decide_eq_false h9.2] at h5;cases h5
   refine zl.of (ι:={i:Nat // j≤i∧i≤l.length∧(ch≠2→i=j)}) (fun x=>⟨[(0,.fs 1 (l.map j4)),(2,.i .i64 ch),(8,.s (Lib.join (l.take j) [10]++List.replicate (x.1-j) 10)),(11,.i .i64 (x.1:Nat))],[]⟩) (fun x=>l.length-x.1) ⟨j,Nat.le_refl _,h1,fun _=>rfl⟩ (by simp only [Nat.sub_self,List.replicate_zero,List.append_nil];exact Ent.ren1 [] (by decide) (by simp only [kf]) (by simp [ze,Vg.look,SV.mapH,muL])) ?_;rintro ⟨i,hi1,hi2,hi3⟩;simp only [↓XC,X1,seval,TES,XR];refine ⟨fun h=>?_,fun h=>?_⟩
   ·simp only [Bool.and_eq_true,decide_eq_true_eq] at h;refine Chk.mk (by simp only [List.length_append,List.length_replicate,List.length_cons,List.length_nil];omega) fun _=>CR fun _=>⟨⟨i+1,by omega,by omega,fun h9=>absurd h.2 h9⟩,by simp only;omega, ?_⟩
    rw [show List.replicate (i+1-j) (10:UInt8)=List.replicate (i-j) 10++[10] by rw [show i+1-j=(i-j)+1 by omega,List.replicate_succ'],←List.append_assoc];simp only [Int.natCast_add,Int.natCast_one];exact Ent.refl _ _
   ·have hi4:ch=2→i=l.length:=fun h9=>by simp only [Bool.and_eq_false_iff,decide_eq_false_iff_not] at h;omega
    have hb:=zwf (fo:=fo) hn hi1 hi2 hi4 hi3;rw [if_neg h5',if_neg hf2] at hb;rw [hb]
noncomputable def zcz:PE:=peR (fun (x:List Bs×Bool×Int)=>match x with | (l,fo,ch)=>[.fs 1 (l.map j4),.b fo,.i .i64 ch]) (fun (x:List Bs×Bool×Int)=>match x with | (l,fo,ch)=>lnW l≤1073741824∧∀ x∈l,x.length≤1048576) (fun (x:List Bs×Bool×Int)=>match x with | (l,fo,ch)=>.s (btA l fo ch))
theorem wa {l:List Bs} {fo:Bool} {ch:Int}:zcz [.fs 1 (l.map j4),.b fo,.i .i64 ch]=some (lnW l≤1073741824∧∀ x∈l,x.length≤1048576,.s (btA l fo ch)):=yg (by rintro ⟨a0,a1,a2⟩ ⟨b0,b1,b2⟩ h;simp_all [zhi]) (l,fo,ch)
theorem zfl:PE1 Tryz.prog 334 zcz:=yo (by rintro ⟨l,fo,ch⟩ hp;exact ztk l fo ch hp)
end Go.T
end
