/- Own text: part UAZ. -/
import Derived.Test.YtgippllfnmdnpaaGreatDoorUAY
set_option linter.all false
section
namespace Go.T
variable [Go.Vg.Glob] [Go.Vg.GlobTabs 0 1]
open Go.Proofs Go.Vg Go.RowKit Go.TT Go.Pl
set_option maxRecDepth 10000
set_option maxHeartbeats 4000000
theorem zyb (s:Bs) (p:Int) (hp:s.length≤1048576):PF Tryz.prog 188 [.s s,.i .i64 p] (.i .i64 (inA s (spot s p):Nat)):=by
 refine HP (kj.c zt.d) 20 [[0,1],[0,5],[0,5,6],[0,5,6,14],[0,5,6],[4]] Tryz.func188 [.tmp 4] ?_;simp only [↓XC,X1,seval,TES,wt,zc];have h0:=yh s p;have hl:=zfq s (spot s p);refine Chk.mk hp fun _=>?_;refine zl.of (ι:={q:Nat // la s (spot s p)≤q∧q≤s.length∧bl s q=bl s (la s (spot s p))}) (fun x=>⟨[(0,.s s),(5,.i .i64 (la s (spot s p):Nat)),(6,.i .i64 (x.1:Nat))],[]⟩) (fun x=>s.length-x.1) ⟨la s (spot s p),Nat.le_refl _,by omega,rfl⟩ (Ent.refl _ _) ?_;rintro ⟨q,hq1,hq2,hw⟩;simp only [↓XC,X1,seval,TES,zc];rw [zg s hq2];refine Chk.mk hp fun _=>⟨fun h=>CR fun _=>?_,fun h=>CR fun _=>?_⟩
 ·have hl2:=zm h (by decide);exact ⟨⟨q+1,by omega,by omega,by rw [←bl_t h];exact hw⟩,by simp only;omega,(by first | exact Ent.refl _ _ | (simp only [Int.natCast_add,Int.natCast_one];exact Ent.refl _ _))⟩
 ·rw [show inA s (spot s p)=q-la s (spot s p) by unfold inA;rw [←hw,bl_f h],Int.ofNat_sub hq1]
noncomputable def zd8:=qsi (fun s p=>s.length≤1048576) fun s p=>.i .i64 (inA s (spot s p):Nat)
theorem qy {s} {p}:zd8 [.s s,.i .i64 p]=some (s.length≤1048576,.i .i64 (inA s (spot s p):Nat)):=y7
theorem xi:PE1 Tryz.prog 188 zd8:=y6 zyb
theorem zya (s:Bs) (p:Int) (hp:s.length≤1048576):PF Tryz.prog 333 [.s s,.i .i64 p] (.i .i64 (inA s (spot s p):Nat)):=by
 refine HP ki.d 27 [[0,1],[0,5],[0,5,6],[0,5,6,23],[0,5,6],[4]] Tryz.func333 [.tmp 4] ?_;simp only [↓XC,X1,seval,TES,ws];have h0:=yh s p;have hl:=zfq s (spot s p);refine Chk.mk hp fun _=>?_;refine zl.of (ι:={n:Nat // la s (spot s p)+n≤s.length∧bl s (la s (spot s p)+n)=bl s (la s (spot s p))}) (fun x=>⟨[(0,.s s),(5,.i .i64 (la s (spot s p):Nat)),(6,.i .i64 (x.1:Nat))],[]⟩) (fun x=>s.length-x.1) ⟨0,by omega,rfl⟩ (Ent.refl _ _) ?_;rintro ⟨n,hq,hw⟩;simp only [↓XC,X1,seval,TES];unfold inA;generalize la s (spot s p)=a at *;have e2:((a:Int)+n).toNat=a+n:=by omega
 rw [e2];have hd:(decide ((a:Int)+n<s.length)&&decide (((s.getD (a+n) 0).toNat:Int)=32))=decide (byt s (a+n)=32):=by
  rcases Nat.lt_or_ge (a+n) s.length with h6 | h6
  ·rw [←zw h6,decide_eq_true (show (a:Int)+n<s.length by omega),Bool.true_and]
  ·rw [qk h6,decide_eq_false (show ¬(a:Int)+n<s.length by omega)];rfl
 rw [hd];refine CR fun _=>Chk.mk (fun _=>by simp only [inR];omega) fun _=>Chk.mk (fun h=>by omega) fun _=>⟨fun h=>CR fun _=>?_,fun h=>?_⟩
 ·have h':=of_decide_eq_true h;have hl2:=zm h' (by decide);exact ⟨⟨n+1,by omega,by rw [←Nat.add_assoc,←bl_t h'];exact hw⟩,by simp only;omega,(by first | exact Ent.refl _ _ | (simp only [Int.natCast_add,Int.natCast_one];exact Ent.refl _ _))⟩
 ·have h':=of_decide_eq_false h;rw [←hw,bl_f h',Nat.add_sub_cancel_left]
noncomputable def zd7:=qsi (fun s p=>s.length≤1048576) fun s p=>.i .i64 (inA s (spot s p):Nat)
theorem qm {s} {p}:zd7 [.s s,.i .i64 p]=some (s.length≤1048576,.i .i64 (inA s (spot s p):Nat)):=y7
theorem xh:PE1 Tryz.prog 333 zd7:=y6 zya
theorem Gap_i (s:Bs) (p:Int) (hp:s.length≤1048576):PF Tryz.prog 143 [.s s,.i .i64 p] (.i .i64 (gpE s (spot s p):Nat)):=by
 refine HP (yd.c (zt.c (ja.c (kj.c jt.d)))) 47 [[0,1],[0,1],[0,1,12],[0,1,5],[4],[0,1,5,17],[0,1],[0,1,26],[0,1],[4]] Tryz.func143 [.tmp 4] ?_;simp only [↓XC,X1,seval,TES,ye,zc,zy,wt,qn];refine zl.of (ι:={q:Nat // q≤s.length∧gpE s q=gpE s (spot s p)}) (fun x=>⟨[(0,.s s),(1,.i .i64 (x.1:Nat))],[]⟩) (fun x=>s.length-x.1) ⟨spot s p,yh s p,rfl⟩ (Ent.refl _ _) ?_;rintro ⟨q,hq,hw⟩;simp only [↓XC,X1,seval,TES,zc,zy,wt,qn];have e2:spot s ((q:Int)-1)=q-1:=by unfold spot;omega
 rw [zg s hq,e2];have hA:(byt s q==32||byt s q==9||decide (byt s q=10))=decide (isW s q=true∨byt s q=10):=by rw [Bool.decide_or,show (byt s q==32||byt s q==9)=isW s q from rfl,Bool.decide_eq_true]
 have hC:(decide (byt s q=35)&&(decide ((la s q:Int)=(q:Int))||(byt s (q-1)==32||byt s (q-1)==9)))=gpC s q:=by unfold gpC isW;rw [show decide ((la s q:Int)=(q:Int))=decide (la s q=q) from by rw [decide_eq_decide];omega]
 rw [hA,hC];refine ⟨fun hl=>Chk.mk hp fun _=>⟨fun h=>CR fun _=>?_,fun h=>Chk.mk (fun h=>⟨⟨h,h⟩,hp⟩) fun _=>Chk.mk (fun _=>by simp only [inR];omega) fun _=>Chk.mk (fun h=>⟨⟨h,h⟩,hp⟩) fun _=>⟨fun hc=>Chk.mk hp fun _=>?_,fun hc=>?_⟩⟩,fun hl=>?_⟩
 ·exact ⟨⟨q+1,by omega,by rw [←gpE_w (of_decide_eq_true h)];exact hw⟩,by simp only;omega,(by first | exact Ent.refl _ _ | (simp only [Int.natCast_add,Int.natCast_one];exact Ent.refl _ _))⟩
 ·have hg:=z2f (isB_35 (by simp [gpC] at hc;exact hc.1));exact ⟨⟨en s q,uo s q hq,by rw [←gpE_c hc];exact hw⟩,by simp only;omega,Ent.refl _ _⟩
 ·rw [←hw,gpE_f (of_decide_eq_false h) hc]
 ·rw [←hw,zsz (by omega)]
noncomputable def zu6:=qsi (fun s p=>s.length≤1048576) fun s p=>.i .i64 (gpE s (spot s p):Nat)
theorem z1 {s} {p}:zu6 [.s s,.i .i64 p]=some (s.length≤1048576,.i .i64 (gpE s (spot s p):Nat)):=y7
theorem ue:PE1 Tryz.prog 143 zu6:=y6 Gap_i
theorem Gap_s2 (s:Bs) (p:Int) (hp:s.length≤1048576):PF Tryz.prog 83 [.s s,.i .i64 p] (.i .i64 (gpE s (spot s p):Nat)):=by
 refine HP (yl.c (qi.c (ki.c (j0.c kc.d)))) 51 [[0,1],[0,1],[0,5],[0,5,34],[0,5],[0,5,47],[4],[0,1]] Tryz.func83 [.tmp 4] ?_;simp only [↓XC,X1,seval,TES,yn,zj,ws,ql,yw];refine zl.of (ι:={q:Nat // q≤s.length∧gpE s q=gpE s (spot s p)}) (fun x=>⟨[(0,.s s),(1,.i .i64 (x.1:Nat))],[]⟩) (fun x=>s.length+1-x.1) ⟨spot s p,yh s p,rfl⟩ (Ent.refl _ _) ?_;rintro ⟨q,hq,hw⟩;simp only [↓XC,X1,seval,TES,zj,ws,ql,yw];have hwl:=jg s q hq;have hwg:=jh s q;have hgw:=zv1 s q;have hnw:=zyn s q;have hll:=zfq s (wh s q);rw [zg s hq,zg s hwl];have e2:((wh s q:Int)-1).toNat=wh s q-1:=by omega
 rw [e2];generalize wh s q=w at *;have hC:(decide ((w:Int)<s.length)&&decide (((s.getD w 0).toNat:Int)=35)&&(decide ((la s w:Int)=(w:Int))||isW s (w-1)))=gpC s w:=by
  unfold gpC;rcases Nat.lt_or_ge w s.length with h6 | h6
  ·rw [←zw h6,decide_eq_true (show (w:Int)<s.length by omega),Bool.true_and,show decide ((la s w:Int)=(w:Int))=decide (la s w=w) from by rw [decide_eq_decide];omega]
  ·rw [qk h6,decide_eq_false (show ¬(w:Int)<s.length by omega)];rfl
 rw [hC];have hel:=uo s w hwl;have heg:=zck s w;have heB:=zv9 s w;have hbn:∀ v:Nat,(decide ((v:Int)≥s.length)||!decide (((s.getD v 0).toNat:Int)=10))=!decide (byt s v=10):=by
  intro v;rcases Nat.lt_or_ge v s.length with h6 | h6
  ·rw [←zw h6,decide_eq_false (show ¬(v:Int)≥s.length by omega),Bool.false_or]
  ·rw [qk h6,decide_eq_true (show (v:Int)≥s.length by omega)];rfl
 rw [hbn,hbn];refine Chk.mk hp fun _=>Chk.mk (fun h=>by omega) fun _=>Chk.mk (fun h=>⟨⟨h,h⟩,hp⟩) fun _=>Chk.mk (fun h=>by simp only [inR];omega) fun _=>Chk.mk (fun h=>⟨⟨h,h⟩,hp,by simp only [Yi] at h;omega⟩) fun _=>⟨fun hc=>Chk.mk hp fun _=>Chk.mk (fun h=>by simp only [Yi] at h;omega) fun _=>⟨fun hb=>?_,fun hb=>CR fun _=>?_⟩,fun hc=>Chk.mk (fun h=>by simp only [Yi] at h;omega) fun _=>⟨fun hb=>?_,fun hb=>CR fun _=>?_⟩⟩
 ·have hb':¬byt s (en s w)=10:=by simpa using hb
  rw [←hw,←hgw,gpE_c hc,zsz];have:byt s (en s w)<0:=by simpa [isB,hb'] using heB
  have:=z2u.1 this;omega
 ·have hb':byt s (en s w)=10:=by simpa using hb
  have:=zm hb' (by decide);exact ⟨⟨en s w+1,by omega,by rw [←gpE_w (.inr hb'),←gpE_c hc,hgw];exact hw⟩,by simp only;omega,(by first | exact Ent.refl _ _ | (simp only [Int.natCast_add,Int.natCast_one];exact Ent.refl _ _))⟩
 ·have hb':¬byt s w=10:=by simpa using hb
  rw [←hw,←hgw,gpE_f (by rw [hnw];simp [hb']) hc]
 ·have hb':byt s w=10:=by simpa using hb
  have:=zm hb' (by decide);exact ⟨⟨w+1,by omega,by rw [←gpE_w (.inr hb'),hgw];exact hw⟩,by simp only;omega,(by first | exact Ent.refl _ _ | (simp only [Int.natCast_add,Int.natCast_one];exact Ent.refl _ _))⟩
noncomputable def zp8:=qsi (fun s p=>s.length≤1048576) fun s p=>.i .i64 (gpE s (spot s p):Nat)
theorem wu {s} {p}:zp8 [.s s,.i .i64 p]=some (s.length≤1048576,.i .i64 (gpE s (spot s p):Nat)):=y7
theorem ut:PE1 Tryz.prog 83 zp8:=y6 Gap_s2
theorem Lone_i (s:Bs) (p:Int) (hp:s.length≤1048576):PF Tryz.prog 186 [.s s,.i .i64 p] (.b (lnA s (spot s p))):=by refine HP (kj.c (qv.c (zt.c xr.d))) 13 [[0,1],[4]] Tryz.func186 [.tmp 4] ?_;simp only [↓XC,X1,seval,TES,wt,zz,zc,vk];have h0:=yh s p;have hl:=zfq s (spot s p);have hw:=jg s (la s (spot s p)) (by omega);rw [zg s (show la s (spot s p)≤s.length by omega),zg s hw];exact Chk.mk hp fun _=>Chk.mk hp fun _=>Chk.mk hp fun _=>rfl
noncomputable def zp7:=qsi (fun s p=>s.length≤1048576) fun s p=>.b (lnA s (spot s p))
theorem kv {s} {p}:zp7 [.s s,.i .i64 p]=some (s.length≤1048576,.b (lnA s (spot s p))):=y7
theorem zbs:PE1 Tryz.prog 186 zp7:=y6 Lone_i
theorem Lone_s (s:Bs) (p:Int) (hp:s.length≤1048576):PF Tryz.prog 332 [.s s,.i .i64 p] (.b (lnA s (spot s p))):=by refine HP (ki.c (qi.c xx.d)) 12 [[0,1],[4]] Tryz.func332 [.tmp 4] ?_;simp only [↓XC,X1,seval,TES,ws,zj,vm];have h0:=yh s p;have hl:=zfq s (spot s p);rw [zg s (show la s (spot s p)≤s.length by omega)];exact Chk.mk hp fun _=>Chk.mk hp fun _=>Chk.mk ⟨hp,by omega⟩ fun _=>rfl
noncomputable def zp6:=qsi (fun s p=>s.length≤1048576) fun s p=>.b (lnA s (spot s p))
theorem kb {s} {p}:zp6 [.s s,.i .i64 p]=some (s.length≤1048576,.b (lnA s (spot s p))):=y7
theorem zbr:PE1 Tryz.prog 332 zp6:=y6 Lone_s
theorem Close_s (s:Bs) (p:Int) (hp:s.length≤1048576∧0≤p∧p≤s.length+9):PF Tryz.prog 323 [.s s,.i .i64 p] (.i .i64 (if byt s (cl s p.toNat)=62 then (cl s p.toNat:Int)+1 else -1)):=by
 refine HP km.d 17 [[0,1],[0,1,8],[0,1,12],[4],[0,1],[4]] Tryz.func323 [.tmp 4] ?_;simp only [↓XC,X1,seval,TES,z8];refine zl.of (ι:={q:Nat // p.toNat≤q∧q≤s.length+9∧cl s q=cl s p.toNat}) (fun x=>⟨[(0,.s s),(1,.i .i64 (x.1:Nat))],[]⟩) (fun x=>s.length+9-x.1) ⟨p.toNat,Nat.le_refl _,by omega,rfl⟩ (by rw [show ((p.toNat:Nat):Int)=p by omega];exact Ent.refl _ _) ?_;rintro ⟨q,hq1,hq2,hw⟩;simp only [↓XC,X1,seval,TES,z8];refine Chk.mk ⟨hp.1,by omega⟩ fun _=>⟨fun hg=>?_,fun hg=>?_⟩
 ·have hg':gap s q=false:=by simpa using hg
  have hq:=wk hg';rw [←zw hq];refine CO fun _=>⟨fun h=>CR fun _=>?_,fun h=>CR fun _=>?_⟩
  ·rw [←hw,cl_f (by rw [h];simp),if_pos h]
  ·exact ⟨⟨q+1,by omega,by omega,by rw [←cl_t ⟨hg',h⟩];exact hw⟩,by simp only;omega,(by first | exact Ent.refl _ _ | (simp only [Int.natCast_add,Int.natCast_one];exact Ent.refl _ _))⟩
 ·have hg':gap s q=true:=by simpa using hg
  rw [←hw,cl_f (by rw [hg'];simp),if_neg (by intro hb;revert hg';unfold gap isW isB;rw [hb];decide)]
noncomputable def zlz:=qsi (fun s p=>s.length≤1048576∧0≤p∧p≤s.length+9) fun s p=>.i .i64 (if byt s (cl s p.toNat)=62 then (cl s p.toNat:Int)+1 else -1)
theorem zny {s} {p}:zlz [.s s,.i .i64 p]=some (s.length≤1048576∧0≤p∧p≤s.length+9,.i .i64 (if byt s (cl s p.toNat)=62 then (cl s p.toNat:Int)+1 else -1)):=y7
theorem znx:PE1 Tryz.prog 323 zlz:=y6 Close_s
theorem TagAt_i (s:Bs) (p:Int) (hp:s.length≤1048576):PF Tryz.prog 341 [.s s,.i .i64 p] (.tup [.s (tgA s (spot s p)).1,.i .i64 (tgA s (spot s p)).2.1,.b (tgA s (spot s p)).2.2]):=by
 refine HP (yd.c (zt.c (zbj.c kh.d))) 59 [[0,1],[0,1],[0,1,15],[4,5,6],[0,1,7],[0,1,7,23],[0,1,7,8],[0,1,7,8,35],[0,1,7,8],[0,1,7,8,47],[0,1,7],[0,1,7,53],[4,5,6],[4,5,6]] Tryz.func341 [.tmp 4,.tmp 5,.tmp 6] ?_;simp only [↓XC,X1,seval,TES,ye,zc,zbk,zr];have h0:=yh s p;have hsp:=zg s h0;generalize spot s p=a at *;rw [hsp];refine Chk.mk hp fun _=>⟨fun h=>?_,fun h=>?_⟩
 ·rw [zj3 (by rintro ⟨h2,_⟩;simp [h2] at h)]
 have h33:byt s a=33:=by simpa using h
 have hpl:=zhv h33;have hlt:=zm h33 (by decide);have hst:=zy8 h33;have hstl:=zhw s a h0;rw [show byt s (spot s ((a:Int)+1))=byt s (a+1) by rw [vo (by omega)];rfl];refine Chk.mk ⟨hp,by omega,by omega⟩ fun _=>CR fun _=>Chk.mk hp fun _=>⟨fun h60=>CR fun _=>?_,fun h60=>?_⟩
 ·refine zl.of (ι:={q:Nat // a+2≤q∧q≤s.length+1∧cl s q=cl s (a+2)}) (fun x=>⟨[(0,.s s),(1,.i .i64 (a:Nat)),(7,.i .i64 (stc s a:Nat)),(8,.i .i64 (x.1:Nat))],[]⟩) (fun x=>s.length+1-x.1) ⟨a+2,Nat.le_refl _,by omega,rfl⟩ (by simp only [Int.natCast_add];exact Ent.refl _ _) ?_;rintro ⟨q,hq1,hq2,hw⟩;simp only [↓XC,X1,seval,TES,zc,zr];rw [show byt s (spot s (q:Int))=byt s q by rw [vo (by omega)];rfl];have hd:(!decide (byt s q=62)&&!gap s q)=decide (gap s q=false∧¬byt s q=62):=by cases hg:gap s q<;>by_cases hb:byt s q=62<;>simp [hb]
  rw [hd];refine Chk.mk hp fun _=>Chk.mk (fun h=>⟨⟨h,h⟩,hp,by omega⟩) fun _=>⟨fun h=>CR fun _=>?_,fun h=>Chk.mk hp fun _=>Chk.mk (fun _=>by simp only [inR];omega) fun _=>⟨fun hx=>CR fun _=>?_,fun hx=>?_⟩⟩
  ·have h':=of_decide_eq_true h;have:=wk h'.1;exact ⟨⟨q+1,by omega,by omega,by rw [←cl_t h'];exact hw⟩,by simp only;omega,(by first | exact Ent.refl _ _ | (simp only [Int.natCast_add,Int.natCast_one];exact Ent.refl _ _))⟩
  ·have hc:=cl_f (of_decide_eq_false h);simp only [Yi] at hx;have hql:=zm hx.1 (by decide);have hE:tgE s a=q+1:=by unfold tgE;rw [if_pos ⟨h60,by rw [←hw,hc];exact hx.1,by rw [←hw,hc];omega⟩,←hw,hc]
   have e4:((q:Int)+1).toNat=q+1:=by omega
   rw [e4];refine CR fun _=>⟨fun h=>?_,fun h=>CO fun _=>?_⟩
   ·rw [zj3 (by rintro ⟨_,h2⟩;rw [hE] at h2;omega)]
   ·rw [zo2 ⟨h33,by rw [hE];omega⟩,hE];rfl
  ·have hc:=cl_f (of_decide_eq_false h);simp only [Yi] at hx;have hE:tgE s a=stc s a:=by unfold tgE;rw [if_neg (by rintro ⟨_,h2,h3⟩;rw [←hw,hc] at h2 h3;omega)]
   refine CR fun _=>⟨fun h=>?_,fun h=>CO fun _=>?_⟩
   ·rw [zj3 (by rintro ⟨_,h2⟩;rw [hE] at h2;omega)]
   ·rw [zo2 ⟨h33,by rw [hE];omega⟩,hE];rfl
 ·have hE:tgE s a=stc s a:=by unfold tgE;rw [if_neg (fun h=>h60 h.1)]
  refine CR fun _=>⟨fun h=>?_,fun h=>CO fun _=>?_⟩
  ·rw [zj3 (by rintro ⟨_,h2⟩;rw [hE] at h2;omega)]
  ·rw [zo2 ⟨h33,by rw [hE];omega⟩,hE];rfl
noncomputable def zlt:=qsi (fun s p=>s.length≤1048576) fun s p=>.tup [.s (tgA s (spot s p)).1,.i .i64 (tgA s (spot s p)).2.1,.b (tgA s (spot s p)).2.2]
theorem znw {s} {p}:zlt [.s s,.i .i64 p]=some (s.length≤1048576,.tup [.s (tgA s (spot s p)).1,.i .i64 (tgA s (spot s p)).2.1,.b (tgA s (spot s p)).2.2]):=y7
theorem znv:PE1 Tryz.prog 341 zlt:=y6 TagAt_i
theorem TagAt_s (s:Bs) (p:Int) (hp:s.length≤1048576):PF Tryz.prog 287 [.s s,.i .i64 p] (.tup [.s (tgA s (spot s p)).1,.i .i64 (tgA s (spot s p)).2.1,.b (tgA s (spot s p)).2.2]):=by
 refine HP (yl.c (zbh.c znx.d)) 55 [[0,1],[0,1],[0,1,21],[4,5,6],[0,1,7],[0,1,7,36],[0,1,7,8],[0,1,7,8,44],[0,1,7],[0,1,7,49],[4,5,6],[4,5,6]] Tryz.func287 [.tmp 4,.tmp 5,.tmp 6] ?_;simp only [↓XC,X1,seval,TES,yn,zbi,zny];have h0:=yh s p;generalize spot s p=a at *;refine Chk.mk (fun h=>by simp only [Yi] at h;omega) fun _=>⟨fun h=>?_,fun h=>?_⟩
 ·rw [zj3];rintro ⟨h2,_⟩;have hlt:=zm h2 (by decide);rw [zw hlt] at h2;rw [h2,decide_eq_false (show ¬(a:Int)≥s.length by omega)] at h;simp at h
 have hlt:a<s.length:=by simp only [Yi] at h;omega
 have h33:byt s a=33:=by rw [zw hlt];simp only [Yi] at h;omega
 have hpl:=zhv h33;have hst:=zy8 h33;have hstl:=zhw s a h0;have e2:((a:Int)+1).toNat=a+1:=by omega
 have e3:((a:Int)+2).toNat=a+2:=by omega
 rw [e2,e3];have hd:(decide ((a:Int)+1<s.length)&&decide (((s.getD (a+1) 0).toNat:Int)=60))=decide (byt s (a+1)=60):=by
  rcases Nat.lt_or_ge (a+1) s.length with h6 | h6
  ·rw [←zw h6,decide_eq_true (show (a:Int)+1<s.length by omega),Bool.true_and]
  ·rw [qk h6,decide_eq_false (show ¬(a:Int)+1<s.length by omega)];rfl
 rw [hd];have hcg:=cl_ge s (a+2);refine Chk.mk ⟨hp,by omega,by omega⟩ fun _=>CR fun _=>Chk.mk (fun _=>by simp only [inR];omega) fun _=>Chk.mk (fun h=>by omega) fun _=>⟨fun h60=>CR fun _=>Chk.mk ⟨hp,by omega,by omega⟩ fun _=>CR fun _=>?_,fun h60=>?_⟩
 ·have h60':=of_decide_eq_true h60;by_cases hc:byt s (cl s (a+2))=62
  ·rw [if_pos hc];have hcl:=zm hc (by decide);refine ⟨fun hx=>?_,fun hx=>?_⟩
   ·have hE:tgE s a=cl s (a+2)+1:=by unfold tgE;rw [if_pos ⟨h60',hc,by omega⟩]
    have e4:((cl s (a+2):Int)+1).toNat=cl s (a+2)+1:=by omega
    rw [e4];refine CR fun _=>⟨fun h=>?_,fun h=>CO fun _=>?_⟩
    ·rw [zj3 (by rintro ⟨_,h2⟩;rw [hE] at h2;omega)]
    ·rw [zo2 ⟨h33,by rw [hE];omega⟩,hE];rfl
   ·have hE:tgE s a=stc s a:=by unfold tgE;rw [if_neg (by rintro ⟨_,_,h2⟩;omega)]
    refine CR fun _=>⟨fun h=>?_,fun h=>CO fun _=>?_⟩
    ·rw [zj3 (by rintro ⟨_,h2⟩;rw [hE] at h2;omega)]
    ·rw [zo2 ⟨h33,by rw [hE];omega⟩,hE];rfl
  ·rw [if_neg hc];refine ⟨fun hx=>by omega,fun hx=>?_⟩;have hE:tgE s a=stc s a:=by unfold tgE;rw [if_neg (fun h=>hc h.2.1)]
   refine CR fun _=>⟨fun h=>?_,fun h=>CO fun _=>?_⟩
   ·rw [zj3 (by rintro ⟨_,h2⟩;rw [hE] at h2;omega)]
   ·rw [zo2 ⟨h33,by rw [hE];omega⟩,hE];rfl
 ·have hE:tgE s a=stc s a:=by unfold tgE;rw [if_neg (fun h=>of_decide_eq_false h60 h.1)]
  refine CR fun _=>⟨fun h=>?_,fun h=>CO fun _=>?_⟩
  ·rw [zj3 (by rintro ⟨_,h2⟩;rw [hE] at h2;omega)]
  ·rw [zo2 ⟨h33,by rw [hE];omega⟩,hE];rfl
noncomputable def zls:=qsi (fun s p=>s.length≤1048576) fun s p=>.tup [.s (tgA s (spot s p)).1,.i .i64 (tgA s (spot s p)).2.1,.b (tgA s (spot s p)).2.2]
theorem wm {s} {p}:zls [.s s,.i .i64 p]=some (s.length≤1048576,.tup [.s (tgA s (spot s p)).1,.i .i64 (tgA s (spot s p)).2.1,.b (tgA s (spot s p)).2.2]):=y7
theorem znu:PE1 Tryz.prog 287 zls:=y6 TagAt_s
theorem isWord (b:UInt8):PF Tryz.prog 311 [.i .u8 (b.toNat:Nat)] (.b (zjb b)):=by refine HP pn 29 [[0],[2]] Tryz.func311 [.tmp 2] ?_;simp only [↓XC,X1,seval,TES];simp only [SV.b.injEq];unfold zjb;rw [Bool.eq_iff_iff];simp only [Bool.or_eq_true,Bool.and_eq_true,decide_eq_true_eq];omega
noncomputable def zpx:PE:=peR (fun (b:UInt8)=>[.i .u8 (b.toNat:Nat)]) (fun (b:UInt8)=>True) (fun (b:UInt8)=>.b (zjb b))
theorem zgg {b:UInt8}:zpx [.i .u8 (b.toNat:Nat)]=some (True,.b (zjb b)):=yg (by rintro a b h;simp_all [Int.ofNat_inj,UInt8.toNat_inj]) b
theorem zpw:PE1 Tryz.prog 311 zpx:=yo (by rintro b hp;exact isWord b)
theorem nameOk (s:Bs) (hp:s.length≤1048576):PF Tryz.prog 276 [.s s] (.b (nmO s)):=by
 refine HP zpw.d 36 [[0],[0,23],[2],[0,3],[0,3,28],[0,3],[0,3,35],[2],[2]] Tryz.func276 [.tmp 2] ?_;simp only [↓XC,X1,seval,TES,zgg];have hA:∀ x:Nat,x=s.length-1→((decide ((s.length:Int)>60)||decide (s=[])||!decide (((s.getD 0 0).toNat:Int)=33)||!decide (((s.getD x 0).toNat:Int)=33))=false↔(s.length≤60∧s≠[]∧s.getD 0 0=33∧s.getD (s.length-1) 0=33)):=by
  rintro x rfl;have h3:=xp (c:=s.getD 0 0) (n:=33) (by decide);have h4:=xp (c:=s.getD (s.length-1) 0) (n:=33) (by decide);simp only [Int.cast_ofNat_Int] at h3 h4;simp only [h3,h4];simp only [Bool.or_eq_false_iff,decide_eq_false_iff_not,Bool.not_eq_false',decide_eq_true_eq,ne_eq];constructor
  ·rintro ⟨⟨⟨a,b⟩,c⟩,d⟩;exact ⟨by omega,b,c,d⟩
  ·rintro ⟨a,b,c,d⟩;exact ⟨⟨⟨by omega,b⟩,c⟩,d⟩
 have hl0:s≠[]→0<s.length:=fun h=>List.length_pos_iff.2 h;have e1:((s.length:Int)-1).toNat=s.length-1:=by omega
 rw [e1];refine Chk.mk (fun h=>by simp at h;have:=hl0 h.2;omega) fun _=>Chk.mk (fun h=>by simp only [inR];omega) fun _=>Chk.mk (fun h=>by simp at h;have:=hl0 h.1.2;omega) fun _=>⟨fun h=>?_,fun h=>?_⟩
 ·have:¬(s.length≤60∧s≠[]∧s.getD 0 0=33∧s.getD (s.length-1) 0=33):=by rw [←hA _ rfl,h];simp
  rw [nmO,decide_eq_false this];rfl
 have hc:=(hA _ rfl).1 h;have hnm:nmO s=(sub s 1 (s.length-1)).all zjb:=by rw [nmO,decide_eq_true hc];rfl
 have hpos:=hl0 hc.2.1;refine zl.of (ι:={i:Nat // 1≤i∧i≤s.length∧∀ j,1≤j→j<i→zjb (s.getD j 0)=true}) (fun x=>⟨[(0,.s s),(3,.i .i64 (x.1:Nat))],[]⟩) (fun x=>s.length-x.1) ⟨1,Nat.le_refl _,by omega,fun j h1 h2=>by omega⟩ (Ent.refl _ _) ?_;rintro ⟨i,hi1,hi2,hj⟩;simp only [↓XC,X1,seval,TES,zgg];refine CR fun _=>⟨fun hl=>CO fun _=>⟨fun hw=>?_,fun hw=>CR fun _=>?_⟩,fun hl=>?_⟩
 ·have:nmO s=false:=by rw [hnm,Bool.eq_false_iff];intro h9;have:=(zni zjb (by omega)).1 h9 i hi1 (by omega);rw [this] at hw;cases hw
  rw [this]
 ·refine ⟨⟨i+1,by omega,by omega,fun j h1 h2=>?_⟩,by simp only;omega,(by first | exact Ent.refl _ _ | (simp only [Int.natCast_add,Int.natCast_one];exact Ent.refl _ _))⟩;rcases Nat.lt_or_ge j i with h3 | h3
  ·exact hj j h1 h3
  ·obtain rfl:j=i:=by omega
   simpa using hw
 ·have:nmO s=true:=by rw [hnm];exact (zni zjb (by omega)).2 fun j h1 h2=>hj j h1 (by omega)
  rw [this]
noncomputable def zpq:PE:=peR (fun (s:Bs)=>[.s s]) (fun (s:Bs)=>s.length≤1048576) (fun (s:Bs)=>.b (nmO s))
theorem zgd {s:Bs}:zpq [.s s]=some (s.length≤1048576,.b (nmO s)):=yg (by rintro a b h;simp_all []) s
theorem zgc:PE1 Tryz.prog 276 zpq:=yo (by rintro s hp;exact nameOk s hp)
theorem Word_s (s:Bs) (hp:s.length≤1048576):PF Tryz.prog 285 [.s s] (.b (s.all zjb)):=by
 refine HP pn 40 [[0],[0,3],[0,3,8],[0,3],[0,3,4],[0,3,39],[2],[2]] Tryz.func285 [.tmp 2] ?_;simp only [↓XC,X1,seval,TES];refine zl.of (ι:={i:Nat // i≤s.length∧∀ j,j<i→zjb (s.getD j 0)=true}) (fun x=>⟨[(0,.s s),(3,.i .i64 (x.1:Nat))],[]⟩) (fun x=>s.length-x.1) ⟨0,Nat.zero_le _,fun j h2=>by omega⟩ (Ent.refl _ _) ?_;rintro ⟨i,hi2,hj⟩;simp only [↓XC,X1,seval,TES];have hAll:s.all zjb=(sub s 0 s.length).all zjb:=by simp [sub]
 refine ⟨fun hl=>CO fun _=>?_,fun hl=>?_⟩
 ·have hX:∀ b:UInt8,((decide ((b.toNat:Int)<97)||decide ((b.toNat:Int)>122))&&(decide ((b.toNat:Int)<65)||decide ((b.toNat:Int)>90))&&(decide ((b.toNat:Int)<48)||decide ((b.toNat:Int)>57))&&!decide ((b.toNat:Int)=45))=!zjb b:=by intro b;unfold zjb;rw [Bool.eq_iff_iff];simp only [Bool.or_eq_true,Bool.and_eq_true,decide_eq_true_eq,Bool.not_eq_true',decide_eq_false_iff_not,Bool.or_eq_false_iff,Bool.and_eq_false_iff];omega
  rw [hX];refine ⟨fun hw=>?_,fun hw=>CR fun _=>?_⟩
  ·have:s.all zjb=false:=by rw [hAll,Bool.eq_false_iff];intro h9;have:=(zni zjb (Nat.le_refl _)).1 h9 i (by omega) (by omega);rw [this] at hw;cases hw
   rw [this]
  ·refine ⟨⟨i+1,by omega,fun j h2=>?_⟩,by simp only;omega,(by first | exact Ent.refl _ _ | (simp only [Int.natCast_add,Int.natCast_one];exact Ent.refl _ _))⟩;rcases Nat.lt_or_ge j i with h3 | h3
   ·exact hj j h3
   ·obtain rfl:j=i:=by omega
    simpa using hw
 ·have:s.all zjb=true:=by rw [hAll];exact (zni zjb (Nat.le_refl _)).2 fun j h1 h2=>hj j (by omega)
  rw [this]
noncomputable def zp3:PE:=peR (fun (s:Bs)=>[.s s]) (fun (s:Bs)=>s.length≤1048576) (fun (s:Bs)=>.b (s.all zjb))
theorem zp2 {s:Bs}:zp3 [.s s]=some (s.length≤1048576,.b (s.all zjb)):=yg (by rintro a b h;simp_all []) s
theorem zp1:PE1 Tryz.prog 285 zp3:=yo (by rintro s hp;exact Word_s s hp)
theorem NameO_s (s:Bs) (hp:s.length≤1048576):PF Tryz.prog 255 [.s s] (.b (nmO s)):=by
 refine HP zp1.d 37 [[0],[0,9],[2],[0,3],[2]] Tryz.func255 [.tmp 2] ?_;simp only [↓XC,X1,seval,TES,zp2];have h3:=xp (c:=s.getD 0 0) (n:=33) (by decide);have e1:((s.length:Int)-1).toNat=s.length-1:=by omega
 have h4:=xp (c:=s.getD (s.length-1) 0) (n:=33) (by decide);simp only [Int.cast_ofNat_Int] at h3 h4;simp only [e1,h3,h4];refine ⟨fun h=>?_,fun h=>Chk.mk (fun h=>by simp at h;omega) fun _=>Chk.mk (fun h=>by simp only [inR];omega) fun _=>Chk.mk (fun h=>by simp at h;omega) fun _=>Chk.mk (fun h=>by simp only [inR];omega) fun _=>Chk.mk (fun h=>by simp at h;omega) fun _=>Chk.mk (fun h=>⟨h,by simp only [List.length_drop,List.length_take];omega⟩) fun _=>?_⟩
 ·simp only [Bool.or_eq_true,decide_eq_true_eq] at h;rcases h with rfl | rfl<;>rfl
 ·have hn:nmO s=(decide (s.length≤60∧s≠[]∧s.getD 0 0=33∧s.getD (s.length-1) 0=33)&&(sub s 1 (s.length-1)).all zjb):=rfl;rw [hn];simp only [SV.b.injEq];change (_&&(sub s 1 (s.length-1)).all zjb)=_;congr 1;rw [Bool.eq_iff_iff];simp only [Bool.and_eq_true,decide_eq_true_eq,gt_iff_lt,ne_eq];constructor
  ·rintro ⟨⟨⟨a,b⟩,c⟩,d⟩;exact ⟨by omega,fun e=>by subst e;simp at a,c,d⟩
  ·rintro ⟨a,b,c,d⟩;refine ⟨⟨⟨?_,by omega⟩,c⟩,d⟩
   match s,h,b,c,d with
   | [x],h,_,c,_=>simp at c;subst c;simp at h
   | [x,y],h,_,c,d=>simp at c d;subst c;subst d;simp at h
   | x::y::z::r,_,_,_,_=>simp only [List.length_cons];omega
noncomputable def zlu:PE:=peR (fun (s:Bs)=>[.s s]) (fun (s:Bs)=>s.length≤1048576) (fun (s:Bs)=>.b (nmO s))
theorem xu {s:Bs}:zlu [.s s]=some (s.length≤1048576,.b (nmO s)):=yg (by rintro a b h;simp_all []) s
theorem zd6:PE1 Tryz.prog 255 zlu:=yo (by rintro s hp;exact NameO_s s hp)
theorem z3h (raw:Bs) (l:List Hd) (hp:raw.length≤1048576∧l.length≤1048576∧(∀ h∈l,h.pre.length≤1048576)):PF Tryz.prog 342 [.s raw,.fs 2 (l.map hdc)] (.tup [.s (trA raw l).1,.b (trA raw l).2]):=by
 refine HPx (zlg.c zgc.d) 87 [[0,1],[0,1,11],[4,5],[0,1,19],[4,5],[0,1,41],[4,5],[0,1,6],[1,7,8],[1,7,8,59],[4,5],[7,8,60,61,62],[7,8,60,61,62,63],[7,8,10,60,61,62],[7,8,10,60,61,62,69],[8,10,72],[4,5],[4,5],[7,8,60,61,62],[8,78],[8,78,79],[4,5],[8,83],[4,5],[4,5]] Tryz.func342 [.tmp 4,.tmp 5] (fun _=>false) [] [(8,[],[],qe (.q1 4 (.q1 5 (.q1 6 (.q1 7 .fin)))))] ?_;simp only [↓XC,X1,seval,TES,zlh,zgd,XRH];have hlx:=lix_bd raw 33;have h0:=xp (c:=raw.getD 0 0) (n:=33) (by decide);have h1:=xp (c:=raw.getD 1 0) (n:=60) (by decide);have e1:((raw.length:Int)-1).toNat=raw.length-1:=by omega
 have h2:=xp (c:=raw.getD (raw.length-1) 0) (n:=62) (by decide);simp only [Int.cast_ofNat_Int] at h0 h1 h2;have h5:((raw.length:Int)>3)=(3<raw.length):=by apply propext;omega
 simp only [h0,h1,h2,e1,h5];refine Chk.mk (fun h=>Int.ofNat_lt.2 (List.length_pos_iff.2 (by simpa using h))) fun _=>⟨fun h=>?_,fun h=>Chk.mk (fun h=>by omega) fun _=>Chk.mk (fun h=>by simp only [inR];omega) fun _=>Chk.mk (fun h=>by simp at h;omega) fun _=>⟨fun hb=>CR fun _=>Chk.mk (by simp at hb;omega) fun _=>?_,fun hb=>⟨fun hc=>?_,fun hc=>Chk.mk hp.1 fun _=>CR fun _=>⟨by decide +kernel,CO fun _=>CO fun _=>Chk.mk (fun h=>⟨h,by simp only [List.length_take];omega⟩) fun _=>⟨fun hd=>?_,fun hd=>?_⟩⟩⟩⟩⟩
 ·rw [trA_a (by simpa using h)]
 ·rw [trA_b (by simpa using h) (by simpa [and_assoc] using hb)];rfl
 ·subst hc;rw [trA_c]
 ·rw [trA_d (by simpa using h) (by simpa [and_assoc] using hb) hc,if_pos (by simpa using hd)]
 have hD:=trA_d (l:=l) (by simpa using h) (by simpa [and_assoc] using hb) hc;rw [if_neg (by simpa using hd)] at hD;generalize List.take (lix raw 33+1).toNat raw=nm at *;have hrl:(List.drop (lix raw 33+1).toNat raw).length≤1048576:=by simp only [List.length_drop];omega
 generalize List.drop (lix raw 33+1).toNat raw=rs at *;refine zl.of (ι:={i:Nat // i≤l.length∧hdF nm rs (l.drop i)=hdF nm rs l}) (fun x=>⟨[(7,.s nm),(8,.s rs),(60,.fs 2 (l.map hdc)),(61,.i .i64 (l.length:Nat)),(62,.i .i64 (x.1:Nat))],[]⟩) (fun x=>l.length-x.1) ⟨0,Nat.zero_le _,rfl⟩ (Ent.refl _ _) ?_;rintro ⟨i,hi,hd2⟩;simp only [↓XC,X1,seval,TES,XRH];refine ⟨fun hl=>CO fun _=>?_,fun hl=>?_⟩
 ·have hs:=hdF_drop (name:=nm) (rest:=rs) (l:=l) (i:=i) (by omega);have hpl:=hp.2.2 (l.getD i hdz) (zv4 (by omega));refine ⟨fun hn=>⟨fun he=>?_,fun he=>CO fun _=>?_⟩,fun hn=>CR fun _=>⟨⟨i+1,by omega, ?_⟩,by simp only;omega,(by (try simp only [Int.natCast_add,Int.natCast_one]);exact Ent.nil (by simp [ze,Vg.look,SV.mapH]))⟩⟩
  ·rw [hD,←hd2,hs,if_pos hn,if_pos he]
  ·rw [hD,←hd2,hs,if_pos hn,if_neg he]
  ·rw [←hd2,hs,if_neg hn]
 ·rw [hD,←hd2,List.drop_of_length_le (by omega)];refine ⟨fun h3=>CO fun _=>?_,fun h3=>⟨fun h4=>CO fun _=>?_,fun h4=>?_⟩⟩
  ·unfold hdF;rw [if_pos h3];rfl
  ·unfold hdF;rw [if_neg h3,if_pos h4];rfl
  ·unfold hdF;rw [if_neg h3,if_neg h4]
noncomputable def zgi:PE:=peR (fun (x:Bs×List Hd)=>match x with | (raw,l)=>[.s raw,.fs 2 (l.map hdc)]) (fun (x:Bs×List Hd)=>match x with | (raw,l)=>raw.length≤1048576∧l.length≤1048576∧(∀ h∈l,h.pre.length≤1048576)) (fun (x:Bs×List Hd)=>match x with | (raw,l)=>.tup [.s (trA raw l).1,.b (trA raw l).2])
theorem zbn {raw:Bs} {l:List Hd}:zgi [.s raw,.fs 2 (l.map hdc)]=some (raw.length≤1048576∧l.length≤1048576∧(∀ h∈l,h.pre.length≤1048576),.tup [.s (trA raw l).1,.b (trA raw l).2]):=yg (by rintro ⟨a0,a1⟩ ⟨b0,b1⟩ h;simp_all [zsy]) (raw,l)
theorem zie:PE1 Tryz.prog 342 zgi:=yo (by rintro ⟨raw,l⟩ hp;exact z3h raw l hp)
theorem Prefix_s (raw:Bs) (l:List Hd) (hp:l.length≤1048576):PF Tryz.prog 324 [.s raw,.fs 2 (l.map hdc)] (.s (hdP raw l)):=by
 refine HP pn 25 [[0,1],[0,7,8,9],[0,7,8,9,10],[0,6,7,8,9],[0,6,7,8,9,16],[4],[0,7,8,9],[20],[20,21],[4],[23],[4],[4]] Tryz.func324 [.tmp 4] ?_;simp only [↓XC,X1,seval,TES,XRH];refine zl.of (ι:={i:Nat // i≤l.length∧hdP raw (l.drop i)=hdP raw l}) (fun x=>⟨[(0,.s raw),(7,.fs 2 (l.map hdc)),(8,.i .i64 (l.length:Nat)),(9,.i .i64 (x.1:Nat))],[]⟩) (fun x=>l.length-x.1) ⟨0,Nat.zero_le _,rfl⟩ (Ent.refl _ _) ?_;rintro ⟨i,hi,hd⟩;simp only [↓XC,X1,seval,TES,XRH];refine ⟨fun hl=>CO fun _=>?_,fun hl=>?_⟩
 ·have hs:=hdP_drop (name:=raw) (l:=l) (i:=i) (by omega);refine ⟨fun hn=>?_,fun hn=>CR fun _=>⟨⟨i+1,by omega, ?_⟩,by simp only;omega,(by (try simp only [Int.natCast_add,Int.natCast_one]);exact Ent.nil (by simp [ze,Vg.look,SV.mapH]))⟩⟩
  ·rw [←hd,hs,if_pos hn]
  ·rw [←hd,hs,if_neg hn]
 ·rw [←hd,List.drop_of_length_le (by omega)];refine ⟨fun h3=>?_,fun h3=>⟨fun h4=>?_,fun h4=>?_⟩⟩
  ·unfold hdP;rw [if_pos h3]
  ·unfold hdP;rw [if_neg h3,if_pos h4]
  ·unfold hdP;rw [if_neg h3,if_neg h4]
noncomputable def zih:PE:=peR (fun (x:Bs×List Hd)=>match x with | (raw,l)=>[.s raw,.fs 2 (l.map hdc)]) (fun (x:Bs×List Hd)=>match x with | (raw,l)=>l.length≤1048576) (fun (x:Bs×List Hd)=>match x with | (raw,l)=>.s (hdP raw l))
theorem zcu {raw:Bs} {l:List Hd}:zih [.s raw,.fs 2 (l.map hdc)]=some (l.length≤1048576,.s (hdP raw l)):=yg (by rintro ⟨a0,a1⟩ ⟨b0,b1⟩ h;simp_all [zsy]) (raw,l)
theorem zke:PE1 Tryz.prog 324 zih:=yo (by rintro ⟨raw,l⟩ hp;exact Prefix_s raw l hp)
theorem z3g (raw:Bs) (l:List Hd) (hp:raw.length≤1048576∧l.length≤1048576∧(∀ h∈l,h.pre.length≤1048576)):PF Tryz.prog 289 [.s raw,.fs 2 (l.map hdc)] (.tup [.s (trA raw l).1,.b (trA raw l).2]):=by
 refine HP (zke.c zd6.d) 70 [[0,1],[0,1,6],[0,1,6,17],[4,5],[0,1,6,19],[4,5],[0,1,6,33],[4,5],[0,1,6,7],[0,1,6,7,43],[0,1,6,7],[0,6,7,8],[0,7,8,64],[4,5],[4,5]] Tryz.func289 [.tmp 4,.tmp 5] ?_;simp only [↓XC,X1,seval,TES,zcu,xu,XRH];have hlx:=lix_bd raw 33;have h0:=xp (c:=raw.getD 0 0) (n:=33) (by decide);have h1:=xp (c:=raw.getD 1 0) (n:=60) (by decide);have e1:((raw.length:Int)-1).toNat=raw.length-1:=by omega
 have h2:=xp (c:=raw.getD (raw.length-1) 0) (n:=62) (by decide);simp only [Int.cast_ofNat_Int] at h0 h1 h2;have h5:((raw.length:Int)>3)=(3<raw.length):=by apply propext;omega
 simp only [h0,h1,h2,e1,h5];have hl0:(raw.length:Int)=0↔raw=[]:=by rw [←List.length_eq_zero_iff];omega
 simp only [hl0];refine Chk.mk (fun h=>Int.ofNat_lt.2 (List.length_pos_iff.2 (by simpa using h))) fun _=>⟨fun h=>?_,fun h=>⟨fun hc=>?_,fun hc=>Chk.mk (fun h=>by omega) fun _=>Chk.mk (fun h=>by simp only [inR];omega) fun _=>Chk.mk (fun h=>by simp at h;omega) fun _=>⟨fun hb=>CR fun _=>Chk.mk (by simp at hb;omega) fun _=>?_,fun hb=>?_⟩⟩⟩
 ·rw [trA_a (by simpa using h)]
 ·subst hc;rw [trA_c]
 ·rw [trA_b (by simpa using h) (by simpa [and_assoc] using hb)];rfl
 have hD:=trA_d (l:=l) (by simpa using h) (by simpa [and_assoc] using hb) hc;have hne:raw≠[]∧raw.getD 0 0=33:=by simpa using h
 have hpos:=List.length_pos_iff.2 hne.1;have h00:((raw.getD 0 0).toNat:Int)=33:=by rw [hne.2];rfl
 refine zl.of (ι:={k:Nat // 1≤k∧k≤raw.length∧lixU raw 33 k=lix raw 33}) (fun x=>⟨[(0,.s raw),(1,.fs 2 (l.map hdc)),(6,.i .i64 (raw.length:Nat)),(7,.i .i64 (x.1:Nat))],[]⟩) (fun x=>x.1) ⟨raw.length,hpos,Nat.le_refl _,rfl⟩ (Ent.refl _ _) ?_;rintro ⟨k,hk1,hk2,hk⟩;simp only [↓XC,X1,seval,TES,zcu,xu,XRH];obtain ⟨j,rfl⟩:∃ j,k=j+1:=⟨k-1,by omega⟩
 have e3:(((j+1:Nat):Int)-1).toNat=j:=by omega
 have e4:((j+1:Nat):Int)-1=(j:Nat):=by omega
 rw [e3,e4];refine CR fun _=>CO fun _=>⟨fun hn=>CR fun _=>⟨⟨j, ?_,by omega,by rw [←z1j (by simpa using hn)];exact hk⟩,by simp only;omega,Ent.refl _ _⟩,fun hn=>?_⟩
 ·rcases Nat.eq_zero_or_pos j with h9 | h9
  ·subst h9;exact absurd h00 (by simpa using hn)
  ·exact h9
 ·rw [lixU_hit (by simpa using hn)] at hk;have ek:(lix raw 33+1).toNat=j+1:=by omega
  have hlp:=z1z (name:=raw.take (j+1)) (l:=l) (N:=1048576) (by decide) hp.2.2;rw [ek,hdF_P] at hD;have hde:List.drop (j+1) raw=[]↔((j+1:Nat):Int)=raw.length:=by rw [←List.length_eq_zero_iff,List.length_drop];omega
  have hdl:(List.drop (j+1) raw).length≤1048576:=by simp only [List.length_drop];omega
  have htl:(List.take (j+1) raw).length≤1048576:=by simp only [List.length_take];omega
  refine CO fun _=>Chk.mk hp.2.1 fun _=>Chk.mk (fun _=>by omega) fun _=>Chk.mk (fun h=>⟨h,htl⟩) fun _=>⟨fun hx=>?_,fun hx=>CO fun _=>CO fun _=>?_⟩
  ·rw [hD];simp only [Bool.or_eq_true,decide_eq_true_eq,Bool.not_eq_true'] at hx;rw [←hde] at hx;by_cases h9:List.drop (j+1) raw=[]∨nmO (raw.take (j+1))=false
   ·rw [if_pos h9]
   ·rw [if_neg h9,if_pos (by rcases hx with hx | hx;exact absurd hx h9;exact hx)]
  ·simp only [Bool.or_eq_false_iff,decide_eq_false_iff_not,Bool.not_eq_false'] at hx;rw [hD,if_neg (by rintro (h9 | h9);exact hx.1.1 (hde.1 h9);rw [hx.1.2] at h9;cases h9),if_neg hx.2]
noncomputable def zgh:PE:=peR (fun (x:Bs×List Hd)=>match x with | (raw,l)=>[.s raw,.fs 2 (l.map hdc)]) (fun (x:Bs×List Hd)=>match x with | (raw,l)=>raw.length≤1048576∧l.length≤1048576∧(∀ h∈l,h.pre.length≤1048576)) (fun (x:Bs×List Hd)=>match x with | (raw,l)=>.tup [.s (trA raw l).1,.b (trA raw l).2])
theorem qw {raw:Bs} {l:List Hd}:zgh [.s raw,.fs 2 (l.map hdc)]=some (raw.length≤1048576∧l.length≤1048576∧(∀ h∈l,h.pre.length≤1048576),.tup [.s (trA raw l).1,.b (trA raw l).2]):=yg (by rintro ⟨a0,a1⟩ ⟨b0,b1⟩ h;simp_all [zsy]) (raw,l)
theorem zid:PE1 Tryz.prog 289 zgh:=yo (by rintro ⟨raw,l⟩ hp;exact z3g raw l hp)
end Go.T
end
