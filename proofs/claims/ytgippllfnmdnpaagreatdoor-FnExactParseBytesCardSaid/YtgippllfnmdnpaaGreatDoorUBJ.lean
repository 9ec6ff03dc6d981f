/- Own text: part UBJ. -/
import Derived.Test.YtgippllfnmdnpaaGreatDoorUBI
import Derived.Test.YtgippllfnmdnpaaGreatDoorUBC
import Derived.Test.YtgippllfnmdnpaaGreatDoorUBG
import Derived.Test.YtgippllfnmdnpaaGreatDoorUAR
set_option linter.all false
section
namespace Go.T
variable [Go.Vg.Glob] [Go.Vg.GlobTabs 0 1]
open Go.Proofs Go.Vg Go.RowKit Go.TT Go.Pl
set_option maxRecDepth 10000
set_option maxHeartbeats 4000000
theorem ztg (s:Bs) (p n:Int) (hp:s.length≤60000 ∧ -1≤n∧n≤60000):PF Tryz.prog 301 [.s s,.i .i64 p,.i .i64 n] (.tup [.s (liA s (spot s p) n).1,.i .i64 ((liA s (spot s p) n).2.1:Nat),.i .i64 (liA s (spot s p) n).2.2]):=by
 refine HP (yl.c (zkj.c (zdy.c (zj7.c (wd.c (zbr.c (xh.c (kc.c zfl.d)))))))) 122 [[0,1,2],[0,1,2],[0,1,2,9,10,11,12],[0,1,2,9,10,11,12,30],[6,7,8],[0,2,9,10,11,13],[0,2,9,10,11,13],[0,2,9,10,11,13,14],[0,2,9,10,11,13,14,15],[0,2,9,10,11,13,14,15,47],[0,2,9,10,11,13,14,15],[0,2,9,10,11,13,14,15,54],[0,2,10,11,13,14,15],[0,10,11,13,14,15,59],[0,10,11,13,14,15],[0,10,11,13,14,15,16],[0,10,11,13,14,15,16,70],[0,10,11,13,14,15,16,17],[0,10,11,13,14,15,16,17,82],[0,10,11,13,14,15,16,17],[0,10,11,13,14,15,16,99],[0,10,11,13,14,15,16],[0,10,11,13,14,15,16],[0,10,11,13,14,15,16],[6,7,8]] Tryz.func301 [.tmp 6,.tmp 7,.tmp 8] ?_;simp only [↓XC,X1,seval,TES,yn,zkk,jp,zj8,zh,kb,qm,yw,wa,XR];have h0:=yh s p;generalize spot s p=q0 at *;have hs:s.length≤1048576:=by omega
 rw [zg s h0];refine Chk.mk hs fun _=>⟨fun h=>?_,fun h=>?_⟩
 ·unfold liA;rw [if_pos (by simpa using h)]
 have hz:(hdA s q0).2.2.2=0:=by simpa using h
 have hql:q0<s.length:=by
  unfold hdA at hz;split at hz
  ·rename_i h1;rcases h1 with h1 | h1
   ·exact zm h1 (by decide)
   ·exact zm h1 (by decide)
  ·cases hz
 obtain ⟨⟨x,hx1,hx2⟩,hd0,hd9⟩:=z10 hql hz;have hqe:=(zje hql).2.1;have hli:liA s q0 n=(btA (ltL s (ltD s n (hdA s q0).1 (bhL s (hdA s q0).2.2.1)).1 (ltD s n (hdA s q0).1 (bhL s (hdA s q0).2.2.1)).2 (bhL s (hdA s q0).2.2.1)).1 (decide (byt s q0=62)) (hdA s q0).2.1,(ltL s (ltD s n (hdA s q0).1 (bhL s (hdA s q0).2.2.1)).1 (ltD s n (hdA s q0).1 (bhL s (hdA s q0).2.2.1)).2 (bhL s (hdA s q0).2.2.1)).2,0):=by unfold liA;rw [if_neg (by simpa using hz)]
 rw [hli];rw [zg s hqe];have hee:bhL s (en s (hdA s q0).2.2.1)=bhL s (hdA s q0).2.2.1:=by rw [hx2,en_f (zv9 s x)]
 have hla:bhL s (hdA s q0).2.2.1<s.length→la s (bhL s (hdA s q0).2.2.1)=bhL s (hdA s q0).2.2.1:=by rw [hx2];exact zgw
 rw [hee];clear hli hz hee h hx2 hqe;generalize (hdA s q0).1=dg at *;generalize (hdA s q0).2.1=ch at *;generalize (hdA s q0).2.2.1=qe at *;have ha0:=uk s qe;generalize bhL s qe=a0 at *;have ha1:a0<s.length→la s a0=a0∧lnW []≤a0:=fun h=>⟨hla h,by simp [lnW]⟩
 obtain ⟨d,F,hD⟩:∃ d F,ltD s n dg a0=(d,F):=⟨_,_,rfl⟩
 rw [hD];have hF1:decide (dg>0)=true→F≤a0:=fun h=>by have h1:=of_decide_eq_true h;unfold ltD at hD;rw [if_pos ⟨h1,by omega⟩] at hD;have:=congrArg Prod.snd hD;simp only at this;omega
 have hF2:decide (dg>0)=false→ltC s a0 n=(d,F):=fun h=>by have h1:=of_decide_eq_false h;unfold ltD at hD;rw [if_neg (fun h9=>h1 h9.1),if_pos (by omega)] at hD;exact hD
 have hd1:dg>0→(d:Int)=max n 0+dg:=fun h1=>by unfold ltD at hD;rw [if_pos ⟨h1,by omega⟩] at hD;have:=congrArg Prod.fst hD;simp only at this;omega
 have hd2:¬dg>0→(ltC s a0 n).1=d:=fun h1=>by rw [hF2 (decide_eq_false h1)]
 simp only;refine CO fun _=>Chk.mk hs fun _=>Chk.mk ⟨hs,by omega,by omega⟩ fun _=>⟨fun h1=>⟨fun h2=>CR fun _=>⟨fun h3=>absurd h3 (by omega),fun h3=>?_⟩,fun h2=>⟨fun h3=>absurd h3 (by omega),fun h3=>?_⟩⟩,fun h1=>?_⟩
 ·simp only [Bool.and_eq_true,decide_eq_true_eq] at h2;rw [show n+dg=(d:Int) by have:=hd1 h1;omega];refine zl.of (ι:={x:(Nat×Bool)×List Bs // x.1.1≤s.length∧(x.1.1<s.length→la s x.1.1=x.1.1∧lnW x.2≤x.1.1)∧lnW x.2≤x.1.1+1∧(∀ y∈x.2,y.length≤1048576)∧(x.2++(ltL s d F x.1.1).1,(ltL s d F x.1.1).2)=ltL s d F a0∧(x.1.2=true→F≤x.1.1)∧(x.1.2=false→ltC s x.1.1 n=(d,F))}) (fun x=>⟨[(0,.s s),(10,.i .i64 ch),(11,.i .i64 (x.1.1.1:Nat)),(13,.b (decide ((((s.getD q0 0).toNat:Nat):Int)=62))),(14,.i .i64 (d:Nat)),(15,.b x.1.1.2),(16,.slc 0 0 x.1.2.length)],[some (.row false 1 x.1.2.length (zu j4 [] x.1.2))]⟩) (fun x=>s.length-x.1.1.1) ⟨((a0,decide (dg>0)),[]),ha0,ha1,by simp [lnW],by simp,by simp,hF1,hF2⟩ (Ent.ren1 [0] (by decide) (by simp only [Yd];exact yi fun j hj=>absurd hj (Nat.not_lt_zero _)) (by simp [ze,Vg.look,SV.mapH,muL])) ?_;rintro ⟨⟨⟨a,bg⟩,L⟩,k1,k2,k3,k4,k5,k6,k7⟩;simp only [↓XC,X1,seval,TES,zh,kb,qm,yw,jp,XR];simp only at k1 k2 k3 k4 k5 k6 k7;rw [zg s k1];have hLn:=uh L;refine Chk.mk (fun h=>⟨⟨h,h⟩,hs⟩) fun _=>⟨fun h3=>Chk.mk hs fun _=>Chk.mk (fun h=>⟨⟨h,h⟩,hs⟩) fun _=>⟨fun h4=>?_,fun h4=>Chk.mk (fun h=>⟨⟨h,h⟩,hs⟩) fun _=>?_⟩,fun h3=>?_⟩
  ·simp only [Bool.and_eq_true,decide_eq_true_eq,Bool.not_eq_true'] at h4;rw [zn6 (fun h9=>by rcases h9.2.2 with h8 | h8;(rw [h4.1] at h8;cases h8);omega)] at k5;rw [←k5];simp only [List.append_nil];rw [yf rfl,←zw hql];simp only [↓XC,X1,seval,TES,wa,XR];exact Chk.mk ⟨by omega,by omega,k4⟩ fun _=>trivial
  ·simp only [Bool.and_eq_true,decide_eq_true_eq] at h3;have hal:a<s.length:=by omega
   obtain ⟨k8,k9⟩:=k2 hal;have hnb:¬(lnA s a=false∧inA s a<d):=fun h9=>by rw [h9.1,decide_eq_true (show ((inA s a:Nat):Int)<d by omega)] at h4;cases h4
   have hlt:=zst (by omega) hal h3.2 k6 k7 hnb;have hg:=zad hal;have hbl:=uk s (en s a);have hen:=uo s a k1;have hge:=zck s a;have hbe:bl s a-a=inA s a:=by unfold inA;rw [k8]
   have hble:=zs9 s a;have hbla:bhL s (en s a)<s.length→la s (bhL s (en s a))=bhL s (en s a):=zgw;have hbw:bhL s (en s a)<s.length→bhL s (en s a)=en s a+1:=fun h=>by unfold bhL at *;omega
   have hbw2:en s a≤bhL s (en s a):=by unfold bhL;omega
   have htl:=zxp (f:=F) (d:=d) (show a<s.length∧mkA s a=0∧(lnA s a=true∨d≤inA s a) from ⟨hal,h3.2,by
    cases hl:lnA s a
    ·right;exact Nat.not_lt.1 fun h8=>hnb ⟨hl,h8⟩
    ·left;rfl⟩)
   have hk6:(bg||!lnA s a)=true→F≤bhL s (en s a):=fun h9=>by
    cases hbg:bg
    ·rw [hbg,Bool.false_or,Bool.not_eq_true'] at h9;have:=(hlt.2 (.inl h9)).1;omega
    ·have:=k6 hbg;omega
   have hk7:(bg||!lnA s a)=false→ltC s (bhL s (en s a)) n=(d,F):=fun h9=>by simp only [Bool.or_eq_false_iff,Bool.not_eq_false'] at h9;rw [←zsu ⟨hal,h3.2⟩ h9.2];exact k7 h9.1
   have hcond:(!lnA s a||(bg||!lnA s a)&&decide (((inA s a:Nat):Int)>d))=decide (F≤a∧(lnA s a=false∨d<inA s a)):=by rw [Bool.eq_iff_iff,decide_eq_true_eq,hlt];cases lnA s a<;>cases bg<;>simp<;>omega
   rw [hcond];refine ⟨fun h5=>?_,fun h5=>⟨z2 rfl rfl,CO fun _=>Chk.mk hs fun _=>?_⟩⟩
   ·have h5':=of_decide_eq_true h5;have hdi:d≤inA s a:=by
     rcases h5'.2 with h9 | h9
     ·exact Nat.not_lt.1 fun h8=>hnb ⟨h9,h8⟩
     ·omega
    have e1:((a:Int)+d).toNat=a+d:=by omega
    have hxl:(sub s (a+d) (en s a)).length=en s a-(a+d):=by simp only [sub,List.length_drop,List.length_take];omega
    refine CR fun _=>Chk.mk hs fun _=>Chk.mk ⟨by omega,by omega,by omega⟩ fun _=>⟨z2 rfl rfl,CO fun _=>Chk.mk hs fun _=>?_⟩
    rw [e1];refine ⟨⟨((bhL s (en s a),bg||!lnA s a),L++[sub s (a+d) (en s a)]),hbl,fun h=>⟨hbla h, ?_⟩, ?_, ?_, ?_,hk6,hk7⟩,by simp only;omega,(Ent.ren1 [2] (by decide) (by simp only [Yd];exact qq (y:=sub s (a+d) (en s a)) (fun _=>rfl) rfl (fun _ _=>rfl) rfl) (by simp [ze,Vg.look,SV.mapH,muL]))⟩
    ·have h8:=hbw h;simp only [wn,hxl] at h8 ⊢;omega
    ·simp only [wn,hxl];omega
    ·intro y hy;rcases List.mem_append.1 hy with h9 | h9
     ·exact k4 y h9
     ·have h10:y=sub s (a+d) (en s a):=by simpa using h9
      rw [h10,hxl];omega
    ·rw [htl,if_pos h5'] at k5;simp only [List.append_assoc,List.singleton_append];exact k5
   ·have h5':=of_decide_eq_false h5;have hxl:([]:Bs).length=0:=rfl;refine ⟨⟨((bhL s (en s a),bg||!lnA s a),L++[([]:Bs)]),hbl,fun h=>⟨hbla h, ?_⟩, ?_, ?_, ?_,hk6,hk7⟩,by simp only;omega,(Ent.ren1 [2] (by decide) (by simp only [Yd];exact qq (y:=([]:Bs)) (fun _=>rfl) rfl (fun _ _=>rfl) rfl) (by simp [ze,Vg.look,SV.mapH,muL]))⟩
    ·have h8:=hbw h;simp only [wn,hxl] at h8 ⊢;omega
    ·simp only [wn,hxl];omega
    ·intro y hy;rcases List.mem_append.1 hy with h9 | h9
     ·exact k4 y h9
     ·have h10:y=([]:Bs):=by simpa using h9
      rw [h10,hxl];omega
    ·rw [htl,if_neg h5'] at k5;simp only [List.append_assoc,List.singleton_append];exact k5
  ·have h3':¬(a<s.length∧mkA s a=0):=fun h9=>by rw [decide_eq_true (show (a:Int)<(s.length:Nat) by omega),decide_eq_true h9.2] at h3;cases h3
   rw [zn6 (fun h9=>h3' ⟨h9.1,h9.2.1⟩)] at k5;rw [←k5];simp only [List.append_nil];rw [yf rfl,←zw hql];simp only [↓XC,X1,seval,TES,wa,XR];exact Chk.mk ⟨by omega,by omega,k4⟩ fun _=>trivial
 ·have h2':¬n>0:=by intro h9;rw [decide_eq_true h9,decide_eq_true (show n≤60000 by omega)] at h2;cases h2
  rw [show dg=(d:Int) by have:=hd1 h1;omega];refine zl.of (ι:={x:(Nat×Bool)×List Bs // x.1.1≤s.length∧(x.1.1<s.length→la s x.1.1=x.1.1∧lnW x.2≤x.1.1)∧lnW x.2≤x.1.1+1∧(∀ y∈x.2,y.length≤1048576)∧(x.2++(ltL s d F x.1.1).1,(ltL s d F x.1.1).2)=ltL s d F a0∧(x.1.2=true→F≤x.1.1)∧(x.1.2=false→ltC s x.1.1 n=(d,F))}) (fun x=>⟨[(0,.s s),(10,.i .i64 ch),(11,.i .i64 (x.1.1.1:Nat)),(13,.b (decide ((((s.getD q0 0).toNat:Nat):Int)=62))),(14,.i .i64 (d:Nat)),(15,.b x.1.1.2),(16,.slc 0 0 x.1.2.length)],[some (.row false 1 x.1.2.length (zu j4 [] x.1.2))]⟩) (fun x=>s.length-x.1.1.1) ⟨((a0,decide ((d:Int)>0)),[]),ha0,ha1,by simp [lnW],by simp,by simp,by rw [←show dg=(d:Int) by have:=hd1 h1;omega];exact hF1,by rw [←show dg=(d:Int) by have:=hd1 h1;omega];exact hF2⟩ (Ent.ren1 [0] (by decide) (by simp only [Yd];exact yi fun j hj=>absurd hj (Nat.not_lt_zero _)) (by simp [ze,Vg.look,SV.mapH,muL])) ?_;rintro ⟨⟨⟨a,bg⟩,L⟩,k1,k2,k3,k4,k5,k6,k7⟩;simp only [↓XC,X1,seval,TES,zh,kb,qm,yw,jp,XR];simp only at k1 k2 k3 k4 k5 k6 k7;rw [zg s k1];have hLn:=uh L;refine Chk.mk (fun h=>⟨⟨h,h⟩,hs⟩) fun _=>⟨fun h3=>Chk.mk hs fun _=>Chk.mk (fun h=>⟨⟨h,h⟩,hs⟩) fun _=>⟨fun h4=>?_,fun h4=>Chk.mk (fun h=>⟨⟨h,h⟩,hs⟩) fun _=>?_⟩,fun h3=>?_⟩
  ·simp only [Bool.and_eq_true,decide_eq_true_eq,Bool.not_eq_true'] at h4;rw [zn6 (fun h9=>by rcases h9.2.2 with h8 | h8;(rw [h4.1] at h8;cases h8);omega)] at k5;rw [←k5];simp only [List.append_nil];rw [yf rfl,←zw hql];simp only [↓XC,X1,seval,TES,wa,XR];exact Chk.mk ⟨by omega,by omega,k4⟩ fun _=>trivial
  ·simp only [Bool.and_eq_true,decide_eq_true_eq] at h3;have hal:a<s.length:=by omega
   obtain ⟨k8,k9⟩:=k2 hal;have hnb:¬(lnA s a=false∧inA s a<d):=fun h9=>by rw [h9.1,decide_eq_true (show ((inA s a:Nat):Int)<d by omega)] at h4;cases h4
   have hlt:=zst (by omega) hal h3.2 k6 k7 hnb;have hg:=zad hal;have hbl:=uk s (en s a);have hen:=uo s a k1;have hge:=zck s a;have hbe:bl s a-a=inA s a:=by unfold inA;rw [k8]
   have hble:=zs9 s a;have hbla:bhL s (en s a)<s.length→la s (bhL s (en s a))=bhL s (en s a):=zgw;have hbw:bhL s (en s a)<s.length→bhL s (en s a)=en s a+1:=fun h=>by unfold bhL at *;omega
   have hbw2:en s a≤bhL s (en s a):=by unfold bhL;omega
   have htl:=zxp (f:=F) (d:=d) (show a<s.length∧mkA s a=0∧(lnA s a=true∨d≤inA s a) from ⟨hal,h3.2,by
    cases hl:lnA s a
    ·right;exact Nat.not_lt.1 fun h8=>hnb ⟨hl,h8⟩
    ·left;rfl⟩)
   have hk6:(bg||!lnA s a)=true→F≤bhL s (en s a):=fun h9=>by
    cases hbg:bg
    ·rw [hbg,Bool.false_or,Bool.not_eq_true'] at h9;have:=(hlt.2 (.inl h9)).1;omega
    ·have:=k6 hbg;omega
   have hk7:(bg||!lnA s a)=false→ltC s (bhL s (en s a)) n=(d,F):=fun h9=>by simp only [Bool.or_eq_false_iff,Bool.not_eq_false'] at h9;rw [←zsu ⟨hal,h3.2⟩ h9.2];exact k7 h9.1
   have hcond:(!lnA s a||(bg||!lnA s a)&&decide (((inA s a:Nat):Int)>d))=decide (F≤a∧(lnA s a=false∨d<inA s a)):=by rw [Bool.eq_iff_iff,decide_eq_true_eq,hlt];cases lnA s a<;>cases bg<;>simp<;>omega
   rw [hcond];refine ⟨fun h5=>?_,fun h5=>⟨z2 rfl rfl,CO fun _=>Chk.mk hs fun _=>?_⟩⟩
   ·have h5':=of_decide_eq_true h5;have hdi:d≤inA s a:=by
     rcases h5'.2 with h9 | h9
     ·exact Nat.not_lt.1 fun h8=>hnb ⟨h9,h8⟩
     ·omega
    have e1:((a:Int)+d).toNat=a+d:=by omega
    have hxl:(sub s (a+d) (en s a)).length=en s a-(a+d):=by simp only [sub,List.length_drop,List.length_take];omega
    refine CR fun _=>Chk.mk hs fun _=>Chk.mk ⟨by omega,by omega,by omega⟩ fun _=>⟨z2 rfl rfl,CO fun _=>Chk.mk hs fun _=>?_⟩
    rw [e1];refine ⟨⟨((bhL s (en s a),bg||!lnA s a),L++[sub s (a+d) (en s a)]),hbl,fun h=>⟨hbla h, ?_⟩, ?_, ?_, ?_,hk6,hk7⟩,by simp only;omega,(Ent.ren1 [2] (by decide) (by simp only [Yd];exact qq (y:=sub s (a+d) (en s a)) (fun _=>rfl) rfl (fun _ _=>rfl) rfl) (by simp [ze,Vg.look,SV.mapH,muL]))⟩
    ·have h8:=hbw h;simp only [wn,hxl] at h8 ⊢;omega
    ·simp only [wn,hxl];omega
    ·intro y hy;rcases List.mem_append.1 hy with h9 | h9
     ·exact k4 y h9
     ·have h10:y=sub s (a+d) (en s a):=by simpa using h9
      rw [h10,hxl];omega
    ·rw [htl,if_pos h5'] at k5;simp only [List.append_assoc,List.singleton_append];exact k5
   ·have h5':=of_decide_eq_false h5;have hxl:([]:Bs).length=0:=rfl;refine ⟨⟨((bhL s (en s a),bg||!lnA s a),L++[([]:Bs)]),hbl,fun h=>⟨hbla h, ?_⟩, ?_, ?_, ?_,hk6,hk7⟩,by simp only;omega,(Ent.ren1 [2] (by decide) (by simp only [Yd];exact qq (y:=([]:Bs)) (fun _=>rfl) rfl (fun _ _=>rfl) rfl) (by simp [ze,Vg.look,SV.mapH,muL]))⟩
    ·have h8:=hbw h;simp only [wn,hxl] at h8 ⊢;omega
    ·simp only [wn,hxl];omega
    ·intro y hy;rcases List.mem_append.1 hy with h9 | h9
     ·exact k4 y h9
     ·have h10:y=([]:Bs):=by simpa using h9
      rw [h10,hxl];omega
    ·rw [htl,if_neg h5'] at k5;simp only [List.append_assoc,List.singleton_append];exact k5
  ·have h3':¬(a<s.length∧mkA s a=0):=fun h9=>by rw [decide_eq_true (show (a:Int)<(s.length:Nat) by omega),decide_eq_true h9.2] at h3;cases h3
   rw [zn6 (fun h9=>h3' ⟨h9.1,h9.2.1⟩)] at k5;rw [←k5];simp only [List.append_nil];rw [yf rfl,←zw hql];simp only [↓XC,X1,seval,TES,wa,XR];exact Chk.mk ⟨by omega,by omega,k4⟩ fun _=>trivial
 ·rw [hd2 h1];refine zl.of (ι:={x:(Nat×Bool)×List Bs // x.1.1≤s.length∧(x.1.1<s.length→la s x.1.1=x.1.1∧lnW x.2≤x.1.1)∧lnW x.2≤x.1.1+1∧(∀ y∈x.2,y.length≤1048576)∧(x.2++(ltL s d F x.1.1).1,(ltL s d F x.1.1).2)=ltL s d F a0∧(x.1.2=true→F≤x.1.1)∧(x.1.2=false→ltC s x.1.1 n=(d,F))}) (fun x=>⟨[(0,.s s),(10,.i .i64 ch),(11,.i .i64 (x.1.1.1:Nat)),(13,.b (decide ((((s.getD q0 0).toNat:Nat):Int)=62))),(14,.i .i64 (d:Nat)),(15,.b x.1.1.2),(16,.slc 0 0 x.1.2.length)],[some (.row false 1 x.1.2.length (zu j4 [] x.1.2))]⟩) (fun x=>s.length-x.1.1.1) ⟨((a0,decide (dg>0)),[]),ha0,ha1,by simp [lnW],by simp,by simp,hF1,hF2⟩ (Ent.ren1 [0] (by decide) (by simp only [Yd];exact yi fun j hj=>absurd hj (Nat.not_lt_zero _)) (by simp [ze,Vg.look,SV.mapH,muL])) ?_;rintro ⟨⟨⟨a,bg⟩,L⟩,k1,k2,k3,k4,k5,k6,k7⟩;simp only [↓XC,X1,seval,TES,zh,kb,qm,yw,jp,XR];simp only at k1 k2 k3 k4 k5 k6 k7;rw [zg s k1];have hLn:=uh L;refine Chk.mk (fun h=>⟨⟨h,h⟩,hs⟩) fun _=>⟨fun h3=>Chk.mk hs fun _=>Chk.mk (fun h=>⟨⟨h,h⟩,hs⟩) fun _=>⟨fun h4=>?_,fun h4=>Chk.mk (fun h=>⟨⟨h,h⟩,hs⟩) fun _=>?_⟩,fun h3=>?_⟩
  ·simp only [Bool.and_eq_true,decide_eq_true_eq,Bool.not_eq_true'] at h4;rw [zn6 (fun h9=>by rcases h9.2.2 with h8 | h8;(rw [h4.1] at h8;cases h8);omega)] at k5;rw [←k5];simp only [List.append_nil];rw [yf rfl,←zw hql];simp only [↓XC,X1,seval,TES,wa,XR];exact Chk.mk ⟨by omega,by omega,k4⟩ fun _=>trivial
  ·simp only [Bool.and_eq_true,decide_eq_true_eq] at h3;have hal:a<s.length:=by omega
   obtain ⟨k8,k9⟩:=k2 hal;have hnb:¬(lnA s a=false∧inA s a<d):=fun h9=>by rw [h9.1,decide_eq_true (show ((inA s a:Nat):Int)<d by omega)] at h4;cases h4
   have hlt:=zst (by omega) hal h3.2 k6 k7 hnb;have hg:=zad hal;have hbl:=uk s (en s a);have hen:=uo s a k1;have hge:=zck s a;have hbe:bl s a-a=inA s a:=by unfold inA;rw [k8]
   have hble:=zs9 s a;have hbla:bhL s (en s a)<s.length→la s (bhL s (en s a))=bhL s (en s a):=zgw;have hbw:bhL s (en s a)<s.length→bhL s (en s a)=en s a+1:=fun h=>by unfold bhL at *;omega
   have hbw2:en s a≤bhL s (en s a):=by unfold bhL;omega
   have htl:=zxp (f:=F) (d:=d) (show a<s.length∧mkA s a=0∧(lnA s a=true∨d≤inA s a) from ⟨hal,h3.2,by
    cases hl:lnA s a
    ·right;exact Nat.not_lt.1 fun h8=>hnb ⟨hl,h8⟩
    ·left;rfl⟩)
   have hk6:(bg||!lnA s a)=true→F≤bhL s (en s a):=fun h9=>by
    cases hbg:bg
    ·rw [hbg,Bool.false_or,Bool.not_eq_true'] at h9;have:=(hlt.2 (.inl h9)).1;omega
    ·have:=k6 hbg;omega
   have hk7:(bg||!lnA s a)=false→ltC s (bhL s (en s a)) n=(d,F):=fun h9=>by simp only [Bool.or_eq_false_iff,Bool.not_eq_false'] at h9;rw [←zsu ⟨hal,h3.2⟩ h9.2];exact k7 h9.1
   have hcond:(!lnA s a||(bg||!lnA s a)&&decide (((inA s a:Nat):Int)>d))=decide (F≤a∧(lnA s a=false∨d<inA s a)):=by rw [Bool.eq_iff_iff,decide_eq_true_eq,hlt];cases lnA s a<;>cases bg<;>simp<;>omega
   rw [hcond];refine ⟨fun h5=>?_,fun h5=>⟨z2 rfl rfl,CO fun _=>Chk.mk hs fun _=>?_⟩⟩
   ·have h5':=of_decide_eq_true h5;have hdi:d≤inA s a:=by
     rcases h5'.2 with h9 | h9
     ·exact Nat.not_lt.1 fun h8=>hnb ⟨h9,h8⟩
     ·omega
    have e1:((a:Int)+d).toNat=a+d:=by omega
    have hxl:(sub s (a+d) (en s a)).length=en s a-(a+d):=by simp only [sub,List.length_drop,List.length_take];omega
    refine CR fun _=>Chk.mk hs fun _=>Chk.mk ⟨by omega,by omega,by omega⟩ fun _=>⟨z2 rfl rfl,CO fun _=>Chk.mk hs fun _=>?_⟩
    rw [e1];refine ⟨⟨((bhL s (en s a),bg||!lnA s a),L++[sub s (a+d) (en s a)]),hbl,fun h=>⟨hbla h, ?_⟩, ?_, ?_, ?_,hk6,hk7⟩,by simp only;omega,(Ent.ren1 [2] (by decide) (by simp only [Yd];exact qq (y:=sub s (a+d) (en s a)) (fun _=>rfl) rfl (fun _ _=>rfl) rfl) (by simp [ze,Vg.look,SV.mapH,muL]))⟩
    ·have h8:=hbw h;simp only [wn,hxl] at h8 ⊢;omega
    ·simp only [wn,hxl];omega
    ·intro y hy;rcases List.mem_append.1 hy with h9 | h9
     ·exact k4 y h9
     ·have h10:y=sub s (a+d) (en s a):=by simpa using h9
      rw [h10,hxl];omega
    ·rw [htl,if_pos h5'] at k5;simp only [List.append_assoc,List.singleton_append];exact k5
   ·have h5':=of_decide_eq_false h5;have hxl:([]:Bs).length=0:=rfl;refine ⟨⟨((bhL s (en s a),bg||!lnA s a),L++[([]:Bs)]),hbl,fun h=>⟨hbla h, ?_⟩, ?_, ?_, ?_,hk6,hk7⟩,by simp only;omega,(Ent.ren1 [2] (by decide) (by simp only [Yd];exact qq (y:=([]:Bs)) (fun _=>rfl) rfl (fun _ _=>rfl) rfl) (by simp [ze,Vg.look,SV.mapH,muL]))⟩
    ·have h8:=hbw h;simp only [wn,hxl] at h8 ⊢;omega
    ·simp only [wn,hxl];omega
    ·intro y hy;rcases List.mem_append.1 hy with h9 | h9
     ·exact k4 y h9
     ·have h10:y=([]:Bs):=by simpa using h9
      rw [h10,hxl];omega
    ·rw [htl,if_neg h5'] at k5;simp only [List.append_assoc,List.singleton_append];exact k5
  ·have h3':¬(a<s.length∧mkA s a=0):=fun h9=>by rw [decide_eq_true (show (a:Int)<(s.length:Nat) by omega),decide_eq_true h9.2] at h3;cases h3
   rw [zn6 (fun h9=>h3' ⟨h9.1,h9.2.1⟩)] at k5;rw [←k5];simp only [List.append_nil];rw [yf rfl,←zw hql];simp only [↓XC,X1,seval,TES,wa,XR];exact Chk.mk ⟨by omega,by omega,k4⟩ fun _=>trivial
noncomputable def zcv:PE:=peR (fun (x:Bs×Int×Int)=>match x with | (s,p,n)=>[.s s,.i .i64 p,.i .i64 n]) (fun (x:Bs×Int×Int)=>match x with | (s,p,n)=>s.length≤60000 ∧ -1≤n∧n≤60000) (fun (x:Bs×Int×Int)=>match x with | (s,p,n)=>.tup [.s (liA s (spot s p) n).1,.i .i64 ((liA s (spot s p) n).2.1:Nat),.i .i64 (liA s (spot s p) n).2.2])
theorem u7 {s:Bs} {p n:Int}:zcv [.s s,.i .i64 p,.i .i64 n]=some (s.length≤60000 ∧ -1≤n∧n≤60000,.tup [.s (liA s (spot s p) n).1,.i .i64 ((liA s (spot s p) n).2.1:Nat),.i .i64 (liA s (spot s p) n).2.2]):=yg (by rintro ⟨a0,a1,a2⟩ ⟨b0,b1,b2⟩ h;simp_all []) (s,p,n)
theorem zfg:PE1 Tryz.prog 301 zcv:=yo (by rintro ⟨s,p,n⟩ hp;exact ztg s p n hp)
theorem zc9 (s:Bs) (r:Rd) (pr:Int) (hp:s.length≤1048576∧r.pos≤s.length):FnK Tryz.prog 175 4 [.ptr 0 0 0] (spC s (r) ((r).pos:Nat) pr) (fun z c=>z=.b (jl s r.pos)∧c=(spC s (r) ((r).pos:Nat) pr)):=by
 refine HEx wd.d 25 [[0],[2]] Tryz.func175 [.tmp 2] (fun _=>false) [] [(1,[],[],qa (.q0 3 [3] (.q0 7 [7] (.q1 8 (qh (.q1 15 (.q1 16 (.q1 17 (.q0 14 [14] (.q0 18 [18] (.alt 19 (.q1 20 (.q1 21 (.q1 22 .fin))) .fin)))))))))))] ?_;simp only [↓XC,X1,seval,X2,zh,↓Yc];rw [zg s hp.2];have hm:=mkA_range s r.pos;have e:(decide ((r.pos:Int)≥(s.length:Nat))||decide (mkA s r.pos>0))=jl s r.pos:=by unfold jl;rw [Bool.eq_iff_iff];simp only [Bool.or_eq_true,decide_eq_true_eq,Bool.not_eq_true',decide_eq_false_iff_not];omega
 rw [e];refine ⟨by decide +kernel,Chk.mk (fun h=>⟨⟨h,h⟩,hp.1⟩) fun _=>?_⟩;exact Vf
theorem zr6 (s:Bs) (r:Rd) (pr:Int) (f:Nat) (hp:s.length≤1048576∧r.cd=0∧f≤s.length):FnK Tryz.prog 227 4 [.ptr 0 0 0,.i .i64 (f:Nat)] (spC s (r) ((r).pos:Nat) pr) (fun z c=>z=.tup []∧c=(spC s (ovR s r f) ((ovR s r f).pos:Nat) pr)):=by
 refine HEx (ut.c (ki.c qi.d)) 58 [[0],[0,4],[0,4,38],[0,5],[0,5,45],[0,5],[0,5,54],[]] Tryz.func227 [] (fun _=>false) [] [(1,[],[],qa (.q0 3 [3] (.q0 7 [7] (.alt 8 (.q1 9 .fin) .fin)))),(2,[],[],.q1 0 (.alt 1 (.q1 2 (.q1 3 (.q1 4 (.q1 5 (.q1 7 (.q1 9 (.q1 10 (.q1 11 (.alt 6 (.alt 8 (.seq [12,13,14]) (.alt 12 (.seq [8,13,14]) .fin)) (.alt 12 (.seq [6,8,13,14]) .fin)))))))))) .fin))] ?_;simp only [↓XC,X1,seval,X2,wu,ws,zj,↓Yc];rw [zg s hp.2.2];have hg:=qr s f hp.2.2;rw [zg s hg];refine Chk.mk hp.1 fun _=>⟨by decide +kernel,Chk.mk hp.1 fun _=>⟨by decide +kernel, ?_⟩⟩
 refine Vm (zc9 s (atR r (gpE s f)) pr ⟨hp.1,hg⟩) ?_;simp only [↓XC,X1,seval,X2,zj,↓Yc,↓Ya,Yb,XM];have hla:=zfq s (gpE s f);rw [zg s (show la s (gpE s f)≤s.length by omega)];have hEnd:∀ {A:Prop},A→((A∧A)∧A):=fun h=>⟨⟨h,h⟩,h⟩
 refine hEnd ?_;refine Chk.mk (fun h=>⟨⟨h,h⟩,hp.1⟩) fun _=>⟨fun h=>?_,fun h=>?_⟩
 ·have e:ovR s r f=atR r (gpE s f):=ovR_stop (by simp only [Bool.or_eq_true,Bool.not_eq_true',decide_eq_false_iff_not] at h;rcases h with h | h;exact .inl h;exact .inr (by omega));rw [e];exact Vf
 ·have h1:jl s (gpE s f)=false:=by cases hh:jl s (gpE s f);rfl;rw [hh] at h;simp at h
  have h2:wh s (la s (gpE s f))=gpE s f:=by rw [h1] at h;simp at h;omega
  refine zl.of (ι:={i:Nat // la s (gpE s f)≤i∧i≤gpE s f∧∀ j,la s (gpE s f)≤j→j<i→s.getD j 0≠9}) (fun x=>⟨[(0,.ptr 0 0 0),(5,.i .i64 (x.1:Nat))],(spC s (r) ((gpE s f:Nat):Int) pr)⟩) (fun x=>gpE s f-x.1) ⟨la s (gpE s f),Nat.le_refl _,hla,fun j h8 h9=>absurd h9 (by omega)⟩ (Ent.ren1 [0,1,2,3] (by decide) (by simp only [Yd];exact ⟨zb (by simp [Yf,Yh]),za fun _=>rfl,za fun _=>rfl,za fun _=>rfl⟩) (by simp [ze,Vg.look,SV.mapH,muL])) ?_;rintro ⟨i,hi1,hi2,hi3⟩;simp only [YC];simp only [↓XC,X1,seval,X2,↓Yc,↓Ya,Yb];have hu:∀ b:UInt8,(((s.getD i 0).toNat:Nat):Int)=(b.toNat:Nat)→s.getD i 0=b:=fun b h=>UInt8.toNat_inj.1 (by omega);refine ⟨fun hl=>CO fun _=>⟨fun h9=>?_,fun h9=>CR fun _=>⟨⟨i+1,by omega,by omega,fun j h5 h6=>?_⟩,by simp only;omega,(by first | exact Ent.refl _ _ | (simp only [Int.natCast_add,Int.natCast_one];exact Ent.refl _ _))⟩⟩,fun hl=>?_⟩
  ·have e:ovR s r f=flt (atR r (gpE s f)) 2 i:=ovR_tab h1 h2 hg hi1 (by omega) (hu 9 h9) hi3;rw [e];refine Vm (vg s (atR r (gpE s f)) pr 2 i hp.2.1) ?_;simp only [↓XC,X1,seval,X2,XM];exact Vf
  ·rcases Nat.lt_or_ge j i with h7 | h7
   ·exact hi3 j h5 h7
   ·obtain rfl:j=i:=by omega
    intro h8;exact h9 (by rw [h8];rfl)
  ·have e:ovR s r f=atR r (gpE s f):=ovR_none h1 h2 hg fun j h5 h6=>hi3 j h5 (by omega);rw [e];exact Vf
theorem snext (s:Bs) (r:Rd) (pr:Int) (lo:Bool) (hp:s.length≤1048576∧r.cd=0∧r.pos≤s.length):FnK Tryz.prog 174 4 [.ptr 0 0 0,.b lo] (spC s (r) ((r).pos:Nat) pr) (fun z c=>z=.tup []∧c=(spC s (nxR s r lo) ((nxR s r lo).pos:Nat) pr)):=by
 refine HEx ku.d 31 [[0,7],[0,4,5],[0,4,21],[],[]] Tryz.func174 [] (fun _=>false) [] [(1,[],[],qa (.q0 3 [3] (.q0 7 [7] (.alt 8 (qh .fin) .fin))))] ?_;simp only [↓XC,X1,seval,X2,wq,↓Yc];rw [zg s hp.2.2];have hr:=wx (s:=s) hp.2.2;refine ⟨fun hl=>⟨by decide +kernel,Chk.mk hp.1 fun _=>⟨fun h=>?_,fun h=>?_⟩⟩,fun hl=>?_⟩
 ·have e:nxR s r lo=flt r 8 (rsA s r.pos).1:=by unfold nxR;rw [if_pos ⟨by simpa using hl,by simpa using h⟩]
  rw [e];refine Vm (vg s r pr 8 (rsA s r.pos).1 hp.2.1) ?_;simp only [↓XC,X1,seval,X2,XM];exact Vf
 ·have e:nxR s r lo=ovR s r r.pos:=by unfold nxR;rw [if_neg (by simp at h;simp [h])]
  rw [e];refine Vm (zr6 s r pr r.pos ⟨hp.1,hp.2.1,hp.2.2⟩) ?_;simp only [↓XC,X1,seval,X2,XM];exact Vf
 ·have e:nxR s r lo=ovR s r r.pos:=by unfold nxR;rw [if_neg (by simp at hl;simp [hl])]
  rw [e];refine Vm (zr6 s r pr r.pos ⟨hp.1,hp.2.1,hp.2.2⟩) ?_;simp only [↓XC,X1,seval,X2,XM];exact Vf
theorem sdeep (s:Bs) (r:Rd) (pr:Int) (n:Int) (lo:Bool) (hp:s.length≤1048576∧r.pos≤s.length):FnK Tryz.prog 257 4 [.ptr 0 0 0,.i .i64 n,.b lo] (spC s (r) ((r).pos:Nat) pr) (fun z c=>z=.b (dpR s r.pos n lo)∧c=(spC s (r) ((r).pos:Nat) pr)):=by
 refine HEx (zan.c zak.d) 41 [[0,1,2],[0,1,2,9],[6],[0,1,2,7],[6]] Tryz.func257 [.tmp 6] (fun _=>false) [] [(3,[],[],qa (.q0 3 [3] (.q0 7 [7] (.alt 8 (.q1 9 .fin) .fin)))),(4,[],[],qe (.q1 4 (.q1 5 (.q1 6 (.q1 7 (.q1 8 (qh (.q1 15 (.q1 16 (.q1 17 (.q0 14 [14] (.q0 18 [18] (.alt 19 (.q1 20 (.q1 21 (.q1 22 .fin))) .fin)))))))))))))] ?_;simp only [↓XC,X1,seval,X2,yj,kz,↓Yc];refine Vm (zc9 s r pr ⟨hp.1,hp.2⟩) ?_;simp only [↓XC,X1,seval,X2,yj,kz,XM];rw [zg s hp.2];refine ⟨fun h=>?_,fun h=>⟨by decide +kernel,Chk.mk hp.1 fun _=>⟨by decide +kernel,Chk.mk (fun h=>⟨⟨h,h⟩,hp.1,by omega,by omega⟩) fun _=>?_⟩⟩⟩
 ·have e:dpR s r.pos n lo=false:=by unfold dpR;rw [h];rfl
  rw [e];exact Vf
 ·have e:dpR s r.pos n lo=(decide (((coA s r.pos:Nat):Int)>n)||lo&&decide (((coA s r.pos:Nat):Int)=n)&&zgq s r.pos):=by unfold dpR dpA;rw [h];rfl
  rw [e];exact Vf
theorem snone (s:Bs) (r:Rd) (pr:Int) (k0 st0:Int) (x0 an tg:Bs) (hp:r.ev.length≤16777216∧r.dn.length=r.ev.length∧r.bs≤r.ev.length):FnK Tryz.prog 228 1 [.ptr 0 0 0,.agg [.i .i64 k0,.i .i64 st0,.b false,.s x0,.s an,.s tg,.i .i64 0,.i .i64 0]] (spC s (r) ((r).pos:Nat) pr) (fun z c=>z=.tup []∧c=(spC s (yb r 1 [] an tg) ((yb r 1 [] an tg).pos:Nat) pr)):=by refine HE pn 7 [[0,3],[]] Tryz.func228 [] ?_;simp only [↓XC,X1,seval,X2,↓Yc,evT];refine Vb (zg1 s r pr k0 st0 x0 an tg 1 [] hp) ?_;simp only [↓XC,X1,seval,X2,XM];exact ⟨[0,1,2,3],by decide,by simp only [Yd];exact ⟨zb (by simp [Yf,evT]),za fun _=>rfl,za fun _=>rfl,za fun _=>rfl⟩,by simp only [↓XC,X1,seval];try first | rfl | simp [Yf],by simp [z6,SO.ro,YC],by simp⟩
theorem skey (s:Bs) (r:Rd) (pr:Int) (k0 st0:Int) (x0 an tg:Bs) (ha:Bool) (hp:s.length≤1048576∧r.ev.length≤16777216∧r.dn.length=r.ev.length∧r.bs≤r.ev.length∧r.cd=0∧r.pos≤s.length∧(kyA s r.pos).2.2=true):FnK Tryz.prog 297 1 [.ptr 0 0 0,.agg [.i .i64 k0,.i .i64 st0,.b false,.s x0,.s an,.s tg,.i .i64 0,.i .i64 0],.b ha] (spC s (r) ((r).pos:Nat) pr) (fun z c=>z=.tup []∧c=(spC s (kyR s r (⟨ha,an,tg,0⟩:Pp)) ((kyA s r.pos).2.1.toNat+1:Nat) pr)):=by
 refine HEx zal.d 57 [[0,2,4],[0,2,4,6,7],[0,2,4,6,7,34],[0,7],[0,7],[]] Tryz.func297 [] (fun _=>true) [2] [(1,[],[],qa (.q0 3 [3] (.q0 7 [7] (.alt 8 (qg .fin) .fin)))),(3,[],[],.q1 0 (.q1 2 (.q1 3 (.q1 4 (.q1 6 (.q1 7 (.q1 8 (.q1 10 (.q0 5 [5,11,12] (.q0 9 [9,11,12] (.q1 11 (.q0 1 [1,12] (.seq [12])))))))))))))] ?_;simp only [↓XC,X1,seval,X2,jq,↓Yc,↓Yc,↓Ya,Yb,zp];obtain ⟨hs,ho1,ho2,ho3,hcd,hpos,hk⟩:=hp;obtain ⟨k1,k2,k3,k4,k5⟩:=xo hpos hk;refine zav.of (ι:=Unit) (fun _=>⟨[(0,.ptr 0 0 0),(2,.b ha),(4,.ptr 4 0 0),(6,.i .i64 (kyA s r.pos).1),(7,.i .i64 (kyA s r.pos).2.1)],[some (.blk false [.s s,.i .i64 ((r).pos:Nat),.slc 1 0 (r).ev.length,.i .i64 (r).cd,.i .i64 ((r).pl:Nat),.i .i64 ((r).dp:Nat),.slc 2 0 (nmS (r).ev (r).dn (r).bs).length,.slc 3 0 (r).hd.length,.i .i64 pr]),some (.row false 8 (r).ev.length (zu evc evz (r).ev)),some (.row false 2 (nmS (r).ev (r).dn (r).bs).length (zu nac ([],false) (nmS (r).ev (r).dn (r).bs))),some (.row false 2 (r).hd.length (zu hdc hdz (r).hd)),some (.blk false [.i .i64 k0,.i .i64 st0,.b false,.s x0,.s an,.s tg,.i .i64 0,.i .i64 0])]⟩) ?_ ?_
 ·simp only [↓XC,X1,seval,X2,jq,↓Yc,↓Ya,Yb,zp];rw [zg s hpos];exact ⟨by decide +kernel,Chk.mk hs fun _=>⟨(),Ent.refl _ _⟩⟩
 rintro ⟨⟩;simp only [↓XC,X1,seval,X2,↓Yc,↓Ya,Yb,zp];refine Vm (un s r pr hs) ?_;simp only [↓XC,X1,seval,X2,↓Yc,↓Ya,Yb,zp,XM];simp only [by0 (show (0:Int)<42 by decide)];by_cases h42:byt s r.pos=42
 ·simp only [decide_eq_true h42];simp only [↓XC,X1,seval,X2,↓Yc,↓Ya,Yb,zp];refine Vb (ze6 s r pr k0 st0 x0 an tg ha (-1) false ⟨hs,ho1,ho2,ho3,hcd,hpos⟩) ?_;simp only [↓XC,X1,seval,X2,↓Yc,↓Ya,Yb,zp,XM];rw [show (kyA s r.pos).2.1+1=(((kyA s r.pos).2.1.toNat+1:Nat):Int) by omega];refine CR fun _=>?_;rw [zsw (.inl h42)];exact Vf
 ·simp only [decide_eq_false h42];simp only [↓XC,X1,seval,X2,↓Yc,↓Ya,Yb,zp];refine Vm (un s r pr hs) ?_;simp only [↓XC,X1,seval,X2,↓Yc,↓Ya,Yb,zp,XM];simp only [by0 (show (0:Int)<39 by decide)];by_cases h39:byt s r.pos=39
  ·simp only [decide_eq_true h39];simp only [↓XC,X1,seval,X2,↓Yc,↓Ya,Yb,zp];refine Vb (ze6 s r pr k0 st0 x0 an tg ha (-1) false ⟨hs,ho1,ho2,ho3,hcd,hpos⟩) ?_;simp only [↓XC,X1,seval,X2,↓Yc,↓Ya,Yb,zp,XM];rw [show (kyA s r.pos).2.1+1=(((kyA s r.pos).2.1.toNat+1:Nat):Int) by omega];refine CR fun _=>?_;rw [zsw (.inr (by rw [h39];decide))];exact Vf
  ·simp only [decide_eq_false h39];simp only [↓XC,X1,seval,X2,↓Yc,↓Ya,Yb,zp];refine Vm (un s r pr hs) ?_;simp only [↓XC,X1,seval,X2,↓Yc,↓Ya,Yb,zp,XM];simp only [by0 (show (0:Int)<34 by decide)];by_cases h34:byt s r.pos=34
   ·simp only [decide_eq_true h34];simp only [↓XC,X1,seval,X2,↓Yc,↓Ya,Yb,zp];refine Vb (ze6 s r pr k0 st0 x0 an tg ha (-1) false ⟨hs,ho1,ho2,ho3,hcd,hpos⟩) ?_;simp only [↓XC,X1,seval,X2,↓Yc,↓Ya,Yb,zp,XM];rw [show (kyA s r.pos).2.1+1=(((kyA s r.pos).2.1.toNat+1:Nat):Int) by omega];refine CR fun _=>?_;rw [zsw (.inr (by rw [h34];decide))];exact Vf
   ·simp only [decide_eq_false h34];simp only [↓XC,X1,seval,X2,↓Yc,↓Ya,Yb,zp];refine ⟨by decide +kernel,Chk.mk ⟨by omega,by omega,by omega⟩ fun _=>?_⟩;rw [show List.drop r.pos (List.take (kyA s r.pos).1.toNat s)=sub s r.pos (kyA s r.pos).1.toNat from rfl];have e:kyR s r (⟨ha,an,tg,0⟩:Pp)=yb r 1 (sub s r.pos (kyA s r.pos).1.toNat) an tg:=by unfold kyR isQu;rw [if_neg h42,if_neg (by simp [h39,h34])]
    refine Vb (zg1 s r pr k0 st0 x0 an tg 1 (sub s r.pos (kyA s r.pos).1.toNat) ⟨ho1,ho2,ho3⟩) ?_;simp only [↓XC,X1,seval,X2,↓Yc,↓Ya,Yb,zp,XM];rw [show (kyA s r.pos).2.1+1=(((kyA s r.pos).2.1.toNat+1:Nat):Int) by omega];refine CR fun _=>?_;rw [e];try simp only [yb,zf,List.length_append,List.length_cons,List.length_nil,Nat.zero_add]
    exact Vf
theorem sval (s:Bs) (x:Rb) (pr:Int) (sb:Int→Bool→Bool→Rb→Rb) (sg:Nat) (cc:Int) (HS:∀ (n:Int) (i l:Bool) (x1:Rb) (pr1:Int),Ok s x1.r→x1.r.dp=x.r.dp → -1≤n→n≤60000→zhe Tryz.prog 226 s [.i .i64 n,.b i,.b l] pr1 x1.r (sb n i l x1)) (hp:s.length≤60000∧Ok s (atR x.r (sg+1))∧x.r.ev.length+1≤8 * (sg+1)+64∧sg<s.length∧x.r.pos=sg+1 ∧ -1≤cc∧cc≤60000):FnK Tryz.prog 298 1 [.ptr 0 0 0,.i .i64 cc] (spC s (x.r) ((x.r).pos:Nat) pr) (fun z c=>∃ (a pr':Int) (lo:Bool),(((vlK s sb sg cc false x)).r.cd=0→a=((((vlK s sb sg cc false x)).r.pos:Nat):Int)∧lo=((vlK s sb sg cc false x)).fr)∧z=.b lo∧c=(spC s (((vlK s sb sg cc false x)).r) a pr')):=by
 refine HQx (ku.c qi.d) 57 [[0,1],[0,1,5,6],[0,1,5,20],[0,1],[4],[0,1,5],[0,1,5,43],[4],[0,1,5,46],[4],[0,5],[],[4]] Tryz.func298 [.tmp 4] (fun _=>false) [] [(1,[],[],qa (.q0 3 [3] (.q0 7 [7] (.alt 8 (qh .fin) .fin)))),(3,[],[],qf (.q0 4 [4,9,10,11,12] (.q0 8 [8,9,10,11,12] (.seq [9,10,11,12]))))] ?_;simp only [↓XC,X1,seval,X2,wq,zj,↓Ya,Yb,↓Yc,onB];obtain ⟨h6,ho,hsz,hsg,hxp,hc1,hc2⟩:=hp;have hs:s.length≤1048576:=by omega
 have hcd:x.r.cd=0:=ho.cd;have hdn:x.r.dn.length=x.r.ev.length:=ho.dn;have hbs:x.r.bs≤x.r.ev.length:=ho.bs;have hw1:=jh s (sg+1);have hw2:=jg s (sg+1) hsg;have hg1:=q8 s (sg+1);have hg2:=qr s (sg+1) hsg;have hr:=wx (s:=s) (p:=sg+1) hsg;obtain ⟨R,hR⟩:∃ R,R=vlK s sb sg cc false x:=⟨_,rfl⟩
 rw [←hR];rw [hxp,zg s (show sg+1≤s.length from hsg)];refine ⟨by decide +kernel,Chk.mk hs fun _=>⟨fun h=>?_,fun h=>?_⟩⟩
 ·have h':(rsA s (sg+1)).2=false:=by simpa using h
  refine ⟨by decide +kernel,Chk.mk hs fun _=>?_⟩;have hN:=HS cc true false (onB x (atR x.r (wh s (sg+1)))) pr (zqc (r:=atR x.r (sg+1)) ho (by simp only [atR];omega) hw1 hw2) rfl hc1 hc2;have eN:sb cc true false (onB x (atR x.r (wh s (sg+1))))=R:=by rw [hR];unfold vlK;rw [if_pos h'];rfl
  rw [eN] at hN;unfold zhe spC at hN;refine Vq (hN) ?_;rintro z c ⟨a2,pr2,lo2,ha2,rfl,rfl⟩;simp only [↓XC,X1,seval,X2,↓Ya,Yb,↓Yc,onB,XM];refine ⟨.b lo2,(spC s ((R).r) a2 pr2),⟨a2,pr2,lo2,ha2,rfl,rfl⟩, ?_⟩;exact Vf
 ·have h':¬(rsA s (sg+1)).2=false:=by simpa using h
  have h2:(rsA s (sg+1)).2=true:=by simpa using h
  have hL:=zr6 s (atR x.r (sg+1)) pr (rsA s (sg+1)).1 ⟨hs,hcd,hr.2⟩;rw [zva h2,zvb] at hL;obtain ⟨g,hg⟩:∃ g,g=ovR s x.r (sg+1):=⟨_,rfl⟩
  rw [←hg] at hL;refine Vm (hL) ?_;simp only [↓XC,X1,seval,X2,↓Ya,Yb,↓Yc,onB,XM];refine ⟨fun h3=>?_,fun h3=>?_⟩
  ·have hgz:¬g.cd=0:=by simpa using h3
   have eR:R=onB x g:=by rw [hR];unfold vlK;rw [if_neg h',←hg,if_pos hgz]
   rw [eR];refine ⟨.b true,(spC s ((onB x g).r) ((g.pos:Nat):Int) pr),⟨((g.pos:Nat):Int),pr,true,fun h=>absurd h hgz,rfl,rfl⟩, ?_⟩;exact Vf
  have hgz:g.cd=0:=by simpa using h3
  have hge:g=atR x.r (gpE s (sg+1)):=by rw [hg];exact ug (by rw [←hg];exact hgz)
  have hgp:g.pos≤s.length:=by rw [hge];exact hg2
  have hgo:Ok s g:=by rw [hge];exact zqc (r:=atR x.r (sg+1)) ho (by simp only [atR];omega) hg1 hg2
  have hgl:g.ev.length≤16777216:=Nat.le_trans (hgo.size hs) (by decide);have hgd:g.dp=x.r.dp:=by rw [hge];rfl
  refine Vm (sdeep s g pr cc true ⟨hs,hgp⟩) ?_;simp only [↓XC,X1,seval,X2,↓Ya,Yb,↓Yc,onB,XM];refine ⟨fun h4=>?_,fun h4=>?_⟩
  ·have hd:dpR s g.pos cc true=true:=h4;have hd2:jl s g.pos=false∧dpA s g.pos cc true=true:=by unfold dpR at hd;simpa using hd
   have hN:=HS cc false true (onB x g) pr hgo hgd hc1 hc2;have eN:sb cc false true (onB x g)=R:=by rw [hR];unfold vlK;rw [if_neg h',←hg,if_neg (by simpa using hgz),if_neg (by rw [hd2.1];simp [hd2.2])];rfl
   rw [eN] at hN;unfold zhe spC at hN;refine Vq (hN) ?_;rintro z c ⟨a2,pr2,lo2,ha2,rfl,rfl⟩;simp only [↓XC,X1,seval,X2,↓Ya,Yb,↓Yc,onB,XM];refine ⟨.b lo2,(spC s ((R).r) a2 pr2),⟨a2,pr2,lo2,ha2,rfl,rfl⟩, ?_⟩;exact Vf
  ·have hd:dpR s g.pos cc true=false:=by simpa using h4
   have hd2:jl s g.pos=true∨dpA s g.pos cc true=false:=by
    unfold dpR at hd;cases h5:jl s g.pos
    ·right;rw [h5] at hd;simpa using hd
    ·exact .inl rfl
   refine Vb (snone s g pr 0 0 [] [] [] ⟨hgl,hgo.dn,hgo.bs⟩) ?_;simp only [↓XC,X1,seval,X2,↓Ya,Yb,↓Yc,onB,XM];have eR:R=ntB x g (ppz 0) (rsA s (sg+1)).1:=by rw [hR];unfold vlK;rw [if_neg h',←hg,if_neg (by simpa using hgz)];exact if_pos hd2
   rw [eR];refine ⟨.b true,(spC s ((ntB x g (ppz 0) (rsA s (sg+1)).1).r) (((rsA s (sg+1)).1:Nat):Int) pr),⟨(((rsA s (sg+1)).1:Nat):Int),pr,true,fun _=>⟨rfl,rfl⟩,rfl,rfl⟩, ?_⟩;try simp only [YC,ntB,ppz,ntR,yb,zf,atR,onB,List.length_append,List.length_cons,List.length_nil,Nat.zero_add]
   exact Vf
theorem sitem (s:Bs) (x:Rb) (pr:Int) (sb:Int→Bool→Bool→Rb→Rb) (sg:Nat) (cc:Int) (HS:∀ (n:Int) (i l:Bool) (x1:Rb) (pr1:Int),Ok s x1.r→x1.r.dp=x.r.dp → -1≤n→n≤60000→zhe Tryz.prog 226 s [.i .i64 n,.b i,.b l] pr1 x1.r (sb n i l x1)) (hp:s.length≤60000∧Ok s (atR x.r (sg+1))∧x.r.ev.length+1≤8 * (sg+1)+64∧sg<s.length∧x.r.pos=sg ∧ -1≤cc∧cc≤60000):FnK Tryz.prog 300 1 [.ptr 0 0 0,.i .i64 cc] (spC s (x.r) ((x.r).pos:Nat) pr) (fun z c=>∃ (a pr':Int) (lo:Bool),(((vlK s sb sg cc true x)).r.cd=0→a=((((vlK s sb sg cc true x)).r.pos:Nat):Int)∧lo=((vlK s sb sg cc true x)).fr)∧z=.b lo∧c=(spC s (((vlK s sb sg cc true x)).r) a pr')):=by
 refine HQx (ku.c qi.d) 64 [[0,1],[0,1],[0,1,5,6],[0,1,5,27],[0,1],[4],[0,1,5],[0,1,5,50],[4],[0,1,5,53],[4],[0,5],[],[4]] Tryz.func300 [.tmp 4] (fun _=>false) [] [(2,[],[],qa (.q0 3 [3] (.q0 7 [7] (.alt 8 (qh .fin) .fin)))),(4,[],[],qf (.q0 4 [4,9,10,11,12] (.q0 8 [8,9,10,11,12] (.seq [9,10,11,12]))))] ?_;simp only [↓XC,X1,seval,X2,wq,zj,↓Ya,Yb,↓Yc,onB];obtain ⟨h6,ho,hsz,hsg,hxp,hc1,hc2⟩:=hp;have hs:s.length≤1048576:=by omega
 have hcd:x.r.cd=0:=ho.cd;have hdn:x.r.dn.length=x.r.ev.length:=ho.dn;have hbs:x.r.bs≤x.r.ev.length:=ho.bs;have hw1:=jh s (sg+1);have hw2:=jg s (sg+1) hsg;have hg1:=q8 s (sg+1);have hg2:=qr s (sg+1) hsg;have hr:=wx (s:=s) (p:=sg+1) hsg;obtain ⟨R,hR⟩:∃ R,R=vlK s sb sg cc true x:=⟨_,rfl⟩
 rw [←hR];rw [hxp];refine CR fun _=>?_;rw [show (((sg:Nat):Int))+1=((sg+1:Nat):Int) by omega,zg s (show sg+1≤s.length from hsg)];refine ⟨by decide +kernel,Chk.mk hs fun _=>⟨fun h=>?_,fun h=>?_⟩⟩
 ·have h':(rsA s (sg+1)).2=false:=by simpa using h
  refine ⟨by decide +kernel,Chk.mk hs fun _=>?_⟩;have hN:=HS cc false false (onB x (atR x.r (wh s (sg+1)))) pr (zqc (r:=atR x.r (sg+1)) ho (by simp only [atR];omega) hw1 hw2) rfl hc1 hc2;have eN:sb cc false false (onB x (atR x.r (wh s (sg+1))))=R:=by rw [hR];unfold vlK;rw [if_pos h'];rfl
  rw [eN] at hN;unfold zhe spC at hN;refine Vq (hN) ?_;rintro z c ⟨a2,pr2,lo2,ha2,rfl,rfl⟩;simp only [↓XC,X1,seval,X2,↓Ya,Yb,↓Yc,onB,XM];refine ⟨.b lo2,(spC s ((R).r) a2 pr2),⟨a2,pr2,lo2,ha2,rfl,rfl⟩, ?_⟩;exact Vf
 ·have h':¬(rsA s (sg+1)).2=false:=by simpa using h
  have h2:(rsA s (sg+1)).2=true:=by simpa using h
  have hL:=zr6 s (atR x.r (sg+1)) pr (rsA s (sg+1)).1 ⟨hs,hcd,hr.2⟩;rw [zva h2,zvb] at hL;obtain ⟨g,hg⟩:∃ g,g=ovR s x.r (sg+1):=⟨_,rfl⟩
  rw [←hg] at hL;refine Vm (hL) ?_;simp only [↓XC,X1,seval,X2,↓Ya,Yb,↓Yc,onB,XM];refine ⟨fun h3=>?_,fun h3=>?_⟩
  ·have hgz:¬g.cd=0:=by simpa using h3
   have eR:R=onB x g:=by rw [hR];unfold vlK;rw [if_neg h',←hg,if_pos hgz]
   rw [eR];refine ⟨.b true,(spC s ((onB x g).r) ((g.pos:Nat):Int) pr),⟨((g.pos:Nat):Int),pr,true,fun h=>absurd h hgz,rfl,rfl⟩, ?_⟩;exact Vf
  have hgz:g.cd=0:=by simpa using h3
  have hge:g=atR x.r (gpE s (sg+1)):=by rw [hg];exact ug (by rw [←hg];exact hgz)
  have hgp:g.pos≤s.length:=by rw [hge];exact hg2
  have hgo:Ok s g:=by rw [hge];exact zqc (r:=atR x.r (sg+1)) ho (by simp only [atR];omega) hg1 hg2
  have hgl:g.ev.length≤16777216:=Nat.le_trans (hgo.size hs) (by decide);have hgd:g.dp=x.r.dp:=by rw [hge];rfl
  refine Vm (sdeep s g pr cc false ⟨hs,hgp⟩) ?_;simp only [↓XC,X1,seval,X2,↓Ya,Yb,↓Yc,onB,XM];refine ⟨fun h4=>?_,fun h4=>?_⟩
  ·have hd:dpR s g.pos cc false=true:=h4;have hd2:jl s g.pos=false∧dpA s g.pos cc false=true:=by unfold dpR at hd;simpa using hd
   have hN:=HS cc false false (onB x g) pr hgo hgd hc1 hc2;have eN:sb cc false false (onB x g)=R:=by rw [hR];unfold vlK;rw [if_neg h',←hg,if_neg (by simpa using hgz),if_neg (by rw [hd2.1];simp [hd2.2])];rfl
   rw [eN] at hN;unfold zhe spC at hN;refine Vq (hN) ?_;rintro z c ⟨a2,pr2,lo2,ha2,rfl,rfl⟩;simp only [↓XC,X1,seval,X2,↓Ya,Yb,↓Yc,onB,XM];refine ⟨.b lo2,(spC s ((R).r) a2 pr2),⟨a2,pr2,lo2,ha2,rfl,rfl⟩, ?_⟩;exact Vf
  ·have hd:dpR s g.pos cc false=false:=by simpa using h4
   have hd2:jl s g.pos=true∨dpA s g.pos cc false=false:=by
    unfold dpR at hd;cases h5:jl s g.pos
    ·right;rw [h5] at hd;simpa using hd
    ·exact .inl rfl
   refine Vb (snone s g pr 0 0 [] [] [] ⟨hgl,hgo.dn,hgo.bs⟩) ?_;simp only [↓XC,X1,seval,X2,↓Ya,Yb,↓Yc,onB,XM];have eR:R=ntB x g (ppz 0) (rsA s (sg+1)).1:=by rw [hR];unfold vlK;rw [if_neg h',←hg,if_neg (by simpa using hgz)];exact if_pos hd2
   rw [eR];refine ⟨.b true,(spC s ((ntB x g (ppz 0) (rsA s (sg+1)).1).r) (((rsA s (sg+1)).1:Nat):Int) pr),⟨(((rsA s (sg+1)).1:Nat):Int),pr,true,fun _=>⟨rfl,rfl⟩,rfl,rfl⟩, ?_⟩;try simp only [YC,ntB,ppz,ntR,yb,zf,atR,onB,List.length_append,List.length_cons,List.length_nil,Nat.zero_add]
   exact Vf
end Go.T
end
