/- Own text: part TBO. -/
import Derived.Test.YtgippllfnmdnpaaGreatDoorTBN
import Derived.Test.YtgippllfnmdnpaaGreatDoorTAV
import Derived.Test.YtgippllfnmdnpaaGreatDoorTBK
section
set_option linter.unusedVariables false
set_option linter.unusedSimpArgs false
set_option linter.unusedSectionVars false
set_option linter.unnecessarySimpa false
namespace Go.T
variable [Go.Vg.Glob] [Go.Vg.GlobTabs 0 1]
open Go.Proofs Go.Vg Go.RowKit Go.TT Go.Pl Go.TSh
set_option maxRecDepth 10000
set_option maxHeartbeats 4000000
theorem zrf (s:Bs) (p n:Int) (hp:s.length≤1048576):PF Tryz.prog 317 [.s s,.i .i64 p,.i .i64 n] (.tup [.s (liA s (spot s p) n).1,.i .i64 ((liA s (spot s p) n).2.1:Nat),.i .i64 (liA s (spot s p) n).2.2]):=by
 refine ⟨rfl,rfl,FnK.of (cf:=zk Tryz.prog te [(100,zx),(344,za6),(345,je),(346,x7),(144,yu),(186,xj),(188,wy),(187,qz),(347,xh)] 122 0 false (fun _=>false) (kp [(0,[0,1,2]),(1,[0,1,2]),(2,[0,1,2,9,10,11,12]),(3,[0,1,2,9,10,11,12,30]),(4,[6,7,8]),(5,[0,1,2,9,10,13]),(6,[0,1,2,9,10,13,14,15]),(7,[0,1,2,9,10,13,14,15,37]),(8,[0,1,10,13,14,15]),(9,[0,1,2,10,13,14,15,48]),(10,[0,1,10,13,14,15]),(11,[0,1,10,13,14,15,16]),(12,[0,1,10,13,14,15,16,80]),(13,[0,1,10,13,14,15,16,17]),(14,[0,1,10,13,14,15,16,17,96]),(15,[0,1,10,13,14,15,16,17]),(16,[0,1,10,13,14,15,16]),(17,[0,1,10,13,14,15,16]),(18,[6,7,8])]) [] []) (zf te_ok (l:=[(100,zx),(344,za6),(345,je),(346,x7),(144,yu),(186,xj),(188,wy),(187,qz),(347,xh)]) (⟨ym,zi6,zbl,zgc,qw,zb4,xp,ji,ze9,trivial⟩) zc) Tryz.func317 rfl rfl rfl (by simp [zk]) (by simp [zk]) (rs:=[.tmp 6,.tmp 7,.tmp 8]) rfl 100000 ?_⟩
 simp only [↓XC,XV,XT,Yg,seval,TES,yn,zi7,wq,zgd,ze,kc,qk,qg,qv,XR]
 have h0:=q8 s p
 generalize spot s p=q0 at *
 rw [zu s h0]
 have hP:(hdA s q0).2.2.1≤s.length:=by
  by_cases h:q0<s.length
  ·exact (zpb h).2.1
  ·unfold hdA;rw [jt (by omega),if_neg (by decide)];exact h0
 unfold liA
 have hE:(hdA s q0).2.2.2=0→q0<s.length∧(∃ x,x≤s.length∧(hdA s q0).2.2.1=en s x)∧0≤(hdA s q0).1∧(hdA s q0).1≤9:=fun h=>by
  have hl:q0<s.length:=by
   rcases Nat.lt_or_ge q0 s.length with h9 | h9
   ·exact h9
   ·unfold hdA at h;rw [jt h9,if_neg (by decide)] at h;simp at h
  exact ⟨hl,hdA_end hl h⟩
 generalize hdA s q0=H at *
 obtain ⟨dg,ch,e,cd⟩:=H
 simp only at hP hE
 simp only
 refine Chk.mk hp fun _=>⟨fun h=>by rw [if_pos (show cd≠0 by simpa using h)],fun h=>Chk.mk ⟨hp,by omega,by omega⟩ fun _=>?_⟩
 have hz:cd=0:=by simpa using h
 obtain ⟨hl,⟨x0,hx0,hex⟩,hd0,hd9⟩:=hE hz
 rw [if_neg (show ¬cd≠0 by simpa using h)]
 have hal:=zej s e
 have hala:bhL s e<s.length→la s (bhL s e)=bhL s e:=fun h=>by rw [hex] at h ⊢;exact zt2 h
 generalize bhL s e=a0 at *
 obtain ⟨d,f,hD⟩:∃ d f,ltD s n dg a0=(d,f):=⟨_,_,rfl⟩
 rw [hD]
 unfold ltD at hD
 refine ⟨fun h1=>Chk.mk ?_ fun _=>?_,fun h1=>⟨fun h2=>Chk.mk ⟨hp,by omega,by omega⟩ fun _=>?_,fun h2=>?_⟩⟩
 ·simp only [gt_iff_lt,Bool.and_eq_true,decide_eq_true_eq] at h1;simp only [inR];split<;>omega
 ·have h1':0<dg∧n≤60000:=by simpa using h1
  rw [if_pos h1',Prod.mk.injEq] at hD
  have h14:(if (0:Int)>n then 0 else n)+dg=(d:Int):=by have:=hD.1;split<;>omega
  have h15:f=a0:=hD.2.symm
  refine yv.of (ι:={x:Nat×List Bs // x.1≤s.length∧(x.1<s.length→la s x.1=x.1∧lnW x.2≤x.1)∧lnW x.2≤x.1+1∧(∀ y∈x.2,y.length≤1048576)∧(x.2++(ltL s d f x.1).1,(ltL s d f x.1).2)=ltL s d f a0}) (fun x=>⟨[(0,.s s),(1,.i .i64 (q0:Nat)),(10,.i .i64 ch),(13,.i .i64 (x.1.1:Nat)),(14,.i .i64 (d:Nat)),(15,.i .i64 (f:Nat)),(16,.slc 0 0 x.1.2.length)],[some (.row false 1 x.1.2.length (zg zbi [] x.1.2))]⟩) (fun x=>s.length-x.1.1) ⟨(a0,[]),hal,fun h=>⟨hala h,Nat.zero_le _⟩,Nat.zero_le _,(fun y hy=>by simp at hy),rfl⟩ (by rw [←h14,h15];exact (Ent.ren1 [0] (by decide) (by simp only [Yd];exact zh fun i hi=>by simp at hi) (by simp [zi,Vg.look,SV.mapH,muL]))) ?_
  rintro ⟨⟨a,L⟩,k1,k2,k3,k4,k5⟩
  simp only [↓XC,XV,XT,Yg,seval,TES,ze,kc,qk,qg,wq,qv,XR]
  simp only at k1 k2 k3 k4 k5
  rw [zu s k1]
  have hLn:=zdd L
  have hA:(decide ((a:Int)<(s.length:Nat))&&decide (mkA s a=0)&&(lnA s a||decide ((inA s a:Int)≥d)))=decide (a<s.length∧mkA s a=0∧(lnA s a=true∨d≤inA s a)):=by
   rw [Bool.eq_iff_iff];simp only [Bool.and_eq_true,Bool.or_eq_true,decide_eq_true_eq,Int.ofNat_lt,Int.ofNat_le,ge_iff_le,and_assoc]
  have hB:(decide ((a:Int)≥f)&&(!lnA s a||decide ((inA s a:Int)>d)))=decide (f≤a∧(lnA s a=false∨d<inA s a)):=by
   rw [Bool.eq_iff_iff];simp only [Bool.and_eq_true,Bool.or_eq_true,decide_eq_true_eq,Int.ofNat_lt,Int.ofNat_le,ge_iff_le,gt_iff_lt,Bool.not_eq_true']
  rw [hA,hB]
  refine Chk.mk (fun h=>⟨⟨h,h⟩,hp⟩) fun _=>Chk.mk (fun h=>⟨⟨h,h⟩,hp⟩) fun _=>Chk.mk (fun h=>⟨⟨h,h⟩,hp⟩) fun _=>⟨fun h3=>Chk.mk (fun h=>⟨⟨h,h⟩,hp⟩) fun _=>Chk.mk (fun h=>⟨⟨h,h⟩,hp⟩) fun _=>?_,fun h3=>?_⟩
  ·have h3':=of_decide_eq_true h3
   obtain ⟨k6,k7⟩:=k2 h3'.1
   have hg:=zio h3'.1
   have hbl:=zej s (en s a)
   have hen:=zcd s a k1
   have hge:=zgh s a
   have hbe:bl s a-a=inA s a:=by unfold inA;rw [k6]
   have hble:=bl_en s a
   have hbla:bhL s (en s a)<s.length→la s (bhL s (en s a))=bhL s (en s a):=zt2
   have hbw:bhL s (en s a)<s.length→bhL s (en s a)=en s a+1:=fun h=>by unfold bhL at *;omega
   have hbw2:en s a≤bhL s (en s a):=by unfold bhL;omega
   have htl:=ltL_t (f:=f) (d:=d) h3'
   have hd6:decide (f≤a∧(lnA s a=false∨d<inA s a))=true→d≤inA s a:=fun h4=>by
    rcases (of_decide_eq_true h4).2 with h5 | h5
    ·exact h3'.2.2.resolve_left (by rw [h5];simp)
    ·omega
   refine ⟨fun h4=>Chk.mk (by have:=hd6 h4;simp only [inR];omega) fun _=>Chk.mk hp fun _=>Chk.mk ⟨by omega, ?_,by omega⟩ fun _=>⟨qo rfl rfl,Chk.mk (by omega) fun _=>Chk.mk hp fun _=>Chk.mk ⟨hp,by omega,by omega⟩ fun _=>?_⟩,fun h4=>⟨qo rfl rfl,Chk.mk (by omega) fun _=>Chk.mk hp fun _=>Chk.mk ⟨hp,by omega,by omega⟩ fun _=>?_⟩⟩
   ·have:=hd6 h4;omega
   ·have h4':=of_decide_eq_true h4
    have e1:((a:Int)+d).toNat=a+d:=by omega
    rw [e1]
    have hxl:(sub s (a+d) (en s a)).length=en s a-(a+d):=by simp only [sub,List.length_drop,List.length_take];omega
    refine ⟨⟨(bhL s (en s a),L++[sub s (a+d) (en s a)]),hbl,fun h=>⟨hbla h, ?_⟩, ?_, ?_, ?_⟩,by simp only;omega,(Ent.ren1 [2] (by decide) (by simp only [Yd];exact jo (y:=sub s (a+d) (en s a)) (fun _=>rfl) rfl (fun _ _=>rfl) rfl) (by simp [zi,Vg.look,SV.mapH,muL]))⟩
    ·have h8:=hbw h
     simp only [xr,hxl] at h8 ⊢
     omega
    ·simp only [xr,hxl]
     omega
    ·intro y hy
     rcases List.mem_append.1 hy with h9 | h9
     ·exact k4 y h9
     ·have h10:y=sub s (a+d) (en s a):=by simpa using h9
      rw [h10,hxl];omega
    ·rw [htl,if_pos h4'] at k5
     simp only [List.append_assoc,List.singleton_append]
     exact k5
   ·have h4':=of_decide_eq_false h4
    have hxl:([]:Bs).length=0:=rfl
    refine ⟨⟨(bhL s (en s a),L++[([]:Bs)]),hbl,fun h=>⟨hbla h, ?_⟩, ?_, ?_, ?_⟩,by simp only;omega,(Ent.ren1 [2] (by decide) (by simp only [Yd];exact jo (y:=([]:Bs)) (fun _=>rfl) rfl (fun _ _=>rfl) rfl) (by simp [zi,Vg.look,SV.mapH,muL]))⟩
    ·have h8:=hbw h
     simp only [xr,hxl] at h8 ⊢
     omega
    ·simp only [xr,hxl]
     omega
    ·intro y hy
     rcases List.mem_append.1 hy with h9 | h9
     ·exact k4 y h9
     ·have h10:y=([]:Bs):=by simpa using h9
      rw [h10,hxl];omega
    ·rw [htl,if_neg h4'] at k5
     simp only [List.append_assoc,List.singleton_append]
     exact k5
  ·rw [ltL_f (of_decide_eq_false h3)] at k5
   rw [←k5]
   refine Chk.mk ⟨by omega,by omega⟩ fun _=>?_
   rw [w8 rfl,←kv hl]
   simp only [↓XC,XV,XT,Yg,seval,TES,qv,XR]
   exact Chk.mk ⟨Nat.le_refl _,by omega,k4⟩ fun _=>trivial
 ·have h1':¬(0<dg∧n≤60000):=by omega
  rw [if_neg h1',if_pos h2] at hD
  have h14:(((ltC s a0 n).1:Nat):Int)=(d:Int):=by rw [hD]
  have h15:f=(ltC s a0 n).2:=by rw [hD]
  refine yv.of (ι:={x:Nat×List Bs // x.1≤s.length∧(x.1<s.length→la s x.1=x.1∧lnW x.2≤x.1)∧lnW x.2≤x.1+1∧(∀ y∈x.2,y.length≤1048576)∧(x.2++(ltL s d f x.1).1,(ltL s d f x.1).2)=ltL s d f a0}) (fun x=>⟨[(0,.s s),(1,.i .i64 (q0:Nat)),(10,.i .i64 ch),(13,.i .i64 (x.1.1:Nat)),(14,.i .i64 (d:Nat)),(15,.i .i64 (f:Nat)),(16,.slc 0 0 x.1.2.length)],[some (.row false 1 x.1.2.length (zg zbi [] x.1.2))]⟩) (fun x=>s.length-x.1.1) ⟨(a0,[]),hal,fun h=>⟨hala h,Nat.zero_le _⟩,Nat.zero_le _,(fun y hy=>by simp at hy),rfl⟩ (by rw [←h14,h15];exact (Ent.ren1 [0] (by decide) (by simp only [Yd];exact zh fun i hi=>by simp at hi) (by simp [zi,Vg.look,SV.mapH,muL]))) ?_
  rintro ⟨⟨a,L⟩,k1,k2,k3,k4,k5⟩
  simp only [↓XC,XV,XT,Yg,seval,TES,ze,kc,qk,qg,wq,qv,XR]
  simp only at k1 k2 k3 k4 k5
  rw [zu s k1]
  have hLn:=zdd L
  have hA:(decide ((a:Int)<(s.length:Nat))&&decide (mkA s a=0)&&(lnA s a||decide ((inA s a:Int)≥d)))=decide (a<s.length∧mkA s a=0∧(lnA s a=true∨d≤inA s a)):=by
   rw [Bool.eq_iff_iff];simp only [Bool.and_eq_true,Bool.or_eq_true,decide_eq_true_eq,Int.ofNat_lt,Int.ofNat_le,ge_iff_le,and_assoc]
  have hB:(decide ((a:Int)≥f)&&(!lnA s a||decide ((inA s a:Int)>d)))=decide (f≤a∧(lnA s a=false∨d<inA s a)):=by
   rw [Bool.eq_iff_iff];simp only [Bool.and_eq_true,Bool.or_eq_true,decide_eq_true_eq,Int.ofNat_lt,Int.ofNat_le,ge_iff_le,gt_iff_lt,Bool.not_eq_true']
  rw [hA,hB]
  refine Chk.mk (fun h=>⟨⟨h,h⟩,hp⟩) fun _=>Chk.mk (fun h=>⟨⟨h,h⟩,hp⟩) fun _=>Chk.mk (fun h=>⟨⟨h,h⟩,hp⟩) fun _=>⟨fun h3=>Chk.mk (fun h=>⟨⟨h,h⟩,hp⟩) fun _=>Chk.mk (fun h=>⟨⟨h,h⟩,hp⟩) fun _=>?_,fun h3=>?_⟩
  ·have h3':=of_decide_eq_true h3
   obtain ⟨k6,k7⟩:=k2 h3'.1
   have hg:=zio h3'.1
   have hbl:=zej s (en s a)
   have hen:=zcd s a k1
   have hge:=zgh s a
   have hbe:bl s a-a=inA s a:=by unfold inA;rw [k6]
   have hble:=bl_en s a
   have hbla:bhL s (en s a)<s.length→la s (bhL s (en s a))=bhL s (en s a):=zt2
   have hbw:bhL s (en s a)<s.length→bhL s (en s a)=en s a+1:=fun h=>by unfold bhL at *;omega
   have hbw2:en s a≤bhL s (en s a):=by unfold bhL;omega
   have htl:=ltL_t (f:=f) (d:=d) h3'
   have hd6:decide (f≤a∧(lnA s a=false∨d<inA s a))=true→d≤inA s a:=fun h4=>by
    rcases (of_decide_eq_true h4).2 with h5 | h5
    ·exact h3'.2.2.resolve_left (by rw [h5];simp)
    ·omega
   refine ⟨fun h4=>Chk.mk (by have:=hd6 h4;simp only [inR];omega) fun _=>Chk.mk hp fun _=>Chk.mk ⟨by omega, ?_,by omega⟩ fun _=>⟨qo rfl rfl,Chk.mk (by omega) fun _=>Chk.mk hp fun _=>Chk.mk ⟨hp,by omega,by omega⟩ fun _=>?_⟩,fun h4=>⟨qo rfl rfl,Chk.mk (by omega) fun _=>Chk.mk hp fun _=>Chk.mk ⟨hp,by omega,by omega⟩ fun _=>?_⟩⟩
   ·have:=hd6 h4;omega
   ·have h4':=of_decide_eq_true h4
    have e1:((a:Int)+d).toNat=a+d:=by omega
    rw [e1]
    have hxl:(sub s (a+d) (en s a)).length=en s a-(a+d):=by simp only [sub,List.length_drop,List.length_take];omega
    refine ⟨⟨(bhL s (en s a),L++[sub s (a+d) (en s a)]),hbl,fun h=>⟨hbla h, ?_⟩, ?_, ?_, ?_⟩,by simp only;omega,(Ent.ren1 [2] (by decide) (by simp only [Yd];exact jo (y:=sub s (a+d) (en s a)) (fun _=>rfl) rfl (fun _ _=>rfl) rfl) (by simp [zi,Vg.look,SV.mapH,muL]))⟩
    ·have h8:=hbw h
     simp only [xr,hxl] at h8 ⊢
     omega
    ·simp only [xr,hxl]
     omega
    ·intro y hy
     rcases List.mem_append.1 hy with h9 | h9
     ·exact k4 y h9
     ·have h10:y=sub s (a+d) (en s a):=by simpa using h9
      rw [h10,hxl];omega
    ·rw [htl,if_pos h4'] at k5
     simp only [List.append_assoc,List.singleton_append]
     exact k5
   ·have h4':=of_decide_eq_false h4
    have hxl:([]:Bs).length=0:=rfl
    refine ⟨⟨(bhL s (en s a),L++[([]:Bs)]),hbl,fun h=>⟨hbla h, ?_⟩, ?_, ?_, ?_⟩,by simp only;omega,(Ent.ren1 [2] (by decide) (by simp only [Yd];exact jo (y:=([]:Bs)) (fun _=>rfl) rfl (fun _ _=>rfl) rfl) (by simp [zi,Vg.look,SV.mapH,muL]))⟩
    ·have h8:=hbw h
     simp only [xr,hxl] at h8 ⊢
     omega
    ·simp only [xr,hxl]
     omega
    ·intro y hy
     rcases List.mem_append.1 hy with h9 | h9
     ·exact k4 y h9
     ·have h10:y=([]:Bs):=by simpa using h9
      rw [h10,hxl];omega
    ·rw [htl,if_neg h4'] at k5
     simp only [List.append_assoc,List.singleton_append]
     exact k5
  ·rw [ltL_f (of_decide_eq_false h3)] at k5
   rw [←k5]
   refine Chk.mk ⟨by omega,by omega⟩ fun _=>?_
   rw [w8 rfl,←kv hl]
   simp only [↓XC,XV,XT,Yg,seval,TES,qv,XR]
   exact Chk.mk ⟨Nat.le_refl _,by omega,k4⟩ fun _=>trivial
 ·have h1':¬(0<dg∧n≤60000):=by simpa using h1
  rw [if_neg h1',if_neg h2,Prod.mk.injEq] at hD
  have h14:(60000:Int)=(d:Int):=by omega
  have h15:f=a0:=hD.2.symm
  refine yv.of (ι:={x:Nat×List Bs // x.1≤s.length∧(x.1<s.length→la s x.1=x.1∧lnW x.2≤x.1)∧lnW x.2≤x.1+1∧(∀ y∈x.2,y.length≤1048576)∧(x.2++(ltL s d f x.1).1,(ltL s d f x.1).2)=ltL s d f a0}) (fun x=>⟨[(0,.s s),(1,.i .i64 (q0:Nat)),(10,.i .i64 ch),(13,.i .i64 (x.1.1:Nat)),(14,.i .i64 (d:Nat)),(15,.i .i64 (f:Nat)),(16,.slc 0 0 x.1.2.length)],[some (.row false 1 x.1.2.length (zg zbi [] x.1.2))]⟩) (fun x=>s.length-x.1.1) ⟨(a0,[]),hal,fun h=>⟨hala h,Nat.zero_le _⟩,Nat.zero_le _,(fun y hy=>by simp at hy),rfl⟩ (by rw [←h14,h15];exact (Ent.ren1 [0] (by decide) (by simp only [Yd];exact zh fun i hi=>by simp at hi) (by simp [zi,Vg.look,SV.mapH,muL]))) ?_
  rintro ⟨⟨a,L⟩,k1,k2,k3,k4,k5⟩
  simp only [↓XC,XV,XT,Yg,seval,TES,ze,kc,qk,qg,wq,qv,XR]
  simp only at k1 k2 k3 k4 k5
  rw [zu s k1]
  have hLn:=zdd L
  have hA:(decide ((a:Int)<(s.length:Nat))&&decide (mkA s a=0)&&(lnA s a||decide ((inA s a:Int)≥d)))=decide (a<s.length∧mkA s a=0∧(lnA s a=true∨d≤inA s a)):=by
   rw [Bool.eq_iff_iff];simp only [Bool.and_eq_true,Bool.or_eq_true,decide_eq_true_eq,Int.ofNat_lt,Int.ofNat_le,ge_iff_le,and_assoc]
  have hB:(decide ((a:Int)≥f)&&(!lnA s a||decide ((inA s a:Int)>d)))=decide (f≤a∧(lnA s a=false∨d<inA s a)):=by
   rw [Bool.eq_iff_iff];simp only [Bool.and_eq_true,Bool.or_eq_true,decide_eq_true_eq,Int.ofNat_lt,Int.ofNat_le,ge_iff_le,gt_iff_lt,Bool.not_eq_true']
  rw [hA,hB]
  refine Chk.mk (fun h=>⟨⟨h,h⟩,hp⟩) fun _=>Chk.mk (fun h=>⟨⟨h,h⟩,hp⟩) fun _=>Chk.mk (fun h=>⟨⟨h,h⟩,hp⟩) fun _=>⟨fun h3=>Chk.mk (fun h=>⟨⟨h,h⟩,hp⟩) fun _=>Chk.mk (fun h=>⟨⟨h,h⟩,hp⟩) fun _=>?_,fun h3=>?_⟩
  ·have h3':=of_decide_eq_true h3
   obtain ⟨k6,k7⟩:=k2 h3'.1
   have hg:=zio h3'.1
   have hbl:=zej s (en s a)
   have hen:=zcd s a k1
   have hge:=zgh s a
   have hbe:bl s a-a=inA s a:=by unfold inA;rw [k6]
   have hble:=bl_en s a
   have hbla:bhL s (en s a)<s.length→la s (bhL s (en s a))=bhL s (en s a):=zt2
   have hbw:bhL s (en s a)<s.length→bhL s (en s a)=en s a+1:=fun h=>by unfold bhL at *;omega
   have hbw2:en s a≤bhL s (en s a):=by unfold bhL;omega
   have htl:=ltL_t (f:=f) (d:=d) h3'
   have hd6:decide (f≤a∧(lnA s a=false∨d<inA s a))=true→d≤inA s a:=fun h4=>by
    rcases (of_decide_eq_true h4).2 with h5 | h5
    ·exact h3'.2.2.resolve_left (by rw [h5];simp)
    ·omega
   refine ⟨fun h4=>Chk.mk (by have:=hd6 h4;simp only [inR];omega) fun _=>Chk.mk hp fun _=>Chk.mk ⟨by omega, ?_,by omega⟩ fun _=>⟨qo rfl rfl,Chk.mk (by omega) fun _=>Chk.mk hp fun _=>Chk.mk ⟨hp,by omega,by omega⟩ fun _=>?_⟩,fun h4=>⟨qo rfl rfl,Chk.mk (by omega) fun _=>Chk.mk hp fun _=>Chk.mk ⟨hp,by omega,by omega⟩ fun _=>?_⟩⟩
   ·have:=hd6 h4;omega
   ·have h4':=of_decide_eq_true h4
    have e1:((a:Int)+d).toNat=a+d:=by omega
    rw [e1]
    have hxl:(sub s (a+d) (en s a)).length=en s a-(a+d):=by simp only [sub,List.length_drop,List.length_take];omega
    refine ⟨⟨(bhL s (en s a),L++[sub s (a+d) (en s a)]),hbl,fun h=>⟨hbla h, ?_⟩, ?_, ?_, ?_⟩,by simp only;omega,(Ent.ren1 [2] (by decide) (by simp only [Yd];exact jo (y:=sub s (a+d) (en s a)) (fun _=>rfl) rfl (fun _ _=>rfl) rfl) (by simp [zi,Vg.look,SV.mapH,muL]))⟩
    ·have h8:=hbw h
     simp only [xr,hxl] at h8 ⊢
     omega
    ·simp only [xr,hxl]
     omega
    ·intro y hy
     rcases List.mem_append.1 hy with h9 | h9
     ·exact k4 y h9
     ·have h10:y=sub s (a+d) (en s a):=by simpa using h9
      rw [h10,hxl];omega
    ·rw [htl,if_pos h4'] at k5
     simp only [List.append_assoc,List.singleton_append]
     exact k5
   ·have h4':=of_decide_eq_false h4
    have hxl:([]:Bs).length=0:=rfl
    refine ⟨⟨(bhL s (en s a),L++[([]:Bs)]),hbl,fun h=>⟨hbla h, ?_⟩, ?_, ?_, ?_⟩,by simp only;omega,(Ent.ren1 [2] (by decide) (by simp only [Yd];exact jo (y:=([]:Bs)) (fun _=>rfl) rfl (fun _ _=>rfl) rfl) (by simp [zi,Vg.look,SV.mapH,muL]))⟩
    ·have h8:=hbw h
     simp only [xr,hxl] at h8 ⊢
     omega
    ·simp only [xr,hxl]
     omega
    ·intro y hy
     rcases List.mem_append.1 hy with h9 | h9
     ·exact k4 y h9
     ·have h10:y=([]:Bs):=by simpa using h9
      rw [h10,hxl];omega
    ·rw [htl,if_neg h4'] at k5
     simp only [List.append_assoc,List.singleton_append]
     exact k5
  ·rw [ltL_f (of_decide_eq_false h3)] at k5
   rw [←k5]
   refine Chk.mk ⟨by omega,by omega⟩ fun _=>?_
   rw [w8 rfl,←kv hl]
   simp only [↓XC,XV,XT,Yg,seval,TES,qv,XR]
   exact Chk.mk ⟨Nat.le_refl _,by omega,k4⟩ fun _=>trivial
noncomputable def xd:PE:=peR (fun (x:Bs×Int×Int)=>match x with | (s,p,n)=>[.s s,.i .i64 p,.i .i64 n]) (fun (x:Bs×Int×Int)=>match x with | (s,p,n)=>s.length≤1048576) (fun (x:Bs×Int×Int)=>match x with | (s,p,n)=>.tup [.s (liA s (spot s p) n).1,.i .i64 ((liA s (spot s p) n).2.1:Nat),.i .i64 (liA s (spot s p) n).2.2])
theorem ze7 {s:Bs} {p n:Int}:xd [.s s,.i .i64 p,.i .i64 n]=some (s.length≤1048576,.tup [.s (liA s (spot s p) n).1,.i .i64 ((liA s (spot s p) n).2.1:Nat),.i .i64 (liA s (spot s p) n).2.2]):=yh (by rintro ⟨a0,a1,a2⟩ ⟨b0,b1,b2⟩ h;simp_all []) (s,p,n)
theorem ze6:PE1 Tryz.prog 317 xd:=yl (by rintro ⟨s,p,n⟩ hp;exact zrf s p n hp)
end Go.T
end
section
set_option linter.unusedVariables false
set_option linter.unusedSimpArgs false
set_option linter.unusedSectionVars false
set_option linter.unnecessarySimpa false
namespace Go.T
variable [Go.Vg.Glob] [Go.Vg.GlobTabs 0 1]
open Go.Proofs Go.Vg Go.RowKit Go.TT Go.Pl
set_option maxRecDepth 10000
set_option maxHeartbeats 4000000
theorem rboS (s:Bs) (r:Rd) (fr:Bool) (la:Int) (ha:Bool) (an tg:Bs) (pf:Int) (pe:Nat) (hs:s.length≤1048576) (ho:Ok s r):zc0 Tryz.prog 318 s fr la [.agg [.b ha,.s an,.s tg,.i .i64 pf,.i .i64 (pe:Nat)]] r (boS s r (⟨ha,an,tg,pe⟩:Pp)):=by
 have hdp:=ho.dp
 unfold boS
 split
 ·rename_i h9
  refine zdt s r fr la id ha an tg pf pe (fun hb=>?_) (fun hb=>?_) ⟨hs,ho⟩
  ·exact zds s r fr la id ha an tg pf pe (fun h=>by omega) ⟨hs,ho,zy hb (by decide)⟩
  ·exact zgo s r fr la (paR s id) ha an tg pf pe (fun h=>by omega) ⟨hs,ho,zy hb (by decide)⟩
 ·rename_i d h9
  have hit:zf8 s (r.dp+1) (noF s d):=fun r1 h1 h2 h3=>zhs d r1 h1 (by omega) h3
  refine zdt s r fr la (noF s d) ha an tg pf pe (fun hb=>?_) (fun hb=>?_) ⟨hs,ho⟩
  ·exact zds s r fr la (noF s d) ha an tg pf pe (fun h=>⟨hit,fun r2 k1 k2=>rnode s fr la hs d r2 k1 (by omega)⟩) ⟨hs,ho,zy hb (by decide)⟩
  ·exact zgo s r fr la (paR s (noF s d)) ha an tg pf pe (fun h=>⟨fun r2 k1 k2 k3=>zhm k1 (by rw [k2];exact hit) k3,fun r2 k1 k2=>znp s r2 fr la (noF s d) (fun r3 m1 m2=>rnode s fr la hs d r3 m1 (by omega)) ⟨hs,k1⟩⟩) ⟨hs,ho,zy hb (by decide)⟩
theorem rscalar (s:Bs) (r:Rd) (fr:Bool) (la:Int) (ha:Bool) (an tg:Bs) (pf:Int) (pe:Nat) (n:Int) (hp:s.length≤1048576∧Ok s r):FnK Tryz.prog 283 1 [.ptr 0 0 0,.agg [.b ha,.s an,.s tg,.i .i64 pf,.i .i64 (pe:Nat)],.i .i64 n] [some (.blk false [.s s,.i .i64 ((r).pos:Nat),.slc 1 0 (r).ev.length,.slc 2 0 (r).ev.length,.mp 3,.slc 4 0 (r).hd.length,.i .i64 ((r).dp:Nat),.i .i64 (r).cd,.i .i64 ((r).pl:Nat),.b fr,.i .i64 la]),some (.row false 8 (r).ev.length (zg evc evz (r).ev)),some (.row false 1 (r).ev.length (zg qy false (r).dn)),some (.mapS (nmI (r).ev (r).bs)),some (.row false 2 (r).hd.length (zg hdc hdz (r).hd))] (fun z c=>z=.b (decide ((scK s ⟨r,false,0⟩ (⟨ha,an,tg,pe⟩:Pp) n).r.cd=0))∧c=[some (.blk false [.s s,.i .i64 (((scK s ⟨r,false,0⟩ (⟨ha,an,tg,pe⟩:Pp) n).r).pos:Nat),.slc 1 0 ((scK s ⟨r,false,0⟩ (⟨ha,an,tg,pe⟩:Pp) n).r).ev.length,.slc 2 0 ((scK s ⟨r,false,0⟩ (⟨ha,an,tg,pe⟩:Pp) n).r).ev.length,.mp 3,.slc 4 0 ((scK s ⟨r,false,0⟩ (⟨ha,an,tg,pe⟩:Pp) n).r).hd.length,.i .i64 (((scK s ⟨r,false,0⟩ (⟨ha,an,tg,pe⟩:Pp) n).r).dp:Nat),.i .i64 ((scK s ⟨r,false,0⟩ (⟨ha,an,tg,pe⟩:Pp) n).r).cd,.i .i64 (((scK s ⟨r,false,0⟩ (⟨ha,an,tg,pe⟩:Pp) n).r).pl:Nat),.b (scK s ⟨r,false,0⟩ (⟨ha,an,tg,pe⟩:Pp) n).fr,.i .i64 la]),some (.row false 8 ((scK s ⟨r,false,0⟩ (⟨ha,an,tg,pe⟩:Pp) n).r).ev.length (zg evc evz ((scK s ⟨r,false,0⟩ (⟨ha,an,tg,pe⟩:Pp) n).r).ev)),some (.row false 1 ((scK s ⟨r,false,0⟩ (⟨ha,an,tg,pe⟩:Pp) n).r).ev.length (zg qy false ((scK s ⟨r,false,0⟩ (⟨ha,an,tg,pe⟩:Pp) n).r).dn)),some (.mapS (nmI ((scK s ⟨r,false,0⟩ (⟨ha,an,tg,pe⟩:Pp) n).r).ev ((scK s ⟨r,false,0⟩ (⟨ha,an,tg,pe⟩:Pp) n).r).bs)),some (.row false 2 ((scK s ⟨r,false,0⟩ (⟨ha,an,tg,pe⟩:Pp) n).r).hd.length (zg hdc hdz ((scK s ⟨r,false,0⟩ (⟨ha,an,tg,pe⟩:Pp) n).r).hd))]):=by
 refine FnK.ofE (cf:=zk Tryz.prog te [(107,zm),(317,xd),(191,wn),(101,y4)] 107 1 false (fun _=>false) (kp [(0,[0,2,4]),(1,[0,2,4]),(2,[0,2,4,7]),(3,[0,2,4,7,24]),(4,[0,4,7,8,9,10]),(5,[0,4,7,8,9,10,46]),(6,[6]),(7,[0,4,7,8,9,11]),(8,[0,4,8,9,11,52]),(9,[0,4,8,9,11]),(10,[0,9]),(11,[0]),(12,[]),(13,[6]),(14,[0,2,4,7,65]),(15,[6]),(16,[0,2,4,7,75]),(17,[6]),(18,[0,2,4,81]),(19,[6]),(20,[0,2,4,87]),(21,[6]),(22,[6])]) [] [(2,[],[],.q1 0 (.q1 1 (.q1 2 (.q1 4 (.q1 5 (.q1 6 (.q0 3 [3] (.q0 7 [7] (.alt 8 (.q1 9 (.fin)) (.fin)))))))))),(4,[],[],.q1 0 (.q1 1 (.q1 2 (.q1 4 (.q1 5 (.q1 6 (.q1 8 (.q0 3 [3] (.q0 7 [7] (.alt 9 (.q1 10 (.q1 11 (.q1 12 (.q1 13 (.q1 14 (.q1 15 (.q1 16 (.fin)))))))) (.fin))))))))))),(20,[],[],.q1 0 (.q1 1 (.q1 2 (.q1 4 (.q1 5 (.q1 6 (.q0 3 [3] (.q0 7 [7] (.alt 8 (.q1 9 (.fin)) (.fin))))))))))]) (zf te_ok (l:=[(107,zm),(317,xd),(191,wn),(101,y4)]) (⟨z6,ze6,ve,ww,trivial⟩) zc) Tryz.func283 rfl rfl rfl (by simp [zk]) (by simp [zk]) (rs:=[.tmp 6]) rfl 100000 ?_
 simp only [↓XC,XV,XT,Yg,seval,TES,zd,ze7,yj,zq,XRE,XR,XRH,Yh]
 obtain ⟨hs,ho⟩:=hp
 have hpos:=ho.pos
 have hsz:=ho.size hs
 have hcd:=ho.cd
 rw [zu s hpos]
 refine ⟨by decide +kernel,Chk.mk hs fun _=>⟨fun h1=>⟨by decide +kernel,Chk.mk hs fun _=>?_⟩,fun h1=>?_⟩⟩
 ·have h1':byt s r.pos=124∨byt s r.pos=62:=by simpa using h1
  refine ⟨fun h2=>?_,fun h2=>⟨fun h3=>?_,fun h3=>?_⟩⟩
  ·have hne:¬(liA s r.pos n).2.2=0:=by simpa using h2
   refine Wm (wg s r false la (liA s r.pos n).2.2 (liA s r.pos n).2.1 hcd) ?_
   simp only [↓XC,XV,XT,Yg,seval,TES,XRE,XR,XRH,Yh,XM]
   have e:scK s ⟨r,false,0⟩ (⟨ha,an,tg,pe⟩:Pp) n=⟨flt r (liA s r.pos n).2.2 (liA s r.pos n).2.1,false,0⟩:=by unfold scK;rw [if_pos h1',if_pos hne]
   rw [e]
   exact Wf (by simp only [↓XC,XV,XT,Yg,seval];try simp [Yf,flt,hne])
  ·have hne:¬(liA s r.pos n).2.2≠0:=by simpa using h2
   refine Wb (zg5 s r false la 5 (liA s r.pos n).1 ha an tg pf pe ⟨by omega,ho.dn,ho.bs⟩) ?_
   simp only [↓XC,XV,XT,Yg,seval,TES,XRE,XR,XRH,Yh,XM]
   have e:scK s ⟨r,false,0⟩ (⟨ha,an,tg,pe⟩:Pp) n=⟨atR (y5 r 5 (liA s r.pos n).1 an tg) (liA s r.pos n).2.1,true,0⟩:=by unfold scK;rw [if_pos h1',if_neg hne,if_pos h3]
   rw [e]
   try simp only [atR,y5,zn,List.length_append,List.length_cons,List.length_nil,Nat.zero_add]
   exact Wf (by simp only [↓XC,XV,XT,Yg,seval];try simp [Yf,hcd])
  ·have hne:¬(liA s r.pos n).2.2≠0:=by simpa using h2
   refine Wb (zg5 s r false la 4 (liA s r.pos n).1 ha an tg pf pe ⟨by omega,ho.dn,ho.bs⟩) ?_
   simp only [↓XC,XV,XT,Yg,seval,TES,XRE,XR,XRH,Yh,XM]
   have e:scK s ⟨r,false,0⟩ (⟨ha,an,tg,pe⟩:Pp) n=⟨atR (y5 r 4 (liA s r.pos n).1 an tg) (liA s r.pos n).2.1,true,0⟩:=by unfold scK;rw [if_pos h1',if_neg hne,if_neg h3]
   rw [e]
   try simp only [atR,y5,zn,List.length_append,List.length_cons,List.length_nil,Nat.zero_add]
   exact Wf (by simp only [↓XC,XV,XT,Yg,seval];try simp [Yf,hcd])
 have h1':¬(byt s r.pos=124∨byt s r.pos=62):=by simpa using h1
 refine ⟨fun h2=>?_,fun h2=>?_⟩
 ·have h2':byt s r.pos=91∨byt s r.pos=123:=by simpa using h2
  have hN:=rboS s r false la ha an tg pf pe hs ho
  unfold zc0 rdC at hN
  refine Wb (hN) ?_
  simp only [↓XC,XV,XT,Yg,seval,TES,XRE,XR,XRH,Yh,XM]
  have e:scK s ⟨r,false,0⟩ (⟨ha,an,tg,pe⟩:Pp) n=⟨boS s r (⟨ha,an,tg,pe⟩:Pp),false,0⟩:=by unfold scK;rw [if_neg h1',if_pos h2']
  rw [e]
  exact Wf
 have h2':¬(byt s r.pos=91∨byt s r.pos=123):=by simpa using h2
 refine ⟨fun h3=>?_,fun h3=>⟨fun h4=>?_,fun h4=>⟨by decide +kernel,Chk.mk hs fun _=>⟨fun h5=>?_,fun h5=>?_⟩⟩⟩⟩
 ·refine Wb (zsq s r false la ha an tg pf pe ⟨hs,by omega,ho.dn,ho.bs,hcd,hpos⟩) ?_
  simp only [↓XC,XV,XT,Yg,seval,TES,XRE,XR,XRH,Yh,XM]
  have e:scK s ⟨r,false,0⟩ (⟨ha,an,tg,pe⟩:Pp) n=⟨alR s r ha,false,0⟩:=by unfold scK;rw [if_neg h1',if_neg h2',if_pos h3]
  rw [e]
  exact Wf
 ·have h4':zff (byt s r.pos)=true:=h4
  have hqp:r.pos<s.length:=by
   simp only [Bool.or_eq_true,beq_iff_eq] at h4
   rcases h4 with h | h
   ·exact zy h (by decide)
   ·exact zy h (by decide)
  refine Wb (zsd s r false la ha an tg pf pe ⟨hs,by omega,ho.dn,ho.bs,hcd,hqp⟩) ?_
  simp only [↓XC,XV,XT,Yg,seval,TES,XRE,XR,XRH,Yh,XM]
  have e:scK s ⟨r,false,0⟩ (⟨ha,an,tg,pe⟩:Pp) n=⟨qtR s r (⟨ha,an,tg,pe⟩:Pp),false,0⟩:=by unfold scK;rw [if_neg h1',if_neg h2',if_neg h3,if_pos h4']
  rw [e]
  exact Wf
 ·have h4':¬zff (byt s r.pos)=true:=by unfold zff;rw [h4];simp
  refine Wb (zwv s r false la ha an tg pf pe n false ⟨hs,by omega,ho.dn,ho.bs,hpos⟩) ?_
  simp only [↓XC,XV,XT,Yg,seval,TES,XRE,XR,XRH,Yh,XM]
  have e:scK s ⟨r,false,0⟩ (⟨ha,an,tg,pe⟩:Pp) n=⟨plR s r (⟨ha,an,tg,pe⟩:Pp) n false,false,0⟩:=by unfold scK;rw [if_neg h1',if_neg h2',if_neg h3,if_neg h4',if_pos h5]
  rw [e]
  try simp only [plR,atR,y5,zn,List.length_append,List.length_cons,List.length_nil,Nat.zero_add]
  exact Wf (by simp only [↓XC,XV,XT,Yg,seval];try simp [Yf,hcd])
 ·have h4':¬zff (byt s r.pos)=true:=by unfold zff;rw [h4];simp
  refine Wm (wg s r false la 10 r.pos hcd) ?_
  simp only [↓XC,XV,XT,Yg,seval,TES,XRE,XR,XRH,Yh,XM]
  have e:scK s ⟨r,false,0⟩ (⟨ha,an,tg,pe⟩:Pp) n=⟨flt r 10 r.pos,false,0⟩:=by unfold scK;rw [if_neg h1',if_neg h2',if_neg h3,if_neg h4',if_neg (by simpa using h5)]
  rw [e]
  exact Wf
theorem rkey (s:Bs) (r:Rd) (fr:Bool) (la:Int) (ha:Bool) (an tg:Bs) (pf:Int) (pe:Nat) (hp:s.length≤1048576∧OkM s r∧(kyA s r.pos).2.2=true):FnK Tryz.prog 314 1 [.ptr 0 0 0,.agg [.b ha,.s an,.s tg,.i .i64 pf,.i .i64 (pe:Nat)]] [some (.blk false [.s s,.i .i64 ((r).pos:Nat),.slc 1 0 (r).ev.length,.slc 2 0 (r).ev.length,.mp 3,.slc 4 0 (r).hd.length,.i .i64 ((r).dp:Nat),.i .i64 (r).cd,.i .i64 ((r).pl:Nat),.b fr,.i .i64 la]),some (.row false 8 (r).ev.length (zg evc evz (r).ev)),some (.row false 1 (r).ev.length (zg qy false (r).dn)),some (.mapS (nmI (r).ev (r).bs)),some (.row false 2 (r).hd.length (zg hdc hdz (r).hd))] (fun z c=>z=.tup [.i .i64 (kyA s r.pos).2.1,.b (decide ((kyR s r (⟨ha,an,tg,pe⟩:Pp)).cd=0))]∧c=[some (.blk false [.s s,.i .i64 ((kyR s r (⟨ha,an,tg,pe⟩:Pp)).pos:Nat),.slc 1 0 (kyR s r (⟨ha,an,tg,pe⟩:Pp)).ev.length,.slc 2 0 (kyR s r (⟨ha,an,tg,pe⟩:Pp)).ev.length,.mp 3,.slc 4 0 (kyR s r (⟨ha,an,tg,pe⟩:Pp)).hd.length,.i .i64 ((kyR s r (⟨ha,an,tg,pe⟩:Pp)).dp:Nat),.i .i64 (kyR s r (⟨ha,an,tg,pe⟩:Pp)).cd,.i .i64 ((kyR s r (⟨ha,an,tg,pe⟩:Pp)).pl:Nat),.b fr,.i .i64 la]),some (.row false 8 (kyR s r (⟨ha,an,tg,pe⟩:Pp)).ev.length (zg evc evz (kyR s r (⟨ha,an,tg,pe⟩:Pp)).ev)),some (.row false 1 (kyR s r (⟨ha,an,tg,pe⟩:Pp)).ev.length (zg qy false (kyR s r (⟨ha,an,tg,pe⟩:Pp)).dn)),some (.mapS (nmI (kyR s r (⟨ha,an,tg,pe⟩:Pp)).ev (kyR s r (⟨ha,an,tg,pe⟩:Pp)).bs)),some (.row false 2 (kyR s r (⟨ha,an,tg,pe⟩:Pp)).hd.length (zg hdc hdz (kyR s r (⟨ha,an,tg,pe⟩:Pp)).hd))]):=by
 refine FnK.ofE (cf:=zk Tryz.prog te [(32,j7),(107,zm),(191,wn)] 60 1 false (fun _=>false) (kp [(0,[0,3]),(1,[0,3,6,7]),(2,[0,3,6,7,9]),(3,[0,3,6,7,9,10]),(4,[7,9]),(5,[0,3,6,7,9,10,46]),(6,[7,9]),(7,[0,3,6,7,9,52]),(8,[7,9]),(9,[4,5])]) [] [(1,[],[],.q1 0 (.q1 1 (.q1 2 (.q1 4 (.q1 5 (.q1 6 (.q0 3 [3] (.q0 7 [7] (.alt 8 (.q1 9 (.q1 10 (.q1 11 (.q1 12 (.q1 13 (.q1 14 (.q1 15 (.fin)))))))) (.fin)))))))))),(3,[],[],.q1 0 (.q1 1 (.q1 2 (.q1 4 (.q1 5 (.q1 6 (.q0 3 [3] (.q0 7 [7] (.alt 8 (.q1 9 (.fin)) (.fin)))))))))),(4,[],[],.q1 0 (.q1 1 (.q1 2 (.q1 3 (.q1 5 (.q1 6 (.q1 7 (.q1 9 (.q0 4 [4,10,12] (.q0 8 [8,10,12] (.q1 10 (.q0 11 [11,12] (.seq [12])))))))))))))]) (zf te_ok (l:=[(32,j7),(107,zm),(191,wn)]) (⟨za5,z6,ve,trivial⟩) zc) Tryz.func314 rfl rfl rfl (by simp [zk]) (by simp [zk]) (rs:=[.tmp 4,.tmp 5]) rfl 100000 ?_
 simp only [↓XC,XV,XT,Yg,seval,TES,qa,zd,yj,XRE,XR,XRH,Yh]
 obtain ⟨hs,ho,hk⟩:=hp
 have hpos:=ho.pos
 have hcd:=ho.cd
 have hsz:=ho.sz
 obtain ⟨k1,k2,k3,k4,k5⟩:=xx (Nat.le_of_lt hpos) hk
 rw [zu s (Nat.le_of_lt hpos)]
 refine ⟨by decide +kernel,Chk.mk hs fun _=>⟨by decide +kernel,Chk.mk hs fun _=>⟨fun h3=>?_,fun h3=>⟨fun h4=>?_,fun h4=>⟨by decide +kernel,Chk.mk ⟨by omega,by omega,by omega⟩ fun _=>?_⟩⟩⟩⟩⟩
 ·refine Wb (zsq s r fr la ha an tg pf pe ⟨hs,by omega,ho.dn,ho.bs,hcd,Nat.le_of_lt hpos⟩) ?_
  simp only [↓XC,XV,XT,Yg,seval,TES,XRE,XR,XRH,Yh,XM]
  have e:kyR s r (⟨ha,an,tg,pe⟩:Pp)=alR s r ha:=by unfold kyR;rw [if_pos h3]
  rw [e]
  exact Wf
 ·have h4':zff (byt s r.pos)=true:=h4
  refine Wb (zsd s r fr la ha an tg pf pe ⟨hs,by omega,ho.dn,ho.bs,hcd,hpos⟩) ?_
  simp only [↓XC,XV,XT,Yg,seval,TES,XRE,XR,XRH,Yh,XM]
  have e:kyR s r (⟨ha,an,tg,pe⟩:Pp)=qtR s r (⟨ha,an,tg,pe⟩:Pp):=by unfold kyR;rw [if_neg h3,if_pos h4']
  rw [e]
  exact Wf
 ·have h4':¬zff (byt s r.pos)=true:=by unfold zff;rw [h4];simp
  rw [show List.drop r.pos (List.take (kyA s r.pos).1.toNat s)=sub s r.pos (kyA s r.pos).1.toNat from rfl]
  refine Wb (zg5 s r fr la 1 (sub s r.pos (kyA s r.pos).1.toNat) ha an tg pf pe ⟨by omega,ho.dn,ho.bs⟩) ?_
  simp only [↓XC,XV,XT,Yg,seval,TES,XRE,XR,XRH,Yh,XM]
  have e:kyR s r (⟨ha,an,tg,pe⟩:Pp)=y5 r 1 (sub s r.pos (kyA s r.pos).1.toNat) an tg:=by unfold kyR;rw [if_neg h3,if_neg h4']
  rw [e]
  try simp only [atR,y5,zn,List.length_append,List.length_cons,List.length_nil,Nat.zero_add]
  exact Wf (by simp only [↓XC,XV,XT,Yg,seval];try simp [Yf,hcd])
theorem rvalue (s:Bs) (x:Rb) (sb:Int→Bool→Bool→Rb→Rb) (sg:Nat) (cc:Int) (li:Bool) (HS:∀ (n:Int) (i l:Bool) (x1:Rb),Ok s x1.r→x1.r.dp=x.r.dp→zcj Tryz.prog 252 s [.i .i64 n,.b i,.b l] x1 (sb n i l x1)) (hp:s.length≤1048576∧Ok s (atR x.r (sg+1))∧x.r.ev.length+1≤8 * (sg+1)+64∧sg<s.length):FnK Tryz.prog 315 1 [.ptr 0 0 0,.i .i64 (sg:Nat),.i .i64 cc,.b li] [some (.blk false [.s s,.i .i64 (((x).r).pos:Nat),.slc 1 0 ((x).r).ev.length,.slc 2 0 ((x).r).ev.length,.mp 3,.slc 4 0 ((x).r).hd.length,.i .i64 (((x).r).dp:Nat),.i .i64 ((x).r).cd,.i .i64 (((x).r).pl:Nat),.b (x).fr,.i .i64 ((x).lt:Nat)]),some (.row false 8 ((x).r).ev.length (zg evc evz ((x).r).ev)),some (.row false 1 ((x).r).ev.length (zg qy false ((x).r).dn)),some (.mapS (nmI ((x).r).ev ((x).r).bs)),some (.row false 2 ((x).r).hd.length (zg hdc hdz ((x).r).hd))] (fun z c=>z=.b (decide ((vlK s sb sg cc li x).r.cd=0))∧c=[some (.blk false [.s s,.i .i64 ((((vlK s sb sg cc li x)).r).pos:Nat),.slc 1 0 (((vlK s sb sg cc li x)).r).ev.length,.slc 2 0 (((vlK s sb sg cc li x)).r).ev.length,.mp 3,.slc 4 0 (((vlK s sb sg cc li x)).r).hd.length,.i .i64 ((((vlK s sb sg cc li x)).r).dp:Nat),.i .i64 (((vlK s sb sg cc li x)).r).cd,.i .i64 ((((vlK s sb sg cc li x)).r).pl:Nat),.b ((vlK s sb sg cc li x)).fr,.i .i64 (((vlK s sb sg cc li x)).lt:Nat)]),some (.row false 8 (((vlK s sb sg cc li x)).r).ev.length (zg evc evz (((vlK s sb sg cc li x)).r).ev)),some (.row false 1 (((vlK s sb sg cc li x)).r).ev.length (zg qy false (((vlK s sb sg cc li x)).r).dn)),some (.mapS (nmI (((vlK s sb sg cc li x)).r).ev (((vlK s sb sg cc li x)).r).bs)),some (.row false 2 (((vlK s sb sg cc li x)).r).hd.length (zg hdc hdz (((vlK s sb sg cc li x)).r).hd))]):=by
 refine FnK.ofE (cf:=zk Tryz.prog te [(210,wv),(106,yp)] 66 1 false (fun _=>true) (kp [(0,[0,1,2,3]),(1,[0,1,2,3,9,10]),(2,[0,1,2,3,9,22]),(3,[0,2,3]),(4,[8]),(5,[0,2,3,9,42]),(6,[8]),(7,[0,2,3,9,56]),(8,[]),(9,[8]),(10,[8])]) [] []) (zf te_ok (l:=[(210,wv),(106,yp)]) (⟨j6,qi,trivial⟩) zc) Tryz.func315 rfl rfl rfl (by simp [zk]) (by simp [zk]) (rs:=[.tmp 8]) rfl 100000 ?_
 simp only [↓XC,XV,XT,Yg,seval,TES,yz,yc,XRE,XR,XRH,Yh]
 obtain ⟨hs,ho,hsz,hsg⟩:=hp
 have hcd:x.r.cd=0:=ho.cd
 have hdn:x.r.dn.length=x.r.ev.length:=ho.dn
 have hbs:x.r.bs≤x.r.ev.length:=ho.bs
 have hw1:=vl s (sg+1)
 have hw2:=vk s (sg+1) hsg
 have hg1:=wj s (sg+1)
 have hg2:=qt s (sg+1) hsg
 have hr:=kx (s:=s) (p:=sg+1) hsg
 rw [show spot s ((sg:Int)+1)=sg+1 from by unfold spot;omega,show (sg:Int)+1=((sg+1:Nat):Int) by omega]
 refine Chk.mk (by simp only [inR];omega) fun _=>Chk.mk hs fun _=>⟨fun h=>Chk.mk (by simp only [inR];omega) fun _=>Chk.mk hs fun _=>?_,fun h=>Chk.mk (by simp only [inR];omega) fun _=>?_⟩
 ·have h':(rsA s (sg+1)).2=false:=by simpa using h
  have hN:=HS cc (!li) false (onB x (atR x.r (wh s (sg+1)))) (zxz (r:=atR x.r (sg+1)) ho (by simp only [atR];omega) hw1 hw2) rfl
  unfold zcj rdC at hN
  refine Wb (hN) ?_
  simp only [↓XC,XV,XT,Yg,seval,TES,XRE,XR,XRH,Yh,↓Ya,Yb,onB,XM]
  have e:vlK s sb sg cc li x=sb cc (!li) false (onB x (atR x.r (wh s (sg+1)))):=by unfold vlK;rw [if_pos h']
  rw [e]
  exact Wf
 ·have h':¬(rsA s (sg+1)).2=false:=by simpa using h
  refine Wm (zw2 s x.r x.fr (x.lt:Nat) (sg+1) ⟨hs,hcd,hsg⟩) ?_
  simp only [↓XC,XV,XT,Yg,seval,TES,XRE,XR,XRH,Yh,↓Ya,Yb,onB,XM]
  obtain ⟨g,hg⟩:∃ g,g=ovR s x.r (sg+1):=⟨_,rfl⟩
  rw [←hg]
  by_cases hgz:g.cd=0
  ·simp only [decide_eq_true hgz]
   simp only [↓XC,XV,XT,Yg,seval,TES,XRE,XR,XRH,Yh,↓Ya,Yb]
   have hge:g=atR x.r (gpE s (sg+1)):=by rw [hg];exact zap (by rw [←hg];exact hgz)
   have hgp:g.pos≤s.length:=by rw [hge];exact hg2
   have hgo:Ok s g:=by rw [hge];exact zxz (r:=atR x.r (sg+1)) ho (by simp only [atR];omega) hg1 hg2
   have hgl:g.ev.length≤16777216:=Nat.le_trans (hgo.size hs) (by decide)
   have hgd:g.dp=x.r.dp:=by rw [hge];rfl
   refine Wm (zda s g x.fr (x.lt:Nat) g.pos ⟨hs,hgp⟩) ?_
   simp only [↓XC,XV,XT,Yg,seval,TES,XRE,XR,XRH,Yh,↓Ya,Yb,onB,XM]
   by_cases hst:zau s g.pos=true
   ·simp only [hst]
    simp only [↓XC,XV,XT,Yg,seval,TES,XRE,XR,XRH,Yh,↓Ya,Yb]
    refine Wb (zdr s g x.fr (x.lt:Nat) false [] [] 0 0 (rsA s (sg+1)).1 ⟨hgl,hgo.dn,hgo.bs⟩) ?_
    simp only [↓XC,XV,XT,Yg,seval,TES,XRE,XR,XRH,Yh,↓Ya,Yb,onB,XM]
    have e:vlK s sb sg cc li x=ntB x g (ppz 0) (rsA s (sg+1)).1:=by unfold vlK;rw [if_neg h',←hg,if_neg (by simpa using hgz),if_pos (.inl hst)]
    rw [e]
    try simp only [ntB,ppz,ntR,atR,y5,zn,List.length_append,List.length_cons,List.length_nil,Nat.zero_add]
    exact Wf (by simp only [↓XC,XV,XT,Yg,seval];try simp [Yf,onB,hgz])
   ·rw [Bool.not_eq_true] at hst
    simp only [hst]
    simp only [↓XC,XV,XT,Yg,seval,TES,XRE,XR,XRH,Yh,↓Ya,Yb]
    refine Wm (zw9 s g x.fr (x.lt:Nat) cc (!li) ⟨hs,hgp⟩) ?_
    simp only [↓XC,XV,XT,Yg,seval,TES,XRE,XR,XRH,Yh,↓Ya,Yb,onB,XM]
    by_cases hdp:dpA s g.pos cc (!li)=true
    ·simp only [hdp]
     simp only [↓XC,XV,XT,Yg,seval,TES,XRE,XR,XRH,Yh,↓Ya,Yb]
     have hN:=HS cc false (!li) (onB x g) hgo hgd
     unfold zcj rdC at hN
     refine Wb (hN) ?_
     simp only [↓XC,XV,XT,Yg,seval,TES,XRE,XR,XRH,Yh,↓Ya,Yb,onB,XM]
     have e:vlK s sb sg cc li x=sb cc false (!li) (onB x g):=by unfold vlK;rw [if_neg h',←hg,if_neg (by simpa using hgz),if_neg (by rw [hst,hdp];simp)]
     rw [e]
     exact Wf
    ·rw [Bool.not_eq_true] at hdp
     simp only [hdp]
     simp only [↓XC,XV,XT,Yg,seval,TES,XRE,XR,XRH,Yh,↓Ya,Yb]
     refine Wb (zdr s g x.fr (x.lt:Nat) false [] [] 0 0 (rsA s (sg+1)).1 ⟨hgl,hgo.dn,hgo.bs⟩) ?_
     simp only [↓XC,XV,XT,Yg,seval,TES,XRE,XR,XRH,Yh,↓Ya,Yb,onB,XM]
     have e:vlK s sb sg cc li x=ntB x g (ppz 0) (rsA s (sg+1)).1:=by unfold vlK;rw [if_neg h',←hg,if_neg (by simpa using hgz),if_pos (.inr hdp)]
     rw [e]
     try simp only [ntB,ppz,ntR,atR,y5,zn,List.length_append,List.length_cons,List.length_nil,Nat.zero_add]
     exact Wf (by simp only [↓XC,XV,XT,Yg,seval];try simp [Yf,onB,hgz])
  ·simp only [decide_eq_false hgz]
   simp only [↓XC,XV,XT,Yg,seval,TES,XRE,XR,XRH,Yh,↓Ya,Yb]
   have e:vlK s sb sg cc li x=onB x g:=by unfold vlK;rw [if_neg h',←hg,if_pos hgz]
   rw [e]
   exact Wf (by simp only [↓XC,XV,XT,Yg,seval];try simp [Yf,onB,hgz])
end Go.T
end
