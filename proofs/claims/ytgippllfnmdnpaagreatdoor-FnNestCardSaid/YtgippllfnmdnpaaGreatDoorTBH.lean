/- Own text: part TBH. -/
import Derived.Test.YtgippllfnmdnpaaGreatDoorTBG
section
set_option linter.unusedVariables false
set_option linter.unusedSimpArgs false
set_option linter.unusedSectionVars false
set_option linter.unnecessarySimpa false
namespace Go.T
variable [Go.Vg.Glob] [Go.Vg.GlobTabs 0 1]
open Go.Proofs Go.Vg Go.RowKit Go.TT Go.Pl
set_option maxRecDepth 10000
set_option maxHeartbeats 4000000
theorem zvu (s:Bs) (p:Int) (hp:s.length≤1048576):PF Tryz.prog 188 [.s s,.i .i64 p] (.i .i64 (inA s (spot s p):Nat)):=by
 refine ⟨rfl,rfl,FnK.of (cf:=zk Tryz.prog te [(209,qd),(107,zm)] 20 0 false (fun _=>false) (kp [(0,[0,1]),(1,[0,5]),(2,[0,5,6]),(3,[0,5,6,14]),(4,[0,5,6]),(5,[4])]) [] []) (zf te_ok (l:=[(209,qd),(107,zm)]) (⟨w7,z6,trivial⟩) zc) Tryz.func188 rfl rfl rfl (by simp [zk]) (by simp [zk]) (rs:=[.tmp 4]) rfl 100000 ?_⟩
 simp only [↓XC,XV,XT,Yg,seval,TES,wb,zd]
 have h0:=q8 s p
 have hl:=zoq s (spot s p)
 refine Chk.mk hp fun _=>?_
 refine yv.of (ι:={q:Nat // la s (spot s p)≤q∧q≤s.length∧bl s q=bl s (la s (spot s p))}) (fun x=>⟨[(0,.s s),(5,.i .i64 (la s (spot s p):Nat)),(6,.i .i64 (x.1:Nat))],[]⟩) (fun x=>s.length-x.1) ⟨la s (spot s p),Nat.le_refl _,by omega,rfl⟩ (Ent.refl _ _) ?_
 rintro ⟨q,hq1,hq2,hw⟩
 simp only [↓XC,XV,XT,Yg,seval,TES,zd]
 rw [zu s hq2]
 refine Chk.mk hp fun _=>⟨fun h=>Chk.mk (by simp only [inR];omega) fun _=>?_,fun h=>Chk.mk (by simp only [inR];omega) fun _=>?_⟩
 ·have hl2:=zy h (by decide)
  exact ⟨⟨q+1,by omega,by omega,by rw [←bl_t h];exact hw⟩,by simp only;omega,(by first | exact Ent.refl _ _ | (simp only [Int.natCast_add,Int.natCast_one];exact Ent.refl _ _))⟩
 ·rw [show inA s (spot s p)=q-la s (spot s p) by unfold inA;rw [←hw,bl_f h],Int.ofNat_sub hq1]
noncomputable def wy:PE:=peR (fun (x:Bs×Int)=>match x with | (s,p)=>[.s s,.i .i64 p]) (fun (x:Bs×Int)=>match x with | (s,p)=>s.length≤1048576) (fun (x:Bs×Int)=>match x with | (s,p)=>.i .i64 (inA s (spot s p):Nat))
theorem qk {s:Bs} {p:Int}:wy [.s s,.i .i64 p]=some (s.length≤1048576,.i .i64 (inA s (spot s p):Nat)):=yh (by rintro ⟨a0,a1⟩ ⟨b0,b1⟩ h;simp_all []) (s,p)
theorem xp:PE1 Tryz.prog 188 wy:=yl (by rintro ⟨s,p⟩ hp;exact zvu s p hp)
theorem Gap_i (s:Bs) (p:Int) (hp:s.length≤1048576):PF Tryz.prog 143 [.s s,.i .i64 p] (.i .i64 (gpE s (spot s p):Nat)):=by
 refine ⟨rfl,rfl,FnK.of (cf:=zk Tryz.prog te [(100,zx),(107,zm),(185,qe),(209,qd),(187,qz)] 47 0 false (fun _=>false) (kp [(0,[0,1]),(1,[0,1]),(2,[0,1,12]),(3,[0,1,5]),(4,[4]),(5,[0,1,5,17]),(6,[0,1]),(7,[0,1,26]),(8,[0,1]),(9,[4])]) [] []) (zf te_ok (l:=[(100,zx),(107,zm),(185,qe),(209,qd),(187,qz)]) (⟨ym,z6,wt,w7,ji,trivial⟩) zc) Tryz.func143 rfl rfl rfl (by simp [zk]) (by simp [zk]) (rs:=[.tmp 4]) rfl 100000 ?_⟩
 simp only [↓XC,XV,XT,Yg,seval,TES,yn,zd,z7,wb,qg]
 refine yv.of (ι:={q:Nat // q≤s.length∧gpE s q=gpE s (spot s p)}) (fun x=>⟨[(0,.s s),(1,.i .i64 (x.1:Nat))],[]⟩) (fun x=>s.length-x.1) ⟨spot s p,q8 s p,rfl⟩ (Ent.refl _ _) ?_
 rintro ⟨q,hq,hw⟩
 simp only [↓XC,XV,XT,Yg,seval,TES,zd,z7,wb,qg]
 have e2:spot s ((q:Int)-1)=q-1:=by unfold spot;omega
 rw [zu s hq,e2]
 have hA:(byt s q==32||byt s q==9||decide (byt s q=10))=decide (isW s q=true∨byt s q=10):=by
  rw [Bool.decide_or,show (byt s q==32||byt s q==9)=isW s q from rfl,Bool.decide_eq_true]
 have hC:(decide (byt s q=35)&&(decide ((la s q:Int)=(q:Int))||(byt s (q-1)==32||byt s (q-1)==9)))=gpC s q:=by
  unfold gpC isW
  rw [show decide ((la s q:Int)=(q:Int))=decide (la s q=q) from by rw [decide_eq_decide];omega]
 rw [hA,hC]
 refine ⟨fun hl=>Chk.mk hp fun _=>⟨fun h=>Chk.mk (by simp only [inR];omega) fun _=>?_,fun h=>Chk.mk (fun h=>⟨⟨h,h⟩,hp⟩) fun _=>Chk.mk (fun _=>by simp only [inR];omega) fun _=>Chk.mk (fun h=>⟨⟨h,h⟩,hp⟩) fun _=>⟨fun hc=>Chk.mk hp fun _=>?_,fun hc=>?_⟩⟩,fun hl=>?_⟩
 ·exact ⟨⟨q+1,by omega,by rw [←gpE_w (of_decide_eq_true h)];exact hw⟩,by simp only;omega,(by first | exact Ent.refl _ _ | (simp only [Int.natCast_add,Int.natCast_one];exact Ent.refl _ _))⟩
 ·have hg:=en_gt (isB_35 (by simp [gpC] at hc;exact hc.1))
  exact ⟨⟨en s q,zcd s q hq,by rw [←gpE_c hc];exact hw⟩,by simp only;omega,Ent.refl _ _⟩
 ·rw [←hw,gpE_f (of_decide_eq_false h) hc]
 ·rw [←hw,gpE_end (by omega)]
noncomputable def jv:PE:=peR (fun (x:Bs×Int)=>match x with | (s,p)=>[.s s,.i .i64 p]) (fun (x:Bs×Int)=>match x with | (s,p)=>s.length≤1048576) (fun (x:Bs×Int)=>match x with | (s,p)=>.i .i64 (gpE s (spot s p):Nat))
theorem yd {s:Bs} {p:Int}:jv [.s s,.i .i64 p]=some (s.length≤1048576,.i .i64 (gpE s (spot s p):Nat)):=yh (by rintro ⟨a0,a1⟩ ⟨b0,b1⟩ h;simp_all []) (s,p)
theorem un:PE1 Tryz.prog 143 jv:=yl (by rintro ⟨s,p⟩ hp;exact Gap_i s p hp)
theorem Lone_i (s:Bs) (p:Int) (hp:s.length≤1048576):PF Tryz.prog 186 [.s s,.i .i64 p] (.b (lnA s (spot s p))):=by
 refine ⟨rfl,rfl,FnK.of (cf:=zk Tryz.prog te [(209,qd),(106,yp),(107,zm),(184,wo)] 13 0 false (fun _=>false) (kp [(0,[0,1]),(1,[4])]) [] []) (zf te_ok (l:=[(209,qd),(106,yp),(107,zm),(184,wo)]) (⟨w7,qi,z6,vf,trivial⟩) zc) Tryz.func186 rfl rfl rfl (by simp [zk]) (by simp [zk]) (rs:=[.tmp 4]) rfl 100000 ?_⟩
 simp only [↓XC,XV,XT,Yg,seval,TES,wb,yc,zd,km]
 have h0:=q8 s p
 have hl:=zoq s (spot s p)
 have hw:=vk s (la s (spot s p)) (by omega)
 rw [zu s (show la s (spot s p)≤s.length by omega),zu s hw]
 exact Chk.mk hp fun _=>Chk.mk hp fun _=>Chk.mk hp fun _=>rfl
noncomputable def xj:PE:=peR (fun (x:Bs×Int)=>match x with | (s,p)=>[.s s,.i .i64 p]) (fun (x:Bs×Int)=>match x with | (s,p)=>s.length≤1048576) (fun (x:Bs×Int)=>match x with | (s,p)=>.b (lnA s (spot s p)))
theorem kc {s:Bs} {p:Int}:xj [.s s,.i .i64 p]=some (s.length≤1048576,.b (lnA s (spot s p))):=yh (by rintro ⟨a0,a1⟩ ⟨b0,b1⟩ h;simp_all []) (s,p)
theorem zb4:PE1 Tryz.prog 186 xj:=yl (by rintro ⟨s,p⟩ hp;exact Lone_i s p hp)
theorem TagAt_i (s:Bs) (p:Int) (hp:s.length≤1048576):PF Tryz.prog 341 [.s s,.i .i64 p] (.tup [.s (tgA s (spot s p)).1,.i .i64 (tgA s (spot s p)).2.1,.b (tgA s (spot s p)).2.2]):=by
 refine ⟨rfl,rfl,FnK.of (cf:=zk Tryz.prog te [(100,zx),(107,zm),(237,j3),(108,qn)] 59 0 false (fun _=>false) (kp [(0,[0,1]),(1,[0,1]),(2,[0,1,15]),(3,[4,5,6]),(4,[0,1,7]),(5,[0,1,7,23]),(6,[0,1,7,8]),(7,[0,1,7,8,35]),(8,[0,1,7,8]),(9,[0,1,7,8,47]),(10,[0,1,7]),(11,[0,1,7,53]),(12,[4,5,6]),(13,[4,5,6])]) [] []) (zf te_ok (l:=[(100,zx),(107,zm),(237,j3),(108,qn)]) (⟨ym,z6,zbz,w5,trivial⟩) zc) Tryz.func341 rfl rfl rfl (by simp [zk]) (by simp [zk]) (rs:=[.tmp 4,.tmp 5,.tmp 6]) rfl 100000 ?_⟩
 simp only [↓XC,XV,XT,Yg,seval,TES,yn,zd,zb0,zz]
 have h0:=q8 s p
 have hsp:=zu s h0
 generalize spot s p=a at *
 rw [hsp]
 refine Chk.mk hp fun _=>⟨fun h=>?_,fun h=>?_⟩
 ·rw [zwk (by rintro ⟨h2,_⟩;simp [h2] at h)]
 have h33:byt s a=33:=by simpa using h
 have hpl:=znh h33
 have hlt:=zy h33 (by decide)
 have hst:=stc_33 h33
 have hstl:=zjx s a h0
 rw [show byt s (spot s ((a:Int)+1))=byt s (a+1) by rw [vj (by omega)];rfl]
 refine Chk.mk ⟨hp,by omega,by omega⟩ fun _=>Chk.mk (by simp only [inR];omega) fun _=>Chk.mk hp fun _=>⟨fun h60=>Chk.mk (by simp only [inR];omega) fun _=>?_,fun h60=>?_⟩
 ·refine yv.of (ι:={q:Nat // a+2≤q∧q≤s.length+1∧cl s q=cl s (a+2)}) (fun x=>⟨[(0,.s s),(1,.i .i64 (a:Nat)),(7,.i .i64 (stc s a:Nat)),(8,.i .i64 (x.1:Nat))],[]⟩) (fun x=>s.length+1-x.1) ⟨a+2,Nat.le_refl _,by omega,rfl⟩ (by simp only [Int.natCast_add];exact Ent.refl _ _) ?_
  rintro ⟨q,hq1,hq2,hw⟩
  simp only [↓XC,XV,XT,Yg,seval,TES,zd,zz]
  rw [show byt s (spot s (q:Int))=byt s q by rw [vj (by omega)];rfl]
  have hd:(!decide (byt s q=62)&&!gap s q)=decide (gap s q=false∧¬byt s q=62):=by cases hg:gap s q<;>by_cases hb:byt s q=62<;>simp [hb]
  rw [hd]
  refine Chk.mk hp fun _=>Chk.mk (fun h=>⟨⟨h,h⟩,hp,by omega⟩) fun _=>⟨fun h=>Chk.mk (by simp only [inR];omega) fun _=>?_,fun h=>Chk.mk hp fun _=>Chk.mk (fun _=>by simp only [inR];omega) fun _=>⟨fun hx=>Chk.mk (by simp only [inR];omega) fun _=>?_,fun hx=>?_⟩⟩
  ·have h':=of_decide_eq_true h
   have:=ut h'.1
   exact ⟨⟨q+1,by omega,by omega,by rw [←cl_t h'];exact hw⟩,by simp only;omega,(by first | exact Ent.refl _ _ | (simp only [Int.natCast_add,Int.natCast_one];exact Ent.refl _ _))⟩
  ·have hc:=cl_f (of_decide_eq_false h)
   simp only [Yi] at hx
   have hql:=zy hx.1 (by decide)
   have hE:tgE s a=q+1:=by unfold tgE;rw [if_pos ⟨h60,by rw [←hw,hc];exact hx.1,by rw [←hw,hc];omega⟩,←hw,hc]
   have e4:((q:Int)+1).toNat=q+1:=by omega
   rw [e4]
   refine Chk.mk (by simp only [inR];omega) fun _=>⟨fun h=>?_,fun h=>Chk.mk (by omega) fun _=>?_⟩
   ·rw [zwk (by rintro ⟨_,h2⟩;rw [hE] at h2;omega)]
   ·rw [tgA_t ⟨h33,by rw [hE];omega⟩,hE];rfl
  ·have hc:=cl_f (of_decide_eq_false h)
   simp only [Yi] at hx
   have hE:tgE s a=stc s a:=by unfold tgE;rw [if_neg (by rintro ⟨_,h2,h3⟩;rw [←hw,hc] at h2 h3;omega)]
   refine Chk.mk (by simp only [inR];omega) fun _=>⟨fun h=>?_,fun h=>Chk.mk (by omega) fun _=>?_⟩
   ·rw [zwk (by rintro ⟨_,h2⟩;rw [hE] at h2;omega)]
   ·rw [tgA_t ⟨h33,by rw [hE];omega⟩,hE];rfl
 ·have hE:tgE s a=stc s a:=by unfold tgE;rw [if_neg (fun h=>h60 h.1)]
  refine Chk.mk (by simp only [inR];omega) fun _=>⟨fun h=>?_,fun h=>Chk.mk (by omega) fun _=>?_⟩
  ·rw [zwk (by rintro ⟨_,h2⟩;rw [hE] at h2;omega)]
  ·rw [tgA_t ⟨h33,by rw [hE];omega⟩,hE];rfl
noncomputable def zco:PE:=peR (fun (x:Bs×Int)=>match x with | (s,p)=>[.s s,.i .i64 p]) (fun (x:Bs×Int)=>match x with | (s,p)=>s.length≤1048576) (fun (x:Bs×Int)=>match x with | (s,p)=>.tup [.s (tgA s (spot s p)).1,.i .i64 (tgA s (spot s p)).2.1,.b (tgA s (spot s p)).2.2])
theorem zl3 {s:Bs} {p:Int}:zco [.s s,.i .i64 p]=some (s.length≤1048576,.tup [.s (tgA s (spot s p)).1,.i .i64 (tgA s (spot s p)).2.1,.b (tgA s (spot s p)).2.2]):=yh (by rintro ⟨a0,a1⟩ ⟨b0,b1⟩ h;simp_all []) (s,p)
theorem zl2:PE1 Tryz.prog 341 zco:=yl (by rintro ⟨s,p⟩ hp;exact TagAt_i s p hp)
end Go.T
end
section
set_option linter.unusedVariables false
set_option linter.unusedSimpArgs false
set_option linter.unusedSectionVars false
set_option linter.unnecessarySimpa false
namespace Go.T
variable [Go.Vg.Glob] [Go.Vg.GlobTabs 0 1]
open Go.Proofs Go.Vg Go.RowKit Go.TT Go.Pl
set_option maxRecDepth 10000
set_option maxHeartbeats 4000000
theorem isWord (b:UInt8):PF Tryz.prog 311 [.i .u8 (b.toNat:Nat)] (.b (isWd b)):=by
 refine ⟨rfl,rfl,FnK.of (cf:=zk Tryz.prog te [] 29 0 false (fun _=>false) (kp [(0,[0]),(1,[2])]) [] []) (zf te_ok (l:=[]) (trivial) zc) Tryz.func311 rfl rfl rfl (by simp [zk]) (by simp [zk]) (rs:=[.tmp 2]) rfl 100000 ?_⟩
 simp only [↓XC,XV,XT,Yg,seval,TES]
 simp only [SV.b.injEq]
 unfold isWd
 rw [Bool.eq_iff_iff]
 simp only [Bool.or_eq_true,Bool.and_eq_true,decide_eq_true_eq]
 omega
noncomputable def zdy:PE:=peR (fun (b:UInt8)=>[.i .u8 (b.toNat:Nat)]) (fun (b:UInt8)=>True) (fun (b:UInt8)=>.b (isWd b))
theorem zfy {b:UInt8}:zdy [.i .u8 (b.toNat:Nat)]=some (True,.b (isWd b)):=yh (by rintro a b h;simp_all [Int.ofNat_inj,UInt8.toNat_inj]) b
theorem zn4:PE1 Tryz.prog 311 zdy:=yl (by rintro b hp;exact isWord b)
theorem nameOk (s:Bs) (hp:s.length≤1048576):PF Tryz.prog 276 [.s s] (.b (nmO s)):=by
 refine ⟨rfl,rfl,FnK.of (cf:=zk Tryz.prog te [(311,zdy)] 36 0 false (fun _=>false) (kp [(0,[0]),(1,[0,23]),(2,[2]),(3,[0,3]),(4,[0,3,28]),(5,[0,3]),(6,[0,3,35]),(7,[2]),(8,[2])]) [] []) (zf te_ok (l:=[(311,zdy)]) (⟨zn4,trivial⟩) zc) Tryz.func276 rfl rfl rfl (by simp [zk]) (by simp [zk]) (rs:=[.tmp 2]) rfl 100000 ?_⟩
 simp only [↓XC,XV,XT,Yg,seval,TES,zfy]
 have hA:∀ x:Nat,x=s.length-1→((decide ((s.length:Int)>60)||decide (s=[])||!decide (((s.getD 0 0).toNat:Int)=33)||!decide (((s.getD x 0).toNat:Int)=33))=false↔(s.length≤60∧s≠[]∧s.getD 0 0=33∧s.getD (s.length-1) 0=33)):=by
  rintro x rfl
  have h3:=zbw (c:=s.getD 0 0) (n:=33) (by decide)
  have h4:=zbw (c:=s.getD (s.length-1) 0) (n:=33) (by decide)
  simp only [Int.cast_ofNat_Int] at h3 h4
  simp only [h3,h4]
  simp only [Bool.or_eq_false_iff,decide_eq_false_iff_not,Bool.not_eq_false',decide_eq_true_eq,ne_eq]
  constructor
  ·rintro ⟨⟨⟨a,b⟩,c⟩,d⟩;exact ⟨by omega,b,c,d⟩
  ·rintro ⟨a,b,c,d⟩;exact ⟨⟨⟨by omega,b⟩,c⟩,d⟩
 have hl0:s≠[]→0<s.length:=fun h=>List.length_pos_iff.2 h
 have e1:((s.length:Int)-1).toNat=s.length-1:=by omega
 rw [e1]
 refine Chk.mk (fun h=>by simp at h;have:=hl0 h.2;omega) fun _=>Chk.mk (fun h=>by simp only [inR];omega) fun _=>Chk.mk (fun h=>by simp at h;have:=hl0 h.1.2;omega) fun _=>⟨fun h=>?_,fun h=>?_⟩
 ·have:¬(s.length≤60∧s≠[]∧s.getD 0 0=33∧s.getD (s.length-1) 0=33):=by rw [←hA _ rfl,h];simp
  rw [nmO,decide_eq_false this];rfl
 have hc:=(hA _ rfl).1 h
 have hnm:nmO s=(sub s 1 (s.length-1)).all isWd:=by rw [nmO,decide_eq_true hc];rfl
 have hpos:=hl0 hc.2.1
 refine yv.of (ι:={i:Nat // 1≤i∧i≤s.length∧∀ j,1≤j→j<i→isWd (s.getD j 0)=true}) (fun x=>⟨[(0,.s s),(3,.i .i64 (x.1:Nat))],[]⟩) (fun x=>s.length-x.1) ⟨1,Nat.le_refl _,by omega,fun j h1 h2=>by omega⟩ (Ent.refl _ _) ?_
 rintro ⟨i,hi1,hi2,hj⟩
 simp only [↓XC,XV,XT,Yg,seval,TES,zfy]
 refine Chk.mk (by simp only [inR];omega) fun _=>⟨fun hl=>Chk.mk (by omega) fun _=>⟨fun hw=>?_,fun hw=>Chk.mk (by simp only [inR];omega) fun _=>?_⟩,fun hl=>?_⟩
 ·have:nmO s=false:=by
   rw [hnm,Bool.eq_false_iff]
   intro h9
   have:=(zwm isWd (by omega)).1 h9 i hi1 (by omega)
   rw [this] at hw;cases hw
  rw [this]
 ·refine ⟨⟨i+1,by omega,by omega,fun j h1 h2=>?_⟩,by simp only;omega,(by first | exact Ent.refl _ _ | (simp only [Int.natCast_add,Int.natCast_one];exact Ent.refl _ _))⟩
  rcases Nat.lt_or_ge j i with h3 | h3
  ·exact hj j h1 h3
  ·obtain rfl:j=i:=by omega
   simpa using hw
 ·have:nmO s=true:=by rw [hnm];exact (zwm isWd (by omega)).2 fun j h1 h2=>hj j h1 (by omega)
  rw [this]
noncomputable def zan:PE:=peR (fun (s:Bs)=>[.s s]) (fun (s:Bs)=>s.length≤1048576) (fun (s:Bs)=>.b (nmO s))
theorem zfv {s:Bs}:zan [.s s]=some (s.length≤1048576,.b (nmO s)):=yh (by rintro a b h;simp_all []) s
theorem zfu:PE1 Tryz.prog 276 zan:=yl (by rintro s hp;exact nameOk s hp)
theorem z0l (raw:Bs) (l:List Hd) (hp:raw.length≤1048576∧l.length≤1048576∧(∀ h∈l,h.pre.length≤1048576)):PF Tryz.prog 342 [.s raw,.fs 2 (l.map hdc)] (.tup [.s (trA raw l).1,.b (trA raw l).2]):=by
 refine ⟨rfl,rfl,FnK.of (cf:=zk Tryz.prog te [(247,ze3),(276,zan)] 87 0 false (fun _=>false) (kp [(0,[0,1]),(1,[0,1,11]),(2,[4,5]),(3,[0,1,19]),(4,[4,5]),(5,[0,1,41]),(6,[4,5]),(7,[0,1,6]),(8,[1,7,8]),(9,[1,7,8,59]),(10,[4,5]),(11,[7,8,60,61,62]),(12,[7,8,60,61,62,63]),(13,[7,8,10,60,61,62]),(14,[7,8,10,60,61,62,69]),(15,[8,10,72]),(16,[4,5]),(17,[4,5]),(18,[7,8,60,61,62]),(19,[8,78]),(20,[8,78,79]),(21,[4,5]),(22,[8,83]),(23,[4,5]),(24,[4,5])]) [] [(8,[],[],.q1 0 (.q1 1 (.q1 2 (.q1 3 (.q1 4 (.q1 5 (.q1 6 (.q1 7 (.fin)))))))))]) (zf te_ok (l:=[(247,ze3),(276,zan)]) (⟨zj2,zfu,trivial⟩) zc) Tryz.func342 rfl rfl rfl (by simp [zk]) (by simp [zk]) (rs:=[.tmp 4,.tmp 5]) rfl 100000 ?_⟩
 simp only [↓XC,XV,XT,Yg,seval,TES,zj3,zfv,XRH]
 have hlx:=lix_bd raw 33
 have h0:=zbw (c:=raw.getD 0 0) (n:=33) (by decide)
 have h1:=zbw (c:=raw.getD 1 0) (n:=60) (by decide)
 have e1:((raw.length:Int)-1).toNat=raw.length-1:=by omega
 have h2:=zbw (c:=raw.getD (raw.length-1) 0) (n:=62) (by decide)
 simp only [Int.cast_ofNat_Int] at h0 h1 h2
 have h5:((raw.length:Int)>3)=(3<raw.length):=by apply propext;omega
 simp only [h0,h1,h2,e1,h5]
 refine Chk.mk (fun h=>Int.ofNat_lt.2 (List.length_pos_iff.2 (by simpa using h))) fun _=>⟨fun h=>?_,fun h=>Chk.mk (fun h=>by omega) fun _=>Chk.mk (fun h=>by simp only [inR];omega) fun _=>Chk.mk (fun h=>by simp at h;omega) fun _=>⟨fun hb=>Chk.mk (by simp only [inR];omega) fun _=>Chk.mk (by simp at hb;omega) fun _=>?_,fun hb=>⟨fun hc=>?_,fun hc=>Chk.mk hp.1 fun _=>Chk.mk (by simp only [inR];omega) fun _=>⟨by decide +kernel,Chk.mk (by omega) fun _=>Chk.mk (by omega) fun _=>Chk.mk (fun h=>⟨h,by simp only [List.length_take];omega⟩) fun _=>⟨fun hd=>?_,fun hd=>?_⟩⟩⟩⟩⟩
 ·rw [trA_a (by simpa using h)]
 ·rw [trA_b (by simpa using h) (by simpa [and_assoc] using hb)];rfl
 ·subst hc;rw [trA_c]
 ·rw [trA_d (by simpa using h) (by simpa [and_assoc] using hb) hc,if_pos (by simpa using hd)]
 have hD:=trA_d (l:=l) (by simpa using h) (by simpa [and_assoc] using hb) hc
 rw [if_neg (by simpa using hd)] at hD
 generalize List.take (lix raw 33+1).toNat raw=nm at *
 have hrl:(List.drop (lix raw 33+1).toNat raw).length≤1048576:=by simp only [List.length_drop];omega
 generalize List.drop (lix raw 33+1).toNat raw=rs at *
 refine yv.of (ι:={i:Nat // i≤l.length∧hdF nm rs (l.drop i)=hdF nm rs l}) (fun x=>⟨[(7,.s nm),(8,.s rs),(60,.fs 2 (l.map hdc)),(61,.i .i64 (l.length:Nat)),(62,.i .i64 (x.1:Nat))],[]⟩) (fun x=>l.length-x.1) ⟨0,Nat.zero_le _,rfl⟩ (Ent.refl _ _) ?_
 rintro ⟨i,hi,hd2⟩
 simp only [↓XC,XV,XT,Yg,seval,TES,XRH]
 refine ⟨fun hl=>Chk.mk (by omega) fun _=>?_,fun hl=>?_⟩
 ·have hs:=hdF_drop (name:=nm) (rest:=rs) (l:=l) (i:=i) (by omega)
  have hpl:=hp.2.2 (l.getD i hdz) (zmo (by omega))
  refine ⟨fun hn=>⟨fun he=>?_,fun he=>Chk.mk (by omega) fun _=>?_⟩,fun hn=>Chk.mk (by simp only [inR];omega) fun _=>⟨⟨i+1,by omega, ?_⟩,by simp only;omega,(by (try simp only [Int.natCast_add,Int.natCast_one]);exact Ent.nil (by simp [zi,Vg.look,SV.mapH]))⟩⟩
  ·rw [hD,←hd2,hs,if_pos hn,if_pos he]
  ·rw [hD,←hd2,hs,if_pos hn,if_neg he]
  ·rw [←hd2,hs,if_neg hn]
 ·rw [hD,←hd2,List.drop_of_length_le (by omega)]
  refine ⟨fun h3=>Chk.mk (by omega) fun _=>?_,fun h3=>⟨fun h4=>Chk.mk (by omega) fun _=>?_,fun h4=>?_⟩⟩
  ·unfold hdF;rw [if_pos h3];rfl
  ·unfold hdF;rw [if_neg h3,if_pos h4];rfl
  ·unfold hdF;rw [if_neg h3,if_neg h4]
noncomputable def u2:PE:=peR (fun (x:Bs×List Hd)=>match x with | (raw,l)=>[.s raw,.fs 2 (l.map hdc)]) (fun (x:Bs×List Hd)=>match x with | (raw,l)=>raw.length≤1048576∧l.length≤1048576∧(∀ h∈l,h.pre.length≤1048576)) (fun (x:Bs×List Hd)=>match x with | (raw,l)=>.tup [.s (trA raw l).1,.b (trA raw l).2])
theorem zb3 {raw:Bs} {l:List Hd}:u2 [.s raw,.fs 2 (l.map hdc)]=some (raw.length≤1048576∧l.length≤1048576∧(∀ h∈l,h.pre.length≤1048576),.tup [.s (trA raw l).1,.b (trA raw l).2]):=yh (by rintro ⟨a0,a1⟩ ⟨b0,b1⟩ h;simp_all [hdc_inj]) (raw,l)
theorem zhg:PE1 Tryz.prog 342 u2:=yl (by rintro ⟨raw,l⟩ hp;exact z0l raw l hp)
end Go.T
end
section
set_option linter.unusedVariables false
set_option linter.unusedSimpArgs false
set_option linter.unusedSectionVars false
set_option linter.unnecessarySimpa false
namespace Go.T
variable [Go.Vg.Glob] [Go.Vg.GlobTabs 0 1]
open Go.Proofs Go.Vg Go.RowKit Go.TT Go.Pl
set_option maxRecDepth 10000
set_option maxHeartbeats 4000000
theorem zqv (s:Bs) (e n:Int) (fl:Bool) (hp:s.length≤1048576∧0≤e∧e≤s.length):PF Tryz.prog 103 [.s s,.i .i64 e,.i .i64 n,.b fl] (.tup [.i .i64 (nxA s e.toNat n fl).1,.i .i64 (nxA s e.toNat n fl).2.1,.b (nxA s e.toNat n fl).2.2]):=by
 refine ⟨rfl,rfl,FnK.of (cf:=zk Tryz.prog te [(106,yp),(107,zm),(186,xj),(187,qz),(144,yu),(188,wy),(102,wx)] 73 0 false (fun _=>false) (kp [(0,[0,1,2,3]),(1,[0,1,2,3,19]),(2,[8,9,10]),(3,[0,2,3,11]),(4,[0,2,3,11,12]),(5,[0,2,3,11,12,26]),(6,[0,2,3,11,12,32]),(7,[8,9,10]),(8,[0,2,3,11,12]),(9,[0,2,3,11,12]),(10,[0,2,3,11,12,13]),(11,[12,13,70]),(12,[8,9,10]),(13,[8,9,10])]) [] []) (zf te_ok (l:=[(106,yp),(107,zm),(186,xj),(187,qz),(144,yu),(188,wy),(102,wx)]) (⟨qi,z6,zb4,ji,qw,xp,xo,trivial⟩) zc) Tryz.func103 rfl rfl rfl (by simp [zk]) (by simp [zk]) (rs:=[.tmp 8,.tmp 9,.tmp 10]) rfl 100000 ?_⟩
 simp only [↓XC,XV,XT,Yg,seval,TES,yc,zd,kc,qg,ze,qk,ws]
 obtain ⟨q,rfl⟩:∃ q:Nat,e=q:=⟨e.toNat,by omega⟩
 have hq:q≤s.length:=by omega
 have hw:=vk s q hq
 rw [zu s hq,zu s hw]
 simp only [Int.toNat_natCast]
 refine Chk.mk hp.1 fun _=>Chk.mk hp.1 fun _=>⟨fun h=>?_,fun h=>Chk.mk hp.1 fun _=>Chk.mk (by simp only [inR];omega) fun _=>?_⟩
 ·rw [nxA_f (by rintro ⟨h2,_⟩;simp [h2] at h)];rfl
 have h10:byt s (wh s q)=10:=by simpa using h
 have hwl:=zy h10 (by decide)
 refine yv.of (ι:={x:Nat×Nat // wh s q+1≤x.1∧x.1≤s.length∧x.2≤x.1∧lnS s x.1 x.2=lnS s (wh s q+1) 0}) (fun x=>⟨[(0,.s s),(2,.i .i64 n),(3,.b fl),(11,.i .i64 (x.1.1:Nat)),(12,.i .i64 (x.1.2:Nat))],[]⟩) (fun x=>s.length-x.1.1) ⟨(wh s q+1,0),Nat.le_refl _,hwl,by simp only;omega,rfl⟩ (by simp only [Int.natCast_add,Int.natCast_one];exact Ent.refl _ _) ?_
 rintro ⟨⟨a,many⟩,h1,h2,h3,h4⟩
 simp only [↓XC,XV,XT,Yg,seval,TES,kc,qg,yc,ze,qk,zd,ws]
 simp only at h1 h2 h3 h4
 have hen:=zcd s a h2
 have heg:=zgh s a
 have hwa:=vk s a h2
 rw [zu s h2,zu s hwa]
 have hN:(!decide (mkA s a=0)||!fl&&decide ((inA s a:Int)≤n)||decide (byt s (wh s a)=35)||decide ((plE s (wh s a) fl:Int)=(wh s a:Nat)))=!nxO s a n fl:=by
  unfold nxO
  rw [show decide (n<(inA s a:Int))=!decide ((inA s a:Int)≤n) by rw [←decide_not,decide_eq_decide];omega,show decide ((plE s (wh s a) fl:Int)=(wh s a:Nat))=decide (plE s (wh s a) fl=wh s a) by rw [decide_eq_decide];omega]
  simp only [Bool.not_and,Bool.not_not,Bool.not_or]
 rw [hN]
 refine Chk.mk hp.1 fun _=>⟨fun hl=>Chk.mk hp.1 fun _=>⟨fun he=>?_,fun he=>Chk.mk hp.1 fun _=>Chk.mk (by simp only [inR];omega) fun _=>Chk.mk (by simp only [inR];omega) fun _=>?_⟩,fun hl=>Chk.mk hp.1 fun _=>Chk.mk hp.1 fun _=>Chk.mk (fun h=>⟨⟨h,h⟩,hp.1⟩) fun _=>Chk.mk (fun h=>⟨⟨h,h⟩,hp.1⟩) fun _=>Chk.mk (fun h=>⟨⟨h,h,h⟩,hp.1⟩) fun _=>⟨fun hx=>?_,fun hx=>?_⟩⟩
 ·rw [lnS_e hl (by omega)] at h4
  rw [nxA_f (by rintro ⟨_,h5,_⟩;rw [←h4] at h5;cases h5)];rfl
 ·exact ⟨⟨(en s a+1,many+1),by simp only;omega,by simp only;omega,by simp only;omega,by rw [←lnS_t hl (by omega)];exact h4⟩,by simp only;omega,(by first | exact Ent.refl _ _ | (simp only [Int.natCast_add,Int.natCast_one];exact Ent.refl _ _))⟩
 ·rw [lnS_f hl] at h4
  rw [nxA_f (by rintro ⟨_,_,h5⟩;rw [←h4] at h5;simp only at h5;rw [h5] at hx;cases hx)];rfl
 ·rw [lnS_f hl] at h4
  have hx':nxO s a n fl=true:=by simpa using hx
  rw [nxA_t ⟨h10,by rw [←h4],by rw [←h4];exact hx'⟩,←h4]
noncomputable def v7:PE:=peR (fun (x:Bs×Int×Int×Bool)=>match x with | (s,e,n,fl)=>[.s s,.i .i64 e,.i .i64 n,.b fl]) (fun (x:Bs×Int×Int×Bool)=>match x with | (s,e,n,fl)=>s.length≤1048576∧0≤e∧e≤s.length) (fun (x:Bs×Int×Int×Bool)=>match x with | (s,e,n,fl)=>.tup [.i .i64 (nxA s e.toNat n fl).1,.i .i64 (nxA s e.toNat n fl).2.1,.b (nxA s e.toNat n fl).2.2])
theorem zam {s:Bs} {e n:Int} {fl:Bool}:v7 [.s s,.i .i64 e,.i .i64 n,.b fl]=some (s.length≤1048576∧0≤e∧e≤s.length,.tup [.i .i64 (nxA s e.toNat n fl).1,.i .i64 (nxA s e.toNat n fl).2.1,.b (nxA s e.toNat n fl).2.2]):=yh (by rintro ⟨a0,a1,a2,a3⟩ ⟨b0,b1,b2,b3⟩ h;simp_all []) (s,e,n,fl)
theorem ze2:PE1 Tryz.prog 103 v7:=yl (by rintro ⟨s,e,n,fl⟩ hp;exact zqv s e n fl hp)
theorem z0n (s:Bs) (p n:Int) (fl:Bool) (hp:s.length≤1048576):PF Tryz.prog 31 [.s s,.i .i64 p,.i .i64 n,.b fl] (.tup [.s (ptA s (spot s p) n fl).1,.i .i64 (ptA s (spot s p) n fl).2.1,.b (ptA s (spot s p) n fl).2.2]):=by
 refine ⟨rfl,rfl,FnK.of (cf:=zk Tryz.prog te [(100,zx),(101,y4),(102,wx),(103,v7),(104,jg)] 68 0 false (fun _=>false) (kp [(0,[0,1,2,3]),(1,[0,1,2,3]),(2,[0,1,2,3,23]),(3,[8,9,10]),(4,[0,1,2,3,11]),(5,[0,2,3,11,12]),(6,[0,2,3,11,12,13,14,15]),(7,[0,2,3,11,12,13,14,44]),(8,[8,9,10]),(9,[0,2,3,12,13,48,49]),(10,[0,2,3,12,13,48,49,50]),(11,[0,2,3,12,13,48,49]),(12,[0,2,3,12,13,48,49]),(13,[0,2,3,11,12,13]),(14,[0,2,3,11,12])]) [] []) (zf te_ok (l:=[(100,zx),(101,y4),(102,wx),(103,v7),(104,jg)]) (⟨ym,ww,xo,ze2,zbo,trivial⟩) zc) Tryz.func31 rfl rfl rfl (by simp [zk]) (by simp [zk]) (rs:=[.tmp 8,.tmp 9,.tmp 10]) rfl 100000 ?_⟩
 simp only [↓XC,XV,XT,Yg,seval,TES,yn,zq,ws,zam,ko,XRP]
 have h0:=q8 s p
 rw [zu s h0]
 generalize spot s p=q at *
 have hge:=plE_ge s q fl
 have hle:=zft s q fl h0
 refine Chk.mk hp fun _=>⟨fun h=>?_,fun h=>Chk.mk hp fun _=>Chk.mk (by omega) fun _=>?_⟩
 ·unfold ptA;rw [if_neg (by simpa using h)];rfl
 have hpt:ptA s q n fl=((plA s (plE s q fl) n fl [⟨sub s q (plE s q fl),false⟩]).1,(plA s (plE s q fl) n fl [⟨sub s q (plE s q fl),false⟩]).2,true):=by unfold ptA;rw [if_pos (by simpa using h)]
 rw [hpt]
 refine yv.of (ι:={x:Nat×List Pc // x.1≤s.length∧pcW x.2≤x.1+1∧plA s x.1 n fl x.2=plA s (plE s q fl) n fl [⟨sub s q (plE s q fl),false⟩]}) (fun x=>⟨[(0,.s s),(2,.i .i64 n),(3,.b fl),(11,.i .i64 (x.1.1:Nat)),(12,.slc 0 0 x.1.2.length)],[some (.row false 2 x.1.2.length (zg pcc pcz x.1.2))]⟩) (fun x=>s.length-x.1.1) ⟨(plE s q fl,[⟨sub s q (plE s q fl),false⟩]),hle,by simp only [pcW,List.map_cons,List.map_nil,List.sum_cons,List.sum_nil,sub,List.length_drop,List.length_take];omega,rfl⟩ (Ent.ren1 [0] (by decide) (by simp only [Yd];exact zh fun j hj=>by match j,hj with | 0,_=>rfl) (by simp [zi,Vg.look,SV.mapH,muL])) ?_
 rintro ⟨⟨e,L⟩,h1,h2,h3⟩
 simp only [↓XC,XV,XT,Yg,seval,TES,zam,ko,ws,XRP]
 simp only at h1 h2 h3
 have hW:=zn8 L
 refine Chk.mk ⟨hp,by omega,by omega⟩ fun _=>⟨fun hn=>?_,fun hn=>?_⟩
 ·rw [w8 rfl]
  simp only [↓XC,XV,XT,Yg,seval,TES,ko,XRP]
  refine Chk.mk ⟨Nat.le_refl _,by omega⟩ fun _=>?_
  rw [←h3,plA_f (by simpa using hn)]
 have hok:(nxA s e n fl).2.2=true:=by simpa using hn
 have hpl:=zd3 hok
 have hpe:=zft s (nxA s e n fl).1 fl hpl.2.1
 refine yv.of (ι:={k:Nat // (k:Int)≤(nxA s e n fl).2.1}) (fun x=>⟨[(0,.s s),(2,.i .i64 n),(3,.b fl),(12,.slc 0 0 (L.length+x.1)),(13,.i .i64 (nxA s e n fl).1),(48,.i .i64 (nxA s e n fl).2.1),(49,.i .i64 (x.1:Nat))],[some (.row false 2 (L.length+x.1) (zg pcc pcz (L++List.replicate x.1 pcz)))]⟩) (fun x=>(nxA s e n fl).2.1-x.1) ⟨0,by omega⟩ (Ent.ren1 [0] (by decide) (by simp only [Yd];exact zh fun j hj=>by simp only [List.replicate_zero,List.append_nil];rfl) (by simp [zi,Vg.look,SV.mapH,muL])) ?_
 rintro ⟨k,hk⟩
 simp only [↓XC,XV,XT,Yg,seval,TES,ws,XRP]
 rw [zu s hpl.2.1]
 refine ⟨fun hlt=>⟨qo rfl rfl,Chk.mk (by omega) fun _=>Chk.mk (by simp only [inR];omega) fun _=>⟨⟨k+1,by omega⟩,by simp only;omega, ?_⟩⟩,fun hlt=>Chk.mk hp fun _=>Chk.mk (by omega) fun _=>⟨qo rfl rfl,Chk.mk (by omega) fun _=>?_⟩⟩
 ·simp only [Int.natCast_add,Int.natCast_one]
  exact (Ent.ren1 [2] (by decide) (by simp only [Yd];exact vr (L++List.replicate k pcz) pcz (fun _=>rfl) (by rw [List.replicate_succ',List.append_assoc]) (by simp) rfl (fun _ _=>rfl) rfl rfl) (by simp [zi,Vg.look,SV.mapH,muL,Nat.add_assoc]))
 ·have hkm:k=(nxA s e n fl).2.1:=by omega
  subst hkm
  have hs:(sub s (nxA s e n fl).1 (plE s (nxA s e n fl).1 fl)).length=plE s (nxA s e n fl).1 fl-(nxA s e n fl).1:=by simp only [sub,List.length_drop,List.length_take];omega
  refine ⟨⟨(plE s (nxA s e n fl).1 fl,L++List.replicate (nxA s e n fl).2.1 pcz++[⟨sub s (nxA s e n fl).1 (plE s (nxA s e n fl).1 fl),false⟩]),hpe, ?_,by rw [←plA_t hok];exact h3⟩,by simp only;omega, ?_⟩
  ·simp only [w9,xq,zl9]
   omega
  ·exact (Ent.ren1 [2] (by decide) (by simp only [Yd];exact vr (L++List.replicate (nxA s e n fl).2.1 pcz) ⟨sub s (nxA s e n fl).1 (plE s (nxA s e n fl).1 fl),false⟩ (fun _=>rfl) rfl (by simp) (by simp [Nat.add_assoc]) (fun _ _=>rfl) rfl rfl) (by simp [zi,Vg.look,SV.mapH,muL,Nat.add_assoc]))
noncomputable def u4:PE:=peR (fun (x:Bs×Int×Int×Bool)=>match x with | (s,p,n,fl)=>[.s s,.i .i64 p,.i .i64 n,.b fl]) (fun (x:Bs×Int×Int×Bool)=>match x with | (s,p,n,fl)=>s.length≤1048576) (fun (x:Bs×Int×Int×Bool)=>match x with | (s,p,n,fl)=>.tup [.s (ptA s (spot s p) n fl).1,.i .i64 (ptA s (spot s p) n fl).2.1,.b (ptA s (spot s p) n fl).2.2])
theorem zhj {s:Bs} {p n:Int} {fl:Bool}:u4 [.s s,.i .i64 p,.i .i64 n,.b fl]=some (s.length≤1048576,.tup [.s (ptA s (spot s p) n fl).1,.i .i64 (ptA s (spot s p) n fl).2.1,.b (ptA s (spot s p) n fl).2.2]):=yh (by rintro ⟨a0,a1,a2,a3⟩ ⟨b0,b1,b2,b3⟩ h;simp_all []) (s,p,n,fl)
theorem zhi:PE1 Tryz.prog 31 u4:=yl (by rintro ⟨s,p,n,fl⟩ hp;exact z0n s p n fl hp)
end Go.T
end
section
set_option linter.unusedVariables false
set_option linter.unusedSimpArgs false
set_option linter.unusedSectionVars false
set_option linter.unnecessarySimpa false
namespace Go.T
variable [Go.Vg.Glob] [Go.Vg.GlobTabs 0 1]
open Go.Proofs Go.Vg Go.RowKit Go.TT Go.Pl
set_option maxRecDepth 10000
set_option maxHeartbeats 4000000
theorem wg (s:Bs) (r:Rd) (fr:Bool) (la:Int) (cc:Int) (p:Nat) (hp:r.cd=0):FnK Tryz.prog 211 5 [.ptr 0 0 0,.i .i64 cc,.i .i64 (p:Nat)] [some (.blk false [.s s,.i .i64 ((r).pos:Nat),.slc 1 0 (r).ev.length,.slc 2 0 (r).ev.length,.mp 3,.slc 4 0 (r).hd.length,.i .i64 ((r).dp:Nat),.i .i64 (r).cd,.i .i64 ((r).pl:Nat),.b fr,.i .i64 la]),some (.row false 8 (r).ev.length (zg evc evz (r).ev)),some (.row false 1 (r).ev.length (zg qy false (r).dn)),some (.mapS (nmI (r).ev (r).bs)),some (.row false 2 (r).hd.length (zg hdc hdz (r).hd))] (fun z c=>z=.b false∧c=[some (.blk false [.s s,.i .i64 ((flt r cc p).pos:Nat),.slc 1 0 (flt r cc p).ev.length,.slc 2 0 (flt r cc p).ev.length,.mp 3,.slc 4 0 (flt r cc p).hd.length,.i .i64 ((flt r cc p).dp:Nat),.i .i64 (flt r cc p).cd,.i .i64 ((flt r cc p).pl:Nat),.b fr,.i .i64 la]),some (.row false 8 (flt r cc p).ev.length (zg evc evz (flt r cc p).ev)),some (.row false 1 (flt r cc p).ev.length (zg qy false (flt r cc p).dn)),some (.mapS (nmI (flt r cc p).ev (flt r cc p).bs)),some (.row false 2 (flt r cc p).hd.length (zg hdc hdz (flt r cc p).hd))]):=by
 refine FnK.ofE (cf:=zk Tryz.prog te [] 20 5 false (fun _=>false) (kp [(0,[0,1,2]),(1,[0,1,2,11]),(2,[]),(3,[6])]) [] []) (zf te_ok (l:=[]) (trivial) zc) Tryz.func211 rfl rfl rfl (by simp [zk]) (by simp [zk]) (rs:=[.tmp 6]) rfl 100000 ?_
 simp only [↓XC,XV,XT,Yg,seval,TES,XRE,XR,XRH,Yh]
 exact ⟨fun _=>⟨[0,1,2,3,4],by decide,by simp only [Yd];exact ⟨za (by simp [Yf,Yh]),zb fun _=>rfl,zb fun _=>rfl,zl,zb fun _=>rfl⟩,by simp only [↓XC,XV,XT,Yg,seval];try first | rfl | simp [Yf],by simp [zw,SO.ro],by simp⟩,fun h=>absurd hp h⟩
theorem rgoes (s:Bs) (r:Rd) (fr:Bool) (la:Int) (hp:s.length≤1048576∧r.cd=0∧r.pos≤s.length):FnK Tryz.prog 361 5 [.ptr 0 0 0] [some (.blk false [.s s,.i .i64 ((r).pos:Nat),.slc 1 0 (r).ev.length,.slc 2 0 (r).ev.length,.mp 3,.slc 4 0 (r).hd.length,.i .i64 ((r).dp:Nat),.i .i64 (r).cd,.i .i64 ((r).pl:Nat),.b fr,.i .i64 la]),some (.row false 8 (r).ev.length (zg evc evz (r).ev)),some (.row false 1 (r).ev.length (zg qy false (r).dn)),some (.mapS (nmI (r).ev (r).bs)),some (.row false 2 (r).hd.length (zg hdc hdz (r).hd))] (fun z c=>z=.b (decide ((kw s r).cd=0))∧c=[some (.blk false [.s s,.i .i64 ((kw s r).pos:Nat),.slc 1 0 (kw s r).ev.length,.slc 2 0 (kw s r).ev.length,.mp 3,.slc 4 0 (kw s r).hd.length,.i .i64 ((kw s r).dp:Nat),.i .i64 (kw s r).cd,.i .i64 ((kw s r).pl:Nat),.b fr,.i .i64 la]),some (.row false 8 (kw s r).ev.length (zg evc evz (kw s r).ev)),some (.row false 1 (kw s r).ev.length (zg qy false (kw s r).dn)),some (.mapS (nmI (kw s r).ev (kw s r).bs)),some (.row false 2 (kw s r).hd.length (zg hdc hdz (kw s r).hd))]):=by
 refine FnK.ofE (cf:=zk Tryz.prog te [(144,yu)] 37 5 false (fun _=>false) (kp [(0,[0]),(1,[0,3]),(2,[2]),(3,[0,20]),(4,[2]),(5,[2])]) [] [(1,[],[],.q1 0 (.q1 1 (.q1 2 (.q1 4 (.q1 5 (.q1 6 (.q0 3 [3] (.q0 7 [7] (.q1 8 (.q1 9 (.q1 10 (.fin)))))))))))),(3,[],[],.q1 0 (.q1 1 (.q1 2 (.q1 4 (.q1 5 (.q1 6 (.q0 3 [3] (.q0 7 [7] (.alt 8 (.q1 9 (.q1 10 (.fin))) (.fin))))))))))]) (zf te_ok (l:=[(144,yu)]) (⟨qw,trivial⟩) zc) Tryz.func361 rfl rfl rfl (by simp [zk]) (by simp [zk]) (rs:=[.tmp 2]) rfl 100000 ?_
 simp only [↓XC,XV,XT,Yg,seval,TES,ze,XRE,XR,XRH,Yh]
 rw [zu s hp.2.2]
 refine ⟨by decide +kernel,fun h=>?_,fun h=>⟨by decide +kernel,Chk.mk hp.1 fun _=>⟨fun h2=>?_,fun h2=>?_⟩⟩⟩
 ·have e:kw s r=flt r 3 r.pos:=by unfold kw;rw [if_pos (by omega)]
  rw [e]
  refine Wm (wg s r fr la 3 r.pos hp.2.1) ?_
  simp only [↓XC,XV,XT,Yg,seval,TES,XRE,XR,XRH,Yh,XM]
  exact Wf
 ·have e:kw s r=flt r 4 r.pos:=by unfold kw;rw [if_neg (by omega),if_pos (by simpa using h2)]
  rw [e]
  refine Wm (wg s r fr la 4 r.pos hp.2.1) ?_
  simp only [↓XC,XV,XT,Yg,seval,TES,XRE,XR,XRH,Yh,XM]
  exact Wf
 ·have e:kw s r=r:=by unfold kw;rw [if_neg (by omega),if_neg (by simpa using h2)]
  rw [e,decide_eq_true hp.2.1]
  exact Wf
theorem rgap (s:Bs) (r:Rd) (fr:Bool) (la:Int) (hp:s.length≤1048576∧r.cd=0∧r.pos≤s.length):FnK Tryz.prog 355 5 [.ptr 0 0 0] [some (.blk false [.s s,.i .i64 ((r).pos:Nat),.slc 1 0 (r).ev.length,.slc 2 0 (r).ev.length,.mp 3,.slc 4 0 (r).hd.length,.i .i64 ((r).dp:Nat),.i .i64 (r).cd,.i .i64 ((r).pl:Nat),.b fr,.i .i64 la]),some (.row false 8 (r).ev.length (zg evc evz (r).ev)),some (.row false 1 (r).ev.length (zg qy false (r).dn)),some (.mapS (nmI (r).ev (r).bs)),some (.row false 2 (r).hd.length (zg hdc hdz (r).hd))] (fun z c=>z=.b (decide ((yr s r).cd=0))∧c=[some (.blk false [.s s,.i .i64 ((yr s r).pos:Nat),.slc 1 0 (yr s r).ev.length,.slc 2 0 (yr s r).ev.length,.mp 3,.slc 4 0 (yr s r).hd.length,.i .i64 ((yr s r).dp:Nat),.i .i64 (yr s r).cd,.i .i64 ((yr s r).pl:Nat),.b fr,.i .i64 la]),some (.row false 8 (yr s r).ev.length (zg evc evz (yr s r).ev)),some (.row false 1 (yr s r).ev.length (zg qy false (yr s r).dn)),some (.mapS (nmI (yr s r).ev (yr s r).bs)),some (.row false 2 (yr s r).hd.length (zg hdc hdz (yr s r).hd))]):=by
 refine FnK.ofE (cf:=zk Tryz.prog te [(143,jv)] 17 5 false (fun _=>false) (kp [(0,[0]),(1,[0]),(2,[2])]) [] [(1,[12],[0],.q1 0 (.q1 1 (.q1 2 (.q1 3 (.q1 5 (.q1 6 (.q1 7 (.q0 4 [4,9,10,11,12] (.q0 8 [8,9,10,11,12] (.alt 9 (.q1 10 (.q1 11 (.sw (.alt 12 (.fin) (.fin))))) (.fin)))))))))))]) (zf te_ok (l:=[(143,jv)]) (⟨un,trivial⟩) zc) Tryz.func355 rfl rfl rfl (by simp [zk]) (by simp [zk]) (rs:=[.tmp 2]) rfl 100000 ?_
 simp only [↓XC,XV,XT,Yg,seval,TES,yd,XRE,XR,XRH,Yh]
 rw [zu s hp.2.2]
 have hg:=qt s r.pos hp.2.2
 refine ⟨by decide +kernel,Chk.mk hp.1 fun _=>?_⟩
 rw [show yr s r=kw s (atR r (gpE s r.pos)) from rfl]
 refine Wm (rgoes s (atR r (gpE s r.pos)) fr la ⟨hp.1,hp.2.1,hg⟩) ?_
 simp only [↓XC,XV,XT,Yg,seval,TES,XRE,XR,XRH,Yh,XM]
 exact Wf
theorem rcomma (s:Bs) (r:Rd) (fr:Bool) (la:Int) (b:UInt8) (hp:s.length≤1048576∧r.cd=0∧r.pos<s.length):FnK Tryz.prog 357 5 [.ptr 0 0 0,.i .u8 (b.toNat:Nat)] [some (.blk false [.s s,.i .i64 ((r).pos:Nat),.slc 1 0 (r).ev.length,.slc 2 0 (r).ev.length,.mp 3,.slc 4 0 (r).hd.length,.i .i64 ((r).dp:Nat),.i .i64 (r).cd,.i .i64 ((r).pl:Nat),.b fr,.i .i64 la]),some (.row false 8 (r).ev.length (zg evc evz (r).ev)),some (.row false 1 (r).ev.length (zg qy false (r).dn)),some (.mapS (nmI (r).ev (r).bs)),some (.row false 2 (r).hd.length (zg hdc hdz (r).hd))] (fun z c=>z=.b (decide ((cmR s r b.toNat).cd=0))∧c=[some (.blk false [.s s,.i .i64 ((cmR s r b.toNat).pos:Nat),.slc 1 0 (cmR s r b.toNat).ev.length,.slc 2 0 (cmR s r b.toNat).ev.length,.mp 3,.slc 4 0 (cmR s r b.toNat).hd.length,.i .i64 ((cmR s r b.toNat).dp:Nat),.i .i64 (cmR s r b.toNat).cd,.i .i64 ((cmR s r b.toNat).pl:Nat),.b fr,.i .i64 la]),some (.row false 8 (cmR s r b.toNat).ev.length (zg evc evz (cmR s r b.toNat).ev)),some (.row false 1 (cmR s r b.toNat).ev.length (zg qy false (cmR s r b.toNat).dn)),some (.mapS (nmI (cmR s r b.toNat).ev (cmR s r b.toNat).bs)),some (.row false 2 (cmR s r b.toNat).hd.length (zg hdc hdz (cmR s r b.toNat).hd))]):=by
 refine FnK.ofE (cf:=zk Tryz.prog te [] 32 5 false (fun _=>false) (kp [(0,[0,1]),(1,[0,1,13]),(2,[4]),(3,[0,1,13,20]),(4,[]),(5,[0,29]),(6,[4])]) [] [(1,[],[],.q1 0 (.q1 1 (.q1 2 (.q1 4 (.q1 5 (.q1 6 (.q0 3 [3] (.q0 7 [7] (.q1 8 (.fin))))))))))]) (zf te_ok (l:=[]) (trivial) zc) Tryz.func357 rfl rfl rfl (by simp [zk]) (by simp [zk]) (rs:=[.tmp 4]) rfl 100000 ?_
 simp only [↓XC,XV,XT,Yg,seval,TES,XRE,XR,XRH,Yh]
 rw [←kv hp.2.2]
 refine ⟨by decide +kernel,Chk.mk (by omega) fun _=>⟨fun h=>Chk.mk (by simp only [inR];omega) fun _=>?_,fun h=>⟨fun h2=>?_,fun h2=>?_⟩⟩⟩
 ·have e:cmR s r b.toNat=atR r (r.pos+1):=by unfold cmR;rw [if_pos h]
  rw [e,decide_eq_true (show (atR r (r.pos+1)).cd=0 from hp.2.1)]
  exact Wf
 ·have e:cmR s r b.toNat=r:=by unfold cmR;rw [if_neg h,if_pos h2]
  rw [e,decide_eq_true hp.2.1]
  exact Wf
 ·have e:cmR s r b.toNat=flt r 11 r.pos:=by unfold cmR;rw [if_neg h,if_neg h2]
  rw [e]
  refine Wm (wg s r fr la 11 r.pos hp.2.1) ?_
  simp only [↓XC,XV,XT,Yg,seval,TES,XRE,XR,XRH,Yh,XM]
  exact Wf
theorem zi0 (s:Bs) (r:Rd) (fr:Bool) (la:Int) (k st:Int) (fl:Bool) (x a g:Bs) (p cc:Int) (hp:r.ev.length≤16777216∧r.dn.length=r.ev.length∧r.bs≤r.ev.length):FnK Tryz.prog 70 1 [.ptr 0 0 0,.agg [.i .i64 k,.i .i64 st,.b fl,.s x,.s a,.s g,.i .i64 p,.i .i64 cc]] [some (.blk false [.s s,.i .i64 ((r).pos:Nat),.slc 1 0 (r).ev.length,.slc 2 0 (r).ev.length,.mp 3,.slc 4 0 (r).hd.length,.i .i64 ((r).dp:Nat),.i .i64 (r).cd,.i .i64 ((r).pl:Nat),.b fr,.i .i64 la]),some (.row false 8 (r).ev.length (zg evc evz (r).ev)),some (.row false 1 (r).ev.length (zg qy false (r).dn)),some (.mapS (nmI (r).ev (r).bs)),some (.row false 2 (r).hd.length (zg hdc hdz (r).hd))] (fun z c=>z=.i .i64 (r.ev.length:Nat)∧c=[some (.blk false [.s s,.i .i64 ((zn r ⟨k,st,fl,x,a,g,p,cc⟩ (!decide (k=3)&&!decide (k=4))).pos:Nat),.slc 1 0 (zn r ⟨k,st,fl,x,a,g,p,cc⟩ (!decide (k=3)&&!decide (k=4))).ev.length,.slc 2 0 (zn r ⟨k,st,fl,x,a,g,p,cc⟩ (!decide (k=3)&&!decide (k=4))).ev.length,.mp 3,.slc 4 0 (zn r ⟨k,st,fl,x,a,g,p,cc⟩ (!decide (k=3)&&!decide (k=4))).hd.length,.i .i64 ((zn r ⟨k,st,fl,x,a,g,p,cc⟩ (!decide (k=3)&&!decide (k=4))).dp:Nat),.i .i64 (zn r ⟨k,st,fl,x,a,g,p,cc⟩ (!decide (k=3)&&!decide (k=4))).cd,.i .i64 ((zn r ⟨k,st,fl,x,a,g,p,cc⟩ (!decide (k=3)&&!decide (k=4))).pl:Nat),.b fr,.i .i64 la]),some (.row false 8 (zn r ⟨k,st,fl,x,a,g,p,cc⟩ (!decide (k=3)&&!decide (k=4))).ev.length (zg evc evz (zn r ⟨k,st,fl,x,a,g,p,cc⟩ (!decide (k=3)&&!decide (k=4))).ev)),some (.row false 1 (zn r ⟨k,st,fl,x,a,g,p,cc⟩ (!decide (k=3)&&!decide (k=4))).ev.length (zg qy false (zn r ⟨k,st,fl,x,a,g,p,cc⟩ (!decide (k=3)&&!decide (k=4))).dn)),some (.mapS (nmI (zn r ⟨k,st,fl,x,a,g,p,cc⟩ (!decide (k=3)&&!decide (k=4))).ev (zn r ⟨k,st,fl,x,a,g,p,cc⟩ (!decide (k=3)&&!decide (k=4))).bs)),some (.row false 2 (zn r ⟨k,st,fl,x,a,g,p,cc⟩ (!decide (k=3)&&!decide (k=4))).hd.length (zg hdc hdz (zn r ⟨k,st,fl,x,a,g,p,cc⟩ (!decide (k=3)&&!decide (k=4))).hd))]):=by
 refine FnK.ofE (cf:=zk Tryz.prog te [] 53 1 false (fun _=>false) (kp [(0,[0,3]),(1,[0,3]),(2,[0,3]),(3,[0,3,34]),(4,[0]),(5,[4])]) [] [(1,[7,10],[0,1],.q1 0 (.q1 1 (.q1 2 (.q1 3 (.q0 4 [4,7,8,9,10] (.q0 5 [5,6,7,8,9,10] (.alt 6 (.sw (.alt 7 (.q1 8 (.q1 9 (.alt 10 (.fin) (.fin)))) (.fin))) (.fin)))))))),(2,[14,17],[0,2],.q1 0 (.q1 1 (.q1 2 (.q1 3 (.q1 5 (.q0 4 [4,14,15,16,17] (.q0 6 [6,7,8,9,10,11,12,13,14,15,16,17] (.q1 7 (.q1 8 (.q1 9 (.q0 10 [10,11,12,13,14,15,16,17] (.q1 11 (.q1 12 (.alt 13 (.sw (.alt 14 (.q1 15 (.q1 16 (.alt 17 (.fin) (.fin)))) (.fin))) (.fin))))))))))))))),(4,[12],[3],.q1 0 (.q1 1 (.q1 2 (.q1 4 (.q1 6 (.q1 7 (.q1 8 (.q0 3 [3,12] (.q0 5 [5,12] (.q0 9 [9,10,11,12] (.q1 10 (.q1 11 (.sw (.alt 12 (.fin) (.fin)))))))))))))))]) (zf te_ok (l:=[]) (trivial) zc) Tryz.func70 rfl rfl rfl (by simp [zk]) (by simp [zk]) (rs:=[.tmp 4]) rfl 100000 ?_
 simp only [↓XC,XV,XT,Yg,seval,TES,XRE,XR,XRH,Yh]
 have hnm:nmI (r.ev++[⟨k,st,fl,x,a,g,p,cc⟩]) r.bs=if a=[] then nmI r.ev r.bs else zbh (nmI r.ev r.bs) a r.ev.length:=nmI_push hp.2.2
 have e1:((r.ev.length+1:Nat):Int)-1=r.ev.length:=by omega
 simp only [e1,hnm]
 refine ⟨by decide +kernel,qo rfl rfl,Chk.mk (by omega) fun _=>⟨by decide +kernel,qo rfl rfl,Chk.mk (by omega) fun _=>⟨fun h=>⟨by decide +kernel,Chk.mk (by simp only [inR];omega) fun _=>Chk.mk (by simp only [inR];omega) fun _=>?_⟩,fun h=>Chk.mk (by simp only [inR];omega) fun _=>?_⟩⟩⟩
 ·rw [if_neg (by simpa using h)]
  exact ⟨[0,7,9,3,4],by decide,by simp only [Yd];exact ⟨za (by simp [Yf]),vr r.ev (⟨k,st,fl,x,a,g,p,cc⟩:Ev) (fun _=>rfl) rfl rfl rfl (fun _ _=>rfl) rfl rfl,vr r.dn (!decide (k=3)&&!decide (k=4)) (fun _=>rfl) rfl hp.2.1.symm rfl (fun _ _=>rfl) rfl rfl,zl,zb fun _=>rfl⟩,by simp only [↓XC,XV,XT,Yg,seval];try first | rfl | simp [Yf],by simp [zw,SO.ro],by simp⟩
 ·rw [if_pos (by simpa using h)]
  exact ⟨[0,7,9,3,4],by decide,by simp only [Yd];exact ⟨za (by simp [Yf]),vr r.ev (⟨k,st,fl,x,a,g,p,cc⟩:Ev) (fun _=>rfl) rfl rfl rfl (fun _ _=>rfl) rfl rfl,vr r.dn (!decide (k=3)&&!decide (k=4)) (fun _=>rfl) rfl hp.2.1.symm rfl (fun _ _=>rfl) rfl rfl,zl,zb fun _=>rfl⟩,by simp only [↓XC,XV,XT,Yg,seval];try first | rfl | simp [Yf],by simp [zw,SO.ro],by simp⟩
end Go.T
end
