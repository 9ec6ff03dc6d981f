/- Own text: part RBM. -/
import Derived.Test.YtgippllfnmdnpaaGreatDoorRAW
import Derived.Test.YtgippllfnmdnpaaGreatDoorRBA
import Derived.Test.YtgippllfnmdnpaaGreatDoorRAV
import Derived.Test.YtgippllfnmdnpaaGreatDoorRBE
import Derived.Test.YtgippllfnmdnpaaGreatDoorRBL
section
set_option linter.unusedVariables false
set_option linter.unusedSimpArgs false
set_option linter.unusedSectionVars false
set_option linter.unnecessarySimpa false
namespace Go.T
variable [Go.Vg.Glob] [Go.Vg.GlobTabs 0 1]
open Go.Proofs Go.Vg Go.RowKit Go.TT Go.Pl Go.TSh
set_option maxRecDepth 10000
set_option maxHeartbeats 4000000
theorem mayStand (r:Nat):PF Tryz.prog 142 [.i .i64 (r:Nat)] (.b (mayS r)):=by
 refine ⟨rfl,rfl,FnK.of (cf:=zk Tryz.prog te [(147,qj)] 29 0 false (fun _=>false) (kp [(0,[0]),(1,[2])]) [] []) (zf te_ok (l:=[(147,qj)]) (⟨w8,trivial⟩) zd) Tryz.func142 rfl rfl rfl (by simp [zk]) (by simp [zk]) (rs:=[.tmp 2]) rfl 100000 ?_⟩
 simp only [↓XC,XV,XT,Yg,seval,TES,q7,XR]
 unfold mayS
 congr 1
 rw [Bool.eq_iff_iff]
 simp only [Bool.or_eq_true,Bool.and_eq_true,decide_eq_true_eq,Bool.not_eq_true',decide_eq_false_iff_not]
 omega
noncomputable def ut:PE:=peR (fun (r:Nat)=>[.i .i64 (r:Nat)]) (fun (r:Nat)=>True) (fun (r:Nat)=>.b (mayS r))
theorem zbq {r:Nat}:ut [.i .i64 (r:Nat)]=some (True,.b (mayS r)):=z6 (by rintro a b h;simp_all [Int.natCast_inj]) r
theorem zg6:PE1 Tryz.prog 142 ut:=yb (by rintro r hp;exact mayStand r)
theorem RuneAt_i (s:Bs) (p:Int) (hp:s.length≤1048576):PF Tryz.prog 141 [.s s,.i .i64 p] (.tup [.i .i64 ((rnA (s.drop (spot s p))).1:Nat),.i .i64 ((rnA (s.drop (spot s p))).2:Nat)]):=by
 refine ⟨rfl,rfl,FnK.of (cf:=zk Tryz.prog te [(100,zr),(208,zkf)] 30 0 false (fun _=>false) (kp [(0,[0,1]),(1,[6,7]),(2,[6,7,26]),(3,[4,5]),(4,[4,5])]) [] []) (zf te_ok (l:=[(100,zr),(208,zkf)]) (⟨yc,zs7,trivial⟩) zd) Tryz.func141 rfl rfl rfl (by simp [zk]) (by simp [zk]) (rs:=[.tmp 4,.tmp 5]) rfl 100000 ?_⟩
 simp only [↓XC,XV,XT,Yg,seval,TES,yd,zs8,XR]
 have h0:=ql s p
 have hb:=dcG_bd (s.drop (spot s p))
 rw [List.length_drop] at hb
 unfold rnA
 change Chk _ (((decide (((dcG (s.drop (spot s p))).2:Int)=0)||decide (((dcG (s.drop (spot s p))).1:Int)=65533)&&decide (((dcG (s.drop (spot s p))).2:Int)=1))=true→_)∧((decide (((dcG (s.drop (spot s p))).2:Int)=0)||decide (((dcG (s.drop (spot s p))).1:Int)=65533)&&decide (((dcG (s.drop (spot s p))).2:Int)=1))=false→Chk (inR .i64 ((dcG (s.drop (spot s p))).1:Int)) (SV.tup [.i .i64 ((dcG (s.drop (spot s p))).1:Nat),.i .i64 ((dcG (s.drop (spot s p))).2:Nat)]=_)))
 generalize dcG (s.drop (spot s p))=D at *
 have hC:(decide ((D.2:Int)=0)||decide ((D.1:Int)=65533)&&decide ((D.2:Int)=1))=decide (D.2=0∨(D.1=65533∧D.2=1)):=by
  rw [Bool.eq_iff_iff]
  simp only [Bool.or_eq_true,Bool.and_eq_true,decide_eq_true_eq]
  omega
 rw [hC]
 refine Chk.mk ⟨by omega,by omega,by omega⟩ fun _=>⟨fun h=>by rw [if_pos (of_decide_eq_true h)];rfl,fun h=>Chk.mk (by simp only [inR];omega) fun _=>by rw [if_neg (of_decide_eq_false h)]⟩
noncomputable def uy:PE:=peR (fun (x:Bs×Int)=>match x with | (s,p)=>[.s s,.i .i64 p]) (fun (x:Bs×Int)=>match x with | (s,p)=>s.length≤1048576) (fun (x:Bs×Int)=>match x with | (s,p)=>.tup [.i .i64 ((rnA (s.drop (spot s p))).1:Nat),.i .i64 ((rnA (s.drop (spot s p))).2:Nat)])
theorem zbt {s:Bs} {p:Int}:uy [.s s,.i .i64 p]=some (s.length≤1048576,.tup [.i .i64 ((rnA (s.drop (spot s p))).1:Nat),.i .i64 ((rnA (s.drop (spot s p))).2:Nat)]):=z6 (by rintro ⟨a0,a1⟩ ⟨b0,b1⟩ h;simp_all []) (s,p)
theorem zhc:PE1 Tryz.prog 141 uy:=yb (by rintro ⟨s,p⟩ hp;exact RuneAt_i s p hp)
theorem Clean_i (s:Bs) (hp:s.length≤1048576):PF Tryz.prog 68 [.s s] (.i .i64 (clA s 0:Nat)):=by
 refine ⟨rfl,rfl,FnK.of (cf:=zk Tryz.prog te [(141,uy),(142,ut)] 29 0 false (fun _=>false) (kp [(0,[0]),(1,[0,3]),(2,[0,3,9]),(3,[0,3,4,5]),(4,[0,3,5,22]),(5,[2]),(6,[0,3]),(7,[2])]) [] []) (zf te_ok (l:=[(141,uy),(142,ut)]) (⟨zhc,zg6,trivial⟩) zd) Tryz.func68 rfl rfl rfl (by simp [zk]) (by simp [zk]) (rs:=[.tmp 2]) rfl 100000 ?_⟩
 simp only [↓XC,XV,XT,Yg,seval,TES,zbt,zbq,XR]
 refine yv.of (ι:={p:Nat // p≤s.length∧clA s p=clA s 0}) (fun x=>⟨[(0,.s s),(3,.i .i64 (x.1:Nat))],[]⟩) (fun x=>s.length-x.1) ⟨0,Nat.zero_le _,rfl⟩ (Ent.refl _ _) ?_
 rintro ⟨p,h1,h2⟩
 simp only [↓XC,XV,XT,Yg,seval,TES,zbq,zbt]
 rw [zq s h1]
 have hb:=rnA_bd (s.drop p)
 rw [List.length_drop] at hb
 refine ⟨fun h=>Chk.mk hp fun _=>⟨fun h3=>?_,fun h3=>Chk.mk (by simp only [inR];omega) fun _=>?_⟩,fun h=>?_⟩
 ·rw [←h2,clA_f]
  rintro ⟨h4,h5⟩
  rw [h5] at h3
  simp at h3;omega
 ·simp only [Bool.or_eq_false_iff,decide_eq_false_iff_not,Bool.not_eq_false'] at h3
  exact ⟨⟨p+(rnA (s.drop p)).2,by omega,by rw [←clA_t (by omega) (by omega) h3.2];exact h2⟩,by simp only;omega,(by first | exact Ent.refl _ _ | (simp only [Int.natCast_add,Int.natCast_one];exact Ent.refl _ _))⟩
 ·rw [←h2,clA_e (by omega),show p=s.length by omega]
noncomputable def zbh:PE:=peR (fun (s:Bs)=>[.s s]) (fun (s:Bs)=>s.length≤1048576) (fun (s:Bs)=>.i .i64 (clA s 0:Nat))
theorem zkm {s:Bs}:zbh [.s s]=some (s.length≤1048576,.i .i64 (clA s 0:Nat)):=z6 (by rintro a b h;simp_all []) s
theorem zkl:PE1 Tryz.prog 68 zbh:=yb (by rintro s hp;exact Clean_i s hp)
end Go.T
end
section
set_option linter.unusedVariables false
set_option linter.unusedSimpArgs false
set_option linter.unusedSectionVars false
set_option linter.unnecessarySimpa false
namespace Go.T
variable [Go.Vg.Glob] [Go.Vg.GlobTabs 0 1]
open Go.Proofs Go.Vg Go.RowKit Go.TT Go.Pl
set_option maxRecDepth 10000
set_option maxHeartbeats 4000000
theorem isPrint (s:Bs) (hp:s.length≤1048576):PF Tryz.prog 277 [.s s] (.b (s.all fun b=>decide (33≤b.toNat)&&decide (b.toNat≤126))):=by
 refine ⟨rfl,rfl,FnK.of (cf:=zk Tryz.prog te [] 20 0 false (fun _=>false) (kp [(0,[0]),(1,[0,5,6]),(2,[0,5,6,7]),(3,[0,3,5,6]),(4,[0,5,6,18]),(5,[2]),(6,[0,5,6]),(7,[2])]) [] []) (zf te_ok (l:=[]) (trivial) zd) Tryz.func277 rfl rfl rfl (by simp [zk]) (by simp [zk]) (rs:=[.tmp 2]) rfl 100000 ?_⟩
 simp only [↓XC,XV,XT,Yg,seval,TES,XR]
 refine yv.of (ι:={i:Nat // i≤s.length∧((s.drop i).all fun b=>decide (33≤b.toNat)&&decide (b.toNat≤126))=(s.all fun b=>decide (33≤b.toNat)&&decide (b.toNat≤126))}) (fun x=>⟨[(0,.s s),(5,.i .i64 (s.length:Nat)),(6,.i .i64 (x.1:Nat))],[]⟩) (fun x=>s.length-x.1) ⟨0,Nat.zero_le _,rfl⟩ (Ent.refl _ _) ?_
 rintro ⟨i,h1,h2⟩
 simp only [↓XC,XV,XT,Yg,seval,TES]
 have hc:=(s.getD i 0).toNat_lt
 refine ⟨fun h=>?_,fun h=>?_⟩
 ·have hi:i<s.length:=by omega
  have e:s.drop i=s.getD i 0::s.drop (i+1):=by rw [List.drop_eq_getElem_cons hi];congr 1;simp [List.getD,hi]
  rw [e,List.all_cons] at h2
  refine Chk.mk (by omega) fun _=>Chk.mk (fun _=>by omega) fun _=>⟨fun h3=>?_,fun h3=>Chk.mk (by simp only [inR];omega) fun _=>?_⟩
  ·simp only [Bool.or_eq_true,decide_eq_true_eq] at h3
   have:(decide (33≤(s.getD i 0).toNat)&&decide ((s.getD i 0).toNat≤126))=false:=by
    rw [Bool.and_eq_false_iff]
    rcases h3 with h4 | h4
    ·exact .inl (by rw [decide_eq_false_iff_not];omega)
    ·exact .inr (by rw [decide_eq_false_iff_not];omega)
   rw [←h2,this];rfl
  ·simp only [Bool.or_eq_false_iff,decide_eq_false_iff_not] at h3
   have:(decide (33≤(s.getD i 0).toNat)&&decide ((s.getD i 0).toNat≤126))=true:=by
    rw [Bool.and_eq_true,decide_eq_true_eq,decide_eq_true_eq];omega
   rw [this,Bool.true_and] at h2
   exact ⟨⟨i+1,by omega,h2⟩,by simp only;omega,(by first | exact Ent.refl _ _ | (simp only [Int.natCast_add,Int.natCast_one];exact Ent.refl _ _))⟩
 ·rw [←h2,List.drop_eq_nil_of_le (by omega)];rfl
noncomputable def zbd:PE:=peR (fun (s:Bs)=>[.s s]) (fun (s:Bs)=>s.length≤1048576) (fun (s:Bs)=>.b (s.all fun b=>decide (33≤b.toNat)&&decide (b.toNat≤126)))
theorem zkc {s:Bs}:zbd [.s s]=some (s.length≤1048576,.b (s.all fun b=>decide (33≤b.toNat)&&decide (b.toNat≤126))):=z6 (by rintro a b h;simp_all []) s
theorem zkb:PE1 Tryz.prog 277 zbd:=yb (by rintro s hp;exact isPrint s hp)
theorem zt3 (na pr:Bs) (hp:na.length≤1048576∧pr.length≤1048576):PF Tryz.prog 250 [.agg [.s na,.s pr]] (.b (hkO ⟨na,pr⟩)):=by
 refine ⟨rfl,rfl,FnK.of (cf:=zk Tryz.prog te [(276,ui),(147,qj),(277,zbd)] 17 0 false (fun _=>false) (kp [(0,[1]),(1,[2])]) [] []) (zf te_ok (l:=[(276,ui),(147,qj),(277,zbd)]) (⟨zef,w8,zkb,trivial⟩) zd) Tryz.func250 rfl rfl rfl (by simp [zk]) (by simp [zk]) (rs:=[.tmp 2]) rfl 100000 ?_⟩
 simp only [↓XC,XV,XT,Yg,seval,TES,zeg,q7,zkc,XR]
 have e:(decide ((1:Int)≤(pr.length:Nat))&&decide (((pr.length:Nat):Int)≤60))=(decide (1≤pr.length)&&decide (pr.length≤60)):=by
  congr 1
  ·rw [decide_eq_decide];omega
  ·rw [decide_eq_decide];omega
 rw [e]
 exact Chk.mk hp.1 fun _=>Chk.mk (fun h=>⟨h,hp.2⟩) fun _=>rfl
noncomputable def vp:PE:=peR (fun (x:Bs×Bs)=>match x with | (na,pr)=>[.agg [.s na,.s pr]]) (fun (x:Bs×Bs)=>match x with | (na,pr)=>na.length≤1048576∧pr.length≤1048576) (fun (x:Bs×Bs)=>match x with | (na,pr)=>.b (hkO ⟨na,pr⟩))
theorem zx {na pr:Bs}:vp [.agg [.s na,.s pr]]=some (na.length≤1048576∧pr.length≤1048576,.b (hkO ⟨na,pr⟩)):=z6 (by rintro ⟨a0,a1⟩ ⟨b0,b1⟩ h;simp_all []) (na,pr)
theorem zeu:PE1 Tryz.prog 250 vp:=yb (by rintro ⟨na,pr⟩ hp;exact zt3 na pr hp)
end Go.T
end
