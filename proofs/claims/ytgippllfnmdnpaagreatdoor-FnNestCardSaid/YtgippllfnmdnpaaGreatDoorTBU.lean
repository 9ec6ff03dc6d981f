/- Own text: part TBU. -/
import Derived.Test.YtgippllfnmdnpaaGreatDoorTBB
import Derived.Test.YtgippllfnmdnpaaGreatDoorTBD
import Derived.Test.YtgippllfnmdnpaaGreatDoorTBR
import Derived.Test.YtgippllfnmdnpaaGreatDoorTBT
set_option linter.unusedVariables false
set_option linter.unusedSimpArgs false
set_option linter.unusedSectionVars false
set_option linter.unnecessarySimpa false
namespace Go.T
variable [Go.Vg.Glob] [Go.Vg.GlobTabs 0 1]
open Go.Proofs Go.Vg Go.RowKit Go.TT Go.Pl
set_option maxRecDepth 10000
set_option maxHeartbeats 4000000
theorem law_FnNest (cd:Bs):PF Tryz.prog 7 [.fs 1 (cd.map u6)] (.b true):=by
 refine ⟨rfl,rfl,FnK.of (cf:=zk Tryz.prog te [(16,zcp),(33,zcq),(34,za4),(35,zd0),(36,u3)] 107 0 false (fun _=>false) (kp [(0,[0]),(1,[0,13]),(2,[2]),(3,[3]),(4,[3,4]),(5,[3,4,17,18,19]),(6,[3,4,17,18,19,20]),(7,[3,4,5,6,17,18,19]),(8,[3,4,5,17,18,19,31]),(9,[3,4,5,17,18,19]),(10,[3,4,5,7,17,18,19]),(11,[3,4,5,7,8,17,18,19]),(12,[3,4,5,7,8,17,18,19,40,41,42]),(13,[3,4,5,7,8,17,18,19,40,41,42,43]),(14,[3,4,5,7,8,10,17,18,19,40,41,42]),(15,[3,4,5,7,10,17,18,19,40,41,42,56]),(16,[2]),(17,[3,4,5,7,8,17,18,19,40,41,42]),(18,[3,4,5,7,8,17,18,19,40,41,42]),(19,[3,4,17,18,19,89]),(20,[2]),(21,[3,4,17,18,19]),(22,[2])]) [] []) (zf te_ok (l:=[(16,zcp),(33,zcq),(34,za4),(35,zd0),(36,u3)]) (⟨zl4,zl5,zi5,zn7,zhh,trivial⟩) zc) Tryz.func7 rfl rfl rfl (by simp [zk]) (by simp [zk]) (rs:=[.tmp 2]) rfl 100000 ?_⟩
 simp only [↓XC,XV,XT,Yg,seval,TES,x8,ub,xe,u1,vg,XR,XRE]
 intro h
 have hc:cd.length≤1048576:=by omega
 refine zj.ownQ (zre cd hc) rfl ?_
 rintro _ _ ⟨s,hs,rfl,rfl⟩
 simp only [↓XC,XV,XT,Yg,seval,TES,x8,ub,xe,u1,vg,XR,XRE,zr,upd,muL,List.getElem?_nil,List.drop_nil,Option.map_none,SO.mapH,List.getElem?_cons_zero,List.getElem?_cons_succ]
 have hP:=psA_ok (s:=s)
 have hL:=psA_len s
 generalize psA s=l at *
 have hn:=hP.nd
 refine Chk.mk (by omega) fun _=>?_
 refine yv.of (ι:={x:Nat×Nat // x.1≤l.length∧x.2≤x.1}) (fun x=>⟨[(3,.fs 8 (l.map evc)),(4,.i .i64 (x.1.2:Nat)),(17,.fs 8 (l.map evc)),(18,.i .i64 (l.length:Nat)),(19,.i .i64 (x.1.1:Nat))],[]⟩) (fun x=>l.length-x.1.1) ⟨(0,0),Nat.zero_le _,Nat.zero_le _⟩ (Ent.refl _ _) ?_
 rintro ⟨⟨i,n⟩,hi,hni⟩
 simp only [↓XC,XV,XT,Yg,seval,TES,x8,ub,xe,u1,vg,XR,XRE]
 simp only at hi hni
 refine ⟨fun hl=>Chk.mk (by omega) fun _=>⟨fun hk=>Chk.mk (by simp only [inR];omega) fun _=>⟨⟨(i+1,n),by simp only;omega⟩,by simp only;omega, ?_⟩,fun hk=>?_⟩,fun hl=>?_⟩
 ·exact (Ent.ren1 [] (by decide) (by simp only [vh]) (by simp [zi,Vg.look,SV.mapH,muL]))
 ·have hi2:i<l.length:=by omega
  have hcl:isColl (l.getD i evz).kind=true:=by
   unfold isColl
   cases h3:decide ((l.getD i evz).kind=3)<;>cases h4:decide ((l.getD i evz).kind=4)<;>simp_all
  have hnode:Pl.isNode (l.getD i evz).kind=true:=by unfold Pl.isNode;rw [hcl];rfl
  have eE:(if yf l=true∧0≤(i:Int)∧(i:Int)<(l.length:Nat) then (if Pl.isNode (l.getD i evz).kind=true then scB l i 0 else -1) else -1)=scB l i 0:=by rw [if_pos ⟨hn,by omega,by omega⟩,if_pos hnode]
  have eK:(if yf l=true then (if 0≤(i:Int)∧(i:Int)<(l.length:Nat) then zat l i else []) else [])=zat l i:=by rw [if_pos hn,if_pos ⟨by omega,by omega⟩]
  rw [eE,eK]
  have hKS:=KdI.start hi2 hcl
  have hKl:=zy0 (l:=l) i
  have hm1:=scB_m1 l i 0
  have hup:=scB_up hi2
  generalize hE:scB l i 0=E at *
  generalize hKK:zat l i=K at *
  refine Chk.mk (by simp only [inR];omega) fun _=>Chk.mk (by omega) fun _=>Chk.mk (by omega) fun _=>?_
  refine yv.of (ι:={x:Nat×Int // x.1≤K.length∧KdI l i x.2 (K.drop x.1) ∧ -1≤x.2∧x.2<l.length}) (fun x=>⟨[(3,.fs 8 (l.map evc)),(4,.i .i64 ((n:Int)+1)),(5,.i .i64 (i:Nat)),(7,.i .i64 E),(8,.i .i64 x.1.2),(17,.fs 8 (l.map evc)),(18,.i .i64 (l.length:Nat)),(19,.i .i64 (i:Nat)),(40,.fs 1 (K.map wd)),(41,.i .i64 (K.length:Nat)),(42,.i .i64 (x.1.1:Nat))],[]⟩) (fun x=>K.length-x.1.1) ⟨(0,i),Nat.zero_le _,by simpa using hKS,by omega,by simp only;omega⟩ (Ent.ren1 [] (by decide) (by simp only [vh]) (by simp [zi,Vg.look,SV.mapH,muL])) ?_
  rintro ⟨⟨j,la⟩,hj,hI,hla,hlb⟩
  simp only [↓XC,XV,XT,Yg,seval,TES,x8,ub,xe,u1,vg,XR,XRE]
  simp only at hj hI hla hlb
  refine ⟨fun hq=>?_,fun hq=>?_⟩
  ·have hj2:j<K.length:=by omega
   have eD:K.drop j=K.getD j 0::K.drop (j+1):=by
    rw [List.drop_eq_getElem_cons hj2,List.getD_eq_getElem?_getD,List.getElem?_eq_getElem hj2];rfl
   rw [eD] at hI
   obtain ⟨s1,s2,s3,s4,s5,s6⟩:=hI.step hn hi2 hcl
   have t1:=scB_m1 l (K.getD j 0).toNat 0
   have t2:=scB_up (l:=l) (k:=(K.getD j 0).toNat) (by omega)
   have eU:(if yf l=true∧0≤K.getD j 0∧K.getD j 0<(l.length:Nat) then upB l (K.getD j 0).toNat 0 else -1)=(i:Int):=by rw [if_pos ⟨hn,s2,s3⟩];exact s4
   have eN:(if yf l=true∧0≤K.getD j 0∧K.getD j 0<(l.length:Nat) then (if Pl.isNode (l.getD (K.getD j 0).toNat evz).kind=true then scB l (K.getD j 0).toNat 0 else -1) else -1)=scB l (K.getD j 0).toNat 0:=by rw [if_pos ⟨hn,s2,s3⟩,if_pos s5]
   rw [eU,eN]
   exact Chk.mk (by omega) fun _=>Chk.mk (by simp only [inR];omega) fun _=>Chk.mk (fun h=>⟨⟨h,h⟩,by omega⟩) fun _=>⟨fun h=>by rw [decide_eq_true s1] at h;simp at h,fun _=>Chk.mk (by omega) fun _=>Chk.mk (by simp only [inR];omega) fun _=>⟨⟨(j+1,scB l (K.getD j 0).toNat 0),by simp only;omega,s6,t1,t2⟩,by simp only;omega,(by first | exact Ent.refl _ _ | (simp only [Int.natCast_add,Int.natCast_one];exact Ent.refl _ _))⟩⟩
  ·obtain rfl:j=K.length:=by omega
   rw [List.drop_length] at hI
   refine Chk.mk (fun _=>by simp only [inR];omega) fun _=>Chk.mk (fun _=>by simp only [inR];omega) fun _=>Chk.mk (fun h=>?_) fun _=>Chk.mk (fun h=>⟨⟨h,h⟩,by omega⟩) fun _=>⟨fun h=>?_,fun _=>Chk.mk (by simp only [inR];omega) fun _=>⟨⟨(i+1,n+1),by simp only;omega⟩,by simp only;omega,(by first | exact Ent.refl _ _ | (simp only [Int.natCast_add,Int.natCast_one];exact Ent.refl _ _))⟩⟩
   ·simp only [Bool.and_eq_true,decide_eq_true_eq] at h
    exact ⟨h.1,hup⟩
   ·exfalso
    have hE0:0≤E:=by
     simp only [Bool.and_eq_true,decide_eq_true_eq] at h
     exact h.1
    obtain ⟨f1,f2,f3,f4⟩:=hI.fin hn hi2 hcl (by rw [hE];exact hE0)
    rw [hE] at f1 f2 f3 f4
    have eU2:(if yf l=true∧0≤E∧E<(l.length:Nat) then upB l E.toNat 0 else -1)=(i:Int):=by rw [if_pos ⟨hn,hE0,f2⟩];exact f4
    rw [eU2,decide_eq_true f1,decide_eq_true f3] at h
    simp at h
 ·have h2:=zj9 hn
  have hR:=zus (l:=l) l.length
  have h1:=zb5 hn
  have e0:(if yf l=true∧0<(l.length:Nat) then (if Pl.isNode (l.getD 0 evz).kind=true then scB l 0 0 else -1) else -1)=(-1:Int):=by
   rw [if_pos ⟨hn,by omega⟩,if_neg (by rw [h1];decide)]
  refine Chk.mk (fun h=>⟨h,by omega⟩) fun _=>Chk.mk (fun h=>⟨h,by omega⟩) fun _=>?_
  simp only [SV.b.injEq,Bool.and_eq_true,decide_eq_true_eq]
  refine ⟨⟨by omega,by omega⟩, ?_⟩
  first | exact e0 | (rw [if_pos ⟨hn,by omega⟩,if_neg (by rw [h1];decide)])
end Go.T
