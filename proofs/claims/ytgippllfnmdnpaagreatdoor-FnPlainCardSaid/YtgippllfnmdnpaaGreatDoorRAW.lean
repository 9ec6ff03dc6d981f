/- Own text: part RAW. -/
import Derived.Test.YtgippllfnmdnpaaGreatDoorRAQ
import Derived.Test.YtgippllfnmdnpaaGreatDoorRAV
import Derived.Test.YtgippllfnmdnpaaGreatDoorRAO
section
set_option linter.unusedVariables false
set_option linter.unusedSimpArgs false
set_option linter.unusedSectionVars false
set_option linter.unnecessarySimpa false
namespace Go.T
variable [Go.Vg.Glob]
open Go.Proofs Go.Vg Go.RowKit Go.TT Go.Pl
set_option maxRecDepth 10000
set_option maxHeartbeats 4000000
theorem l01Word (cd:Bs) (d:Nat×Int) (hp:d.1≤cd.length∧cd.length≤1048576):FnK Tryz.prog 99 1 [.ptr 0 0 0] [some (.blk false [.fs 1 (cd.map zd7),.i .i64 (d.1:Nat),.i .i64 d.2])] (fun z c=>z=.s (zen cd d).1∧c=[some (.blk false [.fs 1 (cd.map zd7),.i .i64 ((zen cd d).2.1:Nat),.i .i64 (zen cd d).2.2])]):=by
 refine FnK.ofE (cf:=zk Tryz.prog te [] 6 1 false (fun _=>false) (kp [(0,[0]),(1,[2])]) [] []) (zf te_ok (l:=[]) (trivial) zd) Tryz.func99 rfl rfl rfl (by simp [zk]) (by simp [zk]) (rs:=[.tmp 2]) rfl 100000 ?_
 simp only [↓XC,XV,XT,Yg,seval,TES,XR]
 refine yq.mut (l01Of cd d zsq ⟨hp.1,hp.2,by decide,by decide⟩) rfl [0,1] (by simp [Yf];decide) (by simp only [Ye];exact ⟨by omega,zb rfl,by omega,soLe_lit (l:=zsq)⟩) (by decide) ?_
 simp only [↓XC,XV,XT,Yg,seval,TES,XR,kb,upd,muL,List.getElem?_nil,List.drop_nil,Option.map_none,SO.mapH,List.getElem?_cons_zero,List.getElem?_cons_succ]
 exact ⟨[0],by decide,by simp only [Yd];exact zb rfl,by simp only [↓XC,XV,XT,Yg,seval,TES];try first | rfl | simp [Yf],by simp [ye,SO.ro],by simp⟩
end Go.T
end
section
set_option linter.unusedVariables false
set_option linter.unusedSimpArgs false
set_option linter.unusedSectionVars false
set_option linter.unnecessarySimpa false
namespace Go.T
variable [Go.Vg.Glob]
open Go.Proofs Go.Vg Go.RowKit Go.TT Go.Pl
set_option maxRecDepth 10000
set_option maxHeartbeats 4000000
theorem isFlow (b:Int):PF Tryz.prog 183 [.i .i64 b] (.b (flw b)):=by
 refine ⟨rfl,rfl,FnK.of (cf:=zk Tryz.prog te [] 21 0 false (fun _=>false) (kp [(0,[0]),(1,[2])]) [] []) (zf te_ok (l:=[]) (trivial) zd) Tryz.func183 rfl rfl rfl (by simp [zk]) (by simp [zk]) (rs:=[.tmp 2]) rfl 100000 ?_⟩
 simp only [↓XC,XV,XT,Yg,seval,TES]
 rfl
noncomputable def wa:PE:=peR (fun (b:Int)=>[.i .i64 b]) (fun (b:Int)=>True) (fun (b:Int)=>.b (flw b))
theorem zy {b:Int}:wa [.i .i64 b]=some (True,.b (flw b)):=z6 (by rintro a b h;simp_all []) b
theorem jj:PE1 Tryz.prog 183 wa:=yb (by rintro b hp;exact isFlow b)
theorem isName (s:Bs):PF Tryz.prog 148 [.s s] (.b (zw1 s)):=by
 refine ⟨rfl,rfl,FnK.of (cf:=zk Tryz.prog te [(185,y4),(184,qz),(183,wa)] 28 0 false (fun _=>false) (kp [(0,[0]),(1,[0,7]),(2,[2]),(3,[0,9,10]),(4,[0,9,10,11]),(5,[0,3,9,10]),(6,[0,4,9,10]),(7,[0,9,10,26]),(8,[2]),(9,[0,9,10]),(10,[2])]) [] []) (zf te_ok (l:=[(185,y4),(184,qz),(183,wa)]) (⟨q8,jt,jj,trivial⟩) zd) Tryz.func148 rfl rfl rfl (by simp [zk]) (by simp [zk]) (rs:=[.tmp 2]) rfl 100000 ?_⟩
 simp only [↓XC,XV,XT,Yg,seval,TES,zw,wv,zy]
 refine ⟨fun h=>?_,fun h=>?_⟩
 ·simp [zw1];omega
 refine yv.of (ι:={i:Nat // i≤s.length∧∀ j,j<i→nmc (s.getD j 0).toNat=false}) (fun x=>⟨[(0,.s s),(9,.i .i64 (s.length:Nat)),(10,.i .i64 (x.1:Nat))],[]⟩) (fun x=>s.length-x.1) ⟨0,Nat.zero_le _,fun j hj=>absurd hj (Nat.not_lt_zero _)⟩ (Ent.refl _ _) ?_
 rintro ⟨i,hi,hj⟩
 simp only [↓XC,XV,XT,Yg,seval,TES,zw,wv,zy]
 refine ⟨fun hl=>Chk.mk (by omega) fun _=>Chk.mk (by have:=(s.getD i 0).toNat_lt;simp only [inR];omega) fun _=>⟨fun hb=>?_,fun hn=>Chk.mk (by simp only [inR];omega) fun _=>?_⟩,fun hl=>?_⟩
 ·rw [isNm_bad (j:=i) (by omega) hb]
 ·refine ⟨⟨i+1,by omega,zw0 hj hn⟩,by simp only;omega,(by first | exact Ent.refl _ _ | (simp only [Int.natCast_add,Int.natCast_one];exact Ent.refl _ _))⟩
 ·rw [isNm_all (by omega) (by rw [show s.length=i by omega];exact hj)]
noncomputable def zcp:PE:=peR (fun (s:Bs)=>[.s s]) (fun (s:Bs)=>True) (fun (s:Bs)=>.b (zw1 s))
theorem zmk {s:Bs}:zcp [.s s]=some (True,.b (zw1 s)):=z6 (by rintro a b h;simp_all []) s
theorem zmj:PE1 Tryz.prog 148 zcp:=yb (by rintro s hp;exact isName s)
theorem eqEv {k st:Int} {fl:Bool} {x a g:Bs} {p c k' st':Int} {fl':Bool} {x' a' g':Bs} {p' c':Int}:eqAt te 4 28 (.agg [.i .i64 k,.i .i64 st,.b fl,.s x,.s a,.s g,.i .i64 p,.i .i64 c]) (.agg [.i .i64 k',.i .i64 st',.b fl',.s x',.s a',.s g',.i .i64 p',.i .i64 c'])=some (decide (k=k')&&(decide (st=st')&&((fl==fl')&&(decide (x=x')&&(decide (a=a')&&(decide (g=g')&&(decide (p=p')&&(decide (c=c')&&true)))))))):=by
 simp [eqAt,eqFs,zv3,te_28,te_3,te_4,te_9,tdOf,TD.isStruct]
theorem zyf (k st:Int) (fl:Bool) (x a g:Bs) (p c:Int):PF Tryz.prog 72 [.agg [.i .i64 k,.i .i64 st,.b fl,.s x,.s a,.s g,.i .i64 p,.i .i64 c]] (.b (zlb ⟨k,st,fl,x,a,g,p,c⟩)):=by
 refine ⟨rfl,rfl,FnK.of (cf:=zk Tryz.prog te [(147,qj),(148,zcp)] 98 0 false (fun _=>false) (kp [(0,[1]),(1,[1,3]),(2,[1,3,8]),(3,[2]),(4,[1,3,8,9]),(5,[1,3,8,9]),(6,[1,3,8,9]),(7,[1,3,8,13]),(8,[1,3,8,13]),(9,[1,3]),(10,[1,3,8,19]),(11,[1,3,8,19]),(12,[1,3]),(13,[1,3,34]),(14,[2]),(15,[1,3,8,35]),(16,[1,3]),(17,[1,3,52]),(18,[2]),(19,[1,3,8,53]),(20,[1,3]),(21,[1,3,66]),(22,[2]),(23,[1,3,67]),(24,[1,3]),(25,[1,3,83]),(26,[2]),(27,[2])]) [] [(12,[7,9,11],[1],.q1 0 (.q1 2 (.q1 4 (.q0 1 [1,6,7,8,9,10,11] (.q1 6 (.q1 3 (.q1 5 (.sw (.alt 7 (.q1 8 (.alt 9 (.q1 10 (.alt 11 (.fin) (.fin))) (.fin))) (.fin)))))))))),(16,[9,11,13,15],[1],.q1 0 (.q1 2 (.q1 4 (.q1 6 (.q0 1 [1,8,9,10,11,12,13,14,15] (.q1 8 (.q1 3 (.q1 5 (.q1 7 (.sw (.alt 9 (.q1 10 (.alt 11 (.q1 12 (.alt 13 (.q1 14 (.alt 15 (.fin) (.fin))) (.fin))) (.fin))) (.fin)))))))))))),(24,[5,7],[1],.q1 0 (.q1 2 (.q0 1 [1,4,5,6,7] (.q1 4 (.q1 3 (.sw (.alt 5 (.q1 6 (.alt 7 (.fin) (.fin))) (.fin))))))))]) (zf te_ok (l:=[(147,qj),(148,zcp)]) (⟨w8,zmj,trivial⟩) zd) Tryz.func72 rfl rfl rfl (by simp [zk]) (by simp [zk]) (rs:=[.tmp 2]) rfl 100000 ?_⟩
 simp only [↓XC,XV,XT,Yg,seval,TES,q7,zmk,eqEv,List.contains_cons,beq_iff_eq]
 repeat' (first | with_reducible refine Chk.mk ?_ fun _=>?_ | with_reducible refine And.intro ?_ ?_ | intro _)
 all_goals first
  | (with_reducible refine (?_:zlt _ _ _=true);decide +kernel)
  | (exfalso;omega)
  | (simp_all [zlb,zku];done)
  | (simp_all [zlb,zku];grind)
  | (by_cases ha:a=[]<;>by_cases hg:g=[]<;>simp_all [zlb,zku]<;>grind)
noncomputable def xw:PE:=peR (fun (x:Int×Int×Bool×Bs×Bs×Bs×Int×Int)=>match x with | (k,st,fl,x,a,g,p,c)=>[.agg [.i .i64 k,.i .i64 st,.b fl,.s x,.s a,.s g,.i .i64 p,.i .i64 c]]) (fun (x:Int×Int×Bool×Bs×Bs×Bs×Int×Int)=>match x with | (k,st,fl,x,a,g,p,c)=>True) (fun (x:Int×Int×Bool×Bs×Bs×Bs×Int×Int)=>match x with | (k,st,fl,x,a,g,p,c)=>.b (zlb ⟨k,st,fl,x,a,g,p,c⟩))
theorem xi {k st:Int} {fl:Bool} {x a g:Bs} {p c:Int}:xw [.agg [.i .i64 k,.i .i64 st,.b fl,.s x,.s a,.s g,.i .i64 p,.i .i64 c]]=some (True,.b (zlb ⟨k,st,fl,x,a,g,p,c⟩)):=z6 (by rintro ⟨a0,a1,a2,a3,a4,a5,a6,a7⟩ ⟨b0,b1,b2,b3,b4,b5,b6,b7⟩ h;simp_all []) (k,st,fl,x,a,g,p,c)
theorem zfu:PE1 Tryz.prog 72 xw:=yb (by rintro ⟨k,st,fl,x,a,g,p,c⟩ hp;exact zyf k st fl x a g p c)
end Go.T
end
section
set_option linter.unusedVariables false
set_option linter.unusedSimpArgs false
set_option linter.unusedSectionVars false
set_option linter.unnecessarySimpa false
namespace Go.T
variable [Go.Vg.Glob]
open Go.Proofs Go.Vg Go.RowKit Go.TT Go.Pl
set_option maxRecDepth 10000
set_option maxHeartbeats 4000000
theorem lixb (s:Bs) (c:Int) (hp:s.length≤1048576):PF Tryz.prog 275 [.s s,.i .u8 c] (.i .i64 (lix s c)):=by
 refine ⟨rfl,rfl,FnK.of (cf:=zk Tryz.prog te [] 19 0 false (fun _=>false) (kp [(0,[0,1]),(1,[0,1,5]),(2,[0,1,5,10]),(3,[0,1,5]),(4,[0,1,5,17]),(5,[4]),(6,[4])]) [] []) (zf te_ok (l:=[]) (trivial) zd) Tryz.func275 rfl rfl rfl (by simp [zk]) (by simp [zk]) (rs:=[.tmp 4]) rfl 100000 ?_⟩
 simp only [↓XC,XV,XT,Yg,seval,TES]
 refine Chk.mk (by simp only [inR];omega) fun _=>?_
 refine yv.of (ι:={i:Nat // i≤s.length∧lixU s c i=lix s c}) (fun x=>⟨[(0,.s s),(1,.i .u8 c),(5,.i .i64 ((x.1:Nat)-1))],[]⟩) (fun x=>x.1) ⟨s.length,Nat.le_refl _,rfl⟩ (Ent.refl _ _) ?_
 rintro ⟨i,hi,hj⟩
 simp only [↓XC,XV,XT,Yg,seval,TES]
 refine ⟨fun h=>?_,fun h=>?_⟩
 ·obtain ⟨k,rfl⟩:∃ k,i=k+1:=⟨i-1,by omega⟩
  have e1:(((k+1:Nat):Int)-1).toNat=k:=by omega
  have e2:((k+1:Nat):Int)-1=(k:Nat):=by omega
  rw [e1,e2]
  refine Chk.mk (by omega) fun _=>⟨fun h1=>?_,fun h1=>Chk.mk (by simp only [inR];omega) fun _=>⟨⟨k,by omega, ?_⟩,by simp only;omega,Ent.refl _ _⟩⟩
  ·rw [←hj,lixU,if_pos h1]
  ·rw [←hj];conv=>rhs;rw [lixU,if_neg h1]
 ·obtain rfl:i=0:=by omega
  rw [←hj];rfl
noncomputable def zka:PE:=peR (fun (x:Bs×Int)=>match x with | (s,c)=>[.s s,.i .u8 c]) (fun (x:Bs×Int)=>match x with | (s,c)=>s.length≤1048576) (fun (x:Bs×Int)=>match x with | (s,c)=>.i .i64 (lix s c))
theorem zs0 {s:Bs} {c:Int}:zka [.s s,.i .u8 c]=some (s.length≤1048576,.i .i64 (lix s c)):=z6 (by rintro ⟨a0,a1⟩ ⟨b0,b1⟩ h;simp_all []) (s,c)
theorem zsz:PE1 Tryz.prog 275 zka:=yb (by rintro ⟨s,c⟩ hp;exact lixb s c hp)
theorem lixs (s:Bs) (c:Int) (hp:s.length≤1048576):PF Tryz.prog 247 [.s s,.i .u8 c] (.i .i64 (lix s c)):=by
 refine ⟨rfl,rfl,FnK.of (cf:=zk Tryz.prog te [(275,zka)] 8 0 false (fun _=>false) (kp [(0,[0,1]),(1,[4])]) [] []) (zf te_ok (l:=[(275,zka)]) (⟨zsz,trivial⟩) zd) Tryz.func247 rfl rfl rfl (by simp [zk]) (by simp [zk]) (rs:=[.tmp 4]) rfl 100000 ?_⟩
 simp only [↓XC,XV,XT,Yg,seval,TES,zs0]
 exact Chk.mk hp fun _=>trivial
noncomputable def zdt:PE:=peR (fun (x:Bs×Int)=>match x with | (s,c)=>[.s s,.i .u8 c]) (fun (x:Bs×Int)=>match x with | (s,c)=>s.length≤1048576) (fun (x:Bs×Int)=>match x with | (s,c)=>.i .i64 (lix s c))
theorem zih {s:Bs} {c:Int}:zdt [.s s,.i .u8 c]=some (s.length≤1048576,.i .i64 (lix s c)):=z6 (by rintro ⟨a0,a1⟩ ⟨b0,b1⟩ h;simp_all []) (s,c)
theorem zig:PE1 Tryz.prog 247 zdt:=yb (by rintro ⟨s,c⟩ hp;exact lixs s c hp)
theorem LineAt_i (s:Bs) (p:Int) (hp:s.length≤1048576):PF Tryz.prog 209 [.s s,.i .i64 p] (.i .i64 (la s (spot s p):Nat)):=by
 refine ⟨rfl,rfl,FnK.of (cf:=zk Tryz.prog te [(100,zr),(247,zdt)] 12 0 false (fun _=>false) (kp [(0,[0,1]),(1,[4])]) [] []) (zf te_ok (l:=[(100,zr),(247,zdt)]) (⟨yc,zig,trivial⟩) zd) Tryz.func209 rfl rfl rfl (by simp [zk]) (by simp [zk]) (rs:=[.tmp 4]) rfl 100000 ?_⟩
 simp only [↓XC,XV,XT,Yg,seval,TES,yd,zih]
 have h0:=ql s p
 have h1:=lix_take h0
 have h2:=zo4 s (spot s p)
 rw [h1]
 exact Chk.mk (by omega) fun _=>Chk.mk (by simp only [List.length_take];omega) fun _=>Chk.mk (by simp only [inR];omega) fun _=>rfl
noncomputable def y3:PE:=peR (fun (x:Bs×Int)=>match x with | (s,p)=>[.s s,.i .i64 p]) (fun (x:Bs×Int)=>match x with | (s,p)=>s.length≤1048576) (fun (x:Bs×Int)=>match x with | (s,p)=>.i .i64 (la s (spot s p):Nat))
theorem qm {s:Bs} {p:Int}:y3 [.s s,.i .i64 p]=some (s.length≤1048576,.i .i64 (la s (spot s p):Nat)):=z6 (by rintro ⟨a0,a1⟩ ⟨b0,b1⟩ h;simp_all []) (s,p)
theorem wk:PE1 Tryz.prog 209 y3:=yb (by rintro ⟨s,p⟩ hp;exact LineAt_i s p hp)
theorem MarkAt_i (s:Bs) (p:Int) (hp:s.length≤1048576):PF Tryz.prog 144 [.s s,.i .i64 p] (.i .i64 (mkA s (spot s p))):=by
 refine ⟨rfl,rfl,FnK.of (cf:=zk Tryz.prog te [(100,zr),(209,y3),(108,qa)] 36 0 false (fun _=>false) (kp [(0,[0,1]),(1,[0,1]),(2,[0,1,26]),(3,[4]),(4,[31]),(5,[31,32]),(6,[4]),(7,[34]),(8,[4]),(9,[4])]) [] []) (zf te_ok (l:=[(100,zr),(209,y3),(108,qa)]) (⟨yc,wk,wj,trivial⟩) zd) Tryz.func144 rfl rfl rfl (by simp [zk]) (by simp [zk]) (rs:=[.tmp 4]) rfl 100000 ?_⟩
 simp only [↓XC,XV,XT,Yg,seval,TES,yd,qm,zt]
 have h0:=ql s p
 rw [zq s h0]
 have e0:((spot s p:Nat)+3:Int).toNat=spot s p+3:=by omega
 rw [e0]
 generalize spot s p=q at *
 have hA:(!decide ((la s q:Int)=(q:Int))||decide ((s.length:Int)-(q:Int)<3)||!gap s (q+3))=!decide (la s q=q∧q+3≤s.length∧gap s (q+3)=true):=by
  rw [Bool.eq_iff_iff]
  simp only [Bool.or_eq_true,Bool.not_eq_true',decide_eq_true_eq,decide_eq_false_iff_not]
  cases gap s (q+3)<;>simp<;>omega
 rw [hA]
 refine Chk.mk hp fun _=>Chk.mk (fun _=>by simp only [inR];omega) fun _=>Chk.mk (fun _=>by simp only [inR];omega) fun _=>Chk.mk (fun h=>⟨⟨h,h⟩,hp,by omega⟩) fun _=>⟨fun h=>?_,fun h=>?_⟩
 ·rw [mkA_bad (by intro hx;rw [decide_eq_true hx] at h;cases h)]
 ·have h1:la s q=q∧q+3≤s.length∧gap s (q+3)=true:=by simpa using h
  refine Chk.mk (by simp only [inR];omega) fun _=>Chk.mk (by omega) fun _=>?_
  unfold mkA sub
  rw [if_pos h1]
  refine ⟨fun h2=>by rw [if_pos h2],fun h2=>⟨fun h3=>by rw [if_neg h2,if_pos h3],fun h3=>by rw [if_neg h2,if_neg h3]⟩⟩
noncomputable def yj:PE:=peR (fun (x:Bs×Int)=>match x with | (s,p)=>[.s s,.i .i64 p]) (fun (x:Bs×Int)=>match x with | (s,p)=>s.length≤1048576) (fun (x:Bs×Int)=>match x with | (s,p)=>.i .i64 (mkA s (spot s p)))
theorem ze {s:Bs} {p:Int}:yj [.s s,.i .i64 p]=some (s.length≤1048576,.i .i64 (mkA s (spot s p))):=z6 (by rintro ⟨a0,a1⟩ ⟨b0,b1⟩ h;simp_all []) (s,p)
theorem qd:PE1 Tryz.prog 144 yj:=yb (by rintro ⟨s,p⟩ hp;exact MarkAt_i s p hp)
theorem zuu (s:Bs) (p:Int) (hp:s.length≤1048576∧0≤p∧p≤s.length+1):PF Tryz.prog 237 [.s s,.i .i64 p] (.i .i64 (stc s p.toNat:Nat)):=by
 refine ⟨rfl,rfl,FnK.of (cf:=zk Tryz.prog te [(108,qa),(107,zl),(183,wa)] 19 0 false (fun _=>false) (kp [(0,[0,1]),(1,[0,1,15]),(2,[0,1]),(3,[4])]) [] []) (zf te_ok (l:=[(108,qa),(107,zl),(183,wa)]) (⟨wj,zu,jj,trivial⟩) zd) Tryz.func237 rfl rfl rfl (by simp [zk]) (by simp [zk]) (rs:=[.tmp 4]) rfl 100000 ?_⟩
 simp only [↓XC,XV,XT,Yg,seval,TES,zt,zc,zy]
 refine yv.of (ι:={q:Nat // p.toNat≤q∧q≤s.length+1∧stc s q=stc s p.toNat}) (fun x=>⟨[(0,.s s),(1,.i .i64 (x.1:Nat))],[]⟩) (fun x=>s.length+1-x.1) ⟨p.toNat,Nat.le_refl _,by omega,rfl⟩ (by rw [show ((p.toNat:Nat):Int)=p by omega];exact Ent.refl _ _) ?_
 rintro ⟨q,hq1,hq2,hw⟩
 simp only [↓XC,XV,XT,Yg,seval,TES,zt,zc,zy]
 have hb:byt s (spot s (q:Int))=byt s q:=by rw [jx (by omega)];rfl
 rw [hb]
 refine Chk.mk ⟨hp.1,by omega⟩ fun _=>Chk.mk (fun h=>⟨⟨h,h⟩,hp.1⟩) fun _=>⟨fun h=>Chk.mk (by simp only [inR];omega) fun _=>?_,fun h=>?_⟩
 ·have h1:gap s q=false∧flw (byt s q)=false:=by simpa using h
  have h2:=x8 h1.1
  exact ⟨⟨q+1,by omega,by omega,by rw [←stc_t h1];exact hw⟩,by simp only;omega,(by first | exact Ent.refl _ _ | (simp only [Int.natCast_add,Int.natCast_one];exact Ent.refl _ _))⟩
 ·rw [←hw,stc_f]
  simpa using h
noncomputable def jh:PE:=peR (fun (x:Bs×Int)=>match x with | (s,p)=>[.s s,.i .i64 p]) (fun (x:Bs×Int)=>match x with | (s,p)=>s.length≤1048576∧0≤p∧p≤s.length+1) (fun (x:Bs×Int)=>match x with | (s,p)=>.i .i64 (stc s p.toNat:Nat))
theorem zav {s:Bs} {p:Int}:jh [.s s,.i .i64 p]=some (s.length≤1048576∧0≤p∧p≤s.length+1,.i .i64 (stc s p.toNat:Nat)):=z6 (by rintro ⟨a0,a1⟩ ⟨b0,b1⟩ h;simp_all []) (s,p)
theorem zau:PE1 Tryz.prog 237 jh:=yb (by rintro ⟨s,p⟩ hp;exact zuu s p hp)
theorem NameAt_i (s:Bs) (p:Int) (hp:s.length≤1048576):PF Tryz.prog 190 [.s s,.i .i64 p] (.tup [.s (nmA s (spot s p)).1,.i .i64 (nmA s (spot s p)).2.1,.b (nmA s (spot s p)).2.2]):=by
 refine ⟨rfl,rfl,FnK.of (cf:=zk Tryz.prog te [(100,zr),(107,zl),(237,jh),(147,qj)] 37 0 false (fun _=>false) (kp [(0,[0,1]),(1,[0,1]),(2,[0,1,7]),(3,[0,1,20]),(4,[4,5,6]),(5,[0,1,8]),(6,[0,1,8,30]),(7,[4,5,6]),(8,[4,5,6])]) [] []) (zf te_ok (l:=[(100,zr),(107,zl),(237,jh),(147,qj)]) (⟨yc,zu,zau,w8,trivial⟩) zd) Tryz.func190 rfl rfl rfl (by simp [zk]) (by simp [zk]) (rs:=[.tmp 4,.tmp 5,.tmp 6]) rfl 100000 ?_⟩
 simp only [↓XC,XV,XT,Yg,seval,TES,yd,zc,zav,q7]
 have h0:=ql s p
 rw [zq s h0]
 have e0:((spot s p:Nat)+1:Int).toNat=spot s p+1:=by omega
 rw [e0]
 generalize spot s p=q at *
 have h1:=stc_ge s (q+1)
 refine Chk.mk hp fun _=>⟨fun h=>?_,fun h=>Chk.mk (by simp only [inR];omega) fun _=>Chk.mk ⟨hp,by omega,by omega⟩ fun _=>?_⟩
 ·rw [nmA_f];rintro ⟨h2,_⟩;simp at h;omega
 have hb:byt s q=38∨byt s q=42:=by
  by_cases h3:byt s q=38
  ·exact .inl h3
  ·simp [h3] at h;exact .inr h
 have hq:q<s.length:=by
  rcases Nat.lt_or_ge q s.length with h3 | h3
  ·exact h3
  ·rw [k8 h3] at hb;omega
 have h2:=zlr s (q+1) (by omega)
 refine Chk.mk (by simp only [inR];omega) fun _=>Chk.mk (by simp only [inR];omega) fun _=>⟨fun h3=>?_,fun h3=>Chk.mk (by simp only [inR];omega) fun _=>?_⟩
 ·rw [nmA_f];rintro ⟨_,h4,h5⟩;simp at h3;omega
 ·have h4:q+2≤stc s (q+1)∧stc s (q+1)≤q+61:=by simp at h3;omega
  exact Chk.mk (by omega) fun _=>by rw [nmA_t ⟨hb,h4⟩];rfl
noncomputable def w9:PE:=peR (fun (x:Bs×Int)=>match x with | (s,p)=>[.s s,.i .i64 p]) (fun (x:Bs×Int)=>match x with | (s,p)=>s.length≤1048576) (fun (x:Bs×Int)=>match x with | (s,p)=>.tup [.s (nmA s (spot s p)).1,.i .i64 (nmA s (spot s p)).2.1,.b (nmA s (spot s p)).2.2])
theorem x7 {s:Bs} {p:Int}:w9 [.s s,.i .i64 p]=some (s.length≤1048576,.tup [.s (nmA s (spot s p)).1,.i .i64 (nmA s (spot s p)).2.1,.b (nmA s (spot s p)).2.2]):=z6 (by rintro ⟨a0,a1⟩ ⟨b0,b1⟩ h;simp_all []) (s,p)
theorem xz:PE1 Tryz.prog 190 w9:=yb (by rintro ⟨s,p⟩ hp;exact NameAt_i s p hp)
theorem isQuote (b:Int):PF Tryz.prog 191 [.i .i64 b] (.b (b==39||b==34)):=by
 refine ⟨rfl,rfl,FnK.of (cf:=zk Tryz.prog te [] 9 0 false (fun _=>false) (kp [(0,[0]),(1,[2])]) [] []) (zf te_ok (l:=[]) (trivial) zd) Tryz.func191 rfl rfl rfl (by simp [zk]) (by simp [zk]) (rs:=[.tmp 2]) rfl 100000 ?_⟩
 simp only [↓XC,XV,XT,Yg,seval,TES]
 rfl
noncomputable def qy:PE:=peR (fun (b:Int)=>[.i .i64 b]) (fun (b:Int)=>True) (fun (b:Int)=>.b (b==39||b==34))
theorem ya {b:Int}:qy [.i .i64 b]=some (True,.b (b==39||b==34)):=z6 (by rintro a b h;simp_all []) b
theorem jr:PE1 Tryz.prog 191 qy:=yb (by rintro b hp;exact isQuote b)
theorem zn7 (s:Bs) (p:Int) (fl:Bool) (hp:s.length≤1048576):PF Tryz.prog 101 [.s s,.i .i64 p,.b fl] (.b (pfA s (spot s p) fl)):=by
 refine ⟨rfl,rfl,FnK.of (cf:=zk Tryz.prog te [(100,zr),(107,zl),(108,qa),(182,zeh),(183,wa)] 57 0 false (fun _=>false) (kp [(0,[0,1,2]),(1,[0,1,2]),(2,[0,1,2,7]),(3,[0,1,2,7,30]),(4,[6]),(5,[0,1,2,40]),(6,[6]),(7,[6])]) [] []) (zf te_ok (l:=[(100,zr),(107,zl),(108,qa),(182,zeh),(183,wa)]) (⟨yc,zu,wj,zfq,jj,trivial⟩) zd) Tryz.func101 rfl rfl rfl (by simp [zk]) (by simp [zk]) (rs:=[.tmp 6]) rfl 100000 ?_⟩
 simp only [↓XC,XV,XT,Yg,seval,TES,yd,zc,zt,zfr,zy]
 have h0:=ql s p
 rw [zq s h0]
 have e0:((spot s p:Nat)+1:Int).toNat=spot s p+1:=by omega
 have e1:byt s (spot s ((spot s p:Nat)+1:Int))=byt s (spot s p+1):=by rw [jx (by omega),e0]
 rw [e1,e0]
 generalize spot s p=q at *
 have hr:=za7 s q
 refine Chk.mk hp fun _=>Chk.mk ⟨hp,by omega⟩ fun _=>?_
 have hg:gap s q=true∨gap s q=false:=by cases gap s q<;>simp
 rcases hg with hg | hg
 ·rw [hg,pfA_gap hg]
  simp
 have hq:=x8 hg
 have hL:=pfL_mem (s.getD q 0)
 rw [←kw hq] at hL
 have e2:UInt8.ofNat (byt s q).toNat=s.getD q 0:=by rw [kw hq];simp
 rw [e2,idx_ge,hg]
 simp only [Bool.false_or]
 rw [hL]
 refine Chk.mk (fun _=>by rw [kw hq];have:=(s.getD q 0).toNat_lt;simp only [inR];omega) fun _=>⟨fun h=>?_,fun h=>?_⟩
 ·rw [pfA_no (by simpa using h)]
 have hn:¬s.getD q 0∈pfL:=by simpa using h
 refine ⟨fun hs=>?_,fun hs=>?_⟩
 ·rw [pfA_sign hg hn (by simpa [or_assoc] using hs)]
  exact Chk.mk (by simp only [inR];omega) fun _=>Chk.mk ⟨hp,by omega⟩ fun _=>Chk.mk (fun _=>by simp only [inR];omega) fun _=>Chk.mk (fun h=>⟨⟨h,h⟩,hp⟩) fun _=>rfl
 ·rw [pfA_yes hg hn (by simpa [and_assoc] using hs)]
noncomputable def yn:PE:=peR (fun (x:Bs×Int×Bool)=>match x with | (s,p,fl)=>[.s s,.i .i64 p,.b fl]) (fun (x:Bs×Int×Bool)=>match x with | (s,p,fl)=>s.length≤1048576) (fun (x:Bs×Int×Bool)=>match x with | (s,p,fl)=>.b (pfA s (spot s p) fl))
theorem zn {s:Bs} {p:Int} {fl:Bool}:yn [.s s,.i .i64 p,.b fl]=some (s.length≤1048576,.b (pfA s (spot s p) fl)):=z6 (by rintro ⟨a0,a1,a2⟩ ⟨b0,b1,b2⟩ h;simp_all []) (s,p,fl)
theorem wc:PE1 Tryz.prog 101 yn:=yb (by rintro ⟨s,p,fl⟩ hp;exact zn7 s p fl hp)
theorem ztz (s:Bs) (p:Int) (fl:Bool) (hp:s.length≤1048576):PF Tryz.prog 102 [.s s,.i .i64 p,.b fl] (.i .i64 (plE s (spot s p) fl:Nat)):=by
 refine ⟨rfl,rfl,FnK.of (cf:=zk Tryz.prog te [(100,zr),(107,zl),(184,qz),(108,qa),(183,wa),(185,y4)] 79 0 false (fun _=>false) (kp [(0,[0,1,2]),(1,[0,1,2]),(2,[0,1,2,7]),(3,[0,1,2,7,18]),(4,[0,1,2,7,8]),(5,[0,1,2,7,8,9]),(6,[0,1,2,7,63]),(7,[0,1,2,7]),(8,[0,1,7,75]),(9,[0,1,7]),(10,[6])]) [] []) (zf te_ok (l:=[(100,zr),(107,zl),(184,qz),(108,qa),(183,wa),(185,y4)]) (⟨yc,zu,jt,wj,jj,q8,trivial⟩) zd) Tryz.func102 rfl rfl rfl (by simp [zk]) (by simp [zk]) (rs:=[.tmp 6]) rfl 100000 ?_⟩
 simp only [↓XC,XV,XT,Yg,seval,TES,yd,zc,wv,zt,zy,zw]
 have h0:=ql s p
 refine yv.of (ι:={q:Nat // spot s p≤q∧q≤s.length∧pe1 s (spot s p) fl q=pe1 s (spot s p) fl (spot s p)}) (fun x=>⟨[(0,.s s),(1,.i .i64 (spot s p:Nat)),(2,.b fl),(7,.i .i64 (x.1:Nat))],[]⟩) (fun x=>s.length-x.1) ⟨spot s p,Nat.le_refl _,h0,rfl⟩ (Ent.refl _ _) ?_
 rintro ⟨q,hq1,hq2,hw⟩
 simp only [↓XC,XV,XT,Yg,seval,TES,wv,zc,zw,zt,zy]
 have e0:((q:Nat)+1:Int).toNat=q+1:=by omega
 have e1:byt s (spot s ((q:Nat)+1:Int))=byt s (q+1):=by rw [jx (by omega),e0]
 have e2:spot s ((q:Int)-1)=q-1:=by unfold spot;omega
 have hB:(byt s q==10||decide (byt s q<0))=isB s q:=rfl
 have hX:(decide (byt s q=35)&&decide ((q:Int)>(spot s p:Nat))&&(byt s (q-1)==32||byt s (q-1)==9)||decide (byt s q=58)&&(gap s (q+1)||fl&&flw (byt s (q+1)))||fl&&flw (byt s q))=peX s (spot s p) fl q:=by
  unfold peX isW
  rw [show decide ((q:Int)>((spot s p:Nat):Int))=decide (spot s p<q) from by rw [decide_eq_decide];omega]
 rw [e1,e0,e2,zq s hq2,hB]
 rw [hX]
 refine Chk.mk hp fun _=>⟨fun hb=>?_,fun hb=>?_⟩
 ·have hbf:isB s q=false:=by simpa using hb
  have hl:=zb8 hbf
  refine Chk.mk hp fun _=>Chk.mk (by simp only [inR];omega) fun _=>Chk.mk ⟨hp,by omega⟩ fun _=>Chk.mk (fun _=>by simp only [inR];omega) fun _=>Chk.mk (fun h=>⟨⟨h,h⟩,hp⟩) fun _=>Chk.mk (fun h=>by simp only [inR];omega) fun _=>Chk.mk (fun h=>⟨⟨h,h⟩,hp⟩) fun _=>⟨fun hx=>?_,fun hx=>Chk.mk (by simp only [inR];omega) fun _=>⟨⟨q+1,by omega,by omega,by rw [←pe1_t ⟨hbf,hx⟩];exact hw⟩,by simp only;omega,(by first | exact Ent.refl _ _ | (simp only [Int.natCast_add,Int.natCast_one];exact Ent.refl _ _))⟩⟩
  have hf:¬(isB s q=false∧peX s (spot s p) fl q=false):=by rw [hx];simp
  refine yv.of (ι:={q:Nat // spot s p≤q∧q≤s.length∧bkW s (spot s p) q=plE s (spot s p) fl}) (fun x=>⟨[(0,.s s),(1,.i .i64 (spot s p:Nat)),(7,.i .i64 (x.1:Nat))],[]⟩) (fun x=>x.1) ⟨q,hq1,hq2,by rw [plE,←hw,pe1_f hf]⟩ (by (try simp only [Int.natCast_add,Int.natCast_one]);exact Ent.nil (by simp [zj,Vg.look,SV.mapH])) ?_
  rintro ⟨k,hk1,hk2,hk⟩
  simp only [↓XC,XV,XT,Yg,seval,TES,zw,zc]
  have e4:spot s ((k:Int)-1)=k-1:=by unfold spot;omega
  have hX:(decide ((k:Int)>(spot s p:Nat))&&(byt s (k-1)==32||byt s (k-1)==9))=decide (spot s p<k∧isW s (k-1)=true):=by
   rw [Bool.eq_iff_iff,Bool.and_eq_true,decide_eq_true_eq,decide_eq_true_eq,gt_iff_lt,Int.ofNat_lt]
   rfl
  rw [e4,hX]
  refine Chk.mk (fun h=>by simp only [inR];omega) fun _=>Chk.mk (fun h=>⟨⟨h,h⟩,hp⟩) fun _=>⟨fun h=>?_,fun h=>?_⟩
  ·have h1:=of_decide_eq_true h
   refine Chk.mk (by simp only [inR];omega) fun _=>⟨⟨k-1,by omega,by omega,by rw [←bkW_t h1.1 h1.2];exact hk⟩,by simp only;omega, ?_⟩
   rw [show ((k:Int)-1)=((k-1:Nat):Int) by omega]
   exact Ent.refl _ _
  ·rw [←hk,bkW_f (of_decide_eq_false h)]
 ·have hbt:isB s q=true:=by simpa using hb
  have hf:¬(isB s q=false∧peX s (spot s p) fl q=false):=by rw [hbt];simp
  refine yv.of (ι:={q:Nat // spot s p≤q∧q≤s.length∧bkW s (spot s p) q=plE s (spot s p) fl}) (fun x=>⟨[(0,.s s),(1,.i .i64 (spot s p:Nat)),(7,.i .i64 (x.1:Nat))],[]⟩) (fun x=>x.1) ⟨q,hq1,hq2,by rw [plE,←hw,pe1_f hf]⟩ (by (try simp only [Int.natCast_add,Int.natCast_one]);exact Ent.nil (by simp [zj,Vg.look,SV.mapH])) ?_
  rintro ⟨k,hk1,hk2,hk⟩
  simp only [↓XC,XV,XT,Yg,seval,TES,zw,zc]
  have e4:spot s ((k:Int)-1)=k-1:=by unfold spot;omega
  have hX:(decide ((k:Int)>(spot s p:Nat))&&(byt s (k-1)==32||byt s (k-1)==9))=decide (spot s p<k∧isW s (k-1)=true):=by
   rw [Bool.eq_iff_iff,Bool.and_eq_true,decide_eq_true_eq,decide_eq_true_eq,gt_iff_lt,Int.ofNat_lt]
   rfl
  rw [e4,hX]
  refine Chk.mk (fun h=>by simp only [inR];omega) fun _=>Chk.mk (fun h=>⟨⟨h,h⟩,hp⟩) fun _=>⟨fun h=>?_,fun h=>?_⟩
  ·have h1:=of_decide_eq_true h
   refine Chk.mk (by simp only [inR];omega) fun _=>⟨⟨k-1,by omega,by omega,by rw [←bkW_t h1.1 h1.2];exact hk⟩,by simp only;omega, ?_⟩
   rw [show ((k:Int)-1)=((k-1:Nat):Int) by omega]
   exact Ent.refl _ _
  ·rw [←hk,bkW_f (of_decide_eq_false h)]
noncomputable def wd:PE:=peR (fun (x:Bs×Int×Bool)=>match x with | (s,p,fl)=>[.s s,.i .i64 p,.b fl]) (fun (x:Bs×Int×Bool)=>match x with | (s,p,fl)=>s.length≤1048576) (fun (x:Bs×Int×Bool)=>match x with | (s,p,fl)=>.i .i64 (plE s (spot s p) fl:Nat))
theorem q6 {s:Bs} {p:Int} {fl:Bool}:wd [.s s,.i .i64 p,.b fl]=some (s.length≤1048576,.i .i64 (plE s (spot s p) fl:Nat)):=z6 (by rintro ⟨a0,a1,a2⟩ ⟨b0,b1,b2⟩ h;simp_all []) (s,p,fl)
theorem vg:PE1 Tryz.prog 102 wd:=yb (by rintro ⟨s,p,fl⟩ hp;exact ztz s p fl hp)
end Go.T
end
