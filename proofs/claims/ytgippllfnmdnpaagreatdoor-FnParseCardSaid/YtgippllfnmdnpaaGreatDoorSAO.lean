/- Own text: part SAO. -/
import Derived.Test.YtgippllfnmdnpaaGreatDoorSAX
import Derived.Test.YtgippllfnmdnpaaGreatDoorSAM
import Derived.Test.YtgippllfnmdnpaaGreatDoorSAN
set_option linter.unusedVariables false
set_option linter.unusedSimpArgs false
set_option linter.unusedSectionVars false
set_option linter.unnecessarySimpa false
namespace Go.T
variable [Go.Vg.Glob]
open Go.Proofs Go.Vg Go.RowKit Go.TT Go.Pl
set_option maxRecDepth 10000
set_option maxHeartbeats 4000000
theorem zyi:PE1 Tryz.prog 264 zyl:=pe_ix_ok (ext_idx Tryz.func264 rfl rfl (by kernel_rfl) (by kernel_rfl))
noncomputable def zyk:=zyl
theorem zyj {s:List UInt8} {c:Int}:zyk [.s s,.i .u8 c]=some (True,.i .i64 (Pl.idx s (UInt8.ofNat c.toNat))):=pe_ix_eq
theorem ixl (s:List UInt8) (c:Int):PF Tryz.prog 230 [.s s,.i .u8 c] (.i .i64 (Pl.idx s (UInt8.ofNat c.toNat))):=by
 refine ⟨rfl,rfl,FnK.of (cf:=zk Tryz.prog te [(264,zyk)] 8 0 false (fun _=>false) (kp [(0,[0,1]),(1,[4])]) [] []) (zf te_ok (l:=[(264,zyk)]) (⟨zyi,trivial⟩) zc) Tryz.func230 rfl rfl rfl (by simp [zk]) (by simp [zk]) (rs:=[.tmp 4]) rfl 100000 ?_⟩
 simp only [↓XC,XV,XT,Yg,reduceIte,Nat.reduceAdd,Nat.reduceLT,Nat.reduceEqDiff,Nat.reduceBEq,Nat.reduceLeDiff,reduceCtorEq,Nat.reduceSub,Nat.reduceMul,Int.reduceToNat,Int.reduceLT,Int.reduceLE,TES,zyj]
noncomputable def ztf:PE:=peR (fun (x:List UInt8×Int)=>match x with | (s,c)=>[.s s,.i .u8 c]) (fun (x:List UInt8×Int)=>match x with | (s,c)=>True) (fun (x:List UInt8×Int)=>match x with | (s,c)=>.i .i64 (Pl.idx s (UInt8.ofNat c.toNat)))
theorem zyh {s:List UInt8} {c:Int}:ztf [.s s,.i .u8 c]=some (True,.i .i64 (Pl.idx s (UInt8.ofNat c.toNat))):=yb (by rintro ⟨a0,a1⟩ ⟨b0,b1⟩ h;simp_all []) (s,c)
theorem zyg:PE1 Tryz.prog 230 ztf:=yf (by rintro ⟨s,c⟩ hp;exact ixl s c)
theorem ixs (s:List UInt8) (c:Int):PF Tryz.prog 182 [.s s,.i .u8 c] (.i .i64 (Pl.idx s (UInt8.ofNat c.toNat))):=by
 refine ⟨rfl,rfl,FnK.of (cf:=zk Tryz.prog te [(230,ztf)] 8 0 false (fun _=>false) (kp [(0,[0,1]),(1,[4])]) [] []) (zf te_ok (l:=[(230,ztf)]) (⟨zyg,trivial⟩) zc) Tryz.func182 rfl rfl rfl (by simp [zk]) (by simp [zk]) (rs:=[.tmp 4]) rfl 100000 ?_⟩
 simp only [↓XC,XV,XT,Yg,reduceIte,Nat.reduceAdd,Nat.reduceLT,Nat.reduceEqDiff,Nat.reduceBEq,Nat.reduceLeDiff,reduceCtorEq,Nat.reduceSub,Nat.reduceMul,Int.reduceToNat,Int.reduceLT,Int.reduceLE,TES,zyh]
noncomputable def zfy:PE:=peR (fun (x:List UInt8×Int)=>match x with | (s,c)=>[.s s,.i .u8 c]) (fun (x:List UInt8×Int)=>match x with | (s,c)=>True) (fun (x:List UInt8×Int)=>match x with | (s,c)=>.i .i64 (Pl.idx s (UInt8.ofNat c.toNat)))
theorem zhg {s:List UInt8} {c:Int}:zfy [.s s,.i .u8 c]=some (True,.i .i64 (Pl.idx s (UInt8.ofNat c.toNat))):=yb (by rintro ⟨a0,a1⟩ ⟨b0,b1⟩ h;simp_all []) (s,c)
theorem zhf:PE1 Tryz.prog 182 zfy:=yf (by rintro ⟨s,c⟩ hp;exact ixs s c)
theorem zsj (x lo hi:Int):PF Tryz.prog 147 [.i .i64 x,.i .i64 lo,.i .i64 hi] (.b (decide (lo≤x)&&decide (x≤hi))):=by
 refine ⟨rfl,rfl,FnK.of (cf:=zk Tryz.prog te [] 15 0 false (fun _=>false) (kp [(0,[0,1,2]),(1,[6])]) [] []) (zf te_ok (l:=[]) (trivial) zc) Tryz.func147 rfl rfl rfl (by simp [zk]) (by simp [zk]) (rs:=[.tmp 6]) rfl 100000 ?_⟩
 simp only [↓XC,XV,XT,Yg,reduceIte,Nat.reduceAdd,Nat.reduceLT,Nat.reduceEqDiff,Nat.reduceBEq,Nat.reduceLeDiff,reduceCtorEq,Nat.reduceSub,Nat.reduceMul,Int.reduceToNat,Int.reduceLT,Int.reduceLE,TES]
noncomputable def qq:PE:=peR (fun (x:Int×Int×Int)=>match x with | (x,lo,hi)=>[.i .i64 x,.i .i64 lo,.i .i64 hi]) (fun (x:Int×Int×Int)=>match x with | (x,lo,hi)=>True) (fun (x:Int×Int×Int)=>match x with | (x,lo,hi)=>.b (decide (lo≤x)&&decide (x≤hi)))
theorem wc {x lo hi:Int}:qq [.i .i64 x,.i .i64 lo,.i .i64 hi]=some (True,.b (decide (lo≤x)&&decide (x≤hi))):=yb (by rintro ⟨a0,a1,a2⟩ ⟨b0,b1,b2⟩ h;simp_all []) (x,lo,hi)
theorem ka:PE1 Tryz.prog 147 qq:=yf (by rintro ⟨x,lo,hi⟩ hp;exact zsj x lo hi)
theorem spot_i (s:Bs) (p:Int):PF Tryz.prog 100 [.s s,.i .i64 p] (.i .i64 (spot s p:Nat)):=by
 refine ⟨rfl,rfl,FnK.of (cf:=zk Tryz.prog te [] 10 0 false (fun _=>false) (kp [(0,[0,1]),(1,[4])]) [] []) (zf te_ok (l:=[]) (trivial) zc) Tryz.func100 rfl rfl rfl (by simp [zk]) (by simp [zk]) (rs:=[.tmp 4]) rfl 100000 ?_⟩
 simp only [↓XC,XV,XT,Yg,reduceIte,Nat.reduceAdd,Nat.reduceLT,Nat.reduceEqDiff,Nat.reduceBEq,Nat.reduceLeDiff,reduceCtorEq,Nat.reduceSub,Nat.reduceMul,Int.reduceToNat,Int.reduceLT,Int.reduceLE,TES]
 simp only [SV.i.injEq,true_and]
 unfold spot
 repeat' split
 all_goals omega
noncomputable def zw:PE:=peR (fun (x:Bs×Int)=>match x with | (s,p)=>[.s s,.i .i64 p]) (fun (x:Bs×Int)=>match x with | (s,p)=>True) (fun (x:Bs×Int)=>match x with | (s,p)=>.i .i64 (spot s p:Nat))
theorem ym {s:Bs} {p:Int}:zw [.s s,.i .i64 p]=some (True,.i .i64 (spot s p:Nat)):=yb (by rintro ⟨a0,a1⟩ ⟨b0,b1⟩ h;simp_all []) (s,p)
theorem yl:PE1 Tryz.prog 100 zw:=yf (by rintro ⟨s,p⟩ hp;exact spot_i s p)
theorem byteAt (s:Bs) (p:Int) (hp:s.length≤1048576):PF Tryz.prog 107 [.s s,.i .i64 p] (.i .i64 (byt s (spot s p))):=by
 refine ⟨rfl,rfl,FnK.of (cf:=zk Tryz.prog te [(100,zw)] 16 0 false (fun _=>false) (kp [(0,[0,1]),(1,[0,1]),(2,[0,1,11]),(3,[4]),(4,[4])]) [] []) (zf te_ok (l:=[(100,zw)]) (⟨yl,trivial⟩) zc) Tryz.func107 rfl rfl rfl (by simp [zk]) (by simp [zk]) (rs:=[.tmp 4]) rfl 100000 ?_⟩
 simp only [↓XC,XV,XT,Yg,reduceIte,Nat.reduceAdd,Nat.reduceLT,Nat.reduceEqDiff,Nat.reduceBEq,Nat.reduceLeDiff,reduceCtorEq,Nat.reduceSub,Nat.reduceMul,Int.reduceToNat,Int.reduceLT,Int.reduceLE,TES,ym]
 have h1:=wb s p
 have h2:=(s.getD (spot s p) 0).toNat_lt
 exact ⟨fun h=>by rw [jn (by omega)],fun h=>Chk.mk (by omega) fun _=>Chk.mk (by simp only [inR];omega) fun _=>by rw [kv (by omega)]⟩
noncomputable def zm:PE:=peR (fun (x:Bs×Int)=>match x with | (s,p)=>[.s s,.i .i64 p]) (fun (x:Bs×Int)=>match x with | (s,p)=>s.length≤1048576) (fun (x:Bs×Int)=>match x with | (s,p)=>.i .i64 (byt s (spot s p)))
theorem zd {s:Bs} {p:Int}:zm [.s s,.i .i64 p]=some (s.length≤1048576,.i .i64 (byt s (spot s p))):=yb (by rintro ⟨a0,a1⟩ ⟨b0,b1⟩ h;simp_all []) (s,p)
theorem z6:PE1 Tryz.prog 107 zm:=yf (by rintro ⟨s,p⟩ hp;exact byteAt s p hp)
theorem isWhite (b:Int):PF Tryz.prog 185 [.i .i64 b] (.b (b==32||b==9)):=by
 refine ⟨rfl,rfl,FnK.of (cf:=zk Tryz.prog te [] 9 0 false (fun _=>false) (kp [(0,[0]),(1,[2])]) [] []) (zf te_ok (l:=[]) (trivial) zc) Tryz.func185 rfl rfl rfl (by simp [zk]) (by simp [zk]) (rs:=[.tmp 2]) rfl 100000 ?_⟩
 simp only [↓XC,XV,XT,Yg,reduceIte,Nat.reduceAdd,Nat.reduceLT,Nat.reduceEqDiff,Nat.reduceBEq,Nat.reduceLeDiff,reduceCtorEq,Nat.reduceSub,Nat.reduceMul,Int.reduceToNat,Int.reduceLT,Int.reduceLE,TES]
 rfl
noncomputable def qe:PE:=peR (fun (b:Int)=>[.i .i64 b]) (fun (b:Int)=>True) (fun (b:Int)=>.b (b==32||b==9))
theorem z7 {b:Int}:qe [.i .i64 b]=some (True,.b (b==32||b==9)):=yb (by rintro a b h;simp_all []) b
theorem wt:PE1 Tryz.prog 185 qe:=yf (by rintro b hp;exact isWhite b)
theorem isBreak (b:Int):PF Tryz.prog 184 [.i .i64 b] (.b (b==10||decide (b<0))):=by
 refine ⟨rfl,rfl,FnK.of (cf:=zk Tryz.prog te [] 9 0 false (fun _=>false) (kp [(0,[0]),(1,[2])]) [] []) (zf te_ok (l:=[]) (trivial) zc) Tryz.func184 rfl rfl rfl (by simp [zk]) (by simp [zk]) (rs:=[.tmp 2]) rfl 100000 ?_⟩
 simp only [↓XC,XV,XT,Yg,reduceIte,Nat.reduceAdd,Nat.reduceLT,Nat.reduceEqDiff,Nat.reduceBEq,Nat.reduceLeDiff,reduceCtorEq,Nat.reduceSub,Nat.reduceMul,Int.reduceToNat,Int.reduceLT,Int.reduceLE,TES]
 rfl
noncomputable def wo:PE:=peR (fun (b:Int)=>[.i .i64 b]) (fun (b:Int)=>True) (fun (b:Int)=>.b (b==10||decide (b<0)))
theorem ki {b:Int}:wo [.i .i64 b]=some (True,.b (b==10||decide (b<0))):=yb (by rintro a b h;simp_all []) b
theorem j7:PE1 Tryz.prog 184 wo:=yf (by rintro b hp;exact isBreak b)
theorem gapAt (s:Bs) (p:Int) (hp:s.length≤1048576∧0≤p):PF Tryz.prog 108 [.s s,.i .i64 p] (.b (gap s p.toNat)):=by
 refine ⟨rfl,rfl,FnK.of (cf:=zk Tryz.prog te [(107,zm),(185,qe),(184,wo)] 15 0 false (fun _=>false) (kp [(0,[0,1]),(1,[5]),(2,[4])]) [] []) (zf te_ok (l:=[(107,zm),(185,qe),(184,wo)]) (⟨z6,wt,j7,trivial⟩) zc) Tryz.func108 rfl rfl rfl (by simp [zk]) (by simp [zk]) (rs:=[.tmp 4]) rfl 100000 ?_⟩
 simp only [↓XC,XV,XT,Yg,reduceIte,Nat.reduceAdd,Nat.reduceLT,Nat.reduceEqDiff,Nat.reduceBEq,Nat.reduceLeDiff,reduceCtorEq,Nat.reduceSub,Nat.reduceMul,Int.reduceToNat,Int.reduceLT,Int.reduceLE,TES,zd,z7,ki]
 exact Chk.mk hp.1 fun _=>by simp only [gap,isW,isB,va hp.2]
noncomputable def qm:PE:=peR (fun (x:Bs×Int)=>match x with | (s,p)=>[.s s,.i .i64 p]) (fun (x:Bs×Int)=>match x with | (s,p)=>s.length≤1048576∧0≤p) (fun (x:Bs×Int)=>match x with | (s,p)=>.b (gap s p.toNat))
theorem zz {s:Bs} {p:Int}:qm [.s s,.i .i64 p]=some (s.length≤1048576∧0≤p,.b (gap s p.toNat)):=yb (by rintro ⟨a0,a1⟩ ⟨b0,b1⟩ h;simp_all []) (s,p)
theorem w5:PE1 Tryz.prog 108 qm:=yf (by rintro ⟨s,p⟩ hp;exact gapAt s p hp)
theorem White_i (s:Bs) (p:Int) (hp:s.length≤1048576):PF Tryz.prog 106 [.s s,.i .i64 p] (.i .i64 (wh s (spot s p):Nat)):=by
 refine ⟨rfl,rfl,FnK.of (cf:=zk Tryz.prog te [(100,zw),(107,zm),(185,qe)] 15 0 false (fun _=>false) (kp [(0,[0,1]),(1,[0,1]),(2,[0,1,11]),(3,[0,1]),(4,[4])]) [] []) (zf te_ok (l:=[(100,zw),(107,zm),(185,qe)]) (⟨yl,z6,wt,trivial⟩) zc) Tryz.func106 rfl rfl rfl (by simp [zk]) (by simp [zk]) (rs:=[.tmp 4]) rfl 100000 ?_⟩
 simp only [↓XC,XV,XT,Yg,reduceIte,Nat.reduceAdd,Nat.reduceLT,Nat.reduceEqDiff,Nat.reduceBEq,Nat.reduceLeDiff,reduceCtorEq,Nat.reduceSub,Nat.reduceMul,Int.reduceToNat,Int.reduceLT,Int.reduceLE,TES,ym,zd,z7]
 refine yq.of (ι:={q:Nat // q≤s.length∧wh s q=wh s (spot s p)}) (fun x=>⟨[(0,.s s),(1,.i .i64 (x.1:Nat))],[]⟩) (fun x=>s.length-x.1) ⟨spot s p,wb s p,rfl⟩ (Ent.refl _ _) ?_
 rintro ⟨q,hq,hw⟩
 simp only [↓XC,XV,XT,Yg,reduceIte,Nat.reduceAdd,Nat.reduceLT,Nat.reduceEqDiff,Nat.reduceBEq,Nat.reduceLeDiff,reduceCtorEq,Nat.reduceSub,Nat.reduceMul,Int.reduceToNat,Int.reduceLT,Int.reduceLE,TES,z7,zd]
 refine Chk.mk hp fun _=>⟨fun h=>Chk.mk (by simp only [inR];omega) fun _=>?_,fun h=>?_⟩
 ·rw [zu s hq] at h;have hl:=zt4 h
  exact ⟨⟨q+1,by omega,by rw [←wh_t h];exact hw⟩,by simp only;omega,(by first | exact Ent.refl _ _ | (simp only [Int.natCast_add,Int.natCast_one];exact Ent.refl _ _))⟩
 ·rw [zu s hq] at h;rw [←hw,wh_f h]
noncomputable def yo:PE:=peR (fun (x:Bs×Int)=>match x with | (s,p)=>[.s s,.i .i64 p]) (fun (x:Bs×Int)=>match x with | (s,p)=>s.length≤1048576) (fun (x:Bs×Int)=>match x with | (s,p)=>.i .i64 (wh s (spot s p):Nat))
theorem yd {s:Bs} {p:Int}:yo [.s s,.i .i64 p]=some (s.length≤1048576,.i .i64 (wh s (spot s p):Nat)):=yb (by rintro ⟨a0,a1⟩ ⟨b0,b1⟩ h;simp_all []) (s,p)
theorem qi:PE1 Tryz.prog 106 yo:=yf (by rintro ⟨s,p⟩ hp;exact White_i s p hp)
theorem EndAt_i (s:Bs) (p:Int) (hp:s.length≤1048576):PF Tryz.prog 187 [.s s,.i .i64 p] (.i .i64 (en s (spot s p):Nat)):=by
 refine ⟨rfl,rfl,FnK.of (cf:=zk Tryz.prog te [(100,zw),(182,zfy)] 20 0 false (fun _=>false) (kp [(0,[0,1]),(1,[0,1]),(2,[0,1,5]),(3,[0,1,5,14]),(4,[4]),(5,[4])]) [] []) (zf te_ok (l:=[(100,zw),(182,zfy)]) (⟨yl,zhf,trivial⟩) zc) Tryz.func187 rfl rfl rfl (by simp [zk]) (by simp [zk]) (rs:=[.tmp 4]) rfl 100000 ?_⟩
 simp only [↓XC,XV,XT,Yg,reduceIte,Nat.reduceAdd,Nat.reduceLT,Nat.reduceEqDiff,Nat.reduceBEq,Nat.reduceLeDiff,reduceCtorEq,Nat.reduceSub,Nat.reduceMul,Int.reduceToNat,Int.reduceLT,Int.reduceLE,TES,ym,zhg]
 have h1:=wb s p
 have h2:=idx_en s (spot s p) h1
 have h3:=zb3 s _ h1
 refine Chk.mk (by omega) fun _=>⟨fun h=>?_,fun h=>?_⟩
 ·rw [show UInt8.ofNat 10=10 from rfl] at h;rw [if_pos h] at h2;rw [h2]
 ·rw [show UInt8.ofNat 10=10 from rfl] at h ⊢;rw [if_neg h] at h2;rw [h2];exact Chk.mk (by simp only [inR];omega) fun _=>rfl
noncomputable def q7:PE:=peR (fun (x:Bs×Int)=>match x with | (s,p)=>[.s s,.i .i64 p]) (fun (x:Bs×Int)=>match x with | (s,p)=>s.length≤1048576) (fun (x:Bs×Int)=>match x with | (s,p)=>.i .i64 (en s (spot s p):Nat))
theorem qg {s:Bs} {p:Int}:q7 [.s s,.i .i64 p]=some (s.length≤1048576,.i .i64 (en s (spot s p):Nat)):=yb (by rintro ⟨a0,a1⟩ ⟨b0,b1⟩ h;simp_all []) (s,p)
theorem jg:PE1 Tryz.prog 187 q7:=yf (by rintro ⟨s,p⟩ hp;exact EndAt_i s p hp)
end Go.T
