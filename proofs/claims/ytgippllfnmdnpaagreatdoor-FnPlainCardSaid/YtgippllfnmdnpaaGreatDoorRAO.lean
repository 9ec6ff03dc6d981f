/- Own text: part RAO. -/
import Derived.Test.YtgippllfnmdnpaaGreatDoorRBH
import Derived.Test.YtgippllfnmdnpaaGreatDoorRAM
import Derived.Test.YtgippllfnmdnpaaGreatDoorRAN
set_option linter.unusedVariables false
set_option linter.unusedSimpArgs false
set_option linter.unusedSectionVars false
set_option linter.unnecessarySimpa false
namespace Go.T
variable [Go.Vg.Glob]
open Go.Proofs Go.Vg Go.RowKit Go.TT Go.Pl
set_option maxRecDepth 10000
set_option maxHeartbeats 4000000
theorem zvt:PE1 Tryz.prog 264 zvw:=pe_ix_ok (ext_idx Tryz.func264 rfl rfl (by kernel_rfl) (by kernel_rfl))
noncomputable def zvv:=zvw
theorem zvu {s:List UInt8} {c:Int}:zvv [.s s,.i .u8 c]=some (True,.i .i64 (Pl.idx s (UInt8.ofNat c.toNat))):=pe_ix_eq
theorem ixl (s:List UInt8) (c:Int):PF Tryz.prog 230 [.s s,.i .u8 c] (.i .i64 (Pl.idx s (UInt8.ofNat c.toNat))):=by
 refine ⟨rfl,rfl,FnK.of (cf:=zk Tryz.prog te [(264,zvv)] 8 0 false (fun _=>false) (kp [(0,[0,1]),(1,[4])]) [] []) (zf te_ok (l:=[(264,zvv)]) (⟨zvt,trivial⟩) zd) Tryz.func230 rfl rfl rfl (by simp [zk]) (by simp [zk]) (rs:=[.tmp 4]) rfl 100000 ?_⟩
 simp only [↓XC,XV,XT,Yg,reduceIte,Nat.reduceAdd,Nat.reduceLT,Nat.reduceEqDiff,Nat.reduceBEq,Nat.reduceLeDiff,reduceCtorEq,Nat.reduceSub,Nat.reduceMul,Int.reduceToNat,Int.reduceLT,Int.reduceLE,TES,zvu]
noncomputable def zqw:PE:=peR (fun (x:List UInt8×Int)=>match x with | (s,c)=>[.s s,.i .u8 c]) (fun (x:List UInt8×Int)=>match x with | (s,c)=>True) (fun (x:List UInt8×Int)=>match x with | (s,c)=>.i .i64 (Pl.idx s (UInt8.ofNat c.toNat)))
theorem zvs {s:List UInt8} {c:Int}:zqw [.s s,.i .u8 c]=some (True,.i .i64 (Pl.idx s (UInt8.ofNat c.toNat))):=z6 (by rintro ⟨a0,a1⟩ ⟨b0,b1⟩ h;simp_all []) (s,c)
theorem zvr:PE1 Tryz.prog 230 zqw:=yb (by rintro ⟨s,c⟩ hp;exact ixl s c)
theorem ixs (s:List UInt8) (c:Int):PF Tryz.prog 182 [.s s,.i .u8 c] (.i .i64 (Pl.idx s (UInt8.ofNat c.toNat))):=by
 refine ⟨rfl,rfl,FnK.of (cf:=zk Tryz.prog te [(230,zqw)] 8 0 false (fun _=>false) (kp [(0,[0,1]),(1,[4])]) [] []) (zf te_ok (l:=[(230,zqw)]) (⟨zvr,trivial⟩) zd) Tryz.func182 rfl rfl rfl (by simp [zk]) (by simp [zk]) (rs:=[.tmp 4]) rfl 100000 ?_⟩
 simp only [↓XC,XV,XT,Yg,reduceIte,Nat.reduceAdd,Nat.reduceLT,Nat.reduceEqDiff,Nat.reduceBEq,Nat.reduceLeDiff,reduceCtorEq,Nat.reduceSub,Nat.reduceMul,Int.reduceToNat,Int.reduceLT,Int.reduceLE,TES,zvs]
noncomputable def zeh:PE:=peR (fun (x:List UInt8×Int)=>match x with | (s,c)=>[.s s,.i .u8 c]) (fun (x:List UInt8×Int)=>match x with | (s,c)=>True) (fun (x:List UInt8×Int)=>match x with | (s,c)=>.i .i64 (Pl.idx s (UInt8.ofNat c.toNat)))
theorem zfr {s:List UInt8} {c:Int}:zeh [.s s,.i .u8 c]=some (True,.i .i64 (Pl.idx s (UInt8.ofNat c.toNat))):=z6 (by rintro ⟨a0,a1⟩ ⟨b0,b1⟩ h;simp_all []) (s,c)
theorem zfq:PE1 Tryz.prog 182 zeh:=yb (by rintro ⟨s,c⟩ hp;exact ixs s c)
theorem zp5 (x lo hi:Int):PF Tryz.prog 147 [.i .i64 x,.i .i64 lo,.i .i64 hi] (.b (decide (lo≤x)&&decide (x≤hi))):=by
 refine ⟨rfl,rfl,FnK.of (cf:=zk Tryz.prog te [] 15 0 false (fun _=>false) (kp [(0,[0,1,2]),(1,[6])]) [] []) (zf te_ok (l:=[]) (trivial) zd) Tryz.func147 rfl rfl rfl (by simp [zk]) (by simp [zk]) (rs:=[.tmp 6]) rfl 100000 ?_⟩
 simp only [↓XC,XV,XT,Yg,reduceIte,Nat.reduceAdd,Nat.reduceLT,Nat.reduceEqDiff,Nat.reduceBEq,Nat.reduceLeDiff,reduceCtorEq,Nat.reduceSub,Nat.reduceMul,Int.reduceToNat,Int.reduceLT,Int.reduceLE,TES]
noncomputable def qj:PE:=peR (fun (x:Int×Int×Int)=>match x with | (x,lo,hi)=>[.i .i64 x,.i .i64 lo,.i .i64 hi]) (fun (x:Int×Int×Int)=>match x with | (x,lo,hi)=>True) (fun (x:Int×Int×Int)=>match x with | (x,lo,hi)=>.b (decide (lo≤x)&&decide (x≤hi)))
theorem q7 {x lo hi:Int}:qj [.i .i64 x,.i .i64 lo,.i .i64 hi]=some (True,.b (decide (lo≤x)&&decide (x≤hi))):=z6 (by rintro ⟨a0,a1,a2⟩ ⟨b0,b1,b2⟩ h;simp_all []) (x,lo,hi)
theorem w8:PE1 Tryz.prog 147 qj:=yb (by rintro ⟨x,lo,hi⟩ hp;exact zp5 x lo hi)
theorem spot_i (s:Bs) (p:Int):PF Tryz.prog 100 [.s s,.i .i64 p] (.i .i64 (spot s p:Nat)):=by
 refine ⟨rfl,rfl,FnK.of (cf:=zk Tryz.prog te [] 10 0 false (fun _=>false) (kp [(0,[0,1]),(1,[4])]) [] []) (zf te_ok (l:=[]) (trivial) zd) Tryz.func100 rfl rfl rfl (by simp [zk]) (by simp [zk]) (rs:=[.tmp 4]) rfl 100000 ?_⟩
 simp only [↓XC,XV,XT,Yg,reduceIte,Nat.reduceAdd,Nat.reduceLT,Nat.reduceEqDiff,Nat.reduceBEq,Nat.reduceLeDiff,reduceCtorEq,Nat.reduceSub,Nat.reduceMul,Int.reduceToNat,Int.reduceLT,Int.reduceLE,TES]
 simp only [SV.i.injEq,true_and]
 unfold spot
 repeat' split
 all_goals omega
noncomputable def zr:PE:=peR (fun (x:Bs×Int)=>match x with | (s,p)=>[.s s,.i .i64 p]) (fun (x:Bs×Int)=>match x with | (s,p)=>True) (fun (x:Bs×Int)=>match x with | (s,p)=>.i .i64 (spot s p:Nat))
theorem yd {s:Bs} {p:Int}:zr [.s s,.i .i64 p]=some (True,.i .i64 (spot s p:Nat)):=z6 (by rintro ⟨a0,a1⟩ ⟨b0,b1⟩ h;simp_all []) (s,p)
theorem yc:PE1 Tryz.prog 100 zr:=yb (by rintro ⟨s,p⟩ hp;exact spot_i s p)
theorem byteAt (s:Bs) (p:Int) (hp:s.length≤1048576):PF Tryz.prog 107 [.s s,.i .i64 p] (.i .i64 (byt s (spot s p))):=by
 refine ⟨rfl,rfl,FnK.of (cf:=zk Tryz.prog te [(100,zr)] 16 0 false (fun _=>false) (kp [(0,[0,1]),(1,[0,1]),(2,[0,1,11]),(3,[4]),(4,[4])]) [] []) (zf te_ok (l:=[(100,zr)]) (⟨yc,trivial⟩) zd) Tryz.func107 rfl rfl rfl (by simp [zk]) (by simp [zk]) (rs:=[.tmp 4]) rfl 100000 ?_⟩
 simp only [↓XC,XV,XT,Yg,reduceIte,Nat.reduceAdd,Nat.reduceLT,Nat.reduceEqDiff,Nat.reduceBEq,Nat.reduceLeDiff,reduceCtorEq,Nat.reduceSub,Nat.reduceMul,Int.reduceToNat,Int.reduceLT,Int.reduceLE,TES,yd]
 have h1:=ql s p
 have h2:=(s.getD (spot s p) 0).toNat_lt
 exact ⟨fun h=>by rw [k8 (by omega)],fun h=>Chk.mk (by omega) fun _=>Chk.mk (by simp only [inR];omega) fun _=>by rw [kw (by omega)]⟩
noncomputable def zl:PE:=peR (fun (x:Bs×Int)=>match x with | (s,p)=>[.s s,.i .i64 p]) (fun (x:Bs×Int)=>match x with | (s,p)=>s.length≤1048576) (fun (x:Bs×Int)=>match x with | (s,p)=>.i .i64 (byt s (spot s p)))
theorem zc {s:Bs} {p:Int}:zl [.s s,.i .i64 p]=some (s.length≤1048576,.i .i64 (byt s (spot s p))):=z6 (by rintro ⟨a0,a1⟩ ⟨b0,b1⟩ h;simp_all []) (s,p)
theorem zu:PE1 Tryz.prog 107 zl:=yb (by rintro ⟨s,p⟩ hp;exact byteAt s p hp)
theorem isWhite (b:Int):PF Tryz.prog 185 [.i .i64 b] (.b (b==32||b==9)):=by
 refine ⟨rfl,rfl,FnK.of (cf:=zk Tryz.prog te [] 9 0 false (fun _=>false) (kp [(0,[0]),(1,[2])]) [] []) (zf te_ok (l:=[]) (trivial) zd) Tryz.func185 rfl rfl rfl (by simp [zk]) (by simp [zk]) (rs:=[.tmp 2]) rfl 100000 ?_⟩
 simp only [↓XC,XV,XT,Yg,reduceIte,Nat.reduceAdd,Nat.reduceLT,Nat.reduceEqDiff,Nat.reduceBEq,Nat.reduceLeDiff,reduceCtorEq,Nat.reduceSub,Nat.reduceMul,Int.reduceToNat,Int.reduceLT,Int.reduceLE,TES]
 rfl
noncomputable def y4:PE:=peR (fun (b:Int)=>[.i .i64 b]) (fun (b:Int)=>True) (fun (b:Int)=>.b (b==32||b==9))
theorem zw {b:Int}:y4 [.i .i64 b]=some (True,.b (b==32||b==9)):=z6 (by rintro a b h;simp_all []) b
theorem q8:PE1 Tryz.prog 185 y4:=yb (by rintro b hp;exact isWhite b)
theorem isBreak (b:Int):PF Tryz.prog 184 [.i .i64 b] (.b (b==10||decide (b<0))):=by
 refine ⟨rfl,rfl,FnK.of (cf:=zk Tryz.prog te [] 9 0 false (fun _=>false) (kp [(0,[0]),(1,[2])]) [] []) (zf te_ok (l:=[]) (trivial) zd) Tryz.func184 rfl rfl rfl (by simp [zk]) (by simp [zk]) (rs:=[.tmp 2]) rfl 100000 ?_⟩
 simp only [↓XC,XV,XT,Yg,reduceIte,Nat.reduceAdd,Nat.reduceLT,Nat.reduceEqDiff,Nat.reduceBEq,Nat.reduceLeDiff,reduceCtorEq,Nat.reduceSub,Nat.reduceMul,Int.reduceToNat,Int.reduceLT,Int.reduceLE,TES]
 rfl
noncomputable def qz:PE:=peR (fun (b:Int)=>[.i .i64 b]) (fun (b:Int)=>True) (fun (b:Int)=>.b (b==10||decide (b<0)))
theorem wv {b:Int}:qz [.i .i64 b]=some (True,.b (b==10||decide (b<0))):=z6 (by rintro a b h;simp_all []) b
theorem jt:PE1 Tryz.prog 184 qz:=yb (by rintro b hp;exact isBreak b)
theorem gapAt (s:Bs) (p:Int) (hp:s.length≤1048576∧0≤p):PF Tryz.prog 108 [.s s,.i .i64 p] (.b (gap s p.toNat)):=by
 refine ⟨rfl,rfl,FnK.of (cf:=zk Tryz.prog te [(107,zl),(185,y4),(184,qz)] 15 0 false (fun _=>false) (kp [(0,[0,1]),(1,[5]),(2,[4])]) [] []) (zf te_ok (l:=[(107,zl),(185,y4),(184,qz)]) (⟨zu,q8,jt,trivial⟩) zd) Tryz.func108 rfl rfl rfl (by simp [zk]) (by simp [zk]) (rs:=[.tmp 4]) rfl 100000 ?_⟩
 simp only [↓XC,XV,XT,Yg,reduceIte,Nat.reduceAdd,Nat.reduceLT,Nat.reduceEqDiff,Nat.reduceBEq,Nat.reduceLeDiff,reduceCtorEq,Nat.reduceSub,Nat.reduceMul,Int.reduceToNat,Int.reduceLT,Int.reduceLE,TES,zc,zw,wv]
 exact Chk.mk hp.1 fun _=>by simp only [gap,isW,isB,jx hp.2]
noncomputable def qa:PE:=peR (fun (x:Bs×Int)=>match x with | (s,p)=>[.s s,.i .i64 p]) (fun (x:Bs×Int)=>match x with | (s,p)=>s.length≤1048576∧0≤p) (fun (x:Bs×Int)=>match x with | (s,p)=>.b (gap s p.toNat))
theorem zt {s:Bs} {p:Int}:qa [.s s,.i .i64 p]=some (s.length≤1048576∧0≤p,.b (gap s p.toNat)):=z6 (by rintro ⟨a0,a1⟩ ⟨b0,b1⟩ h;simp_all []) (s,p)
theorem wj:PE1 Tryz.prog 108 qa:=yb (by rintro ⟨s,p⟩ hp;exact gapAt s p hp)
theorem White_i (s:Bs) (p:Int) (hp:s.length≤1048576):PF Tryz.prog 106 [.s s,.i .i64 p] (.i .i64 (wh s (spot s p):Nat)):=by
 refine ⟨rfl,rfl,FnK.of (cf:=zk Tryz.prog te [(100,zr),(107,zl),(185,y4)] 15 0 false (fun _=>false) (kp [(0,[0,1]),(1,[0,1]),(2,[0,1,11]),(3,[0,1]),(4,[4])]) [] []) (zf te_ok (l:=[(100,zr),(107,zl),(185,y4)]) (⟨yc,zu,q8,trivial⟩) zd) Tryz.func106 rfl rfl rfl (by simp [zk]) (by simp [zk]) (rs:=[.tmp 4]) rfl 100000 ?_⟩
 simp only [↓XC,XV,XT,Yg,reduceIte,Nat.reduceAdd,Nat.reduceLT,Nat.reduceEqDiff,Nat.reduceBEq,Nat.reduceLeDiff,reduceCtorEq,Nat.reduceSub,Nat.reduceMul,Int.reduceToNat,Int.reduceLT,Int.reduceLE,TES,yd,zc,zw]
 refine yv.of (ι:={q:Nat // q≤s.length∧wh s q=wh s (spot s p)}) (fun x=>⟨[(0,.s s),(1,.i .i64 (x.1:Nat))],[]⟩) (fun x=>s.length-x.1) ⟨spot s p,ql s p,rfl⟩ (Ent.refl _ _) ?_
 rintro ⟨q,hq,hw⟩
 simp only [↓XC,XV,XT,Yg,reduceIte,Nat.reduceAdd,Nat.reduceLT,Nat.reduceEqDiff,Nat.reduceBEq,Nat.reduceLeDiff,reduceCtorEq,Nat.reduceSub,Nat.reduceMul,Int.reduceToNat,Int.reduceLT,Int.reduceLE,TES,zw,zc]
 refine Chk.mk hp fun _=>⟨fun h=>Chk.mk (by simp only [inR];omega) fun _=>?_,fun h=>?_⟩
 ·rw [zq s hq] at h;have hl:=zrl h
  exact ⟨⟨q+1,by omega,by rw [←wh_t h];exact hw⟩,by simp only;omega,(by first | exact Ent.refl _ _ | (simp only [Int.natCast_add,Int.natCast_one];exact Ent.refl _ _))⟩
 ·rw [zq s hq] at h;rw [←hw,wh_f h]
noncomputable def yg:PE:=peR (fun (x:Bs×Int)=>match x with | (s,p)=>[.s s,.i .i64 p]) (fun (x:Bs×Int)=>match x with | (s,p)=>s.length≤1048576) (fun (x:Bs×Int)=>match x with | (s,p)=>.i .i64 (wh s (spot s p):Nat))
theorem zz {s:Bs} {p:Int}:yg [.s s,.i .i64 p]=some (s.length≤1048576,.i .i64 (wh s (spot s p):Nat)):=z6 (by rintro ⟨a0,a1⟩ ⟨b0,b1⟩ h;simp_all []) (s,p)
theorem y7:PE1 Tryz.prog 106 yg:=yb (by rintro ⟨s,p⟩ hp;exact White_i s p hp)
theorem EndAt_i (s:Bs) (p:Int) (hp:s.length≤1048576):PF Tryz.prog 187 [.s s,.i .i64 p] (.i .i64 (en s (spot s p):Nat)):=by
 refine ⟨rfl,rfl,FnK.of (cf:=zk Tryz.prog te [(100,zr),(182,zeh)] 20 0 false (fun _=>false) (kp [(0,[0,1]),(1,[0,1]),(2,[0,1,5]),(3,[0,1,5,14]),(4,[4]),(5,[4])]) [] []) (zf te_ok (l:=[(100,zr),(182,zeh)]) (⟨yc,zfq,trivial⟩) zd) Tryz.func187 rfl rfl rfl (by simp [zk]) (by simp [zk]) (rs:=[.tmp 4]) rfl 100000 ?_⟩
 simp only [↓XC,XV,XT,Yg,reduceIte,Nat.reduceAdd,Nat.reduceLT,Nat.reduceEqDiff,Nat.reduceBEq,Nat.reduceLeDiff,reduceCtorEq,Nat.reduceSub,Nat.reduceMul,Int.reduceToNat,Int.reduceLT,Int.reduceLE,TES,yd,zfr]
 have h1:=ql s p
 have h2:=idx_en s (spot s p) h1
 have h3:=zd3 s _ h1
 refine Chk.mk (by omega) fun _=>⟨fun h=>?_,fun h=>?_⟩
 ·rw [show UInt8.ofNat 10=10 from rfl] at h;rw [if_pos h] at h2;rw [h2]
 ·rw [show UInt8.ofNat 10=10 from rfl] at h ⊢;rw [if_neg h] at h2;rw [h2];exact Chk.mk (by simp only [inR];omega) fun _=>rfl
noncomputable def qg:PE:=peR (fun (x:Bs×Int)=>match x with | (s,p)=>[.s s,.i .i64 p]) (fun (x:Bs×Int)=>match x with | (s,p)=>s.length≤1048576) (fun (x:Bs×Int)=>match x with | (s,p)=>.i .i64 (en s (spot s p):Nat))
theorem y6 {s:Bs} {p:Int}:qg [.s s,.i .i64 p]=some (s.length≤1048576,.i .i64 (en s (spot s p):Nat)):=z6 (by rintro ⟨a0,a1⟩ ⟨b0,b1⟩ h;simp_all []) (s,p)
theorem km:PE1 Tryz.prog 187 qg:=yb (by rintro ⟨s,p⟩ hp;exact EndAt_i s p hp)
end Go.T
