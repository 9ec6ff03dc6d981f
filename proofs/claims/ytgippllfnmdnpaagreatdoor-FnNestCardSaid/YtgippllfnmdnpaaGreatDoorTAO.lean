/- Own text: part TAO. -/
import Derived.Test.YtgippllfnmdnpaaGreatDoorTAY
import Derived.Test.YtgippllfnmdnpaaGreatDoorTAM
import Derived.Test.YtgippllfnmdnpaaGreatDoorTAN
set_option linter.unusedVariables false
set_option linter.unusedSimpArgs false
set_option linter.unusedSectionVars false
set_option linter.unnecessarySimpa false
namespace Go.T
variable [Go.Vg.Glob]
open Go.Proofs Go.Vg Go.RowKit Go.TT Go.Pl
set_option maxRecDepth 10000
set_option maxHeartbeats 4000000
theorem zxm:PE1 Tryz.prog 264 zxp:=pe_ix_ok (ext_idx Tryz.func264 rfl rfl (by kernel_rfl) (by kernel_rfl))
noncomputable def zxo:=zxp
theorem zxn {s:List UInt8} {c:Int}:zxo [.s s,.i .u8 c]=some (True,.i .i64 (Pl.idx s (UInt8.ofNat c.toNat))):=pe_ix_eq
theorem ixl (s:List UInt8) (c:Int):PF Tryz.prog 230 [.s s,.i .u8 c] (.i .i64 (Pl.idx s (UInt8.ofNat c.toNat))):=by
 refine ⟨rfl,rfl,FnK.of (cf:=zk Tryz.prog te [(264,zxo)] 8 0 false (fun _=>false) (kp [(0,[0,1]),(1,[4])]) [] []) (zf te_ok (l:=[(264,zxo)]) (⟨zxm,trivial⟩) zc) Tryz.func230 rfl rfl rfl (by simp [zk]) (by simp [zk]) (rs:=[.tmp 4]) rfl 100000 ?_⟩
 simp only [↓XC,XV,XT,Yg,reduceIte,Nat.reduceAdd,Nat.reduceLT,Nat.reduceEqDiff,Nat.reduceBEq,Nat.reduceLeDiff,reduceCtorEq,Nat.reduceSub,Nat.reduceMul,Int.reduceToNat,Int.reduceLT,Int.reduceLE,TES,zxn]
noncomputable def zsv:PE:=peR (fun (x:List UInt8×Int)=>match x with | (s,c)=>[.s s,.i .u8 c]) (fun (x:List UInt8×Int)=>match x with | (s,c)=>True) (fun (x:List UInt8×Int)=>match x with | (s,c)=>.i .i64 (Pl.idx s (UInt8.ofNat c.toNat)))
theorem zxl {s:List UInt8} {c:Int}:zsv [.s s,.i .u8 c]=some (True,.i .i64 (Pl.idx s (UInt8.ofNat c.toNat))):=yh (by rintro ⟨a0,a1⟩ ⟨b0,b1⟩ h;simp_all []) (s,c)
theorem zxk:PE1 Tryz.prog 230 zsv:=yl (by rintro ⟨s,c⟩ hp;exact ixl s c)
theorem ixs (s:List UInt8) (c:Int):PF Tryz.prog 182 [.s s,.i .u8 c] (.i .i64 (Pl.idx s (UInt8.ofNat c.toNat))):=by
 refine ⟨rfl,rfl,FnK.of (cf:=zk Tryz.prog te [(230,zsv)] 8 0 false (fun _=>false) (kp [(0,[0,1]),(1,[4])]) [] []) (zf te_ok (l:=[(230,zsv)]) (⟨zxk,trivial⟩) zc) Tryz.func182 rfl rfl rfl (by simp [zk]) (by simp [zk]) (rs:=[.tmp 4]) rfl 100000 ?_⟩
 simp only [↓XC,XV,XT,Yg,reduceIte,Nat.reduceAdd,Nat.reduceLT,Nat.reduceEqDiff,Nat.reduceBEq,Nat.reduceLeDiff,reduceCtorEq,Nat.reduceSub,Nat.reduceMul,Int.reduceToNat,Int.reduceLT,Int.reduceLE,TES,zxl]
noncomputable def zfx:PE:=peR (fun (x:List UInt8×Int)=>match x with | (s,c)=>[.s s,.i .u8 c]) (fun (x:List UInt8×Int)=>match x with | (s,c)=>True) (fun (x:List UInt8×Int)=>match x with | (s,c)=>.i .i64 (Pl.idx s (UInt8.ofNat c.toNat)))
theorem zhe {s:List UInt8} {c:Int}:zfx [.s s,.i .u8 c]=some (True,.i .i64 (Pl.idx s (UInt8.ofNat c.toNat))):=yh (by rintro ⟨a0,a1⟩ ⟨b0,b1⟩ h;simp_all []) (s,c)
theorem zhd:PE1 Tryz.prog 182 zfx:=yl (by rintro ⟨s,c⟩ hp;exact ixs s c)
theorem zna (x lo hi:Int):PF Tryz.prog 147 [.i .i64 x,.i .i64 lo,.i .i64 hi] (.b (decide (lo≤x)&&decide (x≤hi))):=by
 refine ⟨rfl,rfl,FnK.of (cf:=zk Tryz.prog te [] 15 0 false (fun _=>false) (kp [(0,[0,1,2]),(1,[6])]) [] []) (zf te_ok (l:=[]) (trivial) zc) Tryz.func147 rfl rfl rfl (by simp [zk]) (by simp [zk]) (rs:=[.tmp 6]) rfl 100000 ?_⟩
 simp only [↓XC,XV,XT,Yg,reduceIte,Nat.reduceAdd,Nat.reduceLT,Nat.reduceEqDiff,Nat.reduceBEq,Nat.reduceLeDiff,reduceCtorEq,Nat.reduceSub,Nat.reduceMul,Int.reduceToNat,Int.reduceLT,Int.reduceLE,TES]
noncomputable def qr:PE:=peR (fun (x:Int×Int×Int)=>match x with | (x,lo,hi)=>[.i .i64 x,.i .i64 lo,.i .i64 hi]) (fun (x:Int×Int×Int)=>match x with | (x,lo,hi)=>True) (fun (x:Int×Int×Int)=>match x with | (x,lo,hi)=>.b (decide (lo≤x)&&decide (x≤hi)))
theorem wa {x lo hi:Int}:qr [.i .i64 x,.i .i64 lo,.i .i64 hi]=some (True,.b (decide (lo≤x)&&decide (x≤hi))):=yh (by rintro ⟨a0,a1,a2⟩ ⟨b0,b1,b2⟩ h;simp_all []) (x,lo,hi)
theorem kb:PE1 Tryz.prog 147 qr:=yl (by rintro ⟨x,lo,hi⟩ hp;exact zna x lo hi)
theorem spot_i (s:Bs) (p:Int):PF Tryz.prog 100 [.s s,.i .i64 p] (.i .i64 (spot s p:Nat)):=by
 refine ⟨rfl,rfl,FnK.of (cf:=zk Tryz.prog te [] 10 0 false (fun _=>false) (kp [(0,[0,1]),(1,[4])]) [] []) (zf te_ok (l:=[]) (trivial) zc) Tryz.func100 rfl rfl rfl (by simp [zk]) (by simp [zk]) (rs:=[.tmp 4]) rfl 100000 ?_⟩
 simp only [↓XC,XV,XT,Yg,reduceIte,Nat.reduceAdd,Nat.reduceLT,Nat.reduceEqDiff,Nat.reduceBEq,Nat.reduceLeDiff,reduceCtorEq,Nat.reduceSub,Nat.reduceMul,Int.reduceToNat,Int.reduceLT,Int.reduceLE,TES]
 simp only [SV.i.injEq,true_and]
 unfold spot
 repeat' split
 all_goals omega
noncomputable def zx:PE:=peR (fun (x:Bs×Int)=>match x with | (s,p)=>[.s s,.i .i64 p]) (fun (x:Bs×Int)=>match x with | (s,p)=>True) (fun (x:Bs×Int)=>match x with | (s,p)=>.i .i64 (spot s p:Nat))
theorem yn {s:Bs} {p:Int}:zx [.s s,.i .i64 p]=some (True,.i .i64 (spot s p:Nat)):=yh (by rintro ⟨a0,a1⟩ ⟨b0,b1⟩ h;simp_all []) (s,p)
theorem ym:PE1 Tryz.prog 100 zx:=yl (by rintro ⟨s,p⟩ hp;exact spot_i s p)
theorem byteAt (s:Bs) (p:Int) (hp:s.length≤1048576):PF Tryz.prog 107 [.s s,.i .i64 p] (.i .i64 (byt s (spot s p))):=by
 refine ⟨rfl,rfl,FnK.of (cf:=zk Tryz.prog te [(100,zx)] 16 0 false (fun _=>false) (kp [(0,[0,1]),(1,[0,1]),(2,[0,1,11]),(3,[4]),(4,[4])]) [] []) (zf te_ok (l:=[(100,zx)]) (⟨ym,trivial⟩) zc) Tryz.func107 rfl rfl rfl (by simp [zk]) (by simp [zk]) (rs:=[.tmp 4]) rfl 100000 ?_⟩
 simp only [↓XC,XV,XT,Yg,reduceIte,Nat.reduceAdd,Nat.reduceLT,Nat.reduceEqDiff,Nat.reduceBEq,Nat.reduceLeDiff,reduceCtorEq,Nat.reduceSub,Nat.reduceMul,Int.reduceToNat,Int.reduceLT,Int.reduceLE,TES,yn]
 have h1:=q8 s p
 have h2:=(s.getD (spot s p) 0).toNat_lt
 exact ⟨fun h=>by rw [jt (by omega)],fun h=>Chk.mk (by omega) fun _=>Chk.mk (by simp only [inR];omega) fun _=>by rw [kv (by omega)]⟩
noncomputable def zm:PE:=peR (fun (x:Bs×Int)=>match x with | (s,p)=>[.s s,.i .i64 p]) (fun (x:Bs×Int)=>match x with | (s,p)=>s.length≤1048576) (fun (x:Bs×Int)=>match x with | (s,p)=>.i .i64 (byt s (spot s p)))
theorem zd {s:Bs} {p:Int}:zm [.s s,.i .i64 p]=some (s.length≤1048576,.i .i64 (byt s (spot s p))):=yh (by rintro ⟨a0,a1⟩ ⟨b0,b1⟩ h;simp_all []) (s,p)
theorem z6:PE1 Tryz.prog 107 zm:=yl (by rintro ⟨s,p⟩ hp;exact byteAt s p hp)
theorem isWhite (b:Int):PF Tryz.prog 185 [.i .i64 b] (.b (b==32||b==9)):=by
 refine ⟨rfl,rfl,FnK.of (cf:=zk Tryz.prog te [] 9 0 false (fun _=>false) (kp [(0,[0]),(1,[2])]) [] []) (zf te_ok (l:=[]) (trivial) zc) Tryz.func185 rfl rfl rfl (by simp [zk]) (by simp [zk]) (rs:=[.tmp 2]) rfl 100000 ?_⟩
 simp only [↓XC,XV,XT,Yg,reduceIte,Nat.reduceAdd,Nat.reduceLT,Nat.reduceEqDiff,Nat.reduceBEq,Nat.reduceLeDiff,reduceCtorEq,Nat.reduceSub,Nat.reduceMul,Int.reduceToNat,Int.reduceLT,Int.reduceLE,TES]
 rfl
noncomputable def qe:PE:=peR (fun (b:Int)=>[.i .i64 b]) (fun (b:Int)=>True) (fun (b:Int)=>.b (b==32||b==9))
theorem z7 {b:Int}:qe [.i .i64 b]=some (True,.b (b==32||b==9)):=yh (by rintro a b h;simp_all []) b
theorem wt:PE1 Tryz.prog 185 qe:=yl (by rintro b hp;exact isWhite b)
theorem isBreak (b:Int):PF Tryz.prog 184 [.i .i64 b] (.b (b==10||decide (b<0))):=by
 refine ⟨rfl,rfl,FnK.of (cf:=zk Tryz.prog te [] 9 0 false (fun _=>false) (kp [(0,[0]),(1,[2])]) [] []) (zf te_ok (l:=[]) (trivial) zc) Tryz.func184 rfl rfl rfl (by simp [zk]) (by simp [zk]) (rs:=[.tmp 2]) rfl 100000 ?_⟩
 simp only [↓XC,XV,XT,Yg,reduceIte,Nat.reduceAdd,Nat.reduceLT,Nat.reduceEqDiff,Nat.reduceBEq,Nat.reduceLeDiff,reduceCtorEq,Nat.reduceSub,Nat.reduceMul,Int.reduceToNat,Int.reduceLT,Int.reduceLE,TES]
 rfl
noncomputable def wo:PE:=peR (fun (b:Int)=>[.i .i64 b]) (fun (b:Int)=>True) (fun (b:Int)=>.b (b==10||decide (b<0)))
theorem km {b:Int}:wo [.i .i64 b]=some (True,.b (b==10||decide (b<0))):=yh (by rintro a b h;simp_all []) b
theorem vf:PE1 Tryz.prog 184 wo:=yl (by rintro b hp;exact isBreak b)
theorem gapAt (s:Bs) (p:Int) (hp:s.length≤1048576∧0≤p):PF Tryz.prog 108 [.s s,.i .i64 p] (.b (gap s p.toNat)):=by
 refine ⟨rfl,rfl,FnK.of (cf:=zk Tryz.prog te [(107,zm),(185,qe),(184,wo)] 15 0 false (fun _=>false) (kp [(0,[0,1]),(1,[5]),(2,[4])]) [] []) (zf te_ok (l:=[(107,zm),(185,qe),(184,wo)]) (⟨z6,wt,vf,trivial⟩) zc) Tryz.func108 rfl rfl rfl (by simp [zk]) (by simp [zk]) (rs:=[.tmp 4]) rfl 100000 ?_⟩
 simp only [↓XC,XV,XT,Yg,reduceIte,Nat.reduceAdd,Nat.reduceLT,Nat.reduceEqDiff,Nat.reduceBEq,Nat.reduceLeDiff,reduceCtorEq,Nat.reduceSub,Nat.reduceMul,Int.reduceToNat,Int.reduceLT,Int.reduceLE,TES,zd,z7,km]
 exact Chk.mk hp.1 fun _=>by simp only [gap,isW,isB,vj hp.2]
noncomputable def qn:PE:=peR (fun (x:Bs×Int)=>match x with | (s,p)=>[.s s,.i .i64 p]) (fun (x:Bs×Int)=>match x with | (s,p)=>s.length≤1048576∧0≤p) (fun (x:Bs×Int)=>match x with | (s,p)=>.b (gap s p.toNat))
theorem zz {s:Bs} {p:Int}:qn [.s s,.i .i64 p]=some (s.length≤1048576∧0≤p,.b (gap s p.toNat)):=yh (by rintro ⟨a0,a1⟩ ⟨b0,b1⟩ h;simp_all []) (s,p)
theorem w5:PE1 Tryz.prog 108 qn:=yl (by rintro ⟨s,p⟩ hp;exact gapAt s p hp)
theorem White_i (s:Bs) (p:Int) (hp:s.length≤1048576):PF Tryz.prog 106 [.s s,.i .i64 p] (.i .i64 (wh s (spot s p):Nat)):=by
 refine ⟨rfl,rfl,FnK.of (cf:=zk Tryz.prog te [(100,zx),(107,zm),(185,qe)] 15 0 false (fun _=>false) (kp [(0,[0,1]),(1,[0,1]),(2,[0,1,11]),(3,[0,1]),(4,[4])]) [] []) (zf te_ok (l:=[(100,zx),(107,zm),(185,qe)]) (⟨ym,z6,wt,trivial⟩) zc) Tryz.func106 rfl rfl rfl (by simp [zk]) (by simp [zk]) (rs:=[.tmp 4]) rfl 100000 ?_⟩
 simp only [↓XC,XV,XT,Yg,reduceIte,Nat.reduceAdd,Nat.reduceLT,Nat.reduceEqDiff,Nat.reduceBEq,Nat.reduceLeDiff,reduceCtorEq,Nat.reduceSub,Nat.reduceMul,Int.reduceToNat,Int.reduceLT,Int.reduceLE,TES,yn,zd,z7]
 refine yv.of (ι:={q:Nat // q≤s.length∧wh s q=wh s (spot s p)}) (fun x=>⟨[(0,.s s),(1,.i .i64 (x.1:Nat))],[]⟩) (fun x=>s.length-x.1) ⟨spot s p,q8 s p,rfl⟩ (Ent.refl _ _) ?_
 rintro ⟨q,hq,hw⟩
 simp only [↓XC,XV,XT,Yg,reduceIte,Nat.reduceAdd,Nat.reduceLT,Nat.reduceEqDiff,Nat.reduceBEq,Nat.reduceLeDiff,reduceCtorEq,Nat.reduceSub,Nat.reduceMul,Int.reduceToNat,Int.reduceLT,Int.reduceLE,TES,z7,zd]
 refine Chk.mk hp fun _=>⟨fun h=>Chk.mk (by simp only [inR];omega) fun _=>?_,fun h=>?_⟩
 ·rw [zu s hq] at h;have hl:=ztm h
  exact ⟨⟨q+1,by omega,by rw [←wh_t h];exact hw⟩,by simp only;omega,(by first | exact Ent.refl _ _ | (simp only [Int.natCast_add,Int.natCast_one];exact Ent.refl _ _))⟩
 ·rw [zu s hq] at h;rw [←hw,wh_f h]
noncomputable def yp:PE:=peR (fun (x:Bs×Int)=>match x with | (s,p)=>[.s s,.i .i64 p]) (fun (x:Bs×Int)=>match x with | (s,p)=>s.length≤1048576) (fun (x:Bs×Int)=>match x with | (s,p)=>.i .i64 (wh s (spot s p):Nat))
theorem yc {s:Bs} {p:Int}:yp [.s s,.i .i64 p]=some (s.length≤1048576,.i .i64 (wh s (spot s p):Nat)):=yh (by rintro ⟨a0,a1⟩ ⟨b0,b1⟩ h;simp_all []) (s,p)
theorem qi:PE1 Tryz.prog 106 yp:=yl (by rintro ⟨s,p⟩ hp;exact White_i s p hp)
theorem EndAt_i (s:Bs) (p:Int) (hp:s.length≤1048576):PF Tryz.prog 187 [.s s,.i .i64 p] (.i .i64 (en s (spot s p):Nat)):=by
 refine ⟨rfl,rfl,FnK.of (cf:=zk Tryz.prog te [(100,zx),(182,zfx)] 20 0 false (fun _=>false) (kp [(0,[0,1]),(1,[0,1]),(2,[0,1,5]),(3,[0,1,5,14]),(4,[4]),(5,[4])]) [] []) (zf te_ok (l:=[(100,zx),(182,zfx)]) (⟨ym,zhd,trivial⟩) zc) Tryz.func187 rfl rfl rfl (by simp [zk]) (by simp [zk]) (rs:=[.tmp 4]) rfl 100000 ?_⟩
 simp only [↓XC,XV,XT,Yg,reduceIte,Nat.reduceAdd,Nat.reduceLT,Nat.reduceEqDiff,Nat.reduceBEq,Nat.reduceLeDiff,reduceCtorEq,Nat.reduceSub,Nat.reduceMul,Int.reduceToNat,Int.reduceLT,Int.reduceLE,TES,yn,zhe]
 have h1:=q8 s p
 have h2:=idx_en s (spot s p) h1
 have h3:=zcd s _ h1
 refine Chk.mk (by omega) fun _=>⟨fun h=>?_,fun h=>?_⟩
 ·rw [show UInt8.ofNat 10=10 from rfl] at h;rw [if_pos h] at h2;rw [h2]
 ·rw [show UInt8.ofNat 10=10 from rfl] at h ⊢;rw [if_neg h] at h2;rw [h2];exact Chk.mk (by simp only [inR];omega) fun _=>rfl
noncomputable def qz:PE:=peR (fun (x:Bs×Int)=>match x with | (s,p)=>[.s s,.i .i64 p]) (fun (x:Bs×Int)=>match x with | (s,p)=>s.length≤1048576) (fun (x:Bs×Int)=>match x with | (s,p)=>.i .i64 (en s (spot s p):Nat))
theorem qg {s:Bs} {p:Int}:qz [.s s,.i .i64 p]=some (s.length≤1048576,.i .i64 (en s (spot s p):Nat)):=yh (by rintro ⟨a0,a1⟩ ⟨b0,b1⟩ h;simp_all []) (s,p)
theorem ji:PE1 Tryz.prog 187 qz:=yl (by rintro ⟨s,p⟩ hp;exact EndAt_i s p hp)
end Go.T
