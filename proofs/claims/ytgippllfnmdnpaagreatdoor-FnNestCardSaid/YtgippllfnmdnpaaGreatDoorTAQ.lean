/- Own text: part TAQ. -/
import Derived.Test.YtgippllfnmdnpaaGreatDoorTAO
import Derived.Test.YtgippllfnmdnpaaGreatDoorTAP
set_option linter.unusedVariables false
set_option linter.unusedSimpArgs false
set_option linter.unusedSectionVars false
set_option linter.unnecessarySimpa false
namespace Go.T
variable [Go.Vg.Glob]
open Go.Proofs Go.Vg Go.RowKit Go.TT Go.Pl
set_option maxRecDepth 10000
set_option maxHeartbeats 4000000
theorem zh4 (cd:Bs) (d:Nat×Int) (hp:d.1≤cd.length∧cd.length≤1048576):FnK Tryz.prog 139 1 [.ptr 0 0 0] [some (.blk false [.fs 1 (cd.map u6),.i .i64 (d.1:Nat),.i .i64 d.2])] (fun z c=>z=.i .i64 (yw cd d).1∧c=[some (.blk false [.fs 1 (cd.map u6),.i .i64 ((yw cd d).2.1:Nat),.i .i64 (yw cd d).2.2])]):=by
 refine FnK.ofE (cf:=zk Tryz.prog te [] 58 1 true (fun _=>false) (kp [(0,[0]),(1,[0]),(2,[0,3]),(3,[0,3,34]),(4,[0,3]),(5,[3]),(6,[2])]) [] [(2,[],[],.q1 0 (.q1 1 (.q1 2 (.q1 5 (.q1 6 (.q1 7 (.q0 3 [3] (.q1 4 (.q0 8 [8] (.q1 9 (.q1 10 (.q1 11 (.q1 12 (.fin)))))))))))))),(3,[],[],.q1 0 (.q1 1 (.q1 2 (.q1 4 (.q1 5 (.q1 6 (.q0 3 [3] (.q0 7 [7] (.q1 8 (.q1 9 (.fin))))))))))),(4,[],[],.q1 0 (.q1 1 (.q1 2 (.q1 3 (.q1 5 (.q1 6 (.q1 7 (.q0 4 [4] (.q0 8 [8] (.q1 9 (.q0 10 [10] (.alt 11 (.q1 12 (.q1 13 (.q1 14 (.fin)))) (.fin)))))))))))))]) (zf te_ok (l:=[]) (trivial) zc) Tryz.func139 rfl rfl rfl (by simp [zk]) (by simp [zk]) (rs:=[.tmp 2]) rfl 100000 ?_
 simp only [↓XC,XV,XT,Yg,seval,TES,XR]
 refine ⟨by decide +kernel,by decide +kernel,fun h=>⟨by decide +kernel,Chk.mk (by omega) fun _=>?_⟩,fun h=>?_⟩
 ·have e:yw cd d=(andI (wr (drX (drHh d.2)+wr ((cd.getD d.1 0).toNat:Nat))) 255,d.1+1,drHh d.2):=by unfold yw;rw [if_pos (by omega)]
  rw [e,wr_id (a:=(d.1:Int)+1) (by omega)]
  simp only [Int.natCast_add,Int.natCast_one]
  exact ⟨[0],by decide,by simp only [Yd];exact za rfl,by simp only [↓XC,XV,XT,Yg,seval];try rfl,by simp [zw,SO.ro],by simp⟩
 ·have e:yw cd d=(drX (drHh d.2),d.1,drHh d.2):=by unfold yw;rw [if_neg (by omega)]
  rw [e]
  exact ⟨[0],by decide,by simp only [Yd];exact za rfl,by simp only [↓XC,XV,XT,Yg,seval];try rfl,by simp [zw,SO.ro],by simp⟩
theorem q5 (cd:Bs) (d:Nat×Int) (n:Int) (hp:d.1≤cd.length∧cd.length≤1048576):FnK Tryz.prog 66 1 [.ptr 0 0 0,.i .i64 n] [some (.blk false [.fs 1 (cd.map u6),.i .i64 (d.1:Nat),.i .i64 d.2])] (fun z c=>z=.i .i64 (yx cd n d).1∧c=[some (.blk false [.fs 1 (cd.map u6),.i .i64 ((yx cd n d).2.1:Nat),.i .i64 (yx cd n d).2.2])]):=by
 refine FnK.ofE (cf:=zk Tryz.prog te [] 37 1 false (fun _=>false) (kp [(0,[0,1]),(1,[0,1,10]),(2,[4]),(3,[0,1,12]),(4,[4]),(5,[0,1,5]),(6,[0,1,5,6]),(7,[0,1,5,6,7]),(8,[1,5,6,7,8]),(9,[4])]) [] []) (zf te_ok (l:=[]) (trivial) zc) Tryz.func66 rfl rfl rfl (by simp [zk]) (by simp [zk]) (rs:=[.tmp 4]) rfl 100000 ?_
 simp only [↓XC,XV,XT,Yg,seval,TES,XR]
 refine ⟨fun h=>?_,fun h=>⟨fun h2=>?_,fun h2=>?_⟩⟩
 ·have e:yx cd n d=(0,d):=by unfold yx;rw [if_pos h]
  rw [e]
  exact ⟨[0],by decide,by simp only [Yd];exact za rfl,by simp only [↓XC,XV,XT,Yg,seval];try simp [Yf],by simp [zw,SO.ro],by simp⟩
 ·have e:yx cd n d=((yw cd d).1.tmod n,(yw cd d).2):=by unfold yx;rw [if_neg h,if_pos h2]
  rw [e]
  refine zj.mut (zh4 cd d ⟨hp.1,hp.2⟩) rfl [0] (by simp [Yf]) (by simp only [Ye];exact ⟨by omega,za rfl⟩) (by decide) ?_
  simp only [↓XC,XV,XT,Yg,seval,TES,XR,zr,upd,muL,List.getElem?_nil,List.drop_nil,Option.map_none]
  refine Chk.mk (by omega) fun _=>?_
  exact ⟨[0],by decide,by simp only [Yd];exact za rfl,by simp only [↓XC,XV,XT,Yg,seval];try simp [Yf],by simp [zw,SO.ro],by simp⟩
 ·have e:=zq7 cd d h h2
  have r1:=kg cd d
  have l1:=xk (cd:=cd) hp.1
  refine zj.mut (zh4 cd d ⟨hp.1,hp.2⟩) rfl [0] (by simp [Yf]) (by simp only [Ye];exact ⟨by omega,za rfl⟩) (by decide) ?_
  simp only [↓XC,XV,XT,Yg,seval,TES,XR,zr,upd,muL,List.getElem?_nil,List.drop_nil,Option.map_none]
  generalize yw cd d=d1 at *
  have r2:=kg cd d1.2
  have l2:=xk (cd:=cd) l1
  refine zj.mut (zh4 cd d1.2 ⟨l1,hp.2⟩) rfl [0] (by simp [Yf]) (by simp only [Ye];exact ⟨by omega,za rfl⟩) (by decide) ?_
  simp only [↓XC,XV,XT,Yg,seval,TES,XR,zr,upd,muL,List.getElem?_nil,List.drop_nil,Option.map_none]
  generalize yw cd d1.2=d2 at *
  have r3:=kg cd d2.2
  have l3:=xk (cd:=cd) l2
  refine zj.mut (zh4 cd d2.2 ⟨l2,hp.2⟩) rfl [0] (by simp [Yf]) (by simp only [Ye];exact ⟨by omega,za rfl⟩) (by decide) ?_
  simp only [↓XC,XV,XT,Yg,seval,TES,XR,zr,upd,muL,List.getElem?_nil,List.drop_nil,Option.map_none]
  generalize yw cd d2.2=d3 at *
  have r4:=kg cd d3.2
  refine zj.mut (zh4 cd d3.2 ⟨l3,hp.2⟩) rfl [0] (by simp [Yf]) (by simp only [Ye];exact ⟨by omega,za rfl⟩) (by decide) ?_
  simp only [↓XC,XV,XT,Yg,seval,TES,XR,zr,upd,muL,List.getElem?_nil,List.drop_nil,Option.map_none]
  generalize yw cd d3.2=d4 at *
  repeat (refine Chk.mk (by first | omega | (simp only [inR];omega)) fun _=>?_)
  rw [e]
  exact ⟨[0],by decide,by simp only [Yd];exact za rfl,by simp only [↓XC,XV,XT,Yg,seval];try simp [Yf],by simp [zw,SO.ro],by simp⟩
theorem zvb (cd:Bs) (hp:cd.length≤1048576):FnK Tryz.prog 64 0 [.fs 1 (cd.map u6)] [] (fun z c=>z=.ptr 0 0 0∧c=[some (.blk false [.fs 1 (cd.map u6),.i .i64 ((zvh cd).1:Nat),.i .i64 (zvh cd).2])]):=by
 refine FnK.ofE (cf:=zk Tryz.prog te [] 32 0 true (fun _=>false) (kp [(0,[0]),(1,[0,3]),(2,[0,3,4]),(3,[0,3,4,15]),(4,[0,3,4]),(5,[0,3,4]),(6,[2])]) [] []) (zf te_ok (l:=[]) (trivial) zc) Tryz.func64 rfl rfl rfl (by simp [zk]) (by simp [zk]) (rs:=[.tmp 2]) rfl 100000 ?_
 simp only [↓XC,XV,XT,Yg,seval,TES,XR]
 refine yv.of (ι:={i:Nat // i≤cd.length∧i≤4000}) (fun x=>⟨[(0,.fs 1 (cd.map u6)),(3,.i .i64 (drGo cd x.1)),(4,.i .i64 (x.1:Nat))],[]⟩) (fun x=>cd.length-x.1) ⟨0,Nat.zero_le _,Nat.zero_le _⟩ (Ent.refl _ _) ?_
 rintro ⟨i,hi,hi2⟩
 simp only [↓XC,XV,XT,Yg,seval,TES,XR]
 rw [wr_id (a:=(i:Int)+1) (by omega)]
 refine ⟨fun h=>Chk.mk (by simp at h;omega) fun _=>⟨⟨i+1,by simp at h;omega,by simp at h;omega⟩,by simp at h;simp only;omega, ?_⟩,fun h=>?_⟩
 ·simp only [Int.natCast_add,Int.natCast_one]
  exact Ent.refl _ _
 ·have e:zvh cd=(0,drGo cd i):=by unfold zvh;rw [show min cd.length 4000=i by simp at h;omega]
  rw [e]
  exact ⟨[0],by decide,by simp only [Yd];exact za rfl,by simp only [↓XC,XV,XT,Yg,seval];try simp [Yf],by simp [zw,SO.ro],by simp⟩
theorem l01Of (cd:Bs) (d:Nat×Int) (l:List Bs) (hp:d.1≤cd.length∧cd.length≤1048576∧0<l.length∧l.length≤1048576):FnK Tryz.prog 140 2 [.ptr 0 0 0,.slc 1 0 l.length] [some (.blk false [.fs 1 (cd.map u6),.i .i64 (d.1:Nat),.i .i64 d.2]),some (.row false 1 l.length (zg zbi [] l))] (fun z c=>z=.s (l.getD (yx cd l.length d).1.toNat [])∧c=[some (.blk false [.fs 1 (cd.map u6),.i .i64 ((yx cd l.length d).2.1:Nat),.i .i64 (yx cd l.length d).2.2]),some (.row false 1 l.length (zg zbi [] l))]):=by
 refine FnK.ofE (cf:=zk Tryz.prog te [] 12 2 false (fun _=>false) (kp [(0,[0,1]),(1,[4])]) [] []) (zf te_ok (l:=[]) (trivial) zc) Tryz.func140 rfl rfl rfl (by simp [zk]) (by simp [zk]) (rs:=[.tmp 4]) rfl 100000 ?_
 simp only [↓XC,XV,XT,Yg,seval,TES,XR]
 have hr:=yg cd (n:=l.length) d (by omega)
 refine zj.mut (q5 cd d l.length ⟨hp.1,hp.2.1⟩) rfl [0] (by simp [Yf]) (by simp only [Ye];exact ⟨by omega,za rfl⟩) (by decide) ?_
 simp only [↓XC,XV,XT,Yg,seval,TES,XR,zr,upd,muL,List.getElem?_nil,List.drop_nil,Option.map_none]
 generalize yx cd l.length d=q at *
 refine Chk.mk (by omega) fun _=>Chk.mk (by omega) fun _=>?_
 exact ⟨[0,1],by decide,by simp only [Yd];exact ⟨za rfl,zb fun _=>rfl⟩,by simp only [↓XC,XV,XT,Yg,seval];try simp [Yf],by simp [zw,SO.ro],by simp⟩
end Go.T
