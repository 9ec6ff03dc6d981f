/- Own text: part TBB. -/
import Derived.Test.YtgippllfnmdnpaaGreatDoorTBA
import Derived.Test.YtgippllfnmdnpaaGreatDoorTAO
section
set_option linter.unusedVariables false
set_option linter.unusedSimpArgs false
set_option linter.unusedSectionVars false
set_option linter.unnecessarySimpa false
namespace Go.T
variable [Go.Vg.Glob]
open Go.Proofs Go.Vg Go.RowKit Go.TT Go.Pl
set_option maxRecDepth 10000
set_option maxHeartbeats 4000000
theorem l12Draw (cd:Bs) (d:Nat×Int) (hp:d.1≤cd.length∧cd.length≤1048576):FnK Tryz.prog 138 1 [.ptr 0 0 0] [some (.blk false [.fs 1 (cd.map u6),.i .i64 (d.1:Nat),.i .i64 d.2])] (fun z c=>DrS cd 720400 z c):=by
 refine FnK.ofQ (cf:=zk Tryz.prog te [] 47 1 false (fun _=>false) (kp [(0,[0]),(1,[0,3]),(2,[0,3,4]),(3,[0,3,4,12]),(4,[0,3,4]),(5,[0,3,4,5]),(6,[0,3,4]),(7,[0,3,4,5,22]),(8,[0,3,4]),(9,[0,3,4,29]),(10,[0,3,4]),(11,[0,3,4]),(12,[2])]) [] []) (zf te_ok (l:=[]) (trivial) zc) Tryz.func138 rfl rfl rfl (by simp [zk]) (by simp [zk]) (rs:=[.tmp 2]) rfl 100000 ?_
 simp only [↓XC,XV,XT,Yg,seval,TES,XR,↓Yc]
 have hc:=hp.2
 repeat (with_reducible refine Chk.mk (by first | omega | (simp only [inR];omega) | (simp only [List.length_append,List.length_cons,List.length_nil,List.length_replicate];omega)) fun _=>?_)
 refine zj.mutQ (qh cd d [[],[],[],[35,32,114,10],[10],[37,89,65,77,76,32,49,46,50,10,45,45,45,10],[37,84,65,71,32,33,104,33,32,116,97,103,58,104,44,10,45,45,45,32,35,32,114,10],[45,45,45,10]] ⟨hp.1,hc,by decide,by decide⟩) rfl [0,1] (by simp [Yf];try decide) (by simp only [Ye];exact ⟨by omega,za rfl,by omega,y3 (l:=[[],[],[],[35,32,114,10],[10],[37,89,65,77,76,32,49,46,50,10,45,45,45,10],[37,84,65,71,32,33,104,33,32,116,97,103,58,104,44,10,45,45,45,32,35,32,114,10],[45,45,45,10]])⟩) (by decide) ?_
 rintro _ _ ⟨t1,d1,hm1,hd1,rfl,rfl⟩
 have hl1:=ql (M:=24) hm1 (by decide)
 clear hm1
 simp only [↓XC,XV,XT,Yg,seval,TES,XR,↓Yc,zr,upd,muL,List.getElem?_nil,List.drop_nil,Option.map_none,SO.mapH,List.getElem?_cons_zero,List.getElem?_cons_succ]
 repeat (with_reducible refine Chk.mk (by first | omega | (simp only [inR];omega) | (simp only [List.length_append,List.length_cons,List.length_nil,List.length_replicate];omega)) fun _=>?_)
 have hr2:=yg cd (n:=3) d1 (by first | decide | omega)
 have hd2:=y6 (cd:=cd) (n:=3) hd1
 refine zj.mut (q5 cd d1 3 ⟨hd1,hc⟩) rfl [0] (by simp [Yf]) (by simp only [Ye];exact ⟨by omega,za rfl⟩) (by decide) ?_
 simp only [↓XC,XV,XT,Yg,seval,TES,XR,↓Yc,zr,upd,muL,List.getElem?_nil,List.drop_nil,Option.map_none,SO.mapH,List.getElem?_cons_zero,List.getElem?_cons_succ]
 generalize yx cd 3 d1=q2 at *
 refine yv.of (ι:={x:Nat×Bs×Nat×Int // lp3 (40) (230500) x.1 x.2.1.length∧x.2.2.1≤cd.length}) (fun x=>⟨[(0,.ptr 0 0 0),(3,.s x.1.2.1),(4,.i .i64 (x.1.1:Nat))],[some (.blk false [.fs 1 (cd.map u6),.i .i64 (x.1.2.2.1:Nat),.i .i64 x.1.2.2.2])]⟩) (fun x=>x.1.1) ⟨((q2.1).toNat,t1,q2.2),lp3.start (by omega) (by simp only [List.length_append,List.length_cons,List.length_nil];omega),hd2⟩ (Ent.ren1 [0] (by decide) (by simp only [Yd];exact za rfl) (by simp [zi,Vg.look,SV.mapH,muL];omega)) ?_
 rintro ⟨⟨r,u,e⟩,hL,he⟩
 simp only [↓XC,XV,XT,Yg,seval,TES,XR,↓Yc]
 simp only at hL he
 have hA:=hL.all
 have hr3:=hL.le
 rcases r with _ | r
 ·refine ⟨fun h=>absurd h (by omega),fun _=>?_⟩
  repeat (with_reducible refine Chk.mk (by first | omega | (simp only [inR];omega) | (simp only [List.length_append,List.length_cons,List.length_nil,List.length_replicate];omega)) fun _=>?_)
  refine zj.mutQ (zyw cd e 0 2 ⟨he,hc,by decide,by decide,by decide,by decide⟩) rfl [0] (by simp [Yf]) (by simp only [Ye];exact ⟨by omega,za rfl⟩) (by decide) ?_
  rintro _ _ ⟨t3,d3,hl3,hd3,rfl,rfl⟩
  simp only [↓XC,XV,XT,Yg,seval,TES,XR,↓Yc,zr,upd,muL,List.getElem?_nil,List.drop_nil,Option.map_none,SO.mapH,List.getElem?_cons_zero,List.getElem?_cons_succ]
  have z2:450 * 8 ^ (2:Int).toNat=28800:=by decide
  repeat (with_reducible refine Chk.mk (by first | omega | (simp only [inR];omega) | (simp only [List.length_append,List.length_cons,List.length_nil,List.length_replicate];omega)) fun _=>?_)
  exact ⟨_,_,DrS.mk (u++t3) (d3) (by first | omega | (simp only [List.length_append,List.length_cons,List.length_nil,List.length_replicate];omega)) hd3,⟨[0],by decide,by simp only [Yd];exact za rfl,by simp only [↓XC,XV,XT,Yg,seval,TES];try simp [Yf],by simp [zw,SO.ro],by simp⟩⟩
 ·refine ⟨fun _=>?_,fun h=>absurd h (by omega)⟩
  repeat (with_reducible refine Chk.mk (by first | omega | (simp only [inR];omega) | (simp only [List.length_append,List.length_cons,List.length_nil,List.length_replicate];omega)) fun _=>?_)
  have hr3:=yg cd (n:=5) e (by first | decide | omega)
  have hd3:=y6 (cd:=cd) (n:=5) he
  refine zj.mut (q5 cd e 5 ⟨he,hc⟩) rfl [0] (by simp [Yf]) (by simp only [Ye];exact ⟨by omega,za rfl⟩) (by decide) ?_
  simp only [↓XC,XV,XT,Yg,seval,TES,XR,↓Yc,zr,upd,muL,List.getElem?_nil,List.drop_nil,Option.map_none,SO.mapH,List.getElem?_cons_zero,List.getElem?_cons_succ]
  generalize yx cd 5 e=q3 at *
  refine ⟨fun c=>?_,fun c1=>⟨fun c=>?_,fun c2=>?_⟩⟩
  ·repeat (with_reducible refine Chk.mk (by first | omega | (simp only [inR];omega) | (simp only [List.length_append,List.length_cons,List.length_nil,List.length_replicate];omega)) fun _=>?_)
   refine zj.mutQ (zyw cd q3.2 0 3 ⟨hd3,hc,by decide,by decide,by decide,by decide⟩) rfl [0] (by simp [Yf]) (by simp only [Ye];exact ⟨by omega,za rfl⟩) (by decide) ?_
   rintro _ _ ⟨t4,d4,hl4,hd4,rfl,rfl⟩
   simp only [↓XC,XV,XT,Yg,seval,TES,XR,↓Yc,zr,upd,muL,List.getElem?_nil,List.drop_nil,Option.map_none,SO.mapH,List.getElem?_cons_zero,List.getElem?_cons_succ]
   have z2:450 * 8 ^ (3:Int).toNat=230400:=by decide
   repeat (with_reducible refine Chk.mk (by first | omega | (simp only [inR];omega) | (simp only [List.length_append,List.length_cons,List.length_nil,List.length_replicate];omega)) fun _=>?_)
   refine zj.mutQ (qh cd d4 [[45,45,45,10],[46,46,46,10],[45,45,45,10],[46,46,46,32,35,32,114,10,45,45,45,10],[46,46,46,10,37,84,65,71,32,33,104,33,32,120,45,10,45,45,45,10]] ⟨hd4,hc,by decide,by decide⟩) rfl [0,1] (by simp [Yf];try decide) (by simp only [Ye];exact ⟨by omega,za rfl,by omega,y3 (l:=[[45,45,45,10],[46,46,46,10],[45,45,45,10],[46,46,46,32,35,32,114,10,45,45,45,10],[46,46,46,10,37,84,65,71,32,33,104,33,32,120,45,10,45,45,45,10]])⟩) (by decide) ?_
   rintro _ _ ⟨t5,d5,hm5,hd5,rfl,rfl⟩
   have hl5:=ql (M:=20) hm5 (by decide)
   clear hm5
   simp only [↓XC,XV,XT,Yg,seval,TES,XR,↓Yc,zr,upd,muL,List.getElem?_nil,List.drop_nil,Option.map_none,SO.mapH,List.getElem?_cons_zero,List.getElem?_cons_succ]
   repeat (with_reducible refine Chk.mk (by first | omega | (simp only [inR];omega) | (simp only [List.length_append,List.length_cons,List.length_nil,List.length_replicate];omega)) fun _=>?_)
   rw [show (((r+1:Nat):Int)-1)=(r:Nat) by omega]
   repeat (with_reducible refine Chk.mk (by first | omega | (simp only [inR];omega) | (simp only [List.length_append,List.length_cons,List.length_nil,List.length_replicate];omega)) fun _=>?_)
   exact ⟨⟨(r,u++t4++t5,d5),hL.step (by simp only [List.length_append,List.length_cons,List.length_nil,List.length_replicate];omega),hd5⟩,by simp only;omega,(Ent.ren1 [0] (by decide) (by simp only [Yd];exact za rfl) (by simp [zi,Vg.look,SV.mapH,muL]))⟩
  ·repeat (with_reducible refine Chk.mk (by first | omega | (simp only [inR];omega) | (simp only [List.length_append,List.length_cons,List.length_nil,List.length_replicate];omega)) fun _=>?_)
   refine zj.mutQ (zde cd q3.2 ⟨hd3,hc⟩) rfl [0] (by simp [Yf]) (by simp only [Ye];exact ⟨by omega,za rfl⟩) (by decide) ?_
   rintro _ _ ⟨t4,d4,hl4,hd4,rfl,rfl⟩
   simp only [↓XC,XV,XT,Yg,seval,TES,XR,↓Yc,zr,upd,muL,List.getElem?_nil,List.drop_nil,Option.map_none,SO.mapH,List.getElem?_cons_zero,List.getElem?_cons_succ]
   repeat (with_reducible refine Chk.mk (by first | omega | (simp only [inR];omega) | (simp only [List.length_append,List.length_cons,List.length_nil,List.length_replicate];omega)) fun _=>?_)
   refine zj.mutQ (qh cd d4 [[45,45,45,10],[46,46,46,10],[45,45,45,10],[46,46,46,32,35,32,114,10,45,45,45,10],[46,46,46,10,37,84,65,71,32,33,104,33,32,120,45,10,45,45,45,10]] ⟨hd4,hc,by decide,by decide⟩) rfl [0,1] (by simp [Yf];try decide) (by simp only [Ye];exact ⟨by omega,za rfl,by omega,y3 (l:=[[45,45,45,10],[46,46,46,10],[45,45,45,10],[46,46,46,32,35,32,114,10,45,45,45,10],[46,46,46,10,37,84,65,71,32,33,104,33,32,120,45,10,45,45,45,10]])⟩) (by decide) ?_
   rintro _ _ ⟨t5,d5,hm5,hd5,rfl,rfl⟩
   have hl5:=ql (M:=20) hm5 (by decide)
   clear hm5
   simp only [↓XC,XV,XT,Yg,seval,TES,XR,↓Yc,zr,upd,muL,List.getElem?_nil,List.drop_nil,Option.map_none,SO.mapH,List.getElem?_cons_zero,List.getElem?_cons_succ]
   repeat (with_reducible refine Chk.mk (by first | omega | (simp only [inR];omega) | (simp only [List.length_append,List.length_cons,List.length_nil,List.length_replicate];omega)) fun _=>?_)
   rw [show (((r+1:Nat):Int)-1)=(r:Nat) by omega]
   repeat (with_reducible refine Chk.mk (by first | omega | (simp only [inR];omega) | (simp only [List.length_append,List.length_cons,List.length_nil,List.length_replicate];omega)) fun _=>?_)
   exact ⟨⟨(r,u++[45,45,45,32]++t4++[10]++t5,d5),hL.step (by simp only [List.length_append,List.length_cons,List.length_nil,List.length_replicate];omega),hd5⟩,by simp only;omega,(Ent.ren1 [0] (by decide) (by simp only [Yd];exact za rfl) (by simp [zi,Vg.look,SV.mapH,muL]))⟩
  ·repeat (with_reducible refine Chk.mk (by first | omega | (simp only [inR];omega) | (simp only [List.length_append,List.length_cons,List.length_nil,List.length_replicate];omega)) fun _=>?_)
   refine zj.mutQ (zyx cd q3.2 2 ⟨hd3,hc,by decide⟩) rfl [0] (by simp [Yf]) (by simp only [Ye];exact ⟨by omega,za rfl⟩) (by decide) ?_
   rintro _ _ ⟨t4,d4,hl4,hd4,rfl,rfl⟩
   simp only [↓XC,XV,XT,Yg,seval,TES,XR,↓Yc,zr,upd,muL,List.getElem?_nil,List.drop_nil,Option.map_none,SO.mapH,List.getElem?_cons_zero,List.getElem?_cons_succ]
   have z2:30 * 8 ^ (2:Int).toNat=1920:=by decide
   repeat (with_reducible refine Chk.mk (by first | omega | (simp only [inR];omega) | (simp only [List.length_append,List.length_cons,List.length_nil,List.length_replicate];omega)) fun _=>?_)
   refine zj.mutQ (qh cd d4 [[45,45,45,10],[46,46,46,10],[45,45,45,10],[46,46,46,32,35,32,114,10,45,45,45,10],[46,46,46,10,37,84,65,71,32,33,104,33,32,120,45,10,45,45,45,10]] ⟨hd4,hc,by decide,by decide⟩) rfl [0,1] (by simp [Yf];try decide) (by simp only [Ye];exact ⟨by omega,za rfl,by omega,y3 (l:=[[45,45,45,10],[46,46,46,10],[45,45,45,10],[46,46,46,32,35,32,114,10,45,45,45,10],[46,46,46,10,37,84,65,71,32,33,104,33,32,120,45,10,45,45,45,10]])⟩) (by decide) ?_
   rintro _ _ ⟨t5,d5,hm5,hd5,rfl,rfl⟩
   have hl5:=ql (M:=20) hm5 (by decide)
   clear hm5
   simp only [↓XC,XV,XT,Yg,seval,TES,XR,↓Yc,zr,upd,muL,List.getElem?_nil,List.drop_nil,Option.map_none,SO.mapH,List.getElem?_cons_zero,List.getElem?_cons_succ]
   repeat (with_reducible refine Chk.mk (by first | omega | (simp only [inR];omega) | (simp only [List.length_append,List.length_cons,List.length_nil,List.length_replicate];omega)) fun _=>?_)
   rw [show (((r+1:Nat):Int)-1)=(r:Nat) by omega]
   repeat (with_reducible refine Chk.mk (by first | omega | (simp only [inR];omega) | (simp only [List.length_append,List.length_cons,List.length_nil,List.length_replicate];omega)) fun _=>?_)
   exact ⟨⟨(r,u++t4++[10]++t5,d5),hL.step (by simp only [List.length_append,List.length_cons,List.length_nil,List.length_replicate];omega),hd5⟩,by simp only;omega,(Ent.ren1 [0] (by decide) (by simp only [Yd];exact za rfl) (by simp [zi,Vg.look,SV.mapH,muL]))⟩
theorem l12Any (cd:Bs) (d:Nat×Int) (hp:d.1≤cd.length∧cd.length≤1048576):FnK Tryz.prog 65 1 [.ptr 0 0 0] [some (.blk false [.fs 1 (cd.map u6),.i .i64 (d.1:Nat),.i .i64 d.2])] (fun z c=>DrS cd 720410 z c):=by
 refine FnK.ofQ (cf:=zk Tryz.prog te [] 12 1 false (fun _=>false) (kp [(0,[0]),(1,[0,5]),(2,[2]),(3,[2])]) [] []) (zf te_ok (l:=[]) (trivial) zc) Tryz.func65 rfl rfl rfl (by simp [zk]) (by simp [zk]) (rs:=[.tmp 2]) rfl 100000 ?_
 simp only [↓XC,XV,XT,Yg,seval,TES,XR,↓Yc]
 have hc:=hp.2
 repeat (with_reducible refine Chk.mk (by first | omega | (simp only [inR];omega) | (simp only [List.length_append,List.length_cons,List.length_nil,List.length_replicate];omega)) fun _=>?_)
 have hr1:=yg cd (n:=6) d (by first | decide | omega)
 have hd1:=y6 (cd:=cd) (n:=6) hp.1
 refine zj.mut (q5 cd d 6 ⟨hp.1,hc⟩) rfl [0] (by simp [Yf]) (by simp only [Ye];exact ⟨by omega,za rfl⟩) (by decide) ?_
 simp only [↓XC,XV,XT,Yg,seval,TES,XR,↓Yc,zr,upd,muL,List.getElem?_nil,List.drop_nil,Option.map_none,SO.mapH,List.getElem?_cons_zero,List.getElem?_cons_succ]
 generalize yx cd 6 d=q1 at *
 refine ⟨fun c=>?_,fun c1=>?_⟩
 ·repeat (with_reducible refine Chk.mk (by first | omega | (simp only [inR];omega) | (simp only [List.length_append,List.length_cons,List.length_nil,List.length_replicate];omega)) fun _=>?_)
  refine zj.mutQ (zyy cd q1.2 12 ⟨hd1,hc,by decide,by decide⟩) rfl [0] (by simp [Yf]) (by simp only [Ye];exact ⟨by omega,za rfl⟩) (by decide) ?_
  rintro _ _ ⟨t2,d2,hl2,hd2,rfl,rfl⟩
  simp only [↓XC,XV,XT,Yg,seval,TES,XR,↓Yc,zr,upd,muL,List.getElem?_nil,List.drop_nil,Option.map_none,SO.mapH,List.getElem?_cons_zero,List.getElem?_cons_succ]
  have z2:10 * (12:Int).toNat=120:=rfl
  exact ⟨_,_,DrS.mk (t2) (d2) (by first | omega | (simp only [List.length_append,List.length_cons,List.length_nil,List.length_replicate];omega)) hd2,⟨[0],by decide,by simp only [Yd];exact za rfl,by simp only [↓XC,XV,XT,Yg,seval,TES];try simp [Yf],by simp [zw,SO.ro],by simp⟩⟩
 ·repeat (with_reducible refine Chk.mk (by first | omega | (simp only [inR];omega) | (simp only [List.length_append,List.length_cons,List.length_nil,List.length_replicate];omega)) fun _=>?_)
  refine zj.mutQ (l12Draw cd q1.2 ⟨hd1,hc⟩) rfl [0] (by simp [Yf]) (by simp only [Ye];exact ⟨by omega,za rfl⟩) (by decide) ?_
  rintro _ _ ⟨t2,d2,hl2,hd2,rfl,rfl⟩
  simp only [↓XC,XV,XT,Yg,seval,TES,XR,↓Yc,zr,upd,muL,List.getElem?_nil,List.drop_nil,Option.map_none,SO.mapH,List.getElem?_cons_zero,List.getElem?_cons_succ]
  repeat (with_reducible refine Chk.mk (by first | omega | (simp only [inR];omega) | (simp only [List.length_append,List.length_cons,List.length_nil,List.length_replicate];omega)) fun _=>?_)
  refine zj.mutQ (ztl cd d2 t2 ⟨hd2,hc,by omega⟩) rfl [0] (by simp [Yf]) (by simp only [Ye];exact ⟨by omega,za rfl⟩) (by decide) ?_
  rintro _ _ ⟨t3,d3,hl3,hd3,rfl,rfl⟩
  simp only [↓XC,XV,XT,Yg,seval,TES,XR,↓Yc,zr,upd,muL,List.getElem?_nil,List.drop_nil,Option.map_none,SO.mapH,List.getElem?_cons_zero,List.getElem?_cons_succ]
  exact ⟨_,_,DrS.mk (t3) (d3) (by first | omega | (simp only [List.length_append,List.length_cons,List.length_nil,List.length_replicate];omega)) hd3,⟨[0],by decide,by simp only [Yd];exact za rfl,by simp only [↓XC,XV,XT,Yg,seval,TES];try simp [Yf],by simp [zw,SO.ro],by simp⟩⟩
theorem l16Text (cd:Bs) (d:Nat×Int) (hp:d.1≤cd.length∧cd.length≤1048576):FnK Tryz.prog 67 1 [.ptr 0 0 0] [some (.blk false [.fs 1 (cd.map u6),.i .i64 (d.1:Nat),.i .i64 d.2])] (fun z c=>DrS cd 720420 z c):=by
 refine FnK.ofQ (cf:=zk Tryz.prog te [] 20 1 false (fun _=>false) (kp [(0,[0]),(1,[0,3]),(2,[0,3,8]),(3,[2]),(4,[0,3,4]),(5,[0,4,15]),(6,[2]),(7,[2])]) [] []) (zf te_ok (l:=[]) (trivial) zc) Tryz.func67 rfl rfl rfl (by simp [zk]) (by simp [zk]) (rs:=[.tmp 2]) rfl 100000 ?_
 simp only [↓XC,XV,XT,Yg,seval,TES,XR,↓Yc]
 have hc:=hp.2
 repeat (with_reducible refine Chk.mk (by first | omega | (simp only [inR];omega) | (simp only [List.length_append,List.length_cons,List.length_nil,List.length_replicate];omega)) fun _=>?_)
 have hr1:=yg cd (n:=6) d (by first | decide | omega)
 have hd1:=y6 (cd:=cd) (n:=6) hp.1
 refine zj.mut (q5 cd d 6 ⟨hp.1,hc⟩) rfl [0] (by simp [Yf]) (by simp only [Ye];exact ⟨by omega,za rfl⟩) (by decide) ?_
 simp only [↓XC,XV,XT,Yg,seval,TES,XR,↓Yc,zr,upd,muL,List.getElem?_nil,List.drop_nil,Option.map_none,SO.mapH,List.getElem?_cons_zero,List.getElem?_cons_succ]
 generalize yx cd 6 d=q1 at *
 refine ⟨fun c=>?_,fun c1=>?_⟩
 ·repeat (with_reducible refine Chk.mk (by first | omega | (simp only [inR];omega) | (simp only [List.length_append,List.length_cons,List.length_nil,List.length_replicate];omega)) fun _=>?_)
  refine zj.mutQ (l12Any cd q1.2 ⟨hd1,hc⟩) rfl [0] (by simp [Yf]) (by simp only [Ye];exact ⟨by omega,za rfl⟩) (by decide) ?_
  rintro _ _ ⟨t2,d2,hl2,hd2,rfl,rfl⟩
  simp only [↓XC,XV,XT,Yg,seval,TES,XR,↓Yc,zr,upd,muL,List.getElem?_nil,List.drop_nil,Option.map_none,SO.mapH,List.getElem?_cons_zero,List.getElem?_cons_succ]
  exact ⟨_,_,DrS.mk (t2) (d2) (by first | omega | (simp only [List.length_append,List.length_cons,List.length_nil,List.length_replicate];omega)) hd2,⟨[0],by decide,by simp only [Yd];exact za rfl,by simp only [↓XC,XV,XT,Yg,seval,TES];try simp [Yf],by simp [zw,SO.ro],by simp⟩⟩
 ·repeat (with_reducible refine Chk.mk (by first | omega | (simp only [inR];omega) | (simp only [List.length_append,List.length_cons,List.length_nil,List.length_replicate];omega)) fun _=>?_)
  refine zj.mutQ (qh cd q1.2 [[97,58,32,38,97,32,91,49,44,32,123,107,58,32,38,98,32,118,44,32,108,58,32,42,98,125,93,10,98,58,32,42,97,10,99,58,10,32,32,45,32,42,97,10,32,32,45,32,38,97,32,120,10,32,32,45,32,42,97,10],[45,32,38,98,32,123,112,58,32,113,125,10,45,32,38,97,32,91,42,98,44,32,42,98,93,10,45,32,91,42,97,44,32,42,97,93,10,45,32,42,97,10],[38,97,32,107,101,121,58,32,38,98,10,32,32,45,32,49,10,32,32,45,32,116,119,111,10,42,97,32,58,32,42,98,10],[45,45,45,32,38,97,32,49,10,45,45,45,32,91,38,97,32,91,93,44,32,42,97,44,32,91,42,97,93,93,10,46,46,46,10],[38,97,32,107,58,32,118,10,120,58,32,123,97,58,32,91,98,44,32,99,44,32,123,100,58,32,42,97,125,93,125,10],[45,32,97,10,45,32,98,58,32,91,99,44,32,100,10],[120,58,32,38,97,10,32,32,121,58,32,38,98,32,91,49,44,32,42,113,93,10],[91,38,97,32,91,91,38,98,32,91,93,93,93,44,32,42,97,44,32,42,98,44,32,123,107,58,32,42,97,125,93]] ⟨hd1,hc,by decide,by decide⟩) rfl [0,1] (by simp [Yf];try decide) (by simp only [Ye];exact ⟨by omega,za rfl,by omega,y3 (l:=[[97,58,32,38,97,32,91,49,44,32,123,107,58,32,38,98,32,118,44,32,108,58,32,42,98,125,93,10,98,58,32,42,97,10,99,58,10,32,32,45,32,42,97,10,32,32,45,32,38,97,32,120,10,32,32,45,32,42,97,10],[45,32,38,98,32,123,112,58,32,113,125,10,45,32,38,97,32,91,42,98,44,32,42,98,93,10,45,32,91,42,97,44,32,42,97,93,10,45,32,42,97,10],[38,97,32,107,101,121,58,32,38,98,10,32,32,45,32,49,10,32,32,45,32,116,119,111,10,42,97,32,58,32,42,98,10],[45,45,45,32,38,97,32,49,10,45,45,45,32,91,38,97,32,91,93,44,32,42,97,44,32,91,42,97,93,93,10,46,46,46,10],[38,97,32,107,58,32,118,10,120,58,32,123,97,58,32,91,98,44,32,99,44,32,123,100,58,32,42,97,125,93,125,10],[45,32,97,10,45,32,98,58,32,91,99,44,32,100,10],[120,58,32,38,97,10,32,32,121,58,32,38,98,32,91,49,44,32,42,113,93,10],[91,38,97,32,91,91,38,98,32,91,93,93,93,44,32,42,97,44,32,42,98,44,32,123,107,58,32,42,97,125,93]])⟩) (by decide) ?_
  rintro _ _ ⟨t2,d2,hm2,hd2,rfl,rfl⟩
  have hl2:=ql (M:=60) hm2 (by decide)
  clear hm2
  simp only [↓XC,XV,XT,Yg,seval,TES,XR,↓Yc,zr,upd,muL,List.getElem?_nil,List.drop_nil,Option.map_none,SO.mapH,List.getElem?_cons_zero,List.getElem?_cons_succ]
  refine ⟨fun c=>?_,fun c1=>?_⟩
  ·repeat (with_reducible refine Chk.mk (by first | omega | (simp only [inR];omega) | (simp only [List.length_append,List.length_cons,List.length_nil,List.length_replicate];omega)) fun _=>?_)
   refine zj.mutQ (ztl cd d2 t2 ⟨hd2,hc,by omega⟩) rfl [0] (by simp [Yf]) (by simp only [Ye];exact ⟨by omega,za rfl⟩) (by decide) ?_
   rintro _ _ ⟨t3,d3,hl3,hd3,rfl,rfl⟩
   simp only [↓XC,XV,XT,Yg,seval,TES,XR,↓Yc,zr,upd,muL,List.getElem?_nil,List.drop_nil,Option.map_none,SO.mapH,List.getElem?_cons_zero,List.getElem?_cons_succ]
   exact ⟨_,_,DrS.mk (t3) (d3) (by first | omega | (simp only [List.length_append,List.length_cons,List.length_nil,List.length_replicate];omega)) hd3,⟨[0],by decide,by simp only [Yd];exact za rfl,by simp only [↓XC,XV,XT,Yg,seval,TES];try simp [Yf],by simp [zw,SO.ro],by simp⟩⟩
  ·exact ⟨_,_,DrS.mk (t2) (d2) (by first | omega | (simp only [List.length_append,List.length_cons,List.length_nil,List.length_replicate];omega)) hd2,⟨[0],by decide,by simp only [Yd];exact za rfl,by simp only [↓XC,XV,XT,Yg,seval,TES];try simp [Yf],by simp [zw,SO.ro],by simp⟩⟩
end Go.T
end
section
set_option linter.unusedVariables false
set_option linter.unusedSimpArgs false
set_option linter.unusedSectionVars false
set_option linter.unnecessarySimpa false
namespace Go.T
variable [Go.Vg.Glob]
open Go.Proofs Go.Vg Go.RowKit Go.TT Go.Pl
set_option maxRecDepth 10000
set_option maxHeartbeats 4000000
theorem zre (cd:Bs) (hp:cd.length≤1048576):FnK Tryz.prog 15 0 [.fs 1 (cd.map u6)] [] (fun z c=>∃ t:Bs,t.length≤720420∧z=.s t∧c=[]):=by
 refine FnK.ofQ (cf:=zk Tryz.prog te [] 15 0 false (fun _=>false) (kp [(0,[0]),(1,[3]),(2,[3,4]),(3,[3,4,11]),(4,[4]),(5,[2])]) [] []) (zf te_ok (l:=[]) (trivial) zc) Tryz.func15 rfl rfl rfl (by simp [zk]) (by simp [zk]) (rs:=[.tmp 2]) rfl 100000 ?_
 simp only [↓XC,XV,XT,Yg,seval,TES,XR,↓Yc]
 have hc:=hp
 refine zj.own (zvb cd hp) rfl ?_
 simp only [↓XC,XV,XT,Yg,seval,TES,XR,↓Yc,zr,upd,muL,List.getElem?_nil,List.drop_nil,Option.map_none,SO.mapH,List.getElem?_cons_zero,List.getElem?_cons_succ]
 repeat (with_reducible refine Chk.mk (by first | omega | (simp only [inR];omega) | (simp only [List.length_append,List.length_cons,List.length_nil,List.length_replicate];omega)) fun _=>?_)
 refine zj.mutQ (l12Any cd (zvh cd) ⟨(drNew_le (cd:=cd)),hc⟩) rfl [0] (by simp [Yf]) (by simp only [Ye];exact ⟨by omega,za rfl⟩) (by decide) ?_
 rintro _ _ ⟨t1,d1,hl1,hd1,rfl,rfl⟩
 simp only [↓XC,XV,XT,Yg,seval,TES,XR,↓Yc,zr,upd,muL,List.getElem?_nil,List.drop_nil,Option.map_none,SO.mapH,List.getElem?_cons_zero,List.getElem?_cons_succ]
 repeat (with_reducible refine Chk.mk (by first | omega | (simp only [inR];omega) | (simp only [List.length_append,List.length_cons,List.length_nil,List.length_replicate];omega)) fun _=>?_)
 have hr2:=yg cd (n:=3) d1 (by first | decide | omega)
 have hd2:=y6 (cd:=cd) (n:=3) hd1
 refine zj.mut (q5 cd d1 3 ⟨hd1,hc⟩) rfl [0] (by simp [Yf]) (by simp only [Ye];exact ⟨by omega,za rfl⟩) (by decide) ?_
 simp only [↓XC,XV,XT,Yg,seval,TES,XR,↓Yc,zr,upd,muL,List.getElem?_nil,List.drop_nil,Option.map_none,SO.mapH,List.getElem?_cons_zero,List.getElem?_cons_succ]
 generalize yx cd 3 d1=q2 at *
 refine ⟨fun c=>?_,fun c1=>?_⟩
 ·repeat (with_reducible refine Chk.mk (by first | omega | (simp only [inR];omega) | (simp only [List.length_append,List.length_cons,List.length_nil,List.length_replicate];omega)) fun _=>?_)
  refine zj.mutQ (l16Text cd q2.2 ⟨hd2,hc⟩) rfl [0] (by simp [Yf]) (by simp only [Ye];exact ⟨by omega,za rfl⟩) (by decide) ?_
  rintro _ _ ⟨t3,d3,hl3,hd3,rfl,rfl⟩
  simp only [↓XC,XV,XT,Yg,seval,TES,XR,↓Yc,zr,upd,muL,List.getElem?_nil,List.drop_nil,Option.map_none,SO.mapH,List.getElem?_cons_zero,List.getElem?_cons_succ]
  exact ⟨_,_,⟨t3,by omega,rfl,rfl⟩,⟨[],by decide,by simp only [Yd];,by simp only [↓XC,XV,XT,Yg,seval];try simp [Yf],by simp [zw,SO.ro],by simp⟩⟩
 ·exact ⟨_,_,⟨t1,by omega,rfl,rfl⟩,⟨[],by decide,by simp only [Yd];,by simp only [↓XC,XV,XT,Yg,seval];try simp [Yf],by simp [zw,SO.ro],by simp⟩⟩
end Go.T
end
section
set_option linter.unusedVariables false
set_option linter.unusedSimpArgs false
set_option linter.unusedSectionVars false
set_option linter.unnecessarySimpa false
namespace Go.T
variable [Go.Vg.Glob]
open Go.Proofs Go.Vg Go.RowKit Go.TT Go.Pl
set_option maxRecDepth 10000
set_option maxHeartbeats 4000000
theorem isFlow (b:Int):PF Tryz.prog 183 [.i .i64 b] (.b (flw b)):=by
 refine ⟨rfl,rfl,FnK.of (cf:=zk Tryz.prog te [] 21 0 false (fun _=>false) (kp [(0,[0]),(1,[2])]) [] []) (zf te_ok (l:=[]) (trivial) zc) Tryz.func183 rfl rfl rfl (by simp [zk]) (by simp [zk]) (rs:=[.tmp 2]) rfl 100000 ?_⟩
 simp only [↓XC,XV,XT,Yg,seval,TES]
 rfl
noncomputable def wu:PE:=peR (fun (b:Int)=>[.i .i64 b]) (fun (b:Int)=>True) (fun (b:Int)=>.b (flw b))
theorem yb {b:Int}:wu [.i .i64 b]=some (True,.b (flw b)):=yh (by rintro a b h;simp_all []) b
theorem j5:PE1 Tryz.prog 183 wu:=yl (by rintro b hp;exact isFlow b)
theorem isName (s:Bs):PF Tryz.prog 148 [.s s] (.b (zoy s)):=by
 refine ⟨rfl,rfl,FnK.of (cf:=zk Tryz.prog te [(185,qe),(184,wo),(183,wu)] 28 0 false (fun _=>false) (kp [(0,[0]),(1,[0,7]),(2,[2]),(3,[0,9,10]),(4,[0,9,10,11]),(5,[0,3,9,10]),(6,[0,4,9,10]),(7,[0,9,10,26]),(8,[2]),(9,[0,9,10]),(10,[2])]) [] []) (zf te_ok (l:=[(185,qe),(184,wo),(183,wu)]) (⟨wt,vf,j5,trivial⟩) zc) Tryz.func148 rfl rfl rfl (by simp [zk]) (by simp [zk]) (rs:=[.tmp 2]) rfl 100000 ?_⟩
 simp only [↓XC,XV,XT,Yg,seval,TES,z7,km,yb]
 refine ⟨fun h=>?_,fun h=>?_⟩
 ·simp [zoy];omega
 refine yv.of (ι:={i:Nat // i≤s.length∧∀ j,j<i→nmc (s.getD j 0).toNat=false}) (fun x=>⟨[(0,.s s),(9,.i .i64 (s.length:Nat)),(10,.i .i64 (x.1:Nat))],[]⟩) (fun x=>s.length-x.1) ⟨0,Nat.zero_le _,fun j hj=>absurd hj (Nat.not_lt_zero _)⟩ (Ent.refl _ _) ?_
 rintro ⟨i,hi,hj⟩
 simp only [↓XC,XV,XT,Yg,seval,TES,z7,km,yb]
 refine ⟨fun hl=>Chk.mk (by omega) fun _=>Chk.mk (by have:=(s.getD i 0).toNat_lt;simp only [inR];omega) fun _=>⟨fun hb=>?_,fun hn=>Chk.mk (by simp only [inR];omega) fun _=>?_⟩,fun hl=>?_⟩
 ·rw [isNm_bad (j:=i) (by omega) hb]
 ·refine ⟨⟨i+1,by omega,zy4 hj hn⟩,by simp only;omega,(by first | exact Ent.refl _ _ | (simp only [Int.natCast_add,Int.natCast_one];exact Ent.refl _ _))⟩
 ·rw [ztn (by omega) (by rw [show s.length=i by omega];exact hj)]
noncomputable def zdz:PE:=peR (fun (s:Bs)=>[.s s]) (fun (s:Bs)=>True) (fun (s:Bs)=>.b (zoy s))
theorem zn6 {s:Bs}:zdz [.s s]=some (True,.b (zoy s)):=yh (by rintro a b h;simp_all []) s
theorem zn5:PE1 Tryz.prog 148 zdz:=yl (by rintro s hp;exact isName s)
theorem eqEv {k st:Int} {fl:Bool} {x a g:Bs} {p c k' st':Int} {fl':Bool} {x' a' g':Bs} {p' c':Int}:eqAt te 4 28 (.agg [.i .i64 k,.i .i64 st,.b fl,.s x,.s a,.s g,.i .i64 p,.i .i64 c]) (.agg [.i .i64 k',.i .i64 st',.b fl',.s x',.s a',.s g',.i .i64 p',.i .i64 c'])=some (decide (k=k')&&(decide (st=st')&&((fl==fl')&&(decide (x=x')&&(decide (a=a')&&(decide (g=g')&&(decide (p=p')&&(decide (c=c')&&true)))))))):=by
 simp [eqAt,eqFs,zxw,te_28,te_3,te_4,te_9,tdOf,TD.isStruct]
theorem z0o (k st:Int) (fl:Bool) (x a g:Bs) (p c:Int):PF Tryz.prog 72 [.agg [.i .i64 k,.i .i64 st,.b fl,.s x,.s a,.s g,.i .i64 p,.i .i64 c]] (.b (zaw ⟨k,st,fl,x,a,g,p,c⟩)):=by
 refine ⟨rfl,rfl,FnK.of (cf:=zk Tryz.prog te [(147,qr),(148,zdz)] 98 0 false (fun _=>false) (kp [(0,[1]),(1,[1,3]),(2,[1,3,8]),(3,[2]),(4,[1,3,8,9]),(5,[1,3,8,9]),(6,[1,3,8,9]),(7,[1,3,8,13]),(8,[1,3,8,13]),(9,[1,3]),(10,[1,3,8,19]),(11,[1,3,8,19]),(12,[1,3]),(13,[1,3,34]),(14,[2]),(15,[1,3,8,35]),(16,[1,3]),(17,[1,3,52]),(18,[2]),(19,[1,3,8,53]),(20,[1,3]),(21,[1,3,66]),(22,[2]),(23,[1,3,67]),(24,[1,3]),(25,[1,3,83]),(26,[2]),(27,[2])]) [] [(12,[7,9,11],[1],.q1 0 (.q1 2 (.q1 4 (.q0 1 [1,6,7,8,9,10,11] (.q1 6 (.q1 3 (.q1 5 (.sw (.alt 7 (.q1 8 (.alt 9 (.q1 10 (.alt 11 (.fin) (.fin))) (.fin))) (.fin)))))))))),(16,[9,11,13,15],[1],.q1 0 (.q1 2 (.q1 4 (.q1 6 (.q0 1 [1,8,9,10,11,12,13,14,15] (.q1 8 (.q1 3 (.q1 5 (.q1 7 (.sw (.alt 9 (.q1 10 (.alt 11 (.q1 12 (.alt 13 (.q1 14 (.alt 15 (.fin) (.fin))) (.fin))) (.fin))) (.fin)))))))))))),(24,[5,7],[1],.q1 0 (.q1 2 (.q0 1 [1,4,5,6,7] (.q1 4 (.q1 3 (.sw (.alt 5 (.q1 6 (.alt 7 (.fin) (.fin))) (.fin))))))))]) (zf te_ok (l:=[(147,qr),(148,zdz)]) (⟨kb,zn5,trivial⟩) zc) Tryz.func72 rfl rfl rfl (by simp [zk]) (by simp [zk]) (rs:=[.tmp 2]) rfl 100000 ?_⟩
 simp only [↓XC,XV,XT,Yg,seval,TES,wa,zn6,eqEv,List.contains_cons,beq_iff_eq]
 repeat' (first | with_reducible refine Chk.mk ?_ fun _=>?_ | with_reducible refine And.intro ?_ ?_ | intro _)
 all_goals first
  | (with_reducible refine (?_:znk _ _ _=true);decide +kernel)
  | (exfalso;omega)
  | (simp_all [zaw,zd8];done)
  | (simp_all [zaw,zd8];grind)
  | (by_cases ha:a=[]<;>by_cases hg:g=[]<;>simp_all [zaw,zd8]<;>grind)
noncomputable def u5:PE:=peR (fun (x:Int×Int×Bool×Bs×Bs×Bs×Int×Int)=>match x with | (k,st,fl,x,a,g,p,c)=>[.agg [.i .i64 k,.i .i64 st,.b fl,.s x,.s a,.s g,.i .i64 p,.i .i64 c]]) (fun (x:Int×Int×Bool×Bs×Bs×Bs×Int×Int)=>match x with | (k,st,fl,x,a,g,p,c)=>True) (fun (x:Int×Int×Bool×Bs×Bs×Bs×Int×Int)=>match x with | (k,st,fl,x,a,g,p,c)=>.b (zaw ⟨k,st,fl,x,a,g,p,c⟩))
theorem uo {k st:Int} {fl:Bool} {x a g:Bs} {p c:Int}:u5 [.agg [.i .i64 k,.i .i64 st,.b fl,.s x,.s a,.s g,.i .i64 p,.i .i64 c]]=some (True,.b (zaw ⟨k,st,fl,x,a,g,p,c⟩)):=yh (by rintro ⟨a0,a1,a2,a3,a4,a5,a6,a7⟩ ⟨b0,b1,b2,b3,b4,b5,b6,b7⟩ h;simp_all []) (k,st,fl,x,a,g,p,c)
theorem zhk:PE1 Tryz.prog 72 u5:=yl (by rintro ⟨k,st,fl,x,a,g,p,c⟩ hp;exact z0o k st fl x a g p c)
end Go.T
end
