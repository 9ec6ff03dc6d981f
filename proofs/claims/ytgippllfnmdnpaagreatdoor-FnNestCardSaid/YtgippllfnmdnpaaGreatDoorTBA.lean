/- Own text: part TBA. -/
import Derived.Test.YtgippllfnmdnpaaGreatDoorTAZ
set_option linter.unusedVariables false
set_option linter.unusedSimpArgs false
set_option linter.unusedSectionVars false
set_option linter.unnecessarySimpa false
namespace Go.T
variable [Go.Vg.Glob]
open Go.Proofs Go.Vg Go.RowKit Go.TT Go.Pl
set_option maxRecDepth 10000
set_option maxHeartbeats 4000000
theorem zqz:∀ (bound:Nat) (cd:Bs) (d:Nat×Int) (n p:Int),(d.1≤cd.length∧cd.length≤1048576∧0≤n∧n≤100∧n+2 * p≤100∧p≤4)→p.toNat<bound→FnK Tryz.prog 205 1 [.ptr 0 0 0,.i .i64 n,.i .i64 p] [some (.blk false [.fs 1 (cd.map u6),.i .i64 (d.1:Nat),.i .i64 d.2])] (fun z c=>DrS cd (450 * 8 ^ p.toNat) z c):=by
 intro bound
 induction bound with
 | zero=>intro cd d n p _ h;exact absurd h (Nat.not_lt_zero _)
 | succ bound ih=>
 intro cd d n p hp hm
 refine FnK.ofQ (cf:=zk Tryz.prog te [(244,zao)] 118 1 false (fun _=>false) (kp [(0,[0,1,2]),(1,[0,1,2,7]),(2,[0,1,2,7,14]),(3,[0,1,2,7]),(4,[0,1,2,7,8]),(5,[0,1,2,7,8,15]),(6,[0,1,2,8,9]),(7,[0,1,2,8,9,22]),(8,[0,1,2,8,9]),(9,[0,1,2,8,9,26]),(10,[0,1,2,8,9]),(11,[0,1,2,8,9]),(12,[0,1,2,8,9]),(13,[6]),(14,[0,1,2,7,8,51]),(15,[0,1,2,8,10]),(16,[0,1,2,8,10,58]),(17,[0,1,2,8,10]),(18,[0,1,2,8,10,62]),(19,[0,1,2,8,10]),(20,[0,1,2,8,10]),(21,[0,1,2,8,10,75]),(22,[0,1,2,8,10]),(23,[0,1,2,8,10]),(24,[6]),(25,[0,1,93]),(26,[6]),(27,[6])]) [] []) (zf te_ok (l:=[(244,zao)]) (⟨zfw,trivial⟩) zc) Tryz.func205 rfl rfl rfl (by simp [zk]) (by simp [zk]) (rs:=[.tmp 6]) rfl 100000 ?_
 simp only [↓XC,XV,XT,Yg,seval,TES,zp,XR,↓Yc]
 have hc:=hp.2.1
 have hpz:1≤8 ^ p.toNat:=Nat.pow_pos (by decide)
 have hpb:8 ^ p.toNat≤8 ^ 4:=Nat.pow_le_pow_right (by decide) (by omega)
 repeat (with_reducible refine Chk.mk (by first | omega | (simp only [inR];omega) | (simp only [List.length_append,List.length_cons,List.length_nil,List.length_replicate];omega)) fun _=>?_)
 have hr1:=yg cd (n:=9) d (by first | decide | omega)
 have hd1:=y6 (cd:=cd) (n:=9) hp.1
 refine zj.mut (q5 cd d 9 ⟨hp.1,hc⟩) rfl [0] (by simp [Yf]) (by simp only [Ye];exact ⟨by omega,za rfl⟩) (by decide) ?_
 simp only [↓XC,XV,XT,Yg,seval,TES,zp,XR,↓Yc,zr,upd,muL,List.getElem?_nil,List.drop_nil,Option.map_none,SO.mapH,List.getElem?_cons_zero,List.getElem?_cons_succ]
 generalize yx cd 9 d=q1 at *
 refine ⟨fun hk=>?_,fun hk=>?_⟩
 ·try (refine ⟨fun h=>absurd h (by decide),fun _=>?_⟩)
  repeat (with_reducible refine Chk.mk (by first | omega | (simp only [inR];omega) | (simp only [List.length_append,List.length_cons,List.length_nil,List.length_replicate];omega)) fun _=>?_)
  refine zj.mutQ (zde cd q1.2 ⟨hd1,hc⟩) rfl [0] (by simp [Yf]) (by simp only [Ye];exact ⟨by omega,za rfl⟩) (by decide) ?_
  rintro _ _ ⟨t2,d2,hl2,hd2,rfl,rfl⟩
  simp only [↓XC,XV,XT,Yg,seval,TES,zp,XR,↓Yc,zr,upd,muL,List.getElem?_nil,List.drop_nil,Option.map_none,SO.mapH,List.getElem?_cons_zero,List.getElem?_cons_succ]
  repeat (with_reducible refine Chk.mk (by first | omega | (simp only [inR];omega) | (simp only [List.length_append,List.length_cons,List.length_nil,List.length_replicate];omega)) fun _=>?_)
  refine zj.mutQ (qh cd d2 [[10],[10],[10],10::(List.replicate n.toNat 32++[32,109,111,114,101,10])] ⟨hd2,hc,by simp,by simp⟩) rfl [0,1] (by simp [Yf];try decide) (by simp only [Ye];exact ⟨by omega,za rfl,by omega,y3 (l:=[[10],[10],[10],10::(List.replicate n.toNat 32++[32,109,111,114,101,10])])⟩) (by decide) ?_
  rintro _ _ ⟨t3,d3,hm3,hd3,rfl,rfl⟩
  have hl3:t3.length≤107:=by
   simp only [List.mem_cons,List.not_mem_nil,or_false] at hm3
   rcases hm3 with rfl | rfl | rfl | rfl<;>simp only [List.length_cons,List.length_nil,List.length_append,List.length_replicate]<;>omega
  clear hm3
  simp only [↓XC,XV,XT,Yg,seval,TES,zp,XR,↓Yc,zr,upd,muL,List.getElem?_nil,List.drop_nil,Option.map_none,SO.mapH,List.getElem?_cons_zero,List.getElem?_cons_succ]
  repeat (with_reducible refine Chk.mk (by first | omega | (simp only [inR];omega) | (simp only [List.length_append,List.length_cons,List.length_nil,List.length_replicate];omega)) fun _=>?_)
  exact ⟨_,_,DrS.mk (t2++t3) (d3) (by first | omega | (simp only [List.length_append,List.length_cons,List.length_nil,List.length_replicate];omega)) hd3,⟨[0],by decide,by simp only [Yd];exact za rfl,by simp only [↓XC,XV,XT,Yg,seval,TES];try simp [Yf],by simp [zw,SO.ro],by simp⟩⟩
 ·refine ⟨fun c=>?_,fun c1=>⟨fun c=>?_,fun c2=>⟨fun c=>?_,fun c3=>?_⟩⟩⟩
  ·have hk1:1≤p:=by omega
   obtain ⟨z1,z2,z3⟩:=pw8 hk1
   repeat (with_reducible refine Chk.mk (by first | omega | (simp only [inR];omega) | (simp only [List.length_append,List.length_cons,List.length_nil,List.length_replicate];omega)) fun _=>?_)
   have hr2:=yg cd (n:=3) q1.2 (by first | decide | omega)
   have hd2:=y6 (cd:=cd) (n:=3) hd1
   refine zj.mut (q5 cd q1.2 3 ⟨hd1,hc⟩) rfl [0] (by simp [Yf]) (by simp only [Ye];exact ⟨by omega,za rfl⟩) (by decide) ?_
   simp only [↓XC,XV,XT,Yg,seval,TES,zp,XR,↓Yc,zr,upd,muL,List.getElem?_nil,List.drop_nil,Option.map_none,SO.mapH,List.getElem?_cons_zero,List.getElem?_cons_succ]
   generalize yx cd 3 q1.2=q2 at *
   repeat (with_reducible refine Chk.mk (by first | omega | (simp only [inR];omega) | (simp only [List.length_append,List.length_cons,List.length_nil,List.length_replicate];omega)) fun _=>?_)
   refine yv.of (ι:={x:Nat×Bs×Nat×Int // lp3 (0) ((450 * 8 ^ (p-1).toNat+720)) x.1 x.2.1.length∧x.2.2.1≤cd.length}) (fun x=>⟨[(0,.ptr 0 0 0),(1,.i .i64 n),(2,.i .i64 p),(8,.s x.1.2.1),(9,.i .i64 (x.1.1:Nat))],[some (.blk false [.fs 1 (cd.map u6),.i .i64 (x.1.2.2.1:Nat),.i .i64 x.1.2.2.2])]⟩) (fun x=>x.1.1) ⟨((1+q2.1).toNat,[],q2.2),lp3.start (by omega) (by simp only [List.length_append,List.length_cons,List.length_nil];omega),hd2⟩ (Ent.ren1 [0] (by decide) (by simp only [Yd];exact za rfl) (by simp [zi,Vg.look,SV.mapH,muL];omega)) ?_
   rintro ⟨⟨r,u,e⟩,hL,he⟩
   simp only [↓XC,XV,XT,Yg,seval,TES,zp,XR,↓Yc]
   simp only at hL he
   have hA:=hL.all
   have hr3:=hL.le
   rcases r with _ | r
   ·refine ⟨fun h=>absurd h (by omega),fun _=>?_⟩
    repeat (with_reducible refine Chk.mk (by first | omega | (simp only [inR];omega) | (simp only [List.length_append,List.length_cons,List.length_nil,List.length_replicate];omega)) fun _=>?_)
    exact ⟨_,_,DrS.mk (u) (e) (by first | omega | (simp only [List.length_append,List.length_cons,List.length_nil,List.length_replicate];omega)) he,⟨[0],by decide,by simp only [Yd];exact za rfl,by simp only [↓XC,XV,XT,Yg,seval,TES];try simp [Yf],by simp [zw,SO.ro],by simp⟩⟩
   ·refine ⟨fun _=>?_,fun h=>absurd h (by omega)⟩
    refine ⟨fun hz=>?_,fun hz=>?_⟩
    ·repeat (with_reducible refine Chk.mk (by first | omega | (simp only [inR];omega) | (simp only [List.length_append,List.length_cons,List.length_nil,List.length_replicate];omega)) fun _=>?_)
     refine zj.mutQ (qh cd e [[],[],[],[38,97,32]] ⟨he,hc,by decide,by decide⟩) rfl [0,1] (by simp [Yf];try decide) (by simp only [Ye];exact ⟨by omega,za rfl,by omega,y3 (l:=[[],[],[],[38,97,32]])⟩) (by decide) ?_
     rintro _ _ ⟨t3,d3,hm3,hd3,rfl,rfl⟩
     have hl3:=ql (M:=3) hm3 (by decide)
     clear hm3
     simp only [↓XC,XV,XT,Yg,seval,TES,zp,XR,↓Yc,zr,upd,muL,List.getElem?_nil,List.drop_nil,Option.map_none,SO.mapH,List.getElem?_cons_zero,List.getElem?_cons_succ]
     repeat (with_reducible refine Chk.mk (by first | omega | (simp only [inR];omega) | (simp only [List.length_append,List.length_cons,List.length_nil,List.length_replicate];omega)) fun _=>?_)
     refine zj.mutQ (qh cd d3 [[97],[107,101,121],[39,107,39],[34,107,34],[42,97],[120,32,121]] ⟨hd3,hc,by decide,by decide⟩) rfl [0,2] (by simp [Yf];try decide) (by simp only [Ye];exact ⟨by omega,za rfl,by omega,y3 (l:=[[97],[107,101,121],[39,107,39],[34,107,34],[42,97],[120,32,121]])⟩) (by decide) ?_
     rintro _ _ ⟨t4,d4,hm4,hd4,rfl,rfl⟩
     have hl4:=ql (M:=3) hm4 (by decide)
     clear hm4
     simp only [↓XC,XV,XT,Yg,seval,TES,zp,XR,↓Yc,zr,upd,muL,List.getElem?_nil,List.drop_nil,Option.map_none,SO.mapH,List.getElem?_cons_zero,List.getElem?_cons_succ]
     repeat (with_reducible refine Chk.mk (by first | omega | (simp only [inR];omega) | (simp only [List.length_append,List.length_cons,List.length_nil,List.length_replicate];omega)) fun _=>?_)
     refine zj.mutQ (qh cd d4 [[58],[58],[32,58]] ⟨hd4,hc,by decide,by decide⟩) rfl [0,3] (by simp [Yf];try decide) (by simp only [Ye];exact ⟨by omega,za rfl,by omega,y3 (l:=[[58],[58],[32,58]])⟩) (by decide) ?_
     rintro _ _ ⟨t5,d5,hm5,hd5,rfl,rfl⟩
     have hl5:=ql (M:=2) hm5 (by decide)
     clear hm5
     simp only [↓XC,XV,XT,Yg,seval,TES,zp,XR,↓Yc,zr,upd,muL,List.getElem?_nil,List.drop_nil,Option.map_none,SO.mapH,List.getElem?_cons_zero,List.getElem?_cons_succ]
     repeat (with_reducible refine Chk.mk (by first | omega | (simp only [inR];omega) | (simp only [List.length_append,List.length_cons,List.length_nil,List.length_replicate];omega)) fun _=>?_)
     refine zj.mutQ (zor cd d5 n p (450 * 8 ^ (p-1).toNat) (fun e m k1 k2 k3=>ih cd e m (p-1) ⟨k1,hc,k2,by omega,by omega,by omega⟩ (by omega)) ⟨hd5,hc,by omega,by omega,by omega,by omega,by omega⟩) rfl [0] (by simp [Yf]) (by simp only [Ye];exact ⟨by omega,za rfl⟩) (by decide) ?_
     rintro _ _ ⟨t6,d6,hl6,hd6,rfl,rfl⟩
     simp only [↓XC,XV,XT,Yg,seval,TES,zp,XR,↓Yc,zr,upd,muL,List.getElem?_nil,List.drop_nil,Option.map_none,SO.mapH,List.getElem?_cons_zero,List.getElem?_cons_succ]
     repeat (with_reducible refine Chk.mk (by first | omega | (simp only [inR];omega) | (simp only [List.length_append,List.length_cons,List.length_nil,List.length_replicate];omega)) fun _=>?_)
     rw [show (((r+1:Nat):Int)-1)=(r:Nat) by omega]
     repeat (with_reducible refine Chk.mk (by first | omega | (simp only [inR];omega) | (simp only [List.length_append,List.length_cons,List.length_nil,List.length_replicate];omega)) fun _=>?_)
     exact ⟨⟨(r,u++List.replicate n.toNat 32++t3++t4++t5++t6,d6),hL.step (by simp only [List.length_append,List.length_cons,List.length_nil,List.length_replicate];omega),hd6⟩,by simp only;omega,(Ent.ren1 [0] (by decide) (by simp only [Yd];exact za rfl) (by simp [zi,Vg.look,SV.mapH,muL]))⟩
    ·repeat (with_reducible refine Chk.mk (by first | omega | (simp only [inR];omega) | (simp only [List.length_append,List.length_cons,List.length_nil,List.length_replicate];omega)) fun _=>?_)
     refine zj.mutQ (qh cd e [[],[],[],[38,97,32]] ⟨he,hc,by decide,by decide⟩) rfl [0,1] (by simp [Yf];try decide) (by simp only [Ye];exact ⟨by omega,za rfl,by omega,y3 (l:=[[],[],[],[38,97,32]])⟩) (by decide) ?_
     rintro _ _ ⟨t3,d3,hm3,hd3,rfl,rfl⟩
     have hl3:=ql (M:=3) hm3 (by decide)
     clear hm3
     simp only [↓XC,XV,XT,Yg,seval,TES,zp,XR,↓Yc,zr,upd,muL,List.getElem?_nil,List.drop_nil,Option.map_none,SO.mapH,List.getElem?_cons_zero,List.getElem?_cons_succ]
     repeat (with_reducible refine Chk.mk (by first | omega | (simp only [inR];omega) | (simp only [List.length_append,List.length_cons,List.length_nil,List.length_replicate];omega)) fun _=>?_)
     refine zj.mutQ (qh cd d3 [[97],[107,101,121],[39,107,39],[34,107,34],[42,97],[120,32,121]] ⟨hd3,hc,by decide,by decide⟩) rfl [0,2] (by simp [Yf];try decide) (by simp only [Ye];exact ⟨by omega,za rfl,by omega,y3 (l:=[[97],[107,101,121],[39,107,39],[34,107,34],[42,97],[120,32,121]])⟩) (by decide) ?_
     rintro _ _ ⟨t4,d4,hm4,hd4,rfl,rfl⟩
     have hl4:=ql (M:=3) hm4 (by decide)
     clear hm4
     simp only [↓XC,XV,XT,Yg,seval,TES,zp,XR,↓Yc,zr,upd,muL,List.getElem?_nil,List.drop_nil,Option.map_none,SO.mapH,List.getElem?_cons_zero,List.getElem?_cons_succ]
     repeat (with_reducible refine Chk.mk (by first | omega | (simp only [inR];omega) | (simp only [List.length_append,List.length_cons,List.length_nil,List.length_replicate];omega)) fun _=>?_)
     refine zj.mutQ (qh cd d4 [[58],[58],[32,58]] ⟨hd4,hc,by decide,by decide⟩) rfl [0,3] (by simp [Yf];try decide) (by simp only [Ye];exact ⟨by omega,za rfl,by omega,y3 (l:=[[58],[58],[32,58]])⟩) (by decide) ?_
     rintro _ _ ⟨t5,d5,hm5,hd5,rfl,rfl⟩
     have hl5:=ql (M:=2) hm5 (by decide)
     clear hm5
     simp only [↓XC,XV,XT,Yg,seval,TES,zp,XR,↓Yc,zr,upd,muL,List.getElem?_nil,List.drop_nil,Option.map_none,SO.mapH,List.getElem?_cons_zero,List.getElem?_cons_succ]
     repeat (with_reducible refine Chk.mk (by first | omega | (simp only [inR];omega) | (simp only [List.length_append,List.length_cons,List.length_nil,List.length_replicate];omega)) fun _=>?_)
     refine zj.mutQ (zor cd d5 n p (450 * 8 ^ (p-1).toNat) (fun e m k1 k2 k3=>ih cd e m (p-1) ⟨k1,hc,k2,by omega,by omega,by omega⟩ (by omega)) ⟨hd5,hc,by omega,by omega,by omega,by omega,by omega⟩) rfl [0] (by simp [Yf]) (by simp only [Ye];exact ⟨by omega,za rfl⟩) (by decide) ?_
     rintro _ _ ⟨t6,d6,hl6,hd6,rfl,rfl⟩
     simp only [↓XC,XV,XT,Yg,seval,TES,zp,XR,↓Yc,zr,upd,muL,List.getElem?_nil,List.drop_nil,Option.map_none,SO.mapH,List.getElem?_cons_zero,List.getElem?_cons_succ]
     repeat (with_reducible refine Chk.mk (by first | omega | (simp only [inR];omega) | (simp only [List.length_append,List.length_cons,List.length_nil,List.length_replicate];omega)) fun _=>?_)
     rw [show (((r+1:Nat):Int)-1)=(r:Nat) by omega]
     repeat (with_reducible refine Chk.mk (by first | omega | (simp only [inR];omega) | (simp only [List.length_append,List.length_cons,List.length_nil,List.length_replicate];omega)) fun _=>?_)
     exact ⟨⟨(r,u++t3++t4++t5++t6,d6),hL.step (by simp only [List.length_append,List.length_cons,List.length_nil,List.length_replicate];omega),hd6⟩,by simp only;omega,(Ent.ren1 [0] (by decide) (by simp only [Yd];exact za rfl) (by simp [zi,Vg.look,SV.mapH,muL]))⟩
  ·have hk1:1≤p:=by omega
   obtain ⟨z1,z2,z3⟩:=pw8 hk1
   repeat (with_reducible refine Chk.mk (by first | omega | (simp only [inR];omega) | (simp only [List.length_append,List.length_cons,List.length_nil,List.length_replicate];omega)) fun _=>?_)
   have hr2:=yg cd (n:=3) q1.2 (by first | decide | omega)
   have hd2:=y6 (cd:=cd) (n:=3) hd1
   refine zj.mut (q5 cd q1.2 3 ⟨hd1,hc⟩) rfl [0] (by simp [Yf]) (by simp only [Ye];exact ⟨by omega,za rfl⟩) (by decide) ?_
   simp only [↓XC,XV,XT,Yg,seval,TES,zp,XR,↓Yc,zr,upd,muL,List.getElem?_nil,List.drop_nil,Option.map_none,SO.mapH,List.getElem?_cons_zero,List.getElem?_cons_succ]
   generalize yx cd 3 q1.2=q2 at *
   repeat (with_reducible refine Chk.mk (by first | omega | (simp only [inR];omega) | (simp only [List.length_append,List.length_cons,List.length_nil,List.length_replicate];omega)) fun _=>?_)
   refine yv.of (ι:={x:Nat×Bs×Nat×Int // lp3 (0) ((450 * 8 ^ (p-1).toNat+720)) x.1 x.2.1.length∧x.2.2.1≤cd.length}) (fun x=>⟨[(0,.ptr 0 0 0),(1,.i .i64 n),(2,.i .i64 p),(8,.s x.1.2.1),(10,.i .i64 (x.1.1:Nat))],[some (.blk false [.fs 1 (cd.map u6),.i .i64 (x.1.2.2.1:Nat),.i .i64 x.1.2.2.2])]⟩) (fun x=>x.1.1) ⟨((1+q2.1).toNat,[],q2.2),lp3.start (by omega) (by simp only [List.length_append,List.length_cons,List.length_nil];omega),hd2⟩ (Ent.ren1 [0] (by decide) (by simp only [Yd];exact za rfl) (by simp [zi,Vg.look,SV.mapH,muL];omega)) ?_
   rintro ⟨⟨r,u,e⟩,hL,he⟩
   simp only [↓XC,XV,XT,Yg,seval,TES,zp,XR,↓Yc]
   simp only at hL he
   have hA:=hL.all
   have hr3:=hL.le
   rcases r with _ | r
   ·refine ⟨fun h=>absurd h (by omega),fun _=>?_⟩
    repeat (with_reducible refine Chk.mk (by first | omega | (simp only [inR];omega) | (simp only [List.length_append,List.length_cons,List.length_nil,List.length_replicate];omega)) fun _=>?_)
    exact ⟨_,_,DrS.mk (u) (e) (by first | omega | (simp only [List.length_append,List.length_cons,List.length_nil,List.length_replicate];omega)) he,⟨[0],by decide,by simp only [Yd];exact za rfl,by simp only [↓XC,XV,XT,Yg,seval,TES];try simp [Yf],by simp [zw,SO.ro],by simp⟩⟩
   ·refine ⟨fun _=>?_,fun h=>absurd h (by omega)⟩
    refine ⟨fun hz=>?_,fun hz=>?_⟩
    ·repeat (with_reducible refine Chk.mk (by first | omega | (simp only [inR];omega) | (simp only [List.length_append,List.length_cons,List.length_nil,List.length_replicate];omega)) fun _=>?_)
     refine zj.mutQ (qh cd e [[32],[32],[32],[32,32]] ⟨he,hc,by decide,by decide⟩) rfl [0,1] (by simp [Yf];try decide) (by simp only [Ye];exact ⟨by omega,za rfl,by omega,y3 (l:=[[32],[32],[32],[32,32]])⟩) (by decide) ?_
     rintro _ _ ⟨t3,d3,hm3,hd3,rfl,rfl⟩
     have hl3:=ql (M:=2) hm3 (by decide)
     clear hm3
     simp only [↓XC,XV,XT,Yg,seval,TES,zp,XR,↓Yc,zr,upd,muL,List.getElem?_nil,List.drop_nil,Option.map_none,SO.mapH,List.getElem?_cons_zero,List.getElem?_cons_succ]
     repeat (with_reducible refine Chk.mk (by first | omega | (simp only [inR];omega) | (simp only [List.length_append,List.length_cons,List.length_nil,List.length_replicate];omega)) fun _=>?_)
     have hr4:=yg cd (n:=2) d3 (by first | decide | omega)
     have hd4:=y6 (cd:=cd) (n:=2) hd3
     refine zj.mut (q5 cd d3 2 ⟨hd3,hc⟩) rfl [0] (by simp [Yf]) (by simp only [Ye];exact ⟨by omega,za rfl⟩) (by decide) ?_
     simp only [↓XC,XV,XT,Yg,seval,TES,zp,XR,↓Yc,zr,upd,muL,List.getElem?_nil,List.drop_nil,Option.map_none,SO.mapH,List.getElem?_cons_zero,List.getElem?_cons_succ]
     generalize yx cd 2 d3=q4 at *
     repeat (with_reducible refine Chk.mk (by first | omega | (simp only [inR];omega) | (simp only [List.length_append,List.length_cons,List.length_nil,List.length_replicate];omega)) fun _=>?_)
     refine ⟨fun hy=>?_,fun hy=>?_⟩
     ·repeat (with_reducible refine Chk.mk (by first | omega | (simp only [inR];omega) | (simp only [List.length_append,List.length_cons,List.length_nil,List.length_replicate];omega)) fun _=>?_)
      refine zj.mutQ (ih cd q4.2 (n+2) (p-1) ⟨hd4,hc,by omega,by omega,by omega,by omega⟩ (by omega)) rfl [0] (by simp [Yf]) (by simp only [Ye];exact ⟨by omega,za rfl⟩) (by decide) ?_
      rintro _ _ ⟨t5,d5,hl5,hd5,rfl,rfl⟩
      simp only [↓XC,XV,XT,Yg,seval,TES,zp,XR,↓Yc,zr,upd,muL,List.getElem?_nil,List.drop_nil,Option.map_none,SO.mapH,List.getElem?_cons_zero,List.getElem?_cons_succ]
      repeat (with_reducible refine Chk.mk (by first | omega | (simp only [inR];omega) | (simp only [List.length_append,List.length_cons,List.length_nil,List.length_replicate];omega)) fun _=>?_)
      rw [show (((r+1:Nat):Int)-1)=(r:Nat) by omega]
      repeat (with_reducible refine Chk.mk (by first | omega | (simp only [inR];omega) | (simp only [List.length_append,List.length_cons,List.length_nil,List.length_replicate];omega)) fun _=>?_)
      exact ⟨⟨(r,u++List.replicate n.toNat 32++[45]++t3++t5,d5),hL.step (by simp only [List.length_append,List.length_cons,List.length_nil,List.length_replicate];omega),hd5⟩,by simp only;omega,(Ent.ren1 [0] (by decide) (by simp only [Yd];exact za rfl) (by simp [zi,Vg.look,SV.mapH,muL]))⟩
     ·repeat (with_reducible refine Chk.mk (by first | omega | (simp only [inR];omega) | (simp only [List.length_append,List.length_cons,List.length_nil,List.length_replicate];omega)) fun _=>?_)
      refine zj.mutQ (zde cd q4.2 ⟨hd4,hc⟩) rfl [0] (by simp [Yf]) (by simp only [Ye];exact ⟨by omega,za rfl⟩) (by decide) ?_
      rintro _ _ ⟨t5,d5,hl5,hd5,rfl,rfl⟩
      simp only [↓XC,XV,XT,Yg,seval,TES,zp,XR,↓Yc,zr,upd,muL,List.getElem?_nil,List.drop_nil,Option.map_none,SO.mapH,List.getElem?_cons_zero,List.getElem?_cons_succ]
      repeat (with_reducible refine Chk.mk (by first | omega | (simp only [inR];omega) | (simp only [List.length_append,List.length_cons,List.length_nil,List.length_replicate];omega)) fun _=>?_)
      refine zj.mutQ (qh cd d5 [[10],[10],[32,35,32,114,10]] ⟨hd5,hc,by decide,by decide⟩) rfl [0,2] (by simp [Yf];try decide) (by simp only [Ye];exact ⟨by omega,za rfl,by omega,y3 (l:=[[10],[10],[32,35,32,114,10]])⟩) (by decide) ?_
      rintro _ _ ⟨t6,d6,hm6,hd6,rfl,rfl⟩
      have hl6:=ql (M:=5) hm6 (by decide)
      clear hm6
      simp only [↓XC,XV,XT,Yg,seval,TES,zp,XR,↓Yc,zr,upd,muL,List.getElem?_nil,List.drop_nil,Option.map_none,SO.mapH,List.getElem?_cons_zero,List.getElem?_cons_succ]
      repeat (with_reducible refine Chk.mk (by first | omega | (simp only [inR];omega) | (simp only [List.length_append,List.length_cons,List.length_nil,List.length_replicate];omega)) fun _=>?_)
      rw [show (((r+1:Nat):Int)-1)=(r:Nat) by omega]
      repeat (with_reducible refine Chk.mk (by first | omega | (simp only [inR];omega) | (simp only [List.length_append,List.length_cons,List.length_nil,List.length_replicate];omega)) fun _=>?_)
      exact ⟨⟨(r,u++List.replicate n.toNat 32++[45]++t3++t5++t6,d6),hL.step (by simp only [List.length_append,List.length_cons,List.length_nil,List.length_replicate];omega),hd6⟩,by simp only;omega,(Ent.ren1 [0] (by decide) (by simp only [Yd];exact za rfl) (by simp [zi,Vg.look,SV.mapH,muL]))⟩
    ·repeat (with_reducible refine Chk.mk (by first | omega | (simp only [inR];omega) | (simp only [List.length_append,List.length_cons,List.length_nil,List.length_replicate];omega)) fun _=>?_)
     refine zj.mutQ (qh cd e [[32],[32],[32],[32,32]] ⟨he,hc,by decide,by decide⟩) rfl [0,1] (by simp [Yf];try decide) (by simp only [Ye];exact ⟨by omega,za rfl,by omega,y3 (l:=[[32],[32],[32],[32,32]])⟩) (by decide) ?_
     rintro _ _ ⟨t3,d3,hm3,hd3,rfl,rfl⟩
     have hl3:=ql (M:=2) hm3 (by decide)
     clear hm3
     simp only [↓XC,XV,XT,Yg,seval,TES,zp,XR,↓Yc,zr,upd,muL,List.getElem?_nil,List.drop_nil,Option.map_none,SO.mapH,List.getElem?_cons_zero,List.getElem?_cons_succ]
     repeat (with_reducible refine Chk.mk (by first | omega | (simp only [inR];omega) | (simp only [List.length_append,List.length_cons,List.length_nil,List.length_replicate];omega)) fun _=>?_)
     have hr4:=yg cd (n:=2) d3 (by first | decide | omega)
     have hd4:=y6 (cd:=cd) (n:=2) hd3
     refine zj.mut (q5 cd d3 2 ⟨hd3,hc⟩) rfl [0] (by simp [Yf]) (by simp only [Ye];exact ⟨by omega,za rfl⟩) (by decide) ?_
     simp only [↓XC,XV,XT,Yg,seval,TES,zp,XR,↓Yc,zr,upd,muL,List.getElem?_nil,List.drop_nil,Option.map_none,SO.mapH,List.getElem?_cons_zero,List.getElem?_cons_succ]
     generalize yx cd 2 d3=q4 at *
     repeat (with_reducible refine Chk.mk (by first | omega | (simp only [inR];omega) | (simp only [List.length_append,List.length_cons,List.length_nil,List.length_replicate];omega)) fun _=>?_)
     refine ⟨fun hy=>?_,fun hy=>?_⟩
     ·repeat (with_reducible refine Chk.mk (by first | omega | (simp only [inR];omega) | (simp only [List.length_append,List.length_cons,List.length_nil,List.length_replicate];omega)) fun _=>?_)
      refine zj.mutQ (ih cd q4.2 (n+2) (p-1) ⟨hd4,hc,by omega,by omega,by omega,by omega⟩ (by omega)) rfl [0] (by simp [Yf]) (by simp only [Ye];exact ⟨by omega,za rfl⟩) (by decide) ?_
      rintro _ _ ⟨t5,d5,hl5,hd5,rfl,rfl⟩
      simp only [↓XC,XV,XT,Yg,seval,TES,zp,XR,↓Yc,zr,upd,muL,List.getElem?_nil,List.drop_nil,Option.map_none,SO.mapH,List.getElem?_cons_zero,List.getElem?_cons_succ]
      repeat (with_reducible refine Chk.mk (by first | omega | (simp only [inR];omega) | (simp only [List.length_append,List.length_cons,List.length_nil,List.length_replicate];omega)) fun _=>?_)
      rw [show (((r+1:Nat):Int)-1)=(r:Nat) by omega]
      repeat (with_reducible refine Chk.mk (by first | omega | (simp only [inR];omega) | (simp only [List.length_append,List.length_cons,List.length_nil,List.length_replicate];omega)) fun _=>?_)
      exact ⟨⟨(r,u++[45]++t3++t5,d5),hL.step (by simp only [List.length_append,List.length_cons,List.length_nil,List.length_replicate];omega),hd5⟩,by simp only;omega,(Ent.ren1 [0] (by decide) (by simp only [Yd];exact za rfl) (by simp [zi,Vg.look,SV.mapH,muL]))⟩
     ·repeat (with_reducible refine Chk.mk (by first | omega | (simp only [inR];omega) | (simp only [List.length_append,List.length_cons,List.length_nil,List.length_replicate];omega)) fun _=>?_)
      refine zj.mutQ (zde cd q4.2 ⟨hd4,hc⟩) rfl [0] (by simp [Yf]) (by simp only [Ye];exact ⟨by omega,za rfl⟩) (by decide) ?_
      rintro _ _ ⟨t5,d5,hl5,hd5,rfl,rfl⟩
      simp only [↓XC,XV,XT,Yg,seval,TES,zp,XR,↓Yc,zr,upd,muL,List.getElem?_nil,List.drop_nil,Option.map_none,SO.mapH,List.getElem?_cons_zero,List.getElem?_cons_succ]
      repeat (with_reducible refine Chk.mk (by first | omega | (simp only [inR];omega) | (simp only [List.length_append,List.length_cons,List.length_nil,List.length_replicate];omega)) fun _=>?_)
      refine zj.mutQ (qh cd d5 [[10],[10],[32,35,32,114,10]] ⟨hd5,hc,by decide,by decide⟩) rfl [0,2] (by simp [Yf];try decide) (by simp only [Ye];exact ⟨by omega,za rfl,by omega,y3 (l:=[[10],[10],[32,35,32,114,10]])⟩) (by decide) ?_
      rintro _ _ ⟨t6,d6,hm6,hd6,rfl,rfl⟩
      have hl6:=ql (M:=5) hm6 (by decide)
      clear hm6
      simp only [↓XC,XV,XT,Yg,seval,TES,zp,XR,↓Yc,zr,upd,muL,List.getElem?_nil,List.drop_nil,Option.map_none,SO.mapH,List.getElem?_cons_zero,List.getElem?_cons_succ]
      repeat (with_reducible refine Chk.mk (by first | omega | (simp only [inR];omega) | (simp only [List.length_append,List.length_cons,List.length_nil,List.length_replicate];omega)) fun _=>?_)
      rw [show (((r+1:Nat):Int)-1)=(r:Nat) by omega]
      repeat (with_reducible refine Chk.mk (by first | omega | (simp only [inR];omega) | (simp only [List.length_append,List.length_cons,List.length_nil,List.length_replicate];omega)) fun _=>?_)
      exact ⟨⟨(r,u++[45]++t3++t5++t6,d6),hL.step (by simp only [List.length_append,List.length_cons,List.length_nil,List.length_replicate];omega),hd6⟩,by simp only;omega,(Ent.ren1 [0] (by decide) (by simp only [Yd];exact za rfl) (by simp [zi,Vg.look,SV.mapH,muL]))⟩
  ·repeat (with_reducible refine Chk.mk (by first | omega | (simp only [inR];omega) | (simp only [List.length_append,List.length_cons,List.length_nil,List.length_replicate];omega)) fun _=>?_)
   refine zj.mutQ (qh cd q1.2 [[124],[62,45],[124,43]] ⟨hd1,hc,by decide,by decide⟩) rfl [0,1] (by simp [Yf];try decide) (by simp only [Ye];exact ⟨by omega,za rfl,by omega,y3 (l:=[[124],[62,45],[124,43]])⟩) (by decide) ?_
   rintro _ _ ⟨t2,d2,hm2,hd2,rfl,rfl⟩
   have hl2:=ql (M:=2) hm2 (by decide)
   clear hm2
   simp only [↓XC,XV,XT,Yg,seval,TES,zp,XR,↓Yc,zr,upd,muL,List.getElem?_nil,List.drop_nil,Option.map_none,SO.mapH,List.getElem?_cons_zero,List.getElem?_cons_succ]
   repeat (with_reducible refine Chk.mk (by first | omega | (simp only [inR];omega) | (simp only [List.length_append,List.length_cons,List.length_nil,List.length_replicate];omega)) fun _=>?_)
   exact ⟨_,_,DrS.mk (t2++[10]++List.replicate n.toNat 32++[32,116,101,120,116,10,10]++List.replicate n.toNat 32++[32,32,102,97,114,10]) (d2) (by first | omega | (simp only [List.length_append,List.length_cons,List.length_nil,List.length_replicate];omega)) hd2,⟨[0],by decide,by simp only [Yd];exact za rfl,by simp only [↓XC,XV,XT,Yg,seval,TES];try simp [Yf],by simp [zw,SO.ro],by simp⟩⟩
  ·repeat (with_reducible refine Chk.mk (by first | omega | (simp only [inR];omega) | (simp only [List.length_append,List.length_cons,List.length_nil,List.length_replicate];omega)) fun _=>?_)
   refine zj.mutQ (zde cd q1.2 ⟨hd1,hc⟩) rfl [0] (by simp [Yf]) (by simp only [Ye];exact ⟨by omega,za rfl⟩) (by decide) ?_
   rintro _ _ ⟨t2,d2,hl2,hd2,rfl,rfl⟩
   simp only [↓XC,XV,XT,Yg,seval,TES,zp,XR,↓Yc,zr,upd,muL,List.getElem?_nil,List.drop_nil,Option.map_none,SO.mapH,List.getElem?_cons_zero,List.getElem?_cons_succ]
   repeat (with_reducible refine Chk.mk (by first | omega | (simp only [inR];omega) | (simp only [List.length_append,List.length_cons,List.length_nil,List.length_replicate];omega)) fun _=>?_)
   refine zj.mutQ (qh cd d2 [[10],[10],[10],10::(List.replicate n.toNat 32++[32,109,111,114,101,10])] ⟨hd2,hc,by simp,by simp⟩) rfl [0,1] (by simp [Yf];try decide) (by simp only [Ye];exact ⟨by omega,za rfl,by omega,y3 (l:=[[10],[10],[10],10::(List.replicate n.toNat 32++[32,109,111,114,101,10])])⟩) (by decide) ?_
   rintro _ _ ⟨t3,d3,hm3,hd3,rfl,rfl⟩
   have hl3:t3.length≤107:=by
    simp only [List.mem_cons,List.not_mem_nil,or_false] at hm3
    rcases hm3 with rfl | rfl | rfl | rfl<;>simp only [List.length_cons,List.length_nil,List.length_append,List.length_replicate]<;>omega
   clear hm3
   simp only [↓XC,XV,XT,Yg,seval,TES,zp,XR,↓Yc,zr,upd,muL,List.getElem?_nil,List.drop_nil,Option.map_none,SO.mapH,List.getElem?_cons_zero,List.getElem?_cons_succ]
   repeat (with_reducible refine Chk.mk (by first | omega | (simp only [inR];omega) | (simp only [List.length_append,List.length_cons,List.length_nil,List.length_replicate];omega)) fun _=>?_)
   exact ⟨_,_,DrS.mk (t2++t3) (d3) (by first | omega | (simp only [List.length_append,List.length_cons,List.length_nil,List.length_replicate];omega)) hd3,⟨[0],by decide,by simp only [Yd];exact za rfl,by simp only [↓XC,XV,XT,Yg,seval,TES];try simp [Yf],by simp [zw,SO.ro],by simp⟩⟩
theorem zyw (cd:Bs) (d:Nat×Int) (n p:Int) (hp:d.1≤cd.length∧cd.length≤1048576∧0≤n∧n≤100∧n+2 * p≤100∧p≤4):FnK Tryz.prog 205 1 [.ptr 0 0 0,.i .i64 n,.i .i64 p] [some (.blk false [.fs 1 (cd.map u6),.i .i64 (d.1:Nat),.i .i64 d.2])] (fun z c=>DrS cd (450 * 8 ^ p.toNat) z c):=zqz (p.toNat+1) cd d n p hp (Nat.lt_succ_self _)
end Go.T
