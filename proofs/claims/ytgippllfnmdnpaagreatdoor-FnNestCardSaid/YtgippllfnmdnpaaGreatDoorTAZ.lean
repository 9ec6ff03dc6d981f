/- Own text: part TAZ. -/
import Derived.Test.YtgippllfnmdnpaaGreatDoorTAQ
import Derived.Test.YtgippllfnmdnpaaGreatDoorTAY
import Derived.Test.YtgippllfnmdnpaaGreatDoorTAX
section
set_option linter.unusedVariables false
set_option linter.unusedSimpArgs false
set_option linter.unusedSectionVars false
set_option linter.unnecessarySimpa false
namespace Go.T
variable [Go.Vg.Glob]
open Go.Proofs Go.Vg Go.RowKit Go.TT Go.Pl
set_option maxRecDepth 10000
set_option maxHeartbeats 4000000
theorem qh (cd:Bs) (d:Nat×Int) (l:List Bs) (hp:d.1≤cd.length∧cd.length≤1048576∧0<l.length∧l.length≤1048576):FnK Tryz.prog 140 2 [.ptr 0 0 0,.slc 1 0 l.length] [some (.blk false [.fs 1 (cd.map u6),.i .i64 (d.1:Nat),.i .i64 d.2]),some (.row false 1 l.length (zg zbi [] l))] (fun z c=>∃ (t:Bs) (d':Nat×Int),t∈l∧d'.1≤cd.length∧z=.s t∧c=[some (.blk false [.fs 1 (cd.map u6),.i .i64 (d'.1:Nat),.i .i64 d'.2]),some (.row false 1 l.length (zg zbi [] l))]):=
 (l01Of cd d l hp).mono (by
  rintro _ _ ⟨rfl,rfl⟩
  have h1:=yg cd (n:=l.length) d (by omega)
  exact ⟨_,_,zmo (by omega),y6 hp.1,rfl,rfl⟩)
theorem zyy (cd:Bs) (d:Nat×Int) (m:Int) (hp:d.1≤cd.length∧cd.length≤1048576∧0≤m∧m≤100):FnK Tryz.prog 136 1 [.ptr 0 0 0,.i .i64 m] [some (.blk false [.fs 1 (cd.map u6),.i .i64 (d.1:Nat),.i .i64 d.2])] (fun z c=>DrS cd (10 * m.toNat) z c):=by
 refine FnK.ofQ (cf:=zk Tryz.prog te [] 21 1 false (fun _=>false) (kp [(0,[0,1]),(1,[0,1,5]),(2,[0,5,6]),(3,[0,5,6,12]),(4,[0,5,6]),(5,[0,5,6]),(6,[4])]) [] []) (zf te_ok (l:=[]) (trivial) zc) Tryz.func136 rfl rfl rfl (by simp [zk]) (by simp [zk]) (rs:=[.tmp 4]) rfl 100000 ?_
 simp only [↓XC,XV,XT,Yg,seval,TES,XR,↓Yc]
 have hc:=hp.2.1
 refine Chk.mk (by simp only [inR];omega) fun _=>?_
 have hr1:=yg cd (n:=(m+1)) d (by first | decide | omega)
 have hd1:=y6 (cd:=cd) (n:=(m+1)) hp.1
 refine zj.mut (q5 cd d (m+1) ⟨hp.1,hc⟩) rfl [0] (by simp [Yf]) (by simp only [Ye];exact ⟨by omega,za rfl⟩) (by decide) ?_
 simp only [↓XC,XV,XT,Yg,seval,TES,XR,↓Yc,zr,upd,muL,List.getElem?_nil,List.drop_nil,Option.map_none,SO.mapH,List.getElem?_cons_zero,List.getElem?_cons_succ]
 generalize yx cd (m+1) d=q1 at *
 refine yv.of (ι:={x:Nat×Bs×Nat×Int // x.2.1.length+10 * x.1≤10 * m.toNat∧x.2.2.1≤cd.length}) (fun x=>⟨[(0,.ptr 0 0 0),(5,.s x.1.2.1),(6,.i .i64 (x.1.1:Nat))],[some (.blk false [.fs 1 (cd.map u6),.i .i64 (x.1.2.2.1:Nat),.i .i64 x.1.2.2.2])]⟩) (fun x=>x.1.1) ⟨(q1.1.toNat,[],q1.2),by simp only [List.length_nil];omega,hd1⟩ (Ent.ren1 [0] (by decide) (by simp only [Yd];exact za rfl) (by simp [zi,Vg.look,SV.mapH,muL];omega)) ?_
 rintro ⟨⟨r,u,e⟩,hu,he⟩
 simp only [↓XC,XV,XT,Yg,seval,TES,XR,↓Yc]
 simp only at hu he
 rcases r with _ | r
 ·refine ⟨fun h=>absurd h (by omega),fun _=>?_⟩
  exact ⟨_,_,DrS.mk (u) (e) (by first | omega | (simp only [List.length_append,List.length_cons,List.length_nil];omega)) he,⟨[0],by decide,by simp only [Yd];exact za rfl,by simp only [↓XC,XV,XT,Yg,seval,TES];try simp [Yf],by simp [zw,SO.ro],by simp⟩⟩
 ·refine ⟨fun _=>?_,fun h=>absurd h (by omega)⟩
  refine zj.mutQ (qh cd e [[97],[98],[32],[32],[10],[10],[32,32],[58,32],[58],[45,32],[45],[63,32],[91],[93],[123],[125],[44,32],[44],[35],[32,35,32,114],[38,97,32],[42,97],[33],[33,33,115,116,114,32],[33,60,120,62,32],[124],[62],[124,50,45],[62,43],[39],[39,39],[34],[92,110],[92],[37],[37,89,65,77,76,32,49,46,50],[45,45,45],[46,46,46],[9],[195,169],[64],[96],[107,101,121],[49,50]] ⟨he,hc,by decide,by decide⟩) rfl [0,1] (by simp [Yf];try decide) (by simp only [Ye];exact ⟨by omega,za rfl,by omega,y3 (l:=[[97],[98],[32],[32],[10],[10],[32,32],[58,32],[58],[45,32],[45],[63,32],[91],[93],[123],[125],[44,32],[44],[35],[32,35,32,114],[38,97,32],[42,97],[33],[33,33,115,116,114,32],[33,60,120,62,32],[124],[62],[124,50,45],[62,43],[39],[39,39],[34],[92,110],[92],[37],[37,89,65,77,76,32,49,46,50],[45,45,45],[46,46,46],[9],[195,169],[64],[96],[107,101,121],[49,50]])⟩) (by decide) ?_
  rintro _ _ ⟨t2,d2,hm2,hd2,rfl,rfl⟩
  have hl2:=ql (M:=9) hm2 (by decide)
  clear hm2
  simp only [↓XC,XV,XT,Yg,seval,TES,XR,↓Yc,zr,upd,muL,List.getElem?_nil,List.drop_nil,Option.map_none,SO.mapH,List.getElem?_cons_zero,List.getElem?_cons_succ]
  rw [show (((r+1:Nat):Int)-1)=(r:Nat) by omega]
  exact Chk.mk (by omega) fun _=>Chk.mk (by simp only [inR];omega) fun _=>⟨⟨(r,u++t2,d2),by simp only [List.length_append];omega,hd2⟩,by simp only;omega,(Ent.ren1 [0] (by decide) (by simp only [Yd];exact za rfl) (by simp [zi,Vg.look,SV.mapH,muL]))⟩
end Go.T
end
section
set_option linter.unusedVariables false
set_option linter.unusedSimpArgs false
set_option linter.unusedSectionVars false
set_option linter.unnecessarySimpa false
namespace Go.T
variable [Go.Vg.Glob]
open Go.Proofs Go.Vg Go.RowKit Go.TT Go.Pl
set_option maxRecDepth 10000
set_option maxHeartbeats 4000000
theorem l11Pad (n:Int) (hp:0≤n∧n≤1000):PF Tryz.prog 244 [.i .i64 n] (.s (List.replicate n.toNat 32)):=by
 refine ⟨rfl,rfl,FnK.of (cf:=zk Tryz.prog te [] 11 0 false (fun _=>false) (kp [(0,[0]),(1,[0,3]),(2,[0,3,5]),(3,[0,3]),(4,[0,3]),(5,[2])]) [] []) (zf te_ok (l:=[]) (trivial) zc) Tryz.func244 rfl rfl rfl (by simp [zk]) (by simp [zk]) (rs:=[.tmp 2]) rfl 100000 ?_⟩
 simp only [↓XC,XV,XT,Yg,seval,TES,XR,↓Yc]
 refine yv.of (ι:={x:Nat // x≤n.toNat}) (fun x=>⟨[(0,.i .i64 (x.1:Nat)),(3,.s (List.replicate (n.toNat-x.1) 32))],[]⟩) (fun x=>x.1) ⟨n.toNat,Nat.le_refl _⟩ (by simp only [Int.toNat_of_nonneg hp.1,Nat.sub_self,List.replicate_zero];exact Ent.refl _ _) ?_
 rintro ⟨r,hr⟩
 simp only [↓XC,XV,XT,Yg,seval,TES,XR,↓Yc]
 refine ⟨fun h=>?_,fun h=>?_⟩
 ·rcases r with _ | r
  ·omega
  refine Chk.mk (by simp only [List.length_replicate];omega) fun _=>Chk.mk (by simp only [inR];omega) fun _=>⟨⟨r,by omega⟩,by simp only;omega, ?_⟩
  rw [show (((r+1:Nat):Int)-1)=(r:Nat) by omega,show (List.replicate (n.toNat-(r+1)) (32:UInt8)++[32])=List.replicate (n.toNat-r) 32 by
   rw [show n.toNat-r=n.toNat-(r+1)+1 by omega,List.replicate_succ']]
  exact Ent.refl _ _
 ·obtain rfl:r=0:=by omega
  rfl
noncomputable def zao:PE:=peR (fun (n:Int)=>[.i .i64 n]) (fun (n:Int)=>0≤n∧n≤1000) (fun (n:Int)=>.s (List.replicate n.toNat 32))
theorem zp {n:Int}:zao [.i .i64 n]=some (0≤n∧n≤1000,.s (List.replicate n.toNat 32)):=yh (by rintro a b h;simp_all []) n
theorem zfw:PE1 Tryz.prog 244 zao:=yl (by rintro n hp;exact l11Pad n hp)
theorem ztl (cd:Bs) (d:Nat×Int) (u:Bs) (hp:d.1≤cd.length∧cd.length≤1048576∧u.length≤10000000):FnK Tryz.prog 137 1 [.ptr 0 0 0,.s u] [some (.blk false [.fs 1 (cd.map u6),.i .i64 (d.1:Nat),.i .i64 d.2])] (fun z c=>DrS cd (u.length+10) z c):=by
 refine FnK.ofQ (cf:=zk Tryz.prog te [] 31 1 false (fun _=>false) (kp [(0,[0,1]),(1,[0,1,5]),(2,[0,1,5,12]),(3,[0,1,5,12,13]),(4,[4]),(5,[0,1,5,18]),(6,[4]),(7,[4])]) [] [(6,[],[],.q1 0 (.q1 1 (.q1 2 (.q1 3 (.q1 6 (.q1 7 (.q1 8 (.seq [4,5,9,10]))))))))]) (zf te_ok (l:=[]) (trivial) zc) Tryz.func137 rfl rfl rfl (by simp [zk]) (by simp [zk]) (rs:=[.tmp 4]) rfl 100000 ?_
 simp only [↓XC,XV,XT,Yg,seval,TES,XR,↓Yc]
 have hc:=hp.2.1
 refine Chk.mk (by simp only [inR];omega) fun _=>?_
 have hr1:=yg cd (n:=((u.length:Nat)+1)) d (by first | decide | omega)
 have hd1:=y6 (cd:=cd) (n:=((u.length:Nat)+1)) hp.1
 refine zj.mut (q5 cd d ((u.length:Nat)+1) ⟨hp.1,hc⟩) rfl [0] (by simp [Yf]) (by simp only [Ye];exact ⟨by omega,za rfl⟩) (by decide) ?_
 simp only [↓XC,XV,XT,Yg,seval,TES,XR,↓Yc,zr,upd,muL,List.getElem?_nil,List.drop_nil,Option.map_none,SO.mapH,List.getElem?_cons_zero,List.getElem?_cons_succ]
 generalize yx cd ((u.length:Nat)+1) d=q1 at *
 have hr2:=yg cd (n:=6) q1.2 (by first | decide | omega)
 have hd2:=y6 (cd:=cd) (n:=6) hd1
 refine zj.mut (q5 cd q1.2 6 ⟨hd1,hc⟩) rfl [0] (by simp [Yf]) (by simp only [Ye];exact ⟨by omega,za rfl⟩) (by decide) ?_
 simp only [↓XC,XV,XT,Yg,seval,TES,XR,↓Yc,zr,upd,muL,List.getElem?_nil,List.drop_nil,Option.map_none,SO.mapH,List.getElem?_cons_zero,List.getElem?_cons_succ]
 generalize yx cd 6 q1.2=q2 at *
 have k1:(u.take q1.1.toNat).length≤u.length:=by simp only [List.length_take];omega
 have k2:(u.take q1.1.toNat).length+(u.drop q1.1.toNat).length≤u.length:=by simp only [List.length_take,List.length_drop];omega
 refine ⟨fun _=>Chk.mk (by omega) fun _=>?_,fun _=>⟨fun _=>?_,fun _=>?_⟩⟩
 ·exact ⟨_,_,DrS.mk (u.take q1.1.toNat) (q2.2) (by first | omega | (simp only [List.length_append,List.length_cons,List.length_nil,List.length_replicate];omega)) hd2,⟨[0],by decide,by simp only [Yd];exact za rfl,by simp only [↓XC,XV,XT,Yg,seval,TES];try simp [Yf],by simp [zw,SO.ro],by simp⟩⟩
 ·refine ⟨by decide +kernel,Chk.mk (by omega) fun _=>Chk.mk (by omega) fun _=>?_⟩
  refine zj.mutQ (zyy cd q2.2 1 ⟨hd2,hc,by decide,by decide⟩) rfl [0] (by simp [Yf]) (by simp only [Ye];exact ⟨by omega,za rfl⟩) (by decide) ?_
  rintro _ _ ⟨t3,d3,hl3,hd3,rfl,rfl⟩
  simp only [↓XC,XV,XT,Yg,seval,TES,XR,↓Yc,zr,upd,muL,List.getElem?_nil,List.drop_nil,Option.map_none,SO.mapH,List.getElem?_cons_zero,List.getElem?_cons_succ]
  repeat (with_reducible refine Chk.mk (by first | omega | (simp only [inR];omega) | (simp only [List.length_append,List.length_cons,List.length_nil,List.length_replicate];omega)) fun _=>?_)
  exact ⟨_,_,DrS.mk (u.take q1.1.toNat++t3++u.drop q1.1.toNat) (d3) (by first | omega | (simp only [List.length_append,List.length_cons,List.length_nil,List.length_replicate];omega)) hd3,⟨[0],by decide,by simp only [Yd];exact za rfl,by simp only [↓XC,XV,XT,Yg,seval,TES];try simp [Yf],by simp [zw,SO.ro],by simp⟩⟩
 ·exact ⟨_,_,DrS.mk (u) (q2.2) (by first | omega | (simp only [List.length_append,List.length_cons,List.length_nil,List.length_replicate];omega)) hd2,⟨[0],by decide,by simp only [Yd];exact za rfl,by simp only [↓XC,XV,XT,Yg,seval,TES];try simp [Yf],by simp [zw,SO.ro],by simp⟩⟩
end Go.T
end
section
set_option linter.unusedVariables false
set_option linter.unusedSimpArgs false
set_option linter.unusedSectionVars false
set_option linter.unnecessarySimpa false
namespace Go.T
variable [Go.Vg.Glob]
open Go.Proofs Go.Vg Go.RowKit Go.TT Go.Pl
set_option maxRecDepth 10000
set_option maxHeartbeats 4000000
theorem zos (cd:Bs) (d:Nat×Int) (hp:d.1≤cd.length∧cd.length≤1048576):FnK Tryz.prog 99 1 [.ptr 0 0 0] [some (.blk false [.fs 1 (cd.map u6),.i .i64 (d.1:Nat),.i .i64 d.2])] (DrS cd 4):=
 (l01Word cd d hp).mono (by
  rintro _ _ ⟨rfl,rfl⟩
  obtain ⟨k,hk⟩:=zzp cd d
  exact DrS.mk _ _ (by rw [hk];exact (wrdK_all k).2) (y6 hp.1))
theorem zq0:∀ (bound:Nat) (cd:Bs) (d:Nat×Int) (p:Int),(d.1≤cd.length∧cd.length≤1048576∧p≤8)→p.toNat<bound→FnK Tryz.prog 207 1 [.ptr 0 0 0,.i .i64 p] [some (.blk false [.fs 1 (cd.map u6),.i .i64 (d.1:Nat),.i .i64 d.2])] (fun z c=>DrS cd (30 * 8 ^ p.toNat) z c):=by
 intro bound
 induction bound with
 | zero=>intro cd d p _ h;exact absurd h (Nat.not_lt_zero _)
 | succ bound ih=>
 intro cd d p hp hm
 refine FnK.ofQ (cf:=zk Tryz.prog te [] 105 1 false (fun _=>false) (kp [(0,[0,1]),(1,[0,1,5]),(2,[0,1,5,6]),(3,[0,1,5,6,20]),(4,[0,1,5,6]),(5,[0,1,5,6,7]),(6,[0,1,5,6,7,24]),(7,[0,1,5,7]),(8,[0,1,5,7,8]),(9,[0,1,5,7,8,34]),(10,[0,1,5,7,8]),(11,[0,1,5,7,8]),(12,[4]),(13,[0,1,5,6,7,53]),(14,[0,1,5]),(15,[0,1,5,9]),(16,[0,1,5,9,63]),(17,[0,1,5,9]),(18,[0,1,5,9]),(19,[4]),(20,[0,5,6,82]),(21,[4]),(22,[0,5,6,89]),(23,[4]),(24,[0,5,97]),(25,[4]),(26,[4])]) [] []) (zf te_ok (l:=[]) (trivial) zc) Tryz.func207 rfl rfl rfl (by simp [zk]) (by simp [zk]) (rs:=[.tmp 4]) rfl 100000 ?_
 simp only [↓XC,XV,XT,Yg,seval,TES,XR,↓Yc]
 have hc:=hp.2.1
 repeat (with_reducible refine Chk.mk (by first | omega | (simp only [inR];omega) | (simp only [List.length_append,List.length_cons,List.length_nil,List.length_replicate];omega)) fun _=>?_)
 refine zj.mutQ (qh cd d [[],[],[],[],[38,97,32],[33,116,32],[33,33,115,116,114,32],[38,98,32,33,60,117,62,32]] ⟨hp.1,hc,by decide,by decide⟩) rfl [0,1] (by simp [Yf];try decide) (by simp only [Ye];exact ⟨by omega,za rfl,by omega,y3 (l:=[[],[],[],[],[38,97,32],[33,116,32],[33,33,115,116,114,32],[38,98,32,33,60,117,62,32]])⟩) (by decide) ?_
 rintro _ _ ⟨t1,d1,hm1,hd1,rfl,rfl⟩
 have hl1:=ql (M:=8) hm1 (by decide)
 clear hm1
 simp only [↓XC,XV,XT,Yg,seval,TES,XR,↓Yc,zr,upd,muL,List.getElem?_nil,List.drop_nil,Option.map_none,SO.mapH,List.getElem?_cons_zero,List.getElem?_cons_succ]
 repeat (with_reducible refine Chk.mk (by first | omega | (simp only [inR];omega) | (simp only [List.length_append,List.length_cons,List.length_nil,List.length_replicate];omega)) fun _=>?_)
 have hr2:=yg cd (n:=10) d1 (by first | decide | omega)
 have hd2:=y6 (cd:=cd) (n:=10) hd1
 refine zj.mut (q5 cd d1 10 ⟨hd1,hc⟩) rfl [0] (by simp [Yf]) (by simp only [Ye];exact ⟨by omega,za rfl⟩) (by decide) ?_
 simp only [↓XC,XV,XT,Yg,seval,TES,XR,↓Yc,zr,upd,muL,List.getElem?_nil,List.drop_nil,Option.map_none,SO.mapH,List.getElem?_cons_zero,List.getElem?_cons_succ]
 generalize yx cd 10 d1=q2 at *
 refine ⟨fun hk=>?_,fun hk=>?_⟩
 ·have hpz:1≤8 ^ p.toNat:=Nat.pow_pos (by decide)
  repeat (with_reducible refine Chk.mk (by first | omega | (simp only [inR];omega) | (simp only [List.length_append,List.length_cons,List.length_nil,List.length_replicate];omega)) fun _=>?_)
  refine zj.mutQ (qh cd q2.2 [[],[],[32],[10,32],[32,35,32,114,10]] ⟨hd2,hc,by decide,by decide⟩) rfl [0,2] (by simp [Yf];try decide) (by simp only [Ye];exact ⟨by omega,za rfl,by omega,y3 (l:=[[],[],[32],[10,32],[32,35,32,114,10]])⟩) (by decide) ?_
  rintro _ _ ⟨t3,d3,hm3,hd3,rfl,rfl⟩
  have hl3:=ql (M:=5) hm3 (by decide)
  clear hm3
  simp only [↓XC,XV,XT,Yg,seval,TES,XR,↓Yc,zr,upd,muL,List.getElem?_nil,List.drop_nil,Option.map_none,SO.mapH,List.getElem?_cons_zero,List.getElem?_cons_succ]
  repeat (with_reducible refine Chk.mk (by first | omega | (simp only [inR];omega) | (simp only [List.length_append,List.length_cons,List.length_nil,List.length_replicate];omega)) fun _=>?_)
  refine zj.mutQ (qh cd d3 [[97],[98]] ⟨hd3,hc,by decide,by decide⟩) rfl [0,3] (by simp [Yf];try decide) (by simp only [Ye];exact ⟨by omega,za rfl,by omega,y3 (l:=[[97],[98]])⟩) (by decide) ?_
  rintro _ _ ⟨t4,d4,hm4,hd4,rfl,rfl⟩
  have hl4:=ql (M:=1) hm4 (by decide)
  clear hm4
  simp only [↓XC,XV,XT,Yg,seval,TES,XR,↓Yc,zr,upd,muL,List.getElem?_nil,List.drop_nil,Option.map_none,SO.mapH,List.getElem?_cons_zero,List.getElem?_cons_succ]
  repeat (with_reducible refine Chk.mk (by first | omega | (simp only [inR];omega) | (simp only [List.length_append,List.length_cons,List.length_nil,List.length_replicate];omega)) fun _=>?_)
  exact ⟨_,_,DrS.mk (42::t4) (d4) (by first | omega | (simp only [List.length_append,List.length_cons,List.length_nil,List.length_replicate];omega)) hd4,⟨[0],by decide,by simp only [Yd];exact za rfl,by simp only [↓XC,XV,XT,Yg,seval,TES];try simp [Yf],by simp [zw,SO.ro],by simp⟩⟩
 ·have hk:¬(p≤0∧q2.1<5):=by intro h;rw [decide_eq_true h.1,decide_eq_true h.2] at hk;cases hk
  repeat (with_reducible refine Chk.mk (by first | omega | (simp only [inR];omega) | (simp only [List.length_append,List.length_cons,List.length_nil,List.length_replicate];omega)) fun _=>?_)
  refine zj.mutQ (qh cd q2.2 [[],[],[32],[10,32],[32,35,32,114,10]] ⟨hd2,hc,by decide,by decide⟩) rfl [0,2] (by simp [Yf];try decide) (by simp only [Ye];exact ⟨by omega,za rfl,by omega,y3 (l:=[[],[],[32],[10,32],[32,35,32,114,10]])⟩) (by decide) ?_
  rintro _ _ ⟨t3,d3,hm3,hd3,rfl,rfl⟩
  have hl3:=ql (M:=5) hm3 (by decide)
  clear hm3
  simp only [↓XC,XV,XT,Yg,seval,TES,XR,↓Yc,zr,upd,muL,List.getElem?_nil,List.drop_nil,Option.map_none,SO.mapH,List.getElem?_cons_zero,List.getElem?_cons_succ]
  have hpz:1≤8 ^ p.toNat:=Nat.pow_pos (by decide)
  have hpb:8 ^ p.toNat≤8 ^ 8:=Nat.pow_le_pow_right (by decide) (by omega)
  have z8:(8:Nat) ^ (0:Int).toNat=1:=rfl
  refine ⟨fun c=>?_,fun c1=>⟨fun c=>?_,fun c2=>⟨fun c=>?_,fun c3=>⟨fun c=>?_,fun c4=>⟨fun c=>?_,fun c5=>?_⟩⟩⟩⟩⟩
  ·have hk1:1≤p:=by omega
   obtain ⟨z1,z2,z3⟩:=pw8 hk1
   repeat (with_reducible refine Chk.mk (by first | omega | (simp only [inR];omega) | (simp only [List.length_append,List.length_cons,List.length_nil,List.length_replicate];omega)) fun _=>?_)
   repeat (with_reducible refine Chk.mk (by first | omega | (simp only [inR];omega) | (simp only [List.length_append,List.length_cons,List.length_nil,List.length_replicate];omega)) fun _=>?_)
   have hr4:=yg cd (n:=4) d3 (by first | decide | omega)
   have hd4:=y6 (cd:=cd) (n:=4) hd3
   refine zj.mut (q5 cd d3 4 ⟨hd3,hc⟩) rfl [0] (by simp [Yf]) (by simp only [Ye];exact ⟨by omega,za rfl⟩) (by decide) ?_
   simp only [↓XC,XV,XT,Yg,seval,TES,XR,↓Yc,zr,upd,muL,List.getElem?_nil,List.drop_nil,Option.map_none,SO.mapH,List.getElem?_cons_zero,List.getElem?_cons_succ]
   generalize yx cd 4 d3=q4 at *
   refine yv.of (ι:={x:Nat×Bs×Nat×Int // lp3 (14) ((30 * 8 ^ (p-1).toNat+6)) x.1 x.2.1.length∧x.2.2.1≤cd.length}) (fun x=>⟨[(0,.ptr 0 0 0),(1,.i .i64 p),(5,.s x.1.2.1),(7,.s t3),(8,.i .i64 (x.1.1:Nat))],[some (.blk false [.fs 1 (cd.map u6),.i .i64 (x.1.2.2.1:Nat),.i .i64 x.1.2.2.2])]⟩) (fun x=>x.1.1) ⟨((q4.1).toNat,t1++[91]++t3,q4.2),lp3.start (by omega) (by simp only [List.length_append,List.length_cons,List.length_nil];omega),hd4⟩ (Ent.ren1 [0] (by decide) (by simp only [Yd];exact za rfl) (by simp [zi,Vg.look,SV.mapH,muL];omega)) ?_
   rintro ⟨⟨r,u,e⟩,hL,he⟩
   simp only [↓XC,XV,XT,Yg,seval,TES,XR,↓Yc]
   simp only at hL he
   have hA:=hL.all
   have hr3:=hL.le
   rcases r with _ | r
   ·refine ⟨fun h=>absurd h (by omega),fun _=>?_⟩
    repeat (with_reducible refine Chk.mk (by first | omega | (simp only [inR];omega) | (simp only [List.length_append,List.length_cons,List.length_nil,List.length_replicate];omega)) fun _=>?_)
    refine zj.mutQ (ih cd e (p-2) ⟨he,hc,by omega⟩ (by omega)) rfl [0] (by simp [Yf]) (by simp only [Ye];exact ⟨by omega,za rfl⟩) (by decide) ?_
    rintro _ _ ⟨t6,d6,hl6,hd6,rfl,rfl⟩
    simp only [↓XC,XV,XT,Yg,seval,TES,XR,↓Yc,zr,upd,muL,List.getElem?_nil,List.drop_nil,Option.map_none,SO.mapH,List.getElem?_cons_zero,List.getElem?_cons_succ]
    repeat (with_reducible refine Chk.mk (by first | omega | (simp only [inR];omega) | (simp only [List.length_append,List.length_cons,List.length_nil,List.length_replicate];omega)) fun _=>?_)
    exact ⟨_,_,DrS.mk (u++t6++[93]) (d6) (by first | omega | (simp only [List.length_append,List.length_cons,List.length_nil,List.length_replicate];omega)) hd6,⟨[0],by decide,by simp only [Yd];exact za rfl,by simp only [↓XC,XV,XT,Yg,seval,TES];try simp [Yf],by simp [zw,SO.ro],by simp⟩⟩
   ·refine ⟨fun _=>?_,fun h=>absurd h (by omega)⟩
    repeat (with_reducible refine Chk.mk (by first | omega | (simp only [inR];omega) | (simp only [List.length_append,List.length_cons,List.length_nil,List.length_replicate];omega)) fun _=>?_)
    refine zj.mutQ (ih cd e (p-1) ⟨he,hc,by omega⟩ (by omega)) rfl [0] (by simp [Yf]) (by simp only [Ye];exact ⟨by omega,za rfl⟩) (by decide) ?_
    rintro _ _ ⟨t5,d5,hl5,hd5,rfl,rfl⟩
    simp only [↓XC,XV,XT,Yg,seval,TES,XR,↓Yc,zr,upd,muL,List.getElem?_nil,List.drop_nil,Option.map_none,SO.mapH,List.getElem?_cons_zero,List.getElem?_cons_succ]
    repeat (with_reducible refine Chk.mk (by first | omega | (simp only [inR];omega) | (simp only [List.length_append,List.length_cons,List.length_nil,List.length_replicate];omega)) fun _=>?_)
    rw [show (((r+1:Nat):Int)-1)=(r:Nat) by omega]
    repeat (with_reducible refine Chk.mk (by first | omega | (simp only [inR];omega) | (simp only [List.length_append,List.length_cons,List.length_nil,List.length_replicate];omega)) fun _=>?_)
    exact ⟨⟨(r,u++t5++t3++[44],d5),hL.step (by simp only [List.length_append,List.length_cons,List.length_nil,List.length_replicate];omega),hd5⟩,by simp only;omega,(Ent.ren1 [0] (by decide) (by simp only [Yd];exact za rfl) (by simp [zi,Vg.look,SV.mapH,muL]))⟩
  ·have hk1:1≤p:=by omega
   obtain ⟨z1,z2,z3⟩:=pw8 hk1
   repeat (with_reducible refine Chk.mk (by first | omega | (simp only [inR];omega) | (simp only [List.length_append,List.length_cons,List.length_nil,List.length_replicate];omega)) fun _=>?_)
   repeat (with_reducible refine Chk.mk (by first | omega | (simp only [inR];omega) | (simp only [List.length_append,List.length_cons,List.length_nil,List.length_replicate];omega)) fun _=>?_)
   have hr4:=yg cd (n:=4) d3 (by first | decide | omega)
   have hd4:=y6 (cd:=cd) (n:=4) hd3
   refine zj.mut (q5 cd d3 4 ⟨hd3,hc⟩) rfl [0] (by simp [Yf]) (by simp only [Ye];exact ⟨by omega,za rfl⟩) (by decide) ?_
   simp only [↓XC,XV,XT,Yg,seval,TES,XR,↓Yc,zr,upd,muL,List.getElem?_nil,List.drop_nil,Option.map_none,SO.mapH,List.getElem?_cons_zero,List.getElem?_cons_succ]
   generalize yx cd 4 d3=q4 at *
   refine yv.of (ι:={x:Nat×Bs×Nat×Int // lp3 (14) ((30 * 8 ^ (p-1).toNat+40)) x.1 x.2.1.length∧x.2.2.1≤cd.length}) (fun x=>⟨[(0,.ptr 0 0 0),(1,.i .i64 p),(5,.s x.1.2.1),(9,.i .i64 (x.1.1:Nat))],[some (.blk false [.fs 1 (cd.map u6),.i .i64 (x.1.2.2.1:Nat),.i .i64 x.1.2.2.2])]⟩) (fun x=>x.1.1) ⟨((q4.1).toNat,t1++[123]++t3,q4.2),lp3.start (by omega) (by simp only [List.length_append,List.length_cons,List.length_nil];omega),hd4⟩ (Ent.ren1 [0] (by decide) (by simp only [Yd];exact za rfl) (by simp [zi,Vg.look,SV.mapH,muL];omega)) ?_
   rintro ⟨⟨r,u,e⟩,hL,he⟩
   simp only [↓XC,XV,XT,Yg,seval,TES,XR,↓Yc]
   simp only at hL he
   have hA:=hL.all
   have hr3:=hL.le
   rcases r with _ | r
   ·refine ⟨fun h=>absurd h (by omega),fun _=>?_⟩
    repeat (with_reducible refine Chk.mk (by first | omega | (simp only [inR];omega) | (simp only [List.length_append,List.length_cons,List.length_nil,List.length_replicate];omega)) fun _=>?_)
    exact ⟨_,_,DrS.mk (u++[125]) (e) (by first | omega | (simp only [List.length_append,List.length_cons,List.length_nil,List.length_replicate];omega)) he,⟨[0],by decide,by simp only [Yd];exact za rfl,by simp only [↓XC,XV,XT,Yg,seval,TES];try simp [Yf],by simp [zw,SO.ro],by simp⟩⟩
   ·refine ⟨fun _=>?_,fun h=>absurd h (by omega)⟩
    repeat (with_reducible refine Chk.mk (by first | omega | (simp only [inR];omega) | (simp only [List.length_append,List.length_cons,List.length_nil,List.length_replicate];omega)) fun _=>?_)
    refine zj.mutQ (ih cd e 0 ⟨he,hc,by decide⟩ (by omega)) rfl [0] (by simp [Yf]) (by simp only [Ye];exact ⟨by omega,za rfl⟩) (by decide) ?_
    rintro _ _ ⟨t5,d5,hl5,hd5,rfl,rfl⟩
    simp only [↓XC,XV,XT,Yg,seval,TES,XR,↓Yc,zr,upd,muL,List.getElem?_nil,List.drop_nil,Option.map_none,SO.mapH,List.getElem?_cons_zero,List.getElem?_cons_succ]
    repeat (with_reducible refine Chk.mk (by first | omega | (simp only [inR];omega) | (simp only [List.length_append,List.length_cons,List.length_nil,List.length_replicate];omega)) fun _=>?_)
    repeat (with_reducible refine Chk.mk (by first | omega | (simp only [inR];omega) | (simp only [List.length_append,List.length_cons,List.length_nil,List.length_replicate];omega)) fun _=>?_)
    refine zj.mutQ (qh cd d5 [[58,32],[58],[32,58,32],[58,32],[]] ⟨hd5,hc,by decide,by decide⟩) rfl [0,1] (by simp [Yf];try decide) (by simp only [Ye];exact ⟨by omega,za rfl,by omega,y3 (l:=[[58,32],[58],[32,58,32],[58,32],[]])⟩) (by decide) ?_
    rintro _ _ ⟨t6,d6,hm6,hd6,rfl,rfl⟩
    have hl6:=ql (M:=3) hm6 (by decide)
    clear hm6
    simp only [↓XC,XV,XT,Yg,seval,TES,XR,↓Yc,zr,upd,muL,List.getElem?_nil,List.drop_nil,Option.map_none,SO.mapH,List.getElem?_cons_zero,List.getElem?_cons_succ]
    repeat (with_reducible refine Chk.mk (by first | omega | (simp only [inR];omega) | (simp only [List.length_append,List.length_cons,List.length_nil,List.length_replicate];omega)) fun _=>?_)
    repeat (with_reducible refine Chk.mk (by first | omega | (simp only [inR];omega) | (simp only [List.length_append,List.length_cons,List.length_nil,List.length_replicate];omega)) fun _=>?_)
    refine zj.mutQ (ih cd d6 (p-1) ⟨hd6,hc,by omega⟩ (by omega)) rfl [0] (by simp [Yf]) (by simp only [Ye];exact ⟨by omega,za rfl⟩) (by decide) ?_
    rintro _ _ ⟨t7,d7,hl7,hd7,rfl,rfl⟩
    simp only [↓XC,XV,XT,Yg,seval,TES,XR,↓Yc,zr,upd,muL,List.getElem?_nil,List.drop_nil,Option.map_none,SO.mapH,List.getElem?_cons_zero,List.getElem?_cons_succ]
    repeat (with_reducible refine Chk.mk (by first | omega | (simp only [inR];omega) | (simp only [List.length_append,List.length_cons,List.length_nil,List.length_replicate];omega)) fun _=>?_)
    rw [show (((r+1:Nat):Int)-1)=(r:Nat) by omega]
    repeat (with_reducible refine Chk.mk (by first | omega | (simp only [inR];omega) | (simp only [List.length_append,List.length_cons,List.length_nil,List.length_replicate];omega)) fun _=>?_)
    exact ⟨⟨(r,u++t5++t6++t7++[44],d7),hL.step (by simp only [List.length_append,List.length_cons,List.length_nil,List.length_replicate];omega),hd7⟩,by simp only;omega,(Ent.ren1 [0] (by decide) (by simp only [Yd];exact za rfl) (by simp [zi,Vg.look,SV.mapH,muL]))⟩
  ·repeat (with_reducible refine Chk.mk (by first | omega | (simp only [inR];omega) | (simp only [List.length_append,List.length_cons,List.length_nil,List.length_replicate];omega)) fun _=>?_)
   refine zj.mutQ (qh cd d3 [[97],[98]] ⟨hd3,hc,by decide,by decide⟩) rfl [0,3] (by simp [Yf];try decide) (by simp only [Ye];exact ⟨by omega,za rfl,by omega,y3 (l:=[[97],[98]])⟩) (by decide) ?_
   rintro _ _ ⟨t4,d4,hm4,hd4,rfl,rfl⟩
   have hl4:=ql (M:=1) hm4 (by decide)
   clear hm4
   simp only [↓XC,XV,XT,Yg,seval,TES,XR,↓Yc,zr,upd,muL,List.getElem?_nil,List.drop_nil,Option.map_none,SO.mapH,List.getElem?_cons_zero,List.getElem?_cons_succ]
   repeat (with_reducible refine Chk.mk (by first | omega | (simp only [inR];omega) | (simp only [List.length_append,List.length_cons,List.length_nil,List.length_replicate];omega)) fun _=>?_)
   exact ⟨_,_,DrS.mk (42::t4) (d4) (by first | omega | (simp only [List.length_append,List.length_cons,List.length_nil,List.length_replicate];omega)) hd4,⟨[0],by decide,by simp only [Yd];exact za rfl,by simp only [↓XC,XV,XT,Yg,seval,TES];try simp [Yf],by simp [zw,SO.ro],by simp⟩⟩
  ·repeat (with_reducible refine Chk.mk (by first | omega | (simp only [inR];omega) | (simp only [List.length_append,List.length_cons,List.length_nil,List.length_replicate];omega)) fun _=>?_)
   refine zj.mutQ (qh cd d3 [[39,113,39],[34,100,92,110,34],[39,105,116,39,39,115,39],[34,97,10,32,98,34]] ⟨hd3,hc,by decide,by decide⟩) rfl [0,3] (by simp [Yf];try decide) (by simp only [Ye];exact ⟨by omega,za rfl,by omega,y3 (l:=[[39,113,39],[34,100,92,110,34],[39,105,116,39,39,115,39],[34,97,10,32,98,34]])⟩) (by decide) ?_
   rintro _ _ ⟨t4,d4,hm4,hd4,rfl,rfl⟩
   have hl4:=ql (M:=7) hm4 (by decide)
   clear hm4
   simp only [↓XC,XV,XT,Yg,seval,TES,XR,↓Yc,zr,upd,muL,List.getElem?_nil,List.drop_nil,Option.map_none,SO.mapH,List.getElem?_cons_zero,List.getElem?_cons_succ]
   repeat (with_reducible refine Chk.mk (by first | omega | (simp only [inR];omega) | (simp only [List.length_append,List.length_cons,List.length_nil,List.length_replicate];omega)) fun _=>?_)
   exact ⟨_,_,DrS.mk (t1++t4) (d4) (by first | omega | (simp only [List.length_append,List.length_cons,List.length_nil,List.length_replicate];omega)) hd4,⟨[0],by decide,by simp only [Yd];exact za rfl,by simp only [↓XC,XV,XT,Yg,seval,TES];try simp [Yf],by simp [zw,SO.ro],by simp⟩⟩
  ·exact ⟨_,_,DrS.mk (t1) (d3) (by first | omega | (simp only [List.length_append,List.length_cons,List.length_nil,List.length_replicate];omega)) hd3,⟨[0],by decide,by simp only [Yd];exact za rfl,by simp only [↓XC,XV,XT,Yg,seval,TES];try simp [Yf],by simp [zw,SO.ro],by simp⟩⟩
  ·repeat (with_reducible refine Chk.mk (by first | omega | (simp only [inR];omega) | (simp only [List.length_append,List.length_cons,List.length_nil,List.length_replicate];omega)) fun _=>?_)
   refine zj.mutQ (zos cd d3 ⟨hd3,hc⟩) rfl [0] (by simp [Yf]) (by simp only [Ye];exact ⟨by omega,za rfl⟩) (by decide) ?_
   rintro _ _ ⟨t4,d4,hl4,hd4,rfl,rfl⟩
   simp only [↓XC,XV,XT,Yg,seval,TES,XR,↓Yc,zr,upd,muL,List.getElem?_nil,List.drop_nil,Option.map_none,SO.mapH,List.getElem?_cons_zero,List.getElem?_cons_succ]
   repeat (with_reducible refine Chk.mk (by first | omega | (simp only [inR];omega) | (simp only [List.length_append,List.length_cons,List.length_nil,List.length_replicate];omega)) fun _=>?_)
   exact ⟨_,_,DrS.mk (t1++t4) (d4) (by first | omega | (simp only [List.length_append,List.length_cons,List.length_nil,List.length_replicate];omega)) hd4,⟨[0],by decide,by simp only [Yd];exact za rfl,by simp only [↓XC,XV,XT,Yg,seval,TES];try simp [Yf],by simp [zw,SO.ro],by simp⟩⟩
theorem zyx (cd:Bs) (d:Nat×Int) (p:Int) (hp:d.1≤cd.length∧cd.length≤1048576∧p≤8):FnK Tryz.prog 207 1 [.ptr 0 0 0,.i .i64 p] [some (.blk false [.fs 1 (cd.map u6),.i .i64 (d.1:Nat),.i .i64 d.2])] (fun z c=>DrS cd (30 * 8 ^ p.toNat) z c):=zq0 (p.toNat+1) cd d p hp (Nat.lt_succ_self _)
end Go.T
end
section
set_option linter.unusedVariables false
set_option linter.unusedSimpArgs false
set_option linter.unusedSectionVars false
set_option linter.unnecessarySimpa false
namespace Go.T
variable [Go.Vg.Glob]
open Go.Proofs Go.Vg Go.RowKit Go.TT Go.Pl
set_option maxRecDepth 10000
set_option maxHeartbeats 4000000
theorem zde (cd:Bs) (d:Nat×Int) (hp:d.1≤cd.length∧cd.length≤1048576):FnK Tryz.prog 206 1 [.ptr 0 0 0] [some (.blk false [.fs 1 (cd.map u6),.i .i64 (d.1:Nat),.i .i64 d.2])] (fun z c=>DrS cd 260 z c):=by
 refine FnK.ofQ (cf:=zk Tryz.prog te [] 37 1 false (fun _=>false) (kp [(0,[0]),(1,[0,3]),(2,[0,3,4]),(3,[0,3,4,10]),(4,[2]),(5,[0,3,4,17]),(6,[2]),(7,[0,3,4,25]),(8,[2]),(9,[0,3,31]),(10,[2]),(11,[2])]) [] []) (zf te_ok (l:=[]) (trivial) zc) Tryz.func206 rfl rfl rfl (by simp [zk]) (by simp [zk]) (rs:=[.tmp 2]) rfl 100000 ?_
 simp only [↓XC,XV,XT,Yg,seval,TES,XR,↓Yc]
 have hc:=hp.2
 repeat (with_reducible refine Chk.mk (by first | omega | (simp only [inR];omega) | (simp only [List.length_append,List.length_cons,List.length_nil,List.length_replicate];omega)) fun _=>?_)
 refine zj.mutQ (qh cd d [[],[],[],[38,97,32],[33,33,115,116,114,32],[38,98,32,33,116,32]] ⟨hp.1,hc,by decide,by decide⟩) rfl [0,1] (by simp [Yf];try decide) (by simp only [Ye];exact ⟨by omega,za rfl,by omega,y3 (l:=[[],[],[],[38,97,32],[33,33,115,116,114,32],[38,98,32,33,116,32]])⟩) (by decide) ?_
 rintro _ _ ⟨t1,d1,hm1,hd1,rfl,rfl⟩
 have hl1:=ql (M:=6) hm1 (by decide)
 clear hm1
 simp only [↓XC,XV,XT,Yg,seval,TES,XR,↓Yc,zr,upd,muL,List.getElem?_nil,List.drop_nil,Option.map_none,SO.mapH,List.getElem?_cons_zero,List.getElem?_cons_succ]
 repeat (with_reducible refine Chk.mk (by first | omega | (simp only [inR];omega) | (simp only [List.length_append,List.length_cons,List.length_nil,List.length_replicate];omega)) fun _=>?_)
 have hr2:=yg cd (n:=8) d1 (by first | decide | omega)
 have hd2:=y6 (cd:=cd) (n:=8) hd1
 refine zj.mut (q5 cd d1 8 ⟨hd1,hc⟩) rfl [0] (by simp [Yf]) (by simp only [Ye];exact ⟨by omega,za rfl⟩) (by decide) ?_
 simp only [↓XC,XV,XT,Yg,seval,TES,XR,↓Yc,zr,upd,muL,List.getElem?_nil,List.drop_nil,Option.map_none,SO.mapH,List.getElem?_cons_zero,List.getElem?_cons_succ]
 generalize yx cd 8 d1=q2 at *
 refine ⟨fun c=>?_,fun c1=>⟨fun c=>?_,fun c2=>⟨fun c=>?_,fun c3=>⟨fun c=>?_,fun c4=>?_⟩⟩⟩⟩
 ·repeat (with_reducible refine Chk.mk (by first | omega | (simp only [inR];omega) | (simp only [List.length_append,List.length_cons,List.length_nil,List.length_replicate];omega)) fun _=>?_)
  refine zj.mutQ (zos cd q2.2 ⟨hd2,hc⟩) rfl [0] (by simp [Yf]) (by simp only [Ye];exact ⟨by omega,za rfl⟩) (by decide) ?_
  rintro _ _ ⟨t3,d3,hl3,hd3,rfl,rfl⟩
  simp only [↓XC,XV,XT,Yg,seval,TES,XR,↓Yc,zr,upd,muL,List.getElem?_nil,List.drop_nil,Option.map_none,SO.mapH,List.getElem?_cons_zero,List.getElem?_cons_succ]
  repeat (with_reducible refine Chk.mk (by first | omega | (simp only [inR];omega) | (simp only [List.length_append,List.length_cons,List.length_nil,List.length_replicate];omega)) fun _=>?_)
  exact ⟨_,_,DrS.mk (t1++t3) (d3) (by first | omega | (simp only [List.length_append,List.length_cons,List.length_nil,List.length_replicate];omega)) hd3,⟨[0],by decide,by simp only [Yd];exact za rfl,by simp only [↓XC,XV,XT,Yg,seval,TES];try simp [Yf],by simp [zw,SO.ro],by simp⟩⟩
 ·repeat (with_reducible refine Chk.mk (by first | omega | (simp only [inR];omega) | (simp only [List.length_append,List.length_cons,List.length_nil,List.length_replicate];omega)) fun _=>?_)
  refine zj.mutQ (qh cd q2.2 [[39,113,39],[34,100,92,116,34],[39,105,116,39,39,115,39]] ⟨hd2,hc,by decide,by decide⟩) rfl [0,2] (by simp [Yf];try decide) (by simp only [Ye];exact ⟨by omega,za rfl,by omega,y3 (l:=[[39,113,39],[34,100,92,116,34],[39,105,116,39,39,115,39]])⟩) (by decide) ?_
  rintro _ _ ⟨t3,d3,hm3,hd3,rfl,rfl⟩
  have hl3:=ql (M:=7) hm3 (by decide)
  clear hm3
  simp only [↓XC,XV,XT,Yg,seval,TES,XR,↓Yc,zr,upd,muL,List.getElem?_nil,List.drop_nil,Option.map_none,SO.mapH,List.getElem?_cons_zero,List.getElem?_cons_succ]
  repeat (with_reducible refine Chk.mk (by first | omega | (simp only [inR];omega) | (simp only [List.length_append,List.length_cons,List.length_nil,List.length_replicate];omega)) fun _=>?_)
  exact ⟨_,_,DrS.mk (t1++t3) (d3) (by first | omega | (simp only [List.length_append,List.length_cons,List.length_nil,List.length_replicate];omega)) hd3,⟨[0],by decide,by simp only [Yd];exact za rfl,by simp only [↓XC,XV,XT,Yg,seval,TES];try simp [Yf],by simp [zw,SO.ro],by simp⟩⟩
 ·repeat (with_reducible refine Chk.mk (by first | omega | (simp only [inR];omega) | (simp only [List.length_append,List.length_cons,List.length_nil,List.length_replicate];omega)) fun _=>?_)
  refine zj.mutQ (qh cd q2.2 [[42,97],[42,98]] ⟨hd2,hc,by decide,by decide⟩) rfl [0,2] (by simp [Yf];try decide) (by simp only [Ye];exact ⟨by omega,za rfl,by omega,y3 (l:=[[42,97],[42,98]])⟩) (by decide) ?_
  rintro _ _ ⟨t3,d3,hm3,hd3,rfl,rfl⟩
  have hl3:=ql (M:=2) hm3 (by decide)
  clear hm3
  simp only [↓XC,XV,XT,Yg,seval,TES,XR,↓Yc,zr,upd,muL,List.getElem?_nil,List.drop_nil,Option.map_none,SO.mapH,List.getElem?_cons_zero,List.getElem?_cons_succ]
  repeat (with_reducible refine Chk.mk (by first | omega | (simp only [inR];omega) | (simp only [List.length_append,List.length_cons,List.length_nil,List.length_replicate];omega)) fun _=>?_)
  exact ⟨_,_,DrS.mk (t3) (d3) (by first | omega | (simp only [List.length_append,List.length_cons,List.length_nil,List.length_replicate];omega)) hd3,⟨[0],by decide,by simp only [Yd];exact za rfl,by simp only [↓XC,XV,XT,Yg,seval,TES];try simp [Yf],by simp [zw,SO.ro],by simp⟩⟩
 ·repeat (with_reducible refine Chk.mk (by first | omega | (simp only [inR];omega) | (simp only [List.length_append,List.length_cons,List.length_nil,List.length_replicate];omega)) fun _=>?_)
  refine zj.mutQ (zyx cd q2.2 1 ⟨hd2,hc,by decide⟩) rfl [0] (by simp [Yf]) (by simp only [Ye];exact ⟨by omega,za rfl⟩) (by decide) ?_
  rintro _ _ ⟨t3,d3,hl3,hd3,rfl,rfl⟩
  simp only [↓XC,XV,XT,Yg,seval,TES,XR,↓Yc,zr,upd,muL,List.getElem?_nil,List.drop_nil,Option.map_none,SO.mapH,List.getElem?_cons_zero,List.getElem?_cons_succ]
  have z1:8 ^ (1:Int).toNat=8:=rfl
  repeat (with_reducible refine Chk.mk (by first | omega | (simp only [inR];omega) | (simp only [List.length_append,List.length_cons,List.length_nil,List.length_replicate];omega)) fun _=>?_)
  exact ⟨_,_,DrS.mk (t3) (d3) (by first | omega | (simp only [List.length_append,List.length_cons,List.length_nil,List.length_replicate];omega)) hd3,⟨[0],by decide,by simp only [Yd];exact za rfl,by simp only [↓XC,XV,XT,Yg,seval,TES];try simp [Yf],by simp [zw,SO.ro],by simp⟩⟩
 ·exact ⟨_,_,DrS.mk (t1) (q2.2) (by first | omega | (simp only [List.length_append,List.length_cons,List.length_nil,List.length_replicate];omega)) hd2,⟨[0],by decide,by simp only [Yd];exact za rfl,by simp only [↓XC,XV,XT,Yg,seval,TES];try simp [Yf],by simp [zw,SO.ro],by simp⟩⟩
theorem zor (cd:Bs) (d:Nat×Int) (n p:Int) (B:Nat) (HD:∀ (e:Nat×Int) (m:Int),e.1≤cd.length→0≤m→m≤n+2→FnK Tryz.prog 205 1 [.ptr 0 0 0,.i .i64 m,.i .i64 (p-1)] [some (.blk false [.fs 1 (cd.map u6),.i .i64 (e.1:Nat),.i .i64 e.2])] (DrS cd B)) (hp:d.1≤cd.length∧cd.length≤1048576∧0≤n∧n≤100∧B≤1073741824∧0≤p∧p≤8):FnK Tryz.prog 245 1 [.ptr 0 0 0,.i .i64 n,.i .i64 p] [some (.blk false [.fs 1 (cd.map u6),.i .i64 (d.1:Nat),.i .i64 d.2])] (fun z c=>DrS cd (B+600) z c):=by
 refine FnK.ofQ (cf:=zk Tryz.prog te [(244,zao)] 57 1 false (fun _=>false) (kp [(0,[0,1,2]),(1,[0,1,2,7]),(2,[0,1,2,7,11]),(3,[6]),(4,[0,1,2,7,18]),(5,[0,2,8]),(6,[6]),(7,[0,1,38]),(8,[6]),(9,[6])]) [] []) (zf te_ok (l:=[(244,zao)]) (⟨zfw,trivial⟩) zc) Tryz.func245 rfl rfl rfl (by simp [zk]) (by simp [zk]) (rs:=[.tmp 6]) rfl 100000 ?_
 simp only [↓XC,XV,XT,Yg,seval,TES,zp,XR,↓Yc]
 have hc:=hp.2.1
 repeat (with_reducible refine Chk.mk (by first | omega | (simp only [inR];omega) | (simp only [List.length_append,List.length_cons,List.length_nil,List.length_replicate];omega)) fun _=>?_)
 have hr1:=yg cd (n:=6) d (by first | decide | omega)
 have hd1:=y6 (cd:=cd) (n:=6) hp.1
 refine zj.mut (q5 cd d 6 ⟨hp.1,hc⟩) rfl [0] (by simp [Yf]) (by simp only [Ye];exact ⟨by omega,za rfl⟩) (by decide) ?_
 simp only [↓XC,XV,XT,Yg,seval,TES,zp,XR,↓Yc,zr,upd,muL,List.getElem?_nil,List.drop_nil,Option.map_none,SO.mapH,List.getElem?_cons_zero,List.getElem?_cons_succ]
 generalize yx cd 6 d=q1 at *
 refine ⟨fun c=>?_,fun c1=>⟨fun c=>?_,fun c2=>⟨fun c=>?_,fun c3=>?_⟩⟩⟩
 ·repeat (with_reducible refine Chk.mk (by first | omega | (simp only [inR];omega) | (simp only [List.length_append,List.length_cons,List.length_nil,List.length_replicate];omega)) fun _=>?_)
  refine zj.mutQ (zde cd q1.2 ⟨hd1,hc⟩) rfl [0] (by simp [Yf]) (by simp only [Ye];exact ⟨by omega,za rfl⟩) (by decide) ?_
  rintro _ _ ⟨t2,d2,hl2,hd2,rfl,rfl⟩
  simp only [↓XC,XV,XT,Yg,seval,TES,zp,XR,↓Yc,zr,upd,muL,List.getElem?_nil,List.drop_nil,Option.map_none,SO.mapH,List.getElem?_cons_zero,List.getElem?_cons_succ]
  repeat (with_reducible refine Chk.mk (by first | omega | (simp only [inR];omega) | (simp only [List.length_append,List.length_cons,List.length_nil,List.length_replicate];omega)) fun _=>?_)
  exact ⟨_,_,DrS.mk (32::(t2++[10])) (d2) (by first | omega | (simp only [List.length_append,List.length_cons,List.length_nil,List.length_replicate];omega)) hd2,⟨[0],by decide,by simp only [Yd];exact za rfl,by simp only [↓XC,XV,XT,Yg,seval,TES];try simp [Yf],by simp [zw,SO.ro],by simp⟩⟩
 ·repeat (with_reducible refine Chk.mk (by first | omega | (simp only [inR];omega) | (simp only [List.length_append,List.length_cons,List.length_nil,List.length_replicate];omega)) fun _=>?_)
  have hr2:=yg cd (n:=2) q1.2 (by first | decide | omega)
  have hd2:=y6 (cd:=cd) (n:=2) hd1
  refine zj.mut (q5 cd q1.2 2 ⟨hd1,hc⟩) rfl [0] (by simp [Yf]) (by simp only [Ye];exact ⟨by omega,za rfl⟩) (by decide) ?_
  simp only [↓XC,XV,XT,Yg,seval,TES,zp,XR,↓Yc,zr,upd,muL,List.getElem?_nil,List.drop_nil,Option.map_none,SO.mapH,List.getElem?_cons_zero,List.getElem?_cons_succ]
  generalize yx cd 2 q1.2=q2 at *
  repeat (with_reducible refine Chk.mk (by first | omega | (simp only [inR];omega) | (simp only [List.length_append,List.length_cons,List.length_nil,List.length_replicate];omega)) fun _=>?_)
  refine zj.mutQ (qh cd q2.2 [[10],[10],[32,38,98,10],[32,35,32,114,10,10]] ⟨hd2,hc,by decide,by decide⟩) rfl [0,1] (by simp [Yf];try decide) (by simp only [Ye];exact ⟨by omega,za rfl,by omega,y3 (l:=[[10],[10],[32,38,98,10],[32,35,32,114,10,10]])⟩) (by decide) ?_
  rintro _ _ ⟨t3,d3,hm3,hd3,rfl,rfl⟩
  have hl3:=ql (M:=6) hm3 (by decide)
  clear hm3
  simp only [↓XC,XV,XT,Yg,seval,TES,zp,XR,↓Yc,zr,upd,muL,List.getElem?_nil,List.drop_nil,Option.map_none,SO.mapH,List.getElem?_cons_zero,List.getElem?_cons_succ]
  repeat (with_reducible refine Chk.mk (by first | omega | (simp only [inR];omega) | (simp only [List.length_append,List.length_cons,List.length_nil,List.length_replicate];omega)) fun _=>?_)
  refine zj.mutQ (HD d3 (n+1+q2.1) hd3 (by omega) (by omega)) rfl [0] (by simp [Yf]) (by simp only [Ye];exact ⟨by omega,za rfl⟩) (by decide) ?_
  rintro _ _ ⟨t4,d4,hl4,hd4,rfl,rfl⟩
  simp only [↓XC,XV,XT,Yg,seval,TES,zp,XR,↓Yc,zr,upd,muL,List.getElem?_nil,List.drop_nil,Option.map_none,SO.mapH,List.getElem?_cons_zero,List.getElem?_cons_succ]
  repeat (with_reducible refine Chk.mk (by first | omega | (simp only [inR];omega) | (simp only [List.length_append,List.length_cons,List.length_nil,List.length_replicate];omega)) fun _=>?_)
  exact ⟨_,_,DrS.mk (t3++List.replicate (n+1+q2.1).toNat 32++t4) (d4) (by first | omega | (simp only [List.length_append,List.length_cons,List.length_nil,List.length_replicate];omega)) hd4,⟨[0],by decide,by simp only [Yd];exact za rfl,by simp only [↓XC,XV,XT,Yg,seval,TES];try simp [Yf],by simp [zw,SO.ro],by simp⟩⟩
 ·repeat (with_reducible refine Chk.mk (by first | omega | (simp only [inR];omega) | (simp only [List.length_append,List.length_cons,List.length_nil,List.length_replicate];omega)) fun _=>?_)
  refine zj.mutQ (zde cd q1.2 ⟨hd1,hc⟩) rfl [0] (by simp [Yf]) (by simp only [Ye];exact ⟨by omega,za rfl⟩) (by decide) ?_
  rintro _ _ ⟨t2,d2,hl2,hd2,rfl,rfl⟩
  simp only [↓XC,XV,XT,Yg,seval,TES,zp,XR,↓Yc,zr,upd,muL,List.getElem?_nil,List.drop_nil,Option.map_none,SO.mapH,List.getElem?_cons_zero,List.getElem?_cons_succ]
  repeat (with_reducible refine Chk.mk (by first | omega | (simp only [inR];omega) | (simp only [List.length_append,List.length_cons,List.length_nil,List.length_replicate];omega)) fun _=>?_)
  exact ⟨_,_,DrS.mk (10::(List.replicate n.toNat 32++[45,32,120,10]++List.replicate n.toNat 32++[45,32]++t2++[10])) (d2) (by first | omega | (simp only [List.length_append,List.length_cons,List.length_nil,List.length_replicate];omega)) hd2,⟨[0],by decide,by simp only [Yd];exact za rfl,by simp only [↓XC,XV,XT,Yg,seval,TES];try simp [Yf],by simp [zw,SO.ro],by simp⟩⟩
 ·repeat (with_reducible refine Chk.mk (by first | omega | (simp only [inR];omega) | (simp only [List.length_append,List.length_cons,List.length_nil,List.length_replicate];omega)) fun _=>?_)
  exact ⟨_,_,DrS.mk (32::124::10::(List.replicate n.toNat 32++[32,32,116,10])) (q1.2) (by first | omega | (simp only [List.length_append,List.length_cons,List.length_nil,List.length_replicate];omega)) hd1,⟨[0],by decide,by simp only [Yd];exact za rfl,by simp only [↓XC,XV,XT,Yg,seval,TES];try simp [Yf],by simp [zw,SO.ro],by simp⟩⟩
end Go.T
end
