/- Own text: part QAZ. -/
import Derived.Test.YtgippllfnmdnpaaGreatDoorQAX
set_option linter.unusedVariables false
set_option linter.unusedSimpArgs false
set_option linter.unusedSectionVars false
set_option linter.unnecessarySimpa false
namespace Go.T
variable [Go.Vg.Glob]
open Go.Proofs Go.Vg Go.RowKit Go.TT Go.Pl
set_option maxRecDepth 10000
set_option maxHeartbeats 4000000
theorem zkq (l:List Ev) (hp:l.length≤1048576∧qh l=true):FnK Tryz.prog 152 0 [.agg [.fs 8 (l.map evc),.fs 1 ((zjd l).map wz),.fs 1 ((upL l).map wz),.fs 1 ((zpd l).map wz)]] [] (fun z c=>z=.slc 0 0 l.length∧c=[some (.row false 1 l.length (zg wz 0 (mkR l.length (zhh l))))]):=by
 refine FnK.ofE (cf:=zk Tryz.prog te [] 73 0 false (fun _=>false) (kp [(0,[1]),(1,[1,3]),(2,[1,3,4]),(3,[1,3,4,15,16,17]),(4,[1,3,4,15,16,17,18]),(5,[1,3,4,5,6,15,16,17]),(6,[1,3,4,5,6,15,16,17]),(7,[1,3,4,5,6,15,16,17,25]),(8,[1,3,4,15,16,17]),(9,[1,3,4,5,6,15,16,17,30]),(10,[1,3,4,5,7,8,15,16,17]),(11,[1,3,4,5,7,15,16,17,58]),(12,[1,3,4,15,16,17]),(13,[1,3,4,5,6,15,16,17,63]),(14,[1,3,4,15,16,17]),(15,[1,3,4,15,16,17]),(16,[2])]) [] []) (zf te_ok (l:=[]) (trivial) zd) Tryz.func152 rfl rfl rfl (by simp [zk]) (by simp [zk]) (rs:=[.tmp 2]) rfl 100000 ?_
 simp only [↓XC,XV,XT,Yg,seval,TES,XRE,XR,wk,xl]
 refine Chk.mk (by omega) fun _=>?_
 refine yp.of (ι:={x:Nat×List (List UInt8×Int) // x.1≤l.length∧zo2 l x.1 x.2}) (fun x=>⟨[(1,.ptr 0 0 0),(3,.slc 1 0 l.length),(4,.mp 2),(15,.fs 8 (l.map evc)),(16,.i .i64 (l.length:Nat)),(17,.i .i64 (x.1.1:Nat))],[some (.blk false [.fs 8 (l.map evc),.fs 1 ((zjd l).map wz),.fs 1 ((upL l).map wz),.fs 1 ((zpd l).map wz)]),some (.row false 1 l.length (zg wz 0 (mkR l.length fun j=>if j<x.1.1 then zhh l j else 0))),some (.mapS x.1.2)]⟩) (fun x=>l.length-x.1.1) ⟨(0,[]),Nat.zero_le _,ztl⟩ (Ent.ren1 [0,1,2] (by decide) (by simp only [Yd];exact ⟨zb rfl,zh fun j hj=>by simp only [zg,zm hj,Nat.not_lt_zero,if_false]<;>rfl,zi⟩) (by simp [zj,Vg.look,SV.mapH,muL])) ?_
 rintro ⟨⟨i,m⟩,hi,hm⟩
 simp only [↓XC,XV,XT,Yg,seval,TES,XRE,XR,wk,xl]
 simp only at hi hm
 have hel:(zjd l).length=l.length:=xb
 have hlt:=zkt (l:=l) (t:=(l.getD i evz).text) i
 have hlk:=hm (l.getD i evz).text
 refine ⟨fun hil=>Chk.mk (by omega) fun _=>Chk.mk (by omega) fun _=>Chk.mk (by omega) fun _=>⟨fun h2=>?_,fun h2=>⟨fun h6=>?_,fun h6=>⟨fun ha=>?_,fun ha=>?_⟩⟩⟩,fun hil=>?_⟩
 ·have hd:=zpf (l:=l) (i:=i) (by omega)
  exact Chk.mk (by simp only [inR];omega) fun _=>⟨⟨(i+1,[]),by simp only;omega,zwr h2⟩,by simp only;omega,by simp only [Int.natCast_add,Int.natCast_one];exact (Ent.ren1 [0,1,4] (by decide) (by simp only [Yd];exact ⟨zb rfl,qq fun j hj=>rowD hd j hj,zi⟩) (by simp [zj,Vg.look,SV.mapH,muL]))⟩
 ·have hsame:=zit hm h2 (.inl h6)
  rw [hlk]
  have hdd:zhh l i=if 0≤we l (l.getD i evz).text i∧0≤(zjd l).getD (we l (l.getD i evz).text i).toNat 0∧(zjd l).getD (we l (l.getD i evz).text i).toNat 0<i then we l (l.getD i evz).text i else -1:=by unfold zhh;rw [if_pos h6]
  generalize we l (l.getD i evz).text i=a at *
  by_cases ha0:a<0
  ·rw [if_pos ha0]
   rw [if_neg (by omega)] at hdd
   refine Chk.mk (fun h=>by cases h) fun _=>Chk.mk (fun h=>by simp at h) fun _=>⟨fun h=>by simp at h,fun _=>?_⟩
   exact Chk.mk (by simp only [inR];omega) fun _=>⟨⟨(i+1,m),by simp only;omega,hsame⟩,by simp only;omega,by simp only [Int.natCast_add,Int.natCast_one];exact (Ent.ren1 [0,1,2] (by decide) (by simp only [Yd];exact ⟨zb rfl,qq fun j hj=>rowD hdd.symm j hj,zi⟩) (by simp [zj,Vg.look,SV.mapH,muL]))⟩
  ·rw [if_neg ha0]
   simp only [Option.isSome_some,Option.getD_some,Bool.true_and]
   refine Chk.mk (fun h=>by omega) fun _=>Chk.mk (fun h=>by omega) fun _=>⟨fun h=>?_,fun h=>?_⟩
   ·simp only [Yi] at h
    rw [if_pos (by omega)] at hdd
    refine Chk.mk (by omega) fun _=>Chk.mk (by omega) fun _=>?_
    exact Chk.mk (by simp only [inR];omega) fun _=>⟨⟨(i+1,m),by simp only;omega,hsame⟩,by simp only;omega,by simp only [Int.natCast_add,Int.natCast_one];exact (Ent.ren1 [0,1,2] (by decide) (by simp only [Yd];exact ⟨zb rfl,qq fun j hj=>rowD2 hdd.symm j hj,zi⟩) (by simp [zj,Vg.look,SV.mapH,muL]))⟩
   ·simp only [Yi] at h
    rw [if_neg (by omega)] at hdd
    exact Chk.mk (by simp only [inR];omega) fun _=>⟨⟨(i+1,m),by simp only;omega,hsame⟩,by simp only;omega,by simp only [Int.natCast_add,Int.natCast_one];exact (Ent.ren1 [0,1,2] (by decide) (by simp only [Yd];exact ⟨zb rfl,qq fun j hj=>rowD hdd.symm j hj,zi⟩) (by simp [zj,Vg.look,SV.mapH,muL]))⟩
 ·have hd:=zpf (l:=l) (i:=i) h6
  exact Chk.mk (by simp only [inR];omega) fun _=>⟨⟨(i+1,uc m (l.getD i evz).anchor i),by simp only;omega,zwq hm h2 h6 (by simpa using ha)⟩,by simp only;omega,by simp only [Int.natCast_add,Int.natCast_one];exact (Ent.ren1 [0,1,2] (by decide) (by simp only [Yd];exact ⟨zb rfl,qq fun j hj=>rowD hd j hj,zi⟩) (by simp [zj,Vg.look,SV.mapH,muL]))⟩
 ·have hd:=zpf (l:=l) (i:=i) h6
  have ha2:(l.getD i evz).anchor=[]:=by simpa using ha
  exact Chk.mk (by simp only [inR];omega) fun _=>⟨⟨(i+1,m),by simp only;omega,zit hm h2 (.inr ha2)⟩,by simp only;omega,by simp only [Int.natCast_add,Int.natCast_one];exact (Ent.ren1 [0,1,2] (by decide) (by simp only [Yd];exact ⟨zb rfl,qq fun j hj=>rowD hd j hj,zi⟩) (by simp [zj,Vg.look,SV.mapH,muL]))⟩
 ·obtain rfl:i=l.length:=by omega
  rw [mkR_done]
  exact ⟨[1],by decide,by simp only [Yd];exact za fun _=>rfl,by simp only [↓XC,XV,XT,Yg,seval];try simp [Yf],by simp [ye,SO.ro],by simp⟩
theorem zwk (l:List Ev) (hp:l.length≤1048576∧qh l=true):PF Tryz.prog 152 [.agg [.fs 8 (l.map evc),.fs 1 ((zjd l).map wz),.fs 1 ((upL l).map wz),.fs 1 ((zpd l).map wz)]] (.fs 1 ((mkR l.length (zhh l)).map wz)):=PF.ofOwn (zkq l hp) rfl rfl (by simp only [vl,kv,zcb,jv,z7,and_true];exact ⟨⟨by omega,fun j hj=>⟨rfl,rfl⟩⟩,by rw [wx xb.symm]⟩)
noncomputable def xw:PE:=peR (fun (l:List Ev)=>[.agg [.fs 8 (l.map evc),.fs 1 ((zjd l).map wz),.fs 1 ((upL l).map wz),.fs 1 ((zpd l).map wz)]]) (fun (l:List Ev)=>l.length≤1048576∧qh l=true) (fun (l:List Ev)=>.fs 1 ((mkR l.length (zhh l)).map wz))
theorem zfm {l:List Ev}:xw [.agg [.fs 8 (l.map evc),.fs 1 ((zjd l).map wz),.fs 1 ((upL l).map wz),.fs 1 ((zpd l).map wz)]]=some (l.length≤1048576∧qh l=true,.fs 1 ((mkR l.length (zhh l)).map wz)):=z6 (by rintro a b h;simp_all [zad,zro]) l
theorem zfl:PE1 Tryz.prog 152 xw:=yb (by rintro l hp;exact zwk l hp)
theorem zwj (l:List Ev) (hp:l.length≤1048576∧qh l=true):PF Tryz.prog 75 [.agg [.fs 8 (l.map evc),.fs 1 ((zjd l).map wz),.fs 1 ((upL l).map wz),.fs 1 ((zpd l).map wz)]] (.b (zaf l l.length)):=by
 refine ⟨rfl,rfl,FnK.of (cf:=zk Tryz.prog te [(152,xw)] 27 0 false (fun _=>false) (kp [(0,[1]),(1,[1,3]),(2,[3,9,10,11]),(3,[3,9,10,11,12]),(4,[3,4,5,9,10,11]),(5,[3,9,10,11,25]),(6,[2]),(7,[3,9,10,11]),(8,[2])]) [] []) (zf te_ok (l:=[(152,xw)]) (⟨zfl,trivial⟩) zd) Tryz.func75 rfl rfl rfl (by simp [zk]) (by simp [zk]) (rs:=[.tmp 2]) rfl 100000 ?_⟩
 simp only [↓XC,XV,XT,Yg,seval,TES,zfm,XRE,XR,wk,xl]
 refine Chk.mk hp fun _=>?_
 refine yp.of (ι:={i:Nat // i≤l.length∧zaf l i=true}) (fun x=>⟨[(3,.fs 1 ((mkR l.length (zhh l)).map wz)),(9,.fs 8 (l.map evc)),(10,.i .i64 (l.length:Nat)),(11,.i .i64 (x.1:Nat))],[]⟩) (fun x=>l.length-x.1) ⟨0,Nat.zero_le _,rfl⟩ (by (try simp only [Int.natCast_add,Int.natCast_one]);exact Ent.nil (by simp [zj,Vg.look,SV.mapH])) ?_
 rintro ⟨i,hi,hf⟩
 simp only [↓XC,XV,XT,Yg,seval,TES,XRE,XR,wk,xl]
 refine ⟨fun hl=>Chk.mk (by omega) fun _=>Chk.mk (fun _=>by rw [xb];omega) fun _=>?_,fun hl=>?_⟩
 ·rw [zm (by omega)]
  by_cases h6:(l.getD i evz).kind=6
  ·rw [defD_eq hp.2 (by omega) h6]
   refine ⟨fun hb=>?_,fun hb=>?_⟩
   ·simp only [decide_eq_true h6,Bool.true_and,decide_eq_true_eq] at hb
    rw [zh5 h6 hb l.length (by omega)]
   ·have hs:zaf l (i+1)=true:=by simp only [zaf,hf,hb];rfl
    exact Chk.mk (by simp only [inR];omega) fun _=>⟨⟨i+1,by omega,hs⟩,by simp only;omega,(by (try simp only [Int.natCast_add,Int.natCast_one]);exact Ent.nil (by simp [zj,Vg.look,SV.mapH]))⟩
  ·refine ⟨fun hb=>(by simp only [decide_eq_false h6,Bool.false_and] at hb;cases hb),fun hb=>?_⟩
   have hs:zaf l (i+1)=true:=by simp only [zaf,hf,decide_eq_false h6];rfl
   exact Chk.mk (by simp only [inR];omega) fun _=>⟨⟨i+1,by omega,hs⟩,by simp only;omega,(by (try simp only [Int.natCast_add,Int.natCast_one]);exact Ent.nil (by simp [zj,Vg.look,SV.mapH]))⟩
 ·obtain rfl:i=l.length:=by omega
  rw [hf]
noncomputable def xv:PE:=peR (fun (l:List Ev)=>[.agg [.fs 8 (l.map evc),.fs 1 ((zjd l).map wz),.fs 1 ((upL l).map wz),.fs 1 ((zpd l).map wz)]]) (fun (l:List Ev)=>l.length≤1048576∧qh l=true) (fun (l:List Ev)=>.b (zaf l l.length))
theorem zfk {l:List Ev}:xv [.agg [.fs 8 (l.map evc),.fs 1 ((zjd l).map wz),.fs 1 ((upL l).map wz),.fs 1 ((zpd l).map wz)]]=some (l.length≤1048576∧qh l=true,.b (zaf l l.length)):=z6 (by rintro a b h;simp_all [zad,zro]) l
theorem zfj:PE1 Tryz.prog 75 xv:=yb (by rintro l hp;exact zwj l hp)
theorem Tied_i (l:List Ev) (hp:l.length≤1048576):PF Tryz.prog 18 [.fs 8 (l.map evc)] (.b (zon l)):=by
 refine ⟨rfl,rfl,FnK.of (cf:=zk Tryz.prog te [(17,u2),(74,zco),(75,xv)] 10 0 false (fun _=>false) (kp [(0,[0]),(1,[2])]) [] []) (zf te_ok (l:=[(17,u2),(74,zco),(75,xv)]) (⟨zhc,zmf,zfj,trivial⟩) zd) Tryz.func18 rfl rfl rfl (by simp [zk]) (by simp [zk]) (rs:=[.tmp 2]) rfl 100000 ?_⟩
 simp only [↓XC,XV,XT,Yg,seval,TES,zhd,zmg,zfk,XRE,XR,wk,xl]
 exact Chk.mk hp fun _=>Chk.mk (fun h=>⟨h,hp,h⟩) fun _=>Chk.mk (fun h=>⟨h,hp,h⟩) fun _=>rfl
noncomputable def zct:PE:=peR (fun (l:List Ev)=>[.fs 8 (l.map evc)]) (fun (l:List Ev)=>l.length≤1048576) (fun (l:List Ev)=>.b (zon l))
theorem zmn {l:List Ev}:zct [.fs 8 (l.map evc)]=some (l.length≤1048576,.b (zon l)):=z6 (by rintro a b h;simp_all [zad]) l
theorem zmm:PE1 Tryz.prog 18 zct:=yb (by rintro l hp;exact Tied_i l hp)
theorem isFault (k st:Int) (fl:Bool) (x a g:Bs) (p c:Int):PF Tryz.prog 154 [.agg [.i .i64 k,.i .i64 st,.b fl,.s x,.s a,.s g,.i .i64 p,.i .i64 c]] (.b (decide (k=10))):=by
 refine ⟨rfl,rfl,FnK.of (cf:=zk Tryz.prog te [] 6 0 false (fun _=>false) (kp [(0,[1]),(1,[2])]) [] []) (zf te_ok (l:=[]) (trivial) zd) Tryz.func154 rfl rfl rfl (by simp [zk]) (by simp [zk]) (rs:=[.tmp 2]) rfl 100000 ?_⟩
 simp only [↓XC,XV,XT,Yg,seval,TES,XRE,XR,wk,xl]
noncomputable def xa:PE:=peR (fun (x:Int×Int×Bool×Bs×Bs×Bs×Int×Int)=>match x with | (k,st,fl,x,a,g,p,c)=>[.agg [.i .i64 k,.i .i64 st,.b fl,.s x,.s a,.s g,.i .i64 p,.i .i64 c]]) (fun (x:Int×Int×Bool×Bs×Bs×Bs×Int×Int)=>match x with | (k,st,fl,x,a,g,p,c)=>True) (fun (x:Int×Int×Bool×Bs×Bs×Bs×Int×Int)=>match x with | (k,st,fl,x,a,g,p,c)=>.b (decide (k=10)))
theorem uy {k st:Int} {fl:Bool} {x a g:Bs} {p c:Int}:xa [.agg [.i .i64 k,.i .i64 st,.b fl,.s x,.s a,.s g,.i .i64 p,.i .i64 c]]=some (True,.b (decide (k=10))):=z6 (by rintro ⟨a0,a1,a2,a3,a4,a5,a6,a7⟩ ⟨b0,b1,b2,b3,b4,b5,b6,b7⟩ h;simp_all []) (k,st,fl,x,a,g,p,c)
theorem zcs:PE1 Tryz.prog 154 xa:=yb (by rintro ⟨k,st,fl,x,a,g,p,c⟩ hp;exact isFault k st fl x a g p c)
theorem idxF (l:List Ev) (hp:l.length≤1048576):PF Tryz.prog 217 [.fs 8 (l.map evc),.fn 154] (.i .i64 (zub l 0)):=by
 refine ⟨rfl,rfl,FnK.of (cf:=zk Tryz.prog te [(154,xa)] 19 0 false (fun _=>false) (kp [(0,[0,1]),(1,[0,1,7,8]),(2,[0,1,7,8,9]),(3,[0,1,5,7,8]),(4,[0,1,5,7,8,16]),(5,[4]),(6,[0,1,7,8]),(7,[4])]) [] []) (zf te_ok (l:=[(154,xa)]) (⟨zcs,trivial⟩) zd) Tryz.func217 rfl rfl rfl (by simp [zk]) (by simp [zk]) (rs:=[.tmp 4]) rfl 100000 ?_⟩
 simp only [↓XC,XV,XT,Yg,seval,TES,uy,XRE,XR,wk,xl]
 refine yp.of (ι:={i:Nat // i≤l.length∧zub l i=zub l 0}) (fun x=>⟨[(0,.fs 8 (l.map evc)),(1,.fn 154),(7,.i .i64 (l.length:Nat)),(8,.i .i64 (x.1:Nat))],[]⟩) (fun x=>l.length-x.1) ⟨0,Nat.zero_le _,rfl⟩ (Ent.refl _ _) ?_
 rintro ⟨i,hi,hf⟩
 simp only [↓XC,XV,XT,Yg,seval,TES,uy,XRE,XR,wk,xl]
 refine ⟨fun hl=>?_,fun hl=>by rw [←hf,zxa (by omega)]⟩
 rw [zrv (by omega)] at hf
 refine Chk.mk (by omega) fun _=>⟨fun h=>?_,fun h=>?_⟩
 ·rw [if_pos h] at hf
  rw [←hf]
 ·rw [if_neg h] at hf
  exact Chk.mk (by simp only [inR];omega) fun _=>⟨⟨i+1,by omega,hf⟩,by simp only;omega,(by first | exact Ent.refl _ _ | (simp only [Int.natCast_add,Int.natCast_one];exact Ent.refl _ _))⟩
noncomputable def zkc:PE:=peR (fun (l:List Ev)=>[.fs 8 (l.map evc),.fn 154]) (fun (l:List Ev)=>l.length≤1048576) (fun (l:List Ev)=>.i .i64 (zub l 0))
theorem zs5 {l:List Ev}:zkc [.fs 8 (l.map evc),.fn 154]=some (l.length≤1048576,.i .i64 (zub l 0)):=z6 (by rintro a b h;simp_all [zad]) l
theorem zs4:PE1 Tryz.prog 217 zkc:=yb (by rintro l hp;exact idxF l hp)
theorem hasE (l:List Ev) (hp:l.length≤1048576):PF Tryz.prog 153 [.fs 8 (l.map evc),.fn 154] (.b (zw7 l)):=by
 refine ⟨rfl,rfl,FnK.of (cf:=zk Tryz.prog te [(217,zkc)] 9 0 false (fun _=>false) (kp [(0,[0,1]),(1,[4])]) [] []) (zf te_ok (l:=[(217,zkc)]) (⟨zs4,trivial⟩) zd) Tryz.func153 rfl rfl rfl (by simp [zk]) (by simp [zk]) (rs:=[.tmp 4]) rfl 100000 ?_⟩
 simp only [↓XC,XV,XT,Yg,seval,TES,zs5,XRE,XR,wk,xl]
 refine Chk.mk hp fun _=>?_
 have:=zrw (l:=l) _ 0 (Nat.le_refl _)
 rw [List.drop_zero] at this
 unfold zw7
 rw [←this]
noncomputable def zkd:PE:=peR (fun (l:List Ev)=>[.fs 8 (l.map evc),.fn 154]) (fun (l:List Ev)=>l.length≤1048576) (fun (l:List Ev)=>.b (zw7 l))
theorem zs7 {l:List Ev}:zkd [.fs 8 (l.map evc),.fn 154]=some (l.length≤1048576,.b (zw7 l)):=z6 (by rintro a b h;simp_all [zad]) l
theorem zs6:PE1 Tryz.prog 153 zkd:=yb (by rintro l hp;exact hasE l hp)
theorem hasFault (l:List Ev) (hp:l.length≤1048576):PF Tryz.prog 76 [.fs 8 (l.map evc)] (.b (zw7 l)):=by
 refine ⟨rfl,rfl,FnK.of (cf:=zk Tryz.prog te [(153,zkd),(154,xa)] 5 0 false (fun _=>false) (kp [(0,[0]),(1,[2])]) [] []) (zf te_ok (l:=[(153,zkd),(154,xa)]) (⟨zs6,zcs,trivial⟩) zd) Tryz.func76 rfl rfl rfl (by simp [zk]) (by simp [zk]) (rs:=[.tmp 2]) rfl 100000 ?_⟩
 simp only [↓XC,XV,XT,Yg,seval,TES,zs7,uy,XRE,XR,wk,xl]
 exact Chk.mk hp fun _=>trivial
noncomputable def u0:PE:=peR (fun (l:List Ev)=>[.fs 8 (l.map evc)]) (fun (l:List Ev)=>l.length≤1048576) (fun (l:List Ev)=>.b (zw7 l))
theorem zha {l:List Ev}:u0 [.fs 8 (l.map evc)]=some (l.length≤1048576,.b (zw7 l)):=z6 (by rintro a b h;simp_all [zad]) l
theorem zg9:PE1 Tryz.prog 76 u0:=yb (by rintro l hp;exact hasFault l hp)
theorem Whole_i (l:List Ev) (hp:l.length≤1048576):PF Tryz.prog 19 [.fs 8 (l.map evc)] (.b (zon l&&!zw7 l)):=by
 refine ⟨rfl,rfl,FnK.of (cf:=zk Tryz.prog te [(18,zct),(76,u0)] 10 0 false (fun _=>false) (kp [(0,[0]),(1,[2])]) [] []) (zf te_ok (l:=[(18,zct),(76,u0)]) (⟨zmm,zg9,trivial⟩) zd) Tryz.func19 rfl rfl rfl (by simp [zk]) (by simp [zk]) (rs:=[.tmp 2]) rfl 100000 ?_⟩
 simp only [↓XC,XV,XT,Yg,seval,TES,zmn,zha,XRE,XR,wk,xl]
 exact Chk.mk hp fun _=>Chk.mk (fun h=>⟨h,hp⟩) fun _=>trivial
noncomputable def zbf:PE:=peR (fun (l:List Ev)=>[.fs 8 (l.map evc)]) (fun (l:List Ev)=>l.length≤1048576) (fun (l:List Ev)=>.b (zon l&&!zw7 l))
theorem vp {l:List Ev}:zbf [.fs 8 (l.map evc)]=some (l.length≤1048576,.b (zon l&&!zw7 l)):=z6 (by rintro a b h;simp_all [zad]) l
theorem zkg:PE1 Tryz.prog 19 zbf:=yb (by rintro l hp;exact Whole_i l hp)
end Go.T
