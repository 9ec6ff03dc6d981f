/- Own text: part UBG. -/
import Derived.Test.YtgippllfnmdnpaaGreatDoorUBC
import Derived.Test.YtgippllfnmdnpaaGreatDoorUBF
import Derived.Test.YtgippllfnmdnpaaGreatDoorUBA
set_option linter.all false
section
namespace Go.T
variable [Go.Vg.Glob] [Go.Vg.GlobTabs 0 1]
open Go.Proofs Go.Vg Go.RowKit Go.TT Go.Pl
set_option maxRecDepth 10000
set_option maxHeartbeats 4000000
def zs1 (r:Rd):Rd:={ r with dn:=(List.range r.ev.length).map fun i=>r.dn.getD i false,bs:=min r.bs r.ev.length }
theorem fixR_ok {r:Rd} (h:r.ev.length≤16777216):(zs1 r).ev.length≤16777216∧(zs1 r).dn.length=(zs1 r).ev.length∧(zs1 r).bs≤(zs1 r).ev.length:=⟨h,by simp [zs1],by simp only [zs1];omega⟩
theorem fixR_nm {r:Rd}:nmI (zs1 r).ev (zs1 r).bs=nmI r.ev r.bs:=by
 simp only [zs1];by_cases h:r.bs≤r.ev.length
 ·rw [Nat.min_eq_left h]
 ·have e:∀ b,r.ev.length≤b→anI r.ev b=[]:=fun b hb=>by unfold anI;rw [List.filter_eq_nil_iff];intro a ha;have:=List.mem_range.1 ha;simp;omega
  unfold nmI;rw [e _ (by omega),e _ (by omega)]
theorem fixR_dn {r:Rd} {μ:Nat→Nat} {j:Nat} (hj:j<r.ev.length):jd μ (zu zc1 false (zs1 r).dn j)=zu zc1 false r.dn j:=by simp only [zu,zs1,zc1,List.getD_eq_getElem?_getD,List.getElem?_map,List.getElem?_range hj,Option.map_some,Option.getD_some,jd,SV.mapH]
theorem ztf (s:Bs) (hp:s.length≤1048576):FnK Tryz.prog 16 0 [.s s] [] (fun z c=>z=.slc 0 0 (psA s).length∧c=[some (.row false 8 (psA s).length (zu evc evz (psA s)))]):=by
 refine HEx zei.d 44 [[0],[0,7],[2],[0,3],[0,3,16],[2],[4],[4],[4,28],[4],[2]] Tryz.func16 [.tmp 2] (fun _=>true) [] [(9,[],[],qf (.q0 4 [4,9,10] (.q0 8 [8,9,10] (.seq [9,10]))))] ?_;simp only [↓XC,X1,seval,X2,xw,onB,↓Yc];obtain ⟨G,hG⟩:∃ G,G=psA s:=⟨_,rfl⟩
 rw [←hG];have hcl:=z2r s 0 (Nat.zero_le _);refine ⟨fun h=>?_,fun h=>Chk.mk hp fun _=>⟨fun h2=>?_,fun h2=>?_⟩⟩
 ·have e:G=[evS,evF 1 60000]:=by rw [hG,psA,psE,if_pos (by omega)]
  rw [e];exact ⟨[0],by decide,by simp only [Yd];exact yi fun j hj=>by rcases j with _ | _ | j;rfl;rfl;simp only [List.length_cons,List.length_nil] at hj;omega,by simp only [↓XC,X1,seval];try simp [Yf],by simp [z6,SO.ro,YC],by simp⟩
 ·have h2':clA s 0≠s.length:=by simp at h2;omega
  have e:G=[evS,evF 1 (clA s 0)]:=by rw [hG,psA,psE,if_neg (by omega),if_pos h2']
  rw [e];exact ⟨[0],by decide,by simp only [Yd];exact yi fun j hj=>by rcases j with _ | _ | j;rfl;rfl;simp only [List.length_cons,List.length_nil] at hj;omega,by simp only [↓XC,X1,seval];try simp [Yf],by simp [z6,SO.ro,YC],by simp⟩
 ·have h2':clA s 0=s.length:=by simp at h2;omega
  refine yp.own (zn4 s 0 hp) rfl ?_;rw [show spot s 0=0 from by unfold spot;omega];simp only [↓XC,X1,seval,X2,↓Ya,Yb,zp,onB,↓Yc,XM];have hz0:=zh1 s;refine Wb (zj5 s (rdz 0) false 0 1 0 false [] [] [] 0 0 ⟨Nat.zero_le _,rfl,Nat.le_refl _⟩) ?_;simp only [↓XC,X1,seval,X2,↓Ya,Yb,zp,onB,↓Yc,XM];have hS:=rstream s ⟨zf (rdz 0) evS true,false,0⟩ ⟨hp,hz0⟩;obtain ⟨w,hw⟩:∃ w,w=smL s ⟨zf (rdz 0) evS true,false,0⟩:=⟨_,rfl⟩
  rw [←hw] at hS;try simp only [rdz,zf,evS] at hS
  try simp only [rdz,zf,evS,List.length_append,List.length_cons,List.length_nil,Nat.zero_add]
  refine Wb (hS) ?_;simp only [↓XC,X1,seval,X2,↓Ya,Yb,zp,onB,↓Yc,XM];have hG2:G=if w.r.cd≠0 then w.r.ev++[evF w.r.cd w.r.pl] else w.r.ev:=by rw [hG,psA,psE,if_neg (by omega),if_neg (by omega),psR,←hw]
  have hwl:w.r.ev.length≤8 * s.length+71:=by rw [hw];exact zz3 hp
  refine ⟨fun h3=>⟨by decide +kernel, ?_⟩,fun h3=>?_⟩
  ·rw [hG2,if_pos (by simpa using h3)];have hR:=zj5 s (zs1 w.r) w.fr (w.lt:Nat) 10 0 false [] [] [] w.r.pl w.r.cd (fixR_ok (by omega));simp only [YC,fixR_nm] at hR;refine yp.reb (hR) [0,1,2,3,4] (by simp [Yf]) (by simp only [Ye];exact ⟨by omega,zb (by simp [Yf,Yh,onB,zs1]),by omega,za fun _=>rfl,by omega,yi (fun j hj=>fixR_dn hj),by omega,zi,by omega,za fun _=>rfl⟩) (by decide) (by simp [z6,SO.ro,YC]) (by decide) (by simp [jf,zdm,vf,zdk,noH,SO.ro,q7,YC]) ?_;simp only [↓XC,X1,seval,X2,↓Ya,Yb,zp,onB,↓Yc,XM];exact ⟨[1],by decide,by simp only [Yd];exact za fun _=>rfl,by simp only [↓XC,X1,seval];try simp [Yf,zs1],by simp [z6,SO.ro,YC],by simp⟩
  ·rw [hG2,if_neg (by simpa using h3)];exact ⟨[1],by decide,by simp only [Yd];exact za fun _=>rfl,by simp only [↓XC,X1,seval];try simp [Yf],by simp [z6,SO.ro,YC],by simp⟩
theorem vg (s:Bs) (r:Rd) (pr:Int) (cc:Int) (p:Nat) (hp:r.cd=0):FnK Tryz.prog 169 4 [.ptr 0 0 0,.i .i64 cc,.i .i64 (p:Nat)] (spC s (r) ((r).pos:Nat) pr) (fun z c=>z=.tup []∧c=(spC s (flt r cc p) ((flt r cc p).pos:Nat) pr)):=by refine HE pn 19 [[0,1,2,10],[0,2],[]] Tryz.func169 [] ?_;simp only [↓XC,X1,seval,X2];exact ⟨fun _=>⟨[0,1,2,3],by decide,by simp only [Yd];exact ⟨zb (by simp [Yf,Yh]),za fun _=>rfl,za fun _=>rfl,za fun _=>rfl⟩,by simp only [↓XC,X1,seval];try first | rfl | simp [Yf],by simp [z6,SO.ro,YC],by simp⟩,fun h=>absurd hp h⟩
theorem un (s:Bs) (r:Rd) (pr:Int) (hp:s.length≤1048576):FnK Tryz.prog 170 4 [.ptr 0 0 0] (spC s (r) ((r).pos:Nat) pr) (fun z c=>z=.i .u8 (if byt s r.pos<0 then 0 else byt s r.pos)∧c=(spC s (r) ((r).pos:Nat) pr)):=by
 refine HEx pn 22 [[0],[0,12],[2],[2]] Tryz.func170 [.tmp 2] (fun _=>false) [] [(1,[],[],qa (.q0 3 [3] (.q0 7 [7] (qd .fin)))),(3,[],[],qa (.q0 3 [3] (.q0 7 [7] (qd .fin))))] ?_;simp only [↓XC,X1,seval,X2];refine ⟨by decide +kernel,fun h=>?_,fun h=>⟨by decide +kernel,CO fun _=>?_⟩⟩
 ·rw [qk (by omega)];exact Vf
 ·rw [zw (by omega),if_neg (by omega)];exact Vf
theorem sstop (s:Bs) (r:Rd) (pr:Int) (hp:s.length≤1048576∧r.cd=0∧r.pos≤s.length):FnK Tryz.prog 325 4 [.ptr 0 0 0] (spC s (r) ((r).pos:Nat) pr) (fun z c=>z=.b (!decide ((jm s r).cd=0))∧c=(spC s (jm s r) ((jm s r).pos:Nat) pr)):=by
 refine HEx wd.d 40 [[0],[0,12],[0],[0,28],[0],[2]] Tryz.func325 [.tmp 2] (fun _=>false) [] [(1,[],[],qa (.q0 3 [3] (.q0 7 [7] (qd .fin)))),(3,[],[],qa (.q0 3 [3] (.q0 7 [7] (.alt 8 (.q1 9 .fin) .fin))))] ?_;simp only [↓XC,X1,seval,X2,zh];rw [zg s hp.2.2];have hmk:=mkA_range s r.pos;refine ⟨by decide +kernel,fun h=>?_,fun h=>⟨by decide +kernel,Chk.mk hp.1 fun _=>⟨fun h2=>?_,fun h2=>?_⟩⟩⟩
 ·have e:jm s r=flt r 3 r.pos:=by unfold jm;rw [if_pos (by omega)]
  rw [e];refine Vm (vg s r pr 3 r.pos hp.2.1) ?_;simp only [↓XC,X1,seval,X2,XM];exact Vf
 ·have e:jm s r=flt r 4 r.pos:=by unfold jm;rw [if_neg (by omega),if_pos (by omega)]
  rw [e];refine Vm (vg s r pr 4 r.pos hp.2.1) ?_;simp only [↓XC,X1,seval,X2,XM];exact Vf
 ·have e:jm s r=r:=by unfold jm;rw [if_neg (by omega),if_neg (by omega)]
  rw [e];exact Vf
theorem sgap (s:Bs) (r:Rd) (pr:Int) (hp:s.length≤1048576∧r.cd=0∧r.pos≤s.length):FnK Tryz.prog 290 4 [.ptr 0 0 0] (spC s (r) ((r).pos:Nat) pr) (fun z c=>z=.b (decide ((yq s r).cd=0))∧c=(spC s (yq s r) ((yq s r).pos:Nat) pr)):=by refine HEx ut.d 18 [[0],[0],[2]] Tryz.func290 [.tmp 2] (fun _=>false) [] [(1,[12],[0],qf (.q0 4 [4,9,10,11,12] (.q0 8 [8,9,10,11,12] (.alt 9 (.q1 10 (.q1 11 (.sw (.alt 12 .fin .fin)))) .fin))))] ?_;simp only [↓XC,X1,seval,X2,wu];rw [zg s hp.2.2];have hg:=qr s r.pos hp.2.2;refine ⟨by decide +kernel,Chk.mk hp.1 fun _=>?_⟩;rw [show yq s r=jm s (atR r (gpE s r.pos)) from rfl];refine Vm (sstop s (atR r (gpE s r.pos)) pr ⟨hp.1,hp.2.1,hg⟩) ?_;simp only [↓XC,X1,seval,X2,XM];exact Vf
theorem stell (s:Bs) (r:Rd) (pr:Int) (k st:Int) (fl:Bool) (x a g:Bs) (p cc:Int) (d:Bool) (hp:r.ev.length≤16777216∧r.dn.length=r.ev.length∧r.bs≤r.ev.length):FnK Tryz.prog 305 1 [.ptr 0 0 0,.agg [.i .i64 k,.i .i64 st,.b fl,.s x,.s a,.s g,.i .i64 p,.i .i64 cc],.b d] (spC s (r) ((r).pos:Nat) pr) (fun z c=>z=.i .i64 (if a=[] then -1 else ((nmS r.ev r.dn r.bs).length:Nat))∧c=(spC s (zf r ⟨k,st,fl,x,a,g,p,cc⟩ d) ((zf r ⟨k,st,fl,x,a,g,p,cc⟩ d).pos:Nat) pr)):=by
 refine HEx pn 39 [[0,2,4],[0,2,4],[0,2,4,19],[6],[0],[6]] Tryz.func305 [.tmp 6] (fun _=>false) [] [(1,[7,10],[0,1],qe (.q0 4 [4,7,8,9,10] (.q0 5 [5,6,7,8,9,10] (.alt 6 (.sw (.alt 7 (qd (.alt 10 .fin .fin)) .fin)) .fin)))),(4,[10,13],[0,2],qe (.q1 5 (.q1 7 (.q0 4 [4,10,11,12,13] (.q0 6 [6,8,9,10,11,12,13] (.q1 8 (.alt 9 (.sw (.alt 10 (.q1 11 (.q1 12 (.alt 13 .fin .fin))) .fin)) .fin)))))))] ?_;simp only [↓XC,X1,seval,X2];have hnm:nmS (r.ev++[⟨k,st,fl,x,a,g,p,cc⟩]) (r.dn++[d]) r.bs=if a=[] then nmS r.ev r.dn r.bs else nmS r.ev r.dn r.bs++[(a,d)]:=zaq hp.2.2 hp.2.1;have hle:=nmS_le (l:=r.ev) (d:=r.dn) (b:=r.bs);refine ⟨by decide +kernel,z2 rfl rfl,CO fun _=>⟨fun h=>?_,fun h=>⟨by decide +kernel,z2 rfl rfl,CO fun _=>CR fun _=>?_⟩⟩⟩
 ·rw [if_pos h] at hnm;rw [hnm,if_pos h];exact ⟨[0,6,2,3],by decide,by simp only [Yd];exact ⟨zb (by simp [Yf]),yx r.ev (⟨k,st,fl,x,a,g,p,cc⟩:Ev) (fun _=>rfl) rfl rfl rfl (fun _ _=>rfl) rfl rfl,za fun _=>rfl,za fun _=>rfl⟩,by simp only [↓XC,X1,seval];try first | rfl | simp [Yf],by simp [z6,SO.ro,YC],by simp⟩
 ·rw [if_neg h] at hnm;rw [hnm,if_neg h];simp only [List.length_append,List.length_cons,List.length_nil,Nat.zero_add];rw [show (((nmS r.ev r.dn r.bs).length+1:Nat):Int)-1=((nmS r.ev r.dn r.bs).length:Nat) by omega];exact ⟨[0,6,8,3],by decide,by simp only [Yd];exact ⟨zb (by simp [Yf]),yx r.ev (⟨k,st,fl,x,a,g,p,cc⟩:Ev) (fun _=>rfl) rfl rfl rfl (fun _ _=>rfl) rfl rfl,yx (nmS r.ev r.dn r.bs) (a,d) (fun _=>rfl) rfl rfl rfl (fun _ _=>rfl) rfl rfl,za fun _=>rfl⟩,by simp only [↓XC,X1,seval];try first | rfl | simp [Yf],by simp [z6,SO.ro,YC],by simp⟩
theorem zg1 (s:Bs) (r:Rd) (pr:Int) (k0 st0:Int) (x0 an tg:Bs) (st:Int) (t:Bs) (hp:r.ev.length≤16777216∧r.dn.length=r.ev.length∧r.bs≤r.ev.length):FnK Tryz.prog 263 1 [.ptr 0 0 0,.agg [.i .i64 k0,.i .i64 st0,.b false,.s x0,.s an,.s tg,.i .i64 0,.i .i64 0],.i .i64 st,.s t] (spC s (r) ((r).pos:Nat) pr) (fun z c=>z=.tup []∧c=(spC s (yb r st t an tg) ((yb r st t an tg).pos:Nat) pr)):=by refine HE pn 16 [[0,2,3,5],[0,2,3,5],[0,3,5],[0,5],[]] Tryz.func263 [] ?_;simp only [↓XC,X1,seval,X2,evT];refine Vb (stell s r pr 5 st false t an tg 0 0 true hp) ?_;simp only [↓XC,X1,seval,X2,XM];exact Vf
theorem zud (s:Bs) (r:Rd) (pr:Int) (k:Nat) (hp:r.ev.length≤16777216∧r.dn.length=r.ev.length∧r.bs≤r.ev.length∧k<r.ev.length∧r.bs≤k∧0<r.dp∧r.dp≤40):FnK Tryz.prog 299 1 [.ptr 0 0 0,.i .i64 (if (r.ev.getD k evz).anchor=[] then -1 else ((anI (r.ev.take k) r.bs).length:Nat))] (spC s (r) ((r).pos:Nat) pr) (fun z c=>z=.tup []∧c=(spC s (shR r k) ((shR r k).pos:Nat) pr)):=by
 refine HE pn 30 [[0,1],[0,1],[0,1,22],[]] Tryz.func299 [] ?_;simp only [↓XC,X1,seval,X2];obtain ⟨ho1,ho2,ho3,hk,hbk,hd1,hd2⟩:=hp;have hnm:=z03 hk hbk ho2;have e1:(r.dp:Int)-1=((r.dp-1:Nat):Int):=by omega
 rw [e1];by_cases ha:(r.ev.getD k evz).anchor=[]
 ·rw [if_pos ha] at hnm ⊢;simp only [shR,hnm,List.length_append,List.length_cons,List.length_nil,Nat.zero_add];refine CR fun _=>⟨z2 rfl rfl,CO fun _=>⟨fun h=>absurd h (by decide),fun _=>?_⟩⟩
  exact ⟨[0,5,2,3],by decide,by simp only [Yd];exact ⟨zb (by simp [Yf];try omega),yx r.ev evE (fun _=>rfl) rfl rfl rfl (fun _ _=>rfl) rfl rfl,za fun _=>rfl,za fun _=>rfl⟩,by simp only [↓XC,X1,seval];try first | rfl | simp [Yf],by simp [z6,SO.ro,YC],by simp⟩
 ·have hlt:=nix_lt (d:=r.dn) hk hbk ha;have hat:((nmS r.ev r.dn r.bs).getD (anI (List.take k r.ev) r.bs).length ([],false)).1=(r.ev.getD k evz).anchor:=by rw [nix_at hk hbk ha]
  rw [if_neg ha] at hnm ⊢;generalize (anI (List.take k r.ev) r.bs).length=x at *;simp only [shR,hnm,List.length_set,List.length_append,List.length_cons,List.length_nil,Nat.zero_add];refine CR fun _=>⟨z2 rfl rfl,CO fun _=>⟨fun _=>CO fun _=>CO fun _=>?_,fun h=>by omega⟩⟩
  exact ⟨[0,5,2,3],by decide,by simp only [Yd];exact ⟨zb (by simp [Yf];try omega),yx r.ev evE (fun _=>rfl) rfl rfl rfl (fun _ _=>rfl) rfl rfl,yi fun j hj=>by (simp only [zu,nac,zq8 _ _ _ _ _ hlt,Int.toNat_natCast];split;(rename_i h9;subst h9;rw [hat];rfl);rfl),za fun _=>rfl⟩,by simp only [↓XC,X1,seval];try first | rfl | simp [Yf],by simp [z6,SO.ro,YC],by simp⟩
theorem sopen (s:Bs) (r:Rd) (pr:Int) (k0 st0:Int) (x0 an tg:Bs) (k st:Int) (hp:r.ev.length≤16777216∧r.dn.length=r.ev.length∧r.bs≤r.ev.length∧r.cd=0∧r.dp≤40):FnK Tryz.prog 296 1 [.ptr 0 0 0,.agg [.i .i64 k0,.i .i64 st0,.b false,.s [],.s an,.s tg,.i .i64 0,.i .i64 0],.i .i64 k,.i .i64 st] (spC s (r) ((r).pos:Nat) pr) (fun z c=>z=.i .i64 (if 40≤r.dp then -2 else if an=[] then -1 else ((nmS r.ev r.dn r.bs).length:Nat))∧c=(spC s (opR r k st (⟨false,an,tg,0⟩:Pp) r.pos) ((opR r k st (⟨false,an,tg,0⟩:Pp) r.pos).pos:Nat) pr)):=by
 refine HE pn 34 [[0,2,3,5],[0,2,3,5,13],[],[8],[0,2,3,5],[0,3,5],[0,5],[8]] Tryz.func296 [.tmp 8] ?_;simp only [↓XC,X1,seval,X2];obtain ⟨ho1,ho2,ho3,hcd,hd⟩:=hp;refine ⟨fun h=>?_,fun h=>CR fun _=>?_⟩
 ·have e:opR r k st (⟨false,an,tg,0⟩:Pp) r.pos=flt r 12 r.pos:=by unfold opR;rw [if_pos (by omega)]
  rw [e,if_pos (by omega)];refine Vm (vg s r pr 12 r.pos hcd) ?_;simp only [↓XC,X1,seval,X2,XM];exact Vf
 ·have e:opR r k st (⟨false,an,tg,0⟩:Pp) r.pos={ zf r (evO k st an tg) false with dp:=r.dp+1 }:=by unfold opR;rw [if_neg (by omega)]
  rw [e,if_neg (by omega)];refine Vb (stell s { r with dp:=r.dp+1 } pr k st false [] an tg 0 0 false ⟨ho1,ho2,ho3⟩) ?_;simp only [↓XC,X1,seval,X2,XM];simp only [zf,evO,List.length_append,List.length_cons,List.length_nil,Nat.zero_add];exact Vf
theorem salias (s:Bs) (r:Rd) (pr:Int) (ha:Bool) (hp:s.length≤1048576∧r.ev.length≤16777216∧r.dn.length=r.ev.length∧r.bs≤r.ev.length∧r.cd=0∧r.pos≤s.length):FnK Tryz.prog 337 1 [.ptr 0 0 0,.b ha] (spC s (r) ((r).pos:Nat) pr) (fun z c=>z=.tup []∧c=(spC s (alR s r ha) ((alR s r ha).pos:Nat) pr)):=by
 refine HEx ux.d 77 [[0,1,4,5,6],[0,1,4,5,24],[],[0,4,5,31],[],[0,4,5,7],[0,4,5,7,41,42,43],[0,4,5,7,41,42,43,44],[0,4,5,7,9,41,42,43],[0,4,5,7,9,41,42,43,50],[0,4,5,7,41,42,43],[0,4,5,7,41,42,43],[0,4,5,55],[],[0,5],[]] Tryz.func337 [] (fun _=>false) [] [(0,[],[],qa (.q0 3 [3] (.q0 7 [7] (.alt 8 (qg .fin) .fin))))] ?_;simp only [↓XC,X1,seval,X2,yz];obtain ⟨hs,ho1,ho2,ho3,hcd,hpos⟩:=hp;have hle:=nmS_le (l:=r.ev) (d:=r.dn) (b:=r.bs);rw [zg s hpos];refine ⟨by decide +kernel,Chk.mk hs fun _=>⟨fun h1=>?_,fun h1=>⟨fun h2=>?_,fun h2=>?_⟩⟩⟩
 ·have e:alR s r ha=flt r 7 r.pos:=by unfold alR;rw [if_pos (by simpa using h1)]
  rw [e];refine Vm (vg s r pr 7 r.pos hcd) ?_;simp only [↓XC,X1,seval,X2,XM];exact Vf
 ·have e:alR s r ha=flt r 16 r.pos:=by unfold alR;rw [if_neg (by simpa using h1),if_pos h2]
  rw [e];refine Vm (vg s r pr 16 r.pos hcd) ?_;simp only [↓XC,X1,seval,X2,XM];exact Vf
 have h1':¬(nmA s r.pos).2.2=false:=by simpa using h1
 have hpc:=xa (by simpa using h1');have eZ:((nmA s r.pos).2.1.toNat:Int)=(nmA s r.pos).2.1:=by omega
 subst h2;refine zl.of (ι:={x:Nat×Bool // x.1≤(nmS r.ev r.dn r.bs).length∧((nmS r.ev r.dn r.bs).drop x.1).foldl (fun x p=>if p.1=(nmA s r.pos).1 then p.2 else x) x.2=alD r.ev r.dn r.bs (nmA s r.pos).1}) (fun x=>⟨[(0,.ptr 0 0 0),(4,.s (nmA s r.pos).1),(5,.i .i64 (nmA s r.pos).2.1),(7,.b x.1.2),(41,.slc 2 0 (nmS r.ev r.dn r.bs).length),(42,.i .i64 ((nmS r.ev r.dn r.bs).length:Nat)),(43,.i .i64 (x.1.1:Nat))],(spC s (r) ((r).pos:Nat) pr)⟩) (fun x=>(nmS r.ev r.dn r.bs).length-x.1.1) ⟨(0,false),Nat.zero_le _,rfl⟩ (Ent.refl _ _) ?_;rintro ⟨⟨i,dd⟩,hi,hd⟩;simp only [YC];simp only [↓XC,X1,seval,X2];simp only [] at hi hd;refine ⟨fun h=>CO fun _=>CO fun _=>⟨fun he=>?_,fun he=>?_⟩,fun h=>?_⟩
 ·have hst:=zwj (name:=(nmA s r.pos).1) (x:=dd) (show i<(nmS r.ev r.dn r.bs).length by omega);rw [if_pos he] at hst;refine CR fun _=>⟨⟨(i+1,((nmS r.ev r.dn r.bs).getD i ([],false)).2),by simp only;omega,hst.symm.trans hd⟩,by simp only;omega,(Ent.ren1 [0,1,2,3] (by decide) (by simp only [Yd];exact ⟨zb (by simp [Yf,Yh]),za fun _=>rfl,za fun _=>rfl,za fun _=>rfl⟩) (by simp [ze,Vg.look,SV.mapH,muL,XRE,XR,XRH,XRN,Yh]))⟩
 ·have hst:=zwj (name:=(nmA s r.pos).1) (x:=dd) (show i<(nmS r.ev r.dn r.bs).length by omega);rw [if_neg he] at hst;refine CR fun _=>⟨⟨(i+1,dd),by simp only;omega,hst.symm.trans hd⟩,by simp only;omega,(Ent.ren1 [0,1,2,3] (by decide) (by simp only [Yd];exact ⟨zb (by simp [Yf,Yh]),za fun _=>rfl,za fun _=>rfl,za fun _=>rfl⟩) (by simp [ze,Vg.look,SV.mapH,muL,XRE,XR,XRH,XRN,Yh]))⟩
 ·rw [List.drop_eq_nil_of_le (by omega)] at hd;have hd':dd=alD r.ev r.dn r.bs (nmA s r.pos).1:=hd;refine ⟨fun h2=>?_,fun h2=>⟨z2 rfl rfl,CO fun _=>?_⟩⟩
  ·have e:alR s r false=flt r 14 r.pos:=by unfold alR;rw [if_neg h1',if_neg (by decide),if_neg (by rw [←hd'];simpa using h2)]
   rw [e];refine Vm (vg s r pr 14 r.pos hcd) ?_;simp only [↓XC,X1,seval,X2,XM];exact Vf
  ·have e:alR s r false=atR (zf r (evA (nmA s r.pos).1) true) (nmA s r.pos).2.1.toNat:=by unfold alR;rw [if_neg h1',if_neg (by decide),if_pos (by rw [←hd'];simpa using h2)]
   rw [e];have hnm:nmS (r.ev++[evA (nmA s r.pos).1]) (r.dn++[true]) r.bs=nmS r.ev r.dn r.bs:=(zaq ho3 ho2).trans (if_pos rfl);simp only [atR,zf,hnm,eZ,List.length_append,List.length_cons,List.length_nil,Nat.zero_add];exact ⟨[0,5,2,3],by decide,by simp only [Yd];exact ⟨zb (by simp [Yf]),yx r.ev (evA (nmA s r.pos).1) (fun _=>rfl) rfl rfl rfl (fun _ _=>rfl) rfl rfl,za fun _=>rfl,za fun _=>rfl⟩,by simp only [↓XC,X1,seval];try first | rfl | simp [Yf],by simp [z6,SO.ro,YC],by simp⟩
theorem squoted (s:Bs) (r:Rd) (pr:Int) (k0 st0:Int) (x0 an tg:Bs) (ha:Bool) (hp:s.length≤1048576∧r.ev.length≤16777216∧r.dn.length=r.ev.length∧r.bs≤r.ev.length∧r.cd=0∧r.pos<s.length):FnK Tryz.prog 338 1 [.ptr 0 0 0,.agg [.i .i64 k0,.i .i64 st0,.b false,.s x0,.s an,.s tg,.i .i64 0,.i .i64 0]] (spC s (r) ((r).pos:Nat) pr) (fun z c=>z=.tup []∧c=(spC s (qtR s r (⟨ha,an,tg,0⟩:Pp)) ((qtR s r (⟨ha,an,tg,0⟩:Pp)).pos:Nat) pr)):=by
 refine HEx (zaz.c za6.d) 52 [[0,3],[0,3,4,5,6],[0,3,4,5,6,7],[0,3,4,5,6,7,23],[0,3,4,5,6],[0,3,4,5,6,7],[0,3,4,5,6,7,38],[],[0,5],[]] Tryz.func338 [] (fun _=>false) [] [(1,[],[],qa (.q0 3 [3] (.q0 7 [7] (.alt 8 (qg .fin) .fin)))),(4,[],[],qa (.q0 3 [3] (.q0 7 [7] (.alt 8 (qg .fin) .fin))))] ?_;simp only [↓XC,X1,seval,X2,j1,jc];obtain ⟨hs,ho1,ho2,ho3,hcd,hpos⟩:=hp;rw [zg s (Nat.le_of_lt hpos)];refine ⟨by decide +kernel,Chk.mk hs fun _=>?_⟩;refine Vm (un s r pr hs) ?_;simp only [↓XC,X1,seval,X2,jc,XM];simp only [by0 (show (0:Int)<34 by decide)];rw [zg s (Nat.le_of_lt hpos)];refine ⟨fun h34=>⟨by decide +kernel,Chk.mk hs fun _=>?_⟩,fun h34=>?_⟩
 ·have hq:qtA s r.pos=dbA s r.pos:=by unfold qtA;rw [if_pos h34]
  refine ⟨fun h1=>?_,fun h1=>?_⟩
  ·have e:qtR s r (⟨ha,an,tg,0⟩:Pp)=flt r (dbA s r.pos).2.2 (dbA s r.pos).2.1:=by unfold qtR;rw [hq,if_pos (by simpa using h1)]
   rw [e];refine Vm (vg s r pr (dbA s r.pos).2.2 (dbA s r.pos).2.1 hcd) ?_;simp only [↓XC,X1,seval,X2,XM];exact Vf
  ·have e:qtR s r (⟨ha,an,tg,0⟩:Pp)=atR (yb r 3 (dbA s r.pos).1 an tg) (dbA s r.pos).2.1:=by unfold qtR;rw [hq,if_neg (by simpa using h1),if_pos h34]
   rw [e];refine Vb (zg1 s r pr k0 st0 x0 an tg 3 (dbA s r.pos).1 ⟨ho1,ho2,ho3⟩) ?_;simp only [↓XC,X1,seval,X2,XM];try simp only [atR,yb,zf,List.length_append,List.length_cons,List.length_nil,Nat.zero_add]
   exact Vf
 ·have hq:qtA s r.pos=sgA s r.pos:=by unfold qtA;rw [if_neg h34]
  refine ⟨fun h1=>?_,fun h1=>?_⟩
  ·have e:qtR s r (⟨ha,an,tg,0⟩:Pp)=flt r (sgA s r.pos).2.2 (sgA s r.pos).2.1:=by unfold qtR;rw [hq,if_pos (by simpa using h1)]
   rw [e];refine Vm (vg s r pr (sgA s r.pos).2.2 (sgA s r.pos).2.1 hcd) ?_;simp only [↓XC,X1,seval,X2,XM];exact Vf
  ·have e:qtR s r (⟨ha,an,tg,0⟩:Pp)=atR (yb r 2 (sgA s r.pos).1 an tg) (sgA s r.pos).2.1:=by unfold qtR;rw [hq,if_neg (by simpa using h1),if_neg h34]
   rw [e];refine Vb (zg1 s r pr k0 st0 x0 an tg 2 (sgA s r.pos).1 ⟨ho1,ho2,ho3⟩) ?_;simp only [↓XC,X1,seval,X2,XM];try simp only [atR,yb,zf,List.length_append,List.length_cons,List.length_nil,Nat.zero_add]
   exact Vf
theorem scolon (s:Bs) (r:Rd) (pr:Int) (q:Bool) (hp:s.length≤1048576∧r.pos≤s.length):FnK Tryz.prog 352 4 [.ptr 0 0 0,.b q] (spC s (r) ((r).pos:Nat) pr) (fun z c=>z=.b (decide (byt s r.pos=58)&&(q||gap s (r.pos+1)||flw (byt s (r.pos+1))))∧c=(spC s (r) ((r).pos:Nat) pr)):=by
 refine HEx (km.c xc.d) 34 [[0,1],[0,1,7],[4],[4]] Tryz.func352 [.tmp 4] (fun _=>false) [] [(3,[],[],qe (.q1 4 (.q1 6 (.q1 7 (.q1 8 (.q0 5 [5] (.q0 9 [9] (.q1 10 (.alt 11 (.q1 12 (.q1 13 (.q1 14 (.q1 15 (.q1 16 (.q1 18 (.q1 19 (.q1 20 (.q0 17 [17] (.q0 21 [21] (.q1 22 (.q1 23 (.alt 24 (.q1 25 (.q1 26 .fin)) .fin))))))))))))) .fin)))))))))] ?_;simp only [↓XC,X1,seval,X2,z8,yv];obtain ⟨hs,hpos⟩:=hp;refine Vm (un s r pr hs) ?_;simp only [↓XC,X1,seval,X2,z8,yv,XM];simp only [by0 (show (0:Int)<58 by decide)];have ep:((r.pos:Int)+1).toNat=r.pos+1:=by omega
 rw [ep];refine ⟨fun h=>?_,fun h=>⟨by decide +kernel,Chk.mk (fun _=>by simp only [inR];omega) fun _=>Chk.mk (fun h2=>⟨⟨h2,h2⟩,hs,by omega⟩) fun _=>Chk.mk (fun _=>by simp only [inR];omega) fun _=>Chk.mk (fun h2=>by have:=wk (s:=s) (i:=r.pos+1) (by simp at h2;exact h2.2);omega) fun _=>?_⟩⟩
 ·have h58:¬byt s r.pos=58:=by simpa using h
  exact ⟨[0,1,2,3],by decide,by simp only [Yd];exact ⟨zb (by simp [Yf,Yh]),za fun _=>rfl,za fun _=>rfl,za fun _=>rfl⟩,by simp only [↓XC,X1,seval];try simp [h58],by simp [z6,SO.ro,YC],by simp⟩
 ·have h58:byt s r.pos=58:=by simpa using h
  have hb:(q||gap s (r.pos+1)||flw (s.getD (r.pos+1) 0).toNat)=(q||gap s (r.pos+1)||flw (byt s (r.pos+1))):=by
   cases hg:gap s (r.pos+1) with
   | true=>simp
   | false=>rw [zw (wk hg)]
  exact ⟨[0,1,2,3],by decide,by simp only [Yd];exact ⟨zb (by simp [Yf,Yh]),za fun _=>rfl,za fun _=>rfl,za fun _=>rfl⟩,by simp only [↓XC,X1,seval];try simp only [h58,hb,decide_true,Bool.true_and],by simp [z6,SO.ro,YC],by simp⟩
theorem ze6 (s:Bs) (r:Rd) (pr:Int) (k0 st0:Int) (x0 an tg:Bs) (ha:Bool) (n:Int) (fl:Bool) (hp:s.length≤1048576∧r.ev.length≤16777216∧r.dn.length=r.ev.length∧r.bs≤r.ev.length∧r.cd=0∧r.pos≤s.length):FnK Tryz.prog 304 1 [.ptr 0 0 0,.agg [.i .i64 k0,.i .i64 st0,.b false,.s x0,.s an,.s tg,.i .i64 0,.i .i64 0],.b ha,.i .i64 n,.b fl] (spC s (r) ((r).pos:Nat) pr) (fun z c=>z=.b (sqB s r fl)∧c=(spC s (scX s r (⟨ha,an,tg,0⟩:Pp) n fl) ((scX s r (⟨ha,an,tg,0⟩:Pp) n fl).pos:Nat) pr)):=by
 refine HEx (vl.c zii.d) 67 [[0,2,3,4,6],[0,2,3,4,6,11],[10],[0,2,3,4,6,11,17],[],[0,3,4,6,23],[],[0,3,4,6,33],[0,6,12,13],[0,13],[],[10]] Tryz.func304 [.tmp 10] (fun _=>false) [] [(7,[],[],qa (.q1 8 (.q0 3 [3] (.q0 7 [7] (.alt 9 (.q1 10 .fin) .fin))))),(8,[],[],qa (qd (.q0 3 [3] (.q0 7 [7] (.alt 10 (.q1 11 (.q1 12 (.q1 13 (.q1 14 (.q1 15 (.q1 16 (.q1 17 .fin))))))) .fin)))))] ?_;simp only [↓XC,X1,seval,X2,wj,zbq];obtain ⟨hs,ho1,ho2,ho3,hcd,hpos⟩:=hp;refine Vm (un s r pr hs) ?_;simp only [↓XC,X1,seval,X2,wj,zbq,XM];simp only [by0 (show (0:Int)<42 by decide)];refine ⟨fun h=>?_,fun h=>?_⟩
 ·have e:scX s r (⟨ha,an,tg,0⟩:Pp) n fl=alR s r ha:=by unfold scX;rw [if_pos h]
  have eb:sqB s r fl=true:=by unfold sqB;simp [h]
  rw [e,eb];refine Vb (salias s r pr ha ⟨hs,ho1,ho2,ho3,hcd,hpos⟩) ?_;simp only [↓XC,X1,seval,X2,XM];exact Vf
 have hqu:(decide ((if byt s r.pos<0 then (0:Int) else byt s r.pos)=39)||decide ((if byt s r.pos<0 then (0:Int) else byt s r.pos)=34))=isQu (byt s r.pos):=by
  have e1:=by0 (s:=s) (p:=r.pos) (show (0:Int)<39 by decide)
  have e2:=by0 (s:=s) (p:=r.pos) (show (0:Int)<34 by decide)
  simp only [e1,e2,isQu];rfl
 rw [hqu,zg s hpos];refine ⟨fun hq=>?_,fun hq=>⟨by decide +kernel,Chk.mk hs fun _=>⟨fun hf=>⟨by decide +kernel,Chk.mk hs fun _=>?_⟩,fun hf=>?_⟩⟩⟩
 ·have hlt:r.pos<s.length:=by refine Classical.byContradiction fun hn=>?_;rw [qk (by omega)] at hq;exact absurd hq (by decide)
  have e:scX s r (⟨ha,an,tg,0⟩:Pp) n fl=qtR s r (⟨ha,an,tg,0⟩:Pp):=by unfold scX;rw [if_neg h,if_pos hq]
  have eb:sqB s r fl=true:=by unfold sqB;simp [hq]
  rw [e,eb];refine Vb (squoted s r pr k0 st0 x0 an tg ha ⟨hs,ho1,ho2,ho3,hcd,hlt⟩) ?_;simp only [↓XC,X1,seval,X2,XM];exact Vf
 ·have hq':¬isQu (byt s r.pos)=true:=by simp [hq]
  have e:scX s r (⟨ha,an,tg,0⟩:Pp) n fl=plR s r (⟨ha,an,tg,0⟩:Pp) n fl:=by unfold scX;rw [if_neg h,if_neg hq',if_pos hf]
  have eb:sqB s r fl=true:=by unfold sqB;simp [hf]
  rw [e,eb];refine Vb (zg1 s r pr k0 st0 x0 an tg 1 (ptA s r.pos n fl).1 ⟨ho1,ho2,ho3⟩) ?_;simp only [↓XC,X1,seval,X2,XM];try simp only [plR,atR,yb,zf,List.length_append,List.length_cons,List.length_nil,Nat.zero_add]
  exact Vf
 ·have hq':¬isQu (byt s r.pos)=true:=by simp [hq]
  have hf':¬pfA s r.pos fl=true:=by simp [hf]
  have e:scX s r (⟨ha,an,tg,0⟩:Pp) n fl=r:=by unfold scX;rw [if_neg h,if_neg hq',if_neg hf']
  have eb:sqB s r fl=false:=by unfold sqB;simp [h,hq,hf]
  rw [e,eb];exact Vf
theorem zo3 (s:Bs) (r:Rd) (pr:Int) (fl:Bool) (hp:s.length≤1048576∧r.cd=0∧r.pos≤s.length∧(r.hd.length≤1048576∧∀ h∈r.hd,h.pre.length≤1048576)):FnK Tryz.prog 256 4 [.ptr 0 0 0,.b fl] (spC s (r) ((r).pos:Nat) pr) (fun z c=>∃ (pr':Int) (an tg:Bs) (ha:Bool),((prZ s fl r).cd=0→pr'=(if (prP s fl r).has=true then ((prP s fl r).en:Int) else pr)∧an=(prP s fl r).an∧tg=(prP s fl r).tg∧ha=(prP s fl r).has)∧z=.tup [.agg [.i .i64 0,.i .i64 0,.b false,.s [],.s an,.s tg,.i .i64 0,.i .i64 0],.b ha]∧c=(spC s (prZ s fl r) ((prZ s fl r).pos:Nat) pr')):=by
 refine HQx (ux.c (znu.c (km.c (xc.c (zid.c qi.d))))) 161 [[0,1,4],[0,1,4,6],[0,1,4,6,7],[0,1,4,6,7,30],[0,1,4,6,7,8],[0,1,4,6,7,8,9,10,11],[0,1,4,6,7,8,9,10,11,47],[0,1,4,6,7,8,9,10,11],[0,1,4,6,7,8,9,10,11,12],[0,1,4,6,7,8,9,10,110],[4,6,7],[4,5],[0,1,4,6,7,8,9,10,122],[0,1,4,6,10],[0,1,4,6,7,8,10,13,14],[0,1,4,6,7,8,10,13,135],[4,6,7],[4,5],[0,1,4,6,10],[0,1,4,6,7,10],[0,1,4,6,7,10],[0,1,4,6,7],[0,1,4,6,7,156],[0,1,4,6,7],[4,5]] Tryz.func256 [.cell 4 28,.tmp 5] (fun i=>i==3) [] [] ?_;simp only [↓XC,X1,seval,X2,yz,wm,z8,yv,qw,zj];obtain ⟨hs,hcd,hpos,hh1,hh2⟩:=hp;refine zl.of (ι:={x:Rd×Pp // PrI s fl r x.1 x.2}) (fun x=>⟨[(0,.ptr 0 0 0),(1,.b fl),(4,.ptr 4 0 0),(6,.ptr 5 0 0),(7,.b x.1.2.has)],[some (.blk false [.s s,.i .i64 ((x.1.1).pos:Nat),.slc 1 0 (x.1.1).ev.length,.i .i64 (x.1.1).cd,.i .i64 ((x.1.1).pl:Nat),.i .i64 ((x.1.1).dp:Nat),.slc 2 0 (nmS (x.1.1).ev (x.1.1).dn (x.1.1).bs).length,.slc 3 0 (x.1.1).hd.length,.i .i64 (if x.1.2.has=true then (x.1.2.en:Int) else pr)]),some (.row false 8 (x.1.1).ev.length (zu evc evz (x.1.1).ev)),some (.row false 2 (nmS (x.1.1).ev (x.1.1).dn (x.1.1).bs).length (zu nac ([],false) (nmS (x.1.1).ev (x.1.1).dn (x.1.1).bs))),some (.row false 2 (x.1.1).hd.length (zu hdc hdz (x.1.1).hd)),some (.blk false [.i .i64 0,.i .i64 0,.b false,.s [],.s [],.s [],.i .i64 0,.i .i64 0]),some (.blk false [.i .i64 0,.i .i64 0,.b false,.s [],.s x.1.2.an,.s x.1.2.tg,.i .i64 0,.i .i64 0])]⟩) (fun x=>if x.1.1.cd=0 then s.length+1-x.1.1.pos else 0) ⟨(r,ppz r.pos),.inl (zz4 hcd hpos)⟩ (Ent.refl _ _) ?_;rintro ⟨⟨x,⟨ha,an,tg,pe⟩⟩,hI⟩;simp only [↓XC,X1,seval,X2];by_cases hcx:x.cd=0
 ·have hA:PrA s fl r x ⟨ha,an,tg,pe⟩:=by
   rcases hI with h | h
   ·exact h
   ·exact absurd hcx h.1
  simp only [decide_eq_true hcx];simp only [↓XC,X1,seval,X2,↓Ya,Yb];refine Vm (un s x (if ha=true then (pe:Int) else pr) hs) ?_;simp only [↓XC,X1,seval,X2,yz,wm,z8,yv,qw,zj,↓Ya,Yb,XM];simp only [by0 (show (0:Int)<38 by decide)];by_cases h38:byt s x.pos=38
  ·simp only [decide_eq_true h38];simp only [↓XC,X1,seval,X2,yz,wm,z8,yv,qw,zj,↓Ya,Yb];rw [zg s hA.pos];refine Chk.mk hs fun _=>?_;refine Vm (un s x (if ha=true then (pe:Int) else pr) hs) ?_;simp only [↓XC,X1,seval,X2,yz,wm,z8,yv,qw,zj,↓Ya,Yb,XM];simp only [by0 (show (0:Int)<33 by decide)];have hi:zfs s x.pos=true:=by unfold zfs;simp [h38]
   refine ⟨fun h33=>by omega,fun h33=>?_⟩;have hpl:x.pos<s.length:=zjc hi;simp only [←zw hpl,h38,decide_true,Bool.true_and,show decide ((38:Int)=33)=false from rfl,Bool.false_and,Bool.or_false];rw [bhd_ix];refine CO fun _=>Chk.mk (fun _=>by omega) fun _=>Chk.mk (fun h=>⟨⟨h,h⟩,hs,by have:=xa (s:=s) (p:=x.pos) (by simp at h;exact h.1);omega⟩) fun _=>Chk.mk (fun h=>by have h9:=xa (s:=s) (p:=x.pos) (by simp at h;exact h.1.1.1);have:=wk (s:=s) (i:=(nmA s x.pos).2.1.toNat) (by simp at h;exact h.1.2);omega) fun _=>⟨fun hc=>?_,fun hc=>CO fun _=>⟨fun _=>?_,fun h=>absurd trivial h⟩⟩
   ·have hb:(prA s r.hd fl x.pos ⟨ha,an,tg,pe⟩).2=7:=by
     unfold prA;rw [if_pos h38];by_cases hO:(nmA s x.pos).2.2=true∧an=[]
     ·rw [if_pos hO,if_neg (by simpa [hO.1,hO.2] using hc)]
     ·rw [if_neg hO]
    have e:=zsd hA hi hb (by decide);refine Vm (vg s x (if ha=true then (pe:Int) else pr) 7 x.pos hcx) ?_;simp only [↓XC,X1,seval,X2,XM];refine ⟨.tup [.agg [.i .i64 0,.i .i64 0,.b false,.s [],.s an,.s tg,.i .i64 0,.i .i64 0],.b ha],(spC s (prZ s fl r) ((prZ s fl r).pos:Nat) (if ha=true then (pe:Int) else pr)),⟨_,an,tg,ha,fun h=>absurd h (by rw [e];exact (by decide:¬((7:Int)=0))),rfl,rfl⟩, ?_⟩;rw [e];exact Vf
   ·have hO:(nmA s x.pos).2.2=true:=by
     cases h:(nmA s x.pos).2.2 with
     | true=>rfl
     | false=>rw [h] at hc;simp at hc
    have hO2:an=[]:=by
     by_cases h:an=[]
     ·exact h
     ·simp [h] at hc
    have hB:bhd s fl (nmA s x.pos).2.1.toNat=true:=by
     cases h:bhd s fl (nmA s x.pos).2.1.toNat with
     | true=>rfl
     | false=>rw [h] at hc;simp at hc
    have hb:prA s r.hd fl x.pos ⟨ha,an,tg,pe⟩=(⟨true,(nmA s x.pos).1,tg,(nmA s x.pos).2.1.toNat⟩,0):=by unfold prA;rw [if_pos h38,if_pos ⟨hO,hO2⟩,if_pos hB]
    have hpc:=xa hO;have eN:spot s (nmA s x.pos).2.1=(nmA s x.pos).2.1.toNat:=by unfold spot;omega
    have eZ:((nmA s x.pos).2.1.toNat:Int)=(nmA s x.pos).2.1:=by omega
    rw [eN];obtain ⟨h1,h2,h3,h4⟩:=zux hA hi hb;simp only at h1 h2 h3 h4;obtain ⟨k,hk⟩:∃ k:Nat,(nmA s x.pos).2.1=(k:Int):=⟨(nmA s x.pos).2.1.toNat,by omega⟩
    have hk2:(nmA s x.pos).2.1.toNat=k:=by omega
    rw [hk2] at h1 h2 h3 h4 ⊢;rw [hk];have hw1:=jh s k;have hw2:=jg s k h2;have hg1:=q8 s k;refine Chk.mk hs fun _=>⟨fun hf=>?_,fun hf=>?_⟩
    ·refine Vm (sgap s (atR x (wh s k)) (k:Nat) ⟨hs,hcx,hw2⟩) ?_;simp only [↓XC,X1,seval,X2,XM];refine ⟨⟨(yq s (atR x (wh s k)),(⟨true,(nmA s x.pos).1,tg,k⟩:Pp)),(h4 hf).1⟩, ?_, ?_⟩
     ·have:=(h4 hf).2;rw [if_pos hcx];simp only;split<;>omega
     ·exact (Ent.ren1 [0,1,2,3,4,5] (by decide) (by simp only [Yd];exact ⟨zb (by simp [Yf,Yh]),za fun _=>rfl,za fun _=>rfl,za fun _=>rfl,zb (by simp [Yf]),zb (by simp [Yf])⟩) (by simp [ze,Vg.look,SV.mapH,muL,atR]))
    ·refine ⟨⟨(atR x (wh s k),(⟨true,(nmA s x.pos).1,tg,k⟩:Pp)),.inl (h3 hf)⟩, ?_, ?_⟩
     ·have hc0:(atR x (wh s k)).cd=0:=hcx;rw [if_pos hcx];show (if (atR x (wh s k)).cd=0 then s.length+1-wh s k else 0)<_;rw [if_pos hc0];omega
     ·exact (Ent.ren1 [0,1,2,3,4,5] (by decide) (by simp only [Yd];exact ⟨zb (by simp [Yf,Yh]),za fun _=>rfl,za fun _=>rfl,za fun _=>rfl,zb (by simp [Yf]),zb (by simp [Yf])⟩) (by simp [ze,Vg.look,SV.mapH,muL,atR]))
  ·simp only [decide_eq_false h38];simp only [↓XC,X1,seval,X2,yz,wm,z8,yv,qw,zj,↓Ya,Yb];refine Vm (un s x (if ha=true then (pe:Int) else pr) hs) ?_;simp only [↓XC,X1,seval,X2,yz,wm,z8,yv,qw,zj,↓Ya,Yb,XM];simp only [by0 (show (0:Int)<33 by decide)];refine ⟨fun h33=>?_,fun h33=>?_⟩
   ·have hi:zfs s x.pos=true:=by unfold zfs;simp [h33]
    rw [zg s hA.pos];refine Chk.mk hs fun _=>?_;refine Vm (un s x (if ha=true then (pe:Int) else pr) hs) ?_;simp only [↓XC,X1,seval,X2,yz,wm,z8,yv,qw,zj,↓Ya,Yb,XM];simp only [by0 (show (0:Int)<33 by decide)];rw [zg s hA.pos];refine ⟨fun _=>Chk.mk hs fun _=>?_,fun h=>absurd h33 h⟩;have hpl:x.pos<s.length:=zjc hi;have hnn:=tgA_nn s x.pos;simp only [←zw hpl,h33,show decide ((33:Int)=38)=false from rfl,decide_true,Bool.true_and,Bool.false_and,Bool.false_or];rw [bhd_ix];refine CO fun _=>Chk.mk (fun _=>by omega) fun _=>Chk.mk (fun h=>⟨⟨h,h⟩,hs,hnn⟩) fun _=>Chk.mk (fun h=>by have:=wk (s:=s) (i:=(tgA s x.pos).2.1.toNat) (by simp at h;exact h.1.2);omega) fun _=>⟨fun hc=>?_,fun hc=>CO fun _=>⟨fun h=>absurd h (by decide),fun _=>?_⟩⟩
    ·have hb:(prA s r.hd fl x.pos ⟨ha,an,tg,pe⟩).2=7:=by unfold prA;rw [if_neg h38,if_neg];rintro ⟨g1,g2,g3⟩;have g2':tg=[]:=g2;simp [g1,g2',g3] at hc
     have e:=zsd hA hi hb (by decide);refine Vm (vg s x (if ha=true then (pe:Int) else pr) 7 x.pos hcx) ?_;simp only [↓XC,X1,seval,X2,XM];refine ⟨.tup [.agg [.i .i64 0,.i .i64 0,.b false,.s [],.s an,.s tg,.i .i64 0,.i .i64 0],.b ha],(spC s (prZ s fl r) ((prZ s fl r).pos:Nat) (if ha=true then (pe:Int) else pr)),⟨_,an,tg,ha,fun h=>absurd h (by rw [e];exact (by decide:¬((7:Int)=0))),rfl,rfl⟩, ?_⟩;rw [e];exact Vf
    ·have hO:(tgA s x.pos).2.2=true:=by
      cases h:(tgA s x.pos).2.2 with
      | true=>rfl
      | false=>rw [h] at hc;simp at hc
     have hO2:tg=[]:=by
      by_cases h:tg=[]
      ·exact h
      ·simp [h] at hc
     have hB:bhd s fl (tgA s x.pos).2.1.toNat=true:=by
      cases h:bhd s fl (tgA s x.pos).2.1.toNat with
      | true=>rfl
      | false=>rw [h] at hc;simp at hc
     have hlt:=zy1 s x.pos;have eN:spot s (tgA s x.pos).2.1=(tgA s x.pos).2.1.toNat:=by have:=zdo hO;unfold spot;omega
     have eZ:((tgA s x.pos).2.1.toNat:Int)=(tgA s x.pos).2.1:=by omega
     have hh:x.hd=r.hd:=by rw [hA.at'];rfl
     rw [show je (fun i=>[SV.s (x.hd.getD i hdz).name,SV.s (x.hd.getD i hdz).pre]) 0 x.hd.length=x.hd.map hdc from yf (enc:=hdc) (z:=hdz) (xs:=x.hd) rfl];simp only [↓XC,X1,seval,X2,yz,wm,z8,yv,qw,zj,↓Ya,Yb];refine Chk.mk ⟨Nat.le_refl _,by omega,by rw [hh];exact hh1,by rw [hh];exact hh2⟩ fun _=>⟨fun hc=>?_,fun hc=>?_⟩
     ·have hb:(prA s r.hd fl x.pos ⟨ha,an,tg,pe⟩).2=15:=by unfold prA;rw [←hh,if_neg h38,if_pos ⟨hO,hO2,hB⟩,if_neg (by simpa using hc)]
      have e:=zsd hA hi hb (by decide);refine Vm (vg s x (if ha=true then (pe:Int) else pr) 15 x.pos hcx) ?_;simp only [↓XC,X1,seval,X2,XM];refine ⟨.tup [.agg [.i .i64 0,.i .i64 0,.b false,.s [],.s an,.s tg,.i .i64 0,.i .i64 0],.b ha],(spC s (prZ s fl r) ((prZ s fl r).pos:Nat) (if ha=true then (pe:Int) else pr)),⟨_,an,tg,ha,fun h=>absurd h (by rw [e];exact (by decide:¬((15:Int)=0))),rfl,rfl⟩, ?_⟩;rw [e];exact Vf
     ·have hb:prA s r.hd fl x.pos ⟨ha,an,tg,pe⟩=(⟨true,an,(trA (tgA s x.pos).1 x.hd).1,(tgA s x.pos).2.1.toNat⟩,0):=by unfold prA;rw [←hh,if_neg h38,if_pos ⟨hO,hO2,hB⟩,if_pos (by simpa using hc)]
      try rw [eN]
      obtain ⟨h1,h2,h3,h4⟩:=zux hA hi hb;simp only at h1 h2 h3 h4;obtain ⟨k,hk⟩:∃ k:Nat,(tgA s x.pos).2.1=(k:Int):=⟨(tgA s x.pos).2.1.toNat,by omega⟩
      have hk2:(tgA s x.pos).2.1.toNat=k:=by omega
      rw [hk2] at h1 h2 h3 h4 ⊢;rw [hk];have hw1:=jh s k;have hw2:=jg s k h2;have hg1:=q8 s k;refine Chk.mk hs fun _=>⟨fun hf=>?_,fun hf=>?_⟩
      ·refine Vm (sgap s (atR x (wh s k)) (k:Nat) ⟨hs,hcx,hw2⟩) ?_;simp only [↓XC,X1,seval,X2,XM];refine ⟨⟨(yq s (atR x (wh s k)),(⟨true,an,(trA (tgA s x.pos).1 x.hd).1,k⟩:Pp)),(h4 hf).1⟩, ?_, ?_⟩
       ·have:=(h4 hf).2;rw [if_pos hcx];simp only;split<;>omega
       ·exact (Ent.ren1 [0,1,2,3,4,5] (by decide) (by simp only [Yd];exact ⟨zb (by simp [Yf,Yh]),za fun _=>rfl,za fun _=>rfl,za fun _=>rfl,zb (by simp [Yf]),zb (by simp [Yf])⟩) (by simp [ze,Vg.look,SV.mapH,muL,atR]))
      ·refine ⟨⟨(atR x (wh s k),(⟨true,an,(trA (tgA s x.pos).1 x.hd).1,k⟩:Pp)),.inl (h3 hf)⟩, ?_, ?_⟩
       ·have hc0:(atR x (wh s k)).cd=0:=hcx;rw [if_pos hcx];show (if (atR x (wh s k)).cd=0 then s.length+1-wh s k else 0)<_;rw [if_pos hc0];omega
       ·exact (Ent.ren1 [0,1,2,3,4,5] (by decide) (by simp only [Yd];exact ⟨zb (by simp [Yf,Yh]),za fun _=>rfl,za fun _=>rfl,za fun _=>rfl,zb (by simp [Yf]),zb (by simp [Yf])⟩) (by simp [ze,Vg.look,SV.mapH,muL,atR]))
   ·obtain ⟨e,e2⟩:=prA_end hA (show zfs s x.pos=false by unfold zfs;simp [h38,h33]);refine ⟨.tup [.agg [.i .i64 0,.i .i64 0,.b false,.s [],.s an,.s tg,.i .i64 0,.i .i64 0],.b ha],(spC s (prZ s fl r) ((prZ s fl r).pos:Nat) (if ha=true then (pe:Int) else pr)),⟨_,an,tg,ha,fun h=>by rw [e2];exact ⟨rfl,rfl,rfl,rfl⟩,rfl,rfl⟩, ?_⟩;rw [e];exact Vf
 ·simp only [decide_eq_false hcx];simp only [↓XC,X1,seval,X2,yz,wm,z8,yv,qw,zj,↓Ya,Yb];have e:prZ s fl r=x:=by
   rcases hI with h | h
   ·exact absurd h.cd hcx
   ·exact h.2.symm
  refine ⟨.tup [.agg [.i .i64 0,.i .i64 0,.b false,.s [],.s an,.s tg,.i .i64 0,.i .i64 0],.b ha],(spC s (prZ s fl r) ((prZ s fl r).pos:Nat) (if ha=true then (pe:Int) else pr)),⟨_,an,tg,ha,fun h=>absurd h (by rw [e];exact hcx),rfl,rfl⟩, ?_⟩;rw [e];exact Vf
end Go.T
end
