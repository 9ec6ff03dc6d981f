/- Own text: part UAU. -/
import Derived.Test.YtgippllfnmdnpaaGreatDoorUAT
import Derived.Test.YtgippllfnmdnpaaGreatDoorUAL
set_option linter.all false
section
namespace Go.T
variable [Go.Vg.Glob]
open Go.Proofs Go.Vg Go.RowKit Go.TT Go.Pl
set_option maxRecDepth 10000
set_option maxHeartbeats 4000000
theorem markText (k:Int) (hp:k≤1073741824):PF Tryz.prog 116 [.i .i64 k] (.s (mtx k)):=by
 refine HP pn 20 [[0],[0,5],[2],[0,3],[0,3,7],[0,3],[0,3],[2]] Tryz.func116 [.tmp 2] ?_;simp only [↓XC,X1,reduceIte,Nat.reduceAdd,Nat.reduceLT,Nat.reduceEqDiff,Nat.reduceBEq,Nat.reduceLeDiff,reduceCtorEq,Nat.reduceSub,Nat.reduceMul,Int.reduceToNat,Int.reduceLT,Int.reduceLE,TES,XR];refine ⟨fun h=>by rw [mtx,if_pos h],fun h=>?_⟩;refine zl.of (ι:={x:Nat×List UInt8 // zg0 k.toNat x.1 x.2}) (fun x=>⟨[(0,.i .i64 (x.1.1:Nat)),(3,.s x.1.2)],[]⟩) (fun x=>x.1.1) ⟨(k.toNat,[]),Nat.le_refl _,by rw [if_neg (by omega)];simp⟩ (by rw [show ((k.toNat:Nat):Int)=k by omega];exact Ent.refl _ _) ?_;rintro ⟨⟨m,out⟩,hm⟩;simp only [↓XC,X1,reduceIte,Nat.reduceAdd,Nat.reduceLT,Nat.reduceEqDiff,Nat.reduceBEq,Nat.reduceLeDiff,reduceCtorEq,Nat.reduceSub,Nat.reduceMul,Int.reduceToNat,Int.reduceLT,Int.reduceLE,TES];have e1:(m:Int).tmod 10=((m % 10:Nat):Int):=zua m 10;have e2:(m:Int).tdiv 10=((m / 10:Nat):Int):=zhh m 10;simp only [e1,e2];have e3:((48:Int)+((m % 10:Nat):Int)).toNat=48+m % 10:=by omega
 have hl:=hm.len;have hmk:m≤k.toNat:=hm.1;simp only at hm hl;refine ⟨fun hc=>Chk.mk (by decide) fun _=>CR fun _=>CR fun _=>⟨isU8_one,CO fun _=>⟨by decide,CR fun _=>?_⟩⟩,fun hc=>CO fun _=>?_⟩
 ·rw [e3];exact ⟨⟨(m / 10,UInt8.ofNat (48+m % 10)::out),hm.step (by omega)⟩,by simp only;omega,Ent.nil (by simp [ze,Vg.look,SV.mapH])⟩
 ·have hm0:m=0:=by omega
  subst hm0;have:=hm.2;rw [if_pos rfl] at this;rw [mtx,if_neg h,this]
noncomputable def zh4:PE:=peR (fun (k:Int)=>[.i .i64 k]) (fun (k:Int)=>k≤1073741824) (fun (k:Int)=>.s (mtx k))
theorem v8 {k:Int}:zh4 [.i .i64 k]=some (k≤1073741824,.s (mtx k)):=yg (by rintro a b h;simp_all []) k
theorem zcp:PE1 Tryz.prog 116 zh4:=yo (by rintro k hp;exact markText k hp)
theorem zxo (a:List Ev) (k:Int) (hp:a.length≤16777216∧0≤k∧k≤1048577):FnK Tryz.prog 43 1 [.slc 0 0 a.length,.i .i64 k] [some (.row false 8 a.length (zu evc evz a))] (fun z c=>z=.i .i64 (k+8 * a.length)∧c=[some (.row false 8 a.length (zu evc evz (mkL evm 8 k a.length)))]):=by
 refine HE zcp.d 74 [[0,1],[0,1,5],[0,1,5,9],[0,1,5],[0,1,5],[0,1,5],[0,1,5],[0,1,5],[0,1,5],[0,1,5],[0,1,5],[0,1,5],[0,1,5],[0,1,5],[0,1,5],[0,1,5],[0,1,5],[0,1,5],[0,1,5],[0,1,5],[4]] Tryz.func43 [.tmp 4] ?_;simp only [↓XC,X1,seval,TES,v8,XR,XRE];refine zl.of (ι:={i:Nat // i≤a.length}) (fun x=>⟨[(0,.slc 0 0 a.length),(1,.i .i64 (k+8 * (x.1:Nat))),(5,.i .i64 (x.1:Nat))],[some (.row false 8 a.length (zu evc evz (mkd evm 8 k a x.1)))]⟩) (fun x=>a.length-x.1) ⟨0,Nat.zero_le _⟩ (by simp only [Int.natCast_zero,Int.mul_zero,Int.add_zero,zvu];exact Ent.refl _ _) ?_;rintro ⟨i,hi⟩;simp only [↓XC,X1,seval,TES,v8,XR,XRE];refine ⟨fun h=>?_,fun h=>?_⟩
 ·repeat (refine Chk.mk (by first | omega | (simp only [inR];omega)) fun _=>?_)
  refine ⟨⟨i+1,by omega⟩,by simp only;omega, ?_⟩;have e8:k+8 * (i:Int)+1+1+1+1+1+1+1+1=k+8 * ((i+1:Nat):Int):=by omega
  simp only [e8,Int.natCast_add,Int.natCast_one];refine (Ent.ren1 [0] (by decide) (by simp only [Yd];exact zo4 (fun _=>rfl) fun j hj=>by ((by_cases h7:j=i);(simp only [if_pos h7,zu,evc,evm,List.set_cons_zero,List.set_cons_succ,Int.add_assoc,Int.reduceAdd]);(simp only [if_neg h7];rfl))) (by simp [ze,Vg.look,SV.mapH,muL]))
 ·have hia:i=a.length:=by omega
  subst hia;rw [z1c];exact ⟨[0],by decide,by simp only [Yd];exact za fun _=>rfl,by simp only [↓XC,X1,seval];try simp [Yf],by simp [z6,SO.ro,YC],by simp⟩
theorem zxv (a:List Ev) (k:Int) (hp:a=mkL evm 8 k a.length∧a.length≤16777216∧0≤k∧k≤1048577):PF Tryz.prog 44 [.fs 8 (a.map evc),.i .i64 k] (.i .i64 (k+8 * a.length)):=by
 refine HPx zcp.d 90 [[0,1],[0,1,5],[0,1,5,9],[0,1,5],[0,1,5,18],[4],[0,1,5],[0,1,5,27],[4],[0,1,5],[0,1,5,38],[4],[0,1,5],[0,1,5,48],[4],[0,1,5],[0,1,5,58],[4],[0,1,5],[0,1,5,68],[4],[0,1,5],[0,1,5,77],[4],[0,1,5],[0,1,5,86],[4],[0,1,5],[4]] Tryz.func44 [.tmp 4] (fun _=>false) [] [(13,[],[],qe (.q1 5 (.q0 4 [4] (.alt 6 (.q1 7 .fin) .fin)))),(16,[],[],qe (.q1 5 (.q0 4 [4] (.alt 6 (.q1 7 .fin) .fin)))),(19,[],[],qe (.q1 5 (.q0 4 [4] (.alt 6 (.q1 7 .fin) .fin))))] ?_;simp only [↓XC,X1,seval,TES,v8,XR,XRE];refine zl.of (ι:={i:Nat // i≤a.length}) (fun x=>⟨[(0,.fs 8 (a.map evc)),(1,.i .i64 (k+8 * (x.1:Nat))),(5,.i .i64 (x.1:Nat))],[]⟩) (fun x=>a.length-x.1) ⟨0,Nat.zero_le _⟩ (by simp only [Int.natCast_zero,Int.mul_zero,Int.add_zero];exact Ent.refl _ _) ?_;rintro ⟨i,hi⟩;simp only [↓XC,X1,seval,TES,v8,XR,XRE];have hx:i<a.length→a.getD i evz=evm (k+8 * i):=fun h=>by have:=zsr (g:=evm) (c:=8) evz (n:=a.length) (k:=k) h;rw [←hp.1] at this;rw [this]
 refine ⟨fun h=>?_,fun h=>by rw [show i=a.length by omega]⟩;rw [hx (by omega)];have e8:k+(8 * (i:Int)+8)=k+8 * ((i+1:Nat):Int):=by omega
 simp only [evm,Int.add_assoc,Int.reduceAdd,eq_self,decide_true,Bool.not_true,Bool.false_eq_true,false_implies,true_and,beq_self_eq_true,forall_const,e8]
 repeat' (first | with_reducible refine Chk.mk ?_ fun _=>?_ | with_reducible refine And.intro ?_ ?_ | intro _)
 all_goals first
  | omega
  | (simp only [inR];omega)
  | (with_reducible refine (?_:zue _ _ _=true);decide +kernel)
  | (exfalso;rename_i h9;simp at h9;done)
  | (refine ⟨⟨i+1,by omega⟩,by simp only;omega, ?_⟩;simp only [Int.natCast_add,Int.natCast_one];exact Ent.refl _ _)
noncomputable def zdz:PE:=peR (fun (x:List Ev×Int)=>match x with | (a,k)=>[.fs 8 (a.map evc),.i .i64 k]) (fun (x:List Ev×Int)=>match x with | (a,k)=>a=mkL evm 8 k a.length∧a.length≤16777216∧0≤k∧k≤1048577) (fun (x:List Ev×Int)=>match x with | (a,k)=>.i .i64 (k+8 * a.length))
theorem qb {a:List Ev} {k:Int}:zdz [.fs 8 (a.map evc),.i .i64 k]=some (a=mkL evm 8 k a.length∧a.length≤16777216∧0≤k∧k≤1048577,.i .i64 (k+8 * a.length)):=yg (by rintro ⟨a0,a1⟩ ⟨b0,b1⟩ h;simp_all [z12]) (a,k)
theorem zg4:PE1 Tryz.prog 44 zdz:=yo (by rintro ⟨a,k⟩ hp;exact zxv a k hp)
theorem lixb (s:Bs) (c:Int) (hp:s.length≤1048576):PF Tryz.prog 275 [.s s,.i .u8 c] (.i .i64 (lix s c)):=by
 refine HP pn 19 [[0,1],[0,1,5],[0,1,5,10],[0,1,5],[0,1,5,17],[4],[4]] Tryz.func275 [.tmp 4] ?_;simp only [↓XC,X1,seval,TES];refine CR fun _=>?_;refine zl.of (ι:={i:Nat // i≤s.length∧lixU s c i=lix s c}) (fun x=>⟨[(0,.s s),(1,.i .u8 c),(5,.i .i64 ((x.1:Nat)-1))],[]⟩) (fun x=>x.1) ⟨s.length,Nat.le_refl _,rfl⟩ (Ent.refl _ _) ?_;rintro ⟨i,hi,hj⟩;simp only [↓XC,X1,seval,TES];refine ⟨fun h=>?_,fun h=>?_⟩
 ·obtain ⟨k,rfl⟩:∃ k,i=k+1:=⟨i-1,by omega⟩
  have e1:(((k+1:Nat):Int)-1).toNat=k:=by omega
  have e2:((k+1:Nat):Int)-1=(k:Nat):=by omega
  rw [e1,e2];refine CO fun _=>⟨fun h1=>?_,fun h1=>CR fun _=>⟨⟨k,by omega, ?_⟩,by simp only;omega,Ent.refl _ _⟩⟩
  ·rw [←hj,lixU,if_pos h1]
  ·rw [←hj];conv=>rhs;rw [lixU,if_neg h1]
 ·obtain rfl:i=0:=by omega
  rw [←hj];rfl
noncomputable def z0c:PE:=peR (fun (x:Bs×Int)=>match x with | (s,c)=>[.s s,.i .u8 c]) (fun (x:Bs×Int)=>match x with | (s,c)=>s.length≤1048576) (fun (x:Bs×Int)=>match x with | (s,c)=>.i .i64 (lix s c))
theorem zxd {s:Bs} {c:Int}:z0c [.s s,.i .u8 c]=some (s.length≤1048576,.i .i64 (lix s c)):=yg (by rintro ⟨a0,a1⟩ ⟨b0,b1⟩ h;simp_all []) (s,c)
theorem zxc:PE1 Tryz.prog 275 z0c:=yo (by rintro ⟨s,c⟩ hp;exact lixb s c hp)
theorem lixs (s:Bs) (c:Int) (hp:s.length≤1048576):PF Tryz.prog 247 [.s s,.i .u8 c] (.i .i64 (lix s c)):=by refine HP zxc.d 8 [[0,1],[4]] Tryz.func247 [.tmp 4] ?_;simp only [↓XC,X1,seval,TES,zxd];exact Chk.mk hp fun _=>trivial
noncomputable def z0b:PE:=peR (fun (x:Bs×Int)=>match x with | (s,c)=>[.s s,.i .u8 c]) (fun (x:Bs×Int)=>match x with | (s,c)=>s.length≤1048576) (fun (x:Bs×Int)=>match x with | (s,c)=>.i .i64 (lix s c))
theorem zlh {s:Bs} {c:Int}:z0b [.s s,.i .u8 c]=some (s.length≤1048576,.i .i64 (lix s c)):=yg (by rintro ⟨a0,a1⟩ ⟨b0,b1⟩ h;simp_all []) (s,c)
theorem zlg:PE1 Tryz.prog 247 z0b:=yo (by rintro ⟨s,c⟩ hp;exact lixs s c hp)
theorem LineAt_i (s:Bs) (p:Int) (hp:s.length≤1048576):PF Tryz.prog 209 [.s s,.i .i64 p] (.i .i64 (la s (spot s p):Nat)):=by refine HP (yd.c zlg.d) 12 [[0,1],[4]] Tryz.func209 [.tmp 4] ?_;simp only [↓XC,X1,seval,TES,ye,zlh];have h0:=yh s p;have h1:=lix_take h0;have h2:=zfq s (spot s p);rw [h1];exact CO fun _=>Chk.mk (by simp only [List.length_take];omega) fun _=>CR fun _=>rfl
noncomputable def zit:=qsi (fun s p=>s.length≤1048576) fun s p=>.i .i64 (la s (spot s p):Nat)
theorem wt {s} {p}:zit [.s s,.i .i64 p]=some (s.length≤1048576,.i .i64 (la s (spot s p):Nat)):=y7
theorem kj:PE1 Tryz.prog 209 zit:=y6 LineAt_i
theorem LineAt_s (s:Bs) (p:Int) (hp:s.length≤1048576):PF Tryz.prog 164 [.s s,.i .i64 p] (.i .i64 (la s (spot s p):Nat)):=by
 refine HP yl.d 20 [[0,1],[0,1],[0,1,16],[0,1],[4]] Tryz.func164 [.tmp 4] ?_;simp only [↓XC,X1,seval,TES,yn];refine zl.of (ι:={q:Nat // q≤s.length∧la s q=la s (spot s p)}) (fun x=>⟨[(0,.s s),(1,.i .i64 (x.1:Nat))],[]⟩) (fun x=>x.1) ⟨spot s p,yh s p,rfl⟩ (Ent.refl _ _) ?_;rintro ⟨q,hq,hw⟩;simp only [↓XC,X1,seval,TES];refine Chk.mk (fun h=>by simp only [inR];omega) fun _=>Chk.mk (fun h=>by omega) fun _=>⟨fun h=>?_,fun h=>?_⟩
 ·have hq0:0<q:=by simp at h;omega
  obtain ⟨k,rfl⟩:∃ k,q=k+1:=⟨q-1,by omega⟩
  have e1:(((k+1:Nat):Int)-1).toNat=k:=by omega
  have e2:((k+1:Nat):Int)-1=(k:Nat):=by omega
  rw [e1] at h;rw [e2];refine CR fun _=>⟨⟨k,by omega, ?_⟩,by simp only;omega,Ent.refl _ _⟩
  rw [←la_f (by omega) (by simp only [Yi] at h;omega)];exact hw
 ·rw [←hw];rcases Nat.eq_zero_or_pos q with h0 | h0
  ·subst h0;rfl
  ·obtain ⟨k,rfl⟩:∃ k,q=k+1:=⟨q-1,by omega⟩
   have e1:(((k+1:Nat):Int)-1).toNat=k:=by omega
   rw [e1] at h;rw [la_t (by omega) (by simp only [Yi] at h;omega)]
noncomputable def zis:=qsi (fun s p=>s.length≤1048576) fun s p=>.i .i64 (la s (spot s p):Nat)
theorem ws {s} {p}:zis [.s s,.i .i64 p]=some (s.length≤1048576,.i .i64 (la s (spot s p):Nat)):=y7
theorem ki:PE1 Tryz.prog 164 zis:=y6 LineAt_s
theorem MarkAt_i (s:Bs) (p:Int) (hp:s.length≤1048576):PF Tryz.prog 144 [.s s,.i .i64 p] (.i .i64 (mkA s (spot s p))):=by
 refine HP (yd.c (kj.c kh.d)) 36 [[0,1],[0,1],[0,1,26],[4],[31],[31,32],[4],[34],[4],[4]] Tryz.func144 [.tmp 4] ?_;simp only [↓XC,X1,seval,TES,ye,wt,zr];have h0:=yh s p;rw [zg s h0];have e0:((spot s p:Nat)+3:Int).toNat=spot s p+3:=by omega
 rw [e0];generalize spot s p=q at *;have hA:(!decide ((la s q:Int)=(q:Int))||decide ((s.length:Int)-(q:Int)<3)||!gap s (q+3))=!decide (la s q=q∧q+3≤s.length∧gap s (q+3)=true):=by rw [Bool.eq_iff_iff];simp only [Bool.or_eq_true,Bool.not_eq_true',decide_eq_true_eq,decide_eq_false_iff_not];cases gap s (q+3)<;>simp<;>omega
 rw [hA];refine Chk.mk hp fun _=>Chk.mk (fun _=>by simp only [inR];omega) fun _=>Chk.mk (fun _=>by simp only [inR];omega) fun _=>Chk.mk (fun h=>⟨⟨h,h⟩,hp,by omega⟩) fun _=>⟨fun h=>?_,fun h=>?_⟩
 ·rw [zss (by intro hx;rw [decide_eq_true hx] at h;cases h)]
 ·have h1:la s q=q∧q+3≤s.length∧gap s (q+3)=true:=by simpa using h
  refine CR fun _=>CO fun _=>?_;unfold mkA sub;rw [if_pos h1];refine ⟨fun h2=>by rw [if_pos h2],fun h2=>⟨fun h3=>by rw [if_neg h2,if_pos h3],fun h3=>by rw [if_neg h2,if_neg h3]⟩⟩
noncomputable def zir:=qsi (fun s p=>s.length≤1048576) fun s p=>.i .i64 (mkA s (spot s p))
theorem zd {s} {p}:zir [.s s,.i .i64 p]=some (s.length≤1048576,.i .i64 (mkA s (spot s p))):=y7
theorem we:PE1 Tryz.prog 144 zir:=y6 MarkAt_i
theorem MarkAt_s (s:Bs) (p:Int) (hp:s.length≤1048576):PF Tryz.prog 84 [.s s,.i .i64 p] (.i .i64 (mkA s (spot s p))):=by
 refine HP (yl.c (ki.c km.d)) 36 [[0,1],[0,1],[0,1,26],[4],[31],[31,32],[4],[34],[4],[4]] Tryz.func84 [.tmp 4] ?_;simp only [↓XC,X1,seval,TES,yn,ws,z8];have h0:=yh s p;rw [zg s h0];have e0:((spot s p:Nat)+3:Int).toNat=spot s p+3:=by omega
 rw [e0];generalize spot s p=q at *;have hA:(!decide ((la s q:Int)=(q:Int))||decide ((s.length:Int)-(q:Int)<3)||!gap s (q+3))=!decide (la s q=q∧q+3≤s.length∧gap s (q+3)=true):=by rw [Bool.eq_iff_iff];simp only [Bool.or_eq_true,Bool.not_eq_true',decide_eq_true_eq,decide_eq_false_iff_not];cases gap s (q+3)<;>simp<;>omega
 rw [hA];refine Chk.mk hp fun _=>Chk.mk (fun _=>by simp only [inR];omega) fun _=>Chk.mk (fun _=>by simp only [inR];omega) fun _=>Chk.mk (fun h=>⟨⟨h,h⟩,hp,by omega⟩) fun _=>⟨fun h=>?_,fun h=>?_⟩
 ·rw [zss (by intro hx;rw [decide_eq_true hx] at h;cases h)]
 ·have h1:la s q=q∧q+3≤s.length∧gap s (q+3)=true:=by simpa using h
  refine CR fun _=>CO fun _=>?_;unfold mkA sub;rw [if_pos h1];refine ⟨fun h2=>by rw [if_pos h2],fun h2=>⟨fun h3=>by rw [if_neg h2,if_pos h3],fun h3=>by rw [if_neg h2,if_neg h3]⟩⟩
noncomputable def ziq:=qsi (fun s p=>s.length≤1048576) fun s p=>.i .i64 (mkA s (spot s p))
theorem zh {s} {p}:ziq [.s s,.i .i64 p]=some (s.length≤1048576,.i .i64 (mkA s (spot s p))):=y7
theorem wd:PE1 Tryz.prog 84 ziq:=y6 MarkAt_s
theorem zy6 (s:Bs) (p:Int) (hp:s.length≤1048576∧0≤p∧p≤s.length+1):PF Tryz.prog 237 [.s s,.i .i64 p] (.i .i64 (stc s p.toNat:Nat)):=by
 refine HP (kh.c (zt.c xb.d)) 19 [[0,1],[0,1,15],[0,1],[4]] Tryz.func237 [.tmp 4] ?_;simp only [↓XC,X1,seval,TES,zr,zc,z7];refine zl.of (ι:={q:Nat // p.toNat≤q∧q≤s.length+1∧stc s q=stc s p.toNat}) (fun x=>⟨[(0,.s s),(1,.i .i64 (x.1:Nat))],[]⟩) (fun x=>s.length+1-x.1) ⟨p.toNat,Nat.le_refl _,by omega,rfl⟩ (by rw [show ((p.toNat:Nat):Int)=p by omega];exact Ent.refl _ _) ?_;rintro ⟨q,hq1,hq2,hw⟩;simp only [↓XC,X1,seval,TES,zr,zc,z7];have hb:byt s (spot s (q:Int))=byt s q:=by rw [vo (by omega)];rfl
 rw [hb];refine Chk.mk ⟨hp.1,by omega⟩ fun _=>Chk.mk (fun h=>⟨⟨h,h⟩,hp.1⟩) fun _=>⟨fun h=>CR fun _=>?_,fun h=>?_⟩
 ·have h1:gap s q=false∧flw (byt s q)=false:=by simpa using h
  have h2:=wk h1.1;exact ⟨⟨q+1,by omega,by omega,by rw [←stc_t h1];exact hw⟩,by simp only;omega,(by first | exact Ent.refl _ _ | (simp only [Int.natCast_add,Int.natCast_one];exact Ent.refl _ _))⟩
 ·rw [←hw,stc_f];simpa using h
noncomputable def zgb:=qsi (fun s p=>s.length≤1048576∧0≤p∧p≤s.length+1) fun s p=>.i .i64 (stc s p.toNat:Nat)
theorem zbk {s} {p}:zgb [.s s,.i .i64 p]=some (s.length≤1048576∧0≤p∧p≤s.length+1,.i .i64 (stc s p.toNat:Nat)):=y7
theorem zbj:PE1 Tryz.prog 237 zgb:=y6 zy6
theorem zy5 (s:Bs) (p:Int) (hp:s.length≤1048576∧0≤p∧p≤s.length+1):PF Tryz.prog 322 [.s s,.i .i64 p] (.i .i64 (stc s p.toNat:Nat)):=by
 refine HP (km.c xc.d) 19 [[0,1],[0,1,15],[0,1],[4]] Tryz.func322 [.tmp 4] ?_;simp only [↓XC,X1,seval,TES,z8,yv];refine zl.of (ι:={q:Nat // p.toNat≤q∧q≤s.length+1∧stc s q=stc s p.toNat}) (fun x=>⟨[(0,.s s),(1,.i .i64 (x.1:Nat))],[]⟩) (fun x=>s.length+1-x.1) ⟨p.toNat,Nat.le_refl _,by omega,rfl⟩ (by rw [show ((p.toNat:Nat):Int)=p by omega];exact Ent.refl _ _) ?_;rintro ⟨q,hq1,hq2,hw⟩;simp only [↓XC,X1,seval,TES,z8,yv];have hb:gap s q=false→((s.getD q 0).toNat:Int)=byt s q:=fun h=>(zw (wk h)).symm;refine Chk.mk ⟨hp.1,by omega⟩ fun _=>Chk.mk (fun h=>by have:=wk (show gap s q=false by simpa using h);omega) fun _=>⟨fun h=>CR fun _=>?_,fun h=>?_⟩
 ·have h0:gap s q=false:=by simp at h;exact h.1
  rw [hb h0] at h;have h1:gap s q=false∧flw (byt s q)=false:=by simpa using h
  have h2:=wk h1.1;exact ⟨⟨q+1,by omega,by omega,by rw [←stc_t h1];exact hw⟩,by simp only;omega,(by first | exact Ent.refl _ _ | (simp only [Int.natCast_add,Int.natCast_one];exact Ent.refl _ _))⟩
 ·rw [←hw,stc_f];rintro ⟨h1,h2⟩;rw [hb h1,h1,h2] at h;cases h
noncomputable def zga:=qsi (fun s p=>s.length≤1048576∧0≤p∧p≤s.length+1) fun s p=>.i .i64 (stc s p.toNat:Nat)
theorem zbi {s} {p}:zga [.s s,.i .i64 p]=some (s.length≤1048576∧0≤p∧p≤s.length+1,.i .i64 (stc s p.toNat:Nat)):=y7
theorem zbh:PE1 Tryz.prog 322 zga:=y6 zy5
theorem NameAt_i (s:Bs) (p:Int) (hp:s.length≤1048576):PF Tryz.prog 190 [.s s,.i .i64 p] (.tup [.s (nmA s (spot s p)).1,.i .i64 (nmA s (spot s p)).2.1,.b (nmA s (spot s p)).2.2]):=by
 refine HP (yd.c (zt.c (zbj.c va.d))) 37 [[0,1],[0,1],[0,1,7],[0,1,20],[4,5,6],[0,1,8],[0,1,8,30],[4,5,6],[4,5,6]] Tryz.func190 [.tmp 4,.tmp 5,.tmp 6] ?_;simp only [↓XC,X1,seval,TES,ye,zc,zbk,ks];have h0:=yh s p;rw [zg s h0];have e0:((spot s p:Nat)+1:Int).toNat=spot s p+1:=by omega
 rw [e0];generalize spot s p=q at *;have h1:=zy7 s (q+1);refine Chk.mk hp fun _=>⟨fun h=>?_,fun h=>CR fun _=>Chk.mk ⟨hp,by omega,by omega⟩ fun _=>?_⟩
 ·rw [z05];rintro ⟨h2,_⟩;simp at h;omega
 have hb:byt s q=38∨byt s q=42:=by
  by_cases h3:byt s q=38
  ·exact .inl h3
  ·simp [h3] at h;exact .inr h
 have hq:q<s.length:=by
  rcases Nat.lt_or_ge q s.length with h3 | h3
  ·exact h3
  ·rw [qk h3] at hb;omega
 have h2:=zhw s (q+1) (by omega);refine CR fun _=>CR fun _=>⟨fun h3=>?_,fun h3=>CR fun _=>?_⟩
 ·rw [z05];rintro ⟨_,h4,h5⟩;simp at h3;omega
 ·have h4:q+2≤stc s (q+1)∧stc s (q+1)≤q+61:=by simp at h3;omega
  exact CO fun _=>by rw [nmA_t ⟨hb,h4⟩];rfl
noncomputable def zip:=qsi (fun s p=>s.length≤1048576) fun s p=>.tup [.s (nmA s (spot s p)).1,.i .i64 (nmA s (spot s p)).2.1,.b (nmA s (spot s p)).2.2]
theorem uz {s} {p}:zip [.s s,.i .i64 p]=some (s.length≤1048576,.tup [.s (nmA s (spot s p)).1,.i .i64 (nmA s (spot s p)).2.1,.b (nmA s (spot s p)).2.2]):=y7
theorem uy:PE1 Tryz.prog 190 zip:=y6 NameAt_i
theorem NameAt_s (s:Bs) (p:Int) (hp:s.length≤1048576):PF Tryz.prog 286 [.s s,.i .i64 p] (.tup [.s (nmA s (spot s p)).1,.i .i64 (nmA s (spot s p)).2.1,.b (nmA s (spot s p)).2.2]):=by
 refine HP (yl.c zbh.d) 48 [[0,1],[0,1],[0,1,26],[4,5,6],[0,1,7],[0,1,7,41],[4,5,6],[4,5,6]] Tryz.func286 [.tmp 4,.tmp 5,.tmp 6] ?_;simp only [↓XC,X1,seval,TES,yn,zbi];have h0:=yh s p;have e0:((spot s p:Nat)+1:Int).toNat=spot s p+1:=by omega
 rw [e0];generalize spot s p=q at *;have h1:=zy7 s (q+1);refine Chk.mk (fun h=>by simp at h;omega) fun _=>Chk.mk (fun h=>by simp at h;omega) fun _=>⟨fun h=>?_,fun h=>CR fun _=>Chk.mk ⟨hp,by omega,by omega⟩ fun _=>?_⟩
 ·rw [z05];rintro ⟨h2,_⟩;rcases Nat.lt_or_ge q s.length with h3 | h3
  ·rw [zw h3] at h2;simp only [Yi] at h;omega
  ·rw [qk h3] at h2;omega
 have hq:q<s.length:=by simp at h;omega
 have hb:byt s q=38∨byt s q=42:=by
  rw [zw hq];by_cases h3:((s.getD q 0).toNat:Int)=38
  ·exact .inl h3
  ·have h4:=h;simp only [h3] at h4;simp at h4;exact .inr (by have:=h4.2;simpa using this)
 have h2:=zhw s (q+1) (by omega);refine CR fun _=>Chk.mk (fun _=>by simp only [inR];omega) fun _=>Chk.mk (fun _=>by simp only [inR];omega) fun _=>⟨fun h3=>?_,fun h3=>CR fun _=>?_⟩
 ·rw [z05];rintro ⟨_,h4,h5⟩;simp only [Yi] at h3;omega
 ·have h4:q+2≤stc s (q+1)∧stc s (q+1)≤q+61:=by simp only [Yi] at h3;omega
  exact CO fun _=>by rw [nmA_t ⟨hb,h4⟩];rfl
noncomputable def zio:=qsi (fun s p=>s.length≤1048576) fun s p=>.tup [.s (nmA s (spot s p)).1,.i .i64 (nmA s (spot s p)).2.1,.b (nmA s (spot s p)).2.2]
theorem yz {s} {p}:zio [.s s,.i .i64 p]=some (s.length≤1048576,.tup [.s (nmA s (spot s p)).1,.i .i64 (nmA s (spot s p)).2.1,.b (nmA s (spot s p)).2.2]):=y7
theorem ux:PE1 Tryz.prog 286 zio:=y6 NameAt_s
theorem isQuote (b:Int):PF Tryz.prog 191 [.i .i64 b] (.b (b==39||b==34)):=by refine HP pn 9 [[0],[2]] Tryz.func191 [.tmp 2] ?_;simp only [↓XC,X1,seval,TES];rfl
noncomputable def zll:PE:=peR (fun (b:Int)=>[.i .i64 b]) (fun (b:Int)=>True) (fun (b:Int)=>.b (b==39||b==34))
theorem ya {b:Int}:zll [.i .i64 b]=some (True,.b (b==39||b==34)):=yg (by rintro a b h;simp_all []) b
theorem vj:PE1 Tryz.prog 191 zll:=yo (by rintro b hp;exact isQuote b)
theorem zrt (s:Bs) (p:Int) (fl:Bool) (hp:s.length≤1048576):PF Tryz.prog 101 [.s s,.i .i64 p,.b fl] (.b (pfA s (spot s p) fl)):=by
 refine HP (yd.c (zt.c (kh.c (zh7.c xb.d)))) 57 [[0,1,2],[0,1,2],[0,1,2,7],[0,1,2,7,30],[6],[0,1,2,40],[6],[6]] Tryz.func101 [.tmp 6] ?_;simp only [↓XC,X1,seval,TES,ye,zc,zr,zh8,z7];have h0:=yh s p;rw [zg s h0];have e0:((spot s p:Nat)+1:Int).toNat=spot s p+1:=by omega
 have e1:byt s (spot s ((spot s p:Nat)+1:Int))=byt s (spot s p+1):=by rw [vo (by omega),e0]
 rw [e1,e0];generalize spot s p=q at *;have hr:=zac s q;refine Chk.mk hp fun _=>Chk.mk ⟨hp,by omega⟩ fun _=>?_;have hg:gap s q=true∨gap s q=false:=by cases gap s q<;>simp
 rcases hg with hg | hg
 ·rw [hg,zse hg];simp
 have hq:=wk hg;have hL:=pfL_mem (s.getD q 0);rw [←zw hq] at hL;have e2:UInt8.ofNat (byt s q).toNat=s.getD q 0:=by rw [zw hq];simp
 rw [e2,idx_ge,hg];simp only [Bool.false_or];rw [hL];refine Chk.mk (fun _=>by rw [zw hq];have:=(s.getD q 0).toNat_lt;simp only [inR];omega) fun _=>⟨fun h=>?_,fun h=>?_⟩
 ·rw [pfA_no (by simpa using h)]
 have hn:¬s.getD q 0∈pfL:=by simpa using h
 refine ⟨fun hs=>?_,fun hs=>?_⟩
 ·rw [zu0 hg hn (by simpa [or_assoc] using hs)];exact CR fun _=>Chk.mk ⟨hp,by omega⟩ fun _=>Chk.mk (fun _=>by simp only [inR];omega) fun _=>Chk.mk (fun h=>⟨⟨h,h⟩,hp⟩) fun _=>rfl
 ·rw [zz6 hg hn (by simpa [and_assoc] using hs)]
noncomputable def zbp:PE:=peR (fun (x:Bs×Int×Bool)=>match x with | (s,p,fl)=>[.s s,.i .i64 p,.b fl]) (fun (x:Bs×Int×Bool)=>match x with | (s,p,fl)=>s.length≤1048576) (fun (x:Bs×Int×Bool)=>match x with | (s,p,fl)=>.b (pfA s (spot s p) fl))
theorem zk {s:Bs} {p:Int} {fl:Bool}:zbp [.s s,.i .i64 p,.b fl]=some (s.length≤1048576,.b (pfA s (spot s p) fl)):=yg (by rintro ⟨a0,a1,a2⟩ ⟨b0,b1,b2⟩ h;simp_all []) (s,p,fl)
theorem ka:PE1 Tryz.prog 101 zbp:=yo (by rintro ⟨s,p,fl⟩ hp;exact zrt s p fl hp)
theorem zx8 (s:Bs) (p:Int) (fl:Bool) (hp:s.length≤1048576):PF Tryz.prog 102 [.s s,.i .i64 p,.b fl] (.i .i64 (plE s (spot s p) fl:Nat)):=by
 refine HP (yd.c (zt.c (xr.c (kh.c (xb.c ja.d))))) 79 [[0,1,2],[0,1,2],[0,1,2,7],[0,1,2,7,18],[0,1,2,7,8],[0,1,2,7,8,9],[0,1,2,7,63],[0,1,2,7],[0,1,7,75],[0,1,7],[6]] Tryz.func102 [.tmp 6] ?_;simp only [↓XC,X1,seval,TES,ye,zc,vk,zr,z7,zy];have h0:=yh s p;refine zl.of (ι:={q:Nat // spot s p≤q∧q≤s.length∧pe1 s (spot s p) fl q=pe1 s (spot s p) fl (spot s p)}) (fun x=>⟨[(0,.s s),(1,.i .i64 (spot s p:Nat)),(2,.b fl),(7,.i .i64 (x.1:Nat))],[]⟩) (fun x=>s.length-x.1) ⟨spot s p,Nat.le_refl _,h0,rfl⟩ (Ent.refl _ _) ?_;rintro ⟨q,hq1,hq2,hw⟩;simp only [↓XC,X1,seval,TES,vk,zc,zy,zr,z7];have e0:((q:Nat)+1:Int).toNat=q+1:=by omega
 have e1:byt s (spot s ((q:Nat)+1:Int))=byt s (q+1):=by rw [vo (by omega),e0]
 have e2:spot s ((q:Int)-1)=q-1:=by unfold spot;omega
 have hB:(byt s q==10||decide (byt s q<0))=isB s q:=rfl;have hX:(decide (byt s q=35)&&decide ((q:Int)>(spot s p:Nat))&&(byt s (q-1)==32||byt s (q-1)==9)||decide (byt s q=58)&&(gap s (q+1)||fl&&flw (byt s (q+1)))||fl&&flw (byt s q))=peX s (spot s p) fl q:=by unfold peX isW;rw [show decide ((q:Int)>((spot s p:Nat):Int))=decide (spot s p<q) from by rw [decide_eq_decide];omega]
 rw [e1,e0,e2,zg s hq2,hB];rw [hX];refine Chk.mk hp fun _=>⟨fun hb=>?_,fun hb=>?_⟩
 ·have hbf:isB s q=false:=by simpa using hb
  have hl:=vw hbf;refine Chk.mk hp fun _=>CR fun _=>Chk.mk ⟨hp,by omega⟩ fun _=>Chk.mk (fun _=>by simp only [inR];omega) fun _=>Chk.mk (fun h=>⟨⟨h,h⟩,hp⟩) fun _=>Chk.mk (fun h=>by simp only [inR];omega) fun _=>Chk.mk (fun h=>⟨⟨h,h⟩,hp⟩) fun _=>⟨fun hx=>?_,fun hx=>CR fun _=>⟨⟨q+1,by omega,by omega,by rw [←pe1_t ⟨hbf,hx⟩];exact hw⟩,by simp only;omega,(by first | exact Ent.refl _ _ | (simp only [Int.natCast_add,Int.natCast_one];exact Ent.refl _ _))⟩⟩
  have hf:¬(isB s q=false∧peX s (spot s p) fl q=false):=by rw [hx];simp
  refine zl.of (ι:={q:Nat // spot s p≤q∧q≤s.length∧bkW s (spot s p) q=plE s (spot s p) fl}) (fun x=>⟨[(0,.s s),(1,.i .i64 (spot s p:Nat)),(7,.i .i64 (x.1:Nat))],[]⟩) (fun x=>x.1) ⟨q,hq1,hq2,by rw [plE,←hw,z0p hf]⟩ (by (try simp only [Int.natCast_add,Int.natCast_one]);exact Ent.nil (by simp [ze,Vg.look,SV.mapH])) ?_;rintro ⟨k,hk1,hk2,hk⟩;simp only [↓XC,X1,seval,TES,zy,zc];have e4:spot s ((k:Int)-1)=k-1:=by unfold spot;omega
  have hX:(decide ((k:Int)>(spot s p:Nat))&&(byt s (k-1)==32||byt s (k-1)==9))=decide (spot s p<k∧isW s (k-1)=true):=by rw [Bool.eq_iff_iff,Bool.and_eq_true,decide_eq_true_eq,decide_eq_true_eq,gt_iff_lt,Int.ofNat_lt];rfl
  rw [e4,hX];refine Chk.mk (fun h=>by simp only [inR];omega) fun _=>Chk.mk (fun h=>⟨⟨h,h⟩,hp⟩) fun _=>⟨fun h=>?_,fun h=>?_⟩
  ·have h1:=of_decide_eq_true h;refine CR fun _=>⟨⟨k-1,by omega,by omega,by rw [←z2y h1.1 h1.2];exact hk⟩,by simp only;omega, ?_⟩
   rw [show ((k:Int)-1)=((k-1:Nat):Int) by omega];exact Ent.refl _ _
  ·rw [←hk,z2z (of_decide_eq_false h)]
 ·have hbt:isB s q=true:=by simpa using hb
  have hf:¬(isB s q=false∧peX s (spot s p) fl q=false):=by rw [hbt];simp
  refine zl.of (ι:={q:Nat // spot s p≤q∧q≤s.length∧bkW s (spot s p) q=plE s (spot s p) fl}) (fun x=>⟨[(0,.s s),(1,.i .i64 (spot s p:Nat)),(7,.i .i64 (x.1:Nat))],[]⟩) (fun x=>x.1) ⟨q,hq1,hq2,by rw [plE,←hw,z0p hf]⟩ (by (try simp only [Int.natCast_add,Int.natCast_one]);exact Ent.nil (by simp [ze,Vg.look,SV.mapH])) ?_;rintro ⟨k,hk1,hk2,hk⟩;simp only [↓XC,X1,seval,TES,zy,zc];have e4:spot s ((k:Int)-1)=k-1:=by unfold spot;omega
  have hX:(decide ((k:Int)>(spot s p:Nat))&&(byt s (k-1)==32||byt s (k-1)==9))=decide (spot s p<k∧isW s (k-1)=true):=by rw [Bool.eq_iff_iff,Bool.and_eq_true,decide_eq_true_eq,decide_eq_true_eq,gt_iff_lt,Int.ofNat_lt];rfl
  rw [e4,hX];refine Chk.mk (fun h=>by simp only [inR];omega) fun _=>Chk.mk (fun h=>⟨⟨h,h⟩,hp⟩) fun _=>⟨fun h=>?_,fun h=>?_⟩
  ·have h1:=of_decide_eq_true h;refine CR fun _=>⟨⟨k-1,by omega,by omega,by rw [←z2y h1.1 h1.2];exact hk⟩,by simp only;omega, ?_⟩
   rw [show ((k:Int)-1)=((k-1:Nat):Int) by omega];exact Ent.refl _ _
  ·rw [←hk,z2z (of_decide_eq_false h)]
noncomputable def zd5:PE:=peR (fun (x:Bs×Int×Bool)=>match x with | (s,p,fl)=>[.s s,.i .i64 p,.b fl]) (fun (x:Bs×Int×Bool)=>match x with | (s,p,fl)=>s.length≤1048576) (fun (x:Bs×Int×Bool)=>match x with | (s,p,fl)=>.i .i64 (plE s (spot s p) fl:Nat))
theorem w8 {s:Bs} {p:Int} {fl:Bool}:zd5 [.s s,.i .i64 p,.b fl]=some (s.length≤1048576,.i .i64 (plE s (spot s p) fl:Nat)):=yg (by rintro ⟨a0,a1,a2⟩ ⟨b0,b1,b2⟩ h;simp_all []) (s,p,fl)
theorem xg:PE1 Tryz.prog 102 zd5:=yo (by rintro ⟨s,p,fl⟩ hp;exact zx8 s p fl hp)
theorem zx7 (s:Bs) (p:Int) (fl:Bool) (hp:s.length≤1048576):PF Tryz.prog 295 [.s s,.i .i64 p,.b fl] (.i .i64 (plE s (spot s p) fl:Nat)):=by
 refine HP (yl.c (xx.c (j0.c (xc.c km.d)))) 74 [[0,1,2],[0,1,2],[0,1,2,7],[0,1,2,7,15],[0,1,2,7,39],[0,1,2,7,59],[0,1,2,7],[0,1,7,70],[0,1,7],[6]] Tryz.func295 [.tmp 6] ?_;simp only [↓XC,X1,seval,TES,yn,vm,ql,yv,z8];have h0:=yh s p;refine zl.of (ι:={q:Nat // spot s p≤q∧q≤s.length∧pe1 s (spot s p) fl q=pe1 s (spot s p) fl (spot s p)}) (fun x=>⟨[(0,.s s),(1,.i .i64 (spot s p:Nat)),(2,.b fl),(7,.i .i64 (x.1:Nat))],[]⟩) (fun x=>s.length-x.1) ⟨spot s p,Nat.le_refl _,h0,rfl⟩ (Ent.refl _ _) ?_;rintro ⟨q,hq1,hq2,hw⟩;simp only [↓XC,X1,seval,TES,vm,ql,z8,yv];have e0:((q:Nat)+1:Int).toNat=q+1:=by omega
 have e2:((q:Int)-1).toNat=q-1:=by omega
 rw [show decide ((q:Int)>((spot s p:Nat):Int))=decide (spot s p<q) from by rw [decide_eq_decide];omega];rw [e0,e2];refine Chk.mk ⟨hp,by omega⟩ fun _=>⟨fun hb=>?_,fun hb=>?_⟩
 ·have hbf:isB s q=false:=by simpa using hb
  have hl:=vw hbf;rw [←zw hl];refine CO fun _=>Chk.mk (fun h=>by simp only [inR];omega) fun _=>Chk.mk (fun h=>⟨⟨h,h⟩,hp,by simp only [Yi] at h;omega⟩) fun _=>Chk.mk (fun h=>by omega) fun _=>⟨fun hx=>?_,fun hx=>?_⟩
  ·have hf:¬(isB s q=false∧peX s (spot s p) fl q=false):=by unfold peX;intro h;have h2:=h.2;cases h3:fl&&flw (byt s q)<;>cases h4:(decide (byt s q=35)&&decide (spot s p<q)&&isW s (q-1))<;>simp [h3,h4] at hx h2
   refine zl.of (ι:={q:Nat // spot s p≤q∧q≤s.length∧bkW s (spot s p) q=plE s (spot s p) fl}) (fun x=>⟨[(0,.s s),(1,.i .i64 (spot s p:Nat)),(7,.i .i64 (x.1:Nat))],[]⟩) (fun x=>x.1) ⟨q,hq1,hq2,by rw [plE,←hw,z0p hf]⟩ (by (try simp only [Int.natCast_add,Int.natCast_one]);exact Ent.nil (by simp [ze,Vg.look,SV.mapH])) ?_;rintro ⟨k,hk1,hk2,hk⟩;simp only [↓XC,X1,seval,TES,ql];have e4:((k:Int)-1).toNat=k-1:=by omega
   have hX:(decide ((k:Int)>(spot s p:Nat))&&isW s (k-1))=decide (spot s p<k∧isW s (k-1)=true):=by rw [Bool.eq_iff_iff];simp only [Bool.and_eq_true,decide_eq_true_eq,gt_iff_lt,Int.ofNat_lt]
   rw [e4,hX];refine Chk.mk (fun h=>by simp only [inR];omega) fun _=>Chk.mk (fun h=>⟨⟨h,h⟩,hp,by omega⟩) fun _=>⟨fun h=>?_,fun h=>?_⟩
   ·have h1:=of_decide_eq_true h;refine CR fun _=>⟨⟨k-1,by omega,by omega,by rw [←z2y h1.1 h1.2];exact hk⟩,by simp only;omega, ?_⟩
    rw [show ((k:Int)-1)=((k-1:Nat):Int) by omega];exact Ent.refl _ _
   ·rw [←hk,z2z (of_decide_eq_false h)]
  ·refine CO fun _=>Chk.mk (fun _=>by simp only [inR];omega) fun _=>Chk.mk (fun h=>⟨⟨h,h⟩,hp,by omega⟩) fun _=>Chk.mk (fun _=>by simp only [inR];omega) fun _=>Chk.mk (fun h=>by have:=wk (show gap s (q+1)=false by simp at h;exact h.1.2);omega) fun _=>?_;have hY:(decide (byt s q=58)&&(gap s (q+1)||fl&&flw ((s.getD (q+1) 0).toNat:Int)))=(decide (byt s q=58)&&(gap s (q+1)||fl&&flw (byt s (q+1)))):=by
    cases hg:gap s (q+1)
    ·rw [zw (wk hg)]
    ·simp
   rw [hY];have hX:peX s (spot s p) fl q=(decide (byt s q=58)&&(gap s (q+1)||fl&&flw (byt s (q+1)))):=by unfold peX;cases h3:fl&&flw (byt s q)<;>cases h4:(decide (byt s q=35)&&decide (spot s p<q)&&isW s (q-1))<;>simp [h3,h4] at hx ⊢
   rw [←hX];refine ⟨fun hy=>?_,fun hy=>CR fun _=>⟨⟨q+1,by omega,by omega,by rw [←pe1_t ⟨hbf,hy⟩];exact hw⟩,by simp only;omega,(by first | exact Ent.refl _ _ | (simp only [Int.natCast_add,Int.natCast_one];exact Ent.refl _ _))⟩⟩;have hf:¬(isB s q=false∧peX s (spot s p) fl q=false):=by rw [hy];simp
   refine zl.of (ι:={q:Nat // spot s p≤q∧q≤s.length∧bkW s (spot s p) q=plE s (spot s p) fl}) (fun x=>⟨[(0,.s s),(1,.i .i64 (spot s p:Nat)),(7,.i .i64 (x.1:Nat))],[]⟩) (fun x=>x.1) ⟨q,hq1,hq2,by rw [plE,←hw,z0p hf]⟩ (by (try simp only [Int.natCast_add,Int.natCast_one]);exact Ent.nil (by simp [ze,Vg.look,SV.mapH])) ?_;rintro ⟨k,hk1,hk2,hk⟩;simp only [↓XC,X1,seval,TES,ql];have e4:((k:Int)-1).toNat=k-1:=by omega
   have hX:(decide ((k:Int)>(spot s p:Nat))&&isW s (k-1))=decide (spot s p<k∧isW s (k-1)=true):=by rw [Bool.eq_iff_iff];simp only [Bool.and_eq_true,decide_eq_true_eq,gt_iff_lt,Int.ofNat_lt]
   rw [e4,hX];refine Chk.mk (fun h=>by simp only [inR];omega) fun _=>Chk.mk (fun h=>⟨⟨h,h⟩,hp,by omega⟩) fun _=>⟨fun h=>?_,fun h=>?_⟩
   ·have h1:=of_decide_eq_true h;refine CR fun _=>⟨⟨k-1,by omega,by omega,by rw [←z2y h1.1 h1.2];exact hk⟩,by simp only;omega, ?_⟩
    rw [show ((k:Int)-1)=((k-1:Nat):Int) by omega];exact Ent.refl _ _
   ·rw [←hk,z2z (of_decide_eq_false h)]
 ·have hbt:isB s q=true:=by simpa using hb
  have hf:¬(isB s q=false∧peX s (spot s p) fl q=false):=by rw [hbt];simp
  refine zl.of (ι:={q:Nat // spot s p≤q∧q≤s.length∧bkW s (spot s p) q=plE s (spot s p) fl}) (fun x=>⟨[(0,.s s),(1,.i .i64 (spot s p:Nat)),(7,.i .i64 (x.1:Nat))],[]⟩) (fun x=>x.1) ⟨q,hq1,hq2,by rw [plE,←hw,z0p hf]⟩ (by (try simp only [Int.natCast_add,Int.natCast_one]);exact Ent.nil (by simp [ze,Vg.look,SV.mapH])) ?_;rintro ⟨k,hk1,hk2,hk⟩;simp only [↓XC,X1,seval,TES,ql];have e4:((k:Int)-1).toNat=k-1:=by omega
  have hX:(decide ((k:Int)>(spot s p:Nat))&&isW s (k-1))=decide (spot s p<k∧isW s (k-1)=true):=by rw [Bool.eq_iff_iff];simp only [Bool.and_eq_true,decide_eq_true_eq,gt_iff_lt,Int.ofNat_lt]
  rw [e4,hX];refine Chk.mk (fun h=>by simp only [inR];omega) fun _=>Chk.mk (fun h=>⟨⟨h,h⟩,hp,by omega⟩) fun _=>⟨fun h=>?_,fun h=>?_⟩
  ·have h1:=of_decide_eq_true h;refine CR fun _=>⟨⟨k-1,by omega,by omega,by rw [←z2y h1.1 h1.2];exact hk⟩,by simp only;omega, ?_⟩
   rw [show ((k:Int)-1)=((k-1:Nat):Int) by omega];exact Ent.refl _ _
  ·rw [←hk,z2z (of_decide_eq_false h)]
noncomputable def zd4:PE:=peR (fun (x:Bs×Int×Bool)=>match x with | (s,p,fl)=>[.s s,.i .i64 p,.b fl]) (fun (x:Bs×Int×Bool)=>match x with | (s,p,fl)=>s.length≤1048576) (fun (x:Bs×Int×Bool)=>match x with | (s,p,fl)=>.i .i64 (plE s (spot s p) fl:Nat))
theorem w7 {s:Bs} {p:Int} {fl:Bool}:zd4 [.s s,.i .i64 p,.b fl]=some (s.length≤1048576,.i .i64 (plE s (spot s p) fl:Nat)):=yg (by rintro ⟨a0,a1,a2⟩ ⟨b0,b1,b2⟩ h;simp_all []) (s,p,fl)
theorem za2:PE1 Tryz.prog 295 zd4:=yo (by rintro ⟨s,p,fl⟩ hp;exact zx7 s p fl hp)
theorem zrs (s:Bs) (p:Int) (fl:Bool) (hp:s.length≤1048576):PF Tryz.prog 294 [.s s,.i .i64 p,.b fl] (.b (pfA s (spot s p) fl)):=by
 refine HP (yl.c (km.c xc.d)) 60 [[0,1,2],[0,1,2],[0,1,2,14],[6],[0,1,2,16,17,18],[0,1,2,16,17,18,19],[0,1,2,8,16,17,18],[0,1,2,16,17,18,26],[6],[0,1,2,16,17,18],[0,1,2,43],[6],[6]] Tryz.func294 [.tmp 6] ?_;simp only [↓XC,X1,seval,TES,yn,z8,yv];refine Chk.mk ⟨hp,by omega⟩ fun _=>⟨fun h=>by rw [zse h],fun hg=>?_⟩
 rw [zoq];refine cvO_of rfl (by rfl) rfl (by rfl) (by decide) ?_;simp only [putS_s,↓XC,X1,seval,TES];refine zl.of (ι:={i:Nat // i≤16∧¬s.getD (spot s p) 0∈pfL.take i}) (fun x=>⟨[(0,.s s),(1,.i .i64 (spot s p:Nat)),(2,.b fl),(16,.slc 0 0 16),(17,.i .i64 16),(18,.i .i64 (x.1:Nat))],[some (.row false 1 16 (zu j7 0 pfL))]⟩) (fun x=>16-x.1) ⟨0,Nat.zero_le _,by simp⟩ (Ent.ren1 [0] (by decide) (by simp only [Yd];exact yi fun j hj=>(qx (by rfl)).trans (zi8 (b:=pfL) (by rfl) j hj).symm) (by simp [ze,Vg.look,SV.mapH,muL])) ?_;rintro ⟨i,hi,hj⟩;simp only [↓XC,X1,seval,TES,z8,yv,XR];have h0:=yh s p;have hq:=wk hg;have e0:((spot s p:Nat)+1:Int).toNat=spot s p+1:=by omega
 rw [e0];generalize spot s p=q at *;refine ⟨fun hil=>CO fun _=>CO fun _=>CO fun _=>⟨fun he=>?_,fun he=>CR fun _=>⟨⟨i+1,by omega, ?_⟩,by simp only;omega,(Ent.ren1 [0] (by decide) (by simp only [Yd];exact za fun _=>rfl) (by simp [ze,Vg.look,SV.mapH,muL]))⟩⟩,fun hil=>?_⟩
 ·have:s.getD q 0=pfL.getD i 0:=UInt8.toNat_inj.1 (by omega);rw [pfA_no (by rw [this];exact zv4 (by show i<16;omega))]
 ·rw [zy3 0 (by show i<16;omega)];simp only [List.mem_append,List.mem_singleton,not_or];exact ⟨hj,fun e=>he (by rw [e])⟩
 ·have hn:¬s.getD q 0∈pfL:=by rw [show i=16 by omega] at hj;exact hj
  rw [←zw hq];refine CO fun _=>Chk.mk (fun _=>by omega) fun _=>Chk.mk (fun _=>by omega) fun _=>⟨fun h=>?_,fun h=>?_⟩
  ·rw [zz6 hg hn (by simpa [and_assoc] using h)]
  ·have hs:byt s q=45∨byt s q=63∨byt s q=58:=by rw [←Classical.not_not (a:=_∨_)];intro hx;simp only [not_or] at hx;simp [hx.1,hx.2.1,hx.2.2] at h
   rw [zu0 hg hn hs];refine CR fun _=>Chk.mk ⟨hp,by omega⟩ fun _=>Chk.mk (fun _=>by simp only [inR];omega) fun _=>Chk.mk (fun h=>by have:=wk (show gap s (q+1)=false by simp at h;exact h.1);omega) fun _=>?_;cases hg1:gap s (q+1)
   ·rw [zw (wk hg1)]
   ·rfl
noncomputable def zbo:PE:=peR (fun (x:Bs×Int×Bool)=>match x with | (s,p,fl)=>[.s s,.i .i64 p,.b fl]) (fun (x:Bs×Int×Bool)=>match x with | (s,p,fl)=>s.length≤1048576) (fun (x:Bs×Int×Bool)=>match x with | (s,p,fl)=>.b (pfA s (spot s p) fl))
theorem wj {s:Bs} {p:Int} {fl:Bool}:zbo [.s s,.i .i64 p,.b fl]=some (s.length≤1048576,.b (pfA s (spot s p) fl)):=yg (by rintro ⟨a0,a1,a2⟩ ⟨b0,b1,b2⟩ h;simp_all []) (s,p,fl)
theorem vl:PE1 Tryz.prog 294 zbo:=yo (by rintro ⟨s,p,fl⟩ hp;exact zrs s p fl hp)
end Go.T
end
