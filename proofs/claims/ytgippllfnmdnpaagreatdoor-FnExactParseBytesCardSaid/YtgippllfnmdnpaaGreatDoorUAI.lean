/- Regions whose order is drawn: what only reads is taken first; what writes zr1 for it, or writes elsewhere. -/
import Derived.Test.YtgippllfnmdnpaaGreatDoorUAH
import Derived.OrdersHeld
set_option linter.all false
section
namespace Go.Vg
variable [Go.Vg.Glob]
open Go.RowKit
section
variable {P:Program} {ops:Array Oper} {Q:Exit→Act→World→Prop}
/-- What is known of the world: 'S0' as long as no writer has come up,'S1' all the while. -/
def Sat2 (wrs:List Nat) (S0 S1:World→Prop) (listed:Array Bool) (w:World):Prop:=
 ((∀ j∈wrs,listed.getD j false=false)→S0 w)∧S1 w
def wpAnyL (P:Program) (ops:Array Oper) (Q:Exit→Act→World→Prop) (wrs:List Nat) (S0 S1:World→Prop):Nat→Array Bool→Act→World→Prop
 | 0,listed,a,w=>Region.ready .any ops listed=[]∧Q .normal a w
 | fuel+1,listed,a,w=>
  (Region.ready .any ops listed=[]→Q .normal a w) ∧
  ∀ i∈Region.ready .any ops listed,wpOp P ops Q i (fun a' w'=>Sat2 wrs S0 S1 (listed.setIfInBounds i true) w'∧wpAnyL P ops Q wrs S0 S1 fuel (listed.setIfInBounds i true) a' w') a w
theorem ze2 {wrs:List Nat} {S0 S1:World→Prop}:∀ (fuel:Nat) (listed:Array Bool) (a:Act) (w:World),wpAnyL P ops Q wrs S0 S1 fuel listed a w→wpAny P .any ops Q fuel listed a w
 | 0,_,_,_,h=>h
 | fuel+1,_,_,_,h=>⟨h.1,fun i hi=>wpOp_mono (fun a' w' h'=>ze2 fuel _ a' w' h'.2) (h.2 i hi)⟩
theorem wi {listed:Array Bool} {i j:Nat} (d:Bool) (h:i≠j):(listed.setIfInBounds i true).getD j d=listed.getD j d:=Go.getD_set_ne d h
theorem zbc {wrs:List Nat} {S0 S1 Sx:World→Prop} (ok:Array Bool→Prop) {i:Nat} {oi:Oper} {v:Value} (hi:ops[i]?=some oi) (hiw:i ∉ wrs)
  (hsel:∀ (j:Nat) (o:Oper) cs b,ops[j]?=some o→o.op≠.select cs b)
  (hQ:∀ c a w,Q (.panic c) (a.put oi.dst v) w→Q (.panic c) a w)
  (hS:∀ listed w,ok listed→Sat2 wrs S0 S1 listed w→Sx w)
  (hstep:∀ listed j,ok listed→listed.getD i true=false→j∈Region.ready .any ops listed→j≠i→ok (listed.setIfInBounds j true)) :
  ∀ (fuel:Nat) (listed:Array Bool) (a:Act) (w:World),
   (∀ j oj,ops[j]?=some oj→j≠i→listed.getD j true=false→(∀ e∈oj.after,Region.binds .any e=true→e.on≠i)→oi.apart ops oj=true) →
   i∈Region.ready .any ops listed→ok listed→YieldsIf P ops Sx oi v a→Sat2 wrs S0 S1 listed w →
   wpAnyL P ops Q wrs S0 S1 fuel (listed.setIfInBounds i true) (a.put oi.dst v) w→wpAnyL P ops Q wrs S0 S1 (fuel+1) listed a w:=by
 have sat_i:∀ listed w,Sat2 wrs S0 S1 (listed.setIfInBounds i true) w↔Sat2 wrs S0 S1 listed w:=by
  intro listed w;unfold Sat2;have:(∀ j∈wrs,(listed.setIfInBounds i true).getD j false=false)↔(∀ j∈wrs,listed.getD j false=false):=by
   constructor
   ·intro h j hj;have:=h j hj;rwa [wi false (show i≠j from fun e=>hiw (by rw [e];exact hj))] at this
   ·intro h j hj;rw [wi false (show i≠j from fun e=>hiw (by rw [e];exact hj))];exact h j hj
  rw [this]
 intro fuel
 induction fuel with
 | zero=>
  intro listed a w _ hr hok hy hs H;refine ⟨fun h=>(by rw [h] at hr;cases hr),fun j hj=>?_⟩;by_cases hji:j=i
  ·subst hji;exact hy.wpOp hi (hS _ _ hok hs) ⟨(sat_i _ _).2 hs,H⟩
  ·have:=ready_mono hj hji;rw [H.1] at this;cases this
 | succ fuel ih=>
  intro listed a w hfree hr hok hy hs H;refine ⟨fun h=>(by rw [h] at hr;cases hr),fun j hj=>?_⟩;by_cases hji:j=i
  ·subst hji;exact hy.wpOp hi (hS _ _ hok hs) ⟨(sat_i _ _).2 hs,H⟩
  ·have h1:=H.2 j (ready_mono hj hji);obtain ⟨hjun,oj,hoj,hall⟩:=mem_ready.1 hj;have hiun:=(mem_ready.1 hr).1;have hnot:∀ e∈oj.after,Region.binds .any e=true→e.on≠i:=fun e he hb heq=>by
    have h1:=hall e he hb;rw [heq] at h1;rcases Nat.lt_or_ge i listed.size with h' | h'
    ·simp [h'] at hiun h1;rw [hiun] at h1;cases h1
    ·simp [Array.getElem?_eq_none h'] at h1
   have h2:=wpOp_putIf hoj (hfree j oj hoj hji hjun hnot) (fun cs b=>hsel i oi cs b hi) (fun cs b=>hsel j oj cs b hoj) hQ hy h1;have hfree':∀ k ok,ops[k]?=some ok→k≠i→(listed.setIfInBounds j true).getD k true=false →
     (∀ e∈ok.after,Region.binds .any e=true→e.on≠i)→oi.apart ops ok=true:=fun k ok hk hki hun hno=>by
    refine hfree k ok hk hki ?_ hno;by_cases hjk:j=k
    ·subst hjk;exact hjun
    ·rwa [wi true hjk] at hun
   have hok':=hstep listed j hok hiun hj hji;refine wpOp_mono (fun a' w' h3=>?_) h2;obtain ⟨hy',hs',h4⟩:=h3;have e:(listed.setIfInBounds i true).setIfInBounds j true=(listed.setIfInBounds j true).setIfInBounds i true:=(Array.setIfInBounds_comm _ _ hji).symm;have hs'':Sat2 wrs S0 S1 (listed.setIfInBounds j true) w':=by rw [e] at hs';exact (sat_i _ _).1 hs'
   refine ⟨hs'',ih (listed.setIfInBounds j true) a' w' hfree' (ready_mono hr (Ne.symm hji)) hok' hy' hs'' ?_⟩;rw [←e];exact h4
theorem zc7 {wrs:List Nat} {S0 S1:World→Prop} {i fuel:Nat} {listed:Array Bool} {a:Act} {w:World} (hr:Region.ready .any ops listed=[i])
  (h:wpOp P ops Q i (fun a' w'=>Sat2 wrs S0 S1 (listed.setIfInBounds i true) w'∧wpAnyL P ops Q wrs S0 S1 fuel (listed.setIfInBounds i true) a' w') a w):wpAnyL P ops Q wrs S0 S1 (fuel+1) listed a w:=by
 refine ⟨fun h0=>(by rw [h0] at hr;cases hr),fun j hj=>?_⟩;rw [hr] at hj;simp at hj;subst hj;exact h
theorem zhu {wrs:List Nat} {S0 S1:World→Prop} {listed:Array Bool} {a:Act} {w:World} (hr:Region.ready .any ops listed=[]) (h:Q .normal a w):∀ fuel,wpAnyL P ops Q wrs S0 S1 fuel listed a w
 | 0=>⟨hr,h⟩
 | _+1=>⟨fun _=>h,by rw [hr];simp⟩
end
/-! What a quiet operation comes to. -/
def xf (te:TE) (o:Op):Bool:=match o with
 | .load _ _=>true
 | o=>y5 te o==0
theorem zsv {te:TE} {c:Bool} {st:St} {t:TypeId} {x:Operand} {K:SV→Prop} (h:zne te c st (.load t x) K):∀ q∈j3 (st.ev x),(st.ctx.at q).isSome=true:=by
 simp only [zne] at h;unfold ung at h;split at h
 ·rename_i g v hv;obtain ⟨_,h2⟩:=h.out;split at h2
  ·split at h2
   ·rename_i ho _;rw [hv];intro q hq;simp only [j3,List.mem_singleton] at hq;subst hq;rw [ho];rfl
   ·exact h2.elim
  ·rw [hv];intro q hq;simp [j3] at hq
  ·exact h2.elim
 ·rename_i hne;split at h
  ·rename_i hv;split at h
   ·rename_i ho _;rw [hv];intro q hq;simp only [j3,List.mem_singleton] at hq;subst hq;rw [ho];rfl
   ·exact h.elim
  ·rename_i hv;rw [hv];intro q hq;simp [j3] at hq
  ·exact h.elim
theorem zm8 {P:Program} {te:TE} (hte:vh P te) {wr:Bool} {pt:PT} {A:Amb} {σ:Asg} {st:St} {a:Act} {w:World} (hR:Rel A σ st a w) {g c:Bool} (hgc:g=false→c=true) {o:Oper} (hq:xf te o.op=true) {K:St→Prop}
  (h:zoi P te wr A.nt pt g c st o K) {Sx:World→Prop} (hS:∀ w',Sx w'→∀ h L,(st.ctx.at h).isSome=true→σ h=some L→w'.heap[L.b]?=w.heap[L.b]?) (hF:∀ w',Sx w'→∀ b o,σ.fz b=some o→w'.heap[b]?=some o) :
  (c=true→∃ v st',K st'∧(∀ w',Sx w'→(execOp a.eval o).run P w'=.ok (.value v) w')∧Rel A σ st' (a.put o.dst v) w)∧(c=false→∃ st',K st'∧Rel A σ st' (a.put o.dst undef) w):=by
 by_cases hl:y5 te o.op=0
 ·unfold zoi at h;rw [hl] at h;simp only at h;obtain ⟨z,hz,hv⟩:=zc6 hte hR h;obtain ⟨p1,p2⟩:=zjh hR hz hgc;refine ⟨fun hc=>?_,fun hc=>p2 hc⟩;obtain ⟨v,hr,hrun⟩:=hv hc;obtain ⟨st',k1,k2⟩:=p1 v hc hr;exact ⟨v,st',k1,fun w' _=>hrun w',k2⟩
 ·obtain ⟨dst,op,ty,pos,after,gd⟩:=o;cases op<;>simp only [xf,beq_iff_eq] at hq<;>first | exact absurd hq hl | skip
  rename_i t x;have h':zne te c st (.load t x) fun z=>zoo A.nt st dst (if g then zj1 c z else z) K:=h;have hh:=zsv h';obtain ⟨z,hz,hv⟩:=zhs (o:=⟨dst,.load t x,ty,pos,after,gd⟩) hte hR h';obtain ⟨p1,p2⟩:=zjh (o:=⟨dst,.load t x,ty,pos,after,gd⟩) hR hz hgc;refine ⟨fun hc=>?_,fun hc=>p2 hc⟩;obtain ⟨v,hr,hrun⟩:=hv hc;obtain ⟨st',k1,k2⟩:=p1 v hc hr;exact ⟨v,st',k1,fun w' hw'=>hrun w' (fun q hq L hL=>hS w' hw' q L (hh q hq) hL) (hF w' hw'),k2⟩
theorem zju {P:Program} {te:TE} (hte:vh P te) {wr:Bool} {pt:PT} {ops:Array Oper} {A:Amb} {σ:Asg} {st:St} {a:Act} {w:World} (hR:Rel A σ st a w) {o:Oper} (hq:xf te o.op=true) {K:St→Prop}
  (h:zbb P te wr A.nt pt false ops st o K) {Sx:World→Prop} (hS:∀ w',Sx w'→∀ h L,(st.ctx.at h).isSome=true→σ h=some L→w'.heap[L.b]?=w.heap[L.b]?) (hF:∀ w',Sx w'→∀ b o,σ.fz b=some o→w'.heap[b]?=some o) :
  ∃ v st',K st'∧YieldsIf P ops Sx o v a∧Rel A σ st' (a.put o.dst v) w:=by
 unfold zbb at h;split at h
 ·rename_i hg;obtain ⟨v,st',k1,k2,k3⟩:=(zm8 hte hR (fun _=>rfl) hq h hS hF).1 rfl;exact ⟨v,st',k1,.inl ⟨by simp [Region.wanted,hg],k2⟩,k3⟩
 ·rename_i j want hg;split at h
  ·exact h.elim
  ·rename_i d hd;obtain ⟨c,h,hc⟩:=zb0 hR.env hd h;have hw:Region.wanted o (yielded ops a.tmps)=c:=by simp only [Region.wanted,hg,hc]
   simp only [Bool.false_eq_true,if_false] at h;obtain ⟨q1,q2⟩:=zm8 hte hR (g:=true) (fun h=>by cases h) hq h hS hF;cases c with
   | true=>
    obtain ⟨v,st',k1,k2,k3⟩:=q1 rfl;exact ⟨v,st',k1,.inl ⟨hw,k2⟩,k3⟩
   | false=>obtain ⟨st',k1,k3⟩:=q2 rfl;exact ⟨undef,st',k1,.inr ⟨hw,rfl⟩,k3⟩
end Go.Vg
end
section
namespace Go.Vg
variable [Go.Vg.Glob]
open Go.RowKit
def zqo:SO→Option SO
 | .row _ z n f=>some (.row true z n f)
 | .blk _ cs=>some (.blk true cs)
 | _=>none
def freeze (W:List Nat):Nat→Ctx→Ctx
 | _,[]=>[]
 | i,o::r=>(if W.contains i then o else o.bind zqo)::freeze W (i+1) r
def u9 (W:List Nat):Nat→Ctx→Ctx→Ctx
 | i,o0::r0,o::r=>(if W.contains i=false∧o0.isSome=true then o else none)::u9 W (i+1) r0 r
 | _,_,r=>r.map fun _=>none
def zon (W:List Nat):Nat→Ctx→Ctx→Ctx
 | i,o0::r0,o::r=>(if W.contains i then o else o0)::zon W (i+1) r0 r
 | _,_,r=>r
theorem ju (W:List Nat):∀ (i:Nat) (c:Ctx),(freeze W i c).length=c.length
 | _,[]=>rfl
 | i,o::r=>by simp [freeze,ju W (i+1) r]
theorem zbv (W:List Nat):∀ (i:Nat) (c0 c:Ctx),(u9 W i c0 c).length=c.length
 | i,o0::r0,o::r=>by simp [u9,zbv W (i+1) r0 r]
 | _,[],r=>by simp [u9]
 | _,_::_,[]=>by simp [u9]
theorem zc8 (W:List Nat):∀ (i:Nat) (c0 c:Ctx),(zon W i c0 c).length=c.length
 | i,o0::r0,o::r=>by simp [zon,zc8 W (i+1) r0 r]
 | _,[],r=>by simp [zon]
 | _,_::_,[]=>by simp [zon]
theorem at_nil (h:Nat):Ctx.at [] h=none:=by simp [Ctx.at]
theorem zjj (W:List Nat):∀ (c:Ctx) (i h:Nat),Ctx.at (freeze W i c) h=if W.contains (i+h) then Ctx.at c h else (Ctx.at c h).bind zqo
 | [],i,h=>by simp [freeze,at_nil]
 | o::r,i,0=>by simp only [freeze,zq,Nat.add_zero]
 | o::r,i,h+1=>by simp only [freeze,zo];rw [zjj W r (i+1) h,show i+1+h=i+(h+1) from by omega]
theorem zar {W:List Nat}:∀ {c0 c:Ctx} {i h:Nat} {o:SO},Ctx.at (u9 W i c0 c) h=some o→W.contains (i+h)=false∧(Ctx.at c0 h).isSome=true∧Ctx.at c h=some o
 | o0::r0,o'::r,i,0,o,e=>by
  simp only [u9,zq] at e ⊢;split at e
  ·rename_i hh;exact ⟨by simpa using hh.1,hh.2,e⟩
  ·cases e
 | o0::r0,o'::r,i,h+1,o,e=>by
  simp only [u9,zo] at e ⊢;have:=zar (i:=i+1) e;rwa [show i+1+h=i+(h+1) from by omega] at this
 | [],r,i,h,o,e=>by
  simp only [u9,Ctx.at,List.getD_eq_getElem?_getD,List.getElem?_map] at e;cases hr:r[h]?<;>simp [hr] at e
 | _::_,[],i,h,o,e=>by simp [u9,at_nil] at e
theorem zy0 (W:List Nat):∀ (c0 c:Ctx) (i h:Nat),c0.length≤c.length→Ctx.at (zon W i c0 c) h=if h<c0.length∧W.contains (i+h)=false then Ctx.at c0 h else Ctx.at c h
 | o0::r0,o::r,i,0,hl=>by
  simp only [zon,zq,Nat.add_zero,List.length_cons];by_cases hw:W.contains i
  ·rw [if_pos hw,if_neg (by rintro ⟨_,h⟩;rw [hw] at h;cases h)]
  ·rw [if_neg hw,if_pos ⟨by omega,by simpa using hw⟩]
 | o0::r0,o::r,i,h+1,hl=>by
  simp only [zon,zo];rw [zy0 W r0 r (i+1) h (by simpa using hl),show i+1+h=i+(h+1) from by omega];simp only [List.length_cons,Nat.add_lt_add_iff_right]
 | [],r,i,h,hl=>by simp [zon]
 | _::_,[],i,h,hl=>by simp at hl
theorem ziz {σ:Asg} {w:World} {h:Nat} {o o':SO} (e:zqo o=some o') (hs:qc σ w h o):qc σ w h o'∧o'.ro=true:=by
 cases o<;>simp only [zqo,Option.some.injEq,reduceCtorEq] at e
 all_goals
  subst e;refine ⟨?_,rfl⟩;unfold qc at hs ⊢;simp only [SO.isMap] at hs ⊢;rcases hs with hs | ⟨L,c,e,fr,h1,h2⟩
  ·exact .inl hs
  ·exact .inr ⟨L,c,e,fr,h1,h2.heap,h2.lsz,h2.room,h2.fits,h2.cell,fun h=>by cases h⟩
/-- A schedule: taken first while nothing has been written ('B': who zr1 for it);taken first;from here on there may be writing;one of those that are ready (and what then),or another. -/
inductive Sc where
 | fin
 | q0 (i:Nat) (B:List Nat) (r:Sc)
 | q1 (i:Nat) (r:Sc)
 | sw (r:Sc)
 | alt (i:Nat) (r o:Sc)
 | seq (is:List Nat)
def ul:Sc→List Nat
 | .alt i _ o=>i::ul o
 | _=>[]
def unl (listed:Array Bool) (i:Nat):Bool:=!listed.getD i true
def zr1 (ops:Array Oper) (B:List Nat) (b:Nat):Bool:=match ops[b]? with
 | some o=>o.after.any fun e=>Region.binds .any e&&B.contains e.on
 | none=>false
def zci (ops:Array Oper) (wrs:List Nat):Bool→Bool→Sc→Array Bool→Bool
 | hd,_,.fin,listed=>!hd||(Region.ready .any ops listed).isEmpty
 | hd,ph,.q0 i B r,listed=>hd&&!ph&&Region.free .any ops listed i&&(Region.ready .any ops listed).contains i&&!wrs.contains i&&wrs.all B.contains&&B.all (fun b=>b==i||zr1 ops B b)&&B.all (unl listed)&&B.contains i&&zci ops wrs true ph r (listed.setIfInBounds i true)
 | hd,ph,.q1 i r,listed=>hd&&Region.free .any ops listed i&&(Region.ready .any ops listed).contains i&&!wrs.contains i&&zci ops wrs true ph r (listed.setIfInBounds i true)
 | hd,ph,.alt i r o,listed=>(!hd||(Region.ready .any ops listed==i::ul o))&&(Region.ready .any ops listed).contains i&&(ph==wrs.contains i)&&zci ops wrs true ph r (listed.setIfInBounds i true)&&zci ops wrs false ph o listed
 | hd,_,.sw r,listed=>hd&&zci ops wrs true true r listed
 | _,_,.seq _,_=>false
def cnt:Sc→Nat
 | .fin=>0
 | .sw r=>cnt r
 | .q0 _ _ r=>cnt r+1
 | .q1 _ r=>cnt r+1
 | .alt _ r o=>max (cnt r+1) (cnt o)
 | .seq is=>is.length
/-- The table zt2 a drawn region: all objects stay where they lie,nothing is frozen anew. -/
def PT.in (pt:PT) (n:Nat):PT:=⟨pt.l,n,false⟩
def XQ (P:Program) (te:TE) (wr:Bool) (nt:Nat) (pt:PT) (ops:Array Oper) (W:List Nat) (ctx0:Ctx) (o:Oper) (K:St→Prop) (st:St):Prop:=
 xf te o.op=true∧zbb P te wr nt (pt.in ctx0.length) false ops ⟨st.env,u9 W 0 ctx0 st.ctx⟩ o fun s=>K ⟨s.env,st.ctx⟩
def XD (P:Program) (te:TE) (wr:Bool) (nt:Nat) (pt:PT) (ops:Array Oper) (W:List Nat) (ctx0:Ctx) (K:St→Prop):Bool→Bool→Sc→St→Prop
 | true,ph,.fin,st=>z6 ctx0.length st.ctx∧K ⟨st.env,zon (if ph then W else []) 0 ctx0 st.ctx⟩
 | false,_,.fin,_=>True
 | _,ph,.q0 i _ r,st=>match ops[i]? with
  | some o=>XQ P te wr nt pt ops [] ctx0 o (XD P te wr nt pt ops W ctx0 K true ph r) st
  | none=>False
 | _,ph,.q1 i r,st=>match ops[i]? with
  | some o=>XQ P te wr nt pt ops W ctx0 o (XD P te wr nt pt ops W ctx0 K true ph r) st
  | none=>False
 | _,ph,.alt i r q,st=>(match ops[i]? with
  | some o=>zbb P te wr nt (pt.in ctx0.length) false ops st o (XD P te wr nt pt ops W ctx0 K true ph r)
  | none=>False)∧XD P te wr nt pt ops W ctx0 K false ph q st
 | _,ph,.sw r,st=>ph=false∧z6 ctx0.length st.ctx∧(W.all fun h=>match ctx0.at h with | some o=>!o.ro | none=>false)=true ∧
   XD P te wr nt pt ops W ctx0 K true true r ⟨st.env,freeze W 0 ctx0++st.ctx.drop ctx0.length⟩
 | _,_,.seq _,_=>False
/-- Blocks of the objects that may be written. -/
def wB (W:List Nat) (c0:Ctx) (σ:Asg) (b:Nat):Prop:=∃ h o L,W.contains h=true∧c0.at h=some o∧o.ro=false∧σ h=some L∧L.b=b
def ambR (W:List Nat) (c0:Ctx) (σ:Asg) (w:World) (nt:Nat) (ph:Bool):Amb:=⟨w,fun b=>ph=true∧wB W c0 σ b,σ,c0.length,nt,false⟩
theorem zqk {σ:Asg} {w:World} {W:List Nat} {ctx:Ctx} {ph:Bool} {σ':Asg} {s:St} {nt:Nat} {a':Act} {w':World} (hS:Rel (ambR W ctx σ w nt ph) σ' s a' w') {b:Nat} {o:Obj} (h:σ'.fz b=some o):σ.fz b=some o:=by
 rcases hS.base.fzn b o h with h | ⟨h,_⟩
 ·exact h
 ·cases h
section
variable {A:Amb} {σ:Asg} {st:St} {a:Act} {w:World} (hR:Rel A σ st a w) (W:List Nat)
include hR
theorem Rel.frozen:Rel (ambR W st.ctx σ w A.nt false) σ ⟨st.env,freeze [] 0 st.ctx⟩ a w:=by
 have key:∀ h o,Ctx.at (freeze [] 0 st.ctx) h=some o→∃ o',st.ctx.at h=some o'∧zqo o'=some o:=by
  intro h o e;rw [zjj] at e;simp only [List.contains_nil,Bool.false_eq_true,if_false] at e;cases hh:st.ctx.at h with
  | none=>rw [hh] at e;cases e
  | some o'=>rw [hh] at e;exact ⟨o',rfl,e⟩
 have ro:∀ h o,Ctx.at (freeze [] 0 st.ctx) h=some o→o.ro=true:=by intro h o e;obtain ⟨o',h1,h2⟩:=key h o e;exact (ziz h2 (hR.sat.obj h o' h1)).2
 refine ⟨hR.defers,hR.size,hR.env,⟨fun h o e=>?_,fun h h' o o' L L' _ e1 _ hro _ _=>?_,fun h hh=>hR.sat.beyond h (by simpa [ju] using hh),hR.sat.inHeap,hR.sat.frz,fun h o L e hro _=>(by rw [ro h o e] at hro;cases hro),hR.sat.glb⟩,Fr.refl _ _,fun h o L e hro _=>?_,⟨fun _ _=>rfl,fun _ _ h=>h,fun _ _ h=>.inl h⟩, ?_⟩
 ·obtain ⟨o',h1,h2⟩:=key h o e;exact (ziz h2 (hR.sat.obj h o' h1)).1
 ·rw [ro h o e1] at hro;cases hro
 ·rw [ro h o e] at hro;cases hro
 ·simp [ambR,ju]
theorem frz_lt {b:Nat} {o:Obj} (h:σ.fz b=some o):b<w.heap.size:=by
 have:=hR.sat.frz b o h;rcases Nat.lt_or_ge b w.heap.size with h' | h'
 ·exact h'
 ·rw [Array.getElem?_eq_none h'] at this;cases this
theorem not_wB {b:Nat} {o:Obj} (h:σ.fz b=some o):¬wB W st.ctx σ b:=by rintro ⟨h2,o2,L2,k1,k2,k3,k4,rfl⟩;rw [hR.sat.frzA h2 o2 L2 k2 k3 k4] at h;cases h
theorem zt3 {h:Nat} {o:SO} {L:Loc} (hw:W.contains h=false) (ho:st.ctx.at h=some o) (hL:σ h=some L):¬wB W st.ctx σ L.b:=by
 rintro ⟨h2,o2,L2,k1,k2,k3,k4,k5⟩;have hne:h2≠h:=by intro e;subst e;rw [k1] at hw;cases hw
 exact hR.sat.apart h2 h o2 o L2 L hne k2 ho k3 k4 hL k5
theorem zvx {σ':Asg} (hb:∀ h,h<st.ctx.length→σ' h=σ h) (hf:∀ b o,σ.fz b=some o→σ'.fz b=some o):leA σ σ':=by
 refine ⟨fun h L hL=>?_,hf⟩;have:h<st.ctx.length:=by
  rcases Nat.lt_or_ge h st.ctx.length with h' | h'
  ·exact h'
  ·rw [hR.sat.beyond h h'] at hL;cases hL
 rw [hb h this,hL]
theorem Rel.switched {σ':Asg} {s:St} {a':Act} {w':World} (hS:Rel (ambR W st.ctx σ w A.nt false) σ' s a' w') (hn:z6 st.ctx.length s.ctx) :
  Rel (ambR W st.ctx σ w A.nt true) σ' ⟨s.env,freeze W 0 st.ctx++s.ctx.drop st.ctx.length⟩ a' w':=by
 have hbase:∀ h,h<st.ctx.length→σ' h=σ h:=hS.base.loc;have hle:=zvx hR hbase hS.base.fzb;have hlen:st.ctx.length≤s.ctx.length:=hS.klen;have hat:∀ h,Ctx.at (freeze W 0 st.ctx++s.ctx.drop st.ctx.length) h=if h<st.ctx.length then Ctx.at (freeze W 0 st.ctx) h else Ctx.at s.ctx h:=by
  intro h;rw [z27,ju];split
  ·rfl
  ·simp only [Ctx.at,List.getD_eq_getElem?_getD,List.getElem?_drop];rw [show st.ctx.length+(h-st.ctx.length)=h from by omega]
 have old:∀ h o,h<st.ctx.length→Ctx.at (freeze W 0 st.ctx) h=some o→∃ o',st.ctx.at h=some o'∧qc σ' w' h o∧(o.ro=false→W.contains h=true∧o'.ro=false):=by
  intro h o hh e;rw [zjj,Nat.zero_add] at e;have stay:∀ o',st.ctx.at h=some o'→qc σ' w' h o':=fun o' ho' =>
   jj hle (hbase h hh) (fun L hL=>hS.fr.block _ (hR.sat.inHeap h L hL) (by rintro ⟨h,_⟩;cases h)) (hR.sat.obj h o' ho')
  split at e
  ·rename_i hw;exact ⟨o,e,stay o e,fun hro=>⟨hw,hro⟩⟩
  ·cases hh':st.ctx.at h with
   | none=>rw [hh'] at e;cases e
   | some o' =>rw [hh'] at e;have:=ziz e (stay o' hh');exact ⟨o',rfl,this.1,fun hro=>by rw [this.2] at hro;cases hro⟩
 have new:∀ h o L,st.ctx.length≤h→s.ctx.at h=some o→σ' h=some L→w.heap.size≤L.b:=by
  intro h o L hh e hL;rcases hS.own h o L e (hn.get hh e) hL with ⟨hx,_⟩ | hx
  ·cases hx
  ·exact hx
 have lt:∀ h L,h<st.ctx.length→σ' h=some L→L.b<w.heap.size:=fun h L hh hL=>hR.sat.inHeap h L (by rw [←hbase h hh];exact hL);refine ⟨hS.defers,hS.size,hS.env,⟨fun h o e=>?_,fun h h' o o' L L' hne e1 e2 hro s1 s2=>?_,fun h hh=>?_,hS.sat.inHeap,hS.sat.frz,fun h o L e hro hL=>?_,hS.sat.glb⟩,hS.fr.mono (fun b _ hx=>(by cases hx.1)),fun h o L e hro hL=>?_,⟨hS.base.loc,hS.base.fzb,fun b o h=>.inl (zqk hS h)⟩, ?_⟩
 ·have e':Ctx.at (freeze W 0 st.ctx++s.ctx.drop st.ctx.length) h=some o:=e;rw [hat] at e';split at e'
  ·rename_i hh;exact (old h o hh e').choose_spec.2.1
  ·exact hS.sat.obj h o e'
 ·have e1':Ctx.at (freeze W 0 st.ctx++s.ctx.drop st.ctx.length) h=some o:=e1;have e2':Ctx.at (freeze W 0 st.ctx++s.ctx.drop st.ctx.length) h'=some o':=e2;rw [hat] at e1' e2';split at e1'
  ·rename_i hh;obtain ⟨q,q1,q2,q3⟩:=old h o hh e1';obtain ⟨q3,q4⟩:=q3 hro;split at e2'
   ·rename_i hh';obtain ⟨q',q1',_,_⟩:=old h' o' hh' e2';exact hR.sat.apart h h' q q' L L' hne q1 q1' q4 (by rw [←hbase h hh];exact s1) (by rw [←hbase h' hh'];exact s2)
   ·rename_i hh';have:=new h' o' L' (by omega) e2' s2;have:=lt h L hh s1;omega
  ·rename_i hh;split at e2'
   ·rename_i hh';have:=new h o L (by omega) e1' s1;have:=lt h' L' hh' s2;omega
   ·exact hS.sat.apart h h' o o' L L' hne e1' e2' hro s1 s2
 ·refine hS.sat.beyond h ?_;have h2:(freeze W 0 st.ctx++s.ctx.drop st.ctx.length).length≤h:=hh;simp only [List.length_append,ju,List.length_drop] at h2;show s.ctx.length≤h;omega
 ·have e':Ctx.at (freeze W 0 st.ctx++s.ctx.drop st.ctx.length) h=some o:=e;rw [hat] at e';split at e'
  ·rename_i hh;obtain ⟨q,q1,q2,q3⟩:=old h o hh e';obtain ⟨q3,q4⟩:=q3 hro;cases hz:σ'.fz L.b with
   | none=>rfl
   | some x=>have:=zqk hS hz;rw [hR.sat.frzA h q L q1 q4 (by rw [←hbase h hh];exact hL)] at this;cases this
  ·exact hS.sat.frzA h o L e' hro hL
 ·have e':Ctx.at (freeze W 0 st.ctx++s.ctx.drop st.ctx.length) h=some o:=e;rw [hat] at e';split at e'
  ·rename_i hh;obtain ⟨q,q1,q2,q3⟩:=old h o hh e';obtain ⟨q3,q4⟩:=q3 hro;exact .inl ⟨rfl,h,q,L,q3,q1,q4,by rw [←hbase h hh];exact hL,rfl⟩
  ·rename_i hh;exact .inr (new h o L (by omega) e' hL)
 ·show st.ctx.length≤(freeze W 0 st.ctx++_).length;simp [ju]
end
end Go.Vg
end
