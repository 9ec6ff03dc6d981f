/- Maps, as an object that comes along. -/
import Derived.Test.YtgippllfnmdnpaaGreatDoorRAK
import Derived.Test.YtgippllfnmdnpaaGreatDoorRAP
import Derived.Test.YtgippllfnmdnpaaGreatDoorRAS
set_option linter.unusedVariables false
set_option linter.unusedSimpArgs false
set_option linter.unusedSectionVars false
set_option linter.unnecessarySimpa false
namespace Go.Vg
variable [Go.Vg.Glob]
open Go.Pl
theorem zi {μ:Nat→Nat} {l:List (List UInt8×Int)}:soLe μ (.mapS l) (.mapS l):=⟨id,rfl,rfl,Nat.le_refl _,rfl,fun i hi=>absurd hi (Nat.not_lt_zero _)⟩
theorem ziy {α:Type} [DecidableEq α] (v:Int):∀ (l:List (α×Int)) (k k':α),lookS (x9 l k v) k'=if k=k' then some v else lookS l k'
 | [],k,k'=>rfl
 | p::r,k,k'=>by
  simp only [x9]
  by_cases h:p.1=k
  ·rw [if_pos h]
   simp only [lookS]
   by_cases h2:k=k'
   ·rw [if_pos h2,if_pos h2]
   ·rw [if_neg h2,if_neg h2,if_neg (by rw [h];exact h2)]
  ·rw [if_neg h]
   simp only [lookS,ziy v r k k']
   by_cases h2:p.1=k'
   ·rw [if_pos h2,if_pos h2,if_neg (by rw [←h2];exact fun e=>h e.symm)]
   ·rw [if_neg h2,if_neg h2]
/-- The map zc2 the last place of each anchor. -/
def zo2 (l:List Ev) (i:Nat) (m:List (List UInt8×Int)):Prop:=∀ t,lookS m t=if wg l t i<0 then none else some (wg l t i)
theorem ztj {l:List Ev}:zo2 l 0 []:=fun t=>by simp [lookS,wg]
theorem zwq {l:List Ev} {i:Nat} (h:(l.getD i evz).kind=2):zo2 l (i+1) []:=fun t=>by
 have e:wg l t (i+1) = -1:=by simp only [wg];rw [if_pos h]
 rw [e];rfl
theorem zwp {l:List Ev} {i:Nat} {m:List (List UInt8×Int)} (hm:zo2 l i m) (h2:(l.getD i evz).kind≠2) (h6:(l.getD i evz).kind≠6) (ha:(l.getD i evz).anchor≠[]):zo2 l (i+1) (x9 m (l.getD i evz).anchor i):=fun t=>by
 rw [ziy]
 by_cases h:(l.getD i evz).anchor=t
 ·have e:wg l t (i+1)=i:=by simp only [wg];rw [if_neg h2,if_pos ⟨h6,ha,h⟩]
  rw [if_pos h,e,if_neg (by omega)]
 ·have e:wg l t (i+1)=wg l t i:=by simp only [wg];rw [if_neg h2,if_neg (fun h9=>h h9.2.2)]
  rw [if_neg h,e,hm t]
theorem ziv {l:List Ev} {i:Nat} {m:List (List UInt8×Int)} (hm:zo2 l i m) (h2:(l.getD i evz).kind≠2) (h:(l.getD i evz).kind=6∨(l.getD i evz).anchor=[]):zo2 l (i+1) m:=fun t=>by
 have e:wg l t (i+1)=wg l t i:=by simp only [wg];rw [if_neg h2,if_neg (fun h9=>by rcases h with h | h;exact h9.1 h;exact h9.2.1 h)]
 rw [e,hm t]
end Go.Vg
namespace Go.Vg
variable [Go.Vg.Glob]
open Go.Pl
theorem rowD {l:List Ev} {i n:Nat} {v:Int} (hv:v=zhj l i) (j:Nat) (hj:j<n):(if j=i then [SV.i .i64 v] else [SV.i .i64 ((mkR n fun j=>if j<i then zhj l j else 0).getD j 0)])=[.i .i64 (if j<i+1 then zhj l j else 0)]:=by
 rw [zm hj]
 by_cases h:j=i
 ·subst h;rw [if_pos rfl,if_pos (by omega),hv]
 ·rw [if_neg h]
  by_cases h2:j<i
  ·rw [if_pos h2,if_pos (by omega)]
  ·rw [if_neg h2,if_neg (by omega)]
theorem rowD2 {l:List Ev} {i n:Nat} {v w:Int} (hv:v=zhj l i) (j:Nat) (hj:j<n):(if j=i then (if j=i then [SV.i .i64 w] else [SV.i .i64 ((mkR n fun j=>if j<i then zhj l j else 0).getD j 0)]).set 0 (SV.i .i64 v) else if j=i then [SV.i .i64 w] else [SV.i .i64 ((mkR n fun j=>if j<i then zhj l j else 0).getD j 0)])=[.i .i64 (if j<i+1 then zhj l j else 0)]:=by
 rw [←rowD hv j hj]
 by_cases h:j=i
 ·rw [if_pos h,if_pos h,if_pos h];rfl
 ·rw [if_neg h,if_neg h,if_neg h]
theorem zpf {l:List Ev} {i:Nat} (h:(l.getD i evz).kind≠6):(-1:Int)=zhj l i:=by unfold zhj;rw [if_neg h]
theorem mkR_done {l:List Ev}:(mkR l.length fun j=>if j<l.length then zhj l j else 0)=mkR l.length (zhj l):=by
 unfold mkR
 exact List.map_congr_left fun j hj=>by rw [if_pos (by simpa using hj)]
end Go.Vg
namespace Go.Vg
variable [Go.Vg.Glob]
open Go.RowKit
/-- A call of a function that is a value. -/
def onFn (x:SV) (K:Sl FuncId):Prop:=match x with | .fn f=>K.f f | _=>False
theorem xj {f:FuncId} {K:Sl FuncId}:onFn (.fn f) K=K.f f:=id rfl
theorem wl {P:Program} {te:TE} {wr:Bool} {nt:Nat} {pt:PT} {g c:Bool} {st:St} {K:Sl St} {dst:Option Tmp} {ty:TypeId} {pos:String} {after:Array Edge} {gd:Option (Nat×Bool)} {t:Tmp} {args:Array Operand} {ts:Array TypeId} :
  XOs P te wr nt pt g c st ⟨dst,.call { callee:=.value (.tmp t),args:=args,argTypes:=ts },ty,pos,after,gd⟩ K=onFn (look st.env t) ⟨fun f=>XOs P te wr nt pt g c st ⟨dst,.call { callee:=.value (.func f),args:=args,argTypes:=ts },ty,pos,after,gd⟩ K,⟨⟩⟩:=by
 have h1:∀ x:Operand,XOs P te wr nt pt g c st ⟨dst,.call { callee:=.value x,args:=args,argTypes:=ts },ty,pos,after,gd⟩ K=(match (match st.ev x with | .fn f=>some f | _=>none) with
   | some f=>match ptOf pt f with
    | some t=>match t (ju st.ctx (w7 (args.toList.map st.ev))) with
     | some (p,z)=>zc1 (w7 (args.toList.map st.ev)) z pt.gr=true∧Chk (c=true→zw6 (args.toList.map st.ev)∧kv st.ctx (w7 (args.toList.map st.ev))∧p) (zj8 nt st dst (if g then zf5 c z else z) K.f)
     | none=>False
    | none=>g=false∧pt.gr=true∧ze0 P f (args.toList.map st.ev) pt.k st fun z st'=>zj8 nt st' dst z K.f
   | none=>False):=fun _=>rfl
 rw [h1]
 show (match (match look st.env t with | .fn f=>some f | _=>none) with | some f=>_ | none=>False)=_
 cases look st.env t<;>rfl
end Go.Vg
