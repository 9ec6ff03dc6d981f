/- Contracts of the reader of the block style. -/
import Derived.Test.YtgippllfnmdnpaaGreatDoorTAY
import Derived.Test.YtgippllfnmdnpaaGreatDoorTAW
set_option linter.unusedVariables false
set_option linter.unusedSimpArgs false
set_option linter.unusedSectionVars false
set_option linter.unnecessarySimpa false
namespace Go.Vg
variable [Go.Vg.Glob]
open Go.Pl
/-- A method that brings the reader of blocks from one state to another and tells whether there is no fault. -/
def zcj (P:Program) (f:FuncId) (s:Bs) (args:List SV) (x x':Rb):Prop:=FnK P f 1 (.ptr 0 0 0::args) (rdC s x.r x.fr (x.lt:Nat)) fun z c=>z=.b (decide (x'.r.cd=0))∧c=rdC s x'.r x'.fr (x'.lt:Nat)
/-- A call's argument that stands under a guard that holds. -/
theorem zj.ungd {P:Program} {f:FuncId} {args args':List SV} {kk:Nat} {st:St} {K:Sl (SV×St)} (hX:zj P f args' kk st K) (h:∀ σ vs,relL σ args vs→relL σ args' vs):zj P f args kk st K:=
 ⟨hX.1,fun A σ a w vs h1 h2 h3 h4=>hX.2 A σ a w vs h1 h2 h3 (h σ _ h4)⟩
theorem zw7 {σ:Asg} {x:SV} {r:List SV} {vs:List Value}:relL σ (.gd true x::r) vs=relL σ (x::r) vs:=by simp [relL,rel]
theorem relL_gd3 {σ:Asg} {x y z:SV} {r:List SV} {vs:List Value}:relL σ (z::y::.gd true x::r) vs=relL σ (z::y::x::r) vs:=by simp [relL,rel]
end Go.Vg
