/- A list of bytes that is made of a constant text. -/
import Derived.Test.YtgippllfnmdnpaaGreatDoorQAK
import Derived.Test.YtgippllfnmdnpaaGreatDoorQAR
set_option linter.unusedVariables false
set_option linter.unusedSimpArgs false
set_option linter.unusedSectionVars false
set_option linter.unnecessarySimpa false
namespace Go.Vg
variable [Go.Vg.Glob]
set_option maxRecDepth 100000
open Go.Pl in
theorem zxl {r:Int} (h:¬(r<0∨1114111<r∨(55296≤r∧r≤57343))):(Utf8.encode r).data.toList=rnB r:=by
 have hv:Utf8.valid r=true:=by simp [Utf8.valid];omega
 obtain ⟨n,rfl⟩:∃ n:Nat,r=n:=⟨r.toNat,by omega⟩
 unfold rnB Utf8.encode
 rw [if_neg h,hv]
 simp only [if_true,Int.toNat_natCast]
 by_cases h1:n<128
 ·rw [if_pos h1,if_pos (show (n:Int)<128 by omega)]
 rw [if_neg h1,if_neg (show ¬(n:Int)<128 by omega)]
 by_cases h2:n<2048
 ·rw [if_pos h2,if_pos (show (n:Int)<2048 by omega)]
 rw [if_neg h2,if_neg (show ¬(n:Int)<2048 by omega)]
 by_cases h3:n<65536
 ·rw [if_pos h3,if_pos (show (n:Int)<65536 by omega)]
 rw [if_neg h3,if_neg (show ¬(n:Int)<65536 by omega)]
end Go.Vg
