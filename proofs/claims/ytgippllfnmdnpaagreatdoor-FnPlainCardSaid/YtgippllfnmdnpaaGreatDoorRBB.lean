/- Rows of pieces. -/
import Derived.Test.YtgippllfnmdnpaaGreatDoorRAP
import Derived.Test.YtgippllfnmdnpaaGreatDoorRAV
set_option linter.unusedVariables false
set_option linter.unusedSimpArgs false
set_option linter.unusedSectionVars false
set_option linter.unnecessarySimpa false
namespace Go.Vg
variable [Go.Vg.Glob]
open Go.Pl
def pcc (e:Pc):List SV:=[.s e.text,.b e.glue]
theorem pcc_inj {l m:List Pc}:l.map pcc=m.map pcc↔l=m:=zb7 fun a b h=>by cases a;cases b;simpa [pcc] using h
theorem zrp (a:List Pc) (i:Nat):(a.map pcc).getD i [.s [],.b false]=[.s (a.getD i pcz).text,.b (a.getD i pcz).glue]:=u6 pcc a i pcz
theorem zu9 {a:List Pc} {i:Nat}:zg pcc pcz a i=[.s (a.getD i pcz).text,.b (a.getD i pcz).glue]:=id rfl
theorem zu6 {μ:Nat→Nat} {r:Bool} {sz n:Nat} {a:List Pc}:SO.mapH μ (.row r sz n (zg pcc pcz a))=.row r sz n (zg pcc pcz a):=rowH fun _=>rfl
theorem pcEta (e:Pc):(⟨e.text,e.glue⟩:Pc)=e:=id rfl
theorem XRP:type_of% (And.intro (And.intro @zrp @zu9) (And.intro @zu6 @pcEta)):=And.intro (And.intro @zrp @zu9) (And.intro @zu6 @pcEta)
theorem zlx {α:Type} {enc:α→List SV} {z:α} {xs:List α} {y:α} {sz:Nat} {f:Nat→List SV} (hf:∀ j,j<xs.length→f j=zg enc z xs j) (hl:(enc y).length=sz) :
  jd (zey xs.length f fun j=>qx (enc y) sz j) 0 (xs.length+1)=(xs++[y]).map enc:=by
 rw [←wy (enc:=enc) (z:=z) (xs:=xs++[y]) (n:=xs.length+1) (by simp)]
 unfold jd
 apply List.map_congr_left
 intro j hj
 rw [Nat.zero_add]
 exact ue rfl hf hl (by simpa using hj)
theorem ub {μ:Nat→Nat} {α:Type} {enc:α→List SV} {z:α} (xs:List α) (y:α) (sz:Nat) {f:Nat→List SV} {cs:List SV} (hp:∀ x,plainL (enc x)=true) (hf:∀ j,j<xs.length→f j=zg enc z xs j) (hy:cs=enc y) (hl:(enc y).length=sz) :
  soLe μ (.row false sz (xs.length+1) (zg enc z (xs++[y]))) (.row false sz (xs.length+1) (zey xs.length f fun j=>qx cs sz j)):=by
 subst hy
 refine zh fun j hj=>?_
 rw [ue (z:=z) rfl hf hl hj]
 exact qv (hp _)
theorem zj2 {α:Type} {enc:α→List SV} (z:α) (xs:List α) (y:α) (sz:Nat) {f:Nat→List SV} {cs:List SV} (hf:∀ j,j<xs.length→f j=zg enc z xs j) (hy:cs=enc y) (hl:(enc y).length=sz) :
  jd (zey xs.length f fun j=>qx cs sz j) 0 (xs.length+1)=(xs++[y]).map enc:=by
 subst hy;exact zlx (z:=z) hf hl
theorem ztt {α:Type} {enc:α→List SV} (z:α) (xs:List α) (y:α) (sz:Nat) {f:Nat→List SV} {cs:List SV} (hp:∀ x,plainL (enc x)=true) (hf:∀ j,j<xs.length→f j=zg enc z xs j) (hy:cs=enc y) (hl:∀ x,(enc x).length=sz) :
  ∀ j,j<xs.length+1→(zey xs.length f (fun j=>qx cs sz j) j).length=sz∧plainL (zey xs.length f (fun j=>qx cs sz j) j)=true:=by
 intro j hj
 subst hy
 rw [ue (z:=z) rfl hf (hl y) hj]
 exact ⟨hl _,hp _⟩
end Go.Vg
