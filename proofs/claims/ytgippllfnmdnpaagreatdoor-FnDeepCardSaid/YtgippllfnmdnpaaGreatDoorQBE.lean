/- Rows of pieces. -/
import Derived.Test.YtgippllfnmdnpaaGreatDoorQAP
import Derived.Test.YtgippllfnmdnpaaGreatDoorQBA
set_option linter.unusedVariables false
set_option linter.unusedSimpArgs false
set_option linter.unusedSectionVars false
set_option linter.unnecessarySimpa false
namespace Go.Vg
variable [Go.Vg.Glob]
open Go.Pl
def pcc (e:Pc):List SV:=[.s e.text,.b e.glue]
theorem pcc_inj {l m:List Pc}:l.map pcc=m.map pcc↔l=m:=zb9 fun a b h=>by cases a;cases b;simpa [pcc] using h
theorem zrr (a:List Pc) (i:Nat):(a.map pcc).getD i [.s [],.b false]=[.s (a.getD i pcz).text,.b (a.getD i pcz).glue]:=zaa pcc a i pcz
theorem zvb {a:List Pc} {i:Nat}:zg pcc pcz a i=[.s (a.getD i pcz).text,.b (a.getD i pcz).glue]:=id rfl
theorem zu8 {μ:Nat→Nat} {r:Bool} {sz n:Nat} {a:List Pc}:SO.mapH μ (.row r sz n (zg pcc pcz a))=.row r sz n (zg pcc pcz a):=rowH fun _=>rfl
theorem pcEta (e:Pc):(⟨e.text,e.glue⟩:Pc)=e:=id rfl
theorem XRP:type_of% (And.intro (And.intro @zrr @zvb) (And.intro @zu8 @pcEta)):=And.intro (And.intro @zrr @zvb) (And.intro @zu8 @pcEta)
theorem zly {α:Type} {enc:α→List SV} {z:α} {xs:List α} {y:α} {sz:Nat} {f:Nat→List SV} (hf:∀ j,j<xs.length→f j=zg enc z xs j) (hl:(enc y).length=sz) :
  je (zev xs.length f fun j=>wl (enc y) sz j) 0 (xs.length+1)=(xs++[y]).map enc:=by
 rw [←wx (enc:=enc) (z:=z) (xs:=xs++[y]) (n:=xs.length+1) (by simp)]
 unfold je
 apply List.map_congr_left
 intro j hj
 rw [Nat.zero_add]
 exact uh rfl hf hl (by simpa using hj)
theorem ue {μ:Nat→Nat} {α:Type} {enc:α→List SV} {z:α} (xs:List α) (y:α) (sz:Nat) {f:Nat→List SV} {cs:List SV} (hp:∀ x,plainL (enc x)=true) (hf:∀ j,j<xs.length→f j=zg enc z xs j) (hy:cs=enc y) (hl:(enc y).length=sz) :
  soLe μ (.row false sz (xs.length+1) (zg enc z (xs++[y]))) (.row false sz (xs.length+1) (zev xs.length f fun j=>wl cs sz j)):=by
 subst hy
 refine zh fun j hj=>?_
 rw [uh (z:=z) rfl hf hl hj]
 exact qv (hp _)
theorem zj0 {α:Type} {enc:α→List SV} (z:α) (xs:List α) (y:α) (sz:Nat) {f:Nat→List SV} {cs:List SV} (hf:∀ j,j<xs.length→f j=zg enc z xs j) (hy:cs=enc y) (hl:(enc y).length=sz) :
  je (zev xs.length f fun j=>wl cs sz j) 0 (xs.length+1)=(xs++[y]).map enc:=by
 subst hy;exact zly (z:=z) hf hl
theorem ztv {α:Type} {enc:α→List SV} (z:α) (xs:List α) (y:α) (sz:Nat) {f:Nat→List SV} {cs:List SV} (hp:∀ x,plainL (enc x)=true) (hf:∀ j,j<xs.length→f j=zg enc z xs j) (hy:cs=enc y) (hl:∀ x,(enc x).length=sz) :
  ∀ j,j<xs.length+1→(zev xs.length f (fun j=>wl cs sz j) j).length=sz∧plainL (zev xs.length f (fun j=>wl cs sz j) j)=true:=by
 intro j hj
 subst hy
 rw [uh (z:=z) rfl hf (hl y) hj]
 exact ⟨hl _,hp _⟩
end Go.Vg
