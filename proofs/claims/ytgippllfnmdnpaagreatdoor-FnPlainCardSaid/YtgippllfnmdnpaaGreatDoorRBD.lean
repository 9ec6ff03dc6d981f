/- Rows of handles. -/
import Derived.Test.YtgippllfnmdnpaaGreatDoorRBB
import Derived.Test.YtgippllfnmdnpaaGreatDoorRAR
set_option linter.unusedVariables false
set_option linter.unusedSimpArgs false
set_option linter.unusedSectionVars false
set_option linter.unnecessarySimpa false
namespace Go.Vg
variable [Go.Vg.Glob]
open Go.Pl
def hdc (e:Hd):List SV:=[.s e.name,.s e.pre]
theorem hdc_inj {l m:List Hd}:l.map hdc=m.map hdc↔l=m:=zb7 fun a b h=>by cases a;cases b;simpa [hdc] using h
theorem zrq (a:List Hd) (i:Nat):(a.map hdc).getD i [.s [],.s []]=[.s (a.getD i hdz).name,.s (a.getD i hdz).pre]:=u6 hdc a i hdz
theorem zva {a:List Hd} {i:Nat}:zg hdc hdz a i=[.s (a.getD i hdz).name,.s (a.getD i hdz).pre]:=id rfl
theorem zu7 {μ:Nat→Nat} {r:Bool} {sz n:Nat} {a:List Hd}:SO.mapH μ (.row r sz n (zg hdc hdz a))=.row r sz n (zg hdc hdz a):=rowH fun _=>rfl
theorem hdEta (e:Hd):(⟨e.name,e.pre⟩:Hd)=e:=id rfl
theorem XRH:type_of% (And.intro (And.intro @zrq @zva) (And.intro @zu7 @hdEta)):=And.intro (And.intro @zrq @zva) (And.intro @zu7 @hdEta)
end Go.Vg
namespace Go.Vg
variable [Go.Vg.Glob]
theorem j0 {μ:Nat→Nat} {α:Type} {enc:α→List SV} {z:α} (xs:List α) (y:α) {ys:List α} {sz n m:Nat} {f:Nat→List SV} {cs:List SV} (hp:∀ x,plainL (enc x)=true) (hys:ys=xs++[y]) (hn:n=xs.length) (hm:m=n+1) (hf:∀ j,j<n→f j=zg enc z xs j) (hy:cs=enc y) (hl:(enc y).length=sz) :
  soLe μ (.row false sz m (zg enc z ys)) (.row false sz (n+1) (zey n f fun j=>qx cs sz j)):=by
 subst hy;subst hys;subst hn;subst hm
 refine zh fun j hj=>?_
 rw [ue (z:=z) rfl hf hl hj]
 exact qv (hp _)
end Go.Vg
