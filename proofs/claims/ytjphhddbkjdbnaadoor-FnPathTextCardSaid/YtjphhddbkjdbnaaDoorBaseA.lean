/- Symbolic values, objects and states over the model, and what they say of a world. -/
import Derived.Orders
import Derived.Below
import Derived.Lib.Strings
import Derived.Laws.Sem
import Derived.Laws.StructEq
import Derived.Tactics
import Derived.Laws.Entries
import Derived.Laws.Append
import Derived.Laws.BytesString
import Derived.MapKept
section
set_option linter.unusedVariables false
set_option linter.unusedSimpArgs false
namespace Go.Vg
set_option linter.unusedVariables false
set_option linter.unusedSimpArgs false
open Go.RowKit

/-- A symbolic value: plain data, or a handle of an object and a place in it. -/
inductive SV where
  | b (x : Bool)
  | i (k : IntKind) (n : Int)
  | s (l : List UInt8)
  | ptr (h i k : Nat)
  | slc (h lo len : Nat)
  | nils
  | mp (h : Nat)
  | fn (f : FuncId)
  | agg (l : List SV)
  | tup (l : List SV)
  | gd (g : Bool) (x : SV)
  | u
  | fs (sz : Nat) (l : List (List SV))
  | fp (l : List SV) (k : Nat)
  deriving Inhabited

/-- Where an object lies: block, shift, how many cells it may use, cells of an element. -/
structure Loc where
  b : Nat
  sh : Nat
  av : Nat
  sz : Nat

/-- Where the objects lie, and which blocks stay as they are for good. -/
structure Asg where
  loc : Nat → Option Loc
  fz : Nat → Option Obj
/-- Blocks that stay as they are in every world that is spoken of. -/
class Glob where
  g : Nat → Option Obj
set_option linter.unusedSectionVars false
variable [Glob]
instance : CoeFun Asg (fun _ => Nat → Option Loc) := ⟨Asg.loc⟩
def Asg.ren (σ : Asg) (μ : Nat → Nat) : Asg := ⟨fun h => σ (μ h), σ.fz⟩
def Asg.bare (σ : Asg) : Asg := ⟨fun _ => none, σ.fz⟩
def Asg.nil : Asg := ⟨fun _ => none, fun _ => none⟩
theorem Asg.ren_loc (σ : Asg) (μ : Nat → Nat) (h : Nat) : (σ.ren μ) h = σ (μ h) := rfl
theorem Asg.ren_fz (σ : Asg) (μ : Nat → Nat) : (σ.ren μ).fz = σ.fz := rfl
theorem Asg.bare_bare (σ : Asg) : σ.bare.bare = σ.bare := rfl
theorem Asg.bare_ren (σ : Asg) (μ : Nat → Nat) : (σ.ren μ).bare = σ.bare := rfl

def addrOf (L : Loc) (i k : Nat) : Addr := ⟨L.b, L.sh + i * L.sz + k, none⟩

mutual
def rel : Asg → SV → Value → Prop
  | _, .b x, v => v = .bool x
  | _, .i k n, v => v = .int k n
  | _, .s l, v => v = .string ⟨l.toArray⟩
  | σ, .ptr h i k, v => ∃ L, σ h = some L ∧ v = .pointer (some (addrOf L i k))
  | σ, .slc h lo len, v => ∃ a cap, v = .slice a len cap ∧ len ≤ cap ∧ (cap = 0 ∨ ∃ L, σ h = some L ∧ a = some (addrOf L lo 0) ∧ (lo + cap) * L.sz ≤ L.av)
  | _, .nils, v => v = .slice none 0 0
  | σ, .mp h, v => ∃ L, σ h = some L ∧ v = .map (some L.b)
  | _, .fn f, v => v = .func (.func f) #[] #[]
  | σ, .agg l, v => ∃ cs, v = .agg cs ∧ relL σ l cs.toList
  | σ, .tup l, v => ∃ cs, v = .tuple cs ∧ relL σ l cs.toList
  | σ, .gd g x, v => (g = true → rel σ x v) ∧ (g = false → v = undef)
  | _, .u, _ => True
  | σ, .fs sz l, v => ∃ a cap, v = .slice a l.length cap ∧ l.length ≤ cap ∧ (l = [] ∨ ∃ b off c e fr, a = some ⟨b, off, none⟩ ∧ σ.fz b = some (.cells c e fr) ∧ relR σ.bare sz l (c.toList.drop off))
  | σ, .fp l k, v => ∃ b off c e fr, v = .pointer (some ⟨b, off + k, none⟩) ∧ σ.fz b = some (.cells c e fr) ∧ relL σ.bare l ((c.toList.drop off).take l.length)
def relL : Asg → List SV → List Value → Prop
  | _, [], vs => vs = []
  | σ, x :: xs, vs => ∃ v r, vs = v :: r ∧ rel σ x v ∧ relL σ xs r
def relR : Asg → Nat → List (List SV) → List Value → Prop
  | _, _, [], _ => True
  | σ, sz, l :: r, vs => l.length = sz ∧ relL σ l (vs.take sz) ∧ relR σ sz r (vs.drop sz)
end

theorem relL_length {σ : Asg} : ∀ {l : List SV} {vs : List Value}, relL σ l vs → l.length = vs.length
  | [], vs, h => by simp [relL] at h; simp [h]
  | x :: xs, vs, h => by
    simp only [relL] at h
    obtain ⟨v, r, rfl, _, h2⟩ := h
    simp [relL_length h2]

theorem relL_get {σ : Asg} : ∀ {l : List SV} {vs : List Value}, relL σ l vs → ∀ {j : Nat} {x : SV}, l[j]? = some x → ∃ v, vs[j]? = some v ∧ rel σ x v
  | [], _, _, j, x, hx => by simp at hx
  | y :: ys, vs, h, j, x, hx => by
    simp only [relL] at h
    obtain ⟨v, r, rfl, h1, h2⟩ := h
    cases j with
    | zero => simp at hx; subst hx; exact ⟨v, rfl, h1⟩
    | succ j => simp at hx; simpa using relL_get h2 hx

theorem relL_of_get {σ : Asg} : ∀ {l : List SV} {vs : List Value}, l.length = vs.length → (∀ (j : Nat) (x : SV) (v : Value), l[j]? = some x → vs[j]? = some v → rel σ x v) → relL σ l vs
  | [], vs, hl, _ => by simp only [relL]; exact List.length_eq_zero_iff.1 (by simpa using hl.symm)
  | x :: xs, [], hl, _ => by simp at hl
  | x :: xs, v :: vs, hl, h => by
    simp only [relL]
    exact ⟨v, vs, rfl, h 0 x v rfl rfl, relL_of_get (by simpa using hl) fun j y u hy hu => h (j + 1) y u (by simpa using hy) (by simpa using hu)⟩

/-- The elements of a frozen row. -/
theorem relR_get {σ : Asg} {sz : Nat} : ∀ {l : List (List SV)} {vs : List Value}, relR σ sz l vs → ∀ {j : Nat} {x : List SV}, l[j]? = some x → x.length = sz ∧ relL σ x ((vs.drop (j * sz)).take sz)
  | [], _, _, j, x, hx => by simp at hx
  | y :: ys, vs, h, j, x, hx => by
    simp only [relR] at h
    obtain ⟨h0, h1, h2⟩ := h
    cases j with
    | zero => simp at hx; subst hx; simpa using ⟨h0, h1⟩
    | succ j =>
      simp at hx
      have := relR_get h2 hx
      rw [List.drop_drop] at this
      rw [Nat.succ_mul, Nat.add_comm]
      exact this

theorem relR_of_get {σ : Asg} {sz : Nat} : ∀ {l : List (List SV)} {vs : List Value}, (∀ (j : Nat) (x : List SV), l[j]? = some x → x.length = sz ∧ relL σ x ((vs.drop (j * sz)).take sz)) → relR σ sz l vs
  | [], _, _ => by simp [relR]
  | y :: ys, vs, h => by
    simp only [relR]
    have h0 := h 0 y rfl
    simp only [Nat.zero_mul, List.drop_zero] at h0
    refine ⟨h0.1, h0.2, relR_of_get fun j x hx => ?_⟩
    have := h (j + 1) x (by simpa using hx)
    rw [Nat.succ_mul, Nat.add_comm] at this
    rw [List.drop_drop]
    exact this

structure leA (σ σ' : Asg) : Prop where
  loc : ∀ h L, σ h = some L → σ' h = some L
  fz : ∀ b o, σ.fz b = some o → σ'.fz b = some o

theorem leA.refl (σ : Asg) : leA σ σ := ⟨fun _ _ h => h, fun _ _ h => h⟩
theorem leA.trans {a b c : Asg} (h : leA a b) (k : leA b c) : leA a c := ⟨fun x L e => k.loc x L (h.loc x L e), fun x L e => k.fz x L (h.fz x L e)⟩
theorem leA.bare {a b : Asg} (h : leA a b) : leA a.bare b.bare := ⟨fun x L e => (by cases e), h.fz⟩
theorem leA.nil (σ : Asg) : leA Asg.nil σ := ⟨fun x L e => (by cases e), fun x L e => (by cases e)⟩

mutual
theorem rel_mono : ∀ {σ σ' : Asg} (h : leA σ σ') {x : SV} {v : Value}, rel σ x v → rel σ' x v
  | _, _, _, .b _, _, r => by simpa [rel] using r
  | _, _, _, .i _ _, _, r => by simpa [rel] using r
  | _, _, _, .s _, _, r => by simpa [rel] using r
  | _, _, h, .ptr _ _ _, _, r => by
    simp only [rel] at r ⊢
    obtain ⟨L, e, r⟩ := r
    exact ⟨L, h.loc _ _ e, r⟩
  | _, _, h, .slc _ _ _, _, r => by
    simp only [rel] at r ⊢
    obtain ⟨a, cap, e, hl, r⟩ := r
    exact ⟨a, cap, e, hl, r.imp id fun ⟨L, e, r⟩ => ⟨L, h.loc _ _ e, r⟩⟩
  | _, _, _, .nils, _, r => by simpa [rel] using r
  | _, _, h, .mp _, _, r => by
    simp only [rel] at r ⊢
    obtain ⟨L, e, r⟩ := r
    exact ⟨L, h.loc _ _ e, r⟩
  | _, _, _, .fn _, _, r => by simpa [rel] using r
  | _, _, h, .agg _, _, r => by
    simp only [rel] at r ⊢
    obtain ⟨cs, e, r⟩ := r
    exact ⟨cs, e, relL_mono h r⟩
  | _, _, h, .tup _, _, r => by
    simp only [rel] at r ⊢
    obtain ⟨cs, e, r⟩ := r
    exact ⟨cs, e, relL_mono h r⟩
  | _, _, h, .gd _ _, _, r => by
    simp only [rel] at r ⊢
    exact ⟨fun g => rel_mono h (r.1 g), r.2⟩
  | _, _, _, .u, _, _ => by simp [rel]
  | _, _, h, .fs sz l, _, r => by
    simp only [rel] at r ⊢
    obtain ⟨a, cap, e, hl, r⟩ := r
    refine ⟨a, cap, e, hl, r.imp id ?_⟩
    rintro ⟨b, off, c, e, fr, h1, h2, h3⟩
    exact ⟨b, off, c, e, fr, h1, h.fz _ _ h2, relR_mono h.bare h3⟩
  | _, _, h, .fp l k, _, r => by
    simp only [rel] at r ⊢
    obtain ⟨b, off, c, e, fr, h1, h2, h3⟩ := r
    exact ⟨b, off, c, e, fr, h1, h.fz _ _ h2, relL_mono h.bare h3⟩
theorem relL_mono : ∀ {σ σ' : Asg} (h : leA σ σ') {x : List SV} {v : List Value}, relL σ x v → relL σ' x v
  | _, _, _, [], _, r => by simpa [relL] using r
  | _, _, h, _ :: _, _, r => by
    simp only [relL] at r ⊢
    obtain ⟨v, q, e, r1, r2⟩ := r
    exact ⟨v, q, e, rel_mono h r1, relL_mono h r2⟩
theorem relR_mono : ∀ {σ σ' : Asg} (h : leA σ σ') {sz : Nat} {x : List (List SV)} {v : List Value}, relR σ sz x v → relR σ' sz x v
  | _, _, _, _, [], _, _ => by simp [relR]
  | _, _, h, _, _ :: _, _, r => by
    simp only [relR] at r ⊢
    exact ⟨r.1, relL_mono h r.2.1, relR_mono h r.2.2⟩
end

-- Handles renamed.
mutual
def SV.mapH (μ : Nat → Nat) : SV → SV
  | .ptr h i k => .ptr (μ h) i k
  | .slc h lo len => .slc (μ h) lo len
  | .mp h => .mp (μ h)
  | .agg l => .agg (mapHL μ l)
  | .tup l => .tup (mapHL μ l)
  | .gd g x => .gd g (SV.mapH μ x)
  | .b x => .b x
  | .i k n => .i k n
  | .s l => .s l
  | .nils => .nils
  | .fn f => .fn f
  | .u => .u
  | .fs sz l => .fs sz l
  | .fp l k => .fp l k
def mapHL (μ : Nat → Nat) : List SV → List SV
  | [] => []
  | x :: xs => SV.mapH μ x :: mapHL μ xs
end

theorem mapHL_eq (μ : Nat → Nat) (l : List SV) : mapHL μ l = l.map (SV.mapH μ) := by
  induction l with
  | nil => rfl
  | cons x xs ih => simp [mapHL, ih]

mutual
theorem rel_mapH (σ : Asg) (μ : Nat → Nat) : ∀ (x : SV) (v : Value), rel σ (x.mapH μ) v ↔ rel (σ.ren μ) x v
  | .b _, _ => by simp [rel, SV.mapH]
  | .i _ _, _ => by simp [rel, SV.mapH]
  | .s _, _ => by simp [rel, SV.mapH]
  | .ptr _ _ _, _ => by simp [rel, SV.mapH, Asg.ren_loc]
  | .slc _ _ _, _ => by simp [rel, SV.mapH, Asg.ren_loc]
  | .nils, _ => by simp [rel, SV.mapH]
  | .mp _, _ => by simp [rel, SV.mapH, Asg.ren_loc]
  | .fn _, _ => by simp [rel, SV.mapH]
  | .agg l, _ => by simp only [rel, SV.mapH, relL_mapH σ μ l]
  | .tup l, _ => by simp only [rel, SV.mapH, relL_mapH σ μ l]
  | .gd _ x, _ => by simp only [rel, SV.mapH, rel_mapH σ μ x]
  | .u, _ => by simp [rel, SV.mapH]
  | .fs _ _, _ => by simp only [rel, SV.mapH, Asg.ren_fz, Asg.bare_ren]
  | .fp _ _, _ => by simp only [rel, SV.mapH, Asg.ren_fz, Asg.bare_ren]
theorem relL_mapH (σ : Asg) (μ : Nat → Nat) : ∀ (x : List SV) (v : List Value), relL σ (mapHL μ x) v ↔ relL (σ.ren μ) x v
  | [], _ => by simp [relL, mapHL]
  | x :: xs, _ => by simp only [relL, mapHL, rel_mapH σ μ x, relL_mapH σ μ xs]
end

/-- An object: a row of elements, one variable, or a map. 'ro': it is only read. -/
inductive SO where
  | row (ro : Bool) (sz n : Nat) (f : Nat → List SV)
  | blk (ro : Bool) (cs : List SV)
  | mapS (l : List (List UInt8 × Int))
  | mapI (l : List (Int × Int))

def SO.ro : SO → Bool
  | .row r _ _ _ | .blk r _ => r
  | _ => false
def SO.sz : SO → Nat
  | .row _ z _ _ => z
  | .blk _ cs => cs.length
  | _ => 0
def SO.n : SO → Nat
  | .row _ _ n _ => n
  | .blk _ _ => 1
  | _ => 0
def SO.el : SO → Nat → List SV
  | .row _ _ _ f, i => f i
  | .blk _ cs, _ => cs
  | _, _ => []
def SO.isMap : SO → Bool
  | .mapS _ | .mapI _ => true
  | _ => false
def SO.ents : SO → List (SV × SV)
  | .mapS l => l.map fun p => (.s p.1, .i .i64 p.2)
  | .mapI l => l.map fun p => (.i .i64 p.1, .i .i64 p.2)
  | _ => []

def entsRel (σ : Asg) : List (SV × SV) → List MapEntry → Prop
  | [], es => es = []
  | p :: ps, es => ∃ e r, es = e :: r ∧ rel σ p.1 e.key ∧ rel σ p.2 e.val ∧ entsRel σ ps r

/-- The cells of an object that is no map. -/
structure cellsAt (σ : Asg) (w : World) (L : Loc) (o : SO) (c : Array Value) (e : TypeId) (fr : Nat × Nat) : Prop where
  heap : w.heap[L.b]? = some (.cells c e fr)
  lsz : L.sz = o.sz
  room : L.sh + L.av ≤ c.size
  fits : o.n * o.sz ≤ L.av
  cell : ∀ i k, i < o.n → k < o.sz → ∃ v, c[L.sh + i * o.sz + k]? = some v ∧ rel σ ((o.el i).getD k .u) v
  free : o.ro = false → (fr.1 = fr.2 ∨ c.size ≤ fr.1)

def objSat (σ : Asg) (w : World) (h : Nat) (o : SO) : Prop :=
  match o.isMap with
  | true => ∃ L es ck, σ h = some L ∧ w.heap[L.b]? = some (.map es ck) ∧ entsRel σ o.ents es.toList
  | false => (o.n = 0 ∧ σ h = none) ∨ ∃ L c e fr, σ h = some L ∧ cellsAt σ w L o c e fr

abbrev Ctx := List (Option SO)
def Ctx.at (c : Ctx) (h : Nat) : Option SO := c.getD h none

structure Sat (σ : Asg) (w : World) (c : Ctx) : Prop where
  obj : ∀ h o, c.at h = some o → objSat σ w h o
  apart : ∀ h h' o o' L L', h ≠ h' → c.at h = some o → c.at h' = some o' → o.ro = false → σ h = some L → σ h' = some L' → L.b ≠ L'.b
  beyond : ∀ h, c.length ≤ h → σ h = none
  inHeap : ∀ h L, σ h = some L → L.b < w.heap.size
  frz : ∀ b o, σ.fz b = some o → w.heap[b]? = some o
  frzA : ∀ h o L, c.at h = some o → o.ro = false → σ h = some L → σ.fz L.b = none
  glb : ∀ b o, Glob.g b = some o → σ.fz b = some o

structure St where
  env : List (Tmp × SV)
  ctx : Ctx

def look : List (Tmp × SV) → Tmp → SV
  | [], _ => .u
  | (u, x) :: r, t => if u = t then x else look r t

/-- What surrounds a function's run: the world at its start, the blocks of that world that it may write, where the objects that came in lie. -/
structure Amb where
  w0 : World
  D : Nat → Prop
  σ0 : Asg
  k : Nat
  nt : Nat
  gr : Bool

/-- 'w' came of 'w0'; what is below and not in 'D' is as it was. -/
structure Fr (D : Nat → Prop) (w w' : World) : Prop where
  os : w'.os = w.os
  tape : w'.tape = w.tape
  output : w'.output = w.output
  size : w.heap.size ≤ w'.heap.size
  block : ∀ b, b < w.heap.size → ¬ D b → w'.heap[b]? = w.heap[b]?

theorem Fr.refl (D : Nat → Prop) (w : World) : Fr D w w := ⟨rfl, rfl, rfl, Nat.le_refl _, fun _ _ _ => rfl⟩
theorem Fr.trans {D : Nat → Prop} {a b c : World} (h : Fr D a b) (k : Fr D b c) : Fr D a c :=
  ⟨k.os.trans h.os, k.tape.trans h.tape, k.output.trans h.output, Nat.le_trans h.size k.size, fun i hi hd => (k.block i (Nat.lt_of_lt_of_le hi h.size) hd).trans (h.block i hi hd)⟩
theorem Fr.mono {D D' : Nat → Prop} {w w' : World} (h : Fr D w w') (hd : ∀ b, b < w.heap.size → D b → D' b) : Fr D' w w' :=
  ⟨h.os, h.tape, h.output, h.size, fun b hb hn => h.block b hb fun x => hn (hd b hb x)⟩
/-- A later step that writes only into 'D' and into what is new. -/
theorem Fr.step {D D' : Nat → Prop} {a b c : World} (h : Fr D a b) (k : Fr D' b c) (hd : ∀ x, x < a.heap.size → D' x → D x) : Fr D a c :=
  ⟨k.os.trans h.os, k.tape.trans h.tape, k.output.trans h.output, Nat.le_trans h.size k.size,
    fun i hi hn => (k.block i (Nat.lt_of_lt_of_le hi h.size) fun x => hn (hd i hi x)).trans (h.block i hi hn)⟩

/-- What stays of the beginning: where the first objects lie; what was frozen, and that nothing foreign has been frozen since. -/
structure baseOK (A : Amb) (σ : Asg) : Prop where
  loc : ∀ h, h < A.k → σ h = A.σ0 h
  fzb : ∀ b o, A.σ0.fz b = some o → σ.fz b = some o
  fzn : ∀ b o, σ.fz b = some o → A.σ0.fz b = some o ∨ (A.gr = true ∧ (A.D b ∨ A.w0.heap.size ≤ b))

structure Rel (A : Amb) (σ : Asg) (st : St) (a : Act) (w : World) : Prop where
  defers : a.defers = []
  size : a.tmps.size = A.nt
  env : ∀ t, rel σ (look st.env t) (a.tmps.getD t undef)
  sat : Sat σ w st.ctx
  fr : Fr A.D A.w0 w
  own : ∀ h o L, st.ctx.at h = some o → o.ro = false → σ h = some L → A.D L.b ∨ A.w0.heap.size ≤ L.b
  base : baseOK A σ
  klen : A.k ≤ st.ctx.length

/-! Values without handles. -/

mutual
def SV.plain : SV → Bool
  | .ptr _ _ _ => false
  | .slc _ _ _ => false
  | .mp _ => false
  | .agg l => plainL l
  | .tup l => plainL l
  | .gd _ x => SV.plain x
  | .b _ => true
  | .i _ _ => true
  | .s _ => true
  | .nils => true
  | .fn _ => true
  | .u => true
  | .fs _ _ => true
  | .fp _ _ => true
def plainL : List SV → Bool
  | [] => true
  | x :: xs => SV.plain x && plainL xs
end

-- Values that look at no memory at all.
mutual
def SV.bit : SV → Bool
  | .agg l => bitL l
  | .tup l => bitL l
  | .gd _ x => SV.bit x
  | .b _ => true
  | .i _ _ => true
  | .s _ => true
  | .nils => true
  | .fn _ => true
  | .u => true
  | _ => false
def bitL : List SV → Bool
  | [] => true
  | x :: xs => SV.bit x && bitL xs
end

mutual
theorem rel_plain {σ σ' : Asg} (hf : ∀ b o, σ.fz b = some o → σ'.fz b = some o) : ∀ {x : SV} {v : Value}, x.plain = true → rel σ x v → rel σ' x v
  | .b _, _, _, r => by simpa [rel] using r
  | .i _ _, _, _, r => by simpa [rel] using r
  | .s _, _, _, r => by simpa [rel] using r
  | .nils, _, _, r => by simpa [rel] using r
  | .fn _, _, _, r => by simpa [rel] using r
  | .u, _, _, r => by simp [rel]
  | .ptr _ _ _, _, h, _ => by simp [SV.plain] at h
  | .slc _ _ _, _, h, _ => by simp [SV.plain] at h
  | .mp _, _, h, _ => by simp [SV.plain] at h
  | .agg l, _, h, r => by
    simp only [rel, SV.plain] at r h ⊢
    obtain ⟨cs, e, r⟩ := r
    exact ⟨cs, e, relL_plain hf h r⟩
  | .tup l, _, h, r => by
    simp only [rel, SV.plain] at r h ⊢
    obtain ⟨cs, e, r⟩ := r
    exact ⟨cs, e, relL_plain hf h r⟩
  | .gd _ x, _, h, r => by
    simp only [rel, SV.plain] at r h ⊢
    exact ⟨fun g => rel_plain hf h (r.1 g), r.2⟩
  | .fs _ _, _, _, r => by
    simp only [rel] at r ⊢
    obtain ⟨a, cap, e, hl, r⟩ := r
    refine ⟨a, cap, e, hl, r.imp id ?_⟩
    rintro ⟨b, off, c, e, fr, h1, h2, h3⟩
    exact ⟨b, off, c, e, fr, h1, hf _ _ h2, relR_mono (⟨fun _ _ e => (by cases e), hf⟩ : leA σ.bare σ'.bare) h3⟩
  | .fp _ _, _, _, r => by
    simp only [rel] at r ⊢
    obtain ⟨b, off, c, e, fr, h1, h2, h3⟩ := r
    exact ⟨b, off, c, e, fr, h1, hf _ _ h2, relL_mono (⟨fun _ _ e => (by cases e), hf⟩ : leA σ.bare σ'.bare) h3⟩
theorem relL_plain {σ σ' : Asg} (hf : ∀ b o, σ.fz b = some o → σ'.fz b = some o) : ∀ {x : List SV} {v : List Value}, plainL x = true → relL σ x v → relL σ' x v
  | [], _, _, r => by simpa [relL] using r
  | _ :: _, _, h, r => by
    simp only [relL, plainL, Bool.and_eq_true] at r h ⊢
    obtain ⟨v, q, e, r1, r2⟩ := r
    exact ⟨v, q, e, rel_plain hf h.1 r1, relL_plain hf h.2 r2⟩
end

mutual
theorem rel_bit {σ σ' : Asg} : ∀ {x : SV} {v : Value}, x.bit = true → rel σ x v → rel σ' x v
  | .b _, _, _, r => by simpa [rel] using r
  | .i _ _, _, _, r => by simpa [rel] using r
  | .s _, _, _, r => by simpa [rel] using r
  | .nils, _, _, r => by simpa [rel] using r
  | .fn _, _, _, r => by simpa [rel] using r
  | .u, _, _, r => by simp [rel]
  | .ptr _ _ _, _, h, _ => by simp [SV.bit] at h
  | .slc _ _ _, _, h, _ => by simp [SV.bit] at h
  | .mp _, _, h, _ => by simp [SV.bit] at h
  | .fs _ _, _, h, _ => by simp [SV.bit] at h
  | .fp _ _, _, h, _ => by simp [SV.bit] at h
  | .agg l, _, h, r => by
    simp only [rel, SV.bit] at r h ⊢
    obtain ⟨cs, e, r⟩ := r
    exact ⟨cs, e, relL_bit h r⟩
  | .tup l, _, h, r => by
    simp only [rel, SV.bit] at r h ⊢
    obtain ⟨cs, e, r⟩ := r
    exact ⟨cs, e, relL_bit h r⟩
  | .gd _ x, _, h, r => by
    simp only [rel, SV.bit] at r h ⊢
    exact ⟨fun g => rel_bit h (r.1 g), r.2⟩
theorem relL_bit {σ σ' : Asg} : ∀ {x : List SV} {v : List Value}, bitL x = true → relL σ x v → relL σ' x v
  | [], _, _, r => by simpa [relL] using r
  | _ :: _, _, h, r => by
    simp only [relL, bitL, Bool.and_eq_true] at r h ⊢
    obtain ⟨v, q, e, r1, r2⟩ := r
    exact ⟨v, q, e, rel_bit h.1 r1, relL_bit h.2 r2⟩
end

end Go.Vg
end
section
set_option linter.unusedVariables false
set_option linter.unusedSimpArgs false
namespace Go.Vg
set_option linter.unusedSectionVars false
variable [Go.Vg.Glob]
set_option linter.unusedVariables false
set_option linter.unusedSimpArgs false
open Go.RowKit

/-- What is known of a type. -/
inductive TD where
  | bool | int (k : IntKind) | str | slice (e : TypeId) | map (k e : TypeId) | struct (fs : List (TypeId × Nat)) | other

def TD.isStruct : TD → Bool
  | .struct _ => true
  | _ => false

structure TI where
  td : TD
  size : Nat
  bytes : Nat
  zero : List SV
  cmp : Bool

abbrev TE := TypeId → Option TI

def descIs : TypeDesc → TD → Prop
  | .bool, .bool => True
  | .int k, .int k' => k = k'
  | .string, .str => True
  | .slice e, .slice e' => e = e'
  | .map k e, .map k' e' => k = k' ∧ e = e'
  | .struct fs, .struct fs' => fs.toList.map (fun f => (f.type, f.offset)) = fs' ∧ ∀ f ∈ fs.toList, f.name ≠ "_"
  | .array .., _ => False
  | .struct .., .other => False
  | _, .other => True
  | _, _ => False

structure tyOk (P : Program) (t : TypeId) (ti : TI) : Prop where
  info : ∃ i, P.info? t = some i ∧ i.size = ti.size ∧ i.bytes = ti.bytes ∧ ∃ z, i.zero = some z ∧ relL Asg.nil ti.zero z.cells.toList ∧ (ti.td.isStruct = false → z.oneCell' = true)
  desc : ∃ d, P.underlying t = some d ∧ descIs d ti.td
  eq : ti.cmp = true → P.stoodInHeld t = false ∧ P.eqGuardType P.depth t = false

def teOk (P : Program) (te : TE) : Prop := ∀ t ti, te t = some ti → tyOk P t ti

def ofVal : Value → SV
  | .bool b => .b b
  | .int k n => .i k n
  | .string s => .s s.data.toList
  | .slice none 0 0 => .nils
  | _ => .u

theorem rel_ofVal (σ : Asg) (v : Value) : rel σ (ofVal v) v := by
  unfold ofVal
  split <;> simp [rel]

def St.ev (st : St) : Operand → SV
  | .tmp t => look st.env t
  | .const v => ofVal v
  | .global _ => .u
  | .func f => .fn f

theorem Rel.ev {A : Amb} {σ : Asg} {st : St} {a : Act} {w : World} (h : Rel A σ st a w) (x : Operand) : rel σ (st.ev x) (a.eval x) := by
  cases x with
  | tmp t => exact h.env t
  | const v => exact rel_ofVal σ v
  | global g => simp [St.ev, rel]
  | func f => simp [St.ev, rel, Act.eval]

/-- To be shown, and known from there on. -/
def Chk (p q : Prop) : Prop := p ∧ (p → q)
theorem Chk.mk {p q : Prop} (h : p) (k : p → q) : Chk p q := ⟨h, k⟩
theorem Chk.out {p q : Prop} (h : Chk p q) : p ∧ q := ⟨h.1, h.2 h.1⟩

/-- An operand's value, where the operation is carried out under 'c'. -/
def ung (c : Bool) (x : SV) (K : SV → Prop) : Prop :=
  match x with
  | .gd g v => Chk (c = true → g = true) (K v)
  | v => K v

theorem ung_sound {σ : Asg} {c : Bool} {x : SV} {K : SV → Prop} {v : Value} (hr : rel σ x v) (h : ung c x K) : ∃ y, K y ∧ (c = true → rel σ y v) := by
  unfold ung at h
  split at h
  · rename_i g y
    obtain ⟨h1, h2⟩ := h.out
    exact ⟨y, h2, fun hc => by simp only [rel] at hr; exact hr.1 (h1 hc)⟩
  · exact ⟨x, h, fun _ => hr⟩

def inR : IntKind → Int → Prop
  | .i64, n => -9223372036854775808 ≤ n ∧ n ≤ 9223372036854775807
  | .i32, n => -2147483648 ≤ n ∧ n ≤ 2147483647
  | .u8, n => 0 ≤ n ∧ n ≤ 255
  | k, n => k.wrap n = n

theorem inR_wrap {k : IntKind} {n : Int} (h : inR k n) : k.wrap n = n := by
  cases k <;> simp only [inR] at h <;> first | exact h | (simp only [IntKind.wrap, IntKind.bits, IntKind.signed]; simp; omega)

def tdOf (te : TE) (t : TypeId) : TD := match te t with | some ti => ti.td | none => .other
def zeroOf (te : TE) (t : TypeId) : List SV := match te t with | some ti => ti.zero | none => []
def szOf (te : TE) (t : TypeId) : Nat := match te t with | some ti => ti.size | none => 0

/-- A part of an aggregate. -/
def partS (te : TE) (t : TypeId) (cs : List SV) (off : Nat) : SV :=
  if (tdOf te t).isStruct then .agg ((cs.drop off).take (szOf te t)) else cs.getD off .u

def eqFs (f : TypeId → SV → SV → Option Bool) (te : TE) (xs ys : List SV) : List (TypeId × Nat) → Option Bool
  | [] => some true
  | (t, off) :: r => if off < xs.length ∧ off < ys.length then match f t (partS te t xs off) (partS te t ys off), eqFs f te xs ys r with
    | some a, some b => some (a && b)
    | _, _ => none
    else none

def eqAt (te : TE) : Nat → TypeId → SV → SV → Option Bool
  | 0, _, _, _ => none
  | n + 1, t, x, y => match te t with
    | none => none
    | some ti => match ti.td, x, y with
      | .int _, .i k a, .i k' b => if k = k' then some (decide (a = b)) else none
      | .bool, .b a, .b b => some (a == b)
      | .str, .s a, .s b => some (decide (a = b))
      | .struct fs, .agg xs, .agg ys => if ti.cmp then eqFs (eqAt te n) te xs ys fs else none
      | _, _, _ => none

def xbin (te : TE) (t : TypeId) (wr c : Bool) (op : BinOp) (x y : SV) (K : SV → Prop) : Prop :=
  match op, x, y with
  | .add, .i k a, .i k' b => k = k' ∧ (if wr then K (.i k (k.wrap (a + b))) else Chk (c = true → inR k (a + b)) (K (.i k (a + b))))
  | .sub, .i k a, .i k' b => k = k' ∧ (if wr then K (.i k (k.wrap (a - b))) else Chk (c = true → inR k (a - b)) (K (.i k (a - b))))
  | .mul, .i k a, .i k' b => k = k' ∧ (if wr then K (.i k (k.wrap (a * b))) else Chk (c = true → inR k (a * b)) (K (.i k (a * b))))
  | .quo, .i k a, .i k' b => k = k' ∧ b ≠ 0 ∧ Chk (c = true → inR k (a.tdiv b)) (K (.i k (a.tdiv b)))
  | .rem, .i k a, .i k' b => k = k' ∧ Chk (c = true → b ≠ 0) (K (.i k (a.tmod b)))
  | .and, .i k a, .i k' b => k = k' ∧ K (.i k (k.wrap ((BitVec.ofInt k.bits a &&& BitVec.ofInt k.bits b).toNat)))
  | .xor, .i k a, .i k' b => k = k' ∧ K (.i k (k.wrap ((BitVec.ofInt k.bits a ^^^ BitVec.ofInt k.bits b).toNat)))
  | .shr, .i k a, .i _ b => 0 ≤ b ∧ K (.i k (a.fdiv (2 ^ (min b.toNat k.bits))))
  | .eql, .i k a, .i k' b => k = k' ∧ K (.b (decide (a = b)))
  | .neq, .i k a, .i k' b => k = k' ∧ K (.b (!decide (a = b)))
  | .lss, .i k a, .i k' b => k = k' ∧ K (.b (decide (a < b)))
  | .leq, .i k a, .i k' b => k = k' ∧ K (.b (decide (a ≤ b)))
  | .gtr, .i k a, .i k' b => k = k' ∧ K (.b (decide (a > b)))
  | .geq, .i k a, .i k' b => k = k' ∧ K (.b (decide (a ≥ b)))
  | .add, .s a, .s b => Chk (c = true → a.length + b.length ≤ 9223372036854775807) (K (.s (a ++ b)))
  | .eql, .s a, .s b => K (.b (decide (a = b)))
  | .neq, .s a, .s b => K (.b (!decide (a = b)))
  | .eql, .b a, .b b => tdOf te t = .bool ∧ K (.b (a == b))
  | .neq, .b a, .b b => tdOf te t = .bool ∧ K (.b (!(a == b)))
  | .eql, .agg a, .agg b => match eqAt te 4 t (.agg a) (.agg b) with
    | some z => K (.b z)
    | none => False
  | .neq, .agg a, .agg b => match eqAt te 4 t (.agg a) (.agg b) with
    | some z => K (.b (!z))
    | none => False
  | _, _, _ => False

theorem ba_append (a b : List UInt8) : (ByteArray.mk a.toArray) ++ (ByteArray.mk b.toArray) = ByteArray.mk (a ++ b).toArray := by
  ext1; simp [ByteArray.data_append]

theorem beq_dec {α : Type} [BEq α] [LawfulBEq α] [DecidableEq α] (a b : α) : (a == b) = decide (a = b) := by
  by_cases h : a = b <;> simp [h]

theorem ba_size (l : List UInt8) : (ByteArray.mk l.toArray).size = l.length := by
  rw [← ByteArray.size_data]; simp

theorem ba_toList (l : List UInt8) : (ByteArray.mk l.toArray).toList = l := by
  rw [ByteArray.toList_eq]

end Go.Vg
end
section
set_option linter.unusedVariables false
set_option linter.unusedSimpArgs false
namespace Go.Vg
set_option linter.unusedSectionVars false
variable [Go.Vg.Glob]
set_option linter.unusedVariables false
set_option linter.unusedSimpArgs false
open Go.RowKit

theorem desc_of {P : Program} {te : TE} (hte : teOk P te) {t : TypeId} {ti : TI} (h : te t = some ti) : ∃ d, P.underlying t = some d ∧ descIs d ti.td := (hte t ti h).desc

theorem und_bool {P : Program} {te : TE} (hte : teOk P te) {t : TypeId} (h : tdOf te t = .bool) : P.underlying t = some .bool := by
  unfold tdOf at h
  split at h
  · rename_i ti hti
    obtain ⟨d, hd, hi⟩ := (hte t ti hti).desc
    rw [h] at hi
    cases d <;> simp only [descIs] at hi <;> exact hd
  · cases h

theorem und_int {P : Program} {te : TE} (hte : teOk P te) {t : TypeId} {k : IntKind} (h : tdOf te t = .int k) : P.underlying t = some (.int k) := by
  unfold tdOf at h
  split at h
  · rename_i ti hti
    obtain ⟨d, hd, hi⟩ := (hte t ti hti).desc
    rw [h] at hi
    cases d <;> simp only [descIs] at hi <;> subst hi <;> exact hd
  · cases h

theorem und_str {P : Program} {te : TE} (hte : teOk P te) {t : TypeId} (h : tdOf te t = .str) : P.underlying t = some .string := by
  unfold tdOf at h
  split at h
  · rename_i ti hti
    obtain ⟨d, hd, hi⟩ := (hte t ti hti).desc
    rw [h] at hi
    cases d <;> simp only [descIs] at hi <;> exact hd
  · cases h

theorem und_slice {P : Program} {te : TE} (hte : teOk P te) {t e : TypeId} (h : tdOf te t = .slice e) : P.underlying t = some (.slice e) := by
  unfold tdOf at h
  split at h
  · rename_i ti hti
    obtain ⟨d, hd, hi⟩ := (hte t ti hti).desc
    rw [h] at hi
    cases d <;> simp only [descIs] at hi <;> subst hi <;> exact hd
  · cases h

theorem und_map {P : Program} {te : TE} (hte : teOk P te) {t k e : TypeId} (h : tdOf te t = .map k e) : P.underlying t = some (.map k e) := by
  unfold tdOf at h
  split at h
  · rename_i ti hti
    obtain ⟨d, hd, hi⟩ := (hte t ti hti).desc
    rw [h] at hi
    cases d <;> simp only [descIs] at hi
    obtain ⟨rfl, rfl⟩ := hi
    exact hd
  · cases h

theorem und_struct {P : Program} {te : TE} (hte : teOk P te) {t : TypeId} {fs : List (TypeId × Nat)} (h : tdOf te t = .struct fs) :
    ∃ ff, P.underlying t = some (.struct ff) ∧ ff.toList.map (fun f => (f.type, f.offset)) = fs ∧ ∀ f ∈ ff.toList, f.name ≠ "_" := by
  unfold tdOf at h
  split at h
  · rename_i ti hti
    obtain ⟨d, hd, hi⟩ := (hte t ti hti).desc
    rw [h] at hi
    cases d <;> simp only [descIs] at hi
    exact ⟨_, hd, hi⟩
  · cases h

theorem td_of_some {te : TE} {t : TypeId} {ti : TI} (h : te t = some ti) : tdOf te t = ti.td := by simp [tdOf, h]

theorem run_und {P : Program} {t : TypeId} {d : TypeDesc} (h : P.underlying t = some d) (w : World) : (underlying t).run P w = .ok d w := by
  simp [underlying, h]

theorem run_info {P : Program} {t : TypeId} {i : TypeInfo} (h : P.info? t = some i) (w : World) : (typeInfo t).run P w = .ok i w := by
  simp [typeInfo, h]

theorem run_size {P : Program} {te : TE} (hte : teOk P te) {t : TypeId} {ti : TI} (h : te t = some ti) (w : World) : (sizeOf t).run P w = .ok ti.size w := by
  obtain ⟨i, hi, hs, _⟩ := (hte t ti h).info
  simp [sizeOf, run_info hi, hs]

theorem run_isAgg {P : Program} {te : TE} (hte : teOk P te) {t : TypeId} {ti : TI} (h : te t = some ti) (ho : ti.td ≠ .other) (w : World) : (isAgg t).run P w = .ok ti.td.isStruct w := by
  obtain ⟨d, hd, hi⟩ := (hte t ti h).desc
  simp only [isAgg, Sem.run_bind, run_und hd, Result.andThen_ok]
  cases htd : ti.td <;> rw [htd] at hi <;> cases d <;> simp only [descIs] at hi <;> first | (simp [TD.isStruct]; done) | (exact absurd htd ho)

theorem relL_drop {σ : Asg} : ∀ {l : List SV} {vs : List Value} (n : Nat), relL σ l vs → relL σ (l.drop n) (vs.drop n)
  | l, vs, 0, h => by simpa using h
  | [], vs, n + 1, h => by simp only [relL] at h; subst h; simp [relL]
  | x :: xs, vs, n + 1, h => by
    simp only [relL] at h
    obtain ⟨v, r, rfl, _, h2⟩ := h
    simpa using relL_drop n h2

theorem relL_take {σ : Asg} : ∀ {l : List SV} {vs : List Value} (n : Nat), relL σ l vs → relL σ (l.take n) (vs.take n)
  | l, vs, 0, h => by simp [relL]
  | [], vs, n + 1, h => by simp only [relL] at h; subst h; simp [relL]
  | x :: xs, vs, n + 1, h => by
    simp only [relL] at h
    obtain ⟨v, r, rfl, h1, h2⟩ := h
    simp only [List.take_succ_cons, relL]
    exact ⟨v, r.take n, rfl, h1, relL_take n h2⟩

theorem partS_sound {P : Program} {te : TE} (hte : teOk P te) {σ : Asg} {t : TypeId} {ti : TI} (ht : te t = some ti) (ho : ti.td ≠ .other) {xs : List SV} {cs : Array Value} {off : Nat}
    (hr : relL σ xs cs.toList) (hoff : off < xs.length) : ∃ v, rel σ (partS te t xs off) v ∧ ∀ w, (part t cs off).run P w = .ok v w := by
  unfold partS
  rw [td_of_some ht]
  split
  · rename_i hs
    refine ⟨.agg (cs.extract off (off + ti.size)), ?_, fun w => ?_⟩
    · simp only [rel]
      refine ⟨_, rfl, ?_⟩
      have := relL_take (szOf te t) (relL_drop off hr)
      simp only [szOf, ht] at this ⊢
      simpa [Array.toList_extract, List.extract_eq_take_drop] using this
    · simp [part, run_isAgg hte ht ho, hs, run_size hte ht]
  · rename_i hs
    obtain ⟨v, hv, hrv⟩ := relL_get hr (j := off) (x := xs.getD off .u) (by simp [List.getD, List.getElem?_eq_getElem hoff])
    refine ⟨v, hrv, fun w => ?_⟩
    have : cs[off]? = some v := by simpa using hv
    simp [part, run_isAgg hte ht ho, hs, this]

theorem eqAt_sound {P : Program} {te : TE} (hte : teOk P te) {σ : Asg} : ∀ (n : Nat) (t : TypeId) (x y : SV) (z : Bool), eqAt te n t x y = some z → ∀ vx vy, rel σ x vx → rel σ y vy →
    (∀ d, n ≤ d → ∀ w, (Op.equalIn d t vx vy).run P w = .ok z w) ∧ (∀ l, x = .agg l → P.eqGuardType P.depth t = false) := by
  intro n
  induction n with
  | zero => intro t x y z h; simp [eqAt] at h
  | succ n ih =>
    intro t x y z h vx vy hx hy
    simp only [eqAt] at h
    split at h
    · cases h
    rename_i ti hti
    split at h
    · rename_i _ _ hk k a k' b htd
      split at h
      · rename_i hkk
        subst hkk
        simp only [rel] at hx hy
        subst hx hy
        simp only [Option.some.injEq] at h
        subst h
        refine ⟨fun d hd w => ?_, fun _ hl => by cases hl⟩
        obtain ⟨d, rfl⟩ : ∃ e, d = e + 1 := ⟨d - 1, by omega⟩
        rw [run_equalIn_int w d t k hk a b (und_int hte ((td_of_some hti).trans htd)), beq_dec]
      · cases h
    · rename_i _ _ a b htd
      simp only [rel] at hx hy
      subst hx hy
      simp only [Option.some.injEq] at h
      subst h
      refine ⟨fun d hd w => ?_, fun _ hl => by cases hl⟩
      obtain ⟨d, rfl⟩ : ∃ e, d = e + 1 := ⟨d - 1, by omega⟩
      rw [run_equalIn_bool' w d t a b (und_bool hte ((td_of_some hti).trans htd))]
    · rename_i _ _ a b htd
      simp only [rel] at hx hy
      subst hx hy
      simp only [Option.some.injEq] at h
      subst h
      refine ⟨fun d hd w => ?_, fun _ hl => by cases hl⟩
      obtain ⟨d, rfl⟩ : ∃ e, d = e + 1 := ⟨d - 1, by omega⟩
      rw [run_equalIn_string w d t _ _ (und_str hte ((td_of_some hti).trans htd)), ba_toList, ba_toList, beq_dec]
    · rename_i _ _ fs xs ys htd
      split at h
      · rename_i hcmp
        obtain ⟨hst, hg⟩ := (hte t ti hti).eq hcmp
        refine ⟨fun d hd w => ?_, fun _ _ => hg⟩
        obtain ⟨d, rfl⟩ : ∃ e, d = e + 1 := ⟨d - 1, by omega⟩
        obtain ⟨ff, hff, hmap, hnm⟩ := und_struct hte ((td_of_some hti).trans htd)
        simp only [rel] at hx hy
        obtain ⟨cs, rfl, hx⟩ := hx
        obtain ⟨ds, rfl, hy⟩ := hy
        have hfo : P.fieldsOf t = ff := by simp [Program.fieldsOf, hff]
        rw [run_equalIn_agg w d t cs ds (by rw [hfo]; exact hff) hst, hfo]
        have hd' : n ≤ d := by omega
        clear hff hfo hg hst hcmp htd hti
        generalize hl : ff.toList = l at *
        clear hl
        subst hmap
        induction l generalizing z with
        | nil => simp [eqFs] at h; simp [Op.eqFields, h]
        | cons f l ihl =>
          simp only [List.map_cons, eqFs] at h
          split at h
          case isFalse => cases h
          rename_i hoff
          obtain ⟨hox, hoy⟩ := hoff
          split at h
          · rename_i a b ha hb
            simp only [Option.some.injEq] at h
            subst h
            have hne : f.name ≠ "_" := hnm f (by simp)
            -- the part's type is known
            cases hft : te f.type with
            | none =>
              cases n with
              | zero => simp [eqAt] at ha
              | succ n => simp [eqAt, hft] at ha
            | some ti' =>
              have ho : ti'.td ≠ .other := by
                intro e
                cases n with
                | zero => simp [eqAt] at ha
                | succ n => simp [eqAt, hft, e] at ha
              obtain ⟨v1, r1, e1⟩ := partS_sound hte hft ho hx hox
              obtain ⟨v2, r2, e2⟩ := partS_sound hte hft ho hy hoy
              have e3 := (ih f.type _ _ a ha v1 v2 r1 r2).1 d hd' w
              simp only [Op.eqFields, hne, ne_eq, not_false_eq_true, if_true, Sem.run_bind, e1, e2, Result.andThen_ok, e3]
              cases a with
              | false => simp
              | true => simpa using ihl b (fun g hg => hnm g (List.mem_cons_of_mem _ hg)) hb
          · cases h
      · cases h
    · cases h

theorem xbin_sound {P : Program} {te : TE} (hte : teOk P te) {σ : Asg} {wr c : Bool} {op : BinOp} {x y : SV} {K : SV → Prop} {t : TypeId} {vx vy : Value} (ox oy : Operand)
    (hx : c = true → rel σ x vx) (hy : c = true → rel σ y vy) (h : xbin te t wr c op x y K) :
    ∃ z, K z ∧ (c = true → ∃ v, rel σ z v ∧ ∀ w, ((do eqGuard op t ox oy vx vy; Go.binOp op t vx vy) : Sem Value).run P w = .ok v w) := by
  unfold xbin at h
  split at h
  all_goals first
    | exact h.elim
    | skip
  case h_1 k a k' b =>
    obtain ⟨rfl, h⟩ := h
    split at h
    · refine ⟨_, h, fun hc => ?_⟩
      have h1 := hx hc
      have h2 := hy hc
      simp only [rel] at h1 h2
      subst h1 h2
      exact ⟨.int k (k.wrap (a + b)), by simp only [rel], fun w => by simp [eqGuard, Go.binOp, Op.intArith, Op.intDiv, Op.intBits, Op.intCmp, Op.shift, Op.stringOp]⟩
    · obtain ⟨h0, h⟩ := h.out
      refine ⟨_, h, fun hc => ?_⟩
      have h1 := hx hc
      have h2 := hy hc
      simp only [rel] at h1 h2
      subst h1 h2
      exact ⟨.int k (a + b), by simp only [rel], fun w => by simp [eqGuard, Go.binOp, Op.intArith, Op.intDiv, Op.intBits, Op.intCmp, Op.shift, Op.stringOp, inR_wrap (h0 hc)]⟩
  case h_2 k a k' b =>
    obtain ⟨rfl, h⟩ := h
    split at h
    · refine ⟨_, h, fun hc => ?_⟩
      have h1 := hx hc
      have h2 := hy hc
      simp only [rel] at h1 h2
      subst h1 h2
      exact ⟨.int k (k.wrap (a - b)), by simp only [rel], fun w => by simp [eqGuard, Go.binOp, Op.intArith, Op.intDiv, Op.intBits, Op.intCmp, Op.shift, Op.stringOp]⟩
    · obtain ⟨h0, h⟩ := h.out
      refine ⟨_, h, fun hc => ?_⟩
      have h1 := hx hc
      have h2 := hy hc
      simp only [rel] at h1 h2
      subst h1 h2
      exact ⟨.int k (a - b), by simp only [rel], fun w => by simp [eqGuard, Go.binOp, Op.intArith, Op.intDiv, Op.intBits, Op.intCmp, Op.shift, Op.stringOp, inR_wrap (h0 hc)]⟩
  case h_3 k a k' b =>
    obtain ⟨rfl, h⟩ := h
    split at h
    · refine ⟨_, h, fun hc => ?_⟩
      have h1 := hx hc
      have h2 := hy hc
      simp only [rel] at h1 h2
      subst h1 h2
      exact ⟨.int k (k.wrap (a * b)), by simp only [rel], fun w => by simp [eqGuard, Go.binOp, Op.intArith, Op.intDiv, Op.intBits, Op.intCmp, Op.shift, Op.stringOp]⟩
    · obtain ⟨h0, h⟩ := h.out
      refine ⟨_, h, fun hc => ?_⟩
      have h1 := hx hc
      have h2 := hy hc
      simp only [rel] at h1 h2
      subst h1 h2
      exact ⟨.int k (a * b), by simp only [rel], fun w => by simp [eqGuard, Go.binOp, Op.intArith, Op.intDiv, Op.intBits, Op.intCmp, Op.shift, Op.stringOp, inR_wrap (h0 hc)]⟩
  case h_4 k a k' b =>
    obtain ⟨rfl, hb, h⟩ := h
    obtain ⟨h0, h⟩ := h.out
    refine ⟨_, h, fun hc => ?_⟩
    have h1 := hx hc
    have h2 := hy hc
    simp only [rel] at h1 h2
    subst h1 h2
    exact ⟨.int k (a.tdiv b), by simp only [rel], fun w => by simp [eqGuard, Go.binOp, Op.intArith, Op.intDiv, Op.intBits, Op.intCmp, Op.shift, Op.stringOp, inR_wrap (h0 hc), hb]⟩
  case h_5 k a k' b =>
    obtain ⟨rfl, h⟩ := h
    obtain ⟨h0, h⟩ := h.out
    refine ⟨_, h, fun hc => ?_⟩
    have h1 := hx hc
    have h2 := hy hc
    simp only [rel] at h1 h2
    subst h1 h2
    exact ⟨.int k (a.tmod b), by simp only [rel], fun w => by simp [eqGuard, Go.binOp, Op.intArith, Op.intDiv, Op.intBits, Op.intCmp, Op.shift, Op.stringOp, h0 hc]⟩
  case h_6 k a k' b =>
    obtain ⟨rfl, h⟩ := h
    refine ⟨_, h, fun hc => ?_⟩
    have h1 := hx hc
    have h2 := hy hc
    simp only [rel] at h1 h2
    subst h1 h2
    exact ⟨.int k (k.wrap ((BitVec.ofInt k.bits a &&& BitVec.ofInt k.bits b).toNat)), by simp only [rel], fun w => by simp [eqGuard, Go.binOp, Op.intArith, Op.intDiv, Op.intBits, Op.intCmp, Op.shift, Op.stringOp]⟩
  case h_7 k a k' b =>
    obtain ⟨rfl, h⟩ := h
    refine ⟨_, h, fun hc => ?_⟩
    have h1 := hx hc
    have h2 := hy hc
    simp only [rel] at h1 h2
    subst h1 h2
    exact ⟨.int k (k.wrap ((BitVec.ofInt k.bits a ^^^ BitVec.ofInt k.bits b).toNat)), by simp only [rel], fun w => by simp [eqGuard, Go.binOp, Op.intArith, Op.intDiv, Op.intBits, Op.intCmp, Op.shift, Op.stringOp]⟩
  case h_8 k a yk b =>
    obtain ⟨hb, h⟩ := h
    refine ⟨_, h, fun hc => ?_⟩
    have h1 := hx hc
    have h2 := hy hc
    simp only [rel] at h1 h2
    subst h1 h2
    exact ⟨.int k (a.fdiv (2 ^ (min b.toNat k.bits))), by simp only [rel], fun w => by simp [eqGuard, Go.binOp, Op.intArith, Op.intDiv, Op.intBits, Op.intCmp, Op.shift, Op.stringOp, show ¬ b < 0 by omega]⟩
  case h_9 k a k' b =>
    obtain ⟨rfl, h⟩ := h
    refine ⟨_, h, fun hc => ?_⟩
    have h1 := hx hc
    have h2 := hy hc
    simp only [rel] at h1 h2
    subst h1 h2
    exact ⟨.bool (decide (a = b)), by simp only [rel], fun w => by simp [eqGuard, Go.binOp, Op.intArith, Op.intDiv, Op.intBits, Op.intCmp, Op.shift, Op.stringOp, beq_dec, bne]⟩
  case h_10 k a k' b =>
    obtain ⟨rfl, h⟩ := h
    refine ⟨_, h, fun hc => ?_⟩
    have h1 := hx hc
    have h2 := hy hc
    simp only [rel] at h1 h2
    subst h1 h2
    exact ⟨.bool (!decide (a = b)), by simp only [rel], fun w => by simp [eqGuard, Go.binOp, Op.intArith, Op.intDiv, Op.intBits, Op.intCmp, Op.shift, Op.stringOp, beq_dec, bne]⟩
  case h_11 k a k' b =>
    obtain ⟨rfl, h⟩ := h
    refine ⟨_, h, fun hc => ?_⟩
    have h1 := hx hc
    have h2 := hy hc
    simp only [rel] at h1 h2
    subst h1 h2
    exact ⟨.bool (decide (a < b)), by simp only [rel], fun w => by simp [eqGuard, Go.binOp, Op.intArith, Op.intDiv, Op.intBits, Op.intCmp, Op.shift, Op.stringOp]⟩
  case h_12 k a k' b =>
    obtain ⟨rfl, h⟩ := h
    refine ⟨_, h, fun hc => ?_⟩
    have h1 := hx hc
    have h2 := hy hc
    simp only [rel] at h1 h2
    subst h1 h2
    exact ⟨.bool (decide (a ≤ b)), by simp only [rel], fun w => by simp [eqGuard, Go.binOp, Op.intArith, Op.intDiv, Op.intBits, Op.intCmp, Op.shift, Op.stringOp]⟩
  case h_13 k a k' b =>
    obtain ⟨rfl, h⟩ := h
    refine ⟨_, h, fun hc => ?_⟩
    have h1 := hx hc
    have h2 := hy hc
    simp only [rel] at h1 h2
    subst h1 h2
    exact ⟨.bool (decide (a > b)), by simp only [rel], fun w => by simp [eqGuard, Go.binOp, Op.intArith, Op.intDiv, Op.intBits, Op.intCmp, Op.shift, Op.stringOp]⟩
  case h_14 k a k' b =>
    obtain ⟨rfl, h⟩ := h
    refine ⟨_, h, fun hc => ?_⟩
    have h1 := hx hc
    have h2 := hy hc
    simp only [rel] at h1 h2
    subst h1 h2
    exact ⟨.bool (decide (a ≥ b)), by simp only [rel], fun w => by simp [eqGuard, Go.binOp, Op.intArith, Op.intDiv, Op.intBits, Op.intCmp, Op.shift, Op.stringOp]⟩
  case h_15 a b =>
    obtain ⟨h0, h⟩ := h.out
    refine ⟨_, h, fun hc => ?_⟩
    have h1 := hx hc
    have h2 := hy hc
    simp only [rel] at h1 h2
    subst h1 h2
    exact ⟨.string ⟨(a ++ b).toArray⟩, by simp only [rel], fun w => by simp [eqGuard, Go.binOp, Op.intArith, Op.intDiv, Op.intBits, Op.intCmp, Op.shift, Op.stringOp, ba_append, show ¬ (9223372036854775807 < (a.length : Int) + (b.length : Int)) by have := h0 hc; omega, IntKind.max, IntKind.bits, IntKind.signed, ByteArray.size]⟩
  case h_16 a b =>
    refine ⟨_, h, fun hc => ?_⟩
    have h1 := hx hc
    have h2 := hy hc
    simp only [rel] at h1 h2
    subst h1 h2
    refine ⟨.bool (decide (a = b)), by simp only [rel], fun w => ?_⟩
    simp only [eqGuard, Go.binOp, Op.stringOp, ba_toList, beq_dec]
    rfl
  case h_17 a b =>
    refine ⟨_, h, fun hc => ?_⟩
    have h1 := hx hc
    have h2 := hy hc
    simp only [rel] at h1 h2
    subst h1 h2
    refine ⟨.bool (!decide (a = b)), by simp only [rel], fun w => ?_⟩
    simp only [eqGuard, Go.binOp, Op.stringOp, ba_toList, beq_dec]
    rfl
  case h_18 a b =>
    obtain ⟨ht, h⟩ := h
    refine ⟨_, h, fun hc => ?_⟩
    have h1 := hx hc
    have h2 := hy hc
    simp only [rel] at h1 h2
    subst h1 h2
    refine ⟨.bool (a == b), by simp only [rel], fun w => ?_⟩
    simp [eqGuard, Go.binOp, Op.equal, Op.maxDepth, run_equalIn_bool' w _ t a b (und_bool hte ht)]
  case h_19 a b =>
    obtain ⟨ht, h⟩ := h
    refine ⟨_, h, fun hc => ?_⟩
    have h1 := hx hc
    have h2 := hy hc
    simp only [rel] at h1 h2
    subst h1 h2
    refine ⟨.bool (!(a == b)), by simp only [rel], fun w => ?_⟩
    simp [eqGuard, Go.binOp, Op.equal, Op.maxDepth, run_equalIn_bool' w _ t a b (und_bool hte ht)]
  case h_20 a b =>
    split at h
    · rename_i z hz
      refine ⟨_, h, fun hc => ?_⟩
      have h1 := hx hc
      have h2 := hy hc
      refine ⟨.bool z, by simp only [rel], fun w => ?_⟩
      obtain ⟨e1, e2⟩ := eqAt_sound hte 4 t _ _ z hz vx vy h1 h2
      have e1' := e1 10000 (by omega) w
      clear hx hy
      simp only [rel] at h1 h2
      obtain ⟨cs, rfl, h1⟩ := h1
      obtain ⟨ds, rfl, h2⟩ := h2
      clear e1 h1 h2
      simp [run_eqGuard_agg w .eql t ox oy cs ds (e2 _ rfl), run_eql_struct, e1']
    · exact h.elim
  case h_21 a b =>
    split at h
    · rename_i z hz
      refine ⟨_, h, fun hc => ?_⟩
      have h1 := hx hc
      have h2 := hy hc
      refine ⟨.bool (!z), by simp only [rel], fun w => ?_⟩
      obtain ⟨e1, e2⟩ := eqAt_sound hte 4 t _ _ z hz vx vy h1 h2
      have e1' := e1 10000 (by omega) w
      clear hx hy
      simp only [rel] at h1 h2
      obtain ⟨cs, rfl, h1⟩ := h1
      obtain ⟨ds, rfl, h2⟩ := h2
      clear e1 h1 h2
      simp [run_eqGuard_agg w .neq t ox oy cs ds (e2 _ rfl), run_neq_struct, e1']
    · exact h.elim
end Go.Vg
end
section
set_option linter.unusedVariables false
set_option linter.unusedSimpArgs false
namespace Go.Vg
set_option linter.unusedSectionVars false
variable [Go.Vg.Glob]
set_option linter.unusedVariables false
set_option linter.unusedSimpArgs false
open Go.RowKit

def cellsOf : SV → List SV
  | .agg l => l
  | x => [x]

/-- Parts laid into the cells of an aggregate. -/
def fillS (te : TE) (fs : List (TypeId × Nat)) (cs : List SV) : List (Nat × SV) → Option (List SV)
  | [] => some cs
  | (i, x) :: r => match fs[i]? with
    | none => none
    | some (t, off) => match te t with
      | none => none
      | some ti => if (cellsOf x).length = ti.size ∧ off + ti.size ≤ cs.length then fillS te fs (cs.take off ++ (cellsOf x ++ cs.drop (off + ti.size))) r else none

def okCell : SV → Bool
  | .gd _ _ | .u | .tup _ => false
  | _ => true

def xconv (te : TE) (wr c : Bool) (d : TypeId) (x : SV) (K : SV → Prop) : Prop :=
  match tdOf te d, x with
  | .int k, .i _ n => if wr then K (.i k (k.wrap n)) else Chk (c = true → inR k n) (K (.i k n))
  | .str, .s l => K (.s l)
  | .str, .i _ n => K (.s (Utf8.encode n).data.toList)
  | _, _ => False

/-- A bound of a cut: the operand, or what stands for none. -/
def bndS (st : St) (c : Bool) (o : Option Operand) (d : Int) (K : Int → Prop) : Prop :=
  match o with
  | none => K d
  | some x => ung c (st.ev x) fun v => match v with
    | .i _ n => K n
    | _ => False

def xcut (te : TE) (t : TypeId) (st : St) (c : Bool) (x : SV) (lo hi : Option Operand) (K : SV → Prop) : Prop :=
  match tdOf te t, x with
  | .str, .s l => bndS st c hi l.length fun h => bndS st c lo 0 fun b => Chk (c = true → 0 ≤ b ∧ b ≤ h ∧ h ≤ l.length) (K (.s ((l.take h.toNat).drop b.toNat)))
  | .slice e, .slc h a len => (match st.ctx.at h with | some o => o.isMap = false ∧ te e ≠ none ∧ szOf te e = o.sz | none => False) ∧
      bndS st c hi len fun y => bndS st c lo 0 fun b => Chk (c = true → 0 ≤ b ∧ b ≤ y ∧ y ≤ len) (K (.slc h (a + b.toNat) (y.toNat - b.toNat)))
  | .slice e, .fs sz l => te e ≠ none ∧ szOf te e = sz ∧
      bndS st c hi l.length fun y => bndS st c lo 0 fun b => Chk (c = true → 0 ≤ b ∧ b ≤ y ∧ y ≤ l.length) (K (.fs sz ((l.take y.toNat).drop b.toNat)))
  | _, _ => False

def xpure (te : TE) (wr c : Bool) (st : St) (o : Op) (K : SV → Prop) : Prop :=
  match o with
  | .move x => K (st.ev x)
  | .assign x => K (st.ev x)
  | .pick e a b => ung c (st.ev e) fun e' => match e' with
    | .b e0 => ung (c && e0) (st.ev a) fun a' => ung (c && !e0) (st.ev b) fun b' => match a', b' with
      | .b x, .b y => K (.b (bif e0 then x else y))
      | _, _ => False
    | _ => False
  | .nilCheck x => ung c (st.ev x) fun v => match v with
    | .ptr h i k => K (.ptr h i k)
    | .fp l k => K (.fp l k)
    | _ => False
  | .fieldAddr s x f => ung c (st.ev x) fun v => match v, tdOf te s with
    | .ptr h i k, .struct fs => match fs[f]? with
      | some (ft, off) => te ft ≠ none ∧ szOf te ft ≠ 0 ∧ K (.ptr h i (k + off))
      | none => False
    | .fp l k, .struct fs => match fs[f]? with
      | some (ft, off) => te ft ≠ none ∧ szOf te ft ≠ 0 ∧ K (.fp l (k + off))
      | none => False
    | _, _ => False
  | .indexAddr t x ix => ung c (st.ev x) fun v => ung c (st.ev ix) fun n => match v, n, tdOf te t with
    | .slc h lo len, .i _ n, .slice e => (match st.ctx.at h with | some o => o.isMap = false ∧ te e ≠ none ∧ szOf te e = o.sz | none => False) ∧
        Chk (c = true → 0 ≤ n ∧ n < len) (K (.ptr h (lo + n.toNat) 0))
    | .fs sz l, .i _ n, .slice e => te e ≠ none ∧ szOf te e = sz ∧ Chk (c = true → 0 ≤ n ∧ n < l.length) (K (.fp (l.getD n.toNat (zeroOf te e)) 0))
    | _, _, _ => False
  | .index t x ix => ung c (st.ev x) fun v => ung c (st.ev ix) fun n => match v, n, tdOf te t with
    | .s l, .i _ n, .str => Chk (c = true → 0 ≤ n ∧ n < l.length) (K (.i .u8 (l.getD n.toNat 0).toNat))
    | _, _, _ => False
  | .extract x i => ung c (st.ev x) fun v => match v with
    | .tup l => i < l.length ∧ K (l.getD i .u)
    | _ => False
  | .binOp op t x y _ => ung c (st.ev x) fun v => ung c (st.ev y) fun y => xbin te t wr c op v y K
  | .unOp .not _ x => ung c (st.ev x) fun v => match v with
    | .b b => K (.b (!b))
    | _ => False
  | .unOp .neg _ x => ung c (st.ev x) fun v => match v with
    | .i k n => Chk (c = true → inR k (0 - n)) (K (.i k (0 - n)))
    | _ => False
  | .convert s d x => te s ≠ none ∧ ung c (st.ev x) fun v => xconv te wr c d v K
  | .slice t x lo hi none => ung c (st.ev x) fun v => xcut te t st c v lo hi K
  | .build t parts => match te t with
    | some ti => match ti.td with
      | .struct fs => (parts.toList.all fun p => okCell (st.ev p.2)) = true ∧ (fs.all fun p => (te p.1).isSome) = true ∧
          match fillS te fs ti.zero (parts.toList.map fun p => (p.1, st.ev p.2)) with
          | some l => K (.agg l)
          | none => False
      | _ => False
    | none => False
  | .call { callee := .builtin .len, args := args, argTypes := ts } => match args.toList, ts.toList with
    | [x], [t] => ung c (st.ev x) fun v => match v, tdOf te t with
      | .s l, .str => K (.i .i64 l.length)
      | .slc _ _ len, .slice _ => K (.i .i64 len)
      | .fs _ l, .slice _ => K (.i .i64 l.length)
      | .nils, .slice _ => K (.i .i64 0)
      | _, _ => False
    | _, _ => False
  | .call { callee := .builtin .min, args := args, argTypes := _ } => match args.toList with
    | [x, y] => ung c (st.ev x) fun v => ung c (st.ev y) fun q => match v, q with
      | .i k a, .i _ b => K (.i k (if b < a then b else a))
      | _, _ => False
    | _ => False
  | .call { callee := .builtin .max, args := args, argTypes := _ } => match args.toList with
    | [x, y] => ung c (st.ev x) fun v => ung c (st.ev y) fun q => match v, q with
      | .i k a, .i _ b => K (.i k (if b > a then b else a))
      | _, _ => False
    | _ => False
  | _ => False

/-- What an operation that looks at no memory comes to. -/
def OutP (P : Program) (σ : Asg) (c : Bool) (s : Sem Next) (K : SV → Prop) : Prop :=
  ∃ z, K z ∧ (c = true → ∃ v, rel σ z v ∧ ∀ w, s.run P w = .ok (.value v) w)


theorem lift_val {P : Program} {s : Sem Value} {v : Value} {w w' : World} (h : s.run P w = .ok v w') :
    ((do pure (Next.value (← s))) : Sem Next).run P w = .ok (.value v) w' := by simp [h]

theorem bndS_sound {P : Program} {A : Amb} {σ : Asg} {st : St} {a : Act} {w : World} (hR : Rel A σ st a w) {c : Bool} {o : Option Operand} {d : Int} {K : Int → Prop}
    (h : bndS st c o d K) : ∃ n, K n ∧ (c = true → match o with | none => n = d | some x => ∃ k, a.eval x = .int k n) := by
  unfold bndS at h
  cases o with
  | none => exact ⟨d, h, fun _ => rfl⟩
  | some x =>
    obtain ⟨y, hy, hr⟩ := ung_sound (hR.ev x) h
    split at hy
    · rename_i k n
      refine ⟨n, hy, fun hc => ⟨k, ?_⟩⟩
      have := hr hc
      simpa only [rel] using this
    · exact hy.elim

theorem run_sliceBound {P : Program} (k : IntKind) (n : Int) (y : Nat) (code : BoundsCode) (w : World) (h0 : 0 ≤ n) (h1 : n ≤ y) : (Instr.sliceBound (.int k n) y code).run P w = .ok n.toNat w := by
  simp [Instr.sliceBound, asIntOf, h0, h1]

theorem run_bounds {P : Program} (isSlice : Bool) (len cap : Nat) (lo hi : Option Value) (b y : Int) (w : World)
    (hl : match lo with | none => b = 0 | some x => ∃ k, x = .int k b) (hh : match hi with | none => y = len | some x => ∃ k, x = .int k y)
    (h0 : 0 ≤ b) (h1 : b ≤ y) (h2 : y ≤ cap) : (Instr.sliceBounds isSlice len cap lo hi none).run P w = .ok (b.toNat, y.toNat, cap) w := by
  unfold Instr.sliceBounds
  cases hi with
  | none =>
    subst hh
    cases lo with
    | none => subst hl; simp
    | some x =>
      obtain ⟨k, rfl⟩ := hl
      simp [run_sliceBound k b len _ w h0 h1]
  | some z =>
    obtain ⟨k', rfl⟩ := hh
    cases lo with
    | none => subst hl; simp [run_sliceBound k' y cap _ w (by omega) h2]
    | some x =>
      obtain ⟨k, rfl⟩ := hl
      simp [run_sliceBound k' y cap _ w (by omega) h2, run_sliceBound k b y.toNat _ w h0 (by omega)]

theorem ba_extract (l : List UInt8) (a b : Nat) : (ByteArray.mk l.toArray).extract a b = ByteArray.mk ((l.take b).drop a).toArray := by
  ext1
  simp [ByteArray.data_extract, List.extract_eq_take_drop, List.drop_take]

theorem live_sz {P : Program} {te : TE} (hte : teOk P te) {σ : Asg} {w : World} {st : St} (hs : Sat σ w st.ctx) {h : Nat} {e : TypeId}
    (hl : match st.ctx.at h with | some o => o.isMap = false ∧ te e ≠ none ∧ szOf te e = o.sz | none => False) :
    ∃ ti, te e = some ti ∧ ∀ L, σ h = some L → L.sz = ti.size := by
  cases ho : st.ctx.at h with
  | none => rw [ho] at hl; exact hl.elim
  | some o =>
    rw [ho] at hl
    obtain ⟨hm, hne, hsz⟩ := hl
    obtain ⟨ti, hti⟩ := Option.ne_none_iff_exists'.1 hne
    refine ⟨ti, hti, fun L hL => ?_⟩
    have h1 := hs.obj h o ho
    unfold objSat at h1
    rw [hm] at h1
    simp only [szOf, hti] at hsz
    rcases h1 with ⟨_, h2⟩ | ⟨L', c, e', fr, h2, h3⟩
    · rw [h2] at hL; cases hL
    · rw [h2] at hL
      cases hL
      rw [h3.lsz, hsz]

theorem xcut_sound {P : Program} {te : TE} (hte : teOk P te) {A : Amb} {σ : Asg} {st : St} {a : Act} {w : World} (hR : Rel A σ st a w) {c : Bool} {t : TypeId} {x : SV} {vx : Value} {lo hi : Option Operand} {K : SV → Prop}
    (hx : c = true → rel σ x vx) (h : xcut te t st c x lo hi K) :
    ∃ z, K z ∧ (c = true → ∃ v, rel σ z v ∧ ∀ w, (Instr.sliceAt t vx (lo.map a.eval) (hi.map a.eval) none).run P w = .ok v w) := by
  unfold xcut at h
  split at h
  · rename_i l htd
    obtain ⟨y, h, hhi⟩ := bndS_sound (P := P) hR h
    obtain ⟨b, h, hlo⟩ := bndS_sound (P := P) hR h
    obtain ⟨hb, h⟩ := h.out
    refine ⟨_, h, fun hc => ?_⟩
    have h1 := hx hc
    simp only [rel] at h1
    subst h1
    refine ⟨.string ⟨((l.take y.toNat).drop b.toNat).toArray⟩, by simp only [rel], fun w => ?_⟩
    obtain ⟨b0, b1, b2⟩ := hb hc
    have hl' : match lo.map a.eval with | none => b = 0 | some x => ∃ k, x = .int k b := by
      have := hlo hc
      cases lo <;> simpa using this
    have hh' : match hi.map a.eval with | none => y = ((ByteArray.mk l.toArray).size : Nat) | some x => ∃ k, x = .int k y := by
      have := hhi hc
      cases hi <;> simpa [ByteArray.size] using this
    simp only [Instr.sliceAt, Sem.run_bind, run_und (und_str hte htd), Result.andThen_ok, Instr.slice]
    simp [run_bounds false (ByteArray.mk l.toArray).size (ByteArray.mk l.toArray).size _ _ b y w hl' hh' b0 b1 (by simpa [ByteArray.size] using b2), ba_extract]
  · rename_i e h' aa len htd
    obtain ⟨hlive, h⟩ := h
    obtain ⟨y, h, hhi⟩ := bndS_sound (P := P) hR h
    obtain ⟨b, h, hlo⟩ := bndS_sound (P := P) hR h
    obtain ⟨hb, h⟩ := h.out
    refine ⟨_, h, fun hc => ?_⟩
    have h1 := hx hc
    simp only [rel] at h1
    obtain ⟨ad, cap, rfl, hlen, h1⟩ := h1
    obtain ⟨b0, b1, b2⟩ := hb hc
    obtain ⟨ti, hti, hsz⟩ := live_sz hte hR.sat hlive
    have hl' : match lo.map a.eval with | none => b = 0 | some x => ∃ k, x = .int k b := by
      have := hlo hc
      cases lo <;> simpa using this
    have hh' : match hi.map a.eval with | none => y = (len : Nat) | some x => ∃ k, x = .int k y := by
      have := hhi hc
      cases hi <;> simpa using this
    refine ⟨.slice (if cap = b.toNat then ad else ad.map (·.add (b.toNat * ti.size))) (y.toNat - b.toNat) (cap - b.toNat), ?_, fun w => ?_⟩
    · simp only [rel]
      refine ⟨_, _, rfl, by omega, ?_⟩
      by_cases hcb : cap = b.toNat
      · left; omega
      · right
        rcases h1 with h1 | ⟨L, hL, rfl, hav⟩
        · omega
        · refine ⟨L, hL, ?_, ?_⟩
          · rw [if_neg hcb, ← hsz L hL]
            simp only [Option.map_some, addrOf, Addr.add, Option.some.injEq]
            split
            · rename_i h0
              simp only [Addr.mk.injEq, and_true, true_and]
              rcases Nat.mul_eq_zero.1 h0 with h0 | h0
              · rw [h0]; simp
              · rw [h0]; simp
            · simp only [Addr.mk.injEq, and_true, true_and]
              rw [Nat.add_mul]; omega
          · have : (aa + b.toNat + (cap - b.toNat)) = aa + cap := by omega
            rw [this]; exact hav
    · simp only [Instr.sliceAt, Sem.run_bind, run_und (und_slice hte htd), Result.andThen_ok, Instr.slice]
      simp [run_bounds true len cap _ _ b y w hl' hh' b0 b1 (by omega), run_size hte hti]
  · rename_i e sz l htd
    obtain ⟨hne, hsz, h⟩ := h
    obtain ⟨ti, hti⟩ := Option.ne_none_iff_exists'.1 hne
    have hsz' : ti.size = sz := by simpa [szOf, hti] using hsz
    obtain ⟨y, h, hhi⟩ := bndS_sound (P := P) hR h
    obtain ⟨b, h, hlo⟩ := bndS_sound (P := P) hR h
    obtain ⟨hb, h⟩ := h.out
    refine ⟨_, h, fun hc => ?_⟩
    have h1 := hx hc
    simp only [rel] at h1
    obtain ⟨ad, cap, rfl, hlen, h1⟩ := h1
    obtain ⟨b0, b1, b2⟩ := hb hc
    have hl' : match lo.map a.eval with | none => b = 0 | some x => ∃ k, x = .int k b := by
      have := hlo hc
      cases lo <;> simpa using this
    have hh' : match hi.map a.eval with | none => y = (l.length : Nat) | some x => ∃ k, x = .int k y := by
      have := hhi hc
      cases hi <;> simpa using this
    refine ⟨.slice (if cap = b.toNat then ad else ad.map (·.add (b.toNat * ti.size))) (y.toNat - b.toNat) (cap - b.toNat), ?_, fun w => ?_⟩
    · simp only [rel]
      have hlen2 : ((l.take y.toNat).drop b.toNat).length = y.toNat - b.toNat := by simp; omega
      refine ⟨_, _, by rw [hlen2], by omega, ?_⟩
      by_cases hcb : y.toNat = b.toNat
      · left
        exact List.length_eq_zero_iff.1 (by omega)
      · right
        rcases h1 with h1 | ⟨bb, off, cs, e', fr, rfl, h2, h3⟩
        · subst h1; simp at b2; omega
        · refine ⟨bb, off + b.toNat * sz, cs, e', fr, ?_, h2, relR_of_get fun j x hx => ?_⟩
          · rw [if_neg (by omega), hsz']
            simp only [Option.map_some, Addr.add, Option.some.injEq]
            split
            · rename_i h0; rw [h0]; simp
            · rfl
          · rw [List.getElem?_drop, List.getElem?_take] at hx
            split at hx
            · have := relR_get h3 hx
              rw [List.drop_drop] at this ⊢
              rw [show off + b.toNat * sz + j * sz = off + (b.toNat + j) * sz by rw [Nat.add_mul]; omega]
              exact this
            · cases hx
    · simp only [Instr.sliceAt, Sem.run_bind, run_und (und_slice hte htd), Result.andThen_ok, Instr.slice]
      simp [run_bounds true l.length cap _ _ b y w hl' hh' b0 b1 (by omega), run_size hte hti]
  · exact h.elim

theorem xconv_sound {P : Program} {te : TE} (hte : teOk P te) {σ : Asg} {wr c : Bool} {s d : TypeId} (hs : te s ≠ none) {x : SV} {vx : Value} {K : SV → Prop}
    (hx : c = true → rel σ x vx) (h : xconv te wr c d x K) : ∃ z, K z ∧ (c = true → ∃ v, rel σ z v ∧ ∀ w, (convert s d vx).run P w = .ok v w) := by
  obtain ⟨ti, hti⟩ := Option.ne_none_iff_exists'.1 hs
  obtain ⟨ds, hds, _⟩ := desc_of hte hti
  unfold xconv at h
  split at h
  · rename_i k k' n htd
    split at h
    · refine ⟨_, h, fun hc => ?_⟩
      have h1 := hx hc
      simp only [rel] at h1
      subst h1
      exact ⟨.int k (k.wrap n), by simp only [rel], fun w => by simp [convert, run_und hds, run_und (und_int hte htd), Conv.intToInt]⟩
    · obtain ⟨h0, h⟩ := h.out
      refine ⟨_, h, fun hc => ?_⟩
      have h1 := hx hc
      simp only [rel] at h1
      subst h1
      exact ⟨.int k n, by simp only [rel], fun w => by simp [convert, run_und hds, run_und (und_int hte htd), Conv.intToInt, inR_wrap (h0 hc)]⟩
  · rename_i l htd
    refine ⟨_, h, fun hc => ?_⟩
    have h1 := hx hc
    simp only [rel] at h1
    subst h1
    exact ⟨.string ⟨l.toArray⟩, by simp only [rel], fun w => by simp [convert, run_und hds, run_und (und_str hte htd)]⟩
  · rename_i k n htd
    refine ⟨_, h, fun hc => ?_⟩
    have h1 := hx hc
    simp only [rel] at h1
    subst h1
    exact ⟨.string (Utf8.encode n), by simp only [rel], fun w => by simp [convert, run_und hds, run_und (und_str hte htd), Conv.intToString]⟩
  · exact h.elim

theorem cellsOf_rel {σ : Asg} {x : SV} {v : Value} (hk : okCell x = true) (h : rel σ x v) : relL σ (cellsOf x) v.cells.toList := by
  cases x <;> simp only [okCell, Bool.false_eq_true] at hk <;> simp only [rel] at h <;> simp only [cellsOf]
  case agg l => obtain ⟨cs, rfl, h⟩ := h; exact h
  case b x => subst h; simp [Value.cells, relL, rel]
  case i x => subst h; simp [Value.cells, relL, rel]
  case s x => subst h; simp [Value.cells, relL, rel]
  case ptr x => obtain ⟨L, hL, rfl⟩ := h; simp [Value.cells, relL, rel, hL]
  case slc x =>
    obtain ⟨ad, cap, rfl, h1, h2⟩ := h
    simp only [Value.cells, relL, rel]
    exact ⟨_, _, rfl, ⟨_, _, rfl, h1, h2⟩, rfl⟩
  case nils => subst h; simp [Value.cells, relL, rel]
  case mp x => obtain ⟨L, hL, rfl⟩ := h; simp [Value.cells, relL, rel, hL]
  case fn x => subst h; simp [Value.cells, relL, rel]
  case fs x =>
    obtain ⟨ad, cap, rfl, h1, h2⟩ := h
    simp only [Value.cells, relL, rel]
    exact ⟨_, _, rfl, ⟨_, _, rfl, h1, h2⟩, rfl⟩
  case fp x =>
    obtain ⟨b, off, c, e, fr, rfl, h1, h2⟩ := h
    simp only [Value.cells, relL, rel]
    exact ⟨_, _, rfl, ⟨_, _, _, _, _, rfl, h1, h2⟩, rfl⟩

theorem relL_append {σ : Asg} : ∀ {a b : List SV} {u v : List Value}, relL σ a u → relL σ b v → relL σ (a ++ b) (u ++ v)
  | [], b, u, v, h, k => by simp only [relL] at h; subst h; simpa using k
  | x :: xs, b, u, v, h, k => by
    simp only [relL] at h
    obtain ⟨y, r, rfl, h1, h2⟩ := h
    simp only [List.cons_append, relL]
    exact ⟨y, r ++ v, rfl, h1, relL_append h2 k⟩

theorem foldl_set (cs : Array Value) (off : Nat) (vs : List Value) (hl : off + vs.length ≤ cs.size) : ∀ (k : Nat),
    ((vs.zipIdx k).foldl (fun cs (p : Value × Nat) => cs.setIfInBounds (off + p.2) p.1) cs).toList = cs.toList.take (off + k) ++ (vs ++ cs.toList.drop (off + k + vs.length)) ∨ cs.size < off + k + vs.length := by
  induction vs generalizing cs with
  | nil => intro k; left; simp
  | cons v vs ih =>
    intro k
    by_cases hk : cs.size < off + k + (v :: vs).length
    · exact .inr hk
    · left
      simp only [List.zipIdx_cons, List.foldl_cons]
      have hl' : off + vs.length ≤ (cs.setIfInBounds (off + k) v).size := by simp at hl ⊢; omega
      rcases ih (cs.setIfInBounds (off + k) v) hl' (k + 1) with h | h
      · rw [h]
        simp only [List.length_cons] at hk
        have hlt : off + k < cs.toList.length := by simp; omega
        simp only [Array.toList_setIfInBounds]
        rw [show off + (k + 1) = (off + k) + 1 by omega, List.take_succ_eq_append_getElem (by simpa using hlt)]
        simp only [List.getElem_set_self, List.take_set_of_le (Nat.le_refl _), List.append_assoc, List.cons_append, List.nil_append]
        rw [List.drop_set_of_lt (by omega)]
        congr 4
        simp; omega
      · simp at h hk; omega

theorem fillS_sound {P : Program} {te : TE} (hte : teOk P te) {σ : Asg} (fs : List (TypeId × Nat)) (pl : Array (Nat × Nat))
    (hpl : ∀ (i : Nat) (t : TypeId) (off : Nat) (ti : TI), fs[i]? = some (t, off) → te t = some ti → pl[i]? = some (off, ti.size)) :
    ∀ (ps : List (Nat × SV)) (vs : List (Nat × Value)) (cs : List SV) (cv : Array Value) (l : List SV), ps.length = vs.length →
      (∀ (j : Nat) (i : Nat) (x : SV), ps[j]? = some (i, x) → ∃ v, vs[j]? = some (i, v) ∧ okCell x = true ∧ rel σ x v) → relL σ cs cv.toList → fillS te fs cs ps = some l →
      ∃ out, Instr.fill (pl[·]?) cv vs = some out ∧ relL σ l out.toList
  | [], [], cs, cv, l, _, _, hr, h => by
    simp only [fillS, Option.some.injEq] at h
    subst h
    exact ⟨cv, rfl, hr⟩
  | (i, x) :: ps, (i', v) :: vs, cs, cv, l, hlen, hv, hr, h => by
    obtain ⟨v', e1, hok, hrx⟩ := hv 0 i x rfl
    simp only [List.getElem?_cons_zero, Option.some.injEq, Prod.mk.injEq] at e1
    obtain ⟨rfl, rfl⟩ := e1
    simp only [fillS] at h
    split at h
    · cases h
    rename_i t off hf
    split at h
    · cases h
    rename_i ti hti
    split at h
    · rename_i hc
      obtain ⟨hc1, hc2⟩ := hc
      have hrc := cellsOf_rel hok hrx
      have hl1 := relL_length hrc
      have hl2 := relL_length hr
      simp only [Array.length_toList] at hl1 hl2
      have hfold := foldl_set cv off v.cells.toList (by simp; omega) 0
      simp only [Array.length_toList, Nat.add_zero] at hfold
      rcases hfold with hfold | hfold
      · have hrel : relL σ (cs.take off ++ (cellsOf x ++ cs.drop (off + ti.size))) (v.cells.toList.zipIdx.foldl (fun cs (p : Value × Nat) => cs.setIfInBounds (off + p.2) p.1) cv).toList := by
          rw [hfold]
          refine relL_append (relL_take _ hr) (relL_append hrc ?_)
          have := relL_drop (off + ti.size) hr
          rw [show off + v.cells.size = off + ti.size by omega]
          exact this
        obtain ⟨out, ho, hro⟩ := fillS_sound hte fs pl hpl ps vs _ _ l (by simpa using hlen) (fun j i x hj => hv (j + 1) i x (by simpa using hj)) hrel h
        refine ⟨out, ?_, hro⟩
        simp only [Instr.fill, hpl i' t off ti hf hti]
        have hcond : ¬ (v.cells.size ≠ ti.size ∨ off + v.cells.size > cv.size) := by omega
        rw [if_neg (by simpa using hcond)]
        have hz : v.cells.zipIdx.foldl (fun cs (p : Value × Nat) => cs.setIfInBounds (off + p.2) p.1) cv = v.cells.toList.zipIdx.foldl (fun cs (p : Value × Nat) => cs.setIfInBounds (off + p.2) p.1) cv := by
          rw [← Array.foldl_toList]; simp
        have := ho
        rw [← hz] at this
        exact this
      · omega
    · cases h
  | [], _ :: _, _, _, _, h, _, _, _ => by simp at h
  | _ :: _, [], _, _, _, h, _, _, _ => by simp at h

theorem run_mapM_list {P : Program} {α β : Type} (f : α → Sem β) (g : α → β) (w : World) : ∀ (l : List α), (∀ x ∈ l, (f x).run P w = .ok (g x) w) → (l.mapM f).run P w = .ok (l.map g) w
  | [], _ => rfl
  | x :: xs, h => by
    simp [List.mapM_cons, h x (by simp), run_mapM_list f g w xs fun y hy => h y (List.mem_cons_of_mem _ hy)]

theorem run_mapM_arr {P : Program} {α β : Type} (l : Array α) (f : α → Sem β) (g : α → β) (w : World) (h : ∀ x ∈ l.toList, (f x).run P w = .ok (g x) w) : (l.mapM f).run P w = .ok (l.map g) w := by
  rw [Array.mapM_eq_mapM_toList]
  simp only [Sem.run_map, run_mapM_list f g w l.toList h, Result.andThen_ok]
  congr 1
  simp [← Array.toList_inj]

theorem run_asBool {P : Program} (b : Bool) (w : World) : (asBool (.bool b)).run P w = .ok b w := rfl

theorem te_some {te : TE} {t : TypeId} (h : te t ≠ none) : ∃ ti, te t = some ti := Option.ne_none_iff_exists'.1 h

theorem xpure_sound {P : Program} {te : TE} (hte : teOk P te) {A : Amb} {σ : Asg} {st : St} {a : Act} {w : World} (hR : Rel A σ st a w) {wr c : Bool} {o : Oper} {K : SV → Prop}
    (h : xpure te wr c st o.op K) : OutP P σ c (execOp a.eval o) K := by
  obtain ⟨dst, op, ty, pos, after, guard⟩ := o
  simp only at h
  unfold xpure at h
  split at h
  case h_1 x => exact ⟨_, h, fun _ => ⟨_, hR.ev x, fun w => rfl⟩⟩
  case h_2 x => exact ⟨_, h, fun _ => ⟨_, hR.ev x, fun w => rfl⟩⟩
  case h_3 e a1 b1 =>
    obtain ⟨y, h, hr⟩ := ung_sound (hR.ev e) h
    split at h
    · rename_i e0
      obtain ⟨y1, h, hr1⟩ := ung_sound (hR.ev a1) h
      obtain ⟨y2, h, hr2⟩ := ung_sound (hR.ev b1) h
      split at h
      · rename_i x1 x2 _
        refine ⟨_, h, fun hc => ⟨.bool (bif e0 then x1 else x2), by simp only [rel], fun w => ?_⟩⟩
        have h0 := hr hc
        simp only [rel] at h0
        simp only [execOp, h0, Sem.run_bind, run_asBool, Result.andThen_ok]
        cases e0 with
        | true =>
          have := hr1 (by simp [hc])
          simp only [rel] at this
          simp [this]
        | false =>
          have := hr2 (by simp [hc])
          simp only [rel] at this
          simp [this]
      · exact h.elim
    · exact h.elim
  case h_4 x =>
    obtain ⟨y, h, hr⟩ := ung_sound (hR.ev x) h
    split at h
    · rename_i hh i k
      refine ⟨_, h, fun hc => ⟨_, hr hc, fun w => ?_⟩⟩
      have := hr hc
      simp only [rel] at this
      obtain ⟨L, hL, hv⟩ := this
      simp [execOp, hv]
    · rename_i l k
      refine ⟨_, h, fun hc => ⟨_, hr hc, fun w => ?_⟩⟩
      have := hr hc
      simp only [rel] at this
      obtain ⟨b, off, c, e, fr, hv, _⟩ := this
      simp [execOp, hv]
    · exact h.elim
  case h_5 s x f =>
    obtain ⟨y, h, hr⟩ := ung_sound (hR.ev x) h
    split at h
    · rename_i hh i k fs htd
      split at h
      · rename_i ft off hf
        obtain ⟨hft, hz, h⟩ := h
        obtain ⟨ti, hti⟩ := te_some hft
        refine ⟨_, h, fun hc => ?_⟩
        have := hr hc
        simp only [rel] at this
        obtain ⟨L, hL, hv⟩ := this
        refine ⟨.pointer (some (addrOf L i (k + off))), by simp only [rel]; exact ⟨L, hL, rfl⟩, fun w => ?_⟩
        obtain ⟨ff, hff, hmap, _⟩ := und_struct hte htd
        have hfl : ∃ fl, ff[f]? = some fl ∧ fl.type = ft ∧ fl.offset = off := by
          rw [← hmap] at hf
          simp only [List.getElem?_map, Option.map_eq_some_iff, Prod.mk.injEq] at hf
          obtain ⟨fl, h1, h2, h3⟩ := hf
          exact ⟨fl, by simpa using h1, h2, h3⟩
        obtain ⟨fl, hfl, rfl, rfl⟩ := hfl
        have hz' : ti.size ≠ 0 := by simpa [szOf, hti] using hz
        simp only [execOp, Instr.fieldAt, hv, Sem.run_bind, run_und hff, Result.andThen_ok, hfl, Instr.sureAddr, fieldPlace, run_size hte hti, if_neg hz', Sem.run_pure]
        simp only [Addr.add, addrOf]
        split
        · rename_i h0; simp [h0]
        · simp [Nat.add_assoc]
      · exact h.elim
    · rename_i l k fs htd
      split at h
      · rename_i ft off hf
        obtain ⟨hft, hz, h⟩ := h
        obtain ⟨ti, hti⟩ := te_some hft
        refine ⟨_, h, fun hc => ?_⟩
        have := hr hc
        simp only [rel] at this
        obtain ⟨b, bo, c, e, fr, hv, hfz, hrl⟩ := this
        refine ⟨.pointer (some ⟨b, bo + (k + off), none⟩), by simp only [rel]; exact ⟨b, bo, c, e, fr, rfl, hfz, hrl⟩, fun w => ?_⟩
        obtain ⟨ff, hff, hmap, _⟩ := und_struct hte htd
        have hfl : ∃ fl, ff[f]? = some fl ∧ fl.type = ft ∧ fl.offset = off := by
          rw [← hmap] at hf
          simp only [List.getElem?_map, Option.map_eq_some_iff, Prod.mk.injEq] at hf
          obtain ⟨fl, h1, h2, h3⟩ := hf
          exact ⟨fl, by simpa using h1, h2, h3⟩
        obtain ⟨fl, hfl, rfl, rfl⟩ := hfl
        have hz' : ti.size ≠ 0 := by simpa [szOf, hti] using hz
        simp only [execOp, Instr.fieldAt, hv, Sem.run_bind, run_und hff, Result.andThen_ok, hfl, Instr.sureAddr, fieldPlace, run_size hte hti, if_neg hz', Sem.run_pure]
        simp only [Addr.add]
        split
        · rename_i h0; simp [h0]
        · simp [Nat.add_assoc]
      · exact h.elim
    · exact h.elim
  case h_6 t x ix =>
    obtain ⟨y, h, hr⟩ := ung_sound (hR.ev x) h
    obtain ⟨y2, h, hr2⟩ := ung_sound (hR.ev ix) h
    split at h
    · rename_i hh lo len k n e htd _
      obtain ⟨hlive, h⟩ := h
      obtain ⟨hb, h⟩ := h.out
      refine ⟨_, h, fun hc => ?_⟩
      obtain ⟨ti, hti, hsz⟩ := live_sz hte hR.sat hlive
      have h1 := hr hc
      have h2 := hr2 hc
      obtain ⟨b0, b1⟩ := hb hc
      simp only [rel] at h1 h2
      obtain ⟨ad, cap, hv, hl, hcap⟩ := h1
      rcases hcap with hcap | ⟨L, hL, rfl, hav⟩
      · omega
      refine ⟨.pointer (some (addrOf L (lo + n.toNat) 0)), by simp only [rel]; exact ⟨L, hL, rfl⟩, fun w => ?_⟩
      have hnl : 0 ≤ n ∧ n < (len : Int) := ⟨b0, b1⟩
      simp only [execOp, Instr.indexAt, hv, h2, Sem.run_bind, asIntOf, Sem.run_pure, run_und (und_slice hte htd), Result.andThen_ok, if_pos hnl, run_size hte hti]
      simp only [Addr.add, addrOf, ← hsz L hL]
      simp [Nat.add_mul, Nat.add_assoc]
    · rename_i sz l k n e htd _
      obtain ⟨hne, hszE, h⟩ := h
      obtain ⟨hb, h⟩ := h.out
      refine ⟨_, h, fun hc => ?_⟩
      obtain ⟨ti, hti⟩ := te_some hne
      have hsz' : ti.size = sz := by simpa [szOf, hti] using hszE
      have h1 := hr hc
      have h2 := hr2 hc
      obtain ⟨b0, b1⟩ := hb hc
      simp only [rel] at h1 h2
      obtain ⟨ad, cap, hv, hl, h1⟩ := h1
      rcases h1 with h1 | ⟨bb, off, cs, e', fr, rfl, h3, h4⟩
      · subst h1; simp at b1; omega
      have hlt : n.toNat < l.length := by omega
      obtain ⟨g1, g2⟩ := relR_get h4 (j := n.toNat) (x := l.getD n.toNat (zeroOf te e)) (by simp [List.getD, List.getElem?_eq_getElem hlt])
      rw [List.drop_drop] at g2
      refine ⟨.pointer (some ⟨bb, off + n.toNat * sz, none⟩), by simp only [rel]; exact ⟨bb, off + n.toNat * sz, cs, e', fr, rfl, h3, by rw [g1]; exact g2⟩, fun w => ?_⟩
      have hnl : 0 ≤ n ∧ n < (l.length : Int) := ⟨b0, b1⟩
      simp only [execOp, Instr.indexAt, hv, h2, Sem.run_bind, asIntOf, Sem.run_pure, run_und (und_slice hte htd), Result.andThen_ok, if_pos hnl, run_size hte hti]
      simp only [Addr.add, hsz']
      split
      · rename_i h0; simp [h0]
      · simp
    · exact h.elim
  case h_7 t x ix =>
    obtain ⟨y, h, hr⟩ := ung_sound (hR.ev x) h
    obtain ⟨y2, h, hr2⟩ := ung_sound (hR.ev ix) h
    split at h
    · rename_i l k n htd _
      obtain ⟨hb, h⟩ := h.out
      refine ⟨_, h, fun hc => ?_⟩
      have h1 := hr hc
      have h2 := hr2 hc
      obtain ⟨b0, b1⟩ := hb hc
      simp only [rel] at h1 h2
      refine ⟨.int .u8 (l.getD n.toNat 0).toNat, by simp only [rel], fun w => ?_⟩
      have hlt : n.toNat < l.length := by omega
      have hg : (ByteArray.mk l.toArray)[n.toNat]? = some (l.getD n.toNat 0) := by
        have : (ByteArray.mk l.toArray)[n.toNat]? = l[n.toNat]? := by
          simp only [getElem?_def, ByteArray.size]
          simp [ByteArray.getElem_eq_getElem_data]
        rw [this, List.getD, List.getElem?_eq_getElem hlt]; rfl
      simp [execOp, Instr.index, h1, h2, asIntOf, run_und (und_str hte htd), b0, hg]
    · exact h.elim
  case h_8 x i =>
    obtain ⟨y, h, hr⟩ := ung_sound (hR.ev x) h
    split at h
    · rename_i l
      obtain ⟨hi, h⟩ := h
      refine ⟨_, h, fun hc => ?_⟩
      have h1 := hr hc
      simp only [rel] at h1
      obtain ⟨cs, hv, h1⟩ := h1
      obtain ⟨v, hcv, hrv⟩ := relL_get h1 (j := i) (x := l.getD i .u) (by simp [List.getD, List.getElem?_eq_getElem hi])
      refine ⟨v, hrv, fun w => ?_⟩
      have : cs[i]? = some v := by simpa using hcv
      simp [execOp, Instr.extract, hv, this]
    · exact h.elim
  case h_9 op t x y ty =>
    obtain ⟨y1, h, hr⟩ := ung_sound (hR.ev x) h
    obtain ⟨y2, h, hr2⟩ := ung_sound (hR.ev y) h
    obtain ⟨z, hz, hv⟩ := xbin_sound hte x y hr hr2 h
    refine ⟨z, hz, fun hc => ?_⟩
    obtain ⟨v, hrv, hrun⟩ := hv hc
    exact ⟨v, hrv, fun w => lift_val (hrun w)⟩
  case h_10 t x =>
    obtain ⟨y, h, hr⟩ := ung_sound (hR.ev x) h
    split at h
    · rename_i b
      refine ⟨_, h, fun hc => ⟨.bool (!b), by simp only [rel], fun w => ?_⟩⟩
      have h1 := hr hc
      simp only [rel] at h1
      simp [execOp, Op.unary, h1]
    · exact h.elim
  case h_11 t x =>
    obtain ⟨y, h, hr⟩ := ung_sound (hR.ev x) h
    split at h
    · rename_i k n
      obtain ⟨hb, h⟩ := h.out
      refine ⟨_, h, fun hc => ⟨.int k (0 - n), by simp only [rel], fun w => ?_⟩⟩
      have h1 := hr hc
      simp only [rel] at h1
      simp only [execOp, Op.unary, h1, Op.intArith, inR_wrap (hb hc)]
      rfl
    · exact h.elim
  case h_12 s d x =>
    obtain ⟨hs, h⟩ := h
    obtain ⟨y, h, hr⟩ := ung_sound (hR.ev x) h
    obtain ⟨z, hz, hv⟩ := xconv_sound hte hs hr h
    refine ⟨z, hz, fun hc => ?_⟩
    obtain ⟨v, hrv, hrun⟩ := hv hc
    exact ⟨v, hrv, fun w => lift_val (hrun w)⟩
  case h_13 t x lo hi =>
    obtain ⟨y, h, hr⟩ := ung_sound (hR.ev x) h
    obtain ⟨z, hz, hv⟩ := xcut_sound hte hR hr h
    refine ⟨z, hz, fun hc => ?_⟩
    obtain ⟨v, hrv, hrun⟩ := hv hc
    exact ⟨v, hrv, fun w => lift_val (hrun w)⟩
  case h_14 t parts =>
    split at h
    · rename_i ti hti
      split at h
      · rename_i fs htd
        obtain ⟨hall, hte', h⟩ := h
        split at h
        · rename_i l hfill
          refine ⟨_, h, fun hc => ?_⟩
          obtain ⟨i, hi, _, _, zv, hzv, hrz, _⟩ := (hte t ti hti).info
          obtain ⟨ff, hff, hmap, _⟩ := und_struct hte ((td_of_some hti).trans htd)
          have hrz' : relL σ ti.zero zv.cells.toList := relL_mono (leA.nil σ) hrz
          have hall' := List.all_eq_true.1 hall
          have hsz : ∀ f ∈ ff.toList, ∀ w, (sizeOf f.type).run P w = .ok (szOf te f.type) w := by
            intro f hf w
            have h1 := List.all_eq_true.1 hte' (f.type, f.offset) (by rw [← hmap]; exact List.mem_map.2 ⟨f, hf, rfl⟩)
            obtain ⟨ti', hti'⟩ := Option.isSome_iff_exists.1 h1
            rw [run_size hte hti']; simp [szOf, hti']
          obtain ⟨out, hout, hro⟩ := fillS_sound hte fs (ff.map fun f => (f.offset, szOf te f.type)) (by
              intro i t off ti1 hf1 ht1
              rw [← hmap] at hf1
              simp only [List.getElem?_map, Option.map_eq_some_iff, Prod.mk.injEq] at hf1
              obtain ⟨fl, h1, rfl, rfl⟩ := hf1
              have : ff[i]? = some fl := by simpa using h1
              simp [this, szOf, ht1])
            (parts.toList.map fun p => (p.1, st.ev p.2)) (parts.map fun (p : Nat × Operand) => (p.1, a.eval p.2)).toList ti.zero zv.cells l (by simp)
            (by
              intro j i x hj
              simp only [List.getElem?_map, Option.map_eq_some_iff, Prod.mk.injEq] at hj
              obtain ⟨p, hp, rfl, rfl⟩ := hj
              refine ⟨a.eval p.2, ?_, hall' p (List.mem_of_getElem? hp), hR.ev p.2⟩
              simp [hp]) hrz' hfill
          refine ⟨.agg out, by simp only [rel]; exact ⟨out, rfl, hro⟩, fun w => ?_⟩
          have hzero : (zeroValue t).run P w = .ok zv w := by simp [zeroValue, run_info hi, hzv]
          have hmm := run_mapM_arr (P := P) ff (fun f => do let s ← sizeOf f.type; pure (f.offset, s)) (fun f => (f.offset, szOf te f.type)) w (fun f hf => by simp [hsz f hf w])
          simp only [execOp, Instr.build, Sem.run_bind, hzero, Result.andThen_ok, run_und hff, hmm]
          rw [show (fun x : Nat × Operand => match x with | (i, x) => (i, a.eval x)) = fun p : Nat × Operand => (p.1, a.eval p.2) from rfl]
          simp only [hout, Sem.run_pure, Result.andThen_ok]
        · exact h.elim
      · exact h.elim
    · exact h.elim
  case h_15 args ts =>
    split at h
    · rename_i x t ha hts
      obtain ⟨y, h, hr⟩ := ung_sound (hR.ev x) h
      have ha' : args = #[x] := by rw [← Array.toList_inj]; simpa using ha
      have hts' : ts = #[t] := by rw [← Array.toList_inj]; simpa using hts
      subst ha' hts'
      split at h
      · rename_i l htd
        refine ⟨_, h, fun hc => ⟨.int .i64 l.length, by simp only [rel], fun w => ?_⟩⟩
        have h1 := hr hc
        simp only [rel] at h1
        simp [execOp, resolve, invoke, builtin, Builtin.len_, h1, run_und (und_str hte htd), goInt, ba_size]
      · rename_i hh lo len e htd
        refine ⟨_, h, fun hc => ⟨.int .i64 len, by simp only [rel], fun w => ?_⟩⟩
        have h1 := hr hc
        simp only [rel] at h1
        obtain ⟨ad, cap, hv, _⟩ := h1
        simp [execOp, resolve, invoke, builtin, Builtin.len_, hv, run_und (und_slice hte htd), goInt]
      · rename_i sz l e htd
        refine ⟨_, h, fun hc => ⟨.int .i64 l.length, by simp only [rel], fun w => ?_⟩⟩
        have h1 := hr hc
        simp only [rel] at h1
        obtain ⟨ad, cap, hv, _⟩ := h1
        simp [execOp, resolve, invoke, builtin, Builtin.len_, hv, run_und (und_slice hte htd), goInt]
      · rename_i e htd
        refine ⟨_, h, fun hc => ⟨.int .i64 0, by simp only [rel], fun w => ?_⟩⟩
        have h1 := hr hc
        simp only [rel] at h1
        simp [execOp, resolve, invoke, builtin, Builtin.len_, h1, run_und (und_slice hte htd), goInt]
      · exact h.elim
    · exact h.elim
  case h_16 args ts =>
    split at h
    · rename_i x y ha
      obtain ⟨y1, h, hr⟩ := ung_sound (hR.ev x) h
      obtain ⟨y2, h, hr2⟩ := ung_sound (hR.ev y) h
      have ha' : args = #[x, y] := by rw [← Array.toList_inj]; simpa using ha
      subst ha'
      split at h
      · rename_i k p k' q _
        refine ⟨_, h, fun hc => ⟨.int k (if q < p then q else p), by simp only [rel], fun w => ?_⟩⟩
        have h1 := hr hc
        have h2 := hr2 hc
        simp only [rel] at h1 h2
        simp [execOp, resolve, invoke, builtin, Builtin.min_, Builtin.min2, h1, h2]
      · exact h.elim
    · exact h.elim
  case h_17 args ts =>
    split at h
    · rename_i x y ha
      obtain ⟨y1, h, hr⟩ := ung_sound (hR.ev x) h
      obtain ⟨y2, h, hr2⟩ := ung_sound (hR.ev y) h
      have ha' : args = #[x, y] := by rw [← Array.toList_inj]; simpa using ha
      subst ha'
      split at h
      · rename_i k p k' q _
        refine ⟨_, h, fun hc => ⟨.int k (if q > p then q else p), by simp only [rel], fun w => ?_⟩⟩
        have h1 := hr hc
        have h2 := hr2 hc
        simp only [rel] at h1 h2
        simp [execOp, resolve, invoke, builtin, Builtin.max_, Builtin.max2, h1, h2]
      · exact h.elim
    · exact h.elim
  case h_18 => exact h.elim
end Go.Vg
end
section
set_option linter.unusedVariables false
set_option linter.unusedSimpArgs false
namespace Go.Vg
set_option linter.unusedSectionVars false
variable [Go.Vg.Glob]
set_option linter.unusedVariables false
set_option linter.unusedSimpArgs false
open Go.RowKit

def updA (σ : Asg) (q : Nat) (L : Loc) : Asg := ⟨fun h => if h = q then some L else σ h, σ.fz⟩
theorem updA_fz {σ : Asg} {q : Nat} {L : Loc} : (updA σ q L).fz = σ.fz := rfl

theorem leA_upd {σ : Asg} {q : Nat} {L : Loc} (h : σ q = none) : leA σ (updA σ q L) := by
  refine ⟨fun x M e => ?_, fun _ _ e => e⟩
  show (if x = q then some L else σ x) = some M
  split
  · rename_i hx; subst hx; rw [h] at e; cases e
  · exact e

theorem at_app (c : Ctx) (o : Option SO) (h : Nat) : (c ++ [o] : Ctx).at h = if h = c.length then o else c.at h := by
  unfold Ctx.at
  simp only [List.getD_eq_getElem?_getD]
  by_cases h1 : h < c.length
  · rw [List.getElem?_append_left h1, if_neg (by omega)]
  · by_cases h2 : h = c.length
    · subst h2; simp
    · rw [if_neg h2, List.getElem?_eq_none (by simp; omega), List.getElem?_eq_none (by omega)]

theorem at_lt {c : Ctx} {h : Nat} {o : SO} (e : c.at h = some o) : h < c.length := by
  unfold Ctx.at at e
  rw [List.getD_eq_getElem?_getD] at e
  rcases Nat.lt_or_ge h c.length with h1 | h1
  · exact h1
  · rw [List.getElem?_eq_none h1] at e; cases e

theorem at_set (c : Ctx) (q : Nat) (o : Option SO) (h : Nat) (hq : q < c.length) : Ctx.at (c.set q o) h = if h = q then o else c.at h := by
  unfold Ctx.at
  simp only [List.getD_eq_getElem?_getD, List.getElem?_set]
  by_cases h1 : q = h
  · subst h1; simp [hq]
  · rw [if_neg h1, if_neg (Ne.symm h1)]

theorem entsRel_mono {σ σ' : Asg} (h : leA σ σ') : ∀ {ps : List (SV × SV)} {es : List MapEntry}, entsRel σ ps es → entsRel σ' ps es
  | [], _, r => by simpa [entsRel] using r
  | p :: ps, _, r => by
    simp only [entsRel] at r ⊢
    obtain ⟨e, q, rfl, h1, h2, h3⟩ := r
    exact ⟨e, q, rfl, rel_mono h h1, rel_mono h h2, entsRel_mono h h3⟩

/-- What an object says of a world hangs on its own block alone. -/
theorem objSat_same {σ σ' : Asg} {w w' : World} {h : Nat} {o : SO} (hle : leA σ σ') (hh : σ' h = σ h) (hb : ∀ L, σ h = some L → w'.heap[L.b]? = w.heap[L.b]?) (hs : objSat σ w h o) : objSat σ' w' h o := by
  unfold objSat at *
  split at hs
  · obtain ⟨L, es, ck, h1, h2, h3⟩ := hs
    exact ⟨L, es, ck, hh.trans h1, (hb L h1).trans h2, entsRel_mono hle h3⟩
  · rcases hs with ⟨h1, h2⟩ | ⟨L, c, e, fr, h1, h2⟩
    · exact .inl ⟨h1, hh.trans h2⟩
    · refine .inr ⟨L, c, e, fr, hh.trans h1, ⟨(hb L h1).trans h2.heap, h2.lsz, h2.room, h2.fits, fun i k hi hk => ?_, h2.free⟩⟩
      obtain ⟨v, e1, e2⟩ := h2.cell i k hi hk
      exact ⟨v, e1, rel_mono hle e2⟩

theorem push_lt (w : World) (o : Obj) {b : Nat} (h : b < w.heap.size) : (w.heap.push o)[b]? = w.heap[b]? := by
  rw [Array.getElem?_push, if_neg (by omega)]

theorem Sat.alloc {σ : Asg} {w : World} {c : Ctx} (hs : Sat σ w c) (ob : Obj) (o : SO) (L : Loc) (hL : L.b = w.heap.size)
    (ho : objSat (updA σ c.length L) { w with heap := w.heap.push ob } c.length o) : Sat (updA σ c.length L) { w with heap := w.heap.push ob } (c ++ [some o]) := by
  have hq : σ c.length = none := hs.beyond _ (Nat.le_refl _)
  have hle := leA_upd (L := L) hq
  have hnf : σ.fz L.b = none := by
    cases hf : σ.fz L.b with
    | none => rfl
    | some o1 =>
      have := hs.frz _ _ hf
      rw [hL, Array.getElem?_eq_none (Nat.le_refl _)] at this; cases this
  refine ⟨fun h o' e => ?_, fun h h' o1 o2 L1 L2 hne e1 e2 hro s1 s2 => ?_, fun h hh => ?_, fun h M e => ?_, fun b o1 e => ?_, fun h o1 M e hro s1 => ?_, hs.glb⟩
  · rw [at_app] at e
    split at e
    · rename_i h1
      cases e
      rw [h1]; exact ho
    · rename_i h1
      refine objSat_same hle (by simp [updA, h1]) (fun M hM => ?_) (hs.obj h o' e)
      exact push_lt _ _ (hs.inHeap h M hM)
  · rw [at_app] at e1 e2
    simp only [updA] at s1 s2
    split at e1
    · rename_i h1
      rw [if_pos h1] at s1
      cases s1
      split at e2
      · rename_i h2; omega
      · rename_i h2
        rw [if_neg h2] at s2
        have := hs.inHeap _ _ s2
        omega
    · rename_i h1
      rw [if_neg h1] at s1
      split at e2
      · rename_i h2
        rw [if_pos h2] at s2
        cases s2
        have := hs.inHeap _ _ s1
        omega
      · rename_i h2
        rw [if_neg h2] at s2
        exact hs.apart h h' o1 o2 L1 L2 hne e1 e2 hro s1 s2
  · simp only [List.length_append, List.length_singleton] at hh
    simp only [updA, if_neg (show h ≠ c.length by omega)]
    exact hs.beyond h (by omega)
  · simp only [updA] at e
    simp only [Array.size_push]
    split at e
    · cases e; omega
    · have := hs.inHeap h M e; omega
  · have h1 := hs.frz b o1 e
    rw [push_lt _ _ (by
      rcases Nat.lt_or_ge b w.heap.size with h2 | h2
      · exact h2
      · rw [Array.getElem?_eq_none h2] at h1; cases h1)]
    exact h1
  · rw [at_app] at e
    simp only [updA] at s1
    rw [updA_fz]
    split at e
    · rename_i h1
      rw [if_pos h1] at s1
      cases s1
      exact hnf
    · rename_i h1
      rw [if_neg h1] at s1
      exact hs.frzA h o1 M e hro s1

theorem Rel.alloc {A : Amb} {σ : Asg} {st : St} {a : Act} {w : World} (hR : Rel A σ st a w) (ob : Obj) (o : SO) (L : Loc) (hL : L.b = w.heap.size)
    (ho : objSat (updA σ st.ctx.length L) { w with heap := w.heap.push ob } st.ctx.length o) :
    leA σ (updA σ st.ctx.length L) ∧ Rel A (updA σ st.ctx.length L) ⟨st.env, st.ctx ++ [some o]⟩ a { w with heap := w.heap.push ob } := by
  have hq : σ st.ctx.length = none := hR.sat.beyond _ (Nat.le_refl _)
  have hle := leA_upd (L := L) hq
  refine ⟨hle, hR.defers, hR.size, fun t => rel_mono hle (hR.env t), hR.sat.alloc ob o L hL ho, ?_, fun h o' M e hro s => ?_, ⟨fun h hk => ?_, hR.base.fzb, hR.base.fzn⟩, ?_⟩
  · exact ⟨hR.fr.os, hR.fr.tape, hR.fr.output, by simp; have := hR.fr.size; omega, fun b hb hd => by
      rw [push_lt _ _ (Nat.lt_of_lt_of_le hb hR.fr.size)]; exact hR.fr.block b hb hd⟩
  · rw [at_app] at e
    simp only [updA] at s
    split at e
    · rename_i h1
      rw [if_pos h1] at s
      cases s
      right; rw [hL]; exact hR.fr.size
    · rename_i h1
      rw [if_neg h1] at s
      exact hR.own h o' M e hro s
  · have := hR.klen
    simp only [updA, if_neg (show h ≠ st.ctx.length by omega)]
    exact hR.base.loc h hk
  · simp; have := hR.klen; omega

/-- A new row, or variable. -/
theorem objSat_new {σ : Asg} {w : World} {q : Nat} {cs : Array Value} {e : TypeId} {o : SO} {L : Loc} (hm : o.isMap = false)
    (hL : L = ⟨w.heap.size, 0, cs.size, o.sz⟩) (hf : o.n * o.sz ≤ cs.size)
    (hc : ∀ i k, i < o.n → k < o.sz → ∃ v, cs[i * o.sz + k]? = some v ∧ rel σ ((o.el i).getD k .u) v) (hq : σ q = none) :
    objSat (updA σ q L) { w with heap := w.heap.push (.cells cs e) } q o := by
  subst hL
  unfold objSat
  rw [hm]
  refine .inr ⟨⟨w.heap.size, 0, cs.size, o.sz⟩, cs, e, (0, 0), by simp [updA], ⟨?_, rfl, ?_, hf, fun i k hi hk => ?_, fun _ => .inl rfl⟩⟩
  · simp
  · simp
  · obtain ⟨v, h1, h2⟩ := hc i k hi hk
    exact ⟨v, by simpa using h1, rel_mono (leA_upd hq) h2⟩

/-- What an operation that may turn memory comes to. -/
def OutM (P : Program) (A : Amb) (σ : Asg) (a : Act) (w : World) (s : Sem Next) (K : SV → St → Prop) : Prop :=
  ∃ z st' v σ' w', K z st' ∧ (s.run P w = .ok (.value v) w' ∨ (s.run P w = .ok .skip w' ∧ v = undef)) ∧ leA σ σ' ∧ rel σ' z v ∧ Rel A σ' st' a w'

def newBlk (st : St) (cs : List SV) : St := ⟨st.env, st.ctx ++ [some (.blk false cs)]⟩
def newRowS (st : St) (sz n : Nat) (f : Nat → List SV) : St := ⟨st.env, st.ctx ++ [some (.row false sz n f)]⟩

theorem box_core {P : Program} {A : Amb} {σ : Asg} {st : St} {a : Act} {w : World} (hR : Rel A σ st a w) {t : TypeId} {cs : List SV} {v : Value} (hv : relL σ cs v.cells.toList) :
    ∃ σ' w', (newVar t v).run P w = .ok ⟨w.heap.size, 0, none⟩ w' ∧ leA σ σ' ∧ rel σ' (.ptr st.ctx.length 0 0) (.pointer (some ⟨w.heap.size, 0, none⟩)) ∧ Rel A σ' (newBlk st cs) a w' := by
  have hq : σ st.ctx.length = none := hR.sat.beyond _ (Nat.le_refl _)
  have hlen := relL_length hv
  simp only [Array.length_toList] at hlen
  obtain ⟨h1, h2⟩ := hR.alloc (.cells v.cells t) (.blk false cs) ⟨w.heap.size, 0, v.cells.size, cs.length⟩ rfl
    (objSat_new rfl rfl (by simp [SO.n, SO.sz, hlen]) (fun i k hi hk => by
      simp only [SO.n, SO.sz, SO.el] at *
      obtain ⟨u, h3, h4⟩ := relL_get hv (j := k) (x := cs.getD k .u) (by simp [List.getD, List.getElem?_eq_getElem hk])
      have hi0 : i = 0 := by omega
      subst hi0
      exact ⟨u, by simpa using h3, h4⟩) hq)
  refine ⟨_, _, ?_, h1, ?_, h2⟩
  · simp [newVar, newRow]
  · simp only [rel]
    exact ⟨⟨w.heap.size, 0, v.cells.size, cs.length⟩, by simp [updA], by simp [addrOf]⟩

end Go.Vg
end
section
set_option linter.unusedVariables false
set_option linter.unusedSimpArgs false
namespace Go.Vg
set_option linter.unusedSectionVars false
variable [Go.Vg.Glob]
set_option linter.unusedVariables false
set_option linter.unusedSimpArgs false
open Go.RowKit

theorem row_core {P : Program} {A : Amb} {σ : Asg} {st : St} {a : Act} {w : World} (hR : Rel A σ st a w) {elem : TypeId} {cells : Array Value} {sz n cap : Nat} {f : Nat → List SV}
    (hcs : cells.size = cap * sz) (hn : n ≤ cap) (hc : ∀ i k, i < n → k < sz → ∃ v, cells[i * sz + k]? = some v ∧ rel σ ((f i).getD k .u) v) :
    ∃ σ' w', (newRow elem cells).run P w = .ok ⟨w.heap.size, 0, none⟩ w' ∧ leA σ σ' ∧ rel σ' (.slc st.ctx.length 0 n) (.slice (some ⟨w.heap.size, 0, none⟩) n cap) ∧ Rel A σ' (newRowS st sz n f) a w' := by
  have hq : σ st.ctx.length = none := hR.sat.beyond _ (Nat.le_refl _)
  obtain ⟨h1, h2⟩ := hR.alloc (.cells cells elem) (.row false sz n f) ⟨w.heap.size, 0, cells.size, sz⟩ rfl
    (objSat_new rfl rfl (by simp only [SO.n, SO.sz, hcs]; exact Nat.mul_le_mul_right _ hn) hc hq)
  refine ⟨_, _, ?_, h1, ?_, h2⟩
  · simp [newRow]
  · simp only [rel]
    exact ⟨_, _, rfl, hn, .inr ⟨⟨w.heap.size, 0, cells.size, sz⟩, by simp [updA], by simp [addrOf], by simp [hcs]⟩⟩

theorem add_none (b off j : Nat) : (⟨b, off, none⟩ : Addr).add j = ⟨b, off + j, none⟩ := by
  unfold Addr.add
  split
  · rename_i h; simp [h]
  · rfl

theorem cell?_of {w : World} {b off : Nat} {c : Array Value} {e : TypeId} {fr : Nat × Nat} (h : w.heap[b]? = some (.cells c e fr)) : w.cell? ⟨b, off, none⟩ = c[off]? := by
  simp [World.cell?, h]

theorem run_loadFrom {P : Program} {w : World} {b off : Nat} {c : Array Value} {e : TypeId} {fr : Nat × Nat} (h : w.heap[b]? = some (.cells c e fr)) :
    ∀ (vs : List Value) (i : Nat) (acc : Array Value), (∀ (j : Nat) (v : Value), vs[j]? = some v → c[off + i + j]? = some v) → (loadCellsFrom ⟨b, off, none⟩ i vs.length acc).run P w = .ok (acc ++ vs.toArray) w
  | [], i, acc, _ => by simp [loadCellsFrom]
  | v :: vs, i, acc, hv => by
    have h0 := hv 0 v rfl
    simp only [List.length_cons, loadCellsFrom, Sem.run_bind, run_load, add_none, cell?_of h]
    rw [show off + i + 0 = off + i from rfl] at h0
    simp only [h0, Result.andThen_ok]
    rw [run_loadFrom h vs (i + 1) (acc.push v) (fun j u hj => by
      have := hv (j + 1) u (by simpa using hj)
      rw [show off + (i + 1) + j = off + i + (j + 1) by omega]; exact this)]
    simp

theorem run_loadCells {P : Program} {w : World} {b off : Nat} {c : Array Value} {e : TypeId} {fr : Nat × Nat} (h : w.heap[b]? = some (.cells c e fr))
    (vs : List Value) (hv : ∀ (j : Nat) (v : Value), vs[j]? = some v → c[off + j]? = some v) : (loadCells ⟨b, off, none⟩ vs.length).run P w = .ok vs.toArray w := by
  unfold loadCells
  rw [run_loadFrom h vs 0 #[] (by simpa using hv)]
  simp

/-- The cells of a stretch of an object, as a list. -/
theorem cells_list {σ : Asg} {w : World} {L : Loc} {o : SO} {c : Array Value} {e : TypeId} {fr : Nat × Nat} (h : cellsAt σ w L o c e fr) {i k n : Nat} (hi : i < o.n) (hk : k + n ≤ o.sz) :
    ∃ vs : List Value, vs.length = n ∧ (∀ (j : Nat) (v : Value), vs[j]? = some v → c[L.sh + i * L.sz + k + j]? = some v) ∧ ∀ (j : Nat) (v : Value), vs[j]? = some v → rel σ ((o.el i).getD (k + j) .u) v := by
  induction n with
  | zero => exact ⟨[], rfl, by simp, by simp⟩
  | succ n ih =>
    obtain ⟨vs, h1, h2, h3⟩ := ih (by omega)
    obtain ⟨v, h4, h5⟩ := h.cell i (k + n) hi (by omega)
    rw [← h.lsz] at h4
    refine ⟨vs ++ [v], by simp [h1], fun j u hj => ?_, fun j u hj => ?_⟩
    · rw [List.getElem?_append] at hj
      split at hj
      · exact h2 j u hj
      · have : j - vs.length = 0 := by
          rcases Nat.eq_zero_or_pos (j - vs.length) with h0 | h0
          · exact h0
          · rw [List.getElem?_eq_none (by simp; omega)] at hj; cases hj
        rw [this] at hj
        simp at hj
        subst hj
        have hjn : j = n := by omega
        subst hjn
        rw [show L.sh + i * L.sz + k + j = L.sh + i * L.sz + (k + j) by omega]
        exact h4
    · rw [List.getElem?_append] at hj
      split at hj
      · exact h3 j u hj
      · have : j - vs.length = 0 := by
          rcases Nat.eq_zero_or_pos (j - vs.length) with h0 | h0
          · exact h0
          · rw [List.getElem?_eq_none (by simp; omega)] at hj; cases hj
        rw [this] at hj
        simp at hj
        subst hj
        have hjn : j = n := by omega
        subst hjn
        exact h5

def okLeaf : SV → Bool
  | .b _ | .i _ _ | .s _ | .ptr _ _ _ | .slc _ _ _ | .nils | .mp _ | .fn _ | .fs _ _ | .fp _ _ => true
  | _ => false

theorem okLeaf_one {σ : Asg} {x : SV} {v : Value} (h : okLeaf x = true) (hr : rel σ x v) : v.oneCell' = true := by
  cases x <;> simp only [okLeaf, Bool.false_eq_true] at h <;> simp only [rel] at hr
  case b => subst hr; rfl
  case i => subst hr; rfl
  case s => subst hr; rfl
  case ptr => obtain ⟨_, _, rfl⟩ := hr; rfl
  case slc => obtain ⟨_, _, rfl, _⟩ := hr; rfl
  case nils => subst hr; rfl
  case mp => obtain ⟨_, _, rfl⟩ := hr; rfl
  case fn => subst hr; rfl
  case fs => obtain ⟨_, _, rfl, _⟩ := hr; rfl
  case fp => obtain ⟨_, _, _, _, _, rfl, _⟩ := hr; rfl

/-- Cells of an array written one behind the other. -/
def setAll (c : Array Value) (off : Nat) : List Value → Array Value
  | [] => c
  | v :: vs => setAll (c.setIfInBounds off v) (off + 1) vs

theorem setAll_size (c : Array Value) : ∀ (vs : List Value) (off : Nat), (setAll c off vs).size = c.size
  | [], _ => rfl
  | v :: vs, off => by simp [setAll, setAll_size _ vs]

theorem setAll_get : ∀ (vs : List Value) (c : Array Value) (off x : Nat), off + vs.length ≤ c.size → (setAll c off vs)[x]? = if off ≤ x ∧ x < off + vs.length then vs[x - off]? else c[x]?
  | [], c, off, x, _ => by
    simp only [setAll, List.length_nil]
    rw [if_neg (by omega)]
  | v :: vs, c, off, x, h => by
    simp only [List.length_cons] at h
    simp only [setAll]
    rw [setAll_get vs _ (off + 1) x (by simp; omega)]
    simp only [List.length_cons]
    by_cases h1 : off + 1 ≤ x ∧ x < off + 1 + vs.length
    · rw [if_pos h1, if_pos (by omega)]
      obtain ⟨y, hy⟩ : ∃ y, x - off = y + 1 := ⟨x - off - 1, by omega⟩
      rw [hy, List.getElem?_cons_succ, show x - (off + 1) = y by omega]
    · rw [if_neg h1, Array.getElem?_setIfInBounds]
      by_cases h2 : off = x
      · subst h2
        rw [if_pos rfl, if_pos (by omega)]
        simp
      · rw [if_neg h2, if_neg (by omega)]

theorem run_storeCells {P : Program} {b off : Nat} {e : TypeId} {fr : Nat × Nat} : ∀ (vs : List Value) (i : Nat) (w : World) (c : Array Value), w.heap[b]? = some (.cells c e fr) →
    (∀ v ∈ vs, v.oneCell' = true) → off + i + vs.length ≤ c.size → (∀ x, x < c.size → ¬ (fr.1 ≤ x ∧ x < fr.2)) →
    (storeCells ⟨b, off, none⟩ vs i).run P w = .ok () { w with heap := w.heap.setIfInBounds b (.cells (setAll c (off + i) vs) e fr) }
  | [], i, w, c, h, _, _, _ => by
    simp only [storeCells, setAll, Sem.run_pure]
    congr 1
    have hb : b < w.heap.size := by
      rcases Nat.lt_or_ge b w.heap.size with h1 | h1
      · exact h1
      · rw [Array.getElem?_eq_none h1] at h; cases h
    have : w.heap.setIfInBounds b (.cells c e fr) = w.heap := by
      apply Array.ext_getElem?
      intro j
      rw [Array.getElem?_setIfInBounds]
      split
      · rename_i hj; subst hj; rw [h]
      · rfl
    rw [this]
  | v :: vs, i, w, c, h, hv, hl, hf => by
    simp only [List.length_cons] at hl
    have hb : b < w.heap.size := by
      rcases Nat.lt_or_ge b w.heap.size with h1 | h1
      · exact h1
      · rw [Array.getElem?_eq_none h1] at h; cases h
    have hc : w.cell? ⟨b, off + i, none⟩ = some c[off + i] := by rw [cell?_of h]; exact Array.getElem?_eq_getElem (by omega)
    have hfz : w.frozen? ⟨b, off + i, none⟩ = false := by
      have := hf (off + i) (by omega)
      simp only [World.frozen?, h]
      simpa using this
    simp only [storeCells, Sem.run_bind, add_none]
    rw [run_store P w _ v .plain (hv v (by simp)), hc]
    simp only [hfz, Bool.false_eq_true, if_false, Result.andThen_ok]
    have hset : (w.setCell ⟨b, off + i, none⟩ v).heap[b]? = some (.cells (c.setIfInBounds (off + i) v) e fr) := by
      simp only [World.setCell, Array.getElem?_modify, h, if_true]
      simp
    rw [run_storeCells vs (i + 1) (w.setCell ⟨b, off + i, none⟩ v) _ hset (fun u hu => hv u (by simp [hu])) (by simp; omega) (by simpa using hf)]
    congr 1
    simp only [World.setCell, setAll]
    congr 1
    apply Array.ext_getElem?
    intro j
    simp only [Array.getElem?_setIfInBounds, Array.size_modify, Array.getElem?_modify]
    by_cases hj : b = j
    · subst hj; simp [hb, Nat.add_assoc]
    · simp [hj]

end Go.Vg
end
section
set_option linter.unusedVariables false
set_option linter.unusedSimpArgs false
namespace Go.Vg
set_option linter.unusedSectionVars false
variable [Go.Vg.Glob]
set_option linter.unusedVariables false
set_option linter.unusedSimpArgs false
open Go.RowKit

/-- A stretch of an element's cells replaced. -/
def spl (l : List SV) (k : Nat) (cs : List SV) : List SV :=
  match cs with
  | [x] => l.set k x
  | _ => if k = 0 ∧ cs.length = l.length then cs else l.take k ++ (cs ++ l.drop (k + cs.length))

theorem spl_eq {l : List SV} {k : Nat} {cs : List SV} (h : k + cs.length ≤ l.length) : spl l k cs = l.take k ++ (cs ++ l.drop (k + cs.length)) := by
  unfold spl
  split
  · rename_i x
    simp only [List.length_singleton] at h ⊢
    rw [List.set_eq_take_append_cons_drop, if_pos (by omega)]
    simp
  · split
    · rename_i h0
      obtain ⟨rfl, h1⟩ := h0
      simp [h1]
    · rfl

theorem spl_length {l : List SV} {k : Nat} {cs : List SV} (h : k + cs.length ≤ l.length) : (spl l k cs).length = l.length := by
  rw [spl_eq h]; simp; omega

theorem spl_get {l : List SV} {k : Nat} {cs : List SV} (h : k + cs.length ≤ l.length) (j : Nat) : (spl l k cs).getD j .u = if k ≤ j ∧ j < k + cs.length then cs.getD (j - k) .u else l.getD j .u := by
  rw [spl_eq h]
  simp only [List.getD_eq_getElem?_getD]
  rw [List.getElem?_append, List.getElem?_append, List.length_take]
  by_cases h1 : j < k
  · rw [if_pos (by omega), if_neg (by omega), List.getElem?_take_of_lt h1]
  · rw [if_neg (by omega)]
    by_cases h2 : j < k + cs.length
    · rw [if_pos (by omega), if_pos (by omega)]
      congr 2; omega
    · rw [if_neg (by omega), if_neg (by omega), List.getElem?_drop]
      congr 2; omega

def SO.put (o : SO) (i k : Nat) (cs : List SV) : SO :=
  match o with
  | .row ro sz n f => .row ro sz n (fun j => if j = i then spl (f j) k cs else f j)
  | .blk ro l => .blk ro (spl l k cs)
  | o => o

def rowBytes (f : Nat → List SV) (lo len : Nat) : List UInt8 :=
  (List.range len).map fun j => match (f (lo + j)).getD 0 .u with
    | .i _ n => UInt8.ofNat n.toNat
    | _ => 0

def fsBytes (l : List (List SV)) : List UInt8 := l.map fun x => match x.getD 0 .u with
  | .i _ n => UInt8.ofNat n.toNat
  | _ => 0

def isU8 : SV → Bool
  | .i .u8 _ => true
  | _ => false

def isU8T (te : TE) (t : TypeId) : Bool := match tdOf te t with
  | .int .u8 => true
  | _ => false

def lookS {α : Type} [DecidableEq α] : List (α × Int) → α → Option Int
  | [], _ => none
  | p :: r, k => if p.1 = k then some p.2 else lookS r k

def updS {α : Type} [DecidableEq α] : List (α × Int) → α → Int → List (α × Int)
  | [], k, v => [(k, v)]
  | p :: r, k, v => if p.1 = k then (k, v) :: r else p :: updS r k v

def xlook (c : Bool) (ok : Bool) (r : Option Int) (K : SV → Prop) : Prop :=
  if ok then K (.tup [.i .i64 (r.getD 0), .b r.isSome]) else K (.i .i64 (r.getD 0))

/-- Operations that read memory. -/
def xload (te : TE) (c : Bool) (st : St) (o : Op) (K : SV → Prop) : Prop :=
  match o with
  | .load t x => ung c (st.ev x) fun v => match v with
    | .ptr h i k => match st.ctx.at h, te t with
      | some ob, some ti => ob.isMap = false ∧ ti.td ≠ .other ∧ if ti.td.isStruct then k + ti.size ≤ ob.sz ∧ (ob.el i).length = ob.sz ∧ Chk (c = true → i < ob.n) (K (.agg (((ob.el i).drop k).take ti.size)))
        else k < ob.sz ∧ Chk (c = true → i < ob.n) (K ((ob.el i).getD k .u))
      | _, _ => False
    | .fp l k => match te t with
      | some ti => ti.td ≠ .other ∧ if ti.td.isStruct then Chk (c = true → k + ti.size ≤ l.length) (K (.agg ((l.drop k).take ti.size)))
        else Chk (c = true → k < l.length) (K (l.getD k .u))
      | none => False
    | _ => False
  | .convert s d x => ung c (st.ev x) fun v => match v, tdOf te s, tdOf te d with
    | .slc h lo len, .slice e, .str => isU8T te e = true ∧ (match st.ctx.at h with
      | some (.row ro sz n f) => sz = 1 ∧ (∀ j, j < len → isU8 ((f (lo + j)).getD 0 .u) = true) ∧ Chk (c = true → lo + len ≤ n) (K (.s (rowBytes f lo len)))
      | _ => False)
    | .nils, .slice e, .str => isU8T te e = true ∧ K (.s [])
    | .fs sz l, .slice e, .str => isU8T te e = true ∧ sz = 1 ∧ Chk (c = true → ∀ x ∈ l, isU8 (x.getD 0 .u) = true) (K (.s (fsBytes l)))
    | _, _, _ => False
  | .lookup t m k ok => ung c (st.ev m) fun v => ung c (st.ev k) fun y => match v, y with
    | .mp h, .s s => match st.ctx.at h, tdOf te t with
      | some (.mapS l), .map kt vt => tdOf te kt = .str ∧ te vt = some ⟨.int .i64, 1, 8, [.i .i64 0], false⟩ ∧ xlook c ok (lookS l s) K
      | _, _ => False
    | .mp h, .i .i64 s => match st.ctx.at h, tdOf te t with
      | some (.mapI l), .map kt vt => tdOf te kt = .int .i64 ∧ te vt = some ⟨.int .i64, 1, 8, [.i .i64 0], false⟩ ∧ xlook c ok (lookS l s) K
      | _, _ => False
    | _, _ => False
  | _ => False

/-- What an operation that reads comes to: the same in every world whose block is the same. -/
def OutL (P : Program) (σ : Asg) (w : World) (c : Bool) (hs : List Nat) (s : Sem Next) (K : SV → Prop) : Prop :=
  ∃ z, K z ∧ (c = true → ∃ v, rel σ z v ∧ ∀ w', (∀ h ∈ hs, ∀ L, σ h = some L → w'.heap[L.b]? = w.heap[L.b]?) → (∀ b o, σ.fz b = some o → w'.heap[b]? = some o) → s.run P w' = .ok (.value v) w')

/-- The object that a reading operation looks at. -/
def handleOf : SV → List Nat
  | .ptr h _ _ | .slc h _ _ | .mp h => [h]
  | .gd _ (.ptr h _ _) | .gd _ (.slc h _ _) | .gd _ (.mp h) => [h]
  | _ => []

def opHandle (st : St) : Op → List Nat
  | .load _ x | .convert _ _ x | .lookup _ x _ _ => handleOf (st.ev x)
  | _ => []

theorem ung_handle {σ : Asg} {c : Bool} {x : SV} {K : SV → Prop} {v : Value} (hr : rel σ x v) (h : ung c x K) : ∃ y, K y ∧ (c = true → rel σ y v) ∧ ((match y with | .gd _ _ => False | _ => True) → handleOf x = handleOf y) := by
  unfold ung at h
  split at h
  · rename_i g y
    obtain ⟨h1, h2⟩ := h.out
    refine ⟨y, h2, fun hc => by simp only [rel] at hr; exact hr.1 (h1 hc), fun hy => ?_⟩
    cases y <;> first | rfl | exact hy.elim
  · exact ⟨x, h, fun _ => hr, fun _ => rfl⟩

theorem live_cells {σ : Asg} {w : World} {st : St} (hs : Sat σ w st.ctx) {h : Nat} {ob : SO} (ho : st.ctx.at h = some ob) (hm : ob.isMap = false) :
    (ob.n = 0 ∧ σ h = none) ∨ ∃ L c e fr, σ h = some L ∧ cellsAt σ w L ob c e fr := by
  have := hs.obj h ob ho
  unfold objSat at this
  rwa [hm] at this

theorem list_getD_of {l : List SV} {j : Nat} (h : j < l.length) : l[j]? = some (l.getD j .u) := by
  simp [List.getD, List.getElem?_eq_getElem h]

theorem load_sound {P : Program} {te : TE} (hte : teOk P te) {A : Amb} {σ : Asg} {st : St} {a : Act} {w : World} (hR : Rel A σ st a w) {t : TypeId} {ti : TI} (hti : te t = some ti) (ho : ti.td ≠ .other)
    {h i k : Nat} {ob : SO} (hob : st.ctx.at h = some ob) (hm : ob.isMap = false) (hi : i < ob.n) {v : Value} (hv : rel σ (.ptr h i k) v)
    (hk : if ti.td.isStruct then k + ti.size ≤ ob.sz ∧ (ob.el i).length = ob.sz else k < ob.sz) :
    ∃ u, rel σ (if ti.td.isStruct then .agg (((ob.el i).drop k).take ti.size) else (ob.el i).getD k .u) u ∧ ∀ w', (∀ L, σ h = some L → w'.heap[L.b]? = w.heap[L.b]?) → (Instr.loadAt t v).run P w' = .ok u w' := by
  rcases live_cells hR.sat hob hm with ⟨h0, _⟩ | ⟨L, cs, e, fr, hL, hc⟩
  · omega
  simp only [rel] at hv
  obtain ⟨L', hL', rfl⟩ := hv
  rw [hL] at hL'
  cases hL'
  by_cases hs : ti.td.isStruct = true
  · rw [if_pos hs] at hk
    obtain ⟨hk1, hk2⟩ := hk
    obtain ⟨vs, h1, h2, h3⟩ := cells_list hc hi hk1
    refine ⟨.agg vs.toArray, ?_, fun w' hw => ?_⟩
    · rw [if_pos hs]
      simp only [rel]
      refine ⟨_, rfl, ?_⟩
      refine relL_of_get (by simp; omega) fun j x u hx hu => ?_
      have h4 := h3 j u (by simpa using hu)
      have hjn : j < ti.size := by
        rcases Nat.lt_or_ge j ti.size with h | h
        · exact h
        · rw [List.getElem?_eq_none (by simp; omega)] at hx; cases hx
      rw [List.getElem?_take_of_lt hjn, List.getElem?_drop] at hx
      rw [List.getD_eq_getElem?_getD, hx] at h4
      exact h4
    · have hh : w'.heap[L.b]? = some (.cells cs e fr) := (hw L hL).trans hc.heap
      have h5 := run_loadCells (P := P) (off := L.sh + i * L.sz + k) hh vs h2
      rw [h1] at h5
      simp only [Instr.loadAt, Instr.sureAddr, Sem.run_bind, Sem.run_pure, Result.andThen_ok, loadVar, run_isAgg hte hti ho, hs, if_true, run_size hte hti, addrOf, h5]
  · rw [if_neg hs] at hk
    obtain ⟨u, h1, h2⟩ := hc.cell i k hi hk
    refine ⟨u, by rw [if_neg hs]; exact h2, fun w' hw => ?_⟩
    have hh : w'.heap[L.b]? = some (.cells cs e fr) := (hw L hL).trans hc.heap
    rw [← hc.lsz] at h1
    simp [Instr.loadAt, Instr.sureAddr, loadVar, run_isAgg hte hti ho, hs, addrOf, cell?_of hh, h1]


theorem fload_sound {P : Program} {te : TE} (hte : teOk P te) {σ : Asg} {t : TypeId} {ti : TI} (hti : te t = some ti) (ho : ti.td ≠ .other)
    {l : List SV} {k : Nat} {v : Value} (hv : rel σ (.fp l k) v) (hk : if ti.td.isStruct then k + ti.size ≤ l.length else k < l.length) :
    ∃ u, rel σ (if ti.td.isStruct then .agg ((l.drop k).take ti.size) else l.getD k .u) u ∧ ∀ w', (∀ b o, σ.fz b = some o → w'.heap[b]? = some o) → (Instr.loadAt t v).run P w' = .ok u w' := by
  simp only [rel] at hv
  obtain ⟨b, off, c, e, fr, rfl, hfz, hrl⟩ := hv
  have hrl' := relL_mono (⟨fun _ _ h => (by cases h), fun _ _ h => h⟩ : leA σ.bare σ) hrl
  by_cases hs : ti.td.isStruct = true
  · rw [if_pos hs] at hk ⊢
    have h1 := relL_take ti.size (relL_drop k hrl')
    have hlen := relL_length h1
    simp only [List.length_take, List.length_drop] at hlen
    refine ⟨.agg ((((c.toList.drop off).take l.length).drop k).take ti.size).toArray, ?_, fun w' hw => ?_⟩
    · simp only [rel]
      exact ⟨_, rfl, by simpa using h1⟩
    · have hh := hw _ _ hfz
      have h5 := run_loadCells (P := P) (off := off + k) hh ((((c.toList.drop off).take l.length).drop k).take ti.size) (fun j x hj => by
        rw [List.getElem?_take] at hj
        split at hj
        · rw [List.getElem?_drop, List.getElem?_take] at hj
          split at hj
          · rw [List.getElem?_drop] at hj
            rw [show off + k + j = off + (k + j) by omega]
            simpa using hj
          · cases hj
        · cases hj)
      have hl2 : ((((c.toList.drop off).take l.length).drop k).take ti.size).length = ti.size := by
        simp only [List.length_take, List.length_drop]; omega
      rw [hl2] at h5
      simp only [Instr.loadAt, Instr.sureAddr, Sem.run_bind, Sem.run_pure, Result.andThen_ok, loadVar, run_isAgg hte hti ho, hs, if_true, run_size hte hti, h5]
  · rw [if_neg hs] at hk ⊢
    obtain ⟨u, h1, h2⟩ := relL_get hrl' (list_getD_of hk)
    refine ⟨u, h2, fun w' hw => ?_⟩
    have hh := hw _ _ hfz
    rw [List.getElem?_take, if_pos hk, List.getElem?_drop] at h1
    have h3 : c[off + k]? = some u := by simpa using h1
    simp [Instr.loadAt, Instr.sureAddr, loadVar, run_isAgg hte hti ho, hs, cell?_of hh, h3]

end Go.Vg
end
section
set_option linter.unusedVariables false
set_option linter.unusedSimpArgs false
namespace Go.Vg
set_option linter.unusedSectionVars false
variable [Go.Vg.Glob]
set_option linter.unusedVariables false
set_option linter.unusedSimpArgs false
open Go.RowKit Go.MapKept

theorem push_foldl (ns : List Int) : ∀ (s : ByteArray), (ns.foldl (fun r n => r.push (UInt8.ofNat n.toNat)) s) = ⟨(s.data.toList ++ ns.map fun n => UInt8.ofNat n.toNat).toArray⟩ := by
  induction ns with
  | nil => intro s; simp
  | cons n ns ih =>
    intro s
    simp only [List.foldl_cons, ih]
    simp

theorem isU8_sp {x : SV} (h : isU8 x = true) : ∃ n, x = .i .u8 n := by
  unfold isU8 at h
  split at h
  · exact ⟨_, rfl⟩
  · cases h

theorem isU8T_sp {te : TE} {t : TypeId} (h : isU8T te t = true) : tdOf te t = .int .u8 := by
  unfold isU8T at h
  split at h
  · assumption
  · cases h

theorem bytes_list {σ : Asg} {w : World} {L : Loc} {ro : Bool} {n : Nat} {f : Nat → List SV} {c : Array Value} {e : TypeId} {fr : Nat × Nat} (h : cellsAt σ w L (.row ro 1 n f) c e fr) (lo : Nat) :
    ∀ (len : Nat), lo + len ≤ n → (∀ j, j < len → isU8 ((f (lo + j)).getD 0 .u) = true) →
    ∃ ns : List Int, ns.length = len ∧ (∀ (j : Nat) (x : Int), ns[j]? = some x → c[L.sh + lo + j]? = some (.int .u8 x)) ∧ ns.map (fun n => UInt8.ofNat n.toNat) = rowBytes f lo len := by
  intro len
  induction len with
  | zero => intro _ _; exact ⟨[], rfl, by simp, rfl⟩
  | succ len ih =>
    intro hl hu
    obtain ⟨ns, h1, h2, h3⟩ := ih (by omega) (fun j hj => hu j (by omega))
    obtain ⟨v, h4, h5⟩ := h.cell (lo + len) 0 (by simp only [SO.n]; omega) (by simp [SO.sz])
    obtain ⟨x, hx⟩ := isU8_sp (hu len (by omega))
    simp only [SO.el, SO.sz, Nat.mul_one, Nat.add_zero] at h4 h5
    rw [hx] at h5
    simp only [rel] at h5
    subst h5
    refine ⟨ns ++ [x], by simp [h1], fun j y hj => ?_, ?_⟩
    · rw [List.getElem?_append] at hj
      split at hj
      · exact h2 j y hj
      · have h0 : j - ns.length = 0 := by
          rcases Nat.eq_zero_or_pos (j - ns.length) with h0 | h0
          · exact h0
          · rw [List.getElem?_eq_none (by simp; omega)] at hj; cases hj
        rw [h0] at hj
        simp at hj
        subst hj
        have hjn : j = len := by omega
        subst hjn
        rw [Nat.add_assoc]; exact h4
    · rw [List.map_append, h3]
      simp only [List.getD_eq_getElem?_getD] at hx
      simp [rowBytes, List.range_succ, hx]

theorem conv_sound {P : Program} {te : TE} (hte : teOk P te) {A : Amb} {σ : Asg} {st : St} {a : Act} {w : World} (hR : Rel A σ st a w) {s d e : TypeId} (hs : tdOf te s = .slice e) (hd : tdOf te d = .str) (he : isU8T te e = true)
    {h lo len n : Nat} {ro : Bool} {f : Nat → List SV} (hob : st.ctx.at h = some (.row ro 1 n f)) (hu : ∀ j, j < len → isU8 ((f (lo + j)).getD 0 .u) = true) (hn : lo + len ≤ n) {v : Value} (hv : rel σ (.slc h lo len) v) :
    ∀ w', (∀ L, σ h = some L → w'.heap[L.b]? = w.heap[L.b]?) → (convert s d v).run P w' = .ok (.string ⟨(rowBytes f lo len).toArray⟩) w' := by
  intro w' hw
  simp only [rel] at hv
  obtain ⟨ad, cap, rfl, hl, hv⟩ := hv
  rw [run_convert_bytes_string w' s d e ad len cap (und_slice hte hs) (und_int hte (isU8T_sp he)) (und_str hte hd)]
  rcases hv with hv | ⟨L, hL, rfl, hav⟩
  · have h0 : len = 0 := by omega
    subst h0
    cases ad with
    | none => simp [Conv.bytesToString, rowBytes]; rfl
    | some ad =>
      rw [run_bytesToString w' ad 0 cap [] (by simp [loadCells, loadCellsFrom])]
      simp [rowBytes]; rfl
  · rcases live_cells hR.sat hob rfl with ⟨_, h1⟩ | ⟨L', c, e', fr, hL', hc⟩
    · rw [h1] at hL; cases hL
    rw [hL'] at hL
    cases hL
    obtain ⟨ns, h1, h2, h3⟩ := bytes_list hc lo len hn hu
    have hh : w'.heap[L.b]? = some (.cells c e' fr) := (hw L hL').trans hc.heap
    have hsz : L.sz = 1 := hc.lsz
    have h5 := run_loadCells (P := P) (off := L.sh + lo * L.sz + 0) hh (ns.map (Value.int .u8)) (fun j x hj => by
      simp only [List.getElem?_map, Option.map_eq_some_iff] at hj
      obtain ⟨y, hy, rfl⟩ := hj
      rw [hsz]
      simpa using h2 j y hy)
    simp only [List.length_map, h1] at h5
    rw [show addrOf L lo 0 = ⟨L.b, L.sh + lo * L.sz + 0, none⟩ from rfl, run_bytesToString w' _ len cap ns h5, push_foldl, h3]
    simp


theorem fsBytes_list {σ : Asg} : ∀ {l : List (List SV)} {vs : List Value}, relR σ 1 l vs → (∀ x ∈ l, isU8 (x.getD 0 .u) = true) →
    ∃ ns : List Int, ns.length = l.length ∧ (∀ (j : Nat) (x : Int), ns[j]? = some x → vs[j]? = some (.int .u8 x)) ∧ ns.map (fun n => UInt8.ofNat n.toNat) = fsBytes l
  | [], _, _, _ => ⟨[], rfl, by simp, rfl⟩
  | y :: ys, vs, h, hu => by
    simp only [relR] at h
    obtain ⟨h0, h1, h2⟩ := h
    obtain ⟨ns, g1, g2, g3⟩ := fsBytes_list h2 fun x hx => hu x (List.mem_cons_of_mem _ hx)
    obtain ⟨n, hn⟩ := isU8_sp (hu y (by simp))
    obtain ⟨v, e1, e2⟩ := relL_get h1 (j := 0) (x := y.getD 0 .u) (list_getD_of (by omega))
    rw [hn] at e2
    simp only [rel] at e2
    subst e2
    refine ⟨n :: ns, by simp [g1], fun j x hj => ?_, ?_⟩
    · cases j with
      | zero =>
        simp at hj; subst hj
        rw [List.getElem?_take] at e1
        simpa using e1
      | succ j =>
        simp at hj
        have := g2 j x hj
        rw [List.getElem?_drop, Nat.add_comm] at this
        exact this
    · simp only [List.getD_eq_getElem?_getD] at hn
      simp [fsBytes, g3, hn]

theorem fconv_sound {P : Program} {te : TE} (hte : teOk P te) {σ : Asg} {s d e : TypeId} (hs : tdOf te s = .slice e) (hd : tdOf te d = .str) (he : isU8T te e = true)
    {l : List (List SV)} (hu : ∀ x ∈ l, isU8 (x.getD 0 .u) = true) {v : Value} (hv : rel σ (.fs 1 l) v) :
    ∀ w', (∀ b o, σ.fz b = some o → w'.heap[b]? = some o) → (convert s d v).run P w' = .ok (.string ⟨(fsBytes l).toArray⟩) w' := by
  intro w' hw
  simp only [rel] at hv
  obtain ⟨ad, cap, rfl, hl, hv⟩ := hv
  rw [run_convert_bytes_string w' s d e ad l.length cap (und_slice hte hs) (und_int hte (isU8T_sp he)) (und_str hte hd)]
  rcases hv with hv | ⟨b, off, c, e', fr, rfl, hfz, hrr⟩
  · subst hv
    cases ad with
    | none => simp [Conv.bytesToString, fsBytes]; rfl
    | some ad =>
      simp only [List.length_nil]
      rw [run_bytesToString w' ad 0 cap [] (by simp [loadCells, loadCellsFrom])]
      simp [fsBytes]; rfl
  · obtain ⟨ns, h1, h2, h3⟩ := fsBytes_list hrr hu
    have h5 := run_loadCells (P := P) (off := off) (hw _ _ hfz) (ns.map (Value.int .u8)) (fun j x hj => by
      simp only [List.getElem?_map, Option.map_eq_some_iff] at hj
      obtain ⟨y, hy, rfl⟩ := hj
      have := h2 j y hy
      rw [List.getElem?_drop] at this
      simpa using this)
    simp only [List.length_map, h1] at h5
    rw [run_bytesToString w' _ l.length cap ns h5, push_foldl, h3]
    simp

/-- Keys of a kind: how they stand in memory, and when two are the same. -/
structure KeyK (α : Type) [DecidableEq α] where
  d : TypeDesc
  v : α → Value
  s : α → SV
  same : ∀ a b, Instr.sameNow d (v a) (v b) = some (decide (a = b))
  isKey : ∀ a, IsKey d (v a)
  rel_iff : ∀ σ a x, rel σ (s a) x ↔ x = v a
  stays : ∀ a, Instr.sameBits 10000 (v a) (v a) = true

def keyS : KeyK (List UInt8) where
  d := .string
  v := fun l => .string ⟨l.toArray⟩
  s := fun l => .s l
  same := fun a b => by simp only [Instr.sameNow, beq_toListBytes, ba_toList, beq_dec]
  isKey := fun a => by simp [IsKey]
  rel_iff := fun σ a x => by simp [rel]
  stays := fun a => by simp only [Instr.sameBits, beq_toListBytes, ba_toList]; simp

def keyI : KeyK Int where
  d := .int .i64
  v := fun n => .int .i64 n
  s := fun n => .i .i64 n
  same := fun a b => by simp [Instr.sameNow, beq_dec]
  isKey := fun a => by simp [IsKey]
  rel_iff := fun σ a x => by simp [rel]
  stays := fun a => by simp [Instr.sameBits]

theorem find_ents {α : Type} [DecidableEq α] (kk : KeyK α) (σ : Asg) (k : α) (x : Int) : ∀ (l : List (α × Int)) (es : List MapEntry) (i : Nat), entsRel σ (l.map fun p => (kk.s p.1, .i .i64 p.2)) es →
    (lookS l k = none ∧ Instr.findNow kk.d (kk.v k) es i = some none ∧ updS l k x = l ++ [(k, x)]) ∨
    ∃ j e y, lookS l k = some y ∧ Instr.findNow kk.d (kk.v k) es i = some (some (i + j, .int .i64 y)) ∧ es[j]? = some e ∧ e.key = kk.v k ∧
      entsRel σ ((updS l k x).map fun p => (kk.s p.1, .i .i64 p.2)) (es.modify j fun e => { e with key := kk.v k, val := .int .i64 x })
  | [], es, i, h => by
    simp only [List.map_nil, entsRel] at h
    subst h
    exact .inl ⟨rfl, rfl, rfl⟩
  | (p, n) :: l, es, i, h => by
    simp only [List.map_cons, entsRel] at h
    obtain ⟨e, r, rfl, h1, h2, h3⟩ := h
    rw [kk.rel_iff] at h1
    simp only [rel] at h2
    by_cases hp : p = k
    · subst hp
      refine .inr ⟨0, e, n, by simp [lookS], ?_, rfl, h1, ?_⟩
      · simp [Instr.findNow, h1, kk.same, h2]
      · simp only [updS, if_true, List.map_cons, List.modify_zero_cons, entsRel]
        exact ⟨_, _, rfl, by rw [kk.rel_iff], by simp [rel], h3⟩
    · have hne : ¬ k = p := fun q => hp q.symm
      rcases find_ents kk σ k x l r (i + 1) h3 with ⟨g1, g2, g3⟩ | ⟨j, e', y, g1, g2, g3, g4, g5⟩
      · exact .inl ⟨by simp [lookS, hp, g1], by simp [Instr.findNow, h1, kk.same, hne, g2], by simp [updS, hp, g3]⟩
      · refine .inr ⟨j + 1, e', y, by simp [lookS, hp, g1], ?_, by simpa using g3, g4, ?_⟩
        · simp [Instr.findNow, h1, kk.same, hne, g2]; omega
        · simp only [updS, if_neg hp, List.map_cons, List.modify_succ_cons, entsRel]
          exact ⟨_, _, rfl, by rw [kk.rel_iff]; exact h1, by simp only [rel]; exact h2, g5⟩

theorem entsRel_app {σ : Asg} : ∀ {ps qs : List (SV × SV)} {es fs : List MapEntry}, entsRel σ ps es → entsRel σ qs fs → entsRel σ (ps ++ qs) (es ++ fs)
  | [], qs, es, fs, h, k => by simp only [entsRel] at h; subst h; simpa using k
  | p :: ps, qs, es, fs, h, k => by
    simp only [entsRel] at h
    obtain ⟨e, r, rfl, h1, h2, h3⟩ := h
    simp only [List.cons_append, entsRel]
    exact ⟨e, r ++ fs, rfl, h1, h2, entsRel_app h3 k⟩

theorem look_sound {P : Program} {te : TE} (hte : teOk P te) {α : Type} [DecidableEq α] (kk : KeyK α) {σ : Asg} {w : World} {t kt vt : TypeId} (ht : tdOf te t = .map kt vt) (hkt : P.underlying kt = some kk.d)
    (hvt : te vt = some ⟨.int .i64, 1, 8, [.i .i64 0], false⟩) {L : Loc} {es : Array MapEntry} {ck : Nat} (hh : w.heap[L.b]? = some (.map es ck)) {l : List (α × Int)}
    (he : entsRel σ (l.map fun p => (kk.s p.1, .i .i64 p.2)) es.toList) (k : α) (ok : Bool) :
    (Instr.lookup t (.map (some L.b)) (kk.v k) ok).run P w = .ok (if ok then .tuple #[.int .i64 ((lookS l k).getD 0), .bool (lookS l k).isSome] else .int .i64 ((lookS l k).getD 0)) w := by
  obtain ⟨i, hi, _, _, z, hz, hrz, hone⟩ := (hte vt _ hvt).info
  have hz0 : z = .int .i64 0 := by
    have h1 := hone rfl
    cases z <;> simp only [Value.oneCell', Bool.false_eq_true] at h1 <;> (simp only [Value.cells, relL, rel] at hrz; simp_all)
  have hzero : (zeroValue vt).run P w = .ok (.int .i64 0) w := by simp [zeroValue, run_info hi, hz, hz0]
  unfold Instr.lookup
  simp only [Sem.run_bind, run_und (und_map hte ht), Result.andThen_ok, Go.MapKept.run_getObj_map hh, Sem.run_pure]
  rw [show (10000 : Nat) = 9999 + 1 from rfl, run_checkKey hkt (kk.isKey k)]
  simp only [Result.andThen_ok]
  rcases find_ents kk σ k 0 l es.toList 0 he with ⟨g1, g2, _⟩ | ⟨j, e, y, g1, g2, _⟩
  · rw [run_findKey hkt g2]
    simp [hzero, g1]
  · rw [run_findKey hkt g2]
    simp [g1]
end Go.Vg
end
section
set_option linter.unusedVariables false
set_option linter.unusedSimpArgs false
namespace Go.Vg
set_option linter.unusedSectionVars false
variable [Go.Vg.Glob]
set_option linter.unusedVariables false
set_option linter.unusedSimpArgs false
open Go.RowKit

theorem xload_sound {P : Program} {te : TE} (hte : teOk P te) {A : Amb} {σ : Asg} {st : St} {a : Act} {w : World} (hR : Rel A σ st a w) {c : Bool} {o : Oper} {K : SV → Prop}
    (h : xload te c st o.op K) : OutL P σ w c (opHandle st o.op) (execOp a.eval o) K := by
  obtain ⟨dst, op, ty, pos, after, guard⟩ := o
  simp only at h ⊢
  unfold xload at h
  split at h
  case h_1 t x =>
    obtain ⟨y, h, hr, hh⟩ := ung_handle (hR.ev x) h
    split at h
    · rename_i hd i k
      have hh' : hd ∈ handleOf (st.ev x) := by rw [hh trivial]; exact List.mem_singleton.2 rfl
      split at h
      · rename_i ob ti hob hti
        obtain ⟨hm, ho, h⟩ := h
        by_cases hs : ti.td.isStruct = true
        · rw [if_pos hs] at h
          obtain ⟨hk1, hk2, h⟩ := h
          obtain ⟨hi, h⟩ := h.out
          refine ⟨_, h, fun hc => ?_⟩
          obtain ⟨u, h1, h2⟩ := load_sound hte hR hti ho hob hm (hi hc) (hr hc) (by rw [if_pos hs]; exact ⟨hk1, hk2⟩)
          rw [if_pos hs] at h1
          refine ⟨u, h1, fun w' hw hw2 => lift_val (h2 w' fun L hL => hw hd hh' L hL)⟩
        · rw [if_neg hs] at h
          obtain ⟨hk1, h⟩ := h
          obtain ⟨hi, h⟩ := h.out
          refine ⟨_, h, fun hc => ?_⟩
          obtain ⟨u, h1, h2⟩ := load_sound hte hR hti ho hob hm (hi hc) (hr hc) (by rw [if_neg hs]; exact hk1)
          rw [if_neg hs] at h1
          refine ⟨u, h1, fun w' hw hw2 => lift_val (h2 w' fun L hL => hw hd hh' L hL)⟩
      · exact h.elim
    · rename_i l k
      split at h
      · rename_i ti hti
        obtain ⟨ho, h⟩ := h
        by_cases hs : ti.td.isStruct = true
        · rw [if_pos hs] at h
          obtain ⟨hi, h⟩ := h.out
          refine ⟨_, h, fun hc => ?_⟩
          obtain ⟨u, h1, h2⟩ := fload_sound hte hti ho (hr hc) (by rw [if_pos hs]; exact hi hc)
          rw [if_pos hs] at h1
          exact ⟨u, h1, fun w' _ hw => lift_val (h2 w' hw)⟩
        · rw [if_neg hs] at h
          obtain ⟨hi, h⟩ := h.out
          refine ⟨_, h, fun hc => ?_⟩
          obtain ⟨u, h1, h2⟩ := fload_sound hte hti ho (hr hc) (by rw [if_neg hs]; exact hi hc)
          rw [if_neg hs] at h1
          exact ⟨u, h1, fun w' _ hw => lift_val (h2 w' hw)⟩
      · exact h.elim
    · exact h.elim
  case h_2 s d x =>
    obtain ⟨y, h, hr, hh⟩ := ung_handle (hR.ev x) h
    split at h
    · rename_i hd lo len e hs hdd
      have hh' : hd ∈ handleOf (st.ev x) := by rw [hh trivial]; exact List.mem_singleton.2 rfl
      obtain ⟨hu8, h⟩ := h
      split at h
      · rename_i ro sz n f hob
        obtain ⟨rfl, hu, h⟩ := h
        obtain ⟨hn, h⟩ := h.out
        refine ⟨_, h, fun hc => ⟨.string ⟨(rowBytes f lo len).toArray⟩, by simp only [rel], fun w' hw hw2 => lift_val ?_⟩⟩
        refine conv_sound hte hR hs hdd hu8 hob hu (hn hc) (hr hc) w' fun L hL => hw hd hh' L hL
      · exact h.elim
    · rename_i e hs hdd
      obtain ⟨hu8, h⟩ := h
      refine ⟨_, h, fun hc => ⟨.string ⟨#[]⟩, by simp only [rel], fun w' hw hw2 => lift_val ?_⟩⟩
      have h1 := hr hc
      simp only [rel] at h1
      rw [h1, run_convert_bytes_string w' s d e none 0 0 (und_slice hte hs) (und_int hte (isU8T_sp hu8)) (und_str hte hdd)]
      simp [Conv.bytesToString]; rfl
    · rename_i sz l e hs hdd
      obtain ⟨hu8, rfl, h⟩ := h
      obtain ⟨hall, h⟩ := h.out
      refine ⟨_, h, fun hc => ⟨.string ⟨(fsBytes l).toArray⟩, by simp only [rel], fun w' _ hw => lift_val ?_⟩⟩
      exact fconv_sound hte hs hdd hu8 (hall hc) (hr hc) w' hw
    · exact h.elim
  case h_3 t m k ok =>
    obtain ⟨y, h, hr, hh⟩ := ung_handle (hR.ev m) h
    obtain ⟨y2, h, hr2⟩ := ung_sound (hR.ev k) h
    split at h
    · rename_i hd s _
      have hh' : hd ∈ handleOf (st.ev m) := by rw [hh trivial]; exact List.mem_singleton.2 rfl
      split at h
      · rename_i l kt vt hob htd
        obtain ⟨hkt, hvt, h⟩ := h
        have hobj := hR.sat.obj hd _ hob
        simp only [objSat, SO.isMap, SO.ents] at hobj
        obtain ⟨L, es, ck, hL, hh0, he⟩ := hobj
        unfold xlook at h
        split at h
        · rename_i hok
          refine ⟨_, h, fun hc => ⟨.tuple #[.int .i64 ((lookS l s).getD 0), .bool (lookS l s).isSome], by simp [rel, relL], fun w' hw hw2 => lift_val ?_⟩⟩
          have h1 := hr hc
          have h2 := hr2 hc
          simp only [rel] at h1 h2
          obtain ⟨L', hL', hv⟩ := h1
          rw [hL] at hL'; cases hL'
          have := look_sound hte keyS htd (und_str hte hkt) hvt (L := L) ((hw hd hh' L hL).trans hh0) he s ok
          rw [hv, h2]
          rw [if_pos hok] at this
          exact this
        · rename_i hok
          refine ⟨_, h, fun hc => ⟨.int .i64 ((lookS l s).getD 0), by simp [rel], fun w' hw hw2 => lift_val ?_⟩⟩
          have h1 := hr hc
          have h2 := hr2 hc
          simp only [rel] at h1 h2
          obtain ⟨L', hL', hv⟩ := h1
          rw [hL] at hL'; cases hL'
          have := look_sound hte keyS htd (und_str hte hkt) hvt (L := L) ((hw hd hh' L hL).trans hh0) he s ok
          rw [hv, h2]
          rw [if_neg hok] at this
          exact this
      · exact h.elim
    · rename_i hd s _
      have hh' : hd ∈ handleOf (st.ev m) := by rw [hh trivial]; exact List.mem_singleton.2 rfl
      split at h
      · rename_i l kt vt hob htd
        obtain ⟨hkt, hvt, h⟩ := h
        have hobj := hR.sat.obj hd _ hob
        simp only [objSat, SO.isMap, SO.ents] at hobj
        obtain ⟨L, es, ck, hL, hh0, he⟩ := hobj
        unfold xlook at h
        split at h
        · rename_i hok
          refine ⟨_, h, fun hc => ⟨.tuple #[.int .i64 ((lookS l s).getD 0), .bool (lookS l s).isSome], by simp [rel, relL], fun w' hw hw2 => lift_val ?_⟩⟩
          have h1 := hr hc
          have h2 := hr2 hc
          simp only [rel] at h1 h2
          obtain ⟨L', hL', hv⟩ := h1
          rw [hL] at hL'; cases hL'
          have := look_sound hte keyI htd (und_int hte hkt) hvt (L := L) ((hw hd hh' L hL).trans hh0) he s ok
          rw [hv, h2]
          rw [if_pos hok] at this
          exact this
        · rename_i hok
          refine ⟨_, h, fun hc => ⟨.int .i64 ((lookS l s).getD 0), by simp [rel], fun w' hw hw2 => lift_val ?_⟩⟩
          have h1 := hr hc
          have h2 := hr2 hc
          simp only [rel] at h1 h2
          obtain ⟨L', hL', hv⟩ := h1
          rw [hL] at hL'; cases hL'
          have := look_sound hte keyI htd (und_int hte hkt) hvt (L := L) ((hw hd hh' L hL).trans hh0) he s ok
          rw [hv, h2]
          rw [if_neg hok] at this
          exact this
      · exact h.elim
    · exact h.elim
  case h_4 => exact h.elim
end Go.Vg
end
