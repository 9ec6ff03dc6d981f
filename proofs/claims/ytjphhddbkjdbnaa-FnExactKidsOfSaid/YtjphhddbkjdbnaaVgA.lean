/- Symbolic values, objects and states over the model, and what they say of a world. -/
import Derived.Orders
import Derived.Below
namespace Go.Vg
set_option linter.unusedVariables false
set_option linter.unusedSimpArgs false
open Go.RowKit

/-- A symbolic value: plain data, or a handle of an object and a place in it. -/
inductive SV where
  | b (x : Bool)
  | i (k : IntKind) (n : Int)
  | s (l : List UInt8)
  | ptr (h i k : Nat)
  | slc (h lo len : Nat)
  | nils
  | mp (h : Nat)
  | fn (f : FuncId)
  | agg (l : List SV)
  | tup (l : List SV)
  | gd (g : Bool) (x : SV)
  | u
  | fs (sz : Nat) (l : List (List SV))
  | fp (l : List SV) (k : Nat)
  deriving Inhabited

/-- Where an object lies: block, shift, how many cells it may use, cells of an element. -/
structure Loc where
  b : Nat
  sh : Nat
  av : Nat
  sz : Nat

/-- Where the objects lie, and which blocks stay as they are for good. -/
structure Asg where
  loc : Nat → Option Loc
  fz : Nat → Option Obj
instance : CoeFun Asg (fun _ => Nat → Option Loc) := ⟨Asg.loc⟩
def Asg.ren (σ : Asg) (μ : Nat → Nat) : Asg := ⟨fun h => σ (μ h), σ.fz⟩
def Asg.bare (σ : Asg) : Asg := ⟨fun _ => none, σ.fz⟩
def Asg.nil : Asg := ⟨fun _ => none, fun _ => none⟩
theorem Asg.ren_loc (σ : Asg) (μ : Nat → Nat) (h : Nat) : (σ.ren μ) h = σ (μ h) := rfl
theorem Asg.ren_fz (σ : Asg) (μ : Nat → Nat) : (σ.ren μ).fz = σ.fz := rfl
theorem Asg.bare_bare (σ : Asg) : σ.bare.bare = σ.bare := rfl
theorem Asg.bare_ren (σ : Asg) (μ : Nat → Nat) : (σ.ren μ).bare = σ.bare := rfl

def addrOf (L : Loc) (i k : Nat) : Addr := ⟨L.b, L.sh + i * L.sz + k, none⟩

mutual
def rel : Asg → SV → Value → Prop
  | _, .b x, v => v = .bool x
  | _, .i k n, v => v = .int k n
  | _, .s l, v => v = .string ⟨l.toArray⟩
  | σ, .ptr h i k, v => ∃ L, σ h = some L ∧ v = .pointer (some (addrOf L i k))
  | σ, .slc h lo len, v => ∃ a cap, v = .slice a len cap ∧ len ≤ cap ∧ (cap = 0 ∨ ∃ L, σ h = some L ∧ a = some (addrOf L lo 0) ∧ (lo + cap) * L.sz ≤ L.av)
  | _, .nils, v => v = .slice none 0 0
  | σ, .mp h, v => ∃ L, σ h = some L ∧ v = .map (some L.b)
  | _, .fn f, v => v = .func (.func f) #[] #[]
  | σ, .agg l, v => ∃ cs, v = .agg cs ∧ relL σ l cs.toList
  | σ, .tup l, v => ∃ cs, v = .tuple cs ∧ relL σ l cs.toList
  | σ, .gd g x, v => (g = true → rel σ x v) ∧ (g = false → v = undef)
  | _, .u, _ => True
  | σ, .fs sz l, v => ∃ a cap, v = .slice a l.length cap ∧ l.length ≤ cap ∧ (l = [] ∨ ∃ b off c e fr, a = some ⟨b, off, none⟩ ∧ σ.fz b = some (.cells c e fr) ∧ relR σ.bare sz l (c.toList.drop off))
  | σ, .fp l k, v => ∃ b off c e fr, v = .pointer (some ⟨b, off + k, none⟩) ∧ σ.fz b = some (.cells c e fr) ∧ relL σ.bare l ((c.toList.drop off).take l.length)
def relL : Asg → List SV → List Value → Prop
  | _, [], vs => vs = []
  | σ, x :: xs, vs => ∃ v r, vs = v :: r ∧ rel σ x v ∧ relL σ xs r
def relR : Asg → Nat → List (List SV) → List Value → Prop
  | _, _, [], _ => True
  | σ, sz, l :: r, vs => l.length = sz ∧ relL σ l (vs.take sz) ∧ relR σ sz r (vs.drop sz)
end

theorem relL_length {σ : Asg} : ∀ {l : List SV} {vs : List Value}, relL σ l vs → l.length = vs.length
  | [], vs, h => by simp [relL] at h; simp [h]
  | x :: xs, vs, h => by
    simp only [relL] at h
    obtain ⟨v, r, rfl, _, h2⟩ := h
    simp [relL_length h2]

theorem relL_get {σ : Asg} : ∀ {l : List SV} {vs : List Value}, relL σ l vs → ∀ {j : Nat} {x : SV}, l[j]? = some x → ∃ v, vs[j]? = some v ∧ rel σ x v
  | [], _, _, j, x, hx => by simp at hx
  | y :: ys, vs, h, j, x, hx => by
    simp only [relL] at h
    obtain ⟨v, r, rfl, h1, h2⟩ := h
    cases j with
    | zero => simp at hx; subst hx; exact ⟨v, rfl, h1⟩
    | succ j => simp at hx; simpa using relL_get h2 hx

theorem relL_of_get {σ : Asg} : ∀ {l : List SV} {vs : List Value}, l.length = vs.length → (∀ (j : Nat) (x : SV) (v : Value), l[j]? = some x → vs[j]? = some v → rel σ x v) → relL σ l vs
  | [], vs, hl, _ => by simp only [relL]; exact List.length_eq_zero_iff.1 (by simpa using hl.symm)
  | x :: xs, [], hl, _ => by simp at hl
  | x :: xs, v :: vs, hl, h => by
    simp only [relL]
    exact ⟨v, vs, rfl, h 0 x v rfl rfl, relL_of_get (by simpa using hl) fun j y u hy hu => h (j + 1) y u (by simpa using hy) (by simpa using hu)⟩

/-- The elements of a frozen row. -/
theorem relR_get {σ : Asg} {sz : Nat} : ∀ {l : List (List SV)} {vs : List Value}, relR σ sz l vs → ∀ {j : Nat} {x : List SV}, l[j]? = some x → x.length = sz ∧ relL σ x ((vs.drop (j * sz)).take sz)
  | [], _, _, j, x, hx => by simp at hx
  | y :: ys, vs, h, j, x, hx => by
    simp only [relR] at h
    obtain ⟨h0, h1, h2⟩ := h
    cases j with
    | zero => simp at hx; subst hx; simpa using ⟨h0, h1⟩
    | succ j =>
      simp at hx
      have := relR_get h2 hx
      rw [List.drop_drop] at this
      rw [Nat.succ_mul, Nat.add_comm]
      exact this

theorem relR_of_get {σ : Asg} {sz : Nat} : ∀ {l : List (List SV)} {vs : List Value}, (∀ (j : Nat) (x : List SV), l[j]? = some x → x.length = sz ∧ relL σ x ((vs.drop (j * sz)).take sz)) → relR σ sz l vs
  | [], _, _ => by simp [relR]
  | y :: ys, vs, h => by
    simp only [relR]
    have h0 := h 0 y rfl
    simp only [Nat.zero_mul, List.drop_zero] at h0
    refine ⟨h0.1, h0.2, relR_of_get fun j x hx => ?_⟩
    have := h (j + 1) x (by simpa using hx)
    rw [Nat.succ_mul, Nat.add_comm] at this
    rw [List.drop_drop]
    exact this

structure leA (σ σ' : Asg) : Prop where
  loc : ∀ h L, σ h = some L → σ' h = some L
  fz : ∀ b o, σ.fz b = some o → σ'.fz b = some o

theorem leA.refl (σ : Asg) : leA σ σ := ⟨fun _ _ h => h, fun _ _ h => h⟩
theorem leA.trans {a b c : Asg} (h : leA a b) (k : leA b c) : leA a c := ⟨fun x L e => k.loc x L (h.loc x L e), fun x L e => k.fz x L (h.fz x L e)⟩
theorem leA.bare {a b : Asg} (h : leA a b) : leA a.bare b.bare := ⟨fun x L e => (by cases e), h.fz⟩
theorem leA.nil (σ : Asg) : leA Asg.nil σ := ⟨fun x L e => (by cases e), fun x L e => (by cases e)⟩

mutual
theorem rel_mono : ∀ {σ σ' : Asg} (h : leA σ σ') {x : SV} {v : Value}, rel σ x v → rel σ' x v
  | _, _, _, .b _, _, r => by simpa [rel] using r
  | _, _, _, .i _ _, _, r => by simpa [rel] using r
  | _, _, _, .s _, _, r => by simpa [rel] using r
  | _, _, h, .ptr _ _ _, _, r => by
    simp only [rel] at r ⊢
    obtain ⟨L, e, r⟩ := r
    exact ⟨L, h.loc _ _ e, r⟩
  | _, _, h, .slc _ _ _, _, r => by
    simp only [rel] at r ⊢
    obtain ⟨a, cap, e, hl, r⟩ := r
    exact ⟨a, cap, e, hl, r.imp id fun ⟨L, e, r⟩ => ⟨L, h.loc _ _ e, r⟩⟩
  | _, _, _, .nils, _, r => by simpa [rel] using r
  | _, _, h, .mp _, _, r => by
    simp only [rel] at r ⊢
    obtain ⟨L, e, r⟩ := r
    exact ⟨L, h.loc _ _ e, r⟩
  | _, _, _, .fn _, _, r => by simpa [rel] using r
  | _, _, h, .agg _, _, r => by
    simp only [rel] at r ⊢
    obtain ⟨cs, e, r⟩ := r
    exact ⟨cs, e, relL_mono h r⟩
  | _, _, h, .tup _, _, r => by
    simp only [rel] at r ⊢
    obtain ⟨cs, e, r⟩ := r
    exact ⟨cs, e, relL_mono h r⟩
  | _, _, h, .gd _ _, _, r => by
    simp only [rel] at r ⊢
    exact ⟨fun g => rel_mono h (r.1 g), r.2⟩
  | _, _, _, .u, _, _ => by simp [rel]
  | _, _, h, .fs sz l, _, r => by
    simp only [rel] at r ⊢
    obtain ⟨a, cap, e, hl, r⟩ := r
    refine ⟨a, cap, e, hl, r.imp id ?_⟩
    rintro ⟨b, off, c, e, fr, h1, h2, h3⟩
    exact ⟨b, off, c, e, fr, h1, h.fz _ _ h2, relR_mono h.bare h3⟩
  | _, _, h, .fp l k, _, r => by
    simp only [rel] at r ⊢
    obtain ⟨b, off, c, e, fr, h1, h2, h3⟩ := r
    exact ⟨b, off, c, e, fr, h1, h.fz _ _ h2, relL_mono h.bare h3⟩
theorem relL_mono : ∀ {σ σ' : Asg} (h : leA σ σ') {x : List SV} {v : List Value}, relL σ x v → relL σ' x v
  | _, _, _, [], _, r => by simpa [relL] using r
  | _, _, h, _ :: _, _, r => by
    simp only [relL] at r ⊢
    obtain ⟨v, q, e, r1, r2⟩ := r
    exact ⟨v, q, e, rel_mono h r1, relL_mono h r2⟩
theorem relR_mono : ∀ {σ σ' : Asg} (h : leA σ σ') {sz : Nat} {x : List (List SV)} {v : List Value}, relR σ sz x v → relR σ' sz x v
  | _, _, _, _, [], _, _ => by simp [relR]
  | _, _, h, _, _ :: _, _, r => by
    simp only [relR] at r ⊢
    exact ⟨r.1, relL_mono h r.2.1, relR_mono h r.2.2⟩
end

-- Handles renamed.
mutual
def SV.mapH (μ : Nat → Nat) : SV → SV
  | .ptr h i k => .ptr (μ h) i k
  | .slc h lo len => .slc (μ h) lo len
  | .mp h => .mp (μ h)
  | .agg l => .agg (mapHL μ l)
  | .tup l => .tup (mapHL μ l)
  | .gd g x => .gd g (SV.mapH μ x)
  | .b x => .b x
  | .i k n => .i k n
  | .s l => .s l
  | .nils => .nils
  | .fn f => .fn f
  | .u => .u
  | .fs sz l => .fs sz l
  | .fp l k => .fp l k
def mapHL (μ : Nat → Nat) : List SV → List SV
  | [] => []
  | x :: xs => SV.mapH μ x :: mapHL μ xs
end

theorem mapHL_eq (μ : Nat → Nat) (l : List SV) : mapHL μ l = l.map (SV.mapH μ) := by
  induction l with
  | nil => rfl
  | cons x xs ih => simp [mapHL, ih]

mutual
theorem rel_mapH (σ : Asg) (μ : Nat → Nat) : ∀ (x : SV) (v : Value), rel σ (x.mapH μ) v ↔ rel (σ.ren μ) x v
  | .b _, _ => by simp [rel, SV.mapH]
  | .i _ _, _ => by simp [rel, SV.mapH]
  | .s _, _ => by simp [rel, SV.mapH]
  | .ptr _ _ _, _ => by simp [rel, SV.mapH, Asg.ren_loc]
  | .slc _ _ _, _ => by simp [rel, SV.mapH, Asg.ren_loc]
  | .nils, _ => by simp [rel, SV.mapH]
  | .mp _, _ => by simp [rel, SV.mapH, Asg.ren_loc]
  | .fn _, _ => by simp [rel, SV.mapH]
  | .agg l, _ => by simp only [rel, SV.mapH, relL_mapH σ μ l]
  | .tup l, _ => by simp only [rel, SV.mapH, relL_mapH σ μ l]
  | .gd _ x, _ => by simp only [rel, SV.mapH, rel_mapH σ μ x]
  | .u, _ => by simp [rel, SV.mapH]
  | .fs _ _, _ => by simp only [rel, SV.mapH, Asg.ren_fz, Asg.bare_ren]
  | .fp _ _, _ => by simp only [rel, SV.mapH, Asg.ren_fz, Asg.bare_ren]
theorem relL_mapH (σ : Asg) (μ : Nat → Nat) : ∀ (x : List SV) (v : List Value), relL σ (mapHL μ x) v ↔ relL (σ.ren μ) x v
  | [], _ => by simp [relL, mapHL]
  | x :: xs, _ => by simp only [relL, mapHL, rel_mapH σ μ x, relL_mapH σ μ xs]
end

/-- An object: a row of elements, one variable, or a map. 'ro': it is only read. -/
inductive SO where
  | row (ro : Bool) (sz n : Nat) (f : Nat → List SV)
  | blk (ro : Bool) (cs : List SV)
  | mapS (l : List (List UInt8 × Int))
  | mapI (l : List (Int × Int))

def SO.ro : SO → Bool
  | .row r _ _ _ | .blk r _ => r
  | _ => false
def SO.sz : SO → Nat
  | .row _ z _ _ => z
  | .blk _ cs => cs.length
  | _ => 0
def SO.n : SO → Nat
  | .row _ _ n _ => n
  | .blk _ _ => 1
  | _ => 0
def SO.el : SO → Nat → List SV
  | .row _ _ _ f, i => f i
  | .blk _ cs, _ => cs
  | _, _ => []
def SO.isMap : SO → Bool
  | .mapS _ | .mapI _ => true
  | _ => false
def SO.ents : SO → List (SV × SV)
  | .mapS l => l.map fun p => (.s p.1, .i .i64 p.2)
  | .mapI l => l.map fun p => (.i .i64 p.1, .i .i64 p.2)
  | _ => []

def entsRel (σ : Asg) : List (SV × SV) → List MapEntry → Prop
  | [], es => es = []
  | p :: ps, es => ∃ e r, es = e :: r ∧ rel σ p.1 e.key ∧ rel σ p.2 e.val ∧ entsRel σ ps r

/-- The cells of an object that is no map. -/
structure cellsAt (σ : Asg) (w : World) (L : Loc) (o : SO) (c : Array Value) (e : TypeId) (fr : Nat × Nat) : Prop where
  heap : w.heap[L.b]? = some (.cells c e fr)
  lsz : L.sz = o.sz
  room : L.sh + L.av ≤ c.size
  fits : o.n * o.sz ≤ L.av
  cell : ∀ i k, i < o.n → k < o.sz → ∃ v, c[L.sh + i * o.sz + k]? = some v ∧ rel σ ((o.el i).getD k .u) v
  free : o.ro = false → (fr.1 = fr.2 ∨ c.size ≤ fr.1)

def objSat (σ : Asg) (w : World) (h : Nat) (o : SO) : Prop :=
  match o.isMap with
  | true => ∃ L es ck, σ h = some L ∧ w.heap[L.b]? = some (.map es ck) ∧ entsRel σ o.ents es.toList
  | false => (o.n = 0 ∧ σ h = none) ∨ ∃ L c e fr, σ h = some L ∧ cellsAt σ w L o c e fr

abbrev Ctx := List (Option SO)
def Ctx.at (c : Ctx) (h : Nat) : Option SO := c.getD h none

structure Sat (σ : Asg) (w : World) (c : Ctx) : Prop where
  obj : ∀ h o, c.at h = some o → objSat σ w h o
  apart : ∀ h h' o o' L L', h ≠ h' → c.at h = some o → c.at h' = some o' → o.ro = false → σ h = some L → σ h' = some L' → L.b ≠ L'.b
  beyond : ∀ h, c.length ≤ h → σ h = none
  inHeap : ∀ h L, σ h = some L → L.b < w.heap.size
  frz : ∀ b o, σ.fz b = some o → w.heap[b]? = some o
  frzA : ∀ h o L, c.at h = some o → o.ro = false → σ h = some L → σ.fz L.b = none

structure St where
  env : List (Tmp × SV)
  ctx : Ctx

def look : List (Tmp × SV) → Tmp → SV
  | [], _ => .u
  | (u, x) :: r, t => if u = t then x else look r t

/-- What surrounds a function's run: the world at its start, the blocks of that world that it may write, where the objects that came in lie. -/
structure Amb where
  w0 : World
  D : Nat → Prop
  σ0 : Asg
  k : Nat
  nt : Nat
  gr : Bool

/-- 'w' came of 'w0'; what is below and not in 'D' is as it was. -/
structure Fr (D : Nat → Prop) (w w' : World) : Prop where
  os : w'.os = w.os
  tape : w'.tape = w.tape
  output : w'.output = w.output
  size : w.heap.size ≤ w'.heap.size
  block : ∀ b, b < w.heap.size → ¬ D b → w'.heap[b]? = w.heap[b]?

theorem Fr.refl (D : Nat → Prop) (w : World) : Fr D w w := ⟨rfl, rfl, rfl, Nat.le_refl _, fun _ _ _ => rfl⟩
theorem Fr.trans {D : Nat → Prop} {a b c : World} (h : Fr D a b) (k : Fr D b c) : Fr D a c :=
  ⟨k.os.trans h.os, k.tape.trans h.tape, k.output.trans h.output, Nat.le_trans h.size k.size, fun i hi hd => (k.block i (Nat.lt_of_lt_of_le hi h.size) hd).trans (h.block i hi hd)⟩
theorem Fr.mono {D D' : Nat → Prop} {w w' : World} (h : Fr D w w') (hd : ∀ b, b < w.heap.size → D b → D' b) : Fr D' w w' :=
  ⟨h.os, h.tape, h.output, h.size, fun b hb hn => h.block b hb fun x => hn (hd b hb x)⟩
/-- A later step that writes only into 'D' and into what is new. -/
theorem Fr.step {D D' : Nat → Prop} {a b c : World} (h : Fr D a b) (k : Fr D' b c) (hd : ∀ x, x < a.heap.size → D' x → D x) : Fr D a c :=
  ⟨k.os.trans h.os, k.tape.trans h.tape, k.output.trans h.output, Nat.le_trans h.size k.size,
    fun i hi hn => (k.block i (Nat.lt_of_lt_of_le hi h.size) fun x => hn (hd i hi x)).trans (h.block i hi hn)⟩

/-- What stays of the beginning: where the first objects lie; what was frozen, and that nothing foreign has been frozen since. -/
structure baseOK (A : Amb) (σ : Asg) : Prop where
  loc : ∀ h, h < A.k → σ h = A.σ0 h
  fzb : ∀ b o, A.σ0.fz b = some o → σ.fz b = some o
  fzn : ∀ b o, σ.fz b = some o → A.σ0.fz b = some o ∨ (A.gr = true ∧ (A.D b ∨ A.w0.heap.size ≤ b))

structure Rel (A : Amb) (σ : Asg) (st : St) (a : Act) (w : World) : Prop where
  defers : a.defers = []
  size : a.tmps.size = A.nt
  env : ∀ t, rel σ (look st.env t) (a.tmps.getD t undef)
  sat : Sat σ w st.ctx
  fr : Fr A.D A.w0 w
  own : ∀ h o L, st.ctx.at h = some o → o.ro = false → σ h = some L → A.D L.b ∨ A.w0.heap.size ≤ L.b
  base : baseOK A σ
  klen : A.k ≤ st.ctx.length

/-! Values without handles. -/

mutual
def SV.plain : SV → Bool
  | .ptr _ _ _ => false
  | .slc _ _ _ => false
  | .mp _ => false
  | .agg l => plainL l
  | .tup l => plainL l
  | .gd _ x => SV.plain x
  | .b _ => true
  | .i _ _ => true
  | .s _ => true
  | .nils => true
  | .fn _ => true
  | .u => true
  | .fs _ _ => true
  | .fp _ _ => true
def plainL : List SV → Bool
  | [] => true
  | x :: xs => SV.plain x && plainL xs
end

-- Values that look at no memory at all.
mutual
def SV.bit : SV → Bool
  | .agg l => bitL l
  | .tup l => bitL l
  | .gd _ x => SV.bit x
  | .b _ => true
  | .i _ _ => true
  | .s _ => true
  | .nils => true
  | .fn _ => true
  | .u => true
  | _ => false
def bitL : List SV → Bool
  | [] => true
  | x :: xs => SV.bit x && bitL xs
end

mutual
theorem rel_plain {σ σ' : Asg} (hf : ∀ b o, σ.fz b = some o → σ'.fz b = some o) : ∀ {x : SV} {v : Value}, x.plain = true → rel σ x v → rel σ' x v
  | .b _, _, _, r => by simpa [rel] using r
  | .i _ _, _, _, r => by simpa [rel] using r
  | .s _, _, _, r => by simpa [rel] using r
  | .nils, _, _, r => by simpa [rel] using r
  | .fn _, _, _, r => by simpa [rel] using r
  | .u, _, _, r => by simp [rel]
  | .ptr _ _ _, _, h, _ => by simp [SV.plain] at h
  | .slc _ _ _, _, h, _ => by simp [SV.plain] at h
  | .mp _, _, h, _ => by simp [SV.plain] at h
  | .agg l, _, h, r => by
    simp only [rel, SV.plain] at r h ⊢
    obtain ⟨cs, e, r⟩ := r
    exact ⟨cs, e, relL_plain hf h r⟩
  | .tup l, _, h, r => by
    simp only [rel, SV.plain] at r h ⊢
    obtain ⟨cs, e, r⟩ := r
    exact ⟨cs, e, relL_plain hf h r⟩
  | .gd _ x, _, h, r => by
    simp only [rel, SV.plain] at r h ⊢
    exact ⟨fun g => rel_plain hf h (r.1 g), r.2⟩
  | .fs _ _, _, _, r => by
    simp only [rel] at r ⊢
    obtain ⟨a, cap, e, hl, r⟩ := r
    refine ⟨a, cap, e, hl, r.imp id ?_⟩
    rintro ⟨b, off, c, e, fr, h1, h2, h3⟩
    exact ⟨b, off, c, e, fr, h1, hf _ _ h2, relR_mono (⟨fun _ _ e => (by cases e), hf⟩ : leA σ.bare σ'.bare) h3⟩
  | .fp _ _, _, _, r => by
    simp only [rel] at r ⊢
    obtain ⟨b, off, c, e, fr, h1, h2, h3⟩ := r
    exact ⟨b, off, c, e, fr, h1, hf _ _ h2, relL_mono (⟨fun _ _ e => (by cases e), hf⟩ : leA σ.bare σ'.bare) h3⟩
theorem relL_plain {σ σ' : Asg} (hf : ∀ b o, σ.fz b = some o → σ'.fz b = some o) : ∀ {x : List SV} {v : List Value}, plainL x = true → relL σ x v → relL σ' x v
  | [], _, _, r => by simpa [relL] using r
  | _ :: _, _, h, r => by
    simp only [relL, plainL, Bool.and_eq_true] at r h ⊢
    obtain ⟨v, q, e, r1, r2⟩ := r
    exact ⟨v, q, e, rel_plain hf h.1 r1, relL_plain hf h.2 r2⟩
end

mutual
theorem rel_bit {σ σ' : Asg} : ∀ {x : SV} {v : Value}, x.bit = true → rel σ x v → rel σ' x v
  | .b _, _, _, r => by simpa [rel] using r
  | .i _ _, _, _, r => by simpa [rel] using r
  | .s _, _, _, r => by simpa [rel] using r
  | .nils, _, _, r => by simpa [rel] using r
  | .fn _, _, _, r => by simpa [rel] using r
  | .u, _, _, r => by simp [rel]
  | .ptr _ _ _, _, h, _ => by simp [SV.bit] at h
  | .slc _ _ _, _, h, _ => by simp [SV.bit] at h
  | .mp _, _, h, _ => by simp [SV.bit] at h
  | .fs _ _, _, h, _ => by simp [SV.bit] at h
  | .fp _ _, _, h, _ => by simp [SV.bit] at h
  | .agg l, _, h, r => by
    simp only [rel, SV.bit] at r h ⊢
    obtain ⟨cs, e, r⟩ := r
    exact ⟨cs, e, relL_bit h r⟩
  | .tup l, _, h, r => by
    simp only [rel, SV.bit] at r h ⊢
    obtain ⟨cs, e, r⟩ := r
    exact ⟨cs, e, relL_bit h r⟩
  | .gd _ x, _, h, r => by
    simp only [rel, SV.bit] at r h ⊢
    exact ⟨fun g => rel_bit h (r.1 g), r.2⟩
theorem relL_bit {σ σ' : Asg} : ∀ {x : List SV} {v : List Value}, bitL x = true → relL σ x v → relL σ' x v
  | [], _, _, r => by simpa [relL] using r
  | _ :: _, _, h, r => by
    simp only [relL, bitL, Bool.and_eq_true] at r h ⊢
    obtain ⟨v, q, e, r1, r2⟩ := r
    exact ⟨v, q, e, rel_bit h.1 r1, relL_bit h.2 r2⟩
end

end Go.Vg
