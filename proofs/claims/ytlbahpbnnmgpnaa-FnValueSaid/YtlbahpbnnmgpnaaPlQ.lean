/- Steps of paths, and which paths a pattern tells, in plain words. -/
import Derived.Test.YtlbahpbnnmgpnaaPlV
namespace Go.Pl
set_option linter.unusedVariables false
set_option linter.unusedSimpArgs false
structure Sg where
  kind : Int
  n : Int
  text : Bs
deriving DecidableEq
def sgz : Sg := ⟨0, 0, []⟩
def sgOk (s : Sg) : Bool :=
  decide (1 ≤ s.kind ∧ s.kind ≤ 5 ∧ 0 ≤ s.n ∧ s.n ≤ 4294967295) && (decide (s.kind = 1 ∨ s.kind = 3) || decide (s.n = 0)) && (decide (s.kind = 2) || decide (s.text = []))
def sgsOk (l : List Sg) : Bool := l.all sgOk
/-- A pattern tells a path. -/
def mtc : List Sg → List Sg → Bool
  | [], l => l.isEmpty
  | s :: p, l => if s.kind = 5 then (mtc p l || match l with | [] => false | _ :: t => mtc (s :: p) t) else match l with
    | [] => false
    | x :: t => (decide (s.kind = 4) || decide (s = x)) && mtc p t
termination_by p l => p.length + l.length
/-- Which beginnings of l are told by a pattern's next step, where f told which are by the steps before. -/
def nxF (s : Sg) (l : List Sg) (f : Nat → Bool) : Nat → Bool
  | 0 => decide (s.kind = 5) && f 0
  | i + 1 => if s.kind = 5 then f (i + 1) || nxF s l f i else f i && (decide (s.kind = 4) || decide (s = l.getD i sgz))
def fitF (l : List Sg) : List Sg → (Nat → Bool) → Nat → Bool
  | [], f => f
  | s :: p, f => fitF l p (nxF s l f)
def zrF : Nat → Bool := fun j => decide (j = 0)
theorem nxF_deep {s : Sg} {l : List Sg} {f : Nat → Bool} (h : s.kind = 5) (i : Nat) : nxF s l f i = true ↔ ∃ j, j ≤ i ∧ f j = true := by
  induction i with
  | zero => simp [nxF, h]
  | succ i ih =>
    simp only [nxF, if_pos h, Bool.or_eq_true, ih]
    constructor
    · rintro (h1 | ⟨j, h1, h2⟩)
      · exact ⟨i + 1, Nat.le_refl _, h1⟩
      · exact ⟨j, by omega, h2⟩
    · rintro ⟨j, h1, h2⟩
      by_cases e : j = i + 1
      · subst e; exact .inl h2
      · exact .inr ⟨j, by omega, h2⟩
theorem mtc_deep {s : Sg} {p l : List Sg} (h : s.kind = 5) : ∀ j, j ≤ l.length → (mtc (s :: p) (l.drop j) = true ↔ ∃ i, j ≤ i ∧ i ≤ l.length ∧ mtc p (l.drop i) = true) := by
  intro j hj
  generalize hn : l.length - j = n
  induction n generalizing j with
  | zero =>
    have : j = l.length := by omega
    subst this
    rw [List.drop_length, mtc, if_pos h]
    simp only [Bool.or_false]
    constructor
    · intro h1; exact ⟨l.length, Nat.le_refl _, Nat.le_refl _, by rw [List.drop_length]; exact h1⟩
    · rintro ⟨i, h1, h2, h3⟩
      have : i = l.length := by omega
      subst this
      rwa [List.drop_length] at h3
  | succ n ih =>
    have hd : l.drop j = l[j] :: l.drop (j + 1) := List.drop_eq_getElem_cons (by omega)
    have := ih (j + 1) (by omega) (by omega)
    rw [hd, mtc, if_pos h]
    simp only [Bool.or_eq_true, this]
    rw [← hd]
    constructor
    · rintro (h1 | ⟨i, h1, h2, h3⟩)
      · exact ⟨j, Nat.le_refl _, hj, h1⟩
      · exact ⟨i, by omega, h2, h3⟩
    · rintro ⟨i, h1, h2, h3⟩
      by_cases e : i = j
      · subst e; exact .inl h3
      · exact .inr ⟨i, by omega, h2, h3⟩
theorem fitF_mtc {l : List Sg} : ∀ (p : List Sg) (f : Nat → Bool), (fitF l p f l.length = true ↔ ∃ i, i ≤ l.length ∧ f i = true ∧ mtc p (l.drop i) = true)
  | [], f => by
    simp only [fitF]
    constructor
    · intro h; exact ⟨l.length, Nat.le_refl _, h, by rw [List.drop_length, mtc]; rfl⟩
    · rintro ⟨i, h1, h2, h3⟩
      rw [mtc] at h3
      have : l.drop i = [] := List.isEmpty_iff.1 h3
      have := congrArg List.length this
      simp at this
      have : i = l.length := by omega
      subst this
      exact h2
  | s :: p, f => by
    simp only [fitF]
    rw [fitF_mtc p]
    by_cases h : s.kind = 5
    · constructor
      · rintro ⟨i, h1, h2, h3⟩
        obtain ⟨j, h4, h5⟩ := (nxF_deep h i).1 h2
        exact ⟨j, by omega, h5, (mtc_deep h j (by omega)).2 ⟨i, h4, h1, h3⟩⟩
      · rintro ⟨j, h1, h2, h3⟩
        obtain ⟨i, h4, h5, h6⟩ := (mtc_deep h j h1).1 h3
        exact ⟨i, h5, (nxF_deep h i).2 ⟨j, h4, h2⟩, h6⟩
    · constructor
      · rintro ⟨i, h1, h2, h3⟩
        cases i with
        | zero => simp [nxF, h] at h2
        | succ i =>
          simp only [nxF, if_neg h, Bool.and_eq_true] at h2
          refine ⟨i, by omega, h2.1, ?_⟩
          rw [List.drop_eq_getElem_cons (by omega), mtc, if_neg h]
          simp only [Bool.and_eq_true]
          refine ⟨?_, h3⟩
          rw [← h2.2]
          simp [List.getD, (by omega : i < l.length)]
      · rintro ⟨i, h1, h2, h3⟩
        rcases Nat.lt_or_ge i l.length with hl | hl
        · rw [List.drop_eq_getElem_cons hl, mtc, if_neg h] at h3
          simp only [Bool.and_eq_true] at h3
          refine ⟨i + 1, by omega, ?_, h3.2⟩
          simp only [nxF, if_neg h, Bool.and_eq_true]
          refine ⟨h2, ?_⟩
          rw [← h3.1]
          simp [List.getD, hl]
        · rw [List.drop_of_length_le hl, mtc, if_neg h] at h3
          cases h3
theorem fit_mtc (p l : List Sg) : fitF l p zrF l.length = mtc p l := by
  rw [Bool.eq_iff_iff, fitF_mtc]
  constructor
  · rintro ⟨i, h1, h2, h3⟩
    simp [zrF] at h2
    subst h2
    exact h3
  · intro h; exact ⟨0, Nat.zero_le _, rfl, h⟩
/-- A deep step behind a deep step left out. -/
def once : List Sg → Bool → List Sg
  | [], _ => []
  | s :: p, b => if b && decide (s.kind = 5) then once p b else s :: once p (decide (s.kind = 5))
theorem mtc_deep0 {s : Sg} {p l : List Sg} (h : s.kind = 5) : mtc (s :: p) l = true ↔ ∃ i, i ≤ l.length ∧ mtc p (l.drop i) = true := by
  have := mtc_deep (s := s) (p := p) (l := l) h 0 (Nat.zero_le _)
  rw [List.drop_zero] at this
  rw [this]
  constructor
  · rintro ⟨i, _, h2, h3⟩; exact ⟨i, h2, h3⟩
  · rintro ⟨i, h2, h3⟩; exact ⟨i, Nat.zero_le _, h2, h3⟩
theorem mtc_once_aux : ∀ (p : List Sg), (∀ l, mtc (once p false) l = mtc p l) ∧ (∀ d : Sg, d.kind = 5 → ∀ l, mtc (d :: once p true) l = mtc (d :: p) l)
  | [] => ⟨fun _ => rfl, fun _ _ _ => rfl⟩
  | s :: p => by
    obtain ⟨hA, hB⟩ := mtc_once_aux p
    have A : ∀ l, mtc (once (s :: p) false) l = mtc (s :: p) l := by
      intro l
      simp only [once, Bool.false_and, Bool.false_eq_true, if_false]
      by_cases h : s.kind = 5
      · simp only [h, decide_true]
        exact hB s h l
      · simp only [h, decide_false]
        cases l with
        | nil => rw [mtc, if_neg h, mtc, if_neg h]
        | cons x t => rw [mtc, if_neg h, mtc, if_neg h]; simp only [hA]
    refine ⟨A, fun d hd l => ?_⟩
    by_cases h : s.kind = 5
    · simp only [once, h, decide_true, Bool.and_true, if_true]
      rw [hB d hd, Bool.eq_iff_iff, mtc_deep0 hd, mtc_deep0 hd]
      constructor
      · rintro ⟨i, h1, h2⟩
        exact ⟨i, h1, (mtc_deep h i h1).2 ⟨i, Nat.le_refl _, h1, h2⟩⟩
      · rintro ⟨i, h1, h2⟩
        obtain ⟨j, _, h4, h5⟩ := (mtc_deep h i h1).1 h2
        exact ⟨j, h4, h5⟩
    · have e : once (s :: p) true = once (s :: p) false := by simp [once, h]
      rw [e, Bool.eq_iff_iff, mtc_deep0 hd, mtc_deep0 hd]
      simp only [A]
theorem mtc_once (p l : List Sg) : mtc (once p false) l = mtc p l := (mtc_once_aux p).1 l
end Go.Pl
namespace Go.Pl
def sgW (l : List Sg) : Nat := (l.map fun s => s.text.length).sum
theorem sgW_take {l : List Sg} {i : Nat} (h : i < l.length) : sgW (l.take (i + 1)) = sgW (l.take i) + (l.getD i sgz).text.length := by
  have : l.take (i + 1) = l.take i ++ [l.getD i sgz] := by
    rw [List.take_succ_eq_append_getElem h]
    simp [List.getD, h]
  rw [this]
  simp [sgW]
theorem sgW_le {l : List Sg} (i : Nat) : sgW (l.take i) ≤ sgW l := by
  have : sgW l = sgW (l.take i) + sgW (l.drop i) := by
    conv => lhs; rw [← List.take_append_drop i l]
    simp [sgW, -List.take_append_drop]
  omega
end Go.Pl
namespace Go.Pl
theorem mtc_step {p l : List Sg} (h : 0 < p.length) : mtc p l = if (p.getD 0 sgz).kind = 5 then (mtc (p.drop 1) l || (decide ((l.length : Int) > 0) && mtc p (l.drop 1))) else (decide ((l.length : Int) > 0) && (decide ((p.getD 0 sgz).kind = 4) || decide (p.getD 0 sgz = l.getD 0 sgz)) && mtc (p.drop 1) (l.drop 1)) := by
  match p, h with
  | s :: p, _ =>
    cases l with
    | nil => by_cases h5 : s.kind = 5 <;> simp [mtc, h5]
    | cons x t => by_cases h5 : s.kind = 5 <;> simp [mtc, h5, show ((t.length : Int) + 1 > 0) by omega]
def mkB (n : Nat) (f : Nat → Bool) : List Bool := (List.range n).map f
theorem mkB_get {n j : Nat} {f : Nat → Bool} (h : j < n) : (mkB n f).getD j false = f j := by simp [mkB, List.getD, h]
theorem mkB_length {n : Nat} {f : Nat → Bool} : (mkB n f).length = n := by simp [mkB]
end Go.Pl
namespace Go.Pl
theorem nxF_eq (s : Sg) (l : List Sg) (f : Nat → Bool) (i : Nat) : nxF s l f i = if s.kind = 5 then (f i || (decide (0 < i) && nxF s l f (i - 1))) else ((decide (0 < i) && f (i - 1)) && (decide (s.kind = 4) || decide (s = l.getD (i - 1) sgz))) := by
  cases i with
  | zero => by_cases h : s.kind = 5 <;> simp [nxF, h]
  | succ i => by_cases h : s.kind = 5 <;> simp [nxF, h]
end Go.Pl
namespace Go.Pl
theorem once_len : ∀ (p : List Sg) (b : Bool), (once p b).length ≤ p.length
  | [], _ => Nat.le_refl _
  | s :: p, b => by
    unfold once
    split
    · have := once_len p b; simp; omega
    · have := once_len p (decide (s.kind = 5)); simp; omega
end Go.Pl
