/- Own text: part VgE. -/
import Derived.Test.YtjphhddbkjdbnaaVgD
namespace Go.Vg
set_option linter.unusedVariables false
set_option linter.unusedSimpArgs false
open Go.RowKit

def updA (σ : Asg) (q : Nat) (L : Loc) : Asg := ⟨fun h => if h = q then some L else σ h, σ.fz⟩
theorem updA_fz {σ : Asg} {q : Nat} {L : Loc} : (updA σ q L).fz = σ.fz := rfl

theorem leA_upd {σ : Asg} {q : Nat} {L : Loc} (h : σ q = none) : leA σ (updA σ q L) := by
  refine ⟨fun x M e => ?_, fun _ _ e => e⟩
  show (if x = q then some L else σ x) = some M
  split
  · rename_i hx; subst hx; rw [h] at e; cases e
  · exact e

theorem at_app (c : Ctx) (o : Option SO) (h : Nat) : (c ++ [o] : Ctx).at h = if h = c.length then o else c.at h := by
  unfold Ctx.at
  simp only [List.getD_eq_getElem?_getD]
  by_cases h1 : h < c.length
  · rw [List.getElem?_append_left h1, if_neg (by omega)]
  · by_cases h2 : h = c.length
    · subst h2; simp
    · rw [if_neg h2, List.getElem?_eq_none (by simp; omega), List.getElem?_eq_none (by omega)]

theorem at_lt {c : Ctx} {h : Nat} {o : SO} (e : c.at h = some o) : h < c.length := by
  unfold Ctx.at at e
  rw [List.getD_eq_getElem?_getD] at e
  rcases Nat.lt_or_ge h c.length with h1 | h1
  · exact h1
  · rw [List.getElem?_eq_none h1] at e; cases e

theorem at_set (c : Ctx) (q : Nat) (o : Option SO) (h : Nat) (hq : q < c.length) : Ctx.at (c.set q o) h = if h = q then o else c.at h := by
  unfold Ctx.at
  simp only [List.getD_eq_getElem?_getD, List.getElem?_set]
  by_cases h1 : q = h
  · subst h1; simp [hq]
  · rw [if_neg h1, if_neg (Ne.symm h1)]

theorem entsRel_mono {σ σ' : Asg} (h : leA σ σ') : ∀ {ps : List (SV × SV)} {es : List MapEntry}, entsRel σ ps es → entsRel σ' ps es
  | [], _, r => by simpa [entsRel] using r
  | p :: ps, _, r => by
    simp only [entsRel] at r ⊢
    obtain ⟨e, q, rfl, h1, h2, h3⟩ := r
    exact ⟨e, q, rfl, rel_mono h h1, rel_mono h h2, entsRel_mono h h3⟩

/-- What an object says of a world hangs on its own block alone. -/
theorem objSat_same {σ σ' : Asg} {w w' : World} {h : Nat} {o : SO} (hle : leA σ σ') (hh : σ' h = σ h) (hb : ∀ L, σ h = some L → w'.heap[L.b]? = w.heap[L.b]?) (hs : objSat σ w h o) : objSat σ' w' h o := by
  unfold objSat at *
  split at hs
  · obtain ⟨L, es, ck, h1, h2, h3⟩ := hs
    exact ⟨L, es, ck, hh.trans h1, (hb L h1).trans h2, entsRel_mono hle h3⟩
  · rcases hs with ⟨h1, h2⟩ | ⟨L, c, e, fr, h1, h2⟩
    · exact .inl ⟨h1, hh.trans h2⟩
    · refine .inr ⟨L, c, e, fr, hh.trans h1, ⟨(hb L h1).trans h2.heap, h2.lsz, h2.room, h2.fits, fun i k hi hk => ?_, h2.free⟩⟩
      obtain ⟨v, e1, e2⟩ := h2.cell i k hi hk
      exact ⟨v, e1, rel_mono hle e2⟩

theorem push_lt (w : World) (o : Obj) {b : Nat} (h : b < w.heap.size) : (w.heap.push o)[b]? = w.heap[b]? := by
  rw [Array.getElem?_push, if_neg (by omega)]

theorem Sat.alloc {σ : Asg} {w : World} {c : Ctx} (hs : Sat σ w c) (ob : Obj) (o : SO) (L : Loc) (hL : L.b = w.heap.size)
    (ho : objSat (updA σ c.length L) { w with heap := w.heap.push ob } c.length o) : Sat (updA σ c.length L) { w with heap := w.heap.push ob } (c ++ [some o]) := by
  have hq : σ c.length = none := hs.beyond _ (Nat.le_refl _)
  have hle := leA_upd (L := L) hq
  have hnf : σ.fz L.b = none := by
    cases hf : σ.fz L.b with
    | none => rfl
    | some o1 =>
      have := hs.frz _ _ hf
      rw [hL, Array.getElem?_eq_none (Nat.le_refl _)] at this; cases this
  refine ⟨fun h o' e => ?_, fun h h' o1 o2 L1 L2 hne e1 e2 hro s1 s2 => ?_, fun h hh => ?_, fun h M e => ?_, fun b o1 e => ?_, fun h o1 M e hro s1 => ?_⟩
  · rw [at_app] at e
    split at e
    · rename_i h1
      cases e
      rw [h1]; exact ho
    · rename_i h1
      refine objSat_same hle (by simp [updA, h1]) (fun M hM => ?_) (hs.obj h o' e)
      exact push_lt _ _ (hs.inHeap h M hM)
  · rw [at_app] at e1 e2
    simp only [updA] at s1 s2
    split at e1
    · rename_i h1
      rw [if_pos h1] at s1
      cases s1
      split at e2
      · rename_i h2; omega
      · rename_i h2
        rw [if_neg h2] at s2
        have := hs.inHeap _ _ s2
        omega
    · rename_i h1
      rw [if_neg h1] at s1
      split at e2
      · rename_i h2
        rw [if_pos h2] at s2
        cases s2
        have := hs.inHeap _ _ s1
        omega
      · rename_i h2
        rw [if_neg h2] at s2
        exact hs.apart h h' o1 o2 L1 L2 hne e1 e2 hro s1 s2
  · simp only [List.length_append, List.length_singleton] at hh
    simp only [updA, if_neg (show h ≠ c.length by omega)]
    exact hs.beyond h (by omega)
  · simp only [updA] at e
    simp only [Array.size_push]
    split at e
    · cases e; omega
    · have := hs.inHeap h M e; omega
  · have h1 := hs.frz b o1 e
    rw [push_lt _ _ (by
      rcases Nat.lt_or_ge b w.heap.size with h2 | h2
      · exact h2
      · rw [Array.getElem?_eq_none h2] at h1; cases h1)]
    exact h1
  · rw [at_app] at e
    simp only [updA] at s1
    rw [updA_fz]
    split at e
    · rename_i h1
      rw [if_pos h1] at s1
      cases s1
      exact hnf
    · rename_i h1
      rw [if_neg h1] at s1
      exact hs.frzA h o1 M e hro s1

theorem Rel.alloc {A : Amb} {σ : Asg} {st : St} {a : Act} {w : World} (hR : Rel A σ st a w) (ob : Obj) (o : SO) (L : Loc) (hL : L.b = w.heap.size)
    (ho : objSat (updA σ st.ctx.length L) { w with heap := w.heap.push ob } st.ctx.length o) :
    leA σ (updA σ st.ctx.length L) ∧ Rel A (updA σ st.ctx.length L) ⟨st.env, st.ctx ++ [some o]⟩ a { w with heap := w.heap.push ob } := by
  have hq : σ st.ctx.length = none := hR.sat.beyond _ (Nat.le_refl _)
  have hle := leA_upd (L := L) hq
  refine ⟨hle, hR.defers, hR.size, fun t => rel_mono hle (hR.env t), hR.sat.alloc ob o L hL ho, ?_, fun h o' M e hro s => ?_, ⟨fun h hk => ?_, hR.base.fzb, hR.base.fzn⟩, ?_⟩
  · exact ⟨hR.fr.os, hR.fr.tape, hR.fr.output, by simp; have := hR.fr.size; omega, fun b hb hd => by
      rw [push_lt _ _ (Nat.lt_of_lt_of_le hb hR.fr.size)]; exact hR.fr.block b hb hd⟩
  · rw [at_app] at e
    simp only [updA] at s
    split at e
    · rename_i h1
      rw [if_pos h1] at s
      cases s
      right; rw [hL]; exact hR.fr.size
    · rename_i h1
      rw [if_neg h1] at s
      exact hR.own h o' M e hro s
  · have := hR.klen
    simp only [updA, if_neg (show h ≠ st.ctx.length by omega)]
    exact hR.base.loc h hk
  · simp; have := hR.klen; omega

/-- A new row, or variable. -/
theorem objSat_new {σ : Asg} {w : World} {q : Nat} {cs : Array Value} {e : TypeId} {o : SO} {L : Loc} (hm : o.isMap = false)
    (hL : L = ⟨w.heap.size, 0, cs.size, o.sz⟩) (hf : o.n * o.sz ≤ cs.size)
    (hc : ∀ i k, i < o.n → k < o.sz → ∃ v, cs[i * o.sz + k]? = some v ∧ rel σ ((o.el i).getD k .u) v) (hq : σ q = none) :
    objSat (updA σ q L) { w with heap := w.heap.push (.cells cs e) } q o := by
  subst hL
  unfold objSat
  rw [hm]
  refine .inr ⟨⟨w.heap.size, 0, cs.size, o.sz⟩, cs, e, (0, 0), by simp [updA], ⟨?_, rfl, ?_, hf, fun i k hi hk => ?_, fun _ => .inl rfl⟩⟩
  · simp
  · simp
  · obtain ⟨v, h1, h2⟩ := hc i k hi hk
    exact ⟨v, by simpa using h1, rel_mono (leA_upd hq) h2⟩

/-- What an operation that may turn memory comes to. -/
def OutM (P : Program) (A : Amb) (σ : Asg) (a : Act) (w : World) (s : Sem Next) (K : SV → St → Prop) : Prop :=
  ∃ z st' v σ' w', K z st' ∧ (s.run P w = .ok (.value v) w' ∨ (s.run P w = .ok .skip w' ∧ v = undef)) ∧ leA σ σ' ∧ rel σ' z v ∧ Rel A σ' st' a w'

def newBlk (st : St) (cs : List SV) : St := ⟨st.env, st.ctx ++ [some (.blk false cs)]⟩
def newRowS (st : St) (sz n : Nat) (f : Nat → List SV) : St := ⟨st.env, st.ctx ++ [some (.row false sz n f)]⟩

theorem box_core {P : Program} {A : Amb} {σ : Asg} {st : St} {a : Act} {w : World} (hR : Rel A σ st a w) {t : TypeId} {cs : List SV} {v : Value} (hv : relL σ cs v.cells.toList) :
    ∃ σ' w', (newVar t v).run P w = .ok ⟨w.heap.size, 0, none⟩ w' ∧ leA σ σ' ∧ rel σ' (.ptr st.ctx.length 0 0) (.pointer (some ⟨w.heap.size, 0, none⟩)) ∧ Rel A σ' (newBlk st cs) a w' := by
  have hq : σ st.ctx.length = none := hR.sat.beyond _ (Nat.le_refl _)
  have hlen := relL_length hv
  simp only [Array.length_toList] at hlen
  obtain ⟨h1, h2⟩ := hR.alloc (.cells v.cells t) (.blk false cs) ⟨w.heap.size, 0, v.cells.size, cs.length⟩ rfl
    (objSat_new rfl rfl (by simp [SO.n, SO.sz, hlen]) (fun i k hi hk => by
      simp only [SO.n, SO.sz, SO.el] at *
      obtain ⟨u, h3, h4⟩ := relL_get hv (j := k) (x := cs.getD k .u) (by simp [List.getD, List.getElem?_eq_getElem hk])
      have hi0 : i = 0 := by omega
      subst hi0
      exact ⟨u, by simpa using h3, h4⟩) hq)
  refine ⟨_, _, ?_, h1, ?_, h2⟩
  · simp [newVar, newRow]
  · simp only [rel]
    exact ⟨⟨w.heap.size, 0, v.cells.size, cs.length⟩, by simp [updA], by simp [addrOf]⟩

end Go.Vg
