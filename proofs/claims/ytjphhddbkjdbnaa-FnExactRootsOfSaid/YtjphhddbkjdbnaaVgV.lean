/- Regions whose order is drawn: what only reads is taken first; what writes waits for it, or writes elsewhere. -/
import Derived.Test.YtjphhddbkjdbnaaVgU
import Derived.OrdersHeld
namespace Go.Vg
set_option linter.unusedVariables false
set_option linter.unusedSimpArgs false
open Go.RowKit

section
variable {P : Program} {ops : Array Oper} {Q : Exit → Act → World → Prop}

/-- What is known of the world: 'S0' as long as no writer has come up, 'S1' all the while. -/
def Sat2 (wrs : List Nat) (S0 S1 : World → Prop) (listed : Array Bool) (w : World) : Prop :=
  ((∀ j ∈ wrs, listed.getD j false = false) → S0 w) ∧ S1 w

def wpAnyL (P : Program) (ops : Array Oper) (Q : Exit → Act → World → Prop) (wrs : List Nat) (S0 S1 : World → Prop) : Nat → Array Bool → Act → World → Prop
  | 0, listed, a, w => Region.ready .any ops listed = [] ∧ Q .normal a w
  | fuel + 1, listed, a, w =>
    (Region.ready .any ops listed = [] → Q .normal a w) ∧
    ∀ i ∈ Region.ready .any ops listed, wpOp P ops Q i (fun a' w' => Sat2 wrs S0 S1 (listed.setIfInBounds i true) w' ∧ wpAnyL P ops Q wrs S0 S1 fuel (listed.setIfInBounds i true) a' w') a w

theorem wpAny_of_L {wrs : List Nat} {S0 S1 : World → Prop} : ∀ (fuel : Nat) (listed : Array Bool) (a : Act) (w : World), wpAnyL P ops Q wrs S0 S1 fuel listed a w → wpAny P .any ops Q fuel listed a w
  | 0, _, _, _, h => h
  | fuel + 1, _, _, _, h => ⟨h.1, fun i hi => wpOp_mono (fun a' w' h' => wpAny_of_L fuel _ a' w' h'.2) (h.2 i hi)⟩

theorem getD_set_other {listed : Array Bool} {i j : Nat} (d : Bool) (h : i ≠ j) : (listed.setIfInBounds i true).getD j d = listed.getD j d := Go.getD_set_ne d h

theorem wpAnyL_first {wrs : List Nat} {S0 S1 Sx : World → Prop} (ok : Array Bool → Prop) {i : Nat} {oi : Oper} {v : Value} (hi : ops[i]? = some oi) (hiw : i ∉ wrs)
    (hsel : ∀ (j : Nat) (o : Oper) cs b, ops[j]? = some o → o.op ≠ .select cs b)
    (hQ : ∀ c a w, Q (.panic c) (a.put oi.dst v) w → Q (.panic c) a w)
    (hS : ∀ listed w, ok listed → Sat2 wrs S0 S1 listed w → Sx w)
    (hstep : ∀ listed j, ok listed → listed.getD i true = false → j ∈ Region.ready .any ops listed → j ≠ i → ok (listed.setIfInBounds j true)) :
    ∀ (fuel : Nat) (listed : Array Bool) (a : Act) (w : World),
      (∀ j oj, ops[j]? = some oj → j ≠ i → listed.getD j true = false → (∀ e ∈ oj.after, Region.binds .any e = true → e.on ≠ i) → oi.apart ops oj = true) →
      i ∈ Region.ready .any ops listed → ok listed → YieldsIf P ops Sx oi v a → Sat2 wrs S0 S1 listed w →
      wpAnyL P ops Q wrs S0 S1 fuel (listed.setIfInBounds i true) (a.put oi.dst v) w → wpAnyL P ops Q wrs S0 S1 (fuel + 1) listed a w := by
  have sat_i : ∀ listed w, Sat2 wrs S0 S1 (listed.setIfInBounds i true) w ↔ Sat2 wrs S0 S1 listed w := by
    intro listed w
    unfold Sat2
    have : (∀ j ∈ wrs, (listed.setIfInBounds i true).getD j false = false) ↔ (∀ j ∈ wrs, listed.getD j false = false) := by
      constructor
      · intro h j hj
        have := h j hj
        rwa [getD_set_other false (show i ≠ j from fun e => hiw (by rw [e]; exact hj))] at this
      · intro h j hj
        rw [getD_set_other false (show i ≠ j from fun e => hiw (by rw [e]; exact hj))]
        exact h j hj
    rw [this]
  intro fuel
  induction fuel with
  | zero =>
    intro listed a w _ hr hok hy hs H
    refine ⟨fun h => (by rw [h] at hr; cases hr), fun j hj => ?_⟩
    by_cases hji : j = i
    · subst hji
      exact hy.wpOp hi (hS _ _ hok hs) ⟨(sat_i _ _).2 hs, H⟩
    · have := ready_mono hj hji
      rw [H.1] at this
      cases this
  | succ fuel ih =>
    intro listed a w hfree hr hok hy hs H
    refine ⟨fun h => (by rw [h] at hr; cases hr), fun j hj => ?_⟩
    by_cases hji : j = i
    · subst hji
      exact hy.wpOp hi (hS _ _ hok hs) ⟨(sat_i _ _).2 hs, H⟩
    · have h1 := H.2 j (ready_mono hj hji)
      obtain ⟨hjun, oj, hoj, hall⟩ := mem_ready.1 hj
      have hiun := (mem_ready.1 hr).1
      have hnot : ∀ e ∈ oj.after, Region.binds .any e = true → e.on ≠ i := fun e he hb heq => by
        have h1 := hall e he hb
        rw [heq] at h1
        rcases Nat.lt_or_ge i listed.size with h' | h'
        · simp [h'] at hiun h1; rw [hiun] at h1; cases h1
        · simp [Array.getElem?_eq_none h'] at h1
      have h2 := wpOp_putIf hoj (hfree j oj hoj hji hjun hnot) (fun cs b => hsel i oi cs b hi) (fun cs b => hsel j oj cs b hoj) hQ hy h1
      have hfree' : ∀ k ok, ops[k]? = some ok → k ≠ i → (listed.setIfInBounds j true).getD k true = false →
          (∀ e ∈ ok.after, Region.binds .any e = true → e.on ≠ i) → oi.apart ops ok = true := fun k ok hk hki hun hno => by
        refine hfree k ok hk hki ?_ hno
        by_cases hjk : j = k
        · subst hjk; exact hjun
        · rwa [getD_set_other true hjk] at hun
      have hok' := hstep listed j hok hiun hj hji
      refine wpOp_mono (fun a' w' h3 => ?_) h2
      obtain ⟨hy', hs', h4⟩ := h3
      have e : (listed.setIfInBounds i true).setIfInBounds j true = (listed.setIfInBounds j true).setIfInBounds i true := (Array.setIfInBounds_comm _ _ hji).symm
      have hs'' : Sat2 wrs S0 S1 (listed.setIfInBounds j true) w' := by
        rw [e] at hs'
        exact (sat_i _ _).1 hs'
      refine ⟨hs'', ih (listed.setIfInBounds j true) a' w' hfree' (ready_mono hr (Ne.symm hji)) hok' hy' hs'' ?_⟩
      rw [← e]
      exact h4

theorem wpAnyL_sole {wrs : List Nat} {S0 S1 : World → Prop} {i fuel : Nat} {listed : Array Bool} {a : Act} {w : World} (hr : Region.ready .any ops listed = [i])
    (h : wpOp P ops Q i (fun a' w' => Sat2 wrs S0 S1 (listed.setIfInBounds i true) w' ∧ wpAnyL P ops Q wrs S0 S1 fuel (listed.setIfInBounds i true) a' w') a w) : wpAnyL P ops Q wrs S0 S1 (fuel + 1) listed a w := by
  refine ⟨fun h0 => (by rw [h0] at hr; cases hr), fun j hj => ?_⟩
  rw [hr] at hj
  simp at hj
  subst hj
  exact h

theorem wpAnyL_done {wrs : List Nat} {S0 S1 : World → Prop} {listed : Array Bool} {a : Act} {w : World} (hr : Region.ready .any ops listed = []) (h : Q .normal a w) : ∀ fuel, wpAnyL P ops Q wrs S0 S1 fuel listed a w
  | 0 => ⟨hr, h⟩
  | _ + 1 => ⟨fun _ => h, by rw [hr]; simp⟩
end

/-! What a quiet operation comes to. -/

def quietOp (te : TE) (o : Op) : Bool := match o with
  | .load _ _ => true
  | o => opClass te o == 0

theorem load_handle {te : TE} {c : Bool} {st : St} {t : TypeId} {x : Operand} {K : SV → Prop} (h : xload te c st (.load t x) K) : ∀ q ∈ handleOf (st.ev x), (st.ctx.at q).isSome = true := by
  simp only [xload] at h
  unfold ung at h
  split at h
  · rename_i g v hv
    obtain ⟨_, h2⟩ := h.out
    split at h2
    · split at h2
      · rename_i ho _
        rw [hv]
        intro q hq
        simp only [handleOf, List.mem_singleton] at hq
        subst hq
        rw [ho]; rfl
      · exact h2.elim
    · rw [hv]; intro q hq; simp [handleOf] at hq
    · exact h2.elim
  · rename_i hne
    split at h
    · rename_i hv
      split at h
      · rename_i ho _
        rw [hv]
        intro q hq
        simp only [handleOf, List.mem_singleton] at hq
        subst hq
        rw [ho]; rfl
      · exact h.elim
    · rename_i hv; rw [hv]; intro q hq; simp [handleOf] at hq
    · exact h.elim

theorem XOne_quiet {P : Program} {te : TE} (hte : teOk P te) {wr : Bool} {pt : PT} {A : Amb} {σ : Asg} {st : St} {a : Act} {w : World} (hR : Rel A σ st a w) {g c : Bool} (hgc : g = false → c = true) {o : Oper} (hq : quietOp te o.op = true) {K : St → Prop}
    (h : XOne P te wr A.nt pt g c st o K) {Sx : World → Prop} (hS : ∀ w', Sx w' → ∀ h L, (st.ctx.at h).isSome = true → σ h = some L → w'.heap[L.b]? = w.heap[L.b]?) (hF : ∀ w', Sx w' → ∀ b o, σ.fz b = some o → w'.heap[b]? = some o) :
    (c = true → ∃ v st', K st' ∧ (∀ w', Sx w' → (execOp a.eval o).run P w' = .ok (.value v) w') ∧ Rel A σ st' (a.put o.dst v) w) ∧ (c = false → ∃ st', K st' ∧ Rel A σ st' (a.put o.dst undef) w) := by
  by_cases hl : opClass te o.op = 0
  · unfold XOne at h
    rw [hl] at h
    simp only at h
    obtain ⟨z, hz, hv⟩ := xpure_sound hte hR h
    obtain ⟨p1, p2⟩ := gd_put hR hz hgc
    refine ⟨fun hc => ?_, fun hc => p2 hc⟩
    obtain ⟨v, hr, hrun⟩ := hv hc
    obtain ⟨st', k1, k2⟩ := p1 v hc hr
    exact ⟨v, st', k1, fun w' _ => hrun w', k2⟩
  · obtain ⟨dst, op, ty, pos, after, gd⟩ := o
    cases op <;> simp only [quietOp, beq_iff_eq] at hq <;> first | exact absurd hq hl | skip
    rename_i t x
    have h' : xload te c st (.load t x) fun z => putS A.nt st dst (if g then mkgd c z else z) K := h
    have hh := load_handle h'
    obtain ⟨z, hz, hv⟩ := xload_sound (o := ⟨dst, .load t x, ty, pos, after, gd⟩) hte hR h'
    obtain ⟨p1, p2⟩ := gd_put (o := ⟨dst, .load t x, ty, pos, after, gd⟩) hR hz hgc
    refine ⟨fun hc => ?_, fun hc => p2 hc⟩
    obtain ⟨v, hr, hrun⟩ := hv hc
    obtain ⟨st', k1, k2⟩ := p1 v hc hr
    exact ⟨v, st', k1, fun w' hw' => hrun w' (fun q hq L hL => hS w' hw' q L (hh q hq) hL) (hF w' hw'), k2⟩

theorem XStep_quiet {P : Program} {te : TE} (hte : teOk P te) {wr : Bool} {pt : PT} {ops : Array Oper} {A : Amb} {σ : Asg} {st : St} {a : Act} {w : World} (hR : Rel A σ st a w) {o : Oper} (hq : quietOp te o.op = true) {K : St → Prop}
    (h : XStep P te wr A.nt pt false ops st o K) {Sx : World → Prop} (hS : ∀ w', Sx w' → ∀ h L, (st.ctx.at h).isSome = true → σ h = some L → w'.heap[L.b]? = w.heap[L.b]?) (hF : ∀ w', Sx w' → ∀ b o, σ.fz b = some o → w'.heap[b]? = some o) :
    ∃ v st', K st' ∧ YieldsIf P ops Sx o v a ∧ Rel A σ st' (a.put o.dst v) w := by
  unfold XStep at h
  split at h
  · rename_i hg
    obtain ⟨v, st', k1, k2, k3⟩ := (XOne_quiet hte hR (fun _ => rfl) hq h hS hF).1 rfl
    exact ⟨v, st', k1, .inl ⟨by simp [Region.wanted, hg], k2⟩, k3⟩
  · rename_i j want hg
    split at h
    · exact h.elim
    · rename_i d hd
      obtain ⟨c, h, hc⟩ := guardC_sound hR.env hd h
      have hw : Region.wanted o (yielded ops a.tmps) = c := by simp only [Region.wanted, hg, hc]
      simp only [Bool.false_eq_true, if_false] at h
      obtain ⟨q1, q2⟩ := XOne_quiet hte hR (g := true) (fun h => by cases h) hq h hS hF
      cases c with
      | true =>
        obtain ⟨v, st', k1, k2, k3⟩ := q1 rfl
        exact ⟨v, st', k1, .inl ⟨hw, k2⟩, k3⟩
      | false =>
        obtain ⟨st', k1, k3⟩ := q2 rfl
        exact ⟨undef, st', k1, .inr ⟨hw, rfl⟩, k3⟩
end Go.Vg
