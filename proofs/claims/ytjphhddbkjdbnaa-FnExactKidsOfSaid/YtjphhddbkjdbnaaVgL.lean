/- Own text: part VgL. -/
import Derived.Test.YtjphhddbkjdbnaaVgK
namespace Go.Vg
set_option linter.unusedVariables false
set_option linter.unusedSimpArgs false
open Go.RowKit

theorem zero_of {P : Program} {te : TE} (hte : teOk P te) {σ : Asg} {t : TypeId} {ti : TI} (hti : te t = some ti) (hz : ti.zero.length = ti.size) :
    ∃ z, (∀ w, (zeroValue t).run P w = .ok z w) ∧ relL σ ti.zero z.cells.toList ∧ z.cells.size = ti.size := by
  obtain ⟨i, hi, _, _, z, hzv, hrz, _⟩ := (hte t ti hti).info
  refine ⟨z, fun w => by simp [zeroValue, run_info hi, hzv], relL_mono (leA.nil σ) hrz, ?_⟩
  have := relL_length hrz
  simp only [Array.length_toList] at this
  omega

theorem litEl_get (l : List SV) (sz i k : Nat) (hk : k < sz) : (litEl l sz i).getD k .u = l.getD (i * sz + k) .u := by
  simp only [litEl, List.getD_eq_getElem?_getD]
  rw [List.getElem?_take_of_lt hk, List.getElem?_drop]

theorem buildSlice_sound {P : Program} {te : TE} (hte : teOk P te) {A : Amb} {σ : Asg} {st : St} {a : Act} {w : World} (hR : Rel A σ st a w) {t e : TypeId} {ti : TI} (ht : tdOf te t = .slice e) (hti : te e = some ti) (hz : ti.zero.length = ti.size) {len : Nat}
    (hlen : len * ti.size ≤ 16777216) {ps : List (Nat × SV)} {vs : Array (Nat × Value)} {l : List SV} (hl : ps.length = vs.toList.length)
    (hv : ∀ (j : Nat) (i : Nat) (x : SV), ps[j]? = some (i, x) → ∃ v, vs.toList[j]? = some (i, v) ∧ okCell x = true ∧ rel σ x v) (hf : fillP ti.size (repl ti.zero len) ps = some l) :
    ∃ v σ' w', (Instr.buildSlice t len vs).run P w = .ok v w' ∧ leA σ σ' ∧ rel σ' (.slc st.ctx.length 0 len) v ∧ Rel A σ' (st.addObj (.row false ti.size len (litEl l ti.size))) a w' := by
  obtain ⟨z, hzr, hzrel, hzs⟩ := zero_of hte (σ := σ) hti hz
  have base : ∃ zero : Array Value, ((len * ti.size = 0 → zero = #[]) ∧ (len * ti.size ≠ 0 → zero = z.cells)) ∧ relL σ (repl ti.zero len) ((Array.range (len * ti.size)).map fun i => zero[i % zero.size]!).toList := by
    by_cases h0 : len * ti.size = 0
    · refine ⟨#[], ⟨fun _ => rfl, fun h => absurd h0 h⟩, ?_⟩
      have : repl ti.zero len = [] := List.length_eq_zero_iff.1 (by rw [repl_length, hz]; exact h0)
      rw [this, h0]
      simp [relL]
    · refine ⟨z.cells, ⟨fun h => absurd h h0, fun _ => rfl⟩, ?_⟩
      have := repl_rel hzrel len
      rw [hzs] at this
      rw [hzs]; exact this
  obtain ⟨zero, hz1, hz2⟩ := base
  obtain ⟨out, ho, hro, hos⟩ := fillP_sound ti.size ps vs.toList _ _ l hl hv hz2 hf
  have hos' : out.size = len * ti.size := by rw [hos]; simp
  obtain ⟨σ', w', h1, h2, h3, h4⟩ := row_core (P := P) hR (elem := e) (cells := out) (sz := ti.size) (n := len) (cap := len) (f := litEl l ti.size) hos' (Nat.le_refl _) (fun i k hi hk => by
    have hll := relL_length hro
    simp only [Array.length_toList] at hll
    have hb : i * ti.size + k < l.length := by
      have : i * ti.size + ti.size ≤ len * ti.size := by rw [← Nat.succ_mul]; exact Nat.mul_le_mul_right _ hi
      omega
    obtain ⟨v, g1, g2⟩ := relL_get hro (list_getD_of hb)
    exact ⟨v, by simpa using g1, by rw [litEl_get l _ _ _ hk]; exact g2⟩)
  refine ⟨_, σ', w', ?_, h2, h3, h4⟩
  unfold Instr.buildSlice
  simp only [Sem.run_bind, run_und (und_slice hte ht), Result.andThen_ok, run_size hte hti]
  rw [Sem.run_ite, if_neg (by omega)]
  by_cases hc0 : len * ti.size = 0
  · have := hz1.1 hc0
    subst this
    simp only [hc0, if_true, Sem.run_bind, Sem.run_pure, Result.andThen_ok]
    rw [hc0] at ho
    simp only [ho, Sem.run_bind, h1, Result.andThen_ok, Sem.run_pure]
  · have := hz1.2 hc0
    subst this
    rw [if_neg hc0]
    simp only [Sem.run_bind, Sem.run_pure, hzr, Result.andThen_ok, ho, h1]

theorem wrap64_id {n : Int} (h0 : 0 ≤ n) (h1 : n ≤ 9223372036854775807) : IntKind.i64.wrap n = n := inR_wrap (k := .i64) ⟨by omega, h1⟩

theorem makeSlice_sound {P : Program} {te : TE} (hte : teOk P te) {A : Amb} {σ : Asg} {st : St} {a : Act} {w : World} (hR : Rel A σ st a w) {t e : TypeId} {ti : TI} (ht : tdOf te t = .slice e) (hti : te e = some ti) (hz : ti.zero.length = ti.size) {n m : Int}
    (h0 : 0 ≤ n) (h1 : n ≤ m) (h2 : m * ti.bytes ≤ 281474976710656) (h3 : m ≤ 281474976710656) :
    ∃ v σ' w', (Instr.makeSlice t (.int .i64 n) (.int .i64 m)).run P w = .ok v w' ∧ leA σ σ' ∧ rel σ' (.slc st.ctx.length 0 n.toNat) v ∧ Rel A σ' (st.addObj (.row false ti.size n.toNat (fun _ => ti.zero))) a w' := by
  obtain ⟨z, hzr, hzrel, hzs⟩ := zero_of hte (σ := σ) hti hz
  obtain ⟨i, hi, hisz, hib, _⟩ := (hte e ti hti).info
  have hrel := repl_rel hzrel m.toNat
  rw [hzs] at hrel
  have base : ∃ zero : Array Value, ((m.toNat * ti.size = 0 → zero = #[]) ∧ (m.toNat * ti.size ≠ 0 → zero = z.cells)) ∧ relL σ (repl ti.zero m.toNat) ((Array.range (m.toNat * ti.size)).map fun i => zero[i % zero.size]!).toList := by
    by_cases h0 : m.toNat * ti.size = 0
    · refine ⟨#[], ⟨fun _ => rfl, fun h => absurd h0 h⟩, ?_⟩
      have : repl ti.zero m.toNat = [] := List.length_eq_zero_iff.1 (by rw [repl_length, hz]; exact h0)
      rw [this, h0]
      simp [relL]
    · refine ⟨z.cells, ⟨fun h => absurd h h0, fun _ => rfl⟩, ?_⟩
      rw [hzs]; exact hrel
  obtain ⟨zero, hz1, hz2⟩ := base
  obtain ⟨σ', w', g1, g2, g3, g4⟩ := row_core (P := P) hR (elem := e) (cells := (Array.range (m.toNat * ti.size)).map fun i => zero[i % zero.size]!) (sz := ti.size) (n := n.toNat) (cap := m.toNat) (f := fun _ => ti.zero) (by simp) (by omega) (fun i k hi hk => by
    have hb : i * ti.size + k < m.toNat * ti.size := by
      have : i * ti.size + ti.size ≤ m.toNat * ti.size := by rw [← Nat.succ_mul]; exact Nat.mul_le_mul_right _ (by omega)
      omega
    obtain ⟨v, g1, g2⟩ := relL_get hz2 (j := i * ti.size + k) (list_getD_of (by rw [repl_length, hz]; exact hb))
    refine ⟨v, by rw [Array.getElem?_toList] at g1; exact g1, ?_⟩
    have : (repl ti.zero m.toNat).getD (i * ti.size + k) .u = ti.zero.getD k .u := by
      have hrep : ∀ (q i : Nat), i < q → (repl ti.zero q).getD (i * ti.size + k) .u = ti.zero.getD k .u := by
        intro q
        induction q with
        | zero => intro i hi; omega
        | succ q ih =>
          intro i hi
          simp only [repl, List.getD_eq_getElem?_getD]
          cases i with
          | zero => rw [List.getElem?_append_left (by rw [hz]; omega)]; simp
          | succ i =>
            rw [List.getElem?_append_right (by rw [hz, Nat.succ_mul]; omega), hz, Nat.succ_mul, show i * ti.size + ti.size + k - ti.size = i * ti.size + k by omega]
            have := ih i (by omega)
            simpa [List.getD_eq_getElem?_getD] using this
      exact hrep _ _ (by omega)
    rw [this] at g2; exact g2)
  refine ⟨.slice (some ⟨w.heap.size, 0, none⟩) n.toNat m.toNat, σ', w', ?_, g2, g3, g4⟩
  have e1 : IntKind.i64.wrap n = n := wrap64_id h0 (by omega)
  have e2 : IntKind.i64.wrap m = m := wrap64_id (by omega) (by omega)
  have e3 : (i.bytes : Int) * m = m * ti.bytes := by rw [hib, Int.mul_comm]
  unfold Instr.makeSlice
  simp only [Sem.run_bind, run_und (und_slice hte ht), Result.andThen_ok, asInt, asIntOf, Sem.run_pure, run_info hi, e1, e2]
  have hc : ¬ (((decide (m < 0) || decide ((i.bytes : Int) * m > 2 ^ 48)) || decide (n < 0) || decide (n > m)) = true) := by
    rw [e3]
    simp
    omega
  rw [Sem.run_ite, if_neg (by simpa using hc)]
  simp only [Sem.run_bind, run_askRoom, Result.andThen_ok, run_size hte hti]
  by_cases hc0 : m.toNat * ti.size = 0
  · have := hz1.1 hc0
    subst this
    rw [if_pos hc0]
    simp only [Sem.run_bind, Sem.run_pure, Result.andThen_ok, g1]
  · have := hz1.2 hc0
    subst this
    rw [if_neg hc0]
    simp only [Sem.run_bind, Sem.run_pure, hzr, Result.andThen_ok, g1]

end Go.Vg
