/- Own text: part VgC. -/
import Derived.Test.YtjphhddbkjdbnaaVgB
import Derived.Laws.Sem
import Derived.Laws.StructEq
import Derived.Tactics
namespace Go.Vg
set_option linter.unusedVariables false
set_option linter.unusedSimpArgs false
open Go.RowKit

theorem desc_of {P : Program} {te : TE} (hte : teOk P te) {t : TypeId} {ti : TI} (h : te t = some ti) : ∃ d, P.underlying t = some d ∧ descIs d ti.td := (hte t ti h).desc

theorem und_bool {P : Program} {te : TE} (hte : teOk P te) {t : TypeId} (h : tdOf te t = .bool) : P.underlying t = some .bool := by
  unfold tdOf at h
  split at h
  · rename_i ti hti
    obtain ⟨d, hd, hi⟩ := (hte t ti hti).desc
    rw [h] at hi
    cases d <;> simp only [descIs] at hi <;> exact hd
  · cases h

theorem und_int {P : Program} {te : TE} (hte : teOk P te) {t : TypeId} {k : IntKind} (h : tdOf te t = .int k) : P.underlying t = some (.int k) := by
  unfold tdOf at h
  split at h
  · rename_i ti hti
    obtain ⟨d, hd, hi⟩ := (hte t ti hti).desc
    rw [h] at hi
    cases d <;> simp only [descIs] at hi <;> subst hi <;> exact hd
  · cases h

theorem und_str {P : Program} {te : TE} (hte : teOk P te) {t : TypeId} (h : tdOf te t = .str) : P.underlying t = some .string := by
  unfold tdOf at h
  split at h
  · rename_i ti hti
    obtain ⟨d, hd, hi⟩ := (hte t ti hti).desc
    rw [h] at hi
    cases d <;> simp only [descIs] at hi <;> exact hd
  · cases h

theorem und_slice {P : Program} {te : TE} (hte : teOk P te) {t e : TypeId} (h : tdOf te t = .slice e) : P.underlying t = some (.slice e) := by
  unfold tdOf at h
  split at h
  · rename_i ti hti
    obtain ⟨d, hd, hi⟩ := (hte t ti hti).desc
    rw [h] at hi
    cases d <;> simp only [descIs] at hi <;> subst hi <;> exact hd
  · cases h

theorem und_map {P : Program} {te : TE} (hte : teOk P te) {t k e : TypeId} (h : tdOf te t = .map k e) : P.underlying t = some (.map k e) := by
  unfold tdOf at h
  split at h
  · rename_i ti hti
    obtain ⟨d, hd, hi⟩ := (hte t ti hti).desc
    rw [h] at hi
    cases d <;> simp only [descIs] at hi
    obtain ⟨rfl, rfl⟩ := hi
    exact hd
  · cases h

theorem und_struct {P : Program} {te : TE} (hte : teOk P te) {t : TypeId} {fs : List (TypeId × Nat)} (h : tdOf te t = .struct fs) :
    ∃ ff, P.underlying t = some (.struct ff) ∧ ff.toList.map (fun f => (f.type, f.offset)) = fs ∧ ∀ f ∈ ff.toList, f.name ≠ "_" := by
  unfold tdOf at h
  split at h
  · rename_i ti hti
    obtain ⟨d, hd, hi⟩ := (hte t ti hti).desc
    rw [h] at hi
    cases d <;> simp only [descIs] at hi
    exact ⟨_, hd, hi⟩
  · cases h

theorem td_of_some {te : TE} {t : TypeId} {ti : TI} (h : te t = some ti) : tdOf te t = ti.td := by simp [tdOf, h]

theorem run_und {P : Program} {t : TypeId} {d : TypeDesc} (h : P.underlying t = some d) (w : World) : (underlying t).run P w = .ok d w := by
  simp [underlying, h]

theorem run_info {P : Program} {t : TypeId} {i : TypeInfo} (h : P.info? t = some i) (w : World) : (typeInfo t).run P w = .ok i w := by
  simp [typeInfo, h]

theorem run_size {P : Program} {te : TE} (hte : teOk P te) {t : TypeId} {ti : TI} (h : te t = some ti) (w : World) : (sizeOf t).run P w = .ok ti.size w := by
  obtain ⟨i, hi, hs, _⟩ := (hte t ti h).info
  simp [sizeOf, run_info hi, hs]

theorem run_isAgg {P : Program} {te : TE} (hte : teOk P te) {t : TypeId} {ti : TI} (h : te t = some ti) (ho : ti.td ≠ .other) (w : World) : (isAgg t).run P w = .ok ti.td.isStruct w := by
  obtain ⟨d, hd, hi⟩ := (hte t ti h).desc
  simp only [isAgg, Sem.run_bind, run_und hd, Result.andThen_ok]
  cases htd : ti.td <;> rw [htd] at hi <;> cases d <;> simp only [descIs] at hi <;> first | (simp [TD.isStruct]; done) | (exact absurd htd ho)

theorem relL_drop {σ : Asg} : ∀ {l : List SV} {vs : List Value} (n : Nat), relL σ l vs → relL σ (l.drop n) (vs.drop n)
  | l, vs, 0, h => by simpa using h
  | [], vs, n + 1, h => by simp only [relL] at h; subst h; simp [relL]
  | x :: xs, vs, n + 1, h => by
    simp only [relL] at h
    obtain ⟨v, r, rfl, _, h2⟩ := h
    simpa using relL_drop n h2

theorem relL_take {σ : Asg} : ∀ {l : List SV} {vs : List Value} (n : Nat), relL σ l vs → relL σ (l.take n) (vs.take n)
  | l, vs, 0, h => by simp [relL]
  | [], vs, n + 1, h => by simp only [relL] at h; subst h; simp [relL]
  | x :: xs, vs, n + 1, h => by
    simp only [relL] at h
    obtain ⟨v, r, rfl, h1, h2⟩ := h
    simp only [List.take_succ_cons, relL]
    exact ⟨v, r.take n, rfl, h1, relL_take n h2⟩

theorem partS_sound {P : Program} {te : TE} (hte : teOk P te) {σ : Asg} {t : TypeId} {ti : TI} (ht : te t = some ti) (ho : ti.td ≠ .other) {xs : List SV} {cs : Array Value} {off : Nat}
    (hr : relL σ xs cs.toList) (hoff : off < xs.length) : ∃ v, rel σ (partS te t xs off) v ∧ ∀ w, (part t cs off).run P w = .ok v w := by
  unfold partS
  rw [td_of_some ht]
  split
  · rename_i hs
    refine ⟨.agg (cs.extract off (off + ti.size)), ?_, fun w => ?_⟩
    · simp only [rel]
      refine ⟨_, rfl, ?_⟩
      have := relL_take (szOf te t) (relL_drop off hr)
      simp only [szOf, ht] at this ⊢
      simpa [Array.toList_extract, List.extract_eq_take_drop] using this
    · simp [part, run_isAgg hte ht ho, hs, run_size hte ht]
  · rename_i hs
    obtain ⟨v, hv, hrv⟩ := relL_get hr (j := off) (x := xs.getD off .u) (by simp [List.getD, List.getElem?_eq_getElem hoff])
    refine ⟨v, hrv, fun w => ?_⟩
    have : cs[off]? = some v := by simpa using hv
    simp [part, run_isAgg hte ht ho, hs, this]

theorem eqAt_sound {P : Program} {te : TE} (hte : teOk P te) {σ : Asg} : ∀ (n : Nat) (t : TypeId) (x y : SV) (z : Bool), eqAt te n t x y = some z → ∀ vx vy, rel σ x vx → rel σ y vy →
    (∀ d, n ≤ d → ∀ w, (Op.equalIn d t vx vy).run P w = .ok z w) ∧ (∀ l, x = .agg l → P.eqGuardType P.depth t = false) := by
  intro n
  induction n with
  | zero => intro t x y z h; simp [eqAt] at h
  | succ n ih =>
    intro t x y z h vx vy hx hy
    simp only [eqAt] at h
    split at h
    · cases h
    rename_i ti hti
    split at h
    · rename_i _ _ hk k a k' b htd
      split at h
      · rename_i hkk
        subst hkk
        simp only [rel] at hx hy
        subst hx hy
        simp only [Option.some.injEq] at h
        subst h
        refine ⟨fun d hd w => ?_, fun _ hl => by cases hl⟩
        obtain ⟨d, rfl⟩ : ∃ e, d = e + 1 := ⟨d - 1, by omega⟩
        rw [run_equalIn_int w d t k hk a b (und_int hte ((td_of_some hti).trans htd)), beq_dec]
      · cases h
    · rename_i _ _ a b htd
      simp only [rel] at hx hy
      subst hx hy
      simp only [Option.some.injEq] at h
      subst h
      refine ⟨fun d hd w => ?_, fun _ hl => by cases hl⟩
      obtain ⟨d, rfl⟩ : ∃ e, d = e + 1 := ⟨d - 1, by omega⟩
      rw [run_equalIn_bool' w d t a b (und_bool hte ((td_of_some hti).trans htd))]
    · rename_i _ _ a b htd
      simp only [rel] at hx hy
      subst hx hy
      simp only [Option.some.injEq] at h
      subst h
      refine ⟨fun d hd w => ?_, fun _ hl => by cases hl⟩
      obtain ⟨d, rfl⟩ : ∃ e, d = e + 1 := ⟨d - 1, by omega⟩
      rw [run_equalIn_string w d t _ _ (und_str hte ((td_of_some hti).trans htd)), ba_toList, ba_toList, beq_dec]
    · rename_i _ _ fs xs ys htd
      split at h
      · rename_i hcmp
        obtain ⟨hst, hg⟩ := (hte t ti hti).eq hcmp
        refine ⟨fun d hd w => ?_, fun _ _ => hg⟩
        obtain ⟨d, rfl⟩ : ∃ e, d = e + 1 := ⟨d - 1, by omega⟩
        obtain ⟨ff, hff, hmap, hnm⟩ := und_struct hte ((td_of_some hti).trans htd)
        simp only [rel] at hx hy
        obtain ⟨cs, rfl, hx⟩ := hx
        obtain ⟨ds, rfl, hy⟩ := hy
        have hfo : P.fieldsOf t = ff := by simp [Program.fieldsOf, hff]
        rw [run_equalIn_agg w d t cs ds (by rw [hfo]; exact hff) hst, hfo]
        have hd' : n ≤ d := by omega
        clear hff hfo hg hst hcmp htd hti
        generalize hl : ff.toList = l at *
        clear hl
        subst hmap
        induction l generalizing z with
        | nil => simp [eqFs] at h; simp [Op.eqFields, h]
        | cons f l ihl =>
          simp only [List.map_cons, eqFs] at h
          split at h
          case isFalse => cases h
          rename_i hoff
          obtain ⟨hox, hoy⟩ := hoff
          split at h
          · rename_i a b ha hb
            simp only [Option.some.injEq] at h
            subst h
            have hne : f.name ≠ "_" := hnm f (by simp)
            -- the part's type is known
            cases hft : te f.type with
            | none =>
              cases n with
              | zero => simp [eqAt] at ha
              | succ n => simp [eqAt, hft] at ha
            | some ti' =>
              have ho : ti'.td ≠ .other := by
                intro e
                cases n with
                | zero => simp [eqAt] at ha
                | succ n => simp [eqAt, hft, e] at ha
              obtain ⟨v1, r1, e1⟩ := partS_sound hte hft ho hx hox
              obtain ⟨v2, r2, e2⟩ := partS_sound hte hft ho hy hoy
              have e3 := (ih f.type _ _ a ha v1 v2 r1 r2).1 d hd' w
              simp only [Op.eqFields, hne, ne_eq, not_false_eq_true, if_true, Sem.run_bind, e1, e2, Result.andThen_ok, e3]
              cases a with
              | false => simp
              | true => simpa using ihl b (fun g hg => hnm g (List.mem_cons_of_mem _ hg)) hb
          · cases h
      · cases h
    · cases h

theorem xbin_sound {P : Program} {te : TE} (hte : teOk P te) {σ : Asg} {wr c : Bool} {op : BinOp} {x y : SV} {K : SV → Prop} {t : TypeId} {vx vy : Value} (ox oy : Operand)
    (hx : c = true → rel σ x vx) (hy : c = true → rel σ y vy) (h : xbin te t wr c op x y K) :
    ∃ z, K z ∧ (c = true → ∃ v, rel σ z v ∧ ∀ w, ((do eqGuard op t ox oy vx vy; Go.binOp op t vx vy) : Sem Value).run P w = .ok v w) := by
  unfold xbin at h
  split at h
  all_goals first
    | exact h.elim
    | skip
  case h_1 k a k' b =>
    obtain ⟨rfl, h⟩ := h
    split at h
    · refine ⟨_, h, fun hc => ?_⟩
      have h1 := hx hc
      have h2 := hy hc
      simp only [rel] at h1 h2
      subst h1 h2
      exact ⟨.int k (k.wrap (a + b)), by simp only [rel], fun w => by simp [eqGuard, Go.binOp, Op.intArith, Op.intDiv, Op.intBits, Op.intCmp, Op.shift, Op.stringOp]⟩
    · obtain ⟨h0, h⟩ := h.out
      refine ⟨_, h, fun hc => ?_⟩
      have h1 := hx hc
      have h2 := hy hc
      simp only [rel] at h1 h2
      subst h1 h2
      exact ⟨.int k (a + b), by simp only [rel], fun w => by simp [eqGuard, Go.binOp, Op.intArith, Op.intDiv, Op.intBits, Op.intCmp, Op.shift, Op.stringOp, inR_wrap (h0 hc)]⟩
  case h_2 k a k' b =>
    obtain ⟨rfl, h⟩ := h
    split at h
    · refine ⟨_, h, fun hc => ?_⟩
      have h1 := hx hc
      have h2 := hy hc
      simp only [rel] at h1 h2
      subst h1 h2
      exact ⟨.int k (k.wrap (a - b)), by simp only [rel], fun w => by simp [eqGuard, Go.binOp, Op.intArith, Op.intDiv, Op.intBits, Op.intCmp, Op.shift, Op.stringOp]⟩
    · obtain ⟨h0, h⟩ := h.out
      refine ⟨_, h, fun hc => ?_⟩
      have h1 := hx hc
      have h2 := hy hc
      simp only [rel] at h1 h2
      subst h1 h2
      exact ⟨.int k (a - b), by simp only [rel], fun w => by simp [eqGuard, Go.binOp, Op.intArith, Op.intDiv, Op.intBits, Op.intCmp, Op.shift, Op.stringOp, inR_wrap (h0 hc)]⟩
  case h_3 k a k' b =>
    obtain ⟨rfl, h⟩ := h
    split at h
    · refine ⟨_, h, fun hc => ?_⟩
      have h1 := hx hc
      have h2 := hy hc
      simp only [rel] at h1 h2
      subst h1 h2
      exact ⟨.int k (k.wrap (a * b)), by simp only [rel], fun w => by simp [eqGuard, Go.binOp, Op.intArith, Op.intDiv, Op.intBits, Op.intCmp, Op.shift, Op.stringOp]⟩
    · obtain ⟨h0, h⟩ := h.out
      refine ⟨_, h, fun hc => ?_⟩
      have h1 := hx hc
      have h2 := hy hc
      simp only [rel] at h1 h2
      subst h1 h2
      exact ⟨.int k (a * b), by simp only [rel], fun w => by simp [eqGuard, Go.binOp, Op.intArith, Op.intDiv, Op.intBits, Op.intCmp, Op.shift, Op.stringOp, inR_wrap (h0 hc)]⟩
  case h_4 k a k' b =>
    obtain ⟨rfl, hb, h⟩ := h
    obtain ⟨h0, h⟩ := h.out
    refine ⟨_, h, fun hc => ?_⟩
    have h1 := hx hc
    have h2 := hy hc
    simp only [rel] at h1 h2
    subst h1 h2
    exact ⟨.int k (a.tdiv b), by simp only [rel], fun w => by simp [eqGuard, Go.binOp, Op.intArith, Op.intDiv, Op.intBits, Op.intCmp, Op.shift, Op.stringOp, inR_wrap (h0 hc), hb]⟩
  case h_5 k a k' b =>
    obtain ⟨rfl, h⟩ := h
    obtain ⟨h0, h⟩ := h.out
    refine ⟨_, h, fun hc => ?_⟩
    have h1 := hx hc
    have h2 := hy hc
    simp only [rel] at h1 h2
    subst h1 h2
    exact ⟨.int k (a.tmod b), by simp only [rel], fun w => by simp [eqGuard, Go.binOp, Op.intArith, Op.intDiv, Op.intBits, Op.intCmp, Op.shift, Op.stringOp, h0 hc]⟩
  case h_6 k a k' b =>
    obtain ⟨rfl, h⟩ := h
    refine ⟨_, h, fun hc => ?_⟩
    have h1 := hx hc
    have h2 := hy hc
    simp only [rel] at h1 h2
    subst h1 h2
    exact ⟨.int k (k.wrap ((BitVec.ofInt k.bits a &&& BitVec.ofInt k.bits b).toNat)), by simp only [rel], fun w => by simp [eqGuard, Go.binOp, Op.intArith, Op.intDiv, Op.intBits, Op.intCmp, Op.shift, Op.stringOp]⟩
  case h_7 k a k' b =>
    obtain ⟨rfl, h⟩ := h
    refine ⟨_, h, fun hc => ?_⟩
    have h1 := hx hc
    have h2 := hy hc
    simp only [rel] at h1 h2
    subst h1 h2
    exact ⟨.int k (k.wrap ((BitVec.ofInt k.bits a ^^^ BitVec.ofInt k.bits b).toNat)), by simp only [rel], fun w => by simp [eqGuard, Go.binOp, Op.intArith, Op.intDiv, Op.intBits, Op.intCmp, Op.shift, Op.stringOp]⟩
  case h_8 k a yk b =>
    obtain ⟨hb, h⟩ := h
    refine ⟨_, h, fun hc => ?_⟩
    have h1 := hx hc
    have h2 := hy hc
    simp only [rel] at h1 h2
    subst h1 h2
    exact ⟨.int k (a.fdiv (2 ^ (min b.toNat k.bits))), by simp only [rel], fun w => by simp [eqGuard, Go.binOp, Op.intArith, Op.intDiv, Op.intBits, Op.intCmp, Op.shift, Op.stringOp, show ¬ b < 0 by omega]⟩
  case h_9 k a k' b =>
    obtain ⟨rfl, h⟩ := h
    refine ⟨_, h, fun hc => ?_⟩
    have h1 := hx hc
    have h2 := hy hc
    simp only [rel] at h1 h2
    subst h1 h2
    exact ⟨.bool (decide (a = b)), by simp only [rel], fun w => by simp [eqGuard, Go.binOp, Op.intArith, Op.intDiv, Op.intBits, Op.intCmp, Op.shift, Op.stringOp, beq_dec, bne]⟩
  case h_10 k a k' b =>
    obtain ⟨rfl, h⟩ := h
    refine ⟨_, h, fun hc => ?_⟩
    have h1 := hx hc
    have h2 := hy hc
    simp only [rel] at h1 h2
    subst h1 h2
    exact ⟨.bool (!decide (a = b)), by simp only [rel], fun w => by simp [eqGuard, Go.binOp, Op.intArith, Op.intDiv, Op.intBits, Op.intCmp, Op.shift, Op.stringOp, beq_dec, bne]⟩
  case h_11 k a k' b =>
    obtain ⟨rfl, h⟩ := h
    refine ⟨_, h, fun hc => ?_⟩
    have h1 := hx hc
    have h2 := hy hc
    simp only [rel] at h1 h2
    subst h1 h2
    exact ⟨.bool (decide (a < b)), by simp only [rel], fun w => by simp [eqGuard, Go.binOp, Op.intArith, Op.intDiv, Op.intBits, Op.intCmp, Op.shift, Op.stringOp]⟩
  case h_12 k a k' b =>
    obtain ⟨rfl, h⟩ := h
    refine ⟨_, h, fun hc => ?_⟩
    have h1 := hx hc
    have h2 := hy hc
    simp only [rel] at h1 h2
    subst h1 h2
    exact ⟨.bool (decide (a ≤ b)), by simp only [rel], fun w => by simp [eqGuard, Go.binOp, Op.intArith, Op.intDiv, Op.intBits, Op.intCmp, Op.shift, Op.stringOp]⟩
  case h_13 k a k' b =>
    obtain ⟨rfl, h⟩ := h
    refine ⟨_, h, fun hc => ?_⟩
    have h1 := hx hc
    have h2 := hy hc
    simp only [rel] at h1 h2
    subst h1 h2
    exact ⟨.bool (decide (a > b)), by simp only [rel], fun w => by simp [eqGuard, Go.binOp, Op.intArith, Op.intDiv, Op.intBits, Op.intCmp, Op.shift, Op.stringOp]⟩
  case h_14 k a k' b =>
    obtain ⟨rfl, h⟩ := h
    refine ⟨_, h, fun hc => ?_⟩
    have h1 := hx hc
    have h2 := hy hc
    simp only [rel] at h1 h2
    subst h1 h2
    exact ⟨.bool (decide (a ≥ b)), by simp only [rel], fun w => by simp [eqGuard, Go.binOp, Op.intArith, Op.intDiv, Op.intBits, Op.intCmp, Op.shift, Op.stringOp]⟩
  case h_15 a b =>
    obtain ⟨h0, h⟩ := h.out
    refine ⟨_, h, fun hc => ?_⟩
    have h1 := hx hc
    have h2 := hy hc
    simp only [rel] at h1 h2
    subst h1 h2
    exact ⟨.string ⟨(a ++ b).toArray⟩, by simp only [rel], fun w => by simp [eqGuard, Go.binOp, Op.intArith, Op.intDiv, Op.intBits, Op.intCmp, Op.shift, Op.stringOp, ba_append, show ¬ (9223372036854775807 < (a.length : Int) + (b.length : Int)) by have := h0 hc; omega, IntKind.max, IntKind.bits, IntKind.signed, ByteArray.size]⟩
  case h_16 a b =>
    refine ⟨_, h, fun hc => ?_⟩
    have h1 := hx hc
    have h2 := hy hc
    simp only [rel] at h1 h2
    subst h1 h2
    refine ⟨.bool (decide (a = b)), by simp only [rel], fun w => ?_⟩
    simp only [eqGuard, Go.binOp, Op.stringOp, ba_toList, beq_dec]
    rfl
  case h_17 a b =>
    refine ⟨_, h, fun hc => ?_⟩
    have h1 := hx hc
    have h2 := hy hc
    simp only [rel] at h1 h2
    subst h1 h2
    refine ⟨.bool (!decide (a = b)), by simp only [rel], fun w => ?_⟩
    simp only [eqGuard, Go.binOp, Op.stringOp, ba_toList, beq_dec]
    rfl
  case h_18 a b =>
    obtain ⟨ht, h⟩ := h
    refine ⟨_, h, fun hc => ?_⟩
    have h1 := hx hc
    have h2 := hy hc
    simp only [rel] at h1 h2
    subst h1 h2
    refine ⟨.bool (a == b), by simp only [rel], fun w => ?_⟩
    simp [eqGuard, Go.binOp, Op.equal, Op.maxDepth, run_equalIn_bool' w _ t a b (und_bool hte ht)]
  case h_19 a b =>
    obtain ⟨ht, h⟩ := h
    refine ⟨_, h, fun hc => ?_⟩
    have h1 := hx hc
    have h2 := hy hc
    simp only [rel] at h1 h2
    subst h1 h2
    refine ⟨.bool (!(a == b)), by simp only [rel], fun w => ?_⟩
    simp [eqGuard, Go.binOp, Op.equal, Op.maxDepth, run_equalIn_bool' w _ t a b (und_bool hte ht)]
  case h_20 a b =>
    split at h
    · rename_i z hz
      refine ⟨_, h, fun hc => ?_⟩
      have h1 := hx hc
      have h2 := hy hc
      refine ⟨.bool z, by simp only [rel], fun w => ?_⟩
      obtain ⟨e1, e2⟩ := eqAt_sound hte 4 t _ _ z hz vx vy h1 h2
      have e1' := e1 10000 (by omega) w
      clear hx hy
      simp only [rel] at h1 h2
      obtain ⟨cs, rfl, h1⟩ := h1
      obtain ⟨ds, rfl, h2⟩ := h2
      clear e1 h1 h2
      simp [run_eqGuard_agg w .eql t ox oy cs ds (e2 _ rfl), run_eql_struct, e1']
    · exact h.elim
  case h_21 a b =>
    split at h
    · rename_i z hz
      refine ⟨_, h, fun hc => ?_⟩
      have h1 := hx hc
      have h2 := hy hc
      refine ⟨.bool (!z), by simp only [rel], fun w => ?_⟩
      obtain ⟨e1, e2⟩ := eqAt_sound hte 4 t _ _ z hz vx vy h1 h2
      have e1' := e1 10000 (by omega) w
      clear hx hy
      simp only [rel] at h1 h2
      obtain ⟨cs, rfl, h1⟩ := h1
      obtain ⟨ds, rfl, h2⟩ := h2
      clear e1 h1 h2
      simp [run_eqGuard_agg w .neq t ox oy cs ds (e2 _ rfl), run_neq_struct, e1']
    · exact h.elim
end Go.Vg
