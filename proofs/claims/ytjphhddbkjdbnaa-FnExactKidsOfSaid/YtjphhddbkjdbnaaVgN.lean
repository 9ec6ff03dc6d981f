/- Own text: part VgN. -/
import Derived.Test.YtjphhddbkjdbnaaVgM
namespace Go.Vg
set_option linter.unusedVariables false
set_option linter.unusedSimpArgs false
open Go.RowKit

theorem not_int {P : Program} {te : TE} (hte : teOk P te) {xt : TypeId} (h : match tdOf te xt with | .slice _ => True | .str => True | _ => False) : ∃ d, P.underlying xt = some d ∧ ∀ k, d ≠ .int k := by
  split at h
  · rename_i e he; exact ⟨_, und_slice hte he, by intro k hk; cases hk⟩
  · rename_i he; exact ⟨_, und_str hte he, by intro k hk; cases hk⟩
  · exact h.elim

theorem run_append_fits {P : Program} {te : TE} (hte : teOk P te) {w w' : World} {t e xt : TypeId} {ti : TI} (ht : tdOf te t = .slice e) (hti : te e = some ti) (hxt : match tdOf te xt with | .slice _ => True | .str => True | _ => False)
    {base : Option Addr} {len cap m : Nat} {x : Value} (hm : (Builtin.lenOf x).run P w = .ok m w) (ty : TypeId) {vs : List Value} (hvs : (Builtin.firstCells ti.size m x).run P w = .ok vs.toArray w) (hfit : len + m ≤ cap)
    (hst : match base with | none => w' = w | some a => (storeCells (a.add (len * ti.size)) vs).run P w = .ok () w') :
    (Builtin.append_ #[t, xt] ty #[.slice base len cap, x]).run P w = .ok (.slice base (len + m) cap) w' := by
  obtain ⟨d, hd, hni⟩ := not_int hte hxt
  obtain ⟨i, hi, hisz, hib, _⟩ := (hte e ti hti).info
  unfold Builtin.append_
  simp only [List.getElem?_toArray, List.getElem?_cons_zero, List.getElem?_cons_succ, Sem.run_bind, run_und (und_slice hte ht), Result.andThen_ok, run_size hte hti, run_und hd, Sem.run_pure]
  cases d
  case int k => exact absurd rfl (hni k)
  all_goals
    simp only [Bool.false_eq_true, if_false, Sem.run_bind, hm, Result.andThen_ok, Bool.not_false, if_true, if_pos hfit, hvs]
    cases base with
    | none => subst hst; simp
    | some ad => simp [hst]

theorem run_append_grows {P : Program} {te : TE} (hte : teOk P te) {w : World} {t e xt : TypeId} {ti : TI} (ht : tdOf te t = .slice e) (hti : te e = some ti) (hxt : match tdOf te xt with | .slice _ => True | .str => True | _ => False)
    {base : Option Addr} {len cap m : Nat} {x : Value} (hm : (Builtin.lenOf x).run P w = .ok m w) (ty : TypeId) {vs us : List Value} {z : Value} (hvs : ∀ n, (Builtin.firstCells ti.size m x).run P { w with drawn := n } = .ok vs.toArray { w with drawn := n })
    (hus : ∀ n, (Builtin.firstCells ti.size len (.slice base len cap)).run P { w with drawn := n } = .ok us.toArray { w with drawn := n }) (hfit : ¬ (len + m ≤ cap)) (hb : ti.bytes ≠ 0)
    (hroom : (len + m) * ti.bytes ≤ 140737488355328) (hz : ∀ w, (zeroValue e).run P w = .ok z w) :
    ∃ nc, len + m ≤ nc ∧ (Builtin.append_ #[t, xt] ty #[.slice base len cap, x]).run P w = .ok (.slice (some ⟨w.heap.size, 0, none⟩) (len + m) nc)
      { w with drawn := w.drawn + 1, heap := w.heap.push (.cells (us.toArray ++ vs.toArray ++ Builtin.zeroCells z.cells (nc - (len + m))) e) } := by
  obtain ⟨d, hd, hni⟩ := not_int hte hxt
  obtain ⟨i, hi, hisz, hib, _⟩ := (hte e ti hti).info
  refine ⟨(Question.appendCap (len + m) cap e).cut (w.tape w.drawn (Question.appendCap (len + m) cap e)), by simp only [Question.cut]; omega, ?_⟩
  have hg := growCap (bytes := ti.bytes) (show cap < len + m by omega) hroom
  unfold Builtin.append_
  simp only [List.getElem?_toArray, List.getElem?_cons_zero, List.getElem?_cons_succ, Sem.run_bind, run_und (und_slice hte ht), Result.andThen_ok, run_size hte hti, run_und hd, Sem.run_pure]
  cases d
  case int k => exact absurd rfl (hni k)
  all_goals
    simp only [Bool.false_eq_true, if_false, Sem.run_bind, hm, Result.andThen_ok, Bool.not_false, if_true, if_neg hfit, run_info hi, hib, false_or, Sem.run_ite, hb, and_false, Sem.run_pure, if_neg hg, run_choose, Question.forced, run_askRoom, hus, hvs, hz, newRow, run_newObj]

/-- A new row, with room to spare, behind a draw. -/
theorem grown_core {A : Amb} {σ : Asg} {st : St} {a : Act} {w : World} (hR : Rel A σ st a w) {e : TypeId} {cells : Array Value} {sz n cap : Nat} {f : Nat → List SV} (nd : Nat)
    (hcs : cells.size = cap * sz) (hn : n ≤ cap) (hc : ∀ i k, i < n → k < sz → ∃ v, cells[i * sz + k]? = some v ∧ rel σ ((f i).getD k .u) v) :
    ∃ σ', leA σ σ' ∧ rel σ' (.slc st.ctx.length 0 n) (.slice (some ⟨w.heap.size, 0, none⟩) n cap) ∧ Rel A σ' (st.addObj (.row false sz n f)) a { w with drawn := nd, heap := w.heap.push (.cells cells e) } := by
  obtain ⟨σ', w', h1, h2, h3, h4⟩ := row_core (P := default) (hR.drawn nd) (elem := e) hcs hn hc
  simp only [newRow, Sem.run_bind, run_newObj, Result.andThen_ok, Sem.run_pure, Result.ok.injEq, true_and] at h1
  subst h1
  exact ⟨σ', h2, h3, h4⟩

theorem append_vals {σ : Asg} {sz len m nc : Nat} {f g : Nat → List SV} {us vs : List Value} {z : Array Value} (hu : us.length = len * sz) (hv : vs.length = m * sz) (hz : z.size = sz) (hnc : len + m ≤ nc)
    (h1 : ∀ j k, j < len → k < sz → ∃ y, us[j * sz + k]? = some y ∧ rel σ ((f j).getD k .u) y) (h2 : ∀ j k, j < m → k < sz → ∃ y, vs[j * sz + k]? = some y ∧ rel σ ((g j).getD k .u) y) :
    (us.toArray ++ vs.toArray ++ Builtin.zeroCells z (nc - (len + m))).size = nc * sz ∧
    ∀ i k, i < len + m → k < sz → ∃ v, (us.toArray ++ vs.toArray ++ Builtin.zeroCells z (nc - (len + m)))[i * sz + k]? = some v ∧ rel σ ((catF len f g i).getD k .u) v := by
  refine ⟨?_, fun i k hi hk => ?_⟩
  · simp only [Array.size_append, List.size_toArray, hu, hv, Builtin.zeroCells, Array.size_map, Array.size_range, hz]
    rw [← Nat.add_mul, ← Nat.add_mul]; congr 1; omega
  · rw [catF_get]
    have hb : i * sz + k < (us.toArray ++ vs.toArray).size := by
      simp only [Array.size_append, List.size_toArray, hu, hv, ← Nat.add_mul]
      have : i * sz + sz ≤ (len + m) * sz := by rw [← Nat.succ_mul]; exact Nat.mul_le_mul_right _ hi
      omega
    rw [Array.getElem?_append_left hb]
    by_cases hil : i < len
    · rw [if_pos hil]
      obtain ⟨y, e1, e2⟩ := h1 i k hil hk
      have hbl : i * sz + k < us.length := by
        rw [hu]
        have : i * sz + sz ≤ len * sz := by rw [← Nat.succ_mul]; exact Nat.mul_le_mul_right _ hil
        omega
      refine ⟨y, ?_, e2⟩
      rw [Array.getElem?_append_left (by simpa using hbl)]
      simpa using e1
    · rw [if_neg hil]
      obtain ⟨y, e1, e2⟩ := h2 (i - len) k (by omega) hk
      refine ⟨y, ?_, e2⟩
      have hge : us.length ≤ i * sz + k := by
        rw [hu]
        have : len * sz ≤ i * sz := Nat.mul_le_mul_right _ (by omega)
        omega
      rw [Array.getElem?_append_right (by simpa using hge)]
      simp only [List.size_toArray, List.getElem?_toArray, hu]
      rw [show i * sz + k - len * sz = (i - len) * sz + k by rw [Nat.sub_mul]; have : len * sz ≤ i * sz := Nat.mul_le_mul_right _ (by omega); omega]
      exact e1

/-- An append to nil. -/
theorem append_nil {P : Program} {te : TE} (hte : teOk P te) {A : Amb} {σ : Asg} {st : St} {a : Act} {w : World} (hR : Rel A σ st a w) {t e xt : TypeId} {ti : TI} (ht : tdOf te t = .slice e) (hti : te e = some ti)
    (hxt : match tdOf te xt with | .slice _ => True | .str => True | _ => False) (hz : ti.zero.length = ti.size) (hb : ti.bytes ≠ 0) {m : Nat} {g : Nat → List SV} {x : Value} (hs : SrcIs P σ w ti.size m g x) (ty : TypeId)
    (hroom : m * ti.bytes ≤ 140737488355328) :
    ∃ v σ' w', (Builtin.append_ #[t, xt] ty #[.slice none 0 0, x]).run P w = .ok v w' ∧ leA σ σ' ∧ rel σ' (.slc st.ctx.length 0 m) v ∧ Rel A σ' (st.addObj (.row false ti.size m g)) a w' := by
  obtain ⟨vs, h1, h2, h3, h4⟩ := hs.vals
  by_cases hm : m = 0
  · subst hm
    refine ⟨.slice none 0 0, σ, w, ?_, leA.refl σ, ?_, hR.ghost _ _⟩
    · exact run_append_fits hte ht hti hxt hs.len ty (by have := h2 w.drawn; exact this) (Nat.le_refl _) rfl
    · simp only [rel]; exact ⟨none, 0, rfl, Nat.le_refl _, .inl rfl⟩
  · obtain ⟨z, hzr, _, hzs⟩ := zero_of hte (σ := σ) hti hz
    obtain ⟨nc, hnc, hrun⟩ := run_append_grows hte (w := w) ht hti hxt (base := none) (len := 0) (cap := 0) hs.len ty (us := []) h2 (fun n => by simp [Builtin.firstCells]) (by omega) hb (by simpa using hroom) hzr
    obtain ⟨p1, p2⟩ := append_vals (σ := σ) (len := 0) (f := g) (us := []) (by simp) h1 hzs hnc (fun j k hj => by omega) h4
    obtain ⟨σ', q1, q2, q3⟩ := grown_core hR (e := e) (n := m) (f := g) (w.drawn + 1) p1 (by omega) (fun i k hi hk => by
      obtain ⟨v, r1, r2⟩ := p2 i k (by omega) hk
      exact ⟨v, r1, by simpa [catF] using r2⟩)
    refine ⟨_, σ', _, hrun, q1, ?_, q3⟩
    simpa using q2

/-- An append to a row of its own. -/
theorem append_row {P : Program} {te : TE} (hte : teOk P te) {A : Amb} {σ : Asg} {st : St} {a : Act} {w : World} (hR : Rel A σ st a w) {t e xt : TypeId} {ti : TI} (ht : tdOf te t = .slice e) (hti : te e = some ti)
    (hxt : match tdOf te xt with | .slice _ => True | .str => True | _ => False) (hz : ti.zero.length = ti.size) (hb : ti.bytes ≠ 0) {h lo len n : Nat} {f : Nat → List SV} (hob : st.ctx.at h = some (.row false ti.size n f)) (hin : lo + len ≤ n)
    {m : Nat} {g : Nat → List SV} {s x : Value} (hsv : rel σ (.slc h lo len) s) (hs : SrcIs P σ w ti.size m g x) (ty : TypeId) (hroom : (len + m) * ti.bytes ≤ 140737488355328) :
    ∃ v σ' w', (Builtin.append_ #[t, xt] ty #[s, x]).run P w = .ok v w' ∧ leA σ σ' ∧ rel σ' (.slc st.ctx.length 0 (len + m)) v ∧ Rel A σ' ((st.setObj h none).addObj (.row false ti.size (len + m) (catF len (fun j => f (lo + j)) g))) a w' := by
  obtain ⟨vs, h1, h2, h3, h4⟩ := hs.vals
  have hlt := at_lt hob
  simp only [rel] at hsv
  obtain ⟨ad, cap, rfl, hl, hsv⟩ := hsv
  have hlen' : (st.setObj h none).ctx.length = st.ctx.length := by simp [St.setObj]
  obtain ⟨z, hzr, _, hzs⟩ := zero_of hte (σ := σ) hti hz
  -- the old elements, as they lie
  have old : ∃ us : List Value, us.length = len * ti.size ∧ (∀ n, (Builtin.firstCells ti.size len (.slice ad len cap)).run P { w with drawn := n } = .ok us.toArray { w with drawn := n }) ∧
      ∀ j k, j < len → k < ti.size → ∃ y, us[j * ti.size + k]? = some y ∧ rel σ ((f (lo + j)).getD k .u) y := by
    by_cases hl0 : len = 0
    · subst hl0
      refine ⟨[], by simp, fun n => ?_, fun j k hj => by omega⟩
      cases ad <;> simp [Builtin.firstCells, loadCells, loadCellsFrom]
    · rcases hsv with hsv | ⟨L, hL, rfl, hav⟩
      · omega
      rcases live_cells hR.sat hob rfl with ⟨_, h0⟩ | ⟨L', c, e', fr, hL', hc⟩
      · rw [h0] at hL; cases hL
      rw [hL'] at hL
      cases hL
      obtain ⟨us, g1, g2, g3⟩ := row_vals hc lo len hin
      refine ⟨us, g1, fun n' => ?_, g3⟩
      have := run_loadCells (P := P) (w := { w with drawn := n' }) (off := L.sh + lo * L.sz + 0) hc.heap us g2
      rw [g1] at this
      simpa [Builtin.firstCells, addrOf] using this
  obtain ⟨us, hu1, hu2, hu3⟩ := old
  by_cases hfit : len + m ≤ cap
  · by_cases hcap : cap = 0
    · have hl0 : len = 0 := by omega
      have hm0 : m = 0 := by omega
      subst hl0 hm0
      refine ⟨.slice ad 0 cap, σ, w, ?_, leA.refl σ, ?_, ?_⟩
      · have hvs : vs = [] := List.length_eq_zero_iff.1 (by simpa using h1)
        refine run_append_fits hte ht hti hxt hs.len ty (by have := h2 w.drawn; exact this) hfit ?_
        cases ad with
        | none => rfl
        | some ad => simp [hvs, storeCells]
      · simp only [rel]; exact ⟨ad, cap, rfl, by omega, .inl hcap⟩
      · exact (hR.drop h).ghost _ _
    · rcases hsv with hsv | ⟨L, hL, rfl, hav⟩
      · omega
      rcases live_cells hR.sat hob rfl with ⟨_, h0⟩ | ⟨L', c, e', fr, hL', hc⟩
      · rw [h0] at hL; cases hL
      rw [hL'] at hL
      cases hL
      have hsz : L.sz = ti.size := hc.lsz
      have hbL := hR.sat.inHeap h L hL'
      have hmul : (lo + cap) * ti.size = lo * ti.size + cap * ti.size := Nat.add_mul _ _ _
      have hmul2 : len * ti.size + m * ti.size ≤ cap * ti.size := by rw [← Nat.add_mul]; exact Nat.mul_le_mul_right _ hfit
      have hroomc := hc.room
      rw [hsz, hmul] at hav
      have hst := run_storeCells (P := P) (off := L.sh + lo * ti.size + len * ti.size) vs 0 w c hc.heap h3 (by rw [h1]; omega) (fun y hy hh => by rcases hc.free rfl with h | h <;> omega)
      simp only [Nat.add_zero] at hst
      have hnew : Rel A (updA σ st.ctx.length ⟨L.b, L.sh + lo * ti.size, L.av - lo * ti.size, ti.size⟩) ((st.setObj h none).addObj (.row false ti.size (len + m) (catF len (fun j => f (lo + j)) g))) a
          { w with heap := w.heap.setIfInBounds L.b (.cells (setAll c (L.sh + lo * ti.size + len * ti.size) vs) e' fr) } := by
        have hq : σ st.ctx.length = none := hR.sat.beyond _ (Nat.le_refl _)
        have hle := leA_upd (L := ⟨L.b, L.sh + lo * ti.size, L.av - lo * ti.size, ti.size⟩) hq
        have hat : ∀ y, Ctx.at (((st.setObj h none).addObj (.row false ti.size (len + m) (catF len (fun j => f (lo + j)) g))).ctx) y = if y = st.ctx.length then some (.row false ti.size (len + m) (catF len (fun j => f (lo + j)) g)) else if y = h then none else st.ctx.at y := by
          intro y
          simp only [St.addObj, at_app, hlen', St.setObj, List.length_set]
          by_cases hy : y = st.ctx.length
          · simp [hy]
          · rw [if_neg hy, if_neg hy, at_set _ _ _ _ hlt]
        have hother : ∀ y o M, y ≠ h → st.ctx.at y = some o → σ y = some M → M.b ≠ L.b := fun y o M hy ho hM => Ne.symm (hR.sat.apart h y _ o L M (Ne.symm hy) hob ho rfl hL' hM)
        refine ⟨hR.defers, hR.size, fun t => rel_mono hle (hR.env t), ⟨fun y o ey => ?_, fun y1 y2 o1 o2 L1 L2 hne e1 e2 r s1 s2 => ?_, fun y hy => ?_, fun y M ey => ?_, fun b1 o1 e1 => ?_, fun y o M ey r s => ?_⟩, ?_, fun y o M ey r s => ?_, ⟨fun y hy => ?_, hR.base.fzb, hR.base.fzn⟩, ?_⟩
        · rw [hat] at ey
          split at ey
          · rename_i hy
            cases ey
            unfold objSat
            refine .inr ⟨⟨L.b, L.sh + lo * ti.size, L.av - lo * ti.size, ti.size⟩, setAll c (L.sh + lo * ti.size + len * ti.size) vs, e', fr, by simp [updA, hy], ⟨?_, rfl, ?_, ?_, fun i k hi hk => ?_, fun _ => ?_⟩⟩
            · simp only [heap_setB, if_true, if_pos hbL]
            · rw [setAll_size]
              simp only
              omega
            · simp only [SO.n, SO.sz]
              rw [Nat.add_mul]; omega
            · simp only [SO.n, SO.sz, SO.el] at *
              rw [setAll_get _ _ _ _ (by rw [h1]; omega), h1, catF_get]
              by_cases hil : i < len
              · rw [if_pos hil]
                obtain ⟨v, r1, r2⟩ := hc.cell (lo + i) k (by simp only [SO.n]; omega) hk
                have : i * ti.size + ti.size ≤ len * ti.size := by rw [← Nat.succ_mul]; exact Nat.mul_le_mul_right _ hil
                rw [if_neg (by omega)]
                refine ⟨v, ?_, rel_mono hle r2⟩
                simp only [SO.sz] at r1
                rw [show L.sh + lo * ti.size + i * ti.size + k = L.sh + (lo + i) * ti.size + k by rw [Nat.add_mul]; omega]
                exact r1
              · rw [if_neg hil]
                obtain ⟨v, r1, r2⟩ := h4 (i - len) k (by omega) hk
                have hmi : (i - len) * ti.size + ti.size ≤ m * ti.size := by rw [← Nat.succ_mul]; exact Nat.mul_le_mul_right _ (by omega)
                have hsub : i * ti.size = len * ti.size + (i - len) * ti.size := by rw [← Nat.add_mul]; congr 1; omega
                rw [if_pos (by omega)]
                refine ⟨v, ?_, rel_mono hle r2⟩
                rw [show L.sh + lo * ti.size + i * ti.size + k - (L.sh + lo * ti.size + len * ti.size) = (i - len) * ti.size + k by omega]
                exact r1
            · rw [setAll_size]; exact hc.free rfl
          · rename_i hy
            split at ey
            · cases ey
            · rename_i hyh
              refine objSat_same hle (by simp [updA, hy]) (fun M hM => ?_) (hR.sat.obj y o ey)
              simp only [heap_setB, if_neg (hother y o M hyh ey hM)]
        · rw [hat] at e1 e2
          simp only [updA] at s1 s2
          split at e1
          · rename_i hy1
            rw [if_pos hy1] at s1
            cases s1
            split at e2
            · rename_i hy2; omega
            · rename_i hy2
              rw [if_neg hy2] at s2
              split at e2
              · cases e2
              · rename_i hyh; exact Ne.symm (hother y2 o2 L2 hyh e2 s2)
          · rename_i hy1
            rw [if_neg hy1] at s1
            split at e1
            · cases e1
            · rename_i hyh1
              split at e2
              · rename_i hy2
                rw [if_pos hy2] at s2
                cases s2
                exact hother y1 o1 L1 hyh1 e1 s1
              · rename_i hy2
                rw [if_neg hy2] at s2
                split at e2
                · cases e2
                · exact hR.sat.apart y1 y2 o1 o2 L1 L2 hne e1 e2 r s1 s2
        · simp only [St.addObj, St.setObj, List.length_append, List.length_set, List.length_singleton] at hy
          simp only [updA, if_neg (show y ≠ st.ctx.length by omega)]
          exact hR.sat.beyond y (by omega)
        · simp only [updA] at ey
          simp only [Array.size_setIfInBounds]
          split at ey
          · cases ey; exact hbL
          · exact hR.sat.inHeap y M ey
        · have hne : b1 ≠ L.b := fun hh => by rw [hh, updA_fz, hR.sat.frzA h _ L hob rfl hL'] at e1; cases e1
          simp only [heap_setB, if_neg hne]
          exact hR.sat.frz b1 o1 e1
        · rw [hat] at ey
          rw [updA_fz]
          simp only [updA] at s
          split at ey
          · rename_i hy
            rw [if_pos hy] at s
            cases s
            exact hR.sat.frzA h _ L hob rfl hL'
          · rename_i hy
            rw [if_neg hy] at s
            split at ey
            · cases ey
            · exact hR.sat.frzA y o M ey r s
        · refine ⟨hR.fr.os, hR.fr.tape, hR.fr.output, by simpa using hR.fr.size, fun b hb' hd => ?_⟩
          simp only [heap_setB]
          rw [if_neg]
          · exact hR.fr.block b hb' hd
          · intro ee
            subst ee
            rcases hR.own h _ L hob rfl hL' with q | q
            · exact hd q
            · omega
        · rw [hat] at ey
          simp only [updA] at s
          split at ey
          · rename_i hy
            rw [if_pos hy] at s
            cases s
            exact hR.own h _ L hob rfl hL'
          · rename_i hy
            rw [if_neg hy] at s
            split at ey
            · cases ey
            · exact hR.own y o M ey r s
        · have := hR.klen
          simp only [updA, if_neg (show y ≠ st.ctx.length by omega)]
          exact hR.base.loc y hy
        · simp only [St.addObj, St.setObj, List.length_append, List.length_set]
          have := hR.klen; omega
      refine ⟨_, _, _, run_append_fits hte ht hti hxt hs.len ty (by have := h2 w.drawn; exact this) hfit ?_, leA_upd (hR.sat.beyond _ (Nat.le_refl _)), ?_, hnew⟩
      · simp only [addrOf, add_none, hsz, Nat.add_zero]
        exact hst
      · simp only [rel]
        refine ⟨_, _, rfl, hfit, .inr ⟨⟨L.b, L.sh + lo * ti.size, L.av - lo * ti.size, ti.size⟩, by simp [updA], ?_, ?_⟩⟩
        · simp [addrOf, hsz]
        · simp only [Nat.zero_add]; omega
  · obtain ⟨nc, hnc, hrun⟩ := run_append_grows hte (w := w) ht hti hxt (base := ad) (len := len) (cap := cap) hs.len ty (us := us) h2 hu2 hfit hb hroom hzr
    obtain ⟨p1, p2⟩ := append_vals (σ := σ) (f := fun j => f (lo + j)) hu1 h1 hzs hnc hu3 h4
    obtain ⟨σ', q1, q2, q3⟩ := grown_core (hR.drop h) (e := e) (n := len + m) (f := catF len (fun j => f (lo + j)) g) (w.drawn + 1) p1 hnc p2
    rw [hlen'] at q2
    exact ⟨_, σ', _, hrun, q1, q2, q3⟩
end Go.Vg
