/- Own text: part VgH. -/
import Derived.Test.YtjphhddbkjdbnaaVgG
import Derived.Laws.BytesString
import Derived.MapKept
namespace Go.Vg
set_option linter.unusedVariables false
set_option linter.unusedSimpArgs false
open Go.RowKit Go.MapKept

theorem push_foldl (ns : List Int) : ∀ (s : ByteArray), (ns.foldl (fun r n => r.push (UInt8.ofNat n.toNat)) s) = ⟨(s.data.toList ++ ns.map fun n => UInt8.ofNat n.toNat).toArray⟩ := by
  induction ns with
  | nil => intro s; simp
  | cons n ns ih =>
    intro s
    simp only [List.foldl_cons, ih]
    simp

theorem isU8_sp {x : SV} (h : isU8 x = true) : ∃ n, x = .i .u8 n := by
  unfold isU8 at h
  split at h
  · exact ⟨_, rfl⟩
  · cases h

theorem isU8T_sp {te : TE} {t : TypeId} (h : isU8T te t = true) : tdOf te t = .int .u8 := by
  unfold isU8T at h
  split at h
  · assumption
  · cases h

theorem bytes_list {σ : Asg} {w : World} {L : Loc} {ro : Bool} {n : Nat} {f : Nat → List SV} {c : Array Value} {e : TypeId} {fr : Nat × Nat} (h : cellsAt σ w L (.row ro 1 n f) c e fr) (lo : Nat) :
    ∀ (len : Nat), lo + len ≤ n → (∀ j, j < len → isU8 ((f (lo + j)).getD 0 .u) = true) →
    ∃ ns : List Int, ns.length = len ∧ (∀ (j : Nat) (x : Int), ns[j]? = some x → c[L.sh + lo + j]? = some (.int .u8 x)) ∧ ns.map (fun n => UInt8.ofNat n.toNat) = rowBytes f lo len := by
  intro len
  induction len with
  | zero => intro _ _; exact ⟨[], rfl, by simp, rfl⟩
  | succ len ih =>
    intro hl hu
    obtain ⟨ns, h1, h2, h3⟩ := ih (by omega) (fun j hj => hu j (by omega))
    obtain ⟨v, h4, h5⟩ := h.cell (lo + len) 0 (by simp only [SO.n]; omega) (by simp [SO.sz])
    obtain ⟨x, hx⟩ := isU8_sp (hu len (by omega))
    simp only [SO.el, SO.sz, Nat.mul_one, Nat.add_zero] at h4 h5
    rw [hx] at h5
    simp only [rel] at h5
    subst h5
    refine ⟨ns ++ [x], by simp [h1], fun j y hj => ?_, ?_⟩
    · rw [List.getElem?_append] at hj
      split at hj
      · exact h2 j y hj
      · have h0 : j - ns.length = 0 := by
          rcases Nat.eq_zero_or_pos (j - ns.length) with h0 | h0
          · exact h0
          · rw [List.getElem?_eq_none (by simp; omega)] at hj; cases hj
        rw [h0] at hj
        simp at hj
        subst hj
        have hjn : j = len := by omega
        subst hjn
        rw [Nat.add_assoc]; exact h4
    · rw [List.map_append, h3]
      simp only [List.getD_eq_getElem?_getD] at hx
      simp [rowBytes, List.range_succ, hx]

theorem conv_sound {P : Program} {te : TE} (hte : teOk P te) {A : Amb} {σ : Asg} {st : St} {a : Act} {w : World} (hR : Rel A σ st a w) {s d e : TypeId} (hs : tdOf te s = .slice e) (hd : tdOf te d = .str) (he : isU8T te e = true)
    {h lo len n : Nat} {ro : Bool} {f : Nat → List SV} (hob : st.ctx.at h = some (.row ro 1 n f)) (hu : ∀ j, j < len → isU8 ((f (lo + j)).getD 0 .u) = true) (hn : lo + len ≤ n) {v : Value} (hv : rel σ (.slc h lo len) v) :
    ∀ w', (∀ L, σ h = some L → w'.heap[L.b]? = w.heap[L.b]?) → (convert s d v).run P w' = .ok (.string ⟨(rowBytes f lo len).toArray⟩) w' := by
  intro w' hw
  simp only [rel] at hv
  obtain ⟨ad, cap, rfl, hl, hv⟩ := hv
  rw [run_convert_bytes_string w' s d e ad len cap (und_slice hte hs) (und_int hte (isU8T_sp he)) (und_str hte hd)]
  rcases hv with hv | ⟨L, hL, rfl, hav⟩
  · have h0 : len = 0 := by omega
    subst h0
    cases ad with
    | none => simp [Conv.bytesToString, rowBytes]; rfl
    | some ad =>
      rw [run_bytesToString w' ad 0 cap [] (by simp [loadCells, loadCellsFrom])]
      simp [rowBytes]; rfl
  · rcases live_cells hR.sat hob rfl with ⟨_, h1⟩ | ⟨L', c, e', fr, hL', hc⟩
    · rw [h1] at hL; cases hL
    rw [hL'] at hL
    cases hL
    obtain ⟨ns, h1, h2, h3⟩ := bytes_list hc lo len hn hu
    have hh : w'.heap[L.b]? = some (.cells c e' fr) := (hw L hL').trans hc.heap
    have hsz : L.sz = 1 := hc.lsz
    have h5 := run_loadCells (P := P) (off := L.sh + lo * L.sz + 0) hh (ns.map (Value.int .u8)) (fun j x hj => by
      simp only [List.getElem?_map, Option.map_eq_some_iff] at hj
      obtain ⟨y, hy, rfl⟩ := hj
      rw [hsz]
      simpa using h2 j y hy)
    simp only [List.length_map, h1] at h5
    rw [show addrOf L lo 0 = ⟨L.b, L.sh + lo * L.sz + 0, none⟩ from rfl, run_bytesToString w' _ len cap ns h5, push_foldl, h3]
    simp


theorem fsBytes_list {σ : Asg} : ∀ {l : List (List SV)} {vs : List Value}, relR σ 1 l vs → (∀ x ∈ l, isU8 (x.getD 0 .u) = true) →
    ∃ ns : List Int, ns.length = l.length ∧ (∀ (j : Nat) (x : Int), ns[j]? = some x → vs[j]? = some (.int .u8 x)) ∧ ns.map (fun n => UInt8.ofNat n.toNat) = fsBytes l
  | [], _, _, _ => ⟨[], rfl, by simp, rfl⟩
  | y :: ys, vs, h, hu => by
    simp only [relR] at h
    obtain ⟨h0, h1, h2⟩ := h
    obtain ⟨ns, g1, g2, g3⟩ := fsBytes_list h2 fun x hx => hu x (List.mem_cons_of_mem _ hx)
    obtain ⟨n, hn⟩ := isU8_sp (hu y (by simp))
    obtain ⟨v, e1, e2⟩ := relL_get h1 (j := 0) (x := y.getD 0 .u) (list_getD_of (by omega))
    rw [hn] at e2
    simp only [rel] at e2
    subst e2
    refine ⟨n :: ns, by simp [g1], fun j x hj => ?_, ?_⟩
    · cases j with
      | zero =>
        simp at hj; subst hj
        rw [List.getElem?_take] at e1
        simpa using e1
      | succ j =>
        simp at hj
        have := g2 j x hj
        rw [List.getElem?_drop, Nat.add_comm] at this
        exact this
    · simp only [List.getD_eq_getElem?_getD] at hn
      simp [fsBytes, g3, hn]

theorem fconv_sound {P : Program} {te : TE} (hte : teOk P te) {σ : Asg} {s d e : TypeId} (hs : tdOf te s = .slice e) (hd : tdOf te d = .str) (he : isU8T te e = true)
    {l : List (List SV)} (hu : ∀ x ∈ l, isU8 (x.getD 0 .u) = true) {v : Value} (hv : rel σ (.fs 1 l) v) :
    ∀ w', (∀ b o, σ.fz b = some o → w'.heap[b]? = some o) → (convert s d v).run P w' = .ok (.string ⟨(fsBytes l).toArray⟩) w' := by
  intro w' hw
  simp only [rel] at hv
  obtain ⟨ad, cap, rfl, hl, hv⟩ := hv
  rw [run_convert_bytes_string w' s d e ad l.length cap (und_slice hte hs) (und_int hte (isU8T_sp he)) (und_str hte hd)]
  rcases hv with hv | ⟨b, off, c, e', fr, rfl, hfz, hrr⟩
  · subst hv
    cases ad with
    | none => simp [Conv.bytesToString, fsBytes]; rfl
    | some ad =>
      simp only [List.length_nil]
      rw [run_bytesToString w' ad 0 cap [] (by simp [loadCells, loadCellsFrom])]
      simp [fsBytes]; rfl
  · obtain ⟨ns, h1, h2, h3⟩ := fsBytes_list hrr hu
    have h5 := run_loadCells (P := P) (off := off) (hw _ _ hfz) (ns.map (Value.int .u8)) (fun j x hj => by
      simp only [List.getElem?_map, Option.map_eq_some_iff] at hj
      obtain ⟨y, hy, rfl⟩ := hj
      have := h2 j y hy
      rw [List.getElem?_drop] at this
      simpa using this)
    simp only [List.length_map, h1] at h5
    rw [run_bytesToString w' _ l.length cap ns h5, push_foldl, h3]
    simp

/-- Keys of a kind: how they stand in memory, and when two are the same. -/
structure KeyK (α : Type) [DecidableEq α] where
  d : TypeDesc
  v : α → Value
  s : α → SV
  same : ∀ a b, Instr.sameNow d (v a) (v b) = some (decide (a = b))
  isKey : ∀ a, IsKey d (v a)
  rel_iff : ∀ σ a x, rel σ (s a) x ↔ x = v a
  stays : ∀ a, Instr.sameBits 10000 (v a) (v a) = true

def keyS : KeyK (List UInt8) where
  d := .string
  v := fun l => .string ⟨l.toArray⟩
  s := fun l => .s l
  same := fun a b => by simp only [Instr.sameNow, beq_toListBytes, ba_toList, beq_dec]
  isKey := fun a => by simp [IsKey]
  rel_iff := fun σ a x => by simp [rel]
  stays := fun a => by simp only [Instr.sameBits, beq_toListBytes, ba_toList]; simp

def keyI : KeyK Int where
  d := .int .i64
  v := fun n => .int .i64 n
  s := fun n => .i .i64 n
  same := fun a b => by simp [Instr.sameNow, beq_dec]
  isKey := fun a => by simp [IsKey]
  rel_iff := fun σ a x => by simp [rel]
  stays := fun a => by simp [Instr.sameBits]

theorem find_ents {α : Type} [DecidableEq α] (kk : KeyK α) (σ : Asg) (k : α) (x : Int) : ∀ (l : List (α × Int)) (es : List MapEntry) (i : Nat), entsRel σ (l.map fun p => (kk.s p.1, .i .i64 p.2)) es →
    (lookS l k = none ∧ Instr.findNow kk.d (kk.v k) es i = some none ∧ updS l k x = l ++ [(k, x)]) ∨
    ∃ j e y, lookS l k = some y ∧ Instr.findNow kk.d (kk.v k) es i = some (some (i + j, .int .i64 y)) ∧ es[j]? = some e ∧ e.key = kk.v k ∧
      entsRel σ ((updS l k x).map fun p => (kk.s p.1, .i .i64 p.2)) (es.modify j fun e => { e with key := kk.v k, val := .int .i64 x })
  | [], es, i, h => by
    simp only [List.map_nil, entsRel] at h
    subst h
    exact .inl ⟨rfl, rfl, rfl⟩
  | (p, n) :: l, es, i, h => by
    simp only [List.map_cons, entsRel] at h
    obtain ⟨e, r, rfl, h1, h2, h3⟩ := h
    rw [kk.rel_iff] at h1
    simp only [rel] at h2
    by_cases hp : p = k
    · subst hp
      refine .inr ⟨0, e, n, by simp [lookS], ?_, rfl, h1, ?_⟩
      · simp [Instr.findNow, h1, kk.same, h2]
      · simp only [updS, if_true, List.map_cons, List.modify_zero_cons, entsRel]
        exact ⟨_, _, rfl, by rw [kk.rel_iff], by simp [rel], h3⟩
    · have hne : ¬ k = p := fun q => hp q.symm
      rcases find_ents kk σ k x l r (i + 1) h3 with ⟨g1, g2, g3⟩ | ⟨j, e', y, g1, g2, g3, g4, g5⟩
      · exact .inl ⟨by simp [lookS, hp, g1], by simp [Instr.findNow, h1, kk.same, hne, g2], by simp [updS, hp, g3]⟩
      · refine .inr ⟨j + 1, e', y, by simp [lookS, hp, g1], ?_, by simpa using g3, g4, ?_⟩
        · simp [Instr.findNow, h1, kk.same, hne, g2]; omega
        · simp only [updS, if_neg hp, List.map_cons, List.modify_succ_cons, entsRel]
          exact ⟨_, _, rfl, by rw [kk.rel_iff]; exact h1, by simp only [rel]; exact h2, g5⟩

theorem entsRel_app {σ : Asg} : ∀ {ps qs : List (SV × SV)} {es fs : List MapEntry}, entsRel σ ps es → entsRel σ qs fs → entsRel σ (ps ++ qs) (es ++ fs)
  | [], qs, es, fs, h, k => by simp only [entsRel] at h; subst h; simpa using k
  | p :: ps, qs, es, fs, h, k => by
    simp only [entsRel] at h
    obtain ⟨e, r, rfl, h1, h2, h3⟩ := h
    simp only [List.cons_append, entsRel]
    exact ⟨e, r ++ fs, rfl, h1, h2, entsRel_app h3 k⟩

theorem look_sound {P : Program} {te : TE} (hte : teOk P te) {α : Type} [DecidableEq α] (kk : KeyK α) {σ : Asg} {w : World} {t kt vt : TypeId} (ht : tdOf te t = .map kt vt) (hkt : P.underlying kt = some kk.d)
    (hvt : te vt = some ⟨.int .i64, 1, 8, [.i .i64 0], false⟩) {L : Loc} {es : Array MapEntry} {ck : Nat} (hh : w.heap[L.b]? = some (.map es ck)) {l : List (α × Int)}
    (he : entsRel σ (l.map fun p => (kk.s p.1, .i .i64 p.2)) es.toList) (k : α) (ok : Bool) :
    (Instr.lookup t (.map (some L.b)) (kk.v k) ok).run P w = .ok (if ok then .tuple #[.int .i64 ((lookS l k).getD 0), .bool (lookS l k).isSome] else .int .i64 ((lookS l k).getD 0)) w := by
  obtain ⟨i, hi, _, _, z, hz, hrz, hone⟩ := (hte vt _ hvt).info
  have hz0 : z = .int .i64 0 := by
    have h1 := hone rfl
    cases z <;> simp only [Value.oneCell', Bool.false_eq_true] at h1 <;> (simp only [Value.cells, relL, rel] at hrz; simp_all)
  have hzero : (zeroValue vt).run P w = .ok (.int .i64 0) w := by simp [zeroValue, run_info hi, hz, hz0]
  unfold Instr.lookup
  simp only [Sem.run_bind, run_und (und_map hte ht), Result.andThen_ok, Go.MapKept.run_getObj_map hh, Sem.run_pure]
  rw [show (10000 : Nat) = 9999 + 1 from rfl, run_checkKey hkt (kk.isKey k)]
  simp only [Result.andThen_ok]
  rcases find_ents kk σ k 0 l es.toList 0 he with ⟨g1, g2, _⟩ | ⟨j, e, y, g1, g2, _⟩
  · rw [run_findKey hkt g2]
    simp [hzero, g1]
  · rw [run_findKey hkt g2]
    simp [g1]
end Go.Vg
