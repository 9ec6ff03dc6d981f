/- Own text: part VgJ. -/
import Derived.Test.YtjphhddbkjdbnaaVgI
namespace Go.Vg
set_option linter.unusedVariables false
set_option linter.unusedSimpArgs false
open Go.RowKit

/-- Another thing at a handle. -/
def St.setObj (st : St) (h : Nat) (o : Option SO) : St := ⟨st.env, st.ctx.set h o⟩
def St.addObj (st : St) (o : SO) : St := ⟨st.env, st.ctx ++ [some o]⟩

/-- Elements of a row behind those of another. -/
def catF (n : Nat) (f g : Nat → List SV) : Nat → List SV := fun j => if j < n then f j else g (j - n)

def litEl (l : List SV) (sz : Nat) : Nat → List SV := fun j => (l.drop (j * sz)).take sz

def fillP (sz : Nat) (cs : List SV) : List (Nat × SV) → Option (List SV)
  | [] => some cs
  | (i, x) :: r => if (cellsOf x).length = sz ∧ i * sz + sz ≤ cs.length then fillP sz (cs.take (i * sz) ++ (cellsOf x ++ cs.drop (i * sz + sz))) r else none

def repl (z : List SV) : Nat → List SV
  | 0 => []
  | n + 1 => z ++ repl z n

/-- The source of an append: how many elements, and which. -/
def xsrc (st : St) (sz : Nat) (u8 : Bool) (dh : Nat) (x : SV) (K : Nat → (Nat → List SV) → Prop) : Prop :=
  match x with
  | .nils => K 0 (fun _ => [])
  | .s l => u8 = true ∧ sz = 1 ∧ K l.length (fun j => [.i .u8 (l.getD j 0).toNat])
  | .slc h lo m => match st.ctx.at h with
    | some (.row ro sz' n f) => sz' = sz ∧ h ≠ dh ∧ (∀ j, j < m → (f (lo + j)).all okLeaf = true ∧ (f (lo + j)).length = sz) ∧ Chk (lo + m ≤ n) (K m (fun j => f (lo + j)))
    | _ => False
  | .fs sz' l => sz' = sz ∧ (∀ x ∈ l, x.all okLeaf = true) ∧ K l.length (fun j => l.getD j [])
  | _ => False

def xappend (te : TE) (st : St) (t : TypeId) (s x : SV) (K : SV → St → Prop) : Prop :=
  match tdOf te t with
  | .slice e => match te e with
    | some ti => ti.zero.length = ti.size ∧ ti.bytes ≠ 0 ∧ (match s with
      | .nils => xsrc st ti.size (isU8T te e) st.ctx.length x fun m g => Chk (m * ti.bytes ≤ 140737488355328) (K (.slc st.ctx.length 0 m) (st.addObj (.row false ti.size m g)))
      | .slc h lo len => match st.ctx.at h with
        | some (.row false sz' n f) => sz' = ti.size ∧ xsrc st ti.size (isU8T te e) h x fun m g => Chk (lo + len ≤ n ∧ (len + m) * ti.bytes ≤ 140737488355328)
            (K (.slc st.ctx.length 0 (len + m)) ((st.setObj h none).addObj (.row false ti.size (len + m) (catF len (fun j => f (lo + j)) g))))
        | _ => False
      | _ => False)
    | none => False
  | _ => False

def xmem (te : TE) (st : St) (o : Op) (K : SV → St → Prop) : Prop :=
  match o with
  | .alloc t => match te t with
    | some ti => K (.ptr st.ctx.length 0 0) (st.addObj (.blk false ti.zero))
    | none => False
  | .box t x => okCell (st.ev x) = true ∧ K (.ptr st.ctx.length 0 0) (st.addObj (.blk false (cellsOf (st.ev x))))
  | .store t x y => match st.ev x with
    | .ptr h i k => match st.ctx.at h, te t with
      | some ob, some ti => ob.isMap = false ∧ ob.ro = false ∧ okCell (st.ev y) = true ∧ (cellsOf (st.ev y)).length = ti.size ∧ (cellsOf (st.ev y)).all okLeaf = true ∧
          (ob.el i).length = ob.sz ∧ k + ti.size ≤ ob.sz ∧ Chk (i < ob.n) (K .u (st.setObj h (some (ob.put i k (cellsOf (st.ev y))))))
      | _, _ => False
    | _ => False
  | .makeMap t r => (match r with | none => True | some x => match st.ev x with | .i _ _ => True | _ => False) ∧ match tdOf te t with
    | .map kt vt => match tdOf te kt with
      | .str => K (.mp st.ctx.length) (st.addObj (.mapS []))
      | .int .i64 => K (.mp st.ctx.length) (st.addObj (.mapI []))
      | _ => False
    | _ => False
  | .mapUpdate t m k x => match st.ev m, st.ev k, st.ev x, tdOf te t with
    | .mp h, .s s, .i .i64 v, .map kt vt => match st.ctx.at h with
      | some (.mapS l) => tdOf te kt = .str ∧ K .u (st.setObj h (some (.mapS (updS l s v))))
      | _ => False
    | .mp h, .i .i64 s, .i .i64 v, .map kt vt => match st.ctx.at h with
      | some (.mapI l) => tdOf te kt = .int .i64 ∧ K .u (st.setObj h (some (.mapI (updS l s v))))
      | _ => False
    | _, _, _, _ => False
  | .insert t m k x => match st.ev m, st.ev k, st.ev x, tdOf te t with
    | .mp h, .s s, .i .i64 v, .map kt vt => match st.ctx.at h with
      | some (.mapS l) => tdOf te kt = .str ∧ K .u (st.setObj h (some (.mapS (updS l s v))))
      | _ => False
    | .mp h, .i .i64 s, .i .i64 v, .map kt vt => match st.ctx.at h with
      | some (.mapI l) => tdOf te kt = .int .i64 ∧ K .u (st.setObj h (some (.mapI (updS l s v))))
      | _ => False
    | _, _, _, _ => False
  | .buildSlice t len parts => match tdOf te t with
    | .slice e => match te e with
      | some ti => ti.zero.length = ti.size ∧ len * ti.size ≤ 16777216 ∧ (parts.toList.all fun p => okCell (st.ev p.2)) = true ∧
          match fillP ti.size (repl ti.zero len) (parts.toList.map fun p => (p.1, st.ev p.2)) with
          | some l => K (.slc st.ctx.length 0 len) (st.addObj (.row false ti.size len (litEl l ti.size)))
          | none => False
      | none => False
    | _ => False
  | .makeSlice t l c => match tdOf te t, st.ev l, st.ev c with
    | .slice e, .i .i64 n, .i .i64 m => match te e with
      | some ti => ti.zero.length = ti.size ∧ Chk (0 ≤ n ∧ n ≤ m ∧ m * ti.bytes ≤ 281474976710656 ∧ m ≤ 281474976710656)
          (K (.slc st.ctx.length 0 n.toNat) (st.addObj (.row false ti.size n.toNat (fun _ => ti.zero))))
      | none => False
    | _, _, _ => False
  | .convert s d x => s = d ∧ match st.ev x, tdOf te s with
    | .slc h lo len, .slice e => isU8T te e = true ∧ 0 < len ∧ (match st.ctx.at h with
      | some (.row false _ _ _) => True
      | _ => False) ∧ K (.slc h lo len) st
    | _, _ => False
  | .call { callee := .builtin .append, args := args, argTypes := ts } => match args.toList, ts.toList with
    | [s, x], [t, xt] => (match tdOf te xt with | .slice _ => True | .str => True | _ => False) ∧ xappend te st t (st.ev s) (st.ev x) K
    | _, _ => False
  | _ => False

/-- A draw turns nothing that is told of the world. -/
theorem Rel.drawn {A : Amb} {σ : Asg} {st : St} {a : Act} {w : World} (hR : Rel A σ st a w) (n : Nat) : Rel A σ st a { w with drawn := n } := by
  refine ⟨hR.defers, hR.size, hR.env, ⟨fun h o e => ?_, hR.sat.apart, hR.sat.beyond, hR.sat.inHeap, hR.sat.frz, hR.sat.frzA⟩, ⟨hR.fr.os, hR.fr.tape, hR.fr.output, hR.fr.size, hR.fr.block⟩, hR.own, hR.base, hR.klen⟩
  exact objSat_same (w := w) (leA.refl σ) rfl (fun _ _ => rfl) (hR.sat.obj h o e)

theorem heap_setB {w : World} {b : Nat} {o : Obj} (x : Nat) : (w.heap.setIfInBounds b o)[x]? = if x = b then (if b < w.heap.size then some o else none) else w.heap[x]? := by
  rw [Array.getElem?_setIfInBounds]
  by_cases h : b = x
  · subst h; simp
  · rw [if_neg h, if_neg (Ne.symm h)]

/-- One block written: the object at 'h' is another; all others stand. -/
theorem Rel.write {A : Amb} {σ : Asg} {st : St} {a : Act} {w : World} (hR : Rel A σ st a w) {h : Nat} {o o' : SO} {L : Loc} (ho : st.ctx.at h = some o) (hro : o.ro = false) (hro' : o'.ro = false) (hL : σ h = some L) (ob : Obj)
    (hnew : objSat σ { w with heap := w.heap.setIfInBounds L.b ob } h o') : Rel A σ (st.setObj h (some o')) a { w with heap := w.heap.setIfInBounds L.b ob } := by
  have hlt := at_lt ho
  refine ⟨hR.defers, hR.size, hR.env, ⟨fun h1 o1 e => ?_, fun h1 h2 o1 o2 L1 L2 hne e1 e2 r s1 s2 => ?_, fun h1 hh => ?_, fun h1 M e => ?_, fun b1 o1 e => ?_, fun h1 o1 M e r s => ?_⟩, ?_, fun h1 o1 M e r s => ?_, hR.base, ?_⟩
  · simp only [St.setObj] at e
    rw [at_set _ _ _ _ hlt] at e
    split at e
    · rename_i hh
      cases e
      rw [hh]; exact hnew
    · rename_i hh
      refine objSat_same (leA.refl σ) rfl (fun M hM => ?_) (hR.sat.obj h1 o1 e)
      have := hR.sat.apart h h1 o o1 L M (Ne.symm hh) ho e hro hL hM
      simp only [heap_setB, if_neg (Ne.symm this)]
  · simp only [St.setObj] at e1 e2
    rw [at_set _ _ _ _ hlt] at e1 e2
    split at e1
    · rename_i hh
      subst hh
      split at e2
      · rename_i h3; exact absurd h3.symm hne
      · exact hR.sat.apart _ _ o o2 L1 L2 hne ho e2 hro s1 s2
    · split at e2
      · rename_i hh
        subst hh
        exact hR.sat.apart _ _ o1 o L1 L2 hne e1 ho r s1 s2
      · exact hR.sat.apart _ _ o1 o2 L1 L2 hne e1 e2 r s1 s2
  · simp only [St.setObj, List.length_set] at hh
    exact hR.sat.beyond h1 hh
  · simpa using hR.sat.inHeap h1 M e
  · have hne : b1 ≠ L.b := fun hh => by rw [hh, hR.sat.frzA h o L ho hro hL] at e; cases e
    simp only [heap_setB, if_neg hne]
    exact hR.sat.frz b1 o1 e
  · simp only [St.setObj] at e
    rw [at_set _ _ _ _ hlt] at e
    split at e
    · rename_i hh
      subst hh
      exact hR.sat.frzA _ o M ho hro s
    · exact hR.sat.frzA h1 o1 M e r s
  · refine ⟨hR.fr.os, hR.fr.tape, hR.fr.output, by simpa using hR.fr.size, fun b hb hd => ?_⟩
    simp only [heap_setB]
    rw [if_neg]
    · exact hR.fr.block b hb hd
    · intro e
      subst e
      rcases hR.own h o L ho hro hL with h1 | h1
      · exact hd h1
      · omega
  · simp only [St.setObj] at e
    rw [at_set _ _ _ _ hlt] at e
    split at e
    · rename_i hh
      subst hh
      exact hR.own _ o M ho hro s
    · exact hR.own h1 o1 M e r s
  · simpa [St.setObj] using hR.klen

theorem SO.put_facts {o : SO} {i k : Nat} {cs : List SV} (hm : o.isMap = false) : (o.put i k cs).isMap = false ∧ (o.put i k cs).ro = o.ro ∧ (o.put i k cs).n = o.n ∧
    ((o.el i).length = o.sz → k + cs.length ≤ o.sz → (o.put i k cs).sz = o.sz ∧ ∀ j x, j < o.n → i < o.n → ((o.put i k cs).el j).getD x .u = if j = i ∧ k ≤ x ∧ x < k + cs.length then cs.getD (x - k) .u else (o.el j).getD x .u) := by
  cases o with
  | row ro sz n f =>
    refine ⟨rfl, rfl, rfl, fun h1 h2 => ⟨rfl, fun j x hj hi => ?_⟩⟩
    simp only [SO.put, SO.el] at *
    by_cases hji : j = i
    · subst hji
      simp only [if_true, true_and]
      rw [spl_get (by simp only [SO.sz] at h1 h2; omega)]
    · rw [if_neg hji, if_neg (fun h => hji h.1)]
  | blk ro l =>
    refine ⟨rfl, rfl, rfl, fun h1 h2 => ?_⟩
    simp only [SO.put, SO.el, SO.sz] at *
    refine ⟨spl_length h2, fun j x hj hi => ?_⟩
    have : j = i := by simp only [SO.n] at hj hi; omega
    rw [spl_get h2]
    simp [this]
  | mapS l => cases hm
  | mapI l => cases hm

theorem store_sound {P : Program} {te : TE} (hte : teOk P te) {A : Amb} {σ : Asg} {st : St} {a : Act} {w : World} (hR : Rel A σ st a w) {t : TypeId} {ti : TI} (hti : te t = some ti) {h i k : Nat} {ob : SO} (hob : st.ctx.at h = some ob)
    (hm : ob.isMap = false) (hro : ob.ro = false) (hi : i < ob.n) {x : SV} (hok : okCell x = true) (hlen : (cellsOf x).length = ti.size) (hall : (cellsOf x).all okLeaf = true) (hel : (ob.el i).length = ob.sz) (hk : k + ti.size ≤ ob.sz)
    {v u : Value} (hv : rel σ (.ptr h i k) v) (hu : rel σ x u) : ∃ w', (Instr.storeAt t v u).run P w = .ok () w' ∧ Rel A σ (st.setObj h (some (ob.put i k (cellsOf x)))) a w' := by
  rcases live_cells hR.sat hob hm with ⟨h0, _⟩ | ⟨L, c, e, fr, hL, hc⟩
  · omega
  simp only [rel] at hv
  obtain ⟨L', hL', rfl⟩ := hv
  rw [hL] at hL'
  cases hL'
  have hcu := cellsOf_rel hok hu
  have hlu := relL_length hcu
  simp only [Array.length_toList] at hlu
  have hfree := hc.free hro
  have hin : L.sh + i * L.sz + k + u.cells.size ≤ c.size := by
    have h1 := hc.room
    have h2 := hc.fits
    have h3 : i * ob.sz + ob.sz ≤ ob.n * ob.sz := by
      rw [← Nat.succ_mul]; exact Nat.mul_le_mul_right _ hi
    rw [hc.lsz]
    omega
  refine ⟨{ w with heap := w.heap.setIfInBounds L.b (.cells (setAll c (L.sh + i * L.sz + k) u.cells.toList) e fr) }, ?_, ?_⟩
  · simp only [Instr.storeAt, Instr.sureAddr, Sem.run_bind, Sem.run_pure, Result.andThen_ok, storeVar, run_size hte hti]
    rw [if_neg (by omega)]
    have := run_storeCells (P := P) (off := L.sh + i * L.sz + k) u.cells.toList 0 w c hc.heap (fun y hy => by
      obtain ⟨j, hj⟩ := List.mem_iff_getElem?.1 hy
      have hjl : j < (cellsOf x).length := by
        rcases Nat.lt_or_ge j u.cells.toList.length with h | h
        · simp at h; omega
        · rw [List.getElem?_eq_none h] at hj; cases hj
      obtain ⟨y', h1, h2⟩ := relL_get hcu (list_getD_of hjl)
      rw [hj] at h1
      cases h1
      exact okLeaf_one (List.all_eq_true.1 hall _ (List.mem_of_getElem? (list_getD_of hjl))) h2) (by simpa using hin) (fun y hy h => by rcases hfree with h | h <;> omega)
    simpa [addrOf] using this
  · obtain ⟨p1, p2, p3, p4⟩ := SO.put_facts (o := ob) (i := i) (k := k) (cs := cellsOf x) hm
    obtain ⟨p5, p6⟩ := p4 hel (by omega)
    refine hR.write hob hro (p2.trans hro) hL _ ?_
    unfold objSat
    rw [p1]
    refine .inr ⟨L, setAll c (L.sh + i * L.sz + k) u.cells.toList, e, fr, hL, ⟨?_, ?_, ?_, ?_, fun j y hj hy => ?_, fun _ => ?_⟩⟩
    · have hb := hR.sat.inHeap h L hL
      simp only [heap_setB, if_true, if_pos hb]
    · rw [p5]; exact hc.lsz
    · rw [setAll_size]; exact hc.room
    · rw [p3, p5]; exact hc.fits
    · rw [p3] at hj
      rw [p5] at hy ⊢
      rw [p6 j y hj hi]
      obtain ⟨v0, g1, g2⟩ := hc.cell j y hj hy
      rw [setAll_get _ _ _ _ (by simpa using hin)]
      simp only [Array.length_toList]
      by_cases hji : j = i
      · subst hji
        by_cases hrange : k ≤ y ∧ y < k + (cellsOf x).length
        · rw [if_pos (show L.sh + j * L.sz + k ≤ L.sh + j * ob.sz + y ∧ L.sh + j * ob.sz + y < L.sh + j * L.sz + k + u.cells.size by rw [hc.lsz]; omega), if_pos ⟨rfl, hrange⟩]
          obtain ⟨v1, g3, g4⟩ := relL_get hcu (list_getD_of (show y - k < (cellsOf x).length by omega))
          refine ⟨v1, ?_, g4⟩
          rw [show L.sh + j * ob.sz + y - (L.sh + j * L.sz + k) = y - k by rw [hc.lsz]; omega]
          exact g3
        · rw [if_neg (show ¬ (L.sh + j * L.sz + k ≤ L.sh + j * ob.sz + y ∧ L.sh + j * ob.sz + y < L.sh + j * L.sz + k + u.cells.size) by rw [hc.lsz]; omega), if_neg (fun h => hrange h.2)]
          exact ⟨v0, g1, g2⟩
      · rw [if_neg (show ¬ (j = i ∧ k ≤ y ∧ y < k + (cellsOf x).length) from fun h => hji h.1), if_neg]
        · exact ⟨v0, g1, g2⟩
        · rw [hc.lsz]
          intro hh
          rcases Nat.lt_or_gt_of_ne hji with h1 | h1
          · have : j * ob.sz + ob.sz ≤ i * ob.sz := by rw [← Nat.succ_mul]; exact Nat.mul_le_mul_right _ h1
            omega
          · have : i * ob.sz + ob.sz ≤ j * ob.sz := by rw [← Nat.succ_mul]; exact Nat.mul_le_mul_right _ h1
            omega
    · rw [setAll_size]; exact hfree
end Go.Vg
