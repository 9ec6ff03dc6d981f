/- Own text: part BaseB. -/
import Derived.Test.YtjphhddbkjdbnaaDoorBaseA
section
set_option linter.unusedVariables false
set_option linter.unusedSimpArgs false
namespace Go.Vg
set_option linter.unusedSectionVars false
variable [Go.Vg.Glob]
set_option linter.unusedVariables false
set_option linter.unusedSimpArgs false
open Go.RowKit

/-- Another thing at a handle. -/
def St.setObj (st : St) (h : Nat) (o : Option SO) : St := ⟨st.env, st.ctx.set h o⟩
def St.addObj (st : St) (o : SO) : St := ⟨st.env, st.ctx ++ [some o]⟩

/-- Elements of a row behind those of another. -/
def catF (n : Nat) (f g : Nat → List SV) : Nat → List SV := fun j => if j < n then f j else g (j - n)

def litEl (l : List SV) (sz : Nat) : Nat → List SV := fun j => (l.drop (j * sz)).take sz

def fillP (sz : Nat) (cs : List SV) : List (Nat × SV) → Option (List SV)
  | [] => some cs
  | (i, x) :: r => if (cellsOf x).length = sz ∧ i * sz + sz ≤ cs.length then fillP sz (cs.take (i * sz) ++ (cellsOf x ++ cs.drop (i * sz + sz))) r else none

def repl (z : List SV) : Nat → List SV
  | 0 => []
  | n + 1 => z ++ repl z n

/-- The source of an append: how many elements, and which. -/
def xsrc (st : St) (sz : Nat) (u8 : Bool) (dh : Nat) (x : SV) (K : Nat → (Nat → List SV) → Prop) : Prop :=
  match x with
  | .nils => K 0 (fun _ => [])
  | .s l => u8 = true ∧ sz = 1 ∧ K l.length (fun j => [.i .u8 (l.getD j 0).toNat])
  | .slc h lo m => match st.ctx.at h with
    | some (.row ro sz' n f) => sz' = sz ∧ h ≠ dh ∧ (∀ j, j < m → (f (lo + j)).all okLeaf = true ∧ (f (lo + j)).length = sz) ∧ Chk (lo + m ≤ n) (K m (fun j => f (lo + j)))
    | _ => False
  | .fs sz' l => sz' = sz ∧ (∀ x ∈ l, x.all okLeaf = true) ∧ K l.length (fun j => l.getD j [])
  | _ => False

def xappend (te : TE) (st : St) (t : TypeId) (s x : SV) (K : SV → St → Prop) : Prop :=
  match tdOf te t with
  | .slice e => match te e with
    | some ti => ti.zero.length = ti.size ∧ ti.bytes ≠ 0 ∧ (match s with
      | .nils => xsrc st ti.size (isU8T te e) st.ctx.length x fun m g => Chk (m * ti.bytes ≤ 140737488355328) (K (.slc st.ctx.length 0 m) (st.addObj (.row false ti.size m g)))
      | .slc h lo len => match st.ctx.at h with
        | some (.row false sz' n f) => sz' = ti.size ∧ xsrc st ti.size (isU8T te e) h x fun m g => Chk (lo + len ≤ n ∧ (len + m) * ti.bytes ≤ 140737488355328)
            (K (.slc st.ctx.length 0 (len + m)) ((st.setObj h none).addObj (.row false ti.size (len + m) (catF len (fun j => f (lo + j)) g))))
        | _ => False
      | _ => False)
    | none => False
  | _ => False

def xmem (te : TE) (st : St) (o : Op) (K : SV → St → Prop) : Prop :=
  match o with
  | .alloc t => match te t with
    | some ti => K (.ptr st.ctx.length 0 0) (st.addObj (.blk false ti.zero))
    | none => False
  | .box t x => okCell (st.ev x) = true ∧ K (.ptr st.ctx.length 0 0) (st.addObj (.blk false (cellsOf (st.ev x))))
  | .store t x y => match st.ev x with
    | .ptr h i k => match st.ctx.at h, te t with
      | some ob, some ti => ob.isMap = false ∧ ob.ro = false ∧ okCell (st.ev y) = true ∧ (cellsOf (st.ev y)).length = ti.size ∧ (cellsOf (st.ev y)).all okLeaf = true ∧
          (ob.el i).length = ob.sz ∧ k + ti.size ≤ ob.sz ∧ Chk (i < ob.n) (K .u (st.setObj h (some (ob.put i k (cellsOf (st.ev y))))))
      | _, _ => False
    | _ => False
  | .makeMap t r => (match r with | none => True | some x => match st.ev x with | .i _ _ => True | _ => False) ∧ match tdOf te t with
    | .map kt vt => match tdOf te kt with
      | .str => K (.mp st.ctx.length) (st.addObj (.mapS []))
      | .int .i64 => K (.mp st.ctx.length) (st.addObj (.mapI []))
      | _ => False
    | _ => False
  | .mapUpdate t m k x => match st.ev m, st.ev k, st.ev x, tdOf te t with
    | .mp h, .s s, .i .i64 v, .map kt vt => match st.ctx.at h with
      | some (.mapS l) => tdOf te kt = .str ∧ K .u (st.setObj h (some (.mapS (updS l s v))))
      | _ => False
    | .mp h, .i .i64 s, .i .i64 v, .map kt vt => match st.ctx.at h with
      | some (.mapI l) => tdOf te kt = .int .i64 ∧ K .u (st.setObj h (some (.mapI (updS l s v))))
      | _ => False
    | _, _, _, _ => False
  | .insert t m k x => match st.ev m, st.ev k, st.ev x, tdOf te t with
    | .mp h, .s s, .i .i64 v, .map kt vt => match st.ctx.at h with
      | some (.mapS l) => tdOf te kt = .str ∧ K .u (st.setObj h (some (.mapS (updS l s v))))
      | _ => False
    | .mp h, .i .i64 s, .i .i64 v, .map kt vt => match st.ctx.at h with
      | some (.mapI l) => tdOf te kt = .int .i64 ∧ K .u (st.setObj h (some (.mapI (updS l s v))))
      | _ => False
    | _, _, _, _ => False
  | .buildSlice t len parts => match tdOf te t with
    | .slice e => match te e with
      | some ti => ti.zero.length = ti.size ∧ len * ti.size ≤ 16777216 ∧ (parts.toList.all fun p => okCell (st.ev p.2)) = true ∧
          match fillP ti.size (repl ti.zero len) (parts.toList.map fun p => (p.1, st.ev p.2)) with
          | some l => K (.slc st.ctx.length 0 len) (st.addObj (.row false ti.size len (litEl l ti.size)))
          | none => False
      | none => False
    | _ => False
  | .makeSlice t l c => match tdOf te t, st.ev l, st.ev c with
    | .slice e, .i .i64 n, .i .i64 m => match te e with
      | some ti => ti.zero.length = ti.size ∧ Chk (0 ≤ n ∧ n ≤ m ∧ m * ti.bytes ≤ 281474976710656 ∧ m ≤ 281474976710656)
          (K (.slc st.ctx.length 0 n.toNat) (st.addObj (.row false ti.size n.toNat (fun _ => ti.zero))))
      | none => False
    | _, _, _ => False
  | .convert s d x => s = d ∧ match st.ev x, tdOf te s with
    | .slc h lo len, .slice e => isU8T te e = true ∧ 0 < len ∧ (match st.ctx.at h with
      | some (.row false _ _ _) => True
      | _ => False) ∧ K (.slc h lo len) st
    | _, _ => False
  | .call { callee := .builtin .append, args := args, argTypes := ts } => match args.toList, ts.toList with
    | [s, x], [t, xt] => (match tdOf te xt with | .slice _ => True | .str => True | _ => False) ∧ xappend te st t (st.ev s) (st.ev x) K
    | _, _ => False
  | _ => False

/-- A draw turns nothing that is told of the world. -/
theorem Rel.drawn {A : Amb} {σ : Asg} {st : St} {a : Act} {w : World} (hR : Rel A σ st a w) (n : Nat) : Rel A σ st a { w with drawn := n } := by
  refine ⟨hR.defers, hR.size, hR.env, ⟨fun h o e => ?_, hR.sat.apart, hR.sat.beyond, hR.sat.inHeap, hR.sat.frz, hR.sat.frzA, hR.sat.glb⟩, ⟨hR.fr.os, hR.fr.tape, hR.fr.output, hR.fr.size, hR.fr.block⟩, hR.own, hR.base, hR.klen⟩
  exact objSat_same (w := w) (leA.refl σ) rfl (fun _ _ => rfl) (hR.sat.obj h o e)

theorem heap_setB {w : World} {b : Nat} {o : Obj} (x : Nat) : (w.heap.setIfInBounds b o)[x]? = if x = b then (if b < w.heap.size then some o else none) else w.heap[x]? := by
  rw [Array.getElem?_setIfInBounds]
  by_cases h : b = x
  · subst h; simp
  · rw [if_neg h, if_neg (Ne.symm h)]

/-- One block written: the object at 'h' is another; all others stand. -/
theorem Rel.write {A : Amb} {σ : Asg} {st : St} {a : Act} {w : World} (hR : Rel A σ st a w) {h : Nat} {o o' : SO} {L : Loc} (ho : st.ctx.at h = some o) (hro : o.ro = false) (hro' : o'.ro = false) (hL : σ h = some L) (ob : Obj)
    (hnew : objSat σ { w with heap := w.heap.setIfInBounds L.b ob } h o') : Rel A σ (st.setObj h (some o')) a { w with heap := w.heap.setIfInBounds L.b ob } := by
  have hlt := at_lt ho
  refine ⟨hR.defers, hR.size, hR.env, ⟨fun h1 o1 e => ?_, fun h1 h2 o1 o2 L1 L2 hne e1 e2 r s1 s2 => ?_, fun h1 hh => ?_, fun h1 M e => ?_, fun b1 o1 e => ?_, fun h1 o1 M e r s => ?_, hR.sat.glb⟩, ?_, fun h1 o1 M e r s => ?_, hR.base, ?_⟩
  · simp only [St.setObj] at e
    rw [at_set _ _ _ _ hlt] at e
    split at e
    · rename_i hh
      cases e
      rw [hh]; exact hnew
    · rename_i hh
      refine objSat_same (leA.refl σ) rfl (fun M hM => ?_) (hR.sat.obj h1 o1 e)
      have := hR.sat.apart h h1 o o1 L M (Ne.symm hh) ho e hro hL hM
      simp only [heap_setB, if_neg (Ne.symm this)]
  · simp only [St.setObj] at e1 e2
    rw [at_set _ _ _ _ hlt] at e1 e2
    split at e1
    · rename_i hh
      subst hh
      split at e2
      · rename_i h3; exact absurd h3.symm hne
      · exact hR.sat.apart _ _ o o2 L1 L2 hne ho e2 hro s1 s2
    · split at e2
      · rename_i hh
        subst hh
        exact hR.sat.apart _ _ o1 o L1 L2 hne e1 ho r s1 s2
      · exact hR.sat.apart _ _ o1 o2 L1 L2 hne e1 e2 r s1 s2
  · simp only [St.setObj, List.length_set] at hh
    exact hR.sat.beyond h1 hh
  · simpa using hR.sat.inHeap h1 M e
  · have hne : b1 ≠ L.b := fun hh => by rw [hh, hR.sat.frzA h o L ho hro hL] at e; cases e
    simp only [heap_setB, if_neg hne]
    exact hR.sat.frz b1 o1 e
  · simp only [St.setObj] at e
    rw [at_set _ _ _ _ hlt] at e
    split at e
    · rename_i hh
      subst hh
      exact hR.sat.frzA _ o M ho hro s
    · exact hR.sat.frzA h1 o1 M e r s
  · refine ⟨hR.fr.os, hR.fr.tape, hR.fr.output, by simpa using hR.fr.size, fun b hb hd => ?_⟩
    simp only [heap_setB]
    rw [if_neg]
    · exact hR.fr.block b hb hd
    · intro e
      subst e
      rcases hR.own h o L ho hro hL with h1 | h1
      · exact hd h1
      · omega
  · simp only [St.setObj] at e
    rw [at_set _ _ _ _ hlt] at e
    split at e
    · rename_i hh
      subst hh
      exact hR.own _ o M ho hro s
    · exact hR.own h1 o1 M e r s
  · simpa [St.setObj] using hR.klen

theorem SO.put_facts {o : SO} {i k : Nat} {cs : List SV} (hm : o.isMap = false) : (o.put i k cs).isMap = false ∧ (o.put i k cs).ro = o.ro ∧ (o.put i k cs).n = o.n ∧
    ((o.el i).length = o.sz → k + cs.length ≤ o.sz → (o.put i k cs).sz = o.sz ∧ ∀ j x, j < o.n → i < o.n → ((o.put i k cs).el j).getD x .u = if j = i ∧ k ≤ x ∧ x < k + cs.length then cs.getD (x - k) .u else (o.el j).getD x .u) := by
  cases o with
  | row ro sz n f =>
    refine ⟨rfl, rfl, rfl, fun h1 h2 => ⟨rfl, fun j x hj hi => ?_⟩⟩
    simp only [SO.put, SO.el] at *
    by_cases hji : j = i
    · subst hji
      simp only [if_true, true_and]
      rw [spl_get (by simp only [SO.sz] at h1 h2; omega)]
    · rw [if_neg hji, if_neg (fun h => hji h.1)]
  | blk ro l =>
    refine ⟨rfl, rfl, rfl, fun h1 h2 => ?_⟩
    simp only [SO.put, SO.el, SO.sz] at *
    refine ⟨spl_length h2, fun j x hj hi => ?_⟩
    have : j = i := by simp only [SO.n] at hj hi; omega
    rw [spl_get h2]
    simp [this]
  | mapS l => cases hm
  | mapI l => cases hm

theorem store_sound {P : Program} {te : TE} (hte : teOk P te) {A : Amb} {σ : Asg} {st : St} {a : Act} {w : World} (hR : Rel A σ st a w) {t : TypeId} {ti : TI} (hti : te t = some ti) {h i k : Nat} {ob : SO} (hob : st.ctx.at h = some ob)
    (hm : ob.isMap = false) (hro : ob.ro = false) (hi : i < ob.n) {x : SV} (hok : okCell x = true) (hlen : (cellsOf x).length = ti.size) (hall : (cellsOf x).all okLeaf = true) (hel : (ob.el i).length = ob.sz) (hk : k + ti.size ≤ ob.sz)
    {v u : Value} (hv : rel σ (.ptr h i k) v) (hu : rel σ x u) : ∃ w', (Instr.storeAt t v u).run P w = .ok () w' ∧ Rel A σ (st.setObj h (some (ob.put i k (cellsOf x)))) a w' := by
  rcases live_cells hR.sat hob hm with ⟨h0, _⟩ | ⟨L, c, e, fr, hL, hc⟩
  · omega
  simp only [rel] at hv
  obtain ⟨L', hL', rfl⟩ := hv
  rw [hL] at hL'
  cases hL'
  have hcu := cellsOf_rel hok hu
  have hlu := relL_length hcu
  simp only [Array.length_toList] at hlu
  have hfree := hc.free hro
  have hin : L.sh + i * L.sz + k + u.cells.size ≤ c.size := by
    have h1 := hc.room
    have h2 := hc.fits
    have h3 : i * ob.sz + ob.sz ≤ ob.n * ob.sz := by
      rw [← Nat.succ_mul]; exact Nat.mul_le_mul_right _ hi
    rw [hc.lsz]
    omega
  refine ⟨{ w with heap := w.heap.setIfInBounds L.b (.cells (setAll c (L.sh + i * L.sz + k) u.cells.toList) e fr) }, ?_, ?_⟩
  · simp only [Instr.storeAt, Instr.sureAddr, Sem.run_bind, Sem.run_pure, Result.andThen_ok, storeVar, run_size hte hti]
    rw [if_neg (by omega)]
    have := run_storeCells (P := P) (off := L.sh + i * L.sz + k) u.cells.toList 0 w c hc.heap (fun y hy => by
      obtain ⟨j, hj⟩ := List.mem_iff_getElem?.1 hy
      have hjl : j < (cellsOf x).length := by
        rcases Nat.lt_or_ge j u.cells.toList.length with h | h
        · simp at h; omega
        · rw [List.getElem?_eq_none h] at hj; cases hj
      obtain ⟨y', h1, h2⟩ := relL_get hcu (list_getD_of hjl)
      rw [hj] at h1
      cases h1
      exact okLeaf_one (List.all_eq_true.1 hall _ (List.mem_of_getElem? (list_getD_of hjl))) h2) (by simpa using hin) (fun y hy h => by rcases hfree with h | h <;> omega)
    simpa [addrOf] using this
  · obtain ⟨p1, p2, p3, p4⟩ := SO.put_facts (o := ob) (i := i) (k := k) (cs := cellsOf x) hm
    obtain ⟨p5, p6⟩ := p4 hel (by omega)
    refine hR.write hob hro (p2.trans hro) hL _ ?_
    unfold objSat
    rw [p1]
    refine .inr ⟨L, setAll c (L.sh + i * L.sz + k) u.cells.toList, e, fr, hL, ⟨?_, ?_, ?_, ?_, fun j y hj hy => ?_, fun _ => ?_⟩⟩
    · have hb := hR.sat.inHeap h L hL
      simp only [heap_setB, if_true, if_pos hb]
    · rw [p5]; exact hc.lsz
    · rw [setAll_size]; exact hc.room
    · rw [p3, p5]; exact hc.fits
    · rw [p3] at hj
      rw [p5] at hy ⊢
      rw [p6 j y hj hi]
      obtain ⟨v0, g1, g2⟩ := hc.cell j y hj hy
      rw [setAll_get _ _ _ _ (by simpa using hin)]
      simp only [Array.length_toList]
      by_cases hji : j = i
      · subst hji
        by_cases hrange : k ≤ y ∧ y < k + (cellsOf x).length
        · rw [if_pos (show L.sh + j * L.sz + k ≤ L.sh + j * ob.sz + y ∧ L.sh + j * ob.sz + y < L.sh + j * L.sz + k + u.cells.size by rw [hc.lsz]; omega), if_pos ⟨rfl, hrange⟩]
          obtain ⟨v1, g3, g4⟩ := relL_get hcu (list_getD_of (show y - k < (cellsOf x).length by omega))
          refine ⟨v1, ?_, g4⟩
          rw [show L.sh + j * ob.sz + y - (L.sh + j * L.sz + k) = y - k by rw [hc.lsz]; omega]
          exact g3
        · rw [if_neg (show ¬ (L.sh + j * L.sz + k ≤ L.sh + j * ob.sz + y ∧ L.sh + j * ob.sz + y < L.sh + j * L.sz + k + u.cells.size) by rw [hc.lsz]; omega), if_neg (fun h => hrange h.2)]
          exact ⟨v0, g1, g2⟩
      · rw [if_neg (show ¬ (j = i ∧ k ≤ y ∧ y < k + (cellsOf x).length) from fun h => hji h.1), if_neg]
        · exact ⟨v0, g1, g2⟩
        · rw [hc.lsz]
          intro hh
          rcases Nat.lt_or_gt_of_ne hji with h1 | h1
          · have : j * ob.sz + ob.sz ≤ i * ob.sz := by rw [← Nat.succ_mul]; exact Nat.mul_le_mul_right _ h1
            omega
          · have : i * ob.sz + ob.sz ≤ j * ob.sz := by rw [← Nat.succ_mul]; exact Nat.mul_le_mul_right _ h1
            omega
    · rw [setAll_size]; exact hfree
end Go.Vg
end
section
set_option linter.unusedVariables false
set_option linter.unusedSimpArgs false
namespace Go.Vg
set_option linter.unusedSectionVars false
variable [Go.Vg.Glob]
set_option linter.unusedVariables false
set_option linter.unusedSimpArgs false
open Go.RowKit

theorem alloc_sound {P : Program} {te : TE} (hte : teOk P te) {A : Amb} {σ : Asg} {st : St} {a : Act} {w : World} (hR : Rel A σ st a w) {t : TypeId} {ti : TI} (hti : te t = some ti) :
    ∃ v σ' w', (Instr.alloc t true (.tuple #[])).run P w = .ok v w' ∧ leA σ σ' ∧ rel σ' (.ptr st.ctx.length 0 0) v ∧ Rel A σ' (st.addObj (.blk false ti.zero)) a w' := by
  obtain ⟨i, hi, _, _, z, hz, hrz, _⟩ := (hte t ti hti).info
  obtain ⟨σ', w', h1, h2, h3, h4⟩ := box_core (P := P) hR (t := t) (relL_mono (leA.nil σ) hrz)
  refine ⟨_, σ', w', ?_, h2, h3, h4⟩
  simp [Instr.alloc, zeroValue, run_info hi, hz, h1]

theorem box_sound {P : Program} {A : Amb} {σ : Asg} {st : St} {a : Act} {w : World} (hR : Rel A σ st a w) {t : TypeId} {x : SV} {v : Value} (hok : okCell x = true) (hv : rel σ x v) :
    ∃ u σ' w', (Instr.box t v).run P w = .ok u w' ∧ leA σ σ' ∧ rel σ' (.ptr st.ctx.length 0 0) u ∧ Rel A σ' (st.addObj (.blk false (cellsOf x))) a w' := by
  obtain ⟨σ', w', h1, h2, h3, h4⟩ := box_core (P := P) hR (t := t) (cellsOf_rel hok hv)
  refine ⟨_, σ', w', ?_, h2, h3, h4⟩
  simp [Instr.box, h1]

theorem makeMap_sound {P : Program} {A : Amb} {σ : Asg} {st : St} {a : Act} {w : World} (hR : Rel A σ st a w) (o : SO) (hm : o.isMap = true) (he : o.ents = []) (hro : o.ro = false) :
    ∃ σ', leA σ σ' ∧ rel σ' (.mp st.ctx.length) (.map (some w.heap.size)) ∧ Rel A σ' (st.addObj o) a { w with heap := w.heap.push (.map #[] 0) } := by
  have hq : σ st.ctx.length = none := hR.sat.beyond _ (Nat.le_refl _)
  obtain ⟨h1, h2⟩ := hR.alloc (.map #[] 0) o ⟨w.heap.size, 0, 0, 0⟩ rfl (by
    unfold objSat
    rw [hm]
    exact ⟨⟨w.heap.size, 0, 0, 0⟩, #[], 0, by simp [updA], by simp, by simp [he, entsRel]⟩)
  exact ⟨_, h1, by simp only [rel]; exact ⟨⟨w.heap.size, 0, 0, 0⟩, by simp [updA], rfl⟩, h2⟩

theorem update_sound {P : Program} {te : TE} (hte : teOk P te) {A : Amb} {σ : Asg} {st : St} {a : Act} {w : World} (hR : Rel A σ st a w) {α : Type} [DecidableEq α] (kk : KeyK α) {t kt vt : TypeId} (ht : tdOf te t = .map kt vt) (hkt : P.underlying kt = some kk.d)
    {h : Nat} {o o' : SO} {l : List (α × Int)} {k : α} {x : Int} (ho : st.ctx.at h = some o) (hm : o.isMap = true) (hm' : o'.isMap = true) (hr : o.ro = false) (hr' : o'.ro = false)
    (he : o.ents = l.map fun p => (kk.s p.1, .i .i64 p.2)) (he' : o'.ents = (updS l k x).map fun p => (kk.s p.1, .i .i64 p.2)) {v : Value} (hv : rel σ (.mp h) v) :
    ∃ w', (Instr.mapUpdate t v (kk.v k) (.int .i64 x)).run P w = .ok () w' ∧ Rel A σ (st.setObj h (some o')) a w' := by
  have hobj := hR.sat.obj h o ho
  unfold objSat at hobj
  rw [hm] at hobj
  obtain ⟨L, es, ck, hL, hh, hes⟩ := hobj
  simp only [rel] at hv
  obtain ⟨L', hL', rfl⟩ := hv
  rw [hL] at hL'
  cases hL'
  rw [he] at hes
  have hb := hR.sat.inHeap h L hL
  have key : ∀ (es' : Array MapEntry) (ck' : Nat), entsRel σ o'.ents es'.toList → Rel A σ (st.setObj h (some o')) a { w with heap := w.heap.setIfInBounds L.b (.map es' ck') } := by
    intro es' ck' hr2
    refine hR.write ho hr hr' hL _ ?_
    unfold objSat
    rw [hm']
    exact ⟨L, es', ck', hL, by simp only [heap_setB, if_true, if_pos hb], hr2⟩
  unfold Instr.mapUpdate
  simp only [Sem.run_bind, run_und (und_map hte ht), Result.andThen_ok, Go.MapKept.run_getObj_map hh]
  rw [show (10000 : Nat) = 9999 + 1 from rfl, Go.MapKept.run_checkKey hkt (kk.isKey k)]
  simp only [Result.andThen_ok]
  rcases find_ents kk σ k x l es.toList 0 hes with ⟨g1, g2, g3⟩ | ⟨j, e, y, g1, g2, g3, g4, g5⟩
  · rw [Go.MapKept.run_findKey hkt g2]
    simp only [Result.andThen_ok]
    rw [Go.MapKept.run_setObj_map _ hh]
    refine ⟨_, rfl, key _ _ ?_⟩
    rw [he', g3, List.map_append, Array.toList_push]
    refine entsRel_app hes ?_
    simp only [List.map_cons, List.map_nil, entsRel]
    exact ⟨_, _, rfl, by rw [kk.rel_iff], by simp [rel], rfl⟩
  · rw [Go.MapKept.run_findKey hkt g2]
    simp only [Result.andThen_ok, Sem.run_bind]
    have hge : es[0 + j]? = some e := by simpa using g3
    have hkey : (Instr.keyThatStays (((es[0 + j]?).map (·.key)).getD (kk.v k)) (kk.v k)).run P w = .ok (kk.v k) w := by
      simp only [hge, Option.map_some, Option.getD_some, g4, Instr.keyThatStays, kk.stays, if_true, Sem.run_pure]
    rw [hkey]
    simp only [Result.andThen_ok]
    rw [Go.MapKept.run_setObj_map _ hh]
    refine ⟨_, rfl, key _ _ ?_⟩
    rw [he']
    simpa [Array.toList_modify] using g5

theorem repl_length (z : List SV) : ∀ n, (repl z n).length = n * z.length
  | 0 => by simp [repl]
  | n + 1 => by simp [repl, repl_length z n, Nat.succ_mul]; omega

/-- Cells that are the zero value, again and again. -/
theorem repl_rel {σ : Asg} {z : List SV} {zv : Array Value} (h : relL σ z zv.toList) : ∀ n, relL σ (repl z n) ((Array.range (n * zv.size)).map fun i => zv[i % zv.size]!).toList
  | 0 => by simp [repl, relL]
  | n + 1 => by
    have hl := relL_length h
    simp only [Array.length_toList] at hl
    have ih := repl_rel h n
    refine relL_of_get (by rw [repl_length]; simp [hl]) fun j x v hx hv => ?_
    simp only [repl] at hx
    have hv' : zv[j % zv.size]! = v := by
      have := hv
      simp only [Array.toList_map, List.getElem?_map, Option.map_eq_some_iff, Array.toList_range] at this
      obtain ⟨i, hi, rfl⟩ := this
      have : i = j := by
        rw [List.getElem?_range] at hi
        · simpa using hi.symm
        · rcases Nat.lt_or_ge j ((n + 1) * zv.size) with h1 | h1
          · exact h1
          · rw [List.getElem?_eq_none (by simpa using h1)] at hi; cases hi
      rw [this]
    by_cases hj : j < z.length
    · rw [List.getElem?_append_left hj] at hx
      obtain ⟨u, h1, h2⟩ := relL_get h hx
      have : zv[j % zv.size]! = u := by
        rw [Nat.mod_eq_of_lt (by omega)]
        have h3 : zv[j]? = some u := by simpa using h1
        simp [getElem!_def, h3]
      rw [← hv', this]; exact h2
    · rw [List.getElem?_append_right (by omega)] at hx
      obtain ⟨u, h1, h2⟩ := relL_get ih hx
      have hjl : j - z.length < n * zv.size := by
        rcases Nat.lt_or_ge (j - z.length) (n * zv.size) with h3 | h3
        · exact h3
        · rw [List.getElem?_eq_none (by rw [repl_length, hl]; omega)] at hx; cases hx
      have : zv[j % zv.size]! = u := by
        simp only [Array.toList_map, List.getElem?_map, Option.map_eq_some_iff, Array.toList_range] at h1
        obtain ⟨i, hi, rfl⟩ := h1
        rw [List.getElem?_range hjl] at hi
        cases hi
        rw [hl, show j = (j - zv.size) + zv.size by omega, Nat.add_mod_right, Nat.add_sub_cancel]
      rw [← hv', this]; exact h2

theorem fillP_sound {σ : Asg} (sz : Nat) : ∀ (ps : List (Nat × SV)) (vs : List (Nat × Value)) (cs : List SV) (cv : Array Value) (l : List SV), ps.length = vs.length →
      (∀ (j : Nat) (i : Nat) (x : SV), ps[j]? = some (i, x) → ∃ v, vs[j]? = some (i, v) ∧ okCell x = true ∧ rel σ x v) → relL σ cs cv.toList → fillP sz cs ps = some l →
      ∃ out, Instr.fill (fun i => some (i * sz, sz)) cv vs = some out ∧ relL σ l out.toList ∧ out.size = cv.size
  | [], [], cs, cv, l, _, _, hr, h => by
    simp only [fillP, Option.some.injEq] at h
    subst h
    exact ⟨cv, rfl, hr, rfl⟩
  | (i, x) :: ps, (i', v) :: vs, cs, cv, l, hlen, hv, hr, h => by
    obtain ⟨v', e1, hok, hrx⟩ := hv 0 i x rfl
    simp only [List.getElem?_cons_zero, Option.some.injEq, Prod.mk.injEq] at e1
    obtain ⟨rfl, rfl⟩ := e1
    simp only [fillP] at h
    split at h
    · rename_i hc
      obtain ⟨hc1, hc2⟩ := hc
      have hrc := cellsOf_rel hok hrx
      have hl1 := relL_length hrc
      have hl2 := relL_length hr
      simp only [Array.length_toList] at hl1 hl2
      have hfold := foldl_set cv (i' * sz) v.cells.toList (by simp; omega) 0
      simp only [Array.length_toList, Nat.add_zero] at hfold
      rcases hfold with hfold | hfold
      · have hrel : relL σ (cs.take (i' * sz) ++ (cellsOf x ++ cs.drop (i' * sz + sz))) (v.cells.toList.zipIdx.foldl (fun cs (p : Value × Nat) => cs.setIfInBounds (i' * sz + p.2) p.1) cv).toList := by
          rw [hfold]
          refine relL_append (relL_take _ hr) (relL_append hrc ?_)
          have := relL_drop (i' * sz + sz) hr
          rw [show i' * sz + v.cells.size = i' * sz + sz by omega]
          exact this
        obtain ⟨out, ho, hro, hsz⟩ := fillP_sound sz ps vs _ _ l (by simpa using hlen) (fun j i x hj => hv (j + 1) i x (by simpa using hj)) hrel h
        refine ⟨out, ?_, hro, ?_⟩
        · simp only [Instr.fill]
          have hcond : ¬ (v.cells.size ≠ sz ∨ i' * sz + v.cells.size > cv.size) := by omega
          rw [if_neg (by simpa using hcond)]
          have hz : v.cells.zipIdx.foldl (fun cs (p : Value × Nat) => cs.setIfInBounds (i' * sz + p.2) p.1) cv = v.cells.toList.zipIdx.foldl (fun cs (p : Value × Nat) => cs.setIfInBounds (i' * sz + p.2) p.1) cv := by
            rw [← Array.foldl_toList]; simp
          have := ho
          rw [← hz] at this
          exact this
        · rw [hsz]
          have h9 := congrArg List.length hfold
          simp only [Array.length_toList, List.length_append, List.length_take, List.length_drop] at h9
          omega
      · omega
    · cases h
  | [], _ :: _, _, _, _, h, _, _, _ => by simp at h
  | _ :: _, [], _, _, _, h, _, _, _ => by simp at h
end Go.Vg
end
section
set_option linter.unusedVariables false
set_option linter.unusedSimpArgs false
namespace Go.Vg
set_option linter.unusedSectionVars false
variable [Go.Vg.Glob]
set_option linter.unusedVariables false
set_option linter.unusedSimpArgs false
open Go.RowKit

theorem zero_of {P : Program} {te : TE} (hte : teOk P te) {σ : Asg} {t : TypeId} {ti : TI} (hti : te t = some ti) (hz : ti.zero.length = ti.size) :
    ∃ z, (∀ w, (zeroValue t).run P w = .ok z w) ∧ relL σ ti.zero z.cells.toList ∧ z.cells.size = ti.size := by
  obtain ⟨i, hi, _, _, z, hzv, hrz, _⟩ := (hte t ti hti).info
  refine ⟨z, fun w => by simp [zeroValue, run_info hi, hzv], relL_mono (leA.nil σ) hrz, ?_⟩
  have := relL_length hrz
  simp only [Array.length_toList] at this
  omega

theorem litEl_get (l : List SV) (sz i k : Nat) (hk : k < sz) : (litEl l sz i).getD k .u = l.getD (i * sz + k) .u := by
  simp only [litEl, List.getD_eq_getElem?_getD]
  rw [List.getElem?_take_of_lt hk, List.getElem?_drop]

theorem buildSlice_sound {P : Program} {te : TE} (hte : teOk P te) {A : Amb} {σ : Asg} {st : St} {a : Act} {w : World} (hR : Rel A σ st a w) {t e : TypeId} {ti : TI} (ht : tdOf te t = .slice e) (hti : te e = some ti) (hz : ti.zero.length = ti.size) {len : Nat}
    (hlen : len * ti.size ≤ 16777216) {ps : List (Nat × SV)} {vs : Array (Nat × Value)} {l : List SV} (hl : ps.length = vs.toList.length)
    (hv : ∀ (j : Nat) (i : Nat) (x : SV), ps[j]? = some (i, x) → ∃ v, vs.toList[j]? = some (i, v) ∧ okCell x = true ∧ rel σ x v) (hf : fillP ti.size (repl ti.zero len) ps = some l) :
    ∃ v σ' w', (Instr.buildSlice t len vs).run P w = .ok v w' ∧ leA σ σ' ∧ rel σ' (.slc st.ctx.length 0 len) v ∧ Rel A σ' (st.addObj (.row false ti.size len (litEl l ti.size))) a w' := by
  obtain ⟨z, hzr, hzrel, hzs⟩ := zero_of hte (σ := σ) hti hz
  have base : ∃ zero : Array Value, ((len * ti.size = 0 → zero = #[]) ∧ (len * ti.size ≠ 0 → zero = z.cells)) ∧ relL σ (repl ti.zero len) ((Array.range (len * ti.size)).map fun i => zero[i % zero.size]!).toList := by
    by_cases h0 : len * ti.size = 0
    · refine ⟨#[], ⟨fun _ => rfl, fun h => absurd h0 h⟩, ?_⟩
      have : repl ti.zero len = [] := List.length_eq_zero_iff.1 (by rw [repl_length, hz]; exact h0)
      rw [this, h0]
      simp [relL]
    · refine ⟨z.cells, ⟨fun h => absurd h h0, fun _ => rfl⟩, ?_⟩
      have := repl_rel hzrel len
      rw [hzs] at this
      rw [hzs]; exact this
  obtain ⟨zero, hz1, hz2⟩ := base
  obtain ⟨out, ho, hro, hos⟩ := fillP_sound ti.size ps vs.toList _ _ l hl hv hz2 hf
  have hos' : out.size = len * ti.size := by rw [hos]; simp
  obtain ⟨σ', w', h1, h2, h3, h4⟩ := row_core (P := P) hR (elem := e) (cells := out) (sz := ti.size) (n := len) (cap := len) (f := litEl l ti.size) hos' (Nat.le_refl _) (fun i k hi hk => by
    have hll := relL_length hro
    simp only [Array.length_toList] at hll
    have hb : i * ti.size + k < l.length := by
      have : i * ti.size + ti.size ≤ len * ti.size := by rw [← Nat.succ_mul]; exact Nat.mul_le_mul_right _ hi
      omega
    obtain ⟨v, g1, g2⟩ := relL_get hro (list_getD_of hb)
    exact ⟨v, by simpa using g1, by rw [litEl_get l _ _ _ hk]; exact g2⟩)
  refine ⟨_, σ', w', ?_, h2, h3, h4⟩
  unfold Instr.buildSlice
  simp only [Sem.run_bind, run_und (und_slice hte ht), Result.andThen_ok, run_size hte hti]
  rw [Sem.run_ite, if_neg (by omega)]
  by_cases hc0 : len * ti.size = 0
  · have := hz1.1 hc0
    subst this
    simp only [hc0, if_true, Sem.run_bind, Sem.run_pure, Result.andThen_ok]
    rw [hc0] at ho
    simp only [ho, Sem.run_bind, h1, Result.andThen_ok, Sem.run_pure]
  · have := hz1.2 hc0
    subst this
    rw [if_neg hc0]
    simp only [Sem.run_bind, Sem.run_pure, hzr, Result.andThen_ok, ho, h1]

theorem wrap64_id {n : Int} (h0 : 0 ≤ n) (h1 : n ≤ 9223372036854775807) : IntKind.i64.wrap n = n := inR_wrap (k := .i64) ⟨by omega, h1⟩

theorem makeSlice_sound {P : Program} {te : TE} (hte : teOk P te) {A : Amb} {σ : Asg} {st : St} {a : Act} {w : World} (hR : Rel A σ st a w) {t e : TypeId} {ti : TI} (ht : tdOf te t = .slice e) (hti : te e = some ti) (hz : ti.zero.length = ti.size) {n m : Int}
    (h0 : 0 ≤ n) (h1 : n ≤ m) (h2 : m * ti.bytes ≤ 281474976710656) (h3 : m ≤ 281474976710656) :
    ∃ v σ' w', (Instr.makeSlice t (.int .i64 n) (.int .i64 m)).run P w = .ok v w' ∧ leA σ σ' ∧ rel σ' (.slc st.ctx.length 0 n.toNat) v ∧ Rel A σ' (st.addObj (.row false ti.size n.toNat (fun _ => ti.zero))) a w' := by
  obtain ⟨z, hzr, hzrel, hzs⟩ := zero_of hte (σ := σ) hti hz
  obtain ⟨i, hi, hisz, hib, _⟩ := (hte e ti hti).info
  have hrel := repl_rel hzrel m.toNat
  rw [hzs] at hrel
  have base : ∃ zero : Array Value, ((m.toNat * ti.size = 0 → zero = #[]) ∧ (m.toNat * ti.size ≠ 0 → zero = z.cells)) ∧ relL σ (repl ti.zero m.toNat) ((Array.range (m.toNat * ti.size)).map fun i => zero[i % zero.size]!).toList := by
    by_cases h0 : m.toNat * ti.size = 0
    · refine ⟨#[], ⟨fun _ => rfl, fun h => absurd h0 h⟩, ?_⟩
      have : repl ti.zero m.toNat = [] := List.length_eq_zero_iff.1 (by rw [repl_length, hz]; exact h0)
      rw [this, h0]
      simp [relL]
    · refine ⟨z.cells, ⟨fun h => absurd h h0, fun _ => rfl⟩, ?_⟩
      rw [hzs]; exact hrel
  obtain ⟨zero, hz1, hz2⟩ := base
  obtain ⟨σ', w', g1, g2, g3, g4⟩ := row_core (P := P) hR (elem := e) (cells := (Array.range (m.toNat * ti.size)).map fun i => zero[i % zero.size]!) (sz := ti.size) (n := n.toNat) (cap := m.toNat) (f := fun _ => ti.zero) (by simp) (by omega) (fun i k hi hk => by
    have hb : i * ti.size + k < m.toNat * ti.size := by
      have : i * ti.size + ti.size ≤ m.toNat * ti.size := by rw [← Nat.succ_mul]; exact Nat.mul_le_mul_right _ (by omega)
      omega
    obtain ⟨v, g1, g2⟩ := relL_get hz2 (j := i * ti.size + k) (list_getD_of (by rw [repl_length, hz]; exact hb))
    refine ⟨v, by rw [Array.getElem?_toList] at g1; exact g1, ?_⟩
    have : (repl ti.zero m.toNat).getD (i * ti.size + k) .u = ti.zero.getD k .u := by
      have hrep : ∀ (q i : Nat), i < q → (repl ti.zero q).getD (i * ti.size + k) .u = ti.zero.getD k .u := by
        intro q
        induction q with
        | zero => intro i hi; omega
        | succ q ih =>
          intro i hi
          simp only [repl, List.getD_eq_getElem?_getD]
          cases i with
          | zero => rw [List.getElem?_append_left (by rw [hz]; omega)]; simp
          | succ i =>
            rw [List.getElem?_append_right (by rw [hz, Nat.succ_mul]; omega), hz, Nat.succ_mul, show i * ti.size + ti.size + k - ti.size = i * ti.size + k by omega]
            have := ih i (by omega)
            simpa [List.getD_eq_getElem?_getD] using this
      exact hrep _ _ (by omega)
    rw [this] at g2; exact g2)
  refine ⟨.slice (some ⟨w.heap.size, 0, none⟩) n.toNat m.toNat, σ', w', ?_, g2, g3, g4⟩
  have e1 : IntKind.i64.wrap n = n := wrap64_id h0 (by omega)
  have e2 : IntKind.i64.wrap m = m := wrap64_id (by omega) (by omega)
  have e3 : (i.bytes : Int) * m = m * ti.bytes := by rw [hib, Int.mul_comm]
  unfold Instr.makeSlice
  simp only [Sem.run_bind, run_und (und_slice hte ht), Result.andThen_ok, asInt, asIntOf, Sem.run_pure, run_info hi, e1, e2]
  have hc : ¬ (((decide (m < 0) || decide ((i.bytes : Int) * m > 2 ^ 48)) || decide (n < 0) || decide (n > m)) = true) := by
    rw [e3]
    simp
    omega
  rw [Sem.run_ite, if_neg (by simpa using hc)]
  simp only [Sem.run_bind, run_askRoom, Result.andThen_ok, run_size hte hti]
  by_cases hc0 : m.toNat * ti.size = 0
  · have := hz1.1 hc0
    subst this
    rw [if_pos hc0]
    simp only [Sem.run_bind, Sem.run_pure, Result.andThen_ok, g1]
  · have := hz1.2 hc0
    subst this
    rw [if_neg hc0]
    simp only [Sem.run_bind, Sem.run_pure, hzr, Result.andThen_ok, g1]

end Go.Vg
end
section
set_option linter.unusedVariables false
set_option linter.unusedSimpArgs false
namespace Go.Vg
set_option linter.unusedSectionVars false
variable [Go.Vg.Glob]
set_option linter.unusedVariables false
set_option linter.unusedSimpArgs false
open Go.RowKit

/-- What an append takes in: 'm' elements of 'sz' cells. -/
structure SrcIs (P : Program) (σ : Asg) (w : World) (sz m : Nat) (g : Nat → List SV) (v : Value) : Prop where
  len : (Builtin.lenOf v).run P w = .ok m w
  vals : ∃ vs : List Value, vs.length = m * sz ∧ (∀ n', (Builtin.firstCells sz m v).run P { w with drawn := n' } = .ok vs.toArray { w with drawn := n' }) ∧
    (∀ x ∈ vs, x.oneCell' = true) ∧ ∀ j k, j < m → k < sz → ∃ y, vs[j * sz + k]? = some y ∧ rel σ ((g j).getD k .u) y

theorem row_vals {σ : Asg} {w : World} {L : Loc} {ro : Bool} {sz n : Nat} {f : Nat → List SV} {c : Array Value} {e : TypeId} {fr : Nat × Nat} (h : cellsAt σ w L (.row ro sz n f) c e fr) (lo : Nat) :
    ∀ (m : Nat), lo + m ≤ n → ∃ vs : List Value, vs.length = m * sz ∧ (∀ (j : Nat) (v : Value), vs[j]? = some v → c[L.sh + lo * L.sz + j]? = some v) ∧
      ∀ j k, j < m → k < sz → ∃ y, vs[j * sz + k]? = some y ∧ rel σ ((f (lo + j)).getD k .u) y := by
  intro m
  induction m with
  | zero => intro _; exact ⟨[], by simp, by simp, fun j k hj => by omega⟩
  | succ m ih =>
    intro hm
    obtain ⟨vs, h1, h2, h3⟩ := ih (by omega)
    obtain ⟨us, g1, g2, g3⟩ := cells_list h (i := lo + m) (k := 0) (n := sz) (by simp only [SO.n]; omega) (by simp [SO.sz])
    refine ⟨vs ++ us, by simp [h1, g1, Nat.succ_mul], fun j v hj => ?_, fun j k hj hk => ?_⟩
    · rw [List.getElem?_append] at hj
      split at hj
      · exact h2 j v hj
      · have := g2 _ v hj
        rw [h1] at this
        rename_i hge
        rw [h1] at hge
        have hsz : L.sz = sz := h.lsz
        rw [show L.sh + lo * L.sz + j = L.sh + (lo + m) * L.sz + 0 + (j - m * sz) by rw [hsz, Nat.add_mul]; omega]
        exact this
    · by_cases hjm : j < m
      · obtain ⟨y, e1, e2⟩ := h3 j k hjm hk
        have hb : j * sz + k < vs.length := by
          rw [h1]
          have : j * sz + sz ≤ m * sz := by rw [← Nat.succ_mul]; exact Nat.mul_le_mul_right _ hjm
          omega
        exact ⟨y, by rw [List.getElem?_append_left hb]; exact e1, e2⟩
      · have hj' : j = m := by omega
        subst hj'
        have hb : us[k]? = some (us[k]'(by omega)) := List.getElem?_eq_getElem (by omega)
        refine ⟨_, by rw [List.getElem?_append_right (by omega), h1, show j * sz + k - j * sz = k by omega]; exact hb, ?_⟩
        have := g3 k _ hb
        simpa [SO.el] using this

theorem xsrc_sound {P : Program} {A : Amb} {σ : Asg} {st : St} {a : Act} {w : World} (hR : Rel A σ st a w) {sz : Nat} {u8 : Bool} {dh : Nat} {x : SV} {v : Value} {K : Nat → (Nat → List SV) → Prop}
    (hv : rel σ x v) (h : xsrc st sz u8 dh x K) : ∃ m g, K m g ∧ SrcIs P σ w sz m g v := by
  unfold xsrc at h
  split at h
  · refine ⟨0, _, h, ?_⟩
    simp only [rel] at hv
    subst hv
    exact ⟨by simp [Builtin.lenOf], [], by simp, fun n' => by simp [Builtin.firstCells], by simp, fun j k hj => by omega⟩
  · rename_i l
    obtain ⟨hu, rfl, h⟩ := h
    refine ⟨_, _, h, ?_⟩
    simp only [rel] at hv
    subst hv
    refine ⟨by simp [Builtin.lenOf, ba_size], l.map fun b => .int .u8 b.toNat, by simp, fun n' => ?_, by simp [Value.oneCell'], fun j k hj hk => ?_⟩
    · simp only [Builtin.firstCells, ba_extract, Sem.run_pure]
      simp
    · have hk0 : k = 0 := by omega
      subst hk0
      refine ⟨.int .u8 (l.getD j 0).toNat, ?_, by simp [rel]⟩
      simp [hj]
  · rename_i h' lo m
    split at h
    · rename_i ro sz' n f hob
      obtain ⟨rfl, _, hall, h⟩ := h
      obtain ⟨hn, h⟩ := h.out
      refine ⟨_, _, h, ?_⟩
      simp only [rel] at hv
      obtain ⟨ad, cap, rfl, hl, hv⟩ := hv
      by_cases hm0 : m = 0
      · subst hm0
        refine ⟨by simp [Builtin.lenOf], [], by simp, fun n' => ?_, by simp, fun j k hj => by omega⟩
        cases ad <;> simp [Builtin.firstCells, loadCells, loadCellsFrom]
      · rcases hv with hv | ⟨L, hL, rfl, hav⟩
        · omega
        rcases live_cells hR.sat hob rfl with ⟨h0, h1⟩ | ⟨L', c, e, fr, hL', hc⟩
        · rw [h1] at hL; cases hL
        rw [hL'] at hL
        cases hL
        obtain ⟨vs, h1, h2, h3⟩ := row_vals hc lo m hn
        refine ⟨by simp [Builtin.lenOf], vs, h1, fun n' => ?_, fun y hy => ?_, h3⟩
        · have := run_loadCells (P := P) (w := { w with drawn := n' }) (off := L.sh + lo * L.sz + 0) hc.heap vs h2
          rw [h1] at this
          simpa [Builtin.firstCells, addrOf] using this
        · obtain ⟨q, hq⟩ := List.mem_iff_getElem?.1 hy
          have hql : q < m * sz' := by
            rcases Nat.lt_or_ge q vs.length with h | h
            · omega
            · rw [List.getElem?_eq_none h] at hq; cases hq
          have hszp : 0 < sz' := by
            rcases Nat.eq_zero_or_pos sz' with h | h
            · subst h; simp at hql
            · exact h
          have hj : q / sz' < m := (Nat.div_lt_iff_lt_mul hszp).2 hql
          obtain ⟨y', e1, e2⟩ := h3 (q / sz') (q % sz') hj (Nat.mod_lt _ hszp)
          rw [Nat.mul_comm, Nat.div_add_mod] at e1
          rw [hq] at e1
          cases e1
          obtain ⟨ha, hb⟩ := hall (q / sz') hj
          refine okLeaf_one ?_ e2
          exact List.all_eq_true.1 ha _ (List.mem_of_getElem? (list_getD_of (by rw [hb]; exact Nat.mod_lt _ hszp)))
    · exact h.elim
  · rename_i sz' l
    obtain ⟨rfl, hall, h⟩ := h
    refine ⟨_, _, h, ?_⟩
    simp only [rel] at hv
    obtain ⟨ad, cap, rfl, hl, hv⟩ := hv
    rcases hv with hv | ⟨b, off, c, e, fr, rfl, hfz, hrr⟩
    · subst hv
      refine ⟨by simp [Builtin.lenOf], [], by simp, fun n' => ?_, by simp, fun j k hj => by simp at hj⟩
      cases ad <;> simp [Builtin.firstCells, loadCells, loadCellsFrom]
    · have hget : ∀ j k, j < l.length → k < sz' → ∃ y, ((c.toList.drop off).take (l.length * sz'))[j * sz' + k]? = some y ∧ rel σ ((l.getD j []).getD k .u) y := by
        intro j k hj hk
        obtain ⟨g1, g2⟩ := relR_get hrr (j := j) (x := l.getD j []) (by simp [List.getD, List.getElem?_eq_getElem hj])
        obtain ⟨y, e1, e2⟩ := relL_get g2 (j := k) (x := (l.getD j []).getD k .u) (list_getD_of (by rw [g1]; exact hk))
        rw [List.getElem?_take, if_pos hk, List.getElem?_drop] at e1
        have hb : j * sz' + k < l.length * sz' := by
          have : j * sz' + sz' ≤ l.length * sz' := by rw [← Nat.succ_mul]; exact Nat.mul_le_mul_right _ hj
          omega
        exact ⟨y, by rw [List.getElem?_take, if_pos hb]; exact e1, rel_mono (⟨fun _ _ h => (by cases h), fun _ _ h => h⟩ : leA σ.bare σ) e2⟩
      have hlen : ((c.toList.drop off).take (l.length * sz')).length = l.length * sz' := by
        rcases Nat.eq_zero_or_pos (l.length * sz') with h0 | h0
        · rw [h0]; simp
        · have hszp : 0 < sz' := Nat.pos_of_mul_pos_left h0
          have hlp : 0 < l.length := Nat.pos_of_mul_pos_right h0
          obtain ⟨y, e1, _⟩ := hget (l.length - 1) (sz' - 1) (by omega) (by omega)
          obtain ⟨q1, _⟩ := List.getElem?_eq_some_iff.1 e1
          have : (l.length - 1) * sz' + (sz' - 1) = l.length * sz' - 1 := by
            obtain ⟨p, hp⟩ : ∃ p, l.length = p + 1 := ⟨l.length - 1, by omega⟩
            rw [hp, Nat.succ_mul]; simp; omega
          have h9 : ((c.toList.drop off).take (l.length * sz')).length ≤ l.length * sz' := by rw [List.length_take]; omega
          omega
      refine ⟨by simp [Builtin.lenOf], (c.toList.drop off).take (l.length * sz'), hlen, fun n' => ?_, fun y hy => ?_, hget⟩
      · have := run_loadCells (P := P) (w := { w with drawn := n' }) (off := off) (hR.sat.frz _ _ hfz) ((c.toList.drop off).take (l.length * sz')) (fun j v hj => by
          rw [List.getElem?_take] at hj
          by_cases hjl : j < l.length * sz'
          · rw [if_pos hjl, List.getElem?_drop] at hj
            simpa using hj
          · rw [if_neg hjl] at hj; simp at hj)
        rw [hlen] at this
        simpa [Builtin.firstCells] using this
      · obtain ⟨q, hq⟩ := List.mem_iff_getElem?.1 hy
        have hql : q < l.length * sz' := by
          rw [← hlen]
          exact (List.getElem?_eq_some_iff.1 hq).1
        have hszp : 0 < sz' := Nat.pos_of_mul_pos_left (Nat.lt_of_le_of_lt (Nat.zero_le _) hql)
        have hj : q / sz' < l.length := (Nat.div_lt_iff_lt_mul hszp).2 hql
        obtain ⟨y', e1, e2⟩ := hget (q / sz') (q % sz') hj (Nat.mod_lt _ hszp)
        rw [Nat.mul_comm (q / sz'), Nat.div_add_mod] at e1
        rw [hq] at e1
        cases e1
        obtain ⟨g1, _⟩ := relR_get hrr (j := q / sz') (x := l.getD (q / sz') []) (by simp [List.getD, List.getElem?_eq_getElem hj])
        refine okLeaf_one ?_ e2
        refine List.all_eq_true.1 (hall (l.getD (q / sz') []) ?_) _ (List.mem_of_getElem? (list_getD_of (by rw [g1]; exact Nat.mod_lt _ hszp)))
        simp only [List.getD_eq_getElem?_getD, List.getElem?_eq_getElem hj, Option.getD_some]
        exact List.getElem_mem hj
  · exact h.elim

theorem catF_get (n : Nat) (f g : Nat → List SV) (j k : Nat) : (catF n f g j).getD k .u = if j < n then (f j).getD k .u else (g (j - n)).getD k .u := by
  unfold catF; split <;> rfl

theorem growCap {need cap bytes : Nat} (h : cap < need) (hb : need * bytes ≤ 140737488355328) : ¬ (Builtin.nextslicecap need cap * bytes > 2 ^ 48) := by
  have := growslice_fits h hb
  omega

/-- The old objects at handles stand where one is taken out of use. -/
theorem Rel.drop {A : Amb} {σ : Asg} {st : St} {a : Act} {w : World} (hR : Rel A σ st a w) (h : Nat) : Rel A σ (st.setObj h none) a w := by
  by_cases hlt : h < st.ctx.length
  · have hat : ∀ x, Ctx.at (st.ctx.set h none) x = if x = h then none else st.ctx.at x := fun x => at_set _ _ _ _ hlt
    refine ⟨hR.defers, hR.size, hR.env, ⟨fun h1 o1 e => ?_, fun h1 h2 o1 o2 L1 L2 hne e1 e2 r s1 s2 => ?_, fun h1 hh => hR.sat.beyond h1 (by simpa [St.setObj] using hh), hR.sat.inHeap, hR.sat.frz, fun h1 o1 M e r s => ?_, hR.sat.glb⟩, hR.fr, fun h1 o1 M e r s => ?_, hR.base, by simpa [St.setObj] using hR.klen⟩
    · simp only [St.setObj, hat] at e
      split at e
      · cases e
      · exact hR.sat.obj h1 o1 e
    · simp only [St.setObj, hat] at e1 e2
      split at e1
      · cases e1
      · split at e2
        · cases e2
        · exact hR.sat.apart h1 h2 o1 o2 L1 L2 hne e1 e2 r s1 s2
    · simp only [St.setObj, hat] at e
      split at e
      · cases e
      · exact hR.sat.frzA h1 o1 M e r s
    · simp only [St.setObj, hat] at e
      split at e
      · cases e
      · exact hR.own h1 o1 M e r s
  · have : st.setObj h none = st := by
      unfold St.setObj
      rw [List.set_eq_of_length_le (by omega)]
    rw [this]; exact hR

/-- A handle for nothing: an empty row that lies nowhere. -/
theorem Rel.ghost {A : Amb} {σ : Asg} {st : St} {a : Act} {w : World} (hR : Rel A σ st a w) (sz : Nat) (f : Nat → List SV) : Rel A σ (st.addObj (.row false sz 0 f)) a w := by
  have hq : σ st.ctx.length = none := hR.sat.beyond _ (Nat.le_refl _)
  refine ⟨hR.defers, hR.size, hR.env, ⟨fun h1 o1 e => ?_, fun h1 h2 o1 o2 L1 L2 hne e1 e2 r s1 s2 => ?_, fun h1 hh => hR.sat.beyond h1 (by simp [St.addObj] at hh; omega), hR.sat.inHeap, hR.sat.frz, fun h1 o1 M e r s => ?_, hR.sat.glb⟩, hR.fr, fun h1 o1 M e r s => ?_, hR.base, by simp [St.addObj]; have := hR.klen; omega⟩
  · simp only [St.addObj, at_app] at e
    split at e
    · rename_i hh
      cases e
      unfold objSat
      exact .inl ⟨rfl, by rw [hh]; exact hq⟩
    · exact hR.sat.obj h1 o1 e
  · simp only [St.addObj, at_app] at e1 e2
    split at e1
    · rename_i hh; rw [hh, hq] at s1; cases s1
    · split at e2
      · rename_i hh; rw [hh, hq] at s2; cases s2
      · exact hR.sat.apart h1 h2 o1 o2 L1 L2 hne e1 e2 r s1 s2
  · simp only [St.addObj, at_app] at e
    split at e
    · rename_i hh; rw [hh, hq] at s; cases s
    · exact hR.sat.frzA h1 o1 M e r s
  · simp only [St.addObj, at_app] at e
    split at e
    · rename_i hh; rw [hh, hq] at s; cases s
    · exact hR.own h1 o1 M e r s

end Go.Vg
end
section
set_option linter.unusedVariables false
set_option linter.unusedSimpArgs false
namespace Go.Vg
set_option linter.unusedSectionVars false
variable [Go.Vg.Glob]
set_option linter.unusedVariables false
set_option linter.unusedSimpArgs false
open Go.RowKit

theorem not_int {P : Program} {te : TE} (hte : teOk P te) {xt : TypeId} (h : match tdOf te xt with | .slice _ => True | .str => True | _ => False) : ∃ d, P.underlying xt = some d ∧ ∀ k, d ≠ .int k := by
  split at h
  · rename_i e he; exact ⟨_, und_slice hte he, by intro k hk; cases hk⟩
  · rename_i he; exact ⟨_, und_str hte he, by intro k hk; cases hk⟩
  · exact h.elim

theorem run_append_fits {P : Program} {te : TE} (hte : teOk P te) {w w' : World} {t e xt : TypeId} {ti : TI} (ht : tdOf te t = .slice e) (hti : te e = some ti) (hxt : match tdOf te xt with | .slice _ => True | .str => True | _ => False)
    {base : Option Addr} {len cap m : Nat} {x : Value} (hm : (Builtin.lenOf x).run P w = .ok m w) (ty : TypeId) {vs : List Value} (hvs : (Builtin.firstCells ti.size m x).run P w = .ok vs.toArray w) (hfit : len + m ≤ cap)
    (hst : match base with | none => w' = w | some a => (storeCells (a.add (len * ti.size)) vs).run P w = .ok () w') :
    (Builtin.append_ #[t, xt] ty #[.slice base len cap, x]).run P w = .ok (.slice base (len + m) cap) w' := by
  obtain ⟨d, hd, hni⟩ := not_int hte hxt
  obtain ⟨i, hi, hisz, hib, _⟩ := (hte e ti hti).info
  unfold Builtin.append_
  simp only [List.getElem?_toArray, List.getElem?_cons_zero, List.getElem?_cons_succ, Sem.run_bind, run_und (und_slice hte ht), Result.andThen_ok, run_size hte hti, run_und hd, Sem.run_pure]
  cases d
  case int k => exact absurd rfl (hni k)
  all_goals
    simp only [Bool.false_eq_true, if_false, Sem.run_bind, hm, Result.andThen_ok, Bool.not_false, if_true, if_pos hfit, hvs]
    cases base with
    | none => subst hst; simp
    | some ad => simp [hst]

theorem run_append_grows {P : Program} {te : TE} (hte : teOk P te) {w : World} {t e xt : TypeId} {ti : TI} (ht : tdOf te t = .slice e) (hti : te e = some ti) (hxt : match tdOf te xt with | .slice _ => True | .str => True | _ => False)
    {base : Option Addr} {len cap m : Nat} {x : Value} (hm : (Builtin.lenOf x).run P w = .ok m w) (ty : TypeId) {vs us : List Value} {z : Value} (hvs : ∀ n, (Builtin.firstCells ti.size m x).run P { w with drawn := n } = .ok vs.toArray { w with drawn := n })
    (hus : ∀ n, (Builtin.firstCells ti.size len (.slice base len cap)).run P { w with drawn := n } = .ok us.toArray { w with drawn := n }) (hfit : ¬ (len + m ≤ cap)) (hb : ti.bytes ≠ 0)
    (hroom : (len + m) * ti.bytes ≤ 140737488355328) (hz : ∀ w, (zeroValue e).run P w = .ok z w) :
    ∃ nc, len + m ≤ nc ∧ (Builtin.append_ #[t, xt] ty #[.slice base len cap, x]).run P w = .ok (.slice (some ⟨w.heap.size, 0, none⟩) (len + m) nc)
      { w with drawn := w.drawn + 1, heap := w.heap.push (.cells (us.toArray ++ vs.toArray ++ Builtin.zeroCells z.cells (nc - (len + m))) e) } := by
  obtain ⟨d, hd, hni⟩ := not_int hte hxt
  obtain ⟨i, hi, hisz, hib, _⟩ := (hte e ti hti).info
  refine ⟨(Question.appendCap (len + m) cap e).cut (w.tape w.drawn (Question.appendCap (len + m) cap e)), by simp only [Question.cut]; omega, ?_⟩
  have hg := growCap (bytes := ti.bytes) (show cap < len + m by omega) hroom
  unfold Builtin.append_
  simp only [List.getElem?_toArray, List.getElem?_cons_zero, List.getElem?_cons_succ, Sem.run_bind, run_und (und_slice hte ht), Result.andThen_ok, run_size hte hti, run_und hd, Sem.run_pure]
  cases d
  case int k => exact absurd rfl (hni k)
  all_goals
    simp only [Bool.false_eq_true, if_false, Sem.run_bind, hm, Result.andThen_ok, Bool.not_false, if_true, if_neg hfit, run_info hi, hib, false_or, Sem.run_ite, hb, and_false, Sem.run_pure, if_neg hg, run_choose, Question.forced, run_askRoom, hus, hvs, hz, newRow, run_newObj]

/-- A new row, with room to spare, behind a draw. -/
theorem grown_core {A : Amb} {σ : Asg} {st : St} {a : Act} {w : World} (hR : Rel A σ st a w) {e : TypeId} {cells : Array Value} {sz n cap : Nat} {f : Nat → List SV} (nd : Nat)
    (hcs : cells.size = cap * sz) (hn : n ≤ cap) (hc : ∀ i k, i < n → k < sz → ∃ v, cells[i * sz + k]? = some v ∧ rel σ ((f i).getD k .u) v) :
    ∃ σ', leA σ σ' ∧ rel σ' (.slc st.ctx.length 0 n) (.slice (some ⟨w.heap.size, 0, none⟩) n cap) ∧ Rel A σ' (st.addObj (.row false sz n f)) a { w with drawn := nd, heap := w.heap.push (.cells cells e) } := by
  obtain ⟨σ', w', h1, h2, h3, h4⟩ := row_core (P := default) (hR.drawn nd) (elem := e) hcs hn hc
  simp only [newRow, Sem.run_bind, run_newObj, Result.andThen_ok, Sem.run_pure, Result.ok.injEq, true_and] at h1
  subst h1
  exact ⟨σ', h2, h3, h4⟩

theorem append_vals {σ : Asg} {sz len m nc : Nat} {f g : Nat → List SV} {us vs : List Value} {z : Array Value} (hu : us.length = len * sz) (hv : vs.length = m * sz) (hz : z.size = sz) (hnc : len + m ≤ nc)
    (h1 : ∀ j k, j < len → k < sz → ∃ y, us[j * sz + k]? = some y ∧ rel σ ((f j).getD k .u) y) (h2 : ∀ j k, j < m → k < sz → ∃ y, vs[j * sz + k]? = some y ∧ rel σ ((g j).getD k .u) y) :
    (us.toArray ++ vs.toArray ++ Builtin.zeroCells z (nc - (len + m))).size = nc * sz ∧
    ∀ i k, i < len + m → k < sz → ∃ v, (us.toArray ++ vs.toArray ++ Builtin.zeroCells z (nc - (len + m)))[i * sz + k]? = some v ∧ rel σ ((catF len f g i).getD k .u) v := by
  refine ⟨?_, fun i k hi hk => ?_⟩
  · simp only [Array.size_append, List.size_toArray, hu, hv, Builtin.zeroCells, Array.size_map, Array.size_range, hz]
    rw [← Nat.add_mul, ← Nat.add_mul]; congr 1; omega
  · rw [catF_get]
    have hb : i * sz + k < (us.toArray ++ vs.toArray).size := by
      simp only [Array.size_append, List.size_toArray, hu, hv, ← Nat.add_mul]
      have : i * sz + sz ≤ (len + m) * sz := by rw [← Nat.succ_mul]; exact Nat.mul_le_mul_right _ hi
      omega
    rw [Array.getElem?_append_left hb]
    by_cases hil : i < len
    · rw [if_pos hil]
      obtain ⟨y, e1, e2⟩ := h1 i k hil hk
      have hbl : i * sz + k < us.length := by
        rw [hu]
        have : i * sz + sz ≤ len * sz := by rw [← Nat.succ_mul]; exact Nat.mul_le_mul_right _ hil
        omega
      refine ⟨y, ?_, e2⟩
      rw [Array.getElem?_append_left (by simpa using hbl)]
      simpa using e1
    · rw [if_neg hil]
      obtain ⟨y, e1, e2⟩ := h2 (i - len) k (by omega) hk
      refine ⟨y, ?_, e2⟩
      have hge : us.length ≤ i * sz + k := by
        rw [hu]
        have : len * sz ≤ i * sz := Nat.mul_le_mul_right _ (by omega)
        omega
      rw [Array.getElem?_append_right (by simpa using hge)]
      simp only [List.size_toArray, List.getElem?_toArray, hu]
      rw [show i * sz + k - len * sz = (i - len) * sz + k by rw [Nat.sub_mul]; have : len * sz ≤ i * sz := Nat.mul_le_mul_right _ (by omega); omega]
      exact e1

/-- An append to nil. -/
theorem append_nil {P : Program} {te : TE} (hte : teOk P te) {A : Amb} {σ : Asg} {st : St} {a : Act} {w : World} (hR : Rel A σ st a w) {t e xt : TypeId} {ti : TI} (ht : tdOf te t = .slice e) (hti : te e = some ti)
    (hxt : match tdOf te xt with | .slice _ => True | .str => True | _ => False) (hz : ti.zero.length = ti.size) (hb : ti.bytes ≠ 0) {m : Nat} {g : Nat → List SV} {x : Value} (hs : SrcIs P σ w ti.size m g x) (ty : TypeId)
    (hroom : m * ti.bytes ≤ 140737488355328) :
    ∃ v σ' w', (Builtin.append_ #[t, xt] ty #[.slice none 0 0, x]).run P w = .ok v w' ∧ leA σ σ' ∧ rel σ' (.slc st.ctx.length 0 m) v ∧ Rel A σ' (st.addObj (.row false ti.size m g)) a w' := by
  obtain ⟨vs, h1, h2, h3, h4⟩ := hs.vals
  by_cases hm : m = 0
  · subst hm
    refine ⟨.slice none 0 0, σ, w, ?_, leA.refl σ, ?_, hR.ghost _ _⟩
    · exact run_append_fits hte ht hti hxt hs.len ty (by have := h2 w.drawn; exact this) (Nat.le_refl _) rfl
    · simp only [rel]; exact ⟨none, 0, rfl, Nat.le_refl _, .inl rfl⟩
  · obtain ⟨z, hzr, _, hzs⟩ := zero_of hte (σ := σ) hti hz
    obtain ⟨nc, hnc, hrun⟩ := run_append_grows hte (w := w) ht hti hxt (base := none) (len := 0) (cap := 0) hs.len ty (us := []) h2 (fun n => by simp [Builtin.firstCells]) (by omega) hb (by simpa using hroom) hzr
    obtain ⟨p1, p2⟩ := append_vals (σ := σ) (len := 0) (f := g) (us := []) (by simp) h1 hzs hnc (fun j k hj => by omega) h4
    obtain ⟨σ', q1, q2, q3⟩ := grown_core hR (e := e) (n := m) (f := g) (w.drawn + 1) p1 (by omega) (fun i k hi hk => by
      obtain ⟨v, r1, r2⟩ := p2 i k (by omega) hk
      exact ⟨v, r1, by simpa [catF] using r2⟩)
    refine ⟨_, σ', _, hrun, q1, ?_, q3⟩
    simpa using q2

/-- An append to a row of its own. -/
theorem append_row {P : Program} {te : TE} (hte : teOk P te) {A : Amb} {σ : Asg} {st : St} {a : Act} {w : World} (hR : Rel A σ st a w) {t e xt : TypeId} {ti : TI} (ht : tdOf te t = .slice e) (hti : te e = some ti)
    (hxt : match tdOf te xt with | .slice _ => True | .str => True | _ => False) (hz : ti.zero.length = ti.size) (hb : ti.bytes ≠ 0) {h lo len n : Nat} {f : Nat → List SV} (hob : st.ctx.at h = some (.row false ti.size n f)) (hin : lo + len ≤ n)
    {m : Nat} {g : Nat → List SV} {s x : Value} (hsv : rel σ (.slc h lo len) s) (hs : SrcIs P σ w ti.size m g x) (ty : TypeId) (hroom : (len + m) * ti.bytes ≤ 140737488355328) :
    ∃ v σ' w', (Builtin.append_ #[t, xt] ty #[s, x]).run P w = .ok v w' ∧ leA σ σ' ∧ rel σ' (.slc st.ctx.length 0 (len + m)) v ∧ Rel A σ' ((st.setObj h none).addObj (.row false ti.size (len + m) (catF len (fun j => f (lo + j)) g))) a w' := by
  obtain ⟨vs, h1, h2, h3, h4⟩ := hs.vals
  have hlt := at_lt hob
  simp only [rel] at hsv
  obtain ⟨ad, cap, rfl, hl, hsv⟩ := hsv
  have hlen' : (st.setObj h none).ctx.length = st.ctx.length := by simp [St.setObj]
  obtain ⟨z, hzr, _, hzs⟩ := zero_of hte (σ := σ) hti hz
  -- the old elements, as they lie
  have old : ∃ us : List Value, us.length = len * ti.size ∧ (∀ n, (Builtin.firstCells ti.size len (.slice ad len cap)).run P { w with drawn := n } = .ok us.toArray { w with drawn := n }) ∧
      ∀ j k, j < len → k < ti.size → ∃ y, us[j * ti.size + k]? = some y ∧ rel σ ((f (lo + j)).getD k .u) y := by
    by_cases hl0 : len = 0
    · subst hl0
      refine ⟨[], by simp, fun n => ?_, fun j k hj => by omega⟩
      cases ad <;> simp [Builtin.firstCells, loadCells, loadCellsFrom]
    · rcases hsv with hsv | ⟨L, hL, rfl, hav⟩
      · omega
      rcases live_cells hR.sat hob rfl with ⟨_, h0⟩ | ⟨L', c, e', fr, hL', hc⟩
      · rw [h0] at hL; cases hL
      rw [hL'] at hL
      cases hL
      obtain ⟨us, g1, g2, g3⟩ := row_vals hc lo len hin
      refine ⟨us, g1, fun n' => ?_, g3⟩
      have := run_loadCells (P := P) (w := { w with drawn := n' }) (off := L.sh + lo * L.sz + 0) hc.heap us g2
      rw [g1] at this
      simpa [Builtin.firstCells, addrOf] using this
  obtain ⟨us, hu1, hu2, hu3⟩ := old
  by_cases hfit : len + m ≤ cap
  · by_cases hcap : cap = 0
    · have hl0 : len = 0 := by omega
      have hm0 : m = 0 := by omega
      subst hl0 hm0
      refine ⟨.slice ad 0 cap, σ, w, ?_, leA.refl σ, ?_, ?_⟩
      · have hvs : vs = [] := List.length_eq_zero_iff.1 (by simpa using h1)
        refine run_append_fits hte ht hti hxt hs.len ty (by have := h2 w.drawn; exact this) hfit ?_
        cases ad with
        | none => rfl
        | some ad => simp [hvs, storeCells]
      · simp only [rel]; exact ⟨ad, cap, rfl, by omega, .inl hcap⟩
      · exact (hR.drop h).ghost _ _
    · rcases hsv with hsv | ⟨L, hL, rfl, hav⟩
      · omega
      rcases live_cells hR.sat hob rfl with ⟨_, h0⟩ | ⟨L', c, e', fr, hL', hc⟩
      · rw [h0] at hL; cases hL
      rw [hL'] at hL
      cases hL
      have hsz : L.sz = ti.size := hc.lsz
      have hbL := hR.sat.inHeap h L hL'
      have hmul : (lo + cap) * ti.size = lo * ti.size + cap * ti.size := Nat.add_mul _ _ _
      have hmul2 : len * ti.size + m * ti.size ≤ cap * ti.size := by rw [← Nat.add_mul]; exact Nat.mul_le_mul_right _ hfit
      have hroomc := hc.room
      rw [hsz, hmul] at hav
      have hst := run_storeCells (P := P) (off := L.sh + lo * ti.size + len * ti.size) vs 0 w c hc.heap h3 (by rw [h1]; omega) (fun y hy hh => by rcases hc.free rfl with h | h <;> omega)
      simp only [Nat.add_zero] at hst
      have hnew : Rel A (updA σ st.ctx.length ⟨L.b, L.sh + lo * ti.size, L.av - lo * ti.size, ti.size⟩) ((st.setObj h none).addObj (.row false ti.size (len + m) (catF len (fun j => f (lo + j)) g))) a
          { w with heap := w.heap.setIfInBounds L.b (.cells (setAll c (L.sh + lo * ti.size + len * ti.size) vs) e' fr) } := by
        have hq : σ st.ctx.length = none := hR.sat.beyond _ (Nat.le_refl _)
        have hle := leA_upd (L := ⟨L.b, L.sh + lo * ti.size, L.av - lo * ti.size, ti.size⟩) hq
        have hat : ∀ y, Ctx.at (((st.setObj h none).addObj (.row false ti.size (len + m) (catF len (fun j => f (lo + j)) g))).ctx) y = if y = st.ctx.length then some (.row false ti.size (len + m) (catF len (fun j => f (lo + j)) g)) else if y = h then none else st.ctx.at y := by
          intro y
          simp only [St.addObj, at_app, hlen', St.setObj, List.length_set]
          by_cases hy : y = st.ctx.length
          · simp [hy]
          · rw [if_neg hy, if_neg hy, at_set _ _ _ _ hlt]
        have hother : ∀ y o M, y ≠ h → st.ctx.at y = some o → σ y = some M → M.b ≠ L.b := fun y o M hy ho hM => Ne.symm (hR.sat.apart h y _ o L M (Ne.symm hy) hob ho rfl hL' hM)
        refine ⟨hR.defers, hR.size, fun t => rel_mono hle (hR.env t), ⟨fun y o ey => ?_, fun y1 y2 o1 o2 L1 L2 hne e1 e2 r s1 s2 => ?_, fun y hy => ?_, fun y M ey => ?_, fun b1 o1 e1 => ?_, fun y o M ey r s => ?_, hR.sat.glb⟩, ?_, fun y o M ey r s => ?_, ⟨fun y hy => ?_, hR.base.fzb, hR.base.fzn⟩, ?_⟩
        · rw [hat] at ey
          split at ey
          · rename_i hy
            cases ey
            unfold objSat
            refine .inr ⟨⟨L.b, L.sh + lo * ti.size, L.av - lo * ti.size, ti.size⟩, setAll c (L.sh + lo * ti.size + len * ti.size) vs, e', fr, by simp [updA, hy], ⟨?_, rfl, ?_, ?_, fun i k hi hk => ?_, fun _ => ?_⟩⟩
            · simp only [heap_setB, if_true, if_pos hbL]
            · rw [setAll_size]
              simp only
              omega
            · simp only [SO.n, SO.sz]
              rw [Nat.add_mul]; omega
            · simp only [SO.n, SO.sz, SO.el] at *
              rw [setAll_get _ _ _ _ (by rw [h1]; omega), h1, catF_get]
              by_cases hil : i < len
              · rw [if_pos hil]
                obtain ⟨v, r1, r2⟩ := hc.cell (lo + i) k (by simp only [SO.n]; omega) hk
                have : i * ti.size + ti.size ≤ len * ti.size := by rw [← Nat.succ_mul]; exact Nat.mul_le_mul_right _ hil
                rw [if_neg (by omega)]
                refine ⟨v, ?_, rel_mono hle r2⟩
                simp only [SO.sz] at r1
                rw [show L.sh + lo * ti.size + i * ti.size + k = L.sh + (lo + i) * ti.size + k by rw [Nat.add_mul]; omega]
                exact r1
              · rw [if_neg hil]
                obtain ⟨v, r1, r2⟩ := h4 (i - len) k (by omega) hk
                have hmi : (i - len) * ti.size + ti.size ≤ m * ti.size := by rw [← Nat.succ_mul]; exact Nat.mul_le_mul_right _ (by omega)
                have hsub : i * ti.size = len * ti.size + (i - len) * ti.size := by rw [← Nat.add_mul]; congr 1; omega
                rw [if_pos (by omega)]
                refine ⟨v, ?_, rel_mono hle r2⟩
                rw [show L.sh + lo * ti.size + i * ti.size + k - (L.sh + lo * ti.size + len * ti.size) = (i - len) * ti.size + k by omega]
                exact r1
            · rw [setAll_size]; exact hc.free rfl
          · rename_i hy
            split at ey
            · cases ey
            · rename_i hyh
              refine objSat_same hle (by simp [updA, hy]) (fun M hM => ?_) (hR.sat.obj y o ey)
              simp only [heap_setB, if_neg (hother y o M hyh ey hM)]
        · rw [hat] at e1 e2
          simp only [updA] at s1 s2
          split at e1
          · rename_i hy1
            rw [if_pos hy1] at s1
            cases s1
            split at e2
            · rename_i hy2; omega
            · rename_i hy2
              rw [if_neg hy2] at s2
              split at e2
              · cases e2
              · rename_i hyh; exact Ne.symm (hother y2 o2 L2 hyh e2 s2)
          · rename_i hy1
            rw [if_neg hy1] at s1
            split at e1
            · cases e1
            · rename_i hyh1
              split at e2
              · rename_i hy2
                rw [if_pos hy2] at s2
                cases s2
                exact hother y1 o1 L1 hyh1 e1 s1
              · rename_i hy2
                rw [if_neg hy2] at s2
                split at e2
                · cases e2
                · exact hR.sat.apart y1 y2 o1 o2 L1 L2 hne e1 e2 r s1 s2
        · simp only [St.addObj, St.setObj, List.length_append, List.length_set, List.length_singleton] at hy
          simp only [updA, if_neg (show y ≠ st.ctx.length by omega)]
          exact hR.sat.beyond y (by omega)
        · simp only [updA] at ey
          simp only [Array.size_setIfInBounds]
          split at ey
          · cases ey; exact hbL
          · exact hR.sat.inHeap y M ey
        · have hne : b1 ≠ L.b := fun hh => by rw [hh, updA_fz, hR.sat.frzA h _ L hob rfl hL'] at e1; cases e1
          simp only [heap_setB, if_neg hne]
          exact hR.sat.frz b1 o1 e1
        · rw [hat] at ey
          rw [updA_fz]
          simp only [updA] at s
          split at ey
          · rename_i hy
            rw [if_pos hy] at s
            cases s
            exact hR.sat.frzA h _ L hob rfl hL'
          · rename_i hy
            rw [if_neg hy] at s
            split at ey
            · cases ey
            · exact hR.sat.frzA y o M ey r s
        · refine ⟨hR.fr.os, hR.fr.tape, hR.fr.output, by simpa using hR.fr.size, fun b hb' hd => ?_⟩
          simp only [heap_setB]
          rw [if_neg]
          · exact hR.fr.block b hb' hd
          · intro ee
            subst ee
            rcases hR.own h _ L hob rfl hL' with q | q
            · exact hd q
            · omega
        · rw [hat] at ey
          simp only [updA] at s
          split at ey
          · rename_i hy
            rw [if_pos hy] at s
            cases s
            exact hR.own h _ L hob rfl hL'
          · rename_i hy
            rw [if_neg hy] at s
            split at ey
            · cases ey
            · exact hR.own y o M ey r s
        · have := hR.klen
          simp only [updA, if_neg (show y ≠ st.ctx.length by omega)]
          exact hR.base.loc y hy
        · simp only [St.addObj, St.setObj, List.length_append, List.length_set]
          have := hR.klen; omega
      refine ⟨_, _, _, run_append_fits hte ht hti hxt hs.len ty (by have := h2 w.drawn; exact this) hfit ?_, leA_upd (hR.sat.beyond _ (Nat.le_refl _)), ?_, hnew⟩
      · simp only [addrOf, add_none, hsz, Nat.add_zero]
        exact hst
      · simp only [rel]
        refine ⟨_, _, rfl, hfit, .inr ⟨⟨L.b, L.sh + lo * ti.size, L.av - lo * ti.size, ti.size⟩, by simp [updA], ?_, ?_⟩⟩
        · simp [addrOf, hsz]
        · simp only [Nat.zero_add]; omega
  · obtain ⟨nc, hnc, hrun⟩ := run_append_grows hte (w := w) ht hti hxt (base := ad) (len := len) (cap := cap) hs.len ty (us := us) h2 hu2 hfit hb hroom hzr
    obtain ⟨p1, p2⟩ := append_vals (σ := σ) (f := fun j => f (lo + j)) hu1 h1 hzs hnc hu3 h4
    obtain ⟨σ', q1, q2, q3⟩ := grown_core (hR.drop h) (e := e) (n := len + m) (f := catF len (fun j => f (lo + j)) g) (w.drawn + 1) p1 hnc p2
    rw [hlen'] at q2
    exact ⟨_, σ', _, hrun, q1, q2, q3⟩
end Go.Vg
end
section
set_option linter.unusedVariables false
set_option linter.unusedSimpArgs false
namespace Go.Vg
set_option linter.unusedSectionVars false
variable [Go.Vg.Glob]
set_option linter.unusedVariables false
set_option linter.unusedSimpArgs false
open Go.RowKit

/-- A row's block marked behind its end: no cell is touched. -/
theorem mark_sound {P : Program} {te : TE} (hte : teOk P te) {A : Amb} {σ : Asg} {st : St} {a : Act} {w : World} (hR : Rel A σ st a w) {t e : TypeId} (ht : tdOf te t = .slice e) (hu : isU8T te e = true) {h lo len sz n : Nat} {f : Nat → List SV}
    (hob : st.ctx.at h = some (.row false sz n f)) (hlen : 0 < len) {v : Value} (hv : rel σ (.slc h lo len) v) :
    ∃ w', (convert t t v).run P w = .ok v w' ∧ Rel A σ st a w' := by
  simp only [rel] at hv
  obtain ⟨ad, cap, rfl, hl, hv⟩ := hv
  rcases hv with hv | ⟨L, hL, rfl, hav⟩
  · omega
  rcases live_cells hR.sat hob rfl with ⟨_, h0⟩ | ⟨L', c, e', fr, hL', hc⟩
  · rw [h0] at hL; cases hL
  rw [hL'] at hL
  cases hL
  have hb := hR.sat.inHeap h L hL'
  have hshape : w.shape? L.b = some (e', c.size) := by simp [World.shape?, hc.heap]
  have hfz : w.freeze ⟨L.b, c.size, none⟩ 1 = { w with heap := w.heap.setIfInBounds L.b (.cells c e' (if fr.1 == fr.2 then (c.size, c.size + 1) else (min fr.1 c.size, max fr.2 (c.size + 1)))) } := by
    simp only [World.freeze, Nat.succ_ne_zero, if_false]
    congr 1
    apply Array.ext_getElem?
    intro j
    rw [Array.getElem?_modify, heap_setB]
    by_cases hj : L.b = j
    · subst hj
      rw [if_pos rfl, if_pos rfl, if_pos hb, hc.heap]
      obtain ⟨f1, f2⟩ := fr
      simp
    · rw [if_neg hj, if_neg (Ne.symm hj)]
  refine ⟨{ w with heap := w.heap.setIfInBounds L.b (.cells c e' (if fr.1 == fr.2 then (c.size, c.size + 1) else (min fr.1 c.size, max fr.2 (c.size + 1)))) }, ?_, ?_⟩
  · have h1 : P.underlying e = some (.int .u8) := und_int hte (isU8T_sp hu)
    simp only [convert, Sem.run_bind, run_und (und_slice hte ht), Result.andThen_ok, beq_self_eq_true, run_und h1, markStringish, run_shape, addrOf, hshape, run_freeze, hfz, Sem.run_pure]
  · have hset : (st.setObj h (some (.row false sz n f))) = st := by
      unfold St.setObj
      have hlt := at_lt hob
      have : st.ctx.set h (some (.row false sz n f)) = st.ctx := by
        have h1 : st.ctx[h]? = some (some (.row false sz n f)) := by
          unfold Ctx.at at hob
          rw [List.getD_eq_getElem?_getD, List.getElem?_eq_getElem hlt] at hob
          rw [List.getElem?_eq_getElem hlt]
          simpa using hob
        apply List.ext_getElem?
        intro j
        rw [List.getElem?_set]
        split
        · rename_i hj; subst hj; rw [h1]
        · rfl
      rw [this]
    have := hR.write (o' := .row false sz n f) hob rfl rfl hL' (.cells c e' (if fr.1 == fr.2 then (c.size, c.size + 1) else (min fr.1 c.size, max fr.2 (c.size + 1)))) (by
      unfold objSat
      refine .inr ⟨L, c, e', (if fr.1 == fr.2 then (c.size, c.size + 1) else (min fr.1 c.size, max fr.2 (c.size + 1))), hL', ⟨by simp only [heap_setB, if_true, if_pos hb], hc.lsz, hc.room, hc.fits, hc.cell, fun _ => ?_⟩⟩
      right
      rcases hc.free rfl with h1 | h1
      · simp [h1]
      · split
        · exact Nat.le_refl _
        · simp; omega)
    rw [hset] at this
    exact this

theorem run_unit {P : Program} {s : Sem Unit} {w w' : World} (h : s.run P w = .ok () w') : ((do s; pure .skip) : Sem Next).run P w = .ok .skip w' := by simp [h]

theorem xappend_sound {P : Program} {te : TE} (hte : teOk P te) {A : Amb} {σ : Asg} {st : St} {a : Act} {w : World} (hR : Rel A σ st a w) {t xt : TypeId} (hxt : match tdOf te xt with | .slice _ => True | .str => True | _ => False)
    {s x : SV} {vs vx : Value} (hs : rel σ s vs) (hx : rel σ x vx) {K : SV → St → Prop} (ty : TypeId) (h : xappend te st t s x K) :
    ∃ z st' v σ' w', K z st' ∧ (Builtin.append_ #[t, xt] ty #[vs, vx]).run P w = .ok v w' ∧ leA σ σ' ∧ rel σ' z v ∧ Rel A σ' st' a w' := by
  unfold xappend at h
  split at h
  · rename_i e ht
    split at h
    · rename_i ti hti
      obtain ⟨hz, hb, h⟩ := h
      split at h
      · obtain ⟨m, g, h, hsrc⟩ := xsrc_sound (P := P) hR hx h
        obtain ⟨hroom, h⟩ := h.out
        simp only [rel] at hs
        subst hs
        obtain ⟨v, σ', w', h1, h2, h3, h4⟩ := append_nil hte hR ht hti hxt hz hb hsrc ty hroom
        exact ⟨_, _, v, σ', w', h, h1, h2, h3, h4⟩
      · rename_i hh lo len
        split at h
        · rename_i sz' n f hob
          obtain ⟨rfl, h⟩ := h
          obtain ⟨m, g, h, hsrc⟩ := xsrc_sound (P := P) hR hx h
          obtain ⟨⟨hin, hroom⟩, h⟩ := h.out
          obtain ⟨v, σ', w', h1, h2, h3, h4⟩ := append_row hte hR ht hti hxt hz hb hob hin hs hsrc ty hroom
          exact ⟨_, _, v, σ', w', h, h1, h2, h3, h4⟩
        · exact h.elim
      · exact h.elim
    · exact h.elim
  · exact h.elim

theorem xmem_sound {P : Program} {te : TE} (hte : teOk P te) {A : Amb} {σ : Asg} {st : St} {a : Act} {w : World} (hR : Rel A σ st a w) {o : Oper} {K : SV → St → Prop}
    (h : xmem te st o.op K) : OutM P A σ a w (execOp a.eval o) K := by
  obtain ⟨dst, op, ty, pos, after, guard⟩ := o
  simp only at h ⊢
  unfold xmem at h
  split at h
  case h_1 t =>
    split at h
    · rename_i ti hti
      obtain ⟨v, σ', w', h1, h2, h3, h4⟩ := alloc_sound hte hR hti
      exact ⟨_, _, v, σ', w', h, .inl (lift_val h1), h2, h3, h4⟩
    · exact h.elim
  case h_2 t x =>
    obtain ⟨hok, h⟩ := h
    obtain ⟨v, σ', w', h1, h2, h3, h4⟩ := box_sound (P := P) hR (t := t) hok (hR.ev x)
    exact ⟨_, _, v, σ', w', h, .inl (lift_val h1), h2, h3, h4⟩
  case h_3 t x y =>
    split at h
    · rename_i hh i k hx
      split at h
      · rename_i ob ti hob hti
        obtain ⟨hm, hro, hok, hlen, hall, hel, hk, h⟩ := h
        obtain ⟨hi, h⟩ := h.out
        obtain ⟨w', h1, h2⟩ := store_sound hte hR hti hob hm hro hi hok hlen hall hel hk (by have := hR.ev x; rw [hx] at this; exact this) (hR.ev y)
        exact ⟨_, _, undef, σ, w', h, .inr ⟨run_unit h1, rfl⟩, leA.refl σ, by simp [rel], h2⟩
      · exact h.elim
    · exact h.elim
  case h_4 t r =>
    obtain ⟨hr, h⟩ := h
    have hrun : ∀ kt vt, tdOf te t = .map kt vt → (Instr.makeMap t (r.map a.eval)).run P w = .ok (.map (some w.heap.size)) { w with heap := w.heap.push (.map #[] 0) } := by
      intro kt vt ht
      cases r with
      | none => simp [Instr.makeMap]
      | some x =>
        simp only at hr
        split at hr
        · rename_i k n hx
          have := hR.ev x
          rw [hx] at this
          simp only [rel] at this
          simp [Instr.makeMap, run_und (und_map hte ht), this, asInt, asIntOf]
        · exact hr.elim
    split at h
    · rename_i kt vt ht
      split at h
      · obtain ⟨σ', h1, h2, h3⟩ := makeMap_sound (P := P) hR (.mapS []) rfl rfl rfl
        exact ⟨_, _, _, σ', _, h, .inl (lift_val (hrun kt vt ht)), h1, h2, h3⟩
      · obtain ⟨σ', h1, h2, h3⟩ := makeMap_sound (P := P) hR (.mapI []) rfl rfl rfl
        exact ⟨_, _, _, σ', _, h, .inl (lift_val (hrun kt vt ht)), h1, h2, h3⟩
      · exact h.elim
    · exact h.elim
  case h_5 t m k x =>
    split at h
    · rename_i hh s v kt vt hm hk hx ht
      split at h
      · rename_i l hob
        obtain ⟨hkt, h⟩ := h
        have e1 := hR.ev m
        have e2 := hR.ev k
        have e3 := hR.ev x
        rw [hm] at e1
        rw [hk] at e2
        rw [hx] at e3
        simp only [rel] at e2 e3
        obtain ⟨w', h1, h2⟩ := update_sound hte hR keyS ht (und_str hte hkt) (o' := .mapS (updS l s v)) (x := v) hob rfl rfl rfl rfl rfl rfl e1
        refine ⟨_, _, undef, σ, w', h, .inr ⟨run_unit ?_, rfl⟩, leA.refl σ, by simp [rel], h2⟩
        rw [e2, e3]; exact h1
      · exact h.elim
    · rename_i hh s v kt vt hm hk hx ht
      split at h
      · rename_i l hob
        obtain ⟨hkt, h⟩ := h
        have e1 := hR.ev m
        have e2 := hR.ev k
        have e3 := hR.ev x
        rw [hm] at e1
        rw [hk] at e2
        rw [hx] at e3
        simp only [rel] at e2 e3
        obtain ⟨w', h1, h2⟩ := update_sound hte hR keyI ht (und_int hte hkt) (o' := .mapI (updS l s v)) (x := v) hob rfl rfl rfl rfl rfl rfl e1
        refine ⟨_, _, undef, σ, w', h, .inr ⟨run_unit ?_, rfl⟩, leA.refl σ, by simp [rel], h2⟩
        rw [e2, e3]; exact h1
      · exact h.elim
    · exact h.elim
  case h_6 t m k x =>
    split at h
    · rename_i hh s v kt vt hm hk hx ht
      split at h
      · rename_i l hob
        obtain ⟨hkt, h⟩ := h
        have e1 := hR.ev m
        have e2 := hR.ev k
        have e3 := hR.ev x
        rw [hm] at e1
        rw [hk] at e2
        rw [hx] at e3
        simp only [rel] at e2 e3
        obtain ⟨w', h1, h2⟩ := update_sound hte hR keyS ht (und_str hte hkt) (o' := .mapS (updS l s v)) (x := v) hob rfl rfl rfl rfl rfl rfl e1
        refine ⟨_, _, undef, σ, w', h, .inr ⟨run_unit ?_, rfl⟩, leA.refl σ, by simp [rel], h2⟩
        rw [e2, e3]; exact h1
      · exact h.elim
    · rename_i hh s v kt vt hm hk hx ht
      split at h
      · rename_i l hob
        obtain ⟨hkt, h⟩ := h
        have e1 := hR.ev m
        have e2 := hR.ev k
        have e3 := hR.ev x
        rw [hm] at e1
        rw [hk] at e2
        rw [hx] at e3
        simp only [rel] at e2 e3
        obtain ⟨w', h1, h2⟩ := update_sound hte hR keyI ht (und_int hte hkt) (o' := .mapI (updS l s v)) (x := v) hob rfl rfl rfl rfl rfl rfl e1
        refine ⟨_, _, undef, σ, w', h, .inr ⟨run_unit ?_, rfl⟩, leA.refl σ, by simp [rel], h2⟩
        rw [e2, e3]; exact h1
      · exact h.elim
    · exact h.elim
  case h_7 t len parts =>
    split at h
    · rename_i e ht
      split at h
      · rename_i ti hti
        obtain ⟨hz, hlen, hall, h⟩ := h
        split at h
        · rename_i l hf
          obtain ⟨v, σ', w', h1, h2, h3, h4⟩ := buildSlice_sound hte hR ht hti hz hlen (ps := parts.toList.map fun p => (p.1, st.ev p.2)) (vs := parts.map fun p => (p.1, a.eval p.2)) (by simp) (by
            intro j i x hj
            simp only [List.getElem?_map, Option.map_eq_some_iff, Prod.mk.injEq] at hj
            obtain ⟨p, hp, rfl, rfl⟩ := hj
            refine ⟨a.eval p.2, ?_, List.all_eq_true.1 hall p (List.mem_of_getElem? hp), hR.ev p.2⟩
            simp [hp]) hf
          exact ⟨_, _, v, σ', w', h, .inl (lift_val h1), h2, h3, h4⟩
        · exact h.elim
      · exact h.elim
    · exact h.elim
  case h_8 t l c =>
    split at h
    · rename_i e n m ht hl hc
      split at h
      · rename_i ti hti
        obtain ⟨hz, h⟩ := h
        obtain ⟨⟨b0, b1, b2, b3⟩, h⟩ := h.out
        obtain ⟨v, σ', w', h1, h2, h3, h4⟩ := makeSlice_sound hte hR ht hti hz b0 b1 b2 b3
        refine ⟨_, _, v, σ', w', h, .inl (lift_val ?_), h2, h3, h4⟩
        have e1 := hR.ev l
        have e2 := hR.ev c
        rw [hl] at e1
        rw [hc] at e2
        simp only [rel] at e1 e2
        rw [e1, e2]; exact h1
      · exact h.elim
    · exact h.elim
  case h_9 s d x =>
    obtain ⟨rfl, h⟩ := h
    split at h
    · rename_i hh lo len e hx ht
      obtain ⟨hu, hlen, hrow, h⟩ := h
      split at hrow
      · rename_i sz n f hob
        have e1 := hR.ev x
        rw [hx] at e1
        obtain ⟨w', h1, h2⟩ := mark_sound hte hR ht hu hob hlen e1
        exact ⟨_, _, _, σ, w', h, .inl (lift_val h1), leA.refl σ, e1, h2⟩
      · exact hrow.elim
    · exact h.elim
  case h_10 args ts =>
    split at h
    · rename_i s x t xt ha hts
      obtain ⟨hxt, h⟩ := h
      have ha' : args = #[s, x] := by rw [← Array.toList_inj]; simpa using ha
      have hts' : ts = #[t, xt] := by rw [← Array.toList_inj]; simpa using hts
      subst ha' hts'
      obtain ⟨z, st', v, σ', w', hK, h1, h2, h3, h4⟩ := xappend_sound hte hR hxt (hR.ev s) (hR.ev x) ty h
      refine ⟨z, st', v, σ', w', hK, .inl ?_, h2, h3, h4⟩
      simp [execOp, resolve, invoke, builtin, h1]
    · exact h.elim
  case h_11 => exact h.elim
end Go.Vg
end
section
set_option linter.unusedVariables false
set_option linter.unusedSimpArgs false
namespace Go.Vg
set_option linter.unusedSectionVars false
variable [Go.Vg.Glob]
set_option linter.unusedVariables false
set_option linter.unusedSimpArgs false
open Go.RowKit

def mkgd (c : Bool) (z : SV) : SV :=
  match z with
  | .gd g v => .gd (c && g) v
  | v => .gd c v

theorem mkgd_rel {σ : Asg} {c : Bool} {z : SV} {v : Value} (h1 : c = true → rel σ z v) (h2 : c = false → v = undef) : rel σ (mkgd c z) v := by
  unfold mkgd
  split
  · rename_i g x
    simp only [rel] at h1 ⊢
    refine ⟨fun h => ?_, fun h => ?_⟩
    · simp only [Bool.and_eq_true] at h
      exact (h1 h.1).1 h.2
    · cases c with
      | false => exact h2 rfl
      | true => exact (h1 rfl).2 (by simpa using h)
  · simp only [rel]
    exact ⟨h1, h2⟩

/-- The condition under which a guarded operation is carried out. -/
def guardC (want : Bool) (x : SV) (K : Bool → Prop) : Prop :=
  match x with
  | .b e => K (if want then e else !e)
  | .gd g (.b e) => K (g && (if want then e else !e))
  | _ => False

def dstOf (ops : Array Oper) (j : Nat) : Option Tmp := (ops[j]?).bind (·.dst)

theorem guardC_sound {σ : Asg} {ops : Array Oper} {a : Act} {st : St} (henv : ∀ t, rel σ (look st.env t) (a.tmps.getD t undef)) {j d : Nat} {want : Bool} (hd : dstOf ops j = some d) {K : Bool → Prop} (h : guardC want (look st.env d) K) :
    ∃ c, K c ∧ (yielded ops a.tmps j == some want) = c := by
  have h0 := henv d
  have hy : ∀ e, a.tmps.getD d undef = .bool e → yielded ops a.tmps j = some e := by
    intro e he
    have : a.tmps[d]? = some (.bool e) := by
      rw [Array.getD_eq_getD_getElem?] at he
      cases h1 : a.tmps[d]? with
      | none => rw [h1] at he; simp [undef] at he
      | some x => rw [h1] at he; simpa using he
    unfold yielded
    unfold dstOf at hd
    simp [hd, this]
  unfold guardC at h
  split at h
  · rename_i e he
    rw [he] at h0
    simp only [rel] at h0
    refine ⟨_, h, ?_⟩
    rw [hy e h0]
    cases want <;> cases e <;> rfl
  · rename_i g e he
    rw [he] at h0
    simp only [rel] at h0
    refine ⟨_, h, ?_⟩
    cases g with
    | true =>
      rw [hy e (h0.1 rfl)]
      cases want <;> cases e <;> rfl
    | false =>
      have h1 := h0.2 rfl
      have : yielded ops a.tmps j = none := by
        unfold yielded
        unfold dstOf at hd
        rw [hd]
        simp only [Option.bind_some]
        rw [Array.getD_eq_getD_getElem?] at h1
        cases h2 : a.tmps[d]? with
        | none => rfl
        | some x => rw [h2] at h1; simp only [Option.getD_some] at h1; subst h1; rfl
      rw [this]
      cases want <;> rfl
  · exact h.elim

def putS (nt : Nat) (st : St) (d : Option Tmp) (z : SV) (K : St → Prop) : Prop :=
  match d with
  | none => K st
  | some d => d < nt ∧ K ⟨(d, z) :: st.env, st.ctx⟩

theorem putS_sound {A : Amb} {σ : Asg} {st : St} {a : Act} {w : World} (hR : Rel A σ st a w) {d : Option Tmp} {z : SV} {v : Value} (hv : rel σ z v) {K : St → Prop} (h : putS A.nt st d z K) : ∃ st', K st' ∧ Rel A σ st' (a.put d v) w := by
  unfold putS at h
  cases d with
  | none => exact ⟨st, h, hR⟩
  | some d =>
    obtain ⟨hd, h⟩ := h
    refine ⟨_, h, ⟨hR.defers, by simp [Act.put, hR.size], fun t => ?_, hR.sat, hR.fr, hR.own, hR.base, hR.klen⟩⟩
    simp only [look, Act.put]
    rw [Array.getD_eq_getD_getElem?, Array.getElem?_setIfInBounds]
    by_cases ht : d = t
    · subst ht
      rw [if_pos rfl, if_pos rfl, if_pos (by rw [hR.size]; exact hd)]
      exact hv
    · rw [if_neg ht, if_neg ht]
      have := hR.env t
      rwa [Array.getD_eq_getD_getElem?] at this

/-- Classes of operations: 0 no memory, 1 reads, 2 turns memory, 3 a call. -/
def opClass (te : TE) : Op → Nat
  | .load _ _ => 1
  | .lookup _ _ _ _ => 1
  | .convert s d _ => match tdOf te s, tdOf te d with
    | .slice _, .str => 1
    | .slice _, .slice _ => 2
    | _, _ => 0
  | .alloc _ => 2
  | .box _ _ => 2
  | .store _ _ _ => 2
  | .makeMap _ _ => 2
  | .mapUpdate _ _ _ _ => 2
  | .insert _ _ _ _ => 2
  | .buildSlice _ _ _ => 2
  | .makeSlice _ _ _ => 2
  | .call c => match c.callee with
    | .builtin .append => 2
    | .builtin _ => 0
    | .value _ => 3
    | .invoke _ _ => 4
  | _ => 0

def calleeS (st : St) : Op → Option FuncId
  | .call c => match c.callee with
    | .value x => match st.ev x with
      | .fn f => some f
      | _ => none
    | _ => none
  | _ => none

def argsS (st : St) : Op → List SV
  | .call c => c.args.toList.map st.ev
  | _ => []

/-- A function that has a Go body, and is no mark of the runtime's. -/
def bodyOk (P : Program) (f : FuncId) : Prop := ∃ fn, P.funcs[f]? = some fn ∧ fn.body.isSome = true ∧ (fn.name == "runtime.NumGoroutine") = false

/-- What a call of 'f' does, told over the caller's own state: the objects that lie under the first 'kk' numbers stay where they are. -/
def XCall (P : Program) (f : FuncId) (args : List SV) (kk : Nat) (st : St) (K : SV → St → Prop) : Prop :=
  bodyOk P f ∧ ∀ (A : Amb) (σ : Asg) (a : Act) (w : World) (vs : Array Value), A.k ≤ kk → A.gr = true → Rel A σ st a w → relL σ args vs.toList →
    Calls P f vs w fun e w' => ∃ v z st' σ', e = .returned v ∧ K z st' ∧ rel σ' z v ∧ Rel A σ' st' a w'

theorem XCall.mono {P : Program} {f : FuncId} {args : List SV} {kk : Nat} {st : St} {K K' : SV → St → Prop} (h : XCall P f args kk st K) (hk : ∀ z s, K z s → K' z s) : XCall P f args kk st K' :=
  ⟨h.1, fun A σ a w vs h1 h2 h3 h4 => (h.2 A σ a w vs h1 h2 h3 h4).mono fun e w' ⟨v, z, s, σ', e1, e2, e3⟩ => ⟨v, z, s, σ', e1, hk _ _ e2, e3⟩⟩

/-- What a call of 'f' does that turns nothing: from values without handles to a value without handles; what it returns may lie in new, frozen blocks. -/
def CallPure (P : Program) (f : FuncId) (args : List SV) (z : SV) : Prop :=
  bodyOk P f ∧ plainL args = true ∧ z.plain = true ∧ ∀ (fz : Nat → Option Obj) (w : World) (vs : Array Value), (∀ b o, fz b = some o → w.heap[b]? = some o) → (∀ b o, Glob.g b = some o → fz b = some o) → relL ⟨fun _ => none, fz⟩ args vs.toList →
    Calls P f vs w fun e w' => ∃ v fz', e = .returned v ∧ rel ⟨fun _ => none, fz'⟩ z v ∧ Fr (fun _ => False) w w' ∧ (∀ b o, fz b = some o → fz' b = some o) ∧
      (∀ b o, fz' b = some o → w'.heap[b]? = some o) ∧ (∀ b o, fz' b = some o → fz b = some o ∨ w.heap.size ≤ b)

/-- What a call of a function that the model stands in for comes to: at once, and the world is as it was. -/
def CallExt (P : Program) (f : FuncId) (args : List SV) (z : SV) : Prop :=
  plainL args = true ∧ z.bit = true ∧ ∀ (fz : Nat → Option Obj) (w : World) (vs : Array Value), (∀ b o, fz b = some o → w.heap[b]? = some o) → relL ⟨fun _ => none, fz⟩ args vs.toList →
    ∃ v, (callFunc f vs).run P w = .ok (.value v) w ∧ rel ⟨fun _ => none, fz⟩ z v

/-- A table of functions that turn nothing: number, and from arguments: what is to be shown, and the result. 'k': how many of the first objects stay where they lie. -/
abbrev PE := List SV → Option (Prop × SV)
structure PT where
  l : List (FuncId × PE)
  k : Nat
  gr : Bool
def ptOfL : List (FuncId × PE) → FuncId → Option PE
  | [], _ => none
  | e :: r, f => if e.1 = f then some e.2 else ptOfL r f
def ptOf (pt : PT) (f : FuncId) : Option PE := ptOfL pt.l f
def PE1 (P : Program) (f : FuncId) (g : PE) : Prop := ∀ args p z, g args = some (p, z) → p → CallPure P f args z ∨ CallExt P f args z
def PTokL (P : Program) : List (FuncId × PE) → Prop
  | [] => True
  | e :: r => PE1 P e.1 e.2 ∧ PTokL P r
def PTok (P : Program) (pt : PT) : Prop := PTokL P pt.l
theorem PTokL.get {P : Program} : ∀ {l : List (FuncId × PE)} {f : FuncId} {g : PE}, PTokL P l → ptOfL l f = some g → PE1 P f g
  | e :: r, f, g, h, hg => by
    simp only [ptOfL] at hg
    split at hg
    · rename_i he; cases hg; subst he; exact h.1
    · exact h.2.get hg
theorem PTok.get {P : Program} {pt : PT} {f : FuncId} {g : PE} (h : PTok P pt) (hg : ptOf pt f = some g) : PE1 P f g := PTokL.get h hg

/-! Rows lent to a function that only reads: for the time of the call they are frozen. -/

def rowList (f : Nat → List SV) (lo len : Nat) : List (List SV) := (List.range len).map fun j => f (lo + j)

mutual
def frzV (ctx : Ctx) : SV → SV
  | .slc h lo len => match ctx.at h with
    | some (.row _ sz _ f) => .fs sz (rowList f lo len)
    | _ => .slc h lo len
  | .agg l => .agg (frzVL ctx l)
  | .tup l => .tup (frzVL ctx l)
  | x => x
def frzVL (ctx : Ctx) : List SV → List SV
  | [] => []
  | x :: xs => frzV ctx x :: frzVL ctx xs
end

mutual
def frzOk (ctx : Ctx) : SV → Prop
  | .slc h lo len => match ctx.at h with
    | some (.row _ sz n f) => lo + len ≤ n ∧ ∀ j, j < len → (f (lo + j)).length = sz ∧ plainL (f (lo + j)) = true
    | _ => True
  | .agg l => frzOkL ctx l
  | .tup l => frzOkL ctx l
  | _ => True
def frzOkL (ctx : Ctx) : List SV → Prop
  | [] => True
  | x :: xs => frzOk ctx x ∧ frzOkL ctx xs
end

theorem cell_at {σ : Asg} {w : World} {L : Loc} {ro : Bool} {sz n : Nat} {f : Nat → List SV} {c : Array Value} {e : TypeId} {fr : Nat × Nat} (h : cellsAt σ w L (.row ro sz n f) c e fr) {i : Nat} (hi : i < n) (hl : (f i).length = sz) :
    relL σ (f i) ((c.toList.drop (L.sh + i * sz)).take sz) := by
  obtain ⟨vs, h1, h2, h3⟩ := cells_list h (i := i) (k := 0) (n := sz) hi (by simp [SO.sz])
  have hsz : L.sz = sz := h.lsz
  have hv : (c.toList.drop (L.sh + i * sz)).take sz = vs := by
    apply List.ext_getElem?
    intro j
    rw [List.getElem?_take]
    by_cases hj : j < sz
    · rw [if_pos hj, List.getElem?_drop]
      have := h2 j (vs[j]'(by omega)) (List.getElem?_eq_getElem (by omega))
      rw [hsz] at this
      rw [List.getElem?_eq_getElem (show j < vs.length by omega)]
      simpa using this
    · rw [if_neg hj, List.getElem?_eq_none (by omega)]
  rw [hv]
  refine relL_of_get (by omega) fun j x v hx hv => ?_
  have := h3 j v hv
  simp only [SO.el, Nat.zero_add] at this
  rw [List.getD_eq_getElem?_getD, hx] at this
  exact this

mutual
theorem frz_rel {σ : Asg} {w : World} {ctx : Ctx} (hs : Sat σ w ctx) : ∀ {x : SV} {v : Value}, frzOk ctx x → (frzV ctx x).plain = true → rel σ x v → rel ⟨fun _ => none, fun b => w.heap[b]?⟩ (frzV ctx x) v
  | .slc h lo len, v, hok, hp, hr => by
    simp only [frzV] at hp ⊢
    simp only [frzOk] at hok
    split at hp
    · rename_i ro sz n f hob
      rw [hob] at hok
      obtain ⟨hn, hel⟩ := hok
      simp only [rel] at hr ⊢
      obtain ⟨a, cap, rfl, hl, hr⟩ := hr
      have hlen : (rowList f lo len).length = len := by simp [rowList]
      refine ⟨a, cap, by rw [hlen], by rw [hlen]; exact hl, ?_⟩
      by_cases h0 : len = 0
      · left; subst h0; rfl
      right
      rcases hr with hr | ⟨L, hL, rfl, hav⟩
      · omega
      have hobj := hs.obj h _ hob
      unfold objSat at hobj
      simp only [SO.isMap] at hobj
      rcases hobj with ⟨_, h1⟩ | ⟨L', c, e, fr, hL', hc⟩
      · rw [h1] at hL; cases hL
      rw [hL'] at hL
      cases hL
      have hsz : L.sz = sz := hc.lsz
      refine ⟨L.b, L.sh + lo * L.sz + 0, c, e, fr, rfl, hc.heap, relR_of_get fun j x hx => ?_⟩
      have hj : j < len := by rw [← hlen]; exact (List.getElem?_eq_some_iff.1 hx).1
      have hx' : x = f (lo + j) := by simpa [rowList, hj] using hx.symm
      subst hx'
      obtain ⟨e1, e2⟩ := hel j hj
      refine ⟨e1, ?_⟩
      have := cell_at hc (i := lo + j) (by omega) e1
      rw [List.drop_drop, hsz, show L.sh + lo * sz + 0 + j * sz = L.sh + (lo + j) * sz by rw [Nat.add_mul]; omega]
      exact relL_plain (fun b o hb => hs.frz b o hb) e2 this
    · simp [SV.plain] at hp
  | .agg l, v, hok, hp, hr => by
    simp only [frzV, frzOk, SV.plain, rel] at hok hp hr ⊢
    obtain ⟨cs, e, hr⟩ := hr
    exact ⟨cs, e, frzL_rel hs hok hp hr⟩
  | .tup l, v, hok, hp, hr => by
    simp only [frzV, frzOk, SV.plain, rel] at hok hp hr ⊢
    obtain ⟨cs, e, hr⟩ := hr
    exact ⟨cs, e, frzL_rel hs hok hp hr⟩
  | .b _, _, _, hp, hr => rel_plain (fun b o hb => hs.frz b o hb) hp hr
  | .i _ _, _, _, hp, hr => rel_plain (fun b o hb => hs.frz b o hb) hp hr
  | .s _, _, _, hp, hr => rel_plain (fun b o hb => hs.frz b o hb) hp hr
  | .ptr _ _ _, _, _, hp, hr => rel_plain (fun b o hb => hs.frz b o hb) hp hr
  | .nils, _, _, hp, hr => rel_plain (fun b o hb => hs.frz b o hb) hp hr
  | .mp _, _, _, hp, hr => rel_plain (fun b o hb => hs.frz b o hb) hp hr
  | .fn _, _, _, hp, hr => rel_plain (fun b o hb => hs.frz b o hb) hp hr
  | .gd _ _, _, _, hp, hr => rel_plain (fun b o hb => hs.frz b o hb) hp hr
  | .u, _, _, hp, hr => rel_plain (fun b o hb => hs.frz b o hb) hp hr
  | .fs _ _, _, _, hp, hr => rel_plain (fun b o hb => hs.frz b o hb) hp hr
  | .fp _ _, _, _, hp, hr => rel_plain (fun b o hb => hs.frz b o hb) hp hr
theorem frzL_rel {σ : Asg} {w : World} {ctx : Ctx} (hs : Sat σ w ctx) : ∀ {x : List SV} {v : List Value}, frzOkL ctx x → plainL (frzVL ctx x) = true → relL σ x v → relL ⟨fun _ => none, fun b => w.heap[b]?⟩ (frzVL ctx x) v
  | [], _, _, _, hr => by simpa [relL, frzVL] using hr
  | x :: xs, _, hok, hp, hr => by
    simp only [relL, frzVL, plainL, frzOkL, Bool.and_eq_true] at hok hp hr ⊢
    obtain ⟨v, q, e, r1, r2⟩ := hr
    exact ⟨v, q, e, frz_rel hs hok.1 hp.1 r1, frzL_rel hs hok.2 hp.2 r2⟩
end

mutual
theorem frzV_plain {ctx : Ctx} : ∀ {x : SV}, x.plain = true → frzV ctx x = x
  | .agg l, h => by simp only [frzV]; rw [frzVL_plain (by simpa [SV.plain] using h)]
  | .slc _ _ _, h => by simp [SV.plain] at h
  | .b _, _ => rfl
  | .i _ _, _ => rfl
  | .s _, _ => rfl
  | .ptr _ _ _, _ => rfl
  | .nils, _ => rfl
  | .mp _, _ => rfl
  | .fn _, _ => rfl
  | .tup l, h => by simp only [frzV]; rw [frzVL_plain (by simpa [SV.plain] using h)]
  | .gd _ _, _ => rfl
  | .u, _ => rfl
  | .fs _ _, _ => rfl
  | .fp _ _, _ => rfl
theorem frzVL_plain {ctx : Ctx} : ∀ {x : List SV}, plainL x = true → frzVL ctx x = x
  | [], _ => rfl
  | x :: xs, h => by
    simp only [plainL, Bool.and_eq_true] at h
    simp only [frzVL, frzV_plain h.1, frzVL_plain h.2]
end

/-- More is known to be frozen, all else stands. -/
theorem Rel.froze {A : Amb} {σ : Asg} {st : St} {a : Act} {w w' : World} (hR : Rel A σ st a w) (hf : Fr (fun _ => False) w w') {fz' : Nat → Option Obj} (h1 : ∀ b o, σ.fz b = some o → fz' b = some o) (h2 : ∀ b o, fz' b = some o → w'.heap[b]? = some o)
    (h3 : ∀ b o, fz' b = some o → σ.fz b = some o ∨ (A.gr = true ∧ w.heap.size ≤ b)) : leA σ ⟨σ.loc, fz'⟩ ∧ Rel A ⟨σ.loc, fz'⟩ st a w' := by
  have hle : leA σ ⟨σ.loc, fz'⟩ := ⟨fun _ _ h => h, h1⟩
  refine ⟨hle, hR.defers, hR.size, fun t => rel_mono hle (hR.env t), ⟨fun h o e => ?_, hR.sat.apart, hR.sat.beyond, fun h L e => Nat.lt_of_lt_of_le (hR.sat.inHeap h L e) hf.size, h2, fun h o L e r s => ?_, fun b o e => h1 b o (hR.sat.glb b o e)⟩, ?_, hR.own, ⟨hR.base.loc, fun b o h => h1 b o (hR.base.fzb b o h), fun b o h => ?_⟩, hR.klen⟩
  · exact objSat_same hle rfl (fun L hL => hf.block _ (hR.sat.inHeap h L hL) (fun h => h)) (hR.sat.obj h o e)
  · show fz' L.b = none
    cases hz : fz' L.b with
    | none => rfl
    | some q =>
      rcases h3 _ _ hz with h4 | ⟨_, h4⟩
      · rw [hR.sat.frzA h o L e r s] at h4; cases h4
      · have := hR.sat.inHeap h L s; omega
  · exact hR.fr.step hf (fun _ _ h => h.elim)
  · rcases h3 b o h with h4 | ⟨hg, h4⟩
    · exact hR.base.fzn b o h4
    · exact .inr ⟨hg, .inr (Nat.le_trans hR.fr.size h4)⟩

/-- May these arguments be lent: the result looks at no memory; or they have no handles, and frozen blocks may be added. -/
def lendOk (args : List SV) (z : SV) (gr : Bool) : Bool := z.bit || (plainL args && gr)

theorem CallPure.use {P : Program} {f : FuncId} {args : List SV} {z : SV} {A : Amb} {σ : Asg} {st : St} {a : Act} {w : World} (hR : Rel A σ st a w) (h : CallPure P f (frzVL st.ctx args) z) (hok : frzOkL st.ctx args) {gr : Bool} (hgr : gr = true → A.gr = true) (hl : lendOk args z gr = true)
    {vs : Array Value} (hvs : relL σ args vs.toList) : Calls P f vs w fun e w' => ∃ v σ', e = .returned v ∧ rel σ' z v ∧ Rel A σ' st a w' := by
  obtain ⟨_, hp, hz, h⟩ := h
  by_cases hb : z.bit = true
  · refine (h (fun b => w.heap[b]?) w vs (fun _ _ h => h) (fun b o h => hR.sat.frz b o (hR.sat.glb b o h)) (frzL_rel hR.sat hok hp hvs)).mono fun e w' ⟨v, fz', e1, e2, e3, e4, e5, e6⟩ => ?_
    refine ⟨v, σ, e1, rel_bit hb e2, ?_⟩
    have hf : ∀ b o, σ.fz b = some o → w'.heap[b]? = some o := fun b o h => e5 b o (e4 b o (hR.sat.frz b o h))
    exact (hR.froze e3 (fun _ _ h => h) hf (fun _ _ h => .inl h)).2
  · unfold lendOk at hl
    simp only [hb, Bool.false_or, Bool.and_eq_true] at hl
    obtain ⟨hpl, hg⟩ := hl
    rw [frzVL_plain hpl] at h
    refine (h σ.fz w vs hR.sat.frz hR.sat.glb (relL_plain (σ := σ) (σ' := ⟨fun _ => none, σ.fz⟩) (fun _ _ h => h) hpl hvs)).mono fun e w' ⟨v, fz', e1, e2, e3, e4, e5, e6⟩ => ?_
    obtain ⟨_, hR'⟩ := hR.froze e3 e4 e5 (fun b o h => (e6 b o h).imp id fun h => ⟨hgr hg, h⟩)
    exact ⟨v, ⟨σ.loc, fz'⟩, e1, rel_plain (σ := ⟨fun _ => none, fz'⟩) (σ' := ⟨σ.loc, fz'⟩) (fun _ _ h => h) hz e2, hR'⟩

/-- Arguments that were worked out under a guard, without it. -/
def strip : SV → SV
  | .gd _ x => x
  | x => x
def stripL : List SV → List SV
  | [] => []
  | x :: xs => strip x :: stripL xs
def gok : SV → Prop
  | .gd g _ => g = true
  | _ => True
def gokL : List SV → Prop
  | [] => True
  | x :: xs => gok x ∧ gokL xs
theorem strip_rel {σ : Asg} {x : SV} {v : Value} (h : gok x) (hr : rel σ x v) : rel σ (strip x) v := by
  cases x <;> first | exact hr | (simp only [gok] at h; simp only [rel] at hr; exact hr.1 h)
theorem stripL_rel {σ : Asg} : ∀ {l : List SV} {vs : List Value}, gokL l → relL σ l vs → relL σ (stripL l) vs
  | [], _, _, hr => hr
  | x :: xs, _, h, hr => by
    simp only [relL, stripL] at hr ⊢
    obtain ⟨v, r, e, h1, h2⟩ := hr
    exact ⟨v, r, e, strip_rel h.1 h1, stripL_rel h.2 h2⟩

/-- One operation under the condition 'c' ('g': it bears a guard); 'sp': the two ways of a guard are gone apart. -/
def XOne (P : Program) (te : TE) (wr : Bool) (nt : Nat) (pt : PT) (g c : Bool) (st : St) (o : Oper) (K : St → Prop) : Prop :=
  match opClass te o.op with
  | 0 => xpure te wr c st o.op fun z => putS nt st o.dst (if g then mkgd c z else z) K
  | 1 => xload te c st o.op fun z => putS nt st o.dst (if g then mkgd c z else z) K
  | 2 => g = false ∧ xmem te st o.op fun z st' => putS nt st' o.dst z K
  | 3 => match calleeS st o.op with
    | some f => match ptOf pt f with
      | some t => match t (frzVL st.ctx (stripL (argsS st o.op))) with
        | some (p, z) => lendOk (stripL (argsS st o.op)) z pt.gr = true ∧ Chk (c = true → gokL (argsS st o.op) ∧ frzOkL st.ctx (stripL (argsS st o.op)) ∧ p) (putS nt st o.dst (if g then mkgd c z else z) K)
        | none => False
      | none => g = false ∧ pt.gr = true ∧ XCall P f (argsS st o.op) pt.k st fun z st' => putS nt st' o.dst z K
    | none => False
  | _ => False

def XStep (P : Program) (te : TE) (wr : Bool) (nt : Nat) (pt : PT) (sp : Bool) (ops : Array Oper) (st : St) (o : Oper) (K : St → Prop) : Prop :=
  match o.guard with
  | none => XOne P te wr nt pt false true st o K
  | some (j, want) => match dstOf ops j with
    | none => False
    | some d => guardC want (look st.env d) fun c =>
        if sp then (c = true → XOne P te wr nt pt false true st o K) ∧ (c = false → putS nt st o.dst (.gd false (.b false)) K)
        else XOne P te wr nt pt true c st o K

/-- Operations in an order, from a state on. -/
def XO (P : Program) (te : TE) (wr : Bool) (nt : Nat) (pt : PT) (sp : Bool) (ops : Array Oper) (K : St → Prop) : List Nat → St → Prop
  | [], st => K st
  | i :: is, st => match ops[i]? with
    | none => False
    | some o => XStep P te wr nt pt sp ops st o (XO P te wr nt pt sp ops K is)

theorem execAny {P : Program} {st : St} {a : Act} {w : World} {σ : Asg} (henv : ∀ x, rel σ (st.ev x) (a.eval x)) {o : Oper} {f : FuncId} (hf : calleeS st o.op = some f) :
    ∃ vs : Array Value, (execOp a.eval o).run P w = (callFunc f vs).run P w ∧ relL σ (argsS st o.op) vs.toList := by
  obtain ⟨dst, op, ty, pos, after, guard⟩ := o
  cases op with
  | call c =>
    obtain ⟨callee, args, ats⟩ := c
    cases callee with
    | value x =>
      simp only [calleeS] at hf
      split at hf
      · rename_i f' hx
        cases hf
        have hv := henv x
        rw [hx] at hv
        simp only [rel] at hv
        refine ⟨args.map a.eval, ?_, ?_⟩
        · simp only [execOp, resolve, Deferred.ofValue, hv, Sem.run_bind, Sem.run_pure, Result.andThen_ok, invoke, Array.append_empty, Array.empty_append]
        · refine relL_of_get (by simp [argsS]) fun j y v hy hv => ?_
          simp only [argsS, List.getElem?_map, Option.map_eq_some_iff] at hy
          obtain ⟨q, hq, rfl⟩ := hy
          simp only [Array.toList_map, List.getElem?_map, Option.map_eq_some_iff] at hv
          obtain ⟨q', hq', rfl⟩ := hv
          rw [hq] at hq'
          cases hq'
          exact henv q
      · cases hf
    | builtin b => simp [calleeS] at hf
    | invoke r m => simp [calleeS] at hf
  | _ => simp [calleeS] at hf

theorem execCall {P : Program} {st : St} {a : Act} {w : World} {σ : Asg} (henv : ∀ x, rel σ (st.ev x) (a.eval x)) {o : Oper} {f : FuncId} (hf : calleeS st o.op = some f) (hb : bodyOk P f) :
    ∃ vs : Array Value, (execOp a.eval o).run P w = .ok (.enter f vs) w ∧ relL σ (argsS st o.op) vs.toList := by
  obtain ⟨dst, op, ty, pos, after, guard⟩ := o
  cases op with
  | call c =>
    obtain ⟨callee, args, ats⟩ := c
    cases callee with
    | value x =>
      simp only [calleeS] at hf
      split at hf
      · rename_i f' hx
        cases hf
        have hv := henv x
        rw [hx] at hv
        simp only [rel] at hv
        obtain ⟨fn, h1, h2, h4⟩ := hb
        refine ⟨args.map a.eval, ?_, ?_⟩
        · simp only [execOp, resolve, Deferred.ofValue, hv, Sem.run_bind, Sem.run_pure, Result.andThen_ok, invoke, callFunc, run_program, h1, h4]
          have : fn.body.isNone = false := by cases hfb : fn.body <;> simp_all
          simp [this]
        · refine relL_of_get (by simp [argsS]) fun j y v hy hv => ?_
          simp only [argsS, List.getElem?_map, Option.map_eq_some_iff] at hy
          obtain ⟨q, hq, rfl⟩ := hy
          simp only [Array.toList_map, List.getElem?_map, Option.map_eq_some_iff] at hv
          obtain ⟨q', hq', rfl⟩ := hv
          rw [hq] at hq'
          cases hq'
          exact henv q
      · cases hf
    | builtin b => simp [calleeS] at hf
    | invoke r m => simp [calleeS] at hf
  | _ => simp [calleeS] at hf

theorem wp_value {P : Program} {o : Oper} {a : Act} {w w' : World} {v : Value} {next : Act → World → Prop} {Q : Exit → Act → World → Prop} (h : (execOp a.eval o).run P w = .ok (.value v) w') (hn : next (a.put o.dst v) w') : o.wp P a w next Q := by
  unfold Oper.wp
  rw [h]
  exact hn

theorem wp_skip' {P : Program} {o : Oper} {a : Act} {w w' : World} {next : Act → World → Prop} {Q : Exit → Act → World → Prop} (h : (execOp a.eval o).run P w = .ok .skip w') (hn : next (a.put o.dst undef) w') : o.wp P a w next Q := by
  unfold Oper.wp
  rw [h]
  exact hn

theorem wp_enter {P : Program} {o : Oper} {a : Act} {w : World} {f : FuncId} {vs : Array Value} {next : Act → World → Prop} {Q : Exit → Act → World → Prop} (h : (execOp a.eval o).run P w = .ok (.enter f vs) w)
    (hn : Calls P f vs w fun e w' => ∃ v, e = .returned v ∧ next (a.put o.dst v) w') : o.wp P a w next Q := by
  unfold Oper.wp
  rw [h]
  refine Calls.mono hn fun e w' he => ?_
  obtain ⟨v, rfl, hv⟩ := he
  exact hv

theorem gd_put {A : Amb} {σ : Asg} {st : St} {a : Act} {w : World} {K : St → Prop} {o : Oper} {g c : Bool} {z : SV} (hR : Rel A σ st a w) (hK : putS A.nt st o.dst (if g then mkgd c z else z) K) (hgc : g = false → c = true) :
    (∀ v, c = true → rel σ z v → ∃ st', K st' ∧ Rel A σ st' (a.put o.dst v) w) ∧ (c = false → ∃ st', K st' ∧ Rel A σ st' (a.put o.dst undef) w) := by
  refine ⟨fun v hc hv => ?_, fun hc => ?_⟩
  · refine putS_sound hR (v := v) ?_ hK
    cases g with
    | false => exact hv
    | true => exact mkgd_rel (fun _ => hv) (fun h => by rw [hc] at h; cases h)
  · refine putS_sound hR (v := undef) ?_ hK
    cases g with
    | false => rw [hgc rfl] at hc; cases hc
    | true => exact mkgd_rel (fun h => by rw [hc] at h; cases h) (fun _ => rfl)

theorem XOne_sound {P : Program} {te : TE} (hte : teOk P te) {wr : Bool} {pt : PT} (hpt : PTok P pt) {A : Amb} (hkk : A.k ≤ pt.k) (hgr : pt.gr = true → A.gr = true) {σ : Asg} {st : St} {a : Act} {w : World} (hR : Rel A σ st a w) {g c : Bool} (hgc : g = false → c = true) {o : Oper} {K : St → Prop}
    (h : XOne P te wr A.nt pt g c st o K) {next : Act → World → Prop} {Q : Exit → Act → World → Prop} (hn : ∀ σ' st' a' w', K st' → Rel A σ' st' a' w' → next a' w') :
    (c = true → o.wp P a w next Q) ∧ (c = false → next (a.put o.dst undef) w) := by
  unfold XOne at h
  split at h
  · obtain ⟨z, hz, hv⟩ := xpure_sound hte hR h
    obtain ⟨p1, p2⟩ := gd_put hR hz hgc
    refine ⟨fun hc => ?_, fun hc => ?_⟩
    · obtain ⟨v, hr, hrun⟩ := hv hc
      obtain ⟨st', k1, k2⟩ := p1 v hc hr
      exact wp_value (hrun w) (hn _ _ _ _ k1 k2)
    · obtain ⟨st', k1, k2⟩ := p2 hc
      exact hn _ _ _ _ k1 k2
  · obtain ⟨z, hz, hv⟩ := xload_sound hte hR h
    obtain ⟨p1, p2⟩ := gd_put hR hz hgc
    refine ⟨fun hc => ?_, fun hc => ?_⟩
    · obtain ⟨v, hr, hrun⟩ := hv hc
      obtain ⟨st', k1, k2⟩ := p1 v hc hr
      exact wp_value (hrun w (fun _ _ _ _ => rfl) hR.sat.frz) (hn _ _ _ _ k1 k2)
    · obtain ⟨st', k1, k2⟩ := p2 hc
      exact hn _ _ _ _ k1 k2
  · obtain ⟨rfl, h⟩ := h
    have hc : c = true := hgc rfl
    refine ⟨fun _ => ?_, fun h => by rw [hc] at h; cases h⟩
    obtain ⟨z, st1, v, σ', w', hK, hrun, hle, hr, hR'⟩ := xmem_sound hte hR h
    obtain ⟨st', k1, k2⟩ := putS_sound hR' hr hK
    rcases hrun with hrun | ⟨hrun, rfl⟩
    · exact wp_value hrun (hn _ _ _ _ k1 k2)
    · exact wp_skip' hrun (hn _ _ _ _ k1 k2)
  · split at h
    · rename_i f hf
      split at h
      · rename_i t ht
        split at h
        case h_2 => exact h.elim
        rename_i p z hz
        obtain ⟨hlend, h⟩ := h
        obtain ⟨hp, hK⟩ := h.out
        obtain ⟨p1, p2⟩ := gd_put hR hK hgc
        refine ⟨fun hc => ?_, fun hc => ?_⟩
        · rcases hpt.get ht _ _ _ hz (hp hc).2.2 with hcall | ⟨hx1, hx2, hx3⟩
          case inr =>
            obtain ⟨vs, hrun, hargs⟩ := execAny (P := P) (w := w) hR.ev hf
            obtain ⟨v, hv, hrel⟩ := hx3 (fun b => w.heap[b]?) w vs (fun _ _ h => h) (frzL_rel hR.sat (hp hc).2.1 hx1 (stripL_rel (hp hc).1 hargs))
            obtain ⟨st', k1, k2⟩ := p1 v hc (rel_bit hx2 hrel)
            exact wp_value (hrun.trans hv) (hn _ _ _ _ k1 k2)
          obtain ⟨vs, hrun, hargs⟩ := execCall (P := P) (w := w) hR.ev hf hcall.1
          refine wp_enter hrun ((hcall.use hR (hp hc).2.1 hgr hlend (stripL_rel (hp hc).1 hargs)).mono fun e w' he => ?_)
          obtain ⟨v, σ', rfl, hv, hR'⟩ := he
          obtain ⟨st', k1, k2⟩ := (gd_put hR' hK hgc).1 v hc hv
          exact ⟨v, rfl, hn _ _ _ _ k1 k2⟩
        · obtain ⟨st', k1, k2⟩ := p2 hc
          exact hn _ _ _ _ k1 k2
      · obtain ⟨rfl, hptg, hb, hcall⟩ := h
        have hc : c = true := hgc rfl
        refine ⟨fun _ => ?_, fun h => by rw [hc] at h; cases h⟩
        obtain ⟨vs, hrun, hargs⟩ := execCall (P := P) (w := w) hR.ev hf hb
        refine wp_enter hrun ((hcall A σ a w vs hkk (hgr hptg) hR hargs).mono fun e w' he => ?_)
        obtain ⟨v, z, s', σ', rfl, hq, hv, hR'⟩ := he
        obtain ⟨st', k1, k2⟩ := putS_sound hR' hv hq
        exact ⟨v, rfl, hn _ _ _ _ k1 k2⟩
    · exact h.elim
  · exact h.elim

theorem XStep_sound {P : Program} {te : TE} (hte : teOk P te) {wr : Bool} {pt : PT} (hpt : PTok P pt) {sp : Bool} {ops : Array Oper} {A : Amb} (hkk : A.k ≤ pt.k) (hgr : pt.gr = true → A.gr = true) {σ : Asg} {st : St} {a : Act} {w : World} (hR : Rel A σ st a w) {o : Oper} {K : St → Prop}
    (h : XStep P te wr A.nt pt sp ops st o K) {next : Act → World → Prop} {Q : Exit → Act → World → Prop} (hn : ∀ σ' st' a' w', K st' → Rel A σ' st' a' w' → next a' w') :
    if Region.wanted o (yielded ops a.tmps) then o.wp P a w next Q ∨ (o.asks P a w ∧ LetsOut Q) else next (a.put o.dst undef) w := by
  unfold XStep at h
  split at h
  · rename_i hg
    have : Region.wanted o (yielded ops a.tmps) = true := by simp [Region.wanted, hg]
    rw [if_pos this]
    exact .inl ((XOne_sound hte hpt hkk hgr hR (fun _ => rfl) h hn).1 rfl)
  · rename_i j want hg
    split at h
    · exact h.elim
    · rename_i d hd
      obtain ⟨c, h, hc⟩ := guardC_sound hR.env hd h
      have hw : Region.wanted o (yielded ops a.tmps) = c := by simp only [Region.wanted, hg, hc]
      rw [hw]
      split at h
      · obtain ⟨h1, h2⟩ := h
        cases c with
        | true => rw [if_pos rfl]; exact .inl ((XOne_sound hte hpt hkk hgr hR (fun _ => rfl) (h1 rfl) hn).1 rfl)
        | false =>
          rw [if_neg (by simp)]
          obtain ⟨st', k1, k2⟩ := putS_sound hR (v := undef) (by simp [rel]) (h2 rfl)
          exact hn _ _ _ _ k1 k2
      · obtain ⟨q1, q2⟩ := XOne_sound (Q := Q) hte hpt hkk hgr hR (g := true) (fun h => by cases h) h hn
        cases c with
        | true => rw [if_pos rfl]; exact .inl (q1 rfl)
        | false => rw [if_neg (by simp)]; exact q2 rfl

theorem XO_sound {P : Program} {te : TE} (hte : teOk P te) {wr : Bool} {pt : PT} (hpt : PTok P pt) {sp : Bool} {ops : Array Oper} {A : Amb} (hkk : A.k ≤ pt.k) (hgr : pt.gr = true → A.gr = true) {K : St → Prop} {Q : Exit → Act → World → Prop} : ∀ (is : List Nat) {σ : Asg} {st : St} {a : Act} {w : World}, Rel A σ st a w →
    XO P te wr A.nt pt sp ops K is st → (∀ σ' st' a' w', K st' → Rel A σ' st' a' w' → Q .normal a' w') → wpOps P ops Q is a w
  | [], σ, st, a, w, hR, h, hQ => hQ σ st a w h hR
  | i :: is, σ, st, a, w, hR, h, hQ => by
    simp only [XO] at h
    split at h
    · exact h.elim
    · rename_i o ho
      simp only [wpOps, ho]
      exact XStep_sound hte hpt hkk hgr hR h fun σ' st' a' w' hK hR' => XO_sound hte hpt hkk hgr is hR' hK hQ
end Go.Vg
end
