/- Own text: part VgG. -/
import Derived.Test.YtjphhddbkjdbnaaVgF
namespace Go.Vg
set_option linter.unusedVariables false
set_option linter.unusedSimpArgs false
open Go.RowKit

/-- A stretch of an element's cells replaced. -/
def spl (l : List SV) (k : Nat) (cs : List SV) : List SV :=
  match cs with
  | [x] => l.set k x
  | _ => if k = 0 ∧ cs.length = l.length then cs else l.take k ++ (cs ++ l.drop (k + cs.length))

theorem spl_eq {l : List SV} {k : Nat} {cs : List SV} (h : k + cs.length ≤ l.length) : spl l k cs = l.take k ++ (cs ++ l.drop (k + cs.length)) := by
  unfold spl
  split
  · rename_i x
    simp only [List.length_singleton] at h ⊢
    rw [List.set_eq_take_append_cons_drop, if_pos (by omega)]
    simp
  · split
    · rename_i h0
      obtain ⟨rfl, h1⟩ := h0
      simp [h1]
    · rfl

theorem spl_length {l : List SV} {k : Nat} {cs : List SV} (h : k + cs.length ≤ l.length) : (spl l k cs).length = l.length := by
  rw [spl_eq h]; simp; omega

theorem spl_get {l : List SV} {k : Nat} {cs : List SV} (h : k + cs.length ≤ l.length) (j : Nat) : (spl l k cs).getD j .u = if k ≤ j ∧ j < k + cs.length then cs.getD (j - k) .u else l.getD j .u := by
  rw [spl_eq h]
  simp only [List.getD_eq_getElem?_getD]
  rw [List.getElem?_append, List.getElem?_append, List.length_take]
  by_cases h1 : j < k
  · rw [if_pos (by omega), if_neg (by omega), List.getElem?_take_of_lt h1]
  · rw [if_neg (by omega)]
    by_cases h2 : j < k + cs.length
    · rw [if_pos (by omega), if_pos (by omega)]
      congr 2; omega
    · rw [if_neg (by omega), if_neg (by omega), List.getElem?_drop]
      congr 2; omega

def SO.put (o : SO) (i k : Nat) (cs : List SV) : SO :=
  match o with
  | .row ro sz n f => .row ro sz n (fun j => if j = i then spl (f j) k cs else f j)
  | .blk ro l => .blk ro (spl l k cs)
  | o => o

def rowBytes (f : Nat → List SV) (lo len : Nat) : List UInt8 :=
  (List.range len).map fun j => match (f (lo + j)).getD 0 .u with
    | .i _ n => UInt8.ofNat n.toNat
    | _ => 0

def fsBytes (l : List (List SV)) : List UInt8 := l.map fun x => match x.getD 0 .u with
  | .i _ n => UInt8.ofNat n.toNat
  | _ => 0

def isU8 : SV → Bool
  | .i .u8 _ => true
  | _ => false

def isU8T (te : TE) (t : TypeId) : Bool := match tdOf te t with
  | .int .u8 => true
  | _ => false

def lookS {α : Type} [DecidableEq α] : List (α × Int) → α → Option Int
  | [], _ => none
  | p :: r, k => if p.1 = k then some p.2 else lookS r k

def updS {α : Type} [DecidableEq α] : List (α × Int) → α → Int → List (α × Int)
  | [], k, v => [(k, v)]
  | p :: r, k, v => if p.1 = k then (k, v) :: r else p :: updS r k v

def xlook (c : Bool) (ok : Bool) (r : Option Int) (K : SV → Prop) : Prop :=
  if ok then K (.tup [.i .i64 (r.getD 0), .b r.isSome]) else K (.i .i64 (r.getD 0))

/-- Operations that read memory. -/
def xload (te : TE) (c : Bool) (st : St) (o : Op) (K : SV → Prop) : Prop :=
  match o with
  | .load t x => ung c (st.ev x) fun v => match v with
    | .ptr h i k => match st.ctx.at h, te t with
      | some ob, some ti => ob.isMap = false ∧ ti.td ≠ .other ∧ if ti.td.isStruct then k + ti.size ≤ ob.sz ∧ (ob.el i).length = ob.sz ∧ Chk (c = true → i < ob.n) (K (.agg (((ob.el i).drop k).take ti.size)))
        else k < ob.sz ∧ Chk (c = true → i < ob.n) (K ((ob.el i).getD k .u))
      | _, _ => False
    | .fp l k => match te t with
      | some ti => ti.td ≠ .other ∧ if ti.td.isStruct then Chk (c = true → k + ti.size ≤ l.length) (K (.agg ((l.drop k).take ti.size)))
        else Chk (c = true → k < l.length) (K (l.getD k .u))
      | none => False
    | _ => False
  | .convert s d x => ung c (st.ev x) fun v => match v, tdOf te s, tdOf te d with
    | .slc h lo len, .slice e, .str => isU8T te e = true ∧ (match st.ctx.at h with
      | some (.row ro sz n f) => sz = 1 ∧ (∀ j, j < len → isU8 ((f (lo + j)).getD 0 .u) = true) ∧ Chk (c = true → lo + len ≤ n) (K (.s (rowBytes f lo len)))
      | _ => False)
    | .nils, .slice e, .str => isU8T te e = true ∧ K (.s [])
    | .fs sz l, .slice e, .str => isU8T te e = true ∧ sz = 1 ∧ Chk (c = true → ∀ x ∈ l, isU8 (x.getD 0 .u) = true) (K (.s (fsBytes l)))
    | _, _, _ => False
  | .lookup t m k ok => ung c (st.ev m) fun v => ung c (st.ev k) fun y => match v, y with
    | .mp h, .s s => match st.ctx.at h, tdOf te t with
      | some (.mapS l), .map kt vt => tdOf te kt = .str ∧ te vt = some ⟨.int .i64, 1, 8, [.i .i64 0], false⟩ ∧ xlook c ok (lookS l s) K
      | _, _ => False
    | .mp h, .i .i64 s => match st.ctx.at h, tdOf te t with
      | some (.mapI l), .map kt vt => tdOf te kt = .int .i64 ∧ te vt = some ⟨.int .i64, 1, 8, [.i .i64 0], false⟩ ∧ xlook c ok (lookS l s) K
      | _, _ => False
    | _, _ => False
  | _ => False

/-- What an operation that reads comes to: the same in every world whose block is the same. -/
def OutL (P : Program) (σ : Asg) (w : World) (c : Bool) (hs : List Nat) (s : Sem Next) (K : SV → Prop) : Prop :=
  ∃ z, K z ∧ (c = true → ∃ v, rel σ z v ∧ ∀ w', (∀ h ∈ hs, ∀ L, σ h = some L → w'.heap[L.b]? = w.heap[L.b]?) → (∀ b o, σ.fz b = some o → w'.heap[b]? = some o) → s.run P w' = .ok (.value v) w')

/-- The object that a reading operation looks at. -/
def handleOf : SV → List Nat
  | .ptr h _ _ | .slc h _ _ | .mp h => [h]
  | .gd _ (.ptr h _ _) | .gd _ (.slc h _ _) | .gd _ (.mp h) => [h]
  | _ => []

def opHandle (st : St) : Op → List Nat
  | .load _ x | .convert _ _ x | .lookup _ x _ _ => handleOf (st.ev x)
  | _ => []

theorem ung_handle {σ : Asg} {c : Bool} {x : SV} {K : SV → Prop} {v : Value} (hr : rel σ x v) (h : ung c x K) : ∃ y, K y ∧ (c = true → rel σ y v) ∧ ((match y with | .gd _ _ => False | _ => True) → handleOf x = handleOf y) := by
  unfold ung at h
  split at h
  · rename_i g y
    obtain ⟨h1, h2⟩ := h.out
    refine ⟨y, h2, fun hc => by simp only [rel] at hr; exact hr.1 (h1 hc), fun hy => ?_⟩
    cases y <;> first | rfl | exact hy.elim
  · exact ⟨x, h, fun _ => hr, fun _ => rfl⟩

theorem live_cells {σ : Asg} {w : World} {st : St} (hs : Sat σ w st.ctx) {h : Nat} {ob : SO} (ho : st.ctx.at h = some ob) (hm : ob.isMap = false) :
    (ob.n = 0 ∧ σ h = none) ∨ ∃ L c e fr, σ h = some L ∧ cellsAt σ w L ob c e fr := by
  have := hs.obj h ob ho
  unfold objSat at this
  rwa [hm] at this

theorem list_getD_of {l : List SV} {j : Nat} (h : j < l.length) : l[j]? = some (l.getD j .u) := by
  simp [List.getD, List.getElem?_eq_getElem h]

theorem load_sound {P : Program} {te : TE} (hte : teOk P te) {A : Amb} {σ : Asg} {st : St} {a : Act} {w : World} (hR : Rel A σ st a w) {t : TypeId} {ti : TI} (hti : te t = some ti) (ho : ti.td ≠ .other)
    {h i k : Nat} {ob : SO} (hob : st.ctx.at h = some ob) (hm : ob.isMap = false) (hi : i < ob.n) {v : Value} (hv : rel σ (.ptr h i k) v)
    (hk : if ti.td.isStruct then k + ti.size ≤ ob.sz ∧ (ob.el i).length = ob.sz else k < ob.sz) :
    ∃ u, rel σ (if ti.td.isStruct then .agg (((ob.el i).drop k).take ti.size) else (ob.el i).getD k .u) u ∧ ∀ w', (∀ L, σ h = some L → w'.heap[L.b]? = w.heap[L.b]?) → (Instr.loadAt t v).run P w' = .ok u w' := by
  rcases live_cells hR.sat hob hm with ⟨h0, _⟩ | ⟨L, cs, e, fr, hL, hc⟩
  · omega
  simp only [rel] at hv
  obtain ⟨L', hL', rfl⟩ := hv
  rw [hL] at hL'
  cases hL'
  by_cases hs : ti.td.isStruct = true
  · rw [if_pos hs] at hk
    obtain ⟨hk1, hk2⟩ := hk
    obtain ⟨vs, h1, h2, h3⟩ := cells_list hc hi hk1
    refine ⟨.agg vs.toArray, ?_, fun w' hw => ?_⟩
    · rw [if_pos hs]
      simp only [rel]
      refine ⟨_, rfl, ?_⟩
      refine relL_of_get (by simp; omega) fun j x u hx hu => ?_
      have h4 := h3 j u (by simpa using hu)
      have hjn : j < ti.size := by
        rcases Nat.lt_or_ge j ti.size with h | h
        · exact h
        · rw [List.getElem?_eq_none (by simp; omega)] at hx; cases hx
      rw [List.getElem?_take_of_lt hjn, List.getElem?_drop] at hx
      rw [List.getD_eq_getElem?_getD, hx] at h4
      exact h4
    · have hh : w'.heap[L.b]? = some (.cells cs e fr) := (hw L hL).trans hc.heap
      have h5 := run_loadCells (P := P) (off := L.sh + i * L.sz + k) hh vs h2
      rw [h1] at h5
      simp only [Instr.loadAt, Instr.sureAddr, Sem.run_bind, Sem.run_pure, Result.andThen_ok, loadVar, run_isAgg hte hti ho, hs, if_true, run_size hte hti, addrOf, h5]
  · rw [if_neg hs] at hk
    obtain ⟨u, h1, h2⟩ := hc.cell i k hi hk
    refine ⟨u, by rw [if_neg hs]; exact h2, fun w' hw => ?_⟩
    have hh : w'.heap[L.b]? = some (.cells cs e fr) := (hw L hL).trans hc.heap
    rw [← hc.lsz] at h1
    simp [Instr.loadAt, Instr.sureAddr, loadVar, run_isAgg hte hti ho, hs, addrOf, cell?_of hh, h1]


theorem fload_sound {P : Program} {te : TE} (hte : teOk P te) {σ : Asg} {t : TypeId} {ti : TI} (hti : te t = some ti) (ho : ti.td ≠ .other)
    {l : List SV} {k : Nat} {v : Value} (hv : rel σ (.fp l k) v) (hk : if ti.td.isStruct then k + ti.size ≤ l.length else k < l.length) :
    ∃ u, rel σ (if ti.td.isStruct then .agg ((l.drop k).take ti.size) else l.getD k .u) u ∧ ∀ w', (∀ b o, σ.fz b = some o → w'.heap[b]? = some o) → (Instr.loadAt t v).run P w' = .ok u w' := by
  simp only [rel] at hv
  obtain ⟨b, off, c, e, fr, rfl, hfz, hrl⟩ := hv
  have hrl' := relL_mono (⟨fun _ _ h => (by cases h), fun _ _ h => h⟩ : leA σ.bare σ) hrl
  by_cases hs : ti.td.isStruct = true
  · rw [if_pos hs] at hk ⊢
    have h1 := relL_take ti.size (relL_drop k hrl')
    have hlen := relL_length h1
    simp only [List.length_take, List.length_drop] at hlen
    refine ⟨.agg ((((c.toList.drop off).take l.length).drop k).take ti.size).toArray, ?_, fun w' hw => ?_⟩
    · simp only [rel]
      exact ⟨_, rfl, by simpa using h1⟩
    · have hh := hw _ _ hfz
      have h5 := run_loadCells (P := P) (off := off + k) hh ((((c.toList.drop off).take l.length).drop k).take ti.size) (fun j x hj => by
        rw [List.getElem?_take] at hj
        split at hj
        · rw [List.getElem?_drop, List.getElem?_take] at hj
          split at hj
          · rw [List.getElem?_drop] at hj
            rw [show off + k + j = off + (k + j) by omega]
            simpa using hj
          · cases hj
        · cases hj)
      have hl2 : ((((c.toList.drop off).take l.length).drop k).take ti.size).length = ti.size := by
        simp only [List.length_take, List.length_drop]; omega
      rw [hl2] at h5
      simp only [Instr.loadAt, Instr.sureAddr, Sem.run_bind, Sem.run_pure, Result.andThen_ok, loadVar, run_isAgg hte hti ho, hs, if_true, run_size hte hti, h5]
  · rw [if_neg hs] at hk ⊢
    obtain ⟨u, h1, h2⟩ := relL_get hrl' (list_getD_of hk)
    refine ⟨u, h2, fun w' hw => ?_⟩
    have hh := hw _ _ hfz
    rw [List.getElem?_take, if_pos hk, List.getElem?_drop] at h1
    have h3 : c[off + k]? = some u := by simpa using h1
    simp [Instr.loadAt, Instr.sureAddr, loadVar, run_isAgg hte hti ho, hs, cell?_of hh, h3]

end Go.Vg
