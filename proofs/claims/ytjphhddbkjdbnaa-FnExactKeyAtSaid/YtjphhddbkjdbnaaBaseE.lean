/- Plain words for what the program's text functions compute. -/
import Derived.Test.YtjphhddbkjdbnaaBaseD
import Derived.Laws.Externs
import Derived.ChangeArms
import Derived.ChangeFn
import Derived.Test.YtjphhddbkjdbnaaBaseA
section
set_option linter.unusedVariables false
set_option linter.unusedSimpArgs false
namespace Go.Pl
abbrev Bs := List UInt8
/-- A place brought into a text. -/
def spot (s : Bs) (p : Int) : Nat := min p.toNat s.length
theorem spot_le (s : Bs) (p : Int) : spot s p ≤ s.length := Nat.min_le_right _ _
theorem spot_nat (s : Bs) (p : Int) (h0 : 0 ≤ p) (h : p ≤ s.length) : (spot s p : Int) = p := by unfold spot; omega
theorem spot_of (s : Bs) {i : Nat} (h : i ≤ s.length) : spot s i = i := by unfold spot; omega
/-- The byte at a place, as a number; -1 behind the end. -/
def byt (s : Bs) (i : Nat) : Int := match s[i]? with
  | some b => b.toNat
  | none => -1
theorem byt_lt {s : Bs} {i : Nat} (h : i < s.length) : byt s i = (s.getD i 0).toNat := by
  simp [byt, List.getElem?_eq_getElem h, List.getD]
theorem byt_ge {s : Bs} {i : Nat} (h : s.length ≤ i) : byt s i = -1 := by
  simp [byt, List.getElem?_eq_none h]
theorem byt_range (s : Bs) (i : Nat) : -1 ≤ byt s i ∧ byt s i ≤ 255 := by
  unfold byt
  split
  · rename_i b _
    have := b.toNat_lt
    omega
  · omega
theorem byt_neg {s : Bs} {i : Nat} : byt s i < 0 ↔ s.length ≤ i := by
  rcases Nat.lt_or_ge i s.length with h | h
  · rw [byt_lt h]
    constructor <;> intro h' <;> omega
  · rw [byt_ge h]
    constructor <;> intro h' <;> omega
def isW (s : Bs) (i : Nat) : Bool := byt s i == 32 || byt s i == 9
def isB (s : Bs) (i : Nat) : Bool := byt s i == 10 || decide (byt s i < 0)
theorem byt_spot {s : Bs} {p : Int} (h : 0 ≤ p) : byt s (spot s p) = byt s p.toNat := by
  rcases Nat.lt_or_ge p.toNat s.length with h' | h'
  · rw [show spot s p = p.toNat from by unfold spot; omega]
  · rw [byt_ge h', byt_ge (by unfold spot; omega)]
def gap (s : Bs) (i : Nat) : Bool := isW s i || isB s i
theorem isW_lt {s : Bs} {i : Nat} (h : isW s i = true) : i < s.length := by
  rcases Nat.lt_or_ge i s.length with h' | h'
  · exact h'
  · simp [isW, byt_ge h'] at h
theorem isB_not {s : Bs} {i : Nat} (h : isB s i = false) : i < s.length := by
  rcases Nat.lt_or_ge i s.length with h' | h'
  · exact h'
  · simp [isB, byt_ge h'] at h
theorem gap_not {s : Bs} {i : Nat} (h : gap s i = false) : i < s.length := isB_not (by simp [gap] at h; exact h.2)
theorem gap_end {s : Bs} {i : Nat} (h : s.length ≤ i) : gap s i = true := by simp [gap, isB, byt_ge h]
/-- Over white. -/
def wh (s : Bs) (i : Nat) : Nat := if h : isW s i = true then wh s (i + 1) else i
termination_by s.length - i
decreasing_by have := isW_lt h; omega
theorem wh_t {s : Bs} {i : Nat} (h : isW s i = true) : wh s i = wh s (i + 1) := by rw [wh, dif_pos h]
theorem wh_f {s : Bs} {i : Nat} (h : isW s i = false) : wh s i = i := by rw [wh, dif_neg (by simp [h])]
theorem wh_ge (s : Bs) (i : Nat) : i ≤ wh s i := by
  fun_induction wh s i with
  | case1 i h ih => omega
  | case2 i h => omega
theorem wh_le (s : Bs) (i : Nat) (h : i ≤ s.length) : wh s i ≤ s.length := by
  fun_induction wh s i with
  | case1 i h' ih => exact ih (isW_lt h')
  | case2 i h' => exact h
theorem wh_not (s : Bs) (i : Nat) : isW s (wh s i) = false := by
  fun_induction wh s i with
  | case1 i h ih => exact ih
  | case2 i h => simpa using h
theorem wh_wh (s : Bs) (i : Nat) : wh s (wh s i) = wh s i := wh_f (wh_not s i)
/-- On to a break. -/
def en (s : Bs) (i : Nat) : Nat := if h : isB s i = false then en s (i + 1) else i
termination_by s.length - i
decreasing_by have := isB_not h; omega
theorem en_t {s : Bs} {i : Nat} (h : isB s i = false) : en s i = en s (i + 1) := by rw [en, dif_pos h]
theorem en_f {s : Bs} {i : Nat} (h : isB s i = true) : en s i = i := by rw [en, dif_neg (by simp [h])]
theorem en_ge (s : Bs) (i : Nat) : i ≤ en s i := by
  fun_induction en s i with
  | case1 i h ih => omega
  | case2 i h => omega
theorem en_le (s : Bs) (i : Nat) (h : i ≤ s.length) : en s i ≤ s.length := by
  fun_induction en s i with
  | case1 i h' ih => exact ih (isB_not h')
  | case2 i h' => exact h
theorem en_isB (s : Bs) (i : Nat) : isB s (en s i) = true := by
  fun_induction en s i with
  | case1 i h ih => exact ih
  | case2 i h => simpa using h
theorem en_lt {s : Bs} {i q : Nat} (h1 : i ≤ q) (h2 : q < en s i) : isB s q = false := by
  fun_induction en s i with
  | case1 i hb ih =>
    rcases Nat.lt_or_ge i q with h | h
    · exact ih h h2
    · have : i = q := by omega
      subst this; exact hb
  | case2 i hb => omega
/-- On to a gap. -/
def gp (s : Bs) (i : Nat) : Nat := if h : gap s i = false then gp s (i + 1) else i
termination_by s.length - i
decreasing_by have := gap_not h; omega
theorem gp_t {s : Bs} {i : Nat} (h : gap s i = false) : gp s i = gp s (i + 1) := by rw [gp, dif_pos h]
theorem gp_f {s : Bs} {i : Nat} (h : gap s i = true) : gp s i = i := by rw [gp, dif_neg (by simp [h])]
theorem gp_ge (s : Bs) (i : Nat) : i ≤ gp s i := by
  fun_induction gp s i with
  | case1 i h ih => omega
  | case2 i h => omega
theorem gp_le (s : Bs) (i : Nat) (h : i ≤ s.length) : gp s i ≤ s.length := by
  fun_induction gp s i with
  | case1 i h' ih => exact ih (gap_not h')
  | case2 i h' => exact h
theorem gp_gap (s : Bs) (i : Nat) : gap s (gp s i) = true := by
  fun_induction gp s i with
  | case1 i h ih => exact ih
  | case2 i h => simpa using h
/-- A part of a text. -/
def sub (s : Bs) (a b : Nat) : Bs := (s.take b).drop a
theorem sub_eq (s : Bs) (a b : Int) : (s.take b.toNat).drop a.toNat = sub s a.toNat b.toNat := rfl
/-- The words of a directive. -/
def dirs (s : Bs) (e : Nat) (p : Nat) : List Bs :=
  let q := wh s p
  if h : q < e ∧ byt s q ≠ 35 ∧ gap s q = false then sub s q (gp s q) :: dirs s e (gp s q) else []
termination_by e - p
decreasing_by
  have h1 := wh_ge s p
  have h2 := gp_t (s := s) (i := wh s p) h.2.2
  have h3 := gp_ge s (wh s p + 1)
  omega
theorem dirs_len' (s : Bs) (e : Nat) : ∀ (n p : Nat), e - p ≤ n → (dirs s e p).length ≤ e - p
  | n, p, hn => by
    rw [dirs]
    split
    · rename_i h
      have h1 := wh_ge s p
      have h2 := gp_t (s := s) (i := wh s p) h.2.2
      have h3 := gp_ge s (wh s p + 1)
      cases n with
      | zero => omega
      | succ n =>
        have := dirs_len' s e n (gp s (wh s p)) (by omega)
        simp only [List.length_cons]
        omega
    · simp
theorem dirs_len (s : Bs) (e p : Nat) : (dirs s e p).length ≤ e - p := dirs_len' s e _ p (Nat.le_refl _)
/-- The first place of a byte, or -1. -/
def idx (s : Bs) (c : UInt8) : Int := match s.findIdx? (· == c) with
  | some i => i
  | none => -1
theorem idx_en (s : Bs) (i : Nat) (h : i ≤ s.length) : (if idx (s.drop i) 10 < 0 then (s.length : Int) else i + idx (s.drop i) 10) = en s i := by
  fun_induction en s i with
  | case1 i hb ih =>
    have hl := isB_not hb
    have ih := ih (by omega)
    rw [← ih]
    have hd : s.drop i = s[i] :: s.drop (i + 1) := List.drop_eq_getElem_cons hl
    have hne : (s[i] == (10 : UInt8)) = false := by
      simp [isB, byt, List.getElem?_eq_getElem hl] at hb
      simp
      intro e
      have := congrArg UInt8.toNat e
      simp at this
      omega
    unfold idx
    rw [hd, List.findIdx?_cons, hne]
    cases hf : List.findIdx? (fun x => x == 10) (s.drop (i + 1)) with
    | none => simp [hf]
    | some j => simp [hf]; omega
  | case2 i hb =>
    simp at hb
    rcases Nat.lt_or_ge i s.length with hl | hl
    · have hd : s.drop i = s[i] :: s.drop (i + 1) := List.drop_eq_getElem_cons hl
      have hne : (s[i] == (10 : UInt8)) = true := by
        simp [isB, byt, List.getElem?_eq_getElem hl] at hb
        simp
        apply UInt8.toNat_inj.1
        simp
        omega
      unfold idx
      rw [hd, List.findIdx?_cons, hne]
      simp
    · unfold idx
      rw [List.drop_of_length_le hl]
      simp
      omega
end Go.Pl
end
section
namespace Go.Pl
def dec (n : Nat) : List UInt8 := if h : n < 10 then [UInt8.ofNat (48 + n)] else dec (n / 10) ++ [UInt8.ofNat (48 + n % 10)]
termination_by n
decreasing_by omega
theorem dec_eq (n : Nat) : dec n = if n < 10 then [UInt8.ofNat (48 + n)] else dec (n / 10) ++ [UInt8.ofNat (48 + n % 10)] := by
  rw [dec]; split <;> rfl
theorem dec_length (n : Nat) : (dec n).length ≤ n + 1 := by
  induction n using Nat.strongRecOn with
  | _ n ih =>
    rw [dec_eq]
    split
    · simp
    · have := ih (n / 10) (by omega)
      simp
      omega
def mtx (k : Int) : List UInt8 := if k ≤ 0 then [109, 48] else 109 :: dec k.toNat
/-- What is behind the first digits: 'm' is still to be written ahead of 'out'. -/
def DecInv (n m : Nat) (out : List UInt8) : Prop := m ≤ n ∧ if m = 0 then out = dec n else dec m ++ out = dec n
theorem DecInv.step {n m : Nat} {out : List UInt8} (h : DecInv n m out) (hm : 0 < m) : DecInv n (m / 10) (UInt8.ofNat (48 + m % 10) :: out) := by
  unfold DecInv at *
  rw [if_neg (by omega)] at h
  refine ⟨by omega, ?_⟩
  rw [dec_eq m] at h
  split
  · rename_i h0
    rw [if_pos (by omega)] at h
    rw [show m % 10 = m by omega]
    simpa using h.2
  · rw [if_neg (by omega)] at h
    simpa using h.2
theorem DecInv.len {n m : Nat} {out : List UInt8} (h : DecInv n m out) : out.length ≤ n + 1 := by
  have := dec_length n
  unfold DecInv at h
  split at h
  · rw [h.2]; exact this
  · have h2 := congrArg List.length h.2
    simp at h2
    omega
/-- A row of marks. -/
def mkL {α : Type} (g : Int → α) (c : Int) : Int → Nat → List α
  | _, 0 => []
  | k, n + 1 => g k :: mkL g c (k + c) n
theorem mkL_length {α : Type} {g : Int → α} {c : Int} : ∀ {n : Nat} {k : Int}, (mkL g c k n).length = n
  | 0, _ => rfl
  | n + 1, k => by simp [mkL, mkL_length]
theorem mkL_get {α : Type} {g : Int → α} {c : Int} (z : α) : ∀ {n : Nat} {k : Int} {j : Nat}, j < n → (mkL g c k n).getD j z = g (k + c * j)
  | 0, _, j, h => by omega
  | n + 1, k, 0, _ => by simp [mkL]
  | n + 1, k, j + 1, h => by
    have := mkL_get (g := g) (c := c) z (n := n) (k := k + c) (j := j) (by omega)
    simp only [mkL, List.getD_cons_succ, this]
    congr 1
    rw [Int.natCast_add, Int.mul_add]
    omega
theorem eq_of_getD {α : Type} (z : α) {a b : List α} (hl : a.length = b.length) (h : ∀ j, j < a.length → a.getD j z = b.getD j z) : a = b := by
  apply List.ext_getElem hl
  intro j h1 h2
  have := h j h1
  simpa [List.getD, List.getElem?_eq_getElem h1, List.getElem?_eq_getElem h2] using this
/-- A row of which a beginning is marked. -/
def mkd {α : Type} (g : Int → α) (c k : Int) (a : List α) (i : Nat) : List α := mkL g c k i ++ a.drop i
theorem mkd_get {α : Type} {g : Int → α} {c k : Int} {a : List α} {i : Nat} (z : α) (j : Nat) : (mkd g c k a i).getD j z = if j < i then g (k + c * j) else a.getD j z := by
  unfold mkd
  split
  · rename_i h
    have := mkL_get (g := g) (c := c) z (n := i) (k := k) h
    rw [← this]
    simp only [List.getD_eq_getElem?_getD]
    rw [List.getElem?_append_left (by rw [mkL_length]; exact h)]
  · rename_i h
    simp only [List.getD_eq_getElem?_getD]
    rw [List.getElem?_append_right (by rw [mkL_length]; omega), mkL_length, List.getElem?_drop, show i + (j - i) = j by omega]
theorem mkd_zero {α : Type} {g : Int → α} {c k : Int} {a : List α} : mkd g c k a 0 = a := by simp [mkd, mkL]
theorem mkd_all {α : Type} {g : Int → α} {c k : Int} {a : List α} : mkd g c k a a.length = mkL g c k a.length := by simp [mkd]
end Go.Pl
end
section
namespace Go.Vg
set_option linter.unusedVariables false
theorem range_find {α : Type} [Inhabited α] (p : α → Bool) : ∀ (l : List α), (List.range l.length).find? (fun i => p l[i]!) = l.findIdx? p
  | [] => rfl
  | x :: xs => by
    rw [List.length_cons, List.range_succ_eq_map, List.find?_cons, List.findIdx?_cons]
    simp only [List.getElem!_cons_zero, List.find?_map]
    cases h : p x with
    | true => rfl
    | false =>
      simp only [Bool.false_eq_true, if_false]
      rw [← range_find p xs]
      congr 1
theorem firstIdx_eq (l : List UInt8) (c : UInt8) : firstIdx ⟨l.toArray⟩ c = Pl.idx l c := by
  unfold firstIdx Pl.idx
  have h : (ByteArray.mk l.toArray).size = l.length := by simp [ByteArray.size]
  have h2 : (fun i => (ByteArray.mk l.toArray)[i]! == c) = fun (i : Nat) => (fun x : UInt8 => x == c) l[i]! := by
    funext i
    simp only [getElem!_def, getElem?_def, h]
    by_cases hi : i < l.length
    · simp [hi, ByteArray.getElem_eq_getElem_data]
    · simp [hi]
  rw [h, h2]
  have h3 := range_find (fun x : UInt8 => x == c) l
  rw [h3]
  rfl
theorem ext_idx {P : Program} {f : FuncId} {fn : Func} (hf : P.funcs[f]? = some fn) (hname : (fn.name == "runtime.NumGoroutine") = false)
    (hb : fn.body.isNone = true) (hn : Extern.findNext fn = none) (he : Extern.find fn = some Extern.BytealgIndexByte.indexByte) (x : List UInt8 × Int) :
    CallExt P f [.s x.1, .i .u8 x.2] (.i .i64 (Pl.idx x.1 (UInt8.ofNat x.2.toNat))) := by
  refine ⟨rfl, rfl, fun fz w vs _ hr => ?_⟩
  simp only [relL, rel] at hr
  obtain ⟨v, r, e, rfl, v2, r2, rfl, rfl, rfl⟩ := hr
  have hvs : vs = #[.string ⟨x.1.toArray⟩, .int .u8 x.2] := by rw [← Array.toList_inj]; exact e
  subst hvs
  refine ⟨.int .i64 (firstIdx ⟨x.1.toArray⟩ x.2.toNat.toUInt8), ?_, ?_⟩
  · rw [run_callFunc_extern hf hname hb hn he, run_indexByte_string]
    simp only [Result.andThen_ok]
  · simp only [rel, firstIdx_eq]
noncomputable def pe_ix : PE := peR (fun (x : List UInt8 × Int) => [.s x.1, .i .u8 x.2]) (fun _ => True) (fun x => .i .i64 (Pl.idx x.1 (UInt8.ofNat x.2.toNat)))
theorem pe_ix_eq {s : List UInt8} {c : Int} : pe_ix [.s s, .i .u8 c] = some (True, .i .i64 (Pl.idx s (UInt8.ofNat c.toNat))) := peR_eq (by rintro ⟨a, b⟩ ⟨c, d⟩ h; simp_all) (s, c)
theorem pe_ix_ok {P : Program} {f : FuncId} (h : ∀ x : List UInt8 × Int, CallExt P f [.s x.1, .i .u8 x.2] (.i .i64 (Pl.idx x.1 (UInt8.ofNat x.2.toNat)))) : PE1 P f pe_ix := by
  intro args q y hq hp
  unfold pe_ix peR at hq
  split at hq
  · rename_i hx
    simp only [Option.some.injEq, Prod.mk.injEq] at hq
    obtain ⟨rfl, rfl⟩ := hq
    have h1 := Classical.choose_spec hx
    have := h (Classical.choose hx)
    simp only at h1
    rw [h1] at this
    exact .inr this
  · cases hq
end Go.Vg
end
section
namespace Go.Vg
set_option linter.unusedVariables false
set_option linter.unusedSimpArgs false
def rowE {α : Type} (enc : α → List SV) (z : α) (xs : List α) : Nat → List SV := fun j => enc (xs.getD j z)
theorem rowE_list {α : Type} {enc : α → List SV} {z : α} {xs : List α} {n : Nat} (h : n = xs.length) : rowList (rowE enc z xs) 0 n = xs.map enc := by
  subst h
  apply List.ext_getElem?
  intro j
  unfold rowList rowE
  by_cases hj : j < xs.length
  · simp [hj, List.getD]
  · simp [hj]
theorem rowE_part {α : Type} {enc : α → List SV} {z : α} {xs : List α} {lo n : Nat} (h : lo + n ≤ xs.length) : rowList (rowE enc z xs) lo n = ((xs.drop lo).take n).map enc := by
  apply List.ext_getElem?
  intro j
  unfold rowList rowE
  by_cases hj : j < n
  · have h1 : lo + j < xs.length := by omega
    simp [hj, List.getD, List.getElem?_eq_getElem h1, h1, List.getElem?_take]
  · simp [hj, List.getElem?_take]
theorem rowE_push {α : Type} {enc : α → List SV} {z : α} {xs : List α} {y : α} {sz n : Nat} {f : Nat → List SV} (hn : n = xs.length) (hf : ∀ j, j < n → f j = rowE enc z xs j) (hl : (enc y).length = sz) {i : Nat} (hi : i < n + 1) :
    catF n f (litEl (enc y) sz) i = rowE enc z (xs ++ [y]) i := by
  subst hn
  unfold catF rowE
  split
  · rename_i h
    rw [hf i h]
    simp [rowE, List.getD, List.getElem?_append_left h]
  · have : i = xs.length := by omega
    subst this
    have h1 : (xs ++ [y]).getD xs.length z = y := by simp [List.getD]
    rw [h1, Nat.sub_self]
    simp only [litEl, Nat.zero_mul, List.drop_zero]
    rw [← hl, List.take_length]
theorem rowE_app {α : Type} {enc : α → List SV} {z : α} {xs ys : List α} {n m : Nat} {f g : Nat → List SV} (hn : n = xs.length) (hm : m = ys.length) (hf : ∀ j, j < n → f j = rowE enc z xs j) (hg : ∀ j, j < m → g j = rowE enc z ys j) {i : Nat} (hi : i < n + m) :
    catF n f g i = rowE enc z (xs ++ ys) i := by
  subst hn hm
  unfold catF
  split
  · rename_i h
    rw [hf i h]
    simp [rowE, List.getD, List.getElem?_append_left h]
  · rename_i h
    rw [hg _ (by omega)]
    simp only [rowE, List.getD, List.getElem?_append_right (show xs.length ≤ i by omega)]
theorem getD_map {α : Type} (enc : α → List SV) (xs : List α) (i : Nat) (z : α) : (xs.map enc).getD i (enc z) = enc (xs.getD i z) := by
  simp only [List.getD_eq_getElem?_getD, List.getElem?_map]
  cases xs[i]? <;> rfl
theorem soLe_row {μ : Nat → Nat} {sz n : Nat} {f g : Nat → List SV} (h : ∀ i, i < n → mapHL μ (g i) = f i) : soLe μ (.row false sz n g) (.row false sz n f) := ⟨id, rfl, rfl, Nat.le_refl _, rfl, h⟩
theorem soLe_row' {μ : Nat → Nat} {sz n m : Nat} {f g : Nat → List SV} (hn : n ≤ m) (h : ∀ i, i < n → mapHL μ (g i) = f i) : soLe μ (.row false sz n g) (.row false sz m f) := ⟨id, rfl, rfl, hn, rfl, fun i hi => h i hi⟩
theorem soLe_blk {μ : Nat → Nat} {l m : List SV} (h : mapHL μ l = m) : soLe μ (.blk false l) (.blk false m) := ⟨id, rfl, by simp [SO.sz, ← h, mapHL_eq], Nat.le_refl _, rfl, fun i _ => h⟩
mutual
theorem mapH_plain {μ : Nat → Nat} : ∀ {x : SV}, x.plain = true → x.mapH μ = x
  | .b _, _ => rfl
  | .i _ _, _ => rfl
  | .s _, _ => rfl
  | .nils, _ => rfl
  | .fn _, _ => rfl
  | .u, _ => rfl
  | .fs _ _, _ => rfl
  | .fp _ _, _ => rfl
  | .ptr _ _ _, h => by simp [SV.plain] at h
  | .slc _ _ _, h => by simp [SV.plain] at h
  | .mp _, h => by simp [SV.plain] at h
  | .agg l, h => by simp only [SV.mapH]; rw [mapHL_plain (by simpa [SV.plain] using h)]
  | .tup l, h => by simp only [SV.mapH]; rw [mapHL_plain (by simpa [SV.plain] using h)]
  | .gd _ x, h => by simp only [SV.mapH]; rw [mapH_plain (by simpa [SV.plain] using h)]
theorem mapHL_plain {μ : Nat → Nat} : ∀ {l : List SV}, plainL l = true → mapHL μ l = l
  | [], _ => rfl
  | x :: xs, h => by
    simp only [plainL, Bool.and_eq_true] at h
    simp only [mapHL, mapH_plain h.1, mapHL_plain h.2]
end
theorem Ent.ren1 {k : Nat} {st st' : St} (l : List Nat) (h : idUpTo k l = true ∧ l.Nodup) (hctx : entCtx (muL l st.ctx.length) st.ctx l st'.ctx) (henv : entEnv (muL l st.ctx.length) st.env st'.env) : Ent k st st' := Ent.ren l h.1 h.2 hctx henv
theorem litEl_ok {y : List SV} {sz : Nat} (h : y.all okLeaf = true) (hl : y.length = sz) : ∀ j, j < 1 → (litEl y sz j).all okLeaf = true ∧ (litEl y sz j).length = sz := by
  intro j hj
  obtain rfl : j = 0 := by omega
  have : litEl y sz 0 = y := by simp only [litEl, Nat.zero_mul, List.drop_zero]; rw [← hl, List.take_length]
  rw [this]
  exact ⟨h, hl⟩
theorem soLe_push {μ : Nat → Nat} {α : Type} {enc : α → List SV} {z : α} {xs : List α} {y : α} {sz n : Nat} {f : Nat → List SV} (hp : ∀ x, plainL (enc x) = true) (hn : n = xs.length) (hf : ∀ j, j < n → f j = rowE enc z xs j) (hl : (enc y).length = sz) :
    soLe μ (.row false sz (xs ++ [y]).length (rowE enc z (xs ++ [y]))) (.row false sz (n + 1) (catF n f fun j => litEl (enc y) sz j)) :=
  soLe_row' (by simp [hn]) fun i hi => by
    rw [rowE_push hn hf hl (by simp at hi; omega)]
    exact mapHL_plain (hp _)
theorem soLe_nil {μ : Nat → Nat} {α : Type} {enc : α → List SV} {z : α} {sz : Nat} {f : Nat → List SV} : soLe μ (.row false sz ([] : List α).length (rowE enc z [])) (.row false sz 0 f) :=
  soLe_row fun i hi => absurd hi (Nat.not_lt_zero _)
theorem soLe_same {μ : Nat → Nat} {α : Type} {enc : α → List SV} {z : α} {xs : List α} {sz n : Nat} (hp : ∀ x, plainL (enc x) = true) : soLe μ (.row false sz n (rowE enc z xs)) (.row false sz n (rowE enc z xs)) :=
  soLe_row fun i hi => mapHL_plain (hp _)
open Go.Pl in
theorem soLe_mark {μ : Nat → Nat} {α : Type} {enc : α → List SV} {z : α} {g : Int → α} {c k : Int} {a : List α} {i sz n : Nat} {f : Nat → List SV} (hp : ∀ x, plainL (enc x) = true) (hf : ∀ j, j < n → f j = if j = i then enc (g (k + c * i)) else rowE enc z (mkd g c k a i) j) :
    soLe μ (.row false sz n (rowE enc z (mkd g c k a (i + 1)))) (.row false sz n f) := by
  refine soLe_row fun j hj => ?_
  rw [hf j hj]
  simp only [rowE, mkd_get]
  rw [mapHL_plain (hp _)]
  by_cases h1 : j = i
  · subst h1
    rw [if_pos (by omega), if_pos rfl]
  · rw [if_neg h1]
    by_cases h2 : j < i
    · rw [if_pos (by omega), if_pos h2]
    · rw [if_neg (by omega), if_neg h2]
def strc (b : List UInt8) : List SV := [.s b]
def intc (n : Int) : List SV := [.i .i64 n]
def booc (b : Bool) : List SV := [.b b]
def bytc (b : UInt8) : List SV := [.i .u8 b.toNat]
theorem strc_inj {l m : List (List UInt8)} : l.map strc = m.map strc ↔ l = m := map_inj fun a b h => by simpa [strc] using h
theorem intc_inj {l m : List Int} : l.map intc = m.map intc ↔ l = m := map_inj fun a b h => by simpa [intc] using h
theorem booc_inj {l m : List Bool} : l.map booc = m.map booc ↔ l = m := map_inj fun a b h => by simpa [booc] using h
theorem getD_strc (a : List (List UInt8)) (i : Nat) : (a.map strc).getD i [.s []] = [.s (a.getD i [])] := getD_map strc a i []
theorem getD_intc (a : List Int) (i : Nat) : (a.map intc).getD i [.i .i64 0] = [.i .i64 (a.getD i 0)] := getD_map intc a i 0
theorem getD_booc (a : List Bool) (i : Nat) : (a.map booc).getD i [.b false] = [.b (a.getD i false)] := getD_map booc a i false
theorem getD_bytc (a : List UInt8) (i : Nat) : (a.map bytc).getD i [.i .u8 0] = [.i .u8 (a.getD i 0).toNat] := getD_map bytc a i 0
theorem rowE_str {a : List (List UInt8)} {i : Nat} : rowE strc [] a i = [.s (a.getD i [])] := id rfl
theorem rowE_int {a : List Int} {i : Nat} : rowE intc 0 a i = [.i .i64 (a.getD i 0)] := id rfl
theorem rowE_boo {a : List Bool} {i : Nat} : rowE booc false a i = [.b (a.getD i false)] := id rfl
theorem rowE_byt {a : List UInt8} {i : Nat} : rowE bytc 0 a i = [.i .u8 (a.getD i 0).toNat] := id rfl
theorem rowH {α : Type} {enc : α → List SV} {z : α} (hp : ∀ x, plainL (enc x) = true) {μ : Nat → Nat} {r : Bool} {sz n : Nat} {a : List α} : SO.mapH μ (.row r sz n (rowE enc z a)) = .row r sz n (rowE enc z a) := by
  simp only [SO.mapH]
  congr 1
  funext i
  exact mapHL_plain (hp _)
theorem rowH_str {μ : Nat → Nat} {r : Bool} {sz n : Nat} {a : List (List UInt8)} : SO.mapH μ (.row r sz n (rowE strc [] a)) = .row r sz n (rowE strc [] a) := rowH fun _ => rfl
theorem rowH_int {μ : Nat → Nat} {r : Bool} {sz n : Nat} {a : List Int} : SO.mapH μ (.row r sz n (rowE intc 0 a)) = .row r sz n (rowE intc 0 a) := rowH fun _ => rfl
theorem rowH_boo {μ : Nat → Nat} {r : Bool} {sz n : Nat} {a : List Bool} : SO.mapH μ (.row r sz n (rowE booc false a)) = .row r sz n (rowE booc false a) := rowH fun _ => rfl
theorem rowH_byt {μ : Nat → Nat} {r : Bool} {sz n : Nat} {a : List UInt8} : SO.mapH μ (.row r sz n (rowE bytc 0 a)) = .row r sz n (rowE bytc 0 a) := rowH fun _ => rfl
theorem omap_some {μ : Nat → Nat} {o : SO} : Option.map (SO.mapH μ) (some o) = some (o.mapH μ) := id rfl
theorem XR : type_of% (And.intro (And.intro @omap_some (And.intro (And.intro @rowH_str @rowH_int) (And.intro @rowH_boo @rowH_byt))) <| And.intro (And.intro @getD_strc @getD_intc) (And.intro (And.intro @getD_booc @getD_bytc) (And.intro (And.intro @rowE_str @rowE_int) (And.intro @rowE_boo @rowE_byt)))) := And.intro (And.intro @omap_some (And.intro (And.intro @rowH_str @rowH_int) (And.intro @rowH_boo @rowH_byt))) <| And.intro (And.intro @getD_strc @getD_intc) (And.intro (And.intro @getD_booc @getD_bytc) (And.intro (And.intro @rowE_str @rowE_int) (And.intro @rowE_boo @rowE_byt)))
theorem muL_nil {n h : Nat} : muL [] n h = n + h := by simp [muL]
/-- A call of a function that makes new rows: they stand behind the caller's own. -/
theorem XCalls.own {P : Program} {f : FuncId} {args : List SV} {Z : SV} {C : Ctx} (hF : FnK P f 0 args [] fun z c => z = Z ∧ c = C) (hp : plainL args = true) {kk : Nat} {st : St} {K : Sl (SV × St)}
    (hK : K.f (Z.mapH (fun h => st.ctx.length + h), ⟨st.env, st.ctx ++ C.map fun o => o.map (SO.mapH fun h => st.ctx.length + h)⟩)) : XCalls P f args kk st K := by
  have hmu : muL [] st.ctx.length = fun h => st.ctx.length + h := funext fun h => muL_nil
  refine XCall.of hF [] (by rw [mapHL_plain hp]) trivial (.inl rfl) (newRw_nil) rfl (.inl rfl) cleanC_nil ?_
  rintro z c ⟨rfl, rfl⟩
  rw [hmu]
  simp only [List.drop_nil, maskE_nil]
  unfold mergeC
  simp only [upd, List.length_nil, List.drop_zero]
  exact hK
/-- A call of a function that writes what it was handed: nothing comes to lie elsewhere. -/
theorem XCalls.mut {P : Program} {f : FuncId} {k : Nat} {args0 : List SV} {pre : Ctx} {Z : SV} {C : Ctx} (hF : FnK P f k args0 pre fun z c => z = Z ∧ c = C) (hkl : pre.length = k) (l : List Nat) {args : List SV} {kk : Nat} {st : St} {K : Sl (SV × St)}
    (hargs : mapHL (muL l st.ctx.length) args0 = args) (hmap : ctxMap (muL l st.ctx.length) st.ctx l pre) (hnd : l.Nodup)
    (hK : K.f (Z.mapH (muL l st.ctx.length), ⟨st.env, mergeC (muL l st.ctx.length) l pre C st.ctx⟩)) : XCalls P f args kk st K := by
  subst hkl
  have hl := (ctxMap_get hmap).1
  have hd : l.drop pre.length = [] := by rw [← hl]; exact List.drop_length
  refine XCall.of hF l hargs.symm hmap (.inr hnd) (by simp [newRw]) (by rw [hd]; rfl) (.inl hd) (by rw [hd]; exact cleanC_nil) ?_
  rintro z c ⟨rfl, rfl⟩
  rw [hd, maskE_nil]
  exact hK
/-- What is frozen of rows that a function has made. -/
theorem PF.ofOwn {P : Program} {f : FuncId} {args : List SV} {Z z : SV} {C : Ctx} (hF : FnK P f 0 args [] fun z c => z = Z ∧ c = C) (hp : plainL args = true) (hz : z.plain = true) (h : frzOk C Z ∧ frzV C Z = z) : PF P f args z :=
  ⟨hp, hz, hF.mono (by rintro _ _ ⟨rfl, rfl⟩; exact h)⟩
end Go.Vg
end
section
namespace Go.Pl
set_option linter.unusedVariables false
set_option linter.unusedSimpArgs false
structure Ev where
  kind : Int
  style : Int
  flag : Bool
  text : Bs
  anchor : Bs
  tag : Bs
  pos : Int
  code : Int
deriving DecidableEq
def evz : Ev := ⟨0, 0, false, [], [], [], 0, 0⟩
def flw (b : Int) : Bool := b == 44 || b == 91 || b == 93 || b == 123 || b == 125
def nmc (b : Int) : Bool := b == 32 || b == 9 || (b == 10 || decide (b < 0)) || flw b
/-- A name, or none. -/
def isNm (s : Bs) : Bool := decide (s.length ≤ 60 ∧ ∀ j, j < s.length → nmc (s.getD j 0).toNat = false)
theorem isNm_bad {s : Bs} {j : Nat} (h : j < s.length) (hb : nmc (s.getD j 0).toNat = true) : isNm s = false := by
  unfold isNm
  rw [decide_eq_false_iff_not]
  rintro ⟨_, h2⟩
  rw [h2 j h] at hb
  cases hb
theorem isNm_nil : isNm [] = true := by decide
def evOk (e : Ev) : Bool :=
  decide (1 ≤ e.kind ∧ e.kind ≤ 10) &&
  (if e.kind = 3 ∨ e.kind = 4 then decide (6 ≤ e.style ∧ e.style ≤ 7) else if e.kind = 5 then decide (1 ≤ e.style ∧ e.style ≤ 5) else decide (e.style = 0)) &&
  (!e.flag || decide (e.kind = 2 ∨ e.kind = 8)) && (decide (e.text = []) || decide (e.kind = 5 ∨ e.kind = 6)) &&
  (decide (e.anchor = [] ∧ e.tag = []) || decide (e.kind = 3 ∨ e.kind = 4 ∨ e.kind = 5)) &&
  (if e.kind = 10 then decide (1 ≤ e.code ∧ e.code ≤ 99 ∧ 0 ≤ e.pos) else
    (!decide (e.kind = 6) || (!decide (e.text = []) && isNm e.text)) && isNm e.anchor && decide (e.tag.length ≤ 120) && decide (e.code = 0 ∧ e.pos = 0))
end Go.Pl
namespace Go.Pl
theorem isNm_step {s : Bs} {i : Nat} (hj : ∀ j, j < i → nmc (s.getD j 0).toNat = false) (hn : nmc (s.getD i 0).toNat = false) : ∀ j, j < i + 1 → nmc (s.getD j 0).toNat = false := by
  intro j h
  rcases Nat.lt_or_ge j i with h1 | h1
  · exact hj j h1
  · obtain rfl : j = i := by omega
    exact hn
theorem isNm_all {s : Bs} (h : s.length ≤ 60) (hj : ∀ j, j < s.length → nmc (s.getD j 0).toNat = false) : isNm s = true := by
  unfold isNm
  rw [decide_eq_true_eq]
  exact ⟨h, hj⟩
theorem isNm_end {s : Bs} (hj : ∀ j, j < s.length → nmc (s.getD j 0).toNat = false) : isNm s = decide (s.length ≤ 60) := by
  unfold isNm
  rw [decide_eq_decide]
  exact ⟨fun h => h.1, fun h => ⟨h, hj⟩⟩
end Go.Pl
namespace Go.Pl
theorem nmc_gap {s : Bs} {i : Nat} (h : i < s.length) : (gap s i || flw (s.getD i 0).toNat) = nmc (s.getD i 0).toNat := by
  unfold gap isW isB nmc
  rw [byt_lt h]
end Go.Pl
namespace Go.Pl
def evsz (e : Ev) : Nat := e.text.length + e.anchor.length + e.tag.length
def evW (l : List Ev) : Nat := (l.map evsz).sum
theorem evW_take {l : List Ev} {i : Nat} (h : i < l.length) : evW (l.take (i + 1)) = evW (l.take i) + evsz (l.getD i evz) := by
  have : l.take (i + 1) = l.take i ++ [l.getD i evz] := by
    rw [List.take_succ_eq_append_getElem h]
    simp [List.getD, h]
  rw [this]
  simp [evW]
theorem evW_le {l : List Ev} (i : Nat) : evW (l.take i) ≤ evW l := by
  have : evW l = evW (l.take i) + evW (l.drop i) := by
    conv => lhs; rw [← List.take_append_drop i l]
    simp [evW, -List.take_append_drop]
  omega
theorem evW_mem {l : List Ev} {i : Nat} (h : i < l.length) : evsz (l.getD i evz) ≤ evW l := by
  have := evW_take h
  have := evW_le (l := l) (i + 1)
  omega
end Go.Pl
end
section
namespace Go.Pl
set_option linter.unusedVariables false
set_option linter.unusedSimpArgs false
/-- What is open: is it a map, and how many nodes it has; the innermost last. -/
abbrev Stk := List (Bool × Nat)
def tp (o : Stk) : Bool × Nat := o.getD (o.length - 1) (false, 0)
def incr (o : Stk) : Stk := o.set (o.length - 1) ((tp o).1, (tp o).2 + 1)
def pop (o : Stk) : Stk := o.take (o.length - 1)
def kdO (p : Bool × Nat) : Int := if p.1 then 4 else 3
def mnO (p : Bool × Nat) : Int := p.2
def spO (p : Bool × Nat) : Int := if p.1 then p.2 else -1
def ndNode (d : Int) (o : Stk) : Bool × Int × Stk := if o = [] then (decide (d = 1), 2, []) else (true, d, incr o)
def ndEnds (o : Stk) : Bool := !(decide (o = []) || ((tp o).1 && decide ((tp o).2 % 2 ≠ 0)))
def ndEv (d : Int) (o : Stk) (k : Int) : Bool × Int × Stk :=
  if k = 2 then (decide (d = 0), 1, o)
  else if k = 5 ∨ k = 6 then ndNode d o
  else if k = 3 ∨ k = 4 then ((ndNode d o).1, (ndNode d o).2.1, (ndNode d o).2.2 ++ [(decide (k = 4), 0)])
  else if k = 7 then if ndEnds o then (true, d, pop o) else (false, d, o)
  else if k = 8 then (decide (d = 2) && decide (o = []), 0, o)
  else (false, d, o)
def ndRun : List Ev → Int → Stk → Bool
  | [], _, _ => false
  | e :: r, d, o => evOk e && (if e.kind = 10 then r.isEmpty else if e.kind = 9 then r.isEmpty && decide (d = 0) else (ndEv d o e.kind).1 && ndRun r (ndEv d o e.kind).2.1 (ndEv d o e.kind).2.2)
def nested : List Ev → Bool
  | [] => false
  | e :: r => evOk e && decide (e.kind = 1) && ndRun r 0 []
theorem getD_map' {α β : Type} (g : α → β) (l : List α) (j : Nat) (z : α) : (l.map g).getD j (g z) = g (l.getD j z) := by
  simp only [List.getD_eq_getElem?_getD, List.getElem?_map]; cases l[j]? <;> rfl
theorem incr_length {o : Stk} : (incr o).length = o.length := by simp [incr]
theorem pop_length {o : Stk} : (pop o).length = o.length - 1 := by simp [pop]
theorem incr_kd {o : Stk} (h : o ≠ []) : (incr o).map kdO = o.map kdO := by
  have hl : 0 < o.length := List.length_pos_iff.2 h
  unfold incr
  rw [List.map_set]
  apply List.ext_getElem?
  intro j
  rw [List.getElem?_set]
  split
  · rename_i he; subst he
    simp [kdO, tp, List.getD, show o.length - 1 < o.length by omega]
  · rfl
theorem incr_mn {o : Stk} (h : o ≠ []) : (incr o).map mnO = (o.map mnO).set (o.length - 1) (mnO (tp o) + 1) := by
  unfold incr; rw [List.map_set]; simp [mnO]
theorem incr_sp {o : Stk} : (incr o).map spO = if (tp o).1 then (o.map spO).set (o.length - 1) (spO (tp o) + 1) else o.map spO := by
  unfold incr; rw [List.map_set]
  split
  · rename_i h; simp [spO, h]
  · rename_i h
    apply List.ext_getElem?
    intro j
    rw [List.getElem?_set]
    split
    · rename_i he; subst he
      by_cases ho : o.length - 1 < o.length
      · have : tp o = o[o.length - 1] := by simp [tp, List.getD, ho]
        simp [ho]
        rw [← this]
        simp [spO, h]
      · simp [show o = [] from List.length_eq_zero_iff.1 (by omega)]
    · rfl
theorem getD_set' {α : Type} (l : List α) (i j : Nat) (x z : α) (hi : i < l.length) : (l.set i x).getD j z = if j = i then x else l.getD j z := by
  simp only [List.getD_eq_getElem?_getD, List.getElem?_set]
  by_cases h : j = i
  · subst h; simp [hi]
  · rw [if_neg (Ne.symm h), if_neg h]
theorem pop_getD {α : Type} (g : Bool × Nat → α) (o : Stk) (j : Nat) (z : α) (h : j < o.length - 1) : ((pop o).map g).getD j z = (o.map g).getD j z := by
  simp only [pop, List.getD_eq_getElem?_getD, List.getElem?_map, List.getElem?_take, if_pos h]
end Go.Pl
namespace Go.Pl
theorem kd_top {o : Stk} (h : 0 < o.length) : (o.map kdO).getD (o.length - 1) 0 = kdO (tp o) := by
  simp [tp, List.getD, show o.length - 1 < o.length by omega]
theorem mn_top {o : Stk} : (o.map mnO).getD (o.length - 1) 0 = ((tp o).2 : Nat) := getD_map' mnO o (o.length - 1) (false, 0)
theorem sp_top {o : Stk} (h : 0 < o.length) : (o.map spO).getD (o.length - 1) 0 = spO (tp o) := by
  simp [tp, List.getD, show o.length - 1 < o.length by omega]
theorem kdO_4 {p : Bool × Nat} : kdO p = 4 ↔ p.1 = true := by
  unfold kdO; split <;> simp_all
theorem ndEnds_bad {o : Stk} (h : o.length = 0 ∨ (kdO (tp o) = 4 ∧ (tp o).2 % 2 ≠ 0)) : ndEnds o = false := by
  unfold ndEnds
  rcases h with h | h
  · simp [List.length_eq_zero_iff.1 h]
  · rw [kdO_4] at h; simp [h.1]; omega
theorem ndEnds_good {o : Stk} (h : 0 < o.length ∧ (kdO (tp o) ≠ 4 ∨ (tp o).2 % 2 = 0)) : ndEnds o = true := by
  unfold ndEnds
  have h1 : o ≠ [] := List.length_pos_iff.1 h.1
  rcases h.2 with h2 | h2
  · rw [ne_eq, kdO_4] at h2; simp [h1, h2]
  · simp [h1, h2]
theorem pop_row {α : Type} {g : Bool × Nat → α} {o : Stk} {j : Nat} (z : α) (h : j < (pop o).length) : ((pop o).map g).getD j z = (o.map g).getD j z := pop_getD g o j z (by rw [pop_length] at h; exact h)
end Go.Pl
namespace Go.Pl
theorem ndNode_len {d : Int} {o : Stk} : (ndNode d o).2.2.length = o.length := by
  unfold ndNode; split
  · rename_i h; simp [h]
  · exact incr_length
end Go.Pl
namespace Go.Pl
theorem nested_bad {l : List Ev} (h : l.length < 2 ∨ (l.getD 0 evz).kind ≠ 1 ∨ evOk (l.getD 0 evz) = false) : nested l = false := by
  match l with
  | [] => rfl
  | [e] => simp [nested, ndRun]
  | e :: f :: r =>
    simp only [List.getD_cons_zero, List.length_cons] at h
    unfold nested
    rcases h with h | h | h
    · omega
    · simp [h]
    · simp [h]
theorem nested_good {l : List Ev} (h : 2 ≤ l.length ∧ (l.getD 0 evz).kind = 1 ∧ evOk (l.getD 0 evz) = true) : nested l = ndRun (l.drop 1) 0 [] := by
  match l with
  | [] => simp at h
  | e :: r =>
    simp only [List.getD_cons_zero] at h
    simp [nested, h.2.1, h.2.2]
end Go.Pl
namespace Go.Pl
theorem drop_getD {α : Type} (l : List α) (j : Nat) (z : α) (h : j < l.length) : l.drop j = l.getD j z :: l.drop (j + 1) := by
  rw [List.drop_eq_getElem_cons h]
  simp [List.getD, h]
theorem getD_drop {α : Type} (l : List α) (n j : Nat) (z : α) : (l.drop n).getD j z = l.getD (n + j) z := by
  simp only [List.getD_eq_getElem?_getD, List.getElem?_drop]
theorem isEmpty_drop {α : Type} (l : List α) (n : Nat) (h : n ≤ l.length) : (l.drop n).isEmpty = decide ((n : Int) = l.length) := by
  rw [Bool.eq_iff_iff]; simp; omega
theorem ndEv_len {d : Int} {o : Stk} {k : Int} : (ndEv d o k).2.2.length ≤ o.length + 1 := by
  unfold ndEv
  repeat' split
  all_goals simp only [ndNode_len, List.length_append, List.length_singleton, pop_length] <;> omega
theorem tp_append {o : Stk} {x : Bool × Nat} : tp (o ++ [x]) = x := by simp [tp]
end Go.Pl
namespace Go.Pl
def bnd (o : Stk) (n : Nat) : Prop := ∀ j, (o.getD j (false, 0)).2 ≤ n
theorem bnd_nil {n : Nat} : bnd [] n := fun j => by simp
theorem bnd_mono {o : Stk} {n m : Nat} (h : bnd o n) (hm : n ≤ m) : bnd o m := fun j => Nat.le_trans (h j) hm
theorem bnd_tp {o : Stk} {n : Nat} (h : bnd o n) : (tp o).2 ≤ n := h _
theorem bnd_incr {o : Stk} {n : Nat} (h : bnd o n) : bnd (incr o) (n + 1) := fun j => by
  by_cases h0 : o.length = 0
  · rw [List.length_eq_zero_iff.1 h0]; simp [incr]
  · unfold incr
    rw [getD_set' _ _ _ _ _ (by omega)]
    split
    · have := bnd_tp h; simp only; omega
    · exact Nat.le_succ_of_le (h j)
theorem bnd_pop {o : Stk} {n : Nat} (h : bnd o n) : bnd (pop o) n := fun j => by
  unfold pop
  simp only [List.getD_eq_getElem?_getD, List.getElem?_take]
  split
  · have := h j; simpa [List.getD_eq_getElem?_getD] using this
  · simp
theorem bnd_push {o : Stk} {n : Nat} {b : Bool} (h : bnd o n) : bnd (o ++ [(b, 0)]) n := fun j => by
  simp only [List.getD_eq_getElem?_getD, List.getElem?_append]
  split
  · have := h j; simpa [List.getD_eq_getElem?_getD] using this
  · rw [List.getElem?_singleton]; split <;> simp
theorem bnd_node {d : Int} {o : Stk} {n : Nat} (h : bnd o n) : bnd (ndNode d o).2.2 (n + 1) := by
  unfold ndNode; split
  · exact bnd_nil
  · exact bnd_incr h
theorem ndEv_bnd {d : Int} {o : Stk} {k : Int} {n : Nat} (h : bnd o n) : bnd (ndEv d o k).2.2 (n + 1) := by
  unfold ndEv
  repeat' split
  · exact bnd_mono h (Nat.le_succ _)
  · exact bnd_node h
  · exact bnd_push (bnd_node h)
  · exact bnd_mono (bnd_pop h) (Nat.le_succ _)
  · exact bnd_mono h (Nat.le_succ _)
  · exact bnd_mono h (Nat.le_succ _)
  · exact bnd_mono h (Nat.le_succ _)
end Go.Pl
namespace Go.Pl
theorem evOk_kind {e : Ev} (h : evOk e = true) : 1 ≤ e.kind ∧ e.kind ≤ 10 := by
  unfold evOk at h
  simp only [Bool.and_eq_true, decide_eq_true_eq] at h
  exact h.1.1.1.1.1
theorem nested_at {l : List Ev} {i : Nat} {d : Int} {o : Stk} (hi : i < l.length) (hr : if i = 0 then d = 0 ∧ o = [] else ndRun (l.drop i) d o = nested l) :
    ((!evOk (l.getD i evz) || !(decide ((i : Int) = 0) == decide ((l.getD i evz).kind = 1))) = true → nested l = false) ∧
    ((!evOk (l.getD i evz) || !(decide ((i : Int) = 0) == decide ((l.getD i evz).kind = 1))) = false → 1 ≤ (l.getD i evz).kind ∧ (l.getD i evz).kind ≤ 10 ∧ ((l.getD i evz).kind = 1 → ndRun (l.drop (i + 1)) d o = nested l) ∧
      ((l.getD i evz).kind ≠ 1 → nested l = if (l.getD i evz).kind = 10 then decide ((i : Int) = l.length - 1) else if (l.getD i evz).kind = 9 then decide ((i : Int) = l.length - 1) && decide (d = 0) else
        (ndEv d o (l.getD i evz).kind).1 && ndRun (l.drop (i + 1)) (ndEv d o (l.getD i evz).kind).2.1 (ndEv d o (l.getD i evz).kind).2.2)) := by
  have hdr := drop_getD l i evz hi
  have hem := isEmpty_drop l (i + 1) (by omega)
  have he2 : decide (((i + 1 : Nat) : Int) = l.length) = decide ((i : Int) = l.length - 1) := by rw [decide_eq_decide]; omega
  rw [he2] at hem
  have hn0 : i = 0 → nested l = (evOk (l.getD i evz) && decide ((l.getD i evz).kind = 1) && ndRun (l.drop (i + 1)) 0 []) := by
    intro h; subst h
    rw [List.drop_zero] at hdr
    conv => lhs; rw [hdr]
    rfl
  have hn1 : i ≠ 0 → nested l = (evOk (l.getD i evz) && (if (l.getD i evz).kind = 10 then decide ((i : Int) = l.length - 1) else if (l.getD i evz).kind = 9 then decide ((i : Int) = l.length - 1) && decide (d = 0) else (ndEv d o (l.getD i evz).kind).1 && ndRun (l.drop (i + 1)) (ndEv d o (l.getD i evz).kind).2.1 (ndEv d o (l.getD i evz).kind).2.2)) := by
    intro h; rw [if_neg h] at hr; rw [← hr, hdr]; simp only [ndRun, hem]
  have hk : evOk (l.getD i evz) = true → 1 ≤ (l.getD i evz).kind ∧ (l.getD i evz).kind ≤ 10 := evOk_kind
  have hbad : i ≠ 0 → (l.getD i evz).kind = 1 → nested l = false := by
    intro h h1
    rw [hn1 h, h1]
    simp [ndEv]
  clear hdr hem he2
  generalize l.getD i evz = e at *
  refine ⟨fun h => ?_, fun h => ?_⟩
  · by_cases h0 : i = 0
    · rw [hn0 h0]; simp [h0] at h; rcases h with h | h <;> simp [h]
    · by_cases h1 : e.kind = 1
      · exact hbad h0 h1
      · rw [hn1 h0]; simp [h0, h1] at h; simp [h]
  · by_cases h0 : i = 0
    · rw [if_pos h0] at hr
      obtain ⟨rfl, rfl⟩ := hr
      simp [h0] at h
      have := hk h.1
      exact ⟨this.1, this.2, fun _ => by rw [hn0 h0]; simp [h], fun hne => absurd h.2 hne⟩
    · simp [h0] at h
      have := hk h.1
      exact ⟨this.1, this.2, fun h1 => absurd h1 h.2, fun _ => by rw [hn1 h0]; simp [h]⟩
end Go.Pl
namespace Go.Pl
theorem sp_incr_up {o : Stk} (hm : 0 ≤ (o.map spO).getD (o.length - 1) 0) (h : 0 < o.length) (j : Nat) : ((incr o).map spO).getD j 0 = if j = o.length - 1 then (o.map spO).getD (o.length - 1) 0 + 1 else (o.map spO).getD j 0 := by
  rw [sp_top h] at hm ⊢
  have hp : (tp o).1 = true := by
    cases hq : (tp o).1 with
    | true => rfl
    | false => simp [spO, hq] at hm
  rw [incr_sp, if_pos hp, getD_set' _ _ _ _ _ (by simp; omega)]
theorem sp_incr_no {o : Stk} (hm : ¬ 0 ≤ (o.map spO).getD (o.length - 1) 0) (h : 0 < o.length) : (incr o).map spO = o.map spO := by
  rw [sp_top h] at hm
  have hp : ¬ (tp o).1 = true := fun hq => hm (by simp [spO, hq])
  rw [incr_sp, if_neg hp]
theorem ndNode_cons {d : Int} {o : Stk} (h : 0 < o.length) : ndNode d o = (true, d, incr o) := by
  unfold ndNode; rw [if_neg (List.length_pos_iff.1 h)]
theorem ndEnds_sp {o : Stk} (h : 0 < o.length) : ndEnds o = !(decide ((o.map spO).getD (o.length - 1) 0 > 0) && decide (((o.map spO).getD (o.length - 1) 0).tmod 2 = 1)) := by
  rw [sp_top h]
  unfold ndEnds spO
  have h1 : o ≠ [] := List.length_pos_iff.1 h
  have h2 : (((tp o).2 : Nat) : Int).tmod 2 = ((tp o).2 % 2 : Nat) := by rw [Int.tmod_eq_emod_of_nonneg (by omega)]; rfl
  cases hq : (tp o).1 with
  | true =>
    simp only [h1, decide_false, Bool.false_or, Bool.true_and, if_true, h2]
    congr 1
    rw [Bool.eq_iff_iff]
    simp
    omega
  | false => simp [h1]
end Go.Pl
end
section
namespace Go.Vg
open Go.Pl
set_option linter.unusedVariables false
set_option linter.unusedSimpArgs false
def evc (e : Ev) : List SV := [.i .i64 e.kind, .i .i64 e.style, .b e.flag, .s e.text, .s e.anchor, .s e.tag, .i .i64 e.pos, .i .i64 e.code]
theorem evc_inj {l m : List Ev} : l.map evc = m.map evc ↔ l = m := map_inj fun a b h => by cases a; cases b; simpa [evc] using h
theorem getD_evc (a : List Ev) (i : Nat) : (a.map evc).getD i [.i .i64 0, .i .i64 0, .b false, .s [], .s [], .s [], .i .i64 0, .i .i64 0] = [.i .i64 (a.getD i evz).kind, .i .i64 (a.getD i evz).style, .b (a.getD i evz).flag, .s (a.getD i evz).text, .s (a.getD i evz).anchor, .s (a.getD i evz).tag, .i .i64 (a.getD i evz).pos, .i .i64 (a.getD i evz).code] := getD_map evc a i evz
theorem rowE_ev {a : List Ev} {i : Nat} : rowE evc evz a i = [.i .i64 (a.getD i evz).kind, .i .i64 (a.getD i evz).style, .b (a.getD i evz).flag, .s (a.getD i evz).text, .s (a.getD i evz).anchor, .s (a.getD i evz).tag, .i .i64 (a.getD i evz).pos, .i .i64 (a.getD i evz).code] := id rfl
theorem rowH_ev {μ : Nat → Nat} {r : Bool} {sz n : Nat} {a : List Ev} : SO.mapH μ (.row r sz n (rowE evc evz a)) = .row r sz n (rowE evc evz a) := rowH fun _ => rfl
theorem evEta (e : Ev) : (⟨e.kind, e.style, e.flag, e.text, e.anchor, e.tag, e.pos, e.code⟩ : Ev) = e := id rfl
theorem XRE : type_of% (And.intro (And.intro @getD_evc @rowE_ev) (And.intro @rowH_ev @evEta)) := And.intro (And.intro @getD_evc @rowE_ev) (And.intro @rowH_ev @evEta)
/-- A row that is filled place after place. -/
theorem soLe_fill {μ : Nat → Nat} {α : Type} {enc : α → List SV} {z : α} {xs : List α} {sz n i : Nat} {f : Nat → List SV} (hp : ∀ x, plainL (enc x) = true) (hi : i < xs.length)
    (hf : ∀ j, j < n → f j = if j = i then enc (xs.getD i z) else rowE enc z (xs.take i) j) :
    soLe μ (.row false sz n (rowE enc z (xs.take (i + 1)))) (.row false sz n f) := by
  refine soLe_row fun j hj => ?_
  rw [hf j hj]
  unfold rowE
  rw [mapHL_plain (hp _)]
  have e1 : (xs.take (i + 1)).getD j z = if j < i + 1 then xs.getD j z else z := by
    simp only [List.getD_eq_getElem?_getD, List.getElem?_take]; split <;> rfl
  have e2 : (xs.take i).getD j z = if j < i then xs.getD j z else z := by
    simp only [List.getD_eq_getElem?_getD, List.getElem?_take]; split <;> rfl
  rw [e1, e2]
  by_cases h1 : j = i
  · subst h1; rw [if_pos (by omega), if_pos rfl]
  · rw [if_neg h1]
    by_cases h2 : j < i
    · rw [if_pos (by omega), if_pos h2]
    · rw [if_neg (by omega), if_neg h2]
end Go.Vg
end
section
namespace Go.Vg
set_option linter.unusedVariables false
set_option linter.unusedSimpArgs false
def nlV (x y : SV) : Prop := x = y ∨ (x = .nils ∧ ∃ h lo, y = .slc h lo 0)
def nlL : List SV → List SV → Prop
  | [], [] => True
  | x :: xs, y :: ys => nlV x y ∧ nlL xs ys
  | _, _ => False
def nlO : Option SO → Option SO → Prop
  | some (.blk r cs), some (.blk q ds) => r = q ∧ nlL cs ds
  | o, p => o = p
def nlC : Ctx → Ctx → Prop
  | [], [] => True
  | o :: r, p :: q => nlO o p ∧ nlC r q
  | _, _ => False
def nlE (env : List (Tmp × SV)) : List (Tmp × SV) → Prop
  | [] => True
  | (t, x) :: r => nlV (look env t) x ∧ nlE env r
theorem nlV_rel {σ : Asg} {x y : SV} (h : nlV x y) {v : Value} (hr : rel σ x v) : rel σ y v := by
  rcases h with rfl | ⟨rfl, q, lo, rfl⟩
  · exact hr
  · simp only [rel] at hr ⊢
    exact ⟨none, 0, hr, Nat.le_refl _, .inl rfl⟩
theorem nlE_get {env : List (Tmp × SV)} : ∀ {e : List (Tmp × SV)}, nlE env e → ∀ t, look e t = .u ∨ nlV (look env t) (look e t)
  | [], _, t => .inl rfl
  | (u, x) :: r, h, t => by
    simp only [nlE] at h
    simp only [look]
    by_cases hu : u = t
    · rw [if_pos hu]; subst hu; exact .inr h.1
    · rw [if_neg hu]; exact nlE_get h.2 t
theorem nlL_get {σ : Asg} : ∀ {xs ys : List SV}, nlL xs ys → xs.length = ys.length ∧ ∀ k v, rel σ (xs.getD k .u) v → rel σ (ys.getD k .u) v
  | [], [], _ => ⟨rfl, fun k v h => h⟩
  | x :: xs, y :: ys, h => by
    simp only [nlL] at h
    obtain ⟨h1, h2⟩ := nlL_get (σ := σ) h.2
    refine ⟨by simp [h1], fun k v hv => ?_⟩
    cases k with
    | zero => simp only [List.getD_cons_zero] at hv ⊢; exact nlV_rel h.1 hv
    | succ k => simp only [List.getD_cons_succ] at hv ⊢; exact h2 k v hv
  | [], _ :: _, h => by simp [nlL] at h
  | _ :: _, [], h => by simp [nlL] at h
theorem nlO_sat {σ : Asg} {w : World} {h : Nat} : ∀ {o p : Option SO}, nlO o p → ∀ {q : SO}, p = some q → ∃ r, o = some r ∧ r.ro = q.ro ∧ (objSat σ w h r → objSat σ w h q) := by
  intro o p hn q hq
  subst hq
  unfold nlO at hn
  split at hn
  · rename_i r cs q' ds heq
    cases heq
    obtain ⟨rfl, hl⟩ := hn
    refine ⟨_, rfl, rfl, fun hs => ?_⟩
    obtain ⟨hlen, hg⟩ := nlL_get (σ := σ) hl
    simp only [objSat, SO.isMap] at hs ⊢
    rcases hs with ⟨h1, h2⟩ | ⟨L, c, e, fr, h1, h2⟩
    · exact .inl ⟨h1, h2⟩
    · have h3 := h2.lsz; have h4 := h2.fits; have h5 := h2.cell
      simp only [SO.sz, SO.n, SO.el] at h3 h4 h5
      refine .inr ⟨L, c, e, fr, h1, h2.heap, by simp only [SO.sz]; omega, h2.room, by simp only [SO.sz, SO.n]; omega, fun i k hi hk => ?_, h2.free⟩
      simp only [SO.sz, SO.el, SO.n] at hi hk ⊢
      obtain ⟨v, hv, hr⟩ := h5 i k hi (by omega)
      refine ⟨v, by rw [← hlen]; exact hv, hg k v hr⟩
  · exact ⟨q, hn, rfl, id⟩
theorem nlC_at : ∀ {c d : Ctx}, nlC c d → c.length = d.length ∧ ∀ h, nlO (c.at h) (d.at h)
  | [], [], _ => ⟨rfl, fun h => by simp [Ctx.at, nlO]⟩
  | o :: r, p :: q, h => by
    simp only [nlC] at h
    obtain ⟨h1, h2⟩ := nlC_at h.2
    refine ⟨by simp [h1], fun k => ?_⟩
    cases k with
    | zero => rw [at_cons_zero, at_cons_zero]; exact h.1
    | succ k => rw [at_cons_succ, at_cons_succ]; exact h2 k
  | [], _ :: _, h => by simp [nlC] at h
  | _ :: _, [], h => by simp [nlC] at h
/-- Rows without elements come out of nothing; what was nil may lie in them. -/
theorem Ent.nl {k : Nat} {env env' : List (Tmp × SV)} {c d : Ctx} (es : List (Nat × (Nat → List SV))) (he : nlE env env') (hc : nlC c d) : Ent k ⟨env, c⟩ ⟨env', d ++ es.map fun p => some (.row false p.1 0 p.2)⟩ := by
  intro A σ a w hk hR
  obtain ⟨hlen, hat⟩ := nlC_at hc
  have old : ∀ h, h < d.length → Ctx.at (d ++ es.map fun p => some (.row false p.1 0 p.2)) h = d.at h := by
    intro h hh
    simp only [Ctx.at, List.getD_eq_getElem?_getD, List.getElem?_append_left hh]
  have new : ∀ h o, d.length ≤ h → Ctx.at (d ++ es.map fun p => some (.row false p.1 0 p.2)) h = some o → o.n = 0 ∧ o.isMap = false := by
    intro h o hh ho
    simp only [Ctx.at, List.getD_eq_getElem?_getD, List.getElem?_append_right hh, List.getElem?_map] at ho
    cases hx : es[h - d.length]? with
    | none => rw [hx] at ho; cases ho
    | some p => rw [hx] at ho; simp at ho; subst ho; exact ⟨rfl, rfl⟩
  have get : ∀ h o, Ctx.at (d ++ es.map fun p => some (.row false p.1 0 p.2)) h = some o → (h < c.length ∧ ∃ r, c.at h = some r ∧ r.ro = o.ro ∧ (objSat σ w h r → objSat σ w h o)) ∨ (σ h = none ∧ objSat σ w h o) := by
    intro h o ho
    rcases Nat.lt_or_ge h d.length with hh | hh
    · rw [old h hh] at ho
      obtain ⟨r, h1, h2, h3⟩ := nlO_sat (σ := σ) (w := w) (h := h) (hat h) ho
      exact .inl ⟨by omega, r, h1, h2, h3⟩
    · have hn : σ h = none := hR.sat.beyond h (by simp only; omega)
      obtain ⟨h1, h2⟩ := new h o hh ho
      exact .inr ⟨hn, by simp only [objSat, h2]; exact .inl ⟨h1, hn⟩⟩
  refine ⟨σ, hR.defers, hR.size, fun t => ?_, ⟨fun h o ho => ?_, fun h h' o o' L L' hne e1 e2 hro s1 s2 => ?_, fun h hh => ?_, hR.sat.inHeap, hR.sat.frz, fun h o L e hro s => ?_⟩, hR.fr, fun h o L e hro s => ?_, hR.base, ?_⟩
  · rcases nlE_get he t with h | h
    · rw [h]; simp [rel]
    · exact nlV_rel h (hR.env t)
  · rcases get h o ho with ⟨_, r, h1, _, h3⟩ | ⟨_, h3⟩
    · exact h3 (hR.sat.obj h r h1)
    · exact h3
  · rcases get h o e1 with ⟨_, r, h1, h2, _⟩ | ⟨h1, _⟩
    · rcases get h' o' e2 with ⟨_, r', h1', _, _⟩ | ⟨h1', _⟩
      · exact hR.sat.apart h h' r r' L L' hne h1 h1' (by rw [h2]; exact hro) s1 s2
      · rw [h1'] at s2; cases s2
    · rw [h1] at s1; cases s1
  · exact hR.sat.beyond h (by simp only [List.length_append] at hh ⊢; omega)
  · rcases get h o e with ⟨_, r, h1, h2, _⟩ | ⟨h1, _⟩
    · exact hR.sat.frzA h r L h1 (by rw [h2]; exact hro) s
    · rw [h1] at s; cases s
  · rcases get h o e with ⟨_, r, h1, h2, _⟩ | ⟨h1, _⟩
    · exact hR.own h r L h1 (by rw [h2]; exact hro) s
    · rw [h1] at s; cases s
  · have := hR.klen
    simp only [List.length_append] at this ⊢
    omega
theorem soLe_pushM {μ : Nat → Nat} {α β : Type} {enc : α → List SV} {z : α} {g : β → α} {o : List β} {b : β} {cs : List SV} {sz n : Nat} {f : Nat → List SV} (hp : ∀ x, plainL (enc x) = true) (hn : n = o.length) (hf : ∀ j, j < n → f j = rowE enc z (o.map g) j) (hy : cs = enc (g b)) (hl : (enc (g b)).length = sz) :
    soLe μ (.row false sz (o ++ [b]).length (rowE enc z ((o ++ [b]).map g))) (.row false sz (n + 1) (catF n f fun j => litEl cs sz j)) := by
  subst hy
  refine soLe_row' (by simp [hn]) fun i hi => ?_
  rw [rowE_push (xs := o.map g) (by simp [hn]) hf hl (by simp at hi; omega), List.map_append]
  exact mapHL_plain (hp _)
/-- A call of a function that may put other rows in place of those that it was handed. -/
theorem XCalls.reb {P : Program} {f : FuncId} {k : Nat} {args0 : List SV} {pre : Ctx} {Z : SV} {C : Ctx} (hF : FnK P f k args0 pre fun z c => z = Z ∧ c = C) (l : List Nat) {args : List SV} {kk : Nat} {st : St} {K : Sl (SV × St)}
    (hargs : mapHL (muL l st.ctx.length) args0 = args) (hmap : ctxMap (muL l st.ctx.length) st.ctx l pre) (hnd : l.Nodup) (hrw : newRw k pre) (hfix : (l.drop k).all (fun g => decide (kk ≤ g)) = true) (hclean : cleanC (l.drop k) (upds l pre) 0 st.ctx)
    (hK : K.f (Z.mapH (muL l st.ctx.length), ⟨maskE (l.drop k) st.env, mergeC (muL l st.ctx.length) l pre C st.ctx⟩)) : XCalls P f args kk st K := by
  refine XCall.of hF l hargs.symm hmap (.inr hnd) hrw hfix (.inr hnd) hclean ?_
  rintro z c ⟨rfl, rfl⟩
  exact hK
theorem maskE_cons {B : List Nat} {t : Tmp} {x : SV} {r : List (Tmp × SV)} : maskE B ((t, x) :: r) = (t, if noH B x then x else .u) :: maskE B r := id rfl
theorem maskE_none {B : List Nat} : maskE B [] = [] := id rfl
theorem isCut_region {cut : List Nat} {i : Nat} {a : Array Oper} {b : Bool} : isCut cut (.region i a b) = cut.contains i := id rfl
theorem isCut_block {cut : List Nat} {i : Nat} {x : Code} : isCut cut (.block i x) = cut.contains (1000 + i) := id rfl
theorem isCut_seq {cut : List Nat} {x y : Code} : isCut cut (.seq x y) = isCut cut x := id rfl
theorem isCut_loop {cut : List Nat} {x : Code} : isCut cut (.loop x) = isCut cut x := id rfl
theorem isCut_cond {cut : List Nat} {c : Operand} {x y : Code} : isCut cut (.cond c x y) = false := id rfl
theorem isCut_skip {cut : List Nat} : isCut cut .skip = false := id rfl
theorem isCut_ret {cut : List Nat} : isCut cut .ret = false := id rfl
theorem isCut_exit {cut : List Nat} {i : Nat} : isCut cut (.exit i) = false := id rfl
theorem XCut : type_of% (And.intro (And.intro @vc_cut @isCut_region) (And.intro (And.intro @isCut_block @isCut_seq) (And.intro (And.intro @isCut_loop @isCut_cond) (And.intro @isCut_skip (And.intro @isCut_ret @isCut_exit))))) := And.intro (And.intro @vc_cut @isCut_region) (And.intro (And.intro @isCut_block @isCut_seq) (And.intro (And.intro @isCut_loop @isCut_cond) (And.intro @isCut_skip (And.intro @isCut_ret @isCut_exit))))
open Go.Pl in
theorem soLe_ints {μ : Nat → Nat} {n : Nat} {f : Nat → List SV} {G : Nat → Int} (h : ∀ j, j < n → f j = [.i .i64 (G j)]) : soLe μ (.row false 1 n (rowE intc 0 ((List.range n).map G))) (.row false 1 n f) := by
  refine soLe_row fun j hj => ?_
  rw [h j hj]
  have : ((List.range n).map G).getD j 0 = G j := by simp [List.getD, hj]
  simp only [rowE, this]
  rfl
end Go.Vg
namespace Go.Vg
/-- A function's end, where its state may first be read anew (what is nil as an empty row). -/
def FinX (te : TE) (k pl : Nat) (rs : List ResultVar) (Z : SV) (C : Ctx) (st : St) : Prop := ∃ st', Ent k st st' ∧ FinE te k pl rs Z C st'
theorem FnK.ofX {cf : Cf} (hcf : cf.ok) {f : FuncId} {fn : Func} {c : Code} (hf : cf.P.funcs[f]? = some fn) (hb : fn.body = some c) (hname : (fn.name == "runtime.NumGoroutine") = false)
    (hnt : fn.ntmps = cf.nt) {args : List SV} {pre : Ctx} (hlen : args.length ≤ cf.nt) (hk : cf.k ≤ pre.length) {rs : List ResultVar} (hrs : fn.results.toList = rs) {Z : SV} {C : Ctx} (n : Nat)
    (h : vc cf (FinX cf.te cf.k pre.length rs Z C) n [.code c] ⟨entry 0 args, pre⟩) : FnK cf.P f cf.k args pre fun z c => z = Z ∧ c = C := by
  refine FnK.ofG hcf hf hb hname hnt hlen hk hrs (fun A σ0 st0 a w hAk _ hF hR0 => ?_) n h
  obtain ⟨st, hEnt, l, ⟨h1, h2⟩, h3, h4, h5, h6⟩ := hF
  obtain ⟨σ, hR⟩ := hEnt A σ0 a w hAk hR0
  rw [← hrs] at h4
  obtain ⟨z, v, hz, hv, hr⟩ := resQ_sound (P := cf.P) hcf.te hR h4
  subst hz
  exact ⟨Z, v, C, σ.ren (muL l st.ctx.length), ⟨rfl, rfl⟩, hv, (rel_mapH _ _ _ _).1 hr, Rel.ren (st' := ⟨[], C⟩) l h1 h2 h3 trivial hAk hR, h5, h6⟩
theorem FinX.of {te : TE} {k pl : Nat} {rs : List ResultVar} {Z : SV} {C : Ctx} {st : St} (h : FinE te k pl rs Z C st) : FinX te k pl rs Z C st := ⟨st, Ent.refl _ _, h⟩
end Go.Vg
end
section
namespace Go.Vg
set_option linter.unusedVariables false
set_option linter.unusedSimpArgs false
open Go.RowKit

def fits (te : TE) : Nat → TypeId → List SV → Prop
  | 0, _, _ => False
  | n + 1, t, xs => match te t with
    | none => False
    | some ti => match ti.td with
      | .bool => ∃ b, xs = [.b b]
      | .int k => ∃ m, xs = [.i k m] ∧ inR k m
      | .str => ∃ l, xs = [.s l] ∧ l.length ≤ 9223372036854775807
      | .slice e => ∃ l, xs = [.fs (szOf te e) l] ∧ l.length ≤ 9223372036854775807 ∧ ∀ y ∈ l, fits te n e y
      | .struct fs => xs.length = ti.size ∧ ∀ f ∈ fs, fits te n f.1 ((xs.drop f.2).take (szOf te f.1))
      | _ => False

def tile (te : TE) : Nat → List (TypeId × Nat) → Option Nat
  | off, [] => some off
  | off, f :: r => if f.2 = off then tile te (off + szOf te f.1) r else none

def knows (te : TE) : Nat → TypeId → Bool
  | 0, _ => false
  | n + 1, t => match te t with
    | none => false
    | some ti => match ti.td with
      | .bool => ti.size == 1
      | .int k => (k == .i64 || k == .u8 || k == .i32) && ti.size == 1
      | .str => ti.size == 1
      | .slice e => ti.size == 1 && knows te n e && decide (0 < szOf te e)
      | .struct fs => tile te 0 fs == some ti.size && fs.all fun f => knows te n f.1
      | _ => false

theorem cellsOf_te {P : Program} {te : TE} (hte : teOk P te) {t : TypeId} {ti : TI} (h : te t = some ti) : P.cellsOf t = ti.size := by
  obtain ⟨i, hi, hs, _⟩ := (hte t ti h).info
  simp [Program.cellsOf, hi, hs]

theorem wf_inR {k : IntKind} {n : Int} (hk : (k == .i64 || k == .u8 || k == .i32) = true) (h : (Lit.int k n).wf = true) : inR k n := by
  cases k <;> simp at hk <;> simp only [inR] <;> simp [Lit.wf, IntKind.min, IntKind.max, IntKind.bits, IntKind.signed] at h <;> omega

section
variable {H : Type} {enc : TypeId × Value → H} {P : Program} {w : World} {base : Nat} {spare : Nat → Bool} {held : Bool} {te : TE}

theorem tile_fits (hte : teOk P te) {n : Nat}
    (ih : ∀ (t : TypeId) (cs : List Value) (m : Nat) (x : DataW H × List MemPlace), knows te n t = true → DataW.trod enc P w base spare held m t cs = some x → ∃ xs, fits te n t xs ∧ relL ⟨fun _ => none, fun b => w.heap[b]?⟩ xs cs ∧ plainL xs = true ∧ xs.length = szOf te t) (m : Nat) (cs : List Value) :
    ∀ (fs : List (TypeId × Nat)) (off tot : Nat), tile te off fs = some tot → cs.length = tot → (∀ f ∈ fs, knows te n f.1 = true) → (∀ f ∈ fs, ∃ x, DataW.trod enc P w base spare held m f.1 ((cs.drop f.2).take (szOf te f.1)) = some x) →
      off ≤ tot ∧ ∃ xs, relL ⟨fun _ => none, fun b => w.heap[b]?⟩ xs (cs.drop off) ∧ plainL xs = true ∧ ∀ f ∈ fs, off ≤ f.2 ∧ fits te n f.1 ((xs.drop (f.2 - off)).take (szOf te f.1))
  | [], off, tot, ht, hl, _, _ => by
    simp only [tile, Option.some.injEq] at ht
    subst ht
    refine ⟨Nat.le_refl _, [], ?_, rfl, by simp⟩
    rw [List.drop_of_length_le (by omega)]
    simp [relL]
  | f :: r, off, tot, ht, hl, hk, hx => by
    simp only [tile] at ht
    split at ht
    case isFalse => cases ht
    rename_i hoff
    obtain ⟨hle, ys, h1, h2, h3⟩ := tile_fits hte ih m cs r _ tot ht hl (fun g hg => hk g (List.mem_cons_of_mem _ hg)) (fun g hg => hx g (List.mem_cons_of_mem _ hg))
    obtain ⟨x, hx0⟩ := hx f (by simp)
    obtain ⟨xs, g1, g2, g3, g4⟩ := ih f.1 _ m x (hk f (by simp)) hx0
    refine ⟨by omega, xs ++ ys, ?_, ?_, fun g hg => ?_⟩
    · have : cs.drop off = (cs.drop off).take (szOf te f.1) ++ cs.drop (off + szOf te f.1) := by
        rw [← List.drop_drop, List.take_append_drop]
      rw [this]
      rw [hoff] at g2
      exact relL_append g2 h1
    · have : ∀ (a b : List SV), plainL a = true → plainL b = true → plainL (a ++ b) = true := by
        intro a
        induction a with
        | nil => intro b _ hb; exact hb
        | cons y ys ih => intro b ha hb; simp only [List.cons_append, plainL, Bool.and_eq_true] at ha ⊢; exact ⟨ha.1, ih b ha.2 hb⟩
      exact this _ _ g3 h2
    · rcases List.mem_cons.1 hg with rfl | hg
      · refine ⟨by omega, ?_⟩
        rw [hoff, Nat.sub_self, List.drop_zero, List.take_append_of_le_length (by omega), List.take_of_length_le (by omega)]
        exact g1
      · obtain ⟨k1, k2⟩ := h3 g hg
        refine ⟨by omega, ?_⟩
        have : (xs ++ ys).drop (g.2 - off) = ys.drop (g.2 - (off + szOf te f.1)) := by
          rw [List.drop_append]
          rw [List.drop_of_length_le (by omega), List.nil_append]
          congr 1
          omega
        rw [this]
        exact k2

theorem trod_fits (hte : teOk P te) : ∀ (n : Nat) (t : TypeId) (cs : List Value) (m : Nat) (x : DataW H × List MemPlace), knows te n t = true → DataW.trod enc P w base spare held m t cs = some x →
    ∃ xs, fits te n t xs ∧ relL ⟨fun _ => none, fun b => w.heap[b]?⟩ xs cs ∧ plainL xs = true ∧ xs.length = szOf te t
  | 0, _, _, _, _, h, _ => by simp [knows] at h
  | n + 1, t, cs, m, x, h, hx => by
    have ih := trod_fits hte n
    simp only [knows] at h
    cases hti : te t with
    | none => rw [hti] at h; cases h
    | some ti =>
      rw [hti] at h
      simp only at h
      have htd : tdOf te t = ti.td := by simp [tdOf, hti]
      have hsz : szOf te t = ti.size := by simp [szOf, hti]
      simp only [fits, hti]
      cases hd : ti.td with
      | bool =>
        rw [hd] at h htd
        simp only [beq_iff_eq] at h
        obtain ⟨b, rfl, _⟩ := DataW.trod_bool (und_bool hte htd) hx
        exact ⟨[.b b], ⟨b, rfl⟩, by simp [relL, rel], rfl, by simp [hsz, h]⟩
      | int k =>
        rw [hd] at h htd
        simp only [Bool.and_eq_true, beq_iff_eq] at h
        obtain ⟨v, rfl, _, hw⟩ := DataW.trod_int (und_int hte htd) hx
        exact ⟨[.i k v], ⟨v, rfl, wf_inR h.1 hw⟩, by simp [relL, rel], rfl, by simp [hsz, h.2]⟩
      | str =>
        rw [hd] at h htd
        simp only [beq_iff_eq] at h
        obtain ⟨s, rfl, _, hsl⟩ := DataW.trod_string (und_str hte htd) hx
        exact ⟨[.s s.data.toList], ⟨_, rfl, by rw [Array.length_toList, ByteArray.size_data]; exact Nat.le_trans hsl (by decide)⟩, by simp [relL, rel], rfl, by simp [hsz, h]⟩
      | slice e =>
        rw [hd] at h htd
        simp only [Bool.and_eq_true, beq_iff_eq, decide_eq_true_eq] at h
        obtain ⟨⟨h1, h2⟩, h3⟩ := h
        obtain ⟨tj, htj⟩ : ∃ tj, te e = some tj := by
          cases hq : te e with
          | none => simp [szOf, hq] at h3
          | some tj => exact ⟨tj, rfl⟩
        have hce : P.cellsOf e = szOf te e := by rw [cellsOf_te hte htj]; simp [szOf, htj]
        rcases DataW.trod_slice (und_slice hte htd) hx with ⟨rfl, _⟩ | ⟨a, len, cap, elems, rest, m', _, rfl, _, _, hlc, hcm, hel, hget, _⟩
        · exact ⟨[.fs (szOf te e) []], ⟨[], rfl, by simp, by simp⟩, by simp [relL, rel], rfl, by simp [hsz, h1]⟩
        · -- the elements, one by one
          have each : ∀ i, i < len → ∃ ys, fits te n e ys ∧ ys.length = szOf te e ∧ ∃ cs', w.cells? base (a.add (i * szOf te e)) (szOf te e) = some cs' ∧ relL ⟨fun _ => none, fun b => w.heap[b]?⟩ ys cs' ∧ plainL ys = true := by
            intro i hi
            have := hget i hi
            rw [List.getElem?_eq_getElem (by omega), hce] at this
            obtain ⟨cs', g1, g2⟩ := Option.bind_eq_some_iff.1 this
            obtain ⟨ys, k1, k2, k3, k4⟩ := ih e cs' m' _ h2 g2
            exact ⟨ys, k1, k4, cs', g1, k2, k3⟩
          let L : List (List SV) := (List.range len).map fun i => if hi : i < len then Classical.choose (each i hi) else []
          have hL : ∀ i y, L[i]? = some y → ∃ hi : i < len, y = Classical.choose (each i hi) := by
            intro i y hy
            simp only [L, List.getElem?_map, Option.map_eq_some_iff] at hy
            obtain ⟨j, hj, rfl⟩ := hy
            have hi : i < len := by
              have := (List.getElem?_eq_some_iff.1 hj).1
              simpa using this
            rw [List.getElem?_range hi] at hj
            cases hj
            exact ⟨hi, by rw [dif_pos hi]⟩
          have hlen : L.length = len := by simp [L]
          refine ⟨[.fs (szOf te e) L], ⟨L, rfl, by rw [hlen]; exact Nat.le_trans hlc (Nat.le_trans hcm (by decide)), fun y hy => ?_⟩, ?_, rfl, by simp [hsz, h1]⟩
          · obtain ⟨i, hi⟩ := List.mem_iff_getElem?.1 hy
            obtain ⟨hlt, rfl⟩ := hL i y hi
            exact (Classical.choose_spec (each i hlt)).1
          · simp only [relL, rel]
            refine ⟨_, _, rfl, ⟨some a, cap, by rw [hlen], by rw [hlen]; exact hlc, ?_⟩, rfl⟩
            by_cases h0 : len = 0
            · left; exact List.length_eq_zero_iff.1 (by omega)
            right
            -- the block
            have cell : ∀ i k, i < len → k < szOf te e → ∃ v, w.cell? (a.add (i * szOf te e + k)) = some v := by
              intro i k hi hk
              obtain ⟨ys, _, hy, cs', g1, g2, _⟩ := each i hi
              have hl := relL_length g2
              unfold World.cells? at g1
              split at g1
              · have := mapM_some_get g1 k k (by simp [hk])
                have e1 : (a.add (i * szOf te e)).add k = a.add (i * szOf te e + k) := by
                  unfold Addr.add
                  split <;> split <;> (try split) <;> simp_all <;> omega
                rw [e1] at this
                exact ⟨cs'[k]'(by omega), by rw [this]; exact List.getElem?_eq_getElem _⟩
              · cases g1
            obtain ⟨v0, hv0⟩ := cell 0 0 (by omega) h3
            have hadd0 : a.add (0 * szOf te e + 0) = a := by simp [Addr.add]
            rw [hadd0] at hv0
            obtain ⟨ab, ao, asp⟩ := a
            unfold World.cell? at hv0
            split at hv0
            · rename_i c el fr hheap
              have hsp : asp = none := by
                cases asp with
                | none => rfl
                | some q => simp at hv0
              subst hsp
              refine ⟨ab, ao, c, el, fr, rfl, hheap, relR_of_get fun j y hy => ?_⟩
              obtain ⟨hlt, rfl⟩ := hL j y hy
              obtain ⟨_, hy2, cs', g1, g2, g3⟩ := Classical.choose_spec (each j hlt)
              refine ⟨hy2, ?_⟩
              have hcs : cs' = ((c.toList.drop ao).drop (j * szOf te e)).take (szOf te e) := by
                have hl := relL_length g2
                apply List.ext_getElem?
                intro k
                unfold World.cells? at g1
                split at g1
                · by_cases hk : k < szOf te e
                  · have := mapM_some_get g1 k k (by simp [hk])
                    rw [add_none, add_none, cell?_of hheap] at this
                    rw [← this, List.getElem?_take, if_pos hk, List.getElem?_drop, List.getElem?_drop]
                    simp [Nat.add_assoc]
                  · rw [List.getElem?_eq_none (by omega), List.getElem?_take, if_neg hk]
                · cases g1
              rw [← hcs]
              exact g2
            · cases hv0
      | struct fs =>
        rw [hd] at h htd
        simp only [Bool.and_eq_true, beq_iff_eq, List.all_eq_true] at h
        obtain ⟨ff, hff, hmap, _⟩ := und_struct hte htd
        obtain ⟨xs, m', _, _, hl, hxl, hget⟩ := DataW.trod_struct hff hx
        rw [cellsOf_te hte hti] at hl
        obtain ⟨_, ys, h1, h2, h3⟩ := tile_fits hte (fun t cs m x => ih t cs m x) m' cs fs 0 ti.size h.1 hl (fun f hf => h.2 f hf) (fun f hf => by
          rw [← hmap] at hf
          obtain ⟨g, hg, rfl⟩ := List.mem_map.1 hf
          obtain ⟨i, hi⟩ := List.mem_iff_getElem?.1 hg
          have hi' : ff[i]? = some g := by simpa using hi
          have := hget i g hi'
          have hlt : i < xs.length := by
            have := (List.getElem?_eq_some_iff.1 hi).1
            simp at this; omega
          have hk := h.2 (g.type, g.offset) (by rw [← hmap]; exact hf)
          have hce : P.cellsOf g.type = szOf te g.type := by
            cases hq : te g.type with
            | none =>
              cases n with
              | zero => simp [knows] at hk
              | succ n => simp [knows, hq] at hk
            | some tj => rw [cellsOf_te hte hq]; simp [szOf, hq]
          rw [hce] at this
          exact ⟨xs[i], by rw [this]; exact List.getElem?_eq_getElem hlt⟩)
        rw [List.drop_zero] at h1
        have hyl : ys.length = ti.size := by rw [relL_length h1]; exact hl
        exact ⟨ys, ⟨hyl, fun f hf => by have := (h3 f hf).2; simpa using this⟩, h1, h2, by rw [hsz]; exact hyl⟩
      | map _ _ => rw [hd] at h; cases h
      | other => rw [hd] at h; cases h
end

theorem exists_map {α β : Type} {f : α → β} {p : α → Prop} : ∀ {l : List β}, (∀ y ∈ l, ∃ e, p e ∧ y = f e) → ∃ es : List α, l = es.map f ∧ ∀ e ∈ es, p e
  | [], _ => ⟨[], rfl, by simp⟩
  | y :: ys, h => by
    obtain ⟨e, h1, rfl⟩ := h y (by simp)
    obtain ⟨es, h2, h3⟩ := exists_map fun z hz => h z (List.mem_cons_of_mem _ hz)
    exact ⟨e :: es, by simp [h2], by simp [h1]; exact h3⟩

def fitsV (te : TE) (n : Nat) (t : TypeId) (y : SV) : Prop := if (tdOf te t).isStruct then ∃ xs, y = .agg xs ∧ fits te n t xs else fits te n t [y]

theorem trod_param {H : Type} {enc : TypeId × Value → H} {P : Program} {w : World} {base : Nat} {spare : Nat → Bool} {held : Bool} {te : TE} (hte : teOk P te) {n : Nat} {t : TypeId} (hk : knows te n t = true) {v : Value} {d : DataW H} {ps : List MemPlace}
    {re : Reach} {b0 : Nat} (hv : Value.okWide P w re b0 t v) (h : DataW.Trod enc P w base spare held t v d ps) : ∃ y, fitsV te n t y ∧ rel ⟨fun _ => none, fun b => w.heap[b]?⟩ y v := by
  obtain ⟨fuel, hf⟩ := h
  obtain ⟨xs, h1, h2, h3, h4⟩ := trod_fits hte n t _ _ _ hk hf
  cases n with
  | zero => simp [knows] at hk
  | succ n =>
  simp only [knows] at hk
  cases hti : te t with
  | none => rw [hti] at hk; cases hk
  | some ti =>
    rw [hti] at hk
    simp only at hk
    have htd : tdOf te t = ti.td := by simp [tdOf, hti]
    have hsz : szOf te t = ti.size := by simp [szOf, hti]
    rw [hsz] at h4
    have one : ti.size = 1 → (∀ cs, v ≠ .agg cs) → ∃ y, xs = [y] ∧ rel ⟨fun _ => none, fun b => w.heap[b]?⟩ y v := by
      intro hs hne
      obtain ⟨y, rfl⟩ : ∃ y, xs = [y] := by
        match xs, h4 with
        | [y], _ => exact ⟨y, rfl⟩
        | [], h => rw [hs] at h; simp at h
        | _ :: _ :: _, h => rw [hs] at h; simp at h
      refine ⟨y, rfl, ?_⟩
      have hc : v.cells.toList = [v] := by
        cases v <;> first | rfl | exact absurd rfl (hne _)
      rw [hc] at h2
      simp only [relL] at h2
      obtain ⟨u, r, e, hr, rfl⟩ := h2
      cases e
      exact hr
    unfold fitsV
    rw [htd]
    cases hd : ti.td with
    | bool =>
      rw [hd] at hk htd
      have hu := und_bool hte htd
      obtain ⟨y, rfl, hr⟩ := one (by simpa using hk) (fun cs e => by subst e; simp [Value.okWide, Cell.okWide, Cell.ok, hu] at hv)
      exact ⟨y, by simpa [TD.isStruct] using h1, hr⟩
    | int k =>
      rw [hd] at hk htd
      have hu := und_int hte htd
      obtain ⟨y, rfl, hr⟩ := one (by simp at hk; exact hk.2) (fun cs e => by subst e; simp [Value.okWide, Cell.okWide, Cell.ok, hu] at hv)
      exact ⟨y, by simpa [TD.isStruct] using h1, hr⟩
    | str =>
      rw [hd] at hk htd
      have hu := und_str hte htd
      obtain ⟨y, rfl, hr⟩ := one (by simpa using hk) (fun cs e => by subst e; simp [Value.okWide, Cell.okWide, Cell.ok, hu] at hv)
      exact ⟨y, by simpa [TD.isStruct] using h1, hr⟩
    | slice e =>
      rw [hd] at hk htd
      have hu := und_slice hte htd
      obtain ⟨y, rfl, hr⟩ := one (by simp at hk; exact hk.1.1) (fun cs e => by subst e; simp [Value.okWide, Cell.okWide, Cell.ok, hu] at hv)
      exact ⟨y, by simpa [TD.isStruct] using h1, hr⟩
    | struct fs =>
      rw [hd] at hk htd
      obtain ⟨ff, hff, _⟩ := und_struct hte htd
      have : ∃ cs, v = .agg cs := by
        simp only [Value.okWide, hff] at hv
        obtain ⟨cs, e, _⟩ := hv
        exact ⟨cs, e⟩
      obtain ⟨cs, rfl⟩ := this
      refine ⟨.agg xs, by simp only [TD.isStruct, if_true]; exact ⟨xs, rfl, h1⟩, ?_⟩
      simp only [rel]
      exact ⟨cs, rfl, h2⟩
    | map _ _ => rw [hd] at hk; cases hk
    | other => rw [hd] at hk; cases hk
end Go.Vg
end
section
namespace Go.Pl
set_option linter.unusedVariables false
set_option linter.unusedSimpArgs false
def isColl (k : Int) : Bool := decide (k = 3) || decide (k = 4)
def isNode (k : Int) : Bool := isColl k || decide (k = 5) || decide (k = 6)
/-- What is open before a place: the places of the collections around it, the innermost last. -/
def stk (l : List Ev) : Nat → List Nat
  | 0 => []
  | k + 1 => if isColl (l.getD k evz).kind then stk l k ++ [k] else if (l.getD k evz).kind = 7 then (stk l k).take ((stk l k).length - 1) else stk l k
def tops (s : List Nat) : Int := if s.length = 0 then -1 else s.getD (s.length - 1) 0
def docF (l : List Ev) : Nat → Nat
  | 0 => 0
  | k + 1 => if (l.getD k evz).kind = 2 then k else docF l k
def endF (l : List Ev) : Nat → Nat → Int
  | 0, _ => 0
  | k + 1, j => if j = k then (if isNode (l.getD k evz).kind && !isColl (l.getD k evz).kind then (k : Int) else -1) else if (l.getD k evz).kind = 7 ∧ tops (stk l k) = j then (k : Int) else endF l k j
def mkR (n : Nat) (f : Nat → Int) : List Int := (List.range n).map f
def endL (l : List Ev) : List Int := mkR l.length (endF l l.length)
def upL (l : List Ev) : List Int := mkR l.length fun j => tops (stk l j)
def docL (l : List Ev) : List Int := mkR l.length fun j => (docF l (j + 1) : Nat)
theorem mkR_length {n : Nat} {f : Nat → Int} : (mkR n f).length = n := by simp [mkR]
theorem mkR_get {n : Nat} {f : Nat → Int} {j : Nat} (h : j < n) : (mkR n f).getD j 0 = f j := by simp [mkR, List.getD, h]
end Go.Pl
namespace Go.Pl
theorem ndEnds_pos {o : Stk} (h : ndEnds o = true) : 0 < o.length := by
  unfold ndEnds at h
  simp at h
  exact List.length_pos_iff.2 h.1
theorem ndEv_stk {d : Int} {o : Stk} {s : List Nat} {k : Int} {i : Nat} (h : (ndEv d o k).1 = true) (hl : o.length = s.length) :
    (ndEv d o k).2.2.length = (if isColl k then s ++ [i] else if k = 7 then s.take (s.length - 1) else s).length := by
  unfold ndEv at h ⊢
  unfold isColl
  by_cases h2 : k = 2
  · simp [h2, hl]
  by_cases h5 : k = 5 ∨ k = 6
  · rw [if_neg h2, if_pos h5, if_neg (by simp; omega), if_neg (by omega), ndNode_len, hl]
  by_cases h3 : k = 3 ∨ k = 4
  · rw [if_neg h2, if_neg h5, if_pos h3, if_pos (by simp; omega)]; simp [ndNode_len, hl]
  have hc : (decide (k = 3) || decide (k = 4)) = false := by simp; omega
  simp only [h2, h5, h3, hc, if_false, Bool.false_eq_true] at h ⊢
  by_cases h7 : k = 7
  · simp only [h7, if_true] at h ⊢
    cases he : ndEnds o with
    | true => simp [pop_length, hl]
    | false => rw [he] at h; simp at h
  · simp only [h7, if_false] at h ⊢
    by_cases h8 : k = 8
    · simp only [h8, if_true]; exact hl
    · simp only [h8, if_false] at h; cases h
theorem run_stk {l : List Ev} : ∀ (n k : Nat) (d : Int) (o : Stk), l.length - k ≤ n → ndRun (l.drop k) d o = true → o.length = (stk l k).length → ∀ m, k ≤ m → m < l.length → (l.getD m evz).kind = 7 → 0 < (stk l m).length
  | 0, k, d, o, hn, hr, hl, m, h1, h2, h3 => by omega
  | n + 1, k, d, o, hn, hr, hl, m, h1, h2, h3 => by
    rw [drop_getD l k evz (by omega)] at hr
    simp only [ndRun, Bool.and_eq_true] at hr
    obtain ⟨_, hr⟩ := hr
    by_cases h10 : (l.getD k evz).kind = 10
    · rw [if_pos h10] at hr
      have : l.length ≤ k + 1 := by simpa using hr
      obtain rfl : m = k := by omega
      rw [h10] at h3; cases h3
    rw [if_neg h10] at hr
    by_cases h9 : (l.getD k evz).kind = 9
    · rw [if_pos h9] at hr
      simp only [Bool.and_eq_true] at hr
      have : l.length ≤ k + 1 := by simpa using hr.1
      obtain rfl : m = k := by omega
      rw [h9] at h3; cases h3
    rw [if_neg h9] at hr
    simp only [Bool.and_eq_true] at hr
    by_cases hm : m = k
    · subst hm
      have := hr.1
      rw [h3] at this
      simp only [ndEv, Int.reduceEq, if_false, or_self, if_true] at this
      split at this
      · rename_i he; have := ndEnds_pos he; omega
      · cases this
    · exact run_stk n (k + 1) _ _ (by omega) hr.2 (ndEv_stk hr.1 hl) m (by omega) h2 h3
theorem nested_end {l : List Ev} (h : nested l = true) {m : Nat} (h2 : m < l.length) (h3 : (l.getD m evz).kind = 7) : 0 < (stk l m).length := by
  match l, h with
  | e :: r, h =>
    simp only [nested, Bool.and_eq_true, decide_eq_true_eq] at h
    have h1 : 1 ≤ m := by
      rcases Nat.eq_zero_or_pos m with h0 | h0
      · subst h0; simp only [List.getD_cons_zero] at h3; omega
      · exact h0
    exact run_stk (l := e :: r) _ 1 0 [] (Nat.le_refl _) h.2 (by simp [stk, isColl, h.1.2]) m h1 h2 h3
theorem stk_lt {l : List Ev} : ∀ (k j : Nat), j < (stk l k).length → (stk l k).getD j 0 < k
  | 0, j, h => by simp [stk] at h
  | k + 1, j, h => by
    simp only [stk] at h ⊢
    split at h
    · rename_i hc
      rw [if_pos hc]
      simp only [List.length_append, List.length_singleton] at h
      by_cases hj : j < (stk l k).length
      · have := stk_lt k j hj
        simp only [List.getD_eq_getElem?_getD, List.getElem?_append_left hj] at this ⊢
        omega
      · have : j = (stk l k).length := by omega
        subst this; simp
    · rename_i hc
      rw [if_neg hc]
      split at h
      · rename_i h7
        rw [if_pos h7]
        simp only [List.length_take] at h
        have := stk_lt (l := l) k j (by omega)
        simp only [List.getD_eq_getElem?_getD, List.getElem?_take, if_pos (show j < (stk l k).length - 1 by omega)] at this ⊢
        omega
      · rename_i h7
        rw [if_neg h7]
        have := stk_lt k j h
        omega
end Go.Pl
namespace Go.Pl
theorem tops_pos {s : List Nat} (h : 0 < s.length) : tops s = s.getD (s.length - 1) 0 := by unfold tops; rw [if_neg (by omega)]
theorem tops_nil {s : List Nat} (h : ¬ 0 < s.length) : tops s = -1 := by unfold tops; rw [if_pos (by omega)]
end Go.Pl
namespace Go.Pl
theorem stk_len {l : List Ev} : ∀ (k : Nat), (stk l k).length ≤ k
  | 0 => by simp [stk]
  | k + 1 => by
    have := stk_len (l := l) k
    simp only [stk]
    split
    · simp; omega
    · split
      · simp; omega
      · omega
end Go.Pl
namespace Go.Pl
theorem take_row {α β : Type} {g : α → β} {s : List α} {m j : Nat} (z : β) (h : j < (s.take m).length) : ((s.take m).map g).getD j z = (s.map g).getD j z := by
  have h' : j < m := by simp at h; omega
  simp only [List.getD_eq_getElem?_getD, List.getElem?_map, List.getElem?_take, if_pos h']
theorem pop_ends {K : Int} {t : Int} {i j : Nat} {e : Int} {A : Int → Go.Vg.SV} (hK : K = 7) (h0 : 0 ≤ t) (h1 : t < i) :
    (if j = t.toNat then (if j = i then [A (-1)] else [A e]).set 0 (A i) else if j = i then [A (-1)] else [A e]) = [A (if j = i then (if (isNode K && !isColl K) = true then (i : Int) else -1) else if K = 7 ∧ t = j then (i : Int) else e)] := by
  subst hK
  have hn7 : (isNode 7 && !isColl 7) = false := by decide
  rw [hn7]
  by_cases hji : j = i
  · rw [if_neg (by omega), if_pos hji, if_pos hji]; rfl
  · by_cases ht : t = j
    · rw [if_pos (by omega), if_neg hji, if_neg hji, if_pos ⟨rfl, ht⟩]; rfl
    · rw [if_neg (by omega), if_neg hji, if_neg hji, if_neg (fun h => ht h.2)]
theorem ups_nil {s : Nat → List Nat} {i j : Nat} {A : Int → Go.Vg.SV} (h : ¬ 0 < (s i).length) : (if j = i then [A (-1)] else [A (if j < i then tops (s j) else 0)]) = [A (if j < i + 1 then tops (s j) else 0)] := by
  by_cases hji : j = i
  · subst hji; rw [if_pos rfl, if_pos (by omega), tops_nil h]
  · rw [if_neg hji]
    by_cases hlt : j < i
    · rw [if_pos hlt, if_pos (by omega)]
    · rw [if_neg hlt, if_neg (by omega)]
end Go.Pl
namespace Go.Pl
theorem ups_some {s : Nat → List Nat} {i j : Nat} {A : Int → Go.Vg.SV} {G e : Int} (h : G = tops (s i)) : (if j = i then (if j = i then [A (-1)] else [A e]).set 0 (A G) else if j = i then [A (-1)] else [A (if j < i then tops (s j) else 0)]) = [A (if j < i + 1 then tops (s j) else 0)] := by
  by_cases hji : j = i
  · subst hji; rw [if_pos rfl, if_pos rfl, if_pos (by omega), h]; rfl
  · rw [if_neg hji, if_neg hji]
    by_cases hlt : j < i
    · rw [if_pos hlt, if_pos (by omega)]
    · rw [if_neg hlt, if_neg (by omega)]
end Go.Pl
namespace Go.Pl
theorem push_ends {K : Int} {t : Int} {i j : Nat} {e : Int} {A : Int → Go.Vg.SV} (hK : isColl K = true) :
    (if j = i then [A (-1)] else [A e]) = [A (if j = i then (if (isNode K && !isColl K) = true then (i : Int) else -1) else if K = 7 ∧ t = j then (i : Int) else e)] := by
  have h7 : K ≠ 7 := by rintro rfl; exact absurd hK (by decide)
  rw [hK]
  by_cases hji : j = i
  · rw [if_pos hji, if_pos hji, if_neg (by simp)]
  · rw [if_neg hji, if_neg hji, if_neg (fun h => h7 h.1)]
end Go.Pl
namespace Go.Pl
def upB (l : List Ev) : Nat → Nat → Int
  | 0, _ => -1
  | k + 1, c => if (l.getD k evz).kind = 7 then upB l k (c + 1) else if isColl (l.getD k evz).kind then (if c = 0 then (k : Int) else upB l k (c - 1)) else upB l k c
theorem upB_stk {l : List Ev} : ∀ (k c : Nat), (∀ m, m < k → (l.getD m evz).kind = 7 → 0 < (stk l m).length) → upB l k c = if c < (stk l k).length then (((stk l k).getD ((stk l k).length - 1 - c) 0 : Nat) : Int) else -1
  | 0, c, _ => by simp [upB, stk]
  | k + 1, c, h => by
    have ih := fun c => upB_stk (l := l) k c (fun m hm => h m (by omega))
    simp only [upB]
    by_cases h7 : (l.getD k evz).kind = 7
    · have hp := h k (by omega) h7
      have hc : ¬ isColl (l.getD k evz).kind = true := by rw [h7]; decide
      have hs : stk l (k + 1) = (stk l k).take ((stk l k).length - 1) := by simp only [stk]; rw [if_neg hc, if_pos h7]
      rw [if_pos h7, ih, hs, List.length_take]
      by_cases hlt : c + 1 < (stk l k).length
      · rw [if_pos hlt, if_pos (by omega)]
        have e1 : min ((stk l k).length - 1) (stk l k).length - 1 - c = (stk l k).length - 1 - (c + 1) := by omega
        rw [e1]
        simp only [List.getD_eq_getElem?_getD, List.getElem?_take, if_pos (show (stk l k).length - 1 - (c + 1) < (stk l k).length - 1 by omega)]
      · rw [if_neg hlt, if_neg (by omega)]
    · rw [if_neg h7]
      by_cases hc : isColl (l.getD k evz).kind = true
      · have hs : stk l (k + 1) = stk l k ++ [k] := by simp only [stk]; rw [if_pos hc]
        rw [if_pos hc, hs, List.length_append, List.length_singleton]
        by_cases h0 : c = 0
        · subst h0; rw [if_pos rfl, if_pos (by omega)]; simp
        · rw [if_neg h0, ih]
          by_cases hlt : c - 1 < (stk l k).length
          · rw [if_pos hlt, if_pos (by omega)]
            have e1 : (stk l k).length + 1 - 1 - c = (stk l k).length - 1 - (c - 1) := by omega
            rw [e1]
            simp only [List.getD_eq_getElem?_getD, List.getElem?_append_left (show (stk l k).length - 1 - (c - 1) < (stk l k).length by omega)]
          · rw [if_neg hlt, if_neg (by omega)]
      · have hs : stk l (k + 1) = stk l k := by simp only [stk]; rw [if_neg hc, if_neg h7]
        rw [if_neg hc, hs]
        exact ih c
theorem tops_up {l : List Ev} (hn : nested l = true) {k : Nat} (hk : k ≤ l.length) : tops (stk l k) = upB l k 0 := by
  rw [upB_stk k 0 (fun m hm h7 => nested_end hn (by omega) h7)]
  unfold tops
  by_cases h : (stk l k).length = 0
  · rw [if_pos h, if_neg (by omega)]
  · rw [if_neg h, if_pos (by omega)]; simp
end Go.Pl
end
section
namespace Go.Pl
set_option linter.unusedVariables false
set_option linter.unusedSimpArgs false
def cnE (k : Int) (c : Nat) : Nat := if isColl k then c + 1 else if k = 7 then c - 1 else c
def scB (l : List Ev) (k c : Nat) : Int := if h : k < l.length then (if cnE (l.getD k evz).kind c = 0 then (k : Int) else scB l (k + 1) (cnE (l.getD k evz).kind c)) else -1
termination_by l.length - k
theorem scB_lt {l : List Ev} {k c : Nat} (h : k < l.length) : scB l k c = if cnE (l.getD k evz).kind c = 0 then (k : Int) else scB l (k + 1) (cnE (l.getD k evz).kind c) := by rw [scB, dif_pos h]
theorem scB_ge {l : List Ev} {k c : Nat} (h : ¬ k < l.length) : scB l k c = -1 := by rw [scB, dif_neg h]
theorem stk_coll {l : List Ev} {k : Nat} (h : isColl (l.getD k evz).kind = true) : stk l (k + 1) = stk l k ++ [k] := by simp only [stk]; rw [if_pos h]
theorem stk_end {l : List Ev} {k : Nat} (h : (l.getD k evz).kind = 7) : stk l (k + 1) = (stk l k).take ((stk l k).length - 1) := by
  simp only [stk]; rw [if_neg (by rw [h]; decide), if_pos h]
theorem stk_same {l : List Ev} {k : Nat} (h : ¬ isColl (l.getD k evz).kind = true) (h7 : (l.getD k evz).kind ≠ 7) : stk l (k + 1) = stk l k := by
  simp only [stk]; rw [if_neg h, if_neg h7]
theorem stk_mem_lt {l : List Ev} {k i : Nat} (h : i ∈ stk l k) : i < k := by
  obtain ⟨j, hj, rfl⟩ := List.mem_iff_getElem.1 h
  have := stk_lt (l := l) k j hj
  simpa [List.getD, hj] using this
/-- What has left the stack does not come back, and its end stays. -/
theorem end_stays {l : List Ev} {i m : Nat} (him : i < m) (hi : i ∉ stk l m) : ∀ n, i ∉ stk l (m + n) ∧ endF l (m + n) i = endF l m i
  | 0 => ⟨hi, rfl⟩
  | n + 1 => by
    obtain ⟨h1, h2⟩ := end_stays him hi n
    have hne : i ≠ m + n := by omega
    refine ⟨?_, ?_⟩
    · show i ∉ stk l (m + n + 1)
      by_cases hc : isColl (l.getD (m + n) evz).kind = true
      · rw [stk_coll hc]; simp [h1, hne]
      · by_cases h7 : (l.getD (m + n) evz).kind = 7
        · rw [stk_end h7]; exact fun h => h1 (List.mem_of_mem_take h)
        · rw [stk_same hc h7]; exact h1
    · show endF l (m + n + 1) i = endF l m i
      simp only [endF]
      rw [if_neg hne, if_neg, h2]
      rintro ⟨_, ht⟩
      apply h1
      unfold tops at ht
      split at ht
      · omega
      · rename_i h0
        have : (stk l (m + n)).getD ((stk l (m + n)).length - 1) 0 = i := by omega
        rw [← this]
        rw [List.getD_eq_getElem?_getD, List.getElem?_eq_getElem (by omega)]
        exact List.getElem_mem _
theorem stk_mono {l : List Ev} : ∀ (k p q : Nat), p < q → q < (stk l k).length → (stk l k).getD p 0 < (stk l k).getD q 0
  | 0, p, q, _, h => by simp [stk] at h
  | k + 1, p, q, hpq, h => by
    by_cases hc : isColl (l.getD k evz).kind = true
    · rw [stk_coll hc] at h ⊢
      simp only [List.length_append, List.length_singleton] at h
      by_cases hq : q < (stk l k).length
      · have := stk_mono (l := l) k p q hpq hq
        simp only [List.getD_eq_getElem?_getD, List.getElem?_append_left hq, List.getElem?_append_left (show p < (stk l k).length by omega)] at this ⊢
        exact this
      · have hql : q = (stk l k).length := by omega
        subst hql
        have := stk_lt (l := l) k p (by omega)
        simp only [List.getD_eq_getElem?_getD, List.getElem?_append_left (show p < (stk l k).length by omega)] at this ⊢
        simpa using this
    · by_cases h7 : (l.getD k evz).kind = 7
      · rw [stk_end h7] at h ⊢
        simp only [List.length_take] at h
        have := stk_mono (l := l) k p q hpq (by omega)
        simp only [List.getD_eq_getElem?_getD, List.getElem?_take, if_pos (show p < (stk l k).length - 1 by omega), if_pos (show q < (stk l k).length - 1 by omega)] at this ⊢
        exact this
      · rw [stk_same hc h7] at h ⊢
        exact stk_mono k p q hpq h
end Go.Pl
namespace Go.Pl
theorem end_final {l : List Ev} {i m : Nat} (him : i < m) (hi : i ∉ stk l m) (hm : m ≤ l.length) : endF l l.length i = endF l m i := by
  have := (end_stays him hi (l.length - m)).2
  rwa [show m + (l.length - m) = l.length by omega] at this
theorem open_scan {l : List Ev} (hn : nested l = true) : ∀ (n k i p : Nat), l.length - k ≤ n → k ≤ l.length → i < k → p < (stk l k).length → (stk l k).getD p 0 = i → endF l k i = -1 → scB l k ((stk l k).length - p) = endF l l.length i
  | n, k, i, p, hf, hk, hik, hp, hpi, he => by
    by_cases hlt : k < l.length
    · have hn1 : l.length - (k + 1) < l.length - k := by omega
      rw [scB_lt hlt]
      have hne : i ≠ k := by omega
      by_cases hc : isColl (l.getD k evz).kind = true
      · have h7 : (l.getD k evz).kind ≠ 7 := fun h => by rw [h] at hc; cases hc
        have hcn : cnE (l.getD k evz).kind ((stk l k).length - p) = (stk l (k + 1)).length - p := by
          unfold cnE; rw [if_pos hc, stk_coll hc]; simp; omega
        rw [hcn, if_neg (by rw [stk_coll hc]; simp; omega)]
        refine open_scan hn (n - 1) (k + 1) i p (by omega) (by omega) (by omega) (by rw [stk_coll hc]; simp; omega) ?_ ?_
        · rw [stk_coll hc]
          simp only [List.getD_eq_getElem?_getD, List.getElem?_append_left hp] at hpi ⊢
          exact hpi
        · simp only [endF]; rw [if_neg hne, if_neg (fun h => h7 h.1)]; exact he
      · by_cases h7 : (l.getD k evz).kind = 7
        · have hcn : cnE (l.getD k evz).kind ((stk l k).length - p) = (stk l k).length - p - 1 := by
            unfold cnE; rw [if_neg hc, if_pos h7]
          rw [hcn]
          by_cases hp1 : p + 1 = (stk l k).length
          · have hpt : p = (stk l k).length - 1 := by omega
            rw [if_pos (by omega)]
            have htop : tops (stk l k) = i := by rw [tops_pos (by omega), ← hpt, hpi]
            have he1 : endF l (k + 1) i = k := by simp only [endF]; rw [if_neg hne, if_pos ⟨h7, htop⟩]
            rw [← he1]
            refine (end_final (by omega) ?_ (by omega)).symm
            rw [stk_end h7]
            intro hm
            obtain ⟨j, hj, hji⟩ := List.mem_iff_getElem.1 hm
            simp only [List.length_take] at hj
            have := stk_mono (l := l) k j p (by omega) hp
            rw [hpi] at this
            simp only [List.getElem_take] at hji
            rw [List.getD_eq_getElem?_getD, List.getElem?_eq_getElem (by omega)] at this
            simp only [Option.getD_some, hji] at this
            omega
          · rw [if_neg (by omega)]
            have hD : (stk l k).length - p - 1 = (stk l (k + 1)).length - p := by rw [stk_end h7]; simp; omega
            rw [hD]
            refine open_scan hn (n - 1) (k + 1) i p (by omega) (by omega) (by omega) (by rw [stk_end h7]; simp; omega) ?_ ?_
            · rw [stk_end h7]
              simp only [List.getD_eq_getElem?_getD, List.getElem?_take, if_pos (show p < (stk l k).length - 1 by omega)] at hpi ⊢
              exact hpi
            · simp only [endF]
              rw [if_neg hne, if_neg]
              · exact he
              · rintro ⟨_, ht⟩
                have := stk_mono (l := l) k p ((stk l k).length - 1) (by omega) (by omega)
                rw [tops_pos (by omega)] at ht
                omega
        · have hcn : cnE (l.getD k evz).kind ((stk l k).length - p) = (stk l (k + 1)).length - p := by
            unfold cnE; rw [if_neg hc, if_neg h7, stk_same hc h7]
          rw [hcn, if_neg (by rw [stk_same hc h7]; omega)]
          refine open_scan hn (n - 1) (k + 1) i p (by omega) (by omega) (by omega) (by rw [stk_same hc h7]; exact hp) (by rw [stk_same hc h7]; exact hpi) ?_
          simp only [endF]; rw [if_neg hne, if_neg (fun h => h7 h.1)]; exact he
    · rw [scB_ge hlt, ← he, show l.length = k by omega]
termination_by _ k => l.length - k
theorem end_scan {l : List Ev} (hn : nested l = true) {i : Nat} (hi : i < l.length) : endF l l.length i = if isNode (l.getD i evz).kind then scB l i 0 else -1 := by
  have hlast : ∀ s : List Nat, (∀ j ∈ s, j < i) → i ∉ s := fun s h hm => Nat.lt_irrefl _ (h i hm)
  by_cases hc : isColl (l.getD i evz).kind = true
  · have hnode : isNode (l.getD i evz).kind = true := by unfold isNode; rw [hc]; rfl
    rw [if_pos hnode, scB_lt hi]
    have hcn : cnE (l.getD i evz).kind 0 = 1 := by unfold cnE; rw [if_pos hc]
    rw [hcn, if_neg (by omega)]
    have h1 : (stk l (i + 1)).length - (stk l i).length = 1 := by rw [stk_coll hc]; simp
    have := open_scan hn _ (i + 1) i (stk l i).length (Nat.le_refl _) (by omega) (by omega) (by rw [stk_coll hc]; simp) (by rw [stk_coll hc]; simp) (by simp only [endF, if_true]; rw [hc]; simp)
    rw [h1] at this
    exact this.symm
  · have hni : i ∉ stk l (i + 1) := by
      intro hm
      by_cases h7 : (l.getD i evz).kind = 7
      · rw [stk_end h7] at hm; exact Nat.lt_irrefl _ (stk_mem_lt (List.mem_of_mem_take hm))
      · rw [stk_same hc h7] at hm; exact Nat.lt_irrefl _ (stk_mem_lt hm)
    rw [end_final (by omega) hni (by omega)]
    simp only [endF, if_true]
    have hcf : isColl (l.getD i evz).kind = false := by simpa using hc
    rw [hcf]
    by_cases hnode : isNode (l.getD i evz).kind = true
    · rw [if_pos hnode, if_pos (by rw [hnode]; rfl), scB_lt hi]
      have h7 : (l.getD i evz).kind ≠ 7 := fun h => by rw [h] at hnode; cases hnode
      rw [if_pos (by unfold cnE; rw [if_neg hc, if_neg h7])]
    · rw [if_neg hnode, if_neg (fun h => hnode (by simpa using h))]
end Go.Pl
end
