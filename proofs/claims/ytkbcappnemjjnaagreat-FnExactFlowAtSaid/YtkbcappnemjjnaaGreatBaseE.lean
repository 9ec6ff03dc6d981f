/- Plain words: decimal digits, and the marks that a law writes into what it was handed. -/
import Derived.Test.YtkbcappnemjjnaaGreatBaseD
import Derived.Laws.Externs
import Derived.ChangeArms
import Derived.ChangeFn
import Derived.Test.YtkbcappnemjjnaaGreatBaseA
section
set_option linter.unusedVariables false
set_option linter.unusedSimpArgs false
namespace Go.Pl
def dec (n : Nat) : List UInt8 := if h : n < 10 then [UInt8.ofNat (48 + n)] else dec (n / 10) ++ [UInt8.ofNat (48 + n % 10)]
termination_by n
decreasing_by omega
theorem dec_eq (n : Nat) : dec n = if n < 10 then [UInt8.ofNat (48 + n)] else dec (n / 10) ++ [UInt8.ofNat (48 + n % 10)] := by
  rw [dec]; split <;> rfl
theorem dec_length (n : Nat) : (dec n).length ≤ n + 1 := by
  induction n using Nat.strongRecOn with
  | _ n ih =>
    rw [dec_eq]
    split
    · simp
    · have := ih (n / 10) (by omega)
      simp
      omega
def mtx (k : Int) : List UInt8 := if k ≤ 0 then [109, 48] else 109 :: dec k.toNat
/-- What is behind the first digits: 'm' is still to be written ahead of 'out'. -/
def DecInv (n m : Nat) (out : List UInt8) : Prop := m ≤ n ∧ if m = 0 then out = dec n else dec m ++ out = dec n
theorem DecInv.step {n m : Nat} {out : List UInt8} (h : DecInv n m out) (hm : 0 < m) : DecInv n (m / 10) (UInt8.ofNat (48 + m % 10) :: out) := by
  unfold DecInv at *
  rw [if_neg (by omega)] at h
  refine ⟨by omega, ?_⟩
  rw [dec_eq m] at h
  split
  · rename_i h0
    rw [if_pos (by omega)] at h
    rw [show m % 10 = m by omega]
    simpa using h.2
  · rw [if_neg (by omega)] at h
    simpa using h.2
theorem DecInv.len {n m : Nat} {out : List UInt8} (h : DecInv n m out) : out.length ≤ n + 1 := by
  have := dec_length n
  unfold DecInv at h
  split at h
  · rw [h.2]; exact this
  · have h2 := congrArg List.length h.2
    simp at h2
    omega
/-- A row of marks. -/
def mkL {α : Type} (g : Int → α) (c : Int) : Int → Nat → List α
  | _, 0 => []
  | k, n + 1 => g k :: mkL g c (k + c) n
theorem mkL_length {α : Type} {g : Int → α} {c : Int} : ∀ {n : Nat} {k : Int}, (mkL g c k n).length = n
  | 0, _ => rfl
  | n + 1, k => by simp [mkL, mkL_length]
theorem mkL_get {α : Type} {g : Int → α} {c : Int} (z : α) : ∀ {n : Nat} {k : Int} {j : Nat}, j < n → (mkL g c k n).getD j z = g (k + c * j)
  | 0, _, j, h => by omega
  | n + 1, k, 0, _ => by simp [mkL]
  | n + 1, k, j + 1, h => by
    have := mkL_get (g := g) (c := c) z (n := n) (k := k + c) (j := j) (by omega)
    simp only [mkL, List.getD_cons_succ, this]
    congr 1
    rw [Int.natCast_add, Int.mul_add]
    omega
theorem eq_of_getD {α : Type} (z : α) {a b : List α} (hl : a.length = b.length) (h : ∀ j, j < a.length → a.getD j z = b.getD j z) : a = b := by
  apply List.ext_getElem hl
  intro j h1 h2
  have := h j h1
  simpa [List.getD, List.getElem?_eq_getElem h1, List.getElem?_eq_getElem h2] using this
/-- A row of which a beginning is marked. -/
def mkd {α : Type} (g : Int → α) (c k : Int) (a : List α) (i : Nat) : List α := mkL g c k i ++ a.drop i
theorem mkd_get {α : Type} {g : Int → α} {c k : Int} {a : List α} {i : Nat} (z : α) (j : Nat) : (mkd g c k a i).getD j z = if j < i then g (k + c * j) else a.getD j z := by
  unfold mkd
  split
  · rename_i h
    have := mkL_get (g := g) (c := c) z (n := i) (k := k) h
    rw [← this]
    simp only [List.getD_eq_getElem?_getD]
    rw [List.getElem?_append_left (by rw [mkL_length]; exact h)]
  · rename_i h
    simp only [List.getD_eq_getElem?_getD]
    rw [List.getElem?_append_right (by rw [mkL_length]; omega), mkL_length, List.getElem?_drop, show i + (j - i) = j by omega]
theorem mkd_zero {α : Type} {g : Int → α} {c k : Int} {a : List α} : mkd g c k a 0 = a := by simp [mkd, mkL]
theorem mkd_all {α : Type} {g : Int → α} {c k : Int} {a : List α} : mkd g c k a a.length = mkL g c k a.length := by simp [mkd]
end Go.Pl
end
section
set_option linter.unusedVariables false
set_option linter.unusedSimpArgs false
namespace Go.Vg
set_option linter.unusedVariables false
set_option linter.unusedSimpArgs false
def rowE {α : Type} (enc : α → List SV) (z : α) (xs : List α) : Nat → List SV := fun j => enc (xs.getD j z)
theorem rowE_list {α : Type} {enc : α → List SV} {z : α} {xs : List α} {n : Nat} (h : n = xs.length) : rowList (rowE enc z xs) 0 n = xs.map enc := by
  subst h
  apply List.ext_getElem?
  intro j
  unfold rowList rowE
  by_cases hj : j < xs.length
  · simp [hj, List.getD]
  · simp [hj]
theorem rowE_part {α : Type} {enc : α → List SV} {z : α} {xs : List α} {lo n : Nat} (h : lo + n ≤ xs.length) : rowList (rowE enc z xs) lo n = ((xs.drop lo).take n).map enc := by
  apply List.ext_getElem?
  intro j
  unfold rowList rowE
  by_cases hj : j < n
  · have h1 : lo + j < xs.length := by omega
    simp [hj, List.getD, List.getElem?_eq_getElem h1, h1, List.getElem?_take]
  · simp [hj, List.getElem?_take]
theorem rowE_push {α : Type} {enc : α → List SV} {z : α} {xs : List α} {y : α} {sz n : Nat} {f : Nat → List SV} (hn : n = xs.length) (hf : ∀ j, j < n → f j = rowE enc z xs j) (hl : (enc y).length = sz) {i : Nat} (hi : i < n + 1) :
    catF n f (litEl (enc y) sz) i = rowE enc z (xs ++ [y]) i := by
  subst hn
  unfold catF rowE
  split
  · rename_i h
    rw [hf i h]
    simp [rowE, List.getD, List.getElem?_append_left h]
  · have : i = xs.length := by omega
    subst this
    have h1 : (xs ++ [y]).getD xs.length z = y := by simp [List.getD]
    rw [h1, Nat.sub_self]
    simp only [litEl, Nat.zero_mul, List.drop_zero]
    rw [← hl, List.take_length]
theorem rowE_app {α : Type} {enc : α → List SV} {z : α} {xs ys : List α} {n m : Nat} {f g : Nat → List SV} (hn : n = xs.length) (hm : m = ys.length) (hf : ∀ j, j < n → f j = rowE enc z xs j) (hg : ∀ j, j < m → g j = rowE enc z ys j) {i : Nat} (hi : i < n + m) :
    catF n f g i = rowE enc z (xs ++ ys) i := by
  subst hn hm
  unfold catF
  split
  · rename_i h
    rw [hf i h]
    simp [rowE, List.getD, List.getElem?_append_left h]
  · rename_i h
    rw [hg _ (by omega)]
    simp only [rowE, List.getD, List.getElem?_append_right (show xs.length ≤ i by omega)]
theorem getD_map {α : Type} (enc : α → List SV) (xs : List α) (i : Nat) (z : α) : (xs.map enc).getD i (enc z) = enc (xs.getD i z) := by
  simp only [List.getD_eq_getElem?_getD, List.getElem?_map]
  cases xs[i]? <;> rfl
theorem soLe_row {μ : Nat → Nat} {sz n : Nat} {f g : Nat → List SV} (h : ∀ i, i < n → mapHL μ (g i) = f i) : soLe μ (.row false sz n g) (.row false sz n f) := ⟨id, rfl, rfl, Nat.le_refl _, rfl, h⟩
theorem soLe_row' {μ : Nat → Nat} {sz n m : Nat} {f g : Nat → List SV} (hn : n ≤ m) (h : ∀ i, i < n → mapHL μ (g i) = f i) : soLe μ (.row false sz n g) (.row false sz m f) := ⟨id, rfl, rfl, hn, rfl, fun i hi => h i hi⟩
theorem soLe_blk {μ : Nat → Nat} {l m : List SV} (h : mapHL μ l = m) : soLe μ (.blk false l) (.blk false m) := ⟨id, rfl, by simp [SO.sz, ← h, mapHL_eq], Nat.le_refl _, rfl, fun i _ => h⟩
mutual
theorem mapH_plain {μ : Nat → Nat} : ∀ {x : SV}, x.plain = true → x.mapH μ = x
  | .b _, _ => rfl
  | .i _ _, _ => rfl
  | .s _, _ => rfl
  | .nils, _ => rfl
  | .fn _, _ => rfl
  | .u, _ => rfl
  | .fs _ _, _ => rfl
  | .fp _ _, _ => rfl
  | .ptr _ _ _, h => by simp [SV.plain] at h
  | .slc _ _ _, h => by simp [SV.plain] at h
  | .mp _, h => by simp [SV.plain] at h
  | .agg l, h => by simp only [SV.mapH]; rw [mapHL_plain (by simpa [SV.plain] using h)]
  | .tup l, h => by simp only [SV.mapH]; rw [mapHL_plain (by simpa [SV.plain] using h)]
  | .gd _ x, h => by simp only [SV.mapH]; rw [mapH_plain (by simpa [SV.plain] using h)]
theorem mapHL_plain {μ : Nat → Nat} : ∀ {l : List SV}, plainL l = true → mapHL μ l = l
  | [], _ => rfl
  | x :: xs, h => by
    simp only [plainL, Bool.and_eq_true] at h
    simp only [mapHL, mapH_plain h.1, mapHL_plain h.2]
end
theorem Ent.ren1 {k : Nat} {st st' : St} (l : List Nat) (h : idUpTo k l = true ∧ l.Nodup) (hctx : entCtx (muL l st.ctx.length) st.ctx l st'.ctx) (henv : entEnv (muL l st.ctx.length) st.env st'.env) : Ent k st st' := Ent.ren l h.1 h.2 hctx henv
theorem litEl_ok {y : List SV} {sz : Nat} (h : y.all okLeaf = true) (hl : y.length = sz) : ∀ j, j < 1 → (litEl y sz j).all okLeaf = true ∧ (litEl y sz j).length = sz := by
  intro j hj
  obtain rfl : j = 0 := by omega
  have : litEl y sz 0 = y := by simp only [litEl, Nat.zero_mul, List.drop_zero]; rw [← hl, List.take_length]
  rw [this]
  exact ⟨h, hl⟩
theorem soLe_push {μ : Nat → Nat} {α : Type} {enc : α → List SV} {z : α} {xs : List α} {y : α} {sz n : Nat} {f : Nat → List SV} (hp : ∀ x, plainL (enc x) = true) (hn : n = xs.length) (hf : ∀ j, j < n → f j = rowE enc z xs j) (hl : (enc y).length = sz) :
    soLe μ (.row false sz (xs ++ [y]).length (rowE enc z (xs ++ [y]))) (.row false sz (n + 1) (catF n f fun j => litEl (enc y) sz j)) :=
  soLe_row' (by simp [hn]) fun i hi => by
    rw [rowE_push hn hf hl (by simp at hi; omega)]
    exact mapHL_plain (hp _)
theorem soLe_nil {μ : Nat → Nat} {α : Type} {enc : α → List SV} {z : α} {sz : Nat} {f : Nat → List SV} : soLe μ (.row false sz ([] : List α).length (rowE enc z [])) (.row false sz 0 f) :=
  soLe_row fun i hi => absurd hi (Nat.not_lt_zero _)
theorem soLe_same {μ : Nat → Nat} {α : Type} {enc : α → List SV} {z : α} {xs : List α} {sz n : Nat} (hp : ∀ x, plainL (enc x) = true) : soLe μ (.row false sz n (rowE enc z xs)) (.row false sz n (rowE enc z xs)) :=
  soLe_row fun i hi => mapHL_plain (hp _)
open Go.Pl in
theorem soLe_mark {μ : Nat → Nat} {α : Type} {enc : α → List SV} {z : α} {g : Int → α} {c k : Int} {a : List α} {i sz n : Nat} {f : Nat → List SV} (hp : ∀ x, plainL (enc x) = true) (hf : ∀ j, j < n → f j = if j = i then enc (g (k + c * i)) else rowE enc z (mkd g c k a i) j) :
    soLe μ (.row false sz n (rowE enc z (mkd g c k a (i + 1)))) (.row false sz n f) := by
  refine soLe_row fun j hj => ?_
  rw [hf j hj]
  simp only [rowE, mkd_get]
  rw [mapHL_plain (hp _)]
  by_cases h1 : j = i
  · subst h1
    rw [if_pos (by omega), if_pos rfl]
  · rw [if_neg h1]
    by_cases h2 : j < i
    · rw [if_pos (by omega), if_pos h2]
    · rw [if_neg (by omega), if_neg h2]
def strc (b : List UInt8) : List SV := [.s b]
def intc (n : Int) : List SV := [.i .i64 n]
def booc (b : Bool) : List SV := [.b b]
def bytc (b : UInt8) : List SV := [.i .u8 b.toNat]
theorem strc_inj {l m : List (List UInt8)} : l.map strc = m.map strc ↔ l = m := map_inj fun a b h => by simpa [strc] using h
theorem intc_inj {l m : List Int} : l.map intc = m.map intc ↔ l = m := map_inj fun a b h => by simpa [intc] using h
theorem booc_inj {l m : List Bool} : l.map booc = m.map booc ↔ l = m := map_inj fun a b h => by simpa [booc] using h
theorem getD_strc (a : List (List UInt8)) (i : Nat) : (a.map strc).getD i [.s []] = [.s (a.getD i [])] := getD_map strc a i []
theorem getD_intc (a : List Int) (i : Nat) : (a.map intc).getD i [.i .i64 0] = [.i .i64 (a.getD i 0)] := getD_map intc a i 0
theorem getD_booc (a : List Bool) (i : Nat) : (a.map booc).getD i [.b false] = [.b (a.getD i false)] := getD_map booc a i false
theorem getD_bytc (a : List UInt8) (i : Nat) : (a.map bytc).getD i [.i .u8 0] = [.i .u8 (a.getD i 0).toNat] := getD_map bytc a i 0
theorem rowE_str {a : List (List UInt8)} {i : Nat} : rowE strc [] a i = [.s (a.getD i [])] := id rfl
theorem rowE_int {a : List Int} {i : Nat} : rowE intc 0 a i = [.i .i64 (a.getD i 0)] := id rfl
theorem rowE_boo {a : List Bool} {i : Nat} : rowE booc false a i = [.b (a.getD i false)] := id rfl
theorem rowE_byt {a : List UInt8} {i : Nat} : rowE bytc 0 a i = [.i .u8 (a.getD i 0).toNat] := id rfl
theorem rowH {α : Type} {enc : α → List SV} {z : α} (hp : ∀ x, plainL (enc x) = true) {μ : Nat → Nat} {r : Bool} {sz n : Nat} {a : List α} : SO.mapH μ (.row r sz n (rowE enc z a)) = .row r sz n (rowE enc z a) := by
  simp only [SO.mapH]
  congr 1
  funext i
  exact mapHL_plain (hp _)
theorem rowH_str {μ : Nat → Nat} {r : Bool} {sz n : Nat} {a : List (List UInt8)} : SO.mapH μ (.row r sz n (rowE strc [] a)) = .row r sz n (rowE strc [] a) := rowH fun _ => rfl
theorem rowH_int {μ : Nat → Nat} {r : Bool} {sz n : Nat} {a : List Int} : SO.mapH μ (.row r sz n (rowE intc 0 a)) = .row r sz n (rowE intc 0 a) := rowH fun _ => rfl
theorem rowH_boo {μ : Nat → Nat} {r : Bool} {sz n : Nat} {a : List Bool} : SO.mapH μ (.row r sz n (rowE booc false a)) = .row r sz n (rowE booc false a) := rowH fun _ => rfl
theorem rowH_byt {μ : Nat → Nat} {r : Bool} {sz n : Nat} {a : List UInt8} : SO.mapH μ (.row r sz n (rowE bytc 0 a)) = .row r sz n (rowE bytc 0 a) := rowH fun _ => rfl
theorem omap_some {μ : Nat → Nat} {o : SO} : Option.map (SO.mapH μ) (some o) = some (o.mapH μ) := id rfl
theorem XR : type_of% (And.intro (And.intro @omap_some (And.intro (And.intro @rowH_str @rowH_int) (And.intro @rowH_boo @rowH_byt))) <| And.intro (And.intro @getD_strc @getD_intc) (And.intro (And.intro @getD_booc @getD_bytc) (And.intro (And.intro @rowE_str @rowE_int) (And.intro @rowE_boo @rowE_byt)))) := And.intro (And.intro @omap_some (And.intro (And.intro @rowH_str @rowH_int) (And.intro @rowH_boo @rowH_byt))) <| And.intro (And.intro @getD_strc @getD_intc) (And.intro (And.intro @getD_booc @getD_bytc) (And.intro (And.intro @rowE_str @rowE_int) (And.intro @rowE_boo @rowE_byt)))
theorem muL_nil {n h : Nat} : muL [] n h = n + h := by simp [muL]
/-- A call of a function that makes new rows: they stand behind the caller's own. -/
theorem XCalls.own {P : Program} {f : FuncId} {args : List SV} {Z : SV} {C : Ctx} (hF : FnK P f 0 args [] fun z c => z = Z ∧ c = C) (hp : plainL args = true) {kk : Nat} {st : St} {K : Sl (SV × St)}
    (hK : K.f (Z.mapH (fun h => st.ctx.length + h), ⟨st.env, st.ctx ++ C.map fun o => o.map (SO.mapH fun h => st.ctx.length + h)⟩)) : XCalls P f args kk st K := by
  have hmu : muL [] st.ctx.length = fun h => st.ctx.length + h := funext fun h => muL_nil
  refine XCall.of hF [] (by rw [mapHL_plain hp]) trivial (.inl rfl) (newRw_nil) rfl (.inl rfl) cleanC_nil ?_
  rintro z c ⟨rfl, rfl⟩
  rw [hmu]
  simp only [List.drop_nil, maskE_nil]
  unfold mergeC
  simp only [upd, List.length_nil, List.drop_zero]
  exact hK
/-- A call of a function that writes what it was handed: nothing comes to lie elsewhere. -/
theorem XCalls.mut {P : Program} {f : FuncId} {k : Nat} {args0 : List SV} {pre : Ctx} {Z : SV} {C : Ctx} (hF : FnK P f k args0 pre fun z c => z = Z ∧ c = C) (hkl : pre.length = k) (l : List Nat) {args : List SV} {kk : Nat} {st : St} {K : Sl (SV × St)}
    (hargs : mapHL (muL l st.ctx.length) args0 = args) (hmap : ctxMap (muL l st.ctx.length) st.ctx l pre) (hnd : l.Nodup)
    (hK : K.f (Z.mapH (muL l st.ctx.length), ⟨st.env, mergeC (muL l st.ctx.length) l pre C st.ctx⟩)) : XCalls P f args kk st K := by
  subst hkl
  have hl := (ctxMap_get hmap).1
  have hd : l.drop pre.length = [] := by rw [← hl]; exact List.drop_length
  refine XCall.of hF l hargs.symm hmap (.inr hnd) (by simp [newRw]) (by rw [hd]; rfl) (.inl hd) (by rw [hd]; exact cleanC_nil) ?_
  rintro z c ⟨rfl, rfl⟩
  rw [hd, maskE_nil]
  exact hK
/-- What is frozen of rows that a function has made. -/
theorem PF.ofOwn {P : Program} {f : FuncId} {args : List SV} {Z z : SV} {C : Ctx} (hF : FnK P f 0 args [] fun z c => z = Z ∧ c = C) (hp : plainL args = true) (hz : z.plain = true) (h : frzOk C Z ∧ frzV C Z = z) : PF P f args z :=
  ⟨hp, hz, hF.mono (by rintro _ _ ⟨rfl, rfl⟩; exact h)⟩
end Go.Vg
end
section
set_option linter.unusedVariables false
set_option linter.unusedSimpArgs false
namespace Go.Vg
set_option linter.unusedVariables false
set_option linter.unusedSimpArgs false
def nlV (x y : SV) : Prop := x = y ∨ (x = .nils ∧ ∃ h lo, y = .slc h lo 0)
def nlL : List SV → List SV → Prop
  | [], [] => True
  | x :: xs, y :: ys => nlV x y ∧ nlL xs ys
  | _, _ => False
def nlO : Option SO → Option SO → Prop
  | some (.blk r cs), some (.blk q ds) => r = q ∧ nlL cs ds
  | o, p => o = p
def nlC : Ctx → Ctx → Prop
  | [], [] => True
  | o :: r, p :: q => nlO o p ∧ nlC r q
  | _, _ => False
def nlE (env : List (Tmp × SV)) : List (Tmp × SV) → Prop
  | [] => True
  | (t, x) :: r => nlV (look env t) x ∧ nlE env r
theorem nlV_rel {σ : Asg} {x y : SV} (h : nlV x y) {v : Value} (hr : rel σ x v) : rel σ y v := by
  rcases h with rfl | ⟨rfl, q, lo, rfl⟩
  · exact hr
  · simp only [rel] at hr ⊢
    exact ⟨none, 0, hr, Nat.le_refl _, .inl rfl⟩
theorem nlE_get {env : List (Tmp × SV)} : ∀ {e : List (Tmp × SV)}, nlE env e → ∀ t, look e t = .u ∨ nlV (look env t) (look e t)
  | [], _, t => .inl rfl
  | (u, x) :: r, h, t => by
    simp only [nlE] at h
    simp only [look]
    by_cases hu : u = t
    · rw [if_pos hu]; subst hu; exact .inr h.1
    · rw [if_neg hu]; exact nlE_get h.2 t
theorem nlL_get {σ : Asg} : ∀ {xs ys : List SV}, nlL xs ys → xs.length = ys.length ∧ ∀ k v, rel σ (xs.getD k .u) v → rel σ (ys.getD k .u) v
  | [], [], _ => ⟨rfl, fun k v h => h⟩
  | x :: xs, y :: ys, h => by
    simp only [nlL] at h
    obtain ⟨h1, h2⟩ := nlL_get (σ := σ) h.2
    refine ⟨by simp [h1], fun k v hv => ?_⟩
    cases k with
    | zero => simp only [List.getD_cons_zero] at hv ⊢; exact nlV_rel h.1 hv
    | succ k => simp only [List.getD_cons_succ] at hv ⊢; exact h2 k v hv
  | [], _ :: _, h => by simp [nlL] at h
  | _ :: _, [], h => by simp [nlL] at h
theorem nlO_sat {σ : Asg} {w : World} {h : Nat} : ∀ {o p : Option SO}, nlO o p → ∀ {q : SO}, p = some q → ∃ r, o = some r ∧ r.ro = q.ro ∧ (objSat σ w h r → objSat σ w h q) := by
  intro o p hn q hq
  subst hq
  unfold nlO at hn
  split at hn
  · rename_i r cs q' ds heq
    cases heq
    obtain ⟨rfl, hl⟩ := hn
    refine ⟨_, rfl, rfl, fun hs => ?_⟩
    obtain ⟨hlen, hg⟩ := nlL_get (σ := σ) hl
    simp only [objSat, SO.isMap] at hs ⊢
    rcases hs with ⟨h1, h2⟩ | ⟨L, c, e, fr, h1, h2⟩
    · exact .inl ⟨h1, h2⟩
    · have h3 := h2.lsz; have h4 := h2.fits; have h5 := h2.cell
      simp only [SO.sz, SO.n, SO.el] at h3 h4 h5
      refine .inr ⟨L, c, e, fr, h1, h2.heap, by simp only [SO.sz]; omega, h2.room, by simp only [SO.sz, SO.n]; omega, fun i k hi hk => ?_, h2.free⟩
      simp only [SO.sz, SO.el, SO.n] at hi hk ⊢
      obtain ⟨v, hv, hr⟩ := h5 i k hi (by omega)
      refine ⟨v, by rw [← hlen]; exact hv, hg k v hr⟩
  · exact ⟨q, hn, rfl, id⟩
theorem nlC_at : ∀ {c d : Ctx}, nlC c d → c.length = d.length ∧ ∀ h, nlO (c.at h) (d.at h)
  | [], [], _ => ⟨rfl, fun h => by simp [Ctx.at, nlO]⟩
  | o :: r, p :: q, h => by
    simp only [nlC] at h
    obtain ⟨h1, h2⟩ := nlC_at h.2
    refine ⟨by simp [h1], fun k => ?_⟩
    cases k with
    | zero => rw [at_cons_zero, at_cons_zero]; exact h.1
    | succ k => rw [at_cons_succ, at_cons_succ]; exact h2 k
  | [], _ :: _, h => by simp [nlC] at h
  | _ :: _, [], h => by simp [nlC] at h
/-- Rows without elements come out of nothing; what was nil may lie in them. -/
theorem Ent.nl {k : Nat} {env env' : List (Tmp × SV)} {c d : Ctx} (es : List (Nat × (Nat → List SV))) (he : nlE env env') (hc : nlC c d) : Ent k ⟨env, c⟩ ⟨env', d ++ es.map fun p => some (.row false p.1 0 p.2)⟩ := by
  intro A σ a w hk hR
  obtain ⟨hlen, hat⟩ := nlC_at hc
  have old : ∀ h, h < d.length → Ctx.at (d ++ es.map fun p => some (.row false p.1 0 p.2)) h = d.at h := by
    intro h hh
    simp only [Ctx.at, List.getD_eq_getElem?_getD, List.getElem?_append_left hh]
  have new : ∀ h o, d.length ≤ h → Ctx.at (d ++ es.map fun p => some (.row false p.1 0 p.2)) h = some o → o.n = 0 ∧ o.isMap = false := by
    intro h o hh ho
    simp only [Ctx.at, List.getD_eq_getElem?_getD, List.getElem?_append_right hh, List.getElem?_map] at ho
    cases hx : es[h - d.length]? with
    | none => rw [hx] at ho; cases ho
    | some p => rw [hx] at ho; simp at ho; subst ho; exact ⟨rfl, rfl⟩
  have get : ∀ h o, Ctx.at (d ++ es.map fun p => some (.row false p.1 0 p.2)) h = some o → (h < c.length ∧ ∃ r, c.at h = some r ∧ r.ro = o.ro ∧ (objSat σ w h r → objSat σ w h o)) ∨ (σ h = none ∧ objSat σ w h o) := by
    intro h o ho
    rcases Nat.lt_or_ge h d.length with hh | hh
    · rw [old h hh] at ho
      obtain ⟨r, h1, h2, h3⟩ := nlO_sat (σ := σ) (w := w) (h := h) (hat h) ho
      exact .inl ⟨by omega, r, h1, h2, h3⟩
    · have hn : σ h = none := hR.sat.beyond h (by simp only; omega)
      obtain ⟨h1, h2⟩ := new h o hh ho
      exact .inr ⟨hn, by simp only [objSat, h2]; exact .inl ⟨h1, hn⟩⟩
  refine ⟨σ, hR.defers, hR.size, fun t => ?_, ⟨fun h o ho => ?_, fun h h' o o' L L' hne e1 e2 hro s1 s2 => ?_, fun h hh => ?_, hR.sat.inHeap, hR.sat.frz, fun h o L e hro s => ?_⟩, hR.fr, fun h o L e hro s => ?_, hR.base, ?_⟩
  · rcases nlE_get he t with h | h
    · rw [h]; simp [rel]
    · exact nlV_rel h (hR.env t)
  · rcases get h o ho with ⟨_, r, h1, _, h3⟩ | ⟨_, h3⟩
    · exact h3 (hR.sat.obj h r h1)
    · exact h3
  · rcases get h o e1 with ⟨_, r, h1, h2, _⟩ | ⟨h1, _⟩
    · rcases get h' o' e2 with ⟨_, r', h1', _, _⟩ | ⟨h1', _⟩
      · exact hR.sat.apart h h' r r' L L' hne h1 h1' (by rw [h2]; exact hro) s1 s2
      · rw [h1'] at s2; cases s2
    · rw [h1] at s1; cases s1
  · exact hR.sat.beyond h (by simp only [List.length_append] at hh ⊢; omega)
  · rcases get h o e with ⟨_, r, h1, h2, _⟩ | ⟨h1, _⟩
    · exact hR.sat.frzA h r L h1 (by rw [h2]; exact hro) s
    · rw [h1] at s; cases s
  · rcases get h o e with ⟨_, r, h1, h2, _⟩ | ⟨h1, _⟩
    · exact hR.own h r L h1 (by rw [h2]; exact hro) s
    · rw [h1] at s; cases s
  · have := hR.klen
    simp only [List.length_append] at this ⊢
    omega
/-- A call of a function that may put other rows in place of those that it was handed. -/
theorem XCalls.reb {P : Program} {f : FuncId} {k : Nat} {args0 : List SV} {pre : Ctx} {Z : SV} {C : Ctx} (hF : FnK P f k args0 pre fun z c => z = Z ∧ c = C) (l : List Nat) {args : List SV} {kk : Nat} {st : St} {K : Sl (SV × St)}
    (hargs : mapHL (muL l st.ctx.length) args0 = args) (hmap : ctxMap (muL l st.ctx.length) st.ctx l pre) (hnd : l.Nodup) (hrw : newRw k pre) (hfix : (l.drop k).all (fun g => decide (kk ≤ g)) = true) (hclean : cleanC (l.drop k) (upds l pre) 0 st.ctx)
    (hK : K.f (Z.mapH (muL l st.ctx.length), ⟨maskE (l.drop k) st.env, mergeC (muL l st.ctx.length) l pre C st.ctx⟩)) : XCalls P f args kk st K := by
  refine XCall.of hF l hargs.symm hmap (.inr hnd) hrw hfix (.inr hnd) hclean ?_
  rintro z c ⟨rfl, rfl⟩
  exact hK
theorem maskE_cons {B : List Nat} {t : Tmp} {x : SV} {r : List (Tmp × SV)} : maskE B ((t, x) :: r) = (t, if noH B x then x else .u) :: maskE B r := id rfl
theorem maskE_none {B : List Nat} : maskE B [] = [] := id rfl
theorem isCut_region {cut : List Nat} {i : Nat} {a : Array Oper} {b : Bool} : isCut cut (.region i a b) = cut.contains i := id rfl
theorem isCut_block {cut : List Nat} {i : Nat} {x : Code} : isCut cut (.block i x) = cut.contains (1000 + i) := id rfl
theorem isCut_seq {cut : List Nat} {x y : Code} : isCut cut (.seq x y) = isCut cut x := id rfl
theorem isCut_loop {cut : List Nat} {x : Code} : isCut cut (.loop x) = isCut cut x := id rfl
theorem isCut_cond {cut : List Nat} {c : Operand} {x y : Code} : isCut cut (.cond c x y) = false := id rfl
theorem isCut_skip {cut : List Nat} : isCut cut .skip = false := id rfl
theorem isCut_ret {cut : List Nat} : isCut cut .ret = false := id rfl
theorem isCut_exit {cut : List Nat} {i : Nat} : isCut cut (.exit i) = false := id rfl
theorem XCut : type_of% (And.intro (And.intro @vc_cut @isCut_region) (And.intro (And.intro @isCut_block @isCut_seq) (And.intro (And.intro @isCut_loop @isCut_cond) (And.intro @isCut_skip (And.intro @isCut_ret @isCut_exit))))) := And.intro (And.intro @vc_cut @isCut_region) (And.intro (And.intro @isCut_block @isCut_seq) (And.intro (And.intro @isCut_loop @isCut_cond) (And.intro @isCut_skip (And.intro @isCut_ret @isCut_exit))))
end Go.Vg
namespace Go.Vg
/-- A function's end, where its state may first be read anew (what is nil as an empty row). -/
def FinX (te : TE) (k pl : Nat) (rs : List ResultVar) (Z : SV) (C : Ctx) (st : St) : Prop := ∃ st', Ent k st st' ∧ FinE te k pl rs Z C st'
theorem FnK.ofX {cf : Cf} (hcf : cf.ok) {f : FuncId} {fn : Func} {c : Code} (hf : cf.P.funcs[f]? = some fn) (hb : fn.body = some c) (hname : (fn.name == "runtime.NumGoroutine") = false)
    (hnt : fn.ntmps = cf.nt) {args : List SV} {pre : Ctx} (hlen : args.length ≤ cf.nt) (hk : cf.k ≤ pre.length) {rs : List ResultVar} (hrs : fn.results.toList = rs) {Z : SV} {C : Ctx} (n : Nat)
    (h : vc cf (FinX cf.te cf.k pre.length rs Z C) n [.code c] ⟨entry 0 args, pre⟩) : FnK cf.P f cf.k args pre fun z c => z = Z ∧ c = C := by
  refine FnK.ofG hcf hf hb hname hnt hlen hk hrs (fun A σ0 st0 a w hAk _ hF hR0 => ?_) n h
  obtain ⟨st, hEnt, l, ⟨h1, h2⟩, h3, h4, h5, h6⟩ := hF
  obtain ⟨σ, hR⟩ := hEnt A σ0 a w hAk hR0
  rw [← hrs] at h4
  obtain ⟨z, v, hz, hv, hr⟩ := resQ_sound (P := cf.P) hcf.te hR h4
  subst hz
  exact ⟨Z, v, C, σ.ren (muL l st.ctx.length), ⟨rfl, rfl⟩, hv, (rel_mapH _ _ _ _).1 hr, Rel.ren (st' := ⟨[], C⟩) l h1 h2 h3 trivial hAk hR, h5, h6⟩
theorem FinX.of {te : TE} {k pl : Nat} {rs : List ResultVar} {Z : SV} {C : Ctx} {st : St} (h : FinE te k pl rs Z C st) : FinX te k pl rs Z C st := ⟨st, Ent.refl _ _, h⟩
end Go.Vg
end
section
set_option linter.unusedVariables false
set_option linter.unusedSimpArgs false
namespace Go.Vg
theorem XT : type_of% (And.intro (And.intro (And.intro (And.intro (And.intro (And.intro (And.intro (@entry.eq_1) (@entry.eq_2)) (And.intro (@isStr.eq_1) (@isStr.eq_2))) (And.intro (And.intro (@tdOf.eq_1) (@szOf.eq_1)) (And.intro (@zeroOf.eq_1) (And.intro (@TD.isStruct.eq_1) (@TD.isStruct.eq_2))))) (And.intro (And.intro (And.intro (@okCell.eq_1) (@okCell.eq_2)) (And.intro (@okCell.eq_3) (@okCell.eq_4))) (And.intro (And.intro (@cellsOf.eq_1) (@cellsOf.eq_2)) (And.intro (@SO.isMap.eq_1) (And.intro (@SO.isMap.eq_2) (@SO.isMap.eq_3)))))) (And.intro (And.intro (And.intro (And.intro (@SO.sz.eq_1) (@SO.sz.eq_2)) (And.intro (@SO.sz.eq_3) (@SO.el.eq_1))) (And.intro (And.intro (@SO.el.eq_2) (@SO.el.eq_3)) (And.intro (@SO.n.eq_1) (And.intro (@SO.n.eq_2) (@SO.n.eq_3))))) (And.intro (And.intro (And.intro (@SO.ro.eq_1) (@SO.ro.eq_2)) (And.intro (@SO.ro.eq_3) (@mkCf.eq_1))) (And.intro (And.intro (@quietOp.eq_1) (@quietOp.eq_2)) (And.intro (@opClass.eq_1) (And.intro (@opClass.eq_2) (@opClass.eq_3))))))) (And.intro (And.intro (And.intro (And.intro (And.intro (@opClass.eq_4) (@opClass.eq_5)) (And.intro (@opClass.eq_6) (@opClass.eq_7))) (And.intro (And.intro (@opClass.eq_8) (@opClass.eq_9)) (And.intro (@opClass.eq_10) (And.intro (@opClass.eq_11) (@opClass.eq_12))))) (And.intro (And.intro (And.intro (@opClass.eq_13) (@okLeaf.eq_1)) (And.intro (@okLeaf.eq_2) (@okLeaf.eq_3))) (And.intro (And.intro (@okLeaf.eq_4) (@okLeaf.eq_5)) (And.intro (@okLeaf.eq_6) (And.intro (@okLeaf.eq_7) (@okLeaf.eq_8)))))) (And.intro (And.intro (And.intro (And.intro (@okLeaf.eq_9) (@okLeaf.eq_10)) (And.intro (@okLeaf.eq_11) (@spl.eq_1))) (And.intro (And.intro (@spl.eq_2) (@cellV.eq_1)) (And.intro (@cellV.eq_2) (And.intro (@isU8T.eq_1) (@isSlS.eq_1))))) (And.intro (And.intro (And.intro (@isSlS.eq_2) (@isSlS.eq_3)) (And.intro (@fillS.eq_1) (@fillS.eq_2))) (And.intro (And.intro (@fillP.eq_1) (@fillP.eq_2)) (And.intro (@repl.eq_1) (And.intro (@repl.eq_2) (@SO.put.eq_1)))))))) (And.intro (And.intro (And.intro (And.intro (And.intro (And.intro (@SO.put.eq_2) (@SO.put.eq_3)) (And.intro (@SV.mapH.eq_1) (@SV.mapH.eq_2))) (And.intro (And.intro (@SV.mapH.eq_3) (@SV.mapH.eq_4)) (And.intro (@SV.mapH.eq_5) (And.intro (@SV.mapH.eq_6) (@SV.mapH.eq_7))))) (And.intro (And.intro (And.intro (@SV.mapH.eq_8) (@SV.mapH.eq_9)) (And.intro (@SV.mapH.eq_10) (@SV.mapH.eq_11))) (And.intro (And.intro (@SV.mapH.eq_12) (@SV.mapH.eq_13)) (And.intro (@SV.mapH.eq_14) (And.intro (@frzV.eq_1) (@frzV.eq_2)))))) (And.intro (And.intro (And.intro (And.intro (@frzV.eq_3) (@frzV.eq_4)) (And.intro (@frzVL.eq_1) (@frzVL.eq_2))) (And.intro (And.intro (@frzOk.eq_1) (@frzOk.eq_2)) (And.intro (@frzOk.eq_3) (And.intro (@frzOk.eq_4) (@frzOkL.eq_1))))) (And.intro (And.intro (And.intro (@frzOkL.eq_2) (@lendOk.eq_1)) (And.intro (@SV.bit.eq_1) (@SV.bit.eq_2))) (And.intro (And.intro (@SV.bit.eq_3) (@SV.bit.eq_4)) (And.intro (@SV.bit.eq_5) (And.intro (@SV.bit.eq_6) (@SV.bit.eq_7))))))) (And.intro (And.intro (And.intro (And.intro (And.intro (@SV.bit.eq_8) (@SV.bit.eq_9)) (And.intro (@SV.bit.eq_10) (@bitL.eq_1))) (And.intro (And.intro (@bitL.eq_2) (@SV.plain.eq_1)) (And.intro (@SV.plain.eq_2) (And.intro (@SV.plain.eq_3) (@SV.plain.eq_4))))) (And.intro (And.intro (And.intro (@SV.plain.eq_5) (@SV.plain.eq_6)) (And.intro (@SV.plain.eq_7) (@SV.plain.eq_8))) (And.intro (And.intro (@SV.plain.eq_9) (@SV.plain.eq_10)) (And.intro (@SV.plain.eq_11) (And.intro (@SV.plain.eq_12) (@SV.plain.eq_13)))))) (And.intro (And.intro (And.intro (And.intro (@SV.plain.eq_14) (@plainL.eq_1)) (And.intro (@plainL.eq_2) (@isE.eq_1))) (And.intro (And.intro (@isE.eq_2) (@isE.eq_3)) (And.intro (@isE.eq_4) (And.intro (@isE.eq_5) (@mapHL.eq_1))))) (And.intro (And.intro (And.intro (@mapHL.eq_2) (@strip.eq_1)) (And.intro (@strip.eq_2) (@stripL.eq_1))) (And.intro (And.intro (@stripL.eq_2) (@gok.eq_1)) (And.intro (@gok.eq_2) (And.intro (@gokL.eq_1) (@gokL.eq_2))))))))) := And.intro (And.intro (And.intro (And.intro (And.intro (And.intro (And.intro (@entry.eq_1) (@entry.eq_2)) (And.intro (@isStr.eq_1) (@isStr.eq_2))) (And.intro (And.intro (@tdOf.eq_1) (@szOf.eq_1)) (And.intro (@zeroOf.eq_1) (And.intro (@TD.isStruct.eq_1) (@TD.isStruct.eq_2))))) (And.intro (And.intro (And.intro (@okCell.eq_1) (@okCell.eq_2)) (And.intro (@okCell.eq_3) (@okCell.eq_4))) (And.intro (And.intro (@cellsOf.eq_1) (@cellsOf.eq_2)) (And.intro (@SO.isMap.eq_1) (And.intro (@SO.isMap.eq_2) (@SO.isMap.eq_3)))))) (And.intro (And.intro (And.intro (And.intro (@SO.sz.eq_1) (@SO.sz.eq_2)) (And.intro (@SO.sz.eq_3) (@SO.el.eq_1))) (And.intro (And.intro (@SO.el.eq_2) (@SO.el.eq_3)) (And.intro (@SO.n.eq_1) (And.intro (@SO.n.eq_2) (@SO.n.eq_3))))) (And.intro (And.intro (And.intro (@SO.ro.eq_1) (@SO.ro.eq_2)) (And.intro (@SO.ro.eq_3) (@mkCf.eq_1))) (And.intro (And.intro (@quietOp.eq_1) (@quietOp.eq_2)) (And.intro (@opClass.eq_1) (And.intro (@opClass.eq_2) (@opClass.eq_3))))))) (And.intro (And.intro (And.intro (And.intro (And.intro (@opClass.eq_4) (@opClass.eq_5)) (And.intro (@opClass.eq_6) (@opClass.eq_7))) (And.intro (And.intro (@opClass.eq_8) (@opClass.eq_9)) (And.intro (@opClass.eq_10) (And.intro (@opClass.eq_11) (@opClass.eq_12))))) (And.intro (And.intro (And.intro (@opClass.eq_13) (@okLeaf.eq_1)) (And.intro (@okLeaf.eq_2) (@okLeaf.eq_3))) (And.intro (And.intro (@okLeaf.eq_4) (@okLeaf.eq_5)) (And.intro (@okLeaf.eq_6) (And.intro (@okLeaf.eq_7) (@okLeaf.eq_8)))))) (And.intro (And.intro (And.intro (And.intro (@okLeaf.eq_9) (@okLeaf.eq_10)) (And.intro (@okLeaf.eq_11) (@spl.eq_1))) (And.intro (And.intro (@spl.eq_2) (@cellV.eq_1)) (And.intro (@cellV.eq_2) (And.intro (@isU8T.eq_1) (@isSlS.eq_1))))) (And.intro (And.intro (And.intro (@isSlS.eq_2) (@isSlS.eq_3)) (And.intro (@fillS.eq_1) (@fillS.eq_2))) (And.intro (And.intro (@fillP.eq_1) (@fillP.eq_2)) (And.intro (@repl.eq_1) (And.intro (@repl.eq_2) (@SO.put.eq_1)))))))) (And.intro (And.intro (And.intro (And.intro (And.intro (And.intro (@SO.put.eq_2) (@SO.put.eq_3)) (And.intro (@SV.mapH.eq_1) (@SV.mapH.eq_2))) (And.intro (And.intro (@SV.mapH.eq_3) (@SV.mapH.eq_4)) (And.intro (@SV.mapH.eq_5) (And.intro (@SV.mapH.eq_6) (@SV.mapH.eq_7))))) (And.intro (And.intro (And.intro (@SV.mapH.eq_8) (@SV.mapH.eq_9)) (And.intro (@SV.mapH.eq_10) (@SV.mapH.eq_11))) (And.intro (And.intro (@SV.mapH.eq_12) (@SV.mapH.eq_13)) (And.intro (@SV.mapH.eq_14) (And.intro (@frzV.eq_1) (@frzV.eq_2)))))) (And.intro (And.intro (And.intro (And.intro (@frzV.eq_3) (@frzV.eq_4)) (And.intro (@frzVL.eq_1) (@frzVL.eq_2))) (And.intro (And.intro (@frzOk.eq_1) (@frzOk.eq_2)) (And.intro (@frzOk.eq_3) (And.intro (@frzOk.eq_4) (@frzOkL.eq_1))))) (And.intro (And.intro (And.intro (@frzOkL.eq_2) (@lendOk.eq_1)) (And.intro (@SV.bit.eq_1) (@SV.bit.eq_2))) (And.intro (And.intro (@SV.bit.eq_3) (@SV.bit.eq_4)) (And.intro (@SV.bit.eq_5) (And.intro (@SV.bit.eq_6) (@SV.bit.eq_7))))))) (And.intro (And.intro (And.intro (And.intro (And.intro (@SV.bit.eq_8) (@SV.bit.eq_9)) (And.intro (@SV.bit.eq_10) (@bitL.eq_1))) (And.intro (And.intro (@bitL.eq_2) (@SV.plain.eq_1)) (And.intro (@SV.plain.eq_2) (And.intro (@SV.plain.eq_3) (@SV.plain.eq_4))))) (And.intro (And.intro (And.intro (@SV.plain.eq_5) (@SV.plain.eq_6)) (And.intro (@SV.plain.eq_7) (@SV.plain.eq_8))) (And.intro (And.intro (@SV.plain.eq_9) (@SV.plain.eq_10)) (And.intro (@SV.plain.eq_11) (And.intro (@SV.plain.eq_12) (@SV.plain.eq_13)))))) (And.intro (And.intro (And.intro (And.intro (@SV.plain.eq_14) (@plainL.eq_1)) (And.intro (@plainL.eq_2) (@isE.eq_1))) (And.intro (And.intro (@isE.eq_2) (@isE.eq_3)) (And.intro (@isE.eq_4) (And.intro (@isE.eq_5) (@mapHL.eq_1))))) (And.intro (And.intro (And.intro (@mapHL.eq_2) (@strip.eq_1)) (And.intro (@strip.eq_2) (@stripL.eq_1))) (And.intro (And.intro (@stripL.eq_2) (@gok.eq_1)) (And.intro (@gok.eq_2) (And.intro (@gokL.eq_1) (@gokL.eq_2))))))))
theorem XM : type_of% (And.intro (And.intro (And.intro (And.intro (@mergeC.eq_1) (And.intro (@upd.eq_1) (@upd.eq_2))) (And.intro (And.intro (@upd.eq_3) (@muL.eq_1)) (And.intro (@SO.mapH.eq_1) (@SO.mapH.eq_2)))) (And.intro (And.intro (@SO.mapH.eq_3) (And.intro (@noH.eq_1) (@noH.eq_2))) (And.intro (And.intro (@noH.eq_3) (@noH.eq_4)) (And.intro (@noH.eq_5) (@noH.eq_6))))) (And.intro (And.intro (And.intro (@noH.eq_7) (And.intro (@noHL.eq_1) (@noHL.eq_2))) (And.intro (And.intro (@List.getElem?_nil.{0}) (@List.drop_nil.{0})) (And.intro (@Option.map_none.{0, 0}) (@maskE_cons)))) (And.intro (And.intro (@maskE_none) (And.intro (@List.getElem?_cons_zero.{0}) (@List.getElem?_cons_succ.{0}))) (And.intro (And.intro (@List.drop_succ_cons.{0}) (@List.drop_zero.{0})) (And.intro (@List.contains_cons.{0}) (@List.contains_nil.{0})))))) := And.intro (And.intro (And.intro (And.intro (@mergeC.eq_1) (And.intro (@upd.eq_1) (@upd.eq_2))) (And.intro (And.intro (@upd.eq_3) (@muL.eq_1)) (And.intro (@SO.mapH.eq_1) (@SO.mapH.eq_2)))) (And.intro (And.intro (@SO.mapH.eq_3) (And.intro (@noH.eq_1) (@noH.eq_2))) (And.intro (And.intro (@noH.eq_3) (@noH.eq_4)) (And.intro (@noH.eq_5) (@noH.eq_6))))) (And.intro (And.intro (And.intro (@noH.eq_7) (And.intro (@noHL.eq_1) (@noHL.eq_2))) (And.intro (And.intro (@List.getElem?_nil.{0}) (@List.drop_nil.{0})) (And.intro (@Option.map_none.{0, 0}) (@maskE_cons)))) (And.intro (And.intro (@maskE_none) (And.intro (@List.getElem?_cons_zero.{0}) (@List.getElem?_cons_succ.{0}))) (And.intro (And.intro (@List.drop_succ_cons.{0}) (@List.drop_zero.{0})) (And.intro (@List.contains_cons.{0}) (@List.contains_nil.{0})))))
end Go.Vg
end
section
set_option linter.unusedVariables false
set_option linter.unusedSimpArgs false
set_option linter.unusedVariables false
set_option linter.unusedSimpArgs false
namespace Go.Pl
abbrev Bs := List UInt8
/-- A place brought into a text. -/
def spot (s : Bs) (p : Int) : Nat := min p.toNat s.length
theorem spot_le (s : Bs) (p : Int) : spot s p ≤ s.length := Nat.min_le_right _ _
theorem spot_of (s : Bs) {i : Nat} (h : i ≤ s.length) : spot s i = i := by unfold spot; omega
/-- The byte at a place, as a number; -1 behind the end. -/
def byt (s : Bs) (i : Nat) : Int := match s[i]? with
  | some b => b.toNat
  | none => -1
theorem byt_lt {s : Bs} {i : Nat} (h : i < s.length) : byt s i = (s.getD i 0).toNat := by
  simp [byt, List.getElem?_eq_getElem h, List.getD]
theorem byt_ge {s : Bs} {i : Nat} (h : s.length ≤ i) : byt s i = -1 := by
  simp [byt, List.getElem?_eq_none h]
theorem byt_range (s : Bs) (i : Nat) : -1 ≤ byt s i ∧ byt s i ≤ 255 := by
  unfold byt
  split
  · rename_i b _
    have := b.toNat_lt
    omega
  · omega
theorem byt_neg {s : Bs} {i : Nat} : byt s i < 0 ↔ s.length ≤ i := by
  rcases Nat.lt_or_ge i s.length with h | h
  · rw [byt_lt h]
    constructor <;> intro h' <;> omega
  · rw [byt_ge h]
    constructor <;> intro h' <;> omega
def isW (s : Bs) (i : Nat) : Bool := byt s i == 32 || byt s i == 9
def isB (s : Bs) (i : Nat) : Bool := byt s i == 10 || decide (byt s i < 0)
theorem byt_spot {s : Bs} {p : Int} (h : 0 ≤ p) : byt s (spot s p) = byt s p.toNat := by
  rcases Nat.lt_or_ge p.toNat s.length with h' | h'
  · rw [show spot s p = p.toNat from by unfold spot; omega]
  · rw [byt_ge h', byt_ge (by unfold spot; omega)]
def gap (s : Bs) (i : Nat) : Bool := isW s i || isB s i
theorem isW_lt {s : Bs} {i : Nat} (h : isW s i = true) : i < s.length := by
  rcases Nat.lt_or_ge i s.length with h' | h'
  · exact h'
  · simp [isW, byt_ge h'] at h
theorem isB_not {s : Bs} {i : Nat} (h : isB s i = false) : i < s.length := by
  rcases Nat.lt_or_ge i s.length with h' | h'
  · exact h'
  · simp [isB, byt_ge h'] at h
theorem gap_not {s : Bs} {i : Nat} (h : gap s i = false) : i < s.length := isB_not (by simp [gap] at h; exact h.2)
/-- Over white. -/
def wh (s : Bs) (i : Nat) : Nat := if h : isW s i = true then wh s (i + 1) else i
termination_by s.length - i
decreasing_by have := isW_lt h; omega
theorem wh_t {s : Bs} {i : Nat} (h : isW s i = true) : wh s i = wh s (i + 1) := by rw [wh, dif_pos h]
theorem wh_f {s : Bs} {i : Nat} (h : isW s i = false) : wh s i = i := by rw [wh, dif_neg (by simp [h])]
theorem wh_ge (s : Bs) (i : Nat) : i ≤ wh s i := by
  fun_induction wh s i with
  | case1 i h ih => omega
  | case2 i h => omega
theorem wh_le (s : Bs) (i : Nat) (h : i ≤ s.length) : wh s i ≤ s.length := by
  fun_induction wh s i with
  | case1 i h' ih => exact ih (isW_lt h')
  | case2 i h' => exact h
theorem wh_not (s : Bs) (i : Nat) : isW s (wh s i) = false := by
  fun_induction wh s i with
  | case1 i h ih => exact ih
  | case2 i h => simpa using h
/-- On to a break. -/
def en (s : Bs) (i : Nat) : Nat := if h : isB s i = false then en s (i + 1) else i
termination_by s.length - i
decreasing_by have := isB_not h; omega
theorem en_t {s : Bs} {i : Nat} (h : isB s i = false) : en s i = en s (i + 1) := by rw [en, dif_pos h]
theorem en_f {s : Bs} {i : Nat} (h : isB s i = true) : en s i = i := by rw [en, dif_neg (by simp [h])]
theorem en_ge (s : Bs) (i : Nat) : i ≤ en s i := by
  fun_induction en s i with
  | case1 i h ih => omega
  | case2 i h => omega
theorem en_le (s : Bs) (i : Nat) (h : i ≤ s.length) : en s i ≤ s.length := by
  fun_induction en s i with
  | case1 i h' ih => exact ih (isB_not h')
  | case2 i h' => exact h
theorem en_isB (s : Bs) (i : Nat) : isB s (en s i) = true := by
  fun_induction en s i with
  | case1 i h ih => exact ih
  | case2 i h => simpa using h
/-- A part of a text. -/
def sub (s : Bs) (a b : Nat) : Bs := (s.take b).drop a
/-- The first place of a byte, or -1. -/
def idx (s : Bs) (c : UInt8) : Int := match s.findIdx? (· == c) with
  | some i => i
  | none => -1
theorem idx_en (s : Bs) (i : Nat) (h : i ≤ s.length) : (if idx (s.drop i) 10 < 0 then (s.length : Int) else i + idx (s.drop i) 10) = en s i := by
  fun_induction en s i with
  | case1 i hb ih =>
    have hl := isB_not hb
    have ih := ih (by omega)
    rw [← ih]
    have hd : s.drop i = s[i] :: s.drop (i + 1) := List.drop_eq_getElem_cons hl
    have hne : (s[i] == (10 : UInt8)) = false := by
      simp [isB, byt, List.getElem?_eq_getElem hl] at hb
      simp
      intro e
      have := congrArg UInt8.toNat e
      simp at this
      omega
    unfold idx
    rw [hd, List.findIdx?_cons, hne]
    cases hf : List.findIdx? (fun x => x == 10) (s.drop (i + 1)) with
    | none => simp [hf]
    | some j => simp [hf]; omega
  | case2 i hb =>
    simp at hb
    rcases Nat.lt_or_ge i s.length with hl | hl
    · have hd : s.drop i = s[i] :: s.drop (i + 1) := List.drop_eq_getElem_cons hl
      have hne : (s[i] == (10 : UInt8)) = true := by
        simp [isB, byt, List.getElem?_eq_getElem hl] at hb
        simp
        apply UInt8.toNat_inj.1
        simp
        omega
      unfold idx
      rw [hd, List.findIdx?_cons, hne]
      simp
    · unfold idx
      rw [List.drop_of_length_le hl]
      simp
      omega
end Go.Pl
end
section
set_option linter.unusedVariables false
set_option linter.unusedSimpArgs false
namespace Go.Vg
set_option linter.unusedVariables false
theorem range_find {α : Type} [Inhabited α] (p : α → Bool) : ∀ (l : List α), (List.range l.length).find? (fun i => p l[i]!) = l.findIdx? p
  | [] => rfl
  | x :: xs => by
    rw [List.length_cons, List.range_succ_eq_map, List.find?_cons, List.findIdx?_cons]
    simp only [List.getElem!_cons_zero, List.find?_map]
    cases h : p x with
    | true => rfl
    | false =>
      simp only [Bool.false_eq_true, if_false]
      rw [← range_find p xs]
      congr 1
theorem firstIdx_eq (l : List UInt8) (c : UInt8) : firstIdx ⟨l.toArray⟩ c = Pl.idx l c := by
  unfold firstIdx Pl.idx
  have h : (ByteArray.mk l.toArray).size = l.length := by simp [ByteArray.size]
  have h2 : (fun i => (ByteArray.mk l.toArray)[i]! == c) = fun (i : Nat) => (fun x : UInt8 => x == c) l[i]! := by
    funext i
    simp only [getElem!_def, getElem?_def, h]
    by_cases hi : i < l.length
    · simp [hi, ByteArray.getElem_eq_getElem_data]
    · simp [hi]
  rw [h, h2]
  have h3 := range_find (fun x : UInt8 => x == c) l
  rw [h3]
  rfl
theorem ext_idx {P : Program} {f : FuncId} {fn : Func} (hf : P.funcs[f]? = some fn) (hname : (fn.name == "runtime.NumGoroutine") = false)
    (hb : fn.body.isNone = true) (hn : Extern.findNext fn = none) (he : Extern.find fn = some Extern.BytealgIndexByte.indexByte) (x : List UInt8 × Int) :
    CallExt P f [.s x.1, .i .u8 x.2] (.i .i64 (Pl.idx x.1 (UInt8.ofNat x.2.toNat))) := by
  refine ⟨rfl, rfl, fun fz w vs _ hr => ?_⟩
  simp only [relL, rel] at hr
  obtain ⟨v, r, e, rfl, v2, r2, rfl, rfl, rfl⟩ := hr
  have hvs : vs = #[.string ⟨x.1.toArray⟩, .int .u8 x.2] := by rw [← Array.toList_inj]; exact e
  subst hvs
  refine ⟨.int .i64 (firstIdx ⟨x.1.toArray⟩ x.2.toNat.toUInt8), ?_, ?_⟩
  · rw [run_callFunc_extern hf hname hb hn he, run_indexByte_string]
    simp only [Result.andThen_ok]
  · simp only [rel, firstIdx_eq]
noncomputable def pe_ix : PE := peR (fun (x : List UInt8 × Int) => [.s x.1, .i .u8 x.2]) (fun _ => True) (fun x => .i .i64 (Pl.idx x.1 (UInt8.ofNat x.2.toNat)))
theorem pe_ix_eq {s : List UInt8} {c : Int} : pe_ix [.s s, .i .u8 c] = some (True, .i .i64 (Pl.idx s (UInt8.ofNat c.toNat))) := peR_eq (by rintro ⟨a, b⟩ ⟨c, d⟩ h; simp_all) (s, c)
theorem pe_ix_ok {P : Program} {f : FuncId} (h : ∀ x : List UInt8 × Int, CallExt P f [.s x.1, .i .u8 x.2] (.i .i64 (Pl.idx x.1 (UInt8.ofNat x.2.toNat)))) : PE1 P f pe_ix := by
  intro args q y hq hp
  unfold pe_ix peR at hq
  split at hq
  · rename_i hx
    simp only [Option.some.injEq, Prod.mk.injEq] at hq
    obtain ⟨rfl, rfl⟩ := hq
    have h1 := Classical.choose_spec hx
    have := h (Classical.choose hx)
    simp only at h1
    rw [h1] at this
    exact .inr this
  · cases hq
end Go.Vg
end
section
set_option linter.unusedVariables false
set_option linter.unusedSimpArgs false
namespace Go.Pl
set_option linter.unusedVariables false
set_option linter.unusedSimpArgs false
structure Ev where
  kind : Int
  style : Int
  flag : Bool
  text : Bs
  anchor : Bs
  tag : Bs
  pos : Int
  code : Int
deriving DecidableEq
def evz : Ev := ⟨0, 0, false, [], [], [], 0, 0⟩
def flw (b : Int) : Bool := b == 44 || b == 91 || b == 93 || b == 123 || b == 125
def nmc (b : Int) : Bool := b == 32 || b == 9 || (b == 10 || decide (b < 0)) || flw b
/-- A name, or none. -/
def isNm (s : Bs) : Bool := decide (s.length ≤ 60 ∧ ∀ j, j < s.length → nmc (s.getD j 0).toNat = false)
def evOk (e : Ev) : Bool :=
  decide (1 ≤ e.kind ∧ e.kind ≤ 10) &&
  (if e.kind = 3 ∨ e.kind = 4 then decide (6 ≤ e.style ∧ e.style ≤ 7) else if e.kind = 5 then decide (1 ≤ e.style ∧ e.style ≤ 5) else decide (e.style = 0)) &&
  (!e.flag || decide (e.kind = 2 ∨ e.kind = 8)) && (decide (e.text = []) || decide (e.kind = 5 ∨ e.kind = 6)) &&
  (decide (e.anchor = [] ∧ e.tag = []) || decide (e.kind = 3 ∨ e.kind = 4 ∨ e.kind = 5)) &&
  (if e.kind = 10 then decide (1 ≤ e.code ∧ e.code ≤ 99 ∧ 0 ≤ e.pos) else
    (!decide (e.kind = 6) || (!decide (e.text = []) && isNm e.text)) && isNm e.anchor && decide (e.tag.length ≤ 120) && decide (e.code = 0 ∧ e.pos = 0))
end Go.Pl
namespace Go.Pl
end Go.Pl
namespace Go.Pl
end Go.Pl
namespace Go.Pl
end Go.Pl
end
section
set_option linter.unusedVariables false
set_option linter.unusedSimpArgs false
namespace Go.Vg
open Go.Pl
set_option linter.unusedVariables false
set_option linter.unusedSimpArgs false
def evc (e : Ev) : List SV := [.i .i64 e.kind, .i .i64 e.style, .b e.flag, .s e.text, .s e.anchor, .s e.tag, .i .i64 e.pos, .i .i64 e.code]
theorem evc_inj {l m : List Ev} : l.map evc = m.map evc ↔ l = m := map_inj fun a b h => by cases a; cases b; simpa [evc] using h
theorem getD_evc (a : List Ev) (i : Nat) : (a.map evc).getD i [.i .i64 0, .i .i64 0, .b false, .s [], .s [], .s [], .i .i64 0, .i .i64 0] = [.i .i64 (a.getD i evz).kind, .i .i64 (a.getD i evz).style, .b (a.getD i evz).flag, .s (a.getD i evz).text, .s (a.getD i evz).anchor, .s (a.getD i evz).tag, .i .i64 (a.getD i evz).pos, .i .i64 (a.getD i evz).code] := getD_map evc a i evz
theorem rowE_ev {a : List Ev} {i : Nat} : rowE evc evz a i = [.i .i64 (a.getD i evz).kind, .i .i64 (a.getD i evz).style, .b (a.getD i evz).flag, .s (a.getD i evz).text, .s (a.getD i evz).anchor, .s (a.getD i evz).tag, .i .i64 (a.getD i evz).pos, .i .i64 (a.getD i evz).code] := id rfl
theorem rowH_ev {μ : Nat → Nat} {r : Bool} {sz n : Nat} {a : List Ev} : SO.mapH μ (.row r sz n (rowE evc evz a)) = .row r sz n (rowE evc evz a) := rowH fun _ => rfl
theorem evEta (e : Ev) : (⟨e.kind, e.style, e.flag, e.text, e.anchor, e.tag, e.pos, e.code⟩ : Ev) = e := id rfl
theorem XRE : type_of% (And.intro (And.intro @getD_evc @rowE_ev) (And.intro @rowH_ev @evEta)) := And.intro (And.intro @getD_evc @rowE_ev) (And.intro @rowH_ev @evEta)
end Go.Vg
end
section
set_option linter.unusedVariables false
set_option linter.unusedSimpArgs false
namespace Go.Vg
set_option linter.unusedVariables false
set_option linter.unusedSimpArgs false
open Go.RowKit
-- Values that look at no frozen memory.
mutual
def SV.nf : SV → Bool
  | .agg l => nfL l
  | .tup l => nfL l
  | .gd _ x => SV.nf x
  | .fs _ _ => false
  | .fp _ _ => false
  | _ => true
def nfL : List SV → Bool
  | [] => true
  | x :: xs => SV.nf x && nfL xs
end
mutual
theorem rel_nf {σ σ' : Asg} (hl : ∀ h, σ' h = σ h) : ∀ {x : SV} {v : Value}, x.nf = true → rel σ x v → rel σ' x v
  | .b _, _, _, r => by simpa [rel] using r
  | .i _ _, _, _, r => by simpa [rel] using r
  | .s _, _, _, r => by simpa [rel] using r
  | .nils, _, _, r => by simpa [rel] using r
  | .fn _, _, _, r => by simpa [rel] using r
  | .u, _, _, r => by simp [rel]
  | .ptr _ _ _, _, _, r => by simpa [rel, hl] using r
  | .slc _ _ _, _, _, r => by simpa [rel, hl] using r
  | .mp _, _, _, r => by simpa [rel, hl] using r
  | .fs _ _, _, h, _ => by simp [SV.nf] at h
  | .fp _ _, _, h, _ => by simp [SV.nf] at h
  | .agg l, _, h, r => by
    simp only [rel, SV.nf] at r h ⊢
    obtain ⟨cs, e, r⟩ := r
    exact ⟨cs, e, relL_nf hl h r⟩
  | .tup l, _, h, r => by
    simp only [rel, SV.nf] at r h ⊢
    obtain ⟨cs, e, r⟩ := r
    exact ⟨cs, e, relL_nf hl h r⟩
  | .gd _ x, _, h, r => by
    simp only [rel, SV.nf] at r h ⊢
    exact ⟨fun g => rel_nf hl h (r.1 g), r.2⟩
theorem relL_nf {σ σ' : Asg} (hl : ∀ h, σ' h = σ h) : ∀ {x : List SV} {v : List Value}, nfL x = true → relL σ x v → relL σ' x v
  | [], _, _, r => by simpa [relL] using r
  | _ :: _, _, h, r => by
    simp only [relL, nfL, Bool.and_eq_true] at r h ⊢
    obtain ⟨v, q, e, r1, r2⟩ := r
    exact ⟨v, q, e, rel_nf hl h.1 r1, relL_nf hl h.2 r2⟩
end
theorem nfL_getD {l : List SV} (h : nfL l = true) (k : Nat) : (l.getD k .u).nf = true := by
  induction l generalizing k with
  | nil => rfl
  | cons x xs ih =>
    simp only [nfL, Bool.and_eq_true] at h
    cases k with
    | zero => exact h.1
    | succ k => exact ih h.2 k
/-- An object whose elements look at no frozen memory. -/
def nfO (o : SO) : Prop := ∀ i, i < o.n → nfL (o.el i) = true
theorem entsRel_nf {σ σ' : Asg} : ∀ {ps : List (SV × SV)} {es : List MapEntry}, (∀ p ∈ ps, p.1.bit = true ∧ p.2.bit = true) → entsRel σ ps es → entsRel σ' ps es
  | [], _, _, h => h
  | p :: ps, es, hp, h => by
    simp only [entsRel] at h ⊢
    obtain ⟨e, r, h1, h2, h3, h4⟩ := h
    have := hp p (by simp)
    exact ⟨e, r, h1, rel_bit this.1 h2, rel_bit this.2 h3, entsRel_nf (fun q hq => hp q (by simp [hq])) h4⟩
theorem objSat_nf {σ σ' : Asg} (hl : ∀ h, σ' h = σ h) {w : World} {h : Nat} {o : SO} (hn : nfO o) (hs : objSat σ w h o) : objSat σ' w h o := by
  unfold objSat at hs ⊢
  split
  · rename_i hm
    rw [hm] at hs
    simp only at hs
    obtain ⟨L, es, ck, h1, h2, h3⟩ := hs
    refine ⟨L, es, ck, by rw [hl]; exact h1, h2, entsRel_nf ?_ h3⟩
    intro p hp
    cases o with
    | row => simp [SO.isMap] at hm
    | blk => simp [SO.isMap] at hm
    | mapS l => simp only [SO.ents, List.mem_map] at hp; obtain ⟨q, _, rfl⟩ := hp; exact ⟨rfl, rfl⟩
    | mapI l => simp only [SO.ents, List.mem_map] at hp; obtain ⟨q, _, rfl⟩ := hp; exact ⟨rfl, rfl⟩
  · rename_i hm
    rw [hm] at hs
    simp only at hs
    rcases hs with ⟨h1, h2⟩ | ⟨L, c, e, fr, h1, h2⟩
    · exact .inl ⟨h1, by rw [hl]; exact h2⟩
    · refine .inr ⟨L, c, e, fr, by rw [hl]; exact h1, h2.heap, h2.lsz, h2.room, h2.fits, fun i k hi hk => ?_, h2.free⟩
      obtain ⟨v, hv, hr⟩ := h2.cell i k hi hk
      exact ⟨v, hv, rel_nf hl (nfL_getD (hn i hi) k) hr⟩
/-- A call that is lent rows of the caller's own: what it makes stands behind the caller's own. -/
theorem XCalls.lend {P : Program} {f : FuncId} {args0 : List SV} {Z : SV} {C : Ctx} (hF : FnK P f 0 args0 [] fun z c => z = Z ∧ c = C) {args : List SV} {kk : Nat} {st : St} {K : Sl (SV × St)}
    (hargs : frzVL st.ctx args = args0) (hp : plainL args0 = true) (hok : frzOkL st.ctx args) (hZ : Z.nf = true) (hC : ∀ h o, C.at h = some o → nfO o)
    (hK : K.f (Z.mapH (fun h => st.ctx.length + h), ⟨st.env, st.ctx ++ C.map fun o => o.map (SO.mapH fun h => st.ctx.length + h)⟩)) : XCalls P f args kk st K := by
  refine ⟨hF.1, fun A σ a w vs hAk hgr hR hvs => ?_⟩
  subst hargs
  have hsat0 : Sat (⟨fun _ => none, fun b => w.heap[b]?⟩ : Asg) w [] := by
    refine ⟨fun h o e => ?_, fun h h' o o' L L' _ e => ?_, fun _ _ => rfl, fun h L e => ?_, fun _ _ h => h, fun h o L e => ?_⟩
    · simp [Ctx.at] at e
    · simp [Ctx.at] at e
    · cases e
    · simp [Ctx.at] at e
  refine (hF.2 w ⟨fun _ => none, fun b => w.heap[b]?⟩ vs hsat0 (frzL_rel hR.sat hok hp hvs)).mono fun e w' ⟨v, z, c, σ', e1, ⟨ez, ec⟩, p⟩ => ?_
  subst ez ec
  generalize hn : st.ctx.length = n at *
  generalize hσ : (⟨fun h => if h < n then σ h else σ' (h - n), σ.fz⟩ : Asg) = σ2
  have nrw : ∀ b, ¬ rwB [] (⟨fun _ => none, fun b => w.heap[b]?⟩ : Asg) b := by
    rintro b ⟨h, o, L, e, _⟩
    simp [Ctx.at] at e
  have hold : ∀ h, h < n → σ2 h = σ h := fun h hh => by subst hσ; simp [hh]
  have hnew : ∀ h, σ2 (n + h) = σ' h := fun h => by
    subst hσ
    show (if n + h < n then σ (n + h) else σ' (n + h - n)) = σ' h
    rw [if_neg (by omega), Nat.add_sub_cancel_left]
  have hfz : σ2.fz = σ.fz := by subst hσ; rfl
  have hle : leA σ σ2 := by
    refine ⟨fun h L e => ?_, fun b o e => by rw [hfz]; exact e⟩
    rcases Nat.lt_or_ge h n with h1 | h1
    · rw [hold h h1]; exact e
    · rw [hR.sat.beyond h (by omega)] at e; cases e
  have hblk : ∀ b, b < w.heap.size → w'.heap[b]? = w.heap[b]? := fun b hb => p.fr.block b hb (nrw b)
  have ownN : ∀ h o L, z.nf = true → c.at h = some o → σ' h = some L → w.heap.size ≤ L.b := by
    intro h o L _ e s
    rcases p.own h o L e (p.new h o (Nat.zero_le _) e) s with h1 | h1
    · exact absurd h1 (nrw _)
    · exact h1
  have atN : ∀ h o, Ctx.at (st.ctx ++ c.map fun o => o.map (SO.mapH fun h => n + h)) h = some o → (h < n ∧ st.ctx.at h = some o) ∨ (∃ i o1, h = n + i ∧ c.at i = some o1 ∧ o = o1.mapH fun h => n + h) := by
    intro h o e
    simp only [Ctx.at, List.getD_eq_getElem?_getD] at e ⊢
    rcases Nat.lt_or_ge h n with h1 | h1
    · rw [List.getElem?_append_left (by omega)] at e
      exact .inl ⟨h1, e⟩
    · rw [List.getElem?_append_right (by omega), List.getElem?_map, hn] at e
      right
      cases hx : c[h - n]? with
      | none => rw [hx] at e; simp at e
      | some x =>
        rw [hx] at e
        cases x with
        | none => simp at e
        | some o1 =>
          simp only [Option.map_some, Option.getD_some, Option.some.injEq] at e
          exact ⟨h - n, o1, by omega, by rw [hx]; rfl, e.symm⟩
  have clen : (st.ctx ++ c.map fun o => o.map (SO.mapH fun h => n + h)).length = n + c.length := by simp [hn]
  refine ⟨v, z.mapH fun h => n + h, _, σ2, e1, hK, ?_, hR.defers, hR.size, fun t => rel_mono hle (hR.env t), ⟨fun h o e => ?_, fun h h' o o' L L' hne e e' ho s s' => ?_, fun h hh => ?_, fun h L s => ?_, fun b o e => ?_, fun h o L e ho s => ?_⟩, ?_, fun h o L e ho s => ?_, ⟨fun h hh => ?_, fun b o e => ?_, fun b o e => ?_⟩, ?_⟩
  · rw [rel_mapH]
    exact rel_nf (fun h => hnew h) hZ p.val
  · rcases atN h o e with ⟨h1, h2⟩ | ⟨i, o1, rfl, h2, rfl⟩
    · exact objSat_same hle (hold h h1) (fun L hL => hblk _ (hR.sat.inHeap h L hL)) (hR.sat.obj h o h2)
    · exact objSat_up (σ := σ2) (σ0 := ⟨σ'.loc, σ.fz⟩) (μ := fun h => n + h) (fun h => hnew h) hfz.symm (objSat_nf (σ := σ') (σ' := ⟨σ'.loc, σ.fz⟩) (fun _ => rfl) (hC i o1 h2) (p.sat.obj i o1 h2))
  · rcases atN h o e with ⟨h1, h2⟩ | ⟨i, o1, rfl, h2, rfl⟩ <;> rcases atN h' o' e' with ⟨h3, h4⟩ | ⟨j, o2, rfl, h4, rfl⟩
    · rw [hold h h1] at s; rw [hold h' h3] at s'
      exact hR.sat.apart h h' o o' L L' hne h2 h4 ho s s'
    · rw [hold h h1] at s; rw [hnew j] at s'
      have := hR.sat.inHeap h L s
      have := ownN j o2 L' hZ h4 s'
      omega
    · rw [hnew i] at s; rw [hold h' h3] at s'
      have := hR.sat.inHeap h' L' s'
      have := ownN i o1 L hZ h2 s
      omega
    · rw [hnew i] at s; rw [hnew j] at s'
      exact p.sat.apart i j o1 o2 L L' (by omega) h2 h4 (p.new i o1 (Nat.zero_le _) h2) s s'
  · rw [clen] at hh
    obtain ⟨i, rfl⟩ : ∃ i, h = n + i := ⟨h - n, by omega⟩
    rw [hnew]
    exact p.sat.beyond i (by omega)
  · rcases Nat.lt_or_ge h n with h1 | h1
    · rw [hold h h1] at s
      have := hR.sat.inHeap h L s
      have := p.fr.size
      omega
    · obtain ⟨i, rfl⟩ : ∃ i, h = n + i := ⟨h - n, by omega⟩
      rw [hnew] at s
      exact p.sat.inHeap i L s
  · rw [hfz] at e
    have h1 := hR.sat.frz b o e
    have hb : b < w.heap.size := by
      rcases Nat.lt_or_ge b w.heap.size with h | h
      · exact h
      · rw [Array.getElem?_eq_none h] at h1; cases h1
    rw [hblk b hb]
    exact h1
  · rw [hfz]
    rcases atN h o e with ⟨h1, h2⟩ | ⟨i, o1, rfl, h2, rfl⟩
    · rw [hold h h1] at s
      exact hR.sat.frzA h o L h2 ho s
    · rw [hnew i] at s
      have hb := ownN i o1 L hZ h2 s
      cases hx : σ.fz L.b with
      | none => rfl
      | some q =>
        have h1 := hR.sat.frz _ _ hx
        rw [Array.getElem?_eq_none hb] at h1
        cases h1
  · exact hR.fr.step p.fr fun x _ hx => absurd hx (nrw x)
  · rcases atN h o e with ⟨h1, h2⟩ | ⟨i, o1, rfl, h2, rfl⟩
    · rw [hold h h1] at s
      exact hR.own h o L h2 ho s
    · rw [hnew i] at s
      have := ownN i o1 L hZ h2 s
      have := hR.fr.size
      exact .inr (by omega)
  · have := hR.klen
    rw [hold h (by omega)]
    exact hR.base.loc h hh
  · rw [hfz]; exact hR.base.fzb b o e
  · rw [hfz] at e; exact hR.base.fzn b o e
  · have := hR.klen
    show A.k ≤ (st.ctx ++ c.map fun o => o.map (SO.mapH fun h => n + h)).length
    rw [clen]
    omega
end Go.Vg
namespace Go.Vg
theorem nf_row1 {α : Type} {enc : α → List SV} {z : α} {xs : List α} {r : Bool} {sz n : Nat} (h : ∀ x, nfL (enc x) = true) : ∀ k o, Ctx.at [some (.row r sz n (rowE enc z xs))] k = some o → nfO o := by
  intro k o e
  cases k with
  | zero =>
    rw [at_cons_zero] at e
    cases e
    intro i hi
    exact h _
  | succ k =>
    rw [at_cons_succ] at e
    simp [Ctx.at] at e
end Go.Vg
namespace Go.Vg
open Go.Pl
def idI (k : Int) : Int := k
def evm (k : Int) : Ev := ⟨k, k + 1, decide ((k + 2).tmod 3 = 0), mtx (k + 3), mtx (k + 4), mtx (k + 5), k + 6, k + 7⟩
end Go.Vg
end
section
set_option linter.unusedVariables false
set_option linter.unusedSimpArgs false
namespace Go.Vg
set_option linter.unusedVariables false
set_option linter.unusedSimpArgs false
open Go.RowKit

def fits (te : TE) : Nat → TypeId → List SV → Prop
  | 0, _, _ => False
  | n + 1, t, xs => match te t with
    | none => False
    | some ti => match ti.td with
      | .bool => ∃ b, xs = [.b b]
      | .int k => ∃ m, xs = [.i k m] ∧ inR k m
      | .str => ∃ l, xs = [.s l] ∧ l.length ≤ 9223372036854775807
      | .slice e => ∃ l, xs = [.fs (szOf te e) l] ∧ l.length ≤ 9223372036854775807 ∧ ∀ y ∈ l, fits te n e y
      | .struct fs => xs.length = ti.size ∧ ∀ f ∈ fs, fits te n f.1 ((xs.drop f.2).take (szOf te f.1))
      | _ => False

def tile (te : TE) : Nat → List (TypeId × Nat) → Option Nat
  | off, [] => some off
  | off, f :: r => if f.2 = off then tile te (off + szOf te f.1) r else none

def knows (te : TE) : Nat → TypeId → Bool
  | 0, _ => false
  | n + 1, t => match te t with
    | none => false
    | some ti => match ti.td with
      | .bool => ti.size == 1
      | .int k => (k == .i64 || k == .u8 || k == .i32) && ti.size == 1
      | .str => ti.size == 1
      | .slice e => ti.size == 1 && knows te n e && decide (0 < szOf te e)
      | .struct fs => tile te 0 fs == some ti.size && fs.all fun f => knows te n f.1
      | _ => false

theorem cellsOf_te {P : Program} {te : TE} (hte : teOk P te) {t : TypeId} {ti : TI} (h : te t = some ti) : P.cellsOf t = ti.size := by
  obtain ⟨i, hi, hs, _⟩ := (hte t ti h).info
  simp [Program.cellsOf, hi, hs]

theorem wf_inR {k : IntKind} {n : Int} (hk : (k == .i64 || k == .u8 || k == .i32) = true) (h : (Lit.int k n).wf = true) : inR k n := by
  cases k <;> simp at hk <;> simp only [inR] <;> simp [Lit.wf, IntKind.min, IntKind.max, IntKind.bits, IntKind.signed] at h <;> omega

section
variable {H : Type} {enc : TypeId × Value → H} {P : Program} {w : World} {base : Nat} {spare : Nat → Bool} {held : Bool} {te : TE}

theorem tile_fits (hte : teOk P te) {n : Nat}
    (ih : ∀ (t : TypeId) (cs : List Value) (m : Nat) (x : DataW H × List MemPlace), knows te n t = true → DataW.trod enc P w base spare held m t cs = some x → ∃ xs, fits te n t xs ∧ relL ⟨fun _ => none, fun b => w.heap[b]?⟩ xs cs ∧ plainL xs = true ∧ xs.length = szOf te t) (m : Nat) (cs : List Value) :
    ∀ (fs : List (TypeId × Nat)) (off tot : Nat), tile te off fs = some tot → cs.length = tot → (∀ f ∈ fs, knows te n f.1 = true) → (∀ f ∈ fs, ∃ x, DataW.trod enc P w base spare held m f.1 ((cs.drop f.2).take (szOf te f.1)) = some x) →
      off ≤ tot ∧ ∃ xs, relL ⟨fun _ => none, fun b => w.heap[b]?⟩ xs (cs.drop off) ∧ plainL xs = true ∧ ∀ f ∈ fs, off ≤ f.2 ∧ fits te n f.1 ((xs.drop (f.2 - off)).take (szOf te f.1))
  | [], off, tot, ht, hl, _, _ => by
    simp only [tile, Option.some.injEq] at ht
    subst ht
    refine ⟨Nat.le_refl _, [], ?_, rfl, by simp⟩
    rw [List.drop_of_length_le (by omega)]
    simp [relL]
  | f :: r, off, tot, ht, hl, hk, hx => by
    simp only [tile] at ht
    split at ht
    case isFalse => cases ht
    rename_i hoff
    obtain ⟨hle, ys, h1, h2, h3⟩ := tile_fits hte ih m cs r _ tot ht hl (fun g hg => hk g (List.mem_cons_of_mem _ hg)) (fun g hg => hx g (List.mem_cons_of_mem _ hg))
    obtain ⟨x, hx0⟩ := hx f (by simp)
    obtain ⟨xs, g1, g2, g3, g4⟩ := ih f.1 _ m x (hk f (by simp)) hx0
    refine ⟨by omega, xs ++ ys, ?_, ?_, fun g hg => ?_⟩
    · have : cs.drop off = (cs.drop off).take (szOf te f.1) ++ cs.drop (off + szOf te f.1) := by
        rw [← List.drop_drop, List.take_append_drop]
      rw [this]
      rw [hoff] at g2
      exact relL_append g2 h1
    · have : ∀ (a b : List SV), plainL a = true → plainL b = true → plainL (a ++ b) = true := by
        intro a
        induction a with
        | nil => intro b _ hb; exact hb
        | cons y ys ih => intro b ha hb; simp only [List.cons_append, plainL, Bool.and_eq_true] at ha ⊢; exact ⟨ha.1, ih b ha.2 hb⟩
      exact this _ _ g3 h2
    · rcases List.mem_cons.1 hg with rfl | hg
      · refine ⟨by omega, ?_⟩
        rw [hoff, Nat.sub_self, List.drop_zero, List.take_append_of_le_length (by omega), List.take_of_length_le (by omega)]
        exact g1
      · obtain ⟨k1, k2⟩ := h3 g hg
        refine ⟨by omega, ?_⟩
        have : (xs ++ ys).drop (g.2 - off) = ys.drop (g.2 - (off + szOf te f.1)) := by
          rw [List.drop_append]
          rw [List.drop_of_length_le (by omega), List.nil_append]
          congr 1
          omega
        rw [this]
        exact k2

theorem trod_fits (hte : teOk P te) : ∀ (n : Nat) (t : TypeId) (cs : List Value) (m : Nat) (x : DataW H × List MemPlace), knows te n t = true → DataW.trod enc P w base spare held m t cs = some x →
    ∃ xs, fits te n t xs ∧ relL ⟨fun _ => none, fun b => w.heap[b]?⟩ xs cs ∧ plainL xs = true ∧ xs.length = szOf te t
  | 0, _, _, _, _, h, _ => by simp [knows] at h
  | n + 1, t, cs, m, x, h, hx => by
    have ih := trod_fits hte n
    simp only [knows] at h
    cases hti : te t with
    | none => rw [hti] at h; cases h
    | some ti =>
      rw [hti] at h
      simp only at h
      have htd : tdOf te t = ti.td := by simp [tdOf, hti]
      have hsz : szOf te t = ti.size := by simp [szOf, hti]
      simp only [fits, hti]
      cases hd : ti.td with
      | bool =>
        rw [hd] at h htd
        simp only [beq_iff_eq] at h
        obtain ⟨b, rfl, _⟩ := DataW.trod_bool (und_bool hte htd) hx
        exact ⟨[.b b], ⟨b, rfl⟩, by simp [relL, rel], rfl, by simp [hsz, h]⟩
      | int k =>
        rw [hd] at h htd
        simp only [Bool.and_eq_true, beq_iff_eq] at h
        obtain ⟨v, rfl, _, hw⟩ := DataW.trod_int (und_int hte htd) hx
        exact ⟨[.i k v], ⟨v, rfl, wf_inR h.1 hw⟩, by simp [relL, rel], rfl, by simp [hsz, h.2]⟩
      | str =>
        rw [hd] at h htd
        simp only [beq_iff_eq] at h
        obtain ⟨s, rfl, _, hsl⟩ := DataW.trod_string (und_str hte htd) hx
        exact ⟨[.s s.data.toList], ⟨_, rfl, by rw [Array.length_toList, ByteArray.size_data]; exact Nat.le_trans hsl (by decide)⟩, by simp [relL, rel], rfl, by simp [hsz, h]⟩
      | slice e =>
        rw [hd] at h htd
        simp only [Bool.and_eq_true, beq_iff_eq, decide_eq_true_eq] at h
        obtain ⟨⟨h1, h2⟩, h3⟩ := h
        obtain ⟨tj, htj⟩ : ∃ tj, te e = some tj := by
          cases hq : te e with
          | none => simp [szOf, hq] at h3
          | some tj => exact ⟨tj, rfl⟩
        have hce : P.cellsOf e = szOf te e := by rw [cellsOf_te hte htj]; simp [szOf, htj]
        rcases DataW.trod_slice (und_slice hte htd) hx with ⟨rfl, _⟩ | ⟨a, len, cap, elems, rest, m', _, rfl, _, _, hlc, hcm, hel, hget, _⟩
        · exact ⟨[.fs (szOf te e) []], ⟨[], rfl, by simp, by simp⟩, by simp [relL, rel], rfl, by simp [hsz, h1]⟩
        · -- the elements, one by one
          have each : ∀ i, i < len → ∃ ys, fits te n e ys ∧ ys.length = szOf te e ∧ ∃ cs', w.cells? base (a.add (i * szOf te e)) (szOf te e) = some cs' ∧ relL ⟨fun _ => none, fun b => w.heap[b]?⟩ ys cs' ∧ plainL ys = true := by
            intro i hi
            have := hget i hi
            rw [List.getElem?_eq_getElem (by omega), hce] at this
            obtain ⟨cs', g1, g2⟩ := Option.bind_eq_some_iff.1 this
            obtain ⟨ys, k1, k2, k3, k4⟩ := ih e cs' m' _ h2 g2
            exact ⟨ys, k1, k4, cs', g1, k2, k3⟩
          let L : List (List SV) := (List.range len).map fun i => if hi : i < len then Classical.choose (each i hi) else []
          have hL : ∀ i y, L[i]? = some y → ∃ hi : i < len, y = Classical.choose (each i hi) := by
            intro i y hy
            simp only [L, List.getElem?_map, Option.map_eq_some_iff] at hy
            obtain ⟨j, hj, rfl⟩ := hy
            have hi : i < len := by
              have := (List.getElem?_eq_some_iff.1 hj).1
              simpa using this
            rw [List.getElem?_range hi] at hj
            cases hj
            exact ⟨hi, by rw [dif_pos hi]⟩
          have hlen : L.length = len := by simp [L]
          refine ⟨[.fs (szOf te e) L], ⟨L, rfl, by rw [hlen]; exact Nat.le_trans hlc (Nat.le_trans hcm (by decide)), fun y hy => ?_⟩, ?_, rfl, by simp [hsz, h1]⟩
          · obtain ⟨i, hi⟩ := List.mem_iff_getElem?.1 hy
            obtain ⟨hlt, rfl⟩ := hL i y hi
            exact (Classical.choose_spec (each i hlt)).1
          · simp only [relL, rel]
            refine ⟨_, _, rfl, ⟨some a, cap, by rw [hlen], by rw [hlen]; exact hlc, ?_⟩, rfl⟩
            by_cases h0 : len = 0
            · left; exact List.length_eq_zero_iff.1 (by omega)
            right
            -- the block
            have cell : ∀ i k, i < len → k < szOf te e → ∃ v, w.cell? (a.add (i * szOf te e + k)) = some v := by
              intro i k hi hk
              obtain ⟨ys, _, hy, cs', g1, g2, _⟩ := each i hi
              have hl := relL_length g2
              unfold World.cells? at g1
              split at g1
              · have := mapM_some_get g1 k k (by simp [hk])
                have e1 : (a.add (i * szOf te e)).add k = a.add (i * szOf te e + k) := by
                  unfold Addr.add
                  split <;> split <;> (try split) <;> simp_all <;> omega
                rw [e1] at this
                exact ⟨cs'[k]'(by omega), by rw [this]; exact List.getElem?_eq_getElem _⟩
              · cases g1
            obtain ⟨v0, hv0⟩ := cell 0 0 (by omega) h3
            have hadd0 : a.add (0 * szOf te e + 0) = a := by simp [Addr.add]
            rw [hadd0] at hv0
            obtain ⟨ab, ao, asp⟩ := a
            unfold World.cell? at hv0
            split at hv0
            · rename_i c el fr hheap
              have hsp : asp = none := by
                cases asp with
                | none => rfl
                | some q => simp at hv0
              subst hsp
              refine ⟨ab, ao, c, el, fr, rfl, hheap, relR_of_get fun j y hy => ?_⟩
              obtain ⟨hlt, rfl⟩ := hL j y hy
              obtain ⟨_, hy2, cs', g1, g2, g3⟩ := Classical.choose_spec (each j hlt)
              refine ⟨hy2, ?_⟩
              have hcs : cs' = ((c.toList.drop ao).drop (j * szOf te e)).take (szOf te e) := by
                have hl := relL_length g2
                apply List.ext_getElem?
                intro k
                unfold World.cells? at g1
                split at g1
                · by_cases hk : k < szOf te e
                  · have := mapM_some_get g1 k k (by simp [hk])
                    rw [add_none, add_none, cell?_of hheap] at this
                    rw [← this, List.getElem?_take, if_pos hk, List.getElem?_drop, List.getElem?_drop]
                    simp [Nat.add_assoc]
                  · rw [List.getElem?_eq_none (by omega), List.getElem?_take, if_neg hk]
                · cases g1
              rw [← hcs]
              exact g2
            · cases hv0
      | struct fs =>
        rw [hd] at h htd
        simp only [Bool.and_eq_true, beq_iff_eq, List.all_eq_true] at h
        obtain ⟨ff, hff, hmap, _⟩ := und_struct hte htd
        obtain ⟨xs, m', _, _, hl, hxl, hget⟩ := DataW.trod_struct hff hx
        rw [cellsOf_te hte hti] at hl
        obtain ⟨_, ys, h1, h2, h3⟩ := tile_fits hte (fun t cs m x => ih t cs m x) m' cs fs 0 ti.size h.1 hl (fun f hf => h.2 f hf) (fun f hf => by
          rw [← hmap] at hf
          obtain ⟨g, hg, rfl⟩ := List.mem_map.1 hf
          obtain ⟨i, hi⟩ := List.mem_iff_getElem?.1 hg
          have hi' : ff[i]? = some g := by simpa using hi
          have := hget i g hi'
          have hlt : i < xs.length := by
            have := (List.getElem?_eq_some_iff.1 hi).1
            simp at this; omega
          have hk := h.2 (g.type, g.offset) (by rw [← hmap]; exact hf)
          have hce : P.cellsOf g.type = szOf te g.type := by
            cases hq : te g.type with
            | none =>
              cases n with
              | zero => simp [knows] at hk
              | succ n => simp [knows, hq] at hk
            | some tj => rw [cellsOf_te hte hq]; simp [szOf, hq]
          rw [hce] at this
          exact ⟨xs[i], by rw [this]; exact List.getElem?_eq_getElem hlt⟩)
        rw [List.drop_zero] at h1
        have hyl : ys.length = ti.size := by rw [relL_length h1]; exact hl
        exact ⟨ys, ⟨hyl, fun f hf => by have := (h3 f hf).2; simpa using this⟩, h1, h2, by rw [hsz]; exact hyl⟩
      | map _ _ => rw [hd] at h; cases h
      | other => rw [hd] at h; cases h
end

def fitsV (te : TE) (n : Nat) (t : TypeId) (y : SV) : Prop := if (tdOf te t).isStruct then ∃ xs, y = .agg xs ∧ fits te n t xs else fits te n t [y]

theorem trod_param {H : Type} {enc : TypeId × Value → H} {P : Program} {w : World} {base : Nat} {spare : Nat → Bool} {held : Bool} {te : TE} (hte : teOk P te) {n : Nat} {t : TypeId} (hk : knows te n t = true) {v : Value} {d : DataW H} {ps : List MemPlace}
    {re : Reach} {b0 : Nat} (hv : Value.okWide P w re b0 t v) (h : DataW.Trod enc P w base spare held t v d ps) : ∃ y, fitsV te n t y ∧ rel ⟨fun _ => none, fun b => w.heap[b]?⟩ y v := by
  obtain ⟨fuel, hf⟩ := h
  obtain ⟨xs, h1, h2, h3, h4⟩ := trod_fits hte n t _ _ _ hk hf
  cases n with
  | zero => simp [knows] at hk
  | succ n =>
  simp only [knows] at hk
  cases hti : te t with
  | none => rw [hti] at hk; cases hk
  | some ti =>
    rw [hti] at hk
    simp only at hk
    have htd : tdOf te t = ti.td := by simp [tdOf, hti]
    have hsz : szOf te t = ti.size := by simp [szOf, hti]
    rw [hsz] at h4
    have one : ti.size = 1 → (∀ cs, v ≠ .agg cs) → ∃ y, xs = [y] ∧ rel ⟨fun _ => none, fun b => w.heap[b]?⟩ y v := by
      intro hs hne
      obtain ⟨y, rfl⟩ : ∃ y, xs = [y] := by
        match xs, h4 with
        | [y], _ => exact ⟨y, rfl⟩
        | [], h => rw [hs] at h; simp at h
        | _ :: _ :: _, h => rw [hs] at h; simp at h
      refine ⟨y, rfl, ?_⟩
      have hc : v.cells.toList = [v] := by
        cases v <;> first | rfl | exact absurd rfl (hne _)
      rw [hc] at h2
      simp only [relL] at h2
      obtain ⟨u, r, e, hr, rfl⟩ := h2
      cases e
      exact hr
    unfold fitsV
    rw [htd]
    cases hd : ti.td with
    | bool =>
      rw [hd] at hk htd
      have hu := und_bool hte htd
      obtain ⟨y, rfl, hr⟩ := one (by simpa using hk) (fun cs e => by subst e; simp [Value.okWide, Cell.okWide, Cell.ok, hu] at hv)
      exact ⟨y, by simpa [TD.isStruct] using h1, hr⟩
    | int k =>
      rw [hd] at hk htd
      have hu := und_int hte htd
      obtain ⟨y, rfl, hr⟩ := one (by simp at hk; exact hk.2) (fun cs e => by subst e; simp [Value.okWide, Cell.okWide, Cell.ok, hu] at hv)
      exact ⟨y, by simpa [TD.isStruct] using h1, hr⟩
    | str =>
      rw [hd] at hk htd
      have hu := und_str hte htd
      obtain ⟨y, rfl, hr⟩ := one (by simpa using hk) (fun cs e => by subst e; simp [Value.okWide, Cell.okWide, Cell.ok, hu] at hv)
      exact ⟨y, by simpa [TD.isStruct] using h1, hr⟩
    | slice e =>
      rw [hd] at hk htd
      have hu := und_slice hte htd
      obtain ⟨y, rfl, hr⟩ := one (by simp at hk; exact hk.1.1) (fun cs e => by subst e; simp [Value.okWide, Cell.okWide, Cell.ok, hu] at hv)
      exact ⟨y, by simpa [TD.isStruct] using h1, hr⟩
    | struct fs =>
      rw [hd] at hk htd
      obtain ⟨ff, hff, _⟩ := und_struct hte htd
      have : ∃ cs, v = .agg cs := by
        simp only [Value.okWide, hff] at hv
        obtain ⟨cs, e, _⟩ := hv
        exact ⟨cs, e⟩
      obtain ⟨cs, rfl⟩ := this
      refine ⟨.agg xs, by simp only [TD.isStruct, if_true]; exact ⟨xs, rfl, h1⟩, ?_⟩
      simp only [rel]
      exact ⟨cs, rfl, h2⟩
    | map _ _ => rw [hd] at hk; cases hk
    | other => rw [hd] at hk; cases hk
end Go.Vg
end
section
set_option linter.unusedVariables false
set_option linter.unusedSimpArgs false
namespace Go.Pl
set_option linter.unusedVariables false
end Go.Pl
namespace Go.Pl
theorem getD_mem {α : Type} {z : α} {l : List α} {i : Nat} (h : i < l.length) : l.getD i z ∈ l := by
  simp [List.getD, h]
theorem take_snoc {α : Type} (z : α) {l : List α} {i : Nat} (h : i < l.length) : l.take (i + 1) = l.take i ++ [l.getD i z] := by
  rw [List.take_succ_eq_append_getElem h]
  simp [List.getD, h]
end Go.Pl
namespace Go.Pl
end Go.Pl
namespace Go.Pl
end Go.Pl
end
section
set_option linter.unusedVariables false
set_option linter.unusedSimpArgs false
namespace Go.Pl
set_option linter.unusedVariables false
set_option linter.unusedSimpArgs false
structure Sg where
  kind : Int
  n : Int
  text : Bs
deriving DecidableEq
/-- A deep step behind a deep step left out. -/
def once : List Sg → Bool → List Sg
  | [], _ => []
  | s :: p, b => if b && decide (s.kind = 5) then once p b else s :: once p (decide (s.kind = 5))
end Go.Pl
namespace Go.Pl
end Go.Pl
namespace Go.Pl
end Go.Pl
namespace Go.Pl
end Go.Pl
namespace Go.Pl
end Go.Pl
end
section
set_option linter.unusedVariables false
set_option linter.unusedSimpArgs false
namespace Go.Vg
open Go.Pl
set_option linter.unusedVariables false
set_option linter.unusedSimpArgs false
end Go.Vg
namespace Go.Vg
end Go.Vg
namespace Go.Vg
open Go.Pl
end Go.Vg
end
section
set_option linter.unusedVariables false
set_option linter.unusedSimpArgs false
namespace Go.Pl
set_option linter.unusedVariables false
set_option linter.unusedSimpArgs false
/-- The last place of a byte, or -1. -/
def lixU (s : Bs) (c : Int) : Nat → Int
  | 0 => -1
  | i + 1 => if ((s.getD i 0).toNat : Int) = c then (i : Int) else lixU s c i
def lix (s : Bs) (c : Int) : Int := lixU s c s.length
theorem lixU_ge (s : Bs) (c : Int) : ∀ i, -1 ≤ lixU s c i
  | 0 => by simp [lixU]
  | i + 1 => by unfold lixU; split; omega; exact lixU_ge s c i
theorem lixU_lt (s : Bs) (c : Int) : ∀ i, lixU s c i < i
  | 0 => by simp [lixU]
  | i + 1 => by unfold lixU; split; omega; have := lixU_lt s c i; omega
/-- The beginning of a line. -/
def la (s : Bs) : Nat → Nat
  | 0 => 0
  | i + 1 => if byt s i = 10 then i + 1 else la s i
theorem la_le (s : Bs) : ∀ i, la s i ≤ i
  | 0 => Nat.le_refl _
  | i + 1 => by unfold la; split; omega; have := la_le s i; omega
theorem lix_take {s : Bs} {p : Nat} (h : p ≤ s.length) : lix (s.take p) 10 + 1 = la s p := by
  have h1 : ∀ i, i ≤ p → lixU (s.take p) 10 i + 1 = la s i := by
    intro i
    induction i with
    | zero => intro _; rfl
    | succ i ih =>
      intro hi
      have e : (s.take p).getD i 0 = s.getD i 0 := by
        simp only [List.getD_eq_getElem?_getD, List.getElem?_take]; rw [if_pos (by omega)]
      unfold lixU la
      rw [e, byt_lt (by omega)]
      split
      · rfl
      · exact ih (by omega)
  unfold lix
  rw [List.length_take, Nat.min_eq_left h]
  exact h1 p (Nat.le_refl _)
theorem la_t {s : Bs} {i : Nat} (h : i < s.length) (hb : (s.getD i 0).toNat = 10) : la s (i + 1) = i + 1 := by
  unfold la; rw [byt_lt h, if_pos (by omega)]
theorem la_f {s : Bs} {i : Nat} (h : i < s.length) (hb : (s.getD i 0).toNat ≠ 10) : la s (i + 1) = la s i := by
  conv => lhs; unfold la
  rw [byt_lt h, if_neg (by omega)]
/-- A mark: 1, 2, or 0 where there is none. -/
def mkA (s : Bs) (p : Nat) : Int :=
  if la s p = p ∧ p + 3 ≤ s.length ∧ gap s (p + 3) = true then (if sub s p (p + 3) = [45, 45, 45] then 1 else if sub s p (p + 3) = [46, 46, 46] then 2 else 0) else 0
theorem mkA_range (s : Bs) (p : Nat) : mkA s p = 0 ∨ mkA s p = 1 ∨ mkA s p = 2 := by
  unfold mkA; repeat' split <;> simp_all
theorem mkA_bad {s : Bs} {p : Nat} (h : ¬ (la s p = p ∧ p + 3 ≤ s.length ∧ gap s (p + 3) = true)) : mkA s p = 0 := by unfold mkA; rw [if_neg h]
/-- The end of a stretch. -/
def stc (s : Bs) (i : Nat) : Nat := if h : gap s i = false ∧ flw (byt s i) = false then stc s (i + 1) else i
termination_by s.length - i
decreasing_by have := gap_not h.1; omega
theorem stc_t {s : Bs} {i : Nat} (h : gap s i = false ∧ flw (byt s i) = false) : stc s i = stc s (i + 1) := by rw [stc, dif_pos h]
theorem stc_f {s : Bs} {i : Nat} (h : ¬ (gap s i = false ∧ flw (byt s i) = false)) : stc s i = i := by rw [stc, dif_neg h]
theorem stc_ge (s : Bs) (i : Nat) : i ≤ stc s i := by
  fun_induction stc s i with
  | case1 i h ih => omega
  | case2 i h => omega
theorem stc_le (s : Bs) (i : Nat) (h : i ≤ s.length) : stc s i ≤ s.length := by
  fun_induction stc s i with
  | case1 i h' ih => exact ih (gap_not h'.1)
  | case2 i h' => exact h
/-- A name behind its sign. -/
def nmA (s : Bs) (p : Nat) : Bs × Int × Bool :=
  if (byt s p = 38 ∨ byt s p = 42) ∧ p + 2 ≤ stc s (p + 1) ∧ stc s (p + 1) ≤ p + 61 then (sub s (p + 1) (stc s (p + 1)), stc s (p + 1), true) else ([], 0, false)
structure Pc where
  text : Bs
  glue : Bool
deriving DecidableEq
def pcz : Pc := ⟨[], false⟩
/-- Pieces behind the first one, with so many breaks to be told. -/
def foldR (glue : Bool) (n : Nat) : List Pc → Bs
  | [] => []
  | x :: r => if x.text = [] ∧ x.glue = false ∧ r ≠ [] then foldR glue (n + 1) r
    else (if 0 < n then List.replicate n 10 else if glue then [] else [32]) ++ (x.text ++ foldR x.glue 0 r)
def foldT : List Pc → Bs
  | [] => []
  | x :: r => x.text ++ foldR x.glue 0 r
def pcW (l : List Pc) : Nat := (l.map fun x => x.text.length + 1).sum
theorem pcW_append (l m : List Pc) : pcW (l ++ m) = pcW l + pcW m := by simp [pcW]
theorem pcW_drop {l : List Pc} {i : Nat} (h : i < l.length) : pcW (l.drop i) = (l.getD i pcz).text.length + 1 + pcW (l.drop (i + 1)) := by
  have e : l.getD i pcz = l[i] := by simp [List.getD, h]
  rw [List.drop_eq_getElem_cons h, e]
  unfold pcW
  rw [List.map_cons, List.sum_cons]
theorem pcW_ge (l : List Pc) : l.length ≤ pcW l := by
  induction l with
  | nil => simp
  | cons x r ih =>
    have hw : pcW (x :: r) = x.text.length + 1 + pcW r := by simp [pcW]
    simp only [List.length_cons]; omega
/-- The first byte of a plain scalar. -/
def pfL : Bs := [44, 91, 93, 123, 125, 35, 38, 42, 33, 124, 62, 39, 34, 37, 64, 96]
def pfA (s : Bs) (p : Nat) (flow : Bool) : Bool :=
  !gap s p && !decide (s.getD p 0 ∈ pfL) && (!(decide (byt s p = 45) || decide (byt s p = 63) || decide (byt s p = 58)) || (!gap s (p + 1) && !(flow && flw (byt s (p + 1)))))
/-- What ends a plain scalar of a line. -/
def peX (s : Bs) (p : Nat) (flow : Bool) (q : Nat) : Bool :=
  (decide (byt s q = 35) && decide (p < q) && isW s (q - 1)) || (decide (byt s q = 58) && (gap s (q + 1) || (flow && flw (byt s (q + 1))))) || (flow && flw (byt s q))
def pe1 (s : Bs) (p : Nat) (flow : Bool) (q : Nat) : Nat := if h : isB s q = false ∧ peX s p flow q = false then pe1 s p flow (q + 1) else q
termination_by s.length - q
decreasing_by have := isB_not h.1; omega
theorem pe1_t {s : Bs} {p : Nat} {flow : Bool} {q : Nat} (h : isB s q = false ∧ peX s p flow q = false) : pe1 s p flow q = pe1 s p flow (q + 1) := by rw [pe1, dif_pos h]
theorem pe1_f {s : Bs} {p : Nat} {flow : Bool} {q : Nat} (h : ¬ (isB s q = false ∧ peX s p flow q = false)) : pe1 s p flow q = q := by rw [pe1, dif_neg h]
theorem pe1_ge (s : Bs) (p : Nat) (flow : Bool) (q : Nat) : q ≤ pe1 s p flow q := by
  fun_induction pe1 s p flow q with
  | case1 i h ih => omega
  | case2 i h => omega
theorem pe1_le (s : Bs) (p : Nat) (flow : Bool) (q : Nat) (h : q ≤ s.length) : pe1 s p flow q ≤ s.length := by
  fun_induction pe1 s p flow q with
  | case1 i h' ih => exact ih (isB_not h'.1)
  | case2 i h' => exact h
/-- Back over white. -/
def bkW (s : Bs) (p : Nat) : Nat → Nat
  | 0 => 0
  | q + 1 => if p < q + 1 ∧ isW s q = true then bkW s p q else q + 1
theorem bkW_le (s : Bs) (p : Nat) : ∀ q, bkW s p q ≤ q
  | 0 => Nat.le_refl _
  | q + 1 => by unfold bkW; split; have := bkW_le s p q; omega; omega
theorem bkW_ge (s : Bs) (p : Nat) : ∀ q, p ≤ q → p ≤ bkW s p q
  | 0, h => h
  | q + 1, h => by unfold bkW; split; rename_i h1; exact bkW_ge s p q (by omega); exact h
theorem bkW_t {s : Bs} {p q : Nat} (h0 : p < q) (h : isW s (q - 1) = true) : bkW s p q = bkW s p (q - 1) := by
  cases q with
  | zero => omega
  | succ q => conv => lhs; unfold bkW
              rw [if_pos ⟨h0, by simpa using h⟩]; rfl
theorem bkW_f {s : Bs} {p q : Nat} (h : ¬ (p < q ∧ isW s (q - 1) = true)) : bkW s p q = q := by
  cases q with
  | zero => rfl
  | succ q => unfold bkW; rw [if_neg (by simpa using h)]
def plE (s : Bs) (p : Nat) (flow : Bool) : Nat := bkW s p (pe1 s p flow p)
theorem plE_ge (s : Bs) (p : Nat) (flow : Bool) : p ≤ plE s p flow := bkW_ge s p _ (pe1_ge s p flow p)
theorem plE_le (s : Bs) (p : Nat) (flow : Bool) (h : p ≤ s.length) : plE s p flow ≤ s.length := Nat.le_trans (bkW_le s p _) (pe1_le s p flow p h)
/-- A rune's bytes. -/
def rnB (r : Int) : Bs :=
  if r < 0 ∨ 1114111 < r ∨ (55296 ≤ r ∧ r ≤ 57343) then []
  else if r < 128 then [UInt8.ofNat r.toNat]
  else if r < 2048 then [UInt8.ofNat (192 + r.toNat / 64), UInt8.ofNat (128 + r.toNat % 64)]
  else if r < 65536 then [UInt8.ofNat (224 + r.toNat / 4096), UInt8.ofNat (128 + r.toNat / 64 % 64), UInt8.ofNat (128 + r.toNat % 64)]
  else [UInt8.ofNat (240 + r.toNat / 262144), UInt8.ofNat (128 + r.toNat / 4096 % 64), UInt8.ofNat (128 + r.toNat / 64 % 64), UInt8.ofNat (128 + r.toNat % 64)]
theorem rnB_len (r : Int) : (rnB r).length ≤ 4 := by unfold rnB; split; simp; split; simp; split; simp; split <;> simp
/-- A digit of 16, or -1. -/
def hxD (b : Int) : Int := if 48 ≤ b ∧ b ≤ 57 then b - 48 else if 97 ≤ b ∧ b ≤ 102 then b - 97 + 10 else if 65 ≤ b ∧ b ≤ 70 then b - 65 + 10 else -1
/-- So many digits of 16 from a place on, behind a number; -1 where one is none. -/
def hxV (s : Bs) (p : Nat) : Nat → Int → Int
  | 0, a => a
  | n + 1, a => if hxD (byt s p) < 0 then -1 else hxV s (p + 1) n (16 * a + hxD (byt s p))
/-- The number of an escape of one byte, or -1. -/
def shL : List (Int × Int) := [(48, 0), (97, 7), (98, 8), (116, 9), (9, 9), (110, 10), (118, 11), (102, 12), (114, 13), (101, 27), (32, 32), (34, 34), (47, 47), (92, 92), (78, 133), (95, 160), (76, 8232), (80, 8233)]
def shE (b : Int) : Int := match shL.find? (fun p => p.1 == b) with
  | some p => p.2
  | none => -1
theorem shE_none {b : Int} (h : ∀ p ∈ shL, p.1 ≠ b) : shE b = -1 := by
  have : shL.find? (fun p => p.1 == b) = none := List.find?_eq_none.2 fun p hp => by simpa using h p hp
  unfold shE; rw [this]
theorem shE_at {b : Int} {i : Nat} (hi : i < 18) (h1 : (shL.getD i (0, 0)).1 = b) (h2 : ∀ j, j < i → (shL.getD j (0, 0)).1 ≠ b) : shE b = (shL.getD i (0, 0)).2 := by
  have hl : ∀ j, j < 18 → ∃ h : j < shL.length, shL.getD j (0, 0) = shL[j] := fun j hj => ⟨hj, by simp [List.getD, show j < shL.length from hj]; rfl⟩
  obtain ⟨hi', e⟩ := hl i hi
  have : shL.find? (fun p => p.1 == b) = some shL[i] := List.find?_eq_some_iff_getElem.2 ⟨by rw [← e]; simpa using h1, i, hi', rfl, fun j hj => by
    obtain ⟨hj', e2⟩ := hl j (by omega)
    have := h2 j hj
    rw [e2] at this
    simpa using this⟩
  unfold shE; rw [this, e]
theorem shE_none' {b : Int} (h : b ≠ 48 ∧ b ≠ 97 ∧ b ≠ 98 ∧ b ≠ 116 ∧ b ≠ 9 ∧ b ≠ 110 ∧ b ≠ 118 ∧ b ≠ 102 ∧ b ≠ 114 ∧ b ≠ 101 ∧ b ≠ 32 ∧ b ≠ 34 ∧ b ≠ 47 ∧ b ≠ 92 ∧ b ≠ 78 ∧ b ≠ 95 ∧ b ≠ 76 ∧ b ≠ 80) : shE b = -1 := by
  apply shE_none
  intro p hp
  simp only [shL, List.mem_cons, List.not_mem_nil, or_false] at hp
  rcases hp with rfl | rfl | rfl | rfl | rfl | rfl | rfl | rfl | rfl | rfl | rfl | rfl | rfl | rfl | rfl | rfl | rfl | rfl <;> simp only <;> omega
def hxN (b : Int) : Nat := if b = 120 then 2 else if b = 117 then 4 else if b = 85 then 8 else 0
/-- An escape: its text, and the place behind it (0 where there is none). -/
def esA (s : Bs) (p : Nat) : Bs × Nat :=
  if byt s p = 92 ∧ p + 1 < s.length then
    (if 0 ≤ shE (byt s (p + 1)) then (rnB (shE (byt s (p + 1))), p + 2)
     else if hxN (byt s (p + 1)) = 0 ∨ rnB (hxV s (p + 2) (hxN (byt s (p + 1))) 0) = [] then ([], 0)
     else (rnB (hxV s (p + 2) (hxN (byt s (p + 1))) 0), p + 2 + hxN (byt s (p + 1))))
  else ([], 0)
/-- White taken off an end, but not below a length. -/
def cutK (k : Nat) : Nat → Bs → Bs
  | 0, b => b
  | n + 1, b => if k < b.length ∧ (b.getD (b.length - 1) 0 = 32 ∨ b.getD (b.length - 1) 0 = 9) then cutK k n (b.take (b.length - 1)) else b
def cutW (k : Nat) (b : Bs) : Bs := cutK k b.length b
end Go.Pl
namespace Go.Pl
theorem nmA_t {s : Bs} {p : Nat} (h : (byt s p = 38 ∨ byt s p = 42) ∧ p + 2 ≤ stc s (p + 1) ∧ stc s (p + 1) ≤ p + 61) : nmA s p = (sub s (p + 1) (stc s (p + 1)), (stc s (p + 1) : Int), true) := by unfold nmA; rw [if_pos h]
theorem nmA_f {s : Bs} {p : Nat} (h : ¬ ((byt s p = 38 ∨ byt s p = 42) ∧ p + 2 ≤ stc s (p + 1) ∧ stc s (p + 1) ≤ p + 61)) : nmA s p = ([], 0, false) := by unfold nmA; rw [if_neg h]
theorem idx_ge (c : UInt8) : ∀ l : Bs, decide (idx l c ≥ 0) = decide (c ∈ l) := by
  intro l
  unfold idx
  cases h : l.findIdx? (· == c) with
  | none =>
    have := List.findIdx?_eq_none_iff.1 h
    have h2 : ¬ c ∈ l := fun hc => by simpa using this c hc
    simp [h2]
  | some i =>
    have := List.findIdx?_eq_some_iff_getElem.1 h
    obtain ⟨hi, h1, _⟩ := this
    have h2 : c ∈ l := by
      have e : l[i] = c := by simpa using h1
      rw [← e]; exact List.getElem_mem hi
    simp [h2]
end Go.Pl
namespace Go.Pl
theorem pfA_gap {s : Bs} {p : Nat} {fl : Bool} (h : gap s p = true) : pfA s p fl = false := by unfold pfA; rw [h]; rfl
theorem pfA_no {s : Bs} {p : Nat} {fl : Bool} (h : s.getD p 0 ∈ pfL) : pfA s p fl = false := by unfold pfA; rw [decide_eq_true h]; simp
theorem pfA_sign {s : Bs} {p : Nat} {fl : Bool} (hg : gap s p = false) (h : ¬ s.getD p 0 ∈ pfL) (hb : byt s p = 45 ∨ byt s p = 63 ∨ byt s p = 58) : pfA s p fl = (!gap s (p + 1) && !(fl && flw (byt s (p + 1)))) := by
  unfold pfA; rw [hg, decide_eq_false h]
  have : (decide (byt s p = 45) || decide (byt s p = 63) || decide (byt s p = 58)) = true := by rcases hb with h | h | h <;> simp [h]
  rw [this]; simp
theorem pfA_yes {s : Bs} {p : Nat} {fl : Bool} (hg : gap s p = false) (h : ¬ s.getD p 0 ∈ pfL) (hb : ¬ (byt s p = 45 ∨ byt s p = 63 ∨ byt s p = 58)) : pfA s p fl = true := by
  unfold pfA; rw [hg, decide_eq_false h]
  have : (decide (byt s p = 45) || decide (byt s p = 63) || decide (byt s p = 58)) = false := by simp at hb; simp [hb]
  rw [this]; simp
theorem u8_eq {c : UInt8} {n : Nat} (hn : n < 256) : ((c.toNat : Int) = n) = (c = UInt8.ofNat n) := by
  apply propext
  constructor
  · intro h
    apply UInt8.toNat_inj.1
    rw [UInt8.toNat_ofNat_of_lt' (by simpa using hn)]
    omega
  · rintro rfl
    rw [UInt8.toNat_ofNat_of_lt' (by simpa using hn)]
theorem u8_of (c : UInt8) : UInt8.ofNat c.toNat = c := by simp
theorem pfL_mem (c : UInt8) : (decide ((c.toNat : Int) = 64) || decide ((c.toNat : Int) = 96) || decide (c ∈ [44, 91, 93, 123, 125, 35, 38, 42, 33, 124, 62, 39, 34, 37])) = decide (c ∈ pfL) := by
  have h1 := u8_eq (c := c) (n := 64) (by decide)
  have h2 := u8_eq (c := c) (n := 96) (by decide)
  simp only [Int.cast_ofNat_Int] at h1 h2
  rw [Bool.eq_iff_iff]
  simp only [Bool.or_eq_true, decide_eq_true_eq, h1, h2, pfL, List.mem_cons, List.not_mem_nil, or_false]
  constructor
  · rintro ((h | h) | h)
    · simp [h]
    · simp [h]
    · rcases h with h | h | h | h | h | h | h | h | h | h | h | h | h | h <;> simp [h]
  · rintro (h | h | h | h | h | h | h | h | h | h | h | h | h | h | h | h) <;> simp [h]
end Go.Pl
namespace Go.Pl
theorem rnB_bad {r : Int} (h : r < 0 ∨ 1114111 < r ∨ (55296 ≤ r ∧ r ≤ 57343)) : rnB r = [] := by unfold rnB; rw [if_pos h]
theorem rnB_1 {n : Nat} (h : ¬ ((n : Int) < 0 ∨ 1114111 < (n : Int) ∨ (55296 ≤ (n : Int) ∧ (n : Int) ≤ 57343))) (h1 : n < 128) : rnB n = [UInt8.ofNat n] := by
  unfold rnB; rw [if_neg h, if_pos (by omega)]; rfl
theorem rnB_2 {n : Nat} (h : ¬ ((n : Int) < 0 ∨ 1114111 < (n : Int) ∨ (55296 ≤ (n : Int) ∧ (n : Int) ≤ 57343))) (h1 : ¬ n < 128) (h2 : n < 2048) : rnB n = [UInt8.ofNat (192 + n / 64), UInt8.ofNat (128 + n % 64)] := by
  unfold rnB; rw [if_neg h, if_neg (by omega), if_pos (by omega)]; rfl
theorem rnB_3 {n : Nat} (h : ¬ ((n : Int) < 0 ∨ 1114111 < (n : Int) ∨ (55296 ≤ (n : Int) ∧ (n : Int) ≤ 57343))) (h2 : ¬ n < 2048) (h3 : n < 65536) : rnB n = [UInt8.ofNat (224 + n / 4096), UInt8.ofNat (128 + n / 64 % 64), UInt8.ofNat (128 + n % 64)] := by
  unfold rnB; rw [if_neg h, if_neg (by omega), if_neg (by omega), if_pos (by omega)]; rfl
theorem rnB_4 {n : Nat} (h : ¬ ((n : Int) < 0 ∨ 1114111 < (n : Int) ∨ (55296 ≤ (n : Int) ∧ (n : Int) ≤ 57343))) (h3 : ¬ n < 65536) : rnB n = [UInt8.ofNat (240 + n / 262144), UInt8.ofNat (128 + n / 4096 % 64), UInt8.ofNat (128 + n / 64 % 64), UInt8.ofNat (128 + n % 64)] := by
  unfold rnB; rw [if_neg h, if_neg (by omega), if_neg (by omega), if_neg (by omega)]; rfl
theorem hxV_neg {s : Bs} {p : Nat} {n : Nat} {a : Int} (h : hxD (byt s p) < 0) : hxV s p (n + 1) a = -1 := by unfold hxV; rw [if_pos h]
theorem hxV_step {s : Bs} {p : Nat} {n : Nat} {a : Int} (h : 0 ≤ hxD (byt s p)) : hxV s p (n + 1) a = hxV s (p + 1) n (16 * a + hxD (byt s p)) := by
  show (if hxD (byt s p) < 0 then -1 else hxV s (p + 1) n (16 * a + hxD (byt s p))) = _
  rw [if_neg (by omega)]
theorem hxD_1 {b : Int} (h1 : 48 ≤ b) (h2 : b ≤ 57) : hxD b = b - 48 := by unfold hxD; rw [if_pos ⟨h1, h2⟩]
theorem hxD_2 {b : Int} (h1 : 97 ≤ b) (h2 : b ≤ 102) : hxD b = b - 97 + 10 := by unfold hxD; rw [if_neg (by omega), if_pos ⟨h1, h2⟩]
theorem hxD_3 {b : Int} (h1 : 65 ≤ b) (h2 : b ≤ 70) : hxD b = b - 65 + 10 := by unfold hxD; rw [if_neg (by omega), if_neg (by omega), if_pos ⟨h1, h2⟩]
theorem hxD_n {b : Int} (h1 : ¬ (48 ≤ b ∧ b ≤ 57)) (h2 : ¬ (97 ≤ b ∧ b ≤ 102)) (h3 : ¬ (65 ≤ b ∧ b ≤ 70)) : hxD b = -1 := by unfold hxD; rw [if_neg h1, if_neg h2, if_neg h3]
theorem hx16 {i : Nat} (h : i ≤ 8) : 16 ^ i ≤ 4294967296 := Nat.le_trans (Nat.pow_le_pow_right (by decide) h) (by decide)
end Go.Pl
namespace Go.Pl
theorem esA_bad {s : Bs} {p : Nat} (h : ¬ (byt s p = 92 ∧ p + 1 < s.length)) : esA s p = ([], 0) := by unfold esA; rw [if_neg h]
theorem esA_short {s : Bs} {p : Nat} (h : byt s p = 92 ∧ p + 1 < s.length) (h1 : 0 ≤ shE (byt s (p + 1))) : esA s p = (rnB (shE (byt s (p + 1))), p + 2) := by unfold esA; rw [if_pos h, if_pos h1]
theorem esA_no {s : Bs} {p : Nat} (h : byt s p = 92 ∧ p + 1 < s.length) (h1 : ¬ 0 ≤ shE (byt s (p + 1))) (h2 : hxN (byt s (p + 1)) = 0 ∨ rnB (hxV s (p + 2) (hxN (byt s (p + 1))) 0) = []) : esA s p = ([], 0) := by unfold esA; rw [if_pos h, if_neg h1, if_pos h2]
theorem esA_hex {s : Bs} {p : Nat} (h : byt s p = 92 ∧ p + 1 < s.length) (h1 : ¬ 0 ≤ shE (byt s (p + 1))) (h2 : ¬ (hxN (byt s (p + 1)) = 0 ∨ rnB (hxV s (p + 2) (hxN (byt s (p + 1))) 0) = [])) : esA s p = (rnB (hxV s (p + 2) (hxN (byt s (p + 1))) 0), p + 2 + hxN (byt s (p + 1))) := by unfold esA; rw [if_pos h, if_neg h1, if_neg h2]
theorem hxN_le (b : Int) : hxN b ≤ 8 := by unfold hxN; split; omega; split; omega; split <;> omega
theorem esA_len (s : Bs) (p : Nat) : (esA s p).1.length ≤ 4 := by
  unfold esA
  split
  · split
    · exact rnB_len _
    · split
      · simp
      · exact rnB_len _
  · simp
theorem esA_gt (s : Bs) (p : Nat) : (esA s p).2 = 0 ∨ p + 2 ≤ (esA s p).2 := by
  unfold esA
  split
  · split
    · right; simp
    · split
      · left; rfl
      · right; simp only; omega
  · left; rfl
theorem hxV_all {s : Bs} {p : Nat} : ∀ {n : Nat} {a : Int}, 0 ≤ a → 0 < n → 0 ≤ hxV s p n a → p + n ≤ s.length
  | n, a, h0, hn, h => by
    have key : ∀ (n : Nat) (p : Nat) (a : Int), 0 ≤ a → 0 < n → 0 ≤ hxV s p n a → p + n ≤ s.length := by
      intro n
      induction n with
      | zero => intro p a _ h _; omega
      | succ n ih =>
        intro p a h0 _ h
        unfold hxV at h
        split at h
        · omega
        · rename_i hd
          have hp : p < s.length := by
            rcases Nat.lt_or_ge p s.length with h1 | h1
            · exact h1
            · rw [byt_ge h1] at hd; exact absurd (by decide) hd
          rcases Nat.eq_zero_or_pos n with hn | hn
          · omega
          · have := ih (p + 1) _ (by omega) hn h; omega
    exact key n p a h0 hn h
theorem esA_le (s : Bs) (p : Nat) : (esA s p).2 ≤ s.length := by
  unfold esA
  split
  · rename_i h
    split
    · simp only; omega
    · split
      · simp
      · rename_i h2
        simp only [not_or] at h2
        have h3 : 0 ≤ hxV s (p + 2) (hxN (byt s (p + 1))) 0 := by
          rcases Int.lt_or_le (hxV s (p + 2) (hxN (byt s (p + 1))) 0) 0 with h4 | h4
          · exact absurd (rnB_bad (.inl h4)) h2.2
          · exact h4
        exact hxV_all (Int.le_refl 0) (by omega) h3
  · simp
end Go.Pl
namespace Go.Pl
theorem foldR_drop {l : List Pc} {i : Nat} (h : i < l.length) {g : Bool} {n : Nat} : foldR g n (l.drop i) = if (l.getD i pcz).text = [] ∧ (l.getD i pcz).glue = false ∧ i + 1 < l.length then foldR g (n + 1) (l.drop (i + 1))
    else (if 0 < n then List.replicate n 10 else if g then [] else [32]) ++ ((l.getD i pcz).text ++ foldR (l.getD i pcz).glue 0 (l.drop (i + 1))) := by
  have e : l.getD i pcz = l[i] := by simp [List.getD, h]
  rw [List.drop_eq_getElem_cons h, e]
  have e2 : (l.drop (i + 1) ≠ []) = (i + 1 < l.length) := propext (by rw [ne_eq, List.drop_eq_nil_iff]; omega)
  conv => lhs; unfold foldR
  simp only [e2]
theorem foldR_skip {l : List Pc} {i : Nat} {g : Bool} {n : Nat} (h : i + 1 < l.length) (h1 : (l.getD i pcz).text = []) (h2 : (l.getD i pcz).glue = false) : foldR g n (l.drop i) = foldR g (n + 1) (l.drop (i + 1)) := by
  rw [foldR_drop (by omega), if_pos ⟨h1, h2, h⟩]
theorem foldR_put {l : List Pc} {i : Nat} {g : Bool} {n : Nat} (h : i < l.length) (h1 : ¬ ((l.getD i pcz).text = [] ∧ (l.getD i pcz).glue = false ∧ i + 1 < l.length)) : foldR g n (l.drop i) = (if 0 < n then List.replicate n 10 else if g then [] else [32]) ++ ((l.getD i pcz).text ++ foldR (l.getD i pcz).glue 0 (l.drop (i + 1))) := by
  rw [foldR_drop h, if_neg h1]
theorem foldT_cons {l : List Pc} (h : 0 < l.length) : foldT l = (l.getD 0 pcz).text ++ foldR (l.getD 0 pcz).glue 0 (l.drop 1) := by
  cases l with
  | nil => simp at h
  | cons x r => rfl
theorem cutW_t {k : Nat} {b : Bs} (h : k < b.length ∧ (b.getD (b.length - 1) 0 = 32 ∨ b.getD (b.length - 1) 0 = 9)) : cutW k b = cutW k (b.take (b.length - 1)) := by
  unfold cutW
  obtain ⟨n, hn⟩ : ∃ n, b.length = n + 1 := ⟨b.length - 1, by omega⟩
  have hl : (b.take (b.length - 1)).length = n := by rw [List.length_take]; omega
  rw [hl]
  conv => lhs; rw [hn]; unfold cutK
  rw [if_pos h]
theorem cutW_f {k : Nat} {b : Bs} (h : ¬ (k < b.length ∧ (b.getD (b.length - 1) 0 = 32 ∨ b.getD (b.length - 1) 0 = 9))) : cutW k b = b := by
  unfold cutW
  cases hb : b.length with
  | zero => rfl
  | succ n => unfold cutK; rw [if_neg h]
theorem cutK_len (k : Nat) : ∀ (n : Nat) (b : Bs), (cutK k n b).length ≤ b.length
  | 0, b => Nat.le_refl _
  | n + 1, b => by
    unfold cutK
    split
    · have := cutK_len k n (b.take (b.length - 1)); rw [List.length_take] at this; omega
    · exact Nat.le_refl _
theorem cutW_len (k : Nat) (b : Bs) : (cutW k b).length ≤ b.length := cutK_len k _ b
theorem repl_snoc {n : Nat} {x : UInt8} {o : Bs} : o ++ [x] ++ List.replicate n x = o ++ List.replicate (n + 1) x := by
  rw [List.replicate_succ, List.append_assoc]; rfl
end Go.Pl
end
section
set_option linter.unusedVariables false
set_option linter.unusedSimpArgs false
namespace Go.Vg
set_option linter.unusedVariables false
set_option maxRecDepth 100000
def cvO (te : TE) (st : St) (s : TypeId) (x : Operand) (K : SV → Prop) : Prop := match st.ev x, tdOf te s with
    | .slc h lo len, .slice e => isU8T te e = true ∧ 0 < len ∧ (match st.ctx.at h with
      | some (.row false _ _ _) => True
      | _ => False) ∧ K (.slc h lo len)
    | _, _ => False
theorem cvO_of {te : TE} {st : St} {h lo len : Nat} {e : TypeId} {s : TypeId} {x : Operand} {sz n : Nat} {f : Nat → List SV} {K : SV → Prop} (hx : st.ev x = .slc h lo len) (ht : tdOf te s = .slice e) (hc : st.ctx.at h = some (.row false sz n f)) (h1 : isU8T te e = true) (h2 : 0 < len) (hK : K (.slc h lo len)) : cvO te st s x K := by
  unfold cvO; rw [hx, ht]; simp only [hc]; exact ⟨h1, h2, trivial, hK⟩
theorem xmem_conv {te : TE} {st : St} {s : TypeId} {x : Operand} {k : SV → St → Prop} : xmem te st (.convert s s x) k = cvO te st s x (fun z => k z st) := by
  simp only [xmem, cvO, true_and]
  cases st.ev x <;> cases tdOf te s <;> rfl
theorem putS_s {nt : Nat} {st : St} {dst : Option Tmp} {z : SV} {k : St → Prop} : putS nt st dst z k = putSs nt st dst z ⟨k, ⟨⟩⟩ := id rfl
theorem litEl_bytes {l : List SV} {b : List UInt8} (h : l = b.map fun x => SV.i .u8 x.toNat) : ∀ j, j < b.length → litEl l 1 j = rowE bytc 0 b j := by
  intro j hj
  subst h
  unfold litEl rowE bytc
  rw [Nat.mul_one]
  simp [List.getD, hj]
  rw [List.drop_eq_getElem_cons (by simpa using hj)]
  simp
theorem isU8_ints (l : List Int) : ∀ j, j < l.length → isU8 ((litEl (l.map (SV.i .u8)) 1 j).getD 0 .u) = true := by
  intro j hj
  unfold litEl
  rw [Nat.mul_one, List.drop_eq_getElem_cons (by simpa using hj)]
  simp [isU8]
theorem rowBytes_ints (l : List Int) : rowBytes (litEl (l.map (SV.i .u8)) 1) 0 l.length = l.map fun x => UInt8.ofNat x.toNat := by
  apply List.ext_getElem (by simp [rowBytes])
  intro j h1 h2
  have hj : j < l.length := by simpa using h2
  unfold rowBytes litEl
  simp only [List.getElem_map, List.getElem_range, Nat.zero_add, Nat.mul_one]
  rw [List.drop_eq_getElem_cons (by simpa using hj)]
  simp
open Go.Pl in
theorem encode_rn {r : Int} (h : ¬ (r < 0 ∨ 1114111 < r ∨ (55296 ≤ r ∧ r ≤ 57343))) : (Utf8.encode r).data.toList = rnB r := by
  have hv : Utf8.valid r = true := by simp [Utf8.valid]; omega
  obtain ⟨n, rfl⟩ : ∃ n : Nat, r = n := ⟨r.toNat, by omega⟩
  unfold rnB Utf8.encode
  rw [if_neg h, hv]
  simp only [if_true, Int.toNat_natCast]
  by_cases h1 : n < 128
  · rw [if_pos h1, if_pos (show (n : Int) < 128 by omega)]
  rw [if_neg h1, if_neg (show ¬ (n : Int) < 128 by omega)]
  by_cases h2 : n < 2048
  · rw [if_pos h2, if_pos (show (n : Int) < 2048 by omega)]
  rw [if_neg h2, if_neg (show ¬ (n : Int) < 2048 by omega)]
  by_cases h3 : n < 65536
  · rw [if_pos h3, if_pos (show (n : Int) < 65536 by omega)]
  rw [if_neg h3, if_neg (show ¬ (n : Int) < 65536 by omega)]
theorem litEl_i64 {l : List SV} {b : List Int} (h : l = b.map (SV.i .i64)) {j : Nat} (hj : j < b.length) : litEl l 1 j = [.i .i64 (b.getD j 0)] := by
  subst h
  unfold litEl
  rw [Nat.mul_one]
  simp [List.getD, hj]
  rw [List.drop_eq_getElem_cons (by simpa using hj)]
  simp
end Go.Vg
end
section
set_option linter.unusedVariables false
set_option linter.unusedSimpArgs false
namespace Go.Pl
set_option linter.unusedVariables false
set_option linter.unusedSimpArgs false
/-- What is open: is it a map, and how many nodes it has; the innermost last. -/
abbrev Stk := List (Bool × Nat)
def tp (o : Stk) : Bool × Nat := o.getD (o.length - 1) (false, 0)
def incr (o : Stk) : Stk := o.set (o.length - 1) ((tp o).1, (tp o).2 + 1)
def pop (o : Stk) : Stk := o.take (o.length - 1)
def ndNode (d : Int) (o : Stk) : Bool × Int × Stk := if o = [] then (decide (d = 1), 2, []) else (true, d, incr o)
def ndEnds (o : Stk) : Bool := !(decide (o = []) || ((tp o).1 && decide ((tp o).2 % 2 ≠ 0)))
def ndEv (d : Int) (o : Stk) (k : Int) : Bool × Int × Stk :=
  if k = 2 then (decide (d = 0), 1, o)
  else if k = 5 ∨ k = 6 then ndNode d o
  else if k = 3 ∨ k = 4 then ((ndNode d o).1, (ndNode d o).2.1, (ndNode d o).2.2 ++ [(decide (k = 4), 0)])
  else if k = 7 then if ndEnds o then (true, d, pop o) else (false, d, o)
  else if k = 8 then (decide (d = 2) && decide (o = []), 0, o)
  else (false, d, o)
def ndRun : List Ev → Int → Stk → Bool
  | [], _, _ => false
  | e :: r, d, o => evOk e && (if e.kind = 10 then r.isEmpty else if e.kind = 9 then r.isEmpty && decide (d = 0) else (ndEv d o e.kind).1 && ndRun r (ndEv d o e.kind).2.1 (ndEv d o e.kind).2.2)
def nested : List Ev → Bool
  | [] => false
  | e :: r => evOk e && decide (e.kind = 1) && ndRun r 0 []
theorem getD_set' {α : Type} (l : List α) (i j : Nat) (x z : α) (hi : i < l.length) : (l.set i x).getD j z = if j = i then x else l.getD j z := by
  simp only [List.getD_eq_getElem?_getD, List.getElem?_set]
  by_cases h : j = i
  · subst h; simp [hi]
  · rw [if_neg (Ne.symm h), if_neg h]
end Go.Pl
namespace Go.Pl
end Go.Pl
namespace Go.Pl
end Go.Pl
namespace Go.Pl
end Go.Pl
namespace Go.Pl
end Go.Pl
namespace Go.Pl
end Go.Pl
namespace Go.Pl
end Go.Pl
namespace Go.Pl
end Go.Pl
end
section
set_option linter.unusedVariables false
set_option linter.unusedSimpArgs false
namespace Go.Pl
set_option linter.unusedVariables false
set_option linter.unusedSimpArgs false
end Go.Pl
namespace Go.Pl
end Go.Pl
namespace Go.Pl
end Go.Pl
namespace Go.Pl
end Go.Pl
namespace Go.Pl
end Go.Pl
namespace Go.Pl
end Go.Pl
namespace Go.Pl
end Go.Pl
namespace Go.Pl
end Go.Pl
end
section
set_option linter.unusedVariables false
set_option linter.unusedSimpArgs false
namespace Go.Pl
set_option linter.unusedVariables false
set_option linter.unusedSimpArgs false
end Go.Pl
namespace Go.Pl
end Go.Pl
end
section
set_option linter.unusedVariables false
set_option linter.unusedSimpArgs false
namespace Go.Pl
set_option linter.unusedVariables false
set_option linter.unusedSimpArgs false
end Go.Pl
namespace Go.Pl
end Go.Pl
namespace Go.Pl
open Go.Pl
end Go.Pl
namespace Go.Pl
end Go.Pl
namespace Go.Pl
end Go.Pl
namespace Go.Pl
end Go.Pl
end
section
set_option linter.unusedVariables false
set_option linter.unusedSimpArgs false
namespace Go.Pl
set_option linter.unusedVariables false
set_option linter.unusedSimpArgs false
end Go.Pl
namespace Go.Pl
end Go.Pl
end
section
set_option linter.unusedVariables false
set_option linter.unusedSimpArgs false
namespace Go.Vg
open Go.Pl
set_option linter.unusedVariables false
theorem soLe_map {μ : Nat → Nat} {l : List (List UInt8 × Int)} : soLe μ (.mapS l) (.mapS l) := ⟨id, rfl, rfl, Nat.le_refl _, rfl, fun i hi => absurd hi (Nat.not_lt_zero _)⟩
end Go.Vg
namespace Go.Vg
open Go.Pl
end Go.Vg
namespace Go.Vg
open Go.RowKit
end Go.Vg
end
section
set_option linter.unusedVariables false
set_option linter.unusedSimpArgs false
namespace Go.Vg
open Go.Pl
set_option linter.unusedVariables false
set_option linter.unusedSimpArgs false
def pcc (e : Pc) : List SV := [.s e.text, .b e.glue]
theorem pcc_inj {l m : List Pc} : l.map pcc = m.map pcc ↔ l = m := map_inj fun a b h => by cases a; cases b; simpa [pcc] using h
theorem getD_pcc (a : List Pc) (i : Nat) : (a.map pcc).getD i [.s [], .b false] = [.s (a.getD i pcz).text, .b (a.getD i pcz).glue] := getD_map pcc a i pcz
theorem rowE_pc {a : List Pc} {i : Nat} : rowE pcc pcz a i = [.s (a.getD i pcz).text, .b (a.getD i pcz).glue] := id rfl
theorem rowH_pc {μ : Nat → Nat} {r : Bool} {sz n : Nat} {a : List Pc} : SO.mapH μ (.row r sz n (rowE pcc pcz a)) = .row r sz n (rowE pcc pcz a) := rowH fun _ => rfl
theorem pcEta (e : Pc) : (⟨e.text, e.glue⟩ : Pc) = e := id rfl
theorem XRP : type_of% (And.intro (And.intro @getD_pcc @rowE_pc) (And.intro @rowH_pc @pcEta)) := And.intro (And.intro @getD_pcc @rowE_pc) (And.intro @rowH_pc @pcEta)
theorem bytc_inj' {l m : List UInt8} : l.map bytc = m.map bytc ↔ l = m := map_inj fun a b h => by simp only [bytc, List.cons.injEq, SV.i.injEq, and_true, true_and] at h; exact UInt8.toNat_inj.1 (by omega)
theorem fsBytes_bytc (l : List UInt8) : fsBytes (l.map bytc) = l := by
  unfold fsBytes
  rw [List.map_map]
  conv => rhs; rw [← List.map_id l]
  apply List.map_congr_left
  intro x _
  simp [bytc]
theorem rowList_push {α : Type} {enc : α → List SV} {z : α} {xs : List α} {y : α} {sz : Nat} {f : Nat → List SV} (hf : ∀ j, j < xs.length → f j = rowE enc z xs j) (hl : (enc y).length = sz) :
    rowList (catF xs.length f fun j => litEl (enc y) sz j) 0 (xs.length + 1) = (xs ++ [y]).map enc := by
  rw [← rowE_list (enc := enc) (z := z) (xs := xs ++ [y]) (n := xs.length + 1) (by simp)]
  unfold rowList
  apply List.map_congr_left
  intro j hj
  rw [Nat.zero_add]
  exact rowE_push rfl hf hl (by simpa using hj)
theorem soLe_pushC {μ : Nat → Nat} {α : Type} {enc : α → List SV} {z : α} (xs : List α) (y : α) (sz : Nat) {f : Nat → List SV} {cs : List SV} (hp : ∀ x, plainL (enc x) = true) (hf : ∀ j, j < xs.length → f j = rowE enc z xs j) (hy : cs = enc y) (hl : (enc y).length = sz) :
    soLe μ (.row false sz (xs.length + 1) (rowE enc z (xs ++ [y]))) (.row false sz (xs.length + 1) (catF xs.length f fun j => litEl cs sz j)) := by
  subst hy
  refine soLe_row fun j hj => ?_
  rw [rowE_push (z := z) rfl hf hl hj]
  exact mapHL_plain (hp _)
theorem rowList_pushC {α : Type} {enc : α → List SV} (z : α) (xs : List α) (y : α) (sz : Nat) {f : Nat → List SV} {cs : List SV} (hf : ∀ j, j < xs.length → f j = rowE enc z xs j) (hy : cs = enc y) (hl : (enc y).length = sz) :
    rowList (catF xs.length f fun j => litEl cs sz j) 0 (xs.length + 1) = (xs ++ [y]).map enc := by
  subst hy; exact rowList_push (z := z) hf hl
theorem catF_plain {α : Type} {enc : α → List SV} (z : α) (xs : List α) (y : α) (sz : Nat) {f : Nat → List SV} {cs : List SV} (hp : ∀ x, plainL (enc x) = true) (hf : ∀ j, j < xs.length → f j = rowE enc z xs j) (hy : cs = enc y) (hl : ∀ x, (enc x).length = sz) :
    ∀ j, j < xs.length + 1 → (catF xs.length f (fun j => litEl cs sz j) j).length = sz ∧ plainL (catF xs.length f (fun j => litEl cs sz j) j) = true := by
  intro j hj
  subst hy
  rw [rowE_push (z := z) rfl hf (hl y) hj]
  exact ⟨hl _, hp _⟩
theorem rowBytes_bytc (l : List UInt8) : rowBytes (rowE bytc 0 l) 0 l.length = l := by
  apply List.ext_getElem (by simp [rowBytes])
  intro j h1 h2
  simp [rowBytes, rowE, bytc, List.getD, h2]
theorem soLe_app {μ : Nat → Nat} {α : Type} {enc : α → List SV} {z : α} (xs ys : List α) (sz : Nat) {f g : Nat → List SV} (hp : ∀ x, plainL (enc x) = true) (hf : ∀ j, j < xs.length → f j = rowE enc z xs j) (hg : ∀ j, j < ys.length → g j = rowE enc z ys j) :
    soLe μ (.row false sz (xs ++ ys).length (rowE enc z (xs ++ ys))) (.row false sz (xs.length + ys.length) (catF xs.length f g)) := by
  refine soLe_row' (by simp) fun j hj => ?_
  rw [rowE_app (z := z) rfl rfl hf hg (by simpa using hj)]
  exact mapHL_plain (hp _)
end Go.Vg
end
section
set_option linter.unusedVariables false
set_option linter.unusedSimpArgs false
namespace Go.Pl
set_option linter.unusedVariables false
set_option linter.unusedSimpArgs false
def sgl (s : Bs) (i : Nat) (L : List Pc) (cur : Bs) : Bs × Nat × Int :=
  if h : i < s.length then
    if byt s i = 10 then (if mkA s (i + 1) = 0 then sgl s (wh s (i + 1)) (L ++ [⟨cutW 0 cur, false⟩]) [] else ([], i + 1, 4))
    else if byt s i = 39 ∧ byt s (i + 1) = 39 then sgl s (i + 2) L (cur ++ [39])
    else if byt s i = 39 then (foldT (L ++ [⟨cur, false⟩]), i + 1, 0)
    else sgl s (i + 1) L (cur ++ [s.getD i 0])
  else ([], s.length, 3)
termination_by s.length - i
decreasing_by
  · have := wh_ge s (i + 1); omega
  · omega
  · omega
theorem sgl_end {s : Bs} {i : Nat} {L : List Pc} {cur : Bs} (h : ¬ i < s.length) : sgl s i L cur = ([], s.length, 3) := by rw [sgl, dif_neg h]
theorem sgl_nl {s : Bs} {i : Nat} {L : List Pc} {cur : Bs} (h : i < s.length) (hb : byt s i = 10) (hm : mkA s (i + 1) = 0) : sgl s i L cur = sgl s (wh s (i + 1)) (L ++ [⟨cutW 0 cur, false⟩]) [] := by rw [sgl, dif_pos h, if_pos hb, if_pos hm]
theorem sgl_mk {s : Bs} {i : Nat} {L : List Pc} {cur : Bs} (h : i < s.length) (hb : byt s i = 10) (hm : ¬ mkA s (i + 1) = 0) : sgl s i L cur = ([], i + 1, 4) := by rw [sgl, dif_pos h, if_pos hb, if_neg hm]
theorem sgl_qq {s : Bs} {i : Nat} {L : List Pc} {cur : Bs} (h : i < s.length) (hb : byt s i = 39) (h2 : byt s (i + 1) = 39) : sgl s i L cur = sgl s (i + 2) L (cur ++ [39]) := by rw [sgl, dif_pos h, if_neg (by omega), if_pos ⟨hb, h2⟩]
theorem sgl_q {s : Bs} {i : Nat} {L : List Pc} {cur : Bs} (h : i < s.length) (hb : byt s i = 39) (h2 : ¬ byt s (i + 1) = 39) : sgl s i L cur = (foldT (L ++ [⟨cur, false⟩]), i + 1, 0) := by rw [sgl, dif_pos h, if_neg (by omega), if_neg (fun h => h2 h.2), if_pos hb]
theorem sgl_c {s : Bs} {i : Nat} {L : List Pc} {cur : Bs} (h : i < s.length) (hb : ¬ byt s i = 10) (h2 : ¬ byt s i = 39) : sgl s i L cur = sgl s (i + 1) L (cur ++ [s.getD i 0]) := by rw [sgl, dif_pos h, if_neg hb, if_neg (fun h => h2 h.1), if_neg h2]
def sgA (s : Bs) (p : Nat) : Bs × Nat × Int := if byt s p = 39 then sgl s (p + 1) [] [] else ([], p, 10)
def dbl (s : Bs) (i : Nat) (L : List Pc) (cur : Bs) (k : Nat) : Bs × Nat × Int :=
  if h : i < s.length then
    if byt s i = 10 then (if mkA s (i + 1) = 0 then dbl s (wh s (i + 1)) (L ++ [⟨cutW k cur, false⟩]) [] 0 else ([], i + 1, 4))
    else if byt s i = 92 ∧ byt s (i + 1) = 10 then (if mkA s (i + 2) = 0 then dbl s (wh s (i + 2)) (L ++ [⟨cur, true⟩]) [] 0 else ([], i + 2, 4))
    else if byt s i = 92 then (if h2 : (esA s i).2 ≤ i then ([], i, 5) else dbl s (esA s i).2 L (cur ++ (esA s i).1) (cur ++ (esA s i).1).length)
    else if byt s i = 34 then (foldT (L ++ [⟨cur, false⟩]), i + 1, 0)
    else dbl s (i + 1) L (cur ++ [s.getD i 0]) k
  else ([], s.length, 3)
termination_by s.length - i
decreasing_by
  · have := wh_ge s (i + 1); omega
  · have := wh_ge s (i + 2); omega
  · omega
  · omega
theorem dbl_end {s : Bs} {i : Nat} {L : List Pc} {cur : Bs} {k : Nat} (h : ¬ i < s.length) : dbl s i L cur k = ([], s.length, 3) := by rw [dbl, dif_neg h]
theorem dbl_nl {s : Bs} {i : Nat} {L : List Pc} {cur : Bs} {k : Nat} (h : i < s.length) (hb : byt s i = 10) (hm : mkA s (i + 1) = 0) : dbl s i L cur k = dbl s (wh s (i + 1)) (L ++ [⟨cutW k cur, false⟩]) [] 0 := by rw [dbl, dif_pos h, if_pos hb, if_pos hm]
theorem dbl_mk {s : Bs} {i : Nat} {L : List Pc} {cur : Bs} {k : Nat} (h : i < s.length) (hb : byt s i = 10) (hm : ¬ mkA s (i + 1) = 0) : dbl s i L cur k = ([], i + 1, 4) := by rw [dbl, dif_pos h, if_pos hb, if_neg hm]
theorem dbl_gl {s : Bs} {i : Nat} {L : List Pc} {cur : Bs} {k : Nat} (h : i < s.length) (hb : byt s i = 92) (h2 : byt s (i + 1) = 10) (hm : mkA s (i + 2) = 0) : dbl s i L cur k = dbl s (wh s (i + 2)) (L ++ [⟨cur, true⟩]) [] 0 := by rw [dbl, dif_pos h, if_neg (by omega), if_pos ⟨hb, h2⟩, if_pos hm]
theorem dbl_gm {s : Bs} {i : Nat} {L : List Pc} {cur : Bs} {k : Nat} (h : i < s.length) (hb : byt s i = 92) (h2 : byt s (i + 1) = 10) (hm : ¬ mkA s (i + 2) = 0) : dbl s i L cur k = ([], i + 2, 4) := by rw [dbl, dif_pos h, if_neg (by omega), if_pos ⟨hb, h2⟩, if_neg hm]
theorem dbl_eb {s : Bs} {i : Nat} {L : List Pc} {cur : Bs} {k : Nat} (h : i < s.length) (hb : byt s i = 92) (h2 : ¬ byt s (i + 1) = 10) (he : (esA s i).2 = 0) : dbl s i L cur k = ([], i, 5) := by rw [dbl, dif_pos h, if_neg (by omega), if_neg (fun h => h2 h.2), if_pos hb, dif_pos (by omega)]
theorem dbl_es {s : Bs} {i : Nat} {L : List Pc} {cur : Bs} {k : Nat} (h : i < s.length) (hb : byt s i = 92) (h2 : ¬ byt s (i + 1) = 10) (he : ¬ (esA s i).2 = 0) : dbl s i L cur k = dbl s (esA s i).2 L (cur ++ (esA s i).1) (cur ++ (esA s i).1).length := by
  rw [dbl, dif_pos h, if_neg (by omega), if_neg (fun h => h2 h.2), if_pos hb, dif_neg (by have := esA_gt s i; omega)]
theorem dbl_q {s : Bs} {i : Nat} {L : List Pc} {cur : Bs} {k : Nat} (h : i < s.length) (hb : byt s i = 34) : dbl s i L cur k = (foldT (L ++ [⟨cur, false⟩]), i + 1, 0) := by rw [dbl, dif_pos h, if_neg (by omega), if_neg (fun h => by omega), if_neg (by omega), if_pos hb]
theorem dbl_c {s : Bs} {i : Nat} {L : List Pc} {cur : Bs} {k : Nat} (h : i < s.length) (hb : ¬ byt s i = 10) (h2 : ¬ byt s i = 92) (h3 : ¬ byt s i = 34) : dbl s i L cur k = dbl s (i + 1) L (cur ++ [s.getD i 0]) k := by rw [dbl, dif_pos h, if_neg hb, if_neg (fun h => h2 h.1), if_neg h2, if_neg h3]
def dbA (s : Bs) (p : Nat) : Bs × Nat × Int := if byt s p = 34 then dbl s (p + 1) [] [] 0 else ([], p, 10)
theorem cutW_white {k : Nat} {b : Bs} {w : UInt8} (hk : k ≤ b.length) (hw : w = 32 ∨ w = 9) : cutW k (b ++ [w]) = cutW k b := by
  rw [cutW_t]
  · congr 1; simp
  · have e : (b ++ [w]).getD ((b ++ [w]).length - 1) 0 = w := by simp [List.getD]
    rw [e]
    exact ⟨by simp; omega, hw⟩
theorem cutW_non {k : Nat} {b : Bs} {w : UInt8} (hw : ¬ (w = 32 ∨ w = 9)) : cutW k (b ++ [w]) = b ++ [w] := by
  rw [cutW_f]
  have e : (b ++ [w]).getD ((b ++ [w]).length - 1) 0 = w := by simp [List.getD]
  rw [e]
  exact fun h => hw h.2
theorem cutW_all (b : Bs) : cutW b.length b = b := by
  rw [cutW_f]; rintro ⟨h, _⟩; omega
theorem cutW_nil (k : Nat) : cutW k [] = [] := by rw [cutW_f]; rintro ⟨h, _⟩; simp at h
theorem cutK_take (k : Nat) : ∀ (n : Nat) (b : Bs), b.take (cutK k n b).length = cutK k n b
  | 0, b => by simp [cutK]
  | n + 1, b => by
    unfold cutK
    split
    · have h := cutK_take k n (b.take (b.length - 1))
      rw [List.take_take] at h
      have hl := cutK_len k n (b.take (b.length - 1))
      rw [List.length_take] at hl
      rw [Nat.min_eq_left (by omega)] at h
      exact h
    · simp
theorem cutW_take (k : Nat) (b : Bs) : b.take (cutW k b).length = cutW k b := cutK_take k _ b
theorem pcW_one (e : Pc) : pcW [e] = e.text.length + 1 := by simp [pcW]
theorem sgl_place (s : Bs) (i : Nat) (L : List Pc) (cur : Bs) (h : i ≤ s.length) : i ≤ (sgl s i L cur).2.1 ∧ (sgl s i L cur).2.1 ≤ s.length ∧ ((sgl s i L cur).2.2 = 0 → i < (sgl s i L cur).2.1) := by
  fun_induction sgl s i L cur with
  | case1 i L cur h1 hb hm ih => have h2 := wh_ge s (i + 1); have h3 := wh_le s (i + 1) h1; have := ih h3; omega
  | case2 i L cur h1 hb hm => simp only; omega
  | case3 i L cur h1 hb h2 ih =>
    have h3 : i + 1 < s.length := by
      rcases Nat.lt_or_ge (i + 1) s.length with h4 | h4
      · exact h4
      · rw [byt_ge h4] at h2; omega
    have := ih (by omega); omega
  | case4 i L cur h1 hb h2 h3 => simp only; omega
  | case5 i L cur h1 hb h2 h3 ih => have := ih (by omega); omega
  | case6 i L cur h1 => simp only; omega
theorem dbl_place (s : Bs) (i : Nat) (L : List Pc) (cur : Bs) (k : Nat) (h : i ≤ s.length) : i ≤ (dbl s i L cur k).2.1 ∧ (dbl s i L cur k).2.1 ≤ s.length ∧ ((dbl s i L cur k).2.2 = 0 → i < (dbl s i L cur k).2.1) := by
  fun_induction dbl s i L cur k with
  | case1 i L cur k h1 hb hm ih => have h2 := wh_ge s (i + 1); have h3 := wh_le s (i + 1) h1; have := ih h3; omega
  | case2 i L cur k h1 hb hm => simp only; omega
  | case3 i L cur k h1 hb h2 hm ih =>
    have h3 : i + 1 < s.length := by
      rcases Nat.lt_or_ge (i + 1) s.length with h4 | h4
      · exact h4
      · rw [byt_ge h4] at h2; omega
    have h4 := wh_ge s (i + 2); have h5 := wh_le s (i + 2) h3; have := ih h5; omega
  | case4 i L cur k h1 hb h2 hm =>
    have h3 : i + 1 < s.length := by
      rcases Nat.lt_or_ge (i + 1) s.length with h4 | h4
      · exact h4
      · rw [byt_ge h4] at h2; omega
    simp only; omega
  | case5 i L cur k h1 hb h2 hq he => simp only; omega
  | case6 i L cur k h1 hb h2 hq he ih => have h3 := esA_le s i; have := ih h3; omega
  | case7 i L cur k h1 hb h2 hq hx => simp only; omega
  | case8 i L cur k h1 hb h2 hq hx ih => have := ih (by omega); omega
  | case9 i L cur k h1 => simp only; omega
theorem sgA_place {s : Bs} {p : Nat} (h : p ≤ s.length) : p ≤ (sgA s p).2.1 ∧ (sgA s p).2.1 ≤ s.length ∧ ((sgA s p).2.2 = 0 → p + 1 < (sgA s p).2.1) := by
  unfold sgA
  split
  · rename_i hb
    have hl : p < s.length := by
      rcases Nat.lt_or_ge p s.length with h1 | h1
      · exact h1
      · rw [byt_ge h1] at hb; omega
    have := sgl_place s (p + 1) [] [] hl
    omega
  · simp only; omega
theorem dbA_place {s : Bs} {p : Nat} (h : p ≤ s.length) : p ≤ (dbA s p).2.1 ∧ (dbA s p).2.1 ≤ s.length ∧ ((dbA s p).2.2 = 0 → p + 1 < (dbA s p).2.1) := by
  unfold dbA
  split
  · rename_i hb
    have hl : p < s.length := by
      rcases Nat.lt_or_ge p s.length with h1 | h1
      · exact h1
      · rw [byt_ge h1] at hb; omega
    have := dbl_place s (p + 1) [] [] 0 hl
    omega
  · simp only; omega
end Go.Pl
end
section
set_option linter.unusedVariables false
set_option linter.unusedSimpArgs false
namespace Go.Pl
set_option linter.unusedVariables false
set_option linter.unusedSimpArgs false
theorem byt_pos {s : Bs} {i : Nat} {b : Int} (h : byt s i = b) (hb : 0 ≤ b) : i < s.length := by
  rcases Nat.lt_or_ge i s.length with h1 | h1
  · exact h1
  · rw [byt_ge h1] at h; omega
/-- Over blanks. -/
def bl (s : Bs) (i : Nat) : Nat := if h : byt s i = 32 then bl s (i + 1) else i
termination_by s.length - i
decreasing_by have := byt_pos h (by decide); omega
theorem bl_t {s : Bs} {i : Nat} (h : byt s i = 32) : bl s i = bl s (i + 1) := by rw [bl, dif_pos h]
theorem bl_f {s : Bs} {i : Nat} (h : ¬ byt s i = 32) : bl s i = i := by rw [bl, dif_neg h]
def inA (s : Bs) (p : Nat) : Nat := bl s (la s p) - la s p
/-- Over a gap. -/
def gpC (s : Bs) (p : Nat) : Bool := decide (byt s p = 35) && (decide (la s p = p) || isW s (p - 1))
theorem en_gt {s : Bs} {p : Nat} (h : isB s p = false) : p < en s p := by rw [en_t h]; have := en_ge s (p + 1); omega
theorem isB_35 {s : Bs} {p : Nat} (h : byt s p = 35) : isB s p = false := by unfold isB; rw [h]; decide
def gpE (s : Bs) (p : Nat) : Nat :=
  if h : p < s.length then (if isW s p = true ∨ byt s p = 10 then gpE s (p + 1) else if h2 : gpC s p = true then gpE s (en s p) else p) else p
termination_by s.length - p
decreasing_by
  · omega
  · have := en_gt (isB_35 (by simp [gpC] at h2; exact h2.1)); omega
theorem gpE_w {s : Bs} {p : Nat} (h : isW s p = true ∨ byt s p = 10) : gpE s p = gpE s (p + 1) := by
  have hl : p < s.length := by
    rcases h with h | h
    · exact isW_lt h
    · exact byt_pos h (by decide)
  rw [gpE, dif_pos hl, if_pos h]
theorem gpE_c {s : Bs} {p : Nat} (h : gpC s p = true) : gpE s p = gpE s (en s p) := by
  have hb : byt s p = 35 := by simp [gpC] at h; exact h.1
  have hl := byt_pos hb (by decide)
  have hw : ¬ (isW s p = true ∨ byt s p = 10) := by unfold isW; rw [hb]; decide
  rw [gpE, dif_pos hl, if_neg hw, dif_pos h]
theorem gpE_f {s : Bs} {p : Nat} (h : ¬ (isW s p = true ∨ byt s p = 10)) (h2 : gpC s p = false) : gpE s p = p := by
  by_cases hl : p < s.length
  · rw [gpE, dif_pos hl, if_neg h, dif_neg (by rw [h2]; simp)]
  · rw [gpE, dif_neg hl]
theorem gpE_end {s : Bs} {p : Nat} (h : ¬ p < s.length) : gpE s p = p := by rw [gpE, dif_neg h]
theorem gpE_ge (s : Bs) (p : Nat) : p ≤ gpE s p := by
  fun_induction gpE s p with
  | case1 p h h1 ih => omega
  | case2 p h h1 h2 ih => have := en_ge s p; omega
  | case3 p h h1 h2 => omega
  | case4 p h => omega
theorem gpE_le (s : Bs) (p : Nat) (h : p ≤ s.length) : gpE s p ≤ s.length := by
  fun_induction gpE s p with
  | case1 p h h1 ih => exact ih (by omega)
  | case2 p h0 h1 h2 ih => exact ih (en_le s p h)
  | case3 p h h1 h2 => omega
  | case4 p h => omega
theorem gpE_wh (s : Bs) (p : Nat) : gpE s (wh s p) = gpE s p := by
  fun_induction wh s p with
  | case1 i h ih => rw [ih, ← gpE_w (.inl h)]
  | case2 i h => rfl
/-- A line of white alone. -/
def lnA (s : Bs) (p : Nat) : Bool := isB s (wh s (la s p))
/-- On to a '>', or a gap. -/
def cl (s : Bs) (i : Nat) : Nat := if h : gap s i = false ∧ ¬ byt s i = 62 then cl s (i + 1) else i
termination_by s.length - i
decreasing_by have := gap_not h.1; omega
theorem cl_t {s : Bs} {i : Nat} (h : gap s i = false ∧ ¬ byt s i = 62) : cl s i = cl s (i + 1) := by rw [cl, dif_pos h]
theorem cl_f {s : Bs} {i : Nat} (h : ¬ (gap s i = false ∧ ¬ byt s i = 62)) : cl s i = i := by rw [cl, dif_neg h]
theorem cl_ge (s : Bs) (i : Nat) : i ≤ cl s i := by
  fun_induction cl s i with
  | case1 i h ih => omega
  | case2 i h => omega
/-- The end of a tag. -/
def tgE (s : Bs) (p : Nat) : Nat := if byt s (p + 1) = 60 ∧ byt s (cl s (p + 2)) = 62 ∧ p + 2 < cl s (p + 2) then cl s (p + 2) + 1 else stc s p
def tgA (s : Bs) (p : Nat) : Bs × Int × Bool := if byt s p = 33 ∧ tgE s p ≤ p + 60 then (sub s p (tgE s p), tgE s p, true) else ([], 0, false)
theorem tgA_t {s : Bs} {p : Nat} (h : byt s p = 33 ∧ tgE s p ≤ p + 60) : tgA s p = (sub s p (tgE s p), (tgE s p : Int), true) := by unfold tgA; rw [if_pos h]
theorem tgA_f {s : Bs} {p : Nat} (h : ¬ (byt s p = 33 ∧ tgE s p ≤ p + 60)) : tgA s p = ([], 0, false) := by unfold tgA; rw [if_neg h]
theorem stc_33 {s : Bs} {p : Nat} (h : byt s p = 33) : p + 1 ≤ stc s p := by
  have hl := byt_pos h (by decide)
  rw [stc_t ⟨by unfold gap isW isB; rw [h]; decide, by rw [h]; decide⟩]
  exact stc_ge s (p + 1)
theorem tgE_place {s : Bs} {p : Nat} (h : byt s p = 33) : p + 1 ≤ tgE s p ∧ tgE s p ≤ s.length := by
  have hl := byt_pos h (by decide)
  unfold tgE
  split
  · rename_i h2
    have := byt_pos h2.2.1 (by decide)
    have := cl_ge s (p + 2)
    omega
  · exact ⟨stc_33 h, stc_le s p (by omega)⟩
/-- A handle. -/
structure Hd where
  name : Bs
  pre : Bs
deriving DecidableEq
def hdz : Hd := ⟨[], []⟩
def isWd (b : UInt8) : Bool := (decide (97 ≤ b.toNat) && decide (b.toNat ≤ 122)) || (decide (65 ≤ b.toNat) && decide (b.toNat ≤ 90)) || (decide (48 ≤ b.toNat) && decide (b.toNat ≤ 57)) || decide (b.toNat = 45)
def nmO (s : Bs) : Bool := decide (s.length ≤ 60 ∧ s ≠ [] ∧ s.getD 0 0 = 33 ∧ s.getD (s.length - 1) 0 = 33) && (sub s 1 (s.length - 1)).all isWd
def hdF (name : Bs) (rest : Bs) : List Hd → Bs × Bool
  | [] => if name = [33, 33] then ([116, 97, 103, 58, 121, 97, 109, 108, 46, 111, 114, 103, 44, 50, 48, 48, 50, 58] ++ rest, true) else if name = [33] then ([33] ++ rest, true) else ([], false)
  | h :: r => if h.name = name then (if h.pre = [] then ([], false) else (h.pre ++ rest, true)) else hdF name rest r
def trA (raw : Bs) (l : List Hd) : Bs × Bool :=
  if raw = [] ∨ raw.getD 0 0 ≠ 33 then ([], false)
  else if 3 < raw.length ∧ raw.getD 1 0 = 60 ∧ raw.getD (raw.length - 1) 0 = 62 then (sub raw 2 (raw.length - 1), true)
  else if raw = [33] then ([33], true)
  else if raw.drop (lix raw 33 + 1).toNat = [] ∨ nmO (raw.take (lix raw 33 + 1).toNat) = false then ([], false)
  else hdF (raw.take (lix raw 33 + 1).toNat) (raw.drop (lix raw 33 + 1).toNat) l
/-- Over lines of white alone: where the next one begins, and how many; false where the text ends so. -/
def lnS (s : Bs) (a : Nat) (many : Nat) : Nat × Nat × Bool :=
  if h : lnA s a = true then (if h2 : a ≤ en s a ∧ en s a < s.length then lnS s (en s a + 1) (many + 1) else (a, many, false)) else (a, many, true)
termination_by s.length - a
decreasing_by omega
theorem lnS_t {s : Bs} {a many : Nat} (h : lnA s a = true) (h2 : en s a < s.length) : lnS s a many = lnS s (en s a + 1) (many + 1) := by rw [lnS, dif_pos h, dif_pos ⟨en_ge s a, h2⟩]
theorem lnS_e {s : Bs} {a many : Nat} (h : lnA s a = true) (h2 : ¬ en s a < s.length) : lnS s a many = (a, many, false) := by rw [lnS, dif_pos h, dif_neg (fun h => h2 h.2)]
theorem lnS_f {s : Bs} {a many : Nat} (h : lnA s a = false) : lnS s a many = (a, many, true) := by rw [lnS, dif_neg (by rw [h]; simp)]
theorem lnS_place (s : Bs) (a many : Nat) (h : a ≤ s.length) : a ≤ (lnS s a many).1 ∧ (lnS s a many).1 ≤ s.length ∧ many ≤ (lnS s a many).2.1 ∧ (lnS s a many).2.1 + a ≤ many + (lnS s a many).1 := by
  fun_induction lnS s a many with
  | case1 a many h1 h2 ih => have := ih (by omega); omega
  | case2 a many h1 h2 => simp only; omega
  | case3 a many h1 => simp only; omega
/-- Where a plain scalar goes on. -/
def nxO (s : Bs) (a : Nat) (n : Int) (flow : Bool) : Bool :=
  decide (mkA s a = 0) && (flow || decide (n < (inA s a : Int))) && !decide (byt s (wh s a) = 35) && !decide (plE s (wh s a) flow = wh s a)
def nxA (s : Bs) (e : Nat) (n : Int) (flow : Bool) : Nat × Nat × Bool :=
  if byt s (wh s e) = 10 ∧ (lnS s (wh s e + 1) 0).2.2 = true ∧ nxO s (lnS s (wh s e + 1) 0).1 n flow = true then (wh s (lnS s (wh s e + 1) 0).1, (lnS s (wh s e + 1) 0).2.1, true) else (0, 0, false)
theorem nxA_t {s : Bs} {e : Nat} {n : Int} {flow : Bool} (h : byt s (wh s e) = 10 ∧ (lnS s (wh s e + 1) 0).2.2 = true ∧ nxO s (lnS s (wh s e + 1) 0).1 n flow = true) : nxA s e n flow = (wh s (lnS s (wh s e + 1) 0).1, (lnS s (wh s e + 1) 0).2.1, true) := by unfold nxA; rw [if_pos h]
theorem nxA_f {s : Bs} {e : Nat} {n : Int} {flow : Bool} (h : ¬ (byt s (wh s e) = 10 ∧ (lnS s (wh s e + 1) 0).2.2 = true ∧ nxO s (lnS s (wh s e + 1) 0).1 n flow = true)) : nxA s e n flow = (0, 0, false) := by unfold nxA; rw [if_neg h]
theorem nxA_place {s : Bs} {e : Nat} {n : Int} {flow : Bool} (h : (nxA s e n flow).2.2 = true) : e + (nxA s e n flow).2.1 + 1 ≤ (nxA s e n flow).1 ∧ (nxA s e n flow).1 ≤ s.length ∧ (nxA s e n flow).1 < plE s (nxA s e n flow).1 flow := by
  by_cases hc : byt s (wh s e) = 10 ∧ (lnS s (wh s e + 1) 0).2.2 = true ∧ nxO s (lnS s (wh s e + 1) 0).1 n flow = true
  · rw [nxA_t hc]
    have hl := byt_pos hc.1 (by decide)
    have h1 := lnS_place s (wh s e + 1) 0 hl
    have h2 := wh_ge s e
    have h3 := wh_ge s (lnS s (wh s e + 1) 0).1
    have h4 := wh_le s (lnS s (wh s e + 1) 0).1 h1.2.1
    have h5 := plE_ge s (wh s (lnS s (wh s e + 1) 0).1) flow
    have h6 : ¬ plE s (wh s (lnS s (wh s e + 1) 0).1) flow = wh s (lnS s (wh s e + 1) 0).1 := by
      have := hc.2.2
      simp only [nxO, Bool.and_eq_true, Bool.not_eq_true', decide_eq_false_iff_not] at this
      exact this.2
    simp only
    omega
  · rw [nxA_f hc] at h; cases h
def plA (s : Bs) (e : Nat) (n : Int) (flow : Bool) (L : List Pc) : Bs × Nat :=
  if h : (nxA s e n flow).2.2 = true then plA s (plE s (nxA s e n flow).1 flow) n flow (L ++ List.replicate (nxA s e n flow).2.1 pcz ++ [⟨sub s (nxA s e n flow).1 (plE s (nxA s e n flow).1 flow), false⟩]) else (foldT L, e)
termination_by s.length - e
decreasing_by
  have h1 := nxA_place h
  have h2 := plE_le s (nxA s e n flow).1 flow h1.2.1
  omega
theorem plA_t {s : Bs} {e : Nat} {n : Int} {flow : Bool} {L : List Pc} (h : (nxA s e n flow).2.2 = true) : plA s e n flow L = plA s (plE s (nxA s e n flow).1 flow) n flow (L ++ List.replicate (nxA s e n flow).2.1 pcz ++ [⟨sub s (nxA s e n flow).1 (plE s (nxA s e n flow).1 flow), false⟩]) := by rw [plA, dif_pos h]
theorem plA_f {s : Bs} {e : Nat} {n : Int} {flow : Bool} {L : List Pc} (h : (nxA s e n flow).2.2 = false) : plA s e n flow L = (foldT L, e) := by rw [plA, dif_neg (by rw [h]; simp)]
def ptA (s : Bs) (p : Nat) (n : Int) (flow : Bool) : Bs × Nat × Bool :=
  if pfA s p flow = true then ((plA s (plE s p flow) n flow [⟨sub s p (plE s p flow), false⟩]).1, (plA s (plE s p flow) n flow [⟨sub s p (plE s p flow), false⟩]).2, true) else ([], 0, false)
end Go.Pl
namespace Go.Pl
/-- The prefix of a handle, [] where there is none. -/
def hdP (name : Bs) : List Hd → Bs
  | [] => if name = [33, 33] then [116, 97, 103, 58, 121, 97, 109, 108, 46, 111, 114, 103, 44, 50, 48, 48, 50, 58] else if name = [33] then [33] else []
  | h :: r => if h.name = name then h.pre else hdP name r
theorem hdF_P (name rest : Bs) : ∀ l : List Hd, hdF name rest l = if hdP name l = [] then ([], false) else (hdP name l ++ rest, true)
  | [] => by
    unfold hdF hdP
    by_cases h1 : name = [33, 33]
    · rw [if_pos h1, if_pos h1, if_neg (by simp)]
    · rw [if_neg h1, if_neg h1]
      by_cases h2 : name = [33]
      · rw [if_pos h2, if_pos h2, if_neg (by simp)]
      · rw [if_neg h2, if_neg h2, if_pos rfl]
  | h :: r => by
    unfold hdF hdP
    by_cases h1 : h.name = name
    · rw [if_pos h1, if_pos h1]
    · rw [if_neg h1, if_neg h1]; exact hdF_P name rest r
end Go.Pl
namespace Go.Pl
theorem sub_all {s : Bs} {a e : Nat} (p : UInt8 → Bool) (he : e ≤ s.length) : (sub s a e).all p = true ↔ ∀ j, a ≤ j → j < e → p (s.getD j 0) = true := by
  unfold sub
  rw [List.all_eq_true]
  constructor
  · intro h j h1 h2
    refine h _ (List.mem_iff_getElem.2 ⟨j - a, by simp only [List.length_drop, List.length_take]; omega, ?_⟩)
    simp only [List.getElem_drop, List.getElem_take, show a + (j - a) = j by omega]
    simp [List.getD, show j < s.length by omega]
  · intro h x hx
    obtain ⟨j, hj, rfl⟩ := List.mem_iff_getElem.1 hx
    have hj2 : a + j < e := by simp only [List.length_drop, List.length_take] at hj; omega
    have := h (a + j) (by omega) hj2
    simp only [List.getElem_drop, List.getElem_take]
    simpa [List.getD, show a + j < s.length by omega] using this
theorem hdF_drop {name rest : Bs} {l : List Hd} {i : Nat} (h : i < l.length) : hdF name rest (l.drop i) = if (l.getD i hdz).name = name then (if (l.getD i hdz).pre = [] then ([], false) else ((l.getD i hdz).pre ++ rest, true)) else hdF name rest (l.drop (i + 1)) := by
  have e : l.getD i hdz = l[i] := by simp [List.getD, h]
  rw [List.drop_eq_getElem_cons h, e, hdF]
theorem hdP_drop {name : Bs} {l : List Hd} {i : Nat} (h : i < l.length) : hdP name (l.drop i) = if (l.getD i hdz).name = name then (l.getD i hdz).pre else hdP name (l.drop (i + 1)) := by
  have e : l.getD i hdz = l[i] := by simp [List.getD, h]
  rw [List.drop_eq_getElem_cons h, e, hdP]
theorem lix_bd (s : Bs) (c : Int) : -1 ≤ lix s c ∧ lix s c < s.length := ⟨lixU_ge s c _, lixU_lt s c _⟩
theorem hdP_len {name : Bs} : ∀ {l : List Hd} {N : Nat}, 18 ≤ N → (∀ h ∈ l, h.pre.length ≤ N) → (hdP name l).length ≤ N
  | [], N, h, _ => by
    unfold hdP; split; simpa using h; split <;> simp; omega
  | h :: r, N, hN, hl => by
    unfold hdP; split; exact hl h (List.mem_cons_self ..); exact hdP_len hN fun x hx => hl x (List.mem_cons_of_mem _ hx)
theorem lixU_hit {s : Bs} {c : Int} {i : Nat} (h : ((s.getD i 0).toNat : Int) = c) : lixU s c (i + 1) = i := by rw [lixU, if_pos h]
theorem lixU_miss {s : Bs} {c : Int} {i : Nat} (h : ¬ ((s.getD i 0).toNat : Int) = c) : lixU s c (i + 1) = lixU s c i := by rw [lixU, if_neg h]
end Go.Pl
namespace Go.Pl
theorem trA_a {raw : Bs} {l : List Hd} (h : raw = [] ∨ raw.getD 0 0 ≠ 33) : trA raw l = ([], false) := by unfold trA; rw [if_pos h]
theorem trA_b {raw : Bs} {l : List Hd} (hA : ¬ (raw = [] ∨ raw.getD 0 0 ≠ 33)) (h : 3 < raw.length ∧ raw.getD 1 0 = 60 ∧ raw.getD (raw.length - 1) 0 = 62) : trA raw l = (sub raw 2 (raw.length - 1), true) := by unfold trA; rw [if_neg hA, if_pos h]
theorem trA_c {l : List Hd} : trA [33] l = ([33], true) := by unfold trA; simp
theorem trA_d {raw : Bs} {l : List Hd} (hA : ¬ (raw = [] ∨ raw.getD 0 0 ≠ 33)) (hB : ¬ (3 < raw.length ∧ raw.getD 1 0 = 60 ∧ raw.getD (raw.length - 1) 0 = 62)) (hC : ¬ raw = [33]) : trA raw l = if raw.drop (lix raw 33 + 1).toNat = [] ∨ nmO (raw.take (lix raw 33 + 1).toNat) = false then ([], false) else hdF (raw.take (lix raw 33 + 1).toNat) (raw.drop (lix raw 33 + 1).toNat) l := by
  unfold trA; rw [if_neg hA, if_neg hB, if_neg hC]
end Go.Pl
namespace Go.Pl
theorem pcW_repl : ∀ n : Nat, pcW (List.replicate n pcz) = n
  | 0 => rfl
  | n + 1 => by
    have := pcW_repl n
    rw [List.replicate_succ]
    unfold pcW at this ⊢
    rw [List.map_cons, List.sum_cons, this]
    show 0 + 1 + n = n + 1
    omega
theorem la_nl {s : Bs} {i : Nat} (h : byt s i = 10) : la s (i + 1) = i + 1 := by unfold la; rw [if_pos h]
theorem en_10 {s : Bs} {a : Nat} (h : en s a < s.length) : byt s (en s a) = 10 := by
  have := en_isB s a
  unfold isB at this
  simp only [Bool.or_eq_true, beq_iff_eq, decide_eq_true_eq] at this
  rcases this with h1 | h1
  · exact h1
  · have := byt_neg.1 h1; omega
theorem nxA_at {s : Bs} {e : Nat} {n : Int} {fl : Bool} {a k : Nat} (h10 : byt s (wh s e) = 10) (h4 : lnS s a k = lnS s (wh s e + 1) 0) (hex : ¬ (lnA s a = true ∧ en s a < s.length)) :
    nxA s e n fl = if lnA s a = false ∧ nxO s a n fl = true then (wh s a, k, true) else (0, 0, false) := by
  by_cases hl : lnA s a = true
  · rw [lnS_e hl (fun h => hex ⟨hl, h⟩)] at h4
    rw [nxA_f (by rintro ⟨_, h5, _⟩; rw [← h4] at h5; cases h5), if_neg (by rintro ⟨h5, _⟩; rw [h5] at hl; cases hl)]
  · have hl : lnA s a = false := by simpa using hl
    rw [lnS_f hl] at h4
    by_cases hx : nxO s a n fl = true
    · rw [nxA_t ⟨h10, by rw [← h4], by rw [← h4]; exact hx⟩, ← h4, if_pos ⟨hl, hx⟩]
    · rw [nxA_f (by rintro ⟨_, _, h5⟩; rw [← h4] at h5; exact hx h5), if_neg (fun h => hx h.2)]
end Go.Pl
end
