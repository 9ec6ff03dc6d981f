/- Rows told by lists of what they hold. -/
import Derived.Test.YtjphhddbkjdbnaaVgXS
import Derived.Test.YtjphhddbkjdbnaaPlM
namespace Go.Vg
set_option linter.unusedVariables false
set_option linter.unusedSimpArgs false
def rowE {α : Type} (enc : α → List SV) (z : α) (xs : List α) : Nat → List SV := fun j => enc (xs.getD j z)
theorem rowE_list {α : Type} {enc : α → List SV} {z : α} {xs : List α} {n : Nat} (h : n = xs.length) : rowList (rowE enc z xs) 0 n = xs.map enc := by
  subst h
  apply List.ext_getElem?
  intro j
  unfold rowList rowE
  by_cases hj : j < xs.length
  · simp [hj, List.getD]
  · simp [hj]
theorem rowE_part {α : Type} {enc : α → List SV} {z : α} {xs : List α} {lo n : Nat} (h : lo + n ≤ xs.length) : rowList (rowE enc z xs) lo n = ((xs.drop lo).take n).map enc := by
  apply List.ext_getElem?
  intro j
  unfold rowList rowE
  by_cases hj : j < n
  · have h1 : lo + j < xs.length := by omega
    simp [hj, List.getD, List.getElem?_eq_getElem h1, h1, List.getElem?_take]
  · simp [hj, List.getElem?_take]
theorem rowE_push {α : Type} {enc : α → List SV} {z : α} {xs : List α} {y : α} {sz n : Nat} {f : Nat → List SV} (hn : n = xs.length) (hf : ∀ j, j < n → f j = rowE enc z xs j) (hl : (enc y).length = sz) {i : Nat} (hi : i < n + 1) :
    catF n f (litEl (enc y) sz) i = rowE enc z (xs ++ [y]) i := by
  subst hn
  unfold catF rowE
  split
  · rename_i h
    rw [hf i h]
    simp [rowE, List.getD, List.getElem?_append_left h]
  · have : i = xs.length := by omega
    subst this
    have h1 : (xs ++ [y]).getD xs.length z = y := by simp [List.getD]
    rw [h1, Nat.sub_self]
    simp only [litEl, Nat.zero_mul, List.drop_zero]
    rw [← hl, List.take_length]
theorem rowE_app {α : Type} {enc : α → List SV} {z : α} {xs ys : List α} {n m : Nat} {f g : Nat → List SV} (hn : n = xs.length) (hm : m = ys.length) (hf : ∀ j, j < n → f j = rowE enc z xs j) (hg : ∀ j, j < m → g j = rowE enc z ys j) {i : Nat} (hi : i < n + m) :
    catF n f g i = rowE enc z (xs ++ ys) i := by
  subst hn hm
  unfold catF
  split
  · rename_i h
    rw [hf i h]
    simp [rowE, List.getD, List.getElem?_append_left h]
  · rename_i h
    rw [hg _ (by omega)]
    simp only [rowE, List.getD, List.getElem?_append_right (show xs.length ≤ i by omega)]
theorem getD_map {α : Type} (enc : α → List SV) (xs : List α) (i : Nat) (z : α) : (xs.map enc).getD i (enc z) = enc (xs.getD i z) := by
  simp only [List.getD_eq_getElem?_getD, List.getElem?_map]
  cases xs[i]? <;> rfl
theorem soLe_row {μ : Nat → Nat} {sz n : Nat} {f g : Nat → List SV} (h : ∀ i, i < n → mapHL μ (g i) = f i) : soLe μ (.row false sz n g) (.row false sz n f) := ⟨id, rfl, rfl, Nat.le_refl _, rfl, h⟩
theorem soLe_row' {μ : Nat → Nat} {sz n m : Nat} {f g : Nat → List SV} (hn : n ≤ m) (h : ∀ i, i < n → mapHL μ (g i) = f i) : soLe μ (.row false sz n g) (.row false sz m f) := ⟨id, rfl, rfl, hn, rfl, fun i hi => h i hi⟩
theorem soLe_blk {μ : Nat → Nat} {l m : List SV} (h : mapHL μ l = m) : soLe μ (.blk false l) (.blk false m) := ⟨id, rfl, by simp [SO.sz, ← h, mapHL_eq], Nat.le_refl _, rfl, fun i _ => h⟩
mutual
theorem mapH_plain {μ : Nat → Nat} : ∀ {x : SV}, x.plain = true → x.mapH μ = x
  | .b _, _ => rfl
  | .i _ _, _ => rfl
  | .s _, _ => rfl
  | .nils, _ => rfl
  | .fn _, _ => rfl
  | .u, _ => rfl
  | .fs _ _, _ => rfl
  | .fp _ _, _ => rfl
  | .ptr _ _ _, h => by simp [SV.plain] at h
  | .slc _ _ _, h => by simp [SV.plain] at h
  | .mp _, h => by simp [SV.plain] at h
  | .agg l, h => by simp only [SV.mapH]; rw [mapHL_plain (by simpa [SV.plain] using h)]
  | .tup l, h => by simp only [SV.mapH]; rw [mapHL_plain (by simpa [SV.plain] using h)]
  | .gd _ x, h => by simp only [SV.mapH]; rw [mapH_plain (by simpa [SV.plain] using h)]
theorem mapHL_plain {μ : Nat → Nat} : ∀ {l : List SV}, plainL l = true → mapHL μ l = l
  | [], _ => rfl
  | x :: xs, h => by
    simp only [plainL, Bool.and_eq_true] at h
    simp only [mapHL, mapH_plain h.1, mapHL_plain h.2]
end
theorem Ent.ren1 {k : Nat} {st st' : St} (l : List Nat) (h : idUpTo k l = true ∧ l.Nodup) (hctx : entCtx (muL l st.ctx.length) st.ctx l st'.ctx) (henv : entEnv (muL l st.ctx.length) st.env st'.env) : Ent k st st' := Ent.ren l h.1 h.2 hctx henv
theorem litEl_ok {y : List SV} {sz : Nat} (h : y.all okLeaf = true) (hl : y.length = sz) : ∀ j, j < 1 → (litEl y sz j).all okLeaf = true ∧ (litEl y sz j).length = sz := by
  intro j hj
  obtain rfl : j = 0 := by omega
  have : litEl y sz 0 = y := by simp only [litEl, Nat.zero_mul, List.drop_zero]; rw [← hl, List.take_length]
  rw [this]
  exact ⟨h, hl⟩
theorem soLe_push {μ : Nat → Nat} {α : Type} {enc : α → List SV} {z : α} {xs : List α} {y : α} {sz n : Nat} {f : Nat → List SV} (hp : ∀ x, plainL (enc x) = true) (hn : n = xs.length) (hf : ∀ j, j < n → f j = rowE enc z xs j) (hl : (enc y).length = sz) :
    soLe μ (.row false sz (xs ++ [y]).length (rowE enc z (xs ++ [y]))) (.row false sz (n + 1) (catF n f fun j => litEl (enc y) sz j)) :=
  soLe_row' (by simp [hn]) fun i hi => by
    rw [rowE_push hn hf hl (by simp at hi; omega)]
    exact mapHL_plain (hp _)
theorem soLe_nil {μ : Nat → Nat} {α : Type} {enc : α → List SV} {z : α} {sz : Nat} {f : Nat → List SV} : soLe μ (.row false sz ([] : List α).length (rowE enc z [])) (.row false sz 0 f) :=
  soLe_row fun i hi => absurd hi (Nat.not_lt_zero _)
theorem soLe_same {μ : Nat → Nat} {α : Type} {enc : α → List SV} {z : α} {xs : List α} {sz n : Nat} (hp : ∀ x, plainL (enc x) = true) : soLe μ (.row false sz n (rowE enc z xs)) (.row false sz n (rowE enc z xs)) :=
  soLe_row fun i hi => mapHL_plain (hp _)
open Go.Pl in
theorem soLe_mark {μ : Nat → Nat} {α : Type} {enc : α → List SV} {z : α} {g : Int → α} {c k : Int} {a : List α} {i sz n : Nat} {f : Nat → List SV} (hp : ∀ x, plainL (enc x) = true) (hf : ∀ j, j < n → f j = if j = i then enc (g (k + c * i)) else rowE enc z (mkd g c k a i) j) :
    soLe μ (.row false sz n (rowE enc z (mkd g c k a (i + 1)))) (.row false sz n f) := by
  refine soLe_row fun j hj => ?_
  rw [hf j hj]
  simp only [rowE, mkd_get]
  rw [mapHL_plain (hp _)]
  by_cases h1 : j = i
  · subst h1
    rw [if_pos (by omega), if_pos rfl]
  · rw [if_neg h1]
    by_cases h2 : j < i
    · rw [if_pos (by omega), if_pos h2]
    · rw [if_neg (by omega), if_neg h2]
def strc (b : List UInt8) : List SV := [.s b]
def intc (n : Int) : List SV := [.i .i64 n]
def booc (b : Bool) : List SV := [.b b]
def bytc (b : UInt8) : List SV := [.i .u8 b.toNat]
theorem strc_inj {l m : List (List UInt8)} : l.map strc = m.map strc ↔ l = m := map_inj fun a b h => by simpa [strc] using h
theorem intc_inj {l m : List Int} : l.map intc = m.map intc ↔ l = m := map_inj fun a b h => by simpa [intc] using h
theorem booc_inj {l m : List Bool} : l.map booc = m.map booc ↔ l = m := map_inj fun a b h => by simpa [booc] using h
theorem getD_strc (a : List (List UInt8)) (i : Nat) : (a.map strc).getD i [.s []] = [.s (a.getD i [])] := getD_map strc a i []
theorem getD_intc (a : List Int) (i : Nat) : (a.map intc).getD i [.i .i64 0] = [.i .i64 (a.getD i 0)] := getD_map intc a i 0
theorem getD_booc (a : List Bool) (i : Nat) : (a.map booc).getD i [.b false] = [.b (a.getD i false)] := getD_map booc a i false
theorem getD_bytc (a : List UInt8) (i : Nat) : (a.map bytc).getD i [.i .u8 0] = [.i .u8 (a.getD i 0).toNat] := getD_map bytc a i 0
theorem rowE_str {a : List (List UInt8)} {i : Nat} : rowE strc [] a i = [.s (a.getD i [])] := id rfl
theorem rowE_int {a : List Int} {i : Nat} : rowE intc 0 a i = [.i .i64 (a.getD i 0)] := id rfl
theorem rowE_boo {a : List Bool} {i : Nat} : rowE booc false a i = [.b (a.getD i false)] := id rfl
theorem rowE_byt {a : List UInt8} {i : Nat} : rowE bytc 0 a i = [.i .u8 (a.getD i 0).toNat] := id rfl
theorem rowH {α : Type} {enc : α → List SV} {z : α} (hp : ∀ x, plainL (enc x) = true) {μ : Nat → Nat} {r : Bool} {sz n : Nat} {a : List α} : SO.mapH μ (.row r sz n (rowE enc z a)) = .row r sz n (rowE enc z a) := by
  simp only [SO.mapH]
  congr 1
  funext i
  exact mapHL_plain (hp _)
theorem rowH_str {μ : Nat → Nat} {r : Bool} {sz n : Nat} {a : List (List UInt8)} : SO.mapH μ (.row r sz n (rowE strc [] a)) = .row r sz n (rowE strc [] a) := rowH fun _ => rfl
theorem rowH_int {μ : Nat → Nat} {r : Bool} {sz n : Nat} {a : List Int} : SO.mapH μ (.row r sz n (rowE intc 0 a)) = .row r sz n (rowE intc 0 a) := rowH fun _ => rfl
theorem rowH_boo {μ : Nat → Nat} {r : Bool} {sz n : Nat} {a : List Bool} : SO.mapH μ (.row r sz n (rowE booc false a)) = .row r sz n (rowE booc false a) := rowH fun _ => rfl
theorem rowH_byt {μ : Nat → Nat} {r : Bool} {sz n : Nat} {a : List UInt8} : SO.mapH μ (.row r sz n (rowE bytc 0 a)) = .row r sz n (rowE bytc 0 a) := rowH fun _ => rfl
theorem omap_some {μ : Nat → Nat} {o : SO} : Option.map (SO.mapH μ) (some o) = some (o.mapH μ) := id rfl
theorem XR : type_of% (And.intro (And.intro @omap_some (And.intro (And.intro @rowH_str @rowH_int) (And.intro @rowH_boo @rowH_byt))) <| And.intro (And.intro @getD_strc @getD_intc) (And.intro (And.intro @getD_booc @getD_bytc) (And.intro (And.intro @rowE_str @rowE_int) (And.intro @rowE_boo @rowE_byt)))) := And.intro (And.intro @omap_some (And.intro (And.intro @rowH_str @rowH_int) (And.intro @rowH_boo @rowH_byt))) <| And.intro (And.intro @getD_strc @getD_intc) (And.intro (And.intro @getD_booc @getD_bytc) (And.intro (And.intro @rowE_str @rowE_int) (And.intro @rowE_boo @rowE_byt)))
theorem muL_nil {n h : Nat} : muL [] n h = n + h := by simp [muL]
/-- A call of a function that makes new rows: they stand behind the caller's own. -/
theorem XCalls.own {P : Program} {f : FuncId} {args : List SV} {Z : SV} {C : Ctx} (hF : FnK P f 0 args [] fun z c => z = Z ∧ c = C) (hp : plainL args = true) {kk : Nat} {st : St} {K : Sl (SV × St)}
    (hK : K.f (Z.mapH (fun h => st.ctx.length + h), ⟨st.env, st.ctx ++ C.map fun o => o.map (SO.mapH fun h => st.ctx.length + h)⟩)) : XCalls P f args kk st K := by
  have hmu : muL [] st.ctx.length = fun h => st.ctx.length + h := funext fun h => muL_nil
  refine XCall.of hF [] (by rw [mapHL_plain hp]) trivial (.inl rfl) (newRw_nil) rfl (.inl rfl) cleanC_nil ?_
  rintro z c ⟨rfl, rfl⟩
  rw [hmu]
  simp only [List.drop_nil, maskE_nil]
  unfold mergeC
  simp only [upd, List.length_nil, List.drop_zero]
  exact hK
/-- A call of a function that writes what it was handed: nothing comes to lie elsewhere. -/
theorem XCalls.mut {P : Program} {f : FuncId} {k : Nat} {args0 : List SV} {pre : Ctx} {Z : SV} {C : Ctx} (hF : FnK P f k args0 pre fun z c => z = Z ∧ c = C) (hkl : pre.length = k) (l : List Nat) {args : List SV} {kk : Nat} {st : St} {K : Sl (SV × St)}
    (hargs : mapHL (muL l st.ctx.length) args0 = args) (hmap : ctxMap (muL l st.ctx.length) st.ctx l pre) (hnd : l.Nodup)
    (hK : K.f (Z.mapH (muL l st.ctx.length), ⟨st.env, mergeC (muL l st.ctx.length) l pre C st.ctx⟩)) : XCalls P f args kk st K := by
  subst hkl
  have hl := (ctxMap_get hmap).1
  have hd : l.drop pre.length = [] := by rw [← hl]; exact List.drop_length
  refine XCall.of hF l hargs.symm hmap (.inr hnd) (by simp [newRw]) (by rw [hd]; rfl) (.inl hd) (by rw [hd]; exact cleanC_nil) ?_
  rintro z c ⟨rfl, rfl⟩
  rw [hd, maskE_nil]
  exact hK
/-- What is frozen of rows that a function has made. -/
theorem PF.ofOwn {P : Program} {f : FuncId} {args : List SV} {Z z : SV} {C : Ctx} (hF : FnK P f 0 args [] fun z c => z = Z ∧ c = C) (hp : plainL args = true) (hz : z.plain = true) (h : frzOk C Z ∧ frzV C Z = z) : PF P f args z :=
  ⟨hp, hz, hF.mono (by rintro _ _ ⟨rfl, rfl⟩; exact h)⟩
end Go.Vg
