/- Plain words for what the program's text functions compute. -/
import Derived.Test.YtjphhddbkjdbnaaDoorBaseD
import Derived.Laws.Externs
import Derived.ChangeArms
import Derived.ChangeFn
section
set_option linter.unusedVariables false
set_option linter.unusedSimpArgs false
set_option linter.unusedVariables false
set_option linter.unusedSimpArgs false
namespace Go.Pl
abbrev Bs := List UInt8
/-- A part of a text. -/
def sub (s : Bs) (a b : Nat) : Bs := (s.take b).drop a
end Go.Pl
end
section
set_option linter.unusedVariables false
set_option linter.unusedSimpArgs false
namespace Go.Vg
set_option linter.unusedSectionVars false
variable [Go.Vg.Glob]
set_option linter.unusedVariables false
end Go.Vg
end
section
set_option linter.unusedVariables false
set_option linter.unusedSimpArgs false
namespace Go.Pl
def dec (n : Nat) : List UInt8 := if h : n < 10 then [UInt8.ofNat (48 + n)] else dec (n / 10) ++ [UInt8.ofNat (48 + n % 10)]
termination_by n
decreasing_by omega
theorem dec_eq (n : Nat) : dec n = if n < 10 then [UInt8.ofNat (48 + n)] else dec (n / 10) ++ [UInt8.ofNat (48 + n % 10)] := by
  rw [dec]; split <;> rfl
theorem dec_length (n : Nat) : (dec n).length ≤ n + 1 := by
  induction n using Nat.strongRecOn with
  | _ n ih =>
    rw [dec_eq]
    split
    · simp
    · have := ih (n / 10) (by omega)
      simp
      omega
def mtx (k : Int) : List UInt8 := if k ≤ 0 then [109, 48] else 109 :: dec k.toNat
/-- What is behind the first digits: 'm' is still to be written ahead of 'out'. -/
def DecInv (n m : Nat) (out : List UInt8) : Prop := m ≤ n ∧ if m = 0 then out = dec n else dec m ++ out = dec n
theorem DecInv.step {n m : Nat} {out : List UInt8} (h : DecInv n m out) (hm : 0 < m) : DecInv n (m / 10) (UInt8.ofNat (48 + m % 10) :: out) := by
  unfold DecInv at *
  rw [if_neg (by omega)] at h
  refine ⟨by omega, ?_⟩
  rw [dec_eq m] at h
  split
  · rename_i h0
    rw [if_pos (by omega)] at h
    rw [show m % 10 = m by omega]
    simpa using h.2
  · rw [if_neg (by omega)] at h
    simpa using h.2
theorem DecInv.len {n m : Nat} {out : List UInt8} (h : DecInv n m out) : out.length ≤ n + 1 := by
  have := dec_length n
  unfold DecInv at h
  split at h
  · rw [h.2]; exact this
  · have h2 := congrArg List.length h.2
    simp at h2
    omega
/-- A row of marks. -/
def mkL {α : Type} (g : Int → α) (c : Int) : Int → Nat → List α
  | _, 0 => []
  | k, n + 1 => g k :: mkL g c (k + c) n
theorem mkL_length {α : Type} {g : Int → α} {c : Int} : ∀ {n : Nat} {k : Int}, (mkL g c k n).length = n
  | 0, _ => rfl
  | n + 1, k => by simp [mkL, mkL_length]
theorem mkL_get {α : Type} {g : Int → α} {c : Int} (z : α) : ∀ {n : Nat} {k : Int} {j : Nat}, j < n → (mkL g c k n).getD j z = g (k + c * j)
  | 0, _, j, h => by omega
  | n + 1, k, 0, _ => by simp [mkL]
  | n + 1, k, j + 1, h => by
    have := mkL_get (g := g) (c := c) z (n := n) (k := k + c) (j := j) (by omega)
    simp only [mkL, List.getD_cons_succ, this]
    congr 1
    rw [Int.natCast_add, Int.mul_add]
    omega
/-- A row of which a beginning is marked. -/
def mkd {α : Type} (g : Int → α) (c k : Int) (a : List α) (i : Nat) : List α := mkL g c k i ++ a.drop i
theorem mkd_get {α : Type} {g : Int → α} {c k : Int} {a : List α} {i : Nat} (z : α) (j : Nat) : (mkd g c k a i).getD j z = if j < i then g (k + c * j) else a.getD j z := by
  unfold mkd
  split
  · rename_i h
    have := mkL_get (g := g) (c := c) z (n := i) (k := k) h
    rw [← this]
    simp only [List.getD_eq_getElem?_getD]
    rw [List.getElem?_append_left (by rw [mkL_length]; exact h)]
  · rename_i h
    simp only [List.getD_eq_getElem?_getD]
    rw [List.getElem?_append_right (by rw [mkL_length]; omega), mkL_length, List.getElem?_drop, show i + (j - i) = j by omega]
end Go.Pl
end
section
set_option linter.unusedVariables false
set_option linter.unusedSimpArgs false
namespace Go.Vg
set_option linter.unusedSectionVars false
variable [Go.Vg.Glob]
set_option linter.unusedVariables false
set_option linter.unusedSimpArgs false
def rowE {α : Type} (enc : α → List SV) (z : α) (xs : List α) : Nat → List SV := fun j => enc (xs.getD j z)
theorem rowE_list {α : Type} {enc : α → List SV} {z : α} {xs : List α} {n : Nat} (h : n = xs.length) : rowList (rowE enc z xs) 0 n = xs.map enc := by
  subst h
  apply List.ext_getElem?
  intro j
  unfold rowList rowE
  by_cases hj : j < xs.length
  · simp [hj, List.getD]
  · simp [hj]
theorem rowE_part {α : Type} {enc : α → List SV} {z : α} {xs : List α} {lo n : Nat} (h : lo + n ≤ xs.length) : rowList (rowE enc z xs) lo n = ((xs.drop lo).take n).map enc := by
  apply List.ext_getElem?
  intro j
  unfold rowList rowE
  by_cases hj : j < n
  · have h1 : lo + j < xs.length := by omega
    simp [hj, List.getD, List.getElem?_eq_getElem h1, h1, List.getElem?_take]
  · simp [hj, List.getElem?_take]
theorem rowE_push {α : Type} {enc : α → List SV} {z : α} {xs : List α} {y : α} {sz n : Nat} {f : Nat → List SV} (hn : n = xs.length) (hf : ∀ j, j < n → f j = rowE enc z xs j) (hl : (enc y).length = sz) {i : Nat} (hi : i < n + 1) :
    catF n f (litEl (enc y) sz) i = rowE enc z (xs ++ [y]) i := by
  subst hn
  unfold catF rowE
  split
  · rename_i h
    rw [hf i h]
    simp [rowE, List.getD, List.getElem?_append_left h]
  · have : i = xs.length := by omega
    subst this
    have h1 : (xs ++ [y]).getD xs.length z = y := by simp [List.getD]
    rw [h1, Nat.sub_self]
    simp only [litEl, Nat.zero_mul, List.drop_zero]
    rw [← hl, List.take_length]
theorem rowE_app {α : Type} {enc : α → List SV} {z : α} {xs ys : List α} {n m : Nat} {f g : Nat → List SV} (hn : n = xs.length) (hm : m = ys.length) (hf : ∀ j, j < n → f j = rowE enc z xs j) (hg : ∀ j, j < m → g j = rowE enc z ys j) {i : Nat} (hi : i < n + m) :
    catF n f g i = rowE enc z (xs ++ ys) i := by
  subst hn hm
  unfold catF
  split
  · rename_i h
    rw [hf i h]
    simp [rowE, List.getD, List.getElem?_append_left h]
  · rename_i h
    rw [hg _ (by omega)]
    simp only [rowE, List.getD, List.getElem?_append_right (show xs.length ≤ i by omega)]
theorem getD_map {α : Type} (enc : α → List SV) (xs : List α) (i : Nat) (z : α) : (xs.map enc).getD i (enc z) = enc (xs.getD i z) := by
  simp only [List.getD_eq_getElem?_getD, List.getElem?_map]
  cases xs[i]? <;> rfl
theorem soLe_row {μ : Nat → Nat} {sz n : Nat} {f g : Nat → List SV} (h : ∀ i, i < n → mapHL μ (g i) = f i) : soLe μ (.row false sz n g) (.row false sz n f) := ⟨id, rfl, rfl, Nat.le_refl _, rfl, h⟩
theorem soLe_row' {μ : Nat → Nat} {sz n m : Nat} {f g : Nat → List SV} (hn : n ≤ m) (h : ∀ i, i < n → mapHL μ (g i) = f i) : soLe μ (.row false sz n g) (.row false sz m f) := ⟨id, rfl, rfl, hn, rfl, fun i hi => h i hi⟩
theorem soLe_blk {μ : Nat → Nat} {l m : List SV} (h : mapHL μ l = m) : soLe μ (.blk false l) (.blk false m) := ⟨id, rfl, by simp [SO.sz, ← h, mapHL_eq], Nat.le_refl _, rfl, fun i _ => h⟩
mutual
theorem mapH_plain {μ : Nat → Nat} : ∀ {x : SV}, x.plain = true → x.mapH μ = x
  | .b _, _ => rfl
  | .i _ _, _ => rfl
  | .s _, _ => rfl
  | .nils, _ => rfl
  | .fn _, _ => rfl
  | .u, _ => rfl
  | .fs _ _, _ => rfl
  | .fp _ _, _ => rfl
  | .ptr _ _ _, h => by simp [SV.plain] at h
  | .slc _ _ _, h => by simp [SV.plain] at h
  | .mp _, h => by simp [SV.plain] at h
  | .agg l, h => by simp only [SV.mapH]; rw [mapHL_plain (by simpa [SV.plain] using h)]
  | .tup l, h => by simp only [SV.mapH]; rw [mapHL_plain (by simpa [SV.plain] using h)]
  | .gd _ x, h => by simp only [SV.mapH]; rw [mapH_plain (by simpa [SV.plain] using h)]
theorem mapHL_plain {μ : Nat → Nat} : ∀ {l : List SV}, plainL l = true → mapHL μ l = l
  | [], _ => rfl
  | x :: xs, h => by
    simp only [plainL, Bool.and_eq_true] at h
    simp only [mapHL, mapH_plain h.1, mapHL_plain h.2]
end
theorem Ent.ren1 {k : Nat} {st st' : St} (l : List Nat) (h : idUpTo k l = true ∧ l.Nodup) (hctx : entCtx (muL l st.ctx.length) st.ctx l st'.ctx) (henv : entEnv (muL l st.ctx.length) st.env st'.env) : Ent k st st' := Ent.ren l h.1 h.2 hctx henv
theorem litEl_ok {y : List SV} {sz : Nat} (h : y.all okLeaf = true) (hl : y.length = sz) : ∀ j, j < 1 → (litEl y sz j).all okLeaf = true ∧ (litEl y sz j).length = sz := by
  intro j hj
  obtain rfl : j = 0 := by omega
  have : litEl y sz 0 = y := by simp only [litEl, Nat.zero_mul, List.drop_zero]; rw [← hl, List.take_length]
  rw [this]
  exact ⟨h, hl⟩
theorem soLe_push {μ : Nat → Nat} {α : Type} {enc : α → List SV} {z : α} {xs : List α} {y : α} {sz n : Nat} {f : Nat → List SV} (hp : ∀ x, plainL (enc x) = true) (hn : n = xs.length) (hf : ∀ j, j < n → f j = rowE enc z xs j) (hl : (enc y).length = sz) :
    soLe μ (.row false sz (xs ++ [y]).length (rowE enc z (xs ++ [y]))) (.row false sz (n + 1) (catF n f fun j => litEl (enc y) sz j)) :=
  soLe_row' (by simp [hn]) fun i hi => by
    rw [rowE_push hn hf hl (by simp at hi; omega)]
    exact mapHL_plain (hp _)
theorem soLe_nil {μ : Nat → Nat} {α : Type} {enc : α → List SV} {z : α} {sz : Nat} {f : Nat → List SV} : soLe μ (.row false sz ([] : List α).length (rowE enc z [])) (.row false sz 0 f) :=
  soLe_row fun i hi => absurd hi (Nat.not_lt_zero _)
theorem soLe_same {μ : Nat → Nat} {α : Type} {enc : α → List SV} {z : α} {xs : List α} {sz n : Nat} (hp : ∀ x, plainL (enc x) = true) : soLe μ (.row false sz n (rowE enc z xs)) (.row false sz n (rowE enc z xs)) :=
  soLe_row fun i hi => mapHL_plain (hp _)
open Go.Pl in
theorem soLe_mark {μ : Nat → Nat} {α : Type} {enc : α → List SV} {z : α} {g : Int → α} {c k : Int} {a : List α} {i sz n : Nat} {f : Nat → List SV} (hp : ∀ x, plainL (enc x) = true) (hf : ∀ j, j < n → f j = if j = i then enc (g (k + c * i)) else rowE enc z (mkd g c k a i) j) :
    soLe μ (.row false sz n (rowE enc z (mkd g c k a (i + 1)))) (.row false sz n f) := by
  refine soLe_row fun j hj => ?_
  rw [hf j hj]
  simp only [rowE, mkd_get]
  rw [mapHL_plain (hp _)]
  by_cases h1 : j = i
  · subst h1
    rw [if_pos (by omega), if_pos rfl]
  · rw [if_neg h1]
    by_cases h2 : j < i
    · rw [if_pos (by omega), if_pos h2]
    · rw [if_neg (by omega), if_neg h2]
def strc (b : List UInt8) : List SV := [.s b]
def intc (n : Int) : List SV := [.i .i64 n]
def booc (b : Bool) : List SV := [.b b]
def bytc (b : UInt8) : List SV := [.i .u8 b.toNat]
theorem strc_inj {l m : List (List UInt8)} : l.map strc = m.map strc ↔ l = m := map_inj fun a b h => by simpa [strc] using h
theorem intc_inj {l m : List Int} : l.map intc = m.map intc ↔ l = m := map_inj fun a b h => by simpa [intc] using h
theorem booc_inj {l m : List Bool} : l.map booc = m.map booc ↔ l = m := map_inj fun a b h => by simpa [booc] using h
theorem getD_strc (a : List (List UInt8)) (i : Nat) : (a.map strc).getD i [.s []] = [.s (a.getD i [])] := getD_map strc a i []
theorem getD_intc (a : List Int) (i : Nat) : (a.map intc).getD i [.i .i64 0] = [.i .i64 (a.getD i 0)] := getD_map intc a i 0
theorem getD_booc (a : List Bool) (i : Nat) : (a.map booc).getD i [.b false] = [.b (a.getD i false)] := getD_map booc a i false
theorem getD_bytc (a : List UInt8) (i : Nat) : (a.map bytc).getD i [.i .u8 0] = [.i .u8 (a.getD i 0).toNat] := getD_map bytc a i 0
theorem rowE_str {a : List (List UInt8)} {i : Nat} : rowE strc [] a i = [.s (a.getD i [])] := id rfl
theorem rowE_int {a : List Int} {i : Nat} : rowE intc 0 a i = [.i .i64 (a.getD i 0)] := id rfl
theorem rowE_boo {a : List Bool} {i : Nat} : rowE booc false a i = [.b (a.getD i false)] := id rfl
theorem rowE_byt {a : List UInt8} {i : Nat} : rowE bytc 0 a i = [.i .u8 (a.getD i 0).toNat] := id rfl
theorem rowH {α : Type} {enc : α → List SV} {z : α} (hp : ∀ x, plainL (enc x) = true) {μ : Nat → Nat} {r : Bool} {sz n : Nat} {a : List α} : SO.mapH μ (.row r sz n (rowE enc z a)) = .row r sz n (rowE enc z a) := by
  simp only [SO.mapH]
  congr 1
  funext i
  exact mapHL_plain (hp _)
theorem rowH_str {μ : Nat → Nat} {r : Bool} {sz n : Nat} {a : List (List UInt8)} : SO.mapH μ (.row r sz n (rowE strc [] a)) = .row r sz n (rowE strc [] a) := rowH fun _ => rfl
theorem rowH_int {μ : Nat → Nat} {r : Bool} {sz n : Nat} {a : List Int} : SO.mapH μ (.row r sz n (rowE intc 0 a)) = .row r sz n (rowE intc 0 a) := rowH fun _ => rfl
theorem rowH_boo {μ : Nat → Nat} {r : Bool} {sz n : Nat} {a : List Bool} : SO.mapH μ (.row r sz n (rowE booc false a)) = .row r sz n (rowE booc false a) := rowH fun _ => rfl
theorem rowH_byt {μ : Nat → Nat} {r : Bool} {sz n : Nat} {a : List UInt8} : SO.mapH μ (.row r sz n (rowE bytc 0 a)) = .row r sz n (rowE bytc 0 a) := rowH fun _ => rfl
theorem omap_some {μ : Nat → Nat} {o : SO} : Option.map (SO.mapH μ) (some o) = some (o.mapH μ) := id rfl
theorem XR : type_of% (And.intro (And.intro @omap_some (And.intro (And.intro @rowH_str @rowH_int) (And.intro @rowH_boo @rowH_byt))) <| And.intro (And.intro @getD_strc @getD_intc) (And.intro (And.intro @getD_booc @getD_bytc) (And.intro (And.intro @rowE_str @rowE_int) (And.intro @rowE_boo @rowE_byt)))) := And.intro (And.intro @omap_some (And.intro (And.intro @rowH_str @rowH_int) (And.intro @rowH_boo @rowH_byt))) <| And.intro (And.intro @getD_strc @getD_intc) (And.intro (And.intro @getD_booc @getD_bytc) (And.intro (And.intro @rowE_str @rowE_int) (And.intro @rowE_boo @rowE_byt)))
theorem muL_nil {n h : Nat} : muL [] n h = n + h := by simp [muL]
/-- A call of a function that makes new rows: they stand behind the caller's own. -/
theorem XCalls.own {P : Program} {f : FuncId} {args : List SV} {Z : SV} {C : Ctx} (hF : FnK P f 0 args [] fun z c => z = Z ∧ c = C) (hp : plainL args = true) {kk : Nat} {st : St} {K : Sl (SV × St)}
    (hK : K.f (Z.mapH (fun h => st.ctx.length + h), ⟨st.env, st.ctx ++ C.map fun o => o.map (SO.mapH fun h => st.ctx.length + h)⟩)) : XCalls P f args kk st K := by
  have hmu : muL [] st.ctx.length = fun h => st.ctx.length + h := funext fun h => muL_nil
  refine XCall.of hF [] (by rw [mapHL_plain hp]) trivial (.inl rfl) (newRw_nil) rfl (.inl rfl) cleanC_nil ?_
  rintro z c ⟨rfl, rfl⟩
  rw [hmu]
  simp only [List.drop_nil, maskE_nil]
  unfold mergeC
  simp only [upd, List.length_nil, List.drop_zero]
  exact hK
/-- A call of a function that writes what it was handed: nothing comes to lie elsewhere. -/
theorem XCalls.mut {P : Program} {f : FuncId} {k : Nat} {args0 : List SV} {pre : Ctx} {Z : SV} {C : Ctx} (hF : FnK P f k args0 pre fun z c => z = Z ∧ c = C) (hkl : pre.length = k) (l : List Nat) {args : List SV} {kk : Nat} {st : St} {K : Sl (SV × St)}
    (hargs : mapHL (muL l st.ctx.length) args0 = args) (hmap : ctxMap (muL l st.ctx.length) st.ctx l pre) (hnd : l.Nodup)
    (hK : K.f (Z.mapH (muL l st.ctx.length), ⟨st.env, mergeC (muL l st.ctx.length) l pre C st.ctx⟩)) : XCalls P f args kk st K := by
  subst hkl
  have hl := (ctxMap_get hmap).1
  have hd : l.drop pre.length = [] := by rw [← hl]; exact List.drop_length
  refine XCall.of hF l hargs.symm hmap (.inr hnd) (by simp [newRw]) (by rw [hd]; rfl) (.inl hd) (by rw [hd]; exact cleanC_nil) ?_
  rintro z c ⟨rfl, rfl⟩
  rw [hd, maskE_nil]
  exact hK
/-- What is frozen of rows that a function has made. -/
theorem PF.ofOwn {P : Program} {f : FuncId} {args : List SV} {Z z : SV} {C : Ctx} (hF : FnK P f 0 args [] fun z c => z = Z ∧ c = C) (hp : plainL args = true) (hz : z.plain = true) (h : frzOk C Z ∧ frzV C Z = z) : PF P f args z :=
  ⟨hp, hz, hF.mono (by rintro _ _ ⟨rfl, rfl⟩; exact h)⟩
end Go.Vg
end
section
set_option linter.unusedVariables false
set_option linter.unusedSimpArgs false
namespace Go.Pl
set_option linter.unusedVariables false
set_option linter.unusedSimpArgs false
structure Ev where
  kind : Int
  style : Int
  flag : Bool
  text : Bs
  anchor : Bs
  tag : Bs
  pos : Int
  code : Int
deriving DecidableEq
end Go.Pl
namespace Go.Pl
end Go.Pl
namespace Go.Pl
end Go.Pl
namespace Go.Pl
end Go.Pl
end
section
set_option linter.unusedVariables false
set_option linter.unusedSimpArgs false
namespace Go.Vg
set_option linter.unusedSectionVars false
variable [Go.Vg.Glob]
open Go.Pl
set_option linter.unusedVariables false
set_option linter.unusedSimpArgs false
end Go.Vg
end
section
set_option linter.unusedVariables false
set_option linter.unusedSimpArgs false
namespace Go.Vg
set_option linter.unusedSectionVars false
variable [Go.Vg.Glob]
set_option linter.unusedVariables false
set_option linter.unusedSimpArgs false
def nlV (x y : SV) : Prop := x = y ∨ (x = .nils ∧ ∃ h lo, y = .slc h lo 0)
def nlL : List SV → List SV → Prop
  | [], [] => True
  | x :: xs, y :: ys => nlV x y ∧ nlL xs ys
  | _, _ => False
def nlO : Option SO → Option SO → Prop
  | some (.blk r cs), some (.blk q ds) => r = q ∧ nlL cs ds
  | o, p => o = p
def nlC : Ctx → Ctx → Prop
  | [], [] => True
  | o :: r, p :: q => nlO o p ∧ nlC r q
  | _, _ => False
def nlE (env : List (Tmp × SV)) : List (Tmp × SV) → Prop
  | [] => True
  | (t, x) :: r => nlV (look env t) x ∧ nlE env r
theorem nlV_rel {σ : Asg} {x y : SV} (h : nlV x y) {v : Value} (hr : rel σ x v) : rel σ y v := by
  rcases h with rfl | ⟨rfl, q, lo, rfl⟩
  · exact hr
  · simp only [rel] at hr ⊢
    exact ⟨none, 0, hr, Nat.le_refl _, .inl rfl⟩
theorem nlE_get {env : List (Tmp × SV)} : ∀ {e : List (Tmp × SV)}, nlE env e → ∀ t, look e t = .u ∨ nlV (look env t) (look e t)
  | [], _, t => .inl rfl
  | (u, x) :: r, h, t => by
    simp only [nlE] at h
    simp only [look]
    by_cases hu : u = t
    · rw [if_pos hu]; subst hu; exact .inr h.1
    · rw [if_neg hu]; exact nlE_get h.2 t
theorem nlL_get {σ : Asg} : ∀ {xs ys : List SV}, nlL xs ys → xs.length = ys.length ∧ ∀ k v, rel σ (xs.getD k .u) v → rel σ (ys.getD k .u) v
  | [], [], _ => ⟨rfl, fun k v h => h⟩
  | x :: xs, y :: ys, h => by
    simp only [nlL] at h
    obtain ⟨h1, h2⟩ := nlL_get (σ := σ) h.2
    refine ⟨by simp [h1], fun k v hv => ?_⟩
    cases k with
    | zero => simp only [List.getD_cons_zero] at hv ⊢; exact nlV_rel h.1 hv
    | succ k => simp only [List.getD_cons_succ] at hv ⊢; exact h2 k v hv
  | [], _ :: _, h => by simp [nlL] at h
  | _ :: _, [], h => by simp [nlL] at h
theorem nlO_sat {σ : Asg} {w : World} {h : Nat} : ∀ {o p : Option SO}, nlO o p → ∀ {q : SO}, p = some q → ∃ r, o = some r ∧ r.ro = q.ro ∧ (objSat σ w h r → objSat σ w h q) := by
  intro o p hn q hq
  subst hq
  unfold nlO at hn
  split at hn
  · rename_i r cs q' ds heq
    cases heq
    obtain ⟨rfl, hl⟩ := hn
    refine ⟨_, rfl, rfl, fun hs => ?_⟩
    obtain ⟨hlen, hg⟩ := nlL_get (σ := σ) hl
    simp only [objSat, SO.isMap] at hs ⊢
    rcases hs with ⟨h1, h2⟩ | ⟨L, c, e, fr, h1, h2⟩
    · exact .inl ⟨h1, h2⟩
    · have h3 := h2.lsz; have h4 := h2.fits; have h5 := h2.cell
      simp only [SO.sz, SO.n, SO.el] at h3 h4 h5
      refine .inr ⟨L, c, e, fr, h1, h2.heap, by simp only [SO.sz]; omega, h2.room, by simp only [SO.sz, SO.n]; omega, fun i k hi hk => ?_, h2.free⟩
      simp only [SO.sz, SO.el, SO.n] at hi hk ⊢
      obtain ⟨v, hv, hr⟩ := h5 i k hi (by omega)
      refine ⟨v, by rw [← hlen]; exact hv, hg k v hr⟩
  · exact ⟨q, hn, rfl, id⟩
theorem nlC_at : ∀ {c d : Ctx}, nlC c d → c.length = d.length ∧ ∀ h, nlO (c.at h) (d.at h)
  | [], [], _ => ⟨rfl, fun h => by simp [Ctx.at, nlO]⟩
  | o :: r, p :: q, h => by
    simp only [nlC] at h
    obtain ⟨h1, h2⟩ := nlC_at h.2
    refine ⟨by simp [h1], fun k => ?_⟩
    cases k with
    | zero => rw [at_cons_zero, at_cons_zero]; exact h.1
    | succ k => rw [at_cons_succ, at_cons_succ]; exact h2 k
  | [], _ :: _, h => by simp [nlC] at h
  | _ :: _, [], h => by simp [nlC] at h
/-- Rows without elements come out of nothing; what was nil may lie in them. -/
theorem Ent.nl {k : Nat} {env env' : List (Tmp × SV)} {c d : Ctx} (es : List (Nat × (Nat → List SV))) (he : nlE env env') (hc : nlC c d) : Ent k ⟨env, c⟩ ⟨env', d ++ es.map fun p => some (.row false p.1 0 p.2)⟩ := by
  intro A σ a w hk hR
  obtain ⟨hlen, hat⟩ := nlC_at hc
  have old : ∀ h, h < d.length → Ctx.at (d ++ es.map fun p => some (.row false p.1 0 p.2)) h = d.at h := by
    intro h hh
    simp only [Ctx.at, List.getD_eq_getElem?_getD, List.getElem?_append_left hh]
  have new : ∀ h o, d.length ≤ h → Ctx.at (d ++ es.map fun p => some (.row false p.1 0 p.2)) h = some o → o.n = 0 ∧ o.isMap = false := by
    intro h o hh ho
    simp only [Ctx.at, List.getD_eq_getElem?_getD, List.getElem?_append_right hh, List.getElem?_map] at ho
    cases hx : es[h - d.length]? with
    | none => rw [hx] at ho; cases ho
    | some p => rw [hx] at ho; simp at ho; subst ho; exact ⟨rfl, rfl⟩
  have get : ∀ h o, Ctx.at (d ++ es.map fun p => some (.row false p.1 0 p.2)) h = some o → (h < c.length ∧ ∃ r, c.at h = some r ∧ r.ro = o.ro ∧ (objSat σ w h r → objSat σ w h o)) ∨ (σ h = none ∧ objSat σ w h o) := by
    intro h o ho
    rcases Nat.lt_or_ge h d.length with hh | hh
    · rw [old h hh] at ho
      obtain ⟨r, h1, h2, h3⟩ := nlO_sat (σ := σ) (w := w) (h := h) (hat h) ho
      exact .inl ⟨by omega, r, h1, h2, h3⟩
    · have hn : σ h = none := hR.sat.beyond h (by simp only; omega)
      obtain ⟨h1, h2⟩ := new h o hh ho
      exact .inr ⟨hn, by simp only [objSat, h2]; exact .inl ⟨h1, hn⟩⟩
  refine ⟨σ, hR.defers, hR.size, fun t => ?_, ⟨fun h o ho => ?_, fun h h' o o' L L' hne e1 e2 hro s1 s2 => ?_, fun h hh => ?_, hR.sat.inHeap, hR.sat.frz, fun h o L e hro s => ?_, hR.sat.glb⟩, hR.fr, fun h o L e hro s => ?_, hR.base, ?_⟩
  · rcases nlE_get he t with h | h
    · rw [h]; simp [rel]
    · exact nlV_rel h (hR.env t)
  · rcases get h o ho with ⟨_, r, h1, _, h3⟩ | ⟨_, h3⟩
    · exact h3 (hR.sat.obj h r h1)
    · exact h3
  · rcases get h o e1 with ⟨_, r, h1, h2, _⟩ | ⟨h1, _⟩
    · rcases get h' o' e2 with ⟨_, r', h1', _, _⟩ | ⟨h1', _⟩
      · exact hR.sat.apart h h' r r' L L' hne h1 h1' (by rw [h2]; exact hro) s1 s2
      · rw [h1'] at s2; cases s2
    · rw [h1] at s1; cases s1
  · exact hR.sat.beyond h (by simp only [List.length_append] at hh ⊢; omega)
  · rcases get h o e with ⟨_, r, h1, h2, _⟩ | ⟨h1, _⟩
    · exact hR.sat.frzA h r L h1 (by rw [h2]; exact hro) s
    · rw [h1] at s; cases s
  · rcases get h o e with ⟨_, r, h1, h2, _⟩ | ⟨h1, _⟩
    · exact hR.own h r L h1 (by rw [h2]; exact hro) s
    · rw [h1] at s; cases s
  · have := hR.klen
    simp only [List.length_append] at this ⊢
    omega
theorem isCut_region {cut : List Nat} {i : Nat} {a : Array Oper} {b : Bool} : isCut cut (.region i a b) = cut.contains i := id rfl
theorem isCut_block {cut : List Nat} {i : Nat} {x : Code} : isCut cut (.block i x) = cut.contains (1000 + i) := id rfl
theorem isCut_seq {cut : List Nat} {x y : Code} : isCut cut (.seq x y) = isCut cut x := id rfl
theorem isCut_loop {cut : List Nat} {x : Code} : isCut cut (.loop x) = isCut cut x := id rfl
theorem isCut_cond {cut : List Nat} {c : Operand} {x y : Code} : isCut cut (.cond c x y) = false := id rfl
theorem isCut_skip {cut : List Nat} : isCut cut .skip = false := id rfl
theorem isCut_ret {cut : List Nat} : isCut cut .ret = false := id rfl
theorem isCut_exit {cut : List Nat} {i : Nat} : isCut cut (.exit i) = false := id rfl
theorem XCut : type_of% (And.intro (And.intro @vc_cut @isCut_region) (And.intro (And.intro @isCut_block @isCut_seq) (And.intro (And.intro @isCut_loop @isCut_cond) (And.intro @isCut_skip (And.intro @isCut_ret @isCut_exit))))) := And.intro (And.intro @vc_cut @isCut_region) (And.intro (And.intro @isCut_block @isCut_seq) (And.intro (And.intro @isCut_loop @isCut_cond) (And.intro @isCut_skip (And.intro @isCut_ret @isCut_exit))))
end Go.Vg
namespace Go.Vg
set_option linter.unusedSectionVars false
variable [Go.Vg.Glob]
/-- A function's end, where its state may first be read anew (what is nil as an empty row). -/
def FinX (te : TE) (k pl : Nat) (rs : List ResultVar) (Z : SV) (C : Ctx) (st : St) : Prop := ∃ st', Ent k st st' ∧ FinE te k pl rs Z C st'
theorem FnK.ofX {cf : Cf} (hcf : cf.ok) {f : FuncId} {fn : Func} {c : Code} (hf : cf.P.funcs[f]? = some fn) (hb : fn.body = some c) (hname : (fn.name == "runtime.NumGoroutine") = false)
    (hnt : fn.ntmps = cf.nt) {args : List SV} {pre : Ctx} (hlen : args.length ≤ cf.nt) (hk : cf.k ≤ pre.length) {rs : List ResultVar} (hrs : fn.results.toList = rs) {Z : SV} {C : Ctx} (n : Nat)
    (h : vc cf (FinX cf.te cf.k pre.length rs Z C) n [.code c] ⟨entry 0 args, pre⟩) : FnK cf.P f cf.k args pre fun z c => z = Z ∧ c = C := by
  refine FnK.ofG hcf hf hb hname hnt hlen hk hrs (fun A σ0 st0 a w hAk _ hF hR0 => ?_) n h
  obtain ⟨st, hEnt, l, ⟨h1, h2⟩, h3, h4, h5, h6⟩ := hF
  obtain ⟨σ, hR⟩ := hEnt A σ0 a w hAk hR0
  rw [← hrs] at h4
  obtain ⟨z, v, hz, hv, hr⟩ := resQ_sound (P := cf.P) hcf.te hR h4
  subst hz
  exact ⟨Z, v, C, σ.ren (muL l st.ctx.length), ⟨rfl, rfl⟩, hv, (rel_mapH _ _ _ _).1 hr, Rel.ren (st' := ⟨[], C⟩) l h1 h2 h3 trivial hAk hR, h5, h6⟩
theorem FinX.of {te : TE} {k pl : Nat} {rs : List ResultVar} {Z : SV} {C : Ctx} {st : St} (h : FinE te k pl rs Z C st) : FinX te k pl rs Z C st := ⟨st, Ent.refl _ _, h⟩
end Go.Vg
end
section
set_option linter.unusedVariables false
set_option linter.unusedSimpArgs false
namespace Go.Vg
set_option linter.unusedSectionVars false
variable [Go.Vg.Glob]
set_option linter.unusedVariables false
set_option linter.unusedSimpArgs false
open Go.RowKit
-- Values that look at no frozen memory.
mutual
def SV.nf : SV → Bool
  | .agg l => nfL l
  | .tup l => nfL l
  | .gd _ x => SV.nf x
  | .fs _ _ => false
  | .fp _ _ => false
  | _ => true
def nfL : List SV → Bool
  | [] => true
  | x :: xs => SV.nf x && nfL xs
end
mutual
theorem rel_nf {σ σ' : Asg} (hl : ∀ h, σ' h = σ h) : ∀ {x : SV} {v : Value}, x.nf = true → rel σ x v → rel σ' x v
  | .b _, _, _, r => by simpa [rel] using r
  | .i _ _, _, _, r => by simpa [rel] using r
  | .s _, _, _, r => by simpa [rel] using r
  | .nils, _, _, r => by simpa [rel] using r
  | .fn _, _, _, r => by simpa [rel] using r
  | .u, _, _, r => by simp [rel]
  | .ptr _ _ _, _, _, r => by simpa [rel, hl] using r
  | .slc _ _ _, _, _, r => by simpa [rel, hl] using r
  | .mp _, _, _, r => by simpa [rel, hl] using r
  | .fs _ _, _, h, _ => by simp [SV.nf] at h
  | .fp _ _, _, h, _ => by simp [SV.nf] at h
  | .agg l, _, h, r => by
    simp only [rel, SV.nf] at r h ⊢
    obtain ⟨cs, e, r⟩ := r
    exact ⟨cs, e, relL_nf hl h r⟩
  | .tup l, _, h, r => by
    simp only [rel, SV.nf] at r h ⊢
    obtain ⟨cs, e, r⟩ := r
    exact ⟨cs, e, relL_nf hl h r⟩
  | .gd _ x, _, h, r => by
    simp only [rel, SV.nf] at r h ⊢
    exact ⟨fun g => rel_nf hl h (r.1 g), r.2⟩
theorem relL_nf {σ σ' : Asg} (hl : ∀ h, σ' h = σ h) : ∀ {x : List SV} {v : List Value}, nfL x = true → relL σ x v → relL σ' x v
  | [], _, _, r => by simpa [relL] using r
  | _ :: _, _, h, r => by
    simp only [relL, nfL, Bool.and_eq_true] at r h ⊢
    obtain ⟨v, q, e, r1, r2⟩ := r
    exact ⟨v, q, e, rel_nf hl h.1 r1, relL_nf hl h.2 r2⟩
end
theorem nfL_getD {l : List SV} (h : nfL l = true) (k : Nat) : (l.getD k .u).nf = true := by
  induction l generalizing k with
  | nil => rfl
  | cons x xs ih =>
    simp only [nfL, Bool.and_eq_true] at h
    cases k with
    | zero => exact h.1
    | succ k => exact ih h.2 k
/-- An object whose elements look at no frozen memory. -/
def nfO (o : SO) : Prop := ∀ i, i < o.n → nfL (o.el i) = true
theorem entsRel_nf {σ σ' : Asg} : ∀ {ps : List (SV × SV)} {es : List MapEntry}, (∀ p ∈ ps, p.1.bit = true ∧ p.2.bit = true) → entsRel σ ps es → entsRel σ' ps es
  | [], _, _, h => h
  | p :: ps, es, hp, h => by
    simp only [entsRel] at h ⊢
    obtain ⟨e, r, h1, h2, h3, h4⟩ := h
    have := hp p (by simp)
    exact ⟨e, r, h1, rel_bit this.1 h2, rel_bit this.2 h3, entsRel_nf (fun q hq => hp q (by simp [hq])) h4⟩
theorem objSat_nf {σ σ' : Asg} (hl : ∀ h, σ' h = σ h) {w : World} {h : Nat} {o : SO} (hn : nfO o) (hs : objSat σ w h o) : objSat σ' w h o := by
  unfold objSat at hs ⊢
  split
  · rename_i hm
    rw [hm] at hs
    simp only at hs
    obtain ⟨L, es, ck, h1, h2, h3⟩ := hs
    refine ⟨L, es, ck, by rw [hl]; exact h1, h2, entsRel_nf ?_ h3⟩
    intro p hp
    cases o with
    | row => simp [SO.isMap] at hm
    | blk => simp [SO.isMap] at hm
    | mapS l => simp only [SO.ents, List.mem_map] at hp; obtain ⟨q, _, rfl⟩ := hp; exact ⟨rfl, rfl⟩
    | mapI l => simp only [SO.ents, List.mem_map] at hp; obtain ⟨q, _, rfl⟩ := hp; exact ⟨rfl, rfl⟩
  · rename_i hm
    rw [hm] at hs
    simp only at hs
    rcases hs with ⟨h1, h2⟩ | ⟨L, c, e, fr, h1, h2⟩
    · exact .inl ⟨h1, by rw [hl]; exact h2⟩
    · refine .inr ⟨L, c, e, fr, by rw [hl]; exact h1, h2.heap, h2.lsz, h2.room, h2.fits, fun i k hi hk => ?_, h2.free⟩
      obtain ⟨v, hv, hr⟩ := h2.cell i k hi hk
      exact ⟨v, hv, rel_nf hl (nfL_getD (hn i hi) k) hr⟩
/-- A call that is lent rows of the caller's own: what it makes stands behind the caller's own. -/
theorem XCalls.lend {P : Program} {f : FuncId} {args0 : List SV} {Z : SV} {C : Ctx} (hF : FnK P f 0 args0 [] fun z c => z = Z ∧ c = C) {args : List SV} {kk : Nat} {st : St} {K : Sl (SV × St)}
    (hargs : frzVL st.ctx args = args0) (hp : plainL args0 = true) (hok : frzOkL st.ctx args) (hZ : Z.nf = true) (hC : ∀ h o, C.at h = some o → nfO o)
    (hK : K.f (Z.mapH (fun h => st.ctx.length + h), ⟨st.env, st.ctx ++ C.map fun o => o.map (SO.mapH fun h => st.ctx.length + h)⟩)) : XCalls P f args kk st K := by
  refine ⟨hF.1, fun A σ a w vs hAk hgr hR hvs => ?_⟩
  subst hargs
  have hsat0 : Sat (⟨fun _ => none, fun b => w.heap[b]?⟩ : Asg) w [] := by
    refine ⟨fun h o e => ?_, fun h h' o o' L L' _ e => ?_, fun _ _ => rfl, fun h L e => ?_, fun _ _ h => h, fun h o L e => ?_, fun b o h => hR.sat.frz b o (hR.sat.glb b o h)⟩
    · simp [Ctx.at] at e
    · simp [Ctx.at] at e
    · cases e
    · simp [Ctx.at] at e
  refine (hF.2 w ⟨fun _ => none, fun b => w.heap[b]?⟩ vs hsat0 (frzL_rel hR.sat hok hp hvs)).mono fun e w' ⟨v, z, c, σ', e1, ⟨ez, ec⟩, p⟩ => ?_
  subst ez ec
  generalize hn : st.ctx.length = n at *
  generalize hσ : (⟨fun h => if h < n then σ h else σ' (h - n), σ.fz⟩ : Asg) = σ2
  have nrw : ∀ b, ¬ rwB [] (⟨fun _ => none, fun b => w.heap[b]?⟩ : Asg) b := by
    rintro b ⟨h, o, L, e, _⟩
    simp [Ctx.at] at e
  have hold : ∀ h, h < n → σ2 h = σ h := fun h hh => by subst hσ; simp [hh]
  have hnew : ∀ h, σ2 (n + h) = σ' h := fun h => by
    subst hσ
    show (if n + h < n then σ (n + h) else σ' (n + h - n)) = σ' h
    rw [if_neg (by omega), Nat.add_sub_cancel_left]
  have hfz : σ2.fz = σ.fz := by subst hσ; rfl
  have hle : leA σ σ2 := by
    refine ⟨fun h L e => ?_, fun b o e => by rw [hfz]; exact e⟩
    rcases Nat.lt_or_ge h n with h1 | h1
    · rw [hold h h1]; exact e
    · rw [hR.sat.beyond h (by omega)] at e; cases e
  have hblk : ∀ b, b < w.heap.size → w'.heap[b]? = w.heap[b]? := fun b hb => p.fr.block b hb (nrw b)
  have ownN : ∀ h o L, z.nf = true → c.at h = some o → σ' h = some L → w.heap.size ≤ L.b := by
    intro h o L _ e s
    rcases p.own h o L e (p.new h o (Nat.zero_le _) e) s with h1 | h1
    · exact absurd h1 (nrw _)
    · exact h1
  have atN : ∀ h o, Ctx.at (st.ctx ++ c.map fun o => o.map (SO.mapH fun h => n + h)) h = some o → (h < n ∧ st.ctx.at h = some o) ∨ (∃ i o1, h = n + i ∧ c.at i = some o1 ∧ o = o1.mapH fun h => n + h) := by
    intro h o e
    simp only [Ctx.at, List.getD_eq_getElem?_getD] at e ⊢
    rcases Nat.lt_or_ge h n with h1 | h1
    · rw [List.getElem?_append_left (by omega)] at e
      exact .inl ⟨h1, e⟩
    · rw [List.getElem?_append_right (by omega), List.getElem?_map, hn] at e
      right
      cases hx : c[h - n]? with
      | none => rw [hx] at e; simp at e
      | some x =>
        rw [hx] at e
        cases x with
        | none => simp at e
        | some o1 =>
          simp only [Option.map_some, Option.getD_some, Option.some.injEq] at e
          exact ⟨h - n, o1, by omega, by rw [hx]; rfl, e.symm⟩
  have clen : (st.ctx ++ c.map fun o => o.map (SO.mapH fun h => n + h)).length = n + c.length := by simp [hn]
  refine ⟨v, z.mapH fun h => n + h, _, σ2, e1, hK, ?_, hR.defers, hR.size, fun t => rel_mono hle (hR.env t), ⟨fun h o e => ?_, fun h h' o o' L L' hne e e' ho s s' => ?_, fun h hh => ?_, fun h L s => ?_, fun b o e => ?_, fun h o L e ho s => ?_, fun b o h => (by rw [← hσ]; exact hR.sat.glb b o h)⟩, ?_, fun h o L e ho s => ?_, ⟨fun h hh => ?_, fun b o e => ?_, fun b o e => ?_⟩, ?_⟩
  · rw [rel_mapH]
    exact rel_nf (fun h => hnew h) hZ p.val
  · rcases atN h o e with ⟨h1, h2⟩ | ⟨i, o1, rfl, h2, rfl⟩
    · exact objSat_same hle (hold h h1) (fun L hL => hblk _ (hR.sat.inHeap h L hL)) (hR.sat.obj h o h2)
    · exact objSat_up (σ := σ2) (σ0 := ⟨σ'.loc, σ.fz⟩) (μ := fun h => n + h) (fun h => hnew h) hfz.symm (objSat_nf (σ := σ') (σ' := ⟨σ'.loc, σ.fz⟩) (fun _ => rfl) (hC i o1 h2) (p.sat.obj i o1 h2))
  · rcases atN h o e with ⟨h1, h2⟩ | ⟨i, o1, rfl, h2, rfl⟩ <;> rcases atN h' o' e' with ⟨h3, h4⟩ | ⟨j, o2, rfl, h4, rfl⟩
    · rw [hold h h1] at s; rw [hold h' h3] at s'
      exact hR.sat.apart h h' o o' L L' hne h2 h4 ho s s'
    · rw [hold h h1] at s; rw [hnew j] at s'
      have := hR.sat.inHeap h L s
      have := ownN j o2 L' hZ h4 s'
      omega
    · rw [hnew i] at s; rw [hold h' h3] at s'
      have := hR.sat.inHeap h' L' s'
      have := ownN i o1 L hZ h2 s
      omega
    · rw [hnew i] at s; rw [hnew j] at s'
      exact p.sat.apart i j o1 o2 L L' (by omega) h2 h4 (p.new i o1 (Nat.zero_le _) h2) s s'
  · rw [clen] at hh
    obtain ⟨i, rfl⟩ : ∃ i, h = n + i := ⟨h - n, by omega⟩
    rw [hnew]
    exact p.sat.beyond i (by omega)
  · rcases Nat.lt_or_ge h n with h1 | h1
    · rw [hold h h1] at s
      have := hR.sat.inHeap h L s
      have := p.fr.size
      omega
    · obtain ⟨i, rfl⟩ : ∃ i, h = n + i := ⟨h - n, by omega⟩
      rw [hnew] at s
      exact p.sat.inHeap i L s
  · rw [hfz] at e
    have h1 := hR.sat.frz b o e
    have hb : b < w.heap.size := by
      rcases Nat.lt_or_ge b w.heap.size with h | h
      · exact h
      · rw [Array.getElem?_eq_none h] at h1; cases h1
    rw [hblk b hb]
    exact h1
  · rw [hfz]
    rcases atN h o e with ⟨h1, h2⟩ | ⟨i, o1, rfl, h2, rfl⟩
    · rw [hold h h1] at s
      exact hR.sat.frzA h o L h2 ho s
    · rw [hnew i] at s
      have hb := ownN i o1 L hZ h2 s
      cases hx : σ.fz L.b with
      | none => rfl
      | some q =>
        have h1 := hR.sat.frz _ _ hx
        rw [Array.getElem?_eq_none hb] at h1
        cases h1
  · exact hR.fr.step p.fr fun x _ hx => absurd hx (nrw x)
  · rcases atN h o e with ⟨h1, h2⟩ | ⟨i, o1, rfl, h2, rfl⟩
    · rw [hold h h1] at s
      exact hR.own h o L h2 ho s
    · rw [hnew i] at s
      have := ownN i o1 L hZ h2 s
      have := hR.fr.size
      exact .inr (by omega)
  · have := hR.klen
    rw [hold h (by omega)]
    exact hR.base.loc h hh
  · rw [hfz]; exact hR.base.fzb b o e
  · rw [hfz] at e; exact hR.base.fzn b o e
  · have := hR.klen
    show A.k ≤ (st.ctx ++ c.map fun o => o.map (SO.mapH fun h => n + h)).length
    rw [clen]
    omega
end Go.Vg
namespace Go.Vg
set_option linter.unusedSectionVars false
variable [Go.Vg.Glob]
theorem nf_row1 {α : Type} {enc : α → List SV} {z : α} {xs : List α} {r : Bool} {sz n : Nat} (h : ∀ x, nfL (enc x) = true) : ∀ k o, Ctx.at [some (.row r sz n (rowE enc z xs))] k = some o → nfO o := by
  intro k o e
  cases k with
  | zero =>
    rw [at_cons_zero] at e
    cases e
    intro i hi
    exact h _
  | succ k =>
    rw [at_cons_succ] at e
    simp [Ctx.at] at e
end Go.Vg
namespace Go.Vg
set_option linter.unusedSectionVars false
variable [Go.Vg.Glob]
open Go.Pl
def idI (k : Int) : Int := k
def evm (k : Int) : Ev := ⟨k, k + 1, decide ((k + 2).tmod 3 = 0), mtx (k + 3), mtx (k + 4), mtx (k + 5), k + 6, k + 7⟩
end Go.Vg
end
section
set_option linter.unusedVariables false
set_option linter.unusedSimpArgs false
namespace Go.Pl
set_option linter.unusedVariables false
end Go.Pl
namespace Go.Pl
theorem getD_mem {α : Type} {z : α} {l : List α} {i : Nat} (h : i < l.length) : l.getD i z ∈ l := by
  simp [List.getD, h]
theorem take_snoc {α : Type} (z : α) {l : List α} {i : Nat} (h : i < l.length) : l.take (i + 1) = l.take i ++ [l.getD i z] := by
  rw [List.take_succ_eq_append_getElem h]
  simp [List.getD, h]
end Go.Pl
namespace Go.Pl
end Go.Pl
namespace Go.Pl
end Go.Pl
end
section
set_option linter.unusedVariables false
set_option linter.unusedSimpArgs false
namespace Go.Pl
set_option linter.unusedVariables false
set_option linter.unusedSimpArgs false
structure Sg where
  kind : Int
  n : Int
  text : Bs
deriving DecidableEq
def sgz : Sg := ⟨0, 0, []⟩
def sgOk (s : Sg) : Bool :=
  decide (1 ≤ s.kind ∧ s.kind ≤ 5 ∧ 0 ≤ s.n ∧ s.n ≤ 4294967295) && (decide (s.kind = 1 ∨ s.kind = 3) || decide (s.n = 0)) && (decide (s.kind = 2) || decide (s.text = []))
def sgsOk (l : List Sg) : Bool := l.all sgOk
/-- A deep step behind a deep step left out. -/
def once : List Sg → Bool → List Sg
  | [], _ => []
  | s :: p, b => if b && decide (s.kind = 5) then once p b else s :: once p (decide (s.kind = 5))
end Go.Pl
namespace Go.Pl
end Go.Pl
namespace Go.Pl
end Go.Pl
namespace Go.Pl
end Go.Pl
namespace Go.Pl
end Go.Pl
end
section
set_option linter.unusedVariables false
set_option linter.unusedSimpArgs false
namespace Go.Vg
set_option linter.unusedSectionVars false
variable [Go.Vg.Glob]
open Go.Pl
set_option linter.unusedVariables false
set_option linter.unusedSimpArgs false
def segc (e : Sg) : List SV := [.i .i64 e.kind, .i .i64 e.n, .s e.text]
theorem segc_inj {l m : List Sg} : l.map segc = m.map segc ↔ l = m := map_inj fun a b h => by cases a; cases b; simpa [segc] using h
theorem getD_segc (a : List Sg) (i : Nat) : (a.map segc).getD i [.i .i64 0, .i .i64 0, .s []] = [.i .i64 (a.getD i sgz).kind, .i .i64 (a.getD i sgz).n, .s (a.getD i sgz).text] := getD_map segc a i sgz
theorem rowE_sg {a : List Sg} {i : Nat} : rowE segc sgz a i = [.i .i64 (a.getD i sgz).kind, .i .i64 (a.getD i sgz).n, .s (a.getD i sgz).text] := id rfl
theorem rowH_sg {μ : Nat → Nat} {r : Bool} {sz n : Nat} {a : List Sg} : SO.mapH μ (.row r sz n (rowE segc sgz a)) = .row r sz n (rowE segc sgz a) := rowH fun _ => rfl
theorem sgEta (e : Sg) : (⟨e.kind, e.n, e.text⟩ : Sg) = e := id rfl
theorem XRS : type_of% (And.intro (And.intro @getD_segc @rowE_sg) (And.intro @rowH_sg @sgEta)) := And.intro (And.intro @getD_segc @rowE_sg) (And.intro @rowH_sg @sgEta)
end Go.Vg
namespace Go.Vg
set_option linter.unusedSectionVars false
variable [Go.Vg.Glob]
end Go.Vg
namespace Go.Vg
set_option linter.unusedSectionVars false
variable [Go.Vg.Glob]
open Go.Pl
end Go.Vg
end
section
set_option linter.unusedVariables false
set_option linter.unusedSimpArgs false
namespace Go.Vg
set_option linter.unusedSectionVars false
variable [Go.Vg.Glob]
open Go.Pl
end Go.Vg
end
section
set_option linter.unusedVariables false
set_option linter.unusedSimpArgs false
namespace Go.Vg
set_option linter.unusedSectionVars false
variable [Go.Vg.Glob]
set_option linter.unusedVariables false
set_option linter.unusedSimpArgs false
open Go.RowKit

def fits (te : TE) : Nat → TypeId → List SV → Prop
  | 0, _, _ => False
  | n + 1, t, xs => match te t with
    | none => False
    | some ti => match ti.td with
      | .bool => ∃ b, xs = [.b b]
      | .int k => ∃ m, xs = [.i k m] ∧ inR k m
      | .str => ∃ l, xs = [.s l] ∧ l.length ≤ 9223372036854775807
      | .slice e => ∃ l, xs = [.fs (szOf te e) l] ∧ l.length ≤ 9223372036854775807 ∧ ∀ y ∈ l, fits te n e y
      | .struct fs => xs.length = ti.size ∧ ∀ f ∈ fs, fits te n f.1 ((xs.drop f.2).take (szOf te f.1))
      | _ => False

def tile (te : TE) : Nat → List (TypeId × Nat) → Option Nat
  | off, [] => some off
  | off, f :: r => if f.2 = off then tile te (off + szOf te f.1) r else none

def knows (te : TE) : Nat → TypeId → Bool
  | 0, _ => false
  | n + 1, t => match te t with
    | none => false
    | some ti => match ti.td with
      | .bool => ti.size == 1
      | .int k => (k == .i64 || k == .u8 || k == .i32) && ti.size == 1
      | .str => ti.size == 1
      | .slice e => ti.size == 1 && knows te n e && decide (0 < szOf te e)
      | .struct fs => tile te 0 fs == some ti.size && fs.all fun f => knows te n f.1
      | _ => false

theorem cellsOf_te {P : Program} {te : TE} (hte : teOk P te) {t : TypeId} {ti : TI} (h : te t = some ti) : P.cellsOf t = ti.size := by
  obtain ⟨i, hi, hs, _⟩ := (hte t ti h).info
  simp [Program.cellsOf, hi, hs]

theorem wf_inR {k : IntKind} {n : Int} (hk : (k == .i64 || k == .u8 || k == .i32) = true) (h : (Lit.int k n).wf = true) : inR k n := by
  cases k <;> simp at hk <;> simp only [inR] <;> simp [Lit.wf, IntKind.min, IntKind.max, IntKind.bits, IntKind.signed] at h <;> omega

section
variable {H : Type} {enc : TypeId × Value → H} {P : Program} {w : World} {base : Nat} {spare : Nat → Bool} {held : Bool} {te : TE}

theorem tile_fits (hte : teOk P te) {n : Nat}
    (ih : ∀ (t : TypeId) (cs : List Value) (m : Nat) (x : DataW H × List MemPlace), knows te n t = true → DataW.trod enc P w base spare held m t cs = some x → ∃ xs, fits te n t xs ∧ relL ⟨fun _ => none, fun b => w.heap[b]?⟩ xs cs ∧ plainL xs = true ∧ xs.length = szOf te t) (m : Nat) (cs : List Value) :
    ∀ (fs : List (TypeId × Nat)) (off tot : Nat), tile te off fs = some tot → cs.length = tot → (∀ f ∈ fs, knows te n f.1 = true) → (∀ f ∈ fs, ∃ x, DataW.trod enc P w base spare held m f.1 ((cs.drop f.2).take (szOf te f.1)) = some x) →
      off ≤ tot ∧ ∃ xs, relL ⟨fun _ => none, fun b => w.heap[b]?⟩ xs (cs.drop off) ∧ plainL xs = true ∧ ∀ f ∈ fs, off ≤ f.2 ∧ fits te n f.1 ((xs.drop (f.2 - off)).take (szOf te f.1))
  | [], off, tot, ht, hl, _, _ => by
    simp only [tile, Option.some.injEq] at ht
    subst ht
    refine ⟨Nat.le_refl _, [], ?_, rfl, by simp⟩
    rw [List.drop_of_length_le (by omega)]
    simp [relL]
  | f :: r, off, tot, ht, hl, hk, hx => by
    simp only [tile] at ht
    split at ht
    case isFalse => cases ht
    rename_i hoff
    obtain ⟨hle, ys, h1, h2, h3⟩ := tile_fits hte ih m cs r _ tot ht hl (fun g hg => hk g (List.mem_cons_of_mem _ hg)) (fun g hg => hx g (List.mem_cons_of_mem _ hg))
    obtain ⟨x, hx0⟩ := hx f (by simp)
    obtain ⟨xs, g1, g2, g3, g4⟩ := ih f.1 _ m x (hk f (by simp)) hx0
    refine ⟨by omega, xs ++ ys, ?_, ?_, fun g hg => ?_⟩
    · have : cs.drop off = (cs.drop off).take (szOf te f.1) ++ cs.drop (off + szOf te f.1) := by
        rw [← List.drop_drop, List.take_append_drop]
      rw [this]
      rw [hoff] at g2
      exact relL_append g2 h1
    · have : ∀ (a b : List SV), plainL a = true → plainL b = true → plainL (a ++ b) = true := by
        intro a
        induction a with
        | nil => intro b _ hb; exact hb
        | cons y ys ih => intro b ha hb; simp only [List.cons_append, plainL, Bool.and_eq_true] at ha ⊢; exact ⟨ha.1, ih b ha.2 hb⟩
      exact this _ _ g3 h2
    · rcases List.mem_cons.1 hg with rfl | hg
      · refine ⟨by omega, ?_⟩
        rw [hoff, Nat.sub_self, List.drop_zero, List.take_append_of_le_length (by omega), List.take_of_length_le (by omega)]
        exact g1
      · obtain ⟨k1, k2⟩ := h3 g hg
        refine ⟨by omega, ?_⟩
        have : (xs ++ ys).drop (g.2 - off) = ys.drop (g.2 - (off + szOf te f.1)) := by
          rw [List.drop_append]
          rw [List.drop_of_length_le (by omega), List.nil_append]
          congr 1
          omega
        rw [this]
        exact k2

theorem trod_fits (hte : teOk P te) : ∀ (n : Nat) (t : TypeId) (cs : List Value) (m : Nat) (x : DataW H × List MemPlace), knows te n t = true → DataW.trod enc P w base spare held m t cs = some x →
    ∃ xs, fits te n t xs ∧ relL ⟨fun _ => none, fun b => w.heap[b]?⟩ xs cs ∧ plainL xs = true ∧ xs.length = szOf te t
  | 0, _, _, _, _, h, _ => by simp [knows] at h
  | n + 1, t, cs, m, x, h, hx => by
    have ih := trod_fits hte n
    simp only [knows] at h
    cases hti : te t with
    | none => rw [hti] at h; cases h
    | some ti =>
      rw [hti] at h
      simp only at h
      have htd : tdOf te t = ti.td := by simp [tdOf, hti]
      have hsz : szOf te t = ti.size := by simp [szOf, hti]
      simp only [fits, hti]
      cases hd : ti.td with
      | bool =>
        rw [hd] at h htd
        simp only [beq_iff_eq] at h
        obtain ⟨b, rfl, _⟩ := DataW.trod_bool (und_bool hte htd) hx
        exact ⟨[.b b], ⟨b, rfl⟩, by simp [relL, rel], rfl, by simp [hsz, h]⟩
      | int k =>
        rw [hd] at h htd
        simp only [Bool.and_eq_true, beq_iff_eq] at h
        obtain ⟨v, rfl, _, hw⟩ := DataW.trod_int (und_int hte htd) hx
        exact ⟨[.i k v], ⟨v, rfl, wf_inR h.1 hw⟩, by simp [relL, rel], rfl, by simp [hsz, h.2]⟩
      | str =>
        rw [hd] at h htd
        simp only [beq_iff_eq] at h
        obtain ⟨s, rfl, _, hsl⟩ := DataW.trod_string (und_str hte htd) hx
        exact ⟨[.s s.data.toList], ⟨_, rfl, by rw [Array.length_toList, ByteArray.size_data]; exact Nat.le_trans hsl (by decide)⟩, by simp [relL, rel], rfl, by simp [hsz, h]⟩
      | slice e =>
        rw [hd] at h htd
        simp only [Bool.and_eq_true, beq_iff_eq, decide_eq_true_eq] at h
        obtain ⟨⟨h1, h2⟩, h3⟩ := h
        obtain ⟨tj, htj⟩ : ∃ tj, te e = some tj := by
          cases hq : te e with
          | none => simp [szOf, hq] at h3
          | some tj => exact ⟨tj, rfl⟩
        have hce : P.cellsOf e = szOf te e := by rw [cellsOf_te hte htj]; simp [szOf, htj]
        rcases DataW.trod_slice (und_slice hte htd) hx with ⟨rfl, _⟩ | ⟨a, len, cap, elems, rest, m', _, rfl, _, _, hlc, hcm, hel, hget, _⟩
        · exact ⟨[.fs (szOf te e) []], ⟨[], rfl, by simp, by simp⟩, by simp [relL, rel], rfl, by simp [hsz, h1]⟩
        · -- the elements, one by one
          have each : ∀ i, i < len → ∃ ys, fits te n e ys ∧ ys.length = szOf te e ∧ ∃ cs', w.cells? base (a.add (i * szOf te e)) (szOf te e) = some cs' ∧ relL ⟨fun _ => none, fun b => w.heap[b]?⟩ ys cs' ∧ plainL ys = true := by
            intro i hi
            have := hget i hi
            rw [List.getElem?_eq_getElem (by omega), hce] at this
            obtain ⟨cs', g1, g2⟩ := Option.bind_eq_some_iff.1 this
            obtain ⟨ys, k1, k2, k3, k4⟩ := ih e cs' m' _ h2 g2
            exact ⟨ys, k1, k4, cs', g1, k2, k3⟩
          let L : List (List SV) := (List.range len).map fun i => if hi : i < len then Classical.choose (each i hi) else []
          have hL : ∀ i y, L[i]? = some y → ∃ hi : i < len, y = Classical.choose (each i hi) := by
            intro i y hy
            simp only [L, List.getElem?_map, Option.map_eq_some_iff] at hy
            obtain ⟨j, hj, rfl⟩ := hy
            have hi : i < len := by
              have := (List.getElem?_eq_some_iff.1 hj).1
              simpa using this
            rw [List.getElem?_range hi] at hj
            cases hj
            exact ⟨hi, by rw [dif_pos hi]⟩
          have hlen : L.length = len := by simp [L]
          refine ⟨[.fs (szOf te e) L], ⟨L, rfl, by rw [hlen]; exact Nat.le_trans hlc (Nat.le_trans hcm (by decide)), fun y hy => ?_⟩, ?_, rfl, by simp [hsz, h1]⟩
          · obtain ⟨i, hi⟩ := List.mem_iff_getElem?.1 hy
            obtain ⟨hlt, rfl⟩ := hL i y hi
            exact (Classical.choose_spec (each i hlt)).1
          · simp only [relL, rel]
            refine ⟨_, _, rfl, ⟨some a, cap, by rw [hlen], by rw [hlen]; exact hlc, ?_⟩, rfl⟩
            by_cases h0 : len = 0
            · left; exact List.length_eq_zero_iff.1 (by omega)
            right
            -- the block
            have cell : ∀ i k, i < len → k < szOf te e → ∃ v, w.cell? (a.add (i * szOf te e + k)) = some v := by
              intro i k hi hk
              obtain ⟨ys, _, hy, cs', g1, g2, _⟩ := each i hi
              have hl := relL_length g2
              unfold World.cells? at g1
              split at g1
              · have := mapM_some_get g1 k k (by simp [hk])
                have e1 : (a.add (i * szOf te e)).add k = a.add (i * szOf te e + k) := by
                  unfold Addr.add
                  split <;> split <;> (try split) <;> simp_all <;> omega
                rw [e1] at this
                exact ⟨cs'[k]'(by omega), by rw [this]; exact List.getElem?_eq_getElem _⟩
              · cases g1
            obtain ⟨v0, hv0⟩ := cell 0 0 (by omega) h3
            have hadd0 : a.add (0 * szOf te e + 0) = a := by simp [Addr.add]
            rw [hadd0] at hv0
            obtain ⟨ab, ao, asp⟩ := a
            unfold World.cell? at hv0
            split at hv0
            · rename_i c el fr hheap
              have hsp : asp = none := by
                cases asp with
                | none => rfl
                | some q => simp at hv0
              subst hsp
              refine ⟨ab, ao, c, el, fr, rfl, hheap, relR_of_get fun j y hy => ?_⟩
              obtain ⟨hlt, rfl⟩ := hL j y hy
              obtain ⟨_, hy2, cs', g1, g2, g3⟩ := Classical.choose_spec (each j hlt)
              refine ⟨hy2, ?_⟩
              have hcs : cs' = ((c.toList.drop ao).drop (j * szOf te e)).take (szOf te e) := by
                have hl := relL_length g2
                apply List.ext_getElem?
                intro k
                unfold World.cells? at g1
                split at g1
                · by_cases hk : k < szOf te e
                  · have := mapM_some_get g1 k k (by simp [hk])
                    rw [add_none, add_none, cell?_of hheap] at this
                    rw [← this, List.getElem?_take, if_pos hk, List.getElem?_drop, List.getElem?_drop]
                    simp [Nat.add_assoc]
                  · rw [List.getElem?_eq_none (by omega), List.getElem?_take, if_neg hk]
                · cases g1
              rw [← hcs]
              exact g2
            · cases hv0
      | struct fs =>
        rw [hd] at h htd
        simp only [Bool.and_eq_true, beq_iff_eq, List.all_eq_true] at h
        obtain ⟨ff, hff, hmap, _⟩ := und_struct hte htd
        obtain ⟨xs, m', _, _, hl, hxl, hget⟩ := DataW.trod_struct hff hx
        rw [cellsOf_te hte hti] at hl
        obtain ⟨_, ys, h1, h2, h3⟩ := tile_fits hte (fun t cs m x => ih t cs m x) m' cs fs 0 ti.size h.1 hl (fun f hf => h.2 f hf) (fun f hf => by
          rw [← hmap] at hf
          obtain ⟨g, hg, rfl⟩ := List.mem_map.1 hf
          obtain ⟨i, hi⟩ := List.mem_iff_getElem?.1 hg
          have hi' : ff[i]? = some g := by simpa using hi
          have := hget i g hi'
          have hlt : i < xs.length := by
            have := (List.getElem?_eq_some_iff.1 hi).1
            simp at this; omega
          have hk := h.2 (g.type, g.offset) (by rw [← hmap]; exact hf)
          have hce : P.cellsOf g.type = szOf te g.type := by
            cases hq : te g.type with
            | none =>
              cases n with
              | zero => simp [knows] at hk
              | succ n => simp [knows, hq] at hk
            | some tj => rw [cellsOf_te hte hq]; simp [szOf, hq]
          rw [hce] at this
          exact ⟨xs[i], by rw [this]; exact List.getElem?_eq_getElem hlt⟩)
        rw [List.drop_zero] at h1
        have hyl : ys.length = ti.size := by rw [relL_length h1]; exact hl
        exact ⟨ys, ⟨hyl, fun f hf => by have := (h3 f hf).2; simpa using this⟩, h1, h2, by rw [hsz]; exact hyl⟩
      | map _ _ => rw [hd] at h; cases h
      | other => rw [hd] at h; cases h
end

theorem exists_map {α β : Type} {f : α → β} {p : α → Prop} : ∀ {l : List β}, (∀ y ∈ l, ∃ e, p e ∧ y = f e) → ∃ es : List α, l = es.map f ∧ ∀ e ∈ es, p e
  | [], _ => ⟨[], rfl, by simp⟩
  | y :: ys, h => by
    obtain ⟨e, h1, rfl⟩ := h y (by simp)
    obtain ⟨es, h2, h3⟩ := exists_map fun z hz => h z (List.mem_cons_of_mem _ hz)
    exact ⟨e :: es, by simp [h2], by simp [h1]; exact h3⟩

def fitsV (te : TE) (n : Nat) (t : TypeId) (y : SV) : Prop := if (tdOf te t).isStruct then ∃ xs, y = .agg xs ∧ fits te n t xs else fits te n t [y]

theorem trod_param {H : Type} {enc : TypeId × Value → H} {P : Program} {w : World} {base : Nat} {spare : Nat → Bool} {held : Bool} {te : TE} (hte : teOk P te) {n : Nat} {t : TypeId} (hk : knows te n t = true) {v : Value} {d : DataW H} {ps : List MemPlace}
    {re : Reach} {b0 : Nat} (hv : Value.okWide P w re b0 t v) (h : DataW.Trod enc P w base spare held t v d ps) : ∃ y, fitsV te n t y ∧ rel ⟨fun _ => none, fun b => w.heap[b]?⟩ y v := by
  obtain ⟨fuel, hf⟩ := h
  obtain ⟨xs, h1, h2, h3, h4⟩ := trod_fits hte n t _ _ _ hk hf
  cases n with
  | zero => simp [knows] at hk
  | succ n =>
  simp only [knows] at hk
  cases hti : te t with
  | none => rw [hti] at hk; cases hk
  | some ti =>
    rw [hti] at hk
    simp only at hk
    have htd : tdOf te t = ti.td := by simp [tdOf, hti]
    have hsz : szOf te t = ti.size := by simp [szOf, hti]
    rw [hsz] at h4
    have one : ti.size = 1 → (∀ cs, v ≠ .agg cs) → ∃ y, xs = [y] ∧ rel ⟨fun _ => none, fun b => w.heap[b]?⟩ y v := by
      intro hs hne
      obtain ⟨y, rfl⟩ : ∃ y, xs = [y] := by
        match xs, h4 with
        | [y], _ => exact ⟨y, rfl⟩
        | [], h => rw [hs] at h; simp at h
        | _ :: _ :: _, h => rw [hs] at h; simp at h
      refine ⟨y, rfl, ?_⟩
      have hc : v.cells.toList = [v] := by
        cases v <;> first | rfl | exact absurd rfl (hne _)
      rw [hc] at h2
      simp only [relL] at h2
      obtain ⟨u, r, e, hr, rfl⟩ := h2
      cases e
      exact hr
    unfold fitsV
    rw [htd]
    cases hd : ti.td with
    | bool =>
      rw [hd] at hk htd
      have hu := und_bool hte htd
      obtain ⟨y, rfl, hr⟩ := one (by simpa using hk) (fun cs e => by subst e; simp [Value.okWide, Cell.okWide, Cell.ok, hu] at hv)
      exact ⟨y, by simpa [TD.isStruct] using h1, hr⟩
    | int k =>
      rw [hd] at hk htd
      have hu := und_int hte htd
      obtain ⟨y, rfl, hr⟩ := one (by simp at hk; exact hk.2) (fun cs e => by subst e; simp [Value.okWide, Cell.okWide, Cell.ok, hu] at hv)
      exact ⟨y, by simpa [TD.isStruct] using h1, hr⟩
    | str =>
      rw [hd] at hk htd
      have hu := und_str hte htd
      obtain ⟨y, rfl, hr⟩ := one (by simpa using hk) (fun cs e => by subst e; simp [Value.okWide, Cell.okWide, Cell.ok, hu] at hv)
      exact ⟨y, by simpa [TD.isStruct] using h1, hr⟩
    | slice e =>
      rw [hd] at hk htd
      have hu := und_slice hte htd
      obtain ⟨y, rfl, hr⟩ := one (by simp at hk; exact hk.1.1) (fun cs e => by subst e; simp [Value.okWide, Cell.okWide, Cell.ok, hu] at hv)
      exact ⟨y, by simpa [TD.isStruct] using h1, hr⟩
    | struct fs =>
      rw [hd] at hk htd
      obtain ⟨ff, hff, _⟩ := und_struct hte htd
      have : ∃ cs, v = .agg cs := by
        simp only [Value.okWide, hff] at hv
        obtain ⟨cs, e, _⟩ := hv
        exact ⟨cs, e⟩
      obtain ⟨cs, rfl⟩ := this
      refine ⟨.agg xs, by simp only [TD.isStruct, if_true]; exact ⟨xs, rfl, h1⟩, ?_⟩
      simp only [rel]
      exact ⟨cs, rfl, h2⟩
    | map _ _ => rw [hd] at hk; cases hk
    | other => rw [hd] at hk; cases hk
end Go.Vg
end
section
set_option linter.unusedVariables false
set_option linter.unusedSimpArgs false
namespace Go.Pl
set_option linter.unusedVariables false
set_option linter.unusedSimpArgs false
structure Pc where
  text : Bs
  glue : Bool
deriving DecidableEq
end Go.Pl
namespace Go.Pl
end Go.Pl
namespace Go.Pl
end Go.Pl
namespace Go.Pl
end Go.Pl
namespace Go.Pl
end Go.Pl
namespace Go.Pl
end Go.Pl
end
section
set_option linter.unusedVariables false
set_option linter.unusedSimpArgs false
namespace Go.Vg
set_option linter.unusedSectionVars false
variable [Go.Vg.Glob]
set_option linter.unusedVariables false
set_option maxRecDepth 100000
end Go.Vg
end
section
set_option linter.unusedVariables false
set_option linter.unusedSimpArgs false
namespace Go.Vg
set_option linter.unusedSectionVars false
variable [Go.Vg.Glob]
open Go.Pl
set_option linter.unusedVariables false
set_option linter.unusedSimpArgs false
end Go.Vg
end
section
set_option linter.unusedVariables false
set_option linter.unusedSimpArgs false
namespace Go.Vg
set_option linter.unusedSectionVars false
variable [Go.Vg.Glob]
end Go.Vg
end
