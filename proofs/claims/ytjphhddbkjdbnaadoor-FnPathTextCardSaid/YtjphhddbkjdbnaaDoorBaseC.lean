/- Code, stepped through over symbolic states. -/
import Derived.Test.YtjphhddbkjdbnaaDoorBaseB
section
set_option linter.unusedVariables false
set_option linter.unusedSimpArgs false
namespace Go.Vg
set_option linter.unusedSectionVars false
variable [Go.Vg.Glob]
set_option linter.unusedVariables false
set_option linter.unusedSimpArgs false
open Go.RowKit

/-- What a walk of one function is about. -/
structure Cf where
  P : Program
  te : TE
  pt : PT
  nt : Nat
  k : Nat
  wr : Bool
  sp : Nat → Bool
  keep : Nat → List Tmp
  cut : List Nat
  dr : Nat → Array Oper → (St → Prop) → St → Prop

/-- A region of another kind (orders drawn): what it must bring about. -/
def VDraw (P : Program) (nt k : Nat) (ops : Array Oper) (K : St → Prop) (st : St) : Prop :=
  ∀ (A : Amb) (σ : Asg) (a : Act) (w : World) (id : Nat), A.nt = nt → A.k = k → A.gr = true → Rel A σ st a w →
    (Code.region id ops true).wp P (fun e a' w' => e = .normal ∧ ∃ σ' st', K st' ∧ Rel A σ' st' a' w') a w

structure Cf.ok (cf : Cf) : Prop where
  te : teOk cf.P cf.te
  pt : PTok cf.P cf.pt
  kk : cf.k ≤ cf.pt.k
  dr : ∀ id ops K st, cf.dr id ops K st → VDraw cf.P cf.nt cf.k ops K st

inductive It where
  | code (c : Code)
  | blk (id : Nat)
  | stop (J : St → Prop)

def KP (P : Program) (A : Amb) (F : St → Prop) : List It → Exit → Act → World → Prop
  | [], .normal, a, w => ∃ σ st, F st ∧ Rel A σ st a w
  | [], .ret, a, w => ∃ σ st, F st ∧ Rel A σ st a w
  | [], _, _, _ => False
  | .code c :: r, .normal, a, w => c.wp P (KP P A F r) a w
  | .code _ :: r, e, a, w => KP P A F r e a w
  | .blk id :: r, .exit id', a, w => if id' = id then KP P A F r .normal a w else KP P A F r (.exit id') a w
  | .blk _ :: r, e, a, w => KP P A F r e a w
  | .stop J :: r, .normal, a, w => ∃ σ st, J st ∧ Rel A σ st a w
  | .stop _ :: r, e, a, w => KP P A F r e a w

def popTo (id : Nat) : List It → Option (List It)
  | [] => none
  | .blk id' :: r => if id = id' then some r else popTo id r
  | _ :: r => popTo id r

theorem KP_exit {P : Program} {A : Amb} {F : St → Prop} {id : Nat} : ∀ {r r' : List It} {a : Act} {w : World}, popTo id r = some r' → KP P A F r' .normal a w → KP P A F r (.exit id) a w
  | [], _, _, _, h, _ => by simp [popTo] at h
  | .blk i :: r, r', a, w, h, k => by
    simp only [popTo] at h
    simp only [KP]
    split at h
    · cases h; subst_vars; rwa [if_pos rfl]
    · rename_i hne
      rw [if_neg hne]
      exact KP_exit h k
  | .code c :: r, r', a, w, h, k => by
    simp only [popTo] at h
    simp only [KP]
    exact KP_exit h k
  | .stop c :: r, r', a, w, h, k => by
    simp only [popTo] at h
    simp only [KP]
    exact KP_exit h k

theorem KP_ret {P : Program} {A : Amb} {F : St → Prop} : ∀ {r : List It} {a : Act} {w : World}, (∃ σ st, F st ∧ Rel A σ st a w) → KP P A F r .ret a w
  | [], _, _, h => by simpa [KP] using h
  | .blk _ :: r, _, _, h => by simp only [KP]; exact KP_ret h
  | .code _ :: r, _, _, h => by simp only [KP]; exact KP_ret h
  | .stop _ :: r, _, _, h => by simp only [KP]; exact KP_ret h

def Ent (k : Nat) (st st' : St) : Prop := ∀ (A : Amb) (σ : Asg) (a : Act) (w : World), A.k = k → Rel A σ st a w → ∃ σ', Rel A σ' st' a w

theorem Ent.refl (k : Nat) (st : St) : Ent k st st := fun A σ a w _ h => ⟨σ, h⟩
theorem Ent.trans {k : Nat} {a b c : St} (h : Ent k a b) (g : Ent k b c) : Ent k a c := fun A σ a w hk hR =>
  let ⟨σ', h'⟩ := h A σ a w hk hR
  g A σ' a w hk h'

/-- The same objects; of each temporary the same or nothing. -/
theorem Ent.env {k : Nat} {st st' : St} (hc : st.ctx = st'.ctx) (he : ∀ t, look st'.env t = look st.env t ∨ look st'.env t = .u) : Ent k st st' := fun A σ a w hk hR =>
  ⟨σ, hR.defers, hR.size, fun t => by
    rcases he t with h | h
    · rw [h]; exact hR.env t
    · rw [h]; simp [rel], hc ▸ hR.sat, hR.fr, hc ▸ hR.own, hR.base, hc ▸ hR.klen⟩

def trim (l : List Tmp) (st : St) : St := ⟨l.map fun t => (t, look st.env t), st.ctx⟩

theorem look_map (st : List (Tmp × SV)) (l : List Tmp) (t : Tmp) : look (l.map fun t => (t, look st t)) t = look st t ∨ look (l.map fun t => (t, look st t)) t = .u := by
  induction l with
  | nil => right; rfl
  | cons x xs ih =>
    simp only [List.map_cons, look]
    by_cases h : x = t
    · subst h; left; simp
    · rw [if_neg h]; exact ih

theorem Ent.trim (k : Nat) (l : List Tmp) (st : St) : Ent k st (trim l st) := Ent.env rfl fun t => look_map st.env l t

/-- A loop: states by index, a measure that falls. -/
def VLoop (k : Nat) (st : St) (B : (J : St → Prop) → St → Prop) : Prop :=
  ∃ (ι : Type) (S : ι → St) (m : ι → Nat) (i0 : ι), Ent k st (S i0) ∧ ∀ i, B (fun s => ∃ j, m j < m i ∧ Ent k s (S j)) (S i)

/-- A place where ways come together: states by index. -/
def VCut (k : Nat) (B : (J : St → Prop) → Prop) (R : St → Prop) : Prop :=
  ∃ (ι : Type) (S : ι → St), B (fun s => ∃ j, Ent k s (S j)) ∧ ∀ j, R (S j)

def firstId : Code → Option Nat
  | .region id _ _ => some id
  | .block id _ => some (1000 + id)
  | .seq x _ => firstId x
  | .loop b => firstId b
  | _ => none

def isCut (cut : List Nat) (c : Code) : Bool := match firstId c with
  | some i => cut.contains i
  | none => false

/-- Operations from a list, one after the other. -/
def XL (P : Program) (te : TE) (wr : Bool) (nt : Nat) (pt : PT) (sp : Bool) (ops : Array Oper) (K : St → Prop) : List Oper → St → Prop
  | [], st => K st
  | o :: os, st => XStep P te wr nt pt sp ops st o (XL P te wr nt pt sp ops K os)

theorem XL_XO {P : Program} {te : TE} {wr : Bool} {nt : Nat} {pt : PT} {sp : Bool} {ops : Array Oper} {K : St → Prop} : ∀ (n i : Nat) (st : St), i + n = ops.size →
    XL P te wr nt pt sp ops K (ops.toList.drop i) = XO P te wr nt pt sp ops K (List.range' i n)
  | 0, i, st, h => by
    rw [List.drop_of_length_le (by simp; omega)]
    funext st; rfl
  | n + 1, i, st, h => by
    have hi : i < ops.toList.length := by simp; omega
    rw [List.drop_eq_getElem_cons hi]
    funext s
    simp only [XL, List.range'_succ, XO]
    rw [← XL_XO n (i + 1) st (by omega)]
    simp only [Array.getElem_toList]
    rw [Array.getElem?_eq_getElem (by simpa using hi)]

def vc (cf : Cf) (F : St → Prop) : Nat → List It → St → Prop
  | 0, _, _ => False
  | n + 1, its, st => match its with
    | [] => F st
    | .blk _ :: r => vc cf F n r st
    | .stop J :: _ => J st
    | .code c :: r => match c with
      | .skip => vc cf F n r st
      | .ret => F st
      | .seq x y => if isCut cf.cut y then VCut cf.k (fun J => vc cf F n (.code x :: .stop J :: .code y :: r) st) (fun s => vc cf F n (.code y :: r) s)
        else vc cf F n (.code x :: .code y :: r) st
      | .region id ops false => XL cf.P cf.te cf.wr cf.nt cf.pt (cf.sp id) ops (fun s => vc cf F n r (trim (cf.keep id) s)) ops.toList st
      | .region id ops true => cf.dr id ops (fun s => vc cf F n r (trim (cf.keep id) s)) st
      | .cond c x y => match st.ev c with
        | .b t => (t = true → vc cf F n (.code x :: r) st) ∧ (t = false → vc cf F n (.code y :: r) st)
        | _ => False
      | .block id b => vc cf F n (.code b :: .blk id :: r) st
      | .loop b => VLoop cf.k st fun J s => vc cf F n (.code b :: .stop J :: r) s
      | .exit id => match popTo id r with
        | some r' => vc cf F n r' st
        | none => False
      | _ => False

theorem vc_sound {cf : Cf} (hcf : cf.ok) {F : St → Prop} {A : Amb} (hnt : A.nt = cf.nt) (hk : A.k = cf.k) (hgr : A.gr = true) : ∀ (n : Nat) (its : List It) (st : St) (σ : Asg) (a : Act) (w : World), vc cf F n its st → Rel A σ st a w → KP cf.P A F its .normal a w := by
  intro n
  induction n with
  | zero => intro its st σ a w h; exact h.elim
  | succ n ih =>
    intro its st σ a w h hR
    simp only [vc] at h
    split at h
    · exact ⟨σ, st, h, hR⟩
    · simp only [KP]; exact ih _ _ _ _ _ h hR
    · exact ⟨σ, st, h, hR⟩
    · rename_i c r
      simp only [KP]
      split at h
      · exact wp_skip (ih _ _ _ _ _ h hR)
      · exact wp_ret (KP_ret ⟨σ, st, h, hR⟩)
      · rename_i x y
        split at h
        · obtain ⟨ι, S, h1, h2⟩ := h
          refine wp_seq (wp_mono (ih _ _ _ _ _ h1 hR) fun e a' w' he => ?_)
          cases e with
          | normal =>
            obtain ⟨σ1, st1, ⟨j, hj⟩, hR1⟩ := he
            obtain ⟨σ2, hR2⟩ := hj A σ1 a' w' hk hR1
            exact ih _ _ _ _ _ (h2 j) hR2
          | _ => exact he
        · refine wp_seq (wp_mono (ih _ _ _ _ _ h hR) fun e a' w' he => ?_)
          cases e <;> exact he
      · rename_i id ops
        refine wp_region ?_
        have h' : XO cf.P cf.te cf.wr cf.nt cf.pt (cf.sp id) ops (fun s => vc cf F n r (trim (cf.keep id) s)) (List.range ops.size) st := by
          have := XL_XO (P := cf.P) (te := cf.te) (wr := cf.wr) (nt := cf.nt) (pt := cf.pt) (sp := cf.sp id) (ops := ops) (K := fun s => vc cf F n r (trim (cf.keep id) s)) ops.size 0 st (by omega)
          rw [List.range_eq_range', ← this]
          simpa using h
        rw [← hnt] at h'
        refine XO_sound hcf.te hcf.pt (by rw [hk]; exact hcf.kk) (fun _ => hgr) _ hR h' fun σ' st' a' w' hK hR' => ?_
        obtain ⟨σ2, hR2⟩ := Ent.trim cf.k (cf.keep id) st' A σ' a' w' hk hR'
        exact ih _ _ _ _ _ hK hR2
      · rename_i id ops
        refine wp_mono (hcf.dr _ _ _ _ h A σ a w id hnt hk hgr hR) fun e a' w' he => ?_
        obtain ⟨rfl, σ', st', hK, hR'⟩ := he
        obtain ⟨σ2, hR2⟩ := Ent.trim cf.k (cf.keep id) st' A σ' a' w' hk hR'
        exact ih _ _ _ _ _ hK hR2
      · rename_i c x y
        split at h
        · rename_i t ht
          have hv := hR.ev c
          rw [ht] at hv
          simp only [rel] at hv
          refine wp_cond_split hv (fun e => ?_) (fun e => ?_)
          · exact ih _ _ _ _ _ (h.1 e) hR
          · exact ih _ _ _ _ _ (h.2 e) hR
        · exact h.elim
      · rename_i id b
        refine wp_block (wp_mono (ih _ _ _ _ _ h hR) fun e a' w' he => ?_)
        cases e <;> exact he
      · rename_i b
        obtain ⟨ι, S, m, i0, h0, hS⟩ := h
        classical
        let I : Act → World → Prop := fun a w => ∃ i σ, Rel A σ (S i) a w
        let Pn : Act → World → Nat → Prop := fun a w x => ∃ i σ, m i = x ∧ Rel A σ (S i) a w
        have hmin : ∀ a w, I a w → ∃ x, Pn a w x ∧ ∀ y, Pn a w y → x ≤ y := by
          intro a w ⟨i, σ, hi⟩
          have key : ∀ x, Pn a w x → ∃ x, Pn a w x ∧ ∀ y, Pn a w y → x ≤ y := by
            intro x
            induction x using Nat.strongRecOn with
            | _ x ihx =>
              intro hx
              by_cases h : ∃ y, y < x ∧ Pn a w y
              · obtain ⟨y, hy, hp⟩ := h
                exact ihx y hy hp
              · exact ⟨x, hx, fun y hy => Nat.le_of_not_lt fun hlt => h ⟨y, hlt, hy⟩⟩
          exact key (m i) ⟨i, σ, rfl, hi⟩
        let μ : Act → World → Nat := fun a w => if h : I a w then Classical.choose (hmin a w h) else 0
        have hμ : ∀ a w (h : I a w), Pn a w (μ a w) ∧ ∀ y, Pn a w y → μ a w ≤ y := by
          intro a w h
          have : μ a w = Classical.choose (hmin a w h) := dif_pos h
          rw [this]
          exact Classical.choose_spec (hmin a w h)
        refine wp_loop I μ ?_ ?_
        · obtain ⟨σ', h'⟩ := h0 A σ a w hk hR
          exact ⟨i0, σ', h'⟩
        · intro a w hI
          obtain ⟨⟨i, σi, hm, hi⟩, _⟩ := hμ a w hI
          refine wp_mono (ih _ _ _ _ _ (hS i) hi) fun e a' w' he => ?_
          cases e with
          | normal =>
            obtain ⟨σ1, st1, ⟨j, hj, hE⟩, hR1⟩ := he
            obtain ⟨σ2, hR2⟩ := hE A σ1 a' w' hk hR1
            have hI' : I a' w' := ⟨j, σ2, hR2⟩
            exact ⟨hI', by
              have := (hμ a' w' hI').2 (m j) ⟨j, σ2, rfl, hR2⟩
              omega⟩
          | _ => exact he
      · split at h
        · rename_i r' hr'
          exact wp_exit (KP_exit hr' (ih _ _ _ _ _ h hR))
        · exact h.elim
      · exact h.elim

/-- What a result variable in memory holds. -/
def cellV (te : TE) (ctx : Ctx) (v : SV) (t : TypeId) : Option SV :=
  match v with
  | .ptr h i k => match ctx.at h, te t with
    | some ob, some ti => match ob.isMap, ti.td with
      | false, .other => none
      | true, _ => none
      | false, td => if i < ob.n then (if td.isStruct then (if k + ti.size ≤ ob.sz ∧ (ob.el i).length = ob.sz then some (.agg (((ob.el i).drop k).take ti.size)) else none)
        else (if k < ob.sz then some ((ob.el i).getD k .u) else none)) else none
    | _, _ => none
  | _ => none

def tupS : List SV → SV
  | [x] => x
  | l => .tup l

/-- A function's results, out of the temporaries and what they point to. -/
def resQ (te : TE) (st : St) (Q : SV → Ctx → Prop) : List ResultVar → List SV → Prop
  | [], acc => Q (tupS acc) st.ctx
  | .tmp t :: r, acc => resQ te st Q r (acc ++ [look st.env t])
  | .cell a t :: r, acc => match cellV te st.ctx (look st.env a) t with
    | some x => resQ te st Q r (acc ++ [x])
    | none => False

def resF (tmps : Array Value) : ResultVar → Sem Value
  | .tmp t => pure (tmps.getD t undef)
  | .cell x t => do loadVar t (← asAddr (tmps.getD x undef))

theorem results_eq (fn : Func) (tmps : Array Value) : results fn tmps = (do
    let vs ← fn.results.mapM (resF tmps)
    pure (if h : vs.size = 1 then vs[0] else .tuple vs)) := by
  unfold results
  congr

theorem cellV_sound {P : Program} {te : TE} (hte : teOk P te) {A : Amb} {σ : Asg} {st : St} {a : Act} {w : World} (hR : Rel A σ st a w) {x : Tmp} {t : TypeId} {z : SV} (h : cellV te st.ctx (look st.env x) t = some z) :
    ∃ u, rel σ z u ∧ (resF a.tmps (.cell x t)).run P w = .ok u w := by
  unfold cellV at h
  split at h
  case h_2 => cases h
  rename_i hh i k hv
  split at h
  case h_2 => cases h
  rename_i ob ti hob hti
  have hr := hR.env x
  rw [hv] at hr
  have key : ∀ (ho : ti.td ≠ .other) (hm : ob.isMap = false) (hi : i < ob.n), (if ti.td.isStruct then k + ti.size ≤ ob.sz ∧ (ob.el i).length = ob.sz else k < ob.sz) →
      z = (if ti.td.isStruct then .agg (((ob.el i).drop k).take ti.size) else (ob.el i).getD k .u) → ∃ u, rel σ z u ∧ (resF a.tmps (.cell x t)).run P w = .ok u w := by
    intro ho hm hi hk hz
    obtain ⟨u, h1, h2⟩ := load_sound hte hR hti ho hob hm hi hr hk
    subst hz
    refine ⟨u, h1, ?_⟩
    have h3 := h2 w fun _ _ => rfl
    simp only [rel] at hr
    obtain ⟨L, _, hp⟩ := hr
    rw [hp] at h3
    simp only [resF]
    rw [hp]
    simpa [Instr.loadAt, Instr.sureAddr, asAddr] using h3
  split at h
  · cases h
  · cases h
  · rename_i hm hne
    split at h
    · rename_i hi
      split at h
      · rename_i hs
        split at h
        · rename_i hk
          cases h
          exact key (fun e => hne e) hm hi (by rw [if_pos hs]; exact hk) (by rw [if_pos hs])
        · cases h
      · rename_i hs
        split at h
        · rename_i hk
          cases h
          exact key (fun e => hne e) hm hi (by rw [if_neg hs]; exact hk) (by rw [if_neg hs])
        · cases h
    · cases h

theorem resQ_sound {P : Program} {te : TE} (hte : teOk P te) {fn : Func} {A : Amb} {σ : Asg} {st : St} {a : Act} {w : World} (hR : Rel A σ st a w) {Q : SV → Ctx → Prop} (h : resQ te st Q fn.results.toList []) :
    ∃ z v, Q z st.ctx ∧ (results fn a.tmps).run P w = .ok v w ∧ rel σ z v := by
  have key : ∀ (l : List ResultVar) (acc : List SV) (us : List Value), relL σ acc us → resQ te st Q l acc →
      ∃ zs vs : _, Q (tupS zs) st.ctx ∧ relL σ zs (us ++ vs) ∧ (l.mapM (resF a.tmps)).run P w = .ok vs w := by
    intro l
    induction l with
    | nil => intro acc us hu h; exact ⟨acc, [], h, by simpa using hu, by simp⟩
    | cons x xs ih =>
      intro acc us hu h
      have app : ∀ (z : SV) (u : Value), rel σ z u → relL σ (acc ++ [z]) (us ++ [u]) := by
        intro z u hz
        refine relL_of_get (by simp [relL_length hu]) fun j y v hy hv => ?_
        have hl := relL_length hu
        by_cases hj : j < acc.length
        · rw [List.getElem?_append_left hj] at hy
          rw [List.getElem?_append_left (by omega)] at hv
          obtain ⟨v', h1, h2⟩ := relL_get hu hy
          rw [hv] at h1; cases h1; exact h2
        · rw [List.getElem?_append_right (by omega)] at hy
          rw [List.getElem?_append_right (by omega)] at hv
          have : j = acc.length := by
            rcases Nat.lt_or_ge (j - acc.length) 1 with h' | h'
            · omega
            · rw [List.getElem?_eq_none (by simpa using h')] at hy; cases hy
          subst this
          simp at hy
          rw [show acc.length - us.length = 0 from by omega] at hv
          simp at hv
          subst hy hv
          exact hz
      cases x with
      | tmp t =>
        simp only [resQ] at h
        obtain ⟨zs, vs, h1, h2, h3⟩ := ih (acc ++ [look st.env t]) (us ++ [a.tmps.getD t undef]) (app _ _ (hR.env t)) h
        refine ⟨zs, a.tmps.getD t undef :: vs, h1, by simpa using h2, ?_⟩
        simp only [List.mapM_cons, Sem.run_bind, resF, Sem.run_pure, Result.andThen_ok]
        rw [h3]
        simp
      | cell y t =>
        simp only [resQ] at h
        split at h
        case h_2 => exact h.elim
        rename_i z hz
        obtain ⟨u, hu1, hu2⟩ := cellV_sound hte hR hz
        obtain ⟨zs, vs, h1, h2, h3⟩ := ih (acc ++ [z]) (us ++ [u]) (app _ _ hu1) h
        refine ⟨zs, u :: vs, h1, by simpa using h2, ?_⟩
        rw [List.mapM_cons, Sem.run_bind, hu2]
        simp only [Result.andThen_ok, Sem.run_bind]
        rw [h3]
        simp
  obtain ⟨zs, vs, h0, h2, h1⟩ := key fn.results.toList [] [] (by simp [relL]) h
  simp only [List.nil_append] at h2
  have hrun : (results fn a.tmps).run P w = .ok (if h : vs.toArray.size = 1 then vs.toArray[0] else .tuple vs.toArray) w := by
    rw [results_eq, Sem.run_bind, Array.mapM_eq_mapM_toList]
    simp only [Sem.run_bind, map_eq_pure_bind, Sem.run_pure]
    rw [h1]
    simp
  refine ⟨tupS zs, _, h0, hrun, ?_⟩
  have hlen := relL_length h2
  unfold tupS
  split
  · rename_i x
    simp only [relL] at h2
    obtain ⟨v, r, rfl, h3, rfl⟩ := h2
    simpa using h3
  · rename_i hne
    rw [dif_neg]
    · simp only [rel]
      exact ⟨_, rfl, by simpa using h2⟩
    · intro h
      simp only [List.size_toArray] at h
      rw [h] at hlen
      match zs with
      | [] => simp at hlen
      | [x] => exact hne x rfl
      | _ :: _ :: _ => simp at hlen
end Go.Vg
end
section
set_option linter.unusedVariables false
set_option linter.unusedSimpArgs false
namespace Go.Vg
set_option linter.unusedSectionVars false
variable [Go.Vg.Glob]
set_option linter.unusedVariables false
set_option linter.unusedSimpArgs false
open Go.RowKit

/-- Blocks of the objects that may be written. -/
def rwB (pre : Ctx) (σ : Asg) (b : Nat) : Prop := ∃ h o L, pre.at h = some o ∧ o.ro = false ∧ σ h = some L ∧ L.b = b

structure PostOK (k : Nat) (pre : Ctx) (σ : Asg) (w : World) (z : SV) (v : Value) (c : Ctx) (σ' : Asg) (w' : World) : Prop where
  val : rel σ' z v
  sat : Sat σ' w' c
  len : pre.length ≤ c.length
  base : ∀ h, h < k → σ' h = σ h
  fr : Fr (rwB pre σ) w w'
  own : ∀ h o L, c.at h = some o → o.ro = false → σ' h = some L → rwB pre σ L.b ∨ w.heap.size ≤ L.b
  new : ∀ h o, k ≤ h → c.at h = some o → o.ro = false
  fzb : ∀ b o, σ.fz b = some o → σ'.fz b = some o
  fzn : ∀ b o, σ'.fz b = some o → σ.fz b = some o ∨ rwB pre σ b ∨ w.heap.size ≤ b

/-- A function's contract: from these arguments and objects on. The objects under the first 'k' numbers stay where they lie, the others may come to lie elsewhere. -/
def FnK (P : Program) (f : FuncId) (k : Nat) (args : List SV) (pre : Ctx) (Q : SV → Ctx → Prop) : Prop :=
  bodyOk P f ∧ ∀ (w : World) (σ : Asg) (vs : Array Value), Sat σ w pre → relL σ args vs.toList →
    Calls P f vs w fun e w' => ∃ v z c σ', e = .returned v ∧ Q z c ∧ PostOK k pre σ w z v c σ' w'

theorem FnK.mono {P : Program} {f : FuncId} {k : Nat} {args : List SV} {pre : Ctx} {Q Q' : SV → Ctx → Prop} (h : FnK P f k args pre Q) (hq : ∀ z c, Q z c → Q' z c) : FnK P f k args pre Q' :=
  ⟨h.1, fun w σ vs h1 h2 => (h.2 w σ vs h1 h2).mono fun e w' ⟨v, z, c, σ', e1, e2, e3⟩ => ⟨v, z, c, σ', e1, hq _ _ e2, e3⟩⟩

def entry : Nat → List SV → List (Tmp × SV)
  | _, [] => []
  | i, x :: xs => (i, x) :: entry (i + 1) xs

theorem look_entry : ∀ (l : List SV) (i t : Nat), look (entry i l) t = if i ≤ t ∧ t < i + l.length then l.getD (t - i) .u else .u
  | [], i, t => by simp [look, entry]
  | x :: xs, i, t => by
    simp only [look, entry]
    by_cases h : i = t
    · subst h; simp
    · rw [if_neg h, look_entry xs (i + 1) t]
      by_cases h2 : i ≤ t ∧ t < i + (x :: xs).length
      · obtain ⟨k, rfl⟩ : ∃ k, t = i + 1 + k := ⟨t - i - 1, by omega⟩
        simp only [List.length_cons] at h2
        rw [if_pos (by omega), if_pos (by simp only [List.length_cons]; omega)]
        rw [show i + 1 + k - (i + 1) = k from by omega, show i + 1 + k - i = k + 1 from by omega]
        simp
      · simp only [List.length_cons] at h2
        rw [if_neg (by omega), if_neg (by simp only [List.length_cons]; omega)]

def newRw (k : Nat) (c : Ctx) : Prop := ((c.drop k).all fun o => match o with | some x => !x.ro | none => true) = true

theorem newRw.get {k : Nat} {c : Ctx} (h : newRw k c) {j : Nat} {o : SO} (hj : k ≤ j) (ho : c.at j = some o) : o.ro = false := by
  unfold newRw at h
  rw [List.all_eq_true] at h
  have hlt : j < c.length := by
    rcases Nat.lt_or_ge j c.length with h' | h'
    · exact h'
    · rw [Ctx.at, List.getD_eq_getElem?_getD, List.getElem?_eq_none h'] at ho; cases ho
  have hm : (some o) ∈ c.drop k := by
    refine List.mem_of_getElem? (i := j - k) ?_
    rw [List.getElem?_drop, show k + (j - k) = j from by omega, List.getElem?_eq_getElem hlt]
    rw [Ctx.at, List.getD_eq_getElem?_getD, List.getElem?_eq_getElem hlt] at ho
    simpa using ho
  have := h _ hm
  simpa using this

/-- From a walk to a contract; 'F': what the walk brings about at its end. -/
theorem FnK.ofG {cf : Cf} (hcf : cf.ok) {f : FuncId} {fn : Func} {c : Code} (hf : cf.P.funcs[f]? = some fn) (hb : fn.body = some c) (hname : (fn.name == "runtime.NumGoroutine") = false)
    (hnt : fn.ntmps = cf.nt) {args : List SV} {pre : Ctx} (hlen : args.length ≤ cf.nt) (hk : cf.k ≤ pre.length) {rs : List ResultVar} (hrs : fn.results.toList = rs) {Q : SV → Ctx → Prop} {F : St → Prop} (hF : ∀ (A : Amb) (σ : Asg) (st : St) (a : Act) (w : World), A.k = cf.k → A.gr = true → F st → Rel A σ st a w → ∃ z v c σ2, Q z c ∧ (results fn a.tmps).run cf.P w = .ok v w ∧ rel σ2 z v ∧ Rel A σ2 ⟨[], c⟩ a w ∧ newRw cf.k c ∧ pre.length ≤ c.length) (n : Nat)
    (h : vc cf F n [.code c] ⟨entry 0 args, pre⟩) : FnK cf.P f cf.k args pre Q := by
  subst hrs
  refine ⟨⟨fn, hf, by simp [hb], hname⟩, fun w σ vs hsat hargs => ?_⟩
  have hl := relL_length hargs
  simp only [Array.length_toList] at hl
  let A : Amb := ⟨w, rwB pre σ, σ, cf.k, cf.nt, true⟩
  let a : Act := { tmps := vs ++ Array.replicate (fn.ntmps - vs.size) undef, defers := [] }
  have hR : Rel A σ ⟨entry 0 args, pre⟩ a w := by
    refine ⟨rfl, ?_, fun t => ?_, hsat, Fr.refl _ _, fun h o L h1 h2 h3 => .inl ⟨h, o, L, h1, h2, h3, rfl⟩, ⟨fun _ _ => rfl, fun _ _ h => h, fun _ _ h => .inl h⟩, hk⟩
    · simp [a, A]; omega
    · rw [look_entry]
      split
      · rename_i ht
        simp only [Nat.zero_add] at ht
        obtain ⟨v, hv, hr⟩ := relL_get hargs (j := t) (x := args[t]) (by simp [ht.2])
        have h1 : args.getD (t - 0) .u = args[t] := by simp [List.getD_eq_getElem?_getD, List.getElem?_eq_getElem ht.2]
        rw [h1]
        have h2 : a.tmps.getD t undef = v := by
          rw [Array.getElem?_toList] at hv
          simp only [a]
          rw [Array.getD_eq_getD_getElem?, Array.getElem?_append_left (by omega), hv]
          rfl
        rw [h2]
        exact hr
      · simp [rel]
  refine calls_of_wp hf hb ?_
  have hkp := vc_sound hcf (A := A) rfl rfl rfl n _ _ _ _ _ h hR
  simp only [KP] at hkp
  refine wp_mono hkp fun e a' w' he => ?_
  have fin : ∀ σ' st', (F st' ∧ Rel A σ' st' a' w') → a'.defers = [] ∧ ∃ v, (results fn a'.tmps).run cf.P w' = .ok v w' ∧
      ∃ v_1 z c σ', Ending.returned v = Ending.returned v_1 ∧ Q z c ∧ PostOK cf.k pre σ w z v_1 c σ' w' := by
    intro σ1 st' ⟨hq, hR1⟩
    obtain ⟨z, v, c, σ', hz, hv, hr, hR', hn, hl⟩ := hF A σ1 st' a' w' rfl rfl hq hR1
    exact ⟨hR'.defers, v, hv, v, z, _, σ', rfl, hz, hr, hR'.sat, hl, hR'.base.loc, hR'.fr, hR'.own, fun h o h1 h2 => hn.get h1 h2, hR'.base.fzb, fun b o h => (hR'.base.fzn b o h).imp id And.right⟩
  cases e with
  | normal =>
    simp only [KP] at he
    obtain ⟨σ', st', h1, h2⟩ := he
    exact fin σ' st' ⟨h1, h2⟩
  | ret =>
    simp only [KP] at he
    obtain ⟨σ', st', h1, h2⟩ := he
    exact fin σ' st' ⟨h1, h2⟩
  | _ => simp only [KP] at he

theorem FnK.of {cf : Cf} (hcf : cf.ok) {f : FuncId} {fn : Func} {c : Code} (hf : cf.P.funcs[f]? = some fn) (hb : fn.body = some c) (hname : (fn.name == "runtime.NumGoroutine") = false)
    (hnt : fn.ntmps = cf.nt) {args : List SV} {pre : Ctx} (hlen : args.length ≤ cf.nt) (hk : cf.k ≤ pre.length) {rs : List ResultVar} (hrs : fn.results.toList = rs) {Q : SV → Ctx → Prop} (n : Nat)
    (h : vc cf (fun st => resQ cf.te st Q rs [] ∧ newRw cf.k st.ctx ∧ pre.length ≤ st.ctx.length) n [.code c] ⟨entry 0 args, pre⟩) : FnK cf.P f cf.k args pre Q := by
  refine FnK.ofG hcf hf hb hname hnt hlen hk hrs (fun A σ st a w _ _ hF hR => ?_) n h
  obtain ⟨hq, hn, hl⟩ := hF
  rw [← hrs] at hq
  obtain ⟨z, v, hz, hv, hr⟩ := resQ_sound (P := cf.P) hcf.te hR hq
  exact ⟨z, v, _, σ, hz, hv, hr, ⟨hR.defers, hR.size, fun t => by simp [look, rel], hR.sat, hR.fr, hR.own, hR.base, hR.klen⟩, hn, hl⟩

theorem fz_up {σ : Asg} {w : World} {n : Nat} {ctx : Ctx} (hs : Sat σ w ctx) {b : Nat} {o : Obj} (hb : σ.fz b = some o) : (if n ≤ b then w.heap[b]? else σ.fz b) = some o := by
  split
  · exact hs.frz b o hb
  · exact hb

-- A value whose rows lie in new blocks, once those are frozen.
mutual
theorem frz_new {σ : Asg} {w : World} {n : Nat} {ctx : Ctx} (hs : Sat σ w ctx) (hnew : ∀ h o L, ctx.at h = some o → o.ro = false → σ h = some L → n ≤ L.b) (hrw : ∀ h o, ctx.at h = some o → o.ro = false) :
    ∀ {x : SV} {v : Value}, frzOk ctx x → (frzV ctx x).plain = true → rel σ x v → rel ⟨fun _ => none, fun b => if n ≤ b then w.heap[b]? else σ.fz b⟩ (frzV ctx x) v
  | .slc h lo len, v, hok, hp, hr => by
    have hr0 := hr
    simp only [frzV] at hp ⊢
    simp only [frzOk] at hok
    split at hp
    · rename_i ro sz n' f hob
      rw [hob] at hok
      obtain ⟨hn, hel⟩ := hok
      simp only [rel] at hr ⊢
      obtain ⟨a, cap, rfl, hl, hr⟩ := hr
      have hlen : (rowList f lo len).length = len := by simp [rowList]
      refine ⟨a, cap, by rw [hlen], by rw [hlen]; exact hl, ?_⟩
      by_cases h0 : len = 0
      · left; subst h0; rfl
      right
      rcases hr with hr | ⟨L, hL, rfl, hav⟩
      · omega
      have hobj := hs.obj h _ hob
      unfold objSat at hobj
      simp only [SO.isMap] at hobj
      rcases hobj with ⟨_, h1⟩ | ⟨L', c, e, fr, hL', hc⟩
      · rw [h1] at hL; cases hL
      rw [hL'] at hL
      cases hL
      have hsz : L.sz = sz := hc.lsz
      have hge : n ≤ L.b := hnew h _ L hob (hrw h _ hob) hL'
      refine ⟨L.b, L.sh + lo * L.sz + 0, c, e, fr, rfl, by simp only [if_pos hge]; exact hc.heap, relR_of_get fun j x hx => ?_⟩
      have hj : j < len := by rw [← hlen]; exact (List.getElem?_eq_some_iff.1 hx).1
      have hx' : x = f (lo + j) := by simpa [rowList, hj] using hx.symm
      subst hx'
      obtain ⟨e1, e2⟩ := hel j hj
      refine ⟨e1, ?_⟩
      have := cell_at hc (i := lo + j) (by omega) e1
      rw [List.drop_drop, hsz, show L.sh + lo * sz + 0 + j * sz = L.sh + (lo + j) * sz by rw [Nat.add_mul]; omega]
      exact relL_plain (fun b o hb => fz_up hs hb) e2 this
    · simp [SV.plain] at hp
  | .agg l, v, hok, hp, hr => by
    simp only [frzV, frzOk, SV.plain, rel] at hok hp hr ⊢
    obtain ⟨cs, e, hr⟩ := hr
    exact ⟨cs, e, frzL_new hs hnew hrw hok hp hr⟩
  | .tup l, v, hok, hp, hr => by
    simp only [frzV, frzOk, SV.plain, rel] at hok hp hr ⊢
    obtain ⟨cs, e, hr⟩ := hr
    exact ⟨cs, e, frzL_new hs hnew hrw hok hp hr⟩
  | .b _, _, _, hp, hr => rel_plain (fun b o hb => fz_up hs hb) hp hr
  | .i _ _, _, _, hp, hr => rel_plain (fun b o hb => fz_up hs hb) hp hr
  | .s _, _, _, hp, hr => rel_plain (fun b o hb => fz_up hs hb) hp hr
  | .ptr _ _ _, _, _, hp, hr => rel_plain (fun b o hb => fz_up hs hb) hp hr
  | .nils, _, _, hp, hr => rel_plain (fun b o hb => fz_up hs hb) hp hr
  | .mp _, _, _, hp, hr => rel_plain (fun b o hb => fz_up hs hb) hp hr
  | .fn _, _, _, hp, hr => rel_plain (fun b o hb => fz_up hs hb) hp hr
  | .gd _ _, _, _, hp, hr => rel_plain (fun b o hb => fz_up hs hb) hp hr
  | .u, _, _, hp, hr => rel_plain (fun b o hb => fz_up hs hb) hp hr
  | .fs _ _, _, _, hp, hr => rel_plain (fun b o hb => fz_up hs hb) hp hr
  | .fp _ _, _, _, hp, hr => rel_plain (fun b o hb => fz_up hs hb) hp hr
theorem frzL_new {σ : Asg} {w : World} {n : Nat} {ctx : Ctx} (hs : Sat σ w ctx) (hnew : ∀ h o L, ctx.at h = some o → o.ro = false → σ h = some L → n ≤ L.b) (hrw : ∀ h o, ctx.at h = some o → o.ro = false) :
    ∀ {x : List SV} {v : List Value}, frzOkL ctx x → plainL (frzVL ctx x) = true → relL σ x v → relL ⟨fun _ => none, fun b => if n ≤ b then w.heap[b]? else σ.fz b⟩ (frzVL ctx x) v
  | [], _, _, _, hr => by simpa [relL, frzVL] using hr
  | x :: xs, _, hok, hp, hr => by
    simp only [relL, frzVL, plainL, frzOkL, Bool.and_eq_true] at hok hp hr ⊢
    obtain ⟨v, q, e, r1, r2⟩ := hr
    exact ⟨v, q, e, frz_new hs hnew hrw hok.1 hp.1 r1, frzL_new hs hnew hrw hok.2 hp.2 r2⟩
end

/-! Functions on values without handles. -/

/-- What a function's rows hold at its end, frozen for good. -/
def FnZ (P : Program) (f : FuncId) (args : List SV) (z : SV) : Prop := FnK P f 0 args [] fun z' c => frzOk c z' ∧ frzV c z' = z

/-- A function of values without handles that turns nothing. -/
def PF (P : Program) (f : FuncId) (args : List SV) (z : SV) : Prop := plainL args = true ∧ z.plain = true ∧ FnZ P f args z

theorem sat_nil (w : World) {fz : Nat → Option Obj} (h : ∀ b o, fz b = some o → w.heap[b]? = some o) (hg : ∀ b o, Glob.g b = some o → fz b = some o) : Sat ⟨fun _ => none, fz⟩ w [] :=
  ⟨fun h o e => (by simp [Ctx.at] at e), fun h h' o o' L L' _ e => (by simp [Ctx.at] at e), fun _ _ => rfl, fun _ _ e => (by cases e), h, fun h o L e => (by simp [Ctx.at] at e), hg⟩

theorem not_rwB_nil {σ : Asg} {b : Nat} : ¬ rwB [] σ b := by
  rintro ⟨h, o, L, hh, _⟩
  simp [Ctx.at] at hh

/-- Rows that nobody else knows of, frozen for good as a function ends. -/
theorem froze_post {pre : Ctx} {σ : Asg} {w : World} {z : SV} {v : Value} {c : Ctx} {σ' : Asg} {w' : World} (p : PostOK 0 pre σ w z v c σ' w') (hok : frzOk c z) (hp : (frzV c z).plain = true)
    (hall : pre = []) : ∃ σ'', PostOK 0 pre σ w (frzV c z) v [] σ'' w' := by
  subst hall
  have hfz : ∀ b o, σ'.fz b = some o → w'.heap[b]? = some o := p.sat.frz
  refine ⟨⟨fun _ => none, fun b => if w.heap.size ≤ b then w'.heap[b]? else σ'.fz b⟩, ?_, ?_, Nat.le_refl _, fun h hh => absurd hh (Nat.not_lt_zero _), p.fr, fun h o L e => by simp [Ctx.at] at e, fun h o _ e => by simp [Ctx.at] at e, fun b o hb => ?_, fun b o hb => ?_⟩
  · -- the value, by blocks that are new or were frozen
    exact frz_new p.sat (fun h o L e r s => (p.own h o L e r s).resolve_left not_rwB_nil) (fun h o e => p.new h o (Nat.zero_le _) e) hok hp p.val
  · refine ⟨fun h o e => (by simp [Ctx.at] at e), fun h h' o o' L L' _ e => (by simp [Ctx.at] at e), fun _ _ => rfl, fun _ _ e => (by cases e), fun b o hb => ?_, fun h o L e => (by simp [Ctx.at] at e), fun b o hb => ?_⟩
    simp only at hb
    split at hb
    · exact hb
    · exact hfz b o hb
    have hb' := p.sat.glb b o hb
    simp only
    split
    · exact hfz b o hb'
    · exact hb'
  · simp only
    split
    · exact hfz b o (p.fzb b o hb)
    · exact p.fzb b o hb
  · simp only at hb
    split at hb
    · rename_i h; exact .inr (.inr h)
    · exact p.fzn b o hb

theorem PF.call {P : Program} {f : FuncId} {args : List SV} {z : SV} (h : PF P f args z) : CallPure P f args z := by
  obtain ⟨h1, h2, hb, h3⟩ := h
  refine ⟨hb, h1, h2, fun fz w vs hfz hgl hargs => ?_⟩
  refine (h3 w ⟨fun _ => none, fz⟩ vs (sat_nil w hfz hgl) hargs).mono fun e w' ⟨v, z', c, σ', e1, ⟨e2, e3⟩, p⟩ => ?_
  subst e3
  obtain ⟨σ'', p⟩ := froze_post p e2 h2 rfl
  exact ⟨v, σ''.fz, e1, rel_plain (σ := σ'') (σ' := ⟨fun _ => none, σ''.fz⟩) (fun _ _ h => h) h2 p.val, p.fr.mono fun b _ hb => (not_rwB_nil hb).elim, p.fzb, p.sat.frz,
    fun b o hb => (p.fzn b o hb).imp id fun h => h.resolve_left not_rwB_nil⟩

/-- Objects as another function's numbers call them. -/
def SO.mapH (μ : Nat → Nat) : SO → SO
  | .row r z n f => .row r z n fun i => mapHL μ (f i)
  | .blk r cs => .blk r (mapHL μ cs)
  | o => o

/-- 'o0' tells no more than 'o', up to the handles' numbers. -/
structure soLe (μ : Nat → Nat) (o0 o : SO) : Prop where
  ro : o0.ro = false → o.ro = false
  isMap : o0.isMap = o.isMap
  sz : o0.sz = o.sz
  n : o0.n ≤ o.n
  ents : o0.ents = o.ents
  el : ∀ i, i < o0.n → mapHL μ (o0.el i) = o.el i

/-- Handles of a callee, in the caller's numbers: 'l' those that it was handed, then the new ones. -/
def muL (l : List Nat) (m : Nat) (h : Nat) : Nat := match l[h]? with
  | some g => g
  | none => m + (h - l.length)

def ctxMap (μ : Nat → Nat) (ctx : Ctx) : List Nat → Ctx → Prop
  | [], [] => True
  | g :: l, o0 :: pre => g < ctx.length ∧ (match o0 with
    | none => False
    | some o0 => match ctx.at g with
      | some o => soLe μ o0 o
      | none => False) ∧ ctxMap μ ctx l pre
  | _, _ => False

/-- What may be written is handed once only. -/
def once (l : List Nat) (pre : Ctx) : Prop := (pre.all fun o => match o with | some x => x.ro | none => true) = true ∨ l.Nodup

def upd (μ : Nat → Nat) : List Nat → Ctx → Ctx → Ctx → Ctx
  | g :: l, some o :: pre, x :: c, ctx => upd μ l pre c (if o.ro = false then ctx.set g (x.map (SO.mapH μ)) else ctx)
  | _ :: l, none :: pre, _ :: c, ctx => upd μ l pre c ctx
  | _, _, _, ctx => ctx

theorem at_cons_succ (x : Option SO) (c : Ctx) (h : Nat) : Ctx.at (x :: c) (h + 1) = Ctx.at c h := by simp [Ctx.at]
theorem at_cons_zero (x : Option SO) (c : Ctx) : Ctx.at (x :: c) 0 = x := by simp [Ctx.at]
theorem at_set' {c : Ctx} {i j : Nat} {x : Option SO} : Ctx.at (c.set i x) j = if i = j ∧ i < c.length then x else Ctx.at c j := by
  simp only [Ctx.at, List.getD_eq_getElem?_getD, List.getElem?_set]
  by_cases h : i = j
  · subst h
    by_cases h2 : i < c.length
    · simp [h2]
    · simp [h2, List.getElem?_eq_none (Nat.le_of_not_lt h2)]
  · simp [h]

theorem upd_length (μ : Nat → Nat) : ∀ (l : List Nat) (pre c ctx : Ctx), (upd μ l pre c ctx).length = ctx.length
  | [], _, _, _ => by simp [upd]
  | _ :: _, [], _, _ => by simp [upd]
  | _ :: _, some _ :: _, [], _ => by simp [upd]
  | _ :: _, none :: _, [], _ => by simp [upd]
  | g :: l, some o :: pre, x :: c, ctx => by
    simp only [upd]
    rw [upd_length μ l pre c]
    split <;> simp
  | g :: l, none :: pre, x :: c, ctx => by
    simp only [upd]
    rw [upd_length μ l pre c]

theorem upd_ne (μ : Nat → Nat) (g : Nat) : ∀ (l : List Nat) (pre c ctx : Ctx), (∀ h o, l[h]? = some g → Ctx.at pre h = some o → o.ro = true) → Ctx.at (upd μ l pre c ctx) g = Ctx.at ctx g
  | [], _, _, _, _ => by simp [upd]
  | _ :: _, [], _, _, _ => by simp [upd]
  | _ :: _, some _ :: _, [], _, _ => by simp [upd]
  | _ :: _, none :: _, [], _, _ => by simp [upd]
  | g' :: l, some o :: pre, x :: c, ctx, hh => by
    simp only [upd]
    rw [upd_ne μ g l pre c _ fun h o h1 h2 => hh (h + 1) o (by simpa using h1) (by rw [at_cons_succ]; exact h2)]
    split
    · rename_i hro
      rw [at_set']; rw [if_neg]
      rintro ⟨rfl, _⟩
      have := hh 0 o rfl (at_cons_zero _ _)
      rw [hro] at this; cases this
    · rfl
  | g' :: l, none :: pre, x :: c, ctx, hh => by
    simp only [upd]
    exact upd_ne μ g l pre c _ fun h o h1 h2 => hh (h + 1) o (by simpa using h1) (by rw [at_cons_succ]; exact h2)

theorem upd_eq (μ : Nat → Nat) {g : Nat} {o : SO} (hro : o.ro = false) : ∀ (l : List Nat) (pre c ctx : Ctx) (h : Nat), l.Nodup → l[h]? = some g → Ctx.at pre h = some o → g < ctx.length → h < c.length → Ctx.at (upd μ l pre c ctx) g = (Ctx.at c h).map (SO.mapH μ)
  | [], _, _, _, h, _, h1, _, _, _ => by simp at h1
  | _ :: _, [], _, _, h, _, _, h2, _, _ => by simp [Ctx.at] at h2
  | _ :: _, some _ :: _, [], _, h, _, _, _, _, h4 => by simp at h4
  | _ :: _, none :: _, [], _, h, _, _, _, _, h4 => by simp at h4
  | g' :: l, some o' :: pre, x :: c, ctx, 0, hn, h1, h2, h3, h4 => by
    simp only [upd]
    simp at h1
    subst h1
    rw [at_cons_zero] at h2
    cases h2
    rw [upd_ne μ g' l pre c _ fun h o h1 h2 => ?_]
    · rw [if_pos hro, at_set', if_pos ⟨rfl, h3⟩, at_cons_zero]
    · rw [List.nodup_cons] at hn
      exact absurd (List.mem_of_getElem? h1) hn.1
  | g' :: l, none :: pre, x :: c, ctx, 0, hn, h1, h2, h3, h4 => by
    rw [at_cons_zero] at h2; cases h2
  | g' :: l, some o' :: pre, x :: c, ctx, h + 1, hn, h1, h2, h3, h4 => by
    simp only [upd]
    rw [at_cons_succ] at h2
    rw [at_cons_succ]
    rw [List.nodup_cons] at hn
    exact upd_eq μ hro l pre c _ h hn.2 (by simpa using h1) h2 (by split <;> simpa using h3) (by simpa using h4)
  | g' :: l, none :: pre, x :: c, ctx, h + 1, hn, h1, h2, h3, h4 => by
    simp only [upd]
    rw [at_cons_succ] at h2
    rw [at_cons_succ]
    rw [List.nodup_cons] at hn
    exact upd_eq μ hro l pre c _ h hn.2 (by simpa using h1) h2 h3 (by simpa using h4)

def mergeC (μ : Nat → Nat) (l : List Nat) (pre c ctx : Ctx) : Ctx := upd μ l pre c ctx ++ (c.drop pre.length).map fun o => o.map (SO.mapH μ)

theorem ctxMap_get {μ : Nat → Nat} {ctx : Ctx} : ∀ {l : List Nat} {pre : Ctx}, ctxMap μ ctx l pre → l.length = pre.length ∧ ∀ h g, l[h]? = some g → g < ctx.length ∧ (Ctx.at pre h).isSome = true ∧ ∀ o0, Ctx.at pre h = some o0 → ∃ o, ctx.at g = some o ∧ soLe μ o0 o
  | [], [], _ => ⟨rfl, fun h g hg => by simp at hg⟩
  | g :: l, o0 :: pre, hm => by
    simp only [ctxMap] at hm
    obtain ⟨h1, h2, h3⟩ := hm
    obtain ⟨hl, hh⟩ := ctxMap_get h3
    refine ⟨by simp [hl], fun h g' hg => ?_⟩
    cases h with
    | zero =>
      simp at hg
      subst hg
      refine ⟨h1, by rw [at_cons_zero]; cases o0 with | none => exact h2.elim | some _ => rfl, fun o0' ho => ?_⟩
      rw [at_cons_zero] at ho
      subst ho
      simp only at h2
      split at h2
      · rename_i o e; exact ⟨o, e, h2⟩
      · exact h2.elim
    | succ h =>
      rw [at_cons_succ]
      exact hh h g' (by simpa using hg)
  | [], _ :: _, h => by simp [ctxMap] at h
  | _ :: _, [], h => by simp [ctxMap] at h

theorem entsRel_le {σ : Asg} {a b : List (SV × SV)} (h : a = b) {es : List MapEntry} (r : entsRel σ b es) : entsRel σ a es := h ▸ r

theorem getD_mapHL (μ : Nat → Nat) (l : List SV) (k : Nat) : (mapHL μ l).getD k .u = (l.getD k .u).mapH μ := by
  rw [mapHL_eq]
  simp only [List.getD_eq_getElem?_getD, List.getElem?_map]
  cases l[k]? <;> simp [SV.mapH]

theorem SO.ents_mapH (μ : Nat → Nat) (o : SO) : (o.mapH μ).ents = o.ents := by cases o <;> rfl
theorem SO.ro_mapH (μ : Nat → Nat) (o : SO) : (o.mapH μ).ro = o.ro := by cases o <;> rfl
theorem SO.isMap_mapH (μ : Nat → Nat) (o : SO) : (o.mapH μ).isMap = o.isMap := by cases o <;> rfl
theorem SO.n_mapH (μ : Nat → Nat) (o : SO) : (o.mapH μ).n = o.n := by cases o <;> rfl
theorem SO.sz_mapH (μ : Nat → Nat) (o : SO) : (o.mapH μ).sz = o.sz := by cases o <;> simp [SO.mapH, SO.sz, mapHL_eq]
theorem SO.el_mapH (μ : Nat → Nat) (o : SO) (i : Nat) : (o.mapH μ).el i = mapHL μ (o.el i) := by cases o <;> simp [SO.mapH, SO.el, mapHL]

theorem ents_plain {σ σ' : Asg} : ∀ {l : List (SV × SV)} {es : List MapEntry}, (∀ p ∈ l, p.1.bit = true ∧ p.2.bit = true) → entsRel σ l es → entsRel σ' l es
  | [], _, _, h => by simpa [entsRel] using h
  | p :: ps, es, hp, h => by
    simp only [entsRel] at h ⊢
    obtain ⟨e, r, h1, h2, h3, h4⟩ := h
    exact ⟨e, r, h1, rel_bit (hp p (by simp)).1 h2, rel_bit (hp p (by simp)).2 h3, ents_plain (fun q hq => hp q (by simp [hq])) h4⟩

theorem SO.ents_isPlain (o : SO) : ∀ p ∈ o.ents, p.1.bit = true ∧ p.2.bit = true := by
  cases o <;> simp [SO.ents]
  all_goals (intros; subst_vars; simp [SV.bit])

/-- An object that lies under 'σ (μ h)' is told under the caller's number 'μ h', and the other way about. -/
theorem objSat_up {σ σ0 : Asg} {μ : Nat → Nat} (hσ : ∀ h, σ (μ h) = σ0 h) (hfz : σ0.fz = σ.fz) {w : World} {h : Nat} {o : SO} (hs : objSat σ0 w h o) : objSat σ w (μ h) (o.mapH μ) := by
  have e : σ0 = σ.ren μ := by
    obtain ⟨l0, f0⟩ := σ0
    simp only [Asg.ren, Asg.mk.injEq]
    exact ⟨funext fun h => (hσ h).symm, hfz⟩
  unfold objSat at hs ⊢
  rw [SO.isMap_mapH]
  cases hm : o.isMap with
  | true =>
    rw [hm] at hs
    obtain ⟨L, es, ck, h1, h2, h3⟩ := hs
    refine ⟨L, es, ck, (hσ h).trans h1, h2, ?_⟩
    rw [SO.ents_mapH]
    exact ents_plain o.ents_isPlain h3
  | false =>
    rw [hm] at hs
    rcases hs with ⟨h1, h2⟩ | ⟨L, c, el, fr, h1, h2⟩
    · exact .inl ⟨by rw [SO.n_mapH]; exact h1, (hσ h).trans h2⟩
    · refine .inr ⟨L, c, el, fr, (hσ h).trans h1, h2.heap, by rw [SO.sz_mapH]; exact h2.lsz, h2.room, by rw [SO.n_mapH, SO.sz_mapH]; exact h2.fits, fun i k hi hk => ?_, fun hr => h2.free (by rw [SO.ro_mapH] at hr; exact hr)⟩
      rw [SO.n_mapH] at hi
      rw [SO.sz_mapH] at hk
      obtain ⟨v, hv, hrel⟩ := h2.cell i k hi hk
      rw [SO.sz_mapH]
      refine ⟨v, hv, ?_⟩
      rw [SO.el_mapH, getD_mapHL, rel_mapH]
      exact e ▸ hrel

theorem objSat_down {σ σ0 : Asg} {μ : Nat → Nat} (hσ : ∀ h, σ (μ h) = σ0 h) (hfz : σ0.fz = σ.fz) {w : World} {h : Nat} {o0 o : SO} (hle : soLe μ o0 o) (hs : objSat σ w (μ h) o) : objSat σ0 w h o0 := by
  have e : σ0 = σ.ren μ := by
    obtain ⟨l0, f0⟩ := σ0
    simp only [Asg.ren, Asg.mk.injEq]
    exact ⟨funext fun h => (hσ h).symm, hfz⟩
  unfold objSat at hs ⊢
  rw [hle.isMap]
  cases hm : o.isMap with
  | true =>
    rw [hm] at hs
    obtain ⟨L, es, ck, h1, h2, h3⟩ := hs
    refine ⟨L, es, ck, (hσ h).symm.trans h1, h2, ?_⟩
    rw [hle.ents]
    exact ents_plain o.ents_isPlain h3
  | false =>
    rw [hm] at hs
    rcases hs with ⟨h1, h2⟩ | ⟨L, c, el, fr, h1, h2⟩
    · exact .inl ⟨by have := hle.n; omega, (hσ h).symm.trans h2⟩
    · refine .inr ⟨L, c, el, fr, (hσ h).symm.trans h1, h2.heap, by rw [hle.sz]; exact h2.lsz, h2.room, by rw [hle.sz]; exact Nat.le_trans (Nat.mul_le_mul_right _ hle.n) h2.fits, fun i k hi hk => ?_, fun hr => h2.free (hle.ro hr)⟩
      rw [hle.sz] at hk
      obtain ⟨v, hv, hrel⟩ := h2.cell i k (Nat.lt_of_lt_of_le hi hle.n) hk
      rw [hle.sz]
      refine ⟨v, hv, ?_⟩
      rw [← hle.el i hi, getD_mapHL, rel_mapH] at hrel
      exact e ▸ hrel
end Go.Vg
end
section
set_option linter.unusedVariables false
set_option linter.unusedSimpArgs false
namespace Go.Vg
set_option linter.unusedSectionVars false
variable [Go.Vg.Glob]
set_option linter.unusedVariables false
set_option linter.unusedSimpArgs false
open Go.RowKit

theorem at_app' (a b : Ctx) (g : Nat) : Ctx.at (a ++ b) g = if g < a.length then Ctx.at a g else Ctx.at b (g - a.length) := by
  simp only [Ctx.at, List.getD_eq_getElem?_getD, List.getElem?_append]
  split <;> rfl

theorem at_map_drop (μ : Nat → Nat) (c : Ctx) (k j : Nat) : Ctx.at ((c.drop k).map fun o => o.map (SO.mapH μ)) j = (Ctx.at c (k + j)).map (SO.mapH μ) := by
  simp only [Ctx.at, List.getD_eq_getElem?_getD, List.getElem?_map, List.getElem?_drop]
  cases c[k + j]? <;> simp

-- Values that do not speak of some handles.
mutual
def noH (B : List Nat) : SV → Bool
  | .ptr h _ _ => !B.contains h
  | .slc h _ _ => !B.contains h
  | .mp h => !B.contains h
  | .agg l => noHL B l
  | .tup l => noHL B l
  | .gd _ x => noH B x
  | _ => true
def noHL (B : List Nat) : List SV → Bool
  | [] => true
  | x :: xs => noH B x && noHL B xs
end
theorem noHL_get {B : List Nat} : ∀ {l : List SV}, noHL B l = true → ∀ k, noH B (l.getD k .u) = true
  | [], _, k => by simp [noH]
  | x :: xs, h, k => by
    simp only [noHL, Bool.and_eq_true] at h
    cases k with
    | zero => simpa using h.1
    | succ k => simpa using noHL_get h.2 k
mutual
theorem noH_nil : ∀ (x : SV), noH [] x = true
  | .ptr _ _ _ => by simp [noH]
  | .slc _ _ _ => by simp [noH]
  | .mp _ => by simp [noH]
  | .agg l => by simp only [noH]; exact noHL_nil l
  | .tup l => by simp only [noH]; exact noHL_nil l
  | .gd _ x => by simp only [noH]; exact noH_nil x
  | .b _ => rfl
  | .i _ _ => rfl
  | .s _ => rfl
  | .nils => rfl
  | .fn _ => rfl
  | .u => rfl
  | .fs _ _ => rfl
  | .fp _ _ => rfl
theorem noHL_nil : ∀ (x : List SV), noHL [] x = true
  | [] => rfl
  | x :: xs => by simp only [noHL, noH_nil x, noHL_nil xs, Bool.and_self]
end

mutual
theorem rel_off {σ σ' : Asg} {B : List Nat} (h1 : ∀ h L, B.contains h = false → σ h = some L → σ' h = some L) (h2 : ∀ b o, σ.fz b = some o → σ'.fz b = some o) : ∀ {x : SV} {v : Value}, noH B x = true → rel σ x v → rel σ' x v
  | .b _, _, _, r => by simpa [rel] using r
  | .i _ _, _, _, r => by simpa [rel] using r
  | .s _, _, _, r => by simpa [rel] using r
  | .nils, _, _, r => by simpa [rel] using r
  | .fn _, _, _, r => by simpa [rel] using r
  | .u, _, _, r => by simp [rel]
  | .ptr _ _ _, _, h, r => by
    simp only [noH, Bool.not_eq_true'] at h
    simp only [rel] at r ⊢
    obtain ⟨L, e, r⟩ := r
    exact ⟨L, h1 _ _ h e, r⟩
  | .slc _ _ _, _, h, r => by
    simp only [noH, Bool.not_eq_true'] at h
    simp only [rel] at r ⊢
    obtain ⟨a, cap, e, hl, r⟩ := r
    exact ⟨a, cap, e, hl, r.imp id fun ⟨L, e, r⟩ => ⟨L, h1 _ _ h e, r⟩⟩
  | .mp _, _, h, r => by
    simp only [noH, Bool.not_eq_true'] at h
    simp only [rel] at r ⊢
    obtain ⟨L, e, r⟩ := r
    exact ⟨L, h1 _ _ h e, r⟩
  | .fs sz l, _, _, r => rel_plain h2 (x := .fs sz l) rfl r
  | .fp l k, _, _, r => rel_plain h2 (x := .fp l k) rfl r
  | .agg l, _, h, r => by
    simp only [rel, noH] at r h ⊢
    obtain ⟨cs, e, r⟩ := r
    exact ⟨cs, e, relL_off h1 h2 h r⟩
  | .tup l, _, h, r => by
    simp only [rel, noH] at r h ⊢
    obtain ⟨cs, e, r⟩ := r
    exact ⟨cs, e, relL_off h1 h2 h r⟩
  | .gd _ x, _, h, r => by
    simp only [rel, noH] at r h ⊢
    exact ⟨fun g => rel_off h1 h2 h (r.1 g), r.2⟩
theorem relL_off {σ σ' : Asg} {B : List Nat} (h1 : ∀ h L, B.contains h = false → σ h = some L → σ' h = some L) (h2 : ∀ b o, σ.fz b = some o → σ'.fz b = some o) : ∀ {x : List SV} {v : List Value}, noHL B x = true → relL σ x v → relL σ' x v
  | [], _, _, r => by simpa [relL] using r
  | _ :: _, _, h, r => by
    simp only [relL, noHL, Bool.and_eq_true] at r h ⊢
    obtain ⟨v, q, e, r1, r2⟩ := r
    exact ⟨v, q, e, rel_off h1 h2 h.1 r1, relL_off h1 h2 h.2 r2⟩
end

def cleanO (B : List Nat) : SO → Prop
  | .row _ _ n f => ∀ i, i < n → noHL B (f i) = true
  | .blk _ cs => noHL B cs = true
  | _ => True

theorem objSat_off {σ σ' : Asg} {B : List Nat} (h1 : ∀ h L, B.contains h = false → σ h = some L → σ' h = some L) (h2 : ∀ b o, σ.fz b = some o → σ'.fz b = some o) {w w' : World} {h : Nat} {o : SO} (hcl : cleanO B o) (hh : σ' h = σ h)
    (hb : ∀ L, σ h = some L → w'.heap[L.b]? = w.heap[L.b]?) (hs : objSat σ w h o) : objSat σ' w' h o := by
  unfold objSat at *
  cases hm : o.isMap with
  | true =>
    rw [hm] at hs
    obtain ⟨L, es, ck, g1, g2, g3⟩ := hs
    exact ⟨L, es, ck, hh.trans g1, (hb L g1).trans g2, ents_plain o.ents_isPlain g3⟩
  | false =>
    rw [hm] at hs
    rcases hs with ⟨g1, g2⟩ | ⟨L, c, e, fr, g1, g2⟩
    · exact .inl ⟨g1, hh.trans g2⟩
    · refine .inr ⟨L, c, e, fr, hh.trans g1, ⟨(hb L g1).trans g2.heap, g2.lsz, g2.room, g2.fits, fun i k hi hk => ?_, g2.free⟩⟩
      obtain ⟨v, e1, e2⟩ := g2.cell i k hi hk
      refine ⟨v, e1, rel_off h1 h2 ?_ e2⟩
      cases o with
      | row ro sz n f => exact noHL_get (hcl i hi) k
      | blk ro cs => exact noHL_get hcl k
      | mapS l => cases hm
      | mapI l => cases hm

/-- Handles that the callee may have written. -/
def upds : List Nat → Ctx → List Nat
  | g :: l, some o :: pre => if o.ro then upds l pre else g :: upds l pre
  | _ :: l, none :: pre => upds l pre
  | _, _ => []

theorem upds_mem : ∀ {l : List Nat} {pre : Ctx} {g : Nat}, g ∈ upds l pre → ∃ h o, l[h]? = some g ∧ Ctx.at pre h = some o ∧ o.ro = false
  | [], _, g, h => by simp [upds] at h
  | _ :: _, [], g, h => by simp [upds] at h
  | g' :: l, some o :: pre, g, h => by
    simp only [upds] at h
    split at h
    · obtain ⟨j, p, h1, h2, h3⟩ := upds_mem h
      exact ⟨j + 1, p, by simpa using h1, by rw [at_cons_succ]; exact h2, h3⟩
    · rename_i hro
      rcases List.mem_cons.1 h with rfl | h
      · exact ⟨0, o, rfl, at_cons_zero _ _, by simpa using hro⟩
      · obtain ⟨j, p, h1, h2, h3⟩ := upds_mem h
        exact ⟨j + 1, p, by simpa using h1, by rw [at_cons_succ]; exact h2, h3⟩
  | g' :: l, none :: pre, g, h => by
    simp only [upds] at h
    obtain ⟨j, p, h1, h2, h3⟩ := upds_mem h
    exact ⟨j + 1, p, by simpa using h1, by rw [at_cons_succ]; exact h2, h3⟩

def cleanC (B U : List Nat) : Nat → Ctx → Prop
  | _, [] => True
  | i, o :: r => (U.contains i = true ∨ match o with | some o => cleanO B o | none => True) ∧ cleanC B U (i + 1) r

theorem cleanC_get {B U : List Nat} : ∀ {c : Ctx} {i g : Nat} {o : SO}, cleanC B U i c → Ctx.at c g = some o → U.contains (i + g) = true ∨ cleanO B o
  | [], i, g, o, _, e => by simp [Ctx.at] at e
  | x :: r, i, 0, o, h, e => by
    rw [at_cons_zero] at e
    subst e
    exact h.1
  | x :: r, i, g + 1, o, h, e => by
    rw [at_cons_succ] at e
    have := cleanC_get h.2 e
    rwa [show i + 1 + g = i + (g + 1) from by omega] at this

theorem cleanO_nil (o : SO) : cleanO [] o := by
  cases o with
  | row ro sz n f => exact fun i _ => noHL_nil _
  | blk ro cs => exact noHL_nil _
  | _ => trivial

theorem cleanC_nil {U : List Nat} : ∀ {i : Nat} {c : Ctx}, cleanC [] U i c
  | _, [] => trivial
  | i, o :: r => ⟨.inr (by cases o <;> first | trivial | exact cleanO_nil _), cleanC_nil⟩

def maskE (B : List Nat) (env : List (Tmp × SV)) : List (Tmp × SV) := env.map fun p => (p.1, if noH B p.2 then p.2 else .u)

theorem look_maskE {B : List Nat} : ∀ (env : List (Tmp × SV)) (t : Tmp), (look (maskE B env) t = look env t ∧ noH B (look env t) = true) ∨ look (maskE B env) t = .u
  | [], t => .inr rfl
  | (u, x) :: r, t => by
    simp only [maskE, List.map_cons, look]
    by_cases h : u = t
    · rw [if_pos h, if_pos h]
      by_cases hx : noH B x = true
      · rw [if_pos hx]; exact .inl ⟨rfl, hx⟩
      · rw [if_neg hx]; exact .inr rfl
    · rw [if_neg h, if_neg h]
      exact look_maskE r t

theorem maskE_nil (env : List (Tmp × SV)) : maskE [] env = env := by
  unfold maskE
  simp [noH_nil]

theorem XCall.of {P : Program} {f : FuncId} {k : Nat} {args0 : List SV} {pre : Ctx} {Q0 : SV → Ctx → Prop} (hF : FnK P f k args0 pre Q0) {args : List SV} {kk : Nat} {st : St} (l : List Nat) {K : SV → St → Prop}
    (hargs : args = mapHL (muL l st.ctx.length) args0) (hmap : ctxMap (muL l st.ctx.length) st.ctx l pre) (honce : once l pre) (hrw : newRw k pre) (hfix : (l.drop k).all (fun g => decide (kk ≤ g)) = true) (hnd : l.drop k = [] ∨ l.Nodup)
    (hclean : cleanC (l.drop k) (upds l pre) 0 st.ctx)
    (hK : ∀ z0 c0, Q0 z0 c0 → K (z0.mapH (muL l st.ctx.length)) ⟨maskE (l.drop k) st.env, mergeC (muL l st.ctx.length) l pre c0 st.ctx⟩) : XCall P f args kk st K := by
  obtain ⟨hb, hF⟩ := hF
  refine ⟨hb, fun A σ a w vs hAk hgr hR hvs => ?_⟩
  obtain ⟨hlen, hget⟩ := ctxMap_get hmap
  generalize hμ : muL l st.ctx.length = μ at *
  have μold : ∀ h g, l[h]? = some g → μ h = g := by intro h g hg; rw [← hμ]; simp [muL, hg]
  have μnew : ∀ h, pre.length ≤ h → μ h = st.ctx.length + (h - pre.length) := by
    intro h hh
    rw [← hμ, ← hlen]
    simp [muL, List.getElem?_eq_none (show l.length ≤ h by omega)]
  have lget : ∀ h, h < pre.length → ∃ g, l[h]? = some g ∧ g < st.ctx.length := by
    intro h hh
    have : h < l.length := by omega
    exact ⟨l[h], List.getElem?_eq_getElem this, (hget h _ (List.getElem?_eq_getElem this)).1⟩
  -- the handles that are bound anew
  have inB : ∀ g, (l.drop k).contains g = true ↔ ∃ i, k ≤ i ∧ l[i]? = some g := by
    intro g
    rw [List.contains_iff_mem, List.mem_iff_getElem?]
    constructor
    · rintro ⟨i, hi⟩
      rw [List.getElem?_drop] at hi
      exact ⟨k + i, by omega, hi⟩
    · rintro ⟨i, hi, hg⟩
      exact ⟨i - k, by rw [List.getElem?_drop, show k + (i - k) = i by omega]; exact hg⟩
  have kinj : ∀ i j g, k ≤ i → l[i]? = some g → l[j]? = some g → i = j := by
    intro i j g hi h1 h2
    rcases hnd with hnd | hnd
    · have : (l.drop k).contains g = true := (inB g).2 ⟨i, hi, h1⟩
      rw [hnd] at this; simp at this
    · obtain ⟨a1, a2⟩ := List.getElem?_eq_some_iff.1 h1
      obtain ⟨b1, b2⟩ := List.getElem?_eq_some_iff.1 h2
      exact List.getElem_inj (h₀ := a1) (h₁ := b1) hnd |>.1 (a2.trans b2.symm)
  let σc : Asg := σ.ren μ
  have σceq : ∀ h, σc h = σ (μ h) := fun _ => rfl
  have σcnew : ∀ h, pre.length ≤ h → σc h = none := by
    intro h hh
    show σ (μ h) = none
    rw [μnew h hh]
    exact hR.sat.beyond _ (by omega)
  have preInfo : ∀ h o0, pre.at h = some o0 → ∃ g o, l[h]? = some g ∧ μ h = g ∧ g < st.ctx.length ∧ st.ctx.at g = some o ∧ soLe μ o0 o := by
    intro h o0 ho
    obtain ⟨g, hg, hlt⟩ := lget h (at_lt ho)
    obtain ⟨o, h1, h2⟩ := (hget h g hg).2.2 o0 ho
    exact ⟨g, o, hg, μold h g hg, hlt, h1, h2⟩
  have inj : ∀ h h' g o, pre.at h = some o → o.ro = false → l[h]? = some g → l[h']? = some g → h = h' := by
    intro h h' g o h1 h2 h3 h4
    rcases honce with hall | hnd
    · rw [List.all_eq_true] at hall
      have := hall (some o) (by
        have hlt := at_lt h1
        refine List.mem_of_getElem? (i := h) ?_
        rw [Ctx.at, List.getD_eq_getElem?_getD, List.getElem?_eq_getElem hlt] at h1
        rw [List.getElem?_eq_getElem hlt]
        simpa using h1)
      simp only at this
      rw [h2] at this; cases this
    · obtain ⟨a1, a2⟩ := List.getElem?_eq_some_iff.1 h3
      obtain ⟨b1, b2⟩ := List.getElem?_eq_some_iff.1 h4
      exact List.getElem_inj (h₀ := a1) (h₁ := b1) hnd |>.1 (a2.trans b2.symm)
  have hsat : Sat σc w pre := by
    refine ⟨fun h o0 ho => ?_, fun h h' o o' L L' hne e1 e2 hro s1 s2 => ?_, σcnew, fun h L hL => hR.sat.inHeap _ L hL, hR.sat.frz, fun h o L e hro s => ?_, hR.sat.glb⟩
    · obtain ⟨g, o, hg, hm, hlt, h1, h2⟩ := preInfo h o0 ho
      exact objSat_down (σ := σ) (σ0 := σc) (μ := μ) (fun _ => rfl) rfl h2 (by rw [hm]; exact hR.sat.obj g o h1)
    · obtain ⟨g, p, hg, hm, hlt, h1, h2⟩ := preInfo h o e1
      obtain ⟨g', p', hg', hm', hlt', h1', h2'⟩ := preInfo h' o' e2
      refine hR.sat.apart g g' p p' L L' (fun e => hne ?_) h1 h1' (h2.ro hro) (by rw [← hm]; exact s1) (by rw [← hm']; exact s2)
      subst e
      exact inj h h' g o e1 hro hg hg'
    · obtain ⟨g, p, hg, hm, hlt, h1, h2⟩ := preInfo h o e
      exact hR.sat.frzA g p L h1 (h2.ro hro) (by rw [← hm]; exact s)
  have hvs' : relL σc args0 vs.toList := by
    rw [hargs] at hvs
    exact (relL_mapH σ μ args0 vs.toList).1 hvs
  refine (hF w σc vs hsat hvs').mono fun e w' ⟨v, z0, c0, σ0, e1, e2, p⟩ => ?_
  -- blocks of caller's objects that the callee may not write
  have keepB : ∀ g o L, st.ctx.at g = some o → (∀ h o0, l[h]? = some g → pre.at h = some o0 → o0.ro = true) → σ g = some L → ¬ rwB pre σc L.b := by
    intro g o L ho hn hL ⟨h, o0, L', h1, h2, h3, h4⟩
    obtain ⟨g', p', hg', hm', hlt', h1', h2'⟩ := preInfo h o0 h1
    have hne : g' ≠ g := by
      intro he; subst he
      rw [hn h o0 hg' h1] at h2; cases h2
    exact hR.sat.apart g' g p' o L' L hne h1' ho (h2'.ro h2) (by rw [← hm']; exact h3) hL h4
  classical
  let loc' : Nat → Option Loc := fun g => if g < st.ctx.length then (if h : ∃ i, k ≤ i ∧ l[i]? = some g then σ0 (Classical.choose h) else σ g) else σ0 (pre.length + (g - st.ctx.length))
  let σ' : Asg := ⟨loc', σ0.fz⟩
  have old : ∀ g, g < st.ctx.length → (l.drop k).contains g = false → σ' g = σ g := by
    intro g hg hB
    show loc' g = σ g
    simp only [loc', if_pos hg]
    rw [dif_neg]
    intro hx
    rw [(inB g).2 hx] at hB; cases hB
  have hσ : ∀ h, σ' (μ h) = σ0 h := by
    intro h
    show loc' (μ h) = σ0 h
    by_cases hh : h < pre.length
    · obtain ⟨g, hg, hlt⟩ := lget h hh
      rw [μold h g hg]
      simp only [loc', if_pos hlt]
      by_cases hx : ∃ i, k ≤ i ∧ l[i]? = some g
      · rw [dif_pos hx]
        obtain ⟨q1, q2⟩ := Classical.choose_spec hx
        rw [kinj _ h g q1 q2 hg]
      · rw [dif_neg hx]
        have hk : h < k := by
          rcases Nat.lt_or_ge h k with h' | h'
          · exact h'
          · exact absurd ⟨h, h', hg⟩ hx
        rw [p.base h hk]
        show σ g = σ (μ h)
        rw [μold h g hg]
    · rw [μnew h (by omega)]
      simp only [loc']
      rw [if_neg (by omega)]
      congr 1
      omega
  have fzup : ∀ b o, σ.fz b = some o → σ'.fz b = some o := p.fzb
  have up : ∀ h L, (l.drop k).contains h = false → σ h = some L → σ' h = some L := by
    intro g L hB hL
    have : g < st.ctx.length := by
      rcases Nat.lt_or_ge g st.ctx.length with h' | h'
      · exact h'
      · rw [hR.sat.beyond g h'] at hL; cases hL
    rw [old g this hB]; exact hL
  -- what stands under a number of the caller
  let ctx' := mergeC μ l pre c0 st.ctx
  have clen : ctx'.length = st.ctx.length + (c0.length - pre.length) := by
    show (upd μ l pre c0 st.ctx ++ _).length = _
    simp [upd_length]
  have cases' : ∀ g o, ctx'.at g = some o → (∃ h o', μ h = g ∧ c0.at h = some o' ∧ o = o'.mapH μ ∧ (o'.ro = false ∨ h < k)) ∨
      (g < st.ctx.length ∧ st.ctx.at g = some o ∧ (∀ h o0, l[h]? = some g → pre.at h = some o0 → o0.ro = true) ∧ (l.drop k).contains g = false) := by
    intro g o ho
    have ho' : Ctx.at (upd μ l pre c0 st.ctx ++ (c0.drop pre.length).map fun o => o.map (SO.mapH μ)) g = some o := ho
    rw [at_app', upd_length] at ho'
    split at ho'
    · rename_i hg
      by_cases hx : ∃ h o0, l[h]? = some g ∧ pre.at h = some o0 ∧ o0.ro = false
      · obtain ⟨h, o0, h1, h2, h3⟩ := hx
        have hnd : l.Nodup := by
          rcases honce with hall | hnd
          · rw [List.all_eq_true] at hall
            have := hall (some o0) (by
              have hlt := at_lt h2
              refine List.mem_of_getElem? (i := h) ?_
              rw [Ctx.at, List.getD_eq_getElem?_getD, List.getElem?_eq_getElem hlt] at h2
              rw [List.getElem?_eq_getElem hlt]
              simpa using h2)
            simp only at this
            rw [h3] at this; cases this
          · exact hnd
        rw [upd_eq μ h3 l pre c0 st.ctx h hnd h1 h2 hg (Nat.lt_of_lt_of_le (at_lt h2) p.len)] at ho'
        cases hc : c0.at h with
        | none => rw [hc] at ho'; simp at ho'
        | some o' =>
          rw [hc] at ho'
          simp at ho'
          refine .inl ⟨h, o', μold h g h1, hc, ho'.symm, ?_⟩
          rcases Nat.lt_or_ge h k with h' | h'
          · exact .inr h'
          · exact .inl (p.new h o' h' hc)
      · have hx' : ∀ h o0, l[h]? = some g → pre.at h = some o0 → o0.ro = true := by
          intro h o0 h1 h2
          cases h3 : o0.ro with
          | true => rfl
          | false => exact absurd ⟨h, o0, h1, h2, h3⟩ hx
        rw [upd_ne μ g l pre c0 st.ctx hx'] at ho'
        refine .inr ⟨hg, ho', hx', ?_⟩
        cases hB : (l.drop k).contains g with
        | false => rfl
        | true =>
          obtain ⟨i, hi, hgi⟩ := (inB g).1 hB
          have hs := (hget i g hgi).2.1
          cases hp : pre.at i with
          | none => rw [hp] at hs; cases hs
          | some o0 =>
            have := hrw.get hi hp
            rw [hx' i o0 hgi hp] at this; cases this
    · rename_i hg
      rw [at_map_drop] at ho'
      cases hc : c0.at (pre.length + (g - st.ctx.length)) with
      | none => rw [hc] at ho'; simp at ho'
      | some o' =>
        rw [hc] at ho'
        simp at ho'
        refine .inl ⟨_, o', ?_, hc, ho'.symm, ?_⟩
        · rw [μnew _ (by omega)]
          omega
        · rcases Nat.lt_or_ge (pre.length + (g - st.ctx.length)) k with h' | h'
          · exact .inr h'
          · exact .inl (p.new _ o' h' hc)
  have ownE : ∀ g o L, ctx'.at g = some o → o.ro = false → σ' g = some L → A.D L.b ∨ A.w0.heap.size ≤ L.b := by
    intro g o L ho hro hL
    rcases cases' g o ho with ⟨h, o', hm, hc, rfl, _⟩ | ⟨hg, ho2, _, hB⟩
    · rw [SO.ro_mapH] at hro
      rw [← hm, hσ] at hL
      rcases p.own h o' L hc hro hL with ⟨h2, o0, L', q1, q2, q3, q4⟩ | hnew
      · obtain ⟨g', p', hg', hm', hlt', h1', h2'⟩ := preInfo h2 o0 q1
        have := hR.own g' p' L' h1' (h2'.ro q2) (by rw [← hm']; exact q3)
        rwa [q4] at this
      · exact .inr (Nat.le_trans hR.fr.size hnew)
    · rw [old g hg hB] at hL
      exact hR.own g o L ho2 hro hL
  have foreign : ∀ g o L, st.ctx.at g = some o → (∀ h o0, l[h]? = some g → pre.at h = some o0 → o0.ro = true) → σ g = some L → ∀ b, (rwB pre σc b ∨ w.heap.size ≤ b) → L.b ≠ b := by
    intro g o L ho hn hL b hb he
    subst he
    rcases hb with hb | hb
    · exact keepB g o L ho hn hL hb
    · have := hR.sat.inHeap g L hL; omega
  have hren : σ0 = σ'.ren μ := by
    show σ0 = ⟨fun h => σ' (μ h), σ0.fz⟩
    obtain ⟨l0, f0⟩ := σ0
    simp only [Asg.mk.injEq, and_true]
    exact funext fun h => (hσ h).symm
  refine ⟨v, z0.mapH μ, ⟨maskE (l.drop k) st.env, ctx'⟩, σ', e1, hK z0 c0 e2, ?_, ?_⟩
  · rw [rel_mapH, ← hren]
    exact p.val
  · refine ⟨hR.defers, hR.size, fun t => ?_, ⟨fun g o ho => ?_, fun g1 g2 o1 o2 L1 L2 hne e1 e2 hro s1 s2 => ?_, fun g hg => ?_, fun g L hL => ?_, p.sat.frz, fun g o L ho hro s => ?_, p.sat.glb⟩, ?_, ownE, ⟨fun h hh => ?_, fun b o h => p.fzb b o (hR.base.fzb b o h), fun b o h => ?_⟩, ?_⟩
    · rcases look_maskE (B := l.drop k) st.env t with ⟨h1, h2⟩ | h1
      · show rel σ' (look (maskE (l.drop k) st.env) t) _
        rw [h1]
        exact rel_off up fzup h2 (hR.env t)
      · show rel σ' (look (maskE (l.drop k) st.env) t) _
        rw [h1]; simp [rel]
    · rcases cases' g o ho with ⟨h, o', hm, hc, rfl, _⟩ | ⟨hg, ho2, hn, hB⟩
      · rw [← hm]
        exact objSat_up hσ rfl (p.sat.obj h o' hc)
      · have hcl : cleanO (l.drop k) o := by
          rcases cleanC_get hclean ho2 with h | h
          · rw [Nat.zero_add, List.contains_iff_mem] at h
            obtain ⟨i, q, q1, q2, q3⟩ := upds_mem h
            rw [hn i q q1 q2] at q3; cases q3
          · exact h
        exact objSat_off up fzup hcl (old g hg hB) (fun L hL => p.fr.block _ (hR.sat.inHeap g L hL) (keepB g o L ho2 hn hL)) (hR.sat.obj g o ho2)
    · rcases cases' g1 o1 e1 with ⟨h1, o1', hm1, hc1, rfl, hk1⟩ | ⟨hg1, ho1, hn1, hB1⟩
      · rw [SO.ro_mapH] at hro
        rw [← hm1, hσ] at s1
        rcases cases' g2 o2 e2 with ⟨h2, o2', hm2, hc2, rfl, hk2⟩ | ⟨hg2, ho2, hn2, hB2⟩
        · rw [← hm2, hσ] at s2
          refine p.sat.apart h1 h2 o1' o2' L1 L2 (fun e => hne ?_) hc1 hc2 hro s1 s2
          rw [← hm1, ← hm2, e]
        · rw [old g2 hg2 hB2] at s2
          exact fun he => foreign g2 o2 L2 ho2 hn2 s2 _ (p.own h1 o1' L1 hc1 hro s1) he.symm
      · rw [old g1 hg1 hB1] at s1
        rcases cases' g2 o2 e2 with ⟨h2, o2', hm2, hc2, rfl, hk2⟩ | ⟨hg2, ho2, hn2, hB2⟩
        · rw [← hm2, hσ] at s2
          rcases hk2 with hx | hlt
          · exact foreign g1 o1 L1 ho1 hn1 s1 _ (p.own h2 o2' L2 hc2 hx s2)
          · -- an object that stays where it lies
            rw [p.base h2 hlt] at s2
            have s2' : σ (μ h2) = some L2 := s2
            rw [hm2] at s2'
            by_cases hp2 : h2 < pre.length
            · obtain ⟨g', hg', hlt'⟩ := lget h2 hp2
              have hgg : g' = g2 := by rw [← hm2, μold h2 g' hg']
              subst hgg
              cases hp : pre.at h2 with
              | some o0 =>
                obtain ⟨g'', p', hg'', hm'', hlt'', h1', h2'⟩ := preInfo h2 o0 hp
                rw [hg'] at hg''
                cases hg''
                exact hR.sat.apart g1 g' o1 p' L1 L2 hne ho1 h1' hro s1 s2'
              | none =>
                have := (hget h2 g' hg').2.1
                rw [hp] at this; cases this
            · have := σcnew h2 (by omega)
              rw [σceq, hm2, s2'] at this; cases this
        · rw [old g2 hg2 hB2] at s2
          exact hR.sat.apart g1 g2 o1 o2 L1 L2 hne ho1 ho2 hro s1 s2
    · have h1 : ctx'.length ≤ g := hg
      rw [clen] at h1
      show loc' g = none
      simp only [loc']
      rw [if_neg (by omega)]
      exact p.sat.beyond _ (by have := p.len; omega)
    · by_cases hg : g < st.ctx.length
      · by_cases hB : (l.drop k).contains g = true
        · obtain ⟨i, hi, hgi⟩ := (inB g).1 hB
          have : σ' g = σ0 i := by rw [← μold i g hgi]; exact hσ i
          rw [this] at hL
          exact p.sat.inHeap _ L hL
        · rw [old g hg (by simpa using hB)] at hL
          exact Nat.lt_of_lt_of_le (hR.sat.inHeap g L hL) p.fr.size
      · have hL' : σ0 (pre.length + (g - st.ctx.length)) = some L := by
          have : σ' g = σ0 (pre.length + (g - st.ctx.length)) := if_neg hg
          rw [← this]; exact hL
        exact p.sat.inHeap _ L hL'
    · show σ0.fz L.b = none
      rcases cases' g o ho with ⟨h, o', hm, hc, rfl, _⟩ | ⟨hg, ho2, hn, hB⟩
      · rw [SO.ro_mapH] at hro
        rw [← hm, hσ] at s
        exact p.sat.frzA h o' L hc hro s
      · rw [old g hg hB] at s
        cases hz : σ0.fz L.b with
        | none => rfl
        | some q =>
          rcases p.fzn _ _ hz with h4 | h4
          · have h5 : σ.fz L.b = some q := h4
            rw [hR.sat.frzA g o L ho2 hro s] at h5; cases h5
          · exact absurd rfl (foreign g o L ho2 hn s _ h4)
    · refine hR.fr.step p.fr fun b hb ⟨h, o0, L, h1, h2, h3, h4⟩ => ?_
      obtain ⟨g', p', hg', hm', hlt', h1', h2'⟩ := preInfo h o0 h1
      rcases hR.own g' p' L h1' (h2'.ro h2) (by rw [← hm']; exact h3) with hx | hx
      · rwa [h4] at hx
      · omega
    · have h1 : h < st.ctx.length := Nat.lt_of_lt_of_le hh hR.klen
      have hB : (l.drop k).contains h = false := by
        cases hB : (l.drop k).contains h with
        | false => rfl
        | true =>
          rw [List.all_eq_true] at hfix
          have := hfix h (by simpa using hB)
          simp only [decide_eq_true_eq] at this
          omega
      rw [old h h1 hB]
      exact hR.base.loc h hh
    · rcases p.fzn b o h with h4 | ⟨h2, o0, L, q1, q2, q3, q4⟩ | h4
      · exact hR.base.fzn b o h4
      · obtain ⟨g', p', hg', hm', hlt', h1', h2'⟩ := preInfo h2 o0 q1
        have := hR.own g' p' L h1' (h2'.ro q2) (by rw [← hm']; exact q3)
        rw [q4] at this
        exact .inr ⟨hgr, this⟩
      · exact .inr ⟨hgr, .inr (Nat.le_trans hR.fr.size h4)⟩
    · show A.k ≤ ctx'.length
      rw [clen]
      have := hR.klen
      omega
end Go.Vg
end
section
set_option linter.unusedVariables false
set_option linter.unusedSimpArgs false
namespace Go.Vg
set_option linter.unusedSectionVars false
variable [Go.Vg.Glob]
set_option linter.unusedVariables false
set_option linter.unusedSimpArgs false
open Go.RowKit

def zeroB : SV → Value → Bool
  | .b x, .bool y => x == y
  | .i k n, .int k' m => decide (k = k') && decide (n = m)
  | .s l, .string s => decide (s.data.toList = l)
  | .nils, .slice none 0 0 => true
  | .u, _ => true
  | _, _ => false

theorem zeroB_sound {x : SV} {v : Value} (h : zeroB x v = true) : rel Asg.nil x v := by
  unfold zeroB at h
  split at h
  · simp only [rel]; simp at h; rw [h]
  · simp only [rel]; simp at h; rw [h.1, h.2]
  · simp only [rel]; simp at h; rw [← h]
  · simp [rel]
  · simp [rel]
  · cases h

def zerosB : List SV → List Value → Bool
  | [], [] => true
  | x :: xs, v :: vs => zeroB x v && zerosB xs vs
  | _, _ => false

theorem zerosB_sound : ∀ {xs : List SV} {vs : List Value}, zerosB xs vs = true → relL Asg.nil xs vs
  | [], [], _ => by simp [relL]
  | x :: xs, v :: vs, h => by
    simp only [zerosB, Bool.and_eq_true] at h
    simp only [relL]
    exact ⟨v, vs, rfl, zeroB_sound h.1, zerosB_sound h.2⟩
  | [], _ :: _, h => by simp [zerosB] at h
  | _ :: _, [], h => by simp [zerosB] at h

def descB : TypeDesc → TD → Bool
  | .bool, .bool => true
  | .int k, .int k' => decide (k = k')
  | .string, .str => true
  | .slice e, .slice e' => decide (e = e')
  | .map k e, .map k' e' => decide (k = k') && decide (e = e')
  | .struct fs, .struct fs' => decide (fs.toList.map (fun f => (f.type, f.offset)) = fs') && fs.toList.all fun f => decide (f.name ≠ "_")
  | .array .., _ => false
  | .struct .., .other => false
  | _, .other => true
  | _, _ => false

theorem descB_sound {d : TypeDesc} {t : TD} (h : descB d t = true) : descIs d t := by
  unfold descB at h
  unfold descIs
  split at h
  case h_6 =>
    simp only [Bool.and_eq_true, decide_eq_true_eq, List.all_eq_true] at h
    exact h
  all_goals simp_all
  all_goals (split <;> simp_all)

def tyB (P : Program) (t : TypeId) (ti : TI) : Bool :=
  match P.info? t, P.underlying t with
  | some i, some d => decide (i.size = ti.size) && decide (i.bytes = ti.bytes) && (match i.zero with
      | some z => zerosB ti.zero z.cells.toList && (ti.td.isStruct || z.oneCell')
      | none => false) && descB d ti.td && (!ti.cmp || (!P.stoodInHeld t && !P.eqGuardType P.depth t))
  | _, _ => false

theorem tyB_sound {P : Program} {t : TypeId} {ti : TI} (h : tyB P t ti = true) : tyOk P t ti := by
  unfold tyB at h
  split at h
  · rename_i i d hi hd
    simp only [Bool.and_eq_true, decide_eq_true_eq, Bool.or_eq_true, Bool.not_eq_true'] at h
    obtain ⟨⟨⟨⟨h1, h2⟩, h3⟩, h4⟩, h5⟩ := h
    refine ⟨⟨i, hi, h1, h2, ?_⟩, ⟨d, hd, descB_sound h4⟩, fun hc => ?_⟩
    · split at h3
      · rename_i z hz
        simp only [Bool.and_eq_true, Bool.or_eq_true] at h3
        exact ⟨z, hz, zerosB_sound h3.1, fun hs => h3.2.resolve_left (by rw [hs]; exact Bool.false_ne_true)⟩
      · cases h3
    · rcases h5 with h5 | h5
      · rw [hc] at h5; cases h5
      · exact h5
  · cases h

def teOf : List (TypeId × TI) → TE
  | [], _ => none
  | e :: r, t => if e.1 = t then some e.2 else teOf r t

theorem teOf_ok {P : Program} : ∀ {l : List (TypeId × TI)}, (l.all fun e => tyB P e.1 e.2) = true → teOk P (teOf l)
  | [], _ => fun t ti h => by simp [teOf] at h
  | e :: r, h => fun t ti ht => by
    simp only [List.all_cons, Bool.and_eq_true] at h
    simp only [teOf] at ht
    split at ht
    · rename_i he; cases ht; subst he; exact tyB_sound h.1
    · exact teOf_ok h.2 t ti ht

-- The continuations stay untouched while what is ahead of them is worked out.
@[congr] theorem xpure_congr {te : TE} {wr c c' : Bool} {st st' : St} {o : Op} {K : SV → Prop} (h1 : c = c') (h2 : st = st') : xpure te wr c st o K = xpure te wr c' st' o K := by rw [h1, h2]
@[congr] theorem xload_congr {te : TE} {c c' : Bool} {st st' : St} {o : Op} {K : SV → Prop} (h1 : c = c') (h2 : st = st') : xload te c st o K = xload te c' st' o K := by rw [h1, h2]
@[congr] theorem xmem_congr {te : TE} {st st' : St} {o : Op} {K : SV → St → Prop} (h2 : st = st') : xmem te st o K = xmem te st' o K := by rw [h2]
@[congr] theorem putS_congr {nt : Nat} {st st' : St} {d : Option Tmp} {z z' : SV} {K : St → Prop} (h1 : st = st') (h2 : z = z') : putS nt st d z K = putS nt st' d z' K := by rw [h1, h2]
@[congr] theorem XOne_congr {P : Program} {te : TE} {wr : Bool} {nt : Nat} {pt : PT} {g c c' : Bool} {st st' : St} {o : Oper} {K : St → Prop} (h1 : c = c') (h2 : st = st') : XOne P te wr nt pt g c st o K = XOne P te wr nt pt g c' st' o K := by rw [h1, h2]
@[congr] theorem XStep_congr {P : Program} {te : TE} {wr : Bool} {nt : Nat} {pt : PT} {sp : Bool} {ops : Array Oper} {st st' : St} {o : Oper} {K : St → Prop} (h2 : st = st') : XStep P te wr nt pt sp ops st o K = XStep P te wr nt pt sp ops st' o K := by rw [h2]
@[congr] theorem XL_congr {P : Program} {te : TE} {wr : Bool} {nt : Nat} {pt : PT} {sp : Bool} {ops : Array Oper} {K : St → Prop} {os : List Oper} {st st' : St} (h2 : st = st') : XL P te wr nt pt sp ops K os st = XL P te wr nt pt sp ops K os st' := by rw [h2]
@[congr] theorem vc_congr {cf : Cf} {F : St → Prop} {n : Nat} {its : List It} {st st' : St} (h2 : st = st') : vc cf F n its st = vc cf F n its st' := by rw [h2]
@[congr] theorem guardC_congr {want : Bool} {x x' : SV} {K : Bool → Prop} (h : x = x') : guardC want x K = guardC want x' K := by rw [h]
@[congr] theorem ung_congr {c c' : Bool} {x x' : SV} {K : SV → Prop} (h1 : c = c') (h : x = x') : ung c x K = ung c' x' K := by rw [h1, h]
@[congr] theorem VLoop_congr {k : Nat} {st st' : St} {B : (St → Prop) → St → Prop} (h : st = st') : VLoop k st B = VLoop k st' B := by rw [h]
@[congr] theorem VCut_congr {k : Nat} {B : (St → Prop) → Prop} {R : St → Prop} : VCut k B R = VCut k B R := rfl
@[congr] theorem Chk_congr {p p' q : Prop} (h : p = p') : Chk p q = Chk p' q := by rw [h]
@[simp] theorem Chk_true {q : Prop} : Chk True q = q := by simp [Chk]
/-- What stays of the temporaries behind a region. -/
def kp : List (Nat × List Tmp) → Nat → List Tmp
  | [], _ => []
  | e :: r, i => if e.1 = i then e.2 else kp r i
end Go.Vg
end
