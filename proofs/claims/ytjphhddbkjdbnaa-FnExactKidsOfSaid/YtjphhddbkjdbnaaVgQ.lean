/- Code, stepped through over symbolic states. -/
import Derived.Test.YtjphhddbkjdbnaaVgP
namespace Go.Vg
set_option linter.unusedVariables false
set_option linter.unusedSimpArgs false
open Go.RowKit

/-- What a walk of one function is about. -/
structure Cf where
  P : Program
  te : TE
  pt : PT
  nt : Nat
  k : Nat
  wr : Bool
  sp : Nat → Bool
  keep : Nat → List Tmp
  cut : List Nat
  dr : Nat → Array Oper → (St → Prop) → St → Prop

/-- A region of another kind (orders drawn): what it must bring about. -/
def VDraw (P : Program) (nt k : Nat) (ops : Array Oper) (K : St → Prop) (st : St) : Prop :=
  ∀ (A : Amb) (σ : Asg) (a : Act) (w : World) (id : Nat), A.nt = nt → A.k = k → A.gr = true → Rel A σ st a w →
    (Code.region id ops true).wp P (fun e a' w' => e = .normal ∧ ∃ σ' st', K st' ∧ Rel A σ' st' a' w') a w

structure Cf.ok (cf : Cf) : Prop where
  te : teOk cf.P cf.te
  pt : PTok cf.P cf.pt
  kk : cf.k ≤ cf.pt.k
  dr : ∀ id ops K st, cf.dr id ops K st → VDraw cf.P cf.nt cf.k ops K st

inductive It where
  | code (c : Code)
  | blk (id : Nat)
  | stop (J : St → Prop)

def KP (P : Program) (A : Amb) (F : St → Prop) : List It → Exit → Act → World → Prop
  | [], .normal, a, w => ∃ σ st, F st ∧ Rel A σ st a w
  | [], .ret, a, w => ∃ σ st, F st ∧ Rel A σ st a w
  | [], _, _, _ => False
  | .code c :: r, .normal, a, w => c.wp P (KP P A F r) a w
  | .code _ :: r, e, a, w => KP P A F r e a w
  | .blk id :: r, .exit id', a, w => if id' = id then KP P A F r .normal a w else KP P A F r (.exit id') a w
  | .blk _ :: r, e, a, w => KP P A F r e a w
  | .stop J :: r, .normal, a, w => ∃ σ st, J st ∧ Rel A σ st a w
  | .stop _ :: r, e, a, w => KP P A F r e a w

def popTo (id : Nat) : List It → Option (List It)
  | [] => none
  | .blk id' :: r => if id = id' then some r else popTo id r
  | _ :: r => popTo id r

theorem KP_exit {P : Program} {A : Amb} {F : St → Prop} {id : Nat} : ∀ {r r' : List It} {a : Act} {w : World}, popTo id r = some r' → KP P A F r' .normal a w → KP P A F r (.exit id) a w
  | [], _, _, _, h, _ => by simp [popTo] at h
  | .blk i :: r, r', a, w, h, k => by
    simp only [popTo] at h
    simp only [KP]
    split at h
    · cases h; subst_vars; rwa [if_pos rfl]
    · rename_i hne
      rw [if_neg hne]
      exact KP_exit h k
  | .code c :: r, r', a, w, h, k => by
    simp only [popTo] at h
    simp only [KP]
    exact KP_exit h k
  | .stop c :: r, r', a, w, h, k => by
    simp only [popTo] at h
    simp only [KP]
    exact KP_exit h k

theorem KP_ret {P : Program} {A : Amb} {F : St → Prop} : ∀ {r : List It} {a : Act} {w : World}, (∃ σ st, F st ∧ Rel A σ st a w) → KP P A F r .ret a w
  | [], _, _, h => by simpa [KP] using h
  | .blk _ :: r, _, _, h => by simp only [KP]; exact KP_ret h
  | .code _ :: r, _, _, h => by simp only [KP]; exact KP_ret h
  | .stop _ :: r, _, _, h => by simp only [KP]; exact KP_ret h

def Ent (k : Nat) (st st' : St) : Prop := ∀ (A : Amb) (σ : Asg) (a : Act) (w : World), A.k = k → Rel A σ st a w → ∃ σ', Rel A σ' st' a w

theorem Ent.refl (k : Nat) (st : St) : Ent k st st := fun A σ a w _ h => ⟨σ, h⟩
theorem Ent.trans {k : Nat} {a b c : St} (h : Ent k a b) (g : Ent k b c) : Ent k a c := fun A σ a w hk hR =>
  let ⟨σ', h'⟩ := h A σ a w hk hR
  g A σ' a w hk h'

/-- The same objects; of each temporary the same or nothing. -/
theorem Ent.env {k : Nat} {st st' : St} (hc : st.ctx = st'.ctx) (he : ∀ t, look st'.env t = look st.env t ∨ look st'.env t = .u) : Ent k st st' := fun A σ a w hk hR =>
  ⟨σ, hR.defers, hR.size, fun t => by
    rcases he t with h | h
    · rw [h]; exact hR.env t
    · rw [h]; simp [rel], hc ▸ hR.sat, hR.fr, hc ▸ hR.own, hR.base, hc ▸ hR.klen⟩

def trim (l : List Tmp) (st : St) : St := ⟨l.map fun t => (t, look st.env t), st.ctx⟩

theorem look_map (st : List (Tmp × SV)) (l : List Tmp) (t : Tmp) : look (l.map fun t => (t, look st t)) t = look st t ∨ look (l.map fun t => (t, look st t)) t = .u := by
  induction l with
  | nil => right; rfl
  | cons x xs ih =>
    simp only [List.map_cons, look]
    by_cases h : x = t
    · subst h; left; simp
    · rw [if_neg h]; exact ih

theorem Ent.trim (k : Nat) (l : List Tmp) (st : St) : Ent k st (trim l st) := Ent.env rfl fun t => look_map st.env l t

/-- A loop: states by index, a measure that falls. -/
def VLoop (k : Nat) (st : St) (B : (J : St → Prop) → St → Prop) : Prop :=
  ∃ (ι : Type) (S : ι → St) (m : ι → Nat) (i0 : ι), Ent k st (S i0) ∧ ∀ i, B (fun s => ∃ j, m j < m i ∧ Ent k s (S j)) (S i)

/-- A place where ways come together: states by index. -/
def VCut (k : Nat) (B : (J : St → Prop) → Prop) (R : St → Prop) : Prop :=
  ∃ (ι : Type) (S : ι → St), B (fun s => ∃ j, Ent k s (S j)) ∧ ∀ j, R (S j)

def firstId : Code → Option Nat
  | .region id _ _ => some id
  | .block id _ => some (1000 + id)
  | .seq x _ => firstId x
  | .loop b => firstId b
  | _ => none

def isCut (cut : List Nat) (c : Code) : Bool := match firstId c with
  | some i => cut.contains i
  | none => false

/-- Operations from a list, one after the other. -/
def XL (P : Program) (te : TE) (wr : Bool) (nt : Nat) (pt : PT) (sp : Bool) (ops : Array Oper) (K : St → Prop) : List Oper → St → Prop
  | [], st => K st
  | o :: os, st => XStep P te wr nt pt sp ops st o (XL P te wr nt pt sp ops K os)

theorem XL_XO {P : Program} {te : TE} {wr : Bool} {nt : Nat} {pt : PT} {sp : Bool} {ops : Array Oper} {K : St → Prop} : ∀ (n i : Nat) (st : St), i + n = ops.size →
    XL P te wr nt pt sp ops K (ops.toList.drop i) = XO P te wr nt pt sp ops K (List.range' i n)
  | 0, i, st, h => by
    rw [List.drop_of_length_le (by simp; omega)]
    funext st; rfl
  | n + 1, i, st, h => by
    have hi : i < ops.toList.length := by simp; omega
    rw [List.drop_eq_getElem_cons hi]
    funext s
    simp only [XL, List.range'_succ, XO]
    rw [← XL_XO n (i + 1) st (by omega)]
    simp only [Array.getElem_toList]
    rw [Array.getElem?_eq_getElem (by simpa using hi)]

def vc (cf : Cf) (F : St → Prop) : Nat → List It → St → Prop
  | 0, _, _ => False
  | n + 1, its, st => match its with
    | [] => F st
    | .blk _ :: r => vc cf F n r st
    | .stop J :: _ => J st
    | .code c :: r => match c with
      | .skip => vc cf F n r st
      | .ret => F st
      | .seq x y => if isCut cf.cut y then VCut cf.k (fun J => vc cf F n (.code x :: .stop J :: .code y :: r) st) (fun s => vc cf F n (.code y :: r) s)
        else vc cf F n (.code x :: .code y :: r) st
      | .region id ops false => XL cf.P cf.te cf.wr cf.nt cf.pt (cf.sp id) ops (fun s => vc cf F n r (trim (cf.keep id) s)) ops.toList st
      | .region id ops true => cf.dr id ops (fun s => vc cf F n r (trim (cf.keep id) s)) st
      | .cond c x y => match st.ev c with
        | .b t => (t = true → vc cf F n (.code x :: r) st) ∧ (t = false → vc cf F n (.code y :: r) st)
        | _ => False
      | .block id b => vc cf F n (.code b :: .blk id :: r) st
      | .loop b => VLoop cf.k st fun J s => vc cf F n (.code b :: .stop J :: r) s
      | .exit id => match popTo id r with
        | some r' => vc cf F n r' st
        | none => False
      | _ => False

theorem vc_sound {cf : Cf} (hcf : cf.ok) {F : St → Prop} {A : Amb} (hnt : A.nt = cf.nt) (hk : A.k = cf.k) (hgr : A.gr = true) : ∀ (n : Nat) (its : List It) (st : St) (σ : Asg) (a : Act) (w : World), vc cf F n its st → Rel A σ st a w → KP cf.P A F its .normal a w := by
  intro n
  induction n with
  | zero => intro its st σ a w h; exact h.elim
  | succ n ih =>
    intro its st σ a w h hR
    simp only [vc] at h
    split at h
    · exact ⟨σ, st, h, hR⟩
    · simp only [KP]; exact ih _ _ _ _ _ h hR
    · exact ⟨σ, st, h, hR⟩
    · rename_i c r
      simp only [KP]
      split at h
      · exact wp_skip (ih _ _ _ _ _ h hR)
      · exact wp_ret (KP_ret ⟨σ, st, h, hR⟩)
      · rename_i x y
        split at h
        · obtain ⟨ι, S, h1, h2⟩ := h
          refine wp_seq (wp_mono (ih _ _ _ _ _ h1 hR) fun e a' w' he => ?_)
          cases e with
          | normal =>
            obtain ⟨σ1, st1, ⟨j, hj⟩, hR1⟩ := he
            obtain ⟨σ2, hR2⟩ := hj A σ1 a' w' hk hR1
            exact ih _ _ _ _ _ (h2 j) hR2
          | _ => exact he
        · refine wp_seq (wp_mono (ih _ _ _ _ _ h hR) fun e a' w' he => ?_)
          cases e <;> exact he
      · rename_i id ops
        refine wp_region ?_
        have h' : XO cf.P cf.te cf.wr cf.nt cf.pt (cf.sp id) ops (fun s => vc cf F n r (trim (cf.keep id) s)) (List.range ops.size) st := by
          have := XL_XO (P := cf.P) (te := cf.te) (wr := cf.wr) (nt := cf.nt) (pt := cf.pt) (sp := cf.sp id) (ops := ops) (K := fun s => vc cf F n r (trim (cf.keep id) s)) ops.size 0 st (by omega)
          rw [List.range_eq_range', ← this]
          simpa using h
        rw [← hnt] at h'
        refine XO_sound hcf.te hcf.pt (by rw [hk]; exact hcf.kk) (fun _ => hgr) _ hR h' fun σ' st' a' w' hK hR' => ?_
        obtain ⟨σ2, hR2⟩ := Ent.trim cf.k (cf.keep id) st' A σ' a' w' hk hR'
        exact ih _ _ _ _ _ hK hR2
      · rename_i id ops
        refine wp_mono (hcf.dr _ _ _ _ h A σ a w id hnt hk hgr hR) fun e a' w' he => ?_
        obtain ⟨rfl, σ', st', hK, hR'⟩ := he
        obtain ⟨σ2, hR2⟩ := Ent.trim cf.k (cf.keep id) st' A σ' a' w' hk hR'
        exact ih _ _ _ _ _ hK hR2
      · rename_i c x y
        split at h
        · rename_i t ht
          have hv := hR.ev c
          rw [ht] at hv
          simp only [rel] at hv
          refine wp_cond_split hv (fun e => ?_) (fun e => ?_)
          · exact ih _ _ _ _ _ (h.1 e) hR
          · exact ih _ _ _ _ _ (h.2 e) hR
        · exact h.elim
      · rename_i id b
        refine wp_block (wp_mono (ih _ _ _ _ _ h hR) fun e a' w' he => ?_)
        cases e <;> exact he
      · rename_i b
        obtain ⟨ι, S, m, i0, h0, hS⟩ := h
        classical
        let I : Act → World → Prop := fun a w => ∃ i σ, Rel A σ (S i) a w
        let Pn : Act → World → Nat → Prop := fun a w x => ∃ i σ, m i = x ∧ Rel A σ (S i) a w
        have hmin : ∀ a w, I a w → ∃ x, Pn a w x ∧ ∀ y, Pn a w y → x ≤ y := by
          intro a w ⟨i, σ, hi⟩
          have key : ∀ x, Pn a w x → ∃ x, Pn a w x ∧ ∀ y, Pn a w y → x ≤ y := by
            intro x
            induction x using Nat.strongRecOn with
            | _ x ihx =>
              intro hx
              by_cases h : ∃ y, y < x ∧ Pn a w y
              · obtain ⟨y, hy, hp⟩ := h
                exact ihx y hy hp
              · exact ⟨x, hx, fun y hy => Nat.le_of_not_lt fun hlt => h ⟨y, hlt, hy⟩⟩
          exact key (m i) ⟨i, σ, rfl, hi⟩
        let μ : Act → World → Nat := fun a w => if h : I a w then Classical.choose (hmin a w h) else 0
        have hμ : ∀ a w (h : I a w), Pn a w (μ a w) ∧ ∀ y, Pn a w y → μ a w ≤ y := by
          intro a w h
          have : μ a w = Classical.choose (hmin a w h) := dif_pos h
          rw [this]
          exact Classical.choose_spec (hmin a w h)
        refine wp_loop I μ ?_ ?_
        · obtain ⟨σ', h'⟩ := h0 A σ a w hk hR
          exact ⟨i0, σ', h'⟩
        · intro a w hI
          obtain ⟨⟨i, σi, hm, hi⟩, _⟩ := hμ a w hI
          refine wp_mono (ih _ _ _ _ _ (hS i) hi) fun e a' w' he => ?_
          cases e with
          | normal =>
            obtain ⟨σ1, st1, ⟨j, hj, hE⟩, hR1⟩ := he
            obtain ⟨σ2, hR2⟩ := hE A σ1 a' w' hk hR1
            have hI' : I a' w' := ⟨j, σ2, hR2⟩
            exact ⟨hI', by
              have := (hμ a' w' hI').2 (m j) ⟨j, σ2, rfl, hR2⟩
              omega⟩
          | _ => exact he
      · split at h
        · rename_i r' hr'
          exact wp_exit (KP_exit hr' (ih _ _ _ _ _ h hR))
        · exact h.elim
      · exact h.elim

/-- What a result variable in memory holds. -/
def cellV (te : TE) (ctx : Ctx) (v : SV) (t : TypeId) : Option SV :=
  match v with
  | .ptr h i k => match ctx.at h, te t with
    | some ob, some ti => match ob.isMap, ti.td with
      | false, .other => none
      | true, _ => none
      | false, td => if i < ob.n then (if td.isStruct then (if k + ti.size ≤ ob.sz ∧ (ob.el i).length = ob.sz then some (.agg (((ob.el i).drop k).take ti.size)) else none)
        else (if k < ob.sz then some ((ob.el i).getD k .u) else none)) else none
    | _, _ => none
  | _ => none

def tupS : List SV → SV
  | [x] => x
  | l => .tup l

/-- A function's results, out of the temporaries and what they point to. -/
def resQ (te : TE) (st : St) (Q : SV → Ctx → Prop) : List ResultVar → List SV → Prop
  | [], acc => Q (tupS acc) st.ctx
  | .tmp t :: r, acc => resQ te st Q r (acc ++ [look st.env t])
  | .cell a t :: r, acc => match cellV te st.ctx (look st.env a) t with
    | some x => resQ te st Q r (acc ++ [x])
    | none => False

def resF (tmps : Array Value) : ResultVar → Sem Value
  | .tmp t => pure (tmps.getD t undef)
  | .cell x t => do loadVar t (← asAddr (tmps.getD x undef))

theorem results_eq (fn : Func) (tmps : Array Value) : results fn tmps = (do
    let vs ← fn.results.mapM (resF tmps)
    pure (if h : vs.size = 1 then vs[0] else .tuple vs)) := by
  unfold results
  congr

theorem cellV_sound {P : Program} {te : TE} (hte : teOk P te) {A : Amb} {σ : Asg} {st : St} {a : Act} {w : World} (hR : Rel A σ st a w) {x : Tmp} {t : TypeId} {z : SV} (h : cellV te st.ctx (look st.env x) t = some z) :
    ∃ u, rel σ z u ∧ (resF a.tmps (.cell x t)).run P w = .ok u w := by
  unfold cellV at h
  split at h
  case h_2 => cases h
  rename_i hh i k hv
  split at h
  case h_2 => cases h
  rename_i ob ti hob hti
  have hr := hR.env x
  rw [hv] at hr
  have key : ∀ (ho : ti.td ≠ .other) (hm : ob.isMap = false) (hi : i < ob.n), (if ti.td.isStruct then k + ti.size ≤ ob.sz ∧ (ob.el i).length = ob.sz else k < ob.sz) →
      z = (if ti.td.isStruct then .agg (((ob.el i).drop k).take ti.size) else (ob.el i).getD k .u) → ∃ u, rel σ z u ∧ (resF a.tmps (.cell x t)).run P w = .ok u w := by
    intro ho hm hi hk hz
    obtain ⟨u, h1, h2⟩ := load_sound hte hR hti ho hob hm hi hr hk
    subst hz
    refine ⟨u, h1, ?_⟩
    have h3 := h2 w fun _ _ => rfl
    simp only [rel] at hr
    obtain ⟨L, _, hp⟩ := hr
    rw [hp] at h3
    simp only [resF]
    rw [hp]
    simpa [Instr.loadAt, Instr.sureAddr, asAddr] using h3
  split at h
  · cases h
  · cases h
  · rename_i hm hne
    split at h
    · rename_i hi
      split at h
      · rename_i hs
        split at h
        · rename_i hk
          cases h
          exact key (fun e => hne e) hm hi (by rw [if_pos hs]; exact hk) (by rw [if_pos hs])
        · cases h
      · rename_i hs
        split at h
        · rename_i hk
          cases h
          exact key (fun e => hne e) hm hi (by rw [if_neg hs]; exact hk) (by rw [if_neg hs])
        · cases h
    · cases h

theorem resQ_sound {P : Program} {te : TE} (hte : teOk P te) {fn : Func} {A : Amb} {σ : Asg} {st : St} {a : Act} {w : World} (hR : Rel A σ st a w) {Q : SV → Ctx → Prop} (h : resQ te st Q fn.results.toList []) :
    ∃ z v, Q z st.ctx ∧ (results fn a.tmps).run P w = .ok v w ∧ rel σ z v := by
  have key : ∀ (l : List ResultVar) (acc : List SV) (us : List Value), relL σ acc us → resQ te st Q l acc →
      ∃ zs vs : _, Q (tupS zs) st.ctx ∧ relL σ zs (us ++ vs) ∧ (l.mapM (resF a.tmps)).run P w = .ok vs w := by
    intro l
    induction l with
    | nil => intro acc us hu h; exact ⟨acc, [], h, by simpa using hu, by simp⟩
    | cons x xs ih =>
      intro acc us hu h
      have app : ∀ (z : SV) (u : Value), rel σ z u → relL σ (acc ++ [z]) (us ++ [u]) := by
        intro z u hz
        refine relL_of_get (by simp [relL_length hu]) fun j y v hy hv => ?_
        have hl := relL_length hu
        by_cases hj : j < acc.length
        · rw [List.getElem?_append_left hj] at hy
          rw [List.getElem?_append_left (by omega)] at hv
          obtain ⟨v', h1, h2⟩ := relL_get hu hy
          rw [hv] at h1; cases h1; exact h2
        · rw [List.getElem?_append_right (by omega)] at hy
          rw [List.getElem?_append_right (by omega)] at hv
          have : j = acc.length := by
            rcases Nat.lt_or_ge (j - acc.length) 1 with h' | h'
            · omega
            · rw [List.getElem?_eq_none (by simpa using h')] at hy; cases hy
          subst this
          simp at hy
          rw [show acc.length - us.length = 0 from by omega] at hv
          simp at hv
          subst hy hv
          exact hz
      cases x with
      | tmp t =>
        simp only [resQ] at h
        obtain ⟨zs, vs, h1, h2, h3⟩ := ih (acc ++ [look st.env t]) (us ++ [a.tmps.getD t undef]) (app _ _ (hR.env t)) h
        refine ⟨zs, a.tmps.getD t undef :: vs, h1, by simpa using h2, ?_⟩
        simp only [List.mapM_cons, Sem.run_bind, resF, Sem.run_pure, Result.andThen_ok]
        rw [h3]
        simp
      | cell y t =>
        simp only [resQ] at h
        split at h
        case h_2 => exact h.elim
        rename_i z hz
        obtain ⟨u, hu1, hu2⟩ := cellV_sound hte hR hz
        obtain ⟨zs, vs, h1, h2, h3⟩ := ih (acc ++ [z]) (us ++ [u]) (app _ _ hu1) h
        refine ⟨zs, u :: vs, h1, by simpa using h2, ?_⟩
        rw [List.mapM_cons, Sem.run_bind, hu2]
        simp only [Result.andThen_ok, Sem.run_bind]
        rw [h3]
        simp
  obtain ⟨zs, vs, h0, h2, h1⟩ := key fn.results.toList [] [] (by simp [relL]) h
  simp only [List.nil_append] at h2
  have hrun : (results fn a.tmps).run P w = .ok (if h : vs.toArray.size = 1 then vs.toArray[0] else .tuple vs.toArray) w := by
    rw [results_eq, Sem.run_bind, Array.mapM_eq_mapM_toList]
    simp only [Sem.run_bind, map_eq_pure_bind, Sem.run_pure]
    rw [h1]
    simp
  refine ⟨tupS zs, _, h0, hrun, ?_⟩
  have hlen := relL_length h2
  unfold tupS
  split
  · rename_i x
    simp only [relL] at h2
    obtain ⟨v, r, rfl, h3, rfl⟩ := h2
    simpa using h3
  · rename_i hne
    rw [dif_neg]
    · simp only [rel]
      exact ⟨_, rfl, by simpa using h2⟩
    · intro h
      simp only [List.size_toArray] at h
      rw [h] at hlen
      match zs with
      | [] => simp at hlen
      | [x] => exact hne x rfl
      | _ :: _ :: _ => simp at hlen
end Go.Vg
