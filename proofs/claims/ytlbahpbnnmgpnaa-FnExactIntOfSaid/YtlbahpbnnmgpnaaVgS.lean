/- A contract, used by a caller over its own objects. -/
import Derived.Test.YtlbahpbnnmgpnaaVgR
namespace Go.Vg
set_option linter.unusedVariables false
set_option linter.unusedSimpArgs false
open Go.RowKit

theorem at_app' (a b : Ctx) (g : Nat) : Ctx.at (a ++ b) g = if g < a.length then Ctx.at a g else Ctx.at b (g - a.length) := by
  simp only [Ctx.at, List.getD_eq_getElem?_getD, List.getElem?_append]
  split <;> rfl

theorem at_map_drop (μ : Nat → Nat) (c : Ctx) (k j : Nat) : Ctx.at ((c.drop k).map fun o => o.map (SO.mapH μ)) j = (Ctx.at c (k + j)).map (SO.mapH μ) := by
  simp only [Ctx.at, List.getD_eq_getElem?_getD, List.getElem?_map, List.getElem?_drop]
  cases c[k + j]? <;> simp

theorem CallOK.of {P : Program} {f : FuncId} {args0 : List SV} {pre : Ctx} {Q0 : SV → Ctx → Prop} (hF : FnOK P f args0 pre Q0) {args : List SV} {ctx : Ctx} (l : List Nat)
    (hargs : args = mapHL (muL l ctx.length) args0) (hmap : ctxMap (muL l ctx.length) ctx l pre) (honce : once l pre) :
    CallOK P f args ctx fun z c => ∃ z0 c0, Q0 z0 c0 ∧ z = z0.mapH (muL l ctx.length) ∧ c = mergeC (muL l ctx.length) l pre c0 ctx := by
  obtain ⟨hb, hF⟩ := hF
  refine ⟨hb, fun A σ st a w vs hctx hR hvs => ?_⟩
  subst hctx
  obtain ⟨hlen, hget⟩ := ctxMap_get hmap
  generalize hμ : muL l st.ctx.length = μ at *
  have μold : ∀ h g, l[h]? = some g → μ h = g := by intro h g hg; rw [← hμ]; simp [muL, hg]
  have μnew : ∀ h, pre.length ≤ h → μ h = st.ctx.length + (h - pre.length) := by
    intro h hh
    rw [← hμ, ← hlen]
    simp [muL, List.getElem?_eq_none (show l.length ≤ h by omega)]
  have lget : ∀ h, h < pre.length → ∃ g, l[h]? = some g ∧ g < st.ctx.length := by
    intro h hh
    have : h < l.length := by omega
    exact ⟨l[h], List.getElem?_eq_getElem this, (hget h _ (List.getElem?_eq_getElem this)).1⟩
  let σc : Asg := fun h => σ (μ h)
  have σcnew : ∀ h, pre.length ≤ h → σc h = none := by
    intro h hh
    show σ (μ h) = none
    rw [μnew h hh]
    exact hR.sat.beyond _ (by omega)
  have preInfo : ∀ h o0, pre.at h = some o0 → ∃ g o, l[h]? = some g ∧ μ h = g ∧ g < st.ctx.length ∧ st.ctx.at g = some o ∧ soLe μ o0 o := by
    intro h o0 ho
    obtain ⟨g, hg, hlt⟩ := lget h (at_lt ho)
    obtain ⟨o, h1, h2⟩ := (hget h g hg).2.2 o0 ho
    exact ⟨g, o, hg, μold h g hg, hlt, h1, h2⟩
  have inj : ∀ h h' g o, pre.at h = some o → o.ro = false → l[h]? = some g → l[h']? = some g → h = h' := by
    intro h h' g o h1 h2 h3 h4
    rcases honce with hall | hnd
    · rw [List.all_eq_true] at hall
      have := hall (some o) (by
        have hlt := at_lt h1
        refine List.mem_of_getElem? (i := h) ?_
        rw [Ctx.at, List.getD_eq_getElem?_getD, List.getElem?_eq_getElem hlt] at h1
        rw [List.getElem?_eq_getElem hlt]
        simpa using h1)
      simp only at this
      rw [h2] at this; cases this
    · obtain ⟨a1, a2⟩ := List.getElem?_eq_some_iff.1 h3
      obtain ⟨b1, b2⟩ := List.getElem?_eq_some_iff.1 h4
      exact List.getElem_inj (h₀ := a1) (h₁ := b1) hnd |>.1 (a2.trans b2.symm)
  have hsat : Sat σc w pre := by
    refine ⟨fun h o0 ho => ?_, fun h h' o o' L L' hne e1 e2 hro s1 s2 => ?_, σcnew, fun h L hL => hR.sat.inHeap _ L hL⟩
    · obtain ⟨g, o, hg, hm, hlt, h1, h2⟩ := preInfo h o0 ho
      exact objSat_down (σ := σ) (μ := μ) (fun _ => rfl) h2 (by rw [hm]; exact hR.sat.obj g o h1)
    · obtain ⟨g, p, hg, hm, hlt, h1, h2⟩ := preInfo h o e1
      obtain ⟨g', p', hg', hm', hlt', h1', h2'⟩ := preInfo h' o' e2
      refine hR.sat.apart g g' p p' L L' (fun e => hne ?_) h1 h1' (h2.ro hro) (by rw [← hm]; exact s1) (by rw [← hm']; exact s2)
      subst e
      exact inj h h' g o e1 hro hg hg'
  have hvs' : relL σc args0 vs.toList := by
    rw [hargs] at hvs
    exact (relL_mapH σ μ args0 vs.toList).1 hvs
  refine (hF w σc vs hsat hvs').mono fun e w' ⟨v, z0, c0, σ0, e1, e2, p⟩ => ?_
  -- blocks of caller's objects that the callee may not write
  have keepB : ∀ g o L, st.ctx.at g = some o → (∀ h o0, l[h]? = some g → pre.at h = some o0 → o0.ro = true) → σ g = some L → ¬ rwB pre σc L.b := by
    intro g o L ho hn hL ⟨h, o0, L', h1, h2, h3, h4⟩
    obtain ⟨g', p', hg', hm', hlt', h1', h2'⟩ := preInfo h o0 h1
    have hne : g' ≠ g := by
      intro he; subst he
      rw [hn h o0 hg' h1] at h2; cases h2
    exact hR.sat.apart g' g p' o L' L hne h1' ho (h2'.ro h2) (by rw [← hm']; exact h3) hL h4
  let σ' : Asg := fun g => if g < st.ctx.length then σ g else σ0 (pre.length + (g - st.ctx.length))
  have hσ : ∀ h, σ' (μ h) = σ0 h := by
    intro h
    by_cases hh : h < pre.length
    · obtain ⟨g, hg, hlt⟩ := lget h hh
      rw [μold h g hg]
      show (if g < st.ctx.length then σ g else _) = _
      rw [if_pos hlt, p.base h hh]
      show σ g = σ (μ h)
      rw [μold h g hg]
    · rw [μnew h (by omega)]
      show (if _ then _ else _) = _
      rw [if_neg (by omega)]
      congr 1
      omega
  have hle : leA σ σ' := by
    intro g L hL
    have : g < st.ctx.length := by
      rcases Nat.lt_or_ge g st.ctx.length with h' | h'
      · exact h'
      · rw [hR.sat.beyond g h'] at hL; cases hL
    show (if g < st.ctx.length then σ g else _) = _
    rw [if_pos this, hL]
  -- what stands under a number of the caller
  let ctx' := mergeC μ l pre c0 st.ctx
  have clen : ctx'.length = st.ctx.length + (c0.length - pre.length) := by
    show (upd μ l pre c0 st.ctx ++ _).length = _
    simp [upd_length]
  have cases' : ∀ g o, ctx'.at g = some o → (∃ h o', μ h = g ∧ c0.at h = some o' ∧ o = o'.mapH μ ∧ (o'.ro = false ∨ h < pre.length)) ∨
      (g < st.ctx.length ∧ st.ctx.at g = some o ∧ ∀ h o0, l[h]? = some g → pre.at h = some o0 → o0.ro = true) := by
    intro g o ho
    have ho' : Ctx.at (upd μ l pre c0 st.ctx ++ (c0.drop pre.length).map fun o => o.map (SO.mapH μ)) g = some o := ho
    rw [at_app', upd_length] at ho'
    split at ho'
    · rename_i hg
      by_cases hx : ∃ h o0, l[h]? = some g ∧ pre.at h = some o0 ∧ o0.ro = false
      · obtain ⟨h, o0, h1, h2, h3⟩ := hx
        have hnd : l.Nodup := by
          rcases honce with hall | hnd
          · rw [List.all_eq_true] at hall
            have := hall (some o0) (by
              have hlt := at_lt h2
              refine List.mem_of_getElem? (i := h) ?_
              rw [Ctx.at, List.getD_eq_getElem?_getD, List.getElem?_eq_getElem hlt] at h2
              rw [List.getElem?_eq_getElem hlt]
              simpa using h2)
            simp only at this
            rw [h3] at this; cases this
          · exact hnd
        rw [upd_eq μ h3 l pre c0 st.ctx h hnd h1 h2 hg (Nat.lt_of_lt_of_le (at_lt h2) p.len)] at ho'
        cases hc : c0.at h with
        | none => rw [hc] at ho'; simp at ho'
        | some o' =>
          rw [hc] at ho'
          simp at ho'
          exact .inl ⟨h, o', μold h g h1, hc, ho'.symm, .inr (at_lt h2)⟩
      · have hx' : ∀ h o0, l[h]? = some g → pre.at h = some o0 → o0.ro = true := by
          intro h o0 h1 h2
          cases h3 : o0.ro with
          | true => rfl
          | false => exact absurd ⟨h, o0, h1, h2, h3⟩ hx
        rw [upd_ne μ g l pre c0 st.ctx hx'] at ho'
        exact .inr ⟨hg, ho', hx'⟩
    · rename_i hg
      rw [at_map_drop] at ho'
      cases hc : c0.at (pre.length + (g - st.ctx.length)) with
      | none => rw [hc] at ho'; simp at ho'
      | some o' =>
        rw [hc] at ho'
        simp at ho'
        refine .inl ⟨_, o', ?_, hc, ho'.symm, .inl (p.new _ o' (by omega) hc)⟩
        rw [μnew _ (by omega)]
        omega
  have old : ∀ g, g < st.ctx.length → σ' g = σ g := fun g hg => if_pos hg
  have ownE : ∀ g o L, ctx'.at g = some o → o.ro = false → σ' g = some L → A.D L.b ∨ A.w0.heap.size ≤ L.b := by
    intro g o L ho hro hL
    rcases cases' g o ho with ⟨h, o', hm, hc, rfl, _⟩ | ⟨hg, ho2, _⟩
    · rw [SO.ro_mapH] at hro
      rw [← hm, hσ] at hL
      rcases p.own h o' L hc hro hL with ⟨h2, o0, L', q1, q2, q3, q4⟩ | hnew
      · obtain ⟨g', p', hg', hm', hlt', h1', h2'⟩ := preInfo h2 o0 q1
        have := hR.own g' p' L' h1' (h2'.ro q2) (by rw [← hm']; exact q3)
        rwa [q4] at this
      · exact .inr (Nat.le_trans hR.fr.size hnew)
    · rw [old g hg] at hL
      exact hR.own g o L ho2 hro hL
  refine ⟨v, z0.mapH μ, ctx', σ', e1, ⟨z0, c0, e2, rfl, rfl⟩, hle, ?_, ?_⟩
  · rw [rel_mapH]
    have : (fun h => σ' (μ h)) = σ0 := funext hσ
    rw [this]
    exact p.val
  · refine ⟨hR.defers, hR.size, fun t => rel_mono hle (hR.env t), ⟨fun g o ho => ?_, fun g1 g2 o1 o2 L1 L2 hne e1 e2 hro s1 s2 => ?_, fun g hg => ?_, fun g L hL => ?_⟩, ?_, ownE, fun h hh => ?_, ?_⟩
    · rcases cases' g o ho with ⟨h, o', hm, hc, rfl, _⟩ | ⟨hg, ho2, hn⟩
      · rw [← hm]
        exact objSat_up hσ (p.sat.obj h o' hc)
      · refine objSat_same hle (old g hg) (fun L hL => ?_) (hR.sat.obj g o ho2)
        first
          | exact p.fr.block _ (hR.sat.inHeap g L hL) (keepB g o L ho2 hn hL)
          | (rw [old g hg] at hL; exact p.fr.block _ (hR.sat.inHeap g L hL) (keepB g o L ho2 hn hL))
    · rcases cases' g1 o1 e1 with ⟨h1, o1', hm1, hc1, rfl, hk1⟩ | ⟨hg1, ho1, hn1⟩
      · rw [SO.ro_mapH] at hro
        rw [← hm1, hσ] at s1
        rcases cases' g2 o2 e2 with ⟨h2, o2', hm2, hc2, rfl, hk2⟩ | ⟨hg2, ho2, hn2⟩
        · rw [← hm2, hσ] at s2
          refine p.sat.apart h1 h2 o1' o2' L1 L2 (fun e => hne ?_) hc1 hc2 hro s1 s2
          rw [← hm1, ← hm2, e]
        · rw [old g2 hg2] at s2
          intro he
          rcases p.own h1 o1' L1 hc1 hro s1 with hx | hx
          · rw [he] at hx
            exact keepB g2 o2 L2 ho2 hn2 s2 hx
          · have := hR.sat.inHeap g2 L2 s2
            omega
      · rw [old g1 hg1] at s1
        rcases cases' g2 o2 e2 with ⟨h2, o2', hm2, hc2, rfl, hk2⟩ | ⟨hg2, ho2, hn2⟩
        · rw [← hm2, hσ] at s2
          intro he
          by_cases hlt : h2 < pre.length
          · obtain ⟨g', hg', hlt'⟩ := lget h2 hlt
            rw [p.base h2 hlt] at s2
            have s2' : σ g' = some L2 := by rw [← μold h2 g' hg']; exact s2
            have hgg : g' = g2 := by rw [← hm2, μold h2 g' hg']
            cases hp : pre.at h2 with
            | some o0 =>
              obtain ⟨g'', p', hg'', hm'', hlt'', h1', h2'⟩ := preInfo h2 o0 hp
              rw [hg'] at hg''
              cases hg''
              exact hR.sat.apart g1 g' o1 p' L1 L2 (by rw [hgg]; exact hne) ho1 h1' hro s1 s2' he
            | none =>
              have := (hget h2 g' hg').2.1
              rw [hp] at this; cases this
          · have hx : o2'.ro = false := hk2.resolve_right hlt
            rcases p.own h2 o2' L2 hc2 hx s2 with hx | hx
            · rw [← he] at hx
              exact keepB g1 o1 L1 ho1 hn1 s1 hx
            · have := hR.sat.inHeap g1 L1 s1
              omega
        · rw [old g2 hg2] at s2
          exact hR.sat.apart g1 g2 o1 o2 L1 L2 hne ho1 ho2 hro s1 s2
    · have h1 : ctx'.length ≤ g := hg
      rw [clen] at h1
      show (if g < st.ctx.length then σ g else _) = none
      rw [if_neg (by omega)]
      exact p.sat.beyond _ (by have := p.len; omega)
    · by_cases hg : g < st.ctx.length
      · rw [old g hg] at hL
        exact Nat.lt_of_lt_of_le (hR.sat.inHeap g L hL) p.fr.size
      · have hL' : σ0 (pre.length + (g - st.ctx.length)) = some L := by
          have : σ' g = σ0 (pre.length + (g - st.ctx.length)) := if_neg hg
          rw [← this]; exact hL
        exact p.sat.inHeap _ L hL'
    · refine hR.fr.step p.fr fun b hb ⟨h, o0, L, h1, h2, h3, h4⟩ => ?_
      obtain ⟨g', p', hg', hm', hlt', h1', h2'⟩ := preInfo h o0 h1
      rcases hR.own g' p' L h1' (h2'.ro h2) (by rw [← hm']; exact h3) with hx | hx
      · rwa [h4] at hx
      · omega
    · have : h < st.ctx.length := Nat.lt_of_lt_of_le hh hR.klen
      rw [old h this]
      exact hR.base h hh
    · show A.k ≤ ctx'.length
      rw [clen]
      have := hR.klen
      omega
end Go.Vg
