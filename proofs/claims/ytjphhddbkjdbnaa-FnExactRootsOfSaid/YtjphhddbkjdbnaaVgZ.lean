/- One state says no more than another: objects renumbered, what is not needed left out. -/
import Derived.Test.YtjphhddbkjdbnaaVgY
namespace Go.Vg
set_option linter.unusedVariables false
set_option linter.unusedSimpArgs false
open Go.RowKit

def entCtx (μ : Nat → Nat) (ctx : Ctx) : List Nat → Ctx → Prop
  | [], [] => True
  | g :: l, o :: r => (match o with
    | none => True
    | some o' => match ctx.at g with
      | some o => soLe μ o' o
      | none => False) ∧ entCtx μ ctx l r
  | _, _ => False

def entEnv (μ : Nat → Nat) (env : List (Tmp × SV)) : List (Tmp × SV) → Prop
  | [] => True
  | (t, x) :: r => look env t = x.mapH μ ∧ entEnv μ env r

theorem entEnv_get {μ : Nat → Nat} {env : List (Tmp × SV)} : ∀ {e : List (Tmp × SV)}, entEnv μ env e → ∀ t, look e t = .u ∨ look env t = (look e t).mapH μ
  | [], _, t => .inl rfl
  | (u, x) :: r, h, t => by
    simp only [look]
    by_cases hu : u = t
    · rw [if_pos hu]; subst hu; exact .inr h.1
    · rw [if_neg hu]; exact entEnv_get h.2 t

theorem entCtx_get {μ : Nat → Nat} {ctx : Ctx} : ∀ {l : List Nat} {c : Ctx}, entCtx μ ctx l c → l.length = c.length ∧ ∀ i o', Ctx.at c i = some o' → ∃ g o, l[i]? = some g ∧ ctx.at g = some o ∧ soLe μ o' o
  | [], [], _ => ⟨rfl, fun i o' e => by simp [Ctx.at] at e⟩
  | g :: l, o :: r, h => by
    simp only [entCtx] at h
    obtain ⟨h1, h2⟩ := h
    obtain ⟨hl, hh⟩ := entCtx_get h2
    refine ⟨by simp [hl], fun i o' e => ?_⟩
    cases i with
    | zero =>
      rw [at_cons_zero] at e
      subst e
      simp only at h1
      split at h1
      · rename_i q hq; exact ⟨g, q, rfl, hq, h1⟩
      · exact h1.elim
    | succ i =>
      rw [at_cons_succ] at e
      obtain ⟨g', q, k1, k2, k3⟩ := hh i o' e
      exact ⟨g', q, by simpa using k1, k2, k3⟩
  | [], _ :: _, h => by simp [entCtx] at h
  | _ :: _, [], h => by simp [entCtx] at h

def idUpTo (k : Nat) (l : List Nat) : Bool := (List.range k).all fun h => l[h]? == some h

theorem Rel.ren {k : Nat} {st st' : St} (l : List Nat) (hk : idUpTo k l = true) (hnd : l.Nodup) (hctx : entCtx (muL l st.ctx.length) st.ctx l st'.ctx) (henv : entEnv (muL l st.ctx.length) st.env st'.env) {A : Amb} {σ : Asg} {a : Act} {w : World} (hAk : A.k = k) (hR : Rel A σ st a w) : Rel A (σ.ren (muL l st.ctx.length)) st' a w := by
  obtain ⟨hlen, hget⟩ := entCtx_get hctx
  generalize hμ : muL l st.ctx.length = μ at *
  have μold : ∀ h g, l[h]? = some g → μ h = g := by intro h g hg; rw [← hμ]; simp [muL, hg]
  have μnew : ∀ h, l.length ≤ h → st.ctx.length ≤ μ h := by
    intro h hh
    rw [← hμ]
    simp [muL, List.getElem?_eq_none hh]
  have hid : ∀ (h : Nat), h < k → l[h]? = some h := by
    intro h hh
    unfold idUpTo at hk
    rw [List.all_eq_true] at hk
    simpa using hk h (by simpa using hh)
  have hkl : k ≤ l.length := by
    rcases Nat.eq_zero_or_pos k with h0 | h0
    · omega
    · have := hid (k - 1) (by omega)
      obtain ⟨h1, _⟩ := List.getElem?_eq_some_iff.1 this
      omega
  have inj : ∀ (i j g : Nat), l[i]? = some g → l[j]? = some g → i = j := by
    intro i j g hi hj
    obtain ⟨a1, a2⟩ := List.getElem?_eq_some_iff.1 hi
    obtain ⟨b1, b2⟩ := List.getElem?_eq_some_iff.1 hj
    exact List.getElem_inj (h₀ := a1) (h₁ := b1) hnd |>.1 (a2.trans b2.symm)
  refine ⟨hR.defers, hR.size, fun t => ?_, ⟨fun i o' e => ?_, fun i j o' p' L L' hne e1 e2 hro s1 s2 => ?_, fun h hh => ?_, fun h L hL => hR.sat.inHeap _ L hL, hR.sat.frz, fun i o' L e hro hL => ?_⟩, hR.fr, fun i o' L e hro hL => ?_, ⟨fun h hh => ?_, hR.base.fzb, hR.base.fzn⟩, ?_⟩
  · rcases entEnv_get henv t with h | h
    · rw [h]; simp [rel]
    · have := hR.env t
      rw [h] at this
      exact (rel_mapH σ μ _ _).1 this
  · obtain ⟨g, o, h1, h2, h3⟩ := hget i o' e
    exact objSat_down (σ := σ) (σ0 := σ.ren μ) (μ := μ) (fun _ => rfl) rfl h3 (by rw [μold i g h1]; exact hR.sat.obj g o h2)
  · obtain ⟨g, o, h1, h2, h3⟩ := hget i o' e1
    obtain ⟨g', p, h1', h2', h3'⟩ := hget j p' e2
    have s1' : σ g = some L := by rw [← μold i g h1]; exact s1
    have s2' : σ g' = some L' := by rw [← μold j g' h1']; exact s2
    refine hR.sat.apart g g' o p L L' (fun e => hne ?_) h2 h2' (h3.ro hro) s1' s2'
    subst e
    exact inj i j g h1 h1'
  · exact hR.sat.beyond _ (μnew h (by rw [hlen]; exact hh))
  · obtain ⟨g, o, h1, h2, h3⟩ := hget i o' e
    exact hR.sat.frzA g o L h2 (h3.ro hro) (by rw [← μold i g h1]; exact hL)
  · obtain ⟨g, o, h1, h2, h3⟩ := hget i o' e
    exact hR.own g o L h2 (h3.ro hro) (by rw [← μold i g h1]; exact hL)
  · show σ (μ h) = A.σ0 h
    rw [μold h h (hid h (by omega))]
    exact hR.base.loc h hh
  · show A.k ≤ st'.ctx.length
    rw [← hlen, hAk]
    exact hkl

theorem Ent.ren {k : Nat} {st st' : St} (l : List Nat) (hk : idUpTo k l = true) (hnd : l.Nodup) (hctx : entCtx (muL l st.ctx.length) st.ctx l st'.ctx) (henv : entEnv (muL l st.ctx.length) st.env st'.env) : Ent k st st' :=
  fun A σ a w hAk hR => ⟨_, Rel.ren l hk hnd hctx henv hAk hR⟩

/-- A function's end: its results and its objects, numbered anew. -/
def FinE (te : TE) (k pl : Nat) (rs : List ResultVar) (Z : SV) (C : Ctx) (st : St) : Prop :=
  ∃ l : List Nat, (idUpTo k l = true ∧ l.Nodup) ∧ entCtx (muL l st.ctx.length) st.ctx l C ∧ resQ te st (fun z _ => z = Z.mapH (muL l st.ctx.length)) rs [] ∧ newRw k C ∧ pl ≤ C.length

theorem FnK.ofE {cf : Cf} (hcf : cf.ok) {f : FuncId} {fn : Func} {c : Code} (hf : cf.P.funcs[f]? = some fn) (hb : fn.body = some c) (hname : (fn.name == "runtime.NumGoroutine") = false)
    (hnt : fn.ntmps = cf.nt) {args : List SV} {pre : Ctx} (hlen : args.length ≤ cf.nt) (hk : cf.k ≤ pre.length) {rs : List ResultVar} (hrs : fn.results.toList = rs) {Z : SV} {C : Ctx} (n : Nat)
    (h : vc cf (FinE cf.te cf.k pre.length rs Z C) n [.code c] ⟨entry 0 args, pre⟩) : FnK cf.P f cf.k args pre fun z c => z = Z ∧ c = C := by
  refine FnK.ofG hcf hf hb hname hnt hlen hk hrs (fun A σ st a w hAk _ hF hR => ?_) n h
  obtain ⟨l, ⟨h1, h2⟩, h3, h4, h5, h6⟩ := hF
  rw [← hrs] at h4
  obtain ⟨z, v, hz, hv, hr⟩ := resQ_sound (P := cf.P) hcf.te hR h4
  subst hz
  exact ⟨Z, v, C, σ.ren (muL l st.ctx.length), ⟨rfl, rfl⟩, hv, (rel_mapH _ _ _ _).1 hr, Rel.ren (st' := ⟨[], C⟩) l h1 h2 h3 trivial hAk hR, h5, h6⟩

theorem soLe.refl_plain {μ : Nat → Nat} {o : SO} (h : ∀ i, i < o.n → mapHL μ (o.el i) = o.el i) : soLe μ o o := ⟨id, rfl, rfl, Nat.le_refl _, rfl, h⟩

/-- Nothing but what the function was handed matters any more, and that is as it was. -/
theorem Ent.tail {k : Nat} {env env' : List (Tmp × SV)} {c : Ctx} (hc : c = []) (hk : k = 0) (henv : entEnv (muL [] c.length) env env') : Ent k ⟨env, c⟩ ⟨env', []⟩ := by
  subst hk
  subst hc
  exact Ent.ren [] rfl List.nodup_nil (by simp [entCtx]) henv

theorem Ent.nil {env env' : List (Tmp × SV)} {c : Ctx} (henv : entEnv (muL [] c.length) env env') : Ent 0 ⟨env, c⟩ ⟨env', []⟩ :=
  Ent.ren [] rfl List.nodup_nil (by simp [entCtx]) henv

/-- A loop's rule. -/
theorem VLoops.of {k : Nat} {st : St} {B : Sl ((St → Prop) × St)} {ι : Type} (S : ι → St) (m : ι → Nat) (i0 : ι) (h0 : Ent k st (S i0)) (h : ∀ i, B.f (fun s => ∃ j, m j < m i ∧ Ent k s (S j), S i)) : VLoops k st B :=
  ⟨ι, S, m, i0, h0, h⟩
theorem VCuts.of {k : Nat} {B : Sl (St → Prop)} {R : Sl St} {ι : Type} (S : ι → St) (h : B.f (fun s => ∃ j, Ent k s (S j))) (h2 : ∀ j, R.f (S j)) : VCuts k B R :=
  ⟨ι, S, h, h2⟩

theorem litEl_one {x : SV} : litEl [x] 1 0 = [x] := by simp [litEl]
theorem rowBytes_one {n : Int} : rowBytes (litEl [.i .u8 n] 1) 0 1 = [UInt8.ofNat n.toNat] := by
  simp [rowBytes, litEl, List.range_succ]
theorem isU8_one {n : Int} : (∀ j, j < 1 → isU8 ((litEl [.i .u8 n] 1 j).getD 0 .u) = true) := by
  intro j hj
  obtain rfl : j = 0 := by omega
  simp [litEl, isU8]
theorem tmod_nat (m k : Nat) : (m : Int).tmod (k : Int) = ((m % k : Nat) : Int) := by
  rw [Int.tmod_eq_emod_of_nonneg (by omega)]; rfl
theorem tdiv_nat (m k : Nat) : (m : Int).tdiv (k : Int) = ((m / k : Nat) : Int) := by
  rw [Int.tdiv_eq_ediv_of_nonneg (by omega)]; rfl
end Go.Vg
