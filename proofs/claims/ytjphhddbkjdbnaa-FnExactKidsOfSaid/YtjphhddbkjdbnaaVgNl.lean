/- Rows that nobody has made yet: a nil slice is an empty row. -/
import Derived.Test.YtjphhddbkjdbnaaVgRow
namespace Go.Vg
set_option linter.unusedVariables false
set_option linter.unusedSimpArgs false
def nlV (x y : SV) : Prop := x = y ∨ (x = .nils ∧ ∃ h lo, y = .slc h lo 0)
def nlL : List SV → List SV → Prop
  | [], [] => True
  | x :: xs, y :: ys => nlV x y ∧ nlL xs ys
  | _, _ => False
def nlO : Option SO → Option SO → Prop
  | some (.blk r cs), some (.blk q ds) => r = q ∧ nlL cs ds
  | o, p => o = p
def nlC : Ctx → Ctx → Prop
  | [], [] => True
  | o :: r, p :: q => nlO o p ∧ nlC r q
  | _, _ => False
def nlE (env : List (Tmp × SV)) : List (Tmp × SV) → Prop
  | [] => True
  | (t, x) :: r => nlV (look env t) x ∧ nlE env r
theorem nlV_rel {σ : Asg} {x y : SV} (h : nlV x y) {v : Value} (hr : rel σ x v) : rel σ y v := by
  rcases h with rfl | ⟨rfl, q, lo, rfl⟩
  · exact hr
  · simp only [rel] at hr ⊢
    exact ⟨none, 0, hr, Nat.le_refl _, .inl rfl⟩
theorem nlE_get {env : List (Tmp × SV)} : ∀ {e : List (Tmp × SV)}, nlE env e → ∀ t, look e t = .u ∨ nlV (look env t) (look e t)
  | [], _, t => .inl rfl
  | (u, x) :: r, h, t => by
    simp only [nlE] at h
    simp only [look]
    by_cases hu : u = t
    · rw [if_pos hu]; subst hu; exact .inr h.1
    · rw [if_neg hu]; exact nlE_get h.2 t
theorem nlL_get {σ : Asg} : ∀ {xs ys : List SV}, nlL xs ys → xs.length = ys.length ∧ ∀ k v, rel σ (xs.getD k .u) v → rel σ (ys.getD k .u) v
  | [], [], _ => ⟨rfl, fun k v h => h⟩
  | x :: xs, y :: ys, h => by
    simp only [nlL] at h
    obtain ⟨h1, h2⟩ := nlL_get (σ := σ) h.2
    refine ⟨by simp [h1], fun k v hv => ?_⟩
    cases k with
    | zero => simp only [List.getD_cons_zero] at hv ⊢; exact nlV_rel h.1 hv
    | succ k => simp only [List.getD_cons_succ] at hv ⊢; exact h2 k v hv
  | [], _ :: _, h => by simp [nlL] at h
  | _ :: _, [], h => by simp [nlL] at h
theorem nlO_sat {σ : Asg} {w : World} {h : Nat} : ∀ {o p : Option SO}, nlO o p → ∀ {q : SO}, p = some q → ∃ r, o = some r ∧ r.ro = q.ro ∧ (objSat σ w h r → objSat σ w h q) := by
  intro o p hn q hq
  subst hq
  unfold nlO at hn
  split at hn
  · rename_i r cs q' ds heq
    cases heq
    obtain ⟨rfl, hl⟩ := hn
    refine ⟨_, rfl, rfl, fun hs => ?_⟩
    obtain ⟨hlen, hg⟩ := nlL_get (σ := σ) hl
    simp only [objSat, SO.isMap] at hs ⊢
    rcases hs with ⟨h1, h2⟩ | ⟨L, c, e, fr, h1, h2⟩
    · exact .inl ⟨h1, h2⟩
    · have h3 := h2.lsz; have h4 := h2.fits; have h5 := h2.cell
      simp only [SO.sz, SO.n, SO.el] at h3 h4 h5
      refine .inr ⟨L, c, e, fr, h1, h2.heap, by simp only [SO.sz]; omega, h2.room, by simp only [SO.sz, SO.n]; omega, fun i k hi hk => ?_, h2.free⟩
      simp only [SO.sz, SO.el, SO.n] at hi hk ⊢
      obtain ⟨v, hv, hr⟩ := h5 i k hi (by omega)
      refine ⟨v, by rw [← hlen]; exact hv, hg k v hr⟩
  · exact ⟨q, hn, rfl, id⟩
theorem nlC_at : ∀ {c d : Ctx}, nlC c d → c.length = d.length ∧ ∀ h, nlO (c.at h) (d.at h)
  | [], [], _ => ⟨rfl, fun h => by simp [Ctx.at, nlO]⟩
  | o :: r, p :: q, h => by
    simp only [nlC] at h
    obtain ⟨h1, h2⟩ := nlC_at h.2
    refine ⟨by simp [h1], fun k => ?_⟩
    cases k with
    | zero => rw [at_cons_zero, at_cons_zero]; exact h.1
    | succ k => rw [at_cons_succ, at_cons_succ]; exact h2 k
  | [], _ :: _, h => by simp [nlC] at h
  | _ :: _, [], h => by simp [nlC] at h
/-- Rows without elements come out of nothing; what was nil may lie in them. -/
theorem Ent.nl {k : Nat} {env env' : List (Tmp × SV)} {c d : Ctx} (es : List (Nat × (Nat → List SV))) (he : nlE env env') (hc : nlC c d) : Ent k ⟨env, c⟩ ⟨env', d ++ es.map fun p => some (.row false p.1 0 p.2)⟩ := by
  intro A σ a w hk hR
  obtain ⟨hlen, hat⟩ := nlC_at hc
  have old : ∀ h, h < d.length → Ctx.at (d ++ es.map fun p => some (.row false p.1 0 p.2)) h = d.at h := by
    intro h hh
    simp only [Ctx.at, List.getD_eq_getElem?_getD, List.getElem?_append_left hh]
  have new : ∀ h o, d.length ≤ h → Ctx.at (d ++ es.map fun p => some (.row false p.1 0 p.2)) h = some o → o.n = 0 ∧ o.isMap = false := by
    intro h o hh ho
    simp only [Ctx.at, List.getD_eq_getElem?_getD, List.getElem?_append_right hh, List.getElem?_map] at ho
    cases hx : es[h - d.length]? with
    | none => rw [hx] at ho; cases ho
    | some p => rw [hx] at ho; simp at ho; subst ho; exact ⟨rfl, rfl⟩
  have get : ∀ h o, Ctx.at (d ++ es.map fun p => some (.row false p.1 0 p.2)) h = some o → (h < c.length ∧ ∃ r, c.at h = some r ∧ r.ro = o.ro ∧ (objSat σ w h r → objSat σ w h o)) ∨ (σ h = none ∧ objSat σ w h o) := by
    intro h o ho
    rcases Nat.lt_or_ge h d.length with hh | hh
    · rw [old h hh] at ho
      obtain ⟨r, h1, h2, h3⟩ := nlO_sat (σ := σ) (w := w) (h := h) (hat h) ho
      exact .inl ⟨by omega, r, h1, h2, h3⟩
    · have hn : σ h = none := hR.sat.beyond h (by simp only; omega)
      obtain ⟨h1, h2⟩ := new h o hh ho
      exact .inr ⟨hn, by simp only [objSat, h2]; exact .inl ⟨h1, hn⟩⟩
  refine ⟨σ, hR.defers, hR.size, fun t => ?_, ⟨fun h o ho => ?_, fun h h' o o' L L' hne e1 e2 hro s1 s2 => ?_, fun h hh => ?_, hR.sat.inHeap, hR.sat.frz, fun h o L e hro s => ?_⟩, hR.fr, fun h o L e hro s => ?_, hR.base, ?_⟩
  · rcases nlE_get he t with h | h
    · rw [h]; simp [rel]
    · exact nlV_rel h (hR.env t)
  · rcases get h o ho with ⟨_, r, h1, _, h3⟩ | ⟨_, h3⟩
    · exact h3 (hR.sat.obj h r h1)
    · exact h3
  · rcases get h o e1 with ⟨_, r, h1, h2, _⟩ | ⟨h1, _⟩
    · rcases get h' o' e2 with ⟨_, r', h1', _, _⟩ | ⟨h1', _⟩
      · exact hR.sat.apart h h' r r' L L' hne h1 h1' (by rw [h2]; exact hro) s1 s2
      · rw [h1'] at s2; cases s2
    · rw [h1] at s1; cases s1
  · exact hR.sat.beyond h (by simp only [List.length_append] at hh ⊢; omega)
  · rcases get h o e with ⟨_, r, h1, h2, _⟩ | ⟨h1, _⟩
    · exact hR.sat.frzA h r L h1 (by rw [h2]; exact hro) s
    · rw [h1] at s; cases s
  · rcases get h o e with ⟨_, r, h1, h2, _⟩ | ⟨h1, _⟩
    · exact hR.own h r L h1 (by rw [h2]; exact hro) s
    · rw [h1] at s; cases s
  · have := hR.klen
    simp only [List.length_append] at this ⊢
    omega
theorem soLe_pushM {μ : Nat → Nat} {α β : Type} {enc : α → List SV} {z : α} {g : β → α} {o : List β} {b : β} {cs : List SV} {sz n : Nat} {f : Nat → List SV} (hp : ∀ x, plainL (enc x) = true) (hn : n = o.length) (hf : ∀ j, j < n → f j = rowE enc z (o.map g) j) (hy : cs = enc (g b)) (hl : (enc (g b)).length = sz) :
    soLe μ (.row false sz (o ++ [b]).length (rowE enc z ((o ++ [b]).map g))) (.row false sz (n + 1) (catF n f fun j => litEl cs sz j)) := by
  subst hy
  refine soLe_row' (by simp [hn]) fun i hi => ?_
  rw [rowE_push (xs := o.map g) (by simp [hn]) hf hl (by simp at hi; omega), List.map_append]
  exact mapHL_plain (hp _)
/-- A call of a function that may put other rows in place of those that it was handed. -/
theorem XCalls.reb {P : Program} {f : FuncId} {k : Nat} {args0 : List SV} {pre : Ctx} {Z : SV} {C : Ctx} (hF : FnK P f k args0 pre fun z c => z = Z ∧ c = C) (l : List Nat) {args : List SV} {kk : Nat} {st : St} {K : Sl (SV × St)}
    (hargs : mapHL (muL l st.ctx.length) args0 = args) (hmap : ctxMap (muL l st.ctx.length) st.ctx l pre) (hnd : l.Nodup) (hrw : newRw k pre) (hfix : (l.drop k).all (fun g => decide (kk ≤ g)) = true) (hclean : cleanC (l.drop k) (upds l pre) 0 st.ctx)
    (hK : K.f (Z.mapH (muL l st.ctx.length), ⟨maskE (l.drop k) st.env, mergeC (muL l st.ctx.length) l pre C st.ctx⟩)) : XCalls P f args kk st K := by
  refine XCall.of hF l hargs.symm hmap (.inr hnd) hrw hfix (.inr hnd) hclean ?_
  rintro z c ⟨rfl, rfl⟩
  exact hK
theorem maskE_cons {B : List Nat} {t : Tmp} {x : SV} {r : List (Tmp × SV)} : maskE B ((t, x) :: r) = (t, if noH B x then x else .u) :: maskE B r := id rfl
theorem maskE_none {B : List Nat} : maskE B [] = [] := id rfl
theorem isCut_region {cut : List Nat} {i : Nat} {a : Array Oper} {b : Bool} : isCut cut (.region i a b) = cut.contains i := id rfl
theorem isCut_block {cut : List Nat} {i : Nat} {x : Code} : isCut cut (.block i x) = cut.contains (1000 + i) := id rfl
theorem isCut_seq {cut : List Nat} {x y : Code} : isCut cut (.seq x y) = isCut cut x := id rfl
theorem isCut_loop {cut : List Nat} {x : Code} : isCut cut (.loop x) = isCut cut x := id rfl
theorem isCut_cond {cut : List Nat} {c : Operand} {x y : Code} : isCut cut (.cond c x y) = false := id rfl
theorem isCut_skip {cut : List Nat} : isCut cut .skip = false := id rfl
theorem isCut_ret {cut : List Nat} : isCut cut .ret = false := id rfl
theorem isCut_exit {cut : List Nat} {i : Nat} : isCut cut (.exit i) = false := id rfl
theorem XCut : type_of% (And.intro (And.intro @vc_cut @isCut_region) (And.intro (And.intro @isCut_block @isCut_seq) (And.intro (And.intro @isCut_loop @isCut_cond) (And.intro @isCut_skip (And.intro @isCut_ret @isCut_exit))))) := And.intro (And.intro @vc_cut @isCut_region) (And.intro (And.intro @isCut_block @isCut_seq) (And.intro (And.intro @isCut_loop @isCut_cond) (And.intro @isCut_skip (And.intro @isCut_ret @isCut_exit))))
open Go.Pl in
theorem soLe_ints {μ : Nat → Nat} {n : Nat} {f : Nat → List SV} {G : Nat → Int} (h : ∀ j, j < n → f j = [.i .i64 (G j)]) : soLe μ (.row false 1 n (rowE intc 0 ((List.range n).map G))) (.row false 1 n f) := by
  refine soLe_row fun j hj => ?_
  rw [h j hj]
  have : ((List.range n).map G).getD j 0 = G j := by simp [List.getD, hj]
  simp only [rowE, this]
  rfl
end Go.Vg
namespace Go.Vg
/-- A function's end, where its state may first be read anew (what is nil as an empty row). -/
def FinX (te : TE) (k pl : Nat) (rs : List ResultVar) (Z : SV) (C : Ctx) (st : St) : Prop := ∃ st', Ent k st st' ∧ FinE te k pl rs Z C st'
theorem FnK.ofX {cf : Cf} (hcf : cf.ok) {f : FuncId} {fn : Func} {c : Code} (hf : cf.P.funcs[f]? = some fn) (hb : fn.body = some c) (hname : (fn.name == "runtime.NumGoroutine") = false)
    (hnt : fn.ntmps = cf.nt) {args : List SV} {pre : Ctx} (hlen : args.length ≤ cf.nt) (hk : cf.k ≤ pre.length) {rs : List ResultVar} (hrs : fn.results.toList = rs) {Z : SV} {C : Ctx} (n : Nat)
    (h : vc cf (FinX cf.te cf.k pre.length rs Z C) n [.code c] ⟨entry 0 args, pre⟩) : FnK cf.P f cf.k args pre fun z c => z = Z ∧ c = C := by
  refine FnK.ofG hcf hf hb hname hnt hlen hk hrs (fun A σ0 st0 a w hAk _ hF hR0 => ?_) n h
  obtain ⟨st, hEnt, l, ⟨h1, h2⟩, h3, h4, h5, h6⟩ := hF
  obtain ⟨σ, hR⟩ := hEnt A σ0 a w hAk hR0
  rw [← hrs] at h4
  obtain ⟨z, v, hz, hv, hr⟩ := resQ_sound (P := cf.P) hcf.te hR h4
  subst hz
  exact ⟨Z, v, C, σ.ren (muL l st.ctx.length), ⟨rfl, rfl⟩, hv, (rel_mapH _ _ _ _).1 hr, Rel.ren (st' := ⟨[], C⟩) l h1 h2 h3 trivial hAk hR, h5, h6⟩
theorem FinX.of {te : TE} {k pl : Nat} {rs : List ResultVar} {Z : SV} {C : Ctx} {st : St} (h : FinE te k pl rs Z C st) : FinX te k pl rs Z C st := ⟨st, Ent.refl _ _, h⟩
end Go.Vg
