/- Contracts of functions, and how a caller uses them. -/
import Derived.Test.YtjphhddbkjdbnaaVgQ
namespace Go.Vg
set_option linter.unusedVariables false
set_option linter.unusedSimpArgs false
open Go.RowKit

/-- Blocks of the objects that may be written. -/
def rwB (pre : Ctx) (σ : Asg) (b : Nat) : Prop := ∃ h o L, pre.at h = some o ∧ o.ro = false ∧ σ h = some L ∧ L.b = b

structure PostOK (k : Nat) (pre : Ctx) (σ : Asg) (w : World) (z : SV) (v : Value) (c : Ctx) (σ' : Asg) (w' : World) : Prop where
  val : rel σ' z v
  sat : Sat σ' w' c
  len : pre.length ≤ c.length
  base : ∀ h, h < k → σ' h = σ h
  fr : Fr (rwB pre σ) w w'
  own : ∀ h o L, c.at h = some o → o.ro = false → σ' h = some L → rwB pre σ L.b ∨ w.heap.size ≤ L.b
  new : ∀ h o, k ≤ h → c.at h = some o → o.ro = false
  fzb : ∀ b o, σ.fz b = some o → σ'.fz b = some o
  fzn : ∀ b o, σ'.fz b = some o → σ.fz b = some o ∨ rwB pre σ b ∨ w.heap.size ≤ b

/-- A function's contract: from these arguments and objects on. The objects under the first 'k' numbers stay where they lie, the others may come to lie elsewhere. -/
def FnK (P : Program) (f : FuncId) (k : Nat) (args : List SV) (pre : Ctx) (Q : SV → Ctx → Prop) : Prop :=
  bodyOk P f ∧ ∀ (w : World) (σ : Asg) (vs : Array Value), Sat σ w pre → relL σ args vs.toList →
    Calls P f vs w fun e w' => ∃ v z c σ', e = .returned v ∧ Q z c ∧ PostOK k pre σ w z v c σ' w'

theorem FnK.mono {P : Program} {f : FuncId} {k : Nat} {args : List SV} {pre : Ctx} {Q Q' : SV → Ctx → Prop} (h : FnK P f k args pre Q) (hq : ∀ z c, Q z c → Q' z c) : FnK P f k args pre Q' :=
  ⟨h.1, fun w σ vs h1 h2 => (h.2 w σ vs h1 h2).mono fun e w' ⟨v, z, c, σ', e1, e2, e3⟩ => ⟨v, z, c, σ', e1, hq _ _ e2, e3⟩⟩

def entry : Nat → List SV → List (Tmp × SV)
  | _, [] => []
  | i, x :: xs => (i, x) :: entry (i + 1) xs

theorem look_entry : ∀ (l : List SV) (i t : Nat), look (entry i l) t = if i ≤ t ∧ t < i + l.length then l.getD (t - i) .u else .u
  | [], i, t => by simp [look, entry]
  | x :: xs, i, t => by
    simp only [look, entry]
    by_cases h : i = t
    · subst h; simp
    · rw [if_neg h, look_entry xs (i + 1) t]
      by_cases h2 : i ≤ t ∧ t < i + (x :: xs).length
      · obtain ⟨k, rfl⟩ : ∃ k, t = i + 1 + k := ⟨t - i - 1, by omega⟩
        simp only [List.length_cons] at h2
        rw [if_pos (by omega), if_pos (by simp only [List.length_cons]; omega)]
        rw [show i + 1 + k - (i + 1) = k from by omega, show i + 1 + k - i = k + 1 from by omega]
        simp
      · simp only [List.length_cons] at h2
        rw [if_neg (by omega), if_neg (by simp only [List.length_cons]; omega)]

def newRw (k : Nat) (c : Ctx) : Prop := ((c.drop k).all fun o => match o with | some x => !x.ro | none => true) = true

theorem newRw.get {k : Nat} {c : Ctx} (h : newRw k c) {j : Nat} {o : SO} (hj : k ≤ j) (ho : c.at j = some o) : o.ro = false := by
  unfold newRw at h
  rw [List.all_eq_true] at h
  have hlt : j < c.length := by
    rcases Nat.lt_or_ge j c.length with h' | h'
    · exact h'
    · rw [Ctx.at, List.getD_eq_getElem?_getD, List.getElem?_eq_none h'] at ho; cases ho
  have hm : (some o) ∈ c.drop k := by
    refine List.mem_of_getElem? (i := j - k) ?_
    rw [List.getElem?_drop, show k + (j - k) = j from by omega, List.getElem?_eq_getElem hlt]
    rw [Ctx.at, List.getD_eq_getElem?_getD, List.getElem?_eq_getElem hlt] at ho
    simpa using ho
  have := h _ hm
  simpa using this

/-- From a walk to a contract; 'F': what the walk brings about at its end. -/
theorem FnK.ofG {cf : Cf} (hcf : cf.ok) {f : FuncId} {fn : Func} {c : Code} (hf : cf.P.funcs[f]? = some fn) (hb : fn.body = some c) (hname : (fn.name == "runtime.NumGoroutine") = false)
    (hnt : fn.ntmps = cf.nt) {args : List SV} {pre : Ctx} (hlen : args.length ≤ cf.nt) (hk : cf.k ≤ pre.length) {rs : List ResultVar} (hrs : fn.results.toList = rs) {Q : SV → Ctx → Prop} {F : St → Prop} (hF : ∀ (A : Amb) (σ : Asg) (st : St) (a : Act) (w : World), A.k = cf.k → A.gr = true → F st → Rel A σ st a w → ∃ z v c σ2, Q z c ∧ (results fn a.tmps).run cf.P w = .ok v w ∧ rel σ2 z v ∧ Rel A σ2 ⟨[], c⟩ a w ∧ newRw cf.k c ∧ pre.length ≤ c.length) (n : Nat)
    (h : vc cf F n [.code c] ⟨entry 0 args, pre⟩) : FnK cf.P f cf.k args pre Q := by
  subst hrs
  refine ⟨⟨fn, hf, by simp [hb], hname⟩, fun w σ vs hsat hargs => ?_⟩
  have hl := relL_length hargs
  simp only [Array.length_toList] at hl
  let A : Amb := ⟨w, rwB pre σ, σ, cf.k, cf.nt, true⟩
  let a : Act := { tmps := vs ++ Array.replicate (fn.ntmps - vs.size) undef, defers := [] }
  have hR : Rel A σ ⟨entry 0 args, pre⟩ a w := by
    refine ⟨rfl, ?_, fun t => ?_, hsat, Fr.refl _ _, fun h o L h1 h2 h3 => .inl ⟨h, o, L, h1, h2, h3, rfl⟩, ⟨fun _ _ => rfl, fun _ _ h => h, fun _ _ h => .inl h⟩, hk⟩
    · simp [a, A]; omega
    · rw [look_entry]
      split
      · rename_i ht
        simp only [Nat.zero_add] at ht
        obtain ⟨v, hv, hr⟩ := relL_get hargs (j := t) (x := args[t]) (by simp [ht.2])
        have h1 : args.getD (t - 0) .u = args[t] := by simp [List.getD_eq_getElem?_getD, List.getElem?_eq_getElem ht.2]
        rw [h1]
        have h2 : a.tmps.getD t undef = v := by
          rw [Array.getElem?_toList] at hv
          simp only [a]
          rw [Array.getD_eq_getD_getElem?, Array.getElem?_append_left (by omega), hv]
          rfl
        rw [h2]
        exact hr
      · simp [rel]
  refine calls_of_wp hf hb ?_
  have hkp := vc_sound hcf (A := A) rfl rfl rfl n _ _ _ _ _ h hR
  simp only [KP] at hkp
  refine wp_mono hkp fun e a' w' he => ?_
  have fin : ∀ σ' st', (F st' ∧ Rel A σ' st' a' w') → a'.defers = [] ∧ ∃ v, (results fn a'.tmps).run cf.P w' = .ok v w' ∧
      ∃ v_1 z c σ', Ending.returned v = Ending.returned v_1 ∧ Q z c ∧ PostOK cf.k pre σ w z v_1 c σ' w' := by
    intro σ1 st' ⟨hq, hR1⟩
    obtain ⟨z, v, c, σ', hz, hv, hr, hR', hn, hl⟩ := hF A σ1 st' a' w' rfl rfl hq hR1
    exact ⟨hR'.defers, v, hv, v, z, _, σ', rfl, hz, hr, hR'.sat, hl, hR'.base.loc, hR'.fr, hR'.own, fun h o h1 h2 => hn.get h1 h2, hR'.base.fzb, fun b o h => (hR'.base.fzn b o h).imp id And.right⟩
  cases e with
  | normal =>
    simp only [KP] at he
    obtain ⟨σ', st', h1, h2⟩ := he
    exact fin σ' st' ⟨h1, h2⟩
  | ret =>
    simp only [KP] at he
    obtain ⟨σ', st', h1, h2⟩ := he
    exact fin σ' st' ⟨h1, h2⟩
  | _ => simp only [KP] at he

theorem FnK.of {cf : Cf} (hcf : cf.ok) {f : FuncId} {fn : Func} {c : Code} (hf : cf.P.funcs[f]? = some fn) (hb : fn.body = some c) (hname : (fn.name == "runtime.NumGoroutine") = false)
    (hnt : fn.ntmps = cf.nt) {args : List SV} {pre : Ctx} (hlen : args.length ≤ cf.nt) (hk : cf.k ≤ pre.length) {rs : List ResultVar} (hrs : fn.results.toList = rs) {Q : SV → Ctx → Prop} (n : Nat)
    (h : vc cf (fun st => resQ cf.te st Q rs [] ∧ newRw cf.k st.ctx ∧ pre.length ≤ st.ctx.length) n [.code c] ⟨entry 0 args, pre⟩) : FnK cf.P f cf.k args pre Q := by
  refine FnK.ofG hcf hf hb hname hnt hlen hk hrs (fun A σ st a w _ _ hF hR => ?_) n h
  obtain ⟨hq, hn, hl⟩ := hF
  rw [← hrs] at hq
  obtain ⟨z, v, hz, hv, hr⟩ := resQ_sound (P := cf.P) hcf.te hR hq
  exact ⟨z, v, _, σ, hz, hv, hr, ⟨hR.defers, hR.size, fun t => by simp [look, rel], hR.sat, hR.fr, hR.own, hR.base, hR.klen⟩, hn, hl⟩

theorem fz_up {σ : Asg} {w : World} {n : Nat} {ctx : Ctx} (hs : Sat σ w ctx) {b : Nat} {o : Obj} (hb : σ.fz b = some o) : (if n ≤ b then w.heap[b]? else σ.fz b) = some o := by
  split
  · exact hs.frz b o hb
  · exact hb

-- A value whose rows lie in new blocks, once those are frozen.
mutual
theorem frz_new {σ : Asg} {w : World} {n : Nat} {ctx : Ctx} (hs : Sat σ w ctx) (hnew : ∀ h o L, ctx.at h = some o → o.ro = false → σ h = some L → n ≤ L.b) (hrw : ∀ h o, ctx.at h = some o → o.ro = false) :
    ∀ {x : SV} {v : Value}, frzOk ctx x → (frzV ctx x).plain = true → rel σ x v → rel ⟨fun _ => none, fun b => if n ≤ b then w.heap[b]? else σ.fz b⟩ (frzV ctx x) v
  | .slc h lo len, v, hok, hp, hr => by
    have hr0 := hr
    simp only [frzV] at hp ⊢
    simp only [frzOk] at hok
    split at hp
    · rename_i ro sz n' f hob
      rw [hob] at hok
      obtain ⟨hn, hel⟩ := hok
      simp only [rel] at hr ⊢
      obtain ⟨a, cap, rfl, hl, hr⟩ := hr
      have hlen : (rowList f lo len).length = len := by simp [rowList]
      refine ⟨a, cap, by rw [hlen], by rw [hlen]; exact hl, ?_⟩
      by_cases h0 : len = 0
      · left; subst h0; rfl
      right
      rcases hr with hr | ⟨L, hL, rfl, hav⟩
      · omega
      have hobj := hs.obj h _ hob
      unfold objSat at hobj
      simp only [SO.isMap] at hobj
      rcases hobj with ⟨_, h1⟩ | ⟨L', c, e, fr, hL', hc⟩
      · rw [h1] at hL; cases hL
      rw [hL'] at hL
      cases hL
      have hsz : L.sz = sz := hc.lsz
      have hge : n ≤ L.b := hnew h _ L hob (hrw h _ hob) hL'
      refine ⟨L.b, L.sh + lo * L.sz + 0, c, e, fr, rfl, by simp only [if_pos hge]; exact hc.heap, relR_of_get fun j x hx => ?_⟩
      have hj : j < len := by rw [← hlen]; exact (List.getElem?_eq_some_iff.1 hx).1
      have hx' : x = f (lo + j) := by simpa [rowList, hj] using hx.symm
      subst hx'
      obtain ⟨e1, e2⟩ := hel j hj
      refine ⟨e1, ?_⟩
      have := cell_at hc (i := lo + j) (by omega) e1
      rw [List.drop_drop, hsz, show L.sh + lo * sz + 0 + j * sz = L.sh + (lo + j) * sz by rw [Nat.add_mul]; omega]
      exact relL_plain (fun b o hb => fz_up hs hb) e2 this
    · simp [SV.plain] at hp
  | .agg l, v, hok, hp, hr => by
    simp only [frzV, frzOk, SV.plain, rel] at hok hp hr ⊢
    obtain ⟨cs, e, hr⟩ := hr
    exact ⟨cs, e, frzL_new hs hnew hrw hok hp hr⟩
  | .tup l, v, hok, hp, hr => by
    simp only [frzV, frzOk, SV.plain, rel] at hok hp hr ⊢
    obtain ⟨cs, e, hr⟩ := hr
    exact ⟨cs, e, frzL_new hs hnew hrw hok hp hr⟩
  | .b _, _, _, hp, hr => rel_plain (fun b o hb => fz_up hs hb) hp hr
  | .i _ _, _, _, hp, hr => rel_plain (fun b o hb => fz_up hs hb) hp hr
  | .s _, _, _, hp, hr => rel_plain (fun b o hb => fz_up hs hb) hp hr
  | .ptr _ _ _, _, _, hp, hr => rel_plain (fun b o hb => fz_up hs hb) hp hr
  | .nils, _, _, hp, hr => rel_plain (fun b o hb => fz_up hs hb) hp hr
  | .mp _, _, _, hp, hr => rel_plain (fun b o hb => fz_up hs hb) hp hr
  | .fn _, _, _, hp, hr => rel_plain (fun b o hb => fz_up hs hb) hp hr
  | .gd _ _, _, _, hp, hr => rel_plain (fun b o hb => fz_up hs hb) hp hr
  | .u, _, _, hp, hr => rel_plain (fun b o hb => fz_up hs hb) hp hr
  | .fs _ _, _, _, hp, hr => rel_plain (fun b o hb => fz_up hs hb) hp hr
  | .fp _ _, _, _, hp, hr => rel_plain (fun b o hb => fz_up hs hb) hp hr
theorem frzL_new {σ : Asg} {w : World} {n : Nat} {ctx : Ctx} (hs : Sat σ w ctx) (hnew : ∀ h o L, ctx.at h = some o → o.ro = false → σ h = some L → n ≤ L.b) (hrw : ∀ h o, ctx.at h = some o → o.ro = false) :
    ∀ {x : List SV} {v : List Value}, frzOkL ctx x → plainL (frzVL ctx x) = true → relL σ x v → relL ⟨fun _ => none, fun b => if n ≤ b then w.heap[b]? else σ.fz b⟩ (frzVL ctx x) v
  | [], _, _, _, hr => by simpa [relL, frzVL] using hr
  | x :: xs, _, hok, hp, hr => by
    simp only [relL, frzVL, plainL, frzOkL, Bool.and_eq_true] at hok hp hr ⊢
    obtain ⟨v, q, e, r1, r2⟩ := hr
    exact ⟨v, q, e, frz_new hs hnew hrw hok.1 hp.1 r1, frzL_new hs hnew hrw hok.2 hp.2 r2⟩
end

/-! Functions on values without handles. -/

/-- What a function's rows hold at its end, frozen for good. -/
def FnZ (P : Program) (f : FuncId) (args : List SV) (z : SV) : Prop := FnK P f 0 args [] fun z' c => frzOk c z' ∧ frzV c z' = z

/-- A function of values without handles that turns nothing. -/
def PF (P : Program) (f : FuncId) (args : List SV) (z : SV) : Prop := plainL args = true ∧ z.plain = true ∧ FnZ P f args z

theorem sat_nil (w : World) {fz : Nat → Option Obj} (h : ∀ b o, fz b = some o → w.heap[b]? = some o) : Sat ⟨fun _ => none, fz⟩ w [] :=
  ⟨fun h o e => (by simp [Ctx.at] at e), fun h h' o o' L L' _ e => (by simp [Ctx.at] at e), fun _ _ => rfl, fun _ _ e => (by cases e), h, fun h o L e => by simp [Ctx.at] at e⟩

theorem not_rwB_nil {σ : Asg} {b : Nat} : ¬ rwB [] σ b := by
  rintro ⟨h, o, L, hh, _⟩
  simp [Ctx.at] at hh

/-- Rows that nobody else knows of, frozen for good as a function ends. -/
theorem froze_post {pre : Ctx} {σ : Asg} {w : World} {z : SV} {v : Value} {c : Ctx} {σ' : Asg} {w' : World} (p : PostOK 0 pre σ w z v c σ' w') (hok : frzOk c z) (hp : (frzV c z).plain = true)
    (hall : pre = []) : ∃ σ'', PostOK 0 pre σ w (frzV c z) v [] σ'' w' := by
  subst hall
  have hfz : ∀ b o, σ'.fz b = some o → w'.heap[b]? = some o := p.sat.frz
  refine ⟨⟨fun _ => none, fun b => if w.heap.size ≤ b then w'.heap[b]? else σ'.fz b⟩, ?_, ?_, Nat.le_refl _, fun h hh => absurd hh (Nat.not_lt_zero _), p.fr, fun h o L e => by simp [Ctx.at] at e, fun h o _ e => by simp [Ctx.at] at e, fun b o hb => ?_, fun b o hb => ?_⟩
  · -- the value, by blocks that are new or were frozen
    exact frz_new p.sat (fun h o L e r s => (p.own h o L e r s).resolve_left not_rwB_nil) (fun h o e => p.new h o (Nat.zero_le _) e) hok hp p.val
  · refine ⟨fun h o e => (by simp [Ctx.at] at e), fun h h' o o' L L' _ e => (by simp [Ctx.at] at e), fun _ _ => rfl, fun _ _ e => (by cases e), fun b o hb => ?_, fun h o L e => by simp [Ctx.at] at e⟩
    simp only at hb
    split at hb
    · exact hb
    · exact hfz b o hb
  · simp only
    split
    · exact hfz b o (p.fzb b o hb)
    · exact p.fzb b o hb
  · simp only at hb
    split at hb
    · rename_i h; exact .inr (.inr h)
    · exact p.fzn b o hb

theorem PF.call {P : Program} {f : FuncId} {args : List SV} {z : SV} (h : PF P f args z) : CallPure P f args z := by
  obtain ⟨h1, h2, hb, h3⟩ := h
  refine ⟨hb, h1, h2, fun fz w vs hfz hargs => ?_⟩
  refine (h3 w ⟨fun _ => none, fz⟩ vs (sat_nil w hfz) hargs).mono fun e w' ⟨v, z', c, σ', e1, ⟨e2, e3⟩, p⟩ => ?_
  subst e3
  obtain ⟨σ'', p⟩ := froze_post p e2 h2 rfl
  exact ⟨v, σ''.fz, e1, rel_plain (σ := σ'') (σ' := ⟨fun _ => none, σ''.fz⟩) (fun _ _ h => h) h2 p.val, p.fr.mono fun b _ hb => (not_rwB_nil hb).elim, p.fzb, p.sat.frz,
    fun b o hb => (p.fzn b o hb).imp id fun h => h.resolve_left not_rwB_nil⟩

/-- Objects as another function's numbers call them. -/
def SO.mapH (μ : Nat → Nat) : SO → SO
  | .row r z n f => .row r z n fun i => mapHL μ (f i)
  | .blk r cs => .blk r (mapHL μ cs)
  | o => o

/-- 'o0' tells no more than 'o', up to the handles' numbers. -/
structure soLe (μ : Nat → Nat) (o0 o : SO) : Prop where
  ro : o0.ro = false → o.ro = false
  isMap : o0.isMap = o.isMap
  sz : o0.sz = o.sz
  n : o0.n ≤ o.n
  ents : o0.ents = o.ents
  el : ∀ i, i < o0.n → mapHL μ (o0.el i) = o.el i

/-- Handles of a callee, in the caller's numbers: 'l' those that it was handed, then the new ones. -/
def muL (l : List Nat) (m : Nat) (h : Nat) : Nat := match l[h]? with
  | some g => g
  | none => m + (h - l.length)

def ctxMap (μ : Nat → Nat) (ctx : Ctx) : List Nat → Ctx → Prop
  | [], [] => True
  | g :: l, o0 :: pre => g < ctx.length ∧ (match o0 with
    | none => False
    | some o0 => match ctx.at g with
      | some o => soLe μ o0 o
      | none => False) ∧ ctxMap μ ctx l pre
  | _, _ => False

/-- What may be written is handed once only. -/
def once (l : List Nat) (pre : Ctx) : Prop := (pre.all fun o => match o with | some x => x.ro | none => true) = true ∨ l.Nodup

def upd (μ : Nat → Nat) : List Nat → Ctx → Ctx → Ctx → Ctx
  | g :: l, some o :: pre, x :: c, ctx => upd μ l pre c (if o.ro = false then ctx.set g (x.map (SO.mapH μ)) else ctx)
  | _ :: l, none :: pre, _ :: c, ctx => upd μ l pre c ctx
  | _, _, _, ctx => ctx

theorem at_cons_succ (x : Option SO) (c : Ctx) (h : Nat) : Ctx.at (x :: c) (h + 1) = Ctx.at c h := by simp [Ctx.at]
theorem at_cons_zero (x : Option SO) (c : Ctx) : Ctx.at (x :: c) 0 = x := by simp [Ctx.at]
theorem at_set' {c : Ctx} {i j : Nat} {x : Option SO} : Ctx.at (c.set i x) j = if i = j ∧ i < c.length then x else Ctx.at c j := by
  simp only [Ctx.at, List.getD_eq_getElem?_getD, List.getElem?_set]
  by_cases h : i = j
  · subst h
    by_cases h2 : i < c.length
    · simp [h2]
    · simp [h2, List.getElem?_eq_none (Nat.le_of_not_lt h2)]
  · simp [h]

theorem upd_length (μ : Nat → Nat) : ∀ (l : List Nat) (pre c ctx : Ctx), (upd μ l pre c ctx).length = ctx.length
  | [], _, _, _ => by simp [upd]
  | _ :: _, [], _, _ => by simp [upd]
  | _ :: _, some _ :: _, [], _ => by simp [upd]
  | _ :: _, none :: _, [], _ => by simp [upd]
  | g :: l, some o :: pre, x :: c, ctx => by
    simp only [upd]
    rw [upd_length μ l pre c]
    split <;> simp
  | g :: l, none :: pre, x :: c, ctx => by
    simp only [upd]
    rw [upd_length μ l pre c]

theorem upd_ne (μ : Nat → Nat) (g : Nat) : ∀ (l : List Nat) (pre c ctx : Ctx), (∀ h o, l[h]? = some g → Ctx.at pre h = some o → o.ro = true) → Ctx.at (upd μ l pre c ctx) g = Ctx.at ctx g
  | [], _, _, _, _ => by simp [upd]
  | _ :: _, [], _, _, _ => by simp [upd]
  | _ :: _, some _ :: _, [], _, _ => by simp [upd]
  | _ :: _, none :: _, [], _, _ => by simp [upd]
  | g' :: l, some o :: pre, x :: c, ctx, hh => by
    simp only [upd]
    rw [upd_ne μ g l pre c _ fun h o h1 h2 => hh (h + 1) o (by simpa using h1) (by rw [at_cons_succ]; exact h2)]
    split
    · rename_i hro
      rw [at_set']; rw [if_neg]
      rintro ⟨rfl, _⟩
      have := hh 0 o rfl (at_cons_zero _ _)
      rw [hro] at this; cases this
    · rfl
  | g' :: l, none :: pre, x :: c, ctx, hh => by
    simp only [upd]
    exact upd_ne μ g l pre c _ fun h o h1 h2 => hh (h + 1) o (by simpa using h1) (by rw [at_cons_succ]; exact h2)

theorem upd_eq (μ : Nat → Nat) {g : Nat} {o : SO} (hro : o.ro = false) : ∀ (l : List Nat) (pre c ctx : Ctx) (h : Nat), l.Nodup → l[h]? = some g → Ctx.at pre h = some o → g < ctx.length → h < c.length → Ctx.at (upd μ l pre c ctx) g = (Ctx.at c h).map (SO.mapH μ)
  | [], _, _, _, h, _, h1, _, _, _ => by simp at h1
  | _ :: _, [], _, _, h, _, _, h2, _, _ => by simp [Ctx.at] at h2
  | _ :: _, some _ :: _, [], _, h, _, _, _, _, h4 => by simp at h4
  | _ :: _, none :: _, [], _, h, _, _, _, _, h4 => by simp at h4
  | g' :: l, some o' :: pre, x :: c, ctx, 0, hn, h1, h2, h3, h4 => by
    simp only [upd]
    simp at h1
    subst h1
    rw [at_cons_zero] at h2
    cases h2
    rw [upd_ne μ g' l pre c _ fun h o h1 h2 => ?_]
    · rw [if_pos hro, at_set', if_pos ⟨rfl, h3⟩, at_cons_zero]
    · rw [List.nodup_cons] at hn
      exact absurd (List.mem_of_getElem? h1) hn.1
  | g' :: l, none :: pre, x :: c, ctx, 0, hn, h1, h2, h3, h4 => by
    rw [at_cons_zero] at h2; cases h2
  | g' :: l, some o' :: pre, x :: c, ctx, h + 1, hn, h1, h2, h3, h4 => by
    simp only [upd]
    rw [at_cons_succ] at h2
    rw [at_cons_succ]
    rw [List.nodup_cons] at hn
    exact upd_eq μ hro l pre c _ h hn.2 (by simpa using h1) h2 (by split <;> simpa using h3) (by simpa using h4)
  | g' :: l, none :: pre, x :: c, ctx, h + 1, hn, h1, h2, h3, h4 => by
    simp only [upd]
    rw [at_cons_succ] at h2
    rw [at_cons_succ]
    rw [List.nodup_cons] at hn
    exact upd_eq μ hro l pre c _ h hn.2 (by simpa using h1) h2 h3 (by simpa using h4)

def mergeC (μ : Nat → Nat) (l : List Nat) (pre c ctx : Ctx) : Ctx := upd μ l pre c ctx ++ (c.drop pre.length).map fun o => o.map (SO.mapH μ)

theorem ctxMap_get {μ : Nat → Nat} {ctx : Ctx} : ∀ {l : List Nat} {pre : Ctx}, ctxMap μ ctx l pre → l.length = pre.length ∧ ∀ h g, l[h]? = some g → g < ctx.length ∧ (Ctx.at pre h).isSome = true ∧ ∀ o0, Ctx.at pre h = some o0 → ∃ o, ctx.at g = some o ∧ soLe μ o0 o
  | [], [], _ => ⟨rfl, fun h g hg => by simp at hg⟩
  | g :: l, o0 :: pre, hm => by
    simp only [ctxMap] at hm
    obtain ⟨h1, h2, h3⟩ := hm
    obtain ⟨hl, hh⟩ := ctxMap_get h3
    refine ⟨by simp [hl], fun h g' hg => ?_⟩
    cases h with
    | zero =>
      simp at hg
      subst hg
      refine ⟨h1, by rw [at_cons_zero]; cases o0 with | none => exact h2.elim | some _ => rfl, fun o0' ho => ?_⟩
      rw [at_cons_zero] at ho
      subst ho
      simp only at h2
      split at h2
      · rename_i o e; exact ⟨o, e, h2⟩
      · exact h2.elim
    | succ h =>
      rw [at_cons_succ]
      exact hh h g' (by simpa using hg)
  | [], _ :: _, h => by simp [ctxMap] at h
  | _ :: _, [], h => by simp [ctxMap] at h

theorem entsRel_le {σ : Asg} {a b : List (SV × SV)} (h : a = b) {es : List MapEntry} (r : entsRel σ b es) : entsRel σ a es := h ▸ r

theorem getD_mapHL (μ : Nat → Nat) (l : List SV) (k : Nat) : (mapHL μ l).getD k .u = (l.getD k .u).mapH μ := by
  rw [mapHL_eq]
  simp only [List.getD_eq_getElem?_getD, List.getElem?_map]
  cases l[k]? <;> simp [SV.mapH]

theorem SO.ents_mapH (μ : Nat → Nat) (o : SO) : (o.mapH μ).ents = o.ents := by cases o <;> rfl
theorem SO.ro_mapH (μ : Nat → Nat) (o : SO) : (o.mapH μ).ro = o.ro := by cases o <;> rfl
theorem SO.isMap_mapH (μ : Nat → Nat) (o : SO) : (o.mapH μ).isMap = o.isMap := by cases o <;> rfl
theorem SO.n_mapH (μ : Nat → Nat) (o : SO) : (o.mapH μ).n = o.n := by cases o <;> rfl
theorem SO.sz_mapH (μ : Nat → Nat) (o : SO) : (o.mapH μ).sz = o.sz := by cases o <;> simp [SO.mapH, SO.sz, mapHL_eq]
theorem SO.el_mapH (μ : Nat → Nat) (o : SO) (i : Nat) : (o.mapH μ).el i = mapHL μ (o.el i) := by cases o <;> simp [SO.mapH, SO.el, mapHL]

theorem ents_plain {σ σ' : Asg} : ∀ {l : List (SV × SV)} {es : List MapEntry}, (∀ p ∈ l, p.1.bit = true ∧ p.2.bit = true) → entsRel σ l es → entsRel σ' l es
  | [], _, _, h => by simpa [entsRel] using h
  | p :: ps, es, hp, h => by
    simp only [entsRel] at h ⊢
    obtain ⟨e, r, h1, h2, h3, h4⟩ := h
    exact ⟨e, r, h1, rel_bit (hp p (by simp)).1 h2, rel_bit (hp p (by simp)).2 h3, ents_plain (fun q hq => hp q (by simp [hq])) h4⟩

theorem SO.ents_isPlain (o : SO) : ∀ p ∈ o.ents, p.1.bit = true ∧ p.2.bit = true := by
  cases o <;> simp [SO.ents]
  all_goals (intros; subst_vars; simp [SV.bit])

/-- An object that lies under 'σ (μ h)' is told under the caller's number 'μ h', and the other way about. -/
theorem objSat_up {σ σ0 : Asg} {μ : Nat → Nat} (hσ : ∀ h, σ (μ h) = σ0 h) (hfz : σ0.fz = σ.fz) {w : World} {h : Nat} {o : SO} (hs : objSat σ0 w h o) : objSat σ w (μ h) (o.mapH μ) := by
  have e : σ0 = σ.ren μ := by
    obtain ⟨l0, f0⟩ := σ0
    simp only [Asg.ren, Asg.mk.injEq]
    exact ⟨funext fun h => (hσ h).symm, hfz⟩
  unfold objSat at hs ⊢
  rw [SO.isMap_mapH]
  cases hm : o.isMap with
  | true =>
    rw [hm] at hs
    obtain ⟨L, es, ck, h1, h2, h3⟩ := hs
    refine ⟨L, es, ck, (hσ h).trans h1, h2, ?_⟩
    rw [SO.ents_mapH]
    exact ents_plain o.ents_isPlain h3
  | false =>
    rw [hm] at hs
    rcases hs with ⟨h1, h2⟩ | ⟨L, c, el, fr, h1, h2⟩
    · exact .inl ⟨by rw [SO.n_mapH]; exact h1, (hσ h).trans h2⟩
    · refine .inr ⟨L, c, el, fr, (hσ h).trans h1, h2.heap, by rw [SO.sz_mapH]; exact h2.lsz, h2.room, by rw [SO.n_mapH, SO.sz_mapH]; exact h2.fits, fun i k hi hk => ?_, fun hr => h2.free (by rw [SO.ro_mapH] at hr; exact hr)⟩
      rw [SO.n_mapH] at hi
      rw [SO.sz_mapH] at hk
      obtain ⟨v, hv, hrel⟩ := h2.cell i k hi hk
      rw [SO.sz_mapH]
      refine ⟨v, hv, ?_⟩
      rw [SO.el_mapH, getD_mapHL, rel_mapH]
      exact e ▸ hrel

theorem objSat_down {σ σ0 : Asg} {μ : Nat → Nat} (hσ : ∀ h, σ (μ h) = σ0 h) (hfz : σ0.fz = σ.fz) {w : World} {h : Nat} {o0 o : SO} (hle : soLe μ o0 o) (hs : objSat σ w (μ h) o) : objSat σ0 w h o0 := by
  have e : σ0 = σ.ren μ := by
    obtain ⟨l0, f0⟩ := σ0
    simp only [Asg.ren, Asg.mk.injEq]
    exact ⟨funext fun h => (hσ h).symm, hfz⟩
  unfold objSat at hs ⊢
  rw [hle.isMap]
  cases hm : o.isMap with
  | true =>
    rw [hm] at hs
    obtain ⟨L, es, ck, h1, h2, h3⟩ := hs
    refine ⟨L, es, ck, (hσ h).symm.trans h1, h2, ?_⟩
    rw [hle.ents]
    exact ents_plain o.ents_isPlain h3
  | false =>
    rw [hm] at hs
    rcases hs with ⟨h1, h2⟩ | ⟨L, c, el, fr, h1, h2⟩
    · exact .inl ⟨by have := hle.n; omega, (hσ h).symm.trans h2⟩
    · refine .inr ⟨L, c, el, fr, (hσ h).symm.trans h1, h2.heap, by rw [hle.sz]; exact h2.lsz, h2.room, by rw [hle.sz]; exact Nat.le_trans (Nat.mul_le_mul_right _ hle.n) h2.fits, fun i k hi hk => ?_, fun hr => h2.free (hle.ro hr)⟩
      rw [hle.sz] at hk
      obtain ⟨v, hv, hrel⟩ := h2.cell i k (Nat.lt_of_lt_of_le hi hle.n) hk
      rw [hle.sz]
      refine ⟨v, hv, ?_⟩
      rw [← hle.el i hi, getD_mapHL, rel_mapH] at hrel
      exact e ▸ hrel
end Go.Vg
