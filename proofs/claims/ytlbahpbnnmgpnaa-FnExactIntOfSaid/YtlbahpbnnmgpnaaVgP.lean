/- Own text: part VgP. -/
import Derived.Test.YtlbahpbnnmgpnaaVgO
namespace Go.Vg
set_option linter.unusedVariables false
set_option linter.unusedSimpArgs false
open Go.RowKit

def mkgd (c : Bool) (z : SV) : SV :=
  match z with
  | .gd g v => .gd (c && g) v
  | v => .gd c v

theorem mkgd_rel {σ : Asg} {c : Bool} {z : SV} {v : Value} (h1 : c = true → rel σ z v) (h2 : c = false → v = undef) : rel σ (mkgd c z) v := by
  unfold mkgd
  split
  · rename_i g x
    simp only [rel] at h1 ⊢
    refine ⟨fun h => ?_, fun h => ?_⟩
    · simp only [Bool.and_eq_true] at h
      exact (h1 h.1).1 h.2
    · cases c with
      | false => exact h2 rfl
      | true => exact (h1 rfl).2 (by simpa using h)
  · simp only [rel]
    exact ⟨h1, h2⟩

/-- The condition under which a guarded operation is carried out. -/
def guardC (want : Bool) (x : SV) (K : Bool → Prop) : Prop :=
  match x with
  | .b e => K (if want then e else !e)
  | .gd g (.b e) => K (g && (if want then e else !e))
  | _ => False

def dstOf (ops : Array Oper) (j : Nat) : Option Tmp := (ops[j]?).bind (·.dst)

theorem guardC_sound {σ : Asg} {ops : Array Oper} {a : Act} {st : St} (henv : ∀ t, rel σ (look st.env t) (a.tmps.getD t undef)) {j d : Nat} {want : Bool} (hd : dstOf ops j = some d) {K : Bool → Prop} (h : guardC want (look st.env d) K) :
    ∃ c, K c ∧ (yielded ops a.tmps j == some want) = c := by
  have h0 := henv d
  have hy : ∀ e, a.tmps.getD d undef = .bool e → yielded ops a.tmps j = some e := by
    intro e he
    have : a.tmps[d]? = some (.bool e) := by
      rw [Array.getD_eq_getD_getElem?] at he
      cases h1 : a.tmps[d]? with
      | none => rw [h1] at he; simp [undef] at he
      | some x => rw [h1] at he; simpa using he
    unfold yielded
    unfold dstOf at hd
    simp [hd, this]
  unfold guardC at h
  split at h
  · rename_i e he
    rw [he] at h0
    simp only [rel] at h0
    refine ⟨_, h, ?_⟩
    rw [hy e h0]
    cases want <;> cases e <;> rfl
  · rename_i g e he
    rw [he] at h0
    simp only [rel] at h0
    refine ⟨_, h, ?_⟩
    cases g with
    | true =>
      rw [hy e (h0.1 rfl)]
      cases want <;> cases e <;> rfl
    | false =>
      have h1 := h0.2 rfl
      have : yielded ops a.tmps j = none := by
        unfold yielded
        unfold dstOf at hd
        rw [hd]
        simp only [Option.bind_some]
        rw [Array.getD_eq_getD_getElem?] at h1
        cases h2 : a.tmps[d]? with
        | none => rfl
        | some x => rw [h2] at h1; simp only [Option.getD_some] at h1; subst h1; rfl
      rw [this]
      cases want <;> rfl
  · exact h.elim

def putS (nt : Nat) (st : St) (d : Option Tmp) (z : SV) (K : St → Prop) : Prop :=
  match d with
  | none => K st
  | some d => d < nt ∧ K ⟨(d, z) :: st.env, st.ctx⟩

theorem putS_sound {A : Amb} {σ : Asg} {st : St} {a : Act} {w : World} (hR : Rel A σ st a w) {d : Option Tmp} {z : SV} {v : Value} (hv : rel σ z v) {K : St → Prop} (h : putS A.nt st d z K) : ∃ st', K st' ∧ Rel A σ st' (a.put d v) w := by
  unfold putS at h
  cases d with
  | none => exact ⟨st, h, hR⟩
  | some d =>
    obtain ⟨hd, h⟩ := h
    refine ⟨_, h, ⟨hR.defers, by simp [Act.put, hR.size], fun t => ?_, hR.sat, hR.fr, hR.own, hR.base, hR.klen⟩⟩
    simp only [look, Act.put]
    rw [Array.getD_eq_getD_getElem?, Array.getElem?_setIfInBounds]
    by_cases ht : d = t
    · subst ht
      rw [if_pos rfl, if_pos rfl, if_pos (by rw [hR.size]; exact hd)]
      exact hv
    · rw [if_neg ht, if_neg ht]
      have := hR.env t
      rwa [Array.getD_eq_getD_getElem?] at this

/-- Classes of operations: 0 no memory, 1 reads, 2 turns memory, 3 a call. -/
def opClass (te : TE) : Op → Nat
  | .load _ _ => 1
  | .lookup _ _ _ _ => 1
  | .convert s d _ => match tdOf te s, tdOf te d with
    | .slice _, .str => 1
    | .slice _, .slice _ => 2
    | _, _ => 0
  | .alloc _ => 2
  | .box _ _ => 2
  | .store _ _ _ => 2
  | .makeMap _ _ => 2
  | .mapUpdate _ _ _ _ => 2
  | .insert _ _ _ _ => 2
  | .buildSlice _ _ _ => 2
  | .makeSlice _ _ _ => 2
  | .call c => match c.callee with
    | .builtin .append => 2
    | .builtin _ => 0
    | .value _ => 3
    | .invoke _ _ => 4
  | _ => 0

def calleeS (st : St) : Op → Option FuncId
  | .call c => match c.callee with
    | .value x => match st.ev x with
      | .fn f => some f
      | _ => none
    | _ => none
  | _ => none

def argsS (st : St) : Op → List SV
  | .call c => c.args.toList.map st.ev
  | _ => []

/-- A function that has a Go body, and is no mark of the runtime's. -/
def bodyOk (P : Program) (f : FuncId) : Prop := ∃ fn, P.funcs[f]? = some fn ∧ fn.body.isSome = true ∧ (fn.name == "runtime.NumGoroutine") = false

/-- What a call of 'f' does, told over the caller's own objects. -/
def CallOK (P : Program) (f : FuncId) (args : List SV) (ctx : Ctx) (Q : SV → Ctx → Prop) : Prop :=
  bodyOk P f ∧ ∀ (A : Amb) (σ : Asg) (st : St) (a : Act) (w : World) (vs : Array Value), st.ctx = ctx → Rel A σ st a w → relL σ args vs.toList →
    Calls P f vs w fun e w' => ∃ v z ctx' σ', e = .returned v ∧ Q z ctx' ∧ leA σ σ' ∧ rel σ' z v ∧ Rel A σ' ⟨st.env, ctx'⟩ a w'

/-- What a call of 'f' does that turns nothing. -/
def CallPure (P : Program) (f : FuncId) (args : List SV) (ctx : Ctx) (z : SV) : Prop :=
  bodyOk P f ∧ ∀ (A : Amb) (σ : Asg) (st : St) (a : Act) (w : World) (vs : Array Value), st.ctx = ctx → Rel A σ st a w → relL σ args vs.toList →
    Calls P f vs w fun e w' => ∃ v, e = .returned v ∧ rel σ z v ∧ Fr (fun _ => False) w w'

/-- A table of functions that turn nothing: number, and from arguments and objects: what is to be shown, and the result. -/
abbrev PE := List SV → Ctx → Option (Prop × SV)
abbrev PT := List (FuncId × PE)
def ptOf : PT → FuncId → Option PE
  | [], _ => none
  | e :: r, f => if e.1 = f then some e.2 else ptOf r f
def PE1 (P : Program) (f : FuncId) (g : PE) : Prop := ∀ args ctx p z, g args ctx = some (p, z) → p → CallPure P f args ctx z
def PTok (P : Program) : PT → Prop
  | [] => True
  | e :: r => PE1 P e.1 e.2 ∧ PTok P r
theorem PTok.get {P : Program} : ∀ {l : PT} {f : FuncId} {g : PE}, PTok P l → ptOf l f = some g → PE1 P f g
  | e :: r, f, g, h, hg => by
    simp only [ptOf] at hg
    split at hg
    · rename_i he; cases hg; subst he; exact h.1
    · exact h.2.get hg

def XCall (P : Program) (f : FuncId) (args : List SV) (ctx : Ctx) (K : SV → Ctx → Prop) : Prop :=
  ∃ Q, CallOK P f args ctx Q ∧ ∀ z ctx', Q z ctx' → K z ctx'

@[congr] theorem XCall_congr {P : Program} {f : FuncId} {args args' : List SV} {ctx ctx' : Ctx} {K : SV → Ctx → Prop} (h1 : args = args') (h2 : ctx = ctx') : XCall P f args ctx K = XCall P f args' ctx' K := by
  rw [h1, h2]

/-- One operation under the condition 'c' ('g': it bears a guard); 'sp': the two ways of a guard are gone apart. -/
def XOne (P : Program) (te : TE) (wr : Bool) (nt : Nat) (pt : PT) (g c : Bool) (st : St) (o : Oper) (K : St → Prop) : Prop :=
  match opClass te o.op with
  | 0 => xpure te wr c st o.op fun z => putS nt st o.dst (if g then mkgd c z else z) K
  | 1 => xload te c st o.op fun z => putS nt st o.dst (if g then mkgd c z else z) K
  | 2 => g = false ∧ xmem te st o.op fun z st' => putS nt st' o.dst z K
  | 3 => match calleeS st o.op with
    | some f => match ptOf pt f with
      | some t => match t (argsS st o.op) st.ctx with
        | some (p, z) => Chk (c = true → p) (putS nt st o.dst (if g then mkgd c z else z) K)
        | none => False
      | none => g = false ∧ XCall P f (argsS st o.op) st.ctx fun z ctx' => putS nt ⟨st.env, ctx'⟩ o.dst z K
    | none => False
  | _ => False

def XStep (P : Program) (te : TE) (wr : Bool) (nt : Nat) (pt : PT) (sp : Bool) (ops : Array Oper) (st : St) (o : Oper) (K : St → Prop) : Prop :=
  match o.guard with
  | none => XOne P te wr nt pt false true st o K
  | some (j, want) => match dstOf ops j with
    | none => False
    | some d => guardC want (look st.env d) fun c =>
        if sp then (c = true → XOne P te wr nt pt false true st o K) ∧ (c = false → putS nt st o.dst (.gd false (.b false)) K)
        else XOne P te wr nt pt true c st o K

/-- Operations in an order, from a state on. -/
def XO (P : Program) (te : TE) (wr : Bool) (nt : Nat) (pt : PT) (sp : Bool) (ops : Array Oper) (K : St → Prop) : List Nat → St → Prop
  | [], st => K st
  | i :: is, st => match ops[i]? with
    | none => False
    | some o => XStep P te wr nt pt sp ops st o (XO P te wr nt pt sp ops K is)

theorem execCall {P : Program} {st : St} {a : Act} {w : World} {σ : Asg} (henv : ∀ x, rel σ (st.ev x) (a.eval x)) {o : Oper} {f : FuncId} (hf : calleeS st o.op = some f) (hb : bodyOk P f) :
    ∃ vs : Array Value, (execOp a.eval o).run P w = .ok (.enter f vs) w ∧ relL σ (argsS st o.op) vs.toList := by
  obtain ⟨dst, op, ty, pos, after, guard⟩ := o
  cases op with
  | call c =>
    obtain ⟨callee, args, ats⟩ := c
    cases callee with
    | value x =>
      simp only [calleeS] at hf
      split at hf
      · rename_i f' hx
        cases hf
        have hv := henv x
        rw [hx] at hv
        simp only [rel] at hv
        obtain ⟨fn, h1, h2, h4⟩ := hb
        refine ⟨args.map a.eval, ?_, ?_⟩
        · simp only [execOp, resolve, Deferred.ofValue, hv, Sem.run_bind, Sem.run_pure, Result.andThen_ok, invoke, callFunc, run_program, h1, h4]
          have : fn.body.isNone = false := by cases hfb : fn.body <;> simp_all
          simp [this]
        · refine relL_of_get (by simp [argsS]) fun j y v hy hv => ?_
          simp only [argsS, List.getElem?_map, Option.map_eq_some_iff] at hy
          obtain ⟨q, hq, rfl⟩ := hy
          simp only [Array.toList_map, List.getElem?_map, Option.map_eq_some_iff] at hv
          obtain ⟨q', hq', rfl⟩ := hv
          rw [hq] at hq'
          cases hq'
          exact henv q
      · cases hf
    | builtin b => simp [calleeS] at hf
    | invoke r m => simp [calleeS] at hf
  | _ => simp [calleeS] at hf

/-- What came of nothing but new blocks is as it was. -/
theorem Rel.ext {A : Amb} {σ : Asg} {st : St} {a : Act} {w w' : World} (hR : Rel A σ st a w) (hf : Fr (fun _ => False) w w') : Rel A σ st a w' := by
  refine ⟨hR.defers, hR.size, hR.env, ⟨fun h o e => ?_, hR.sat.apart, hR.sat.beyond, fun h L e => Nat.lt_of_lt_of_le (hR.sat.inHeap h L e) hf.size⟩, ?_, hR.own, hR.base, hR.klen⟩
  · exact objSat_same (leA.refl σ) rfl (fun L hL => hf.block _ (hR.sat.inHeap h L hL) (fun h => h)) (hR.sat.obj h o e)
  · exact hR.fr.step hf (fun _ _ h => h.elim)

theorem wp_value {P : Program} {o : Oper} {a : Act} {w w' : World} {v : Value} {next : Act → World → Prop} {Q : Exit → Act → World → Prop} (h : (execOp a.eval o).run P w = .ok (.value v) w') (hn : next (a.put o.dst v) w') : o.wp P a w next Q := by
  unfold Oper.wp
  rw [h]
  exact hn

theorem wp_skip' {P : Program} {o : Oper} {a : Act} {w w' : World} {next : Act → World → Prop} {Q : Exit → Act → World → Prop} (h : (execOp a.eval o).run P w = .ok .skip w') (hn : next (a.put o.dst undef) w') : o.wp P a w next Q := by
  unfold Oper.wp
  rw [h]
  exact hn

theorem wp_enter {P : Program} {o : Oper} {a : Act} {w : World} {f : FuncId} {vs : Array Value} {next : Act → World → Prop} {Q : Exit → Act → World → Prop} (h : (execOp a.eval o).run P w = .ok (.enter f vs) w)
    (hn : Calls P f vs w fun e w' => ∃ v, e = .returned v ∧ next (a.put o.dst v) w') : o.wp P a w next Q := by
  unfold Oper.wp
  rw [h]
  refine Calls.mono hn fun e w' he => ?_
  obtain ⟨v, rfl, hv⟩ := he
  exact hv

theorem gd_put {A : Amb} {σ : Asg} {st : St} {a : Act} {w : World} {K : St → Prop} {o : Oper} {g c : Bool} {z : SV} (hR : Rel A σ st a w) (hK : putS A.nt st o.dst (if g then mkgd c z else z) K) (hgc : g = false → c = true) :
    (∀ v, c = true → rel σ z v → ∃ st', K st' ∧ Rel A σ st' (a.put o.dst v) w) ∧ (c = false → ∃ st', K st' ∧ Rel A σ st' (a.put o.dst undef) w) := by
  refine ⟨fun v hc hv => ?_, fun hc => ?_⟩
  · refine putS_sound hR (v := v) ?_ hK
    cases g with
    | false => exact hv
    | true => exact mkgd_rel (fun _ => hv) (fun h => by rw [hc] at h; cases h)
  · refine putS_sound hR (v := undef) ?_ hK
    cases g with
    | false => rw [hgc rfl] at hc; cases hc
    | true => exact mkgd_rel (fun h => by rw [hc] at h; cases h) (fun _ => rfl)

theorem XOne_sound {P : Program} {te : TE} (hte : teOk P te) {wr : Bool} {pt : PT} (hpt : PTok P pt) {A : Amb} {σ : Asg} {st : St} {a : Act} {w : World} (hR : Rel A σ st a w) {g c : Bool} (hgc : g = false → c = true) {o : Oper} {K : St → Prop}
    (h : XOne P te wr A.nt pt g c st o K) {next : Act → World → Prop} {Q : Exit → Act → World → Prop} (hn : ∀ σ' st' a' w', K st' → leA σ σ' → Rel A σ' st' a' w' → next a' w') :
    (c = true → o.wp P a w next Q) ∧ (c = false → next (a.put o.dst undef) w) := by
  unfold XOne at h
  split at h
  · obtain ⟨z, hz, hv⟩ := xpure_sound hte hR h
    obtain ⟨p1, p2⟩ := gd_put hR hz hgc
    refine ⟨fun hc => ?_, fun hc => ?_⟩
    · obtain ⟨v, hr, hrun⟩ := hv hc
      obtain ⟨st', k1, k2⟩ := p1 v hc hr
      exact wp_value (hrun w) (hn _ _ _ _ k1 (leA.refl σ) k2)
    · obtain ⟨st', k1, k2⟩ := p2 hc
      exact hn _ _ _ _ k1 (leA.refl σ) k2
  · obtain ⟨z, hz, hv⟩ := xload_sound hte hR h
    obtain ⟨p1, p2⟩ := gd_put hR hz hgc
    refine ⟨fun hc => ?_, fun hc => ?_⟩
    · obtain ⟨v, hr, hrun⟩ := hv hc
      obtain ⟨st', k1, k2⟩ := p1 v hc hr
      exact wp_value (hrun w fun _ _ => rfl) (hn _ _ _ _ k1 (leA.refl σ) k2)
    · obtain ⟨st', k1, k2⟩ := p2 hc
      exact hn _ _ _ _ k1 (leA.refl σ) k2
  · obtain ⟨rfl, h⟩ := h
    have hc : c = true := hgc rfl
    refine ⟨fun _ => ?_, fun h => by rw [hc] at h; cases h⟩
    obtain ⟨z, st1, v, σ', w', hK, hrun, hle, hr, hR'⟩ := xmem_sound hte hR h
    obtain ⟨st', k1, k2⟩ := putS_sound hR' hr hK
    rcases hrun with hrun | ⟨hrun, rfl⟩
    · exact wp_value hrun (hn _ _ _ _ k1 hle k2)
    · exact wp_skip' hrun (hn _ _ _ _ k1 hle k2)
  · split at h
    · rename_i f hf
      split at h
      · rename_i t ht
        split at h
        case h_2 => exact h.elim
        rename_i p z hz
        obtain ⟨hp, hK⟩ := h.out
        have hcall : c = true → CallPure P f (argsS st o.op) st.ctx z := fun hc => hpt.get ht _ _ _ _ hz (hp hc)
        obtain ⟨p1, p2⟩ := gd_put hR hK hgc
        refine ⟨fun hc => ?_, fun hc => ?_⟩
        · obtain ⟨hb, hcall⟩ := hcall hc
          obtain ⟨vs, hrun, hargs⟩ := execCall (P := P) (w := w) hR.ev hf hb
          refine wp_enter hrun ((hcall A σ st a w vs rfl hR hargs).mono fun e w' he => ?_)
          obtain ⟨v, rfl, hv, hfr⟩ := he
          obtain ⟨st', k1, k2⟩ := p1 v hc hv
          exact ⟨v, rfl, hn _ _ _ _ k1 (leA.refl σ) (k2.ext hfr)⟩
        · obtain ⟨st', k1, k2⟩ := p2 hc
          exact hn _ _ _ _ k1 (leA.refl σ) k2
      · obtain ⟨rfl, QQ, ⟨hb, hcall⟩, hK⟩ := h
        have hc : c = true := hgc rfl
        refine ⟨fun _ => ?_, fun h => by rw [hc] at h; cases h⟩
        obtain ⟨vs, hrun, hargs⟩ := execCall (P := P) (w := w) hR.ev hf hb
        refine wp_enter hrun ((hcall A σ st a w vs rfl hR hargs).mono fun e w' he => ?_)
        obtain ⟨v, z, ctx', σ', rfl, hq, hle, hv, hR'⟩ := he
        obtain ⟨st', k1, k2⟩ := putS_sound hR' hv (hK z ctx' hq)
        exact ⟨v, rfl, hn _ _ _ _ k1 hle k2⟩
    · exact h.elim
  · exact h.elim

theorem XStep_sound {P : Program} {te : TE} (hte : teOk P te) {wr : Bool} {pt : PT} (hpt : PTok P pt) {sp : Bool} {ops : Array Oper} {A : Amb} {σ : Asg} {st : St} {a : Act} {w : World} (hR : Rel A σ st a w) {o : Oper} {K : St → Prop}
    (h : XStep P te wr A.nt pt sp ops st o K) {next : Act → World → Prop} {Q : Exit → Act → World → Prop} (hn : ∀ σ' st' a' w', K st' → leA σ σ' → Rel A σ' st' a' w' → next a' w') :
    if Region.wanted o (yielded ops a.tmps) then o.wp P a w next Q ∨ (o.asks P a w ∧ LetsOut Q) else next (a.put o.dst undef) w := by
  unfold XStep at h
  split at h
  · rename_i hg
    have : Region.wanted o (yielded ops a.tmps) = true := by simp [Region.wanted, hg]
    rw [if_pos this]
    exact .inl ((XOne_sound hte hpt hR (fun _ => rfl) h hn).1 rfl)
  · rename_i j want hg
    split at h
    · exact h.elim
    · rename_i d hd
      obtain ⟨c, h, hc⟩ := guardC_sound hR.env hd h
      have hw : Region.wanted o (yielded ops a.tmps) = c := by simp only [Region.wanted, hg, hc]
      rw [hw]
      split at h
      · obtain ⟨h1, h2⟩ := h
        cases c with
        | true => rw [if_pos rfl]; exact .inl ((XOne_sound hte hpt hR (fun _ => rfl) (h1 rfl) hn).1 rfl)
        | false =>
          rw [if_neg (by simp)]
          obtain ⟨st', k1, k2⟩ := putS_sound hR (v := undef) (by simp [rel]) (h2 rfl)
          exact hn _ _ _ _ k1 (leA.refl σ) k2
      · obtain ⟨q1, q2⟩ := XOne_sound (Q := Q) hte hpt hR (g := true) (fun h => by cases h) h hn
        cases c with
        | true => rw [if_pos rfl]; exact .inl (q1 rfl)
        | false => rw [if_neg (by simp)]; exact q2 rfl

theorem XO_sound {P : Program} {te : TE} (hte : teOk P te) {wr : Bool} {pt : PT} (hpt : PTok P pt) {sp : Bool} {ops : Array Oper} {A : Amb} {K : St → Prop} {Q : Exit → Act → World → Prop} : ∀ (is : List Nat) {σ : Asg} {st : St} {a : Act} {w : World}, Rel A σ st a w →
    XO P te wr A.nt pt sp ops K is st → (∀ σ' st' a' w', K st' → leA σ σ' → Rel A σ' st' a' w' → Q .normal a' w') → wpOps P ops Q is a w
  | [], σ, st, a, w, hR, h, hQ => hQ σ st a w h (leA.refl σ) hR
  | i :: is, σ, st, a, w, hR, h, hQ => by
    simp only [XO] at h
    split at h
    · exact h.elim
    · rename_i o ho
      simp only [wpOps, ho]
      exact XStep_sound hte hpt hR h fun σ' st' a' w' hK hle hR' => XO_sound hte hpt is hR' hK fun σ'' st'' a'' w'' k1 k2 k3 => hQ σ'' st'' a'' w'' k1 (hle.trans k2) k3
end Go.Vg
