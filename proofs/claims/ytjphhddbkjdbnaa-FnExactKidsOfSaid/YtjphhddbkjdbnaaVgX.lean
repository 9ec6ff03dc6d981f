/- Regions whose order is drawn, over symbolic states: by a schedule that is checked. -/
import Derived.Test.YtjphhddbkjdbnaaVgV
namespace Go.Vg
set_option linter.unusedVariables false
set_option linter.unusedSimpArgs false
open Go.RowKit

def mkRo1 : SO → Option SO
  | .row _ z n f => some (.row true z n f)
  | .blk _ cs => some (.blk true cs)
  | _ => none

def freeze (W : List Nat) : Nat → Ctx → Ctx
  | _, [] => []
  | i, o :: r => (if W.contains i then o else o.bind mkRo1) :: freeze W (i + 1) r

def maskC (W : List Nat) : Nat → Ctx → Ctx → Ctx
  | i, o0 :: r0, o :: r => (if W.contains i = false ∧ o0.isSome = true then o else none) :: maskC W (i + 1) r0 r
  | _, _, r => r.map fun _ => none

def thaw (W : List Nat) : Nat → Ctx → Ctx → Ctx
  | i, o0 :: r0, o :: r => (if W.contains i then o else o0) :: thaw W (i + 1) r0 r
  | _, _, r => r

theorem freeze_length (W : List Nat) : ∀ (i : Nat) (c : Ctx), (freeze W i c).length = c.length
  | _, [] => rfl
  | i, o :: r => by simp [freeze, freeze_length W (i + 1) r]
theorem maskC_length (W : List Nat) : ∀ (i : Nat) (c0 c : Ctx), (maskC W i c0 c).length = c.length
  | i, o0 :: r0, o :: r => by simp [maskC, maskC_length W (i + 1) r0 r]
  | _, [], r => by simp [maskC]
  | _, _ :: _, [] => by simp [maskC]
theorem thaw_length (W : List Nat) : ∀ (i : Nat) (c0 c : Ctx), (thaw W i c0 c).length = c.length
  | i, o0 :: r0, o :: r => by simp [thaw, thaw_length W (i + 1) r0 r]
  | _, [], r => by simp [thaw]
  | _, _ :: _, [] => by simp [thaw]

theorem at_nil (h : Nat) : Ctx.at [] h = none := by simp [Ctx.at]

theorem freeze_at (W : List Nat) : ∀ (c : Ctx) (i h : Nat), Ctx.at (freeze W i c) h = if W.contains (i + h) then Ctx.at c h else (Ctx.at c h).bind mkRo1
  | [], i, h => by simp [freeze, at_nil]
  | o :: r, i, 0 => by simp only [freeze, at_cons_zero, Nat.add_zero]
  | o :: r, i, h + 1 => by
    simp only [freeze, at_cons_succ]
    rw [freeze_at W r (i + 1) h, show i + 1 + h = i + (h + 1) from by omega]

theorem maskC_at {W : List Nat} : ∀ {c0 c : Ctx} {i h : Nat} {o : SO}, Ctx.at (maskC W i c0 c) h = some o → W.contains (i + h) = false ∧ (Ctx.at c0 h).isSome = true ∧ Ctx.at c h = some o
  | o0 :: r0, o' :: r, i, 0, o, e => by
    simp only [maskC, at_cons_zero] at e ⊢
    split at e
    · rename_i hh
      exact ⟨by simpa using hh.1, hh.2, e⟩
    · cases e
  | o0 :: r0, o' :: r, i, h + 1, o, e => by
    simp only [maskC, at_cons_succ] at e ⊢
    have := maskC_at (i := i + 1) e
    rwa [show i + 1 + h = i + (h + 1) from by omega] at this
  | [], r, i, h, o, e => by
    simp only [maskC, Ctx.at, List.getD_eq_getElem?_getD, List.getElem?_map] at e
    cases hr : r[h]? <;> simp [hr] at e
  | _ :: _, [], i, h, o, e => by simp [maskC, at_nil] at e

theorem thaw_at (W : List Nat) : ∀ (c0 c : Ctx) (i h : Nat), c0.length ≤ c.length → Ctx.at (thaw W i c0 c) h = if h < c0.length ∧ W.contains (i + h) = false then Ctx.at c0 h else Ctx.at c h
  | o0 :: r0, o :: r, i, 0, hl => by
    simp only [thaw, at_cons_zero, Nat.add_zero, List.length_cons]
    by_cases hw : W.contains i
    · rw [if_pos hw, if_neg (by rintro ⟨_, h⟩; rw [hw] at h; cases h)]
    · rw [if_neg hw, if_pos ⟨by omega, by simpa using hw⟩]
  | o0 :: r0, o :: r, i, h + 1, hl => by
    simp only [thaw, at_cons_succ]
    rw [thaw_at W r0 r (i + 1) h (by simpa using hl), show i + 1 + h = i + (h + 1) from by omega]
    simp only [List.length_cons, Nat.add_lt_add_iff_right]
  | [], r, i, h, hl => by simp [thaw]
  | _ :: _, [], i, h, hl => by simp at hl

theorem objSat_ro {σ : Asg} {w : World} {h : Nat} {o o' : SO} (e : mkRo1 o = some o') (hs : objSat σ w h o) : objSat σ w h o' ∧ o'.ro = true := by
  cases o <;> simp only [mkRo1, Option.some.injEq, reduceCtorEq] at e
  all_goals
    subst e
    refine ⟨?_, rfl⟩
    unfold objSat at hs ⊢
    simp only [SO.isMap] at hs ⊢
    rcases hs with hs | ⟨L, c, e, fr, h1, h2⟩
    · exact .inl hs
    · exact .inr ⟨L, c, e, fr, h1, h2.heap, h2.lsz, h2.room, h2.fits, h2.cell, fun h => by cases h⟩

/-- A schedule: taken first while nothing has been written ('B': who waits for it); taken first; from here on there may be writing; one of those that are ready (and what then), or another. -/
inductive Sc where
  | fin
  | q0 (i : Nat) (B : List Nat) (r : Sc)
  | q1 (i : Nat) (r : Sc)
  | sw (r : Sc)
  | alt (i : Nat) (r o : Sc)
  | seq (is : List Nat)

def altsOf : Sc → List Nat
  | .alt i _ o => i :: altsOf o
  | _ => []

def unl (listed : Array Bool) (i : Nat) : Bool := !listed.getD i true

def waits (ops : Array Oper) (B : List Nat) (b : Nat) : Bool := match ops[b]? with
  | some o => o.after.any fun e => Region.binds .any e && B.contains e.on
  | none => false

def schOk (ops : Array Oper) (wrs : List Nat) : Bool → Bool → Sc → Array Bool → Bool
  | hd, _, .fin, listed => !hd || (Region.ready .any ops listed).isEmpty
  | hd, ph, .q0 i B r, listed => hd && !ph && Region.free .any ops listed i && (Region.ready .any ops listed).contains i && !wrs.contains i && wrs.all B.contains && B.all (fun b => b == i || waits ops B b) && B.all (unl listed) && B.contains i && schOk ops wrs true ph r (listed.setIfInBounds i true)
  | hd, ph, .q1 i r, listed => hd && Region.free .any ops listed i && (Region.ready .any ops listed).contains i && !wrs.contains i && schOk ops wrs true ph r (listed.setIfInBounds i true)
  | hd, ph, .alt i r o, listed => (!hd || (Region.ready .any ops listed == i :: altsOf o)) && (Region.ready .any ops listed).contains i && (ph == wrs.contains i) && schOk ops wrs true ph r (listed.setIfInBounds i true) && schOk ops wrs false ph o listed
  | hd, _, .sw r, listed => hd && schOk ops wrs true true r listed
  | _, _, .seq _, _ => false

def cnt : Sc → Nat
  | .fin => 0
  | .sw r => cnt r
  | .q0 _ _ r => cnt r + 1
  | .q1 _ r => cnt r + 1
  | .alt _ r o => max (cnt r + 1) (cnt o)
  | .seq is => is.length

/-- The table within a drawn region: all objects stay where they lie, nothing is frozen anew. -/
def PT.in (pt : PT) (n : Nat) : PT := ⟨pt.l, n, false⟩

def XQ (P : Program) (te : TE) (wr : Bool) (nt : Nat) (pt : PT) (ops : Array Oper) (W : List Nat) (ctx0 : Ctx) (o : Oper) (K : St → Prop) (st : St) : Prop :=
  quietOp te o.op = true ∧ XStep P te wr nt (pt.in ctx0.length) false ops ⟨st.env, maskC W 0 ctx0 st.ctx⟩ o fun s => K ⟨s.env, st.ctx⟩

def XD (P : Program) (te : TE) (wr : Bool) (nt : Nat) (pt : PT) (ops : Array Oper) (W : List Nat) (ctx0 : Ctx) (K : St → Prop) : Bool → Bool → Sc → St → Prop
  | true, ph, .fin, st => newRw ctx0.length st.ctx ∧ K ⟨st.env, thaw (if ph then W else []) 0 ctx0 st.ctx⟩
  | false, _, .fin, _ => True
  | _, ph, .q0 i _ r, st => match ops[i]? with
    | some o => XQ P te wr nt pt ops [] ctx0 o (XD P te wr nt pt ops W ctx0 K true ph r) st
    | none => False
  | _, ph, .q1 i r, st => match ops[i]? with
    | some o => XQ P te wr nt pt ops W ctx0 o (XD P te wr nt pt ops W ctx0 K true ph r) st
    | none => False
  | _, ph, .alt i r q, st => (match ops[i]? with
    | some o => XStep P te wr nt (pt.in ctx0.length) false ops st o (XD P te wr nt pt ops W ctx0 K true ph r)
    | none => False) ∧ XD P te wr nt pt ops W ctx0 K false ph q st
  | _, ph, .sw r, st => ph = false ∧ newRw ctx0.length st.ctx ∧ (W.all fun h => match ctx0.at h with | some o => !o.ro | none => false) = true ∧
      XD P te wr nt pt ops W ctx0 K true true r ⟨st.env, freeze W 0 ctx0 ++ st.ctx.drop ctx0.length⟩
  | _, _, .seq _, _ => False

/-- Blocks of the objects that may be written. -/
def wB (W : List Nat) (c0 : Ctx) (σ : Asg) (b : Nat) : Prop := ∃ h o L, W.contains h = true ∧ c0.at h = some o ∧ o.ro = false ∧ σ h = some L ∧ L.b = b

def ambR (W : List Nat) (c0 : Ctx) (σ : Asg) (w : World) (nt : Nat) (ph : Bool) : Amb := ⟨w, fun b => ph = true ∧ wB W c0 σ b, σ, c0.length, nt, false⟩

theorem noGrow {σ : Asg} {w : World} {W : List Nat} {ctx : Ctx} {ph : Bool} {σ' : Asg} {s : St} {nt : Nat} {a' : Act} {w' : World} (hS : Rel (ambR W ctx σ w nt ph) σ' s a' w') {b : Nat} {o : Obj} (h : σ'.fz b = some o) : σ.fz b = some o := by
  rcases hS.base.fzn b o h with h | ⟨h, _⟩
  · exact h
  · cases h

section
variable {A : Amb} {σ : Asg} {st : St} {a : Act} {w : World} (hR : Rel A σ st a w) (W : List Nat)
include hR

theorem Rel.frozen : Rel (ambR W st.ctx σ w A.nt false) σ ⟨st.env, freeze [] 0 st.ctx⟩ a w := by
  have key : ∀ h o, Ctx.at (freeze [] 0 st.ctx) h = some o → ∃ o', st.ctx.at h = some o' ∧ mkRo1 o' = some o := by
    intro h o e
    rw [freeze_at] at e
    simp only [List.contains_nil, Bool.false_eq_true, if_false] at e
    cases hh : st.ctx.at h with
    | none => rw [hh] at e; cases e
    | some o' => rw [hh] at e; exact ⟨o', rfl, e⟩
  have ro : ∀ h o, Ctx.at (freeze [] 0 st.ctx) h = some o → o.ro = true := by
    intro h o e
    obtain ⟨o', h1, h2⟩ := key h o e
    exact (objSat_ro h2 (hR.sat.obj h o' h1)).2
  refine ⟨hR.defers, hR.size, hR.env, ⟨fun h o e => ?_, fun h h' o o' L L' _ e1 _ hro _ _ => ?_, fun h hh => hR.sat.beyond h (by simpa [freeze_length] using hh), hR.sat.inHeap, hR.sat.frz, fun h o L e hro _ => (by rw [ro h o e] at hro; cases hro)⟩, Fr.refl _ _, fun h o L e hro _ => ?_, ⟨fun _ _ => rfl, fun _ _ h => h, fun _ _ h => .inl h⟩, ?_⟩
  · obtain ⟨o', h1, h2⟩ := key h o e
    exact (objSat_ro h2 (hR.sat.obj h o' h1)).1
  · rw [ro h o e1] at hro; cases hro
  · rw [ro h o e] at hro; cases hro
  · simp [ambR, freeze_length]

theorem frz_lt {b : Nat} {o : Obj} (h : σ.fz b = some o) : b < w.heap.size := by
  have := hR.sat.frz b o h
  rcases Nat.lt_or_ge b w.heap.size with h' | h'
  · exact h'
  · rw [Array.getElem?_eq_none h'] at this; cases this

theorem not_wB {b : Nat} {o : Obj} (h : σ.fz b = some o) : ¬ wB W st.ctx σ b := by
  rintro ⟨h2, o2, L2, k1, k2, k3, k4, rfl⟩
  rw [hR.sat.frzA h2 o2 L2 k2 k3 k4] at h; cases h

theorem wB_other {h : Nat} {o : SO} {L : Loc} (hw : W.contains h = false) (ho : st.ctx.at h = some o) (hL : σ h = some L) : ¬ wB W st.ctx σ L.b := by
  rintro ⟨h2, o2, L2, k1, k2, k3, k4, k5⟩
  have hne : h2 ≠ h := by intro e; subst e; rw [k1] at hw; cases hw
  exact hR.sat.apart h2 h o2 o L2 L hne k2 ho k3 k4 hL k5

theorem leA_base {σ' : Asg} (hb : ∀ h, h < st.ctx.length → σ' h = σ h) (hf : ∀ b o, σ.fz b = some o → σ'.fz b = some o) : leA σ σ' := by
  refine ⟨fun h L hL => ?_, hf⟩
  have : h < st.ctx.length := by
    rcases Nat.lt_or_ge h st.ctx.length with h' | h'
    · exact h'
    · rw [hR.sat.beyond h h'] at hL; cases hL
  rw [hb h this, hL]

theorem Rel.switched {σ' : Asg} {s : St} {a' : Act} {w' : World} (hS : Rel (ambR W st.ctx σ w A.nt false) σ' s a' w') (hn : newRw st.ctx.length s.ctx) :
    Rel (ambR W st.ctx σ w A.nt true) σ' ⟨s.env, freeze W 0 st.ctx ++ s.ctx.drop st.ctx.length⟩ a' w' := by
  have hbase : ∀ h, h < st.ctx.length → σ' h = σ h := hS.base.loc
  have hle := leA_base hR hbase hS.base.fzb
  have hlen : st.ctx.length ≤ s.ctx.length := hS.klen
  have hat : ∀ h, Ctx.at (freeze W 0 st.ctx ++ s.ctx.drop st.ctx.length) h = if h < st.ctx.length then Ctx.at (freeze W 0 st.ctx) h else Ctx.at s.ctx h := by
    intro h
    rw [at_app', freeze_length]
    split
    · rfl
    · simp only [Ctx.at, List.getD_eq_getElem?_getD, List.getElem?_drop]
      rw [show st.ctx.length + (h - st.ctx.length) = h from by omega]
  have old : ∀ h o, h < st.ctx.length → Ctx.at (freeze W 0 st.ctx) h = some o → ∃ o', st.ctx.at h = some o' ∧ objSat σ' w' h o ∧ (o.ro = false → W.contains h = true ∧ o'.ro = false) := by
    intro h o hh e
    rw [freeze_at, Nat.zero_add] at e
    have stay : ∀ o', st.ctx.at h = some o' → objSat σ' w' h o' := fun o' ho' =>
      objSat_same hle (hbase h hh) (fun L hL => hS.fr.block _ (hR.sat.inHeap h L hL) (by rintro ⟨h, _⟩; cases h)) (hR.sat.obj h o' ho')
    split at e
    · rename_i hw
      exact ⟨o, e, stay o e, fun hro => ⟨hw, hro⟩⟩
    · cases hh' : st.ctx.at h with
      | none => rw [hh'] at e; cases e
      | some o' =>
        rw [hh'] at e
        have := objSat_ro e (stay o' hh')
        exact ⟨o', rfl, this.1, fun hro => by rw [this.2] at hro; cases hro⟩
  have new : ∀ h o L, st.ctx.length ≤ h → s.ctx.at h = some o → σ' h = some L → w.heap.size ≤ L.b := by
    intro h o L hh e hL
    rcases hS.own h o L e (hn.get hh e) hL with ⟨hx, _⟩ | hx
    · cases hx
    · exact hx
  have lt : ∀ h L, h < st.ctx.length → σ' h = some L → L.b < w.heap.size := fun h L hh hL => hR.sat.inHeap h L (by rw [← hbase h hh]; exact hL)
  refine ⟨hS.defers, hS.size, hS.env, ⟨fun h o e => ?_, fun h h' o o' L L' hne e1 e2 hro s1 s2 => ?_, fun h hh => ?_, hS.sat.inHeap, hS.sat.frz, fun h o L e hro hL => ?_⟩, hS.fr.mono (fun b _ hx => (by cases hx.1)), fun h o L e hro hL => ?_, ⟨hS.base.loc, hS.base.fzb, fun b o h => .inl (noGrow hS h)⟩, ?_⟩
  · have e' : Ctx.at (freeze W 0 st.ctx ++ s.ctx.drop st.ctx.length) h = some o := e
    rw [hat] at e'
    split at e'
    · rename_i hh
      exact (old h o hh e').choose_spec.2.1
    · exact hS.sat.obj h o e'
  · have e1' : Ctx.at (freeze W 0 st.ctx ++ s.ctx.drop st.ctx.length) h = some o := e1
    have e2' : Ctx.at (freeze W 0 st.ctx ++ s.ctx.drop st.ctx.length) h' = some o' := e2
    rw [hat] at e1' e2'
    split at e1'
    · rename_i hh
      obtain ⟨q, q1, q2, q3⟩ := old h o hh e1'
      obtain ⟨q3, q4⟩ := q3 hro
      split at e2'
      · rename_i hh'
        obtain ⟨q', q1', _, _⟩ := old h' o' hh' e2'
        exact hR.sat.apart h h' q q' L L' hne q1 q1' q4 (by rw [← hbase h hh]; exact s1) (by rw [← hbase h' hh']; exact s2)
      · rename_i hh'
        have := new h' o' L' (by omega) e2' s2
        have := lt h L hh s1
        omega
    · rename_i hh
      split at e2'
      · rename_i hh'
        have := new h o L (by omega) e1' s1
        have := lt h' L' hh' s2
        omega
      · exact hS.sat.apart h h' o o' L L' hne e1' e2' hro s1 s2
  · refine hS.sat.beyond h ?_
    have h2 : (freeze W 0 st.ctx ++ s.ctx.drop st.ctx.length).length ≤ h := hh
    simp only [List.length_append, freeze_length, List.length_drop] at h2
    show s.ctx.length ≤ h
    omega
  · have e' : Ctx.at (freeze W 0 st.ctx ++ s.ctx.drop st.ctx.length) h = some o := e
    rw [hat] at e'
    split at e'
    · rename_i hh
      obtain ⟨q, q1, q2, q3⟩ := old h o hh e'
      obtain ⟨q3, q4⟩ := q3 hro
      cases hz : σ'.fz L.b with
      | none => rfl
      | some x =>
        have := noGrow hS hz
        rw [hR.sat.frzA h q L q1 q4 (by rw [← hbase h hh]; exact hL)] at this; cases this
    · exact hS.sat.frzA h o L e' hro hL
  · have e' : Ctx.at (freeze W 0 st.ctx ++ s.ctx.drop st.ctx.length) h = some o := e
    rw [hat] at e'
    split at e'
    · rename_i hh
      obtain ⟨q, q1, q2, q3⟩ := old h o hh e'
      obtain ⟨q3, q4⟩ := q3 hro
      exact .inl ⟨rfl, h, q, L, q3, q1, q4, by rw [← hbase h hh]; exact hL, rfl⟩
    · rename_i hh
      exact .inr (new h o L (by omega) e' hL)
  · show st.ctx.length ≤ (freeze W 0 st.ctx ++ _).length
    simp [freeze_length]

end
end Go.Vg
