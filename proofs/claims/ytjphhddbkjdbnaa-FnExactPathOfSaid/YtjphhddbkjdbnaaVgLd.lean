/- A call that is lent rows of the caller's own, and makes rows. -/
import Derived.Test.YtjphhddbkjdbnaaBaseE
namespace Go.Vg
set_option linter.unusedVariables false
set_option linter.unusedSimpArgs false
open Go.RowKit
-- Values that look at no frozen memory.
mutual
def SV.nf : SV → Bool
  | .agg l => nfL l
  | .tup l => nfL l
  | .gd _ x => SV.nf x
  | .fs _ _ => false
  | .fp _ _ => false
  | _ => true
def nfL : List SV → Bool
  | [] => true
  | x :: xs => SV.nf x && nfL xs
end
mutual
theorem rel_nf {σ σ' : Asg} (hl : ∀ h, σ' h = σ h) : ∀ {x : SV} {v : Value}, x.nf = true → rel σ x v → rel σ' x v
  | .b _, _, _, r => by simpa [rel] using r
  | .i _ _, _, _, r => by simpa [rel] using r
  | .s _, _, _, r => by simpa [rel] using r
  | .nils, _, _, r => by simpa [rel] using r
  | .fn _, _, _, r => by simpa [rel] using r
  | .u, _, _, r => by simp [rel]
  | .ptr _ _ _, _, _, r => by simpa [rel, hl] using r
  | .slc _ _ _, _, _, r => by simpa [rel, hl] using r
  | .mp _, _, _, r => by simpa [rel, hl] using r
  | .fs _ _, _, h, _ => by simp [SV.nf] at h
  | .fp _ _, _, h, _ => by simp [SV.nf] at h
  | .agg l, _, h, r => by
    simp only [rel, SV.nf] at r h ⊢
    obtain ⟨cs, e, r⟩ := r
    exact ⟨cs, e, relL_nf hl h r⟩
  | .tup l, _, h, r => by
    simp only [rel, SV.nf] at r h ⊢
    obtain ⟨cs, e, r⟩ := r
    exact ⟨cs, e, relL_nf hl h r⟩
  | .gd _ x, _, h, r => by
    simp only [rel, SV.nf] at r h ⊢
    exact ⟨fun g => rel_nf hl h (r.1 g), r.2⟩
theorem relL_nf {σ σ' : Asg} (hl : ∀ h, σ' h = σ h) : ∀ {x : List SV} {v : List Value}, nfL x = true → relL σ x v → relL σ' x v
  | [], _, _, r => by simpa [relL] using r
  | _ :: _, _, h, r => by
    simp only [relL, nfL, Bool.and_eq_true] at r h ⊢
    obtain ⟨v, q, e, r1, r2⟩ := r
    exact ⟨v, q, e, rel_nf hl h.1 r1, relL_nf hl h.2 r2⟩
end
theorem nfL_getD {l : List SV} (h : nfL l = true) (k : Nat) : (l.getD k .u).nf = true := by
  induction l generalizing k with
  | nil => rfl
  | cons x xs ih =>
    simp only [nfL, Bool.and_eq_true] at h
    cases k with
    | zero => exact h.1
    | succ k => exact ih h.2 k
/-- An object whose elements look at no frozen memory. -/
def nfO (o : SO) : Prop := ∀ i, i < o.n → nfL (o.el i) = true
theorem entsRel_nf {σ σ' : Asg} : ∀ {ps : List (SV × SV)} {es : List MapEntry}, (∀ p ∈ ps, p.1.bit = true ∧ p.2.bit = true) → entsRel σ ps es → entsRel σ' ps es
  | [], _, _, h => h
  | p :: ps, es, hp, h => by
    simp only [entsRel] at h ⊢
    obtain ⟨e, r, h1, h2, h3, h4⟩ := h
    have := hp p (by simp)
    exact ⟨e, r, h1, rel_bit this.1 h2, rel_bit this.2 h3, entsRel_nf (fun q hq => hp q (by simp [hq])) h4⟩
theorem objSat_nf {σ σ' : Asg} (hl : ∀ h, σ' h = σ h) {w : World} {h : Nat} {o : SO} (hn : nfO o) (hs : objSat σ w h o) : objSat σ' w h o := by
  unfold objSat at hs ⊢
  split
  · rename_i hm
    rw [hm] at hs
    simp only at hs
    obtain ⟨L, es, ck, h1, h2, h3⟩ := hs
    refine ⟨L, es, ck, by rw [hl]; exact h1, h2, entsRel_nf ?_ h3⟩
    intro p hp
    cases o with
    | row => simp [SO.isMap] at hm
    | blk => simp [SO.isMap] at hm
    | mapS l => simp only [SO.ents, List.mem_map] at hp; obtain ⟨q, _, rfl⟩ := hp; exact ⟨rfl, rfl⟩
    | mapI l => simp only [SO.ents, List.mem_map] at hp; obtain ⟨q, _, rfl⟩ := hp; exact ⟨rfl, rfl⟩
  · rename_i hm
    rw [hm] at hs
    simp only at hs
    rcases hs with ⟨h1, h2⟩ | ⟨L, c, e, fr, h1, h2⟩
    · exact .inl ⟨h1, by rw [hl]; exact h2⟩
    · refine .inr ⟨L, c, e, fr, by rw [hl]; exact h1, h2.heap, h2.lsz, h2.room, h2.fits, fun i k hi hk => ?_, h2.free⟩
      obtain ⟨v, hv, hr⟩ := h2.cell i k hi hk
      exact ⟨v, hv, rel_nf hl (nfL_getD (hn i hi) k) hr⟩
/-- A call that is lent rows of the caller's own: what it makes stands behind the caller's own. -/
theorem XCalls.lend {P : Program} {f : FuncId} {args0 : List SV} {Z : SV} {C : Ctx} (hF : FnK P f 0 args0 [] fun z c => z = Z ∧ c = C) {args : List SV} {kk : Nat} {st : St} {K : Sl (SV × St)}
    (hargs : frzVL st.ctx args = args0) (hp : plainL args0 = true) (hok : frzOkL st.ctx args) (hZ : Z.nf = true) (hC : ∀ h o, C.at h = some o → nfO o)
    (hK : K.f (Z.mapH (fun h => st.ctx.length + h), ⟨st.env, st.ctx ++ C.map fun o => o.map (SO.mapH fun h => st.ctx.length + h)⟩)) : XCalls P f args kk st K := by
  refine ⟨hF.1, fun A σ a w vs hAk hgr hR hvs => ?_⟩
  subst hargs
  have hsat0 : Sat (⟨fun _ => none, fun b => w.heap[b]?⟩ : Asg) w [] := by
    refine ⟨fun h o e => ?_, fun h h' o o' L L' _ e => ?_, fun _ _ => rfl, fun h L e => ?_, fun _ _ h => h, fun h o L e => ?_⟩
    · simp [Ctx.at] at e
    · simp [Ctx.at] at e
    · cases e
    · simp [Ctx.at] at e
  refine (hF.2 w ⟨fun _ => none, fun b => w.heap[b]?⟩ vs hsat0 (frzL_rel hR.sat hok hp hvs)).mono fun e w' ⟨v, z, c, σ', e1, ⟨ez, ec⟩, p⟩ => ?_
  subst ez ec
  generalize hn : st.ctx.length = n at *
  generalize hσ : (⟨fun h => if h < n then σ h else σ' (h - n), σ.fz⟩ : Asg) = σ2
  have nrw : ∀ b, ¬ rwB [] (⟨fun _ => none, fun b => w.heap[b]?⟩ : Asg) b := by
    rintro b ⟨h, o, L, e, _⟩
    simp [Ctx.at] at e
  have hold : ∀ h, h < n → σ2 h = σ h := fun h hh => by subst hσ; simp [hh]
  have hnew : ∀ h, σ2 (n + h) = σ' h := fun h => by
    subst hσ
    show (if n + h < n then σ (n + h) else σ' (n + h - n)) = σ' h
    rw [if_neg (by omega), Nat.add_sub_cancel_left]
  have hfz : σ2.fz = σ.fz := by subst hσ; rfl
  have hle : leA σ σ2 := by
    refine ⟨fun h L e => ?_, fun b o e => by rw [hfz]; exact e⟩
    rcases Nat.lt_or_ge h n with h1 | h1
    · rw [hold h h1]; exact e
    · rw [hR.sat.beyond h (by omega)] at e; cases e
  have hblk : ∀ b, b < w.heap.size → w'.heap[b]? = w.heap[b]? := fun b hb => p.fr.block b hb (nrw b)
  have ownN : ∀ h o L, z.nf = true → c.at h = some o → σ' h = some L → w.heap.size ≤ L.b := by
    intro h o L _ e s
    rcases p.own h o L e (p.new h o (Nat.zero_le _) e) s with h1 | h1
    · exact absurd h1 (nrw _)
    · exact h1
  have atN : ∀ h o, Ctx.at (st.ctx ++ c.map fun o => o.map (SO.mapH fun h => n + h)) h = some o → (h < n ∧ st.ctx.at h = some o) ∨ (∃ i o1, h = n + i ∧ c.at i = some o1 ∧ o = o1.mapH fun h => n + h) := by
    intro h o e
    simp only [Ctx.at, List.getD_eq_getElem?_getD] at e ⊢
    rcases Nat.lt_or_ge h n with h1 | h1
    · rw [List.getElem?_append_left (by omega)] at e
      exact .inl ⟨h1, e⟩
    · rw [List.getElem?_append_right (by omega), List.getElem?_map, hn] at e
      right
      cases hx : c[h - n]? with
      | none => rw [hx] at e; simp at e
      | some x =>
        rw [hx] at e
        cases x with
        | none => simp at e
        | some o1 =>
          simp only [Option.map_some, Option.getD_some, Option.some.injEq] at e
          exact ⟨h - n, o1, by omega, by rw [hx]; rfl, e.symm⟩
  have clen : (st.ctx ++ c.map fun o => o.map (SO.mapH fun h => n + h)).length = n + c.length := by simp [hn]
  refine ⟨v, z.mapH fun h => n + h, _, σ2, e1, hK, ?_, hR.defers, hR.size, fun t => rel_mono hle (hR.env t), ⟨fun h o e => ?_, fun h h' o o' L L' hne e e' ho s s' => ?_, fun h hh => ?_, fun h L s => ?_, fun b o e => ?_, fun h o L e ho s => ?_⟩, ?_, fun h o L e ho s => ?_, ⟨fun h hh => ?_, fun b o e => ?_, fun b o e => ?_⟩, ?_⟩
  · rw [rel_mapH]
    exact rel_nf (fun h => hnew h) hZ p.val
  · rcases atN h o e with ⟨h1, h2⟩ | ⟨i, o1, rfl, h2, rfl⟩
    · exact objSat_same hle (hold h h1) (fun L hL => hblk _ (hR.sat.inHeap h L hL)) (hR.sat.obj h o h2)
    · exact objSat_up (σ := σ2) (σ0 := ⟨σ'.loc, σ.fz⟩) (μ := fun h => n + h) (fun h => hnew h) hfz.symm (objSat_nf (σ := σ') (σ' := ⟨σ'.loc, σ.fz⟩) (fun _ => rfl) (hC i o1 h2) (p.sat.obj i o1 h2))
  · rcases atN h o e with ⟨h1, h2⟩ | ⟨i, o1, rfl, h2, rfl⟩ <;> rcases atN h' o' e' with ⟨h3, h4⟩ | ⟨j, o2, rfl, h4, rfl⟩
    · rw [hold h h1] at s; rw [hold h' h3] at s'
      exact hR.sat.apart h h' o o' L L' hne h2 h4 ho s s'
    · rw [hold h h1] at s; rw [hnew j] at s'
      have := hR.sat.inHeap h L s
      have := ownN j o2 L' hZ h4 s'
      omega
    · rw [hnew i] at s; rw [hold h' h3] at s'
      have := hR.sat.inHeap h' L' s'
      have := ownN i o1 L hZ h2 s
      omega
    · rw [hnew i] at s; rw [hnew j] at s'
      exact p.sat.apart i j o1 o2 L L' (by omega) h2 h4 (p.new i o1 (Nat.zero_le _) h2) s s'
  · rw [clen] at hh
    obtain ⟨i, rfl⟩ : ∃ i, h = n + i := ⟨h - n, by omega⟩
    rw [hnew]
    exact p.sat.beyond i (by omega)
  · rcases Nat.lt_or_ge h n with h1 | h1
    · rw [hold h h1] at s
      have := hR.sat.inHeap h L s
      have := p.fr.size
      omega
    · obtain ⟨i, rfl⟩ : ∃ i, h = n + i := ⟨h - n, by omega⟩
      rw [hnew] at s
      exact p.sat.inHeap i L s
  · rw [hfz] at e
    have h1 := hR.sat.frz b o e
    have hb : b < w.heap.size := by
      rcases Nat.lt_or_ge b w.heap.size with h | h
      · exact h
      · rw [Array.getElem?_eq_none h] at h1; cases h1
    rw [hblk b hb]
    exact h1
  · rw [hfz]
    rcases atN h o e with ⟨h1, h2⟩ | ⟨i, o1, rfl, h2, rfl⟩
    · rw [hold h h1] at s
      exact hR.sat.frzA h o L h2 ho s
    · rw [hnew i] at s
      have hb := ownN i o1 L hZ h2 s
      cases hx : σ.fz L.b with
      | none => rfl
      | some q =>
        have h1 := hR.sat.frz _ _ hx
        rw [Array.getElem?_eq_none hb] at h1
        cases h1
  · exact hR.fr.step p.fr fun x _ hx => absurd hx (nrw x)
  · rcases atN h o e with ⟨h1, h2⟩ | ⟨i, o1, rfl, h2, rfl⟩
    · rw [hold h h1] at s
      exact hR.own h o L h2 ho s
    · rw [hnew i] at s
      have := ownN i o1 L hZ h2 s
      have := hR.fr.size
      exact .inr (by omega)
  · have := hR.klen
    rw [hold h (by omega)]
    exact hR.base.loc h hh
  · rw [hfz]; exact hR.base.fzb b o e
  · rw [hfz] at e; exact hR.base.fzn b o e
  · have := hR.klen
    show A.k ≤ (st.ctx ++ c.map fun o => o.map (SO.mapH fun h => n + h)).length
    rw [clen]
    omega
end Go.Vg
namespace Go.Vg
theorem nf_row1 {α : Type} {enc : α → List SV} {z : α} {xs : List α} {r : Bool} {sz n : Nat} (h : ∀ x, nfL (enc x) = true) : ∀ k o, Ctx.at [some (.row r sz n (rowE enc z xs))] k = some o → nfO o := by
  intro k o e
  cases k with
  | zero =>
    rw [at_cons_zero] at e
    cases e
    intro i hi
    exact h _
  | succ k =>
    rw [at_cons_succ] at e
    simp [Ctx.at] at e
end Go.Vg
namespace Go.Vg
open Go.Pl
def idI (k : Int) : Int := k
def evm (k : Int) : Ev := ⟨k, k + 1, decide ((k + 2).tmod 3 = 0), mtx (k + 3), mtx (k + 4), mtx (k + 5), k + 6, k + 7⟩
end Go.Vg
