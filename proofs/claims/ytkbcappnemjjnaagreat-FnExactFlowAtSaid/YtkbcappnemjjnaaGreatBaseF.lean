/- The reader of nodes in the flow style, in plain words. -/
import Derived.Test.YtkbcappnemjjnaaGreatBaseE
import Derived.Test.YtkbcappnemjjnaaGreatBaseA
section
set_option linter.unusedVariables false
set_option linter.unusedSimpArgs false
namespace Go.Pl
set_option linter.unusedVariables false
set_option linter.unusedSimpArgs false
open Go.Vg (lookS updS)
/-- What a reader has come to: place, events, which have ended, where the document begins, handles, depth, fault. -/
structure Rd where
  pos : Nat
  ev : List Ev
  dn : List Bool
  bs : Nat
  hd : List Hd
  dp : Nat
  cd : Int
  pl : Nat
/-- Properties: any, anchor, tag, the place behind them. -/
structure Pp where
  has : Bool
  an : Bs
  tg : Bs
  en : Nat
/-- The events since the document's beginning that bear an anchor. -/
def anI (l : List Ev) (b : Nat) : List Nat := (List.range l.length).filter fun i => decide (b ≤ i) && !decide ((l.getD i evz).anchor = [])
def nmI (l : List Ev) (b : Nat) : List (Bs × Int) := (anI l b).foldl (fun m i => updS m (l.getD i evz).anchor (i : Int)) []
def nmS (l : List Ev) (d : List Bool) (b : Nat) : List (Bs × Bool) := (anI l b).map fun i => ((l.getD i evz).anchor, d.getD i false)
/-- Whether the last node of a name has ended. -/
def alD (l : List Ev) (d : List Bool) (b : Nat) (name : Bs) : Bool := (nmS l d b).foldl (fun x p => if p.1 = name then p.2 else x) false
def flt (r : Rd) (c : Int) (p : Nat) : Rd := { r with cd := c, pl := p }
def tellR (r : Rd) (e : Ev) (d : Bool) : Rd := { r with ev := r.ev ++ [e], dn := r.dn ++ [d] }
def evT (st : Int) (t a g : Bs) : Ev := ⟨5, st, false, t, a, g, 0, 0⟩
def evA (t : Bs) : Ev := ⟨6, 0, false, t, [], [], 0, 0⟩
def evO (k st : Int) (a g : Bs) : Ev := ⟨k, st, false, [], a, g, 0, 0⟩
def evE : Ev := ⟨7, 0, false, [], [], [], 0, 0⟩
def textR (r : Rd) (st : Int) (t a g : Bs) : Rd := tellR r (evT st t a g) true
def atR (r : Rd) (p : Nat) : Rd := { r with pos := p }
/-- A stop is a fault. -/
def stopR (s : Bs) (r : Rd) : Rd := if s.length ≤ r.pos then flt r 3 r.pos else if mkA s r.pos ≠ 0 then flt r 4 r.pos else r
def gapR (s : Bs) (r : Rd) : Rd := stopR s (atR r (gpE s r.pos))
def bhd (s : Bs) (fl : Bool) (e : Nat) : Bool := gap s e || (fl && flw (byt s e))
def nxP (s : Bs) (fl : Bool) (e : Nat) : Nat := if fl then gpE s e else wh s e
/-- One property; code 0: there is one. -/
def prA (s : Bs) (hd : List Hd) (fl : Bool) (pos : Nat) (p : Pp) : Pp × Int :=
  if byt s pos = 38 then
    (if (nmA s pos).2.2 = true ∧ p.an = [] then (if bhd s fl (nmA s pos).2.1.toNat = true then (⟨true, (nmA s pos).1, p.tg, (nmA s pos).2.1.toNat⟩, 0) else ({ p with an := (nmA s pos).1 }, 7)) else (p, 7))
  else
    (if (tgA s pos).2.2 = true ∧ p.tg = [] ∧ bhd s fl (tgA s pos).2.1.toNat = true then (if (trA (tgA s pos).1 hd).2 = true then (⟨true, p.an, (trA (tgA s pos).1 hd).1, (tgA s pos).2.1.toNat⟩, 0) else (p, 15)) else (p, 7))
theorem tgA_place {s : Bs} {p : Nat} (h : (tgA s p).2.2 = true) : byt s p = 33 ∧ (p : Int) + 1 ≤ (tgA s p).2.1 ∧ (tgA s p).2.1 ≤ s.length ∧ (tgA s p).2.1 ≤ p + 60 := by
  by_cases h1 : byt s p = 33 ∧ tgE s p ≤ p + 60
  · have := tgE_place h1.1
    rw [tgA_t h1]
    exact ⟨h1.1, by simp only; omega, by simp only; omega, by simp only; omega⟩
  · rw [tgA_f h1] at h; cases h
theorem nmA_sign {s : Bs} {p : Nat} (h : (nmA s p).2.2 = true) : (byt s p = 38 ∨ byt s p = 42) ∧ (p : Int) + 2 ≤ (nmA s p).2.1 ∧ (nmA s p).2.1 ≤ s.length ∧ (nmA s p).1.length ≤ 60 ∧ (nmA s p).1 ≠ [] := by
  by_cases h1 : (byt s p = 38 ∨ byt s p = 42) ∧ p + 2 ≤ stc s (p + 1) ∧ stc s (p + 1) ≤ p + 61
  · have hl : p < s.length := by
      rcases h1.1 with h2 | h2
      · exact byt_pos h2 (by decide)
      · exact byt_pos h2 (by decide)
    have := stc_le s (p + 1) hl
    rw [nmA_t h1]
    have hs : (sub s (p + 1) (stc s (p + 1))).length = stc s (p + 1) - (p + 1) := by simp only [sub, List.length_drop, List.length_take]; omega
    refine ⟨h1.1, by simp only; omega, by simp only; omega, by simp only; omega, fun h9 => ?_⟩
    simp only at h9
    rw [h9] at hs
    simp at hs; omega
  · rw [nmA_f h1] at h; cases h
theorem prA_place {s : Bs} {hd : List Hd} {fl : Bool} {pos : Nat} {p : Pp} (hl : pos ≤ s.length) (h : (prA s hd fl pos p).2 = 0) : pos + 1 ≤ (prA s hd fl pos p).1.en ∧ (prA s hd fl pos p).1.en ≤ s.length ∧ (prA s hd fl pos p).1.has = true := by
  unfold prA at h ⊢
  split
  · rename_i h1
    rw [if_pos h1] at h
    split
    · rename_i h2
      have := nmA_sign h2.1
      rw [if_pos h2] at h
      split
      · exact ⟨by simp only; omega, by simp only; omega, rfl⟩
      · rename_i h3; rw [if_neg h3] at h; simp at h
    · rename_i h2; rw [if_neg h2] at h; simp at h
  · rename_i h1
    rw [if_neg h1] at h
    split
    · rename_i h2
      have := tgA_place h2.1
      rw [if_pos h2] at h
      split
      · exact ⟨by simp only; omega, by simp only; omega, rfl⟩
      · rename_i h3; rw [if_neg h3] at h; simp at h
    · rename_i h2; rw [if_neg h2] at h; simp at h
theorem nxP_place {s : Bs} {fl : Bool} {e : Nat} (h : e ≤ s.length) : e ≤ nxP s fl e ∧ nxP s fl e ≤ s.length := by
  unfold nxP; split
  · exact ⟨gpE_ge s e, gpE_le s e h⟩
  · exact ⟨wh_ge s e, wh_le s e h⟩
def isPr (s : Bs) (pos : Nat) : Bool := decide (byt s pos = 38 ∨ byt s pos = 33)
/-- All properties at a place: where they end, what they are, a fault's code. -/
def prs (s : Bs) (hd : List Hd) (fl : Bool) (pos : Nat) (p : Pp) : Nat × Pp × Int :=
  if h : isPr s pos = true ∧ (prA s hd fl pos p).2 = 0 then prs s hd fl (nxP s fl (prA s hd fl pos p).1.en) (prA s hd fl pos p).1
  else (pos, if isPr s pos = true then ((prA s hd fl pos p).1, (prA s hd fl pos p).2) else (p, 0))
termination_by s.length - pos
decreasing_by
  have hl : pos < s.length := by
    have := h.1
    unfold isPr at this
    rcases of_decide_eq_true this with h1 | h1
    · exact byt_pos h1 (by decide)
    · exact byt_pos h1 (by decide)
  have h1 := prA_place (Nat.le_of_lt hl) h.2
  have h2 := nxP_place (s := s) (fl := fl) h1.2.1
  omega
def ppz (p : Nat) : Pp := ⟨false, [], [], p⟩
/-- The properties at the reader's place. -/
def prR (s : Bs) (fl : Bool) (r : Rd) : Rd :=
  if (prs s r.hd fl r.pos (ppz r.pos)).2.2 = 0 then atR r (prs s r.hd fl r.pos (ppz r.pos)).1 else flt (atR r (prs s r.hd fl r.pos (ppz r.pos)).1) (prs s r.hd fl r.pos (ppz r.pos)).2.2 (prs s r.hd fl r.pos (ppz r.pos)).1
def prP (s : Bs) (fl : Bool) (r : Rd) : Pp := (prs s r.hd fl r.pos (ppz r.pos)).2.1
/-- .. within a flow collection: no stop behind them. -/
def prF (s : Bs) (r : Rd) : Rd := if (prR s true r).cd = 0 ∧ (prP s true r).has = true then stopR s (prR s true r) else prR s true r
def alR (s : Bs) (r : Rd) (has : Bool) : Rd :=
  if (nmA s r.pos).2.2 = false then flt r 7 r.pos
  else if has = true then flt r 16 r.pos
  else if alD r.ev r.dn r.bs (nmA s r.pos).1 = true then atR (tellR r (evA (nmA s r.pos).1) true) (nmA s r.pos).2.1.toNat
  else flt r 14 r.pos
def qtA (s : Bs) (p : Nat) : Bs × Nat × Int := if byt s p = 34 then dbA s p else sgA s p
def qtR (s : Bs) (r : Rd) (p : Pp) : Rd :=
  if (qtA s r.pos).2.2 ≠ 0 then flt r (qtA s r.pos).2.2 (qtA s r.pos).2.1
  else atR (textR r (if byt s r.pos = 34 then 3 else 2) (qtA s r.pos).1 p.an p.tg) (qtA s r.pos).2.1
def plR (s : Bs) (r : Rd) (p : Pp) (n : Int) (fl : Bool) : Rd := atR (textR r 1 (ptA s r.pos n fl).1 p.an p.tg) (ptA s r.pos n fl).2.1
def opR (r : Rd) (k st : Int) (p : Pp) (sign : Nat) : Rd := if 40 ≤ r.dp then flt r 12 sign else { tellR r (evO k st p.an p.tg) false with dp := r.dp + 1 }
def shR (r : Rd) (k : Nat) : Rd := { r with ev := r.ev ++ [evE], dn := (r.dn ++ [true]).set k true, dp := r.dp - 1 }
def cmR (s : Bs) (r : Rd) (c : Int) : Rd := if byt s r.pos = 44 then atR r (r.pos + 1) else if byt s r.pos = c then r else flt r 11 r.pos
/-- The items of a collection, up to its end. -/
def clL (s : Bs) (it : Rd → Rd) (c : Int) (k : Nat) (r : Rd) : Rd :=
  if (gapR s r).cd ≠ 0 then gapR s r
  else if byt s (gapR s r).pos = c then shR (atR (gapR s r) ((gapR s r).pos + 1)) k
  else if (it (gapR s r)).cd ≠ 0 then it (gapR s r)
  else if (gapR s (it (gapR s r))).cd ≠ 0 then gapR s (it (gapR s r))
  else if h : (cmR s (gapR s (it (gapR s r))) c).cd = 0 ∧ r.pos < (cmR s (gapR s (it (gapR s r))) c).pos ∧ r.pos < s.length then clL s it c k (cmR s (gapR s (it (gapR s r))) c)
  else cmR s (gapR s (it (gapR s r))) c
termination_by s.length - r.pos
decreasing_by omega
def isQu (b : Int) : Bool := b == 39 || b == 34
/-- A scalar or an alias; or nothing, where properties and one of three signs stand. -/
def scR (s : Bs) (r : Rd) (p : Pp) (c1 c2 : Int) : Rd :=
  if byt s r.pos = 42 then alR s r p.has
  else if isQu (byt s r.pos) = true then qtR s r p
  else if pfA s r.pos true = true then plR s r p (-1) true
  else if p.has = true ∧ (byt s r.pos = 44 ∨ byt s r.pos = c1 ∨ byt s r.pos = c2) then textR r 1 [] p.an p.tg
  else flt r 10 r.pos
/-- A key and its value. -/
def paV (s : Bs) (sb : Rd → Rd) (r : Rd) : Rd :=
  if (gapR s r).cd ≠ 0 then gapR s r
  else if byt s (gapR s r).pos = 44 ∨ byt s (gapR s r).pos = 125 then textR (gapR s r) 1 [] [] []
  else sb (gapR s r)
def paK (s : Bs) (sb : Rd → Rd) (q : Bool) (r : Rd) : Rd :=
  if byt s r.pos = 58 ∧ (gap s (r.pos + 1) || flw (byt s (r.pos + 1)) || q) = true then paV s sb (atR r (r.pos + 1)) else textR r 1 [] [] []
def paR (s : Bs) (sb : Rd → Rd) (r : Rd) : Rd :=
  if (prF s r).cd ≠ 0 then prF s r
  else if (scR s (prF s r) (prP s true r) 125 58).cd ≠ 0 then scR s (prF s r) (prP s true r) 125 58
  else if (gapR s (scR s (prF s r) (prP s true r) 125 58)).cd ≠ 0 then gapR s (scR s (prF s r) (prP s true r) 125 58)
  else paK s sb (isQu (byt s (prF s r).pos)) (gapR s (scR s (prF s r) (prP s true r) 125 58))
def coR (s : Bs) (it : Rd → Rd) (c k : Int) (r : Rd) (p : Pp) : Rd :=
  if (opR r k 6 p r.pos).cd ≠ 0 then opR r k 6 p r.pos else clL s it c r.ev.length (atR (opR r k 6 p r.pos) (r.pos + 1))
def boR (s : Bs) (sb : Rd → Rd) (r : Rd) (p : Pp) : Rd :=
  if byt s r.pos = 91 then coR s sb 93 3 r p
  else if byt s r.pos = 123 then coR s (paR s sb) 125 4 r p
  else scR s r p 93 125
def noR (s : Bs) (sb : Rd → Rd) (r : Rd) : Rd := if (prF s r).cd ≠ 0 then prF s r else boR s sb (prF s r) (prP s true r)
/-- A node, where so many collections may still stand in one another. -/
def noF (s : Bs) : Nat → Rd → Rd
  | 0 => noR s id
  | d + 1 => noR s (noF s d)
def rdz (p : Nat) : Rd := ⟨p, [], [], 0, [], 0, 0, 0⟩
def flA (s : Bs) (p : Nat) : Rd := if (gapR s (rdz p)).cd ≠ 0 then gapR s (rdz p) else noF s 40 (gapR s (rdz p))
def toR (r : Rd) : Nat := if r.cd ≠ 0 then r.pl else r.pos
end Go.Pl
namespace Go.Pl
def pr1 (s : Bs) (fl : Bool) (r : Rd) (p : Pp) : Rd := if (prA s r.hd fl r.pos p).2 = 0 then atR r (nxP s fl (prA s r.hd fl r.pos p).1.en) else flt r (prA s r.hd fl r.pos p).2 r.pos
end Go.Pl
namespace Go.Pl
/-- A scalar or alias, if there is one. -/
def sqB (s : Bs) (r : Rd) (fl : Bool) : Bool := decide (byt s r.pos = 42) || isQu (byt s r.pos) || pfA s r.pos fl
def scX (s : Bs) (r : Rd) (p : Pp) (n : Int) (fl : Bool) : Rd :=
  if byt s r.pos = 42 then alR s r p.has
  else if isQu (byt s r.pos) = true then qtR s r p
  else if pfA s r.pos fl = true then plR s r p n fl
  else r
end Go.Pl
end
section
set_option linter.unusedVariables false
set_option linter.unusedSimpArgs false
namespace Go.Vg
open Go.Pl
set_option linter.unusedVariables false
def hdc (e : Hd) : List SV := [.s e.name, .s e.pre]
theorem hdc_inj {l m : List Hd} : l.map hdc = m.map hdc ↔ l = m := map_inj fun a b h => by cases a; cases b; simpa [hdc] using h
theorem getD_hdc (a : List Hd) (i : Nat) : (a.map hdc).getD i [.s [], .s []] = [.s (a.getD i hdz).name, .s (a.getD i hdz).pre] := getD_map hdc a i hdz
theorem rowE_hd {a : List Hd} {i : Nat} : rowE hdc hdz a i = [.s (a.getD i hdz).name, .s (a.getD i hdz).pre] := id rfl
theorem rowH_hd {μ : Nat → Nat} {r : Bool} {sz n : Nat} {a : List Hd} : SO.mapH μ (.row r sz n (rowE hdc hdz a)) = .row r sz n (rowE hdc hdz a) := rowH fun _ => rfl
theorem hdEta (e : Hd) : (⟨e.name, e.pre⟩ : Hd) = e := id rfl
theorem XRH : type_of% (And.intro (And.intro @getD_hdc @rowE_hd) (And.intro @rowH_hd @hdEta)) := And.intro (And.intro @getD_hdc @rowE_hd) (And.intro @rowH_hd @hdEta)
end Go.Vg
namespace Go.Vg
theorem soLe_pushN {μ : Nat → Nat} {α : Type} {enc : α → List SV} {z : α} (xs : List α) (y : α) {ys : List α} {sz n m : Nat} {f : Nat → List SV} {cs : List SV} (hp : ∀ x, plainL (enc x) = true) (hys : ys = xs ++ [y]) (hn : n = xs.length) (hm : m = n + 1) (hf : ∀ j, j < n → f j = rowE enc z xs j) (hy : cs = enc y) (hl : (enc y).length = sz) :
    soLe μ (.row false sz m (rowE enc z ys)) (.row false sz (n + 1) (catF n f fun j => litEl cs sz j)) := by
  subst hy; subst hys; subst hn; subst hm
  refine soLe_row fun j hj => ?_
  rw [rowE_push (z := z) rfl hf hl hj]
  exact mapHL_plain (hp _)
end Go.Vg
end
section
set_option linter.unusedVariables false
set_option linter.unusedSimpArgs false
namespace Go.Vg
open Go.Pl
set_option linter.unusedVariables false
/-- A function's end, of which only so much is told. -/
def FinQ (te : TE) (k pl : Nat) (rs : List ResultVar) (Q : SV → Ctx → Prop) (st : St) : Prop := ∃ Z C, Q Z C ∧ FinE te k pl rs Z C st
theorem FnK.ofQ {cf : Cf} (hcf : cf.ok) {f : FuncId} {fn : Func} {c : Code} (hf : cf.P.funcs[f]? = some fn) (hb : fn.body = some c) (hname : (fn.name == "runtime.NumGoroutine") = false)
    (hnt : fn.ntmps = cf.nt) {args : List SV} {pre : Ctx} (hlen : args.length ≤ cf.nt) (hk : cf.k ≤ pre.length) {rs : List ResultVar} (hrs : fn.results.toList = rs) {Q : SV → Ctx → Prop} (n : Nat)
    (h : vc cf (FinQ cf.te cf.k pre.length rs Q) n [.code c] ⟨entry 0 args, pre⟩) : FnK cf.P f cf.k args pre Q := by
  refine FnK.ofG hcf hf hb hname hnt hlen hk hrs (fun A σ st a w hAk _ hF hR => ?_) n h
  obtain ⟨Z, C, hQ, l, ⟨h1, h2⟩, h3, h4, h5, h6⟩ := hF
  rw [← hrs] at h4
  obtain ⟨z, v, hz, hv, hr⟩ := resQ_sound (P := cf.P) hcf.te hR h4
  subst hz
  exact ⟨Z, v, C, σ.ren (muL l st.ctx.length), hQ, hv, (rel_mapH _ _ _ _).1 hr, Rel.ren (st' := ⟨[], C⟩) l h1 h2 h3 trivial hAk hR, h5, h6⟩
/-- A call of such a function. -/
theorem XCalls.rebQ {P : Program} {f : FuncId} {k : Nat} {args0 : List SV} {pre : Ctx} {Q : SV → Ctx → Prop} (hF : FnK P f k args0 pre Q) (l : List Nat) {args : List SV} {kk : Nat} {st : St} {K : Sl (SV × St)}
    (hargs : mapHL (muL l st.ctx.length) args0 = args) (hmap : ctxMap (muL l st.ctx.length) st.ctx l pre) (hnd : l.Nodup) (hrw : newRw k pre) (hfix : (l.drop k).all (fun g => decide (kk ≤ g)) = true) (hclean : cleanC (l.drop k) (upds l pre) 0 st.ctx)
    (hK : ∀ z c, Q z c → K.f (z.mapH (muL l st.ctx.length), ⟨maskE (l.drop k) st.env, mergeC (muL l st.ctx.length) l pre c st.ctx⟩)) : XCalls P f args kk st K := by
  refine XCall.of hF l hargs.symm hmap (.inr hnd) hrw hfix (.inr hnd) hclean ?_
  exact hK
theorem xguard_on {P : Program} {te : TE} {wr : Bool} {nt : Nat} {pt : PT} {st : St} {K : Sl St} {d : Tmp} {want : Bool} {o : Oper} (h : look st.env d = .b want) : xguard true P te wr nt pt (some d) want st o K = XOs P te wr nt pt false true st o K := by
  rw [xguard_t, h, guardC_b]
  cases want <;> simp
theorem xguard_no {P : Program} {te : TE} {wr : Bool} {nt : Nat} {pt : PT} {st : St} {K : Sl St} {d : Tmp} {want : Bool} {o : Oper} (h : look st.env d = .b (!want)) : xguard true P te wr nt pt (some d) want st o K = putSs nt st o.dst (.gd false (.b false)) K := by
  rw [xguard_t, h, guardC_b]
  cases want <;> simp
theorem xguard_g0 {P : Program} {te : TE} {wr : Bool} {nt : Nat} {pt : PT} {st : St} {K : Sl St} {d : Tmp} {want : Bool} {o : Oper} (h : look st.env d = .gd false (.b false)) : xguard true P te wr nt pt (some d) want st o K = putSs nt st o.dst (.gd false (.b false)) K := by
  rw [xguard_t, h, guardC_gd]
  simp
/-- The reader's objects. -/
def rdC (s : Bs) (r : Rd) (fr : Bool) (la : Int) : Ctx := [some (.blk false [.s s, .i .i64 (r.pos : Nat), .slc 1 0 r.ev.length, .slc 2 0 r.ev.length, .mp 3, .slc 4 0 r.hd.length, .i .i64 (r.dp : Nat), .i .i64 r.cd, .i .i64 (r.pl : Nat), .b fr, .i .i64 la]), some (.row false 8 r.ev.length (rowE evc evz r.ev)), some (.row false 1 r.ev.length (rowE booc false r.dn)), some (.mapS (nmI r.ev r.bs)), some (.row false 2 r.hd.length (rowE hdc hdz r.hd))]
/-- A method that brings the reader from one state to another and tells whether there is no fault. -/
def NodeC (P : Program) (f : FuncId) (s : Bs) (fr : Bool) (la : Int) (args : List SV) (r r' : Rd) : Prop := FnK P f 1 (.ptr 0 0 0 :: args) (rdC s r fr la) fun z c => z = .b (decide (r'.cd = 0)) ∧ c = rdC s r' fr la
end Go.Vg
namespace Go.Vg
open Go.Pl
/-- Rows of names. -/
def nac (e : Bs × Bool) : List SV := [.s e.1, .b e.2]
theorem getD_nac (a : List (Bs × Bool)) (i : Nat) : (a.map nac).getD i [.s [], .b false] = [.s (a.getD i ([], false)).1, .b (a.getD i ([], false)).2] := getD_map nac a i ([], false)
theorem rowE_na {a : List (Bs × Bool)} {i : Nat} : rowE nac ([], false) a i = [.s (a.getD i ([], false)).1, .b (a.getD i ([], false)).2] := id rfl
theorem rowH_na {μ : Nat → Nat} {r : Bool} {sz n : Nat} {a : List (Bs × Bool)} : SO.mapH μ (.row r sz n (rowE nac ([], false) a)) = .row r sz n (rowE nac ([], false) a) := rowH fun _ => rfl
theorem XRN : type_of% (And.intro @getD_nac (And.intro @rowE_na @rowH_na)) := And.intro @getD_nac (And.intro @rowE_na @rowH_na)
/-- The reference's reader. -/
def spC (s : Bs) (r : Rd) (a : Int) (pr : Int) : Ctx := [some (.blk false [.s s, .i .i64 a, .slc 1 0 r.ev.length, .i .i64 r.cd, .i .i64 (r.pl : Nat), .i .i64 (r.dp : Nat), .slc 2 0 (nmS r.ev r.dn r.bs).length, .slc 3 0 r.hd.length, .i .i64 pr]), some (.row false 8 r.ev.length (rowE evc evz r.ev)), some (.row false 2 (nmS r.ev r.dn r.bs).length (rowE nac ([], false) (nmS r.ev r.dn r.bs))), some (.row false 2 r.hd.length (rowE hdc hdz r.hd))]
/-- A method of the reference that brings the reader from one state to another; its place is told where there is no fault. -/
def NodeS (P : Program) (f : FuncId) (s : Bs) (args : List SV) (pr : Int) (r r' : Rd) : Prop := FnK P f 1 (.ptr 0 0 0 :: args) (spC s r (r.pos : Nat) pr) fun z c => ∃ (a pr' : Int), (r'.cd = 0 → a = ((r'.pos : Nat) : Int)) ∧ z = .tup [] ∧ c = spC s r' a pr'
end Go.Vg
end
section
set_option linter.unusedVariables false
set_option linter.unusedSimpArgs false
namespace Go.Pl
open Go.Vg (lookS updS)
set_option linter.unusedVariables false
set_option linter.unusedSimpArgs false
theorem getD_app {α : Type} {l m : List α} {i : Nat} {z : α} (h : i < l.length) : (l ++ m).getD i z = l.getD i z := by
  simp only [List.getD_eq_getElem?_getD, List.getElem?_append_left h]
theorem getD_last {α : Type} {l : List α} {x z : α} : (l ++ [x]).getD l.length z = x := by
  simp [List.getD_eq_getElem?_getD]
theorem anI_push {l : List Ev} {e : Ev} {b : Nat} (hb : b ≤ l.length) : anI (l ++ [e]) b = anI l b ++ (if e.anchor = [] then [] else [l.length]) := by
  unfold anI
  rw [List.length_append, List.length_singleton, List.range_succ, List.filter_append]
  congr 1
  · apply List.filter_congr
    intro i hi
    rw [getD_app (by simpa using hi)]
  · simp only [List.filter_cons, List.filter_nil, getD_last, decide_eq_true hb, Bool.true_and]
    by_cases h : e.anchor = []
    · simp [h]
    · simp [h]
theorem anI_mem {l : List Ev} {b i : Nat} (h : i ∈ anI l b) : b ≤ i ∧ i < l.length ∧ (l.getD i evz).anchor ≠ [] := by
  unfold anI at h
  rw [List.mem_filter] at h
  simp only [List.mem_range, Bool.and_eq_true, decide_eq_true_eq, Bool.not_eq_true', decide_eq_false_iff_not] at h
  exact ⟨h.2.1, h.1, h.2.2⟩
theorem foldl_congr' {α β : Type} {f g : β → α → β} : ∀ (l : List α) (b : β), (∀ x ∈ l, ∀ b, f b x = g b x) → l.foldl f b = l.foldl g b
  | [], b, _ => rfl
  | x :: r, b, h => by
    rw [List.foldl_cons, List.foldl_cons, h x (List.mem_cons_self ..)]
    exact foldl_congr' r _ fun y hy => h y (List.mem_cons_of_mem _ hy)
theorem nmI_push {l : List Ev} {e : Ev} {b : Nat} (hb : b ≤ l.length) : nmI (l ++ [e]) b = if e.anchor = [] then nmI l b else updS (nmI l b) e.anchor l.length := by
  unfold nmI
  rw [anI_push hb, List.foldl_append]
  have h1 : (anI l b).foldl (fun m i => updS m ((l ++ [e]).getD i evz).anchor (i : Int)) [] = (anI l b).foldl (fun m i => updS m (l.getD i evz).anchor (i : Int)) [] :=
    foldl_congr' _ _ fun i hi m => by rw [getD_app (anI_mem hi).2.1]
  rw [h1]
  by_cases h : e.anchor = []
  · rw [if_pos h, if_pos h]; rfl
  · rw [if_neg h, if_neg h]
    simp only [List.foldl_cons, List.foldl_nil, getD_last]
theorem nmS_push {l : List Ev} {d : List Bool} {e : Ev} {x : Bool} {b : Nat} (hb : b ≤ l.length) (hd : d.length = l.length) : nmS (l ++ [e]) (d ++ [x]) b = if e.anchor = [] then nmS l d b else nmS l d b ++ [(e.anchor, x)] := by
  unfold nmS
  rw [anI_push hb, List.map_append]
  have h1 : (anI l b).map (fun i => (((l ++ [e]).getD i evz).anchor, (d ++ [x]).getD i false)) = (anI l b).map (fun i => ((l.getD i evz).anchor, d.getD i false)) :=
    List.map_congr_left fun i hi => by rw [getD_app (anI_mem hi).2.1, getD_app (by rw [hd]; exact (anI_mem hi).2.1)]
  rw [h1]
  by_cases h : e.anchor = []
  · rw [if_pos h, if_pos h]; simp
  · rw [if_neg h, if_neg h]
    simp only [List.map_cons, List.map_nil, getD_last]
    rw [← hd, getD_last]
theorem lookS_updS' {α : Type} [DecidableEq α] (v : Int) : ∀ (l : List (α × Int)) (k k' : α), lookS (updS l k v) k' = if k = k' then some v else lookS l k'
  | [], k, k' => rfl
  | p :: r, k, k' => by
    simp only [updS]
    by_cases h : p.1 = k
    · rw [if_pos h]
      simp only [lookS]
      by_cases h2 : k = k'
      · rw [if_pos h2, if_pos h2]
      · rw [if_neg h2, if_neg h2, if_neg (by rw [h]; exact h2)]
    · rw [if_neg h]
      simp only [lookS, lookS_updS' v r k k']
      by_cases h2 : p.1 = k'
      · rw [if_pos h2, if_pos h2, if_neg (by rw [← h2]; exact fun e => h e.symm)]
      · rw [if_neg h2, if_neg h2]
/-- What the map of names says of a name. -/
theorem look_al {l : List Ev} {d : List Bool} {b : Nat} {name : Bs} : (lookS (nmI l b) name = none → alD l d b name = false) ∧ ∀ k, lookS (nmI l b) name = some k → 0 ≤ k ∧ k < l.length ∧ alD l d b name = d.getD k.toNat false := by
  unfold alD nmI nmS
  have key : ∀ (I : List Nat) (m : List (Bs × Int)) (x : Bool), (∀ i ∈ I, i < l.length) → ((lookS m name = none → x = false) ∧ ∀ k, lookS m name = some k → 0 ≤ k ∧ k < l.length ∧ x = d.getD k.toNat false) →
      ((lookS (I.foldl (fun m i => updS m (l.getD i evz).anchor (i : Int)) m) name = none → (I.map fun i => ((l.getD i evz).anchor, d.getD i false)).foldl (fun x p => if p.1 = name then p.2 else x) x = false) ∧ ∀ k, lookS (I.foldl (fun m i => updS m (l.getD i evz).anchor (i : Int)) m) name = some k → 0 ≤ k ∧ k < l.length ∧ (I.map fun i => ((l.getD i evz).anchor, d.getD i false)).foldl (fun x p => if p.1 = name then p.2 else x) x = d.getD k.toNat false) := by
    intro I
    induction I with
    | nil => intro m x _ h; exact h
    | cons i r ih =>
      intro m x hI h
      simp only [List.foldl_cons, List.map_cons]
      apply ih _ _ (fun j hj => hI j (List.mem_cons_of_mem _ hj))
      rw [lookS_updS']
      by_cases h9 : (l.getD i evz).anchor = name
      · rw [if_pos h9, if_pos h9]
        refine ⟨fun h => (by cases h), fun k hk => ?_⟩
        simp only [Option.some.injEq] at hk
        subst hk
        exact ⟨by omega, by have := hI i (List.mem_cons_self ..); omega, by simp⟩
      · rw [if_neg h9, if_neg h9]; exact h
  exact key (anI l b) [] false (fun i hi => (anI_mem hi).2.1) ⟨fun _ => rfl, fun k hk => by simp [lookS] at hk⟩
end Go.Pl
namespace Go.Pl
theorem isPr_lt {s : Bs} {p : Nat} (h : isPr s p = true) : p < s.length := by
  unfold isPr at h
  rcases of_decide_eq_true h with h1 | h1
  · exact byt_pos h1 (by decide)
  · exact byt_pos h1 (by decide)
theorem isPr_33 {s : Bs} {p : Nat} (h : isPr s p = true) (h2 : ¬ byt s p = 38) : byt s p = 33 := by
  unfold isPr at h
  rcases of_decide_eq_true h with h1 | h1
  · exact absurd h1 h2
  · exact h1
end Go.Pl
namespace Go.Pl
theorem bhd_no {g f : Bool} (h : (!g && !f) = true) : (g || f) = false := by cases g <;> cases f <;> simp_all
theorem bhd_yes {g f : Bool} (h : (!g && !f) = false) : (g || f) = true := by cases g <;> cases f <;> simp_all
end Go.Pl
namespace Go.Pl
theorem tgA_nn (s : Bs) (p : Nat) : 0 ≤ (tgA s p).2.1 := by
  unfold tgA; split <;> simp
theorem tgA_len (s : Bs) (p : Nat) : (tgA s p).1.length ≤ 60 := by
  unfold tgA; split
  · rename_i h
    simp only [sub, List.length_drop, List.length_take]; omega
  · simp
end Go.Pl
namespace Go.Pl
set_option linter.unusedVariables false
theorem anI_take {l : List Ev} {b m : Nat} (h : m ≤ l.length) : anI l b = anI (l.take m) b ++ ((List.range (l.length - m)).map (m + ·)).filter fun i => decide (b ≤ i) && !decide ((l.getD i evz).anchor = []) := by
  have e : l.length = m + (l.length - m) := by omega
  have hl : (l.take m).length = m := by rw [List.length_take]; omega
  unfold anI
  conv => lhs; rw [e, List.range_add, List.filter_append]
  rw [hl]
  congr 1
  apply List.filter_congr
  intro i hi
  have hi : i < m := by simpa using hi
  have : (l.take m).getD i evz = l.getD i evz := by
    simp only [List.getD_eq_getElem?_getD, List.getElem?_take]; rw [if_pos hi]
  rw [this]
theorem nmS_set {l : List Ev} {d : List Bool} {b k : Nat} (hk : k < l.length) (hb : b ≤ k) (hd : d.length = l.length) : nmS l (d.set k true) b = if (l.getD k evz).anchor = [] then nmS l d b else (nmS l d b).set (anI (l.take k) b).length ((l.getD k evz).anchor, true) := by
  have hother : ∀ i, i ≠ k → (d.set k true).getD i false = d.getD i false := fun i hi => by
    simp only [List.getD_eq_getElem?_getD, List.getElem?_set]; rw [if_neg (Ne.symm hi)]
  have e1 := anI_take (l := l) (b := b) (m := k + 1) hk
  have hlt : (l.take k).length = k := by rw [List.length_take]; omega
  have e2 : l.take (k + 1) = l.take k ++ [l.getD k evz] := by
    rw [List.take_add_one]; congr 1; simp [List.getD, hk]
  rw [e2, anI_push (by rw [hlt]; exact hb), hlt] at e1
  have hA : ∀ i ∈ anI (l.take k) b, i ≠ k := fun i hi h => by
    have := (anI_mem hi).2.1; rw [hlt] at this; omega
  have hR : ∀ i ∈ ((List.range (l.length - (k + 1))).map (k + 1 + ·)).filter (fun i => decide (b ≤ i) && !decide ((l.getD i evz).anchor = [])), i ≠ k := fun i hi h => by
    have := (List.mem_filter.1 hi).1
    obtain ⟨j, _, rfl⟩ := List.mem_map.1 this
    omega
  unfold nmS
  rw [e1]
  generalize ((List.range (l.length - (k + 1))).map (k + 1 + ·)).filter (fun i => decide (b ≤ i) && !decide ((l.getD i evz).anchor = [])) = R at *
  generalize anI (l.take k) b = A at *
  have mA : A.map (fun i => ((l.getD i evz).anchor, (d.set k true).getD i false)) = A.map (fun i => ((l.getD i evz).anchor, d.getD i false)) := List.map_congr_left fun i hi => by rw [hother i (hA i hi)]
  have mR : R.map (fun i => ((l.getD i evz).anchor, (d.set k true).getD i false)) = R.map (fun i => ((l.getD i evz).anchor, d.getD i false)) := List.map_congr_left fun i hi => by rw [hother i (hR i hi)]
  by_cases h : (l.getD k evz).anchor = []
  · rw [if_pos h, if_pos h, List.append_nil, List.map_append, List.map_append, mA, mR]
  · rw [if_neg h, if_neg h]
    simp only [List.map_append, List.map_cons, List.map_nil, mA, mR]
    have hkd : (d.set k true).getD k false = true := by
      simp [List.getD_eq_getElem?_getD, List.getElem?_set, hd, hk]
    rw [hkd, List.append_assoc, List.append_assoc, List.set_append_right _ _ (by simp)]
    simp
theorem nmS_close {l : List Ev} {d : List Bool} {b k : Nat} (hk : k < l.length) (hb : b ≤ k) (hd : d.length = l.length) : nmS (l ++ [evE]) ((d ++ [true]).set k true) b = if (l.getD k evz).anchor = [] then nmS l d b else (nmS l d b).set (anI (l.take k) b).length ((l.getD k evz).anchor, true) := by
  rw [List.set_append_left _ _ (by omega), nmS_push (l := l) (d := d.set k true) (e := evE) (x := true) (by omega) (by simp [hd]), if_pos (show evE.anchor = [] from rfl), nmS_set hk hb hd]
theorem nix_lt {l : List Ev} {d : List Bool} {b k : Nat} (hk : k < l.length) (hb : b ≤ k) (h : (l.getD k evz).anchor ≠ []) : (anI (l.take k) b).length < (nmS l d b).length := by
  have e1 := anI_take (l := l) (b := b) (m := k + 1) hk
  have hlt : (l.take k).length = k := by rw [List.length_take]; omega
  have e2 : l.take (k + 1) = l.take k ++ [l.getD k evz] := by
    rw [List.take_add_one]; congr 1; simp [List.getD, hk]
  rw [e2, anI_push (by rw [hlt]; exact hb), hlt, if_neg h] at e1
  unfold nmS
  rw [List.length_map, e1]
  simp only [List.length_append, List.length_singleton]
  omega
theorem nmS_le {l : List Ev} {d : List Bool} {b : Nat} : (nmS l d b).length ≤ l.length := by
  unfold nmS anI
  rw [List.length_map]
  have := List.length_filter_le (fun i => decide (b ≤ i) && !decide ((l.getD i evz).anchor = [])) (List.range l.length)
  simpa using this
end Go.Pl
namespace Go.Pl
theorem nix_at {l : List Ev} {d : List Bool} {b k : Nat} (hk : k < l.length) (hb : b ≤ k) (h : (l.getD k evz).anchor ≠ []) : (nmS l d b).getD (anI (l.take k) b).length ([], false) = ((l.getD k evz).anchor, d.getD k false) := by
  have e1 := anI_take (l := l) (b := b) (m := k + 1) hk
  have hlt : (l.take k).length = k := by rw [List.length_take]; omega
  have e2 : l.take (k + 1) = l.take k ++ [l.getD k evz] := by
    rw [List.take_add_one]; congr 1; simp [List.getD, hk]
  rw [e2, anI_push (by rw [hlt]; exact hb), hlt, if_neg h] at e1
  unfold nmS
  rw [e1]
  simp [List.getD_eq_getElem?_getD]
end Go.Pl
namespace Go.Pl
theorem by0 {s : Bs} {p : Nat} {c : Int} (h : 0 < c) : ((if byt s p < 0 then (0 : Int) else byt s p) = c) = (byt s p = c) := by
  apply propext
  by_cases h1 : byt s p < 0
  · rw [if_pos h1]; omega
  · rw [if_neg h1]
theorem alD_step {l : List Ev} {d : List Bool} {b : Nat} {name : Bs} {x : Bool} {i : Nat} (h : i < (nmS l d b).length) : ((nmS l d b).drop i).foldl (fun x p => if p.1 = name then p.2 else x) x = ((nmS l d b).drop (i + 1)).foldl (fun x p => if p.1 = name then p.2 else x) (if ((nmS l d b).getD i ([], false)).1 = name then ((nmS l d b).getD i ([], false)).2 else x) := by
  have e : (nmS l d b).getD i ([], false) = (nmS l d b)[i] := by simp [List.getD, h]
  rw [List.drop_eq_getElem_cons h, List.foldl_cons, e]
end Go.Pl
end
section
set_option linter.unusedVariables false
set_option linter.unusedSimpArgs false
namespace Go.Pl
open Go.Vg (lookS updS)
set_option linter.unusedVariables false
set_option linter.unusedSimpArgs false
structure Ok (s : Bs) (r : Rd) : Prop where
  cd : r.cd = 0
  pos : r.pos ≤ s.length
  dn : r.dn.length = r.ev.length
  bs : r.bs ≤ r.ev.length
  dp : r.dp ≤ 40
  sz : r.ev.length ≤ 8 * r.pos + 64
  hd : r.hd.length ≤ 1048576
  pf : ∀ h ∈ r.hd, h.pre.length ≤ 1048576
/-- From one state to a later one, behind a node. -/
structure Stp (s : Bs) (r r' : Rd) : Prop where
  ok : Ok s r'
  lt : r.pos < r'.pos
  pre : r.ev <+: r'.ev
  hd : r'.hd = r.hd
  bs : r'.bs = r.bs
  dp : r'.dp = r.dp
  pot : r'.ev.length + 8 * r.pos ≤ r.ev.length + 8 * r'.pos
theorem Ok.size {s : Bs} {r : Rd} (h : Ok s r) (hs : s.length ≤ 1048576) : r.ev.length ≤ 8388672 := by
  have := h.sz; have := h.pos; omega
theorem Ok.at {s : Bs} {r : Rd} {q : Nat} (h : Ok s r) (h1 : r.pos ≤ q) (h2 : q ≤ s.length) : Ok s (atR r q) :=
  ⟨h.cd, h2, h.dn, h.bs, h.dp, by have := h.sz; simp only [atR]; omega, h.hd, h.pf⟩
theorem stopR_ok {s : Bs} {r : Rd} (h : (stopR s r).cd = 0) : stopR s r = r ∧ r.pos < s.length ∧ mkA s r.pos = 0 := by
  unfold stopR at h ⊢
  split
  · rename_i h1; rw [if_pos h1] at h; simp [flt] at h
  · rename_i h1
    rw [if_neg h1] at h
    split
    · rename_i h2; rw [if_pos h2] at h; simp [flt] at h
    · rename_i h2; exact ⟨rfl, by omega, by simpa using h2⟩
theorem gapR_ok {s : Bs} {r : Rd} (h : (gapR s r).cd = 0) : gapR s r = atR r (gpE s r.pos) ∧ gpE s r.pos < s.length := by
  have := stopR_ok (s := s) (r := atR r (gpE s r.pos)) h
  exact ⟨this.1, this.2.1⟩
theorem Ok.gap {s : Bs} {r : Rd} (h : Ok s r) (hg : (gapR s r).cd = 0) : Ok s (gapR s r) := by
  rw [(gapR_ok hg).1]
  exact h.at (gpE_ge s r.pos) (gpE_le s r.pos h.pos)
theorem prs_place {s : Bs} {hd : List Hd} {fl : Bool} {pos : Nat} {p : Pp} (hl : pos ≤ s.length) :
    pos ≤ (prs s hd fl pos p).1 ∧ (prs s hd fl pos p).1 ≤ s.length ∧ ((prs s hd fl pos p).2.2 = 0 → (prs s hd fl pos p).2.1.has = true → p.has = true ∨ pos < (prs s hd fl pos p).1) ∧ (p.has = true → (prs s hd fl pos p).2.2 = 0 → (prs s hd fl pos p).2.1.has = true) := by
  fun_induction prs s hd fl pos p with
  | case1 pos p h ih =>
    have h1 := prA_place hl h.2
    have h2 := nxP_place (s := s) (fl := fl) h1.2.1
    have h3 := ih h2.2
    refine ⟨by omega, h3.2.1, fun _ _ => .inr (by omega), fun _ h0 => h3.2.2.2 h1.2.2 h0⟩
  | case2 pos p h =>
    simp only
    refine ⟨Nat.le_refl _, hl, ?_, ?_⟩
    · split
      · rename_i h1
        intro h2 h3
        exact absurd ⟨h1, h2⟩ h
      · intro _ h3; exact .inl h3
    · split
      · rename_i h1
        intro _ h2
        exact absurd ⟨h1, h2⟩ h
      · intro h3 _; exact h3
theorem prR_ok {s : Bs} {fl : Bool} {r : Rd} (hl : r.pos ≤ s.length) (h0 : r.cd = 0) (h : (prR s fl r).cd = 0) : ∃ q, prR s fl r = atR r q ∧ r.pos ≤ q ∧ q ≤ s.length ∧ ((prP s fl r).has = true → r.pos < q) ∧ (prs s r.hd fl r.pos (ppz r.pos)).2.2 = 0 := by
  have hp := prs_place (s := s) (hd := r.hd) (fl := fl) (p := ppz r.pos) hl
  unfold prR at h ⊢
  split
  · rename_i h1
    refine ⟨_, rfl, hp.1, hp.2.1, fun h2 => ?_, h1⟩
    rcases hp.2.2.1 h1 h2 with h3 | h3
    · cases h3
    · exact h3
  · rename_i h1
    rw [if_neg h1] at h
    exact absurd h h1
theorem prF_ok {s : Bs} {r : Rd} (hl : r.pos ≤ s.length) (h0 : r.cd = 0) (h : (prF s r).cd = 0) : ∃ q, prF s r = atR r q ∧ r.pos ≤ q ∧ q ≤ s.length ∧ ((prP s true r).has = true → r.pos < q) := by
  unfold prF at h ⊢
  split
  · rename_i h1
    rw [if_pos h1] at h
    obtain ⟨q, e, h2, h3, h4, _⟩ := prR_ok hl h0 h1.1
    rw [(stopR_ok h).1]
    exact ⟨q, e, h2, h3, h4⟩
  · rename_i h1
    rw [if_neg h1] at h
    obtain ⟨q, e, h2, h3, h4, _⟩ := prR_ok hl h0 h
    exact ⟨q, e, h2, h3, h4⟩
theorem Ok.prF {s : Bs} {r : Rd} (h : Ok s r) (hf : (prF s r).cd = 0) : Ok s (prF s r) := by
  obtain ⟨q, e, h2, h3, _⟩ := prF_ok h.pos h.cd hf
  rw [e]; exact h.at h2 h3
/-- An event more, at a later place. -/
def putR (r : Rd) (e : Ev) (q : Nat) : Rd := atR (tellR r e true) q
theorem Ok.put {s : Bs} {r : Rd} {e : Ev} {q : Nat} (h : Ok s r) (h1 : r.pos < q ∨ r.ev.length + 1 ≤ 8 * r.pos + 64 ∧ r.pos ≤ q) (h2 : q ≤ s.length) : Ok s (putR r e q) :=
  ⟨h.cd, h2, by simp [putR, atR, tellR, h.dn], by simp only [putR, atR, tellR, List.length_append]; have := h.bs; omega, h.dp, by simp only [putR, atR, tellR, List.length_append, List.length_singleton]; have := h.sz; omega, h.hd, h.pf⟩
theorem qtA_place {s : Bs} {p : Nat} (hb : isQu (byt s p) = true) (h0 : (qtA s p).2.2 = 0) : p + 1 < (qtA s p).2.1 ∧ (qtA s p).2.1 ≤ s.length := by
  have hl : p ≤ s.length := by
    unfold isQu at hb
    simp only [Bool.or_eq_true, beq_iff_eq] at hb
    rcases hb with h | h
    · exact Nat.le_of_lt (byt_pos h (by decide))
    · exact Nat.le_of_lt (byt_pos h (by decide))
  unfold qtA at h0 ⊢
  split
  · rename_i h1; rw [if_pos h1] at h0
    have := dbA_place hl
    have := this.2.2 h0
    omega
  · rename_i h1; rw [if_neg h1] at h0
    have := sgA_place hl
    have := this.2.2 h0
    omega
end Go.Pl
namespace Go.Pl
theorem pfA_parts {s : Bs} {p : Nat} {fl : Bool} (h : pfA s p fl = true) : gap s p = false ∧ ¬ s.getD p 0 ∈ pfL ∧ (byt s p = 58 → gap s (p + 1) = false ∧ ¬ (fl = true ∧ flw (byt s (p + 1)) = true)) := by
  unfold pfA at h
  simp only [Bool.and_eq_true, Bool.not_eq_true', decide_eq_false_iff_not] at h
  refine ⟨h.1.1, h.1.2, fun h2 => ?_⟩
  have h3 := h.2
  simp only [h2, decide_true, Bool.or_true, Bool.not_true, Bool.false_or, Bool.and_eq_true, Bool.not_eq_true', Bool.and_eq_false_iff] at h3
  refine ⟨h3.1, fun h4 => ?_⟩
  rcases h3.2 with h5 | h5
  · rw [h4.1] at h5; cases h5
  · rw [h4.2] at h5; cases h5
theorem pfL_flw {s : Bs} {p : Nat} (hl : p < s.length) (h : ¬ s.getD p 0 ∈ pfL) : flw (byt s p) = false := by
  rw [byt_lt hl]
  unfold flw
  generalize s.getD p 0 = c at h ⊢
  have h1 : ∀ n : Nat, n < 256 → (UInt8.ofNat n) ∈ pfL → ¬ (c.toNat : Int) = n := fun n hn hm he => by
    rw [u8_eq hn] at he; rw [he] at h; exact h hm
  have a := h1 44 (by decide) (by decide)
  have b := h1 91 (by decide) (by decide)
  have d := h1 93 (by decide) (by decide)
  have e := h1 123 (by decide) (by decide)
  have f := h1 125 (by decide) (by decide)
  simp only [Int.cast_ofNat_Int] at a b d e f
  simp [a, b, d, e, f]
theorem plE_gt {s : Bs} {p : Nat} {fl : Bool} (h : pfA s p fl = true) : p < plE s p fl := by
  obtain ⟨h1, h2, h3⟩ := pfA_parts h
  have hl := gap_not h1
  have hB : isB s p = false := by unfold gap at h1; rw [Bool.or_eq_false_iff] at h1; exact h1.2
  have hW : isW s p = false := by unfold gap at h1; rw [Bool.or_eq_false_iff] at h1; exact h1.1
  have hX : peX s p fl p = false := by
    unfold peX
    rw [pfL_flw hl h2]
    simp only [Nat.lt_irrefl, decide_false, Bool.and_false, Bool.false_and, Bool.false_or, Bool.or_false]
    by_cases h58 : byt s p = 58
    · have := h3 h58
      rw [this.1, decide_eq_true h58]
      cases fl
      · rfl
      · cases hf : flw (byt s (p + 1))
        · rfl
        · exact absurd ⟨rfl, hf⟩ this.2
    · rw [decide_eq_false h58]; rfl
  have h4 : p + 1 ≤ pe1 s p fl p := by rw [pe1_t ⟨hB, hX⟩]; exact pe1_ge s p fl (p + 1)
  unfold plE
  have key : ∀ q, p < q → p < bkW s p q := by
    intro q
    induction q with
    | zero => omega
    | succ q ih =>
      intro hq
      unfold bkW
      split
      · rename_i h5
        rcases Nat.lt_or_ge p q with h6 | h6
        · exact ih h6
        · obtain rfl : p = q := by omega
          rw [hW] at h5; cases h5.2
      · exact hq
  exact key _ h4
theorem plA_place (s : Bs) (e : Nat) (n : Int) (fl : Bool) (L : List Pc) (h : e ≤ s.length) : e ≤ (plA s e n fl L).2 ∧ (plA s e n fl L).2 ≤ s.length := by
  fun_induction plA s e n fl L with
  | case1 e L h1 ih =>
    have h2 := nxA_place h1
    have h3 := plE_le s (nxA s e n fl).1 fl h2.2.1
    have := ih h3
    omega
  | case2 e L h1 => exact ⟨Nat.le_refl _, h⟩
theorem ptA_place {s : Bs} {p : Nat} {n : Int} {fl : Bool} (h : pfA s p fl = true) : p < (ptA s p n fl).2.1 ∧ (ptA s p n fl).2.1 ≤ s.length := by
  have h1 := plE_gt h
  have h2 := plE_le s p fl (Nat.le_of_lt (gap_not (pfA_parts h).1))
  have h3 := plA_place s (plE s p fl) n fl [⟨sub s p (plE s p fl), false⟩] h2
  unfold ptA
  rw [if_pos h]
  simp only; omega
/-- What a scalar or alias leaves. -/
theorem scR_ok {s : Bs} {r : Rd} {p : Pp} {c1 c2 : Int} (hl : r.pos ≤ s.length) (h0 : r.cd = 0) (h : (scR s r p c1 c2).cd = 0) : ∃ e q, scR s r p c1 c2 = putR r e q ∧ r.pos ≤ q ∧ q ≤ s.length ∧ (p.has = false → r.pos < q) := by
  unfold scR at h ⊢
  split
  · rename_i h1
    rw [if_pos h1] at h
    unfold alR at h ⊢
    split
    · rename_i h2; rw [if_pos h2] at h; simp [flt] at h
    · rename_i h2; rw [if_neg h2] at h
      have hp := nmA_sign (by simpa using h2)
      split
      · rename_i h3; rw [if_pos h3] at h; simp [flt] at h
      · rename_i h3; rw [if_neg h3] at h
        split
        · exact ⟨_, _, rfl, by omega, by omega, fun _ => by omega⟩
        · rename_i h4; rw [if_neg h4] at h; simp [flt] at h
  · rename_i h1
    rw [if_neg h1] at h
    split
    · rename_i h2
      rw [if_pos h2] at h
      unfold qtR at h ⊢
      split
      · rename_i h3
        rw [if_pos h3] at h
        exact absurd h h3
      · rename_i h3
        have := qtA_place h2 (by simpa using h3)
        exact ⟨_, _, rfl, by omega, this.2, fun _ => by omega⟩
    · rename_i h2
      rw [if_neg h2] at h
      split
      · rename_i h3
        have := ptA_place (n := -1) h3
        exact ⟨_, _, rfl, by omega, this.2, fun _ => this.1⟩
      · rename_i h3
        rw [if_neg h3] at h
        split
        · rename_i h4
          exact ⟨evT 1 [] p.an p.tg, r.pos, rfl, Nat.le_refl _, hl, fun h5 => by rw [h5] at h4; cases h4.1⟩
        · rename_i h4; rw [if_neg h4] at h; simp [flt] at h
theorem opR_ok {r : Rd} {k st : Int} {p : Pp} {sg : Nat} (h : (opR r k st p sg).cd = 0) : opR r k st p sg = { tellR r (evO k st p.an p.tg) false with dp := r.dp + 1 } ∧ r.dp < 40 := by
  unfold opR at h ⊢
  split
  · rename_i h1; rw [if_pos h1] at h; simp [flt] at h
  · exact ⟨rfl, by omega⟩
theorem cmR_ok {s : Bs} {r : Rd} {c : Int} (hl : r.pos ≤ s.length) (h : (cmR s r c).cd = 0) : ∃ q, cmR s r c = atR r q ∧ r.pos ≤ q ∧ q ≤ s.length := by
  unfold cmR at h ⊢
  split
  · rename_i h1; exact ⟨r.pos + 1, rfl, by omega, byt_pos h1 (by decide)⟩
  · rename_i h1
    rw [if_neg h1] at h
    split
    · exact ⟨r.pos, rfl, Nat.le_refl _, hl⟩
    · rename_i h2; rw [if_neg h2] at h; simp [flt] at h
end Go.Pl
namespace Go.Pl
set_option linter.unusedVariables false
theorem clL_gap {s : Bs} {it : Rd → Rd} {c : Int} {k : Nat} {r : Rd} (h : (gapR s r).cd ≠ 0) : clL s it c k r = gapR s r := by rw [clL, if_pos h]
theorem clL_end {s : Bs} {it : Rd → Rd} {c : Int} {k : Nat} {r : Rd} (h : (gapR s r).cd = 0) (h2 : byt s (gapR s r).pos = c) : clL s it c k r = shR (atR (gapR s r) ((gapR s r).pos + 1)) k := by
  rw [clL, if_neg (by simpa using h), if_pos h2]
theorem clL_it {s : Bs} {it : Rd → Rd} {c : Int} {k : Nat} {r : Rd} (h : (gapR s r).cd = 0) (h2 : ¬ byt s (gapR s r).pos = c) (h3 : (it (gapR s r)).cd ≠ 0) : clL s it c k r = it (gapR s r) := by
  rw [clL, if_neg (by simpa using h), if_neg h2, if_pos h3]
theorem clL_g2 {s : Bs} {it : Rd → Rd} {c : Int} {k : Nat} {r : Rd} (h : (gapR s r).cd = 0) (h2 : ¬ byt s (gapR s r).pos = c) (h3 : (it (gapR s r)).cd = 0) (h4 : (gapR s (it (gapR s r))).cd ≠ 0) : clL s it c k r = gapR s (it (gapR s r)) := by
  rw [clL, if_neg (by simpa using h), if_neg h2, if_neg (by simpa using h3), if_pos h4]
theorem clL_cm {s : Bs} {it : Rd → Rd} {c : Int} {k : Nat} {r : Rd} (h : (gapR s r).cd = 0) (h2 : ¬ byt s (gapR s r).pos = c) (h3 : (it (gapR s r)).cd = 0) (h4 : (gapR s (it (gapR s r))).cd = 0) (h5 : (cmR s (gapR s (it (gapR s r))) c).cd ≠ 0) : clL s it c k r = cmR s (gapR s (it (gapR s r))) c := by
  rw [clL, if_neg (by simpa using h), if_neg h2, if_neg (by simpa using h3), if_neg (by simpa using h4), dif_neg (fun h => h5 h.1)]
theorem clL_go {s : Bs} {it : Rd → Rd} {c : Int} {k : Nat} {r : Rd} (h : (gapR s r).cd = 0) (h2 : ¬ byt s (gapR s r).pos = c) (h3 : (it (gapR s r)).cd = 0) (h4 : (gapR s (it (gapR s r))).cd = 0) (h5 : (cmR s (gapR s (it (gapR s r))) c).cd = 0 ∧ r.pos < (cmR s (gapR s (it (gapR s r))) c).pos ∧ r.pos < s.length) : clL s it c k r = clL s it c k (cmR s (gapR s (it (gapR s r))) c) := by
  conv => lhs; rw [clL, if_neg (by simpa using h), if_neg h2, if_neg (by simpa using h3), if_neg (by simpa using h4), dif_pos h5]
/-- What an item does. -/
def ItOk (s : Bs) (D : Nat) (it : Rd → Rd) : Prop := ∀ r, Ok s r → r.dp = D → (it r).cd = 0 → Stp s r (it r)
/-- One round of a collection. -/
theorem cl_round {s : Bs} {it : Rd → Rd} {c : Int} {D : Nat} {r : Rd} (hit : ItOk s D it) (ho : Ok s r) (hd : r.dp = D) (h : (gapR s r).cd = 0) (h3 : (it (gapR s r)).cd = 0) (h4 : (gapR s (it (gapR s r))).cd = 0) (h5 : (cmR s (gapR s (it (gapR s r))) c).cd = 0) : Stp s r (cmR s (gapR s (it (gapR s r))) c) := by
  have hg := gapR_ok h
  have ho1 := ho.gap h
  have hs := hit _ ho1 (by rw [hg.1]; exact hd) h3
  have ho2 := hs.ok.gap h4
  have hg2 := gapR_ok h4
  obtain ⟨q, e, h6, h7⟩ := cmR_ok ho2.pos h5
  have e1 : (gapR s r).pos = gpE s r.pos := by rw [hg.1]; rfl
  have e2 : (gapR s r).ev = r.ev := by rw [hg.1]; rfl
  have e3 : (gapR s r).hd = r.hd := by rw [hg.1]; rfl
  have e4 : (gapR s r).bs = r.bs := by rw [hg.1]; rfl
  have e5 : (gapR s r).dp = r.dp := by rw [hg.1]; rfl
  have h8 := gpE_ge s r.pos
  have hlt := hs.lt
  have hpre := hs.pre
  have hpot := hs.pot
  have hhd := hs.hd
  have hbs := hs.bs
  have hdp := hs.dp
  have hok := hs.ok
  rw [e, hg2.1]
  rw [hg2.1] at h6
  generalize it (gapR s r) = t at *
  have h9 := gpE_ge s t.pos
  rw [e2] at hpre
  simp only [atR] at h6
  exact ⟨hok.at (by omega) h7, by simp only [atR]; omega, hpre, hhd.trans e3, hbs.trans e4, hdp.trans e5, by simp only [atR]; rw [e2] at hpot; omega⟩
structure Clo (s : Bs) (r r' : Rd) : Prop where
  ok : Ok s r'
  lt : r.pos < r'.pos
  pre : r.ev <+: r'.ev
  hd : r'.hd = r.hd
  bs : r'.bs = r.bs
  dp : r'.dp + 1 = r.dp
  pot : r'.ev.length + 8 * r.pos ≤ r.ev.length + 8 * r'.pos
theorem clL_ok {s : Bs} {it : Rd → Rd} {c : Int} {D : Nat} (hc : 0 ≤ c) (hit : ItOk s D it) (hD : 1 ≤ D) : ∀ (n : Nat) (k : Nat) (r : Rd), s.length - r.pos = n → Ok s r → r.dp = D → k < r.ev.length → (clL s it c k r).cd = 0 → Clo s r (clL s it c k r) := by
  intro n
  induction n using Nat.strongRecOn with
  | ind n ih =>
  intro k r hn ho hd hk hz
  by_cases h : (gapR s r).cd = 0
  · by_cases h2 : byt s (gapR s r).pos = c
    · rw [clL_end h h2] at hz ⊢
      have hg := gapR_ok h
      have h8 := gpE_ge s r.pos
      have hp := byt_pos h2 hc
      rw [hg.1] at hp ⊢
      have hpp := ho.sz
      simp only [atR] at hp
      refine ⟨⟨ho.cd, ?_, ?_, ?_, ?_, ?_, ho.hd, ho.pf⟩, ?_, ?_, rfl, rfl, ?_, ?_⟩
      · simp only [shR, atR]; omega
      · simp [shR, atR, ho.dn]
      · simp only [shR, atR, List.length_append]; have := ho.bs; omega
      · simp only [shR, atR]; have := ho.dp; omega
      · simp only [shR, atR, List.length_append, List.length_singleton]; omega
      · simp only [shR, atR]; omega
      · exact List.prefix_append _ _
      · simp only [shR, atR]; omega
      · simp only [shR, atR, List.length_append, List.length_singleton]; omega
    · by_cases h3 : (it (gapR s r)).cd = 0
      · by_cases h4 : (gapR s (it (gapR s r))).cd = 0
        · by_cases h5 : (cmR s (gapR s (it (gapR s r))) c).cd = 0
          · have hst := cl_round hit ho hd h h3 h4 h5
            have hl : r.pos < s.length := by have := hst.lt; have := hst.ok.pos; omega
            rw [clL_go h h2 h3 h4 ⟨h5, hst.lt, hl⟩] at hz ⊢
            have hr := ih (s.length - (cmR s (gapR s (it (gapR s r))) c).pos) (by have := hst.lt; omega) k _ rfl hst.ok (by rw [hst.dp]; exact hd) (by have := hst.pre.length_le; omega) hz
            exact ⟨hr.ok, by have := hst.lt; have := hr.lt; omega, hst.pre.trans hr.pre, hr.hd.trans hst.hd, hr.bs.trans hst.bs, by have := hr.dp; have := hst.dp; omega, by have := hr.pot; have := hst.pot; have := hst.lt; have := hr.lt; omega⟩
          · rw [clL_cm h h2 h3 h4 h5] at hz; exact absurd hz h5
        · rw [clL_g2 h h2 h3 h4] at hz; exact absurd hz h4
      · rw [clL_it h h2 h3] at hz; exact absurd hz h3
  · rw [clL_gap h] at hz; exact absurd hz h
theorem coR_ok {s : Bs} {it : Rd → Rd} {c k : Int} {r : Rd} {p : Pp} (hc : 0 ≤ c) (hl : r.pos < s.length) (ho : Ok s r) (hit : r.dp < 40 → ItOk s (r.dp + 1) it) (hz : (coR s it c k r p).cd = 0) : Stp s r (coR s it c k r p) := by
  unfold coR at hz ⊢
  split
  · rename_i h; rw [if_pos h] at hz; exact absurd hz h
  · rename_i h
    rw [if_neg h] at hz
    obtain ⟨e, hd⟩ := opR_ok (show (opR r k 6 p r.pos).cd = 0 by simpa using h)
    have hsz := ho.sz
    have hok : Ok s (atR (opR r k 6 p r.pos) (r.pos + 1)) := by
      rw [e]
      refine ⟨ho.cd, hl, by simp [atR, tellR, ho.dn], by simp only [atR, tellR, List.length_append]; have := ho.bs; omega, by simp only [atR]; omega, by simp only [atR, tellR, List.length_append, List.length_singleton]; omega, ho.hd, ho.pf⟩
    have hr := clL_ok hc (hit hd) (by omega) _ r.ev.length _ rfl hok (by rw [e]; rfl) (by rw [e]; simp [atR, tellR]) hz
    have hlt := hr.lt
    have hpre := hr.pre
    have hpot := hr.pot
    have hhd := hr.hd
    have hbs := hr.bs
    have hdp := hr.dp
    have hok2 := hr.ok
    have e1 : (atR (opR r k 6 p r.pos) (r.pos + 1)).pos = r.pos + 1 := rfl
    have e2 : (atR (opR r k 6 p r.pos) (r.pos + 1)).ev = r.ev ++ [evO k 6 p.an p.tg] := by rw [e]; rfl
    have e3 : (atR (opR r k 6 p r.pos) (r.pos + 1)).hd = r.hd := by rw [e]; rfl
    have e4 : (atR (opR r k 6 p r.pos) (r.pos + 1)).bs = r.bs := by rw [e]; rfl
    have e5 : (atR (opR r k 6 p r.pos) (r.pos + 1)).dp = r.dp + 1 := by rw [e]; rfl
    generalize clL s it c r.ev.length (atR (opR r k 6 p r.pos) (r.pos + 1)) = r' at *
    rw [e2] at hpre
    rw [e2, List.length_append, List.length_singleton] at hpot
    exact ⟨hok2, by omega, (List.prefix_append _ _).trans hpre, hhd.trans e3, hbs.trans e4, by omega, by omega⟩
end Go.Pl
namespace Go.Pl
set_option linter.unusedVariables false
theorem Stp.at0 {s : Bs} {r r' : Rd} {q : Nat} (h : Stp s (atR r q) r') (h1 : r.pos ≤ q) : Stp s r r' :=
  ⟨h.ok, by have := h.lt; simp only [atR] at this; omega, h.pre, h.hd, h.bs, h.dp, by have := h.pot; have := h.lt; simp only [atR] at *; omega⟩
theorem stp_put {s : Bs} {r : Rd} {e : Ev} {q q2 : Nat} (ho : Ok s r) (h1 : r.pos < q2) (h2 : q2 ≤ s.length) : Stp s r (putR (atR r q) e q2) :=
  ⟨⟨ho.cd, h2, by simp [putR, atR, tellR, ho.dn], by simp only [putR, atR, tellR, List.length_append]; have := ho.bs; omega, ho.dp, by simp only [putR, atR, tellR, List.length_append, List.length_singleton]; have := ho.sz; omega, ho.hd, ho.pf⟩, h1, List.prefix_append _ _, rfl, rfl, rfl, by simp only [putR, atR, tellR, List.length_append, List.length_singleton]; omega⟩
theorem noR_ok {s : Bs} {sb : Rd → Rd} {r : Rd} (ho : Ok s r) (hit : r.dp < 40 → ItOk s (r.dp + 1) sb) (hpa : r.dp < 40 → ItOk s (r.dp + 1) (paR s sb)) (hz : (noR s sb r).cd = 0) : Stp s r (noR s sb r) := by
  unfold noR at hz ⊢
  split
  · rename_i h; rw [if_pos h] at hz; exact absurd hz h
  · rename_i h
    rw [if_neg h] at hz
    obtain ⟨q, e, h1, h2, h3⟩ := prF_ok ho.pos ho.cd (show (prF s r).cd = 0 by simpa using h)
    rw [e] at hz ⊢
    have ho1 := ho.at h1 h2
    unfold boR at hz ⊢
    split
    · rename_i h4
      rw [if_pos h4] at hz
      exact (coR_ok (by decide) (byt_pos h4 (by decide)) ho1 hit hz).at0 h1
    · rename_i h4
      rw [if_neg h4] at hz
      split
      · rename_i h5
        rw [if_pos h5] at hz
        exact (coR_ok (by decide) (byt_pos h5 (by decide)) ho1 hpa hz).at0 h1
      · rename_i h5
        rw [if_neg h5] at hz
        obtain ⟨ev, q2, e2, h6, h7, h8⟩ := scR_ok ho1.pos ho1.cd hz
        rw [e2]
        have h9 : r.pos < q2 := by
          cases hh : (prP s true r).has
          · have := h8 hh; simp only [atR] at this; omega
          · have := h3 hh; simp only [atR] at h6; omega
        exact stp_put ho h9 h7
theorem paR_ok {s : Bs} {sb : Rd → Rd} {r : Rd} (ho : Ok s r) (hit : ItOk s r.dp sb) (hz : (paR s sb r).cd = 0) : Stp s r (paR s sb r) := by
  unfold paR at hz ⊢
  split
  · rename_i h; rw [if_pos h] at hz; exact absurd hz h
  · rename_i h
    rw [if_neg h] at hz
    obtain ⟨q, e, h1, h2, h3⟩ := prF_ok ho.pos ho.cd (show (prF s r).cd = 0 by simpa using h)
    generalize hb : isQu (byt s (prF s r).pos) = qu at *
    rw [e] at hz ⊢
    have ho1 := ho.at h1 h2
    split
    · rename_i h4; rw [if_pos h4] at hz; exact absurd hz h4
    · rename_i h4
      rw [if_neg h4] at hz
      obtain ⟨ev, q2, e2, h6, h7, h8⟩ := scR_ok ho1.pos ho1.cd (show (scR s (atR r q) (prP s true r) 125 58).cd = 0 by simpa using h4)
      have h9 : r.pos < q2 := by
        cases hh : (prP s true r).has
        · have := h8 hh; simp only [atR] at this; omega
        · have := h3 hh; simp only [atR] at h6; omega
      rw [e2] at hz ⊢
      have hs2 := stp_put (q := q) (e := ev) ho h9 h7
      split
      · rename_i h10; rw [if_pos h10] at hz; exact absurd hz h10
      · rename_i h10
        rw [if_neg h10] at hz
        have hg := gapR_ok (show (gapR s (putR (atR r q) ev q2)).cd = 0 by simpa using h10)
        have hg1 := gpE_ge s q2
        have hg2 : gpE s q2 < s.length := hg.2
        have e3 : gapR s (putR (atR r q) ev q2) = putR (atR r q) ev (gpE s q2) := hg.1
        rw [e3] at hz ⊢
        have T2 : ∀ q4, r.pos < q4 → q4 ≤ s.length → Stp s r (textR (putR (atR r q) ev q4) 1 [] [] []) := fun q4 hq4 hq5 =>
          ⟨⟨ho.cd, hq5, by simp [putR, atR, tellR, textR, ho.dn], by simp only [putR, atR, tellR, textR, List.length_append]; have := ho.bs; omega, ho.dp, by simp only [putR, atR, tellR, textR, List.length_append, List.length_singleton]; have := ho.sz; omega, ho.hd, ho.pf⟩, hq4, (List.prefix_append _ _).trans (List.prefix_append _ _), rfl, rfl, rfl, by simp only [putR, atR, tellR, textR, List.length_append, List.length_singleton]; omega⟩
        unfold paK at hz ⊢
        split
        · rename_i h11
          rw [if_pos h11] at hz
          have hp11 : gpE s q2 < s.length := hg2
          unfold paV at hz ⊢
          split
          · rename_i h12; rw [if_pos h12] at hz; exact absurd hz h12
          · rename_i h12
            rw [if_neg h12] at hz
            have e4 : atR (putR (atR r q) ev (gpE s q2)) ((putR (atR r q) ev (gpE s q2)).pos + 1) = putR (atR r q) ev (gpE s q2 + 1) := rfl
            rw [e4] at hz ⊢ h12
            have hg4 := gapR_ok (show (gapR s (putR (atR r q) ev (gpE s q2 + 1))).cd = 0 by simpa using h12)
            have e5 : gapR s (putR (atR r q) ev (gpE s q2 + 1)) = putR (atR r q) ev (gpE s (gpE s q2 + 1)) := hg4.1
            have hg5 := gpE_ge s (gpE s q2 + 1)
            have hg6 : gpE s (gpE s q2 + 1) < s.length := hg4.2
            rw [e5] at hz ⊢
            split
            · exact T2 _ (by omega) (by omega)
            · rename_i h13
              rw [if_neg h13] at hz
              have hs4 := stp_put (q := q) (e := ev) (q2 := gpE s (gpE s q2 + 1)) ho (by omega) (by omega)
              have hr := hit _ hs4.ok hs4.dp hz
              exact ⟨hr.ok, by have := hs4.lt; have := hr.lt; omega, hs4.pre.trans hr.pre, hr.hd.trans hs4.hd, hr.bs.trans hs4.bs, hr.dp.trans hs4.dp, by have := hr.pot; have := hs4.pot; have := hr.lt; omega⟩
        · exact T2 _ (by omega) (by omega)
/-- A node's reader, at a depth. -/
theorem noF_ok {s : Bs} : ∀ (d : Nat) (r : Rd), Ok s r → r.dp + d = 40 → (noF s d r).cd = 0 → Stp s r (noF s d r)
  | 0, r, ho, hd, hz => noR_ok ho (fun h => by omega) (fun h => by omega) hz
  | d + 1, r, ho, hd, hz => by
    have hit : ItOk s (r.dp + 1) (noF s d) := fun r1 h1 h2 h3 => noF_ok d r1 h1 (by omega) h3
    exact noR_ok ho (fun _ => hit) (fun _ r1 h1 h2 h3 => paR_ok h1 (by rw [h2]; exact hit) h3) hz
end Go.Pl
namespace Go.Pl
set_option linter.unusedVariables false
theorem pa_key {s : Bs} {r F x : Rd} (ho : Ok s r) (hF : F = prF s r) (hFz : F.cd = 0) (hx : x = scR s F (prP s true r) 125 58) (hxz : x.cd = 0) : Stp s r x := by
  obtain ⟨q, e, h1, h2, h3⟩ := prF_ok ho.pos ho.cd (show (prF s r).cd = 0 by rw [← hF]; exact hFz)
  have ho1 := ho.at h1 h2
  rw [hF, e] at hx
  obtain ⟨ev, q2, e2, h6, h7, h8⟩ := scR_ok ho1.pos ho1.cd (show (scR s (atR r q) (prP s true r) 125 58).cd = 0 by rw [← hx]; exact hxz)
  have h9 : r.pos < q2 := by
    cases hh : (prP s true r).has
    · have := h8 hh; simp only [atR] at this; omega
    · have := h3 hh; simp only [atR] at h6; omega
  rw [hx, e2]
  exact stp_put ho h9 h7
end Go.Pl
end
section
set_option linter.unusedVariables false
set_option linter.unusedSimpArgs false
namespace Go.Pl
open Go.Vg (lookS updS)
set_option linter.unusedVariables false
set_option linter.unusedSimpArgs false
def prZ (s : Bs) (fl : Bool) (r : Rd) : Rd := if fl = true then prF s r else prR s fl r
structure PrA (s : Bs) (fl : Bool) (r x : Rd) (p : Pp) : Prop where
  cd : x.cd = 0
  at' : x = atR r x.pos
  pos : x.pos ≤ s.length
  rest : prs s r.hd fl x.pos p = prs s r.hd fl r.pos (ppz r.pos)
  stop : fl = true → p.has = true → stopR s x = x
def PrI (s : Bs) (fl : Bool) (r x : Rd) (p : Pp) : Prop := PrA s fl r x p ∨ (x.cd ≠ 0 ∧ x = prZ s fl r)
theorem prA_start {s : Bs} {fl : Bool} {r : Rd} (h : r.cd = 0) (hl : r.pos ≤ s.length) : PrA s fl r r (ppz r.pos) := ⟨h, rfl, hl, rfl, fun _ h => by cases h⟩
theorem stop_pr {s : Bs} {r : Rd} (hc : r.cd = 0) (h : (stopR s r).cd ≠ 0) : isPr s r.pos = false := by
  unfold stopR at h
  by_cases h1 : s.length ≤ r.pos
  · cases hi : isPr s r.pos with
    | false => rfl
    | true => have := isPr_lt hi; omega
  rw [if_neg h1] at h
  by_cases h2 : mkA s r.pos ≠ 0
  · cases hi : isPr s r.pos with
    | false => rfl
    | true =>
      refine absurd ?_ h2
      by_cases h3 : la s r.pos = r.pos ∧ r.pos + 3 ≤ s.length ∧ gap s (r.pos + 3) = true
      · have hb := byt_lt (s := s) (i := r.pos) (by omega)
        have hs : ∃ t, sub s r.pos (r.pos + 3) = s.getD r.pos 0 :: t := by
          unfold sub
          rw [List.drop_eq_getElem_cons (by simp only [List.length_take]; omega)]
          refine ⟨_, by rw [List.getElem_take, List.getD_eq_getElem?_getD, List.getElem?_eq_getElem (by omega)]; rfl⟩
        obtain ⟨t, ht⟩ := hs
        unfold mkA
        rw [if_pos h3, ht]
        have hv : (s.getD r.pos 0).toNat = 38 ∨ (s.getD r.pos 0).toNat = 33 := by
          unfold isPr at hi
          have := of_decide_eq_true hi
          omega
        rw [if_neg, if_neg]
        · intro e
          simp only [List.cons.injEq] at e
          rw [e.1] at hv; simp at hv
        · intro e
          simp only [List.cons.injEq] at e
          rw [e.1] at hv; simp at hv
      · exact mkA_bad h3
  · rw [if_neg h2] at h; exact absurd hc h
theorem prA_end {s : Bs} {fl : Bool} {r x : Rd} {p : Pp} (h : PrA s fl r x p) (hn : isPr s x.pos = false) : prZ s fl r = x ∧ prP s fl r = p := by
  have e : prs s r.hd fl r.pos (ppz r.pos) = (x.pos, p, 0) := by
    rw [← h.rest, prs, dif_neg (by rintro ⟨h9, _⟩; rw [h9] at hn; cases hn), if_neg (by intro h9; rw [h9] at hn; cases hn)]
  have hR : prR s fl r = x := by unfold prR; simp only [e, if_pos]; exact h.at'.symm
  have hP : prP s fl r = p := by unfold prP; rw [e]
  refine ⟨?_, hP⟩
  unfold prZ
  split
  · rename_i hf
    subst hf
    unfold prF
    rw [hR, hP]
    split
    · rename_i h9; exact h.stop rfl h9.2
    · rfl
  · exact hR
theorem prA_bad {s : Bs} {fl : Bool} {r x : Rd} {p : Pp} {c : Int} (h : PrA s fl r x p) (hp : isPr s x.pos = true) (hb : (prA s r.hd fl x.pos p).2 = c) (hc : c ≠ 0) : prZ s fl r = flt x c x.pos := by
  have e : prs s r.hd fl r.pos (ppz r.pos) = (x.pos, (prA s r.hd fl x.pos p).1, c) := by
    rw [← h.rest, prs, dif_neg (by rintro ⟨_, h9⟩; exact hc (hb.symm.trans h9)), if_pos hp, hb]
  have hR : prR s fl r = flt x c x.pos := by unfold prR; simp only [e, if_neg hc]; rw [← h.at']
  unfold prZ
  split
  · rename_i hf
    subst hf
    unfold prF
    rw [hR, if_neg]; rintro ⟨h9, _⟩; exact hc h9
  · exact hR
theorem prA_next {s : Bs} {fl : Bool} {r x : Rd} {p p' : Pp} (h : PrA s fl r x p) (hp : isPr s x.pos = true) (hb : prA s r.hd fl x.pos p = (p', 0)) :
    x.pos + 1 ≤ p'.en ∧ p'.en ≤ s.length ∧ (fl = false → PrA s fl r (atR x (wh s p'.en)) p') ∧ (fl = true → PrI s fl r (gapR s (atR x (wh s p'.en))) p' ∧ (gapR s (atR x (wh s p'.en))).pos = gpE s p'.en) := by
  have hb2 : (prA s r.hd fl x.pos p).2 = 0 := by rw [hb]
  have hb1 : (prA s r.hd fl x.pos p).1 = p' := by rw [hb]
  have hpl := prA_place h.pos hb2
  rw [hb1] at hpl
  have hnx := nxP_place (s := s) (fl := fl) hpl.2.1
  have e : prs s r.hd fl (nxP s fl p'.en) p' = prs s r.hd fl r.pos (ppz r.pos) := by
    rw [← h.rest, prs.eq_def s r.hd fl x.pos p, dif_pos ⟨hp, hb2⟩, hb1]
  refine ⟨hpl.1, hpl.2.1, fun hf => ?_, fun hf => ?_⟩
  · have hn : nxP s fl p'.en = wh s p'.en := by unfold nxP; rw [hf]; rfl
    rw [hn] at e hnx
    exact ⟨h.cd, by rw [h.at']; rfl, hnx.2, e, fun h9 => by rw [hf] at h9; cases h9⟩
  · have hn : nxP s fl p'.en = gpE s p'.en := by unfold nxP; rw [if_pos hf]
    rw [hn] at e hnx
    have hg : gapR s (atR x (wh s p'.en)) = stopR s (atR r (gpE s p'.en)) := by
      unfold gapR
      rw [h.at']
      simp only [atR]
      rw [gpE_wh]
    have hc : r.cd = 0 := by have := h.cd; rw [h.at'] at this; exact this
    rw [hg]
    refine ⟨?_, ?_⟩
    · by_cases hz : (stopR s (atR r (gpE s p'.en))).cd = 0
      · have := stopR_ok hz
        rw [this.1]
        exact .inl ⟨hc, rfl, hnx.2, e, fun _ _ => this.1⟩
      · refine .inr ⟨hz, ?_⟩
        have hi := stop_pr (r := atR r (gpE s p'.en)) hc hz
        have e2 : prs s r.hd fl r.pos (ppz r.pos) = (gpE s p'.en, p', 0) := by
          rw [← e, prs, dif_neg (by rintro ⟨h9, _⟩; rw [show (atR r (gpE s p'.en)).pos = gpE s p'.en from rfl] at hi; rw [h9] at hi; cases hi), if_neg (by intro h9; rw [show (atR r (gpE s p'.en)).pos = gpE s p'.en from rfl] at hi; rw [h9] at hi; cases hi)]
        subst hf
        have hR : prR s true r = atR r (gpE s p'.en) := by unfold prR; simp only [e2, if_pos]
        have hP : prP s true r = p' := by unfold prP; rw [e2]
        unfold prZ prF
        rw [if_pos rfl, hR, hP, if_pos ⟨hc, hpl.2.2⟩]
    · unfold stopR
      split
      · rfl
      · split <;> rfl
theorem bhd_ix {s : Bs} {fl : Bool} {e : Nat} : (!gap s e && !(fl && flw ((s.getD e 0).toNat : Int))) = !bhd s fl e := by
  unfold bhd
  cases hg : gap s e with
  | true => simp
  | false => rw [byt_lt (gap_not hg)]; simp
theorem scR_x {s : Bs} {r : Rd} {p : Pp} {c1 c2 : Int} (h : sqB s r true = true) : scR s r p c1 c2 = scX s r p (-1) true := by
  unfold sqB at h
  unfold scR scX
  by_cases h1 : byt s r.pos = 42
  · rw [if_pos h1, if_pos h1]
  rw [if_neg h1, if_neg h1]
  by_cases h2 : isQu (byt s r.pos) = true
  · rw [if_pos h2, if_pos h2]
  rw [if_neg h2, if_neg h2]
  have h3 : pfA s r.pos true = true := by simpa [h1, h2] using h
  rw [if_pos h3, if_pos h3]
theorem scR_n {s : Bs} {r : Rd} {p : Pp} {c1 c2 : Int} (h : sqB s r true = false) : scX s r p (-1) true = r ∧ scR s r p c1 c2 = if p.has = true ∧ (byt s r.pos = 44 ∨ byt s r.pos = c1 ∨ byt s r.pos = c2) then textR r 1 [] p.an p.tg else flt r 10 r.pos := by
  unfold sqB at h
  simp only [Bool.or_eq_false_iff, decide_eq_false_iff_not] at h
  obtain ⟨⟨h1, h2⟩, h3⟩ := h
  have h2' : ¬ isQu (byt s r.pos) = true := by simp [h2]
  have h3' : ¬ pfA s r.pos true = true := by simp [h3]
  unfold scR scX
  rw [if_neg h1, if_neg h1, if_neg h2', if_neg h2', if_neg h3', if_neg h3']
  exact ⟨rfl, rfl⟩
end Go.Pl
end
section
set_option linter.unusedVariables false
set_option linter.unusedSimpArgs false
namespace Go.Pl
open Go.Vg (lookS updS)
set_option linter.unusedVariables false
set_option linter.unusedSimpArgs false
theorem ev_stop (s : Bs) (r : Rd) : (stopR s r).ev = r.ev := by
  unfold stopR; split
  · rfl
  · split <;> rfl
theorem ev_gap (s : Bs) (r : Rd) : (gapR s r).ev = r.ev := ev_stop s _
theorem ev_prR (s : Bs) (fl : Bool) (r : Rd) : (prR s fl r).ev = r.ev := by
  unfold prR; split <;> rfl
theorem ev_prF (s : Bs) (r : Rd) : (prF s r).ev = r.ev := by
  unfold prF; split
  · rw [ev_stop, ev_prR]
  · exact ev_prR s true r
theorem ev_cmR (s : Bs) (r : Rd) (c : Int) : (cmR s r c).ev = r.ev := by
  unfold cmR; split
  · rfl
  · split <;> rfl
theorem ev_text (r : Rd) (st : Int) (t a g : Bs) : (textR r st t a g).ev.length = r.ev.length + 1 := by simp [textR, tellR]
theorem ev_shR (r : Rd) (k : Nat) : (shR r k).ev.length = r.ev.length + 1 := by simp [shR]
theorem ev_scR (s : Bs) (r : Rd) (p : Pp) (c1 c2 : Int) : (scR s r p c1 c2).ev.length ≤ r.ev.length + 1 := by
  unfold scR alR qtR plR
  repeat' split
  all_goals simp [textR, tellR, flt, atR]
theorem ev_opR (r : Rd) (k st : Int) (p : Pp) (sg : Nat) : (opR r k st p sg).ev.length ≤ r.ev.length + 1 := by
  unfold opR; split
  · simp [flt]
  · simp [tellR]
def ItSz (s : Bs) (D : Nat) (it : Rd → Rd) : Prop := ∀ r, Ok s r → r.dp = D → (it r).ev.length ≤ 8 * s.length + 66
theorem clL_sz {s : Bs} {it : Rd → Rd} {c : Int} {D : Nat} (hit : ItOk s D it) (hsz : ItSz s D it) : ∀ (n k : Nat) (r : Rd), s.length - r.pos = n → Ok s r → r.dp = D → (clL s it c k r).ev.length ≤ 8 * s.length + 66 := by
  intro n
  induction n using Nat.strongRecOn with
  | ind n ih =>
    intro k r hn ho hd
    have h1 := ho.sz
    have h2 := ho.pos
    refine Decidable.byCases (p := (gapR s r).cd = 0) (fun hg => ?_) (fun hg => by rw [clL_gap hg, ev_gap]; omega)
    have hgo := ho.gap hg
    have hgd : (gapR s r).dp = D := by rw [(gapR_ok hg).1]; exact hd
    by_cases hb : byt s (gapR s r).pos = c
    · rw [clL_end hg hb, ev_shR]
      show (gapR s r).ev.length + 1 ≤ _
      rw [ev_gap]; omega
    have hI := hsz _ hgo hgd
    refine Decidable.byCases (p := (it (gapR s r)).cd = 0) (fun h3 => ?_) (fun h3 => by rw [clL_it hg hb h3]; exact hI)
    refine Decidable.byCases (p := (gapR s (it (gapR s r))).cd = 0) (fun h4 => ?_) (fun h4 => by rw [clL_g2 hg hb h3 h4, ev_gap]; exact hI)
    refine Decidable.byCases (p := (cmR s (gapR s (it (gapR s r))) c).cd = 0) (fun h5 => ?_) (fun h5 => by rw [clL_cm hg hb h3 h4 h5, ev_cmR, ev_gap]; exact hI)
    have hrd := cl_round hit ho hd hg h3 h4 h5
    have hlt := hrd.lt
    have hps := hrd.ok.pos
    rw [clL_go hg hb h3 h4 ⟨h5, hlt, by omega⟩]
    exact ih _ (by omega) k _ rfl hrd.ok (hrd.dp.trans hd)
theorem coR_sz {s : Bs} {it : Rd → Rd} {c k : Int} {r : Rd} {p : Pp} (hl : r.pos < s.length) (ho : Ok s r) (hit : r.dp < 40 → ItOk s (r.dp + 1) it) (hsz : r.dp < 40 → ItSz s (r.dp + 1) it) : (coR s it c k r p).ev.length ≤ 8 * s.length + 66 := by
  have h1 := ho.sz
  have h8 := ho.bs
  unfold coR
  by_cases hz : (opR r k 6 p r.pos).cd = 0
  · rw [if_neg (by simpa using hz)]
    obtain ⟨e, hd⟩ := opR_ok hz
    refine clL_sz (D := r.dp + 1) (hit hd) (hsz hd) _ _ _ rfl ?_ (by rw [e]; rfl)
    rw [e]
    exact ⟨ho.cd, hl, by simp [atR, tellR, ho.dn], by simp only [atR, tellR, List.length_append]; omega, by simp only [atR]; omega, by simp only [atR, tellR, List.length_append, List.length_singleton]; omega, ho.hd, ho.pf⟩
  · rw [if_pos hz]
    have := ev_opR r k 6 p r.pos
    omega
theorem paR_sz {s : Bs} {sb : Rd → Rd} {r : Rd} (ho : Ok s r) (hsz : ItSz s r.dp sb) : (paR s sb r).ev.length ≤ 8 * s.length + 66 := by
  have h1 := ho.sz
  have h2 := ho.pos
  have eF := ev_prF s r
  obtain ⟨F, hF⟩ : ∃ F, F = prF s r := ⟨_, rfl⟩
  unfold paR
  rw [← hF] at eF ⊢
  by_cases hFz : F.cd = 0
  · rw [if_neg (by simpa using hFz)]
    have eS := ev_scR s F (prP s true r) 125 58
    obtain ⟨x, hx⟩ : ∃ x, x = scR s F (prP s true r) 125 58 := ⟨_, rfl⟩
    rw [← hx] at eS ⊢
    rw [eF] at eS
    by_cases hxz : x.cd = 0
    · rw [if_neg (by simpa using hxz)]
      have hst := pa_key ho hF hFz hx hxz
      have hxo := hst.ok
      have eG := ev_gap s x
      by_cases hgz : (gapR s x).cd = 0
      · rw [if_neg (by simpa using hgz)]
        have hgo := hxo.gap hgz
        have hgd : (gapR s x).dp = r.dp := by rw [(gapR_ok hgz).1]; exact hst.dp
        have hgp : (gapR s x).pos < s.length := by
          obtain ⟨e9, h9⟩ := gapR_ok hgz
          rw [e9]; exact h9
        generalize gapR s x = g at *
        unfold paK
        split
        · unfold paV
          have eH : (gapR s (atR g (g.pos + 1))).ev = g.ev := ev_gap s (atR g (g.pos + 1))
          by_cases hz : (gapR s (atR g (g.pos + 1))).cd = 0
          · rw [if_neg (by simpa using hz)]
            split
            · rw [ev_text, eH, eG]; omega
            · refine hsz _ ((hgo.at (q := g.pos + 1) (by omega) hgp).gap hz) ?_
              rw [(gapR_ok hz).1]; exact hgd
          · rw [if_pos hz, eH, eG]; omega
        · rw [ev_text, eG]; omega
      · rw [if_pos hgz, eG]; omega
    · rw [if_pos hxz]; omega
  · rw [if_pos hFz, eF]; omega
theorem noR_sz {s : Bs} {sb : Rd → Rd} {r : Rd} (ho : Ok s r) (hit : r.dp < 40 → ItOk s (r.dp + 1) sb) (hsz : r.dp < 40 → ItSz s (r.dp + 1) sb) : (noR s sb r).ev.length ≤ 8 * s.length + 66 := by
  have h1 := ho.sz
  have h2 := ho.pos
  have eF := ev_prF s r
  unfold noR
  by_cases hFz : (prF s r).cd = 0
  · rw [if_neg (by simpa using hFz)]
    have hFo := ho.prF hFz
    have hFd : (prF s r).dp = r.dp := by
      obtain ⟨q9, e9, _⟩ := prF_ok ho.pos ho.cd hFz
      rw [e9]; rfl
    generalize prF s r = F at *
    unfold boR
    split
    · rename_i hb
      exact coR_sz (byt_pos hb (by decide)) hFo (by rw [hFd]; exact hit) (by rw [hFd]; exact hsz)
    · split
      · rename_i hb
        refine coR_sz (byt_pos hb (by decide)) hFo (fun h => ?_) (fun h => ?_)
        · rw [hFd] at h ⊢
          exact fun r2 k1 k2 k3 => paR_ok k1 (by rw [k2]; exact hit h) k3
        · rw [hFd] at h ⊢
          exact fun r2 k1 k2 => paR_sz k1 (by rw [k2]; exact hsz h)
      · have := ev_scR s F (prP s true r) 93 125
        rw [eF] at this
        omega
  · rw [if_pos hFz, eF]; omega
theorem noF_sz {s : Bs} : ∀ (d : Nat) (r : Rd), Ok s r → r.dp + d = 40 → (noF s d r).ev.length ≤ 8 * s.length + 66
  | 0, r, ho, hd => noR_sz ho (fun h => by omega) (fun h => by omega)
  | d + 1, r, ho, hd => noR_sz ho (fun h r1 h1 h2 h3 => noF_ok d r1 h1 (by omega) h3) (fun h r1 h1 h2 => noF_sz d r1 h1 (by omega))
theorem flA_sz {s : Bs} {p : Nat} (hp : p ≤ s.length) : (flA s p).ev.length ≤ 8 * s.length + 66 := by
  have hz0 : Ok s (rdz p) := ⟨rfl, hp, rfl, Nat.zero_le _, by simp [rdz], by simp [rdz], by simp [rdz], fun h hh => by simp [rdz] at hh⟩
  have e0 := ev_gap s (rdz p)
  unfold flA
  by_cases hg : (gapR s (rdz p)).cd = 0
  · rw [if_neg (by simpa using hg)]
    exact noF_sz 40 _ (hz0.gap hg) (by rw [(gapR_ok hg).1]; rfl)
  · rw [if_pos hg, e0]; simp [rdz]
end Go.Pl
end
