/- The law FnPathText returns true for every input: the row's statement, and the card that ties what it lists; no conditions. -/
import Derived.Test.YtjphhddbkjdbnaaDoorStepP
import Derived.Test.YtjphhddbkjdbnaaDoorBaseD
import Derived.Test.YtjphhddbkjdbnaaDoorBaseE
import Derived.Test.YtjphhddbkjdbnaaDoorBaseG
import Derived.Lib.SmallJoins
import Derived.Carry
import Derived.HandedShaped
import Derived.LaidLaws
import Derived.LaidMore
import Derived.Lay
import Derived.SevenTiedAt
import Derived.Test.YtjphhddbkjdbnaaDoorCards
import Derived.Test.YtjphhddbkjdbnaaDoorTie
set_option linter.unusedVariables false
set_option linter.unusedSimpArgs false
namespace Go.Proofs.YtjphhddbkjdbnaaDoor.fnPathText
open Go.ChangeMaps (open_string shut_string)
open Go.ChangeShapes Go.WideShapes Go.ChangeAt Go.RowKit Go.Vg
set_option linter.unusedVariables false
set_option linter.unusedSimpArgs false
set_option linter.unusedSectionVars false
theorem own : ownKnob Tryd.prog.godebug = none := by kernel_rfl
theorem laidOut : laidOutB Tryd.prog = true := by kernel_rfl
section
variable [Go.Vg.Glob]
theorem open_bytes {y : SV} (h : fitsV Go.TT.te 4 29 y) : ∃ l : List UInt8, y = .fs 1 (l.map bytc) ∧ l.length ≤ 9223372036854775807 := by
  simp only [fitsV, tdOf, szOf, fits, Go.TT.te_29, Go.TT.te_5, TD.isStruct, Bool.false_eq_true, if_false] at h
  obtain ⟨l, e, hl, hy⟩ := h
  cases e
  obtain ⟨es, rfl, he⟩ := exists_map (f := bytc) (p := fun _ => True) (l := l) fun y hy' => by
    obtain ⟨m, rfl, hm⟩ := hy y hy'
    simp only [inR] at hm
    refine ⟨UInt8.ofNat m.toNat, trivial, ?_⟩
    simp only [bytc, UInt8.toNat_ofNat']
    congr 2
    omega
  exact ⟨es, rfl, by simpa using hl⟩
end
theorem wrap {H : Type} {enc : TypeId × Value → H} {a : Assume} {C : Checked} {os : Os} {f : FuncId} {fn : Func} {s : ChangeSpec} {conds : List PathCond} {apart fresh handsOn again : Bool} {X : World → Array Value → Prop}
    (hX : ∀ (w w' : World) (args : Array Value), w.heap = w'.heap → X w args → X w' args)
    (own : ownKnob C.prog.godebug = none) (started : os.Started) (noInit : C.prog.inits.idxOf? f = none) (hfn : C.prog.funcs[f]? = some fn)
    (witness : ∃ (w : World) (tape : Tape) (i : Input), w.os = os ∧ (w.forCall tape i).Shaped C.prog ∧ i.vars = [] ∧ Input.okWide C.prog (w.forCall tape i) .any w.heap.size f i ∧
      ((s.pre enc C.prog fn conds apart (w.forCall tape i).memory i.args ∧ X (w.forCall tape i).memory i.args) ∧ sizedMet enc C.prog fn (OpenSpec.ofChange s) apart (w.forCall tape i).memory i.args) ∧ a.holds C.prog (lone (Frame.enter C.prog f i.args .normal) [] (w.forCall tape i)))
    (contract : ∀ (W : World) (base : Nat) (args : Array Value) (ds gs : List (DataW H)) (before : List MemPlace),
      (∀ (j : Nat) t v, fn.params[j]? = some t → args[j]? = some v → Value.okWide C.prog W .any base t v) →
      DataW.Whole enc C.prog fn.params.toList s.vars apart W args.toList ds gs before → W.ShapedOpen C.prog →
      Calls C.prog f args W fun e W' => ∃ v, e = .returned v ∧ s.post enc C.prog fn apart fresh handsOn again W args v W') :
    ReturnsInHanded a C os f .any (fun w args => (s.pre enc C.prog fn conds apart w args ∧ X w args) ∧ sizedMet enc C.prog fn (OpenSpec.ofChange s) apart w args) (s.post enc C.prog fn apart fresh handsOn again) := by
  refine returnsInHanded_of_calls own started noInit witness ?_
  intro w tape i _ hsh _ hok hpre hholds
  obtain ⟨_, _, _, fn', hfn', _, _, _, _, hval⟩ := hok
  have e : fn' = fn := Option.some.inj (hfn'.symm.trans hfn)
  subst e
  obtain ⟨⟨⟨ds, gs, before, hw, hc⟩, hx⟩, hz⟩ := hpre
  have hw' := DataW.Whole.of_heap (w' := w.forCall tape i) (by rfl) hw
  refine (contract (w.forCall tape i) w.heap.size i.args ds gs before hval hw' hsh).mono fun e W' ⟨v, he, hp⟩ => ?_
  subst he
  exact ChangeSpec.post_blind hp
set_option maxRecDepth 100000 in
theorem lifted (os : Os) (started : os.Started) (H : Type) (enc : TypeId × Value → H) :
    ReturnsInHanded {} Tryd.checked os 4 .any (fun w args => (Rows.fnPathTextSpec.pre enc Tryd.prog Tryd.f4 Rows.fnPathTextRow.domain false w args ∧ laidMetH Tryd.prog Rows.fnPathTextRow.laid w) ∧ sizedMet enc Tryd.prog Tryd.f4 (OpenSpec.ofChange Rows.fnPathTextSpec) false w args) (Rows.fnPathTextSpec.post enc Tryd.prog Tryd.f4 false true false false) := by
  refine wrap (C := Tryd.checked) (X := fun w _ => laidMetH Tryd.prog Rows.fnPathTextRow.laid w) (fun _ _ _ hh h => h.of_heap hh) own started (by kernel_rfl) Tryd.func4
    (ChangeSpec.witness_shaped (enc := enc) (C := Tryd.checked) (os := os) (X := fun w _ => laidMetH Tryd.prog Rows.fnPathTextRow.laid w) false (World.laidAll Tryd.prog os Rows.fnPathTextRow.laid) #[.slice none 0 0] 8 (World.laidAll_os _ _ _)
      (World.shaped_of_ZipB (by kernel_rfl) (by kernel_rfl)) (by kernel_rfl) (by kernel_rfl) (by kernel_rfl)
      (by rw [MakeChecks.laidMetH_plain _ _ _ (by kernel_rfl)]; exact laidMet_laidAll _ (by kernel_rfl) (by kernel_rfl))) ?_
  intro W base args ds gs before hval0 hW hsh
  have hval : ∀ (j : Nat) t v, Tryd.f4.params[j]? = some t → args[j]? = some v → Value.okWide Tryd.prog W .any base t v := hval0
  have hW' := hW
  obtain ⟨p, q, hA0, hV, rfl, hfz, hnd⟩ := hW
  have hA : DataW.TrodAll enc Tryd.prog W 0 (fun _ => true) true Tryd.f4.params.toList args.toList ds p := hA0
  rw [Tryd.params4] at hA hval
  obtain ⟨m0, hm0⟩ : ∃ m, W.cell? ⟨0, 0, none⟩ = some (.int .i64 m) := by
    letI : Glob := ⟨fun _ => none⟩
    exact Tryd.laysM155.s1_3 W hsh
  letI : Glob := ⟨fun b => if b = 0 then W.heap[0]? else none⟩
  have hg : ∀ b o, Glob.g b = some o → W.heap[b]? = some o := fun b o h => by
    have h' : (if b = 0 then W.heap[0]? else none) = some o := h
    split at h'
    · rename_i h9; rw [h9]; exact h'
    · cases h'
  haveI : GlobInt 0 := ⟨by
    cases ho : W.heap[0]? with
    | none => unfold World.cell? at hm0; simp [ho] at hm0
    | some ob =>
      refine ⟨ob, m0, (show (if (0 : Nat) = 0 then W.heap[0]? else none) = some ob by rw [if_pos rfl]; exact ho), fun w hw => ?_⟩
      unfold World.cell? at hm0 ⊢
      simp only [ho] at hm0
      simp only [hw]
      exact hm0⟩
  obtain ⟨v0, vs0, d0, ds0, p0, q0, hargs, rfl, rfl, h0, r0⟩ := trodAll_cons hA
  obtain ⟨rfl, rfl, rfl⟩ := trodAll_nil r0
  obtain rfl : args = #[v0] := by cases args; simp_all
  obtain ⟨rfl, rfl⟩ := trodVars_none hV
  have lt0 : ∀ x ∈ p0, x.block < W.heap.size := by obtain ⟨m, hm⟩ := h0; exact DataW.trod_lt m _ _ _ hm
  obtain ⟨y0, f0, e0⟩ := trod_param Go.TT.te_ok (n := 4) (by decide +kernel) ((hval 0 29 v0 rfl rfl)) h0
  obtain ⟨a0, rfl, b0⟩ := open_bytes f0
  clear hA0 hval0
  refine (law_pure (T105.law_FnPathText a0 b0) (w := W) (relL_one e0) hg).mono fun e W' ⟨he, bel⟩ => ?_
  subst he
  exact ⟨_, rfl, _, _, _, [], _, [], hW', trodAll_mk1 (shut_bool Tryd.underlying4 _), (trodAll_cons_mk (Below.trod laidOut (by kernel_rfl) (of_decide_eq_true (by kernel_rfl)) h0 bel lt0) trodAll_mk0), rfl, bel.frame _, fun h => by cases h⟩
theorem over : Rows.fnPathTextRow.holds Tryd.pinned (OpenSpec.ofChange Rows.fnPathTextSpec) :=
  OpenClaim.holds_of_wide 4 Tryd.f4 rfl rfl rfl rfl rfl rfl rfl ⟨rfl, rfl, rfl, rfl, rfl⟩ rfl rfl rfl rfl rfl (by kernel_rfl) Tryd.func4 (by kernel_rfl)
    (of_decide_eq_true (by kernel_rfl)) (by unfold Func.isWrapper; first | (rw [if_pos (by decide +kernel)]; kernel_rfl) | (rw [if_neg (by decide +kernel)]; exact ⟨rfl, rfl⟩))
    (fun os started H enc _ => lifted os started H enc)
theorem card : Rows.FnPathTextCardSaid :=
  Claim7.holds_tied_plain_at .later [] [.data, .pinned] true (true, "26c7c103b36fe6eddc210d944b3fc4457e9a9509422ad9ce77081471af88e9e4") false over (fun _ h => by cases h) (by kernel_rfl) (fun _ h => by cases h) fnPathText_row_tie rfl ⟨rfl, rfl⟩ (by kernel_rfl) rfl
    (fun f fn hf hfn => by
      obtain rfl : f = 4 := Option.some.inj ((show Tryd.prog.funcNamed "loop.example/g00666/laws.FnPathText" = some 4 by kernel_rfl).symm.trans hf) |>.symm
      obtain rfl : fn = Tryd.f4 := (Option.some.inj (Tryd.func4.symm.trans hfn)).symm
      exact ⟨by kernel_rfl, fun j t ht => by
        rw [Tryd.params4] at ht
        have hm : t ∈ [29] := by simpa using Array.mem_of_getElem? ht
        have hall : ([29].all fun u => !Tryd.prog.wantsStandIn u) = true := by kernel_rfl
        exact (show Tryd.prog.wantsStandIn t = false by simpa using List.all_eq_true.1 hall t hm)⟩)
    (by kernel_rfl)
#print axioms card
end Go.Proofs.YtjphhddbkjdbnaaDoor.fnPathText
namespace Go.Proofs.YtjphhddbkjdbnaaDoor
theorem fnPathText_holds : Rows.FnPathTextCardSaid := fnPathText.card
end Go.Proofs.YtjphhddbkjdbnaaDoor
