/- Own text: part ValueTextA. -/
import Derived.Test.YtlbahpbnnmgpnaaVgW
import Derived.Test.YtlbahpbnnmgpnaaProg
namespace Go.T4
open Go.Proofs Go.Vg Go.RowKit
set_option linter.unusedVariables false
set_option linter.unusedSimpArgs false
set_option maxRecDepth 10000
def tes : List (TypeId × TI) := [(3, ⟨.int .i64, 1, 8, [.i .i64 0], false⟩), (4, ⟨.bool, 1, 1, [.b false], false⟩), (5, ⟨.int .u8, 1, 1, [.i .u8 0], false⟩), (9, ⟨.str, 1, 16, [.s []], false⟩), (36, ⟨.slice 5, 1, 24, [.nils], false⟩), (30, ⟨.struct [(3, 0), (3, 1), (4, 2), (9, 3)], 4, 40, [.i .i64 0, .i .i64 0, .b false, .s []], false⟩), (33, ⟨.struct [(3, 0), (3, 1), (4, 2), (9, 3)], 4, 40, [.i .i64 0, .i .i64 0, .b false, .s []], false⟩)]
def te : TE := teOf tes
theorem mixed_ok : Try.prog.follows .mixedOrders = true := by kernel_rfl
theorem te_ok : teOk Try.prog te := teOf_ok (by kernel_rfl)
theorem te_3 : te 3 = some ⟨.int .i64, 1, 8, [.i .i64 0], false⟩ := id rfl
theorem te_4 : te 4 = some ⟨.bool, 1, 1, [.b false], false⟩ := id rfl
theorem te_5 : te 5 = some ⟨.int .u8, 1, 1, [.i .u8 0], false⟩ := id rfl
theorem te_9 : te 9 = some ⟨.str, 1, 16, [.s []], false⟩ := id rfl
theorem te_36 : te 36 = some ⟨.slice 5, 1, 24, [.nils], false⟩ := id rfl
theorem te_30 : te 30 = some ⟨.struct [(3, 0), (3, 1), (4, 2), (9, 3)], 4, 40, [.i .i64 0, .i .i64 0, .b false, .s []], false⟩ := id rfl
theorem te_33 : te 33 = some ⟨.struct [(3, 0), (3, 1), (4, 2), (9, 3)], 4, 40, [.i .i64 0, .i .i64 0, .b false, .s []], false⟩ := id rfl

def dec (n : Nat) : List UInt8 := if h : n < 10 then [UInt8.ofNat (48 + n)] else dec (n / 10) ++ [UInt8.ofNat (48 + n % 10)]
termination_by n
decreasing_by omega

def DecInv (n : Nat) (p : Nat × List UInt8) : Prop := (p.2 = [] ∧ p.1 = n) ∨ (p.2 ≠ [] ∧ p.1 ≤ n ∧ (if p.1 = 0 then p.2 = dec n else dec p.1 ++ p.2 = dec n))
theorem dec_length (n : Nat) : (dec n).length ≤ n + 1 := by
  induction n using Nat.strongRecOn with
  | _ n ih =>
    rw [dec]
    split
    · simp
    · have := ih (n / 10) (by omega)
      simp
      omega
theorem decimal (n : Int) (hp : 0 ≤ n ∧ n ≤ 9007199254740992) : PF Try.prog 59 [.i .i64 n] (.s (dec n.toNat)) := by
  refine ⟨rfl, rfl, FnOK.of (cf := mkCf Try.prog te [] 21 0 false (fun _ => false) (kp [(0, [0]), (1, [0, 3]), (2, [0, 3, 9]), (3, [0, 3]), (4, [0, 3]), (5, [2])]) [] []) (mkCf_ok te_ok (pt := []) trivial mixed_ok) Try.func59 rfl rfl rfl (by simp [mkCf]) rfl (rs := [.tmp 2]) rfl 100000 ?_⟩
  simp only [↓vc_nil, ↓vc_blk, ↓vc_stop, ↓vc_skip, ↓vc_ret, ↓vc_seq, ↓vc_region, ↓vc_draw, ↓vc_block, ↓vc_loop, ↓vc_exitK, ↓popK_blk, ↓popK_blk, ↓popK_code, ↓popK_stop, ↓xcond_b, ↓xcond_true, ↓xcond_false, ↓vc_cond, ↓XL_nil, ↓XL_cons, ↓XL_consg, ↓xguard_f, ↓guardC_b, ↓guardC_gd, ↓ung_gd, ↓ung_b, ↓ung_i, ↓ung_s, ↓ung_ptr, ↓ung_slc, ↓ung_nils, ↓ung_mp, ↓ung_agg, ↓ung_tup, ↓ifPtr_ptr, ↓ifSlc_slc, ↓ifB_b, ↓ifI_i, ↓ifS_s, ↓ifTup_tup, ↓ifStruct_struct, ↓ifSlice_slice, ↓onO_some, ↓iteP_true, ↓iteP_false, ↓resQ_nil, ↓resQ_tmp, ↓resQ_cell, ↓oLen_s, ↓oLen_slc, ↓oLen_nils, ↓XOne_move, ↓XOne_assign, ↓XOne_pick, ↓XOne_fieldAddr, ↓XOne_indexAddr, ↓XOne_index, ↓XOne_extract, ↓XOne_not, ↓XOne_neg, ↓XOne_binOp, ↓XOne_slice, ↓XOne_len, ↓XOne_load, ↓XOne_box, ↓XOne_alloc, ↓XOne_store, ↓oCall_some, ↓oCallT_some, ↓oCallT_none, ↓XOne_call, ↓XOne_nilCheck, ↓XOne_min, ↓XOne_max, ↓XOne_build, ↓bnds_none, ↓bnds_some, ↓xcuts_s, ↓xcuts_slc, ↓oConv_ss, ↓oConv_st, ↓oConv_ii, ↓oConv_is, ↓oConv_tt, ↓xconvs_i, ↓xconvs_iw, ↓xconvs_s, ↓xconvs_u, ↓ifRow_row, ↓oStr_slc, ↓oStr_nils, ↓XOne_convert, ↓XOne_buildSlice, ↓XOne_makeSlice, ↓oSrc_nils, ↓oSrc_s, ↓oSrc_slc, ↓ifRowW_row, ↓oApp_nils, ↓oApp_slc, ↓XOne_append, ↓xbin_add, ↓xbin_add_w, ↓xbin_sub, ↓xbin_sub_w, ↓xbin_mul, ↓xbin_mul_w, ↓xbin_quo, ↓xbin_rem, ↓xbin_and, ↓xbin_xor, ↓xbin_shr, ↓xbin_eql_i, ↓xbin_neq_i, ↓xbin_lss_i, ↓xbin_leq_i, ↓xbin_gtr_i, ↓xbin_geq_i, ↓xbin_add_s, ↓xbin_eql_s, ↓xbin_neq_s, ↓xbin_eql_b, ↓xbin_neq_b, ↓xbin_eql_a, ↓xbin_neq_a, ↓putS_none, ↓putS_some, ↓drS_hit, ↓drS_miss, ↓XDs_end0, ↓XDs_end1, ↓XDs_q0, ↓XDs_q1, ↓XDs_alt, ↓XDs_none, ↓XDs_sw, ↓XSs_none, ↓XSs_some, newRw_zero, newRw_zero, newRw_succ, cond_ff, cond_tt, dstOf_zero, dstOf_succ, gz_f, gz_t, mkgd_b, mkgd_i, mkgd_s, mkgd_ptr, mkgd_slc, mkgd_nils, mkgd_mp, mkgd_agg, mkgd_tup, mkgd_gd, tupS_one, tupS_two, tupS_three, tupS_four, ev_tmp, ev_int, ev_bool, ev_str, ev_nils, ev_func, look_cons, trim_eq, addObj_eq, setObj_eq, ptOf_hit, ptOf_miss, kp_cons, ptOf_nil, opsGet, freeze_cons, freeze_nil, maskC_cons, maskC_nil, thaw_cons, thaw_nil, mkRo1_row, mkRo1_blk, isCut_nil, newRw_nil, Chk_true, entry, List.map_cons, List.map_nil, reduceIte, Nat.reduceAdd, Nat.reduceLT, Nat.reduceEqDiff, Nat.reduceBEq, Nat.reduceLeDiff, reduceCtorEq, and_true, true_and, ne_eq, not_false_eq_true, isStr, tdOf, szOf, TD.isStruct, okCell, cellsOf, List.nil_append, List.cons_append, List.length_nil, List.length_cons, List.getElem?_cons_zero, List.getElem?_cons_succ, Nat.zero_add, List.getD_cons_zero, List.getD_cons_succ, at_cons_zero, at_cons_succ, SO.isMap, SO.sz, SO.el, SO.n, SO.ro, List.drop_zero, List.drop_succ_cons, List.take_succ_cons, List.take_zero, Bool.false_eq_true, forall_const, imp_self, Bool.true_and, Bool.and_true, Bool.not_true, Bool.not_false, cond_true, cond_false, Nat.reduceSub, Nat.reduceMul, List.cons.injEq, decide_eq_true_eq, decide_eq_false_iff_not, List.set_cons_zero, List.set_cons_succ, implies_true, Nat.zero_add, mkCf, opsGet, quietOp, opClass, beq_self_eq_true, Option.bind_some, Option.bind_none, List.contains_nil, List.all_cons, List.all_nil, okLeaf, spl, cellV, isU8T, isSlS, fillS, fillP, repl, rowBytes_one, List.append_nil, List.length_append, List.nil_append, List.all_nil, Option.isSome_some, SO.put, SV.mapH, Nat.lt_add_one, Int.reduceLT, Int.reduceLE, if_true, if_false, te_3, te_4, te_5, te_9, te_36, te_30, te_33]
  refine VLoops.of (ι := {p : Nat × List UInt8 // DecInv n.toNat p}) (fun p => ⟨[(0, .i .i64 p.1.1), (3, .s p.1.2)], []⟩) (fun p => if p.1.2 = [] then p.1.1 + 1 else p.1.1) ⟨(n.toNat, []), .inl ⟨rfl, rfl⟩⟩ (by rw [Int.toNat_of_nonneg hp.1]; exact Ent.refl _ _) ?_
  rintro ⟨⟨m, out⟩, hinv⟩
  simp only [↓vc_nil, ↓vc_blk, ↓vc_stop, ↓vc_skip, ↓vc_ret, ↓vc_seq, ↓vc_region, ↓vc_draw, ↓vc_block, ↓vc_loop, ↓vc_exitK, ↓popK_blk, ↓popK_blk, ↓popK_code, ↓popK_stop, ↓xcond_b, ↓xcond_true, ↓xcond_false, ↓vc_cond, ↓XL_nil, ↓XL_cons, ↓XL_consg, ↓xguard_f, ↓guardC_b, ↓guardC_gd, ↓ung_gd, ↓ung_b, ↓ung_i, ↓ung_s, ↓ung_ptr, ↓ung_slc, ↓ung_nils, ↓ung_mp, ↓ung_agg, ↓ung_tup, ↓ifPtr_ptr, ↓ifSlc_slc, ↓ifB_b, ↓ifI_i, ↓ifS_s, ↓ifTup_tup, ↓ifStruct_struct, ↓ifSlice_slice, ↓onO_some, ↓iteP_true, ↓iteP_false, ↓resQ_nil, ↓resQ_tmp, ↓resQ_cell, ↓oLen_s, ↓oLen_slc, ↓oLen_nils, ↓XOne_move, ↓XOne_assign, ↓XOne_pick, ↓XOne_fieldAddr, ↓XOne_indexAddr, ↓XOne_index, ↓XOne_extract, ↓XOne_not, ↓XOne_neg, ↓XOne_binOp, ↓XOne_slice, ↓XOne_len, ↓XOne_load, ↓XOne_box, ↓XOne_alloc, ↓XOne_store, ↓oCall_some, ↓oCallT_some, ↓oCallT_none, ↓XOne_call, ↓XOne_nilCheck, ↓XOne_min, ↓XOne_max, ↓XOne_build, ↓bnds_none, ↓bnds_some, ↓xcuts_s, ↓xcuts_slc, ↓oConv_ss, ↓oConv_st, ↓oConv_ii, ↓oConv_is, ↓oConv_tt, ↓xconvs_i, ↓xconvs_iw, ↓xconvs_s, ↓xconvs_u, ↓ifRow_row, ↓oStr_slc, ↓oStr_nils, ↓XOne_convert, ↓XOne_buildSlice, ↓XOne_makeSlice, ↓oSrc_nils, ↓oSrc_s, ↓oSrc_slc, ↓ifRowW_row, ↓oApp_nils, ↓oApp_slc, ↓XOne_append, ↓xbin_add, ↓xbin_add_w, ↓xbin_sub, ↓xbin_sub_w, ↓xbin_mul, ↓xbin_mul_w, ↓xbin_quo, ↓xbin_rem, ↓xbin_and, ↓xbin_xor, ↓xbin_shr, ↓xbin_eql_i, ↓xbin_neq_i, ↓xbin_lss_i, ↓xbin_leq_i, ↓xbin_gtr_i, ↓xbin_geq_i, ↓xbin_add_s, ↓xbin_eql_s, ↓xbin_neq_s, ↓xbin_eql_b, ↓xbin_neq_b, ↓xbin_eql_a, ↓xbin_neq_a, ↓putS_none, ↓putS_some, ↓drS_hit, ↓drS_miss, ↓XDs_end0, ↓XDs_end1, ↓XDs_q0, ↓XDs_q1, ↓XDs_alt, ↓XDs_none, ↓XDs_sw, ↓XSs_none, ↓XSs_some, newRw_zero, newRw_zero, newRw_succ, cond_ff, cond_tt, dstOf_zero, dstOf_succ, gz_f, gz_t, mkgd_b, mkgd_i, mkgd_s, mkgd_ptr, mkgd_slc, mkgd_nils, mkgd_mp, mkgd_agg, mkgd_tup, mkgd_gd, tupS_one, tupS_two, tupS_three, tupS_four, ev_tmp, ev_int, ev_bool, ev_str, ev_nils, ev_func, look_cons, trim_eq, addObj_eq, setObj_eq, ptOf_hit, ptOf_miss, kp_cons, ptOf_nil, opsGet, freeze_cons, freeze_nil, maskC_cons, maskC_nil, thaw_cons, thaw_nil, mkRo1_row, mkRo1_blk, isCut_nil, newRw_nil, Chk_true, entry, List.map_cons, List.map_nil, reduceIte, Nat.reduceAdd, Nat.reduceLT, Nat.reduceEqDiff, Nat.reduceBEq, Nat.reduceLeDiff, reduceCtorEq, and_true, true_and, ne_eq, not_false_eq_true, isStr, tdOf, szOf, TD.isStruct, okCell, cellsOf, List.nil_append, List.cons_append, List.length_nil, List.length_cons, List.getElem?_cons_zero, List.getElem?_cons_succ, Nat.zero_add, List.getD_cons_zero, List.getD_cons_succ, at_cons_zero, at_cons_succ, SO.isMap, SO.sz, SO.el, SO.n, SO.ro, List.drop_zero, List.drop_succ_cons, List.take_succ_cons, List.take_zero, Bool.false_eq_true, forall_const, imp_self, Bool.true_and, Bool.and_true, Bool.not_true, Bool.not_false, cond_true, cond_false, Nat.reduceSub, Nat.reduceMul, List.cons.injEq, decide_eq_true_eq, decide_eq_false_iff_not, List.set_cons_zero, List.set_cons_succ, implies_true, Nat.zero_add, mkCf, opsGet, quietOp, opClass, beq_self_eq_true, Option.bind_some, Option.bind_none, List.contains_nil, List.all_cons, List.all_nil, okLeaf, spl, cellV, isU8T, isSlS, fillS, fillP, repl, rowBytes_one, List.append_nil, List.length_append, List.nil_append, List.all_nil, Option.isSome_some, SO.put, SV.mapH, Nat.lt_add_one, Int.reduceLT, Int.reduceLE, if_true, if_false, te_3, te_4, te_5, te_9, te_36, te_30, te_33]
  have e1 : (m : Int).tmod 10 = ((m % 10 : Nat) : Int) := tmod_nat m 10
  have e2 : (m : Int).tdiv 10 = ((m / 10 : Nat) : Int) := tdiv_nat m 10
  rw [e1, e2]
  have hm : m ≤ n.toNat := by rcases hinv with ⟨_, h⟩ | ⟨_, h, _⟩ <;> simp at h <;> omega
  have hlen : out.length ≤ n.toNat + 1 := by
    have := dec_length n.toNat
    rcases hinv with ⟨h, _⟩ | ⟨_, _, h⟩
    · simp at h; simp [h]
    · simp only at h
      split at h
      · rw [h]; exact this
      · have h' := congrArg List.length h
        simp at h'
        omega
  refine ⟨fun hc => ?_, fun hc => ?_⟩
  · refine Chk.mk (by decide) fun _ => Chk.mk (by simp only [inR]; omega) fun _ => Chk.mk (by simp only [inR]; omega) fun _ => ⟨isU8_one, Chk.mk (by first | omega | (simp only [List.length_cons, List.length_nil]; omega)) fun _ => ⟨by decide, Chk.mk (by simp only [inR]; omega) fun _ => ?_⟩⟩
    have e3 : ((48 : Int) + ((m % 10 : Nat) : Int)).toNat = 48 + m % 10 := by omega
    rw [e3]
    refine ⟨⟨(m / 10, UInt8.ofNat (48 + m % 10) :: out), .inr ⟨by simp, by show m / 10 ≤ n.toNat; omega, ?_⟩⟩, ?_, Ent.nil (by simp [entEnv, Vg.look, SV.mapH])⟩
    · have hd : dec m = if m < 10 then [UInt8.ofNat (48 + m)] else dec (m / 10) ++ [UInt8.ofNat (48 + m % 10)] := by
        rw [dec]; split <;> rfl
      simp only
      rcases hinv with ⟨h1, h2⟩ | ⟨h1, _, h2⟩
      · simp only at h1 h2
        subst h1; subst h2
        rw [hd]
        by_cases hs : n.toNat < 10
        · rw [if_pos (by omega), if_pos hs, Nat.mod_eq_of_lt hs]
        · rw [if_neg (by omega), if_neg hs]
      · simp only at h1 h2
        have h0 : m ≠ 0 := by
          intro h0
          simp [h0, h1] at hc
        rw [if_neg h0, hd] at h2
        by_cases hs : m < 10
        · rw [if_pos hs] at h2
          rw [if_pos (by omega), Nat.mod_eq_of_lt hs]
          simpa using h2
        · rw [if_neg hs] at h2
          rw [if_neg (by omega)]
          simpa using h2
    · simp only [reduceCtorEq, if_false]
      by_cases ho : out = []
      · rw [if_pos ho]; omega
      · rw [if_neg ho]
        have : m ≠ 0 := by intro h0; simp [h0, ho] at hc
        omega
  · rcases hinv with ⟨h1, h2⟩ | ⟨h1, _, h2⟩
    · simp only at h1; simp [h1] at hc
    · simp only at h1 h2
      have : m = 0 := by simp [h1] at hc; omega
      rw [if_pos this] at h2
      rw [h2]
def pe_decimal : PE := fun args _ => match args with
  | [.i .i64 n] => some (0 ≤ n ∧ n ≤ 9007199254740992, .s (dec n.toNat))
  | _ => none
theorem pe_decimal_eq {n : Int} {c : Ctx} : pe_decimal [.i .i64 n] c = some (0 ≤ n ∧ n ≤ 9007199254740992, .s (dec n.toNat)) := id rfl
theorem pe_decimal_ok : PE1 Try.prog 59 pe_decimal := by
  intro args ctx p z h hp
  unfold pe_decimal at h
  split at h
  · cases h; exact (decimal _ hp).call ctx
  · cases h
def sdec (n : Int) : List UInt8 := if n < 0 then 45 :: dec (-n).toNat else dec n.toNat
theorem sdec_nonneg {n : Int} (h : 0 ≤ n) : sdec n = dec n.toNat := by unfold sdec; rw [if_neg (by omega)]
theorem sdec_length (n : Int) : (sdec n).length ≤ n.natAbs + 2 := by
  unfold sdec
  have h1 := dec_length (-n).toNat
  have h2 := dec_length n.toNat
  split
  · simp; omega
  · omega
def pe_l14Int_lt (bound : Nat) : PE := fun args _ => match args with
  | [.i .i64 n] => some ((-9007199254740992 ≤ n ∧ n ≤ 9007199254740992) ∧ (2 * n.natAbs + (if n < 0 then 1 else 0)) < bound, .s (sdec n))
  | _ => none
theorem pe_l14Int_lt_eq {bound : Nat} {n : Int} {c : Ctx} : pe_l14Int_lt bound [.i .i64 n] c = some ((-9007199254740992 ≤ n ∧ n ≤ 9007199254740992) ∧ (2 * n.natAbs + (if n < 0 then 1 else 0)) < bound, .s (sdec n)) := id rfl
theorem l14Int_aux : ∀ (bound : Nat) (n : Int), (-9007199254740992 ≤ n ∧ n ≤ 9007199254740992) → (2 * n.natAbs + (if n < 0 then 1 else 0)) < bound → PF Try.prog 58 [.i .i64 n] (.s (sdec n)) := by
  intro bound
  induction bound with
  | zero => intro n _ h; exact absurd h (Nat.not_lt_zero _)
  | succ bound ih =>
  intro n hp hm
  have hself : PE1 Try.prog 58 (pe_l14Int_lt bound) := by
    intro args ctx p z h hp
    unfold pe_l14Int_lt at h
    split at h
    · cases h; exact (ih _ hp.1 hp.2).call ctx
    · cases h
  refine ⟨rfl, rfl, FnOK.of (cf := mkCf Try.prog te [(58, pe_l14Int_lt bound)] 26 0 false (fun _ => false) (kp [(0, [0]), (1, [0, 4]), (2, [2]), (3, [0, 10]), (4, [2]), (5, [2])]) [] [(5, [], [], .q1 0 (.q1 1 (.q1 3 (.q1 4 (.q1 5 (.alt 2 (.alt 6 (.alt 7 (.alt 8 (.q1 9 (.q1 10 (.fin))) (.fin)) (.fin)) (.fin)) (.alt 6 (.alt 2 (.alt 7 (.alt 8 (.q1 9 (.q1 10 (.fin))) (.fin)) (.fin)) (.alt 7 (.alt 2 (.alt 8 (.q1 9 (.q1 10 (.fin))) (.fin)) (.alt 8 (.alt 2 (.q1 9 (.q1 10 (.fin))) (.fin)) (.fin))) (.fin))) (.fin))))))))]) (mkCf_ok te_ok (pt := [(58, pe_l14Int_lt bound)]) ⟨hself, trivial⟩ mixed_ok) Try.func58 rfl rfl rfl (by simp [mkCf]) rfl (rs := [.tmp 2]) rfl 100000 ?_⟩
  simp only [↓vc_nil, ↓vc_blk, ↓vc_stop, ↓vc_skip, ↓vc_ret, ↓vc_seq, ↓vc_region, ↓vc_draw, ↓vc_block, ↓vc_loop, ↓vc_exitK, ↓popK_blk, ↓popK_blk, ↓popK_code, ↓popK_stop, ↓xcond_b, ↓xcond_true, ↓xcond_false, ↓vc_cond, ↓XL_nil, ↓XL_cons, ↓XL_consg, ↓xguard_f, ↓guardC_b, ↓guardC_gd, ↓ung_gd, ↓ung_b, ↓ung_i, ↓ung_s, ↓ung_ptr, ↓ung_slc, ↓ung_nils, ↓ung_mp, ↓ung_agg, ↓ung_tup, ↓ifPtr_ptr, ↓ifSlc_slc, ↓ifB_b, ↓ifI_i, ↓ifS_s, ↓ifTup_tup, ↓ifStruct_struct, ↓ifSlice_slice, ↓onO_some, ↓iteP_true, ↓iteP_false, ↓resQ_nil, ↓resQ_tmp, ↓resQ_cell, ↓oLen_s, ↓oLen_slc, ↓oLen_nils, ↓XOne_move, ↓XOne_assign, ↓XOne_pick, ↓XOne_fieldAddr, ↓XOne_indexAddr, ↓XOne_index, ↓XOne_extract, ↓XOne_not, ↓XOne_neg, ↓XOne_binOp, ↓XOne_slice, ↓XOne_len, ↓XOne_load, ↓XOne_box, ↓XOne_alloc, ↓XOne_store, ↓oCall_some, ↓oCallT_some, ↓oCallT_none, ↓XOne_call, ↓XOne_nilCheck, ↓XOne_min, ↓XOne_max, ↓XOne_build, ↓bnds_none, ↓bnds_some, ↓xcuts_s, ↓xcuts_slc, ↓oConv_ss, ↓oConv_st, ↓oConv_ii, ↓oConv_is, ↓oConv_tt, ↓xconvs_i, ↓xconvs_iw, ↓xconvs_s, ↓xconvs_u, ↓ifRow_row, ↓oStr_slc, ↓oStr_nils, ↓XOne_convert, ↓XOne_buildSlice, ↓XOne_makeSlice, ↓oSrc_nils, ↓oSrc_s, ↓oSrc_slc, ↓ifRowW_row, ↓oApp_nils, ↓oApp_slc, ↓XOne_append, ↓xbin_add, ↓xbin_add_w, ↓xbin_sub, ↓xbin_sub_w, ↓xbin_mul, ↓xbin_mul_w, ↓xbin_quo, ↓xbin_rem, ↓xbin_and, ↓xbin_xor, ↓xbin_shr, ↓xbin_eql_i, ↓xbin_neq_i, ↓xbin_lss_i, ↓xbin_leq_i, ↓xbin_gtr_i, ↓xbin_geq_i, ↓xbin_add_s, ↓xbin_eql_s, ↓xbin_neq_s, ↓xbin_eql_b, ↓xbin_neq_b, ↓xbin_eql_a, ↓xbin_neq_a, ↓putS_none, ↓putS_some, ↓drS_hit, ↓drS_miss, ↓XDs_end0, ↓XDs_end1, ↓XDs_q0, ↓XDs_q1, ↓XDs_alt, ↓XDs_none, ↓XDs_sw, ↓XSs_none, ↓XSs_some, newRw_zero, newRw_zero, newRw_succ, cond_ff, cond_tt, dstOf_zero, dstOf_succ, gz_f, gz_t, mkgd_b, mkgd_i, mkgd_s, mkgd_ptr, mkgd_slc, mkgd_nils, mkgd_mp, mkgd_agg, mkgd_tup, mkgd_gd, tupS_one, tupS_two, tupS_three, tupS_four, ev_tmp, ev_int, ev_bool, ev_str, ev_nils, ev_func, look_cons, trim_eq, addObj_eq, setObj_eq, ptOf_hit, ptOf_miss, kp_cons, ptOf_nil, opsGet, freeze_cons, freeze_nil, maskC_cons, maskC_nil, thaw_cons, thaw_nil, mkRo1_row, mkRo1_blk, isCut_nil, newRw_nil, Chk_true, entry, List.map_cons, List.map_nil, reduceIte, Nat.reduceAdd, Nat.reduceLT, Nat.reduceEqDiff, Nat.reduceBEq, Nat.reduceLeDiff, reduceCtorEq, and_true, true_and, ne_eq, not_false_eq_true, isStr, tdOf, szOf, TD.isStruct, okCell, cellsOf, List.nil_append, List.cons_append, List.length_nil, List.length_cons, List.getElem?_cons_zero, List.getElem?_cons_succ, Nat.zero_add, List.getD_cons_zero, List.getD_cons_succ, at_cons_zero, at_cons_succ, SO.isMap, SO.sz, SO.el, SO.n, SO.ro, List.drop_zero, List.drop_succ_cons, List.take_succ_cons, List.take_zero, Bool.false_eq_true, forall_const, imp_self, Bool.true_and, Bool.and_true, Bool.not_true, Bool.not_false, cond_true, cond_false, Nat.reduceSub, Nat.reduceMul, List.cons.injEq, decide_eq_true_eq, decide_eq_false_iff_not, List.set_cons_zero, List.set_cons_succ, implies_true, Nat.zero_add, mkCf, opsGet, quietOp, opClass, beq_self_eq_true, Option.bind_some, Option.bind_none, List.contains_nil, List.all_cons, List.all_nil, okLeaf, spl, cellV, isU8T, isSlS, fillS, fillP, repl, rowBytes_one, List.append_nil, List.length_append, List.nil_append, List.all_nil, Option.isSome_some, SO.put, SV.mapH, Nat.lt_add_one, Int.reduceLT, Int.reduceLE, if_true, if_false, te_3, te_4, te_5, te_9, te_36, te_30, te_33, pe_l14Int_lt_eq]
  have hl := sdec_length (n.tdiv 10)
  have hl2 := sdec_length (0 - n)
  refine ⟨fun hneg => ?_, fun hpos => ⟨fun h10 => ?_, fun h10 => ?_⟩⟩
  · refine Chk.mk (by simp only [inR]; omega) fun _ => Chk.mk ⟨by omega, by rw [if_pos hneg] at hm; rw [if_neg (by omega)]; omega⟩ fun _ => Chk.mk (by omega) fun _ => ?_
    rw [sdec_nonneg (by omega)]
    unfold sdec
    rw [if_pos hneg, Int.zero_sub]
  · refine Chk.mk (by simp only [inR]; omega) fun _ => Chk.mk (by simp only [inR]; omega) fun _ => ⟨isU8_one, ?_⟩
    rw [sdec_nonneg (by omega), dec, dif_pos (by omega)]
    have : (48 + n).toNat = 48 + n.toNat := by omega
    rw [this]
  · obtain ⟨m, rfl⟩ : ∃ m : Nat, n = m := ⟨n.toNat, by omega⟩
    have e1 : (m : Int).tmod 10 = ((m % 10 : Nat) : Int) := tmod_nat m 10
    have e2 : (m : Int).tdiv 10 = ((m / 10 : Nat) : Int) := tdiv_nat m 10
    rw [e2] at hl
    rw [e1, e2]
    have hfin : SV.s (sdec ((m / 10 : Nat) : Int) ++ [UInt8.ofNat (48 + ((m % 10 : Nat) : Int)).toNat]) = SV.s (sdec (m : Int)) := by
      have e3 : ((48 : Int) + ((m % 10 : Nat) : Int)).toNat = 48 + m % 10 := by omega
      have hd : dec m = dec (m / 10) ++ [UInt8.ofNat (48 + m % 10)] := by rw [dec, dif_neg (by omega)]
      rw [sdec_nonneg (by omega), sdec_nonneg (by omega), e3, Int.toNat_natCast, Int.toNat_natCast, hd]
    have hcall : (-9007199254740992 ≤ ((m / 10 : Nat) : Int) ∧ ((m / 10 : Nat) : Int) ≤ 9007199254740992) ∧ (2 * ((m / 10 : Nat) : Int).natAbs + if ((m / 10 : Nat) : Int) < 0 then 1 else 0) < bound := by
      rw [if_neg (by omega)] at hm ⊢
      omega
    refine ⟨by kernel_rfl, ?_⟩
    repeat' (first | exact isU8_one | exact hfin | refine Chk.mk (by first | decide | exact hcall | (simp only [inR]; omega) | omega) fun _ => ?_ | refine And.intro ?_ ?_ | decide)
theorem l14Int (n : Int) (hp : -9007199254740992 ≤ n ∧ n ≤ 9007199254740992) : PF Try.prog 58 [.i .i64 n] (.s (sdec n)) := l14Int_aux ((2 * n.natAbs + (if n < 0 then 1 else 0)) + 1) n hp (Nat.lt_succ_self _)
def pe_l14Int : PE := fun args _ => match args with
  | [.i .i64 n] => some (-9007199254740992 ≤ n ∧ n ≤ 9007199254740992, .s (sdec n))
  | _ => none
theorem pe_l14Int_eq {n : Int} {c : Ctx} : pe_l14Int [.i .i64 n] c = some (-9007199254740992 ≤ n ∧ n ≤ 9007199254740992, .s (sdec n)) := id rfl
theorem pe_l14Int_ok : PE1 Try.prog 58 pe_l14Int := by
  intro args ctx p z h hp
  unfold pe_l14Int at h
  split at h
  · cases h; exact (l14Int _ hp).call ctx
  · cases h
theorem within (x lo hi : Int) : PF Try.prog 57 [.i .i64 x, .i .i64 lo, .i .i64 hi] (.b (decide (lo ≤ x) && decide (x ≤ hi))) := by
  refine ⟨rfl, rfl, FnOK.of (cf := mkCf Try.prog te [] 15 0 false (fun _ => false) (kp [(0, [0, 1, 2]), (1, [6])]) [] []) (mkCf_ok te_ok (pt := []) trivial mixed_ok) Try.func57 rfl rfl rfl (by simp [mkCf]) rfl (rs := [.tmp 6]) rfl 100000 ?_⟩
  simp only [↓vc_nil, ↓vc_blk, ↓vc_stop, ↓vc_skip, ↓vc_ret, ↓vc_seq, ↓vc_region, ↓vc_draw, ↓vc_block, ↓vc_loop, ↓vc_exitK, ↓popK_blk, ↓popK_blk, ↓popK_code, ↓popK_stop, ↓xcond_b, ↓xcond_true, ↓xcond_false, ↓vc_cond, ↓XL_nil, ↓XL_cons, ↓XL_consg, ↓xguard_f, ↓guardC_b, ↓guardC_gd, ↓ung_gd, ↓ung_b, ↓ung_i, ↓ung_s, ↓ung_ptr, ↓ung_slc, ↓ung_nils, ↓ung_mp, ↓ung_agg, ↓ung_tup, ↓ifPtr_ptr, ↓ifSlc_slc, ↓ifB_b, ↓ifI_i, ↓ifS_s, ↓ifTup_tup, ↓ifStruct_struct, ↓ifSlice_slice, ↓onO_some, ↓iteP_true, ↓iteP_false, ↓resQ_nil, ↓resQ_tmp, ↓resQ_cell, ↓oLen_s, ↓oLen_slc, ↓oLen_nils, ↓XOne_move, ↓XOne_assign, ↓XOne_pick, ↓XOne_fieldAddr, ↓XOne_indexAddr, ↓XOne_index, ↓XOne_extract, ↓XOne_not, ↓XOne_neg, ↓XOne_binOp, ↓XOne_slice, ↓XOne_len, ↓XOne_load, ↓XOne_box, ↓XOne_alloc, ↓XOne_store, ↓oCall_some, ↓oCallT_some, ↓oCallT_none, ↓XOne_call, ↓XOne_nilCheck, ↓XOne_min, ↓XOne_max, ↓XOne_build, ↓bnds_none, ↓bnds_some, ↓xcuts_s, ↓xcuts_slc, ↓oConv_ss, ↓oConv_st, ↓oConv_ii, ↓oConv_is, ↓oConv_tt, ↓xconvs_i, ↓xconvs_iw, ↓xconvs_s, ↓xconvs_u, ↓ifRow_row, ↓oStr_slc, ↓oStr_nils, ↓XOne_convert, ↓XOne_buildSlice, ↓XOne_makeSlice, ↓oSrc_nils, ↓oSrc_s, ↓oSrc_slc, ↓ifRowW_row, ↓oApp_nils, ↓oApp_slc, ↓XOne_append, ↓xbin_add, ↓xbin_add_w, ↓xbin_sub, ↓xbin_sub_w, ↓xbin_mul, ↓xbin_mul_w, ↓xbin_quo, ↓xbin_rem, ↓xbin_and, ↓xbin_xor, ↓xbin_shr, ↓xbin_eql_i, ↓xbin_neq_i, ↓xbin_lss_i, ↓xbin_leq_i, ↓xbin_gtr_i, ↓xbin_geq_i, ↓xbin_add_s, ↓xbin_eql_s, ↓xbin_neq_s, ↓xbin_eql_b, ↓xbin_neq_b, ↓xbin_eql_a, ↓xbin_neq_a, ↓putS_none, ↓putS_some, ↓drS_hit, ↓drS_miss, ↓XDs_end0, ↓XDs_end1, ↓XDs_q0, ↓XDs_q1, ↓XDs_alt, ↓XDs_none, ↓XDs_sw, ↓XSs_none, ↓XSs_some, newRw_zero, newRw_zero, newRw_succ, cond_ff, cond_tt, dstOf_zero, dstOf_succ, gz_f, gz_t, mkgd_b, mkgd_i, mkgd_s, mkgd_ptr, mkgd_slc, mkgd_nils, mkgd_mp, mkgd_agg, mkgd_tup, mkgd_gd, tupS_one, tupS_two, tupS_three, tupS_four, ev_tmp, ev_int, ev_bool, ev_str, ev_nils, ev_func, look_cons, trim_eq, addObj_eq, setObj_eq, ptOf_hit, ptOf_miss, kp_cons, ptOf_nil, opsGet, freeze_cons, freeze_nil, maskC_cons, maskC_nil, thaw_cons, thaw_nil, mkRo1_row, mkRo1_blk, isCut_nil, newRw_nil, Chk_true, entry, List.map_cons, List.map_nil, reduceIte, Nat.reduceAdd, Nat.reduceLT, Nat.reduceEqDiff, Nat.reduceBEq, Nat.reduceLeDiff, reduceCtorEq, and_true, true_and, ne_eq, not_false_eq_true, isStr, tdOf, szOf, TD.isStruct, okCell, cellsOf, List.nil_append, List.cons_append, List.length_nil, List.length_cons, List.getElem?_cons_zero, List.getElem?_cons_succ, Nat.zero_add, List.getD_cons_zero, List.getD_cons_succ, at_cons_zero, at_cons_succ, SO.isMap, SO.sz, SO.el, SO.n, SO.ro, List.drop_zero, List.drop_succ_cons, List.take_succ_cons, List.take_zero, Bool.false_eq_true, forall_const, imp_self, Bool.true_and, Bool.and_true, Bool.not_true, Bool.not_false, cond_true, cond_false, Nat.reduceSub, Nat.reduceMul, List.cons.injEq, decide_eq_true_eq, decide_eq_false_iff_not, List.set_cons_zero, List.set_cons_succ, implies_true, Nat.zero_add, mkCf, opsGet, quietOp, opClass, beq_self_eq_true, Option.bind_some, Option.bind_none, List.contains_nil, List.all_cons, List.all_nil, okLeaf, spl, cellV, isU8T, isSlS, fillS, fillP, repl, rowBytes_one, List.append_nil, List.length_append, List.nil_append, List.all_nil, Option.isSome_some, SO.put, SV.mapH, Nat.lt_add_one, Int.reduceLT, Int.reduceLE, if_true, if_false, te_3, te_4, te_5, te_9, te_36, te_30, te_33]

def pe_within : PE := fun args _ => match args with
  | [.i .i64 x, .i .i64 lo, .i .i64 hi] => some (True, .b (decide (lo ≤ x) && decide (x ≤ hi)))
  | _ => none
theorem pe_within_eq {x lo hi : Int} {c : Ctx} : pe_within [.i .i64 x, .i .i64 lo, .i .i64 hi] c = some (True, .b (decide (lo ≤ x) && decide (x ≤ hi))) := id rfl
theorem pe_within_ok : PE1 Try.prog 57 pe_within := by
  intro args ctx p z h hp
  unfold pe_within at h
  split at h
  · cases h; exact (within _ _ _).call ctx
  · cases h
def valueText (k n : Int) (b : Bool) (s : List UInt8) : List UInt8 :=
  if k = 1 then [110, 117, 108, 108] else if k = 2 then (if b = true then [116, 114, 117, 101] else [102, 97, 108, 115, 101])
  else if k = 3 then (if -9007199254740991 ≤ n ∧ n ≤ 9007199254740991 then [105, 110, 116, 32] ++ sdec n else [])
  else if k = 4 then [116, 101, 120, 116, 32] ++ s else if k = 5 then [108, 105, 115, 116] else if k = 6 then [109, 97, 112] else if k = 7 then [111, 116, 104, 101, 114, 32] ++ s else if k = 8 then [97, 108, 105, 97, 115, 32] ++ s else []
theorem implValueText (k n : Int) (b : Bool) (s : List UInt8) (hp : s.length ≤ 1048576) : PF Try.prog 22 [.agg [.i .i64 k, .i .i64 n, .b b, .s s]] (.s (valueText k n b s)) := by
  refine ⟨rfl, rfl, FnOK.of (cf := mkCf Try.prog te [(57, pe_within), (59, pe_decimal)] 50 0 false (fun _ => false) (kp [(0, [1]), (1, [1, 4]), (2, [1, 4, 5]), (3, [2]), (4, [1, 4, 7]), (5, [10]), (6, [2]), (7, [2]), (8, [1, 4, 11]), (9, [1, 13]), (10, [2]), (11, [1, 18]), (12, [2]), (13, [2]), (14, [1, 4, 31]), (15, [2]), (16, [1, 4, 36]), (17, [2]), (18, [1, 4, 41]), (19, [2]), (20, [4, 46]), (21, [2]), (22, [48]), (23, [2]), (24, [2])]) [] []) (mkCf_ok te_ok (pt := [(57, pe_within), (59, pe_decimal)]) ⟨pe_within_ok, pe_decimal_ok, trivial⟩ mixed_ok) Try.func22 rfl rfl rfl (by simp [mkCf]) rfl (rs := [.tmp 2]) rfl 100000 ?_⟩
  simp only [↓vc_nil, ↓vc_blk, ↓vc_stop, ↓vc_skip, ↓vc_ret, ↓vc_seq, ↓vc_region, ↓vc_draw, ↓vc_block, ↓vc_loop, ↓vc_exitK, ↓popK_blk, ↓popK_blk, ↓popK_code, ↓popK_stop, ↓xcond_b, ↓xcond_true, ↓xcond_false, ↓vc_cond, ↓XL_nil, ↓XL_cons, ↓XL_consg, ↓xguard_f, ↓guardC_b, ↓guardC_gd, ↓ung_gd, ↓ung_b, ↓ung_i, ↓ung_s, ↓ung_ptr, ↓ung_slc, ↓ung_nils, ↓ung_mp, ↓ung_agg, ↓ung_tup, ↓ifPtr_ptr, ↓ifSlc_slc, ↓ifB_b, ↓ifI_i, ↓ifS_s, ↓ifTup_tup, ↓ifStruct_struct, ↓ifSlice_slice, ↓onO_some, ↓iteP_true, ↓iteP_false, ↓resQ_nil, ↓resQ_tmp, ↓resQ_cell, ↓oLen_s, ↓oLen_slc, ↓oLen_nils, ↓XOne_move, ↓XOne_assign, ↓XOne_pick, ↓XOne_fieldAddr, ↓XOne_indexAddr, ↓XOne_index, ↓XOne_extract, ↓XOne_not, ↓XOne_neg, ↓XOne_binOp, ↓XOne_slice, ↓XOne_len, ↓XOne_load, ↓XOne_box, ↓XOne_alloc, ↓XOne_store, ↓oCall_some, ↓oCallT_some, ↓oCallT_none, ↓XOne_call, ↓XOne_nilCheck, ↓XOne_min, ↓XOne_max, ↓XOne_build, ↓bnds_none, ↓bnds_some, ↓xcuts_s, ↓xcuts_slc, ↓oConv_ss, ↓oConv_st, ↓oConv_ii, ↓oConv_is, ↓oConv_tt, ↓xconvs_i, ↓xconvs_iw, ↓xconvs_s, ↓xconvs_u, ↓ifRow_row, ↓oStr_slc, ↓oStr_nils, ↓XOne_convert, ↓XOne_buildSlice, ↓XOne_makeSlice, ↓oSrc_nils, ↓oSrc_s, ↓oSrc_slc, ↓ifRowW_row, ↓oApp_nils, ↓oApp_slc, ↓XOne_append, ↓xbin_add, ↓xbin_add_w, ↓xbin_sub, ↓xbin_sub_w, ↓xbin_mul, ↓xbin_mul_w, ↓xbin_quo, ↓xbin_rem, ↓xbin_and, ↓xbin_xor, ↓xbin_shr, ↓xbin_eql_i, ↓xbin_neq_i, ↓xbin_lss_i, ↓xbin_leq_i, ↓xbin_gtr_i, ↓xbin_geq_i, ↓xbin_add_s, ↓xbin_eql_s, ↓xbin_neq_s, ↓xbin_eql_b, ↓xbin_neq_b, ↓xbin_eql_a, ↓xbin_neq_a, ↓putS_none, ↓putS_some, ↓drS_hit, ↓drS_miss, ↓XDs_end0, ↓XDs_end1, ↓XDs_q0, ↓XDs_q1, ↓XDs_alt, ↓XDs_none, ↓XDs_sw, ↓XSs_none, ↓XSs_some, newRw_zero, newRw_zero, newRw_succ, cond_ff, cond_tt, dstOf_zero, dstOf_succ, gz_f, gz_t, mkgd_b, mkgd_i, mkgd_s, mkgd_ptr, mkgd_slc, mkgd_nils, mkgd_mp, mkgd_agg, mkgd_tup, mkgd_gd, tupS_one, tupS_two, tupS_three, tupS_four, ev_tmp, ev_int, ev_bool, ev_str, ev_nils, ev_func, look_cons, trim_eq, addObj_eq, setObj_eq, ptOf_hit, ptOf_miss, kp_cons, ptOf_nil, opsGet, freeze_cons, freeze_nil, maskC_cons, maskC_nil, thaw_cons, thaw_nil, mkRo1_row, mkRo1_blk, isCut_nil, newRw_nil, Chk_true, entry, List.map_cons, List.map_nil, reduceIte, Nat.reduceAdd, Nat.reduceLT, Nat.reduceEqDiff, Nat.reduceBEq, Nat.reduceLeDiff, reduceCtorEq, and_true, true_and, ne_eq, not_false_eq_true, isStr, tdOf, szOf, TD.isStruct, okCell, cellsOf, List.nil_append, List.cons_append, List.length_nil, List.length_cons, List.getElem?_cons_zero, List.getElem?_cons_succ, Nat.zero_add, List.getD_cons_zero, List.getD_cons_succ, at_cons_zero, at_cons_succ, SO.isMap, SO.sz, SO.el, SO.n, SO.ro, List.drop_zero, List.drop_succ_cons, List.take_succ_cons, List.take_zero, Bool.false_eq_true, forall_const, imp_self, Bool.true_and, Bool.and_true, Bool.not_true, Bool.not_false, cond_true, cond_false, Nat.reduceSub, Nat.reduceMul, List.cons.injEq, decide_eq_true_eq, decide_eq_false_iff_not, List.set_cons_zero, List.set_cons_succ, implies_true, Nat.zero_add, mkCf, opsGet, quietOp, opClass, beq_self_eq_true, Option.bind_some, Option.bind_none, List.contains_nil, List.all_cons, List.all_nil, okLeaf, spl, cellV, isU8T, isSlS, fillS, fillP, repl, rowBytes_one, List.append_nil, List.length_append, List.nil_append, List.all_nil, Option.isSome_some, SO.put, SV.mapH, Nat.lt_add_one, Int.reduceLT, Int.reduceLE, if_true, if_false, te_3, te_4, te_5, te_9, te_36, te_30, te_33, pe_within_eq, pe_decimal_eq]
  have d1 := dec_length (0 - n).toNat
  have d2 := dec_length n.toNat
  have d3 := sdec_length n
  have d4 : n < 0 → sdec n = 45 :: dec (0 - n).toNat := fun h => by unfold sdec; rw [if_pos h, Int.zero_sub]
  have d5 : ¬ n < 0 → sdec n = dec n.toNat := fun h => sdec_nonneg (by omega)
  repeat' (first | refine Chk.mk (by first | omega | (simp only [inR]; simp at *; omega) | (simp at *; omega)) fun _ => ?_ | refine And.intro ?_ ?_ | intro _)
  all_goals (simp only [SV.s.injEq, valueText, List.cons_append, List.nil_append])
  all_goals grind
def pe_implValueText : PE := fun args _ => match args with
  | [.agg [.i .i64 k, .i .i64 n, .b b, .s s]] => some (s.length ≤ 1048576, .s (valueText k n b s))
  | _ => none
theorem pe_implValueText_eq {k n : Int} {b : Bool} {s : List UInt8} {c : Ctx} : pe_implValueText [.agg [.i .i64 k, .i .i64 n, .b b, .s s]] c = some (s.length ≤ 1048576, .s (valueText k n b s)) := id rfl
theorem pe_implValueText_ok : PE1 Try.prog 22 pe_implValueText := by
  intro args ctx p z h hp
  unfold pe_implValueText at h
  split at h
  · cases h; exact (implValueText _ _ _ _ hp).call ctx
  · cases h
theorem specValueText (k n : Int) (b : Bool) (s : List UInt8) (hp : s.length ≤ 1048576) : PF Try.prog 20 [.agg [.i .i64 k, .i .i64 n, .b b, .s s]] (.s (valueText k n b s)) := by
  refine ⟨rfl, rfl, FnOK.of (cf := mkCf Try.prog te [(58, pe_l14Int)] 44 0 false (fun _ => false) (kp [(0, [1]), (1, [1, 4]), (2, [1, 4, 5]), (3, [2]), (4, [1, 4, 7]), (5, [10]), (6, [2]), (7, [2]), (8, [1, 4, 11]), (9, [1, 20]), (10, [2]), (11, [1, 4, 25]), (12, [2]), (13, [1, 4, 30]), (14, [2]), (15, [1, 4, 32]), (16, [2]), (17, [1, 4, 34]), (18, [2]), (19, [1, 39]), (20, [2]), (21, [2])]) [] []) (mkCf_ok te_ok (pt := [(58, pe_l14Int)]) ⟨pe_l14Int_ok, trivial⟩ mixed_ok) Try.func20 rfl rfl rfl (by simp [mkCf]) rfl (rs := [.tmp 2]) rfl 100000 ?_⟩
  simp only [↓vc_nil, ↓vc_blk, ↓vc_stop, ↓vc_skip, ↓vc_ret, ↓vc_seq, ↓vc_region, ↓vc_draw, ↓vc_block, ↓vc_loop, ↓vc_exitK, ↓popK_blk, ↓popK_blk, ↓popK_code, ↓popK_stop, ↓xcond_b, ↓xcond_true, ↓xcond_false, ↓vc_cond, ↓XL_nil, ↓XL_cons, ↓XL_consg, ↓xguard_f, ↓guardC_b, ↓guardC_gd, ↓ung_gd, ↓ung_b, ↓ung_i, ↓ung_s, ↓ung_ptr, ↓ung_slc, ↓ung_nils, ↓ung_mp, ↓ung_agg, ↓ung_tup, ↓ifPtr_ptr, ↓ifSlc_slc, ↓ifB_b, ↓ifI_i, ↓ifS_s, ↓ifTup_tup, ↓ifStruct_struct, ↓ifSlice_slice, ↓onO_some, ↓iteP_true, ↓iteP_false, ↓resQ_nil, ↓resQ_tmp, ↓resQ_cell, ↓oLen_s, ↓oLen_slc, ↓oLen_nils, ↓XOne_move, ↓XOne_assign, ↓XOne_pick, ↓XOne_fieldAddr, ↓XOne_indexAddr, ↓XOne_index, ↓XOne_extract, ↓XOne_not, ↓XOne_neg, ↓XOne_binOp, ↓XOne_slice, ↓XOne_len, ↓XOne_load, ↓XOne_box, ↓XOne_alloc, ↓XOne_store, ↓oCall_some, ↓oCallT_some, ↓oCallT_none, ↓XOne_call, ↓XOne_nilCheck, ↓XOne_min, ↓XOne_max, ↓XOne_build, ↓bnds_none, ↓bnds_some, ↓xcuts_s, ↓xcuts_slc, ↓oConv_ss, ↓oConv_st, ↓oConv_ii, ↓oConv_is, ↓oConv_tt, ↓xconvs_i, ↓xconvs_iw, ↓xconvs_s, ↓xconvs_u, ↓ifRow_row, ↓oStr_slc, ↓oStr_nils, ↓XOne_convert, ↓XOne_buildSlice, ↓XOne_makeSlice, ↓oSrc_nils, ↓oSrc_s, ↓oSrc_slc, ↓ifRowW_row, ↓oApp_nils, ↓oApp_slc, ↓XOne_append, ↓xbin_add, ↓xbin_add_w, ↓xbin_sub, ↓xbin_sub_w, ↓xbin_mul, ↓xbin_mul_w, ↓xbin_quo, ↓xbin_rem, ↓xbin_and, ↓xbin_xor, ↓xbin_shr, ↓xbin_eql_i, ↓xbin_neq_i, ↓xbin_lss_i, ↓xbin_leq_i, ↓xbin_gtr_i, ↓xbin_geq_i, ↓xbin_add_s, ↓xbin_eql_s, ↓xbin_neq_s, ↓xbin_eql_b, ↓xbin_neq_b, ↓xbin_eql_a, ↓xbin_neq_a, ↓putS_none, ↓putS_some, ↓drS_hit, ↓drS_miss, ↓XDs_end0, ↓XDs_end1, ↓XDs_q0, ↓XDs_q1, ↓XDs_alt, ↓XDs_none, ↓XDs_sw, ↓XSs_none, ↓XSs_some, newRw_zero, newRw_zero, newRw_succ, cond_ff, cond_tt, dstOf_zero, dstOf_succ, gz_f, gz_t, mkgd_b, mkgd_i, mkgd_s, mkgd_ptr, mkgd_slc, mkgd_nils, mkgd_mp, mkgd_agg, mkgd_tup, mkgd_gd, tupS_one, tupS_two, tupS_three, tupS_four, ev_tmp, ev_int, ev_bool, ev_str, ev_nils, ev_func, look_cons, trim_eq, addObj_eq, setObj_eq, ptOf_hit, ptOf_miss, kp_cons, ptOf_nil, opsGet, freeze_cons, freeze_nil, maskC_cons, maskC_nil, thaw_cons, thaw_nil, mkRo1_row, mkRo1_blk, isCut_nil, newRw_nil, Chk_true, entry, List.map_cons, List.map_nil, reduceIte, Nat.reduceAdd, Nat.reduceLT, Nat.reduceEqDiff, Nat.reduceBEq, Nat.reduceLeDiff, reduceCtorEq, and_true, true_and, ne_eq, not_false_eq_true, isStr, tdOf, szOf, TD.isStruct, okCell, cellsOf, List.nil_append, List.cons_append, List.length_nil, List.length_cons, List.getElem?_cons_zero, List.getElem?_cons_succ, Nat.zero_add, List.getD_cons_zero, List.getD_cons_succ, at_cons_zero, at_cons_succ, SO.isMap, SO.sz, SO.el, SO.n, SO.ro, List.drop_zero, List.drop_succ_cons, List.take_succ_cons, List.take_zero, Bool.false_eq_true, forall_const, imp_self, Bool.true_and, Bool.and_true, Bool.not_true, Bool.not_false, cond_true, cond_false, Nat.reduceSub, Nat.reduceMul, List.cons.injEq, decide_eq_true_eq, decide_eq_false_iff_not, List.set_cons_zero, List.set_cons_succ, implies_true, Nat.zero_add, mkCf, opsGet, quietOp, opClass, beq_self_eq_true, Option.bind_some, Option.bind_none, List.contains_nil, List.all_cons, List.all_nil, okLeaf, spl, cellV, isU8T, isSlS, fillS, fillP, repl, rowBytes_one, List.append_nil, List.length_append, List.nil_append, List.all_nil, Option.isSome_some, SO.put, SV.mapH, Nat.lt_add_one, Int.reduceLT, Int.reduceLE, if_true, if_false, te_3, te_4, te_5, te_9, te_36, te_30, te_33, pe_l14Int_eq]
  have d1 := dec_length (0 - n).toNat
  have d2 := dec_length n.toNat
  have d3 := sdec_length n
  have d4 : n < 0 → sdec n = 45 :: dec (0 - n).toNat := fun h => by unfold sdec; rw [if_pos h, Int.zero_sub]
  have d5 : ¬ n < 0 → sdec n = dec n.toNat := fun h => sdec_nonneg (by omega)
  repeat' (first | refine Chk.mk (by first | omega | (simp only [inR]; simp at *; omega) | (simp at *; omega)) fun _ => ?_ | refine And.intro ?_ ?_ | intro _)
  all_goals (simp only [SV.s.injEq, valueText, List.cons_append, List.nil_append])
  all_goals grind
def pe_specValueText : PE := fun args _ => match args with
  | [.agg [.i .i64 k, .i .i64 n, .b b, .s s]] => some (s.length ≤ 1048576, .s (valueText k n b s))
  | _ => none
theorem pe_specValueText_eq {k n : Int} {b : Bool} {s : List UInt8} {c : Ctx} : pe_specValueText [.agg [.i .i64 k, .i .i64 n, .b b, .s s]] c = some (s.length ≤ 1048576, .s (valueText k n b s)) := id rfl
theorem pe_specValueText_ok : PE1 Try.prog 20 pe_specValueText := by
  intro args ctx p z h hp
  unfold pe_specValueText at h
  split at h
  · cases h; exact (specValueText _ _ _ _ hp).call ctx
  · cases h
theorem toValue (k n : Int) (b : Bool) (s : List UInt8) : PF Try.prog 21 [.agg [.i .i64 k, .i .i64 n, .b b, .s s]] (.agg [.i .i64 k, .i .i64 n, .b b, .s s]) := by
  refine ⟨rfl, rfl, FnOK.of (cf := mkCf Try.prog te [] 17 0 false (fun _ => false) (kp [(0, [1, 2]), (1, [1, 2, 3]), (2, [1, 2, 3]), (3, [1, 2, 3]), (4, [1, 2, 3]), (5, [2, 3]), (6, [2])]) [] []) (mkCf_ok te_ok (pt := []) trivial mixed_ok) Try.func21 rfl rfl rfl (by simp [mkCf]) rfl (rs := [.cell 2 33]) rfl 100000 ?_⟩
  simp only [↓vc_nil, ↓vc_blk, ↓vc_stop, ↓vc_skip, ↓vc_ret, ↓vc_seq, ↓vc_region, ↓vc_draw, ↓vc_block, ↓vc_loop, ↓vc_exitK, ↓popK_blk, ↓popK_blk, ↓popK_code, ↓popK_stop, ↓xcond_b, ↓xcond_true, ↓xcond_false, ↓vc_cond, ↓XL_nil, ↓XL_cons, ↓XL_consg, ↓xguard_f, ↓guardC_b, ↓guardC_gd, ↓ung_gd, ↓ung_b, ↓ung_i, ↓ung_s, ↓ung_ptr, ↓ung_slc, ↓ung_nils, ↓ung_mp, ↓ung_agg, ↓ung_tup, ↓ifPtr_ptr, ↓ifSlc_slc, ↓ifB_b, ↓ifI_i, ↓ifS_s, ↓ifTup_tup, ↓ifStruct_struct, ↓ifSlice_slice, ↓onO_some, ↓iteP_true, ↓iteP_false, ↓resQ_nil, ↓resQ_tmp, ↓resQ_cell, ↓oLen_s, ↓oLen_slc, ↓oLen_nils, ↓XOne_move, ↓XOne_assign, ↓XOne_pick, ↓XOne_fieldAddr, ↓XOne_indexAddr, ↓XOne_index, ↓XOne_extract, ↓XOne_not, ↓XOne_neg, ↓XOne_binOp, ↓XOne_slice, ↓XOne_len, ↓XOne_load, ↓XOne_box, ↓XOne_alloc, ↓XOne_store, ↓oCall_some, ↓oCallT_some, ↓oCallT_none, ↓XOne_call, ↓XOne_nilCheck, ↓XOne_min, ↓XOne_max, ↓XOne_build, ↓bnds_none, ↓bnds_some, ↓xcuts_s, ↓xcuts_slc, ↓oConv_ss, ↓oConv_st, ↓oConv_ii, ↓oConv_is, ↓oConv_tt, ↓xconvs_i, ↓xconvs_iw, ↓xconvs_s, ↓xconvs_u, ↓ifRow_row, ↓oStr_slc, ↓oStr_nils, ↓XOne_convert, ↓XOne_buildSlice, ↓XOne_makeSlice, ↓oSrc_nils, ↓oSrc_s, ↓oSrc_slc, ↓ifRowW_row, ↓oApp_nils, ↓oApp_slc, ↓XOne_append, ↓xbin_add, ↓xbin_add_w, ↓xbin_sub, ↓xbin_sub_w, ↓xbin_mul, ↓xbin_mul_w, ↓xbin_quo, ↓xbin_rem, ↓xbin_and, ↓xbin_xor, ↓xbin_shr, ↓xbin_eql_i, ↓xbin_neq_i, ↓xbin_lss_i, ↓xbin_leq_i, ↓xbin_gtr_i, ↓xbin_geq_i, ↓xbin_add_s, ↓xbin_eql_s, ↓xbin_neq_s, ↓xbin_eql_b, ↓xbin_neq_b, ↓xbin_eql_a, ↓xbin_neq_a, ↓putS_none, ↓putS_some, ↓drS_hit, ↓drS_miss, ↓XDs_end0, ↓XDs_end1, ↓XDs_q0, ↓XDs_q1, ↓XDs_alt, ↓XDs_none, ↓XDs_sw, ↓XSs_none, ↓XSs_some, newRw_zero, newRw_zero, newRw_succ, cond_ff, cond_tt, dstOf_zero, dstOf_succ, gz_f, gz_t, mkgd_b, mkgd_i, mkgd_s, mkgd_ptr, mkgd_slc, mkgd_nils, mkgd_mp, mkgd_agg, mkgd_tup, mkgd_gd, tupS_one, tupS_two, tupS_three, tupS_four, ev_tmp, ev_int, ev_bool, ev_str, ev_nils, ev_func, look_cons, trim_eq, addObj_eq, setObj_eq, ptOf_hit, ptOf_miss, kp_cons, ptOf_nil, opsGet, freeze_cons, freeze_nil, maskC_cons, maskC_nil, thaw_cons, thaw_nil, mkRo1_row, mkRo1_blk, isCut_nil, newRw_nil, Chk_true, entry, List.map_cons, List.map_nil, reduceIte, Nat.reduceAdd, Nat.reduceLT, Nat.reduceEqDiff, Nat.reduceBEq, Nat.reduceLeDiff, reduceCtorEq, and_true, true_and, ne_eq, not_false_eq_true, isStr, tdOf, szOf, TD.isStruct, okCell, cellsOf, List.nil_append, List.cons_append, List.length_nil, List.length_cons, List.getElem?_cons_zero, List.getElem?_cons_succ, Nat.zero_add, List.getD_cons_zero, List.getD_cons_succ, at_cons_zero, at_cons_succ, SO.isMap, SO.sz, SO.el, SO.n, SO.ro, List.drop_zero, List.drop_succ_cons, List.take_succ_cons, List.take_zero, Bool.false_eq_true, forall_const, imp_self, Bool.true_and, Bool.and_true, Bool.not_true, Bool.not_false, cond_true, cond_false, Nat.reduceSub, Nat.reduceMul, List.cons.injEq, decide_eq_true_eq, decide_eq_false_iff_not, List.set_cons_zero, List.set_cons_succ, implies_true, Nat.zero_add, mkCf, opsGet, quietOp, opClass, beq_self_eq_true, Option.bind_some, Option.bind_none, List.contains_nil, List.all_cons, List.all_nil, okLeaf, spl, cellV, isU8T, isSlS, fillS, fillP, repl, rowBytes_one, List.append_nil, List.length_append, List.nil_append, List.all_nil, Option.isSome_some, SO.put, SV.mapH, Nat.lt_add_one, Int.reduceLT, Int.reduceLE, if_true, if_false, te_3, te_4, te_5, te_9, te_36, te_30, te_33]
  repeat' (first | refine Chk.mk (by simp only [inR]; grind) fun _ => ?_ | refine And.intro ?_ ?_ | intro _)
  all_goals (try simp only [SV.b.injEq, SV.i.injEq, SV.agg.injEq])
  all_goals grind
def pe_toValue : PE := fun args _ => match args with
  | [.agg [.i .i64 k, .i .i64 n, .b b, .s s]] => some (True, .agg [.i .i64 k, .i .i64 n, .b b, .s s])
  | _ => none
theorem pe_toValue_eq {k n : Int} {b : Bool} {s : List UInt8} {c : Ctx} : pe_toValue [.agg [.i .i64 k, .i .i64 n, .b b, .s s]] c = some (True, .agg [.i .i64 k, .i .i64 n, .b b, .s s]) := id rfl
theorem pe_toValue_ok : PE1 Try.prog 21 pe_toValue := by
  intro args ctx p z h hp
  unfold pe_toValue at h
  split at h
  · cases h; exact (toValue _ _ _ _).call ctx
  · cases h
theorem szValue (k n : Int) (b : Bool) (s : List UInt8) (left : Int) (hp : 0 ≤ left ∧ left ≤ 1048576 ∧ s.length ≤ 9223372036854775807) : PF Try.prog 19 [.agg [.i .i64 k, .i .i64 n, .b b, .s s], .i .i64 left] (.i .i64 (if left - s.length < 0 then -1 else left - s.length)) := by
  refine ⟨rfl, rfl, FnOK.of (cf := mkCf Try.prog te [] 13 0 false (fun _ => false) (kp [(0, [1, 2]), (1, [1]), (2, [1, 11]), (3, [4]), (4, [4])]) [] []) (mkCf_ok te_ok (pt := []) trivial mixed_ok) Try.func19 rfl rfl rfl (by simp [mkCf]) rfl (rs := [.tmp 4]) rfl 100000 ?_⟩
  simp only [↓vc_nil, ↓vc_blk, ↓vc_stop, ↓vc_skip, ↓vc_ret, ↓vc_seq, ↓vc_region, ↓vc_draw, ↓vc_block, ↓vc_loop, ↓vc_exitK, ↓popK_blk, ↓popK_blk, ↓popK_code, ↓popK_stop, ↓xcond_b, ↓xcond_true, ↓xcond_false, ↓vc_cond, ↓XL_nil, ↓XL_cons, ↓XL_consg, ↓xguard_f, ↓guardC_b, ↓guardC_gd, ↓ung_gd, ↓ung_b, ↓ung_i, ↓ung_s, ↓ung_ptr, ↓ung_slc, ↓ung_nils, ↓ung_mp, ↓ung_agg, ↓ung_tup, ↓ifPtr_ptr, ↓ifSlc_slc, ↓ifB_b, ↓ifI_i, ↓ifS_s, ↓ifTup_tup, ↓ifStruct_struct, ↓ifSlice_slice, ↓onO_some, ↓iteP_true, ↓iteP_false, ↓resQ_nil, ↓resQ_tmp, ↓resQ_cell, ↓oLen_s, ↓oLen_slc, ↓oLen_nils, ↓XOne_move, ↓XOne_assign, ↓XOne_pick, ↓XOne_fieldAddr, ↓XOne_indexAddr, ↓XOne_index, ↓XOne_extract, ↓XOne_not, ↓XOne_neg, ↓XOne_binOp, ↓XOne_slice, ↓XOne_len, ↓XOne_load, ↓XOne_box, ↓XOne_alloc, ↓XOne_store, ↓oCall_some, ↓oCallT_some, ↓oCallT_none, ↓XOne_call, ↓XOne_nilCheck, ↓XOne_min, ↓XOne_max, ↓XOne_build, ↓bnds_none, ↓bnds_some, ↓xcuts_s, ↓xcuts_slc, ↓oConv_ss, ↓oConv_st, ↓oConv_ii, ↓oConv_is, ↓oConv_tt, ↓xconvs_i, ↓xconvs_iw, ↓xconvs_s, ↓xconvs_u, ↓ifRow_row, ↓oStr_slc, ↓oStr_nils, ↓XOne_convert, ↓XOne_buildSlice, ↓XOne_makeSlice, ↓oSrc_nils, ↓oSrc_s, ↓oSrc_slc, ↓ifRowW_row, ↓oApp_nils, ↓oApp_slc, ↓XOne_append, ↓xbin_add, ↓xbin_add_w, ↓xbin_sub, ↓xbin_sub_w, ↓xbin_mul, ↓xbin_mul_w, ↓xbin_quo, ↓xbin_rem, ↓xbin_and, ↓xbin_xor, ↓xbin_shr, ↓xbin_eql_i, ↓xbin_neq_i, ↓xbin_lss_i, ↓xbin_leq_i, ↓xbin_gtr_i, ↓xbin_geq_i, ↓xbin_add_s, ↓xbin_eql_s, ↓xbin_neq_s, ↓xbin_eql_b, ↓xbin_neq_b, ↓xbin_eql_a, ↓xbin_neq_a, ↓putS_none, ↓putS_some, ↓drS_hit, ↓drS_miss, ↓XDs_end0, ↓XDs_end1, ↓XDs_q0, ↓XDs_q1, ↓XDs_alt, ↓XDs_none, ↓XDs_sw, ↓XSs_none, ↓XSs_some, newRw_zero, newRw_zero, newRw_succ, cond_ff, cond_tt, dstOf_zero, dstOf_succ, gz_f, gz_t, mkgd_b, mkgd_i, mkgd_s, mkgd_ptr, mkgd_slc, mkgd_nils, mkgd_mp, mkgd_agg, mkgd_tup, mkgd_gd, tupS_one, tupS_two, tupS_three, tupS_four, ev_tmp, ev_int, ev_bool, ev_str, ev_nils, ev_func, look_cons, trim_eq, addObj_eq, setObj_eq, ptOf_hit, ptOf_miss, kp_cons, ptOf_nil, opsGet, freeze_cons, freeze_nil, maskC_cons, maskC_nil, thaw_cons, thaw_nil, mkRo1_row, mkRo1_blk, isCut_nil, newRw_nil, Chk_true, entry, List.map_cons, List.map_nil, reduceIte, Nat.reduceAdd, Nat.reduceLT, Nat.reduceEqDiff, Nat.reduceBEq, Nat.reduceLeDiff, reduceCtorEq, and_true, true_and, ne_eq, not_false_eq_true, isStr, tdOf, szOf, TD.isStruct, okCell, cellsOf, List.nil_append, List.cons_append, List.length_nil, List.length_cons, List.getElem?_cons_zero, List.getElem?_cons_succ, Nat.zero_add, List.getD_cons_zero, List.getD_cons_succ, at_cons_zero, at_cons_succ, SO.isMap, SO.sz, SO.el, SO.n, SO.ro, List.drop_zero, List.drop_succ_cons, List.take_succ_cons, List.take_zero, Bool.false_eq_true, forall_const, imp_self, Bool.true_and, Bool.and_true, Bool.not_true, Bool.not_false, cond_true, cond_false, Nat.reduceSub, Nat.reduceMul, List.cons.injEq, decide_eq_true_eq, decide_eq_false_iff_not, List.set_cons_zero, List.set_cons_succ, implies_true, Nat.zero_add, mkCf, opsGet, quietOp, opClass, beq_self_eq_true, Option.bind_some, Option.bind_none, List.contains_nil, List.all_cons, List.all_nil, okLeaf, spl, cellV, isU8T, isSlS, fillS, fillP, repl, rowBytes_one, List.append_nil, List.length_append, List.nil_append, List.all_nil, Option.isSome_some, SO.put, SV.mapH, Nat.lt_add_one, Int.reduceLT, Int.reduceLE, if_true, if_false, te_3, te_4, te_5, te_9, te_36, te_30, te_33]
  repeat' (first | refine Chk.mk (by simp only [inR]; grind) fun _ => ?_ | refine And.intro ?_ ?_ | intro _)
  all_goals (try simp only [SV.b.injEq, SV.i.injEq, SV.agg.injEq])
  all_goals grind
def pe_szValue : PE := fun args _ => match args with
  | [.agg [.i .i64 k, .i .i64 n, .b b, .s s], .i .i64 left] => some (0 ≤ left ∧ left ≤ 1048576 ∧ s.length ≤ 9223372036854775807, .i .i64 (if left - s.length < 0 then -1 else left - s.length))
  | _ => none
theorem pe_szValue_eq {k n : Int} {b : Bool} {s : List UInt8} {left : Int} {c : Ctx} : pe_szValue [.agg [.i .i64 k, .i .i64 n, .b b, .s s], .i .i64 left] c = some (0 ≤ left ∧ left ≤ 1048576 ∧ s.length ≤ 9223372036854775807, .i .i64 (if left - s.length < 0 then -1 else left - s.length)) := id rfl
theorem pe_szValue_ok : PE1 Try.prog 19 pe_szValue := by
  intro args ctx p z h hp
  unfold pe_szValue at h
  split at h
  · cases h; exact (szValue _ _ _ _ _ hp).call ctx
  · cases h
theorem law (k n : Int) (b : Bool) (s : List UInt8) (hp : s.length ≤ 9223372036854775807) : PF Try.prog 4 [.agg [.i .i64 k, .i .i64 n, .b b, .s s]] (.b true) := by
  refine ⟨rfl, rfl, FnOK.of (cf := mkCf Try.prog te [(19, pe_szValue), (21, pe_toValue), (20, pe_specValueText), (22, pe_implValueText)] 20 0 false (fun _ => false) (kp [(0, [1]), (1, [1, 3]), (2, [1, 3]), (3, [1, 10]), (4, [2]), (5, [1, 4]), (6, [4, 5]), (7, [19]), (8, [2]), (9, [2])]) [] []) (mkCf_ok te_ok (pt := [(19, pe_szValue), (21, pe_toValue), (20, pe_specValueText), (22, pe_implValueText)]) ⟨pe_szValue_ok, pe_toValue_ok, pe_specValueText_ok, pe_implValueText_ok, trivial⟩ mixed_ok) Try.func4 rfl rfl rfl (by simp [mkCf]) rfl (rs := [.tmp 2]) rfl 100000 ?_⟩
  simp only [↓vc_nil, ↓vc_blk, ↓vc_stop, ↓vc_skip, ↓vc_ret, ↓vc_seq, ↓vc_region, ↓vc_draw, ↓vc_block, ↓vc_loop, ↓vc_exitK, ↓popK_blk, ↓popK_blk, ↓popK_code, ↓popK_stop, ↓xcond_b, ↓xcond_true, ↓xcond_false, ↓vc_cond, ↓XL_nil, ↓XL_cons, ↓XL_consg, ↓xguard_f, ↓guardC_b, ↓guardC_gd, ↓ung_gd, ↓ung_b, ↓ung_i, ↓ung_s, ↓ung_ptr, ↓ung_slc, ↓ung_nils, ↓ung_mp, ↓ung_agg, ↓ung_tup, ↓ifPtr_ptr, ↓ifSlc_slc, ↓ifB_b, ↓ifI_i, ↓ifS_s, ↓ifTup_tup, ↓ifStruct_struct, ↓ifSlice_slice, ↓onO_some, ↓iteP_true, ↓iteP_false, ↓resQ_nil, ↓resQ_tmp, ↓resQ_cell, ↓oLen_s, ↓oLen_slc, ↓oLen_nils, ↓XOne_move, ↓XOne_assign, ↓XOne_pick, ↓XOne_fieldAddr, ↓XOne_indexAddr, ↓XOne_index, ↓XOne_extract, ↓XOne_not, ↓XOne_neg, ↓XOne_binOp, ↓XOne_slice, ↓XOne_len, ↓XOne_load, ↓XOne_box, ↓XOne_alloc, ↓XOne_store, ↓oCall_some, ↓oCallT_some, ↓oCallT_none, ↓XOne_call, ↓XOne_nilCheck, ↓XOne_min, ↓XOne_max, ↓XOne_build, ↓bnds_none, ↓bnds_some, ↓xcuts_s, ↓xcuts_slc, ↓oConv_ss, ↓oConv_st, ↓oConv_ii, ↓oConv_is, ↓oConv_tt, ↓xconvs_i, ↓xconvs_iw, ↓xconvs_s, ↓xconvs_u, ↓ifRow_row, ↓oStr_slc, ↓oStr_nils, ↓XOne_convert, ↓XOne_buildSlice, ↓XOne_makeSlice, ↓oSrc_nils, ↓oSrc_s, ↓oSrc_slc, ↓ifRowW_row, ↓oApp_nils, ↓oApp_slc, ↓XOne_append, ↓xbin_add, ↓xbin_add_w, ↓xbin_sub, ↓xbin_sub_w, ↓xbin_mul, ↓xbin_mul_w, ↓xbin_quo, ↓xbin_rem, ↓xbin_and, ↓xbin_xor, ↓xbin_shr, ↓xbin_eql_i, ↓xbin_neq_i, ↓xbin_lss_i, ↓xbin_leq_i, ↓xbin_gtr_i, ↓xbin_geq_i, ↓xbin_add_s, ↓xbin_eql_s, ↓xbin_neq_s, ↓xbin_eql_b, ↓xbin_neq_b, ↓xbin_eql_a, ↓xbin_neq_a, ↓putS_none, ↓putS_some, ↓drS_hit, ↓drS_miss, ↓XDs_end0, ↓XDs_end1, ↓XDs_q0, ↓XDs_q1, ↓XDs_alt, ↓XDs_none, ↓XDs_sw, ↓XSs_none, ↓XSs_some, newRw_zero, newRw_zero, newRw_succ, cond_ff, cond_tt, dstOf_zero, dstOf_succ, gz_f, gz_t, mkgd_b, mkgd_i, mkgd_s, mkgd_ptr, mkgd_slc, mkgd_nils, mkgd_mp, mkgd_agg, mkgd_tup, mkgd_gd, tupS_one, tupS_two, tupS_three, tupS_four, ev_tmp, ev_int, ev_bool, ev_str, ev_nils, ev_func, look_cons, trim_eq, addObj_eq, setObj_eq, ptOf_hit, ptOf_miss, kp_cons, ptOf_nil, opsGet, freeze_cons, freeze_nil, maskC_cons, maskC_nil, thaw_cons, thaw_nil, mkRo1_row, mkRo1_blk, isCut_nil, newRw_nil, Chk_true, entry, List.map_cons, List.map_nil, reduceIte, Nat.reduceAdd, Nat.reduceLT, Nat.reduceEqDiff, Nat.reduceBEq, Nat.reduceLeDiff, reduceCtorEq, and_true, true_and, ne_eq, not_false_eq_true, isStr, tdOf, szOf, TD.isStruct, okCell, cellsOf, List.nil_append, List.cons_append, List.length_nil, List.length_cons, List.getElem?_cons_zero, List.getElem?_cons_succ, Nat.zero_add, List.getD_cons_zero, List.getD_cons_succ, at_cons_zero, at_cons_succ, SO.isMap, SO.sz, SO.el, SO.n, SO.ro, List.drop_zero, List.drop_succ_cons, List.take_succ_cons, List.take_zero, Bool.false_eq_true, forall_const, imp_self, Bool.true_and, Bool.and_true, Bool.not_true, Bool.not_false, cond_true, cond_false, Nat.reduceSub, Nat.reduceMul, List.cons.injEq, decide_eq_true_eq, decide_eq_false_iff_not, List.set_cons_zero, List.set_cons_succ, implies_true, Nat.zero_add, mkCf, opsGet, quietOp, opClass, beq_self_eq_true, Option.bind_some, Option.bind_none, List.contains_nil, List.all_cons, List.all_nil, okLeaf, spl, cellV, isU8T, isSlS, fillS, fillP, repl, rowBytes_one, List.append_nil, List.length_append, List.nil_append, List.all_nil, Option.isSome_some, SO.put, SV.mapH, Nat.lt_add_one, Int.reduceLT, Int.reduceLE, if_true, if_false, te_3, te_4, te_5, te_9, te_36, te_30, te_33, pe_szValue_eq, pe_toValue_eq, pe_specValueText_eq, pe_implValueText_eq]
  repeat' (first | refine Chk.mk (by simp only [inR]; grind) fun _ => ?_ | refine And.intro ?_ ?_ | intro _)
  all_goals (try simp only [SV.b.injEq, SV.i.injEq, SV.agg.injEq])
  all_goals grind
def pe_law : PE := fun args _ => match args with
  | [.agg [.i .i64 k, .i .i64 n, .b b, .s s]] => some (s.length ≤ 9223372036854775807, .b true)
  | _ => none
theorem pe_law_eq {k n : Int} {b : Bool} {s : List UInt8} {c : Ctx} : pe_law [.agg [.i .i64 k, .i .i64 n, .b b, .s s]] c = some (s.length ≤ 9223372036854775807, .b true) := id rfl
theorem pe_law_ok : PE1 Try.prog 4 pe_law := by
  intro args ctx p z h hp
  unfold pe_law at h
  split at h
  · cases h; exact (law _ _ _ _ hp).call ctx
  · cases h
end Go.T4
