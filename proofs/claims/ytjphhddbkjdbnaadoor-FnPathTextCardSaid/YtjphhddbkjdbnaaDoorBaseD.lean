/- The walk's steps as equations; what follows a step is kept out of a rewriter's sight by its type. -/
import Derived.Test.YtjphhddbkjdbnaaDoorBaseC
import Derived.OrdersHeld
import Derived.WalkKit
import Derived.ProofKit
import Derived.OpenShut
import Derived.ShutString
import Derived.ChangeOld
import Derived.Below
import Derived.Carry
import Derived.SizedLaws
import Derived.Deep.Strs
section
set_option linter.unusedVariables false
set_option linter.unusedSimpArgs false
namespace Go.Vg
set_option linter.unusedSectionVars false
variable [Go.Vg.Glob]
set_option linter.unusedVariables false
set_option linter.unusedSimpArgs false
open Go.RowKit

structure Tag {α : Sort _} (a : α) : Type where
/-- What follows: a function that a later part's type hangs on, so that it is left alone. -/
structure Sl (α : Type) where
  f : α → Prop
  t : Tag f

theorem isCut_nil {c : Code} : isCut [] c = false := by unfold isCut; split <;> rfl
theorem newRw_zero {o : SO} {c : Ctx} : newRw 0 (some o :: c) = (o.ro = false ∧ newRw 0 c) := by simp [newRw]
theorem newRw_zero' {c : Ctx} : newRw 0 (none :: c) = newRw 0 c := by simp [newRw]
theorem newRw_succ {k : Nat} {o : Option SO} {c : Ctx} : newRw (k + 1) (o :: c) = newRw k c := by simp [newRw]
theorem cond_ff {a b : Bool} : (bif a then b else false) = (a && b) := by cases a <;> rfl
theorem cond_tt {a b : Bool} : (bif a then true else b) = (a || b) := by cases a <;> rfl
theorem newRw_nil {k : Nat} : newRw k [] := by simp [newRw]

def XLs (P : Program) (te : TE) (wr : Bool) (nt : Nat) (pt : PT) (sp : Bool) (ops : Array Oper) (K : Sl St) (os : List Oper) (st : St) : Prop := XL P te wr nt pt sp ops K.f os st
def XOs (P : Program) (te : TE) (wr : Bool) (nt : Nat) (pt : PT) (g c : Bool) (st : St) (o : Oper) (K : Sl St) : Prop := XOne P te wr nt pt g c st o K.f
def putSs (nt : Nat) (st : St) (d : Option Tmp) (z : SV) (K : Sl St) : Prop := putS nt st d z K.f
def ungs (c : Bool) (x : SV) (K : Sl SV) : Prop := ung c x K.f
def guardCs (want : Bool) (x : SV) (K : Sl Bool) : Prop := guardC want x K.f
def xbins (te : TE) (t : TypeId) (wr c : Bool) (op : BinOp) (x y : SV) (K : Sl SV) : Prop := xbin te t wr c op x y K.f
def drS (d : Nat → Array Oper → (St → Prop) → St → Prop) (id : Nat) (ops : Array Oper) (K : Sl St) (st : St) : Prop := d id ops K.f st
def VLoops (k : Nat) (st : St) (B : Sl ((St → Prop) × St)) : Prop := VLoop k st fun J s => B.f (J, s)
def VCuts (k : Nat) (B : Sl (St → Prop)) (R : Sl St) : Prop := VCut k B.f R.f
def XCalls (P : Program) (f : FuncId) (args : List SV) (kk : Nat) (st : St) (K : Sl (SV × St)) : Prop := XCall P f args kk st fun z s => K.f (z, s)

/-- A state, put into its simplest form before the walk goes on. -/
def nst (st : St) (K : Sl St) : Prop := K.f st
theorem nst_eq {st : St} {K : Sl St} : nst st K = K.f st := id rfl

section code
variable {cf : Cf} {F : St → Prop} {n : Nat} {r : List It} {st : St}
theorem vc_nil : vc cf F (n + 1) [] st = F st := id rfl
theorem vc_blk {i : Nat} : vc cf F (n + 1) (.blk i :: r) st = vc cf F n r st := id rfl
theorem vc_stop {J : St → Prop} : vc cf F (n + 1) (.stop J :: r) st = J st := id rfl
theorem vc_skip : vc cf F (n + 1) (.code .skip :: r) st = vc cf F n r st := id rfl
theorem vc_ret : vc cf F (n + 1) (.code .ret :: r) st = F st := id rfl
theorem vc_seq {x y : Code} (h : isCut cf.cut y = false) : vc cf F (n + 1) (.code (.seq x y) :: r) st = vc cf F n (.code x :: .code y :: r) st := by
  show (if isCut cf.cut y then _ else _) = _
  rw [if_neg (by rw [h]; exact Bool.false_ne_true)]
theorem vc_cut {x y : Code} (h : isCut cf.cut y = true) : vc cf F (n + 1) (.code (.seq x y) :: r) st = VCuts cf.k ⟨fun J => vc cf F n (.code x :: .stop J :: .code y :: r) st, ⟨⟩⟩ ⟨fun s => vc cf F n (.code y :: r) s, ⟨⟩⟩ := by
  show (if isCut cf.cut y then _ else _) = _
  rw [if_pos h]
  rfl
theorem vc_region {id : Nat} {ops : List Oper} : vc cf F (n + 1) (.code (.region id ⟨ops⟩ false) :: r) st = XLs cf.P cf.te cf.wr cf.nt cf.pt (cf.sp id) ⟨ops⟩ ⟨fun s => nst (trim (cf.keep id) s) ⟨fun s => vc cf F n r s, ⟨⟩⟩, ⟨⟩⟩ ops st := _root_.id rfl
theorem vc_draw {id : Nat} {ops : Array Oper} : vc cf F (n + 1) (.code (.region id ops true) :: r) st = drS cf.dr id ops ⟨fun s => nst (trim (cf.keep id) s) ⟨fun s => vc cf F n r s, ⟨⟩⟩, ⟨⟩⟩ st := _root_.id rfl
theorem vc_block {id : Nat} {b : Code} : vc cf F (n + 1) (.code (.block id b) :: r) st = vc cf F n (.code b :: .blk id :: r) st := _root_.id rfl
theorem vc_loop {b : Code} : vc cf F (n + 1) (.code (.loop b) :: r) st = VLoops cf.k st ⟨fun p => vc cf F n (.code b :: .stop p.1 :: r) p.2, ⟨⟩⟩ := id rfl
def popK (cf : Cf) (F : St → Prop) (n : Nat) (st : St) (id : Nat) : List It → Prop
  | [] => False
  | .blk id' :: r => if id = id' then vc cf F n r st else popK cf F n st id r
  | _ :: r => popK cf F n st id r
theorem popK_eq {id : Nat} : ∀ {r : List It}, (match popTo id r with | some r' => vc cf F n r' st | none => False) = popK cf F n st id r
  | [] => rfl
  | .blk id' :: r => by
    simp only [popTo, popK]
    by_cases h : id = id'
    · rw [if_pos h, if_pos h]
    · rw [if_neg h, if_neg h]; exact popK_eq
  | .code _ :: r => by simp only [popTo, popK]; exact popK_eq
  | .stop _ :: r => by simp only [popTo, popK]; exact popK_eq
theorem vc_exitK {id : Nat} : vc cf F (n + 1) (.code (.exit id) :: r) st = popK cf F n st id r := by
  show (match popTo id r with | some r' => vc cf F n r' st | none => False) = _
  exact popK_eq
theorem popK_blk {id : Nat} : popK cf F n st id (.blk id :: r) = vc cf F n r st := by simp [popK]
theorem popK_blk' {id i : Nat} (h : (id == i) = false) : popK cf F n st id (.blk i :: r) = popK cf F n st id r := by
  simp only [beq_eq_false_iff_ne, ne_eq] at h
  simp [popK, h]
theorem popK_code {id : Nat} {c : Code} : popK cf F n st id (.code c :: r) = popK cf F n st id r := _root_.id rfl
theorem popK_stop {id : Nat} {c : St → Prop} : popK cf F n st id (.stop c :: r) = popK cf F n st id r := _root_.id rfl
structure Tag2 (a b : Prop) : Type where
def xcond (x : SV) (p q : Prop) (t : Tag2 p q) : Prop := match x with
  | .b t => (t = true → p) ∧ (t = false → q)
  | _ => False
theorem xcond_b {t : Bool} {p q : Prop} {tg : Tag2 p q} : xcond (.b t) p q tg = ((t = true → p) ∧ (t = false → q)) := id rfl
theorem xcond_true {p q : Prop} {tg : Tag2 p q} : xcond (.b true) p q tg = p := by simp [xcond]
theorem xcond_false {p q : Prop} {tg : Tag2 p q} : xcond (.b false) p q tg = q := by simp [xcond]
theorem vc_cond {c : Operand} {x y : Code} : vc cf F (n + 1) (.code (.cond c x y) :: r) st = xcond (st.ev c) (vc cf F n (.code x :: r) st) (vc cf F n (.code y :: r) st) ⟨⟩ := id rfl
end code

section ops
variable {P : Program} {te : TE} {wr : Bool} {nt : Nat} {pt : PT} {sp g c : Bool} {ops : Array Oper} {st : St} {K : Sl St} {os : List Oper} {dst : Option Tmp} {ty : TypeId} {pos : String} {after : Array Edge} {gd : Option (Nat × Bool)}
theorem XL_nil : XLs P te wr nt pt sp ops K [] st = K.f st := id rfl
theorem XL_cons {op : Op} : XLs P te wr nt pt sp ops K (⟨dst, op, ty, pos, after, none⟩ :: os) st = XOs P te wr nt pt false true st ⟨dst, op, ty, pos, after, none⟩ ⟨XLs P te wr nt pt sp ops K os, ⟨⟩⟩ := id rfl
def xguard (sp : Bool) (P : Program) (te : TE) (wr : Bool) (nt : Nat) (pt : PT) (d : Option Tmp) (want : Bool) (st : St) (o : Oper) (K : Sl St) : Prop :=
  match d with
    | none => False
    | some d => guardC want (look st.env d) fun c =>
        if sp then (c = true → XOne P te wr nt pt false true st o K.f) ∧ (c = false → putS nt st o.dst (.gd false (.b false)) K.f)
        else XOne P te wr nt pt true c st o K.f
theorem XL_consg {op : Op} {j : Nat} {want : Bool} : XLs P te wr nt pt sp ops K (⟨dst, op, ty, pos, after, some (j, want)⟩ :: os) st = xguard sp P te wr nt pt (dstOf ops j) want st ⟨dst, op, ty, pos, after, some (j, want)⟩ ⟨XLs P te wr nt pt sp ops K os, ⟨⟩⟩ := id rfl
theorem xguard_f {d : Tmp} {want : Bool} {o : Oper} : xguard false P te wr nt pt (some d) want st o K = guardCs want (look st.env d) ⟨fun c => XOs P te wr nt pt true c st o K, ⟨⟩⟩ := id rfl
theorem dstOf_zero {o : Oper} {l : List Oper} : dstOf ⟨o :: l⟩ 0 = o.dst := id rfl
theorem dstOf_succ {o : Oper} {l : List Oper} {i : Nat} : dstOf ⟨o :: l⟩ (i + 1) = dstOf ⟨l⟩ i := by simp [dstOf]
theorem guardC_b {want : Bool} {e : Bool} {K : Sl Bool} : guardCs want (.b e) K = K.f (if want then e else !e) := id rfl
theorem guardC_gd {want g : Bool} {e : Bool} {K : Sl Bool} : guardCs want (.gd g (.b e)) K = K.f (g && (if want then e else !e)) := id rfl
theorem ung_gd {c g : Bool} {v : SV} {K : Sl SV} : ungs c (.gd g v) K = Chk (c = true → g = true) (K.f v) := id rfl
def gz (g c : Bool) (z : SV) : SV := if g then mkgd c z else z
theorem gz_f {z : SV} : gz false c z = z := id rfl
theorem gz_t {z : SV} : gz true c z = mkgd c z := id rfl
theorem ung_b {c : Bool} {x : Bool} {K : Sl SV} : ungs c (.b x) K = K.f (.b x) := id rfl
theorem ung_i {c : Bool} {k : IntKind} {x : Int} {K : Sl SV} : ungs c (.i k x) K = K.f (.i k x) := id rfl
theorem ung_s {c : Bool} {x : List UInt8} {K : Sl SV} : ungs c (.s x) K = K.f (.s x) := id rfl
theorem ung_ptr {c : Bool} {h i k : Nat} {K : Sl SV} : ungs c (.ptr h i k) K = K.f (.ptr h i k) := id rfl
theorem ung_slc {c : Bool} {h i k : Nat} {K : Sl SV} : ungs c (.slc h i k) K = K.f (.slc h i k) := id rfl
theorem ung_nils {c : Bool}  {K : Sl SV} : ungs c (.nils) K = K.f (.nils) := id rfl
theorem ung_mp {c : Bool} {h : Nat} {K : Sl SV} : ungs c (.mp h) K = K.f (.mp h) := id rfl
theorem ung_agg {c : Bool} {l : List SV} {K : Sl SV} : ungs c (.agg l) K = K.f (.agg l) := id rfl
theorem ung_tup {c : Bool} {l : List SV} {K : Sl SV} : ungs c (.tup l) K = K.f (.tup l) := id rfl
theorem ung_fs {c : Bool} {sz : Nat} {l : List (List SV)} {K : Sl SV} : ungs c (.fs sz l) K = K.f (.fs sz l) := id rfl
theorem ung_fp {c : Bool} {l : List SV} {k : Nat} {K : Sl SV} : ungs c (.fp l k) K = K.f (.fp l k) := id rfl
theorem mkgd_b {c : Bool} {x : Bool} : mkgd c (.b x) = .gd c (.b x) := id rfl
theorem mkgd_i {c : Bool} {k : IntKind} {x : Int} : mkgd c (.i k x) = .gd c (.i k x) := id rfl
theorem mkgd_s {c : Bool} {x : List UInt8} : mkgd c (.s x) = .gd c (.s x) := id rfl
theorem mkgd_ptr {c : Bool} {h i k : Nat} : mkgd c (.ptr h i k) = .gd c (.ptr h i k) := id rfl
theorem mkgd_slc {c : Bool} {h i k : Nat} : mkgd c (.slc h i k) = .gd c (.slc h i k) := id rfl
theorem mkgd_nils {c : Bool}  : mkgd c (.nils) = .gd c (.nils) := id rfl
theorem mkgd_mp {c : Bool} {h : Nat} : mkgd c (.mp h) = .gd c (.mp h) := id rfl
theorem mkgd_agg {c : Bool} {l : List SV} : mkgd c (.agg l) = .gd c (.agg l) := id rfl
theorem mkgd_tup {c : Bool} {l : List SV} : mkgd c (.tup l) = .gd c (.tup l) := id rfl
theorem mkgd_fs {c : Bool} {sz : Nat} {l : List (List SV)} : mkgd c (.fs sz l) = .gd c (.fs sz l) := id rfl
theorem mkgd_fp {c : Bool} {l : List SV} {k : Nat} : mkgd c (.fp l k) = .gd c (.fp l k) := id rfl
theorem mkgd_gd {c g : Bool} {x : SV} : mkgd c (.gd g x) = .gd (c && g) x := id rfl
def ifPtr (v : SV) (K : Sl (Nat × Nat × Nat)) : Prop := match v with
  | .ptr h i k => K.f (h, i, k)
  | _ => False
theorem ifPtr_ptr {h i k : Nat} {K : Sl (Nat × Nat × Nat)} : ifPtr (.ptr h i k) K = K.f (h, i, k) := id rfl
def ifPP (v : SV) (K : Sl (Nat × Nat × Nat)) (K2 : Sl (List SV × Nat)) : Prop := match v with
  | .ptr h i k => K.f (h, i, k)
  | .fp l k => K2.f (l, k)
  | _ => False
theorem ifPP_ptr {h i k : Nat} {K : Sl (Nat × Nat × Nat)} {K2 : Sl (List SV × Nat)} : ifPP (.ptr h i k) K K2 = K.f (h, i, k) := id rfl
theorem ifPP_fp {l : List SV} {k : Nat} {K : Sl (Nat × Nat × Nat)} {K2 : Sl (List SV × Nat)} : ifPP (.fp l k) K K2 = K2.f (l, k) := id rfl
def ifSF (v : SV) (K : Sl (Nat × Nat × Nat)) (K2 : Sl (Nat × List (List SV))) : Prop := match v with
  | .slc h i k => K.f (h, i, k)
  | .fs z l => K2.f (z, l)
  | _ => False
theorem ifSF_slc {h i k : Nat} {K : Sl (Nat × Nat × Nat)} {K2 : Sl (Nat × List (List SV))} : ifSF (.slc h i k) K K2 = K.f (h, i, k) := id rfl
theorem ifSF_fs {z : Nat} {l : List (List SV)} {K : Sl (Nat × Nat × Nat)} {K2 : Sl (Nat × List (List SV))} : ifSF (.fs z l) K K2 = K2.f (z, l) := id rfl
def ifSlc (v : SV) (K : Sl (Nat × Nat × Nat)) : Prop := match v with
  | .slc h i k => K.f (h, i, k)
  | _ => False
theorem ifSlc_slc {h i k : Nat} {K : Sl (Nat × Nat × Nat)} : ifSlc (.slc h i k) K = K.f (h, i, k) := id rfl
def ifB (v : SV) (K : Sl (Bool)) : Prop := match v with
  | .b x => K.f x
  | _ => False
theorem ifB_b {x : Bool} {K : Sl (Bool)} : ifB (.b x) K = K.f x := id rfl
def ifI (v : SV) (K : Sl (IntKind × Int)) : Prop := match v with
  | .i k x => K.f (k, x)
  | _ => False
theorem ifI_i {k : IntKind} {x : Int} {K : Sl (IntKind × Int)} : ifI (.i k x) K = K.f (k, x) := id rfl
def ifS (v : SV) (K : Sl (List UInt8)) : Prop := match v with
  | .s l => K.f l
  | _ => False
theorem ifS_s {l : List UInt8} {K : Sl (List UInt8)} : ifS (.s l) K = K.f l := id rfl
def ifTup (v : SV) (K : Sl (List SV)) : Prop := match v with
  | .tup l => K.f l
  | _ => False
theorem ifTup_tup {l : List SV} {K : Sl (List SV)} : ifTup (.tup l) K = K.f l := id rfl
def ifStruct (v : TD) (K : Sl (List (TypeId × Nat))) : Prop := match v with
  | .struct l => K.f l
  | _ => False
theorem ifStruct_struct {l : List (TypeId × Nat)} {K : Sl (List (TypeId × Nat))} : ifStruct (.struct l) K = K.f l := id rfl
def ifSlice (v : TD) (K : Sl (TypeId)) : Prop := match v with
  | .slice e => K.f e
  | _ => False
theorem ifSlice_slice {e : TypeId} {K : Sl (TypeId)} : ifSlice (.slice e) K = K.f e := id rfl
def onO {α : Type} (o : Option α) (K : Sl α) : Prop := match o with
  | some x => K.f x
  | none => False
theorem onO_some {α : Type} {x : α} {K : Sl α} : onO (some x) K = K.f x := id rfl
def iteP (b : Bool) (p q : Prop) (t : Tag2 p q) : Prop := if b then p else q
theorem iteP_true {p q : Prop} {tg : Tag2 p q} : iteP true p q tg = p := by simp [iteP]
theorem iteP_false {p q : Prop} {tg : Tag2 p q} : iteP false p q tg = q := by simp [iteP]
def isStr : TD → Bool
  | .str => true
  | _ => false
theorem resQ_nil {te : TE} {st : St} {Q : SV → Ctx → Prop} {acc : List SV} : resQ te st Q [] acc = Q (tupS acc) st.ctx := id rfl
theorem resQ_tmp {te : TE} {st : St} {Q : SV → Ctx → Prop} {acc : List SV} {t : Tmp} {r : List ResultVar} : resQ te st Q (.tmp t :: r) acc = resQ te st Q r (acc ++ [look st.env t]) := id rfl
theorem resQ_cell {te : TE} {st : St} {Q : SV → Ctx → Prop} {acc : List SV} {a : Tmp} {t : TypeId} {r : List ResultVar} : resQ te st Q (.cell a t :: r) acc = onO (cellV te st.ctx (look st.env a) t) ⟨fun x => resQ te st Q r (acc ++ [x]), ⟨⟩⟩ := by
  simp only [resQ]
  cases cellV te st.ctx (look st.env a) t <;> rfl
theorem tupS_one {x : SV} : tupS [x] = x := id rfl
theorem tupS_two {x y : SV} : tupS [x, y] = .tup [x, y] := id rfl
theorem tupS_three {x y z : SV} : tupS [x, y, z] = .tup [x, y, z] := id rfl
theorem tupS_four {x y z q : SV} : tupS [x, y, z, q] = .tup [x, y, z, q] := id rfl
def oLen (v : SV) (t : TD) (K : Sl SV) : Prop := match v, t with
      | .s l, .str => K.f (.i .i64 l.length)
      | .slc _ _ len, .slice _ => K.f (.i .i64 len)
      | .fs _ l, .slice _ => K.f (.i .i64 l.length)
      | .nils, .slice _ => K.f (.i .i64 0)
      | _, _ => False
theorem oLen_fs {z : Nat} {l : List (List SV)} {e : TypeId} {K : Sl SV} : oLen (.fs z l) (.slice e) K = K.f (.i .i64 l.length) := id rfl
theorem oLen_s {l : List UInt8} {K : Sl SV} : oLen (.s l) .str K = K.f (.i .i64 l.length) := id rfl
theorem oLen_slc {h lo len : Nat} {e : TypeId} {K : Sl SV} : oLen (.slc h lo len) (.slice e) K = K.f (.i .i64 len) := id rfl
theorem oLen_nils {e : TypeId} {K : Sl SV} : oLen .nils (.slice e) K = K.f (.i .i64 0) := id rfl
theorem XOne_move {x : Operand} : XOs P te wr nt pt g c st ⟨dst, .move x, ty, pos, after, gd⟩ K = putSs nt st dst (gz g c (st.ev x)) K := id rfl
theorem XOne_assign {x : Operand} : XOs P te wr nt pt g c st ⟨dst, .assign x, ty, pos, after, gd⟩ K = putSs nt st dst (gz g c (st.ev x)) K := id rfl
theorem XOne_pick {e a b : Operand} : XOs P te wr nt pt g c st ⟨dst, .pick e a b, ty, pos, after, gd⟩ K = ungs c (st.ev e) ⟨fun e' => ifB e' ⟨fun e0 => ungs (c && e0) (st.ev a) ⟨fun a' => ungs (c && !e0) (st.ev b) ⟨fun b' => ifB a' ⟨fun x => ifB b' ⟨fun y => putSs nt st dst (gz g c (.b (bif e0 then x else y))) K, ⟨⟩⟩, ⟨⟩⟩, ⟨⟩⟩, ⟨⟩⟩, ⟨⟩⟩, ⟨⟩⟩ := by
  show (ung c (st.ev e) _) = ung c (st.ev e) _
  congr; funext e'
  cases e' <;> try rfl
  show ung _ _ _ = ung _ _ _
  congr; funext a'
  show ung _ _ _ = ung _ _ _
  congr; funext b'
  cases a' <;> cases b' <;> rfl
theorem XOne_fieldAddr {s : TypeId} {x : Operand} {f : Nat} : XOs P te wr nt pt g c st ⟨dst, .fieldAddr s x f, ty, pos, after, gd⟩ K = ungs c (st.ev x) ⟨fun v => ifPP v ⟨fun p => ifStruct (tdOf te s) ⟨fun fs => onO fs[f]? ⟨fun q => te q.1 ≠ none ∧ szOf te q.1 ≠ 0 ∧ putSs nt st dst (gz g c (.ptr p.1 p.2.1 (p.2.2 + q.2))) K, ⟨⟩⟩, ⟨⟩⟩, ⟨⟩⟩ ⟨fun p => ifStruct (tdOf te s) ⟨fun fs => onO fs[f]? ⟨fun q => te q.1 ≠ none ∧ szOf te q.1 ≠ 0 ∧ putSs nt st dst (gz g c (.fp p.1 (p.2 + q.2))) K, ⟨⟩⟩, ⟨⟩⟩, ⟨⟩⟩, ⟨⟩⟩ := by
  show (ung c (st.ev x) _) = ung c (st.ev x) _
  congr; funext v
  cases v <;> try rfl
  all_goals
    simp only [ifPP]
    cases tdOf te s <;> try rfl
    rename_i fs
    simp only [ifStruct]
    cases fs[f]? <;> rfl
theorem XOne_indexAddr {t : TypeId} {x ix : Operand} : XOs P te wr nt pt g c st ⟨dst, .indexAddr t x ix, ty, pos, after, gd⟩ K = ungs c (st.ev x) ⟨fun v => ungs c (st.ev ix) ⟨fun m => ifI m ⟨fun n => ifSlice (tdOf te t) ⟨fun e => ifSF v ⟨fun p => onO (st.ctx.at p.1) ⟨fun o => o.isMap = false ∧ te e ≠ none ∧ szOf te e = o.sz ∧ Chk (c = true → 0 ≤ n.2 ∧ n.2 < p.2.2) (putSs nt st dst (gz g c (.ptr p.1 (p.2.1 + n.2.toNat) 0)) K), ⟨⟩⟩, ⟨⟩⟩ ⟨fun p => te e ≠ none ∧ szOf te e = p.1 ∧ Chk (c = true → 0 ≤ n.2 ∧ n.2 < p.2.length) (putSs nt st dst (gz g c (.fp (p.2.getD n.2.toNat (zeroOf te e)) 0)) K), ⟨⟩⟩, ⟨⟩⟩, ⟨⟩⟩, ⟨⟩⟩, ⟨⟩⟩ := by
  show (ung c (st.ev x) _) = ung c (st.ev x) _
  congr; funext v
  show ung _ _ _ = ung _ _ _
  congr; funext m
  cases v <;> cases m <;> (try rfl) <;> simp only [ifI, ifSF] <;> cases tdOf te t <;> (try rfl) <;> simp only [ifSlice]
  rename_i h lo len k n e
  cases st.ctx.at h <;> simp [onO, and_assoc, gz, putSs]
theorem XOne_index {t : TypeId} {x ix : Operand} : XOs P te wr nt pt g c st ⟨dst, .index t x ix, ty, pos, after, gd⟩ K = ungs c (st.ev x) ⟨fun v => ungs c (st.ev ix) ⟨fun m => ifS v ⟨fun l => ifI m ⟨fun n => iteP (isStr (tdOf te t)) (Chk (c = true → 0 ≤ n.2 ∧ n.2 < l.length) (putSs nt st dst (gz g c (.i .u8 (l.getD n.2.toNat 0).toNat)) K)) False ⟨⟩, ⟨⟩⟩, ⟨⟩⟩, ⟨⟩⟩, ⟨⟩⟩ := by
  show (ung c (st.ev x) _) = ung c (st.ev x) _
  congr; funext v
  show ung _ _ _ = ung _ _ _
  congr; funext m
  cases v <;> cases m <;> (try rfl) <;> simp only [ifI, ifS] <;> cases tdOf te t <;> simp [iteP, isStr, gz, putSs]
theorem XOne_extract {x : Operand} {i : Nat} : XOs P te wr nt pt g c st ⟨dst, .extract x i, ty, pos, after, gd⟩ K = ungs c (st.ev x) ⟨fun v => ifTup v ⟨fun l => i < l.length ∧ putSs nt st dst (gz g c (l.getD i .u)) K, ⟨⟩⟩, ⟨⟩⟩ := by
  show (ung c (st.ev x) _) = ung c (st.ev x) _
  first
    | rfl
    | (congr; funext v; cases v <;> rfl)
theorem XOne_not {t : TypeId} {x : Operand} : XOs P te wr nt pt g c st ⟨dst, .unOp .not t x, ty, pos, after, gd⟩ K = ungs c (st.ev x) ⟨fun v => ifB v ⟨fun b => putSs nt st dst (gz g c (.b (!b))) K, ⟨⟩⟩, ⟨⟩⟩ := by
  show (ung c (st.ev x) _) = ung c (st.ev x) _
  first
    | rfl
    | (congr; funext v; cases v <;> rfl)
theorem XOne_neg {t : TypeId} {x : Operand} : XOs P te wr nt pt g c st ⟨dst, .unOp .neg t x, ty, pos, after, gd⟩ K = ungs c (st.ev x) ⟨fun v => ifI v ⟨fun n => Chk (c = true → inR n.1 (0 - n.2)) (putSs nt st dst (gz g c (.i n.1 (0 - n.2))) K), ⟨⟩⟩, ⟨⟩⟩ := by
  show (ung c (st.ev x) _) = ung c (st.ev x) _
  first
    | rfl
    | (congr; funext v; cases v <;> rfl)
theorem XOne_binOp {op : BinOp} {t yt : TypeId} {x y : Operand} : XOs P te wr nt pt g c st ⟨dst, .binOp op t x y yt, ty, pos, after, gd⟩ K = ungs c (st.ev x) ⟨fun v => ungs c (st.ev y) ⟨fun y => xbins te t wr c op v y ⟨fun z => putSs nt st dst (gz g c (z)) K, ⟨⟩⟩, ⟨⟩⟩, ⟨⟩⟩ := id rfl
def xcuts (te : TE) (t : TypeId) (st : St) (c : Bool) (x : SV) (lo hi : Option Operand) (K : Sl SV) : Prop := xcut te t st c x lo hi K.f
theorem XOne_slice {t : TypeId} {x : Operand} {lo hi : Option Operand} : XOs P te wr nt pt g c st ⟨dst, .slice t x lo hi none, ty, pos, after, gd⟩ K = ungs c (st.ev x) ⟨fun v => xcuts te t st c v lo hi ⟨fun z => putSs nt st dst (gz g c (z)) K, ⟨⟩⟩, ⟨⟩⟩ := id rfl
theorem XOne_len {x : Operand} {t : TypeId} : XOs P te wr nt pt g c st ⟨dst, .call { callee := .builtin .len, args := #[x], argTypes := #[t] }, ty, pos, after, gd⟩ K = ungs c (st.ev x) ⟨fun v => oLen v (tdOf te t) ⟨fun z => putSs nt st dst (gz g c (z)) K, ⟨⟩⟩, ⟨⟩⟩ := by
  show (ung c (st.ev x) _) = ung c (st.ev x) _
  first
    | rfl
    | (congr; funext v; cases v <;> cases tdOf te t <;> rfl)
theorem XOne_load {t : TypeId} {x : Operand} : XOs P te wr nt pt g c st ⟨dst, .load t x, ty, pos, after, gd⟩ K = ungs c (st.ev x) ⟨fun v => ifPP v ⟨fun p => onO (st.ctx.at p.1) ⟨fun ob => onO (te t) ⟨fun ti => ob.isMap = false ∧ ti.td ≠ .other ∧ iteP ti.td.isStruct (p.2.2 + ti.size ≤ ob.sz ∧ (ob.el p.2.1).length = ob.sz ∧ Chk (c = true → p.2.1 < ob.n) (putSs nt st dst (gz g c (.agg (((ob.el p.2.1).drop p.2.2).take ti.size))) K)) (p.2.2 < ob.sz ∧ Chk (c = true → p.2.1 < ob.n) (putSs nt st dst (gz g c ((ob.el p.2.1).getD p.2.2 .u)) K)) ⟨⟩, ⟨⟩⟩, ⟨⟩⟩, ⟨⟩⟩ ⟨fun p => onO (te t) ⟨fun ti => ti.td ≠ .other ∧ iteP ti.td.isStruct (Chk (c = true → p.2 + ti.size ≤ p.1.length) (putSs nt st dst (gz g c (.agg ((p.1.drop p.2).take ti.size))) K)) (Chk (c = true → p.2 < p.1.length) (putSs nt st dst (gz g c (p.1.getD p.2 .u)) K)) ⟨⟩, ⟨⟩⟩, ⟨⟩⟩, ⟨⟩⟩ := by
  show (ung c (st.ev x) _) = ung c (st.ev x) _
  congr; funext v
  cases v <;> try rfl
  · simp only [ifPP]
    rename_i h i k
    cases st.ctx.at h <;> try rfl
    cases te t <;> rfl
  · simp only [ifPP]
    cases te t <;> rfl
theorem XOne_box {t : TypeId} {x : Operand} : XOs P te wr nt pt false c st ⟨dst, .box t x, ty, pos, after, gd⟩ K = (okCell (st.ev x) = true ∧ putSs nt (st.addObj (.blk false (cellsOf (st.ev x)))) dst (.ptr st.ctx.length 0 0) K) := by
  show (false = false ∧ _) = _
  simp only [true_and]
  rfl
theorem XOne_alloc {t : TypeId} : XOs P te wr nt pt false c st ⟨dst, .alloc t, ty, pos, after, gd⟩ K = onO (te t) ⟨fun ti => putSs nt (st.addObj (.blk false ti.zero)) dst (.ptr st.ctx.length 0 0) K, ⟨⟩⟩ := by
  show (false = false ∧ _) = _
  simp only [true_and]
  show (match te t with | some ti => _ | none => False) = _
  cases te t <;> rfl
theorem XOne_store {t : TypeId} {x y : Operand} : XOs P te wr nt pt false c st ⟨dst, .store t x y, ty, pos, after, gd⟩ K = ifPtr (st.ev x) ⟨fun p => onO (st.ctx.at p.1) ⟨fun ob => onO (te t) ⟨fun ti => ob.isMap = false ∧ ob.ro = false ∧ okCell (st.ev y) = true ∧ (cellsOf (st.ev y)).length = ti.size ∧ (cellsOf (st.ev y)).all okLeaf = true ∧ (ob.el p.2.1).length = ob.sz ∧ p.2.2 + ti.size ≤ ob.sz ∧ Chk (p.2.1 < ob.n) (putSs nt (st.setObj p.1 (some (ob.put p.2.1 p.2.2 (cellsOf (st.ev y))))) dst .u K), ⟨⟩⟩, ⟨⟩⟩, ⟨⟩⟩ := by
  show (false = false ∧ _) = _
  simp only [true_and]
  show xmem te st (.store t x y) _ = _
  simp only [xmem]
  cases st.ev x <;> try rfl
  simp only [ifPtr]
  rename_i h i k
  cases st.ctx.at h <;> try rfl
  cases te t <;> rfl
/-- A call of one of the table's functions. -/
def oCall (t : Option (Prop × SV)) (c gr : Bool) (args : List SV) (ctx : Ctx) (K : Sl SV) : Prop := match t with
  | some (p, z) => lendOk (stripL args) z gr = true ∧ Chk (c = true → gokL args ∧ frzOkL ctx (stripL args) ∧ p) (K.f z)
  | none => False
theorem oCall_some {p : Prop} {z : SV} {gr : Bool} {args : List SV} {ctx : Ctx} {K : Sl SV} : oCall (some (p, z)) c gr args ctx K = (lendOk (stripL args) z gr = true ∧ Chk (c = true → gokL args ∧ frzOkL ctx (stripL args) ∧ p) (K.f z)) := id rfl
def oCallT (P : Program) (t : Option PE) (f : FuncId) (args : List SV) (kk : Nat) (gr : Bool) (st : St) (g c : Bool) (K : Sl SV) (KX : Sl (SV × St)) : Prop := match t with
  | some e => oCall (e (frzVL st.ctx (stripL args))) c gr args st.ctx K
  | none => g = false ∧ gr = true ∧ XCalls P f args kk st KX
theorem oCallT_some {P : Program} {e : PE} {f : FuncId} {args : List SV} {kk : Nat} {gr : Bool} {K : Sl SV} {KX : Sl (SV × St)} : oCallT P (some e) f args kk gr st g c K KX = oCall (e (frzVL st.ctx (stripL args))) c gr args st.ctx K := id rfl
theorem oCallT_none {P : Program} {f : FuncId} {args : List SV} {kk : Nat} {K : Sl SV} {KX : Sl (SV × St)} : oCallT P none f args kk true st false c K KX = XCalls P f args kk st KX := by simp [oCallT]
theorem XOne_call {f : FuncId} {args : Array Operand} {ts : Array TypeId} : XOs P te wr nt pt g c st ⟨dst, .call { callee := .value (.func f), args := args, argTypes := ts }, ty, pos, after, gd⟩ K = oCallT P (ptOf pt f) f (args.toList.map st.ev) pt.k pt.gr st g c ⟨fun z => putSs nt st dst (gz g c (z)) K, ⟨⟩⟩ ⟨fun p => putSs nt p.2 dst p.1 K, ⟨⟩⟩ := by
  show (match ptOf pt f with
      | some t => match t (frzVL st.ctx (stripL (args.toList.map st.ev))) with
        | some (p, z) => lendOk (stripL (args.toList.map st.ev)) z pt.gr = true ∧ Chk (c = true → gokL (args.toList.map st.ev) ∧ frzOkL st.ctx (stripL (args.toList.map st.ev)) ∧ p) (putS nt st dst (if g then mkgd c z else z) K.f)
        | none => False
      | none => g = false ∧ pt.gr = true ∧ XCall P f (args.toList.map st.ev) pt.k st fun z st' => putS nt st' dst z K.f) = _
  cases ptOf pt f with
  | none => rfl
  | some e =>
    simp only [oCallT, oCall]
    cases e (frzVL st.ctx (stripL (args.toList.map st.ev))) <;> rfl
theorem XOne_nilCheck {x : Operand} : XOs P te wr nt pt g c st ⟨dst, .nilCheck x, ty, pos, after, gd⟩ K = ungs c (st.ev x) ⟨fun v => ifPP v ⟨fun p => putSs nt st dst (gz g c (.ptr p.1 p.2.1 p.2.2)) K, ⟨⟩⟩ ⟨fun p => putSs nt st dst (gz g c (.fp p.1 p.2)) K, ⟨⟩⟩, ⟨⟩⟩ := by
  show (ung c (st.ev x) _) = ung c (st.ev x) _
  first
    | rfl
    | (congr; funext v; cases v <;> rfl)
theorem XOne_min {x y : Operand} {ts : Array TypeId} : XOs P te wr nt pt g c st ⟨dst, .call { callee := .builtin .min, args := #[x, y], argTypes := ts }, ty, pos, after, gd⟩ K = ungs c (st.ev x) ⟨fun v => ungs c (st.ev y) ⟨fun w => ifI v ⟨fun p => ifI w ⟨fun q => putSs nt st dst (gz g c (.i p.1 (if q.2 < p.2 then q.2 else p.2))) K, ⟨⟩⟩, ⟨⟩⟩, ⟨⟩⟩, ⟨⟩⟩ := by
  show (ung c (st.ev x) _) = ung c (st.ev x) _
  congr; funext v
  show ung _ _ _ = ung _ _ _
  congr; funext w
  cases v <;> cases w <;> rfl
theorem XOne_max {x y : Operand} {ts : Array TypeId} : XOs P te wr nt pt g c st ⟨dst, .call { callee := .builtin .max, args := #[x, y], argTypes := ts }, ty, pos, after, gd⟩ K = ungs c (st.ev x) ⟨fun v => ungs c (st.ev y) ⟨fun w => ifI v ⟨fun p => ifI w ⟨fun q => putSs nt st dst (gz g c (.i p.1 (if q.2 > p.2 then q.2 else p.2))) K, ⟨⟩⟩, ⟨⟩⟩, ⟨⟩⟩, ⟨⟩⟩ := by
  show (ung c (st.ev x) _) = ung c (st.ev x) _
  congr; funext v
  show ung _ _ _ = ung _ _ _
  congr; funext w
  cases v <;> cases w <;> rfl
theorem XOne_build {t : TypeId} {parts : Array (Nat × Operand)} : XOs P te wr nt pt g c st ⟨dst, .build t parts, ty, pos, after, gd⟩ K = onO (te t) ⟨fun ti => ifStruct ti.td ⟨fun fs => (parts.toList.all fun p => okCell (st.ev p.2)) = true ∧ (fs.all fun p => (te p.1).isSome) = true ∧ onO (fillS te fs ti.zero (parts.toList.map fun p => (p.1, st.ev p.2))) ⟨fun l => putSs nt st dst (gz g c (.agg l)) K, ⟨⟩⟩, ⟨⟩⟩, ⟨⟩⟩ := by
  simp only [XOs, XOne, opClass, xpure]
  cases te t with
  | none => rfl
  | some ti =>
    simp only [onO]
    cases ti.td <;> try rfl
    rename_i fs
    simp only [ifStruct, onO]
    cases fillS te fs ti.zero (parts.toList.map fun p => (p.1, st.ev p.2)) <;> rfl
def bnds (st : St) (c : Bool) (o : Option Operand) (d : Int) (K : Sl Int) : Prop := bndS st c o d K.f
theorem bnds_none {d : Int} {K : Sl Int} : bnds st c none d K = K.f d := id rfl
theorem bnds_some {x : Operand} {d : Int} {K : Sl Int} : bnds st c (some x) d K = ungs c (st.ev x) ⟨fun v => ifI v ⟨fun n => K.f n.2, ⟨⟩⟩, ⟨⟩⟩ := by
  simp only [bnds, bndS, ungs]
  first
    | rfl
    | (congr; done)
    | (congr; funext v; cases v <;> rfl)
theorem xcuts_s {t : TypeId} {l : List UInt8} {lo hi : Option Operand} {K : Sl SV} : xcuts te t st c (.s l) lo hi K = iteP (isStr (tdOf te t)) (bnds st c hi l.length ⟨fun h => bnds st c lo 0 ⟨fun b => Chk (c = true → 0 ≤ b ∧ b ≤ h ∧ h ≤ l.length) (K.f (.s ((l.take h.toNat).drop b.toNat))), ⟨⟩⟩, ⟨⟩⟩) False ⟨⟩ := by
  simp only [xcuts, xcut]
  cases tdOf te t <;> simp [iteP, isStr, bnds]
theorem xcuts_slc {t : TypeId} {h a len : Nat} {lo hi : Option Operand} {K : Sl SV} : xcuts te t st c (.slc h a len) lo hi K = ifSlice (tdOf te t) ⟨fun e => onO (st.ctx.at h) ⟨fun o => o.isMap = false ∧ te e ≠ none ∧ szOf te e = o.sz ∧
      bnds st c hi len ⟨fun y => bnds st c lo 0 ⟨fun b => Chk (c = true → 0 ≤ b ∧ b ≤ y ∧ y ≤ len) (K.f (.slc h (a + b.toNat) (y.toNat - b.toNat))), ⟨⟩⟩, ⟨⟩⟩, ⟨⟩⟩, ⟨⟩⟩ := by
  simp only [xcuts, xcut]
  cases tdOf te t <;> try rfl
  simp only [ifSlice]
  cases st.ctx.at h <;> simp [onO, bnds, and_assoc]
theorem xcuts_fs {t : TypeId} {z : Nat} {l : List (List SV)} {lo hi : Option Operand} {K : Sl SV} : xcuts te t st c (.fs z l) lo hi K = ifSlice (tdOf te t) ⟨fun e => te e ≠ none ∧ szOf te e = z ∧
      bnds st c hi l.length ⟨fun y => bnds st c lo 0 ⟨fun b => Chk (c = true → 0 ≤ b ∧ b ≤ y ∧ y ≤ l.length) (K.f (.fs z ((l.take y.toNat).drop b.toNat))), ⟨⟩⟩, ⟨⟩⟩, ⟨⟩⟩ := by
  simp only [xcuts, xcut]
  cases tdOf te t <;> try rfl
def oConv (a b : TD) (k0 k1 k2 : Prop) (t : Tag2 k0 k1) (t' : Tag2 k1 k2) : Prop := match a, b with
  | .slice _, .str => k1
  | .slice _, .slice _ => k2
  | _, _ => k0
theorem oConv_ss {a b : TypeId} {k0 k1 k2 : Prop} {t : Tag2 k0 k1} {t' : Tag2 k1 k2} : oConv (.slice a) (.slice b) k0 k1 k2 t t' = k2 := id rfl
theorem oConv_st {a : TypeId} {k0 k1 k2 : Prop} {t : Tag2 k0 k1} {t' : Tag2 k1 k2} : oConv (.slice a) .str k0 k1 k2 t t' = k1 := id rfl
theorem oConv_ii {a b : IntKind} {k0 k1 k2 : Prop} {t : Tag2 k0 k1} {t' : Tag2 k1 k2} : oConv (.int a) (.int b) k0 k1 k2 t t' = k0 := id rfl
theorem oConv_is {a : IntKind} {k0 k1 k2 : Prop} {t : Tag2 k0 k1} {t' : Tag2 k1 k2} : oConv (.int a) .str k0 k1 k2 t t' = k0 := id rfl
theorem oConv_tt {k0 k1 k2 : Prop} {t : Tag2 k0 k1} {t' : Tag2 k1 k2} : oConv .str .str k0 k1 k2 t t' = k0 := id rfl
def xconvs (te : TE) (wr c : Bool) (td : TD) (x : SV) (K : Sl SV) : Prop := match td, x with
  | .int k, .i _ n => if wr then K.f (.i k (k.wrap n)) else Chk (c = true → inR k n) (K.f (.i k n))
  | .str, .s l => K.f (.s l)
  | .str, .i _ n => K.f (.s (Utf8.encode n).data.toList)
  | _, _ => False
theorem xconvs_i {k k' : IntKind} {n : Int} {K : Sl SV} : xconvs te false c (.int k) (.i k' n) K = Chk (c = true → inR k n) (K.f (.i k n)) := by simp [xconvs]
theorem xconvs_iw {k k' : IntKind} {n : Int} {K : Sl SV} : xconvs te true c (.int k) (.i k' n) K = K.f (.i k (k.wrap n)) := by simp [xconvs]
theorem xconvs_s {l : List UInt8} {K : Sl SV} : xconvs te wr c .str (.s l) K = K.f (.s l) := id rfl
theorem xconvs_u {k : IntKind} {n : Int} {K : Sl SV} : xconvs te wr c .str (.i k n) K = K.f (.s (Utf8.encode n).data.toList) := id rfl
/-- A string of a slice's bytes. -/
def oStr (te : TE) (a : TD) (ctx : Ctx) (c : Bool) (v : SV) (K : Sl SV) : Prop := match v, a with
  | .slc h lo len, .slice e => isU8T te e = true ∧ (match ctx.at h with
      | some (.row ro sz n f) => sz = 1 ∧ (∀ j, j < len → isU8 ((f (lo + j)).getD 0 .u) = true) ∧ Chk (c = true → lo + len ≤ n) (K.f (.s (rowBytes f lo len)))
      | _ => False)
  | .nils, .slice e => isU8T te e = true ∧ K.f (.s [])
  | .fs sz l, .slice e => isU8T te e = true ∧ sz = 1 ∧ Chk (c = true → ∀ x ∈ l, isU8 (x.getD 0 .u) = true) (K.f (.s (fsBytes l)))
  | _, _ => False
theorem oStr_fs {sz : Nat} {l : List (List SV)} {e : TypeId} {ctx : Ctx} {K : Sl SV} : oStr te (.slice e) ctx c (.fs sz l) K = (isU8T te e = true ∧ sz = 1 ∧ Chk (c = true → ∀ x ∈ l, isU8 (x.getD 0 .u) = true) (K.f (.s (fsBytes l)))) := id rfl
def ifRow (o : Option SO) (K : Sl (Nat × Nat × (Nat → List SV))) : Prop := match o with
  | some (.row _ sz n f) => K.f (sz, n, f)
  | _ => False
theorem ifRow_row {r : Bool} {sz n : Nat} {f : Nat → List SV} {K : Sl (Nat × Nat × (Nat → List SV))} : ifRow (some (.row r sz n f)) K = K.f (sz, n, f) := id rfl
theorem oStr_slc {h lo len : Nat} {e : TypeId} {ctx : Ctx} {K : Sl SV} : oStr te (.slice e) ctx c (.slc h lo len) K = (isU8T te e = true ∧ ifRow (ctx.at h) ⟨fun p => p.1 = 1 ∧ (∀ j, j < len → isU8 ((p.2.2 (lo + j)).getD 0 .u) = true) ∧ Chk (c = true → lo + len ≤ p.2.1) (K.f (.s (rowBytes p.2.2 lo len))), ⟨⟩⟩) := by
  simp only [oStr]
  rcases ctx.at h with _ | o
  · rfl
  · cases o <;> rfl
theorem oStr_nils {e : TypeId} {ctx : Ctx} {K : Sl SV} : oStr te (.slice e) ctx c .nils K = (isU8T te e = true ∧ K.f (.s [])) := id rfl
theorem XOne_convert {s d : TypeId} {x : Operand} : XOs P te wr nt pt g c st ⟨dst, .convert s d x, ty, pos, after, gd⟩ K = oConv (tdOf te s) (tdOf te d) (te s ≠ none ∧ ungs c (st.ev x) ⟨fun v => xconvs te wr c (tdOf te d) v ⟨fun z => putSs nt st dst (gz g c (z)) K, ⟨⟩⟩, ⟨⟩⟩) (ungs c (st.ev x) ⟨fun v => oStr te (tdOf te s) st.ctx c v ⟨fun z => putSs nt st dst (gz g c (z)) K, ⟨⟩⟩, ⟨⟩⟩) (g = false ∧ xmem te st (.convert s d x) fun z st' => putS nt st' dst z K.f) ⟨⟩ ⟨⟩ := by
  simp only [XOs, XOne, opClass]
  cases hs : tdOf te s <;> cases hd : tdOf te d <;> simp only [oConv, xpure, xconvs, hd]
  case slice.str e =>
    simp only [xload, ungs]
    congr 1; funext v
    cases v <;> simp only [oStr, hs, hd] <;> rfl
  all_goals (congr 1; simp only [ungs]; congr 1; funext v; cases v <;> simp only [xconv, hd] <;> rfl)
theorem XOne_buildSlice {t : TypeId} {len : Nat} {parts : Array (Nat × Operand)} : XOs P te wr nt pt false c st ⟨dst, .buildSlice t len parts, ty, pos, after, gd⟩ K = ifSlice (tdOf te t) ⟨fun e => onO (te e) ⟨fun ti => ti.zero.length = ti.size ∧ len * ti.size ≤ 16777216 ∧ (parts.toList.all fun p => okCell (st.ev p.2)) = true ∧ onO (fillP ti.size (repl ti.zero len) (parts.toList.map fun p => (p.1, st.ev p.2))) ⟨fun l => putSs nt (st.addObj (.row false ti.size len (litEl l ti.size))) dst (.slc st.ctx.length 0 len) K, ⟨⟩⟩, ⟨⟩⟩, ⟨⟩⟩ := by
  simp only [XOs, XOne, opClass, true_and, xmem]
  cases tdOf te t <;> try rfl
  rename_i e
  simp only [ifSlice]
  cases te e with
  | none => rfl
  | some ti =>
    simp only [onO]
    cases fillP ti.size (repl ti.zero len) (parts.toList.map fun p => (p.1, st.ev p.2)) <;> rfl
theorem XOne_makeSlice {t : TypeId} {l m : Operand} : XOs P te wr nt pt false c st ⟨dst, .makeSlice t l m, ty, pos, after, gd⟩ K = ifSlice (tdOf te t) ⟨fun e => ifI (st.ev l) ⟨fun n => ifI (st.ev m) ⟨fun q => n.1 = .i64 ∧ q.1 = .i64 ∧ onO (te e) ⟨fun ti => ti.zero.length = ti.size ∧ Chk (0 ≤ n.2 ∧ n.2 ≤ q.2 ∧ q.2 * ti.bytes ≤ 281474976710656 ∧ q.2 ≤ 281474976710656) (putSs nt (st.addObj (.row false ti.size n.2.toNat (fun _ => ti.zero))) dst (.slc st.ctx.length 0 n.2.toNat) K), ⟨⟩⟩, ⟨⟩⟩, ⟨⟩⟩, ⟨⟩⟩ := by
  simp only [XOs, XOne, opClass, true_and, xmem]
  cases tdOf te t <;> try rfl
  rename_i e
  simp only [ifSlice]
  cases st.ev l <;> try rfl
  rename_i k n
  cases st.ev m <;> try (cases k <;> rfl)
  rename_i k' n'
  simp only [ifI]
  cases hte : te e with
  | none => cases k <;> cases k' <;> simp [onO, hte]
  | some ti => cases k <;> cases k' <;> simp [onO, putSs, hte]
def isSlS : TD → Bool
  | .slice _ => true
  | .str => true
  | _ => false
def oSrc (st : St) (sz : Nat) (u8 : Bool) (dh : Nat) (x : SV) (K : Sl (Nat × (Nat → List SV))) : Prop := xsrc st sz u8 dh x fun m f => K.f (m, f)
theorem oSrc_nils {sz dh : Nat} {u8 : Bool} {K : Sl (Nat × (Nat → List SV))} : oSrc st sz u8 dh .nils K = K.f (0, fun _ => []) := id rfl
theorem oSrc_fs {sz z dh : Nat} {u8 : Bool} {l : List (List SV)} {K : Sl (Nat × (Nat → List SV))} : oSrc st sz u8 dh (.fs z l) K = (z = sz ∧ (∀ x ∈ l, x.all okLeaf = true) ∧ K.f (l.length, fun j => l.getD j [])) := id rfl
theorem oSrc_s {sz dh : Nat} {u8 : Bool} {l : List UInt8} {K : Sl (Nat × (Nat → List SV))} : oSrc st sz u8 dh (.s l) K = (u8 = true ∧ sz = 1 ∧ K.f (l.length, fun j => [.i .u8 (l.getD j 0).toNat])) := id rfl
theorem oSrc_slc {sz dh h lo m : Nat} {u8 : Bool} {K : Sl (Nat × (Nat → List SV))} : oSrc st sz u8 dh (.slc h lo m) K = ifRow (st.ctx.at h) ⟨fun p => p.1 = sz ∧ h ≠ dh ∧ (∀ j, j < m → (p.2.2 (lo + j)).all okLeaf = true ∧ (p.2.2 (lo + j)).length = sz) ∧ Chk (lo + m ≤ p.2.1) (K.f (m, fun j => p.2.2 (lo + j))), ⟨⟩⟩ := by
  simp only [oSrc, xsrc]
  rcases st.ctx.at h with _ | o
  · rfl
  · cases o <;> rfl
def ifRowW (o : Option SO) (K : Sl (Nat × Nat × (Nat → List SV))) : Prop := match o with
  | some (.row false sz n f) => K.f (sz, n, f)
  | _ => False
theorem ifRowW_row {sz n : Nat} {f : Nat → List SV} {K : Sl (Nat × Nat × (Nat → List SV))} : ifRowW (some (.row false sz n f)) K = K.f (sz, n, f) := id rfl
def oApp (te : TE) (st : St) (e : TypeId) (ti : TI) (s x : SV) (K : Sl (SV × St)) : Prop := match s with
      | .nils => xsrc st ti.size (isU8T te e) st.ctx.length x fun m g => Chk (m * ti.bytes ≤ 140737488355328) (K.f (.slc st.ctx.length 0 m, st.addObj (.row false ti.size m g)))
      | .slc h lo len => match st.ctx.at h with
        | some (.row false sz' n f) => sz' = ti.size ∧ xsrc st ti.size (isU8T te e) h x fun m g => Chk (lo + len ≤ n ∧ (len + m) * ti.bytes ≤ 140737488355328)
            (K.f (.slc st.ctx.length 0 (len + m), (st.setObj h none).addObj (.row false ti.size (len + m) (catF len (fun j => f (lo + j)) g))))
        | _ => False
      | _ => False
theorem oApp_nils {e : TypeId} {ti : TI} {x : SV} {K : Sl (SV × St)} : oApp te st e ti .nils x K = oSrc st ti.size (isU8T te e) st.ctx.length x ⟨fun q => Chk (q.1 * ti.bytes ≤ 140737488355328) (K.f (.slc st.ctx.length 0 q.1, st.addObj (.row false ti.size q.1 q.2))), ⟨⟩⟩ := id rfl
theorem oApp_slc {e : TypeId} {ti : TI} {h lo len : Nat} {x : SV} {K : Sl (SV × St)} : oApp te st e ti (.slc h lo len) x K = ifRowW (st.ctx.at h) ⟨fun p => p.1 = ti.size ∧ oSrc st ti.size (isU8T te e) h x ⟨fun q => Chk (lo + len ≤ p.2.1 ∧ (len + q.1) * ti.bytes ≤ 140737488355328)
            (K.f (.slc st.ctx.length 0 (len + q.1), (st.setObj h none).addObj (.row false ti.size (len + q.1) (catF len (fun j => p.2.2 (lo + j)) q.2)))), ⟨⟩⟩, ⟨⟩⟩ := by
  simp only [oApp]
  rcases st.ctx.at h with _ | o
  · rfl
  · cases o <;> rfl
theorem XOne_append {s x : Operand} {t xt : TypeId} : XOs P te wr nt pt false c st ⟨dst, .call { callee := .builtin .append, args := #[s, x], argTypes := #[t, xt] }, ty, pos, after, gd⟩ K = (isSlS (tdOf te xt) = true ∧ ifSlice (tdOf te t) ⟨fun e => onO (te e) ⟨fun ti => ti.zero.length = ti.size ∧ ti.bytes ≠ 0 ∧ oApp te st e ti (st.ev s) (st.ev x) ⟨fun p => putSs nt p.2 dst p.1 K, ⟨⟩⟩, ⟨⟩⟩, ⟨⟩⟩) := by
  simp only [XOs, XOne, opClass, true_and, xmem, xappend]
  have h2 : ∀ (p q : Prop), p = q → ∀ (a b : Prop), a = b → (p ∧ a) = (q ∧ b) := by intro p q e a b e'; rw [e, e']
  refine h2 _ _ ?_ _ _ ?_
  · cases tdOf te xt <;> simp [isSlS]
  · cases tdOf te t <;> try rfl
    rename_i e
    simp only [ifSlice]
    cases te e <;> rfl
def oLook (te : TE) (c ok : Bool) (st : St) (t : TypeId) (v y : SV) (K : Sl SV) : Prop := match v, y with
    | .mp h, .s s => match st.ctx.at h, tdOf te t with
      | some (.mapS l), .map kt vt => tdOf te kt = .str ∧ te vt = some ⟨.int .i64, 1, 8, [.i .i64 0], false⟩ ∧ xlook c ok (lookS l s) K.f
      | _, _ => False
    | .mp h, .i .i64 s => match st.ctx.at h, tdOf te t with
      | some (.mapI l), .map kt vt => tdOf te kt = .int .i64 ∧ te vt = some ⟨.int .i64, 1, 8, [.i .i64 0], false⟩ ∧ xlook c ok (lookS l s) K.f
      | _, _ => False
    | _, _ => False
def oLookS (te : TE) (ok : Bool) (o : Option SO) (d : TD) (s : List UInt8) (K : Sl SV) : Prop := match o, d with
  | some (.mapS l), .map kt vt => tdOf te kt = .str ∧ te vt = some ⟨.int .i64, 1, 8, [.i .i64 0], false⟩ ∧ xlook true ok (lookS l s) K.f
  | _, _ => False
def oLookI (te : TE) (ok : Bool) (o : Option SO) (d : TD) (s : Int) (K : Sl SV) : Prop := match o, d with
  | some (.mapI l), .map kt vt => tdOf te kt = .int .i64 ∧ te vt = some ⟨.int .i64, 1, 8, [.i .i64 0], false⟩ ∧ xlook true ok (lookS l s) K.f
  | _, _ => False
def xlooks (ok : Bool) (r : Option Int) (K : Sl SV) : Prop := xlook true ok r K.f
theorem xlooks_t {r : Option Int} {K : Sl SV} : xlooks true r K = K.f (.tup [.i .i64 (r.getD 0), .b r.isSome]) := by simp [xlooks, xlook]
theorem xlooks_f {r : Option Int} {K : Sl SV} : xlooks false r K = K.f (.i .i64 (r.getD 0)) := by simp [xlooks, xlook]
theorem oLook_s {ok : Bool} {t : TypeId} {h : Nat} {s : List UInt8} {K : Sl SV} : oLook te c ok st t (.mp h) (.s s) K = oLookS te ok (st.ctx.at h) (tdOf te t) s K := id rfl
theorem oLook_i {ok : Bool} {t : TypeId} {h : Nat} {s : Int} {K : Sl SV} : oLook te c ok st t (.mp h) (.i .i64 s) K = oLookI te ok (st.ctx.at h) (tdOf te t) s K := id rfl
theorem oLookS_m {ok : Bool} {l : List (List UInt8 × Int)} {kt vt : TypeId} {s : List UInt8} {K : Sl SV} : oLookS te ok (some (.mapS l)) (.map kt vt) s K = (tdOf te kt = .str ∧ te vt = some ⟨.int .i64, 1, 8, [.i .i64 0], false⟩ ∧ xlooks ok (lookS l s) K) := id rfl
theorem oLookI_m {ok : Bool} {l : List (Int × Int)} {kt vt : TypeId} {s : Int} {K : Sl SV} : oLookI te ok (some (.mapI l)) (.map kt vt) s K = (tdOf te kt = .int .i64 ∧ te vt = some ⟨.int .i64, 1, 8, [.i .i64 0], false⟩ ∧ xlooks ok (lookS l s) K) := id rfl
theorem XOne_lookup {t : TypeId} {m k : Operand} {ok : Bool} : XOs P te wr nt pt g c st ⟨dst, .lookup t m k ok, ty, pos, after, gd⟩ K = ungs c (st.ev m) ⟨fun v => ungs c (st.ev k) ⟨fun y => oLook te c ok st t v y ⟨fun z => putSs nt st dst (gz g c (z)) K, ⟨⟩⟩, ⟨⟩⟩, ⟨⟩⟩ := id rfl
def oUpdS (te : TE) (o : Option SO) (kt : TypeId) (s : List UInt8) (v : Int) (K : Sl SO) : Prop := match o with
  | some (.mapS l) => tdOf te kt = .str ∧ K.f (.mapS (updS l s v))
  | _ => False
def oUpdI (te : TE) (o : Option SO) (kt : TypeId) (s : Int) (v : Int) (K : Sl SO) : Prop := match o with
  | some (.mapI l) => tdOf te kt = .int .i64 ∧ K.f (.mapI (updS l s v))
  | _ => False
theorem oUpdS_m {l : List (List UInt8 × Int)} {kt : TypeId} {s : List UInt8} {v : Int} {K : Sl SO} : oUpdS te (some (.mapS l)) kt s v K = (tdOf te kt = .str ∧ K.f (.mapS (updS l s v))) := id rfl
theorem oUpdI_m {l : List (Int × Int)} {kt : TypeId} {s v : Int} {K : Sl SO} : oUpdI te (some (.mapI l)) kt s v K = (tdOf te kt = .int .i64 ∧ K.f (.mapI (updS l s v))) := id rfl
def oUpd (te : TE) (st : St) (m k x : SV) (d : TD) (K : Sl St) : Prop := match m, k, x, d with
    | .mp h, .s s, .i .i64 v, .map kt vt => oUpdS te (st.ctx.at h) kt s v ⟨fun o => K.f (st.setObj h (some o)), ⟨⟩⟩
    | .mp h, .i .i64 s, .i .i64 v, .map kt vt => oUpdI te (st.ctx.at h) kt s v ⟨fun o => K.f (st.setObj h (some o)), ⟨⟩⟩
    | _, _, _, _ => False
theorem oUpd_s {h : Nat} {s : List UInt8} {v : Int} {kt vt : TypeId} {K : Sl St} : oUpd te st (.mp h) (.s s) (.i .i64 v) (.map kt vt) K = oUpdS te (st.ctx.at h) kt s v ⟨fun o => K.f (st.setObj h (some o)), ⟨⟩⟩ := id rfl
theorem oUpd_i {h : Nat} {s v : Int} {kt vt : TypeId} {K : Sl St} : oUpd te st (.mp h) (.i .i64 s) (.i .i64 v) (.map kt vt) K = oUpdI te (st.ctx.at h) kt s v ⟨fun o => K.f (st.setObj h (some o)), ⟨⟩⟩ := id rfl
theorem oUpd_eq {t : TypeId} {m k x : Operand} {K : Sl St} (o : Op) (ho : o = .mapUpdate t m k x ∨ o = .insert t m k x) : xmem te st o (fun z s => K.f s) = oUpd te st (st.ev m) (st.ev k) (st.ev x) (tdOf te t) K := by
  have key : ∀ (o : Op), (o = .mapUpdate t m k x ∨ o = .insert t m k x) → xmem te st o (fun z s => K.f s) = oUpd te st (st.ev m) (st.ev k) (st.ev x) (tdOf te t) K := by
    intro o ho
    rcases ho with rfl | rfl
    all_goals
      simp only [xmem, oUpd]
      split
      · rename_i hh s v kt vt e1 e2 e3 e4
        simp only [e1, e2, e3, e4, oUpdS]
        split <;> simp_all
      · rename_i hh s v kt vt e1 e2 e3 e4
        simp only [e1, e2, e3, e4, oUpdI]
        split <;> simp_all
      · rename_i h1 h2
        split
        · rename_i e1 e2 e3 e4; exact absurd e4 (h1 _ _ _ _ _ e1 e2 e3)
        · rename_i e1 e2 e3 e4; exact absurd e4 (h2 _ _ _ _ _ e1 e2 e3)
        · rfl
  exact key o ho
theorem XOne_mapUpdate {t : TypeId} {m k x : Operand} : XOs P te wr nt pt false c st ⟨dst, .mapUpdate t m k x, ty, pos, after, gd⟩ K = oUpd te st (st.ev m) (st.ev k) (st.ev x) (tdOf te t) ⟨fun s => putSs nt s dst .u K, ⟨⟩⟩ := by
  show (false = false ∧ _) = _
  simp only [true_and]
  rw [← oUpd_eq (.mapUpdate t m k x) (.inl rfl)]
  simp only [xmem]
  rfl
theorem XOne_insert {t : TypeId} {m k x : Operand} : XOs P te wr nt pt false c st ⟨dst, .insert t m k x, ty, pos, after, gd⟩ K = oUpd te st (st.ev m) (st.ev k) (st.ev x) (tdOf te t) ⟨fun s => putSs nt s dst .u K, ⟨⟩⟩ := by
  show (false = false ∧ _) = _
  simp only [true_and]
  rw [← oUpd_eq (.insert t m k x) (.inr rfl)]
  simp only [xmem]
  rfl
def oMk (kd : TD) (st : St) (K : Sl (SV × St)) : Prop := match kd with
  | .str => K.f (.mp st.ctx.length, st.addObj (.mapS []))
  | .int .i64 => K.f (.mp st.ctx.length, st.addObj (.mapI []))
  | _ => False
theorem oMk_s {K : Sl (SV × St)} : oMk .str st K = K.f (.mp st.ctx.length, st.addObj (.mapS [])) := id rfl
theorem oMk_i {K : Sl (SV × St)} : oMk (.int .i64) st K = K.f (.mp st.ctx.length, st.addObj (.mapI [])) := id rfl
def ifMap (d : TD) (K : Sl (TypeId × TypeId)) : Prop := match d with
  | .map k e => K.f (k, e)
  | _ => False
theorem ifMap_map {k e : TypeId} {K : Sl (TypeId × TypeId)} : ifMap (.map k e) K = K.f (k, e) := id rfl
def mkArg (st : St) : Option Operand → Prop
  | none => True
  | some x => match st.ev x with | .i _ _ => True | _ => False
theorem mkArg_none : mkArg st none := trivial
theorem mkArg_int {k : IntKind} {n : Int} : mkArg st (some (.const (.int k n))) := by simp [mkArg, St.ev, ofVal]
theorem XOne_makeMap {t : TypeId} {r : Option Operand} : XOs P te wr nt pt false c st ⟨dst, .makeMap t r, ty, pos, after, gd⟩ K = (mkArg st r ∧ ifMap (tdOf te t) ⟨fun q => oMk (tdOf te q.1) st ⟨fun p => putSs nt p.2 dst p.1 K, ⟨⟩⟩, ⟨⟩⟩) := by
  show (false = false ∧ _) = _
  simp only [true_and]
  show xmem te st (.makeMap t r) _ = _
  simp only [xmem]
  have h2 : ∀ (p q : Prop), p = q → ∀ (a b : Prop), a = b → (p ∧ a) = (q ∧ b) := by intro p q e a b e'; rw [e, e']
  refine h2 _ _ ?_ _ _ ?_
  · cases r <;> rfl
  · cases tdOf te t <;> rfl
theorem xbin_add {t : TypeId} {k : IntKind} {a b : Int} {K : Sl SV} : xbins te t false c .add (.i k a) (.i k b) K = Chk (c = true → inR k (a + b)) (K.f (.i k (a + b))) := by simp [xbins, xbin]
theorem xbin_add_w {t : TypeId} {k : IntKind} {a b : Int} {K : Sl SV} : xbins te t true c .add (.i k a) (.i k b) K = K.f (.i k (k.wrap (a + b))) := by simp [xbins, xbin]
theorem xbin_sub {t : TypeId} {k : IntKind} {a b : Int} {K : Sl SV} : xbins te t false c .sub (.i k a) (.i k b) K = Chk (c = true → inR k (a - b)) (K.f (.i k (a - b))) := by simp [xbins, xbin]
theorem xbin_sub_w {t : TypeId} {k : IntKind} {a b : Int} {K : Sl SV} : xbins te t true c .sub (.i k a) (.i k b) K = K.f (.i k (k.wrap (a - b))) := by simp [xbins, xbin]
theorem xbin_mul {t : TypeId} {k : IntKind} {a b : Int} {K : Sl SV} : xbins te t false c .mul (.i k a) (.i k b) K = Chk (c = true → inR k (a * b)) (K.f (.i k (a * b))) := by simp [xbins, xbin]
theorem xbin_mul_w {t : TypeId} {k : IntKind} {a b : Int} {K : Sl SV} : xbins te t true c .mul (.i k a) (.i k b) K = K.f (.i k (k.wrap (a * b))) := by simp [xbins, xbin]
theorem xbin_quo {t : TypeId} {k : IntKind} {a b : Int} {K : Sl SV} : xbins te t wr c .quo (.i k a) (.i k b) K = (b ≠ 0 ∧ Chk (c = true → inR k (a.tdiv b)) (K.f (.i k (a.tdiv b)))) := by simp [xbins, xbin]
theorem xbin_rem {t : TypeId} {k : IntKind} {a b : Int} {K : Sl SV} : xbins te t wr c .rem (.i k a) (.i k b) K = Chk (c = true → b ≠ 0) (K.f (.i k (a.tmod b))) := by simp [xbins, xbin]
theorem xbin_and {t : TypeId} {k : IntKind} {a b : Int} {K : Sl SV} : xbins te t wr c .and (.i k a) (.i k b) K = K.f (.i k (k.wrap ((BitVec.ofInt k.bits a &&& BitVec.ofInt k.bits b).toNat))) := by simp [xbins, xbin]
theorem xbin_xor {t : TypeId} {k : IntKind} {a b : Int} {K : Sl SV} : xbins te t wr c .xor (.i k a) (.i k b) K = K.f (.i k (k.wrap ((BitVec.ofInt k.bits a ^^^ BitVec.ofInt k.bits b).toNat))) := by simp [xbins, xbin]
theorem xbin_shr {t : TypeId} {k k' : IntKind} {a b : Int} {K : Sl SV} : xbins te t wr c .shr (.i k a) (.i k' b) K = (0 ≤ b ∧ K.f (.i k (a.fdiv (2 ^ (min b.toNat k.bits))))) := id rfl
theorem xbin_eql_i {t : TypeId} {k : IntKind} {a b : Int} {K : Sl SV} : xbins te t wr c .eql (.i k a) (.i k b) K = K.f (.b (decide (a = b))) := by simp [xbins, xbin]
theorem xbin_neq_i {t : TypeId} {k : IntKind} {a b : Int} {K : Sl SV} : xbins te t wr c .neq (.i k a) (.i k b) K = K.f (.b (!decide (a = b))) := by simp [xbins, xbin]
theorem xbin_lss_i {t : TypeId} {k : IntKind} {a b : Int} {K : Sl SV} : xbins te t wr c .lss (.i k a) (.i k b) K = K.f (.b (decide (a < b))) := by simp [xbins, xbin]
theorem xbin_leq_i {t : TypeId} {k : IntKind} {a b : Int} {K : Sl SV} : xbins te t wr c .leq (.i k a) (.i k b) K = K.f (.b (decide (a ≤ b))) := by simp [xbins, xbin]
theorem xbin_gtr_i {t : TypeId} {k : IntKind} {a b : Int} {K : Sl SV} : xbins te t wr c .gtr (.i k a) (.i k b) K = K.f (.b (decide (a > b))) := by simp [xbins, xbin]
theorem xbin_geq_i {t : TypeId} {k : IntKind} {a b : Int} {K : Sl SV} : xbins te t wr c .geq (.i k a) (.i k b) K = K.f (.b (decide (a ≥ b))) := by simp [xbins, xbin]
theorem xbin_add_s {t : TypeId} {a b : List UInt8} {K : Sl SV} : xbins te t wr c .add (.s a) (.s b) K = Chk (c = true → a.length + b.length ≤ 9223372036854775807) (K.f (.s (a ++ b))) := id rfl
theorem xbin_eql_s {t : TypeId} {a b : List UInt8} {K : Sl SV} : xbins te t wr c .eql (.s a) (.s b) K = K.f (.b (decide (a = b))) := id rfl
theorem xbin_neq_s {t : TypeId} {a b : List UInt8} {K : Sl SV} : xbins te t wr c .neq (.s a) (.s b) K = K.f (.b (!decide (a = b))) := id rfl
theorem xbin_eql_b {t : TypeId} {a b : Bool} {K : Sl SV} : xbins te t wr c .eql (.b a) (.b b) K = (tdOf te t = .bool ∧ K.f (.b (a == b))) := id rfl
theorem xbin_neq_b {t : TypeId} {a b : Bool} {K : Sl SV} : xbins te t wr c .neq (.b a) (.b b) K = (tdOf te t = .bool ∧ K.f (.b (!(a == b)))) := id rfl
theorem xbin_eql_a {t : TypeId} {a b : List SV} {K : Sl SV} : xbins te t wr c .eql (.agg a) (.agg b) K = onO (eqAt te 4 t (.agg a) (.agg b)) ⟨fun z => K.f (.b z), ⟨⟩⟩ := by
  simp only [xbins, xbin]
  cases eqAt te 4 t (.agg a) (.agg b) <;> rfl
theorem xbin_neq_a {t : TypeId} {a b : List SV} {K : Sl SV} : xbins te t wr c .neq (.agg a) (.agg b) K = onO (eqAt te 4 t (.agg a) (.agg b)) ⟨fun z => K.f (.b (!z)), ⟨⟩⟩ := by
  simp only [xbins, xbin]
  cases eqAt te 4 t (.agg a) (.agg b) <;> rfl
theorem putS_none {z : SV} : putSs nt st none z K = K.f st := id rfl
theorem putS_some {d : Tmp} {z : SV} : putSs nt st (some d) z K = (d < nt ∧ K.f ⟨(d, z) :: st.env, st.ctx⟩) := id rfl
theorem ev_tmp {t : Tmp} : st.ev (.tmp t) = look st.env t := id rfl
theorem ev_int {k : IntKind} {n : Int} : st.ev (.const (.int k n)) = .i k n := id rfl
theorem ev_bool {b : Bool} : st.ev (.const (.bool b)) = .b b := id rfl
theorem ev_str {b : Array UInt8} : st.ev (.const (.string ⟨b⟩)) = .s b.toList := id rfl
theorem ev_nils : st.ev (.const (.slice none 0 0)) = .nils := id rfl
theorem ev_func {f : FuncId} : st.ev (.func f) = .fn f := id rfl
theorem look_cons {u t : Tmp} {x : SV} {r : List (Tmp × SV)} : look ((u, x) :: r) t = if u = t then x else look r t := id rfl
theorem trim_eq {l : List Tmp} : trim l st = ⟨l.map fun t => (t, look st.env t), st.ctx⟩ := id rfl
theorem addObj_eq {o : SO} : st.addObj o = ⟨st.env, st.ctx ++ [some o]⟩ := id rfl
theorem setObj_eq {h : Nat} {o : Option SO} : st.setObj h o = ⟨st.env, st.ctx.set h o⟩ := id rfl
theorem ptOf_hit {f : FuncId} {g : PE} {r : List (FuncId × PE)} {k : Nat} {gr : Bool} : ptOf ⟨(f, g) :: r, k, gr⟩ f = some g := by simp [ptOf, ptOfL]
theorem ptOf_miss {f f' : FuncId} {g : PE} {r : List (FuncId × PE)} {k : Nat} {gr : Bool} (h : (f' == f) = false) : ptOf ⟨(f', g) :: r, k, gr⟩ f = ptOf ⟨r, k, gr⟩ f := by
  simp only [beq_eq_false_iff_ne, ne_eq] at h
  simp [ptOf, ptOfL, h]
theorem kp_cons {j i : Nat} {l : List Tmp} {r : List (Nat × List Tmp)} : kp ((j, l) :: r) i = if j = i then l else kp r i := id rfl
theorem ptOf_nil {f : FuncId} {k : Nat} {gr : Bool} : ptOf ⟨[], k, gr⟩ f = none := id rfl
end ops
end Go.Vg
end
section
set_option linter.unusedVariables false
set_option linter.unusedSimpArgs false
namespace Go.Vg
set_option linter.unusedSectionVars false
variable [Go.Vg.Glob]
set_option linter.unusedVariables false
set_option linter.unusedSimpArgs false
open Go.RowKit

section
variable {P : Program} {ops : Array Oper} {Q : Exit → Act → World → Prop}

/-- What is known of the world: 'S0' as long as no writer has come up, 'S1' all the while. -/
def Sat2 (wrs : List Nat) (S0 S1 : World → Prop) (listed : Array Bool) (w : World) : Prop :=
  ((∀ j ∈ wrs, listed.getD j false = false) → S0 w) ∧ S1 w

def wpAnyL (P : Program) (ops : Array Oper) (Q : Exit → Act → World → Prop) (wrs : List Nat) (S0 S1 : World → Prop) : Nat → Array Bool → Act → World → Prop
  | 0, listed, a, w => Region.ready .any ops listed = [] ∧ Q .normal a w
  | fuel + 1, listed, a, w =>
    (Region.ready .any ops listed = [] → Q .normal a w) ∧
    ∀ i ∈ Region.ready .any ops listed, wpOp P ops Q i (fun a' w' => Sat2 wrs S0 S1 (listed.setIfInBounds i true) w' ∧ wpAnyL P ops Q wrs S0 S1 fuel (listed.setIfInBounds i true) a' w') a w

theorem wpAny_of_L {wrs : List Nat} {S0 S1 : World → Prop} : ∀ (fuel : Nat) (listed : Array Bool) (a : Act) (w : World), wpAnyL P ops Q wrs S0 S1 fuel listed a w → wpAny P .any ops Q fuel listed a w
  | 0, _, _, _, h => h
  | fuel + 1, _, _, _, h => ⟨h.1, fun i hi => wpOp_mono (fun a' w' h' => wpAny_of_L fuel _ a' w' h'.2) (h.2 i hi)⟩

theorem getD_set_other {listed : Array Bool} {i j : Nat} (d : Bool) (h : i ≠ j) : (listed.setIfInBounds i true).getD j d = listed.getD j d := Go.getD_set_ne d h

theorem wpAnyL_first {wrs : List Nat} {S0 S1 Sx : World → Prop} (ok : Array Bool → Prop) {i : Nat} {oi : Oper} {v : Value} (hi : ops[i]? = some oi) (hiw : i ∉ wrs)
    (hsel : ∀ (j : Nat) (o : Oper) cs b, ops[j]? = some o → o.op ≠ .select cs b)
    (hQ : ∀ c a w, Q (.panic c) (a.put oi.dst v) w → Q (.panic c) a w)
    (hS : ∀ listed w, ok listed → Sat2 wrs S0 S1 listed w → Sx w)
    (hstep : ∀ listed j, ok listed → listed.getD i true = false → j ∈ Region.ready .any ops listed → j ≠ i → ok (listed.setIfInBounds j true)) :
    ∀ (fuel : Nat) (listed : Array Bool) (a : Act) (w : World),
      (∀ j oj, ops[j]? = some oj → j ≠ i → listed.getD j true = false → (∀ e ∈ oj.after, Region.binds .any e = true → e.on ≠ i) → oi.apart ops oj = true) →
      i ∈ Region.ready .any ops listed → ok listed → YieldsIf P ops Sx oi v a → Sat2 wrs S0 S1 listed w →
      wpAnyL P ops Q wrs S0 S1 fuel (listed.setIfInBounds i true) (a.put oi.dst v) w → wpAnyL P ops Q wrs S0 S1 (fuel + 1) listed a w := by
  have sat_i : ∀ listed w, Sat2 wrs S0 S1 (listed.setIfInBounds i true) w ↔ Sat2 wrs S0 S1 listed w := by
    intro listed w
    unfold Sat2
    have : (∀ j ∈ wrs, (listed.setIfInBounds i true).getD j false = false) ↔ (∀ j ∈ wrs, listed.getD j false = false) := by
      constructor
      · intro h j hj
        have := h j hj
        rwa [getD_set_other false (show i ≠ j from fun e => hiw (by rw [e]; exact hj))] at this
      · intro h j hj
        rw [getD_set_other false (show i ≠ j from fun e => hiw (by rw [e]; exact hj))]
        exact h j hj
    rw [this]
  intro fuel
  induction fuel with
  | zero =>
    intro listed a w _ hr hok hy hs H
    refine ⟨fun h => (by rw [h] at hr; cases hr), fun j hj => ?_⟩
    by_cases hji : j = i
    · subst hji
      exact hy.wpOp hi (hS _ _ hok hs) ⟨(sat_i _ _).2 hs, H⟩
    · have := ready_mono hj hji
      rw [H.1] at this
      cases this
  | succ fuel ih =>
    intro listed a w hfree hr hok hy hs H
    refine ⟨fun h => (by rw [h] at hr; cases hr), fun j hj => ?_⟩
    by_cases hji : j = i
    · subst hji
      exact hy.wpOp hi (hS _ _ hok hs) ⟨(sat_i _ _).2 hs, H⟩
    · have h1 := H.2 j (ready_mono hj hji)
      obtain ⟨hjun, oj, hoj, hall⟩ := mem_ready.1 hj
      have hiun := (mem_ready.1 hr).1
      have hnot : ∀ e ∈ oj.after, Region.binds .any e = true → e.on ≠ i := fun e he hb heq => by
        have h1 := hall e he hb
        rw [heq] at h1
        rcases Nat.lt_or_ge i listed.size with h' | h'
        · simp [h'] at hiun h1; rw [hiun] at h1; cases h1
        · simp [Array.getElem?_eq_none h'] at h1
      have h2 := wpOp_putIf hoj (hfree j oj hoj hji hjun hnot) (fun cs b => hsel i oi cs b hi) (fun cs b => hsel j oj cs b hoj) hQ hy h1
      have hfree' : ∀ k ok, ops[k]? = some ok → k ≠ i → (listed.setIfInBounds j true).getD k true = false →
          (∀ e ∈ ok.after, Region.binds .any e = true → e.on ≠ i) → oi.apart ops ok = true := fun k ok hk hki hun hno => by
        refine hfree k ok hk hki ?_ hno
        by_cases hjk : j = k
        · subst hjk; exact hjun
        · rwa [getD_set_other true hjk] at hun
      have hok' := hstep listed j hok hiun hj hji
      refine wpOp_mono (fun a' w' h3 => ?_) h2
      obtain ⟨hy', hs', h4⟩ := h3
      have e : (listed.setIfInBounds i true).setIfInBounds j true = (listed.setIfInBounds j true).setIfInBounds i true := (Array.setIfInBounds_comm _ _ hji).symm
      have hs'' : Sat2 wrs S0 S1 (listed.setIfInBounds j true) w' := by
        rw [e] at hs'
        exact (sat_i _ _).1 hs'
      refine ⟨hs'', ih (listed.setIfInBounds j true) a' w' hfree' (ready_mono hr (Ne.symm hji)) hok' hy' hs'' ?_⟩
      rw [← e]
      exact h4

theorem wpAnyL_sole {wrs : List Nat} {S0 S1 : World → Prop} {i fuel : Nat} {listed : Array Bool} {a : Act} {w : World} (hr : Region.ready .any ops listed = [i])
    (h : wpOp P ops Q i (fun a' w' => Sat2 wrs S0 S1 (listed.setIfInBounds i true) w' ∧ wpAnyL P ops Q wrs S0 S1 fuel (listed.setIfInBounds i true) a' w') a w) : wpAnyL P ops Q wrs S0 S1 (fuel + 1) listed a w := by
  refine ⟨fun h0 => (by rw [h0] at hr; cases hr), fun j hj => ?_⟩
  rw [hr] at hj
  simp at hj
  subst hj
  exact h

theorem wpAnyL_done {wrs : List Nat} {S0 S1 : World → Prop} {listed : Array Bool} {a : Act} {w : World} (hr : Region.ready .any ops listed = []) (h : Q .normal a w) : ∀ fuel, wpAnyL P ops Q wrs S0 S1 fuel listed a w
  | 0 => ⟨hr, h⟩
  | _ + 1 => ⟨fun _ => h, by rw [hr]; simp⟩
end

/-! What a quiet operation comes to. -/

def quietOp (te : TE) (o : Op) : Bool := match o with
  | .load _ _ => true
  | o => opClass te o == 0

theorem load_handle {te : TE} {c : Bool} {st : St} {t : TypeId} {x : Operand} {K : SV → Prop} (h : xload te c st (.load t x) K) : ∀ q ∈ handleOf (st.ev x), (st.ctx.at q).isSome = true := by
  simp only [xload] at h
  unfold ung at h
  split at h
  · rename_i g v hv
    obtain ⟨_, h2⟩ := h.out
    split at h2
    · split at h2
      · rename_i ho _
        rw [hv]
        intro q hq
        simp only [handleOf, List.mem_singleton] at hq
        subst hq
        rw [ho]; rfl
      · exact h2.elim
    · rw [hv]; intro q hq; simp [handleOf] at hq
    · exact h2.elim
  · rename_i hne
    split at h
    · rename_i hv
      split at h
      · rename_i ho _
        rw [hv]
        intro q hq
        simp only [handleOf, List.mem_singleton] at hq
        subst hq
        rw [ho]; rfl
      · exact h.elim
    · rename_i hv; rw [hv]; intro q hq; simp [handleOf] at hq
    · exact h.elim

theorem XOne_quiet {P : Program} {te : TE} (hte : teOk P te) {wr : Bool} {pt : PT} {A : Amb} {σ : Asg} {st : St} {a : Act} {w : World} (hR : Rel A σ st a w) {g c : Bool} (hgc : g = false → c = true) {o : Oper} (hq : quietOp te o.op = true) {K : St → Prop}
    (h : XOne P te wr A.nt pt g c st o K) {Sx : World → Prop} (hS : ∀ w', Sx w' → ∀ h L, (st.ctx.at h).isSome = true → σ h = some L → w'.heap[L.b]? = w.heap[L.b]?) (hF : ∀ w', Sx w' → ∀ b o, σ.fz b = some o → w'.heap[b]? = some o) :
    (c = true → ∃ v st', K st' ∧ (∀ w', Sx w' → (execOp a.eval o).run P w' = .ok (.value v) w') ∧ Rel A σ st' (a.put o.dst v) w) ∧ (c = false → ∃ st', K st' ∧ Rel A σ st' (a.put o.dst undef) w) := by
  by_cases hl : opClass te o.op = 0
  · unfold XOne at h
    rw [hl] at h
    simp only at h
    obtain ⟨z, hz, hv⟩ := xpure_sound hte hR h
    obtain ⟨p1, p2⟩ := gd_put hR hz hgc
    refine ⟨fun hc => ?_, fun hc => p2 hc⟩
    obtain ⟨v, hr, hrun⟩ := hv hc
    obtain ⟨st', k1, k2⟩ := p1 v hc hr
    exact ⟨v, st', k1, fun w' _ => hrun w', k2⟩
  · obtain ⟨dst, op, ty, pos, after, gd⟩ := o
    cases op <;> simp only [quietOp, beq_iff_eq] at hq <;> first | exact absurd hq hl | skip
    rename_i t x
    have h' : xload te c st (.load t x) fun z => putS A.nt st dst (if g then mkgd c z else z) K := h
    have hh := load_handle h'
    obtain ⟨z, hz, hv⟩ := xload_sound (o := ⟨dst, .load t x, ty, pos, after, gd⟩) hte hR h'
    obtain ⟨p1, p2⟩ := gd_put (o := ⟨dst, .load t x, ty, pos, after, gd⟩) hR hz hgc
    refine ⟨fun hc => ?_, fun hc => p2 hc⟩
    obtain ⟨v, hr, hrun⟩ := hv hc
    obtain ⟨st', k1, k2⟩ := p1 v hc hr
    exact ⟨v, st', k1, fun w' hw' => hrun w' (fun q hq L hL => hS w' hw' q L (hh q hq) hL) (hF w' hw'), k2⟩

theorem XStep_quiet {P : Program} {te : TE} (hte : teOk P te) {wr : Bool} {pt : PT} {ops : Array Oper} {A : Amb} {σ : Asg} {st : St} {a : Act} {w : World} (hR : Rel A σ st a w) {o : Oper} (hq : quietOp te o.op = true) {K : St → Prop}
    (h : XStep P te wr A.nt pt false ops st o K) {Sx : World → Prop} (hS : ∀ w', Sx w' → ∀ h L, (st.ctx.at h).isSome = true → σ h = some L → w'.heap[L.b]? = w.heap[L.b]?) (hF : ∀ w', Sx w' → ∀ b o, σ.fz b = some o → w'.heap[b]? = some o) :
    ∃ v st', K st' ∧ YieldsIf P ops Sx o v a ∧ Rel A σ st' (a.put o.dst v) w := by
  unfold XStep at h
  split at h
  · rename_i hg
    obtain ⟨v, st', k1, k2, k3⟩ := (XOne_quiet hte hR (fun _ => rfl) hq h hS hF).1 rfl
    exact ⟨v, st', k1, .inl ⟨by simp [Region.wanted, hg], k2⟩, k3⟩
  · rename_i j want hg
    split at h
    · exact h.elim
    · rename_i d hd
      obtain ⟨c, h, hc⟩ := guardC_sound hR.env hd h
      have hw : Region.wanted o (yielded ops a.tmps) = c := by simp only [Region.wanted, hg, hc]
      simp only [Bool.false_eq_true, if_false] at h
      obtain ⟨q1, q2⟩ := XOne_quiet hte hR (g := true) (fun h => by cases h) hq h hS hF
      cases c with
      | true =>
        obtain ⟨v, st', k1, k2, k3⟩ := q1 rfl
        exact ⟨v, st', k1, .inl ⟨hw, k2⟩, k3⟩
      | false =>
        obtain ⟨st', k1, k3⟩ := q2 rfl
        exact ⟨undef, st', k1, .inr ⟨hw, rfl⟩, k3⟩
end Go.Vg
end
section
set_option linter.unusedVariables false
set_option linter.unusedSimpArgs false
namespace Go.Vg
set_option linter.unusedSectionVars false
variable [Go.Vg.Glob]
set_option linter.unusedVariables false
set_option linter.unusedSimpArgs false
open Go.RowKit

def mkRo1 : SO → Option SO
  | .row _ z n f => some (.row true z n f)
  | .blk _ cs => some (.blk true cs)
  | _ => none

def freeze (W : List Nat) : Nat → Ctx → Ctx
  | _, [] => []
  | i, o :: r => (if W.contains i then o else o.bind mkRo1) :: freeze W (i + 1) r

def maskC (W : List Nat) : Nat → Ctx → Ctx → Ctx
  | i, o0 :: r0, o :: r => (if W.contains i = false ∧ o0.isSome = true then o else none) :: maskC W (i + 1) r0 r
  | _, _, r => r.map fun _ => none

def thaw (W : List Nat) : Nat → Ctx → Ctx → Ctx
  | i, o0 :: r0, o :: r => (if W.contains i then o else o0) :: thaw W (i + 1) r0 r
  | _, _, r => r

theorem freeze_length (W : List Nat) : ∀ (i : Nat) (c : Ctx), (freeze W i c).length = c.length
  | _, [] => rfl
  | i, o :: r => by simp [freeze, freeze_length W (i + 1) r]
theorem maskC_length (W : List Nat) : ∀ (i : Nat) (c0 c : Ctx), (maskC W i c0 c).length = c.length
  | i, o0 :: r0, o :: r => by simp [maskC, maskC_length W (i + 1) r0 r]
  | _, [], r => by simp [maskC]
  | _, _ :: _, [] => by simp [maskC]
theorem thaw_length (W : List Nat) : ∀ (i : Nat) (c0 c : Ctx), (thaw W i c0 c).length = c.length
  | i, o0 :: r0, o :: r => by simp [thaw, thaw_length W (i + 1) r0 r]
  | _, [], r => by simp [thaw]
  | _, _ :: _, [] => by simp [thaw]

theorem at_nil (h : Nat) : Ctx.at [] h = none := by simp [Ctx.at]

theorem freeze_at (W : List Nat) : ∀ (c : Ctx) (i h : Nat), Ctx.at (freeze W i c) h = if W.contains (i + h) then Ctx.at c h else (Ctx.at c h).bind mkRo1
  | [], i, h => by simp [freeze, at_nil]
  | o :: r, i, 0 => by simp only [freeze, at_cons_zero, Nat.add_zero]
  | o :: r, i, h + 1 => by
    simp only [freeze, at_cons_succ]
    rw [freeze_at W r (i + 1) h, show i + 1 + h = i + (h + 1) from by omega]

theorem maskC_at {W : List Nat} : ∀ {c0 c : Ctx} {i h : Nat} {o : SO}, Ctx.at (maskC W i c0 c) h = some o → W.contains (i + h) = false ∧ (Ctx.at c0 h).isSome = true ∧ Ctx.at c h = some o
  | o0 :: r0, o' :: r, i, 0, o, e => by
    simp only [maskC, at_cons_zero] at e ⊢
    split at e
    · rename_i hh
      exact ⟨by simpa using hh.1, hh.2, e⟩
    · cases e
  | o0 :: r0, o' :: r, i, h + 1, o, e => by
    simp only [maskC, at_cons_succ] at e ⊢
    have := maskC_at (i := i + 1) e
    rwa [show i + 1 + h = i + (h + 1) from by omega] at this
  | [], r, i, h, o, e => by
    simp only [maskC, Ctx.at, List.getD_eq_getElem?_getD, List.getElem?_map] at e
    cases hr : r[h]? <;> simp [hr] at e
  | _ :: _, [], i, h, o, e => by simp [maskC, at_nil] at e

theorem thaw_at (W : List Nat) : ∀ (c0 c : Ctx) (i h : Nat), c0.length ≤ c.length → Ctx.at (thaw W i c0 c) h = if h < c0.length ∧ W.contains (i + h) = false then Ctx.at c0 h else Ctx.at c h
  | o0 :: r0, o :: r, i, 0, hl => by
    simp only [thaw, at_cons_zero, Nat.add_zero, List.length_cons]
    by_cases hw : W.contains i
    · rw [if_pos hw, if_neg (by rintro ⟨_, h⟩; rw [hw] at h; cases h)]
    · rw [if_neg hw, if_pos ⟨by omega, by simpa using hw⟩]
  | o0 :: r0, o :: r, i, h + 1, hl => by
    simp only [thaw, at_cons_succ]
    rw [thaw_at W r0 r (i + 1) h (by simpa using hl), show i + 1 + h = i + (h + 1) from by omega]
    simp only [List.length_cons, Nat.add_lt_add_iff_right]
  | [], r, i, h, hl => by simp [thaw]
  | _ :: _, [], i, h, hl => by simp at hl

theorem objSat_ro {σ : Asg} {w : World} {h : Nat} {o o' : SO} (e : mkRo1 o = some o') (hs : objSat σ w h o) : objSat σ w h o' ∧ o'.ro = true := by
  cases o <;> simp only [mkRo1, Option.some.injEq, reduceCtorEq] at e
  all_goals
    subst e
    refine ⟨?_, rfl⟩
    unfold objSat at hs ⊢
    simp only [SO.isMap] at hs ⊢
    rcases hs with hs | ⟨L, c, e, fr, h1, h2⟩
    · exact .inl hs
    · exact .inr ⟨L, c, e, fr, h1, h2.heap, h2.lsz, h2.room, h2.fits, h2.cell, fun h => by cases h⟩

/-- A schedule: taken first while nothing has been written ('B': who waits for it); taken first; from here on there may be writing; one of those that are ready (and what then), or another. -/
inductive Sc where
  | fin
  | q0 (i : Nat) (B : List Nat) (r : Sc)
  | q1 (i : Nat) (r : Sc)
  | sw (r : Sc)
  | alt (i : Nat) (r o : Sc)
  | seq (is : List Nat)

def altsOf : Sc → List Nat
  | .alt i _ o => i :: altsOf o
  | _ => []

def unl (listed : Array Bool) (i : Nat) : Bool := !listed.getD i true

def waits (ops : Array Oper) (B : List Nat) (b : Nat) : Bool := match ops[b]? with
  | some o => o.after.any fun e => Region.binds .any e && B.contains e.on
  | none => false

def schOk (ops : Array Oper) (wrs : List Nat) : Bool → Bool → Sc → Array Bool → Bool
  | hd, _, .fin, listed => !hd || (Region.ready .any ops listed).isEmpty
  | hd, ph, .q0 i B r, listed => hd && !ph && Region.free .any ops listed i && (Region.ready .any ops listed).contains i && !wrs.contains i && wrs.all B.contains && B.all (fun b => b == i || waits ops B b) && B.all (unl listed) && B.contains i && schOk ops wrs true ph r (listed.setIfInBounds i true)
  | hd, ph, .q1 i r, listed => hd && Region.free .any ops listed i && (Region.ready .any ops listed).contains i && !wrs.contains i && schOk ops wrs true ph r (listed.setIfInBounds i true)
  | hd, ph, .alt i r o, listed => (!hd || (Region.ready .any ops listed == i :: altsOf o)) && (Region.ready .any ops listed).contains i && (ph == wrs.contains i) && schOk ops wrs true ph r (listed.setIfInBounds i true) && schOk ops wrs false ph o listed
  | hd, _, .sw r, listed => hd && schOk ops wrs true true r listed
  | _, _, .seq _, _ => false

def cnt : Sc → Nat
  | .fin => 0
  | .sw r => cnt r
  | .q0 _ _ r => cnt r + 1
  | .q1 _ r => cnt r + 1
  | .alt _ r o => max (cnt r + 1) (cnt o)
  | .seq is => is.length

/-- The table within a drawn region: all objects stay where they lie, nothing is frozen anew. -/
def PT.in (pt : PT) (n : Nat) : PT := ⟨pt.l, n, false⟩

def XQ (P : Program) (te : TE) (wr : Bool) (nt : Nat) (pt : PT) (ops : Array Oper) (W : List Nat) (ctx0 : Ctx) (o : Oper) (K : St → Prop) (st : St) : Prop :=
  quietOp te o.op = true ∧ XStep P te wr nt (pt.in ctx0.length) false ops ⟨st.env, maskC W 0 ctx0 st.ctx⟩ o fun s => K ⟨s.env, st.ctx⟩

def XD (P : Program) (te : TE) (wr : Bool) (nt : Nat) (pt : PT) (ops : Array Oper) (W : List Nat) (ctx0 : Ctx) (K : St → Prop) : Bool → Bool → Sc → St → Prop
  | true, ph, .fin, st => newRw ctx0.length st.ctx ∧ K ⟨st.env, thaw (if ph then W else []) 0 ctx0 st.ctx⟩
  | false, _, .fin, _ => True
  | _, ph, .q0 i _ r, st => match ops[i]? with
    | some o => XQ P te wr nt pt ops [] ctx0 o (XD P te wr nt pt ops W ctx0 K true ph r) st
    | none => False
  | _, ph, .q1 i r, st => match ops[i]? with
    | some o => XQ P te wr nt pt ops W ctx0 o (XD P te wr nt pt ops W ctx0 K true ph r) st
    | none => False
  | _, ph, .alt i r q, st => (match ops[i]? with
    | some o => XStep P te wr nt (pt.in ctx0.length) false ops st o (XD P te wr nt pt ops W ctx0 K true ph r)
    | none => False) ∧ XD P te wr nt pt ops W ctx0 K false ph q st
  | _, ph, .sw r, st => ph = false ∧ newRw ctx0.length st.ctx ∧ (W.all fun h => match ctx0.at h with | some o => !o.ro | none => false) = true ∧
      XD P te wr nt pt ops W ctx0 K true true r ⟨st.env, freeze W 0 ctx0 ++ st.ctx.drop ctx0.length⟩
  | _, _, .seq _, _ => False

/-- Blocks of the objects that may be written. -/
def wB (W : List Nat) (c0 : Ctx) (σ : Asg) (b : Nat) : Prop := ∃ h o L, W.contains h = true ∧ c0.at h = some o ∧ o.ro = false ∧ σ h = some L ∧ L.b = b

def ambR (W : List Nat) (c0 : Ctx) (σ : Asg) (w : World) (nt : Nat) (ph : Bool) : Amb := ⟨w, fun b => ph = true ∧ wB W c0 σ b, σ, c0.length, nt, false⟩

theorem noGrow {σ : Asg} {w : World} {W : List Nat} {ctx : Ctx} {ph : Bool} {σ' : Asg} {s : St} {nt : Nat} {a' : Act} {w' : World} (hS : Rel (ambR W ctx σ w nt ph) σ' s a' w') {b : Nat} {o : Obj} (h : σ'.fz b = some o) : σ.fz b = some o := by
  rcases hS.base.fzn b o h with h | ⟨h, _⟩
  · exact h
  · cases h

section
variable {A : Amb} {σ : Asg} {st : St} {a : Act} {w : World} (hR : Rel A σ st a w) (W : List Nat)
include hR

theorem Rel.frozen : Rel (ambR W st.ctx σ w A.nt false) σ ⟨st.env, freeze [] 0 st.ctx⟩ a w := by
  have key : ∀ h o, Ctx.at (freeze [] 0 st.ctx) h = some o → ∃ o', st.ctx.at h = some o' ∧ mkRo1 o' = some o := by
    intro h o e
    rw [freeze_at] at e
    simp only [List.contains_nil, Bool.false_eq_true, if_false] at e
    cases hh : st.ctx.at h with
    | none => rw [hh] at e; cases e
    | some o' => rw [hh] at e; exact ⟨o', rfl, e⟩
  have ro : ∀ h o, Ctx.at (freeze [] 0 st.ctx) h = some o → o.ro = true := by
    intro h o e
    obtain ⟨o', h1, h2⟩ := key h o e
    exact (objSat_ro h2 (hR.sat.obj h o' h1)).2
  refine ⟨hR.defers, hR.size, hR.env, ⟨fun h o e => ?_, fun h h' o o' L L' _ e1 _ hro _ _ => ?_, fun h hh => hR.sat.beyond h (by simpa [freeze_length] using hh), hR.sat.inHeap, hR.sat.frz, fun h o L e hro _ => (by rw [ro h o e] at hro; cases hro), hR.sat.glb⟩, Fr.refl _ _, fun h o L e hro _ => ?_, ⟨fun _ _ => rfl, fun _ _ h => h, fun _ _ h => .inl h⟩, ?_⟩
  · obtain ⟨o', h1, h2⟩ := key h o e
    exact (objSat_ro h2 (hR.sat.obj h o' h1)).1
  · rw [ro h o e1] at hro; cases hro
  · rw [ro h o e] at hro; cases hro
  · simp [ambR, freeze_length]

theorem frz_lt {b : Nat} {o : Obj} (h : σ.fz b = some o) : b < w.heap.size := by
  have := hR.sat.frz b o h
  rcases Nat.lt_or_ge b w.heap.size with h' | h'
  · exact h'
  · rw [Array.getElem?_eq_none h'] at this; cases this

theorem not_wB {b : Nat} {o : Obj} (h : σ.fz b = some o) : ¬ wB W st.ctx σ b := by
  rintro ⟨h2, o2, L2, k1, k2, k3, k4, rfl⟩
  rw [hR.sat.frzA h2 o2 L2 k2 k3 k4] at h; cases h

theorem wB_other {h : Nat} {o : SO} {L : Loc} (hw : W.contains h = false) (ho : st.ctx.at h = some o) (hL : σ h = some L) : ¬ wB W st.ctx σ L.b := by
  rintro ⟨h2, o2, L2, k1, k2, k3, k4, k5⟩
  have hne : h2 ≠ h := by intro e; subst e; rw [k1] at hw; cases hw
  exact hR.sat.apart h2 h o2 o L2 L hne k2 ho k3 k4 hL k5

theorem leA_base {σ' : Asg} (hb : ∀ h, h < st.ctx.length → σ' h = σ h) (hf : ∀ b o, σ.fz b = some o → σ'.fz b = some o) : leA σ σ' := by
  refine ⟨fun h L hL => ?_, hf⟩
  have : h < st.ctx.length := by
    rcases Nat.lt_or_ge h st.ctx.length with h' | h'
    · exact h'
    · rw [hR.sat.beyond h h'] at hL; cases hL
  rw [hb h this, hL]

theorem Rel.switched {σ' : Asg} {s : St} {a' : Act} {w' : World} (hS : Rel (ambR W st.ctx σ w A.nt false) σ' s a' w') (hn : newRw st.ctx.length s.ctx) :
    Rel (ambR W st.ctx σ w A.nt true) σ' ⟨s.env, freeze W 0 st.ctx ++ s.ctx.drop st.ctx.length⟩ a' w' := by
  have hbase : ∀ h, h < st.ctx.length → σ' h = σ h := hS.base.loc
  have hle := leA_base hR hbase hS.base.fzb
  have hlen : st.ctx.length ≤ s.ctx.length := hS.klen
  have hat : ∀ h, Ctx.at (freeze W 0 st.ctx ++ s.ctx.drop st.ctx.length) h = if h < st.ctx.length then Ctx.at (freeze W 0 st.ctx) h else Ctx.at s.ctx h := by
    intro h
    rw [at_app', freeze_length]
    split
    · rfl
    · simp only [Ctx.at, List.getD_eq_getElem?_getD, List.getElem?_drop]
      rw [show st.ctx.length + (h - st.ctx.length) = h from by omega]
  have old : ∀ h o, h < st.ctx.length → Ctx.at (freeze W 0 st.ctx) h = some o → ∃ o', st.ctx.at h = some o' ∧ objSat σ' w' h o ∧ (o.ro = false → W.contains h = true ∧ o'.ro = false) := by
    intro h o hh e
    rw [freeze_at, Nat.zero_add] at e
    have stay : ∀ o', st.ctx.at h = some o' → objSat σ' w' h o' := fun o' ho' =>
      objSat_same hle (hbase h hh) (fun L hL => hS.fr.block _ (hR.sat.inHeap h L hL) (by rintro ⟨h, _⟩; cases h)) (hR.sat.obj h o' ho')
    split at e
    · rename_i hw
      exact ⟨o, e, stay o e, fun hro => ⟨hw, hro⟩⟩
    · cases hh' : st.ctx.at h with
      | none => rw [hh'] at e; cases e
      | some o' =>
        rw [hh'] at e
        have := objSat_ro e (stay o' hh')
        exact ⟨o', rfl, this.1, fun hro => by rw [this.2] at hro; cases hro⟩
  have new : ∀ h o L, st.ctx.length ≤ h → s.ctx.at h = some o → σ' h = some L → w.heap.size ≤ L.b := by
    intro h o L hh e hL
    rcases hS.own h o L e (hn.get hh e) hL with ⟨hx, _⟩ | hx
    · cases hx
    · exact hx
  have lt : ∀ h L, h < st.ctx.length → σ' h = some L → L.b < w.heap.size := fun h L hh hL => hR.sat.inHeap h L (by rw [← hbase h hh]; exact hL)
  refine ⟨hS.defers, hS.size, hS.env, ⟨fun h o e => ?_, fun h h' o o' L L' hne e1 e2 hro s1 s2 => ?_, fun h hh => ?_, hS.sat.inHeap, hS.sat.frz, fun h o L e hro hL => ?_, hS.sat.glb⟩, hS.fr.mono (fun b _ hx => (by cases hx.1)), fun h o L e hro hL => ?_, ⟨hS.base.loc, hS.base.fzb, fun b o h => .inl (noGrow hS h)⟩, ?_⟩
  · have e' : Ctx.at (freeze W 0 st.ctx ++ s.ctx.drop st.ctx.length) h = some o := e
    rw [hat] at e'
    split at e'
    · rename_i hh
      exact (old h o hh e').choose_spec.2.1
    · exact hS.sat.obj h o e'
  · have e1' : Ctx.at (freeze W 0 st.ctx ++ s.ctx.drop st.ctx.length) h = some o := e1
    have e2' : Ctx.at (freeze W 0 st.ctx ++ s.ctx.drop st.ctx.length) h' = some o' := e2
    rw [hat] at e1' e2'
    split at e1'
    · rename_i hh
      obtain ⟨q, q1, q2, q3⟩ := old h o hh e1'
      obtain ⟨q3, q4⟩ := q3 hro
      split at e2'
      · rename_i hh'
        obtain ⟨q', q1', _, _⟩ := old h' o' hh' e2'
        exact hR.sat.apart h h' q q' L L' hne q1 q1' q4 (by rw [← hbase h hh]; exact s1) (by rw [← hbase h' hh']; exact s2)
      · rename_i hh'
        have := new h' o' L' (by omega) e2' s2
        have := lt h L hh s1
        omega
    · rename_i hh
      split at e2'
      · rename_i hh'
        have := new h o L (by omega) e1' s1
        have := lt h' L' hh' s2
        omega
      · exact hS.sat.apart h h' o o' L L' hne e1' e2' hro s1 s2
  · refine hS.sat.beyond h ?_
    have h2 : (freeze W 0 st.ctx ++ s.ctx.drop st.ctx.length).length ≤ h := hh
    simp only [List.length_append, freeze_length, List.length_drop] at h2
    show s.ctx.length ≤ h
    omega
  · have e' : Ctx.at (freeze W 0 st.ctx ++ s.ctx.drop st.ctx.length) h = some o := e
    rw [hat] at e'
    split at e'
    · rename_i hh
      obtain ⟨q, q1, q2, q3⟩ := old h o hh e'
      obtain ⟨q3, q4⟩ := q3 hro
      cases hz : σ'.fz L.b with
      | none => rfl
      | some x =>
        have := noGrow hS hz
        rw [hR.sat.frzA h q L q1 q4 (by rw [← hbase h hh]; exact hL)] at this; cases this
    · exact hS.sat.frzA h o L e' hro hL
  · have e' : Ctx.at (freeze W 0 st.ctx ++ s.ctx.drop st.ctx.length) h = some o := e
    rw [hat] at e'
    split at e'
    · rename_i hh
      obtain ⟨q, q1, q2, q3⟩ := old h o hh e'
      obtain ⟨q3, q4⟩ := q3 hro
      exact .inl ⟨rfl, h, q, L, q3, q1, q4, by rw [← hbase h hh]; exact hL, rfl⟩
    · rename_i hh
      exact .inr (new h o L (by omega) e' hL)
  · show st.ctx.length ≤ (freeze W 0 st.ctx ++ _).length
    simp [freeze_length]

end
end Go.Vg
end
section
set_option linter.unusedVariables false
set_option linter.unusedSimpArgs false
namespace Go.Vg
set_option linter.unusedSectionVars false
variable [Go.Vg.Glob]
set_option linter.unusedVariables false
set_option linter.unusedSimpArgs false
open Go.RowKit

theorem Rel.thawed {A : Amb} {σ : Asg} {st : St} {a : Act} {w : World} (hR : Rel A σ st a w) {W : List Nat} {ph : Bool}
    (hWr : ph = true → ∀ h, W.contains h = true → ∃ o, st.ctx.at h = some o ∧ o.ro = false)
    {σ' : Asg} {s : St} {a' : Act} {w' : World} (hS : Rel (ambR W st.ctx σ w A.nt ph) σ' s a' w') (hn : newRw st.ctx.length s.ctx) :
    Rel A σ' ⟨s.env, thaw (if ph then W else []) 0 st.ctx s.ctx⟩ a' w' := by
  have hbase : ∀ h, h < st.ctx.length → σ' h = σ h := hS.base.loc
  have hle := leA_base hR hbase hS.base.fzb
  have hlen : st.ctx.length ≤ s.ctx.length := hS.klen
  have lt : ∀ h L, h < st.ctx.length → σ' h = some L → L.b < w.heap.size := fun h L hh hL => hR.sat.inHeap h L (by rw [← hbase h hh]; exact hL)
  -- three kinds
  have kind : ∀ h o, Ctx.at (thaw (if ph then W else []) 0 st.ctx s.ctx) h = some o →
      (h < st.ctx.length ∧ st.ctx.at h = some o ∧ (ph = true → W.contains h = false)) ∨ (h < st.ctx.length ∧ ph = true ∧ W.contains h = true ∧ s.ctx.at h = some o) ∨ (st.ctx.length ≤ h ∧ s.ctx.at h = some o) := by
    intro h o e
    rw [thaw_at _ _ _ _ _ hlen, Nat.zero_add] at e
    by_cases hh : h < st.ctx.length ∧ (if ph then W else []).contains h = false
    · rw [if_pos hh] at e
      refine .inl ⟨hh.1, e, fun hp => ?_⟩
      rw [if_pos hp] at hh
      exact hh.2
    · rw [if_neg hh] at e
      by_cases h1 : h < st.ctx.length
      · have h2 : ¬ (if ph then W else []).contains h = false := fun x => hh ⟨h1, x⟩
        cases ph with
        | false => simp at h2
        | true => exact .inr (.inl ⟨h1, rfl, by simpa using h2, e⟩)
      · exact .inr (.inr ⟨by omega, e⟩)
  have notW : ∀ h o L, st.ctx.at h = some o → (ph = true → W.contains h = false) → σ h = some L → ¬ (ph = true ∧ wB W st.ctx σ L.b) := fun h o L ho hw hL ⟨hp, hx⟩ => wB_other hR W (hw hp) ho hL hx
  have newE : ∀ h o L, st.ctx.length ≤ h → s.ctx.at h = some o → σ' h = some L → (ph = true ∧ wB W st.ctx σ L.b) ∨ w.heap.size ≤ L.b := fun h o L hh e hL => hS.own h o L e (hn.get hh e) hL
  -- a kept object's block is none of the others'
  have keptOther : ∀ h o L, h < st.ctx.length → st.ctx.at h = some o → (ph = true → W.contains h = false) → σ' h = some L →
      ∀ h' o' L', ((h' < st.ctx.length ∧ ph = true ∧ W.contains h' = true ∧ s.ctx.at h' = some o') ∨ (st.ctx.length ≤ h' ∧ s.ctx.at h' = some o')) → σ' h' = some L' → L.b ≠ L'.b := by
    intro h o L hh ho hw hL h' o' L' hk hL' he
    have hL0 : σ h = some L := by rw [← hbase h hh]; exact hL
    rcases hk with ⟨hh', hp, hw', e'⟩ | ⟨hh', e'⟩
    · obtain ⟨q, q1, q2⟩ := hWr hp h' hw'
      exact notW h o L ho hw hL0 ⟨hp, h', q, L', hw', q1, q2, by rw [← hbase h' hh']; exact hL', he.symm⟩
    · rcases newE h' o' L' hh' e' hL' with hx | hx
      · rw [← he] at hx; exact notW h o L ho hw hL0 hx
      · have := lt h L hh hL; omega
  refine ⟨hS.defers, hS.size, hS.env, ⟨fun h o e => ?_, fun h h' o o' L L' hne e1 e2 hro s1 s2 => ?_, fun h hh => hS.sat.beyond h (by simpa [thaw_length] using hh), hS.sat.inHeap, hS.sat.frz, fun h o L e hro hL => ?_, hS.sat.glb⟩, ?_, fun h o L e hro hL => ?_, ⟨fun h hh => ?_, fun b o h => hS.base.fzb b o (hR.base.fzb b o h), fun b o h => hR.base.fzn b o (noGrow hS h)⟩, ?_⟩
  · rcases kind h o e with ⟨hh, e', hw⟩ | ⟨_, _, _, e'⟩ | ⟨_, e'⟩
    · exact objSat_same hle (hbase h hh) (fun L hL => hS.fr.block _ (hR.sat.inHeap h L hL) (notW h o L e' hw hL)) (hR.sat.obj h o e')
    · exact hS.sat.obj h o e'
    · exact hS.sat.obj h o e'
  · rcases kind h o e1 with ⟨hh, e1', hw⟩ | k1
    · rcases kind h' o' e2 with ⟨hh', e2', hw'⟩ | k2
      · exact hR.sat.apart h h' o o' L L' hne e1' e2' hro (by rw [← hbase h hh]; exact s1) (by rw [← hbase h' hh']; exact s2)
      · exact keptOther h o L hh e1' hw s1 h' o' L' k2 s2
    · rcases kind h' o' e2 with ⟨hh', e2', hw'⟩ | k2
      · exact fun he => keptOther h' o' L' hh' e2' hw' s2 h o L k1 s1 he.symm
      · have g1 : s.ctx.at h = some o := by rcases k1 with ⟨_, _, _, x⟩ | ⟨_, x⟩ <;> exact x
        have g2 : s.ctx.at h' = some o' := by rcases k2 with ⟨_, _, _, x⟩ | ⟨_, x⟩ <;> exact x
        exact hS.sat.apart h h' o o' L L' hne g1 g2 hro s1 s2
  · rcases kind h o e with ⟨hh, e', hw⟩ | ⟨_, _, _, e'⟩ | ⟨_, e'⟩
    · cases hz : σ'.fz L.b with
      | none => rfl
      | some x =>
        have := noGrow hS hz
        rw [hR.sat.frzA h o L e' hro (by rw [← hbase h hh]; exact hL)] at this; cases this
    · exact hS.sat.frzA h o L e' hro hL
    · exact hS.sat.frzA h o L e' hro hL
  · refine hR.fr.step hS.fr fun b hb ⟨_, h, o, L, h1, h2, h3, h4, h5⟩ => ?_
    rcases hR.own h o L h2 h3 h4 with hx | hx
    · rwa [h5] at hx
    · omega
  · have up : ∀ b, (ph = true ∧ wB W st.ctx σ b) → A.D b ∨ A.w0.heap.size ≤ b := by
      rintro b ⟨_, h, o, L, h1, h2, h3, h4, rfl⟩
      exact hR.own h o L h2 h3 h4
    rcases kind h o e with ⟨hh, e', hw⟩ | ⟨_, _, _, e'⟩ | ⟨_, e'⟩
    · exact hR.own h o L e' hro (by rw [← hbase h hh]; exact hL)
    · rcases hS.own h o L e' hro hL with hx | hx
      · exact up _ hx
      · exact .inr (Nat.le_trans hR.fr.size hx)
    · rcases hS.own h o L e' hro hL with hx | hx
      · exact up _ hx
      · exact .inr (Nat.le_trans hR.fr.size hx)
  · have : h < st.ctx.length := Nat.lt_of_lt_of_le hh hR.klen
    rw [hbase h this]
    exact hR.base.loc h hh
  · show A.k ≤ (thaw _ _ _ _).length
    rw [thaw_length]
    exact Nat.le_trans hR.klen hlen

theorem Rel.masked {A : Amb} {σ : Asg} {st : St} {a : Act} {w : World} (hR : Rel A σ st a w) (W : List Nat) (c0 : Ctx) : Rel A σ ⟨st.env, maskC W 0 c0 st.ctx⟩ a w := by
  refine ⟨hR.defers, hR.size, hR.env, ⟨fun h o e => hR.sat.obj h o (maskC_at e).2.2, fun h h' o o' L L' hne e1 e2 => hR.sat.apart h h' o o' L L' hne (maskC_at e1).2.2 (maskC_at e2).2.2, fun h hh => hR.sat.beyond h (by simpa [maskC_length] using hh), hR.sat.inHeap, hR.sat.frz, fun h o L e => hR.sat.frzA h o L (maskC_at e).2.2, hR.sat.glb⟩, hR.fr, fun h o L e => hR.own h o L (maskC_at e).2.2, hR.base, ?_⟩
  show A.k ≤ (maskC W 0 c0 st.ctx).length
  rw [maskC_length]
  exact hR.klen

theorem wpAnyL_all {P : Program} {ops : Array Oper} {Q : Exit → Act → World → Prop} {wrs : List Nat} {S0 S1 : World → Prop} {rs : List Nat} {fuel : Nat} {listed : Array Bool} {a : Act} {w : World} (hr : Region.ready .any ops listed = rs) (hne : rs ≠ [])
    (h : ∀ i ∈ rs, wpOp P ops Q i (fun a' w' => Sat2 wrs S0 S1 (listed.setIfInBounds i true) w' ∧ wpAnyL P ops Q wrs S0 S1 fuel (listed.setIfInBounds i true) a' w') a w) : wpAnyL P ops Q wrs S0 S1 (fuel + 1) listed a w :=
  ⟨fun h0 => absurd (hr.symm.trans h0) hne, fun i hi => h i (by rw [← hr]; exact hi)⟩

theorem XD_run {P : Program} {te : TE} (hte : teOk P te) {wr : Bool} {pt : PT} (hpt : PTok P pt) {ops : Array Oper} (hns : Region.noSelect ops = true) {W : List Nat} {K : St → Prop} {A : Amb} {σ : Asg} {st : St} {a0 : Act} {w : World} (hR : Rel A σ st a0 w) {wrs : List Nat} :
    ∀ (sch : Sc) (hd ph : Bool) (listed : Array Bool) (σ' : Asg) (s : St) (a : Act) (w' : World) (fuel : Nat), schOk ops wrs hd ph sch listed = true → XD P te wr A.nt pt ops W st.ctx K hd ph sch s →
      (ph = true → ∀ h, W.contains h = true → ∃ o, st.ctx.at h = some o ∧ o.ro = false) → Rel (ambR W st.ctx σ w A.nt ph) σ' s a w' →
      Sat2 wrs (Fr (fun _ => False) w) (Fr (wB W st.ctx σ) w) listed w' → cnt sch ≤ fuel →
      (hd = true → wpAnyL P ops (fun e a' w'' => e = .normal ∧ ∃ σ'' st', K st' ∧ Rel A σ'' st' a' w'') wrs (Fr (fun _ => False) w) (Fr (wB W st.ctx σ) w) fuel listed a w') ∧
      (∀ f, fuel = f + 1 → ∀ i ∈ altsOf sch, wpOp P ops (fun e a' w'' => e = .normal ∧ ∃ σ'' st', K st' ∧ Rel A σ'' st' a' w'') i (fun a' w' => Sat2 wrs (Fr (fun _ => False) w) (Fr (wB W st.ctx σ) w) (listed.setIfInBounds i true) w' ∧
        wpAnyL P ops (fun e a' w'' => e = .normal ∧ ∃ σ'' st', K st' ∧ Rel A σ'' st' a' w'') wrs (Fr (fun _ => False) w) (Fr (wB W st.ctx σ) w) f (listed.setIfInBounds i true) a' w') a w') := by
  intro sch
  -- a quiet operation
  have quiet0 : ∀ (r : Sc) (ph : Bool) (listed : Array Bool) (σ' : Asg) (s : St) (a : Act) (w' : World) (fuel : Nat),
      (∀ (hd ph : Bool) (listed : Array Bool) (σ' : Asg) (s : St) (a : Act) (w' : World) (fuel : Nat), schOk ops wrs hd ph r listed = true → XD P te wr A.nt pt ops W st.ctx K hd ph r s →
      (ph = true → ∀ h, W.contains h = true → ∃ o, st.ctx.at h = some o ∧ o.ro = false) → Rel (ambR W st.ctx σ w A.nt ph) σ' s a w' →
      Sat2 wrs (Fr (fun _ => False) w) (Fr (wB W st.ctx σ) w) listed w' → cnt r ≤ fuel →
      (hd = true → wpAnyL P ops (fun e a' w'' => e = .normal ∧ ∃ σ'' st', K st' ∧ Rel A σ'' st' a' w'') wrs (Fr (fun _ => False) w) (Fr (wB W st.ctx σ) w) fuel listed a w')) →
      (ph = true → ∀ h, W.contains h = true → ∃ o, st.ctx.at h = some o ∧ o.ro = false) → Rel (ambR W st.ctx σ w A.nt ph) σ' s a w' → Sat2 wrs (Fr (fun _ => False) w) (Fr (wB W st.ctx σ) w) listed w' →
      ∀ (i : Nat) (V : List Nat) (Sx : World → Prop) (ok : Array Bool → Prop), (∀ w1, Sx w1 → ∀ h L, (st.ctx.at h).isSome = true → V.contains h = false → σ h = some L → w1.heap[L.b]? = w.heap[L.b]?) → (∀ w1, Sx w1 → ∀ b o, σ.fz b = some o → w1.heap[b]? = some o) →
        (∀ l w1, ok l → Sat2 wrs (Fr (fun _ => False) w) (Fr (wB W st.ctx σ) w) l w1 → Sx w1) →
        (∀ l j, ok l → l.getD i true = false → j ∈ Region.ready .any ops l → j ≠ i → ok (l.setIfInBounds j true)) → ok listed →
        Region.free .any ops listed i = true → (Region.ready .any ops listed).contains i = true → i ∉ wrs → schOk ops wrs true ph r (listed.setIfInBounds i true) = true → cnt r + 1 ≤ fuel →
        (match ops[i]? with | some o => XQ P te wr A.nt pt ops V st.ctx o (XD P te wr A.nt pt ops W st.ctx K true ph r) s | none => False) →
        wpAnyL P ops (fun e a' w'' => e = .normal ∧ ∃ σ'' st', K st' ∧ Rel A σ'' st' a' w'') wrs (Fr (fun _ => False) w) (Fr (wB W st.ctx σ) w) fuel listed a w' := by
    intro r ph listed σ' s a w' fuel ih hWr hS hsat
    have hbase : ∀ h, h < st.ctx.length → σ' h = σ h := hS.base.loc
    intro i V Sx ok hSx hSf hok1 hok2 hok hfree hready hiw hsch' hfu hx
    obtain ⟨f, rfl⟩ : ∃ f, fuel = f + 1 := ⟨fuel - 1, by omega⟩
    cases ho : ops[i]? with
    | none => rw [ho] at hx; exact hx.elim
    | some o =>
      rw [ho] at hx
      obtain ⟨hq, hx⟩ := hx
      have hm := hS.masked V st.ctx
      obtain ⟨v, st', k1, k2, k3⟩ := XStep_quiet hte hm hq hx (Sx := Sx) (fun w1 hw1 h L hsome hL => by
        cases hh : Ctx.at (maskC V 0 st.ctx s.ctx) h with
        | none =>
          have : (Ctx.at (maskC V 0 st.ctx s.ctx) h).isSome = true := hsome
          rw [hh] at this; cases this
        | some o' =>
          obtain ⟨m1, m2, m3⟩ := maskC_at hh
          rw [Nat.zero_add] at m1
          have hlt : h < st.ctx.length := by
            cases hc : st.ctx.at h with
            | none => rw [hc] at m2; cases m2
            | some q => exact at_lt hc
          have hL0 : σ h = some L := by rw [← hbase h hlt]; exact hL
          rw [hSx w1 hw1 h L m2 m1 hL0, hSx w' (hok1 listed w' hok hsat) h L m2 m1 hL0]) (fun w1 hw1 b o hb => hSf w1 hw1 b o (noGrow hS hb))
      refine wpAnyL_first ok ho hiw (Region.noSelect_spec hns) (fun c a w h => by cases h.1) hok1 hok2 f listed a w' (Region.free_spec ho hfree) (by simpa using hready) hok k2 hsat ?_
      refine ih true ph (listed.setIfInBounds i true) σ' ⟨st'.env, s.ctx⟩ _ w' f hsch' k1 hWr ⟨k3.defers, k3.size, k3.env, hS.sat, hS.fr, hS.own, hS.base, hS.klen⟩ ?_ (by omega) rfl
      refine ⟨fun h => hsat.1 fun j hj => ?_, hsat.2⟩
      have := h j hj
      rwa [getD_set_other false (show i ≠ j from fun e => hiw (by rw [e]; exact hj))] at this
  induction sch with
  | seq is => intro hd ph listed σ' s a w' fuel hsch; simp [schOk] at hsch
  | fin =>
    intro hd ph listed σ' s a w' fuel hsch hX hWr hS hsat _
    refine ⟨fun hhd => ?_, fun f _ i hi => by simp [altsOf] at hi⟩
    subst hhd
    simp only [schOk, Bool.not_true, Bool.false_or, List.isEmpty_iff] at hsch
    simp only [XD] at hX
    exact wpAnyL_done hsch ⟨rfl, σ', _, hX.2, hR.thawed hWr hS hX.1⟩ fuel
  | q0 i B r ih =>
    intro hd ph listed σ' s a w' fuel hsch hX hWr hS hsat hfuel
    have hbase : ∀ h, h < st.ctx.length → σ' h = σ h := hS.base.loc
    simp only [schOk, Bool.and_eq_true, Bool.not_eq_true'] at hsch
    obtain ⟨⟨⟨⟨⟨⟨⟨⟨⟨hd1, h1⟩, h2⟩, h3⟩, h4⟩, h5⟩, h6⟩, h7⟩, h8⟩, h9⟩ := hsch
    simp only [XD] at hX
    refine ⟨fun _ => ?_, fun f _ i hi => by simp [altsOf] at hi⟩
    refine quiet0 r ph listed σ' s a w' fuel (fun hd ph l σ' s a w' fu x1 x2 x3 x4 x5 x6 => (ih hd ph l σ' s a w' fu x1 x2 x3 x4 x5 x6).1) hWr hS hsat i [] (Fr (fun _ => False) w) (fun l => ∀ b ∈ B, l.getD b true = false) (fun w1 hw1 h L _ _ hL => hw1.block _ (hR.sat.inHeap h L hL) (fun x => x)) (fun w1 hw1 b o hb => (hw1.block b (frz_lt hR hb) (fun x => x)).trans (hR.sat.frz b o hb)) (fun l w1 hl hs => hs.1 fun j hj => ?_) (fun l j hl hli hj hji b hb => ?_) ?_ h2 h3 (by simpa using h4) h9 (by simpa [cnt] using hfuel) hX
    · have hjB : j ∈ B := by
        rw [List.all_eq_true] at h5
        simpa using h5 j hj
      have := hl j hjB
      rcases Nat.lt_or_ge j l.size with h' | h'
      · simp [h'] at this ⊢; exact this
      · simp [Array.getElem?_eq_none h']
    · by_cases hbj : j = b
      · subst hbj
        rw [List.all_eq_true] at h6
        have := h6 j hb
        simp only [Bool.or_eq_true, beq_iff_eq] at this
        rcases this with hx | hx
        · exact absurd hx hji
        · unfold waits at hx
          obtain ⟨hjun, oj, hoj, hall⟩ := mem_ready.1 hj
          rw [hoj] at hx
          simp only [Array.any_eq_true, Bool.and_eq_true, List.contains_iff_mem] at hx
          obtain ⟨q, hq, hb1, hb2⟩ := hx
          have e1 := hall _ (Array.getElem_mem hq) hb1
          have e2 := hl _ (by simpa using hb2)
          rcases Nat.lt_or_ge (oj.after[q]).on l.size with h' | h'
          · simp [h'] at e1 e2; rw [e2] at e1; cases e1
          · simp [Array.getElem?_eq_none h'] at e1
      · rw [getD_set_other true hbj]
        exact hl b hb
    · intro b hb
      rw [List.all_eq_true] at h7
      simpa [unl] using h7 b hb
  | q1 i r ih =>
    intro hd ph listed σ' s a w' fuel hsch hX hWr hS hsat hfuel
    have hbase : ∀ h, h < st.ctx.length → σ' h = σ h := hS.base.loc
    simp only [schOk, Bool.and_eq_true, Bool.not_eq_true'] at hsch
    obtain ⟨⟨⟨⟨hd1, h2⟩, h3⟩, h4⟩, h9⟩ := hsch
    simp only [XD] at hX
    refine ⟨fun _ => ?_, fun f _ i hi => by simp [altsOf] at hi⟩
    refine quiet0 r ph listed σ' s a w' fuel (fun hd ph l σ' s a w' fu x1 x2 x3 x4 x5 x6 => (ih hd ph l σ' s a w' fu x1 x2 x3 x4 x5 x6).1) hWr hS hsat i W (Fr (wB W st.ctx σ) w) (fun _ => True) (fun w1 hw1 h L hs hV hL => ?_) (fun w1 hw1 b o hb => (hw1.block b (frz_lt hR hb) (not_wB hR W hb)).trans (hR.sat.frz b o hb)) (fun l w1 _ hs => hs.2) (fun _ _ _ _ _ _ => trivial) trivial h2 h3 (by simpa using h4) h9 (by simpa [cnt] using hfuel) hX
    cases hc : st.ctx.at h with
    | none => rw [hc] at hs; cases hs
    | some q => exact hw1.block _ (hR.sat.inHeap h L hL) (wB_other hR W hV hc hL)
  | sw r ih =>
    intro hd ph listed σ' s a w' fuel hsch hX hWr hS hsat hfuel
    have hbase : ∀ h, h < st.ctx.length → σ' h = σ h := hS.base.loc
    simp only [schOk, Bool.and_eq_true] at hsch
    refine ⟨fun _ => ?_, fun f _ i hi => by simp [altsOf] at hi⟩
    simp only [XD] at hX
    obtain ⟨hph, hn, hw, hX⟩ := hX
    subst hph
    have hWr' : ∀ h, W.contains h = true → ∃ o, st.ctx.at h = some o ∧ o.ro = false := by
      intro h hc
      rw [List.all_eq_true] at hw
      have := hw h (by simpa using hc)
      split at this
      · rename_i o ho; exact ⟨o, ho, by simpa using this⟩
      · cases this
    exact (ih true true listed σ' _ a w' fuel hsch.2 hX (fun _ => hWr') (hR.switched W hS hn) hsat (by simpa [cnt] using hfuel)).1 rfl
  | alt i r q ihr ihq =>
    intro hd ph listed σ' s a w' fuel hsch hX hWr hS hsat hfuel
    have hbase : ∀ h, h < st.ctx.length → σ' h = σ h := hS.base.loc
    simp only [schOk, Bool.and_eq_true, beq_iff_eq, Bool.or_eq_true, Bool.not_eq_true'] at hsch
    obtain ⟨⟨⟨⟨h0, h1⟩, h2⟩, h9⟩, h10⟩ := hsch
    simp only [XD] at hX
    obtain ⟨hX, hXq⟩ := hX
    simp only [cnt] at hfuel
    have rest := (ihq false ph listed σ' s a w' fuel h10 hXq hWr hS hsat (by omega)).2
    have here : ∀ f, fuel = f + 1 → wpOp P ops (fun e a' w'' => e = .normal ∧ ∃ σ'' st', K st' ∧ Rel A σ'' st' a' w'') i (fun a' w' => Sat2 wrs (Fr (fun _ => False) w) (Fr (wB W st.ctx σ) w) (listed.setIfInBounds i true) w' ∧
        wpAnyL P ops (fun e a' w'' => e = .normal ∧ ∃ σ'' st', K st' ∧ Rel A σ'' st' a' w'') wrs (Fr (fun _ => False) w) (Fr (wB W st.ctx σ) w) f (listed.setIfInBounds i true) a' w') a w' := by
      intro f hf
      subst hf
      cases ho : ops[i]? with
      | none => rw [ho] at hX; exact hX.elim
      | some o =>
        rw [ho] at hX
        unfold wpOp
        rw [ho]
        refine XStep_sound hte (show PTok P (pt.in st.ctx.length) from hpt) (Nat.le_refl _) (fun h => by cases h) hS hX fun σ2 s2 a2 w2 hK hR2 => ?_
        have hs2 : Sat2 wrs (Fr (fun _ => False) w) (Fr (wB W st.ctx σ) w) (listed.setIfInBounds i true) w2 := by
          refine ⟨fun h => ?_, hR2.fr.mono fun b _ hx => hx.2⟩
          cases ph with
          | false => exact hR2.fr.mono fun b _ hx => by cases hx.1
          | true =>
            have hi : i ∈ wrs := by simpa using h2.symm
            have := h i hi
            have hlt : i < listed.size := by
              have hm : i ∈ Region.ready .any ops listed := by simpa using h1
              have := (mem_ready.1 hm).1
              rcases Nat.lt_or_ge i listed.size with h' | h'
              · exact h'
              · simp [Array.getElem?_eq_none h'] at this
            simp [hlt] at this
        exact ⟨hs2, (ihr true ph _ σ2 s2 a2 w2 f h9 hK hWr hR2 hs2 (by omega)).1 rfl⟩
    refine ⟨fun hhd => ?_, fun f hf j hj => ?_⟩
    · obtain ⟨f, rfl⟩ : ∃ f, fuel = f + 1 := ⟨fuel - 1, by omega⟩
      subst hhd
      have hrd : Region.ready .any ops listed = i :: altsOf q := by
        rcases h0 with h0 | h0
        · cases h0
        · exact h0
      refine wpAnyL_all hrd (by simp) fun j hj => ?_
      rcases List.mem_cons.1 hj with rfl | hj
      · exact here f rfl
      · exact rest f rfl j hj
    · simp only [altsOf] at hj
      rcases List.mem_cons.1 hj with rfl | hj
      · exact here f hf
      · exact rest f hf j hj

/-! Drawn regions where all that may turn something waits for what only reads. -/

/-- From here on the order is the only one. -/
def forced (ops : Array Oper) : List Nat → Array Bool → Bool
  | [], listed => (Region.ready .any ops listed).isEmpty
  | i :: is, listed => (Region.ready .any ops listed == [i]) && forced ops is (listed.setIfInBounds i true)

/-- Orders that are all gone through, behind what only reads. -/
def schA (ops : Array Oper) (js : List Nat) : Bool → Sc → Array Bool → Bool
  | hd, .fin, listed => !hd
  | hd, .seq is, listed => hd && is.all js.contains && forced ops is listed
  | hd, .alt i r o, listed => (!hd || Region.ready .any ops listed == i :: altsOf o) && (Region.ready .any ops listed).contains i && js.contains i && schA ops js true r (listed.setIfInBounds i true) && schA ops js false o listed
  | _, _, _ => false

def schE (ops : Array Oper) (js : List Nat) : Sc → Array Bool → Bool
  | .q0 i B r, listed => Region.free .any ops listed i && (Region.ready .any ops listed).contains i && !js.contains i && js.all B.contains && B.all (fun b => b == i || waits ops B b) && B.all (unl listed) && B.contains i && schE ops js r (listed.setIfInBounds i true)
  | .seq is, listed => (is == js) && forced ops is listed
  | .alt i r o, listed => schA ops js true (.alt i r o) listed
  | .q1 i r, listed => Region.free .any ops listed i && (Region.ready .any ops listed).contains i && !js.contains i && schE ops js r (listed.setIfInBounds i true)
  | _, _ => false

def opsOf : Sc → List Nat
  | .seq is => is
  | .alt i r _ => i :: opsOf r
  | _ => []
def seqOf : Sc → List Nat
  | .q0 _ _ r => seqOf r
  | .q1 _ r => seqOf r
  | .seq is => is
  | .alt i r _ => i :: opsOf r
  | _ => []

def XE (P : Program) (te : TE) (wr : Bool) (nt : Nat) (pt : PT) (ops : Array Oper) (K : St → Prop) : Sc → St → Prop
  | .q0 i _ r, st => match ops[i]? with
    | some o => quietOp te o.op = true ∧ XStep P te wr nt pt false ops st o fun s => XE P te wr nt pt ops K r ⟨s.env, st.ctx⟩
    | none => False
  | .seq is, st => XO P te wr nt pt false ops K is st
  | .alt i r o, st => (match ops[i]? with
    | some x => XStep P te wr nt pt false ops st x (XE P te wr nt pt ops K r)
    | none => False) ∧ XE P te wr nt pt ops K o st
  | .fin, _ => True
  | .q1 i r, st => match ops[i]? with
    | some o => (opClass te o.op == 0) = true ∧ XStep P te wr nt pt false ops st o fun s => XE P te wr nt pt ops K r ⟨s.env, st.ctx⟩
    | none => False
  | _, _ => False

theorem XStep_pure {P : Program} {te : TE} (hte : teOk P te) {wr : Bool} {pt : PT} {ops : Array Oper} {A : Amb} {σ : Asg} {st : St} {a : Act} {w : World} (hR : Rel A σ st a w) {o : Oper} (hq : opClass te o.op = 0) {K : St → Prop}
    (h : XStep P te wr A.nt pt false ops st o K) : ∃ v st', K st' ∧ YieldsIf P ops (fun _ => True) o v a ∧ Rel A σ st' (a.put o.dst v) w := by
  have one : ∀ {g c : Bool}, (g = false → c = true) → XOne P te wr A.nt pt g c st o K →
      (c = true → ∃ v st', K st' ∧ (∀ w', (execOp a.eval o).run P w' = .ok (.value v) w') ∧ Rel A σ st' (a.put o.dst v) w) ∧ (c = false → ∃ st', K st' ∧ Rel A σ st' (a.put o.dst undef) w) := by
    intro g c hgc h
    unfold XOne at h
    rw [hq] at h
    simp only at h
    obtain ⟨z, hz, hv⟩ := xpure_sound hte hR h
    obtain ⟨p1, p2⟩ := gd_put hR hz hgc
    refine ⟨fun hc => ?_, fun hc => p2 hc⟩
    obtain ⟨v, hr, hrun⟩ := hv hc
    obtain ⟨st', k1, k2⟩ := p1 v hc hr
    exact ⟨v, st', k1, fun w' => hrun w', k2⟩
  unfold XStep at h
  split at h
  · rename_i hg
    obtain ⟨v, st', k1, k2, k3⟩ := (one (fun _ => rfl) h).1 rfl
    exact ⟨v, st', k1, .inl ⟨by simp [Region.wanted, hg], fun w' _ => k2 w'⟩, k3⟩
  · rename_i j want hg
    split at h
    · exact h.elim
    · rename_i d hd
      obtain ⟨c, h, hc⟩ := guardC_sound hR.env hd h
      have hw : Region.wanted o (yielded ops a.tmps) = c := by simp only [Region.wanted, hg, hc]
      simp only [Bool.false_eq_true, if_false] at h
      obtain ⟨q1, q2⟩ := one (g := true) (fun h => by cases h) h
      cases c with
      | true =>
        obtain ⟨v, st', k1, k2, k3⟩ := q1 rfl
        exact ⟨v, st', k1, .inl ⟨hw, fun w' _ => k2 w'⟩, k3⟩
      | false =>
        obtain ⟨st', k1, k3⟩ := q2 rfl
        exact ⟨undef, st', k1, .inr ⟨hw, rfl⟩, k3⟩

theorem wpAnyL_forced {P : Program} {ops : Array Oper} {Q : Exit → Act → World → Prop} {wrs : List Nat} {S0 : World → Prop} : ∀ (is : List Nat) (fuel : Nat) (listed : Array Bool) (a : Act) (w : World), (∀ i ∈ is, i ∈ wrs) → forced ops is listed = true → is.length ≤ fuel →
    wpOps P ops Q is a w → wpAnyL P ops Q wrs S0 (fun _ => True) fuel listed a w
  | [], fuel, listed, a, w, _, hf, _, h => by
    simp only [forced, List.isEmpty_iff] at hf
    exact wpAnyL_done hf h fuel
  | i :: is, fuel, listed, a, w, hm, hf, hl, h => by
    simp only [forced, Bool.and_eq_true, beq_iff_eq] at hf
    obtain ⟨f, rfl⟩ : ∃ f, fuel = f + 1 := ⟨fuel - 1, by simp only [List.length_cons] at hl; omega⟩
    rw [wpOps_cons] at h
    refine wpAnyL_sole hf.1 (wpOp_mono (fun a' w' h' => ⟨⟨fun hx => ?_, trivial⟩, wpAnyL_forced is f _ a' w' (fun j hj => hm j (List.mem_cons_of_mem _ hj)) hf.2 (by simp only [List.length_cons] at hl; omega) h'⟩) h)
    have h1 := hx i (hm i List.mem_cons_self)
    have hlt : i < listed.size := by
      have h2 : i ∈ Region.ready .any ops listed := by rw [hf.1]; exact List.mem_singleton.2 rfl
      have := (mem_ready.1 h2).1
      rcases Nat.lt_or_ge i listed.size with h' | h'
      · exact h'
      · simp [Array.getElem?_eq_none h'] at this
    simp [hlt] at h1

theorem XA_run {P : Program} {te : TE} (hte : teOk P te) {wr : Bool} {pt : PT} (hpt : PTok P pt) {ops : Array Oper} {K : St → Prop} {A : Amb} (hkk : A.k ≤ pt.k) (hgr : pt.gr = true → A.gr = true) {w0 : World} {js : List Nat} :
    ∀ (sch : Sc) (hd : Bool) (listed : Array Bool) (σ : Asg) (s : St) (a : Act) (w : World) (fuel : Nat), schA ops js hd sch listed = true → XE P te wr A.nt pt ops K sch s → Rel A σ s a w → cnt sch ≤ fuel →
      (hd = true → wpAnyL P ops (fun e a' w'' => e = .normal ∧ ∃ σ'' st', K st' ∧ Rel A σ'' st' a' w'') js (fun w1 => w1 = w0) (fun _ => True) fuel listed a w) ∧
      (∀ f, fuel = f + 1 → ∀ i ∈ altsOf sch, wpOp P ops (fun e a' w'' => e = .normal ∧ ∃ σ'' st', K st' ∧ Rel A σ'' st' a' w'') i (fun a' w' => Sat2 js (fun w1 => w1 = w0) (fun _ => True) (listed.setIfInBounds i true) w' ∧
        wpAnyL P ops (fun e a' w'' => e = .normal ∧ ∃ σ'' st', K st' ∧ Rel A σ'' st' a' w'') js (fun w1 => w1 = w0) (fun _ => True) f (listed.setIfInBounds i true) a' w') a w) := by
  intro sch
  induction sch with
  | q0 i B r _ => intro hd listed σ s a w fuel h; simp [schA] at h
  | q1 i r _ => intro hd listed σ s a w fuel h; simp [schA] at h
  | sw r _ => intro hd listed σ s a w fuel h; simp [schA] at h
  | fin =>
    intro hd listed σ s a w fuel h hX hS hf
    refine ⟨fun hhd => by subst hhd; simp [schA] at h, fun f _ i hi => by simp [altsOf] at hi⟩
  | seq is =>
    intro hd listed σ s a w fuel h hX hS hfuel
    simp only [schA, Bool.and_eq_true] at h
    obtain ⟨⟨_, hj⟩, hf⟩ := h
    simp only [XE] at hX
    refine ⟨fun _ => wpAnyL_forced is fuel listed a w (fun i hi => ?_) hf (by simpa [cnt] using hfuel) ?_, fun f _ i hi => by simp [altsOf] at hi⟩
    · rw [List.all_eq_true] at hj
      simpa using hj i hi
    · exact XO_sound hte hpt hkk hgr is hS hX fun σ' st' a' w' h1 h2 => ⟨rfl, σ', st', h1, h2⟩
  | alt i r q ihr ihq =>
    intro hd listed σ s a w fuel hsch hX hS hfuel
    simp only [schA, Bool.and_eq_true, beq_iff_eq, Bool.or_eq_true, Bool.not_eq_true'] at hsch
    obtain ⟨⟨⟨⟨h0, h1⟩, h2⟩, h9⟩, h10⟩ := hsch
    simp only [XE] at hX
    obtain ⟨hX, hXq⟩ := hX
    simp only [cnt] at hfuel
    have rest := (ihq false listed σ s a w fuel h10 hXq hS (by omega)).2
    have here : ∀ f, fuel = f + 1 → wpOp P ops (fun e a' w'' => e = .normal ∧ ∃ σ'' st', K st' ∧ Rel A σ'' st' a' w'') i (fun a' w' => Sat2 js (fun w1 => w1 = w0) (fun _ => True) (listed.setIfInBounds i true) w' ∧
        wpAnyL P ops (fun e a' w'' => e = .normal ∧ ∃ σ'' st', K st' ∧ Rel A σ'' st' a' w'') js (fun w1 => w1 = w0) (fun _ => True) f (listed.setIfInBounds i true) a' w') a w := by
      intro f hf
      subst hf
      cases ho : ops[i]? with
      | none => rw [ho] at hX; exact hX.elim
      | some o =>
        rw [ho] at hX
        unfold wpOp
        rw [ho]
        refine XStep_sound hte hpt hkk hgr hS hX fun σ2 s2 a2 w2 hK hR2 => ?_
        refine ⟨⟨fun h => ?_, trivial⟩, (ihr true _ σ2 s2 a2 w2 f h9 hK hR2 (by omega)).1 rfl⟩
        have hi : i ∈ js := by simpa using h2
        have := h i hi
        have hlt : i < listed.size := by
          have hm : i ∈ Region.ready .any ops listed := by simpa using h1
          have := (mem_ready.1 hm).1
          rcases Nat.lt_or_ge i listed.size with h' | h'
          · exact h'
          · simp [Array.getElem?_eq_none h'] at this
        simp [hlt] at this
    refine ⟨fun hhd => ?_, fun f hf j hj => ?_⟩
    · obtain ⟨f, rfl⟩ : ∃ f, fuel = f + 1 := ⟨fuel - 1, by omega⟩
      subst hhd
      have hrd : Region.ready .any ops listed = i :: altsOf q := by
        rcases h0 with h0 | h0
        · cases h0
        · exact h0
      refine wpAnyL_all hrd (by simp) fun j hj => ?_
      rcases List.mem_cons.1 hj with rfl | hj
      · exact here f rfl
      · exact rest f rfl j hj
    · simp only [altsOf] at hj
      rcases List.mem_cons.1 hj with rfl | hj
      · exact here f hf
      · exact rest f hf j hj

theorem XE_run {P : Program} {te : TE} (hte : teOk P te) {wr : Bool} {pt : PT} (hpt : PTok P pt) {ops : Array Oper} (hns : Region.noSelect ops = true) {K : St → Prop} {A : Amb} (hkk : A.k ≤ pt.k) (hgr : pt.gr = true → A.gr = true) {σ : Asg} {w : World} {js : List Nat} :
    ∀ (sch : Sc) (listed : Array Bool) (s : St) (a : Act) (fuel : Nat), schE ops js sch listed = true → XE P te wr A.nt pt ops K sch s → Rel A σ s a w → cnt sch ≤ fuel →
      Sat2 js (fun w1 => w1 = w) (fun _ => True) listed w →
      wpAnyL P ops (fun e a' w'' => e = .normal ∧ ∃ σ'' st', K st' ∧ Rel A σ'' st' a' w'') js (fun w1 => w1 = w) (fun _ => True) fuel listed a w := by
  intro sch
  induction sch with
  | fin => intro listed s a fuel h; simp [schE] at h
  | q1 i r ih =>
    intro listed s a fuel hsch hX hS hfuel hsat
    simp only [schE, Bool.and_eq_true, Bool.not_eq_true'] at hsch
    obtain ⟨⟨⟨h2, h3⟩, h4⟩, h9⟩ := hsch
    simp only [cnt] at hfuel
    obtain ⟨f, rfl⟩ : ∃ f, fuel = f + 1 := ⟨fuel - 1, by omega⟩
    simp only [XE] at hX
    cases ho : ops[i]? with
    | none => rw [ho] at hX; exact hX.elim
    | some o =>
      rw [ho] at hX
      obtain ⟨hq, hX⟩ := hX
      obtain ⟨v, st', k1, k2, k3⟩ := XStep_pure hte hS (by simpa using hq) hX
      have hiw : i ∉ js := by simpa using h4
      refine wpAnyL_first (fun _ => True) ho hiw (Region.noSelect_spec hns) (fun c a w h => by cases h.1) (fun l w1 hl hs => trivial) (fun l j hl hli hj hji => trivial) f listed a w (Region.free_spec ho h2) (by simpa using h3) trivial k2 hsat ?_
      refine ih (listed.setIfInBounds i true) ⟨st'.env, s.ctx⟩ _ f h9 k1 ⟨k3.defers, k3.size, k3.env, hS.sat, hS.fr, hS.own, hS.base, hS.klen⟩ (by omega) ⟨fun h => hsat.1 fun j hj => ?_, trivial⟩
      have := h j hj
      rwa [getD_set_other false (show i ≠ j from fun e => hiw (by rw [e]; exact hj))] at this
  | sw r _ => intro listed s a fuel h; simp [schE] at h
  | alt i r o _ _ =>
    intro listed s a fuel h hX hS hfuel _
    simp only [schE] at h
    exact (XA_run hte hpt hkk hgr _ true listed σ s a w fuel h hX hS hfuel).1 rfl
  | seq is =>
    intro listed s a fuel h hX hS hfuel _
    simp only [schE, Bool.and_eq_true, beq_iff_eq] at h
    obtain ⟨rfl, hf⟩ := h
    simp only [XE] at hX
    refine wpAnyL_forced is fuel listed a w (fun _ h => h) hf (by simpa [cnt] using hfuel) ?_
    exact XO_sound hte hpt hkk hgr is hS hX fun σ' st' a' w' h1 h2 => ⟨rfl, σ', st', h1, h2⟩
  | q0 i B r ih =>
    intro listed s a fuel hsch hX hS hfuel hsat
    simp only [schE, Bool.and_eq_true, Bool.not_eq_true'] at hsch
    obtain ⟨⟨⟨⟨⟨⟨⟨h2, h3⟩, h4⟩, h5⟩, h6⟩, h7⟩, h8⟩, h9⟩ := hsch
    simp only [cnt] at hfuel
    obtain ⟨f, rfl⟩ : ∃ f, fuel = f + 1 := ⟨fuel - 1, by omega⟩
    simp only [XE] at hX
    cases ho : ops[i]? with
    | none => rw [ho] at hX; exact hX.elim
    | some o =>
      rw [ho] at hX
      obtain ⟨hq, hX⟩ := hX
      obtain ⟨v, st', k1, k2, k3⟩ := XStep_quiet hte hS hq hX (Sx := fun w1 => w1 = w) (fun w1 hw1 h L _ _ => by rw [hw1]) (fun w1 hw1 b o hb => by rw [hw1]; exact hS.sat.frz b o hb)
      have hiw : i ∉ js := by simpa using h4
      refine wpAnyL_first (fun l => ∀ b ∈ B, l.getD b true = false) ho hiw (Region.noSelect_spec hns) (fun c a w h => by cases h.1) (fun l w1 hl hs => hs.1 fun j hj => ?_) (fun l j hl hli hj hji b hb => ?_) f listed a w (Region.free_spec ho h2) (by simpa using h3) ?_ k2 hsat ?_
      · have hjB : j ∈ B := by
          rw [List.all_eq_true] at h5
          simpa using h5 j hj
        have := hl j hjB
        rcases Nat.lt_or_ge j l.size with h' | h'
        · simp [h'] at this ⊢; exact this
        · simp [Array.getElem?_eq_none h']
      · by_cases hbj : j = b
        · subst hbj
          rw [List.all_eq_true] at h6
          have := h6 j hb
          simp only [Bool.or_eq_true, beq_iff_eq] at this
          rcases this with hx | hx
          · exact absurd hx hji
          · unfold waits at hx
            obtain ⟨hjun, oj, hoj, hall⟩ := mem_ready.1 hj
            rw [hoj] at hx
            simp only [Array.any_eq_true, Bool.and_eq_true, List.contains_iff_mem] at hx
            obtain ⟨q, hq, hb1, hb2⟩ := hx
            have e1 := hall _ (Array.getElem_mem hq) hb1
            have e2 := hl _ (by simpa using hb2)
            rcases Nat.lt_or_ge (oj.after[q]).on l.size with h' | h'
            · simp [h'] at e1 e2; rw [e2] at e1; cases e1
            · simp [Array.getElem?_eq_none h'] at e1
        · rw [getD_set_other true hbj]
          exact hl b hb
      · intro b hb
        rw [List.all_eq_true] at h7
        simpa [unl] using h7 b hb
      · refine ih (listed.setIfInBounds i true) ⟨st'.env, s.ctx⟩ _ f h9 k1 ⟨k3.defers, k3.size, k3.env, hS.sat, hS.fr, hS.own, hS.base, hS.klen⟩ (by omega) ⟨fun h => hsat.1 fun j hj => ?_, trivial⟩
        have := h j hj
        rwa [getD_set_other false (show i ≠ j from fun e => hiw (by rw [e]; exact hj))] at this

/-- A drawn region: the schedule is checked by computing, the steps are gone along it. -/
theorem VDraw.of {P : Program} {te : TE} (hte : teOk P te) {wr : Bool} {pt : PT} (hpt : PTok P pt) (hm : P.follows .mixedOrders = true) {nt k : Nat} {ops : Array Oper} (wrs W : List Nat) (sch : Sc) (hns : Region.noSelect ops = true) (hc : cnt sch ≤ ops.size) (hsch : schOk ops wrs true false sch (Array.replicate ops.size false) = true)
    {K : St → Prop} {st : St} (h : XD P te wr nt pt ops W st.ctx K true false sch ⟨st.env, freeze [] 0 st.ctx⟩) : VDraw P nt k ops K st := by
  intro A σ a w id hnt hk _ hR
  have hR1 := hR.drawn (w.drawn + 1)
  refine wp_region_any hm (wpAny_of_L (wrs := wrs) (S0 := Fr (fun _ => False) { w with drawn := w.drawn + 1 }) (S1 := Fr (wB W st.ctx σ) { w with drawn := w.drawn + 1 }) _ _ _ _ ?_)
  rw [← hnt] at h
  exact (XD_run hte hpt hns hR1 sch true false _ σ _ a _ _ hsch h (fun h => by cases h) (hR1.frozen W) ⟨fun _ => Fr.refl _ _, Fr.refl _ _⟩ hc).1 rfl

theorem VDraw.ofE {P : Program} {te : TE} (hte : teOk P te) {wr : Bool} {pt : PT} (hpt : PTok P pt) (hm : P.follows .mixedOrders = true) {nt k : Nat} (hkk : k ≤ pt.k) {ops : Array Oper} (sch : Sc) (hns : Region.noSelect ops = true) (hc : cnt sch ≤ ops.size) (hsch : schE ops (seqOf sch) sch (Array.replicate ops.size false) = true)
    {K : St → Prop} {st : St} (h : XE P te wr nt pt ops K sch st) : VDraw P nt k ops K st := by
  intro A σ a w id hnt hk hg hR
  have hR1 := hR.drawn (w.drawn + 1)
  refine wp_region_any hm (wpAny_of_L (wrs := seqOf sch) (S0 := fun w1 => w1 = { w with drawn := w.drawn + 1 }) (S1 := fun _ => True) _ _ _ _ ?_)
  rw [← hnt] at h
  exact XE_run hte hpt hns (by rw [hk]; exact hkk) (fun _ => hg) sch _ st a _ hsch h hR1 hc ⟨fun _ => rfl, trivial⟩

/-- The drawn regions of a function: number, writers, objects that may be written, schedule. -/
abbrev DL := List (Nat × List Nat × List Nat × Sc)

def schAll (ops : Array Oper) (wrs : List Nat) (sch : Sc) : Bool := Region.noSelect ops && decide (cnt sch ≤ ops.size) && schOk ops wrs true false sch (Array.replicate ops.size false)
def schAllE (ops : Array Oper) (sch : Sc) : Bool := Region.noSelect ops && decide (cnt sch ≤ ops.size) && schE ops (seqOf sch) sch (Array.replicate ops.size false)

def isE : Sc → Bool
  | .q0 _ _ r => isE r
  | .q1 _ r => isE r
  | .alt _ r _ => isE r
  | .seq _ => true
  | _ => false

def drOf (P : Program) (te : TE) (wr : Bool) (nt : Nat) (pt : PT) : DL → Nat → Array Oper → (St → Prop) → St → Prop
  | [], _, _, _, _ => False
  | e :: r, id, ops, K, st => if e.1 = id then (if isE e.2.2.2 then schAllE ops e.2.2.2 = true ∧ XE P te wr nt pt ops K e.2.2.2 st
      else schAll ops e.2.1 e.2.2.2 = true ∧ XD P te wr nt pt ops e.2.2.1 st.ctx K true false e.2.2.2 ⟨st.env, freeze [] 0 st.ctx⟩) else drOf P te wr nt pt r id ops K st

theorem drOf_ok {P : Program} {te : TE} (hte : teOk P te) {wr : Bool} {pt : PT} (hpt : PTok P pt) (hm : P.follows .mixedOrders = true) {nt k : Nat} (hkk : k ≤ pt.k) : ∀ (l : DL) (id : Nat) (ops : Array Oper) (K : St → Prop) (st : St), drOf P te wr nt pt l id ops K st → VDraw P nt k ops K st
  | [], _, _, _, _, h => h.elim
  | e :: r, id, ops, K, st, h => by
    simp only [drOf] at h
    split at h
    · split at h
      · obtain ⟨h1, h2⟩ := h
        simp only [schAllE, Bool.and_eq_true, decide_eq_true_eq] at h1
        exact VDraw.ofE hte hpt hm hkk _ h1.1.1 h1.1.2 h1.2 h2
      · obtain ⟨h1, h2⟩ := h
        simp only [schAll, Bool.and_eq_true, decide_eq_true_eq] at h1
        exact VDraw.of hte hpt hm _ _ _ h1.1.1 h1.1.2 h1.2 h2
    · exact drOf_ok hte hpt hm hkk r id ops K st h

/-- The settings of a walk, put together. -/
def mkCf (P : Program) (te : TE) (l : List (FuncId × PE)) (nt k : Nat) (wr : Bool) (sp : Nat → Bool) (keep : Nat → List Tmp) (cut : List Nat) (d : DL) : Cf := ⟨P, te, ⟨l, k, true⟩, nt, k, wr, sp, keep, cut, drOf P te wr nt ⟨l, k, true⟩ d⟩

theorem mkCf_ok {P : Program} {te : TE} (hte : teOk P te) {l : List (FuncId × PE)} (hpt : PTokL P l) (hm : P.follows .mixedOrders = true) {nt k : Nat} {wr : Bool} {sp : Nat → Bool} {keep : Nat → List Tmp} {cut : List Nat} {d : DL} : (mkCf P te l nt k wr sp keep cut d).ok :=
  ⟨hte, hpt, Nat.le_refl _, fun id ops K st h => drOf_ok hte (pt := ⟨l, k, true⟩) hpt hm (Nat.le_refl _) d id ops K st h⟩

section
variable {P : Program} {te : TE} {wr : Bool} {nt : Nat} {pt : PT} {ops : Array Oper} {st : St} {K : Sl St} {dst : Option Tmp} {ty : TypeId} {pos : String} {after : Array Edge} {W : List Nat} {ctx0 : Ctx} {r : Sc} {hd ph : Bool}
def XDs (P : Program) (te : TE) (wr : Bool) (nt : Nat) (pt : PT) (ops : Array Oper) (W : List Nat) (ctx0 : Ctx) (K : Sl St) (hd ph : Bool) (sch : Sc) (st : St) : Prop := XD P te wr nt pt ops W ctx0 K.f hd ph sch st
def XSs (P : Program) (te : TE) (wr : Bool) (nt : Nat) (pt : PT) (ops : Array Oper) (st : St) (o : Oper) (K : Sl St) : Prop := XStep P te wr nt pt false ops st o K.f
def XEs (P : Program) (te : TE) (wr : Bool) (nt : Nat) (pt : PT) (ops : Array Oper) (K : Sl St) (sch : Sc) (st : St) : Prop := XE P te wr nt pt ops K.f sch st
def XOl (P : Program) (te : TE) (wr : Bool) (nt : Nat) (pt : PT) (ops : Array Oper) (K : Sl St) (is : List Nat) (st : St) : Prop := XO P te wr nt pt false ops K.f is st
theorem drS_hit {id : Nat} {wrs : List Nat} {sch : Sc} {l : DL} : drS (drOf P te wr nt pt ((id, wrs, W, sch) :: l)) id ops K st = iteP (isE sch) (schAllE ops sch = true ∧ XEs P te wr nt pt ops K sch st) (schAll ops wrs sch = true ∧ XDs P te wr nt pt ops W st.ctx K true false sch ⟨st.env, freeze [] 0 st.ctx⟩) ⟨⟩ := by
  simp [drS, drOf, XDs, XEs, iteP]
theorem XEs_q0 {i : Nat} {B : List Nat} : XEs P te wr nt pt ops K (.q0 i B r) st = onO ops[i]? ⟨fun o => quietOp te o.op = true ∧ XSs P te wr nt pt ops st o ⟨fun s => XEs P te wr nt pt ops K r ⟨s.env, st.ctx⟩, ⟨⟩⟩, ⟨⟩⟩ := by
  simp only [XEs, XE, XSs]
  cases ops[i]? <;> rfl
theorem XEs_q1 {i : Nat} : XEs P te wr nt pt ops K (.q1 i r) st = onO ops[i]? ⟨fun o => (opClass te o.op == 0) = true ∧ XSs P te wr nt pt ops st o ⟨fun s => XEs P te wr nt pt ops K r ⟨s.env, st.ctx⟩, ⟨⟩⟩, ⟨⟩⟩ := by
  simp only [XEs, XE, XSs]
  cases ops[i]? <;> rfl
theorem XEs_seq {is : List Nat} : XEs P te wr nt pt ops K (.seq is) st = XOl P te wr nt pt ops K is st := id rfl
theorem XEs_alt {i : Nat} {q : Sc} : XEs P te wr nt pt ops K (.alt i r q) st = (onO ops[i]? ⟨fun o => XSs P te wr nt pt ops st o ⟨fun s => XEs P te wr nt pt ops K r s, ⟨⟩⟩, ⟨⟩⟩ ∧ XEs P te wr nt pt ops K q st) := by
  simp only [XEs, XE, XSs]
  cases ops[i]? <;> rfl
theorem XEs_fin : XEs P te wr nt pt ops K .fin st = True := id rfl
theorem XOl_nil : XOl P te wr nt pt ops K [] st = K.f st := id rfl
theorem XOl_cons {i : Nat} {is : List Nat} : XOl P te wr nt pt ops K (i :: is) st = onO ops[i]? ⟨fun o => XSs P te wr nt pt ops st o ⟨fun s => XOl P te wr nt pt ops K is s, ⟨⟩⟩, ⟨⟩⟩ := by
  simp only [XOl, XO, XSs]
  cases ops[i]? <;> rfl
theorem ptIn_eq {l : List (FuncId × PE)} {k n : Nat} {gr : Bool} : PT.in ⟨l, k, gr⟩ n = ⟨l, n, false⟩ := id rfl
theorem drS_miss {i id : Nat} {wrs : List Nat} {sch : Sc} {l : DL} (h : (i == id) = false) : drS (drOf P te wr nt pt ((i, wrs, W, sch) :: l)) id ops K st = drS (drOf P te wr nt pt l) id ops K st := by
  simp only [beq_eq_false_iff_ne, ne_eq] at h
  simp [drS, drOf, h]
theorem XDs_end0 : XDs P te wr nt pt ops W ctx0 K true false .fin st = (newRw ctx0.length st.ctx ∧ K.f ⟨st.env, thaw [] 0 ctx0 st.ctx⟩) := id rfl
theorem XDs_end1 : XDs P te wr nt pt ops W ctx0 K true true .fin st = (newRw ctx0.length st.ctx ∧ K.f ⟨st.env, thaw W 0 ctx0 st.ctx⟩) := id rfl
theorem XDs_q0 {i : Nat} {B : List Nat} : XDs P te wr nt pt ops W ctx0 K hd ph (.q0 i B r) st = onO ops[i]? ⟨fun o => quietOp te o.op = true ∧ XSs P te wr nt (pt.in ctx0.length) ops ⟨st.env, maskC [] 0 ctx0 st.ctx⟩ o ⟨fun s => XDs P te wr nt pt ops W ctx0 K true ph r ⟨s.env, st.ctx⟩, ⟨⟩⟩, ⟨⟩⟩ := by
  simp only [XDs, XD, XSs, XQ]
  cases ops[i]? <;> rfl
theorem XDs_q1 {i : Nat} : XDs P te wr nt pt ops W ctx0 K hd ph (.q1 i r) st = onO ops[i]? ⟨fun o => quietOp te o.op = true ∧ XSs P te wr nt (pt.in ctx0.length) ops ⟨st.env, maskC W 0 ctx0 st.ctx⟩ o ⟨fun s => XDs P te wr nt pt ops W ctx0 K true ph r ⟨s.env, st.ctx⟩, ⟨⟩⟩, ⟨⟩⟩ := by
  simp only [XDs, XD, XSs, XQ]
  cases ops[i]? <;> rfl
theorem XDs_alt {i : Nat} {q : Sc} : XDs P te wr nt pt ops W ctx0 K hd ph (.alt i r q) st = (onO ops[i]? ⟨fun o => XSs P te wr nt (pt.in ctx0.length) ops st o ⟨fun s => XDs P te wr nt pt ops W ctx0 K true ph r s, ⟨⟩⟩, ⟨⟩⟩ ∧ XDs P te wr nt pt ops W ctx0 K false ph q st) := by
  simp only [XDs, XD, XSs]
  cases ops[i]? <;> rfl
theorem XDs_none : XDs P te wr nt pt ops W ctx0 K false ph .fin st = True := by simp [XDs, XD]
theorem XDs_sw : XDs P te wr nt pt ops W ctx0 K hd false (.sw r) st = (newRw ctx0.length st.ctx ∧ (W.all fun h => match ctx0.at h with | some o => !o.ro | none => false) = true ∧
      XDs P te wr nt pt ops W ctx0 K true true r ⟨st.env, freeze W 0 ctx0 ++ st.ctx.drop ctx0.length⟩) := by
  cases hd
  all_goals
    show (false = false ∧ _ ∧ _ ∧ _) = _
    simp only [true_and]
    rfl
theorem XSs_none {op : Op} : XSs P te wr nt pt ops st ⟨dst, op, ty, pos, after, none⟩ K = XOs P te wr nt pt false true st ⟨dst, op, ty, pos, after, none⟩ K := id rfl
theorem XSs_some {op : Op} {j : Nat} {want : Bool} : XSs P te wr nt pt ops st ⟨dst, op, ty, pos, after, some (j, want)⟩ K = xguard false P te wr nt pt (dstOf ops j) want st ⟨dst, op, ty, pos, after, some (j, want)⟩ K := id rfl
theorem opsGet {l : List Oper} {i : Nat} : (Array.mk l)[i]? = l[i]? := by simp
theorem freeze_cons {i : Nat} {o : Option SO} {c : Ctx} : freeze W i (o :: c) = (if W.contains i then o else o.bind mkRo1) :: freeze W (i + 1) c := id rfl
theorem freeze_nil {i : Nat} : freeze W i [] = [] := id rfl
theorem maskC_cons {i : Nat} {o0 o : Option SO} {r0 c : Ctx} : maskC W i (o0 :: r0) (o :: c) = (if W.contains i = false ∧ o0.isSome = true then o else none) :: maskC W (i + 1) r0 c := id rfl
theorem maskC_nil {i : Nat} {c : Ctx} : maskC W i [] c = c.map fun _ => none := by cases c <;> rfl
theorem thaw_cons {i : Nat} {o0 o : Option SO} {r0 c : Ctx} : thaw W i (o0 :: r0) (o :: c) = (if W.contains i then o else o0) :: thaw W (i + 1) r0 c := id rfl
theorem thaw_nil {i : Nat} {c : Ctx} : thaw W i [] c = c := by cases c <;> rfl
theorem mkRo1_row {b : Bool} {sz n : Nat} {f : Nat → List SV} : mkRo1 (.row b sz n f) = some (.row true sz n f) := id rfl
theorem mkRo1_blk {b : Bool} {cs : List SV} : mkRo1 (.blk b cs) = some (.blk true cs) := id rfl
end
end Go.Vg
end
section
set_option linter.unusedVariables false
set_option linter.unusedSimpArgs false
namespace Go.Vg
set_option linter.unusedSectionVars false
variable [Go.Vg.Glob]
set_option linter.unusedVariables false
set_option linter.unusedSimpArgs false
open Go.RowKit

def entCtx (μ : Nat → Nat) (ctx : Ctx) : List Nat → Ctx → Prop
  | [], [] => True
  | g :: l, o :: r => (match o with
    | none => True
    | some o' => match ctx.at g with
      | some o => soLe μ o' o
      | none => False) ∧ entCtx μ ctx l r
  | _, _ => False

def entEnv (μ : Nat → Nat) (env : List (Tmp × SV)) : List (Tmp × SV) → Prop
  | [] => True
  | (t, x) :: r => look env t = x.mapH μ ∧ entEnv μ env r

theorem entEnv_get {μ : Nat → Nat} {env : List (Tmp × SV)} : ∀ {e : List (Tmp × SV)}, entEnv μ env e → ∀ t, look e t = .u ∨ look env t = (look e t).mapH μ
  | [], _, t => .inl rfl
  | (u, x) :: r, h, t => by
    simp only [look]
    by_cases hu : u = t
    · rw [if_pos hu]; subst hu; exact .inr h.1
    · rw [if_neg hu]; exact entEnv_get h.2 t

theorem entCtx_get {μ : Nat → Nat} {ctx : Ctx} : ∀ {l : List Nat} {c : Ctx}, entCtx μ ctx l c → l.length = c.length ∧ ∀ i o', Ctx.at c i = some o' → ∃ g o, l[i]? = some g ∧ ctx.at g = some o ∧ soLe μ o' o
  | [], [], _ => ⟨rfl, fun i o' e => by simp [Ctx.at] at e⟩
  | g :: l, o :: r, h => by
    simp only [entCtx] at h
    obtain ⟨h1, h2⟩ := h
    obtain ⟨hl, hh⟩ := entCtx_get h2
    refine ⟨by simp [hl], fun i o' e => ?_⟩
    cases i with
    | zero =>
      rw [at_cons_zero] at e
      subst e
      simp only at h1
      split at h1
      · rename_i q hq; exact ⟨g, q, rfl, hq, h1⟩
      · exact h1.elim
    | succ i =>
      rw [at_cons_succ] at e
      obtain ⟨g', q, k1, k2, k3⟩ := hh i o' e
      exact ⟨g', q, by simpa using k1, k2, k3⟩
  | [], _ :: _, h => by simp [entCtx] at h
  | _ :: _, [], h => by simp [entCtx] at h

def idUpTo (k : Nat) (l : List Nat) : Bool := (List.range k).all fun h => l[h]? == some h

theorem Rel.ren {k : Nat} {st st' : St} (l : List Nat) (hk : idUpTo k l = true) (hnd : l.Nodup) (hctx : entCtx (muL l st.ctx.length) st.ctx l st'.ctx) (henv : entEnv (muL l st.ctx.length) st.env st'.env) {A : Amb} {σ : Asg} {a : Act} {w : World} (hAk : A.k = k) (hR : Rel A σ st a w) : Rel A (σ.ren (muL l st.ctx.length)) st' a w := by
  obtain ⟨hlen, hget⟩ := entCtx_get hctx
  generalize hμ : muL l st.ctx.length = μ at *
  have μold : ∀ h g, l[h]? = some g → μ h = g := by intro h g hg; rw [← hμ]; simp [muL, hg]
  have μnew : ∀ h, l.length ≤ h → st.ctx.length ≤ μ h := by
    intro h hh
    rw [← hμ]
    simp [muL, List.getElem?_eq_none hh]
  have hid : ∀ (h : Nat), h < k → l[h]? = some h := by
    intro h hh
    unfold idUpTo at hk
    rw [List.all_eq_true] at hk
    simpa using hk h (by simpa using hh)
  have hkl : k ≤ l.length := by
    rcases Nat.eq_zero_or_pos k with h0 | h0
    · omega
    · have := hid (k - 1) (by omega)
      obtain ⟨h1, _⟩ := List.getElem?_eq_some_iff.1 this
      omega
  have inj : ∀ (i j g : Nat), l[i]? = some g → l[j]? = some g → i = j := by
    intro i j g hi hj
    obtain ⟨a1, a2⟩ := List.getElem?_eq_some_iff.1 hi
    obtain ⟨b1, b2⟩ := List.getElem?_eq_some_iff.1 hj
    exact List.getElem_inj (h₀ := a1) (h₁ := b1) hnd |>.1 (a2.trans b2.symm)
  refine ⟨hR.defers, hR.size, fun t => ?_, ⟨fun i o' e => ?_, fun i j o' p' L L' hne e1 e2 hro s1 s2 => ?_, fun h hh => ?_, fun h L hL => hR.sat.inHeap _ L hL, hR.sat.frz, fun i o' L e hro hL => ?_, hR.sat.glb⟩, hR.fr, fun i o' L e hro hL => ?_, ⟨fun h hh => ?_, hR.base.fzb, hR.base.fzn⟩, ?_⟩
  · rcases entEnv_get henv t with h | h
    · rw [h]; simp [rel]
    · have := hR.env t
      rw [h] at this
      exact (rel_mapH σ μ _ _).1 this
  · obtain ⟨g, o, h1, h2, h3⟩ := hget i o' e
    exact objSat_down (σ := σ) (σ0 := σ.ren μ) (μ := μ) (fun _ => rfl) rfl h3 (by rw [μold i g h1]; exact hR.sat.obj g o h2)
  · obtain ⟨g, o, h1, h2, h3⟩ := hget i o' e1
    obtain ⟨g', p, h1', h2', h3'⟩ := hget j p' e2
    have s1' : σ g = some L := by rw [← μold i g h1]; exact s1
    have s2' : σ g' = some L' := by rw [← μold j g' h1']; exact s2
    refine hR.sat.apart g g' o p L L' (fun e => hne ?_) h2 h2' (h3.ro hro) s1' s2'
    subst e
    exact inj i j g h1 h1'
  · exact hR.sat.beyond _ (μnew h (by rw [hlen]; exact hh))
  · obtain ⟨g, o, h1, h2, h3⟩ := hget i o' e
    exact hR.sat.frzA g o L h2 (h3.ro hro) (by rw [← μold i g h1]; exact hL)
  · obtain ⟨g, o, h1, h2, h3⟩ := hget i o' e
    exact hR.own g o L h2 (h3.ro hro) (by rw [← μold i g h1]; exact hL)
  · show σ (μ h) = A.σ0 h
    rw [μold h h (hid h (by omega))]
    exact hR.base.loc h hh
  · show A.k ≤ st'.ctx.length
    rw [← hlen, hAk]
    exact hkl

theorem Ent.ren {k : Nat} {st st' : St} (l : List Nat) (hk : idUpTo k l = true) (hnd : l.Nodup) (hctx : entCtx (muL l st.ctx.length) st.ctx l st'.ctx) (henv : entEnv (muL l st.ctx.length) st.env st'.env) : Ent k st st' :=
  fun A σ a w hAk hR => ⟨_, Rel.ren l hk hnd hctx henv hAk hR⟩

/-- A function's end: its results and its objects, numbered anew. -/
def FinE (te : TE) (k pl : Nat) (rs : List ResultVar) (Z : SV) (C : Ctx) (st : St) : Prop :=
  ∃ l : List Nat, (idUpTo k l = true ∧ l.Nodup) ∧ entCtx (muL l st.ctx.length) st.ctx l C ∧ resQ te st (fun z _ => z = Z.mapH (muL l st.ctx.length)) rs [] ∧ newRw k C ∧ pl ≤ C.length

theorem FnK.ofE {cf : Cf} (hcf : cf.ok) {f : FuncId} {fn : Func} {c : Code} (hf : cf.P.funcs[f]? = some fn) (hb : fn.body = some c) (hname : (fn.name == "runtime.NumGoroutine") = false)
    (hnt : fn.ntmps = cf.nt) {args : List SV} {pre : Ctx} (hlen : args.length ≤ cf.nt) (hk : cf.k ≤ pre.length) {rs : List ResultVar} (hrs : fn.results.toList = rs) {Z : SV} {C : Ctx} (n : Nat)
    (h : vc cf (FinE cf.te cf.k pre.length rs Z C) n [.code c] ⟨entry 0 args, pre⟩) : FnK cf.P f cf.k args pre fun z c => z = Z ∧ c = C := by
  refine FnK.ofG hcf hf hb hname hnt hlen hk hrs (fun A σ st a w hAk _ hF hR => ?_) n h
  obtain ⟨l, ⟨h1, h2⟩, h3, h4, h5, h6⟩ := hF
  rw [← hrs] at h4
  obtain ⟨z, v, hz, hv, hr⟩ := resQ_sound (P := cf.P) hcf.te hR h4
  subst hz
  exact ⟨Z, v, C, σ.ren (muL l st.ctx.length), ⟨rfl, rfl⟩, hv, (rel_mapH _ _ _ _).1 hr, Rel.ren (st' := ⟨[], C⟩) l h1 h2 h3 trivial hAk hR, h5, h6⟩

theorem Ent.nil {env env' : List (Tmp × SV)} {c : Ctx} (henv : entEnv (muL [] c.length) env env') : Ent 0 ⟨env, c⟩ ⟨env', []⟩ :=
  Ent.ren [] rfl List.nodup_nil (by simp [entCtx]) henv

/-- A loop's rule. -/
theorem VLoops.of {k : Nat} {st : St} {B : Sl ((St → Prop) × St)} {ι : Type} (S : ι → St) (m : ι → Nat) (i0 : ι) (h0 : Ent k st (S i0)) (h : ∀ i, B.f (fun s => ∃ j, m j < m i ∧ Ent k s (S j), S i)) : VLoops k st B :=
  ⟨ι, S, m, i0, h0, h⟩
theorem VCuts.of {k : Nat} {B : Sl (St → Prop)} {R : Sl St} {ι : Type} (S : ι → St) (h : B.f (fun s => ∃ j, Ent k s (S j))) (h2 : ∀ j, R.f (S j)) : VCuts k B R :=
  ⟨ι, S, h, h2⟩

theorem rowBytes_one {n : Int} : rowBytes (litEl [.i .u8 n] 1) 0 1 = [UInt8.ofNat n.toNat] := by
  simp [rowBytes, litEl, List.range_succ]
theorem isU8_one {n : Int} : (∀ j, j < 1 → isU8 ((litEl [.i .u8 n] 1 j).getD 0 .u) = true) := by
  intro j hj
  obtain rfl : j = 0 := by omega
  simp [litEl, isU8]
theorem tmod_nat (m k : Nat) : (m : Int).tmod (k : Int) = ((m % k : Nat) : Int) := by
  rw [Int.tmod_eq_emod_of_nonneg (by omega)]; rfl
theorem tdiv_nat (m k : Nat) : (m : Int).tdiv (k : Int) = ((m / k : Nat) : Int) := by
  rw [Int.tdiv_eq_ediv_of_nonneg (by omega)]; rfl
end Go.Vg
end
section
set_option linter.unusedVariables false
set_option linter.unusedSimpArgs false
namespace Go.Vg
set_option linter.unusedSectionVars false
variable [Go.Vg.Glob]
set_option linter.unusedVariables false
set_option linter.unusedSimpArgs false
open Go.RowKit

/-- A law's function, from values that lie in the world as it is. -/
theorem law_pure {P : Program} {f : FuncId} {args : List SV} {w : World} {vs : Array Value} (h : PF P f args (.b true)) (hv : relL ⟨fun _ => none, fun b => w.heap[b]?⟩ args vs.toList) (hg : ∀ b o, Glob.g b = some o → w.heap[b]? = some o) :
    Calls P f vs w fun e w' => e = .returned (.bool true) ∧ Below w.heap.size w w' := by
  obtain ⟨_, _, _, h⟩ := h.call
  refine (h (fun b => w.heap[b]?) w vs (fun _ _ h => h) hg hv).mono fun e w' ⟨v, fz', e1, e2, e3, _⟩ => ?_
  simp only [rel] at e2
  subst e2
  exact ⟨e1, e3.os, e3.tape, e3.output, e3.size, fun k hk => e3.block k hk (fun h => h)⟩

theorem relL_one {σ : Asg} {x : SV} {v : Value} (h : rel σ x v) : relL σ [x] [v] := by simp only [relL]; exact ⟨_, _, rfl, h, rfl⟩
end Go.Vg
end
section
set_option linter.unusedVariables false
set_option linter.unusedSimpArgs false
namespace Go.Vg
set_option linter.unusedSectionVars false
variable [Go.Vg.Glob]
theorem XC : type_of% (And.intro (And.intro (And.intro (And.intro (And.intro (And.intro (And.intro (@vc_nil) (@vc_blk)) (And.intro (@vc_stop) (And.intro (@vc_skip) (@vc_ret)))) (And.intro (And.intro (@vc_seq) (@vc_region)) (And.intro (@vc_draw) (And.intro (@vc_block) (@vc_loop))))) (And.intro (And.intro (And.intro (@vc_exitK) (@popK_blk)) (And.intro (@popK_blk') (And.intro (@popK_code) (@popK_stop)))) (And.intro (And.intro (@xcond_b) (And.intro (@xcond_true) (@xcond_false))) (And.intro (@vc_cond) (And.intro (@XL_nil) (@XL_cons)))))) (And.intro (And.intro (And.intro (And.intro (@XL_consg) (@xguard_f)) (And.intro (@guardC_b) (And.intro (@guardC_gd) (@ung_gd)))) (And.intro (And.intro (@ung_b) (And.intro (@ung_i) (@ung_s))) (And.intro (@ung_ptr) (And.intro (@ung_slc) (@ung_nils))))) (And.intro (And.intro (And.intro (@ung_mp) (@ung_agg)) (And.intro (@ung_tup) (And.intro (@ung_fs) (@ung_fp)))) (And.intro (And.intro (@ifPtr_ptr) (And.intro (@ifPP_ptr) (@ifPP_fp))) (And.intro (@ifSF_slc) (And.intro (@ifSF_fs) (@ifSlc_slc))))))) (And.intro (And.intro (And.intro (And.intro (And.intro (@ifB_b) (@ifI_i)) (And.intro (@ifS_s) (And.intro (@ifTup_tup) (@ifStruct_struct)))) (And.intro (And.intro (@ifSlice_slice) (@onO_some)) (And.intro (@iteP_true) (And.intro (@iteP_false) (@resQ_nil))))) (And.intro (And.intro (And.intro (@resQ_tmp) (@resQ_cell)) (And.intro (@oLen_fs) (And.intro (@oLen_s) (@oLen_slc)))) (And.intro (And.intro (@oLen_nils) (And.intro (@XOne_move) (@XOne_assign))) (And.intro (@XOne_pick) (And.intro (@XOne_fieldAddr) (@XOne_indexAddr)))))) (And.intro (And.intro (And.intro (And.intro (@XOne_index) (@XOne_extract)) (And.intro (@XOne_not) (And.intro (@XOne_neg) (@XOne_binOp)))) (And.intro (And.intro (@XOne_slice) (And.intro (@XOne_len) (@XOne_load))) (And.intro (@XOne_box) (And.intro (@XOne_alloc) (@XOne_store))))) (And.intro (And.intro (And.intro (@oCall_some) (@oCallT_some)) (And.intro (@oCallT_none) (And.intro (@XOne_call) (@XOne_nilCheck)))) (And.intro (And.intro (@XOne_min) (And.intro (@XOne_max) (@XOne_build))) (And.intro (@bnds_none) (And.intro (@bnds_some) (@xcuts_s)))))))) (And.intro (And.intro (And.intro (And.intro (And.intro (And.intro (@xcuts_slc) (@xcuts_fs)) (And.intro (@oConv_ss) (And.intro (@oConv_st) (@oConv_ii)))) (And.intro (And.intro (@oConv_is) (@oConv_tt)) (And.intro (@xconvs_i) (And.intro (@xconvs_iw) (@xconvs_s))))) (And.intro (And.intro (And.intro (@xconvs_u) (@oStr_fs)) (And.intro (@ifRow_row) (And.intro (@oStr_slc) (@oStr_nils)))) (And.intro (And.intro (@XOne_convert) (And.intro (@XOne_buildSlice) (@XOne_makeSlice))) (And.intro (@oSrc_nils) (And.intro (@oSrc_fs) (@oSrc_s)))))) (And.intro (And.intro (And.intro (And.intro (@oSrc_slc) (@ifRowW_row)) (And.intro (@oApp_nils) (And.intro (@oApp_slc) (@XOne_append)))) (And.intro (And.intro (@xlooks_t) (And.intro (@xlooks_f) (@oLook_s))) (And.intro (@oLook_i) (And.intro (@oLookS_m) (@oLookI_m))))) (And.intro (And.intro (And.intro (@XOne_lookup) (@oUpdS_m)) (And.intro (@oUpdI_m) (And.intro (@oUpd_s) (@oUpd_i)))) (And.intro (And.intro (@XOne_mapUpdate) (And.intro (@XOne_insert) (@oMk_s))) (And.intro (@oMk_i) (And.intro (@ifMap_map) (@XOne_makeMap))))))) (And.intro (And.intro (And.intro (And.intro (And.intro (@xbin_add) (@xbin_add_w)) (And.intro (@xbin_sub) (And.intro (@xbin_sub_w) (@xbin_mul)))) (And.intro (And.intro (@xbin_mul_w) (And.intro (@xbin_quo) (@xbin_rem))) (And.intro (@xbin_and) (And.intro (@xbin_xor) (@xbin_shr))))) (And.intro (And.intro (And.intro (@xbin_eql_i) (@xbin_neq_i)) (And.intro (@xbin_lss_i) (And.intro (@xbin_leq_i) (@xbin_gtr_i)))) (And.intro (And.intro (@xbin_geq_i) (And.intro (@xbin_add_s) (@xbin_eql_s))) (And.intro (@xbin_neq_s) (And.intro (@xbin_eql_b) (@xbin_neq_b)))))) (And.intro (And.intro (And.intro (And.intro (@xbin_eql_a) (@xbin_neq_a)) (And.intro (@putS_none) (And.intro (@putS_some) (@drS_hit)))) (And.intro (And.intro (@XEs_q0) (And.intro (@XEs_q1) (@XEs_seq))) (And.intro (@XEs_alt) (And.intro (@XEs_fin) (@XOl_nil))))) (And.intro (And.intro (And.intro (@XOl_cons) (@drS_miss)) (And.intro (@XDs_end0) (And.intro (@XDs_end1) (@XDs_q0)))) (And.intro (And.intro (@XDs_q1) (And.intro (@XDs_alt) (@XDs_none))) (And.intro (@XDs_sw) (And.intro (@XSs_none) (@XSs_some))))))))) := And.intro (And.intro (And.intro (And.intro (And.intro (And.intro (And.intro (@vc_nil) (@vc_blk)) (And.intro (@vc_stop) (And.intro (@vc_skip) (@vc_ret)))) (And.intro (And.intro (@vc_seq) (@vc_region)) (And.intro (@vc_draw) (And.intro (@vc_block) (@vc_loop))))) (And.intro (And.intro (And.intro (@vc_exitK) (@popK_blk)) (And.intro (@popK_blk') (And.intro (@popK_code) (@popK_stop)))) (And.intro (And.intro (@xcond_b) (And.intro (@xcond_true) (@xcond_false))) (And.intro (@vc_cond) (And.intro (@XL_nil) (@XL_cons)))))) (And.intro (And.intro (And.intro (And.intro (@XL_consg) (@xguard_f)) (And.intro (@guardC_b) (And.intro (@guardC_gd) (@ung_gd)))) (And.intro (And.intro (@ung_b) (And.intro (@ung_i) (@ung_s))) (And.intro (@ung_ptr) (And.intro (@ung_slc) (@ung_nils))))) (And.intro (And.intro (And.intro (@ung_mp) (@ung_agg)) (And.intro (@ung_tup) (And.intro (@ung_fs) (@ung_fp)))) (And.intro (And.intro (@ifPtr_ptr) (And.intro (@ifPP_ptr) (@ifPP_fp))) (And.intro (@ifSF_slc) (And.intro (@ifSF_fs) (@ifSlc_slc))))))) (And.intro (And.intro (And.intro (And.intro (And.intro (@ifB_b) (@ifI_i)) (And.intro (@ifS_s) (And.intro (@ifTup_tup) (@ifStruct_struct)))) (And.intro (And.intro (@ifSlice_slice) (@onO_some)) (And.intro (@iteP_true) (And.intro (@iteP_false) (@resQ_nil))))) (And.intro (And.intro (And.intro (@resQ_tmp) (@resQ_cell)) (And.intro (@oLen_fs) (And.intro (@oLen_s) (@oLen_slc)))) (And.intro (And.intro (@oLen_nils) (And.intro (@XOne_move) (@XOne_assign))) (And.intro (@XOne_pick) (And.intro (@XOne_fieldAddr) (@XOne_indexAddr)))))) (And.intro (And.intro (And.intro (And.intro (@XOne_index) (@XOne_extract)) (And.intro (@XOne_not) (And.intro (@XOne_neg) (@XOne_binOp)))) (And.intro (And.intro (@XOne_slice) (And.intro (@XOne_len) (@XOne_load))) (And.intro (@XOne_box) (And.intro (@XOne_alloc) (@XOne_store))))) (And.intro (And.intro (And.intro (@oCall_some) (@oCallT_some)) (And.intro (@oCallT_none) (And.intro (@XOne_call) (@XOne_nilCheck)))) (And.intro (And.intro (@XOne_min) (And.intro (@XOne_max) (@XOne_build))) (And.intro (@bnds_none) (And.intro (@bnds_some) (@xcuts_s)))))))) (And.intro (And.intro (And.intro (And.intro (And.intro (And.intro (@xcuts_slc) (@xcuts_fs)) (And.intro (@oConv_ss) (And.intro (@oConv_st) (@oConv_ii)))) (And.intro (And.intro (@oConv_is) (@oConv_tt)) (And.intro (@xconvs_i) (And.intro (@xconvs_iw) (@xconvs_s))))) (And.intro (And.intro (And.intro (@xconvs_u) (@oStr_fs)) (And.intro (@ifRow_row) (And.intro (@oStr_slc) (@oStr_nils)))) (And.intro (And.intro (@XOne_convert) (And.intro (@XOne_buildSlice) (@XOne_makeSlice))) (And.intro (@oSrc_nils) (And.intro (@oSrc_fs) (@oSrc_s)))))) (And.intro (And.intro (And.intro (And.intro (@oSrc_slc) (@ifRowW_row)) (And.intro (@oApp_nils) (And.intro (@oApp_slc) (@XOne_append)))) (And.intro (And.intro (@xlooks_t) (And.intro (@xlooks_f) (@oLook_s))) (And.intro (@oLook_i) (And.intro (@oLookS_m) (@oLookI_m))))) (And.intro (And.intro (And.intro (@XOne_lookup) (@oUpdS_m)) (And.intro (@oUpdI_m) (And.intro (@oUpd_s) (@oUpd_i)))) (And.intro (And.intro (@XOne_mapUpdate) (And.intro (@XOne_insert) (@oMk_s))) (And.intro (@oMk_i) (And.intro (@ifMap_map) (@XOne_makeMap))))))) (And.intro (And.intro (And.intro (And.intro (And.intro (@xbin_add) (@xbin_add_w)) (And.intro (@xbin_sub) (And.intro (@xbin_sub_w) (@xbin_mul)))) (And.intro (And.intro (@xbin_mul_w) (And.intro (@xbin_quo) (@xbin_rem))) (And.intro (@xbin_and) (And.intro (@xbin_xor) (@xbin_shr))))) (And.intro (And.intro (And.intro (@xbin_eql_i) (@xbin_neq_i)) (And.intro (@xbin_lss_i) (And.intro (@xbin_leq_i) (@xbin_gtr_i)))) (And.intro (And.intro (@xbin_geq_i) (And.intro (@xbin_add_s) (@xbin_eql_s))) (And.intro (@xbin_neq_s) (And.intro (@xbin_eql_b) (@xbin_neq_b)))))) (And.intro (And.intro (And.intro (And.intro (@xbin_eql_a) (@xbin_neq_a)) (And.intro (@putS_none) (And.intro (@putS_some) (@drS_hit)))) (And.intro (And.intro (@XEs_q0) (And.intro (@XEs_q1) (@XEs_seq))) (And.intro (@XEs_alt) (And.intro (@XEs_fin) (@XOl_nil))))) (And.intro (And.intro (And.intro (@XOl_cons) (@drS_miss)) (And.intro (@XDs_end0) (And.intro (@XDs_end1) (@XDs_q0)))) (And.intro (And.intro (@XDs_q1) (And.intro (@XDs_alt) (@XDs_none))) (And.intro (@XDs_sw) (And.intro (@XSs_none) (@XSs_some))))))))
theorem XV : type_of% (And.intro (And.intro (And.intro (And.intro (And.intro (And.intro (@newRw_zero) (And.intro (@newRw_zero') (@newRw_succ))) (And.intro (And.intro (@cond_ff) (@cond_tt)) (And.intro (@nst_eq) (@dstOf_zero)))) (And.intro (And.intro (And.intro (@dstOf_succ) (@gz_f)) (And.intro (@gz_t) (@mkgd_b))) (And.intro (And.intro (@mkgd_i) (@mkgd_s)) (And.intro (@mkgd_ptr) (@mkgd_slc))))) (And.intro (And.intro (And.intro (@mkgd_nils) (And.intro (@mkgd_mp) (@mkgd_agg))) (And.intro (And.intro (@mkgd_tup) (@mkgd_fs)) (And.intro (@mkgd_fp) (@mkgd_gd)))) (And.intro (And.intro (And.intro (@tupS_one) (@tupS_two)) (And.intro (@tupS_three) (@tupS_four))) (And.intro (And.intro (@mkArg_none) (@mkArg_int)) (And.intro (@ev_tmp) (@ev_int)))))) (And.intro (And.intro (And.intro (And.intro (@ev_bool) (And.intro (@ev_str) (@ev_nils))) (And.intro (And.intro (@ev_func) (@look_cons)) (And.intro (@trim_eq) (@addObj_eq)))) (And.intro (And.intro (And.intro (@setObj_eq) (@ptOf_hit)) (And.intro (@ptOf_miss) (@kp_cons))) (And.intro (And.intro (@ptOf_nil) (@ptIn_eq)) (And.intro (@opsGet) (@freeze_cons))))) (And.intro (And.intro (And.intro (And.intro (@freeze_nil) (@maskC_cons)) (And.intro (@maskC_nil) (@thaw_cons))) (And.intro (And.intro (@thaw_nil) (@mkRo1_row)) (And.intro (@mkRo1_blk) (@isCut_nil)))) (And.intro (And.intro (And.intro (@newRw_nil) (@Chk_true)) (And.intro (@and_true) (@true_and))) (And.intro (And.intro (@ne_eq.{1}) (@List.nil_append.{0})) (And.intro (@List.cons_append.{0}) (@List.length_nil.{0}))))))) (And.intro (And.intro (And.intro (And.intro (And.intro (@List.length_cons.{0}) (And.intro (@List.getElem?_cons_zero.{0}) (@List.getElem?_cons_succ.{0}))) (And.intro (And.intro (@Nat.zero_add) (@List.getD_cons_zero.{0})) (And.intro (@List.getD_cons_succ.{0}) (@at_cons_zero)))) (And.intro (And.intro (And.intro (@at_cons_succ) (@List.drop_zero.{0})) (And.intro (@List.drop_succ_cons.{0}) (@List.take_succ_cons.{0}))) (And.intro (And.intro (@List.take_zero.{0}) (@Bool.false_eq_true)) (And.intro (@imp_self) (@Bool.true_and))))) (And.intro (And.intro (And.intro (And.intro (@Bool.and_true) (@Bool.not_true)) (And.intro (@Bool.not_false) (@cond_true.{1}))) (And.intro (And.intro (@cond_false.{1}) (@List.cons.injEq.{0})) (And.intro (@decide_eq_true_eq) (@decide_eq_false_iff_not)))) (And.intro (And.intro (And.intro (@List.set_cons_zero.{0}) (@List.set_cons_succ.{0})) (And.intro (@Int.toNat_natCast) (@List.take_length.{0}))) (And.intro (And.intro (@Int.toNat_zero) (@or_true)) (And.intro (@true_or) (@beq_self_eq_true.{0})))))) (And.intro (And.intro (And.intro (And.intro (@Option.bind_some.{0, 0}) (And.intro (@Option.bind_none.{0, 0}) (@List.contains_nil.{0}))) (And.intro (And.intro (@List.contains_cons.{0}) (@List.all_cons.{0})) (And.intro (@List.all_nil.{0}) (@rowBytes_one)))) (And.intro (And.intro (And.intro (@List.append_nil.{0}) (@List.length_append.{0})) (And.intro (@Option.isSome_some.{0}) (@Nat.lt_add_one))) (And.intro (And.intro (@if_true.{1}) (@if_false.{1})) (And.intro (@List.map_cons.{0, 0}) (@List.map_nil.{0, 0}))))) (And.intro (And.intro (And.intro (And.intro (@not_false_eq_true) (@Bool.or_true)) (And.intro (@Bool.true_or) (@Bool.false_or))) (And.intro (And.intro (@Bool.or_false) (@Bool.and_self)) (And.intro (@Bool.or_self) (@noHL_nil)))) (And.intro (And.intro (And.intro (@maskE_nil) (@cleanC_nil)) (And.intro (@Nat.zero_le) (@List.length_map.{0, 0}))) (And.intro (And.intro (@decide_true) (@decide_false)) (And.intro (@false_implies) (@true_implies)))))))) := And.intro (And.intro (And.intro (And.intro (And.intro (And.intro (@newRw_zero) (And.intro (@newRw_zero') (@newRw_succ))) (And.intro (And.intro (@cond_ff) (@cond_tt)) (And.intro (@nst_eq) (@dstOf_zero)))) (And.intro (And.intro (And.intro (@dstOf_succ) (@gz_f)) (And.intro (@gz_t) (@mkgd_b))) (And.intro (And.intro (@mkgd_i) (@mkgd_s)) (And.intro (@mkgd_ptr) (@mkgd_slc))))) (And.intro (And.intro (And.intro (@mkgd_nils) (And.intro (@mkgd_mp) (@mkgd_agg))) (And.intro (And.intro (@mkgd_tup) (@mkgd_fs)) (And.intro (@mkgd_fp) (@mkgd_gd)))) (And.intro (And.intro (And.intro (@tupS_one) (@tupS_two)) (And.intro (@tupS_three) (@tupS_four))) (And.intro (And.intro (@mkArg_none) (@mkArg_int)) (And.intro (@ev_tmp) (@ev_int)))))) (And.intro (And.intro (And.intro (And.intro (@ev_bool) (And.intro (@ev_str) (@ev_nils))) (And.intro (And.intro (@ev_func) (@look_cons)) (And.intro (@trim_eq) (@addObj_eq)))) (And.intro (And.intro (And.intro (@setObj_eq) (@ptOf_hit)) (And.intro (@ptOf_miss) (@kp_cons))) (And.intro (And.intro (@ptOf_nil) (@ptIn_eq)) (And.intro (@opsGet) (@freeze_cons))))) (And.intro (And.intro (And.intro (And.intro (@freeze_nil) (@maskC_cons)) (And.intro (@maskC_nil) (@thaw_cons))) (And.intro (And.intro (@thaw_nil) (@mkRo1_row)) (And.intro (@mkRo1_blk) (@isCut_nil)))) (And.intro (And.intro (And.intro (@newRw_nil) (@Chk_true)) (And.intro (@and_true) (@true_and))) (And.intro (And.intro (@ne_eq.{1}) (@List.nil_append.{0})) (And.intro (@List.cons_append.{0}) (@List.length_nil.{0}))))))) (And.intro (And.intro (And.intro (And.intro (And.intro (@List.length_cons.{0}) (And.intro (@List.getElem?_cons_zero.{0}) (@List.getElem?_cons_succ.{0}))) (And.intro (And.intro (@Nat.zero_add) (@List.getD_cons_zero.{0})) (And.intro (@List.getD_cons_succ.{0}) (@at_cons_zero)))) (And.intro (And.intro (And.intro (@at_cons_succ) (@List.drop_zero.{0})) (And.intro (@List.drop_succ_cons.{0}) (@List.take_succ_cons.{0}))) (And.intro (And.intro (@List.take_zero.{0}) (@Bool.false_eq_true)) (And.intro (@imp_self) (@Bool.true_and))))) (And.intro (And.intro (And.intro (And.intro (@Bool.and_true) (@Bool.not_true)) (And.intro (@Bool.not_false) (@cond_true.{1}))) (And.intro (And.intro (@cond_false.{1}) (@List.cons.injEq.{0})) (And.intro (@decide_eq_true_eq) (@decide_eq_false_iff_not)))) (And.intro (And.intro (And.intro (@List.set_cons_zero.{0}) (@List.set_cons_succ.{0})) (And.intro (@Int.toNat_natCast) (@List.take_length.{0}))) (And.intro (And.intro (@Int.toNat_zero) (@or_true)) (And.intro (@true_or) (@beq_self_eq_true.{0})))))) (And.intro (And.intro (And.intro (And.intro (@Option.bind_some.{0, 0}) (And.intro (@Option.bind_none.{0, 0}) (@List.contains_nil.{0}))) (And.intro (And.intro (@List.contains_cons.{0}) (@List.all_cons.{0})) (And.intro (@List.all_nil.{0}) (@rowBytes_one)))) (And.intro (And.intro (And.intro (@List.append_nil.{0}) (@List.length_append.{0})) (And.intro (@Option.isSome_some.{0}) (@Nat.lt_add_one))) (And.intro (And.intro (@if_true.{1}) (@if_false.{1})) (And.intro (@List.map_cons.{0, 0}) (@List.map_nil.{0, 0}))))) (And.intro (And.intro (And.intro (And.intro (@not_false_eq_true) (@Bool.or_true)) (And.intro (@Bool.true_or) (@Bool.false_or))) (And.intro (And.intro (@Bool.or_false) (@Bool.and_self)) (And.intro (@Bool.or_self) (@noHL_nil)))) (And.intro (And.intro (And.intro (@maskE_nil) (@cleanC_nil)) (And.intro (@Nat.zero_le) (@List.length_map.{0, 0}))) (And.intro (And.intro (@decide_true) (@decide_false)) (And.intro (@false_implies) (@true_implies)))))))
open Classical in
/-- A table's entry: by parameters, from which the arguments are made. -/
noncomputable def peR {α : Type} (A : α → List SV) (p : α → Prop) (z : α → SV) : PE := fun args => if h : ∃ i, A i = args then some (p (Classical.choose h), z (Classical.choose h)) else none
theorem peR_eq {α : Type} {A : α → List SV} {p : α → Prop} {z : α → SV} (h : ∀ i j, A i = A j → i = j) (i : α) : peR A p z (A i) = some (p i, z i) := by
  have hx : ∃ j, A j = A i := ⟨i, rfl⟩
  unfold peR
  rw [dif_pos hx, h _ _ (Classical.choose_spec hx)]
theorem peR_ok {P : Program} {f : FuncId} {α : Type} {A : α → List SV} {p : α → Prop} {z : α → SV} (h : ∀ i, p i → PF P f (A i) (z i)) : PE1 P f (peR A p z) := by
  intro args q y hq hp
  unfold peR at hq
  split at hq
  · rename_i hx
    simp only [Option.some.injEq, Prod.mk.injEq] at hq
    obtain ⟨rfl, rfl⟩ := hq
    have := (h _ hp).call
    rw [Classical.choose_spec hx] at this
    exact .inl this
  · cases hq
theorem map_inj {α β : Type} {f : α → β} (h : ∀ a b, f a = f b → a = b) {l m : List α} : l.map f = m.map f ↔ l = m := by
  refine ⟨fun e => ?_, fun e => by rw [e]⟩
  induction l generalizing m with
  | nil => cases m <;> simp_all
  | cons x xs ih =>
    cases m with
    | nil => simp at e
    | cons y ys =>
      simp only [List.map_cons, List.cons.injEq] at e
      rw [h _ _ e.1, ih e.2]
end Go.Vg
end
