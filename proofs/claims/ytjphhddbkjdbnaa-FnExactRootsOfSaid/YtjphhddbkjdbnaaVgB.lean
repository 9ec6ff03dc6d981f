/- What the operations that leave memory alone do to symbolic values. -/
import Derived.Test.YtjphhddbkjdbnaaVgA
import Derived.Lib.Strings
import Derived.Laws.Sem
namespace Go.Vg
set_option linter.unusedVariables false
set_option linter.unusedSimpArgs false
open Go.RowKit

/-- What is known of a type. -/
inductive TD where
  | bool | int (k : IntKind) | str | slice (e : TypeId) | map (k e : TypeId) | struct (fs : List (TypeId × Nat)) | other

def TD.isStruct : TD → Bool
  | .struct _ => true
  | _ => false

structure TI where
  td : TD
  size : Nat
  bytes : Nat
  zero : List SV
  cmp : Bool

abbrev TE := TypeId → Option TI

def descIs : TypeDesc → TD → Prop
  | .bool, .bool => True
  | .int k, .int k' => k = k'
  | .string, .str => True
  | .slice e, .slice e' => e = e'
  | .map k e, .map k' e' => k = k' ∧ e = e'
  | .struct fs, .struct fs' => fs.toList.map (fun f => (f.type, f.offset)) = fs' ∧ ∀ f ∈ fs.toList, f.name ≠ "_"
  | .array .., _ => False
  | .struct .., .other => False
  | _, .other => True
  | _, _ => False

structure tyOk (P : Program) (t : TypeId) (ti : TI) : Prop where
  info : ∃ i, P.info? t = some i ∧ i.size = ti.size ∧ i.bytes = ti.bytes ∧ ∃ z, i.zero = some z ∧ relL Asg.nil ti.zero z.cells.toList ∧ (ti.td.isStruct = false → z.oneCell' = true)
  desc : ∃ d, P.underlying t = some d ∧ descIs d ti.td
  eq : ti.cmp = true → P.stoodInHeld t = false ∧ P.eqGuardType P.depth t = false

def teOk (P : Program) (te : TE) : Prop := ∀ t ti, te t = some ti → tyOk P t ti

def ofVal : Value → SV
  | .bool b => .b b
  | .int k n => .i k n
  | .string s => .s s.data.toList
  | .slice none 0 0 => .nils
  | _ => .u

theorem rel_ofVal (σ : Asg) (v : Value) : rel σ (ofVal v) v := by
  unfold ofVal
  split <;> simp [rel]

def St.ev (st : St) : Operand → SV
  | .tmp t => look st.env t
  | .const v => ofVal v
  | .global _ => .u
  | .func f => .fn f

theorem Rel.ev {A : Amb} {σ : Asg} {st : St} {a : Act} {w : World} (h : Rel A σ st a w) (x : Operand) : rel σ (st.ev x) (a.eval x) := by
  cases x with
  | tmp t => exact h.env t
  | const v => exact rel_ofVal σ v
  | global g => simp [St.ev, rel]
  | func f => simp [St.ev, rel, Act.eval]

/-- To be shown, and known from there on. -/
def Chk (p q : Prop) : Prop := p ∧ (p → q)
theorem Chk.mk {p q : Prop} (h : p) (k : p → q) : Chk p q := ⟨h, k⟩
theorem Chk.out {p q : Prop} (h : Chk p q) : p ∧ q := ⟨h.1, h.2 h.1⟩

/-- An operand's value, where the operation is carried out under 'c'. -/
def ung (c : Bool) (x : SV) (K : SV → Prop) : Prop :=
  match x with
  | .gd g v => Chk (c = true → g = true) (K v)
  | v => K v

theorem ung_sound {σ : Asg} {c : Bool} {x : SV} {K : SV → Prop} {v : Value} (hr : rel σ x v) (h : ung c x K) : ∃ y, K y ∧ (c = true → rel σ y v) := by
  unfold ung at h
  split at h
  · rename_i g y
    obtain ⟨h1, h2⟩ := h.out
    exact ⟨y, h2, fun hc => by simp only [rel] at hr; exact hr.1 (h1 hc)⟩
  · exact ⟨x, h, fun _ => hr⟩

def inR : IntKind → Int → Prop
  | .i64, n => -9223372036854775808 ≤ n ∧ n ≤ 9223372036854775807
  | .i32, n => -2147483648 ≤ n ∧ n ≤ 2147483647
  | .u8, n => 0 ≤ n ∧ n ≤ 255
  | k, n => k.wrap n = n

theorem inR_wrap {k : IntKind} {n : Int} (h : inR k n) : k.wrap n = n := by
  cases k <;> simp only [inR] at h <;> first | exact h | (simp only [IntKind.wrap, IntKind.bits, IntKind.signed]; simp; omega)

def tdOf (te : TE) (t : TypeId) : TD := match te t with | some ti => ti.td | none => .other
def zeroOf (te : TE) (t : TypeId) : List SV := match te t with | some ti => ti.zero | none => []
def szOf (te : TE) (t : TypeId) : Nat := match te t with | some ti => ti.size | none => 0

/-- A part of an aggregate. -/
def partS (te : TE) (t : TypeId) (cs : List SV) (off : Nat) : SV :=
  if (tdOf te t).isStruct then .agg ((cs.drop off).take (szOf te t)) else cs.getD off .u

def eqFs (f : TypeId → SV → SV → Option Bool) (te : TE) (xs ys : List SV) : List (TypeId × Nat) → Option Bool
  | [] => some true
  | (t, off) :: r => if off < xs.length ∧ off < ys.length then match f t (partS te t xs off) (partS te t ys off), eqFs f te xs ys r with
    | some a, some b => some (a && b)
    | _, _ => none
    else none

def eqAt (te : TE) : Nat → TypeId → SV → SV → Option Bool
  | 0, _, _, _ => none
  | n + 1, t, x, y => match te t with
    | none => none
    | some ti => match ti.td, x, y with
      | .int _, .i k a, .i k' b => if k = k' then some (decide (a = b)) else none
      | .bool, .b a, .b b => some (a == b)
      | .str, .s a, .s b => some (decide (a = b))
      | .struct fs, .agg xs, .agg ys => if ti.cmp then eqFs (eqAt te n) te xs ys fs else none
      | _, _, _ => none

def xbin (te : TE) (t : TypeId) (wr c : Bool) (op : BinOp) (x y : SV) (K : SV → Prop) : Prop :=
  match op, x, y with
  | .add, .i k a, .i k' b => k = k' ∧ (if wr then K (.i k (k.wrap (a + b))) else Chk (c = true → inR k (a + b)) (K (.i k (a + b))))
  | .sub, .i k a, .i k' b => k = k' ∧ (if wr then K (.i k (k.wrap (a - b))) else Chk (c = true → inR k (a - b)) (K (.i k (a - b))))
  | .mul, .i k a, .i k' b => k = k' ∧ (if wr then K (.i k (k.wrap (a * b))) else Chk (c = true → inR k (a * b)) (K (.i k (a * b))))
  | .quo, .i k a, .i k' b => k = k' ∧ b ≠ 0 ∧ Chk (c = true → inR k (a.tdiv b)) (K (.i k (a.tdiv b)))
  | .rem, .i k a, .i k' b => k = k' ∧ Chk (c = true → b ≠ 0) (K (.i k (a.tmod b)))
  | .and, .i k a, .i k' b => k = k' ∧ K (.i k (k.wrap ((BitVec.ofInt k.bits a &&& BitVec.ofInt k.bits b).toNat)))
  | .xor, .i k a, .i k' b => k = k' ∧ K (.i k (k.wrap ((BitVec.ofInt k.bits a ^^^ BitVec.ofInt k.bits b).toNat)))
  | .shr, .i k a, .i _ b => 0 ≤ b ∧ K (.i k (a.fdiv (2 ^ (min b.toNat k.bits))))
  | .eql, .i k a, .i k' b => k = k' ∧ K (.b (decide (a = b)))
  | .neq, .i k a, .i k' b => k = k' ∧ K (.b (!decide (a = b)))
  | .lss, .i k a, .i k' b => k = k' ∧ K (.b (decide (a < b)))
  | .leq, .i k a, .i k' b => k = k' ∧ K (.b (decide (a ≤ b)))
  | .gtr, .i k a, .i k' b => k = k' ∧ K (.b (decide (a > b)))
  | .geq, .i k a, .i k' b => k = k' ∧ K (.b (decide (a ≥ b)))
  | .add, .s a, .s b => Chk (c = true → a.length + b.length ≤ 9223372036854775807) (K (.s (a ++ b)))
  | .eql, .s a, .s b => K (.b (decide (a = b)))
  | .neq, .s a, .s b => K (.b (!decide (a = b)))
  | .eql, .b a, .b b => tdOf te t = .bool ∧ K (.b (a == b))
  | .neq, .b a, .b b => tdOf te t = .bool ∧ K (.b (!(a == b)))
  | .eql, .agg a, .agg b => match eqAt te 4 t (.agg a) (.agg b) with
    | some z => K (.b z)
    | none => False
  | .neq, .agg a, .agg b => match eqAt te 4 t (.agg a) (.agg b) with
    | some z => K (.b (!z))
    | none => False
  | _, _, _ => False

theorem ba_append (a b : List UInt8) : (ByteArray.mk a.toArray) ++ (ByteArray.mk b.toArray) = ByteArray.mk (a ++ b).toArray := by
  ext1; simp [ByteArray.data_append]

theorem beq_dec {α : Type} [BEq α] [LawfulBEq α] [DecidableEq α] (a b : α) : (a == b) = decide (a = b) := by
  by_cases h : a = b <;> simp [h]

theorem ba_size (l : List UInt8) : (ByteArray.mk l.toArray).size = l.length := by
  rw [← ByteArray.size_data]; simp

theorem ba_toList (l : List UInt8) : (ByteArray.mk l.toArray).toList = l := by
  rw [ByteArray.toList_eq]

end Go.Vg
