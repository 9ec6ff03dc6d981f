/- Plain words for what the program's text functions compute. -/
import Derived.Test.YtgippllfnmdnpaaGreatDoorTAK
import Derived.Laws.Externs
section
set_option linter.unusedVariables false
set_option linter.unusedSimpArgs false
set_option linter.unusedSectionVars false
set_option linter.unnecessarySimpa false
namespace Go.Pl
abbrev Bs:=List UInt8
/-- A place brought into a text. -/
def spot (s:Bs) (p:Int):Nat:=min p.toNat s.length
theorem q8 (s:Bs) (p:Int):spot s p≤s.length:=Nat.min_le_right _ _
theorem zu (s:Bs) {i:Nat} (h:i≤s.length):spot s i=i:=by unfold spot;omega
/-- The byte at a place,as a number;-1 behind the end. -/
def byt (s:Bs) (i:Nat):Int:=match s[i]? with
 | some b=>b.toNat
 | none => -1
theorem kv {s:Bs} {i:Nat} (h:i<s.length):byt s i=(s.getD i 0).toNat:=by
 simp [byt,List.getElem?_eq_getElem h,List.getD]
theorem jt {s:Bs} {i:Nat} (h:s.length≤i):byt s i = -1:=by
 simp [byt,List.getElem?_eq_none h]
theorem zcf (s:Bs) (i:Nat) : -1≤byt s i∧byt s i≤255:=by
 unfold byt
 split
 ·rename_i b _
  have:=b.toNat_lt
  omega
 ·omega
theorem byt_neg {s:Bs} {i:Nat}:byt s i<0↔s.length≤i:=by
 rcases Nat.lt_or_ge i s.length with h | h
 ·rw [kv h]
  constructor<;>intro h'<;>omega
 ·rw [jt h]
  constructor<;>intro h'<;>omega
def isW (s:Bs) (i:Nat):Bool:=byt s i==32||byt s i==9
def isB (s:Bs) (i:Nat):Bool:=byt s i==10||decide (byt s i<0)
theorem vj {s:Bs} {p:Int} (h:0≤p):byt s (spot s p)=byt s p.toNat:=by
 rcases Nat.lt_or_ge p.toNat s.length with h' | h'
 ·rw [show spot s p=p.toNat from by unfold spot;omega]
 ·rw [jt h',jt (by unfold spot;omega)]
def gap (s:Bs) (i:Nat):Bool:=isW s i||isB s i
theorem ztm {s:Bs} {i:Nat} (h:isW s i=true):i<s.length:=by
 rcases Nat.lt_or_ge i s.length with h' | h'
 ·exact h'
 ·simp [isW,jt h'] at h
theorem zdf {s:Bs} {i:Nat} (h:isB s i=false):i<s.length:=by
 rcases Nat.lt_or_ge i s.length with h' | h'
 ·exact h'
 ·simp [isB,jt h'] at h
theorem ut {s:Bs} {i:Nat} (h:gap s i=false):i<s.length:=zdf (by simp [gap] at h;exact h.2)
/-- Over white. -/
def wh (s:Bs) (i:Nat):Nat:=if h:isW s i=true then wh s (i+1) else i
termination_by s.length-i
decreasing_by have:=ztm h;omega
theorem wh_t {s:Bs} {i:Nat} (h:isW s i=true):wh s i=wh s (i+1):=by rw [wh,dif_pos h]
theorem wh_f {s:Bs} {i:Nat} (h:isW s i=false):wh s i=i:=by rw [wh,dif_neg (by simp [h])]
theorem vl (s:Bs) (i:Nat):i≤wh s i:=by
 fun_induction wh s i with
 | case1 i h ih=>omega
 | case2 i h=>omega
theorem vk (s:Bs) (i:Nat) (h:i≤s.length):wh s i≤s.length:=by
 fun_induction wh s i with
 | case1 i h' ih=>exact ih (ztm h')
 | case2 i h'=>exact h
theorem wh_not (s:Bs) (i:Nat):isW s (wh s i)=false:=by
 fun_induction wh s i with
 | case1 i h ih=>exact ih
 | case2 i h=>simpa using h
/-- On to a break. -/
def en (s:Bs) (i:Nat):Nat:=if h:isB s i=false then en s (i+1) else i
termination_by s.length-i
decreasing_by have:=zdf h;omega
theorem en_t {s:Bs} {i:Nat} (h:isB s i=false):en s i=en s (i+1):=by rw [en,dif_pos h]
theorem zgh (s:Bs) (i:Nat):i≤en s i:=by
 fun_induction en s i with
 | case1 i h ih=>omega
 | case2 i h=>omega
theorem zcd (s:Bs) (i:Nat) (h:i≤s.length):en s i≤s.length:=by
 fun_induction en s i with
 | case1 i h' ih=>exact ih (zdf h')
 | case2 i h'=>exact h
theorem en_isB (s:Bs) (i:Nat):isB s (en s i)=true:=by
 fun_induction en s i with
 | case1 i h ih=>exact ih
 | case2 i h=>simpa using h
theorem en_lt {s:Bs} {i q:Nat} (h1:i≤q) (h2:q<en s i):isB s q=false:=by
 fun_induction en s i with
 | case1 i hb ih=>
  rcases Nat.lt_or_ge i q with h | h
  ·exact ih h h2
  ·have:i=q:=by omega
   subst this;exact hb
 | case2 i hb=>omega
/-- On to a gap. -/
def gp (s:Bs) (i:Nat):Nat:=if h:gap s i=false then gp s (i+1) else i
termination_by s.length-i
decreasing_by have:=ut h;omega
theorem gp_t {s:Bs} {i:Nat} (h:gap s i=false):gp s i=gp s (i+1):=by rw [gp,dif_pos h]
theorem gp_f {s:Bs} {i:Nat} (h:gap s i=true):gp s i=i:=by rw [gp,dif_neg (by simp [h])]
theorem gp_ge (s:Bs) (i:Nat):i≤gp s i:=by
 fun_induction gp s i with
 | case1 i h ih=>omega
 | case2 i h=>omega
/-- A part of a text. -/
def sub (s:Bs) (a b:Nat):Bs:=(s.take b).drop a
/-- The words of a directive. -/
def zi9 (s:Bs) (e:Nat) (p:Nat):List Bs:=
 let q:=wh s p
 if h:q<e∧byt s q≠35∧gap s q=false then sub s q (gp s q)::zi9 s e (gp s q) else []
termination_by e-p
decreasing_by
 have h1:=vl s p
 have h2:=gp_t (s:=s) (i:=wh s p) h.2.2
 have h3:=gp_ge s (wh s p+1)
 omega
theorem zpk (s:Bs) (e:Nat):∀ (n p:Nat),e-p≤n→(zi9 s e p).length≤e-p
 | n,p,hn=>by
  rw [zi9]
  split
  ·rename_i h
   have h1:=vl s p
   have h2:=gp_t (s:=s) (i:=wh s p) h.2.2
   have h3:=gp_ge s (wh s p+1)
   cases n with
   | zero=>omega
   | succ n=>
    have:=zpk s e n (gp s (wh s p)) (by omega)
    simp only [List.length_cons]
    omega
  ·simp
theorem dirs_len (s:Bs) (e p:Nat):(zi9 s e p).length≤e-p:=zpk s e _ p (Nat.le_refl _)
/-- The first place of a byte,or -1. -/
def idx (s:Bs) (c:UInt8):Int:=match s.findIdx? (·==c) with
 | some i=>i
 | none => -1
theorem idx_en (s:Bs) (i:Nat) (h:i≤s.length):(if idx (s.drop i) 10<0 then (s.length:Int) else i+idx (s.drop i) 10)=en s i:=by
 fun_induction en s i with
 | case1 i hb ih=>
  have hl:=zdf hb
  have ih:=ih (by omega)
  rw [←ih]
  have hd:s.drop i=s[i]::s.drop (i+1):=List.drop_eq_getElem_cons hl
  have hne:(s[i]==(10:UInt8))=false:=by
   simp [isB,byt,List.getElem?_eq_getElem hl] at hb
   simp
   intro e
   have:=congrArg UInt8.toNat e
   simp at this
   omega
  unfold idx
  rw [hd,List.findIdx?_cons,hne]
  cases hf:List.findIdx? (fun x=>x==10) (s.drop (i+1)) with
  | none=>simp [hf]
  | some j=>simp [hf];omega
 | case2 i hb=>
  simp at hb
  rcases Nat.lt_or_ge i s.length with hl | hl
  ·have hd:s.drop i=s[i]::s.drop (i+1):=List.drop_eq_getElem_cons hl
   have hne:(s[i]==(10:UInt8))=true:=by
    simp [isB,byt,List.getElem?_eq_getElem hl] at hb
    simp
    apply UInt8.toNat_inj.1
    simp
    omega
   unfold idx
   rw [hd,List.findIdx?_cons,hne]
   simp
  ·unfold idx
   rw [List.drop_of_length_le hl]
   simp
   omega
end Go.Pl
end
section
set_option linter.unusedVariables false
set_option linter.unusedSimpArgs false
set_option linter.unusedSectionVars false
set_option linter.unnecessarySimpa false
namespace Go.Vg
variable [Go.Vg.Glob]
theorem zj0 {α:Type} [Inhabited α] (p:α→Bool):∀ (l:List α),(List.range l.length).find? (fun i=>p l[i]!)=l.findIdx? p
 | []=>rfl
 | x::xs=>by
  rw [List.length_cons,List.range_succ_eq_map,List.find?_cons,List.findIdx?_cons]
  simp only [List.getElem!_cons_zero,List.find?_map]
  cases h:p x with
  | true=>rfl
  | false=>
   simp only [Bool.false_eq_true,if_false]
   rw [←zj0 p xs]
   congr 1
theorem zq4 (l:List UInt8) (c:UInt8):firstIdx ⟨l.toArray⟩ c=Pl.idx l c:=by
 unfold firstIdx Pl.idx
 have h:(ByteArray.mk l.toArray).size=l.length:=by simp [ByteArray.size]
 have h2:(fun i=>(ByteArray.mk l.toArray)[i]! == c)=fun (i:Nat)=>(fun x:UInt8=>x==c) l[i]! := by
  funext i
  simp only [getElem!_def,getElem?_def,h]
  by_cases hi:i<l.length
  ·simp [hi,ByteArray.getElem_eq_getElem_data]
  ·simp [hi]
 rw [h,h2]
 have h3:=zj0 (fun x:UInt8=>x==c) l
 rw [h3]
 rfl
theorem ext_idx {P:Program} {f:FuncId} {fn:Func} (hf:P.funcs[f]?=some fn) (hname:(fn.name == "runtime.NumGoroutine")=false)
  (hb:fn.body.isNone=true) (hn:Extern.findNext fn=none) (he:Extern.find fn=some Extern.BytealgIndexByte.indexByte) (x:List UInt8×Int) :
  zm0 P f [.s x.1,.i .u8 x.2] (.i .i64 (Pl.idx x.1 (UInt8.ofNat x.2.toNat))):=by
 refine ⟨rfl,rfl,fun fz w vs _ hr=>?_⟩
 simp only [relL,rel] at hr
 obtain ⟨v,r,e,rfl,v2,r2,rfl,rfl,rfl⟩:=hr
 have hvs:vs=#[.string ⟨x.1.toArray⟩,.int .u8 x.2]:=by rw [←Array.toList_inj];exact e
 subst hvs
 refine ⟨.int .i64 (firstIdx ⟨x.1.toArray⟩ x.2.toNat.toUInt8), ?_, ?_⟩
 ·rw [run_callFunc_extern hf hname hb hn he,run_indexByte_string]
  simp only [Result.andThen_ok]
 ·simp only [rel,zq4]
noncomputable def zxp:PE:=peR (fun (x:List UInt8×Int)=>[.s x.1,.i .u8 x.2]) (fun _=>True) (fun x=>.i .i64 (Pl.idx x.1 (UInt8.ofNat x.2.toNat)))
theorem pe_ix_eq {s:List UInt8} {c:Int}:zxp [.s s,.i .u8 c]=some (True,.i .i64 (Pl.idx s (UInt8.ofNat c.toNat))):=yh (by rintro ⟨a,b⟩ ⟨c,d⟩ h;simp_all) (s,c)
theorem pe_ix_ok {P:Program} {f:FuncId} (h:∀ x:List UInt8×Int,zm0 P f [.s x.1,.i .u8 x.2] (.i .i64 (Pl.idx x.1 (UInt8.ofNat x.2.toNat)))):PE1 P f zxp:=by
 intro args q y hq hp
 unfold zxp peR at hq
 split at hq
 ·rename_i hx
  simp only [Option.some.injEq,Prod.mk.injEq] at hq
  obtain ⟨rfl,rfl⟩:=hq
  have h1:=Classical.choose_spec hx
  have:=h (Classical.choose hx)
  simp only at h1
  rw [h1] at this
  exact .inr this
 ·cases hq
end Go.Vg
end
