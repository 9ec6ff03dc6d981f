/- Events, in plain words. -/
import Derived.Test.YtgippllfnmdnpaaGreatDoorTAN
import Derived.Test.YtgippllfnmdnpaaGreatDoorTAK
section
set_option linter.unusedVariables false
set_option linter.unusedSimpArgs false
set_option linter.unusedSectionVars false
set_option linter.unnecessarySimpa false
namespace Go.Pl
structure Ev where
 kind:Int
 style:Int
 flag:Bool
 text:Bs
 anchor:Bs
 tag:Bs
 pos:Int
 code:Int
deriving DecidableEq
def evz:Ev:=⟨0,0,false,[],[],[],0,0⟩
def flw (b:Int):Bool:=b==44||b==91||b==93||b==123||b==125
def nmc (b:Int):Bool:=b==32||b==9||(b==10||decide (b<0))||flw b
/-- A name,or none. -/
def zoy (s:Bs):Bool:=decide (s.length≤60∧∀ j,j<s.length→nmc (s.getD j 0).toNat=false)
theorem isNm_bad {s:Bs} {j:Nat} (h:j<s.length) (hb:nmc (s.getD j 0).toNat=true):zoy s=false:=by
 unfold zoy
 rw [decide_eq_false_iff_not]
 rintro ⟨_,h2⟩
 rw [h2 j h] at hb
 cases hb
theorem zd8:zoy []=true:=by decide
def zaw (e:Ev):Bool:=
 decide (1≤e.kind∧e.kind≤10) &&
 (if e.kind=3∨e.kind=4 then decide (6≤e.style∧e.style≤7) else if e.kind=5 then decide (1≤e.style∧e.style≤5) else decide (e.style=0)) &&
 (!e.flag||decide (e.kind=2∨e.kind=8))&&(decide (e.text=[])||decide (e.kind=5∨e.kind=6)) &&
 (decide (e.anchor=[]∧e.tag=[])||decide (e.kind=3∨e.kind=4∨e.kind=5)) &&
 (if e.kind=10 then decide (1≤e.code∧e.code≤99∧0≤e.pos) else
  (!decide (e.kind=6)||(!decide (e.text=[])&&zoy e.text))&&zoy e.anchor&&decide (e.tag.length≤120)&&decide (e.code=0∧e.pos=0))
end Go.Pl
namespace Go.Pl
theorem zy4 {s:Bs} {i:Nat} (hj:∀ j,j<i→nmc (s.getD j 0).toNat=false) (hn:nmc (s.getD i 0).toNat=false):∀ j,j<i+1→nmc (s.getD j 0).toNat=false:=by
 intro j h
 rcases Nat.lt_or_ge j i with h1 | h1
 ·exact hj j h1
 ·obtain rfl:j=i:=by omega
  exact hn
theorem ztn {s:Bs} (h:s.length≤60) (hj:∀ j,j<s.length→nmc (s.getD j 0).toNat=false):zoy s=true:=by
 unfold zoy
 rw [decide_eq_true_eq]
 exact ⟨h,hj⟩
end Go.Pl
namespace Go.Pl
theorem nmc_gap {s:Bs} {i:Nat} (h:i<s.length):(gap s i||flw (s.getD i 0).toNat)=nmc (s.getD i 0).toNat:=by
 unfold gap isW isB nmc
 rw [kv h]
end Go.Pl
namespace Go.Pl
end Go.Pl
end
section
set_option linter.unusedVariables false
set_option linter.unusedSimpArgs false
set_option linter.unusedSectionVars false
set_option linter.unnecessarySimpa false
namespace Go.Vg
variable [Go.Vg.Glob]
open Go.Pl
def evc (e:Ev):List SV:=[.i .i64 e.kind,.i .i64 e.style,.b e.flag,.s e.text,.s e.anchor,.s e.tag,.i .i64 e.pos,.i .i64 e.code]
theorem zbf {l m:List Ev}:l.map evc=m.map evc↔l=m:=zfc fun a b h=>by cases a;cases b;simpa [evc] using h
theorem zts (a:List Ev) (i:Nat):(a.map evc).getD i [.i .i64 0,.i .i64 0,.b false,.s [],.s [],.s [],.i .i64 0,.i .i64 0]=[.i .i64 (a.getD i evz).kind,.i .i64 (a.getD i evz).style,.b (a.getD i evz).flag,.s (a.getD i evz).text,.s (a.getD i evz).anchor,.s (a.getD i evz).tag,.i .i64 (a.getD i evz).pos,.i .i64 (a.getD i evz).code]:=zbc evc a i evz
theorem zw1 {a:List Ev} {i:Nat}:zg evc evz a i=[.i .i64 (a.getD i evz).kind,.i .i64 (a.getD i evz).style,.b (a.getD i evz).flag,.s (a.getD i evz).text,.s (a.getD i evz).anchor,.s (a.getD i evz).tag,.i .i64 (a.getD i evz).pos,.i .i64 (a.getD i evz).code]:=id rfl
theorem zwy {μ:Nat→Nat} {r:Bool} {sz n:Nat} {a:List Ev}:SO.mapH μ (.row r sz n (zg evc evz a))=.row r sz n (zg evc evz a):=rowH fun _=>rfl
theorem evEta (e:Ev):(⟨e.kind,e.style,e.flag,e.text,e.anchor,e.tag,e.pos,e.code⟩:Ev)=e:=id rfl
theorem XRE:type_of% (And.intro (And.intro @zts @zw1) (And.intro @zwy @evEta)):=And.intro (And.intro @zts @zw1) (And.intro @zwy @evEta)
end Go.Vg
end
section
set_option linter.unusedVariables false
set_option linter.unusedSimpArgs false
set_option linter.unusedSectionVars false
set_option linter.unnecessarySimpa false
namespace Go.Pl
end Go.Pl
namespace Go.Pl
theorem zmo {α:Type} {z:α} {l:List α} {i:Nat} (h:i<l.length):l.getD i z∈l:=by
 simp [List.getD,h]
end Go.Pl
namespace Go.Pl
end Go.Pl
namespace Go.Pl
end Go.Pl
end
section
set_option linter.unusedVariables false
set_option linter.unusedSimpArgs false
set_option linter.unusedSectionVars false
set_option linter.unnecessarySimpa false
namespace Go.Pl
structure Sg where
 kind:Int
 n:Int
 text:Bs
deriving DecidableEq
/-- A deep step behind a deep step left out. -/
def once:List Sg→Bool→List Sg
 | [],_=>[]
 | s::p,b=>if b&&decide (s.kind=5) then once p b else s::once p (decide (s.kind=5))
end Go.Pl
namespace Go.Pl
end Go.Pl
namespace Go.Pl
end Go.Pl
namespace Go.Pl
end Go.Pl
namespace Go.Pl
end Go.Pl
end
section
set_option linter.unusedVariables false
set_option linter.unusedSimpArgs false
set_option linter.unusedSectionVars false
set_option linter.unnecessarySimpa false
namespace Go.Vg
variable [Go.Vg.Glob]
open Go.Pl
end Go.Vg
namespace Go.Vg
variable [Go.Vg.Glob]
end Go.Vg
namespace Go.Vg
variable [Go.Vg.Glob]
open Go.Pl
end Go.Vg
end
section
set_option linter.unusedVariables false
set_option linter.unusedSimpArgs false
set_option linter.unusedSectionVars false
set_option linter.unnecessarySimpa false
namespace Go.Vg
variable [Go.Vg.Glob]
open Go.Pl
def wr (a:Int):Int:=IntKind.wrap .i64 a
def andI (a b:Int):Int:=IntKind.wrap .i64 ((BitVec.ofInt (IntKind.bits .i64) a &&& BitVec.ofInt (IntKind.bits .i64) b).toNat)
def xorI (a b:Int):Int:=IntKind.wrap .i64 ((BitVec.ofInt (IntKind.bits .i64) a ^^^ BitVec.ofInt (IntKind.bits .i64) b).toNat)
theorem wr_id {a:Int} (h : -4611686018427387904≤a∧a≤4611686018427387904):IntKind.wrap .i64 a=a:=by
 have e:IntKind.wrap .i64 a=if (IntKind.signed .i64&&decide (a % (2 ^ IntKind.bits .i64:Int)≥(2 ^ (IntKind.bits .i64-1):Int)))=true then a % (2 ^ IntKind.bits .i64:Int)-(2 ^ IntKind.bits .i64:Int) else a % (2 ^ IntKind.bits .i64:Int):=rfl
 have e1:(2 ^ IntKind.bits .i64:Int)=18446744073709551616:=by decide
 have e2:(2 ^ (IntKind.bits .i64-1):Int)=9223372036854775808:=by decide
 have e3:IntKind.signed .i64=true:=rfl
 rw [e]
 simp only [e1,e2,e3,Bool.true_and,decide_eq_true_eq]
 split<;>omega
theorem z0a {a:Int} {m:Nat} (hm:m<4611686018427387904):0≤andI a m∧andI a m≤m:=by
 unfold andI
 have h1:(BitVec.ofInt (IntKind.bits .i64) a &&& BitVec.ofInt (IntKind.bits .i64) (m:Int)).toNat≤m:=by
  rw [BitVec.toNat_and]
  refine Nat.le_trans Nat.and_le_right ?_
  simp only [BitVec.toNat_ofInt,IntKind.bits]
  omega
 rw [wr_id (by omega)]
 omega
def drHh (h:Int):Int:=wr (wr (h * 6364136223846793005)+1442695040888963407)
def drX (h:Int):Int:=andI (xorI (h.fdiv (2 ^ (min 33 (IntKind.bits .i64)))) (h.fdiv (2 ^ (min 45 (IntKind.bits .i64))))) 255
def yw (cd:Bs) (d:Nat×Int):Int×Nat×Int:=
 if d.1<cd.length then (andI (wr (drX (drHh d.2)+wr ((cd.getD d.1 0).toNat:Nat))) 255,d.1+1,drHh d.2) else (drX (drHh d.2),d.1,drHh d.2)
theorem kg (cd:Bs) (d:Nat×Int):0≤(yw cd d).1∧(yw cd d).1≤255:=by
 unfold yw
 split
 ·exact z0a (m:=255) (by decide)
 ·exact z0a (m:=255) (by decide)
theorem xk {cd:Bs} {d:Nat×Int} (h:d.1≤cd.length):(yw cd d).2.1≤cd.length:=by
 unfold yw
 split
 ·simp only;omega
 ·exact h
def yx (cd:Bs) (n:Int) (d:Nat×Int):Int×Nat×Int:=
 if n≤0 then (0,d) else if n≤256 then ((yw cd d).1.tmod n,(yw cd d).2) else
  (((yw cd d).1 * 16777216+(yw cd (yw cd d).2).1 * 65536+(yw cd (yw cd (yw cd d).2).2).1 * 256+(yw cd (yw cd (yw cd (yw cd d).2).2).2).1).tmod n,(yw cd (yw cd (yw cd (yw cd d).2).2).2).2)
theorem zwh {a n:Int} (ha:0≤a) (hn:0<n):0≤a.tmod n∧a.tmod n<n:=by
 rw [Int.tmod_eq_emod_of_nonneg ha]
 exact ⟨Int.emod_nonneg _ (by omega),Int.emod_lt_of_pos _ hn⟩
theorem yg (cd:Bs) {n:Int} (d:Nat×Int) (hn:0<n):0≤(yx cd n d).1∧(yx cd n d).1<n:=by
 unfold yx
 rw [if_neg (by omega)]
 have h1:=kg cd d
 have h2:=kg cd (yw cd d).2
 have h3:=kg cd (yw cd (yw cd d).2).2
 have h4:=kg cd (yw cd (yw cd (yw cd d).2).2).2
 split
 ·exact zwh h1.1 hn
 ·exact zwh (by omega) hn
theorem y6 {cd:Bs} {n:Int} {d:Nat×Int} (h:d.1≤cd.length):(yx cd n d).2.1≤cd.length:=by
 unfold yx
 split
 ·exact h
 ·split
  ·exact xk h
  ·exact xk (xk (xk (xk h)))
def drGo (cd:Bs):Nat→Int
 | 0=>wr (290417+(cd.length:Nat))
 | i+1=>andI (wr (wr (wr (drGo cd i * 149)+wr ((cd.getD i 0).toNat:Nat))+7)) 1073741823
def zvh (cd:Bs):Nat×Int:=(0,drGo cd (min cd.length 4000))
end Go.Vg
namespace Go.Vg
variable [Go.Vg.Glob]
open Go.Pl
theorem zq7 (cd:Bs) {n:Int} (d:Nat×Int) (h:¬n≤0) (h2:¬n≤256):yx cd n d=(((yw cd d).1 * 16777216+(yw cd (yw cd d).2).1 * 65536+(yw cd (yw cd (yw cd d).2).2).1 * 256+(yw cd (yw cd (yw cd (yw cd d).2).2).2).1).tmod n,(yw cd (yw cd (yw cd (yw cd d).2).2).2).2):=by
 unfold yx
 rw [if_neg h,if_neg h2]
end Go.Vg
namespace Go.Vg
variable [Go.Vg.Glob]
open Go.Pl
end Go.Vg
namespace Go.Vg
variable [Go.Vg.Glob]
open Go.Pl
end Go.Vg
namespace Go.Vg
variable [Go.Vg.Glob]
open Go.Pl
theorem drNew_le {cd:Bs}:(zvh cd).1≤cd.length:=Nat.zero_le _
end Go.Vg
namespace Go.Vg
variable [Go.Vg.Glob]
open Go.Pl
theorem y3 {μ:Nat→Nat} {l:List Bs}:soLe μ (.row false 1 l.length (zg zbi [] l)) (.row false 1 l.length (wl (l.map SV.s) 1)):=by
 refine zh fun j hj=>?_
 have h:wl (l.map SV.s) 1 j=[SV.s (l.getD j [])]:=by
  have h1:=zoo (l.map SV.s) 1 j 0 (by decide)
  have hl:(wl (l.map SV.s) 1 j).length=1:=by simp [wl];omega
  match hx:wl (l.map SV.s) 1 j,hl with
  | [y],_=>
   rw [hx] at h1
   simp only [List.getD_cons_zero] at h1
   rw [h1]
   simp [List.getD,hj]
 rw [h]
 rfl
end Go.Vg
namespace Go.Vg
variable [Go.Vg.Glob]
end Go.Vg
namespace Go.Vg
variable [Go.Vg.Glob]
open Go.Pl
end Go.Vg
namespace Go.Vg
variable [Go.Vg.Glob]
open Go.Pl
end Go.Vg
namespace Go.Vg
variable [Go.Vg.Glob]
open Go.Pl
end Go.Vg
namespace Go.Vg
variable [Go.Vg.Glob]
open Go.Pl
end Go.Vg
namespace Go.Vg
variable [Go.Vg.Glob]
open Go.Pl
end Go.Vg
namespace Go.Vg
variable [Go.Vg.Glob]
open Go.RowKit
end Go.Vg
namespace Go.Vg
variable [Go.Vg.Glob]
open Go.Pl
end Go.Vg
namespace Go.Vg
variable [Go.Vg.Glob]
open Go.Pl
end Go.Vg
end
