/- Types, looked up and checked by computing; tools for a walk. -/
import Derived.Test.YtgippllfnmdnpaaGreatDoorUAF
set_option linter.all false
namespace Go.Vg
variable [Go.Vg.Glob]
open Go.RowKit
def zeroB:SV→Value→Bool
 | .b x,.bool y=>x==y
 | .i k n,.int k' m=>decide (k=k')&&decide (n=m)
 | .s l,.string s=>decide (s.data.toList=l)
 | .nils,.slice none 0 0=>true
 | .u,_=>true
 | _,_=>false
theorem zrx {x:SV} {v:Value} (h:zeroB x v=true):rel Asg.nil x v:=by
 unfold zeroB at h;split at h
 ·simp only [rel];simp at h;rw [h]
 ·simp only [rel];simp at h;rw [h.1,h.2]
 ·simp only [rel];simp at h;rw [←h]
 ·simp [rel]
 ·simp [rel]
 ·cases h
def zkp:List SV→List Value→Bool
 | [],[]=>true
 | x::xs,v::vs=>zeroB x v&&zkp xs vs
 | _,_=>false
theorem zf3:∀ {xs:List SV} {vs:List Value},zkp xs vs=true→relL Asg.nil xs vs
 | [],[],_=>by simp [relL]
 | x::xs,v::vs,h=>by
  simp only [zkp,Bool.and_eq_true] at h;simp only [relL];exact ⟨v,vs,rfl,zrx h.1,zf3 h.2⟩
 | [],_::_,h=>by simp [zkp] at h
 | _::_,[],h=>by simp [zkp] at h
def descB:TypeDesc→TD→Bool
 | .bool,.bool=>true
 | .int k,.int k'=>decide (k=k')
 | .string,.str=>true
 | .slice e,.slice e'=>decide (e=e')
 | .map k e,.map k' e'=>decide (k=k')&&decide (e=e')
 | .struct fs,.struct fs'=>decide (fs.toList.map (fun f=>(f.type,f.offset))=fs')&&fs.toList.all fun f=>decide (f.name ≠ "_")
 | .array ..,_=>false
 | .struct ..,.other=>false
 | _,.other=>true
 | _,_=>false
theorem zs7 {d:TypeDesc} {t:TD} (h:descB d t=true):zb3 d t:=by
 unfold descB at h;unfold zb3;split at h
 case h_6=>
  simp only [Bool.and_eq_true,decide_eq_true_eq,List.all_eq_true] at h;exact h
 all_goals simp_all
 all_goals (split<;>simp_all)
def tyB (P:Program) (t:TypeId) (ti:TI):Bool:=
 match P.info? t,P.underlying t with
 | some i,some d=>decide (i.size=ti.size)&&decide (i.bytes=ti.bytes)&&(match i.zero with
   | some z=>zkp ti.zero z.cells.toList&&(ti.td.isStruct||z.oneCell')
   | none=>false)&&descB d ti.td&&(!ti.cmp||(!P.stoodInHeld t&&!P.eqGuardType P.depth t))
 | _,_=>false
theorem zyy {P:Program} {t:TypeId} {ti:TI} (h:tyB P t ti=true):tyOk P t ti:=by
 unfold tyB at h;split at h
 ·rename_i i d hi hd;simp only [Bool.and_eq_true,decide_eq_true_eq,Bool.or_eq_true,Bool.not_eq_true'] at h;obtain ⟨⟨⟨⟨h1,h2⟩,h3⟩,h4⟩,h5⟩:=h;refine ⟨⟨i,hi,h1,h2, ?_⟩,⟨d,hd,zs7 h4⟩,fun hc=>?_⟩
  ·split at h3
   ·rename_i z hz;simp only [Bool.and_eq_true,Bool.or_eq_true] at h3;exact ⟨z,hz,zf3 h3.1,fun hs=>h3.2.resolve_left (by rw [hs];exact Bool.false_ne_true)⟩
   ·cases h3
  ·rcases h5 with h5 | h5
   ·rw [hc] at h5;cases h5
   ·exact h5
 ·cases h
def teOf:List (TypeId×TI)→TE
 | [],_=>none
 | e::r,t=>if e.1=t then some e.2 else teOf r t
theorem zy2 {P:Program}:∀ {l:List (TypeId×TI)},(l.all fun e=>tyB P e.1 e.2)=true→vh P (teOf l)
 | [],_=>fun t ti h=>by simp [teOf] at h
 | e::r,h=>fun t ti ht=>by
  simp only [List.all_cons,Bool.and_eq_true] at h;simp only [teOf] at ht;split at ht
  ·rename_i he;cases ht;subst he;exact zyy h.1
  ·exact zy2 h.2 t ti ht
-- The continuations stay untouched while what is ahead of them is worked out.
@[congr] theorem xpure_congr {te:TE} {wr c c':Bool} {st st':St} {o:Op} {K:SV→Prop} (h1:c=c') (h2:st=st'):zry te wr c st o K=zry te wr c' st' o K:=by rw [h1,h2]
@[congr] theorem xload_congr {te:TE} {c c':Bool} {st st':St} {o:Op} {K:SV→Prop} (h1:c=c') (h2:st=st'):zne te c st o K=zne te c' st' o K:=by rw [h1,h2]
@[congr] theorem xmem_congr {te:TE} {st st':St} {o:Op} {K:SV→St→Prop} (h2:st=st'):zkr te st o K=zkr te st' o K:=by rw [h2]
@[congr] theorem putS_congr {nt:Nat} {st st':St} {d:Option Tmp} {z z':SV} {K:St→Prop} (h1:st=st') (h2:z=z'):zoo nt st d z K=zoo nt st' d z' K:=by rw [h1,h2]
@[congr] theorem XOne_congr {P:Program} {te:TE} {wr:Bool} {nt:Nat} {pt:PT} {g c c':Bool} {st st':St} {o:Oper} {K:St→Prop} (h1:c=c') (h2:st=st'):zoi P te wr nt pt g c st o K=zoi P te wr nt pt g c' st' o K:=by rw [h1,h2]
@[congr] theorem XStep_congr {P:Program} {te:TE} {wr:Bool} {nt:Nat} {pt:PT} {sp:Bool} {ops:Array Oper} {st st':St} {o:Oper} {K:St→Prop} (h2:st=st'):zbb P te wr nt pt sp ops st o K=zbb P te wr nt pt sp ops st' o K:=by rw [h2]
@[congr] theorem XL_congr {P:Program} {te:TE} {wr:Bool} {nt:Nat} {pt:PT} {sp:Bool} {ops:Array Oper} {K:St→Prop} {os:List Oper} {st st':St} (h2:st=st'):XL P te wr nt pt sp ops K os st=XL P te wr nt pt sp ops K os st':=by rw [h2]
@[congr] theorem vc_congr {cf:Cf} {F:St→Prop} {n:Nat} {its:List It} {st st':St} (h2:st=st'):vc cf F n its st=vc cf F n its st':=by rw [h2]
@[congr] theorem guardC_congr {want:Bool} {x x':SV} {K:Bool→Prop} (h:x=x'):zjg want x K=zjg want x' K:=by rw [h]
@[congr] theorem ung_congr {c c':Bool} {x x':SV} {K:SV→Prop} (h1:c=c') (h:x=x'):ung c x K=ung c' x' K:=by rw [h1,h]
@[congr] theorem VLoop_congr {k:Nat} {st st':St} {B:(St→Prop)→St→Prop} (h:st=st'):VLoop k st B=VLoop k st' B:=by rw [h]
@[congr] theorem VCut_congr {k:Nat} {B:(St→Prop)→Prop} {R:St→Prop}:VCut k B R=VCut k B R:=rfl
@[congr] theorem Chk_congr {p p' q:Prop} (h:p=p'):Chk p q=Chk p' q:=by rw [h]
@[simp] theorem zwy {q:Prop}:Chk True q=q:=by simp [Chk]
/-- What stays of the temporaries behind a region. -/
def kp:List (Nat×List Tmp)→Nat→List Tmp
 | [],_=>[]
 | e::r,i=>if e.1=i then e.2 else kp r i
end Go.Vg
