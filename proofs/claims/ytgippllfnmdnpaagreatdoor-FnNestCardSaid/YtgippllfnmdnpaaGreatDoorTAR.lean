/- A small number that is drawn. -/
import Derived.Test.YtgippllfnmdnpaaGreatDoorTAP
section
set_option linter.unusedVariables false
set_option linter.unusedSimpArgs false
set_option linter.unusedSectionVars false
set_option linter.unnecessarySimpa false
namespace Go.Vg
variable [Go.Vg.Glob]
open Go.Pl
end Go.Vg
end
section
set_option linter.unusedVariables false
set_option linter.unusedSimpArgs false
set_option linter.unusedSectionVars false
set_option linter.unnecessarySimpa false
namespace Go.Pl
/-- The last place of a byte,or -1. -/
def lixU (s:Bs) (c:Int):Nat→Int
 | 0 => -1
 | i+1=>if ((s.getD i 0).toNat:Int)=c then (i:Int) else lixU s c i
def lix (s:Bs) (c:Int):Int:=lixU s c s.length
theorem zyt (s:Bs) (c:Int):∀ i,-1≤lixU s c i
 | 0=>by simp [lixU]
 | i+1=>by unfold lixU;split;omega;exact zyt s c i
theorem zys (s:Bs) (c:Int):∀ i,lixU s c i<i
 | 0=>by simp [lixU]
 | i+1=>by unfold lixU;split;omega;have:=zys s c i;omega
/-- The beginning of a line. -/
def la (s:Bs):Nat→Nat
 | 0=>0
 | i+1=>if byt s i=10 then i+1 else la s i
theorem zoq (s:Bs):∀ i,la s i≤i
 | 0=>Nat.le_refl _
 | i+1=>by unfold la;split;omega;have:=zoq s i;omega
theorem lix_take {s:Bs} {p:Nat} (h:p≤s.length):lix (s.take p) 10+1=la s p:=by
 have h1:∀ i,i≤p→lixU (s.take p) 10 i+1=la s i:=by
  intro i
  induction i with
  | zero=>intro _;rfl
  | succ i ih=>
   intro hi
   have e:(s.take p).getD i 0=s.getD i 0:=by
    simp only [List.getD_eq_getElem?_getD,List.getElem?_take];rw [if_pos (by omega)]
   unfold lixU la
   rw [e,kv (by omega)]
   split
   ·rfl
   ·exact ih (by omega)
 unfold lix
 rw [List.length_take,Nat.min_eq_left h]
 exact h1 p (Nat.le_refl _)
/-- A mark: 1,2,or 0 where there is none. -/
def mkA (s:Bs) (p:Nat):Int:=
 if la s p=p∧p+3≤s.length∧gap s (p+3)=true then (if sub s p (p+3)=[45,45,45] then 1 else if sub s p (p+3)=[46,46,46] then 2 else 0) else 0
theorem mkA_bad {s:Bs} {p:Nat} (h:¬(la s p=p∧p+3≤s.length∧gap s (p+3)=true)):mkA s p=0:=by unfold mkA;rw [if_neg h]
/-- The end of a stretch. -/
def stc (s:Bs) (i:Nat):Nat:=if h:gap s i=false∧flw (byt s i)=false then stc s (i+1) else i
termination_by s.length-i
decreasing_by have:=ut h.1;omega
theorem stc_t {s:Bs} {i:Nat} (h:gap s i=false∧flw (byt s i)=false):stc s i=stc s (i+1):=by rw [stc,dif_pos h]
theorem stc_f {s:Bs} {i:Nat} (h:¬(gap s i=false∧flw (byt s i)=false)):stc s i=i:=by rw [stc,dif_neg h]
theorem stc_ge (s:Bs) (i:Nat):i≤stc s i:=by
 fun_induction stc s i with
 | case1 i h ih=>omega
 | case2 i h=>omega
theorem zjx (s:Bs) (i:Nat) (h:i≤s.length):stc s i≤s.length:=by
 fun_induction stc s i with
 | case1 i h' ih=>exact ih (ut h'.1)
 | case2 i h'=>exact h
/-- A name behind its sign. -/
def nmA (s:Bs) (p:Nat):Bs×Int×Bool:=
 if (byt s p=38∨byt s p=42)∧p+2≤stc s (p+1)∧stc s (p+1)≤p+61 then (sub s (p+1) (stc s (p+1)),stc s (p+1),true) else ([],0,false)
structure Pc where
 text:Bs
 glue:Bool
deriving DecidableEq
def pcz:Pc:=⟨[],false⟩
/-- Pieces behind the first one,with so many breaks to be told. -/
def zcb (glue:Bool) (n:Nat):List Pc→Bs
 | []=>[]
 | x::r=>if x.text=[]∧x.glue=false∧r≠[] then zcb glue (n+1) r
  else (if 0<n then List.replicate n 10 else if glue then [] else [32])++(x.text++zcb x.glue 0 r)
def zdj:List Pc→Bs
 | []=>[]
 | x::r=>x.text++zcb x.glue 0 r
def pcW (l:List Pc):Nat:=(l.map fun x=>x.text.length+1).sum
theorem zzc (glue:Bool):∀ (l:List Pc) (n:Nat),(zcb glue n l).length≤n+pcW l:=by
 intro l
 induction l generalizing glue with
 | nil=>intro n;simp [zcb]
 | cons x r ih=>
  intro n
  unfold zcb
  have hw:pcW (x::r)=x.text.length+1+pcW r:=by simp [pcW]
  split
  ·have:=ih glue (n+1);omega
  ·have:=ih x.glue 0
   simp only [List.length_append]
   split
   ·simp;omega
   ·split<;>simp<;>omega
theorem zid (l:List Pc):(zdj l).length≤pcW l:=by
 cases l with
 | nil=>simp [zdj]
 | cons x r=>
  have:=zzc x.glue r 0
  have hw:pcW (x::r)=x.text.length+1+pcW r:=by simp [pcW]
  simp only [zdj,List.length_append]
  omega
theorem w9 (l m:List Pc):pcW (l++m)=pcW l+pcW m:=by simp [pcW]
theorem zsw {l:List Pc} {i:Nat} (h:i<l.length):pcW (l.drop i)=(l.getD i pcz).text.length+1+pcW (l.drop (i+1)):=by
 have e:l.getD i pcz=l[i]:=by simp [List.getD,h]
 rw [List.drop_eq_getElem_cons h,e]
 unfold pcW
 rw [List.map_cons,List.sum_cons]
theorem zn8 (l:List Pc):l.length≤pcW l:=by
 induction l with
 | nil=>simp
 | cons x r ih=>
  have hw:pcW (x::r)=x.text.length+1+pcW r:=by simp [pcW]
  simp only [List.length_cons];omega
/-- The first byte of a plain scalar. -/
def pfL:Bs:=[44,91,93,123,125,35,38,42,33,124,62,39,34,37,64,96]
def pfA (s:Bs) (p:Nat) (flow:Bool):Bool:=
 !gap s p&&!decide (s.getD p 0∈pfL)&&(!(decide (byt s p=45)||decide (byt s p=63)||decide (byt s p=58))||(!gap s (p+1)&&!(flow&&flw (byt s (p+1)))))
/-- What ends a plain scalar of a line. -/
def peX (s:Bs) (p:Nat) (flow:Bool) (q:Nat):Bool:=
 (decide (byt s q=35)&&decide (p<q)&&isW s (q-1))||(decide (byt s q=58)&&(gap s (q+1)||(flow&&flw (byt s (q+1)))))||(flow&&flw (byt s q))
def pe1 (s:Bs) (p:Nat) (flow:Bool) (q:Nat):Nat:=if h:isB s q=false∧peX s p flow q=false then pe1 s p flow (q+1) else q
termination_by s.length-q
decreasing_by have:=zdf h.1;omega
theorem pe1_t {s:Bs} {p:Nat} {flow:Bool} {q:Nat} (h:isB s q=false∧peX s p flow q=false):pe1 s p flow q=pe1 s p flow (q+1):=by rw [pe1,dif_pos h]
theorem pe1_f {s:Bs} {p:Nat} {flow:Bool} {q:Nat} (h:¬(isB s q=false∧peX s p flow q=false)):pe1 s p flow q=q:=by rw [pe1,dif_neg h]
theorem pe1_ge (s:Bs) (p:Nat) (flow:Bool) (q:Nat):q≤pe1 s p flow q:=by
 fun_induction pe1 s p flow q with
 | case1 i h ih=>omega
 | case2 i h=>omega
theorem pe1_le (s:Bs) (p:Nat) (flow:Bool) (q:Nat) (h:q≤s.length):pe1 s p flow q≤s.length:=by
 fun_induction pe1 s p flow q with
 | case1 i h' ih=>exact ih (zdf h'.1)
 | case2 i h'=>exact h
/-- Back over white. -/
def bkW (s:Bs) (p:Nat):Nat→Nat
 | 0=>0
 | q+1=>if p<q+1∧isW s q=true then bkW s p q else q+1
theorem bkW_le (s:Bs) (p:Nat):∀ q,bkW s p q≤q
 | 0=>Nat.le_refl _
 | q+1=>by unfold bkW;split;have:=bkW_le s p q;omega;omega
theorem bkW_ge (s:Bs) (p:Nat):∀ q,p≤q→p≤bkW s p q
 | 0,h=>h
 | q+1,h=>by unfold bkW;split;rename_i h1;exact bkW_ge s p q (by omega);exact h
theorem bkW_t {s:Bs} {p q:Nat} (h0:p<q) (h:isW s (q-1)=true):bkW s p q=bkW s p (q-1):=by
 cases q with
 | zero=>omega
 | succ q=>
       conv=>lhs;unfold bkW
       rw [if_pos ⟨h0,by simpa using h⟩];rfl
theorem bkW_f {s:Bs} {p q:Nat} (h:¬(p<q∧isW s (q-1)=true)):bkW s p q=q:=by
 cases q with
 | zero=>rfl
 | succ q=>unfold bkW;rw [if_neg (by simpa using h)]
def plE (s:Bs) (p:Nat) (flow:Bool):Nat:=bkW s p (pe1 s p flow p)
theorem plE_ge (s:Bs) (p:Nat) (flow:Bool):p≤plE s p flow:=bkW_ge s p _ (pe1_ge s p flow p)
theorem zft (s:Bs) (p:Nat) (flow:Bool) (h:p≤s.length):plE s p flow≤s.length:=Nat.le_trans (bkW_le s p _) (pe1_le s p flow p h)
/-- A rune's bytes. -/
def rnB (r:Int):Bs:=
 if r<0∨1114111<r∨(55296≤r∧r≤57343) then []
 else if r<128 then [UInt8.ofNat r.toNat]
 else if r<2048 then [UInt8.ofNat (192+r.toNat / 64),UInt8.ofNat (128+r.toNat % 64)]
 else if r<65536 then [UInt8.ofNat (224+r.toNat / 4096),UInt8.ofNat (128+r.toNat / 64 % 64),UInt8.ofNat (128+r.toNat % 64)]
 else [UInt8.ofNat (240+r.toNat / 262144),UInt8.ofNat (128+r.toNat / 4096 % 64),UInt8.ofNat (128+r.toNat / 64 % 64),UInt8.ofNat (128+r.toNat % 64)]
theorem zw4 (r:Int):(rnB r).length≤4:=by unfold rnB;split;simp;split;simp;split;simp;split<;>simp
/-- A digit of 16,or -1. -/
def hxD (b:Int):Int:=if 48≤b∧b≤57 then b-48 else if 97≤b∧b≤102 then b-97+10 else if 65≤b∧b≤70 then b-65+10 else -1
/-- So many digits of 16 from a place on,behind a number;-1 where one is none. -/
def hxV (s:Bs) (p:Nat):Nat→Int→Int
 | 0,a=>a
 | n+1,a=>if hxD (byt s p)<0 then -1 else hxV s (p+1) n (16 * a+hxD (byt s p))
/-- The number of an escape of one byte,or -1. -/
def shL:List (Int×Int):=[(48,0),(97,7),(98,8),(116,9),(9,9),(110,10),(118,11),(102,12),(114,13),(101,27),(32,32),(34,34),(47,47),(92,92),(78,133),(95,160),(76,8232),(80,8233)]
def shE (b:Int):Int:=match shL.find? (fun p=>p.1==b) with
 | some p=>p.2
 | none => -1
theorem shE_none {b:Int} (h:∀ p∈shL,p.1≠b):shE b = -1:=by
 have:shL.find? (fun p=>p.1==b)=none:=List.find?_eq_none.2 fun p hp=>by simpa using h p hp
 unfold shE;rw [this]
theorem zwr {b:Int} (h:b≠48∧b≠97∧b≠98∧b≠116∧b≠9∧b≠110∧b≠118∧b≠102∧b≠114∧b≠101∧b≠32∧b≠34∧b≠47∧b≠92∧b≠78∧b≠95∧b≠76∧b≠80):shE b = -1:=by
 apply shE_none
 intro p hp
 simp only [shL,List.mem_cons,List.not_mem_nil,or_false] at hp
 rcases hp with rfl | rfl | rfl | rfl | rfl | rfl | rfl | rfl | rfl | rfl | rfl | rfl | rfl | rfl | rfl | rfl | rfl | rfl<;>simp only<;>omega
def hxN (b:Int):Nat:=if b=120 then 2 else if b=117 then 4 else if b=85 then 8 else 0
/-- An escape: its text,and the place behind it (0 where there is none). -/
def esA (s:Bs) (p:Nat):Bs×Nat:=
 if byt s p=92∧p+1<s.length then
  (if 0≤shE (byt s (p+1)) then (rnB (shE (byt s (p+1))),p+2)
   else if hxN (byt s (p+1))=0∨rnB (hxV s (p+2) (hxN (byt s (p+1))) 0)=[] then ([],0)
   else (rnB (hxV s (p+2) (hxN (byt s (p+1))) 0),p+2+hxN (byt s (p+1))))
 else ([],0)
/-- White taken off an end,but not below a length. -/
def cutK (k:Nat):Nat→Bs→Bs
 | 0,b=>b
 | n+1,b=>if k<b.length∧(b.getD (b.length-1) 0=32∨b.getD (b.length-1) 0=9) then cutK k n (b.take (b.length-1)) else b
def zbu (k:Nat) (b:Bs):Bs:=cutK k b.length b
end Go.Pl
namespace Go.Pl
theorem nmA_t {s:Bs} {p:Nat} (h:(byt s p=38∨byt s p=42)∧p+2≤stc s (p+1)∧stc s (p+1)≤p+61):nmA s p=(sub s (p+1) (stc s (p+1)),(stc s (p+1):Int),true):=by unfold nmA;rw [if_pos h]
theorem nmA_f {s:Bs} {p:Nat} (h:¬((byt s p=38∨byt s p=42)∧p+2≤stc s (p+1)∧stc s (p+1)≤p+61)):nmA s p=([],0,false):=by unfold nmA;rw [if_neg h]
theorem idx_ge (c:UInt8):∀ l:Bs,decide (idx l c≥0)=decide (c∈l):=by
 intro l
 unfold idx
 cases h:l.findIdx? (·==c) with
 | none=>
  have:=List.findIdx?_eq_none_iff.1 h
  have h2:¬c∈l:=fun hc=>by simpa using this c hc
  simp [h2]
 | some i=>
  have:=List.findIdx?_eq_some_iff_getElem.1 h
  obtain ⟨hi,h1,_⟩:=this
  have h2:c∈l:=by
   have e:l[i]=c:=by simpa using h1
   rw [←e];exact List.getElem_mem hi
  simp [h2]
end Go.Pl
namespace Go.Pl
theorem pfA_gap {s:Bs} {p:Nat} {fl:Bool} (h:gap s p=true):pfA s p fl=false:=by unfold pfA;rw [h];rfl
theorem pfA_no {s:Bs} {p:Nat} {fl:Bool} (h:s.getD p 0∈pfL):pfA s p fl=false:=by unfold pfA;rw [decide_eq_true h];simp
theorem pfA_sign {s:Bs} {p:Nat} {fl:Bool} (hg:gap s p=false) (h:¬s.getD p 0∈pfL) (hb:byt s p=45∨byt s p=63∨byt s p=58):pfA s p fl=(!gap s (p+1)&&!(fl&&flw (byt s (p+1)))):=by
 unfold pfA;rw [hg,decide_eq_false h]
 have:(decide (byt s p=45)||decide (byt s p=63)||decide (byt s p=58))=true:=by rcases hb with h | h | h<;>simp [h]
 rw [this];simp
theorem pfA_yes {s:Bs} {p:Nat} {fl:Bool} (hg:gap s p=false) (h:¬s.getD p 0∈pfL) (hb:¬(byt s p=45∨byt s p=63∨byt s p=58)):pfA s p fl=true:=by
 unfold pfA;rw [hg,decide_eq_false h]
 have:(decide (byt s p=45)||decide (byt s p=63)||decide (byt s p=58))=false:=by simp at hb;simp [hb]
 rw [this];simp
theorem zbw {c:UInt8} {n:Nat} (hn:n<256):((c.toNat:Int)=n)=(c=UInt8.ofNat n):=by
 apply propext
 constructor
 ·intro h
  apply UInt8.toNat_inj.1
  rw [UInt8.toNat_ofNat_of_lt' (by simpa using hn)]
  omega
 ·rintro rfl
  rw [UInt8.toNat_ofNat_of_lt' (by simpa using hn)]
theorem u8_of (c:UInt8):UInt8.ofNat c.toNat=c:=by simp
theorem pfL_mem (c:UInt8):(decide ((c.toNat:Int)=64)||decide ((c.toNat:Int)=96)||decide (c∈[44,91,93,123,125,35,38,42,33,124,62,39,34,37]))=decide (c∈pfL):=by
 have h1:=zbw (c:=c) (n:=64) (by decide)
 have h2:=zbw (c:=c) (n:=96) (by decide)
 simp only [Int.cast_ofNat_Int] at h1 h2
 rw [Bool.eq_iff_iff]
 simp only [Bool.or_eq_true,decide_eq_true_eq,h1,h2,pfL,List.mem_cons,List.not_mem_nil,or_false]
 constructor
 ·rintro ((h | h) | h)
  ·simp [h]
  ·simp [h]
  ·rcases h with h | h | h | h | h | h | h | h | h | h | h | h | h | h<;>simp [h]
 ·rintro (h | h | h | h | h | h | h | h | h | h | h | h | h | h | h | h)<;>simp [h]
end Go.Pl
namespace Go.Pl
theorem zln {r:Int} (h:r<0∨1114111<r∨(55296≤r∧r≤57343)):rnB r=[]:=by unfold rnB;rw [if_pos h]
theorem hxV_neg {s:Bs} {p:Nat} {n:Nat} {a:Int} (h:hxD (byt s p)<0):hxV s p (n+1) a = -1:=by unfold hxV;rw [if_pos h]
theorem zmm {s:Bs} {p:Nat} {n:Nat} {a:Int} (h:0≤hxD (byt s p)):hxV s p (n+1) a=hxV s (p+1) n (16 * a+hxD (byt s p)):=by
 show (if hxD (byt s p)<0 then -1 else hxV s (p+1) n (16 * a+hxD (byt s p)))=_
 rw [if_neg (by omega)]
theorem hxD_1 {b:Int} (h1:48≤b) (h2:b≤57):hxD b=b-48:=by unfold hxD;rw [if_pos ⟨h1,h2⟩]
theorem hxD_2 {b:Int} (h1:97≤b) (h2:b≤102):hxD b=b-97+10:=by unfold hxD;rw [if_neg (by omega),if_pos ⟨h1,h2⟩]
theorem hxD_3 {b:Int} (h1:65≤b) (h2:b≤70):hxD b=b-65+10:=by unfold hxD;rw [if_neg (by omega),if_neg (by omega),if_pos ⟨h1,h2⟩]
theorem hxD_n {b:Int} (h1:¬(48≤b∧b≤57)) (h2:¬(97≤b∧b≤102)) (h3:¬(65≤b∧b≤70)):hxD b = -1:=by unfold hxD;rw [if_neg h1,if_neg h2,if_neg h3]
theorem hx16 {i:Nat} (h:i≤8):16 ^ i≤4294967296:=Nat.le_trans (Nat.pow_le_pow_right (by decide) h) (by decide)
end Go.Pl
namespace Go.Pl
theorem esA_bad {s:Bs} {p:Nat} (h:¬(byt s p=92∧p+1<s.length)):esA s p=([],0):=by unfold esA;rw [if_neg h]
theorem zzj {s:Bs} {p:Nat} (h:byt s p=92∧p+1<s.length) (h1:0≤shE (byt s (p+1))):esA s p=(rnB (shE (byt s (p+1))),p+2):=by unfold esA;rw [if_pos h,if_pos h1]
theorem esA_no {s:Bs} {p:Nat} (h:byt s p=92∧p+1<s.length) (h1:¬0≤shE (byt s (p+1))) (h2:hxN (byt s (p+1))=0∨rnB (hxV s (p+2) (hxN (byt s (p+1))) 0)=[]):esA s p=([],0):=by unfold esA;rw [if_pos h,if_neg h1,if_pos h2]
theorem esA_hex {s:Bs} {p:Nat} (h:byt s p=92∧p+1<s.length) (h1:¬0≤shE (byt s (p+1))) (h2:¬(hxN (byt s (p+1))=0∨rnB (hxV s (p+2) (hxN (byt s (p+1))) 0)=[])):esA s p=(rnB (hxV s (p+2) (hxN (byt s (p+1))) 0),p+2+hxN (byt s (p+1))):=by unfold esA;rw [if_pos h,if_neg h1,if_neg h2]
theorem hxN_le (b:Int):hxN b≤8:=by unfold hxN;split;omega;split;omega;split<;>omega
theorem zzk (s:Bs) (p:Nat):(esA s p).1.length≤4:=by
 unfold esA
 split
 ·split
  ·exact zw4 _
  ·split
   ·simp
   ·exact zw4 _
 ·simp
theorem zzl (s:Bs) (p:Nat):(esA s p).2=0∨p+2≤(esA s p).2:=by
 unfold esA
 split
 ·split
  ·right;simp
  ·split
   ·left;rfl
   ·right;simp only;omega
 ·left;rfl
theorem hxV_all {s:Bs} {p:Nat}:∀ {n:Nat} {a:Int},0≤a→0<n→0≤hxV s p n a→p+n≤s.length
 | n,a,h0,hn,h=>by
  have key:∀ (n:Nat) (p:Nat) (a:Int),0≤a→0<n→0≤hxV s p n a→p+n≤s.length:=by
   intro n
   induction n with
   | zero=>intro p a _ h _;omega
   | succ n ih=>
    intro p a h0 _ h
    unfold hxV at h
    split at h
    ·omega
    ·rename_i hd
     have hp:p<s.length:=by
      rcases Nat.lt_or_ge p s.length with h1 | h1
      ·exact h1
      ·rw [jt h1] at hd;exact absurd (by decide) hd
     rcases Nat.eq_zero_or_pos n with hn | hn
     ·omega
     ·have:=ih (p+1) _ (by omega) hn h;omega
  exact key n p a h0 hn h
theorem ztu (s:Bs) (p:Nat):(esA s p).2≤s.length:=by
 unfold esA
 split
 ·rename_i h
  split
  ·simp only;omega
  ·split
   ·simp
   ·rename_i h2
    simp only [not_or] at h2
    have h3:0≤hxV s (p+2) (hxN (byt s (p+1))) 0:=by
     rcases Int.lt_or_le (hxV s (p+2) (hxN (byt s (p+1))) 0) 0 with h4 | h4
     ·exact absurd (zln (.inl h4)) h2.2
     ·exact h4
    exact hxV_all (Int.le_refl 0) (by omega) h3
 ·simp
end Go.Pl
namespace Go.Pl
theorem zkt {l:List Pc} {i:Nat} (h:i<l.length) {g:Bool} {n:Nat}:zcb g n (l.drop i)=if (l.getD i pcz).text=[]∧(l.getD i pcz).glue=false∧i+1<l.length then zcb g (n+1) (l.drop (i+1))
  else (if 0<n then List.replicate n 10 else if g then [] else [32])++((l.getD i pcz).text++zcb (l.getD i pcz).glue 0 (l.drop (i+1))):=by
 have e:l.getD i pcz=l[i]:=by simp [List.getD,h]
 rw [List.drop_eq_getElem_cons h,e]
 have e2:(l.drop (i+1)≠[])=(i+1<l.length):=propext (by rw [ne_eq,List.drop_eq_nil_iff];omega)
 conv=>lhs;unfold zcb
 simp only [e2]
theorem zvf {l:List Pc} {i:Nat} {g:Bool} {n:Nat} (h:i+1<l.length) (h1:(l.getD i pcz).text=[]) (h2:(l.getD i pcz).glue=false):zcb g n (l.drop i)=zcb g (n+1) (l.drop (i+1)):=by
 rw [zkt (by omega),if_pos ⟨h1,h2,h⟩]
theorem zzb {l:List Pc} {i:Nat} {g:Bool} {n:Nat} (h:i<l.length) (h1:¬((l.getD i pcz).text=[]∧(l.getD i pcz).glue=false∧i+1<l.length)):zcb g n (l.drop i)=(if 0<n then List.replicate n 10 else if g then [] else [32])++((l.getD i pcz).text++zcb (l.getD i pcz).glue 0 (l.drop (i+1))):=by
 rw [zkt h,if_neg h1]
theorem zve {l:List Pc} (h:0<l.length):zdj l=(l.getD 0 pcz).text++zcb (l.getD 0 pcz).glue 0 (l.drop 1):=by
 cases l with
 | nil=>simp at h
 | cons x r=>rfl
theorem cutW_t {k:Nat} {b:Bs} (h:k<b.length∧(b.getD (b.length-1) 0=32∨b.getD (b.length-1) 0=9)):zbu k b=zbu k (b.take (b.length-1)):=by
 unfold zbu
 obtain ⟨n,hn⟩:∃ n,b.length=n+1:=⟨b.length-1,by omega⟩
 have hl:(b.take (b.length-1)).length=n:=by rw [List.length_take];omega
 rw [hl]
 conv=>lhs;rw [hn];unfold cutK
 rw [if_pos h]
theorem zzu {k:Nat} {b:Bs} (h:¬(k<b.length∧(b.getD (b.length-1) 0=32∨b.getD (b.length-1) 0=9))):zbu k b=b:=by
 unfold zbu
 cases hb:b.length with
 | zero=>rfl
 | succ n=>unfold cutK;rw [if_neg h]
theorem zmt (k:Nat):∀ (n:Nat) (b:Bs),(cutK k n b).length≤b.length
 | 0,b=>Nat.le_refl _
 | n+1,b=>by
  unfold cutK
  split
  ·have:=zmt k n (b.take (b.length-1));rw [List.length_take] at this;omega
  ·exact Nat.le_refl _
theorem zgu (k:Nat) (b:Bs):(zbu k b).length≤b.length:=zmt k _ b
end Go.Pl
end
section
set_option linter.unusedVariables false
set_option linter.unusedSimpArgs false
set_option linter.unusedSectionVars false
set_option linter.unnecessarySimpa false
namespace Go.Pl
def sgl (s:Bs) (i:Nat) (L:List Pc) (cur:Bs):Bs×Nat×Int:=
 if h:i<s.length then
  if byt s i=10 then (if mkA s (i+1)=0 then sgl s (wh s (i+1)) (L++[⟨zbu 0 cur,false⟩]) [] else ([],i+1,4))
  else if byt s i=39∧byt s (i+1)=39 then sgl s (i+2) L (cur++[39])
  else if byt s i=39 then (zdj (L++[⟨cur,false⟩]),i+1,0)
  else sgl s (i+1) L (cur++[s.getD i 0])
 else ([],s.length,3)
termination_by s.length-i
decreasing_by
 ·have:=vl s (i+1);omega
 ·omega
 ·omega
theorem sgl_end {s:Bs} {i:Nat} {L:List Pc} {cur:Bs} (h:¬i<s.length):sgl s i L cur=([],s.length,3):=by rw [sgl,dif_neg h]
theorem sgl_nl {s:Bs} {i:Nat} {L:List Pc} {cur:Bs} (h:i<s.length) (hb:byt s i=10) (hm:mkA s (i+1)=0):sgl s i L cur=sgl s (wh s (i+1)) (L++[⟨zbu 0 cur,false⟩]) []:=by rw [sgl,dif_pos h,if_pos hb,if_pos hm]
theorem sgl_mk {s:Bs} {i:Nat} {L:List Pc} {cur:Bs} (h:i<s.length) (hb:byt s i=10) (hm:¬mkA s (i+1)=0):sgl s i L cur=([],i+1,4):=by rw [sgl,dif_pos h,if_pos hb,if_neg hm]
theorem sgl_qq {s:Bs} {i:Nat} {L:List Pc} {cur:Bs} (h:i<s.length) (hb:byt s i=39) (h2:byt s (i+1)=39):sgl s i L cur=sgl s (i+2) L (cur++[39]):=by rw [sgl,dif_pos h,if_neg (by omega),if_pos ⟨hb,h2⟩]
theorem sgl_q {s:Bs} {i:Nat} {L:List Pc} {cur:Bs} (h:i<s.length) (hb:byt s i=39) (h2:¬byt s (i+1)=39):sgl s i L cur=(zdj (L++[⟨cur,false⟩]),i+1,0):=by rw [sgl,dif_pos h,if_neg (by omega),if_neg (fun h=>h2 h.2),if_pos hb]
theorem sgl_c {s:Bs} {i:Nat} {L:List Pc} {cur:Bs} (h:i<s.length) (hb:¬byt s i=10) (h2:¬byt s i=39):sgl s i L cur=sgl s (i+1) L (cur++[s.getD i 0]):=by rw [sgl,dif_pos h,if_neg hb,if_neg (fun h=>h2 h.1),if_neg h2]
def sgA (s:Bs) (p:Nat):Bs×Nat×Int:=if byt s p=39 then sgl s (p+1) [] [] else ([],p,10)
def dbl (s:Bs) (i:Nat) (L:List Pc) (cur:Bs) (k:Nat):Bs×Nat×Int:=
 if h:i<s.length then
  if byt s i=10 then (if mkA s (i+1)=0 then dbl s (wh s (i+1)) (L++[⟨zbu k cur,false⟩]) [] 0 else ([],i+1,4))
  else if byt s i=92∧byt s (i+1)=10 then (if mkA s (i+2)=0 then dbl s (wh s (i+2)) (L++[⟨cur,true⟩]) [] 0 else ([],i+2,4))
  else if byt s i=92 then (if h2:(esA s i).2≤i then ([],i,5) else dbl s (esA s i).2 L (cur++(esA s i).1) (cur++(esA s i).1).length)
  else if byt s i=34 then (zdj (L++[⟨cur,false⟩]),i+1,0)
  else dbl s (i+1) L (cur++[s.getD i 0]) k
 else ([],s.length,3)
termination_by s.length-i
decreasing_by
 ·have:=vl s (i+1);omega
 ·have:=vl s (i+2);omega
 ·omega
 ·omega
theorem dbl_end {s:Bs} {i:Nat} {L:List Pc} {cur:Bs} {k:Nat} (h:¬i<s.length):dbl s i L cur k=([],s.length,3):=by rw [dbl,dif_neg h]
theorem dbl_nl {s:Bs} {i:Nat} {L:List Pc} {cur:Bs} {k:Nat} (h:i<s.length) (hb:byt s i=10) (hm:mkA s (i+1)=0):dbl s i L cur k=dbl s (wh s (i+1)) (L++[⟨zbu k cur,false⟩]) [] 0:=by rw [dbl,dif_pos h,if_pos hb,if_pos hm]
theorem dbl_mk {s:Bs} {i:Nat} {L:List Pc} {cur:Bs} {k:Nat} (h:i<s.length) (hb:byt s i=10) (hm:¬mkA s (i+1)=0):dbl s i L cur k=([],i+1,4):=by rw [dbl,dif_pos h,if_pos hb,if_neg hm]
theorem dbl_gl {s:Bs} {i:Nat} {L:List Pc} {cur:Bs} {k:Nat} (h:i<s.length) (hb:byt s i=92) (h2:byt s (i+1)=10) (hm:mkA s (i+2)=0):dbl s i L cur k=dbl s (wh s (i+2)) (L++[⟨cur,true⟩]) [] 0:=by rw [dbl,dif_pos h,if_neg (by omega),if_pos ⟨hb,h2⟩,if_pos hm]
theorem dbl_gm {s:Bs} {i:Nat} {L:List Pc} {cur:Bs} {k:Nat} (h:i<s.length) (hb:byt s i=92) (h2:byt s (i+1)=10) (hm:¬mkA s (i+2)=0):dbl s i L cur k=([],i+2,4):=by rw [dbl,dif_pos h,if_neg (by omega),if_pos ⟨hb,h2⟩,if_neg hm]
theorem dbl_eb {s:Bs} {i:Nat} {L:List Pc} {cur:Bs} {k:Nat} (h:i<s.length) (hb:byt s i=92) (h2:¬byt s (i+1)=10) (he:(esA s i).2=0):dbl s i L cur k=([],i,5):=by rw [dbl,dif_pos h,if_neg (by omega),if_neg (fun h=>h2 h.2),if_pos hb,dif_pos (by omega)]
theorem dbl_es {s:Bs} {i:Nat} {L:List Pc} {cur:Bs} {k:Nat} (h:i<s.length) (hb:byt s i=92) (h2:¬byt s (i+1)=10) (he:¬(esA s i).2=0):dbl s i L cur k=dbl s (esA s i).2 L (cur++(esA s i).1) (cur++(esA s i).1).length:=by
 rw [dbl,dif_pos h,if_neg (by omega),if_neg (fun h=>h2 h.2),if_pos hb,dif_neg (by have:=zzl s i;omega)]
theorem dbl_q {s:Bs} {i:Nat} {L:List Pc} {cur:Bs} {k:Nat} (h:i<s.length) (hb:byt s i=34):dbl s i L cur k=(zdj (L++[⟨cur,false⟩]),i+1,0):=by rw [dbl,dif_pos h,if_neg (by omega),if_neg (fun h=>by omega),if_neg (by omega),if_pos hb]
theorem dbl_c {s:Bs} {i:Nat} {L:List Pc} {cur:Bs} {k:Nat} (h:i<s.length) (hb:¬byt s i=10) (h2:¬byt s i=92) (h3:¬byt s i=34):dbl s i L cur k=dbl s (i+1) L (cur++[s.getD i 0]) k:=by rw [dbl,dif_pos h,if_neg hb,if_neg (fun h=>h2 h.1),if_neg h2,if_neg h3]
def dbA (s:Bs) (p:Nat):Bs×Nat×Int:=if byt s p=34 then dbl s (p+1) [] [] 0 else ([],p,10)
theorem zk1 {k:Nat} {b:Bs} {w:UInt8} (hk:k≤b.length) (hw:w=32∨w=9):zbu k (b++[w])=zbu k b:=by
 rw [cutW_t]
 ·congr 1;simp
 ·have e:(b++[w]).getD ((b++[w]).length-1) 0=w:=by simp [List.getD]
  rw [e]
  exact ⟨by simp;omega,hw⟩
theorem zms {k:Nat} {b:Bs} {w:UInt8} (hw:¬(w=32∨w=9)):zbu k (b++[w])=b++[w]:=by
 rw [zzu]
 have e:(b++[w]).getD ((b++[w]).length-1) 0=w:=by simp [List.getD]
 rw [e]
 exact fun h=>hw h.2
theorem cutW_all (b:Bs):zbu b.length b=b:=by
 rw [zzu];rintro ⟨h,_⟩;omega
theorem zee (k:Nat):zbu k []=[]:=by rw [zzu];rintro ⟨h,_⟩;simp at h
theorem zpo (k:Nat):∀ (n:Nat) (b:Bs),b.take (cutK k n b).length=cutK k n b
 | 0,b=>by simp [cutK]
 | n+1,b=>by
  unfold cutK
  split
  ·have h:=zpo k n (b.take (b.length-1))
   rw [List.take_take] at h
   have hl:=zmt k n (b.take (b.length-1))
   rw [List.length_take] at hl
   rw [Nat.min_eq_left (by omega)] at h
   exact h
  ·simp
theorem zpn (k:Nat) (b:Bs):b.take (zbu k b).length=zbu k b:=zpo k _ b
theorem xq (e:Pc):pcW [e]=e.text.length+1:=by simp [pcW]
theorem zni (s:Bs) (i:Nat) (L:List Pc) (cur:Bs) (h:i≤s.length):i≤(sgl s i L cur).2.1∧(sgl s i L cur).2.1≤s.length∧((sgl s i L cur).2.2=0→i<(sgl s i L cur).2.1):=by
 fun_induction sgl s i L cur with
 | case1 i L cur h1 hb hm ih=>have h2:=vl s (i+1);have h3:=vk s (i+1) h1;have:=ih h3;omega
 | case2 i L cur h1 hb hm=>simp only;omega
 | case3 i L cur h1 hb h2 ih=>
  have h3:i+1<s.length:=by
   rcases Nat.lt_or_ge (i+1) s.length with h4 | h4
   ·exact h4
   ·rw [jt h4] at h2;omega
  have:=ih (by omega);omega
 | case4 i L cur h1 hb h2 h3=>simp only;omega
 | case5 i L cur h1 hb h2 h3 ih=>have:=ih (by omega);omega
 | case6 i L cur h1=>simp only;omega
theorem zpm (s:Bs) (i:Nat) (L:List Pc) (cur:Bs) (k:Nat) (h:i≤s.length):i≤(dbl s i L cur k).2.1∧(dbl s i L cur k).2.1≤s.length∧((dbl s i L cur k).2.2=0→i<(dbl s i L cur k).2.1):=by
 fun_induction dbl s i L cur k with
 | case1 i L cur k h1 hb hm ih=>have h2:=vl s (i+1);have h3:=vk s (i+1) h1;have:=ih h3;omega
 | case2 i L cur k h1 hb hm=>simp only;omega
 | case3 i L cur k h1 hb h2 hm ih=>
  have h3:i+1<s.length:=by
   rcases Nat.lt_or_ge (i+1) s.length with h4 | h4
   ·exact h4
   ·rw [jt h4] at h2;omega
  have h4:=vl s (i+2);have h5:=vk s (i+2) h3;have:=ih h5;omega
 | case4 i L cur k h1 hb h2 hm=>
  have h3:i+1<s.length:=by
   rcases Nat.lt_or_ge (i+1) s.length with h4 | h4
   ·exact h4
   ·rw [jt h4] at h2;omega
  simp only;omega
 | case5 i L cur k h1 hb h2 hq he=>simp only;omega
 | case6 i L cur k h1 hb h2 hq he ih=>have h3:=ztu s i;have:=ih h3;omega
 | case7 i L cur k h1 hb h2 hq hx=>simp only;omega
 | case8 i L cur k h1 hb h2 hq hx ih=>have:=ih (by omega);omega
 | case9 i L cur k h1=>simp only;omega
theorem zg4 {s:Bs} {p:Nat} (h:p≤s.length):p≤(sgA s p).2.1∧(sgA s p).2.1≤s.length∧((sgA s p).2.2=0→p+1<(sgA s p).2.1):=by
 unfold sgA
 split
 ·rename_i hb
  have hl:p<s.length:=by
   rcases Nat.lt_or_ge p s.length with h1 | h1
   ·exact h1
   ·rw [jt h1] at hb;omega
  have:=zni s (p+1) [] [] hl
  omega
 ·simp only;omega
theorem zik {s:Bs} {p:Nat} (h:p≤s.length):p≤(dbA s p).2.1∧(dbA s p).2.1≤s.length∧((dbA s p).2.2=0→p+1<(dbA s p).2.1):=by
 unfold dbA
 split
 ·rename_i hb
  have hl:p<s.length:=by
   rcases Nat.lt_or_ge p s.length with h1 | h1
   ·exact h1
   ·rw [jt h1] at hb;omega
  have:=zpm s (p+1) [] [] 0 hl
  omega
 ·simp only;omega
theorem zyg {s:Bs} {p:Nat} (h:p≤s.length):0≤(nmA s p).2.1∧(nmA s p).2.1≤s.length∧((nmA s p).2.2=true→(p:Int)+2≤(nmA s p).2.1):=by
 unfold nmA
 split
 ·rename_i hb
  have hl:p<s.length:=by
   rcases Nat.lt_or_ge p s.length with h1 | h1
   ·exact h1
   ·rw [jt h1] at hb;omega
  have:=zjx s (p+1) hl
  simp only;omega
 ·simp
/-- No break between two places. -/
def oneL (s:Bs) (p e:Nat):Bool:=decide (e≤en s p)
theorem mem_sub {s:Bs} {p e:Nat} (h1:p≤e) (h2:e≤s.length):decide ((10:UInt8)∈sub s p e)=!oneL s p e:=by
 unfold oneL sub
 rw [Bool.eq_iff_iff]
 simp only [decide_eq_true_eq,Bool.not_eq_true',decide_eq_false_iff_not,Nat.not_le]
 have key:∀ q,q<s.length→(isB s q=true↔s.getD q 0=10):=by
  intro q hq
  have h3:¬((s.getD q 0).toNat:Int)<0:=by omega
  simp only [isB,kv hq,Bool.or_eq_true,beq_iff_eq,decide_eq_true_eq,h3,or_false]
  have:=zbw (c:=s.getD q 0) (n:=10) (by decide)
  simp only [Int.cast_ofNat_Int] at this
  rw [this];rfl
 constructor
 ·intro hm
  obtain ⟨j,hj,hx⟩:=List.mem_iff_getElem.1 hm
  have hj2:p+j<e:=by simp only [List.length_drop,List.length_take] at hj;omega
  have hx2:s.getD (p+j) 0=10:=by
   simp only [List.getElem_drop,List.getElem_take] at hx
   simp [List.getD,show p+j<s.length by omega,hx]
  rcases Nat.lt_or_ge (p+j) (en s p) with h3 | h3
  ·have:=en_lt (Nat.le_add_right p j) h3
   rw [(key _ (by omega)).2 hx2] at this;cases this
  ·omega
 ·intro hl
  have hB:=en_isB s p
  have hx:=(key _ (by omega)).1 hB
  have hg:=zgh s p
  refine List.mem_iff_getElem.2 ⟨en s p-p,by simp only [List.length_drop,List.length_take];omega, ?_⟩
  simp only [List.getElem_drop,List.getElem_take,show p+(en s p-p)=en s p by omega]
  simpa [List.getD,show en s p<s.length by omega] using hx
/-- The end of a scalar of one line,as a key has it. -/
def keE (s:Bs) (p:Nat):Int×Bool:=
 if byt s p=42 then ((nmA s p).2.1,(nmA s p).2.2)
 else if byt s p=39 then ((sgA s p).2.1,decide ((sgA s p).2.2=0)&&oneL s p (sgA s p).2.1)
 else if byt s p=34 then ((dbA s p).2.1,decide ((dbA s p).2.2=0)&&oneL s p (dbA s p).2.1)
 else if pfA s p false=true then (plE s p false,decide (p<plE s p false))
 else (0,false)
theorem zou {s:Bs} {p:Nat} (h:p≤s.length):0≤(keE s p).1∧(keE s p).1≤s.length∧((keE s p).2=true→(p:Int)<(keE s p).1):=by
 unfold keE
 have h1:=zyg h
 have h2:=zg4 h
 have h3:=zik h
 have h4:=zft s p false h
 split
 ·exact ⟨h1.1,h1.2.1,fun hk=>by have:=h1.2.2 hk;omega⟩
 split
 ·exact ⟨by simp only;omega,by simp only;omega,fun hk=>by simp only [Bool.and_eq_true,decide_eq_true_eq] at hk;have:=h2.2.2 hk.1;simp only;omega⟩
 split
 ·exact ⟨by simp only;omega,by simp only;omega,fun hk=>by simp only [Bool.and_eq_true,decide_eq_true_eq] at hk;have:=h3.2.2 hk.1;simp only;omega⟩
 split
 ·exact ⟨by simp only;omega,by simp only;omega,fun hk=>by simp only [decide_eq_true_eq] at hk;simp only;omega⟩
 ·simp
def kyA (s:Bs) (p:Nat):Int×Int×Bool:=
 if (keE s p).2=true∧(keE s p).1-p≤1000∧byt s (wh s (keE s p).1.toNat)=58∧gap s (wh s (keE s p).1.toNat+1)=true then ((keE s p).1,wh s (keE s p).1.toNat,true) else (0,0,false)
theorem kyA_t {s:Bs} {p:Nat} (h:(keE s p).2=true∧(keE s p).1-p≤1000∧byt s (wh s (keE s p).1.toNat)=58∧gap s (wh s (keE s p).1.toNat+1)=true):kyA s p=((keE s p).1,(wh s (keE s p).1.toNat:Int),true):=by unfold kyA;rw [if_pos h]
theorem kyA_f {s:Bs} {p:Nat} (h:¬((keE s p).2=true∧(keE s p).1-p≤1000∧byt s (wh s (keE s p).1.toNat)=58∧gap s (wh s (keE s p).1.toNat+1)=true)):kyA s p=(0,0,false):=by unfold kyA;rw [if_neg h]
end Go.Pl
end
section
set_option linter.unusedVariables false
set_option linter.unusedSimpArgs false
set_option linter.unusedSectionVars false
set_option linter.unnecessarySimpa false
namespace Go.Pl
theorem zy {s:Bs} {i:Nat} {b:Int} (h:byt s i=b) (hb:0≤b):i<s.length:=by
 rcases Nat.lt_or_ge i s.length with h1 | h1
 ·exact h1
 ·rw [jt h1] at h;omega
/-- Over blanks. -/
def bl (s:Bs) (i:Nat):Nat:=if h:byt s i=32 then bl s (i+1) else i
termination_by s.length-i
decreasing_by have:=zy h (by decide);omega
theorem bl_t {s:Bs} {i:Nat} (h:byt s i=32):bl s i=bl s (i+1):=by rw [bl,dif_pos h]
theorem bl_f {s:Bs} {i:Nat} (h:¬byt s i=32):bl s i=i:=by rw [bl,dif_neg h]
def inA (s:Bs) (p:Nat):Nat:=bl s (la s p)-la s p
/-- Over a gap. -/
def gpC (s:Bs) (p:Nat):Bool:=decide (byt s p=35)&&(decide (la s p=p)||isW s (p-1))
theorem en_gt {s:Bs} {p:Nat} (h:isB s p=false):p<en s p:=by rw [en_t h];have:=zgh s (p+1);omega
theorem isB_35 {s:Bs} {p:Nat} (h:byt s p=35):isB s p=false:=by unfold isB;rw [h];decide
def gpE (s:Bs) (p:Nat):Nat:=
 if h:p<s.length then (if isW s p=true∨byt s p=10 then gpE s (p+1) else if h2:gpC s p=true then gpE s (en s p) else p) else p
termination_by s.length-p
decreasing_by
 ·omega
 ·have:=en_gt (isB_35 (by simp [gpC] at h2;exact h2.1));omega
theorem gpE_w {s:Bs} {p:Nat} (h:isW s p=true∨byt s p=10):gpE s p=gpE s (p+1):=by
 have hl:p<s.length:=by
  rcases h with h | h
  ·exact ztm h
  ·exact zy h (by decide)
 rw [gpE,dif_pos hl,if_pos h]
theorem gpE_c {s:Bs} {p:Nat} (h:gpC s p=true):gpE s p=gpE s (en s p):=by
 have hb:byt s p=35:=by simp [gpC] at h;exact h.1
 have hl:=zy hb (by decide)
 have hw:¬(isW s p=true∨byt s p=10):=by unfold isW;rw [hb];decide
 rw [gpE,dif_pos hl,if_neg hw,dif_pos h]
theorem gpE_f {s:Bs} {p:Nat} (h:¬(isW s p=true∨byt s p=10)) (h2:gpC s p=false):gpE s p=p:=by
 by_cases hl:p<s.length
 ·rw [gpE,dif_pos hl,if_neg h,dif_neg (by rw [h2];simp)]
 ·rw [gpE,dif_neg hl]
theorem gpE_end {s:Bs} {p:Nat} (h:¬p<s.length):gpE s p=p:=by rw [gpE,dif_neg h]
theorem wj (s:Bs) (p:Nat):p≤gpE s p:=by
 fun_induction gpE s p with
 | case1 p h h1 ih=>omega
 | case2 p h h1 h2 ih=>have:=zgh s p;omega
 | case3 p h h1 h2=>omega
 | case4 p h=>omega
theorem qt (s:Bs) (p:Nat) (h:p≤s.length):gpE s p≤s.length:=by
 fun_induction gpE s p with
 | case1 p h h1 ih=>exact ih (by omega)
 | case2 p h0 h1 h2 ih=>exact ih (zcd s p h)
 | case3 p h h1 h2=>omega
 | case4 p h=>omega
/-- A line of white alone. -/
def lnA (s:Bs) (p:Nat):Bool:=isB s (wh s (la s p))
/-- On to a '>',or a gap. -/
def cl (s:Bs) (i:Nat):Nat:=if h:gap s i=false∧¬byt s i=62 then cl s (i+1) else i
termination_by s.length-i
decreasing_by have:=ut h.1;omega
theorem cl_t {s:Bs} {i:Nat} (h:gap s i=false∧¬byt s i=62):cl s i=cl s (i+1):=by rw [cl,dif_pos h]
theorem cl_f {s:Bs} {i:Nat} (h:¬(gap s i=false∧¬byt s i=62)):cl s i=i:=by rw [cl,dif_neg h]
theorem cl_ge (s:Bs) (i:Nat):i≤cl s i:=by
 fun_induction cl s i with
 | case1 i h ih=>omega
 | case2 i h=>omega
/-- The end of a tag. -/
def tgE (s:Bs) (p:Nat):Nat:=if byt s (p+1)=60∧byt s (cl s (p+2))=62∧p+2<cl s (p+2) then cl s (p+2)+1 else stc s p
def tgA (s:Bs) (p:Nat):Bs×Int×Bool:=if byt s p=33∧tgE s p≤p+60 then (sub s p (tgE s p),tgE s p,true) else ([],0,false)
theorem tgA_t {s:Bs} {p:Nat} (h:byt s p=33∧tgE s p≤p+60):tgA s p=(sub s p (tgE s p),(tgE s p:Int),true):=by unfold tgA;rw [if_pos h]
theorem zwk {s:Bs} {p:Nat} (h:¬(byt s p=33∧tgE s p≤p+60)):tgA s p=([],0,false):=by unfold tgA;rw [if_neg h]
theorem stc_33 {s:Bs} {p:Nat} (h:byt s p=33):p+1≤stc s p:=by
 have hl:=zy h (by decide)
 rw [stc_t ⟨by unfold gap isW isB;rw [h];decide,by rw [h];decide⟩]
 exact stc_ge s (p+1)
theorem znh {s:Bs} {p:Nat} (h:byt s p=33):p+1≤tgE s p∧tgE s p≤s.length:=by
 have hl:=zy h (by decide)
 unfold tgE
 split
 ·rename_i h2
  have:=zy h2.2.1 (by decide)
  have:=cl_ge s (p+2)
  omega
 ·exact ⟨stc_33 h,zjx s p (by omega)⟩
/-- A handle. -/
structure Hd where
 name:Bs
 pre:Bs
deriving DecidableEq
def hdz:Hd:=⟨[],[]⟩
def isWd (b:UInt8):Bool:=(decide (97≤b.toNat)&&decide (b.toNat≤122))||(decide (65≤b.toNat)&&decide (b.toNat≤90))||(decide (48≤b.toNat)&&decide (b.toNat≤57))||decide (b.toNat=45)
def nmO (s:Bs):Bool:=decide (s.length≤60∧s≠[]∧s.getD 0 0=33∧s.getD (s.length-1) 0=33)&&(sub s 1 (s.length-1)).all isWd
def hdF (name:Bs) (rest:Bs):List Hd→Bs×Bool
 | []=>if name=[33,33] then ([116,97,103,58,121,97,109,108,46,111,114,103,44,50,48,48,50,58]++rest,true) else if name=[33] then ([33]++rest,true) else ([],false)
 | h::r=>if h.name=name then (if h.pre=[] then ([],false) else (h.pre++rest,true)) else hdF name rest r
def trA (raw:Bs) (l:List Hd):Bs×Bool:=
 if raw=[]∨raw.getD 0 0≠33 then ([],false)
 else if 3<raw.length∧raw.getD 1 0=60∧raw.getD (raw.length-1) 0=62 then (sub raw 2 (raw.length-1),true)
 else if raw=[33] then ([33],true)
 else if raw.drop (lix raw 33+1).toNat=[]∨nmO (raw.take (lix raw 33+1).toNat)=false then ([],false)
 else hdF (raw.take (lix raw 33+1).toNat) (raw.drop (lix raw 33+1).toNat) l
/-- Over lines of white alone: where the next one begins,and how many;false where the text ends so. -/
def lnS (s:Bs) (a:Nat) (many:Nat):Nat×Nat×Bool:=
 if h:lnA s a=true then (if h2:a≤en s a∧en s a<s.length then lnS s (en s a+1) (many+1) else (a,many,false)) else (a,many,true)
termination_by s.length-a
decreasing_by omega
theorem lnS_t {s:Bs} {a many:Nat} (h:lnA s a=true) (h2:en s a<s.length):lnS s a many=lnS s (en s a+1) (many+1):=by rw [lnS,dif_pos h,dif_pos ⟨zgh s a,h2⟩]
theorem lnS_e {s:Bs} {a many:Nat} (h:lnA s a=true) (h2:¬en s a<s.length):lnS s a many=(a,many,false):=by rw [lnS,dif_pos h,dif_neg (fun h=>h2 h.2)]
theorem lnS_f {s:Bs} {a many:Nat} (h:lnA s a=false):lnS s a many=(a,many,true):=by rw [lnS,dif_neg (by rw [h];simp)]
theorem zyr (s:Bs) (a many:Nat) (h:a≤s.length):a≤(lnS s a many).1∧(lnS s a many).1≤s.length∧many≤(lnS s a many).2.1∧(lnS s a many).2.1+a≤many+(lnS s a many).1:=by
 fun_induction lnS s a many with
 | case1 a many h1 h2 ih=>have:=ih (by omega);omega
 | case2 a many h1 h2=>simp only;omega
 | case3 a many h1=>simp only;omega
/-- Where a plain scalar goes on. -/
def nxO (s:Bs) (a:Nat) (n:Int) (flow:Bool):Bool:=
 decide (mkA s a=0)&&(flow||decide (n<(inA s a:Int)))&&!decide (byt s (wh s a)=35)&&!decide (plE s (wh s a) flow=wh s a)
def nxA (s:Bs) (e:Nat) (n:Int) (flow:Bool):Nat×Nat×Bool:=
 if byt s (wh s e)=10∧(lnS s (wh s e+1) 0).2.2=true∧nxO s (lnS s (wh s e+1) 0).1 n flow=true then (wh s (lnS s (wh s e+1) 0).1,(lnS s (wh s e+1) 0).2.1,true) else (0,0,false)
theorem nxA_t {s:Bs} {e:Nat} {n:Int} {flow:Bool} (h:byt s (wh s e)=10∧(lnS s (wh s e+1) 0).2.2=true∧nxO s (lnS s (wh s e+1) 0).1 n flow=true):nxA s e n flow=(wh s (lnS s (wh s e+1) 0).1,(lnS s (wh s e+1) 0).2.1,true):=by unfold nxA;rw [if_pos h]
theorem nxA_f {s:Bs} {e:Nat} {n:Int} {flow:Bool} (h:¬(byt s (wh s e)=10∧(lnS s (wh s e+1) 0).2.2=true∧nxO s (lnS s (wh s e+1) 0).1 n flow=true)):nxA s e n flow=(0,0,false):=by unfold nxA;rw [if_neg h]
theorem zd3 {s:Bs} {e:Nat} {n:Int} {flow:Bool} (h:(nxA s e n flow).2.2=true):e+(nxA s e n flow).2.1+1≤(nxA s e n flow).1∧(nxA s e n flow).1≤s.length∧(nxA s e n flow).1<plE s (nxA s e n flow).1 flow:=by
 by_cases hc:byt s (wh s e)=10∧(lnS s (wh s e+1) 0).2.2=true∧nxO s (lnS s (wh s e+1) 0).1 n flow=true
 ·rw [nxA_t hc]
  have hl:=zy hc.1 (by decide)
  have h1:=zyr s (wh s e+1) 0 hl
  have h2:=vl s e
  have h3:=vl s (lnS s (wh s e+1) 0).1
  have h4:=vk s (lnS s (wh s e+1) 0).1 h1.2.1
  have h5:=plE_ge s (wh s (lnS s (wh s e+1) 0).1) flow
  have h6:¬plE s (wh s (lnS s (wh s e+1) 0).1) flow=wh s (lnS s (wh s e+1) 0).1:=by
   have:=hc.2.2
   simp only [nxO,Bool.and_eq_true,Bool.not_eq_true',decide_eq_false_iff_not] at this
   exact this.2
  simp only
  omega
 ·rw [nxA_f hc] at h;cases h
def plA (s:Bs) (e:Nat) (n:Int) (flow:Bool) (L:List Pc):Bs×Nat:=
 if h:(nxA s e n flow).2.2=true then plA s (plE s (nxA s e n flow).1 flow) n flow (L++List.replicate (nxA s e n flow).2.1 pcz++[⟨sub s (nxA s e n flow).1 (plE s (nxA s e n flow).1 flow),false⟩]) else (zdj L,e)
termination_by s.length-e
decreasing_by
 have h1:=zd3 h
 have h2:=zft s (nxA s e n flow).1 flow h1.2.1
 omega
theorem plA_t {s:Bs} {e:Nat} {n:Int} {flow:Bool} {L:List Pc} (h:(nxA s e n flow).2.2=true):plA s e n flow L=plA s (plE s (nxA s e n flow).1 flow) n flow (L++List.replicate (nxA s e n flow).2.1 pcz++[⟨sub s (nxA s e n flow).1 (plE s (nxA s e n flow).1 flow),false⟩]):=by rw [plA,dif_pos h]
theorem plA_f {s:Bs} {e:Nat} {n:Int} {flow:Bool} {L:List Pc} (h:(nxA s e n flow).2.2=false):plA s e n flow L=(zdj L,e):=by rw [plA,dif_neg (by rw [h];simp)]
def ptA (s:Bs) (p:Nat) (n:Int) (flow:Bool):Bs×Nat×Bool:=
 if pfA s p flow=true then ((plA s (plE s p flow) n flow [⟨sub s p (plE s p flow),false⟩]).1,(plA s (plE s p flow) n flow [⟨sub s p (plE s p flow),false⟩]).2,true) else ([],0,false)
end Go.Pl
namespace Go.Pl
end Go.Pl
namespace Go.Pl
theorem zwm {s:Bs} {a e:Nat} (p:UInt8→Bool) (he:e≤s.length):(sub s a e).all p=true↔∀ j,a≤j→j<e→p (s.getD j 0)=true:=by
 unfold sub
 rw [List.all_eq_true]
 constructor
 ·intro h j h1 h2
  refine h _ (List.mem_iff_getElem.2 ⟨j-a,by simp only [List.length_drop,List.length_take];omega, ?_⟩)
  simp only [List.getElem_drop,List.getElem_take,show a+(j-a)=j by omega]
  simp [List.getD,show j<s.length by omega]
 ·intro h x hx
  obtain ⟨j,hj,rfl⟩:=List.mem_iff_getElem.1 hx
  have hj2:a+j<e:=by simp only [List.length_drop,List.length_take] at hj;omega
  have:=h (a+j) (by omega) hj2
  simp only [List.getElem_drop,List.getElem_take]
  simpa [List.getD,show a+j<s.length by omega] using this
theorem hdF_drop {name rest:Bs} {l:List Hd} {i:Nat} (h:i<l.length):hdF name rest (l.drop i)=if (l.getD i hdz).name=name then (if (l.getD i hdz).pre=[] then ([],false) else ((l.getD i hdz).pre++rest,true)) else hdF name rest (l.drop (i+1)):=by
 have e:l.getD i hdz=l[i]:=by simp [List.getD,h]
 rw [List.drop_eq_getElem_cons h,e,hdF]
theorem lix_bd (s:Bs) (c:Int) : -1≤lix s c∧lix s c<s.length:=⟨zyt s c _,zys s c _⟩
end Go.Pl
namespace Go.Pl
theorem trA_a {raw:Bs} {l:List Hd} (h:raw=[]∨raw.getD 0 0≠33):trA raw l=([],false):=by unfold trA;rw [if_pos h]
theorem trA_b {raw:Bs} {l:List Hd} (hA:¬(raw=[]∨raw.getD 0 0≠33)) (h:3<raw.length∧raw.getD 1 0=60∧raw.getD (raw.length-1) 0=62):trA raw l=(sub raw 2 (raw.length-1),true):=by unfold trA;rw [if_neg hA,if_pos h]
theorem trA_c {l:List Hd}:trA [33] l=([33],true):=by unfold trA;simp
theorem trA_d {raw:Bs} {l:List Hd} (hA:¬(raw=[]∨raw.getD 0 0≠33)) (hB:¬(3<raw.length∧raw.getD 1 0=60∧raw.getD (raw.length-1) 0=62)) (hC:¬raw=[33]):trA raw l=if raw.drop (lix raw 33+1).toNat=[]∨nmO (raw.take (lix raw 33+1).toNat)=false then ([],false) else hdF (raw.take (lix raw 33+1).toNat) (raw.drop (lix raw 33+1).toNat) l:=by
 unfold trA;rw [if_neg hA,if_neg hB,if_neg hC]
end Go.Pl
namespace Go.Pl
theorem zl9:∀ n:Nat,pcW (List.replicate n pcz)=n
 | 0=>rfl
 | n+1=>by
  have:=zl9 n
  rw [List.replicate_succ]
  unfold pcW at this ⊢
  rw [List.map_cons,List.sum_cons,this]
  show 0+1+n=n+1
  omega
theorem la_nl {s:Bs} {i:Nat} (h:byt s i=10):la s (i+1)=i+1:=by unfold la;rw [if_pos h]
theorem en_10 {s:Bs} {a:Nat} (h:en s a<s.length):byt s (en s a)=10:=by
 have:=en_isB s a
 unfold isB at this
 simp only [Bool.or_eq_true,beq_iff_eq,decide_eq_true_eq] at this
 rcases this with h1 | h1
 ·exact h1
 ·have:=byt_neg.1 h1;omega
end Go.Pl
end
