/- Plain words for what the program's text functions compute. -/
import Derived.Test.YtgippllfnmdnpaaGreatDoorUAK
import Derived.Laws.Externs
import Derived.Test.YtgippllfnmdnpaaGreatDoorUAA
set_option linter.all false
section
namespace Go.Pl
abbrev Bs:=List UInt8
/-- A place brought into a text. -/
def spot (s:Bs) (p:Int):Nat:=min p.toNat s.length
theorem yh (s:Bs) (p:Int):spot s p≤s.length:=Nat.min_le_right _ _
theorem zg (s:Bs) {i:Nat} (h:i≤s.length):spot s i=i:=by unfold spot;omega
/-- The byte at a place,as a number;-1 behind the end. -/
def byt (s:Bs) (i:Nat):Int:=match s[i]? with
 | some b=>b.toNat
 | none => -1
theorem zw {s:Bs} {i:Nat} (h:i<s.length):byt s i=(s.getD i 0).toNat:=by simp [byt,List.getElem?_eq_getElem h,List.getD]
theorem qk {s:Bs} {i:Nat} (h:s.length≤i):byt s i = -1:=by simp [byt,List.getElem?_eq_none h]
theorem zac (s:Bs) (i:Nat) : -1≤byt s i∧byt s i≤255:=by
 unfold byt;split
 ·rename_i b _;have:=b.toNat_lt;omega
 ·omega
theorem z2u {s:Bs} {i:Nat}:byt s i<0↔s.length≤i:=by
 rcases Nat.lt_or_ge i s.length with h | h
 ·rw [zw h];constructor<;>intro h'<;>omega
 ·rw [qk h];constructor<;>intro h'<;>omega
def isW (s:Bs) (i:Nat):Bool:=byt s i==32||byt s i==9
def isB (s:Bs) (i:Nat):Bool:=byt s i==10||decide (byt s i<0)
theorem vo {s:Bs} {p:Int} (h:0≤p):byt s (spot s p)=byt s p.toNat:=by
 rcases Nat.lt_or_ge p.toNat s.length with h' | h'
 ·rw [show spot s p=p.toNat from by unfold spot;omega]
 ·rw [qk h',qk (by unfold spot;omega)]
def gap (s:Bs) (i:Nat):Bool:=isW s i||isB s i
theorem zqu {s:Bs} {i:Nat} (h:isW s i=true):i<s.length:=by
 rcases Nat.lt_or_ge i s.length with h' | h'
 ·exact h'
 ·simp [isW,qk h'] at h
theorem vw {s:Bs} {i:Nat} (h:isB s i=false):i<s.length:=by
 rcases Nat.lt_or_ge i s.length with h' | h'
 ·exact h'
 ·simp [isB,qk h'] at h
theorem wk {s:Bs} {i:Nat} (h:gap s i=false):i<s.length:=vw (by simp [gap] at h;exact h.2)
theorem gap_end {s:Bs} {i:Nat} (h:s.length≤i):gap s i=true:=by simp [gap,isB,qk h]
/-- Over white. -/
def wh (s:Bs) (i:Nat):Nat:=if h:isW s i=true then wh s (i+1) else i
termination_by s.length-i
decreasing_by have:=zqu h;omega
theorem wh_t {s:Bs} {i:Nat} (h:isW s i=true):wh s i=wh s (i+1):=by rw [wh,dif_pos h]
theorem wh_f {s:Bs} {i:Nat} (h:isW s i=false):wh s i=i:=by rw [wh,dif_neg (by simp [h])]
theorem jh (s:Bs) (i:Nat):i≤wh s i:=by
 fun_induction wh s i with
 | case1 i h ih=>omega
 | case2 i h=>omega
theorem jg (s:Bs) (i:Nat) (h:i≤s.length):wh s i≤s.length:=by
 fun_induction wh s i with
 | case1 i h' ih=>exact ih (zqu h')
 | case2 i h'=>exact h
theorem zyn (s:Bs) (i:Nat):isW s (wh s i)=false:=by
 fun_induction wh s i with
 | case1 i h ih=>exact ih
 | case2 i h=>simpa using h
/-- On to a break. -/
def en (s:Bs) (i:Nat):Nat:=if h:isB s i=false then en s (i+1) else i
termination_by s.length-i
decreasing_by have:=vw h;omega
theorem en_t {s:Bs} {i:Nat} (h:isB s i=false):en s i=en s (i+1):=by rw [en,dif_pos h]
theorem en_f {s:Bs} {i:Nat} (h:isB s i=true):en s i=i:=by rw [en,dif_neg (by simp [h])]
theorem zck (s:Bs) (i:Nat):i≤en s i:=by
 fun_induction en s i with
 | case1 i h ih=>omega
 | case2 i h=>omega
theorem uo (s:Bs) (i:Nat) (h:i≤s.length):en s i≤s.length:=by
 fun_induction en s i with
 | case1 i h' ih=>exact ih (vw h')
 | case2 i h'=>exact h
theorem zv9 (s:Bs) (i:Nat):isB s (en s i)=true:=by
 fun_induction en s i with
 | case1 i h ih=>exact ih
 | case2 i h=>simpa using h
theorem en_lt {s:Bs} {i q:Nat} (h1:i≤q) (h2:q<en s i):isB s q=false:=by
 fun_induction en s i with
 | case1 i hb ih=>
  rcases Nat.lt_or_ge i q with h | h
  ·exact ih h h2
  ·have:i=q:=by omega
   subst this;exact hb
 | case2 i hb=>omega
/-- On to a gap. -/
def gp (s:Bs) (i:Nat):Nat:=if h:gap s i=false then gp s (i+1) else i
termination_by s.length-i
decreasing_by have:=wk h;omega
theorem gp_t {s:Bs} {i:Nat} (h:gap s i=false):gp s i=gp s (i+1):=by rw [gp,dif_pos h]
theorem gp_f {s:Bs} {i:Nat} (h:gap s i=true):gp s i=i:=by rw [gp,dif_neg (by simp [h])]
theorem gp_ge (s:Bs) (i:Nat):i≤gp s i:=by
 fun_induction gp s i with
 | case1 i h ih=>omega
 | case2 i h=>omega
/-- A part of a text. -/
def sub (s:Bs) (a b:Nat):Bs:=(s.take b).drop a
/-- The words of a directive. -/
def zcg (s:Bs) (e:Nat) (p:Nat):List Bs:=
 let q:=wh s p
 if h:q<e∧byt s q≠35∧gap s q=false then sub s q (gp s q)::zcg s e (gp s q) else []
termination_by e-p
decreasing_by
 have h1:=jh s p;have h2:=gp_t (s:=s) (i:=wh s p) h.2.2;have h3:=gp_ge s (wh s p+1);omega
theorem zrg (s:Bs) (e:Nat):∀ (n p:Nat),e-p≤n→(zcg s e p).length≤e-p
 | n,p,hn=>by
  rw [zcg];split
  ·rename_i h;have h1:=jh s p;have h2:=gp_t (s:=s) (i:=wh s p) h.2.2;have h3:=gp_ge s (wh s p+1);cases n with
   | zero=>omega
   | succ n=>have:=zrg s e n (gp s (wh s p)) (by omega);simp only [List.length_cons];omega
  ·simp
theorem dirs_len (s:Bs) (e p:Nat):(zcg s e p).length≤e-p:=zrg s e _ p (Nat.le_refl _)
/-- The first place of a byte,or -1. -/
def idx (s:Bs) (c:UInt8):Int:=match s.findIdx? (·==c) with
 | some i=>i
 | none => -1
theorem idx_en (s:Bs) (i:Nat) (h:i≤s.length):(if idx (s.drop i) 10<0 then (s.length:Int) else i+idx (s.drop i) 10)=en s i:=by
 fun_induction en s i with
 | case1 i hb ih=>
  have hl:=vw hb;have ih:=ih (by omega);rw [←ih];have hd:s.drop i=s[i]::s.drop (i+1):=List.drop_eq_getElem_cons hl;have hne:(s[i]==(10:UInt8))=false:=by simp [isB,byt,List.getElem?_eq_getElem hl] at hb;simp;intro e;have:=congrArg UInt8.toNat e;simp at this;omega
  unfold idx;rw [hd,List.findIdx?_cons,hne];cases hf:List.findIdx? (fun x=>x==10) (s.drop (i+1)) with
  | none=>simp [hf]
  | some j=>simp [hf];omega
 | case2 i hb=>
  simp at hb;rcases Nat.lt_or_ge i s.length with hl | hl
  ·have hd:s.drop i=s[i]::s.drop (i+1):=List.drop_eq_getElem_cons hl;have hne:(s[i]==(10:UInt8))=true:=by simp [isB,byt,List.getElem?_eq_getElem hl] at hb;simp;apply UInt8.toNat_inj.1;simp;omega
   unfold idx;rw [hd,List.findIdx?_cons,hne];simp
  ·unfold idx;rw [List.drop_of_length_le hl];simp;omega
end Go.Pl
end
section
namespace Go.Vg
variable [Go.Vg.Glob]
theorem zle {α:Type} [Inhabited α] (p:α→Bool):∀ (l:List α),(List.range l.length).find? (fun i=>p l[i]!)=l.findIdx? p
 | []=>rfl
 | x::xs=>by
  rw [List.length_cons,List.range_succ_eq_map,List.find?_cons,List.findIdx?_cons];simp only [List.getElem!_cons_zero,List.find?_map];cases h:p x with
  | true=>rfl
  | false=>simp only [Bool.false_eq_true,if_false];rw [←zle p xs];congr 1
theorem zs2 (l:List UInt8) (c:UInt8):firstIdx ⟨l.toArray⟩ c=Pl.idx l c:=by
 unfold firstIdx Pl.idx;have h:(ByteArray.mk l.toArray).size=l.length:=by simp [ByteArray.size]
 have h2:(fun i=>(ByteArray.mk l.toArray)[i]! == c)=fun (i:Nat)=>(fun x:UInt8=>x==c) l[i]! := by
  funext i;simp only [getElem!_def,getElem?_def,h];by_cases hi:i<l.length
  ·simp [hi,ByteArray.getElem_eq_getElem_data]
  ·simp [hi]
 rw [h,h2];have h3:=zle (fun x:UInt8=>x==c) l;rw [h3];rfl
theorem ext_idx {P:Program} {f:FuncId} {fn:Func} (hf:P.funcs[f]?=some fn) (hname:(fn.name == "runtime.NumGoroutine")=false)
  (hb:fn.body.isNone=true) (hn:Extern.findNext fn=none) (he:Extern.find fn=some Extern.BytealgIndexByte.indexByte) (x:List UInt8×Int) :
  zom P f [.s x.1,.i .u8 x.2] (.i .i64 (Pl.idx x.1 (UInt8.ofNat x.2.toNat))):=by
 refine ⟨rfl,rfl,fun fz w vs _ hr=>?_⟩;simp only [relL,rel] at hr;obtain ⟨v,r,e,rfl,v2,r2,rfl,rfl,rfl⟩:=hr;have hvs:vs=#[.string ⟨x.1.toArray⟩,.int .u8 x.2]:=by rw [←Array.toList_inj];exact e
 subst hvs;refine ⟨.int .i64 (firstIdx ⟨x.1.toArray⟩ x.2.toNat.toUInt8), ?_, ?_⟩
 ·rw [run_callFunc_extern hf hname hb hn he,run_indexByte_string];simp only [Result.andThen_ok]
 ·simp only [rel,zs2]
noncomputable def pe_ix:PE:=peR (fun (x:List UInt8×Int)=>[.s x.1,.i .u8 x.2]) (fun _=>True) (fun x=>.i .i64 (Pl.idx x.1 (UInt8.ofNat x.2.toNat)))
theorem pe_ix_eq {s:List UInt8} {c:Int}:pe_ix [.s s,.i .u8 c]=some (True,.i .i64 (Pl.idx s (UInt8.ofNat c.toNat))):=yg (by rintro ⟨a,b⟩ ⟨c,d⟩ h;simp_all) (s,c)
theorem pe_ix_ok {P:Program} {f:FuncId} (h:∀ x:List UInt8×Int,zom P f [.s x.1,.i .u8 x.2] (.i .i64 (Pl.idx x.1 (UInt8.ofNat x.2.toNat)))):PE1 P f pe_ix:=by
 intro args q y hq hp;unfold pe_ix peR at hq;split at hq
 ·rename_i hx;simp only [Option.some.injEq,Prod.mk.injEq] at hq;obtain ⟨rfl,rfl⟩:=hq;have h1:=Classical.choose_spec hx;have:=h (Classical.choose hx);simp only at h1;rw [h1] at this;exact .inr this
 ·cases hq
end Go.Vg
end
section
namespace Go.Pl
structure Ev where
 kind:Int
 style:Int
 flag:Bool
 text:Bs
 anchor:Bs
 tag:Bs
 pos:Int
 code:Int
deriving DecidableEq
def evz:Ev:=⟨0,0,false,[],[],[],0,0⟩
def flw (b:Int):Bool:=b==44||b==91||b==93||b==123||b==125
def nmc (b:Int):Bool:=b==32||b==9||(b==10||decide (b<0))||flw b
/-- A name,or none. -/
def isNm (s:Bs):Bool:=decide (s.length≤60∧∀ j,j<s.length→nmc (s.getD j 0).toNat=false)
def evOk (e:Ev):Bool:=
 decide (1≤e.kind∧e.kind≤10) &&
 (if e.kind=3∨e.kind=4 then decide (6≤e.style∧e.style≤7) else if e.kind=5 then decide (1≤e.style∧e.style≤5) else decide (e.style=0)) &&
 (!e.flag||decide (e.kind=2∨e.kind=8))&&(decide (e.text=[])||decide (e.kind=5∨e.kind=6)) &&
 (decide (e.anchor=[]∧e.tag=[])||decide (e.kind=3∨e.kind=4∨e.kind=5)) &&
 (if e.kind=10 then decide (1≤e.code∧e.code≤99∧0≤e.pos) else
  (!decide (e.kind=6)||(!decide (e.text=[])&&isNm e.text))&&isNm e.anchor&&decide (e.tag.length≤120)&&decide (e.code=0∧e.pos=0))
end Go.Pl
namespace Go.Pl
end Go.Pl
namespace Go.Pl
end Go.Pl
namespace Go.Pl
end Go.Pl
end
section
namespace Go.Vg
variable [Go.Vg.Glob]
open Go.Pl
def evc (e:Ev):List SV:=[.i .i64 e.kind,.i .i64 e.style,.b e.flag,.s e.text,.s e.anchor,.s e.tag,.i .i64 e.pos,.i .i64 e.code]
theorem z12 {l m:List Ev}:l.map evc=m.map evc↔l=m:=zbw fun a b h=>by cases a;cases b;simpa [evc] using h
theorem zv6 (a:List Ev) (i:Nat):(a.map evc).getD i [.i .i64 0,.i .i64 0,.b false,.s [],.s [],.s [],.i .i64 0,.i .i64 0]=[.i .i64 (a.getD i evz).kind,.i .i64 (a.getD i evz).style,.b (a.getD i evz).flag,.s (a.getD i evz).text,.s (a.getD i evz).anchor,.s (a.getD i evz).tag,.i .i64 (a.getD i evz).pos,.i .i64 (a.getD i evz).code]:=uu evc a i evz
theorem zzo {a:List Ev} {i:Nat}:zu evc evz a i=[.i .i64 (a.getD i evz).kind,.i .i64 (a.getD i evz).style,.b (a.getD i evz).flag,.s (a.getD i evz).text,.s (a.getD i evz).anchor,.s (a.getD i evz).tag,.i .i64 (a.getD i evz).pos,.i .i64 (a.getD i evz).code]:=id rfl
theorem zzk {μ:Nat→Nat} {r:Bool} {sz n:Nat} {a:List Ev}:SO.mapH μ (.row r sz n (zu evc evz a))=.row r sz n (zu evc evz a):=rowH fun _=>rfl
theorem evEta (e:Ev):(⟨e.kind,e.style,e.flag,e.text,e.anchor,e.tag,e.pos,e.code⟩:Ev)=e:=id rfl
theorem XRE:type_of% (ai (ai @zv6 @zzo) (ai @zzk @evEta)):=ai (ai @zv6 @zzo) (ai @zzk @evEta)
/-- A row that is filled place after place. -/
theorem zza {μ:Nat→Nat} {α:Type} {enc:α→List SV} {z:α} {xs:List α} {sz n i:Nat} {f:Nat→List SV} (hp:∀ x,plainL (enc x)=true) (hi:i<xs.length)
  (hf:∀ j,j<n→f j=if j=i then enc (xs.getD i z) else zu enc z (xs.take i) j) :
  soLe μ (.row false sz n (zu enc z (xs.take (i+1)))) (.row false sz n f):=by
 refine yi fun j hj=>?_;rw [hf j hj];unfold zu;rw [qx (hp _)];have e1:(xs.take (i+1)).getD j z=if j<i+1 then xs.getD j z else z:=by simp only [List.getD_eq_getElem?_getD,List.getElem?_take];split<;>rfl
 have e2:(xs.take i).getD j z=if j<i then xs.getD j z else z:=by simp only [List.getD_eq_getElem?_getD,List.getElem?_take];split<;>rfl
 rw [e1,e2];by_cases h1:j=i
 ·subst h1;rw [if_pos (by omega),if_pos rfl]
 ·rw [if_neg h1];by_cases h2:j<i
  ·rw [if_pos (by omega),if_pos h2]
  ·rw [if_neg (by omega),if_neg h2]
end Go.Vg
end
section
namespace Go.Vg
variable [Go.Vg.Glob]
open Go.RowKit
-- Values that look at no frozen memory.
mutual
def SV.nf:SV→Bool
 | .agg l=>nfL l
 | .tup l=>nfL l
 | .gd _ x=>SV.nf x
 | .fs _ _=>false
 | .fp _ _=>false
 | _=>true
def nfL:List SV→Bool
 | []=>true
 | x::xs=>SV.nf x&&nfL xs
end
mutual
theorem zut {σ σ':Asg} (hl:∀ h,σ' h=σ h):∀ {x:SV} {v:Value},x.nf=true→rel σ x v→rel σ' x v
 | .b _,_,_,r=>by simpa [rel] using r
 | .i _ _,_,_,r=>by simpa [rel] using r
 | .s _,_,_,r=>by simpa [rel] using r
 | .nils,_,_,r=>by simpa [rel] using r
 | .fn _,_,_,r=>by simpa [rel] using r
 | .u,_,_,r=>by simp [rel]
 | .ptr _ _ _,_,_,r=>by simpa [rel,hl] using r
 | .slc _ _ _,_,_,r=>by simpa [rel,hl] using r
 | .mp _,_,_,r=>by simpa [rel,hl] using r
 | .fs _ _,_,h,_=>by simp [SV.nf] at h
 | .fp _ _,_,h,_=>by simp [SV.nf] at h
 | .agg l,_,h,r=>by
  simp only [rel,SV.nf] at r h ⊢;obtain ⟨cs,e,r⟩:=r;exact ⟨cs,e,zsa hl h r⟩
 | .tup l,_,h,r=>by
  simp only [rel,SV.nf] at r h ⊢;obtain ⟨cs,e,r⟩:=r;exact ⟨cs,e,zsa hl h r⟩
 | .gd _ x,_,h,r=>by simp only [rel,SV.nf] at r h ⊢;exact ⟨fun g=>zut hl h (r.1 g),r.2⟩
theorem zsa {σ σ':Asg} (hl:∀ h,σ' h=σ h):∀ {x:List SV} {v:List Value},nfL x=true→relL σ x v→relL σ' x v
 | [],_,_,r=>by simpa [relL] using r
 | _::_,_,h,r=>by simp only [relL,nfL,Bool.and_eq_true] at r h ⊢;obtain ⟨v,q,e,r1,r2⟩:=r;exact ⟨v,q,e,zut hl h.1 r1,zsa hl h.2 r2⟩
end
theorem nfL_getD {l:List SV} (h:nfL l=true) (k:Nat):(l.getD k .u).nf=true:=by
 induction l generalizing k with
 | nil=>rfl
 | cons x xs ih=>
  simp only [nfL,Bool.and_eq_true] at h;cases k with
  | zero=>exact h.1
  | succ k=>exact ih h.2 k
/-- An object whose elements look at no frozen memory. -/
def nfO (o:SO):Prop:=∀ i,i<o.n→nfL (o.el i)=true
theorem zmv {σ σ':Asg}:∀ {ps:List (SV×SV)} {es:List MapEntry},(∀ p∈ps,p.1.bit=true∧p.2.bit=true)→qo σ ps es→qo σ' ps es
 | [],_,_,h=>h
 | p::ps,es,hp,h=>by simp only [qo] at h ⊢;obtain ⟨e,r,h1,h2,h3,h4⟩:=h;have:=hp p (by simp);exact ⟨e,r,h1,zbe this.1 h2,zbe this.2 h3,zmv (fun q hq=>hp q (by simp [hq])) h4⟩
theorem z0s {σ σ':Asg} (hl:∀ h,σ' h=σ h) {w:World} {h:Nat} {o:SO} (hn:nfO o) (hs:qc σ w h o):qc σ' w h o:=by
 unfold qc at hs ⊢;split
 ·rename_i hm;rw [hm] at hs;simp only at hs;obtain ⟨L,es,ck,h1,h2,h3⟩:=hs;refine ⟨L,es,ck,by rw [hl];exact h1,h2,zmv ?_ h3⟩;intro p hp;cases o with
  | row=>simp [SO.isMap] at hm
  | blk=>simp [SO.isMap] at hm
  | mapS l=>simp only [SO.ents,List.mem_map] at hp;obtain ⟨q,_,rfl⟩:=hp;exact ⟨rfl,rfl⟩
  | mapI l=>simp only [SO.ents,List.mem_map] at hp;obtain ⟨q,_,rfl⟩:=hp;exact ⟨rfl,rfl⟩
 ·rename_i hm;rw [hm] at hs;simp only at hs;rcases hs with ⟨h1,h2⟩ | ⟨L,c,e,fr,h1,h2⟩
  ·exact .inl ⟨h1,by rw [hl];exact h2⟩
  ·refine .inr ⟨L,c,e,fr,by rw [hl];exact h1,h2.heap,h2.lsz,h2.room,h2.fits,fun i k hi hk=>?_,h2.free⟩;obtain ⟨v,hv,hr⟩:=h2.cell i k hi hk;exact ⟨v,hv,zut hl (nfL_getD (hn i hi) k) hr⟩
/-- A call that is lent rows of the caller's own: what it makes stands behind the caller's own. -/
theorem yp.lend {P:Program} {f:FuncId} {args0:List SV} {Z:SV} {C:Ctx} (hF:FnK P f 0 args0 [] fun z c=>z=Z∧c=C) {args:List SV} {kk:Nat} {st:St} {K:Sl (SV×St)}
  (hargs:vn st.ctx args=args0) (hp:plainL args0=true) (hok:jx st.ctx args) (hZ:Z.nf=true) (hC:∀ h o,C.at h=some o→nfO o)
  (hK:K.f (Z.mapH (fun h=>st.ctx.length+h),⟨st.env,st.ctx++C.map fun o=>o.map (SO.mapH fun h=>st.ctx.length+h)⟩)):yp P f args kk st K:=by
 refine ⟨hF.1,fun A σ a w vs hAk hgr hR hvs=>?_⟩;subst hargs;have hsat0:Sat (⟨fun _=>none,fun b=>w.heap[b]?⟩:Asg) w []:=by
  refine ⟨fun h o e=>?_,fun h h' o o' L L' _ e=>?_,fun _ _=>rfl,fun h L e=>?_,fun _ _ h=>h,fun h o L e=>?_,fun b o h=>hR.sat.frz b o (hR.sat.glb b o h)⟩
  ·simp [Ctx.at] at e
  ·simp [Ctx.at] at e
  ·cases e
  ·simp [Ctx.at] at e
 refine (hF.2 w ⟨fun _=>none,fun b=>w.heap[b]?⟩ vs hsat0 (zce hR.sat hok hp hvs)).mono fun e w' ⟨v,z,c,σ',e1,⟨ez,ec⟩,p⟩=>?_;subst ez ec;generalize hn:st.ctx.length=n at *;generalize hσ:(⟨fun h=>if h<n then σ h else σ' (h-n),σ.fz⟩:Asg)=σ2;have nrw:∀ b,¬rwB [] (⟨fun _=>none,fun b=>w.heap[b]?⟩:Asg) b:=by rintro b ⟨h,o,L,e,_⟩;simp [Ctx.at] at e
 have hold:∀ h,h<n→σ2 h=σ h:=fun h hh=>by subst hσ;simp [hh]
 have hnew:∀ h,σ2 (n+h)=σ' h:=fun h=>by subst hσ;show (if n+h<n then σ (n+h) else σ' (n+h-n))=σ' h;rw [if_neg (by omega),Nat.add_sub_cancel_left]
 have hfz:σ2.fz=σ.fz:=by subst hσ;rfl
 have hle:leA σ σ2:=by
  refine ⟨fun h L e=>?_,fun b o e=>by rw [hfz];exact e⟩;rcases Nat.lt_or_ge h n with h1 | h1
  ·rw [hold h h1];exact e
  ·rw [hR.sat.beyond h (by omega)] at e;cases e
 have hblk:∀ b,b<w.heap.size→w'.heap[b]?=w.heap[b]?:=fun b hb=>p.fr.block b hb (nrw b);have ownN:∀ h o L,z.nf=true→c.at h=some o→σ' h=some L→w.heap.size≤L.b:=by
  intro h o L _ e s;rcases p.own h o L e (p.new h o (Nat.zero_le _) e) s with h1 | h1
  ·exact absurd h1 (nrw _)
  ·exact h1
 have atN:∀ h o,Ctx.at (st.ctx++c.map fun o=>o.map (SO.mapH fun h=>n+h)) h=some o→(h<n∧st.ctx.at h=some o)∨(∃ i o1,h=n+i∧c.at i=some o1∧o=o1.mapH fun h=>n+h):=by
  intro h o e;simp only [Ctx.at,List.getD_eq_getElem?_getD] at e ⊢;rcases Nat.lt_or_ge h n with h1 | h1
  ·rw [List.getElem?_append_left (by omega)] at e;exact .inl ⟨h1,e⟩
  ·rw [List.getElem?_append_right (by omega),List.getElem?_map,hn] at e;right;cases hx:c[h-n]? with
   | none=>rw [hx] at e;simp at e
   | some x=>
    rw [hx] at e;cases x with
    | none=>simp at e
    | some o1=>simp only [Option.map_some,Option.getD_some,Option.some.injEq] at e;exact ⟨h-n,o1,by omega,by rw [hx];rfl,e.symm⟩
 have clen:(st.ctx++c.map fun o=>o.map (SO.mapH fun h=>n+h)).length=n+c.length:=by simp [hn]
 refine ⟨v,z.mapH fun h=>n+h,_,σ2,e1,hK, ?_,hR.defers,hR.size,fun t=>jo hle (hR.env t),⟨fun h o e=>?_,fun h h' o o' L L' hne e e' ho s s'=>?_,fun h hh=>?_,fun h L s=>?_,fun b o e=>?_,fun h o L e ho s=>?_,fun b o h=>(by rw [←hσ];exact hR.sat.glb b o h)⟩, ?_,fun h o L e ho s=>?_,⟨fun h hh=>?_,fun b o e=>?_,fun b o e=>?_⟩, ?_⟩
 ·rw [v7];exact zut (fun h=>hnew h) hZ p.val
 ·rcases atN h o e with ⟨h1,h2⟩ | ⟨i,o1,rfl,h2,rfl⟩
  ·exact jj hle (hold h h1) (fun L hL=>hblk _ (hR.sat.inHeap h L hL)) (hR.sat.obj h o h2)
  ·exact zqd (σ:=σ2) (σ0:=⟨σ'.loc,σ.fz⟩) (μ:=fun h=>n+h) (fun h=>hnew h) hfz.symm (z0s (σ:=σ') (σ':=⟨σ'.loc,σ.fz⟩) (fun _=>rfl) (hC i o1 h2) (p.sat.obj i o1 h2))
 ·rcases atN h o e with ⟨h1,h2⟩ | ⟨i,o1,rfl,h2,rfl⟩<;>rcases atN h' o' e' with ⟨h3,h4⟩ | ⟨j,o2,rfl,h4,rfl⟩
  ·rw [hold h h1] at s;rw [hold h' h3] at s';exact hR.sat.apart h h' o o' L L' hne h2 h4 ho s s'
  ·rw [hold h h1] at s;rw [hnew j] at s';have:=hR.sat.inHeap h L s;have:=ownN j o2 L' hZ h4 s';omega
  ·rw [hnew i] at s;rw [hold h' h3] at s';have:=hR.sat.inHeap h' L' s';have:=ownN i o1 L hZ h2 s;omega
  ·rw [hnew i] at s;rw [hnew j] at s';exact p.sat.apart i j o1 o2 L L' (by omega) h2 h4 (p.new i o1 (Nat.zero_le _) h2) s s'
 ·rw [clen] at hh;obtain ⟨i,rfl⟩:∃ i,h=n+i:=⟨h-n,by omega⟩
  rw [hnew];exact p.sat.beyond i (by omega)
 ·rcases Nat.lt_or_ge h n with h1 | h1
  ·rw [hold h h1] at s;have:=hR.sat.inHeap h L s;have:=p.fr.size;omega
  ·obtain ⟨i,rfl⟩:∃ i,h=n+i:=⟨h-n,by omega⟩
   rw [hnew] at s;exact p.sat.inHeap i L s
 ·rw [hfz] at e;have h1:=hR.sat.frz b o e;have hb:b<w.heap.size:=by
   rcases Nat.lt_or_ge b w.heap.size with h | h
   ·exact h
   ·rw [Array.getElem?_eq_none h] at h1;cases h1
  rw [hblk b hb];exact h1
 ·rw [hfz];rcases atN h o e with ⟨h1,h2⟩ | ⟨i,o1,rfl,h2,rfl⟩
  ·rw [hold h h1] at s;exact hR.sat.frzA h o L h2 ho s
  ·rw [hnew i] at s;have hb:=ownN i o1 L hZ h2 s;cases hx:σ.fz L.b with
   | none=>rfl
   | some q=>have h1:=hR.sat.frz _ _ hx;rw [Array.getElem?_eq_none hb] at h1;cases h1
 ·exact hR.fr.step p.fr fun x _ hx=>absurd hx (nrw x)
 ·rcases atN h o e with ⟨h1,h2⟩ | ⟨i,o1,rfl,h2,rfl⟩
  ·rw [hold h h1] at s;exact hR.own h o L h2 ho s
  ·rw [hnew i] at s;have:=ownN i o1 L hZ h2 s;have:=hR.fr.size;exact .inr (by omega)
 ·have:=hR.klen;rw [hold h (by omega)];exact hR.base.loc h hh
 ·rw [hfz];exact hR.base.fzb b o e
 ·rw [hfz] at e;exact hR.base.fzn b o e
 ·have:=hR.klen;show A.k≤(st.ctx++c.map fun o=>o.map (SO.mapH fun h=>n+h)).length;rw [clen];omega
end Go.Vg
namespace Go.Vg
variable [Go.Vg.Glob]
theorem zsp {α:Type} {enc:α→List SV} {z:α} {xs:List α} {r:Bool} {sz n:Nat} (h:∀ x,nfL (enc x)=true):∀ k o,Ctx.at [some (.row r sz n (zu enc z xs))] k=some o→nfO o:=by
 intro k o e;cases k with
 | zero=>
  rw [zq] at e;cases e;intro i hi;exact h _
 | succ k=>rw [zo] at e;simp [Ctx.at] at e
end Go.Vg
namespace Go.Vg
variable [Go.Vg.Glob]
open Go.Pl
def idI (k:Int):Int:=k
def evm (k:Int):Ev:=⟨k,k+1,decide ((k+2).tmod 3=0),mtx (k+3),mtx (k+4),mtx (k+5),k+6,k+7⟩
end Go.Vg
end
section
namespace Go.Pl
end Go.Pl
namespace Go.Pl
theorem zv4 {α:Type} {z:α} {l:List α} {i:Nat} (h:i<l.length):l.getD i z∈l:=by simp [List.getD,h]
theorem zy3 {α:Type} (z:α) {l:List α} {i:Nat} (h:i<l.length):l.take (i+1)=l.take i++[l.getD i z]:=by rw [List.take_succ_eq_append_getElem h];simp [List.getD,h]
end Go.Pl
namespace Go.Pl
end Go.Pl
namespace Go.Pl
end Go.Pl
end
section
namespace Go.Pl
structure Sg where
 kind:Int
 n:Int
 text:Bs
deriving DecidableEq
/-- A deep step behind a deep step left out. -/
def once:List Sg→Bool→List Sg
 | [],_=>[]
 | s::p,b=>if b&&decide (s.kind=5) then once p b else s::once p (decide (s.kind=5))
end Go.Pl
namespace Go.Pl
end Go.Pl
namespace Go.Pl
end Go.Pl
namespace Go.Pl
end Go.Pl
namespace Go.Pl
end Go.Pl
end
section
namespace Go.Vg
variable [Go.Vg.Glob]
open Go.Pl
end Go.Vg
namespace Go.Vg
variable [Go.Vg.Glob]
end Go.Vg
namespace Go.Vg
variable [Go.Vg.Glob]
open Go.Pl
end Go.Vg
end
section
namespace Go.Pl
/-- The last place of a byte,or -1. -/
def lixU (s:Bs) (c:Int):Nat→Int
 | 0 => -1
 | i+1=>if ((s.getD i 0).toNat:Int)=c then (i:Int) else lixU s c i
def lix (s:Bs) (c:Int):Int:=lixU s c s.length
theorem z1l (s:Bs) (c:Int):∀ i,-1≤lixU s c i
 | 0=>by simp [lixU]
 | i+1=>by unfold lixU;split;omega;exact z1l s c i
theorem z1k (s:Bs) (c:Int):∀ i,lixU s c i<i
 | 0=>by simp [lixU]
 | i+1=>by unfold lixU;split;omega;have:=z1k s c i;omega
/-- The beginning of a line. -/
def la (s:Bs):Nat→Nat
 | 0=>0
 | i+1=>if byt s i=10 then i+1 else la s i
theorem zfq (s:Bs):∀ i,la s i≤i
 | 0=>Nat.le_refl _
 | i+1=>by unfold la;split;omega;have:=zfq s i;omega
theorem lix_take {s:Bs} {p:Nat} (h:p≤s.length):lix (s.take p) 10+1=la s p:=by
 have h1:∀ i,i≤p→lixU (s.take p) 10 i+1=la s i:=by
  intro i
  induction i with
  | zero=>intro _;rfl
  | succ i ih=>
   intro hi;have e:(s.take p).getD i 0=s.getD i 0:=by simp only [List.getD_eq_getElem?_getD,List.getElem?_take];rw [if_pos (by omega)]
   unfold lixU la;rw [e,zw (by omega)];split
   ·rfl
   ·exact ih (by omega)
 unfold lix;rw [List.length_take,Nat.min_eq_left h];exact h1 p (Nat.le_refl _)
theorem la_t {s:Bs} {i:Nat} (h:i<s.length) (hb:(s.getD i 0).toNat=10):la s (i+1)=i+1:=by unfold la;rw [zw h,if_pos (by omega)]
theorem la_f {s:Bs} {i:Nat} (h:i<s.length) (hb:(s.getD i 0).toNat≠10):la s (i+1)=la s i:=by
 conv=>lhs;unfold la
 rw [zw h,if_neg (by omega)]
/-- A mark: 1,2,or 0 where there is none. -/
def mkA (s:Bs) (p:Nat):Int:=
 if la s p=p∧p+3≤s.length∧gap s (p+3)=true then (if sub s p (p+3)=[45,45,45] then 1 else if sub s p (p+3)=[46,46,46] then 2 else 0) else 0
theorem mkA_range (s:Bs) (p:Nat):mkA s p=0∨mkA s p=1∨mkA s p=2:=by unfold mkA;repeat' split<;>simp_all
theorem zss {s:Bs} {p:Nat} (h:¬(la s p=p∧p+3≤s.length∧gap s (p+3)=true)):mkA s p=0:=by unfold mkA;rw [if_neg h]
/-- The end of a stretch. -/
def stc (s:Bs) (i:Nat):Nat:=if h:gap s i=false∧flw (byt s i)=false then stc s (i+1) else i
termination_by s.length-i
decreasing_by have:=wk h.1;omega
theorem stc_t {s:Bs} {i:Nat} (h:gap s i=false∧flw (byt s i)=false):stc s i=stc s (i+1):=by rw [stc,dif_pos h]
theorem stc_f {s:Bs} {i:Nat} (h:¬(gap s i=false∧flw (byt s i)=false)):stc s i=i:=by rw [stc,dif_neg h]
theorem zy7 (s:Bs) (i:Nat):i≤stc s i:=by
 fun_induction stc s i with
 | case1 i h ih=>omega
 | case2 i h=>omega
theorem zhw (s:Bs) (i:Nat) (h:i≤s.length):stc s i≤s.length:=by
 fun_induction stc s i with
 | case1 i h' ih=>exact ih (wk h'.1)
 | case2 i h'=>exact h
/-- A name behind its sign. -/
def nmA (s:Bs) (p:Nat):Bs×Int×Bool:=
 if (byt s p=38∨byt s p=42)∧p+2≤stc s (p+1)∧stc s (p+1)≤p+61 then (sub s (p+1) (stc s (p+1)),stc s (p+1),true) else ([],0,false)
structure Pc where
 text:Bs
 glue:Bool
deriving DecidableEq
def pcz:Pc:=⟨[],false⟩
/-- Pieces behind the first one,with so many breaks to be told. -/
def zb2 (glue:Bool) (n:Nat):List Pc→Bs
 | []=>[]
 | x::r=>if x.text=[]∧x.glue=false∧r≠[] then zb2 glue (n+1) r
  else (if 0<n then List.replicate n 10 else if glue then [] else [32])++(x.text++zb2 x.glue 0 r)
def zb1:List Pc→Bs
 | []=>[]
 | x::r=>x.text++zb2 x.glue 0 r
def pcW (l:List Pc):Nat:=(l.map fun x=>x.text.length+1).sum
theorem ko (l m:List Pc):pcW (l++m)=pcW l+pcW m:=by simp [pcW]
theorem zn1 {l:List Pc} {i:Nat} (h:i<l.length):pcW (l.drop i)=(l.getD i pcz).text.length+1+pcW (l.drop (i+1)):=by
 have e:l.getD i pcz=l[i]:=by simp [List.getD,h]
 rw [List.drop_eq_getElem_cons h,e];unfold pcW;rw [List.map_cons,List.sum_cons]
theorem zej (l:List Pc):l.length≤pcW l:=by
 induction l with
 | nil=>simp
 | cons x r ih=>
  have hw:pcW (x::r)=x.text.length+1+pcW r:=by simp [pcW]
  simp only [List.length_cons];omega
/-- The first byte of a plain scalar. -/
def pfL:Bs:=[44,91,93,123,125,35,38,42,33,124,62,39,34,37,64,96]
def pfA (s:Bs) (p:Nat) (flow:Bool):Bool:=
 !gap s p&&!decide (s.getD p 0∈pfL)&&(!(decide (byt s p=45)||decide (byt s p=63)||decide (byt s p=58))||(!gap s (p+1)&&!(flow&&flw (byt s (p+1)))))
/-- What ends a plain scalar of a line. -/
def peX (s:Bs) (p:Nat) (flow:Bool) (q:Nat):Bool:=
 (decide (byt s q=35)&&decide (p<q)&&isW s (q-1))||(decide (byt s q=58)&&(gap s (q+1)||(flow&&flw (byt s (q+1)))))||(flow&&flw (byt s q))
def pe1 (s:Bs) (p:Nat) (flow:Bool) (q:Nat):Nat:=if h:isB s q=false∧peX s p flow q=false then pe1 s p flow (q+1) else q
termination_by s.length-q
decreasing_by have:=vw h.1;omega
theorem pe1_t {s:Bs} {p:Nat} {flow:Bool} {q:Nat} (h:isB s q=false∧peX s p flow q=false):pe1 s p flow q=pe1 s p flow (q+1):=by rw [pe1,dif_pos h]
theorem z0p {s:Bs} {p:Nat} {flow:Bool} {q:Nat} (h:¬(isB s q=false∧peX s p flow q=false)):pe1 s p flow q=q:=by rw [pe1,dif_neg h]
theorem pe1_ge (s:Bs) (p:Nat) (flow:Bool) (q:Nat):q≤pe1 s p flow q:=by
 fun_induction pe1 s p flow q with
 | case1 i h ih=>omega
 | case2 i h=>omega
theorem pe1_le (s:Bs) (p:Nat) (flow:Bool) (q:Nat) (h:q≤s.length):pe1 s p flow q≤s.length:=by
 fun_induction pe1 s p flow q with
 | case1 i h' ih=>exact ih (vw h'.1)
 | case2 i h'=>exact h
/-- Back over white. -/
def bkW (s:Bs) (p:Nat):Nat→Nat
 | 0=>0
 | q+1=>if p<q+1∧isW s q=true then bkW s p q else q+1
theorem bkW_le (s:Bs) (p:Nat):∀ q,bkW s p q≤q
 | 0=>Nat.le_refl _
 | q+1=>by unfold bkW;split;have:=bkW_le s p q;omega;omega
theorem bkW_ge (s:Bs) (p:Nat):∀ q,p≤q→p≤bkW s p q
 | 0,h=>h
 | q+1,h=>by unfold bkW;split;rename_i h1;exact bkW_ge s p q (by omega);exact h
theorem z2y {s:Bs} {p q:Nat} (h0:p<q) (h:isW s (q-1)=true):bkW s p q=bkW s p (q-1):=by
 cases q with
 | zero=>omega
 | succ q=>
       conv=>lhs;unfold bkW
       rw [if_pos ⟨h0,by simpa using h⟩];rfl
theorem z2z {s:Bs} {p q:Nat} (h:¬(p<q∧isW s (q-1)=true)):bkW s p q=q:=by
 cases q with
 | zero=>rfl
 | succ q=>unfold bkW;rw [if_neg (by simpa using h)]
def plE (s:Bs) (p:Nat) (flow:Bool):Nat:=bkW s p (pe1 s p flow p)
theorem zuz (s:Bs) (p:Nat) (flow:Bool):p≤plE s p flow:=bkW_ge s p _ (pe1_ge s p flow p)
theorem zf9 (s:Bs) (p:Nat) (flow:Bool) (h:p≤s.length):plE s p flow≤s.length:=Nat.le_trans (bkW_le s p _) (pe1_le s p flow p h)
/-- A rune's bytes. -/
def rnB (r:Int):Bs:=
 if r<0∨1114111<r∨(55296≤r∧r≤57343) then []
 else if r<128 then [UInt8.ofNat r.toNat]
 else if r<2048 then [UInt8.ofNat (192+r.toNat / 64),UInt8.ofNat (128+r.toNat % 64)]
 else if r<65536 then [UInt8.ofNat (224+r.toNat / 4096),UInt8.ofNat (128+r.toNat / 64 % 64),UInt8.ofNat (128+r.toNat % 64)]
 else [UInt8.ofNat (240+r.toNat / 262144),UInt8.ofNat (128+r.toNat / 4096 % 64),UInt8.ofNat (128+r.toNat / 64 % 64),UInt8.ofNat (128+r.toNat % 64)]
theorem zzs (r:Int):(rnB r).length≤4:=by unfold rnB;split;simp;split;simp;split;simp;split<;>simp
/-- A digit of 16,or -1. -/
def hxD (b:Int):Int:=if 48≤b∧b≤57 then b-48 else if 97≤b∧b≤102 then b-97+10 else if 65≤b∧b≤70 then b-65+10 else -1
/-- So many digits of 16 from a place on,behind a number;-1 where one is none. -/
def hxV (s:Bs) (p:Nat):Nat→Int→Int
 | 0,a=>a
 | n+1,a=>if hxD (byt s p)<0 then -1 else hxV s (p+1) n (16 * a+hxD (byt s p))
/-- The number of an escape of one byte,or -1. -/
def shL:List (Int×Int):=[(48,0),(97,7),(98,8),(116,9),(9,9),(110,10),(118,11),(102,12),(114,13),(101,27),(32,32),(34,34),(47,47),(92,92),(78,133),(95,160),(76,8232),(80,8233)]
def shE (b:Int):Int:=match shL.find? (fun p=>p.1==b) with
 | some p=>p.2
 | none => -1
theorem zuc {b:Int} (h:∀ p∈shL,p.1≠b):shE b = -1:=by
 have:shL.find? (fun p=>p.1==b)=none:=List.find?_eq_none.2 fun p hp=>by simpa using h p hp
 unfold shE;rw [this]
theorem shE_at {b:Int} {i:Nat} (hi:i<18) (h1:(shL.getD i (0,0)).1=b) (h2:∀ j,j<i→(shL.getD j (0,0)).1≠b):shE b=(shL.getD i (0,0)).2:=by
 have hl:∀ j,j<18→∃ h:j<shL.length,shL.getD j (0,0)=shL[j]:=fun j hj=>⟨hj,by simp [List.getD,show j<shL.length from hj];rfl⟩
 obtain ⟨hi',e⟩:=hl i hi;have:shL.find? (fun p=>p.1==b)=some shL[i]:=List.find?_eq_some_iff_getElem.2 ⟨by rw [←e];simpa using h1,i,hi',rfl,fun j hj=>by obtain ⟨hj',e2⟩:=hl j (by omega);have:=h2 j hj;rw [e2] at this;simpa using this⟩
 unfold shE;rw [this,e]
theorem zzb {b:Int} (h:b≠48∧b≠97∧b≠98∧b≠116∧b≠9∧b≠110∧b≠118∧b≠102∧b≠114∧b≠101∧b≠32∧b≠34∧b≠47∧b≠92∧b≠78∧b≠95∧b≠76∧b≠80):shE b = -1:=by apply zuc;intro p hp;simp only [shL,List.mem_cons,List.not_mem_nil,or_false] at hp;rcases hp with rfl | rfl | rfl | rfl | rfl | rfl | rfl | rfl | rfl | rfl | rfl | rfl | rfl | rfl | rfl | rfl | rfl | rfl<;>simp only<;>omega
def hxN (b:Int):Nat:=if b=120 then 2 else if b=117 then 4 else if b=85 then 8 else 0
/-- An escape: its text,and the place behind it (0 where there is none). -/
def esA (s:Bs) (p:Nat):Bs×Nat:=
 if byt s p=92∧p+1<s.length then
  (if 0≤shE (byt s (p+1)) then (rnB (shE (byt s (p+1))),p+2)
   else if hxN (byt s (p+1))=0∨rnB (hxV s (p+2) (hxN (byt s (p+1))) 0)=[] then ([],0)
   else (rnB (hxV s (p+2) (hxN (byt s (p+1))) 0),p+2+hxN (byt s (p+1))))
 else ([],0)
/-- White taken off an end,but not below a length. -/
def cutK (k:Nat):Nat→Bs→Bs
 | 0,b=>b
 | n+1,b=>if k<b.length∧(b.getD (b.length-1) 0=32∨b.getD (b.length-1) 0=9) then cutK k n (b.take (b.length-1)) else b
def uq (k:Nat) (b:Bs):Bs:=cutK k b.length b
end Go.Pl
namespace Go.Pl
theorem nmA_t {s:Bs} {p:Nat} (h:(byt s p=38∨byt s p=42)∧p+2≤stc s (p+1)∧stc s (p+1)≤p+61):nmA s p=(sub s (p+1) (stc s (p+1)),(stc s (p+1):Int),true):=by unfold nmA;rw [if_pos h]
theorem z05 {s:Bs} {p:Nat} (h:¬((byt s p=38∨byt s p=42)∧p+2≤stc s (p+1)∧stc s (p+1)≤p+61)):nmA s p=([],0,false):=by unfold nmA;rw [if_neg h]
theorem idx_ge (c:UInt8):∀ l:Bs,decide (idx l c≥0)=decide (c∈l):=by
 intro l;unfold idx;cases h:l.findIdx? (·==c) with
 | none=>
  have:=List.findIdx?_eq_none_iff.1 h;have h2:¬c∈l:=fun hc=>by simpa using this c hc
  simp [h2]
 | some i=>
  have:=List.findIdx?_eq_some_iff_getElem.1 h;obtain ⟨hi,h1,_⟩:=this;have h2:c∈l:=by
   have e:l[i]=c:=by simpa using h1
   rw [←e];exact List.getElem_mem hi
  simp [h2]
end Go.Pl
namespace Go.Pl
theorem zse {s:Bs} {p:Nat} {fl:Bool} (h:gap s p=true):pfA s p fl=false:=by unfold pfA;rw [h];rfl
theorem pfA_no {s:Bs} {p:Nat} {fl:Bool} (h:s.getD p 0∈pfL):pfA s p fl=false:=by unfold pfA;rw [decide_eq_true h];simp
theorem zu0 {s:Bs} {p:Nat} {fl:Bool} (hg:gap s p=false) (h:¬s.getD p 0∈pfL) (hb:byt s p=45∨byt s p=63∨byt s p=58):pfA s p fl=(!gap s (p+1)&&!(fl&&flw (byt s (p+1)))):=by
 unfold pfA;rw [hg,decide_eq_false h];have:(decide (byt s p=45)||decide (byt s p=63)||decide (byt s p=58))=true:=by rcases hb with h | h | h<;>simp [h]
 rw [this];simp
theorem zz6 {s:Bs} {p:Nat} {fl:Bool} (hg:gap s p=false) (h:¬s.getD p 0∈pfL) (hb:¬(byt s p=45∨byt s p=63∨byt s p=58)):pfA s p fl=true:=by
 unfold pfA;rw [hg,decide_eq_false h];have:(decide (byt s p=45)||decide (byt s p=63)||decide (byt s p=58))=false:=by simp at hb;simp [hb]
 rw [this];simp
theorem xp {c:UInt8} {n:Nat} (hn:n<256):((c.toNat:Int)=n)=(c=UInt8.ofNat n):=by
 apply propext;constructor
 ·intro h;apply UInt8.toNat_inj.1;rw [UInt8.toNat_ofNat_of_lt' (by simpa using hn)];omega
 ·rintro rfl;rw [UInt8.toNat_ofNat_of_lt' (by simpa using hn)]
theorem u8_of (c:UInt8):UInt8.ofNat c.toNat=c:=by simp
theorem pfL_mem (c:UInt8):(decide ((c.toNat:Int)=64)||decide ((c.toNat:Int)=96)||decide (c∈[44,91,93,123,125,35,38,42,33,124,62,39,34,37]))=decide (c∈pfL):=by
 have h1:=xp (c:=c) (n:=64) (by decide);have h2:=xp (c:=c) (n:=96) (by decide);simp only [Int.cast_ofNat_Int] at h1 h2;rw [Bool.eq_iff_iff];simp only [Bool.or_eq_true,decide_eq_true_eq,h1,h2,pfL,List.mem_cons,List.not_mem_nil,or_false];constructor
 ·rintro ((h | h) | h)
  ·simp [h]
  ·simp [h]
  ·rcases h with h | h | h | h | h | h | h | h | h | h | h | h | h | h<;>simp [h]
 ·rintro (h | h | h | h | h | h | h | h | h | h | h | h | h | h | h | h)<;>simp [h]
end Go.Pl
namespace Go.Pl
theorem uw {r:Int} (h:r<0∨1114111<r∨(55296≤r∧r≤57343)):rnB r=[]:=by unfold rnB;rw [if_pos h]
theorem zzw {n:Nat} (h:¬((n:Int)<0∨1114111<(n:Int)∨(55296≤(n:Int)∧(n:Int)≤57343))) (h1:n<128):rnB n=[UInt8.ofNat n]:=by unfold rnB;rw [if_neg h,if_pos (by omega)];rfl
theorem zzv {n:Nat} (h:¬((n:Int)<0∨1114111<(n:Int)∨(55296≤(n:Int)∧(n:Int)≤57343))) (h1:¬n<128) (h2:n<2048):rnB n=[UInt8.ofNat (192+n / 64),UInt8.ofNat (128+n % 64)]:=by unfold rnB;rw [if_neg h,if_neg (by omega),if_pos (by omega)];rfl
theorem zzu {n:Nat} (h:¬((n:Int)<0∨1114111<(n:Int)∨(55296≤(n:Int)∧(n:Int)≤57343))) (h2:¬n<2048) (h3:n<65536):rnB n=[UInt8.ofNat (224+n / 4096),UInt8.ofNat (128+n / 64 % 64),UInt8.ofNat (128+n % 64)]:=by unfold rnB;rw [if_neg h,if_neg (by omega),if_neg (by omega),if_pos (by omega)];rfl
theorem zzt {n:Nat} (h:¬((n:Int)<0∨1114111<(n:Int)∨(55296≤(n:Int)∧(n:Int)≤57343))) (h3:¬n<65536):rnB n=[UInt8.ofNat (240+n / 262144),UInt8.ofNat (128+n / 4096 % 64),UInt8.ofNat (128+n / 64 % 64),UInt8.ofNat (128+n % 64)]:=by unfold rnB;rw [if_neg h,if_neg (by omega),if_neg (by omega),if_neg (by omega)];rfl
theorem rnB_nil (r:Int):rnB r=[]↔(r<0∨1114111<r∨(55296≤r∧r≤57343)):=by
 constructor
 ·intro h;by_cases hb:r<0∨1114111<r∨(55296≤r∧r≤57343)
  ·exact hb
  ·unfold rnB at h;rw [if_neg hb] at h;exfalso;revert h;split;simp;split;simp;split;simp;simp
 ·exact uw
theorem zsx {s:Bs} {p:Nat} {n:Nat} {a:Int} (h:hxD (byt s p)<0):hxV s p (n+1) a = -1:=by unfold hxV;rw [if_pos h]
theorem zcd {s:Bs} {p:Nat} {n:Nat} {a:Int} (h:0≤hxD (byt s p)):hxV s p (n+1) a=hxV s (p+1) n (16 * a+hxD (byt s p)):=by show (if hxD (byt s p)<0 then -1 else hxV s (p+1) n (16 * a+hxD (byt s p)))=_;rw [if_neg (by omega)]
theorem zxu {b:Int} (h1:48≤b) (h2:b≤57):hxD b=b-48:=by unfold hxD;rw [if_pos ⟨h1,h2⟩]
theorem zxt {b:Int} (h1:97≤b) (h2:b≤102):hxD b=b-97+10:=by unfold hxD;rw [if_neg (by omega),if_pos ⟨h1,h2⟩]
theorem zxs {b:Int} (h1:65≤b) (h2:b≤70):hxD b=b-65+10:=by unfold hxD;rw [if_neg (by omega),if_neg (by omega),if_pos ⟨h1,h2⟩]
theorem hxD_n {b:Int} (h1:¬(48≤b∧b≤57)) (h2:¬(97≤b∧b≤102)) (h3:¬(65≤b∧b≤70)):hxD b = -1:=by unfold hxD;rw [if_neg h1,if_neg h2,if_neg h3]
theorem hx16 {i:Nat} (h:i≤8):16 ^ i≤4294967296:=Nat.le_trans (Nat.pow_le_pow_right (by decide) h) (by decide)
end Go.Pl
namespace Go.Pl
theorem z2d {s:Bs} {p:Nat} (h:¬(byt s p=92∧p+1<s.length)):esA s p=([],0):=by unfold esA;rw [if_neg h]
theorem zrf {s:Bs} {p:Nat} (h:byt s p=92∧p+1<s.length) (h1:0≤shE (byt s (p+1))):esA s p=(rnB (shE (byt s (p+1))),p+2):=by unfold esA;rw [if_pos h,if_pos h1]
theorem z19 {s:Bs} {p:Nat} (h:byt s p=92∧p+1<s.length) (h1:¬0≤shE (byt s (p+1))) (h2:hxN (byt s (p+1))=0∨rnB (hxV s (p+2) (hxN (byt s (p+1))) 0)=[]):esA s p=([],0):=by unfold esA;rw [if_pos h,if_neg h1,if_pos h2]
theorem z2b {s:Bs} {p:Nat} (h:byt s p=92∧p+1<s.length) (h1:¬0≤shE (byt s (p+1))) (h2:¬(hxN (byt s (p+1))=0∨rnB (hxV s (p+2) (hxN (byt s (p+1))) 0)=[])):esA s p=(rnB (hxV s (p+2) (hxN (byt s (p+1))) 0),p+2+hxN (byt s (p+1))):=by unfold esA;rw [if_pos h,if_neg h1,if_neg h2]
theorem hxN_le (b:Int):hxN b≤8:=by unfold hxN;split;omega;split;omega;split<;>omega
theorem z2a (s:Bs) (p:Nat):(esA s p).1.length≤4:=by
 unfold esA;split
 ·split
  ·exact zzs _
  ·split
   ·simp
   ·exact zzs _
 ·simp
theorem z2c (s:Bs) (p:Nat):(esA s p).2=0∨p+2≤(esA s p).2:=by
 unfold esA;split
 ·split
  ·right;simp
  ·split
   ·left;rfl
   ·right;simp only;omega
 ·left;rfl
theorem hxV_all {s:Bs} {p:Nat}:∀ {n:Nat} {a:Int},0≤a→0<n→0≤hxV s p n a→p+n≤s.length
 | n,a,h0,hn,h=>by
  have key:∀ (n:Nat) (p:Nat) (a:Int),0≤a→0<n→0≤hxV s p n a→p+n≤s.length:=by
   intro n
   induction n with
   | zero=>intro p a _ h _;omega
   | succ n ih=>
    intro p a h0 _ h;unfold hxV at h;split at h
    ·omega
    ·rename_i hd;have hp:p<s.length:=by
      rcases Nat.lt_or_ge p s.length with h1 | h1
      ·exact h1
      ·rw [qk h1] at hd;exact absurd (by decide) hd
     rcases Nat.eq_zero_or_pos n with hn | hn
     ·omega
     ·have:=ih (p+1) _ (by omega) hn h;omega
  exact key n p a h0 hn h
theorem zv8 (s:Bs) (p:Nat):(esA s p).2≤s.length:=by
 unfold esA;split
 ·rename_i h;split
  ·simp only;omega
  ·split
   ·simp
   ·rename_i h2;simp only [not_or] at h2;have h3:0≤hxV s (p+2) (hxN (byt s (p+1))) 0:=by
     rcases Int.lt_or_le (hxV s (p+2) (hxN (byt s (p+1))) 0) 0 with h4 | h4
     ·exact absurd (uw (.inl h4)) h2.2
     ·exact h4
    exact hxV_all (Int.le_refl 0) (by omega) h3
 ·simp
end Go.Pl
namespace Go.Pl
theorem zmp {l:List Pc} {i:Nat} (h:i<l.length) {g:Bool} {n:Nat}:zb2 g n (l.drop i)=if (l.getD i pcz).text=[]∧(l.getD i pcz).glue=false∧i+1<l.length then zb2 g (n+1) (l.drop (i+1))
  else (if 0<n then List.replicate n 10 else if g then [] else [32])++((l.getD i pcz).text++zb2 (l.getD i pcz).glue 0 (l.drop (i+1))):=by
 have e:l.getD i pcz=l[i]:=by simp [List.getD,h]
 rw [List.drop_eq_getElem_cons h,e];have e2:(l.drop (i+1)≠[])=(i+1<l.length):=propext (by rw [ne_eq,List.drop_eq_nil_iff];omega)
 conv=>lhs;unfold zb2
 simp only [e2]
theorem zmo {l:List Pc} {i:Nat} {g:Bool} {n:Nat} (h:i+1<l.length) (h1:(l.getD i pcz).text=[]) (h2:(l.getD i pcz).glue=false):zb2 g n (l.drop i)=zb2 g (n+1) (l.drop (i+1)):=by rw [zmp (by omega),if_pos ⟨h1,h2,h⟩]
theorem zre {l:List Pc} {i:Nat} {g:Bool} {n:Nat} (h:i<l.length) (h1:¬((l.getD i pcz).text=[]∧(l.getD i pcz).glue=false∧i+1<l.length)):zb2 g n (l.drop i)=(if 0<n then List.replicate n 10 else if g then [] else [32])++((l.getD i pcz).text++zb2 (l.getD i pcz).glue 0 (l.drop (i+1))):=by rw [zmp h,if_neg h1]
theorem zmn {l:List Pc} (h:0<l.length):zb1 l=(l.getD 0 pcz).text++zb2 (l.getD 0 pcz).glue 0 (l.drop 1):=by
 cases l with
 | nil=>simp at h
 | cons x r=>rfl
theorem cutW_t {k:Nat} {b:Bs} (h:k<b.length∧(b.getD (b.length-1) 0=32∨b.getD (b.length-1) 0=9)):uq k b=uq k (b.take (b.length-1)):=by
 unfold uq;obtain ⟨n,hn⟩:∃ n,b.length=n+1:=⟨b.length-1,by omega⟩
 have hl:(b.take (b.length-1)).length=n:=by rw [List.length_take];omega
 rw [hl]
 conv=>lhs;rw [hn];unfold cutK
 rw [if_pos h]
theorem zwb {k:Nat} {b:Bs} (h:¬(k<b.length∧(b.getD (b.length-1) 0=32∨b.getD (b.length-1) 0=9))):uq k b=b:=by
 unfold uq;cases hb:b.length with
 | zero=>rfl
 | succ n=>unfold cutK;rw [if_neg h]
theorem zoe (k:Nat):∀ (n:Nat) (b:Bs),(cutK k n b).length≤b.length
 | 0,b=>Nat.le_refl _
 | n+1,b=>by
  unfold cutK;split
  ·have:=zoe k n (b.take (b.length-1));rw [List.length_take] at this;omega
  ·exact Nat.le_refl _
theorem zeu (k:Nat) (b:Bs):(uq k b).length≤b.length:=zoe k _ b
theorem zpc {n:Nat} {x:UInt8} {o:Bs}:o++[x]++List.replicate n x=o++List.replicate (n+1) x:=by rw [List.replicate_succ,List.append_assoc];rfl
end Go.Pl
end
section
namespace Go.Vg
variable [Go.Vg.Glob]
set_option maxRecDepth 100000
def cvO (te:TE) (st:St) (s:TypeId) (x:Operand) (K:SV→Prop):Prop:=match st.ev x,tdOf te s with
  | .slc h lo len,.slice e=>xl te e=true∧0<len∧(match st.ctx.at h with
   | some (.row false _ _ _)=>True
   | _=>False)∧K (.slc h lo len)
  | _,_=>False
theorem cvO_of {te:TE} {st:St} {h lo len:Nat} {e:TypeId} {s:TypeId} {x:Operand} {sz n:Nat} {f:Nat→List SV} {K:SV→Prop} (hx:st.ev x=.slc h lo len) (ht:tdOf te s=.slice e) (hc:st.ctx.at h=some (.row false sz n f)) (h1:xl te e=true) (h2:0<len) (hK:K (.slc h lo len)):cvO te st s x K:=by unfold cvO;rw [hx,ht];simp only [hc];exact ⟨h1,h2,trivial,hK⟩
theorem zoq {te:TE} {st:St} {s:TypeId} {x:Operand} {k:SV→St→Prop}:zkr te st (.convert s s x) k=cvO te st s x (fun z=>k z st):=by simp only [zkr,cvO,true_and];cases st.ev x<;>cases tdOf te s<;>rfl
theorem putS_s {nt:Nat} {st:St} {dst:Option Tmp} {z:SV} {k:St→Prop}:zoo nt st dst z k=w5 nt st dst z ⟨k,⟨⟩⟩:=id rfl
theorem zi8 {l:List SV} {b:List UInt8} (h:l=b.map fun x=>SV.i .u8 x.toNat):∀ j,j<b.length→q7 l 1 j=zu j7 0 b j:=by intro j hj;subst h;unfold q7 zu j7;rw [Nat.mul_one];simp [List.getD,hj];rw [List.drop_eq_getElem_cons (by simpa using hj)];simp
theorem zep (l:List Int):∀ j,j<l.length→zme ((q7 (l.map (SV.i .u8)) 1 j).getD 0 .u)=true:=by intro j hj;unfold q7;rw [Nat.mul_one,List.drop_eq_getElem_cons (by simpa using hj)];simp [zme]
theorem zaj (l:List Int):w9 (q7 (l.map (SV.i .u8)) 1) 0 l.length=l.map fun x=>UInt8.ofNat x.toNat:=by
 apply List.ext_getElem (by simp [w9]);intro j h1 h2;have hj:j<l.length:=by simpa using h2
 unfold w9 q7;simp only [List.getElem_map,List.getElem_range,Nat.zero_add,Nat.mul_one];rw [List.drop_eq_getElem_cons (by simpa using hj)];simp
open Go.Pl in
theorem z2e {r:Int} (h:¬(r<0∨1114111<r∨(55296≤r∧r≤57343))):(Utf8.encode r).data.toList=rnB r:=by
 have hv:Utf8.valid r=true:=by simp [Utf8.valid];omega
 obtain ⟨n,rfl⟩:∃ n:Nat,r=n:=⟨r.toNat,by omega⟩
 unfold rnB Utf8.encode;rw [if_neg h,hv];simp only [if_true,Int.toNat_natCast];by_cases h1:n<128
 ·rw [if_pos h1,if_pos (show (n:Int)<128 by omega)]
 rw [if_neg h1,if_neg (show ¬(n:Int)<128 by omega)];by_cases h2:n<2048
 ·rw [if_pos h2,if_pos (show (n:Int)<2048 by omega)]
 rw [if_neg h2,if_neg (show ¬(n:Int)<2048 by omega)];by_cases h3:n<65536
 ·rw [if_pos h3,if_pos (show (n:Int)<65536 by omega)]
 rw [if_neg h3,if_neg (show ¬(n:Int)<65536 by omega)]
theorem z1n {l:List SV} {b:List Int} (h:l=b.map (SV.i .i64)) {j:Nat} (hj:j<b.length):q7 l 1 j=[.i .i64 (b.getD j 0)]:=by subst h;unfold q7;rw [Nat.mul_one];simp [List.getD,hj];rw [List.drop_eq_getElem_cons (by simpa using hj)];simp
end Go.Vg
end
section
namespace Go.Pl
/-- What is open: is it a map,and how many nodes it has;the innermost last. -/
abbrev Stk:=List (Bool×Nat)
def tp (o:Stk):Bool×Nat:=o.getD (o.length-1) (false,0)
def incr (o:Stk):Stk:=o.set (o.length-1) ((tp o).1,(tp o).2+1)
def pop (o:Stk):Stk:=o.take (o.length-1)
def zvo (d:Int) (o:Stk):Bool×Int×Stk:=if o=[] then (decide (d=1),2,[]) else (true,d,incr o)
def ndEnds (o:Stk):Bool:=!(decide (o=[])||((tp o).1&&decide ((tp o).2 % 2≠0)))
def ndEv (d:Int) (o:Stk) (k:Int):Bool×Int×Stk:=
 if k=2 then (decide (d=0),1,o)
 else if k=5∨k=6 then zvo d o
 else if k=3∨k=4 then ((zvo d o).1,(zvo d o).2.1,(zvo d o).2.2++[(decide (k=4),0)])
 else if k=7 then if ndEnds o then (true,d,pop o) else (false,d,o)
 else if k=8 then (decide (d=2)&&decide (o=[]),0,o)
 else (false,d,o)
def ndRun:List Ev→Int→Stk→Bool
 | [],_,_=>false
 | e::r,d,o=>evOk e&&(if e.kind=10 then r.isEmpty else if e.kind=9 then r.isEmpty&&decide (d=0) else (ndEv d o e.kind).1&&ndRun r (ndEv d o e.kind).2.1 (ndEv d o e.kind).2.2)
def nested:List Ev→Bool
 | []=>false
 | e::r=>evOk e&&decide (e.kind=1)&&ndRun r 0 []
theorem zq8 {α:Type} (l:List α) (i j:Nat) (x z:α) (hi:i<l.length):(l.set i x).getD j z=if j=i then x else l.getD j z:=by
 simp only [List.getD_eq_getElem?_getD,List.getElem?_set];by_cases h:j=i
 ·subst h;simp [hi]
 ·rw [if_neg (Ne.symm h),if_neg h]
end Go.Pl
namespace Go.Pl
end Go.Pl
namespace Go.Pl
end Go.Pl
namespace Go.Pl
end Go.Pl
namespace Go.Pl
end Go.Pl
namespace Go.Pl
end Go.Pl
namespace Go.Pl
end Go.Pl
namespace Go.Pl
end Go.Pl
end
section
namespace Go.Pl
end Go.Pl
namespace Go.Pl
end Go.Pl
namespace Go.Pl
end Go.Pl
namespace Go.Pl
end Go.Pl
namespace Go.Pl
end Go.Pl
namespace Go.Pl
end Go.Pl
namespace Go.Pl
end Go.Pl
namespace Go.Pl
end Go.Pl
end
