/- The reader of the block style and of documents, in plain words. -/
import Derived.Test.YtgippllfnmdnpaaGreatDoorUAO
import Derived.Lib.Join
import Derived.Test.YtgippllfnmdnpaaGreatDoorUAN
set_option linter.all false
section
namespace Go.Pl
open Go.Vg (lookS zaw)
/-- Where the rest of a line is nothing,the line's end. -/
def rsA (s:Bs) (p:Nat):Nat×Bool:=
 if isB s (wh s p)=true∨(byt s (wh s p)=35∧(wh s p≠p∨la s p=p)) then (en s (wh s p),true) else (wh s p,false)
theorem wx {s:Bs} {p:Nat} (h:p≤s.length):p≤(rsA s p).1∧(rsA s p).1≤s.length:=by
 have h1:=jh s p;have h2:=jg s p h;have h3:=zck s (wh s p);have h4:=uo s (wh s p) h2;unfold rsA;split
 ·exact ⟨by simp only;omega,by simp only;omega⟩
 ·exact ⟨by simp only;omega,by simp only;omega⟩
def zgq (s:Bs) (p:Nat):Bool:=decide (byt s p=45)&&gap s (p+1)
def jl (s:Bs) (p:Nat):Bool:=decide (s.length≤p)||!decide (mkA s p=0)
/-- The column. -/
def coA (s:Bs) (p:Nat):Nat:=p-la s p
def dpA (s:Bs) (p:Nat) (n:Int) (lo:Bool):Bool:=decide (n<(coA s p:Int))||(lo&&decide ((coA s p:Int)=n)&&zgq s p)
/-- A byte 9 ahead of what is the first of its line is a fault. -/
def ze1 (s:Bs) (r:Rd):Rd:=
 if wh s (la s r.pos)≠r.pos then r else if idx (sub s (la s r.pos) r.pos) 9<0 then r else flt r 2 (la s r.pos+(idx (sub s (la s r.pos) r.pos) 9).toNat)
def ovR (s:Bs) (r:Rd) (p:Nat):Rd:=if jl s (gpE s p)=true then atR r (gpE s p) else ze1 s (atR r (gpE s p))
def ntR (r:Rd) (p:Pp) (e:Nat):Rd:=atR (yb r 1 [] p.an p.tg) e
def chv (b:Int):Int:=if b=45 then 1 else 2
/-- The head of a block scalar: digit,kind of its end,where its line ends,a fault's code. -/
def hdS (s:Bs) (q:Nat) (dg ch:Int) (sg:Bool):Int×Int×Nat×Int:=
 if h:(49≤byt s q∧byt s q≤57)∧dg=0 then hdS s (q+1) (byt s q-48) ch sg
 else if h2:(byt s q=43∨byt s q=45)∧sg=false then hdS s (q+1) dg (chv (byt s q)) true
 else if (rsA s q).2=true then (dg,ch,(rsA s q).1,0) else (0,0,(rsA s q).1,6)
termination_by s.length-q
decreasing_by
 ·have:q<s.length:=zm (b:=byt s q) rfl (by omega);omega
 ·have:q<s.length:=zm (b:=byt s q) rfl (by omega);omega
theorem hdS_d {s:Bs} {q:Nat} {dg ch:Int} {sg:Bool} (h:(49≤byt s q∧byt s q≤57)∧dg=0):hdS s q dg ch sg=hdS s (q+1) (byt s q-48) ch sg:=by
 conv=>lhs;rw [hdS]
 rw [dif_pos h]
theorem hdS_c {s:Bs} {q:Nat} {dg ch:Int} {sg:Bool} (h:¬((49≤byt s q∧byt s q≤57)∧dg=0)) (h2:(byt s q=43∨byt s q=45)∧sg=false):hdS s q dg ch sg=hdS s (q+1) dg (chv (byt s q)) true:=by
 conv=>lhs;rw [hdS]
 rw [dif_neg h,dif_pos h2]
theorem hdS_r {s:Bs} {q:Nat} {dg ch:Int} {sg:Bool} (h:¬((49≤byt s q∧byt s q≤57)∧dg=0)) (h2:¬((byt s q=43∨byt s q=45)∧sg=false)):hdS s q dg ch sg=if (rsA s q).2=true then (dg,ch,(rsA s q).1,0) else (0,0,(rsA s q).1,6):=by
 conv=>lhs;rw [hdS]
 rw [dif_neg h,dif_neg h2]
def hdA (s:Bs) (p:Nat):Int×Int×Nat×Int:=if byt s p=124∨byt s p=62 then hdS s (p+1) 0 0 false else (0,0,p,10)
def bhL (s:Bs) (e:Nat):Nat:=min (e+1) s.length
theorem zad {s:Bs} {a:Nat} (h:a<s.length):a<bhL s (en s a):=by have:=zck s a;unfold bhL;omega
theorem uk (s:Bs) (e:Nat):bhL s e≤s.length:=Nat.min_le_right _ _
/-- The column of a block scalar without a digit,and where its first line that is not white begins. -/
def ltC (s:Bs) (a:Nat) (n:Int):Nat×Nat:=
 if h:a<s.length∧mkA s a=0 then (if lnA s a=false then (if n<(inA s a:Int) then (inA s a,a) else (60000,s.length)) else ltC s (bhL s (en s a)) n) else (60000,s.length)
termination_by s.length-a
decreasing_by have:=zad h.1;omega
theorem zsu {s:Bs} {a:Nat} {n:Int} (h:a<s.length∧mkA s a=0) (h2:lnA s a=true):ltC s a n=ltC s (bhL s (en s a)) n:=by
 conv=>lhs;rw [ltC]
 rw [dif_pos h,if_neg (by rw [h2];simp)]
theorem ltC_l {s:Bs} {a:Nat} {n:Int} (h:a<s.length∧mkA s a=0) (h2:lnA s a=false):ltC s a n=if n<(inA s a:Int) then (inA s a,a) else (60000,s.length):=by rw [ltC,dif_pos h,if_pos h2]
theorem ltC_e {s:Bs} {a:Nat} {n:Int} (h:¬(a<s.length∧mkA s a=0)):ltC s a n=(60000,s.length):=by rw [ltC,dif_neg h]
/-- The lines of a block scalar,and the place behind them. -/
def ltL (s:Bs) (d f a:Nat):List Bs×Nat:=
 if h:a<s.length∧mkA s a=0∧(lnA s a=true∨d≤inA s a) then ((if f≤a∧(lnA s a=false∨d<inA s a) then sub s (a+d) (en s a) else [])::(ltL s d f (bhL s (en s a))).1,(ltL s d f (bhL s (en s a))).2) else ([],a)
termination_by s.length-a
decreasing_by all_goals (have:=zad h.1;omega)
/-- How many of some texts,without empty ones at the end. -/
def lsN (l:List Bs):Nat→Nat
 | 0=>0
 | n+1=>if l.getD n []=[] then lsN l n else n+1
/-- The lengths of some texts,and one more for each. -/
def lnW (l:List Bs):Nat:=(l.map fun x=>x.length+1).sum
theorem z1g {l:List Bs}:∀ {n:Nat},(0<n→l.getD (n-1) []≠[])→lsN l n=n
 | 0,_=>rfl
 | n+1,h=>by unfold lsN;rw [if_neg (by simpa using h (Nat.succ_pos _))]
theorem zvv {l:List Bs}:∀ {n:Nat},0<n→l.getD (n-1) []=[]→lsN l n=lsN l (n-1)
 | 0,h,_=>absurd h (Nat.lt_irrefl _)
 | n+1,_,h=>by
           conv=>lhs;unfold lsN
           rw [if_pos (by simpa using h)];rfl
def far (s:Bs):Bool:=isW s 0
/-- Lines folded. -/
def fbk:List Bs→Bs→Nat→Bs→Bs
 | [],_,_,out=>out
 | x::r,last,many,out=>if x=[] then fbk r last (many+1) out else fbk r x 0 (out++(if last=[] then List.replicate many 10 else if far last=true∨far x=true then List.replicate (many+1) 10 else if many=0 then [32] else List.replicate many 10)++x)
theorem zs6 {l:List Bs} {i:Nat} (h:i<l.length):l.drop i=l.getD i []::l.drop (i+1):=by rw [List.drop_eq_getElem_cons h];congr 1;simp [List.getD,h]
theorem zvw {l:List Bs} {i:Nat} (h:i<l.length):lnW (l.drop i)=(l.getD i []).length+1+lnW (l.drop (i+1)):=by rw [zs6 h];simp only [lnW,List.map_cons,List.sum_cons]
theorem uh:∀ l:List Bs,l.length≤lnW l
 | []=>Nat.zero_le _
 | x::r=>by have:=uh r;simp only [lnW,List.map_cons,List.sum_cons,List.length_cons] at *;omega
theorem zhl:∀ (l:List Bs) (n:Nat),lnW (l.take n)≤lnW l
 | [],n=>by simp
 | x::r,0=>by simp [lnW]
 | x::r,n+1=>by have:=zhl r n;simp only [lnW,List.take_succ_cons,List.map_cons,List.sum_cons] at *;omega
theorem zhm:∀ l:List Bs,(Go.Lib.join l [10]).length≤lnW l
 | []=>by simp [Go.Lib.join,List.intercalate]
 | [x]=>by simp [Go.Lib.join,List.intercalate,lnW]
 | x::y::r=>by have:=zhm (y::r);simp only [Go.Lib.join,List.intercalate,lnW,List.map_cons,List.sum_cons,List.intersperse_cons_cons,List.flatten_cons,List.length_append,List.length_singleton] at *;omega
theorem zoc:∀ (l:List Bs) (last:Bs) (k:Nat) (out:Bs),(fbk l last k out).length≤out.length+k+lnW l
 | [],last,k,out=>by simp only [fbk];omega
 | x::r,last,k,out=>by
  unfold fbk;split
  ·have:=zoc r last (k+1) out;simp only [lnW,List.map_cons,List.sum_cons] at *;omega
  ·have h1:=zoc r x 0 (out++(if last=[] then List.replicate k 10 else if far last=true∨far x=true then List.replicate (k+1) 10 else if k=0 then [32] else List.replicate k 10)++x);have h2:(if last=[] then List.replicate k (10:UInt8) else if far last=true∨far x=true then List.replicate (k+1) 10 else if k=0 then [32] else List.replicate k 10).length≤k+1:=by
    split
    ·simp
    ·split
     ·simp
     ·split<;>simp
   simp only [List.length_append] at h1;simp only [lnW,List.map_cons,List.sum_cons] at *;omega
theorem fbk_e {r:List Bs} {x last:Bs} {k:Nat} {out:Bs} (h:x=[]):fbk (x::r) last k out=fbk r last (k+1) out:=by rw [fbk,if_pos h]
theorem zs5 {r:List Bs} {x last:Bs} {k:Nat} {out:Bs} (h:¬x=[]):fbk (x::r) last k out=fbk r x 0 (out++(if last=[] then List.replicate k 10 else if far last=true∨far x=true then List.replicate (k+1) 10 else if k=0 then [32] else List.replicate k 10)++x):=by rw [fbk,if_neg h]
def btA (l:List Bs) (fo:Bool) (ch:Int):Bs:=
 if lsN l l.length=0 then (if ch=2 then List.replicate l.length 10 else [])
 else if ch=1 then (if fo=true then fbk (l.take (lsN l l.length)) [] 0 [] else Go.Lib.join (l.take (lsN l l.length)) [10])
 else if ch=2 then (if fo=true then fbk (l.take (lsN l l.length)) [] 0 [] else Go.Lib.join (l.take (lsN l l.length)) [10])++List.replicate (1+l.length-lsN l l.length) 10
 else (if fo=true then fbk (l.take (lsN l l.length)) [] 0 [] else Go.Lib.join (l.take (lsN l l.length)) [10])++[10]
/-- Column and first line. -/
def ltD (s:Bs) (n:Int) (dg:Int) (a:Nat):Nat×Nat:=
 if 0<dg∧n≤60000 then ((max n 0+dg).toNat,a) else if dg=0 then ltC s a n else (60000,a)
def liA (s:Bs) (p:Nat) (n:Int):Bs×Nat×Int:=
 if (hdA s p).2.2.2≠0 then ([],(hdA s p).2.2.1,(hdA s p).2.2.2)
 else (btA (ltL s (ltD s n (hdA s p).1 (bhL s (hdA s p).2.2.1)).1 (ltD s n (hdA s p).1 (bhL s (hdA s p).2.2.1)).2 (bhL s (hdA s p).2.2.1)).1 (decide (byt s p=62)) (hdA s p).2.1,
  (ltL s (ltD s n (hdA s p).1 (bhL s (hdA s p).2.2.1)).1 (ltD s n (hdA s p).1 (bhL s (hdA s p).2.2.1)).2 (bhL s (hdA s p).2.2.1)).2,0)
/-- What the reader of blocks has come to: also whether the line's rest need not be asked,and where the last node ended. -/
structure Rb where
 r:Rd
 fr:Bool
 lt:Nat
def onB (x:Rb) (r:Rd):Rb:=⟨r,x.fr,x.lt⟩
def ntB (x:Rb) (r:Rd) (p:Pp) (e:Nat):Rb:=⟨ntR r p e,true,x.lt⟩
/-- What stands behind the properties of a flow node,at the reader's depth. -/
def boS (s:Bs) (r:Rd) (p:Pp):Rd:=match 40-r.dp with
 | 0=>boR s id r p
 | d+1=>boR s (noF s d) r p
/-- A node that is no block collection. -/
def scK (s:Bs) (x:Rb) (p:Pp) (n:Int):Rb:=
 if byt s x.r.pos=124∨byt s x.r.pos=62 then
  (if (liA s x.r.pos n).2.2≠0 then ⟨flt x.r (liA s x.r.pos n).2.2 (liA s x.r.pos n).2.1,false,x.lt⟩ else ⟨atR (yb x.r (if byt s x.r.pos=62 then 5 else 4) (liA s x.r.pos n).1 p.an p.tg) (liA s x.r.pos n).2.1,true,x.lt⟩)
 else if byt s x.r.pos=91∨byt s x.r.pos=123 then ⟨boS s x.r p,false,x.lt⟩
 else if byt s x.r.pos=42 then ⟨alR s x.r p.has,false,x.lt⟩
 else if isQu (byt s x.r.pos)=true then ⟨qtR s x.r p,false,x.lt⟩
 else if pfA s x.r.pos false=true then ⟨plR s x.r p n false,false,x.lt⟩
 else ⟨flt x.r 10 x.r.pos,false,x.lt⟩
/-- On to what is behind a node. -/
def nxK (s:Bs) (x:Rb):Rb:=
 if x.fr=false∧(rsA s x.r.pos).2=false then ⟨flt x.r 8 (rsA s x.r.pos).1,x.fr,x.r.pos⟩ else ⟨ovR s x.r x.r.pos,x.fr,x.r.pos⟩
/-- The end of a block collection. -/
def dnK (x:Rb) (k:Nat):Rb:=⟨atR (shR x.r k) x.lt,true,x.lt⟩
def kyR (s:Bs) (r:Rd) (p:Pp):Rd:=
 if byt s r.pos=42 then alR s r p.has
 else if isQu (byt s r.pos)=true then qtR s r p
 else yb r 1 (sub s r.pos (kyA s r.pos).1.toNat) p.an p.tg
/-- What stands behind a sign. -/
def vlK (s:Bs) (sb:Int→Bool→Bool→Rb→Rb) (sg:Nat) (c:Int) (li:Bool) (x:Rb):Rb:=
 if (rsA s (sg+1)).2=false then sb c (!li) false (onB x (atR x.r (wh s (sg+1))))
 else if (ovR s x.r (sg+1)).cd≠0 then onB x (ovR s x.r (sg+1))
 else if jl s (ovR s x.r (sg+1)).pos=true∨dpA s (ovR s x.r (sg+1)).pos c (!li)=false then ntB x (ovR s x.r (sg+1)) (ppz 0) (rsA s (sg+1)).1
 else sb c false (!li) (onB x (ovR s x.r (sg+1)))
/-- A key and its value,and on to what is next. -/
def mpS (s:Bs) (sb:Int→Bool→Bool→Rb→Rb) (c:Nat) (own:Pp) (x:Rb):Rb:=
 if (kyR s x.r own).cd≠0 then onB x (kyR s x.r own)
 else if (vlK s sb (kyA s x.r.pos).2.1.toNat c false (onB x (kyR s x.r own))).r.cd≠0 then vlK s sb (kyA s x.r.pos).2.1.toNat c false (onB x (kyR s x.r own))
 else nxK s (vlK s sb (kyA s x.r.pos).2.1.toNat c false (onB x (kyR s x.r own)))
def mpL (s:Bs) (sb:Int→Bool→Bool→Rb→Rb) (c k:Nat) (own:Pp) (x:Rb):Rb:=
 if (mpS s sb c own x).r.cd≠0 then mpS s sb c own x
 else if jl s (mpS s sb c own x).r.pos=true∨coA s (mpS s sb c own x).r.pos<c then dnK (mpS s sb c own x) k
 else if c<coA s (mpS s sb c own x).r.pos then onB (mpS s sb c own x) (flt (mpS s sb c own x).r 9 (mpS s sb c own x).r.pos)
 else if (prR s false (mpS s sb c own x).r).cd≠0 then onB (mpS s sb c own x) (prR s false (mpS s sb c own x).r)
 else if (kyA s (prR s false (mpS s sb c own x).r).pos).2.2=false then onB (mpS s sb c own x) (flt (prR s false (mpS s sb c own x).r) 10 (prR s false (mpS s sb c own x).r).pos)
 else if h:x.r.pos<(prR s false (mpS s sb c own x).r).pos∧x.r.pos<s.length then mpL s sb c k (prP s false (mpS s sb c own x).r) (onB (mpS s sb c own x) (prR s false (mpS s sb c own x).r))
 else x
termination_by s.length-x.r.pos
decreasing_by simp only [onB];omega
def mpK (s:Bs) (sb:Int→Bool→Bool→Rb→Rb) (outer own:Pp) (fm:Nat) (x:Rb):Rb:=
 if (opR x.r 4 7 outer (if own.has=true then fm else x.r.pos)).cd≠0 then onB x (opR x.r 4 7 outer (if own.has=true then fm else x.r.pos))
 else mpL s sb (coA s (if own.has=true then fm else x.r.pos)) x.r.ev.length own (onB x (opR x.r 4 7 outer (if own.has=true then fm else x.r.pos)))
def lsS (s:Bs) (sb:Int→Bool→Bool→Rb→Rb) (c:Nat) (x:Rb):Rb:=
 if (vlK s sb x.r.pos c true x).r.cd≠0 then vlK s sb x.r.pos c true x else nxK s (vlK s sb x.r.pos c true x)
def lsL (s:Bs) (sb:Int→Bool→Bool→Rb→Rb) (c k:Nat) (x:Rb):Rb:=
 if (lsS s sb c x).r.cd≠0 then lsS s sb c x
 else if jl s (lsS s sb c x).r.pos=true∨coA s (lsS s sb c x).r.pos<c∨(coA s (lsS s sb c x).r.pos=c∧zgq s (lsS s sb c x).r.pos=false) then dnK (lsS s sb c x) k
 else if c<coA s (lsS s sb c x).r.pos then onB (lsS s sb c x) (flt (lsS s sb c x).r 9 (lsS s sb c x).r.pos)
 else if h:x.r.pos<(lsS s sb c x).r.pos∧x.r.pos<s.length then lsL s sb c k (lsS s sb c x)
 else x
termination_by s.length-x.r.pos
decreasing_by omega
def lsK (s:Bs) (sb:Int→Bool→Bool→Rb→Rb) (outer:Pp) (x:Rb):Rb:=
 if (opR x.r 3 7 outer x.r.pos).cd≠0 then onB x (opR x.r 3 7 outer x.r.pos)
 else lsL s sb (coA s x.r.pos) x.r.ev.length (onB x (opR x.r 3 7 outer x.r.pos))
/-- A node behind its properties. -/
def bnE (s:Bs) (sb:Int→Bool→Bool→Rb→Rb) (n:Int) (inl:Bool) (outer own:Pp) (fm:Nat) (x:Rb):Rb:=
 if inl=false∧(kyA s x.r.pos).2.2=true then mpK s sb outer own fm x
 else if inl=false∧own.has=false∧zgq s x.r.pos=true then lsK s sb outer x
 else if outer.has=true∧own.has=true then (if (rsA s own.en).2=true then onB x (flt x.r 10 (wh s own.en)) else onB x (flt x.r 7 fm))
 else scK s x (if outer.has=true then outer else own) n
def bnR (s:Bs) (sb:Int→Bool→Bool→Rb→Rb) (n:Int) (inl lo:Bool) (x:Rb):Rb:=
 if (prR s false x.r).cd≠0 then onB x (prR s false x.r)
 else if (prP s false x.r).has=true∧(rsA s (prP s false x.r).en).2=true then
  (if (ovR s (prR s false x.r) (prP s false x.r).en).cd≠0 then onB x (ovR s (prR s false x.r) (prP s false x.r).en)
  else if jl s (ovR s (prR s false x.r) (prP s false x.r).en).pos=true∨dpA s (ovR s (prR s false x.r) (prP s false x.r).en).pos n lo=false then ntB x (ovR s (prR s false x.r) (prP s false x.r).en) (prP s false x.r) (rsA s (prP s false x.r).en).1
  else if (prR s false (ovR s (prR s false x.r) (prP s false x.r).en)).cd≠0 then onB x (prR s false (ovR s (prR s false x.r) (prP s false x.r).en))
  else bnE s sb n false (prP s false x.r) (prP s false (ovR s (prR s false x.r) (prP s false x.r).en)) (ovR s (prR s false x.r) (prP s false x.r).en).pos (onB x (prR s false (ovR s (prR s false x.r) (prP s false x.r).en))))
 else bnE s sb n inl (ppz 0) (prP s false x.r) x.r.pos (onB x (prR s false x.r))
/-- A block node,where so many collections may still stand in one another. -/
def bnF (s:Bs):Nat→Int→Bool→Bool→Rb→Rb
 | 0=>bnR s fun _ _ _ x=>x
 | d+1=>bnR s (bnF s d)
end Go.Pl
end
section
namespace Go.Vg
open Go.Pl
variable [Go.Vg.Glob]
theorem Yi:type_of% (ai (ai (ai (ai @Bool.or_eq_true @Bool.and_eq_true) (ai @Bool.or_eq_false_iff @Bool.and_eq_false_iff)) (ai (ai @decide_eq_true_eq @decide_eq_false_iff_not) (ai @Bool.not_eq_true' @Bool.not_eq_false'))) (ai (ai (ai @beq_iff_eq.{0} @beq_eq_false_iff_ne.{0}) (ai @ne_eq.{1} @ge_iff_le.{0})) (ai (ai @gt_iff_lt.{0} @Int.not_le) (ai @Int.not_lt (ai @Int.ofNat_le @Int.ofNat_lt))))):=(ai (ai (ai (ai @Bool.or_eq_true @Bool.and_eq_true) (ai @Bool.or_eq_false_iff @Bool.and_eq_false_iff)) (ai (ai @decide_eq_true_eq @decide_eq_false_iff_not) (ai @Bool.not_eq_true' @Bool.not_eq_false'))) (ai (ai (ai @beq_iff_eq.{0} @beq_eq_false_iff_ne.{0}) (ai @ne_eq.{1} @ge_iff_le.{0})) (ai (ai @gt_iff_lt.{0} @Int.not_le) (ai @Int.not_lt (ai @Int.ofNat_le @Int.ofNat_lt)))))
theorem Wm {P:Program} {f:FuncId} {args0:List SV} {pre:Ctx} {Z:SV} {C:Ctx} (hF:FnK P f 5 args0 pre fun z c=>z=Z∧c=C) {args:List SV} {kk:Nat} {st:St} {K:Sl (SV×St)}
  (hK:K.f (Z.mapH (muL [0,1,2,3,4] st.ctx.length),⟨st.env,jw (muL [0,1,2,3,4] st.ctx.length) [0,1,2,3,4] pre C st.ctx⟩))
  (hargs:jd (muL [0,1,2,3,4] st.ctx.length) args0=args:=by simp [Yf]) (hkl:pre.length=5:=by rfl)
  (hmap:ve (muL [0,1,2,3,4] st.ctx.length) st.ctx [0,1,2,3,4] pre:=by simp only [Ye];exact ⟨by omega,zb (by simp [Yf,Yh,onB]),by omega,za fun _=>rfl,by omega,za fun _=>rfl,by omega,zi,by omega,za fun _=>rfl⟩):yp P f args kk st K:=
 yp.mut hF hkl [0,1,2,3,4] hargs hmap (by decide) hK
theorem Wb {P:Program} {f:FuncId} {k:Nat} {args0:List SV} {pre:Ctx} {Z:SV} {C:Ctx} (hF:FnK P f k args0 pre fun z c=>z=Z∧c=C) {args:List SV} {kk:Nat} {st:St} {K:Sl (SV×St)}
  (hK:K.f (Z.mapH (muL [0,1,2,3,4] st.ctx.length),⟨zbu ([0,1,2,3,4].drop k) st.env,jw (muL [0,1,2,3,4] st.ctx.length) [0,1,2,3,4] pre C st.ctx⟩))
  (hargs:jd (muL [0,1,2,3,4] st.ctx.length) args0=args:=by simp [Yf])
  (hmap:ve (muL [0,1,2,3,4] st.ctx.length) st.ctx [0,1,2,3,4] pre:=by simp only [Ye];exact ⟨by omega,zb (by simp [Yf,Yh,onB]),by omega,za fun _=>rfl,by omega,za fun _=>rfl,by omega,zi,by omega,za fun _=>rfl⟩)
  (hrw:z6 k pre:=by simp [z6,SO.ro,YC]) (hfix:(([0,1,2,3,4]:List Nat).drop k).all (fun g=>decide (kk≤g))=true:=by decide)
  (hclean:jf (([0,1,2,3,4]:List Nat).drop k) (zdm [0,1,2,3,4] pre) 0 st.ctx:=by simp [jf,zdm,vf,zdk,noH,SO.ro,q7,YC]):yp P f args kk st K:=
 yp.reb hF [0,1,2,3,4] hargs hmap (by decide) hrw hfix hclean hK
theorem Wf {A B C D E:List Nat→Prop} (c:C [0,1,2,3,4]:=by simp only [↓XC,X1,seval];try first | rfl | simp [Yf,onB]) (a:A [0,1,2,3,4]:=by decide)
  (b:B [0,1,2,3,4]:=by simp only [Yd];exact ⟨zb (by simp [Yf,Yh,onB]),za fun _=>rfl,za fun _=>rfl,zi,za fun _=>rfl⟩)
  (d:D [0,1,2,3,4]:=by simp [z6,SO.ro,YC]) (e:E [0,1,2,3,4]:=by simp):∃ l,A l∧B l∧C l∧D l∧E l:=⟨_,a,b,c,d,e⟩
end Go.Vg
end
