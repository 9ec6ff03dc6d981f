/- Symbolic values, objects and states over the model, and what they say of a world. -/
import Derived.Orders
import Derived.Below
import Derived.Lib.Strings
import Derived.Laws.Sem
import Derived.Laws.StructEq
import Derived.Tactics
set_option linter.all false
section
theorem ai {a b:Prop} (x:a) (y:b):a∧b:=⟨x,y⟩
namespace Go.Vg
open Go.RowKit
/-- A symbolic value: plain data,or a handle of an object and a place in it. -/
inductive SV where
 | b (x:Bool)
 | i (k:IntKind) (n:Int)
 | s (l:List UInt8)
 | ptr (h i k:Nat)
 | slc (h lo len:Nat)
 | nils
 | mp (h:Nat)
 | fn (f:FuncId)
 | agg (l:List SV)
 | tup (l:List SV)
 | gd (g:Bool) (x:SV)
 | u
 | fs (sz:Nat) (l:List (List SV))
 | fp (l:List SV) (k:Nat)
 deriving Inhabited
/-- Where an object lies: block,shift,how many cells it may use,cells of an element. -/
structure Loc where
 b:Nat
 sh:Nat
 av:Nat
 sz:Nat
/-- Where the objects lie,and which blocks stay as they are for good. -/
structure Asg where
 loc:Nat→Option Loc
 fz:Nat→Option Obj
/-- Blocks that stay as they are in every world that is spoken of. -/
class Glob where
 g:Nat→Option Obj
variable [Glob]
instance:CoeFun Asg (fun _=>Nat→Option Loc):=⟨Asg.loc⟩
def Asg.ren (σ:Asg) (μ:Nat→Nat):Asg:=⟨fun h=>σ (μ h),σ.fz⟩
def Asg.bare (σ:Asg):Asg:=⟨fun _=>none,σ.fz⟩
def Asg.nil:Asg:=⟨fun _=>none,fun _=>none⟩
theorem Asg.ren_loc (σ:Asg) (μ:Nat→Nat) (h:Nat):(σ.ren μ) h=σ (μ h):=rfl
theorem Asg.ren_fz (σ:Asg) (μ:Nat→Nat):(σ.ren μ).fz=σ.fz:=rfl
theorem Asg.bare_bare (σ:Asg):σ.bare.bare=σ.bare:=rfl
theorem Asg.bare_ren (σ:Asg) (μ:Nat→Nat):(σ.ren μ).bare=σ.bare:=rfl
def vp (L:Loc) (i k:Nat):Addr:=⟨L.b,L.sh+i * L.sz+k,none⟩
mutual
def rel:Asg→SV→Value→Prop
 | _,.b x,v=>v=.bool x
 | _,.i k n,v=>v=.int k n
 | _,.s l,v=>v=.string ⟨l.toArray⟩
 | σ,.ptr h i k,v=>∃ L,σ h=some L∧v=.pointer (some (vp L i k))
 | σ,.slc h lo len,v=>∃ a cap,v=.slice a len cap∧len≤cap∧(cap=0∨∃ L,σ h=some L∧a=some (vp L lo 0)∧(lo+cap) * L.sz≤L.av)
 | _,.nils,v=>v=.slice none 0 0
 | σ,.mp h,v=>∃ L,σ h=some L∧v=.map (some L.b)
 | _,.fn f,v=>v=.func (.func f) #[] #[]
 | σ,.agg l,v=>∃ cs,v=.agg cs∧relL σ l cs.toList
 | σ,.tup l,v=>∃ cs,v=.tuple cs∧relL σ l cs.toList
 | σ,.gd g x,v=>(g=true→rel σ x v)∧(g=false→v=undef)
 | _,.u,_=>True
 | σ,.fs sz l,v=>∃ a cap,v=.slice a l.length cap∧l.length≤cap∧(l=[]∨∃ b off c e fr,a=some ⟨b,off,none⟩∧σ.fz b=some (.cells c e fr)∧zr9 σ.bare sz l (c.toList.drop off))
 | σ,.fp l k,v=>∃ b off c e fr,v=.pointer (some ⟨b,off+k,none⟩)∧σ.fz b=some (.cells c e fr)∧relL σ.bare l ((c.toList.drop off).take l.length)
def relL:Asg→List SV→List Value→Prop
 | _,[],vs=>vs=[]
 | σ,x::xs,vs=>∃ v r,vs=v::r∧rel σ x v∧relL σ xs r
def zr9:Asg→Nat→List (List SV)→List Value→Prop
 | _,_,[],_=>True
 | σ,sz,l::r,vs=>l.length=sz∧relL σ l (vs.take sz)∧zr9 σ sz r (vs.drop sz)
end
theorem y4 {σ:Asg}:∀ {l:List SV} {vs:List Value},relL σ l vs→l.length=vs.length
 | [],vs,h=>by simp [relL] at h;simp [h]
 | x::xs,vs,h=>by simp only [relL] at h;obtain ⟨v,r,rfl,_,h2⟩:=h;simp [y4 h2]
theorem ky {σ:Asg}:∀ {l:List SV} {vs:List Value},relL σ l vs→∀ {j:Nat} {x:SV},l[j]?=some x→∃ v,vs[j]?=some v∧rel σ x v
 | [],_,_,j,x,hx=>by simp at hx
 | y::ys,vs,h,j,x,hx=>by
  simp only [relL] at h;obtain ⟨v,r,rfl,h1,h2⟩:=h;cases j with
  | zero=>simp at hx;subst hx;exact ⟨v,rfl,h1⟩
  | succ j=>simp at hx;simpa using ky h2 hx
theorem j5 {σ:Asg}:∀ {l:List SV} {vs:List Value},l.length=vs.length→(∀ (j:Nat) (x:SV) (v:Value),l[j]?=some x→vs[j]?=some v→rel σ x v)→relL σ l vs
 | [],vs,hl,_=>by simp only [relL];exact List.length_eq_zero_iff.1 (by simpa using hl.symm)
 | x::xs,[],hl,_=>by simp at hl
 | x::xs,v::vs,hl,h=>by simp only [relL];exact ⟨v,vs,rfl,h 0 x v rfl rfl,j5 (by simpa using hl) fun j y u hy hu=>h (j+1) y u (by simpa using hy) (by simpa using hu)⟩
/-- The elements of a frozen row. -/
theorem zdu {σ:Asg} {sz:Nat}:∀ {l:List (List SV)} {vs:List Value},zr9 σ sz l vs→∀ {j:Nat} {x:List SV},l[j]?=some x→x.length=sz∧relL σ x ((vs.drop (j * sz)).take sz)
 | [],_,_,j,x,hx=>by simp at hx
 | y::ys,vs,h,j,x,hx=>by
  simp only [zr9] at h;obtain ⟨h0,h1,h2⟩:=h;cases j with
  | zero=>simp at hx;subst hx;simpa using ⟨h0,h1⟩
  | succ j=>simp at hx;have:=zdu h2 hx;rw [List.drop_drop] at this;rw [Nat.succ_mul,Nat.add_comm];exact this
theorem ub {σ:Asg} {sz:Nat}:∀ {l:List (List SV)} {vs:List Value},(∀ (j:Nat) (x:List SV),l[j]?=some x→x.length=sz∧relL σ x ((vs.drop (j * sz)).take sz))→zr9 σ sz l vs
 | [],_,_=>by simp [zr9]
 | y::ys,vs,h=>by simp only [zr9];have h0:=h 0 y rfl;simp only [Nat.zero_mul,List.drop_zero] at h0;refine ⟨h0.1,h0.2,ub fun j x hx=>?_⟩;have:=h (j+1) x (by simpa using hx);rw [Nat.succ_mul,Nat.add_comm] at this;rw [List.drop_drop];exact this
structure leA (σ σ':Asg):Prop where
 loc:∀ h L,σ h=some L→σ' h=some L
 fz:∀ b o,σ.fz b=some o→σ'.fz b=some o
theorem leA.refl (σ:Asg):leA σ σ:=⟨fun _ _ h=>h,fun _ _ h=>h⟩
theorem leA.trans {a b c:Asg} (h:leA a b) (k:leA b c):leA a c:=⟨fun x L e=>k.loc x L (h.loc x L e),fun x L e=>k.fz x L (h.fz x L e)⟩
theorem leA.bare {a b:Asg} (h:leA a b):leA a.bare b.bare:=⟨fun x L e=>(by cases e),h.fz⟩
theorem leA.nil (σ:Asg):leA Asg.nil σ:=⟨fun x L e=>(by cases e),fun x L e=>(by cases e)⟩
mutual
theorem jo:∀ {σ σ':Asg} (h:leA σ σ') {x:SV} {v:Value},rel σ x v→rel σ' x v
 | _,_,_,.b _,_,r=>by simpa [rel] using r
 | _,_,_,.i _ _,_,r=>by simpa [rel] using r
 | _,_,_,.s _,_,r=>by simpa [rel] using r
 | _,_,h,.ptr _ _ _,_,r=>by
  simp only [rel] at r ⊢;obtain ⟨L,e,r⟩:=r;exact ⟨L,h.loc _ _ e,r⟩
 | _,_,h,.slc _ _ _,_,r=>by
  simp only [rel] at r ⊢;obtain ⟨a,cap,e,hl,r⟩:=r;exact ⟨a,cap,e,hl,r.imp id fun ⟨L,e,r⟩=>⟨L,h.loc _ _ e,r⟩⟩
 | _,_,_,.nils,_,r=>by simpa [rel] using r
 | _,_,h,.mp _,_,r=>by
  simp only [rel] at r ⊢;obtain ⟨L,e,r⟩:=r;exact ⟨L,h.loc _ _ e,r⟩
 | _,_,_,.fn _,_,r=>by simpa [rel] using r
 | _,_,h,.agg _,_,r=>by
  simp only [rel] at r ⊢;obtain ⟨cs,e,r⟩:=r;exact ⟨cs,e,jz h r⟩
 | _,_,h,.tup _,_,r=>by
  simp only [rel] at r ⊢;obtain ⟨cs,e,r⟩:=r;exact ⟨cs,e,jz h r⟩
 | _,_,h,.gd _ _,_,r=>by
  simp only [rel] at r ⊢;exact ⟨fun g=>jo h (r.1 g),r.2⟩
 | _,_,_,.u,_,_=>by simp [rel]
 | _,_,h,.fs sz l,_,r=>by
  simp only [rel] at r ⊢;obtain ⟨a,cap,e,hl,r⟩:=r;refine ⟨a,cap,e,hl,r.imp id ?_⟩;rintro ⟨b,off,c,e,fr,h1,h2,h3⟩;exact ⟨b,off,c,e,fr,h1,h.fz _ _ h2,zhz h.bare h3⟩
 | _,_,h,.fp l k,_,r=>by simp only [rel] at r ⊢;obtain ⟨b,off,c,e,fr,h1,h2,h3⟩:=r;exact ⟨b,off,c,e,fr,h1,h.fz _ _ h2,jz h.bare h3⟩
theorem jz:∀ {σ σ':Asg} (h:leA σ σ') {x:List SV} {v:List Value},relL σ x v→relL σ' x v
 | _,_,_,[],_,r=>by simpa [relL] using r
 | _,_,h,_::_,_,r=>by simp only [relL] at r ⊢;obtain ⟨v,q,e,r1,r2⟩:=r;exact ⟨v,q,e,jo h r1,jz h r2⟩
theorem zhz:∀ {σ σ':Asg} (h:leA σ σ') {sz:Nat} {x:List (List SV)} {v:List Value},zr9 σ sz x v→zr9 σ' sz x v
 | _,_,_,_,[],_,_=>by simp [zr9]
 | _,_,h,_,_::_,_,r=>by simp only [zr9] at r ⊢;exact ⟨r.1,jz h r.2.1,zhz h r.2.2⟩
end
-- Handles renamed.
mutual
def SV.mapH (μ:Nat→Nat):SV→SV
 | .ptr h i k=>.ptr (μ h) i k
 | .slc h lo len=>.slc (μ h) lo len
 | .mp h=>.mp (μ h)
 | .agg l=>.agg (jd μ l)
 | .tup l=>.tup (jd μ l)
 | .gd g x=>.gd g (SV.mapH μ x)
 | .b x=>.b x
 | .i k n=>.i k n
 | .s l=>.s l
 | .nils=>.nils
 | .fn f=>.fn f
 | .u=>.u
 | .fs sz l=>.fs sz l
 | .fp l k=>.fp l k
def jd (μ:Nat→Nat):List SV→List SV
 | []=>[]
 | x::xs=>SV.mapH μ x::jd μ xs
end
theorem zn5 (μ:Nat→Nat) (l:List SV):jd μ l=l.map (SV.mapH μ):=by
 induction l with
 | nil=>rfl
 | cons x xs ih=>simp [jd,ih]
mutual
theorem v7 (σ:Asg) (μ:Nat→Nat):∀ (x:SV) (v:Value),rel σ (x.mapH μ) v↔rel (σ.ren μ) x v
 | .b _,_=>by simp [rel,SV.mapH]
 | .i _ _,_=>by simp [rel,SV.mapH]
 | .s _,_=>by simp [rel,SV.mapH]
 | .ptr _ _ _,_=>by simp [rel,SV.mapH,Asg.ren_loc]
 | .slc _ _ _,_=>by simp [rel,SV.mapH,Asg.ren_loc]
 | .nils,_=>by simp [rel,SV.mapH]
 | .mp _,_=>by simp [rel,SV.mapH,Asg.ren_loc]
 | .fn _,_=>by simp [rel,SV.mapH]
 | .agg l,_=>by simp only [rel,SV.mapH,zdv σ μ l]
 | .tup l,_=>by simp only [rel,SV.mapH,zdv σ μ l]
 | .gd _ x,_=>by simp only [rel,SV.mapH,v7 σ μ x]
 | .u,_=>by simp [rel,SV.mapH]
 | .fs _ _,_=>by simp only [rel,SV.mapH,Asg.ren_fz,Asg.bare_ren]
 | .fp _ _,_=>by simp only [rel,SV.mapH,Asg.ren_fz,Asg.bare_ren]
theorem zdv (σ:Asg) (μ:Nat→Nat):∀ (x:List SV) (v:List Value),relL σ (jd μ x) v↔relL (σ.ren μ) x v
 | [],_=>by simp [relL,jd]
 | x::xs,_=>by simp only [relL,jd,v7 σ μ x,zdv σ μ xs]
end
/-- An object: a row of elements,one variable,or a map. 'ro': it is only read. -/
inductive SO where
 | row (ro:Bool) (sz n:Nat) (f:Nat→List SV)
 | blk (ro:Bool) (cs:List SV)
 | mapS (l:List (List UInt8×Int))
 | mapI (l:List (Int×Int))
def SO.ro:SO→Bool
 | .row r _ _ _ | .blk r _=>r
 | _=>false
def SO.sz:SO→Nat
 | .row _ z _ _=>z
 | .blk _ cs=>cs.length
 | _=>0
def SO.n:SO→Nat
 | .row _ _ n _=>n
 | .blk _ _=>1
 | _=>0
def SO.el:SO→Nat→List SV
 | .row _ _ _ f,i=>f i
 | .blk _ cs,_=>cs
 | _,_=>[]
def SO.isMap:SO→Bool
 | .mapS _ | .mapI _=>true
 | _=>false
def SO.ents:SO→List (SV×SV)
 | .mapS l=>l.map fun p=>(.s p.1,.i .i64 p.2)
 | .mapI l=>l.map fun p=>(.i .i64 p.1,.i .i64 p.2)
 | _=>[]
def qo (σ:Asg):List (SV×SV)→List MapEntry→Prop
 | [],es=>es=[]
 | p::ps,es=>∃ e r,es=e::r∧rel σ p.1 e.key∧rel σ p.2 e.val∧qo σ ps r
/-- The cells of an object that is no map. -/
structure cellsAt (σ:Asg) (w:World) (L:Loc) (o:SO) (c:Array Value) (e:TypeId) (fr:Nat×Nat):Prop where
 heap:w.heap[L.b]?=some (.cells c e fr)
 lsz:L.sz=o.sz
 room:L.sh+L.av≤c.size
 fits:o.n * o.sz≤L.av
 cell:∀ i k,i<o.n→k<o.sz→∃ v,c[L.sh+i * o.sz+k]?=some v∧rel σ ((o.el i).getD k .u) v
 free:o.ro=false→(fr.1=fr.2∨c.size≤fr.1)
def qc (σ:Asg) (w:World) (h:Nat) (o:SO):Prop:=
 match o.isMap with
 | true=>∃ L es ck,σ h=some L∧w.heap[L.b]?=some (.map es ck)∧qo σ o.ents es.toList
 | false=>(o.n=0∧σ h=none)∨∃ L c e fr,σ h=some L∧cellsAt σ w L o c e fr
abbrev Ctx:=List (Option SO)
def Ctx.at (c:Ctx) (h:Nat):Option SO:=c.getD h none
structure Sat (σ:Asg) (w:World) (c:Ctx):Prop where
 obj:∀ h o,c.at h=some o→qc σ w h o
 apart:∀ h h' o o' L L',h≠h'→c.at h=some o→c.at h'=some o'→o.ro=false→σ h=some L→σ h'=some L'→L.b≠L'.b
 beyond:∀ h,c.length≤h→σ h=none
 inHeap:∀ h L,σ h=some L→L.b<w.heap.size
 frz:∀ b o,σ.fz b=some o→w.heap[b]?=some o
 frzA:∀ h o L,c.at h=some o→o.ro=false→σ h=some L→σ.fz L.b=none
 glb:∀ b o,Glob.g b=some o→σ.fz b=some o
structure St where
 env:List (Tmp×SV)
 ctx:Ctx
def look:List (Tmp×SV)→Tmp→SV
 | [],_=>.u
 | (u,x)::r,t=>if u=t then x else look r t
/-- What surrounds a function's run: the world at its start,the blocks of that world that it may write,where the objects that came in lie. -/
structure Amb where
 w0:World
 D:Nat→Prop
 σ0:Asg
 k:Nat
 nt:Nat
 gr:Bool
/-- 'w' came of 'w0';what is below and not in 'D' is as it was. -/
structure Fr (D:Nat→Prop) (w w':World):Prop where
 os:w'.os=w.os
 tape:w'.tape=w.tape
 output:w'.output=w.output
 size:w.heap.size≤w'.heap.size
 block:∀ b,b<w.heap.size→¬D b→w'.heap[b]?=w.heap[b]?
theorem Fr.refl (D:Nat→Prop) (w:World):Fr D w w:=⟨rfl,rfl,rfl,Nat.le_refl _,fun _ _ _=>rfl⟩
theorem Fr.trans {D:Nat→Prop} {a b c:World} (h:Fr D a b) (k:Fr D b c):Fr D a c:=
 ⟨k.os.trans h.os,k.tape.trans h.tape,k.output.trans h.output,Nat.le_trans h.size k.size,fun i hi hd=>(k.block i (Nat.lt_of_lt_of_le hi h.size) hd).trans (h.block i hi hd)⟩
theorem Fr.mono {D D':Nat→Prop} {w w':World} (h:Fr D w w') (hd:∀ b,b<w.heap.size→D b→D' b):Fr D' w w' :=
 ⟨h.os,h.tape,h.output,h.size,fun b hb hn=>h.block b hb fun x=>hn (hd b hb x)⟩
/-- A later step that writes only into 'D' and into what is new. -/
theorem Fr.step {D D':Nat→Prop} {a b c:World} (h:Fr D a b) (k:Fr D' b c) (hd:∀ x,x<a.heap.size→D' x→D x):Fr D a c:=
 ⟨k.os.trans h.os,k.tape.trans h.tape,k.output.trans h.output,Nat.le_trans h.size k.size,
  fun i hi hn=>(k.block i (Nat.lt_of_lt_of_le hi h.size) fun x=>hn (hd i hi x)).trans (h.block i hi hn)⟩
/-- What stays of the beginning: where the first objects lie;what was frozen,and that nothing foreign has been frozen since. -/
structure baseOK (A:Amb) (σ:Asg):Prop where
 loc:∀ h,h<A.k→σ h=A.σ0 h
 fzb:∀ b o,A.σ0.fz b=some o→σ.fz b=some o
 fzn:∀ b o,σ.fz b=some o→A.σ0.fz b=some o∨(A.gr=true∧(A.D b∨A.w0.heap.size≤b))
structure Rel (A:Amb) (σ:Asg) (st:St) (a:Act) (w:World):Prop where
 defers:a.defers=[]
 size:a.tmps.size=A.nt
 env:∀ t,rel σ (look st.env t) (a.tmps.getD t undef)
 sat:Sat σ w st.ctx
 fr:Fr A.D A.w0 w
 own:∀ h o L,st.ctx.at h=some o→o.ro=false→σ h=some L→A.D L.b∨A.w0.heap.size≤L.b
 base:baseOK A σ
 klen:A.k≤st.ctx.length
/-! Values without handles. -/
mutual
def SV.plain:SV→Bool
 | .ptr _ _ _=>false
 | .slc _ _ _=>false
 | .mp _=>false
 | .agg l=>plainL l
 | .tup l=>plainL l
 | .gd _ x=>SV.plain x
 | .b _=>true
 | .i _ _=>true
 | .s _=>true
 | .nils=>true
 | .fn _=>true
 | .u=>true
 | .fs _ _=>true
 | .fp _ _=>true
def plainL:List SV→Bool
 | []=>true
 | x::xs=>SV.plain x&&plainL xs
end
-- Values that look at no memory at all.
mutual
def SV.bit:SV→Bool
 | .agg l=>bitL l
 | .tup l=>bitL l
 | .gd _ x=>SV.bit x
 | .b _=>true
 | .i _ _=>true
 | .s _=>true
 | .nils=>true
 | .fn _=>true
 | .u=>true
 | _=>false
def bitL:List SV→Bool
 | []=>true
 | x::xs=>SV.bit x&&bitL xs
end
mutual
theorem yr {σ σ':Asg} (hf:∀ b o,σ.fz b=some o→σ'.fz b=some o):∀ {x:SV} {v:Value},x.plain=true→rel σ x v→rel σ' x v
 | .b _,_,_,r=>by simpa [rel] using r
 | .i _ _,_,_,r=>by simpa [rel] using r
 | .s _,_,_,r=>by simpa [rel] using r
 | .nils,_,_,r=>by simpa [rel] using r
 | .fn _,_,_,r=>by simpa [rel] using r
 | .u,_,_,r=>by simp [rel]
 | .ptr _ _ _,_,h,_=>by simp [SV.plain] at h
 | .slc _ _ _,_,h,_=>by simp [SV.plain] at h
 | .mp _,_,h,_=>by simp [SV.plain] at h
 | .agg l,_,h,r=>by
  simp only [rel,SV.plain] at r h ⊢;obtain ⟨cs,e,r⟩:=r;exact ⟨cs,e,x7 hf h r⟩
 | .tup l,_,h,r=>by
  simp only [rel,SV.plain] at r h ⊢;obtain ⟨cs,e,r⟩:=r;exact ⟨cs,e,x7 hf h r⟩
 | .gd _ x,_,h,r=>by
  simp only [rel,SV.plain] at r h ⊢;exact ⟨fun g=>yr hf h (r.1 g),r.2⟩
 | .fs _ _,_,_,r=>by
  simp only [rel] at r ⊢;obtain ⟨a,cap,e,hl,r⟩:=r;refine ⟨a,cap,e,hl,r.imp id ?_⟩;rintro ⟨b,off,c,e,fr,h1,h2,h3⟩;exact ⟨b,off,c,e,fr,h1,hf _ _ h2,zhz (⟨fun _ _ e=>(by cases e),hf⟩:leA σ.bare σ'.bare) h3⟩
 | .fp _ _,_,_,r=>by simp only [rel] at r ⊢;obtain ⟨b,off,c,e,fr,h1,h2,h3⟩:=r;exact ⟨b,off,c,e,fr,h1,hf _ _ h2,jz (⟨fun _ _ e=>(by cases e),hf⟩:leA σ.bare σ'.bare) h3⟩
theorem x7 {σ σ':Asg} (hf:∀ b o,σ.fz b=some o→σ'.fz b=some o):∀ {x:List SV} {v:List Value},plainL x=true→relL σ x v→relL σ' x v
 | [],_,_,r=>by simpa [relL] using r
 | _::_,_,h,r=>by simp only [relL,plainL,Bool.and_eq_true] at r h ⊢;obtain ⟨v,q,e,r1,r2⟩:=r;exact ⟨v,q,e,yr hf h.1 r1,x7 hf h.2 r2⟩
end
mutual
theorem zbe {σ σ':Asg}:∀ {x:SV} {v:Value},x.bit=true→rel σ x v→rel σ' x v
 | .b _,_,_,r=>by simpa [rel] using r
 | .i _ _,_,_,r=>by simpa [rel] using r
 | .s _,_,_,r=>by simpa [rel] using r
 | .nils,_,_,r=>by simpa [rel] using r
 | .fn _,_,_,r=>by simpa [rel] using r
 | .u,_,_,r=>by simp [rel]
 | .ptr _ _ _,_,h,_=>by simp [SV.bit] at h
 | .slc _ _ _,_,h,_=>by simp [SV.bit] at h
 | .mp _,_,h,_=>by simp [SV.bit] at h
 | .fs _ _,_,h,_=>by simp [SV.bit] at h
 | .fp _ _,_,h,_=>by simp [SV.bit] at h
 | .agg l,_,h,r=>by
  simp only [rel,SV.bit] at r h ⊢;obtain ⟨cs,e,r⟩:=r;exact ⟨cs,e,zno h r⟩
 | .tup l,_,h,r=>by
  simp only [rel,SV.bit] at r h ⊢;obtain ⟨cs,e,r⟩:=r;exact ⟨cs,e,zno h r⟩
 | .gd _ x,_,h,r=>by simp only [rel,SV.bit] at r h ⊢;exact ⟨fun g=>zbe h (r.1 g),r.2⟩
theorem zno {σ σ':Asg}:∀ {x:List SV} {v:List Value},bitL x=true→relL σ x v→relL σ' x v
 | [],_,_,r=>by simpa [relL] using r
 | _::_,_,h,r=>by simp only [relL,bitL,Bool.and_eq_true] at r h ⊢;obtain ⟨v,q,e,r1,r2⟩:=r;exact ⟨v,q,e,zbe h.1 r1,zno h.2 r2⟩
end
end Go.Vg
end
section
namespace Go.Vg
variable [Go.Vg.Glob]
open Go.RowKit
/-- What is known of a type. -/
inductive TD where
 | bool | int (k:IntKind) | str | slice (e:TypeId) | map (k e:TypeId) | struct (fs:List (TypeId×Nat)) | other
def TD.isStruct:TD→Bool
 | .struct _=>true
 | _=>false
structure TI where
 td:TD
 size:Nat
 bytes:Nat
 zero:List SV
 cmp:Bool
abbrev TE:=TypeId→Option TI
def zb3:TypeDesc→TD→Prop
 | .bool,.bool=>True
 | .int k,.int k'=>k=k'
 | .string,.str=>True
 | .slice e,.slice e'=>e=e'
 | .map k e,.map k' e'=>k=k'∧e=e'
 | .struct fs,.struct fs'=>fs.toList.map (fun f=>(f.type,f.offset))=fs'∧∀ f∈fs.toList,f.name ≠ "_"
 | .array ..,_=>False
 | .struct ..,.other=>False
 | _,.other=>True
 | _,_=>False
structure tyOk (P:Program) (t:TypeId) (ti:TI):Prop where
 info:∃ i,P.info? t=some i∧i.size=ti.size∧i.bytes=ti.bytes∧∃ z,i.zero=some z∧relL Asg.nil ti.zero z.cells.toList∧(ti.td.isStruct=false→z.oneCell'=true)
 desc:∃ d,P.underlying t=some d∧zb3 d ti.td
 eq:ti.cmp=true→P.stoodInHeld t=false∧P.eqGuardType P.depth t=false
def vh (P:Program) (te:TE):Prop:=∀ t ti,te t=some ti→tyOk P t ti
def ofVal:Value→SV
 | .bool b=>.b b
 | .int k n=>.i k n
 | .string s=>.s s.data.toList
 | .slice none 0 0=>.nils
 | _=>.u
theorem zzy (σ:Asg) (v:Value):rel σ (ofVal v) v:=by unfold ofVal;split<;>simp [rel]
def St.ev (st:St):Operand→SV
 | .tmp t=>look st.env t
 | .const v=>ofVal v
 | .global _=>.u
 | .func f=>.fn f
theorem Rel.ev {A:Amb} {σ:Asg} {st:St} {a:Act} {w:World} (h:Rel A σ st a w) (x:Operand):rel σ (st.ev x) (a.eval x):=by
 cases x with
 | tmp t=>exact h.env t
 | const v=>exact zzy σ v
 | global g=>simp [St.ev,rel]
 | func f=>simp [St.ev,rel,Act.eval]
/-- To be shown,and known from there on. -/
def Chk (p q:Prop):Prop:=p∧(p→q)
theorem Chk.mk {p q:Prop} (h:p) (k:p→q):Chk p q:=⟨h,k⟩
theorem Chk.out {p q:Prop} (h:Chk p q):p∧q:=⟨h.1,h.2 h.1⟩
/-- An operand's value,where the operation is carried out under 'c'. -/
def ung (c:Bool) (x:SV) (K:SV→Prop):Prop:=
 match x with
 | .gd g v=>Chk (c=true→g=true) (K v)
 | v=>K v
theorem y9 {σ:Asg} {c:Bool} {x:SV} {K:SV→Prop} {v:Value} (hr:rel σ x v) (h:ung c x K):∃ y,K y∧(c=true→rel σ y v):=by
 unfold ung at h;split at h
 ·rename_i g y;obtain ⟨h1,h2⟩:=h.out;exact ⟨y,h2,fun hc=>by simp only [rel] at hr;exact hr.1 (h1 hc)⟩
 ·exact ⟨x,h,fun _=>hr⟩
def inR:IntKind→Int→Prop
 | .i64,n => -9223372036854775808≤n∧n≤9223372036854775807
 | .i32,n => -2147483648≤n∧n≤2147483647
 | .u8,n=>0≤n∧n≤255
 | k,n=>k.wrap n=n
theorem zas {k:IntKind} {n:Int} (h:inR k n):k.wrap n=n:=by cases k<;>simp only [inR] at h<;>first | exact h | (simp only [IntKind.wrap,IntKind.bits,IntKind.signed];simp;omega)
def tdOf (te:TE) (t:TypeId):TD:=match te t with | some ti=>ti.td | none=>.other
def zop (te:TE) (t:TypeId):List SV:=match te t with | some ti=>ti.zero | none=>[]
def j8 (te:TE) (t:TypeId):Nat:=match te t with | some ti=>ti.size | none=>0
/-- A part of an aggregate. -/
def partS (te:TE) (t:TypeId) (cs:List SV) (off:Nat):SV:=
 if (tdOf te t).isStruct then .agg ((cs.drop off).take (j8 te t)) else cs.getD off .u
def eqFs (f:TypeId→SV→SV→Option Bool) (te:TE) (xs ys:List SV):List (TypeId×Nat)→Option Bool
 | []=>some true
 | (t,off)::r=>if off<xs.length∧off<ys.length then match f t (partS te t xs off) (partS te t ys off),eqFs f te xs ys r with
  | some a,some b=>some (a&&b)
  | _,_=>none
  else none
def eqAt (te:TE):Nat→TypeId→SV→SV→Option Bool
 | 0,_,_,_=>none
 | n+1,t,x,y=>match te t with
  | none=>none
  | some ti=>match ti.td,x,y with
   | .int _,.i k a,.i k' b=>if k=k' then some (decide (a=b)) else none
   | .bool,.b a,.b b=>some (a==b)
   | .str,.s a,.s b=>some (decide (a=b))
   | .struct fs,.agg xs,.agg ys=>if ti.cmp then eqFs (eqAt te n) te xs ys fs else none
   | _,_,_=>none
def zjz (te:TE) (t:TypeId) (wr c:Bool) (op:BinOp) (x y:SV) (K:SV→Prop):Prop:=
 match op,x,y with
 | .add,.i k a,.i k' b=>k=k'∧(if wr then K (.i k (k.wrap (a+b))) else Chk (c=true→inR k (a+b)) (K (.i k (a+b))))
 | .sub,.i k a,.i k' b=>k=k'∧(if wr then K (.i k (k.wrap (a-b))) else Chk (c=true→inR k (a-b)) (K (.i k (a-b))))
 | .mul,.i k a,.i k' b=>k=k'∧(if wr then K (.i k (k.wrap (a * b))) else Chk (c=true→inR k (a * b)) (K (.i k (a * b))))
 | .quo,.i k a,.i k' b=>k=k'∧b≠0∧Chk (c=true→inR k (a.tdiv b)) (K (.i k (a.tdiv b)))
 | .rem,.i k a,.i k' b=>k=k'∧Chk (c=true→b≠0) (K (.i k (a.tmod b)))
 | .and,.i k a,.i k' b=>k=k'∧K (.i k (k.wrap ((BitVec.ofInt k.bits a &&& BitVec.ofInt k.bits b).toNat)))
 | .xor,.i k a,.i k' b=>k=k'∧K (.i k (k.wrap ((BitVec.ofInt k.bits a ^^^ BitVec.ofInt k.bits b).toNat)))
 | .shr,.i k a,.i _ b=>0≤b∧K (.i k (a.fdiv (2 ^ (min b.toNat k.bits))))
 | .eql,.i k a,.i k' b=>k=k'∧K (.b (decide (a=b)))
 | .neq,.i k a,.i k' b=>k=k'∧K (.b (!decide (a=b)))
 | .lss,.i k a,.i k' b=>k=k'∧K (.b (decide (a<b)))
 | .leq,.i k a,.i k' b=>k=k'∧K (.b (decide (a≤b)))
 | .gtr,.i k a,.i k' b=>k=k'∧K (.b (decide (a>b)))
 | .geq,.i k a,.i k' b=>k=k'∧K (.b (decide (a≥b)))
 | .add,.s a,.s b=>Chk (c=true→a.length+b.length≤9223372036854775807) (K (.s (a++b)))
 | .eql,.s a,.s b=>K (.b (decide (a=b)))
 | .neq,.s a,.s b=>K (.b (!decide (a=b)))
 | .eql,.b a,.b b=>tdOf te t=.bool∧K (.b (a==b))
 | .neq,.b a,.b b=>tdOf te t=.bool∧K (.b (!(a==b)))
 | .eql,.agg a,.agg b=>match eqAt te 4 t (.agg a) (.agg b) with
  | some z=>K (.b z)
  | none=>False
 | .neq,.agg a,.agg b=>match eqAt te 4 t (.agg a) (.agg b) with
  | some z=>K (.b (!z))
  | none=>False
 | _,_,_=>False
theorem z25 (a b:List UInt8):(ByteArray.mk a.toArray)++(ByteArray.mk b.toArray)=ByteArray.mk (a++b).toArray:=by ext1;simp [ByteArray.data_append]
theorem zb5 {α:Type} [BEq α] [LawfulBEq α] [DecidableEq α] (a b:α):(a==b)=decide (a=b):=by by_cases h:a=b<;>simp [h]
theorem z24 (l:List UInt8):(ByteArray.mk l.toArray).size=l.length:=by rw [←ByteArray.size_data];simp
theorem zae (l:List UInt8):(ByteArray.mk l.toArray).toList=l:=by rw [ByteArray.toList_eq]
theorem desc_of {P:Program} {te:TE} (hte:vh P te) {t:TypeId} {ti:TI} (h:te t=some ti):∃ d,P.underlying t=some d∧zb3 d ti.td:=(hte t ti h).desc
theorem zdn {P:Program} {te:TE} (hte:vh P te) {t:TypeId} (h:tdOf te t=.bool):P.underlying t=some .bool:=by
 unfold tdOf at h;split at h
 ·rename_i ti hti;obtain ⟨d,hd,hi⟩:=(hte t ti hti).desc;rw [h] at hi;cases d<;>simp only [zb3] at hi<;>exact hd
 ·cases h
theorem vq {P:Program} {te:TE} (hte:vh P te) {t:TypeId} {k:IntKind} (h:tdOf te t=.int k):P.underlying t=some (.int k):=by
 unfold tdOf at h;split at h
 ·rename_i ti hti;obtain ⟨d,hd,hi⟩:=(hte t ti hti).desc;rw [h] at hi;cases d<;>simp only [zb3] at hi<;>subst hi<;>exact hd
 ·cases h
theorem jy {P:Program} {te:TE} (hte:vh P te) {t:TypeId} (h:tdOf te t=.str):P.underlying t=some .string:=by
 unfold tdOf at h;split at h
 ·rename_i ti hti;obtain ⟨d,hd,hi⟩:=(hte t ti hti).desc;rw [h] at hi;cases d<;>simp only [zb3] at hi<;>exact hd
 ·cases h
theorem qz {P:Program} {te:TE} (hte:vh P te) {t e:TypeId} (h:tdOf te t=.slice e):P.underlying t=some (.slice e):=by
 unfold tdOf at h;split at h
 ·rename_i ti hti;obtain ⟨d,hd,hi⟩:=(hte t ti hti).desc;rw [h] at hi;cases d<;>simp only [zb3] at hi<;>subst hi<;>exact hd
 ·cases h
theorem zr3 {P:Program} {te:TE} (hte:vh P te) {t k e:TypeId} (h:tdOf te t=.map k e):P.underlying t=some (.map k e):=by
 unfold tdOf at h;split at h
 ·rename_i ti hti;obtain ⟨d,hd,hi⟩:=(hte t ti hti).desc;rw [h] at hi;cases d<;>simp only [zb3] at hi
  obtain ⟨rfl,rfl⟩:=hi;exact hd
 ·cases h
theorem xy {P:Program} {te:TE} (hte:vh P te) {t:TypeId} {fs:List (TypeId×Nat)} (h:tdOf te t=.struct fs) :
  ∃ ff,P.underlying t=some (.struct ff)∧ff.toList.map (fun f=>(f.type,f.offset))=fs∧∀ f∈ff.toList,f.name ≠ "_" := by
 unfold tdOf at h;split at h
 ·rename_i ti hti;obtain ⟨d,hd,hi⟩:=(hte t ti hti).desc;rw [h] at hi;cases d<;>simp only [zb3] at hi
  exact ⟨_,hd,hi⟩
 ·cases h
theorem xz {te:TE} {t:TypeId} {ti:TI} (h:te t=some ti):tdOf te t=ti.td:=by simp [tdOf,h]
theorem qj {P:Program} {t:TypeId} {d:TypeDesc} (h:P.underlying t=some d) (w:World):(underlying t).run P w=.ok d w:=by simp [underlying,h]
theorem zah {P:Program} {t:TypeId} {i:TypeInfo} (h:P.info? t=some i) (w:World):(typeInfo t).run P w=.ok i w:=by simp [typeInfo,h]
theorem kw {P:Program} {te:TE} (hte:vh P te) {t:TypeId} {ti:TI} (h:te t=some ti) (w:World):(sizeOf t).run P w=.ok ti.size w:=by obtain ⟨i,hi,hs,_⟩:=(hte t ti h).info;simp [sizeOf,zah hi,hs]
theorem u2 {P:Program} {te:TE} (hte:vh P te) {t:TypeId} {ti:TI} (h:te t=some ti) (ho:ti.td≠.other) (w:World):(isAgg t).run P w=.ok ti.td.isStruct w:=by obtain ⟨d,hd,hi⟩:=(hte t ti h).desc;simp only [isAgg,Sem.run_bind,qj hd,Result.andThen_ok];cases htd:ti.td<;>rw [htd] at hi<;>cases d<;>simp only [zb3] at hi<;>first | (simp [TD.isStruct];done) | (exact absurd htd ho)
theorem zbg {σ:Asg}:∀ {l:List SV} {vs:List Value} (n:Nat),relL σ l vs→relL σ (l.drop n) (vs.drop n)
 | l,vs,0,h=>by simpa using h
 | [],vs,n+1,h=>by simp only [relL] at h;subst h;simp [relL]
 | x::xs,vs,n+1,h=>by simp only [relL] at h;obtain ⟨v,r,rfl,_,h2⟩:=h;simpa using zbg n h2
theorem zbf {σ:Asg}:∀ {l:List SV} {vs:List Value} (n:Nat),relL σ l vs→relL σ (l.take n) (vs.take n)
 | l,vs,0,h=>by simp [relL]
 | [],vs,n+1,h=>by simp only [relL] at h;subst h;simp [relL]
 | x::xs,vs,n+1,h=>by simp only [relL] at h;obtain ⟨v,r,rfl,h1,h2⟩:=h;simp only [List.take_succ_cons,relL];exact ⟨v,r.take n,rfl,h1,zbf n h2⟩
theorem ziy {P:Program} {te:TE} (hte:vh P te) {σ:Asg} {t:TypeId} {ti:TI} (ht:te t=some ti) (ho:ti.td≠.other) {xs:List SV} {cs:Array Value} {off:Nat}
  (hr:relL σ xs cs.toList) (hoff:off<xs.length):∃ v,rel σ (partS te t xs off) v∧∀ w,(part t cs off).run P w=.ok v w:=by
 unfold partS;rw [xz ht];split
 ·rename_i hs;refine ⟨.agg (cs.extract off (off+ti.size)), ?_,fun w=>?_⟩
  ·simp only [rel];refine ⟨_,rfl, ?_⟩;have:=zbf (j8 te t) (zbg off hr);simp only [j8,ht] at this ⊢;simpa [Array.toList_extract,List.extract_eq_take_drop] using this
  ·simp [part,u2 hte ht ho,hs,kw hte ht]
 ·rename_i hs;obtain ⟨v,hv,hrv⟩:=ky hr (j:=off) (x:=xs.getD off .u) (by simp [List.getD,List.getElem?_eq_getElem hoff]);refine ⟨v,hrv,fun w=>?_⟩;have:cs[off]?=some v:=by simpa using hv
  simp [part,u2 hte ht ho,hs,this]
theorem zmu {P:Program} {te:TE} (hte:vh P te) {σ:Asg}:∀ (n:Nat) (t:TypeId) (x y:SV) (z:Bool),eqAt te n t x y=some z→∀ vx vy,rel σ x vx→rel σ y vy →
  (∀ d,n≤d→∀ w,(Op.equalIn d t vx vy).run P w=.ok z w)∧(∀ l,x=.agg l→P.eqGuardType P.depth t=false):=by
 intro n
 induction n with
 | zero=>intro t x y z h;simp [eqAt] at h
 | succ n ih=>
  intro t x y z h vx vy hx hy;simp only [eqAt] at h;split at h
  ·cases h
  rename_i ti hti;split at h
  ·rename_i _ _ hk k a k' b htd;split at h
   ·rename_i hkk;subst hkk;simp only [rel] at hx hy;subst hx hy;simp only [Option.some.injEq] at h;subst h;refine ⟨fun d hd w=>?_,fun _ hl=>by cases hl⟩;obtain ⟨d,rfl⟩:∃ e,d=e+1:=⟨d-1,by omega⟩
    rw [run_equalIn_int w d t k hk a b (vq hte ((xz hti).trans htd)),zb5]
   ·cases h
  ·rename_i _ _ a b htd;simp only [rel] at hx hy;subst hx hy;simp only [Option.some.injEq] at h;subst h;refine ⟨fun d hd w=>?_,fun _ hl=>by cases hl⟩;obtain ⟨d,rfl⟩:∃ e,d=e+1:=⟨d-1,by omega⟩
   rw [run_equalIn_bool' w d t a b (zdn hte ((xz hti).trans htd))]
  ·rename_i _ _ a b htd;simp only [rel] at hx hy;subst hx hy;simp only [Option.some.injEq] at h;subst h;refine ⟨fun d hd w=>?_,fun _ hl=>by cases hl⟩;obtain ⟨d,rfl⟩:∃ e,d=e+1:=⟨d-1,by omega⟩
   rw [run_equalIn_string w d t _ _ (jy hte ((xz hti).trans htd)),zae,zae,zb5]
  ·rename_i _ _ fs xs ys htd;split at h
   ·rename_i hcmp;obtain ⟨hst,hg⟩:=(hte t ti hti).eq hcmp;refine ⟨fun d hd w=>?_,fun _ _=>hg⟩;obtain ⟨d,rfl⟩:∃ e,d=e+1:=⟨d-1,by omega⟩
    obtain ⟨ff,hff,hmap,hnm⟩:=xy hte ((xz hti).trans htd);simp only [rel] at hx hy;obtain ⟨cs,rfl,hx⟩:=hx;obtain ⟨ds,rfl,hy⟩:=hy;have hfo:P.fieldsOf t=ff:=by simp [Program.fieldsOf,hff]
    rw [run_equalIn_agg w d t cs ds (by rw [hfo];exact hff) hst,hfo];have hd':n≤d:=by omega
    clear hff hfo hg hst hcmp htd hti;generalize hl:ff.toList=l at *;clear hl;subst hmap
    induction l generalizing z with
    | nil=>simp [eqFs] at h;simp [Op.eqFields,h]
    | cons f l ihl=>
     simp only [List.map_cons,eqFs] at h;split at h
     case isFalse=>cases h
     rename_i hoff;obtain ⟨hox,hoy⟩:=hoff;split at h
     ·rename_i a b ha hb;simp only [Option.some.injEq] at h;subst h;have hne:f.name ≠ "_" := hnm f (by simp)
      -- the part's type is known
      cases hft:te f.type with
      | none=>
       cases n with
       | zero=>simp [eqAt] at ha
       | succ n=>simp [eqAt,hft] at ha
      | some ti' =>
       have ho:ti'.td≠.other:=by
        intro e;cases n with
        | zero=>simp [eqAt] at ha
        | succ n=>simp [eqAt,hft,e] at ha
       obtain ⟨v1,r1,e1⟩:=ziy hte hft ho hx hox;obtain ⟨v2,r2,e2⟩:=ziy hte hft ho hy hoy;have e3:=(ih f.type _ _ a ha v1 v2 r1 r2).1 d hd' w;simp only [Op.eqFields,hne,ne_eq,not_false_eq_true,if_true,Sem.run_bind,e1,e2,Result.andThen_ok,e3];cases a with
       | false=>simp
       | true=>simpa using ihl b (fun g hg=>hnm g (List.mem_cons_of_mem _ hg)) hb
     ·cases h
   ·cases h
  ·cases h
theorem zw2 {P:Program} {te:TE} (hte:vh P te) {σ:Asg} {wr c:Bool} {op:BinOp} {x y:SV} {K:SV→Prop} {t:TypeId} {vx vy:Value} (ox oy:Operand)
  (hx:c=true→rel σ x vx) (hy:c=true→rel σ y vy) (h:zjz te t wr c op x y K) :
  ∃ z,K z∧(c=true→∃ v,rel σ z v∧∀ w,((do eqGuard op t ox oy vx vy;Go.binOp op t vx vy):Sem Value).run P w=.ok v w):=by
 unfold zjz at h;split at h;all_goals first
  | exact h.elim
  | skip
 case h_1 k a k' b=>
  obtain ⟨rfl,h⟩:=h;split at h
  ·refine ⟨_,h,fun hc=>?_⟩;have h1:=hx hc;have h2:=hy hc;simp only [rel] at h1 h2;subst h1 h2;exact ⟨.int k (k.wrap (a+b)),by simp only [rel],fun w=>by simp [eqGuard,Go.binOp,Op.intArith,Op.intDiv,Op.intBits,Op.intCmp,Op.shift,Op.stringOp]⟩
  ·obtain ⟨h0,h⟩:=h.out;refine ⟨_,h,fun hc=>?_⟩;have h1:=hx hc;have h2:=hy hc;simp only [rel] at h1 h2;subst h1 h2;exact ⟨.int k (a+b),by simp only [rel],fun w=>by simp [eqGuard,Go.binOp,Op.intArith,Op.intDiv,Op.intBits,Op.intCmp,Op.shift,Op.stringOp,zas (h0 hc)]⟩
 case h_2 k a k' b=>
  obtain ⟨rfl,h⟩:=h;split at h
  ·refine ⟨_,h,fun hc=>?_⟩;have h1:=hx hc;have h2:=hy hc;simp only [rel] at h1 h2;subst h1 h2;exact ⟨.int k (k.wrap (a-b)),by simp only [rel],fun w=>by simp [eqGuard,Go.binOp,Op.intArith,Op.intDiv,Op.intBits,Op.intCmp,Op.shift,Op.stringOp]⟩
  ·obtain ⟨h0,h⟩:=h.out;refine ⟨_,h,fun hc=>?_⟩;have h1:=hx hc;have h2:=hy hc;simp only [rel] at h1 h2;subst h1 h2;exact ⟨.int k (a-b),by simp only [rel],fun w=>by simp [eqGuard,Go.binOp,Op.intArith,Op.intDiv,Op.intBits,Op.intCmp,Op.shift,Op.stringOp,zas (h0 hc)]⟩
 case h_3 k a k' b=>
  obtain ⟨rfl,h⟩:=h;split at h
  ·refine ⟨_,h,fun hc=>?_⟩;have h1:=hx hc;have h2:=hy hc;simp only [rel] at h1 h2;subst h1 h2;exact ⟨.int k (k.wrap (a * b)),by simp only [rel],fun w=>by simp [eqGuard,Go.binOp,Op.intArith,Op.intDiv,Op.intBits,Op.intCmp,Op.shift,Op.stringOp]⟩
  ·obtain ⟨h0,h⟩:=h.out;refine ⟨_,h,fun hc=>?_⟩;have h1:=hx hc;have h2:=hy hc;simp only [rel] at h1 h2;subst h1 h2;exact ⟨.int k (a * b),by simp only [rel],fun w=>by simp [eqGuard,Go.binOp,Op.intArith,Op.intDiv,Op.intBits,Op.intCmp,Op.shift,Op.stringOp,zas (h0 hc)]⟩
 case h_4 k a k' b=>
  obtain ⟨rfl,hb,h⟩:=h;obtain ⟨h0,h⟩:=h.out;refine ⟨_,h,fun hc=>?_⟩;have h1:=hx hc;have h2:=hy hc;simp only [rel] at h1 h2;subst h1 h2;exact ⟨.int k (a.tdiv b),by simp only [rel],fun w=>by simp [eqGuard,Go.binOp,Op.intArith,Op.intDiv,Op.intBits,Op.intCmp,Op.shift,Op.stringOp,zas (h0 hc),hb]⟩
 case h_5 k a k' b=>
  obtain ⟨rfl,h⟩:=h;obtain ⟨h0,h⟩:=h.out;refine ⟨_,h,fun hc=>?_⟩;have h1:=hx hc;have h2:=hy hc;simp only [rel] at h1 h2;subst h1 h2;exact ⟨.int k (a.tmod b),by simp only [rel],fun w=>by simp [eqGuard,Go.binOp,Op.intArith,Op.intDiv,Op.intBits,Op.intCmp,Op.shift,Op.stringOp,h0 hc]⟩
 case h_6 k a k' b=>
  obtain ⟨rfl,h⟩:=h;refine ⟨_,h,fun hc=>?_⟩;have h1:=hx hc;have h2:=hy hc;simp only [rel] at h1 h2;subst h1 h2;exact ⟨.int k (k.wrap ((BitVec.ofInt k.bits a &&& BitVec.ofInt k.bits b).toNat)),by simp only [rel],fun w=>by simp [eqGuard,Go.binOp,Op.intArith,Op.intDiv,Op.intBits,Op.intCmp,Op.shift,Op.stringOp]⟩
 case h_7 k a k' b=>
  obtain ⟨rfl,h⟩:=h;refine ⟨_,h,fun hc=>?_⟩;have h1:=hx hc;have h2:=hy hc;simp only [rel] at h1 h2;subst h1 h2;exact ⟨.int k (k.wrap ((BitVec.ofInt k.bits a ^^^ BitVec.ofInt k.bits b).toNat)),by simp only [rel],fun w=>by simp [eqGuard,Go.binOp,Op.intArith,Op.intDiv,Op.intBits,Op.intCmp,Op.shift,Op.stringOp]⟩
 case h_8 k a yk b=>
  obtain ⟨hb,h⟩:=h;refine ⟨_,h,fun hc=>?_⟩;have h1:=hx hc;have h2:=hy hc;simp only [rel] at h1 h2;subst h1 h2;exact ⟨.int k (a.fdiv (2 ^ (min b.toNat k.bits))),by simp only [rel],fun w=>by simp [eqGuard,Go.binOp,Op.intArith,Op.intDiv,Op.intBits,Op.intCmp,Op.shift,Op.stringOp,show ¬b<0 by omega]⟩
 case h_9 k a k' b=>
  obtain ⟨rfl,h⟩:=h;refine ⟨_,h,fun hc=>?_⟩;have h1:=hx hc;have h2:=hy hc;simp only [rel] at h1 h2;subst h1 h2;exact ⟨.bool (decide (a=b)),by simp only [rel],fun w=>by simp [eqGuard,Go.binOp,Op.intArith,Op.intDiv,Op.intBits,Op.intCmp,Op.shift,Op.stringOp,zb5,bne]⟩
 case h_10 k a k' b=>
  obtain ⟨rfl,h⟩:=h;refine ⟨_,h,fun hc=>?_⟩;have h1:=hx hc;have h2:=hy hc;simp only [rel] at h1 h2;subst h1 h2;exact ⟨.bool (!decide (a=b)),by simp only [rel],fun w=>by simp [eqGuard,Go.binOp,Op.intArith,Op.intDiv,Op.intBits,Op.intCmp,Op.shift,Op.stringOp,zb5,bne]⟩
 case h_11 k a k' b=>
  obtain ⟨rfl,h⟩:=h;refine ⟨_,h,fun hc=>?_⟩;have h1:=hx hc;have h2:=hy hc;simp only [rel] at h1 h2;subst h1 h2;exact ⟨.bool (decide (a<b)),by simp only [rel],fun w=>by simp [eqGuard,Go.binOp,Op.intArith,Op.intDiv,Op.intBits,Op.intCmp,Op.shift,Op.stringOp]⟩
 case h_12 k a k' b=>
  obtain ⟨rfl,h⟩:=h;refine ⟨_,h,fun hc=>?_⟩;have h1:=hx hc;have h2:=hy hc;simp only [rel] at h1 h2;subst h1 h2;exact ⟨.bool (decide (a≤b)),by simp only [rel],fun w=>by simp [eqGuard,Go.binOp,Op.intArith,Op.intDiv,Op.intBits,Op.intCmp,Op.shift,Op.stringOp]⟩
 case h_13 k a k' b=>
  obtain ⟨rfl,h⟩:=h;refine ⟨_,h,fun hc=>?_⟩;have h1:=hx hc;have h2:=hy hc;simp only [rel] at h1 h2;subst h1 h2;exact ⟨.bool (decide (a>b)),by simp only [rel],fun w=>by simp [eqGuard,Go.binOp,Op.intArith,Op.intDiv,Op.intBits,Op.intCmp,Op.shift,Op.stringOp]⟩
 case h_14 k a k' b=>
  obtain ⟨rfl,h⟩:=h;refine ⟨_,h,fun hc=>?_⟩;have h1:=hx hc;have h2:=hy hc;simp only [rel] at h1 h2;subst h1 h2;exact ⟨.bool (decide (a≥b)),by simp only [rel],fun w=>by simp [eqGuard,Go.binOp,Op.intArith,Op.intDiv,Op.intBits,Op.intCmp,Op.shift,Op.stringOp]⟩
 case h_15 a b=>
  obtain ⟨h0,h⟩:=h.out;refine ⟨_,h,fun hc=>?_⟩;have h1:=hx hc;have h2:=hy hc;simp only [rel] at h1 h2;subst h1 h2;exact ⟨.string ⟨(a++b).toArray⟩,by simp only [rel],fun w=>by simp [eqGuard,Go.binOp,Op.intArith,Op.intDiv,Op.intBits,Op.intCmp,Op.shift,Op.stringOp,z25,show ¬(9223372036854775807<(a.length:Int)+(b.length:Int)) by have:=h0 hc;omega,IntKind.max,IntKind.bits,IntKind.signed,ByteArray.size]⟩
 case h_16 a b=>
  refine ⟨_,h,fun hc=>?_⟩;have h1:=hx hc;have h2:=hy hc;simp only [rel] at h1 h2;subst h1 h2;refine ⟨.bool (decide (a=b)),by simp only [rel],fun w=>?_⟩;simp only [eqGuard,Go.binOp,Op.stringOp,zae,zb5];rfl
 case h_17 a b=>
  refine ⟨_,h,fun hc=>?_⟩;have h1:=hx hc;have h2:=hy hc;simp only [rel] at h1 h2;subst h1 h2;refine ⟨.bool (!decide (a=b)),by simp only [rel],fun w=>?_⟩;simp only [eqGuard,Go.binOp,Op.stringOp,zae,zb5];rfl
 case h_18 a b=>
  obtain ⟨ht,h⟩:=h;refine ⟨_,h,fun hc=>?_⟩;have h1:=hx hc;have h2:=hy hc;simp only [rel] at h1 h2;subst h1 h2;refine ⟨.bool (a==b),by simp only [rel],fun w=>?_⟩;simp [eqGuard,Go.binOp,Op.equal,Op.maxDepth,run_equalIn_bool' w _ t a b (zdn hte ht)]
 case h_19 a b=>
  obtain ⟨ht,h⟩:=h;refine ⟨_,h,fun hc=>?_⟩;have h1:=hx hc;have h2:=hy hc;simp only [rel] at h1 h2;subst h1 h2;refine ⟨.bool (!(a==b)),by simp only [rel],fun w=>?_⟩;simp [eqGuard,Go.binOp,Op.equal,Op.maxDepth,run_equalIn_bool' w _ t a b (zdn hte ht)]
 case h_20 a b=>
  split at h
  ·rename_i z hz;refine ⟨_,h,fun hc=>?_⟩;have h1:=hx hc;have h2:=hy hc;refine ⟨.bool z,by simp only [rel],fun w=>?_⟩;obtain ⟨e1,e2⟩:=zmu hte 4 t _ _ z hz vx vy h1 h2;have e1':=e1 10000 (by omega) w;clear hx hy;simp only [rel] at h1 h2;obtain ⟨cs,rfl,h1⟩:=h1;obtain ⟨ds,rfl,h2⟩:=h2;clear e1 h1 h2;simp [run_eqGuard_agg w .eql t ox oy cs ds (e2 _ rfl),run_eql_struct,e1']
  ·exact h.elim
 case h_21 a b=>
  split at h
  ·rename_i z hz;refine ⟨_,h,fun hc=>?_⟩;have h1:=hx hc;have h2:=hy hc;refine ⟨.bool (!z),by simp only [rel],fun w=>?_⟩;obtain ⟨e1,e2⟩:=zmu hte 4 t _ _ z hz vx vy h1 h2;have e1':=e1 10000 (by omega) w;clear hx hy;simp only [rel] at h1 h2;obtain ⟨cs,rfl,h1⟩:=h1;obtain ⟨ds,rfl,h2⟩:=h2;clear e1 h1 h2;simp [run_eqGuard_agg w .neq t ox oy cs ds (e2 _ rfl),run_neq_struct,e1']
  ·exact h.elim
end Go.Vg
end
