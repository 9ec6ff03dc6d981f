/- The reference's reader of documents: one directive, and all of them. -/
import Derived.Test.YtgippllfnmdnpaaGreatDoorUAR
import Derived.Test.YtgippllfnmdnpaaGreatDoorUAL
import Derived.Test.YtgippllfnmdnpaaGreatDoorUAK
import Derived.Test.YtgippllfnmdnpaaGreatDoorUAM
import Derived.ChangeArms
import Derived.ChangeFn
set_option linter.all false
section
namespace Go.Pl
/-- One directive;what follows it is not asked yet. -/
def dr1 (s:Bs) (r:Rd) (y:Bool):Rd:=if drO s r y=false then flt r 13 r.pos else atR (hdR r (drH s r)) (gpE s (en s r.pos))
/-- What a document's directives come to,once there is one. -/
def drQ (s:Bs) (y:Bool) (r:Rd):Rd:=if zgr s r.pos=true then drL s y r else if mkA s r.pos=1 then r else flt r 13 r.pos
theorem drL_t {s:Bs} {y:Bool} {r:Rd} (hd:zgr s r.pos=true) (ho:OkD s r):drL s y r=if (drR s r y).cd≠0 then drR s r y else drL s (drY s r.pos y) (drR s r y):=by
 rw [drL,if_pos hd];by_cases h:(drR s r y).cd≠0
 ·rw [if_pos h,if_pos h]
 ·rw [if_neg h,if_neg h,dif_pos ⟨(z2k ho hd (by simpa using h)).2.2,(zdf hd).2.1⟩]
theorem drL_f {s:Bs} {y:Bool} {r:Rd} (hd:¬zgr s r.pos=true):drL s y r=r:=by rw [drL,if_neg hd]
/-- A round of the loop over directives. -/
theorem dr1_bad {s:Bs} {y:Bool} {r:Rd} (hd:zgr s r.pos=true) (ho:OkD s r) (h:¬(dr1 s r y).cd=0):(drL s y r).ev=(dr1 s r y).ev∧(drL s y r).cd=(dr1 s r y).cd∧(drL s y r).pl=(dr1 s r y).pl:=by
 have h1:drO s r y=false:=by
  cases h1:drO s r y
  ·rfl
  ·exfalso;apply h;unfold dr1;rw [h1];exact ho.cd
 have e:drR s r y=flt (hdR r (drH s r)) 13 r.pos:=by unfold drR;rw [if_pos h1]
 rw [drL_t hd ho,e,if_pos (by simp [flt])];unfold dr1;rw [if_pos h1];exact ⟨rfl,rfl,rfl⟩
theorem dr1_ok {s:Bs} {y:Bool} {r:Rd} (hd:zgr s r.pos=true) (ho:OkD s r) (h:(dr1 s r y).cd=0):drL s y r=drQ s (drY s r.pos y) (dr1 s r y)∧OkD s (dr1 s r y)∧r.pos<(dr1 s r y).pos∧(dr1 s r y).ev=r.ev∧(dr1 s r y).bs=r.bs:=by
 have h1:¬drO s r y=false:=by intro h1;unfold dr1 at h;rw [if_pos h1] at h;simp [flt] at h
 have e:dr1 s r y=atR (hdR r (drH s r)) (gpE s (en s r.pos)):=by unfold dr1;rw [if_neg h1]
 have ep:(dr1 s r y).pos=gpE s (en s r.pos):=by rw [e];rfl
 -- what holds where the next is a mark or directive holds anyway: the state is the same
 have hS:OkD s (dr1 s r y)∧r.pos<(dr1 s r y).pos:=by
  obtain ⟨h37,hl,hla⟩:=zdf hd;have hB:isB s r.pos=false:=by unfold isB;rw [h37];decide
  have k1:=z2f hB;have k2:=uo s r.pos (Nat.le_of_lt hl);have k3:=q8 s (en s r.pos);have k4:=qr s (en s r.pos) k2;rw [e];refine ⟨⟨ho.cd,k4,ho.dn,ho.bs,ho.dp, ?_, ?_, ?_⟩,by simp only [atR];omega⟩
  ·have:=ho.sz;simp only [atR,hdR];omega
  ·have h5:=ho.hd;simp only [atR,hdR,drH]
   repeat' split
   all_goals (try simp only [List.length_append,List.length_singleton]);omega
  ·intro x hx;simp only [atR,hdR,drH] at hx;split at hx
   ·exact ho.pf x hx
   ·rename_i h6;split at hx
    ·rename_i h7;rcases List.mem_append.1 hx with h8 | h8
     ·exact ho.pf x h8
     ·have h9:x=drN s r.pos:=by simpa using h8
      have h10:drO s r y=true:=by simpa using h1
      unfold drO at h10;rw [if_neg h6,if_pos h7] at h10;simp only [Bool.and_eq_true] at h10;have h11:=h10.1;unfold hkO at h11;simp only [Bool.and_eq_true,decide_eq_true_eq] at h11;rw [h9];exact h11.1.2.2
    ·exact ho.pf x hx
 refine ⟨?_,hS.1,hS.2,by rw [e];rfl,by rw [e];rfl⟩;rw [drL_t hd ho];unfold drQ;by_cases h2:mkA s (gpE s (en s r.pos))=1∨zgr s (gpE s (en s r.pos))=true
 ·have e2:drR s r y=dr1 s r y:=by unfold drR;rw [if_neg h1,if_pos h2,e]
  rw [e2,if_neg (by simpa using h)];by_cases h3:zgr s (dr1 s r y).pos=true
  ·rw [if_pos h3]
  ·rw [if_neg h3,drL_f h3,if_pos (by rw [ep] at h3 ⊢;exact h2.resolve_right h3)]
 ·have e2:drR s r y=flt (dr1 s r y) 13 (dr1 s r y).pos:=by unfold drR;rw [if_neg h1,if_neg h2,ep,e]
  rw [e2,if_pos (by simp [flt]),if_neg (by rw [ep];exact fun h3=>h2 (.inr h3)),if_neg (by rw [ep];exact fun h3=>h2 (.inl h3))]
end Go.Pl
namespace Go.Pl
theorem nmS_self {l:List Ev} {d:List Bool}:nmS l d l.length=[]:=by unfold nmS;rw [zwi];rfl
end Go.Pl
namespace Go.Pl
/-- What the reference tells of a text. -/
def psB (s:Bs):List Ev:=if 60000<s.length then [evS,evF 1 s.length] else psA s
end Go.Pl
namespace Go.Pl
theorem gpE_idem (s:Bs) (p:Nat):gpE s (gpE s p)=gpE s p:=by
 fun_induction gpE s p with
 | case1 p h h1 ih=>exact ih
 | case2 p h h1 h2 ih=>exact ih
 | case3 p h h1 h2=>exact gpE_f h1 (by simpa using h2)
 | case4 p h=>exact zsz h
end Go.Pl
end
section
namespace Go.Vg
variable [Go.Vg.Glob]
open Go.Pl
def wr (a:Int):Int:=IntKind.wrap .i64 a
end Go.Vg
namespace Go.Vg
variable [Go.Vg.Glob]
open Go.Pl
end Go.Vg
namespace Go.Vg
variable [Go.Vg.Glob]
open Go.Pl
end Go.Vg
namespace Go.Vg
variable [Go.Vg.Glob]
open Go.Pl
end Go.Vg
namespace Go.Vg
variable [Go.Vg.Glob]
open Go.Pl
end Go.Vg
namespace Go.Vg
variable [Go.Vg.Glob]
open Go.Pl
end Go.Vg
namespace Go.Vg
variable [Go.Vg.Glob]
theorem zof {l m:List UInt8}:l.map j7=m.map j7↔l=m:=zbw fun a b h=>by simp only [j7,List.cons.injEq,SV.i.injEq,and_true,true_and] at h;exact UInt8.toNat_inj.1 (by omega)
end Go.Vg
namespace Go.Vg
variable [Go.Vg.Glob]
open Go.Pl
end Go.Vg
namespace Go.Vg
variable [Go.Vg.Glob]
open Go.Pl
end Go.Vg
namespace Go.Vg
variable [Go.Vg.Glob]
open Go.Pl
end Go.Vg
namespace Go.Vg
variable [Go.Vg.Glob]
open Go.Pl
end Go.Vg
namespace Go.Vg
variable [Go.Vg.Glob]
open Go.Pl
end Go.Vg
namespace Go.Vg
variable [Go.Vg.Glob]
open Go.RowKit
end Go.Vg
namespace Go.Vg
variable [Go.Vg.Glob]
open Go.Pl
end Go.Vg
namespace Go.Vg
variable [Go.Vg.Glob]
open Go.Pl
end Go.Vg
end
section
namespace Go.Pl
def byI (z:Int):UInt8:=UInt8.ofNat (z.toNat % 256)
/-- Lines' ends made one. -/
def nrm:Bs→Bs
 | []=>[]
 | x::r=>if x≠13 then x::nrm r else if r.getD 0 0=10 then nrm r else 10::nrm r
def bom (b:Bs):Bool:=decide (3≤b.length)&&decide (b.getD 0 0=239)&&decide (b.getD 1 0=187)&&decide (b.getD 2 0=191)
def zsn (b:Bs):Bs:=nrm (if bom b=true then b.drop 3 else b)
/-- The text of some bytes,or a code. -/
def nmB (b:Bs):Bs×Int:=if 60000<b.length then ([],1) else if clA (zsn b) 0≠(zsn b).length then ([],2) else (zsn b,0)
theorem z01:∀ b:Bs,(nrm b).length≤b.length
 | []=>Nat.le_refl _
 | x::r=>by
  have:=z01 r;unfold nrm
  repeat' split
  all_goals simp only [List.length_cons];omega
theorem zn3 (b:Bs):(zsn b).length≤b.length:=by
 unfold zsn;have h1:=z01 (if bom b=true then b.drop 3 else b);split at h1<;>rename_i h2
 ·rw [if_pos h2];rw [List.length_drop] at h1;omega
 ·rw [if_neg h2];exact h1
theorem zso (b:Bs):(nmB b).1.length≤60000:=by
 have:=zn3 b;unfold nmB
 repeat' split
 all_goals simp only [List.length_nil];omega
theorem zca {b:Bs} {i:Nat} (h:i<b.length):nrm (b.drop i)=if b.getD i 0≠13 then b.getD i 0::nrm (b.drop (i+1)) else if b.getD (i+1) 0=10 then nrm (b.drop (i+1)) else 10::nrm (b.drop (i+1)):=by
 have e:b.drop i=b.getD i 0::b.drop (i+1):=by rw [List.getD_eq_getElem?_getD,List.getElem?_eq_getElem h];exact (List.getElem_cons_drop (h:=h)).symm
 rw [e,nrm];have e2:(b.drop (i+1)).getD 0 0=b.getD (i+1) 0:=by simp [List.getD_eq_getElem?_getD,List.getElem?_drop]
 rw [e2]
end Go.Pl
end
section
namespace Go.Vg
variable [Go.Vg.Glob]
end Go.Vg
end
section
namespace Go.Pl
/-- A text that is not too long. -/
class Sm (s:Bs):Prop where
 le:s.length≤1048576
theorem pbA_len (b:Bs):(if (nmB b).2=0 then psA (nmB b).1 else [evS,evF 1 0]).length≤480080:=by
 have hl:=zso b;split
 ·have h1:=zz3 (s:=(nmB b).1) (by omega);unfold psA psE;split
  ·show 2≤480080;decide
  ·split
   ·show 2≤480080;decide
   ·split
    ·simp only [List.length_append,List.length_cons,List.length_nil];omega
    ·omega
 ·show 2≤480080;decide
end Go.Pl
end
section
namespace Go.Vg
variable [Go.Vg.Glob]
open Go.RowKit
def fits (te:TE):Nat→TypeId→List SV→Prop
 | 0,_,_=>False
 | n+1,t,xs=>match te t with
  | none=>False
  | some ti=>match ti.td with
   | .bool=>∃ b,xs=[.b b]
   | .int k=>∃ m,xs=[.i k m]∧inR k m
   | .str=>∃ l,xs=[.s l]∧l.length≤9223372036854775807
   | .slice e=>∃ l,xs=[.fs (j8 te e) l]∧l.length≤9223372036854775807∧∀ y∈l,fits te n e y
   | .struct fs=>xs.length=ti.size∧∀ f∈fs,fits te n f.1 ((xs.drop f.2).take (j8 te f.1))
   | _=>False
def tile (te:TE):Nat→List (TypeId×Nat)→Option Nat
 | off,[]=>some off
 | off,f::r=>if f.2=off then tile te (off+j8 te f.1) r else none
def zfr (te:TE):Nat→TypeId→Bool
 | 0,_=>false
 | n+1,t=>match te t with
  | none=>false
  | some ti=>match ti.td with
   | .bool=>ti.size==1
   | .int k=>(k == .i64||k == .u8||k == .i32)&&ti.size==1
   | .str=>ti.size==1
   | .slice e=>ti.size==1&&zfr te n e&&decide (0<j8 te e)
   | .struct fs=>tile te 0 fs==some ti.size&&fs.all fun f=>zfr te n f.1
   | _=>false
theorem zfx {P:Program} {te:TE} (hte:vh P te) {t:TypeId} {ti:TI} (h:te t=some ti):P.cellsOf t=ti.size:=by obtain ⟨i,hi,hs,_⟩:=(hte t ti h).info;simp [Program.cellsOf,hi,hs]
theorem wf_inR {k:IntKind} {n:Int} (hk:(k == .i64||k == .u8||k == .i32)=true) (h:(Lit.int k n).wf=true):inR k n:=by cases k<;>simp at hk<;>simp only [inR]<;>simp [Lit.wf,IntKind.min,IntKind.max,IntKind.bits,IntKind.signed] at h<;>omega
section
variable {H:Type} {enc:TypeId×Value→H} {P:Program} {w:World} {base:Nat} {spare:Nat→Bool} {held:Bool} {te:TE}
theorem zo0 (hte:vh P te) {n:Nat}
  (ih:∀ (t:TypeId) (cs:List Value) (m:Nat) (x:DataW H×List MemPlace),zfr te n t=true→DataW.trod enc P w base spare held m t cs=some x→∃ xs,fits te n t xs∧relL ⟨fun _=>none,fun b=>w.heap[b]?⟩ xs cs∧plainL xs=true∧xs.length=j8 te t) (m:Nat) (cs:List Value) :
  ∀ (fs:List (TypeId×Nat)) (off tot:Nat),tile te off fs=some tot→cs.length=tot→(∀ f∈fs,zfr te n f.1=true)→(∀ f∈fs,∃ x,DataW.trod enc P w base spare held m f.1 ((cs.drop f.2).take (j8 te f.1))=some x) →
   off≤tot∧∃ xs,relL ⟨fun _=>none,fun b=>w.heap[b]?⟩ xs (cs.drop off)∧plainL xs=true∧∀ f∈fs,off≤f.2∧fits te n f.1 ((xs.drop (f.2-off)).take (j8 te f.1))
 | [],off,tot,ht,hl,_,_=>by
  simp only [tile,Option.some.injEq] at ht;subst ht;refine ⟨Nat.le_refl _,[], ?_,rfl,by simp⟩;rw [List.drop_of_length_le (by omega)];simp [relL]
 | f::r,off,tot,ht,hl,hk,hx=>by
  simp only [tile] at ht;split at ht
  case isFalse=>cases ht
  rename_i hoff;obtain ⟨hle,ys,h1,h2,h3⟩:=zo0 hte ih m cs r _ tot ht hl (fun g hg=>hk g (List.mem_cons_of_mem _ hg)) (fun g hg=>hx g (List.mem_cons_of_mem _ hg));obtain ⟨x,hx0⟩:=hx f (by simp);obtain ⟨xs,g1,g2,g3,g4⟩:=ih f.1 _ m x (hk f (by simp)) hx0;refine ⟨by omega,xs++ys, ?_, ?_,fun g hg=>?_⟩
  ·have:cs.drop off=(cs.drop off).take (j8 te f.1)++cs.drop (off+j8 te f.1):=by rw [←List.drop_drop,List.take_append_drop]
   rw [this];rw [hoff] at g2;exact vu g2 h1
  ·have:∀ (a b:List SV),plainL a=true→plainL b=true→plainL (a++b)=true:=by
    intro a
    induction a with
    | nil=>intro b _ hb;exact hb
    | cons y ys ih=>intro b ha hb;simp only [List.cons_append,plainL,Bool.and_eq_true] at ha ⊢;exact ⟨ha.1,ih b ha.2 hb⟩
   exact this _ _ g3 h2
  ·rcases List.mem_cons.1 hg with rfl | hg
   ·refine ⟨by omega, ?_⟩;rw [hoff,Nat.sub_self,List.drop_zero,List.take_append_of_le_length (by omega),List.take_of_length_le (by omega)];exact g1
   ·obtain ⟨k1,k2⟩:=h3 g hg;refine ⟨by omega, ?_⟩;have:(xs++ys).drop (g.2-off)=ys.drop (g.2-(off+j8 te f.1)):=by rw [List.drop_append];rw [List.drop_of_length_le (by omega),List.nil_append];congr 1;omega
    rw [this];exact k2
theorem zoz (hte:vh P te):∀ (n:Nat) (t:TypeId) (cs:List Value) (m:Nat) (x:DataW H×List MemPlace),zfr te n t=true→DataW.trod enc P w base spare held m t cs=some x →
  ∃ xs,fits te n t xs∧relL ⟨fun _=>none,fun b=>w.heap[b]?⟩ xs cs∧plainL xs=true∧xs.length=j8 te t
 | 0,_,_,_,_,h,_=>by simp [zfr] at h
 | n+1,t,cs,m,x,h,hx=>by
  have ih:=zoz hte n;simp only [zfr] at h;cases hti:te t with
  | none=>rw [hti] at h;cases h
  | some ti=>
   rw [hti] at h;simp only at h;have htd:tdOf te t=ti.td:=by simp [tdOf,hti]
   have hsz:j8 te t=ti.size:=by simp [j8,hti]
   simp only [fits,hti];cases hd:ti.td with
   | bool=>
    rw [hd] at h htd;simp only [beq_iff_eq] at h;obtain ⟨b,rfl,_⟩:=DataW.trod_bool (zdn hte htd) hx;exact ⟨[.b b],⟨b,rfl⟩,by simp [relL,rel],rfl,by simp [hsz,h]⟩
   | int k=>
    rw [hd] at h htd;simp only [Bool.and_eq_true,beq_iff_eq] at h;obtain ⟨v,rfl,_,hw⟩:=DataW.trod_int (vq hte htd) hx;exact ⟨[.i k v],⟨v,rfl,wf_inR h.1 hw⟩,by simp [relL,rel],rfl,by simp [hsz,h.2]⟩
   | str=>
    rw [hd] at h htd;simp only [beq_iff_eq] at h;obtain ⟨s,rfl,_,hsl⟩:=DataW.trod_string (jy hte htd) hx;exact ⟨[.s s.data.toList],⟨_,rfl,by rw [Array.length_toList,ByteArray.size_data];exact Nat.le_trans hsl (by decide)⟩,by simp [relL,rel],rfl,by simp [hsz,h]⟩
   | slice e=>
    rw [hd] at h htd;simp only [Bool.and_eq_true,beq_iff_eq,decide_eq_true_eq] at h;obtain ⟨⟨h1,h2⟩,h3⟩:=h;obtain ⟨tj,htj⟩:∃ tj,te e=some tj:=by
     cases hq:te e with
     | none=>simp [j8,hq] at h3
     | some tj=>exact ⟨tj,rfl⟩
    have hce:P.cellsOf e=j8 te e:=by rw [zfx hte htj];simp [j8,htj]
    rcases DataW.trod_slice (qz hte htd) hx with ⟨rfl,_⟩ | ⟨a,len,cap,elems,rest,m',_,rfl,_,_,hlc,hcm,hel,hget,_⟩
    ·exact ⟨[.fs (j8 te e) []],⟨[],rfl,by simp,by simp⟩,by simp [relL,rel],rfl,by simp [hsz,h1]⟩
    ·-- the elements,one by one
     have each:∀ i,i<len→∃ ys,fits te n e ys∧ys.length=j8 te e∧∃ cs',w.cells? base (a.add (i * j8 te e)) (j8 te e)=some cs'∧relL ⟨fun _=>none,fun b=>w.heap[b]?⟩ ys cs'∧plainL ys=true:=by intro i hi;have:=hget i hi;rw [List.getElem?_eq_getElem (by omega),hce] at this;obtain ⟨cs',g1,g2⟩:=Option.bind_eq_some_iff.1 this;obtain ⟨ys,k1,k2,k3,k4⟩:=ih e cs' m' _ h2 g2;exact ⟨ys,k1,k4,cs',g1,k2,k3⟩
     let L:List (List SV):=(List.range len).map fun i=>if hi:i<len then Classical.choose (each i hi) else []
     have hL:∀ i y,L[i]?=some y→∃ hi:i<len,y=Classical.choose (each i hi):=by
      intro i y hy;simp only [L,List.getElem?_map,Option.map_eq_some_iff] at hy;obtain ⟨j,hj,rfl⟩:=hy;have hi:i<len:=by have:=(List.getElem?_eq_some_iff.1 hj).1;simpa using this
      rw [List.getElem?_range hi] at hj;cases hj;exact ⟨hi,by rw [dif_pos hi]⟩
     have hlen:L.length=len:=by simp [L]
     refine ⟨[.fs (j8 te e) L],⟨L,rfl,by rw [hlen];exact Nat.le_trans hlc (Nat.le_trans hcm (by decide)),fun y hy=>?_⟩, ?_,rfl,by simp [hsz,h1]⟩
     ·obtain ⟨i,hi⟩:=List.mem_iff_getElem?.1 hy;obtain ⟨hlt,rfl⟩:=hL i y hi;exact (Classical.choose_spec (each i hlt)).1
     ·simp only [relL,rel];refine ⟨_,_,rfl,⟨some a,cap,by rw [hlen],by rw [hlen];exact hlc, ?_⟩,rfl⟩;by_cases h0:len=0
      ·left;exact List.length_eq_zero_iff.1 (by omega)
      right
      -- the block
      have cell:∀ i k,i<len→k<j8 te e→∃ v,w.cell? (a.add (i * j8 te e+k))=some v:=by
       intro i k hi hk;obtain ⟨ys,_,hy,cs',g1,g2,_⟩:=each i hi;have hl:=y4 g2;unfold World.cells? at g1;split at g1
       ·have:=mapM_some_get g1 k k (by simp [hk]);have e1:(a.add (i * j8 te e)).add k=a.add (i * j8 te e+k):=by unfold Addr.add;split<;>split<;>(try split)<;>simp_all<;>omega
        rw [e1] at this;exact ⟨cs'[k]'(by omega),by rw [this];exact List.getElem?_eq_getElem _⟩
       ·cases g1
      obtain ⟨v0,hv0⟩:=cell 0 0 (by omega) h3;have hadd0:a.add (0 * j8 te e+0)=a:=by simp [Addr.add]
      rw [hadd0] at hv0;obtain ⟨ab,ao,asp⟩:=a;unfold World.cell? at hv0;split at hv0
      ·rename_i c el fr hheap;have hsp:asp=none:=by
        cases asp with
        | none=>rfl
        | some q=>simp at hv0
       subst hsp;refine ⟨ab,ao,c,el,fr,rfl,hheap,ub fun j y hy=>?_⟩;obtain ⟨hlt,rfl⟩:=hL j y hy;obtain ⟨_,hy2,cs',g1,g2,g3⟩:=Classical.choose_spec (each j hlt);refine ⟨hy2, ?_⟩;have hcs:cs'=((c.toList.drop ao).drop (j * j8 te e)).take (j8 te e):=by
        have hl:=y4 g2;apply List.ext_getElem?;intro k;unfold World.cells? at g1;split at g1
        ·by_cases hk:k<j8 te e
         ·have:=mapM_some_get g1 k k (by simp [hk]);rw [zez,zez,zev hheap] at this;rw [←this,List.getElem?_take,if_pos hk,List.getElem?_drop,List.getElem?_drop];simp [Nat.add_assoc]
         ·rw [List.getElem?_eq_none (by omega),List.getElem?_take,if_neg hk]
        ·cases g1
       rw [←hcs];exact g2
      ·cases hv0
   | struct fs=>
    rw [hd] at h htd;simp only [Bool.and_eq_true,beq_iff_eq,List.all_eq_true] at h;obtain ⟨ff,hff,hmap,_⟩:=xy hte htd;obtain ⟨xs,m',_,_,hl,hxl,hget⟩:=DataW.trod_struct hff hx;rw [zfx hte hti] at hl;obtain ⟨_,ys,h1,h2,h3⟩:=zo0 hte (fun t cs m x=>ih t cs m x) m' cs fs 0 ti.size h.1 hl (fun f hf=>h.2 f hf) (fun f hf=>by
     rw [←hmap] at hf;obtain ⟨g,hg,rfl⟩:=List.mem_map.1 hf;obtain ⟨i,hi⟩:=List.mem_iff_getElem?.1 hg;have hi':ff[i]?=some g:=by simpa using hi
     have:=hget i g hi';have hlt:i<xs.length:=by have:=(List.getElem?_eq_some_iff.1 hi).1;simp at this;omega
     have hk:=h.2 (g.type,g.offset) (by rw [←hmap];exact hf);have hce:P.cellsOf g.type=j8 te g.type:=by
      cases hq:te g.type with
      | none=>
       cases n with
       | zero=>simp [zfr] at hk
       | succ n=>simp [zfr,hq] at hk
      | some tj=>rw [zfx hte hq];simp [j8,hq]
     rw [hce] at this;exact ⟨xs[i],by rw [this];exact List.getElem?_eq_getElem hlt⟩)
    rw [List.drop_zero] at h1;have hyl:ys.length=ti.size:=by rw [y4 h1];exact hl
    exact ⟨ys,⟨hyl,fun f hf=>by have:=(h3 f hf).2;simpa using this⟩,h1,h2,by rw [hsz];exact hyl⟩
   | map _ _=>rw [hd] at h;cases h
   | other=>rw [hd] at h;cases h
end
theorem zmq {α β:Type} {f:α→β} {p:α→Prop}:∀ {l:List β},(∀ y∈l,∃ e,p e∧y=f e)→∃ es:List α,l=es.map f∧∀ e∈es,p e
 | [],_=>⟨[],rfl,by simp⟩
 | y::ys,h=>by obtain ⟨e,h1,rfl⟩:=h y (by simp);obtain ⟨es,h2,h3⟩:=zmq fun z hz=>h z (List.mem_cons_of_mem _ hz);exact ⟨e::es,by simp [h2],by simp [h1];exact h3⟩
def fitsV (te:TE) (n:Nat) (t:TypeId) (y:SV):Prop:=if (tdOf te t).isStruct then ∃ xs,y=.agg xs∧fits te n t xs else fits te n t [y]
theorem zw4 {H:Type} {enc:TypeId×Value→H} {P:Program} {w:World} {base:Nat} {spare:Nat→Bool} {held:Bool} {te:TE} (hte:vh P te) {n:Nat} {t:TypeId} (hk:zfr te n t=true) {v:Value} {d:DataW H} {ps:List MemPlace}
  {re:Reach} {b0:Nat} (hv:Value.okWide P w re b0 t v) (h:DataW.Trod enc P w base spare held t v d ps):∃ y,fitsV te n t y∧rel ⟨fun _=>none,fun b=>w.heap[b]?⟩ y v:=by
 obtain ⟨fuel,hf⟩:=h;obtain ⟨xs,h1,h2,h3,h4⟩:=zoz hte n t _ _ _ hk hf;cases n with
 | zero=>simp [zfr] at hk
 | succ n=>
 simp only [zfr] at hk;cases hti:te t with
 | none=>rw [hti] at hk;cases hk
 | some ti=>
  rw [hti] at hk;simp only at hk;have htd:tdOf te t=ti.td:=by simp [tdOf,hti]
  have hsz:j8 te t=ti.size:=by simp [j8,hti]
  rw [hsz] at h4;have one:ti.size=1→(∀ cs,v≠.agg cs)→∃ y,xs=[y]∧rel ⟨fun _=>none,fun b=>w.heap[b]?⟩ y v:=by
   intro hs hne;obtain ⟨y,rfl⟩:∃ y,xs=[y]:=by
    match xs,h4 with
    | [y],_=>exact ⟨y,rfl⟩
    | [],h=>rw [hs] at h;simp at h
    | _::_::_,h=>rw [hs] at h;simp at h
   refine ⟨y,rfl, ?_⟩;have hc:v.cells.toList=[v]:=by cases v<;>first | rfl | exact absurd rfl (hne _)
   rw [hc] at h2;simp only [relL] at h2;obtain ⟨u,r,e,hr,rfl⟩:=h2;cases e;exact hr
  unfold fitsV;rw [htd];cases hd:ti.td with
  | bool=>
   rw [hd] at hk htd;have hu:=zdn hte htd;obtain ⟨y,rfl,hr⟩:=one (by simpa using hk) (fun cs e=>by subst e;simp [Value.okWide,Cell.okWide,Cell.ok,hu] at hv);exact ⟨y,by simpa [TD.isStruct] using h1,hr⟩
  | int k=>
   rw [hd] at hk htd;have hu:=vq hte htd;obtain ⟨y,rfl,hr⟩:=one (by simp at hk;exact hk.2) (fun cs e=>by subst e;simp [Value.okWide,Cell.okWide,Cell.ok,hu] at hv);exact ⟨y,by simpa [TD.isStruct] using h1,hr⟩
  | str=>
   rw [hd] at hk htd;have hu:=jy hte htd;obtain ⟨y,rfl,hr⟩:=one (by simpa using hk) (fun cs e=>by subst e;simp [Value.okWide,Cell.okWide,Cell.ok,hu] at hv);exact ⟨y,by simpa [TD.isStruct] using h1,hr⟩
  | slice e=>
   rw [hd] at hk htd;have hu:=qz hte htd;obtain ⟨y,rfl,hr⟩:=one (by simp at hk;exact hk.1.1) (fun cs e=>by subst e;simp [Value.okWide,Cell.okWide,Cell.ok,hu] at hv);exact ⟨y,by simpa [TD.isStruct] using h1,hr⟩
  | struct fs=>
   rw [hd] at hk htd;obtain ⟨ff,hff,_⟩:=xy hte htd;have:∃ cs,v=.agg cs:=by simp only [Value.okWide,hff] at hv;obtain ⟨cs,e,_⟩:=hv;exact ⟨cs,e⟩
   obtain ⟨cs,rfl⟩:=this;refine ⟨.agg xs,by simp only [TD.isStruct,if_true];exact ⟨xs,rfl,h1⟩, ?_⟩;simp only [rel];exact ⟨cs,rfl,h2⟩
  | map _ _=>rw [hd] at hk;cases hk
  | other=>rw [hd] at hk;cases hk
end Go.Vg
end
section
namespace Go.Vg
theorem zjq {w w':World} {b i:Nat} {o:Obj} {v:Value} (h1:w.heap[b]?=some o) (h2:w'.heap[b]?=some o) (h:w.cell? ⟨b,i,none⟩=some v):w'.cell? ⟨b,i,none⟩=some v:=by unfold World.cell? at h ⊢;simp only [h1] at h;simp only [h2];exact h
theorem zq6 {w:World} {b i:Nat} {v:Value} (h:w.cell? ⟨b,i,none⟩=some v):∃ o,w.heap[b]?=some o:=by
 cases ho:w.heap[b]? with
 | none=>unfold World.cell? at h;simp [ho] at h
 | some o=>exact ⟨o,rfl⟩
theorem zs0 [Glob] {a b:Nat} {w:World} (h:Go.Lib.Utf8Tabs a b w) (ha:Glob.g a=w.heap[a]?) (hb:Glob.g b=w.heap[b]?):GlobTabs a b:=by obtain ⟨oa,ha'⟩:=zq6 (h.1 0 (by decide));obtain ⟨ob,hb'⟩:=zq6 (h.2 0 (by decide)).1;refine ⟨oa,ob,ha.trans ha',hb.trans hb',fun w' h1 h2=>⟨fun c hc=>zjq ha' h1 (h.1 c hc),fun i hi=>⟨zjq hb' h2 (h.2 i hi).1,zjq hb' h2 (h.2 i hi).2⟩⟩⟩
end Go.Vg
end
