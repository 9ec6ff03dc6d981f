/- Own text: part TAC. -/
import Derived.Test.YtgippllfnmdnpaaGreatDoorTAB
import Derived.Laws.Append
import Derived.Laws.BytesString
import Derived.MapKept
section
set_option linter.unusedVariables false
set_option linter.unusedSimpArgs false
set_option linter.unusedSectionVars false
set_option linter.unnecessarySimpa false
namespace Go.Vg
variable [Go.Vg.Glob]
open Go.RowKit
theorem zll {P:Program} {A:Amb} {σ:Asg} {st:St} {a:Act} {w:World} (hR:Rel A σ st a w) {elem:TypeId} {cells:Array Value} {sz n cap:Nat} {f:Nat→List SV}
  (hcs:cells.size=cap * sz) (hn:n≤cap) (hc:∀ i k,i<n→k<sz→∃ v,cells[i * sz+k]?=some v∧rel σ ((f i).getD k .u) v) :
  ∃ σ' w',(newRow elem cells).run P w=.ok ⟨w.heap.size,0,none⟩ w'∧leA σ σ'∧rel σ' (.slc st.ctx.length 0 n) (.slice (some ⟨w.heap.size,0,none⟩) n cap)∧Rel A σ' (newRowS st sz n f) a w':=by
 have hq:σ st.ctx.length=none:=hR.sat.beyond _ (Nat.le_refl _)
 obtain ⟨h1,h2⟩:=hR.alloc (.cells cells elem) (.row false sz n f) ⟨w.heap.size,0,cells.size,sz⟩ rfl
  (zj4 rfl rfl (by simp only [SO.n,SO.sz,hcs];exact Nat.mul_le_mul_right _ hn) hc hq)
 refine ⟨_,_, ?_,h1, ?_,h2⟩
 ·simp [newRow]
 ·simp only [rel]
  exact ⟨_,_,rfl,hn,.inr ⟨⟨w.heap.size,0,cells.size,sz⟩,by simp [zdn],by simp [vp],by simp [hcs]⟩⟩
theorem zel (b off j:Nat):(⟨b,off,none⟩:Addr).add j=⟨b,off+j,none⟩:=by
 unfold Addr.add
 split
 ·rename_i h;simp [h]
 ·rfl
theorem zeg {w:World} {b off:Nat} {c:Array Value} {e:TypeId} {fr:Nat×Nat} (h:w.heap[b]?=some (.cells c e fr)):w.cell? ⟨b,off,none⟩=c[off]?:=by
 simp [World.cell?,h]
theorem zfp {P:Program} {w:World} {b off:Nat} {c:Array Value} {e:TypeId} {fr:Nat×Nat} (h:w.heap[b]?=some (.cells c e fr)) :
  ∀ (vs:List Value) (i:Nat) (acc:Array Value),(∀ (j:Nat) (v:Value),vs[j]?=some v→c[off+i+j]?=some v)→(loadCellsFrom ⟨b,off,none⟩ i vs.length acc).run P w=.ok (acc++vs.toArray) w
 | [],i,acc,_=>by simp [loadCellsFrom]
 | v::vs,i,acc,hv=>by
  have h0:=hv 0 v rfl
  simp only [List.length_cons,loadCellsFrom,Sem.run_bind,run_load,zel,zeg h]
  rw [show off+i+0=off+i from rfl] at h0
  simp only [h0,Result.andThen_ok]
  rw [zfp h vs (i+1) (acc.push v) (fun j u hj=>by
   have:=hv (j+1) u (by simpa using hj)
   rw [show off+(i+1)+j=off+i+(j+1) by omega];exact this)]
  simp
theorem kj {P:Program} {w:World} {b off:Nat} {c:Array Value} {e:TypeId} {fr:Nat×Nat} (h:w.heap[b]?=some (.cells c e fr))
  (vs:List Value) (hv:∀ (j:Nat) (v:Value),vs[j]?=some v→c[off+j]?=some v):(loadCells ⟨b,off,none⟩ vs.length).run P w=.ok vs.toArray w:=by
 unfold loadCells
 rw [zfp h vs 0 #[] (by simpa using hv)]
 simp
/-- The cells of a stretch of an object,as a list. -/
theorem zfg {σ:Asg} {w:World} {L:Loc} {o:SO} {c:Array Value} {e:TypeId} {fr:Nat×Nat} (h:cellsAt σ w L o c e fr) {i k n:Nat} (hi:i<o.n) (hk:k+n≤o.sz) :
  ∃ vs:List Value,vs.length=n∧(∀ (j:Nat) (v:Value),vs[j]?=some v→c[L.sh+i * L.sz+k+j]?=some v)∧∀ (j:Nat) (v:Value),vs[j]?=some v→rel σ ((o.el i).getD (k+j) .u) v:=by
 induction n with
 | zero=>exact ⟨[],rfl,by simp,by simp⟩
 | succ n ih=>
  obtain ⟨vs,h1,h2,h3⟩:=ih (by omega)
  obtain ⟨v,h4,h5⟩:=h.cell i (k+n) hi (by omega)
  rw [←h.lsz] at h4
  refine ⟨vs++[v],by simp [h1],fun j u hj=>?_,fun j u hj=>?_⟩
  ·rw [List.getElem?_append] at hj
   split at hj
   ·exact h2 j u hj
   ·have:j-vs.length=0:=by
     rcases Nat.eq_zero_or_pos (j-vs.length) with h0 | h0
     ·exact h0
     ·rw [List.getElem?_eq_none (by simp;omega)] at hj;cases hj
    rw [this] at hj
    simp at hj
    subst hj
    have hjn:j=n:=by omega
    subst hjn
    rw [show L.sh+i * L.sz+k+j=L.sh+i * L.sz+(k+j) by omega]
    exact h4
  ·rw [List.getElem?_append] at hj
   split at hj
   ·exact h3 j u hj
   ·have:j-vs.length=0:=by
     rcases Nat.eq_zero_or_pos (j-vs.length) with h0 | h0
     ·exact h0
     ·rw [List.getElem?_eq_none (by simp;omega)] at hj;cases hj
    rw [this] at hj
    simp at hj
    subst hj
    have hjn:j=n:=by omega
    subst hjn
    exact h5
def q7:SV→Bool
 | .b _ | .i _ _ | .s _ | .ptr _ _ _ | .slc _ _ _ | .nils | .mp _ | .fn _ | .fs _ _ | .fp _ _=>true
 | _=>false
theorem zfa {σ:Asg} {x:SV} {v:Value} (h:q7 x=true) (hr:rel σ x v):v.oneCell'=true:=by
 cases x<;>simp only [q7,Bool.false_eq_true] at h<;>simp only [rel] at hr
 case b=>subst hr;rfl
 case i=>subst hr;rfl
 case s=>subst hr;rfl
 case ptr=>obtain ⟨_,_,rfl⟩:=hr;rfl
 case slc=>obtain ⟨_,_,rfl,_⟩:=hr;rfl
 case nils=>subst hr;rfl
 case mp=>obtain ⟨_,_,rfl⟩:=hr;rfl
 case fn=>subst hr;rfl
 case fs=>obtain ⟨_,_,rfl,_⟩:=hr;rfl
 case fp=>obtain ⟨_,_,_,_,_,rfl,_⟩:=hr;rfl
/-- Cells of an array written one behind the other. -/
def zah (c:Array Value) (off:Nat):List Value→Array Value
 | []=>c
 | v::vs=>zah (c.setIfInBounds off v) (off+1) vs
theorem uj (c:Array Value):∀ (vs:List Value) (off:Nat),(zah c off vs).size=c.size
 | [],_=>rfl
 | v::vs,off=>by simp [zah,uj _ vs]
theorem zev:∀ (vs:List Value) (c:Array Value) (off x:Nat),off+vs.length≤c.size→(zah c off vs)[x]?=if off≤x∧x<off+vs.length then vs[x-off]? else c[x]?
 | [],c,off,x,_=>by
  simp only [zah,List.length_nil]
  rw [if_neg (by omega)]
 | v::vs,c,off,x,h=>by
  simp only [List.length_cons] at h
  simp only [zah]
  rw [zev vs _ (off+1) x (by simp;omega)]
  simp only [List.length_cons]
  by_cases h1:off+1≤x∧x<off+1+vs.length
  ·rw [if_pos h1,if_pos (by omega)]
   obtain ⟨y,hy⟩:∃ y,x-off=y+1:=⟨x-off-1,by omega⟩
   rw [hy,List.getElem?_cons_succ,show x-(off+1)=y by omega]
  ·rw [if_neg h1,Array.getElem?_setIfInBounds]
   by_cases h2:off=x
   ·subst h2
    rw [if_pos rfl,if_pos (by omega)]
    simp
   ·rw [if_neg h2,if_neg (by omega)]
theorem u7 {P:Program} {b off:Nat} {e:TypeId} {fr:Nat×Nat}:∀ (vs:List Value) (i:Nat) (w:World) (c:Array Value),w.heap[b]?=some (.cells c e fr) →
  (∀ v∈vs,v.oneCell'=true)→off+i+vs.length≤c.size→(∀ x,x<c.size→¬(fr.1≤x∧x<fr.2)) →
  (storeCells ⟨b,off,none⟩ vs i).run P w=.ok () { w with heap:=w.heap.setIfInBounds b (.cells (zah c (off+i) vs) e fr) }
 | [],i,w,c,h,_,_,_=>by
  simp only [storeCells,zah,Sem.run_pure]
  congr 1
  have hb:b<w.heap.size:=by
   rcases Nat.lt_or_ge b w.heap.size with h1 | h1
   ·exact h1
   ·rw [Array.getElem?_eq_none h1] at h;cases h
  have:w.heap.setIfInBounds b (.cells c e fr)=w.heap:=by
   apply Array.ext_getElem?
   intro j
   rw [Array.getElem?_setIfInBounds]
   split
   ·rename_i hj;subst hj;rw [h]
   ·rfl
  rw [this]
 | v::vs,i,w,c,h,hv,hl,hf=>by
  simp only [List.length_cons] at hl
  have hb:b<w.heap.size:=by
   rcases Nat.lt_or_ge b w.heap.size with h1 | h1
   ·exact h1
   ·rw [Array.getElem?_eq_none h1] at h;cases h
  have hc:w.cell? ⟨b,off+i,none⟩=some c[off+i]:=by rw [zeg h];exact Array.getElem?_eq_getElem (by omega)
  have hfz:w.frozen? ⟨b,off+i,none⟩=false:=by
   have:=hf (off+i) (by omega)
   simp only [World.frozen?,h]
   simpa using this
  simp only [storeCells,Sem.run_bind,zel]
  rw [run_store P w _ v .plain (hv v (by simp)),hc]
  simp only [hfz,Bool.false_eq_true,if_false,Result.andThen_ok]
  have hset:(w.setCell ⟨b,off+i,none⟩ v).heap[b]?=some (.cells (c.setIfInBounds (off+i) v) e fr):=by
   simp only [World.setCell,Array.getElem?_modify,h,if_true]
   simp
  rw [u7 vs (i+1) (w.setCell ⟨b,off+i,none⟩ v) _ hset (fun u hu=>hv u (by simp [hu])) (by simp;omega) (by simpa using hf)]
  congr 1
  simp only [World.setCell,zah]
  congr 1
  apply Array.ext_getElem?
  intro j
  simp only [Array.getElem?_setIfInBounds,Array.size_modify,Array.getElem?_modify]
  by_cases hj:b=j
  ·subst hj;simp [hb,Nat.add_assoc]
  ·simp [hj]
end Go.Vg
end
section
set_option linter.unusedVariables false
set_option linter.unusedSimpArgs false
set_option linter.unusedSectionVars false
set_option linter.unnecessarySimpa false
namespace Go.Vg
variable [Go.Vg.Glob]
open Go.RowKit
/-- A stretch of an element's cells replaced. -/
def spl (l:List SV) (k:Nat) (cs:List SV):List SV:=
 match cs with
 | [x]=>l.set k x
 | _=>if k=0∧cs.length=l.length then cs else l.take k++(cs++l.drop (k+cs.length))
theorem spl_eq {l:List SV} {k:Nat} {cs:List SV} (h:k+cs.length≤l.length):spl l k cs=l.take k++(cs++l.drop (k+cs.length)):=by
 unfold spl
 split
 ·rename_i x
  simp only [List.length_singleton] at h ⊢
  rw [List.set_eq_take_append_cons_drop,if_pos (by omega)]
  simp
 ·split
  ·rename_i h0
   obtain ⟨rfl,h1⟩:=h0
   simp [h1]
  ·rfl
theorem zuo {l:List SV} {k:Nat} {cs:List SV} (h:k+cs.length≤l.length):(spl l k cs).length=l.length:=by
 rw [spl_eq h];simp;omega
theorem zwq {l:List SV} {k:Nat} {cs:List SV} (h:k+cs.length≤l.length) (j:Nat):(spl l k cs).getD j .u=if k≤j∧j<k+cs.length then cs.getD (j-k) .u else l.getD j .u:=by
 rw [spl_eq h]
 simp only [List.getD_eq_getElem?_getD]
 rw [List.getElem?_append,List.getElem?_append,List.length_take]
 by_cases h1:j<k
 ·rw [if_pos (by omega),if_neg (by omega),List.getElem?_take_of_lt h1]
 ·rw [if_neg (by omega)]
  by_cases h2:j<k+cs.length
  ·rw [if_pos (by omega),if_pos (by omega)]
   congr 2;omega
  ·rw [if_neg (by omega),if_neg (by omega),List.getElem?_drop]
   congr 2;omega
def SO.put (o:SO) (i k:Nat) (cs:List SV):SO:=
 match o with
 | .row ro sz n f=>.row ro sz n (fun j=>if j=i then spl (f j) k cs else f j)
 | .blk ro l=>.blk ro (spl l k cs)
 | o=>o
def vd (f:Nat→List SV) (lo len:Nat):List UInt8:=
 (List.range len).map fun j=>match (f (lo+j)).getD 0 .u with
  | .i _ n=>UInt8.ofNat n.toNat
  | _=>0
def zbd (l:List (List SV)):List UInt8:=l.map fun x=>match x.getD 0 .u with
 | .i _ n=>UInt8.ofNat n.toNat
 | _=>0
def zp7:SV→Bool
 | .i .u8 _=>true
 | _=>false
def ur (te:TE) (t:TypeId):Bool:=match tdOf te t with
 | .int .u8=>true
 | _=>false
def lookS {α:Type} [DecidableEq α]:List (α×Int)→α→Option Int
 | [],_=>none
 | p::r,k=>if p.1=k then some p.2 else lookS r k
def zbh {α:Type} [DecidableEq α]:List (α×Int)→α→Int→List (α×Int)
 | [],k,v=>[(k,v)]
 | p::r,k,v=>if p.1=k then (k,v)::r else p::zbh r k v
def zgw (c:Bool) (ok:Bool) (r:Option Int) (K:SV→Prop):Prop:=
 if ok then K (.tup [.i .i64 (r.getD 0),.b r.isSome]) else K (.i .i64 (r.getD 0))
/-- Operations that read memory. -/
def zlc (te:TE) (c:Bool) (st:St) (o:Op) (K:SV→Prop):Prop:=
 match o with
 | .load t x=>ung c (st.ev x) fun v=>match v with
  | .ptr h i k=>match st.ctx.at h,te t with
   | some ob,some ti=>ob.isMap=false∧ti.td≠.other∧if ti.td.isStruct then k+ti.size≤ob.sz∧(ob.el i).length=ob.sz∧Chk (c=true→i<ob.n) (K (.agg (((ob.el i).drop k).take ti.size)))
    else k<ob.sz∧Chk (c=true→i<ob.n) (K ((ob.el i).getD k .u))
   | _,_=>False
  | .fp l k=>match te t with
   | some ti=>ti.td≠.other∧if ti.td.isStruct then Chk (c=true→k+ti.size≤l.length) (K (.agg ((l.drop k).take ti.size)))
    else Chk (c=true→k<l.length) (K (l.getD k .u))
   | none=>False
  | _=>False
 | .convert s d x=>ung c (st.ev x) fun v=>match v,tdOf te s,tdOf te d with
  | .slc h lo len,.slice e,.str=>ur te e=true∧(match st.ctx.at h with
   | some (.row ro sz n f)=>sz=1∧(∀ j,j<len→zp7 ((f (lo+j)).getD 0 .u)=true)∧Chk (c=true→lo+len≤n) (K (.s (vd f lo len)))
   | _=>False)
  | .nils,.slice e,.str=>ur te e=true∧K (.s [])
  | .fs sz l,.slice e,.str=>ur te e=true∧sz=1∧Chk (c=true→∀ x∈l,zp7 (x.getD 0 .u)=true) (K (.s (zbd l)))
  | _,_,_=>False
 | .lookup t m k ok=>ung c (st.ev m) fun v=>ung c (st.ev k) fun y=>match v,y with
  | .mp h,.s s=>match st.ctx.at h,tdOf te t with
   | some (.mapS l),.map kt vt=>tdOf te kt=.str∧te vt=some ⟨.int .i64,1,8,[.i .i64 0],false⟩∧zgw c ok (lookS l s) K
   | _,_=>False
  | .mp h,.i .i64 s=>match st.ctx.at h,tdOf te t with
   | some (.mapI l),.map kt vt=>tdOf te kt=.int .i64∧te vt=some ⟨.int .i64,1,8,[.i .i64 0],false⟩∧zgw c ok (lookS l s) K
   | _,_=>False
  | _,_=>False
 | _=>False
/-- What an operation that reads comes to: the same in every world whose block is the same. -/
def OutL (P:Program) (σ:Asg) (w:World) (c:Bool) (hs:List Nat) (s:Sem Next) (K:SV→Prop):Prop:=
 ∃ z,K z∧(c=true→∃ v,rel σ z v∧∀ w',(∀ h∈hs,∀ L,σ h=some L→w'.heap[L.b]?=w.heap[L.b]?)→(∀ b o,σ.fz b=some o→w'.heap[b]?=some o)→s.run P w'=.ok (.value v) w')
/-- The object that a reading operation looks at. -/
def jx:SV→List Nat
 | .ptr h _ _ | .slc h _ _ | .mp h=>[h]
 | .gd _ (.ptr h _ _) | .gd _ (.slc h _ _) | .gd _ (.mp h)=>[h]
 | _=>[]
def opHandle (st:St):Op→List Nat
 | .load _ x | .convert _ _ x | .lookup _ x _ _=>jx (st.ev x)
 | _=>[]
theorem zer {σ:Asg} {c:Bool} {x:SV} {K:SV→Prop} {v:Value} (hr:rel σ x v) (h:ung c x K):∃ y,K y∧(c=true→rel σ y v)∧((match y with | .gd _ _=>False | _=>True)→jx x=jx y):=by
 unfold ung at h
 split at h
 ·rename_i g y
  obtain ⟨h1,h2⟩:=h.out
  refine ⟨y,h2,fun hc=>by simp only [rel] at hr;exact hr.1 (h1 hc),fun hy=>?_⟩
  cases y<;>first | rfl | exact hy.elim
 ·exact ⟨x,h,fun _=>hr,fun _=>rfl⟩
theorem live_cells {σ:Asg} {w:World} {st:St} (hs:Sat σ w st.ctx) {h:Nat} {ob:SO} (ho:st.ctx.at h=some ob) (hm:ob.isMap=false) :
  (ob.n=0∧σ h=none)∨∃ L c e fr,σ h=some L∧cellsAt σ w L ob c e fr:=by
 have:=hs.obj h ob ho
 unfold qf at this
 rwa [hm] at this
theorem wc {l:List SV} {j:Nat} (h:j<l.length):l[j]?=some (l.getD j .u):=by
 simp [List.getD,List.getElem?_eq_getElem h]
theorem zfd {P:Program} {te:TE} (hte:j9 P te) {A:Amb} {σ:Asg} {st:St} {a:Act} {w:World} (hR:Rel A σ st a w) {t:TypeId} {ti:TI} (hti:te t=some ti) (ho:ti.td≠.other)
  {h i k:Nat} {ob:SO} (hob:st.ctx.at h=some ob) (hm:ob.isMap=false) (hi:i<ob.n) {v:Value} (hv:rel σ (.ptr h i k) v)
  (hk:if ti.td.isStruct then k+ti.size≤ob.sz∧(ob.el i).length=ob.sz else k<ob.sz) :
  ∃ u,rel σ (if ti.td.isStruct then .agg (((ob.el i).drop k).take ti.size) else (ob.el i).getD k .u) u∧∀ w',(∀ L,σ h=some L→w'.heap[L.b]?=w.heap[L.b]?)→(Instr.loadAt t v).run P w'=.ok u w':=by
 rcases live_cells hR.sat hob hm with ⟨h0,_⟩ | ⟨L,cs,e,fr,hL,hc⟩
 ·omega
 simp only [rel] at hv
 obtain ⟨L',hL',rfl⟩:=hv
 rw [hL] at hL'
 cases hL'
 by_cases hs:ti.td.isStruct=true
 ·rw [if_pos hs] at hk
  obtain ⟨hk1,hk2⟩:=hk
  obtain ⟨vs,h1,h2,h3⟩:=zfg hc hi hk1
  refine ⟨.agg vs.toArray, ?_,fun w' hw=>?_⟩
  ·rw [if_pos hs]
   simp only [rel]
   refine ⟨_,rfl, ?_⟩
   refine jz (by simp;omega) fun j x u hx hu=>?_
   have h4:=h3 j u (by simpa using hu)
   have hjn:j<ti.size:=by
    rcases Nat.lt_or_ge j ti.size with h | h
    ·exact h
    ·rw [List.getElem?_eq_none (by simp;omega)] at hx;cases hx
   rw [List.getElem?_take_of_lt hjn,List.getElem?_drop] at hx
   rw [List.getD_eq_getElem?_getD,hx] at h4
   exact h4
  ·have hh:w'.heap[L.b]?=some (.cells cs e fr):=(hw L hL).trans hc.heap
   have h5:=kj (P:=P) (off:=L.sh+i * L.sz+k) hh vs h2
   rw [h1] at h5
   simp only [Instr.loadAt,Instr.sureAddr,Sem.run_bind,Sem.run_pure,Result.andThen_ok,loadVar,zaj hte hti ho,hs,if_true,ki hte hti,vp,h5]
 ·rw [if_neg hs] at hk
  obtain ⟨u,h1,h2⟩:=hc.cell i k hi hk
  refine ⟨u,by rw [if_neg hs];exact h2,fun w' hw=>?_⟩
  have hh:w'.heap[L.b]?=some (.cells cs e fr):=(hw L hL).trans hc.heap
  rw [←hc.lsz] at h1
  simp [Instr.loadAt,Instr.sureAddr,loadVar,zaj hte hti ho,hs,vp,zeg hh,h1]
theorem zie {P:Program} {te:TE} (hte:j9 P te) {σ:Asg} {t:TypeId} {ti:TI} (hti:te t=some ti) (ho:ti.td≠.other)
  {l:List SV} {k:Nat} {v:Value} (hv:rel σ (.fp l k) v) (hk:if ti.td.isStruct then k+ti.size≤l.length else k<l.length) :
  ∃ u,rel σ (if ti.td.isStruct then .agg ((l.drop k).take ti.size) else l.getD k .u) u∧∀ w',(∀ b o,σ.fz b=some o→w'.heap[b]?=some o)→(Instr.loadAt t v).run P w'=.ok u w':=by
 simp only [rel] at hv
 obtain ⟨b,off,c,e,fr,rfl,hfz,hrl⟩:=hv
 have hrl':=jp (⟨fun _ _ h=>(by cases h),fun _ _ h=>h⟩:leA σ.bare σ) hrl
 by_cases hs:ti.td.isStruct=true
 ·rw [if_pos hs] at hk ⊢
  have h1:=zbx ti.size (zby k hrl')
  have hlen:=y8 h1
  simp only [List.length_take,List.length_drop] at hlen
  refine ⟨.agg ((((c.toList.drop off).take l.length).drop k).take ti.size).toArray, ?_,fun w' hw=>?_⟩
  ·simp only [rel]
   exact ⟨_,rfl,by simpa using h1⟩
  ·have hh:=hw _ _ hfz
   have h5:=kj (P:=P) (off:=off+k) hh ((((c.toList.drop off).take l.length).drop k).take ti.size) (fun j x hj=>by
    rw [List.getElem?_take] at hj
    split at hj
    ·rw [List.getElem?_drop,List.getElem?_take] at hj
     split at hj
     ·rw [List.getElem?_drop] at hj
      rw [show off+k+j=off+(k+j) by omega]
      simpa using hj
     ·cases hj
    ·cases hj)
   have hl2:((((c.toList.drop off).take l.length).drop k).take ti.size).length=ti.size:=by
    simp only [List.length_take,List.length_drop];omega
   rw [hl2] at h5
   simp only [Instr.loadAt,Instr.sureAddr,Sem.run_bind,Sem.run_pure,Result.andThen_ok,loadVar,zaj hte hti ho,hs,if_true,ki hte hti,h5]
 ·rw [if_neg hs] at hk ⊢
  obtain ⟨u,h1,h2⟩:=kl hrl' (wc hk)
  refine ⟨u,h2,fun w' hw=>?_⟩
  have hh:=hw _ _ hfz
  rw [List.getElem?_take,if_pos hk,List.getElem?_drop] at h1
  have h3:c[off+k]?=some u:=by simpa using h1
  simp [Instr.loadAt,Instr.sureAddr,loadVar,zaj hte hti ho,hs,zeg hh,h3]
end Go.Vg
end
section
set_option linter.unusedVariables false
set_option linter.unusedSimpArgs false
set_option linter.unusedSectionVars false
set_option linter.unnecessarySimpa false
namespace Go.Vg
variable [Go.Vg.Glob]
open Go.RowKit Go.MapKept
theorem zj1 (ns:List Int):∀ (s:ByteArray),(ns.foldl (fun r n=>r.push (UInt8.ofNat n.toNat)) s)=⟨(s.data.toList++ns.map fun n=>UInt8.ofNat n.toNat).toArray⟩:=by
 induction ns with
 | nil=>intro s;simp
 | cons n ns ih=>
  intro s
  simp only [List.foldl_cons,ih]
  simp
theorem zy1 {x:SV} (h:zp7 x=true):∃ n,x=.i .u8 n:=by
 unfold zp7 at h
 split at h
 ·exact ⟨_,rfl⟩
 ·cases h
theorem zgs {te:TE} {t:TypeId} (h:ur te t=true):tdOf te t=.int .u8:=by
 unfold ur at h
 split at h
 ·assumption
 ·cases h
theorem zvm {σ:Asg} {w:World} {L:Loc} {ro:Bool} {n:Nat} {f:Nat→List SV} {c:Array Value} {e:TypeId} {fr:Nat×Nat} (h:cellsAt σ w L (.row ro 1 n f) c e fr) (lo:Nat) :
  ∀ (len:Nat),lo+len≤n→(∀ j,j<len→zp7 ((f (lo+j)).getD 0 .u)=true) →
  ∃ ns:List Int,ns.length=len∧(∀ (j:Nat) (x:Int),ns[j]?=some x→c[L.sh+lo+j]?=some (.int .u8 x))∧ns.map (fun n=>UInt8.ofNat n.toNat)=vd f lo len:=by
 intro len
 induction len with
 | zero=>intro _ _;exact ⟨[],rfl,by simp,rfl⟩
 | succ len ih=>
  intro hl hu
  obtain ⟨ns,h1,h2,h3⟩:=ih (by omega) (fun j hj=>hu j (by omega))
  obtain ⟨v,h4,h5⟩:=h.cell (lo+len) 0 (by simp only [SO.n];omega) (by simp [SO.sz])
  obtain ⟨x,hx⟩:=zy1 (hu len (by omega))
  simp only [SO.el,SO.sz,Nat.mul_one,Nat.add_zero] at h4 h5
  rw [hx] at h5
  simp only [rel] at h5
  subst h5
  refine ⟨ns++[x],by simp [h1],fun j y hj=>?_, ?_⟩
  ·rw [List.getElem?_append] at hj
   split at hj
   ·exact h2 j y hj
   ·have h0:j-ns.length=0:=by
     rcases Nat.eq_zero_or_pos (j-ns.length) with h0 | h0
     ·exact h0
     ·rw [List.getElem?_eq_none (by simp;omega)] at hj;cases hj
    rw [h0] at hj
    simp at hj
    subst hj
    have hjn:j=len:=by omega
    subst hjn
    rw [Nat.add_assoc];exact h4
  ·rw [List.map_append,h3]
   simp only [List.getD_eq_getElem?_getD] at hx
   simp [vd,List.range_succ,hx]
theorem zvj {P:Program} {te:TE} (hte:j9 P te) {A:Amb} {σ:Asg} {st:St} {a:Act} {w:World} (hR:Rel A σ st a w) {s d e:TypeId} (hs:tdOf te s=.slice e) (hd:tdOf te d=.str) (he:ur te e=true)
  {h lo len n:Nat} {ro:Bool} {f:Nat→List SV} (hob:st.ctx.at h=some (.row ro 1 n f)) (hu:∀ j,j<len→zp7 ((f (lo+j)).getD 0 .u)=true) (hn:lo+len≤n) {v:Value} (hv:rel σ (.slc h lo len) v) :
  ∀ w',(∀ L,σ h=some L→w'.heap[L.b]?=w.heap[L.b]?)→(convert s d v).run P w'=.ok (.string ⟨(vd f lo len).toArray⟩) w':=by
 intro w' hw
 simp only [rel] at hv
 obtain ⟨ad,cap,rfl,hl,hv⟩:=hv
 rw [run_convert_bytes_string w' s d e ad len cap (qq hte hs) (vq hte (zgs he)) (jm hte hd)]
 rcases hv with hv | ⟨L,hL,rfl,hav⟩
 ·have h0:len=0:=by omega
  subst h0
  cases ad with
  | none=>simp [Conv.bytesToString,vd];rfl
  | some ad=>
   rw [run_bytesToString w' ad 0 cap [] (by simp [loadCells,loadCellsFrom])]
   simp [vd];rfl
 ·rcases live_cells hR.sat hob rfl with ⟨_,h1⟩ | ⟨L',c,e',fr,hL',hc⟩
  ·rw [h1] at hL;cases hL
  rw [hL'] at hL
  cases hL
  obtain ⟨ns,h1,h2,h3⟩:=zvm hc lo len hn hu
  have hh:w'.heap[L.b]?=some (.cells c e' fr):=(hw L hL').trans hc.heap
  have hsz:L.sz=1:=hc.lsz
  have h5:=kj (P:=P) (off:=L.sh+lo * L.sz+0) hh (ns.map (Value.int .u8)) (fun j x hj=>by
   simp only [List.getElem?_map,Option.map_eq_some_iff] at hj
   obtain ⟨y,hy,rfl⟩:=hj
   rw [hsz]
   simpa using h2 j y hy)
  simp only [List.length_map,h1] at h5
  rw [show vp L lo 0=⟨L.b,L.sh+lo * L.sz+0,none⟩ from rfl,run_bytesToString w' _ len cap ns h5,zj1,h3]
  simp
theorem zf2 {σ:Asg}:∀ {l:List (List SV)} {vs:List Value},zqn σ 1 l vs→(∀ x∈l,zp7 (x.getD 0 .u)=true) →
  ∃ ns:List Int,ns.length=l.length∧(∀ (j:Nat) (x:Int),ns[j]?=some x→vs[j]?=some (.int .u8 x))∧ns.map (fun n=>UInt8.ofNat n.toNat)=zbd l
 | [],_,_,_=>⟨[],rfl,by simp,rfl⟩
 | y::ys,vs,h,hu=>by
  simp only [zqn] at h
  obtain ⟨h0,h1,h2⟩:=h
  obtain ⟨ns,g1,g2,g3⟩:=zf2 h2 fun x hx=>hu x (List.mem_cons_of_mem _ hx)
  obtain ⟨n,hn⟩:=zy1 (hu y (by simp))
  obtain ⟨v,e1,e2⟩:=kl h1 (j:=0) (x:=y.getD 0 .u) (wc (by omega))
  rw [hn] at e2
  simp only [rel] at e2
  subst e2
  refine ⟨n::ns,by simp [g1],fun j x hj=>?_, ?_⟩
  ·cases j with
   | zero=>
    simp at hj;subst hj
    rw [List.getElem?_take] at e1
    simpa using e1
   | succ j=>
    simp at hj
    have:=g2 j x hj
    rw [List.getElem?_drop,Nat.add_comm] at this
    exact this
  ·simp only [List.getD_eq_getElem?_getD] at hn
   simp [zbd,g3,hn]
theorem zq6 {P:Program} {te:TE} (hte:j9 P te) {σ:Asg} {s d e:TypeId} (hs:tdOf te s=.slice e) (hd:tdOf te d=.str) (he:ur te e=true)
  {l:List (List SV)} (hu:∀ x∈l,zp7 (x.getD 0 .u)=true) {v:Value} (hv:rel σ (.fs 1 l) v) :
  ∀ w',(∀ b o,σ.fz b=some o→w'.heap[b]?=some o)→(convert s d v).run P w'=.ok (.string ⟨(zbd l).toArray⟩) w':=by
 intro w' hw
 simp only [rel] at hv
 obtain ⟨ad,cap,rfl,hl,hv⟩:=hv
 rw [run_convert_bytes_string w' s d e ad l.length cap (qq hte hs) (vq hte (zgs he)) (jm hte hd)]
 rcases hv with hv | ⟨b,off,c,e',fr,rfl,hfz,hrr⟩
 ·subst hv
  cases ad with
  | none=>simp [Conv.bytesToString,zbd];rfl
  | some ad=>
   simp only [List.length_nil]
   rw [run_bytesToString w' ad 0 cap [] (by simp [loadCells,loadCellsFrom])]
   simp [zbd];rfl
 ·obtain ⟨ns,h1,h2,h3⟩:=zf2 hrr hu
  have h5:=kj (P:=P) (off:=off) (hw _ _ hfz) (ns.map (Value.int .u8)) (fun j x hj=>by
   simp only [List.getElem?_map,Option.map_eq_some_iff] at hj
   obtain ⟨y,hy,rfl⟩:=hj
   have:=h2 j y hy
   rw [List.getElem?_drop] at this
   simpa using this)
  simp only [List.length_map,h1] at h5
  rw [run_bytesToString w' _ l.length cap ns h5,zj1,h3]
  simp
/-- Keys of a kind: how they stand in memory,and when two are the same. -/
structure KeyK (α:Type) [DecidableEq α] where
 d:TypeDesc
 v:α→Value
 s:α→SV
 same:∀ a b,Instr.sameNow d (v a) (v b)=some (decide (a=b))
 isKey:∀ a,IsKey d (v a)
 rel_iff:∀ σ a x,rel σ (s a) x↔x=v a
 stays:∀ a,Instr.sameBits 10000 (v a) (v a)=true
def keyS:KeyK (List UInt8) where
 d:=.string
 v:=fun l=>.string ⟨l.toArray⟩
 s:=fun l=>.s l
 same:=fun a b=>by simp only [Instr.sameNow,beq_toListBytes,zav,zch]
 isKey:=fun a=>by simp [IsKey]
 rel_iff:=fun σ a x=>by simp [rel]
 stays:=fun a=>by simp only [Instr.sameBits,beq_toListBytes,zav];simp
def keyI:KeyK Int where
 d:=.int .i64
 v:=fun n=>.int .i64 n
 s:=fun n=>.i .i64 n
 same:=fun a b=>by simp [Instr.sameNow,zch]
 isKey:=fun a=>by simp [IsKey]
 rel_iff:=fun σ a x=>by simp [rel]
 stays:=fun a=>by simp [Instr.sameBits]
theorem find_ents {α:Type} [DecidableEq α] (kk:KeyK α) (σ:Asg) (k:α) (x:Int):∀ (l:List (α×Int)) (es:List MapEntry) (i:Nat),qm σ (l.map fun p=>(kk.s p.1,.i .i64 p.2)) es →
  (lookS l k=none∧Instr.findNow kk.d (kk.v k) es i=some none∧zbh l k x=l++[(k,x)]) ∨
  ∃ j e y,lookS l k=some y∧Instr.findNow kk.d (kk.v k) es i=some (some (i+j,.int .i64 y))∧es[j]?=some e∧e.key=kk.v k ∧
   qm σ ((zbh l k x).map fun p=>(kk.s p.1,.i .i64 p.2)) (es.modify j fun e=>{ e with key:=kk.v k,val:=.int .i64 x })
 | [],es,i,h=>by
  simp only [List.map_nil,qm] at h
  subst h
  exact .inl ⟨rfl,rfl,rfl⟩
 | (p,n)::l,es,i,h=>by
  simp only [List.map_cons,qm] at h
  obtain ⟨e,r,rfl,h1,h2,h3⟩:=h
  rw [kk.rel_iff] at h1
  simp only [rel] at h2
  by_cases hp:p=k
  ·subst hp
   refine .inr ⟨0,e,n,by simp [lookS], ?_,rfl,h1, ?_⟩
   ·simp [Instr.findNow,h1,kk.same,h2]
   ·simp only [zbh,if_true,List.map_cons,List.modify_zero_cons,qm]
    exact ⟨_,_,rfl,by rw [kk.rel_iff],by simp [rel],h3⟩
  ·have hne:¬k=p:=fun q=>hp q.symm
   rcases find_ents kk σ k x l r (i+1) h3 with ⟨g1,g2,g3⟩ | ⟨j,e',y,g1,g2,g3,g4,g5⟩
   ·exact .inl ⟨by simp [lookS,hp,g1],by simp [Instr.findNow,h1,kk.same,hne,g2],by simp [zbh,hp,g3]⟩
   ·refine .inr ⟨j+1,e',y,by simp [lookS,hp,g1], ?_,by simpa using g3,g4, ?_⟩
    ·simp [Instr.findNow,h1,kk.same,hne,g2];omega
    ·simp only [zbh,if_neg hp,List.map_cons,List.modify_succ_cons,qm]
     exact ⟨_,_,rfl,by rw [kk.rel_iff];exact h1,by simp only [rel];exact h2,g5⟩
theorem zih {σ:Asg}:∀ {ps qs:List (SV×SV)} {es fs:List MapEntry},qm σ ps es→qm σ qs fs→qm σ (ps++qs) (es++fs)
 | [],qs,es,fs,h,k=>by simp only [qm] at h;subst h;simpa using k
 | p::ps,qs,es,fs,h,k=>by
  simp only [qm] at h
  obtain ⟨e,r,rfl,h1,h2,h3⟩:=h
  simp only [List.cons_append,qm]
  exact ⟨e,r++fs,rfl,h1,h2,zih h3 k⟩
theorem zct {P:Program} {te:TE} (hte:j9 P te) {α:Type} [DecidableEq α] (kk:KeyK α) {σ:Asg} {w:World} {t kt vt:TypeId} (ht:tdOf te t=.map kt vt) (hkt:P.underlying kt=some kk.d)
  (hvt:te vt=some ⟨.int .i64,1,8,[.i .i64 0],false⟩) {L:Loc} {es:Array MapEntry} {ck:Nat} (hh:w.heap[L.b]?=some (.map es ck)) {l:List (α×Int)}
  (he:qm σ (l.map fun p=>(kk.s p.1,.i .i64 p.2)) es.toList) (k:α) (ok:Bool) :
  (Instr.lookup t (.map (some L.b)) (kk.v k) ok).run P w=.ok (if ok then .tuple #[.int .i64 ((lookS l k).getD 0),.bool (lookS l k).isSome] else .int .i64 ((lookS l k).getD 0)) w:=by
 obtain ⟨i,hi,_,_,z,hz,hrz,hone⟩:=(hte vt _ hvt).info
 have hz0:z=.int .i64 0:=by
  have h1:=hone rfl
  cases z<;>simp only [Value.oneCell',Bool.false_eq_true] at h1<;>(simp only [Value.cells,relL,rel] at hrz;simp_all)
 have hzero:(zeroValue vt).run P w=.ok (.int .i64 0) w:=by simp [zeroValue,zaz hi,hz,hz0]
 unfold Instr.lookup
 simp only [Sem.run_bind,qc (zqg hte ht),Result.andThen_ok,Go.MapKept.run_getObj_map hh,Sem.run_pure]
 rw [show (10000:Nat)=9999+1 from rfl,run_checkKey hkt (kk.isKey k)]
 simp only [Result.andThen_ok]
 rcases find_ents kk σ k 0 l es.toList 0 he with ⟨g1,g2,_⟩ | ⟨j,e,y,g1,g2,_⟩
 ·rw [run_findKey hkt g2]
  simp [hzero,g1]
 ·rw [run_findKey hkt g2]
  simp [g1]
end Go.Vg
end
section
set_option linter.unusedVariables false
set_option linter.unusedSimpArgs false
set_option linter.unusedSectionVars false
set_option linter.unnecessarySimpa false
namespace Go.Vg
variable [Go.Vg.Glob]
open Go.RowKit
theorem zgx {P:Program} {te:TE} (hte:j9 P te) {A:Amb} {σ:Asg} {st:St} {a:Act} {w:World} (hR:Rel A σ st a w) {c:Bool} {o:Oper} {K:SV→Prop}
  (h:zlc te c st o.op K):OutL P σ w c (opHandle st o.op) (execOp a.eval o) K:=by
 obtain ⟨dst,op,ty,pos,after,guard⟩:=o
 simp only at h ⊢
 unfold zlc at h
 split at h
 case h_1 t x=>
  obtain ⟨y,h,hr,hh⟩:=zer (hR.ev x) h
  split at h
  ·rename_i hd i k
   have hh':hd∈jx (st.ev x):=by rw [hh trivial];exact List.mem_singleton.2 rfl
   split at h
   ·rename_i ob ti hob hti
    obtain ⟨hm,ho,h⟩:=h
    by_cases hs:ti.td.isStruct=true
    ·rw [if_pos hs] at h
     obtain ⟨hk1,hk2,h⟩:=h
     obtain ⟨hi,h⟩:=h.out
     refine ⟨_,h,fun hc=>?_⟩
     obtain ⟨u,h1,h2⟩:=zfd hte hR hti ho hob hm (hi hc) (hr hc) (by rw [if_pos hs];exact ⟨hk1,hk2⟩)
     rw [if_pos hs] at h1
     refine ⟨u,h1,fun w' hw hw2=>qx (h2 w' fun L hL=>hw hd hh' L hL)⟩
    ·rw [if_neg hs] at h
     obtain ⟨hk1,h⟩:=h
     obtain ⟨hi,h⟩:=h.out
     refine ⟨_,h,fun hc=>?_⟩
     obtain ⟨u,h1,h2⟩:=zfd hte hR hti ho hob hm (hi hc) (hr hc) (by rw [if_neg hs];exact hk1)
     rw [if_neg hs] at h1
     refine ⟨u,h1,fun w' hw hw2=>qx (h2 w' fun L hL=>hw hd hh' L hL)⟩
   ·exact h.elim
  ·rename_i l k
   split at h
   ·rename_i ti hti
    obtain ⟨ho,h⟩:=h
    by_cases hs:ti.td.isStruct=true
    ·rw [if_pos hs] at h
     obtain ⟨hi,h⟩:=h.out
     refine ⟨_,h,fun hc=>?_⟩
     obtain ⟨u,h1,h2⟩:=zie hte hti ho (hr hc) (by rw [if_pos hs];exact hi hc)
     rw [if_pos hs] at h1
     exact ⟨u,h1,fun w' _ hw=>qx (h2 w' hw)⟩
    ·rw [if_neg hs] at h
     obtain ⟨hi,h⟩:=h.out
     refine ⟨_,h,fun hc=>?_⟩
     obtain ⟨u,h1,h2⟩:=zie hte hti ho (hr hc) (by rw [if_neg hs];exact hi hc)
     rw [if_neg hs] at h1
     exact ⟨u,h1,fun w' _ hw=>qx (h2 w' hw)⟩
   ·exact h.elim
  ·exact h.elim
 case h_2 s d x=>
  obtain ⟨y,h,hr,hh⟩:=zer (hR.ev x) h
  split at h
  ·rename_i hd lo len e hs hdd
   have hh':hd∈jx (st.ev x):=by rw [hh trivial];exact List.mem_singleton.2 rfl
   obtain ⟨hu8,h⟩:=h
   split at h
   ·rename_i ro sz n f hob
    obtain ⟨rfl,hu,h⟩:=h
    obtain ⟨hn,h⟩:=h.out
    refine ⟨_,h,fun hc=>⟨.string ⟨(vd f lo len).toArray⟩,by simp only [rel],fun w' hw hw2=>qx ?_⟩⟩
    refine zvj hte hR hs hdd hu8 hob hu (hn hc) (hr hc) w' fun L hL=>hw hd hh' L hL
   ·exact h.elim
  ·rename_i e hs hdd
   obtain ⟨hu8,h⟩:=h
   refine ⟨_,h,fun hc=>⟨.string ⟨#[]⟩,by simp only [rel],fun w' hw hw2=>qx ?_⟩⟩
   have h1:=hr hc
   simp only [rel] at h1
   rw [h1,run_convert_bytes_string w' s d e none 0 0 (qq hte hs) (vq hte (zgs hu8)) (jm hte hdd)]
   simp [Conv.bytesToString];rfl
  ·rename_i sz l e hs hdd
   obtain ⟨hu8,rfl,h⟩:=h
   obtain ⟨hall,h⟩:=h.out
   refine ⟨_,h,fun hc=>⟨.string ⟨(zbd l).toArray⟩,by simp only [rel],fun w' _ hw=>qx ?_⟩⟩
   exact zq6 hte hs hdd hu8 (hall hc) (hr hc) w' hw
  ·exact h.elim
 case h_3 t m k ok=>
  obtain ⟨y,h,hr,hh⟩:=zer (hR.ev m) h
  obtain ⟨y2,h,hr2⟩:=qb (hR.ev k) h
  split at h
  ·rename_i hd s _
   have hh':hd∈jx (st.ev m):=by rw [hh trivial];exact List.mem_singleton.2 rfl
   split at h
   ·rename_i l kt vt hob htd
    obtain ⟨hkt,hvt,h⟩:=h
    have hobj:=hR.sat.obj hd _ hob
    simp only [qf,SO.isMap,SO.ents] at hobj
    obtain ⟨L,es,ck,hL,hh0,he⟩:=hobj
    unfold zgw at h
    split at h
    ·rename_i hok
     refine ⟨_,h,fun hc=>⟨.tuple #[.int .i64 ((lookS l s).getD 0),.bool (lookS l s).isSome],by simp [rel,relL],fun w' hw hw2=>qx ?_⟩⟩
     have h1:=hr hc
     have h2:=hr2 hc
     simp only [rel] at h1 h2
     obtain ⟨L',hL',hv⟩:=h1
     rw [hL] at hL';cases hL'
     have:=zct hte keyS htd (jm hte hkt) hvt (L:=L) ((hw hd hh' L hL).trans hh0) he s ok
     rw [hv,h2]
     rw [if_pos hok] at this
     exact this
    ·rename_i hok
     refine ⟨_,h,fun hc=>⟨.int .i64 ((lookS l s).getD 0),by simp [rel],fun w' hw hw2=>qx ?_⟩⟩
     have h1:=hr hc
     have h2:=hr2 hc
     simp only [rel] at h1 h2
     obtain ⟨L',hL',hv⟩:=h1
     rw [hL] at hL';cases hL'
     have:=zct hte keyS htd (jm hte hkt) hvt (L:=L) ((hw hd hh' L hL).trans hh0) he s ok
     rw [hv,h2]
     rw [if_neg hok] at this
     exact this
   ·exact h.elim
  ·rename_i hd s _
   have hh':hd∈jx (st.ev m):=by rw [hh trivial];exact List.mem_singleton.2 rfl
   split at h
   ·rename_i l kt vt hob htd
    obtain ⟨hkt,hvt,h⟩:=h
    have hobj:=hR.sat.obj hd _ hob
    simp only [qf,SO.isMap,SO.ents] at hobj
    obtain ⟨L,es,ck,hL,hh0,he⟩:=hobj
    unfold zgw at h
    split at h
    ·rename_i hok
     refine ⟨_,h,fun hc=>⟨.tuple #[.int .i64 ((lookS l s).getD 0),.bool (lookS l s).isSome],by simp [rel,relL],fun w' hw hw2=>qx ?_⟩⟩
     have h1:=hr hc
     have h2:=hr2 hc
     simp only [rel] at h1 h2
     obtain ⟨L',hL',hv⟩:=h1
     rw [hL] at hL';cases hL'
     have:=zct hte keyI htd (vq hte hkt) hvt (L:=L) ((hw hd hh' L hL).trans hh0) he s ok
     rw [hv,h2]
     rw [if_pos hok] at this
     exact this
    ·rename_i hok
     refine ⟨_,h,fun hc=>⟨.int .i64 ((lookS l s).getD 0),by simp [rel],fun w' hw hw2=>qx ?_⟩⟩
     have h1:=hr hc
     have h2:=hr2 hc
     simp only [rel] at h1 h2
     obtain ⟨L',hL',hv⟩:=h1
     rw [hL] at hL';cases hL'
     have:=zct hte keyI htd (vq hte hkt) hvt (L:=L) ((hw hd hh' L hL).trans hh0) he s ok
     rw [hv,h2]
     rw [if_neg hok] at this
     exact this
   ·exact h.elim
  ·exact h.elim
 case h_4=>exact h.elim
end Go.Vg
end
section
set_option linter.unusedVariables false
set_option linter.unusedSimpArgs false
set_option linter.unusedSectionVars false
set_option linter.unnecessarySimpa false
namespace Go.Vg
variable [Go.Vg.Glob]
open Go.RowKit
/-- Another thing at a handle. -/
def St.setObj (st:St) (h:Nat) (o:Option SO):St:=⟨st.env,st.ctx.set h o⟩
def St.addObj (st:St) (o:SO):St:=⟨st.env,st.ctx++[some o]⟩
/-- Elements of a row behind those of another. -/
def zgi (n:Nat) (f g:Nat→List SV):Nat→List SV:=fun j=>if j<n then f j else g (j-n)
def wl (l:List SV) (sz:Nat):Nat→List SV:=fun j=>(l.drop (j * sz)).take sz
def fillP (sz:Nat) (cs:List SV):List (Nat×SV)→Option (List SV)
 | []=>some cs
 | (i,x)::r=>if (cellsOf x).length=sz∧i * sz+sz≤cs.length then fillP sz (cs.take (i * sz)++(cellsOf x++cs.drop (i * sz+sz))) r else none
def ziy (z:List SV):Nat→List SV
 | 0=>[]
 | n+1=>z++ziy z n
/-- The source of an append: how many elements,and which. -/
def xsrc (st:St) (sz:Nat) (u8:Bool) (dh:Nat) (x:SV) (K:Nat→(Nat→List SV)→Prop):Prop:=
 match x with
 | .nils=>K 0 (fun _=>[])
 | .s l=>u8=true∧sz=1∧K l.length (fun j=>[.i .u8 (l.getD j 0).toNat])
 | .slc h lo m=>match st.ctx.at h with
  | some (.row ro sz' n f)=>sz'=sz∧h≠dh∧(∀ j,j<m→(f (lo+j)).all q7=true∧(f (lo+j)).length=sz)∧Chk (lo+m≤n) (K m (fun j=>f (lo+j)))
  | _=>False
 | .fs sz' l=>sz'=sz∧(∀ x∈l,x.all q7=true)∧K l.length (fun j=>l.getD j [])
 | _=>False
def zlf (te:TE) (st:St) (t:TypeId) (s x:SV) (K:SV→St→Prop):Prop:=
 match tdOf te t with
 | .slice e=>match te e with
  | some ti=>ti.zero.length=ti.size∧ti.bytes≠0∧(match s with
   | .nils=>xsrc st ti.size (ur te e) st.ctx.length x fun m g=>Chk (m * ti.bytes≤140737488355328) (K (.slc st.ctx.length 0 m) (st.addObj (.row false ti.size m g)))
   | .slc h lo len=>match st.ctx.at h with
    | some (.row false sz' n f)=>sz'=ti.size∧xsrc st ti.size (ur te e) h x fun m g=>Chk (lo+len≤n∧(len+m) * ti.bytes≤140737488355328)
      (K (.slc st.ctx.length 0 (len+m)) ((st.setObj h none).addObj (.row false ti.size (len+m) (zgi len (fun j=>f (lo+j)) g))))
    | _=>False
   | _=>False)
  | none=>False
 | _=>False
def zm1 (te:TE) (st:St) (o:Op) (K:SV→St→Prop):Prop:=
 match o with
 | .alloc t=>match te t with
  | some ti=>K (.ptr st.ctx.length 0 0) (st.addObj (.blk false ti.zero))
  | none=>False
 | .box t x=>ja (st.ev x)=true∧K (.ptr st.ctx.length 0 0) (st.addObj (.blk false (cellsOf (st.ev x))))
 | .store t x y=>match st.ev x with
  | .ptr h i k=>match st.ctx.at h,te t with
   | some ob,some ti=>ob.isMap=false∧ob.ro=false∧ja (st.ev y)=true∧(cellsOf (st.ev y)).length=ti.size∧(cellsOf (st.ev y)).all q7=true ∧
     (ob.el i).length=ob.sz∧k+ti.size≤ob.sz∧Chk (i<ob.n) (K .u (st.setObj h (some (ob.put i k (cellsOf (st.ev y))))))
   | _,_=>False
  | _=>False
 | .makeMap t r=>(match r with | none=>True | some x=>match st.ev x with | .i _ _=>True | _=>False)∧match tdOf te t with
  | .map kt vt=>match tdOf te kt with
   | .str=>K (.mp st.ctx.length) (st.addObj (.mapS []))
   | .int .i64=>K (.mp st.ctx.length) (st.addObj (.mapI []))
   | _=>False
  | _=>False
 | .mapUpdate t m k x=>match st.ev m,st.ev k,st.ev x,tdOf te t with
  | .mp h,.s s,.i .i64 v,.map kt vt=>match st.ctx.at h with
   | some (.mapS l)=>tdOf te kt=.str∧K .u (st.setObj h (some (.mapS (zbh l s v))))
   | _=>False
  | .mp h,.i .i64 s,.i .i64 v,.map kt vt=>match st.ctx.at h with
   | some (.mapI l)=>tdOf te kt=.int .i64∧K .u (st.setObj h (some (.mapI (zbh l s v))))
   | _=>False
  | _,_,_,_=>False
 | .insert t m k x=>match st.ev m,st.ev k,st.ev x,tdOf te t with
  | .mp h,.s s,.i .i64 v,.map kt vt=>match st.ctx.at h with
   | some (.mapS l)=>tdOf te kt=.str∧K .u (st.setObj h (some (.mapS (zbh l s v))))
   | _=>False
  | .mp h,.i .i64 s,.i .i64 v,.map kt vt=>match st.ctx.at h with
   | some (.mapI l)=>tdOf te kt=.int .i64∧K .u (st.setObj h (some (.mapI (zbh l s v))))
   | _=>False
  | _,_,_,_=>False
 | .buildSlice t len parts=>match tdOf te t with
  | .slice e=>match te e with
   | some ti=>ti.zero.length=ti.size∧len * ti.size≤16777216∧(parts.toList.all fun p=>ja (st.ev p.2))=true ∧
     match fillP ti.size (ziy ti.zero len) (parts.toList.map fun p=>(p.1,st.ev p.2)) with
     | some l=>K (.slc st.ctx.length 0 len) (st.addObj (.row false ti.size len (wl l ti.size)))
     | none=>False
   | none=>False
  | _=>False
 | .makeSlice t l c=>match tdOf te t,st.ev l,st.ev c with
  | .slice e,.i .i64 n,.i .i64 m=>match te e with
   | some ti=>ti.zero.length=ti.size∧Chk (0≤n∧n≤m∧m * ti.bytes≤281474976710656∧m≤281474976710656)
     (K (.slc st.ctx.length 0 n.toNat) (st.addObj (.row false ti.size n.toNat (fun _=>ti.zero))))
   | none=>False
  | _,_,_=>False
 | .convert s d x=>s=d∧match st.ev x,tdOf te s with
  | .slc h lo len,.slice e=>ur te e=true∧0<len∧(match st.ctx.at h with
   | some (.row false _ _ _)=>True
   | _=>False)∧K (.slc h lo len) st
  | _,_=>False
 | .call { callee:=.builtin .append,args:=args,argTypes:=ts }=>match args.toList,ts.toList with
  | [s,x],[t,xt]=>(match tdOf te xt with | .slice _=>True | .str=>True | _=>False)∧zlf te st t (st.ev s) (st.ev x) K
  | _,_=>False
 | _=>False
/-- A draw turns nothing that is told of the world. -/
theorem Rel.drawn {A:Amb} {σ:Asg} {st:St} {a:Act} {w:World} (hR:Rel A σ st a w) (n:Nat):Rel A σ st a { w with drawn:=n }:=by
 refine ⟨hR.defers,hR.size,hR.env,⟨fun h o e=>?_,hR.sat.apart,hR.sat.beyond,hR.sat.inHeap,hR.sat.frz,hR.sat.frzA,hR.sat.glb⟩,⟨hR.fr.os,hR.fr.tape,hR.fr.output,hR.fr.size,hR.fr.block⟩,hR.own,hR.base,hR.klen⟩
 exact j0 (w:=w) (leA.refl σ) rfl (fun _ _=>rfl) (hR.sat.obj h o e)
theorem jc {w:World} {b:Nat} {o:Obj} (x:Nat):(w.heap.setIfInBounds b o)[x]?=if x=b then (if b<w.heap.size then some o else none) else w.heap[x]?:=by
 rw [Array.getElem?_setIfInBounds]
 by_cases h:b=x
 ·subst h;simp
 ·rw [if_neg h,if_neg (Ne.symm h)]
/-- One block written: the object at 'h' is another;all others stand. -/
theorem Rel.write {A:Amb} {σ:Asg} {st:St} {a:Act} {w:World} (hR:Rel A σ st a w) {h:Nat} {o o':SO} {L:Loc} (ho:st.ctx.at h=some o) (hro:o.ro=false) (hro':o'.ro=false) (hL:σ h=some L) (ob:Obj)
  (hnew:qf σ { w with heap:=w.heap.setIfInBounds L.b ob } h o'):Rel A σ (st.setObj h (some o')) a { w with heap:=w.heap.setIfInBounds L.b ob }:=by
 have hlt:=zpw ho
 refine ⟨hR.defers,hR.size,hR.env,⟨fun h1 o1 e=>?_,fun h1 h2 o1 o2 L1 L2 hne e1 e2 r s1 s2=>?_,fun h1 hh=>?_,fun h1 M e=>?_,fun b1 o1 e=>?_,fun h1 o1 M e r s=>?_,hR.sat.glb⟩, ?_,fun h1 o1 M e r s=>?_,hR.base, ?_⟩
 ·simp only [St.setObj] at e
  rw [zk3 _ _ _ _ hlt] at e
  split at e
  ·rename_i hh
   cases e
   rw [hh];exact hnew
  ·rename_i hh
   refine j0 (leA.refl σ) rfl (fun M hM=>?_) (hR.sat.obj h1 o1 e)
   have:=hR.sat.apart h h1 o o1 L M (Ne.symm hh) ho e hro hL hM
   simp only [jc,if_neg (Ne.symm this)]
 ·simp only [St.setObj] at e1 e2
  rw [zk3 _ _ _ _ hlt] at e1 e2
  split at e1
  ·rename_i hh
   subst hh
   split at e2
   ·rename_i h3;exact absurd h3.symm hne
   ·exact hR.sat.apart _ _ o o2 L1 L2 hne ho e2 hro s1 s2
  ·split at e2
   ·rename_i hh
    subst hh
    exact hR.sat.apart _ _ o1 o L1 L2 hne e1 ho r s1 s2
   ·exact hR.sat.apart _ _ o1 o2 L1 L2 hne e1 e2 r s1 s2
 ·simp only [St.setObj,List.length_set] at hh
  exact hR.sat.beyond h1 hh
 ·simpa using hR.sat.inHeap h1 M e
 ·have hne:b1≠L.b:=fun hh=>by rw [hh,hR.sat.frzA h o L ho hro hL] at e;cases e
  simp only [jc,if_neg hne]
  exact hR.sat.frz b1 o1 e
 ·simp only [St.setObj] at e
  rw [zk3 _ _ _ _ hlt] at e
  split at e
  ·rename_i hh
   subst hh
   exact hR.sat.frzA _ o M ho hro s
  ·exact hR.sat.frzA h1 o1 M e r s
 ·refine ⟨hR.fr.os,hR.fr.tape,hR.fr.output,by simpa using hR.fr.size,fun b hb hd=>?_⟩
  simp only [jc]
  rw [if_neg]
  ·exact hR.fr.block b hb hd
  ·intro e
   subst e
   rcases hR.own h o L ho hro hL with h1 | h1
   ·exact hd h1
   ·omega
 ·simp only [St.setObj] at e
  rw [zk3 _ _ _ _ hlt] at e
  split at e
  ·rename_i hh
   subst hh
   exact hR.own _ o M ho hro s
  ·exact hR.own h1 o1 M e r s
 ·simpa [St.setObj] using hR.klen
theorem SO.put_facts {o:SO} {i k:Nat} {cs:List SV} (hm:o.isMap=false):(o.put i k cs).isMap=false∧(o.put i k cs).ro=o.ro∧(o.put i k cs).n=o.n ∧
  ((o.el i).length=o.sz→k+cs.length≤o.sz→(o.put i k cs).sz=o.sz∧∀ j x,j<o.n→i<o.n→((o.put i k cs).el j).getD x .u=if j=i∧k≤x∧x<k+cs.length then cs.getD (x-k) .u else (o.el j).getD x .u):=by
 cases o with
 | row ro sz n f=>
  refine ⟨rfl,rfl,rfl,fun h1 h2=>⟨rfl,fun j x hj hi=>?_⟩⟩
  simp only [SO.put,SO.el] at *
  by_cases hji:j=i
  ·subst hji
   simp only [if_true,true_and]
   rw [zwq (by simp only [SO.sz] at h1 h2;omega)]
  ·rw [if_neg hji,if_neg (fun h=>hji h.1)]
 | blk ro l=>
  refine ⟨rfl,rfl,rfl,fun h1 h2=>?_⟩
  simp only [SO.put,SO.el,SO.sz] at *
  refine ⟨zuo h2,fun j x hj hi=>?_⟩
  have:j=i:=by simp only [SO.n] at hj hi;omega
  rw [zwq h2]
  simp [this]
 | mapS l=>cases hm
 | mapI l=>cases hm
theorem zqk {P:Program} {te:TE} (hte:j9 P te) {A:Amb} {σ:Asg} {st:St} {a:Act} {w:World} (hR:Rel A σ st a w) {t:TypeId} {ti:TI} (hti:te t=some ti) {h i k:Nat} {ob:SO} (hob:st.ctx.at h=some ob)
  (hm:ob.isMap=false) (hro:ob.ro=false) (hi:i<ob.n) {x:SV} (hok:ja x=true) (hlen:(cellsOf x).length=ti.size) (hall:(cellsOf x).all q7=true) (hel:(ob.el i).length=ob.sz) (hk:k+ti.size≤ob.sz)
  {v u:Value} (hv:rel σ (.ptr h i k) v) (hu:rel σ x u):∃ w',(Instr.storeAt t v u).run P w=.ok () w'∧Rel A σ (st.setObj h (some (ob.put i k (cellsOf x)))) a w':=by
 rcases live_cells hR.sat hob hm with ⟨h0,_⟩ | ⟨L,c,e,fr,hL,hc⟩
 ·omega
 simp only [rel] at hv
 obtain ⟨L',hL',rfl⟩:=hv
 rw [hL] at hL'
 cases hL'
 have hcu:=zbg hok hu
 have hlu:=y8 hcu
 simp only [Array.length_toList] at hlu
 have hfree:=hc.free hro
 have hin:L.sh+i * L.sz+k+u.cells.size≤c.size:=by
  have h1:=hc.room
  have h2:=hc.fits
  have h3:i * ob.sz+ob.sz≤ob.n * ob.sz:=by
   rw [←Nat.succ_mul];exact Nat.mul_le_mul_right _ hi
  rw [hc.lsz]
  omega
 refine ⟨{ w with heap:=w.heap.setIfInBounds L.b (.cells (zah c (L.sh+i * L.sz+k) u.cells.toList) e fr) }, ?_, ?_⟩
 ·simp only [Instr.storeAt,Instr.sureAddr,Sem.run_bind,Sem.run_pure,Result.andThen_ok,storeVar,ki hte hti]
  rw [if_neg (by omega)]
  have:=u7 (P:=P) (off:=L.sh+i * L.sz+k) u.cells.toList 0 w c hc.heap (fun y hy=>by
   obtain ⟨j,hj⟩:=List.mem_iff_getElem?.1 hy
   have hjl:j<(cellsOf x).length:=by
    rcases Nat.lt_or_ge j u.cells.toList.length with h | h
    ·simp at h;omega
    ·rw [List.getElem?_eq_none h] at hj;cases hj
   obtain ⟨y',h1,h2⟩:=kl hcu (wc hjl)
   rw [hj] at h1
   cases h1
   exact zfa (List.all_eq_true.1 hall _ (List.mem_of_getElem? (wc hjl))) h2) (by simpa using hin) (fun y hy h=>by rcases hfree with h | h<;>omega)
  simpa [vp] using this
 ·obtain ⟨p1,p2,p3,p4⟩:=SO.put_facts (o:=ob) (i:=i) (k:=k) (cs:=cellsOf x) hm
  obtain ⟨p5,p6⟩:=p4 hel (by omega)
  refine hR.write hob hro (p2.trans hro) hL _ ?_
  unfold qf
  rw [p1]
  refine .inr ⟨L,zah c (L.sh+i * L.sz+k) u.cells.toList,e,fr,hL,⟨?_, ?_, ?_, ?_,fun j y hj hy=>?_,fun _=>?_⟩⟩
  ·have hb:=hR.sat.inHeap h L hL
   simp only [jc,if_true,if_pos hb]
  ·rw [p5];exact hc.lsz
  ·rw [uj];exact hc.room
  ·rw [p3,p5];exact hc.fits
  ·rw [p3] at hj
   rw [p5] at hy ⊢
   rw [p6 j y hj hi]
   obtain ⟨v0,g1,g2⟩:=hc.cell j y hj hy
   rw [zev _ _ _ _ (by simpa using hin)]
   simp only [Array.length_toList]
   by_cases hji:j=i
   ·subst hji
    by_cases hrange:k≤y∧y<k+(cellsOf x).length
    ·rw [if_pos (show L.sh+j * L.sz+k≤L.sh+j * ob.sz+y∧L.sh+j * ob.sz+y<L.sh+j * L.sz+k+u.cells.size by rw [hc.lsz];omega),if_pos ⟨rfl,hrange⟩]
     obtain ⟨v1,g3,g4⟩:=kl hcu (wc (show y-k<(cellsOf x).length by omega))
     refine ⟨v1, ?_,g4⟩
     rw [show L.sh+j * ob.sz+y-(L.sh+j * L.sz+k)=y-k by rw [hc.lsz];omega]
     exact g3
    ·rw [if_neg (show ¬(L.sh+j * L.sz+k≤L.sh+j * ob.sz+y∧L.sh+j * ob.sz+y<L.sh+j * L.sz+k+u.cells.size) by rw [hc.lsz];omega),if_neg (fun h=>hrange h.2)]
     exact ⟨v0,g1,g2⟩
   ·rw [if_neg (show ¬(j=i∧k≤y∧y<k+(cellsOf x).length) from fun h=>hji h.1),if_neg]
    ·exact ⟨v0,g1,g2⟩
    ·rw [hc.lsz]
     intro hh
     rcases Nat.lt_or_gt_of_ne hji with h1 | h1
     ·have:j * ob.sz+ob.sz≤i * ob.sz:=by rw [←Nat.succ_mul];exact Nat.mul_le_mul_right _ h1
      omega
     ·have:i * ob.sz+ob.sz≤j * ob.sz:=by rw [←Nat.succ_mul];exact Nat.mul_le_mul_right _ h1
      omega
  ·rw [uj];exact hfree
end Go.Vg
end
