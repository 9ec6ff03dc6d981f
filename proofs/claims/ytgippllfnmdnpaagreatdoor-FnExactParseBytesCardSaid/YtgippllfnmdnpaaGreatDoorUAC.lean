/- Own text: part UAC. -/
import Derived.Test.YtgippllfnmdnpaaGreatDoorUAB
import Derived.Laws.BytesString
import Derived.MapKept
set_option linter.all false
section
namespace Go.Vg
variable [Go.Vg.Glob]
open Go.RowKit
/-- A stretch of an element's cells replaced. -/
def spl (l:List SV) (k:Nat) (cs:List SV):List SV:=
 match cs with
 | [x]=>l.set k x
 | _=>if k=0∧cs.length=l.length then cs else l.take k++(cs++l.drop (k+cs.length))
theorem spl_eq {l:List SV} {k:Nat} {cs:List SV} (h:k+cs.length≤l.length):spl l k cs=l.take k++(cs++l.drop (k+cs.length)):=by
 unfold spl;split
 ·rename_i x;simp only [List.length_singleton] at h ⊢;rw [List.set_eq_take_append_cons_drop,if_pos (by omega)];simp
 ·split
  ·rename_i h0;obtain ⟨rfl,h1⟩:=h0;simp [h1]
  ·rfl
theorem zw6 {l:List SV} {k:Nat} {cs:List SV} (h:k+cs.length≤l.length):(spl l k cs).length=l.length:=by rw [spl_eq h];simp;omega
theorem zy9 {l:List SV} {k:Nat} {cs:List SV} (h:k+cs.length≤l.length) (j:Nat):(spl l k cs).getD j .u=if k≤j∧j<k+cs.length then cs.getD (j-k) .u else l.getD j .u:=by
 rw [spl_eq h];simp only [List.getD_eq_getElem?_getD];rw [List.getElem?_append,List.getElem?_append,List.length_take];by_cases h1:j<k
 ·rw [if_pos (by omega),if_neg (by omega),List.getElem?_take_of_lt h1]
 ·rw [if_neg (by omega)];by_cases h2:j<k+cs.length
  ·rw [if_pos (by omega),if_pos (by omega)];congr 2;omega
  ·rw [if_neg (by omega),if_neg (by omega),List.getElem?_drop];congr 2;omega
def SO.put (o:SO) (i k:Nat) (cs:List SV):SO:=
 match o with
 | .row ro sz n f=>.row ro sz n (fun j=>if j=i then spl (f j) k cs else f j)
 | .blk ro l=>.blk ro (spl l k cs)
 | o=>o
def w9 (f:Nat→List SV) (lo len:Nat):List UInt8:=
 (List.range len).map fun j=>match (f (lo+j)).getD 0 .u with
  | .i _ n=>UInt8.ofNat n.toNat
  | _=>0
def ui (l:List (List SV)):List UInt8:=l.map fun x=>match x.getD 0 .u with
 | .i _ n=>UInt8.ofNat n.toNat
 | _=>0
def zme:SV→Bool
 | .i .u8 _=>true
 | _=>false
def xl (te:TE) (t:TypeId):Bool:=match tdOf te t with
 | .int .u8=>true
 | _=>false
def lookS {α:Type} [DecidableEq α]:List (α×Int)→α→Option Int
 | [],_=>none
 | p::r,k=>if p.1=k then some p.2 else lookS r k
def zaw {α:Type} [DecidableEq α]:List (α×Int)→α→Int→List (α×Int)
 | [],k,v=>[(k,v)]
 | p::r,k,v=>if p.1=k then (k,v)::r else p::zaw r k v
def zhr (c:Bool) (ok:Bool) (r:Option Int) (K:SV→Prop):Prop:=
 if ok then K (.tup [.i .i64 (r.getD 0),.b r.isSome]) else K (.i .i64 (r.getD 0))
/-- Operations that read memory. -/
def zne (te:TE) (c:Bool) (st:St) (o:Op) (K:SV→Prop):Prop:=
 match o with
 | .load t x=>ung c (st.ev x) fun v=>match v with
  | .ptr h i k=>match st.ctx.at h,te t with
   | some ob,some ti=>ob.isMap=false∧ti.td≠.other∧if ti.td.isStruct then k+ti.size≤ob.sz∧(ob.el i).length=ob.sz∧Chk (c=true→i<ob.n) (K (.agg (((ob.el i).drop k).take ti.size)))
    else k<ob.sz∧Chk (c=true→i<ob.n) (K ((ob.el i).getD k .u))
   | _,_=>False
  | .fp l k=>match te t with
   | some ti=>ti.td≠.other∧if ti.td.isStruct then Chk (c=true→k+ti.size≤l.length) (K (.agg ((l.drop k).take ti.size)))
    else Chk (c=true→k<l.length) (K (l.getD k .u))
   | none=>False
  | _=>False
 | .convert s d x=>ung c (st.ev x) fun v=>match v,tdOf te s,tdOf te d with
  | .slc h lo len,.slice e,.str=>xl te e=true∧(match st.ctx.at h with
   | some (.row ro sz n f)=>sz=1∧(∀ j,j<len→zme ((f (lo+j)).getD 0 .u)=true)∧Chk (c=true→lo+len≤n) (K (.s (w9 f lo len)))
   | _=>False)
  | .nils,.slice e,.str=>xl te e=true∧K (.s [])
  | .fs sz l,.slice e,.str=>xl te e=true∧sz=1∧Chk (c=true→∀ x∈l,zme (x.getD 0 .u)=true) (K (.s (ui l)))
  | _,_,_=>False
 | .lookup t m k ok=>ung c (st.ev m) fun v=>ung c (st.ev k) fun y=>match v,y with
  | .mp h,.s s=>match st.ctx.at h,tdOf te t with
   | some (.mapS l),.map kt vt=>tdOf te kt=.str∧te vt=some ⟨.int .i64,1,8,[.i .i64 0],false⟩∧zhr c ok (lookS l s) K
   | _,_=>False
  | .mp h,.i .i64 s=>match st.ctx.at h,tdOf te t with
   | some (.mapI l),.map kt vt=>tdOf te kt=.int .i64∧te vt=some ⟨.int .i64,1,8,[.i .i64 0],false⟩∧zhr c ok (lookS l s) K
   | _,_=>False
  | _,_=>False
 | _=>False
/-- What an operation that reads comes to: the same in every world whose block is the same. -/
def OutL (P:Program) (σ:Asg) (w:World) (c:Bool) (hs:List Nat) (s:Sem Next) (K:SV→Prop):Prop:=
 ∃ z,K z∧(c=true→∃ v,rel σ z v∧∀ w',(∀ h∈hs,∀ L,σ h=some L→w'.heap[L.b]?=w.heap[L.b]?)→(∀ b o,σ.fz b=some o→w'.heap[b]?=some o)→s.run P w'=.ok (.value v) w')
/-- The object that a reading operation looks at. -/
def j3:SV→List Nat
 | .ptr h _ _ | .slc h _ _ | .mp h=>[h]
 | .gd _ (.ptr h _ _) | .gd _ (.slc h _ _) | .gd _ (.mp h)=>[h]
 | _=>[]
def opHandle (st:St):Op→List Nat
 | .load _ x | .convert _ _ x | .lookup _ x _ _=>j3 (st.ev x)
 | _=>[]
theorem ze3 {σ:Asg} {c:Bool} {x:SV} {K:SV→Prop} {v:Value} (hr:rel σ x v) (h:ung c x K):∃ y,K y∧(c=true→rel σ y v)∧((match y with | .gd _ _=>False | _=>True)→j3 x=j3 y):=by
 unfold ung at h;split at h
 ·rename_i g y;obtain ⟨h1,h2⟩:=h.out;refine ⟨y,h2,fun hc=>by simp only [rel] at hr;exact hr.1 (h1 hc),fun hy=>?_⟩;cases y<;>first | rfl | exact hy.elim
 ·exact ⟨x,h,fun _=>hr,fun _=>rfl⟩
theorem live_cells {σ:Asg} {w:World} {st:St} (hs:Sat σ w st.ctx) {h:Nat} {ob:SO} (ho:st.ctx.at h=some ob) (hm:ob.isMap=false) :
  (ob.n=0∧σ h=none)∨∃ L c e fr,σ h=some L∧cellsAt σ w L ob c e fr:=by
 have:=hs.obj h ob ho;unfold qc at this;rwa [hm] at this
theorem wv {l:List SV} {j:Nat} (h:j<l.length):l[j]?=some (l.getD j .u):=by simp [List.getD,List.getElem?_eq_getElem h]
theorem zfp {P:Program} {te:TE} (hte:vh P te) {A:Amb} {σ:Asg} {st:St} {a:Act} {w:World} (hR:Rel A σ st a w) {t:TypeId} {ti:TI} (hti:te t=some ti) (ho:ti.td≠.other)
  {h i k:Nat} {ob:SO} (hob:st.ctx.at h=some ob) (hm:ob.isMap=false) (hi:i<ob.n) {v:Value} (hv:rel σ (.ptr h i k) v)
  (hk:if ti.td.isStruct then k+ti.size≤ob.sz∧(ob.el i).length=ob.sz else k<ob.sz) :
  ∃ u,rel σ (if ti.td.isStruct then .agg (((ob.el i).drop k).take ti.size) else (ob.el i).getD k .u) u∧∀ w',(∀ L,σ h=some L→w'.heap[L.b]?=w.heap[L.b]?)→(Instr.loadAt t v).run P w'=.ok u w':=by
 rcases live_cells hR.sat hob hm with ⟨h0,_⟩ | ⟨L,cs,e,fr,hL,hc⟩
 ·omega
 simp only [rel] at hv;obtain ⟨L',hL',rfl⟩:=hv;rw [hL] at hL';cases hL';by_cases hs:ti.td.isStruct=true
 ·rw [if_pos hs] at hk;obtain ⟨hk1,hk2⟩:=hk;obtain ⟨vs,h1,h2,h3⟩:=zfw hc hi hk1;refine ⟨.agg vs.toArray, ?_,fun w' hw=>?_⟩
  ·rw [if_pos hs];simp only [rel];refine ⟨_,rfl, ?_⟩;refine j5 (by simp;omega) fun j x u hx hu=>?_;have h4:=h3 j u (by simpa using hu);have hjn:j<ti.size:=by
    rcases Nat.lt_or_ge j ti.size with h | h
    ·exact h
    ·rw [List.getElem?_eq_none (by simp;omega)] at hx;cases hx
   rw [List.getElem?_take_of_lt hjn,List.getElem?_drop] at hx;rw [List.getD_eq_getElem?_getD,hx] at h4;exact h4
  ·have hh:w'.heap[L.b]?=some (.cells cs e fr):=(hw L hL).trans hc.heap;have h5:=kx (P:=P) (off:=L.sh+i * L.sz+k) hh vs h2;rw [h1] at h5;simp only [Instr.loadAt,Instr.sureAddr,Sem.run_bind,Sem.run_pure,Result.andThen_ok,loadVar,u2 hte hti ho,hs,if_true,kw hte hti,vp,h5]
 ·rw [if_neg hs] at hk;obtain ⟨u,h1,h2⟩:=hc.cell i k hi hk;refine ⟨u,by rw [if_neg hs];exact h2,fun w' hw=>?_⟩;have hh:w'.heap[L.b]?=some (.cells cs e fr):=(hw L hL).trans hc.heap;rw [←hc.lsz] at h1;simp [Instr.loadAt,Instr.sureAddr,loadVar,u2 hte hti ho,hs,vp,zev hh,h1]
theorem zjk {P:Program} {te:TE} (hte:vh P te) {σ:Asg} {t:TypeId} {ti:TI} (hti:te t=some ti) (ho:ti.td≠.other)
  {l:List SV} {k:Nat} {v:Value} (hv:rel σ (.fp l k) v) (hk:if ti.td.isStruct then k+ti.size≤l.length else k<l.length) :
  ∃ u,rel σ (if ti.td.isStruct then .agg ((l.drop k).take ti.size) else l.getD k .u) u∧∀ w',(∀ b o,σ.fz b=some o→w'.heap[b]?=some o)→(Instr.loadAt t v).run P w'=.ok u w':=by
 simp only [rel] at hv;obtain ⟨b,off,c,e,fr,rfl,hfz,hrl⟩:=hv;have hrl':=jz (⟨fun _ _ h=>(by cases h),fun _ _ h=>h⟩:leA σ.bare σ) hrl;by_cases hs:ti.td.isStruct=true
 ·rw [if_pos hs] at hk ⊢;have h1:=zbf ti.size (zbg k hrl');have hlen:=y4 h1;simp only [List.length_take,List.length_drop] at hlen;refine ⟨.agg ((((c.toList.drop off).take l.length).drop k).take ti.size).toArray, ?_,fun w' hw=>?_⟩
  ·simp only [rel];exact ⟨_,rfl,by simpa using h1⟩
  ·have hh:=hw _ _ hfz;have h5:=kx (P:=P) (off:=off+k) hh ((((c.toList.drop off).take l.length).drop k).take ti.size) (fun j x hj=>by
    rw [List.getElem?_take] at hj;split at hj
    ·rw [List.getElem?_drop,List.getElem?_take] at hj;split at hj
     ·rw [List.getElem?_drop] at hj;rw [show off+k+j=off+(k+j) by omega];simpa using hj
     ·cases hj
    ·cases hj)
   have hl2:((((c.toList.drop off).take l.length).drop k).take ti.size).length=ti.size:=by simp only [List.length_take,List.length_drop];omega
   rw [hl2] at h5;simp only [Instr.loadAt,Instr.sureAddr,Sem.run_bind,Sem.run_pure,Result.andThen_ok,loadVar,u2 hte hti ho,hs,if_true,kw hte hti,h5]
 ·rw [if_neg hs] at hk ⊢;obtain ⟨u,h1,h2⟩:=ky hrl' (wv hk);refine ⟨u,h2,fun w' hw=>?_⟩;have hh:=hw _ _ hfz;rw [List.getElem?_take,if_pos hk,List.getElem?_drop] at h1;have h3:c[off+k]?=some u:=by simpa using h1
  simp [Instr.loadAt,Instr.sureAddr,loadVar,u2 hte hti ho,hs,zev hh,h3]
end Go.Vg
end
section
namespace Go.Vg
variable [Go.Vg.Glob]
open Go.RowKit Go.MapKept
theorem zlf (ns:List Int):∀ (s:ByteArray),(ns.foldl (fun r n=>r.push (UInt8.ofNat n.toNat)) s)=⟨(s.data.toList++ns.map fun n=>UInt8.ofNat n.toNat).toArray⟩:=by
 induction ns with
 | nil=>intro s;simp
 | cons n ns ih=>intro s;simp only [List.foldl_cons,ih];simp
theorem z1v {x:SV} (h:zme x=true):∃ n,x=.i .u8 n:=by
 unfold zme at h;split at h
 ·exact ⟨_,rfl⟩
 ·cases h
theorem zhn {te:TE} {t:TypeId} (h:xl te t=true):tdOf te t=.int .u8:=by
 unfold xl at h;split at h
 ·assumption
 ·cases h
theorem zx1 {σ:Asg} {w:World} {L:Loc} {ro:Bool} {n:Nat} {f:Nat→List SV} {c:Array Value} {e:TypeId} {fr:Nat×Nat} (h:cellsAt σ w L (.row ro 1 n f) c e fr) (lo:Nat) :
  ∀ (len:Nat),lo+len≤n→(∀ j,j<len→zme ((f (lo+j)).getD 0 .u)=true) →
  ∃ ns:List Int,ns.length=len∧(∀ (j:Nat) (x:Int),ns[j]?=some x→c[L.sh+lo+j]?=some (.int .u8 x))∧ns.map (fun n=>UInt8.ofNat n.toNat)=w9 f lo len:=by
 intro len
 induction len with
 | zero=>intro _ _;exact ⟨[],rfl,by simp,rfl⟩
 | succ len ih=>
  intro hl hu;obtain ⟨ns,h1,h2,h3⟩:=ih (by omega) (fun j hj=>hu j (by omega));obtain ⟨v,h4,h5⟩:=h.cell (lo+len) 0 (by simp only [SO.n];omega) (by simp [SO.sz]);obtain ⟨x,hx⟩:=z1v (hu len (by omega));simp only [SO.el,SO.sz,Nat.mul_one,Nat.add_zero] at h4 h5;rw [hx] at h5;simp only [rel] at h5;subst h5;refine ⟨ns++[x],by simp [h1],fun j y hj=>?_, ?_⟩
  ·rw [List.getElem?_append] at hj;split at hj
   ·exact h2 j y hj
   ·have h0:j-ns.length=0:=by
     rcases Nat.eq_zero_or_pos (j-ns.length) with h0 | h0
     ·exact h0
     ·rw [List.getElem?_eq_none (by simp;omega)] at hj;cases hj
    rw [h0] at hj;simp at hj;subst hj;have hjn:j=len:=by omega
    subst hjn;rw [Nat.add_assoc];exact h4
  ·rw [List.map_append,h3];simp only [List.getD_eq_getElem?_getD] at hx;simp [w9,List.range_succ,hx]
theorem zxz {P:Program} {te:TE} (hte:vh P te) {A:Amb} {σ:Asg} {st:St} {a:Act} {w:World} (hR:Rel A σ st a w) {s d e:TypeId} (hs:tdOf te s=.slice e) (hd:tdOf te d=.str) (he:xl te e=true)
  {h lo len n:Nat} {ro:Bool} {f:Nat→List SV} (hob:st.ctx.at h=some (.row ro 1 n f)) (hu:∀ j,j<len→zme ((f (lo+j)).getD 0 .u)=true) (hn:lo+len≤n) {v:Value} (hv:rel σ (.slc h lo len) v) :
  ∀ w',(∀ L,σ h=some L→w'.heap[L.b]?=w.heap[L.b]?)→(convert s d v).run P w'=.ok (.string ⟨(w9 f lo len).toArray⟩) w':=by
 intro w' hw;simp only [rel] at hv;obtain ⟨ad,cap,rfl,hl,hv⟩:=hv;rw [run_convert_bytes_string w' s d e ad len cap (qz hte hs) (vq hte (zhn he)) (jy hte hd)];rcases hv with hv | ⟨L,hL,rfl,hav⟩
 ·have h0:len=0:=by omega
  subst h0;cases ad with
  | none=>simp [Conv.bytesToString,w9];rfl
  | some ad=>rw [run_bytesToString w' ad 0 cap [] (by simp [loadCells,loadCellsFrom])];simp [w9];rfl
 ·rcases live_cells hR.sat hob rfl with ⟨_,h1⟩ | ⟨L',c,e',fr,hL',hc⟩
  ·rw [h1] at hL;cases hL
  rw [hL'] at hL;cases hL;obtain ⟨ns,h1,h2,h3⟩:=zx1 hc lo len hn hu;have hh:w'.heap[L.b]?=some (.cells c e' fr):=(hw L hL').trans hc.heap;have hsz:L.sz=1:=hc.lsz;have h5:=kx (P:=P) (off:=L.sh+lo * L.sz+0) hh (ns.map (Value.int .u8)) (fun j x hj=>by simp only [List.getElem?_map,Option.map_eq_some_iff] at hj;obtain ⟨y,hy,rfl⟩:=hj;rw [hsz];simpa using h2 j y hy)
  simp only [List.length_map,h1] at h5;rw [show vp L lo 0=⟨L.b,L.sh+lo * L.sz+0,none⟩ from rfl,run_bytesToString w' _ len cap ns h5,zlf,h3];simp
theorem zgt {σ:Asg}:∀ {l:List (List SV)} {vs:List Value},zr9 σ 1 l vs→(∀ x∈l,zme (x.getD 0 .u)=true) →
  ∃ ns:List Int,ns.length=l.length∧(∀ (j:Nat) (x:Int),ns[j]?=some x→vs[j]?=some (.int .u8 x))∧ns.map (fun n=>UInt8.ofNat n.toNat)=ui l
 | [],_,_,_=>⟨[],rfl,by simp,rfl⟩
 | y::ys,vs,h,hu=>by
  simp only [zr9] at h;obtain ⟨h0,h1,h2⟩:=h;obtain ⟨ns,g1,g2,g3⟩:=zgt h2 fun x hx=>hu x (List.mem_cons_of_mem _ hx);obtain ⟨n,hn⟩:=z1v (hu y (by simp));obtain ⟨v,e1,e2⟩:=ky h1 (j:=0) (x:=y.getD 0 .u) (wv (by omega));rw [hn] at e2;simp only [rel] at e2;subst e2;refine ⟨n::ns,by simp [g1],fun j x hj=>?_, ?_⟩
  ·cases j with
   | zero=>
    simp at hj;subst hj;rw [List.getElem?_take] at e1;simpa using e1
   | succ j=>simp at hj;have:=g2 j x hj;rw [List.getElem?_drop,Nat.add_comm] at this;exact this
  ·simp only [List.getD_eq_getElem?_getD] at hn;simp [ui,g3,hn]
theorem zs4 {P:Program} {te:TE} (hte:vh P te) {σ:Asg} {s d e:TypeId} (hs:tdOf te s=.slice e) (hd:tdOf te d=.str) (he:xl te e=true)
  {l:List (List SV)} (hu:∀ x∈l,zme (x.getD 0 .u)=true) {v:Value} (hv:rel σ (.fs 1 l) v) :
  ∀ w',(∀ b o,σ.fz b=some o→w'.heap[b]?=some o)→(convert s d v).run P w'=.ok (.string ⟨(ui l).toArray⟩) w':=by
 intro w' hw;simp only [rel] at hv;obtain ⟨ad,cap,rfl,hl,hv⟩:=hv;rw [run_convert_bytes_string w' s d e ad l.length cap (qz hte hs) (vq hte (zhn he)) (jy hte hd)];rcases hv with hv | ⟨b,off,c,e',fr,rfl,hfz,hrr⟩
 ·subst hv;cases ad with
  | none=>simp [Conv.bytesToString,ui];rfl
  | some ad=>simp only [List.length_nil];rw [run_bytesToString w' ad 0 cap [] (by simp [loadCells,loadCellsFrom])];simp [ui];rfl
 ·obtain ⟨ns,h1,h2,h3⟩:=zgt hrr hu;have h5:=kx (P:=P) (off:=off) (hw _ _ hfz) (ns.map (Value.int .u8)) (fun j x hj=>by simp only [List.getElem?_map,Option.map_eq_some_iff] at hj;obtain ⟨y,hy,rfl⟩:=hj;have:=h2 j y hy;rw [List.getElem?_drop] at this;simpa using this)
  simp only [List.length_map,h1] at h5;rw [run_bytesToString w' _ l.length cap ns h5,zlf,h3];simp
/-- Keys of a kind: how they stand in memory,and when two are the same. -/
structure KeyK (α:Type) [DecidableEq α] where
 d:TypeDesc
 v:α→Value
 s:α→SV
 same:∀ a b,Instr.sameNow d (v a) (v b)=some (decide (a=b))
 isKey:∀ a,IsKey d (v a)
 rel_iff:∀ σ a x,rel σ (s a) x↔x=v a
 stays:∀ a,Instr.sameBits 10000 (v a) (v a)=true
def keyS:KeyK (List UInt8) where
 d:=.string
 v:=fun l=>.string ⟨l.toArray⟩
 s:=fun l=>.s l
 same:=fun a b=>by simp only [Instr.sameNow,beq_toListBytes,zae,zb5]
 isKey:=fun a=>by simp [IsKey]
 rel_iff:=fun σ a x=>by simp [rel]
 stays:=fun a=>by simp only [Instr.sameBits,beq_toListBytes,zae];simp
def keyI:KeyK Int where
 d:=.int .i64
 v:=fun n=>.int .i64 n
 s:=fun n=>.i .i64 n
 same:=fun a b=>by simp [Instr.sameNow,zb5]
 isKey:=fun a=>by simp [IsKey]
 rel_iff:=fun σ a x=>by simp [rel]
 stays:=fun a=>by simp [Instr.sameBits]
theorem find_ents {α:Type} [DecidableEq α] (kk:KeyK α) (σ:Asg) (k:α) (x:Int):∀ (l:List (α×Int)) (es:List MapEntry) (i:Nat),qo σ (l.map fun p=>(kk.s p.1,.i .i64 p.2)) es →
  (lookS l k=none∧Instr.findNow kk.d (kk.v k) es i=some none∧zaw l k x=l++[(k,x)]) ∨
  ∃ j e y,lookS l k=some y∧Instr.findNow kk.d (kk.v k) es i=some (some (i+j,.int .i64 y))∧es[j]?=some e∧e.key=kk.v k ∧
   qo σ ((zaw l k x).map fun p=>(kk.s p.1,.i .i64 p.2)) (es.modify j fun e=>{ e with key:=kk.v k,val:=.int .i64 x })
 | [],es,i,h=>by
  simp only [List.map_nil,qo] at h;subst h;exact .inl ⟨rfl,rfl,rfl⟩
 | (p,n)::l,es,i,h=>by
  simp only [List.map_cons,qo] at h;obtain ⟨e,r,rfl,h1,h2,h3⟩:=h;rw [kk.rel_iff] at h1;simp only [rel] at h2;by_cases hp:p=k
  ·subst hp;refine .inr ⟨0,e,n,by simp [lookS], ?_,rfl,h1, ?_⟩
   ·simp [Instr.findNow,h1,kk.same,h2]
   ·simp only [zaw,if_true,List.map_cons,List.modify_zero_cons,qo];exact ⟨_,_,rfl,by rw [kk.rel_iff],by simp [rel],h3⟩
  ·have hne:¬k=p:=fun q=>hp q.symm;rcases find_ents kk σ k x l r (i+1) h3 with ⟨g1,g2,g3⟩ | ⟨j,e',y,g1,g2,g3,g4,g5⟩
   ·exact .inl ⟨by simp [lookS,hp,g1],by simp [Instr.findNow,h1,kk.same,hne,g2],by simp [zaw,hp,g3]⟩
   ·refine .inr ⟨j+1,e',y,by simp [lookS,hp,g1], ?_,by simpa using g3,g4, ?_⟩
    ·simp [Instr.findNow,h1,kk.same,hne,g2];omega
    ·simp only [zaw,if_neg hp,List.map_cons,List.modify_succ_cons,qo];exact ⟨_,_,rfl,by rw [kk.rel_iff];exact h1,by simp only [rel];exact h2,g5⟩
theorem zjn {σ:Asg}:∀ {ps qs:List (SV×SV)} {es fs:List MapEntry},qo σ ps es→qo σ qs fs→qo σ (ps++qs) (es++fs)
 | [],qs,es,fs,h,k=>by simp only [qo] at h;subst h;simpa using k
 | p::ps,qs,es,fs,h,k=>by simp only [qo] at h;obtain ⟨e,r,rfl,h1,h2,h3⟩:=h;simp only [List.cons_append,qo];exact ⟨e,r++fs,rfl,h1,h2,zjn h3 k⟩
theorem zcb {P:Program} {te:TE} (hte:vh P te) {α:Type} [DecidableEq α] (kk:KeyK α) {σ:Asg} {w:World} {t kt vt:TypeId} (ht:tdOf te t=.map kt vt) (hkt:P.underlying kt=some kk.d)
  (hvt:te vt=some ⟨.int .i64,1,8,[.i .i64 0],false⟩) {L:Loc} {es:Array MapEntry} {ck:Nat} (hh:w.heap[L.b]?=some (.map es ck)) {l:List (α×Int)}
  (he:qo σ (l.map fun p=>(kk.s p.1,.i .i64 p.2)) es.toList) (k:α) (ok:Bool) :
  (Instr.lookup t (.map (some L.b)) (kk.v k) ok).run P w=.ok (if ok then .tuple #[.int .i64 ((lookS l k).getD 0),.bool (lookS l k).isSome] else .int .i64 ((lookS l k).getD 0)) w:=by
 obtain ⟨i,hi,_,_,z,hz,hrz,hone⟩:=(hte vt _ hvt).info;have hz0:z=.int .i64 0:=by have h1:=hone rfl;cases z<;>simp only [Value.oneCell',Bool.false_eq_true] at h1<;>(simp only [Value.cells,relL,rel] at hrz;simp_all)
 have hzero:(zeroValue vt).run P w=.ok (.int .i64 0) w:=by simp [zeroValue,zah hi,hz,hz0]
 unfold Instr.lookup;simp only [Sem.run_bind,qj (zr3 hte ht),Result.andThen_ok,Go.MapKept.run_getObj_map hh,Sem.run_pure];rw [show (10000:Nat)=9999+1 from rfl,run_checkKey hkt (kk.isKey k)];simp only [Result.andThen_ok];rcases find_ents kk σ k 0 l es.toList 0 he with ⟨g1,g2,_⟩ | ⟨j,e,y,g1,g2,_⟩
 ·rw [run_findKey hkt g2];simp [hzero,g1]
 ·rw [run_findKey hkt g2];simp [g1]
end Go.Vg
end
section
namespace Go.Vg
variable [Go.Vg.Glob]
open Go.RowKit
theorem zhs {P:Program} {te:TE} (hte:vh P te) {A:Amb} {σ:Asg} {st:St} {a:Act} {w:World} (hR:Rel A σ st a w) {c:Bool} {o:Oper} {K:SV→Prop}
  (h:zne te c st o.op K):OutL P σ w c (opHandle st o.op) (execOp a.eval o) K:=by
 obtain ⟨dst,op,ty,pos,after,guard⟩:=o;simp only at h ⊢;unfold zne at h;split at h
 case h_1 t x=>
  obtain ⟨y,h,hr,hh⟩:=ze3 (hR.ev x) h;split at h
  ·rename_i hd i k;have hh':hd∈j3 (st.ev x):=by rw [hh trivial];exact List.mem_singleton.2 rfl
   split at h
   ·rename_i ob ti hob hti;obtain ⟨hm,ho,h⟩:=h;by_cases hs:ti.td.isStruct=true
    ·rw [if_pos hs] at h;obtain ⟨hk1,hk2,h⟩:=h;obtain ⟨hi,h⟩:=h.out;refine ⟨_,h,fun hc=>?_⟩;obtain ⟨u,h1,h2⟩:=zfp hte hR hti ho hob hm (hi hc) (hr hc) (by rw [if_pos hs];exact ⟨hk1,hk2⟩);rw [if_pos hs] at h1;refine ⟨u,h1,fun w' hw hw2=>wg (h2 w' fun L hL=>hw hd hh' L hL)⟩
    ·rw [if_neg hs] at h;obtain ⟨hk1,h⟩:=h;obtain ⟨hi,h⟩:=h.out;refine ⟨_,h,fun hc=>?_⟩;obtain ⟨u,h1,h2⟩:=zfp hte hR hti ho hob hm (hi hc) (hr hc) (by rw [if_neg hs];exact hk1);rw [if_neg hs] at h1;refine ⟨u,h1,fun w' hw hw2=>wg (h2 w' fun L hL=>hw hd hh' L hL)⟩
   ·exact h.elim
  ·rename_i l k;split at h
   ·rename_i ti hti;obtain ⟨ho,h⟩:=h;by_cases hs:ti.td.isStruct=true
    ·rw [if_pos hs] at h;obtain ⟨hi,h⟩:=h.out;refine ⟨_,h,fun hc=>?_⟩;obtain ⟨u,h1,h2⟩:=zjk hte hti ho (hr hc) (by rw [if_pos hs];exact hi hc);rw [if_pos hs] at h1;exact ⟨u,h1,fun w' _ hw=>wg (h2 w' hw)⟩
    ·rw [if_neg hs] at h;obtain ⟨hi,h⟩:=h.out;refine ⟨_,h,fun hc=>?_⟩;obtain ⟨u,h1,h2⟩:=zjk hte hti ho (hr hc) (by rw [if_neg hs];exact hi hc);rw [if_neg hs] at h1;exact ⟨u,h1,fun w' _ hw=>wg (h2 w' hw)⟩
   ·exact h.elim
  ·exact h.elim
 case h_2 s d x=>
  obtain ⟨y,h,hr,hh⟩:=ze3 (hR.ev x) h;split at h
  ·rename_i hd lo len e hs hdd;have hh':hd∈j3 (st.ev x):=by rw [hh trivial];exact List.mem_singleton.2 rfl
   obtain ⟨hu8,h⟩:=h;split at h
   ·rename_i ro sz n f hob;obtain ⟨rfl,hu,h⟩:=h;obtain ⟨hn,h⟩:=h.out;refine ⟨_,h,fun hc=>⟨.string ⟨(w9 f lo len).toArray⟩,by simp only [rel],fun w' hw hw2=>wg ?_⟩⟩;refine zxz hte hR hs hdd hu8 hob hu (hn hc) (hr hc) w' fun L hL=>hw hd hh' L hL
   ·exact h.elim
  ·rename_i e hs hdd;obtain ⟨hu8,h⟩:=h;refine ⟨_,h,fun hc=>⟨.string ⟨#[]⟩,by simp only [rel],fun w' hw hw2=>wg ?_⟩⟩;have h1:=hr hc;simp only [rel] at h1;rw [h1,run_convert_bytes_string w' s d e none 0 0 (qz hte hs) (vq hte (zhn hu8)) (jy hte hdd)];simp [Conv.bytesToString];rfl
  ·rename_i sz l e hs hdd;obtain ⟨hu8,rfl,h⟩:=h;obtain ⟨hall,h⟩:=h.out;refine ⟨_,h,fun hc=>⟨.string ⟨(ui l).toArray⟩,by simp only [rel],fun w' _ hw=>wg ?_⟩⟩;exact zs4 hte hs hdd hu8 (hall hc) (hr hc) w' hw
  ·exact h.elim
 case h_3 t m k ok=>
  obtain ⟨y,h,hr,hh⟩:=ze3 (hR.ev m) h;obtain ⟨y2,h,hr2⟩:=y9 (hR.ev k) h;split at h
  ·rename_i hd s _;have hh':hd∈j3 (st.ev m):=by rw [hh trivial];exact List.mem_singleton.2 rfl
   split at h
   ·rename_i l kt vt hob htd;obtain ⟨hkt,hvt,h⟩:=h;have hobj:=hR.sat.obj hd _ hob;simp only [qc,SO.isMap,SO.ents] at hobj;obtain ⟨L,es,ck,hL,hh0,he⟩:=hobj;unfold zhr at h;split at h
    ·rename_i hok;refine ⟨_,h,fun hc=>⟨.tuple #[.int .i64 ((lookS l s).getD 0),.bool (lookS l s).isSome],by simp [rel,relL],fun w' hw hw2=>wg ?_⟩⟩;have h1:=hr hc;have h2:=hr2 hc;simp only [rel] at h1 h2;obtain ⟨L',hL',hv⟩:=h1;rw [hL] at hL';cases hL';have:=zcb hte keyS htd (jy hte hkt) hvt (L:=L) ((hw hd hh' L hL).trans hh0) he s ok;rw [hv,h2];rw [if_pos hok] at this;exact this
    ·rename_i hok;refine ⟨_,h,fun hc=>⟨.int .i64 ((lookS l s).getD 0),by simp [rel],fun w' hw hw2=>wg ?_⟩⟩;have h1:=hr hc;have h2:=hr2 hc;simp only [rel] at h1 h2;obtain ⟨L',hL',hv⟩:=h1;rw [hL] at hL';cases hL';have:=zcb hte keyS htd (jy hte hkt) hvt (L:=L) ((hw hd hh' L hL).trans hh0) he s ok;rw [hv,h2];rw [if_neg hok] at this;exact this
   ·exact h.elim
  ·rename_i hd s _;have hh':hd∈j3 (st.ev m):=by rw [hh trivial];exact List.mem_singleton.2 rfl
   split at h
   ·rename_i l kt vt hob htd;obtain ⟨hkt,hvt,h⟩:=h;have hobj:=hR.sat.obj hd _ hob;simp only [qc,SO.isMap,SO.ents] at hobj;obtain ⟨L,es,ck,hL,hh0,he⟩:=hobj;unfold zhr at h;split at h
    ·rename_i hok;refine ⟨_,h,fun hc=>⟨.tuple #[.int .i64 ((lookS l s).getD 0),.bool (lookS l s).isSome],by simp [rel,relL],fun w' hw hw2=>wg ?_⟩⟩;have h1:=hr hc;have h2:=hr2 hc;simp only [rel] at h1 h2;obtain ⟨L',hL',hv⟩:=h1;rw [hL] at hL';cases hL';have:=zcb hte keyI htd (vq hte hkt) hvt (L:=L) ((hw hd hh' L hL).trans hh0) he s ok;rw [hv,h2];rw [if_pos hok] at this;exact this
    ·rename_i hok;refine ⟨_,h,fun hc=>⟨.int .i64 ((lookS l s).getD 0),by simp [rel],fun w' hw hw2=>wg ?_⟩⟩;have h1:=hr hc;have h2:=hr2 hc;simp only [rel] at h1 h2;obtain ⟨L',hL',hv⟩:=h1;rw [hL] at hL';cases hL';have:=zcb hte keyI htd (vq hte hkt) hvt (L:=L) ((hw hd hh' L hL).trans hh0) he s ok;rw [hv,h2];rw [if_neg hok] at this;exact this
   ·exact h.elim
  ·exact h.elim
 case h_4=>exact h.elim
/-- Another thing at a handle. -/
def St.setObj (st:St) (h:Nat) (o:Option SO):St:=⟨st.env,st.ctx.set h o⟩
def St.addObj (st:St) (o:SO):St:=⟨st.env,st.ctx++[some o]⟩
/-- Elements of a row behind those of another. -/
def zfz (n:Nat) (f g:Nat→List SV):Nat→List SV:=fun j=>if j<n then f j else g (j-n)
def q7 (l:List SV) (sz:Nat):Nat→List SV:=fun j=>(l.drop (j * sz)).take sz
def fillP (sz:Nat) (cs:List SV):List (Nat×SV)→Option (List SV)
 | []=>some cs
 | (i,x)::r=>if (cellsOf x).length=sz∧i * sz+sz≤cs.length then fillP sz (cs.take (i * sz)++(cellsOf x++cs.drop (i * sz+sz))) r else none
def zj0 (z:List SV):Nat→List SV
 | 0=>[]
 | n+1=>z++zj0 z n
/-- The source of an append: how many elements,and which. -/
def xsrc (st:St) (sz:Nat) (u8:Bool) (dh:Nat) (x:SV) (K:Nat→(Nat→List SV)→Prop):Prop:=
 match x with
 | .nils=>K 0 (fun _=>[])
 | .s l=>u8=true∧sz=1∧K l.length (fun j=>[.i .u8 (l.getD j 0).toNat])
 | .slc h lo m=>match st.ctx.at h with
  | some (.row ro sz' n f)=>sz'=sz∧h≠dh∧(∀ j,j<m→(f (lo+j)).all wl=true∧(f (lo+j)).length=sz)∧Chk (lo+m≤n) (K m (fun j=>f (lo+j)))
  | _=>False
 | .fs sz' l=>sz'=sz∧(∀ x∈l,x.all wl=true)∧K l.length (fun j=>l.getD j [])
 | _=>False
def znh (te:TE) (st:St) (t:TypeId) (s x:SV) (K:SV→St→Prop):Prop:=
 match tdOf te t with
 | .slice e=>match te e with
  | some ti=>ti.zero.length=ti.size∧ti.bytes≠0∧(match s with
   | .nils=>xsrc st ti.size (xl te e) st.ctx.length x fun m g=>Chk (m * ti.bytes≤140737488355328) (K (.slc st.ctx.length 0 m) (st.addObj (.row false ti.size m g)))
   | .slc h lo len=>match st.ctx.at h with
    | some (.row false sz' n f)=>sz'=ti.size∧xsrc st ti.size (xl te e) h x fun m g=>Chk (lo+len≤n∧(len+m) * ti.bytes≤140737488355328)
      (K (.slc st.ctx.length 0 (len+m)) ((st.setObj h none).addObj (.row false ti.size (len+m) (zfz len (fun j=>f (lo+j)) g))))
    | _=>False
   | _=>False)
  | none=>False
 | _=>False
def zkr (te:TE) (st:St) (o:Op) (K:SV→St→Prop):Prop:=
 match o with
 | .alloc t=>match te t with
  | some ti=>K (.ptr st.ctx.length 0 0) (st.addObj (.blk false ti.zero))
  | none=>False
 | .box t x=>ji (st.ev x)=true∧K (.ptr st.ctx.length 0 0) (st.addObj (.blk false (cellsOf (st.ev x))))
 | .store t x y=>match st.ev x with
  | .ptr h i k=>match st.ctx.at h,te t with
   | some ob,some ti=>ob.isMap=false∧ob.ro=false∧ji (st.ev y)=true∧(cellsOf (st.ev y)).length=ti.size∧(cellsOf (st.ev y)).all wl=true ∧
     (ob.el i).length=ob.sz∧k+ti.size≤ob.sz∧Chk (i<ob.n) (K .u (st.setObj h (some (ob.put i k (cellsOf (st.ev y))))))
   | _,_=>False
  | _=>False
 | .makeMap t r=>(match r with | none=>True | some x=>match st.ev x with | .i _ _=>True | _=>False)∧match tdOf te t with
  | .map kt vt=>match tdOf te kt with
   | .str=>K (.mp st.ctx.length) (st.addObj (.mapS []))
   | .int .i64=>K (.mp st.ctx.length) (st.addObj (.mapI []))
   | _=>False
  | _=>False
 | .mapUpdate t m k x=>match st.ev m,st.ev k,st.ev x,tdOf te t with
  | .mp h,.s s,.i .i64 v,.map kt vt=>match st.ctx.at h with
   | some (.mapS l)=>tdOf te kt=.str∧K .u (st.setObj h (some (.mapS (zaw l s v))))
   | _=>False
  | .mp h,.i .i64 s,.i .i64 v,.map kt vt=>match st.ctx.at h with
   | some (.mapI l)=>tdOf te kt=.int .i64∧K .u (st.setObj h (some (.mapI (zaw l s v))))
   | _=>False
  | _,_,_,_=>False
 | .insert t m k x=>match st.ev m,st.ev k,st.ev x,tdOf te t with
  | .mp h,.s s,.i .i64 v,.map kt vt=>match st.ctx.at h with
   | some (.mapS l)=>tdOf te kt=.str∧K .u (st.setObj h (some (.mapS (zaw l s v))))
   | _=>False
  | .mp h,.i .i64 s,.i .i64 v,.map kt vt=>match st.ctx.at h with
   | some (.mapI l)=>tdOf te kt=.int .i64∧K .u (st.setObj h (some (.mapI (zaw l s v))))
   | _=>False
  | _,_,_,_=>False
 | .buildSlice t len parts=>match tdOf te t with
  | .slice e=>match te e with
   | some ti=>ti.zero.length=ti.size∧len * ti.size≤16777216∧(parts.toList.all fun p=>ji (st.ev p.2))=true ∧
     match fillP ti.size (zj0 ti.zero len) (parts.toList.map fun p=>(p.1,st.ev p.2)) with
     | some l=>K (.slc st.ctx.length 0 len) (st.addObj (.row false ti.size len (q7 l ti.size)))
     | none=>False
   | none=>False
  | _=>False
 | .makeSlice t l c=>match tdOf te t,st.ev l,st.ev c with
  | .slice e,.i .i64 n,.i .i64 m=>match te e with
   | some ti=>ti.zero.length=ti.size∧Chk (0≤n∧n≤m∧m * ti.bytes≤281474976710656∧m≤281474976710656)
     (K (.slc st.ctx.length 0 n.toNat) (st.addObj (.row false ti.size n.toNat (fun _=>ti.zero))))
   | none=>False
  | _,_,_=>False
 | .convert s d x=>s=d∧match st.ev x,tdOf te s with
  | .slc h lo len,.slice e=>xl te e=true∧0<len∧(match st.ctx.at h with
   | some (.row false _ _ _)=>True
   | _=>False)∧K (.slc h lo len) st
  | _,_=>False
 | .call { callee:=.builtin .append,args:=args,argTypes:=ts }=>match args.toList,ts.toList with
  | [s,x],[t,xt]=>(match tdOf te xt with | .slice _=>True | .str=>True | _=>False)∧znh te st t (st.ev s) (st.ev x) K
  | _,_=>False
 | _=>False
/-- A draw turns nothing that is told of the world. -/
theorem Rel.drawn {A:Amb} {σ:Asg} {st:St} {a:Act} {w:World} (hR:Rel A σ st a w) (n:Nat):Rel A σ st a { w with drawn:=n }:=by refine ⟨hR.defers,hR.size,hR.env,⟨fun h o e=>?_,hR.sat.apart,hR.sat.beyond,hR.sat.inHeap,hR.sat.frz,hR.sat.frzA,hR.sat.glb⟩,⟨hR.fr.os,hR.fr.tape,hR.fr.output,hR.fr.size,hR.fr.block⟩,hR.own,hR.base,hR.klen⟩;exact jj (w:=w) (leA.refl σ) rfl (fun _ _=>rfl) (hR.sat.obj h o e)
theorem jk {w:World} {b:Nat} {o:Obj} (x:Nat):(w.heap.setIfInBounds b o)[x]?=if x=b then (if b<w.heap.size then some o else none) else w.heap[x]?:=by
 rw [Array.getElem?_setIfInBounds];by_cases h:b=x
 ·subst h;simp
 ·rw [if_neg h,if_neg (Ne.symm h)]
/-- One block written: the object at 'h' is another;all others stand. -/
theorem Rel.write {A:Amb} {σ:Asg} {st:St} {a:Act} {w:World} (hR:Rel A σ st a w) {h:Nat} {o o':SO} {L:Loc} (ho:st.ctx.at h=some o) (hro:o.ro=false) (hro':o'.ro=false) (hL:σ h=some L) (ob:Obj)
  (hnew:qc σ { w with heap:=w.heap.setIfInBounds L.b ob } h o'):Rel A σ (st.setObj h (some o')) a { w with heap:=w.heap.setIfInBounds L.b ob }:=by
 have hlt:=zrl ho;refine ⟨hR.defers,hR.size,hR.env,⟨fun h1 o1 e=>?_,fun h1 h2 o1 o2 L1 L2 hne e1 e2 r s1 s2=>?_,fun h1 hh=>?_,fun h1 M e=>?_,fun b1 o1 e=>?_,fun h1 o1 M e r s=>?_,hR.sat.glb⟩, ?_,fun h1 o1 M e r s=>?_,hR.base, ?_⟩
 ·simp only [St.setObj] at e;rw [zm5 _ _ _ _ hlt] at e;split at e
  ·rename_i hh;cases e;rw [hh];exact hnew
  ·rename_i hh;refine jj (leA.refl σ) rfl (fun M hM=>?_) (hR.sat.obj h1 o1 e);have:=hR.sat.apart h h1 o o1 L M (Ne.symm hh) ho e hro hL hM;simp only [jk,if_neg (Ne.symm this)]
 ·simp only [St.setObj] at e1 e2;rw [zm5 _ _ _ _ hlt] at e1 e2;split at e1
  ·rename_i hh;subst hh;split at e2
   ·rename_i h3;exact absurd h3.symm hne
   ·exact hR.sat.apart _ _ o o2 L1 L2 hne ho e2 hro s1 s2
  ·split at e2
   ·rename_i hh;subst hh;exact hR.sat.apart _ _ o1 o L1 L2 hne e1 ho r s1 s2
   ·exact hR.sat.apart _ _ o1 o2 L1 L2 hne e1 e2 r s1 s2
 ·simp only [St.setObj,List.length_set] at hh;exact hR.sat.beyond h1 hh
 ·simpa using hR.sat.inHeap h1 M e
 ·have hne:b1≠L.b:=fun hh=>by rw [hh,hR.sat.frzA h o L ho hro hL] at e;cases e
  simp only [jk,if_neg hne];exact hR.sat.frz b1 o1 e
 ·simp only [St.setObj] at e;rw [zm5 _ _ _ _ hlt] at e;split at e
  ·rename_i hh;subst hh;exact hR.sat.frzA _ o M ho hro s
  ·exact hR.sat.frzA h1 o1 M e r s
 ·refine ⟨hR.fr.os,hR.fr.tape,hR.fr.output,by simpa using hR.fr.size,fun b hb hd=>?_⟩;simp only [jk];rw [if_neg]
  ·exact hR.fr.block b hb hd
  ·intro e;subst e;rcases hR.own h o L ho hro hL with h1 | h1
   ·exact hd h1
   ·omega
 ·simp only [St.setObj] at e;rw [zm5 _ _ _ _ hlt] at e;split at e
  ·rename_i hh;subst hh;exact hR.own _ o M ho hro s
  ·exact hR.own h1 o1 M e r s
 ·simpa [St.setObj] using hR.klen
theorem SO.put_facts {o:SO} {i k:Nat} {cs:List SV} (hm:o.isMap=false):(o.put i k cs).isMap=false∧(o.put i k cs).ro=o.ro∧(o.put i k cs).n=o.n ∧
  ((o.el i).length=o.sz→k+cs.length≤o.sz→(o.put i k cs).sz=o.sz∧∀ j x,j<o.n→i<o.n→((o.put i k cs).el j).getD x .u=if j=i∧k≤x∧x<k+cs.length then cs.getD (x-k) .u else (o.el j).getD x .u):=by
 cases o with
 | row ro sz n f=>
  refine ⟨rfl,rfl,rfl,fun h1 h2=>⟨rfl,fun j x hj hi=>?_⟩⟩;simp only [SO.put,SO.el] at *;by_cases hji:j=i
  ·subst hji;simp only [if_true,true_and];rw [zy9 (by simp only [SO.sz] at h1 h2;omega)]
  ·rw [if_neg hji,if_neg (fun h=>hji h.1)]
 | blk ro l=>
  refine ⟨rfl,rfl,rfl,fun h1 h2=>?_⟩;simp only [SO.put,SO.el,SO.sz] at *;refine ⟨zw6 h2,fun j x hj hi=>?_⟩;have:j=i:=by simp only [SO.n] at hj hi;omega
  rw [zy9 h2];simp [this]
 | mapS l=>cases hm
 | mapI l=>cases hm
theorem zr5 {P:Program} {te:TE} (hte:vh P te) {A:Amb} {σ:Asg} {st:St} {a:Act} {w:World} (hR:Rel A σ st a w) {t:TypeId} {ti:TI} (hti:te t=some ti) {h i k:Nat} {ob:SO} (hob:st.ctx.at h=some ob)
  (hm:ob.isMap=false) (hro:ob.ro=false) (hi:i<ob.n) {x:SV} (hok:ji x=true) (hlen:(cellsOf x).length=ti.size) (hall:(cellsOf x).all wl=true) (hel:(ob.el i).length=ob.sz) (hk:k+ti.size≤ob.sz)
  {v u:Value} (hv:rel σ (.ptr h i k) v) (hu:rel σ x u):∃ w',(Instr.storeAt t v u).run P w=.ok () w'∧Rel A σ (st.setObj h (some (ob.put i k (cellsOf x)))) a w':=by
 rcases live_cells hR.sat hob hm with ⟨h0,_⟩ | ⟨L,c,e,fr,hL,hc⟩
 ·omega
 simp only [rel] at hv;obtain ⟨L',hL',rfl⟩:=hv;rw [hL] at hL';cases hL';have hcu:=zau hok hu;have hlu:=y4 hcu;simp only [Array.length_toList] at hlu;have hfree:=hc.free hro;have hin:L.sh+i * L.sz+k+u.cells.size≤c.size:=by
  have h1:=hc.room;have h2:=hc.fits;have h3:i * ob.sz+ob.sz≤ob.n * ob.sz:=by rw [←Nat.succ_mul];exact Nat.mul_le_mul_right _ hi
  rw [hc.lsz];omega
 refine ⟨{ w with heap:=w.heap.setIfInBounds L.b (.cells (u1 c (L.sh+i * L.sz+k) u.cells.toList) e fr) }, ?_, ?_⟩
 ·simp only [Instr.storeAt,Instr.sureAddr,Sem.run_bind,Sem.run_pure,Result.andThen_ok,storeVar,kw hte hti];rw [if_neg (by omega)];have:=uv (P:=P) (off:=L.sh+i * L.sz+k) u.cells.toList 0 w c hc.heap (fun y hy=>by
   obtain ⟨j,hj⟩:=List.mem_iff_getElem?.1 hy;have hjl:j<(cellsOf x).length:=by
    rcases Nat.lt_or_ge j u.cells.toList.length with h | h
    ·simp at h;omega
    ·rw [List.getElem?_eq_none h] at hj;cases hj
   obtain ⟨y',h1,h2⟩:=ky hcu (wv hjl);rw [hj] at h1;cases h1;exact zfn (List.all_eq_true.1 hall _ (List.mem_of_getElem? (wv hjl))) h2) (by simpa using hin) (fun y hy h=>by rcases hfree with h | h<;>omega)
  simpa [vp] using this
 ·obtain ⟨p1,p2,p3,p4⟩:=SO.put_facts (o:=ob) (i:=i) (k:=k) (cs:=cellsOf x) hm;obtain ⟨p5,p6⟩:=p4 hel (by omega);refine hR.write hob hro (p2.trans hro) hL _ ?_;unfold qc;rw [p1];refine .inr ⟨L,u1 c (L.sh+i * L.sz+k) u.cells.toList,e,fr,hL,⟨?_, ?_, ?_, ?_,fun j y hj hy=>?_,fun _=>?_⟩⟩
  ·have hb:=hR.sat.inHeap h L hL;simp only [jk,if_true,if_pos hb]
  ·rw [p5];exact hc.lsz
  ·rw [x9];exact hc.room
  ·rw [p3,p5];exact hc.fits
  ·rw [p3] at hj;rw [p5] at hy ⊢;rw [p6 j y hj hi];obtain ⟨v0,g1,g2⟩:=hc.cell j y hj hy;rw [ze7 _ _ _ _ (by simpa using hin)];simp only [Array.length_toList];by_cases hji:j=i
   ·subst hji;by_cases hrange:k≤y∧y<k+(cellsOf x).length
    ·rw [if_pos (show L.sh+j * L.sz+k≤L.sh+j * ob.sz+y∧L.sh+j * ob.sz+y<L.sh+j * L.sz+k+u.cells.size by rw [hc.lsz];omega),if_pos ⟨rfl,hrange⟩];obtain ⟨v1,g3,g4⟩:=ky hcu (wv (show y-k<(cellsOf x).length by omega));refine ⟨v1, ?_,g4⟩;rw [show L.sh+j * ob.sz+y-(L.sh+j * L.sz+k)=y-k by rw [hc.lsz];omega];exact g3
    ·rw [if_neg (show ¬(L.sh+j * L.sz+k≤L.sh+j * ob.sz+y∧L.sh+j * ob.sz+y<L.sh+j * L.sz+k+u.cells.size) by rw [hc.lsz];omega),if_neg (fun h=>hrange h.2)];exact ⟨v0,g1,g2⟩
   ·rw [if_neg (show ¬(j=i∧k≤y∧y<k+(cellsOf x).length) from fun h=>hji h.1),if_neg]
    ·exact ⟨v0,g1,g2⟩
    ·rw [hc.lsz];intro hh;rcases Nat.lt_or_gt_of_ne hji with h1 | h1
     ·have:j * ob.sz+ob.sz≤i * ob.sz:=by rw [←Nat.succ_mul];exact Nat.mul_le_mul_right _ h1
      omega
     ·have:i * ob.sz+ob.sz≤j * ob.sz:=by rw [←Nat.succ_mul];exact Nat.mul_le_mul_right _ h1
      omega
  ·rw [x9];exact hfree
theorem ztb {P:Program} {te:TE} (hte:vh P te) {A:Amb} {σ:Asg} {st:St} {a:Act} {w:World} (hR:Rel A σ st a w) {t:TypeId} {ti:TI} (hti:te t=some ti) :
  ∃ v σ' w',(Instr.alloc t true (.tuple #[])).run P w=.ok v w'∧leA σ σ'∧rel σ' (.ptr st.ctx.length 0 0) v∧Rel A σ' (st.addObj (.blk false ti.zero)) a w':=by
 obtain ⟨i,hi,_,_,z,hz,hrz,_⟩:=(hte t ti hti).info;obtain ⟨σ',w',h1,h2,h3,h4⟩:=zwg (P:=P) hR (t:=t) (jz (leA.nil σ) hrz);refine ⟨_,σ',w', ?_,h2,h3,h4⟩;simp [Instr.alloc,zeroValue,zah hi,hz,h1]
theorem z2v {P:Program} {A:Amb} {σ:Asg} {st:St} {a:Act} {w:World} (hR:Rel A σ st a w) {t:TypeId} {x:SV} {v:Value} (hok:ji x=true) (hv:rel σ x v) :
  ∃ u σ' w',(Instr.box t v).run P w=.ok u w'∧leA σ σ'∧rel σ' (.ptr st.ctx.length 0 0) u∧Rel A σ' (st.addObj (.blk false (cellsOf x))) a w':=by
 obtain ⟨σ',w',h1,h2,h3,h4⟩:=zwg (P:=P) hR (t:=t) (zau hok hv);refine ⟨_,σ',w', ?_,h2,h3,h4⟩;simp [Instr.box,h1]
theorem zeo {P:Program} {A:Amb} {σ:Asg} {st:St} {a:Act} {w:World} (hR:Rel A σ st a w) (o:SO) (hm:o.isMap=true) (he:o.ents=[]) (hro:o.ro=false) :
  ∃ σ',leA σ σ'∧rel σ' (.mp st.ctx.length) (.map (some w.heap.size))∧Rel A σ' (st.addObj o) a { w with heap:=w.heap.push (.map #[] 0) }:=by
 have hq:σ st.ctx.length=none:=hR.sat.beyond _ (Nat.le_refl _);obtain ⟨h1,h2⟩:=hR.alloc (.map #[] 0) o ⟨w.heap.size,0,0,0⟩ rfl (by unfold qc;rw [hm];exact ⟨⟨w.heap.size,0,0,0⟩,#[],0,by simp [zdj],by simp,by simp [he,qo]⟩)
 exact ⟨_,h1,by simp only [rel];exact ⟨⟨w.heap.size,0,0,0⟩,by simp [zdj],rfl⟩,h2⟩
theorem ur {P:Program} {te:TE} (hte:vh P te) {A:Amb} {σ:Asg} {st:St} {a:Act} {w:World} (hR:Rel A σ st a w) {α:Type} [DecidableEq α] (kk:KeyK α) {t kt vt:TypeId} (ht:tdOf te t=.map kt vt) (hkt:P.underlying kt=some kk.d)
  {h:Nat} {o o':SO} {l:List (α×Int)} {k:α} {x:Int} (ho:st.ctx.at h=some o) (hm:o.isMap=true) (hm':o'.isMap=true) (hr:o.ro=false) (hr':o'.ro=false)
  (he:o.ents=l.map fun p=>(kk.s p.1,.i .i64 p.2)) (he':o'.ents=(zaw l k x).map fun p=>(kk.s p.1,.i .i64 p.2)) {v:Value} (hv:rel σ (.mp h) v) :
  ∃ w',(Instr.mapUpdate t v (kk.v k) (.int .i64 x)).run P w=.ok () w'∧Rel A σ (st.setObj h (some o')) a w':=by
 have hobj:=hR.sat.obj h o ho;unfold qc at hobj;rw [hm] at hobj;obtain ⟨L,es,ck,hL,hh,hes⟩:=hobj;simp only [rel] at hv;obtain ⟨L',hL',rfl⟩:=hv;rw [hL] at hL';cases hL';rw [he] at hes;have hb:=hR.sat.inHeap h L hL;have key:∀ (es':Array MapEntry) (ck':Nat),qo σ o'.ents es'.toList→Rel A σ (st.setObj h (some o')) a { w with heap:=w.heap.setIfInBounds L.b (.map es' ck') }:=by intro es' ck' hr2;refine hR.write ho hr hr' hL _ ?_;unfold qc;rw [hm'];exact ⟨L,es',ck',hL,by simp only [jk,if_true,if_pos hb],hr2⟩
 unfold Instr.mapUpdate;simp only [Sem.run_bind,qj (zr3 hte ht),Result.andThen_ok,Go.MapKept.run_getObj_map hh];rw [show (10000:Nat)=9999+1 from rfl,Go.MapKept.run_checkKey hkt (kk.isKey k)];simp only [Result.andThen_ok];rcases find_ents kk σ k x l es.toList 0 hes with ⟨g1,g2,g3⟩ | ⟨j,e,y,g1,g2,g3,g4,g5⟩
 ·rw [Go.MapKept.run_findKey hkt g2];simp only [Result.andThen_ok];rw [Go.MapKept.run_setObj_map _ hh];refine ⟨_,rfl,key _ _ ?_⟩;rw [he',g3,List.map_append,Array.toList_push];refine zjn hes ?_;simp only [List.map_cons,List.map_nil,qo];exact ⟨_,_,rfl,by rw [kk.rel_iff],by simp [rel],rfl⟩
 ·rw [Go.MapKept.run_findKey hkt g2];simp only [Result.andThen_ok,Sem.run_bind];have hge:es[0+j]?=some e:=by simpa using g3
  have hkey:(Instr.keyThatStays (((es[0+j]?).map (·.key)).getD (kk.v k)) (kk.v k)).run P w=.ok (kk.v k) w:=by simp only [hge,Option.map_some,Option.getD_some,g4,Instr.keyThatStays,kk.stays,if_true,Sem.run_pure]
  rw [hkey];simp only [Result.andThen_ok];rw [Go.MapKept.run_setObj_map _ hh];refine ⟨_,rfl,key _ _ ?_⟩;rw [he'];simpa [Array.toList_modify] using g5
theorem vr (z:List SV):∀ n,(zj0 z n).length=n * z.length
 | 0=>by simp [zj0]
 | n+1=>by simp [zj0,vr z n,Nat.succ_mul];omega
/-- Cells that are the zero value,again and again. -/
theorem znl {σ:Asg} {z:List SV} {zv:Array Value} (h:relL σ z zv.toList):∀ n,relL σ (zj0 z n) ((Array.range (n * zv.size)).map fun i=>zv[i % zv.size]!).toList
 | 0=>by simp [zj0,relL]
 | n+1=>by
  have hl:=y4 h;simp only [Array.length_toList] at hl;have ih:=znl h n;refine j5 (by rw [vr];simp [hl]) fun j x v hx hv=>?_;simp only [zj0] at hx;have hv':zv[j % zv.size]! = v:=by
   have:=hv;simp only [Array.toList_map,List.getElem?_map,Option.map_eq_some_iff,Array.toList_range] at this;obtain ⟨i,hi,rfl⟩:=this;have:i=j:=by
    rw [List.getElem?_range] at hi
    ·simpa using hi.symm
    ·rcases Nat.lt_or_ge j ((n+1) * zv.size) with h1 | h1
     ·exact h1
     ·rw [List.getElem?_eq_none (by simpa using h1)] at hi;cases hi
   rw [this]
  by_cases hj:j<z.length
  ·rw [List.getElem?_append_left hj] at hx;obtain ⟨u,h1,h2⟩:=ky h hx;have:zv[j % zv.size]! = u:=by
    rw [Nat.mod_eq_of_lt (by omega)];have h3:zv[j]?=some u:=by simpa using h1
    simp [getElem!_def,h3]
   rw [←hv',this];exact h2
  ·rw [List.getElem?_append_right (by omega)] at hx;obtain ⟨u,h1,h2⟩:=ky ih hx;have hjl:j-z.length<n * zv.size:=by
    rcases Nat.lt_or_ge (j-z.length) (n * zv.size) with h3 | h3
    ·exact h3
    ·rw [List.getElem?_eq_none (by rw [vr,hl];omega)] at hx;cases hx
   have:zv[j % zv.size]! = u:=by simp only [Array.toList_map,List.getElem?_map,Option.map_eq_some_iff,Array.toList_range] at h1;obtain ⟨i,hi,rfl⟩:=h1;rw [List.getElem?_range hjl] at hi;cases hi;rw [hl,show j=(j-zv.size)+zv.size by omega,Nat.add_mod_right,Nat.add_sub_cancel]
   rw [←hv',this];exact h2
theorem zjm {σ:Asg} (sz:Nat):∀ (ps:List (Nat×SV)) (vs:List (Nat×Value)) (cs:List SV) (cv:Array Value) (l:List SV),ps.length=vs.length →
   (∀ (j:Nat) (i:Nat) (x:SV),ps[j]?=some (i,x)→∃ v,vs[j]?=some (i,v)∧ji x=true∧rel σ x v)→relL σ cs cv.toList→fillP sz cs ps=some l →
   ∃ out,Instr.fill (fun i=>some (i * sz,sz)) cv vs=some out∧relL σ l out.toList∧out.size=cv.size
 | [],[],cs,cv,l,_,_,hr,h=>by
  simp only [fillP,Option.some.injEq] at h;subst h;exact ⟨cv,rfl,hr,rfl⟩
 | (i,x)::ps,(i',v)::vs,cs,cv,l,hlen,hv,hr,h=>by
  obtain ⟨v',e1,hok,hrx⟩:=hv 0 i x rfl;simp only [List.getElem?_cons_zero,Option.some.injEq,Prod.mk.injEq] at e1;obtain ⟨rfl,rfl⟩:=e1;simp only [fillP] at h;split at h
  ·rename_i hc;obtain ⟨hc1,hc2⟩:=hc;have hrc:=zau hok hrx;have hl1:=y4 hrc;have hl2:=y4 hr;simp only [Array.length_toList] at hl1 hl2;have hfold:=zrd cv (i' * sz) v.cells.toList (by simp;omega) 0;simp only [Array.length_toList,Nat.add_zero] at hfold;rcases hfold with hfold | hfold
   ·have hrel:relL σ (cs.take (i' * sz)++(cellsOf x++cs.drop (i' * sz+sz))) (v.cells.toList.zipIdx.foldl (fun cs (p:Value×Nat)=>cs.setIfInBounds (i' * sz+p.2) p.1) cv).toList:=by rw [hfold];refine vu (zbf _ hr) (vu hrc ?_);have:=zbg (i' * sz+sz) hr;rw [show i' * sz+v.cells.size=i' * sz+sz by omega];exact this
    obtain ⟨out,ho,hro,hsz⟩:=zjm sz ps vs _ _ l (by simpa using hlen) (fun j i x hj=>hv (j+1) i x (by simpa using hj)) hrel h;refine ⟨out, ?_,hro, ?_⟩
    ·simp only [Instr.fill];have hcond:¬(v.cells.size≠sz∨i' * sz+v.cells.size>cv.size):=by omega
     rw [if_neg (by simpa using hcond)];have hz:v.cells.zipIdx.foldl (fun cs (p:Value×Nat)=>cs.setIfInBounds (i' * sz+p.2) p.1) cv=v.cells.toList.zipIdx.foldl (fun cs (p:Value×Nat)=>cs.setIfInBounds (i' * sz+p.2) p.1) cv:=by rw [←Array.foldl_toList];simp
     have:=ho;rw [←hz] at this;exact this
    ·rw [hsz];have h9:=congrArg List.length hfold;simp only [Array.length_toList,List.length_append,List.length_take,List.length_drop] at h9;omega
   ·omega
  ·cases h
 | [],_::_,_,_,_,h,_,_,_=>by simp at h
 | _::_,[],_,_,_,h,_,_,_=>by simp at h
end Go.Vg
end
