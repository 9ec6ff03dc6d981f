/- Code, stepped through over symbolic states. -/
import Derived.Test.YtgippllfnmdnpaaGreatDoorUAD
set_option linter.all false
section
namespace Go.Vg
variable [Go.Vg.Glob]
open Go.RowKit
def zj1 (c:Bool) (z:SV):SV:=
 match z with
 | .gd g v=>.gd (c&&g) v
 | v=>.gd c v
theorem zvr {σ:Asg} {c:Bool} {z:SV} {v:Value} (h1:c=true→rel σ z v) (h2:c=false→v=undef):rel σ (zj1 c z) v:=by
 unfold zj1;split
 ·rename_i g x;simp only [rel] at h1 ⊢;refine ⟨fun h=>?_,fun h=>?_⟩
  ·simp only [Bool.and_eq_true] at h;exact (h1 h.1).1 h.2
  ·cases c with
   | false=>exact h2 rfl
   | true=>exact (h1 rfl).2 (by simpa using h)
 ·simp only [rel];exact ⟨h1,h2⟩
/-- The condition under which a guarded operation is carried out. -/
def zjg (want:Bool) (x:SV) (K:Bool→Prop):Prop:=
 match x with
 | .b e=>K (if want then e else !e)
 | .gd g (.b e)=>K (g&&(if want then e else !e))
 | _=>False
def zjo (ops:Array Oper) (j:Nat):Option Tmp:=(ops[j]?).bind (·.dst)
theorem zb0 {σ:Asg} {ops:Array Oper} {a:Act} {st:St} (henv:∀ t,rel σ (look st.env t) (a.tmps.getD t undef)) {j d:Nat} {want:Bool} (hd:zjo ops j=some d) {K:Bool→Prop} (h:zjg want (look st.env d) K) :
  ∃ c,K c∧(yielded ops a.tmps j==some want)=c:=by
 have h0:=henv d;have hy:∀ e,a.tmps.getD d undef=.bool e→yielded ops a.tmps j=some e:=by
  intro e he;have:a.tmps[d]?=some (.bool e):=by
   rw [Array.getD_eq_getD_getElem?] at he;cases h1:a.tmps[d]? with
   | none=>rw [h1] at he;simp [undef] at he
   | some x=>rw [h1] at he;simpa using he
  unfold yielded;unfold zjo at hd;simp [hd,this]
 unfold zjg at h;split at h
 ·rename_i e he;rw [he] at h0;simp only [rel] at h0;refine ⟨_,h, ?_⟩;rw [hy e h0];cases want<;>cases e<;>rfl
 ·rename_i g e he;rw [he] at h0;simp only [rel] at h0;refine ⟨_,h, ?_⟩;cases g with
  | true=>
   rw [hy e (h0.1 rfl)];cases want<;>cases e<;>rfl
  | false=>
   have h1:=h0.2 rfl;have:yielded ops a.tmps j=none:=by
    unfold yielded;unfold zjo at hd;rw [hd];simp only [Option.bind_some];rw [Array.getD_eq_getD_getElem?] at h1;cases h2:a.tmps[d]? with
    | none=>rfl
    | some x=>rw [h2] at h1;simp only [Option.getD_some] at h1;subst h1;rfl
   rw [this];cases want<;>rfl
 ·exact h.elim
def zoo (nt:Nat) (st:St) (d:Option Tmp) (z:SV) (K:St→Prop):Prop:=
 match d with
 | none=>K st
 | some d=>d<nt∧K ⟨(d,z)::st.env,st.ctx⟩
theorem u3 {A:Amb} {σ:Asg} {st:St} {a:Act} {w:World} (hR:Rel A σ st a w) {d:Option Tmp} {z:SV} {v:Value} (hv:rel σ z v) {K:St→Prop} (h:zoo A.nt st d z K):∃ st',K st'∧Rel A σ st' (a.put d v) w:=by
 unfold zoo at h;cases d with
 | none=>exact ⟨st,h,hR⟩
 | some d=>
  obtain ⟨hd,h⟩:=h;refine ⟨_,h,⟨hR.defers,by simp [Act.put,hR.size],fun t=>?_,hR.sat,hR.fr,hR.own,hR.base,hR.klen⟩⟩;simp only [look,Act.put];rw [Array.getD_eq_getD_getElem?,Array.getElem?_setIfInBounds];by_cases ht:d=t
  ·subst ht;rw [if_pos rfl,if_pos rfl,if_pos (by rw [hR.size];exact hd)];exact hv
  ·rw [if_neg ht,if_neg ht];have:=hR.env t;rwa [Array.getD_eq_getD_getElem?] at this
/-- Classes of operations: 0 no memory,1 reads,2 turns memory,3 a call. -/
def y5 (te:TE):Op→Nat
 | .load _ _=>1
 | .lookup _ _ _ _=>1
 | .convert s d _=>match tdOf te s,tdOf te d with
  | .slice _,.str=>1
  | .slice _,.slice _=>2
  | _,_=>0
 | .alloc _=>2
 | .box _ _=>2
 | .store _ _ _=>2
 | .makeMap _ _=>2
 | .mapUpdate _ _ _ _=>2
 | .insert _ _ _ _=>2
 | .buildSlice _ _ _=>2
 | .makeSlice _ _ _=>2
 | .call c=>match c.callee with
  | .builtin .append=>2
  | .builtin _=>0
  | .value _=>3
  | .invoke _ _=>4
 | _=>0
def uj (st:St):Op→Option FuncId
 | .call c=>match c.callee with
  | .value x=>match st.ev x with
   | .fn f=>some f
   | _=>none
  | _=>none
 | _=>none
def zjr (st:St):Op→List SV
 | .call c=>c.args.toList.map st.ev
 | _=>[]
/-- A function that has a Go body,and is no mark of the runtime's. -/
def zb4 (P:Program) (f:FuncId):Prop:=∃ fn,P.funcs[f]?=some fn∧fn.body.isSome=true∧(fn.name == "runtime.NumGoroutine")=false
/-- What a call of 'f' does,told over the caller's own state: the objects that lie under the first 'kk' numbers stay where they are. -/
def zhb (P:Program) (f:FuncId) (args:List SV) (kk:Nat) (st:St) (K:SV→St→Prop):Prop:=
 zb4 P f∧∀ (A:Amb) (σ:Asg) (a:Act) (w:World) (vs:Array Value),A.k≤kk→A.gr=true→Rel A σ st a w→relL σ args vs.toList →
  Calls P f vs w fun e w'=>∃ v z st' σ',e=.returned v∧K z st'∧rel σ' z v∧Rel A σ' st' a w'
theorem zhb.mono {P:Program} {f:FuncId} {args:List SV} {kk:Nat} {st:St} {K K':SV→St→Prop} (h:zhb P f args kk st K) (hk:∀ z s,K z s→K' z s):zhb P f args kk st K' :=
 ⟨h.1,fun A σ a w vs h1 h2 h3 h4=>(h.2 A σ a w vs h1 h2 h3 h4).mono fun e w' ⟨v,z,s,σ',e1,e2,e3⟩=>⟨v,z,s,σ',e1,hk _ _ e2,e3⟩⟩
/-- What a call of 'f' does that turns nothing: from values without handles to a value without handles;what it returns may lie in new,frozen blocks. -/
def jv (P:Program) (f:FuncId) (args:List SV) (z:SV):Prop:=
 zb4 P f∧plainL args=true∧z.plain=true∧∀ (fz:Nat→Option Obj) (w:World) (vs:Array Value),(∀ b o,fz b=some o→w.heap[b]?=some o)→(∀ b o,Glob.g b=some o→fz b=some o)→relL ⟨fun _=>none,fz⟩ args vs.toList →
  Calls P f vs w fun e w'=>∃ v fz',e=.returned v∧rel ⟨fun _=>none,fz'⟩ z v∧Fr (fun _=>False) w w'∧(∀ b o,fz b=some o→fz' b=some o) ∧
   (∀ b o,fz' b=some o→w'.heap[b]?=some o)∧(∀ b o,fz' b=some o→fz b=some o∨w.heap.size≤b)
/-- What a call of a function that the model stands in for comes to: at once,and the world is as it was. -/
def zom (P:Program) (f:FuncId) (args:List SV) (z:SV):Prop:=
 plainL args=true∧z.bit=true∧∀ (fz:Nat→Option Obj) (w:World) (vs:Array Value),(∀ b o,fz b=some o→w.heap[b]?=some o)→relL ⟨fun _=>none,fz⟩ args vs.toList →
  ∃ v,(callFunc f vs).run P w=.ok (.value v) w∧rel ⟨fun _=>none,fz⟩ z v
/-- A table of functions that turn nothing: number,and from arguments: what is to be shown,and the result. 'k': how many of the first objects stay where they lie. -/
abbrev PE:=List SV→Option (Prop×SV)
structure PT where
 l:List (FuncId×PE)
 k:Nat
 gr:Bool
def zxb:List (FuncId×PE)→FuncId→Option PE
 | [],_=>none
 | e::r,f=>if e.1=f then some e.2 else zxb r f
def ptOf (pt:PT) (f:FuncId):Option PE:=zxb pt.l f
def PE1 (P:Program) (f:FuncId) (g:PE):Prop:=∀ args p z,g args=some (p,z)→p→jv P f args z∨zom P f args z
def zdh (P:Program):List (FuncId×PE)→Prop
 | []=>True
 | e::r=>PE1 P e.1 e.2∧zdh P r
def zx9 (P:Program) (pt:PT):Prop:=zdh P pt.l
theorem zdh.get {P:Program}:∀ {l:List (FuncId×PE)} {f:FuncId} {g:PE},zdh P l→zxb l f=some g→PE1 P f g
 | e::r,f,g,h,hg=>by
  simp only [zxb] at hg;split at hg
  ·rename_i he;cases hg;subst he;exact h.1
  ·exact h.2.get hg
theorem zx9.get {P:Program} {pt:PT} {f:FuncId} {g:PE} (h:zx9 P pt) (hg:ptOf pt f=some g):PE1 P f g:=zdh.get h hg
/-! Rows lent to a function that only reads: for the time of the call they are frozen. -/
def je (f:Nat→List SV) (lo len:Nat):List (List SV):=(List.range len).map fun j=>f (lo+j)
mutual
def zcj (ctx:Ctx):SV→SV
 | .slc h lo len=>match ctx.at h with
  | some (.row _ sz _ f)=>.fs sz (je f lo len)
  | _=>.slc h lo len
 | .agg l=>.agg (vn ctx l)
 | .tup l=>.tup (vn ctx l)
 | x=>x
def vn (ctx:Ctx):List SV→List SV
 | []=>[]
 | x::xs=>zcj ctx x::vn ctx xs
end
mutual
def vz (ctx:Ctx):SV→Prop
 | .slc h lo len=>match ctx.at h with
  | some (.row _ sz n f)=>lo+len≤n∧∀ j,j<len→(f (lo+j)).length=sz∧plainL (f (lo+j))=true
  | _=>True
 | .agg l=>jx ctx l
 | .tup l=>jx ctx l
 | _=>True
def jx (ctx:Ctx):List SV→Prop
 | []=>True
 | x::xs=>vz ctx x∧jx ctx xs
end
theorem z2s {σ:Asg} {w:World} {L:Loc} {ro:Bool} {sz n:Nat} {f:Nat→List SV} {c:Array Value} {e:TypeId} {fr:Nat×Nat} (h:cellsAt σ w L (.row ro sz n f) c e fr) {i:Nat} (hi:i<n) (hl:(f i).length=sz) :
  relL σ (f i) ((c.toList.drop (L.sh+i * sz)).take sz):=by
 obtain ⟨vs,h1,h2,h3⟩:=zfw h (i:=i) (k:=0) (n:=sz) hi (by simp [SO.sz]);have hsz:L.sz=sz:=h.lsz;have hv:(c.toList.drop (L.sh+i * sz)).take sz=vs:=by
  apply List.ext_getElem?;intro j;rw [List.getElem?_take];by_cases hj:j<sz
  ·rw [if_pos hj,List.getElem?_drop];have:=h2 j (vs[j]'(by omega)) (List.getElem?_eq_getElem (by omega));rw [hsz] at this;rw [List.getElem?_eq_getElem (show j<vs.length by omega)];simpa using this
  ·rw [if_neg hj,List.getElem?_eq_none (by omega)]
 rw [hv];refine j5 (by omega) fun j x v hx hv=>?_;have:=h3 j v hv;simp only [SO.el,Nat.zero_add] at this;rw [List.getD_eq_getElem?_getD,hx] at this;exact this
mutual
theorem frz_rel {σ:Asg} {w:World} {ctx:Ctx} (hs:Sat σ w ctx):∀ {x:SV} {v:Value},vz ctx x→(zcj ctx x).plain=true→rel σ x v→rel ⟨fun _=>none,fun b=>w.heap[b]?⟩ (zcj ctx x) v
 | .slc h lo len,v,hok,hp,hr=>by
  simp only [zcj] at hp ⊢;simp only [vz] at hok;split at hp
  ·rename_i ro sz n f hob;rw [hob] at hok;obtain ⟨hn,hel⟩:=hok;simp only [rel] at hr ⊢;obtain ⟨a,cap,rfl,hl,hr⟩:=hr;have hlen:(je f lo len).length=len:=by simp [je]
   refine ⟨a,cap,by rw [hlen],by rw [hlen];exact hl, ?_⟩;by_cases h0:len=0
   ·left;subst h0;rfl
   right;rcases hr with hr | ⟨L,hL,rfl,hav⟩
   ·omega
   have hobj:=hs.obj h _ hob;unfold qc at hobj;simp only [SO.isMap] at hobj;rcases hobj with ⟨_,h1⟩ | ⟨L',c,e,fr,hL',hc⟩
   ·rw [h1] at hL;cases hL
   rw [hL'] at hL;cases hL;have hsz:L.sz=sz:=hc.lsz;refine ⟨L.b,L.sh+lo * L.sz+0,c,e,fr,rfl,hc.heap,ub fun j x hx=>?_⟩;have hj:j<len:=by rw [←hlen];exact (List.getElem?_eq_some_iff.1 hx).1
   have hx':x=f (lo+j):=by simpa [je,hj] using hx.symm
   subst hx';obtain ⟨e1,e2⟩:=hel j hj;refine ⟨e1, ?_⟩;have:=z2s hc (i:=lo+j) (by omega) e1;rw [List.drop_drop,hsz,show L.sh+lo * sz+0+j * sz=L.sh+(lo+j) * sz by rw [Nat.add_mul];omega];exact x7 (fun b o hb=>hs.frz b o hb) e2 this
  ·simp [SV.plain] at hp
 | .agg l,v,hok,hp,hr=>by
  simp only [zcj,vz,SV.plain,rel] at hok hp hr ⊢;obtain ⟨cs,e,hr⟩:=hr;exact ⟨cs,e,zce hs hok hp hr⟩
 | .tup l,v,hok,hp,hr=>by
  simp only [zcj,vz,SV.plain,rel] at hok hp hr ⊢;obtain ⟨cs,e,hr⟩:=hr;exact ⟨cs,e,zce hs hok hp hr⟩
 | .b _,_,_,hp,hr=>yr (fun b o hb=>hs.frz b o hb) hp hr
 | .i _ _,_,_,hp,hr=>yr (fun b o hb=>hs.frz b o hb) hp hr
 | .s _,_,_,hp,hr=>yr (fun b o hb=>hs.frz b o hb) hp hr
 | .ptr _ _ _,_,_,hp,hr=>yr (fun b o hb=>hs.frz b o hb) hp hr
 | .nils,_,_,hp,hr=>yr (fun b o hb=>hs.frz b o hb) hp hr
 | .mp _,_,_,hp,hr=>yr (fun b o hb=>hs.frz b o hb) hp hr
 | .fn _,_,_,hp,hr=>yr (fun b o hb=>hs.frz b o hb) hp hr
 | .gd _ _,_,_,hp,hr=>yr (fun b o hb=>hs.frz b o hb) hp hr
 | .u,_,_,hp,hr=>yr (fun b o hb=>hs.frz b o hb) hp hr
 | .fs _ _,_,_,hp,hr=>yr (fun b o hb=>hs.frz b o hb) hp hr
 | .fp _ _,_,_,hp,hr=>yr (fun b o hb=>hs.frz b o hb) hp hr
theorem zce {σ:Asg} {w:World} {ctx:Ctx} (hs:Sat σ w ctx):∀ {x:List SV} {v:List Value},jx ctx x→plainL (vn ctx x)=true→relL σ x v→relL ⟨fun _=>none,fun b=>w.heap[b]?⟩ (vn ctx x) v
 | [],_,_,_,hr=>by simpa [relL,vn] using hr
 | x::xs,_,hok,hp,hr=>by simp only [relL,vn,plainL,jx,Bool.and_eq_true] at hok hp hr ⊢;obtain ⟨v,q,e,r1,r2⟩:=hr;exact ⟨v,q,e,frz_rel hs hok.1 hp.1 r1,zce hs hok.2 hp.2 r2⟩
end
mutual
theorem zxw {ctx:Ctx}:∀ {x:SV},x.plain=true→zcj ctx x=x
 | .agg l,h=>by simp only [zcj];rw [zat (by simpa [SV.plain] using h)]
 | .slc _ _ _,h=>by simp [SV.plain] at h
 | .b _,_=>rfl
 | .i _ _,_=>rfl
 | .s _,_=>rfl
 | .ptr _ _ _,_=>rfl
 | .nils,_=>rfl
 | .mp _,_=>rfl
 | .fn _,_=>rfl
 | .tup l,h=>by simp only [zcj];rw [zat (by simpa [SV.plain] using h)]
 | .gd _ _,_=>rfl
 | .u,_=>rfl
 | .fs _ _,_=>rfl
 | .fp _ _,_=>rfl
theorem zat {ctx:Ctx}:∀ {x:List SV},plainL x=true→vn ctx x=x
 | [],_=>rfl
 | x::xs,h=>by simp only [plainL,Bool.and_eq_true] at h;simp only [vn,zxw h.1,zat h.2]
end
/-- More is known to be frozen,all else stands. -/
theorem Rel.froze {A:Amb} {σ:Asg} {st:St} {a:Act} {w w':World} (hR:Rel A σ st a w) (hf:Fr (fun _=>False) w w') {fz':Nat→Option Obj} (h1:∀ b o,σ.fz b=some o→fz' b=some o) (h2:∀ b o,fz' b=some o→w'.heap[b]?=some o)
  (h3:∀ b o,fz' b=some o→σ.fz b=some o∨(A.gr=true∧w.heap.size≤b)):leA σ ⟨σ.loc,fz'⟩∧Rel A ⟨σ.loc,fz'⟩ st a w':=by
 have hle:leA σ ⟨σ.loc,fz'⟩:=⟨fun _ _ h=>h,h1⟩
 refine ⟨hle,hR.defers,hR.size,fun t=>jo hle (hR.env t),⟨fun h o e=>?_,hR.sat.apart,hR.sat.beyond,fun h L e=>Nat.lt_of_lt_of_le (hR.sat.inHeap h L e) hf.size,h2,fun h o L e r s=>?_,fun b o e=>h1 b o (hR.sat.glb b o e)⟩, ?_,hR.own,⟨hR.base.loc,fun b o h=>h1 b o (hR.base.fzb b o h),fun b o h=>?_⟩,hR.klen⟩
 ·exact jj hle rfl (fun L hL=>hf.block _ (hR.sat.inHeap h L hL) (fun h=>h)) (hR.sat.obj h o e)
 ·show fz' L.b=none;cases hz:fz' L.b with
  | none=>rfl
  | some q=>
   rcases h3 _ _ hz with h4 | ⟨_,h4⟩
   ·rw [hR.sat.frzA h o L e r s] at h4;cases h4
   ·have:=hR.sat.inHeap h L s;omega
 ·exact hR.fr.step hf (fun _ _ h=>h.elim)
 ·rcases h3 b o h with h4 | ⟨hg,h4⟩
  ·exact hR.base.fzn b o h4
  ·exact .inr ⟨hg,.inr (Nat.le_trans hR.fr.size h4)⟩
/-- May these arguments be lent: the result looks at no memory;or they have no handles,and frozen blocks may be added. -/
def zgp (args:List SV) (z:SV) (gr:Bool):Bool:=z.bit||(plainL args&&gr)
theorem jv.use {P:Program} {f:FuncId} {args:List SV} {z:SV} {A:Amb} {σ:Asg} {st:St} {a:Act} {w:World} (hR:Rel A σ st a w) (h:jv P f (vn st.ctx args) z) (hok:jx st.ctx args) {gr:Bool} (hgr:gr=true→A.gr=true) (hl:zgp args z gr=true)
  {vs:Array Value} (hvs:relL σ args vs.toList):Calls P f vs w fun e w'=>∃ v σ',e=.returned v∧rel σ' z v∧Rel A σ' st a w':=by
 obtain ⟨_,hp,hz,h⟩:=h;by_cases hb:z.bit=true
 ·refine (h (fun b=>w.heap[b]?) w vs (fun _ _ h=>h) (fun b o h=>hR.sat.frz b o (hR.sat.glb b o h)) (zce hR.sat hok hp hvs)).mono fun e w' ⟨v,fz',e1,e2,e3,e4,e5,e6⟩=>?_;refine ⟨v,σ,e1,zbe hb e2, ?_⟩;have hf:∀ b o,σ.fz b=some o→w'.heap[b]?=some o:=fun b o h=>e5 b o (e4 b o (hR.sat.frz b o h));exact (hR.froze e3 (fun _ _ h=>h) hf (fun _ _ h=>.inl h)).2
 ·unfold zgp at hl;simp only [hb,Bool.false_or,Bool.and_eq_true] at hl;obtain ⟨hpl,hg⟩:=hl;rw [zat hpl] at h;refine (h σ.fz w vs hR.sat.frz hR.sat.glb (x7 (σ:=σ) (σ':=⟨fun _=>none,σ.fz⟩) (fun _ _ h=>h) hpl hvs)).mono fun e w' ⟨v,fz',e1,e2,e3,e4,e5,e6⟩=>?_;obtain ⟨_,hR'⟩:=hR.froze e3 e4 e5 (fun b o h=>(e6 b o h).imp id fun h=>⟨hgr hg,h⟩);exact ⟨v,⟨σ.loc,fz'⟩,e1,yr (σ:=⟨fun _=>none,fz'⟩) (σ':=⟨σ.loc,fz'⟩) (fun _ _ h=>h) hz e2,hR'⟩
/-- Arguments that were worked out under a guard,without it. -/
def zw5:SV→SV
 | .gd _ x=>x
 | x=>x
def j9:List SV→List SV
 | []=>[]
 | x::xs=>zw5 x::j9 xs
def gok:SV→Prop
 | .gd g _=>g=true
 | _=>True
def gokL:List SV→Prop
 | []=>True
 | x::xs=>gok x∧gokL xs
theorem zy4 {σ:Asg} {x:SV} {v:Value} (h:gok x) (hr:rel σ x v):rel σ (zw5 x) v:=by cases x<;>first | exact hr | (simp only [gok] at h;simp only [rel] at hr;exact hr.1 h)
theorem ze4 {σ:Asg}:∀ {l:List SV} {vs:List Value},gokL l→relL σ l vs→relL σ (j9 l) vs
 | [],_,_,hr=>hr
 | x::xs,_,h,hr=>by simp only [relL,j9] at hr ⊢;obtain ⟨v,r,e,h1,h2⟩:=hr;exact ⟨v,r,e,zy4 h.1 h1,ze4 h.2 h2⟩
/-- One operation under the condition 'c' ('g': it bears a guard);'sp': the two ways of a guard are gone apart. -/
def zoi (P:Program) (te:TE) (wr:Bool) (nt:Nat) (pt:PT) (g c:Bool) (st:St) (o:Oper) (K:St→Prop):Prop:=
 match y5 te o.op with
 | 0=>zry te wr c st o.op fun z=>zoo nt st o.dst (if g then zj1 c z else z) K
 | 1=>zne te c st o.op fun z=>zoo nt st o.dst (if g then zj1 c z else z) K
 | 2=>g=false∧zkr te st o.op fun z st'=>zoo nt st' o.dst z K
 | 3=>match uj st o.op with
  | some f=>match ptOf pt f with
   | some t=>match t (vn st.ctx (j9 (zjr st o.op))) with
    | some (p,z)=>zgp (j9 (zjr st o.op)) z pt.gr=true∧Chk (c=true→gokL (zjr st o.op)∧jx st.ctx (j9 (zjr st o.op))∧p) (zoo nt st o.dst (if g then zj1 c z else z) K)
    | none=>False
   | none=>g=false∧pt.gr=true∧zhb P f (zjr st o.op) pt.k st fun z st'=>zoo nt st' o.dst z K
  | none=>False
 | _=>False
def zbb (P:Program) (te:TE) (wr:Bool) (nt:Nat) (pt:PT) (sp:Bool) (ops:Array Oper) (st:St) (o:Oper) (K:St→Prop):Prop:=
 match o.guard with
 | none=>zoi P te wr nt pt false true st o K
 | some (j,want)=>match zjo ops j with
  | none=>False
  | some d=>zjg want (look st.env d) fun c=>
    if sp then (c=true→zoi P te wr nt pt false true st o K)∧(c=false→zoo nt st o.dst (.gd false (.b false)) K)
    else zoi P te wr nt pt true c st o K
/-- Operations in an order,from a state on. -/
def XO (P:Program) (te:TE) (wr:Bool) (nt:Nat) (pt:PT) (sp:Bool) (ops:Array Oper) (K:St→Prop):List Nat→St→Prop
 | [],st=>K st
 | i::is,st=>match ops[i]? with
  | none=>False
  | some o=>zbb P te wr nt pt sp ops st o (XO P te wr nt pt sp ops K is)
theorem execAny {P:Program} {st:St} {a:Act} {w:World} {σ:Asg} (henv:∀ x,rel σ (st.ev x) (a.eval x)) {o:Oper} {f:FuncId} (hf:uj st o.op=some f) :
  ∃ vs:Array Value,(execOp a.eval o).run P w=(callFunc f vs).run P w∧relL σ (zjr st o.op) vs.toList:=by
 obtain ⟨dst,op,ty,pos,after,guard⟩:=o;cases op with
 | call c=>
  obtain ⟨callee,args,ats⟩:=c;cases callee with
  | value x=>
   simp only [uj] at hf;split at hf
   ·rename_i f' hx;cases hf;have hv:=henv x;rw [hx] at hv;simp only [rel] at hv;refine ⟨args.map a.eval, ?_, ?_⟩
    ·simp only [execOp,resolve,Deferred.ofValue,hv,Sem.run_bind,Sem.run_pure,Result.andThen_ok,invoke,Array.append_empty,Array.empty_append]
    ·refine j5 (by simp [zjr]) fun j y v hy hv=>?_;simp only [zjr,List.getElem?_map,Option.map_eq_some_iff] at hy;obtain ⟨q,hq,rfl⟩:=hy;simp only [Array.toList_map,List.getElem?_map,Option.map_eq_some_iff] at hv;obtain ⟨q',hq',rfl⟩:=hv;rw [hq] at hq';cases hq';exact henv q
   ·cases hf
  | builtin b=>simp [uj] at hf
  | invoke r m=>simp [uj] at hf
 | _=>simp [uj] at hf
theorem zv7 {P:Program} {st:St} {a:Act} {w:World} {σ:Asg} (henv:∀ x,rel σ (st.ev x) (a.eval x)) {o:Oper} {f:FuncId} (hf:uj st o.op=some f) (hb:zb4 P f) :
  ∃ vs:Array Value,(execOp a.eval o).run P w=.ok (.enter f vs) w∧relL σ (zjr st o.op) vs.toList:=by
 obtain ⟨dst,op,ty,pos,after,guard⟩:=o;cases op with
 | call c=>
  obtain ⟨callee,args,ats⟩:=c;cases callee with
  | value x=>
   simp only [uj] at hf;split at hf
   ·rename_i f' hx;cases hf;have hv:=henv x;rw [hx] at hv;simp only [rel] at hv;obtain ⟨fn,h1,h2,h4⟩:=hb;refine ⟨args.map a.eval, ?_, ?_⟩
    ·simp only [execOp,resolve,Deferred.ofValue,hv,Sem.run_bind,Sem.run_pure,Result.andThen_ok,invoke,callFunc,run_program,h1,h4];have:fn.body.isNone=false:=by cases hfb:fn.body<;>simp_all
     simp [this]
    ·refine j5 (by simp [zjr]) fun j y v hy hv=>?_;simp only [zjr,List.getElem?_map,Option.map_eq_some_iff] at hy;obtain ⟨q,hq,rfl⟩:=hy;simp only [Array.toList_map,List.getElem?_map,Option.map_eq_some_iff] at hv;obtain ⟨q',hq',rfl⟩:=hv;rw [hq] at hq';cases hq';exact henv q
   ·cases hf
  | builtin b=>simp [uj] at hf
  | invoke r m=>simp [uj] at hf
 | _=>simp [uj] at hf
theorem zhf {P:Program} {o:Oper} {a:Act} {w w':World} {v:Value} {next:Act→World→Prop} {Q:Exit→Act→World→Prop} (h:(execOp a.eval o).run P w=.ok (.value v) w') (hn:next (a.put o.dst v) w'):o.wp P a w next Q:=by unfold Oper.wp;rw [h];exact hn
theorem wp_skip' {P:Program} {o:Oper} {a:Act} {w w':World} {next:Act→World→Prop} {Q:Exit→Act→World→Prop} (h:(execOp a.eval o).run P w=.ok .skip w') (hn:next (a.put o.dst undef) w'):o.wp P a w next Q:=by unfold Oper.wp;rw [h];exact hn
theorem zt1 {P:Program} {o:Oper} {a:Act} {w:World} {f:FuncId} {vs:Array Value} {next:Act→World→Prop} {Q:Exit→Act→World→Prop} (h:(execOp a.eval o).run P w=.ok (.enter f vs) w)
  (hn:Calls P f vs w fun e w'=>∃ v,e=.returned v∧next (a.put o.dst v) w'):o.wp P a w next Q:=by
 unfold Oper.wp;rw [h];refine Calls.mono hn fun e w' he=>?_;obtain ⟨v,rfl,hv⟩:=he;exact hv
theorem zjh {A:Amb} {σ:Asg} {st:St} {a:Act} {w:World} {K:St→Prop} {o:Oper} {g c:Bool} {z:SV} (hR:Rel A σ st a w) (hK:zoo A.nt st o.dst (if g then zj1 c z else z) K) (hgc:g=false→c=true) :
  (∀ v,c=true→rel σ z v→∃ st',K st'∧Rel A σ st' (a.put o.dst v) w)∧(c=false→∃ st',K st'∧Rel A σ st' (a.put o.dst undef) w):=by
 refine ⟨fun v hc hv=>?_,fun hc=>?_⟩
 ·refine u3 hR (v:=v) ?_ hK;cases g with
  | false=>exact hv
  | true=>exact zvr (fun _=>hv) (fun h=>by rw [hc] at h;cases h)
 ·refine u3 hR (v:=undef) ?_ hK;cases g with
  | false=>rw [hgc rfl] at hc;cases hc
  | true=>exact zvr (fun h=>by rw [hc] at h;cases h) (fun _=>rfl)
theorem zf0 {P:Program} {te:TE} (hte:vh P te) {wr:Bool} {pt:PT} (hpt:zx9 P pt) {A:Amb} (hkk:A.k≤pt.k) (hgr:pt.gr=true→A.gr=true) {σ:Asg} {st:St} {a:Act} {w:World} (hR:Rel A σ st a w) {g c:Bool} (hgc:g=false→c=true) {o:Oper} {K:St→Prop}
  (h:zoi P te wr A.nt pt g c st o K) {next:Act→World→Prop} {Q:Exit→Act→World→Prop} (hn:∀ σ' st' a' w',K st'→Rel A σ' st' a' w'→next a' w') :
  (c=true→o.wp P a w next Q)∧(c=false→next (a.put o.dst undef) w):=by
 unfold zoi at h;split at h
 ·obtain ⟨z,hz,hv⟩:=zc6 hte hR h;obtain ⟨p1,p2⟩:=zjh hR hz hgc;refine ⟨fun hc=>?_,fun hc=>?_⟩
  ·obtain ⟨v,hr,hrun⟩:=hv hc;obtain ⟨st',k1,k2⟩:=p1 v hc hr;exact zhf (hrun w) (hn _ _ _ _ k1 k2)
  ·obtain ⟨st',k1,k2⟩:=p2 hc;exact hn _ _ _ _ k1 k2
 ·obtain ⟨z,hz,hv⟩:=zhs hte hR h;obtain ⟨p1,p2⟩:=zjh hR hz hgc;refine ⟨fun hc=>?_,fun hc=>?_⟩
  ·obtain ⟨v,hr,hrun⟩:=hv hc;obtain ⟨st',k1,k2⟩:=p1 v hc hr;exact zhf (hrun w (fun _ _ _ _=>rfl) hR.sat.frz) (hn _ _ _ _ k1 k2)
  ·obtain ⟨st',k1,k2⟩:=p2 hc;exact hn _ _ _ _ k1 k2
 ·obtain ⟨rfl,h⟩:=h;have hc:c=true:=hgc rfl;refine ⟨fun _=>?_,fun h=>by rw [hc] at h;cases h⟩;obtain ⟨z,st1,v,σ',w',hK,hrun,hle,hr,hR'⟩:=zwz hte hR h;obtain ⟨st',k1,k2⟩:=u3 hR' hr hK;rcases hrun with hrun | ⟨hrun,rfl⟩
  ·exact zhf hrun (hn _ _ _ _ k1 k2)
  ·exact wp_skip' hrun (hn _ _ _ _ k1 k2)
 ·split at h
  ·rename_i f hf;split at h
   ·rename_i t ht;split at h
    case h_2=>exact h.elim
    rename_i p z hz;obtain ⟨hlend,h⟩:=h;obtain ⟨hp,hK⟩:=h.out;obtain ⟨p1,p2⟩:=zjh hR hK hgc;refine ⟨fun hc=>?_,fun hc=>?_⟩
    ·rcases hpt.get ht _ _ _ hz (hp hc).2.2 with hcall | ⟨hx1,hx2,hx3⟩
     case inr=>
      obtain ⟨vs,hrun,hargs⟩:=execAny (P:=P) (w:=w) hR.ev hf;obtain ⟨v,hv,hrel⟩:=hx3 (fun b=>w.heap[b]?) w vs (fun _ _ h=>h) (zce hR.sat (hp hc).2.1 hx1 (ze4 (hp hc).1 hargs));obtain ⟨st',k1,k2⟩:=p1 v hc (zbe hx2 hrel);exact zhf (hrun.trans hv) (hn _ _ _ _ k1 k2)
     obtain ⟨vs,hrun,hargs⟩:=zv7 (P:=P) (w:=w) hR.ev hf hcall.1;refine zt1 hrun ((hcall.use hR (hp hc).2.1 hgr hlend (ze4 (hp hc).1 hargs)).mono fun e w' he=>?_);obtain ⟨v,σ',rfl,hv,hR'⟩:=he;obtain ⟨st',k1,k2⟩:=(zjh hR' hK hgc).1 v hc hv;exact ⟨v,rfl,hn _ _ _ _ k1 k2⟩
    ·obtain ⟨st',k1,k2⟩:=p2 hc;exact hn _ _ _ _ k1 k2
   ·obtain ⟨rfl,hptg,hb,hcall⟩:=h;have hc:c=true:=hgc rfl;refine ⟨fun _=>?_,fun h=>by rw [hc] at h;cases h⟩;obtain ⟨vs,hrun,hargs⟩:=zv7 (P:=P) (w:=w) hR.ev hf hb;refine zt1 hrun ((hcall A σ a w vs hkk (hgr hptg) hR hargs).mono fun e w' he=>?_);obtain ⟨v,z,s',σ',rfl,hq,hv,hR'⟩:=he;obtain ⟨st',k1,k2⟩:=u3 hR' hv hq;exact ⟨v,rfl,hn _ _ _ _ k1 k2⟩
  ·exact h.elim
 ·exact h.elim
theorem um {P:Program} {te:TE} (hte:vh P te) {wr:Bool} {pt:PT} (hpt:zx9 P pt) {sp:Bool} {ops:Array Oper} {A:Amb} (hkk:A.k≤pt.k) (hgr:pt.gr=true→A.gr=true) {σ:Asg} {st:St} {a:Act} {w:World} (hR:Rel A σ st a w) {o:Oper} {K:St→Prop}
  (h:zbb P te wr A.nt pt sp ops st o K) {next:Act→World→Prop} {Q:Exit→Act→World→Prop} (hn:∀ σ' st' a' w',K st'→Rel A σ' st' a' w'→next a' w') :
  if Region.wanted o (yielded ops a.tmps) then o.wp P a w next Q∨(o.asks P a w∧LetsOut Q) else next (a.put o.dst undef) w:=by
 unfold zbb at h;split at h
 ·rename_i hg;have:Region.wanted o (yielded ops a.tmps)=true:=by simp [Region.wanted,hg]
  rw [if_pos this];exact .inl ((zf0 hte hpt hkk hgr hR (fun _=>rfl) h hn).1 rfl)
 ·rename_i j want hg;split at h
  ·exact h.elim
  ·rename_i d hd;obtain ⟨c,h,hc⟩:=zb0 hR.env hd h;have hw:Region.wanted o (yielded ops a.tmps)=c:=by simp only [Region.wanted,hg,hc]
   rw [hw];split at h
   ·obtain ⟨h1,h2⟩:=h;cases c with
    | true=>rw [if_pos rfl];exact .inl ((zf0 hte hpt hkk hgr hR (fun _=>rfl) (h1 rfl) hn).1 rfl)
    | false=>rw [if_neg (by simp)];obtain ⟨st',k1,k2⟩:=u3 hR (v:=undef) (by simp [rel]) (h2 rfl);exact hn _ _ _ _ k1 k2
   ·obtain ⟨q1,q2⟩:=zf0 (Q:=Q) hte hpt hkk hgr hR (g:=true) (fun h=>by cases h) h hn;cases c with
    | true=>rw [if_pos rfl];exact .inl (q1 rfl)
    | false=>rw [if_neg (by simp)];exact q2 rfl
theorem zhq {P:Program} {te:TE} (hte:vh P te) {wr:Bool} {pt:PT} (hpt:zx9 P pt) {sp:Bool} {ops:Array Oper} {A:Amb} (hkk:A.k≤pt.k) (hgr:pt.gr=true→A.gr=true) {K:St→Prop} {Q:Exit→Act→World→Prop}:∀ (is:List Nat) {σ:Asg} {st:St} {a:Act} {w:World},Rel A σ st a w →
  XO P te wr A.nt pt sp ops K is st→(∀ σ' st' a' w',K st'→Rel A σ' st' a' w'→Q .normal a' w')→wpOps P ops Q is a w
 | [],σ,st,a,w,hR,h,hQ=>hQ σ st a w h hR
 | i::is,σ,st,a,w,hR,h,hQ=>by
  simp only [XO] at h;split at h
  ·exact h.elim
  ·rename_i o ho;simp only [wpOps,ho];exact um hte hpt hkk hgr hR h fun σ' st' a' w' hK hR'=>zhq hte hpt hkk hgr is hR' hK hQ
end Go.Vg
end
section
namespace Go.Vg
variable [Go.Vg.Glob]
open Go.RowKit
/-- What a walk of one function is about. -/
structure Cf where
 P:Program
 te:TE
 pt:PT
 nt:Nat
 k:Nat
 wr:Bool
 sp:Nat→Bool
 keep:Nat→List Tmp
 cut:List Nat
 dr:Nat→Array Oper→(St→Prop)→St→Prop
/-- A region of another kind (orders drawn): what it must bring about. -/
def zrr (P:Program) (nt k:Nat) (ops:Array Oper) (K:St→Prop) (st:St):Prop:=
 ∀ (A:Amb) (σ:Asg) (a:Act) (w:World) (id:Nat),A.nt=nt→A.k=k→A.gr=true→Rel A σ st a w →
  (Code.region id ops true).wp P (fun e a' w'=>e=.normal∧∃ σ' st',K st'∧Rel A σ' st' a' w') a w
structure Cf.ok (cf:Cf):Prop where
 te:vh cf.P cf.te
 pt:zx9 cf.P cf.pt
 kk:cf.k≤cf.pt.k
 dr:∀ id ops K st,cf.dr id ops K st→zrr cf.P cf.nt cf.k ops K st
inductive It where
 | code (c:Code)
 | blk (id:Nat)
 | stop (J:St→Prop)
def KP (P:Program) (A:Amb) (F:St→Prop):List It→Exit→Act→World→Prop
 | [],.normal,a,w=>∃ σ st,F st∧Rel A σ st a w
 | [],.ret,a,w=>∃ σ st,F st∧Rel A σ st a w
 | [],_,_,_=>False
 | .code c::r,.normal,a,w=>c.wp P (KP P A F r) a w
 | .code _::r,e,a,w=>KP P A F r e a w
 | .blk id::r,.exit id',a,w=>if id'=id then KP P A F r .normal a w else KP P A F r (.exit id') a w
 | .blk _::r,e,a,w=>KP P A F r e a w
 | .stop J::r,.normal,a,w=>∃ σ st,J st∧Rel A σ st a w
 | .stop _::r,e,a,w=>KP P A F r e a w
def ze9 (id:Nat):List It→Option (List It)
 | []=>none
 | .blk id'::r=>if id=id' then some r else ze9 id r
 | _::r=>ze9 id r
theorem zoj {P:Program} {A:Amb} {F:St→Prop} {id:Nat}:∀ {r r':List It} {a:Act} {w:World},ze9 id r=some r'→KP P A F r' .normal a w→KP P A F r (.exit id) a w
 | [],_,_,_,h,_=>by simp [ze9] at h
 | .blk i::r,r',a,w,h,k=>by
  simp only [ze9] at h;simp only [KP];split at h
  ·cases h;subst_vars;rwa [if_pos rfl]
  ·rename_i hne;rw [if_neg hne];exact zoj h k
 | .code c::r,r',a,w,h,k=>by
  simp only [ze9] at h;simp only [KP];exact zoj h k
 | .stop c::r,r',a,w,h,k=>by simp only [ze9] at h;simp only [KP];exact zoj h k
theorem zwx {P:Program} {A:Amb} {F:St→Prop}:∀ {r:List It} {a:Act} {w:World},(∃ σ st,F st∧Rel A σ st a w)→KP P A F r .ret a w
 | [],_,_,h=>by simpa [KP] using h
 | .blk _::r,_,_,h=>by simp only [KP];exact zwx h
 | .code _::r,_,_,h=>by simp only [KP];exact zwx h
 | .stop _::r,_,_,h=>by simp only [KP];exact zwx h
def Ent (k:Nat) (st st':St):Prop:=∀ (A:Amb) (σ:Asg) (a:Act) (w:World),A.k=k→Rel A σ st a w→∃ σ',Rel A σ' st' a w
theorem Ent.refl (k:Nat) (st:St):Ent k st st:=fun A σ a w _ h=>⟨σ,h⟩
theorem Ent.trans {k:Nat} {a b c:St} (h:Ent k a b) (g:Ent k b c):Ent k a c:=fun A σ a w hk hR=>
 let ⟨σ',h'⟩:=h A σ a w hk hR
 g A σ' a w hk h'
/-- The same objects;of each temporary the same or nothing. -/
theorem Ent.env {k:Nat} {st st':St} (hc:st.ctx=st'.ctx) (he:∀ t,look st'.env t=look st.env t∨look st'.env t=.u):Ent k st st':=fun A σ a w hk hR=>
 ⟨σ,hR.defers,hR.size,fun t=>by
  rcases he t with h | h
  ·rw [h];exact hR.env t
  ·rw [h];simp [rel],hc▸hR.sat,hR.fr,hc▸hR.own,hR.base,hc▸hR.klen⟩
def trim (l:List Tmp) (st:St):St:=⟨l.map fun t=>(t,look st.env t),st.ctx⟩
theorem look_map (st:List (Tmp×SV)) (l:List Tmp) (t:Tmp):look (l.map fun t=>(t,look st t)) t=look st t∨look (l.map fun t=>(t,look st t)) t=.u:=by
 induction l with
 | nil=>right;rfl
 | cons x xs ih=>
  simp only [List.map_cons,look];by_cases h:x=t
  ·subst h;left;simp
  ·rw [if_neg h];exact ih
theorem Ent.trim (k:Nat) (l:List Tmp) (st:St):Ent k st (trim l st):=Ent.env rfl fun t=>look_map st.env l t
/-- A loop: states by index,a measure that falls. -/
def VLoop (k:Nat) (st:St) (B:(J:St→Prop)→St→Prop):Prop:=
 ∃ (ι:Type) (S:ι→St) (m:ι→Nat) (i0:ι),Ent k st (S i0)∧∀ i,B (fun s=>∃ j,m j<m i∧Ent k s (S j)) (S i)
/-- A place where ways come together: states by index. -/
def VCut (k:Nat) (B:(J:St→Prop)→Prop) (R:St→Prop):Prop:=
 ∃ (ι:Type) (S:ι→St),B (fun s=>∃ j,Ent k s (S j))∧∀ j,R (S j)
def zs3:Code→Option Nat
 | .region id _ _=>some id
 | .block id _=>some (1000+id)
 | .seq x _=>zs3 x
 | .loop b=>zs3 b
 | _=>none
def zby (cut:List Nat) (c:Code):Bool:=match zs3 c with
 | some i=>cut.contains i
 | none=>false
/-- Operations from a list,one after the other. -/
def XL (P:Program) (te:TE) (wr:Bool) (nt:Nat) (pt:PT) (sp:Bool) (ops:Array Oper) (K:St→Prop):List Oper→St→Prop
 | [],st=>K st
 | o::os,st=>zbb P te wr nt pt sp ops st o (XL P te wr nt pt sp ops K os)
theorem XL_XO {P:Program} {te:TE} {wr:Bool} {nt:Nat} {pt:PT} {sp:Bool} {ops:Array Oper} {K:St→Prop}:∀ (n i:Nat) (st:St),i+n=ops.size →
  XL P te wr nt pt sp ops K (ops.toList.drop i)=XO P te wr nt pt sp ops K (List.range' i n)
 | 0,i,st,h=>by
  rw [List.drop_of_length_le (by simp;omega)];funext st;rfl
 | n+1,i,st,h=>by
  have hi:i<ops.toList.length:=by simp;omega
  rw [List.drop_eq_getElem_cons hi];funext s;simp only [XL,List.range'_succ,XO];rw [←XL_XO n (i+1) st (by omega)];simp only [Array.getElem_toList];rw [Array.getElem?_eq_getElem (by simpa using hi)]
def vc (cf:Cf) (F:St→Prop):Nat→List It→St→Prop
 | 0,_,_=>False
 | n+1,its,st=>match its with
  | []=>F st
  | .blk _::r=>vc cf F n r st
  | .stop J::_=>J st
  | .code c::r=>match c with
   | .skip=>vc cf F n r st
   | .ret=>F st
   | .seq x y=>if zby cf.cut y then VCut cf.k (fun J=>vc cf F n (.code x::.stop J::.code y::r) st) (fun s=>vc cf F n (.code y::r) s)
    else vc cf F n (.code x::.code y::r) st
   | .region id ops false=>XL cf.P cf.te cf.wr cf.nt cf.pt (cf.sp id) ops (fun s=>vc cf F n r (trim (cf.keep id) s)) ops.toList st
   | .region id ops true=>cf.dr id ops (fun s=>vc cf F n r (trim (cf.keep id) s)) st
   | .cond c x y=>match st.ev c with
    | .b t=>(t=true→vc cf F n (.code x::r) st)∧(t=false→vc cf F n (.code y::r) st)
    | _=>False
   | .block id b=>vc cf F n (.code b::.blk id::r) st
   | .loop b=>VLoop cf.k st fun J s=>vc cf F n (.code b::.stop J::r) s
   | .exit id=>match ze9 id r with
    | some r'=>vc cf F n r' st
    | none=>False
   | _=>False
theorem vc_sound {cf:Cf} (hcf:cf.ok) {F:St→Prop} {A:Amb} (hnt:A.nt=cf.nt) (hk:A.k=cf.k) (hgr:A.gr=true):∀ (n:Nat) (its:List It) (st:St) (σ:Asg) (a:Act) (w:World),vc cf F n its st→Rel A σ st a w→KP cf.P A F its .normal a w:=by
 intro n
 induction n with
 | zero=>intro its st σ a w h;exact h.elim
 | succ n ih=>
  intro its st σ a w h hR;simp only [vc] at h;split at h
  ·exact ⟨σ,st,h,hR⟩
  ·simp only [KP];exact ih _ _ _ _ _ h hR
  ·exact ⟨σ,st,h,hR⟩
  ·rename_i c r;simp only [KP];split at h
   ·exact wp_skip (ih _ _ _ _ _ h hR)
   ·exact wp_ret (zwx ⟨σ,st,h,hR⟩)
   ·rename_i x y;split at h
    ·obtain ⟨ι,S,h1,h2⟩:=h;refine wp_seq (wp_mono (ih _ _ _ _ _ h1 hR) fun e a' w' he=>?_);cases e with
     | normal=>
      obtain ⟨σ1,st1,⟨j,hj⟩,hR1⟩:=he;obtain ⟨σ2,hR2⟩:=hj A σ1 a' w' hk hR1;exact ih _ _ _ _ _ (h2 j) hR2
     | _=>exact he
    ·refine wp_seq (wp_mono (ih _ _ _ _ _ h hR) fun e a' w' he=>?_);cases e<;>exact he
   ·rename_i id ops;refine wp_region ?_;have h':XO cf.P cf.te cf.wr cf.nt cf.pt (cf.sp id) ops (fun s=>vc cf F n r (trim (cf.keep id) s)) (List.range ops.size) st:=by have:=XL_XO (P:=cf.P) (te:=cf.te) (wr:=cf.wr) (nt:=cf.nt) (pt:=cf.pt) (sp:=cf.sp id) (ops:=ops) (K:=fun s=>vc cf F n r (trim (cf.keep id) s)) ops.size 0 st (by omega);rw [List.range_eq_range',←this];simpa using h
    rw [←hnt] at h';refine zhq hcf.te hcf.pt (by rw [hk];exact hcf.kk) (fun _=>hgr) _ hR h' fun σ' st' a' w' hK hR'=>?_;obtain ⟨σ2,hR2⟩:=Ent.trim cf.k (cf.keep id) st' A σ' a' w' hk hR';exact ih _ _ _ _ _ hK hR2
   ·rename_i id ops;refine wp_mono (hcf.dr _ _ _ _ h A σ a w id hnt hk hgr hR) fun e a' w' he=>?_;obtain ⟨rfl,σ',st',hK,hR'⟩:=he;obtain ⟨σ2,hR2⟩:=Ent.trim cf.k (cf.keep id) st' A σ' a' w' hk hR';exact ih _ _ _ _ _ hK hR2
   ·rename_i c x y;split at h
    ·rename_i t ht;have hv:=hR.ev c;rw [ht] at hv;simp only [rel] at hv;refine wp_cond_split hv (fun e=>?_) (fun e=>?_)
     ·exact ih _ _ _ _ _ (h.1 e) hR
     ·exact ih _ _ _ _ _ (h.2 e) hR
    ·exact h.elim
   ·rename_i id b;refine wp_block (wp_mono (ih _ _ _ _ _ h hR) fun e a' w' he=>?_);cases e<;>exact he
   ·rename_i b;obtain ⟨ι,S,m,i0,h0,hS⟩:=h
    classical
    let I:Act→World→Prop:=fun a w=>∃ i σ,Rel A σ (S i) a w
    let Pn:Act→World→Nat→Prop:=fun a w x=>∃ i σ,m i=x∧Rel A σ (S i) a w
    have hmin:∀ a w,I a w→∃ x,Pn a w x∧∀ y,Pn a w y→x≤y:=by
     intro a w ⟨i,σ,hi⟩;have key:∀ x,Pn a w x→∃ x,Pn a w x∧∀ y,Pn a w y→x≤y:=by
      intro x
      induction x using Nat.strongRecOn with
      | _ x ihx=>
       intro hx;by_cases h:∃ y,y<x∧Pn a w y
       ·obtain ⟨y,hy,hp⟩:=h;exact ihx y hy hp
       ·exact ⟨x,hx,fun y hy=>Nat.le_of_not_lt fun hlt=>h ⟨y,hlt,hy⟩⟩
     exact key (m i) ⟨i,σ,rfl,hi⟩
    let μ:Act→World→Nat:=fun a w=>if h:I a w then Classical.choose (hmin a w h) else 0
    have hμ:∀ a w (h:I a w),Pn a w (μ a w)∧∀ y,Pn a w y→μ a w≤y:=by intro a w h;have:μ a w=Classical.choose (hmin a w h):=dif_pos h;rw [this];exact Classical.choose_spec (hmin a w h)
    refine wp_loop I μ ?_ ?_
    ·obtain ⟨σ',h'⟩:=h0 A σ a w hk hR;exact ⟨i0,σ',h'⟩
    ·intro a w hI;obtain ⟨⟨i,σi,hm,hi⟩,_⟩:=hμ a w hI;refine wp_mono (ih _ _ _ _ _ (hS i) hi) fun e a' w' he=>?_;cases e with
     | normal=>
      obtain ⟨σ1,st1,⟨j,hj,hE⟩,hR1⟩:=he;obtain ⟨σ2,hR2⟩:=hE A σ1 a' w' hk hR1;have hI':I a' w':=⟨j,σ2,hR2⟩
      exact ⟨hI',by
       have:=(hμ a' w' hI').2 (m j) ⟨j,σ2,rfl,hR2⟩;omega⟩
     | _=>exact he
   ·split at h
    ·rename_i r' hr';exact wp_exit (zoj hr' (ih _ _ _ _ _ h hR))
    ·exact h.elim
   ·exact h.elim
/-- What a result variable in memory holds. -/
def cellV (te:TE) (ctx:Ctx) (v:SV) (t:TypeId):Option SV:=
 match v with
 | .ptr h i k=>match ctx.at h,te t with
  | some ob,some ti=>match ob.isMap,ti.td with
   | false,.other=>none
   | true,_=>none
   | false,td=>if i<ob.n then (if td.isStruct then (if k+ti.size≤ob.sz∧(ob.el i).length=ob.sz then some (.agg (((ob.el i).drop k).take ti.size)) else none)
    else (if k<ob.sz then some ((ob.el i).getD k .u) else none)) else none
  | _,_=>none
 | _=>none
def tupS:List SV→SV
 | [x]=>x
 | l=>.tup l
/-- A function's results,out of the temporaries and what they point to. -/
def zrv (te:TE) (st:St) (Q:SV→Ctx→Prop):List ResultVar→List SV→Prop
 | [],acc=>Q (tupS acc) st.ctx
 | .tmp t::r,acc=>zrv te st Q r (acc++[look st.env t])
 | .cell a t::r,acc=>match cellV te st.ctx (look st.env a) t with
  | some x=>zrv te st Q r (acc++[x])
  | none=>False
def resF (tmps:Array Value):ResultVar→Sem Value
 | .tmp t=>pure (tmps.getD t undef)
 | .cell x t=>do loadVar t (←asAddr (tmps.getD x undef))
theorem zw9 (fn:Func) (tmps:Array Value):results fn tmps=(do
  let vs ←fn.results.mapM (resF tmps)
  pure (if h:vs.size=1 then vs[0] else .tuple vs)):=by
 unfold results;congr
theorem zs8 {P:Program} {te:TE} (hte:vh P te) {A:Amb} {σ:Asg} {st:St} {a:Act} {w:World} (hR:Rel A σ st a w) {x:Tmp} {t:TypeId} {z:SV} (h:cellV te st.ctx (look st.env x) t=some z) :
  ∃ u,rel σ z u∧(resF a.tmps (.cell x t)).run P w=.ok u w:=by
 unfold cellV at h;split at h
 case h_2=>cases h
 rename_i hh i k hv;split at h
 case h_2=>cases h
 rename_i ob ti hob hti;have hr:=hR.env x;rw [hv] at hr;have key:∀ (ho:ti.td≠.other) (hm:ob.isMap=false) (hi:i<ob.n),(if ti.td.isStruct then k+ti.size≤ob.sz∧(ob.el i).length=ob.sz else k<ob.sz) →
   z=(if ti.td.isStruct then .agg (((ob.el i).drop k).take ti.size) else (ob.el i).getD k .u)→∃ u,rel σ z u∧(resF a.tmps (.cell x t)).run P w=.ok u w:=by
  intro ho hm hi hk hz;obtain ⟨u,h1,h2⟩:=zfp hte hR hti ho hob hm hi hr hk;subst hz;refine ⟨u,h1, ?_⟩;have h3:=h2 w fun _ _=>rfl;simp only [rel] at hr;obtain ⟨L,_,hp⟩:=hr;rw [hp] at h3;simp only [resF];rw [hp];simpa [Instr.loadAt,Instr.sureAddr,asAddr] using h3
 split at h
 ·cases h
 ·cases h
 ·rename_i hm hne;split at h
  ·rename_i hi;split at h
   ·rename_i hs;split at h
    ·rename_i hk;cases h;exact key (fun e=>hne e) hm hi (by rw [if_pos hs];exact hk) (by rw [if_pos hs])
    ·cases h
   ·rename_i hs;split at h
    ·rename_i hk;cases h;exact key (fun e=>hne e) hm hi (by rw [if_neg hs];exact hk) (by rw [if_neg hs])
    ·cases h
  ·cases h
theorem zb9 {P:Program} {te:TE} (hte:vh P te) {fn:Func} {A:Amb} {σ:Asg} {st:St} {a:Act} {w:World} (hR:Rel A σ st a w) {Q:SV→Ctx→Prop} (h:zrv te st Q fn.results.toList []) :
  ∃ z v,Q z st.ctx∧(results fn a.tmps).run P w=.ok v w∧rel σ z v:=by
 have key:∀ (l:List ResultVar) (acc:List SV) (us:List Value),relL σ acc us→zrv te st Q l acc →
   ∃ zs vs:_,Q (tupS zs) st.ctx∧relL σ zs (us++vs)∧(l.mapM (resF a.tmps)).run P w=.ok vs w:=by
  intro l
  induction l with
  | nil=>intro acc us hu h;exact ⟨acc,[],h,by simpa using hu,by simp⟩
  | cons x xs ih=>
   intro acc us hu h;have app:∀ (z:SV) (u:Value),rel σ z u→relL σ (acc++[z]) (us++[u]):=by
    intro z u hz;refine j5 (by simp [y4 hu]) fun j y v hy hv=>?_;have hl:=y4 hu;by_cases hj:j<acc.length
    ·rw [List.getElem?_append_left hj] at hy;rw [List.getElem?_append_left (by omega)] at hv;obtain ⟨v',h1,h2⟩:=ky hu hy;rw [hv] at h1;cases h1;exact h2
    ·rw [List.getElem?_append_right (by omega)] at hy;rw [List.getElem?_append_right (by omega)] at hv;have:j=acc.length:=by
      rcases Nat.lt_or_ge (j-acc.length) 1 with h' | h'
      ·omega
      ·rw [List.getElem?_eq_none (by simpa using h')] at hy;cases hy
     subst this;simp at hy;rw [show acc.length-us.length=0 from by omega] at hv;simp at hv;subst hy hv;exact hz
   cases x with
   | tmp t=>
    simp only [zrv] at h;obtain ⟨zs,vs,h1,h2,h3⟩:=ih (acc++[look st.env t]) (us++[a.tmps.getD t undef]) (app _ _ (hR.env t)) h;refine ⟨zs,a.tmps.getD t undef::vs,h1,by simpa using h2, ?_⟩;simp only [List.mapM_cons,Sem.run_bind,resF,Sem.run_pure,Result.andThen_ok];rw [h3];simp
   | cell y t=>
    simp only [zrv] at h;split at h
    case h_2=>exact h.elim
    rename_i z hz;obtain ⟨u,hu1,hu2⟩:=zs8 hte hR hz;obtain ⟨zs,vs,h1,h2,h3⟩:=ih (acc++[z]) (us++[u]) (app _ _ hu1) h;refine ⟨zs,u::vs,h1,by simpa using h2, ?_⟩;rw [List.mapM_cons,Sem.run_bind,hu2];simp only [Result.andThen_ok,Sem.run_bind];rw [h3];simp
 obtain ⟨zs,vs,h0,h2,h1⟩:=key fn.results.toList [] [] (by simp [relL]) h;simp only [List.nil_append] at h2;have hrun:(results fn a.tmps).run P w=.ok (if h:vs.toArray.size=1 then vs.toArray[0] else .tuple vs.toArray) w:=by rw [zw9,Sem.run_bind,Array.mapM_eq_mapM_toList];simp only [Sem.run_bind,map_eq_pure_bind,Sem.run_pure];rw [h1];simp
 refine ⟨tupS zs,_,h0,hrun, ?_⟩;have hlen:=y4 h2;unfold tupS;split
 ·rename_i x;simp only [relL] at h2;obtain ⟨v,r,rfl,h3,rfl⟩:=h2;simpa using h3
 ·rename_i hne;rw [dif_neg]
  ·simp only [rel];exact ⟨_,rfl,by simpa using h2⟩
  ·intro h;simp only [List.size_toArray] at h;rw [h] at hlen
   match zs with
   | []=>simp at hlen
   | [x]=>exact hne x rfl
   | _::_::_=>simp at hlen
end Go.Vg
end
