/- Own text: part VAE. -/
import Derived.Test.YtgippllfnmdnpaaGreatDoorVAD
set_option linter.all false
section
namespace Go.Vg
variable[Go.Vg.df]
open Go.RowKit
def nF(c:Bool)(z:SV):SV:=
 match z with
 | .gd g v=>.gd (c&&g) v
 |v=>.gd c v
theorem Ge{σ:ey}{c:Bool}{z:SV}{v:Value}(b:c=true->rel σ z v)(e:c=false->v=undef):rel σ (nF c z) v:=by
 unfold nF;split
 ·rename_i g x;simp only[rel]at b |-
  refine⟨fun h=>?_,fun h=>?_⟩
  ·simp only[aD]at h;exact(b h.1).1 h.2
  cases c with
  |false=>exact e rfl
  |true=>exact(b rfl).2 (by simpa using h)
 simp only[rel];exact⟨b,e⟩
def tv(want:Bool)(x:SV)(K:Bool->Prop):Prop:=
 match x with
 | .b e=>K (if want then e else !e)
 | .gd g (.b e)=>K (g&&(if want then e else !e))
 |_=>False
def rb(ops:Array Oper)(j:Nat):Option Tmp:=(ops[j]?).bind (·.dst)
theorem pH{σ:ey}{ops:Array Oper}{a:Act}{st:St}(i:∀t,rel σ (look st.env t) (a.tmps.getD t undef)){j d:Nat}{want:Bool}(hd:rb ops j=some d){K:Bool->Prop}(h:tv want (look st.env d) K) :
  ∃c,K c/\(yielded ops a.tmps j==some want)=c:=by
 have b:=i d;have k:∀e,a.tmps.getD d undef=.bool e->yielded ops a.tmps j=some e:=by
  intro e he;have:a.tmps[d]?=some (.bool e):=by
   rw[fj]at he;cases f:a.tmps[d]? with
   |none=>rw[f]at he;simp[undef]at he
   |some x=>rw[f]at he;simpa using he
  unfold yielded;unfold rb at hd;simp[hd,this]
 unfold tv at h;split at h
 ·rename_i e he;rw[he]at b;simp only[rel]at b;refine⟨_,h, ?_⟩;rw[k e b];cases want<;>cases e<;>rfl
 ·rename_i g e he;rw[he]at b;simp only[rel]at b;refine⟨_,h, ?_⟩;cases g with
  |true=>
   rw[k e (b.1 rfl)];cases want<;>cases e<;>rfl
  |false=>
   have f:=b.2 rfl;have:yielded ops a.tmps j=none:=by
    unfold yielded;unfold rb at hd;rw[hd];simp only[gR];rw[fj]at f;cases l:a.tmps[d]? with
    |none=>rfl
    |some x=>rw[l]at f;simp only[fK]at f;subst f;rfl
   rw[this];cases want<;>rfl
 exact h.elim
def qL(nt:Nat)(st:St)(d:Option Tmp)(z:SV)(K:St->Prop):Prop:=
 match d with
 |none=>K st
 |some d=>d<nt/\K ⟨(d,z)::st.env,st.ctx⟩
theorem nv{A:kS}{σ:ey}{st:St}{a:Act}{w:World}(b:Rel A σ st a w){d:Option Tmp}{z:SV}{v:Value}(g:rel σ z v){K:St->Prop}(h:qL A.nt st d z K):∃st',K st'/\Rel A σ st' (a.put d v) w:=by
 unfold qL at h;cases d with
 |none=>exact⟨st,h,b⟩
 |some d=>
  obtain⟨hd,h⟩:=h;refine⟨_,h,⟨b.defers,by simp[Act.put,b.size],fun t=>?_,b.sat,b.fr,b.own,b.base,b.mq⟩⟩;simp only[look,Act.put];rw[fj,eW];by_cases f:d=t
  ·subst f;rw[aB rfl,aB rfl,aB (by rw[b.size];exact hd)];exact g
  rw[aA f,aA f];have:=b.env t;rwa[fj]at this
def eG(te:TE):Op->Nat
 | .load _ _=>1
 | .lookup _ _ _ _=>1
 | .convert s d _=>match dP te s,dP te d with
  | .slice _,.str=>1
  | .slice _,.slice _=>2
  |_,_=>0
 | .alloc _=>2
 | .box _ _=>2
 | .store _ _ _=>2
 | .makeMap _ _=>2
 | .mapUpdate _ _ _ _=>2
 | .insert _ _ _ _=>2
 | .buildSlice _ _ _=>2
 | .makeSlice _ _ _=>2
 | .call c=>match c.callee with
  | .builtin .append=>2
  | .builtin _=>0
  | .value _=>3
  | .invoke _ _=>4
 |_=>0
def kU(st:St):Op->Option FuncId
 | .call c=>match c.callee with
  | .value x=>match st.ev x with
   | .fn f=>some f
   |_=>none
  |_=>none
 |_=>none
def qX(st:St):Op->List SV
 | .call c=>c.args.toList.map st.ev
 |_=>[]
def mK(P:Program)(f:FuncId):Prop:=∃fn,P.funcs[f]?=some fn/\fn.body.isSome=true/\(fn.name == "runtime.NumGoroutine")=false
def qm(P:Program)(f:FuncId)(args:List SV)(kk:Nat)(st:St)(K:SV->St->Prop):Prop:=
 mK P f/\∀(A:kS) (σ:ey) (a:Act) (w:World) (vs:Array Value),A.k<=kk->A.gr=true->Rel A σ st a w->dm σ args vs.toList ->
  Calls P f vs w fun e w'=>∃v z st' σ',e=.returned v/\K z st'/\rel σ' z v/\Rel A σ' st' a w'
theorem qm.mono{P:Program}{f:FuncId}{args:List SV}{kk:Nat}{st:St}{K d:SV->St->Prop}(h:qm P f args kk st K)(t:∀z s,K z s->d z s):qm P f args kk st d:=
 ⟨h.1,fun A σ a w vs o p q r=>(h.2 A σ a w vs o p q r).mono fun e w' ⟨v,z,s,σ',l,m,n⟩=>⟨v,z,s,σ',l,t _ _ m,n⟩⟩
def jv(P:Program)(f:FuncId)(args:List SV)(z:SV):Prop:=
 mK P f/\eJ args=true/\z.plain=true/\∀(fz:Nat->Option Obj) (w:World) (vs:Array Value),(∀b o,fz b=some o->w.heap[b]?=some o)->(∀b o,df.g b=some o->fz b=some o)->dm ⟨fun _=>none,fz⟩ args vs.toList ->
  Calls P f vs w fun e w'=>∃v c,e=.returned v/\rel ⟨fun _=>none,c⟩ z v/\Fr (fun _=>False) w w'/\(∀b o,fz b=some o->c b=some o) /\
   (∀b o,c b=some o->w'.heap[b]?=some o)/\(∀b o,c b=some o->fz b=some o\/w.heap.size<=b)
def yt(P:Program)(f:FuncId)(args:List SV)(z:SV):Prop:=
 eJ args=true/\z.bit=true/\∀(fz:Nat->Option Obj) (w:World) (vs:Array Value),(∀b o,fz b=some o->w.heap[b]?=some o)->dm ⟨fun _=>none,fz⟩ args vs.toList ->
  ∃v,(callFunc f vs).run P w=.ok (.value v) w/\rel ⟨fun _=>none,fz⟩ z v
abbrev PE:=List SV->Option (Prop×SV)
structure PT where
 l:List (FuncId×PE)
 k:Nat
 gr:Bool
def C7:List (FuncId×PE)->FuncId->Option PE
 |[],_=>none
 |e::r,f=>if e.1=f then some e.2 else C7 r f
def AL(pt:PT)(f:FuncId):Option PE:=C7 pt.l f
def fO(P:Program)(f:FuncId)(g:PE):Prop:=∀args p z,g args=some (p,z)->p->jv P f args z\/yt P f args z
def mJ(P:Program):List (FuncId×PE)->Prop
 |[]=>True
 |e::r=>fO P e.1 e.2/\mJ P r
def s9(P:Program)(pt:PT):Prop:=mJ P pt.l
theorem mJ.get{P:Program}:∀{l:List (FuncId×PE)} {f:FuncId} {g:PE},mJ P l->C7 l f=some g->fO P f g
 |e::r,f,g,h,a=>by
  simp only[C7]at a;split at a
  ·rename_i he;cases a;subst he;exact h.1
  exact h.2.get a
theorem s9.get{P:Program}{pt:PT}{f:FuncId}{g:PE}(h:s9 P pt)(k:AL pt f=some g):fO P f g:=mJ.get h k
def jd(f:Nat->List SV)(a len:Nat):List (List SV):=(List.range len).map fun j=>f (a+j)
mutual
def jX(ctx:dZ):SV->SV
 | .ew h a len=>match ctx.at h with
  |some (.row _ sz _ f)=>.fs sz (jd f a len)
  |_=>.ew h a len
 | .agg l=>.agg (iT ctx l)
 | .fJ l=>.fJ (iT ctx l)
 |x=>x
def iT(ctx:dZ):List SV->List SV
 |[]=>[]
 |x::xs=>jX ctx x::iT ctx xs
end
mutual
def jf(ctx:dZ):SV->Prop
 | .ew h a len=>match ctx.at h with
  |some (.row _ sz n f)=>a+len<=n/\∀j,j<len->(f (a+j)).length=sz/\eJ (f (a+j))=true
  |_=>True
 | .agg l=>iJ ctx l
 | .fJ l=>iJ ctx l
 |_=>True
def iJ(ctx:dZ):List SV->Prop
 |[]=>True
 |x::xs=>jf ctx x/\iJ ctx xs
end
theorem Jz{σ:ey}{w:World}{L:Loc}{ro:Bool}{sz n:Nat}{f:Nat->List SV}{c:Array Value}{e:TypeId}{fr:Nat×Nat}(h:sl σ w L (.row ro sz n f) c e fr){i:Nat}(m:i<n)(q:(f i).length=sz) :
  dm σ (f i) ((c.toList.drop (L.sh+i*sz)).take sz):=by
 obtain⟨vs,p,g,l⟩:=tf h (i:=i) (k:=0) (n:=sz) m (by simp[SO.sz]);have a:L.sz=sz:=h.Br;have b:(c.toList.drop (L.sh+i*sz)).take sz=vs:=by
  apply List.ext_getElem?;intro j;rw[cH];by_cases d:j<sz
  ·rw[aB d,bY];have:=g j (vs[j]'(by omega)) (aS (by omega));rw[a]at this;rw[aS (show j<vs.length by omega)];simpa using this
  rw[aA d,cw (by omega)]
 rw[b];refine j7 (by omega) fun j x v o b=>?_;have:=l j v b;simp only[SO.el,aX]at this;rw[aG,o]at this;exact this
mutual
theorem QS{σ:ey}{w:World}{ctx:dZ}(m:Sat σ w ctx):∀{x:SV} {v:Value},jf ctx x->(jX ctx x).plain=true->rel σ x v->rel ⟨fun _=>none,fun b=>w.heap[b]?⟩ (jX ctx x) v
 | .ew h q len,v,k,hp,d=>by
  simp only[jX]at hp |-
  simp only[jf]at k;split at hp
  ·rename_i ro sz n f r;rw[r]at k;obtain⟨K,y⟩:=k;simp only[rel]at d |-
   obtain⟨a,cap,rfl,I,d⟩:=d;have hlen:(jd f q len).length=len:=by simp[jd]
   refine⟨a,cap,by rw[hlen],by rw[hlen];exact I, ?_⟩;by_cases F:len=0
   ·left;subst F;rfl
   right;rcases d with d|⟨L,s,rfl,H⟩
   ·omega
   have p:=m.obj h _ r;unfold fh at p;simp only[SO.isMap]at p;rcases p with⟨_,G⟩|⟨J,c,e,fr,t,u⟩
   ·rw[G]at s;cases s
   rw[t]at s;cases s;have z:L.sz=sz:=u.Br;refine⟨L.b,L.sh+q*L.sz+0,c,e,fr,rfl,u.heap,l3 fun j x D=>?_⟩;have C:j<len:=by rw[<-hlen];exact(cM.1 D).1
   have A:x=f (q+j):=by simpa[jd,C]using D.symm
   subst A;obtain⟨B,E⟩:=y j C;refine⟨B, ?_⟩;have:=Jz u (i:=q+j) (by omega) B;rw[List.drop_drop,z,show L.sh+q*sz+0+j*sz=L.sh+(q+j)*sz by rw[eR];omega];exact lJ (fun b o g=>m.pG b o g) E this
  ·simp[SV.plain]at hp
 | .agg l,v,k,hp,d=>by
  simp only[jX,jf,SV.plain,rel]at k hp d |-
  obtain⟨cs,e,d⟩:=d;exact⟨cs,e,rf m k hp d⟩
 | .fJ l,v,k,hp,d=>by
  simp only[jX,jf,SV.plain,rel]at k hp d |-
  obtain⟨cs,e,d⟩:=d;exact⟨cs,e,rf m k hp d⟩
 | .b _,_,_,hp,d=>eK (fun b o g=>m.pG b o g) hp d
 | .i _ _,_,_,hp,d=>eK (fun b o g=>m.pG b o g) hp d
 | .s _,_,_,hp,d=>eK (fun b o g=>m.pG b o g) hp d
 | .ptr _ _ _,_,_,hp,d=>eK (fun b o g=>m.pG b o g) hp d
 | .cQ,_,_,hp,d=>eK (fun b o g=>m.pG b o g) hp d
 | .mp _,_,_,hp,d=>eK (fun b o g=>m.pG b o g) hp d
 | .fn _,_,_,hp,d=>eK (fun b o g=>m.pG b o g) hp d
 | .gd _ _,_,_,hp,d=>eK (fun b o g=>m.pG b o g) hp d
 | .u,_,_,hp,d=>eK (fun b o g=>m.pG b o g) hp d
 | .fs _ _,_,_,hp,d=>eK (fun b o g=>m.pG b o g) hp d
 | .fp _ _,_,_,hp,d=>eK (fun b o g=>m.pG b o g) hp d
theorem rf{σ:ey}{w:World}{ctx:dZ}(d:Sat σ w ctx):∀{x:List SV} {v:List Value},iJ ctx x->eJ (iT ctx x)=true->dm σ x v->dm ⟨fun _=>none,fun b=>w.heap[b]?⟩ (iT ctx x) v
 |[],_,_,_,c=>by simpa[dm,iT]using c
 |x::xs,_,a,hp,c=>by
  simp only[dm,iT,eJ,iJ,aD]at a hp c |-
  obtain⟨v,q,e,f,g⟩:=c;exact⟨v,q,e,QS d a.1 hp.1 f,rf d a.2 hp.2 g⟩
end
mutual
theorem Ii{ctx:dZ}:∀{x:SV},x.plain=true->jX ctx x=x
 | .agg l,h=>by simp only[jX];rw[nO (by simpa[SV.plain]using h)]
 | .ew _ _ _,h=>by simp[SV.plain]at h
 | .b _,_=>rfl
 | .i _ _,_=>rfl
 | .s _,_=>rfl
 | .ptr _ _ _,_=>rfl
 | .cQ,_=>rfl
 | .mp _,_=>rfl
 | .fn _,_=>rfl
 | .fJ l,h=>by simp only[jX];rw[nO (by simpa[SV.plain]using h)]
 | .gd _ _,_=>rfl
 | .u,_=>rfl
 | .fs _ _,_=>rfl
 | .fp _ _,_=>rfl
theorem nO{ctx:dZ}:∀{x:List SV},eJ x=true->iT ctx x=x
 |[],_=>rfl
 |x::xs,h=>by simp only[eJ,aD]at h;simp only[iT,Ii h.1,nO h.2]
end
theorem Rel.froze{A:kS}{σ:ey}{st:St}{a:Act}{w w':World}(c:Rel A σ st a w)(k:Fr (fun _=>False) w w'){d:Nat->Option Obj}(j:∀b o,σ.fz b=some o->d b=some o)(v:∀b o,d b=some o->w'.heap[b]?=some o)(m:∀b o,d b=some o->σ.fz b=some o\/(A.gr=true/\w.heap.size<=b)):mi σ ⟨σ.loc,d⟩/\Rel A ⟨σ.loc,d⟩ st a w':=by
 have hle:mi σ ⟨σ.loc,d⟩:=⟨fun _ _ h=>h,j⟩
 refine⟨hle,c.defers,c.size,fun t=>jM hle (c.env t),⟨fun h o e=>?_,c.sat.apart,c.sat.beyond,fun h L e=>dA (c.sat.gq h L e) k.size,v,fun h o L e r s=>?_,fun b o e=>j b o (c.sat.E0 b o e)⟩, ?_,c.own,⟨c.base.loc,fun b o h=>j b o (c.base.FP b o h),fun b o h=>?_⟩,c.mq⟩
 ·exact j2 hle rfl (fun L x=>k.block _ (c.sat.gq h L x) (fun h=>h)) (c.sat.obj h o e)
 ·show d L.b=none;cases z:d L.b with
  |none=>rfl
  |some q=>
   rcases m _ _ z with f|⟨_,f⟩
   ·rw[c.sat.mR h o L e r s]at f;cases f
   have:=c.sat.gq h L s;omega
 ·exact c.fr.step k (fun _ _ h=>h.elim)
 rcases m b o h with f|⟨y,f⟩
 ·exact c.base.LV b o f
 exact .inr ⟨y,.inr (cv c.fr.size f)⟩
def ri(args:List SV)(z:SV)(gr:Bool):Bool:=z.bit||(eJ args&&gr)
theorem jv.use{P:Program}{f:FuncId}{args:List SV}{z:SV}{A:kS}{σ:ey}{st:St}{a:Act}{w:World}(d:Rel A σ st a w)(h:jv P f (iT st.ctx args) z)(x:iJ st.ctx args){gr:Bool}(t:gr=true->A.gr=true)(u:ri args z gr=true){vs:Array Value}(j:dm σ args vs.toList):Calls P f vs w fun e w'=>∃v σ',e=.returned v/\rel σ' z v/\Rel A σ' st a w':=by
 obtain⟨_,hp,G,h⟩:=h;by_cases B:z.bit=true
 ·refine(h (fun b=>w.heap[b]?) w vs (fun _ _ h=>h) (fun b o h=>d.sat.pG b o (d.sat.E0 b o h)) (rf d.sat x hp j)).mono fun e w' ⟨v,c,m,n,p,q,r,y⟩=>?_;refine⟨v,σ,m,sy B n, ?_⟩;have E:∀b o,σ.fz b=some o->w'.heap[b]?=some o:=fun b o h=>r b o (q b o (d.sat.pG b o h));exact(d.froze p (fun _ _ h=>h) E (fun _ _ h=>.inl h)).2
 unfold ri at u;simp only[B,cX,aD]at u;obtain⟨i,F⟩:=u;rw[nO i]at h;refine(h σ.fz w vs d.sat.pG d.sat.E0 (lJ (σ:=σ) (σ':=⟨fun _=>none,σ.fz⟩) (fun _ _ h=>h) i j)).mono fun e w' ⟨v,c,m,n,p,q,r,y⟩=>?_;obtain⟨_,s⟩:=d.froze p q r (fun b o h=>(y b o h).imp id fun h=>⟨t F,h⟩);exact⟨v,⟨σ.loc,c⟩,m,eK (σ:=⟨fun _=>none,c⟩) (σ':=⟨σ.loc,c⟩) (fun _ _ h=>h) G n,s⟩
def Dm:SV->SV
 | .gd _ x=>x
 |x=>x
def stripL:List SV->List SV
 |[]=>[]
 |x::xs=>Dm x::stripL xs
def Ue:SV->Prop
 | .gd g _=>g=true
 |_=>True
def BA:List SV->Prop
 |[]=>True
 |x::xs=>Ue x/\BA xs
theorem ME{σ:ey}{x:SV}{v:Value}(h:Ue x)(a:rel σ x v):rel σ (Dm x) v:=by cases x<;>first|exact a|(simp only[Ue]at h;simp only[rel]at a;exact a.1 h)
theorem ui{σ:ey}:∀{l:List SV} {vs:List Value},BA l->dm σ l vs->dm σ (stripL l) vs
 |[],_,_,b=>b
 |x::xs,_,h,b=>by
  simp only[dm,stripL]at b |-
  obtain⟨v,r,e,f,g⟩:=b;exact⟨v,r,e,ME h.1 f,ui h.2 g⟩
def py(P:Program)(te:TE)(wr:Bool)(nt:Nat)(pt:PT)(g c:Bool)(st:St)(o:Oper)(K:St->Prop):Prop:=
 match eG te o.op with
 |0=>Bp te wr c st o.op fun z=>qL nt st o.dst (if g then nF c z else z) K
 |1=>vE te c st o.op fun z=>qL nt st o.dst (if g then nF c z else z) K
 |2=>g=false/\pv te st o.op fun z st'=>qL nt st' o.dst z K
 |3=>match kU st o.op with
  |some f=>match AL pt f with
   |some t=>match t (iT st.ctx (stripL (qX st o.op)))with
    |some (p,z)=>ri (stripL (qX st o.op)) z pt.gr=true/\bH (c=true->BA (qX st o.op)/\iJ st.ctx (stripL (qX st o.op))/\p) (qL nt st o.dst (if g then nF c z else z) K)
    |none=>False
   |none=>g=false/\pt.gr=true/\qm P f (qX st o.op) pt.k st fun z st'=>qL nt st' o.dst z K
  |none=>False
 |_=>False
def lr(P:Program)(te:TE)(wr:Bool)(nt:Nat)(pt:PT)(sp:Bool)(ops:Array Oper)(st:St)(o:Oper)(K:St->Prop):Prop:=
 match o.guard with
 |none=>py P te wr nt pt false true st o K
 |some (j,want)=>match rb ops j with
  |none=>False
  |some d=>tv want (look st.env d) fun c=>
    if sp then(c=true->py P te wr nt pt false true st o K)/\(c=false->qL nt st o.dst (.gd false (.b false)) K)
    else py P te wr nt pt true c st o K
def XO(P:Program)(te:TE)(wr:Bool)(nt:Nat)(pt:PT)(sp:Bool)(ops:Array Oper)(K:St->Prop):List Nat->St->Prop
 |[],st=>K st
 |i::is,st=>match ops[i]? with
  |none=>False
  |some o=>lr P te wr nt pt sp ops st o (XO P te wr nt pt sp ops K is)
theorem QM{P:Program}{st:St}{a:Act}{w:World}{σ:ey}(d:∀x,rel σ (st.ev x) (a.eval x)){o:Oper}{f:FuncId}(e:kU st o.op=some f) :
  ∃vs:Array Value,(execOp a.eval o).run P w=(callFunc f vs).run P w/\dm σ (qX st o.op) vs.toList:=by
 obtain⟨dst,op,t,pos,after,guard⟩:=o;cases op with
 |call c=>
  obtain⟨callee,args,k⟩:=c;cases callee with
  |value x=>
   simp only[kU]at e;split at e
   ·rename_i p n;cases e;have g:=d x;rw[n]at g;simp only[rel]at g;refine⟨args.map a.eval, ?_, ?_⟩
    ·simp only[execOp,resolve,Deferred.ofValue,g,Sem.run_bind,Sem.run_pure,Result.andThen_ok,invoke,Array.append_empty,Array.empty_append]
    refine j7 (by simp[qX]) fun j y v i g=>?_;simp only[qX,cu,cK]at i;obtain⟨q,l,rfl⟩:=i;simp only[Array.toList_map,cu,cK]at g;obtain⟨s,h,rfl⟩:=g;rw[l]at h;cases h;exact d q
   ·cases e
  |builtin b=>simp[kU]at e
  |invoke r m=>simp[kU]at e
 |_=>simp[kU]at e
theorem FM{P:Program}{st:St}{a:Act}{w:World}{σ:ey}(d:∀x,rel σ (st.ev x) (a.eval x)){o:Oper}{f:FuncId}(e:kU st o.op=some f)(p:mK P f) :
  ∃vs:Array Value,(execOp a.eval o).run P w=.ok (.enter f vs) w/\dm σ (qX st o.op) vs.toList:=by
 obtain⟨dst,op,C,pos,after,guard⟩:=o;cases op with
 |call c=>
  obtain⟨callee,args,k⟩:=c;cases callee with
  |value x=>
   simp only[kU]at e;split at e
   ·rename_i z u;cases e;have g:=d x;rw[u]at g;simp only[rel]at g;obtain⟨fn,l,A,n⟩:=p;refine⟨args.map a.eval, ?_, ?_⟩
    ·simp only[execOp,resolve,Deferred.ofValue,g,Sem.run_bind,Sem.run_pure,Result.andThen_ok,invoke,callFunc,run_program,l,n];have:fn.body.isNone=false:=by cases s:fn.body<;>simp_all
     simp[this]
    refine j7 (by simp[qX]) fun j y v i g=>?_;simp only[qX,cu,cK]at i;obtain⟨q,t,rfl⟩:=i;simp only[Array.toList_map,cu,cK]at g;obtain⟨B,h,rfl⟩:=g;rw[t]at h;cases h;exact d q
   ·cases e
  |builtin b=>simp[kU]at e
  |invoke r m=>simp[kU]at e
 |_=>simp[kU]at e
theorem vD{P:Program}{o:Oper}{a:Act}{w w':World}{v:Value}{next:Act->World->Prop}{Q:Exit->Act->World->Prop}(h:(execOp a.eval o).run P w=.ok (.value v) w')(b:next (a.put o.dst v) w'):o.wp P a w next Q:=by unfold Oper.wp;rw[h];exact b
theorem Qm{P:Program}{o:Oper}{a:Act}{w w':World}{next:Act->World->Prop}{Q:Exit->Act->World->Prop}(h:(execOp a.eval o).run P w=.ok .skip w')(b:next (a.put o.dst undef) w'):o.wp P a w next Q:=by unfold Oper.wp;rw[h];exact b
theorem Hl{P:Program}{o:Oper}{a:Act}{w:World}{f:FuncId}{vs:Array Value}{next:Act->World->Prop}{Q:Exit->Act->World->Prop}(h:(execOp a.eval o).run P w=.ok (.enter f vs) w)(b:Calls P f vs w fun e w'=>∃v,e=.returned v/\next (a.put o.dst v) w'):o.wp P a w next Q:=by unfold Oper.wp;rw[h];refine Calls.mono b fun e w' he=>?_;obtain⟨v,rfl,c⟩:=he;exact c
theorem tu{A:kS}{σ:ey}{st:St}{a:Act}{w:World}{K:St->Prop}{o:Oper}{g c:Bool}{z:SV}(f:Rel A σ st a w)(e:qL A.nt st o.dst (if g then nF c z else z) K)(d:g=false->c=true) :
  (∀v,c=true->rel σ z v->∃st',K st'/\Rel A σ st' (a.put o.dst v) w)/\(c=false->∃st',K st'/\Rel A σ st' (a.put o.dst undef) w):=by
 refine⟨fun v b i=>?_,fun b=>?_⟩
 ·refine nv f (v:=v) ?_ e;cases g with
  |false=>exact i
  |true=>exact Ge (fun _=>i) (fun h=>by rw[b]at h;cases h)
 refine nv f (v:=undef) ?_ e;cases g with
 |false=>rw[d rfl]at b;cases b
 |true=>exact Ge (fun h=>by rw[b]at h;cases h) (fun _=>rfl)
theorem ta{P:Program}{te:TE}(y:hX P te){wr:Bool}{pt:PT}(M:s9 P pt){A:kS}(L:A.k<=pt.k)(B:pt.gr=true->A.gr=true){σ:ey}{st:St}{a:Act}{w:World}(n:Rel A σ st a w){g c:Bool}(q:g=false->c=true){o:Oper}{K:St->Prop}(h:py P te wr A.nt pt g c st o K){next:Act->World->Prop}{Q:Exit->Act->World->Prop}(s:∀σ' st' S w',K st'->Rel A σ' st' S w'->next S w') :
  (c=true->o.wp P a w next Q)/\(c=false->next (a.put o.dst undef) w):=by
 unfold py at h;split at h
 ·obtain⟨z,F,u⟩:=sf y n h;obtain⟨G,H⟩:=tu n F q;refine⟨fun j=>?_,fun j=>?_⟩
  ·obtain⟨v,D,d⟩:=u j;obtain⟨st',l,m⟩:=G v j D;exact vD (d w) (s _ _ _ _ l m)
  obtain⟨st',l,m⟩:=H j;exact s _ _ _ _ l m
 ·obtain⟨z,F,u⟩:=x8 y n h;obtain⟨G,H⟩:=tu n F q;refine⟨fun j=>?_,fun j=>?_⟩
  ·obtain⟨v,D,d⟩:=u j;obtain⟨st',l,m⟩:=G v j D;exact vD (d w (fun _ _ _ _=>rfl) n.sat.pG) (s _ _ _ _ l m)
  obtain⟨st',l,m⟩:=H j;exact s _ _ _ _ l m
 ·obtain⟨rfl,h⟩:=h;have j:c=true:=q rfl;refine⟨fun _=>?_,fun h=>by rw[j]at h;cases h⟩;obtain⟨z,W,v,σ',w',I,d,hle,D,r⟩:=Jg y n h;obtain⟨st',l,m⟩:=nv r D I;rcases d with d|⟨d,rfl⟩
  ·exact vD d (s _ _ _ _ l m)
  exact Qm d (s _ _ _ _ l m)
 ·split at h
  ·rename_i f J;split at h
   ·rename_i t V;split at h
    case h_2=>exact h.elim
    rename_i p z F;obtain⟨x,h⟩:=h;obtain⟨hp,I⟩:=h.out;obtain⟨G,H⟩:=tu n I q;refine⟨fun j=>?_,fun j=>?_⟩
    ·rcases M.get V _ _ _ F (hp j).2.2 with k|⟨N,O,R⟩
     case inr=>
      obtain⟨vs,d,i⟩:=QM (P:=P) (w:=w) n.ev J;obtain⟨v,u,E⟩:=R (fun b=>w.heap[b]?) w vs (fun _ _ h=>h) (rf n.sat (hp j).2.1 N (ui (hp j).1 i));obtain⟨st',l,m⟩:=G v j (sy O E);exact vD (d.trans u) (s _ _ _ _ l m)
     obtain⟨vs,d,i⟩:=FM (P:=P) (w:=w) n.ev J k.1;refine Hl d ((k.use n (hp j).2.1 B x (ui (hp j).1 i)).mono fun e w' he=>?_);obtain⟨v,σ',rfl,u,r⟩:=he;obtain⟨st',l,m⟩:=(tu r I q).1 v j u;exact⟨v,rfl,s _ _ _ _ l m⟩
    obtain⟨st',l,m⟩:=H j;exact s _ _ _ _ l m
   obtain⟨rfl,C,T,k⟩:=h;have j:c=true:=q rfl;refine⟨fun _=>?_,fun h=>by rw[j]at h;cases h⟩;obtain⟨vs,d,i⟩:=FM (P:=P) (w:=w) n.ev J T;refine Hl d ((k A σ a w vs L (B C) n i).mono fun e w' he=>?_);obtain⟨v,z,X,σ',rfl,U,u,r⟩:=he;obtain⟨st',l,m⟩:=nv r u U;exact⟨v,rfl,s _ _ _ _ l m⟩
  exact h.elim
 exact h.elim
theorem lV{P:Program}{te:TE}(i:hX P te){wr:Bool}{pt:PT}(f:s9 P pt){sp:Bool}{ops:Array Oper}{A:kS}(e:A.k<=pt.k)(b:pt.gr=true->A.gr=true){σ:ey}{st:St}{a:Act}{w:World}(k:Rel A σ st a w){o:Oper}{K:St->Prop}(h:lr P te wr A.nt pt sp ops st o K){next:Act->World->Prop}{Q:Exit->Act->World->Prop}(l:∀σ' st' n w',K st'->Rel A σ' st' n w'->next n w') :
  if Region.wanted o (yielded ops a.tmps)then o.wp P a w next Q\/(o.asks P a w/\LetsOut Q)else next (a.put o.dst undef) w:=by
 unfold lr at h;split at h
 ·rename_i m;have:Region.wanted o (yielded ops a.tmps)=true:=by simp[Region.wanted,m]
  rw[aB this];exact .inl ((ta i f e b k (fun _=>rfl) h l).1 rfl)
 rename_i j want m;split at h
 ·exact h.elim
 rename_i d hd;obtain⟨c,h,r⟩:=pH k.env hd h;have hw:Region.wanted o (yielded ops a.tmps)=c:=by simp only[Region.wanted,m,r]
 rw[hw];split at h
 ·obtain⟨p,q⟩:=h;cases c with
  |true=>rw[aB rfl];exact .inl ((ta i f e b k (fun _=>rfl) (p rfl) l).1 rfl)
  |false=>rw[aA (by simp)];obtain⟨st',s,t⟩:=nv k (v:=undef) (by simp[rel]) (q rfl);exact l _ _ _ _ s t
 obtain⟨q1,q2⟩:=ta (Q:=Q) i f e b k (g:=true) (fun h=>by cases h) h l;cases c with
 |true=>rw[aB rfl];exact .inl (q1 rfl)
 |false=>rw[aA (by simp)];exact q2 rfl
theorem ux{P:Program}{te:TE}(e:hX P te){wr:Bool}{pt:PT}(d:s9 P pt){sp:Bool}{ops:Array Oper}{A:kS}(c:A.k<=pt.k)(b:pt.gr=true->A.gr=true){K:St->Prop}{Q:Exit->Act->World->Prop}:∀(is:List Nat) {σ:ey} {st:St} {a:Act} {w:World},Rel A σ st a w ->
  XO P te wr A.nt pt sp ops K is st->(∀σ' st' f w',K st'->Rel A σ' st' f w'->Q .normal f w')->wpOps P ops Q is a w
 |[],σ,st,a,w,j,h,g=>g σ st a w h j
 |i::is,σ,st,a,w,j,h,g=>by
  simp only[XO]at h;split at h
  ·exact h.elim
  rename_i o m;simp only[wpOps,m];exact lV e d c b j h fun σ' st' f w' l k=>ux e d c b is k l g
end Go.Vg
end
section
namespace Go.Vg
variable[Go.Vg.df]
open Go.RowKit
structure Cf where
 P:Program
 te:TE
 pt:PT
 nt:Nat
 k:Nat
 wr:Bool
 sp:Nat->Bool
 yd:Nat->List Tmp
 cut:List Nat
 dr:Nat->Array Oper->(St->Prop)->St->Prop
def uw(P:Program)(nt k:Nat)(ops:Array Oper)(K:St->Prop)(st:St):Prop:=
 ∀(A:kS) (σ:ey) (a:Act) (w:World) (id:Nat),A.nt=nt->A.k=k->A.gr=true->Rel A σ st a w ->
  (Code.region id ops true).wp P (fun e b w'=>e=.normal/\∃σ' st',K st'/\Rel A σ' st' b w') a w
structure Cf.ok(cf:Cf):Prop where
 te:hX cf.P cf.te
 pt:s9 cf.P cf.pt
 kk:cf.k<=cf.pt.k
 dr:∀id ops K st,cf.dr id ops K st->uw cf.P cf.nt cf.k ops K st
inductive It where
 |code (c:Code)
 |gA (id:Nat)
 |stop (J:St->Prop)
def KP(P:Program)(A:kS)(F:St->Prop):List It->Exit->Act->World->Prop
 |[],.normal,a,w=>∃σ st,F st/\Rel A σ st a w
 |[],.ret,a,w=>∃σ st,F st/\Rel A σ st a w
 |[],_,_,_=>False
 | .code c::r,.normal,a,w=>c.wp P (KP P A F r) a w
 | .code _::r,e,a,w=>KP P A F r e a w
 | .gA id::r,.exit b,a,w=>if b=id then KP P A F r .normal a w else KP P A F r (.exit b) a w
 | .gA _::r,e,a,w=>KP P A F r e a w
 | .stop J::r,.normal,a,w=>∃σ st,J st/\Rel A σ st a w
 | .stop _::r,e,a,w=>KP P A F r e a w
def pj(id:Nat):List It->Option (List It)
 |[]=>none
 | .gA a::r=>if id=a then some r else pj id r
 |_::r=>pj id r
theorem yu{P:Program}{A:kS}{F:St->Prop}{id:Nat}:∀{r r':List It} {a:Act} {w:World},pj id r=some r'->KP P A F r' .normal a w->KP P A F r (.exit id) a w
 |[],_,_,_,h,_=>by simp[pj]at h
 | .gA i::r,r',a,w,h,k=>by
  simp only[pj]at h;simp only[KP];split at h
  ·cases h;subst_vars;rwa[aB rfl]
  ·rename_i b;rw[aA b];exact yu h k
 | .code c::r,r',a,w,h,k=>by
  simp only[pj]at h;simp only[KP];exact yu h k
 | .stop c::r,r',a,w,h,k=>by simp only[pj]at h;simp only[KP];exact yu h k
theorem DC{P:Program}{A:kS}{F:St->Prop}:∀{r:List It} {a:Act} {w:World},(∃σ st,F st/\Rel A σ st a w)->KP P A F r .ret a w
 |[],_,_,h=>by simpa[KP]using h
 | .gA _::r,_,_,h=>by simp only[KP];exact DC h
 | .code _::r,_,_,h=>by simp only[KP];exact DC h
 | .stop _::r,_,_,h=>by simp only[KP];exact DC h
def cG(k:Nat)(st st':St):Prop:=∀(A:kS) (σ:ey) (a:Act) (w:World),A.k=k->Rel A σ st a w->∃σ',Rel A σ' st' a w
theorem cG.refl(k:Nat)(st:St):cG k st st:=fun A σ a w _ h=>⟨σ,h⟩
theorem cG.trans{k:Nat}{a b c:St}(h:cG k a b)(g:cG k b c):cG k a c:=fun A σ a w f l=>
 let ⟨σ',j⟩:=h A σ a w f l
 g A σ' a w f j
theorem cG.env{k:Nat}{st st':St}(c:st.ctx=st'.ctx)(he:∀t,look st'.env t=look st.env t\/look st'.env t=.u):cG k st st':=fun A σ a w d b=>
 ⟨σ,b.defers,b.size,fun t=>by
  rcases he t with h|h
  ·rw[h];exact b.env t
  rw[h];simp[rel],c▸b.sat,b.fr,c▸b.own,b.base,c▸b.mq⟩
def trim(l:List Tmp)(st:St):St:=⟨l.map fun t=>(t,look st.env t),st.ctx⟩
theorem N0(st:List (Tmp×SV))(l:List Tmp)(t:Tmp):look (l.map fun t=>(t,look st t)) t=look st t\/look (l.map fun t=>(t,look st t)) t=.u:=by
 induction l with
 |nil=>right;rfl
 |cons x xs a=>
  simp only[cC,look];by_cases h:x=t
  ·subst h;left;simp
  rw[aA h];exact a
theorem cG.trim(k:Nat)(l:List Tmp)(st:St):cG k st (trim l st):=cG.env rfl fun t=>N0 st.env l t
def Jj(k:Nat)(st:St)(B:(J:St->Prop)->St->Prop):Prop:=
 ∃(ι:Type) (S:ι->St) (m:ι->Nat) (i0:ι),cG k st (S i0)/\∀i,B (fun s=>∃j,m j<m i/\cG k s (S j)) (S i)
def Qw(k:Nat)(B:(J:St->Prop)->Prop)(R:St->Prop):Prop:=
 ∃(ι:Type) (S:ι->St),B (fun s=>∃j,cG k s (S j))/\∀j,R (S j)
def DT:Code->Option Nat
 | .region id _ _=>some id
 | .block id _=>some (1000+id)
 | .seq x _=>DT x
 | .loop b=>DT b
 |_=>none
def lX(cut:List Nat)(c:Code):Bool:=match DT c with
 |some i=>cut.contains i
 |none=>false
def XL(P:Program)(te:TE)(wr:Bool)(nt:Nat)(pt:PT)(sp:Bool)(ops:Array Oper)(K:St->Prop):List Oper->St->Prop
 |[],st=>K st
 |o::os,st=>lr P te wr nt pt sp ops st o (XL P te wr nt pt sp ops K os)
theorem RT{P:Program}{te:TE}{wr:Bool}{nt:Nat}{pt:PT}{sp:Bool}{ops:Array Oper}{K:St->Prop}:∀(n i:Nat) (st:St),i+n=ops.size ->
  XL P te wr nt pt sp ops K (ops.toList.drop i)=XO P te wr nt pt sp ops K (List.range' i n)
 |0,i,st,h=>by
  rw[fC (by simp;omega)];funext st;rfl
 |n+1,i,st,h=>by
  have a:i<ops.toList.length:=by simp;omega
  rw[cz a];funext s;simp only[XL,List.range'_succ,XO];rw[<-RT n (i+1) st (by omega)];simp only[Array.getElem_toList];rw[Array.getElem?_eq_getElem (by simpa using a)]
def vc(cf:Cf)(F:St->Prop):Nat->List It->St->Prop
 |0,_,_=>False
 |n+1,a,st=>match a with
  |[]=>F st
  | .gA _::r=>vc cf F n r st
  | .stop J::_=>J st
  | .code c::r=>match c with
   | .skip=>vc cf F n r st
   | .ret=>F st
   | .seq x y=>if lX cf.cut y then Qw cf.k (fun J=>vc cf F n (.code x::.stop J::.code y::r) st) (fun s=>vc cf F n (.code y::r) s)
    else vc cf F n (.code x::.code y::r) st
   | .region id ops false=>XL cf.P cf.te cf.wr cf.nt cf.pt (cf.sp id) ops (fun s=>vc cf F n r (trim (cf.yd id) s)) ops.toList st
   | .region id ops true=>cf.dr id ops (fun s=>vc cf F n r (trim (cf.yd id) s)) st
   | .cond c x y=>match st.ev c with
    | .b t=>(t=true->vc cf F n (.code x::r) st)/\(t=false->vc cf F n (.code y::r) st)
    |_=>False
   | .block id b=>vc cf F n (.code b::.gA id::r) st
   | .loop b=>Jj cf.k st fun J s=>vc cf F n (.code b::.stop J::r) s
   | .exit id=>match pj id r with
    |some r'=>vc cf F n r' st
    |none=>False
   |_=>False
theorem Qj{cf:Cf}(p:cf.ok){F:St->Prop}{A:kS}(G:A.nt=cf.nt)(B:A.k=cf.k)(E:A.gr=true):∀(n:Nat) (q:List It) (st:St) (σ:ey) (a:Act) (w:World),vc cf F n q st->Rel A σ st a w->KP cf.P A F q .normal a w:=by
 intro n
 induction n with
 |zero=>intro q st σ a w h;exact h.elim
 |succ n g=>
  intro q st σ a w h f;simp only[vc]at h;split at h
  ·exact⟨σ,st,h,f⟩
  ·simp only[KP];exact g _ _ _ _ _ h f
  ·exact⟨σ,st,h,f⟩
  rename_i c r;simp only[KP];split at h
  ·exact wp_skip (g _ _ _ _ _ h f)
  ·exact wp_ret (DC ⟨σ,st,h,f⟩)
  ·rename_i x y;split at h
   ·obtain⟨ι,S,Y,Z⟩:=h;refine wp_seq (wp_mono (g _ _ _ _ _ Y f) fun e k w' he=>?_);cases e with
    |normal=>
     obtain⟨C,U,⟨j,W⟩,z⟩:=he;obtain⟨o,d⟩:=W A C k w' B z;exact g _ _ _ _ _ (Z j) d
    |_=>exact he
   refine wp_seq (wp_mono (g _ _ _ _ _ h f) fun e k w' he=>?_);cases e<;>exact he
  ·rename_i id ops;refine wp_region ?_;have J:XO cf.P cf.te cf.wr cf.nt cf.pt (cf.sp id) ops (fun s=>vc cf F n r (trim (cf.yd id) s)) (List.range ops.size) st:=by have:=RT (P:=cf.P) (te:=cf.te) (wr:=cf.wr) (nt:=cf.nt) (pt:=cf.pt) (sp:=cf.sp id) (ops:=ops) (K:=fun s=>vc cf F n r (trim (cf.yd id) s)) ops.size 0 st (by omega);rw[List.range_eq_range',<-this];simpa using h
   rw[<-G]at J;refine ux p.te p.pt (by rw[B];exact p.kk) (fun _=>E) _ f J fun σ' st' k w' L v=>?_;obtain⟨o,d⟩:=cG.trim cf.k (cf.yd id) st' A σ' k w' B v;exact g _ _ _ _ _ L d
  ·rename_i id ops;refine wp_mono (p.dr _ _ _ _ h A σ a w id G B E f) fun e k w' he=>?_;obtain⟨rfl,σ',st',L,v⟩:=he;obtain⟨o,d⟩:=cG.trim cf.k (cf.yd id) st' A σ' k w' B v;exact g _ _ _ _ _ L d
  ·rename_i c x y;split at h
   ·rename_i t ht;have Q:=f.ev c;rw[ht]at Q;simp only[rel]at Q;refine wp_cond_split Q (fun e=>?_) (fun e=>?_)
    ·exact g _ _ _ _ _ (h.1 e) f
    exact g _ _ _ _ _ (h.2 e) f
   exact h.elim
  ·rename_i id b;refine wp_block (wp_mono (g _ _ _ _ _ h f) fun e k w' he=>?_);cases e<;>exact he
  ·rename_i b;obtain⟨ι,S,m,i0,X,hS⟩:=h
   classical
   let I:Act->World->Prop:=fun a w=>∃i σ,Rel A σ (S i) a w
   let u:Act->World->Nat->Prop:=fun a w x=>∃i σ,m i=x/\Rel A σ (S i) a w
   have l:∀a w,I a w->∃x,u a w x/\∀y,u a w y->x<=y:=by
    intro a w ⟨i,σ,M⟩;have key:∀x,u a w x->∃x,u a w x/\∀y,u a w y->x<=y:=by
     intro x
     induction x using Nat.strongRecOn with
     |_ x T=>
      intro hx;by_cases h:∃y,y<x/\u a w y
      ·obtain⟨y,R,hp⟩:=h;exact T y R hp
      exact⟨x,hx,fun y R=>Nat.le_of_not_lt fun N=>h ⟨y,N,R⟩⟩
    exact key (m i) ⟨i,σ,rfl,M⟩
   let μ:Act->World->Nat:=fun a w=>if h:I a w then Classical.choose (l a w h)else 0
   have H:∀a w (h:I a w),u a w (μ a w)/\∀y,u a w y->μ a w<=y:=by intro a w h;have:μ a w=Classical.choose (l a w h):=bV h;rw[this];exact eF (l a w h)
   refine wp_loop I μ ?_ ?_
   ·obtain⟨σ',J⟩:=X A σ a w B f;exact⟨i0,σ',J⟩
   intro a w hI;obtain⟨⟨i,aa,hm,M⟩,_⟩:=H a w hI;refine wp_mono (g _ _ _ _ _ (hS i) M) fun e k w' he=>?_;cases e with
   |normal=>
    obtain⟨C,U,⟨j,W,hE⟩,z⟩:=he;obtain⟨o,d⟩:=hE A C k w' B z;have D:I k w':=⟨j,o,d⟩
    exact⟨D,by
     have:=(H k w' D).2 (m j) ⟨j,o,rfl,d⟩;omega⟩
   |_=>exact he
  ·split at h
   ·rename_i r' O;exact wp_exit (yu O (g _ _ _ _ _ h f))
   exact h.elim
  exact h.elim
def uF(te:TE)(ctx:dZ)(v:SV)(t:TypeId):Option SV:=
 match v with
 | .ptr h i k=>match ctx.at h,te t with
  |some a,some ti=>match a.isMap,ti.td with
   |false,.other=>none
   |true,_=>none
   |false,td=>if i<a.n then(if td.eT then(if k+ti.size<=a.sz/\(a.el i).length=a.sz then some (.agg (((a.el i).drop k).take ti.size))else none)
    else(if k<a.sz then some ((a.el i).getD k .u)else none))else none
  |_,_=>none
 |_=>none
def ER:List SV->SV
 |[x]=>x
 |l=>.fJ l
def sN(te:TE)(st:St)(Q:SV->dZ->Prop):List ResultVar->List SV->Prop
 |[],acc=>Q (ER acc) st.ctx
 | .tmp t::r,acc=>sN te st Q r (acc++[look st.env t])
 | .cell a t::r,acc=>match uF te st.ctx (look st.env a) t with
  |some x=>sN te st Q r (acc++[x])
  |none=>False
def lc(tmps:Array Value):ResultVar->Sem Value
 | .tmp t=>pure (tmps.getD t undef)
 | .cell x t=>do loadVar t (<-asAddr (tmps.getD x undef))
theorem IX(fn:Func)(tmps:Array Value):results fn tmps=(do
  let vs <-fn.results.mapM (lc tmps)
  pure (if h:vs.size=1 then vs[0]else .tuple vs)):=by
 unfold results;congr
theorem FC{P:Program}{te:TE}(m:hX P te){A:kS}{σ:ey}{st:St}{a:Act}{w:World}(p:Rel A σ st a w){x:Tmp}{t:TypeId}{z:SV}(h:uF te st.ctx (look st.env x) t=some z) :
  ∃u,rel σ z u/\(lc a.tmps (.cell x t)).run P w=.ok u w:=by
 unfold uF at h;split at h
 case h_2=>cases h
 rename_i B i k v;split at h
 case h_2=>cases h
 rename_i b ti l n;have j:=p.env x;rw[v]at j;have key:∀(q:ti.td≠.other) (hm:b.isMap=false) (c:i<b.n),(if ti.td.eT then k+ti.size<=b.sz/\(b.el i).length=b.sz else k<b.sz) ->
   z=(if ti.td.eT then .agg (((b.el i).drop k).take ti.size)else(b.el i).getD k .u)->∃u,rel σ z u/\(lc a.tmps (.cell x t)).run P w=.ok u w:=by
  intro q hm c d y;obtain⟨u,r,s⟩:=tw m p n q l hm c j d;subst y;refine⟨u,r, ?_⟩;have o:=s w fun _ _=>rfl;simp only[rel]at j;obtain⟨L,_,hp⟩:=j;rw[hp]at o;simp only[lc];rw[hp];simpa[Instr.loadAt,Instr.sureAddr,asAddr]using o
 split at h
 ·cases h
 ·cases h
 rename_i hm f;split at h
 ·rename_i c;split at h
  ·rename_i g;split at h
   ·rename_i d;cases h;exact key (fun e=>f e) hm c (by rw[aB g];exact d) (by rw[aB g])
   cases h
  rename_i g;split at h
  ·rename_i d;cases h;exact key (fun e=>f e) hm c (by rw[aA g];exact d) (by rw[aA g])
  cases h
 cases h
theorem qb{P:Program}{te:TE}(m:hX P te){fn:Func}{A:kS}{σ:ey}{st:St}{a:Act}{w:World}(s:Rel A σ st a w){Q:SV->dZ->Prop}(h:sN te st Q fn.results.toList []) :
  ∃z v,Q z st.ctx/\(results fn a.tmps).run P w=.ok v w/\rel σ z v:=by
 have key:∀(l:List ResultVar) (acc:List SV) (us:List Value),dm σ acc us->sN te st Q l acc ->
   ∃c vs:_,Q (ER c) st.ctx/\dm σ c (us++vs)/\(l.mapM (lc a.tmps)).run P w=.ok vs w:=by
  intro l
  induction l with
  |nil=>intro acc us hu h;exact⟨acc,[],h,by simpa using hu,by simp⟩
  |cons x xs B=>
   intro acc us hu h;have MW:∀(z:SV) (u:Value),rel σ z u->dm σ (acc++[z]) (us++[u]):=by
    intro z u p;refine j7 (by simp[fv hu]) fun j y v e f=>?_;have E:=fv hu;by_cases D:j<acc.length
    ·rw[cA D]at e;rw[cA (by omega)]at f;obtain⟨F,d,b⟩:=ja hu e;rw[f]at d;cases d;exact b
    rw[cR (by omega)]at e;rw[cR (by omega)]at f;have:j=acc.length:=by
     rcases aU (j-acc.length) 1 with q|q
     ·omega
     rw[cw (by simpa using q)]at e;cases e
    subst this;simp at e;rw[show acc.length-us.length=0 from by omega]at f;simp at f;subst e f;exact p
   cases x with
   |tmp t=>
    simp only[sN]at h;obtain⟨c,vs,d,b,g⟩:=B (acc++[look st.env t]) (us++[a.tmps.getD t undef]) (MW _ _ (s.env t)) h;refine⟨c,a.tmps.getD t undef::vs,d,by simpa using b, ?_⟩;simp only[List.mapM_cons,Sem.run_bind,lc,Sem.run_pure,Result.andThen_ok];rw[g];simp
   |cell y t=>
    simp only[sN]at h;split at h
    case h_2=>exact h.elim
    rename_i z p;obtain⟨u,n,o⟩:=FC m s p;obtain⟨c,vs,d,b,g⟩:=B (acc++[z]) (us++[u]) (MW _ _ n) h;refine⟨c,u::vs,d,by simpa using b, ?_⟩;rw[List.mapM_cons,Sem.run_bind,o];simp only[Result.andThen_ok,Sem.run_bind];rw[g];simp
 obtain⟨c,vs,C,b,d⟩:=key fn.results.toList [] [] (by simp[dm]) h;simp only[gy]at b;have i:(results fn a.tmps).run P w=.ok (if h:vs.toArray.size=1 then vs.toArray[0]else .tuple vs.toArray) w:=by rw[IX,Sem.run_bind,Array.mapM_eq_mapM_toList];simp only[Sem.run_bind,map_eq_pure_bind,Sem.run_pure];rw[d];simp
 refine⟨ER c,_,C,i, ?_⟩;have hlen:=fv b;unfold ER;split
 ·rename_i x;simp only[dm]at b;obtain⟨v,r,rfl,g,rfl⟩:=b;simpa using g
 rename_i k;rw[cV]
 ·simp only[rel];exact⟨_,rfl,by simpa using b⟩
 intro h;simp only[fQ]at h;rw[h]at hlen
 match c with
 |[]=>simp at hlen
 |[x]=>exact k x rfl
 |_::_::_=>simp at hlen
end Go.Vg
end
