/- Own text: part VAH. -/
import Derived.Test.YtgippllfnmdnpaaGreatDoorVAG
import Derived.OrdersHeld
set_option linter.all false
section
namespace Go.Vg
variable[Go.Vg.df]
open Go.RowKit
section
variable{P:Program}{ops:Array Oper}{Q:Exit->Act->World->Prop}
def l7(wrs:List Nat)(S0 S1:World->Prop)(listed:Array Bool)(w:World):Prop:=
 ((∀j∈wrs,listed.getD j false=false)->S0 w)/\S1 w
def iE(P:Program)(ops:Array Oper)(Q:Exit->Act->World->Prop)(wrs:List Nat)(S0 S1:World->Prop):Nat->Array Bool->Act->World->Prop
 |0,listed,a,w=>Region.ready .any ops listed=[]/\Q .normal a w
 |b+1,listed,a,w=>
  (Region.ready .any ops listed=[]->Q .normal a w) /\
  ∀i∈Region.ready .any ops listed,wpOp P ops Q i (fun c w'=>l7 wrs S0 S1 (listed.setIfInBounds i true) w'/\iE P ops Q wrs S0 S1 b (listed.setIfInBounds i true) c w') a w
theorem uk{wrs:List Nat}{S0 S1:World->Prop}:∀(b:Nat) (listed:Array Bool) (a:Act) (w:World),iE P ops Q wrs S0 S1 b listed a w->wpAny P .any ops Q b listed a w
 |0,_,_,_,h=>h
 |b+1,_,_,_,h=>⟨h.1,fun i e=>wpOp_mono (fun c w' d=>uk b _ c w' d.2) (h.2 i e)⟩
theorem gG{listed:Array Bool}{i j:Nat}(d:Bool)(h:i≠j):(listed.setIfInBounds i true).getD j d=listed.getD j d:=Go.getD_set_ne d h
theorem mA{wrs:List Nat}{S0 S1 Sx:World->Prop}(ok:Array Bool->Prop){i:Nat}{A:Oper}{v:Value}(N:ops[i]?=some A)(D:i ∉ wrs)(t:∀(j:Nat) (o:Oper) cs b,ops[j]?=some o->o.op≠.select cs b)(Z:∀c a w,Q (.panic c) (a.put A.dst v) w->Q (.panic c) a w)(U:∀listed w,ok listed->l7 wrs S0 S1 listed w->Sx w)(z:∀listed j,ok listed->listed.getD i true=false->j∈Region.ready .any ops listed->j≠i->ok (listed.setIfInBounds j true)) :
  ∀(f:Nat) (listed:Array Bool) (a:Act) (w:World),
   (∀j B,ops[j]?=some B->j≠i->listed.getD j true=false->(∀e∈B.after,Region.binds .any e=true->e.on≠i)->A.apart ops B=true) ->
   i∈Region.ready .any ops listed->ok listed->YieldsIf P ops Sx A v a->l7 wrs S0 S1 listed w ->
   iE P ops Q wrs S0 S1 f (listed.setIfInBounds i true) (a.put A.dst v) w->iE P ops Q wrs S0 S1 (f+1) listed a w:=by
 have g:∀listed w,l7 wrs S0 S1 (listed.setIfInBounds i true) w↔l7 wrs S0 S1 listed w:=by
  intro listed w;unfold l7;have:(∀j∈wrs,(listed.setIfInBounds i true).getD j false=false)↔(∀j∈wrs,listed.getD j false=false):=by
   constructor
   ·intro h j n;have:=h j n;rwa[gG false (show i≠j from fun e=>D (by rw[e];exact n))]at this
   intro h j n;rw[gG false (show i≠j from fun e=>D (by rw[e];exact n))];exact h j n
  rw[this]
 intro f
 induction f with
 |zero=>
  intro listed a w _ y q K I H;refine⟨fun h=>(by rw[h]at y;cases y),fun j n=>?_⟩;by_cases d:j=i
  ·subst d;exact K.wpOp N (U _ _ q I) ⟨(g _ _).2 I,H⟩
  ·have:=ready_mono n d;rw[H.1]at this;cases this
 |succ f ih=>
  intro listed a w l y q K I H;refine⟨fun h=>(by rw[h]at y;cases y),fun j n=>?_⟩;by_cases d:j=i
  ·subst d;exact K.wpOp N (U _ _ q I) ⟨(g _ _).2 I,H⟩
  have u:=H.2 j (ready_mono n d);obtain⟨r,B,x,C⟩:=mem_ready.1 n;have m:=(mem_ready.1 y).1;have F:∀e∈B.after,Region.binds .any e=true->e.on≠i:=fun e he hb M=>by
   have u:=C e he hb;rw[M]at u;rcases aU i listed.size with L|L
   ·simp[L]at m u;rw[m]at u;cases u
   simp[bZ L]at u
  have W:=wpOp_putIf x (l j B x d r F) (fun cs b=>t i A cs b N) (fun cs b=>t j B cs b x) Z K u;have p:∀k ok,ops[k]?=some ok->k≠i->(listed.setIfInBounds j true).getD k true=false ->
    (∀e∈ok.after,Region.binds .any e=true->e.on≠i)->A.apart ops ok=true:=fun k ok hk O S R=>by
   refine l k ok hk O ?_ R;by_cases E:j=k
   ·subst E;exact r
   rwa[gG true E]at S
  have G:=z listed j q m n d;refine wpOp_mono (fun V w' X=>?_) W;obtain⟨T,J,Y⟩:=X;have e:(listed.setIfInBounds i true).setIfInBounds j true=(listed.setIfInBounds j true).setIfInBounds i true:=(Array.setIfInBounds_comm _ _ d).symm;have s:l7 wrs S0 S1 (listed.setIfInBounds j true) w':=by rw[e]at J;exact(g _ _).1 J
  refine⟨s,ih (listed.setIfInBounds j true) V w' p (ready_mono y (Ne.symm d)) G T s ?_⟩;rw[<-e];exact Y
theorem sb{wrs:List Nat}{S0 S1:World->Prop}{i b:Nat}{listed:Array Bool}{a:Act}{w:World}(d:Region.ready .any ops listed=[i])(h:wpOp P ops Q i (fun e w'=>l7 wrs S0 S1 (listed.setIfInBounds i true) w'/\iE P ops Q wrs S0 S1 b (listed.setIfInBounds i true) e w') a w):iE P ops Q wrs S0 S1 (b+1) listed a w:=by refine⟨fun f=>(by rw[f]at d;cases d),fun j c=>?_⟩;rw[d]at c;simp at c;subst c;exact h
theorem xY{wrs:List Nat}{S0 S1:World->Prop}{listed:Array Bool}{a:Act}{w:World}(c:Region.ready .any ops listed=[])(h:Q .normal a w):∀b,iE P ops Q wrs S0 S1 b listed a w
 |0=>⟨c,h⟩
 |_+1=>⟨fun _=>h,by rw[c];simp⟩
end
def kv(te:TE)(o:Op):Bool:=match o with
 | .load _ _=>true
 |o=>eG te o==0
theorem F8{te:TE}{c:Bool}{st:St}{t:TypeId}{x:Operand}{K:SV->Prop}(h:vE te c st (.load t x) K):∀q∈jI (st.ev x),(st.ctx.at q).isSome=true:=by
 simp only[vE]at h;unfold j9 at h;split at h
 ·rename_i g v b;obtain⟨_,d⟩:=h.out;split at d
  ·split at d
   ·rename_i e _;rw[b];intro q a;simp only[jI,dN]at a;subst a;rw[e];rfl
   exact d.elim
  ·rw[b];intro q a;simp[jI]at a
  exact d.elim
 rename_i f;split at h
 ·rename_i b;split at h
  ·rename_i e _;rw[b];intro q a;simp only[jI,dN]at a;subst a;rw[e];rfl
  exact h.elim
 ·rename_i b;rw[b];intro q a;simp[jI]at a
 exact h.elim
theorem yV{P:Program}{te:TE}(i:hX P te){wr:Bool}{pt:PT}{A:kS}{σ:ey}{st:St}{a:Act}{w:World}(k:Rel A σ st a w){g c:Bool}(f:g=false->c=true){o:Oper}(l:kv te o.op=true){K:St->Prop}(h:py P te wr A.nt pt g c st o K){Sx:World->Prop}(G:∀w',Sx w'->∀h L,(st.ctx.at h).isSome=true->σ h=some L->w'.heap[L.b]?=w.heap[L.b]?)(E:∀w',Sx w'->∀b o,σ.fz b=some o->w'.heap[b]?=some o) :
  (c=true->∃v st',K st'/\(∀w',Sx w'->(execOp a.eval o).run P w'=.ok (.value v) w')/\Rel A σ st' (a.put o.dst v) w)/\(c=false->∃st',K st'/\Rel A σ st' (a.put o.dst undef) w):=by
 by_cases C:eG te o.op=0
 ·unfold py at h;rw[C]at h;simp only at h;obtain⟨z,p,n⟩:=sf i k h;obtain⟨u,y⟩:=tu k p f;refine⟨fun e=>?_,fun e=>y e⟩;obtain⟨v,m,d⟩:=n e;obtain⟨st',r,s⟩:=u v e m;exact⟨v,st',r,fun w' _=>d w',s⟩
 obtain⟨dst,op,D,pos,after,gd⟩:=o;cases op<;>simp only[kv,dx]at l<;>first|exact absurd l C|skip
 rename_i t x;have B:vE te c st (.load t x) fun z=>qL A.nt st dst (if g then nF c z else z) K:=h;have H:=F8 B;obtain⟨z,p,n⟩:=x8 (o:=⟨dst,.load t x,D,pos,after,gd⟩) i k B;obtain⟨u,y⟩:=tu (o:=⟨dst,.load t x,D,pos,after,gd⟩) k p f;refine⟨fun e=>?_,fun e=>y e⟩;obtain⟨v,m,d⟩:=n e;obtain⟨st',r,s⟩:=u v e m;exact⟨v,st',r,fun w' j=>d w' (fun q l L F=>G w' j q L (H q l) F) (E w' j),s⟩
theorem xm{P:Program}{te:TE}(e:hX P te){wr:Bool}{pt:PT}{ops:Array Oper}{A:kS}{σ:ey}{st:St}{a:Act}{w:World}(k:Rel A σ st a w){o:Oper}(q:kv te o.op=true){K:St->Prop}(h:lr P te wr A.nt pt false ops st o K){Sx:World->Prop}(p:∀w',Sx w'->∀h L,(st.ctx.at h).isSome=true->σ h=some L->w'.heap[L.b]?=w.heap[L.b]?)(n:∀w',Sx w'->∀b o,σ.fz b=some o->w'.heap[b]?=some o) :
  ∃v st',K st'/\YieldsIf P ops Sx o v a/\Rel A σ st' (a.put o.dst v) w:=by
 unfold lr at h;split at h
 ·rename_i l;obtain⟨v,st',f,m,i⟩:=(yV e k (fun _=>rfl) q h p n).1 rfl;exact⟨v,st',f,.inl ⟨by simp[Region.wanted,l],m⟩,i⟩
 rename_i j want l;split at h
 ·exact h.elim
 rename_i d hd;obtain⟨c,h,r⟩:=pH k.env hd h;have hw:Region.wanted o (yielded ops a.tmps)=c:=by simp only[Region.wanted,l,r]
 simp only[bU,bG]at h;obtain⟨q1,q2⟩:=yV e k (g:=true) (fun h=>by cases h) q h p n;cases c with
 |true=>
  obtain⟨v,st',f,m,i⟩:=q1 rfl;exact⟨v,st',f,.inl ⟨hw,m⟩,i⟩
 |false=>obtain⟨st',f,i⟩:=q2 rfl;exact⟨undef,st',f,.inr ⟨hw,rfl⟩,i⟩
end Go.Vg
end
section
namespace Go.Vg
variable[Go.Vg.df]
open Go.RowKit
def xH:SO->Option SO
 | .row _ z n f=>some (.row true z n f)
 | .gA _ cs=>some (.gA true cs)
 |_=>none
def freeze(W:List Nat):Nat->dZ->dZ
 |_,[]=>[]
 |i,o::r=>(if W.contains i then o else o.bind xH)::freeze W (i+1) r
def kI(W:List Nat):Nat->dZ->dZ->dZ
 |i,b::c,o::r=>(if W.contains i=false/\b.isSome=true then o else none)::kI W (i+1) c r
 |_,_,r=>r.map fun _=>none
def qM(W:List Nat):Nat->dZ->dZ->dZ
 |i,b::c,o::r=>(if W.contains i then o else b)::qM W (i+1) c r
 |_,_,r=>r
theorem jP(W:List Nat):∀(i:Nat) (c:dZ),(freeze W i c).length=c.length
 |_,[]=>rfl
 |i,o::r=>by simp[freeze,jP W (i+1) r]
theorem pO(W:List Nat):∀(i:Nat) (c0 c:dZ),(kI W i c0 c).length=c.length
 |i,d::b,o::r=>by simp[kI,pO W (i+1) b r]
 |_,[],r=>by simp[kI]
 |_,_::_,[]=>by simp[kI]
theorem r9(W:List Nat):∀(i:Nat) (c0 c:dZ),(qM W i c0 c).length=c.length
 |i,d::b,o::r=>by simp[qM,r9 W (i+1) b r]
 |_,[],r=>by simp[qM]
 |_,_::_,[]=>by simp[qM]
theorem MX(h:Nat):dZ.at [] h=none:=by simp[dZ.at]
theorem vU(W:List Nat):∀(c:dZ) (i h:Nat),dZ.at (freeze W i c) h=if W.contains (i+h)then dZ.at c h else(dZ.at c h).bind xH
 |[],i,h=>by simp[freeze,MX]
 |o::r,i,0=>by simp only[freeze,du,gl]
 |o::r,i,h+1=>by simp only[freeze,dU];rw[vU W r (i+1) h,show i+1+h=i+(h+1)from by omega]
theorem mU{W:List Nat}:∀{c0 c:dZ} {i h:Nat} {o:SO},dZ.at (kI W i c0 c) h=some o->W.contains (i+h)=false/\(dZ.at c0 h).isSome=true/\dZ.at c h=some o
 |f::g,o'::r,i,0,o,e=>by
  simp only[kI,du]at e |-
  split at e
  ·rename_i b;exact⟨by simpa using b.1,b.2,e⟩
  ·cases e
 |f::g,o'::r,i,h+1,o,e=>by
  simp only[kI,dU]at e |-
  have:=mU (i:=i+1) e;rwa[show i+1+h=i+(h+1)from by omega]at this
 |[],r,i,h,o,e=>by
  simp only[kI,dZ.at,aG,cu]at e;cases d:r[h]?<;>simp[d]at e
 |_::_,[],i,h,o,e=>by simp[kI,MX]at e
theorem Lu(W:List Nat):∀(c0 c:dZ) (i h:Nat),c0.length<=c.length->dZ.at (qM W i c0 c) h=if h<c0.length/\W.contains (i+h)=false then dZ.at c0 h else dZ.at c h
 |e::d,o::r,i,0,b=>by
  simp only[qM,du,gl,aK];by_cases hw:W.contains i
  ·rw[aB hw,aA (by rintro⟨_,h⟩;rw[hw]at h;cases h)]
  ·rw[aA hw,aB ⟨by omega,by simpa using hw⟩]
 |e::d,o::r,i,h+1,b=>by
  simp only[qM,dU];rw[Lu W d r (i+1) h (by simpa using b),show i+1+h=i+(h+1)from by omega];simp only[aK,Nat.add_lt_add_iff_right]
 |[],r,i,h,b=>by simp[qM]
 |_::_,[],i,h,b=>by simp at b
theorem wc{σ:ey}{w:World}{h:Nat}{o o':SO}(e:xH o=some o')(f:fh σ w h o):fh σ w h o'/\o'.ro=true:=by
 cases o<;>simp only[xH,db,reduceCtorEq]at e
 all_goals
  subst e;refine⟨?_,rfl⟩;unfold fh at f |-
  simp only[SO.isMap]at f |-
  rcases f with f|⟨L,c,e,fr,m,d⟩
  ·exact .inl f
  exact .inr ⟨L,c,e,fr,m,d.heap,d.Br,d.room,d.fits,d.cell,fun h=>by cases h⟩
inductive Sc where
 |fin
 |q0 (i:Nat) (B:List Nat) (r:Sc)
 |q1 (i:Nat) (r:Sc)
 |sw (r:Sc)
 |de (i:Nat) (r o:Sc)
 |seq (is:List Nat)
 |g (r:Sc)
def kx:Sc->List Nat
 | .de i _ o=>i::kx o
 |_=>[]
def Wu(listed:Array Bool)(i:Nat):Bool:=!listed.getD i true
def waits(ops:Array Oper)(B:List Nat)(b:Nat):Bool:=match ops[b]? with
 |some o=>o.after.any fun e=>Region.binds .any e&&B.contains e.on
 |none=>false
def ld(ops:Array Oper)(wrs:List Nat):Bool->Bool->Sc->Array Bool->Bool
 |hd,_,.fin,listed=>!hd||(Region.ready .any ops listed).isEmpty
 |hd,c,.q0 i B r,listed=>hd&&!c&&Region.free .any ops listed i&&(Region.ready .any ops listed).contains i&&!wrs.contains i&&wrs.all B.contains&&B.all (fun b=>b==i||waits ops B b)&&B.all (Wu listed)&&B.contains i&&ld ops wrs true c r (listed.setIfInBounds i true)
 |hd,c,.q1 i r,listed=>hd&&Region.free .any ops listed i&&(Region.ready .any ops listed).contains i&&!wrs.contains i&&ld ops wrs true c r (listed.setIfInBounds i true)
 |hd,c,.de i r o,listed=>(!hd||(Region.ready .any ops listed==i::kx o))&&(Region.ready .any ops listed).contains i&&(c==wrs.contains i)&&ld ops wrs true c r (listed.setIfInBounds i true)&&ld ops wrs false c o listed
 |hd,_,.sw r,listed=>hd&&ld ops wrs true true r listed
 |_,_,.seq _,_=>false
 |_,_,.g _,_=>false
def sR:Sc->Nat
 | .fin=>0
 | .sw r=>sR r
 | .q0 _ _ r=>sR r+1
 | .q1 _ r=>sR r+1
 | .de _ r o=>max (sR r+1) (sR o)
 | .seq is=>is.length
 | .g r=>sR r
def PT.in(pt:PT)(n:Nat):PT:=⟨pt.l,n,pt.gr⟩
def PT.ng(pt:PT):PT:=⟨pt.l,pt.k,false⟩
def XQ(P:Program)(te:TE)(wr:Bool)(nt:Nat)(pt:PT)(ops:Array Oper)(W:List Nat)(b:dZ)(o:Oper)(K:St->Prop)(st:St):Prop:=
 kv te o.op=true/\lr P te wr nt (pt.in b.length) false ops ⟨st.env,kI W 0 b st.ctx⟩ o fun s=>K ⟨s.env,st.ctx⟩
def XD(P:Program)(te:TE)(wr:Bool)(nt:Nat)(pt:PT)(ops:Array Oper)(W:List Nat)(b:dZ)(K:St->Prop):Bool->Bool->Sc->St->Prop
 |true,c,.fin,st=>da b.length st.ctx/\K ⟨st.env,qM (if c then W else[]) 0 b st.ctx⟩
 |false,_,.fin,_=>True
 |_,c,.q0 i _ r,st=>match ops[i]? with
  |some o=>XQ P te wr nt pt ops [] b o (XD P te wr nt pt ops W b K true c r) st
  |none=>False
 |_,c,.q1 i r,st=>match ops[i]? with
  |some o=>XQ P te wr nt pt ops W b o (XD P te wr nt pt ops W b K true c r) st
  |none=>False
 |_,c,.de i r q,st=>(match ops[i]? with
  |some o=>lr P te wr nt (pt.in b.length) false ops st o (XD P te wr nt pt ops W b K true c r)
  |none=>False)/\XD P te wr nt pt ops W b K false c q st
 |_,c,.sw r,st=>c=false/\da b.length st.ctx/\(W.all fun h=>match b.at h with|some o=>!o.ro|none=>false)=true /\
   XD P te wr nt pt ops W b K true true r ⟨st.env,freeze W 0 b++st.ctx.drop b.length⟩
 |_,_,.seq _,_=>False
 |_,_,.g _,_=>False
def wB(W:List Nat)(c0:dZ)(σ:ey)(b:Nat):Prop:=∃h o L,W.contains h=true/\c0.at h=some o/\o.ro=false/\σ h=some L/\L.b=b
def ya(W:List Nat)(c0:dZ)(σ:ey)(w:World)(nt:Nat)(e gr:Bool):kS:=⟨w,fun b=>e=true/\wB W c0 σ b,σ,c0.length,nt,gr⟩
def WE(σ σ':ey):Prop:=∀b o,σ'.fz b=some o->σ.fz b=some o
theorem grow{σ:ey}{w:World}{W:List Nat}{ctx:dZ}{c gr:Bool}{σ':ey}{s:St}{nt:Nat}{d:Act}{w':World}(e:Rel (ya W ctx σ w nt c gr) σ' s d w'){b:Nat}{o:Obj}(h:σ'.fz b=some o):σ.fz b=some o\/(gr=true/\((c=true/\wB W ctx σ b)\/w.heap.size<=b)):=e.base.LV b o h
theorem UH{σ:ey}{w:World}{W:List Nat}{ctx:dZ}{e:Bool}{σ':ey}{s:St}{nt:Nat}{c:Act}{w':World}(d:Rel (ya W ctx σ w nt e false) σ' s c w'):WE σ σ':=fun b o h=>by
 rcases grow d h with h|⟨h,_⟩
 ·exact h
 cases h
section
variable{A:kS}{σ:ey}{st:St}{a:Act}{w:World}(hR:Rel A σ st a w)(W:List Nat)
include hR
theorem Rel.frozen{gr:Bool}:Rel (ya W st.ctx σ w A.nt false gr) σ ⟨st.env,freeze [] 0 st.ctx⟩ a w:=by
 have key:∀h o,dZ.at (freeze [] 0 st.ctx) h=some o->∃o',st.ctx.at h=some o'/\xH o'=some o:=by
  intro h o e;rw[vU]at e;simp only[List.contains_nil,bU,bG]at e;cases c:st.ctx.at h with
  |none=>rw[c]at e;cases e
  |some o'=>rw[c]at e;exact⟨o',rfl,e⟩
 have ro:∀h o,dZ.at (freeze [] 0 st.ctx) h=some o->o.ro=true:=by intro h o e;obtain⟨o',d,f⟩:=key h o e;exact(wc f (hR.sat.obj h o' d)).2
 refine⟨hR.defers,hR.size,hR.env,⟨fun h o e=>?_,fun h j o o' L i _ g _ b _ _=>?_,fun h c=>hR.sat.beyond h (by simpa[jP]using c),hR.sat.gq,hR.sat.pG,fun h o L e b _=>(by rw[ro h o e]at b;cases b),hR.sat.E0⟩,Fr.refl _ _,fun h o L e b _=>?_,⟨fun _ _=>rfl,fun _ _ h=>h,fun _ _ h=>.inl h⟩, ?_⟩
 ·obtain⟨o',d,f⟩:=key h o e;exact(wc f (hR.sat.obj h o' d)).1
 ·rw[ro h o g]at b;cases b
 ·rw[ro h o e]at b;cases b
 simp[ya,jP]
theorem Nz{b:Nat}{o:Obj}(h:σ.fz b=some o):b<w.heap.size:=by
 have:=hR.sat.pG b o h;rcases aU b w.heap.size with c|c
 ·exact c
 rw[bZ c]at this;cases this
theorem UI{b:Nat}{o:Obj}(h:σ.fz b=some o):¬wB W st.ctx σ b:=by rintro⟨d,i,c,j,e,f,g,rfl⟩;rw[hR.sat.mR d i c e f g]at h;cases h
theorem Hk{h:Nat}{o:SO}{L:Loc}(hw:W.contains h=false)(g:st.ctx.at h=some o)(f:σ h=some L):¬wB W st.ctx σ L.b:=by
 rintro⟨c,n,d,i,j,k,l,m⟩;have b:c≠h:=by intro e;subst e;rw[i]at hw;cases hw
 exact hR.sat.apart c h n o d L b j g k l f m
theorem F6{σ':ey}(e:∀h,h<st.ctx.length->σ' h=σ h)(f:∀b o,σ.fz b=some o->σ'.fz b=some o):mi σ σ':=by
 refine⟨fun h L d=>?_,f⟩;have:h<st.ctx.length:=by
  rcases aU h st.ctx.length with c|c
  ·exact c
  rw[hR.sat.beyond h c]at d;cases d
 rw[e h this,d]
theorem Rel.Pw{gr:Bool}{σ':ey}{s:St}{D:Act}{w':World}(g:Rel (ya W st.ctx σ w A.nt false gr) σ' s D w')(H:da st.ctx.length s.ctx) :
  Rel (ya W st.ctx σ w A.nt true gr) σ' ⟨s.env,freeze W 0 st.ctx++s.ctx.drop st.ctx.length⟩ D w':=by
 have c:∀h,h<st.ctx.length->σ' h=σ h:=g.base.loc;have hle:=F6 hR c g.base.FP;have hlen:st.ctx.length<=s.ctx.length:=g.mq;have p:∀h,dZ.at (freeze W 0 st.ctx++s.ctx.drop st.ctx.length) h=if h<st.ctx.length then dZ.at (freeze W 0 st.ctx) h else dZ.at s.ctx h:=by
  intro h;rw[Js,jP];split
  ·rfl
  simp only[dZ.at,aG,bY];rw[show st.ctx.length+(h-st.ctx.length)=h from by omega]
 have n:∀h o,h<st.ctx.length->dZ.at (freeze W 0 st.ctx) h=some o->∃o',st.ctx.at h=some o'/\fh σ' w' h o/\(o.ro=false->W.contains h=true/\o'.ro=false):=by
  intro h o f e;rw[vU,aX]at e;have stay:∀o',st.ctx.at h=some o'->fh σ' w' h o':=fun o' B=>
   j2 hle (c h f) (fun L l=>g.fr.block _ (hR.sat.gq h L l) (by rintro⟨h,_⟩;cases h)) (hR.sat.obj h o' B)
  split at e
  ·rename_i hw;exact⟨o,e,stay o e,fun d=>⟨hw,d⟩⟩
  cases i:st.ctx.at h with
  |none=>rw[i]at e;cases e
  |some o' =>rw[i]at e;have:=wc e (stay o' i);exact⟨o',rfl,this.1,fun d=>by rw[this.2]at d;cases d⟩
 have new:∀h o L,st.ctx.length<=h->s.ctx.at h=some o->σ' h=some L->w.heap.size<=L.b:=by
  intro h o L f e l;rcases g.own h o L e (H.get f e) l with⟨v,_⟩|v
  ·cases v
  exact v
 have lt:∀h L,h<st.ctx.length->σ' h=some L->L.b<w.heap.size:=fun h L f l=>hR.sat.gq h L (by rw[<-c h f];exact l);refine⟨g.defers,g.size,g.env,⟨fun h o e=>?_,fun h t o o' L z u E F d s1 s2=>?_,fun h f=>?_,g.sat.gq,g.sat.pG,fun h o L e d l=>?_,g.sat.E0⟩,g.fr.mono (fun b _ v=>(by cases v.1)),fun h o L e d l=>?_,⟨g.base.loc,g.base.FP,fun b o h=>(grow g h).imp id fun h=>⟨h.1,.inr (h.2.resolve_left fun h=>by cases h.1)⟩⟩, ?_⟩
 ·have j:dZ.at (freeze W 0 st.ctx++s.ctx.drop st.ctx.length) h=some o:=e;rw[p]at j;split at j
  ·rename_i f;exact(n h o f j).choose_spec.2.1
  exact g.sat.obj h o j
 ·have m:dZ.at (freeze W 0 st.ctx++s.ctx.drop st.ctx.length) h=some o:=E;have k:dZ.at (freeze W 0 st.ctx++s.ctx.drop st.ctx.length) t=some o':=F;rw[p]at m k;split at m
  ·rename_i f;obtain⟨q,q1,q2,r⟩:=n h o f m;obtain⟨r,y⟩:=r d;split at k
   ·rename_i i;obtain⟨J,C,_,_⟩:=n t o' i k;exact hR.sat.apart h t q J L z u q1 C y (by rw[<-c h f];exact s1) (by rw[<-c t i];exact s2)
   rename_i i;have:=new t o' z (by omega) k s2;have:=lt h L f s1;omega
  rename_i f;split at k
  ·rename_i i;have:=new h o L (by omega) m s1;have:=lt t z i s2;omega
  exact g.sat.apart h t o o' L z u m k d s1 s2
 ·refine g.sat.beyond h ?_;have G:(freeze W 0 st.ctx++s.ctx.drop st.ctx.length).length<=h:=f;simp only[aC,jP,bK]at G;show s.ctx.length<=h;omega
 ·have j:dZ.at (freeze W 0 st.ctx++s.ctx.drop st.ctx.length) h=some o:=e;rw[p]at j;split at j
  ·rename_i f;obtain⟨q,q1,q2,r⟩:=n h o f j;obtain⟨r,y⟩:=r d;cases I:σ'.fz L.b with
   |none=>rfl
   |some x=>
    rcases grow g I with this|⟨_,this|this⟩
    ·rw[hR.sat.mR h q L q1 y (by rw[<-c h f];exact l)]at this;cases this
    ·cases this.1
    have:=lt h L f l;omega
  exact g.sat.mR h o L j d l
 ·have j:dZ.at (freeze W 0 st.ctx++s.ctx.drop st.ctx.length) h=some o:=e;rw[p]at j;split at j
  ·rename_i f;obtain⟨q,q1,q2,r⟩:=n h o f j;obtain⟨r,y⟩:=r d;exact .inl ⟨rfl,h,q,L,r,q1,y,by rw[<-c h f];exact l,rfl⟩
  rename_i f;exact .inr (new h o L (by omega) j l)
 show st.ctx.length<=(freeze W 0 st.ctx++_).length;simp[jP]
end
end Go.Vg
end
