/- Own text: part VAF. -/
import Derived.Test.YtgippllfnmdnpaaGreatDoorVAE
set_option linter.all false
section
namespace Go.Vg
variable[Go.Vg.df]
open Go.RowKit
def U1(pre:dZ)(σ:ey)(b:Nat):Prop:=∃h o L,pre.at h=some o/\o.ro=false/\σ h=some L/\L.b=b
structure DE(k:Nat)(pre:dZ)(σ:ey)(w:World)(z:SV)(v:Value)(c:dZ)(σ':ey)(w':World):Prop where
 val:rel σ' z v
 sat:Sat σ' w' c
 len:pre.length<=c.length
 base:∀h,h<k->σ' h=σ h
 fr:Fr (U1 pre σ) w w'
 own:∀h o L,c.at h=some o->o.ro=false->σ' h=some L->U1 pre σ L.b\/w.heap.size<=L.b
 new:∀h o,k<=h->c.at h=some o->o.ro=false
 FP:∀b o,σ.fz b=some o->σ'.fz b=some o
 LV:∀b o,σ'.fz b=some o->σ.fz b=some o\/U1 pre σ b\/w.heap.size<=b
def gQ(P:Program)(f:FuncId)(k:Nat)(args:List SV)(pre:dZ)(Q:SV->dZ->Prop):Prop:=
 mK P f/\∀(w:World) (σ:ey) (vs:Array Value),Sat σ w pre->dm σ args vs.toList ->
  Calls P f vs w fun e w'=>∃v z c σ',e=.returned v/\Q z c/\DE k pre σ w z v c σ' w'
theorem gQ.mono{P:Program}{f:FuncId}{k:Nat}{args:List SV}{pre:dZ}{Q a:SV->dZ->Prop}(h:gQ P f k args pre Q)(l:∀z c,Q z c->a z c):gQ P f k args pre a:=
 ⟨h.1,fun w σ vs i j=>(h.2 w σ vs i j).mono fun e w' ⟨v,z,c,σ',b,d,g⟩=>⟨v,z,c,σ',b,l _ _ d,g⟩⟩
def entry:Nat->List SV->List (Tmp×SV)
 |_,[]=>[]
 |i,x::xs=>(i,x)::entry (i+1) xs
theorem zG:∀(l:List SV) (i t:Nat),look (entry i l) t=if i<=t/\t<i+l.length then l.getD (t-i) .u else .u
 |[],i,t=>by simp[look,entry]
 |x::xs,i,t=>by
  simp only[look,entry];by_cases h:i=t
  ·subst h;simp
  rw[aA h,zG xs (i+1) t];by_cases a:i<=t/\t<i+(x::xs).length
  ·obtain⟨k,rfl⟩:∃k,t=i+1+k:=⟨t-i-1,by omega⟩
   simp only[aK]at a;rw[aB (by omega),aB (by simp only[aK];omega)];rw[show i+1+k-(i+1)=k from by omega,show i+1+k-i=k+1 from by omega];simp
  simp only[aK]at a;rw[aA (by omega),aA (by simp only[aK];omega)]
def da(k:Nat)(c:dZ):Prop:=((c.drop k).all fun o=>match o with|some x=>!x.ro|none=>true)=true
theorem da.get{k:Nat}{c:dZ}(h:da k c){j:Nat}{o:SO}(q:k<=j)(f:c.at j=some o):o.ro=false:=by
 unfold da at h;rw[cx]at h;have d:j<c.length:=by
  rcases aU j c.length with g|g
  ·exact g
  rw[dZ.at,aG,cw g]at f;cases f
 have hm:(some o)∈c.drop k:=by refine dJ (i:=j-k) ?_;rw[bY,show k+(j-k)=j from by omega,aS d];rw[dZ.at,aG,aS d]at f;simpa using f
 have:=h _ hm;simpa using this
theorem gQ.WC{cf:Cf}(B:cf.ok){f:FuncId}{fn:Func}{c:Code}(J:cf.P.funcs[f]?=some fn)(I:fn.body=some c)(l:(fn.name == "runtime.NumGoroutine")=false)(R:fn.ntmps=cf.nt){args:List SV}{pre:dZ}(hlen:args.length<=cf.nt)(O:cf.k<=pre.length){rs:List ResultVar}(E:fn.results.toList=rs){Q:SV->dZ->Prop}{F:St->Prop}(M:∀(A:kS) (σ:ey) (st:St) (a:Act) (w:World),A.k=cf.k->A.gr=true->F st->Rel A σ st a w->∃z v c r,Q z c/\(results fn a.tmps).run cf.P w=.ok v w/\rel r z v/\Rel A r ⟨[],c⟩ a w/\da cf.k c/\pre.length<=c.length)(n:Nat)(h:vc cf F n [.code c] ⟨entry 0 args,pre⟩):gQ cf.P f cf.k args pre Q:=by
 subst E;refine⟨⟨fn,J,by simp[I],l⟩,fun w σ vs p g=>?_⟩;have C:=fv g;simp only[ds]at C
 let A:kS:=⟨w,U1 pre σ,σ,cf.k,cf.nt,true⟩
 let a:Act:={ tmps:=vs++Array.replicate (fn.ntmps-vs.size) undef,defers:=[] }
 have N:Rel A σ ⟨entry 0 args,pre⟩ a w:=by
  refine⟨rfl, ?_,fun t=>?_,p,Fr.refl _ _,fun h o L i k K=>.inl ⟨h,o,L,i,k,K,rfl⟩,⟨fun _ _=>rfl,fun _ _ h=>h,fun _ _ h=>.inl h⟩,O⟩
  ·simp[a,A];omega
  rw[zG];split
  ·rename_i G;simp only[aX]at G;obtain⟨v,u,D⟩:=ja g (j:=t) (x:=args[t]) (by simp[G.2]);have i:args.getD (t-0) .u=args[t]:=by simp[aG,aS G.2]
   rw[i];have k:a.tmps.getD t undef=v:=by rw[Array.getElem?_toList]at u;simp only[a];rw[fj,Array.getElem?_append_left (by omega),u];rfl
   rw[k];exact D
  simp[rel]
 refine calls_of_wp J I ?_;have m:=Qj B (A:=A) rfl rfl rfl n _ _ _ _ _ h N;simp only[KP]at m;refine wp_mono m fun e s w' he=>?_;have fin:∀σ' st',(F st'/\Rel A σ' st' s w')->s.defers=[]/\∃v,(results fn s.tmps).run cf.P w'=.ok v w' /\
   ∃q z c σ',Ending.returned v=Ending.returned q/\Q z c/\DE cf.k pre σ w z q c σ' w':=by
  intro H st' ⟨S,y⟩;obtain⟨z,v,c,σ',T,u,D,d,P,C⟩:=M A H st' s w' rfl rfl S y;exact⟨d.defers,v,u,v,z,_,σ',rfl,T,D,d.sat,C,d.base.loc,d.fr,d.own,fun h o i k=>P.get i k,d.base.FP,fun b o h=>(d.base.LV b o h).imp id And.right⟩
 cases e with
 |normal=>
  simp only[KP]at he;obtain⟨σ',st',i,k⟩:=he;exact fin σ' st' ⟨i,k⟩
 |ret=>
  simp only[KP]at he;obtain⟨σ',st',i,k⟩:=he;exact fin σ' st' ⟨i,k⟩
 |_=>simp only[KP]at he
theorem gQ.of{cf:Cf}(e:cf.ok){f:FuncId}{fn:Func}{c:Code}(m:cf.P.funcs[f]?=some fn)(l:fn.body=some c)(d:(fn.name == "runtime.NumGoroutine")=false)(i:fn.ntmps=cf.nt){args:List SV}{pre:dZ}(hlen:args.length<=cf.nt)(o:cf.k<=pre.length){rs:List ResultVar}(g:fn.results.toList=rs){Q:SV->dZ->Prop}(n:Nat)(h:vc cf (fun st=>sN cf.te st Q rs []/\da cf.k st.ctx/\pre.length<=st.ctx.length) n [.code c] ⟨entry 0 args,pre⟩):gQ cf.P f cf.k args pre Q:=by refine gQ.WC e m l d i hlen o g (fun A σ st a w _ _ k b=>?_) n h;obtain⟨j,q,p⟩:=k;rw[<-g]at j;obtain⟨z,v,u,s,r⟩:=qb (P:=cf.P) e.te b j;exact⟨z,v,_,σ,u,s,r,⟨b.defers,b.size,fun t=>by simp[look,rel],b.sat,b.fr,b.own,b.base,b.mq⟩,q,p⟩
theorem qq{σ:ey}{w:World}{n:Nat}{ctx:dZ}(f:Sat σ w ctx){b:Nat}{o:Obj}(d:σ.fz b=some o):(if n<=b then w.heap[b]? else σ.fz b)=some o:=by
 split
 ·exact f.pG b o d
 exact d
mutual
theorem JU{σ:ey}{w:World}{n:Nat}{ctx:dZ}(m:Sat σ w ctx)(p:∀h o L,ctx.at h=some o->o.ro=false->σ h=some L->n<=L.b)(s:∀h o,ctx.at h=some o->o.ro=false) :
  ∀{x:SV} {v:Value},jf ctx x->(jX ctx x).plain=true->rel σ x v->rel ⟨fun _=>none,fun b=>if n<=b then w.heap[b]? else σ.fz b⟩ (jX ctx x) v
 | .ew h t len,v,k,hp,d=>by
  have N:=d;simp only[jX]at hp |-
  simp only[jf]at k;split at hp
  ·rename_i ro sz Q f r;rw[r]at k;obtain⟨P,A⟩:=k;simp only[rel]at d |-
   obtain⟨a,cap,rfl,M,d⟩:=d;have hlen:(jd f t len).length=len:=by simp[jd]
   refine⟨a,cap,by rw[hlen],by rw[hlen];exact M, ?_⟩;by_cases I:len=0
   ·left;subst I;rfl
   right;rcases d with d|⟨L,y,rfl,K⟩
   ·omega
   have q:=m.obj h _ r;unfold fh at q;simp only[SO.isMap]at q;rcases q with⟨_,J⟩|⟨O,c,e,fr,u,z⟩
   ·rw[J]at y;cases y
   rw[u]at y;cases y;have C:L.sz=sz:=z.Br;have B:n<=L.b:=p h _ L r (s h _ r) u;refine⟨L.b,L.sh+t*L.sz+0,c,e,fr,rfl,by simp only[aB B];exact z.heap,l3 fun j x G=>?_⟩;have F:j<len:=by rw[<-hlen];exact(cM.1 G).1
   have D:x=f (t+j):=by simpa[jd,F]using G.symm
   subst D;obtain⟨E,H⟩:=A j F;refine⟨E, ?_⟩;have:=Jz z (i:=t+j) (by omega) E;rw[List.drop_drop,C,show L.sh+t*sz+0+j*sz=L.sh+(t+j)*sz by rw[eR];omega];exact lJ (fun b o g=>qq m g) H this
  ·simp[SV.plain]at hp
 | .agg l,v,k,hp,d=>by
  simp only[jX,jf,SV.plain,rel]at k hp d |-
  obtain⟨cs,e,d⟩:=d;exact⟨cs,e,zs m p s k hp d⟩
 | .fJ l,v,k,hp,d=>by
  simp only[jX,jf,SV.plain,rel]at k hp d |-
  obtain⟨cs,e,d⟩:=d;exact⟨cs,e,zs m p s k hp d⟩
 | .b _,_,_,hp,d=>eK (fun b o g=>qq m g) hp d
 | .i _ _,_,_,hp,d=>eK (fun b o g=>qq m g) hp d
 | .s _,_,_,hp,d=>eK (fun b o g=>qq m g) hp d
 | .ptr _ _ _,_,_,hp,d=>eK (fun b o g=>qq m g) hp d
 | .cQ,_,_,hp,d=>eK (fun b o g=>qq m g) hp d
 | .mp _,_,_,hp,d=>eK (fun b o g=>qq m g) hp d
 | .fn _,_,_,hp,d=>eK (fun b o g=>qq m g) hp d
 | .gd _ _,_,_,hp,d=>eK (fun b o g=>qq m g) hp d
 | .u,_,_,hp,d=>eK (fun b o g=>qq m g) hp d
 | .fs _ _,_,_,hp,d=>eK (fun b o g=>qq m g) hp d
 | .fp _ _,_,_,hp,d=>eK (fun b o g=>qq m g) hp d
theorem zs{σ:ey}{w:World}{n:Nat}{ctx:dZ}(g:Sat σ w ctx)(a:∀h o L,ctx.at h=some o->o.ro=false->σ h=some L->n<=L.b)(d:∀h o,ctx.at h=some o->o.ro=false) :
  ∀{x:List SV} {v:List Value},iJ ctx x->eJ (iT ctx x)=true->dm σ x v->dm ⟨fun _=>none,fun b=>if n<=b then w.heap[b]? else σ.fz b⟩ (iT ctx x) v
 |[],_,_,_,f=>by simpa[dm,iT]using f
 |x::xs,_,c,hp,f=>by
  simp only[dm,iT,eJ,iJ,aD]at c hp f |-
  obtain⟨v,q,e,i,j⟩:=f;exact⟨v,q,e,JU g a d c.1 hp.1 i,zs g a d c.2 hp.2 j⟩
end
def W5(P:Program)(f:FuncId)(args:List SV)(z:SV):Prop:=gQ P f 0 args [] fun g c=>jf c g/\jX c g=z
def PF(P:Program)(f:FuncId)(args:List SV)(z:SV):Prop:=eJ args=true/\z.plain=true/\W5 P f args z
theorem RH(w:World){fz:Nat->Option Obj}(h:∀b o,fz b=some o->w.heap[b]?=some o)(a:∀b o,df.g b=some o->fz b=some o):Sat ⟨fun _=>none,fz⟩ w []:=
 ⟨fun h o e=>(by simp[dZ.at]at e),fun h d o o' L c _ e=>(by simp[dZ.at]at e),fun _ _=>rfl,fun _ _ e=>(by cases e),h,fun h o L e=>(by simp[dZ.at]at e),a⟩
theorem rl{σ:ey}{b:Nat}:¬U1 [] σ b:=by rintro⟨h,o,L,g,_⟩;simp[dZ.at]at g
theorem Ih{pre:dZ}{σ:ey}{w:World}{z:SV}{v:Value}{c:dZ}{σ':ey}{w':World}(p:DE 0 pre σ w z v c σ' w')(j:jf c z)(hp:(jX c z).plain=true)(f:pre=[]):∃i,DE 0 pre σ w (jX c z) v [] i w':=by
 subst f;have d:∀b o,σ'.fz b=some o->w'.heap[b]?=some o:=p.sat.pG;refine⟨⟨fun _=>none,fun b=>if w.heap.size<=b then w'.heap[b]? else σ'.fz b⟩, ?_, ?_,aN _,fun h n=>absurd n (aT _),p.fr,fun h o L e=>by simp[dZ.at]at e,fun h o _ e=>by simp[dZ.at]at e,fun b o a=>?_,fun b o a=>?_⟩
 ·-- q value,by blocks k m new or l frozen
  exact JU p.sat (fun h o L e r s=>(p.own h o L e r s).resolve_left rl) (fun h o e=>p.new h o (bF _) e) j hp p.val
 ·refine⟨fun h o e=>(by simp[dZ.at]at e),fun h u o o' L t _ e=>(by simp[dZ.at]at e),fun _ _=>rfl,fun _ _ e=>(by cases e),fun b o a=>?_,fun h o L e=>(by simp[dZ.at]at e),fun b o a=>?_⟩;simp only at a;split at a
  ·exact a
  ·exact d b o a
  have g:=p.sat.E0 b o a;simp only;split
  ·exact d b o g
  exact g
 ·simp only;split
  ·exact d b o (p.FP b o a)
  exact p.FP b o a
 simp only at a;split at a
 ·rename_i h;exact .inr (.inr h)
 exact p.LV b o a
theorem PF.call{P:Program}{f:FuncId}{args:List SV}{z:SV}(h:PF P f args z):jv P f args z:=by
 obtain⟨u,l,k,x⟩:=h;refine⟨k,u,l,fun fz w vs m n g=>?_⟩;refine(x w ⟨fun _=>none,fz⟩ vs (RH w m n) g).mono fun e w' ⟨v,y,c,σ',r,⟨s,t⟩,p⟩=>?_;subst t;obtain⟨a,p⟩:=Ih p s l rfl;exact⟨v,a.fz,r,eK (σ:=a) (σ':=⟨fun _=>none,a.fz⟩) (fun _ _ h=>h) l p.val,p.fr.mono fun b _ k=>(rl k).elim,p.FP,p.sat.pG,
  fun b o k=>(p.LV b o k).imp id fun h=>h.resolve_left rl⟩
def SO.bP(μ:Nat->Nat):SO->SO
 | .row r z n f=>.row r z n fun i=>hZ μ (f i)
 | .gA r cs=>.gA r (hZ μ cs)
 |o=>o
structure nz(μ:Nat->Nat)(o0 o:SO):Prop where
 ro:o0.ro=false->o.ro=false
 isMap:o0.isMap=o.isMap
 sz:o0.sz=o.sz
 n:o0.n<=o.n
 tq:o0.tq=o.tq
 el:∀i,i<o0.n->hZ μ (o0.el i)=o.el i
def dX(l:List Nat)(m:Nat)(h:Nat):Nat:=match l[h]? with
 |some g=>g
 |none=>m+(h-l.length)
def jx(μ:Nat->Nat)(ctx:dZ):List Nat->dZ->Prop
 |[],[]=>True
 |g::l,a::pre=>g<ctx.length/\(match a with
  |none=>False
  |some a=>match ctx.at g with
   |some o=>nz μ a o
   |none=>False)/\jx μ ctx l pre
 |_,_=>False
def Ea(l:List Nat)(pre:dZ):Prop:=(pre.all fun o=>match o with|some x=>x.ro|none=>true)=true\/l.Nodup
def uq(μ:Nat->Nat):List Nat->dZ->dZ->dZ->dZ
 |g::l,some o::pre,x::c,ctx=>uq μ l pre c (if o.ro=false then ctx.set g (x.map (SO.bP μ))else ctx)
 |_::l,none::pre,_::c,ctx=>uq μ l pre c ctx
 |_,_,_,ctx=>ctx
theorem dU(x:Option SO)(c:dZ)(h:Nat):dZ.at (x::c) (h+1)=dZ.at c h:=by simp[dZ.at]
theorem du(x:Option SO)(c:dZ):dZ.at (x::c) 0=x:=by simp[dZ.at]
theorem Jt{c:dZ}{i j:Nat}{x:Option SO}:dZ.at (c.set i x) j=if i=j/\i<c.length then x else dZ.at c j:=by
 simp only[dZ.at,aG,gE];by_cases h:i=j
 ·subst h;by_cases a:i<c.length
  ·simp[a]
  simp[a,cw (Nat.le_of_not_lt a)]
 simp[h]
theorem qk(μ:Nat->Nat):∀(l:List Nat) (pre c ctx:dZ),(uq μ l pre c ctx).length=ctx.length
 |[],_,_,_=>by simp[uq]
 |_::_,[],_,_=>by simp[uq]
 |_::_,some _::_,[],_=>by simp[uq]
 |_::_,none::_,[],_=>by simp[uq]
 |g::l,some o::pre,x::c,ctx=>by
  simp only[uq];rw[qk μ l pre c];split<;>simp
 |g::l,none::pre,x::c,ctx=>by simp only[uq];rw[qk μ l pre c]
theorem EW(μ:Nat->Nat)(g:Nat):∀(l:List Nat) (pre c ctx:dZ),(∀h o,l[h]?=some g->dZ.at pre h=some o->o.ro=true)->dZ.at (uq μ l pre c ctx) g=dZ.at ctx g
 |[],_,_,_,_=>by simp[uq]
 |_::_,[],_,_,_=>by simp[uq]
 |_::_,some _::_,[],_,_=>by simp[uq]
 |_::_,none::_,[],_,_=>by simp[uq]
 |f::l,some o::pre,x::c,ctx,a=>by
  simp only[uq];rw[EW μ g l pre c _ fun h o b d=>a (h+1) o (by simpa using b) (by rw[dU];exact d)];split
  ·rename_i e;rw[Jt];rw[aA];rintro⟨rfl,_⟩;have:=a 0 o rfl (du _ _);rw[e]at this;cases this
  ·rfl
 |f::l,none::pre,x::c,ctx,a=>by simp only[uq];exact EW μ g l pre c _ fun h o b d=>a (h+1) o (by simpa using b) (by rw[dU];exact d)
theorem Ja(μ:Nat->Nat){g:Nat}{o:SO}(f:o.ro=false):∀(l:List Nat) (pre c ctx:dZ) (h:Nat),l.Nodup->l[h]?=some g->dZ.at pre h=some o->g<ctx.length->h<c.length->dZ.at (uq μ l pre c ctx) g=(dZ.at c h).map (SO.bP μ)
 |[],_,_,_,h,_,b,_,_,_=>by simp at b
 |_::_,[],_,_,h,_,_,a,_,_=>by simp[dZ.at]at a
 |_::_,some _::_,[],_,h,_,_,_,_,d=>by simp at d
 |_::_,none::_,[],_,h,_,_,_,_,d=>by simp at d
 |j::l,some o'::pre,x::c,ctx,0,e,b,a,i,d=>by
  simp only[uq];simp at b;subst b;rw[du]at a;cases a;rw[EW μ j l pre c _ fun h o b a=>?_]
  ·rw[aB f,Jt,aB ⟨rfl,i⟩,du]
  ·rw[List.nodup_cons]at e;exact absurd (dJ b) e.1
 |j::l,none::pre,x::c,ctx,0,e,b,a,i,d=>by
  rw[du]at a;cases a
 |j::l,some o'::pre,x::c,ctx,h+1,e,b,a,i,d=>by
  simp only[uq];rw[dU]at a;rw[dU];rw[List.nodup_cons]at e;exact Ja μ f l pre c _ h e.2 (by simpa using b) a (by split<;>simpa using i) (by simpa using d)
 |j::l,none::pre,x::c,ctx,h+1,e,b,a,i,d=>by simp only[uq];rw[dU]at a;rw[dU];rw[List.nodup_cons]at e;exact Ja μ f l pre c _ h e.2 (by simpa using b) a i (by simpa using d)
def lB(μ:Nat->Nat)(l:List Nat)(pre c ctx:dZ):dZ:=uq μ l pre c ctx++(c.drop pre.length).map fun o=>o.map (SO.bP μ)
theorem tn{μ:Nat->Nat}{ctx:dZ}:∀{l:List Nat} {pre:dZ},jx μ ctx l pre->l.length=pre.length/\∀h g,l[h]?=some g->g<ctx.length/\(dZ.at pre h).isSome=true/\∀c,dZ.at pre h=some c->∃o,ctx.at g=some o/\nz μ c o
 |[],[],_=>⟨rfl,fun h g b=>by simp at b⟩
 |g::l,c::pre,hm=>by
  simp only[jx]at hm;obtain⟨i,a,j⟩:=hm;obtain⟨m,k⟩:=tn j;refine⟨by simp[m],fun h f b=>?_⟩;cases h with
  |zero=>
   simp at b;subst b;refine⟨i,by rw[du];cases c with|none=>exact a.elim|some _=>rfl,fun n d=>?_⟩;rw[du]at d;subst d;simp only at a;split at a
   ·rename_i o e;exact⟨o,e,a⟩
   ·exact a.elim
  |succ h=>
   rw[dU];exact k h f (by simpa using b)
 |[],_::_,h=>by simp[jx]at h
 |_::_,[],h=>by simp[jx]at h
theorem T6{σ:ey}{a b:List (SV×SV)}(h:a=b){es:List MapEntry}(r:fZ σ b es):fZ σ a es:=h▸r
theorem zt(μ:Nat->Nat)(l:List SV)(k:Nat):(hZ μ l).getD k .u=(l.getD k .u).bP μ:=by rw[zJ];simp only[aG,cu];cases l[k]?<;>simp[SV.bP]
theorem SO.LR(μ:Nat->Nat)(o:SO):(o.bP μ).tq=o.tq:=by cases o<;>rfl
theorem SO.yJ(μ:Nat->Nat)(o:SO):(o.bP μ).ro=o.ro:=by cases o<;>rfl
theorem SO.Ij(μ:Nat->Nat)(o:SO):(o.bP μ).isMap=o.isMap:=by cases o<;>rfl
theorem SO.Io(μ:Nat->Nat)(o:SO):(o.bP μ).n=o.n:=by cases o<;>rfl
theorem SO.yO(μ:Nat->Nat)(o:SO):(o.bP μ).sz=o.sz:=by cases o<;>simp[SO.bP,SO.sz,zJ]
theorem SO.QI(μ:Nat->Nat)(o:SO)(i:Nat):(o.bP μ).el i=hZ μ (o.el i):=by cases o<;>simp[SO.bP,SO.el,hZ]
theorem pF{σ σ':ey}:∀{l:List (SV×SV)} {es:List MapEntry},(∀p∈l,p.1.bit=true/\p.2.bit=true)->fZ σ l es->fZ σ' l es
 |[],_,_,h=>by simpa[fZ]using h
 |p::ps,es,hp,h=>by
  simp only[fZ]at h |-
  obtain⟨e,r,a,b,c,d⟩:=h;exact⟨e,r,a,sy (hp p (by simp)).1 b,sy (hp p (by simp)).2 c,pF (fun q f=>hp q (by simp[f])) d⟩
theorem SO.pE(o:SO):∀p∈o.tq,p.1.bit=true/\p.2.bit=true:=by
 cases o<;>simp[SO.tq]
 all_goals(intros;subst_vars;simp[SV.bit])
theorem Md{σ σ0:ey}{μ:Nat->Nat}(b:∀h,σ (μ h)=σ0 h)(j:σ0.fz=σ.fz){w:World}{h:Nat}{o:SO}(g:fh σ0 w h o):fh σ w (μ h) (o.bP μ):=by
 have e:σ0=σ.yp μ:=by obtain⟨s,f0⟩:=σ0;simp only[ey.yp,ey.mk.injEq];exact⟨funext fun h=>(b h).symm,j⟩
 unfold fh at g |-
 rw[SO.Ij];cases hm:o.isMap with
 |true=>
  rw[hm]at g;obtain⟨L,es,p,d,a,q⟩:=g;refine⟨L,es,p,(b h).trans d,a, ?_⟩;rw[SO.LR];exact pF o.pE q
 |false=>
  rw[hm]at g;rcases g with⟨d,a⟩|⟨L,c,el,fr,d,a⟩
  ·exact .inl ⟨by rw[SO.Io];exact d,(b h).trans a⟩
  refine .inr ⟨L,c,el,fr,(b h).trans d,a.heap,by rw[SO.yO];exact a.Br,a.room,by rw[SO.Io,SO.yO];exact a.fits,fun i k l m=>?_,fun n=>a.free (by rw[SO.yJ]at n;exact n)⟩;rw[SO.Io]at l;rw[SO.yO]at m;obtain⟨v,r,f⟩:=a.cell i k l m;rw[SO.yO];refine⟨v,r, ?_⟩;rw[SO.QI,zt,lb];exact e▸f
theorem xO{σ σ0:ey}{μ:Nat->Nat}(b:∀h,σ (μ h)=σ0 h)(j:σ0.fz=σ.fz){w:World}{h:Nat}{n o:SO}(hle:nz μ n o)(f:fh σ w (μ h) o):fh σ0 w h n:=by
 have e:σ0=σ.yp μ:=by obtain⟨t,f0⟩:=σ0;simp only[ey.yp,ey.mk.injEq];exact⟨funext fun h=>(b h).symm,j⟩
 unfold fh at f |-
 rw[hle.isMap];cases hm:o.isMap with
 |true=>
  rw[hm]at f;obtain⟨L,es,p,g,a,q⟩:=f;refine⟨L,es,p,(b h).symm.trans g,a, ?_⟩;rw[hle.tq];exact pF o.pE q
 |false=>
  rw[hm]at f;rcases f with⟨g,a⟩|⟨L,c,el,fr,g,a⟩
  ·exact .inl ⟨by have:=hle.n;omega,(b h).symm.trans a⟩
  refine .inr ⟨L,c,el,fr,(b h).symm.trans g,a.heap,by rw[hle.sz];exact a.Br,a.room,by rw[hle.sz];exact cv (cN _ hle.n) a.fits,fun i k l m=>?_,fun r=>a.free (hle.ro r)⟩;rw[hle.sz]at m;obtain⟨v,s,d⟩:=a.cell i k (dA l hle.n) m;rw[hle.sz];refine⟨v,s, ?_⟩;rw[<-hle.el i l,zt,lb]at d;exact e▸d
end Go.Vg
end
section
namespace Go.Vg
variable[Go.Vg.df]
open Go.RowKit
theorem Js(a b:dZ)(g:Nat):dZ.at (a++b) g=if g<a.length then dZ.at a g else dZ.at b (g-a.length):=by simp only[dZ.at,aG,fc];split<;>rfl
theorem Fw(μ:Nat->Nat)(c:dZ)(k j:Nat):dZ.at ((c.drop k).map fun o=>o.map (SO.bP μ)) j=(dZ.at c (k+j)).map (SO.bP μ):=by simp only[dZ.at,aG,cu,bY];cases c[k+j]?<;>simp
mutual
def ma(B:List Nat):SV->Bool
 | .ptr h _ _=>!B.contains h
 | .ew h _ _=>!B.contains h
 | .mp h=>!B.contains h
 | .agg l=>kQ B l
 | .fJ l=>kQ B l
 | .gd _ x=>ma B x
 |_=>true
def kQ(B:List Nat):List SV->Bool
 |[]=>true
 |x::xs=>ma B x&&kQ B xs
end
theorem zV{B:List Nat}:∀{l:List SV},kQ B l=true->∀k,ma B (l.getD k .u)=true
 |[],_,k=>by simp[ma]
 |x::xs,h,k=>by
  simp only[kQ,aD]at h;cases k with
  |zero=>simpa using h.1
  |succ k=>simpa using zV h.2 k
mutual
theorem D7:∀(x:SV),ma [] x=true
 | .ptr _ _ _=>by simp[ma]
 | .ew _ _ _=>by simp[ma]
 | .mp _=>by simp[ma]
 | .agg l=>by simp only[ma];exact mX l
 | .fJ l=>by simp only[ma];exact mX l
 | .gd _ x=>by simp only[ma];exact D7 x
 | .b _=>rfl
 | .i _ _=>rfl
 | .s _=>rfl
 | .cQ=>rfl
 | .fn _=>rfl
 | .u=>rfl
 | .fs _ _=>rfl
 | .fp _ _=>rfl
theorem mX:∀(x:List SV),kQ [] x=true
 |[]=>rfl
 |x::xs=>by simp only[kQ,D7 x,mX xs,Bool.and_self]
end
mutual
theorem yH{σ σ':ey}{B:List Nat}(c:∀h L,B.contains h=false->σ h=some L->σ' h=some L)(d:∀b o,σ.fz b=some o->σ'.fz b=some o):∀{x:SV} {v:Value},ma B x=true->rel σ x v->rel σ' x v
 | .b _,_,_,r=>by simpa[rel]using r
 | .i _ _,_,_,r=>by simpa[rel]using r
 | .s _,_,_,r=>by simpa[rel]using r
 | .cQ,_,_,r=>by simpa[rel]using r
 | .fn _,_,_,r=>by simpa[rel]using r
 | .u,_,_,r=>by simp[rel]
 | .ptr _ _ _,_,h,r=>by
  simp only[ma,aR]at h;simp only[rel]at r |-
  obtain⟨L,e,r⟩:=r;exact⟨L,c _ _ h e,r⟩
 | .ew _ _ _,_,h,r=>by
  simp only[ma,aR]at h;simp only[rel]at r |-
  obtain⟨a,cap,e,f,r⟩:=r;exact⟨a,cap,e,f,r.imp id fun⟨L,e,r⟩=>⟨L,c _ _ h e,r⟩⟩
 | .mp _,_,h,r=>by
  simp only[ma,aR]at h;simp only[rel]at r |-
  obtain⟨L,e,r⟩:=r;exact⟨L,c _ _ h e,r⟩
 | .fs sz l,_,_,r=>eK d (x:=.fs sz l) rfl r
 | .fp l k,_,_,r=>eK d (x:=.fp l k) rfl r
 | .agg l,_,h,r=>by
  simp only[rel,ma]at r h |-
  obtain⟨cs,e,r⟩:=r;exact⟨cs,e,AR c d h r⟩
 | .fJ l,_,h,r=>by
  simp only[rel,ma]at r h |-
  obtain⟨cs,e,r⟩:=r;exact⟨cs,e,AR c d h r⟩
 | .gd _ x,_,h,r=>by
  simp only[rel,ma]at r h |-
  exact⟨fun g=>yH c d h (r.1 g),r.2⟩
theorem AR{σ σ':ey}{B:List Nat}(a:∀h L,B.contains h=false->σ h=some L->σ' h=some L)(c:∀b o,σ.fz b=some o->σ'.fz b=some o):∀{x:List SV} {v:List Value},kQ B x=true->dm σ x v->dm σ' x v
 |[],_,_,r=>by simpa[dm]using r
 |_::_,_,h,r=>by
  simp only[dm,kQ,aD]at r h |-
  obtain⟨v,q,e,d,f⟩:=r;exact⟨v,q,e,yH a c h.1 d,AR a c h.2 f⟩
end
def jw(B:List Nat):SO->Prop
 | .row _ _ n f=>∀i,i<n->kQ B (f i)=true
 | .gA _ cs=>kQ B cs=true
 |_=>True
theorem Iy{σ σ':ey}{B:List Nat}(u:∀h L,B.contains h=false->σ h=some L->σ' h=some L)(x:∀b o,σ.fz b=some o->σ'.fz b=some o){w w':World}{h:Nat}{o:SO}(d:jw B o)(j:σ' h=σ h)(m:∀L,σ h=some L->w'.heap[L.b]?=w.heap[L.b]?)(g:fh σ w h o):fh σ' w' h o:=by
 unfold fh at *;cases hm:o.isMap with
 |true=>
  rw[hm]at g;obtain⟨L,es,r,g1,g2,g3⟩:=g;exact⟨L,es,r,j.trans g1,(m L g1).trans g2,pF o.pE g3⟩
 |false=>
  rw[hm]at g;rcases g with⟨g1,g2⟩|⟨L,c,e,fr,g1,g2⟩
  ·exact .inl ⟨g1,j.trans g2⟩
  refine .inr ⟨L,c,e,fr,j.trans g1,⟨(m L g1).trans g2.heap,g2.Br,g2.room,g2.fits,fun i k p y=>?_,g2.free⟩⟩;obtain⟨v,s,t⟩:=g2.cell i k p y;refine⟨v,s,yH u x ?_ t⟩;cases o with
  |row ro sz n f=>exact zV (d i p) k
  |gA ro cs=>exact zV d k
  |jY l=>cases hm
  |nE l=>cases hm
def lh:List Nat->dZ->List Nat
 |g::l,some o::pre=>if o.ro then lh l pre else g::lh l pre
 |_::l,none::pre=>lh l pre
 |_,_=>[]
theorem vC:∀{l:List Nat} {pre:dZ} {g:Nat},g∈lh l pre->∃h o,l[h]?=some g/\dZ.at pre h=some o/\o.ro=false
 |[],_,g,h=>by simp[lh]at h
 |_::_,[],g,h=>by simp[lh]at h
 |e::l,some o::pre,g,h=>by
  simp only[lh]at h;split at h
  ·obtain⟨j,p,a,b,c⟩:=vC h;exact⟨j+1,p,by simpa using a,by rw[dU];exact b,c⟩
  ·rename_i d;rcases eA.1 h with rfl|h
   ·exact⟨0,o,rfl,du _ _,by simpa using d⟩
   ·obtain⟨j,p,a,b,c⟩:=vC h;exact⟨j+1,p,by simpa using a,by rw[dU];exact b,c⟩
 |e::l,none::pre,g,h=>by simp only[lh]at h;obtain⟨j,p,a,b,c⟩:=vC h;exact⟨j+1,p,by simpa using a,by rw[dU];exact b,c⟩
def iI(B U:List Nat):Nat->dZ->Prop
 |_,[]=>True
 |i,o::r=>(U.contains i=true\/match o with|some o=>jw B o|none=>True)/\iI B U (i+1) r
theorem y8{B U:List Nat}:∀{c:dZ} {i g:Nat} {o:SO},iI B U i c->dZ.at c g=some o->U.contains (i+g)=true\/jw B o
 |[],i,g,o,_,e=>by simp[dZ.at]at e
 |x::r,i,0,o,h,e=>by
  rw[du]at e;subst e;exact h.1
 |x::r,i,g+1,o,h,e=>by rw[dU]at e;have:=y8 h.2 e;rwa[show i+1+g=i+(g+1)from by omega]at this
theorem H4(o:SO):jw [] o:=by
 cases o with
 |row ro sz n f=>exact fun i _=>mX _
 |gA ro cs=>exact mX _
 |_=>trivial
theorem mN{U:List Nat}:∀{i:Nat} {c:dZ},iI [] U i c
 |_,[]=>trivial
 |i,o::r=>⟨.inr (by cases o<;>first|trivial|exact H4 _),mN⟩
def lZ(B:List Nat)(env:List (Tmp×SV)):List (Tmp×SV):=env.map fun p=>(p.1,if ma B p.2 then p.2 else .u)
theorem zH{B:List Nat}:∀(env:List (Tmp×SV)) (t:Tmp),(look (lZ B env) t=look env t/\ma B (look env t)=true)\/look (lZ B env) t=.u
 |[],t=>.inr rfl
 |(u,x)::r,t=>by
  simp only[lZ,cC,look];by_cases h:u=t
  ·rw[aB h,aB h];by_cases a:ma B x=true
   ·rw[aB a];exact .inl ⟨rfl,a⟩
   rw[aA a];exact .inr rfl
  rw[aA h,aA h];exact zH r t
theorem sq(env:List (Tmp×SV)):lZ [] env=env:=by unfold lZ;simp[D7]
theorem qm.of{P:Program}{f:FuncId}{k:Nat}{O:List SV}{pre:dZ}{Q0:SV->dZ->Prop}(hF:gQ P f k O pre Q0){args:List SV}{kk:Nat}{st:St}(l:List Nat){K:SV->St->Prop}(ax:args=hZ (dX l st.ctx.length) O)(bj:jx (dX l st.ctx.length) st.ctx l pre)(ag:Ea l pre)(cg:da k pre)(aq:(l.drop k).all (fun g=>decide (kk<=g))=true)(I:l.drop k=[]\/l.Nodup)(ak:iI (l.drop k) (lh l pre) 0 st.ctx)(hK:∀z0 c0,Q0 z0 c0->K (z0.bP (dX l st.ctx.length)) ⟨lZ (l.drop k) st.env,lB (dX l st.ctx.length) l pre c0 st.ctx⟩):qm P f args kk st K:=by
 obtain⟨hb,hF⟩:=hF;refine⟨hb,fun A σ a w vs cr bg y bp=>?_⟩;obtain⟨hlen,ae⟩:=tn bj;generalize br:dX l st.ctx.length=μ at *;have C:∀h g,l[h]?=some g->μ h=g:=by intro h g u;rw[<-br];simp[dX,u]
 have ad:∀h,pre.length<=h->μ h=st.ctx.length+(h-pre.length):=by intro h hh;rw[<-br,<-hlen];simp[dX,cw (show l.length<=h by omega)]
 have aj:∀h,h<pre.length->∃g,l[h]?=some g/\g<st.ctx.length:=by
  intro h hh;have:h<l.length:=by omega
  exact⟨l[h],aS this,(ae h _ (aS this)).1⟩
 have E2:∀g,(l.drop k).contains g=true↔∃i,k<=i/\l[i]?=some g:=by
  intro g;rw[List.contains_iff_mem,List.mem_iff_getElem?];constructor
  ·rintro⟨i,hi⟩;rw[bY]at hi;exact⟨k+i,by omega,hi⟩
  rintro⟨i,hi,u⟩;exact⟨i-k,by rw[bY,show k+(i-k)=i by omega];exact u⟩
 have bt:∀i j g,k<=i->l[i]?=some g->l[j]?=some g->i=j:=by
  intro i j g hi r d;rcases I with I|I
  ·have:(l.drop k).contains g=true:=(E2 g).2 ⟨i,hi,r⟩;rw[I]at this;simp at this
  obtain⟨a1,a2⟩:=cM.1 r;obtain⟨b1,b2⟩:=cM.1 d;exact List.getElem_inj (h₀:=a1) (h₁:=b1) I |>.1 (a2.trans b2.symm)
 let X:ey:=σ.yp μ
 have bb:∀h,X h=σ (μ h):=fun _=>rfl;have af:∀h,pre.length<=h->X h=none:=by intro h hh;show σ (μ h)=none;rw[ad h hh];exact y.sat.beyond _ (by omega)
 have c:∀h m,pre.at h=some m->∃g o,l[h]?=some g/\μ h=g/\g<st.ctx.length/\st.ctx.at g=some o/\nz μ m o:=by intro h m Y;obtain⟨g,u,z⟩:=aj h (xo Y);obtain⟨o,r,d⟩:=(ae h g u).2.2 m Y;exact⟨g,o,u,C h g u,z,r,d⟩
 have inj:∀h J g o,pre.at h=some o->o.ro=false->l[h]?=some g->l[J]?=some g->h=J:=by
  intro h J g o r d h3 h4;rcases ag with U|I
  ·rw[cx]at U;have:=U (some o) (by have z:=xo r;refine dJ (i:=h) ?_;rw[dZ.at,aG,aS z]at r;rw[aS z];simpa using r)
   simp only at this;rw[d]at this;cases this
  obtain⟨a1,a2⟩:=cM.1 h3;obtain⟨b1,b2⟩:=cM.1 h4;exact List.getElem_inj (h₀:=a1) (h₁:=b1) I |>.1 (a2.trans b2.symm)
 have bo:Sat X w pre:=by
  refine⟨fun h m Y=>?_,fun h J o o' L L' ab e1 e2 n s1 s2=>?_,af,fun h L F=>y.sat.gq _ L F,y.sat.pG,fun h o L e n s=>?_,y.sat.E0⟩
  ·obtain⟨g,o,u,hm,z,r,d⟩:=c h m Y;exact xO (σ:=σ) (σ0:=X) (μ:=μ) (fun _=>rfl) rfl d (by rw[hm];exact y.sat.obj g o r)
  ·obtain⟨g,p,u,hm,z,r,d⟩:=c h o e1;obtain⟨Z,p',M,S,V,H,Q⟩:=c J o' e2;refine y.sat.apart g Z p p' L L' (fun e=>ab ?_) r H (d.ro n) (by rw[<-hm];exact s1) (by rw[<-S];exact s2);subst e;exact inj h J g o e1 n u M
  obtain⟨g,p,u,hm,z,r,d⟩:=c h o e;exact y.sat.mR g p L r (d.ro n) (by rw[<-hm];exact s)
 have bq:dm X O vs.toList:=by rw[ax]at bp;exact(sx σ μ O vs.toList).1 bp
 refine(hF w X vs bo bq).mono fun e w' ⟨v,z0,c0,σ0,e1,e2,p⟩=>?_;have ah:∀g o L,st.ctx.at g=some o->(∀h m,l[h]?=some g->pre.at h=some m->m.ro=true)->σ g=some L->¬U1 pre X L.b:=by
  intro g o L Y hn F ⟨h,m,L',r,d,h3,h4⟩;obtain⟨Z,p',M,S,V,H,Q⟩:=c h m r;have ab:Z≠g:=by intro he;subst he;rw[hn h m M r]at d;cases d
  exact y.sat.apart Z g p' o L' L ab H Y (Q.ro d) (by rw[<-S];exact h3) F h4
 classical
 let D:Nat->Option Loc:=fun g=>if g<st.ctx.length then(if h:∃i,k<=i/\l[i]?=some g then σ0 (Classical.choose h)else σ g)else σ0 (pre.length+(g-st.ctx.length))
 let σ':ey:=⟨D,σ0.fz⟩
 have T:∀g,g<st.ctx.length->(l.drop k).contains g=false->σ' g=σ g:=by intro g u R;show D g=σ g;simp only[D,aB u];rw[cV];intro hx;rw[(E2 g).2 hx]at R;cases R
 have W:∀h,σ' (μ h)=σ0 h:=by
  intro h;show D (μ h)=σ0 h;by_cases hh:h<pre.length
  ·obtain⟨g,u,z⟩:=aj h hh;rw[C h g u];simp only[D,aB z];by_cases hx:∃i,k<=i/\l[i]?=some g
   ·rw[bV hx];obtain⟨q1,q2⟩:=eF hx;rw[bt _ h g q1 q2 u]
   rw[cV hx];have hk:h<k:=by
    rcases aU h k with J|J
    ·exact J
    exact absurd ⟨h,J,u⟩ hx
   rw[p.base h hk];show σ g=σ (μ h);rw[C h g u]
  rw[ad h (by omega)];simp only[D];rw[aA (by omega)];congr 1;omega
 have ap:∀b o,σ.fz b=some o->σ'.fz b=some o:=p.FP;have up:∀h L,(l.drop k).contains h=false->σ h=some L->σ' h=some L:=by
  intro g L R F;have:g<st.ctx.length:=by
   rcases aU g st.ctx.length with J|J
   ·exact J
   rw[y.sat.beyond g J]at F;cases F
  rw[T g this R];exact F
 let N:=lB μ l pre c0 st.ctx
 have ao:N.length=st.ctx.length+(c0.length-pre.length):=by show(uq μ l pre c0 st.ctx++_).length=_;simp[qk]
 have cases':∀g o,N.at g=some o->(∃h o',μ h=g/\c0.at h=some o'/\o=o'.bP μ/\(o'.ro=false\/h<k)) \/
   (g<st.ctx.length/\st.ctx.at g=some o/\(∀h m,l[h]?=some g->pre.at h=some m->m.ro=true)/\(l.drop k).contains g=false):=by
  intro g o Y;have x:dZ.at (uq μ l pre c0 st.ctx++(c0.drop pre.length).map fun o=>o.map (SO.bP μ)) g=some o:=Y;rw[Js,qk]at x;split at x
  ·rename_i u;by_cases hx:∃h m,l[h]?=some g/\pre.at h=some m/\m.ro=false
   ·obtain⟨h,m,r,d,h3⟩:=hx;have I:l.Nodup:=by
     rcases ag with U|I
     ·rw[cx]at U;have:=U (some m) (by have z:=xo d;refine dJ (i:=h) ?_;rw[dZ.at,aG,aS z]at d;rw[aS z];simpa using d)
      simp only at this;rw[h3]at this;cases this
     exact I
    rw[Ja μ h3 l pre c0 st.ctx h I r d u (dA (xo d) p.len)]at x;cases hc:c0.at h with
    |none=>rw[hc]at x;simp at x
    |some o' =>
     rw[hc]at x;simp at x;refine .inl ⟨h,o',C h g r,hc,x.symm, ?_⟩;rcases aU h k with J|J
     ·exact .inr J
     exact .inl (p.new h o' J hc)
   have a7:∀h m,l[h]?=some g->pre.at h=some m->m.ro=true:=by
    intro h m r d;cases h3:m.ro with
    |true=>rfl
    |false=>exact absurd ⟨h,m,r,d,h3⟩ hx
   rw[EW μ g l pre c0 st.ctx a7]at x;refine .inr ⟨u,x,a7, ?_⟩;cases R:(l.drop k).contains g with
   |false=>rfl
   |true=>
    obtain⟨i,hi,al⟩:=(E2 g).1 R;have hs:=(ae i g al).2.1;cases hp:pre.at i with
    |none=>rw[hp]at hs;cases hs
    |some m=>have:=cg.get hi hp;rw[a7 i m al hp]at this;cases this
  rename_i u;rw[Fw]at x;cases hc:c0.at (pre.length+(g-st.ctx.length))with
  |none=>rw[hc]at x;simp at x
  |some o' =>
   rw[hc]at x;simp at x;refine .inl ⟨_,o', ?_,hc,x.symm, ?_⟩
   ·rw[ad _ (by omega)];omega
   rcases aU (pre.length+(g-st.ctx.length)) k with J|J
   ·exact .inr J
   exact .inl (p.new _ o' J hc)
 have bx:∀g o L,N.at g=some o->o.ro=false->σ' g=some L->A.D L.b\/A.w0.heap.size<=L.b:=by
  intro g o L Y n F;rcases cases' g o Y with⟨h,o',hm,hc,rfl,_⟩|⟨u,E,_,R⟩
  ·rw[SO.yJ]at n;rw[<-hm,W]at F;rcases p.own h o' L hc n F with⟨d,m,L',q1,q2,q3,q4⟩|bm
   ·obtain⟨Z,p',M,S,V,H,Q⟩:=c d m q1;have:=y.own Z p' L' H (Q.ro q2) (by rw[<-S];exact q3);rwa[q4]at this
   exact .inr (cv y.fr.size bm)
  rw[T g u R]at F;exact y.own g o L E n F
 have G:∀g o L,st.ctx.at g=some o->(∀h m,l[h]?=some g->pre.at h=some m->m.ro=true)->σ g=some L->∀b,(U1 pre X b\/w.heap.size<=b)->L.b≠b:=by
  intro g o L Y hn F b hb he;subst he;rcases hb with hb|hb
  ·exact ah g o L Y hn F hb
  have:=y.sat.gq g L F;omega
 have bn:σ0=σ'.yp μ:=by
  show σ0=⟨fun h=>σ' (μ h),σ0.fz⟩
  obtain⟨l0,f0⟩:=σ0;simp only[ey.mk.injEq,dD];exact funext fun h=>(W h).symm
 refine⟨v,z0.bP μ,⟨lZ (l.drop k) st.env,N⟩,σ',e1,hK z0 c0 e2, ?_, ?_⟩
 ·rw[lb,<-bn];exact p.val
 refine⟨y.defers,y.size,fun t=>?_,⟨fun g o Y=>?_,fun g1 g2 o1 o2 L1 L2 ab e1 e2 n s1 s2=>?_,fun g u=>?_,fun g L F=>?_,p.sat.pG,fun g o L Y n s=>?_,p.sat.E0⟩, ?_,bx,⟨fun h hh=>?_,fun b o h=>p.FP b o (y.base.FP b o h),fun b o h=>?_⟩, ?_⟩
 ·rcases zH (B:=l.drop k) st.env t with⟨r,d⟩|r
  ·show rel σ' (look (lZ (l.drop k) st.env) t) _;rw[r];exact yH up ap d (y.env t)
  show rel σ' (look (lZ (l.drop k) st.env) t) _;rw[r];simp[rel]
 ·rcases cases' g o Y with⟨h,o',hm,hc,rfl,_⟩|⟨u,E,hn,R⟩
  ·rw[<-hm];exact Md W rfl (p.sat.obj h o' hc)
  have b7:jw (l.drop k) o:=by
   rcases y8 ak E with h|h
   ·rw[aX,List.contains_iff_mem]at h;obtain⟨i,q,q1,q2,q3⟩:=vC h;rw[hn i q q1 q2]at q3;cases q3
   exact h
  exact Iy up ap b7 (T g u R) (fun L F=>p.fr.block _ (y.sat.gq g L F) (ah g o L E hn F)) (y.sat.obj g o E)
 ·rcases cases' g1 o1 e1 with⟨r,bu,bi,bf,rfl,ct⟩|⟨b8,a6,cb,b5⟩
  ·rw[SO.yJ]at n;rw[<-bi,W]at s1;rcases cases' g2 o2 e2 with⟨d,a8,aa,ay,rfl,bh⟩|⟨az,E,bk,aw⟩
   ·rw[<-aa,W]at s2;refine p.sat.apart r d bu a8 L1 L2 (fun e=>ab ?_) bf ay n s1 s2;rw[<-bi,<-aa,e]
   rw[T g2 az aw]at s2;exact fun he=>G g2 o2 L2 E bk s2 _ (p.own r bu L1 bf n s1) he.symm
  rw[T g1 b8 b5]at s1;rcases cases' g2 o2 e2 with⟨d,a8,aa,ay,rfl,bh⟩|⟨az,E,bk,aw⟩
  ·rw[<-aa,W]at s2;rcases bh with hx|z
   ·exact G g1 o1 L1 a6 cb s1 _ (p.own d a8 L2 ay hx s2)
   -- an b0 au stays where it cm
   rw[p.base d z]at s2;have ba:σ (μ d)=some L2:=s2;rw[aa]at ba;by_cases cc:d<pre.length
   ·obtain⟨Z,M,V⟩:=aj d cc;have b9:Z=g2:=by rw[<-aa,C d Z M]
    subst b9;cases hp:pre.at d with
    |some m=>
     obtain⟨cq,p',ar,ck,ca,H,Q⟩:=c d m hp;rw[M]at ar;cases ar;exact y.sat.apart g1 Z o1 p' L1 L2 ab a6 H n s1 ba
    |none=>have:=(ae d Z M).2.1;rw[hp]at this;cases this
   have:=af d (by omega);rw[bb,aa,ba]at this;cases this
  rw[T g2 az aw]at s2;exact y.sat.apart g1 g2 o1 o2 L1 L2 ab a6 E n s1 s2
 ·have r:N.length<=g:=u;rw[ao]at r;show D g=none;simp only[D];rw[aA (by omega)];exact p.sat.beyond _ (by have:=p.len;omega)
 ·by_cases u:g<st.ctx.length
  ·by_cases R:(l.drop k).contains g=true
   ·obtain⟨i,hi,al⟩:=(E2 g).1 R;have:σ' g=σ0 i:=by rw[<-C i g al];exact W i
    rw[this]at F;exact p.sat.gq _ L F
   rw[T g u (by simpa using R)]at F;exact dA (y.sat.gq g L F) p.fr.size
  have b6:σ0 (pre.length+(g-st.ctx.length))=some L:=by have:σ' g=σ0 (pre.length+(g-st.ctx.length)):=aA u;rw[<-this];exact F
  exact p.sat.gq _ L b6
 ·show σ0.fz L.b=none;rcases cases' g o Y with⟨h,o',hm,hc,rfl,_⟩|⟨u,E,hn,R⟩
  ·rw[SO.yJ]at n;rw[<-hm,W]at s;exact p.sat.mR h o' L hc n s
  rw[T g u R]at s;cases hz:σ0.fz L.b with
  |none=>rfl
  |some q=>
   rcases p.LV _ _ hz with h4|h4
   ·have h5:σ.fz L.b=some q:=h4;rw[y.sat.mR g o L E n s]at h5;cases h5
   exact absurd rfl (G g o L E hn s _ h4)
 ·refine y.fr.step p.fr fun b hb ⟨h,m,L,r,d,h3,h4⟩=>?_;obtain⟨Z,p',M,S,V,H,Q⟩:=c h m r;rcases y.own Z p' L H (Q.ro d) (by rw[<-S];exact h3)with hx|hx
  ·rwa[h4]at hx
  omega
 ·have r:h<st.ctx.length:=dA hh y.mq;have R:(l.drop k).contains h=false:=by
   cases R:(l.drop k).contains h with
   |false=>rfl
   |true=>rw[cx]at aq;have:=aq h (by simpa using R);simp only[aE]at this;omega
  rw[T h r R];exact y.base.loc h hh
 ·rcases p.LV b o h with h4|⟨d,m,L,q1,q2,q3,q4⟩|h4
  ·exact y.base.LV b o h4
  ·obtain⟨Z,p',M,S,V,H,Q⟩:=c d m q1;have:=y.own Z p' L H (Q.ro q2) (by rw[<-S];exact q3);rw[q4]at this;exact .inr ⟨bg,this⟩
  exact .inr ⟨bg,.inr (cv y.fr.size h4)⟩
 show A.k<=N.length;rw[ao];have:=y.mq;omega
end Go.Vg
end
section
namespace Go.Vg
variable[Go.Vg.df]
open Go.RowKit
def Qo:SV->Value->Bool
 | .b x,.bool y=>x==y
 | .i k n,.int a m=>decide (k=a)&&decide (n=m)
 | .s l,.string s=>decide (s.data.toList=l)
 | .cQ,.slice none 0 0=>true
 | .u,_=>true
 |_,_=>false
theorem HD{x:SV}{v:Value}(h:Qo x v=true):rel ey.nil x v:=by
 unfold Qo at h;split at h
 ·simp only[rel];simp at h;rw[h]
 ·simp only[rel];simp at h;rw[h.1,h.2]
 ·simp only[rel];simp at h;rw[<-h]
 ·simp[rel]
 ·simp[rel]
 cases h
def xg:List SV->List Value->Bool
 |[],[]=>true
 |x::xs,v::vs=>Qo x v&&xg xs vs
 |_,_=>false
theorem vF:∀{xs:List SV} {vs:List Value},xg xs vs=true->dm ey.nil xs vs
 |[],[],_=>by simp[dm]
 |x::xs,v::vs,h=>by
  simp only[xg,aD]at h;simp only[dm];exact⟨v,vs,rfl,HD h.1,vF h.2⟩
 |[],_::_,h=>by simp[xg]at h
 |_::_,[],h=>by simp[xg]at h
def Nl:TypeDesc->TD->Bool
 | .bool,.bool=>true
 | .int k,.int c=>decide (k=c)
 | .string,.str=>true
 | .slice e,.slice a=>decide (e=a)
 | .map k e,.map c a=>decide (k=c)&&decide (e=a)
 | .struct fs,.struct b=>decide (fs.toList.map (fun f=>(f.type,f.offset))=b)&&fs.toList.all fun f=>decide (f.name ≠ "_")
 | .array ..,_=>false
 | .struct ..,.other=>false
 |_,.other=>true
 |_,_=>false
theorem FE{d:TypeDesc}{t:TD}(h:Nl d t=true):mP d t:=by
 unfold Nl at h;unfold mP;split at h
 case h_6=>
  simp only[aD,aE,cx]at h;exact h
 all_goals simp_all
 all_goals(split<;>simp_all)
def W0(P:Program)(t:TypeId)(ti:TI):Bool:=
 match P.info? t,P.underlying t with
 |some i,some d=>decide (i.size=ti.size)&&decide (i.bytes=ti.bytes)&&(match i.zero with
   |some z=>xg ti.zero z.cells.toList&&(ti.td.eT||z.oneCell')
   |none=>false)&&Nl d ti.td&&(!ti.cmp||(!P.stoodInHeld t&&!P.eqGuardType P.depth t))
 |_,_=>false
theorem MF{P:Program}{t:TypeId}{ti:TI}(h:W0 P t ti=true):Wt P t ti:=by
 unfold W0 at h;split at h
 ·rename_i i d j hd;simp only[aD,aE,aV,aR]at h;obtain⟨⟨⟨⟨c,e⟩,b⟩,f⟩,a⟩:=h;refine⟨⟨i,j,c,e, ?_⟩,⟨d,hd,FE f⟩,fun g=>?_⟩
  ·split at b
   ·rename_i z l;simp only[aD,aV]at b;exact⟨z,l,vF b.1,fun k=>b.2.resolve_left (by rw[k];exact Bool.false_ne_true)⟩
   cases b
  rcases a with a|a
  ·rw[g]at a;cases a
  exact a
 cases h
def Py:List (TypeId×TI)->TE
 |[],_=>none
 |e::r,t=>if e.1=t then some e.2 else Py r t
theorem Lr{P:Program}:∀{l:List (TypeId×TI)},(l.all fun e=>W0 P e.1 e.2)=true->hX P (Py l)
 |[],_=>fun t ti h=>by simp[Py]at h
 |e::r,h=>fun t ti c=>by
  simp only[List.all_cons,aD]at h;simp only[Py]at c;split at c
  ·rename_i he;cases c;subst he;exact MF h.1
  exact Lr h.2 t ti c
@[congr] theorem Tz{te:TE}{wr c a:Bool}{st st':St}{o:Op}{K:SV->Prop}(b:c=a)(d:st=st'):Bp te wr c st o K=Bp te wr a st' o K:=by rw[b,d]
@[congr] theorem Ty{te:TE}{c a:Bool}{st st':St}{o:Op}{K:SV->Prop}(b:c=a)(d:st=st'):vE te c st o K=vE te a st' o K:=by rw[b,d]
@[congr] theorem Vt{te:TE}{st st':St}{o:Op}{K:SV->St->Prop}(a:st=st'):pv te st o K=pv te st' o K:=by rw[a]
@[congr] theorem UT{nt:Nat}{st st':St}{d:Option Tmp}{z a:SV}{K:St->Prop}(b:st=st')(c:z=a):qL nt st d z K=qL nt st' d a K:=by rw[b,c]
@[congr] theorem TJ{P:Program}{te:TE}{wr:Bool}{nt:Nat}{pt:PT}{g c a:Bool}{st st':St}{o:Oper}{K:St->Prop}(b:c=a)(d:st=st'):py P te wr nt pt g c st o K=py P te wr nt pt g a st' o K:=by rw[b,d]
@[congr] theorem RU{P:Program}{te:TE}{wr:Bool}{nt:Nat}{pt:PT}{sp:Bool}{ops:Array Oper}{st st':St}{o:Oper}{K:St->Prop}(a:st=st'):lr P te wr nt pt sp ops st o K=lr P te wr nt pt sp ops st' o K:=by rw[a]
@[congr] theorem VI{P:Program}{te:TE}{wr:Bool}{nt:Nat}{pt:PT}{sp:Bool}{ops:Array Oper}{K:St->Prop}{os:List Oper}{st st':St}(a:st=st'):XL P te wr nt pt sp ops K os st=XL P te wr nt pt sp ops K os st':=by rw[a]
@[congr] theorem Ww{cf:Cf}{F:St->Prop}{n:Nat}{a:List It}{st st':St}(b:st=st'):vc cf F n a st=vc cf F n a st':=by rw[b]
@[congr] theorem QW{want:Bool}{x a:SV}{K:Bool->Prop}(h:x=a):tv want x K=tv want a K:=by rw[h]
@[congr] theorem VE{c a:Bool}{x b:SV}{K:SV->Prop}(d:c=a)(h:x=b):j9 c x K=j9 a b K:=by rw[d,h]
@[congr] theorem RS{k:Nat}{st st':St}{B:(St->Prop)->St->Prop}(h:st=st'):Jj k st B=Jj k st' B:=by rw[h]
@[congr] theorem TC{k:Nat}{B:(St->Prop)->Prop}{R:St->Prop}:Qw k B R=Qw k B R:=rfl
@[congr] theorem Vu{p a q:Prop}(h:p=a):bH p q=bH a q:=by rw[h]
@[simp] theorem E7{q:Prop}:bH True q=q:=by simp[bH]
def kp:List (Nat×List Tmp)->Nat->List Tmp
 |[],_=>[]
 |e::r,i=>if e.1=i then e.2 else kp r i
end Go.Vg
end
