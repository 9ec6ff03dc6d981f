/- Own text: part VAD. -/
import Derived.Test.YtgippllfnmdnpaaGreatDoorVAC
set_option linter.all false
section
namespace Go.Vg
variable[Go.Vg.df]
open Go.RowKit
theorem yQ{P:Program}{te:TE}(b:hX P te){σ:ey}{t:TypeId}{ti:TI}(c:te t=some ti)(f:ti.zero.length=ti.size) :
  ∃z,(∀w,(zeroValue t).run P w=.ok z w)/\dm σ ti.zero z.cells.toList/\z.cells.size=ti.size:=by
 obtain⟨i,e,_,_,z,d,a,_⟩:=(b t ti c).D0;refine⟨z,fun w=>by simp[zeroValue,nw e,d],jT (mi.nil σ) a, ?_⟩;have:=fv a;simp only[ds]at this;omega
theorem L0(l:List SV)(sz i k:Nat)(a:k<sz):(fF l sz i).getD k .u=l.getD (i*sz+k) .u:=by simp only[fF,aG];rw[ef a,bY]
theorem vK{P:Program}{te:TE}(c:hX P te){A:kS}{σ:ey}{st:St}{a:Act}{w:World}(I:Rel A σ st a w){t e:TypeId}{ti:TI}(O:dP te t=.slice e)(o:te e=some ti)(E:ti.zero.length=ti.size){len:Nat}(hlen:len*ti.size<=16777216){ps:List (Nat×SV)}{vs:Array (Nat×Value)}{l:List SV}(N:ps.length=vs.toList.length)(Q:∀(j:Nat) (i:Nat) (x:SV),ps[j]?=some (i,x)->∃v,vs.toList[j]?=some (i,v)/\iV x=true/\rel σ x v)(K:qo ti.size (nH ti.zero len) ps=some l) :
  ∃v σ' w',(Instr.buildSlice t len vs).run P w=.ok v w'/\mi σ σ'/\rel σ' (.ew st.ctx.length 0 len) v/\Rel A σ' (st.fA (.row false ti.size len (fF l ti.size))) a w':=by
 obtain⟨z,C,d,q⟩:=yQ c (σ:=σ) o E;have base:∃zero:Array Value,((len*ti.size=0->zero=#[])/\(len*ti.size≠0->zero=z.cells))/\dm σ (nH ti.zero len) ((Array.range (len*ti.size)).map fun i=>zero[i % zero.size]!).toList:=by
  by_cases r:len*ti.size=0
  ·refine⟨#[],⟨fun _=>rfl,fun h=>absurd r h⟩, ?_⟩;have:nH ti.zero len=[]:=dj.1 (by rw[kL,E];exact r);rw[this,r];simp[dm]
  refine⟨z.cells,⟨fun h=>absurd h r,fun _=>rfl⟩, ?_⟩;have:=AS d len;rw[q]at this;rw[q];exact this
 obtain⟨zero,p,B⟩:=base;obtain⟨out,u,m,y⟩:=xr ti.size ps vs.toList _ _ l N Q B K;have g:out.size=len*ti.size:=by rw[y];simp
 obtain⟨σ',w',D,F,G,H⟩:=AT (P:=P) I (elem:=e) (cells:=out) (sz:=ti.size) (n:=len) (cap:=len) (f:=fF l ti.size) g (aN _) (fun i k L M=>by
  have s:=fv m;simp only[ds]at s;have J:i*ti.size+k<l.length:=by
   have:i*ti.size+ti.size<=len*ti.size:=by rw[<-dG];exact cN _ L
   omega
  obtain⟨v,g1,g2⟩:=ja m (il J);exact⟨v,by simpa using g1,by rw[L0 l _ _ _ M];exact g2⟩)
 refine⟨_,σ',w', ?_,F,G,H⟩;unfold Instr.buildSlice;simp only[Sem.run_bind,fx (gF c O),Result.andThen_ok,jb c o];rw[Sem.run_ite,aA (by omega)];by_cases b:len*ti.size=0
 ·have:=p.1 b;subst this;simp only[b,dy,Sem.run_bind,Sem.run_pure,Result.andThen_ok];rw[b]at u;simp only[u,Sem.run_bind,D,Result.andThen_ok,Sem.run_pure]
 have:=p.2 b;subst this;rw[aA b];simp only[Sem.run_bind,Sem.run_pure,C,Result.andThen_ok,u,D]
theorem Du{n:Int}(b:0<=n)(a:n<=9223372036854775807):IntKind.i64.wrap n=n:=mS (k:=.i64) ⟨by omega,a⟩
theorem ye{P:Program}{te:TE}(c:hX P te){A:kS}{σ:ey}{st:St}{a:Act}{w:World}(H:Rel A σ st a w){t e:TypeId}{ti:TI}(K:dP te t=.slice e)(g:te e=some ti)(p:ti.zero.length=ti.size){n m:Int}(o:0<=n)(M:n<=m)(N:m*ti.bytes<=281474976710656)(O:m<=281474976710656) :
  ∃v σ' w',(Instr.makeSlice t (.int .i64 n) (.int .i64 m)).run P w=.ok v w'/\mi σ σ'/\rel σ' (.ew st.ctx.length 0 n.toNat) v/\Rel A σ' (st.fA (.row false ti.size n.toNat (fun _=>ti.zero))) a w':=by
 obtain⟨z,C,l,u⟩:=yQ c (σ:=σ) g p;obtain⟨i,x,D,y,_⟩:=(c e ti g).D0;have d:=AS l m.toNat;rw[u]at d;have base:∃zero:Array Value,((m.toNat*ti.size=0->zero=#[])/\(m.toNat*ti.size≠0->zero=z.cells))/\dm σ (nH ti.zero m.toNat) ((Array.range (m.toNat*ti.size)).map fun i=>zero[i % zero.size]!).toList:=by
  by_cases o:m.toNat*ti.size=0
  ·refine⟨#[],⟨fun _=>rfl,fun h=>absurd o h⟩, ?_⟩;have:nH ti.zero m.toNat=[]:=dj.1 (by rw[kL,p];exact o);rw[this,o];simp[dm]
  refine⟨z.cells,⟨fun h=>absurd h o,fun _=>rfl⟩, ?_⟩;rw[u];exact d
 obtain⟨zero,s,B⟩:=base;obtain⟨σ',w',g1,g2,g3,g4⟩:=AT (P:=P) H (elem:=e) (cells:=(Array.range (m.toNat*ti.size)).map fun i=>zero[i % zero.size]!) (sz:=ti.size) (n:=n.toNat) (cap:=m.toNat) (f:=fun _=>ti.zero) (by simp) (by omega) (fun i k x Q=>by
  have I:i*ti.size+k<m.toNat*ti.size:=by
   have:i*ti.size+ti.size<=m.toNat*ti.size:=by rw[<-dG];exact cN _ (by omega)
   omega
  obtain⟨v,g1,g2⟩:=ja B (j:=i*ti.size+k) (il (by rw[kL,p];exact I));refine⟨v,by rw[Array.getElem?_toList]at g1;exact g1, ?_⟩;have:(nH ti.zero m.toNat).getD (i*ti.size+k) .u=ti.zero.getD k .u:=by
   have r:∀(q i:Nat),i<q->(nH ti.zero q).getD (i*ti.size+k) .u=ti.zero.getD k .u:=by
    intro q
    induction q with
    |zero=>intro i x;omega
    |succ q L=>
     intro i x;simp only[nH,aG];cases i with
     |zero=>rw[cA (by rw[p];omega)];simp
     |succ i=>rw[cR (by rw[p,dG];omega),p,dG,show i*ti.size+ti.size+k-ti.size=i*ti.size+k by omega];have:=L i (by omega);simpa[aG]using this
   exact r _ _ (by omega)
  rw[this]at g2;exact g2)
 refine⟨.slice (some ⟨w.heap.size,0,none⟩) n.toNat m.toNat,σ',w', ?_,g2,g3,g4⟩;have E:IntKind.i64.wrap n=n:=Du o (by omega);have F:IntKind.i64.wrap m=m:=Du (by omega) (by omega);have G:(i.bytes:Int)*m=m*ti.bytes:=by rw[y,Int.mul_comm]
 unfold Instr.makeSlice;simp only[Sem.run_bind,fx (gF c K),Result.andThen_ok,asInt,asIntOf,Sem.run_pure,nw x,E,F];have J:¬(((decide (m<0)||decide ((i.bytes:Int)*m>2 ^ 48))||decide (n<0)||decide (n>m))=true):=by rw[G];simp;omega
 rw[Sem.run_ite,aA (by simpa using J)];simp only[Sem.run_bind,run_askRoom,Result.andThen_ok,jb c g];by_cases b:m.toNat*ti.size=0
 ·have:=s.1 b;subst this;rw[aB b];simp only[Sem.run_bind,Sem.run_pure,Result.andThen_ok,g1]
 have:=s.2 b;subst this;rw[aA b];simp only[Sem.run_bind,Sem.run_pure,C,Result.andThen_ok,g1]
end Go.Vg
end
section
namespace Go.Vg
variable[Go.Vg.df]
open Go.RowKit
structure MN(P:Program)(σ:ey)(w:World)(sz m:Nat)(g:Nat->List SV)(v:Value):Prop where
 len:(Builtin.lenOf v).run P w=.ok m w
 Wv:∃vs:List Value,vs.length=m*sz/\(∀n',(Builtin.firstCells sz m v).run P { w with drawn:=n' }=.ok vs.toArray { w with drawn:=n' }) /\
  (∀x∈vs,x.oneCell'=true)/\∀j k,j<m->k<sz->∃y,vs[j*sz+k]?=some y/\rel σ ((g j).getD k .u) y
theorem G5{σ:ey}{w:World}{L:Loc}{ro:Bool}{sz n:Nat}{f:Nat->List SV}{c:Array Value}{e:TypeId}{fr:Nat×Nat}(h:sl σ w L (.row ro sz n f) c e fr)(b:Nat) :
  ∀(m:Nat),b+m<=n->∃vs:List Value,vs.length=m*sz/\(∀(j:Nat) (v:Value),vs[j]?=some v->c[L.sh+b*L.sz+j]?=some v) /\
   ∀j k,j<m->k<sz->∃y,vs[j*sz+k]?=some y/\rel σ ((f (b+j)).getD k .u) y:=by
 intro m
 induction m with
 |zero=>intro _;exact⟨[],by simp,by simp,fun j k a=>by omega⟩
 |succ m z=>
  intro hm;obtain⟨vs,d,t,u⟩:=z (by omega);obtain⟨us,g1,g2,g3⟩:=tf h (i:=b+m) (k:=0) (n:=sz) (by simp only[SO.n];omega) (by simp[SO.sz]);refine⟨vs++us,by simp[d,g1,dG],fun j v a=>?_,fun j k a x=>?_⟩
  ·rw[fc]at a;split at a
   ·exact t j v a
   have:=g2 _ v a;rw[d]at this;rename_i o;rw[d]at o;have q:L.sz=sz:=h.Br;rw[show L.sh+b*L.sz+j=L.sh+(b+m)*L.sz+0+(j-m*sz) by rw[q,eR];omega];exact this
  by_cases g:j<m
  ·obtain⟨y,r,s⟩:=u j k g x;have l:j*sz+k<vs.length:=by
    rw[d];have:j*sz+sz<=m*sz:=by rw[<-dG];exact cN _ g
    omega
   exact⟨y,by rw[cA l];exact r,s⟩
  have p:j=m:=by omega
  subst p;have l:us[k]?=some (us[k]'(by omega)):=aS (by omega);refine⟨_,by rw[cR (by omega),d,show j*sz+k-j*sz=k by omega];exact l, ?_⟩;have:=g3 k _ l;simpa[SO.el]using this
theorem Bq{P:Program}{A:kS}{σ:ey}{st:St}{a:Act}{w:World}(W:Rel A σ st a w){sz:Nat}{u8:Bool}{Z:Nat}{x:SV}{v:Value}{K:Nat->(Nat->List SV)->Prop}(r:rel σ x v)(h:HC st sz u8 Z x K):∃m g,K m g/\MN P σ w sz m g v:=by
 unfold HC at h;split at h
 ·refine⟨0,_,h, ?_⟩;simp only[rel]at r;subst r;exact⟨by simp[Builtin.lenOf],[],by simp,fun B=>by simp[Builtin.firstCells],by simp,fun j k o=>by omega⟩
 ·rename_i l;obtain⟨hu,rfl,h⟩:=h;refine⟨_,_,h, ?_⟩;simp only[rel]at r;subst r;refine⟨by simp[Builtin.lenOf,Jv],l.map fun b=>.int .u8 b.toNat,by simp,fun B=>?_,by simp[Value.oneCell'],fun j k o Q=>?_⟩
  ·simp only[Builtin.firstCells,y0,Sem.run_pure];simp
  have R:k=0:=by omega
  subst R;refine⟨.int .u8 (l.getD j 0).toNat, ?_,by simp[rel]⟩;simp[o]
 ·rename_i h' Y m;split at h
  ·rename_i ro d n f T;obtain⟨rfl,_,t,h⟩:=h;obtain⟨hn,h⟩:=h.out;refine⟨_,_,h, ?_⟩;simp only[rel]at r;obtain⟨J,cap,rfl,hl,r⟩:=r;by_cases S:m=0
   ·subst S;refine⟨by simp[Builtin.lenOf],[],by simp,fun B=>?_,by simp,fun j k o=>by omega⟩;cases J<;>simp[Builtin.firstCells,loadCells,loadCellsFrom]
   rcases r with r|⟨L,I,rfl,aa⟩
   ·omega
   rcases kC W.sat T rfl with⟨E,H⟩|⟨L',c,e,fr,M,X⟩
   ·rw[H]at I;cases I
   rw[M]at I;cases I;obtain⟨vs,H,h2,V⟩:=G5 X Y m hn;refine⟨by simp[Builtin.lenOf],vs,H,fun B=>?_,fun y U=>?_,V⟩
   ·have:=run_loadCells (P:=P) (w:={ w with drawn:=B }) (off:=L.sh+Y*L.sz+0) X.heap vs h2;rw[H]at this;simpa[Builtin.firstCells,addrOf]using this
   obtain⟨q,C⟩:=List.mem_iff_getElem?.1 U;have z:q<m*d:=by
    rcases aU q vs.length with h|h
    ·omega
    rw[cw h]at C;cases C
   have i:0<d:=by
    rcases dO d with h|h
    ·subst h;simp at z
    exact h
   have o:q / d<m:=(Nat.div_lt_iff_lt_mul i).2 z;obtain⟨y',s,D⟩:=V (q / d) (q % d) o (Nat.mod_lt _ i);rw[Nat.mul_comm,Nat.div_add_mod]at s;rw[C]at s;cases s;obtain⟨ha,N⟩:=t (q / d) o;refine tA ?_ D;exact cx.1 ha _ (dJ (il (by rw[N];exact Nat.mod_lt _ i)))
  exact h.elim
 ·rename_i d l;obtain⟨rfl,t,h⟩:=h;refine⟨_,_,h, ?_⟩;simp only[rel]at r;obtain⟨J,cap,rfl,hl,r⟩:=r;rcases r with r|⟨b,off,c,e,fr,rfl,O,G⟩
  ·subst r;refine⟨by simp[Builtin.lenOf],[],by simp,fun B=>?_,by simp,fun j k o=>by simp at o⟩;cases J<;>simp[Builtin.firstCells,loadCells,loadCellsFrom]
  have u:∀j k,j<l.length->k<d->∃y,((c.toList.drop off).take (l.length*d))[j*d+k]?=some y/\rel σ ((l.getD j []).getD k .u) y:=by
   intro j k o Q;obtain⟨g1,g2⟩:=r3 G (j:=j) (x:=l.getD j []) (by simp[List.getD,aS o]);obtain⟨y,s,D⟩:=ja g2 (j:=k) (x:=(l.getD j []).getD k .u) (il (by rw[g1];exact Q));rw[cH,aB Q,bY]at s;have N:j*d+k<l.length*d:=by
    have:j*d+d<=l.length*d:=by rw[<-dG];exact cN _ o
    omega
   exact⟨y,by rw[cH,aB N];exact s,jM (⟨fun _ _ h=>(by cases h),fun _ _ h=>h⟩:mi σ.bare σ) D⟩
  have hlen:((c.toList.drop off).take (l.length*d)).length=l.length*d:=by
   rcases dO (l.length*d)with E|E
   ·rw[E];simp
   have i:0<d:=Nat.pos_of_mul_pos_left E;have ab:0<l.length:=Nat.pos_of_mul_pos_right E;obtain⟨y,s,_⟩:=u (l.length-1) (d-1) (by omega) (by omega);obtain⟨q1,_⟩:=cM.1 s;have:(l.length-1)*d+(d-1)=l.length*d-1:=by
    obtain⟨p,hp⟩:∃p,l.length=p+1:=⟨l.length-1,by omega⟩
    rw[hp,dG];simp;omega
   have h9:((c.toList.drop off).take (l.length*d)).length<=l.length*d:=by rw[aZ];omega
   omega
  refine⟨by simp[Builtin.lenOf],(c.toList.drop off).take (l.length*d),hlen,fun B=>?_,fun y U=>?_,u⟩
  ·have:=run_loadCells (P:=P) (w:={ w with drawn:=B }) (off:=off) (W.sat.pG _ _ O) ((c.toList.drop off).take (l.length*d)) (fun j v o=>by
    rw[cH]at o;by_cases F:j<l.length*d
    ·rw[aB F,bY]at o;simpa using o
    rw[aA F]at o;simp at o)
   rw[hlen]at this;simpa[Builtin.firstCells]using this
  obtain⟨q,C⟩:=List.mem_iff_getElem?.1 U;have z:q<l.length*d:=by rw[<-hlen];exact(cM.1 C).1
  have i:0<d:=Nat.pos_of_mul_pos_left (Nat.lt_of_le_of_lt (bF _) z);have o:q / d<l.length:=(Nat.div_lt_iff_lt_mul i).2 z;obtain⟨y',s,D⟩:=u (q / d) (q % d) o (Nat.mod_lt _ i);rw[Nat.mul_comm (q / d),Nat.div_add_mod]at s;rw[C]at s;cases s;obtain⟨g1,_⟩:=r3 G (j:=q / d) (x:=l.getD (q / d) []) (by simp[List.getD,aS o]);refine tA ?_ D;refine cx.1 (t (l.getD (q / d) []) ?_) _ (dJ (il (by rw[g1];exact Nat.mod_lt _ i)));simp only[aG,aS o,fK];exact gf o
 exact h.elim
theorem FB(n:Nat)(f g:Nat->List SV)(j k:Nat):(lm n f g j).getD k .u=if j<n then(f j).getD k .u else(g (j-n)).getD k .u:=by unfold lm;split<;>rfl
theorem QV{a cap bytes:Nat}(h:cap<a)(f:a*bytes<=140737488355328):¬(Builtin.nextslicecap a cap*bytes>2 ^ 48):=by have:=growslice_fits h f;omega
theorem Rel.drop{A:kS}{σ:ey}{st:St}{a:Act}{w:World}(b:Rel A σ st a w)(h:Nat):Rel A σ (st.setObj h none) a w:=by
 by_cases k:h<st.ctx.length
 ·have d:∀x,dZ.at (st.ctx.set h none) x=if x=h then none else st.ctx.at x:=fun x=>vJ _ _ _ _ k;refine⟨b.defers,b.size,b.env,⟨fun c f e=>?_,fun c q f u o p l i j r s1 s2=>?_,fun c t=>b.sat.beyond c (by simpa[St.setObj]using t),b.sat.gq,b.sat.pG,fun c f M e r s=>?_,b.sat.E0⟩,b.fr,fun c f M e r s=>?_,b.base,by simpa[St.setObj]using b.mq⟩
  ·simp only[St.setObj,d]at e;split at e
   ·cases e
   exact b.sat.obj c f e
  ·simp only[St.setObj,d]at i j;split at i
   ·cases i
   split at j
   ·cases j
   exact b.sat.apart c q f u o p l i j r s1 s2
  ·simp only[St.setObj,d]at e;split at e
   ·cases e
   exact b.sat.mR c f M e r s
  simp only[St.setObj,d]at e;split at e
  ·cases e
  exact b.own c f M e r s
 have:st.setObj h none=st:=by unfold St.setObj;rw[List.set_eq_of_length_le (by omega)]
 rw[this];exact b
theorem Rel.R9{A:kS}{σ:ey}{st:St}{a:Act}{w:World}(b:Rel A σ st a w)(sz:Nat)(f:Nat->List SV):Rel A σ (st.fA (.row false sz 0 f)) a w:=by
 have h:σ st.ctx.length=none:=b.sat.beyond _ (aN _);refine⟨b.defers,b.size,b.env,⟨fun d g e=>?_,fun d n g o l m k i j r s1 s2=>?_,fun d c=>b.sat.beyond d (by simp[St.fA]at c;omega),b.sat.gq,b.sat.pG,fun d g M e r s=>?_,b.sat.E0⟩,b.fr,fun d g M e r s=>?_,b.base,by simp[St.fA];have:=b.mq;omega⟩
 ·simp only[St.fA,pz]at e;split at e
  ·rename_i c;cases e;unfold fh;exact .inl ⟨rfl,by rw[c];exact h⟩
  exact b.sat.obj d g e
 ·simp only[St.fA,pz]at i j;split at i
  ·rename_i c;rw[c,h]at s1;cases s1
  split at j
  ·rename_i c;rw[c,h]at s2;cases s2
  exact b.sat.apart d n g o l m k i j r s1 s2
 ·simp only[St.fA,pz]at e;split at e
  ·rename_i c;rw[c,h]at s;cases s
  exact b.sat.mR d g M e r s
 simp only[St.fA,pz]at e;split at e
 ·rename_i c;rw[c,h]at s;cases s
 exact b.own d g M e r s
end Go.Vg
end
section
namespace Go.Vg
variable[Go.Vg.df]
open Go.RowKit
theorem KA{P:Program}{te:TE}(a:hX P te){c:TypeId}(h:match dP te c with | .slice _=>True | .str=>True|_=>False):∃d,P.underlying c=some d/\∀k,d≠.int k:=by
 split at h
 ·rename_i e he;exact⟨_,gF a he,by intro k b;cases b⟩
 ·rename_i he;exact⟨_,ju a he,by intro k b;cases b⟩
 exact h.elim
theorem run_append_fits{P:Program}{te:TE}(b:hX P te){w w':World}{t e o:TypeId}{ti:TI}(q:dP te t=.slice e)(g:te e=some ti)(l:match dP te o with | .slice _=>True | .str=>True|_=>False){base:Option Addr}{len cap m:Nat}{x:Value}(hm:(Builtin.lenOf x).run P w=.ok m w)(r:TypeId){vs:List Value}(j:(Builtin.firstCells ti.size m x).run P w=.ok vs.toArray w)(c:len+m<=cap)(f:match base with|none=>w'=w|some a=>(storeCells (a.add (len*ti.size)) vs).run P w=.ok () w') :
  (Builtin.append_ #[t,o] r #[.slice base len cap,x]).run P w=.ok (.slice base (len+m) cap) w':=by
 obtain⟨d,hd,h⟩:=KA b l;obtain⟨i,u,n,p,_⟩:=(b e ti g).D0;unfold Builtin.append_;simp only[List.getElem?_toArray,List.getElem?_cons_zero,List.getElem?_cons_succ,Sem.run_bind,fx (gF b q),Result.andThen_ok,jb b g,fx hd,Sem.run_pure];cases d
 case int k=>exact absurd rfl (h k)
 all_goals
  simp only[bU,bG,Sem.run_bind,hm,Result.andThen_ok,ej,dy,aB c,j];cases base with
  |none=>subst f;simp
  |some s=>simp[f]
theorem pq{P:Program}{te:TE}(b:hX P te){w:World}{t e s:TypeId}{ti:TI}(B:dP te t=.slice e)(g:te e=some ti)(p:match dP te s with | .slice _=>True | .str=>True|_=>False){base:Option Addr}{len cap m:Nat}{x:Value}(hm:(Builtin.lenOf x).run P w=.ok m w)(D:TypeId){vs us:List Value}{z:Value}(o:∀n,(Builtin.firstCells ti.size m x).run P { w with drawn:=n }=.ok vs.toArray { w with drawn:=n })(l:∀n,(Builtin.firstCells ti.size len (.slice base len cap)).run P { w with drawn:=n }=.ok us.toArray { w with drawn:=n })(f:¬(len+m<=cap))(u:ti.bytes≠0)(c:(len+m)*ti.bytes<=140737488355328)(C:∀w,(zeroValue e).run P w=.ok z w) :
  ∃q,len+m<=q/\(Builtin.append_ #[t,s] D #[.slice base len cap,x]).run P w=.ok (.slice (some ⟨w.heap.size,0,none⟩) (len+m) q)
   { w with drawn:=w.drawn+1,heap:=w.heap.push (.cells (us.toArray++vs.toArray++Builtin.zeroCells z.cells (q-(len+m))) e) }:=by
 obtain⟨d,hd,j⟩:=KA b p;obtain⟨i,y,r,h,_⟩:=(b e ti g).D0;refine⟨(Question.appendCap (len+m) cap e).cut (w.tape w.drawn (Question.appendCap (len+m) cap e)),by simp only[Question.cut];omega, ?_⟩;have v:=QV (bytes:=ti.bytes) (show cap<len+m by omega) c;unfold Builtin.append_;simp only[List.getElem?_toArray,List.getElem?_cons_zero,List.getElem?_cons_succ,Sem.run_bind,fx (gF b B),Result.andThen_ok,jb b g,fx hd,Sem.run_pure];cases d
 case int k=>exact absurd rfl (j k)
 all_goals
  simp only[bU,bG,Sem.run_bind,hm,Result.andThen_ok,ej,dy,aA f,nw y,h,false_or,Sem.run_ite,u,and_false,Sem.run_pure,aA v,run_choose,Question.forced,run_askRoom,l,o,C,newRow,run_newObj]
theorem zu{A:kS}{σ:ey}{st:St}{a:Act}{w:World}(j:Rel A σ st a w){e:TypeId}{cells:Array Value}{sz n cap:Nat}{f:Nat->List SV}(nd:Nat)(b:cells.size=cap*sz)(m:n<=cap)(l:∀i k,i<n->k<sz->∃v,cells[i*sz+k]?=some v/\rel σ ((f i).getD k .u) v) :
  ∃σ',mi σ σ'/\rel σ' (.ew st.ctx.length 0 n) (.slice (some ⟨w.heap.size,0,none⟩) n cap)/\Rel A σ' (st.fA (.row false sz n f)) a { w with drawn:=nd,heap:=w.heap.push (.cells cells e) }:=by
 obtain⟨σ',w',c,d,g,h⟩:=AT (P:=default) (j.drawn nd) (elem:=e) b m l;simp only[newRow,Sem.run_bind,run_newObj,Result.andThen_ok,Sem.run_pure,Result.ok.injEq,cP]at c;subst c;exact⟨σ',d,g,h⟩
theorem xn{σ:ey}{sz len m b:Nat}{f g:Nat->List SV}{us vs:List Value}{z:Array Value}(hu:us.length=len*sz)(n:vs.length=m*sz)(t:z.size=sz)(s:len+m<=b)(o:∀j k,j<len->k<sz->∃y,us[j*sz+k]?=some y/\rel σ ((f j).getD k .u) y)(p:∀j k,j<m->k<sz->∃y,vs[j*sz+k]?=some y/\rel σ ((g j).getD k .u) y) :
  (us.toArray++vs.toArray++Builtin.zeroCells z (b-(len+m))).size=b*sz /\
  ∀i k,i<len+m->k<sz->∃v,(us.toArray++vs.toArray++Builtin.zeroCells z (b-(len+m)))[i*sz+k]?=some v/\rel σ ((lm len f g i).getD k .u) v:=by
 refine⟨?_,fun i k r l=>?_⟩
 ·simp only[Array.size_append,fQ,hu,n,Builtin.zeroCells,Array.size_map,Array.size_range,t];rw[<-eR,<-eR];congr 1;omega
 rw[FB];have q:i*sz+k<(us.toArray++vs.toArray).size:=by
  simp only[Array.size_append,fQ,hu,n,<-eR];have:i*sz+sz<=(len+m)*sz:=by rw[<-dG];exact cN _ r
  omega
 rw[Array.getElem?_append_left q];by_cases a:i<len
 ·rw[aB a];obtain⟨y,c,d⟩:=o i k a l;have e:i*sz+k<us.length:=by
   rw[hu];have:i*sz+sz<=len*sz:=by rw[<-dG];exact cN _ a
   omega
  refine⟨y, ?_,d⟩;rw[Array.getElem?_append_left (by simpa using e)];simpa using c
 rw[aA a];obtain⟨y,c,d⟩:=p (i-len) k (by omega) l;refine⟨y, ?_,d⟩;have h:us.length<=i*sz+k:=by rw[hu];have:len*sz<=i*sz:=cN _ (by omega);omega
 rw[Array.getElem?_append_right (by simpa using h)];simp only[fQ,List.getElem?_toArray,hu];rw[show i*sz+k-len*sz=(i-len)*sz+k by rw[Nat.sub_mul];have:len*sz<=i*sz:=cN _ (by omega);omega];exact c
theorem append_nil{P:Program}{te:TE}(c:hX P te){A:kS}{σ:ey}{st:St}{a:Act}{w:World}(y:Rel A σ st a w){t e C:TypeId}{ti:TI}(B:dP te t=.slice e)(d:te e=some ti)(l:match dP te C with | .slice _=>True | .str=>True|_=>False)(H:ti.zero.length=ti.size)(F:ti.bytes≠0){m:Nat}{g:Nat->List SV}{x:Value}(p:MN P σ w ti.size m g x)(s:TypeId)(b:m*ti.bytes<=140737488355328) :
  ∃v σ' w',(Builtin.append_ #[t,C] s #[.slice none 0 0,x]).run P w=.ok v w'/\mi σ σ'/\rel σ' (.ew st.ctx.length 0 m) v/\Rel A σ' (st.fA (.row false ti.size m g)) a w':=by
 obtain⟨vs,D,u,Q,E⟩:=p.Wv;by_cases hm:m=0
 ·subst hm;refine⟨.slice none 0 0,σ,w, ?_,mi.refl σ, ?_,y.R9 _ _⟩
  ·exact run_append_fits c B d l p.len s (by have:=u w.drawn;exact this) (aN _) rfl
  simp only[rel];exact⟨none,0,rfl,aN _,.inl rfl⟩
 obtain⟨z,q,_,r⟩:=yQ c (σ:=σ) d H;obtain⟨T,o,h⟩:=pq c (w:=w) B d l (base:=none) (len:=0) (cap:=0) p.len s (us:=[]) u (fun n=>by simp[Builtin.firstCells]) (by omega) F (by simpa using b) q;obtain⟨J,K⟩:=xn (σ:=σ) (len:=0) (f:=g) (us:=[]) (by simp) D r o (fun j k S=>by omega) E;obtain⟨σ',q1,q2,L⟩:=zu y (e:=e) (n:=m) (f:=g) (w.drawn+1) J (by omega) (fun i k R G=>by obtain⟨v,M,N⟩:=K i k (by omega) G;exact⟨v,M,by simpa[lm]using N⟩)
 refine⟨_,σ',_,h,q1, ?_,L⟩;simpa using q2
theorem HW{P:Program}{te:TE}(Q:hX P te){A:kS}{σ:ey}{st:St}{a:Act}{w:World}(d:Rel A σ st a w){t e xt:TypeId}{ti:TI}(ht:dP te t=.slice e)(R:te e=some ti)(Y:match dP te xt with | .slice _=>True | .str=>True|_=>False)(hz:ti.zero.length=ti.size)(hb:ti.bytes≠0){h l len n:Nat}{f:Nat->List SV}(E:st.ctx.at h=some (.row false ti.size n f))(ar:l+len<=n){m:Nat}{g:Nat->List SV}{s x:Value}(F:rel σ (.ew h l len) s)(hs:MN P σ w ti.size m g x)(ty:TypeId)(W:(len+m)*ti.bytes<=140737488355328) :
  ∃v σ' w',(Builtin.append_ #[t,xt] ty #[s,x]).run P w=.ok v w'/\mi σ σ'/\rel σ' (.ew st.ctx.length 0 (len+m)) v/\Rel A σ' ((st.setObj h none).fA (.row false ti.size (len+m) (lm len (fun j=>f (l+j)) g))) a w':=by
 obtain⟨vs,h1,h2,h3,h4⟩:=hs.Wv;have au:=xo E;simp only[rel]at F;obtain⟨S,cap,rfl,hl,F⟩:=F;have H:(st.setObj h none).ctx.length=st.ctx.length:=by simp[St.setObj]
 obtain⟨z,a7,_,a8⟩:=yQ Q (σ:=σ) R hz;have ao:∃us:List Value,us.length=len*ti.size/\(∀n,(Builtin.firstCells ti.size len (.slice S len cap)).run P { w with drawn:=n }=.ok us.toArray { w with drawn:=n }) /\
   ∀j k,j<len->k<ti.size->∃y,us[j*ti.size+k]?=some y/\rel σ ((f (l+j)).getD k .u) y:=by
  by_cases U:len=0
  ·subst U;refine⟨[],by simp,fun n=>?_,fun j k hj=>by omega⟩;cases S<;>simp[Builtin.firstCells,loadCells,loadCellsFrom]
  rcases F with F|⟨L,K,rfl,ab⟩
  ·omega
  rcases kC d.sat E rfl with⟨_,h0⟩|⟨L',c,e',fr,B,O⟩
  ·rw[h0]at K;cases K
  rw[B]at K;cases K;obtain⟨us,g1,g2,g3⟩:=G5 O l len ar;refine⟨us,g1,fun n'=>?_,g3⟩;have:=run_loadCells (P:=P) (w:={ w with drawn:=n' }) (off:=L.sh+l*L.sz+0) O.heap us g2;rw[g1]at this;simpa[Builtin.firstCells,addrOf]using this
 obtain⟨us,ay,az,a1⟩:=ao;by_cases D:len+m<=cap
 ·by_cases af:cap=0
  ·have U:len=0:=by omega
   have aw:m=0:=by omega
   subst U aw;refine⟨.slice S 0 cap,σ,w, ?_,mi.refl σ, ?_, ?_⟩
   ·have a6:vs=[]:=dj.1 (by simpa using h1);refine run_append_fits Q ht R Y hs.len ty (by have:=h2 w.drawn;exact this) D ?_;cases S with
    |none=>rfl
    |some S=>simp[a6,storeCells]
   ·simp only[rel];exact⟨S,cap,rfl,by omega,.inl af⟩
   exact(d.drop h).R9 _ _
  rcases F with F|⟨L,K,rfl,ab⟩
  ·omega
  rcases kC d.sat E rfl with⟨_,h0⟩|⟨L',c,e',fr,B,O⟩
  ·rw[h0]at K;cases K
  rw[B]at K;cases K;have X:L.sz=ti.size:=O.Br;have ae:=d.sat.gq h L B;have hmul:(l+cap)*ti.size=l*ti.size+cap*ti.size:=eR _ _ _;have ax:len*ti.size+m*ti.size<=cap*ti.size:=by rw[<-eR];exact cN _ D
  have ap:=O.room;rw[X,hmul]at ab;have ak:=nx (P:=P) (off:=L.sh+l*ti.size+len*ti.size) vs 0 w c O.heap h3 (by rw[h1];omega) (fun y u hh=>by rcases O.free rfl with h|h<;>omega);simp only[gl]at ak;have ah:Rel A (kR σ st.ctx.length ⟨L.b,L.sh+l*ti.size,L.av-l*ti.size,ti.size⟩) ((st.setObj h none).fA (.row false ti.size (len+m) (lm len (fun j=>f (l+j)) g))) a
    { w with heap:=w.heap.setIfInBounds L.b (.cells (lK c (L.sh+l*ti.size+len*ti.size) vs) e' fr) }:=by
   have hq:σ st.ctx.length=none:=d.sat.beyond _ (aN _);have hle:=uV (L:=⟨L.b,L.sh+l*ti.size,L.av-l*ti.size,ti.size⟩) hq;have N:∀y,dZ.at (((st.setObj h none).fA (.row false ti.size (len+m) (lm len (fun j=>f (l+j)) g))).ctx) y=if y=st.ctx.length then some (.row false ti.size (len+m) (lm len (fun j=>f (l+j)) g))else if y=h then none else st.ctx.at y:=by
    intro y;simp only[St.fA,pz,H,St.setObj,gw];by_cases u:y=st.ctx.length
    ·simp[u]
    rw[aA u,aA u,vJ _ _ _ _ au]
   have C:∀y o M,y≠h->st.ctx.at y=some o->σ y=some M->M.b≠L.b:=fun y o M u ho hM=>Ne.symm (d.sat.apart h y _ o L M (Ne.symm u) E ho rfl B hM);refine⟨d.defers,d.size,fun t=>jM hle (d.env t),⟨fun y o p=>?_,fun y1 y2 o1 o2 L1 L2 V I J r s1 s2=>?_,fun y u=>?_,fun y M p=>?_,fun b1 o1 I=>?_,fun y o M p r s=>?_,d.sat.E0⟩, ?_,fun y o M p r s=>?_,⟨fun y u=>?_,d.base.FP,d.base.LV⟩, ?_⟩
   ·rw[N]at p;split at p
    ·rename_i u;cases p;unfold fh;refine .inr ⟨⟨L.b,L.sh+l*ti.size,L.av-l*ti.size,ti.size⟩,lK c (L.sh+l*ti.size+len*ti.size) vs,e',fr,by simp[kR,u],⟨?_,rfl, ?_, ?_,fun i k hi hk=>?_,fun _=>?_⟩⟩
     ·simp only[jy,dy,aB ae]
     ·rw[l4];simp only;omega
     ·simp only[SO.n,SO.sz];rw[eR];omega
     ·simp only[SO.n,SO.sz,SO.el]at *;rw[ug _ _ _ _ (by rw[h1];omega),h1,FB];by_cases T:i<len
      ·rw[aB T];obtain⟨v,r1,r2⟩:=O.cell (l+i) k (by simp only[SO.n];omega) hk;have:i*ti.size+ti.size<=len*ti.size:=by rw[<-dG];exact cN _ T
       rw[aA (by omega)];refine⟨v, ?_,jM hle r2⟩;simp only[SO.sz]at r1;rw[show L.sh+l*ti.size+i*ti.size+k=L.sh+(l+i)*ti.size+k by rw[eR];omega];exact r1
      rw[aA T];obtain⟨v,r1,r2⟩:=h4 (i-len) k (by omega) hk;have bc:(i-len)*ti.size+ti.size<=m*ti.size:=by rw[<-dG];exact cN _ (by omega)
      have ba:i*ti.size=len*ti.size+(i-len)*ti.size:=by rw[<-eR];congr 1;omega
      rw[aB (by omega)];refine⟨v, ?_,jM hle r2⟩;rw[show L.sh+l*ti.size+i*ti.size+k-(L.sh+l*ti.size+len*ti.size)=(i-len)*ti.size+k by omega];exact r1
     rw[l4];exact O.free rfl
    rename_i u;split at p
    ·cases p
    rename_i aa;refine j2 hle (by simp[kR,u]) (fun M hM=>?_) (d.sat.obj y o p);simp only[jy,aA (C y o M aa p hM)]
   ·rw[N]at I J;simp only[kR]at s1 s2;split at I
    ·rename_i Z;rw[aB Z]at s1;cases s1;split at J
     ·rename_i G;omega
     rename_i G;rw[aA G]at s2;split at J
     ·cases J
     rename_i aa;exact Ne.symm (C y2 o2 L2 aa J s2)
    rename_i Z;rw[aA Z]at s1;split at I
    ·cases I
    rename_i al;split at J
    ·rename_i G;rw[aB G]at s2;cases s2;exact C y1 o1 L1 al I s1
    rename_i G;rw[aA G]at s2;split at J
    ·cases J
    exact d.sat.apart y1 y2 o1 o2 L1 L2 V I J r s1 s2
   ·simp only[St.fA,St.setObj,aC,gw,aH]at u;simp only[kR,aA (show y≠st.ctx.length by omega)];exact d.sat.beyond y (by omega)
   ·simp only[kR]at p;simp only[Array.size_setIfInBounds];split at p
    ·cases p;exact ae
    exact d.sat.gq y M p
   ·have V:b1≠L.b:=fun hh=>by rw[hh,EV,d.sat.mR h _ L E rfl B]at I;cases I
    simp only[jy,aA V];exact d.sat.pG b1 o1 I
   ·rw[N]at p;rw[EV];simp only[kR]at s;split at p
    ·rename_i u;rw[aB u]at s;cases s;exact d.sat.mR h _ L E rfl B
    rename_i u;rw[aA u]at s;split at p
    ·cases p
    exact d.sat.mR y o M p r s
   ·refine⟨d.fr.os,d.fr.tape,d.fr.output,by simpa using d.fr.size,fun b aq hd=>?_⟩;simp only[jy];rw[aA]
    ·exact d.fr.block b aq hd
    intro ee;subst ee;rcases d.own h _ L E rfl B with q|q
    ·exact hd q
    omega
   ·rw[N]at p;simp only[kR]at s;split at p
    ·rename_i u;rw[aB u]at s;cases s;exact d.own h _ L E rfl B
    rename_i u;rw[aA u]at s;split at p
    ·cases p
    exact d.own y o M p r s
   ·have:=d.mq;simp only[kR,aA (show y≠st.ctx.length by omega)];exact d.base.loc y u
   simp only[St.fA,St.setObj,aC,gw];have:=d.mq;omega
  refine⟨_,_,_,run_append_fits Q ht R Y hs.len ty (by have:=h2 w.drawn;exact this) D ?_,uV (d.sat.beyond _ (aN _)), ?_,ah⟩
  ·simp only[addrOf,qU,X,gl];exact ak
  simp only[rel];refine⟨_,_,rfl,D,.inr ⟨⟨L.b,L.sh+l*ti.size,L.av-l*ti.size,ti.size⟩,by simp[kR], ?_, ?_⟩⟩
  ·simp[addrOf,X]
  simp only[aX];omega
 obtain⟨nc,ag,aj⟩:=pq Q (w:=w) ht R Y (base:=S) (len:=len) (cap:=cap) hs.len ty (us:=us) h2 az D hb W a7;obtain⟨p1,p2⟩:=xn (σ:=σ) (f:=fun j=>f (l+j)) ay h1 a8 ag a1 h4;obtain⟨σ',q1,q2,q3⟩:=zu (d.drop h) (e:=e) (n:=len+m) (f:=lm len (fun j=>f (l+j)) g) (w.drawn+1) p1 ag p2;rw[H]at q2;exact⟨_,σ',_,aj,q1,q2,q3⟩
end Go.Vg
end
section
namespace Go.Vg
variable[Go.Vg.df]
open Go.RowKit
theorem Il{P:Program}{te:TE}(q:hX P te){A:kS}{σ:ey}{st:St}{a:Act}{w:World}(u:Rel A σ st a w){t e:TypeId}(C:dP te t=.slice e)(hu:jK te e=true){h D len sz n:Nat}{f:Nat->List SV}(b:st.ctx.at h=some (.row false sz n f))(hlen:0<len){v:Value}(r:rel σ (.ew h D len) v) :
  ∃w',(convert t t v).run P w=.ok v w'/\Rel A σ st a w':=by
 simp only[rel]at r;obtain⟨F,cap,rfl,G,r⟩:=r;rcases r with r|⟨L,s,rfl,B⟩
 ·omega
 rcases kC u.sat b rfl with⟨_,z⟩|⟨E,c,l,fr,d,i⟩
 ·rw[z]at s;cases s
 rw[d]at s;cases s;have y:=u.sat.gq h L d;have g:w.shape? L.b=some (l,c.size):=by simp[World.shape?,i.heap]
 have x:w.freeze ⟨L.b,c.size,none⟩ 1={ w with heap:=w.heap.setIfInBounds L.b (.cells c l (if fr.1==fr.2 then(c.size,c.size+1)else(min fr.1 c.size,max fr.2 (c.size+1)))) }:=by
  simp only[World.freeze,Nat.succ_ne_zero,bG];congr 1;apply Array.ext_getElem?;intro j;rw[Array.getElem?_modify,jy];by_cases m:L.b=j
  ·subst m;rw[aB rfl,aB rfl,aB y,i.heap];obtain⟨f1,f2⟩:=fr;simp
  rw[aA m,aA (Ne.symm m)]
 refine⟨{ w with heap:=w.heap.setIfInBounds L.b (.cells c l (if fr.1==fr.2 then(c.size,c.size+1)else(min fr.1 c.size,max fr.2 (c.size+1)))) }, ?_, ?_⟩
 ·have k:P.underlying e=some (.int .u8):=kh q (uS hu);simp only[convert,Sem.run_bind,fx (gF q C),Result.andThen_ok,beq_self_eq_true,fx k,markStringish,run_shape,addrOf,g,run_freeze,x,Sem.run_pure]
 have p:(st.setObj h (some (.row false sz n f)))=st:=by
  unfold St.setObj;have o:=xo b;have:st.ctx.set h (some (.row false sz n f))=st.ctx:=by
   have k:st.ctx[h]?=some (some (.row false sz n f)):=by unfold dZ.at at b;rw[aG,aS o]at b;rw[aS o];simpa using b
   apply List.ext_getElem?;intro j;rw[gE];split
   ·rename_i m;subst m;rw[k]
   rfl
  rw[this]
 have:=u.write (o':=.row false sz n f) b rfl rfl d (.cells c l (if fr.1==fr.2 then(c.size,c.size+1)else(min fr.1 c.size,max fr.2 (c.size+1)))) (by
  unfold fh;refine .inr ⟨L,c,l,(if fr.1==fr.2 then(c.size,c.size+1)else(min fr.1 c.size,max fr.2 (c.size+1))),d,⟨by simp only[jy,dy,aB y],i.Br,i.room,i.fits,i.cell,fun _=>?_⟩⟩;right;rcases i.free rfl with k|k
  ·simp[k]
  split
  ·exact aN _
  simp;omega)
 rw[p]at this;exact this
theorem r6{P:Program}{s:Sem Unit}{w w':World}(h:s.run P w=.ok () w'):((do s;pure .skip):Sem Next).run P w=.ok .skip w':=by simp[h]
theorem B3{P:Program}{te:TE}(d:hX P te){A:kS}{σ:ey}{st:St}{a:Act}{w:World}(k:Rel A σ st a w){t H:TypeId}(j:match dP te H with | .slice _=>True | .str=>True|_=>False){s x:SV}{vs G:Value}(y:rel σ s vs)(E:rel σ x G){K:SV->St->Prop}(B:TypeId)(h:yP te st t s x K) :
  ∃z st' v σ' w',K z st'/\(Builtin.append_ #[t,H] B #[vs,G]).run P w=.ok v w'/\mi σ σ'/\rel σ' z v/\Rel A σ' st' a w':=by
 unfold yP at h;split at h
 ·rename_i e D;split at h
  ·rename_i ti i;obtain⟨F,C,h⟩:=h;split at h
   ·obtain⟨m,g,h,c⟩:=Bq (P:=P) k E h;obtain⟨b,h⟩:=h.out;simp only[rel]at y;subst y;obtain⟨v,σ',w',l,o,p,q⟩:=append_nil d k D i j F C c B b;exact⟨_,_,v,σ',w',h,l,o,p,q⟩
   ·rename_i J L len;split at h
    ·rename_i I n f u;obtain⟨rfl,h⟩:=h;obtain⟨m,g,h,c⟩:=Bq (P:=P) k E h;obtain⟨⟨r,b⟩,h⟩:=h.out;obtain⟨v,σ',w',l,o,p,q⟩:=HW d k D i j F C u r y c B b;exact⟨_,_,v,σ',w',h,l,o,p,q⟩
    exact h.elim
   exact h.elim
  exact h.elim
 exact h.elim
theorem Jg{P:Program}{te:TE}(g:hX P te){A:kS}{σ:ey}{st:St}{a:Act}{w:World}(b:Rel A σ st a w){o:Oper}{K:SV->St->Prop}(h:pv te st o.op K):WH P A σ a w (execOp a.eval o) K:=by
 obtain⟨dst,op,ty,pos,after,guard⟩:=o;simp only at h |-
 unfold pv at h;split at h
 case h_1 t=>
  split at h
  ·rename_i ti H;obtain⟨v,σ',w',q,u,I,M⟩:=Fu g b H;exact⟨_,_,v,σ',w',h,.inl (gH q),u,I,M⟩
  exact h.elim
 case h_2 t x=>
  obtain⟨T,h⟩:=h;obtain⟨v,σ',w',q,u,I,M⟩:=LM (P:=P) b (t:=t) T (b.ev x);exact⟨_,_,v,σ',w',h,.inl (gH q),u,I,M⟩
 case h_3 t x y=>
  split at h
  ·rename_i U i k J;split at h
   ·rename_i ob ti B H;obtain⟨hm,Z,T,hlen,L,X,N,h⟩:=h;obtain⟨hi,h⟩:=h.out;obtain⟨w',q,u⟩:=G9 g b H B hm Z hi T hlen L X N (by have:=b.ev x;rw[J]at this;exact this) (b.ev y);exact⟨_,_,undef,σ,w',h,.inr ⟨r6 q,rfl⟩,mi.refl σ,by simp[rel],u⟩
   exact h.elim
  exact h.elim
 case h_4 t r=>
  obtain⟨Y,h⟩:=h;have S:∀O Q,dP te t=.map O Q->(Instr.makeMap t (r.map a.eval)).run P w=.ok (.map (some w.heap.size)) { w with heap:=w.heap.push (.map #[] 0) }:=by
   intro O Q E;cases r with
   |none=>simp[Instr.makeMap]
   |some x=>
    simp only at Y;split at Y
    ·rename_i k n J;have:=b.ev x;rw[J]at this;simp only[rel]at this;simp[Instr.makeMap,fx (EU g E),this,asInt,asIntOf]
    exact Y.elim
  split at h
  ·rename_i O Q E;split at h
   ·obtain⟨σ',q,u,I⟩:=sV (P:=P) b (.jY []) rfl rfl rfl;exact⟨_,_,_,σ',_,h,.inl (gH (S O Q E)),q,u,I⟩
   ·obtain⟨σ',q,u,I⟩:=sV (P:=P) b (.nE []) rfl rfl rfl;exact⟨_,_,_,σ',_,h,.inl (gH (S O Q E)),q,u,I⟩
   exact h.elim
  exact h.elim
 case h_5 t m k x=>
  split at h
  ·rename_i U s v O Q hm N J E;split at h
   ·rename_i l B;obtain⟨G,h⟩:=h;have C:=b.ev m;have D:=b.ev k;have F:=b.ev x;rw[hm]at C;rw[N]at D;rw[J]at F;simp only[rel]at D F;obtain⟨w',q,u⟩:=mz g b Q4 E (ju g G) (o':=.jY (updS l s v)) (x:=v) B rfl rfl rfl rfl rfl rfl C;refine⟨_,_,undef,σ,w',h,.inr ⟨r6 ?_,rfl⟩,mi.refl σ,by simp[rel],u⟩;rw[D,F];exact q
   exact h.elim
  ·rename_i U s v O Q hm N J E;split at h
   ·rename_i l B;obtain⟨G,h⟩:=h;have C:=b.ev m;have D:=b.ev k;have F:=b.ev x;rw[hm]at C;rw[N]at D;rw[J]at F;simp only[rel]at D F;obtain⟨w',q,u⟩:=mz g b Q3 E (kh g G) (o':=.nE (updS l s v)) (x:=v) B rfl rfl rfl rfl rfl rfl C;refine⟨_,_,undef,σ,w',h,.inr ⟨r6 ?_,rfl⟩,mi.refl σ,by simp[rel],u⟩;rw[D,F];exact q
   exact h.elim
  exact h.elim
 case h_6 t m k x=>
  split at h
  ·rename_i U s v O Q hm N J E;split at h
   ·rename_i l B;obtain⟨G,h⟩:=h;have C:=b.ev m;have D:=b.ev k;have F:=b.ev x;rw[hm]at C;rw[N]at D;rw[J]at F;simp only[rel]at D F;obtain⟨w',q,u⟩:=mz g b Q4 E (ju g G) (o':=.jY (updS l s v)) (x:=v) B rfl rfl rfl rfl rfl rfl C;refine⟨_,_,undef,σ,w',h,.inr ⟨r6 ?_,rfl⟩,mi.refl σ,by simp[rel],u⟩;rw[D,F];exact q
   exact h.elim
  ·rename_i U s v O Q hm N J E;split at h
   ·rename_i l B;obtain⟨G,h⟩:=h;have C:=b.ev m;have D:=b.ev k;have F:=b.ev x;rw[hm]at C;rw[N]at D;rw[J]at F;simp only[rel]at D F;obtain⟨w',q,u⟩:=mz g b Q3 E (kh g G) (o':=.nE (updS l s v)) (x:=v) B rfl rfl rfl rfl rfl rfl C;refine⟨_,_,undef,σ,w',h,.inr ⟨r6 ?_,rfl⟩,mi.refl σ,by simp[rel],u⟩;rw[D,F];exact q
   exact h.elim
  exact h.elim
 case h_7 t len parts=>
  split at h
  ·rename_i e E;split at h
   ·rename_i ti H;obtain⟨hz,hlen,L,h⟩:=h;split at h
    ·rename_i l hf;obtain⟨v,σ',w',q,u,I,M⟩:=vK g b E H hz hlen (ps:=parts.toList.map fun p=>(p.1,st.ev p.2)) (vs:=parts.map fun p=>(p.1,a.eval p.2)) (by simp) (by intro j i x hj;simp only[cu,cK,eb]at hj;obtain⟨p,hp,rfl,rfl⟩:=hj;refine⟨a.eval p.2, ?_,cx.1 L p (dJ hp),b.ev p.2⟩;simp[hp]) hf
     exact⟨_,_,v,σ',w',h,.inl (gH q),u,I,M⟩
    exact h.elim
   exact h.elim
  exact h.elim
 case h_8 t l c=>
  split at h
  ·rename_i e n m E hl hc;split at h
   ·rename_i ti H;obtain⟨hz,h⟩:=h;obtain⟨⟨b0,b1,b2,b3⟩,h⟩:=h.out;obtain⟨v,σ',w',q,u,I,M⟩:=ye g b E H hz b0 b1 b2 b3;refine⟨_,_,v,σ',w',h,.inl (gH ?_),u,I,M⟩;have C:=b.ev l;have D:=b.ev c;rw[hl]at C;rw[hc]at D;simp only[rel]at C D;rw[C,D];exact q
   exact h.elim
  exact h.elim
 case h_9 s d x=>
  obtain⟨rfl,h⟩:=h;split at h
  ·rename_i U lo len e J E;obtain⟨hu,hlen,R,h⟩:=h;split at R
   ·rename_i sz n f B;have C:=b.ev x;rw[J]at C;obtain⟨w',q,u⟩:=Il g b E hu B hlen C;exact⟨_,_,_,σ,w',h,.inl (gH q),mi.refl σ,C,u⟩
   exact R.elim
  exact h.elim
 case h_10 args ts=>
  split at h
  ·rename_i s x t xt ha aa;obtain⟨ab,h⟩:=h;have W:args=#[s,x]:=by rw[<-ed];simpa using ha
   have V:ts=#[t,xt]:=by rw[<-ed];simpa using aa
   subst W V;obtain⟨z,st',v,σ',w',hK,q,u,I,M⟩:=B3 g b ab (b.ev s) (b.ev x) ty h;refine⟨z,st',v,σ',w',hK,.inl ?_,u,I,M⟩;simp[execOp,resolve,invoke,builtin,q]
  exact h.elim
 case h_11=>exact h.elim
end Go.Vg
end
