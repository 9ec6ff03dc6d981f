/- Own text: part VAI. -/
import Derived.Test.YtgippllfnmdnpaaGreatDoorVAH
set_option linter.all false
namespace Go.Vg
variable[Go.Vg.df]
open Go.RowKit
theorem Rel.Vn{A:kS}{σ:ey}{st:St}{a:Act}{w:World}(m:Rel A σ st a w){W:List Nat}{ph gr:Bool}(B:gr=true->A.gr=true)(Q:ph=true->∀h,W.contains h=true->∃o,st.ctx.at h=some o/\o.ro=false){σ':ey}{s:St}{T:Act}{w':World}(f:Rel (ya W st.ctx σ w A.nt ph gr) σ' s T w')(hn:da st.ctx.length s.ctx) :
  Rel A σ' ⟨s.env,qM (if ph then W else[]) 0 st.ctx s.ctx⟩ T w':=by
 have c:∀h,h<st.ctx.length->σ' h=σ h:=f.base.loc;have hle:=F6 m c f.base.FP;have hlen:st.ctx.length<=s.ctx.length:=f.mq;have lt:∀h L,h<st.ctx.length->σ' h=some L->L.b<w.heap.size:=fun h L d k=>m.sat.gq h L (by rw[<-c h d];exact k);have kind:∀h o,dZ.at (qM (if ph then W else[]) 0 st.ctx s.ctx) h=some o ->
   (h<st.ctx.length/\st.ctx.at h=some o/\(ph=true->W.contains h=false))\/(h<st.ctx.length/\ph=true/\W.contains h=true/\s.ctx.at h=some o)\/(st.ctx.length<=h/\s.ctx.at h=some o):=by
  intro h o e;rw[Lu _ _ _ _ _ hlen,aX]at e;by_cases d:h<st.ctx.length/\(if ph then W else[]).contains h=false
  ·rw[aB d]at e;refine .inl ⟨d.1,e,fun hp=>?_⟩;rw[aB hp]at d;exact d.2
  rw[aA d]at e;by_cases E:h<st.ctx.length
  ·have y:¬(if ph then W else[]).contains h=false:=fun x=>d ⟨E,x⟩;cases ph with
   |false=>simp at y
   |true=>exact .inr (.inl ⟨E,rfl,by simpa using y,e⟩)
  exact .inr (.inr ⟨by omega,e⟩)
 have t:∀h o L,st.ctx.at h=some o->(ph=true->W.contains h=false)->σ h=some L->¬(ph=true/\wB W st.ctx σ L.b):=fun h o L O hw k ⟨hp,n⟩=>Hk m W (hw hp) O k n;have M:∀h o L,st.ctx.length<=h->s.ctx.at h=some o->σ' h=some L->(ph=true/\wB W st.ctx σ L.b)\/w.heap.size<=L.b:=fun h o L d e k=>f.own h o L e (hn.get d e) k;have g:∀h o L,h<st.ctx.length->st.ctx.at h=some o->(ph=true->W.contains h=false)->σ' h=some L ->
   ∀j o' v,((j<st.ctx.length/\ph=true/\W.contains j=true/\s.ctx.at j=some o')\/(st.ctx.length<=j/\s.ctx.at j=some o'))->σ' j=some v->L.b≠v.b:=by
  intro h o L d O hw k j o' v Z H he;have I:σ h=some L:=by rw[<-c h d];exact k
  rcases Z with⟨p,hp,u,i⟩|⟨p,i⟩
  ·obtain⟨q,q1,q2⟩:=Q hp j u;exact t h o L O hw I ⟨hp,j,q,v,u,q1,q2,by rw[<-c j p];exact H,he.symm⟩
  rcases M j o' v p i H with n|n
  ·rw[<-he]at n;exact t h o L O hw I n
  have:=lt h L d k;omega
 refine⟨f.defers,f.size,f.env,⟨fun h o e=>?_,fun h j o o' L v J X U l s1 s2=>?_,fun h d=>f.sat.beyond h (by simpa[r9]using d),f.sat.gq,f.sat.pG,fun h o L e l k=>?_,f.sat.E0⟩, ?_,fun h o L e l k=>?_,⟨fun h d=>?_,fun b o h=>f.base.FP b o (m.base.FP b o h),fun b o h=>?_⟩, ?_⟩
 ·rcases kind h o e with⟨d,i,hw⟩|⟨_,_,_,i⟩|⟨_,i⟩
  ·exact j2 hle (c h d) (fun L k=>f.fr.block _ (m.sat.gq h L k) (t h o L i hw k)) (m.sat.obj h o i)
  ·exact f.sat.obj h o i
  exact f.sat.obj h o i
 ·rcases kind h o X with⟨d,D,hw⟩|V
  ·rcases kind j o' U with⟨p,z,u⟩|S
   ·exact m.sat.apart h j o o' L v J D z l (by rw[<-c h d];exact s1) (by rw[<-c j p];exact s2)
   exact g h o L d D hw s1 j o' v S s2
  rcases kind j o' U with⟨p,z,u⟩|S
  ·exact fun he=>g j o' v p z u s2 h o L V s1 he.symm
  have g1:s.ctx.at h=some o:=by rcases V with⟨_,_,_,x⟩|⟨_,x⟩<;>exact x
  have g2:s.ctx.at j=some o':=by rcases S with⟨_,_,_,x⟩|⟨_,x⟩<;>exact x
  exact f.sat.apart h j o o' L v J g1 g2 l s1 s2
 ·rcases kind h o e with⟨d,i,hw⟩|⟨_,_,_,i⟩|⟨_,i⟩
  ·cases hz:σ'.fz L.b with
   |none=>rfl
   |some x=>
    rcases grow f hz with this|⟨_,this|this⟩
    ·rw[m.sat.mR h o L i l (by rw[<-c h d];exact k)]at this;cases this
    ·exact absurd this (t h o L i hw (by rw[<-c h d];exact k))
    have:=lt h L d k;omega
  ·exact f.sat.mR h o L i l k
  exact f.sat.mR h o L i l k
 ·refine m.fr.step f.fr fun b hb ⟨_,h,o,L,E,y,F,G,Y⟩=>?_;rcases m.own h o L y F G with n|n
  ·rwa[Y]at n
  omega
 ·have up:∀b,(ph=true/\wB W st.ctx σ b)->A.D b\/A.w0.heap.size<=b:=by rintro b ⟨_,h,o,L,E,y,F,G,rfl⟩;exact m.own h o L y F G
  rcases kind h o e with⟨d,i,hw⟩|⟨_,_,_,i⟩|⟨_,i⟩
  ·exact m.own h o L i l (by rw[<-c h d];exact k)
  ·rcases f.own h o L i l k with n|n
   ·exact up _ n
   exact .inr (cv m.fr.size n)
  rcases f.own h o L i l k with n|n
  ·exact up _ n
  exact .inr (cv m.fr.size n)
 ·have:h<st.ctx.length:=dA d m.mq;rw[c h this];exact m.base.loc h d
 ·rcases grow f h with h|⟨R,⟨_,j,o',L,E,y,F,G,rfl⟩|h⟩
  ·exact m.base.LV b o h
  ·rcases m.own j o' L y F G with n|n
   ·exact .inr ⟨B R,.inl n⟩
   exact .inr ⟨B R,.inr n⟩
  exact .inr ⟨B R,.inr (cv m.fr.size h)⟩
 show A.k<=(qM _ _ _ _).length;rw[r9];exact cv m.mq hlen
theorem Rel.masked{A:kS}{σ:ey}{st:St}{a:Act}{w:World}(b:Rel A σ st a w)(W:List Nat)(c0:dZ):Rel A σ ⟨st.env,kI W 0 c0 st.ctx⟩ a w:=by refine⟨b.defers,b.size,b.env,⟨fun h o e=>b.sat.obj h o (mU e).2.2,fun h i o o' L d c f g=>b.sat.apart h i o o' L d c (mU f).2.2 (mU g).2.2,fun h j=>b.sat.beyond h (by simpa[pO]using j),b.sat.gq,b.sat.pG,fun h o L e=>b.sat.mR h o L (mU e).2.2,b.sat.E0⟩,b.fr,fun h o L e=>b.own h o L (mU e).2.2,b.base, ?_⟩;show A.k<=(kI W 0 c0 st.ctx).length;rw[pO];exact b.mq
theorem A5{P:Program}{ops:Array Oper}{Q:Exit->Act->World->Prop}{wrs:List Nat}{S0 S1:World->Prop}{rs:List Nat}{b:Nat}{listed:Array Bool}{a:Act}{w:World}(d:Region.ready .any ops listed=rs)(c:rs≠[])(h:∀i∈rs,wpOp P ops Q i (fun e w'=>l7 wrs S0 S1 (listed.setIfInBounds i true) w'/\iE P ops Q wrs S0 S1 b (listed.setIfInBounds i true) e w') a w):iE P ops Q wrs S0 S1 (b+1) listed a w:=
 ⟨fun f=>absurd (d.symm.trans f) c,fun i g=>h i (by rw[<-d];exact g)⟩
theorem yY{P:Program}{te:TE}(s:hX P te){wr:Bool}{pt:PT}{ops:Array Oper}{A:kS}{σ:ey}{st:St}{a:Act}{w:World}(n:Rel A σ st a w){o:Oper}(x:eG te o.op=0){K:St->Prop}(h:lr P te wr A.nt pt false ops st o K):∃v st',K st'/\YieldsIf P ops (fun _=>True) o v a/\Rel A σ st' (a.put o.dst v) w:=by
 have one:∀{g c:Bool},(g=false->c=true)->py P te wr A.nt pt g c st o K ->
   (c=true->∃v st',K st'/\(∀w',(execOp a.eval o).run P w'=.ok (.value v) w')/\Rel A σ st' (a.put o.dst v) w)/\(c=false->∃st',K st'/\Rel A σ st' (a.put o.dst undef) w):=by
  intro g c q h;unfold py at h;rw[x]at h;simp only at h;obtain⟨z,C,B⟩:=sf s n h;obtain⟨D,E⟩:=tu n C q;refine⟨fun f=>?_,fun f=>E f⟩;obtain⟨v,y,i⟩:=B f;obtain⟨st',e,k⟩:=D v f y;exact⟨v,st',e,fun w'=>i w',k⟩
 unfold lr at h;split at h
 ·rename_i p;obtain⟨v,st',e,k,l⟩:=(one (fun _=>rfl) h).1 rfl;exact⟨v,st',e,.inl ⟨by simp[Region.wanted,p],fun w' _=>k w'⟩,l⟩
 rename_i j want p;split at h
 ·exact h.elim
 rename_i d hd;obtain⟨c,h,f⟩:=pH n.env hd h;have hw:Region.wanted o (yielded ops a.tmps)=c:=by simp only[Region.wanted,p,f]
 simp only[bU,bG]at h;obtain⟨q1,q2⟩:=one (g:=true) (fun h=>by cases h) h;cases c with
 |true=>
  obtain⟨v,st',e,k,l⟩:=q1 rfl;exact⟨v,st',e,.inl ⟨hw,fun w' _=>k w'⟩,l⟩
 |false=>obtain⟨st',e,l⟩:=q2 rfl;exact⟨undef,st',e,.inr ⟨hw,rfl⟩,l⟩
def qC(te:TE)(ops:Array Oper):Sc->Bool
 | .q0 i _ r=>(match ops[i]? with|some o=>eG te o.op==0|none=>false)&&qC te ops r
 | .q1 i r=>(match ops[i]? with|some o=>eG te o.op==0|none=>false)&&qC te ops r
 | .de _ r o=>qC te ops r&&qC te ops o
 | .sw r=>qC te ops r
 | .fin=>true
 |_=>false
def LW(te:TE)(ops:Array Oper):Sc->Bool
 | .q0 _ _ r=>LW te ops r
 | .q1 _ r=>LW te ops r
 | .de _ r o=>qC te ops r&&LW te ops o
 | .sw r=>LW te ops r
 | .fin=>true
 |_=>false
def GI(te:TE)(ops:Array Oper)(gr:Bool)(σ:ey)(a:Sc)(σ':ey):Prop:=(WE σ σ'/\(gr=true->LW te ops a=true))\/qC te ops a=true
theorem TG{P:Program}{te:TE}(ag:hX P te){wr:Bool}{pt:PT}(bo:s9 P pt){ops:Array Oper}(ax:Region.noSelect ops=true){W:List Nat}{K:St->Prop}{A:kS}{σ:ey}{st:St}{a0:Act}{w:World}(hR:Rel A σ st a0 w){wrs:List Nat}(bi:pt.gr=true->A.gr=true) :
  ∀(S:Sc) (hd ph:Bool) (listed:Array Bool) (σ':ey) (s:St) (a:Act) (w':World) (d:Nat),ld ops wrs hd ph S listed=true->XD P te wr A.nt pt ops W st.ctx K hd ph S s ->
   (ph=true->∀h,W.contains h=true->∃o,st.ctx.at h=some o/\o.ro=false)->Rel (ya W st.ctx σ w A.nt ph pt.gr) σ' s a w'->GI te ops pt.gr σ S σ' ->
   l7 wrs (Fr (fun _=>False) w) (Fr (wB W st.ctx σ) w) listed w'->sR S<=d ->
   (hd=true->iE P ops (fun e G t=>e=.normal/\∃n st',K st'/\Rel A n st' G t) wrs (Fr (fun _=>False) w) (Fr (wB W st.ctx σ) w) d listed a w') /\
   (∀f,d=f+1->∀i∈kx S,wpOp P ops (fun e G t=>e=.normal/\∃n st',K st'/\Rel A n st' G t) i (fun G w'=>l7 wrs (Fr (fun _=>False) w) (Fr (wB W st.ctx σ) w) (listed.setIfInBounds i true) w' /\
    iE P ops (fun e G t=>e=.normal/\∃n st',K st'/\Rel A n st' G t) wrs (Fr (fun _=>False) w) (Fr (wB W st.ctx σ) w) f (listed.setIfInBounds i true) G w') a w'):=by
 intro S;have T:∀(r:Sc) (ph:Bool) (listed:Array Bool) (σ':ey) (s:St) (a:Act) (w':World) (d:Nat),
   (∀(hd ph:Bool) (listed:Array Bool) (σ':ey) (s:St) (a:Act) (w':World) (d:Nat),ld ops wrs hd ph r listed=true->XD P te wr A.nt pt ops W st.ctx K hd ph r s ->
   (ph=true->∀h,W.contains h=true->∃o,st.ctx.at h=some o/\o.ro=false)->Rel (ya W st.ctx σ w A.nt ph pt.gr) σ' s a w'->GI te ops pt.gr σ r σ' ->
   l7 wrs (Fr (fun _=>False) w) (Fr (wB W st.ctx σ) w) listed w'->sR r<=d ->
   (hd=true->iE P ops (fun e G t=>e=.normal/\∃n st',K st'/\Rel A n st' G t) wrs (Fr (fun _=>False) w) (Fr (wB W st.ctx σ) w) d listed a w')) ->
   (ph=true->∀h,W.contains h=true->∃o,st.ctx.at h=some o/\o.ro=false)->Rel (ya W st.ctx σ w A.nt ph pt.gr) σ' s a w'->WE σ σ'->GI te ops pt.gr σ r σ'->l7 wrs (Fr (fun _=>False) w) (Fr (wB W st.ctx σ) w) listed w' ->
   ∀(i:Nat) (V:List Nat) (Sx:World->Prop) (ok:Array Bool->Prop),(∀J,Sx J->∀h L,(st.ctx.at h).isSome=true->V.contains h=false->σ h=some L->J.heap[L.b]?=w.heap[L.b]?)->(∀J,Sx J->∀b o,σ.fz b=some o->J.heap[b]?=some o) ->
    (∀l J,ok l->l7 wrs (Fr (fun _=>False) w) (Fr (wB W st.ctx σ) w) l J->Sx J) ->
    (∀l j,ok l->l.getD i true=false->j∈Region.ready .any ops l->j≠i->ok (l.setIfInBounds j true))->ok listed ->
    Region.free .any ops listed i=true->(Region.ready .any ops listed).contains i=true->i ∉ wrs->ld ops wrs true ph r (listed.setIfInBounds i true)=true->sR r+1<=d ->
    (match ops[i]? with|some o=>XQ P te wr A.nt pt ops V st.ctx o (XD P te wr A.nt pt ops W st.ctx K true ph r) s|none=>False) ->
    iE P ops (fun e G t=>e=.normal/\∃n st',K st'/\Rel A n st' G t) wrs (Fr (fun _=>False) w) (Fr (wB W st.ctx σ) w) d listed a w':=by
  intro r ph listed σ' s a w' d ih y u O z k;have E:∀h,h<st.ctx.length->σ' h=σ h:=u.base.loc;intro i V Sx ok ak bb ab az ay N I Z R bh D;obtain⟨f,rfl⟩:∃f,d=f+1:=⟨d-1,by omega⟩
  cases Q:ops[i]? with
  |none=>rw[Q]at D;exact D.elim
  |some o=>
   rw[Q]at D;obtain⟨hq,D⟩:=D;have hm:=u.masked V st.ctx;obtain⟨v,st',k1,k2,k3⟩:=xm ag hm hq D (Sx:=Sx) (fun J F h L af hL=>by
    cases hh:dZ.at (kI V 0 st.ctx s.ctx) h with
    |none=>
     have:(dZ.at (kI V 0 st.ctx s.ctx) h).isSome=true:=af;rw[hh]at this;cases this
    |some o' =>
     obtain⟨m1,m2,m3⟩:=mU hh;rw[aX]at m1;have ae:h<st.ctx.length:=by
      cases hc:st.ctx.at h with
      |none=>rw[hc]at m2;cases m2
      |some q=>exact xo hc
     have aj:σ h=some L:=by rw[<-E h ae];exact hL
     rw[ak J F h L m2 m1 aj,ak w' (ab listed w' ay k) h L m2 m1 aj]) (fun J F b o U=>bb J F b o (O b o U))
   refine mA ok Q Z (Region.noSelect_spec ax) (fun c a w h=>by cases h.1) ab az f listed a w' (Region.free_spec Q N) (by simpa using I) ay k2 k ?_;refine ih true ph (listed.setIfInBounds i true) σ' ⟨st'.env,s.ctx⟩ _ w' f R k1 y ⟨k3.defers,k3.size,k3.env,u.sat,u.fr,u.own,u.base,u.mq⟩ z ?_ (by omega) rfl;refine⟨fun h=>k.1 fun j H=>?_,k.2⟩;have:=h j H;rwa[gG false (show i≠j from fun e=>Z (by rw[e];exact H))]at this
 have aa:∀(r:Sc) (ph:Bool) (listed:Array Bool) (σ':ey) (s:St) (a:Act) (w':World) (d:Nat),
   (∀(hd ph:Bool) (listed:Array Bool) (σ':ey) (s:St) (a:Act) (w':World) (d:Nat),ld ops wrs hd ph r listed=true->XD P te wr A.nt pt ops W st.ctx K hd ph r s ->
   (ph=true->∀h,W.contains h=true->∃o,st.ctx.at h=some o/\o.ro=false)->Rel (ya W st.ctx σ w A.nt ph pt.gr) σ' s a w'->GI te ops pt.gr σ r σ' ->
   l7 wrs (Fr (fun _=>False) w) (Fr (wB W st.ctx σ) w) listed w'->sR r<=d ->
   (hd=true->iE P ops (fun e G t=>e=.normal/\∃n st',K st'/\Rel A n st' G t) wrs (Fr (fun _=>False) w) (Fr (wB W st.ctx σ) w) d listed a w')) ->
   (ph=true->∀h,W.contains h=true->∃o,st.ctx.at h=some o/\o.ro=false)->Rel (ya W st.ctx σ w A.nt ph pt.gr) σ' s a w'->GI te ops pt.gr σ r σ'->l7 wrs (Fr (fun _=>False) w) (Fr (wB W st.ctx σ) w) listed w' ->
   ∀(i:Nat) (V:List Nat),(match ops[i]? with|some o=>eG te o.op==0|none=>false)=true ->
    Region.free .any ops listed i=true->(Region.ready .any ops listed).contains i=true->i ∉ wrs->ld ops wrs true ph r (listed.setIfInBounds i true)=true->sR r+1<=d ->
    (match ops[i]? with|some o=>XQ P te wr A.nt pt ops V st.ctx o (XD P te wr A.nt pt ops W st.ctx K true ph r) s|none=>False) ->
    iE P ops (fun e G t=>e=.normal/\∃n st',K st'/\Rel A n st' G t) wrs (Fr (fun _=>False) w) (Fr (wB W st.ctx σ) w) d listed a w':=by
  intro r ph listed σ' s a w' d ih y u z k i V aq N I Z R bh D;obtain⟨f,rfl⟩:∃f,d=f+1:=⟨d-1,by omega⟩
  cases Q:ops[i]? with
  |none=>rw[Q]at D;exact D.elim
  |some o=>rw[Q]at D aq;obtain⟨hq,D⟩:=D;have hm:=u.masked V st.ctx;obtain⟨v,st',k1,k2,k3⟩:=yY ag hm (by simpa using aq) D;refine mA (fun _=>True) Q Z (Region.noSelect_spec ax) (fun c a w h=>by cases h.1) (fun l J hl hs=>trivial) (fun l j hl bk H aw=>trivial) f listed a w' (Region.free_spec Q N) (by simpa using I) trivial k2 k ?_;refine ih true ph (listed.setIfInBounds i true) σ' ⟨st'.env,s.ctx⟩ _ w' f R k1 y ⟨k3.defers,k3.size,k3.env,u.sat,u.fr,u.own,u.base,u.mq⟩ z ?_ (by omega) rfl;refine⟨fun h=>k.1 fun j H=>?_,k.2⟩;have:=h j H;rwa[gG false (show i≠j from fun e=>Z (by rw[e];exact H))]at this
 induction S with
 |seq is=>intro hd ph listed σ' s a w' d m;simp[ld]at m
 |g r _=>intro hd ph listed σ' s a w' d m;simp[ld]at m
 |fin=>
  intro hd ph listed σ' s a w' d m C y u z k _;refine⟨fun ad=>?_,fun f _ i hi=>by simp[kx]at hi⟩;subst ad;simp only[ld,dQ,cX,gg]at m;simp only[XD]at C;exact xY m ⟨rfl,σ',_,C.2,hR.Vn bi y u C.1⟩ d
 |q0 i B r ih=>
  intro hd ph listed σ' s a w' d m C y u z k p;have E:∀h,h<st.ctx.length->σ' h=σ h:=u.base.loc;simp only[ld,aD,aR]at m;obtain⟨⟨⟨⟨⟨⟨⟨⟨⟨bg,h1⟩,h2⟩,h3⟩,h4⟩,h5⟩,h6⟩,h7⟩,h8⟩,h9⟩:=m;simp only[XD]at C;refine⟨fun _=>?_,fun f _ i hi=>by simp[kx]at hi⟩;rcases z with⟨O,M⟩|M
  rotate_left
  ·simp only[qC,aD]at M;exact aa r ph listed σ' s a w' d (fun hd ph l σ' s a w' fu x1 x2 x3 x4 x5 x6 x7=>(ih hd ph l σ' s a w' fu x1 x2 x3 x4 x5 x6 x7).1) y u (.inr M.2) k i [] M.1 h2 h3 (by simpa using h4) h9 (by simpa[sR]using p) C
  refine T r ph listed σ' s a w' d (fun hd ph l σ' s a w' fu x1 x2 x3 x4 x5 x6 x7=>(ih hd ph l σ' s a w' fu x1 x2 x3 x4 x5 x6 x7).1) y u O (.inl ⟨O,fun h=>by simpa only[LW]using M h⟩) k i [] (Fr (fun _=>False) w) (fun l=>∀b∈B,l.getD b true=false) (fun J F h L _ _ hL=>F.block _ (hR.sat.gq h L hL) (fun x=>x)) (fun J F b o U=>(F.block b (Nz hR U) (fun x=>x)).trans (hR.sat.pG b o U)) (fun l J hl hs=>hs.1 fun j H=>?_) (fun l j hl bk H aw b U=>?_) ?_ h2 h3 (by simpa using h4) h9 (by simpa[sR]using p) C
  ·have bj:j∈B:=by rw[cx]at h5;simpa using h5 j H
   have:=hl j bj;rcases aU j l.size with X|X
   ·simp[X]at this |-;exact this
   simp[bZ X]
  ·by_cases ap:j=b
   ·subst ap;rw[cx]at h6;have:=h6 j U;simp only[aV,dx]at this;rcases this with D|D
    ·exact absurd D aw
    unfold waits at D;obtain⟨bw,oj,bm,ao⟩:=mem_ready.1 H;rw[bm]at D;simp only[Array.any_eq_true,aD,List.contains_iff_mem]at D;obtain⟨q,hq,bd,bf⟩:=D;have e1:=ao _ (Array.getElem_mem hq) bd;have e2:=hl _ (by simpa using bf);rcases aU (oj.after[q]).on l.size with X|X
    ·simp[X]at e1 e2;rw[e2]at e1;cases e1
    simp[bZ X]at e1
   rw[gG true ap];exact hl b U
  ·intro b U;rw[cx]at h7;simpa[Wu]using h7 b U
 |q1 i r ih=>
  intro hd ph listed σ' s a w' d m C y u z k p;have E:∀h,h<st.ctx.length->σ' h=σ h:=u.base.loc;simp only[ld,aD,aR]at m;obtain⟨⟨⟨⟨bg,h2⟩,h3⟩,h4⟩,h9⟩:=m;simp only[XD]at C;refine⟨fun _=>?_,fun f _ i hi=>by simp[kx]at hi⟩;rcases z with⟨O,M⟩|M
  rotate_left
  ·simp only[qC,aD]at M;exact aa r ph listed σ' s a w' d (fun hd ph l σ' s a w' fu x1 x2 x3 x4 x5 x6 x7=>(ih hd ph l σ' s a w' fu x1 x2 x3 x4 x5 x6 x7).1) y u (.inr M.2) k i W M.1 h2 h3 (by simpa using h4) h9 (by simpa[sR]using p) C
  refine T r ph listed σ' s a w' d (fun hd ph l σ' s a w' fu x1 x2 x3 x4 x5 x6 x7=>(ih hd ph l σ' s a w' fu x1 x2 x3 x4 x5 x6 x7).1) y u O (.inl ⟨O,fun h=>by simpa only[LW]using M h⟩) k i W (Fr (wB W st.ctx σ) w) (fun _=>True) (fun J F h L hs hV hL=>?_) (fun J F b o U=>(F.block b (Nz hR U) (UI hR W U)).trans (hR.sat.pG b o U)) (fun l J _ hs=>hs.2) (fun _ _ _ _ _ _=>trivial) trivial h2 h3 (by simpa using h4) h9 (by simpa[sR]using p) C;cases hc:st.ctx.at h with
  |none=>rw[hc]at hs;cases hs
  |some q=>exact F.block _ (hR.sat.gq h L hL) (Hk hR W hV hc hL)
 |sw r ih=>
  intro hd ph listed σ' s a w' d m C y u z k p;have E:∀h,h<st.ctx.length->σ' h=σ h:=u.base.loc;simp only[ld,aD]at m;refine⟨fun _=>?_,fun f _ i hi=>by simp[kx]at hi⟩;simp only[XD]at C;obtain⟨bn,hn,hw,C⟩:=C;subst bn;have al:∀h,W.contains h=true->∃o,st.ctx.at h=some o/\o.ro=false:=by
   intro h hc;rw[cx]at hw;have:=hw h (by simpa using hc);split at this
   ·rename_i o Q;exact⟨o,Q,by simpa using this⟩
   cases this
  exact(ih true true listed σ' _ a w' d m.2 C (fun _=>al) (hR.Pw W u hn) (z.imp (fun h=>⟨h.1,fun g=>by simpa only[LW]using h.2 g⟩) fun h=>by simpa only[qC]using h) k (by simpa[sR]using p)).1 rfl
 |de i r q br bq=>
  intro hd ph listed σ' s a w' d m C y u z k p;have E:∀h,h<st.ctx.length->σ' h=σ h:=u.base.loc;simp only[ld,aD,dx,aV,aR]at m;obtain⟨⟨⟨⟨h0,h1⟩,h2⟩,h9⟩,ba⟩:=m;simp only[XD]at C;obtain⟨C,bc⟩:=C;simp only[sR]at p;have rest:=(bq false ph listed σ' s a w' d ba bc y u (z.imp (fun h=>⟨h.1,fun g=>by have:=h.2 g;simp only[LW,aD]at this;exact this.2⟩) fun h=>by simp only[qC,aD]at h;exact h.2) k (by omega)).2;have here:∀f,d=f+1->wpOp P ops (fun e G t=>e=.normal/\∃n st',K st'/\Rel A n st' G t) i (fun G w'=>l7 wrs (Fr (fun _=>False) w) (Fr (wB W st.ctx σ) w) (listed.setIfInBounds i true) w' /\
    iE P ops (fun e G t=>e=.normal/\∃n st',K st'/\Rel A n st' G t) wrs (Fr (fun _=>False) w) (Fr (wB W st.ctx σ) w) f (listed.setIfInBounds i true) G w') a w':=by
   intro f hf;subst hf;cases Q:ops[i]? with
   |none=>rw[Q]at C;exact C.elim
   |some o=>
    rw[Q]at C;unfold wpOp;rw[Q];refine lV ag (show s9 P (pt.in st.ctx.length)from bo) (aN _) (fun h=>h) u C fun a7 s2 a2 w2 hK Y=>?_;have a1:l7 wrs (Fr (fun _=>False) w) (Fr (wB W st.ctx σ) w) (listed.setIfInBounds i true) w2:=by
     refine⟨fun h=>?_,Y.fr.mono fun b _ D=>D.2⟩;cases ph with
     |false=>exact Y.fr.mono fun b _ D=>by cases D.1
     |true=>
      have hi:i∈wrs:=by simpa using h2.symm
      have:=h i hi;have ae:i<listed.size:=by
       have hm:i∈Region.ready .any ops listed:=by simpa using h1
       have:=(mem_ready.1 hm).1;rcases aU i listed.size with X|X
       ·exact X
       simp[bZ X]at this
      simp[ae]at this
    have ar:GI te ops pt.gr σ r a7:=by
     cases au:pt.gr with
     |false=>
      rw[au]at Y;exact .inl ⟨UH Y,fun h=>by cases h⟩
     |true=>
      rcases z with⟨_,M⟩|M
      ·have:=M au;simp only[LW,aD]at this;exact .inr this.1
      simp only[qC,aD]at M;exact .inr M.1
    exact⟨a1,(br true ph _ a7 s2 a2 w2 f h9 hK y Y ar a1 (by omega)).1 rfl⟩
  refine⟨fun ad=>?_,fun f hf j H=>?_⟩
  ·obtain⟨f,rfl⟩:∃f,d=f+1:=⟨d-1,by omega⟩
   subst ad;have bp:Region.ready .any ops listed=i::kx q:=by
    rcases h0 with h0|h0
    ·cases h0
    exact h0
   refine A5 bp (by simp) fun j H=>?_;rcases eA.1 H with rfl|H
   ·exact here f rfl
   exact rest f rfl j H
  simp only[kx]at H;rcases eA.1 H with rfl|H
  ·exact here f hf
  exact rest f hf j H
def forced(ops:Array Oper):List Nat->Array Bool->Bool
 |[],listed=>(Region.ready .any ops listed).isEmpty
 |i::is,listed=>(Region.ready .any ops listed==[i])&&forced ops is (listed.setIfInBounds i true)
def AX(ops:Array Oper)(a:List Nat):Bool->Sc->Array Bool->Bool
 |hd,.fin,listed=>!hd
 |hd,.seq is,listed=>hd&&is.all a.contains&&forced ops is listed
 |hd,.de i r o,listed=>(!hd||Region.ready .any ops listed==i::kx o)&&(Region.ready .any ops listed).contains i&&a.contains i&&AX ops a true r (listed.setIfInBounds i true)&&AX ops a false o listed
 |_,_,_=>false
def We:Sc->Bool
 | .fin=>true
 |_=>false
def opsOf:Sc->List Nat
 | .q1 _ r=>opsOf r
 | .sw r=>opsOf r
 | .seq is=>is
 | .de i r _=>i::opsOf r
 |_=>[]
def s5:Sc->List Nat
 | .sw r=>s5 r
 | .q0 _ _ r=>s5 r
 | .q1 _ r=>s5 r
 | .seq is=>is
 | .de i r _=>i::opsOf r
 |_=>[]
def r7(ops:Array Oper)(a:List Nat):Sc->Array Bool->Bool
 | .q0 i B r,listed=>Region.free .any ops listed i&&(Region.ready .any ops listed).contains i&&!a.contains i&&a.all B.contains&&B.all (fun b=>b==i||waits ops B b)&&B.all (Wu listed)&&B.contains i&&r7 ops a r (listed.setIfInBounds i true)
 | .seq is,listed=>is.all a.contains&&forced ops is listed
 | .de i r o,listed=>AX ops a true (.de i r o) listed||(We o&&(Region.ready .any ops listed==[i])&&a.contains i&&r7 ops (s5 r) r (listed.setIfInBounds i true))
 | .q1 i r,listed=>Region.free .any ops listed i&&(Region.ready .any ops listed).contains i&&!a.contains i&&r7 ops a r (listed.setIfInBounds i true)
 | .sw (.de i r _),listed=>(Region.ready .any ops listed==[i])&&a.contains i&&r7 ops (s5 r) r (listed.setIfInBounds i true)
 |_,_=>false
def XE(P:Program)(te:TE)(wr:Bool)(nt:Nat)(pt:PT)(ops:Array Oper)(K:St->Prop):Sc->St->Prop
 | .q0 i _ r,st=>match ops[i]? with
  |some o=>kv te o.op=true/\lr P te wr nt pt false ops st o fun s=>XE P te wr nt pt ops K r ⟨s.env,st.ctx⟩
  |none=>False
 | .seq is,st=>XO P te wr nt pt false ops K is st
 | .de i r o,st=>(match ops[i]? with
  |some x=>lr P te wr nt pt false ops st x (XE P te wr nt pt ops K r)
  |none=>False)/\XE P te wr nt pt ops K o st
 | .fin,_=>True
 | .q1 i r,st=>match ops[i]? with
  |some o=>(eG te o.op==0)=true/\lr P te wr nt pt false ops st o fun s=>XE P te wr nt pt ops K r ⟨s.env,st.ctx⟩
  |none=>False
 | .sw (.de i r _),st=>match ops[i]? with
  |some x=>lr P te wr nt pt true ops st x (XE P te wr nt pt ops K r)
  |none=>False
 |_,_=>False
theorem oO{P:Program}{ops:Array Oper}{Q:Exit->Act->World->Prop}{wrs:List Nat}{S0:World->Prop}:∀(is:List Nat) (b:Nat) (listed:Array Bool) (a:Act) (w:World),(∀i∈is,i∈wrs)->forced ops is listed=true->is.length<=b ->
  wpOps P ops Q is a w->iE P ops Q wrs S0 (fun _=>True) b listed a w
 |[],b,listed,a,w,_,c,_,h=>by
  simp only[forced,gg]at c;exact xY c h b
 |i::is,b,listed,a,w,hm,c,g,h=>by
  simp only[forced,aD,dx]at c;obtain⟨f,rfl⟩:∃f,b=f+1:=⟨b-1,by simp only[aK]at g;omega⟩
  rw[wpOps_cons]at h;refine sb c.1 (wpOp_mono (fun k w' d=>⟨⟨fun o=>?_,trivial⟩,oO is f _ k w' (fun j n=>hm j (dI _ n)) c.2 (by simp only[aK]at g;omega) d⟩) h);have l:=o i (hm i List.mem_cons_self);have e:i<listed.size:=by
   have m:i∈Region.ready .any ops listed:=by rw[c.1];exact dN.2 rfl
   have:=(mem_ready.1 m).1;rcases aU i listed.size with d|d
   ·exact d
   simp[bZ d]at this
  simp[e]at l
theorem TF{P:Program}{te:TE}(H:hX P te){wr:Bool}{pt:PT}(G:s9 P pt){ops:Array Oper}{K:St->Prop}{A:kS}(F:A.k<=pt.k)(E:pt.gr=true->A.gr=true){w0:World}{z:List Nat} :
  ∀(m:Sc) (hd:Bool) (listed:Array Bool) (σ:ey) (s:St) (a:Act) (w:World) (b:Nat),AX ops z hd m listed=true->XE P te wr A.nt pt ops K m s->Rel A σ s a w->sR m<=b ->
   (hd=true->iE P ops (fun e l d=>e=.normal/\∃c st',K st'/\Rel A c st' l d) z (fun t=>t=w0) (fun _=>True) b listed a w) /\
   (∀f,b=f+1->∀i∈kx m,wpOp P ops (fun e l d=>e=.normal/\∃c st',K st'/\Rel A c st' l d) i (fun l w'=>l7 z (fun t=>t=w0) (fun _=>True) (listed.setIfInBounds i true) w' /\
    iE P ops (fun e l d=>e=.normal/\∃c st',K st'/\Rel A c st' l d) z (fun t=>t=w0) (fun _=>True) f (listed.setIfInBounds i true) l w') a w):=by
 intro m
 induction m with
 |q0 i B r _=>intro hd listed σ s a w b h;simp[AX]at h
 |q1 i r _=>intro hd listed σ s a w b h;simp[AX]at h
 |sw r _=>intro hd listed σ s a w b h;simp[AX]at h
 |g r _=>intro hd listed σ s a w b h;simp[AX]at h
 |fin=>
  intro hd listed σ s a w b h n D v;refine⟨fun x=>by subst x;simp[AX]at h,fun f _ i y=>by simp[kx]at y⟩
 |seq is=>
  intro hd listed σ s a w b h n D k;simp only[AX,aD]at h;obtain⟨⟨_,p⟩,v⟩:=h;simp only[XE]at n;refine⟨fun _=>oO is b listed a w (fun i y=>?_) v (by simpa[sR]using k) ?_,fun f _ i y=>by simp[kx]at y⟩
  ·rw[cx]at p;simpa using p i y
  ·exact ux H G F E is D n fun σ' st' l w' J M=>⟨rfl,σ',st',J,M⟩
 |de i r q U T=>
  intro hd listed σ s a w b u n D k;simp only[AX,aD,dx,aV,aR]at u;obtain⟨⟨⟨⟨C,J⟩,M⟩,X⟩,L⟩:=u;simp only[XE]at n;obtain⟨n,O⟩:=n;simp only[sR]at k;have rest:=(T false listed σ s a w b L O D (by omega)).2;have here:∀f,b=f+1->wpOp P ops (fun e l d=>e=.normal/\∃c st',K st'/\Rel A c st' l d) i (fun l w'=>l7 z (fun t=>t=w0) (fun _=>True) (listed.setIfInBounds i true) w' /\
    iE P ops (fun e l d=>e=.normal/\∃c st',K st'/\Rel A c st' l d) z (fun t=>t=w0) (fun _=>True) f (listed.setIfInBounds i true) l w') a w:=by
   intro f v;subst v;cases R:ops[i]? with
   |none=>rw[R]at n;exact n.elim
   |some o=>
    rw[R]at n;unfold wpOp;rw[R];refine lV H G F E D n fun V s2 a2 Z Y N=>?_;refine⟨⟨fun h=>?_,trivial⟩,(U true _ V s2 a2 Z f X Y N (by omega)).1 rfl⟩;have y:i∈z:=by simpa using M
    have:=h i y;have Q:i<listed.size:=by
     have hm:i∈Region.ready .any ops listed:=by simpa using J
     have:=(mem_ready.1 hm).1;rcases aU i listed.size with I|I
     ·exact I
     simp[bZ I]at this
    simp[Q]at this
  refine⟨fun x=>?_,fun f v j p=>?_⟩
  ·obtain⟨f,rfl⟩:∃f,b=f+1:=⟨b-1,by omega⟩
   subst x;have S:Region.ready .any ops listed=i::kx q:=by
    rcases C with C|C
    ·cases C
    exact C
   refine A5 S (by simp) fun j p=>?_;rcases eA.1 p with rfl|p
   ·exact here f rfl
   exact rest f rfl j p
  simp only[kx]at p;rcases eA.1 p with rfl|p
  ·exact here f v
  exact rest f v j p
theorem s7{P:Program}{ops:Array Oper}{Q:Exit->Act->World->Prop}{n l:List Nat}{S0 f:World->Prop}{i:Nat}(q:i∈n)(b:Nat):∀(listed:Array Bool) (a:Act) (w:World),listed.getD i false=true ->
  iE P ops Q l f (fun _=>True) b listed a w->iE P ops Q n S0 (fun _=>True) b listed a w:=by
 induction b with
 |zero=>intro _ _ _ _ h;exact h
 |succ b t=>
  intro listed a w m h;refine⟨h.1,fun k s=>wpOp_mono (fun o w' p=>?_) (h.2 k s)⟩;have c:(listed.setIfInBounds k true).getD i false=true:=by
   by_cases e:k=i
   ·subst e;have j:k<listed.size:=by
     rcases aU k listed.size with g|g
     ·exact g
     simp[bZ g]at m
    simp[j]
   rw[gG false e];exact m
  exact⟨⟨fun d=>(by rw[d i q]at c;cases c),trivial⟩,t _ o w' c p.2⟩
theorem N2{ops:Array Oper}{listed:Array Bool}{i:Nat}(c:Region.ready .any ops listed=[i]):(listed.setIfInBounds i true).getD i false=true:=by
 have hm:i∈Region.ready .any ops listed:=by rw[c];exact dN.2 rfl
 have:=(mem_ready.1 hm).1;have b:i<listed.size:=by
  rcases aU i listed.size with a|a
  ·exact a
  simp[bZ a]at this
 simp[b]
theorem TH{P:Program}{te:TE}(F:hX P te){wr:Bool}{pt:PT}(O:s9 P pt){ops:Array Oper}(af:Region.noSelect ops=true){K:St->Prop}{A:kS}(N:A.k<=pt.k)(M:pt.gr=true->A.gr=true){w0:World}{n:List Nat} :
  ∀(p:Sc) (listed:Array Bool) (σ:ey) (w:World) (s:St) (a:Act) (d:Nat),r7 ops n p listed=true->XE P te wr A.nt pt ops K p s->Rel A σ s a w->sR p<=d ->
   l7 n (fun u=>u=w0) (fun _=>True) listed w ->
   iE P ops (fun e a' I=>e=.normal/\∃D st',K st'/\Rel A D st' a' I) n (fun u=>u=w0) (fun _=>True) d listed a w:=by
 have key:∀(p:Sc) (n:List Nat) (w0:World),(∀(listed:Array Bool) (σ:ey) (w:World) (s:St) (a:Act) (d:Nat),r7 ops n p listed=true->XE P te wr A.nt pt ops K p s->Rel A σ s a w->sR p<=d ->
   l7 n (fun u=>u=w0) (fun _=>True) listed w ->
   iE P ops (fun e a' I=>e=.normal/\∃D st',K st'/\Rel A D st' a' I) n (fun u=>u=w0) (fun _=>True) d listed a w)/\∀(i:Nat) (r o:Sc),p=.de i r o->(∀(listed:Array Bool) (σ:ey) (w:World) (s:St) (a:Act) (d:Nat),r7 ops n r listed=true->XE P te wr A.nt pt ops K r s->Rel A σ s a w->sR r<=d ->
   l7 n (fun u=>u=w0) (fun _=>True) listed w ->
   iE P ops (fun e a' I=>e=.normal/\∃D st',K st'/\Rel A D st' a' I) n (fun u=>u=w0) (fun _=>True) d listed a w):=by
  intro p
  induction p with
  |fin=>
   intro n w0;refine⟨?_,by intro _ _ _ h;cases h⟩;intro listed σ w s a d h;simp[r7]at h
  |g r _=>
   intro n w0;refine⟨?_,by intro _ _ _ h;cases h⟩;intro listed σ w s a d h;simp[r7]at h
  |q1 i r R=>
   intro n w0;refine⟨?_,by intro _ _ _ h;cases h⟩;intro listed σ w s a d C m t k x;simp only[r7,aD,aR]at C;obtain⟨⟨⟨G,h3⟩,h4⟩,T⟩:=C;simp only[sR]at k;obtain⟨f,rfl⟩:∃f,d=f+1:=⟨d-1,by omega⟩
   simp only[XE]at m;cases z:ops[i]? with
   |none=>rw[z]at m;exact m.elim
   |some o=>
    rw[z]at m;obtain⟨hq,m⟩:=m;obtain⟨v,st',k1,k2,Z⟩:=yY F t (by simpa using hq) m;have H:i ∉ n:=by simpa using h4
    refine mA (fun _=>True) z H (Region.noSelect_spec af) (fun c a w h=>by cases h.1) (fun l u hl hs=>trivial) (fun l j hl ak E ae=>trivial) f listed a w (Region.free_spec z G) (by simpa using h3) trivial k2 x ?_;refine(R n w0).1 (listed.setIfInBounds i true) σ w ⟨st'.env,s.ctx⟩ _ f T k1 ⟨Z.defers,Z.size,Z.env,t.sat,t.fr,t.own,t.base,t.mq⟩ (by omega) ⟨fun h=>x.1 fun j E=>?_,trivial⟩;have:=h j E;rwa[gG false (show i≠j from fun e=>H (by rw[e];exact E))]at this
  |sw r R=>
   intro n w0;refine⟨?_,by intro _ _ _ h;cases h⟩;intro listed σ w s a d h m t k _;cases r with
   |de i r o=>
    simp only[r7,aD,dx]at h;obtain⟨⟨J,G⟩,T⟩:=h;simp only[XE]at m;simp only[sR]at k;obtain⟨f,rfl⟩:∃f,d=f+1:=⟨d-1,by omega⟩
    refine sb J ?_;cases z:ops[i]? with
    |none=>rw[z]at m;exact m.elim
    |some o=>
     rw[z]at m;unfold wpOp;rw[z];refine lV F O N M t m fun aa s2 a2 Q hK U=>?_;have X:l7 n (fun u=>u=w0) (fun _=>True) (listed.setIfInBounds i true) Q:=by
      refine⟨fun h=>?_,trivial⟩;have hi:i∈n:=by simpa using G
      have:=h i hi;have V:i<listed.size:=by
       have hm:i∈Region.ready .any ops listed:=by rw[J];exact dN.2 rfl
       have:=(mem_ready.1 hm).1;rcases aU i listed.size with y|y
       ·exact y
       simp[bZ y]at this
      simp[V]at this
     exact⟨X,s7 (show i∈n by simpa using G) f _ a2 Q (N2 J) ((R (s5 r) Q).2 i r _ rfl _ aa Q s2 a2 f T hK U (by omega) ⟨fun _=>rfl,trivial⟩)⟩
   |_=>simp[r7]at h
  |de i r o R _=>
   intro n w0;refine⟨?_,by intro _ _ _ h;cases h;exact(R n w0).1⟩;intro listed σ w s a d h m t k _;simp only[r7,aV]at h;rcases h with h|h
   ·exact(TF F O N M _ true listed σ s a w d h m t k).1 rfl
   ·simp only[aD,dx]at h;obtain⟨⟨⟨_,J⟩,G⟩,T⟩:=h;simp only[XE]at m;obtain⟨m,_⟩:=m;simp only[sR]at k;obtain⟨f,rfl⟩:∃f,d=f+1:=⟨d-1,by omega⟩
    refine sb J ?_;cases z:ops[i]? with
    |none=>rw[z]at m;exact m.elim
    |some o=>
     rw[z]at m;unfold wpOp;rw[z];refine lV F O N M t m fun aa s2 a2 Q hK U=>?_;have X:l7 n (fun u=>u=w0) (fun _=>True) (listed.setIfInBounds i true) Q:=by
      refine⟨fun h=>?_,trivial⟩;have hi:i∈n:=by simpa using G
      have:=h i hi;have V:i<listed.size:=by
       have hm:i∈Region.ready .any ops listed:=by rw[J];exact dN.2 rfl
       have:=(mem_ready.1 hm).1;rcases aU i listed.size with y|y
       ·exact y
       simp[bZ y]at this
      simp[V]at this
     exact⟨X,s7 (show i∈n by simpa using G) f _ a2 Q (N2 J) ((R (s5 r) Q).1 _ aa Q s2 a2 f T hK U (by omega) ⟨fun _=>rfl,trivial⟩)⟩
  |seq is=>
   intro n w0;refine⟨?_,by intro _ _ _ h;cases h⟩;intro listed σ w s a d h m t k _;simp only[r7,aD]at h;obtain⟨E,hf⟩:=h;simp only[XE]at m;refine oO is d listed a w (fun i hi=>by rw[cx]at E;simpa using E i hi) hf (by simpa[sR]using k) ?_;exact ux F O N M is t m fun σ' st' a' w' J G=>⟨rfl,σ',st',J,G⟩
  |q0 i B r R=>
   intro n w0;refine⟨?_,by intro _ _ _ h;cases h⟩;intro listed σ w s a d C m t k x;simp only[r7,aD,aR]at C;obtain⟨⟨⟨⟨⟨⟨⟨G,h3⟩,h4⟩,h5⟩,h6⟩,h7⟩,h8⟩,T⟩:=C;simp only[sR]at k;obtain⟨f,rfl⟩:∃f,d=f+1:=⟨d-1,by omega⟩
   simp only[XE]at m;cases z:ops[i]? with
   |none=>rw[z]at m;exact m.elim
   |some o=>
    rw[z]at m;obtain⟨hq,m⟩:=m;obtain rfl:w=w0:=x.1 fun j E=>by
     rw[cx]at h5 h7;have:=h7 j (by simpa using h5 j E);have hu:listed.getD j true=false:=by simpa[Wu]using this
     rcases aU j listed.size with y|y
     ·simp[y]at hu |-;exact hu
     simp[bZ y]
    obtain⟨v,st',k1,k2,Z⟩:=xm F t hq m (Sx:=fun u=>u=w) (fun u Y h L _ _=>by rw[Y]) (fun u Y b o hb=>by rw[Y];exact t.sat.pG b o hb);have H:i ∉ n:=by simpa using h4
    refine mA (fun l=>∀b∈B,l.getD b true=false) z H (Region.noSelect_spec af) (fun c a w h=>by cases h.1) (fun l u hl hs=>hs.1 fun j E=>?_) (fun l j hl ak E ae b hb=>?_) f listed a w (Region.free_spec z G) (by simpa using h3) ?_ k2 x ?_
    ·have aj:j∈B:=by rw[cx]at h5;simpa using h5 j E
     have:=hl j aj;rcases aU j l.size with y|y
     ·simp[y]at this |-;exact this
     simp[bZ y]
    ·by_cases ad:j=b
     ·subst ad;rw[cx]at h6;have:=h6 j hb;simp only[aV,dx]at this;rcases this with hx|hx
      ·exact absurd hx ae
      unfold waits at hx;obtain⟨ap,oj,al,ab⟩:=mem_ready.1 E;rw[al]at hx;simp only[Array.any_eq_true,aD,List.contains_iff_mem]at hx;obtain⟨q,hq,ag,ah⟩:=hx;have e1:=ab _ (Array.getElem_mem hq) ag;have e2:=hl _ (by simpa using ah);rcases aU (oj.after[q]).on l.size with y|y
      ·simp[y]at e1 e2;rw[e2]at e1;cases e1
      simp[bZ y]at e1
     rw[gG true ad];exact hl b hb
    ·intro b hb;rw[cx]at h7;simpa[Wu]using h7 b hb
    refine(R n w).1 (listed.setIfInBounds i true) σ w ⟨st'.env,s.ctx⟩ _ f T k1 ⟨Z.defers,Z.size,Z.env,t.sat,t.fr,t.own,t.base,t.mq⟩ (by omega) ⟨fun h=>x.1 fun j E=>?_,trivial⟩;have:=h j E;rwa[gG false (show i≠j from fun e=>H (by rw[e];exact E))]at this
 exact fun p=>(key p n w0).1
theorem uw.of{P:Program}{te:TE}(j:hX P te){wr:Bool}{pt:PT}(i:s9 P pt)(hm:P.follows .mixedOrders=true){nt k:Nat}{ops:Array Oper}(wrs W:List Nat)(b:Sc)(f:Region.noSelect ops=true)(m:sR b<=ops.size)(d:ld ops wrs true false b (Array.replicate ops.size false)=true)(n:pt.gr=true->LW te ops b=true){K:St->Prop}{st:St}(h:XD P te wr nt pt ops W st.ctx K true false b ⟨st.env,freeze [] 0 st.ctx⟩):uw P nt k ops K st:=by intro A σ a w id g o e l;have c:=l.drawn (w.drawn+1);refine wp_region_any hm (uk (wrs:=wrs) (S0:=Fr (fun _=>False) { w with drawn:=w.drawn+1 }) (S1:=Fr (wB W st.ctx σ) { w with drawn:=w.drawn+1 }) _ _ _ _ ?_);rw[<-g]at h;exact(TG j i f c (fun _=>e) b true false _ σ _ a _ _ d h (fun h=>by cases h) (c.frozen W) (.inl ⟨fun _ _ h=>h,n⟩) ⟨fun _=>Fr.refl _ _,Fr.refl _ _⟩ m).1 rfl
theorem uw.WR{P:Program}{te:TE}(o:hX P te){wr:Bool}{pt:PT}(n:s9 P pt)(hm:P.follows .mixedOrders=true){nt k:Nat}(j:k<=pt.k){ops:Array Oper}(b:Sc)(l:Region.noSelect ops=true)(t:sR b<=ops.size)(d:r7 ops (s5 b) b (Array.replicate ops.size false)=true){K:St->Prop}{st:St}(h:XE P te wr nt pt ops K b st):uw P nt k ops K st:=by intro A σ a w id m v u s;have i:=s.drawn (w.drawn+1);refine wp_region_any hm (uk (wrs:=s5 b) (S0:=fun x=>x={ w with drawn:=w.drawn+1 }) (S1:=fun _=>True) _ _ _ _ ?_);rw[<-m]at h;exact TH o n l (by rw[v];exact j) (fun _=>u) b _ σ _ st a _ d h i t ⟨fun _=>rfl,trivial⟩
abbrev DL:=List (Nat×List Nat×List Nat×Sc)
def w9(ops:Array Oper)(wrs:List Nat)(a:Sc):Bool:=Region.noSelect ops&&decide (sR a<=ops.size)&&ld ops wrs true false a (Array.replicate ops.size false)
def EL(ops:Array Oper)(a:Sc):Bool:=Region.noSelect ops&&decide (sR a<=ops.size)&&r7 ops (s5 a) a (Array.replicate ops.size false)
def D1:Sc->Bool
 | .sw r=>D1 r
 | .q0 _ _ r=>D1 r
 | .q1 _ r=>D1 r
 | .de _ r _=>D1 r
 | .seq _=>true
 |_=>false
def Um:Sc->Bool
 | .g _=>true
 |_=>false
theorem J6:Um .fin=false:=id rfl
theorem NO{i:Nat}{B:List Nat}{r:Sc}:Um (.q0 i B r)=false:=id rfl
theorem NP{i:Nat}{r:Sc}:Um (.q1 i r)=false:=id rfl
theorem NQ{r:Sc}:Um (.sw r)=false:=id rfl
theorem J5{i:Nat}{r o:Sc}:Um (.de i r o)=false:=id rfl
theorem J7{is:List Nat}:Um (.seq is)=false:=id rfl
def EM(te:TE)(ops:Array Oper)(wrs:List Nat)(a:Sc):Bool:=w9 ops wrs a&&LW te ops a
def WK(P:Program)(te:TE)(wr:Bool)(nt:Nat)(pt:PT)(ops:Array Oper)(K:St->Prop)(wrs W:List Nat)(st:St):Sc->Prop
 | .g r=>EM te ops wrs r=true/\XD P te wr nt pt ops W st.ctx K true false r ⟨st.env,freeze [] 0 st.ctx⟩
 |a=>w9 ops wrs a=true/\XD P te wr nt pt.ng ops W st.ctx K true false a ⟨st.env,freeze [] 0 st.ctx⟩
def ze(P:Program)(te:TE)(wr:Bool)(nt:Nat)(pt:PT):DL->Nat->Array Oper->(St->Prop)->St->Prop
 |[],_,_,_,_=>False
 |e::r,id,ops,K,st=>if e.1=id then(if D1 e.2.2.2 then EL ops e.2.2.2=true/\XE P te wr nt pt ops K e.2.2.2 st
   else WK P te wr nt pt ops K e.2.1 e.2.2.1 st e.2.2.2)else ze P te wr nt pt r id ops K st
theorem JF{P:Program}{te:TE}(i:hX P te){wr:Bool}{pt:PT}(d:s9 P pt)(hm:P.follows .mixedOrders=true){nt k:Nat}(o:k<=pt.k):∀(l:DL) (id:Nat) (ops:Array Oper) (K:St->Prop) (st:St),ze P te wr nt pt l id ops K st->uw P nt k ops K st
 |[],_,_,_,_,h=>h.elim
 |e::r,id,ops,K,st,h=>by
  simp only[ze]at h;split at h
  ·split at h
   ·obtain⟨b,n⟩:=h;simp only[EL,aD,aE]at b;exact uw.WR i d hm o _ b.1.1 b.1.2 b.2 n
   have go:∀(f:Sc) (pt:PT),s9 P pt->(pt.gr=true->LW te ops f=true)->w9 ops e.2.1 f=true->XD P te wr nt pt ops e.2.2.1 st.ctx K true false f ⟨st.env,freeze [] 0 st.ctx⟩->uw P nt k ops K st:=by intro f pt d q b n;simp only[w9,aD,aE]at b;exact uw.of i d hm _ _ _ b.1.1 b.1.2 b.2 q n
   have c:s9 P pt.ng:=d;revert h;generalize e.2.2.2=f;intro h;cases f with
   |g r=>
    obtain⟨b,n⟩:=h;simp only[EM,aD]at b;exact go r pt d (fun _=>b.2) b.1 n
   |fin=>exact go _ _ c (fun h=>by cases h) h.1 h.2
   |q0=>exact go _ _ c (fun h=>by cases h) h.1 h.2
   |q1=>exact go _ _ c (fun h=>by cases h) h.1 h.2
   |sw=>exact go _ _ c (fun h=>by cases h) h.1 h.2
   |de=>exact go _ _ c (fun h=>by cases h) h.1 h.2
   |seq=>exact go _ _ c (fun h=>by cases h) h.1 h.2
  exact JF i d hm o r id ops K st h
def mr(P:Program)(te:TE)(l:List (FuncId×PE))(nt k:Nat)(wr:Bool)(sp:Nat->Bool)(yd:Nat->List Tmp)(cut:List Nat)(d:DL):Cf:=⟨P,te,⟨l,k,true⟩,nt,k,wr,sp,yd,cut,ze P te wr nt ⟨l,k,true⟩ d⟩
theorem yB{P:Program}{te:TE}(b:hX P te){l:List (FuncId×PE)}(a:mJ P l)(hm:P.follows .mixedOrders=true){nt k:Nat}{wr:Bool}{sp:Nat->Bool}{yd:Nat->List Tmp}{cut:List Nat}{d:DL}:(mr P te l nt k wr sp yd cut d).ok:=
 ⟨b,a,aN _,fun id ops K st h=>JF b (pt:=⟨l,k,true⟩) a hm (aN _) d id ops K st h⟩
section
variable{P:Program}{te:TE}{wr:Bool}{nt:Nat}{pt:PT}{ops:Array Oper}{st:St}{K:Sl St}{dst:Option Tmp}{ty:TypeId}{pos:String}{after:Array Edge}{W:List Nat}{ctx0:dZ}{r:Sc}{hd ph:Bool}
def B4(P:Program)(te:TE)(wr:Bool)(nt:Nat)(pt:PT)(ops:Array Oper)(W:List Nat)(ctx0:dZ)(K:Sl St)(hd ph:Bool)(a:Sc)(st:St):Prop:=XD P te wr nt pt ops W ctx0 K.f hd ph a st
def HG(P:Program)(te:TE)(wr:Bool)(nt:Nat)(pt:PT)(ops:Array Oper)(st:St)(o:Oper)(K:Sl St):Prop:=lr P te wr nt pt false ops st o K.f
def Fg(P:Program)(te:TE)(wr:Bool)(nt:Nat)(pt:PT)(ops:Array Oper)(K:Sl St)(a:Sc)(st:St):Prop:=XE P te wr nt pt ops K.f a st
def VJ(P:Program)(te:TE)(wr:Bool)(nt:Nat)(pt:PT)(ops:Array Oper)(K:Sl St)(is:List Nat)(st:St):Prop:=XO P te wr nt pt false ops K.f is st
theorem JG{id:Nat}{wrs:List Nat}{a:Sc}{l:DL}(b:Um a=false):R5 (ze P te wr nt pt ((id,wrs,W,a)::l)) id ops K st=yc (D1 a) (EL ops a=true/\Fg P te wr nt pt ops K a st) (w9 ops wrs a=true/\B4 P te wr nt pt.ng ops W st.ctx K true false a ⟨st.env,freeze [] 0 st.ctx⟩) ⟨⟩:=by cases a<;>first|(cases b;done)|simp[R5,ze,B4,Fg,yc,WK]
theorem FG{id:Nat}{wrs:List Nat}{a:Sc}{l:DL}:R5 (ze P te wr nt pt ((id,wrs,W,.g a)::l)) id ops K st=(EM te ops wrs a=true/\B4 P te wr nt pt ops W st.ctx K true false a ⟨st.env,freeze [] 0 st.ctx⟩):=by simp[R5,ze,B4,WK,D1]
theorem MS{i:Nat}{B:List Nat}:Fg P te wr nt pt ops K (.q0 i B r) st=rn ops[i]? ⟨fun o=>kv te o.op=true/\HG P te wr nt pt ops st o ⟨fun s=>Fg P te wr nt pt ops K r ⟨s.env,st.ctx⟩,⟨⟩⟩,⟨⟩⟩:=by simp only[Fg,XE,HG];cases ops[i]?<;>rfl
theorem MT{i:Nat}:Fg P te wr nt pt ops K (.q1 i r) st=rn ops[i]? ⟨fun o=>(eG te o.op==0)=true/\HG P te wr nt pt ops st o ⟨fun s=>Fg P te wr nt pt ops K r ⟨s.env,st.ctx⟩,⟨⟩⟩,⟨⟩⟩:=by simp only[Fg,XE,HG];cases ops[i]?<;>rfl
theorem Jn{is:List Nat}:Fg P te wr nt pt ops K (.seq is) st=VJ P te wr nt pt ops K is st:=id rfl
theorem Jl{i:Nat}{q:Sc}:Fg P te wr nt pt ops K (.de i r q) st=(rn ops[i]? ⟨fun o=>HG P te wr nt pt ops st o ⟨fun s=>Fg P te wr nt pt ops K r s,⟨⟩⟩,⟨⟩⟩/\Fg P te wr nt pt ops K q st):=by simp only[Fg,XE,HG];cases ops[i]?<;>rfl
def Wy(P:Program)(te:TE)(wr:Bool)(nt:Nat)(pt:PT)(ops:Array Oper)(st:St)(o:Oper)(K:Sl St):Prop:=lr P te wr nt pt true ops st o K.f
theorem RV{i:Nat}{q:Sc}:Fg P te wr nt pt ops K (.sw (.de i r q)) st=rn ops[i]? ⟨fun o=>Wy P te wr nt pt ops st o ⟨fun s=>Fg P te wr nt pt ops K r s,⟨⟩⟩,⟨⟩⟩:=by simp only[Fg,XE,Wy];cases ops[i]?<;>rfl
theorem Jm:Fg P te wr nt pt ops K .fin st=True:=id rfl
theorem Jp:VJ P te wr nt pt ops K [] st=K.f st:=id rfl
theorem Fi{i:Nat}{is:List Nat}:VJ P te wr nt pt ops K (i::is) st=rn ops[i]? ⟨fun o=>HG P te wr nt pt ops st o ⟨fun s=>VJ P te wr nt pt ops K is s,⟨⟩⟩,⟨⟩⟩:=by simp only[VJ,XO,HG];cases ops[i]?<;>rfl
theorem K2{l:List (FuncId×PE)}{k n:Nat}{gr:Bool}:PT.in ⟨l,k,gr⟩ n=⟨l,n,gr⟩:=id rfl
theorem K3{l:List (FuncId×PE)}{k:Nat}{gr:Bool}:PT.ng ⟨l,k,gr⟩=⟨l,k,false⟩:=id rfl
theorem FH{i id:Nat}{wrs:List Nat}{a:Sc}{l:DL}(h:(i==id)=false):R5 (ze P te wr nt pt ((i,wrs,W,a)::l)) id ops K st=R5 (ze P te wr nt pt l) id ops K st:=by simp only[gS,ne_eq]at h;simp[R5,ze,h]
theorem Fc:B4 P te wr nt pt ops W ctx0 K true false .fin st=(da ctx0.length st.ctx/\K.f ⟨st.env,qM [] 0 ctx0 st.ctx⟩):=id rfl
theorem Fe:B4 P te wr nt pt ops W ctx0 K true true .fin st=(da ctx0.length st.ctx/\K.f ⟨st.env,qM W 0 ctx0 st.ctx⟩):=id rfl
theorem MP{i:Nat}{B:List Nat}:B4 P te wr nt pt ops W ctx0 K hd ph (.q0 i B r) st=rn ops[i]? ⟨fun o=>kv te o.op=true/\HG P te wr nt (pt.in ctx0.length) ops ⟨st.env,kI [] 0 ctx0 st.ctx⟩ o ⟨fun s=>B4 P te wr nt pt ops W ctx0 K true ph r ⟨s.env,st.ctx⟩,⟨⟩⟩,⟨⟩⟩:=by simp only[B4,XD,HG,XQ];cases ops[i]?<;>rfl
theorem MQ{i:Nat}:B4 P te wr nt pt ops W ctx0 K hd ph (.q1 i r) st=rn ops[i]? ⟨fun o=>kv te o.op=true/\HG P te wr nt (pt.in ctx0.length) ops ⟨st.env,kI W 0 ctx0 st.ctx⟩ o ⟨fun s=>B4 P te wr nt pt ops W ctx0 K true ph r ⟨s.env,st.ctx⟩,⟨⟩⟩,⟨⟩⟩:=by simp only[B4,XD,HG,XQ];cases ops[i]?<;>rfl
theorem Jk{i:Nat}{q:Sc}:B4 P te wr nt pt ops W ctx0 K hd ph (.de i r q) st=(rn ops[i]? ⟨fun o=>HG P te wr nt (pt.in ctx0.length) ops st o ⟨fun s=>B4 P te wr nt pt ops W ctx0 K true ph r s,⟨⟩⟩,⟨⟩⟩/\B4 P te wr nt pt ops W ctx0 K false ph q st):=by simp only[B4,XD,HG];cases ops[i]?<;>rfl
theorem Ff:B4 P te wr nt pt ops W ctx0 K false ph .fin st=True:=by simp[B4,XD]
theorem MR:B4 P te wr nt pt ops W ctx0 K hd false (.sw r) st=(da ctx0.length st.ctx/\(W.all fun h=>match ctx0.at h with|some o=>!o.ro|none=>false)=true /\
   B4 P te wr nt pt ops W ctx0 K true true r ⟨st.env,freeze W 0 ctx0++st.ctx.drop ctx0.length⟩):=by
 cases hd;all_goals
  show(false=false/\_/\_/\_)=_;simp only[cP];rfl
theorem Jq{op:Op}:Wy P te wr nt pt ops st ⟨dst,op,ty,pos,after,none⟩ K=pw P te wr nt pt false true st ⟨dst,op,ty,pos,after,none⟩ K:=id rfl
theorem Jr{op:Op}{j:Nat}{want:Bool}:Wy P te wr nt pt ops st ⟨dst,op,ty,pos,after,some (j,want)⟩ K=sd true P te wr nt pt (rb ops j) want st ⟨dst,op,ty,pos,after,some (j,want)⟩ K:=id rfl
theorem Fq{op:Op}:HG P te wr nt pt ops st ⟨dst,op,ty,pos,after,none⟩ K=pw P te wr nt pt false true st ⟨dst,op,ty,pos,after,none⟩ K:=id rfl
theorem Fs{op:Op}{j:Nat}{want:Bool}:HG P te wr nt pt ops st ⟨dst,op,ty,pos,after,some (j,want)⟩ K=sd false P te wr nt pt (rb ops j) want st ⟨dst,op,ty,pos,after,some (j,want)⟩ K:=id rfl
theorem OI{l:List Oper}{i:Nat}:(Array.mk l)[i]?=l[i]?:=by simp
theorem xw{i:Nat}{o:Option SO}{c:dZ}:freeze W i (o::c)=(if W.contains i then o else o.bind xH)::freeze W (i+1) c:=id rfl
theorem zr{i:Nat}:freeze W i []=[]:=id rfl
theorem zL{i:Nat}{a o:Option SO}{b c:dZ}:kI W i (a::b) (o::c)=(if W.contains i=false/\a.isSome=true then o else none)::kI W (i+1) b c:=id rfl
theorem CQ{i:Nat}{c:dZ}:kI W i [] c=c.map fun _=>none:=by cases c<;>rfl
theorem Dp{i:Nat}{a o:Option SO}{b c:dZ}:qM W i (a::b) (o::c)=(if W.contains i then o else a)::qM W (i+1) b c:=id rfl
theorem Ha{i:Nat}{c:dZ}:qM W i [] c=c:=by cases c<;>rfl
theorem CU{b:Bool}{sz n:Nat}{f:Nat->List SV}:xH (.row b sz n f)=some (.row true sz n f):=id rfl
theorem CT{b:Bool}{cs:List SV}:xH (.gA b cs)=some (.gA true cs):=id rfl
end
end Go.Vg
