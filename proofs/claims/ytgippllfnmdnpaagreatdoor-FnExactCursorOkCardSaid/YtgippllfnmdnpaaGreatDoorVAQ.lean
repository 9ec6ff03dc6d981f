/- Own text: part VAQ. -/
import Derived.Test.YtgippllfnmdnpaaGreatDoorVAP
set_option linter.all false
section
namespace Go.Pl
theorem Vk{s:Bs}{p i:Nat}(a:p<=i)(b:i<mw s p):gN s i=false/\re (bW s i)=false:=by
 fun_induction mw s p with
 |case1 p h c=>
  rcases Nat.eq_or_lt_of_le a with rfl|d
  ·exact h
  ·exact c (by omega) b
 |case2 p h=>omega
theorem Oi{s:Bs}{p:Nat}(h:(jm s p).2.2=true):zC (jm s p).1=true:=by
 by_cases a:(bW s p=38\/bW s p=42)/\p+2<=mw s (p+1)/\mw s (p+1)<=p+61
 ·have g:p<s.length:=by
   rcases a.1 with b|b
   ·exact cE b (by decide)
   exact cE b (by decide)
  have hle:=r8 s (p+1) g;rw[Ky a];have d:(sub s (p+1) (mw s (p+1))).length=mw s (p+1)-(p+1):=by simp only[sub,bK,aZ];omega
  refine NR (by rw[d];omega) fun j f=>?_;rw[d]at f;have e:(sub s (p+1) (mw s (p+1))).getD j 0=s.getD (p+1+j) 0:=by simp only[sub,aG,bY];rw[ef (by omega)]
  rw[e,<-Rm (by omega)];have c:=Vk (s:=s) (p:=p+1) (i:=p+1+j) (by omega) (by omega);rw[cW (by omega)]at c;rw[c.1,c.2];rfl
 rw[CX a]at h;cases h
theorem JY{name rest:Bs}:∀(l:List Hd),(∀h∈l,h.pre.length<=60)->(E1 name rest l).2=true->(E1 name rest l).1.length<=60+rest.length
 |[],_,h=>by
  unfold E1 at h |-
  split
  ·simp;omega
  ·rename_i b;rw[aA b]at h;split
   ·simp;omega
   ·rename_i c;rw[aA c]at h;cases h
 |a::r,d,h=>by
  unfold E1 at h |-
  split
  ·rename_i b;rw[aB b]at h;split
   ·rename_i c;rw[aB c]at h;cases h
   have:=d a (List.mem_cons_self ..);simp only[aC];omega
  rename_i b;rw[aA b]at h;exact JY r (fun x e=>d x (dI _ e)) h
theorem RP{raw:Bs}{l:List Hd}(f:raw.length<=60)(e:∀h∈l,h.pre.length<=60)(h:(B2 raw l).2=true):(B2 raw l).1.length<=120:=by
 unfold B2 at h |-
 split
 ·simp
 rename_i a;rw[aA a]at h;split
 ·simp only[sub,bK,aZ];omega
 rename_i b;rw[aA b]at h;split
 ·simp
 rename_i c;rw[aA c]at h;split
 ·simp
 rename_i d;rw[aA d]at h;have:=JY l e h;simp only[bK]at this;omega
theorem UO{s:Bs}{hd:List Hd}{fl:Bool}{pos:Nat}{p:Pp}(d:∀h∈hd,h.pre.length<=60)(hp:ll p)(h:(lq s hd fl pos p).2=0):ll (lq s hd fl pos p).1:=by
 unfold lq at h |-
 split
 ·rename_i b;rw[aB b]at h;split
  ·rename_i a;rw[aB a]at h;split
   ·exact⟨Oi a.1,hp.2⟩
   exact⟨Oi a.1,hp.2⟩
  exact hp
 rename_i b;rw[aA b]at h;split
 ·rename_i a;split
  ·rename_i c;exact⟨hp.1,RP (EQ s pos) d c⟩
  exact hp
 exact hp
theorem UN{s:Bs}{hd:List Hd}{fl:Bool}{pos:Nat}{p:Pp}:(lq s hd fl pos p).2=0\/(lq s hd fl pos p).2=7\/(lq s hd fl pos p).2=15:=by unfold lq;(repeat' split)<;>simp
theorem UP{s:Bs}{hd:List Hd}{fl:Bool}{pos:Nat}{p:Pp}(c:∀h∈hd,h.pre.length<=60)(hp:ll p):((lk s hd fl pos p).2.2=0->ll (lk s hd fl pos p).2.1)/\0<=(lk s hd fl pos p).2.2/\(lk s hd fl pos p).2.2<=99:=by
 fun_induction lk s hd fl pos p with
 |case1 pos p h d=>exact d (UO c hp h.2)
 |case2 pos p h=>
  split
  ·rename_i a;simp only;refine⟨fun b=>absurd ⟨a,b⟩ h, ?_⟩;have:=UN (s:=s) (hd:=hd) (fl:=fl) (pos:=pos) (p:=p);omega
  exact⟨fun _=>hp,show(0:Int)<=0 by decide,show(0:Int)<=99 by decide⟩
theorem Ez(p:Nat):ll (kF p):=⟨F1,bF _⟩
theorem G8{s:Bs}{r:Rd}{d:Int}{o:iB}{S:List Nat}(h:At r d o S)(a:r.cd=0)(hp:r.pos<=s.length):l6 s (ik s r) d o S:=by
 unfold ik;split
 ·exact h.lc (by decide) hp
 split
 ·exact h.lc (by decide) hp
 exact h.Bt a
theorem yx{s:Bs}{r:Rd}{d:Int}{o:iB}{S:List Nat}(a:Ok s r)(h:At r d o S):l6 s (cL s r) d o S:=G8 h.at a.cd (ez s _ a.pos)
theorem yG{s:Bs}{fl:Bool}{r:Rd}{d:Int}{o:iB}{S:List Nat}(b:Ok s r)(h:At r d o S):l6 s (iP s fl r) d o S/\((iP s fl r).cd=0->ll (ia s fl r)):=by
 have c:=UP (s:=s) (hd:=r.hd) (fl:=fl) (pos:=r.pos) (p:=kF r.pos) h.hd (Ez _);have e:=w6 (s:=s) (hd:=r.hd) (fl:=fl) (p:=kF r.pos) b.pos;unfold iP ia;split
 ·rename_i a;exact⟨h.at.Bt b.cd,fun _=>c.1 a⟩
 rename_i a;exact⟨h.at.lc (by omega) e.2.1,fun f=>absurd f a⟩
theorem K0{s:Bs}{r:Rd}{d:Int}{o:iB}{S:List Nat}(c:Ok s r)(h:At r d o S):l6 s (km s r) d o S/\((km s r).cd=0->ll (ia s true r)):=by
 have b:=yG (fl:=true) c h;unfold km;split
 ·rename_i a;obtain⟨q,e,g,f,_⟩:=jr c.pos c.cd a.1;exact⟨G8 (b.1.1 a.1) a.1 (by rw[e];exact f),fun _=>b.2 a.1⟩
 exact b
theorem HU{s:Bs}{r:Rd}{b:Bool}{d:Int}{o:iB}{S:List Nat}(g:r.cd=0)(hp:r.pos<=s.length)(h:At r d o S)(f:lu d o):l6 s (oP s r b) (nN d o) (oN o) S:=by
 unfold oP;split
 ·exact h.lc (by decide) hp
 rename_i c;split
 ·exact h.lc (by decide) hp
 split
 ·rename_i i e;have a:(jm s r.pos).2.2=true:=by simpa using c
  exact(h.uC (j1 a).2.2.2.2 (Oi a) f e rfl rfl rfl rfl:At (bB r (FL (jm s r.pos).1) true) _ _ _).at.Bt g
 exact h.lc (by decide) hp
theorem U8(s:Bs)(i:Nat)(L:List Pc)(cur:Bs):0<=(sO s i L cur).2.2/\(sO s i L cur).2.2<=99:=by
 fun_induction sO s i L cur<;>simp_all
theorem TU(s:Bs)(i:Nat)(L:List Pc)(cur:Bs)(k:Nat):0<=(oT s i L cur k).2.2/\(oT s i L cur k).2.2<=99:=by
 fun_induction oT s i L cur k<;>simp_all
theorem UU{s:Bs}{p:Nat}(hp:p<s.length):0<=(sv s p).2.2/\(sv s p).2.2<=99/\(sv s p).2.1<=s.length:=by
 by_cases b:bW s p=34
 ·rw[show sv s p=oT s (p+1) [] [] 0 by unfold sv nC;rw[aB b,aB b]];have a:=TU s (p+1) [] [] 0;have c:=Ch s (p+1) [] [] 0 (by omega);exact⟨a.1,a.2,c.2.1⟩
 by_cases d:bW s p=39
 ·rw[show sv s p=sO s (p+1) [] [] by unfold sv ny;rw[aA b,aB d]];have a:=U8 s (p+1) [] [];have c:=Dk s (p+1) [] [] (by omega);exact⟨a.1,a.2,c.2.1⟩
 rw[show sv s p=([],p,10) by unfold sv ny;rw[aA b,aA d]];exact⟨show(0:Int)<=10 by decide,show(10:Int)<=99 by decide,cJ hp⟩
theorem J8{s:Bs}{p:Nat}(h:je (bW s p)=true):p<s.length:=by
 unfold je at h;simp only[aV,dx]at h;rcases h with h|h
 ·exact cE h (by decide)
 exact cE h (by decide)
theorem IU{s:Bs}[Sm s]{r:Rd}{p:Pp}{d:Int}{o:iB}{S:List Nat}(e:r.cd=0)(a:je (bW s r.pos)=true)(h:At r d o S)(c:lu d o)(hp:ll p):l6 s (oR s r p) (nN d o) (oN o) S:=by
 have b:=UU (J8 a);unfold oR;split
 ·rename_i f;exact h.lc (by omega) b.2.2
 refine(At.at ?_).Bt e;exact h.text (t:=(sv s r.pos).1) (by have g:=UW (J8 a);have:=Sm.le (s:=s);omega) hp (by split<;>decide) c rfl rfl rfl rfl
theorem ES{s:Bs}{r:Rd}{t:Bs}{p:Pp}{st:Int}{d:Int}{o:iB}{S:List Nat}(e:t.length<=16777216)(b:r.cd=0)(h:At r d o S)(a:lu d o)(hp:ll p)(c:1<=st/\st<=5):l6 s (cY r st t p.an p.tg) (nN d o) (oN o) S:=
 (h.text (t:=t) e hp c a rfl rfl rfl rfl:At (cY r st t p.an p.tg) _ _ _).Bt b
theorem OU{s:Bs}[Sm s]{r:Rd}{p:Pp}{n:Int}{fl:Bool}{d:Int}{o:iB}{S:List Nat}(b:r.cd=0)(h:At r d o S)(a:lu d o)(hp:ll p):l6 s (E4 s r p n fl) (nN d o) (oN o) S:=
 (h.text (t:=(AK s r.pos n fl).1) (by have c:=US (s:=s) (p:=r.pos) (n:=n) (fl:=fl);have:=Sm.le (s:=s);omega) hp (by decide) a rfl rfl rfl rfl:At (cY r 1 (AK s r.pos n fl).1 p.an p.tg) _ _ _).at.Bt b
theorem Ph{s:Bs}[Sm s]{r:Rd}{p:Pp}{c1 c2:Int}{d:Int}{o:iB}{S:List Nat}(a:Ok s r)(h:At r d o S)(b:lu d o)(hp:ll p):l6 s (oM s r p c1 c2) (nN d o) (oN o) S:=by
 unfold oM;split
 ·exact HU a.cd a.pos h b
 split
 ·rename_i c;exact IU a.cd c h b hp
 split
 ·exact OU a.cd h b hp
 split
 ·exact ES (by simp) a.cd h b hp (by decide)
 exact h.lc (by decide) a.pos
theorem IA{s:Bs}{r:Rd}{k st:Int}{p:Pp}{sg:Nat}{d:Int}{o:iB}{S:List Nat}(e:r.cd=0)(h:At r d o S)(c:lu d o)(hp:ll p)(a:k=3\/k=4)(f:6<=st/\st<=7)(b:sg<=s.length):l6 s (jt r k st p sg) (nN d o) (oN o++[(decide (k=4),0)]) (S++[r.ev.length]):=by
 unfold jt;split
 ·exact h.lc (by decide) b
 exact(h.op hp a f c rfl rfl rfl rfl:At { bB r (oQ k st p.an p.tg) false with dp:=r.dp+1 } _ _ _).Bt e
theorem TS{s:Bs}{r:Rd}{c:Int}{d:Int}{o:iB}{S:List Nat}(a:Ok s r)(h:At r d o S):l6 s (ly s r c) d o S:=by
 unfold ly;split
 ·exact h.at.Bt a.cd
 split
 ·exact h.Bt a.cd
 exact h.lc (by decide) a.pos
theorem pI{o:iB}(h:o≠[]):nZ o≠[]:=by intro b;have a:=xx (o:=o);rw[b]at a;exact h (dj.1 a.symm)
theorem vA{o:iB}(h:o≠[]):tp (nZ o)=((tp o).1,(tp o).2+1):=by have a:0<o.length:=fX.2 h;unfold tp nZ;rw[gw,aG,List.getElem?_set_self (by omega)];rfl
theorem AH{o:iB}:pop (nZ o)=pop o:=by unfold pop nZ;rw[gw,List.take_set_of_le (aN _)]
theorem vB{o:iB}{x:Bool×Nat}:tp (o++[x])=x:=by unfold tp;rw[aC,aK,aL,aX,Nat.add_sub_cancel,gn]
theorem AI{o:iB}{x:Bool×Nat}:pop (o++[x])=o:=by simp[pop]
def E2(b:Bool)(o:iB):iB:=if b then nZ (nZ o)else nZ o
def WD(s:Bs)(D:Nat)(b:Bool)(it:Rd->Rd):Prop:=∀r d o S,Ok s r->r.dp=D->o≠[]->At r d o S->l6 s (it r) d (E2 b o) S
def Vv(s:Bs)(D:Nat)(it:Rd->Rd):Prop:=∀r d o S,Ok s r->r.dp=D->lu d o->At r d o S->l6 s (it r) (nN d o) (oN o) S
theorem Vv.it{s:Bs}{D:Nat}{it:Rd->Rd}(h:Vv s D it):WD s D false it:=by intro r d o S b c a e;have:=h r d o S b c (fun h=>absurd h a) e;unfold nN oN at this;rw[aA a,aA a]at this;exact this
theorem zP{o:iB}{b:Bool}(h:o≠[])(a:(tp o).1=b)(c:b=true->(tp o).2 % 2=0):rk o=true:=by
 unfold rk;cases b with
 |false=>simp[h,a]
 |true=>simp[h,a,c rfl]
theorem DZ{o:iB}{b:Bool}(h:o≠[])(a:(tp o).1=b)(c:b=true->(tp o).2 % 2=0):E2 b o≠[]/\(tp (E2 b o)).1=b/\(b=true->(tp (E2 b o)).2 % 2=0)/\pop (E2 b o)=pop o:=by
 cases b with
 |false=>
  have e:E2 false o=nZ o:=rfl;rw[e];exact⟨pI h,(by rw[vA h];exact a),(fun h=>Bool.noConfusion h),AH⟩
 |true=>
  have e:E2 true o=nZ (nZ o):=rfl;rw[e];refine⟨pI (pI h), ?_,fun _=>?_, ?_⟩
  ·rw[vA (pI h),vA h];exact a
  ·rw[vA (pI h),vA h];have:=c rfl;simp only;omega
  rw[AH,AH]
theorem QA{s:Bs}[Sm s]{it:Rd->Rd}{c:Int}{D:Nat}{b:Bool}(hit:kw s D it)(u:WD s D b it):∀(n:Nat) (k:Nat) (r:Rd) (d:Int) (o:iB) (S:List Nat),s.length-r.pos=n->Ok s r->r.dp=D->At r d o (S++[k])->o≠[]->(tp o).1=b->(b=true->(tp o).2 % 2=0)->l6 s (qN s it c k r) d (pop o) S:=by
 intro n
 induction n using Nat.strongRecOn with
 |_ n F=>
  intro k r d o S K w hd h i y x;have A:=yx w h;by_cases a:(cL s r).cd=0
  ·have p:=w.gN a;have m:=A.1 a;by_cases j:bW s (cL s r).pos=c
   ·rw[pB a j];exact(At.sh m.at (zP i y x)).Bt a
   have e:=(gm a).1;have B:=u _ d o _ p (by rw[e];exact hd) i m;obtain⟨G,H,I,J⟩:=DZ i y x;by_cases f:(it (cL s r)).cd=0
   ·have C:=hit _ p (by rw[e];exact hd) f;have q:=yx C.ok (B.1 f);by_cases g:(cL s (it (cL s r))).cd=0
    ·have z:=TS (c:=c) (C.ok.gN g) (q.1 g);by_cases l:(ly s (cL s (it (cL s r))) c).cd=0
     ·have t:=mM hit w hd a f g l;have v:=t.lt;have E:=t.ok.pos;rw[tk a j f g ⟨l,v,by omega⟩];have:=F (s.length-(ly s (cL s (it (cL s r))) c).pos) (by omega) k _ d _ S rfl t.ok (by rw[t.dp];exact hd) (z.1 l) G H I;rw[J]at this;exact this
     rw[th a j f g l];exact z.bad l
    rw[tj a j f g];exact q.bad g
   rw[tm a j f];exact B.bad f
  rw[pC a];exact A.bad a
theorem D9{o:iB}{x:Bool×Nat}:oN o++[x]≠[]:=by simp
theorem M6{s:Bs}[Sm s]{it:Rd->Rd}{c k:Int}{r:Rd}{p:Pp}{d:Int}{o:iB}{S:List Nat}(n:r.pos<s.length)(b:Ok s r)(hit:r.dp<40->kw s (r.dp+1) it)(f:r.dp<40->WD s (r.dp+1) (decide (k=4)) it)(u:k=3\/k=4)(h:At r d o S)(v:lu d o)(hp:ll p):l6 s (qO s it c k r p) (nN d o) (oN o) S:=by
 have l:=IA (sg:=r.pos) b.cd h v hp u (st:=6) (by decide) b.pos;unfold qO;split
 ·rename_i a;exact l.bad a
 rename_i a;have a:(jt r k 6 p r.pos).cd=0:=by simpa using a
 obtain⟨y,x,i,j,q,t,m⟩:=rp b n a;have g:Ok s (atR (jt r k 6 p r.pos) (r.pos+1)):=by
  obtain⟨e,_⟩:=pQ a;have w:=b.sz;refine⟨a,n, ?_, ?_, ?_, ?_, ?_, ?_⟩
  ·simp only[atR];rw[e];simp[bB,b.dn]
  ·simp only[atR];rw[q,i];have:=b.bs;simp;omega
  ·simp only[atR];omega
  ·simp only[atR];rw[i];simp;omega
  ·simp only[atR];rw[j];exact b.hd
  simp only[atR];rw[j];exact b.pf
 have:=QA (c:=c) (hit m) (f m) _ r.ev.length (atR (jt r k 6 p r.pos) (r.pos+1)) (nN d o) (oN o++[(decide (k=4),0)]) S rfl g t (l.1 a).at D9 (by rw[vB]) (fun _=>by rw[vB];rfl);rw[AI]at this;exact this
theorem Rx:ll (⟨false,[],[],0⟩:Pp):=⟨by decide,by decide⟩
theorem Hg{s:Bs}{r:Rd}{t:Bs}{st:Int}{d:Int}{o:iB}{S:List Nat}(e:t.length<=16777216)(b:r.cd=0)(h:At r d o S)(a:lu d o)(c:1<=st/\st<=5):l6 s (cY r st t [] []) (nN d o) (oN o) S:=ES (p:=(⟨false,[],[],0⟩:Pp)) e b h a Rx c
theorem Gj{d:Int}{o:iB}(h:o≠[]):lu d o/\nN d o=d/\oN o=nZ o:=⟨fun a=>absurd a h,aA h,aA h⟩
theorem UK{s:Bs}[Sm s]{z:Rd->Rd}{r:Rd}{d:Int}{o:iB}{S:List Nat}(m:Ok s r)(hit:kw s r.dp z)(x:Vv s r.dp z)(h:At r d o S)(l:o≠[]):l6 s (n1 s z r) d (E2 true o) S:=by
 have n:=K0 m h;unfold n1;split
 ·rename_i a;exact n.1.bad a
 rename_i a;have a:(km s r).cd=0:=by simpa using a
 have w:=m.km a;obtain⟨q,F,_⟩:=oH m.pos m.cd a;obtain⟨D,E,n3⟩:=Gj (d:=d) l;have p:=Ph (c1:=125) (c2:=58) w (n.1.1 a) D (n.2 a);rw[E,n3]at p;split
 ·rename_i f;exact p.bad f
 rename_i f;have f:(oM s (km s r) (ia s true r) 125 58).cd=0:=by simpa using f
 have y:=Ee m rfl a rfl f;have A:=yx y.ok (p.1 f);split
 ·rename_i c;exact A.bad c
 rename_i c;have c:(cL s (oM s (km s r) (ia s true r) 125 58)).cd=0:=by simpa using c
 have k:=y.ok.gN c;have j:=A.1 c;have v:(cL s (oM s (km s r) (ia s true r) 125 58)).dp=r.dp:=by rw[(gm c).1];exact y.dp
 generalize cL s (oM s (km s r) (ia s true r) 125 58)=g at *;obtain⟨m1,m2,m3⟩:=Gj (d:=d) (pI l);have e:E2 true o=nZ (nZ o):=rfl;rw[e];unfold Qt;split
 ·rename_i B;unfold VB;have C:=cE B.1 (by decide);have i:Ok s (atR g (g.pos+1)):=k.at (by omega) C;have u:=yx i j.at;split
  ·rename_i b;exact u.bad b
  rename_i b;have b:(cL s (atR g (g.pos+1))).cd=0:=by simpa using b
  split
  ·have:=Hg (t:=[]) (st:=1) (by simp) b (u.1 b) m1 (s:=s) (by decide);rw[m2,m3]at this;exact this
  have:=x _ _ _ _ (i.gN b) (by rw[(gm b).1];exact v) m1 (u.1 b);rw[m2,m3]at this;exact this
 have:=Hg (t:=[]) (st:=1) (by simp) k.cd j m1 (s:=s) (by decide);rw[m2,m3]at this;exact this
theorem H0{s:Bs}[Sm s]{c:Rd->Rd}{r:Rd}{p:Pp}{d:Int}{o:iB}{S:List Nat}(g:Ok s r)(hit:r.dp<40->kw s (r.dp+1) c)(i:r.dp<40->kw s (r.dp+1) (n1 s c))(a:r.dp<40->Vv s (r.dp+1) c)(h:At r d o S)(f:lu d o)(hp:ll p):l6 s (pA s c r p) (nN d o) (oN o) S:=by
 unfold pA;split
 ·rename_i e;exact M6 (cE e (by decide)) g hit (fun b=>(a b).it) (.inl rfl) h f hp
 split
 ·rename_i e;refine M6 (cE e (by decide)) g i (fun b=>?_) (.inr rfl) h f hp;intro r' q o' n k j l m;exact UK k (by rw[j];exact hit b) (by rw[j];exact a b) m l
 exact Ph g h f hp
theorem Oq{s:Bs}[Sm s]{c:Rd->Rd}{r:Rd}{d:Int}{o:iB}{S:List Nat}(b:Ok s r)(hit:r.dp<40->kw s (r.dp+1) c)(g:r.dp<40->kw s (r.dp+1) (n1 s c))(f:r.dp<40->Vv s (r.dp+1) c)(h:At r d o S)(j:lu d o):l6 s (yf s c r) (nN d o) (oN o) S:=by
 have e:=K0 b h;unfold yf;split
 ·rename_i a;exact e.1.bad a
 rename_i a;have a:(km s r).cd=0:=by simpa using a
 obtain⟨q,i,_⟩:=oH b.pos b.cd a;have hd:(km s r).dp=r.dp:=by rw[i];rfl
 exact H0 (b.km a) (by rw[hd];exact hit) (by rw[hd];exact g) (by rw[hd];exact f) (e.1.1 a) j (e.2 a)
theorem Is{s:Bs}{d D:Nat}(h:D+d=40):kw s D (sW s d):=fun r a hd b=>n0 d r a (by omega) b
theorem Oj{s:Bs}{d D:Nat}(h:D+d=40):kw s D (n1 s (sW s d)):=fun r a hd b=>pR a (by rw[hd];exact Is h) b
theorem Kz{s:Bs}[Sm s]:∀(n D:Nat),D+n=40->Vv s D (sW s n)
 |0,D,e=>fun r d o S c hd b h=>Oq c (fun a=>by omega) (fun a=>by omega) (fun a=>by omega) h b
 |n+1,D,e=>fun r d o S c hd b h=>Oq c (fun a=>Is (by omega)) (fun a=>Oj (by omega)) (fun a=>Kz n _ (by omega)) h b
theorem TP{s:Bs}[Sm s]{r:Rd}{p:Pp}{d:Int}{o:iB}{S:List Nat}(b:Ok s r)(h:At r d o S)(c:lu d o)(hp:ll p):l6 s (Cc s r p) (nN d o) (oN o) S:=by
 have hd:=b.dp;unfold Cc;split
 ·exact H0 b (fun a=>by omega) (fun a=>by omega) (fun a=>by omega) h c hp
 rename_i n e;exact H0 b (fun a=>Is (by omega)) (fun a=>Oj (by omega)) (fun a=>Kz n _ (by omega)) h c hp
theorem Ke{s:Bs}{r:Rd}{d:Int}{o:iB}{S:List Nat}(a:r.cd=0)(hp:r.pos<=s.length)(h:At r d o S):l6 s (kB s r) d o S:=by
 unfold kB;split
 ·exact h.Bt a
 split
 ·exact h.Bt a
 rename_i b c;have e:=NH (sub s (la s r.pos) r.pos) 9;have f:=nP s r.pos;have g:(sub s (la s r.pos) r.pos).length=r.pos-la s r.pos:=by simp only[sub,bK,aZ];omega
 exact h.lc (by decide) (by omega)
theorem Ed{s:Bs}{r:Rd}{p:Nat}{d:Int}{o:iB}{S:List Nat}(a:r.cd=0)(hp:p<=s.length)(h:At r d o S):l6 s (jn s r p) d o S:=by
 unfold jn;split
 ·exact h.at.Bt a
 exact Ke a (ez s p hp) h.at
theorem Uf(s:Bs)(q:Nat)(a ch:Int)(sg:Bool):0<=(sm s q a ch sg).2.2.2/\(sm s q a ch sg).2.2.2<=99:=by
 fun_induction sm s q a ch sg with
 |case1 q a ch sg h b=>exact b
 |case2 q a ch sg h c b=>exact b
 |case3=>exact⟨Int.le_refl 0,show(0:Int)<=99 by decide⟩
 |case4=>exact⟨show(0:Int)<=6 by decide,show(6:Int)<=99 by decide⟩
theorem Uq(s:Bs)(p:Nat)(n:Int):0<=(nQ s p n).2.2/\(nQ s p n).2.2<=99:=by
 have h:0<=(jJ s p).2.2.2/\(jJ s p).2.2.2<=99:=by
  unfold jJ;split
  ·exact Uf s _ _ _ _
  exact⟨show(0:Int)<=10 by decide,show(10:Int)<=99 by decide⟩
 unfold nQ;split
 ·exact h
 exact⟨Int.le_refl 0,show(0:Int)<=99 by decide⟩
theorem Vd{s:Bs}[Sm s]{x:Rb}{p:Pp}{n:Int}{d:Int}{o:iB}{S:List Nat}(b:Ok s x.r)(h:At x.r d o S)(c:lu d o)(hp:ll p):l6 s (qD s x p n).r (nN d o) (oN o) S:=by
 unfold qD;split
 ·rename_i a;have e:x.r.pos<s.length:=by
   rcases a with a|a
   ·exact cE a (by decide)
   exact cE a (by decide)
  have g:=Uq s x.r.pos n;have f:=CL (n:=n) e;split
  ·rename_i i;exact h.lc (by omega) f.1
  refine(At.at ?_).Bt b.cd;exact h.text (t:=(nQ s x.r.pos n).1) (by have j:=Ur (n:=n) e;have:=Sm.le (s:=s);omega) hp (by split<;>decide) c rfl rfl rfl rfl
 split
 ·exact TP b h c hp
 split
 ·exact HU b.cd b.pos h c
 split
 ·rename_i a;exact IU b.cd a h c hp
 split
 ·exact OU b.cd h c hp
 exact h.lc (by decide) b.pos
theorem Iv{s:Bs}{x:Rb}{d:Int}{o:iB}{S:List Nat}(a:x.r.cd=0)(hp:x.r.pos<=s.length)(h:At x.r d o S):l6 s (nG s x).r d o S:=by
 unfold nG;split
 ·exact h.lc (by decide) (gV hp).2
 exact Ed a hp h
theorem Up{s:Bs}[Sm s]{r:Rd}{p:Pp}{d:Int}{o:iB}{S:List Nat}(a:r.cd=0)(e:r.pos<=s.length)(h:At r d o S)(b:lu d o)(hp:ll p):l6 s (qP s r p) (nN d o) (oN o) S:=by
 unfold qP;split
 ·exact HU a e h b
 split
 ·rename_i c;exact IU a c h b hp
 exact ES (by have f:=yN s r.pos (jg s r.pos).1.toNat;have:=Sm.le (s:=s);omega) a h b hp (by decide)
def MM(s:Bs)(D:Nat)(a:Int->Bool->Bool->Rb->Rb):Prop:=∀n i l x d o S,Ok s x.r->x.r.dp=D->lu d o->At x.r d o S->l6 s (a n i l x).r (nN d o) (oN o) S
theorem Iu{s:Bs}{x:Rb}{r:Rd}{p:Pp}{e:Nat}{d:Int}{o:iB}{S:List Nat}(a:r.cd=0)(h:At r d o S)(b:lu d o)(hp:ll p):l6 s (qJ x r p e).r (nN d o) (oN o) S:=
 (h.text (t:=[]) (by simp) hp (by decide) b rfl rfl rfl rfl:At (cY r 1 [] p.an p.tg) _ _ _).at.Bt a
theorem Ql{s:Bs}[Sm s]{v:Int->Bool->Bool->Rb->Rb}{sg:Nat}{c:Int}{li:Bool}{x:Rb}{d:Int}{o:iB}{S:List Nat}(j:MM s x.r.dp v)(k:Ok s (atR x.r (sg+1)))(g:sg<s.length)(h:At x.r d o S)(w:lu d o):l6 s (ls s v sg c li x).r (nN d o) (oN o) S:=by
 have t:=gY s (sg+1);have u:=gO s (sg+1) g;have e:=fq s (sg+1);have f:=ez s (sg+1) g;have m:=k.sz;have key:∀(q:Nat) (n:Int) (i l:Bool),sg+1<=q->q<=s.length->l6 s (v n i l (bI x (atR x.r q))).r (nN d o) (oN o) S:=fun q n i l b a=>
  j n i l (bI x (atR x.r q)) d o S (uZ (r:=atR x.r (sg+1)) k (by simp only[atR]at m |-;omega) b a) rfl w h.at
 unfold ls;split
 ·exact key _ _ _ _ t u
 have b:=Ed (s:=s) (r:=x.r) (p:=sg+1) k.cd g h;split
 ·rename_i a;exact b.bad a
 rename_i a;have a:(jn s x.r (sg+1)).cd=0:=by simpa using a
 split
 ·exact Iu (p:=kF 0) a (b.1 a) w (Ez 0)
 rw[jU a];exact key _ _ _ _ e f
theorem UD{s:Bs}[Sm s]{j:Int->Bool->Bool->Rb->Rb}{c:Nat}{own:Pp}{x:Rb}{d:Int}{o:iB}{S:List Nat}(n:kM s x.r.dp j)(m:MM s x.r.dp j)(a:vG s x.r)(v:(jg s x.r.pos).2.2=true)(h:At x.r d o S)(g:o≠[])(hp:ll own):l6 s (j8 s j c own x).r d (E2 true o) S:=by
 obtain⟨C,D,p,E,F⟩:=jz (cJ a.pos) v;obtain⟨z,A,n3⟩:=Gj (d:=d) g;obtain⟨m1,m2,m3⟩:=Gj (d:=d) (pI g);have t:E2 true o=nZ (nZ o):=rfl;have k:=Up a.cd (cJ a.pos) h z hp;rw[A,n3]at k;rw[t];unfold j8;split
 ·rename_i f;exact k.bad f
 rename_i f;have f:(qP s x.r own).cd=0:=by simpa using f
 have r:=k.1 f;obtain⟨e,q,u,B⟩:=F3 a.cd (cJ a.pos) f;rw[u]at r |-
 have w:=a.sz;have i:Ok s (atR (bI x (hB x.r e q)).r ((jg s x.r.pos).2.1.toNat+1)):=⟨a.cd,p,by simp[bI,hB,atR,bB,a.dn],by simp only[bI,hB,atR,bB,aC];have:=a.bs;omega,a.dp,by simp only[bI,hB,atR,bB,aC,aH];omega,a.hd,a.pf⟩
 have l:=Ql (x:=bI x (hB x.r e q)) (li:=false) (c:=(c:Int)) m i p r m1;rw[m2,m3]at l;split
 ·rename_i b;exact l.bad b
 rename_i b;have b:(ls s j (jg s x.r.pos).2.1.toNat c false (bI x (hB x.r e q))).r.cd=0:=by simpa using b
 have y:=xX (x:=bI x (hB x.r e q)) (li:=false) (c:=(c:Int)) n i (by simp only[bI,hB,atR,bB,aC,aH];omega) p b;exact Iv b y.ok.pos (l.1 b)
theorem Uw{s:Bs}[Sm s]{f:Int->Bool->Bool->Rb->Rb}{c:Nat}{x:Rb}{d:Int}{o:iB}{S:List Nat}(k:kM s x.r.dp f)(i:MM s x.r.dp f)(a:vG s x.r)(h:At x.r d o S)(j:o≠[]):l6 s (kP s f c x).r d (E2 false o) S:=by
 obtain⟨p,q,n3⟩:=Gj (d:=d) j;have l:E2 false o=nZ o:=rfl;have m:=a.sz;have e:Ok s (atR x.r (x.r.pos+1)):=⟨a.cd,a.pos,a.dn,a.bs,a.dp,by simp only[atR];omega,a.hd,a.pf⟩
 have g:=Ql (li:=true) (c:=(c:Int)) i e a.pos h p;rw[q,n3]at g;rw[l];unfold kP;split
 ·rename_i b;exact g.bad b
 rename_i b;have b:(ls s f x.r.pos c true x).r.cd=0:=by simpa using b
 have n:=xX (li:=true) (c:=(c:Int)) k e (by omega) a.pos b;exact Iv b n.ok.pos (g.1 b)
theorem Np{s:Bs}{x:Rb}{k:Nat}{d:Int}{o:iB}{S:List Nat}(a:x.r.cd=0)(h:At x.r d o (S++[k]))(he:rk o=true):l6 s (yb x k).r d (pop o) S:=(At.sh h he).at.Bt a
theorem Rh{s:Bs}[Sm s]{a:Int->Bool->Bool->Rb->Rb}{c D:Nat}(z:kM s D a)(F:MM s D a):∀(n k:Nat) (own:Pp) (x:Rb) (d:Int) (o:iB) (S:List Nat),s.length-x.r.pos=n->vG s x.r->x.r.dp=D->(jg s x.r.pos).2.2=true->At x.r d o (S++[k])->o≠[]->(tp o).1=true->(tp o).2 % 2=0->ll own->l6 s (uo s a c k own x).r d (pop o) S:=by
 intro n
 induction n using Nat.strongRecOn with
 |ind n T=>
 intro k own x d o S V w hd K h u R B hp;obtain⟨L,M,N,O⟩:=DZ u R (fun _=>B);have J:=UD (c:=c) (by rw[hd];exact z) (by rw[hd];exact F) w K h u hp;rw[uo];by_cases r:(j8 s a c own x).r.cd=0
 ·obtain⟨v,l⟩:=Gh (by rw[hd];exact z) w K r;have E:=J.1 r;have A:=l.ok;have t:=ez s v.pos A.pos;have p:(j8 s a c own x).r.pos<=s.length:=by rw[l.eq.1];exact t
  rw[aA (by simpa using r)];by_cases B:fV s (j8 s a c own x).r.pos=true\/gL s (j8 s a c own x).r.pos<c
  ·rw[aB B,<-O];exact Np r E (zP L M N)
  rw[aA B];by_cases I:c<gL s (j8 s a c own x).r.pos
  ·rw[aB I];exact E.lc (by decide) p
  rw[aA I];have m:Ok s (j8 s a c own x).r:=by rw[l.eq.1];exact A.at (fq s v.pos) t
  have C:=yG (fl:=false) m E;by_cases b:(iP s false (j8 s a c own x).r).cd=0
  ·rw[aA (by simpa using b)];by_cases g:(jg s (iP s false (j8 s a c own x).r).pos).2.2=true
   ·rw[aA (by rw[g];simp)];obtain⟨q,e,j,f,_,_⟩:=jr p m.cd b;have i:=C.1.1 b;have y:=C.2 b;rw[l.eq.1]at e j;rw[l.eq.1]at g b i y |-
    rw[e]at g i |-
    have H:q<s.length:=by have:=(jz f g).2.2.1;have:=(jz f g).2.2.2.1;omega
    obtain⟨Q,P,U⟩:=l.next w (by decide) j H
    rw[bV ⟨P,w.pos⟩,<-O];exact T (s.length-q) (by have:=w.pos;omega) k _ (bI (j8 s a c own x) (atR (atR v (dR s v.pos)) q)) d _ S rfl Q (by rw[show(bI (j8 s a c own x) (atR (atR v (dR s v.pos)) q)).r.dp=v.dp from rfl,l.dp];exact hd) g i L M (N rfl) y
   rw[aB (by simpa using g)];have G:(iP s false (j8 s a c own x).r).pos<=s.length:=by obtain⟨q,e,j,f,_,_⟩:=jr p m.cd b;rw[e];exact f
   exact(C.1.1 b).lc (by decide) G
  rw[aB (by simpa using b)];exact C.1.bad b
 rw[aB (by simpa using r)];exact J.bad r
theorem Q9{s:Bs}[Sm s]{a:Int->Bool->Bool->Rb->Rb}{c D:Nat}(l:kM s D a)(r:MM s D a):∀(n k:Nat) (x:Rb) (d:Int) (o:iB) (S:List Nat),s.length-x.r.pos=n->vG s x.r->x.r.dp=D->At x.r d o (S++[k])->o≠[]->(tp o).1=false->l6 s (yz s a c k x).r d (pop o) S:=by
 intro n
 induction n using Nat.strongRecOn with
 |ind n H=>
 intro k x d o S K i hd h g G;obtain⟨A,B,I,C⟩:=DZ g G (fun h=>by cases h);have z:=Uw (c:=c) (by rw[hd];exact l) (by rw[hd];exact r) i h g;rw[yz];by_cases f:(kP s a c x).r.cd=0
 ·obtain⟨v,b⟩:=Ga (by rw[hd];exact l) i f;have p:=z.1 f;have u:=b.ok;have q:=ez s v.pos u.pos;have w:(kP s a c x).r.pos<=s.length:=by rw[b.eq.1];exact q
  rw[aA (by simpa using f)];by_cases m:fV s (kP s a c x).r.pos=true\/gL s (kP s a c x).r.pos<c\/(gL s (kP s a c x).r.pos=c/\mT s (kP s a c x).r.pos=false)
  ·rw[aB m,<-C];exact Np f p (zP A B I)
  rw[aA m];by_cases y:c<gL s (kP s a c x).r.pos
  ·rw[aB y];exact p.lc (by decide) w
  rw[aA y];have t:fV s (kP s a c x).r.pos=false:=by simpa using fun h=>m (.inl h)
  have j:=(uR t).1;have e:(kP s a c x).r.pos=dR s v.pos:=by rw[b.eq.1];rfl
  rw[e]at j;obtain⟨F,E,J⟩:=b.next i (by decide) (aN _) j
  rw[bV ⟨by rw[e];exact E,i.pos⟩,<-C];exact H (s.length-(kP s a c x).r.pos) (by have:=i.pos;omega) k (kP s a c x) d _ S rfl (by rw[b.eq.1];exact F) (by rw[b.eq.1,show(atR v (dR s v.pos)).dp=v.dp from rfl,b.dp];exact hd) p A B
 rw[aB (by simpa using f)];exact z.bad f
theorem UC{s:Bs}[Sm s]{j:Int->Bool->Bool->Rb->Rb}{outer own:Pp}{e:Nat}{x:Rb}{d:Int}{o:iB}{S:List Nat}(i:x.r.dp<40->kM s (x.r.dp+1) j)(f:x.r.dp<40->MM s (x.r.dp+1) j)(g:Ok s x.r)(n:(jg s x.r.pos).2.2=true)(h:At x.r d o S)(w:lu d o)(hp:ll outer)(y:ll own)(u:e<=s.length):l6 s (v7 s j outer own e x).r (nN d o) (oN o) S:=by
 have v:x.r.pos<s.length:=by have:=jz g.pos n;omega
 unfold v7;have b:(if own.has=true then e else x.r.pos)<=s.length:=by split;exact u;omega
 generalize (if own.has=true then e else x.r.pos)=fs at b |-
 have m:=IA (sg:=fs) g.cd h w hp (k:=4) (.inr rfl) (st:=7) (by decide) b;split
 ·rename_i a;exact m.bad a
 rename_i a;have a:(jt x.r 4 7 outer fs).cd=0:=by simpa using a
 obtain⟨t,p,z,A,B,q,l⟩:=rp g v a;have r:=m.1 a;have:=Rh (c:=gL s fs) (i l) (f l) _ x.r.ev.length own (bI x (jt x.r 4 7 outer fs)) _ _ S rfl t q (by rw[show(bI x (jt x.r 4 7 outer fs)).r.pos=(jt x.r 4 7 outer fs).pos from rfl,p];exact n) r D9 (by rw[vB];rfl) (by rw[vB];rfl) y;rw[AI]at this;exact this
theorem Us{s:Bs}[Sm s]{g:Int->Bool->Bool->Rb->Rb}{outer:Pp}{x:Rb}{d:Int}{o:iB}{S:List Nat}(f:x.r.dp<40->kM s (x.r.dp+1) g)(b:x.r.dp<40->MM s (x.r.dp+1) g)(e:Ok s x.r)(p:x.r.pos<s.length)(h:At x.r d o S)(q:lu d o)(hp:ll outer):l6 s (xG s g outer x).r (nN d o) (oN o) S:=by
 unfold xG;have j:=IA (sg:=x.r.pos) e.cd h q hp (k:=3) (.inl rfl) (st:=7) (by decide) e.pos;split
 ·rename_i a;exact j.bad a
 rename_i a;have a:(jt x.r 3 7 outer x.r.pos).cd=0:=by simpa using a
 obtain⟨n,r,t,u,v,l,i⟩:=rp e p a;have m:=j.1 a;have:=Q9 (c:=gL s x.r.pos) (f i) (b i) _ x.r.ev.length (bI x (jt x.r 3 7 outer x.r.pos)) _ _ S rfl n l m D9 (by rw[vB];rfl);rw[AI]at this;exact this
theorem MY{s:Bs}[Sm s]{f:Int->Bool->Bool->Rb->Rb}{n:Int}{inl:Bool}{outer own:Pp}{g:Nat}{x:Rb}{d:Int}{o:iB}{S:List Nat}(b:x.r.dp<40->kM s (x.r.dp+1) f)(a:x.r.dp<40->MM s (x.r.dp+1) f)(e:Ok s x.r)(h:At x.r d o S)(c:lu d o)(hp:ll outer)(j:ll own)(i:g<=s.length)(hw:own.has=true->own.en<=s.length):l6 s (qZ s f n inl outer own g x).r (nN d o) (oN o) S:=by
 unfold qZ;split
 ·rename_i k;exact UC b a e k.2 h c hp j i
 split
 ·rename_i l;exact Us b a e (uP l.2.2) h c hp
 split
 ·rename_i m;split
  ·exact h.lc (by decide) (gO s _ (hw m.2))
  exact h.lc (by decide) i
 refine Vd e h c ?_;split
 ·exact hp
 exact j
theorem M4{s:Bs}[Sm s]{D:Int->Bool->Bool->Rb->Rb}{n:Int}{inl N:Bool}{x:Rb}{d:Int}{o:iB}{S:List Nat}(w:x.r.dp<40->kM s (x.r.dp+1) D)(u:x.r.dp<40->MM s (x.r.dp+1) D)(b:Ok s x.r)(h:At x.r d o S)(B:lu d o):l6 s (sj s D n inl N x).r (nN d o) (oN o) S:=by
 have z:=yG (fl:=false) b h;unfold sj;split
 ·rename_i c;exact z.1.bad c
 rename_i c;have c:(iP s false x.r).cd=0:=by simpa using c
 obtain⟨q,e,L,M,O,H⟩:=jr b.pos b.cd c;have y:=z.1.1 c;have hp:=z.2 c;have t:(ia s false x.r).has=true->x.r.pos<(ia s false x.r).en/\(ia s false x.r).en<=s.length:=fun h=>⟨(oI b.pos H h).1,(oI b.pos H h).2.1⟩
 rw[e]at y |-
 split
 ·rename_i J;have E:=t J.1;have K:=fq s (ia s false x.r).en;have A:=ez s (ia s false x.r).en E.2;have F:=Ed (s:=s) (r:=atR x.r q) (p:=(ia s false x.r).en) b.cd E.2 y;split
  ·rename_i f;exact F.bad f
  rename_i f;have f:(jn s (atR x.r q) (ia s false x.r).en).cd=0:=by simpa using f
  have k:=F.1 f;split
  ·exact Iu f k B hp
  have j:=jU f;have a:Ok s (jn s (atR x.r q) (ia s false x.r).en):=by rw[j];exact b.at (q:=dR s (ia s false x.r).en) (by omega) A
  have G:(jn s (atR x.r q) (ia s false x.r).en).pos=dR s (ia s false x.r).en:=by rw[j];rfl
  have m:(jn s (atR x.r q) (ia s false x.r).en).dp=x.r.dp:=by rw[j];rfl
  have i:=yG (fl:=false) a k;generalize jn s (atR x.r q) (ia s false x.r).en=v at *;split
  ·rename_i g;exact i.1.bad g
  rename_i g;have g:(iP s false v).cd=0:=by simpa using g
  obtain⟨q2,I,m1,m2,m3,m4⟩:=jr a.pos a.cd g;have l:=i.1.1 g;have C:=i.2 g;rw[I]at l |-
  exact MY (x:=bI x (atR v q2)) (by rw[show(bI x (atR v q2)).r.dp=v.dp from rfl,m];exact w) (by rw[show(bI x (atR v q2)).r.dp=v.dp from rfl,m];exact u) (a.at m1 m2) l B hp C a.pos (fun h=>(oI a.pos m4 h).2.1)
 exact MY (x:=bI x (atR x.r q)) w u (b.at L M) y B (Ez 0) hp b.pos (fun h=>(t h).2)
theorem TN{s:Bs}{d D:Nat}(h:D+d=40):kM s D (uE s d):=fun n i l x a hd b=>sQ d n i l x a (by omega) b
theorem Jx{s:Bs}[Sm s]:∀(n D:Nat),D+n=40->MM s D (uE s n)
 |0,D,e=>fun m i l x d o S c hd b h=>M4 (fun a=>by omega) (fun a=>by omega) c h b
 |n+1,D,e=>fun m i l x d o S c hd b h=>M4 (fun a=>TN (by omega)) (fun a=>Jx n _ (by omega)) c h b
theorem O9{s:Bs}{r:Rd}{d:Int}{o:iB}{S:List Nat}(a:r.cd=0)(hp:r.pos+3<=s.length)(h:At r d o S):l6 s (sZ s r) d o S:=by
 unfold sZ;split
 ·exact h.lc (by decide) (gV hp).2
 exact h.at.Bt a
theorem U0{s:Bs}[Sm s]{m:Bool}{x:Rb}{d:Int}{o:iB}{S:List Nat}(b:Ok s x.r)(hd:x.r.dp=0)(hm:m=true->x.r.pos+3<=s.length)(h:At x.r d o S)(e:lu d o):l6 s (AV s m x).r (nN d o) (oN o) S:=by
 have f:MM s 0 (uE s 40):=Jx 40 0 rfl;unfold AV;split
 ·have c:=Ke b.cd b.pos h;split
  ·rename_i a;exact c.bad a
  rename_i a;rw[uW (show(kB s x.r).cd=0 by simpa using a)];exact f _ _ _ (bI x x.r) d o S b hd e h
 rename_i k;have i:=hm (by simpa using k);have n:=gY s (x.r.pos+3);have j:=gO s (x.r.pos+3) i;have l:=fq s (x.r.pos+3);have g:=ez s (x.r.pos+3) i;split
 ·exact f _ _ _ (bI x (atR x.r (wh s (x.r.pos+3)))) d o S (b.at (by omega) j) hd e h.at
 have c:=Ed (s:=s) (p:=x.r.pos+3) b.cd i h;split
 ·rename_i a;exact c.bad a
 rename_i a;have a:(jn s x.r (x.r.pos+3)).cd=0:=by simpa using a
 split
 ·exact Iu (p:=kF 0) a (c.1 a) e (Ez 0)
 rw[jU a];exact f _ _ _ (bI x (atR x.r (dR s (x.r.pos+3)))) d o S (b.at (by omega) g) hd e h.at
theorem QH{s:Bs}{r:Rd}{y:Bool}(h:¬uG s r y=false)(hd:∀h∈r.hd,h.pre.length<=60):∀h∈mD s r,h.pre.length<=60:=by
 unfold uG at h;unfold mD;split
 ·exact hd
 rename_i b;rw[aA b]at h;split
 ·rename_i c;rw[aB c]at h;simp only[Bool.not_eq_false,aD,HH,aE]at h;intro x a;rcases dh.1 a with a|a
  ·exact hd x a
  simp only[eA,List.not_mem_nil,or_false]at a;subst a;exact h.1.1.2.2
 exact hd
theorem At.lj{r:Rd}{l:List Hd}{d:Int}{o:iB}{S:List Nat}(h:At r d o S)(a:∀h∈l,h.pre.length<=60):At (lj r l) d o S:=⟨h.nd,h.st,h.dn,h.dt,h.ti,h.dc,a⟩
theorem T3{s:Bs}{r:Rd}{y:Bool}{d:Int}{o:iB}{S:List Nat}(c:r.cd=0)(hp:r.pos<=s.length)(h:At r d o S):l6 s (lN s r y) d o S:=by
 have e:=ez s _ (jF s r.pos hp);unfold lN;split
 ·exact⟨fun a=>by simp[er]at a,fun _=>h.bad rfl (by simp[er]) hp⟩
 rename_i a;have b:=h.lj (QH a h.hd);split
 ·exact b.at.Bt c
 exact b.at.lc (by decide) e
theorem QG{s:Bs}:∀(n:Nat) (y:Bool) (r:Rd) (d:Int) (o:iB) (S:List Nat),s.length-r.pos=n->r.cd=0->r.pos<=s.length->At r d o S->l6 s (vO s y r) d o S:=by
 intro n
 induction n using Nat.strongRecOn with
 |ind n f=>
 intro y r d o S i b hp h;have e:=T3 (y:=y) b hp h;rw[vO];split
 ·split
  ·rename_i a;exact e.bad a
  rename_i a;have a:(lN s r y).cd=0:=by simpa using a
  split
  ·rename_i g;have c:(lN s r y).pos<=s.length:=by
    unfold lN at a |-
    split
    ·exact hp
    split
    ·exact ez s _ (jF s r.pos hp)
    exact ez s _ (jF s r.pos hp)
   exact f _ (by omega) _ _ _ _ _ rfl a c (e.1 a)
  exact h.Bt b
 exact h.Bt b
theorem TY{s:Bs}{r:Rd}{d:Int}{o:iB}{S:List Nat}(a:r.cd=0)(hp:r.pos<=s.length)(h:At r d o S):l6 s (ka s r) d o S:=by refine QG _ false _ d o S rfl a hp ?_;exact⟨h.nd,h.st,h.dn,h.dt,h.ti,fun j b c=>by simp only at b c;omega,fun x e=>by cases e⟩
theorem At.Xr{r:Rd}{m:Bool}{S:List Nat}(h:At r 0 [] S)(a:r.bs=r.ev.length):At (bB r (mQ m) true) 1 [] S:=by have:=h.tell (r':=bB r (mQ m) true) (e:=mQ m) rfl rfl rfl rfl (by cases m<;>decide) (by cases m<;>decide) (by cases m<;>decide) (by cases m<;>decide) (by intro h;simp[mQ]at h) (fun _=>a);have e:lp 0 [] (mQ m).kind=(true,1,[]):=rfl;rw[e]at this;exact this
theorem At.VX{r:Rd}{m:Bool}{S:List Nat}(h:At r 2 [] S):At (bB r (hY m) true) 0 [] S:=by have:=h.tell (r':=bB r (hY m) true) (e:=hY m) rfl rfl rfl rfl (by cases m<;>decide) (by cases m<;>decide) (by cases m<;>decide) (by cases m<;>decide) (by intro h;simp[hY]at h) (by intro h;simp[hY]at h);have e:lp 2 [] (hY m).kind=(true,0,[]):=rfl;rw[e]at this;exact this
theorem TZ{s:Bs}[Sm s]{x:Rb}{S:List Nat}(r:s.length<=1048576)(k:yv s x.r)(h:At x.r 0 [] S):l6 s (zc s x).r 0 [] S:=by
 obtain⟨t,u,w⟩:=H7 k;have f:=TY k.ok.cd k.ok.pos h;unfold zc;split
 ·rename_i e;exact f.bad e
 rename_i e;have e:(ka s x.r).cd=0:=by simpa using e
 obtain⟨j,_,_⟩:=w e;have A:=f.1 e;have C:=A.Xr (m:=decide (ib s (ka s x.r).pos=1)) (by rw[u,t]);have B:=U0 (m:=decide (ib s (ka s x.r).pos=1)) (x:=⟨bB (ka s x.r) (mQ (decide (ib s (ka s x.r).pos=1))) true,false,x.lt⟩) (j.tell r) j.dp (fun h=>(jH (s:=s) (p:=(ka s x.r).pos) (by rw[aW h];decide)).1) C (fun _=>rfl);have g:l6 s (DO s (decide (ib s (ka s x.r).pos=1)) (bI x (ka s x.r))).r 2 [] S:=B;split
 ·rename_i c;exact g.bad c
 rename_i c;have c:(DO s (decide (ib s (ka s x.r).pos=1)) (bI x (ka s x.r))).r.cd=0:=by simpa using c
 have q:xh s (bB (ka s x.r) (mQ (decide (ib s (ka s x.r).pos=1))) true) (DO s (decide (ib s (ka s x.r).pos=1)) (bI x (ka s x.r))).r:=R2 (m:=decide (ib s (ka s x.r).pos=1)) (x:=bI x (ka s x.r)) r j (fun h=>aW h) c;have i:=g.1 c;generalize DO s (decide (ib s (ka s x.r).pos=1)) (bI x (ka s x.r))=v at *;have n:=Iv c q.ok.pos i;split
 ·rename_i b;exact n.bad b
 rename_i b;have b:(nG s v).r.cd=0:=by simpa using b
 have d:=n.1 b;have l:(nG s v).r.pos<=s.length:=by rw[wb b];exact ez s _ q.ok.pos
 generalize nG s v=z at *;unfold QC;split
 ·exact d.lc (by decide) l
 split
 ·rename_i y;have o:=O9 b (jH (s:=s) (p:=z.r.pos) (by rw[y];decide)).1 d;split
  ·rename_i a;exact o.bad a
  rename_i a;have a:(sZ s z.r).cd=0:=by simpa using a
  exact(o.1 a).VX.Bt a
 exact d.VX.Bt b
theorem Vi{s:Bs}[Sm s]{x:Rb}{S:List Nat}(d:s.length<=1048576)(b:yv s x.r)(h:At x.r 0 [] S):l6 s (Dl s x).r 0 [] S:=by
 unfold Dl;split
 ·rename_i c;exact O9 b.ok.cd (jH (s:=s) (p:=x.r.pos) (by rw[c];decide)).1 h
 exact TZ d b h
structure WJ(s:Bs)(r:Rd):Prop where
 nd:eQ (if r.cd=0 then r.ev else r.ev++[uJ r.cd r.pl])=true
 ti:Qp r.ev
 en:r.cd=0->∃m d o,r.ev=m++[Bz]/\Nd m d o
 fl:r.cd≠0->(∃d o,Nd r.ev d o)/\r.pl<=s.length
theorem Nr{c:Int}{p:Nat}(h:1<=c/\c<=99):kz (uJ c p)=true:=by simp[kz,uJ,h.1,h.2]
theorem VF.W3{s:Bs}{r:Rd}(h:VF s r)(a:r.cd≠0):WJ s r:=by obtain⟨d,o,hd⟩:=h.nd;exact⟨by rw[aA a];exact hd.fin (Nr ⟨h.c1,h.c2⟩) (.inl rfl),h.ti,fun b=>absurd b a,fun _=>⟨h.nd,h.pl⟩⟩
theorem RI{s:Bs}[Sm s](g:s.length<=1048576):∀(n:Nat) (x:Rb),s.length-x.r.pos=n->yv s x.r->At x.r 0 [] []->WJ s (vI s x).r:=by
 intro n
 induction n using Nat.strongRecOn with
 |ind n k=>
 intro x o b h;have m:=b.ok.pos;have f:=b.gN;have l:=fq s x.r.pos;rw[vI];by_cases c:s.length<=dR s x.r.pos
 ·rw[aB c];have e:(bI x (bB (atR x.r (dR s x.r.pos)) Bz true)).r.cd=0:=b.ok.cd;refine⟨?_, ?_,fun _=>⟨x.r.ev,0,[],rfl,h.nd⟩,fun a=>absurd e a⟩
  ·rw[aB e];exact h.nd.fin (by decide) (.inr ⟨rfl,rfl⟩)
  exact h.ti.MW (by intro h;simp[Bz]at h)
 rw[aA c];have d:=Vi (x:=bI x (atR x.r (dR s x.r.pos))) g f h.at;by_cases a:(Dl s (bI x (atR x.r (dR s x.r.pos)))).r.cd=0
 ·rw[aA (by simpa using a)];obtain⟨i,j⟩:=Lm (x:=bI x (atR x.r (dR s x.r.pos))) g f a;simp only[bI,atR]at j;rw[bV ⟨by simp only[bI,atR];omega,by omega⟩];exact k _ (by simp only[bI,atR]at *;omega) _ rfl i (d.1 a)
 rw[aB (by simpa using a)];exact(d.2 a).W3 a
theorem UR(s:Bs):At (bB (oS 0) ln true) 0 [] []:=by
 refine⟨⟨[],rfl,rfl⟩,rfl,rfl,(fun k _ _ h=>by cases h), ?_, ?_,(fun x e=>by cases e)⟩
 ·intro i a d;have:i=0:=by simp[bB,oS]at a;exact a
  subst this;simp[bB,oS,ln]at d
 intro j b c;simp[bB,oS]at b c;omega
theorem Rw{s:Bs}(a:s.length<=1048576):WJ s (xV s):=
 haveI:Sm s:=⟨a⟩
 RI a _ _ rfl (su s) (UR s)
theorem Ck{l:List Ev}{k:Nat}:∀(i:Nat),k<i->k ∉ ic l i->ie (l.getD k ec).kind=true->0<=iC l i k/\iC l i k<i
 |0,h,_,_=>absurd h (aT _)
 |i+1,h,a,n=>by
  simp only[iC];by_cases m:k=i
  ·subst m;rw[aB rfl];have b:fS (l.getD k ec).kind=false:=by
    cases b:fS (l.getD k ec).kind
    ·rfl
    rw[jN b]at a;exact absurd (List.mem_append_right _ (dN.2 rfl)) a
   rw[n,b];simp only[ej,Bool.and_self,dy];omega
  rw[aA m];by_cases c:(l.getD i ec).kind=7/\nI (ic l i)=k
  ·rw[aB c];omega
  rw[aA c];have g:k ∉ ic l i:=by
   intro hm;by_cases b:fS (l.getD i ec).kind=true
   ·rw[jN b]at a;exact a (List.mem_append_left _ hm)
   by_cases d:(l.getD i ec).kind=7
   ·rw[mx d]at a;have hp:0<(ic l i).length:=List.length_pos_of_mem hm;have j:nI (ic l i)≠k:=fun h=>c ⟨d,h⟩;rw[vz hp]at j;obtain⟨p,f,e⟩:=List.getElem_of_mem hm;rcases aU p ((ic l i).length-1)with o|o
    ·refine a (List.mem_of_getElem (i:=p) (h:=by rw[aZ];omega) ?_);rw[fP];exact e
    obtain rfl:p=(ic l i).length-1:=by omega
    rw[aG,aS f,e]at j;exact j rfl
   rw[lf b d]at a;exact a hm
  have:=Ck i (by omega) g n;omega
theorem P5{l:List Ev}(b:eQ l=true)(g:Qp l):∀n,n<=l.length->xe l n=true
 |0,_=>rfl
 |i+1,h=>by
  simp only[xe];rw[P5 b g i (by omega),di];by_cases f:(l.getD i ec).kind=6
  ·obtain⟨k,c,d,e⟩:=g i (by omega) f;have hd:¬lz l i i<0:=by
    rw[Ci b (by omega) i (aN _),c,aA (by omega)];have a:=zF b (t:=(l.getD i ec).text) i (by omega) (by rw[c];omega);rw[c]at a;simp only[Int.toNat_natCast]at a |-
    have j:=FK b (i:=k) (by omega);rw[aB a,vP (m:=i) d e (by omega)]at j;have o:=Ck i d e a;rw[aA (by omega)];omega
   rw[aI hd];simp
  rw[aI f];rfl
theorem Hb{l:List Ev}(a:eQ l=true)(b:Qp l):nW l=true:=by unfold nW;rw[a,P5 a b _ (aN _)];rfl
theorem QL{e:Ev}(h:kz e=true):e.anchor.length<=60/\e.tag.length<=120:=by
 unfold kz at h;simp only[aD]at h;obtain⟨⟨_,a⟩,b⟩:=h;by_cases c:e.kind=10
 ·simp only[aV,aE]at a;rcases a with a|a
  ·rw[a.1,a.2];simp
  omega
 rw[aA c]at b;simp only[aD,aE]at b;exact⟨(aW b.1.1.2).1,b.1.2⟩
def HT(l:List Ev):Prop:=∀i,i<l.length->(l.getD i ec).text.length<=16777216/\(l.getD i ec).anchor.length<=1048576/\(l.getD i ec).tag.length<=1048576
theorem Nd.sz{l:List Ev}{d:Int}{o:iB}(h:Nd l d o):HT l:=fun i b=>by have a:=h.W2 b;have c:=QL a.1;exact⟨a.2,by omega,by omega⟩
theorem HT.MW{l:List Ev}{e:Ev}(h:HT l)(he:e.text=[]/\e.anchor=[]/\e.tag=[]):HT (l++[e]):=by
 intro i c;rcases aU i l.length with a|a
 ·rw[iG a];exact h i a
 obtain rfl:i=l.length:=by simp at c;omega
 rw[gn,he.1,he.2.1,he.2.2];simp
structure VH(n:Nat)(l:List Ev):Prop where
 nd:eQ l=true
 td:nW l=true
 sz:HT l
 la:∃(m:List Ev) (e:Ev),l=m++[e]/\((e.kind=10/\0<=e.pos/\e.pos<=(n:Int)/\ND l=true)\/(e.kind=9/\ND l=false))
theorem F4{m:List Ev}{e:Ev}:(m++[e]).getD ((m++[e]).length-1) ec=e:=by rw[aC,aH,Nat.add_sub_cancel,gn]
theorem vr{n:Nat}{m:List Ev}{d:Int}{o:iB}{c:Int}{p:Nat}(h:Nd m d o)(e:Qp m)(b:1<=c/\c<=99)(hp:p<=n):VH n (m++[uJ c p]):=by have a:eQ (m++[uJ c p])=true:=h.fin (Nr b) (.inl rfl);refine⟨a,Hb a (e.MW (by intro h;simp[uJ]at h)),h.sz.MW ⟨rfl,rfl,rfl⟩,m,uJ c p,rfl,.inl ⟨rfl,by simp[uJ],by simp[uJ];omega, ?_⟩⟩;rw[Cv a,F4];rfl
theorem zR:Nd [ln] 0 []:=⟨[],rfl,rfl⟩
theorem xd:Qp [ln]:=by
 intro i a b;have:i=0:=by simp at a;exact a
 subst this;simp[ln]at b
theorem OZ{s:Bs}:VH s.length (xU s):=by
 have f:=H3 s 0 (bF _);unfold xU Rv;split
 ·exact vr (m:=[ln]) zR xd (by decide) (by omega)
 split
 ·exact vr (m:=[ln]) zR xd (by decide) f
 have c:=Rw (s:=s) (by omega);split
 ·rename_i a;have b:=c.nd;rw[aA a]at b;have h:=c.ti;obtain⟨⟨d,o,hd⟩,hp⟩:=c.fl a;have g:=sr b (i:=(xV s).ev.length) (by simp);rw[gn]at g;refine vr hd h ?_ hp;simp[kz,uJ]at g;omega
 rename_i a;have a:(xV s).cd=0:=by simpa using a
 have b:=c.nd;rw[aB a]at b;obtain⟨m,d,o,e,hd⟩:=c.en a;refine⟨b,Hb b c.ti,by rw[e];exact hd.sz.MW ⟨rfl,rfl,rfl⟩,m,Bz,e,.inr ⟨rfl, ?_⟩⟩;rw[Cv b,e,F4];rfl
end Go.Pl
end
