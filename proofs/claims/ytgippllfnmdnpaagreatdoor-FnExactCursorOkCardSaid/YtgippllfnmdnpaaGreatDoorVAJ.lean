/- Own text: part VAJ. -/
import Derived.Test.YtgippllfnmdnpaaGreatDoorVAI
import Derived.Test.YtgippllfnmdnpaaGreatDoorVAA
import Derived.WalkKit
import Derived.ProofKit
import Derived.OpenShut
import Derived.ShutString
import Derived.ChangeOld
import Derived.Carry
import Derived.SizedLaws
import Derived.Deep.Strs
set_option linter.all false
section
namespace Go.Vg
variable[Go.Vg.df]
open Go.RowKit
def iD(μ:Nat->Nat)(ctx:dZ):List Nat->dZ->Prop
 |[],[]=>True
 |g::l,o::r=>(match o with
  |none=>True
  |some o'=>match ctx.at g with
   |some o=>nz μ o' o
   |none=>False)/\iD μ ctx l r
 |_,_=>False
def bC(μ:Nat->Nat)(env:List (Tmp×SV)):List (Tmp×SV)->Prop
 |[]=>True
 |(t,x)::r=>look env t=x.bP μ/\bC μ env r
theorem zj{μ:Nat->Nat}{env:List (Tmp×SV)}:∀{e:List (Tmp×SV)},bC μ env e->∀t,look e t=.u\/look env t=(look e t).bP μ
 |[],_,t=>.inl rfl
 |(u,x)::r,h,t=>by
  simp only[look];by_cases hu:u=t
  ·rw[aB hu];subst hu;exact .inr h.1
  rw[aA hu];exact zj h.2 t
theorem zi{μ:Nat->Nat}{ctx:dZ}:∀{l:List Nat} {c:dZ},iD μ ctx l c->l.length=c.length/\∀i o',dZ.at c i=some o'->∃g o,l[i]?=some g/\ctx.at g=some o/\nz μ o' o
 |[],[],_=>⟨rfl,fun i o' e=>by simp[dZ.at]at e⟩
 |g::l,o::r,h=>by
  simp only[iD]at h;obtain⟨a,d⟩:=h;obtain⟨j,f⟩:=zi d;refine⟨by simp[j],fun i o' e=>?_⟩;cases i with
  |zero=>
   rw[du]at e;subst e;simp only at a;split at a
   ·rename_i q k;exact⟨g,q,rfl,k,a⟩
   ·exact a.elim
  |succ i=>
   rw[dU]at e;obtain⟨b,q,m,n,p⟩:=f i o' e;exact⟨b,q,by simpa using m,n,p⟩
 |[],_::_,h=>by simp[iD]at h
 |_::_,[],h=>by simp[iD]at h
def zw(k:Nat)(l:List Nat):Bool:=(List.range k).all fun h=>l[h]?==some h
theorem Rel.yp{k:Nat}{st st':St}(l:List Nat)(E:zw k l=true)(G:l.Nodup)(x:iD (dX l st.ctx.length) st.ctx l st'.ctx)(y:bC (dX l st.ctx.length) st.env st'.env){A:kS}{σ:ey}{a:Act}{w:World}(D:A.k=k)(d:Rel A σ st a w):Rel A (σ.yp (dX l st.ctx.length)) st' a w:=by
 obtain⟨hlen,c⟩:=zi x;generalize z:dX l st.ctx.length=μ at *;have b:∀h g,l[h]?=some g->μ h=g:=by intro h g T;rw[<-z];simp[dX,T]
 have s:∀h,l.length<=h->st.ctx.length<=μ h:=by intro h r;rw[<-z];simp[dX,cw r]
 have hid:∀(h:Nat),h<k->l[h]?=some h:=by intro h r;unfold zw at E;rw[cx]at E;simpa using E h (by simpa using r)
 have F:k<=l.length:=by
  rcases dO k with R|R
  ·omega
  have:=hid (k-1) (by omega);obtain⟨m,_⟩:=cM.1 this;omega
 have inj:∀(i j g:Nat),l[i]?=some g->l[j]?=some g->i=j:=by intro i j g U V;obtain⟨M,a2⟩:=cM.1 U;obtain⟨N,O⟩:=cM.1 V;exact List.getElem_inj (h₀:=M) (h₁:=N) G |>.1 (a2.trans O.symm)
 refine⟨d.defers,d.size,fun t=>?_,⟨fun i o' e=>?_,fun i j o' W L K H P Q f s1 s2=>?_,fun h r=>?_,fun h L v=>d.sat.gq _ L v,d.sat.pG,fun i o' L e f v=>?_,d.sat.E0⟩,d.fr,fun i o' L e f v=>?_,⟨fun h r=>?_,d.base.FP,d.base.LV⟩, ?_⟩
 ·rcases zj y t with h|h
  ·rw[h];simp[rel]
  have:=d.env t;rw[h]at this;exact(lb σ μ _ _).1 this
 ·obtain⟨g,o,m,n,q⟩:=c i o' e;exact xO (σ:=σ) (σ0:=σ.yp μ) (μ:=μ) (fun _=>rfl) rfl q (by rw[b i g m];exact d.sat.obj g o n)
 ·obtain⟨g,o,m,n,q⟩:=c i o' P;obtain⟨B,p,u,C,S⟩:=c j W Q;have I:σ g=some L:=by rw[<-b i g m];exact s1
  have J:σ B=some K:=by rw[<-b j B u];exact s2
  refine d.sat.apart g B o p L K (fun e=>H ?_) n C (q.ro f) I J;subst e;exact inj i j g m u
 ·exact d.sat.beyond _ (s h (by rw[hlen];exact r))
 ·obtain⟨g,o,m,n,q⟩:=c i o' e;exact d.sat.mR g o L n (q.ro f) (by rw[<-b i g m];exact v)
 ·obtain⟨g,o,m,n,q⟩:=c i o' e;exact d.own g o L n (q.ro f) (by rw[<-b i g m];exact v)
 ·show σ (μ h)=A.σ0 h;rw[b h h (hid h (by omega))];exact d.base.loc h r
 show A.k<=st'.ctx.length;rw[<-hlen,D];exact F
theorem cG.yp{k:Nat}{st st':St}(l:List Nat)(n:zw k l=true)(h:l.Nodup)(d:iD (dX l st.ctx.length) st.ctx l st'.ctx)(e:bC (dX l st.ctx.length) st.env st'.env):cG k st st' :=
 fun A σ a w g m=>⟨_,Rel.yp l n h d e g m⟩
def LK(te:TE)(k pl:Nat)(rs:List ResultVar)(Z:SV)(C:dZ)(st:St):Prop:=
 ∃l:List Nat,(zw k l=true/\l.Nodup)/\iD (dX l st.ctx.length) st.ctx l C/\sN te st (fun z _=>z=Z.bP (dX l st.ctx.length)) rs []/\da k C/\pl<=C.length
theorem gQ.WR{cf:Cf}(g:cf.ok){f:FuncId}{fn:Func}{c:Code}(G:cf.P.funcs[f]?=some fn)(F:fn.body=some c)(b:(fn.name == "runtime.NumGoroutine")=false)(m:fn.ntmps=cf.nt){args:List SV}{pre:dZ}(hlen:args.length<=cf.nt)(H:cf.k<=pre.length){rs:List ResultVar}(i:fn.results.toList=rs){Z:SV}{C:dZ}(n:Nat)(h:vc cf (LK cf.te cf.k pre.length rs Z C) n [.code c] ⟨entry 0 args,pre⟩):gQ cf.P f cf.k args pre fun z c=>z=Z/\c=C:=by refine gQ.WC g G F b m hlen H i (fun A σ st a w k _ E q=>?_) n h;obtain⟨l,⟨u,x⟩,y,p,B,D⟩:=E;rw[<-i]at p;obtain⟨z,v,K,J,I⟩:=qb (P:=cf.P) g.te q p;subst K;exact⟨Z,v,C,σ.yp (dX l st.ctx.length),⟨rfl,rfl⟩,J,(lb _ _ _ _).1 I,Rel.yp (st':=⟨[],C⟩) l u x y trivial k q,B,D⟩
theorem cG.tail{k:Nat}{env env':List (Tmp×SV)}{c:dZ}(b:c=[])(d:k=0)(a:bC (dX [] c.length) env env'):cG k ⟨env,c⟩ ⟨env',[]⟩:=by subst d;subst b;exact cG.yp [] rfl List.nodup_nil (by simp[iD]) a
theorem cG.nil{env env':List (Tmp×SV)}{c:dZ}(a:bC (dX [] c.length) env env'):cG 0 ⟨env,c⟩ ⟨env',[]⟩:=
 cG.yp [] rfl List.nodup_nil (by simp[iD]) a
theorem cF.of{k:Nat}{st:St}{B:Sl ((St->Prop)×St)}{ι:Type}(S:ι->St)(m:ι->Nat)(i0:ι)(a:cG k st (S i0))(h:∀i,B.f (fun s=>∃j,m j<m i/\cG k s (S j),S i)):cF k st B:=
 ⟨ι,S,m,i0,a,h⟩
theorem kT.of{k:Nat}{B:Sl (St->Prop)}{R:Sl St}{ι:Type}(S:ι->St)(h:B.f (fun s=>∃j,cG k s (S j)))(a:∀j,R.f (S j)):kT k B R:=
 ⟨ι,S,h,a⟩
theorem vv{n:Int}:iz (fF [.i .u8 n] 1) 0 1=[UInt8.ofNat n.toNat]:=by simp[iz,fF,List.range_succ]
theorem P7(m k:Nat):(m:Int).tmod (k:Int)=((m % k:Nat):Int):=by rw[Int.tmod_eq_emod_of_nonneg (by omega)];rfl
theorem A0(m k:Nat):(m:Int).tdiv (k:Int)=((m / k:Nat):Int):=by rw[Int.tdiv_eq_ediv_of_nonneg (by omega)];rfl
end Go.Vg
end
section
namespace Go.Vg
variable[Go.Vg.df]
theorem XC:type_of% (ai (ai (ai (ai (ai (ai (ai (@Qg) (@Qe)) (ai (@LF) (ai (@LD) (@Qh)))) (ai (ai (@Qi) (@Dt)) (ai (@LB) (ai (@Hi) (@LC))))) (ai (ai (ai (@Hj) (@GG)) (ai (@C3) (ai (@C4) (@C5)))) (ai (ai (@LH) (ai (@Bm) (@xZ))) (ai (@LA) (ai (@MU) (@Jo)))))) (ai (ai (ai (ai (@Fh) (@Hz)) (ai (@uN) (ai (@vV) (@Qc)))) (ai (ai (@Tv) (ai (@Tw) (@Tx))) (ai (@Lx) (ai (@Ly) (@Hh))))) (ai (ai (ai (@Qd) (@Lw)) (ai (@Lz) (ai (@Qb) (@Qa)))) (ai (ai (@CC) (ai (@FZ) (@J2))) (ai (@F0) (ai (@J3) (@CE))))))) (ai (ai (ai (ai (ai (@Sj) (@Sk)) (ai (@So) (ai (@CF) (@qs)))) (ai (ai (@sS) (@Gw)) (ai (@CJ) (ai (@zE) (@GL))))) (ai (ai (ai (@GM) (@De)) (ai (@KD) (ai (@Oy) (@Gr)))) (ai (ai (@CZ) (ai (@B7) (@xj))) (ai (@B8) (ai (@qQ) (@qR)))))) (ai (ai (ai (ai (@yU) (@uz)) (ai (@Fp) (ai (@Fo) (@yS)))) (ai (ai (@yW) (ai (@Fk) (@B6))) (ai (@Fj) (ai (@yR) (@yX))))) (ai (ai (ai (@zZ) (@xN)) (ai (@xM) (ai (@B5) (@sP)))) (ai (ai (@Fm) (ai (@Fl) (@yT))) (ai (@Ca) (ai (@Cb) (@LJ)))))))) (ai (ai (ai (ai (ai (ai (@Dx) (@Hy)) (ai (@Gn) (ai (@Gp) (@Gl)))) (ai (ai (@Gm) (@Gq)) (ai (@Hv) (ai (@Dw) (@Hw))))) (ai (ai (ai (@Hx) (@KH)) (ai (@CD) (ai (@Gv) (@C1)))) (ai (ai (@uy) (ai (@qn) (@qS))) (ai (@C0) (ai (@KG) (@OC)))))) (ai (ai (ai (ai (@Gu) (@zx)) (ai (@CY) (ai (@Gk) (@xi)))) (ai (ai (@HB) (ai (@HA) (@KF))) (ai (@KE) (ai (@Gt) (@Gs))))) (ai (ai (ai (@xl) (@KL)) (ai (@KJ) (ai (@OE) (@OD)))) (ai (ai (@qT) (ai (@xk) (@SD))) (ai (@SC) (ai (@CB) (@uA))))))) (ai (ai (ai (ai (ai (@Hm) (@A7)) (ai (@Hs) (ai (@Bl) (@Ho)))) (ai (ai (@Bg) (ai (@Hp) (@Hq))) (ai (@Hn) (ai (@Ht) (@Hr))))) (ai (ai (ai (@Ba) (@Bj)) (ai (@Bf) (ai (@Be) (@Bd)))) (ai (ai (@Bc) (ai (@A6) (@Bb))) (ai (@Bk) (ai (@A9) (@Bi)))))) (ai (ai (ai (ai (@A8) (@Bh)) (ai (@C9) (ai (@Da) (@JG)))) (ai (ai (@MS) (ai (@MT) (@Jn))) (ai (@Jl) (ai (@Jm) (@Jp))))) (ai (ai (ai (@Fi) (ai (@FG) (@FH))) (ai (@Fc) (ai (@Fe) (@MP)))) (ai (ai (@MQ) (ai (@Jk) (@Ff))) (ai (@MR) (ai (@Fq) (@Fs))))))))):=ai (ai (ai (ai (ai (ai (ai (@Qg) (@Qe)) (ai (@LF) (ai (@LD) (@Qh)))) (ai (ai (@Qi) (@Dt)) (ai (@LB) (ai (@Hi) (@LC))))) (ai (ai (ai (@Hj) (@GG)) (ai (@C3) (ai (@C4) (@C5)))) (ai (ai (@LH) (ai (@Bm) (@xZ))) (ai (@LA) (ai (@MU) (@Jo)))))) (ai (ai (ai (ai (@Fh) (@Hz)) (ai (@uN) (ai (@vV) (@Qc)))) (ai (ai (@Tv) (ai (@Tw) (@Tx))) (ai (@Lx) (ai (@Ly) (@Hh))))) (ai (ai (ai (@Qd) (@Lw)) (ai (@Lz) (ai (@Qb) (@Qa)))) (ai (ai (@CC) (ai (@FZ) (@J2))) (ai (@F0) (ai (@J3) (@CE))))))) (ai (ai (ai (ai (ai (@Sj) (@Sk)) (ai (@So) (ai (@CF) (@qs)))) (ai (ai (@sS) (@Gw)) (ai (@CJ) (ai (@zE) (@GL))))) (ai (ai (ai (@GM) (@De)) (ai (@KD) (ai (@Oy) (@Gr)))) (ai (ai (@CZ) (ai (@B7) (@xj))) (ai (@B8) (ai (@qQ) (@qR)))))) (ai (ai (ai (ai (@yU) (@uz)) (ai (@Fp) (ai (@Fo) (@yS)))) (ai (ai (@yW) (ai (@Fk) (@B6))) (ai (@Fj) (ai (@yR) (@yX))))) (ai (ai (ai (@zZ) (@xN)) (ai (@xM) (ai (@B5) (@sP)))) (ai (ai (@Fm) (ai (@Fl) (@yT))) (ai (@Ca) (ai (@Cb) (@LJ)))))))) (ai (ai (ai (ai (ai (ai (@Dx) (@Hy)) (ai (@Gn) (ai (@Gp) (@Gl)))) (ai (ai (@Gm) (@Gq)) (ai (@Hv) (ai (@Dw) (@Hw))))) (ai (ai (ai (@Hx) (@KH)) (ai (@CD) (ai (@Gv) (@C1)))) (ai (ai (@uy) (ai (@qn) (@qS))) (ai (@C0) (ai (@KG) (@OC)))))) (ai (ai (ai (ai (@Gu) (@zx)) (ai (@CY) (ai (@Gk) (@xi)))) (ai (ai (@HB) (ai (@HA) (@KF))) (ai (@KE) (ai (@Gt) (@Gs))))) (ai (ai (ai (@xl) (@KL)) (ai (@KJ) (ai (@OE) (@OD)))) (ai (ai (@qT) (ai (@xk) (@SD))) (ai (@SC) (ai (@CB) (@uA))))))) (ai (ai (ai (ai (ai (@Hm) (@A7)) (ai (@Hs) (ai (@Bl) (@Ho)))) (ai (ai (@Bg) (ai (@Hp) (@Hq))) (ai (@Hn) (ai (@Ht) (@Hr))))) (ai (ai (ai (@Ba) (@Bj)) (ai (@Bf) (ai (@Be) (@Bd)))) (ai (ai (@Bc) (ai (@A6) (@Bb))) (ai (@Bk) (ai (@A9) (@Bi)))))) (ai (ai (ai (ai (@A8) (@Bh)) (ai (@C9) (ai (@Da) (@JG)))) (ai (ai (@MS) (ai (@MT) (@Jn))) (ai (@Jl) (ai (@Jm) (@Jp))))) (ai (ai (ai (@Fi) (ai (@FG) (@FH))) (ai (@Fc) (ai (@Fe) (@MP)))) (ai (ai (@MQ) (ai (@Jk) (@Ff))) (ai (@MR) (ai (@Fq) (@Fs))))))))
theorem XV:type_of% (ai (ai (ai (ai (ai (ai (@zU) (ai (@xK) (@zT))) (ai (ai (@JA) (@JB)) (ai (@Ov) (@zg)))) (ai (ai (ai (@zf) (@VZ)) (ai (@V0) (@N6))) (ai (ai (@N7) (@N8)) (ai (@Gd) (@Gf))))) (ai (ai (ai (@CV) (ai (@Ku) (@Gc))) (ai (ai (@Gg) (@Ks)) (ai (@Kr) (@Kt)))) (ai (ai (ai (@He) (@Hf)) (ai (@A3) (@Ds))) (ai (ai (@zO) (@CS)) (ai (@Ny) (@Nt)))))) (ai (ai (ai (ai (@JM) (ai (@Nx) (@JO))) (ai (ai (@JN) (@CN)) (ai (@Lv) (@B9)))) (ai (ai (ai (@Dj) (@GJ)) (ai (@C8) (@Ka))) (ai (ai (@GK) (ai (ai (ai @J6 @NO) (ai @NP @NQ)) (ai (ai @J5 @J7) (ai @K3 @K2)))) (ai (@OI) (@xw))))) (ai (ai (ai (ai (@zr) (@zL)) (ai (@CQ) (@Dp))) (ai (ai (@Ha) (@CU)) (ai (@CT) (@CG)))) (ai (ai (ai (@wa) (@E7)) (ai (@dD) (@cP))) (ai (ai (@ne_eq.{1}) (@List.nil_append.{0})) (ai (@List.cons_append.{0}) (@List.length_nil.{0}))))))) (ai (ai (ai (ai (ai (@List.length_cons.{0}) (ai (@List.getElem?_cons_zero.{0}) (@List.getElem?_cons_succ.{0}))) (ai (ai (@aX) (@List.getD_cons_zero.{0})) (ai (@List.getD_cons_succ.{0}) (@du)))) (ai (ai (ai (@dU) (@List.drop_zero.{0})) (ai (@List.drop_succ_cons.{0}) (@List.take_succ_cons.{0}))) (ai (ai (@List.take_zero.{0}) (@bU)) (ai (@imp_self) (@di))))) (ai (ai (ai (ai (@Bool.and_true) (@dQ)) (ai (@ej) (@cond_true.{1}))) (ai (ai (@cond_false.{1}) (@List.cons.injEq.{0})) (ai (@aE) (@aO)))) (ai (ai (ai (@List.set_cons_zero.{0}) (@List.set_cons_succ.{0})) (ai (@Int.toNat_natCast) (@List.take_length.{0}))) (ai (ai (@Int.toNat_zero) (@or_true)) (ai (@true_or) (@beq_self_eq_true.{0})))))) (ai (ai (ai (ai (@Option.bind_some.{0,0}) (ai (@Option.bind_none.{0,0}) (@List.contains_nil.{0}))) (ai (ai (@List.contains_cons.{0}) (@List.all_cons.{0})) (ai (@List.all_nil.{0}) (@vv)))) (ai (ai (ai (@List.append_nil.{0}) (@List.length_append.{0})) (ai (@Option.isSome_some.{0}) (@Nat.lt_add_one))) (ai (ai (@if_true.{1}) (@if_false.{1})) (ai (@List.map_cons.{0,0}) (@List.map_nil.{0,0}))))) (ai (ai (ai (ai (@not_false_eq_true) (@Bool.or_true)) (ai (@Bool.true_or) (@cX))) (ai (ai (@fT) (@Bool.and_self)) (ai (@Bool.or_self) (@mX)))) (ai (ai (ai (@sq) (@mN)) (ai (@bF) (@List.length_map.{0,0}))) (ai (ai (@eE) (@dS)) (ai (@ei) (@true_implies)))))))):=ai (ai (ai (ai (ai (ai (@zU) (ai (@xK) (@zT))) (ai (ai (@JA) (@JB)) (ai (@Ov) (@zg)))) (ai (ai (ai (@zf) (@VZ)) (ai (@V0) (@N6))) (ai (ai (@N7) (@N8)) (ai (@Gd) (@Gf))))) (ai (ai (ai (@CV) (ai (@Ku) (@Gc))) (ai (ai (@Gg) (@Ks)) (ai (@Kr) (@Kt)))) (ai (ai (ai (@He) (@Hf)) (ai (@A3) (@Ds))) (ai (ai (@zO) (@CS)) (ai (@Ny) (@Nt)))))) (ai (ai (ai (ai (@JM) (ai (@Nx) (@JO))) (ai (ai (@JN) (@CN)) (ai (@Lv) (@B9)))) (ai (ai (ai (@Dj) (@GJ)) (ai (@C8) (@Ka))) (ai (ai (@GK) (ai (ai (ai @J6 @NO) (ai @NP @NQ)) (ai (ai @J5 @J7) (ai @K3 @K2)))) (ai (@OI) (@xw))))) (ai (ai (ai (ai (@zr) (@zL)) (ai (@CQ) (@Dp))) (ai (ai (@Ha) (@CU)) (ai (@CT) (@CG)))) (ai (ai (ai (@wa) (@E7)) (ai (@dD) (@cP))) (ai (ai (@ne_eq.{1}) (@List.nil_append.{0})) (ai (@List.cons_append.{0}) (@List.length_nil.{0}))))))) (ai (ai (ai (ai (ai (@List.length_cons.{0}) (ai (@List.getElem?_cons_zero.{0}) (@List.getElem?_cons_succ.{0}))) (ai (ai (@aX) (@List.getD_cons_zero.{0})) (ai (@List.getD_cons_succ.{0}) (@du)))) (ai (ai (ai (@dU) (@List.drop_zero.{0})) (ai (@List.drop_succ_cons.{0}) (@List.take_succ_cons.{0}))) (ai (ai (@List.take_zero.{0}) (@bU)) (ai (@imp_self) (@di))))) (ai (ai (ai (ai (@Bool.and_true) (@dQ)) (ai (@ej) (@cond_true.{1}))) (ai (ai (@cond_false.{1}) (@List.cons.injEq.{0})) (ai (@aE) (@aO)))) (ai (ai (ai (@List.set_cons_zero.{0}) (@List.set_cons_succ.{0})) (ai (@Int.toNat_natCast) (@List.take_length.{0}))) (ai (ai (@Int.toNat_zero) (@or_true)) (ai (@true_or) (@beq_self_eq_true.{0})))))) (ai (ai (ai (ai (@Option.bind_some.{0,0}) (ai (@Option.bind_none.{0,0}) (@List.contains_nil.{0}))) (ai (ai (@List.contains_cons.{0}) (@List.all_cons.{0})) (ai (@List.all_nil.{0}) (@vv)))) (ai (ai (ai (@List.append_nil.{0}) (@List.length_append.{0})) (ai (@Option.isSome_some.{0}) (@Nat.lt_add_one))) (ai (ai (@if_true.{1}) (@if_false.{1})) (ai (@List.map_cons.{0,0}) (@List.map_nil.{0,0}))))) (ai (ai (ai (ai (@not_false_eq_true) (@Bool.or_true)) (ai (@Bool.true_or) (@cX))) (ai (ai (@fT) (@Bool.and_self)) (ai (@Bool.or_self) (@mX)))) (ai (ai (ai (@sq) (@mN)) (ai (@bF) (@List.length_map.{0,0}))) (ai (ai (@eE) (@dS)) (ai (@ei) (@true_implies)))))))
open Classical in
noncomputable def KS{α:Type}(A:α->List SV)(p:α->Prop)(z:α->SV):PE:=fun args=>if h:∃i,A i=args then some (p (Classical.choose h),z (Classical.choose h))else none
theorem tB{α:Type}{A:α->List SV}{p:α->Prop}{z:α->SV}(h:∀i j,A i=A j->i=j)(i:α):KS A p z (A i)=some (p i,z i):=by
 have a:∃j,A j=A i:=⟨i,rfl⟩
 unfold KS;rw[bV a,h _ _ (eF a)]
theorem OO{P:Program}{f:FuncId}{α:Type}{A:α->List SV}{p:α->Prop}{z:α->SV}(h:∀i,p i->PF P f (A i) (z i)):fO P f (KS A p z):=by
 intro args q y a hp;unfold KS at a;split at a
 ·rename_i b;simp only[db,eb]at a;obtain⟨rfl,rfl⟩:=a;have:=(h _ hp).call;rw[eF b]at this;exact .inl this
 cases a
theorem map_inj{α β:Type}{f:α->β}(h:∀a b,f a=f b->a=b){l m:List α}:l.map f=m.map f↔l=m:=by
 refine⟨fun e=>?_,fun e=>by rw[e]⟩
 induction l generalizing m with
 |nil=>cases m<;>simp_all
 |cons x xs c=>
  cases m with
  |nil=>simp at e
  |cons y d=>simp only[cC,dg]at e;rw[h _ _ e.1,c e.2]
end Go.Vg
end
section
namespace Go.Pl
def dec(n:Nat):List UInt8:=if h:n<10 then[UInt8.ofNat (48+n)]else dec (n / 10)++[UInt8.ofNat (48+n % 10)]
termination_by n
decreasing_by omega
theorem Ni(n:Nat):dec n=if n<10 then[UInt8.ofNat (48+n)]else dec (n / 10)++[UInt8.ofNat (48+n % 10)]:=by rw[dec];split<;>rfl
theorem H8(n:Nat):(dec n).length<=n+1:=by
 induction n using Nat.strongRecOn with
 |_ n b=>
  rw[Ni];split
  ·simp
  have:=b (n / 10) (by omega);simp;omega
def s8(n m:Nat)(out:List UInt8):Prop:=m<=n/\if m=0 then out=dec n else dec m++out=dec n
theorem s8.step{n m:Nat}{out:List UInt8}(h:s8 n m out)(hm:0<m):s8 n (m / 10) (UInt8.ofNat (48+m % 10)::out):=by
 unfold s8 at *;rw[aA (by omega)]at h;refine⟨by omega, ?_⟩;rw[Ni m]at h;split
 ·rename_i a;rw[aB (by omega)]at h;rw[show m % 10=m by omega];simpa using h.2
 rw[aA (by omega)]at h;simpa using h.2
theorem s8.len{n m:Nat}{out:List UInt8}(h:s8 n m out):out.length<=n+1:=by
 have:=H8 n;unfold s8 at h;split at h
 ·rw[h.2];exact this
 have a:=cD List.length h.2;simp at a;omega
def Uy{α:Type}(g:Int->α)(c:Int):Int->Nat->List α
 |_,0=>[]
 |k,n+1=>g k::Uy g c (k+c) n
theorem pP{α:Type}{g:Int->α}{c:Int}:∀{n:Nat} {k:Int},(Uy g c k n).length=n
 |0,_=>rfl
 |n+1,k=>by simp[Uy,pP]
theorem Ko{α:Type}{g:Int->α}{c:Int}(z:α):∀{n:Nat} {k:Int} {j:Nat},j<n->(Uy g c k n).getD j z=g (k+c*j)
 |0,_,j,h=>by omega
 |n+1,k,0,_=>by simp[Uy]
 |n+1,k,j+1,h=>by have:=Ko (g:=g) (c:=c) z (n:=n) (k:=k+c) (j:=j) (by omega);simp only[Uy,List.getD_cons_succ,this];congr 1;rw[aP,Int.mul_add];omega
theorem zl{α:Type}(z:α){a b:List α}(g:a.length=b.length)(h:∀j,j<a.length->a.getD j z=b.getD j z):a=b:=by apply List.ext_getElem g;intro j e f;have:=h j e;simpa[List.getD,aS e,aS f]using this
def WA{α:Type}(g:Int->α)(c k:Int)(a:List α)(i:Nat):List α:=Uy g c k i++a.drop i
theorem Rf{α:Type}{g:Int->α}{c k:Int}{a:List α}{i:Nat}(z:α)(j:Nat):(WA g c k a i).getD j z=if j<i then g (k+c*j)else a.getD j z:=by
 unfold WA;split
 ·rename_i h;have:=Ko (g:=g) (c:=c) z (n:=i) (k:=k) h;rw[<-this];simp only[aG];rw[cA (by rw[pP];exact h)]
 rename_i h;simp only[aG];rw[cR (by rw[pP];omega),pP,bY,show i+(j-i)=j by omega]
end Go.Pl
end
section
namespace Go.Vg
variable[Go.Vg.df]
def bT{α:Type}(enc:α->List SV)(z:α)(xs:List α):Nat->List SV:=fun j=>enc (xs.getD j z)
theorem et{α:Type}{enc:α->List SV}{z:α}{xs:List α}{n:Nat}(h:n=xs.length):jd (bT enc z xs) 0 n=xs.map enc:=by
 subst h;apply List.ext_getElem?;intro j;unfold jd bT;by_cases a:j<xs.length
 ·simp[a,List.getD]
 simp[a]
theorem VC{α:Type}{enc:α->List SV}{z:α}{xs:List α}{a n:Nat}(h:a+n<=xs.length):jd (bT enc z xs) a n=((xs.drop a).take n).map enc:=by
 apply List.ext_getElem?;intro j;unfold jd bT;by_cases c:j<n
 ·have b:a+j<xs.length:=by omega
  simp[c,List.getD,aS b,b,cH]
 simp[c,cH]
theorem mF{α:Type}{enc:α->List SV}{z:α}{xs:List α}{y:α}{sz n:Nat}{f:Nat->List SV}(d:n=xs.length)(b:∀j,j<n->f j=bT enc z xs j)(c:(enc y).length=sz){i:Nat}(e:i<n+1) :
  lm n f (fF (enc y) sz) i=bT enc z (xs++[y]) i:=by
 subst d;unfold lm bT;split
 ·rename_i h;rw[b i h];simp[bT,List.getD,cA h]
 have:i=xs.length:=by omega
 subst this;have a:(xs++[y]).getD xs.length z=y:=by simp[List.getD]
 rw[a,Nat.sub_self];simp only[fF,Nat.zero_mul,gb];rw[<-c,eY]
theorem GW{α:Type}{enc:α->List SV}{z:α}{xs a:List α}{n m:Nat}{f g:Nat->List SV}(d:n=xs.length)(hm:m=a.length)(b:∀j,j<n->f j=bT enc z xs j)(c:∀j,j<m->g j=bT enc z a j){i:Nat}(e:i<n+m) :
  lm n f g i=bT enc z (xs++a) i:=by
 subst d hm;unfold lm;split
 ·rename_i h;rw[b i h];simp[bT,List.getD,cA h]
 rename_i h;rw[c _ (by omega)];simp only[bT,List.getD,cR (show xs.length<=i by omega)]
theorem getD_map{α:Type}(enc:α->List SV)(xs:List α)(i:Nat)(z:α):(xs.map enc).getD i (enc z)=enc (xs.getD i z):=by simp only[aG,cu];cases xs[i]?<;>rfl
theorem bM{μ:Nat->Nat}{sz n:Nat}{f g:Nat->List SV}(h:∀i,i<n->hZ μ (g i)=f i):nz μ (.row false sz n g) (.row false sz n f):=⟨id,rfl,rfl,aN _,rfl,h⟩
theorem jC{μ:Nat->Nat}{sz n m:Nat}{f g:Nat->List SV}(b:n<=m)(h:∀i,i<n->hZ μ (g i)=f i):nz μ (.row false sz n g) (.row false sz m f):=⟨id,rfl,rfl,b,rfl,fun i a=>h i a⟩
theorem aM{μ:Nat->Nat}{l m:List SV}(h:hZ μ l=m):nz μ (.gA false l) (.gA false m):=⟨id,rfl,by simp[SO.sz,<-h,zJ],aN _,rfl,fun i _=>h⟩
mutual
theorem zK{μ:Nat->Nat}:∀{x:SV},x.plain=true->x.bP μ=x
 | .b _,_=>rfl
 | .i _ _,_=>rfl
 | .s _,_=>rfl
 | .cQ,_=>rfl
 | .fn _,_=>rfl
 | .u,_=>rfl
 | .fs _ _,_=>rfl
 | .fp _ _,_=>rfl
 | .ptr _ _ _,h=>by simp[SV.plain]at h
 | .ew _ _ _,h=>by simp[SV.plain]at h
 | .mp _,h=>by simp[SV.plain]at h
 | .agg l,h=>by simp only[SV.bP];rw[e8 (by simpa[SV.plain]using h)]
 | .fJ l,h=>by simp only[SV.bP];rw[e8 (by simpa[SV.plain]using h)]
 | .gd _ x,h=>by simp only[SV.bP];rw[zK (by simpa[SV.plain]using h)]
theorem e8{μ:Nat->Nat}:∀{l:List SV},eJ l=true->hZ μ l=l
 |[],_=>rfl
 |x::xs,h=>by simp only[eJ,aD]at h;simp only[hZ,zK h.1,e8 h.2]
end
theorem cG.cT{k:Nat}{st st':St}(l:List Nat)(h:zw k l=true/\l.Nodup)(a:iD (dX l st.ctx.length) st.ctx l st'.ctx)(b:bC (dX l st.ctx.length) st.env st'.env):cG k st st':=cG.yp l h.1 h.2 a b
theorem dz{y:List SV}{sz:Nat}(h:y.all gB=true)(a:y.length=sz):∀j,j<1->(fF y sz j).all gB=true/\(fF y sz j).length=sz:=by
 intro j b;obtain rfl:j=0:=by omega
 have:fF y sz 0=y:=by simp only[fF,Nat.zero_mul,gb];rw[<-a,eY]
 rw[this];exact⟨h,a⟩
theorem fY{μ:Nat->Nat}{α:Type}{enc:α->List SV}{z:α}{xs:List α}{y:α}{sz n:Nat}{f:Nat->List SV}(hp:∀x,eJ (enc x)=true)(a:n=xs.length)(b:∀j,j<n->f j=bT enc z xs j)(d:(enc y).length=sz) :
  nz μ (.row false sz (xs++[y]).length (bT enc z (xs++[y]))) (.row false sz (n+1) (lm n f fun j=>fF (enc y) sz j)):=
 jC (by simp[a]) fun i c=>by rw[mF a b d (by simp at c;omega)];exact e8 (hp _)
theorem Wj{μ:Nat->Nat}{α:Type}{enc:α->List SV}{z:α}{sz:Nat}{f:Nat->List SV}:nz μ (.row false sz ([]:List α).length (bT enc z [])) (.row false sz 0 f):=
 bM fun i a=>absurd a (aT _)
theorem aF{μ:Nat->Nat}{α:Type}{enc:α->List SV}{z:α}{xs:List α}{sz n:Nat}(hp:∀x,eJ (enc x)=true):nz μ (.row false sz n (bT enc z xs)) (.row false sz n (bT enc z xs)):=
 bM fun i a=>e8 (hp _)
open Go.Pl in
theorem VD{μ:Nat->Nat}{α:Type}{enc:α->List SV}{z:α}{g:Int->α}{c k:Int}{a:List α}{i sz n:Nat}{f:Nat->List SV}(hp:∀x,eJ (enc x)=true)(e:∀j,j<n->f j=if j=i then enc (g (k+c*i))else bT enc z (WA g c k a i) j) :
  nz μ (.row false sz n (bT enc z (WA g c k a (i+1)))) (.row false sz n f):=by
 refine bM fun j h=>?_;rw[e j h];simp only[bT,Rf];rw[e8 (hp _)];by_cases b:j=i
 ·subst b;rw[aB (by omega),aB rfl]
 rw[aA b];by_cases d:j<i
 ·rw[aB (by omega),aB d]
 rw[aA (by omega),aA d]
def ij(b:List UInt8):List SV:=[.s b]
def dC(n:Int):List SV:=[.i .i64 n]
def mL(b:Bool):List SV:=[.b b]
def l8(b:UInt8):List SV:=[.i .u8 b.toNat]
theorem vy{l m:List (List UInt8)}:l.map ij=m.map ij↔l=m:=map_inj fun a b h=>by simpa[ij]using h
theorem gT{l m:List Int}:l.map dC=m.map dC↔l=m:=map_inj fun a b h=>by simpa[dC]using h
theorem VP{l m:List Bool}:l.map mL=m.map mL↔l=m:=map_inj fun a b h=>by simpa[mL]using h
theorem Ct(a:List (List UInt8))(i:Nat):(a.map ij).getD i [.s []]=[.s (a.getD i [])]:=getD_map ij a i []
theorem Cr(a:List Int)(i:Nat):(a.map dC).getD i [.i .i64 0]=[.i .i64 (a.getD i 0)]:=getD_map dC a i 0
theorem Cp(a:List Bool)(i:Nat):(a.map mL).getD i [.b false]=[.b (a.getD i false)]:=getD_map mL a i false
theorem Cq(a:List UInt8)(i:Nat):(a.map l8).getD i [.i .u8 0]=[.i .u8 (a.getD i 0).toNat]:=getD_map l8 a i 0
theorem G0{a:List (List UInt8)}{i:Nat}:bT ij [] a i=[.s (a.getD i [])]:=id rfl
theorem GZ{a:List Int}{i:Nat}:bT dC 0 a i=[.i .i64 (a.getD i 0)]:=id rfl
theorem GX{a:List Bool}{i:Nat}:bT mL false a i=[.b (a.getD i false)]:=id rfl
theorem GY{a:List UInt8}{i:Nat}:bT l8 0 a i=[.i .u8 (a.getD i 0).toNat]:=id rfl
theorem EH{α:Type}{enc:α->List SV}{z:α}(hp:∀x,eJ (enc x)=true){μ:Nat->Nat}{r:Bool}{sz n:Nat}{a:List α}:SO.bP μ (.row r sz n (bT enc z a))=.row r sz n (bT enc z a):=by simp only[SO.bP];congr 1;funext i;exact e8 (hp _)
theorem G4{μ:Nat->Nat}{r:Bool}{sz n:Nat}{a:List (List UInt8)}:SO.bP μ (.row r sz n (bT ij [] a))=.row r sz n (bT ij [] a):=EH fun _=>rfl
theorem G3{μ:Nat->Nat}{r:Bool}{sz n:Nat}{a:List Int}:SO.bP μ (.row r sz n (bT dC 0 a))=.row r sz n (bT dC 0 a):=EH fun _=>rfl
theorem G1{μ:Nat->Nat}{r:Bool}{sz n:Nat}{a:List Bool}:SO.bP μ (.row r sz n (bT mL false a))=.row r sz n (bT mL false a):=EH fun _=>rfl
theorem G2{μ:Nat->Nat}{r:Bool}{sz n:Nat}{a:List UInt8}:SO.bP μ (.row r sz n (bT l8 0 a))=.row r sz n (bT l8 0 a):=EH fun _=>rfl
theorem C2{μ:Nat->Nat}{o:SO}:Option.map (SO.bP μ) (some o)=some (o.bP μ):=id rfl
theorem XR:type_of% (ai (ai @C2 (ai (ai @G4 @G3) (ai @G1 @G2))) <| ai (ai @Ct @Cr) (ai (ai @Cp @Cq) (ai (ai @G0 @GZ) (ai @GX @GY)))):=ai (ai @C2 (ai (ai @G4 @G3) (ai @G1 @G2))) <| ai (ai @Ct @Cr) (ai (ai @Cp @Cq) (ai (ai @G0 @GZ) (ai @GX @GY)))
theorem Ri{n h:Nat}:dX [] n h=n+h:=by simp[dX]
theorem eS.own{P:Program}{f:FuncId}{args:List SV}{Z:SV}{C:dZ}(j:gQ P f 0 args [] fun z c=>z=Z/\c=C)(hp:eJ args=true){kk:Nat}{st:St}{K:Sl (SV×St)}(k:K.f (Z.bP (fun h=>st.ctx.length+h),⟨st.env,st.ctx++C.map fun o=>o.map (SO.bP fun h=>st.ctx.length+h)⟩)):eS P f args kk st K:=by have e:dX [] st.ctx.length=fun h=>st.ctx.length+h:=funext fun h=>Ri;refine qm.of j [] (by rw[e8 hp]) trivial (.inl rfl) (wa) rfl (.inl rfl) mN ?_;rintro z c ⟨rfl,rfl⟩;rw[e];simp only[List.drop_nil,sq];unfold lB;simp only[uq,aL,gb];exact k
theorem eS.mut{P:Program}{f:FuncId}{k:Nat}{b:List SV}{pre:dZ}{Z:SV}{C:dZ}(n:gQ P f k b pre fun z c=>z=Z/\c=C)(h:pre.length=k)(l:List Nat){args:List SV}{kk:Nat}{st:St}{K:Sl (SV×St)}(e:hZ (dX l st.ctx.length) b=args)(d:jx (dX l st.ctx.length) st.ctx l pre)(i:l.Nodup)(o:K.f (Z.bP (dX l st.ctx.length),⟨st.env,lB (dX l st.ctx.length) l pre C st.ctx⟩)):eS P f args kk st K:=by
 subst h;have p:=(tn d).1;have hd:l.drop pre.length=[]:=by rw[<-p];exact List.drop_length
 refine qm.of n l e.symm d (.inr i) (by simp[da]) (by rw[hd];rfl) (.inl hd) (by rw[hd];exact mN) ?_;rintro z c ⟨rfl,rfl⟩;rw[hd,sq];exact o
theorem PF.xP{P:Program}{f:FuncId}{args:List SV}{Z z:SV}{C:dZ}(a:gQ P f 0 args [] fun z c=>z=Z/\c=C)(hp:eJ args=true)(b:z.plain=true)(h:jf C Z/\jX C Z=z):PF P f args z:=
 ⟨hp,b,a.mono (by rintro _ _ ⟨rfl,rfl⟩;exact h)⟩
end Go.Vg
end
section
namespace Go.Vg
variable[Go.Vg.df]
def E3(x y:SV):Prop:=x=y\/(x=.cQ/\∃h a,y=.ew h a 0)
def L8:List SV->List SV->Prop
 |[],[]=>True
 |x::xs,y::a=>E3 x y/\L8 xs a
 |_,_=>False
def MI:Option SO->Option SO->Prop
 |some (.gA r cs),some (.gA q a)=>r=q/\L8 cs a
 |o,p=>o=p
def L7:dZ->dZ->Prop
 |[],[]=>True
 |o::r,p::q=>MI o p/\L7 r q
 |_,_=>False
def Od(env:List (Tmp×SV)):List (Tmp×SV)->Prop
 |[]=>True
 |(t,x)::r=>E3 (look env t) x/\Od env r
theorem Kx{σ:ey}{x y:SV}(h:E3 x y){v:Value}(a:rel σ x v):rel σ y v:=by
 rcases h with rfl|⟨rfl,q,b,rfl⟩
 ·exact a
 simp only[rel]at a |-
 exact⟨none,0,a,aN _,.inl rfl⟩
theorem Kv{env:List (Tmp×SV)}:∀{e:List (Tmp×SV)},Od env e->∀t,look e t=.u\/E3 (look env t) (look e t)
 |[],_,t=>.inl rfl
 |(u,x)::r,h,t=>by
  simp only[Od]at h;simp only[look];by_cases hu:u=t
  ·rw[aB hu];subst hu;exact .inr h.1
  rw[aA hu];exact Kv h.2 t
theorem Kw{σ:ey}:∀{xs b:List SV},L8 xs b->xs.length=b.length/\∀k v,rel σ (xs.getD k .u) v->rel σ (b.getD k .u) v
 |[],[],_=>⟨rfl,fun k v h=>h⟩
 |x::xs,y::b,h=>by
  simp only[L8]at h;obtain⟨c,d⟩:=Kw (σ:=σ) h.2;refine⟨by simp[c],fun k v a=>?_⟩;cases k with
  |zero=>simp only[fW]at a |-;exact Kx h.1 a
  |succ k=>simp only[List.getD_cons_succ]at a |-;exact d k v a
 |[],_::_,h=>by simp[L8]at h
 |_::_,[],h=>by simp[L8]at h
theorem Rk{σ:ey}{w:World}{h:Nat}:∀{o p:Option SO},MI o p->∀{q:SO},p=some q->∃r,o=some r/\r.ro=q.ro/\(fh σ w h r->fh σ w h q):=by
 intro o p b q x;subst x;unfold MI at b;split at b
 ·rename_i r cs B A f;cases f;obtain⟨rfl,u⟩:=b;refine⟨_,rfl,rfl,fun l=>?_⟩;obtain⟨hlen,s⟩:=Kw (σ:=σ) u;simp only[fh,SO.isMap]at l |-
  rcases l with⟨d,a⟩|⟨L,c,e,fr,d,a⟩
  ·exact .inl ⟨d,a⟩
  have m:=a.Br;have n:=a.fits;have g:=a.cell;simp only[SO.sz,SO.n,SO.el]at m n g;refine .inr ⟨L,c,e,fr,d,a.heap,by simp only[SO.sz];omega,a.room,by simp only[SO.sz,SO.n];omega,fun i k j t=>?_,a.free⟩;simp only[SO.sz,SO.el,SO.n]at j t |-
  obtain⟨v,z,y⟩:=g i k j (by omega);refine⟨v,by rw[<-hlen];exact z,s k v y⟩
 exact⟨q,b,rfl,id⟩
theorem Oc:∀{c d:dZ},L7 c d->c.length=d.length/\∀h,MI (c.at h) (d.at h)
 |[],[],_=>⟨rfl,fun h=>by simp[dZ.at,MI]⟩
 |o::r,p::q,h=>by
  simp only[L7]at h;obtain⟨g,i⟩:=Oc h.2;refine⟨by simp[g],fun k=>?_⟩;cases k with
  |zero=>rw[du,du];exact h.1
  |succ k=>rw[dU,dU];exact i k
 |[],_::_,h=>by simp[L7]at h
 |_::_,[],h=>by simp[L7]at h
theorem cG.nl{k:Nat}{env env':List (Tmp×SV)}{c d:dZ}(es:List (Nat×(Nat->List SV)))(he:Od env env')(E:L7 c d):cG k ⟨env,c⟩ ⟨env',d++es.map fun p=>some (.row false p.1 0 p.2)⟩:=by
 intro A σ a w F f;obtain⟨hlen,q⟩:=Oc E;have v:∀h,h<d.length->dZ.at (d++es.map fun p=>some (.row false p.1 0 p.2)) h=d.at h:=by intro h l;simp only[dZ.at,aG,cA l]
 have new:∀h o,d.length<=h->dZ.at (d++es.map fun p=>some (.row false p.1 0 p.2)) h=some o->o.n=0/\o.isMap=false:=by
  intro h o l g;simp only[dZ.at,aG,cR l,cu]at g;cases z:es[h-d.length]? with
  |none=>rw[z]at g;cases g
  |some p=>rw[z]at g;simp at g;subst g;exact⟨rfl,rfl⟩
 have get:∀h o,dZ.at (d++es.map fun p=>some (.row false p.1 0 p.2)) h=some o->(h<c.length/\∃r,c.at h=some r/\r.ro=o.ro/\(fh σ w h r->fh σ w h o))\/(σ h=none/\fh σ w h o):=by
  intro h o g;rcases aU h d.length with l|l
  ·rw[v h l]at g;obtain⟨r,b,j,n⟩:=Rk (σ:=σ) (w:=w) (h:=h) (q h) g;exact .inl ⟨by omega,r,b,j,n⟩
  have y:σ h=none:=f.sat.beyond h (by simp only;omega);obtain⟨b,j⟩:=new h o l g;exact .inr ⟨y,by simp only[fh,j];exact .inl ⟨b,y⟩⟩
 refine⟨σ,f.defers,f.size,fun t=>?_,⟨fun h o g=>?_,fun h x o o' L B u C D i s1 s2=>?_,fun h l=>?_,f.sat.gq,f.sat.pG,fun h o L e i s=>?_,f.sat.E0⟩,f.fr,fun h o L e i s=>?_,f.base, ?_⟩
 ·rcases Kv he t with h|h
  ·rw[h];simp[rel]
  exact Kx h (f.env t)
 ·rcases get h o g with⟨_,r,b,_,n⟩|⟨_,n⟩
  ·exact n (f.sat.obj h r b)
  exact n
 ·rcases get h o C with⟨_,r,b,j,_⟩|⟨b,_⟩
  ·rcases get x o' D with⟨_,r',m,_,_⟩|⟨m,_⟩
   ·exact f.sat.apart h x r r' L B u b m (by rw[j];exact i) s1 s2
   rw[m]at s2;cases s2
  rw[b]at s1;cases s1
 ·exact f.sat.beyond h (by simp only[aC]at l |-;omega)
 ·rcases get h o e with⟨_,r,b,j,_⟩|⟨b,_⟩
  ·exact f.sat.mR h r L b (by rw[j];exact i) s
  rw[b]at s;cases s
 ·rcases get h o e with⟨_,r,b,j,_⟩|⟨b,_⟩
  ·exact f.own h r L b (by rw[j];exact i) s
  rw[b]at s;cases s
 have:=f.mq;simp only[aC]at this |-
 omega
theorem I2{μ:Nat->Nat}{α β:Type}{enc:α->List SV}{z:α}{g:β->α}{o:List β}{b:β}{cs:List SV}{sz n:Nat}{f:Nat->List SV}(hp:∀x,eJ (enc x)=true)(h:n=o.length)(k:∀j,j<n->f j=bT enc z (o.map g) j)(p:cs=enc (g b))(m:(enc (g b)).length=sz) :
  nz μ (.row false sz (o++[b]).length (bT enc z ((o++[b]).map g))) (.row false sz (n+1) (lm n f fun j=>fF cs sz j)):=by
 subst p;refine jC (by simp[h]) fun i l=>?_;rw[mF (xs:=o.map g) (by simp[h]) k m (by simp at l;omega),gx];exact e8 (hp _)
theorem eS.K6{P:Program}{f:FuncId}{k:Nat}{a:List SV}{pre:dZ}{Z:SV}{C:dZ}(m:gQ P f k a pre fun z c=>z=Z/\c=C)(l:List Nat){args:List SV}{kk:Nat}{st:St}{K:Sl (SV×St)}(d:hZ (dX l st.ctx.length) a=args)(h:jx (dX l st.ctx.length) st.ctx l pre)(i:l.Nodup)(j:da k pre)(e:(l.drop k).all (fun g=>decide (kk<=g))=true)(b:iI (l.drop k) (lh l pre) 0 st.ctx)(n:K.f (Z.bP (dX l st.ctx.length),⟨lZ (l.drop k) st.env,lB (dX l st.ctx.length) l pre C st.ctx⟩)):eS P f args kk st K:=by refine qm.of m l d.symm h (.inr i) j e (.inr i) b ?_;rintro z c ⟨rfl,rfl⟩;exact n
theorem zM{B:List Nat}{t:Tmp}{x:SV}{r:List (Tmp×SV)}:lZ B ((t,x)::r)=(t,if ma B x then x else .u)::lZ B r:=id rfl
theorem zN{B:List Nat}:lZ B []=[]:=id rfl
theorem uO{cut:List Nat}{i:Nat}{a:Array Oper}{b:Bool}:lX cut (.region i a b)=cut.contains i:=id rfl
theorem xy{cut:List Nat}{i:Nat}{x:Code}:lX cut (.block i x)=cut.contains (1000+i):=id rfl
theorem CI{cut:List Nat}{x y:Code}:lX cut (.seq x y)=lX cut x:=id rfl
theorem zA{cut:List Nat}{x:Code}:lX cut (.loop x)=lX cut x:=id rfl
theorem zy{cut:List Nat}{c:Operand}{x y:Code}:lX cut (.cond c x y)=false:=id rfl
theorem zB{cut:List Nat}:lX cut .skip=false:=id rfl
theorem CH{cut:List Nat}:lX cut .ret=false:=id rfl
theorem zz{cut:List Nat}{i:Nat}:lX cut (.exit i)=false:=id rfl
theorem bX:type_of% (ai (ai @Qf @uO) (ai (ai @xy @CI) (ai (ai @zA @zy) (ai @zB (ai @CH @zz))))):=ai (ai @Qf @uO) (ai (ai @xy @CI) (ai (ai @zA @zy) (ai @zB (ai @CH @zz))))
open Go.Pl in
theorem kg{μ:Nat->Nat}{n:Nat}{f:Nat->List SV}{G:Nat->Int}(h:∀j,j<n->f j=[.i .i64 (G j)]):nz μ (.row false 1 n (bT dC 0 ((List.range n).map G))) (.row false 1 n f):=by
 refine bM fun j a=>?_;rw[h j a];have:((List.range n).map G).getD j 0=G j:=by simp[List.getD,a]
 simp only[bT,this];rfl
end Go.Vg
namespace Go.Vg
variable[Go.Vg.df]
def TA(te:TE)(k pl:Nat)(rs:List ResultVar)(Z:SV)(C:dZ)(st:St):Prop:=∃st',cG k st st'/\LK te k pl rs Z C st'
theorem gQ.Xt{cf:Cf}(g:cf.ok){f:FuncId}{fn:Func}{c:Code}(y:cf.P.funcs[f]?=some fn)(x:fn.body=some c)(b:(fn.name == "runtime.NumGoroutine")=false)(k:fn.ntmps=cf.nt){args:List SV}{pre:dZ}(hlen:args.length<=cf.nt)(B:cf.k<=pre.length){rs:List ResultVar}(i:fn.results.toList=rs){Z:SV}{C:dZ}(n:Nat)(h:vc cf (TA cf.te cf.k pre.length rs Z C) n [.code c] ⟨entry 0 args,pre⟩):gQ cf.P f cf.k args pre fun z c=>z=Z/\c=C:=by refine gQ.WC g y x b k hlen B i (fun A σ0 G a w d _ u j=>?_) n h;obtain⟨st,e,l,⟨p,q⟩,r,m,s,t⟩:=u;obtain⟨σ,o⟩:=e A σ0 a w d j;rw[<-i]at m;obtain⟨z,v,F,E,D⟩:=qb (P:=cf.P) g.te o m;subst F;exact⟨Z,v,C,σ.yp (dX l st.ctx.length),⟨rfl,rfl⟩,E,(lb _ _ _ _).1 D,Rel.yp (st':=⟨[],C⟩) l p q r trivial d o,s,t⟩
theorem TA.of{te:TE}{k pl:Nat}{rs:List ResultVar}{Z:SV}{C:dZ}{st:St}(h:LK te k pl rs Z C st):TA te k pl rs Z C st:=⟨st,cG.refl _ _,h⟩
end Go.Vg
end
section
namespace Go.Vg
variable[Go.Vg.df]
theorem XT:type_of% (ai (ai (ai (ai (ai (ai (ai @entry.eq_1 @entry.eq_2) (ai @xA.eq_1 @xA.eq_2)) (ai (ai @dP.eq_1 @gW.eq_1) (ai @zeroOf.eq_1 (ai @TD.eT.eq_1 @TD.eT.eq_2)))) (ai (ai (ai @iV.eq_1 @iV.eq_2) (ai @iV.eq_3 @iV.eq_4)) (ai (ai @cellsOf.eq_1 @cellsOf.eq_2) (ai @SO.isMap.eq_1 (ai @SO.isMap.eq_2 @SO.isMap.eq_3))))) (ai (ai (ai (ai @SO.sz.eq_1 @SO.sz.eq_2) (ai @SO.sz.eq_3 @SO.el.eq_1)) (ai (ai @SO.el.eq_2 @SO.el.eq_3) (ai @SO.n.eq_1 (ai @SO.n.eq_2 @SO.n.eq_3)))) (ai (ai (ai @SO.ro.eq_1 @SO.ro.eq_2) (ai @SO.ro.eq_3 @mr.eq_1)) (ai (ai @kv.eq_1 @kv.eq_2) (ai @eG.eq_1 (ai @eG.eq_2 @eG.eq_3)))))) (ai (ai (ai (ai (ai @eG.eq_4 @eG.eq_5) (ai @eG.eq_6 @eG.eq_7)) (ai (ai @eG.eq_8 @eG.eq_9) (ai @eG.eq_10 (ai @eG.eq_11 @eG.eq_12)))) (ai (ai (ai @eG.eq_13 @gB.eq_1) (ai @gB.eq_2 @gB.eq_3)) (ai (ai @gB.eq_4 @gB.eq_5) (ai @gB.eq_6 (ai @gB.eq_7 @gB.eq_8))))) (ai (ai (ai (ai @gB.eq_9 @gB.eq_10) (ai @gB.eq_11 @Qv.eq_1)) (ai (ai @Qv.eq_2 @uF.eq_1) (ai @uF.eq_2 (ai @jK.eq_1 @xz.eq_1)))) (ai (ai (ai @xz.eq_2 @xz.eq_3) (ai @rc.eq_1 @rc.eq_2)) (ai (ai @qo.eq_1 @qo.eq_2) (ai @nH.eq_1 (ai @nH.eq_2 @SO.put.eq_1))))))) (ai (ai (ai (ai (ai (ai @SO.put.eq_2 @SO.put.eq_3) (ai @SV.bP.eq_1 @SV.bP.eq_2)) (ai (ai @SV.bP.eq_3 @SV.bP.eq_4) (ai @SV.bP.eq_5 (ai @SV.bP.eq_6 @SV.bP.eq_7)))) (ai (ai (ai @SV.bP.eq_8 @SV.bP.eq_9) (ai @SV.bP.eq_10 @SV.bP.eq_11)) (ai (ai @SV.bP.eq_12 @SV.bP.eq_13) (ai @SV.bP.eq_14 (ai @jX.eq_1 @jX.eq_2))))) (ai (ai (ai (ai @jX.eq_3 @jX.eq_4) (ai @iT.eq_1 @iT.eq_2)) (ai (ai @jf.eq_1 @jf.eq_2) (ai @jf.eq_3 (ai @jf.eq_4 @iJ.eq_1)))) (ai (ai (ai @iJ.eq_2 @ri.eq_1) (ai @SV.bit.eq_1 @SV.bit.eq_2)) (ai (ai @SV.bit.eq_3 @SV.bit.eq_4) (ai @SV.bit.eq_5 (ai @SV.bit.eq_6 @SV.bit.eq_7)))))) (ai (ai (ai (ai (ai @SV.bit.eq_8 @SV.bit.eq_9) (ai @SV.bit.eq_10 @DH.eq_1)) (ai (ai @DH.eq_2 @SV.plain.eq_1) (ai @SV.plain.eq_2 (ai @SV.plain.eq_3 @SV.plain.eq_4)))) (ai (ai (ai @SV.plain.eq_5 @SV.plain.eq_6) (ai @SV.plain.eq_7 @SV.plain.eq_8)) (ai (ai @SV.plain.eq_9 @SV.plain.eq_10) (ai @SV.plain.eq_11 (ai @SV.plain.eq_12 @SV.plain.eq_13))))) (ai (ai (ai (ai @SV.plain.eq_14 @eJ.eq_1) (ai @eJ.eq_2 @D1.eq_1)) (ai (ai @D1.eq_2 @D1.eq_3) (ai @D1.eq_4 (ai @D1.eq_5 @D1.eq_6)))) (ai (ai (ai @hZ.eq_1 @hZ.eq_2) (ai @Dm.eq_1 (ai @Dm.eq_2 @stripL.eq_1))) (ai (ai @stripL.eq_2 @Ue.eq_1) (ai @Ue.eq_2 (ai @BA.eq_1 @BA.eq_2)))))))):=(ai (ai (ai (ai (ai (ai (ai @entry.eq_1 @entry.eq_2) (ai @xA.eq_1 @xA.eq_2)) (ai (ai @dP.eq_1 @gW.eq_1) (ai @zeroOf.eq_1 (ai @TD.eT.eq_1 @TD.eT.eq_2)))) (ai (ai (ai @iV.eq_1 @iV.eq_2) (ai @iV.eq_3 @iV.eq_4)) (ai (ai @cellsOf.eq_1 @cellsOf.eq_2) (ai @SO.isMap.eq_1 (ai @SO.isMap.eq_2 @SO.isMap.eq_3))))) (ai (ai (ai (ai @SO.sz.eq_1 @SO.sz.eq_2) (ai @SO.sz.eq_3 @SO.el.eq_1)) (ai (ai @SO.el.eq_2 @SO.el.eq_3) (ai @SO.n.eq_1 (ai @SO.n.eq_2 @SO.n.eq_3)))) (ai (ai (ai @SO.ro.eq_1 @SO.ro.eq_2) (ai @SO.ro.eq_3 @mr.eq_1)) (ai (ai @kv.eq_1 @kv.eq_2) (ai @eG.eq_1 (ai @eG.eq_2 @eG.eq_3)))))) (ai (ai (ai (ai (ai @eG.eq_4 @eG.eq_5) (ai @eG.eq_6 @eG.eq_7)) (ai (ai @eG.eq_8 @eG.eq_9) (ai @eG.eq_10 (ai @eG.eq_11 @eG.eq_12)))) (ai (ai (ai @eG.eq_13 @gB.eq_1) (ai @gB.eq_2 @gB.eq_3)) (ai (ai @gB.eq_4 @gB.eq_5) (ai @gB.eq_6 (ai @gB.eq_7 @gB.eq_8))))) (ai (ai (ai (ai @gB.eq_9 @gB.eq_10) (ai @gB.eq_11 @Qv.eq_1)) (ai (ai @Qv.eq_2 @uF.eq_1) (ai @uF.eq_2 (ai @jK.eq_1 @xz.eq_1)))) (ai (ai (ai @xz.eq_2 @xz.eq_3) (ai @rc.eq_1 @rc.eq_2)) (ai (ai @qo.eq_1 @qo.eq_2) (ai @nH.eq_1 (ai @nH.eq_2 @SO.put.eq_1))))))) (ai (ai (ai (ai (ai (ai @SO.put.eq_2 @SO.put.eq_3) (ai @SV.bP.eq_1 @SV.bP.eq_2)) (ai (ai @SV.bP.eq_3 @SV.bP.eq_4) (ai @SV.bP.eq_5 (ai @SV.bP.eq_6 @SV.bP.eq_7)))) (ai (ai (ai @SV.bP.eq_8 @SV.bP.eq_9) (ai @SV.bP.eq_10 @SV.bP.eq_11)) (ai (ai @SV.bP.eq_12 @SV.bP.eq_13) (ai @SV.bP.eq_14 (ai @jX.eq_1 @jX.eq_2))))) (ai (ai (ai (ai @jX.eq_3 @jX.eq_4) (ai @iT.eq_1 @iT.eq_2)) (ai (ai @jf.eq_1 @jf.eq_2) (ai @jf.eq_3 (ai @jf.eq_4 @iJ.eq_1)))) (ai (ai (ai @iJ.eq_2 @ri.eq_1) (ai @SV.bit.eq_1 @SV.bit.eq_2)) (ai (ai @SV.bit.eq_3 @SV.bit.eq_4) (ai @SV.bit.eq_5 (ai @SV.bit.eq_6 @SV.bit.eq_7)))))) (ai (ai (ai (ai (ai @SV.bit.eq_8 @SV.bit.eq_9) (ai @SV.bit.eq_10 @DH.eq_1)) (ai (ai @DH.eq_2 @SV.plain.eq_1) (ai @SV.plain.eq_2 (ai @SV.plain.eq_3 @SV.plain.eq_4)))) (ai (ai (ai @SV.plain.eq_5 @SV.plain.eq_6) (ai @SV.plain.eq_7 @SV.plain.eq_8)) (ai (ai @SV.plain.eq_9 @SV.plain.eq_10) (ai @SV.plain.eq_11 (ai @SV.plain.eq_12 @SV.plain.eq_13))))) (ai (ai (ai (ai @SV.plain.eq_14 @eJ.eq_1) (ai @eJ.eq_2 @D1.eq_1)) (ai (ai @D1.eq_2 @D1.eq_3) (ai @D1.eq_4 (ai @D1.eq_5 @D1.eq_6)))) (ai (ai (ai @hZ.eq_1 @hZ.eq_2) (ai @Dm.eq_1 (ai @Dm.eq_2 @stripL.eq_1))) (ai (ai @stripL.eq_2 @Ue.eq_1) (ai @Ue.eq_2 (ai @BA.eq_1 @BA.eq_2))))))))
theorem XM:type_of% (ai (ai (ai (ai (@lB.eq_1) (ai (@uq.eq_1) (@uq.eq_2))) (ai (ai (@uq.eq_3) (@dX.eq_1)) (ai (@SO.bP.eq_1) (@SO.bP.eq_2)))) (ai (ai (@SO.bP.eq_3) (ai (@ma.eq_1) (@ma.eq_2))) (ai (ai (@ma.eq_3) (@ma.eq_4)) (ai (@ma.eq_5) (@ma.eq_6))))) (ai (ai (ai (@ma.eq_7) (ai (@kQ.eq_1) (@kQ.eq_2))) (ai (ai (@List.getElem?_nil.{0}) (@List.drop_nil.{0})) (ai (@Option.map_none.{0,0}) (@zM)))) (ai (ai (@zN) (ai (@List.getElem?_cons_zero.{0}) (@List.getElem?_cons_succ.{0}))) (ai (ai (@List.drop_succ_cons.{0}) (@List.drop_zero.{0})) (ai (@List.contains_cons.{0}) (@List.contains_nil.{0})))))):=ai (ai (ai (ai (@lB.eq_1) (ai (@uq.eq_1) (@uq.eq_2))) (ai (ai (@uq.eq_3) (@dX.eq_1)) (ai (@SO.bP.eq_1) (@SO.bP.eq_2)))) (ai (ai (@SO.bP.eq_3) (ai (@ma.eq_1) (@ma.eq_2))) (ai (ai (@ma.eq_3) (@ma.eq_4)) (ai (@ma.eq_5) (@ma.eq_6))))) (ai (ai (ai (@ma.eq_7) (ai (@kQ.eq_1) (@kQ.eq_2))) (ai (ai (@List.getElem?_nil.{0}) (@List.drop_nil.{0})) (ai (@Option.map_none.{0,0}) (@zM)))) (ai (ai (@zN) (ai (@List.getElem?_cons_zero.{0}) (@List.getElem?_cons_succ.{0}))) (ai (ai (@List.drop_succ_cons.{0}) (@List.drop_zero.{0})) (ai (@List.contains_cons.{0}) (@List.contains_nil.{0})))))
end Go.Vg
end
section
namespace Go.Vg
variable[Go.Vg.df]
open Go.RowKit
theorem NU{P:Program}{f:FuncId}{args:List SV}{w:World}{vs:Array Value}(h:PF P f args (.b true))(l:dm ⟨fun _=>none,fun b=>w.heap[b]?⟩ args vs.toList)(i:∀b o,df.g b=some o->w.heap[b]?=some o) :
  Calls P f vs w fun e w'=>e=.returned (.bool true)/\Below w.heap.size w w':=by
 obtain⟨_,_,_,h⟩:=h.call;refine(h (fun b=>w.heap[b]?) w vs (fun _ _ h=>h) i l).mono fun e w' ⟨v,g,d,c,a,_⟩=>?_;simp only[rel]at c;subst c;exact⟨d,a.os,a.tape,a.output,a.size,fun k j=>a.block k j (fun h=>h)⟩
theorem O4{σ:ey}{x:SV}{v:Value}(h:rel σ x v):dm σ [x] [v]:=by simp only[dm];exact⟨_,_,rfl,h,rfl⟩
end Go.Vg
end
