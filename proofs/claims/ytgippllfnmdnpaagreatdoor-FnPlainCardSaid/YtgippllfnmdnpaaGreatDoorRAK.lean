/- One state says no more than another: objects renumbered, what is not needed left out. -/
import Derived.Test.YtgippllfnmdnpaaGreatDoorRAJ
section
set_option linter.unusedVariables false
set_option linter.unusedSimpArgs false
set_option linter.unusedSectionVars false
set_option linter.unnecessarySimpa false
namespace Go.Vg
variable [Go.Vg.Glob]
open Go.RowKit
def jv (μ:Nat→Nat) (ctx:Ctx):List Nat→Ctx→Prop
 | [],[]=>True
 | g::l,o::r=>(match o with
  | none=>True
  | some o'=>match ctx.at g with
   | some o=>soLe μ o' o
   | none=>False)∧jv μ ctx l r
 | _,_=>False
def zj (μ:Nat→Nat) (env:List (Tmp×SV)):List (Tmp×SV)→Prop
 | []=>True
 | (t,x)::r=>look env t=x.mapH μ∧zj μ env r
theorem entEnv_get {μ:Nat→Nat} {env:List (Tmp×SV)}:∀ {e:List (Tmp×SV)},zj μ env e→∀ t,look e t=.u∨look env t=(look e t).mapH μ
 | [],_,t=>.inl rfl
 | (u,x)::r,h,t=>by
  simp only [look]
  by_cases hu:u=t
  ·rw [if_pos hu];subst hu;exact .inr h.1
  ·rw [if_neg hu];exact entEnv_get h.2 t
theorem zje {μ:Nat→Nat} {ctx:Ctx}:∀ {l:List Nat} {c:Ctx},jv μ ctx l c→l.length=c.length∧∀ i o',Ctx.at c i=some o'→∃ g o,l[i]?=some g∧ctx.at g=some o∧soLe μ o' o
 | [],[],_=>⟨rfl,fun i o' e=>by simp [Ctx.at] at e⟩
 | g::l,o::r,h=>by
  simp only [jv] at h
  obtain ⟨h1,h2⟩:=h
  obtain ⟨hl,hh⟩:=zje h2
  refine ⟨by simp [hl],fun i o' e=>?_⟩
  cases i with
  | zero=>
   rw [z7] at e
   subst e
   simp only at h1
   split at h1
   ·rename_i q hq;exact ⟨g,q,rfl,hq,h1⟩
   ·exact h1.elim
  | succ i=>
   rw [z8] at e
   obtain ⟨g',q,k1,k2,k3⟩:=hh i o' e
   exact ⟨g',q,by simpa using k1,k2,k3⟩
 | [],_::_,h=>by simp [jv] at h
 | _::_,[],h=>by simp [jv] at h
def znh (k:Nat) (l:List Nat):Bool:=(List.range k).all fun h=>l[h]?==some h
theorem Rel.ren {k:Nat} {st st':St} (l:List Nat) (hk:znh k l=true) (hnd:l.Nodup) (hctx:jv (muL l st.ctx.length) st.ctx l st'.ctx) (henv:zj (muL l st.ctx.length) st.env st'.env) {A:Amb} {σ:Asg} {a:Act} {w:World} (hAk:A.k=k) (hR:Rel A σ st a w):Rel A (σ.ren (muL l st.ctx.length)) st' a w:=by
 obtain ⟨hlen,hget⟩:=zje hctx
 generalize hμ:muL l st.ctx.length=μ at *
 have μold:∀ h g,l[h]?=some g→μ h=g:=by intro h g hg;rw [←hμ];simp [muL,hg]
 have μnew:∀ h,l.length≤h→st.ctx.length≤μ h:=by
  intro h hh
  rw [←hμ]
  simp [muL,List.getElem?_eq_none hh]
 have hid:∀ (h:Nat),h<k→l[h]?=some h:=by
  intro h hh
  unfold znh at hk
  rw [List.all_eq_true] at hk
  simpa using hk h (by simpa using hh)
 have hkl:k≤l.length:=by
  rcases Nat.eq_zero_or_pos k with h0 | h0
  ·omega
  ·have:=hid (k-1) (by omega)
   obtain ⟨h1,_⟩:=List.getElem?_eq_some_iff.1 this
   omega
 have inj:∀ (i j g:Nat),l[i]?=some g→l[j]?=some g→i=j:=by
  intro i j g hi hj
  obtain ⟨a1,a2⟩:=List.getElem?_eq_some_iff.1 hi
  obtain ⟨b1,b2⟩:=List.getElem?_eq_some_iff.1 hj
  exact List.getElem_inj (h₀:=a1) (h₁:=b1) hnd |>.1 (a2.trans b2.symm)
 refine ⟨hR.defers,hR.size,fun t=>?_,⟨fun i o' e=>?_,fun i j o' p' L L' hne e1 e2 hro s1 s2=>?_,fun h hh=>?_,fun h L hL=>hR.sat.inHeap _ L hL,hR.sat.frz,fun i o' L e hro hL=>?_,hR.sat.glb⟩,hR.fr,fun i o' L e hro hL=>?_,⟨fun h hh=>?_,hR.base.fzb,hR.base.fzn⟩, ?_⟩
 ·rcases entEnv_get henv t with h | h
  ·rw [h];simp [rel]
  ·have:=hR.env t
   rw [h] at this
   exact (xq σ μ _ _).1 this
 ·obtain ⟨g,o,h1,h2,h3⟩:=hget i o' e
  exact zfy (σ:=σ) (σ0:=σ.ren μ) (μ:=μ) (fun _=>rfl) rfl h3 (by rw [μold i g h1];exact hR.sat.obj g o h2)
 ·obtain ⟨g,o,h1,h2,h3⟩:=hget i o' e1
  obtain ⟨g',p,h1',h2',h3'⟩:=hget j p' e2
  have s1':σ g=some L:=by rw [←μold i g h1];exact s1
  have s2':σ g'=some L':=by rw [←μold j g' h1'];exact s2
  refine hR.sat.apart g g' o p L L' (fun e=>hne ?_) h2 h2' (h3.ro hro) s1' s2'
  subst e
  exact inj i j g h1 h1'
 ·exact hR.sat.beyond _ (μnew h (by rw [hlen];exact hh))
 ·obtain ⟨g,o,h1,h2,h3⟩:=hget i o' e
  exact hR.sat.frzA g o L h2 (h3.ro hro) (by rw [←μold i g h1];exact hL)
 ·obtain ⟨g,o,h1,h2,h3⟩:=hget i o' e
  exact hR.own g o L h2 (h3.ro hro) (by rw [←μold i g h1];exact hL)
 ·show σ (μ h)=A.σ0 h
  rw [μold h h (hid h (by omega))]
  exact hR.base.loc h hh
 ·show A.k≤st'.ctx.length
  rw [←hlen,hAk]
  exact hkl
theorem Ent.ren {k:Nat} {st st':St} (l:List Nat) (hk:znh k l=true) (hnd:l.Nodup) (hctx:jv (muL l st.ctx.length) st.ctx l st'.ctx) (henv:zj (muL l st.ctx.length) st.env st'.env):Ent k st st' :=
 fun A σ a w hAk hR=>⟨_,Rel.ren l hk hnd hctx henv hAk hR⟩
/-- A function's end: its results and its objects,numbered anew. -/
def FinE (te:TE) (k pl:Nat) (rs:List ResultVar) (Z:SV) (C:Ctx) (st:St):Prop:=
 ∃ l:List Nat,(znh k l=true∧l.Nodup)∧jv (muL l st.ctx.length) st.ctx l C∧zqr te st (fun z _=>z=Z.mapH (muL l st.ctx.length)) rs []∧ye k C∧pl≤C.length
theorem FnK.ofE {cf:Cf} (hcf:cf.ok) {f:FuncId} {fn:Func} {c:Code} (hf:cf.P.funcs[f]?=some fn) (hb:fn.body=some c) (hname:(fn.name == "runtime.NumGoroutine")=false)
  (hnt:fn.ntmps=cf.nt) {args:List SV} {pre:Ctx} (hlen:args.length≤cf.nt) (hk:cf.k≤pre.length) {rs:List ResultVar} (hrs:fn.results.toList=rs) {Z:SV} {C:Ctx} (n:Nat)
  (h:vc cf (FinE cf.te cf.k pre.length rs Z C) n [.code c] ⟨zc7 0 args,pre⟩):FnK cf.P f cf.k args pre fun z c=>z=Z∧c=C:=by
 refine FnK.ofG hcf hf hb hname hnt hlen hk hrs (fun A σ st a w hAk _ hF hR=>?_) n h
 obtain ⟨l,⟨h1,h2⟩,h3,h4,h5,h6⟩:=hF
 rw [←hrs] at h4
 obtain ⟨z,v,hz,hv,hr⟩:=zdm (P:=cf.P) hcf.te hR h4
 subst hz
 exact ⟨Z,v,C,σ.ren (muL l st.ctx.length),⟨rfl,rfl⟩,hv,(xq _ _ _ _).1 hr,Rel.ren (st':=⟨[],C⟩) l h1 h2 h3 trivial hAk hR,h5,h6⟩
/-- Nothing but what the function was handed matters any more,and that is as it was. -/
theorem Ent.tail {k:Nat} {env env':List (Tmp×SV)} {c:Ctx} (hc:c=[]) (hk:k=0) (henv:zj (muL [] c.length) env env'):Ent k ⟨env,c⟩ ⟨env',[]⟩:=by
 subst hk
 subst hc
 exact Ent.ren [] rfl List.nodup_nil (by simp [jv]) henv
theorem Ent.nil {env env':List (Tmp×SV)} {c:Ctx} (henv:zj (muL [] c.length) env env'):Ent 0 ⟨env,c⟩ ⟨env',[]⟩:=
 Ent.ren [] rfl List.nodup_nil (by simp [jv]) henv
/-- A loop's rule. -/
theorem yv.of {k:Nat} {st:St} {B:Sl ((St→Prop)×St)} {ι:Type} (S:ι→St) (m:ι→Nat) (i0:ι) (h0:Ent k st (S i0)) (h:∀ i,B.f (fun s=>∃ j,m j<m i∧Ent k s (S j),S i)):yv k st B:=
 ⟨ι,S,m,i0,h0,h⟩
theorem ze1.of {k:Nat} {B:Sl (St→Prop)} {R:Sl St} {ι:Type} (S:ι→St) (h:B.f (fun s=>∃ j,Ent k s (S j))) (h2:∀ j,R.f (S j)):ze1 k B R:=
 ⟨ι,S,h,h2⟩
theorem zee {n:Int}:jq (qx [.i .u8 n] 1) 0 1=[UInt8.ofNat n.toNat]:=by
 simp [jq,qx,List.range_succ]
theorem tmod_nat (m k:Nat):(m:Int).tmod (k:Int)=((m % k:Nat):Int):=by
 rw [Int.tmod_eq_emod_of_nonneg (by omega)];rfl
end Go.Vg
end
section
set_option linter.unusedVariables false
set_option linter.unusedSimpArgs false
set_option linter.unusedSectionVars false
set_option linter.unnecessarySimpa false
namespace Go.Vg
variable [Go.Vg.Glob]
theorem XC:type_of% (And.intro (And.intro (And.intro (And.intro (And.intro (And.intro (And.intro (@vc_nil) (@vc_blk)) (And.intro (@zuc) (And.intro (@zud) (@vc_ret)))) (And.intro (And.intro (@vc_seq) (@zll)) (And.intro (@zuf) (And.intro (@zp8) (@zue))))) (And.intro (And.intro (And.intro (@zp7) (@zqv)) (And.intro (@zmc) (And.intro (@zmb) (@zma)))) (And.intro (And.intro (@zub) (And.intro (@zhn) (@zff))) (And.intro (@zug) (And.intro (@XL_nil) (@zx8)))))) (And.intro (And.intro (And.intro (And.intro (@zsh) (@zpr)) (And.intro (@zfa) (And.intro (@zgc) (@ung_gd)))) (And.intro (And.intro (@ung_b) (And.intro (@ung_i) (@ung_s))) (And.intro (@zuk) (And.intro (@zuj) (@zqa))))) (And.intro (And.intro (And.intro (@ung_mp) (@zul)) (And.intro (@zui) (And.intro (@ung_fs) (@ung_fp)))) (And.intro (And.intro (@znf) (And.intro (@zro) (@zw3))) (And.intro (@zrn) (And.intro (@zw2) (@znd))))))) (And.intro (And.intro (And.intro (And.intro (And.intro (@ifB_b) (@ifI_i)) (And.intro (@ifS_s) (And.intro (@znc) (@za4)))) (And.intro (And.intro (@zc4) (@zqz)) (And.intro (@zm5) (And.intro (@zi0) (@zqq))))) (And.intro (And.intro (And.intro (@zqp) (@zl0)) (And.intro (@zwc) (And.intro (@oLen_s) (@zq4)))) (And.intro (And.intro (@zmr) (And.intro (@zn3) (@zg0))) (And.intro (@zn2) (And.intro (@zbz) (@zby)))))) (And.intro (And.intro (And.intro (And.intro (@zjo) (@zep)) (And.intro (@zsa) (And.intro (@zsb) (@zjq)))) (And.intro (And.intro (@zjm) (And.intro (@zse) (@zn4))) (And.intro (@zsf) (And.intro (@zjr) (@zjl))))) (And.intro (And.intro (And.intro (@zil) (@zfz)) (And.intro (@zf0) (And.intro (@zn5) (@zdf)))) (And.intro (And.intro (@zsc) (And.intro (@zsd) (@zjp))) (And.intro (@znz) (And.intro (@zny) (@zua)))))))) (And.intro (And.intro (And.intro (And.intro (And.intro (And.intro (@zlh) (@zps)) (And.intro (@zq7) (And.intro (@zq6) (@zq9)))) (And.intro (And.intro (@zq8) (@zq5)) (And.intro (@zpv) (And.intro (@zli) (@zpu))))) (And.intro (And.intro (And.intro (@zpt) (@zv8)) (And.intro (@zne) (And.intro (@zq0) (@zmp)))) (And.intro (And.intro (@zeq) (And.intro (@zba) (@zbx))) (And.intro (@zmq) (And.intro (@zv9) (@oSrc_s)))))) (And.intro (And.intro (And.intro (And.intro (@zq1) (@zi5)) (And.intro (@zmt) (And.intro (@zra) (@zg1)))) (And.intro (And.intro (@zpp) (And.intro (@zpq) (@zwa))) (And.intro (@zwb) (And.intro (@zq2) (@zq3))))) (And.intro (And.intro (And.intro (@zgy) (@zv6)) (And.intro (@zv7) (And.intro (@oUpd_s) (@oUpd_i)))) (And.intro (And.intro (@zbw) (And.intro (@zgz) (@oMk_s))) (And.intro (@oMk_i) (And.intro (@zng) (@zeo))))))) (And.intro (And.intro (And.intro (And.intro (And.intro (@zp3) (@zh2)) (And.intro (@zpx) (And.intro (@zho) (@zp1)))) (And.intro (And.intro (@zht) (And.intro (@zp0) (@zpz))) (And.intro (@zp2) (And.intro (@zpw) (@zpy))))) (And.intro (And.intro (And.intro (@zhz) (@zhq)) (And.intro (@zhu) (And.intro (@zhv) (@zhw)))) (And.intro (And.intro (@zhx) (And.intro (@zh3) (@zhy))) (And.intro (@zhp) (And.intro (@zh0) (@zhr)))))) (And.intro (And.intro (And.intro (And.intro (@zh1) (@zhs)) (And.intro (@zl4) (And.intro (@zl3) (@zxm)))) (And.intro (And.intro (@XEs_q0) (And.intro (@XEs_q1) (@zx9))) (And.intro (@zyb) (And.intro (@zya) (@zx7))))) (And.intro (And.intro (And.intro (@zsg) (@zrw)) (And.intro (@zsk) (And.intro (@zsj) (@XDs_q0)))) (And.intro (And.intro (@XDs_q1) (And.intro (@zyc) (@zsi))) (And.intro (@XDs_sw) (And.intro (@zr9) (@zr8))))))))):=And.intro (And.intro (And.intro (And.intro (And.intro (And.intro (And.intro (@vc_nil) (@vc_blk)) (And.intro (@zuc) (And.intro (@zud) (@vc_ret)))) (And.intro (And.intro (@vc_seq) (@zll)) (And.intro (@zuf) (And.intro (@zp8) (@zue))))) (And.intro (And.intro (And.intro (@zp7) (@zqv)) (And.intro (@zmc) (And.intro (@zmb) (@zma)))) (And.intro (And.intro (@zub) (And.intro (@zhn) (@zff))) (And.intro (@zug) (And.intro (@XL_nil) (@zx8)))))) (And.intro (And.intro (And.intro (And.intro (@zsh) (@zpr)) (And.intro (@zfa) (And.intro (@zgc) (@ung_gd)))) (And.intro (And.intro (@ung_b) (And.intro (@ung_i) (@ung_s))) (And.intro (@zuk) (And.intro (@zuj) (@zqa))))) (And.intro (And.intro (And.intro (@ung_mp) (@zul)) (And.intro (@zui) (And.intro (@ung_fs) (@ung_fp)))) (And.intro (And.intro (@znf) (And.intro (@zro) (@zw3))) (And.intro (@zrn) (And.intro (@zw2) (@znd))))))) (And.intro (And.intro (And.intro (And.intro (And.intro (@ifB_b) (@ifI_i)) (And.intro (@ifS_s) (And.intro (@znc) (@za4)))) (And.intro (And.intro (@zc4) (@zqz)) (And.intro (@zm5) (And.intro (@zi0) (@zqq))))) (And.intro (And.intro (And.intro (@zqp) (@zl0)) (And.intro (@zwc) (And.intro (@oLen_s) (@zq4)))) (And.intro (And.intro (@zmr) (And.intro (@zn3) (@zg0))) (And.intro (@zn2) (And.intro (@zbz) (@zby)))))) (And.intro (And.intro (And.intro (And.intro (@zjo) (@zep)) (And.intro (@zsa) (And.intro (@zsb) (@zjq)))) (And.intro (And.intro (@zjm) (And.intro (@zse) (@zn4))) (And.intro (@zsf) (And.intro (@zjr) (@zjl))))) (And.intro (And.intro (And.intro (@zil) (@zfz)) (And.intro (@zf0) (And.intro (@zn5) (@zdf)))) (And.intro (And.intro (@zsc) (And.intro (@zsd) (@zjp))) (And.intro (@znz) (And.intro (@zny) (@zua)))))))) (And.intro (And.intro (And.intro (And.intro (And.intro (And.intro (@zlh) (@zps)) (And.intro (@zq7) (And.intro (@zq6) (@zq9)))) (And.intro (And.intro (@zq8) (@zq5)) (And.intro (@zpv) (And.intro (@zli) (@zpu))))) (And.intro (And.intro (And.intro (@zpt) (@zv8)) (And.intro (@zne) (And.intro (@zq0) (@zmp)))) (And.intro (And.intro (@zeq) (And.intro (@zba) (@zbx))) (And.intro (@zmq) (And.intro (@zv9) (@oSrc_s)))))) (And.intro (And.intro (And.intro (And.intro (@zq1) (@zi5)) (And.intro (@zmt) (And.intro (@zra) (@zg1)))) (And.intro (And.intro (@zpp) (And.intro (@zpq) (@zwa))) (And.intro (@zwb) (And.intro (@zq2) (@zq3))))) (And.intro (And.intro (And.intro (@zgy) (@zv6)) (And.intro (@zv7) (And.intro (@oUpd_s) (@oUpd_i)))) (And.intro (And.intro (@zbw) (And.intro (@zgz) (@oMk_s))) (And.intro (@oMk_i) (And.intro (@zng) (@zeo))))))) (And.intro (And.intro (And.intro (And.intro (And.intro (@zp3) (@zh2)) (And.intro (@zpx) (And.intro (@zho) (@zp1)))) (And.intro (And.intro (@zht) (And.intro (@zp0) (@zpz))) (And.intro (@zp2) (And.intro (@zpw) (@zpy))))) (And.intro (And.intro (And.intro (@zhz) (@zhq)) (And.intro (@zhu) (And.intro (@zhv) (@zhw)))) (And.intro (And.intro (@zhx) (And.intro (@zh3) (@zhy))) (And.intro (@zhp) (And.intro (@zh0) (@zhr)))))) (And.intro (And.intro (And.intro (And.intro (@zh1) (@zhs)) (And.intro (@zl4) (And.intro (@zl3) (@zxm)))) (And.intro (And.intro (@XEs_q0) (And.intro (@XEs_q1) (@zx9))) (And.intro (@zyb) (And.intro (@zya) (@zx7))))) (And.intro (And.intro (And.intro (@zsg) (@zrw)) (And.intro (@zsk) (And.intro (@zsj) (@XDs_q0)))) (And.intro (And.intro (@XDs_q1) (And.intro (@zyc) (@zsi))) (And.intro (@XDs_sw) (And.intro (@zr9) (@zr8))))))))
theorem XV:type_of% (And.intro (And.intro (And.intro (And.intro (And.intro (And.intro (@zio) (And.intro (@zf2) (@zip))) (And.intro (And.intro (@zxr) (@zxq)) (And.intro (@nst_eq) (@zjg)))) (And.intro (And.intro (And.intro (@zjh) (@gz_f)) (And.intro (@gz_t) (@mkgd_b))) (And.intro (And.intro (@mkgd_i) (@mkgd_s)) (And.intro (@zrg) (@zre))))) (And.intro (And.intro (And.intro (@zmw) (And.intro (@zwk) (@zrh))) (And.intro (And.intro (@zrd) (@zwm)) (And.intro (@zwn) (@zwl)))) (And.intro (And.intro (And.intro (@zqc) (@zqb)) (And.intro (@zh5) (@zlm))) (And.intro (And.intro (@zir) (@zm0)) (And.intro (@ev_tmp) (@ev_int)))))) (And.intro (And.intro (And.intro (And.intro (@zxg) (And.intro (@ev_str) (@zxe))) (And.intro (And.intro (@zxf) (@zm2)) (And.intro (@zun) (@zn1)))) (And.intro (And.intro (And.intro (@zls) (@zqu)) (And.intro (@zl5) (@zwx))) (And.intro (And.intro (@zqt) (@zvl)) (And.intro (@opsGet) (@zgg))))) (And.intro (And.intro (And.intro (And.intro (@zi8) (@ziu)) (And.intro (@zm1) (@zlp))) (And.intro (And.intro (@zqd) (@zmx)) (And.intro (@zmy) (@znb)))) (And.intro (And.intro (And.intro (@zf3) (@zk7)) (And.intro (@and_true) (@true_and))) (And.intro (And.intro (@ne_eq.{1}) (@List.nil_append.{0})) (And.intro (@List.cons_append.{0}) (@List.length_nil.{0}))))))) (And.intro (And.intro (And.intro (And.intro (And.intro (@List.length_cons.{0}) (And.intro (@List.getElem?_cons_zero.{0}) (@List.getElem?_cons_succ.{0}))) (And.intro (And.intro (@Nat.zero_add) (@List.getD_cons_zero.{0})) (And.intro (@List.getD_cons_succ.{0}) (@z7)))) (And.intro (And.intro (And.intro (@z8) (@List.drop_zero.{0})) (And.intro (@List.drop_succ_cons.{0}) (@List.take_succ_cons.{0}))) (And.intro (And.intro (@List.take_zero.{0}) (@Bool.false_eq_true)) (And.intro (@imp_self) (@Bool.true_and))))) (And.intro (And.intro (And.intro (And.intro (@Bool.and_true) (@Bool.not_true)) (And.intro (@Bool.not_false) (@cond_true.{1}))) (And.intro (And.intro (@cond_false.{1}) (@List.cons.injEq.{0})) (And.intro (@decide_eq_true_eq) (@decide_eq_false_iff_not)))) (And.intro (And.intro (And.intro (@List.set_cons_zero.{0}) (@List.set_cons_succ.{0})) (And.intro (@Int.toNat_natCast) (@List.take_length.{0}))) (And.intro (And.intro (@Int.toNat_zero) (@or_true)) (And.intro (@true_or) (@beq_self_eq_true.{0})))))) (And.intro (And.intro (And.intro (And.intro (@Option.bind_some.{0,0}) (And.intro (@Option.bind_none.{0,0}) (@List.contains_nil.{0}))) (And.intro (And.intro (@List.contains_cons.{0}) (@List.all_cons.{0})) (And.intro (@List.all_nil.{0}) (@zee)))) (And.intro (And.intro (And.intro (@List.append_nil.{0}) (@List.length_append.{0})) (And.intro (@Option.isSome_some.{0}) (@Nat.lt_add_one))) (And.intro (And.intro (@if_true.{1}) (@if_false.{1})) (And.intro (@List.map_cons.{0,0}) (@List.map_nil.{0,0}))))) (And.intro (And.intro (And.intro (And.intro (@not_false_eq_true) (@Bool.or_true)) (And.intro (@Bool.true_or) (@Bool.false_or))) (And.intro (And.intro (@Bool.or_false) (@Bool.and_self)) (And.intro (@Bool.or_self) (@u3)))) (And.intro (And.intro (And.intro (@zcy) (@um)) (And.intro (@Nat.zero_le) (@List.length_map.{0,0}))) (And.intro (And.intro (@decide_true) (@decide_false)) (And.intro (@false_implies) (@true_implies)))))))):=And.intro (And.intro (And.intro (And.intro (And.intro (And.intro (@zio) (And.intro (@zf2) (@zip))) (And.intro (And.intro (@zxr) (@zxq)) (And.intro (@nst_eq) (@zjg)))) (And.intro (And.intro (And.intro (@zjh) (@gz_f)) (And.intro (@gz_t) (@mkgd_b))) (And.intro (And.intro (@mkgd_i) (@mkgd_s)) (And.intro (@zrg) (@zre))))) (And.intro (And.intro (And.intro (@zmw) (And.intro (@zwk) (@zrh))) (And.intro (And.intro (@zrd) (@zwm)) (And.intro (@zwn) (@zwl)))) (And.intro (And.intro (And.intro (@zqc) (@zqb)) (And.intro (@zh5) (@zlm))) (And.intro (And.intro (@zir) (@zm0)) (And.intro (@ev_tmp) (@ev_int)))))) (And.intro (And.intro (And.intro (And.intro (@zxg) (And.intro (@ev_str) (@zxe))) (And.intro (And.intro (@zxf) (@zm2)) (And.intro (@zun) (@zn1)))) (And.intro (And.intro (And.intro (@zls) (@zqu)) (And.intro (@zl5) (@zwx))) (And.intro (And.intro (@zqt) (@zvl)) (And.intro (@opsGet) (@zgg))))) (And.intro (And.intro (And.intro (And.intro (@zi8) (@ziu)) (And.intro (@zm1) (@zlp))) (And.intro (And.intro (@zqd) (@zmx)) (And.intro (@zmy) (@znb)))) (And.intro (And.intro (And.intro (@zf3) (@zk7)) (And.intro (@and_true) (@true_and))) (And.intro (And.intro (@ne_eq.{1}) (@List.nil_append.{0})) (And.intro (@List.cons_append.{0}) (@List.length_nil.{0}))))))) (And.intro (And.intro (And.intro (And.intro (And.intro (@List.length_cons.{0}) (And.intro (@List.getElem?_cons_zero.{0}) (@List.getElem?_cons_succ.{0}))) (And.intro (And.intro (@Nat.zero_add) (@List.getD_cons_zero.{0})) (And.intro (@List.getD_cons_succ.{0}) (@z7)))) (And.intro (And.intro (And.intro (@z8) (@List.drop_zero.{0})) (And.intro (@List.drop_succ_cons.{0}) (@List.take_succ_cons.{0}))) (And.intro (And.intro (@List.take_zero.{0}) (@Bool.false_eq_true)) (And.intro (@imp_self) (@Bool.true_and))))) (And.intro (And.intro (And.intro (And.intro (@Bool.and_true) (@Bool.not_true)) (And.intro (@Bool.not_false) (@cond_true.{1}))) (And.intro (And.intro (@cond_false.{1}) (@List.cons.injEq.{0})) (And.intro (@decide_eq_true_eq) (@decide_eq_false_iff_not)))) (And.intro (And.intro (And.intro (@List.set_cons_zero.{0}) (@List.set_cons_succ.{0})) (And.intro (@Int.toNat_natCast) (@List.take_length.{0}))) (And.intro (And.intro (@Int.toNat_zero) (@or_true)) (And.intro (@true_or) (@beq_self_eq_true.{0})))))) (And.intro (And.intro (And.intro (And.intro (@Option.bind_some.{0,0}) (And.intro (@Option.bind_none.{0,0}) (@List.contains_nil.{0}))) (And.intro (And.intro (@List.contains_cons.{0}) (@List.all_cons.{0})) (And.intro (@List.all_nil.{0}) (@zee)))) (And.intro (And.intro (And.intro (@List.append_nil.{0}) (@List.length_append.{0})) (And.intro (@Option.isSome_some.{0}) (@Nat.lt_add_one))) (And.intro (And.intro (@if_true.{1}) (@if_false.{1})) (And.intro (@List.map_cons.{0,0}) (@List.map_nil.{0,0}))))) (And.intro (And.intro (And.intro (And.intro (@not_false_eq_true) (@Bool.or_true)) (And.intro (@Bool.true_or) (@Bool.false_or))) (And.intro (And.intro (@Bool.or_false) (@Bool.and_self)) (And.intro (@Bool.or_self) (@u3)))) (And.intro (And.intro (And.intro (@zcy) (@um)) (And.intro (@Nat.zero_le) (@List.length_map.{0,0}))) (And.intro (And.intro (@decide_true) (@decide_false)) (And.intro (@false_implies) (@true_implies)))))))
open Classical in
/-- A table's zc7: by parameters,from which the arguments are made. -/
noncomputable def peR {α:Type} (A:α→List SV) (p:α→Prop) (z:α→SV):PE:=fun args=>if h:∃ i,A i=args then some (p (Classical.choose h),z (Classical.choose h)) else none
theorem z6 {α:Type} {A:α→List SV} {p:α→Prop} {z:α→SV} (h:∀ i j,A i=A j→i=j) (i:α):peR A p z (A i)=some (p i,z i):=by
 have hx:∃ j,A j=A i:=⟨i,rfl⟩
 unfold peR
 rw [dif_pos hx,h _ _ (Classical.choose_spec hx)]
theorem yb {P:Program} {f:FuncId} {α:Type} {A:α→List SV} {p:α→Prop} {z:α→SV} (h:∀ i,p i→PF P f (A i) (z i)):PE1 P f (peR A p z):=by
 intro args q y hq hp
 unfold peR at hq
 split at hq
 ·rename_i hx
  simp only [Option.some.injEq,Prod.mk.injEq] at hq
  obtain ⟨rfl,rfl⟩:=hq
  have:=(h _ hp).call
  rw [Classical.choose_spec hx] at this
  exact .inl this
 ·cases hq
theorem zb7 {α β:Type} {f:α→β} (h:∀ a b,f a=f b→a=b) {l m:List α}:l.map f=m.map f↔l=m:=by
 refine ⟨fun e=>?_,fun e=>by rw [e]⟩
 induction l generalizing m with
 | nil=>cases m<;>simp_all
 | cons x xs ih=>
  cases m with
  | nil=>simp at e
  | cons y ys=>
   simp only [List.map_cons,List.cons.injEq] at e
   rw [h _ _ e.1,ih e.2]
end Go.Vg
end
section
set_option linter.unusedVariables false
set_option linter.unusedSimpArgs false
set_option linter.unusedSectionVars false
set_option linter.unnecessarySimpa false
namespace Go.Pl
def dec (n:Nat):List UInt8:=if h:n<10 then [UInt8.ofNat (48+n)] else dec (n / 10)++[UInt8.ofNat (48+n % 10)]
termination_by n
decreasing_by omega
theorem dec_eq (n:Nat):dec n=if n<10 then [UInt8.ofNat (48+n)] else dec (n / 10)++[UInt8.ofNat (48+n % 10)]:=by
 rw [dec];split<;>rfl
theorem ztq (n:Nat):(dec n).length≤n+1:=by
 induction n using Nat.strongRecOn with
 | _ n ih=>
  rw [dec_eq]
  split
  ·simp
  ·have:=ih (n / 10) (by omega)
   simp
   omega
/-- What is behind the first digits: 'm' is still to be written ahead of 'out'. -/
def zg2 (n m:Nat) (out:List UInt8):Prop:=m≤n∧if m=0 then out=dec n else dec m++out=dec n
theorem zg2.step {n m:Nat} {out:List UInt8} (h:zg2 n m out) (hm:0<m):zg2 n (m / 10) (UInt8.ofNat (48+m % 10)::out):=by
 unfold zg2 at *
 rw [if_neg (by omega)] at h
 refine ⟨by omega, ?_⟩
 rw [dec_eq m] at h
 split
 ·rename_i h0
  rw [if_pos (by omega)] at h
  rw [show m % 10=m by omega]
  simpa using h.2
 ·rw [if_neg (by omega)] at h
  simpa using h.2
theorem zg2.len {n m:Nat} {out:List UInt8} (h:zg2 n m out):out.length≤n+1:=by
 have:=ztq n
 unfold zg2 at h
 split at h
 ·rw [h.2];exact this
 ·have h2:=congrArg List.length h.2
  simp at h2
  omega
/-- A row of marks. -/
def mkL {α:Type} (g:Int→α) (c:Int):Int→Nat→List α
 | _,0=>[]
 | k,n+1=>g k::mkL g c (k+c) n
theorem zbj {α:Type} {g:Int→α} {c:Int}:∀ {n:Nat} {k:Int},(mkL g c k n).length=n
 | 0,_=>rfl
 | n+1,k=>by simp [mkL,zbj]
theorem zwo {α:Type} {g:Int→α} {c:Int} (z:α):∀ {n:Nat} {k:Int} {j:Nat},j<n→(mkL g c k n).getD j z=g (k+c * j)
 | 0,_,j,h=>by omega
 | n+1,k,0,_=>by simp [mkL]
 | n+1,k,j+1,h=>by
  have:=zwo (g:=g) (c:=c) z (n:=n) (k:=k+c) (j:=j) (by omega)
  simp only [mkL,List.getD_cons_succ,this]
  congr 1
  rw [Int.natCast_add,Int.mul_add]
  omega
/-- A row of which a beginning is marked. -/
def mkd {α:Type} (g:Int→α) (c k:Int) (a:List α) (i:Nat):List α:=mkL g c k i++a.drop i
theorem mkd_get {α:Type} {g:Int→α} {c k:Int} {a:List α} {i:Nat} (z:α) (j:Nat):(mkd g c k a i).getD j z=if j<i then g (k+c * j) else a.getD j z:=by
 unfold mkd
 split
 ·rename_i h
  have:=zwo (g:=g) (c:=c) z (n:=i) (k:=k) h
  rw [←this]
  simp only [List.getD_eq_getElem?_getD]
  rw [List.getElem?_append_left (by rw [zbj];exact h)]
 ·rename_i h
  simp only [List.getD_eq_getElem?_getD]
  rw [List.getElem?_append_right (by rw [zbj];omega),zbj,List.getElem?_drop,show i+(j-i)=j by omega]
end Go.Pl
end
section
set_option linter.unusedVariables false
set_option linter.unusedSimpArgs false
set_option linter.unusedSectionVars false
set_option linter.unnecessarySimpa false
namespace Go.Vg
variable [Go.Vg.Glob]
def zg {α:Type} (enc:α→List SV) (z:α) (xs:List α):Nat→List SV:=fun j=>enc (xs.getD j z)
theorem wy {α:Type} {enc:α→List SV} {z:α} {xs:List α} {n:Nat} (h:n=xs.length):jd (zg enc z xs) 0 n=xs.map enc:=by
 subst h
 apply List.ext_getElem?
 intro j
 unfold jd zg
 by_cases hj:j<xs.length
 ·simp [hj,List.getD]
 ·simp [hj]
theorem rowE_part {α:Type} {enc:α→List SV} {z:α} {xs:List α} {lo n:Nat} (h:lo+n≤xs.length):jd (zg enc z xs) lo n=((xs.drop lo).take n).map enc:=by
 apply List.ext_getElem?
 intro j
 unfold jd zg
 by_cases hj:j<n
 ·have h1:lo+j<xs.length:=by omega
  simp [hj,List.getD,List.getElem?_eq_getElem h1,h1,List.getElem?_take]
 ·simp [hj,List.getElem?_take]
theorem ue {α:Type} {enc:α→List SV} {z:α} {xs:List α} {y:α} {sz n:Nat} {f:Nat→List SV} (hn:n=xs.length) (hf:∀ j,j<n→f j=zg enc z xs j) (hl:(enc y).length=sz) {i:Nat} (hi:i<n+1) :
  zey n f (qx (enc y) sz) i=zg enc z (xs++[y]) i:=by
 subst hn
 unfold zey zg
 split
 ·rename_i h
  rw [hf i h]
  simp [zg,List.getD,List.getElem?_append_left h]
 ·have:i=xs.length:=by omega
  subst this
  have h1:(xs++[y]).getD xs.length z=y:=by simp [List.getD]
  rw [h1,Nat.sub_self]
  simp only [qx,Nat.zero_mul,List.drop_zero]
  rw [←hl,List.take_length]
theorem rowE_app {α:Type} {enc:α→List SV} {z:α} {xs ys:List α} {n m:Nat} {f g:Nat→List SV} (hn:n=xs.length) (hm:m=ys.length) (hf:∀ j,j<n→f j=zg enc z xs j) (hg:∀ j,j<m→g j=zg enc z ys j) {i:Nat} (hi:i<n+m) :
  zey n f g i=zg enc z (xs++ys) i:=by
 subst hn hm
 unfold zey
 split
 ·rename_i h
  rw [hf i h]
  simp [zg,List.getD,List.getElem?_append_left h]
 ·rename_i h
  rw [hg _ (by omega)]
  simp only [zg,List.getD,List.getElem?_append_right (show xs.length≤i by omega)]
theorem u6 {α:Type} (enc:α→List SV) (xs:List α) (i:Nat) (z:α):(xs.map enc).getD i (enc z)=enc (xs.getD i z):=by
 simp only [List.getD_eq_getElem?_getD,List.getElem?_map]
 cases xs[i]?<;>rfl
theorem zh {μ:Nat→Nat} {sz n:Nat} {f g:Nat→List SV} (h:∀ i,i<n→ko μ (g i)=f i):soLe μ (.row false sz n g) (.row false sz n f):=⟨id,rfl,rfl,Nat.le_refl _,rfl,h⟩
theorem wx {μ:Nat→Nat} {sz n m:Nat} {f g:Nat→List SV} (hn:n≤m) (h:∀ i,i<n→ko μ (g i)=f i):soLe μ (.row false sz n g) (.row false sz m f):=⟨id,rfl,rfl,hn,rfl,fun i hi=>h i hi⟩
theorem zb {μ:Nat→Nat} {l m:List SV} (h:ko μ l=m):soLe μ (.blk false l) (.blk false m):=⟨id,rfl,by simp [SO.sz,←h,zkr],Nat.le_refl _,rfl,fun i _=>h⟩
mutual
theorem ziw {μ:Nat→Nat}:∀ {x:SV},x.plain=true→x.mapH μ=x
 | .b _,_=>rfl
 | .i _ _,_=>rfl
 | .s _,_=>rfl
 | .nils,_=>rfl
 | .fn _,_=>rfl
 | .u,_=>rfl
 | .fs _ _,_=>rfl
 | .fp _ _,_=>rfl
 | .ptr _ _ _,h=>by simp [SV.plain] at h
 | .slc _ _ _,h=>by simp [SV.plain] at h
 | .mp _,h=>by simp [SV.plain] at h
 | .agg l,h=>by simp only [SV.mapH];rw [qv (by simpa [SV.plain] using h)]
 | .tup l,h=>by simp only [SV.mapH];rw [qv (by simpa [SV.plain] using h)]
 | .gd _ x,h=>by simp only [SV.mapH];rw [ziw (by simpa [SV.plain] using h)]
theorem qv {μ:Nat→Nat}:∀ {l:List SV},plainL l=true→ko μ l=l
 | [],_=>rfl
 | x::xs,h=>by
  simp only [plainL,Bool.and_eq_true] at h
  simp only [ko,ziw h.1,qv h.2]
end
theorem Ent.ren1 {k:Nat} {st st':St} (l:List Nat) (h:znh k l=true∧l.Nodup) (hctx:jv (muL l st.ctx.length) st.ctx l st'.ctx) (henv:zj (muL l st.ctx.length) st.env st'.env):Ent k st st':=Ent.ren l h.1 h.2 hctx henv
theorem qi {y:List SV} {sz:Nat} (h:y.all qk=true) (hl:y.length=sz):∀ j,j<1→(qx y sz j).all qk=true∧(qx y sz j).length=sz:=by
 intro j hj
 obtain rfl:j=0:=by omega
 have:qx y sz 0=y:=by simp only [qx,Nat.zero_mul,List.drop_zero];rw [←hl,List.take_length]
 rw [this]
 exact ⟨h,hl⟩
theorem xb {μ:Nat→Nat} {α:Type} {enc:α→List SV} {z:α} {xs:List α} {y:α} {sz n:Nat} {f:Nat→List SV} (hp:∀ x,plainL (enc x)=true) (hn:n=xs.length) (hf:∀ j,j<n→f j=zg enc z xs j) (hl:(enc y).length=sz) :
  soLe μ (.row false sz (xs++[y]).length (zg enc z (xs++[y]))) (.row false sz (n+1) (zey n f fun j=>qx (enc y) sz j)):=
 wx (by simp [hn]) fun i hi=>by
  rw [ue hn hf hl (by simp at hi;omega)]
  exact qv (hp _)
theorem soLe_nil {μ:Nat→Nat} {α:Type} {enc:α→List SV} {z:α} {sz:Nat} {f:Nat→List SV}:soLe μ (.row false sz ([]:List α).length (zg enc z [])) (.row false sz 0 f):=
 zh fun i hi=>absurd hi (Nat.not_lt_zero _)
theorem za {μ:Nat→Nat} {α:Type} {enc:α→List SV} {z:α} {xs:List α} {sz n:Nat} (hp:∀ x,plainL (enc x)=true):soLe μ (.row false sz n (zg enc z xs)) (.row false sz n (zg enc z xs)):=
 zh fun i hi=>qv (hp _)
open Go.Pl in
theorem soLe_mark {μ:Nat→Nat} {α:Type} {enc:α→List SV} {z:α} {g:Int→α} {c k:Int} {a:List α} {i sz n:Nat} {f:Nat→List SV} (hp:∀ x,plainL (enc x)=true) (hf:∀ j,j<n→f j=if j=i then enc (g (k+c * i)) else zg enc z (mkd g c k a i) j) :
  soLe μ (.row false sz n (zg enc z (mkd g c k a (i+1)))) (.row false sz n f):=by
 refine zh fun j hj=>?_
 rw [hf j hj]
 simp only [zg,mkd_get]
 rw [qv (hp _)]
 by_cases h1:j=i
 ·subst h1
  rw [if_pos (by omega),if_pos rfl]
 ·rw [if_neg h1]
  by_cases h2:j<i
  ·rw [if_pos (by omega),if_pos h2]
  ·rw [if_neg (by omega),if_neg h2]
def zao (b:List UInt8):List SV:=[.s b]
def w6 (n:Int):List SV:=[.i .i64 n]
def qf (b:Bool):List SV:=[.b b]
def zd7 (b:UInt8):List SV:=[.i .u8 b.toNat]
theorem zqe {l m:List (List UInt8)}:l.map zao=m.map zao↔l=m:=zb7 fun a b h=>by simpa [zao] using h
theorem zrm {l m:List Int}:l.map w6=m.map w6↔l=m:=zb7 fun a b h=>by simpa [w6] using h
theorem booc_inj {l m:List Bool}:l.map qf=m.map qf↔l=m:=zb7 fun a b h=>by simpa [qf] using h
theorem znk (a:List (List UInt8)) (i:Nat):(a.map zao).getD i [.s []]=[.s (a.getD i [])]:=u6 zao a i []
theorem znn (a:List Int) (i:Nat):(a.map w6).getD i [.i .i64 0]=[.i .i64 (a.getD i 0)]:=u6 w6 a i 0
theorem znp (a:List Bool) (i:Nat):(a.map qf).getD i [.b false]=[.b (a.getD i false)]:=u6 qf a i false
theorem zno (a:List UInt8) (i:Nat):(a.map zd7).getD i [.i .u8 0]=[.i .u8 (a.getD i 0).toNat]:=u6 zd7 a i 0
theorem zql {a:List (List UInt8)} {i:Nat}:zg zao [] a i=[.s (a.getD i [])]:=id rfl
theorem zqm {a:List Int} {i:Nat}:zg w6 0 a i=[.i .i64 (a.getD i 0)]:=id rfl
theorem zqo {a:List Bool} {i:Nat}:zg qf false a i=[.b (a.getD i false)]:=id rfl
theorem zqn {a:List UInt8} {i:Nat}:zg zd7 0 a i=[.i .u8 (a.getD i 0).toNat]:=id rfl
theorem rowH {α:Type} {enc:α→List SV} {z:α} (hp:∀ x,plainL (enc x)=true) {μ:Nat→Nat} {r:Bool} {sz n:Nat} {a:List α}:SO.mapH μ (.row r sz n (zg enc z a))=.row r sz n (zg enc z a):=by
 simp only [SO.mapH]
 congr 1
 funext i
 exact qv (hp _)
theorem zqh {μ:Nat→Nat} {r:Bool} {sz n:Nat} {a:List (List UInt8)}:SO.mapH μ (.row r sz n (zg zao [] a))=.row r sz n (zg zao [] a):=rowH fun _=>rfl
theorem zqi {μ:Nat→Nat} {r:Bool} {sz n:Nat} {a:List Int}:SO.mapH μ (.row r sz n (zg w6 0 a))=.row r sz n (zg w6 0 a):=rowH fun _=>rfl
theorem zqk {μ:Nat→Nat} {r:Bool} {sz n:Nat} {a:List Bool}:SO.mapH μ (.row r sz n (zg qf false a))=.row r sz n (zg qf false a):=rowH fun _=>rfl
theorem zqj {μ:Nat→Nat} {r:Bool} {sz n:Nat} {a:List UInt8}:SO.mapH μ (.row r sz n (zg zd7 0 a))=.row r sz n (zg zd7 0 a):=rowH fun _=>rfl
theorem zmo {μ:Nat→Nat} {o:SO}:Option.map (SO.mapH μ) (some o)=some (o.mapH μ):=id rfl
theorem XR:type_of% (And.intro (And.intro @zmo (And.intro (And.intro @zqh @zqi) (And.intro @zqk @zqj))) <| And.intro (And.intro @znk @znn) (And.intro (And.intro @znp @zno) (And.intro (And.intro @zql @zqm) (And.intro @zqo @zqn)))):=And.intro (And.intro @zmo (And.intro (And.intro @zqh @zqi) (And.intro @zqk @zqj))) <| And.intro (And.intro @znk @znn) (And.intro (And.intro @znp @zno) (And.intro (And.intro @zql @zqm) (And.intro @zqo @zqn)))
theorem muL_nil {n h:Nat}:muL [] n h=n+h:=by simp [muL]
/-- A call of a function that makes new rows: they stand behind the caller's own. -/
theorem yq.own {P:Program} {f:FuncId} {args:List SV} {Z:SV} {C:Ctx} (hF:FnK P f 0 args [] fun z c=>z=Z∧c=C) (hp:plainL args=true) {kk:Nat} {st:St} {K:Sl (SV×St)}
  (hK:K.f (Z.mapH (fun h=>st.ctx.length+h),⟨st.env,st.ctx++C.map fun o=>o.map (SO.mapH fun h=>st.ctx.length+h)⟩)):yq P f args kk st K:=by
 have hmu:muL [] st.ctx.length=fun h=>st.ctx.length+h:=funext fun h=>muL_nil
 refine ze0.of hF [] (by rw [qv hp]) trivial (.inl rfl) (zf3) rfl (.inl rfl) um ?_
 rintro z c ⟨rfl,rfl⟩
 rw [hmu]
 simp only [List.drop_nil,zcy]
 unfold kb
 simp only [upd,List.length_nil,List.drop_zero]
 exact hK
/-- A call of a function that writes what it was handed: nothing comes to lie elsewhere. -/
theorem yq.mut {P:Program} {f:FuncId} {k:Nat} {args0:List SV} {pre:Ctx} {Z:SV} {C:Ctx} (hF:FnK P f k args0 pre fun z c=>z=Z∧c=C) (hkl:pre.length=k) (l:List Nat) {args:List SV} {kk:Nat} {st:St} {K:Sl (SV×St)}
  (hargs:ko (muL l st.ctx.length) args0=args) (hmap:vl (muL l st.ctx.length) st.ctx l pre) (hnd:l.Nodup)
  (hK:K.f (Z.mapH (muL l st.ctx.length),⟨st.env,kb (muL l st.ctx.length) l pre C st.ctx⟩)):yq P f args kk st K:=by
 subst hkl
 have hl:=(zd4 hmap).1
 have hd:l.drop pre.length=[]:=by rw [←hl];exact List.drop_length
 refine ze0.of hF l hargs.symm hmap (.inr hnd) (by simp [ye]) (by rw [hd];rfl) (.inl hd) (by rw [hd];exact um) ?_
 rintro z c ⟨rfl,rfl⟩
 rw [hd,zcy]
 exact hK
/-- What is frozen of rows that a function has made. -/
theorem PF.ofOwn {P:Program} {f:FuncId} {args:List SV} {Z z:SV} {C:Ctx} (hF:FnK P f 0 args [] fun z c=>z=Z∧c=C) (hp:plainL args=true) (hz:z.plain=true) (h:vk C Z∧zb9 C Z=z):PF P f args z:=
 ⟨hp,hz,hF.mono (by rintro _ _ ⟨rfl,rfl⟩;exact h)⟩
end Go.Vg
end
section
set_option linter.unusedVariables false
set_option linter.unusedSimpArgs false
set_option linter.unusedSectionVars false
set_option linter.unnecessarySimpa false
namespace Go.Vg
variable [Go.Vg.Glob]
def nlV (x y:SV):Prop:=x=y∨(x=.nils∧∃ h lo,y=.slc h lo 0)
def nlL:List SV→List SV→Prop
 | [],[]=>True
 | x::xs,y::ys=>nlV x y∧nlL xs ys
 | _,_=>False
def nlO:Option SO→Option SO→Prop
 | some (.blk r cs),some (.blk q ds)=>r=q∧nlL cs ds
 | o,p=>o=p
def nlC:Ctx→Ctx→Prop
 | [],[]=>True
 | o::r,p::q=>nlO o p∧nlC r q
 | _,_=>False
def nlE (env:List (Tmp×SV)):List (Tmp×SV)→Prop
 | []=>True
 | (t,x)::r=>nlV (look env t) x∧nlE env r
theorem zwg {σ:Asg} {x y:SV} (h:nlV x y) {v:Value} (hr:rel σ x v):rel σ y v:=by
 rcases h with rfl | ⟨rfl,q,lo,rfl⟩
 ·exact hr
 ·simp only [rel] at hr ⊢
  exact ⟨none,0,hr,Nat.le_refl _,.inl rfl⟩
theorem nlE_get {env:List (Tmp×SV)}:∀ {e:List (Tmp×SV)},nlE env e→∀ t,look e t=.u∨nlV (look env t) (look e t)
 | [],_,t=>.inl rfl
 | (u,x)::r,h,t=>by
  simp only [nlE] at h
  simp only [look]
  by_cases hu:u=t
  ·rw [if_pos hu];subst hu;exact .inr h.1
  ·rw [if_neg hu];exact nlE_get h.2 t
theorem zwh {σ:Asg}:∀ {xs ys:List SV},nlL xs ys→xs.length=ys.length∧∀ k v,rel σ (xs.getD k .u) v→rel σ (ys.getD k .u) v
 | [],[],_=>⟨rfl,fun k v h=>h⟩
 | x::xs,y::ys,h=>by
  simp only [nlL] at h
  obtain ⟨h1,h2⟩:=zwh (σ:=σ) h.2
  refine ⟨by simp [h1],fun k v hv=>?_⟩
  cases k with
  | zero=>simp only [List.getD_cons_zero] at hv ⊢;exact zwg h.1 hv
  | succ k=>simp only [List.getD_cons_succ] at hv ⊢;exact h2 k v hv
 | [],_::_,h=>by simp [nlL] at h
 | _::_,[],h=>by simp [nlL] at h
theorem nlO_sat {σ:Asg} {w:World} {h:Nat}:∀ {o p:Option SO},nlO o p→∀ {q:SO},p=some q→∃ r,o=some r∧r.ro=q.ro∧(y5 σ w h r→y5 σ w h q):=by
 intro o p hn q hq
 subst hq
 unfold nlO at hn
 split at hn
 ·rename_i r cs q' ds heq
  cases heq
  obtain ⟨rfl,hl⟩:=hn
  refine ⟨_,rfl,rfl,fun hs=>?_⟩
  obtain ⟨hlen,hg⟩:=zwh (σ:=σ) hl
  simp only [y5,SO.isMap] at hs ⊢
  rcases hs with ⟨h1,h2⟩ | ⟨L,c,e,fr,h1,h2⟩
  ·exact .inl ⟨h1,h2⟩
  ·have h3:=h2.lsz;have h4:=h2.fits;have h5:=h2.cell
   simp only [SO.sz,SO.n,SO.el] at h3 h4 h5
   refine .inr ⟨L,c,e,fr,h1,h2.heap,by simp only [SO.sz];omega,h2.room,by simp only [SO.sz,SO.n];omega,fun i k hi hk=>?_,h2.free⟩
   simp only [SO.sz,SO.el,SO.n] at hi hk ⊢
   obtain ⟨v,hv,hr⟩:=h5 i k hi (by omega)
   refine ⟨v,by rw [←hlen];exact hv,hg k v hr⟩
 ·exact ⟨q,hn,rfl,id⟩
theorem nlC_at:∀ {c d:Ctx},nlC c d→c.length=d.length∧∀ h,nlO (c.at h) (d.at h)
 | [],[],_=>⟨rfl,fun h=>by simp [Ctx.at,nlO]⟩
 | o::r,p::q,h=>by
  simp only [nlC] at h
  obtain ⟨h1,h2⟩:=nlC_at h.2
  refine ⟨by simp [h1],fun k=>?_⟩
  cases k with
  | zero=>rw [z7,z7];exact h.1
  | succ k=>rw [z8,z8];exact h2 k
 | [],_::_,h=>by simp [nlC] at h
 | _::_,[],h=>by simp [nlC] at h
/-- Rows without elements come out of nothing;what was nil may lie in them. -/
theorem Ent.nl {k:Nat} {env env':List (Tmp×SV)} {c d:Ctx} (es:List (Nat×(Nat→List SV))) (he:nlE env env') (hc:nlC c d):Ent k ⟨env,c⟩ ⟨env',d++es.map fun p=>some (.row false p.1 0 p.2)⟩:=by
 intro A σ a w hk hR
 obtain ⟨hlen,hat⟩:=nlC_at hc
 have old:∀ h,h<d.length→Ctx.at (d++es.map fun p=>some (.row false p.1 0 p.2)) h=d.at h:=by
  intro h hh
  simp only [Ctx.at,List.getD_eq_getElem?_getD,List.getElem?_append_left hh]
 have new:∀ h o,d.length≤h→Ctx.at (d++es.map fun p=>some (.row false p.1 0 p.2)) h=some o→o.n=0∧o.isMap=false:=by
  intro h o hh ho
  simp only [Ctx.at,List.getD_eq_getElem?_getD,List.getElem?_append_right hh,List.getElem?_map] at ho
  cases hx:es[h-d.length]? with
  | none=>rw [hx] at ho;cases ho
  | some p=>rw [hx] at ho;simp at ho;subst ho;exact ⟨rfl,rfl⟩
 have get:∀ h o,Ctx.at (d++es.map fun p=>some (.row false p.1 0 p.2)) h=some o→(h<c.length∧∃ r,c.at h=some r∧r.ro=o.ro∧(y5 σ w h r→y5 σ w h o))∨(σ h=none∧y5 σ w h o):=by
  intro h o ho
  rcases Nat.lt_or_ge h d.length with hh | hh
  ·rw [old h hh] at ho
   obtain ⟨r,h1,h2,h3⟩:=nlO_sat (σ:=σ) (w:=w) (h:=h) (hat h) ho
   exact .inl ⟨by omega,r,h1,h2,h3⟩
  ·have hn:σ h=none:=hR.sat.beyond h (by simp only;omega)
   obtain ⟨h1,h2⟩:=new h o hh ho
   exact .inr ⟨hn,by simp only [y5,h2];exact .inl ⟨h1,hn⟩⟩
 refine ⟨σ,hR.defers,hR.size,fun t=>?_,⟨fun h o ho=>?_,fun h h' o o' L L' hne e1 e2 hro s1 s2=>?_,fun h hh=>?_,hR.sat.inHeap,hR.sat.frz,fun h o L e hro s=>?_,hR.sat.glb⟩,hR.fr,fun h o L e hro s=>?_,hR.base, ?_⟩
 ·rcases nlE_get he t with h | h
  ·rw [h];simp [rel]
  ·exact zwg h (hR.env t)
 ·rcases get h o ho with ⟨_,r,h1,_,h3⟩ | ⟨_,h3⟩
  ·exact h3 (hR.sat.obj h r h1)
  ·exact h3
 ·rcases get h o e1 with ⟨_,r,h1,h2,_⟩ | ⟨h1,_⟩
  ·rcases get h' o' e2 with ⟨_,r',h1',_,_⟩ | ⟨h1',_⟩
   ·exact hR.sat.apart h h' r r' L L' hne h1 h1' (by rw [h2];exact hro) s1 s2
   ·rw [h1'] at s2;cases s2
  ·rw [h1] at s1;cases s1
 ·exact hR.sat.beyond h (by simp only [List.length_append] at hh ⊢;omega)
 ·rcases get h o e with ⟨_,r,h1,h2,_⟩ | ⟨h1,_⟩
  ·exact hR.sat.frzA h r L h1 (by rw [h2];exact hro) s
  ·rw [h1] at s;cases s
 ·rcases get h o e with ⟨_,r,h1,h2,_⟩ | ⟨h1,_⟩
  ·exact hR.own h r L h1 (by rw [h2];exact hro) s
  ·rw [h1] at s;cases s
 ·have:=hR.klen
  simp only [List.length_append] at this ⊢
  omega
theorem kg {μ:Nat→Nat} {α β:Type} {enc:α→List SV} {z:α} {g:β→α} {o:List β} {b:β} {cs:List SV} {sz n:Nat} {f:Nat→List SV} (hp:∀ x,plainL (enc x)=true) (hn:n=o.length) (hf:∀ j,j<n→f j=zg enc z (o.map g) j) (hy:cs=enc (g b)) (hl:(enc (g b)).length=sz) :
  soLe μ (.row false sz (o++[b]).length (zg enc z ((o++[b]).map g))) (.row false sz (n+1) (zey n f fun j=>qx cs sz j)):=by
 subst hy
 refine wx (by simp [hn]) fun i hi=>?_
 rw [ue (xs:=o.map g) (by simp [hn]) hf hl (by simp at hi;omega),List.map_append]
 exact qv (hp _)
/-- A call of a function that may put other rows in place of those that it was handed. -/
theorem yq.reb {P:Program} {f:FuncId} {k:Nat} {args0:List SV} {pre:Ctx} {Z:SV} {C:Ctx} (hF:FnK P f k args0 pre fun z c=>z=Z∧c=C) (l:List Nat) {args:List SV} {kk:Nat} {st:St} {K:Sl (SV×St)}
  (hargs:ko (muL l st.ctx.length) args0=args) (hmap:vl (muL l st.ctx.length) st.ctx l pre) (hnd:l.Nodup) (hrw:ye k pre) (hfix:(l.drop k).all (fun g=>decide (kk≤g))=true) (hclean:jn (l.drop k) (zer l pre) 0 st.ctx)
  (hK:K.f (Z.mapH (muL l st.ctx.length),⟨zcz (l.drop k) st.env,kb (muL l st.ctx.length) l pre C st.ctx⟩)):yq P f args kk st K:=by
 refine ze0.of hF l hargs.symm hmap (.inr hnd) hrw hfix (.inr hnd) hclean ?_
 rintro z c ⟨rfl,rfl⟩
 exact hK
theorem zit {B:List Nat} {t:Tmp} {x:SV} {r:List (Tmp×SV)}:zcz B ((t,x)::r)=(t,if noH B x then x else .u)::zcz B r:=id rfl
theorem zis {B:List Nat}:zcz B []=[]:=id rfl
theorem zej {cut:List Nat} {i:Nat} {a:Array Oper} {b:Bool}:za3 cut (.region i a b)=cut.contains i:=id rfl
theorem zga {cut:List Nat} {i:Nat} {x:Code}:za3 cut (.block i x)=cut.contains (1000+i):=id rfl
theorem zm9 {cut:List Nat} {x y:Code}:za3 cut (.seq x y)=za3 cut x:=id rfl
theorem zi2 {cut:List Nat} {x:Code}:za3 cut (.loop x)=za3 cut x:=id rfl
theorem zi4 {cut:List Nat} {c:Operand} {x y:Code}:za3 cut (.cond c x y)=false:=id rfl
theorem zi1 {cut:List Nat}:za3 cut .skip=false:=id rfl
theorem zna {cut:List Nat}:za3 cut .ret=false:=id rfl
theorem zi3 {cut:List Nat} {i:Nat}:za3 cut (.exit i)=false:=id rfl
theorem yf:type_of% (And.intro (And.intro @vc_cut @zej) (And.intro (And.intro @zga @zm9) (And.intro (And.intro @zi2 @zi4) (And.intro @zi1 (And.intro @zna @zi3))))):=And.intro (And.intro @vc_cut @zej) (And.intro (And.intro @zga @zm9) (And.intro (And.intro @zi2 @zi4) (And.intro @zi1 (And.intro @zna @zi3))))
open Go.Pl in
theorem qq {μ:Nat→Nat} {n:Nat} {f:Nat→List SV} {G:Nat→Int} (h:∀ j,j<n→f j=[.i .i64 (G j)]):soLe μ (.row false 1 n (zg w6 0 ((List.range n).map G))) (.row false 1 n f):=by
 refine zh fun j hj=>?_
 rw [h j hj]
 have:((List.range n).map G).getD j 0=G j:=by simp [List.getD,hj]
 simp only [zg,this]
 rfl
end Go.Vg
namespace Go.Vg
variable [Go.Vg.Glob]
/-- A function's end,where its state may first be read anew (what is nil as an empty row). -/
def FinX (te:TE) (k pl:Nat) (rs:List ResultVar) (Z:SV) (C:Ctx) (st:St):Prop:=∃ st',Ent k st st'∧FinE te k pl rs Z C st'
theorem FnK.ofX {cf:Cf} (hcf:cf.ok) {f:FuncId} {fn:Func} {c:Code} (hf:cf.P.funcs[f]?=some fn) (hb:fn.body=some c) (hname:(fn.name == "runtime.NumGoroutine")=false)
  (hnt:fn.ntmps=cf.nt) {args:List SV} {pre:Ctx} (hlen:args.length≤cf.nt) (hk:cf.k≤pre.length) {rs:List ResultVar} (hrs:fn.results.toList=rs) {Z:SV} {C:Ctx} (n:Nat)
  (h:vc cf (FinX cf.te cf.k pre.length rs Z C) n [.code c] ⟨zc7 0 args,pre⟩):FnK cf.P f cf.k args pre fun z c=>z=Z∧c=C:=by
 refine FnK.ofG hcf hf hb hname hnt hlen hk hrs (fun A σ0 st0 a w hAk _ hF hR0=>?_) n h
 obtain ⟨st,hEnt,l,⟨h1,h2⟩,h3,h4,h5,h6⟩:=hF
 obtain ⟨σ,hR⟩:=hEnt A σ0 a w hAk hR0
 rw [←hrs] at h4
 obtain ⟨z,v,hz,hv,hr⟩:=zdm (P:=cf.P) hcf.te hR h4
 subst hz
 exact ⟨Z,v,C,σ.ren (muL l st.ctx.length),⟨rfl,rfl⟩,hv,(xq _ _ _ _).1 hr,Rel.ren (st':=⟨[],C⟩) l h1 h2 h3 trivial hAk hR,h5,h6⟩
theorem FinX.of {te:TE} {k pl:Nat} {rs:List ResultVar} {Z:SV} {C:Ctx} {st:St} (h:FinE te k pl rs Z C st):FinX te k pl rs Z C st:=⟨st,Ent.refl _ _,h⟩
end Go.Vg
end
