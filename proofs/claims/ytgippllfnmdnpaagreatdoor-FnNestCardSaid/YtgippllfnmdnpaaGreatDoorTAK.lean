/- One state says no more than another: objects renumbered, what is not needed left out. -/
import Derived.Test.YtgippllfnmdnpaaGreatDoorTAJ
section
set_option linter.unusedVariables false
set_option linter.unusedSimpArgs false
set_option linter.unusedSectionVars false
set_option linter.unnecessarySimpa false
namespace Go.Vg
variable [Go.Vg.Glob]
open Go.RowKit
def vh (μ:Nat→Nat) (ctx:Ctx):List Nat→Ctx→Prop
 | [],[]=>True
 | g::l,o::r=>(match o with
  | none=>True
  | some o'=>match ctx.at g with
   | some o=>soLe μ o' o
   | none=>False)∧vh μ ctx l r
 | _,_=>False
def zi (μ:Nat→Nat) (env:List (Tmp×SV)):List (Tmp×SV)→Prop
 | []=>True
 | (t,x)::r=>look env t=x.mapH μ∧zi μ env r
theorem entEnv_get {μ:Nat→Nat} {env:List (Tmp×SV)}:∀ {e:List (Tmp×SV)},zi μ env e→∀ t,look e t=.u∨look env t=(look e t).mapH μ
 | [],_,t=>.inl rfl
 | (u,x)::r,h,t=>by
  simp only [look]
  by_cases hu:u=t
  ·rw [if_pos hu];subst hu;exact .inr h.1
  ·rw [if_neg hu];exact entEnv_get h.2 t
theorem zky {μ:Nat→Nat} {ctx:Ctx}:∀ {l:List Nat} {c:Ctx},vh μ ctx l c→l.length=c.length∧∀ i o',Ctx.at c i=some o'→∃ g o,l[i]?=some g∧ctx.at g=some o∧soLe μ o' o
 | [],[],_=>⟨rfl,fun i o' e=>by simp [Ctx.at] at e⟩
 | g::l,o::r,h=>by
  simp only [vh] at h
  obtain ⟨h1,h2⟩:=h
  obtain ⟨hl,hh⟩:=zky h2
  refine ⟨by simp [hl],fun i o' e=>?_⟩
  cases i with
  | zero=>
   rw [ye] at e
   subst e
   simp only at h1
   split at h1
   ·rename_i q hq;exact ⟨g,q,rfl,hq,h1⟩
   ·exact h1.elim
  | succ i=>
   rw [yi] at e
   obtain ⟨g',q,k1,k2,k3⟩:=hh i o' e
   exact ⟨g',q,by simpa using k1,k2,k3⟩
 | [],_::_,h=>by simp [vh] at h
 | _::_,[],h=>by simp [vh] at h
def zo9 (k:Nat) (l:List Nat):Bool:=(List.range k).all fun h=>l[h]?==some h
theorem Rel.ren {k:Nat} {st st':St} (l:List Nat) (hk:zo9 k l=true) (hnd:l.Nodup) (hctx:vh (muL l st.ctx.length) st.ctx l st'.ctx) (henv:zi (muL l st.ctx.length) st.env st'.env) {A:Amb} {σ:Asg} {a:Act} {w:World} (hAk:A.k=k) (hR:Rel A σ st a w):Rel A (σ.ren (muL l st.ctx.length)) st' a w:=by
 obtain ⟨hlen,hget⟩:=zky hctx
 generalize hμ:muL l st.ctx.length=μ at *
 have μold:∀ h g,l[h]?=some g→μ h=g:=by intro h g hg;rw [←hμ];simp [muL,hg]
 have μnew:∀ h,l.length≤h→st.ctx.length≤μ h:=by
  intro h hh
  rw [←hμ]
  simp [muL,List.getElem?_eq_none hh]
 have hid:∀ (h:Nat),h<k→l[h]?=some h:=by
  intro h hh
  unfold zo9 at hk
  rw [List.all_eq_true] at hk
  simpa using hk h (by simpa using hh)
 have hkl:k≤l.length:=by
  rcases Nat.eq_zero_or_pos k with h0 | h0
  ·omega
  ·have:=hid (k-1) (by omega)
   obtain ⟨h1,_⟩:=List.getElem?_eq_some_iff.1 this
   omega
 have inj:∀ (i j g:Nat),l[i]?=some g→l[j]?=some g→i=j:=by
  intro i j g hi hj
  obtain ⟨a1,a2⟩:=List.getElem?_eq_some_iff.1 hi
  obtain ⟨b1,b2⟩:=List.getElem?_eq_some_iff.1 hj
  exact List.getElem_inj (h₀:=a1) (h₁:=b1) hnd |>.1 (a2.trans b2.symm)
 refine ⟨hR.defers,hR.size,fun t=>?_,⟨fun i o' e=>?_,fun i j o' p' L L' hne e1 e2 hro s1 s2=>?_,fun h hh=>?_,fun h L hL=>hR.sat.inHeap _ L hL,hR.sat.frz,fun i o' L e hro hL=>?_,hR.sat.glb⟩,hR.fr,fun i o' L e hro hL=>?_,⟨fun h hh=>?_,hR.base.fzb,hR.base.fzn⟩, ?_⟩
 ·rcases entEnv_get henv t with h | h
  ·rw [h];simp [rel]
  ·have:=hR.env t
   rw [h] at this
   exact (xy σ μ _ _).1 this
 ·obtain ⟨g,o,h1,h2,h3⟩:=hget i o' e
  exact zhp (σ:=σ) (σ0:=σ.ren μ) (μ:=μ) (fun _=>rfl) rfl h3 (by rw [μold i g h1];exact hR.sat.obj g o h2)
 ·obtain ⟨g,o,h1,h2,h3⟩:=hget i o' e1
  obtain ⟨g',p,h1',h2',h3'⟩:=hget j p' e2
  have s1':σ g=some L:=by rw [←μold i g h1];exact s1
  have s2':σ g'=some L':=by rw [←μold j g' h1'];exact s2
  refine hR.sat.apart g g' o p L L' (fun e=>hne ?_) h2 h2' (h3.ro hro) s1' s2'
  subst e
  exact inj i j g h1 h1'
 ·exact hR.sat.beyond _ (μnew h (by rw [hlen];exact hh))
 ·obtain ⟨g,o,h1,h2,h3⟩:=hget i o' e
  exact hR.sat.frzA g o L h2 (h3.ro hro) (by rw [←μold i g h1];exact hL)
 ·obtain ⟨g,o,h1,h2,h3⟩:=hget i o' e
  exact hR.own g o L h2 (h3.ro hro) (by rw [←μold i g h1];exact hL)
 ·show σ (μ h)=A.σ0 h
  rw [μold h h (hid h (by omega))]
  exact hR.base.loc h hh
 ·show A.k≤st'.ctx.length
  rw [←hlen,hAk]
  exact hkl
theorem Ent.ren {k:Nat} {st st':St} (l:List Nat) (hk:zo9 k l=true) (hnd:l.Nodup) (hctx:vh (muL l st.ctx.length) st.ctx l st'.ctx) (henv:zi (muL l st.ctx.length) st.env st'.env):Ent k st st' :=
 fun A σ a w hAk hR=>⟨_,Rel.ren l hk hnd hctx henv hAk hR⟩
/-- A function's end: its results and its objects,numbered anew. -/
def FinE (te:TE) (k pl:Nat) (rs:List ResultVar) (Z:SV) (C:Ctx) (st:St):Prop:=
 ∃ l:List Nat,(zo9 k l=true∧l.Nodup)∧vh (muL l st.ctx.length) st.ctx l C∧zsp te st (fun z _=>z=Z.mapH (muL l st.ctx.length)) rs []∧zw k C∧pl≤C.length
theorem FnK.ofE {cf:Cf} (hcf:cf.ok) {f:FuncId} {fn:Func} {c:Code} (hf:cf.P.funcs[f]?=some fn) (hb:fn.body=some c) (hname:(fn.name == "runtime.NumGoroutine")=false)
  (hnt:fn.ntmps=cf.nt) {args:List SV} {pre:Ctx} (hlen:args.length≤cf.nt) (hk:cf.k≤pre.length) {rs:List ResultVar} (hrs:fn.results.toList=rs) {Z:SV} {C:Ctx} (n:Nat)
  (h:vc cf (FinE cf.te cf.k pre.length rs Z C) n [.code c] ⟨zdk 0 args,pre⟩):FnK cf.P f cf.k args pre fun z c=>z=Z∧c=C:=by
 refine FnK.ofG hcf hf hb hname hnt hlen hk hrs (fun A σ st a w hAk _ hF hR=>?_) n h
 obtain ⟨l,⟨h1,h2⟩,h3,h4,h5,h6⟩:=hF
 rw [←hrs] at h4
 obtain ⟨z,v,hz,hv,hr⟩:=zcm (P:=cf.P) hcf.te hR h4
 subst hz
 exact ⟨Z,v,C,σ.ren (muL l st.ctx.length),⟨rfl,rfl⟩,hv,(xy _ _ _ _).1 hr,Rel.ren (st':=⟨[],C⟩) l h1 h2 h3 trivial hAk hR,h5,h6⟩
/-- Nothing but what the function was handed matters any more,and that is as it was. -/
theorem Ent.tail {k:Nat} {env env':List (Tmp×SV)} {c:Ctx} (hc:c=[]) (hk:k=0) (henv:zi (muL [] c.length) env env'):Ent k ⟨env,c⟩ ⟨env',[]⟩:=by
 subst hk
 subst hc
 exact Ent.ren [] rfl List.nodup_nil (by simp [vh]) henv
theorem Ent.nil {env env':List (Tmp×SV)} {c:Ctx} (henv:zi (muL [] c.length) env env'):Ent 0 ⟨env,c⟩ ⟨env',[]⟩:=
 Ent.ren [] rfl List.nodup_nil (by simp [vh]) henv
/-- A loop's rule. -/
theorem yv.of {k:Nat} {st:St} {B:Sl ((St→Prop)×St)} {ι:Type} (S:ι→St) (m:ι→Nat) (i0:ι) (h0:Ent k st (S i0)) (h:∀ i,B.f (fun s=>∃ j,m j<m i∧Ent k s (S j),S i)):yv k st B:=
 ⟨ι,S,m,i0,h0,h⟩
theorem zgl.of {k:Nat} {B:Sl (St→Prop)} {R:Sl St} {ι:Type} (S:ι→St) (h:B.f (fun s=>∃ j,Ent k s (S j))) (h2:∀ j,R.f (S j)):zgl k B R:=
 ⟨ι,S,h,h2⟩
theorem zfq {n:Int}:vd (wl [.i .u8 n] 1) 0 1=[UInt8.ofNat n.toNat]:=by
 simp [vd,wl,List.range_succ]
theorem tmod_nat (m k:Nat):(m:Int).tmod (k:Int)=((m % k:Nat):Int):=by
 rw [Int.tmod_eq_emod_of_nonneg (by omega)];rfl
end Go.Vg
end
section
set_option linter.unusedVariables false
set_option linter.unusedSimpArgs false
set_option linter.unusedSectionVars false
set_option linter.unnecessarySimpa false
namespace Go.Vg
variable [Go.Vg.Glob]
theorem XC:type_of% (And.intro (And.intro (And.intro (And.intro (And.intro (And.intro (And.intro (@vc_nil) (@vc_blk)) (And.intro (@zv4) (And.intro (@zv5) (@vc_ret)))) (And.intro (And.intro (@vc_seq) (@znb)) (And.intro (@zv7) (And.intro (@zr0) (@zv6))))) (And.intro (And.intro (And.intro (@zrz) (@zsu)) (And.intro (@zn1) (And.intro (@zn0) (@znz)))) (And.intro (And.intro (@zv3) (And.intro (@zjd) (@zgy))) (And.intro (@zv8) (And.intro (@XL_nil) (@z0g)))))) (And.intro (And.intro (And.intro (And.intro (@zuc) (@zrk)) (And.intro (@zgt) (And.intro (@zh7) (@ung_gd)))) (And.intro (And.intro (@ung_b) (And.intro (@ung_i) (@ung_s))) (And.intro (@zwd) (And.intro (@zwc) (@zr2))))) (And.intro (And.intro (And.intro (@ung_mp) (@zwe)) (And.intro (@zwb) (And.intro (@ung_fs) (@ung_fp)))) (And.intro (And.intro (@zo7) (And.intro (@ztp) (@zy6))) (And.intro (@zto) (And.intro (@zy5) (@zo5))))))) (And.intro (And.intro (And.intro (And.intro (And.intro (@ifB_b) (@ifI_i)) (And.intro (@ifS_s) (And.intro (@zo4) (@zb9)))) (And.intro (And.intro (@zea) (@zsy)) (And.intro (@zov) (And.intro (@zkj) (@zso))))) (And.intro (And.intro (And.intro (@zsn) (@znr)) (And.intro (@zx8) (And.intro (@oLen_s) (@zs3)))) (And.intro (And.intro (@zoc) (And.intro (@zpz) (@ziu))) (And.intro (@zpy) (And.intro (@zc6) (@zc5)))))) (And.intro (And.intro (And.intro (And.intro (@zk7) (@zf6)) (And.intro (@zt5) (And.intro (@zt6) (@zk9)))) (And.intro (And.intro (@zk5) (And.intro (@zt9) (@zp0))) (And.intro (@zua) (And.intro (@zla) (@zk4))))) (And.intro (And.intro (And.intro (@zj5) (@zhq)) (And.intro (@zhr) (And.intro (@zp1) (@zem)))) (And.intro (And.intro (@zt7) (And.intro (@zt8) (@zk8))) (And.intro (@zpu) (And.intro (@zpt) (@zv2)))))))) (And.intro (And.intro (And.intro (And.intro (And.intro (And.intro (@zm7) (@zrl)) (And.intro (@zs6) (And.intro (@zs5) (@zs8)))) (And.intro (And.intro (@zs7) (@zs4)) (And.intro (@zro) (And.intro (@zm8) (@zrn))))) (And.intro (And.intro (And.intro (@zrm) (@zx4)) (And.intro (@zo6) (And.intro (@zsz) (@zoa)))) (And.intro (And.intro (@zf7) (And.intro (@zci) (@zc4))) (And.intro (@zob) (And.intro (@zx5) (@oSrc_s)))))) (And.intro (And.intro (And.intro (And.intro (@zs0) (@zkp)) (And.intro (@zoe) (And.intro (@zs9) (@ziv)))) (And.intro (And.intro (@zri) (And.intro (@zrj) (@zx6))) (And.intro (@zx7) (And.intro (@zs1) (@zs2))))) (And.intro (And.intro (And.intro (@zis) (@zx2)) (And.intro (@zx3) (And.intro (@oUpd_s) (@oUpd_i)))) (And.intro (And.intro (@zc3) (And.intro (@zit) (@oMk_s))) (And.intro (@oMk_i) (And.intro (@zo8) (@zf5))))))) (And.intro (And.intro (And.intro (And.intro (And.intro (@zrw) (@zjs)) (And.intro (@zrq) (And.intro (@zje) (@zru)))) (And.intro (And.intro (@zjj) (And.intro (@zrt) (@zrs))) (And.intro (@zrv) (And.intro (@zrp) (@zrr))))) (And.intro (And.intro (And.intro (@zjp) (@zjg)) (And.intro (@zjk) (And.intro (@zjl) (@zjm)))) (And.intro (And.intro (@zjn) (And.intro (@zjt) (@zjo))) (And.intro (@zjf) (And.intro (@zjq) (@zjh)))))) (And.intro (And.intro (And.intro (And.intro (@zjr) (@zji)) (And.intro (@znv) (And.intro (@znu) (@zzq)))) (And.intro (And.intro (@XEs_q0) (And.intro (@XEs_q1) (@z0h))) (And.intro (@z0j) (And.intro (@z0i) (@z0f))))) (And.intro (And.intro (And.intro (@zub) (@ztw)) (And.intro (@zuf) (And.intro (@zue) (@XDs_q0)))) (And.intro (And.intro (@XDs_q1) (And.intro (@z0k) (@zud))) (And.intro (@XDs_sw) (And.intro (@zt4) (@zt3))))))))):=And.intro (And.intro (And.intro (And.intro (And.intro (And.intro (And.intro (@vc_nil) (@vc_blk)) (And.intro (@zv4) (And.intro (@zv5) (@vc_ret)))) (And.intro (And.intro (@vc_seq) (@znb)) (And.intro (@zv7) (And.intro (@zr0) (@zv6))))) (And.intro (And.intro (And.intro (@zrz) (@zsu)) (And.intro (@zn1) (And.intro (@zn0) (@znz)))) (And.intro (And.intro (@zv3) (And.intro (@zjd) (@zgy))) (And.intro (@zv8) (And.intro (@XL_nil) (@z0g)))))) (And.intro (And.intro (And.intro (And.intro (@zuc) (@zrk)) (And.intro (@zgt) (And.intro (@zh7) (@ung_gd)))) (And.intro (And.intro (@ung_b) (And.intro (@ung_i) (@ung_s))) (And.intro (@zwd) (And.intro (@zwc) (@zr2))))) (And.intro (And.intro (And.intro (@ung_mp) (@zwe)) (And.intro (@zwb) (And.intro (@ung_fs) (@ung_fp)))) (And.intro (And.intro (@zo7) (And.intro (@ztp) (@zy6))) (And.intro (@zto) (And.intro (@zy5) (@zo5))))))) (And.intro (And.intro (And.intro (And.intro (And.intro (@ifB_b) (@ifI_i)) (And.intro (@ifS_s) (And.intro (@zo4) (@zb9)))) (And.intro (And.intro (@zea) (@zsy)) (And.intro (@zov) (And.intro (@zkj) (@zso))))) (And.intro (And.intro (And.intro (@zsn) (@znr)) (And.intro (@zx8) (And.intro (@oLen_s) (@zs3)))) (And.intro (And.intro (@zoc) (And.intro (@zpz) (@ziu))) (And.intro (@zpy) (And.intro (@zc6) (@zc5)))))) (And.intro (And.intro (And.intro (And.intro (@zk7) (@zf6)) (And.intro (@zt5) (And.intro (@zt6) (@zk9)))) (And.intro (And.intro (@zk5) (And.intro (@zt9) (@zp0))) (And.intro (@zua) (And.intro (@zla) (@zk4))))) (And.intro (And.intro (And.intro (@zj5) (@zhq)) (And.intro (@zhr) (And.intro (@zp1) (@zem)))) (And.intro (And.intro (@zt7) (And.intro (@zt8) (@zk8))) (And.intro (@zpu) (And.intro (@zpt) (@zv2)))))))) (And.intro (And.intro (And.intro (And.intro (And.intro (And.intro (@zm7) (@zrl)) (And.intro (@zs6) (And.intro (@zs5) (@zs8)))) (And.intro (And.intro (@zs7) (@zs4)) (And.intro (@zro) (And.intro (@zm8) (@zrn))))) (And.intro (And.intro (And.intro (@zrm) (@zx4)) (And.intro (@zo6) (And.intro (@zsz) (@zoa)))) (And.intro (And.intro (@zf7) (And.intro (@zci) (@zc4))) (And.intro (@zob) (And.intro (@zx5) (@oSrc_s)))))) (And.intro (And.intro (And.intro (And.intro (@zs0) (@zkp)) (And.intro (@zoe) (And.intro (@zs9) (@ziv)))) (And.intro (And.intro (@zri) (And.intro (@zrj) (@zx6))) (And.intro (@zx7) (And.intro (@zs1) (@zs2))))) (And.intro (And.intro (And.intro (@zis) (@zx2)) (And.intro (@zx3) (And.intro (@oUpd_s) (@oUpd_i)))) (And.intro (And.intro (@zc3) (And.intro (@zit) (@oMk_s))) (And.intro (@oMk_i) (And.intro (@zo8) (@zf5))))))) (And.intro (And.intro (And.intro (And.intro (And.intro (@zrw) (@zjs)) (And.intro (@zrq) (And.intro (@zje) (@zru)))) (And.intro (And.intro (@zjj) (And.intro (@zrt) (@zrs))) (And.intro (@zrv) (And.intro (@zrp) (@zrr))))) (And.intro (And.intro (And.intro (@zjp) (@zjg)) (And.intro (@zjk) (And.intro (@zjl) (@zjm)))) (And.intro (And.intro (@zjn) (And.intro (@zjt) (@zjo))) (And.intro (@zjf) (And.intro (@zjq) (@zjh)))))) (And.intro (And.intro (And.intro (And.intro (@zjr) (@zji)) (And.intro (@znv) (And.intro (@znu) (@zzq)))) (And.intro (And.intro (@XEs_q0) (And.intro (@XEs_q1) (@z0h))) (And.intro (@z0j) (And.intro (@z0i) (@z0f))))) (And.intro (And.intro (And.intro (@zub) (@ztw)) (And.intro (@zuf) (And.intro (@zue) (@XDs_q0)))) (And.intro (And.intro (@XDs_q1) (And.intro (@z0k) (@zud))) (And.intro (@XDs_sw) (And.intro (@zt4) (@zt3))))))))
theorem XV:type_of% (And.intro (And.intro (And.intro (And.intro (And.intro (And.intro (@zj7) (And.intro (@zht) (@zj8))) (And.intro (And.intro (@zzw) (@zzv)) (And.intro (@nst_eq) (@zkz)))) (And.intro (And.intro (And.intro (@zk0) (@gz_f)) (And.intro (@gz_t) (@mkgd_b))) (And.intro (And.intro (@mkgd_i) (@mkgd_s)) (And.intro (@ztg) (@zte))))) (And.intro (And.intro (And.intro (@zoh) (And.intro (@zyl) (@zth))) (And.intro (And.intro (@ztd) (@zyn)) (And.intro (@zyo) (@zym)))) (And.intro (And.intro (And.intro (@zr5) (@zr4)) (And.intro (@zjv) (@znc))) (And.intro (And.intro (@zkc) (@zol)) (And.intro (@ev_tmp) (@ev_int)))))) (And.intro (And.intro (And.intro (And.intro (@zzi) (And.intro (@ev_str) (@zzg))) (And.intro (And.intro (@zzh) (@zon)) (And.intro (@zwg) (@zpx)))) (And.intro (And.intro (And.intro (@znj) (@zss)) (And.intro (@znx) (@zyz))) (And.intro (And.intro (@zsr) (@zxd)) (And.intro (@opsGet) (@zib))))) (And.intro (And.intro (And.intro (And.intro (@zks) (@zkf)) (And.intro (@zom) (@zng))) (And.intro (And.intro (@zsa) (@zoi)) (And.intro (@zoj) (@zo3)))) (And.intro (And.intro (And.intro (@zhu) (@zmz)) (And.intro (@and_true) (@true_and))) (And.intro (And.intro (@ne_eq.{1}) (@List.nil_append.{0})) (And.intro (@List.cons_append.{0}) (@List.length_nil.{0}))))))) (And.intro (And.intro (And.intro (And.intro (And.intro (@List.length_cons.{0}) (And.intro (@List.getElem?_cons_zero.{0}) (@List.getElem?_cons_succ.{0}))) (And.intro (And.intro (@Nat.zero_add) (@List.getD_cons_zero.{0})) (And.intro (@List.getD_cons_succ.{0}) (@ye)))) (And.intro (And.intro (And.intro (@yi) (@List.drop_zero.{0})) (And.intro (@List.drop_succ_cons.{0}) (@List.take_succ_cons.{0}))) (And.intro (And.intro (@List.take_zero.{0}) (@Bool.false_eq_true)) (And.intro (@imp_self) (@Bool.true_and))))) (And.intro (And.intro (And.intro (And.intro (@Bool.and_true) (@Bool.not_true)) (And.intro (@Bool.not_false) (@cond_true.{1}))) (And.intro (And.intro (@cond_false.{1}) (@List.cons.injEq.{0})) (And.intro (@decide_eq_true_eq) (@decide_eq_false_iff_not)))) (And.intro (And.intro (And.intro (@List.set_cons_zero.{0}) (@List.set_cons_succ.{0})) (And.intro (@Int.toNat_natCast) (@List.take_length.{0}))) (And.intro (And.intro (@Int.toNat_zero) (@or_true)) (And.intro (@true_or) (@beq_self_eq_true.{0})))))) (And.intro (And.intro (And.intro (And.intro (@Option.bind_some.{0,0}) (And.intro (@Option.bind_none.{0,0}) (@List.contains_nil.{0}))) (And.intro (And.intro (@List.contains_cons.{0}) (@List.all_cons.{0})) (And.intro (@List.all_nil.{0}) (@zfq)))) (And.intro (And.intro (And.intro (@List.append_nil.{0}) (@List.length_append.{0})) (And.intro (@Option.isSome_some.{0}) (@Nat.lt_add_one))) (And.intro (And.intro (@if_true.{1}) (@if_false.{1})) (And.intro (@List.map_cons.{0,0}) (@List.map_nil.{0,0}))))) (And.intro (And.intro (And.intro (And.intro (@not_false_eq_true) (@Bool.or_true)) (And.intro (@Bool.true_or) (@Bool.false_or))) (And.intro (And.intro (@Bool.or_false) (@Bool.and_self)) (And.intro (@Bool.or_self) (@za8)))) (And.intro (And.intro (And.intro (@zb6) (@uh)) (And.intro (@Nat.zero_le) (@List.length_map.{0,0}))) (And.intro (And.intro (@decide_true) (@decide_false)) (And.intro (@false_implies) (@true_implies)))))))):=And.intro (And.intro (And.intro (And.intro (And.intro (And.intro (@zj7) (And.intro (@zht) (@zj8))) (And.intro (And.intro (@zzw) (@zzv)) (And.intro (@nst_eq) (@zkz)))) (And.intro (And.intro (And.intro (@zk0) (@gz_f)) (And.intro (@gz_t) (@mkgd_b))) (And.intro (And.intro (@mkgd_i) (@mkgd_s)) (And.intro (@ztg) (@zte))))) (And.intro (And.intro (And.intro (@zoh) (And.intro (@zyl) (@zth))) (And.intro (And.intro (@ztd) (@zyn)) (And.intro (@zyo) (@zym)))) (And.intro (And.intro (And.intro (@zr5) (@zr4)) (And.intro (@zjv) (@znc))) (And.intro (And.intro (@zkc) (@zol)) (And.intro (@ev_tmp) (@ev_int)))))) (And.intro (And.intro (And.intro (And.intro (@zzi) (And.intro (@ev_str) (@zzg))) (And.intro (And.intro (@zzh) (@zon)) (And.intro (@zwg) (@zpx)))) (And.intro (And.intro (And.intro (@znj) (@zss)) (And.intro (@znx) (@zyz))) (And.intro (And.intro (@zsr) (@zxd)) (And.intro (@opsGet) (@zib))))) (And.intro (And.intro (And.intro (And.intro (@zks) (@zkf)) (And.intro (@zom) (@zng))) (And.intro (And.intro (@zsa) (@zoi)) (And.intro (@zoj) (@zo3)))) (And.intro (And.intro (And.intro (@zhu) (@zmz)) (And.intro (@and_true) (@true_and))) (And.intro (And.intro (@ne_eq.{1}) (@List.nil_append.{0})) (And.intro (@List.cons_append.{0}) (@List.length_nil.{0}))))))) (And.intro (And.intro (And.intro (And.intro (And.intro (@List.length_cons.{0}) (And.intro (@List.getElem?_cons_zero.{0}) (@List.getElem?_cons_succ.{0}))) (And.intro (And.intro (@Nat.zero_add) (@List.getD_cons_zero.{0})) (And.intro (@List.getD_cons_succ.{0}) (@ye)))) (And.intro (And.intro (And.intro (@yi) (@List.drop_zero.{0})) (And.intro (@List.drop_succ_cons.{0}) (@List.take_succ_cons.{0}))) (And.intro (And.intro (@List.take_zero.{0}) (@Bool.false_eq_true)) (And.intro (@imp_self) (@Bool.true_and))))) (And.intro (And.intro (And.intro (And.intro (@Bool.and_true) (@Bool.not_true)) (And.intro (@Bool.not_false) (@cond_true.{1}))) (And.intro (And.intro (@cond_false.{1}) (@List.cons.injEq.{0})) (And.intro (@decide_eq_true_eq) (@decide_eq_false_iff_not)))) (And.intro (And.intro (And.intro (@List.set_cons_zero.{0}) (@List.set_cons_succ.{0})) (And.intro (@Int.toNat_natCast) (@List.take_length.{0}))) (And.intro (And.intro (@Int.toNat_zero) (@or_true)) (And.intro (@true_or) (@beq_self_eq_true.{0})))))) (And.intro (And.intro (And.intro (And.intro (@Option.bind_some.{0,0}) (And.intro (@Option.bind_none.{0,0}) (@List.contains_nil.{0}))) (And.intro (And.intro (@List.contains_cons.{0}) (@List.all_cons.{0})) (And.intro (@List.all_nil.{0}) (@zfq)))) (And.intro (And.intro (And.intro (@List.append_nil.{0}) (@List.length_append.{0})) (And.intro (@Option.isSome_some.{0}) (@Nat.lt_add_one))) (And.intro (And.intro (@if_true.{1}) (@if_false.{1})) (And.intro (@List.map_cons.{0,0}) (@List.map_nil.{0,0}))))) (And.intro (And.intro (And.intro (And.intro (@not_false_eq_true) (@Bool.or_true)) (And.intro (@Bool.true_or) (@Bool.false_or))) (And.intro (And.intro (@Bool.or_false) (@Bool.and_self)) (And.intro (@Bool.or_self) (@za8)))) (And.intro (And.intro (And.intro (@zb6) (@uh)) (And.intro (@Nat.zero_le) (@List.length_map.{0,0}))) (And.intro (And.intro (@decide_true) (@decide_false)) (And.intro (@false_implies) (@true_implies)))))))
open Classical in
/-- A table's zdk: by parameters,from which the arguments are made. -/
noncomputable def peR {α:Type} (A:α→List SV) (p:α→Prop) (z:α→SV):PE:=fun args=>if h:∃ i,A i=args then some (p (Classical.choose h),z (Classical.choose h)) else none
theorem yh {α:Type} {A:α→List SV} {p:α→Prop} {z:α→SV} (h:∀ i j,A i=A j→i=j) (i:α):peR A p z (A i)=some (p i,z i):=by
 have hx:∃ j,A j=A i:=⟨i,rfl⟩
 unfold peR
 rw [dif_pos hx,h _ _ (Classical.choose_spec hx)]
theorem yl {P:Program} {f:FuncId} {α:Type} {A:α→List SV} {p:α→Prop} {z:α→SV} (h:∀ i,p i→PF P f (A i) (z i)):PE1 P f (peR A p z):=by
 intro args q y hq hp
 unfold peR at hq
 split at hq
 ·rename_i hx
  simp only [Option.some.injEq,Prod.mk.injEq] at hq
  obtain ⟨rfl,rfl⟩:=hq
  have:=(h _ hp).call
  rw [Classical.choose_spec hx] at this
  exact .inl this
 ·cases hq
theorem zfc {α β:Type} {f:α→β} (h:∀ a b,f a=f b→a=b) {l m:List α}:l.map f=m.map f↔l=m:=by
 refine ⟨fun e=>?_,fun e=>by rw [e]⟩
 induction l generalizing m with
 | nil=>cases m<;>simp_all
 | cons x xs ih=>
  cases m with
  | nil=>simp at e
  | cons y ys=>
   simp only [List.map_cons,List.cons.injEq] at e
   rw [h _ _ e.1,ih e.2]
end Go.Vg
end
section
set_option linter.unusedVariables false
set_option linter.unusedSimpArgs false
set_option linter.unusedSectionVars false
set_option linter.unnecessarySimpa false
namespace Go.Pl
def dec (n:Nat):List UInt8:=if h:n<10 then [UInt8.ofNat (48+n)] else dec (n / 10)++[UInt8.ofNat (48+n % 10)]
termination_by n
decreasing_by omega
theorem dec_eq (n:Nat):dec n=if n<10 then [UInt8.ofNat (48+n)] else dec (n / 10)++[UInt8.ofNat (48+n % 10)]:=by
 rw [dec];split<;>rfl
theorem zvi (n:Nat):(dec n).length≤n+1:=by
 induction n using Nat.strongRecOn with
 | _ n ih=>
  rw [dec_eq]
  split
  ·simp
  ·have:=ih (n / 10) (by omega)
   simp
   omega
/-- What is behind the first digits: 'm' is still to be written ahead of 'out'. -/
def ziw (n m:Nat) (out:List UInt8):Prop:=m≤n∧if m=0 then out=dec n else dec m++out=dec n
theorem ziw.step {n m:Nat} {out:List UInt8} (h:ziw n m out) (hm:0<m):ziw n (m / 10) (UInt8.ofNat (48+m % 10)::out):=by
 unfold ziw at *
 rw [if_neg (by omega)] at h
 refine ⟨by omega, ?_⟩
 rw [dec_eq m] at h
 split
 ·rename_i h0
  rw [if_pos (by omega)] at h
  rw [show m % 10=m by omega]
  simpa using h.2
 ·rw [if_neg (by omega)] at h
  simpa using h.2
theorem ziw.len {n m:Nat} {out:List UInt8} (h:ziw n m out):out.length≤n+1:=by
 have:=zvi n
 unfold ziw at h
 split at h
 ·rw [h.2];exact this
 ·have h2:=congrArg List.length h.2
  simp at h2
  omega
/-- A row of marks. -/
def mkL {α:Type} (g:Int→α) (c:Int):Int→Nat→List α
 | _,0=>[]
 | k,n+1=>g k::mkL g c (k+c) n
theorem zcs {α:Type} {g:Int→α} {c:Int}:∀ {n:Nat} {k:Int},(mkL g c k n).length=n
 | 0,_=>rfl
 | n+1,k=>by simp [mkL,zcs]
theorem zyp {α:Type} {g:Int→α} {c:Int} (z:α):∀ {n:Nat} {k:Int} {j:Nat},j<n→(mkL g c k n).getD j z=g (k+c * j)
 | 0,_,j,h=>by omega
 | n+1,k,0,_=>by simp [mkL]
 | n+1,k,j+1,h=>by
  have:=zyp (g:=g) (c:=c) z (n:=n) (k:=k+c) (j:=j) (by omega)
  simp only [mkL,List.getD_cons_succ,this]
  congr 1
  rw [Int.natCast_add,Int.mul_add]
  omega
/-- A row of which a beginning is marked. -/
def mkd {α:Type} (g:Int→α) (c k:Int) (a:List α) (i:Nat):List α:=mkL g c k i++a.drop i
theorem mkd_get {α:Type} {g:Int→α} {c k:Int} {a:List α} {i:Nat} (z:α) (j:Nat):(mkd g c k a i).getD j z=if j<i then g (k+c * j) else a.getD j z:=by
 unfold mkd
 split
 ·rename_i h
  have:=zyp (g:=g) (c:=c) z (n:=i) (k:=k) h
  rw [←this]
  simp only [List.getD_eq_getElem?_getD]
  rw [List.getElem?_append_left (by rw [zcs];exact h)]
 ·rename_i h
  simp only [List.getD_eq_getElem?_getD]
  rw [List.getElem?_append_right (by rw [zcs];omega),zcs,List.getElem?_drop,show i+(j-i)=j by omega]
end Go.Pl
end
section
set_option linter.unusedVariables false
set_option linter.unusedSimpArgs false
set_option linter.unusedSectionVars false
set_option linter.unnecessarySimpa false
namespace Go.Vg
variable [Go.Vg.Glob]
def zg {α:Type} (enc:α→List SV) (z:α) (xs:List α):Nat→List SV:=fun j=>enc (xs.getD j z)
theorem w8 {α:Type} {enc:α→List SV} {z:α} {xs:List α} {n:Nat} (h:n=xs.length):jy (zg enc z xs) 0 n=xs.map enc:=by
 subst h
 apply List.ext_getElem?
 intro j
 unfold jy zg
 by_cases hj:j<xs.length
 ·simp [hj,List.getD]
 ·simp [hj]
theorem rowE_part {α:Type} {enc:α→List SV} {z:α} {xs:List α} {lo n:Nat} (h:lo+n≤xs.length):jy (zg enc z xs) lo n=((xs.drop lo).take n).map enc:=by
 apply List.ext_getElem?
 intro j
 unfold jy zg
 by_cases hj:j<n
 ·have h1:lo+j<xs.length:=by omega
  simp [hj,List.getD,List.getElem?_eq_getElem h1,h1,List.getElem?_take]
 ·simp [hj,List.getElem?_take]
theorem zak {α:Type} {enc:α→List SV} {z:α} {xs:List α} {y:α} {sz n:Nat} {f:Nat→List SV} (hn:n=xs.length) (hf:∀ j,j<n→f j=zg enc z xs j) (hl:(enc y).length=sz) {i:Nat} (hi:i<n+1) :
  zgi n f (wl (enc y) sz) i=zg enc z (xs++[y]) i:=by
 subst hn
 unfold zgi zg
 split
 ·rename_i h
  rw [hf i h]
  simp [zg,List.getD,List.getElem?_append_left h]
 ·have:i=xs.length:=by omega
  subst this
  have h1:(xs++[y]).getD xs.length z=y:=by simp [List.getD]
  rw [h1,Nat.sub_self]
  simp only [wl,Nat.zero_mul,List.drop_zero]
  rw [←hl,List.take_length]
theorem rowE_app {α:Type} {enc:α→List SV} {z:α} {xs ys:List α} {n m:Nat} {f g:Nat→List SV} (hn:n=xs.length) (hm:m=ys.length) (hf:∀ j,j<n→f j=zg enc z xs j) (hg:∀ j,j<m→g j=zg enc z ys j) {i:Nat} (hi:i<n+m) :
  zgi n f g i=zg enc z (xs++ys) i:=by
 subst hn hm
 unfold zgi
 split
 ·rename_i h
  rw [hf i h]
  simp [zg,List.getD,List.getElem?_append_left h]
 ·rename_i h
  rw [hg _ (by omega)]
  simp only [zg,List.getD,List.getElem?_append_right (show xs.length≤i by omega)]
theorem zbc {α:Type} (enc:α→List SV) (xs:List α) (i:Nat) (z:α):(xs.map enc).getD i (enc z)=enc (xs.getD i z):=by
 simp only [List.getD_eq_getElem?_getD,List.getElem?_map]
 cases xs[i]?<;>rfl
theorem zh {μ:Nat→Nat} {sz n:Nat} {f g:Nat→List SV} (h:∀ i,i<n→jb μ (g i)=f i):soLe μ (.row false sz n g) (.row false sz n f):=⟨id,rfl,rfl,Nat.le_refl _,rfl,h⟩
theorem kn {μ:Nat→Nat} {sz n m:Nat} {f g:Nat→List SV} (hn:n≤m) (h:∀ i,i<n→jb μ (g i)=f i):soLe μ (.row false sz n g) (.row false sz m f):=⟨id,rfl,rfl,hn,rfl,fun i hi=>h i hi⟩
theorem za {μ:Nat→Nat} {l m:List SV} (h:jb μ l=m):soLe μ (.blk false l) (.blk false m):=⟨id,rfl,by simp [SO.sz,←h,zmf],Nat.le_refl _,rfl,fun i _=>h⟩
mutual
theorem zkg {μ:Nat→Nat}:∀ {x:SV},x.plain=true→x.mapH μ=x
 | .b _,_=>rfl
 | .i _ _,_=>rfl
 | .s _,_=>rfl
 | .nils,_=>rfl
 | .fn _,_=>rfl
 | .u,_=>rfl
 | .fs _ _,_=>rfl
 | .fp _ _,_=>rfl
 | .ptr _ _ _,h=>by simp [SV.plain] at h
 | .slc _ _ _,h=>by simp [SV.plain] at h
 | .mp _,h=>by simp [SV.plain] at h
 | .agg l,h=>by simp only [SV.mapH];rw [q6 (by simpa [SV.plain] using h)]
 | .tup l,h=>by simp only [SV.mapH];rw [q6 (by simpa [SV.plain] using h)]
 | .gd _ x,h=>by simp only [SV.mapH];rw [zkg (by simpa [SV.plain] using h)]
theorem q6 {μ:Nat→Nat}:∀ {l:List SV},plainL l=true→jb μ l=l
 | [],_=>rfl
 | x::xs,h=>by
  simp only [plainL,Bool.and_eq_true] at h
  simp only [jb,zkg h.1,q6 h.2]
end
theorem Ent.ren1 {k:Nat} {st st':St} (l:List Nat) (h:zo9 k l=true∧l.Nodup) (hctx:vh (muL l st.ctx.length) st.ctx l st'.ctx) (henv:zi (muL l st.ctx.length) st.env st'.env):Ent k st st':=Ent.ren l h.1 h.2 hctx henv
theorem qo {y:List SV} {sz:Nat} (h:y.all q7=true) (hl:y.length=sz):∀ j,j<1→(wl y sz j).all q7=true∧(wl y sz j).length=sz:=by
 intro j hj
 obtain rfl:j=0:=by omega
 have:wl y sz 0=y:=by simp only [wl,Nat.zero_mul,List.drop_zero];rw [←hl,List.take_length]
 rw [this]
 exact ⟨h,hl⟩
theorem jo {μ:Nat→Nat} {α:Type} {enc:α→List SV} {z:α} {xs:List α} {y:α} {sz n:Nat} {f:Nat→List SV} (hp:∀ x,plainL (enc x)=true) (hn:n=xs.length) (hf:∀ j,j<n→f j=zg enc z xs j) (hl:(enc y).length=sz) :
  soLe μ (.row false sz (xs++[y]).length (zg enc z (xs++[y]))) (.row false sz (n+1) (zgi n f fun j=>wl (enc y) sz j)):=
 kn (by simp [hn]) fun i hi=>by
  rw [zak hn hf hl (by simp at hi;omega)]
  exact q6 (hp _)
theorem zlk {μ:Nat→Nat} {α:Type} {enc:α→List SV} {z:α} {sz:Nat} {f:Nat→List SV}:soLe μ (.row false sz ([]:List α).length (zg enc z [])) (.row false sz 0 f):=
 zh fun i hi=>absurd hi (Nat.not_lt_zero _)
theorem zb {μ:Nat→Nat} {α:Type} {enc:α→List SV} {z:α} {xs:List α} {sz n:Nat} (hp:∀ x,plainL (enc x)=true):soLe μ (.row false sz n (zg enc z xs)) (.row false sz n (zg enc z xs)):=
 zh fun i hi=>q6 (hp _)
open Go.Pl in
theorem soLe_mark {μ:Nat→Nat} {α:Type} {enc:α→List SV} {z:α} {g:Int→α} {c k:Int} {a:List α} {i sz n:Nat} {f:Nat→List SV} (hp:∀ x,plainL (enc x)=true) (hf:∀ j,j<n→f j=if j=i then enc (g (k+c * i)) else zg enc z (mkd g c k a i) j) :
  soLe μ (.row false sz n (zg enc z (mkd g c k a (i+1)))) (.row false sz n f):=by
 refine zh fun j hj=>?_
 rw [hf j hj]
 simp only [zg,mkd_get]
 rw [q6 (hp _)]
 by_cases h1:j=i
 ·subst h1
  rw [if_pos (by omega),if_pos rfl]
 ·rw [if_neg h1]
  by_cases h2:j<i
  ·rw [if_pos (by omega),if_pos h2]
  ·rw [if_neg (by omega),if_neg h2]
def zbi (b:List UInt8):List SV:=[.s b]
def wd (n:Int):List SV:=[.i .i64 n]
def qy (b:Bool):List SV:=[.b b]
def u6 (b:UInt8):List SV:=[.i .u8 b.toNat]
theorem zsb {l m:List (List UInt8)}:l.map zbi=m.map zbi↔l=m:=zfc fun a b h=>by simpa [zbi] using h
theorem zml {l m:List Int}:l.map wd=m.map wd↔l=m:=zfc fun a b h=>by simpa [wd] using h
theorem booc_inj {l m:List Bool}:l.map qy=m.map qy↔l=m:=zfc fun a b h=>by simpa [qy] using h
theorem zpd (a:List (List UInt8)) (i:Nat):(a.map zbi).getD i [.s []]=[.s (a.getD i [])]:=zbc zbi a i []
theorem zpf (a:List Int) (i:Nat):(a.map wd).getD i [.i .i64 0]=[.i .i64 (a.getD i 0)]:=zbc wd a i 0
theorem zph (a:List Bool) (i:Nat):(a.map qy).getD i [.b false]=[.b (a.getD i false)]:=zbc qy a i false
theorem zpg (a:List UInt8) (i:Nat):(a.map u6).getD i [.i .u8 0]=[.i .u8 (a.getD i 0).toNat]:=zbc u6 a i 0
theorem zsj {a:List (List UInt8)} {i:Nat}:zg zbi [] a i=[.s (a.getD i [])]:=id rfl
theorem zsk {a:List Int} {i:Nat}:zg wd 0 a i=[.i .i64 (a.getD i 0)]:=id rfl
theorem zsm {a:List Bool} {i:Nat}:zg qy false a i=[.b (a.getD i false)]:=id rfl
theorem zsl {a:List UInt8} {i:Nat}:zg u6 0 a i=[.i .u8 (a.getD i 0).toNat]:=id rfl
theorem rowH {α:Type} {enc:α→List SV} {z:α} (hp:∀ x,plainL (enc x)=true) {μ:Nat→Nat} {r:Bool} {sz n:Nat} {a:List α}:SO.mapH μ (.row r sz n (zg enc z a))=.row r sz n (zg enc z a):=by
 simp only [SO.mapH]
 congr 1
 funext i
 exact q6 (hp _)
theorem zsf {μ:Nat→Nat} {r:Bool} {sz n:Nat} {a:List (List UInt8)}:SO.mapH μ (.row r sz n (zg zbi [] a))=.row r sz n (zg zbi [] a):=rowH fun _=>rfl
theorem zsg {μ:Nat→Nat} {r:Bool} {sz n:Nat} {a:List Int}:SO.mapH μ (.row r sz n (zg wd 0 a))=.row r sz n (zg wd 0 a):=rowH fun _=>rfl
theorem zsi {μ:Nat→Nat} {r:Bool} {sz n:Nat} {a:List Bool}:SO.mapH μ (.row r sz n (zg qy false a))=.row r sz n (zg qy false a):=rowH fun _=>rfl
theorem zsh {μ:Nat→Nat} {r:Bool} {sz n:Nat} {a:List UInt8}:SO.mapH μ (.row r sz n (zg u6 0 a))=.row r sz n (zg u6 0 a):=rowH fun _=>rfl
theorem zn9 {μ:Nat→Nat} {o:SO}:Option.map (SO.mapH μ) (some o)=some (o.mapH μ):=id rfl
theorem XR:type_of% (And.intro (And.intro @zn9 (And.intro (And.intro @zsf @zsg) (And.intro @zsi @zsh))) <| And.intro (And.intro @zpd @zpf) (And.intro (And.intro @zph @zpg) (And.intro (And.intro @zsj @zsk) (And.intro @zsm @zsl)))):=And.intro (And.intro @zn9 (And.intro (And.intro @zsf @zsg) (And.intro @zsi @zsh))) <| And.intro (And.intro @zpd @zpf) (And.intro (And.intro @zph @zpg) (And.intro (And.intro @zsj @zsk) (And.intro @zsm @zsl)))
theorem muL_nil {n h:Nat}:muL [] n h=n+h:=by simp [muL]
/-- A call of a function that makes new rows: they stand behind the caller's own. -/
theorem zj.own {P:Program} {f:FuncId} {args:List SV} {Z:SV} {C:Ctx} (hF:FnK P f 0 args [] fun z c=>z=Z∧c=C) (hp:plainL args=true) {kk:Nat} {st:St} {K:Sl (SV×St)}
  (hK:K.f (Z.mapH (fun h=>st.ctx.length+h),⟨st.env,st.ctx++C.map fun o=>o.map (SO.mapH fun h=>st.ctx.length+h)⟩)):zj P f args kk st K:=by
 have hmu:muL [] st.ctx.length=fun h=>st.ctx.length+h:=funext fun h=>muL_nil
 refine zgk.of hF [] (by rw [q6 hp]) trivial (.inl rfl) (zhu) rfl (.inl rfl) uh ?_
 rintro z c ⟨rfl,rfl⟩
 rw [hmu]
 simp only [List.drop_nil,zb6]
 unfold zr
 simp only [upd,List.length_nil,List.drop_zero]
 exact hK
/-- A call of a function that writes what it was handed: nothing comes to lie elsewhere. -/
theorem zj.mut {P:Program} {f:FuncId} {k:Nat} {args0:List SV} {pre:Ctx} {Z:SV} {C:Ctx} (hF:FnK P f k args0 pre fun z c=>z=Z∧c=C) (hkl:pre.length=k) (l:List Nat) {args:List SV} {kk:Nat} {st:St} {K:Sl (SV×St)}
  (hargs:jb (muL l st.ctx.length) args0=args) (hmap:xl (muL l st.ctx.length) st.ctx l pre) (hnd:l.Nodup)
  (hK:K.f (Z.mapH (muL l st.ctx.length),⟨st.env,zr (muL l st.ctx.length) l pre C st.ctx⟩)):zj P f args kk st K:=by
 subst hkl
 have hl:=(zcy hmap).1
 have hd:l.drop pre.length=[]:=by rw [←hl];exact List.drop_length
 refine zgk.of hF l hargs.symm hmap (.inr hnd) (by simp [zw]) (by rw [hd];rfl) (.inl hd) (by rw [hd];exact uh) ?_
 rintro z c ⟨rfl,rfl⟩
 rw [hd,zb6]
 exact hK
/-- What is frozen of rows that a function has made. -/
theorem PF.ofOwn {P:Program} {f:FuncId} {args:List SV} {Z z:SV} {C:Ctx} (hF:FnK P f 0 args [] fun z c=>z=Z∧c=C) (hp:plainL args=true) (hz:z.plain=true) (h:xw C Z∧zdi C Z=z):PF P f args z:=
 ⟨hp,hz,hF.mono (by rintro _ _ ⟨rfl,rfl⟩;exact h)⟩
end Go.Vg
end
section
set_option linter.unusedVariables false
set_option linter.unusedSimpArgs false
set_option linter.unusedSectionVars false
set_option linter.unnecessarySimpa false
namespace Go.Vg
variable [Go.Vg.Glob]
def nlV (x y:SV):Prop:=x=y∨(x=.nils∧∃ h lo,y=.slc h lo 0)
def nlL:List SV→List SV→Prop
 | [],[]=>True
 | x::xs,y::ys=>nlV x y∧nlL xs ys
 | _,_=>False
def nlO:Option SO→Option SO→Prop
 | some (.blk r cs),some (.blk q ds)=>r=q∧nlL cs ds
 | o,p=>o=p
def nlC:Ctx→Ctx→Prop
 | [],[]=>True
 | o::r,p::q=>nlO o p∧nlC r q
 | _,_=>False
def nlE (env:List (Tmp×SV)):List (Tmp×SV)→Prop
 | []=>True
 | (t,x)::r=>nlV (look env t) x∧nlE env r
theorem zyh {σ:Asg} {x y:SV} (h:nlV x y) {v:Value} (hr:rel σ x v):rel σ y v:=by
 rcases h with rfl | ⟨rfl,q,lo,rfl⟩
 ·exact hr
 ·simp only [rel] at hr ⊢
  exact ⟨none,0,hr,Nat.le_refl _,.inl rfl⟩
theorem nlE_get {env:List (Tmp×SV)}:∀ {e:List (Tmp×SV)},nlE env e→∀ t,look e t=.u∨nlV (look env t) (look e t)
 | [],_,t=>.inl rfl
 | (u,x)::r,h,t=>by
  simp only [nlE] at h
  simp only [look]
  by_cases hu:u=t
  ·rw [if_pos hu];subst hu;exact .inr h.1
  ·rw [if_neg hu];exact nlE_get h.2 t
theorem zyi {σ:Asg}:∀ {xs ys:List SV},nlL xs ys→xs.length=ys.length∧∀ k v,rel σ (xs.getD k .u) v→rel σ (ys.getD k .u) v
 | [],[],_=>⟨rfl,fun k v h=>h⟩
 | x::xs,y::ys,h=>by
  simp only [nlL] at h
  obtain ⟨h1,h2⟩:=zyi (σ:=σ) h.2
  refine ⟨by simp [h1],fun k v hv=>?_⟩
  cases k with
  | zero=>simp only [List.getD_cons_zero] at hv ⊢;exact zyh h.1 hv
  | succ k=>simp only [List.getD_cons_succ] at hv ⊢;exact h2 k v hv
 | [],_::_,h=>by simp [nlL] at h
 | _::_,[],h=>by simp [nlL] at h
theorem nlO_sat {σ:Asg} {w:World} {h:Nat}:∀ {o p:Option SO},nlO o p→∀ {q:SO},p=some q→∃ r,o=some r∧r.ro=q.ro∧(qf σ w h r→qf σ w h q):=by
 intro o p hn q hq
 subst hq
 unfold nlO at hn
 split at hn
 ·rename_i r cs q' ds heq
  cases heq
  obtain ⟨rfl,hl⟩:=hn
  refine ⟨_,rfl,rfl,fun hs=>?_⟩
  obtain ⟨hlen,hg⟩:=zyi (σ:=σ) hl
  simp only [qf,SO.isMap] at hs ⊢
  rcases hs with ⟨h1,h2⟩ | ⟨L,c,e,fr,h1,h2⟩
  ·exact .inl ⟨h1,h2⟩
  ·have h3:=h2.lsz;have h4:=h2.fits;have h5:=h2.cell
   simp only [SO.sz,SO.n,SO.el] at h3 h4 h5
   refine .inr ⟨L,c,e,fr,h1,h2.heap,by simp only [SO.sz];omega,h2.room,by simp only [SO.sz,SO.n];omega,fun i k hi hk=>?_,h2.free⟩
   simp only [SO.sz,SO.el,SO.n] at hi hk ⊢
   obtain ⟨v,hv,hr⟩:=h5 i k hi (by omega)
   refine ⟨v,by rw [←hlen];exact hv,hg k v hr⟩
 ·exact ⟨q,hn,rfl,id⟩
theorem nlC_at:∀ {c d:Ctx},nlC c d→c.length=d.length∧∀ h,nlO (c.at h) (d.at h)
 | [],[],_=>⟨rfl,fun h=>by simp [Ctx.at,nlO]⟩
 | o::r,p::q,h=>by
  simp only [nlC] at h
  obtain ⟨h1,h2⟩:=nlC_at h.2
  refine ⟨by simp [h1],fun k=>?_⟩
  cases k with
  | zero=>rw [ye,ye];exact h.1
  | succ k=>rw [yi,yi];exact h2 k
 | [],_::_,h=>by simp [nlC] at h
 | _::_,[],h=>by simp [nlC] at h
/-- Rows without elements come out of nothing;what was nil may lie in them. -/
theorem Ent.nl {k:Nat} {env env':List (Tmp×SV)} {c d:Ctx} (es:List (Nat×(Nat→List SV))) (he:nlE env env') (hc:nlC c d):Ent k ⟨env,c⟩ ⟨env',d++es.map fun p=>some (.row false p.1 0 p.2)⟩:=by
 intro A σ a w hk hR
 obtain ⟨hlen,hat⟩:=nlC_at hc
 have old:∀ h,h<d.length→Ctx.at (d++es.map fun p=>some (.row false p.1 0 p.2)) h=d.at h:=by
  intro h hh
  simp only [Ctx.at,List.getD_eq_getElem?_getD,List.getElem?_append_left hh]
 have new:∀ h o,d.length≤h→Ctx.at (d++es.map fun p=>some (.row false p.1 0 p.2)) h=some o→o.n=0∧o.isMap=false:=by
  intro h o hh ho
  simp only [Ctx.at,List.getD_eq_getElem?_getD,List.getElem?_append_right hh,List.getElem?_map] at ho
  cases hx:es[h-d.length]? with
  | none=>rw [hx] at ho;cases ho
  | some p=>rw [hx] at ho;simp at ho;subst ho;exact ⟨rfl,rfl⟩
 have get:∀ h o,Ctx.at (d++es.map fun p=>some (.row false p.1 0 p.2)) h=some o→(h<c.length∧∃ r,c.at h=some r∧r.ro=o.ro∧(qf σ w h r→qf σ w h o))∨(σ h=none∧qf σ w h o):=by
  intro h o ho
  rcases Nat.lt_or_ge h d.length with hh | hh
  ·rw [old h hh] at ho
   obtain ⟨r,h1,h2,h3⟩:=nlO_sat (σ:=σ) (w:=w) (h:=h) (hat h) ho
   exact .inl ⟨by omega,r,h1,h2,h3⟩
  ·have hn:σ h=none:=hR.sat.beyond h (by simp only;omega)
   obtain ⟨h1,h2⟩:=new h o hh ho
   exact .inr ⟨hn,by simp only [qf,h2];exact .inl ⟨h1,hn⟩⟩
 refine ⟨σ,hR.defers,hR.size,fun t=>?_,⟨fun h o ho=>?_,fun h h' o o' L L' hne e1 e2 hro s1 s2=>?_,fun h hh=>?_,hR.sat.inHeap,hR.sat.frz,fun h o L e hro s=>?_,hR.sat.glb⟩,hR.fr,fun h o L e hro s=>?_,hR.base, ?_⟩
 ·rcases nlE_get he t with h | h
  ·rw [h];simp [rel]
  ·exact zyh h (hR.env t)
 ·rcases get h o ho with ⟨_,r,h1,_,h3⟩ | ⟨_,h3⟩
  ·exact h3 (hR.sat.obj h r h1)
  ·exact h3
 ·rcases get h o e1 with ⟨_,r,h1,h2,_⟩ | ⟨h1,_⟩
  ·rcases get h' o' e2 with ⟨_,r',h1',_,_⟩ | ⟨h1',_⟩
   ·exact hR.sat.apart h h' r r' L L' hne h1 h1' (by rw [h2];exact hro) s1 s2
   ·rw [h1'] at s2;cases s2
  ·rw [h1] at s1;cases s1
 ·exact hR.sat.beyond h (by simp only [List.length_append] at hh ⊢;omega)
 ·rcases get h o e with ⟨_,r,h1,h2,_⟩ | ⟨h1,_⟩
  ·exact hR.sat.frzA h r L h1 (by rw [h2];exact hro) s
  ·rw [h1] at s;cases s
 ·rcases get h o e with ⟨_,r,h1,h2,_⟩ | ⟨h1,_⟩
  ·exact hR.own h r L h1 (by rw [h2];exact hro) s
  ·rw [h1] at s;cases s
 ·have:=hR.klen
  simp only [List.length_append] at this ⊢
  omega
theorem jd {μ:Nat→Nat} {α β:Type} {enc:α→List SV} {z:α} {g:β→α} {o:List β} {b:β} {cs:List SV} {sz n:Nat} {f:Nat→List SV} (hp:∀ x,plainL (enc x)=true) (hn:n=o.length) (hf:∀ j,j<n→f j=zg enc z (o.map g) j) (hy:cs=enc (g b)) (hl:(enc (g b)).length=sz) :
  soLe μ (.row false sz (o++[b]).length (zg enc z ((o++[b]).map g))) (.row false sz (n+1) (zgi n f fun j=>wl cs sz j)):=by
 subst hy
 refine kn (by simp [hn]) fun i hi=>?_
 rw [zak (xs:=o.map g) (by simp [hn]) hf hl (by simp at hi;omega),List.map_append]
 exact q6 (hp _)
/-- A call of a function that may put other rows in place of those that it was handed. -/
theorem zj.reb {P:Program} {f:FuncId} {k:Nat} {args0:List SV} {pre:Ctx} {Z:SV} {C:Ctx} (hF:FnK P f k args0 pre fun z c=>z=Z∧c=C) (l:List Nat) {args:List SV} {kk:Nat} {st:St} {K:Sl (SV×St)}
  (hargs:jb (muL l st.ctx.length) args0=args) (hmap:xl (muL l st.ctx.length) st.ctx l pre) (hnd:l.Nodup) (hrw:zw k pre) (hfix:(l.drop k).all (fun g=>decide (kk≤g))=true) (hclean:j8 (l.drop k) (zf9 l pre) 0 st.ctx)
  (hK:K.f (Z.mapH (muL l st.ctx.length),⟨zd5 (l.drop k) st.env,zr (muL l st.ctx.length) l pre C st.ctx⟩)):zj P f args kk st K:=by
 refine zgk.of hF l hargs.symm hmap (.inr hnd) hrw hfix (.inr hnd) hclean ?_
 rintro z c ⟨rfl,rfl⟩
 exact hK
theorem zke {B:List Nat} {t:Tmp} {x:SV} {r:List (Tmp×SV)}:zd5 B ((t,x)::r)=(t,if noH B x then x else .u)::zd5 B r:=id rfl
theorem zkd {B:List Nat}:zd5 B []=[]:=id rfl
theorem zf1 {cut:List Nat} {i:Nat} {a:Array Oper} {b:Bool}:zb8 cut (.region i a b)=cut.contains i:=id rfl
theorem zh6 {cut:List Nat} {i:Nat} {x:Code}:zb8 cut (.block i x)=cut.contains (1000+i):=id rfl
theorem zo1 {cut:List Nat} {x y:Code}:zb8 cut (.seq x y)=zb8 cut x:=id rfl
theorem zkm {cut:List Nat} {x:Code}:zb8 cut (.loop x)=zb8 cut x:=id rfl
theorem zko {cut:List Nat} {c:Operand} {x y:Code}:zb8 cut (.cond c x y)=false:=id rfl
theorem zkl {cut:List Nat}:zb8 cut .skip=false:=id rfl
theorem zo2 {cut:List Nat}:zb8 cut .ret=false:=id rfl
theorem zkn {cut:List Nat} {i:Nat}:zb8 cut (.exit i)=false:=id rfl
theorem yo:type_of% (And.intro (And.intro @vc_cut @zf1) (And.intro (And.intro @zh6 @zo1) (And.intro (And.intro @zkm @zko) (And.intro @zkl (And.intro @zo2 @zkn))))):=And.intro (And.intro @vc_cut @zf1) (And.intro (And.intro @zh6 @zo1) (And.intro (And.intro @zkm @zko) (And.intro @zkl (And.intro @zo2 @zkn))))
open Go.Pl in
theorem vb {μ:Nat→Nat} {n:Nat} {f:Nat→List SV} {G:Nat→Int} (h:∀ j,j<n→f j=[.i .i64 (G j)]):soLe μ (.row false 1 n (zg wd 0 ((List.range n).map G))) (.row false 1 n f):=by
 refine zh fun j hj=>?_
 rw [h j hj]
 have:((List.range n).map G).getD j 0=G j:=by simp [List.getD,hj]
 simp only [zg,this]
 rfl
end Go.Vg
namespace Go.Vg
variable [Go.Vg.Glob]
/-- A function's end,where its state may first be read anew (what is nil as an empty row). -/
def FinX (te:TE) (k pl:Nat) (rs:List ResultVar) (Z:SV) (C:Ctx) (st:St):Prop:=∃ st',Ent k st st'∧FinE te k pl rs Z C st'
theorem FnK.ofX {cf:Cf} (hcf:cf.ok) {f:FuncId} {fn:Func} {c:Code} (hf:cf.P.funcs[f]?=some fn) (hb:fn.body=some c) (hname:(fn.name == "runtime.NumGoroutine")=false)
  (hnt:fn.ntmps=cf.nt) {args:List SV} {pre:Ctx} (hlen:args.length≤cf.nt) (hk:cf.k≤pre.length) {rs:List ResultVar} (hrs:fn.results.toList=rs) {Z:SV} {C:Ctx} (n:Nat)
  (h:vc cf (FinX cf.te cf.k pre.length rs Z C) n [.code c] ⟨zdk 0 args,pre⟩):FnK cf.P f cf.k args pre fun z c=>z=Z∧c=C:=by
 refine FnK.ofG hcf hf hb hname hnt hlen hk hrs (fun A σ0 st0 a w hAk _ hF hR0=>?_) n h
 obtain ⟨st,hEnt,l,⟨h1,h2⟩,h3,h4,h5,h6⟩:=hF
 obtain ⟨σ,hR⟩:=hEnt A σ0 a w hAk hR0
 rw [←hrs] at h4
 obtain ⟨z,v,hz,hv,hr⟩:=zcm (P:=cf.P) hcf.te hR h4
 subst hz
 exact ⟨Z,v,C,σ.ren (muL l st.ctx.length),⟨rfl,rfl⟩,hv,(xy _ _ _ _).1 hr,Rel.ren (st':=⟨[],C⟩) l h1 h2 h3 trivial hAk hR,h5,h6⟩
theorem FinX.of {te:TE} {k pl:Nat} {rs:List ResultVar} {Z:SV} {C:Ctx} {st:St} (h:FinE te k pl rs Z C st):FinX te k pl rs Z C st:=⟨st,Ent.refl _ _,h⟩
end Go.Vg
end
