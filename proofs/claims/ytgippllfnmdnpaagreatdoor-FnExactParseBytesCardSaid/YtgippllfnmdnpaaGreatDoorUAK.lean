/- One state says no more than another: objects renumbered, what is not needed left out. -/
import Derived.Test.YtgippllfnmdnpaaGreatDoorUAJ
import Derived.WalkKit
import Derived.ProofKit
import Derived.OpenShut
import Derived.ShutString
import Derived.ChangeOld
import Derived.Carry
import Derived.SizedLaws
import Derived.Deep.Strs
set_option linter.all false
section
namespace Go.Vg
variable [Go.Vg.Glob]
open Go.RowKit
def kf (μ:Nat→Nat) (ctx:Ctx):List Nat→Ctx→Prop
 | [],[]=>True
 | g::l,o::r=>(match o with
  | none=>True
  | some o'=>match ctx.at g with
   | some o=>soLe μ o' o
   | none=>False)∧kf μ ctx l r
 | _,_=>False
def ze (μ:Nat→Nat) (env:List (Tmp×SV)):List (Tmp×SV)→Prop
 | []=>True
 | (t,x)::r=>look env t=x.mapH μ∧ze μ env r
theorem entEnv_get {μ:Nat→Nat} {env:List (Tmp×SV)}:∀ {e:List (Tmp×SV)},ze μ env e→∀ t,look e t=.u∨look env t=(look e t).mapH μ
 | [],_,t=>.inl rfl
 | (u,x)::r,h,t=>by
  simp only [look];by_cases hu:u=t
  ·rw [if_pos hu];subst hu;exact .inr h.1
  ·rw [if_neg hu];exact entEnv_get h.2 t
theorem zmw {μ:Nat→Nat} {ctx:Ctx}:∀ {l:List Nat} {c:Ctx},kf μ ctx l c→l.length=c.length∧∀ i o',Ctx.at c i=some o'→∃ g o,l[i]?=some g∧ctx.at g=some o∧soLe μ o' o
 | [],[],_=>⟨rfl,fun i o' e=>by simp [Ctx.at] at e⟩
 | g::l,o::r,h=>by
  simp only [kf] at h;obtain ⟨h1,h2⟩:=h;obtain ⟨hl,hh⟩:=zmw h2;refine ⟨by simp [hl],fun i o' e=>?_⟩;cases i with
  | zero=>
   rw [zq] at e;subst e;simp only at h1;split at h1
   ·rename_i q hq;exact ⟨g,q,rfl,hq,h1⟩
   ·exact h1.elim
  | succ i=>
   rw [zo] at e;obtain ⟨g',q,k1,k2,k3⟩:=hh i o' e;exact ⟨g',q,by simpa using k1,k2,k3⟩
 | [],_::_,h=>by simp [kf] at h
 | _::_,[],h=>by simp [kf] at h
def zq5 (k:Nat) (l:List Nat):Bool:=(List.range k).all fun h=>l[h]?==some h
theorem Rel.ren {k:Nat} {st st':St} (l:List Nat) (hk:zq5 k l=true) (hnd:l.Nodup) (hctx:kf (muL l st.ctx.length) st.ctx l st'.ctx) (henv:ze (muL l st.ctx.length) st.env st'.env) {A:Amb} {σ:Asg} {a:Act} {w:World} (hAk:A.k=k) (hR:Rel A σ st a w):Rel A (σ.ren (muL l st.ctx.length)) st' a w:=by
 obtain ⟨hlen,hget⟩:=zmw hctx;generalize hμ:muL l st.ctx.length=μ at *;have μold:∀ h g,l[h]?=some g→μ h=g:=by intro h g hg;rw [←hμ];simp [muL,hg]
 have μnew:∀ h,l.length≤h→st.ctx.length≤μ h:=by intro h hh;rw [←hμ];simp [muL,List.getElem?_eq_none hh]
 have hid:∀ (h:Nat),h<k→l[h]?=some h:=by intro h hh;unfold zq5 at hk;rw [List.all_eq_true] at hk;simpa using hk h (by simpa using hh)
 have hkl:k≤l.length:=by
  rcases Nat.eq_zero_or_pos k with h0 | h0
  ·omega
  ·have:=hid (k-1) (by omega);obtain ⟨h1,_⟩:=List.getElem?_eq_some_iff.1 this;omega
 have inj:∀ (i j g:Nat),l[i]?=some g→l[j]?=some g→i=j:=by intro i j g hi hj;obtain ⟨a1,a2⟩:=List.getElem?_eq_some_iff.1 hi;obtain ⟨b1,b2⟩:=List.getElem?_eq_some_iff.1 hj;exact List.getElem_inj (h₀:=a1) (h₁:=b1) hnd |>.1 (a2.trans b2.symm)
 refine ⟨hR.defers,hR.size,fun t=>?_,⟨fun i o' e=>?_,fun i j o' p' L L' hne e1 e2 hro s1 s2=>?_,fun h hh=>?_,fun h L hL=>hR.sat.inHeap _ L hL,hR.sat.frz,fun i o' L e hro hL=>?_,hR.sat.glb⟩,hR.fr,fun i o' L e hro hL=>?_,⟨fun h hh=>?_,hR.base.fzb,hR.base.fzn⟩, ?_⟩
 ·rcases entEnv_get henv t with h | h
  ·rw [h];simp [rel]
  ·have:=hR.env t;rw [h] at this;exact (v7 σ μ _ _).1 this
 ·obtain ⟨g,o,h1,h2,h3⟩:=hget i o' e;exact zi0 (σ:=σ) (σ0:=σ.ren μ) (μ:=μ) (fun _=>rfl) rfl h3 (by rw [μold i g h1];exact hR.sat.obj g o h2)
 ·obtain ⟨g,o,h1,h2,h3⟩:=hget i o' e1;obtain ⟨g',p,h1',h2',h3'⟩:=hget j p' e2;have s1':σ g=some L:=by rw [←μold i g h1];exact s1
  have s2':σ g'=some L':=by rw [←μold j g' h1'];exact s2
  refine hR.sat.apart g g' o p L L' (fun e=>hne ?_) h2 h2' (h3.ro hro) s1' s2';subst e;exact inj i j g h1 h1'
 ·exact hR.sat.beyond _ (μnew h (by rw [hlen];exact hh))
 ·obtain ⟨g,o,h1,h2,h3⟩:=hget i o' e;exact hR.sat.frzA g o L h2 (h3.ro hro) (by rw [←μold i g h1];exact hL)
 ·obtain ⟨g,o,h1,h2,h3⟩:=hget i o' e;exact hR.own g o L h2 (h3.ro hro) (by rw [←μold i g h1];exact hL)
 ·show σ (μ h)=A.σ0 h;rw [μold h h (hid h (by omega))];exact hR.base.loc h hh
 ·show A.k≤st'.ctx.length;rw [←hlen,hAk];exact hkl
theorem Ent.ren {k:Nat} {st st':St} (l:List Nat) (hk:zq5 k l=true) (hnd:l.Nodup) (hctx:kf (muL l st.ctx.length) st.ctx l st'.ctx) (henv:ze (muL l st.ctx.length) st.env st'.env):Ent k st st' :=
 fun A σ a w hAk hR=>⟨_,Rel.ren l hk hnd hctx henv hAk hR⟩
/-- A function's end: its results and its objects,numbered anew. -/
def FinE (te:TE) (k pl:Nat) (rs:List ResultVar) (Z:SV) (C:Ctx) (st:St):Prop:=
 ∃ l:List Nat,(zq5 k l=true∧l.Nodup)∧kf (muL l st.ctx.length) st.ctx l C∧zrv te st (fun z _=>z=Z.mapH (muL l st.ctx.length)) rs []∧z6 k C∧pl≤C.length
theorem FnK.ofE {cf:Cf} (hcf:cf.ok) {f:FuncId} {fn:Func} {c:Code} (hf:cf.P.funcs[f]?=some fn) (hb:fn.body=some c) (hname:(fn.name == "runtime.NumGoroutine")=false)
  (hnt:fn.ntmps=cf.nt) {args:List SV} {pre:Ctx} (hlen:args.length≤cf.nt) (hk:cf.k≤pre.length) {rs:List ResultVar} (hrs:fn.results.toList=rs) {Z:SV} {C:Ctx} (n:Nat)
  (h:vc cf (FinE cf.te cf.k pre.length rs Z C) n [.code c] ⟨zaa 0 args,pre⟩):FnK cf.P f cf.k args pre fun z c=>z=Z∧c=C:=by
 refine FnK.ofG hcf hf hb hname hnt hlen hk hrs (fun A σ st a w hAk _ hF hR=>?_) n h;obtain ⟨l,⟨h1,h2⟩,h3,h4,h5,h6⟩:=hF;rw [←hrs] at h4;obtain ⟨z,v,hz,hv,hr⟩:=zb9 (P:=cf.P) hcf.te hR h4;subst hz;exact ⟨Z,v,C,σ.ren (muL l st.ctx.length),⟨rfl,rfl⟩,hv,(v7 _ _ _ _).1 hr,Rel.ren (st':=⟨[],C⟩) l h1 h2 h3 trivial hAk hR,h5,h6⟩
/-- Nothing but what the function was handed matters any more,and that is as it was. -/
theorem Ent.tail {k:Nat} {env env':List (Tmp×SV)} {c:Ctx} (hc:c=[]) (hk:k=0) (henv:ze (muL [] c.length) env env'):Ent k ⟨env,c⟩ ⟨env',[]⟩:=by subst hk;subst hc;exact Ent.ren [] rfl List.nodup_nil (by simp [kf]) henv
theorem Ent.nil {env env':List (Tmp×SV)} {c:Ctx} (henv:ze (muL [] c.length) env env'):Ent 0 ⟨env,c⟩ ⟨env',[]⟩:=
 Ent.ren [] rfl List.nodup_nil (by simp [kf]) henv
/-- A loop's rule. -/
theorem zl.of {k:Nat} {st:St} {B:Sl ((St→Prop)×St)} {ι:Type} (S:ι→St) (m:ι→Nat) (i0:ι) (h0:Ent k st (S i0)) (h:∀ i,B.f (fun s=>∃ j,m j<m i∧Ent k s (S j),S i)):zl k st B:=
 ⟨ι,S,m,i0,h0,h⟩
theorem zav.of {k:Nat} {B:Sl (St→Prop)} {R:Sl St} {ι:Type} (S:ι→St) (h:B.f (fun s=>∃ j,Ent k s (S j))) (h2:∀ j,R.f (S j)):zav k B R:=
 ⟨ι,S,h,h2⟩
theorem zf7 {n:Int}:w9 (q7 [.i .u8 n] 1) 0 1=[UInt8.ofNat n.toNat]:=by simp [w9,q7,List.range_succ]
theorem isU8_one {n:Int}:(∀ j,j<1→zme ((q7 [.i .u8 n] 1 j).getD 0 .u)=true):=by
 intro j hj;obtain rfl:j=0:=by omega
 simp [q7,zme]
theorem zua (m k:Nat):(m:Int).tmod (k:Int)=((m % k:Nat):Int):=by rw [Int.tmod_eq_emod_of_nonneg (by omega)];rfl
theorem zhh (m k:Nat):(m:Int).tdiv (k:Int)=((m / k:Nat):Int):=by rw [Int.tdiv_eq_ediv_of_nonneg (by omega)];rfl
end Go.Vg
end
section
namespace Go.Vg
variable [Go.Vg.Glob]
theorem XC:type_of% (ai (ai (ai (ai (ai (ai (ai (@vc_nil) (@vc_blk)) (ai (@zyo) (ai (@zyp) (@vc_ret)))) (ai (ai (@vc_seq) (@zox)) (ai (@zyr) (ai (@zt5) (@zyq))))) (ai (ai (ai (@zt4) (@zuy)) (ai (@zpm) (ai (@zpl) (@zpk)))) (ai (ai (@zym) (ai (@zkt) (@zht))) (ai (@zys) (ai (@XL_nil) (@z3b)))))) (ai (ai (ai (ai (@zwt) (@zto)) (ai (@zho) (ai (@zjf) (@ung_gd)))) (ai (ai (@ung_b) (ai (@ung_i) (@ung_s))) (ai (@zyw) (ai (@zyv) (@zt7))))) (ai (ai (ai (@ung_mp) (@zyx)) (ai (@zyu) (ai (@ung_fs) (@ung_fp)))) (ai (ai (@zq3) (ai (@zv0) (@z1x))) (ai (@zvz) (ai (@z1w) (@zq1))))))) (ai (ai (ai (ai (ai (@ifB_b) (@ifI_i)) (ai (@ifS_s) (ai (@zq0) (@zbz)))) (ai (ai (@zer) (@zvc)) (ai (@zqt) (ai (@zmd) (@zus))))) (ai (ai (ai (@zur) (@zpb)) (ai (@z00) (ai (@oLen_s) (@zvh)))) (ai (ai (@zqg) (ai (@zro) (@zjx))) (ai (@zrn) (ai (@zc5) (@zc4)))))) (ai (ai (ai (ai (@zm9) (@zgy)) (ai (@zwm) (ai (@zwn) (@znb)))) (ai (ai (@zm7) (ai (@zwq) (@zrp))) (ai (@zwr) (ai (@znc) (@zm6))))) (ai (ai (ai (@zl4) (@zi1)) (ai (@zi2) (ai (@zrq) (@ze0)))) (ai (ai (@zwo) (ai (@zwp) (@zna))) (ai (@zrk) (ai (@zrj) (@zyl)))))))) (ai (ai (ai (ai (ai (ai (@zou) (@ztp)) (ai (@zvk) (ai (@zvj) (@zvm)))) (ai (ai (@zvl) (@zvi)) (ai (@zts) (ai (@zov) (@ztr))))) (ai (ai (ai (@ztq) (@z0w)) (ai (@zq2) (ai (@zvd) (@zqe)))) (ai (ai (@zgz) (ai (@zb6) (@zc3))) (ai (@zqf) (ai (@z0x) (@oSrc_s)))))) (ai (ai (ai (ai (@zve) (@zmj)) (ai (@zqi) (ai (@zvn) (@zjy)))) (ai (ai (@ztm) (ai (@ztn) (@z0y))) (ai (@z0z) (ai (@zvf) (@zvg))))) (ai (ai (ai (@zjv) (@z0u)) (ai (@z0v) (ai (@oUpd_s) (@oUpd_i)))) (ai (ai (@zc2) (ai (@zjw) (@oMk_s))) (ai (@oMk_i) (ai (@zq4) (@zgx))))))) (ai (ai (ai (ai (ai (@zt0) (@zk8)) (ai (@ztu) (ai (@zku) (@zty)))) (ai (ai (@zkz) (ai (@ztx) (@ztw))) (ai (@ztz) (ai (@ztt) (@ztv))))) (ai (ai (ai (@zk5) (@zkw)) (ai (@zk0) (ai (@zk1) (@zk2)))) (ai (ai (@zk3) (ai (@zk9) (@zk4))) (ai (@zkv) (ai (@zk6) (@zkx)))))) (ai (ai (ai (ai (@zk7) (@zky)) (ai (@zpg) (ai (@zpf) (@z2j)))) (ai (ai (@XEs_q0) (ai (@XEs_q1) (@z3c))) (ai (@z3e) (ai (@z3d) (@z3a))))) (ai (ai (ai (@zws) (@zwa)) (ai (@zww) (ai (@zwv) (@XDs_q0)))) (ai (ai (@XDs_q1) (ai (@z3f) (@zwu))) (ai (@XDs_sw) (ai (@zwl) (@zwk))))))))):=ai (ai (ai (ai (ai (ai (ai (@vc_nil) (@vc_blk)) (ai (@zyo) (ai (@zyp) (@vc_ret)))) (ai (ai (@vc_seq) (@zox)) (ai (@zyr) (ai (@zt5) (@zyq))))) (ai (ai (ai (@zt4) (@zuy)) (ai (@zpm) (ai (@zpl) (@zpk)))) (ai (ai (@zym) (ai (@zkt) (@zht))) (ai (@zys) (ai (@XL_nil) (@z3b)))))) (ai (ai (ai (ai (@zwt) (@zto)) (ai (@zho) (ai (@zjf) (@ung_gd)))) (ai (ai (@ung_b) (ai (@ung_i) (@ung_s))) (ai (@zyw) (ai (@zyv) (@zt7))))) (ai (ai (ai (@ung_mp) (@zyx)) (ai (@zyu) (ai (@ung_fs) (@ung_fp)))) (ai (ai (@zq3) (ai (@zv0) (@z1x))) (ai (@zvz) (ai (@z1w) (@zq1))))))) (ai (ai (ai (ai (ai (@ifB_b) (@ifI_i)) (ai (@ifS_s) (ai (@zq0) (@zbz)))) (ai (ai (@zer) (@zvc)) (ai (@zqt) (ai (@zmd) (@zus))))) (ai (ai (ai (@zur) (@zpb)) (ai (@z00) (ai (@oLen_s) (@zvh)))) (ai (ai (@zqg) (ai (@zro) (@zjx))) (ai (@zrn) (ai (@zc5) (@zc4)))))) (ai (ai (ai (ai (@zm9) (@zgy)) (ai (@zwm) (ai (@zwn) (@znb)))) (ai (ai (@zm7) (ai (@zwq) (@zrp))) (ai (@zwr) (ai (@znc) (@zm6))))) (ai (ai (ai (@zl4) (@zi1)) (ai (@zi2) (ai (@zrq) (@ze0)))) (ai (ai (@zwo) (ai (@zwp) (@zna))) (ai (@zrk) (ai (@zrj) (@zyl)))))))) (ai (ai (ai (ai (ai (ai (@zou) (@ztp)) (ai (@zvk) (ai (@zvj) (@zvm)))) (ai (ai (@zvl) (@zvi)) (ai (@zts) (ai (@zov) (@ztr))))) (ai (ai (ai (@ztq) (@z0w)) (ai (@zq2) (ai (@zvd) (@zqe)))) (ai (ai (@zgz) (ai (@zb6) (@zc3))) (ai (@zqf) (ai (@z0x) (@oSrc_s)))))) (ai (ai (ai (ai (@zve) (@zmj)) (ai (@zqi) (ai (@zvn) (@zjy)))) (ai (ai (@ztm) (ai (@ztn) (@z0y))) (ai (@z0z) (ai (@zvf) (@zvg))))) (ai (ai (ai (@zjv) (@z0u)) (ai (@z0v) (ai (@oUpd_s) (@oUpd_i)))) (ai (ai (@zc2) (ai (@zjw) (@oMk_s))) (ai (@oMk_i) (ai (@zq4) (@zgx))))))) (ai (ai (ai (ai (ai (@zt0) (@zk8)) (ai (@ztu) (ai (@zku) (@zty)))) (ai (ai (@zkz) (ai (@ztx) (@ztw))) (ai (@ztz) (ai (@ztt) (@ztv))))) (ai (ai (ai (@zk5) (@zkw)) (ai (@zk0) (ai (@zk1) (@zk2)))) (ai (ai (@zk3) (ai (@zk9) (@zk4))) (ai (@zkv) (ai (@zk6) (@zkx)))))) (ai (ai (ai (ai (@zk7) (@zky)) (ai (@zpg) (ai (@zpf) (@z2j)))) (ai (ai (@XEs_q0) (ai (@XEs_q1) (@z3c))) (ai (@z3e) (ai (@z3d) (@z3a))))) (ai (ai (ai (@zws) (@zwa)) (ai (@zww) (ai (@zwv) (@XDs_q0)))) (ai (ai (@XDs_q1) (ai (@z3f) (@zwu))) (ai (@XDs_sw) (ai (@zwl) (@zwk))))))))
theorem XV:type_of% (ai (ai (ai (ai (ai (ai (@zl5) (ai (@zi3) (@zl6))) (ai (ai (@z2p) (@z2o)) (ai (@nst_eq) (@zmx)))) (ai (ai (ai (@zmy) (@gz_f)) (ai (@gz_t) (@mkgd_b))) (ai (ai (@mkgd_i) (@mkgd_s)) (ai (@zvs) (@zvq))))) (ai (ai (ai (@zql) (ai (@z08) (@zvt))) (ai (ai (@zvp) (@z1a)) (ai (@z1b) (@z09)))) (ai (ai (ai (@zt9) (@zt8)) (ai (@zlb) (@zoy))) (ai (ai (@zl7) (@zqp)) (ai (@ev_tmp) (@ev_int)))))) (ai (ai (ai (ai (@z18) (ai (@ev_str) (@z16))) (ai (ai (@z17) (@zqr)) (ai (@zyz) (@zrm)))) (ai (ai (ai (@zo5) (@zuw)) (ai (@zph) (@z1t))) (ai (ai (@zuv) (@zz2)) (ai (@opsGet) (@zji))))) (ai (ai (ai (ai (@zmm) (@zma)) (ai (@zqq) (@zo1))) (ai (ai (@zub) (@zqm)) (ai (@zqn) (@zqz)))) (ai (ai (ai (@zi4) (@zwy)) (ai (@and_true) (@true_and))) (ai (ai (@ne_eq.{1}) (@List.nil_append.{0})) (ai (@List.cons_append.{0}) (@List.length_nil.{0}))))))) (ai (ai (ai (ai (ai (@List.length_cons.{0}) (ai (@List.getElem?_cons_zero.{0}) (@List.getElem?_cons_succ.{0}))) (ai (ai (@Nat.zero_add) (@List.getD_cons_zero.{0})) (ai (@List.getD_cons_succ.{0}) (@zq)))) (ai (ai (ai (@zo) (@List.drop_zero.{0})) (ai (@List.drop_succ_cons.{0}) (@List.take_succ_cons.{0}))) (ai (ai (@List.take_zero.{0}) (@Bool.false_eq_true)) (ai (@imp_self) (@Bool.true_and))))) (ai (ai (ai (ai (@Bool.and_true) (@Bool.not_true)) (ai (@Bool.not_false) (@cond_true.{1}))) (ai (ai (@cond_false.{1}) (@List.cons.injEq.{0})) (ai (@decide_eq_true_eq) (@decide_eq_false_iff_not)))) (ai (ai (ai (@List.set_cons_zero.{0}) (@List.set_cons_succ.{0})) (ai (@Int.toNat_natCast) (@List.take_length.{0}))) (ai (ai (@Int.toNat_zero) (@or_true)) (ai (@true_or) (@beq_self_eq_true.{0})))))) (ai (ai (ai (ai (@Option.bind_some.{0,0}) (ai (@Option.bind_none.{0,0}) (@List.contains_nil.{0}))) (ai (ai (@List.contains_cons.{0}) (@List.all_cons.{0})) (ai (@List.all_nil.{0}) (@zf7)))) (ai (ai (ai (@List.append_nil.{0}) (@List.length_append.{0})) (ai (@Option.isSome_some.{0}) (@Nat.lt_add_one))) (ai (ai (@if_true.{1}) (@if_false.{1})) (ai (@List.map_cons.{0,0}) (@List.map_nil.{0,0}))))) (ai (ai (ai (ai (@not_false_eq_true) (@Bool.or_true)) (ai (@Bool.true_or) (@Bool.false_or))) (ai (ai (@Bool.or_false) (@Bool.and_self)) (ai (@Bool.or_self) (@zap)))) (ai (ai (ai (@zen) (@zab)) (ai (@Nat.zero_le) (@List.length_map.{0,0}))) (ai (ai (@decide_true) (@decide_false)) (ai (@false_implies) (@true_implies)))))))):=ai (ai (ai (ai (ai (ai (@zl5) (ai (@zi3) (@zl6))) (ai (ai (@z2p) (@z2o)) (ai (@nst_eq) (@zmx)))) (ai (ai (ai (@zmy) (@gz_f)) (ai (@gz_t) (@mkgd_b))) (ai (ai (@mkgd_i) (@mkgd_s)) (ai (@zvs) (@zvq))))) (ai (ai (ai (@zql) (ai (@z08) (@zvt))) (ai (ai (@zvp) (@z1a)) (ai (@z1b) (@z09)))) (ai (ai (ai (@zt9) (@zt8)) (ai (@zlb) (@zoy))) (ai (ai (@zl7) (@zqp)) (ai (@ev_tmp) (@ev_int)))))) (ai (ai (ai (ai (@z18) (ai (@ev_str) (@z16))) (ai (ai (@z17) (@zqr)) (ai (@zyz) (@zrm)))) (ai (ai (ai (@zo5) (@zuw)) (ai (@zph) (@z1t))) (ai (ai (@zuv) (@zz2)) (ai (@opsGet) (@zji))))) (ai (ai (ai (ai (@zmm) (@zma)) (ai (@zqq) (@zo1))) (ai (ai (@zub) (@zqm)) (ai (@zqn) (@zqz)))) (ai (ai (ai (@zi4) (@zwy)) (ai (@and_true) (@true_and))) (ai (ai (@ne_eq.{1}) (@List.nil_append.{0})) (ai (@List.cons_append.{0}) (@List.length_nil.{0}))))))) (ai (ai (ai (ai (ai (@List.length_cons.{0}) (ai (@List.getElem?_cons_zero.{0}) (@List.getElem?_cons_succ.{0}))) (ai (ai (@Nat.zero_add) (@List.getD_cons_zero.{0})) (ai (@List.getD_cons_succ.{0}) (@zq)))) (ai (ai (ai (@zo) (@List.drop_zero.{0})) (ai (@List.drop_succ_cons.{0}) (@List.take_succ_cons.{0}))) (ai (ai (@List.take_zero.{0}) (@Bool.false_eq_true)) (ai (@imp_self) (@Bool.true_and))))) (ai (ai (ai (ai (@Bool.and_true) (@Bool.not_true)) (ai (@Bool.not_false) (@cond_true.{1}))) (ai (ai (@cond_false.{1}) (@List.cons.injEq.{0})) (ai (@decide_eq_true_eq) (@decide_eq_false_iff_not)))) (ai (ai (ai (@List.set_cons_zero.{0}) (@List.set_cons_succ.{0})) (ai (@Int.toNat_natCast) (@List.take_length.{0}))) (ai (ai (@Int.toNat_zero) (@or_true)) (ai (@true_or) (@beq_self_eq_true.{0})))))) (ai (ai (ai (ai (@Option.bind_some.{0,0}) (ai (@Option.bind_none.{0,0}) (@List.contains_nil.{0}))) (ai (ai (@List.contains_cons.{0}) (@List.all_cons.{0})) (ai (@List.all_nil.{0}) (@zf7)))) (ai (ai (ai (@List.append_nil.{0}) (@List.length_append.{0})) (ai (@Option.isSome_some.{0}) (@Nat.lt_add_one))) (ai (ai (@if_true.{1}) (@if_false.{1})) (ai (@List.map_cons.{0,0}) (@List.map_nil.{0,0}))))) (ai (ai (ai (ai (@not_false_eq_true) (@Bool.or_true)) (ai (@Bool.true_or) (@Bool.false_or))) (ai (ai (@Bool.or_false) (@Bool.and_self)) (ai (@Bool.or_self) (@zap)))) (ai (ai (ai (@zen) (@zab)) (ai (@Nat.zero_le) (@List.length_map.{0,0}))) (ai (ai (@decide_true) (@decide_false)) (ai (@false_implies) (@true_implies)))))))
open Classical in
/-- A table's zaa: by parameters,from which the arguments are made. -/
noncomputable def peR {α:Type} (A:α→List SV) (p:α→Prop) (z:α→SV):PE:=fun args=>if h:∃ i,A i=args then some (p (Classical.choose h),z (Classical.choose h)) else none
theorem yg {α:Type} {A:α→List SV} {p:α→Prop} {z:α→SV} (h:∀ i j,A i=A j→i=j) (i:α):peR A p z (A i)=some (p i,z i):=by
 have hx:∃ j,A j=A i:=⟨i,rfl⟩
 unfold peR;rw [dif_pos hx,h _ _ (Classical.choose_spec hx)]
theorem yo {P:Program} {f:FuncId} {α:Type} {A:α→List SV} {p:α→Prop} {z:α→SV} (h:∀ i,p i→PF P f (A i) (z i)):PE1 P f (peR A p z):=by
 intro args q y hq hp;unfold peR at hq;split at hq
 ·rename_i hx;simp only [Option.some.injEq,Prod.mk.injEq] at hq;obtain ⟨rfl,rfl⟩:=hq;have:=(h _ hp).call;rw [Classical.choose_spec hx] at this;exact .inl this
 ·cases hq
theorem zbw {α β:Type} {f:α→β} (h:∀ a b,f a=f b→a=b) {l m:List α}:l.map f=m.map f↔l=m:=by
 refine ⟨fun e=>?_,fun e=>by rw [e]⟩
 induction l generalizing m with
 | nil=>cases m<;>simp_all
 | cons x xs ih=>
  cases m with
  | nil=>simp at e
  | cons y ys=>simp only [List.map_cons,List.cons.injEq] at e;rw [h _ _ e.1,ih e.2]
end Go.Vg
end
section
namespace Go.Pl
def dec (n:Nat):List UInt8:=if h:n<10 then [UInt8.ofNat (48+n)] else dec (n / 10)++[UInt8.ofNat (48+n % 10)]
termination_by n
decreasing_by omega
theorem dec_eq (n:Nat):dec n=if n<10 then [UInt8.ofNat (48+n)] else dec (n / 10)++[UInt8.ofNat (48+n % 10)]:=by rw [dec];split<;>rfl
theorem zxy (n:Nat):(dec n).length≤n+1:=by
 induction n using Nat.strongRecOn with
 | _ n ih=>
  rw [dec_eq];split
  ·simp
  ·have:=ih (n / 10) (by omega);simp;omega
def mtx (k:Int):List UInt8:=if k≤0 then [109,48] else 109::dec k.toNat
/-- What is behind the first digits: 'm' is still to be written ahead of 'out'. -/
def zg0 (n m:Nat) (out:List UInt8):Prop:=m≤n∧if m=0 then out=dec n else dec m++out=dec n
theorem zg0.step {n m:Nat} {out:List UInt8} (h:zg0 n m out) (hm:0<m):zg0 n (m / 10) (UInt8.ofNat (48+m % 10)::out):=by
 unfold zg0 at *;rw [if_neg (by omega)] at h;refine ⟨by omega, ?_⟩;rw [dec_eq m] at h;split
 ·rename_i h0;rw [if_pos (by omega)] at h;rw [show m % 10=m by omega];simpa using h.2
 ·rw [if_neg (by omega)] at h;simpa using h.2
theorem zg0.len {n m:Nat} {out:List UInt8} (h:zg0 n m out):out.length≤n+1:=by
 have:=zxy n;unfold zg0 at h;split at h
 ·rw [h.2];exact this
 ·have h2:=congrArg List.length h.2;simp at h2;omega
/-- A row of marks. -/
def mkL {α:Type} (g:Int→α) (c:Int):Int→Nat→List α
 | _,0=>[]
 | k,n+1=>g k::mkL g c (k+c) n
theorem ww {α:Type} {g:Int→α} {c:Int}:∀ {n:Nat} {k:Int},(mkL g c k n).length=n
 | 0,_=>rfl
 | n+1,k=>by simp [mkL,ww]
theorem zsr {α:Type} {g:Int→α} {c:Int} (z:α):∀ {n:Nat} {k:Int} {j:Nat},j<n→(mkL g c k n).getD j z=g (k+c * j)
 | 0,_,j,h=>by omega
 | n+1,k,0,_=>by simp [mkL]
 | n+1,k,j+1,h=>by have:=zsr (g:=g) (c:=c) z (n:=n) (k:=k+c) (j:=j) (by omega);simp only [mkL,List.getD_cons_succ,this];congr 1;rw [Int.natCast_add,Int.mul_add];omega
theorem zmt {α:Type} (z:α) {a b:List α} (hl:a.length=b.length) (h:∀ j,j<a.length→a.getD j z=b.getD j z):a=b:=by apply List.ext_getElem hl;intro j h1 h2;have:=h j h1;simpa [List.getD,List.getElem?_eq_getElem h1,List.getElem?_eq_getElem h2] using this
/-- A row of which a beginning is marked. -/
def mkd {α:Type} (g:Int→α) (c k:Int) (a:List α) (i:Nat):List α:=mkL g c k i++a.drop i
theorem mkd_get {α:Type} {g:Int→α} {c k:Int} {a:List α} {i:Nat} (z:α) (j:Nat):(mkd g c k a i).getD j z=if j<i then g (k+c * j) else a.getD j z:=by
 unfold mkd;split
 ·rename_i h;have:=zsr (g:=g) (c:=c) z (n:=i) (k:=k) h;rw [←this];simp only [List.getD_eq_getElem?_getD];rw [List.getElem?_append_left (by rw [ww];exact h)]
 ·rename_i h;simp only [List.getD_eq_getElem?_getD];rw [List.getElem?_append_right (by rw [ww];omega),ww,List.getElem?_drop,show i+(j-i)=j by omega]
theorem zvu {α:Type} {g:Int→α} {c k:Int} {a:List α}:mkd g c k a 0=a:=by simp [mkd,mkL]
theorem z1c {α:Type} {g:Int→α} {c k:Int} {a:List α}:mkd g c k a a.length=mkL g c k a.length:=by simp [mkd]
end Go.Pl
end
section
namespace Go.Vg
variable [Go.Vg.Glob]
def zu {α:Type} (enc:α→List SV) (z:α) (xs:List α):Nat→List SV:=fun j=>enc (xs.getD j z)
theorem yf {α:Type} {enc:α→List SV} {z:α} {xs:List α} {n:Nat} (h:n=xs.length):je (zu enc z xs) 0 n=xs.map enc:=by
 subst h;apply List.ext_getElem?;intro j;unfold je zu;by_cases hj:j<xs.length
 ·simp [hj,List.getD]
 ·simp [hj]
theorem rowE_part {α:Type} {enc:α→List SV} {z:α} {xs:List α} {lo n:Nat} (h:lo+n≤xs.length):je (zu enc z xs) lo n=((xs.drop lo).take n).map enc:=by
 apply List.ext_getElem?;intro j;unfold je zu;by_cases hj:j<n
 ·have h1:lo+j<xs.length:=by omega
  simp [hj,List.getD,List.getElem?_eq_getElem h1,h1,List.getElem?_take]
 ·simp [hj,List.getElem?_take]
theorem zbd {α:Type} {enc:α→List SV} {z:α} {xs:List α} {y:α} {sz n:Nat} {f:Nat→List SV} (hn:n=xs.length) (hf:∀ j,j<n→f j=zu enc z xs j) (hl:(enc y).length=sz) {i:Nat} (hi:i<n+1) :
  zfz n f (q7 (enc y) sz) i=zu enc z (xs++[y]) i:=by
 subst hn;unfold zfz zu;split
 ·rename_i h;rw [hf i h];simp [zu,List.getD,List.getElem?_append_left h]
 ·have:i=xs.length:=by omega
  subst this;have h1:(xs++[y]).getD xs.length z=y:=by simp [List.getD]
  rw [h1,Nat.sub_self];simp only [q7,Nat.zero_mul,List.drop_zero];rw [←hl,List.take_length]
theorem zup {α:Type} {enc:α→List SV} {z:α} {xs ys:List α} {n m:Nat} {f g:Nat→List SV} (hn:n=xs.length) (hm:m=ys.length) (hf:∀ j,j<n→f j=zu enc z xs j) (hg:∀ j,j<m→g j=zu enc z ys j) {i:Nat} (hi:i<n+m) :
  zfz n f g i=zu enc z (xs++ys) i:=by
 subst hn hm;unfold zfz;split
 ·rename_i h;rw [hf i h];simp [zu,List.getD,List.getElem?_append_left h]
 ·rename_i h;rw [hg _ (by omega)];simp only [zu,List.getD,List.getElem?_append_right (show xs.length≤i by omega)]
theorem uu {α:Type} (enc:α→List SV) (xs:List α) (i:Nat) (z:α):(xs.map enc).getD i (enc z)=enc (xs.getD i z):=by simp only [List.getD_eq_getElem?_getD,List.getElem?_map];cases xs[i]?<;>rfl
theorem yi {μ:Nat→Nat} {sz n:Nat} {f g:Nat→List SV} (h:∀ i,i<n→jd μ (g i)=f i):soLe μ (.row false sz n g) (.row false sz n f):=⟨id,rfl,rfl,Nat.le_refl _,rfl,h⟩
theorem vi {μ:Nat→Nat} {sz n m:Nat} {f g:Nat→List SV} (hn:n≤m) (h:∀ i,i<n→jd μ (g i)=f i):soLe μ (.row false sz n g) (.row false sz m f):=⟨id,rfl,rfl,hn,rfl,fun i hi=>h i hi⟩
theorem zb {μ:Nat→Nat} {l m:List SV} (h:jd μ l=m):soLe μ (.blk false l) (.blk false m):=⟨id,rfl,by simp [SO.sz,←h,zn5],Nat.le_refl _,rfl,fun i _=>h⟩
mutual
theorem zmb {μ:Nat→Nat}:∀ {x:SV},x.plain=true→x.mapH μ=x
 | .b _,_=>rfl
 | .i _ _,_=>rfl
 | .s _,_=>rfl
 | .nils,_=>rfl
 | .fn _,_=>rfl
 | .u,_=>rfl
 | .fs _ _,_=>rfl
 | .fp _ _,_=>rfl
 | .ptr _ _ _,h=>by simp [SV.plain] at h
 | .slc _ _ _,h=>by simp [SV.plain] at h
 | .mp _,h=>by simp [SV.plain] at h
 | .agg l,h=>by simp only [SV.mapH];rw [qx (by simpa [SV.plain] using h)]
 | .tup l,h=>by simp only [SV.mapH];rw [qx (by simpa [SV.plain] using h)]
 | .gd _ x,h=>by simp only [SV.mapH];rw [zmb (by simpa [SV.plain] using h)]
theorem qx {μ:Nat→Nat}:∀ {l:List SV},plainL l=true→jd μ l=l
 | [],_=>rfl
 | x::xs,h=>by simp only [plainL,Bool.and_eq_true] at h;simp only [jd,zmb h.1,qx h.2]
end
theorem Ent.ren1 {k:Nat} {st st':St} (l:List Nat) (h:zq5 k l=true∧l.Nodup) (hctx:kf (muL l st.ctx.length) st.ctx l st'.ctx) (henv:ze (muL l st.ctx.length) st.env st'.env):Ent k st st':=Ent.ren l h.1 h.2 hctx henv
theorem z2 {y:List SV} {sz:Nat} (h:y.all wl=true) (hl:y.length=sz):∀ j,j<1→(q7 y sz j).all wl=true∧(q7 y sz j).length=sz:=by
 intro j hj;obtain rfl:j=0:=by omega
 have:q7 y sz 0=y:=by simp only [q7,Nat.zero_mul,List.drop_zero];rw [←hl,List.take_length]
 rw [this];exact ⟨h,hl⟩
theorem qq {μ:Nat→Nat} {α:Type} {enc:α→List SV} {z:α} {xs:List α} {y:α} {sz n:Nat} {f:Nat→List SV} (hp:∀ x,plainL (enc x)=true) (hn:n=xs.length) (hf:∀ j,j<n→f j=zu enc z xs j) (hl:(enc y).length=sz) :
  soLe μ (.row false sz (xs++[y]).length (zu enc z (xs++[y]))) (.row false sz (n+1) (zfz n f fun j=>q7 (enc y) sz j)):=
 vi (by simp [hn]) fun i hi=>by rw [zbd hn hf hl (by simp at hi;omega)];exact qx (hp _)
theorem soLe_nil {μ:Nat→Nat} {α:Type} {enc:α→List SV} {z:α} {sz:Nat} {f:Nat→List SV}:soLe μ (.row false sz ([]:List α).length (zu enc z [])) (.row false sz 0 f):=
 yi fun i hi=>absurd hi (Nat.not_lt_zero _)
theorem za {μ:Nat→Nat} {α:Type} {enc:α→List SV} {z:α} {xs:List α} {sz n:Nat} (hp:∀ x,plainL (enc x)=true):soLe μ (.row false sz n (zu enc z xs)) (.row false sz n (zu enc z xs)):=
 yi fun i hi=>qx (hp _)
open Go.Pl in
theorem zo4 {μ:Nat→Nat} {α:Type} {enc:α→List SV} {z:α} {g:Int→α} {c k:Int} {a:List α} {i sz n:Nat} {f:Nat→List SV} (hp:∀ x,plainL (enc x)=true) (hf:∀ j,j<n→f j=if j=i then enc (g (k+c * i)) else zu enc z (mkd g c k a i) j) :
  soLe μ (.row false sz n (zu enc z (mkd g c k a (i+1)))) (.row false sz n f):=by
 refine yi fun j hj=>?_;rw [hf j hj];simp only [zu,mkd_get];rw [qx (hp _)];by_cases h1:j=i
 ·subst h1;rw [if_pos (by omega),if_pos rfl]
 ·rw [if_neg h1];by_cases h2:j<i
  ·rw [if_pos (by omega),if_pos h2]
  ·rw [if_neg (by omega),if_neg h2]
def j4 (b:List UInt8):List SV:=[.s b]
def intc (n:Int):List SV:=[.i .i64 n]
def zc1 (b:Bool):List SV:=[.b b]
def j7 (b:UInt8):List SV:=[.i .u8 b.toNat]
theorem zhi {l m:List (List UInt8)}:l.map j4=m.map j4↔l=m:=zbw fun a b h=>by simpa [j4] using h
theorem intc_inj {l m:List Int}:l.map intc=m.map intc↔l=m:=zbw fun a b h=>by simpa [intc] using h
theorem booc_inj {l m:List Bool}:l.map zc1=m.map zc1↔l=m:=zbw fun a b h=>by simpa [zc1] using h
theorem zq7 (a:List (List UInt8)) (i:Nat):(a.map j4).getD i [.s []]=[.s (a.getD i [])]:=uu j4 a i []
theorem zq9 (a:List Int) (i:Nat):(a.map intc).getD i [.i .i64 0]=[.i .i64 (a.getD i 0)]:=uu intc a i 0
theorem zrb (a:List Bool) (i:Nat):(a.map zc1).getD i [.b false]=[.b (a.getD i false)]:=uu zc1 a i false
theorem zra (a:List UInt8) (i:Nat):(a.map j7).getD i [.i .u8 0]=[.i .u8 (a.getD i 0).toNat]:=uu j7 a i 0
theorem zul {a:List (List UInt8)} {i:Nat}:zu j4 [] a i=[.s (a.getD i [])]:=id rfl
theorem zum {a:List Int} {i:Nat}:zu intc 0 a i=[.i .i64 (a.getD i 0)]:=id rfl
theorem zuo {a:List Bool} {i:Nat}:zu zc1 false a i=[.b (a.getD i false)]:=id rfl
theorem zun {a:List UInt8} {i:Nat}:zu j7 0 a i=[.i .u8 (a.getD i 0).toNat]:=id rfl
theorem rowH {α:Type} {enc:α→List SV} {z:α} (hp:∀ x,plainL (enc x)=true) {μ:Nat→Nat} {r:Bool} {sz n:Nat} {a:List α}:SO.mapH μ (.row r sz n (zu enc z a))=.row r sz n (zu enc z a):=by simp only [SO.mapH];congr 1;funext i;exact qx (hp _)
theorem zuh {μ:Nat→Nat} {r:Bool} {sz n:Nat} {a:List (List UInt8)}:SO.mapH μ (.row r sz n (zu j4 [] a))=.row r sz n (zu j4 [] a):=rowH fun _=>rfl
theorem zui {μ:Nat→Nat} {r:Bool} {sz n:Nat} {a:List Int}:SO.mapH μ (.row r sz n (zu intc 0 a))=.row r sz n (zu intc 0 a):=rowH fun _=>rfl
theorem zuk {μ:Nat→Nat} {r:Bool} {sz n:Nat} {a:List Bool}:SO.mapH μ (.row r sz n (zu zc1 false a))=.row r sz n (zu zc1 false a):=rowH fun _=>rfl
theorem zuj {μ:Nat→Nat} {r:Bool} {sz n:Nat} {a:List UInt8}:SO.mapH μ (.row r sz n (zu j7 0 a))=.row r sz n (zu j7 0 a):=rowH fun _=>rfl
theorem zqb {μ:Nat→Nat} {o:SO}:Option.map (SO.mapH μ) (some o)=some (o.mapH μ):=id rfl
theorem XR:type_of% (ai (ai @zqb (ai (ai @zuh @zui) (ai @zuk @zuj))) <| ai (ai @zq7 @zq9) (ai (ai @zrb @zra) (ai (ai @zul @zum) (ai @zuo @zun)))):=ai (ai @zqb (ai (ai @zuh @zui) (ai @zuk @zuj))) <| ai (ai @zq7 @zq9) (ai (ai @zrb @zra) (ai (ai @zul @zum) (ai @zuo @zun)))
theorem muL_nil {n h:Nat}:muL [] n h=n+h:=by simp [muL]
/-- A call of a function that makes new rows: they stand behind the caller's own. -/
theorem yp.own {P:Program} {f:FuncId} {args:List SV} {Z:SV} {C:Ctx} (hF:FnK P f 0 args [] fun z c=>z=Z∧c=C) (hp:plainL args=true) {kk:Nat} {st:St} {K:Sl (SV×St)}
  (hK:K.f (Z.mapH (fun h=>st.ctx.length+h),⟨st.env,st.ctx++C.map fun o=>o.map (SO.mapH fun h=>st.ctx.length+h)⟩)):yp P f args kk st K:=by
 have hmu:muL [] st.ctx.length=fun h=>st.ctx.length+h:=funext fun h=>muL_nil;refine zhb.of hF [] (by rw [qx hp]) trivial (.inl rfl) (zi4) rfl (.inl rfl) zab ?_;rintro z c ⟨rfl,rfl⟩;rw [hmu];simp only [List.drop_nil,zen];unfold jw;simp only [upd,List.length_nil,List.drop_zero];exact hK
/-- A call of a function that writes what it was handed: nothing comes to lie elsewhere. -/
theorem yp.mut {P:Program} {f:FuncId} {k:Nat} {args0:List SV} {pre:Ctx} {Z:SV} {C:Ctx} (hF:FnK P f k args0 pre fun z c=>z=Z∧c=C) (hkl:pre.length=k) (l:List Nat) {args:List SV} {kk:Nat} {st:St} {K:Sl (SV×St)}
  (hargs:jd (muL l st.ctx.length) args0=args) (hmap:ve (muL l st.ctx.length) st.ctx l pre) (hnd:l.Nodup)
  (hK:K.f (Z.mapH (muL l st.ctx.length),⟨st.env,jw (muL l st.ctx.length) l pre C st.ctx⟩)):yp P f args kk st K:=by
 subst hkl;have hl:=(zft hmap).1;have hd:l.drop pre.length=[]:=by rw [←hl];exact List.drop_length
 refine zhb.of hF l hargs.symm hmap (.inr hnd) (by simp [z6]) (by rw [hd];rfl) (.inl hd) (by rw [hd];exact zab) ?_;rintro z c ⟨rfl,rfl⟩;rw [hd,zen];exact hK
/-- What is frozen of rows that a function has made. -/
theorem PF.ofOwn {P:Program} {f:FuncId} {args:List SV} {Z z:SV} {C:Ctx} (hF:FnK P f 0 args [] fun z c=>z=Z∧c=C) (hp:plainL args=true) (hz:z.plain=true) (h:vz C Z∧zcj C Z=z):PF P f args z:=
 ⟨hp,hz,hF.mono (by rintro _ _ ⟨rfl,rfl⟩;exact h)⟩
end Go.Vg
end
section
namespace Go.Vg
variable [Go.Vg.Glob]
def nlV (x y:SV):Prop:=x=y∨(x=.nils∧∃ h lo,y=.slc h lo 0)
def nlL:List SV→List SV→Prop
 | [],[]=>True
 | x::xs,y::ys=>nlV x y∧nlL xs ys
 | _,_=>False
def nlO:Option SO→Option SO→Prop
 | some (.blk r cs),some (.blk q ds)=>r=q∧nlL cs ds
 | o,p=>o=p
def nlC:Ctx→Ctx→Prop
 | [],[]=>True
 | o::r,p::q=>nlO o p∧nlC r q
 | _,_=>False
def nlE (env:List (Tmp×SV)):List (Tmp×SV)→Prop
 | []=>True
 | (t,x)::r=>nlV (look env t) x∧nlE env r
theorem z06 {σ:Asg} {x y:SV} (h:nlV x y) {v:Value} (hr:rel σ x v):rel σ y v:=by
 rcases h with rfl | ⟨rfl,q,lo,rfl⟩
 ·exact hr
 ·simp only [rel] at hr ⊢;exact ⟨none,0,hr,Nat.le_refl _,.inl rfl⟩
theorem nlE_get {env:List (Tmp×SV)}:∀ {e:List (Tmp×SV)},nlE env e→∀ t,look e t=.u∨nlV (look env t) (look e t)
 | [],_,t=>.inl rfl
 | (u,x)::r,h,t=>by
  simp only [nlE] at h;simp only [look];by_cases hu:u=t
  ·rw [if_pos hu];subst hu;exact .inr h.1
  ·rw [if_neg hu];exact nlE_get h.2 t
theorem z07 {σ:Asg}:∀ {xs ys:List SV},nlL xs ys→xs.length=ys.length∧∀ k v,rel σ (xs.getD k .u) v→rel σ (ys.getD k .u) v
 | [],[],_=>⟨rfl,fun k v h=>h⟩
 | x::xs,y::ys,h=>by
  simp only [nlL] at h;obtain ⟨h1,h2⟩:=z07 (σ:=σ) h.2;refine ⟨by simp [h1],fun k v hv=>?_⟩;cases k with
  | zero=>simp only [List.getD_cons_zero] at hv ⊢;exact z06 h.1 hv
  | succ k=>simp only [List.getD_cons_succ] at hv ⊢;exact h2 k v hv
 | [],_::_,h=>by simp [nlL] at h
 | _::_,[],h=>by simp [nlL] at h
theorem nlO_sat {σ:Asg} {w:World} {h:Nat}:∀ {o p:Option SO},nlO o p→∀ {q:SO},p=some q→∃ r,o=some r∧r.ro=q.ro∧(qc σ w h r→qc σ w h q):=by
 intro o p hn q hq;subst hq;unfold nlO at hn;split at hn
 ·rename_i r cs q' ds heq;cases heq;obtain ⟨rfl,hl⟩:=hn;refine ⟨_,rfl,rfl,fun hs=>?_⟩;obtain ⟨hlen,hg⟩:=z07 (σ:=σ) hl;simp only [qc,SO.isMap] at hs ⊢;rcases hs with ⟨h1,h2⟩ | ⟨L,c,e,fr,h1,h2⟩
  ·exact .inl ⟨h1,h2⟩
  ·have h3:=h2.lsz;have h4:=h2.fits;have h5:=h2.cell;simp only [SO.sz,SO.n,SO.el] at h3 h4 h5;refine .inr ⟨L,c,e,fr,h1,h2.heap,by simp only [SO.sz];omega,h2.room,by simp only [SO.sz,SO.n];omega,fun i k hi hk=>?_,h2.free⟩;simp only [SO.sz,SO.el,SO.n] at hi hk ⊢;obtain ⟨v,hv,hr⟩:=h5 i k hi (by omega);refine ⟨v,by rw [←hlen];exact hv,hg k v hr⟩
 ·exact ⟨q,hn,rfl,id⟩
theorem nlC_at:∀ {c d:Ctx},nlC c d→c.length=d.length∧∀ h,nlO (c.at h) (d.at h)
 | [],[],_=>⟨rfl,fun h=>by simp [Ctx.at,nlO]⟩
 | o::r,p::q,h=>by
  simp only [nlC] at h;obtain ⟨h1,h2⟩:=nlC_at h.2;refine ⟨by simp [h1],fun k=>?_⟩;cases k with
  | zero=>rw [zq,zq];exact h.1
  | succ k=>rw [zo,zo];exact h2 k
 | [],_::_,h=>by simp [nlC] at h
 | _::_,[],h=>by simp [nlC] at h
/-- Rows without elements come out of nothing;what was nil may lie in them. -/
theorem Ent.nl {k:Nat} {env env':List (Tmp×SV)} {c d:Ctx} (es:List (Nat×(Nat→List SV))) (he:nlE env env') (hc:nlC c d):Ent k ⟨env,c⟩ ⟨env',d++es.map fun p=>some (.row false p.1 0 p.2)⟩:=by
 intro A σ a w hk hR;obtain ⟨hlen,hat⟩:=nlC_at hc;have old:∀ h,h<d.length→Ctx.at (d++es.map fun p=>some (.row false p.1 0 p.2)) h=d.at h:=by intro h hh;simp only [Ctx.at,List.getD_eq_getElem?_getD,List.getElem?_append_left hh]
 have new:∀ h o,d.length≤h→Ctx.at (d++es.map fun p=>some (.row false p.1 0 p.2)) h=some o→o.n=0∧o.isMap=false:=by
  intro h o hh ho;simp only [Ctx.at,List.getD_eq_getElem?_getD,List.getElem?_append_right hh,List.getElem?_map] at ho;cases hx:es[h-d.length]? with
  | none=>rw [hx] at ho;cases ho
  | some p=>rw [hx] at ho;simp at ho;subst ho;exact ⟨rfl,rfl⟩
 have get:∀ h o,Ctx.at (d++es.map fun p=>some (.row false p.1 0 p.2)) h=some o→(h<c.length∧∃ r,c.at h=some r∧r.ro=o.ro∧(qc σ w h r→qc σ w h o))∨(σ h=none∧qc σ w h o):=by
  intro h o ho;rcases Nat.lt_or_ge h d.length with hh | hh
  ·rw [old h hh] at ho;obtain ⟨r,h1,h2,h3⟩:=nlO_sat (σ:=σ) (w:=w) (h:=h) (hat h) ho;exact .inl ⟨by omega,r,h1,h2,h3⟩
  ·have hn:σ h=none:=hR.sat.beyond h (by simp only;omega);obtain ⟨h1,h2⟩:=new h o hh ho;exact .inr ⟨hn,by simp only [qc,h2];exact .inl ⟨h1,hn⟩⟩
 refine ⟨σ,hR.defers,hR.size,fun t=>?_,⟨fun h o ho=>?_,fun h h' o o' L L' hne e1 e2 hro s1 s2=>?_,fun h hh=>?_,hR.sat.inHeap,hR.sat.frz,fun h o L e hro s=>?_,hR.sat.glb⟩,hR.fr,fun h o L e hro s=>?_,hR.base, ?_⟩
 ·rcases nlE_get he t with h | h
  ·rw [h];simp [rel]
  ·exact z06 h (hR.env t)
 ·rcases get h o ho with ⟨_,r,h1,_,h3⟩ | ⟨_,h3⟩
  ·exact h3 (hR.sat.obj h r h1)
  ·exact h3
 ·rcases get h o e1 with ⟨_,r,h1,h2,_⟩ | ⟨h1,_⟩
  ·rcases get h' o' e2 with ⟨_,r',h1',_,_⟩ | ⟨h1',_⟩
   ·exact hR.sat.apart h h' r r' L L' hne h1 h1' (by rw [h2];exact hro) s1 s2
   ·rw [h1'] at s2;cases s2
  ·rw [h1] at s1;cases s1
 ·exact hR.sat.beyond h (by simp only [List.length_append] at hh ⊢;omega)
 ·rcases get h o e with ⟨_,r,h1,h2,_⟩ | ⟨h1,_⟩
  ·exact hR.sat.frzA h r L h1 (by rw [h2];exact hro) s
  ·rw [h1] at s;cases s
 ·rcases get h o e with ⟨_,r,h1,h2,_⟩ | ⟨h1,_⟩
  ·exact hR.own h r L h1 (by rw [h2];exact hro) s
  ·rw [h1] at s;cases s
 ·have:=hR.klen;simp only [List.length_append] at this ⊢;omega
/-- A call of a function that may put other rows in place of those that it was handed. -/
theorem yp.reb {P:Program} {f:FuncId} {k:Nat} {args0:List SV} {pre:Ctx} {Z:SV} {C:Ctx} (hF:FnK P f k args0 pre fun z c=>z=Z∧c=C) (l:List Nat) {args:List SV} {kk:Nat} {st:St} {K:Sl (SV×St)}
  (hargs:jd (muL l st.ctx.length) args0=args) (hmap:ve (muL l st.ctx.length) st.ctx l pre) (hnd:l.Nodup) (hrw:z6 k pre) (hfix:(l.drop k).all (fun g=>decide (kk≤g))=true) (hclean:jf (l.drop k) (zdm l pre) 0 st.ctx)
  (hK:K.f (Z.mapH (muL l st.ctx.length),⟨zbu (l.drop k) st.env,jw (muL l st.ctx.length) l pre C st.ctx⟩)):yp P f args kk st K:=by
 refine zhb.of hF l hargs.symm hmap (.inr hnd) hrw hfix (.inr hnd) hclean ?_;rintro z c ⟨rfl,rfl⟩;exact hK
theorem zl9 {B:List Nat} {t:Tmp} {x:SV} {r:List (Tmp×SV)}:zbu B ((t,x)::r)=(t,if noH B x then x else .u)::zbu B r:=id rfl
theorem zl8 {B:List Nat}:zbu B []=[]:=id rfl
theorem zgs {cut:List Nat} {i:Nat} {a:Array Oper} {b:Bool}:zby cut (.region i a b)=cut.contains i:=id rfl
theorem zjd {cut:List Nat} {i:Nat} {x:Code}:zby cut (.block i x)=cut.contains (1000+i):=id rfl
theorem zqx {cut:List Nat} {x y:Code}:zby cut (.seq x y)=zby cut x:=id rfl
theorem zmg {cut:List Nat} {x:Code}:zby cut (.loop x)=zby cut x:=id rfl
theorem zmi {cut:List Nat} {c:Operand} {x y:Code}:zby cut (.cond c x y)=false:=id rfl
theorem zmf {cut:List Nat}:zby cut .skip=false:=id rfl
theorem zqy {cut:List Nat}:zby cut .ret=false:=id rfl
theorem zmh {cut:List Nat} {i:Nat}:zby cut (.exit i)=false:=id rfl
theorem zp:type_of% (ai (ai @vc_cut @zgs) (ai (ai @zjd @zqx) (ai (ai @zmg @zmi) (ai @zmf (ai @zqy @zmh))))):=ai (ai @vc_cut @zgs) (ai (ai @zjd @zqx) (ai (ai @zmg @zmi) (ai @zmf (ai @zqy @zmh))))
end Go.Vg
namespace Go.Vg
variable [Go.Vg.Glob]
/-- A function's end,where its state may first be read anew (what is nil as an empty row). -/
def FinX (te:TE) (k pl:Nat) (rs:List ResultVar) (Z:SV) (C:Ctx) (st:St):Prop:=∃ st',Ent k st st'∧FinE te k pl rs Z C st'
theorem FnK.ofX {cf:Cf} (hcf:cf.ok) {f:FuncId} {fn:Func} {c:Code} (hf:cf.P.funcs[f]?=some fn) (hb:fn.body=some c) (hname:(fn.name == "runtime.NumGoroutine")=false)
  (hnt:fn.ntmps=cf.nt) {args:List SV} {pre:Ctx} (hlen:args.length≤cf.nt) (hk:cf.k≤pre.length) {rs:List ResultVar} (hrs:fn.results.toList=rs) {Z:SV} {C:Ctx} (n:Nat)
  (h:vc cf (FinX cf.te cf.k pre.length rs Z C) n [.code c] ⟨zaa 0 args,pre⟩):FnK cf.P f cf.k args pre fun z c=>z=Z∧c=C:=by
 refine FnK.ofG hcf hf hb hname hnt hlen hk hrs (fun A σ0 st0 a w hAk _ hF hR0=>?_) n h;obtain ⟨st,hEnt,l,⟨h1,h2⟩,h3,h4,h5,h6⟩:=hF;obtain ⟨σ,hR⟩:=hEnt A σ0 a w hAk hR0;rw [←hrs] at h4;obtain ⟨z,v,hz,hv,hr⟩:=zb9 (P:=cf.P) hcf.te hR h4;subst hz;exact ⟨Z,v,C,σ.ren (muL l st.ctx.length),⟨rfl,rfl⟩,hv,(v7 _ _ _ _).1 hr,Rel.ren (st':=⟨[],C⟩) l h1 h2 h3 trivial hAk hR,h5,h6⟩
theorem FinX.of {te:TE} {k pl:Nat} {rs:List ResultVar} {Z:SV} {C:Ctx} {st:St} (h:FinE te k pl rs Z C st):FinX te k pl rs Z C st:=⟨st,Ent.refl _ _,h⟩
end Go.Vg
end
section
namespace Go.Vg
variable [Go.Vg.Glob]
theorem XT:type_of% (ai (ai (ai (ai (ai (ai (ai @zaa.eq_1 @zaa.eq_2) (ai @zqv.eq_1 @zqv.eq_2)) (ai (ai @tdOf.eq_1 @j8.eq_1) (ai @zop.eq_1 (ai @TD.isStruct.eq_1 @TD.isStruct.eq_2)))) (ai (ai (ai @ji.eq_1 @ji.eq_2) (ai @ji.eq_3 @ji.eq_4)) (ai (ai @cellsOf.eq_1 @cellsOf.eq_2) (ai @SO.isMap.eq_1 (ai @SO.isMap.eq_2 @SO.isMap.eq_3))))) (ai (ai (ai (ai @SO.sz.eq_1 @SO.sz.eq_2) (ai @SO.sz.eq_3 @SO.el.eq_1)) (ai (ai @SO.el.eq_2 @SO.el.eq_3) (ai @SO.n.eq_1 (ai @SO.n.eq_2 @SO.n.eq_3)))) (ai (ai (ai @SO.ro.eq_1 @SO.ro.eq_2) (ai @SO.ro.eq_3 @zfo.eq_1)) (ai (ai @xf.eq_1 @xf.eq_2) (ai @y5.eq_1 (ai @y5.eq_2 @y5.eq_3)))))) (ai (ai (ai (ai (ai @y5.eq_4 @y5.eq_5) (ai @y5.eq_6 @y5.eq_7)) (ai (ai @y5.eq_8 @y5.eq_9) (ai @y5.eq_10 (ai @y5.eq_11 @y5.eq_12)))) (ai (ai (ai @y5.eq_13 @wl.eq_1) (ai @wl.eq_2 @wl.eq_3)) (ai (ai @wl.eq_4 @wl.eq_5) (ai @wl.eq_6 (ai @wl.eq_7 @wl.eq_8))))) (ai (ai (ai (ai @wl.eq_9 @wl.eq_10) (ai @wl.eq_11 @spl.eq_1)) (ai (ai @spl.eq_2 @cellV.eq_1) (ai @cellV.eq_2 (ai @xl.eq_1 @zqw.eq_1)))) (ai (ai (ai @zqw.eq_2 @zqw.eq_3) (ai @fillS.eq_1 @fillS.eq_2)) (ai (ai @fillP.eq_1 @fillP.eq_2) (ai @zj0.eq_1 (ai @zj0.eq_2 @SO.put.eq_1))))))) (ai (ai (ai (ai (ai (ai @SO.put.eq_2 @SO.put.eq_3) (ai @SV.mapH.eq_1 @SV.mapH.eq_2)) (ai (ai @SV.mapH.eq_3 @SV.mapH.eq_4) (ai @SV.mapH.eq_5 (ai @SV.mapH.eq_6 @SV.mapH.eq_7)))) (ai (ai (ai @SV.mapH.eq_8 @SV.mapH.eq_9) (ai @SV.mapH.eq_10 @SV.mapH.eq_11)) (ai (ai @SV.mapH.eq_12 @SV.mapH.eq_13) (ai @SV.mapH.eq_14 (ai @zcj.eq_1 @zcj.eq_2))))) (ai (ai (ai (ai @zcj.eq_3 @zcj.eq_4) (ai @vn.eq_1 @vn.eq_2)) (ai (ai @vz.eq_1 @vz.eq_2) (ai @vz.eq_3 (ai @vz.eq_4 @jx.eq_1)))) (ai (ai (ai @jx.eq_2 @zgp.eq_1) (ai @SV.bit.eq_1 @SV.bit.eq_2)) (ai (ai @SV.bit.eq_3 @SV.bit.eq_4) (ai @SV.bit.eq_5 (ai @SV.bit.eq_6 @SV.bit.eq_7)))))) (ai (ai (ai (ai (ai @SV.bit.eq_8 @SV.bit.eq_9) (ai @SV.bit.eq_10 @bitL.eq_1)) (ai (ai @bitL.eq_2 @SV.plain.eq_1) (ai @SV.plain.eq_2 (ai @SV.plain.eq_3 @SV.plain.eq_4)))) (ai (ai (ai @SV.plain.eq_5 @SV.plain.eq_6) (ai @SV.plain.eq_7 @SV.plain.eq_8)) (ai (ai @SV.plain.eq_9 @SV.plain.eq_10) (ai @SV.plain.eq_11 (ai @SV.plain.eq_12 @SV.plain.eq_13))))) (ai (ai (ai (ai @SV.plain.eq_14 @plainL.eq_1) (ai @plainL.eq_2 @isE.eq_1)) (ai (ai @isE.eq_2 @isE.eq_3) (ai @isE.eq_4 (ai @isE.eq_5 @isE.eq_6)))) (ai (ai (ai @jd.eq_1 @jd.eq_2) (ai @zw5.eq_1 (ai @zw5.eq_2 @j9.eq_1))) (ai (ai @j9.eq_2 @gok.eq_1) (ai @gok.eq_2 (ai @gokL.eq_1 @gokL.eq_2)))))))):=(ai (ai (ai (ai (ai (ai (ai @zaa.eq_1 @zaa.eq_2) (ai @zqv.eq_1 @zqv.eq_2)) (ai (ai @tdOf.eq_1 @j8.eq_1) (ai @zop.eq_1 (ai @TD.isStruct.eq_1 @TD.isStruct.eq_2)))) (ai (ai (ai @ji.eq_1 @ji.eq_2) (ai @ji.eq_3 @ji.eq_4)) (ai (ai @cellsOf.eq_1 @cellsOf.eq_2) (ai @SO.isMap.eq_1 (ai @SO.isMap.eq_2 @SO.isMap.eq_3))))) (ai (ai (ai (ai @SO.sz.eq_1 @SO.sz.eq_2) (ai @SO.sz.eq_3 @SO.el.eq_1)) (ai (ai @SO.el.eq_2 @SO.el.eq_3) (ai @SO.n.eq_1 (ai @SO.n.eq_2 @SO.n.eq_3)))) (ai (ai (ai @SO.ro.eq_1 @SO.ro.eq_2) (ai @SO.ro.eq_3 @zfo.eq_1)) (ai (ai @xf.eq_1 @xf.eq_2) (ai @y5.eq_1 (ai @y5.eq_2 @y5.eq_3)))))) (ai (ai (ai (ai (ai @y5.eq_4 @y5.eq_5) (ai @y5.eq_6 @y5.eq_7)) (ai (ai @y5.eq_8 @y5.eq_9) (ai @y5.eq_10 (ai @y5.eq_11 @y5.eq_12)))) (ai (ai (ai @y5.eq_13 @wl.eq_1) (ai @wl.eq_2 @wl.eq_3)) (ai (ai @wl.eq_4 @wl.eq_5) (ai @wl.eq_6 (ai @wl.eq_7 @wl.eq_8))))) (ai (ai (ai (ai @wl.eq_9 @wl.eq_10) (ai @wl.eq_11 @spl.eq_1)) (ai (ai @spl.eq_2 @cellV.eq_1) (ai @cellV.eq_2 (ai @xl.eq_1 @zqw.eq_1)))) (ai (ai (ai @zqw.eq_2 @zqw.eq_3) (ai @fillS.eq_1 @fillS.eq_2)) (ai (ai @fillP.eq_1 @fillP.eq_2) (ai @zj0.eq_1 (ai @zj0.eq_2 @SO.put.eq_1))))))) (ai (ai (ai (ai (ai (ai @SO.put.eq_2 @SO.put.eq_3) (ai @SV.mapH.eq_1 @SV.mapH.eq_2)) (ai (ai @SV.mapH.eq_3 @SV.mapH.eq_4) (ai @SV.mapH.eq_5 (ai @SV.mapH.eq_6 @SV.mapH.eq_7)))) (ai (ai (ai @SV.mapH.eq_8 @SV.mapH.eq_9) (ai @SV.mapH.eq_10 @SV.mapH.eq_11)) (ai (ai @SV.mapH.eq_12 @SV.mapH.eq_13) (ai @SV.mapH.eq_14 (ai @zcj.eq_1 @zcj.eq_2))))) (ai (ai (ai (ai @zcj.eq_3 @zcj.eq_4) (ai @vn.eq_1 @vn.eq_2)) (ai (ai @vz.eq_1 @vz.eq_2) (ai @vz.eq_3 (ai @vz.eq_4 @jx.eq_1)))) (ai (ai (ai @jx.eq_2 @zgp.eq_1) (ai @SV.bit.eq_1 @SV.bit.eq_2)) (ai (ai @SV.bit.eq_3 @SV.bit.eq_4) (ai @SV.bit.eq_5 (ai @SV.bit.eq_6 @SV.bit.eq_7)))))) (ai (ai (ai (ai (ai @SV.bit.eq_8 @SV.bit.eq_9) (ai @SV.bit.eq_10 @bitL.eq_1)) (ai (ai @bitL.eq_2 @SV.plain.eq_1) (ai @SV.plain.eq_2 (ai @SV.plain.eq_3 @SV.plain.eq_4)))) (ai (ai (ai @SV.plain.eq_5 @SV.plain.eq_6) (ai @SV.plain.eq_7 @SV.plain.eq_8)) (ai (ai @SV.plain.eq_9 @SV.plain.eq_10) (ai @SV.plain.eq_11 (ai @SV.plain.eq_12 @SV.plain.eq_13))))) (ai (ai (ai (ai @SV.plain.eq_14 @plainL.eq_1) (ai @plainL.eq_2 @isE.eq_1)) (ai (ai @isE.eq_2 @isE.eq_3) (ai @isE.eq_4 (ai @isE.eq_5 @isE.eq_6)))) (ai (ai (ai @jd.eq_1 @jd.eq_2) (ai @zw5.eq_1 (ai @zw5.eq_2 @j9.eq_1))) (ai (ai @j9.eq_2 @gok.eq_1) (ai @gok.eq_2 (ai @gokL.eq_1 @gokL.eq_2))))))))
theorem XM:type_of% (ai (ai (ai (ai (@jw.eq_1) (ai (@upd.eq_1) (@upd.eq_2))) (ai (ai (@upd.eq_3) (@muL.eq_1)) (ai (@SO.mapH.eq_1) (@SO.mapH.eq_2)))) (ai (ai (@SO.mapH.eq_3) (ai (@noH.eq_1) (@noH.eq_2))) (ai (ai (@noH.eq_3) (@noH.eq_4)) (ai (@noH.eq_5) (@noH.eq_6))))) (ai (ai (ai (@noH.eq_7) (ai (@zdk.eq_1) (@zdk.eq_2))) (ai (ai (@List.getElem?_nil.{0}) (@List.drop_nil.{0})) (ai (@Option.map_none.{0,0}) (@zl9)))) (ai (ai (@zl8) (ai (@List.getElem?_cons_zero.{0}) (@List.getElem?_cons_succ.{0}))) (ai (ai (@List.drop_succ_cons.{0}) (@List.drop_zero.{0})) (ai (@List.contains_cons.{0}) (@List.contains_nil.{0})))))):=ai (ai (ai (ai (@jw.eq_1) (ai (@upd.eq_1) (@upd.eq_2))) (ai (ai (@upd.eq_3) (@muL.eq_1)) (ai (@SO.mapH.eq_1) (@SO.mapH.eq_2)))) (ai (ai (@SO.mapH.eq_3) (ai (@noH.eq_1) (@noH.eq_2))) (ai (ai (@noH.eq_3) (@noH.eq_4)) (ai (@noH.eq_5) (@noH.eq_6))))) (ai (ai (ai (@noH.eq_7) (ai (@zdk.eq_1) (@zdk.eq_2))) (ai (ai (@List.getElem?_nil.{0}) (@List.drop_nil.{0})) (ai (@Option.map_none.{0,0}) (@zl9)))) (ai (ai (@zl8) (ai (@List.getElem?_cons_zero.{0}) (@List.getElem?_cons_succ.{0}))) (ai (ai (@List.drop_succ_cons.{0}) (@List.drop_zero.{0})) (ai (@List.contains_cons.{0}) (@List.contains_nil.{0})))))
end Go.Vg
end
section
namespace Go.Vg
variable [Go.Vg.Glob]
open Go.RowKit
/-- A law's function,from values that lie in the world as it is. -/
theorem law_pure {P:Program} {f:FuncId} {args:List SV} {w:World} {vs:Array Value} (h:PF P f args (.b true)) (hv:relL ⟨fun _=>none,fun b=>w.heap[b]?⟩ args vs.toList) (hg:∀ b o,Glob.g b=some o→w.heap[b]?=some o) :
  Calls P f vs w fun e w'=>e=.returned (.bool true)∧Below w.heap.size w w':=by
 obtain ⟨_,_,_,h⟩:=h.call;refine (h (fun b=>w.heap[b]?) w vs (fun _ _ h=>h) hg hv).mono fun e w' ⟨v,fz',e1,e2,e3,_⟩=>?_;simp only [rel] at e2;subst e2;exact ⟨e1,e3.os,e3.tape,e3.output,e3.size,fun k hk=>e3.block k hk (fun h=>h)⟩
theorem relL_one {σ:Asg} {x:SV} {v:Value} (h:rel σ x v):relL σ [x] [v]:=by simp only [relL];exact ⟨_,_,rfl,h,rfl⟩
end Go.Vg
end
