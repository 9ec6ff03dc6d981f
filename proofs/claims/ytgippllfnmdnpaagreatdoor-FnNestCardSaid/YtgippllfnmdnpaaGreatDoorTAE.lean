/- Own text: part TAE. -/
import Derived.Test.YtgippllfnmdnpaaGreatDoorTAD
section
set_option linter.unusedVariables false
set_option linter.unusedSimpArgs false
set_option linter.unusedSectionVars false
set_option linter.unnecessarySimpa false
namespace Go.Vg
variable [Go.Vg.Glob]
open Go.RowKit
/-- A row's block marked behind its end: no cell is touched. -/
theorem zu9 {P:Program} {te:TE} (hte:j9 P te) {A:Amb} {σ:Asg} {st:St} {a:Act} {w:World} (hR:Rel A σ st a w) {t e:TypeId} (ht:tdOf te t=.slice e) (hu:ur te e=true) {h lo len sz n:Nat} {f:Nat→List SV}
  (hob:st.ctx.at h=some (.row false sz n f)) (hlen:0<len) {v:Value} (hv:rel σ (.slc h lo len) v) :
  ∃ w',(convert t t v).run P w=.ok v w'∧Rel A σ st a w':=by
 simp only [rel] at hv
 obtain ⟨ad,cap,rfl,hl,hv⟩:=hv
 rcases hv with hv | ⟨L,hL,rfl,hav⟩
 ·omega
 rcases live_cells hR.sat hob rfl with ⟨_,h0⟩ | ⟨L',c,e',fr,hL',hc⟩
 ·rw [h0] at hL;cases hL
 rw [hL'] at hL
 cases hL
 have hb:=hR.sat.inHeap h L hL'
 have hshape:w.shape? L.b=some (e',c.size):=by simp [World.shape?,hc.heap]
 have hfz:w.freeze ⟨L.b,c.size,none⟩ 1={ w with heap:=w.heap.setIfInBounds L.b (.cells c e' (if fr.1==fr.2 then (c.size,c.size+1) else (min fr.1 c.size,max fr.2 (c.size+1)))) }:=by
  simp only [World.freeze,Nat.succ_ne_zero,if_false]
  congr 1
  apply Array.ext_getElem?
  intro j
  rw [Array.getElem?_modify,jc]
  by_cases hj:L.b=j
  ·subst hj
   rw [if_pos rfl,if_pos rfl,if_pos hb,hc.heap]
   obtain ⟨f1,f2⟩:=fr
   simp
  ·rw [if_neg hj,if_neg (Ne.symm hj)]
 refine ⟨{ w with heap:=w.heap.setIfInBounds L.b (.cells c e' (if fr.1==fr.2 then (c.size,c.size+1) else (min fr.1 c.size,max fr.2 (c.size+1)))) }, ?_, ?_⟩
 ·have h1:P.underlying e=some (.int .u8):=vq hte (zgs hu)
  simp only [convert,Sem.run_bind,qc (qq hte ht),Result.andThen_ok,beq_self_eq_true,qc h1,markStringish,run_shape,vp,hshape,run_freeze,hfz,Sem.run_pure]
 ·have hset:(st.setObj h (some (.row false sz n f)))=st:=by
   unfold St.setObj
   have hlt:=zpw hob
   have:st.ctx.set h (some (.row false sz n f))=st.ctx:=by
    have h1:st.ctx[h]?=some (some (.row false sz n f)):=by
     unfold Ctx.at at hob
     rw [List.getD_eq_getElem?_getD,List.getElem?_eq_getElem hlt] at hob
     rw [List.getElem?_eq_getElem hlt]
     simpa using hob
    apply List.ext_getElem?
    intro j
    rw [List.getElem?_set]
    split
    ·rename_i hj;subst hj;rw [h1]
    ·rfl
   rw [this]
  have:=hR.write (o':=.row false sz n f) hob rfl rfl hL' (.cells c e' (if fr.1==fr.2 then (c.size,c.size+1) else (min fr.1 c.size,max fr.2 (c.size+1)))) (by
   unfold qf
   refine .inr ⟨L,c,e',(if fr.1==fr.2 then (c.size,c.size+1) else (min fr.1 c.size,max fr.2 (c.size+1))),hL',⟨by simp only [jc,if_true,if_pos hb],hc.lsz,hc.room,hc.fits,hc.cell,fun _=>?_⟩⟩
   right
   rcases hc.free rfl with h1 | h1
   ·simp [h1]
   ·split
    ·exact Nat.le_refl _
    ·simp;omega)
  rw [hset] at this
  exact this
theorem zdp {P:Program} {s:Sem Unit} {w w':World} (h:s.run P w=.ok () w'):((do s;pure .skip):Sem Next).run P w=.ok .skip w':=by simp [h]
theorem zle {P:Program} {te:TE} (hte:j9 P te) {A:Amb} {σ:Asg} {st:St} {a:Act} {w:World} (hR:Rel A σ st a w) {t xt:TypeId} (hxt:match tdOf te xt with | .slice _=>True | .str=>True | _=>False)
  {s x:SV} {vs vx:Value} (hs:rel σ s vs) (hx:rel σ x vx) {K:SV→St→Prop} (ty:TypeId) (h:zlf te st t s x K) :
  ∃ z st' v σ' w',K z st'∧(Builtin.append_ #[t,xt] ty #[vs,vx]).run P w=.ok v w'∧leA σ σ'∧rel σ' z v∧Rel A σ' st' a w':=by
 unfold zlf at h
 split at h
 ·rename_i e ht
  split at h
  ·rename_i ti hti
   obtain ⟨hz,hb,h⟩:=h
   split at h
   ·obtain ⟨m,g,h,hsrc⟩:=zjb (P:=P) hR hx h
    obtain ⟨hroom,h⟩:=h.out
    simp only [rel] at hs
    subst hs
    obtain ⟨v,σ',w',h1,h2,h3,h4⟩:=append_nil hte hR ht hti hxt hz hb hsrc ty hroom
    exact ⟨_,_,v,σ',w',h,h1,h2,h3,h4⟩
   ·rename_i hh lo len
    split at h
    ·rename_i sz' n f hob
     obtain ⟨rfl,h⟩:=h
     obtain ⟨m,g,h,hsrc⟩:=zjb (P:=P) hR hx h
     obtain ⟨⟨hin,hroom⟩,h⟩:=h.out
     obtain ⟨v,σ',w',h1,h2,h3,h4⟩:=zvo hte hR ht hti hxt hz hb hob hin hs hsrc ty hroom
     exact ⟨_,_,v,σ',w',h,h1,h2,h3,h4⟩
    ·exact h.elim
   ·exact h.elim
  ·exact h.elim
 ·exact h.elim
theorem zuh {P:Program} {te:TE} (hte:j9 P te) {A:Amb} {σ:Asg} {st:St} {a:Act} {w:World} (hR:Rel A σ st a w) {o:Oper} {K:SV→St→Prop}
  (h:zm1 te st o.op K):OutM P A σ a w (execOp a.eval o) K:=by
 obtain ⟨dst,op,ty,pos,after,guard⟩:=o
 simp only at h ⊢
 unfold zm1 at h
 split at h
 case h_1 t=>
  split at h
  ·rename_i ti hti
   obtain ⟨v,σ',w',h1,h2,h3,h4⟩:=zrb hte hR hti
   exact ⟨_,_,v,σ',w',h,.inl (qx h1),h2,h3,h4⟩
  ·exact h.elim
 case h_2 t x=>
  obtain ⟨hok,h⟩:=h
  obtain ⟨v,σ',w',h1,h2,h3,h4⟩:=zzz (P:=P) hR (t:=t) hok (hR.ev x)
  exact ⟨_,_,v,σ',w',h,.inl (qx h1),h2,h3,h4⟩
 case h_3 t x y=>
  split at h
  ·rename_i hh i k hx
   split at h
   ·rename_i ob ti hob hti
    obtain ⟨hm,hro,hok,hlen,hall,hel,hk,h⟩:=h
    obtain ⟨hi,h⟩:=h.out
    obtain ⟨w',h1,h2⟩:=zqk hte hR hti hob hm hro hi hok hlen hall hel hk (by have:=hR.ev x;rw [hx] at this;exact this) (hR.ev y)
    exact ⟨_,_,undef,σ,w',h,.inr ⟨zdp h1,rfl⟩,leA.refl σ,by simp [rel],h2⟩
   ·exact h.elim
  ·exact h.elim
 case h_4 t r=>
  obtain ⟨hr,h⟩:=h
  have hrun:∀ kt vt,tdOf te t=.map kt vt→(Instr.makeMap t (r.map a.eval)).run P w=.ok (.map (some w.heap.size)) { w with heap:=w.heap.push (.map #[] 0) }:=by
   intro kt vt ht
   cases r with
   | none=>simp [Instr.makeMap]
   | some x=>
    simp only at hr
    split at hr
    ·rename_i k n hx
     have:=hR.ev x
     rw [hx] at this
     simp only [rel] at this
     simp [Instr.makeMap,qc (zqg hte ht),this,asInt,asIntOf]
    ·exact hr.elim
  split at h
  ·rename_i kt vt ht
   split at h
   ·obtain ⟨σ',h1,h2,h3⟩:=zd6 (P:=P) hR (.mapS []) rfl rfl rfl
    exact ⟨_,_,_,σ',_,h,.inl (qx (hrun kt vt ht)),h1,h2,h3⟩
   ·obtain ⟨σ',h1,h2,h3⟩:=zd6 (P:=P) hR (.mapI []) rfl rfl rfl
    exact ⟨_,_,_,σ',_,h,.inl (qx (hrun kt vt ht)),h1,h2,h3⟩
   ·exact h.elim
  ·exact h.elim
 case h_5 t m k x=>
  split at h
  ·rename_i hh s v kt vt hm hk hx ht
   split at h
   ·rename_i l hob
    obtain ⟨hkt,h⟩:=h
    have e1:=hR.ev m
    have e2:=hR.ev k
    have e3:=hR.ev x
    rw [hm] at e1
    rw [hk] at e2
    rw [hx] at e3
    simp only [rel] at e2 e3
    obtain ⟨w',h1,h2⟩:=ux hte hR keyS ht (jm hte hkt) (o':=.mapS (zbh l s v)) (x:=v) hob rfl rfl rfl rfl rfl rfl e1
    refine ⟨_,_,undef,σ,w',h,.inr ⟨zdp ?_,rfl⟩,leA.refl σ,by simp [rel],h2⟩
    rw [e2,e3];exact h1
   ·exact h.elim
  ·rename_i hh s v kt vt hm hk hx ht
   split at h
   ·rename_i l hob
    obtain ⟨hkt,h⟩:=h
    have e1:=hR.ev m
    have e2:=hR.ev k
    have e3:=hR.ev x
    rw [hm] at e1
    rw [hk] at e2
    rw [hx] at e3
    simp only [rel] at e2 e3
    obtain ⟨w',h1,h2⟩:=ux hte hR keyI ht (vq hte hkt) (o':=.mapI (zbh l s v)) (x:=v) hob rfl rfl rfl rfl rfl rfl e1
    refine ⟨_,_,undef,σ,w',h,.inr ⟨zdp ?_,rfl⟩,leA.refl σ,by simp [rel],h2⟩
    rw [e2,e3];exact h1
   ·exact h.elim
  ·exact h.elim
 case h_6 t m k x=>
  split at h
  ·rename_i hh s v kt vt hm hk hx ht
   split at h
   ·rename_i l hob
    obtain ⟨hkt,h⟩:=h
    have e1:=hR.ev m
    have e2:=hR.ev k
    have e3:=hR.ev x
    rw [hm] at e1
    rw [hk] at e2
    rw [hx] at e3
    simp only [rel] at e2 e3
    obtain ⟨w',h1,h2⟩:=ux hte hR keyS ht (jm hte hkt) (o':=.mapS (zbh l s v)) (x:=v) hob rfl rfl rfl rfl rfl rfl e1
    refine ⟨_,_,undef,σ,w',h,.inr ⟨zdp ?_,rfl⟩,leA.refl σ,by simp [rel],h2⟩
    rw [e2,e3];exact h1
   ·exact h.elim
  ·rename_i hh s v kt vt hm hk hx ht
   split at h
   ·rename_i l hob
    obtain ⟨hkt,h⟩:=h
    have e1:=hR.ev m
    have e2:=hR.ev k
    have e3:=hR.ev x
    rw [hm] at e1
    rw [hk] at e2
    rw [hx] at e3
    simp only [rel] at e2 e3
    obtain ⟨w',h1,h2⟩:=ux hte hR keyI ht (vq hte hkt) (o':=.mapI (zbh l s v)) (x:=v) hob rfl rfl rfl rfl rfl rfl e1
    refine ⟨_,_,undef,σ,w',h,.inr ⟨zdp ?_,rfl⟩,leA.refl σ,by simp [rel],h2⟩
    rw [e2,e3];exact h1
   ·exact h.elim
  ·exact h.elim
 case h_7 t len parts=>
  split at h
  ·rename_i e ht
   split at h
   ·rename_i ti hti
    obtain ⟨hz,hlen,hall,h⟩:=h
    split at h
    ·rename_i l hf
     obtain ⟨v,σ',w',h1,h2,h3,h4⟩:=zgj hte hR ht hti hz hlen (ps:=parts.toList.map fun p=>(p.1,st.ev p.2)) (vs:=parts.map fun p=>(p.1,a.eval p.2)) (by simp) (by
      intro j i x hj
      simp only [List.getElem?_map,Option.map_eq_some_iff,Prod.mk.injEq] at hj
      obtain ⟨p,hp,rfl,rfl⟩:=hj
      refine ⟨a.eval p.2, ?_,List.all_eq_true.1 hall p (List.mem_of_getElem? hp),hR.ev p.2⟩
      simp [hp]) hf
     exact ⟨_,_,v,σ',w',h,.inl (qx h1),h2,h3,h4⟩
    ·exact h.elim
   ·exact h.elim
  ·exact h.elim
 case h_8 t l c=>
  split at h
  ·rename_i e n m ht hl hc
   split at h
   ·rename_i ti hti
    obtain ⟨hz,h⟩:=h
    obtain ⟨⟨b0,b1,b2,b3⟩,h⟩:=h.out
    obtain ⟨v,σ',w',h1,h2,h3,h4⟩:=zhz hte hR ht hti hz b0 b1 b2 b3
    refine ⟨_,_,v,σ',w',h,.inl (qx ?_),h2,h3,h4⟩
    have e1:=hR.ev l
    have e2:=hR.ev c
    rw [hl] at e1
    rw [hc] at e2
    simp only [rel] at e1 e2
    rw [e1,e2];exact h1
   ·exact h.elim
  ·exact h.elim
 case h_9 s d x=>
  obtain ⟨rfl,h⟩:=h
  split at h
  ·rename_i hh lo len e hx ht
   obtain ⟨hu,hlen,hrow,h⟩:=h
   split at hrow
   ·rename_i sz n f hob
    have e1:=hR.ev x
    rw [hx] at e1
    obtain ⟨w',h1,h2⟩:=zu9 hte hR ht hu hob hlen e1
    exact ⟨_,_,_,σ,w',h,.inl (qx h1),leA.refl σ,e1,h2⟩
   ·exact hrow.elim
  ·exact h.elim
 case h_10 args ts=>
  split at h
  ·rename_i s x t xt ha hts
   obtain ⟨hxt,h⟩:=h
   have ha':args=#[s,x]:=by rw [←Array.toList_inj];simpa using ha
   have hts':ts=#[t,xt]:=by rw [←Array.toList_inj];simpa using hts
   subst ha' hts'
   obtain ⟨z,st',v,σ',w',hK,h1,h2,h3,h4⟩:=zle hte hR hxt (hR.ev s) (hR.ev x) ty h
   refine ⟨z,st',v,σ',w',hK,.inl ?_,h2,h3,h4⟩
   simp [execOp,resolve,invoke,builtin,h1]
  ·exact h.elim
 case h_11=>exact h.elim
end Go.Vg
end
section
set_option linter.unusedVariables false
set_option linter.unusedSimpArgs false
set_option linter.unusedSectionVars false
set_option linter.unnecessarySimpa false
namespace Go.Vg
variable [Go.Vg.Glob]
open Go.RowKit
def ziz (c:Bool) (z:SV):SV:=
 match z with
 | .gd g v=>.gd (c&&g) v
 | v=>.gd c v
theorem ztf {σ:Asg} {c:Bool} {z:SV} {v:Value} (h1:c=true→rel σ z v) (h2:c=false→v=undef):rel σ (ziz c z) v:=by
 unfold ziz
 split
 ·rename_i g x
  simp only [rel] at h1 ⊢
  refine ⟨fun h=>?_,fun h=>?_⟩
  ·simp only [Bool.and_eq_true] at h
   exact (h1 h.1).1 h.2
  ·cases c with
   | false=>exact h2 rfl
   | true=>exact (h1 rfl).2 (by simpa using h)
 ·simp only [rel]
  exact ⟨h1,h2⟩
/-- The condition under which a guarded operation is carried out. -/
def zh8 (want:Bool) (x:SV) (K:Bool→Prop):Prop:=
 match x with
 | .b e=>K (if want then e else !e)
 | .gd g (.b e)=>K (g&&(if want then e else !e))
 | _=>False
def zij (ops:Array Oper) (j:Nat):Option Tmp:=(ops[j]?).bind (·.dst)
theorem zca {σ:Asg} {ops:Array Oper} {a:Act} {st:St} (henv:∀ t,rel σ (look st.env t) (a.tmps.getD t undef)) {j d:Nat} {want:Bool} (hd:zij ops j=some d) {K:Bool→Prop} (h:zh8 want (look st.env d) K) :
  ∃ c,K c∧(yielded ops a.tmps j==some want)=c:=by
 have h0:=henv d
 have hy:∀ e,a.tmps.getD d undef=.bool e→yielded ops a.tmps j=some e:=by
  intro e he
  have:a.tmps[d]?=some (.bool e):=by
   rw [Array.getD_eq_getD_getElem?] at he
   cases h1:a.tmps[d]? with
   | none=>rw [h1] at he;simp [undef] at he
   | some x=>rw [h1] at he;simpa using he
  unfold yielded
  unfold zij at hd
  simp [hd,this]
 unfold zh8 at h
 split at h
 ·rename_i e he
  rw [he] at h0
  simp only [rel] at h0
  refine ⟨_,h, ?_⟩
  rw [hy e h0]
  cases want<;>cases e<;>rfl
 ·rename_i g e he
  rw [he] at h0
  simp only [rel] at h0
  refine ⟨_,h, ?_⟩
  cases g with
  | true=>
   rw [hy e (h0.1 rfl)]
   cases want<;>cases e<;>rfl
  | false=>
   have h1:=h0.2 rfl
   have:yielded ops a.tmps j=none:=by
    unfold yielded
    unfold zij at hd
    rw [hd]
    simp only [Option.bind_some]
    rw [Array.getD_eq_getD_getElem?] at h1
    cases h2:a.tmps[d]? with
    | none=>rfl
    | some x=>rw [h2] at h1;simp only [Option.getD_some] at h1;subst h1;rfl
   rw [this]
   cases want<;>rfl
 ·exact h.elim
def znw (nt:Nat) (st:St) (d:Option Tmp) (z:SV) (K:St→Prop):Prop:=
 match d with
 | none=>K st
 | some d=>d<nt∧K ⟨(d,z)::st.env,st.ctx⟩
theorem zal {A:Amb} {σ:Asg} {st:St} {a:Act} {w:World} (hR:Rel A σ st a w) {d:Option Tmp} {z:SV} {v:Value} (hv:rel σ z v) {K:St→Prop} (h:znw A.nt st d z K):∃ st',K st'∧Rel A σ st' (a.put d v) w:=by
 unfold znw at h
 cases d with
 | none=>exact ⟨st,h,hR⟩
 | some d=>
  obtain ⟨hd,h⟩:=h
  refine ⟨_,h,⟨hR.defers,by simp [Act.put,hR.size],fun t=>?_,hR.sat,hR.fr,hR.own,hR.base,hR.klen⟩⟩
  simp only [look,Act.put]
  rw [Array.getD_eq_getD_getElem?,Array.getElem?_setIfInBounds]
  by_cases ht:d=t
  ·subst ht
   rw [if_pos rfl,if_pos rfl,if_pos (by rw [hR.size];exact hd)]
   exact hv
  ·rw [if_neg ht,if_neg ht]
   have:=hR.env t
   rwa [Array.getD_eq_getD_getElem?] at this
/-- Classes of operations: 0 no memory,1 reads,2 turns memory,3 a call. -/
def y9 (te:TE):Op→Nat
 | .load _ _=>1
 | .lookup _ _ _ _=>1
 | .convert s d _=>match tdOf te s,tdOf te d with
  | .slice _,.str=>1
  | .slice _,.slice _=>2
  | _,_=>0
 | .alloc _=>2
 | .box _ _=>2
 | .store _ _ _=>2
 | .makeMap _ _=>2
 | .mapUpdate _ _ _ _=>2
 | .insert _ _ _ _=>2
 | .buildSlice _ _ _=>2
 | .makeSlice _ _ _=>2
 | .call c=>match c.callee with
  | .builtin .append=>2
  | .builtin _=>0
  | .value _=>3
  | .invoke _ _=>4
 | _=>0
def uu (st:St):Op→Option FuncId
 | .call c=>match c.callee with
  | .value x=>match st.ev x with
   | .fn f=>some f
   | _=>none
  | _=>none
 | _=>none
def zip (st:St):Op→List SV
 | .call c=>c.args.toList.map st.ev
 | _=>[]
/-- A function that has a Go body,and is no mark of the runtime's. -/
def zcg (P:Program) (f:FuncId):Prop:=∃ fn,P.funcs[f]?=some fn∧fn.body.isSome=true∧(fn.name == "runtime.NumGoroutine")=false
/-- What a call of 'f' does,told over the caller's own state: the objects that lie under the first 'kk' numbers stay where they are. -/
def zgk (P:Program) (f:FuncId) (args:List SV) (kk:Nat) (st:St) (K:SV→St→Prop):Prop:=
 zcg P f∧∀ (A:Amb) (σ:Asg) (a:Act) (w:World) (vs:Array Value),A.k≤kk→A.gr=true→Rel A σ st a w→relL σ args vs.toList →
  Calls P f vs w fun e w'=>∃ v z st' σ',e=.returned v∧K z st'∧rel σ' z v∧Rel A σ' st' a w'
theorem zgk.mono {P:Program} {f:FuncId} {args:List SV} {kk:Nat} {st:St} {K K':SV→St→Prop} (h:zgk P f args kk st K) (hk:∀ z s,K z s→K' z s):zgk P f args kk st K' :=
 ⟨h.1,fun A σ a w vs h1 h2 h3 h4=>(h.2 A σ a w vs h1 h2 h3 h4).mono fun e w' ⟨v,z,s,σ',e1,e2,e3⟩=>⟨v,z,s,σ',e1,hk _ _ e2,e3⟩⟩
/-- What a call of 'f' does that turns nothing: from values without handles to a value without handles;what it returns may lie in new,frozen blocks. -/
def jl (P:Program) (f:FuncId) (args:List SV) (z:SV):Prop:=
 zcg P f∧plainL args=true∧z.plain=true∧∀ (fz:Nat→Option Obj) (w:World) (vs:Array Value),(∀ b o,fz b=some o→w.heap[b]?=some o)→(∀ b o,Glob.g b=some o→fz b=some o)→relL ⟨fun _=>none,fz⟩ args vs.toList →
  Calls P f vs w fun e w'=>∃ v fz',e=.returned v∧rel ⟨fun _=>none,fz'⟩ z v∧Fr (fun _=>False) w w'∧(∀ b o,fz b=some o→fz' b=some o) ∧
   (∀ b o,fz' b=some o→w'.heap[b]?=some o)∧(∀ b o,fz' b=some o→fz b=some o∨w.heap.size≤b)
/-- What a call of a function that the model stands in for comes to: at once,and the world is as it was. -/
def zm0 (P:Program) (f:FuncId) (args:List SV) (z:SV):Prop:=
 plainL args=true∧z.bit=true∧∀ (fz:Nat→Option Obj) (w:World) (vs:Array Value),(∀ b o,fz b=some o→w.heap[b]?=some o)→relL ⟨fun _=>none,fz⟩ args vs.toList →
  ∃ v,(callFunc f vs).run P w=.ok (.value v) w∧rel ⟨fun _=>none,fz⟩ z v
/-- A table of functions that turn nothing: number,and from arguments: what is to be shown,and the result. 'k': how many of the first objects stay where they lie. -/
abbrev PE:=List SV→Option (Prop×SV)
structure PT where
 l:List (FuncId×PE)
 k:Nat
 gr:Bool
def zuv:List (FuncId×PE)→FuncId→Option PE
 | [],_=>none
 | e::r,f=>if e.1=f then some e.2 else zuv r f
def ptOf (pt:PT) (f:FuncId):Option PE:=zuv pt.l f
def PE1 (P:Program) (f:FuncId) (g:PE):Prop:=∀ args p z,g args=some (p,z)→p→jl P f args z∨zm0 P f args z
def zvs (P:Program):List (FuncId×PE)→Prop
 | []=>True
 | e::r=>PE1 P e.1 e.2∧zvs P r
def zvt (P:Program) (pt:PT):Prop:=zvs P pt.l
theorem zvs.get {P:Program}:∀ {l:List (FuncId×PE)} {f:FuncId} {g:PE},zvs P l→zuv l f=some g→PE1 P f g
 | e::r,f,g,h,hg=>by
  simp only [zuv] at hg
  split at hg
  ·rename_i he;cases hg;subst he;exact h.1
  ·exact h.2.get hg
theorem zvt.get {P:Program} {pt:PT} {f:FuncId} {g:PE} (h:zvt P pt) (hg:ptOf pt f=some g):PE1 P f g:=zvs.get h hg
/-! Rows lent to a function that only reads: for the time of the call they are frozen. -/
def jy (f:Nat→List SV) (lo len:Nat):List (List SV):=(List.range len).map fun j=>f (lo+j)
mutual
def zdi (ctx:Ctx):SV→SV
 | .slc h lo len=>match ctx.at h with
  | some (.row _ sz _ f)=>.fs sz (jy f lo len)
  | _=>.slc h lo len
 | .agg l=>.agg (vm ctx l)
 | .tup l=>.tup (vm ctx l)
 | x=>x
def vm (ctx:Ctx):List SV→List SV
 | []=>[]
 | x::xs=>zdi ctx x::vm ctx xs
end
mutual
def xw (ctx:Ctx):SV→Prop
 | .slc h lo len=>match ctx.at h with
  | some (.row _ sz n f)=>lo+len≤n∧∀ j,j<len→(f (lo+j)).length=sz∧plainL (f (lo+j))=true
  | _=>True
 | .agg l=>jr ctx l
 | .tup l=>jr ctx l
 | _=>True
def jr (ctx:Ctx):List SV→Prop
 | []=>True
 | x::xs=>xw ctx x∧jr ctx xs
end
theorem zzy {σ:Asg} {w:World} {L:Loc} {ro:Bool} {sz n:Nat} {f:Nat→List SV} {c:Array Value} {e:TypeId} {fr:Nat×Nat} (h:cellsAt σ w L (.row ro sz n f) c e fr) {i:Nat} (hi:i<n) (hl:(f i).length=sz) :
  relL σ (f i) ((c.toList.drop (L.sh+i * sz)).take sz):=by
 obtain ⟨vs,h1,h2,h3⟩:=zfg h (i:=i) (k:=0) (n:=sz) hi (by simp [SO.sz])
 have hsz:L.sz=sz:=h.lsz
 have hv:(c.toList.drop (L.sh+i * sz)).take sz=vs:=by
  apply List.ext_getElem?
  intro j
  rw [List.getElem?_take]
  by_cases hj:j<sz
  ·rw [if_pos hj,List.getElem?_drop]
   have:=h2 j (vs[j]'(by omega)) (List.getElem?_eq_getElem (by omega))
   rw [hsz] at this
   rw [List.getElem?_eq_getElem (show j<vs.length by omega)]
   simpa using this
  ·rw [if_neg hj,List.getElem?_eq_none (by omega)]
 rw [hv]
 refine jz (by omega) fun j x v hx hv=>?_
 have:=h3 j v hv
 simp only [SO.el,Nat.zero_add] at this
 rw [List.getD_eq_getElem?_getD,hx] at this
 exact this
mutual
theorem frz_rel {σ:Asg} {w:World} {ctx:Ctx} (hs:Sat σ w ctx):∀ {x:SV} {v:Value},xw ctx x→(zdi ctx x).plain=true→rel σ x v→rel ⟨fun _=>none,fun b=>w.heap[b]?⟩ (zdi ctx x) v
 | .slc h lo len,v,hok,hp,hr=>by
  simp only [zdi] at hp ⊢
  simp only [xw] at hok
  split at hp
  ·rename_i ro sz n f hob
   rw [hob] at hok
   obtain ⟨hn,hel⟩:=hok
   simp only [rel] at hr ⊢
   obtain ⟨a,cap,rfl,hl,hr⟩:=hr
   have hlen:(jy f lo len).length=len:=by simp [jy]
   refine ⟨a,cap,by rw [hlen],by rw [hlen];exact hl, ?_⟩
   by_cases h0:len=0
   ·left;subst h0;rfl
   right
   rcases hr with hr | ⟨L,hL,rfl,hav⟩
   ·omega
   have hobj:=hs.obj h _ hob
   unfold qf at hobj
   simp only [SO.isMap] at hobj
   rcases hobj with ⟨_,h1⟩ | ⟨L',c,e,fr,hL',hc⟩
   ·rw [h1] at hL;cases hL
   rw [hL'] at hL
   cases hL
   have hsz:L.sz=sz:=hc.lsz
   refine ⟨L.b,L.sh+lo * L.sz+0,c,e,fr,rfl,hc.heap,ul fun j x hx=>?_⟩
   have hj:j<len:=by rw [←hlen];exact (List.getElem?_eq_some_iff.1 hx).1
   have hx':x=f (lo+j):=by simpa [jy,hj] using hx.symm
   subst hx'
   obtain ⟨e1,e2⟩:=hel j hj
   refine ⟨e1, ?_⟩
   have:=zzy hc (i:=lo+j) (by omega) e1
   rw [List.drop_drop,hsz,show L.sh+lo * sz+0+j * sz=L.sh+(lo+j) * sz by rw [Nat.add_mul];omega]
   exact ue (fun b o hb=>hs.frz b o hb) e2 this
  ·simp [SV.plain] at hp
 | .agg l,v,hok,hp,hr=>by
  simp only [zdi,xw,SV.plain,rel] at hok hp hr ⊢
  obtain ⟨cs,e,hr⟩:=hr
  exact ⟨cs,e,zeb hs hok hp hr⟩
 | .tup l,v,hok,hp,hr=>by
  simp only [zdi,xw,SV.plain,rel] at hok hp hr ⊢
  obtain ⟨cs,e,hr⟩:=hr
  exact ⟨cs,e,zeb hs hok hp hr⟩
 | .b _,_,_,hp,hr=>yq (fun b o hb=>hs.frz b o hb) hp hr
 | .i _ _,_,_,hp,hr=>yq (fun b o hb=>hs.frz b o hb) hp hr
 | .s _,_,_,hp,hr=>yq (fun b o hb=>hs.frz b o hb) hp hr
 | .ptr _ _ _,_,_,hp,hr=>yq (fun b o hb=>hs.frz b o hb) hp hr
 | .nils,_,_,hp,hr=>yq (fun b o hb=>hs.frz b o hb) hp hr
 | .mp _,_,_,hp,hr=>yq (fun b o hb=>hs.frz b o hb) hp hr
 | .fn _,_,_,hp,hr=>yq (fun b o hb=>hs.frz b o hb) hp hr
 | .gd _ _,_,_,hp,hr=>yq (fun b o hb=>hs.frz b o hb) hp hr
 | .u,_,_,hp,hr=>yq (fun b o hb=>hs.frz b o hb) hp hr
 | .fs _ _,_,_,hp,hr=>yq (fun b o hb=>hs.frz b o hb) hp hr
 | .fp _ _,_,_,hp,hr=>yq (fun b o hb=>hs.frz b o hb) hp hr
theorem zeb {σ:Asg} {w:World} {ctx:Ctx} (hs:Sat σ w ctx):∀ {x:List SV} {v:List Value},jr ctx x→plainL (vm ctx x)=true→relL σ x v→relL ⟨fun _=>none,fun b=>w.heap[b]?⟩ (vm ctx x) v
 | [],_,_,_,hr=>by simpa [relL,vm] using hr
 | x::xs,_,hok,hp,hr=>by
  simp only [relL,vm,plainL,jr,Bool.and_eq_true] at hok hp hr ⊢
  obtain ⟨v,q,e,r1,r2⟩:=hr
  exact ⟨v,q,e,frz_rel hs hok.1 hp.1 r1,zeb hs hok.2 hp.2 r2⟩
end
mutual
theorem zvc {ctx:Ctx}:∀ {x:SV},x.plain=true→zdi ctx x=x
 | .agg l,h=>by simp only [zdi];rw [zbe (by simpa [SV.plain] using h)]
 | .slc _ _ _,h=>by simp [SV.plain] at h
 | .b _,_=>rfl
 | .i _ _,_=>rfl
 | .s _,_=>rfl
 | .ptr _ _ _,_=>rfl
 | .nils,_=>rfl
 | .mp _,_=>rfl
 | .fn _,_=>rfl
 | .tup l,h=>by simp only [zdi];rw [zbe (by simpa [SV.plain] using h)]
 | .gd _ _,_=>rfl
 | .u,_=>rfl
 | .fs _ _,_=>rfl
 | .fp _ _,_=>rfl
theorem zbe {ctx:Ctx}:∀ {x:List SV},plainL x=true→vm ctx x=x
 | [],_=>rfl
 | x::xs,h=>by
  simp only [plainL,Bool.and_eq_true] at h
  simp only [vm,zvc h.1,zbe h.2]
end
/-- More is known to be frozen,all else stands. -/
theorem Rel.froze {A:Amb} {σ:Asg} {st:St} {a:Act} {w w':World} (hR:Rel A σ st a w) (hf:Fr (fun _=>False) w w') {fz':Nat→Option Obj} (h1:∀ b o,σ.fz b=some o→fz' b=some o) (h2:∀ b o,fz' b=some o→w'.heap[b]?=some o)
  (h3:∀ b o,fz' b=some o→σ.fz b=some o∨(A.gr=true∧w.heap.size≤b)):leA σ ⟨σ.loc,fz'⟩∧Rel A ⟨σ.loc,fz'⟩ st a w':=by
 have hle:leA σ ⟨σ.loc,fz'⟩:=⟨fun _ _ h=>h,h1⟩
 refine ⟨hle,hR.defers,hR.size,fun t=>ju hle (hR.env t),⟨fun h o e=>?_,hR.sat.apart,hR.sat.beyond,fun h L e=>Nat.lt_of_lt_of_le (hR.sat.inHeap h L e) hf.size,h2,fun h o L e r s=>?_,fun b o e=>h1 b o (hR.sat.glb b o e)⟩, ?_,hR.own,⟨hR.base.loc,fun b o h=>h1 b o (hR.base.fzb b o h),fun b o h=>?_⟩,hR.klen⟩
 ·exact j0 hle rfl (fun L hL=>hf.block _ (hR.sat.inHeap h L hL) (fun h=>h)) (hR.sat.obj h o e)
 ·show fz' L.b=none
  cases hz:fz' L.b with
  | none=>rfl
  | some q=>
   rcases h3 _ _ hz with h4 | ⟨_,h4⟩
   ·rw [hR.sat.frzA h o L e r s] at h4;cases h4
   ·have:=hR.sat.inHeap h L s;omega
 ·exact hR.fr.step hf (fun _ _ h=>h.elim)
 ·rcases h3 b o h with h4 | ⟨hg,h4⟩
  ·exact hR.base.fzn b o h4
  ·exact .inr ⟨hg,.inr (Nat.le_trans hR.fr.size h4)⟩
/-- May these arguments be lent: the result looks at no memory;or they have no handles,and frozen blocks may be added. -/
def zf0 (args:List SV) (z:SV) (gr:Bool):Bool:=z.bit||(plainL args&&gr)
theorem jl.use {P:Program} {f:FuncId} {args:List SV} {z:SV} {A:Amb} {σ:Asg} {st:St} {a:Act} {w:World} (hR:Rel A σ st a w) (h:jl P f (vm st.ctx args) z) (hok:jr st.ctx args) {gr:Bool} (hgr:gr=true→A.gr=true) (hl:zf0 args z gr=true)
  {vs:Array Value} (hvs:relL σ args vs.toList):Calls P f vs w fun e w'=>∃ v σ',e=.returned v∧rel σ' z v∧Rel A σ' st a w':=by
 obtain ⟨_,hp,hz,h⟩:=h
 by_cases hb:z.bit=true
 ·refine (h (fun b=>w.heap[b]?) w vs (fun _ _ h=>h) (fun b o h=>hR.sat.frz b o (hR.sat.glb b o h)) (zeb hR.sat hok hp hvs)).mono fun e w' ⟨v,fz',e1,e2,e3,e4,e5,e6⟩=>?_
  refine ⟨v,σ,e1,zex hb e2, ?_⟩
  have hf:∀ b o,σ.fz b=some o→w'.heap[b]?=some o:=fun b o h=>e5 b o (e4 b o (hR.sat.frz b o h))
  exact (hR.froze e3 (fun _ _ h=>h) hf (fun _ _ h=>.inl h)).2
 ·unfold zf0 at hl
  simp only [hb,Bool.false_or,Bool.and_eq_true] at hl
  obtain ⟨hpl,hg⟩:=hl
  rw [zbe hpl] at h
  refine (h σ.fz w vs hR.sat.frz hR.sat.glb (ue (σ:=σ) (σ':=⟨fun _=>none,σ.fz⟩) (fun _ _ h=>h) hpl hvs)).mono fun e w' ⟨v,fz',e1,e2,e3,e4,e5,e6⟩=>?_
  obtain ⟨_,hR'⟩:=hR.froze e3 e4 e5 (fun b o h=>(e6 b o h).imp id fun h=>⟨hgr hg,h⟩)
  exact ⟨v,⟨σ.loc,fz'⟩,e1,yq (σ:=⟨fun _=>none,fz'⟩) (σ':=⟨σ.loc,fz'⟩) (fun _ _ h=>h) hz e2,hR'⟩
/-- Arguments that were worked out under a guard,without it. -/
def zun:SV→SV
 | .gd _ x=>x
 | x=>x
def j2:List SV→List SV
 | []=>[]
 | x::xs=>zun x::j2 xs
def gok:SV→Prop
 | .gd g _=>g=true
 | _=>True
def gokL:List SV→Prop
 | []=>True
 | x::xs=>gok x∧gokL xs
theorem zwn {σ:Asg} {x:SV} {v:Value} (h:gok x) (hr:rel σ x v):rel σ (zun x) v:=by
 cases x<;>first | exact hr | (simp only [gok] at h;simp only [rel] at hr;exact hr.1 h)
theorem zes {σ:Asg}:∀ {l:List SV} {vs:List Value},gokL l→relL σ l vs→relL σ (j2 l) vs
 | [],_,_,hr=>hr
 | x::xs,_,h,hr=>by
  simp only [relL,j2] at hr ⊢
  obtain ⟨v,r,e,h1,h2⟩:=hr
  exact ⟨v,r,e,zwn h.1 h1,zes h.2 h2⟩
/-- One operation under the condition 'c' ('g': it bears a guard);'sp': the two ways of a guard are gone apart. -/
def zmv (P:Program) (te:TE) (wr:Bool) (nt:Nat) (pt:PT) (g c:Bool) (st:St) (o:Oper) (K:St→Prop):Prop:=
 match y9 te o.op with
 | 0=>zqa te wr c st o.op fun z=>znw nt st o.dst (if g then ziz c z else z) K
 | 1=>zlc te c st o.op fun z=>znw nt st o.dst (if g then ziz c z else z) K
 | 2=>g=false∧zm1 te st o.op fun z st'=>znw nt st' o.dst z K
 | 3=>match uu st o.op with
  | some f=>match ptOf pt f with
   | some t=>match t (vm st.ctx (j2 (zip st o.op))) with
    | some (p,z)=>zf0 (j2 (zip st o.op)) z pt.gr=true∧Chk (c=true→gokL (zip st o.op)∧jr st.ctx (j2 (zip st o.op))∧p) (znw nt st o.dst (if g then ziz c z else z) K)
    | none=>False
   | none=>g=false∧pt.gr=true∧zgk P f (zip st o.op) pt.k st fun z st'=>znw nt st' o.dst z K
  | none=>False
 | _=>False
def zbt (P:Program) (te:TE) (wr:Bool) (nt:Nat) (pt:PT) (sp:Bool) (ops:Array Oper) (st:St) (o:Oper) (K:St→Prop):Prop:=
 match o.guard with
 | none=>zmv P te wr nt pt false true st o K
 | some (j,want)=>match zij ops j with
  | none=>False
  | some d=>zh8 want (look st.env d) fun c=>
    if sp then (c=true→zmv P te wr nt pt false true st o K)∧(c=false→znw nt st o.dst (.gd false (.b false)) K)
    else zmv P te wr nt pt true c st o K
/-- Operations in an order,from a state on. -/
def XO (P:Program) (te:TE) (wr:Bool) (nt:Nat) (pt:PT) (sp:Bool) (ops:Array Oper) (K:St→Prop):List Nat→St→Prop
 | [],st=>K st
 | i::is,st=>match ops[i]? with
  | none=>False
  | some o=>zbt P te wr nt pt sp ops st o (XO P te wr nt pt sp ops K is)
theorem execAny {P:Program} {st:St} {a:Act} {w:World} {σ:Asg} (henv:∀ x,rel σ (st.ev x) (a.eval x)) {o:Oper} {f:FuncId} (hf:uu st o.op=some f) :
  ∃ vs:Array Value,(execOp a.eval o).run P w=(callFunc f vs).run P w∧relL σ (zip st o.op) vs.toList:=by
 obtain ⟨dst,op,ty,pos,after,guard⟩:=o
 cases op with
 | call c=>
  obtain ⟨callee,args,ats⟩:=c
  cases callee with
  | value x=>
   simp only [uu] at hf
   split at hf
   ·rename_i f' hx
    cases hf
    have hv:=henv x
    rw [hx] at hv
    simp only [rel] at hv
    refine ⟨args.map a.eval, ?_, ?_⟩
    ·simp only [execOp,resolve,Deferred.ofValue,hv,Sem.run_bind,Sem.run_pure,Result.andThen_ok,invoke,Array.append_empty,Array.empty_append]
    ·refine jz (by simp [zip]) fun j y v hy hv=>?_
     simp only [zip,List.getElem?_map,Option.map_eq_some_iff] at hy
     obtain ⟨q,hq,rfl⟩:=hy
     simp only [Array.toList_map,List.getElem?_map,Option.map_eq_some_iff] at hv
     obtain ⟨q',hq',rfl⟩:=hv
     rw [hq] at hq'
     cases hq'
     exact henv q
   ·cases hf
  | builtin b=>simp [uu] at hf
  | invoke r m=>simp [uu] at hf
 | _=>simp [uu] at hf
theorem ztt {P:Program} {st:St} {a:Act} {w:World} {σ:Asg} (henv:∀ x,rel σ (st.ev x) (a.eval x)) {o:Oper} {f:FuncId} (hf:uu st o.op=some f) (hb:zcg P f) :
  ∃ vs:Array Value,(execOp a.eval o).run P w=.ok (.enter f vs) w∧relL σ (zip st o.op) vs.toList:=by
 obtain ⟨dst,op,ty,pos,after,guard⟩:=o
 cases op with
 | call c=>
  obtain ⟨callee,args,ats⟩:=c
  cases callee with
  | value x=>
   simp only [uu] at hf
   split at hf
   ·rename_i f' hx
    cases hf
    have hv:=henv x
    rw [hx] at hv
    simp only [rel] at hv
    obtain ⟨fn,h1,h2,h4⟩:=hb
    refine ⟨args.map a.eval, ?_, ?_⟩
    ·simp only [execOp,resolve,Deferred.ofValue,hv,Sem.run_bind,Sem.run_pure,Result.andThen_ok,invoke,callFunc,run_program,h1,h4]
     have:fn.body.isNone=false:=by cases hfb:fn.body<;>simp_all
     simp [this]
    ·refine jz (by simp [zip]) fun j y v hy hv=>?_
     simp only [zip,List.getElem?_map,Option.map_eq_some_iff] at hy
     obtain ⟨q,hq,rfl⟩:=hy
     simp only [Array.toList_map,List.getElem?_map,Option.map_eq_some_iff] at hv
     obtain ⟨q',hq',rfl⟩:=hv
     rw [hq] at hq'
     cases hq'
     exact henv q
   ·cases hf
  | builtin b=>simp [uu] at hf
  | invoke r m=>simp [uu] at hf
 | _=>simp [uu] at hf
theorem zgm {P:Program} {o:Oper} {a:Act} {w w':World} {v:Value} {next:Act→World→Prop} {Q:Exit→Act→World→Prop} (h:(execOp a.eval o).run P w=.ok (.value v) w') (hn:next (a.put o.dst v) w'):o.wp P a w next Q:=by
 unfold Oper.wp
 rw [h]
 exact hn
theorem wp_skip' {P:Program} {o:Oper} {a:Act} {w w':World} {next:Act→World→Prop} {Q:Exit→Act→World→Prop} (h:(execOp a.eval o).run P w=.ok .skip w') (hn:next (a.put o.dst undef) w'):o.wp P a w next Q:=by
 unfold Oper.wp
 rw [h]
 exact hn
theorem zrx {P:Program} {o:Oper} {a:Act} {w:World} {f:FuncId} {vs:Array Value} {next:Act→World→Prop} {Q:Exit→Act→World→Prop} (h:(execOp a.eval o).run P w=.ok (.enter f vs) w)
  (hn:Calls P f vs w fun e w'=>∃ v,e=.returned v∧next (a.put o.dst v) w'):o.wp P a w next Q:=by
 unfold Oper.wp
 rw [h]
 refine Calls.mono hn fun e w' he=>?_
 obtain ⟨v,rfl,hv⟩:=he
 exact hv
theorem zia {A:Amb} {σ:Asg} {st:St} {a:Act} {w:World} {K:St→Prop} {o:Oper} {g c:Bool} {z:SV} (hR:Rel A σ st a w) (hK:znw A.nt st o.dst (if g then ziz c z else z) K) (hgc:g=false→c=true) :
  (∀ v,c=true→rel σ z v→∃ st',K st'∧Rel A σ st' (a.put o.dst v) w)∧(c=false→∃ st',K st'∧Rel A σ st' (a.put o.dst undef) w):=by
 refine ⟨fun v hc hv=>?_,fun hc=>?_⟩
 ·refine zal hR (v:=v) ?_ hK
  cases g with
  | false=>exact hv
  | true=>exact ztf (fun _=>hv) (fun h=>by rw [hc] at h;cases h)
 ·refine zal hR (v:=undef) ?_ hK
  cases g with
  | false=>rw [hgc rfl] at hc;cases hc
  | true=>exact ztf (fun h=>by rw [hc] at h;cases h) (fun _=>rfl)
theorem zfi {P:Program} {te:TE} (hte:j9 P te) {wr:Bool} {pt:PT} (hpt:zvt P pt) {A:Amb} (hkk:A.k≤pt.k) (hgr:pt.gr=true→A.gr=true) {σ:Asg} {st:St} {a:Act} {w:World} (hR:Rel A σ st a w) {g c:Bool} (hgc:g=false→c=true) {o:Oper} {K:St→Prop}
  (h:zmv P te wr A.nt pt g c st o K) {next:Act→World→Prop} {Q:Exit→Act→World→Prop} (hn:∀ σ' st' a' w',K st'→Rel A σ' st' a' w'→next a' w') :
  (c=true→o.wp P a w next Q)∧(c=false→next (a.put o.dst undef) w):=by
 unfold zmv at h
 split at h
 ·obtain ⟨z,hz,hv⟩:=zc7 hte hR h
  obtain ⟨p1,p2⟩:=zia hR hz hgc
  refine ⟨fun hc=>?_,fun hc=>?_⟩
  ·obtain ⟨v,hr,hrun⟩:=hv hc
   obtain ⟨st',k1,k2⟩:=p1 v hc hr
   exact zgm (hrun w) (hn _ _ _ _ k1 k2)
  ·obtain ⟨st',k1,k2⟩:=p2 hc
   exact hn _ _ _ _ k1 k2
 ·obtain ⟨z,hz,hv⟩:=zgx hte hR h
  obtain ⟨p1,p2⟩:=zia hR hz hgc
  refine ⟨fun hc=>?_,fun hc=>?_⟩
  ·obtain ⟨v,hr,hrun⟩:=hv hc
   obtain ⟨st',k1,k2⟩:=p1 v hc hr
   exact zgm (hrun w (fun _ _ _ _=>rfl) hR.sat.frz) (hn _ _ _ _ k1 k2)
  ·obtain ⟨st',k1,k2⟩:=p2 hc
   exact hn _ _ _ _ k1 k2
 ·obtain ⟨rfl,h⟩:=h
  have hc:c=true:=hgc rfl
  refine ⟨fun _=>?_,fun h=>by rw [hc] at h;cases h⟩
  obtain ⟨z,st1,v,σ',w',hK,hrun,hle,hr,hR'⟩:=zuh hte hR h
  obtain ⟨st',k1,k2⟩:=zal hR' hr hK
  rcases hrun with hrun | ⟨hrun,rfl⟩
  ·exact zgm hrun (hn _ _ _ _ k1 k2)
  ·exact wp_skip' hrun (hn _ _ _ _ k1 k2)
 ·split at h
  ·rename_i f hf
   split at h
   ·rename_i t ht
    split at h
    case h_2=>exact h.elim
    rename_i p z hz
    obtain ⟨hlend,h⟩:=h
    obtain ⟨hp,hK⟩:=h.out
    obtain ⟨p1,p2⟩:=zia hR hK hgc
    refine ⟨fun hc=>?_,fun hc=>?_⟩
    ·rcases hpt.get ht _ _ _ hz (hp hc).2.2 with hcall | ⟨hx1,hx2,hx3⟩
     case inr=>
      obtain ⟨vs,hrun,hargs⟩:=execAny (P:=P) (w:=w) hR.ev hf
      obtain ⟨v,hv,hrel⟩:=hx3 (fun b=>w.heap[b]?) w vs (fun _ _ h=>h) (zeb hR.sat (hp hc).2.1 hx1 (zes (hp hc).1 hargs))
      obtain ⟨st',k1,k2⟩:=p1 v hc (zex hx2 hrel)
      exact zgm (hrun.trans hv) (hn _ _ _ _ k1 k2)
     obtain ⟨vs,hrun,hargs⟩:=ztt (P:=P) (w:=w) hR.ev hf hcall.1
     refine zrx hrun ((hcall.use hR (hp hc).2.1 hgr hlend (zes (hp hc).1 hargs)).mono fun e w' he=>?_)
     obtain ⟨v,σ',rfl,hv,hR'⟩:=he
     obtain ⟨st',k1,k2⟩:=(zia hR' hK hgc).1 v hc hv
     exact ⟨v,rfl,hn _ _ _ _ k1 k2⟩
    ·obtain ⟨st',k1,k2⟩:=p2 hc
     exact hn _ _ _ _ k1 k2
   ·obtain ⟨rfl,hptg,hb,hcall⟩:=h
    have hc:c=true:=hgc rfl
    refine ⟨fun _=>?_,fun h=>by rw [hc] at h;cases h⟩
    obtain ⟨vs,hrun,hargs⟩:=ztt (P:=P) (w:=w) hR.ev hf hb
    refine zrx hrun ((hcall A σ a w vs hkk (hgr hptg) hR hargs).mono fun e w' he=>?_)
    obtain ⟨v,z,s',σ',rfl,hq,hv,hR'⟩:=he
    obtain ⟨st',k1,k2⟩:=zal hR' hv hq
    exact ⟨v,rfl,hn _ _ _ _ k1 k2⟩
  ·exact h.elim
 ·exact h.elim
theorem uw {P:Program} {te:TE} (hte:j9 P te) {wr:Bool} {pt:PT} (hpt:zvt P pt) {sp:Bool} {ops:Array Oper} {A:Amb} (hkk:A.k≤pt.k) (hgr:pt.gr=true→A.gr=true) {σ:Asg} {st:St} {a:Act} {w:World} (hR:Rel A σ st a w) {o:Oper} {K:St→Prop}
  (h:zbt P te wr A.nt pt sp ops st o K) {next:Act→World→Prop} {Q:Exit→Act→World→Prop} (hn:∀ σ' st' a' w',K st'→Rel A σ' st' a' w'→next a' w') :
  if Region.wanted o (yielded ops a.tmps) then o.wp P a w next Q∨(o.asks P a w∧LetsOut Q) else next (a.put o.dst undef) w:=by
 unfold zbt at h
 split at h
 ·rename_i hg
  have:Region.wanted o (yielded ops a.tmps)=true:=by simp [Region.wanted,hg]
  rw [if_pos this]
  exact .inl ((zfi hte hpt hkk hgr hR (fun _=>rfl) h hn).1 rfl)
 ·rename_i j want hg
  split at h
  ·exact h.elim
  ·rename_i d hd
   obtain ⟨c,h,hc⟩:=zca hR.env hd h
   have hw:Region.wanted o (yielded ops a.tmps)=c:=by simp only [Region.wanted,hg,hc]
   rw [hw]
   split at h
   ·obtain ⟨h1,h2⟩:=h
    cases c with
    | true=>rw [if_pos rfl];exact .inl ((zfi hte hpt hkk hgr hR (fun _=>rfl) (h1 rfl) hn).1 rfl)
    | false=>
     rw [if_neg (by simp)]
     obtain ⟨st',k1,k2⟩:=zal hR (v:=undef) (by simp [rel]) (h2 rfl)
     exact hn _ _ _ _ k1 k2
   ·obtain ⟨q1,q2⟩:=zfi (Q:=Q) hte hpt hkk hgr hR (g:=true) (fun h=>by cases h) h hn
    cases c with
    | true=>rw [if_pos rfl];exact .inl (q1 rfl)
    | false=>rw [if_neg (by simp)];exact q2 rfl
theorem zgv {P:Program} {te:TE} (hte:j9 P te) {wr:Bool} {pt:PT} (hpt:zvt P pt) {sp:Bool} {ops:Array Oper} {A:Amb} (hkk:A.k≤pt.k) (hgr:pt.gr=true→A.gr=true) {K:St→Prop} {Q:Exit→Act→World→Prop}:∀ (is:List Nat) {σ:Asg} {st:St} {a:Act} {w:World},Rel A σ st a w →
  XO P te wr A.nt pt sp ops K is st→(∀ σ' st' a' w',K st'→Rel A σ' st' a' w'→Q .normal a' w')→wpOps P ops Q is a w
 | [],σ,st,a,w,hR,h,hQ=>hQ σ st a w h hR
 | i::is,σ,st,a,w,hR,h,hQ=>by
  simp only [XO] at h
  split at h
  ·exact h.elim
  ·rename_i o ho
   simp only [wpOps,ho]
   exact uw hte hpt hkk hgr hR h fun σ' st' a' w' hK hR'=>zgv hte hpt hkk hgr is hR' hK hQ
end Go.Vg
end
