/- Code, stepped through over symbolic states. -/
import Derived.Test.YtgippllfnmdnpaaGreatDoorTAE
section
set_option linter.unusedVariables false
set_option linter.unusedSimpArgs false
set_option linter.unusedSectionVars false
set_option linter.unnecessarySimpa false
namespace Go.Vg
variable [Go.Vg.Glob]
open Go.RowKit
/-- What a walk of one function is about. -/
structure Cf where
 P:Program
 te:TE
 pt:PT
 nt:Nat
 k:Nat
 wr:Bool
 sp:Nat→Bool
 keep:Nat→List Tmp
 cut:List Nat
 dr:Nat→Array Oper→(St→Prop)→St→Prop
/-- A region of another kind (orders drawn): what it must bring about. -/
def zp2 (P:Program) (nt k:Nat) (ops:Array Oper) (K:St→Prop) (st:St):Prop:=
 ∀ (A:Amb) (σ:Asg) (a:Act) (w:World) (id:Nat),A.nt=nt→A.k=k→A.gr=true→Rel A σ st a w →
  (Code.region id ops true).wp P (fun e a' w'=>e=.normal∧∃ σ' st',K st'∧Rel A σ' st' a' w') a w
structure Cf.ok (cf:Cf):Prop where
 te:j9 cf.P cf.te
 pt:zvt cf.P cf.pt
 kk:cf.k≤cf.pt.k
 dr:∀ id ops K st,cf.dr id ops K st→zp2 cf.P cf.nt cf.k ops K st
inductive It where
 | code (c:Code)
 | blk (id:Nat)
 | stop (J:St→Prop)
def KP (P:Program) (A:Amb) (F:St→Prop):List It→Exit→Act→World→Prop
 | [],.normal,a,w=>∃ σ st,F st∧Rel A σ st a w
 | [],.ret,a,w=>∃ σ st,F st∧Rel A σ st a w
 | [],_,_,_=>False
 | .code c::r,.normal,a,w=>c.wp P (KP P A F r) a w
 | .code _::r,e,a,w=>KP P A F r e a w
 | .blk id::r,.exit id',a,w=>if id'=id then KP P A F r .normal a w else KP P A F r (.exit id') a w
 | .blk _::r,e,a,w=>KP P A F r e a w
 | .stop J::r,.normal,a,w=>∃ σ st,J st∧Rel A σ st a w
 | .stop _::r,e,a,w=>KP P A F r e a w
def zey (id:Nat):List It→Option (List It)
 | []=>none
 | .blk id'::r=>if id=id' then some r else zey id r
 | _::r=>zey id r
theorem zmx {P:Program} {A:Amb} {F:St→Prop} {id:Nat}:∀ {r r':List It} {a:Act} {w:World},zey id r=some r'→KP P A F r' .normal a w→KP P A F r (.exit id) a w
 | [],_,_,_,h,_=>by simp [zey] at h
 | .blk i::r,r',a,w,h,k=>by
  simp only [zey] at h
  simp only [KP]
  split at h
  ·cases h;subst_vars;rwa [if_pos rfl]
  ·rename_i hne
   rw [if_neg hne]
   exact zmx h k
 | .code c::r,r',a,w,h,k=>by
  simp only [zey] at h
  simp only [KP]
  exact zmx h k
 | .stop c::r,r',a,w,h,k=>by
  simp only [zey] at h
  simp only [KP]
  exact zmx h k
theorem zug {P:Program} {A:Amb} {F:St→Prop}:∀ {r:List It} {a:Act} {w:World},(∃ σ st,F st∧Rel A σ st a w)→KP P A F r .ret a w
 | [],_,_,h=>by simpa [KP] using h
 | .blk _::r,_,_,h=>by simp only [KP];exact zug h
 | .code _::r,_,_,h=>by simp only [KP];exact zug h
 | .stop _::r,_,_,h=>by simp only [KP];exact zug h
def Ent (k:Nat) (st st':St):Prop:=∀ (A:Amb) (σ:Asg) (a:Act) (w:World),A.k=k→Rel A σ st a w→∃ σ',Rel A σ' st' a w
theorem Ent.refl (k:Nat) (st:St):Ent k st st:=fun A σ a w _ h=>⟨σ,h⟩
theorem Ent.trans {k:Nat} {a b c:St} (h:Ent k a b) (g:Ent k b c):Ent k a c:=fun A σ a w hk hR=>
 let ⟨σ',h'⟩:=h A σ a w hk hR
 g A σ' a w hk h'
/-- The same objects;of each temporary the same or nothing. -/
theorem Ent.env {k:Nat} {st st':St} (hc:st.ctx=st'.ctx) (he:∀ t,look st'.env t=look st.env t∨look st'.env t=.u):Ent k st st':=fun A σ a w hk hR=>
 ⟨σ,hR.defers,hR.size,fun t=>by
  rcases he t with h | h
  ·rw [h];exact hR.env t
  ·rw [h];simp [rel],hc▸hR.sat,hR.fr,hc▸hR.own,hR.base,hc▸hR.klen⟩
def trim (l:List Tmp) (st:St):St:=⟨l.map fun t=>(t,look st.env t),st.ctx⟩
theorem look_map (st:List (Tmp×SV)) (l:List Tmp) (t:Tmp):look (l.map fun t=>(t,look st t)) t=look st t∨look (l.map fun t=>(t,look st t)) t=.u:=by
 induction l with
 | nil=>right;rfl
 | cons x xs ih=>
  simp only [List.map_cons,look]
  by_cases h:x=t
  ·subst h;left;simp
  ·rw [if_neg h];exact ih
theorem Ent.trim (k:Nat) (l:List Tmp) (st:St):Ent k st (trim l st):=Ent.env rfl fun t=>look_map st.env l t
/-- A loop: states by index,a measure that falls. -/
def VLoop (k:Nat) (st:St) (B:(J:St→Prop)→St→Prop):Prop:=
 ∃ (ι:Type) (S:ι→St) (m:ι→Nat) (i0:ι),Ent k st (S i0)∧∀ i,B (fun s=>∃ j,m j<m i∧Ent k s (S j)) (S i)
/-- A place where ways come together: states by index. -/
def VCut (k:Nat) (B:(J:St→Prop)→Prop) (R:St→Prop):Prop:=
 ∃ (ι:Type) (S:ι→St),B (fun s=>∃ j,Ent k s (S j))∧∀ j,R (S j)
def zq5:Code→Option Nat
 | .region id _ _=>some id
 | .block id _=>some (1000+id)
 | .seq x _=>zq5 x
 | .loop b=>zq5 b
 | _=>none
def zb8 (cut:List Nat) (c:Code):Bool:=match zq5 c with
 | some i=>cut.contains i
 | none=>false
/-- Operations from a list,one after the other. -/
def XL (P:Program) (te:TE) (wr:Bool) (nt:Nat) (pt:PT) (sp:Bool) (ops:Array Oper) (K:St→Prop):List Oper→St→Prop
 | [],st=>K st
 | o::os,st=>zbt P te wr nt pt sp ops st o (XL P te wr nt pt sp ops K os)
theorem XL_XO {P:Program} {te:TE} {wr:Bool} {nt:Nat} {pt:PT} {sp:Bool} {ops:Array Oper} {K:St→Prop}:∀ (n i:Nat) (st:St),i+n=ops.size →
  XL P te wr nt pt sp ops K (ops.toList.drop i)=XO P te wr nt pt sp ops K (List.range' i n)
 | 0,i,st,h=>by
  rw [List.drop_of_length_le (by simp;omega)]
  funext st;rfl
 | n+1,i,st,h=>by
  have hi:i<ops.toList.length:=by simp;omega
  rw [List.drop_eq_getElem_cons hi]
  funext s
  simp only [XL,List.range'_succ,XO]
  rw [←XL_XO n (i+1) st (by omega)]
  simp only [Array.getElem_toList]
  rw [Array.getElem?_eq_getElem (by simpa using hi)]
def vc (cf:Cf) (F:St→Prop):Nat→List It→St→Prop
 | 0,_,_=>False
 | n+1,its,st=>match its with
  | []=>F st
  | .blk _::r=>vc cf F n r st
  | .stop J::_=>J st
  | .code c::r=>match c with
   | .skip=>vc cf F n r st
   | .ret=>F st
   | .seq x y=>if zb8 cf.cut y then VCut cf.k (fun J=>vc cf F n (.code x::.stop J::.code y::r) st) (fun s=>vc cf F n (.code y::r) s)
    else vc cf F n (.code x::.code y::r) st
   | .region id ops false=>XL cf.P cf.te cf.wr cf.nt cf.pt (cf.sp id) ops (fun s=>vc cf F n r (trim (cf.keep id) s)) ops.toList st
   | .region id ops true=>cf.dr id ops (fun s=>vc cf F n r (trim (cf.keep id) s)) st
   | .cond c x y=>match st.ev c with
    | .b t=>(t=true→vc cf F n (.code x::r) st)∧(t=false→vc cf F n (.code y::r) st)
    | _=>False
   | .block id b=>vc cf F n (.code b::.blk id::r) st
   | .loop b=>VLoop cf.k st fun J s=>vc cf F n (.code b::.stop J::r) s
   | .exit id=>match zey id r with
    | some r'=>vc cf F n r' st
    | none=>False
   | _=>False
theorem vc_sound {cf:Cf} (hcf:cf.ok) {F:St→Prop} {A:Amb} (hnt:A.nt=cf.nt) (hk:A.k=cf.k) (hgr:A.gr=true):∀ (n:Nat) (its:List It) (st:St) (σ:Asg) (a:Act) (w:World),vc cf F n its st→Rel A σ st a w→KP cf.P A F its .normal a w:=by
 intro n
 induction n with
 | zero=>intro its st σ a w h;exact h.elim
 | succ n ih=>
  intro its st σ a w h hR
  simp only [vc] at h
  split at h
  ·exact ⟨σ,st,h,hR⟩
  ·simp only [KP];exact ih _ _ _ _ _ h hR
  ·exact ⟨σ,st,h,hR⟩
  ·rename_i c r
   simp only [KP]
   split at h
   ·exact wp_skip (ih _ _ _ _ _ h hR)
   ·exact wp_ret (zug ⟨σ,st,h,hR⟩)
   ·rename_i x y
    split at h
    ·obtain ⟨ι,S,h1,h2⟩:=h
     refine wp_seq (wp_mono (ih _ _ _ _ _ h1 hR) fun e a' w' he=>?_)
     cases e with
     | normal=>
      obtain ⟨σ1,st1,⟨j,hj⟩,hR1⟩:=he
      obtain ⟨σ2,hR2⟩:=hj A σ1 a' w' hk hR1
      exact ih _ _ _ _ _ (h2 j) hR2
     | _=>exact he
    ·refine wp_seq (wp_mono (ih _ _ _ _ _ h hR) fun e a' w' he=>?_)
     cases e<;>exact he
   ·rename_i id ops
    refine wp_region ?_
    have h':XO cf.P cf.te cf.wr cf.nt cf.pt (cf.sp id) ops (fun s=>vc cf F n r (trim (cf.keep id) s)) (List.range ops.size) st:=by
     have:=XL_XO (P:=cf.P) (te:=cf.te) (wr:=cf.wr) (nt:=cf.nt) (pt:=cf.pt) (sp:=cf.sp id) (ops:=ops) (K:=fun s=>vc cf F n r (trim (cf.keep id) s)) ops.size 0 st (by omega)
     rw [List.range_eq_range',←this]
     simpa using h
    rw [←hnt] at h'
    refine zgv hcf.te hcf.pt (by rw [hk];exact hcf.kk) (fun _=>hgr) _ hR h' fun σ' st' a' w' hK hR'=>?_
    obtain ⟨σ2,hR2⟩:=Ent.trim cf.k (cf.keep id) st' A σ' a' w' hk hR'
    exact ih _ _ _ _ _ hK hR2
   ·rename_i id ops
    refine wp_mono (hcf.dr _ _ _ _ h A σ a w id hnt hk hgr hR) fun e a' w' he=>?_
    obtain ⟨rfl,σ',st',hK,hR'⟩:=he
    obtain ⟨σ2,hR2⟩:=Ent.trim cf.k (cf.keep id) st' A σ' a' w' hk hR'
    exact ih _ _ _ _ _ hK hR2
   ·rename_i c x y
    split at h
    ·rename_i t ht
     have hv:=hR.ev c
     rw [ht] at hv
     simp only [rel] at hv
     refine wp_cond_split hv (fun e=>?_) (fun e=>?_)
     ·exact ih _ _ _ _ _ (h.1 e) hR
     ·exact ih _ _ _ _ _ (h.2 e) hR
    ·exact h.elim
   ·rename_i id b
    refine wp_block (wp_mono (ih _ _ _ _ _ h hR) fun e a' w' he=>?_)
    cases e<;>exact he
   ·rename_i b
    obtain ⟨ι,S,m,i0,h0,hS⟩:=h
    classical
    let I:Act→World→Prop:=fun a w=>∃ i σ,Rel A σ (S i) a w
    let Pn:Act→World→Nat→Prop:=fun a w x=>∃ i σ,m i=x∧Rel A σ (S i) a w
    have hmin:∀ a w,I a w→∃ x,Pn a w x∧∀ y,Pn a w y→x≤y:=by
     intro a w ⟨i,σ,hi⟩
     have key:∀ x,Pn a w x→∃ x,Pn a w x∧∀ y,Pn a w y→x≤y:=by
      intro x
      induction x using Nat.strongRecOn with
      | _ x ihx=>
       intro hx
       by_cases h:∃ y,y<x∧Pn a w y
       ·obtain ⟨y,hy,hp⟩:=h
        exact ihx y hy hp
       ·exact ⟨x,hx,fun y hy=>Nat.le_of_not_lt fun hlt=>h ⟨y,hlt,hy⟩⟩
     exact key (m i) ⟨i,σ,rfl,hi⟩
    let μ:Act→World→Nat:=fun a w=>if h:I a w then Classical.choose (hmin a w h) else 0
    have hμ:∀ a w (h:I a w),Pn a w (μ a w)∧∀ y,Pn a w y→μ a w≤y:=by
     intro a w h
     have:μ a w=Classical.choose (hmin a w h):=dif_pos h
     rw [this]
     exact Classical.choose_spec (hmin a w h)
    refine wp_loop I μ ?_ ?_
    ·obtain ⟨σ',h'⟩:=h0 A σ a w hk hR
     exact ⟨i0,σ',h'⟩
    ·intro a w hI
     obtain ⟨⟨i,σi,hm,hi⟩,_⟩:=hμ a w hI
     refine wp_mono (ih _ _ _ _ _ (hS i) hi) fun e a' w' he=>?_
     cases e with
     | normal=>
      obtain ⟨σ1,st1,⟨j,hj,hE⟩,hR1⟩:=he
      obtain ⟨σ2,hR2⟩:=hE A σ1 a' w' hk hR1
      have hI':I a' w':=⟨j,σ2,hR2⟩
      exact ⟨hI',by
       have:=(hμ a' w' hI').2 (m j) ⟨j,σ2,rfl,hR2⟩
       omega⟩
     | _=>exact he
   ·split at h
    ·rename_i r' hr'
     exact wp_exit (zmx hr' (ih _ _ _ _ _ h hR))
    ·exact h.elim
   ·exact h.elim
/-- What a result variable in memory holds. -/
def cellV (te:TE) (ctx:Ctx) (v:SV) (t:TypeId):Option SV:=
 match v with
 | .ptr h i k=>match ctx.at h,te t with
  | some ob,some ti=>match ob.isMap,ti.td with
   | false,.other=>none
   | true,_=>none
   | false,td=>if i<ob.n then (if td.isStruct then (if k+ti.size≤ob.sz∧(ob.el i).length=ob.sz then some (.agg (((ob.el i).drop k).take ti.size)) else none)
    else (if k<ob.sz then some ((ob.el i).getD k .u) else none)) else none
  | _,_=>none
 | _=>none
def tupS:List SV→SV
 | [x]=>x
 | l=>.tup l
/-- A function's results,out of the temporaries and what they point to. -/
def zsp (te:TE) (st:St) (Q:SV→Ctx→Prop):List ResultVar→List SV→Prop
 | [],acc=>Q (tupS acc) st.ctx
 | .tmp t::r,acc=>zsp te st Q r (acc++[look st.env t])
 | .cell a t::r,acc=>match cellV te st.ctx (look st.env a) t with
  | some x=>zsp te st Q r (acc++[x])
  | none=>False
def resF (tmps:Array Value):ResultVar→Sem Value
 | .tmp t=>pure (tmps.getD t undef)
 | .cell x t=>do loadVar t (←asAddr (tmps.getD x undef))
theorem zut (fn:Func) (tmps:Array Value):results fn tmps=(do
  let vs ←fn.results.mapM (resF tmps)
  pure (if h:vs.size=1 then vs[0] else .tuple vs)):=by
 unfold results
 congr
theorem zq9 {P:Program} {te:TE} (hte:j9 P te) {A:Amb} {σ:Asg} {st:St} {a:Act} {w:World} (hR:Rel A σ st a w) {x:Tmp} {t:TypeId} {z:SV} (h:cellV te st.ctx (look st.env x) t=some z) :
  ∃ u,rel σ z u∧(resF a.tmps (.cell x t)).run P w=.ok u w:=by
 unfold cellV at h
 split at h
 case h_2=>cases h
 rename_i hh i k hv
 split at h
 case h_2=>cases h
 rename_i ob ti hob hti
 have hr:=hR.env x
 rw [hv] at hr
 have key:∀ (ho:ti.td≠.other) (hm:ob.isMap=false) (hi:i<ob.n),(if ti.td.isStruct then k+ti.size≤ob.sz∧(ob.el i).length=ob.sz else k<ob.sz) →
   z=(if ti.td.isStruct then .agg (((ob.el i).drop k).take ti.size) else (ob.el i).getD k .u)→∃ u,rel σ z u∧(resF a.tmps (.cell x t)).run P w=.ok u w:=by
  intro ho hm hi hk hz
  obtain ⟨u,h1,h2⟩:=zfd hte hR hti ho hob hm hi hr hk
  subst hz
  refine ⟨u,h1, ?_⟩
  have h3:=h2 w fun _ _=>rfl
  simp only [rel] at hr
  obtain ⟨L,_,hp⟩:=hr
  rw [hp] at h3
  simp only [resF]
  rw [hp]
  simpa [Instr.loadAt,Instr.sureAddr,asAddr] using h3
 split at h
 ·cases h
 ·cases h
 ·rename_i hm hne
  split at h
  ·rename_i hi
   split at h
   ·rename_i hs
    split at h
    ·rename_i hk
     cases h
     exact key (fun e=>hne e) hm hi (by rw [if_pos hs];exact hk) (by rw [if_pos hs])
    ·cases h
   ·rename_i hs
    split at h
    ·rename_i hk
     cases h
     exact key (fun e=>hne e) hm hi (by rw [if_neg hs];exact hk) (by rw [if_neg hs])
    ·cases h
  ·cases h
theorem zcm {P:Program} {te:TE} (hte:j9 P te) {fn:Func} {A:Amb} {σ:Asg} {st:St} {a:Act} {w:World} (hR:Rel A σ st a w) {Q:SV→Ctx→Prop} (h:zsp te st Q fn.results.toList []) :
  ∃ z v,Q z st.ctx∧(results fn a.tmps).run P w=.ok v w∧rel σ z v:=by
 have key:∀ (l:List ResultVar) (acc:List SV) (us:List Value),relL σ acc us→zsp te st Q l acc →
   ∃ zs vs:_,Q (tupS zs) st.ctx∧relL σ zs (us++vs)∧(l.mapM (resF a.tmps)).run P w=.ok vs w:=by
  intro l
  induction l with
  | nil=>intro acc us hu h;exact ⟨acc,[],h,by simpa using hu,by simp⟩
  | cons x xs ih=>
   intro acc us hu h
   have app:∀ (z:SV) (u:Value),rel σ z u→relL σ (acc++[z]) (us++[u]):=by
    intro z u hz
    refine jz (by simp [y8 hu]) fun j y v hy hv=>?_
    have hl:=y8 hu
    by_cases hj:j<acc.length
    ·rw [List.getElem?_append_left hj] at hy
     rw [List.getElem?_append_left (by omega)] at hv
     obtain ⟨v',h1,h2⟩:=kl hu hy
     rw [hv] at h1;cases h1;exact h2
    ·rw [List.getElem?_append_right (by omega)] at hy
     rw [List.getElem?_append_right (by omega)] at hv
     have:j=acc.length:=by
      rcases Nat.lt_or_ge (j-acc.length) 1 with h' | h'
      ·omega
      ·rw [List.getElem?_eq_none (by simpa using h')] at hy;cases hy
     subst this
     simp at hy
     rw [show acc.length-us.length=0 from by omega] at hv
     simp at hv
     subst hy hv
     exact hz
   cases x with
   | tmp t=>
    simp only [zsp] at h
    obtain ⟨zs,vs,h1,h2,h3⟩:=ih (acc++[look st.env t]) (us++[a.tmps.getD t undef]) (app _ _ (hR.env t)) h
    refine ⟨zs,a.tmps.getD t undef::vs,h1,by simpa using h2, ?_⟩
    simp only [List.mapM_cons,Sem.run_bind,resF,Sem.run_pure,Result.andThen_ok]
    rw [h3]
    simp
   | cell y t=>
    simp only [zsp] at h
    split at h
    case h_2=>exact h.elim
    rename_i z hz
    obtain ⟨u,hu1,hu2⟩:=zq9 hte hR hz
    obtain ⟨zs,vs,h1,h2,h3⟩:=ih (acc++[z]) (us++[u]) (app _ _ hu1) h
    refine ⟨zs,u::vs,h1,by simpa using h2, ?_⟩
    rw [List.mapM_cons,Sem.run_bind,hu2]
    simp only [Result.andThen_ok,Sem.run_bind]
    rw [h3]
    simp
 obtain ⟨zs,vs,h0,h2,h1⟩:=key fn.results.toList [] [] (by simp [relL]) h
 simp only [List.nil_append] at h2
 have hrun:(results fn a.tmps).run P w=.ok (if h:vs.toArray.size=1 then vs.toArray[0] else .tuple vs.toArray) w:=by
  rw [zut,Sem.run_bind,Array.mapM_eq_mapM_toList]
  simp only [Sem.run_bind,map_eq_pure_bind,Sem.run_pure]
  rw [h1]
  simp
 refine ⟨tupS zs,_,h0,hrun, ?_⟩
 have hlen:=y8 h2
 unfold tupS
 split
 ·rename_i x
  simp only [relL] at h2
  obtain ⟨v,r,rfl,h3,rfl⟩:=h2
  simpa using h3
 ·rename_i hne
  rw [dif_neg]
  ·simp only [rel]
   exact ⟨_,rfl,by simpa using h2⟩
  ·intro h
   simp only [List.size_toArray] at h
   rw [h] at hlen
   match zs with
   | []=>simp at hlen
   | [x]=>exact hne x rfl
   | _::_::_=>simp at hlen
end Go.Vg
end
section
set_option linter.unusedVariables false
set_option linter.unusedSimpArgs false
set_option linter.unusedSectionVars false
set_option linter.unnecessarySimpa false
namespace Go.Vg
variable [Go.Vg.Glob]
open Go.RowKit
/-- Blocks of the objects that may be written. -/
def rwB (pre:Ctx) (σ:Asg) (b:Nat):Prop:=∃ h o L,pre.at h=some o∧o.ro=false∧σ h=some L∧L.b=b
structure PostOK (k:Nat) (pre:Ctx) (σ:Asg) (w:World) (z:SV) (v:Value) (c:Ctx) (σ':Asg) (w':World):Prop where
 val:rel σ' z v
 sat:Sat σ' w' c
 len:pre.length≤c.length
 base:∀ h,h<k→σ' h=σ h
 fr:Fr (rwB pre σ) w w'
 own:∀ h o L,c.at h=some o→o.ro=false→σ' h=some L→rwB pre σ L.b∨w.heap.size≤L.b
 new:∀ h o,k≤h→c.at h=some o→o.ro=false
 fzb:∀ b o,σ.fz b=some o→σ'.fz b=some o
 fzn:∀ b o,σ'.fz b=some o→σ.fz b=some o∨rwB pre σ b∨w.heap.size≤b
/-- A function's contract: from these arguments and objects on. The objects under the first 'k' numbers stay where they lie,the others may come to lie elsewhere. -/
def FnK (P:Program) (f:FuncId) (k:Nat) (args:List SV) (pre:Ctx) (Q:SV→Ctx→Prop):Prop:=
 zcg P f∧∀ (w:World) (σ:Asg) (vs:Array Value),Sat σ w pre→relL σ args vs.toList →
  Calls P f vs w fun e w'=>∃ v z c σ',e=.returned v∧Q z c∧PostOK k pre σ w z v c σ' w'
theorem FnK.mono {P:Program} {f:FuncId} {k:Nat} {args:List SV} {pre:Ctx} {Q Q':SV→Ctx→Prop} (h:FnK P f k args pre Q) (hq:∀ z c,Q z c→Q' z c):FnK P f k args pre Q' :=
 ⟨h.1,fun w σ vs h1 h2=>(h.2 w σ vs h1 h2).mono fun e w' ⟨v,z,c,σ',e1,e2,e3⟩=>⟨v,z,c,σ',e1,hq _ _ e2,e3⟩⟩
def zdk:Nat→List SV→List (Tmp×SV)
 | _,[]=>[]
 | i,x::xs=>(i,x)::zdk (i+1) xs
theorem zkh:∀ (l:List SV) (i t:Nat),look (zdk i l) t=if i≤t∧t<i+l.length then l.getD (t-i) .u else .u
 | [],i,t=>by simp [look,zdk]
 | x::xs,i,t=>by
  simp only [look,zdk]
  by_cases h:i=t
  ·subst h;simp
  ·rw [if_neg h,zkh xs (i+1) t]
   by_cases h2:i≤t∧t<i+(x::xs).length
   ·obtain ⟨k,rfl⟩:∃ k,t=i+1+k:=⟨t-i-1,by omega⟩
    simp only [List.length_cons] at h2
    rw [if_pos (by omega),if_pos (by simp only [List.length_cons];omega)]
    rw [show i+1+k-(i+1)=k from by omega,show i+1+k-i=k+1 from by omega]
    simp
   ·simp only [List.length_cons] at h2
    rw [if_neg (by omega),if_neg (by simp only [List.length_cons];omega)]
def zw (k:Nat) (c:Ctx):Prop:=((c.drop k).all fun o=>match o with | some x=>!x.ro | none=>true)=true
theorem zw.get {k:Nat} {c:Ctx} (h:zw k c) {j:Nat} {o:SO} (hj:k≤j) (ho:c.at j=some o):o.ro=false:=by
 unfold zw at h
 rw [List.all_eq_true] at h
 have hlt:j<c.length:=by
  rcases Nat.lt_or_ge j c.length with h' | h'
  ·exact h'
  ·rw [Ctx.at,List.getD_eq_getElem?_getD,List.getElem?_eq_none h'] at ho;cases ho
 have hm:(some o)∈c.drop k:=by
  refine List.mem_of_getElem? (i:=j-k) ?_
  rw [List.getElem?_drop,show k+(j-k)=j from by omega,List.getElem?_eq_getElem hlt]
  rw [Ctx.at,List.getD_eq_getElem?_getD,List.getElem?_eq_getElem hlt] at ho
  simpa using ho
 have:=h _ hm
 simpa using this
/-- From a walk to a contract;'F': what the walk brings about at its end. -/
theorem FnK.ofG {cf:Cf} (hcf:cf.ok) {f:FuncId} {fn:Func} {c:Code} (hf:cf.P.funcs[f]?=some fn) (hb:fn.body=some c) (hname:(fn.name == "runtime.NumGoroutine")=false)
  (hnt:fn.ntmps=cf.nt) {args:List SV} {pre:Ctx} (hlen:args.length≤cf.nt) (hk:cf.k≤pre.length) {rs:List ResultVar} (hrs:fn.results.toList=rs) {Q:SV→Ctx→Prop} {F:St→Prop} (hF:∀ (A:Amb) (σ:Asg) (st:St) (a:Act) (w:World),A.k=cf.k→A.gr=true→F st→Rel A σ st a w→∃ z v c σ2,Q z c∧(results fn a.tmps).run cf.P w=.ok v w∧rel σ2 z v∧Rel A σ2 ⟨[],c⟩ a w∧zw cf.k c∧pre.length≤c.length) (n:Nat)
  (h:vc cf F n [.code c] ⟨zdk 0 args,pre⟩):FnK cf.P f cf.k args pre Q:=by
 subst hrs
 refine ⟨⟨fn,hf,by simp [hb],hname⟩,fun w σ vs hsat hargs=>?_⟩
 have hl:=y8 hargs
 simp only [Array.length_toList] at hl
 let A:Amb:=⟨w,rwB pre σ,σ,cf.k,cf.nt,true⟩
 let a:Act:={ tmps:=vs++Array.replicate (fn.ntmps-vs.size) undef,defers:=[] }
 have hR:Rel A σ ⟨zdk 0 args,pre⟩ a w:=by
  refine ⟨rfl, ?_,fun t=>?_,hsat,Fr.refl _ _,fun h o L h1 h2 h3=>.inl ⟨h,o,L,h1,h2,h3,rfl⟩,⟨fun _ _=>rfl,fun _ _ h=>h,fun _ _ h=>.inl h⟩,hk⟩
  ·simp [a,A];omega
  ·rw [zkh]
   split
   ·rename_i ht
    simp only [Nat.zero_add] at ht
    obtain ⟨v,hv,hr⟩:=kl hargs (j:=t) (x:=args[t]) (by simp [ht.2])
    have h1:args.getD (t-0) .u=args[t]:=by simp [List.getD_eq_getElem?_getD,List.getElem?_eq_getElem ht.2]
    rw [h1]
    have h2:a.tmps.getD t undef=v:=by
     rw [Array.getElem?_toList] at hv
     simp only [a]
     rw [Array.getD_eq_getD_getElem?,Array.getElem?_append_left (by omega),hv]
     rfl
    rw [h2]
    exact hr
   ·simp [rel]
 refine calls_of_wp hf hb ?_
 have hkp:=vc_sound hcf (A:=A) rfl rfl rfl n _ _ _ _ _ h hR
 simp only [KP] at hkp
 refine wp_mono hkp fun e a' w' he=>?_
 have fin:∀ σ' st',(F st'∧Rel A σ' st' a' w')→a'.defers=[]∧∃ v,(results fn a'.tmps).run cf.P w'=.ok v w' ∧
   ∃ v_1 z c σ',Ending.returned v=Ending.returned v_1∧Q z c∧PostOK cf.k pre σ w z v_1 c σ' w':=by
  intro σ1 st' ⟨hq,hR1⟩
  obtain ⟨z,v,c,σ',hz,hv,hr,hR',hn,hl⟩:=hF A σ1 st' a' w' rfl rfl hq hR1
  exact ⟨hR'.defers,v,hv,v,z,_,σ',rfl,hz,hr,hR'.sat,hl,hR'.base.loc,hR'.fr,hR'.own,fun h o h1 h2=>hn.get h1 h2,hR'.base.fzb,fun b o h=>(hR'.base.fzn b o h).imp id And.right⟩
 cases e with
 | normal=>
  simp only [KP] at he
  obtain ⟨σ',st',h1,h2⟩:=he
  exact fin σ' st' ⟨h1,h2⟩
 | ret=>
  simp only [KP] at he
  obtain ⟨σ',st',h1,h2⟩:=he
  exact fin σ' st' ⟨h1,h2⟩
 | _=>simp only [KP] at he
theorem FnK.of {cf:Cf} (hcf:cf.ok) {f:FuncId} {fn:Func} {c:Code} (hf:cf.P.funcs[f]?=some fn) (hb:fn.body=some c) (hname:(fn.name == "runtime.NumGoroutine")=false)
  (hnt:fn.ntmps=cf.nt) {args:List SV} {pre:Ctx} (hlen:args.length≤cf.nt) (hk:cf.k≤pre.length) {rs:List ResultVar} (hrs:fn.results.toList=rs) {Q:SV→Ctx→Prop} (n:Nat)
  (h:vc cf (fun st=>zsp cf.te st Q rs []∧zw cf.k st.ctx∧pre.length≤st.ctx.length) n [.code c] ⟨zdk 0 args,pre⟩):FnK cf.P f cf.k args pre Q:=by
 refine FnK.ofG hcf hf hb hname hnt hlen hk hrs (fun A σ st a w _ _ hF hR=>?_) n h
 obtain ⟨hq,hn,hl⟩:=hF
 rw [←hrs] at hq
 obtain ⟨z,v,hz,hv,hr⟩:=zcm (P:=cf.P) hcf.te hR hq
 exact ⟨z,v,_,σ,hz,hv,hr,⟨hR.defers,hR.size,fun t=>by simp [look,rel],hR.sat,hR.fr,hR.own,hR.base,hR.klen⟩,hn,hl⟩
theorem zgg {σ:Asg} {w:World} {n:Nat} {ctx:Ctx} (hs:Sat σ w ctx) {b:Nat} {o:Obj} (hb:σ.fz b=some o):(if n≤b then w.heap[b]? else σ.fz b)=some o:=by
 split
 ·exact hs.frz b o hb
 ·exact hb
-- A value whose rows lie in new blocks,once those are frozen.
mutual
theorem zza {σ:Asg} {w:World} {n:Nat} {ctx:Ctx} (hs:Sat σ w ctx) (hnew:∀ h o L,ctx.at h=some o→o.ro=false→σ h=some L→n≤L.b) (hrw:∀ h o,ctx.at h=some o→o.ro=false) :
  ∀ {x:SV} {v:Value},xw ctx x→(zdi ctx x).plain=true→rel σ x v→rel ⟨fun _=>none,fun b=>if n≤b then w.heap[b]? else σ.fz b⟩ (zdi ctx x) v
 | .slc h lo len,v,hok,hp,hr=>by
  have hr0:=hr
  simp only [zdi] at hp ⊢
  simp only [xw] at hok
  split at hp
  ·rename_i ro sz n' f hob
   rw [hob] at hok
   obtain ⟨hn,hel⟩:=hok
   simp only [rel] at hr ⊢
   obtain ⟨a,cap,rfl,hl,hr⟩:=hr
   have hlen:(jy f lo len).length=len:=by simp [jy]
   refine ⟨a,cap,by rw [hlen],by rw [hlen];exact hl, ?_⟩
   by_cases h0:len=0
   ·left;subst h0;rfl
   right
   rcases hr with hr | ⟨L,hL,rfl,hav⟩
   ·omega
   have hobj:=hs.obj h _ hob
   unfold qf at hobj
   simp only [SO.isMap] at hobj
   rcases hobj with ⟨_,h1⟩ | ⟨L',c,e,fr,hL',hc⟩
   ·rw [h1] at hL;cases hL
   rw [hL'] at hL
   cases hL
   have hsz:L.sz=sz:=hc.lsz
   have hge:n≤L.b:=hnew h _ L hob (hrw h _ hob) hL'
   refine ⟨L.b,L.sh+lo * L.sz+0,c,e,fr,rfl,by simp only [if_pos hge];exact hc.heap,ul fun j x hx=>?_⟩
   have hj:j<len:=by rw [←hlen];exact (List.getElem?_eq_some_iff.1 hx).1
   have hx':x=f (lo+j):=by simpa [jy,hj] using hx.symm
   subst hx'
   obtain ⟨e1,e2⟩:=hel j hj
   refine ⟨e1, ?_⟩
   have:=zzy hc (i:=lo+j) (by omega) e1
   rw [List.drop_drop,hsz,show L.sh+lo * sz+0+j * sz=L.sh+(lo+j) * sz by rw [Nat.add_mul];omega]
   exact ue (fun b o hb=>zgg hs hb) e2 this
  ·simp [SV.plain] at hp
 | .agg l,v,hok,hp,hr=>by
  simp only [zdi,xw,SV.plain,rel] at hok hp hr ⊢
  obtain ⟨cs,e,hr⟩:=hr
  exact ⟨cs,e,zmq hs hnew hrw hok hp hr⟩
 | .tup l,v,hok,hp,hr=>by
  simp only [zdi,xw,SV.plain,rel] at hok hp hr ⊢
  obtain ⟨cs,e,hr⟩:=hr
  exact ⟨cs,e,zmq hs hnew hrw hok hp hr⟩
 | .b _,_,_,hp,hr=>yq (fun b o hb=>zgg hs hb) hp hr
 | .i _ _,_,_,hp,hr=>yq (fun b o hb=>zgg hs hb) hp hr
 | .s _,_,_,hp,hr=>yq (fun b o hb=>zgg hs hb) hp hr
 | .ptr _ _ _,_,_,hp,hr=>yq (fun b o hb=>zgg hs hb) hp hr
 | .nils,_,_,hp,hr=>yq (fun b o hb=>zgg hs hb) hp hr
 | .mp _,_,_,hp,hr=>yq (fun b o hb=>zgg hs hb) hp hr
 | .fn _,_,_,hp,hr=>yq (fun b o hb=>zgg hs hb) hp hr
 | .gd _ _,_,_,hp,hr=>yq (fun b o hb=>zgg hs hb) hp hr
 | .u,_,_,hp,hr=>yq (fun b o hb=>zgg hs hb) hp hr
 | .fs _ _,_,_,hp,hr=>yq (fun b o hb=>zgg hs hb) hp hr
 | .fp _ _,_,_,hp,hr=>yq (fun b o hb=>zgg hs hb) hp hr
theorem zmq {σ:Asg} {w:World} {n:Nat} {ctx:Ctx} (hs:Sat σ w ctx) (hnew:∀ h o L,ctx.at h=some o→o.ro=false→σ h=some L→n≤L.b) (hrw:∀ h o,ctx.at h=some o→o.ro=false) :
  ∀ {x:List SV} {v:List Value},jr ctx x→plainL (vm ctx x)=true→relL σ x v→relL ⟨fun _=>none,fun b=>if n≤b then w.heap[b]? else σ.fz b⟩ (vm ctx x) v
 | [],_,_,_,hr=>by simpa [relL,vm] using hr
 | x::xs,_,hok,hp,hr=>by
  simp only [relL,vm,plainL,jr,Bool.and_eq_true] at hok hp hr ⊢
  obtain ⟨v,q,e,r1,r2⟩:=hr
  exact ⟨v,q,e,zza hs hnew hrw hok.1 hp.1 r1,zmq hs hnew hrw hok.2 hp.2 r2⟩
end
/-! Functions on values without handles. -/
/-- What a function's rows hold at its end,frozen for good. -/
def FnZ (P:Program) (f:FuncId) (args:List SV) (z:SV):Prop:=FnK P f 0 args [] fun z' c=>xw c z'∧zdi c z'=z
/-- A function of values without handles that turns nothing. -/
def PF (P:Program) (f:FuncId) (args:List SV) (z:SV):Prop:=plainL args=true∧z.plain=true∧FnZ P f args z
theorem sat_nil (w:World) {fz:Nat→Option Obj} (h:∀ b o,fz b=some o→w.heap[b]?=some o) (hg:∀ b o,Glob.g b=some o→fz b=some o):Sat ⟨fun _=>none,fz⟩ w []:=
 ⟨fun h o e=>(by simp [Ctx.at] at e),fun h h' o o' L L' _ e=>(by simp [Ctx.at] at e),fun _ _=>rfl,fun _ _ e=>(by cases e),h,fun h o L e=>(by simp [Ctx.at] at e),hg⟩
theorem zdc {σ:Asg} {b:Nat}:¬rwB [] σ b:=by
 rintro ⟨h,o,L,hh,_⟩
 simp [Ctx.at] at hh
/-- Rows that nobody else zfe of,frozen for good as a function ends. -/
theorem zvd {pre:Ctx} {σ:Asg} {w:World} {z:SV} {v:Value} {c:Ctx} {σ':Asg} {w':World} (p:PostOK 0 pre σ w z v c σ' w') (hok:xw c z) (hp:(zdi c z).plain=true)
  (hall:pre=[]):∃ σ'',PostOK 0 pre σ w (zdi c z) v [] σ'' w':=by
 subst hall
 have hfz:∀ b o,σ'.fz b=some o→w'.heap[b]?=some o:=p.sat.frz
 refine ⟨⟨fun _=>none,fun b=>if w.heap.size≤b then w'.heap[b]? else σ'.fz b⟩, ?_, ?_,Nat.le_refl _,fun h hh=>absurd hh (Nat.not_lt_zero _),p.fr,fun h o L e=>by simp [Ctx.at] at e,fun h o _ e=>by simp [Ctx.at] at e,fun b o hb=>?_,fun b o hb=>?_⟩
 ·-- the value,by blocks that are new or were frozen
  exact zza p.sat (fun h o L e r s=>(p.own h o L e r s).resolve_left zdc) (fun h o e=>p.new h o (Nat.zero_le _) e) hok hp p.val
 ·refine ⟨fun h o e=>(by simp [Ctx.at] at e),fun h h' o o' L L' _ e=>(by simp [Ctx.at] at e),fun _ _=>rfl,fun _ _ e=>(by cases e),fun b o hb=>?_,fun h o L e=>(by simp [Ctx.at] at e),fun b o hb=>?_⟩
  simp only at hb
  split at hb
  ·exact hb
  ·exact hfz b o hb
  have hb':=p.sat.glb b o hb
  simp only
  split
  ·exact hfz b o hb'
  ·exact hb'
 ·simp only
  split
  ·exact hfz b o (p.fzb b o hb)
  ·exact p.fzb b o hb
 ·simp only at hb
  split at hb
  ·rename_i h;exact .inr (.inr h)
  ·exact p.fzn b o hb
theorem PF.call {P:Program} {f:FuncId} {args:List SV} {z:SV} (h:PF P f args z):jl P f args z:=by
 obtain ⟨h1,h2,hb,h3⟩:=h
 refine ⟨hb,h1,h2,fun fz w vs hfz hgl hargs=>?_⟩
 refine (h3 w ⟨fun _=>none,fz⟩ vs (sat_nil w hfz hgl) hargs).mono fun e w' ⟨v,z',c,σ',e1,⟨e2,e3⟩,p⟩=>?_
 subst e3
 obtain ⟨σ'',p⟩:=zvd p e2 h2 rfl
 exact ⟨v,σ''.fz,e1,yq (σ:=σ'') (σ':=⟨fun _=>none,σ''.fz⟩) (fun _ _ h=>h) h2 p.val,p.fr.mono fun b _ hb=>(zdc hb).elim,p.fzb,p.sat.frz,
  fun b o hb=>(p.fzn b o hb).imp id fun h=>h.resolve_left zdc⟩
/-- Objects as another function's numbers call them. -/
def SO.mapH (μ:Nat→Nat):SO→SO
 | .row r z n f=>.row r z n fun i=>jb μ (f i)
 | .blk r cs=>.blk r (jb μ cs)
 | o=>o
/-- 'o0' tells no more than 'o',up to the handles' numbers. -/
structure soLe (μ:Nat→Nat) (o0 o:SO):Prop where
 ro:o0.ro=false→o.ro=false
 isMap:o0.isMap=o.isMap
 sz:o0.sz=o.sz
 n:o0.n≤o.n
 ents:o0.ents=o.ents
 el:∀ i,i<o0.n→jb μ (o0.el i)=o.el i
/-- Handles of a callee,in the caller's numbers: 'l' those that it was handed,then the new ones. -/
def muL (l:List Nat) (m:Nat) (h:Nat):Nat:=match l[h]? with
 | some g=>g
 | none=>m+(h-l.length)
def xl (μ:Nat→Nat) (ctx:Ctx):List Nat→Ctx→Prop
 | [],[]=>True
 | g::l,o0::pre=>g<ctx.length∧(match o0 with
  | none=>False
  | some o0=>match ctx.at g with
   | some o=>soLe μ o0 o
   | none=>False)∧xl μ ctx l pre
 | _,_=>False
/-- What may be written is handed once only. -/
def once (l:List Nat) (pre:Ctx):Prop:=(pre.all fun o=>match o with | some x=>x.ro | none=>true)=true∨l.Nodup
def upd (μ:Nat→Nat):List Nat→Ctx→Ctx→Ctx→Ctx
 | g::l,some o::pre,x::c,ctx=>upd μ l pre c (if o.ro=false then ctx.set g (x.map (SO.mapH μ)) else ctx)
 | _::l,none::pre,_::c,ctx=>upd μ l pre c ctx
 | _,_,_,ctx=>ctx
theorem yi (x:Option SO) (c:Ctx) (h:Nat):Ctx.at (x::c) (h+1)=Ctx.at c h:=by simp [Ctx.at]
theorem ye (x:Option SO) (c:Ctx):Ctx.at (x::c) 0=x:=by simp [Ctx.at]
theorem zz8 {c:Ctx} {i j:Nat} {x:Option SO}:Ctx.at (c.set i x) j=if i=j∧i<c.length then x else Ctx.at c j:=by
 simp only [Ctx.at,List.getD_eq_getElem?_getD,List.getElem?_set]
 by_cases h:i=j
 ·subst h
  by_cases h2:i<c.length
  ·simp [h2]
  ·simp [h2,List.getElem?_eq_none (Nat.le_of_not_lt h2)]
 ·simp [h]
theorem zck (μ:Nat→Nat):∀ (l:List Nat) (pre c ctx:Ctx),(upd μ l pre c ctx).length=ctx.length
 | [],_,_,_=>by simp [upd]
 | _::_,[],_,_=>by simp [upd]
 | _::_,some _::_,[],_=>by simp [upd]
 | _::_,none::_,[],_=>by simp [upd]
 | g::l,some o::pre,x::c,ctx=>by
  simp only [upd]
  rw [zck μ l pre c]
  split<;>simp
 | g::l,none::pre,x::c,ctx=>by
  simp only [upd]
  rw [zck μ l pre c]
theorem zr1 (μ:Nat→Nat) (g:Nat):∀ (l:List Nat) (pre c ctx:Ctx),(∀ h o,l[h]?=some g→Ctx.at pre h=some o→o.ro=true)→Ctx.at (upd μ l pre c ctx) g=Ctx.at ctx g
 | [],_,_,_,_=>by simp [upd]
 | _::_,[],_,_,_=>by simp [upd]
 | _::_,some _::_,[],_,_=>by simp [upd]
 | _::_,none::_,[],_,_=>by simp [upd]
 | g'::l,some o::pre,x::c,ctx,hh=>by
  simp only [upd]
  rw [zr1 μ g l pre c _ fun h o h1 h2=>hh (h+1) o (by simpa using h1) (by rw [yi];exact h2)]
  split
  ·rename_i hro
   rw [zz8];rw [if_neg]
   rintro ⟨rfl,_⟩
   have:=hh 0 o rfl (ye _ _)
   rw [hro] at this;cases this
  ·rfl
 | g'::l,none::pre,x::c,ctx,hh=>by
  simp only [upd]
  exact zr1 μ g l pre c _ fun h o h1 h2=>hh (h+1) o (by simpa using h1) (by rw [yi];exact h2)
theorem zv9 (μ:Nat→Nat) {g:Nat} {o:SO} (hro:o.ro=false):∀ (l:List Nat) (pre c ctx:Ctx) (h:Nat),l.Nodup→l[h]?=some g→Ctx.at pre h=some o→g<ctx.length→h<c.length→Ctx.at (upd μ l pre c ctx) g=(Ctx.at c h).map (SO.mapH μ)
 | [],_,_,_,h,_,h1,_,_,_=>by simp at h1
 | _::_,[],_,_,h,_,_,h2,_,_=>by simp [Ctx.at] at h2
 | _::_,some _::_,[],_,h,_,_,_,_,h4=>by simp at h4
 | _::_,none::_,[],_,h,_,_,_,_,h4=>by simp at h4
 | g'::l,some o'::pre,x::c,ctx,0,hn,h1,h2,h3,h4=>by
  simp only [upd]
  simp at h1
  subst h1
  rw [ye] at h2
  cases h2
  rw [zr1 μ g' l pre c _ fun h o h1 h2=>?_]
  ·rw [if_pos hro,zz8,if_pos ⟨rfl,h3⟩,ye]
  ·rw [List.nodup_cons] at hn
   exact absurd (List.mem_of_getElem? h1) hn.1
 | g'::l,none::pre,x::c,ctx,0,hn,h1,h2,h3,h4=>by
  rw [ye] at h2;cases h2
 | g'::l,some o'::pre,x::c,ctx,h+1,hn,h1,h2,h3,h4=>by
  simp only [upd]
  rw [yi] at h2
  rw [yi]
  rw [List.nodup_cons] at hn
  exact zv9 μ hro l pre c _ h hn.2 (by simpa using h1) h2 (by split<;>simpa using h3) (by simpa using h4)
 | g'::l,none::pre,x::c,ctx,h+1,hn,h1,h2,h3,h4=>by
  simp only [upd]
  rw [yi] at h2
  rw [yi]
  rw [List.nodup_cons] at hn
  exact zv9 μ hro l pre c _ h hn.2 (by simpa using h1) h2 h3 (by simpa using h4)
def zr (μ:Nat→Nat) (l:List Nat) (pre c ctx:Ctx):Ctx:=upd μ l pre c ctx++(c.drop pre.length).map fun o=>o.map (SO.mapH μ)
theorem zcy {μ:Nat→Nat} {ctx:Ctx}:∀ {l:List Nat} {pre:Ctx},xl μ ctx l pre→l.length=pre.length∧∀ h g,l[h]?=some g→g<ctx.length∧(Ctx.at pre h).isSome=true∧∀ o0,Ctx.at pre h=some o0→∃ o,ctx.at g=some o∧soLe μ o0 o
 | [],[],_=>⟨rfl,fun h g hg=>by simp at hg⟩
 | g::l,o0::pre,hm=>by
  simp only [xl] at hm
  obtain ⟨h1,h2,h3⟩:=hm
  obtain ⟨hl,hh⟩:=zcy h3
  refine ⟨by simp [hl],fun h g' hg=>?_⟩
  cases h with
  | zero=>
   simp at hg
   subst hg
   refine ⟨h1,by rw [ye];cases o0 with | none=>exact h2.elim | some _=>rfl,fun o0' ho=>?_⟩
   rw [ye] at ho
   subst ho
   simp only at h2
   split at h2
   ·rename_i o e;exact ⟨o,e,h2⟩
   ·exact h2.elim
  | succ h=>
   rw [yi]
   exact hh h g' (by simpa using hg)
 | [],_::_,h=>by simp [xl] at h
 | _::_,[],h=>by simp [xl] at h
theorem entsRel_le {σ:Asg} {a b:List (SV×SV)} (h:a=b) {es:List MapEntry} (r:qm σ b es):qm σ a es:=h▸r
theorem zkr (μ:Nat→Nat) (l:List SV) (k:Nat):(jb μ l).getD k .u=(l.getD k .u).mapH μ:=by
 rw [zmf]
 simp only [List.getD_eq_getElem?_getD,List.getElem?_map]
 cases l[k]?<;>simp [SV.mapH]
theorem SO.ents_mapH (μ:Nat→Nat) (o:SO):(o.mapH μ).ents=o.ents:=by cases o<;>rfl
theorem SO.ro_mapH (μ:Nat→Nat) (o:SO):(o.mapH μ).ro=o.ro:=by cases o<;>rfl
theorem SO.isMap_mapH (μ:Nat→Nat) (o:SO):(o.mapH μ).isMap=o.isMap:=by cases o<;>rfl
theorem SO.n_mapH (μ:Nat→Nat) (o:SO):(o.mapH μ).n=o.n:=by cases o<;>rfl
theorem SO.sz_mapH (μ:Nat→Nat) (o:SO):(o.mapH μ).sz=o.sz:=by cases o<;>simp [SO.mapH,SO.sz,zmf]
theorem SO.el_mapH (μ:Nat→Nat) (o:SO) (i:Nat):(o.mapH μ).el i=jb μ (o.el i):=by cases o<;>simp [SO.mapH,SO.el,jb]
theorem zcx {σ σ':Asg}:∀ {l:List (SV×SV)} {es:List MapEntry},(∀ p∈l,p.1.bit=true∧p.2.bit=true)→qm σ l es→qm σ' l es
 | [],_,_,h=>by simpa [qm] using h
 | p::ps,es,hp,h=>by
  simp only [qm] at h ⊢
  obtain ⟨e,r,h1,h2,h3,h4⟩:=h
  exact ⟨e,r,h1,zex (hp p (by simp)).1 h2,zex (hp p (by simp)).2 h3,zcx (fun q hq=>hp q (by simp [hq])) h4⟩
theorem SO.ents_isPlain (o:SO):∀ p∈o.ents,p.1.bit=true∧p.2.bit=true:=by
 cases o<;>simp [SO.ents]
 all_goals (intros;subst_vars;simp [SV.bit])
/-- An object that lies under 'σ (μ h)' is told under the caller's number 'μ h',and the other way about. -/
theorem zx0 {σ σ0:Asg} {μ:Nat→Nat} (hσ:∀ h,σ (μ h)=σ0 h) (hfz:σ0.fz=σ.fz) {w:World} {h:Nat} {o:SO} (hs:qf σ0 w h o):qf σ w (μ h) (o.mapH μ):=by
 have e:σ0=σ.ren μ:=by
  obtain ⟨l0,f0⟩:=σ0
  simp only [Asg.ren,Asg.mk.injEq]
  exact ⟨funext fun h=>(hσ h).symm,hfz⟩
 unfold qf at hs ⊢
 rw [SO.isMap_mapH]
 cases hm:o.isMap with
 | true=>
  rw [hm] at hs
  obtain ⟨L,es,ck,h1,h2,h3⟩:=hs
  refine ⟨L,es,ck,(hσ h).trans h1,h2, ?_⟩
  rw [SO.ents_mapH]
  exact zcx o.ents_isPlain h3
 | false=>
  rw [hm] at hs
  rcases hs with ⟨h1,h2⟩ | ⟨L,c,el,fr,h1,h2⟩
  ·exact .inl ⟨by rw [SO.n_mapH];exact h1,(hσ h).trans h2⟩
  ·refine .inr ⟨L,c,el,fr,(hσ h).trans h1,h2.heap,by rw [SO.sz_mapH];exact h2.lsz,h2.room,by rw [SO.n_mapH,SO.sz_mapH];exact h2.fits,fun i k hi hk=>?_,fun hr=>h2.free (by rw [SO.ro_mapH] at hr;exact hr)⟩
   rw [SO.n_mapH] at hi
   rw [SO.sz_mapH] at hk
   obtain ⟨v,hv,hrel⟩:=h2.cell i k hi hk
   rw [SO.sz_mapH]
   refine ⟨v,hv, ?_⟩
   rw [SO.el_mapH,zkr,xy]
   exact e▸hrel
theorem zhp {σ σ0:Asg} {μ:Nat→Nat} (hσ:∀ h,σ (μ h)=σ0 h) (hfz:σ0.fz=σ.fz) {w:World} {h:Nat} {o0 o:SO} (hle:soLe μ o0 o) (hs:qf σ w (μ h) o):qf σ0 w h o0:=by
 have e:σ0=σ.ren μ:=by
  obtain ⟨l0,f0⟩:=σ0
  simp only [Asg.ren,Asg.mk.injEq]
  exact ⟨funext fun h=>(hσ h).symm,hfz⟩
 unfold qf at hs ⊢
 rw [hle.isMap]
 cases hm:o.isMap with
 | true=>
  rw [hm] at hs
  obtain ⟨L,es,ck,h1,h2,h3⟩:=hs
  refine ⟨L,es,ck,(hσ h).symm.trans h1,h2, ?_⟩
  rw [hle.ents]
  exact zcx o.ents_isPlain h3
 | false=>
  rw [hm] at hs
  rcases hs with ⟨h1,h2⟩ | ⟨L,c,el,fr,h1,h2⟩
  ·exact .inl ⟨by have:=hle.n;omega,(hσ h).symm.trans h2⟩
  ·refine .inr ⟨L,c,el,fr,(hσ h).symm.trans h1,h2.heap,by rw [hle.sz];exact h2.lsz,h2.room,by rw [hle.sz];exact Nat.le_trans (Nat.mul_le_mul_right _ hle.n) h2.fits,fun i k hi hk=>?_,fun hr=>h2.free (hle.ro hr)⟩
   rw [hle.sz] at hk
   obtain ⟨v,hv,hrel⟩:=h2.cell i k (Nat.lt_of_lt_of_le hi hle.n) hk
   rw [hle.sz]
   refine ⟨v,hv, ?_⟩
   rw [←hle.el i hi,zkr,xy] at hrel
   exact e▸hrel
end Go.Vg
end
