/- A contract, used by a caller over its own objects. -/
import Derived.Test.YtgippllfnmdnpaaGreatDoorTAF
section
set_option linter.unusedVariables false
set_option linter.unusedSimpArgs false
set_option linter.unusedSectionVars false
set_option linter.unnecessarySimpa false
namespace Go.Vg
variable [Go.Vg.Glob]
open Go.RowKit
theorem zz9 (a b:Ctx) (g:Nat):Ctx.at (a++b) g=if g<a.length then Ctx.at a g else Ctx.at b (g-a.length):=by
 simp only [Ctx.at,List.getD_eq_getElem?_getD,List.getElem?_append]
 split<;>rfl
theorem zra (μ:Nat→Nat) (c:Ctx) (k j:Nat):Ctx.at ((c.drop k).map fun o=>o.map (SO.mapH μ)) j=(Ctx.at c (k+j)).map (SO.mapH μ):=by
 simp only [Ctx.at,List.getD_eq_getElem?_getD,List.getElem?_map,List.getElem?_drop]
 cases c[k+j]?<;>simp
-- Values that do not speak of some handles.
mutual
def noH (B:List Nat):SV→Bool
 | .ptr h _ _=>!B.contains h
 | .slc h _ _=>!B.contains h
 | .mp h=>!B.contains h
 | .agg l=>zd4 B l
 | .tup l=>zd4 B l
 | .gd _ x=>noH B x
 | _=>true
def zd4 (B:List Nat):List SV→Bool
 | []=>true
 | x::xs=>noH B x&&zd4 B xs
end
theorem zmc {B:List Nat}:∀ {l:List SV},zd4 B l=true→∀ k,noH B (l.getD k .u)=true
 | [],_,k=>by simp [noH]
 | x::xs,h,k=>by
  simp only [zd4,Bool.and_eq_true] at h
  cases k with
  | zero=>simpa using h.1
  | succ k=>simpa using zmc h.2 k
mutual
theorem zqu:∀ (x:SV),noH [] x=true
 | .ptr _ _ _=>by simp [noH]
 | .slc _ _ _=>by simp [noH]
 | .mp _=>by simp [noH]
 | .agg l=>by simp only [noH];exact za8 l
 | .tup l=>by simp only [noH];exact za8 l
 | .gd _ x=>by simp only [noH];exact zqu x
 | .b _=>rfl
 | .i _ _=>rfl
 | .s _=>rfl
 | .nils=>rfl
 | .fn _=>rfl
 | .u=>rfl
 | .fs _ _=>rfl
 | .fp _ _=>rfl
theorem za8:∀ (x:List SV),zd4 [] x=true
 | []=>rfl
 | x::xs=>by simp only [zd4,zqu x,za8 xs,Bool.and_self]
end
mutual
theorem zlp {σ σ':Asg} {B:List Nat} (h1:∀ h L,B.contains h=false→σ h=some L→σ' h=some L) (h2:∀ b o,σ.fz b=some o→σ'.fz b=some o):∀ {x:SV} {v:Value},noH B x=true→rel σ x v→rel σ' x v
 | .b _,_,_,r=>by simpa [rel] using r
 | .i _ _,_,_,r=>by simpa [rel] using r
 | .s _,_,_,r=>by simpa [rel] using r
 | .nils,_,_,r=>by simpa [rel] using r
 | .fn _,_,_,r=>by simpa [rel] using r
 | .u,_,_,r=>by simp [rel]
 | .ptr _ _ _,_,h,r=>by
  simp only [noH,Bool.not_eq_true'] at h
  simp only [rel] at r ⊢
  obtain ⟨L,e,r⟩:=r
  exact ⟨L,h1 _ _ h e,r⟩
 | .slc _ _ _,_,h,r=>by
  simp only [noH,Bool.not_eq_true'] at h
  simp only [rel] at r ⊢
  obtain ⟨a,cap,e,hl,r⟩:=r
  exact ⟨a,cap,e,hl,r.imp id fun ⟨L,e,r⟩=>⟨L,h1 _ _ h e,r⟩⟩
 | .mp _,_,h,r=>by
  simp only [noH,Bool.not_eq_true'] at h
  simp only [rel] at r ⊢
  obtain ⟨L,e,r⟩:=r
  exact ⟨L,h1 _ _ h e,r⟩
 | .fs sz l,_,_,r=>yq h2 (x:=.fs sz l) rfl r
 | .fp l k,_,_,r=>yq h2 (x:=.fp l k) rfl r
 | .agg l,_,h,r=>by
  simp only [rel,noH] at r h ⊢
  obtain ⟨cs,e,r⟩:=r
  exact ⟨cs,e,zlq h1 h2 h r⟩
 | .tup l,_,h,r=>by
  simp only [rel,noH] at r h ⊢
  obtain ⟨cs,e,r⟩:=r
  exact ⟨cs,e,zlq h1 h2 h r⟩
 | .gd _ x,_,h,r=>by
  simp only [rel,noH] at r h ⊢
  exact ⟨fun g=>zlp h1 h2 h (r.1 g),r.2⟩
theorem zlq {σ σ':Asg} {B:List Nat} (h1:∀ h L,B.contains h=false→σ h=some L→σ' h=some L) (h2:∀ b o,σ.fz b=some o→σ'.fz b=some o):∀ {x:List SV} {v:List Value},zd4 B x=true→relL σ x v→relL σ' x v
 | [],_,_,r=>by simpa [relL] using r
 | _::_,_,h,r=>by
  simp only [relL,zd4,Bool.and_eq_true] at r h ⊢
  obtain ⟨v,q,e,r1,r2⟩:=r
  exact ⟨v,q,e,zlp h1 h2 h.1 r1,zlq h1 h2 h.2 r2⟩
end
def vi (B:List Nat):SO→Prop
 | .row _ _ n f=>∀ i,i<n→zd4 B (f i)=true
 | .blk _ cs=>zd4 B cs=true
 | _=>True
theorem zu5 {σ σ':Asg} {B:List Nat} (h1:∀ h L,B.contains h=false→σ h=some L→σ' h=some L) (h2:∀ b o,σ.fz b=some o→σ'.fz b=some o) {w w':World} {h:Nat} {o:SO} (hcl:vi B o) (hh:σ' h=σ h)
  (hb:∀ L,σ h=some L→w'.heap[L.b]?=w.heap[L.b]?) (hs:qf σ w h o):qf σ' w' h o:=by
 unfold qf at *
 cases hm:o.isMap with
 | true=>
  rw [hm] at hs
  obtain ⟨L,es,ck,g1,g2,g3⟩:=hs
  exact ⟨L,es,ck,hh.trans g1,(hb L g1).trans g2,zcx o.ents_isPlain g3⟩
 | false=>
  rw [hm] at hs
  rcases hs with ⟨g1,g2⟩ | ⟨L,c,e,fr,g1,g2⟩
  ·exact .inl ⟨g1,hh.trans g2⟩
  ·refine .inr ⟨L,c,e,fr,hh.trans g1,⟨(hb L g1).trans g2.heap,g2.lsz,g2.room,g2.fits,fun i k hi hk=>?_,g2.free⟩⟩
   obtain ⟨v,e1,e2⟩:=g2.cell i k hi hk
   refine ⟨v,e1,zlp h1 h2 ?_ e2⟩
   cases o with
   | row ro sz n f=>exact zmc (hcl i hi) k
   | blk ro cs=>exact zmc hcl k
   | mapS l=>cases hm
   | mapI l=>cases hm
/-- Handles that the callee may have written. -/
def zf9:List Nat→Ctx→List Nat
 | g::l,some o::pre=>if o.ro then zf9 l pre else g::zf9 l pre
 | _::l,none::pre=>zf9 l pre
 | _,_=>[]
theorem zgn:∀ {l:List Nat} {pre:Ctx} {g:Nat},g∈zf9 l pre→∃ h o,l[h]?=some g∧Ctx.at pre h=some o∧o.ro=false
 | [],_,g,h=>by simp [zf9] at h
 | _::_,[],g,h=>by simp [zf9] at h
 | g'::l,some o::pre,g,h=>by
  simp only [zf9] at h
  split at h
  ·obtain ⟨j,p,h1,h2,h3⟩:=zgn h
   exact ⟨j+1,p,by simpa using h1,by rw [yi];exact h2,h3⟩
  ·rename_i hro
   rcases List.mem_cons.1 h with rfl | h
   ·exact ⟨0,o,rfl,ye _ _,by simpa using hro⟩
   ·obtain ⟨j,p,h1,h2,h3⟩:=zgn h
    exact ⟨j+1,p,by simpa using h1,by rw [yi];exact h2,h3⟩
 | g'::l,none::pre,g,h=>by
  simp only [zf9] at h
  obtain ⟨j,p,h1,h2,h3⟩:=zgn h
  exact ⟨j+1,p,by simpa using h1,by rw [yi];exact h2,h3⟩
def j8 (B U:List Nat):Nat→Ctx→Prop
 | _,[]=>True
 | i,o::r=>(U.contains i=true∨match o with | some o=>vi B o | none=>True)∧j8 B U (i+1) r
theorem cleanC_get {B U:List Nat}:∀ {c:Ctx} {i g:Nat} {o:SO},j8 B U i c→Ctx.at c g=some o→U.contains (i+g)=true∨vi B o
 | [],i,g,o,_,e=>by simp [Ctx.at] at e
 | x::r,i,0,o,h,e=>by
  rw [ye] at e
  subst e
  exact h.1
 | x::r,i,g+1,o,h,e=>by
  rw [yi] at e
  have:=cleanC_get h.2 e
  rwa [show i+1+g=i+(g+1) from by omega] at this
theorem zvk (o:SO):vi [] o:=by
 cases o with
 | row ro sz n f=>exact fun i _=>za8 _
 | blk ro cs=>exact za8 _
 | _=>trivial
theorem uh {U:List Nat}:∀ {i:Nat} {c:Ctx},j8 [] U i c
 | _,[]=>trivial
 | i,o::r=>⟨.inr (by cases o<;>first | trivial | exact zvk _),uh⟩
def zd5 (B:List Nat) (env:List (Tmp×SV)):List (Tmp×SV):=env.map fun p=>(p.1,if noH B p.2 then p.2 else .u)
theorem look_maskE {B:List Nat}:∀ (env:List (Tmp×SV)) (t:Tmp),(look (zd5 B env) t=look env t∧noH B (look env t)=true)∨look (zd5 B env) t=.u
 | [],t=>.inr rfl
 | (u,x)::r,t=>by
  simp only [zd5,List.map_cons,look]
  by_cases h:u=t
  ·rw [if_pos h,if_pos h]
   by_cases hx:noH B x=true
   ·rw [if_pos hx];exact .inl ⟨rfl,hx⟩
   ·rw [if_neg hx];exact .inr rfl
  ·rw [if_neg h,if_neg h]
   exact look_maskE r t
theorem zb6 (env:List (Tmp×SV)):zd5 [] env=env:=by
 unfold zd5
 simp [zqu]
theorem zgk.of {P:Program} {f:FuncId} {k:Nat} {args0:List SV} {pre:Ctx} {Q0:SV→Ctx→Prop} (hF:FnK P f k args0 pre Q0) {args:List SV} {kk:Nat} {st:St} (l:List Nat) {K:SV→St→Prop}
  (hargs:args=jb (muL l st.ctx.length) args0) (hmap:xl (muL l st.ctx.length) st.ctx l pre) (honce:once l pre) (hrw:zw k pre) (hfix:(l.drop k).all (fun g=>decide (kk≤g))=true) (hnd:l.drop k=[]∨l.Nodup)
  (hclean:j8 (l.drop k) (zf9 l pre) 0 st.ctx)
  (hK:∀ z0 c0,Q0 z0 c0→K (z0.mapH (muL l st.ctx.length)) ⟨zd5 (l.drop k) st.env,zr (muL l st.ctx.length) l pre c0 st.ctx⟩):zgk P f args kk st K:=by
 obtain ⟨hb,hF⟩:=hF
 refine ⟨hb,fun A σ a w vs hAk hgr hR hvs=>?_⟩
 obtain ⟨hlen,hget⟩:=zcy hmap
 generalize hμ:muL l st.ctx.length=μ at *
 have μold:∀ h g,l[h]?=some g→μ h=g:=by intro h g hg;rw [←hμ];simp [muL,hg]
 have μnew:∀ h,pre.length≤h→μ h=st.ctx.length+(h-pre.length):=by
  intro h hh
  rw [←hμ,←hlen]
  simp [muL,List.getElem?_eq_none (show l.length≤h by omega)]
 have lget:∀ h,h<pre.length→∃ g,l[h]?=some g∧g<st.ctx.length:=by
  intro h hh
  have:h<l.length:=by omega
  exact ⟨l[h],List.getElem?_eq_getElem this,(hget h _ (List.getElem?_eq_getElem this)).1⟩
 -- the handles that are bound anew
 have inB:∀ g,(l.drop k).contains g=true↔∃ i,k≤i∧l[i]?=some g:=by
  intro g
  rw [List.contains_iff_mem,List.mem_iff_getElem?]
  constructor
  ·rintro ⟨i,hi⟩
   rw [List.getElem?_drop] at hi
   exact ⟨k+i,by omega,hi⟩
  ·rintro ⟨i,hi,hg⟩
   exact ⟨i-k,by rw [List.getElem?_drop,show k+(i-k)=i by omega];exact hg⟩
 have kinj:∀ i j g,k≤i→l[i]?=some g→l[j]?=some g→i=j:=by
  intro i j g hi h1 h2
  rcases hnd with hnd | hnd
  ·have:(l.drop k).contains g=true:=(inB g).2 ⟨i,hi,h1⟩
   rw [hnd] at this;simp at this
  ·obtain ⟨a1,a2⟩:=List.getElem?_eq_some_iff.1 h1
   obtain ⟨b1,b2⟩:=List.getElem?_eq_some_iff.1 h2
   exact List.getElem_inj (h₀:=a1) (h₁:=b1) hnd |>.1 (a2.trans b2.symm)
 let σc:Asg:=σ.ren μ
 have σceq:∀ h,σc h=σ (μ h):=fun _=>rfl
 have σcnew:∀ h,pre.length≤h→σc h=none:=by
  intro h hh
  show σ (μ h)=none
  rw [μnew h hh]
  exact hR.sat.beyond _ (by omega)
 have preInfo:∀ h o0,pre.at h=some o0→∃ g o,l[h]?=some g∧μ h=g∧g<st.ctx.length∧st.ctx.at g=some o∧soLe μ o0 o:=by
  intro h o0 ho
  obtain ⟨g,hg,hlt⟩:=lget h (zpw ho)
  obtain ⟨o,h1,h2⟩:=(hget h g hg).2.2 o0 ho
  exact ⟨g,o,hg,μold h g hg,hlt,h1,h2⟩
 have inj:∀ h h' g o,pre.at h=some o→o.ro=false→l[h]?=some g→l[h']?=some g→h=h':=by
  intro h h' g o h1 h2 h3 h4
  rcases honce with hall | hnd
  ·rw [List.all_eq_true] at hall
   have:=hall (some o) (by
    have hlt:=zpw h1
    refine List.mem_of_getElem? (i:=h) ?_
    rw [Ctx.at,List.getD_eq_getElem?_getD,List.getElem?_eq_getElem hlt] at h1
    rw [List.getElem?_eq_getElem hlt]
    simpa using h1)
   simp only at this
   rw [h2] at this;cases this
  ·obtain ⟨a1,a2⟩:=List.getElem?_eq_some_iff.1 h3
   obtain ⟨b1,b2⟩:=List.getElem?_eq_some_iff.1 h4
   exact List.getElem_inj (h₀:=a1) (h₁:=b1) hnd |>.1 (a2.trans b2.symm)
 have hsat:Sat σc w pre:=by
  refine ⟨fun h o0 ho=>?_,fun h h' o o' L L' hne e1 e2 hro s1 s2=>?_,σcnew,fun h L hL=>hR.sat.inHeap _ L hL,hR.sat.frz,fun h o L e hro s=>?_,hR.sat.glb⟩
  ·obtain ⟨g,o,hg,hm,hlt,h1,h2⟩:=preInfo h o0 ho
   exact zhp (σ:=σ) (σ0:=σc) (μ:=μ) (fun _=>rfl) rfl h2 (by rw [hm];exact hR.sat.obj g o h1)
  ·obtain ⟨g,p,hg,hm,hlt,h1,h2⟩:=preInfo h o e1
   obtain ⟨g',p',hg',hm',hlt',h1',h2'⟩:=preInfo h' o' e2
   refine hR.sat.apart g g' p p' L L' (fun e=>hne ?_) h1 h1' (h2.ro hro) (by rw [←hm];exact s1) (by rw [←hm'];exact s2)
   subst e
   exact inj h h' g o e1 hro hg hg'
  ·obtain ⟨g,p,hg,hm,hlt,h1,h2⟩:=preInfo h o e
   exact hR.sat.frzA g p L h1 (h2.ro hro) (by rw [←hm];exact s)
 have hvs':relL σc args0 vs.toList:=by
  rw [hargs] at hvs
  exact (zdv σ μ args0 vs.toList).1 hvs
 refine (hF w σc vs hsat hvs').mono fun e w' ⟨v,z0,c0,σ0,e1,e2,p⟩=>?_
 -- blocks of caller's objects that the callee may not write
 have keepB:∀ g o L,st.ctx.at g=some o→(∀ h o0,l[h]?=some g→pre.at h=some o0→o0.ro=true)→σ g=some L→¬rwB pre σc L.b:=by
  intro g o L ho hn hL ⟨h,o0,L',h1,h2,h3,h4⟩
  obtain ⟨g',p',hg',hm',hlt',h1',h2'⟩:=preInfo h o0 h1
  have hne:g'≠g:=by
   intro he;subst he
   rw [hn h o0 hg' h1] at h2;cases h2
  exact hR.sat.apart g' g p' o L' L hne h1' ho (h2'.ro h2) (by rw [←hm'];exact h3) hL h4
 classical
 let loc':Nat→Option Loc:=fun g=>if g<st.ctx.length then (if h:∃ i,k≤i∧l[i]?=some g then σ0 (Classical.choose h) else σ g) else σ0 (pre.length+(g-st.ctx.length))
 let σ':Asg:=⟨loc',σ0.fz⟩
 have old:∀ g,g<st.ctx.length→(l.drop k).contains g=false→σ' g=σ g:=by
  intro g hg hB
  show loc' g=σ g
  simp only [loc',if_pos hg]
  rw [dif_neg]
  intro hx
  rw [(inB g).2 hx] at hB;cases hB
 have hσ:∀ h,σ' (μ h)=σ0 h:=by
  intro h
  show loc' (μ h)=σ0 h
  by_cases hh:h<pre.length
  ·obtain ⟨g,hg,hlt⟩:=lget h hh
   rw [μold h g hg]
   simp only [loc',if_pos hlt]
   by_cases hx:∃ i,k≤i∧l[i]?=some g
   ·rw [dif_pos hx]
    obtain ⟨q1,q2⟩:=Classical.choose_spec hx
    rw [kinj _ h g q1 q2 hg]
   ·rw [dif_neg hx]
    have hk:h<k:=by
     rcases Nat.lt_or_ge h k with h' | h'
     ·exact h'
     ·exact absurd ⟨h,h',hg⟩ hx
    rw [p.base h hk]
    show σ g=σ (μ h)
    rw [μold h g hg]
  ·rw [μnew h (by omega)]
   simp only [loc']
   rw [if_neg (by omega)]
   congr 1
   omega
 have fzup:∀ b o,σ.fz b=some o→σ'.fz b=some o:=p.fzb
 have up:∀ h L,(l.drop k).contains h=false→σ h=some L→σ' h=some L:=by
  intro g L hB hL
  have:g<st.ctx.length:=by
   rcases Nat.lt_or_ge g st.ctx.length with h' | h'
   ·exact h'
   ·rw [hR.sat.beyond g h'] at hL;cases hL
  rw [old g this hB];exact hL
 -- what stands under a number of the caller
 let ctx':=zr μ l pre c0 st.ctx
 have clen:ctx'.length=st.ctx.length+(c0.length-pre.length):=by
  show (upd μ l pre c0 st.ctx++_).length=_
  simp [zck]
 have cases':∀ g o,ctx'.at g=some o→(∃ h o',μ h=g∧c0.at h=some o'∧o=o'.mapH μ∧(o'.ro=false∨h<k)) ∨
   (g<st.ctx.length∧st.ctx.at g=some o∧(∀ h o0,l[h]?=some g→pre.at h=some o0→o0.ro=true)∧(l.drop k).contains g=false):=by
  intro g o ho
  have ho':Ctx.at (upd μ l pre c0 st.ctx++(c0.drop pre.length).map fun o=>o.map (SO.mapH μ)) g=some o:=ho
  rw [zz9,zck] at ho'
  split at ho'
  ·rename_i hg
   by_cases hx:∃ h o0,l[h]?=some g∧pre.at h=some o0∧o0.ro=false
   ·obtain ⟨h,o0,h1,h2,h3⟩:=hx
    have hnd:l.Nodup:=by
     rcases honce with hall | hnd
     ·rw [List.all_eq_true] at hall
      have:=hall (some o0) (by
       have hlt:=zpw h2
       refine List.mem_of_getElem? (i:=h) ?_
       rw [Ctx.at,List.getD_eq_getElem?_getD,List.getElem?_eq_getElem hlt] at h2
       rw [List.getElem?_eq_getElem hlt]
       simpa using h2)
      simp only at this
      rw [h3] at this;cases this
     ·exact hnd
    rw [zv9 μ h3 l pre c0 st.ctx h hnd h1 h2 hg (Nat.lt_of_lt_of_le (zpw h2) p.len)] at ho'
    cases hc:c0.at h with
    | none=>rw [hc] at ho';simp at ho'
    | some o' =>
     rw [hc] at ho'
     simp at ho'
     refine .inl ⟨h,o',μold h g h1,hc,ho'.symm, ?_⟩
     rcases Nat.lt_or_ge h k with h' | h'
     ·exact .inr h'
     ·exact .inl (p.new h o' h' hc)
   ·have hx':∀ h o0,l[h]?=some g→pre.at h=some o0→o0.ro=true:=by
     intro h o0 h1 h2
     cases h3:o0.ro with
     | true=>rfl
     | false=>exact absurd ⟨h,o0,h1,h2,h3⟩ hx
    rw [zr1 μ g l pre c0 st.ctx hx'] at ho'
    refine .inr ⟨hg,ho',hx', ?_⟩
    cases hB:(l.drop k).contains g with
    | false=>rfl
    | true=>
     obtain ⟨i,hi,hgi⟩:=(inB g).1 hB
     have hs:=(hget i g hgi).2.1
     cases hp:pre.at i with
     | none=>rw [hp] at hs;cases hs
     | some o0=>
      have:=hrw.get hi hp
      rw [hx' i o0 hgi hp] at this;cases this
  ·rename_i hg
   rw [zra] at ho'
   cases hc:c0.at (pre.length+(g-st.ctx.length)) with
   | none=>rw [hc] at ho';simp at ho'
   | some o' =>
    rw [hc] at ho'
    simp at ho'
    refine .inl ⟨_,o', ?_,hc,ho'.symm, ?_⟩
    ·rw [μnew _ (by omega)]
     omega
    ·rcases Nat.lt_or_ge (pre.length+(g-st.ctx.length)) k with h' | h'
     ·exact .inr h'
     ·exact .inl (p.new _ o' h' hc)
 have ownE:∀ g o L,ctx'.at g=some o→o.ro=false→σ' g=some L→A.D L.b∨A.w0.heap.size≤L.b:=by
  intro g o L ho hro hL
  rcases cases' g o ho with ⟨h,o',hm,hc,rfl,_⟩ | ⟨hg,ho2,_,hB⟩
  ·rw [SO.ro_mapH] at hro
   rw [←hm,hσ] at hL
   rcases p.own h o' L hc hro hL with ⟨h2,o0,L',q1,q2,q3,q4⟩ | hnew
   ·obtain ⟨g',p',hg',hm',hlt',h1',h2'⟩:=preInfo h2 o0 q1
    have:=hR.own g' p' L' h1' (h2'.ro q2) (by rw [←hm'];exact q3)
    rwa [q4] at this
   ·exact .inr (Nat.le_trans hR.fr.size hnew)
  ·rw [old g hg hB] at hL
   exact hR.own g o L ho2 hro hL
 have foreign:∀ g o L,st.ctx.at g=some o→(∀ h o0,l[h]?=some g→pre.at h=some o0→o0.ro=true)→σ g=some L→∀ b,(rwB pre σc b∨w.heap.size≤b)→L.b≠b:=by
  intro g o L ho hn hL b hb he
  subst he
  rcases hb with hb | hb
  ·exact keepB g o L ho hn hL hb
  ·have:=hR.sat.inHeap g L hL;omega
 have hren:σ0=σ'.ren μ:=by
  show σ0=⟨fun h=>σ' (μ h),σ0.fz⟩
  obtain ⟨l0,f0⟩:=σ0
  simp only [Asg.mk.injEq,and_true]
  exact funext fun h=>(hσ h).symm
 refine ⟨v,z0.mapH μ,⟨zd5 (l.drop k) st.env,ctx'⟩,σ',e1,hK z0 c0 e2, ?_, ?_⟩
 ·rw [xy,←hren]
  exact p.val
 ·refine ⟨hR.defers,hR.size,fun t=>?_,⟨fun g o ho=>?_,fun g1 g2 o1 o2 L1 L2 hne e1 e2 hro s1 s2=>?_,fun g hg=>?_,fun g L hL=>?_,p.sat.frz,fun g o L ho hro s=>?_,p.sat.glb⟩, ?_,ownE,⟨fun h hh=>?_,fun b o h=>p.fzb b o (hR.base.fzb b o h),fun b o h=>?_⟩, ?_⟩
  ·rcases look_maskE (B:=l.drop k) st.env t with ⟨h1,h2⟩ | h1
   ·show rel σ' (look (zd5 (l.drop k) st.env) t) _
    rw [h1]
    exact zlp up fzup h2 (hR.env t)
   ·show rel σ' (look (zd5 (l.drop k) st.env) t) _
    rw [h1];simp [rel]
  ·rcases cases' g o ho with ⟨h,o',hm,hc,rfl,_⟩ | ⟨hg,ho2,hn,hB⟩
   ·rw [←hm]
    exact zx0 hσ rfl (p.sat.obj h o' hc)
   ·have hcl:vi (l.drop k) o:=by
     rcases cleanC_get hclean ho2 with h | h
     ·rw [Nat.zero_add,List.contains_iff_mem] at h
      obtain ⟨i,q,q1,q2,q3⟩:=zgn h
      rw [hn i q q1 q2] at q3;cases q3
     ·exact h
    exact zu5 up fzup hcl (old g hg hB) (fun L hL=>p.fr.block _ (hR.sat.inHeap g L hL) (keepB g o L ho2 hn hL)) (hR.sat.obj g o ho2)
  ·rcases cases' g1 o1 e1 with ⟨h1,o1',hm1,hc1,rfl,hk1⟩ | ⟨hg1,ho1,hn1,hB1⟩
   ·rw [SO.ro_mapH] at hro
    rw [←hm1,hσ] at s1
    rcases cases' g2 o2 e2 with ⟨h2,o2',hm2,hc2,rfl,hk2⟩ | ⟨hg2,ho2,hn2,hB2⟩
    ·rw [←hm2,hσ] at s2
     refine p.sat.apart h1 h2 o1' o2' L1 L2 (fun e=>hne ?_) hc1 hc2 hro s1 s2
     rw [←hm1,←hm2,e]
    ·rw [old g2 hg2 hB2] at s2
     exact fun he=>foreign g2 o2 L2 ho2 hn2 s2 _ (p.own h1 o1' L1 hc1 hro s1) he.symm
   ·rw [old g1 hg1 hB1] at s1
    rcases cases' g2 o2 e2 with ⟨h2,o2',hm2,hc2,rfl,hk2⟩ | ⟨hg2,ho2,hn2,hB2⟩
    ·rw [←hm2,hσ] at s2
     rcases hk2 with hx | hlt
     ·exact foreign g1 o1 L1 ho1 hn1 s1 _ (p.own h2 o2' L2 hc2 hx s2)
     ·-- an object that stays where it lies
      rw [p.base h2 hlt] at s2
      have s2':σ (μ h2)=some L2:=s2
      rw [hm2] at s2'
      by_cases hp2:h2<pre.length
      ·obtain ⟨g',hg',hlt'⟩:=lget h2 hp2
       have hgg:g'=g2:=by rw [←hm2,μold h2 g' hg']
       subst hgg
       cases hp:pre.at h2 with
       | some o0=>
        obtain ⟨g'',p',hg'',hm'',hlt'',h1',h2'⟩:=preInfo h2 o0 hp
        rw [hg'] at hg''
        cases hg''
        exact hR.sat.apart g1 g' o1 p' L1 L2 hne ho1 h1' hro s1 s2'
       | none=>
        have:=(hget h2 g' hg').2.1
        rw [hp] at this;cases this
      ·have:=σcnew h2 (by omega)
       rw [σceq,hm2,s2'] at this;cases this
    ·rw [old g2 hg2 hB2] at s2
     exact hR.sat.apart g1 g2 o1 o2 L1 L2 hne ho1 ho2 hro s1 s2
  ·have h1:ctx'.length≤g:=hg
   rw [clen] at h1
   show loc' g=none
   simp only [loc']
   rw [if_neg (by omega)]
   exact p.sat.beyond _ (by have:=p.len;omega)
  ·by_cases hg:g<st.ctx.length
   ·by_cases hB:(l.drop k).contains g=true
    ·obtain ⟨i,hi,hgi⟩:=(inB g).1 hB
     have:σ' g=σ0 i:=by rw [←μold i g hgi];exact hσ i
     rw [this] at hL
     exact p.sat.inHeap _ L hL
    ·rw [old g hg (by simpa using hB)] at hL
     exact Nat.lt_of_lt_of_le (hR.sat.inHeap g L hL) p.fr.size
   ·have hL':σ0 (pre.length+(g-st.ctx.length))=some L:=by
     have:σ' g=σ0 (pre.length+(g-st.ctx.length)):=if_neg hg
     rw [←this];exact hL
    exact p.sat.inHeap _ L hL'
  ·show σ0.fz L.b=none
   rcases cases' g o ho with ⟨h,o',hm,hc,rfl,_⟩ | ⟨hg,ho2,hn,hB⟩
   ·rw [SO.ro_mapH] at hro
    rw [←hm,hσ] at s
    exact p.sat.frzA h o' L hc hro s
   ·rw [old g hg hB] at s
    cases hz:σ0.fz L.b with
    | none=>rfl
    | some q=>
     rcases p.fzn _ _ hz with h4 | h4
     ·have h5:σ.fz L.b=some q:=h4
      rw [hR.sat.frzA g o L ho2 hro s] at h5;cases h5
     ·exact absurd rfl (foreign g o L ho2 hn s _ h4)
  ·refine hR.fr.step p.fr fun b hb ⟨h,o0,L,h1,h2,h3,h4⟩=>?_
   obtain ⟨g',p',hg',hm',hlt',h1',h2'⟩:=preInfo h o0 h1
   rcases hR.own g' p' L h1' (h2'.ro h2) (by rw [←hm'];exact h3) with hx | hx
   ·rwa [h4] at hx
   ·omega
  ·have h1:h<st.ctx.length:=Nat.lt_of_lt_of_le hh hR.klen
   have hB:(l.drop k).contains h=false:=by
    cases hB:(l.drop k).contains h with
    | false=>rfl
    | true=>
     rw [List.all_eq_true] at hfix
     have:=hfix h (by simpa using hB)
     simp only [decide_eq_true_eq] at this
     omega
   rw [old h h1 hB]
   exact hR.base.loc h hh
  ·rcases p.fzn b o h with h4 | ⟨h2,o0,L,q1,q2,q3,q4⟩ | h4
   ·exact hR.base.fzn b o h4
   ·obtain ⟨g',p',hg',hm',hlt',h1',h2'⟩:=preInfo h2 o0 q1
    have:=hR.own g' p' L h1' (h2'.ro q2) (by rw [←hm'];exact q3)
    rw [q4] at this
    exact .inr ⟨hgr,this⟩
   ·exact .inr ⟨hgr,.inr (Nat.le_trans hR.fr.size h4)⟩
  ·show A.k≤ctx'.length
   rw [clen]
   have:=hR.klen
   omega
end Go.Vg
end
section
set_option linter.unusedVariables false
set_option linter.unusedSimpArgs false
set_option linter.unusedSectionVars false
set_option linter.unnecessarySimpa false
namespace Go.Vg
variable [Go.Vg.Glob]
open Go.RowKit
def zeroB:SV→Value→Bool
 | .b x,.bool y=>x==y
 | .i k n,.int k' m=>decide (k=k')&&decide (n=m)
 | .s l,.string s=>decide (s.data.toList=l)
 | .nils,.slice none 0 0=>true
 | .u,_=>true
 | _,_=>false
theorem zp9 {x:SV} {v:Value} (h:zeroB x v=true):rel Asg.nil x v:=by
 unfold zeroB at h
 split at h
 ·simp only [rel];simp at h;rw [h]
 ·simp only [rel];simp at h;rw [h.1,h.2]
 ·simp only [rel];simp at h;rw [←h]
 ·simp [rel]
 ·simp [rel]
 ·cases h
def zja:List SV→List Value→Bool
 | [],[]=>true
 | x::xs,v::vs=>zeroB x v&&zja xs vs
 | _,_=>false
theorem zfm:∀ {xs:List SV} {vs:List Value},zja xs vs=true→relL Asg.nil xs vs
 | [],[],_=>by simp [relL]
 | x::xs,v::vs,h=>by
  simp only [zja,Bool.and_eq_true] at h
  simp only [relL]
  exact ⟨v,vs,rfl,zp9 h.1,zfm h.2⟩
 | [],_::_,h=>by simp [zja] at h
 | _::_,[],h=>by simp [zja] at h
def descB:TypeDesc→TD→Bool
 | .bool,.bool=>true
 | .int k,.int k'=>decide (k=k')
 | .string,.str=>true
 | .slice e,.slice e'=>decide (e=e')
 | .map k e,.map k' e'=>decide (k=k')&&decide (e=e')
 | .struct fs,.struct fs'=>decide (fs.toList.map (fun f=>(f.type,f.offset))=fs')&&fs.toList.all fun f=>decide (f.name ≠ "_")
 | .array ..,_=>false
 | .struct ..,.other=>false
 | _,.other=>true
 | _,_=>false
theorem zq8 {d:TypeDesc} {t:TD} (h:descB d t=true):zce d t:=by
 unfold descB at h
 unfold zce
 split at h
 case h_6=>
  simp only [Bool.and_eq_true,decide_eq_true_eq,List.all_eq_true] at h
  exact h
 all_goals simp_all
 all_goals (split<;>simp_all)
def tyB (P:Program) (t:TypeId) (ti:TI):Bool:=
 match P.info? t,P.underlying t with
 | some i,some d=>decide (i.size=ti.size)&&decide (i.bytes=ti.bytes)&&(match i.zero with
   | some z=>zja ti.zero z.cells.toList&&(ti.td.isStruct||z.oneCell')
   | none=>false)&&descB d ti.td&&(!ti.cmp||(!P.stoodInHeld t&&!P.eqGuardType P.depth t))
 | _,_=>false
theorem zwf {P:Program} {t:TypeId} {ti:TI} (h:tyB P t ti=true):tyOk P t ti:=by
 unfold tyB at h
 split at h
 ·rename_i i d hi hd
  simp only [Bool.and_eq_true,decide_eq_true_eq,Bool.or_eq_true,Bool.not_eq_true'] at h
  obtain ⟨⟨⟨⟨h1,h2⟩,h3⟩,h4⟩,h5⟩:=h
  refine ⟨⟨i,hi,h1,h2, ?_⟩,⟨d,hd,zq8 h4⟩,fun hc=>?_⟩
  ·split at h3
   ·rename_i z hz
    simp only [Bool.and_eq_true,Bool.or_eq_true] at h3
    exact ⟨z,hz,zfm h3.1,fun hs=>h3.2.resolve_left (by rw [hs];exact Bool.false_ne_true)⟩
   ·cases h3
  ·rcases h5 with h5 | h5
   ·rw [hc] at h5;cases h5
   ·exact h5
 ·cases h
def teOf:List (TypeId×TI)→TE
 | [],_=>none
 | e::r,t=>if e.1=t then some e.2 else teOf r t
theorem zwl {P:Program}:∀ {l:List (TypeId×TI)},(l.all fun e=>tyB P e.1 e.2)=true→j9 P (teOf l)
 | [],_=>fun t ti h=>by simp [teOf] at h
 | e::r,h=>fun t ti ht=>by
  simp only [List.all_cons,Bool.and_eq_true] at h
  simp only [teOf] at ht
  split at ht
  ·rename_i he;cases ht;subst he;exact zwf h.1
  ·exact zwl h.2 t ti ht
-- The continuations stay untouched while what is ahead of them is worked out.
@[congr] theorem xpure_congr {te:TE} {wr c c':Bool} {st st':St} {o:Op} {K:SV→Prop} (h1:c=c') (h2:st=st'):zqa te wr c st o K=zqa te wr c' st' o K:=by rw [h1,h2]
@[congr] theorem xload_congr {te:TE} {c c':Bool} {st st':St} {o:Op} {K:SV→Prop} (h1:c=c') (h2:st=st'):zlc te c st o K=zlc te c' st' o K:=by rw [h1,h2]
@[congr] theorem xmem_congr {te:TE} {st st':St} {o:Op} {K:SV→St→Prop} (h2:st=st'):zm1 te st o K=zm1 te st' o K:=by rw [h2]
@[congr] theorem putS_congr {nt:Nat} {st st':St} {d:Option Tmp} {z z':SV} {K:St→Prop} (h1:st=st') (h2:z=z'):znw nt st d z K=znw nt st' d z' K:=by rw [h1,h2]
@[congr] theorem XOne_congr {P:Program} {te:TE} {wr:Bool} {nt:Nat} {pt:PT} {g c c':Bool} {st st':St} {o:Oper} {K:St→Prop} (h1:c=c') (h2:st=st'):zmv P te wr nt pt g c st o K=zmv P te wr nt pt g c' st' o K:=by rw [h1,h2]
@[congr] theorem XStep_congr {P:Program} {te:TE} {wr:Bool} {nt:Nat} {pt:PT} {sp:Bool} {ops:Array Oper} {st st':St} {o:Oper} {K:St→Prop} (h2:st=st'):zbt P te wr nt pt sp ops st o K=zbt P te wr nt pt sp ops st' o K:=by rw [h2]
@[congr] theorem XL_congr {P:Program} {te:TE} {wr:Bool} {nt:Nat} {pt:PT} {sp:Bool} {ops:Array Oper} {K:St→Prop} {os:List Oper} {st st':St} (h2:st=st'):XL P te wr nt pt sp ops K os st=XL P te wr nt pt sp ops K os st':=by rw [h2]
@[congr] theorem vc_congr {cf:Cf} {F:St→Prop} {n:Nat} {its:List It} {st st':St} (h2:st=st'):vc cf F n its st=vc cf F n its st':=by rw [h2]
@[congr] theorem guardC_congr {want:Bool} {x x':SV} {K:Bool→Prop} (h:x=x'):zh8 want x K=zh8 want x' K:=by rw [h]
@[congr] theorem ung_congr {c c':Bool} {x x':SV} {K:SV→Prop} (h1:c=c') (h:x=x'):ung c x K=ung c' x' K:=by rw [h1,h]
@[congr] theorem VLoop_congr {k:Nat} {st st':St} {B:(St→Prop)→St→Prop} (h:st=st'):VLoop k st B=VLoop k st' B:=by rw [h]
@[congr] theorem VCut_congr {k:Nat} {B:(St→Prop)→Prop} {R:St→Prop}:VCut k B R=VCut k B R:=rfl
@[congr] theorem Chk_congr {p p' q:Prop} (h:p=p'):Chk p q=Chk p' q:=by rw [h]
@[simp] theorem zmz {q:Prop}:Chk True q=q:=by simp [Chk]
/-- What stays of the temporaries behind a region. -/
def kp:List (Nat×List Tmp)→Nat→List Tmp
 | [],_=>[]
 | e::r,i=>if e.1=i then e.2 else kp r i
end Go.Vg
end
