/- Drawn regions: the end, and the whole. -/
import Derived.Test.YtgippllfnmdnpaaGreatDoorUAI
set_option linter.all false
namespace Go.Vg
variable [Go.Vg.Glob]
open Go.RowKit
theorem Rel.thawed {A:Amb} {σ:Asg} {st:St} {a:Act} {w:World} (hR:Rel A σ st a w) {W:List Nat} {ph:Bool}
  (hWr:ph=true→∀ h,W.contains h=true→∃ o,st.ctx.at h=some o∧o.ro=false)
  {σ':Asg} {s:St} {a':Act} {w':World} (hS:Rel (ambR W st.ctx σ w A.nt ph) σ' s a' w') (hn:z6 st.ctx.length s.ctx) :
  Rel A σ' ⟨s.env,zon (if ph then W else []) 0 st.ctx s.ctx⟩ a' w':=by
 have hbase:∀ h,h<st.ctx.length→σ' h=σ h:=hS.base.loc;have hle:=zvx hR hbase hS.base.fzb;have hlen:st.ctx.length≤s.ctx.length:=hS.klen;have lt:∀ h L,h<st.ctx.length→σ' h=some L→L.b<w.heap.size:=fun h L hh hL=>hR.sat.inHeap h L (by rw [←hbase h hh];exact hL)
 -- three kinds
 have kind:∀ h o,Ctx.at (zon (if ph then W else []) 0 st.ctx s.ctx) h=some o →
   (h<st.ctx.length∧st.ctx.at h=some o∧(ph=true→W.contains h=false))∨(h<st.ctx.length∧ph=true∧W.contains h=true∧s.ctx.at h=some o)∨(st.ctx.length≤h∧s.ctx.at h=some o):=by
  intro h o e;rw [zy0 _ _ _ _ _ hlen,Nat.zero_add] at e;by_cases hh:h<st.ctx.length∧(if ph then W else []).contains h=false
  ·rw [if_pos hh] at e;refine .inl ⟨hh.1,e,fun hp=>?_⟩;rw [if_pos hp] at hh;exact hh.2
  ·rw [if_neg hh] at e;by_cases h1:h<st.ctx.length
   ·have h2:¬(if ph then W else []).contains h=false:=fun x=>hh ⟨h1,x⟩;cases ph with
    | false=>simp at h2
    | true=>exact .inr (.inl ⟨h1,rfl,by simpa using h2,e⟩)
   ·exact .inr (.inr ⟨by omega,e⟩)
 have notW:∀ h o L,st.ctx.at h=some o→(ph=true→W.contains h=false)→σ h=some L→¬(ph=true∧wB W st.ctx σ L.b):=fun h o L ho hw hL ⟨hp,hx⟩=>zt3 hR W (hw hp) ho hL hx;have newE:∀ h o L,st.ctx.length≤h→s.ctx.at h=some o→σ' h=some L→(ph=true∧wB W st.ctx σ L.b)∨w.heap.size≤L.b:=fun h o L hh e hL=>hS.own h o L e (hn.get hh e) hL
 -- a kept object's block is none of the others'
 have keptOther:∀ h o L,h<st.ctx.length→st.ctx.at h=some o→(ph=true→W.contains h=false)→σ' h=some L →
   ∀ h' o' L',((h'<st.ctx.length∧ph=true∧W.contains h'=true∧s.ctx.at h'=some o')∨(st.ctx.length≤h'∧s.ctx.at h'=some o'))→σ' h'=some L'→L.b≠L'.b:=by
  intro h o L hh ho hw hL h' o' L' hk hL' he;have hL0:σ h=some L:=by rw [←hbase h hh];exact hL
  rcases hk with ⟨hh',hp,hw',e'⟩ | ⟨hh',e'⟩
  ·obtain ⟨q,q1,q2⟩:=hWr hp h' hw';exact notW h o L ho hw hL0 ⟨hp,h',q,L',hw',q1,q2,by rw [←hbase h' hh'];exact hL',he.symm⟩
  ·rcases newE h' o' L' hh' e' hL' with hx | hx
   ·rw [←he] at hx;exact notW h o L ho hw hL0 hx
   ·have:=lt h L hh hL;omega
 refine ⟨hS.defers,hS.size,hS.env,⟨fun h o e=>?_,fun h h' o o' L L' hne e1 e2 hro s1 s2=>?_,fun h hh=>hS.sat.beyond h (by simpa [zc8] using hh),hS.sat.inHeap,hS.sat.frz,fun h o L e hro hL=>?_,hS.sat.glb⟩, ?_,fun h o L e hro hL=>?_,⟨fun h hh=>?_,fun b o h=>hS.base.fzb b o (hR.base.fzb b o h),fun b o h=>hR.base.fzn b o (zqk hS h)⟩, ?_⟩
 ·rcases kind h o e with ⟨hh,e',hw⟩ | ⟨_,_,_,e'⟩ | ⟨_,e'⟩
  ·exact jj hle (hbase h hh) (fun L hL=>hS.fr.block _ (hR.sat.inHeap h L hL) (notW h o L e' hw hL)) (hR.sat.obj h o e')
  ·exact hS.sat.obj h o e'
  ·exact hS.sat.obj h o e'
 ·rcases kind h o e1 with ⟨hh,e1',hw⟩ | k1
  ·rcases kind h' o' e2 with ⟨hh',e2',hw'⟩ | k2
   ·exact hR.sat.apart h h' o o' L L' hne e1' e2' hro (by rw [←hbase h hh];exact s1) (by rw [←hbase h' hh'];exact s2)
   ·exact keptOther h o L hh e1' hw s1 h' o' L' k2 s2
  ·rcases kind h' o' e2 with ⟨hh',e2',hw'⟩ | k2
   ·exact fun he=>keptOther h' o' L' hh' e2' hw' s2 h o L k1 s1 he.symm
   ·have g1:s.ctx.at h=some o:=by rcases k1 with ⟨_,_,_,x⟩ | ⟨_,x⟩<;>exact x
    have g2:s.ctx.at h'=some o':=by rcases k2 with ⟨_,_,_,x⟩ | ⟨_,x⟩<;>exact x
    exact hS.sat.apart h h' o o' L L' hne g1 g2 hro s1 s2
 ·rcases kind h o e with ⟨hh,e',hw⟩ | ⟨_,_,_,e'⟩ | ⟨_,e'⟩
  ·cases hz:σ'.fz L.b with
   | none=>rfl
   | some x=>have:=zqk hS hz;rw [hR.sat.frzA h o L e' hro (by rw [←hbase h hh];exact hL)] at this;cases this
  ·exact hS.sat.frzA h o L e' hro hL
  ·exact hS.sat.frzA h o L e' hro hL
 ·refine hR.fr.step hS.fr fun b hb ⟨_,h,o,L,h1,h2,h3,h4,h5⟩=>?_;rcases hR.own h o L h2 h3 h4 with hx | hx
  ·rwa [h5] at hx
  ·omega
 ·have up:∀ b,(ph=true∧wB W st.ctx σ b)→A.D b∨A.w0.heap.size≤b:=by rintro b ⟨_,h,o,L,h1,h2,h3,h4,rfl⟩;exact hR.own h o L h2 h3 h4
  rcases kind h o e with ⟨hh,e',hw⟩ | ⟨_,_,_,e'⟩ | ⟨_,e'⟩
  ·exact hR.own h o L e' hro (by rw [←hbase h hh];exact hL)
  ·rcases hS.own h o L e' hro hL with hx | hx
   ·exact up _ hx
   ·exact .inr (Nat.le_trans hR.fr.size hx)
  ·rcases hS.own h o L e' hro hL with hx | hx
   ·exact up _ hx
   ·exact .inr (Nat.le_trans hR.fr.size hx)
 ·have:h<st.ctx.length:=Nat.lt_of_lt_of_le hh hR.klen;rw [hbase h this];exact hR.base.loc h hh
 ·show A.k≤(zon _ _ _ _).length;rw [zc8];exact Nat.le_trans hR.klen hlen
theorem Rel.masked {A:Amb} {σ:Asg} {st:St} {a:Act} {w:World} (hR:Rel A σ st a w) (W:List Nat) (c0:Ctx):Rel A σ ⟨st.env,u9 W 0 c0 st.ctx⟩ a w:=by refine ⟨hR.defers,hR.size,hR.env,⟨fun h o e=>hR.sat.obj h o (zar e).2.2,fun h h' o o' L L' hne e1 e2=>hR.sat.apart h h' o o' L L' hne (zar e1).2.2 (zar e2).2.2,fun h hh=>hR.sat.beyond h (by simpa [zbv] using hh),hR.sat.inHeap,hR.sat.frz,fun h o L e=>hR.sat.frzA h o L (zar e).2.2,hR.sat.glb⟩,hR.fr,fun h o L e=>hR.own h o L (zar e).2.2,hR.base, ?_⟩;show A.k≤(u9 W 0 c0 st.ctx).length;rw [zbv];exact hR.klen
theorem zla {P:Program} {ops:Array Oper} {Q:Exit→Act→World→Prop} {wrs:List Nat} {S0 S1:World→Prop} {rs:List Nat} {fuel:Nat} {listed:Array Bool} {a:Act} {w:World} (hr:Region.ready .any ops listed=rs) (hne:rs≠[])
  (h:∀ i∈rs,wpOp P ops Q i (fun a' w'=>Sat2 wrs S0 S1 (listed.setIfInBounds i true) w'∧wpAnyL P ops Q wrs S0 S1 fuel (listed.setIfInBounds i true) a' w') a w):wpAnyL P ops Q wrs S0 S1 (fuel+1) listed a w:=
 ⟨fun h0=>absurd (hr.symm.trans h0) hne,fun i hi=>h i (by rw [←hr];exact hi)⟩
theorem XD_run {P:Program} {te:TE} (hte:vh P te) {wr:Bool} {pt:PT} (hpt:zx9 P pt) {ops:Array Oper} (hns:Region.noSelect ops=true) {W:List Nat} {K:St→Prop} {A:Amb} {σ:Asg} {st:St} {a0:Act} {w:World} (hR:Rel A σ st a0 w) {wrs:List Nat} :
  ∀ (sch:Sc) (hd ph:Bool) (listed:Array Bool) (σ':Asg) (s:St) (a:Act) (w':World) (fuel:Nat),zci ops wrs hd ph sch listed=true→XD P te wr A.nt pt ops W st.ctx K hd ph sch s →
   (ph=true→∀ h,W.contains h=true→∃ o,st.ctx.at h=some o∧o.ro=false)→Rel (ambR W st.ctx σ w A.nt ph) σ' s a w' →
   Sat2 wrs (Fr (fun _=>False) w) (Fr (wB W st.ctx σ) w) listed w'→cnt sch≤fuel →
   (hd=true→wpAnyL P ops (fun e a' w''=>e=.normal∧∃ σ'' st',K st'∧Rel A σ'' st' a' w'') wrs (Fr (fun _=>False) w) (Fr (wB W st.ctx σ) w) fuel listed a w') ∧
   (∀ f,fuel=f+1→∀ i∈ul sch,wpOp P ops (fun e a' w''=>e=.normal∧∃ σ'' st',K st'∧Rel A σ'' st' a' w'') i (fun a' w'=>Sat2 wrs (Fr (fun _=>False) w) (Fr (wB W st.ctx σ) w) (listed.setIfInBounds i true) w' ∧
    wpAnyL P ops (fun e a' w''=>e=.normal∧∃ σ'' st',K st'∧Rel A σ'' st' a' w'') wrs (Fr (fun _=>False) w) (Fr (wB W st.ctx σ) w) f (listed.setIfInBounds i true) a' w') a w'):=by
 intro sch
 -- a quiet operation
 have quiet0:∀ (r:Sc) (ph:Bool) (listed:Array Bool) (σ':Asg) (s:St) (a:Act) (w':World) (fuel:Nat),
   (∀ (hd ph:Bool) (listed:Array Bool) (σ':Asg) (s:St) (a:Act) (w':World) (fuel:Nat),zci ops wrs hd ph r listed=true→XD P te wr A.nt pt ops W st.ctx K hd ph r s →
   (ph=true→∀ h,W.contains h=true→∃ o,st.ctx.at h=some o∧o.ro=false)→Rel (ambR W st.ctx σ w A.nt ph) σ' s a w' →
   Sat2 wrs (Fr (fun _=>False) w) (Fr (wB W st.ctx σ) w) listed w'→cnt r≤fuel →
   (hd=true→wpAnyL P ops (fun e a' w''=>e=.normal∧∃ σ'' st',K st'∧Rel A σ'' st' a' w'') wrs (Fr (fun _=>False) w) (Fr (wB W st.ctx σ) w) fuel listed a w')) →
   (ph=true→∀ h,W.contains h=true→∃ o,st.ctx.at h=some o∧o.ro=false)→Rel (ambR W st.ctx σ w A.nt ph) σ' s a w'→Sat2 wrs (Fr (fun _=>False) w) (Fr (wB W st.ctx σ) w) listed w' →
   ∀ (i:Nat) (V:List Nat) (Sx:World→Prop) (ok:Array Bool→Prop),(∀ w1,Sx w1→∀ h L,(st.ctx.at h).isSome=true→V.contains h=false→σ h=some L→w1.heap[L.b]?=w.heap[L.b]?)→(∀ w1,Sx w1→∀ b o,σ.fz b=some o→w1.heap[b]?=some o) →
    (∀ l w1,ok l→Sat2 wrs (Fr (fun _=>False) w) (Fr (wB W st.ctx σ) w) l w1→Sx w1) →
    (∀ l j,ok l→l.getD i true=false→j∈Region.ready .any ops l→j≠i→ok (l.setIfInBounds j true))→ok listed →
    Region.free .any ops listed i=true→(Region.ready .any ops listed).contains i=true→i ∉ wrs→zci ops wrs true ph r (listed.setIfInBounds i true)=true→cnt r+1≤fuel →
    (match ops[i]? with | some o=>XQ P te wr A.nt pt ops V st.ctx o (XD P te wr A.nt pt ops W st.ctx K true ph r) s | none=>False) →
    wpAnyL P ops (fun e a' w''=>e=.normal∧∃ σ'' st',K st'∧Rel A σ'' st' a' w'') wrs (Fr (fun _=>False) w) (Fr (wB W st.ctx σ) w) fuel listed a w':=by
  intro r ph listed σ' s a w' fuel ih hWr hS hsat;have hbase:∀ h,h<st.ctx.length→σ' h=σ h:=hS.base.loc;intro i V Sx ok hSx hSf hok1 hok2 hok hfree hready hiw hsch' hfu hx;obtain ⟨f,rfl⟩:∃ f,fuel=f+1:=⟨fuel-1,by omega⟩
  cases ho:ops[i]? with
  | none=>rw [ho] at hx;exact hx.elim
  | some o=>
   rw [ho] at hx;obtain ⟨hq,hx⟩:=hx;have hm:=hS.masked V st.ctx;obtain ⟨v,st',k1,k2,k3⟩:=zju hte hm hq hx (Sx:=Sx) (fun w1 hw1 h L hsome hL=>by
    cases hh:Ctx.at (u9 V 0 st.ctx s.ctx) h with
    | none=>
     have:(Ctx.at (u9 V 0 st.ctx s.ctx) h).isSome=true:=hsome;rw [hh] at this;cases this
    | some o' =>
     obtain ⟨m1,m2,m3⟩:=zar hh;rw [Nat.zero_add] at m1;have hlt:h<st.ctx.length:=by
      cases hc:st.ctx.at h with
      | none=>rw [hc] at m2;cases m2
      | some q=>exact zrl hc
     have hL0:σ h=some L:=by rw [←hbase h hlt];exact hL
     rw [hSx w1 hw1 h L m2 m1 hL0,hSx w' (hok1 listed w' hok hsat) h L m2 m1 hL0]) (fun w1 hw1 b o hb=>hSf w1 hw1 b o (zqk hS hb))
   refine zbc ok ho hiw (Region.noSelect_spec hns) (fun c a w h=>by cases h.1) hok1 hok2 f listed a w' (Region.free_spec ho hfree) (by simpa using hready) hok k2 hsat ?_;refine ih true ph (listed.setIfInBounds i true) σ' ⟨st'.env,s.ctx⟩ _ w' f hsch' k1 hWr ⟨k3.defers,k3.size,k3.env,hS.sat,hS.fr,hS.own,hS.base,hS.klen⟩ ?_ (by omega) rfl;refine ⟨fun h=>hsat.1 fun j hj=>?_,hsat.2⟩;have:=h j hj;rwa [wi false (show i≠j from fun e=>hiw (by rw [e];exact hj))] at this
 induction sch with
 | seq is=>intro hd ph listed σ' s a w' fuel hsch;simp [zci] at hsch
 | fin=>
  intro hd ph listed σ' s a w' fuel hsch hX hWr hS hsat _;refine ⟨fun hhd=>?_,fun f _ i hi=>by simp [ul] at hi⟩;subst hhd;simp only [zci,Bool.not_true,Bool.false_or,List.isEmpty_iff] at hsch;simp only [XD] at hX;exact zhu hsch ⟨rfl,σ',_,hX.2,hR.thawed hWr hS hX.1⟩ fuel
 | q0 i B r ih=>
  intro hd ph listed σ' s a w' fuel hsch hX hWr hS hsat hfuel;have hbase:∀ h,h<st.ctx.length→σ' h=σ h:=hS.base.loc;simp only [zci,Bool.and_eq_true,Bool.not_eq_true'] at hsch;obtain ⟨⟨⟨⟨⟨⟨⟨⟨⟨hd1,h1⟩,h2⟩,h3⟩,h4⟩,h5⟩,h6⟩,h7⟩,h8⟩,h9⟩:=hsch;simp only [XD] at hX;refine ⟨fun _=>?_,fun f _ i hi=>by simp [ul] at hi⟩;refine quiet0 r ph listed σ' s a w' fuel (fun hd ph l σ' s a w' fu x1 x2 x3 x4 x5 x6=>(ih hd ph l σ' s a w' fu x1 x2 x3 x4 x5 x6).1) hWr hS hsat i [] (Fr (fun _=>False) w) (fun l=>∀ b∈B,l.getD b true=false) (fun w1 hw1 h L _ _ hL=>hw1.block _ (hR.sat.inHeap h L hL) (fun x=>x)) (fun w1 hw1 b o hb=>(hw1.block b (frz_lt hR hb) (fun x=>x)).trans (hR.sat.frz b o hb)) (fun l w1 hl hs=>hs.1 fun j hj=>?_) (fun l j hl hli hj hji b hb=>?_) ?_ h2 h3 (by simpa using h4) h9 (by simpa [cnt] using hfuel) hX
  ·have hjB:j∈B:=by rw [List.all_eq_true] at h5;simpa using h5 j hj
   have:=hl j hjB;rcases Nat.lt_or_ge j l.size with h' | h'
   ·simp [h'] at this ⊢;exact this
   ·simp [Array.getElem?_eq_none h']
  ·by_cases hbj:j=b
   ·subst hbj;rw [List.all_eq_true] at h6;have:=h6 j hb;simp only [Bool.or_eq_true,beq_iff_eq] at this;rcases this with hx | hx
    ·exact absurd hx hji
    ·unfold zr1 at hx;obtain ⟨hjun,oj,hoj,hall⟩:=mem_ready.1 hj;rw [hoj] at hx;simp only [Array.any_eq_true,Bool.and_eq_true,List.contains_iff_mem] at hx;obtain ⟨q,hq,hb1,hb2⟩:=hx;have e1:=hall _ (Array.getElem_mem hq) hb1;have e2:=hl _ (by simpa using hb2);rcases Nat.lt_or_ge (oj.after[q]).on l.size with h' | h'
     ·simp [h'] at e1 e2;rw [e2] at e1;cases e1
     ·simp [Array.getElem?_eq_none h'] at e1
   ·rw [wi true hbj];exact hl b hb
  ·intro b hb;rw [List.all_eq_true] at h7;simpa [unl] using h7 b hb
 | q1 i r ih=>
  intro hd ph listed σ' s a w' fuel hsch hX hWr hS hsat hfuel;have hbase:∀ h,h<st.ctx.length→σ' h=σ h:=hS.base.loc;simp only [zci,Bool.and_eq_true,Bool.not_eq_true'] at hsch;obtain ⟨⟨⟨⟨hd1,h2⟩,h3⟩,h4⟩,h9⟩:=hsch;simp only [XD] at hX;refine ⟨fun _=>?_,fun f _ i hi=>by simp [ul] at hi⟩;refine quiet0 r ph listed σ' s a w' fuel (fun hd ph l σ' s a w' fu x1 x2 x3 x4 x5 x6=>(ih hd ph l σ' s a w' fu x1 x2 x3 x4 x5 x6).1) hWr hS hsat i W (Fr (wB W st.ctx σ) w) (fun _=>True) (fun w1 hw1 h L hs hV hL=>?_) (fun w1 hw1 b o hb=>(hw1.block b (frz_lt hR hb) (not_wB hR W hb)).trans (hR.sat.frz b o hb)) (fun l w1 _ hs=>hs.2) (fun _ _ _ _ _ _=>trivial) trivial h2 h3 (by simpa using h4) h9 (by simpa [cnt] using hfuel) hX;cases hc:st.ctx.at h with
  | none=>rw [hc] at hs;cases hs
  | some q=>exact hw1.block _ (hR.sat.inHeap h L hL) (zt3 hR W hV hc hL)
 | sw r ih=>
  intro hd ph listed σ' s a w' fuel hsch hX hWr hS hsat hfuel;have hbase:∀ h,h<st.ctx.length→σ' h=σ h:=hS.base.loc;simp only [zci,Bool.and_eq_true] at hsch;refine ⟨fun _=>?_,fun f _ i hi=>by simp [ul] at hi⟩;simp only [XD] at hX;obtain ⟨hph,hn,hw,hX⟩:=hX;subst hph;have hWr':∀ h,W.contains h=true→∃ o,st.ctx.at h=some o∧o.ro=false:=by
   intro h hc;rw [List.all_eq_true] at hw;have:=hw h (by simpa using hc);split at this
   ·rename_i o ho;exact ⟨o,ho,by simpa using this⟩
   ·cases this
  exact (ih true true listed σ' _ a w' fuel hsch.2 hX (fun _=>hWr') (hR.switched W hS hn) hsat (by simpa [cnt] using hfuel)).1 rfl
 | alt i r q ihr ihq=>
  intro hd ph listed σ' s a w' fuel hsch hX hWr hS hsat hfuel;have hbase:∀ h,h<st.ctx.length→σ' h=σ h:=hS.base.loc;simp only [zci,Bool.and_eq_true,beq_iff_eq,Bool.or_eq_true,Bool.not_eq_true'] at hsch;obtain ⟨⟨⟨⟨h0,h1⟩,h2⟩,h9⟩,h10⟩:=hsch;simp only [XD] at hX;obtain ⟨hX,hXq⟩:=hX;simp only [cnt] at hfuel;have rest:=(ihq false ph listed σ' s a w' fuel h10 hXq hWr hS hsat (by omega)).2;have here:∀ f,fuel=f+1→wpOp P ops (fun e a' w''=>e=.normal∧∃ σ'' st',K st'∧Rel A σ'' st' a' w'') i (fun a' w'=>Sat2 wrs (Fr (fun _=>False) w) (Fr (wB W st.ctx σ) w) (listed.setIfInBounds i true) w' ∧
    wpAnyL P ops (fun e a' w''=>e=.normal∧∃ σ'' st',K st'∧Rel A σ'' st' a' w'') wrs (Fr (fun _=>False) w) (Fr (wB W st.ctx σ) w) f (listed.setIfInBounds i true) a' w') a w':=by
   intro f hf;subst hf;cases ho:ops[i]? with
   | none=>rw [ho] at hX;exact hX.elim
   | some o=>
    rw [ho] at hX;unfold wpOp;rw [ho];refine um hte (show zx9 P (pt.in st.ctx.length) from hpt) (Nat.le_refl _) (fun h=>by cases h) hS hX fun σ2 s2 a2 w2 hK hR2=>?_;have hs2:Sat2 wrs (Fr (fun _=>False) w) (Fr (wB W st.ctx σ) w) (listed.setIfInBounds i true) w2:=by
     refine ⟨fun h=>?_,hR2.fr.mono fun b _ hx=>hx.2⟩;cases ph with
     | false=>exact hR2.fr.mono fun b _ hx=>by cases hx.1
     | true=>
      have hi:i∈wrs:=by simpa using h2.symm
      have:=h i hi;have hlt:i<listed.size:=by
       have hm:i∈Region.ready .any ops listed:=by simpa using h1
       have:=(mem_ready.1 hm).1;rcases Nat.lt_or_ge i listed.size with h' | h'
       ·exact h'
       ·simp [Array.getElem?_eq_none h'] at this
      simp [hlt] at this
    exact ⟨hs2,(ihr true ph _ σ2 s2 a2 w2 f h9 hK hWr hR2 hs2 (by omega)).1 rfl⟩
  refine ⟨fun hhd=>?_,fun f hf j hj=>?_⟩
  ·obtain ⟨f,rfl⟩:∃ f,fuel=f+1:=⟨fuel-1,by omega⟩
   subst hhd;have hrd:Region.ready .any ops listed=i::ul q:=by
    rcases h0 with h0 | h0
    ·cases h0
    ·exact h0
   refine zla hrd (by simp) fun j hj=>?_;rcases List.mem_cons.1 hj with rfl | hj
   ·exact here f rfl
   ·exact rest f rfl j hj
  ·simp only [ul] at hj;rcases List.mem_cons.1 hj with rfl | hj
   ·exact here f hf
   ·exact rest f hf j hj
/-! Drawn regions where all that may turn something zr1 for what only reads. -/
/-- From here on the order is the only one. -/
def forced (ops:Array Oper):List Nat→Array Bool→Bool
 | [],listed=>(Region.ready .any ops listed).isEmpty
 | i::is,listed=>(Region.ready .any ops listed==[i])&&forced ops is (listed.setIfInBounds i true)
/-- Orders that are all gone through,behind what only reads. -/
def schA (ops:Array Oper) (js:List Nat):Bool→Sc→Array Bool→Bool
 | hd,.fin,listed=>!hd
 | hd,.seq is,listed=>hd&&is.all js.contains&&forced ops is listed
 | hd,.alt i r o,listed=>(!hd||Region.ready .any ops listed==i::ul o)&&(Region.ready .any ops listed).contains i&&js.contains i&&schA ops js true r (listed.setIfInBounds i true)&&schA ops js false o listed
 | _,_,_=>false
def scFin:Sc→Bool
 | .fin=>true
 | _=>false
def opsOf:Sc→List Nat
 | .q1 _ r=>opsOf r
 | .sw r=>opsOf r
 | .seq is=>is
 | .alt i r _=>i::opsOf r
 | _=>[]
def zj4:Sc→List Nat
 | .sw r=>zj4 r
 | .q0 _ _ r=>zj4 r
 | .q1 _ r=>zj4 r
 | .seq is=>is
 | .alt i r _=>i::opsOf r
 | _=>[]
def zru (ops:Array Oper) (js:List Nat):Sc→Array Bool→Bool
 | .q0 i B r,listed=>Region.free .any ops listed i&&(Region.ready .any ops listed).contains i&&!js.contains i&&js.all B.contains&&B.all (fun b=>b==i||zr1 ops B b)&&B.all (unl listed)&&B.contains i&&zru ops js r (listed.setIfInBounds i true)
 | .seq is,listed=>is.all js.contains&&forced ops is listed
 | .alt i r o,listed=>schA ops js true (.alt i r o) listed||(scFin o&&(Region.ready .any ops listed==[i])&&js.contains i&&zru ops (zj4 r) r (listed.setIfInBounds i true))
 | .q1 i r,listed=>Region.free .any ops listed i&&(Region.ready .any ops listed).contains i&&!js.contains i&&zru ops js r (listed.setIfInBounds i true)
 | .sw (.alt i r _),listed=>(Region.ready .any ops listed==[i])&&js.contains i&&zru ops (zj4 r) r (listed.setIfInBounds i true)
 | _,_=>false
def XE (P:Program) (te:TE) (wr:Bool) (nt:Nat) (pt:PT) (ops:Array Oper) (K:St→Prop):Sc→St→Prop
 | .q0 i _ r,st=>match ops[i]? with
  | some o=>xf te o.op=true∧zbb P te wr nt pt false ops st o fun s=>XE P te wr nt pt ops K r ⟨s.env,st.ctx⟩
  | none=>False
 | .seq is,st=>XO P te wr nt pt false ops K is st
 | .alt i r o,st=>(match ops[i]? with
  | some x=>zbb P te wr nt pt false ops st x (XE P te wr nt pt ops K r)
  | none=>False)∧XE P te wr nt pt ops K o st
 | .fin,_=>True
 | .q1 i r,st=>match ops[i]? with
  | some o=>(y5 te o.op==0)=true∧zbb P te wr nt pt false ops st o fun s=>XE P te wr nt pt ops K r ⟨s.env,st.ctx⟩
  | none=>False
 | .sw (.alt i r _),st=>match ops[i]? with
  | some x=>zbb P te wr nt pt true ops st x (XE P te wr nt pt ops K r)
  | none=>False
 | _,_=>False
theorem zx4 {P:Program} {te:TE} (hte:vh P te) {wr:Bool} {pt:PT} {ops:Array Oper} {A:Amb} {σ:Asg} {st:St} {a:Act} {w:World} (hR:Rel A σ st a w) {o:Oper} (hq:y5 te o.op=0) {K:St→Prop}
  (h:zbb P te wr A.nt pt false ops st o K):∃ v st',K st'∧YieldsIf P ops (fun _=>True) o v a∧Rel A σ st' (a.put o.dst v) w:=by
 have one:∀ {g c:Bool},(g=false→c=true)→zoi P te wr A.nt pt g c st o K →
   (c=true→∃ v st',K st'∧(∀ w',(execOp a.eval o).run P w'=.ok (.value v) w')∧Rel A σ st' (a.put o.dst v) w)∧(c=false→∃ st',K st'∧Rel A σ st' (a.put o.dst undef) w):=by
  intro g c hgc h;unfold zoi at h;rw [hq] at h;simp only at h;obtain ⟨z,hz,hv⟩:=zc6 hte hR h;obtain ⟨p1,p2⟩:=zjh hR hz hgc;refine ⟨fun hc=>?_,fun hc=>p2 hc⟩;obtain ⟨v,hr,hrun⟩:=hv hc;obtain ⟨st',k1,k2⟩:=p1 v hc hr;exact ⟨v,st',k1,fun w'=>hrun w',k2⟩
 unfold zbb at h;split at h
 ·rename_i hg;obtain ⟨v,st',k1,k2,k3⟩:=(one (fun _=>rfl) h).1 rfl;exact ⟨v,st',k1,.inl ⟨by simp [Region.wanted,hg],fun w' _=>k2 w'⟩,k3⟩
 ·rename_i j want hg;split at h
  ·exact h.elim
  ·rename_i d hd;obtain ⟨c,h,hc⟩:=zb0 hR.env hd h;have hw:Region.wanted o (yielded ops a.tmps)=c:=by simp only [Region.wanted,hg,hc]
   simp only [Bool.false_eq_true,if_false] at h;obtain ⟨q1,q2⟩:=one (g:=true) (fun h=>by cases h) h;cases c with
   | true=>
    obtain ⟨v,st',k1,k2,k3⟩:=q1 rfl;exact ⟨v,st',k1,.inl ⟨hw,fun w' _=>k2 w'⟩,k3⟩
   | false=>obtain ⟨st',k1,k3⟩:=q2 rfl;exact ⟨undef,st',k1,.inr ⟨hw,rfl⟩,k3⟩
theorem zaf {P:Program} {ops:Array Oper} {Q:Exit→Act→World→Prop} {wrs:List Nat} {S0:World→Prop}:∀ (is:List Nat) (fuel:Nat) (listed:Array Bool) (a:Act) (w:World),(∀ i∈is,i∈wrs)→forced ops is listed=true→is.length≤fuel →
  wpOps P ops Q is a w→wpAnyL P ops Q wrs S0 (fun _=>True) fuel listed a w
 | [],fuel,listed,a,w,_,hf,_,h=>by
  simp only [forced,List.isEmpty_iff] at hf;exact zhu hf h fuel
 | i::is,fuel,listed,a,w,hm,hf,hl,h=>by
  simp only [forced,Bool.and_eq_true,beq_iff_eq] at hf;obtain ⟨f,rfl⟩:∃ f,fuel=f+1:=⟨fuel-1,by simp only [List.length_cons] at hl;omega⟩
  rw [wpOps_cons] at h;refine zc7 hf.1 (wpOp_mono (fun a' w' h'=>⟨⟨fun hx=>?_,trivial⟩,zaf is f _ a' w' (fun j hj=>hm j (List.mem_cons_of_mem _ hj)) hf.2 (by simp only [List.length_cons] at hl;omega) h'⟩) h);have h1:=hx i (hm i List.mem_cons_self);have hlt:i<listed.size:=by
   have h2:i∈Region.ready .any ops listed:=by rw [hf.1];exact List.mem_singleton.2 rfl
   have:=(mem_ready.1 h2).1;rcases Nat.lt_or_ge i listed.size with h' | h'
   ·exact h'
   ·simp [Array.getElem?_eq_none h'] at this
  simp [hlt] at h1
theorem XA_run {P:Program} {te:TE} (hte:vh P te) {wr:Bool} {pt:PT} (hpt:zx9 P pt) {ops:Array Oper} {K:St→Prop} {A:Amb} (hkk:A.k≤pt.k) (hgr:pt.gr=true→A.gr=true) {w0:World} {js:List Nat} :
  ∀ (sch:Sc) (hd:Bool) (listed:Array Bool) (σ:Asg) (s:St) (a:Act) (w:World) (fuel:Nat),schA ops js hd sch listed=true→XE P te wr A.nt pt ops K sch s→Rel A σ s a w→cnt sch≤fuel →
   (hd=true→wpAnyL P ops (fun e a' w''=>e=.normal∧∃ σ'' st',K st'∧Rel A σ'' st' a' w'') js (fun w1=>w1=w0) (fun _=>True) fuel listed a w) ∧
   (∀ f,fuel=f+1→∀ i∈ul sch,wpOp P ops (fun e a' w''=>e=.normal∧∃ σ'' st',K st'∧Rel A σ'' st' a' w'') i (fun a' w'=>Sat2 js (fun w1=>w1=w0) (fun _=>True) (listed.setIfInBounds i true) w' ∧
    wpAnyL P ops (fun e a' w''=>e=.normal∧∃ σ'' st',K st'∧Rel A σ'' st' a' w'') js (fun w1=>w1=w0) (fun _=>True) f (listed.setIfInBounds i true) a' w') a w):=by
 intro sch
 induction sch with
 | q0 i B r _=>intro hd listed σ s a w fuel h;simp [schA] at h
 | q1 i r _=>intro hd listed σ s a w fuel h;simp [schA] at h
 | sw r _=>intro hd listed σ s a w fuel h;simp [schA] at h
 | fin=>
  intro hd listed σ s a w fuel h hX hS hf;refine ⟨fun hhd=>by subst hhd;simp [schA] at h,fun f _ i hi=>by simp [ul] at hi⟩
 | seq is=>
  intro hd listed σ s a w fuel h hX hS hfuel;simp only [schA,Bool.and_eq_true] at h;obtain ⟨⟨_,hj⟩,hf⟩:=h;simp only [XE] at hX;refine ⟨fun _=>zaf is fuel listed a w (fun i hi=>?_) hf (by simpa [cnt] using hfuel) ?_,fun f _ i hi=>by simp [ul] at hi⟩
  ·rw [List.all_eq_true] at hj;simpa using hj i hi
  ·exact zhq hte hpt hkk hgr is hS hX fun σ' st' a' w' h1 h2=>⟨rfl,σ',st',h1,h2⟩
 | alt i r q ihr ihq=>
  intro hd listed σ s a w fuel hsch hX hS hfuel;simp only [schA,Bool.and_eq_true,beq_iff_eq,Bool.or_eq_true,Bool.not_eq_true'] at hsch;obtain ⟨⟨⟨⟨h0,h1⟩,h2⟩,h9⟩,h10⟩:=hsch;simp only [XE] at hX;obtain ⟨hX,hXq⟩:=hX;simp only [cnt] at hfuel;have rest:=(ihq false listed σ s a w fuel h10 hXq hS (by omega)).2;have here:∀ f,fuel=f+1→wpOp P ops (fun e a' w''=>e=.normal∧∃ σ'' st',K st'∧Rel A σ'' st' a' w'') i (fun a' w'=>Sat2 js (fun w1=>w1=w0) (fun _=>True) (listed.setIfInBounds i true) w' ∧
    wpAnyL P ops (fun e a' w''=>e=.normal∧∃ σ'' st',K st'∧Rel A σ'' st' a' w'') js (fun w1=>w1=w0) (fun _=>True) f (listed.setIfInBounds i true) a' w') a w:=by
   intro f hf;subst hf;cases ho:ops[i]? with
   | none=>rw [ho] at hX;exact hX.elim
   | some o=>
    rw [ho] at hX;unfold wpOp;rw [ho];refine um hte hpt hkk hgr hS hX fun σ2 s2 a2 w2 hK hR2=>?_;refine ⟨⟨fun h=>?_,trivial⟩,(ihr true _ σ2 s2 a2 w2 f h9 hK hR2 (by omega)).1 rfl⟩;have hi:i∈js:=by simpa using h2
    have:=h i hi;have hlt:i<listed.size:=by
     have hm:i∈Region.ready .any ops listed:=by simpa using h1
     have:=(mem_ready.1 hm).1;rcases Nat.lt_or_ge i listed.size with h' | h'
     ·exact h'
     ·simp [Array.getElem?_eq_none h'] at this
    simp [hlt] at this
  refine ⟨fun hhd=>?_,fun f hf j hj=>?_⟩
  ·obtain ⟨f,rfl⟩:∃ f,fuel=f+1:=⟨fuel-1,by omega⟩
   subst hhd;have hrd:Region.ready .any ops listed=i::ul q:=by
    rcases h0 with h0 | h0
    ·cases h0
    ·exact h0
   refine zla hrd (by simp) fun j hj=>?_;rcases List.mem_cons.1 hj with rfl | hj
   ·exact here f rfl
   ·exact rest f rfl j hj
  ·simp only [ul] at hj;rcases List.mem_cons.1 hj with rfl | hj
   ·exact here f hf
   ·exact rest f hf j hj
theorem zdl {P:Program} {ops:Array Oper} {Q:Exit→Act→World→Prop} {js js':List Nat} {S0 S0':World→Prop} {i:Nat} (hi:i∈js) (fuel:Nat):∀ (listed:Array Bool) (a:Act) (w:World),listed.getD i false=true →
  wpAnyL P ops Q js' S0' (fun _=>True) fuel listed a w→wpAnyL P ops Q js S0 (fun _=>True) fuel listed a w:=by
 induction fuel with
 | zero=>intro _ _ _ _ h;exact h
 | succ fuel ih=>
  intro listed a w hl h;refine ⟨h.1,fun k hk=>wpOp_mono (fun a' w' h'=>?_) (h.2 k hk)⟩;have hl':(listed.setIfInBounds k true).getD i false=true:=by
   by_cases hki:k=i
   ·subst hki;have hlt:k<listed.size:=by
     rcases Nat.lt_or_ge k listed.size with h9 | h9
     ·exact h9
     ·simp [Array.getElem?_eq_none h9] at hl
    simp [hlt]
   ·rw [wi false hki];exact hl
  exact ⟨⟨fun hall=>(by rw [hall i hi] at hl';cases hl'),trivial⟩,ih _ a' w' hl' h'.2⟩
theorem lst_on {ops:Array Oper} {listed:Array Bool} {i:Nat} (h1:Region.ready .any ops listed=[i]):(listed.setIfInBounds i true).getD i false=true:=by
 have hm:i∈Region.ready .any ops listed:=by rw [h1];exact List.mem_singleton.2 rfl
 have:=(mem_ready.1 hm).1;have hlt:i<listed.size:=by
  rcases Nat.lt_or_ge i listed.size with h' | h'
  ·exact h'
  ·simp [Array.getElem?_eq_none h'] at this
 simp [hlt]
theorem XE_run {P:Program} {te:TE} (hte:vh P te) {wr:Bool} {pt:PT} (hpt:zx9 P pt) {ops:Array Oper} (hns:Region.noSelect ops=true) {K:St→Prop} {A:Amb} (hkk:A.k≤pt.k) (hgr:pt.gr=true→A.gr=true) {w0:World} {js:List Nat} :
  ∀ (sch:Sc) (listed:Array Bool) (σ:Asg) (w:World) (s:St) (a:Act) (fuel:Nat),zru ops js sch listed=true→XE P te wr A.nt pt ops K sch s→Rel A σ s a w→cnt sch≤fuel →
   Sat2 js (fun w1=>w1=w0) (fun _=>True) listed w →
   wpAnyL P ops (fun e a' w''=>e=.normal∧∃ σ'' st',K st'∧Rel A σ'' st' a' w'') js (fun w1=>w1=w0) (fun _=>True) fuel listed a w:=by
 have key:∀ (sch:Sc) (js:List Nat) (w0:World),(∀ (listed:Array Bool) (σ:Asg) (w:World) (s:St) (a:Act) (fuel:Nat),zru ops js sch listed=true→XE P te wr A.nt pt ops K sch s→Rel A σ s a w→cnt sch≤fuel →
   Sat2 js (fun w1=>w1=w0) (fun _=>True) listed w →
   wpAnyL P ops (fun e a' w''=>e=.normal∧∃ σ'' st',K st'∧Rel A σ'' st' a' w'') js (fun w1=>w1=w0) (fun _=>True) fuel listed a w)∧∀ (i:Nat) (r o:Sc),sch=.alt i r o→(∀ (listed:Array Bool) (σ:Asg) (w:World) (s:St) (a:Act) (fuel:Nat),zru ops js r listed=true→XE P te wr A.nt pt ops K r s→Rel A σ s a w→cnt r≤fuel →
   Sat2 js (fun w1=>w1=w0) (fun _=>True) listed w →
   wpAnyL P ops (fun e a' w''=>e=.normal∧∃ σ'' st',K st'∧Rel A σ'' st' a' w'') js (fun w1=>w1=w0) (fun _=>True) fuel listed a w):=by
  intro sch
  induction sch with
  | fin=>
   intro js w0;refine ⟨?_,by intro _ _ _ h;cases h⟩;intro listed σ w s a fuel h;simp [zru] at h
  | q1 i r ih=>
   intro js w0;refine ⟨?_,by intro _ _ _ h;cases h⟩;intro listed σ w s a fuel hsch hX hS hfuel hsat;simp only [zru,Bool.and_eq_true,Bool.not_eq_true'] at hsch;obtain ⟨⟨⟨h2,h3⟩,h4⟩,h9⟩:=hsch;simp only [cnt] at hfuel;obtain ⟨f,rfl⟩:∃ f,fuel=f+1:=⟨fuel-1,by omega⟩
   simp only [XE] at hX;cases ho:ops[i]? with
   | none=>rw [ho] at hX;exact hX.elim
   | some o=>
    rw [ho] at hX;obtain ⟨hq,hX⟩:=hX;obtain ⟨v,st',k1,k2,k3⟩:=zx4 hte hS (by simpa using hq) hX;have hiw:i ∉ js:=by simpa using h4
    refine zbc (fun _=>True) ho hiw (Region.noSelect_spec hns) (fun c a w h=>by cases h.1) (fun l w1 hl hs=>trivial) (fun l j hl hli hj hji=>trivial) f listed a w (Region.free_spec ho h2) (by simpa using h3) trivial k2 hsat ?_;refine (ih js w0).1 (listed.setIfInBounds i true) σ w ⟨st'.env,s.ctx⟩ _ f h9 k1 ⟨k3.defers,k3.size,k3.env,hS.sat,hS.fr,hS.own,hS.base,hS.klen⟩ (by omega) ⟨fun h=>hsat.1 fun j hj=>?_,trivial⟩;have:=h j hj;rwa [wi false (show i≠j from fun e=>hiw (by rw [e];exact hj))] at this
  | sw r ih=>
   intro js w0;refine ⟨?_,by intro _ _ _ h;cases h⟩;intro listed σ w s a fuel h hX hS hfuel _;cases r with
   | alt i r o=>
    simp only [zru,Bool.and_eq_true,beq_iff_eq] at h;obtain ⟨⟨h1,h2⟩,h9⟩:=h;simp only [XE] at hX;simp only [cnt] at hfuel;obtain ⟨f,rfl⟩:∃ f,fuel=f+1:=⟨fuel-1,by omega⟩
    refine zc7 h1 ?_;cases ho:ops[i]? with
    | none=>rw [ho] at hX;exact hX.elim
    | some o=>
     rw [ho] at hX;unfold wpOp;rw [ho];refine um hte hpt hkk hgr hS hX fun σ2 s2 a2 w2 hK hR2=>?_;have hs2:Sat2 js (fun w1=>w1=w0) (fun _=>True) (listed.setIfInBounds i true) w2:=by
      refine ⟨fun h=>?_,trivial⟩;have hi:i∈js:=by simpa using h2
      have:=h i hi;have hlt:i<listed.size:=by
       have hm:i∈Region.ready .any ops listed:=by rw [h1];exact List.mem_singleton.2 rfl
       have:=(mem_ready.1 hm).1;rcases Nat.lt_or_ge i listed.size with h' | h'
       ·exact h'
       ·simp [Array.getElem?_eq_none h'] at this
      simp [hlt] at this
     exact ⟨hs2,zdl (show i∈js by simpa using h2) f _ a2 w2 (lst_on h1) ((ih (zj4 r) w2).2 i r _ rfl _ σ2 w2 s2 a2 f h9 hK hR2 (by omega) ⟨fun _=>rfl,trivial⟩)⟩
   | _=>simp [zru] at h
  | alt i r o ih _=>
   intro js w0;refine ⟨?_,by intro _ _ _ h;cases h;exact (ih js w0).1⟩;intro listed σ w s a fuel h hX hS hfuel _;simp only [zru,Bool.or_eq_true] at h;rcases h with h | h
   ·exact (XA_run hte hpt hkk hgr _ true listed σ s a w fuel h hX hS hfuel).1 rfl
   ·simp only [Bool.and_eq_true,beq_iff_eq] at h;obtain ⟨⟨⟨_,h1⟩,h2⟩,h9⟩:=h;simp only [XE] at hX;obtain ⟨hX,_⟩:=hX;simp only [cnt] at hfuel;obtain ⟨f,rfl⟩:∃ f,fuel=f+1:=⟨fuel-1,by omega⟩
    refine zc7 h1 ?_;cases ho:ops[i]? with
    | none=>rw [ho] at hX;exact hX.elim
    | some o=>
     rw [ho] at hX;unfold wpOp;rw [ho];refine um hte hpt hkk hgr hS hX fun σ2 s2 a2 w2 hK hR2=>?_;have hs2:Sat2 js (fun w1=>w1=w0) (fun _=>True) (listed.setIfInBounds i true) w2:=by
      refine ⟨fun h=>?_,trivial⟩;have hi:i∈js:=by simpa using h2
      have:=h i hi;have hlt:i<listed.size:=by
       have hm:i∈Region.ready .any ops listed:=by rw [h1];exact List.mem_singleton.2 rfl
       have:=(mem_ready.1 hm).1;rcases Nat.lt_or_ge i listed.size with h' | h'
       ·exact h'
       ·simp [Array.getElem?_eq_none h'] at this
      simp [hlt] at this
     exact ⟨hs2,zdl (show i∈js by simpa using h2) f _ a2 w2 (lst_on h1) ((ih (zj4 r) w2).1 _ σ2 w2 s2 a2 f h9 hK hR2 (by omega) ⟨fun _=>rfl,trivial⟩)⟩
  | seq is=>
   intro js w0;refine ⟨?_,by intro _ _ _ h;cases h⟩;intro listed σ w s a fuel h hX hS hfuel _;simp only [zru,Bool.and_eq_true] at h;obtain ⟨hj,hf⟩:=h;simp only [XE] at hX;refine zaf is fuel listed a w (fun i hi=>by rw [List.all_eq_true] at hj;simpa using hj i hi) hf (by simpa [cnt] using hfuel) ?_;exact zhq hte hpt hkk hgr is hS hX fun σ' st' a' w' h1 h2=>⟨rfl,σ',st',h1,h2⟩
  | q0 i B r ih=>
   intro js w0;refine ⟨?_,by intro _ _ _ h;cases h⟩;intro listed σ w s a fuel hsch hX hS hfuel hsat;simp only [zru,Bool.and_eq_true,Bool.not_eq_true'] at hsch;obtain ⟨⟨⟨⟨⟨⟨⟨h2,h3⟩,h4⟩,h5⟩,h6⟩,h7⟩,h8⟩,h9⟩:=hsch;simp only [cnt] at hfuel;obtain ⟨f,rfl⟩:∃ f,fuel=f+1:=⟨fuel-1,by omega⟩
   simp only [XE] at hX;cases ho:ops[i]? with
   | none=>rw [ho] at hX;exact hX.elim
   | some o=>
    rw [ho] at hX;obtain ⟨hq,hX⟩:=hX;obtain rfl:w=w0:=hsat.1 fun j hj=>by
     rw [List.all_eq_true] at h5 h7;have:=h7 j (by simpa using h5 j hj);have hu:listed.getD j true=false:=by simpa [unl] using this
     rcases Nat.lt_or_ge j listed.size with h' | h'
     ·simp [h'] at hu ⊢;exact hu
     ·simp [Array.getElem?_eq_none h']
    obtain ⟨v,st',k1,k2,k3⟩:=zju hte hS hq hX (Sx:=fun w1=>w1=w) (fun w1 hw1 h L _ _=>by rw [hw1]) (fun w1 hw1 b o hb=>by rw [hw1];exact hS.sat.frz b o hb);have hiw:i ∉ js:=by simpa using h4
    refine zbc (fun l=>∀ b∈B,l.getD b true=false) ho hiw (Region.noSelect_spec hns) (fun c a w h=>by cases h.1) (fun l w1 hl hs=>hs.1 fun j hj=>?_) (fun l j hl hli hj hji b hb=>?_) f listed a w (Region.free_spec ho h2) (by simpa using h3) ?_ k2 hsat ?_
    ·have hjB:j∈B:=by rw [List.all_eq_true] at h5;simpa using h5 j hj
     have:=hl j hjB;rcases Nat.lt_or_ge j l.size with h' | h'
     ·simp [h'] at this ⊢;exact this
     ·simp [Array.getElem?_eq_none h']
    ·by_cases hbj:j=b
     ·subst hbj;rw [List.all_eq_true] at h6;have:=h6 j hb;simp only [Bool.or_eq_true,beq_iff_eq] at this;rcases this with hx | hx
      ·exact absurd hx hji
      ·unfold zr1 at hx;obtain ⟨hjun,oj,hoj,hall⟩:=mem_ready.1 hj;rw [hoj] at hx;simp only [Array.any_eq_true,Bool.and_eq_true,List.contains_iff_mem] at hx;obtain ⟨q,hq,hb1,hb2⟩:=hx;have e1:=hall _ (Array.getElem_mem hq) hb1;have e2:=hl _ (by simpa using hb2);rcases Nat.lt_or_ge (oj.after[q]).on l.size with h' | h'
       ·simp [h'] at e1 e2;rw [e2] at e1;cases e1
       ·simp [Array.getElem?_eq_none h'] at e1
     ·rw [wi true hbj];exact hl b hb
    ·intro b hb;rw [List.all_eq_true] at h7;simpa [unl] using h7 b hb
    ·refine (ih js w).1 (listed.setIfInBounds i true) σ w ⟨st'.env,s.ctx⟩ _ f h9 k1 ⟨k3.defers,k3.size,k3.env,hS.sat,hS.fr,hS.own,hS.base,hS.klen⟩ (by omega) ⟨fun h=>hsat.1 fun j hj=>?_,trivial⟩;have:=h j hj;rwa [wi false (show i≠j from fun e=>hiw (by rw [e];exact hj))] at this
 exact fun sch=>(key sch js w0).1
/-- A drawn region: the schedule is checked by computing,the steps are gone along it. -/
theorem zrr.of {P:Program} {te:TE} (hte:vh P te) {wr:Bool} {pt:PT} (hpt:zx9 P pt) (hm:P.follows .mixedOrders=true) {nt k:Nat} {ops:Array Oper} (wrs W:List Nat) (sch:Sc) (hns:Region.noSelect ops=true) (hc:cnt sch≤ops.size) (hsch:zci ops wrs true false sch (Array.replicate ops.size false)=true)
  {K:St→Prop} {st:St} (h:XD P te wr nt pt ops W st.ctx K true false sch ⟨st.env,freeze [] 0 st.ctx⟩):zrr P nt k ops K st:=by
 intro A σ a w id hnt hk _ hR;have hR1:=hR.drawn (w.drawn+1);refine wp_region_any hm (ze2 (wrs:=wrs) (S0:=Fr (fun _=>False) { w with drawn:=w.drawn+1 }) (S1:=Fr (wB W st.ctx σ) { w with drawn:=w.drawn+1 }) _ _ _ _ ?_);rw [←hnt] at h;exact (XD_run hte hpt hns hR1 sch true false _ σ _ a _ _ hsch h (fun h=>by cases h) (hR1.frozen W) ⟨fun _=>Fr.refl _ _,Fr.refl _ _⟩ hc).1 rfl
theorem zrr.ofE {P:Program} {te:TE} (hte:vh P te) {wr:Bool} {pt:PT} (hpt:zx9 P pt) (hm:P.follows .mixedOrders=true) {nt k:Nat} (hkk:k≤pt.k) {ops:Array Oper} (sch:Sc) (hns:Region.noSelect ops=true) (hc:cnt sch≤ops.size) (hsch:zru ops (zj4 sch) sch (Array.replicate ops.size false)=true)
  {K:St→Prop} {st:St} (h:XE P te wr nt pt ops K sch st):zrr P nt k ops K st:=by
 intro A σ a w id hnt hk hg hR;have hR1:=hR.drawn (w.drawn+1);refine wp_region_any hm (ze2 (wrs:=zj4 sch) (S0:=fun w1=>w1={ w with drawn:=w.drawn+1 }) (S1:=fun _=>True) _ _ _ _ ?_);rw [←hnt] at h;exact XE_run hte hpt hns (by rw [hk];exact hkk) (fun _=>hg) sch _ σ _ st a _ hsch h hR1 hc ⟨fun _=>rfl,trivial⟩
/-- The drawn regions of a function: number,writers,objects that may be written,schedule. -/
abbrev DL:=List (Nat×List Nat×List Nat×Sc)
def zue (ops:Array Oper) (wrs:List Nat) (sch:Sc):Bool:=Region.noSelect ops&&decide (cnt sch≤ops.size)&&zci ops wrs true false sch (Array.replicate ops.size false)
def zr8 (ops:Array Oper) (sch:Sc):Bool:=Region.noSelect ops&&decide (cnt sch≤ops.size)&&zru ops (zj4 sch) sch (Array.replicate ops.size false)
def isE:Sc→Bool
 | .sw r=>isE r
 | .q0 _ _ r=>isE r
 | .q1 _ r=>isE r
 | .alt _ r _=>isE r
 | .seq _=>true
 | _=>false
def drOf (P:Program) (te:TE) (wr:Bool) (nt:Nat) (pt:PT):DL→Nat→Array Oper→(St→Prop)→St→Prop
 | [],_,_,_,_=>False
 | e::r,id,ops,K,st=>if e.1=id then (if isE e.2.2.2 then zr8 ops e.2.2.2=true∧XE P te wr nt pt ops K e.2.2.2 st
   else zue ops e.2.1 e.2.2.2=true∧XD P te wr nt pt ops e.2.2.1 st.ctx K true false e.2.2.2 ⟨st.env,freeze [] 0 st.ctx⟩) else drOf P te wr nt pt r id ops K st
theorem z2l {P:Program} {te:TE} (hte:vh P te) {wr:Bool} {pt:PT} (hpt:zx9 P pt) (hm:P.follows .mixedOrders=true) {nt k:Nat} (hkk:k≤pt.k):∀ (l:DL) (id:Nat) (ops:Array Oper) (K:St→Prop) (st:St),drOf P te wr nt pt l id ops K st→zrr P nt k ops K st
 | [],_,_,_,_,h=>h.elim
 | e::r,id,ops,K,st,h=>by
  simp only [drOf] at h;split at h
  ·split at h
   ·obtain ⟨h1,h2⟩:=h;simp only [zr8,Bool.and_eq_true,decide_eq_true_eq] at h1;exact zrr.ofE hte hpt hm hkk _ h1.1.1 h1.1.2 h1.2 h2
   ·obtain ⟨h1,h2⟩:=h;simp only [zue,Bool.and_eq_true,decide_eq_true_eq] at h1;exact zrr.of hte hpt hm _ _ _ h1.1.1 h1.1.2 h1.2 h2
  ·exact z2l hte hpt hm hkk r id ops K st h
/-- The settings of a walk,put together. -/
def zfo (P:Program) (te:TE) (l:List (FuncId×PE)) (nt k:Nat) (wr:Bool) (sp:Nat→Bool) (keep:Nat→List Tmp) (cut:List Nat) (d:DL):Cf:=⟨P,te,⟨l,k,true⟩,nt,k,wr,sp,keep,cut,drOf P te wr nt ⟨l,k,true⟩ d⟩
theorem zi5 {P:Program} {te:TE} (hte:vh P te) {l:List (FuncId×PE)} (hpt:zdh P l) (hm:P.follows .mixedOrders=true) {nt k:Nat} {wr:Bool} {sp:Nat→Bool} {keep:Nat→List Tmp} {cut:List Nat} {d:DL}:(zfo P te l nt k wr sp keep cut d).ok:=
 ⟨hte,hpt,Nat.le_refl _,fun id ops K st h=>z2l hte (pt:=⟨l,k,true⟩) hpt hm (Nat.le_refl _) d id ops K st h⟩
section
variable {P:Program} {te:TE} {wr:Bool} {nt:Nat} {pt:PT} {ops:Array Oper} {st:St} {K:Sl St} {dst:Option Tmp} {ty:TypeId} {pos:String} {after:Array Edge} {W:List Nat} {ctx0:Ctx} {r:Sc} {hd ph:Bool}
def XDs (P:Program) (te:TE) (wr:Bool) (nt:Nat) (pt:PT) (ops:Array Oper) (W:List Nat) (ctx0:Ctx) (K:Sl St) (hd ph:Bool) (sch:Sc) (st:St):Prop:=XD P te wr nt pt ops W ctx0 K.f hd ph sch st
def XSs (P:Program) (te:TE) (wr:Bool) (nt:Nat) (pt:PT) (ops:Array Oper) (st:St) (o:Oper) (K:Sl St):Prop:=zbb P te wr nt pt false ops st o K.f
def XEs (P:Program) (te:TE) (wr:Bool) (nt:Nat) (pt:PT) (ops:Array Oper) (K:Sl St) (sch:Sc) (st:St):Prop:=XE P te wr nt pt ops K.f sch st
def XOl (P:Program) (te:TE) (wr:Bool) (nt:Nat) (pt:PT) (ops:Array Oper) (K:Sl St) (is:List Nat) (st:St):Prop:=XO P te wr nt pt false ops K.f is st
theorem z2j {id:Nat} {wrs:List Nat} {sch:Sc} {l:DL}:drS (drOf P te wr nt pt ((id,wrs,W,sch)::l)) id ops K st=zyk (isE sch) (zr8 ops sch=true∧XEs P te wr nt pt ops K sch st) (zue ops wrs sch=true∧XDs P te wr nt pt ops W st.ctx K true false sch ⟨st.env,freeze [] 0 st.ctx⟩) ⟨⟩:=by simp [drS,drOf,XDs,XEs,zyk]
theorem XEs_q0 {i:Nat} {B:List Nat}:XEs P te wr nt pt ops K (.q0 i B r) st=onO ops[i]? ⟨fun o=>xf te o.op=true∧XSs P te wr nt pt ops st o ⟨fun s=>XEs P te wr nt pt ops K r ⟨s.env,st.ctx⟩,⟨⟩⟩,⟨⟩⟩:=by simp only [XEs,XE,XSs];cases ops[i]?<;>rfl
theorem XEs_q1 {i:Nat}:XEs P te wr nt pt ops K (.q1 i r) st=onO ops[i]? ⟨fun o=>(y5 te o.op==0)=true∧XSs P te wr nt pt ops st o ⟨fun s=>XEs P te wr nt pt ops K r ⟨s.env,st.ctx⟩,⟨⟩⟩,⟨⟩⟩:=by simp only [XEs,XE,XSs];cases ops[i]?<;>rfl
theorem z3c {is:List Nat}:XEs P te wr nt pt ops K (.seq is) st=XOl P te wr nt pt ops K is st:=id rfl
theorem z3e {i:Nat} {q:Sc}:XEs P te wr nt pt ops K (.alt i r q) st=(onO ops[i]? ⟨fun o=>XSs P te wr nt pt ops st o ⟨fun s=>XEs P te wr nt pt ops K r s,⟨⟩⟩,⟨⟩⟩∧XEs P te wr nt pt ops K q st):=by simp only [XEs,XE,XSs];cases ops[i]?<;>rfl
def XSw (P:Program) (te:TE) (wr:Bool) (nt:Nat) (pt:PT) (ops:Array Oper) (st:St) (o:Oper) (K:Sl St):Prop:=zbb P te wr nt pt true ops st o K.f
theorem XW_sw {i:Nat} {q:Sc}:XEs P te wr nt pt ops K (.sw (.alt i r q)) st=onO ops[i]? ⟨fun o=>XSw P te wr nt pt ops st o ⟨fun s=>XEs P te wr nt pt ops K r s,⟨⟩⟩,⟨⟩⟩:=by simp only [XEs,XE,XSw];cases ops[i]?<;>rfl
theorem z3d:XEs P te wr nt pt ops K .fin st=True:=id rfl
theorem z3a:XOl P te wr nt pt ops K [] st=K.f st:=id rfl
theorem zws {i:Nat} {is:List Nat}:XOl P te wr nt pt ops K (i::is) st=onO ops[i]? ⟨fun o=>XSs P te wr nt pt ops st o ⟨fun s=>XOl P te wr nt pt ops K is s,⟨⟩⟩,⟨⟩⟩:=by simp only [XOl,XO,XSs];cases ops[i]?<;>rfl
theorem zz2 {l:List (FuncId×PE)} {k n:Nat} {gr:Bool}:PT.in ⟨l,k,gr⟩ n=⟨l,n,false⟩:=id rfl
theorem zwa {i id:Nat} {wrs:List Nat} {sch:Sc} {l:DL} (h:(i==id)=false):drS (drOf P te wr nt pt ((i,wrs,W,sch)::l)) id ops K st=drS (drOf P te wr nt pt l) id ops K st:=by simp only [beq_eq_false_iff_ne,ne_eq] at h;simp [drS,drOf,h]
theorem zww:XDs P te wr nt pt ops W ctx0 K true false .fin st=(z6 ctx0.length st.ctx∧K.f ⟨st.env,zon [] 0 ctx0 st.ctx⟩):=id rfl
theorem zwv:XDs P te wr nt pt ops W ctx0 K true true .fin st=(z6 ctx0.length st.ctx∧K.f ⟨st.env,zon W 0 ctx0 st.ctx⟩):=id rfl
theorem XDs_q0 {i:Nat} {B:List Nat}:XDs P te wr nt pt ops W ctx0 K hd ph (.q0 i B r) st=onO ops[i]? ⟨fun o=>xf te o.op=true∧XSs P te wr nt (pt.in ctx0.length) ops ⟨st.env,u9 [] 0 ctx0 st.ctx⟩ o ⟨fun s=>XDs P te wr nt pt ops W ctx0 K true ph r ⟨s.env,st.ctx⟩,⟨⟩⟩,⟨⟩⟩:=by simp only [XDs,XD,XSs,XQ];cases ops[i]?<;>rfl
theorem XDs_q1 {i:Nat}:XDs P te wr nt pt ops W ctx0 K hd ph (.q1 i r) st=onO ops[i]? ⟨fun o=>xf te o.op=true∧XSs P te wr nt (pt.in ctx0.length) ops ⟨st.env,u9 W 0 ctx0 st.ctx⟩ o ⟨fun s=>XDs P te wr nt pt ops W ctx0 K true ph r ⟨s.env,st.ctx⟩,⟨⟩⟩,⟨⟩⟩:=by simp only [XDs,XD,XSs,XQ];cases ops[i]?<;>rfl
theorem z3f {i:Nat} {q:Sc}:XDs P te wr nt pt ops W ctx0 K hd ph (.alt i r q) st=(onO ops[i]? ⟨fun o=>XSs P te wr nt (pt.in ctx0.length) ops st o ⟨fun s=>XDs P te wr nt pt ops W ctx0 K true ph r s,⟨⟩⟩,⟨⟩⟩∧XDs P te wr nt pt ops W ctx0 K false ph q st):=by simp only [XDs,XD,XSs];cases ops[i]?<;>rfl
theorem zwu:XDs P te wr nt pt ops W ctx0 K false ph .fin st=True:=by simp [XDs,XD]
theorem XDs_sw:XDs P te wr nt pt ops W ctx0 K hd false (.sw r) st=(z6 ctx0.length st.ctx∧(W.all fun h=>match ctx0.at h with | some o=>!o.ro | none=>false)=true ∧
   XDs P te wr nt pt ops W ctx0 K true true r ⟨st.env,freeze W 0 ctx0++st.ctx.drop ctx0.length⟩):=by
 cases hd;all_goals
  show (false=false∧_∧_∧_)=_;simp only [true_and];rfl
theorem z29 {op:Op}:XSw P te wr nt pt ops st ⟨dst,op,ty,pos,after,none⟩ K=XOs P te wr nt pt false true st ⟨dst,op,ty,pos,after,none⟩ K:=id rfl
theorem z28 {op:Op} {j:Nat} {want:Bool}:XSw P te wr nt pt ops st ⟨dst,op,ty,pos,after,some (j,want)⟩ K=zf4 true P te wr nt pt (zjo ops j) want st ⟨dst,op,ty,pos,after,some (j,want)⟩ K:=id rfl
theorem zwl {op:Op}:XSs P te wr nt pt ops st ⟨dst,op,ty,pos,after,none⟩ K=XOs P te wr nt pt false true st ⟨dst,op,ty,pos,after,none⟩ K:=id rfl
theorem zwk {op:Op} {j:Nat} {want:Bool}:XSs P te wr nt pt ops st ⟨dst,op,ty,pos,after,some (j,want)⟩ K=zf4 false P te wr nt pt (zjo ops j) want st ⟨dst,op,ty,pos,after,some (j,want)⟩ K:=id rfl
theorem opsGet {l:List Oper} {i:Nat}:(Array.mk l)[i]?=l[i]?:=by simp
theorem zji {i:Nat} {o:Option SO} {c:Ctx}:freeze W i (o::c)=(if W.contains i then o else o.bind zqo)::freeze W (i+1) c:=id rfl
theorem zmm {i:Nat}:freeze W i []=[]:=id rfl
theorem zma {i:Nat} {o0 o:Option SO} {r0 c:Ctx}:u9 W i (o0::r0) (o::c)=(if W.contains i=false∧o0.isSome=true then o else none)::u9 W (i+1) r0 c:=id rfl
theorem zqq {i:Nat} {c:Ctx}:u9 W i [] c=c.map fun _=>none:=by cases c<;>rfl
theorem zo1 {i:Nat} {o0 o:Option SO} {r0 c:Ctx}:zon W i (o0::r0) (o::c)=(if W.contains i then o else o0)::zon W (i+1) r0 c:=id rfl
theorem zub {i:Nat} {c:Ctx}:zon W i [] c=c:=by cases c<;>rfl
theorem zqm {b:Bool} {sz n:Nat} {f:Nat→List SV}:zqo (.row b sz n f)=some (.row true sz n f):=id rfl
theorem zqn {b:Bool} {cs:List SV}:zqo (.blk b cs)=some (.blk true cs):=id rfl
end
end Go.Vg
