/- Contracts of functions, and how a caller uses them. -/
import Derived.Test.YtgippllfnmdnpaaGreatDoorUAE
set_option linter.all false
section
namespace Go.Vg
variable [Go.Vg.Glob]
open Go.RowKit
/-- Blocks of the objects that may be written. -/
def rwB (pre:Ctx) (σ:Asg) (b:Nat):Prop:=∃ h o L,pre.at h=some o∧o.ro=false∧σ h=some L∧L.b=b
structure PostOK (k:Nat) (pre:Ctx) (σ:Asg) (w:World) (z:SV) (v:Value) (c:Ctx) (σ':Asg) (w':World):Prop where
 val:rel σ' z v
 sat:Sat σ' w' c
 len:pre.length≤c.length
 base:∀ h,h<k→σ' h=σ h
 fr:Fr (rwB pre σ) w w'
 own:∀ h o L,c.at h=some o→o.ro=false→σ' h=some L→rwB pre σ L.b∨w.heap.size≤L.b
 new:∀ h o,k≤h→c.at h=some o→o.ro=false
 fzb:∀ b o,σ.fz b=some o→σ'.fz b=some o
 fzn:∀ b o,σ'.fz b=some o→σ.fz b=some o∨rwB pre σ b∨w.heap.size≤b
/-- A function's contract: from these arguments and objects on. The objects under the first 'k' numbers stay where they lie,the others may come to lie elsewhere. -/
def FnK (P:Program) (f:FuncId) (k:Nat) (args:List SV) (pre:Ctx) (Q:SV→Ctx→Prop):Prop:=
 zb4 P f∧∀ (w:World) (σ:Asg) (vs:Array Value),Sat σ w pre→relL σ args vs.toList →
  Calls P f vs w fun e w'=>∃ v z c σ',e=.returned v∧Q z c∧PostOK k pre σ w z v c σ' w'
theorem FnK.mono {P:Program} {f:FuncId} {k:Nat} {args:List SV} {pre:Ctx} {Q Q':SV→Ctx→Prop} (h:FnK P f k args pre Q) (hq:∀ z c,Q z c→Q' z c):FnK P f k args pre Q' :=
 ⟨h.1,fun w σ vs h1 h2=>(h.2 w σ vs h1 h2).mono fun e w' ⟨v,z,c,σ',e1,e2,e3⟩=>⟨v,z,c,σ',e1,hq _ _ e2,e3⟩⟩
def zaa:Nat→List SV→List (Tmp×SV)
 | _,[]=>[]
 | i,x::xs=>(i,x)::zaa (i+1) xs
theorem zmc:∀ (l:List SV) (i t:Nat),look (zaa i l) t=if i≤t∧t<i+l.length then l.getD (t-i) .u else .u
 | [],i,t=>by simp [look,zaa]
 | x::xs,i,t=>by
  simp only [look,zaa];by_cases h:i=t
  ·subst h;simp
  ·rw [if_neg h,zmc xs (i+1) t];by_cases h2:i≤t∧t<i+(x::xs).length
   ·obtain ⟨k,rfl⟩:∃ k,t=i+1+k:=⟨t-i-1,by omega⟩
    simp only [List.length_cons] at h2;rw [if_pos (by omega),if_pos (by simp only [List.length_cons];omega)];rw [show i+1+k-(i+1)=k from by omega,show i+1+k-i=k+1 from by omega];simp
   ·simp only [List.length_cons] at h2;rw [if_neg (by omega),if_neg (by simp only [List.length_cons];omega)]
def z6 (k:Nat) (c:Ctx):Prop:=((c.drop k).all fun o=>match o with | some x=>!x.ro | none=>true)=true
theorem z6.get {k:Nat} {c:Ctx} (h:z6 k c) {j:Nat} {o:SO} (hj:k≤j) (ho:c.at j=some o):o.ro=false:=by
 unfold z6 at h;rw [List.all_eq_true] at h;have hlt:j<c.length:=by
  rcases Nat.lt_or_ge j c.length with h' | h'
  ·exact h'
  ·rw [Ctx.at,List.getD_eq_getElem?_getD,List.getElem?_eq_none h'] at ho;cases ho
 have hm:(some o)∈c.drop k:=by refine List.mem_of_getElem? (i:=j-k) ?_;rw [List.getElem?_drop,show k+(j-k)=j from by omega,List.getElem?_eq_getElem hlt];rw [Ctx.at,List.getD_eq_getElem?_getD,List.getElem?_eq_getElem hlt] at ho;simpa using ho
 have:=h _ hm;simpa using this
/-- From a walk to a contract;'F': what the walk brings about at its end. -/
theorem FnK.ofG {cf:Cf} (hcf:cf.ok) {f:FuncId} {fn:Func} {c:Code} (hf:cf.P.funcs[f]?=some fn) (hb:fn.body=some c) (hname:(fn.name == "runtime.NumGoroutine")=false)
  (hnt:fn.ntmps=cf.nt) {args:List SV} {pre:Ctx} (hlen:args.length≤cf.nt) (hk:cf.k≤pre.length) {rs:List ResultVar} (hrs:fn.results.toList=rs) {Q:SV→Ctx→Prop} {F:St→Prop} (hF:∀ (A:Amb) (σ:Asg) (st:St) (a:Act) (w:World),A.k=cf.k→A.gr=true→F st→Rel A σ st a w→∃ z v c σ2,Q z c∧(results fn a.tmps).run cf.P w=.ok v w∧rel σ2 z v∧Rel A σ2 ⟨[],c⟩ a w∧z6 cf.k c∧pre.length≤c.length) (n:Nat)
  (h:vc cf F n [.code c] ⟨zaa 0 args,pre⟩):FnK cf.P f cf.k args pre Q:=by
 subst hrs;refine ⟨⟨fn,hf,by simp [hb],hname⟩,fun w σ vs hsat hargs=>?_⟩;have hl:=y4 hargs;simp only [Array.length_toList] at hl
 let A:Amb:=⟨w,rwB pre σ,σ,cf.k,cf.nt,true⟩
 let a:Act:={ tmps:=vs++Array.replicate (fn.ntmps-vs.size) undef,defers:=[] }
 have hR:Rel A σ ⟨zaa 0 args,pre⟩ a w:=by
  refine ⟨rfl, ?_,fun t=>?_,hsat,Fr.refl _ _,fun h o L h1 h2 h3=>.inl ⟨h,o,L,h1,h2,h3,rfl⟩,⟨fun _ _=>rfl,fun _ _ h=>h,fun _ _ h=>.inl h⟩,hk⟩
  ·simp [a,A];omega
  ·rw [zmc];split
   ·rename_i ht;simp only [Nat.zero_add] at ht;obtain ⟨v,hv,hr⟩:=ky hargs (j:=t) (x:=args[t]) (by simp [ht.2]);have h1:args.getD (t-0) .u=args[t]:=by simp [List.getD_eq_getElem?_getD,List.getElem?_eq_getElem ht.2]
    rw [h1];have h2:a.tmps.getD t undef=v:=by rw [Array.getElem?_toList] at hv;simp only [a];rw [Array.getD_eq_getD_getElem?,Array.getElem?_append_left (by omega),hv];rfl
    rw [h2];exact hr
   ·simp [rel]
 refine calls_of_wp hf hb ?_;have hkp:=vc_sound hcf (A:=A) rfl rfl rfl n _ _ _ _ _ h hR;simp only [KP] at hkp;refine wp_mono hkp fun e a' w' he=>?_;have fin:∀ σ' st',(F st'∧Rel A σ' st' a' w')→a'.defers=[]∧∃ v,(results fn a'.tmps).run cf.P w'=.ok v w' ∧
   ∃ v_1 z c σ',Ending.returned v=Ending.returned v_1∧Q z c∧PostOK cf.k pre σ w z v_1 c σ' w':=by
  intro σ1 st' ⟨hq,hR1⟩;obtain ⟨z,v,c,σ',hz,hv,hr,hR',hn,hl⟩:=hF A σ1 st' a' w' rfl rfl hq hR1;exact ⟨hR'.defers,v,hv,v,z,_,σ',rfl,hz,hr,hR'.sat,hl,hR'.base.loc,hR'.fr,hR'.own,fun h o h1 h2=>hn.get h1 h2,hR'.base.fzb,fun b o h=>(hR'.base.fzn b o h).imp id And.right⟩
 cases e with
 | normal=>
  simp only [KP] at he;obtain ⟨σ',st',h1,h2⟩:=he;exact fin σ' st' ⟨h1,h2⟩
 | ret=>
  simp only [KP] at he;obtain ⟨σ',st',h1,h2⟩:=he;exact fin σ' st' ⟨h1,h2⟩
 | _=>simp only [KP] at he
theorem FnK.of {cf:Cf} (hcf:cf.ok) {f:FuncId} {fn:Func} {c:Code} (hf:cf.P.funcs[f]?=some fn) (hb:fn.body=some c) (hname:(fn.name == "runtime.NumGoroutine")=false)
  (hnt:fn.ntmps=cf.nt) {args:List SV} {pre:Ctx} (hlen:args.length≤cf.nt) (hk:cf.k≤pre.length) {rs:List ResultVar} (hrs:fn.results.toList=rs) {Q:SV→Ctx→Prop} (n:Nat)
  (h:vc cf (fun st=>zrv cf.te st Q rs []∧z6 cf.k st.ctx∧pre.length≤st.ctx.length) n [.code c] ⟨zaa 0 args,pre⟩):FnK cf.P f cf.k args pre Q:=by
 refine FnK.ofG hcf hf hb hname hnt hlen hk hrs (fun A σ st a w _ _ hF hR=>?_) n h;obtain ⟨hq,hn,hl⟩:=hF;rw [←hrs] at hq;obtain ⟨z,v,hz,hv,hr⟩:=zb9 (P:=cf.P) hcf.te hR hq;exact ⟨z,v,_,σ,hz,hv,hr,⟨hR.defers,hR.size,fun t=>by simp [look,rel],hR.sat,hR.fr,hR.own,hR.base,hR.klen⟩,hn,hl⟩
theorem zg9 {σ:Asg} {w:World} {n:Nat} {ctx:Ctx} (hs:Sat σ w ctx) {b:Nat} {o:Obj} (hb:σ.fz b=some o):(if n≤b then w.heap[b]? else σ.fz b)=some o:=by
 split
 ·exact hs.frz b o hb
 ·exact hb
-- A value whose rows lie in new blocks,once those are frozen.
mutual
theorem z11 {σ:Asg} {w:World} {n:Nat} {ctx:Ctx} (hs:Sat σ w ctx) (hnew:∀ h o L,ctx.at h=some o→o.ro=false→σ h=some L→n≤L.b) (hrw:∀ h o,ctx.at h=some o→o.ro=false) :
  ∀ {x:SV} {v:Value},vz ctx x→(zcj ctx x).plain=true→rel σ x v→rel ⟨fun _=>none,fun b=>if n≤b then w.heap[b]? else σ.fz b⟩ (zcj ctx x) v
 | .slc h lo len,v,hok,hp,hr=>by
  have hr0:=hr;simp only [zcj] at hp ⊢;simp only [vz] at hok;split at hp
  ·rename_i ro sz n' f hob;rw [hob] at hok;obtain ⟨hn,hel⟩:=hok;simp only [rel] at hr ⊢;obtain ⟨a,cap,rfl,hl,hr⟩:=hr;have hlen:(je f lo len).length=len:=by simp [je]
   refine ⟨a,cap,by rw [hlen],by rw [hlen];exact hl, ?_⟩;by_cases h0:len=0
   ·left;subst h0;rfl
   right;rcases hr with hr | ⟨L,hL,rfl,hav⟩
   ·omega
   have hobj:=hs.obj h _ hob;unfold qc at hobj;simp only [SO.isMap] at hobj;rcases hobj with ⟨_,h1⟩ | ⟨L',c,e,fr,hL',hc⟩
   ·rw [h1] at hL;cases hL
   rw [hL'] at hL;cases hL;have hsz:L.sz=sz:=hc.lsz;have hge:n≤L.b:=hnew h _ L hob (hrw h _ hob) hL';refine ⟨L.b,L.sh+lo * L.sz+0,c,e,fr,rfl,by simp only [if_pos hge];exact hc.heap,ub fun j x hx=>?_⟩;have hj:j<len:=by rw [←hlen];exact (List.getElem?_eq_some_iff.1 hx).1
   have hx':x=f (lo+j):=by simpa [je,hj] using hx.symm
   subst hx';obtain ⟨e1,e2⟩:=hel j hj;refine ⟨e1, ?_⟩;have:=z2s hc (i:=lo+j) (by omega) e1;rw [List.drop_drop,hsz,show L.sh+lo * sz+0+j * sz=L.sh+(lo+j) * sz by rw [Nat.add_mul];omega];exact x7 (fun b o hb=>zg9 hs hb) e2 this
  ·simp [SV.plain] at hp
 | .agg l,v,hok,hp,hr=>by
  simp only [zcj,vz,SV.plain,rel] at hok hp hr ⊢;obtain ⟨cs,e,hr⟩:=hr;exact ⟨cs,e,zob hs hnew hrw hok hp hr⟩
 | .tup l,v,hok,hp,hr=>by
  simp only [zcj,vz,SV.plain,rel] at hok hp hr ⊢;obtain ⟨cs,e,hr⟩:=hr;exact ⟨cs,e,zob hs hnew hrw hok hp hr⟩
 | .b _,_,_,hp,hr=>yr (fun b o hb=>zg9 hs hb) hp hr
 | .i _ _,_,_,hp,hr=>yr (fun b o hb=>zg9 hs hb) hp hr
 | .s _,_,_,hp,hr=>yr (fun b o hb=>zg9 hs hb) hp hr
 | .ptr _ _ _,_,_,hp,hr=>yr (fun b o hb=>zg9 hs hb) hp hr
 | .nils,_,_,hp,hr=>yr (fun b o hb=>zg9 hs hb) hp hr
 | .mp _,_,_,hp,hr=>yr (fun b o hb=>zg9 hs hb) hp hr
 | .fn _,_,_,hp,hr=>yr (fun b o hb=>zg9 hs hb) hp hr
 | .gd _ _,_,_,hp,hr=>yr (fun b o hb=>zg9 hs hb) hp hr
 | .u,_,_,hp,hr=>yr (fun b o hb=>zg9 hs hb) hp hr
 | .fs _ _,_,_,hp,hr=>yr (fun b o hb=>zg9 hs hb) hp hr
 | .fp _ _,_,_,hp,hr=>yr (fun b o hb=>zg9 hs hb) hp hr
theorem zob {σ:Asg} {w:World} {n:Nat} {ctx:Ctx} (hs:Sat σ w ctx) (hnew:∀ h o L,ctx.at h=some o→o.ro=false→σ h=some L→n≤L.b) (hrw:∀ h o,ctx.at h=some o→o.ro=false) :
  ∀ {x:List SV} {v:List Value},jx ctx x→plainL (vn ctx x)=true→relL σ x v→relL ⟨fun _=>none,fun b=>if n≤b then w.heap[b]? else σ.fz b⟩ (vn ctx x) v
 | [],_,_,_,hr=>by simpa [relL,vn] using hr
 | x::xs,_,hok,hp,hr=>by simp only [relL,vn,plainL,jx,Bool.and_eq_true] at hok hp hr ⊢;obtain ⟨v,q,e,r1,r2⟩:=hr;exact ⟨v,q,e,z11 hs hnew hrw hok.1 hp.1 r1,zob hs hnew hrw hok.2 hp.2 r2⟩
end
/-! Functions on values without handles. -/
/-- What a function's rows hold at its end,frozen for good. -/
def FnZ (P:Program) (f:FuncId) (args:List SV) (z:SV):Prop:=FnK P f 0 args [] fun z' c=>vz c z'∧zcj c z'=z
/-- A function of values without handles that turns nothing. -/
def PF (P:Program) (f:FuncId) (args:List SV) (z:SV):Prop:=plainL args=true∧z.plain=true∧FnZ P f args z
theorem sat_nil (w:World) {fz:Nat→Option Obj} (h:∀ b o,fz b=some o→w.heap[b]?=some o) (hg:∀ b o,Glob.g b=some o→fz b=some o):Sat ⟨fun _=>none,fz⟩ w []:=
 ⟨fun h o e=>(by simp [Ctx.at] at e),fun h h' o o' L L' _ e=>(by simp [Ctx.at] at e),fun _ _=>rfl,fun _ _ e=>(by cases e),h,fun h o L e=>(by simp [Ctx.at] at e),hg⟩
theorem zde {σ:Asg} {b:Nat}:¬rwB [] σ b:=by rintro ⟨h,o,L,hh,_⟩;simp [Ctx.at] at hh
/-- Rows that nobody else zfr of,frozen for good as a function ends. -/
theorem zxx {pre:Ctx} {σ:Asg} {w:World} {z:SV} {v:Value} {c:Ctx} {σ':Asg} {w':World} (p:PostOK 0 pre σ w z v c σ' w') (hok:vz c z) (hp:(zcj c z).plain=true)
  (hall:pre=[]):∃ σ'',PostOK 0 pre σ w (zcj c z) v [] σ'' w':=by
 subst hall;have hfz:∀ b o,σ'.fz b=some o→w'.heap[b]?=some o:=p.sat.frz;refine ⟨⟨fun _=>none,fun b=>if w.heap.size≤b then w'.heap[b]? else σ'.fz b⟩, ?_, ?_,Nat.le_refl _,fun h hh=>absurd hh (Nat.not_lt_zero _),p.fr,fun h o L e=>by simp [Ctx.at] at e,fun h o _ e=>by simp [Ctx.at] at e,fun b o hb=>?_,fun b o hb=>?_⟩
 ·-- the value,by blocks that are new or were frozen
  exact z11 p.sat (fun h o L e r s=>(p.own h o L e r s).resolve_left zde) (fun h o e=>p.new h o (Nat.zero_le _) e) hok hp p.val
 ·refine ⟨fun h o e=>(by simp [Ctx.at] at e),fun h h' o o' L L' _ e=>(by simp [Ctx.at] at e),fun _ _=>rfl,fun _ _ e=>(by cases e),fun b o hb=>?_,fun h o L e=>(by simp [Ctx.at] at e),fun b o hb=>?_⟩;simp only at hb;split at hb
  ·exact hb
  ·exact hfz b o hb
  have hb':=p.sat.glb b o hb;simp only;split
  ·exact hfz b o hb'
  ·exact hb'
 ·simp only;split
  ·exact hfz b o (p.fzb b o hb)
  ·exact p.fzb b o hb
 ·simp only at hb;split at hb
  ·rename_i h;exact .inr (.inr h)
  ·exact p.fzn b o hb
theorem PF.call {P:Program} {f:FuncId} {args:List SV} {z:SV} (h:PF P f args z):jv P f args z:=by
 obtain ⟨h1,h2,hb,h3⟩:=h;refine ⟨hb,h1,h2,fun fz w vs hfz hgl hargs=>?_⟩;refine (h3 w ⟨fun _=>none,fz⟩ vs (sat_nil w hfz hgl) hargs).mono fun e w' ⟨v,z',c,σ',e1,⟨e2,e3⟩,p⟩=>?_;subst e3;obtain ⟨σ'',p⟩:=zxx p e2 h2 rfl;exact ⟨v,σ''.fz,e1,yr (σ:=σ'') (σ':=⟨fun _=>none,σ''.fz⟩) (fun _ _ h=>h) h2 p.val,p.fr.mono fun b _ hb=>(zde hb).elim,p.fzb,p.sat.frz,
  fun b o hb=>(p.fzn b o hb).imp id fun h=>h.resolve_left zde⟩
/-- Objects as another function's numbers call them. -/
def SO.mapH (μ:Nat→Nat):SO→SO
 | .row r z n f=>.row r z n fun i=>jd μ (f i)
 | .blk r cs=>.blk r (jd μ cs)
 | o=>o
/-- 'o0' tells no more than 'o',up to the handles' numbers. -/
structure soLe (μ:Nat→Nat) (o0 o:SO):Prop where
 ro:o0.ro=false→o.ro=false
 isMap:o0.isMap=o.isMap
 sz:o0.sz=o.sz
 n:o0.n≤o.n
 ents:o0.ents=o.ents
 el:∀ i,i<o0.n→jd μ (o0.el i)=o.el i
/-- Handles of a callee,in the caller's numbers: 'l' those that it was handed,then the new ones. -/
def muL (l:List Nat) (m:Nat) (h:Nat):Nat:=match l[h]? with
 | some g=>g
 | none=>m+(h-l.length)
def ve (μ:Nat→Nat) (ctx:Ctx):List Nat→Ctx→Prop
 | [],[]=>True
 | g::l,o0::pre=>g<ctx.length∧(match o0 with
  | none=>False
  | some o0=>match ctx.at g with
   | some o=>soLe μ o0 o
   | none=>False)∧ve μ ctx l pre
 | _,_=>False
/-- What may be written is handed once only. -/
def once (l:List Nat) (pre:Ctx):Prop:=(pre.all fun o=>match o with | some x=>x.ro | none=>true)=true∨l.Nodup
def upd (μ:Nat→Nat):List Nat→Ctx→Ctx→Ctx→Ctx
 | g::l,some o::pre,x::c,ctx=>upd μ l pre c (if o.ro=false then ctx.set g (x.map (SO.mapH μ)) else ctx)
 | _::l,none::pre,_::c,ctx=>upd μ l pre c ctx
 | _,_,_,ctx=>ctx
theorem zo (x:Option SO) (c:Ctx) (h:Nat):Ctx.at (x::c) (h+1)=Ctx.at c h:=by simp [Ctx.at]
theorem zq (x:Option SO) (c:Ctx):Ctx.at (x::c) 0=x:=by simp [Ctx.at]
theorem z26 {c:Ctx} {i j:Nat} {x:Option SO}:Ctx.at (c.set i x) j=if i=j∧i<c.length then x else Ctx.at c j:=by
 simp only [Ctx.at,List.getD_eq_getElem?_getD,List.getElem?_set];by_cases h:i=j
 ·subst h;by_cases h2:i<c.length
  ·simp [h2]
  ·simp [h2,List.getElem?_eq_none (Nat.le_of_not_lt h2)]
 ·simp [h]
theorem zb8 (μ:Nat→Nat):∀ (l:List Nat) (pre c ctx:Ctx),(upd μ l pre c ctx).length=ctx.length
 | [],_,_,_=>by simp [upd]
 | _::_,[],_,_=>by simp [upd]
 | _::_,some _::_,[],_=>by simp [upd]
 | _::_,none::_,[],_=>by simp [upd]
 | g::l,some o::pre,x::c,ctx=>by
  simp only [upd];rw [zb8 μ l pre c];split<;>simp
 | g::l,none::pre,x::c,ctx=>by simp only [upd];rw [zb8 μ l pre c]
theorem zt6 (μ:Nat→Nat) (g:Nat):∀ (l:List Nat) (pre c ctx:Ctx),(∀ h o,l[h]?=some g→Ctx.at pre h=some o→o.ro=true)→Ctx.at (upd μ l pre c ctx) g=Ctx.at ctx g
 | [],_,_,_,_=>by simp [upd]
 | _::_,[],_,_,_=>by simp [upd]
 | _::_,some _::_,[],_,_=>by simp [upd]
 | _::_,none::_,[],_,_=>by simp [upd]
 | g'::l,some o::pre,x::c,ctx,hh=>by
  simp only [upd];rw [zt6 μ g l pre c _ fun h o h1 h2=>hh (h+1) o (by simpa using h1) (by rw [zo];exact h2)];split
  ·rename_i hro;rw [z26];rw [if_neg];rintro ⟨rfl,_⟩;have:=hh 0 o rfl (zq _ _);rw [hro] at this;cases this
  ·rfl
 | g'::l,none::pre,x::c,ctx,hh=>by simp only [upd];exact zt6 μ g l pre c _ fun h o h1 h2=>hh (h+1) o (by simpa using h1) (by rw [zo];exact h2)
theorem zyt (μ:Nat→Nat) {g:Nat} {o:SO} (hro:o.ro=false):∀ (l:List Nat) (pre c ctx:Ctx) (h:Nat),l.Nodup→l[h]?=some g→Ctx.at pre h=some o→g<ctx.length→h<c.length→Ctx.at (upd μ l pre c ctx) g=(Ctx.at c h).map (SO.mapH μ)
 | [],_,_,_,h,_,h1,_,_,_=>by simp at h1
 | _::_,[],_,_,h,_,_,h2,_,_=>by simp [Ctx.at] at h2
 | _::_,some _::_,[],_,h,_,_,_,_,h4=>by simp at h4
 | _::_,none::_,[],_,h,_,_,_,_,h4=>by simp at h4
 | g'::l,some o'::pre,x::c,ctx,0,hn,h1,h2,h3,h4=>by
  simp only [upd];simp at h1;subst h1;rw [zq] at h2;cases h2;rw [zt6 μ g' l pre c _ fun h o h1 h2=>?_]
  ·rw [if_pos hro,z26,if_pos ⟨rfl,h3⟩,zq]
  ·rw [List.nodup_cons] at hn;exact absurd (List.mem_of_getElem? h1) hn.1
 | g'::l,none::pre,x::c,ctx,0,hn,h1,h2,h3,h4=>by
  rw [zq] at h2;cases h2
 | g'::l,some o'::pre,x::c,ctx,h+1,hn,h1,h2,h3,h4=>by
  simp only [upd];rw [zo] at h2;rw [zo];rw [List.nodup_cons] at hn;exact zyt μ hro l pre c _ h hn.2 (by simpa using h1) h2 (by split<;>simpa using h3) (by simpa using h4)
 | g'::l,none::pre,x::c,ctx,h+1,hn,h1,h2,h3,h4=>by simp only [upd];rw [zo] at h2;rw [zo];rw [List.nodup_cons] at hn;exact zyt μ hro l pre c _ h hn.2 (by simpa using h1) h2 h3 (by simpa using h4)
def jw (μ:Nat→Nat) (l:List Nat) (pre c ctx:Ctx):Ctx:=upd μ l pre c ctx++(c.drop pre.length).map fun o=>o.map (SO.mapH μ)
theorem zft {μ:Nat→Nat} {ctx:Ctx}:∀ {l:List Nat} {pre:Ctx},ve μ ctx l pre→l.length=pre.length∧∀ h g,l[h]?=some g→g<ctx.length∧(Ctx.at pre h).isSome=true∧∀ o0,Ctx.at pre h=some o0→∃ o,ctx.at g=some o∧soLe μ o0 o
 | [],[],_=>⟨rfl,fun h g hg=>by simp at hg⟩
 | g::l,o0::pre,hm=>by
  simp only [ve] at hm;obtain ⟨h1,h2,h3⟩:=hm;obtain ⟨hl,hh⟩:=zft h3;refine ⟨by simp [hl],fun h g' hg=>?_⟩;cases h with
  | zero=>
   simp at hg;subst hg;refine ⟨h1,by rw [zq];cases o0 with | none=>exact h2.elim | some _=>rfl,fun o0' ho=>?_⟩;rw [zq] at ho;subst ho;simp only at h2;split at h2
   ·rename_i o e;exact ⟨o,e,h2⟩
   ·exact h2.elim
  | succ h=>
   rw [zo];exact hh h g' (by simpa using hg)
 | [],_::_,h=>by simp [ve] at h
 | _::_,[],h=>by simp [ve] at h
theorem entsRel_le {σ:Asg} {a b:List (SV×SV)} (h:a=b) {es:List MapEntry} (r:qo σ b es):qo σ a es:=h▸r
theorem zml (μ:Nat→Nat) (l:List SV) (k:Nat):(jd μ l).getD k .u=(l.getD k .u).mapH μ:=by rw [zn5];simp only [List.getD_eq_getElem?_getD,List.getElem?_map];cases l[k]?<;>simp [SV.mapH]
theorem SO.ents_mapH (μ:Nat→Nat) (o:SO):(o.mapH μ).ents=o.ents:=by cases o<;>rfl
theorem SO.ro_mapH (μ:Nat→Nat) (o:SO):(o.mapH μ).ro=o.ro:=by cases o<;>rfl
theorem SO.isMap_mapH (μ:Nat→Nat) (o:SO):(o.mapH μ).isMap=o.isMap:=by cases o<;>rfl
theorem SO.n_mapH (μ:Nat→Nat) (o:SO):(o.mapH μ).n=o.n:=by cases o<;>rfl
theorem SO.sz_mapH (μ:Nat→Nat) (o:SO):(o.mapH μ).sz=o.sz:=by cases o<;>simp [SO.mapH,SO.sz,zn5]
theorem SO.el_mapH (μ:Nat→Nat) (o:SO) (i:Nat):(o.mapH μ).el i=jd μ (o.el i):=by cases o<;>simp [SO.mapH,SO.el,jd]
theorem zcf {σ σ':Asg}:∀ {l:List (SV×SV)} {es:List MapEntry},(∀ p∈l,p.1.bit=true∧p.2.bit=true)→qo σ l es→qo σ' l es
 | [],_,_,h=>by simpa [qo] using h
 | p::ps,es,hp,h=>by simp only [qo] at h ⊢;obtain ⟨e,r,h1,h2,h3,h4⟩:=h;exact ⟨e,r,h1,zbe (hp p (by simp)).1 h2,zbe (hp p (by simp)).2 h3,zcf (fun q hq=>hp q (by simp [hq])) h4⟩
theorem SO.ents_isPlain (o:SO):∀ p∈o.ents,p.1.bit=true∧p.2.bit=true:=by
 cases o<;>simp [SO.ents]
 all_goals (intros;subst_vars;simp [SV.bit])
/-- An object that lies under 'σ (μ h)' is told under the caller's number 'μ h',and the other way about. -/
theorem zqd {σ σ0:Asg} {μ:Nat→Nat} (hσ:∀ h,σ (μ h)=σ0 h) (hfz:σ0.fz=σ.fz) {w:World} {h:Nat} {o:SO} (hs:qc σ0 w h o):qc σ w (μ h) (o.mapH μ):=by
 have e:σ0=σ.ren μ:=by obtain ⟨l0,f0⟩:=σ0;simp only [Asg.ren,Asg.mk.injEq];exact ⟨funext fun h=>(hσ h).symm,hfz⟩
 unfold qc at hs ⊢;rw [SO.isMap_mapH];cases hm:o.isMap with
 | true=>
  rw [hm] at hs;obtain ⟨L,es,ck,h1,h2,h3⟩:=hs;refine ⟨L,es,ck,(hσ h).trans h1,h2, ?_⟩;rw [SO.ents_mapH];exact zcf o.ents_isPlain h3
 | false=>
  rw [hm] at hs;rcases hs with ⟨h1,h2⟩ | ⟨L,c,el,fr,h1,h2⟩
  ·exact .inl ⟨by rw [SO.n_mapH];exact h1,(hσ h).trans h2⟩
  ·refine .inr ⟨L,c,el,fr,(hσ h).trans h1,h2.heap,by rw [SO.sz_mapH];exact h2.lsz,h2.room,by rw [SO.n_mapH,SO.sz_mapH];exact h2.fits,fun i k hi hk=>?_,fun hr=>h2.free (by rw [SO.ro_mapH] at hr;exact hr)⟩;rw [SO.n_mapH] at hi;rw [SO.sz_mapH] at hk;obtain ⟨v,hv,hrel⟩:=h2.cell i k hi hk;rw [SO.sz_mapH];refine ⟨v,hv, ?_⟩;rw [SO.el_mapH,zml,v7];exact e▸hrel
theorem zi0 {σ σ0:Asg} {μ:Nat→Nat} (hσ:∀ h,σ (μ h)=σ0 h) (hfz:σ0.fz=σ.fz) {w:World} {h:Nat} {o0 o:SO} (hle:soLe μ o0 o) (hs:qc σ w (μ h) o):qc σ0 w h o0:=by
 have e:σ0=σ.ren μ:=by obtain ⟨l0,f0⟩:=σ0;simp only [Asg.ren,Asg.mk.injEq];exact ⟨funext fun h=>(hσ h).symm,hfz⟩
 unfold qc at hs ⊢;rw [hle.isMap];cases hm:o.isMap with
 | true=>
  rw [hm] at hs;obtain ⟨L,es,ck,h1,h2,h3⟩:=hs;refine ⟨L,es,ck,(hσ h).symm.trans h1,h2, ?_⟩;rw [hle.ents];exact zcf o.ents_isPlain h3
 | false=>
  rw [hm] at hs;rcases hs with ⟨h1,h2⟩ | ⟨L,c,el,fr,h1,h2⟩
  ·exact .inl ⟨by have:=hle.n;omega,(hσ h).symm.trans h2⟩
  ·refine .inr ⟨L,c,el,fr,(hσ h).symm.trans h1,h2.heap,by rw [hle.sz];exact h2.lsz,h2.room,by rw [hle.sz];exact Nat.le_trans (Nat.mul_le_mul_right _ hle.n) h2.fits,fun i k hi hk=>?_,fun hr=>h2.free (hle.ro hr)⟩;rw [hle.sz] at hk;obtain ⟨v,hv,hrel⟩:=h2.cell i k (Nat.lt_of_lt_of_le hi hle.n) hk;rw [hle.sz];refine ⟨v,hv, ?_⟩;rw [←hle.el i hi,zml,v7] at hrel;exact e▸hrel
end Go.Vg
end
section
namespace Go.Vg
variable [Go.Vg.Glob]
open Go.RowKit
theorem z27 (a b:Ctx) (g:Nat):Ctx.at (a++b) g=if g<a.length then Ctx.at a g else Ctx.at b (g-a.length):=by simp only [Ctx.at,List.getD_eq_getElem?_getD,List.getElem?_append];split<;>rfl
theorem zta (μ:Nat→Nat) (c:Ctx) (k j:Nat):Ctx.at ((c.drop k).map fun o=>o.map (SO.mapH μ)) j=(Ctx.at c (k+j)).map (SO.mapH μ):=by simp only [Ctx.at,List.getD_eq_getElem?_getD,List.getElem?_map,List.getElem?_drop];cases c[k+j]?<;>simp
-- Values that do not speak of some handles.
mutual
def noH (B:List Nat):SV→Bool
 | .ptr h _ _=>!B.contains h
 | .slc h _ _=>!B.contains h
 | .mp h=>!B.contains h
 | .agg l=>zdk B l
 | .tup l=>zdk B l
 | .gd _ x=>noH B x
 | _=>true
def zdk (B:List Nat):List SV→Bool
 | []=>true
 | x::xs=>noH B x&&zdk B xs
end
theorem zn2 {B:List Nat}:∀ {l:List SV},zdk B l=true→∀ k,noH B (l.getD k .u)=true
 | [],_,k=>by simp [noH]
 | x::xs,h,k=>by
  simp only [zdk,Bool.and_eq_true] at h;cases k with
  | zero=>simpa using h.1
  | succ k=>simpa using zn2 h.2 k
mutual
theorem zsm:∀ (x:SV),noH [] x=true
 | .ptr _ _ _=>by simp [noH]
 | .slc _ _ _=>by simp [noH]
 | .mp _=>by simp [noH]
 | .agg l=>by simp only [noH];exact zap l
 | .tup l=>by simp only [noH];exact zap l
 | .gd _ x=>by simp only [noH];exact zsm x
 | .b _=>rfl
 | .i _ _=>rfl
 | .s _=>rfl
 | .nils=>rfl
 | .fn _=>rfl
 | .u=>rfl
 | .fs _ _=>rfl
 | .fp _ _=>rfl
theorem zap:∀ (x:List SV),zdk [] x=true
 | []=>rfl
 | x::xs=>by simp only [zdk,zsm x,zap xs,Bool.and_self]
end
mutual
theorem znm {σ σ':Asg} {B:List Nat} (h1:∀ h L,B.contains h=false→σ h=some L→σ' h=some L) (h2:∀ b o,σ.fz b=some o→σ'.fz b=some o):∀ {x:SV} {v:Value},noH B x=true→rel σ x v→rel σ' x v
 | .b _,_,_,r=>by simpa [rel] using r
 | .i _ _,_,_,r=>by simpa [rel] using r
 | .s _,_,_,r=>by simpa [rel] using r
 | .nils,_,_,r=>by simpa [rel] using r
 | .fn _,_,_,r=>by simpa [rel] using r
 | .u,_,_,r=>by simp [rel]
 | .ptr _ _ _,_,h,r=>by
  simp only [noH,Bool.not_eq_true'] at h;simp only [rel] at r ⊢;obtain ⟨L,e,r⟩:=r;exact ⟨L,h1 _ _ h e,r⟩
 | .slc _ _ _,_,h,r=>by
  simp only [noH,Bool.not_eq_true'] at h;simp only [rel] at r ⊢;obtain ⟨a,cap,e,hl,r⟩:=r;exact ⟨a,cap,e,hl,r.imp id fun ⟨L,e,r⟩=>⟨L,h1 _ _ h e,r⟩⟩
 | .mp _,_,h,r=>by
  simp only [noH,Bool.not_eq_true'] at h;simp only [rel] at r ⊢;obtain ⟨L,e,r⟩:=r;exact ⟨L,h1 _ _ h e,r⟩
 | .fs sz l,_,_,r=>yr h2 (x:=.fs sz l) rfl r
 | .fp l k,_,_,r=>yr h2 (x:=.fp l k) rfl r
 | .agg l,_,h,r=>by
  simp only [rel,noH] at r h ⊢;obtain ⟨cs,e,r⟩:=r;exact ⟨cs,e,znn h1 h2 h r⟩
 | .tup l,_,h,r=>by
  simp only [rel,noH] at r h ⊢;obtain ⟨cs,e,r⟩:=r;exact ⟨cs,e,znn h1 h2 h r⟩
 | .gd _ x,_,h,r=>by simp only [rel,noH] at r h ⊢;exact ⟨fun g=>znm h1 h2 h (r.1 g),r.2⟩
theorem znn {σ σ':Asg} {B:List Nat} (h1:∀ h L,B.contains h=false→σ h=some L→σ' h=some L) (h2:∀ b o,σ.fz b=some o→σ'.fz b=some o):∀ {x:List SV} {v:List Value},zdk B x=true→relL σ x v→relL σ' x v
 | [],_,_,r=>by simpa [relL] using r
 | _::_,_,h,r=>by simp only [relL,zdk,Bool.and_eq_true] at r h ⊢;obtain ⟨v,q,e,r1,r2⟩:=r;exact ⟨v,q,e,znm h1 h2 h.1 r1,znn h1 h2 h.2 r2⟩
end
def vf (B:List Nat):SO→Prop
 | .row _ _ n f=>∀ i,i<n→zdk B (f i)=true
 | .blk _ cs=>zdk B cs=true
 | _=>True
theorem zxl {σ σ':Asg} {B:List Nat} (h1:∀ h L,B.contains h=false→σ h=some L→σ' h=some L) (h2:∀ b o,σ.fz b=some o→σ'.fz b=some o) {w w':World} {h:Nat} {o:SO} (hcl:vf B o) (hh:σ' h=σ h)
  (hb:∀ L,σ h=some L→w'.heap[L.b]?=w.heap[L.b]?) (hs:qc σ w h o):qc σ' w' h o:=by
 unfold qc at *;cases hm:o.isMap with
 | true=>
  rw [hm] at hs;obtain ⟨L,es,ck,g1,g2,g3⟩:=hs;exact ⟨L,es,ck,hh.trans g1,(hb L g1).trans g2,zcf o.ents_isPlain g3⟩
 | false=>
  rw [hm] at hs;rcases hs with ⟨g1,g2⟩ | ⟨L,c,e,fr,g1,g2⟩
  ·exact .inl ⟨g1,hh.trans g2⟩
  ·refine .inr ⟨L,c,e,fr,hh.trans g1,⟨(hb L g1).trans g2.heap,g2.lsz,g2.room,g2.fits,fun i k hi hk=>?_,g2.free⟩⟩;obtain ⟨v,e1,e2⟩:=g2.cell i k hi hk;refine ⟨v,e1,znm h1 h2 ?_ e2⟩;cases o with
   | row ro sz n f=>exact zn2 (hcl i hi) k
   | blk ro cs=>exact zn2 hcl k
   | mapS l=>cases hm
   | mapI l=>cases hm
/-- Handles that the callee may have written. -/
def zdm:List Nat→Ctx→List Nat
 | g::l,some o::pre=>if o.ro then zdm l pre else g::zdm l pre
 | _::l,none::pre=>zdm l pre
 | _,_=>[]
theorem zhg:∀ {l:List Nat} {pre:Ctx} {g:Nat},g∈zdm l pre→∃ h o,l[h]?=some g∧Ctx.at pre h=some o∧o.ro=false
 | [],_,g,h=>by simp [zdm] at h
 | _::_,[],g,h=>by simp [zdm] at h
 | g'::l,some o::pre,g,h=>by
  simp only [zdm] at h;split at h
  ·obtain ⟨j,p,h1,h2,h3⟩:=zhg h;exact ⟨j+1,p,by simpa using h1,by rw [zo];exact h2,h3⟩
  ·rename_i hro;rcases List.mem_cons.1 h with rfl | h
   ·exact ⟨0,o,rfl,zq _ _,by simpa using hro⟩
   ·obtain ⟨j,p,h1,h2,h3⟩:=zhg h;exact ⟨j+1,p,by simpa using h1,by rw [zo];exact h2,h3⟩
 | g'::l,none::pre,g,h=>by simp only [zdm] at h;obtain ⟨j,p,h1,h2,h3⟩:=zhg h;exact ⟨j+1,p,by simpa using h1,by rw [zo];exact h2,h3⟩
def jf (B U:List Nat):Nat→Ctx→Prop
 | _,[]=>True
 | i,o::r=>(U.contains i=true∨match o with | some o=>vf B o | none=>True)∧jf B U (i+1) r
theorem cleanC_get {B U:List Nat}:∀ {c:Ctx} {i g:Nat} {o:SO},jf B U i c→Ctx.at c g=some o→U.contains (i+g)=true∨vf B o
 | [],i,g,o,_,e=>by simp [Ctx.at] at e
 | x::r,i,0,o,h,e=>by
  rw [zq] at e;subst e;exact h.1
 | x::r,i,g+1,o,h,e=>by rw [zo] at e;have:=cleanC_get h.2 e;rwa [show i+1+g=i+(g+1) from by omega] at this
theorem zx0 (o:SO):vf [] o:=by
 cases o with
 | row ro sz n f=>exact fun i _=>zap _
 | blk ro cs=>exact zap _
 | _=>trivial
theorem zab {U:List Nat}:∀ {i:Nat} {c:Ctx},jf [] U i c
 | _,[]=>trivial
 | i,o::r=>⟨.inr (by cases o<;>first | trivial | exact zx0 _),zab⟩
def zbu (B:List Nat) (env:List (Tmp×SV)):List (Tmp×SV):=env.map fun p=>(p.1,if noH B p.2 then p.2 else .u)
theorem look_maskE {B:List Nat}:∀ (env:List (Tmp×SV)) (t:Tmp),(look (zbu B env) t=look env t∧noH B (look env t)=true)∨look (zbu B env) t=.u
 | [],t=>.inr rfl
 | (u,x)::r,t=>by
  simp only [zbu,List.map_cons,look];by_cases h:u=t
  ·rw [if_pos h,if_pos h];by_cases hx:noH B x=true
   ·rw [if_pos hx];exact .inl ⟨rfl,hx⟩
   ·rw [if_neg hx];exact .inr rfl
  ·rw [if_neg h,if_neg h];exact look_maskE r t
theorem zen (env:List (Tmp×SV)):zbu [] env=env:=by unfold zbu;simp [zsm]
theorem zhb.of {P:Program} {f:FuncId} {k:Nat} {args0:List SV} {pre:Ctx} {Q0:SV→Ctx→Prop} (hF:FnK P f k args0 pre Q0) {args:List SV} {kk:Nat} {st:St} (l:List Nat) {K:SV→St→Prop}
  (hargs:args=jd (muL l st.ctx.length) args0) (hmap:ve (muL l st.ctx.length) st.ctx l pre) (honce:once l pre) (hrw:z6 k pre) (hfix:(l.drop k).all (fun g=>decide (kk≤g))=true) (hnd:l.drop k=[]∨l.Nodup)
  (hclean:jf (l.drop k) (zdm l pre) 0 st.ctx)
  (hK:∀ z0 c0,Q0 z0 c0→K (z0.mapH (muL l st.ctx.length)) ⟨zbu (l.drop k) st.env,jw (muL l st.ctx.length) l pre c0 st.ctx⟩):zhb P f args kk st K:=by
 obtain ⟨hb,hF⟩:=hF;refine ⟨hb,fun A σ a w vs hAk hgr hR hvs=>?_⟩;obtain ⟨hlen,hget⟩:=zft hmap;generalize hμ:muL l st.ctx.length=μ at *;have μold:∀ h g,l[h]?=some g→μ h=g:=by intro h g hg;rw [←hμ];simp [muL,hg]
 have μnew:∀ h,pre.length≤h→μ h=st.ctx.length+(h-pre.length):=by intro h hh;rw [←hμ,←hlen];simp [muL,List.getElem?_eq_none (show l.length≤h by omega)]
 have lget:∀ h,h<pre.length→∃ g,l[h]?=some g∧g<st.ctx.length:=by
  intro h hh;have:h<l.length:=by omega
  exact ⟨l[h],List.getElem?_eq_getElem this,(hget h _ (List.getElem?_eq_getElem this)).1⟩
 -- the handles that are bound anew
 have inB:∀ g,(l.drop k).contains g=true↔∃ i,k≤i∧l[i]?=some g:=by
  intro g;rw [List.contains_iff_mem,List.mem_iff_getElem?];constructor
  ·rintro ⟨i,hi⟩;rw [List.getElem?_drop] at hi;exact ⟨k+i,by omega,hi⟩
  ·rintro ⟨i,hi,hg⟩;exact ⟨i-k,by rw [List.getElem?_drop,show k+(i-k)=i by omega];exact hg⟩
 have kinj:∀ i j g,k≤i→l[i]?=some g→l[j]?=some g→i=j:=by
  intro i j g hi h1 h2;rcases hnd with hnd | hnd
  ·have:(l.drop k).contains g=true:=(inB g).2 ⟨i,hi,h1⟩;rw [hnd] at this;simp at this
  ·obtain ⟨a1,a2⟩:=List.getElem?_eq_some_iff.1 h1;obtain ⟨b1,b2⟩:=List.getElem?_eq_some_iff.1 h2;exact List.getElem_inj (h₀:=a1) (h₁:=b1) hnd |>.1 (a2.trans b2.symm)
 let σc:Asg:=σ.ren μ
 have σceq:∀ h,σc h=σ (μ h):=fun _=>rfl;have σcnew:∀ h,pre.length≤h→σc h=none:=by intro h hh;show σ (μ h)=none;rw [μnew h hh];exact hR.sat.beyond _ (by omega)
 have preInfo:∀ h o0,pre.at h=some o0→∃ g o,l[h]?=some g∧μ h=g∧g<st.ctx.length∧st.ctx.at g=some o∧soLe μ o0 o:=by intro h o0 ho;obtain ⟨g,hg,hlt⟩:=lget h (zrl ho);obtain ⟨o,h1,h2⟩:=(hget h g hg).2.2 o0 ho;exact ⟨g,o,hg,μold h g hg,hlt,h1,h2⟩
 have inj:∀ h h' g o,pre.at h=some o→o.ro=false→l[h]?=some g→l[h']?=some g→h=h':=by
  intro h h' g o h1 h2 h3 h4;rcases honce with hall | hnd
  ·rw [List.all_eq_true] at hall;have:=hall (some o) (by have hlt:=zrl h1;refine List.mem_of_getElem? (i:=h) ?_;rw [Ctx.at,List.getD_eq_getElem?_getD,List.getElem?_eq_getElem hlt] at h1;rw [List.getElem?_eq_getElem hlt];simpa using h1)
   simp only at this;rw [h2] at this;cases this
  ·obtain ⟨a1,a2⟩:=List.getElem?_eq_some_iff.1 h3;obtain ⟨b1,b2⟩:=List.getElem?_eq_some_iff.1 h4;exact List.getElem_inj (h₀:=a1) (h₁:=b1) hnd |>.1 (a2.trans b2.symm)
 have hsat:Sat σc w pre:=by
  refine ⟨fun h o0 ho=>?_,fun h h' o o' L L' hne e1 e2 hro s1 s2=>?_,σcnew,fun h L hL=>hR.sat.inHeap _ L hL,hR.sat.frz,fun h o L e hro s=>?_,hR.sat.glb⟩
  ·obtain ⟨g,o,hg,hm,hlt,h1,h2⟩:=preInfo h o0 ho;exact zi0 (σ:=σ) (σ0:=σc) (μ:=μ) (fun _=>rfl) rfl h2 (by rw [hm];exact hR.sat.obj g o h1)
  ·obtain ⟨g,p,hg,hm,hlt,h1,h2⟩:=preInfo h o e1;obtain ⟨g',p',hg',hm',hlt',h1',h2'⟩:=preInfo h' o' e2;refine hR.sat.apart g g' p p' L L' (fun e=>hne ?_) h1 h1' (h2.ro hro) (by rw [←hm];exact s1) (by rw [←hm'];exact s2);subst e;exact inj h h' g o e1 hro hg hg'
  ·obtain ⟨g,p,hg,hm,hlt,h1,h2⟩:=preInfo h o e;exact hR.sat.frzA g p L h1 (h2.ro hro) (by rw [←hm];exact s)
 have hvs':relL σc args0 vs.toList:=by rw [hargs] at hvs;exact (zdv σ μ args0 vs.toList).1 hvs
 refine (hF w σc vs hsat hvs').mono fun e w' ⟨v,z0,c0,σ0,e1,e2,p⟩=>?_
 -- blocks of caller's objects that the callee may not write
 have keepB:∀ g o L,st.ctx.at g=some o→(∀ h o0,l[h]?=some g→pre.at h=some o0→o0.ro=true)→σ g=some L→¬rwB pre σc L.b:=by
  intro g o L ho hn hL ⟨h,o0,L',h1,h2,h3,h4⟩;obtain ⟨g',p',hg',hm',hlt',h1',h2'⟩:=preInfo h o0 h1;have hne:g'≠g:=by intro he;subst he;rw [hn h o0 hg' h1] at h2;cases h2
  exact hR.sat.apart g' g p' o L' L hne h1' ho (h2'.ro h2) (by rw [←hm'];exact h3) hL h4
 classical
 let loc':Nat→Option Loc:=fun g=>if g<st.ctx.length then (if h:∃ i,k≤i∧l[i]?=some g then σ0 (Classical.choose h) else σ g) else σ0 (pre.length+(g-st.ctx.length))
 let σ':Asg:=⟨loc',σ0.fz⟩
 have old:∀ g,g<st.ctx.length→(l.drop k).contains g=false→σ' g=σ g:=by intro g hg hB;show loc' g=σ g;simp only [loc',if_pos hg];rw [dif_neg];intro hx;rw [(inB g).2 hx] at hB;cases hB
 have hσ:∀ h,σ' (μ h)=σ0 h:=by
  intro h;show loc' (μ h)=σ0 h;by_cases hh:h<pre.length
  ·obtain ⟨g,hg,hlt⟩:=lget h hh;rw [μold h g hg];simp only [loc',if_pos hlt];by_cases hx:∃ i,k≤i∧l[i]?=some g
   ·rw [dif_pos hx];obtain ⟨q1,q2⟩:=Classical.choose_spec hx;rw [kinj _ h g q1 q2 hg]
   ·rw [dif_neg hx];have hk:h<k:=by
     rcases Nat.lt_or_ge h k with h' | h'
     ·exact h'
     ·exact absurd ⟨h,h',hg⟩ hx
    rw [p.base h hk];show σ g=σ (μ h);rw [μold h g hg]
  ·rw [μnew h (by omega)];simp only [loc'];rw [if_neg (by omega)];congr 1;omega
 have fzup:∀ b o,σ.fz b=some o→σ'.fz b=some o:=p.fzb;have up:∀ h L,(l.drop k).contains h=false→σ h=some L→σ' h=some L:=by
  intro g L hB hL;have:g<st.ctx.length:=by
   rcases Nat.lt_or_ge g st.ctx.length with h' | h'
   ·exact h'
   ·rw [hR.sat.beyond g h'] at hL;cases hL
  rw [old g this hB];exact hL
 -- what stands under a number of the caller
 let ctx':=jw μ l pre c0 st.ctx
 have clen:ctx'.length=st.ctx.length+(c0.length-pre.length):=by show (upd μ l pre c0 st.ctx++_).length=_;simp [zb8]
 have cases':∀ g o,ctx'.at g=some o→(∃ h o',μ h=g∧c0.at h=some o'∧o=o'.mapH μ∧(o'.ro=false∨h<k)) ∨
   (g<st.ctx.length∧st.ctx.at g=some o∧(∀ h o0,l[h]?=some g→pre.at h=some o0→o0.ro=true)∧(l.drop k).contains g=false):=by
  intro g o ho;have ho':Ctx.at (upd μ l pre c0 st.ctx++(c0.drop pre.length).map fun o=>o.map (SO.mapH μ)) g=some o:=ho;rw [z27,zb8] at ho';split at ho'
  ·rename_i hg;by_cases hx:∃ h o0,l[h]?=some g∧pre.at h=some o0∧o0.ro=false
   ·obtain ⟨h,o0,h1,h2,h3⟩:=hx;have hnd:l.Nodup:=by
     rcases honce with hall | hnd
     ·rw [List.all_eq_true] at hall;have:=hall (some o0) (by have hlt:=zrl h2;refine List.mem_of_getElem? (i:=h) ?_;rw [Ctx.at,List.getD_eq_getElem?_getD,List.getElem?_eq_getElem hlt] at h2;rw [List.getElem?_eq_getElem hlt];simpa using h2)
      simp only at this;rw [h3] at this;cases this
     ·exact hnd
    rw [zyt μ h3 l pre c0 st.ctx h hnd h1 h2 hg (Nat.lt_of_lt_of_le (zrl h2) p.len)] at ho';cases hc:c0.at h with
    | none=>rw [hc] at ho';simp at ho'
    | some o' =>
     rw [hc] at ho';simp at ho';refine .inl ⟨h,o',μold h g h1,hc,ho'.symm, ?_⟩;rcases Nat.lt_or_ge h k with h' | h'
     ·exact .inr h'
     ·exact .inl (p.new h o' h' hc)
   ·have hx':∀ h o0,l[h]?=some g→pre.at h=some o0→o0.ro=true:=by
     intro h o0 h1 h2;cases h3:o0.ro with
     | true=>rfl
     | false=>exact absurd ⟨h,o0,h1,h2,h3⟩ hx
    rw [zt6 μ g l pre c0 st.ctx hx'] at ho';refine .inr ⟨hg,ho',hx', ?_⟩;cases hB:(l.drop k).contains g with
    | false=>rfl
    | true=>
     obtain ⟨i,hi,hgi⟩:=(inB g).1 hB;have hs:=(hget i g hgi).2.1;cases hp:pre.at i with
     | none=>rw [hp] at hs;cases hs
     | some o0=>have:=hrw.get hi hp;rw [hx' i o0 hgi hp] at this;cases this
  ·rename_i hg;rw [zta] at ho';cases hc:c0.at (pre.length+(g-st.ctx.length)) with
   | none=>rw [hc] at ho';simp at ho'
   | some o' =>
    rw [hc] at ho';simp at ho';refine .inl ⟨_,o', ?_,hc,ho'.symm, ?_⟩
    ·rw [μnew _ (by omega)];omega
    ·rcases Nat.lt_or_ge (pre.length+(g-st.ctx.length)) k with h' | h'
     ·exact .inr h'
     ·exact .inl (p.new _ o' h' hc)
 have ownE:∀ g o L,ctx'.at g=some o→o.ro=false→σ' g=some L→A.D L.b∨A.w0.heap.size≤L.b:=by
  intro g o L ho hro hL;rcases cases' g o ho with ⟨h,o',hm,hc,rfl,_⟩ | ⟨hg,ho2,_,hB⟩
  ·rw [SO.ro_mapH] at hro;rw [←hm,hσ] at hL;rcases p.own h o' L hc hro hL with ⟨h2,o0,L',q1,q2,q3,q4⟩ | hnew
   ·obtain ⟨g',p',hg',hm',hlt',h1',h2'⟩:=preInfo h2 o0 q1;have:=hR.own g' p' L' h1' (h2'.ro q2) (by rw [←hm'];exact q3);rwa [q4] at this
   ·exact .inr (Nat.le_trans hR.fr.size hnew)
  ·rw [old g hg hB] at hL;exact hR.own g o L ho2 hro hL
 have foreign:∀ g o L,st.ctx.at g=some o→(∀ h o0,l[h]?=some g→pre.at h=some o0→o0.ro=true)→σ g=some L→∀ b,(rwB pre σc b∨w.heap.size≤b)→L.b≠b:=by
  intro g o L ho hn hL b hb he;subst he;rcases hb with hb | hb
  ·exact keepB g o L ho hn hL hb
  ·have:=hR.sat.inHeap g L hL;omega
 have hren:σ0=σ'.ren μ:=by
  show σ0=⟨fun h=>σ' (μ h),σ0.fz⟩
  obtain ⟨l0,f0⟩:=σ0;simp only [Asg.mk.injEq,and_true];exact funext fun h=>(hσ h).symm
 refine ⟨v,z0.mapH μ,⟨zbu (l.drop k) st.env,ctx'⟩,σ',e1,hK z0 c0 e2, ?_, ?_⟩
 ·rw [v7,←hren];exact p.val
 ·refine ⟨hR.defers,hR.size,fun t=>?_,⟨fun g o ho=>?_,fun g1 g2 o1 o2 L1 L2 hne e1 e2 hro s1 s2=>?_,fun g hg=>?_,fun g L hL=>?_,p.sat.frz,fun g o L ho hro s=>?_,p.sat.glb⟩, ?_,ownE,⟨fun h hh=>?_,fun b o h=>p.fzb b o (hR.base.fzb b o h),fun b o h=>?_⟩, ?_⟩
  ·rcases look_maskE (B:=l.drop k) st.env t with ⟨h1,h2⟩ | h1
   ·show rel σ' (look (zbu (l.drop k) st.env) t) _;rw [h1];exact znm up fzup h2 (hR.env t)
   ·show rel σ' (look (zbu (l.drop k) st.env) t) _;rw [h1];simp [rel]
  ·rcases cases' g o ho with ⟨h,o',hm,hc,rfl,_⟩ | ⟨hg,ho2,hn,hB⟩
   ·rw [←hm];exact zqd hσ rfl (p.sat.obj h o' hc)
   ·have hcl:vf (l.drop k) o:=by
     rcases cleanC_get hclean ho2 with h | h
     ·rw [Nat.zero_add,List.contains_iff_mem] at h;obtain ⟨i,q,q1,q2,q3⟩:=zhg h;rw [hn i q q1 q2] at q3;cases q3
     ·exact h
    exact zxl up fzup hcl (old g hg hB) (fun L hL=>p.fr.block _ (hR.sat.inHeap g L hL) (keepB g o L ho2 hn hL)) (hR.sat.obj g o ho2)
  ·rcases cases' g1 o1 e1 with ⟨h1,o1',hm1,hc1,rfl,hk1⟩ | ⟨hg1,ho1,hn1,hB1⟩
   ·rw [SO.ro_mapH] at hro;rw [←hm1,hσ] at s1;rcases cases' g2 o2 e2 with ⟨h2,o2',hm2,hc2,rfl,hk2⟩ | ⟨hg2,ho2,hn2,hB2⟩
    ·rw [←hm2,hσ] at s2;refine p.sat.apart h1 h2 o1' o2' L1 L2 (fun e=>hne ?_) hc1 hc2 hro s1 s2;rw [←hm1,←hm2,e]
    ·rw [old g2 hg2 hB2] at s2;exact fun he=>foreign g2 o2 L2 ho2 hn2 s2 _ (p.own h1 o1' L1 hc1 hro s1) he.symm
   ·rw [old g1 hg1 hB1] at s1;rcases cases' g2 o2 e2 with ⟨h2,o2',hm2,hc2,rfl,hk2⟩ | ⟨hg2,ho2,hn2,hB2⟩
    ·rw [←hm2,hσ] at s2;rcases hk2 with hx | hlt
     ·exact foreign g1 o1 L1 ho1 hn1 s1 _ (p.own h2 o2' L2 hc2 hx s2)
     ·-- an object that stays where it lies
      rw [p.base h2 hlt] at s2;have s2':σ (μ h2)=some L2:=s2;rw [hm2] at s2';by_cases hp2:h2<pre.length
      ·obtain ⟨g',hg',hlt'⟩:=lget h2 hp2;have hgg:g'=g2:=by rw [←hm2,μold h2 g' hg']
       subst hgg;cases hp:pre.at h2 with
       | some o0=>
        obtain ⟨g'',p',hg'',hm'',hlt'',h1',h2'⟩:=preInfo h2 o0 hp;rw [hg'] at hg'';cases hg'';exact hR.sat.apart g1 g' o1 p' L1 L2 hne ho1 h1' hro s1 s2'
       | none=>have:=(hget h2 g' hg').2.1;rw [hp] at this;cases this
      ·have:=σcnew h2 (by omega);rw [σceq,hm2,s2'] at this;cases this
    ·rw [old g2 hg2 hB2] at s2;exact hR.sat.apart g1 g2 o1 o2 L1 L2 hne ho1 ho2 hro s1 s2
  ·have h1:ctx'.length≤g:=hg;rw [clen] at h1;show loc' g=none;simp only [loc'];rw [if_neg (by omega)];exact p.sat.beyond _ (by have:=p.len;omega)
  ·by_cases hg:g<st.ctx.length
   ·by_cases hB:(l.drop k).contains g=true
    ·obtain ⟨i,hi,hgi⟩:=(inB g).1 hB;have:σ' g=σ0 i:=by rw [←μold i g hgi];exact hσ i
     rw [this] at hL;exact p.sat.inHeap _ L hL
    ·rw [old g hg (by simpa using hB)] at hL;exact Nat.lt_of_lt_of_le (hR.sat.inHeap g L hL) p.fr.size
   ·have hL':σ0 (pre.length+(g-st.ctx.length))=some L:=by have:σ' g=σ0 (pre.length+(g-st.ctx.length)):=if_neg hg;rw [←this];exact hL
    exact p.sat.inHeap _ L hL'
  ·show σ0.fz L.b=none;rcases cases' g o ho with ⟨h,o',hm,hc,rfl,_⟩ | ⟨hg,ho2,hn,hB⟩
   ·rw [SO.ro_mapH] at hro;rw [←hm,hσ] at s;exact p.sat.frzA h o' L hc hro s
   ·rw [old g hg hB] at s;cases hz:σ0.fz L.b with
    | none=>rfl
    | some q=>
     rcases p.fzn _ _ hz with h4 | h4
     ·have h5:σ.fz L.b=some q:=h4;rw [hR.sat.frzA g o L ho2 hro s] at h5;cases h5
     ·exact absurd rfl (foreign g o L ho2 hn s _ h4)
  ·refine hR.fr.step p.fr fun b hb ⟨h,o0,L,h1,h2,h3,h4⟩=>?_;obtain ⟨g',p',hg',hm',hlt',h1',h2'⟩:=preInfo h o0 h1;rcases hR.own g' p' L h1' (h2'.ro h2) (by rw [←hm'];exact h3) with hx | hx
   ·rwa [h4] at hx
   ·omega
  ·have h1:h<st.ctx.length:=Nat.lt_of_lt_of_le hh hR.klen;have hB:(l.drop k).contains h=false:=by
    cases hB:(l.drop k).contains h with
    | false=>rfl
    | true=>rw [List.all_eq_true] at hfix;have:=hfix h (by simpa using hB);simp only [decide_eq_true_eq] at this;omega
   rw [old h h1 hB];exact hR.base.loc h hh
  ·rcases p.fzn b o h with h4 | ⟨h2,o0,L,q1,q2,q3,q4⟩ | h4
   ·exact hR.base.fzn b o h4
   ·obtain ⟨g',p',hg',hm',hlt',h1',h2'⟩:=preInfo h2 o0 q1;have:=hR.own g' p' L h1' (h2'.ro q2) (by rw [←hm'];exact q3);rw [q4] at this;exact .inr ⟨hgr,this⟩
   ·exact .inr ⟨hgr,.inr (Nat.le_trans hR.fr.size h4)⟩
  ·show A.k≤ctx'.length;rw [clen];have:=hR.klen;omega
end Go.Vg
end
