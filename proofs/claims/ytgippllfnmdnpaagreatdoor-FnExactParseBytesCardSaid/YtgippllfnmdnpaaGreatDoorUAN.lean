/- The reader of nodes in the flow style, in plain words. -/
import Derived.Test.YtgippllfnmdnpaaGreatDoorUAM
import Derived.Test.YtgippllfnmdnpaaGreatDoorUAC
import Derived.Test.YtgippllfnmdnpaaGreatDoorUAK
set_option linter.all false
section
namespace Go.Pl
open Go.Vg (lookS zaw)
/-- What a reader has come to: place,events,which have ended,where the document begins,handles,depth,fault. -/
structure Rd where
 pos:Nat
 ev:List Ev
 dn:List Bool
 bs:Nat
 hd:List Hd
 dp:Nat
 cd:Int
 pl:Nat
/-- Properties: any,anchor,tag,the place behind them. -/
structure Pp where
 has:Bool
 an:Bs
 tg:Bs
 en:Nat
/-- The events since the document's beginning that bear an anchor. -/
def anI (l:List Ev) (b:Nat):List Nat:=(List.range l.length).filter fun i=>decide (b≤i)&&!decide ((l.getD i evz).anchor=[])
def nmI (l:List Ev) (b:Nat):List (Bs×Int):=(anI l b).foldl (fun m i=>zaw m (l.getD i evz).anchor (i:Int)) []
def nmS (l:List Ev) (d:List Bool) (b:Nat):List (Bs×Bool):=(anI l b).map fun i=>((l.getD i evz).anchor,d.getD i false)
/-- Whether the last node of a name has ended. -/
def alD (l:List Ev) (d:List Bool) (b:Nat) (name:Bs):Bool:=(nmS l d b).foldl (fun x p=>if p.1=name then p.2 else x) false
def flt (r:Rd) (c:Int) (p:Nat):Rd:={ r with cd:=c,pl:=p }
def zf (r:Rd) (e:Ev) (d:Bool):Rd:={ r with ev:=r.ev++[e],dn:=r.dn++[d] }
def evT (st:Int) (t a g:Bs):Ev:=⟨5,st,false,t,a,g,0,0⟩
def evA (t:Bs):Ev:=⟨6,0,false,t,[],[],0,0⟩
def evO (k st:Int) (a g:Bs):Ev:=⟨k,st,false,[],a,g,0,0⟩
def evE:Ev:=⟨7,0,false,[],[],[],0,0⟩
def yb (r:Rd) (st:Int) (t a g:Bs):Rd:=zf r (evT st t a g) true
def atR (r:Rd) (p:Nat):Rd:={ r with pos:=p }
/-- A stop is a fault. -/
def jm (s:Bs) (r:Rd):Rd:=if s.length≤r.pos then flt r 3 r.pos else if mkA s r.pos≠0 then flt r 4 r.pos else r
def yq (s:Bs) (r:Rd):Rd:=jm s (atR r (gpE s r.pos))
def bhd (s:Bs) (fl:Bool) (e:Nat):Bool:=gap s e||(fl&&flw (byt s e))
def nxP (s:Bs) (fl:Bool) (e:Nat):Nat:=if fl then gpE s e else wh s e
/-- One property;code 0: there is one. -/
def prA (s:Bs) (hd:List Hd) (fl:Bool) (pos:Nat) (p:Pp):Pp×Int:=
 if byt s pos=38 then
  (if (nmA s pos).2.2=true∧p.an=[] then (if bhd s fl (nmA s pos).2.1.toNat=true then (⟨true,(nmA s pos).1,p.tg,(nmA s pos).2.1.toNat⟩,0) else ({ p with an:=(nmA s pos).1 },7)) else (p,7))
 else
  (if (tgA s pos).2.2=true∧p.tg=[]∧bhd s fl (tgA s pos).2.1.toNat=true then (if (trA (tgA s pos).1 hd).2=true then (⟨true,p.an,(trA (tgA s pos).1 hd).1,(tgA s pos).2.1.toNat⟩,0) else (p,15)) else (p,7))
theorem zdo {s:Bs} {p:Nat} (h:(tgA s p).2.2=true):byt s p=33∧(p:Int)+1≤(tgA s p).2.1∧(tgA s p).2.1≤s.length∧(tgA s p).2.1≤p+60:=by
 by_cases h1:byt s p=33∧tgE s p≤p+60
 ·have:=zhv h1.1;rw [zo2 h1];exact ⟨h1.1,by simp only;omega,by simp only;omega,by simp only;omega⟩
 ·rw [zj3 h1] at h;cases h
theorem xa {s:Bs} {p:Nat} (h:(nmA s p).2.2=true):(byt s p=38∨byt s p=42)∧(p:Int)+2≤(nmA s p).2.1∧(nmA s p).2.1≤s.length∧(nmA s p).1.length≤60∧(nmA s p).1≠[]:=by
 by_cases h1:(byt s p=38∨byt s p=42)∧p+2≤stc s (p+1)∧stc s (p+1)≤p+61
 ·have hl:p<s.length:=by
   rcases h1.1 with h2 | h2
   ·exact zm h2 (by decide)
   ·exact zm h2 (by decide)
  have:=zhw s (p+1) hl;rw [nmA_t h1];have hs:(sub s (p+1) (stc s (p+1))).length=stc s (p+1)-(p+1):=by simp only [sub,List.length_drop,List.length_take];omega
  refine ⟨h1.1,by simp only;omega,by simp only;omega,by simp only;omega,fun h9=>?_⟩;simp only at h9;rw [h9] at hs;simp at hs;omega
 ·rw [z05 h1] at h;cases h
theorem u4 {s:Bs} {hd:List Hd} {fl:Bool} {pos:Nat} {p:Pp} (hl:pos≤s.length) (h:(prA s hd fl pos p).2=0):pos+1≤(prA s hd fl pos p).1.en∧(prA s hd fl pos p).1.en≤s.length∧(prA s hd fl pos p).1.has=true:=by
 unfold prA at h ⊢;split
 ·rename_i h1;rw [if_pos h1] at h;split
  ·rename_i h2;have:=xa h2.1;rw [if_pos h2] at h;split
   ·exact ⟨by simp only;omega,by simp only;omega,rfl⟩
   ·rename_i h3;rw [if_neg h3] at h;simp at h
  ·rename_i h2;rw [if_neg h2] at h;simp at h
 ·rename_i h1;rw [if_neg h1] at h;split
  ·rename_i h2;have:=zdo h2.1;rw [if_pos h2] at h;split
   ·exact ⟨by simp only;omega,by simp only;omega,rfl⟩
   ·rename_i h3;rw [if_neg h3] at h;simp at h
  ·rename_i h2;rw [if_neg h2] at h;simp at h
theorem zbt {s:Bs} {fl:Bool} {e:Nat} (h:e≤s.length):e≤nxP s fl e∧nxP s fl e≤s.length:=by
 unfold nxP;split
 ·exact ⟨q8 s e,qr s e h⟩
 ·exact ⟨jh s e,jg s e h⟩
def zfs (s:Bs) (pos:Nat):Bool:=decide (byt s pos=38∨byt s pos=33)
/-- All properties at a place: where they end,what they are,a fault's code. -/
def prs (s:Bs) (hd:List Hd) (fl:Bool) (pos:Nat) (p:Pp):Nat×Pp×Int:=
 if h:zfs s pos=true∧(prA s hd fl pos p).2=0 then prs s hd fl (nxP s fl (prA s hd fl pos p).1.en) (prA s hd fl pos p).1
 else (pos,if zfs s pos=true then ((prA s hd fl pos p).1,(prA s hd fl pos p).2) else (p,0))
termination_by s.length-pos
decreasing_by
 have hl:pos<s.length:=by
  have:=h.1;unfold zfs at this;rcases of_decide_eq_true this with h1 | h1
  ·exact zm h1 (by decide)
  ·exact zm h1 (by decide)
 have h1:=u4 (Nat.le_of_lt hl) h.2;have h2:=zbt (s:=s) (fl:=fl) h1.2.1;omega
def ppz (p:Nat):Pp:=⟨false,[],[],p⟩
/-- The properties at the reader's place. -/
def prR (s:Bs) (fl:Bool) (r:Rd):Rd:=
 if (prs s r.hd fl r.pos (ppz r.pos)).2.2=0 then atR r (prs s r.hd fl r.pos (ppz r.pos)).1 else flt (atR r (prs s r.hd fl r.pos (ppz r.pos)).1) (prs s r.hd fl r.pos (ppz r.pos)).2.2 (prs s r.hd fl r.pos (ppz r.pos)).1
def prP (s:Bs) (fl:Bool) (r:Rd):Pp:=(prs s r.hd fl r.pos (ppz r.pos)).2.1
/-- .. zt2 a flow collection: no stop behind them. -/
def prF (s:Bs) (r:Rd):Rd:=if (prR s true r).cd=0∧(prP s true r).has=true then jm s (prR s true r) else prR s true r
def alR (s:Bs) (r:Rd) (has:Bool):Rd:=
 if (nmA s r.pos).2.2=false then flt r 7 r.pos
 else if has=true then flt r 16 r.pos
 else if alD r.ev r.dn r.bs (nmA s r.pos).1=true then atR (zf r (evA (nmA s r.pos).1) true) (nmA s r.pos).2.1.toNat
 else flt r 14 r.pos
def qtA (s:Bs) (p:Nat):Bs×Nat×Int:=if byt s p=34 then dbA s p else sgA s p
def qtR (s:Bs) (r:Rd) (p:Pp):Rd:=
 if (qtA s r.pos).2.2≠0 then flt r (qtA s r.pos).2.2 (qtA s r.pos).2.1
 else atR (yb r (if byt s r.pos=34 then 3 else 2) (qtA s r.pos).1 p.an p.tg) (qtA s r.pos).2.1
def plR (s:Bs) (r:Rd) (p:Pp) (n:Int) (fl:Bool):Rd:=atR (yb r 1 (ptA s r.pos n fl).1 p.an p.tg) (ptA s r.pos n fl).2.1
def opR (r:Rd) (k st:Int) (p:Pp) (sign:Nat):Rd:=if 40≤r.dp then flt r 12 sign else { zf r (evO k st p.an p.tg) false with dp:=r.dp+1 }
def shR (r:Rd) (k:Nat):Rd:={ r with ev:=r.ev++[evE],dn:=(r.dn++[true]).set k true,dp:=r.dp-1 }
def cmR (s:Bs) (r:Rd) (c:Int):Rd:=if byt s r.pos=44 then atR r (r.pos+1) else if byt s r.pos=c then r else flt r 11 r.pos
/-- The items of a collection,up to its end. -/
def clL (s:Bs) (it:Rd→Rd) (c:Int) (k:Nat) (r:Rd):Rd:=
 if (yq s r).cd≠0 then yq s r
 else if byt s (yq s r).pos=c then shR (atR (yq s r) ((yq s r).pos+1)) k
 else if (it (yq s r)).cd≠0 then it (yq s r)
 else if (yq s (it (yq s r))).cd≠0 then yq s (it (yq s r))
 else if h:(cmR s (yq s (it (yq s r))) c).cd=0∧r.pos<(cmR s (yq s (it (yq s r))) c).pos∧r.pos<s.length then clL s it c k (cmR s (yq s (it (yq s r))) c)
 else cmR s (yq s (it (yq s r))) c
termination_by s.length-r.pos
decreasing_by omega
def isQu (b:Int):Bool:=b==39||b==34
/-- A scalar or an alias;or nothing,where properties and one of three signs stand. -/
def scR (s:Bs) (r:Rd) (p:Pp) (c1 c2:Int):Rd:=
 if byt s r.pos=42 then alR s r p.has
 else if isQu (byt s r.pos)=true then qtR s r p
 else if pfA s r.pos true=true then plR s r p (-1) true
 else if p.has=true∧(byt s r.pos=44∨byt s r.pos=c1∨byt s r.pos=c2) then yb r 1 [] p.an p.tg
 else flt r 10 r.pos
/-- A key and its value. -/
def paV (s:Bs) (sb:Rd→Rd) (r:Rd):Rd:=
 if (yq s r).cd≠0 then yq s r
 else if byt s (yq s r).pos=44∨byt s (yq s r).pos=125 then yb (yq s r) 1 [] [] []
 else sb (yq s r)
def paK (s:Bs) (sb:Rd→Rd) (q:Bool) (r:Rd):Rd:=
 if byt s r.pos=58∧(gap s (r.pos+1)||flw (byt s (r.pos+1))||q)=true then paV s sb (atR r (r.pos+1)) else yb r 1 [] [] []
def paR (s:Bs) (sb:Rd→Rd) (r:Rd):Rd:=
 if (prF s r).cd≠0 then prF s r
 else if (scR s (prF s r) (prP s true r) 125 58).cd≠0 then scR s (prF s r) (prP s true r) 125 58
 else if (yq s (scR s (prF s r) (prP s true r) 125 58)).cd≠0 then yq s (scR s (prF s r) (prP s true r) 125 58)
 else paK s sb (isQu (byt s (prF s r).pos)) (yq s (scR s (prF s r) (prP s true r) 125 58))
def coR (s:Bs) (it:Rd→Rd) (c k:Int) (r:Rd) (p:Pp):Rd:=
 if (opR r k 6 p r.pos).cd≠0 then opR r k 6 p r.pos else clL s it c r.ev.length (atR (opR r k 6 p r.pos) (r.pos+1))
def boR (s:Bs) (sb:Rd→Rd) (r:Rd) (p:Pp):Rd:=
 if byt s r.pos=91 then coR s sb 93 3 r p
 else if byt s r.pos=123 then coR s (paR s sb) 125 4 r p
 else scR s r p 93 125
def noR (s:Bs) (sb:Rd→Rd) (r:Rd):Rd:=if (prF s r).cd≠0 then prF s r else boR s sb (prF s r) (prP s true r)
/-- A node,where so many collections may still stand in one another. -/
def noF (s:Bs):Nat→Rd→Rd
 | 0=>noR s id
 | d+1=>noR s (noF s d)
def rdz (p:Nat):Rd:=⟨p,[],[],0,[],0,0,0⟩
end Go.Pl
namespace Go.Pl
def pr1 (s:Bs) (fl:Bool) (r:Rd) (p:Pp):Rd:=if (prA s r.hd fl r.pos p).2=0 then atR r (nxP s fl (prA s r.hd fl r.pos p).1.en) else flt r (prA s r.hd fl r.pos p).2 r.pos
end Go.Pl
namespace Go.Pl
/-- A scalar or alias,if there is one. -/
def sqB (s:Bs) (r:Rd) (fl:Bool):Bool:=decide (byt s r.pos=42)||isQu (byt s r.pos)||pfA s r.pos fl
def scX (s:Bs) (r:Rd) (p:Pp) (n:Int) (fl:Bool):Rd:=
 if byt s r.pos=42 then alR s r p.has
 else if isQu (byt s r.pos)=true then qtR s r p
 else if pfA s r.pos fl=true then plR s r p n fl
 else r
end Go.Pl
end
section
namespace Go.Vg
variable [Go.Vg.Glob]
open Go.Pl
/-- A function's end,of which only so much is told. -/
def FinQ (te:TE) (k pl:Nat) (rs:List ResultVar) (Q:SV→Ctx→Prop) (st:St):Prop:=∃ Z C,Q Z C∧FinE te k pl rs Z C st
theorem FnK.ofQ {cf:Cf} (hcf:cf.ok) {f:FuncId} {fn:Func} {c:Code} (hf:cf.P.funcs[f]?=some fn) (hb:fn.body=some c) (hname:(fn.name == "runtime.NumGoroutine")=false)
  (hnt:fn.ntmps=cf.nt) {args:List SV} {pre:Ctx} (hlen:args.length≤cf.nt) (hk:cf.k≤pre.length) {rs:List ResultVar} (hrs:fn.results.toList=rs) {Q:SV→Ctx→Prop} (n:Nat)
  (h:vc cf (FinQ cf.te cf.k pre.length rs Q) n [.code c] ⟨zaa 0 args,pre⟩):FnK cf.P f cf.k args pre Q:=by
 refine FnK.ofG hcf hf hb hname hnt hlen hk hrs (fun A σ st a w hAk _ hF hR=>?_) n h;obtain ⟨Z,C,hQ,l,⟨h1,h2⟩,h3,h4,h5,h6⟩:=hF;rw [←hrs] at h4;obtain ⟨z,v,hz,hv,hr⟩:=zb9 (P:=cf.P) hcf.te hR h4;subst hz;exact ⟨Z,v,C,σ.ren (muL l st.ctx.length),hQ,hv,(v7 _ _ _ _).1 hr,Rel.ren (st':=⟨[],C⟩) l h1 h2 h3 trivial hAk hR,h5,h6⟩
/-- A call of such a function. -/
theorem yp.rebQ {P:Program} {f:FuncId} {k:Nat} {args0:List SV} {pre:Ctx} {Q:SV→Ctx→Prop} (hF:FnK P f k args0 pre Q) (l:List Nat) {args:List SV} {kk:Nat} {st:St} {K:Sl (SV×St)}
  (hargs:jd (muL l st.ctx.length) args0=args) (hmap:ve (muL l st.ctx.length) st.ctx l pre) (hnd:l.Nodup) (hrw:z6 k pre) (hfix:(l.drop k).all (fun g=>decide (kk≤g))=true) (hclean:jf (l.drop k) (zdm l pre) 0 st.ctx)
  (hK:∀ z c,Q z c→K.f (z.mapH (muL l st.ctx.length),⟨zbu (l.drop k) st.env,jw (muL l st.ctx.length) l pre c st.ctx⟩)):yp P f args kk st K:=by
 refine zhb.of hF l hargs.symm hmap (.inr hnd) hrw hfix (.inr hnd) hclean ?_;exact hK
theorem zor {P:Program} {te:TE} {wr:Bool} {nt:Nat} {pt:PT} {st:St} {K:Sl St} {d:Tmp} {want:Bool} {o:Oper} (h:look st.env d=.b want):zf4 true P te wr nt pt (some d) want st o K=XOs P te wr nt pt false true st o K:=by rw [znf,h,zho];cases want<;>simp
theorem zos {P:Program} {te:TE} {wr:Bool} {nt:Nat} {pt:PT} {st:St} {K:Sl St} {d:Tmp} {want:Bool} {o:Oper} (h:look st.env d=.b (!want)):zf4 true P te wr nt pt (some d) want st o K=w5 nt st o.dst (.gd false (.b false)) K:=by rw [znf,h,zho];cases want<;>simp
theorem zot {P:Program} {te:TE} {wr:Bool} {nt:Nat} {pt:PT} {st:St} {K:Sl St} {d:Tmp} {want:Bool} {o:Oper} (h:look st.env d=.gd false (.b false)):zf4 true P te wr nt pt (some d) want st o K=w5 nt st o.dst (.gd false (.b false)) K:=by rw [znf,h,zjf];simp
/-- The reader's objects. -/
def rdC (s:Bs) (r:Rd) (fr:Bool) (la:Int):Ctx:=[some (.blk false [.s s,.i .i64 (r.pos:Nat),.slc 1 0 r.ev.length,.slc 2 0 r.ev.length,.mp 3,.slc 4 0 r.hd.length,.i .i64 (r.dp:Nat),.i .i64 r.cd,.i .i64 (r.pl:Nat),.b fr,.i .i64 la]),some (.row false 8 r.ev.length (zu evc evz r.ev)),some (.row false 1 r.ev.length (zu zc1 false r.dn)),some (.mapS (nmI r.ev r.bs)),some (.row false 2 r.hd.length (zu hdc hdz r.hd))]
/-- A method that brings the reader from one state to another and tells whether there is no fault. -/
def zcl (P:Program) (f:FuncId) (s:Bs) (fr:Bool) (la:Int) (args:List SV) (r r':Rd):Prop:=FnK P f 1 (.ptr 0 0 0::args) (rdC s r fr la) fun z c=>z=.b (decide (r'.cd=0))∧c=rdC s r' fr la
end Go.Vg
namespace Go.Vg
variable [Go.Vg.Glob]
open Go.Pl
/-- Rows of names. -/
def nac (e:Bs×Bool):List SV:=[.s e.1,.b e.2]
theorem zv3 (a:List (Bs×Bool)) (i:Nat):(a.map nac).getD i [.s [],.b false]=[.s (a.getD i ([],false)).1,.b (a.getD i ([],false)).2]:=uu nac a i ([],false)
theorem zzm {a:List (Bs×Bool)} {i:Nat}:zu nac ([],false) a i=[.s (a.getD i ([],false)).1,.b (a.getD i ([],false)).2]:=id rfl
theorem zzi {μ:Nat→Nat} {r:Bool} {sz n:Nat} {a:List (Bs×Bool)}:SO.mapH μ (.row r sz n (zu nac ([],false) a))=.row r sz n (zu nac ([],false) a):=rowH fun _=>rfl
theorem XRN:type_of% (ai @zv3 (ai @zzm @zzi)):=ai @zv3 (ai @zzm @zzi)
/-- The reference's reader. -/
def spC (s:Bs) (r:Rd) (a:Int) (pr:Int):Ctx:=[some (.blk false [.s s,.i .i64 a,.slc 1 0 r.ev.length,.i .i64 r.cd,.i .i64 (r.pl:Nat),.i .i64 (r.dp:Nat),.slc 2 0 (nmS r.ev r.dn r.bs).length,.slc 3 0 r.hd.length,.i .i64 pr]),some (.row false 8 r.ev.length (zu evc evz r.ev)),some (.row false 2 (nmS r.ev r.dn r.bs).length (zu nac ([],false) (nmS r.ev r.dn r.bs))),some (.row false 2 r.hd.length (zu hdc hdz r.hd))]
/-- A method of the reference that brings the reader from one state to another;its place is told where there is no fault. -/
def zdi (P:Program) (f:FuncId) (s:Bs) (args:List SV) (pr:Int) (r r':Rd):Prop:=FnK P f 1 (.ptr 0 0 0::args) (spC s r (r.pos:Nat) pr) fun z c=>∃ (a pr':Int),(r'.cd=0→a=((r'.pos:Nat):Int))∧z=.tup []∧c=spC s r' a pr'
end Go.Vg
end
section
namespace Go.Vg
variable [Go.Vg.Glob]
theorem Ya:type_of% (ai @zor (ai @zos @zot)):=(ai @zor (ai @zos @zot))
theorem Yb:type_of% (ai Bool.not_true Bool.not_false):=(ai Bool.not_true Bool.not_false)
theorem Yc:type_of% (ai @XW_sw (ai @z29 @z28)):=(ai @XW_sw (ai @z29 @z28))
theorem Yd:type_of% (ai (ai @spC.eq_1 @rdC.eq_1) (ai (ai @kf.eq_1 (ai @kf.eq_2 @kf.eq_3)) (ai (ai @zq @zo) (ai @and_true @true_and)))):=(ai (ai @spC.eq_1 @rdC.eq_1) (ai (ai @kf.eq_1 (ai @kf.eq_2 @kf.eq_3)) (ai (ai @zq @zo) (ai @and_true @true_and))))
theorem Ye:type_of% (ai (ai @spC.eq_1 @rdC.eq_1) (ai (ai (ai @ve.eq_1 @ve.eq_2) (ai @ve.eq_3 @zq)) (ai (ai @zo @and_true) (ai @List.length_cons.{0} @List.length_nil.{0})))):=(ai (ai @spC.eq_1 @rdC.eq_1) (ai (ai (ai @ve.eq_1 @ve.eq_2) (ai @ve.eq_3 @zq)) (ai (ai @zo @and_true) (ai @List.length_cons.{0} @List.length_nil.{0}))))
theorem Yf:type_of% (ai (ai (ai (ai @jd.eq_1 @jd.eq_2) (ai @SV.mapH.eq_1 @SV.mapH.eq_2)) (ai (ai @SV.mapH.eq_3 @SV.mapH.eq_4) (ai @SV.mapH.eq_5 @SV.mapH.eq_6))) (ai (ai (ai @SV.mapH.eq_7 @SV.mapH.eq_8) (ai @SV.mapH.eq_9 @SV.mapH.eq_10)) (ai (ai @SV.mapH.eq_11 @SV.mapH.eq_12) (ai @SV.mapH.eq_13 (ai @SV.mapH.eq_14 @muL.eq_1))))):=(ai (ai (ai (ai @jd.eq_1 @jd.eq_2) (ai @SV.mapH.eq_1 @SV.mapH.eq_2)) (ai (ai @SV.mapH.eq_3 @SV.mapH.eq_4) (ai @SV.mapH.eq_5 @SV.mapH.eq_6))) (ai (ai (ai @SV.mapH.eq_7 @SV.mapH.eq_8) (ai @SV.mapH.eq_9 @SV.mapH.eq_10)) (ai (ai @SV.mapH.eq_11 @SV.mapH.eq_12) (ai @SV.mapH.eq_13 (ai @SV.mapH.eq_14 @muL.eq_1)))))
theorem Yg:type_of% (ai (ai @forall_const.{0} @forall_const.{1}) (ai @implies_true.{0} @implies_true.{1})):=(ai (ai @forall_const.{0} @forall_const.{1}) (ai @implies_true.{0} @implies_true.{1}))
def kq:List (List Tmp)→Nat→List Tmp
 | [],_=>[]
 | e::r,i=>if i=0 then e else kq r (i-1)
theorem z1s {i:Nat} {e:List Tmp} {r:List (List Tmp)}:kq (e::r) i=if i=0 then e else kq r (i-1):=id rfl
theorem X1:type_of% (ai (ai XV XT) (ai Yg (ai @z1s (ai @spC.eq_1 @rdC.eq_1)))):=ai (ai XV XT) (ai Yg (ai @z1s (ai @spC.eq_1 @rdC.eq_1)))
theorem pn {P:Program}:zdh P []:=trivial
theorem PE1.c {P:Program} {f:FuncId} {g:PE} {l:List (FuncId×PE)} (h:PE1 P f g) (r:zdh P l):zdh P ((f,g)::l):=⟨h,r⟩
theorem PE1.d {P:Program} {f:FuncId} {g:PE} (h:PE1 P f g):zdh P [(f,g)]:=⟨h,trivial⟩
theorem YC:type_of% (ai @spC.eq_1 @rdC.eq_1):=ai @spC.eq_1 @rdC.eq_1
end Go.Vg
end
section
namespace Go.Pl
theorem Yh:type_of% (ai (ai @Go.Vg.spC.eq_1 @Go.Vg.rdC.eq_1) (ai (ai @flt.eq_1 @atR.eq_1) (ai @zf.eq_1 @yb.eq_1))):=(ai (ai @Go.Vg.spC.eq_1 @Go.Vg.rdC.eq_1) (ai (ai @flt.eq_1 @atR.eq_1) (ai @zf.eq_1 @yb.eq_1)))
end Go.Pl
end
section
namespace Go.Pl
open Go.Vg (lookS zaw)
theorem zhp {α:Type} {l m:List α} {i:Nat} {z:α} (h:i<l.length):(l++m).getD i z=l.getD i z:=by simp only [List.getD_eq_getElem?_getD,List.getElem?_append_left h]
theorem zes {α:Type} {l:List α} {x z:α}:(l++[x]).getD l.length z=x:=by simp [List.getD_eq_getElem?_getD]
theorem zey {l:List Ev} {e:Ev} {b:Nat} (hb:b≤l.length):anI (l++[e]) b=anI l b++(if e.anchor=[] then [] else [l.length]):=by
 unfold anI;rw [List.length_append,List.length_singleton,List.range_succ,List.filter_append];congr 1
 ·apply List.filter_congr;intro i hi;rw [zhp (by simpa using hi)]
 ·simp only [List.filter_cons,List.filter_nil,zes,decide_eq_true hb,Bool.true_and];by_cases h:e.anchor=[]
  ·simp [h]
  ·simp [h]
theorem zjt {l:List Ev} {b i:Nat} (h:i∈anI l b):b≤i∧i<l.length∧(l.getD i evz).anchor≠[]:=by unfold anI at h;rw [List.mem_filter] at h;simp only [List.mem_range,Bool.and_eq_true,decide_eq_true_eq,Bool.not_eq_true',decide_eq_false_iff_not] at h;exact ⟨h.2.1,h.1,h.2.2⟩
theorem zwi {l:List Ev}:anI l l.length=[]:=by
 unfold anI;rw [List.filter_eq_nil_iff];intro i hi;have:i<l.length:=by simpa using hi
 simp;omega
theorem zgu {α β:Type} {f g:β→α→β}:∀ (l:List α) (b:β),(∀ x∈l,∀ b,f b x=g b x)→l.foldl f b=l.foldl g b
 | [],b,_=>rfl
 | x::r,b,h=>by rw [List.foldl_cons,List.foldl_cons,h x (List.mem_cons_self ..)];exact zgu r _ fun y hy=>h y (List.mem_cons_of_mem _ hy)
theorem nmI_self {l:List Ev}:nmI l l.length=[]:=by unfold nmI;rw [zwi];rfl
theorem nmI_push {l:List Ev} {e:Ev} {b:Nat} (hb:b≤l.length):nmI (l++[e]) b=if e.anchor=[] then nmI l b else zaw (nmI l b) e.anchor l.length:=by
 unfold nmI;rw [zey hb,List.foldl_append];have h1:(anI l b).foldl (fun m i=>zaw m ((l++[e]).getD i evz).anchor (i:Int)) []=(anI l b).foldl (fun m i=>zaw m (l.getD i evz).anchor (i:Int)) []:=
  zgu _ _ fun i hi m=>by rw [zhp (zjt hi).2.1]
 rw [h1];by_cases h:e.anchor=[]
 ·rw [if_pos h,if_pos h];rfl
 ·rw [if_neg h,if_neg h];simp only [List.foldl_cons,List.foldl_nil,zes]
theorem zaq {l:List Ev} {d:List Bool} {e:Ev} {x:Bool} {b:Nat} (hb:b≤l.length) (hd:d.length=l.length):nmS (l++[e]) (d++[x]) b=if e.anchor=[] then nmS l d b else nmS l d b++[(e.anchor,x)]:=by
 unfold nmS;rw [zey hb,List.map_append];have h1:(anI l b).map (fun i=>(((l++[e]).getD i evz).anchor,(d++[x]).getD i false))=(anI l b).map (fun i=>((l.getD i evz).anchor,d.getD i false)):=
  List.map_congr_left fun i hi=>by rw [zhp (zjt hi).2.1,zhp (by rw [hd];exact (zjt hi).2.1)]
 rw [h1];by_cases h:e.anchor=[]
 ·rw [if_pos h,if_pos h];simp
 ·rw [if_neg h,if_neg h];simp only [List.map_cons,List.map_nil,zes];rw [←hd,zes]
theorem zi7 {α:Type} [DecidableEq α] (v:Int):∀ (l:List (α×Int)) (k k':α),lookS (zaw l k v) k'=if k=k' then some v else lookS l k'
 | [],k,k'=>rfl
 | p::r,k,k'=>by
  simp only [zaw];by_cases h:p.1=k
  ·rw [if_pos h];simp only [lookS];by_cases h2:k=k'
   ·rw [if_pos h2,if_pos h2]
   ·rw [if_neg h2,if_neg h2,if_neg (by rw [h];exact h2)]
  ·rw [if_neg h];simp only [lookS,zi7 v r k k'];by_cases h2:p.1=k'
   ·rw [if_pos h2,if_pos h2,if_neg (by rw [←h2];exact fun e=>h e.symm)]
   ·rw [if_neg h2,if_neg h2]
/-- What the map of names says of a name. -/
theorem look_al {l:List Ev} {d:List Bool} {b:Nat} {name:Bs}:(lookS (nmI l b) name=none→alD l d b name=false)∧∀ k,lookS (nmI l b) name=some k→0≤k∧k<l.length∧alD l d b name=d.getD k.toNat false:=by
 unfold alD nmI nmS;have key:∀ (I:List Nat) (m:List (Bs×Int)) (x:Bool),(∀ i∈I,i<l.length)→((lookS m name=none→x=false)∧∀ k,lookS m name=some k→0≤k∧k<l.length∧x=d.getD k.toNat false) →
   ((lookS (I.foldl (fun m i=>zaw m (l.getD i evz).anchor (i:Int)) m) name=none→(I.map fun i=>((l.getD i evz).anchor,d.getD i false)).foldl (fun x p=>if p.1=name then p.2 else x) x=false)∧∀ k,lookS (I.foldl (fun m i=>zaw m (l.getD i evz).anchor (i:Int)) m) name=some k→0≤k∧k<l.length∧(I.map fun i=>((l.getD i evz).anchor,d.getD i false)).foldl (fun x p=>if p.1=name then p.2 else x) x=d.getD k.toNat false):=by
  intro I
  induction I with
  | nil=>intro m x _ h;exact h
  | cons i r ih=>
   intro m x hI h;simp only [List.foldl_cons,List.map_cons];apply ih _ _ (fun j hj=>hI j (List.mem_cons_of_mem _ hj));rw [zi7];by_cases h9:(l.getD i evz).anchor=name
   ·rw [if_pos h9,if_pos h9];refine ⟨fun h=>(by cases h),fun k hk=>?_⟩;simp only [Option.some.injEq] at hk;subst hk;exact ⟨by omega,by have:=hI i (List.mem_cons_self ..);omega,by simp⟩
   ·rw [if_neg h9,if_neg h9];exact h
 exact key (anI l b) [] false (fun i hi=>(zjt hi).2.1) ⟨fun _=>rfl,fun k hk=>by simp [lookS] at hk⟩
end Go.Pl
namespace Go.Pl
theorem zjc {s:Bs} {p:Nat} (h:zfs s p=true):p<s.length:=by
 unfold zfs at h;rcases of_decide_eq_true h with h1 | h1
 ·exact zm h1 (by decide)
 ·exact zm h1 (by decide)
theorem isPr_33 {s:Bs} {p:Nat} (h:zfs s p=true) (h2:¬byt s p=38):byt s p=33:=by
 unfold zfs at h;rcases of_decide_eq_true h with h1 | h1
 ·exact absurd h1 h2
 ·exact h1
end Go.Pl
namespace Go.Pl
theorem z23 {g f:Bool} (h:(!g&&!f)=true):(g||f)=false:=by cases g<;>cases f<;>simp_all
theorem z22 {g f:Bool} (h:(!g&&!f)=false):(g||f)=true:=by cases g<;>cases f<;>simp_all
end Go.Pl
namespace Go.Pl
theorem tgA_nn (s:Bs) (p:Nat):0≤(tgA s p).2.1:=by unfold tgA;split<;>simp
theorem zy1 (s:Bs) (p:Nat):(tgA s p).1.length≤60:=by
 unfold tgA;split
 ·rename_i h;simp only [sub,List.length_drop,List.length_take];omega
 ·simp
end Go.Pl
namespace Go.Pl
theorem zoh {l:List Ev} {b m:Nat} (h:m≤l.length):anI l b=anI (l.take m) b++((List.range (l.length-m)).map (m+·)).filter fun i=>decide (b≤i)&&!decide ((l.getD i evz).anchor=[]):=by
 have e:l.length=m+(l.length-m):=by omega
 have hl:(l.take m).length=m:=by rw [List.length_take];omega
 unfold anI
 conv=>lhs;rw [e,List.range_add,List.filter_append]
 rw [hl];congr 1;apply List.filter_congr;intro i hi;have hi:i<m:=by simpa using hi
 have:(l.take m).getD i evz=l.getD i evz:=by simp only [List.getD_eq_getElem?_getD,List.getElem?_take];rw [if_pos hi]
 rw [this]
theorem nmS_set {l:List Ev} {d:List Bool} {b k:Nat} (hk:k<l.length) (hb:b≤k) (hd:d.length=l.length):nmS l (d.set k true) b=if (l.getD k evz).anchor=[] then nmS l d b else (nmS l d b).set (anI (l.take k) b).length ((l.getD k evz).anchor,true):=by
 have hother:∀ i,i≠k→(d.set k true).getD i false=d.getD i false:=fun i hi=>by simp only [List.getD_eq_getElem?_getD,List.getElem?_set];rw [if_neg (Ne.symm hi)]
 have e1:=zoh (l:=l) (b:=b) (m:=k+1) hk;have hlt:(l.take k).length=k:=by rw [List.length_take];omega
 have e2:l.take (k+1)=l.take k++[l.getD k evz]:=by rw [List.take_add_one];congr 1;simp [List.getD,hk]
 rw [e2,zey (by rw [hlt];exact hb),hlt] at e1;have hA:∀ i∈anI (l.take k) b,i≠k:=fun i hi h=>by have:=(zjt hi).2.1;rw [hlt] at this;omega
 have hR:∀ i∈((List.range (l.length-(k+1))).map (k+1+·)).filter (fun i=>decide (b≤i)&&!decide ((l.getD i evz).anchor=[])),i≠k:=fun i hi h=>by have:=(List.mem_filter.1 hi).1;obtain ⟨j,_,rfl⟩:=List.mem_map.1 this;omega
 unfold nmS;rw [e1];generalize ((List.range (l.length-(k+1))).map (k+1+·)).filter (fun i=>decide (b≤i)&&!decide ((l.getD i evz).anchor=[]))=R at *;generalize anI (l.take k) b=A at *;have mA:A.map (fun i=>((l.getD i evz).anchor,(d.set k true).getD i false))=A.map (fun i=>((l.getD i evz).anchor,d.getD i false)):=List.map_congr_left fun i hi=>by rw [hother i (hA i hi)]
 have mR:R.map (fun i=>((l.getD i evz).anchor,(d.set k true).getD i false))=R.map (fun i=>((l.getD i evz).anchor,d.getD i false)):=List.map_congr_left fun i hi=>by rw [hother i (hR i hi)]
 by_cases h:(l.getD k evz).anchor=[]
 ·rw [if_pos h,if_pos h,List.append_nil,List.map_append,List.map_append,mA,mR]
 ·rw [if_neg h,if_neg h];simp only [List.map_append,List.map_cons,List.map_nil,mA,mR];have hkd:(d.set k true).getD k false=true:=by simp [List.getD_eq_getElem?_getD,List.getElem?_set,hd,hk]
  rw [hkd,List.append_assoc,List.append_assoc,List.set_append_right _ _ (by simp)];simp
theorem z03 {l:List Ev} {d:List Bool} {b k:Nat} (hk:k<l.length) (hb:b≤k) (hd:d.length=l.length):nmS (l++[evE]) ((d++[true]).set k true) b=if (l.getD k evz).anchor=[] then nmS l d b else (nmS l d b).set (anI (l.take k) b).length ((l.getD k evz).anchor,true):=by rw [List.set_append_left _ _ (by omega),zaq (l:=l) (d:=d.set k true) (e:=evE) (x:=true) (by omega) (by simp [hd]),if_pos (show evE.anchor=[] from rfl),nmS_set hk hb hd]
theorem nix_lt {l:List Ev} {d:List Bool} {b k:Nat} (hk:k<l.length) (hb:b≤k) (h:(l.getD k evz).anchor≠[]):(anI (l.take k) b).length<(nmS l d b).length:=by
 have e1:=zoh (l:=l) (b:=b) (m:=k+1) hk;have hlt:(l.take k).length=k:=by rw [List.length_take];omega
 have e2:l.take (k+1)=l.take k++[l.getD k evz]:=by rw [List.take_add_one];congr 1;simp [List.getD,hk]
 rw [e2,zey (by rw [hlt];exact hb),hlt,if_neg h] at e1;unfold nmS;rw [List.length_map,e1];simp only [List.length_append,List.length_singleton];omega
theorem nmS_le {l:List Ev} {d:List Bool} {b:Nat}:(nmS l d b).length≤l.length:=by unfold nmS anI;rw [List.length_map];have:=List.length_filter_le (fun i=>decide (b≤i)&&!decide ((l.getD i evz).anchor=[])) (List.range l.length);simpa using this
end Go.Pl
namespace Go.Pl
theorem nix_at {l:List Ev} {d:List Bool} {b k:Nat} (hk:k<l.length) (hb:b≤k) (h:(l.getD k evz).anchor≠[]):(nmS l d b).getD (anI (l.take k) b).length ([],false)=((l.getD k evz).anchor,d.getD k false):=by
 have e1:=zoh (l:=l) (b:=b) (m:=k+1) hk;have hlt:(l.take k).length=k:=by rw [List.length_take];omega
 have e2:l.take (k+1)=l.take k++[l.getD k evz]:=by rw [List.take_add_one];congr 1;simp [List.getD,hk]
 rw [e2,zey (by rw [hlt];exact hb),hlt,if_neg h] at e1;unfold nmS;rw [e1];simp [List.getD_eq_getElem?_getD]
end Go.Pl
namespace Go.Pl
theorem by0 {s:Bs} {p:Nat} {c:Int} (h:0<c):((if byt s p<0 then (0:Int) else byt s p)=c)=(byt s p=c):=by
 apply propext;by_cases h1:byt s p<0
 ·rw [if_pos h1];omega
 ·rw [if_neg h1]
theorem zwj {l:List Ev} {d:List Bool} {b:Nat} {name:Bs} {x:Bool} {i:Nat} (h:i<(nmS l d b).length):((nmS l d b).drop i).foldl (fun x p=>if p.1=name then p.2 else x) x=((nmS l d b).drop (i+1)).foldl (fun x p=>if p.1=name then p.2 else x) (if ((nmS l d b).getD i ([],false)).1=name then ((nmS l d b).getD i ([],false)).2 else x):=by
 have e:(nmS l d b).getD i ([],false)=(nmS l d b)[i]:=by simp [List.getD,h]
 rw [List.drop_eq_getElem_cons h,List.foldl_cons,e]
end Go.Pl
end
