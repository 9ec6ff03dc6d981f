/- How the reader of the flow style goes on: places, events, depths. -/
import Derived.Test.YtgippllfnmdnpaaGreatDoorUAN
set_option linter.all false
section
namespace Go.Pl
open Go.Vg (lookS zaw)
structure Ok (s:Bs) (r:Rd):Prop where
 cd:r.cd=0
 pos:r.pos≤s.length
 dn:r.dn.length=r.ev.length
 bs:r.bs≤r.ev.length
 dp:r.dp≤40
 sz:r.ev.length≤8 * r.pos+64
 hd:r.hd.length≤1048576
 pf:∀ h∈r.hd,h.pre.length≤1048576
/-- From one state to a later one,behind a node. -/
structure Stp (s:Bs) (r r':Rd):Prop where
 ok:Ok s r'
 lt:r.pos<r'.pos
 pre:r.ev <+: r'.ev
 hd:r'.hd=r.hd
 bs:r'.bs=r.bs
 dp:r'.dp=r.dp
 pot:r'.ev.length+8 * r.pos≤r.ev.length+8 * r'.pos
theorem Ok.size {s:Bs} {r:Rd} (h:Ok s r) (hs:s.length≤1048576):r.ev.length≤8388672:=by have:=h.sz;have:=h.pos;omega
theorem Ok.at {s:Bs} {r:Rd} {q:Nat} (h:Ok s r) (h1:r.pos≤q) (h2:q≤s.length):Ok s (atR r q):=
 ⟨h.cd,h2,h.dn,h.bs,h.dp,by have:=h.sz;simp only [atR];omega,h.hd,h.pf⟩
theorem zhj {s:Bs} {r:Rd} (h:(jm s r).cd=0):jm s r=r∧r.pos<s.length∧mkA s r.pos=0:=by
 unfold jm at h ⊢;split
 ·rename_i h1;rw [if_pos h1] at h;simp [flt] at h
 ·rename_i h1;rw [if_neg h1] at h;split
  ·rename_i h2;rw [if_pos h2] at h;simp [flt] at h
  ·rename_i h2;exact ⟨rfl,by omega,by simpa using h2⟩
theorem wo {s:Bs} {r:Rd} (h:(yq s r).cd=0):yq s r=atR r (gpE s r.pos)∧gpE s r.pos<s.length:=by have:=zhj (s:=s) (r:=atR r (gpE s r.pos)) h;exact ⟨this.1,this.2.1⟩
theorem Ok.gap {s:Bs} {r:Rd} (h:Ok s r) (hg:(yq s r).cd=0):Ok s (yq s r):=by rw [(wo hg).1];exact h.at (q8 s r.pos) (qr s r.pos h.pos)
theorem zpj {s:Bs} {hd:List Hd} {fl:Bool} {pos:Nat} {p:Pp} (hl:pos≤s.length) :
  pos≤(prs s hd fl pos p).1∧(prs s hd fl pos p).1≤s.length∧((prs s hd fl pos p).2.2=0→(prs s hd fl pos p).2.1.has=true→p.has=true∨pos<(prs s hd fl pos p).1)∧(p.has=true→(prs s hd fl pos p).2.2=0→(prs s hd fl pos p).2.1.has=true):=by
 fun_induction prs s hd fl pos p with
 | case1 pos p h ih=>
  have h1:=u4 hl h.2;have h2:=zbt (s:=s) (fl:=fl) h1.2.1;have h3:=ih h2.2;refine ⟨by omega,h3.2.1,fun _ _=>.inr (by omega),fun _ h0=>h3.2.2.2 h1.2.2 h0⟩
 | case2 pos p h=>
  simp only;refine ⟨Nat.le_refl _,hl, ?_, ?_⟩
  ·split
   ·rename_i h1;intro h2 h3;exact absurd ⟨h1,h2⟩ h
   ·intro _ h3;exact .inl h3
  ·split
   ·rename_i h1;intro _ h2;exact absurd ⟨h1,h2⟩ h
   ·intro h3 _;exact h3
theorem xn {s:Bs} {fl:Bool} {r:Rd} (hl:r.pos≤s.length) (h0:r.cd=0) (h:(prR s fl r).cd=0):∃ q,prR s fl r=atR r q∧r.pos≤q∧q≤s.length∧((prP s fl r).has=true→r.pos<q)∧(prs s r.hd fl r.pos (ppz r.pos)).2.2=0:=by
 have hp:=zpj (s:=s) (hd:=r.hd) (fl:=fl) (p:=ppz r.pos) hl;unfold prR at h ⊢;split
 ·rename_i h1;refine ⟨_,rfl,hp.1,hp.2.1,fun h2=>?_,h1⟩;rcases hp.2.2.1 h1 h2 with h3 | h3
  ·cases h3
  ·exact h3
 ·rename_i h1;rw [if_neg h1] at h;exact absurd h h1
theorem zf8 {s:Bs} {r:Rd} (hl:r.pos≤s.length) (h0:r.cd=0) (h:(prF s r).cd=0):∃ q,prF s r=atR r q∧r.pos≤q∧q≤s.length∧((prP s true r).has=true→r.pos<q):=by
 unfold prF at h ⊢;split
 ·rename_i h1;rw [if_pos h1] at h;obtain ⟨q,e,h2,h3,h4,_⟩:=xn hl h0 h1.1;rw [(zhj h).1];exact ⟨q,e,h2,h3,h4⟩
 ·rename_i h1;rw [if_neg h1] at h;obtain ⟨q,e,h2,h3,h4,_⟩:=xn hl h0 h;exact ⟨q,e,h2,h3,h4⟩
theorem Ok.prF {s:Bs} {r:Rd} (h:Ok s r) (hf:(prF s r).cd=0):Ok s (prF s r):=by obtain ⟨q,e,h2,h3,_⟩:=zf8 h.pos h.cd hf;rw [e];exact h.at h2 h3
/-- An event more,at a later place. -/
def xd (r:Rd) (e:Ev) (q:Nat):Rd:=atR (zf r e true) q
theorem Ok.put {s:Bs} {r:Rd} {e:Ev} {q:Nat} (h:Ok s r) (h1:r.pos<q∨r.ev.length+1≤8 * r.pos+64∧r.pos≤q) (h2:q≤s.length):Ok s (xd r e q):=
 ⟨h.cd,h2,by simp [xd,atR,zf,h.dn],by simp only [xd,atR,zf,List.length_append];have:=h.bs;omega,h.dp,by simp only [xd,atR,zf,List.length_append,List.length_singleton];have:=h.sz;omega,h.hd,h.pf⟩
theorem zh0 {s:Bs} {p:Nat} (hb:isQu (byt s p)=true) (h0:(qtA s p).2.2=0):p+1<(qtA s p).2.1∧(qtA s p).2.1≤s.length:=by
 have hl:p≤s.length:=by
  unfold isQu at hb;simp only [Bool.or_eq_true,beq_iff_eq] at hb;rcases hb with h | h
  ·exact Nat.le_of_lt (zm h (by decide))
  ·exact Nat.le_of_lt (zm h (by decide))
 unfold qtA at h0 ⊢;split
 ·rename_i h1;rw [if_pos h1] at h0;have:=zjp hl;have:=this.2.2 h0;omega
 ·rename_i h1;rw [if_neg h1] at h0;have:=zhx hl;have:=this.2.2 h0;omega
end Go.Pl
namespace Go.Pl
theorem zpn {s:Bs} {p:Nat} {fl:Bool} (h:pfA s p fl=true):gap s p=false∧¬s.getD p 0∈pfL∧(byt s p=58→gap s (p+1)=false∧¬(fl=true∧flw (byt s (p+1))=true)):=by
 unfold pfA at h;simp only [Bool.and_eq_true,Bool.not_eq_true',decide_eq_false_iff_not] at h;refine ⟨h.1.1,h.1.2,fun h2=>?_⟩;have h3:=h.2;simp only [h2,decide_true,Bool.or_true,Bool.not_true,Bool.false_or,Bool.and_eq_true,Bool.not_eq_true',Bool.and_eq_false_iff] at h3;refine ⟨h3.1,fun h4=>?_⟩;rcases h3.2 with h5 | h5
 ·rw [h4.1] at h5;cases h5
 ·rw [h4.2] at h5;cases h5
theorem pfL_flw {s:Bs} {p:Nat} (hl:p<s.length) (h:¬s.getD p 0∈pfL):flw (byt s p)=false:=by
 rw [zw hl];unfold flw;generalize s.getD p 0=c at h ⊢;have h1:∀ n:Nat,n<256→(UInt8.ofNat n)∈pfL→¬(c.toNat:Int)=n:=fun n hn hm he=>by rw [xp hn] at he;rw [he] at h;exact h hm
 have a:=h1 44 (by decide) (by decide);have b:=h1 91 (by decide) (by decide);have d:=h1 93 (by decide) (by decide);have e:=h1 123 (by decide) (by decide);have f:=h1 125 (by decide) (by decide);simp only [Int.cast_ofNat_Int] at a b d e f;simp [a,b,d,e,f]
theorem plE_gt {s:Bs} {p:Nat} {fl:Bool} (h:pfA s p fl=true):p<plE s p fl:=by
 obtain ⟨h1,h2,h3⟩:=zpn h;have hl:=wk h1;have hB:isB s p=false:=by unfold gap at h1;rw [Bool.or_eq_false_iff] at h1;exact h1.2
 have hW:isW s p=false:=by unfold gap at h1;rw [Bool.or_eq_false_iff] at h1;exact h1.1
 have hX:peX s p fl p=false:=by
  unfold peX;rw [pfL_flw hl h2];simp only [Nat.lt_irrefl,decide_false,Bool.and_false,Bool.false_and,Bool.false_or,Bool.or_false];by_cases h58:byt s p=58
  ·have:=h3 h58;rw [this.1,decide_eq_true h58];cases fl
   ·rfl
   ·cases hf:flw (byt s (p+1))
    ·rfl
    ·exact absurd ⟨rfl,hf⟩ this.2
  ·rw [decide_eq_false h58];rfl
 have h4:p+1≤pe1 s p fl p:=by rw [pe1_t ⟨hB,hX⟩];exact pe1_ge s p fl (p+1)
 unfold plE;have key:∀ q,p<q→p<bkW s p q:=by
  intro q
  induction q with
  | zero=>omega
  | succ q ih=>
   intro hq;unfold bkW;split
   ·rename_i h5;rcases Nat.lt_or_ge p q with h6 | h6
    ·exact ih h6
    ·obtain rfl:p=q:=by omega
     rw [hW] at h5;cases h5.2
   ·exact hq
 exact key _ h4
theorem zz5 (s:Bs) (e:Nat) (n:Int) (fl:Bool) (L:List Pc) (h:e≤s.length):e≤(plA s e n fl L).2∧(plA s e n fl L).2≤s.length:=by
 fun_induction plA s e n fl L with
 | case1 e L h1 ih=>
  have h2:=zek h1;have h3:=zf9 s (nxA s e n fl).1 fl h2.2.1;have:=ih h3;omega
 | case2 e L h1=>exact ⟨Nat.le_refl _,h⟩
theorem zpi {s:Bs} {p:Nat} {n:Int} {fl:Bool} (h:pfA s p fl=true):p<(ptA s p n fl).2.1∧(ptA s p n fl).2.1≤s.length:=by have h1:=plE_gt h;have h2:=zf9 s p fl (Nat.le_of_lt (wk (zpn h).1));have h3:=zz5 s (plE s p fl) n fl [⟨sub s p (plE s p fl),false⟩] h2;unfold ptA;rw [if_pos h];simp only;omega
/-- What a scalar or alias leaves. -/
theorem zze {s:Bs} {r:Rd} {p:Pp} {c1 c2:Int} (hl:r.pos≤s.length) (h0:r.cd=0) (h:(scR s r p c1 c2).cd=0):∃ e q,scR s r p c1 c2=xd r e q∧r.pos≤q∧q≤s.length∧(p.has=false→r.pos<q):=by
 unfold scR at h ⊢;split
 ·rename_i h1;rw [if_pos h1] at h;unfold alR at h ⊢;split
  ·rename_i h2;rw [if_pos h2] at h;simp [flt] at h
  ·rename_i h2;rw [if_neg h2] at h;have hp:=xa (by simpa using h2);split
   ·rename_i h3;rw [if_pos h3] at h;simp [flt] at h
   ·rename_i h3;rw [if_neg h3] at h;split
    ·exact ⟨_,_,rfl,by omega,by omega,fun _=>by omega⟩
    ·rename_i h4;rw [if_neg h4] at h;simp [flt] at h
 ·rename_i h1;rw [if_neg h1] at h;split
  ·rename_i h2;rw [if_pos h2] at h;unfold qtR at h ⊢;split
   ·rename_i h3;rw [if_pos h3] at h;exact absurd h h3
   ·rename_i h3;have:=zh0 h2 (by simpa using h3);exact ⟨_,_,rfl,by omega,this.2,fun _=>by omega⟩
  ·rename_i h2;rw [if_neg h2] at h;split
   ·rename_i h3;have:=zpi (n := -1) h3;exact ⟨_,_,rfl,by omega,this.2,fun _=>this.1⟩
   ·rename_i h3;rw [if_neg h3] at h;split
    ·rename_i h4;exact ⟨evT 1 [] p.an p.tg,r.pos,rfl,Nat.le_refl _,hl,fun h5=>by rw [h5] at h4;cases h4.1⟩
    ·rename_i h4;rw [if_neg h4] at h;simp [flt] at h
theorem zgn {r:Rd} {k st:Int} {p:Pp} {sg:Nat} (h:(opR r k st p sg).cd=0):opR r k st p sg={ zf r (evO k st p.an p.tg) false with dp:=r.dp+1 }∧r.dp<40:=by
 unfold opR at h ⊢;split
 ·rename_i h1;rw [if_pos h1] at h;simp [flt] at h
 ·exact ⟨rfl,by omega⟩
theorem cmR_ok {s:Bs} {r:Rd} {c:Int} (hl:r.pos≤s.length) (h:(cmR s r c).cd=0):∃ q,cmR s r c=atR r q∧r.pos≤q∧q≤s.length:=by
 unfold cmR at h ⊢;split
 ·rename_i h1;exact ⟨r.pos+1,rfl,by omega,zm h1 (by decide)⟩
 ·rename_i h1;rw [if_neg h1] at h;split
  ·exact ⟨r.pos,rfl,Nat.le_refl _,hl⟩
  ·rename_i h2;rw [if_neg h2] at h;simp [flt] at h
end Go.Pl
namespace Go.Pl
theorem zfu {s:Bs} {it:Rd→Rd} {c:Int} {k:Nat} {r:Rd} (h:(yq s r).cd≠0):clL s it c k r=yq s r:=by rw [clL,if_pos h]
theorem zfv {s:Bs} {it:Rd→Rd} {c:Int} {k:Nat} {r:Rd} (h:(yq s r).cd=0) (h2:byt s (yq s r).pos=c):clL s it c k r=shR (atR (yq s r) ((yq s r).pos+1)) k:=by rw [clL,if_neg (by simpa using h),if_pos h2]
theorem zm0 {s:Bs} {it:Rd→Rd} {c:Int} {k:Nat} {r:Rd} (h:(yq s r).cd=0) (h2:¬byt s (yq s r).pos=c) (h3:(it (yq s r)).cd≠0):clL s it c k r=it (yq s r):=by rw [clL,if_neg (by simpa using h),if_neg h2,if_pos h3]
theorem zm2 {s:Bs} {it:Rd→Rd} {c:Int} {k:Nat} {r:Rd} (h:(yq s r).cd=0) (h2:¬byt s (yq s r).pos=c) (h3:(it (yq s r)).cd=0) (h4:(yq s (it (yq s r))).cd≠0):clL s it c k r=yq s (it (yq s r)):=by rw [clL,if_neg (by simpa using h),if_neg h2,if_neg (by simpa using h3),if_pos h4]
theorem zm3 {s:Bs} {it:Rd→Rd} {c:Int} {k:Nat} {r:Rd} (h:(yq s r).cd=0) (h2:¬byt s (yq s r).pos=c) (h3:(it (yq s r)).cd=0) (h4:(yq s (it (yq s r))).cd=0) (h5:(cmR s (yq s (it (yq s r))) c).cd≠0):clL s it c k r=cmR s (yq s (it (yq s r))) c:=by rw [clL,if_neg (by simpa using h),if_neg h2,if_neg (by simpa using h3),if_neg (by simpa using h4),dif_neg (fun h=>h5 h.1)]
theorem zm1 {s:Bs} {it:Rd→Rd} {c:Int} {k:Nat} {r:Rd} (h:(yq s r).cd=0) (h2:¬byt s (yq s r).pos=c) (h3:(it (yq s r)).cd=0) (h4:(yq s (it (yq s r))).cd=0) (h5:(cmR s (yq s (it (yq s r))) c).cd=0∧r.pos<(cmR s (yq s (it (yq s r))) c).pos∧r.pos<s.length):clL s it c k r=clL s it c k (cmR s (yq s (it (yq s r))) c):=by
 conv=>lhs;rw [clL,if_neg (by simpa using h),if_neg h2,if_neg (by simpa using h3),if_neg (by simpa using h4),dif_pos h5]
/-- What an item does. -/
def zj2 (s:Bs) (D:Nat) (it:Rd→Rd):Prop:=∀ r,Ok s r→r.dp=D→(it r).cd=0→Stp s r (it r)
/-- One round of a collection. -/
theorem zch {s:Bs} {it:Rd→Rd} {c:Int} {D:Nat} {r:Rd} (hit:zj2 s D it) (ho:Ok s r) (hd:r.dp=D) (h:(yq s r).cd=0) (h3:(it (yq s r)).cd=0) (h4:(yq s (it (yq s r))).cd=0) (h5:(cmR s (yq s (it (yq s r))) c).cd=0):Stp s r (cmR s (yq s (it (yq s r))) c):=by
 have hg:=wo h;have ho1:=ho.gap h;have hs:=hit _ ho1 (by rw [hg.1];exact hd) h3;have ho2:=hs.ok.gap h4;have hg2:=wo h4;obtain ⟨q,e,h6,h7⟩:=cmR_ok ho2.pos h5;have e1:(yq s r).pos=gpE s r.pos:=by rw [hg.1];rfl
 have e2:(yq s r).ev=r.ev:=by rw [hg.1];rfl
 have e3:(yq s r).hd=r.hd:=by rw [hg.1];rfl
 have e4:(yq s r).bs=r.bs:=by rw [hg.1];rfl
 have e5:(yq s r).dp=r.dp:=by rw [hg.1];rfl
 have h8:=q8 s r.pos;have hlt:=hs.lt;have hpre:=hs.pre;have hpot:=hs.pot;have hhd:=hs.hd;have hbs:=hs.bs;have hdp:=hs.dp;have hok:=hs.ok;rw [e,hg2.1];rw [hg2.1] at h6;generalize it (yq s r)=t at *;have h9:=q8 s t.pos;rw [e2] at hpre;simp only [atR] at h6;exact ⟨hok.at (by omega) h7,by simp only [atR];omega,hpre,hhd.trans e3,hbs.trans e4,hdp.trans e5,by simp only [atR];rw [e2] at hpot;omega⟩
structure Clo (s:Bs) (r r':Rd):Prop where
 ok:Ok s r'
 lt:r.pos<r'.pos
 pre:r.ev <+: r'.ev
 hd:r'.hd=r.hd
 bs:r'.bs=r.bs
 dp:r'.dp+1=r.dp
 pot:r'.ev.length+8 * r.pos≤r.ev.length+8 * r'.pos
theorem clL_ok {s:Bs} {it:Rd→Rd} {c:Int} {D:Nat} (hc:0≤c) (hit:zj2 s D it) (hD:1≤D):∀ (n:Nat) (k:Nat) (r:Rd),s.length-r.pos=n→Ok s r→r.dp=D→k<r.ev.length→(clL s it c k r).cd=0→Clo s r (clL s it c k r):=by
 intro n
 induction n using Nat.strongRecOn with
 | ind n ih=>
 intro k r hn ho hd hk hz;by_cases h:(yq s r).cd=0
 ·by_cases h2:byt s (yq s r).pos=c
  ·rw [zfv h h2] at hz ⊢;have hg:=wo h;have h8:=q8 s r.pos;have hp:=zm h2 hc;rw [hg.1] at hp ⊢;have hpp:=ho.sz;simp only [atR] at hp;refine ⟨⟨ho.cd, ?_, ?_, ?_, ?_, ?_,ho.hd,ho.pf⟩, ?_, ?_,rfl,rfl, ?_, ?_⟩
   ·simp only [shR,atR];omega
   ·simp [shR,atR,ho.dn]
   ·simp only [shR,atR,List.length_append];have:=ho.bs;omega
   ·simp only [shR,atR];have:=ho.dp;omega
   ·simp only [shR,atR,List.length_append,List.length_singleton];omega
   ·simp only [shR,atR];omega
   ·exact List.prefix_append _ _
   ·simp only [shR,atR];omega
   ·simp only [shR,atR,List.length_append,List.length_singleton];omega
  ·by_cases h3:(it (yq s r)).cd=0
   ·by_cases h4:(yq s (it (yq s r))).cd=0
    ·by_cases h5:(cmR s (yq s (it (yq s r))) c).cd=0
     ·have hst:=zch hit ho hd h h3 h4 h5;have hl:r.pos<s.length:=by have:=hst.lt;have:=hst.ok.pos;omega
      rw [zm1 h h2 h3 h4 ⟨h5,hst.lt,hl⟩] at hz ⊢;have hr:=ih (s.length-(cmR s (yq s (it (yq s r))) c).pos) (by have:=hst.lt;omega) k _ rfl hst.ok (by rw [hst.dp];exact hd) (by have:=hst.pre.length_le;omega) hz;exact ⟨hr.ok,by have:=hst.lt;have:=hr.lt;omega,hst.pre.trans hr.pre,hr.hd.trans hst.hd,hr.bs.trans hst.bs,by have:=hr.dp;have:=hst.dp;omega,by have:=hr.pot;have:=hst.pot;have:=hst.lt;have:=hr.lt;omega⟩
     ·rw [zm3 h h2 h3 h4 h5] at hz;exact absurd hz h5
    ·rw [zm2 h h2 h3 h4] at hz;exact absurd hz h4
   ·rw [zm0 h h2 h3] at hz;exact absurd hz h3
 ·rw [zfu h] at hz;exact absurd hz h
theorem z2q {s:Bs} {it:Rd→Rd} {c k:Int} {r:Rd} {p:Pp} (hc:0≤c) (hl:r.pos<s.length) (ho:Ok s r) (hit:r.dp<40→zj2 s (r.dp+1) it) (hz:(coR s it c k r p).cd=0):Stp s r (coR s it c k r p):=by
 unfold coR at hz ⊢;split
 ·rename_i h;rw [if_pos h] at hz;exact absurd hz h
 ·rename_i h;rw [if_neg h] at hz;obtain ⟨e,hd⟩:=zgn (show (opR r k 6 p r.pos).cd=0 by simpa using h);have hsz:=ho.sz;have hok:Ok s (atR (opR r k 6 p r.pos) (r.pos+1)):=by rw [e];refine ⟨ho.cd,hl,by simp [atR,zf,ho.dn],by simp only [atR,zf,List.length_append];have:=ho.bs;omega,by simp only [atR];omega,by simp only [atR,zf,List.length_append,List.length_singleton];omega,ho.hd,ho.pf⟩
  have hr:=clL_ok hc (hit hd) (by omega) _ r.ev.length _ rfl hok (by rw [e];rfl) (by rw [e];simp [atR,zf]) hz;have hlt:=hr.lt;have hpre:=hr.pre;have hpot:=hr.pot;have hhd:=hr.hd;have hbs:=hr.bs;have hdp:=hr.dp;have hok2:=hr.ok;have e1:(atR (opR r k 6 p r.pos) (r.pos+1)).pos=r.pos+1:=rfl;have e2:(atR (opR r k 6 p r.pos) (r.pos+1)).ev=r.ev++[evO k 6 p.an p.tg]:=by rw [e];rfl
  have e3:(atR (opR r k 6 p r.pos) (r.pos+1)).hd=r.hd:=by rw [e];rfl
  have e4:(atR (opR r k 6 p r.pos) (r.pos+1)).bs=r.bs:=by rw [e];rfl
  have e5:(atR (opR r k 6 p r.pos) (r.pos+1)).dp=r.dp+1:=by rw [e];rfl
  generalize clL s it c r.ev.length (atR (opR r k 6 p r.pos) (r.pos+1))=r' at *;rw [e2] at hpre;rw [e2,List.length_append,List.length_singleton] at hpot;exact ⟨hok2,by omega,(List.prefix_append _ _).trans hpre,hhd.trans e3,hbs.trans e4,by omega,by omega⟩
end Go.Pl
namespace Go.Pl
theorem Stp.at0 {s:Bs} {r r':Rd} {q:Nat} (h:Stp s (atR r q) r') (h1:r.pos≤q):Stp s r r' :=
 ⟨h.ok,by have:=h.lt;simp only [atR] at this;omega,h.pre,h.hd,h.bs,h.dp,by have:=h.pot;have:=h.lt;simp only [atR] at *;omega⟩
theorem znj {s:Bs} {r:Rd} {e:Ev} {q q2:Nat} (ho:Ok s r) (h1:r.pos<q2) (h2:q2≤s.length):Stp s r (xd (atR r q) e q2):=
 ⟨⟨ho.cd,h2,by simp [xd,atR,zf,ho.dn],by simp only [xd,atR,zf,List.length_append];have:=ho.bs;omega,ho.dp,by simp only [xd,atR,zf,List.length_append,List.length_singleton];have:=ho.sz;omega,ho.hd,ho.pf⟩,h1,List.prefix_append _ _,rfl,rfl,rfl,by simp only [xd,atR,zf,List.length_append,List.length_singleton];omega⟩
theorem noR_ok {s:Bs} {sb:Rd→Rd} {r:Rd} (ho:Ok s r) (hit:r.dp<40→zj2 s (r.dp+1) sb) (hpa:r.dp<40→zj2 s (r.dp+1) (paR s sb)) (hz:(noR s sb r).cd=0):Stp s r (noR s sb r):=by
 unfold noR at hz ⊢;split
 ·rename_i h;rw [if_pos h] at hz;exact absurd hz h
 ·rename_i h;rw [if_neg h] at hz;obtain ⟨q,e,h1,h2,h3⟩:=zf8 ho.pos ho.cd (show (prF s r).cd=0 by simpa using h);rw [e] at hz ⊢;have ho1:=ho.at h1 h2;unfold boR at hz ⊢;split
  ·rename_i h4;rw [if_pos h4] at hz;exact (z2q (by decide) (zm h4 (by decide)) ho1 hit hz).at0 h1
  ·rename_i h4;rw [if_neg h4] at hz;split
   ·rename_i h5;rw [if_pos h5] at hz;exact (z2q (by decide) (zm h5 (by decide)) ho1 hpa hz).at0 h1
   ·rename_i h5;rw [if_neg h5] at hz;obtain ⟨ev,q2,e2,h6,h7,h8⟩:=zze ho1.pos ho1.cd hz;rw [e2];have h9:r.pos<q2:=by
     cases hh:(prP s true r).has
     ·have:=h8 hh;simp only [atR] at this;omega
     ·have:=h3 hh;simp only [atR] at h6;omega
    exact znj ho h9 h7
theorem zgm {s:Bs} {sb:Rd→Rd} {r:Rd} (ho:Ok s r) (hit:zj2 s r.dp sb) (hz:(paR s sb r).cd=0):Stp s r (paR s sb r):=by
 unfold paR at hz ⊢;split
 ·rename_i h;rw [if_pos h] at hz;exact absurd hz h
 ·rename_i h;rw [if_neg h] at hz;obtain ⟨q,e,h1,h2,h3⟩:=zf8 ho.pos ho.cd (show (prF s r).cd=0 by simpa using h);generalize hb:isQu (byt s (prF s r).pos)=qu at *;rw [e] at hz ⊢;have ho1:=ho.at h1 h2;split
  ·rename_i h4;rw [if_pos h4] at hz;exact absurd hz h4
  ·rename_i h4;rw [if_neg h4] at hz;obtain ⟨ev,q2,e2,h6,h7,h8⟩:=zze ho1.pos ho1.cd (show (scR s (atR r q) (prP s true r) 125 58).cd=0 by simpa using h4);have h9:r.pos<q2:=by
    cases hh:(prP s true r).has
    ·have:=h8 hh;simp only [atR] at this;omega
    ·have:=h3 hh;simp only [atR] at h6;omega
   rw [e2] at hz ⊢;have hs2:=znj (q:=q) (e:=ev) ho h9 h7;split
   ·rename_i h10;rw [if_pos h10] at hz;exact absurd hz h10
   ·rename_i h10;rw [if_neg h10] at hz;have hg:=wo (show (yq s (xd (atR r q) ev q2)).cd=0 by simpa using h10);have hg1:=q8 s q2;have hg2:gpE s q2<s.length:=hg.2;have e3:yq s (xd (atR r q) ev q2)=xd (atR r q) ev (gpE s q2):=hg.1;rw [e3] at hz ⊢;have T2:∀ q4,r.pos<q4→q4≤s.length→Stp s r (yb (xd (atR r q) ev q4) 1 [] [] []):=fun q4 hq4 hq5=>
     ⟨⟨ho.cd,hq5,by simp [xd,atR,zf,yb,ho.dn],by simp only [xd,atR,zf,yb,List.length_append];have:=ho.bs;omega,ho.dp,by simp only [xd,atR,zf,yb,List.length_append,List.length_singleton];have:=ho.sz;omega,ho.hd,ho.pf⟩,hq4,(List.prefix_append _ _).trans (List.prefix_append _ _),rfl,rfl,rfl,by simp only [xd,atR,zf,yb,List.length_append,List.length_singleton];omega⟩
    unfold paK at hz ⊢;split
    ·rename_i h11;rw [if_pos h11] at hz;have hp11:gpE s q2<s.length:=hg2;unfold paV at hz ⊢;split
     ·rename_i h12;rw [if_pos h12] at hz;exact absurd hz h12
     ·rename_i h12;rw [if_neg h12] at hz;have e4:atR (xd (atR r q) ev (gpE s q2)) ((xd (atR r q) ev (gpE s q2)).pos+1)=xd (atR r q) ev (gpE s q2+1):=rfl;rw [e4] at hz ⊢ h12;have hg4:=wo (show (yq s (xd (atR r q) ev (gpE s q2+1))).cd=0 by simpa using h12);have e5:yq s (xd (atR r q) ev (gpE s q2+1))=xd (atR r q) ev (gpE s (gpE s q2+1)):=hg4.1;have hg5:=q8 s (gpE s q2+1);have hg6:gpE s (gpE s q2+1)<s.length:=hg4.2;rw [e5] at hz ⊢;split
      ·exact T2 _ (by omega) (by omega)
      ·rename_i h13;rw [if_neg h13] at hz;have hs4:=znj (q:=q) (e:=ev) (q2:=gpE s (gpE s q2+1)) ho (by omega) (by omega);have hr:=hit _ hs4.ok hs4.dp hz;exact ⟨hr.ok,by have:=hs4.lt;have:=hr.lt;omega,hs4.pre.trans hr.pre,hr.hd.trans hs4.hd,hr.bs.trans hs4.bs,hr.dp.trans hs4.dp,by have:=hr.pot;have:=hs4.pot;have:=hr.lt;omega⟩
    ·exact T2 _ (by omega) (by omega)
/-- A node's reader,at a depth. -/
theorem zel {s:Bs}:∀ (d:Nat) (r:Rd),Ok s r→r.dp+d=40→(noF s d r).cd=0→Stp s r (noF s d r)
 | 0,r,ho,hd,hz=>noR_ok ho (fun h=>by omega) (fun h=>by omega) hz
 | d+1,r,ho,hd,hz=>by have hit:zj2 s (r.dp+1) (noF s d):=fun r1 h1 h2 h3=>zel d r1 h1 (by omega) h3;exact noR_ok ho (fun _=>hit) (fun _ r1 h1 h2 h3=>zgm h1 (by rw [h2];exact hit) h3) hz
end Go.Pl
namespace Go.Pl
theorem z0r {s:Bs} {r F x:Rd} (ho:Ok s r) (hF:F=prF s r) (hFz:F.cd=0) (hx:x=scR s F (prP s true r) 125 58) (hxz:x.cd=0):Stp s r x:=by
 obtain ⟨q,e,h1,h2,h3⟩:=zf8 ho.pos ho.cd (show (prF s r).cd=0 by rw [←hF];exact hFz);have ho1:=ho.at h1 h2;rw [hF,e] at hx;obtain ⟨ev,q2,e2,h6,h7,h8⟩:=zze ho1.pos ho1.cd (show (scR s (atR r q) (prP s true r) 125 58).cd=0 by rw [←hx];exact hxz);have h9:r.pos<q2:=by
  cases hh:(prP s true r).has
  ·have:=h8 hh;simp only [atR] at this;omega
  ·have:=h3 hh;simp only [atR] at h6;omega
 rw [hx,e2];exact znj ho h9 h7
end Go.Pl
end
section
namespace Go.Pl
open Go.Vg (lookS zaw)
def prZ (s:Bs) (fl:Bool) (r:Rd):Rd:=if fl=true then prF s r else prR s fl r
structure PrA (s:Bs) (fl:Bool) (r x:Rd) (p:Pp):Prop where
 cd:x.cd=0
 at':x=atR r x.pos
 pos:x.pos≤s.length
 rest:prs s r.hd fl x.pos p=prs s r.hd fl r.pos (ppz r.pos)
 stop:fl=true→p.has=true→jm s x=x
def PrI (s:Bs) (fl:Bool) (r x:Rd) (p:Pp):Prop:=PrA s fl r x p∨(x.cd≠0∧x=prZ s fl r)
theorem zz4 {s:Bs} {fl:Bool} {r:Rd} (h:r.cd=0) (hl:r.pos≤s.length):PrA s fl r r (ppz r.pos):=⟨h,rfl,hl,rfl,fun _ h=>by cases h⟩
theorem stop_pr {s:Bs} {r:Rd} (hc:r.cd=0) (h:(jm s r).cd≠0):zfs s r.pos=false:=by
 unfold jm at h;by_cases h1:s.length≤r.pos
 ·cases hi:zfs s r.pos with
  | false=>rfl
  | true=>have:=zjc hi;omega
 rw [if_neg h1] at h;by_cases h2:mkA s r.pos≠0
 ·cases hi:zfs s r.pos with
  | false=>rfl
  | true=>
   refine absurd ?_ h2;by_cases h3:la s r.pos=r.pos∧r.pos+3≤s.length∧gap s (r.pos+3)=true
   ·have hb:=zw (s:=s) (i:=r.pos) (by omega);have hs:∃ t,sub s r.pos (r.pos+3)=s.getD r.pos 0::t:=by unfold sub;rw [List.drop_eq_getElem_cons (by simp only [List.length_take];omega)];refine ⟨_,by rw [List.getElem_take,List.getD_eq_getElem?_getD,List.getElem?_eq_getElem (by omega)];rfl⟩
    obtain ⟨t,ht⟩:=hs;unfold mkA;rw [if_pos h3,ht];have hv:(s.getD r.pos 0).toNat=38∨(s.getD r.pos 0).toNat=33:=by unfold zfs at hi;have:=of_decide_eq_true hi;omega
    rw [if_neg,if_neg]
    ·intro e;simp only [List.cons.injEq] at e;rw [e.1] at hv;simp at hv
    ·intro e;simp only [List.cons.injEq] at e;rw [e.1] at hv;simp at hv
   ·exact zss h3
 ·rw [if_neg h2] at h;exact absurd hc h
theorem prA_end {s:Bs} {fl:Bool} {r x:Rd} {p:Pp} (h:PrA s fl r x p) (hn:zfs s x.pos=false):prZ s fl r=x∧prP s fl r=p:=by
 have e:prs s r.hd fl r.pos (ppz r.pos)=(x.pos,p,0):=by rw [←h.rest,prs,dif_neg (by rintro ⟨h9,_⟩;rw [h9] at hn;cases hn),if_neg (by intro h9;rw [h9] at hn;cases hn)]
 have hR:prR s fl r=x:=by unfold prR;simp only [e,if_pos];exact h.at'.symm
 have hP:prP s fl r=p:=by unfold prP;rw [e]
 refine ⟨?_,hP⟩;unfold prZ;split
 ·rename_i hf;subst hf;unfold prF;rw [hR,hP];split
  ·rename_i h9;exact h.stop rfl h9.2
  ·rfl
 ·exact hR
theorem zsd {s:Bs} {fl:Bool} {r x:Rd} {p:Pp} {c:Int} (h:PrA s fl r x p) (hp:zfs s x.pos=true) (hb:(prA s r.hd fl x.pos p).2=c) (hc:c≠0):prZ s fl r=flt x c x.pos:=by
 have e:prs s r.hd fl r.pos (ppz r.pos)=(x.pos,(prA s r.hd fl x.pos p).1,c):=by rw [←h.rest,prs,dif_neg (by rintro ⟨_,h9⟩;exact hc (hb.symm.trans h9)),if_pos hp,hb]
 have hR:prR s fl r=flt x c x.pos:=by unfold prR;simp only [e,if_neg hc];rw [←h.at']
 unfold prZ;split
 ·rename_i hf;subst hf;unfold prF;rw [hR,if_neg];rintro ⟨h9,_⟩;exact hc h9
 ·exact hR
theorem zux {s:Bs} {fl:Bool} {r x:Rd} {p p':Pp} (h:PrA s fl r x p) (hp:zfs s x.pos=true) (hb:prA s r.hd fl x.pos p=(p',0)) :
  x.pos+1≤p'.en∧p'.en≤s.length∧(fl=false→PrA s fl r (atR x (wh s p'.en)) p')∧(fl=true→PrI s fl r (yq s (atR x (wh s p'.en))) p'∧(yq s (atR x (wh s p'.en))).pos=gpE s p'.en):=by
 have hb2:(prA s r.hd fl x.pos p).2=0:=by rw [hb]
 have hb1:(prA s r.hd fl x.pos p).1=p':=by rw [hb]
 have hpl:=u4 h.pos hb2;rw [hb1] at hpl;have hnx:=zbt (s:=s) (fl:=fl) hpl.2.1;have e:prs s r.hd fl (nxP s fl p'.en) p'=prs s r.hd fl r.pos (ppz r.pos):=by rw [←h.rest,prs.eq_def s r.hd fl x.pos p,dif_pos ⟨hp,hb2⟩,hb1]
 refine ⟨hpl.1,hpl.2.1,fun hf=>?_,fun hf=>?_⟩
 ·have hn:nxP s fl p'.en=wh s p'.en:=by unfold nxP;rw [hf];rfl
  rw [hn] at e hnx;exact ⟨h.cd,by rw [h.at'];rfl,hnx.2,e,fun h9=>by rw [hf] at h9;cases h9⟩
 ·have hn:nxP s fl p'.en=gpE s p'.en:=by unfold nxP;rw [if_pos hf]
  rw [hn] at e hnx;have hg:yq s (atR x (wh s p'.en))=jm s (atR r (gpE s p'.en)):=by unfold yq;rw [h.at'];simp only [atR];rw [zv1]
  have hc:r.cd=0:=by have:=h.cd;rw [h.at'] at this;exact this
  rw [hg];refine ⟨?_, ?_⟩
  ·by_cases hz:(jm s (atR r (gpE s p'.en))).cd=0
   ·have:=zhj hz;rw [this.1];exact .inl ⟨hc,rfl,hnx.2,e,fun _ _=>this.1⟩
   ·refine .inr ⟨hz, ?_⟩;have hi:=stop_pr (r:=atR r (gpE s p'.en)) hc hz;have e2:prs s r.hd fl r.pos (ppz r.pos)=(gpE s p'.en,p',0):=by rw [←e,prs,dif_neg (by rintro ⟨h9,_⟩;rw [show (atR r (gpE s p'.en)).pos=gpE s p'.en from rfl] at hi;rw [h9] at hi;cases hi),if_neg (by intro h9;rw [show (atR r (gpE s p'.en)).pos=gpE s p'.en from rfl] at hi;rw [h9] at hi;cases hi)]
    subst hf;have hR:prR s true r=atR r (gpE s p'.en):=by unfold prR;simp only [e2,if_pos]
    have hP:prP s true r=p':=by unfold prP;rw [e2]
    unfold prZ prF;rw [if_pos rfl,hR,hP,if_pos ⟨hc,hpl.2.2⟩]
  ·unfold jm;split
   ·rfl
   ·split<;>rfl
theorem bhd_ix {s:Bs} {fl:Bool} {e:Nat}:(!gap s e&&!(fl&&flw ((s.getD e 0).toNat:Int)))=!bhd s fl e:=by
 unfold bhd;cases hg:gap s e with
 | true=>simp
 | false=>rw [zw (wk hg)];simp
theorem scR_x {s:Bs} {r:Rd} {p:Pp} {c1 c2:Int} (h:sqB s r true=true):scR s r p c1 c2=scX s r p (-1) true:=by
 unfold sqB at h;unfold scR scX;by_cases h1:byt s r.pos=42
 ·rw [if_pos h1,if_pos h1]
 rw [if_neg h1,if_neg h1];by_cases h2:isQu (byt s r.pos)=true
 ·rw [if_pos h2,if_pos h2]
 rw [if_neg h2,if_neg h2];have h3:pfA s r.pos true=true:=by simpa [h1,h2] using h
 rw [if_pos h3,if_pos h3]
theorem scR_n {s:Bs} {r:Rd} {p:Pp} {c1 c2:Int} (h:sqB s r true=false):scX s r p (-1) true=r∧scR s r p c1 c2=if p.has=true∧(byt s r.pos=44∨byt s r.pos=c1∨byt s r.pos=c2) then yb r 1 [] p.an p.tg else flt r 10 r.pos:=by
 unfold sqB at h;simp only [Bool.or_eq_false_iff,decide_eq_false_iff_not] at h;obtain ⟨⟨h1,h2⟩,h3⟩:=h;have h2':¬isQu (byt s r.pos)=true:=by simp [h2]
 have h3':¬pfA s r.pos true=true:=by simp [h3]
 unfold scR scX;rw [if_neg h1,if_neg h1,if_neg h2',if_neg h2',if_neg h3',if_neg h3'];exact ⟨rfl,rfl⟩
theorem z14 (s:Bs) (r:Rd):(jm s r).ev=r.ev:=by
 unfold jm;split
 ·rfl
 ·split<;>rfl
theorem zms (s:Bs) (r:Rd):(yq s r).ev=r.ev:=z14 s _
theorem zmr (s:Bs) (fl:Bool) (r:Rd):(prR s fl r).ev=r.ev:=by unfold prR;split<;>rfl
theorem ev_prF (s:Bs) (r:Rd):(prF s r).ev=r.ev:=by
 unfold prF;split
 ·rw [z14,zmr]
 ·exact zmr s true r
theorem ev_cmR (s:Bs) (r:Rd) (c:Int):(cmR s r c).ev=r.ev:=by
 unfold cmR;split
 ·rfl
 ·split<;>rfl
theorem z13 (r:Rd) (st:Int) (t a g:Bs):(yb r st t a g).ev.length=r.ev.length+1:=by simp [yb,zf]
theorem ev_shR (r:Rd) (k:Nat):(shR r k).ev.length=r.ev.length+1:=by simp [shR]
theorem ev_scR (s:Bs) (r:Rd) (p:Pp) (c1 c2:Int):(scR s r p c1 c2).ev.length≤r.ev.length+1:=by
 unfold scR alR qtR plR
 repeat' split
 all_goals simp [yb,zf,flt,atR]
theorem z15 (r:Rd) (k st:Int) (p:Pp) (sg:Nat):(opR r k st p sg).ev.length≤r.ev.length+1:=by
 unfold opR;split
 ·simp [flt]
 ·simp [zf]
def ItSz (s:Bs) (D:Nat) (it:Rd→Rd):Prop:=∀ r,Ok s r→r.dp=D→(it r).ev.length≤8 * s.length+66
theorem clL_sz {s:Bs} {it:Rd→Rd} {c:Int} {D:Nat} (hit:zj2 s D it) (hsz:ItSz s D it):∀ (n k:Nat) (r:Rd),s.length-r.pos=n→Ok s r→r.dp=D→(clL s it c k r).ev.length≤8 * s.length+66:=by
 intro n
 induction n using Nat.strongRecOn with
 | ind n ih=>
  intro k r hn ho hd;have h1:=ho.sz;have h2:=ho.pos;refine Decidable.byCases (p:=(yq s r).cd=0) (fun hg=>?_) (fun hg=>by rw [zfu hg,zms];omega);have hgo:=ho.gap hg;have hgd:(yq s r).dp=D:=by rw [(wo hg).1];exact hd
  by_cases hb:byt s (yq s r).pos=c
  ·rw [zfv hg hb,ev_shR];show (yq s r).ev.length+1≤_;rw [zms];omega
  have hI:=hsz _ hgo hgd;refine Decidable.byCases (p:=(it (yq s r)).cd=0) (fun h3=>?_) (fun h3=>by rw [zm0 hg hb h3];exact hI);refine Decidable.byCases (p:=(yq s (it (yq s r))).cd=0) (fun h4=>?_) (fun h4=>by rw [zm2 hg hb h3 h4,zms];exact hI);refine Decidable.byCases (p:=(cmR s (yq s (it (yq s r))) c).cd=0) (fun h5=>?_) (fun h5=>by rw [zm3 hg hb h3 h4 h5,ev_cmR,zms];exact hI);have hrd:=zch hit ho hd hg h3 h4 h5;have hlt:=hrd.lt;have hps:=hrd.ok.pos;rw [zm1 hg hb h3 h4 ⟨h5,hlt,by omega⟩];exact ih _ (by omega) k _ rfl hrd.ok (hrd.dp.trans hd)
theorem zwd {s:Bs} {it:Rd→Rd} {c k:Int} {r:Rd} {p:Pp} (hl:r.pos<s.length) (ho:Ok s r) (hit:r.dp<40→zj2 s (r.dp+1) it) (hsz:r.dp<40→ItSz s (r.dp+1) it):(coR s it c k r p).ev.length≤8 * s.length+66:=by
 have h1:=ho.sz;have h8:=ho.bs;unfold coR;by_cases hz:(opR r k 6 p r.pos).cd=0
 ·rw [if_neg (by simpa using hz)];obtain ⟨e,hd⟩:=zgn hz;refine clL_sz (D:=r.dp+1) (hit hd) (hsz hd) _ _ _ rfl ?_ (by rw [e];rfl);rw [e];exact ⟨ho.cd,hl,by simp [atR,zf,ho.dn],by simp only [atR,zf,List.length_append];omega,by simp only [atR];omega,by simp only [atR,zf,List.length_append,List.length_singleton];omega,ho.hd,ho.pf⟩
 ·rw [if_pos hz];have:=z15 r k 6 p r.pos;omega
theorem paR_sz {s:Bs} {sb:Rd→Rd} {r:Rd} (ho:Ok s r) (hsz:ItSz s r.dp sb):(paR s sb r).ev.length≤8 * s.length+66:=by
 have h1:=ho.sz;have h2:=ho.pos;have eF:=ev_prF s r;obtain ⟨F,hF⟩:∃ F,F=prF s r:=⟨_,rfl⟩
 unfold paR;rw [←hF] at eF ⊢;by_cases hFz:F.cd=0
 ·rw [if_neg (by simpa using hFz)];have eS:=ev_scR s F (prP s true r) 125 58;obtain ⟨x,hx⟩:∃ x,x=scR s F (prP s true r) 125 58:=⟨_,rfl⟩
  rw [←hx] at eS ⊢;rw [eF] at eS;by_cases hxz:x.cd=0
  ·rw [if_neg (by simpa using hxz)];have hst:=z0r ho hF hFz hx hxz;have hxo:=hst.ok;have eG:=zms s x;by_cases hgz:(yq s x).cd=0
   ·rw [if_neg (by simpa using hgz)];have hgo:=hxo.gap hgz;have hgd:(yq s x).dp=r.dp:=by rw [(wo hgz).1];exact hst.dp
    have hgp:(yq s x).pos<s.length:=by obtain ⟨e9,h9⟩:=wo hgz;rw [e9];exact h9
    generalize yq s x=g at *;unfold paK;split
    ·unfold paV;have eH:(yq s (atR g (g.pos+1))).ev=g.ev:=zms s (atR g (g.pos+1));by_cases hz:(yq s (atR g (g.pos+1))).cd=0
     ·rw [if_neg (by simpa using hz)];split
      ·rw [z13,eH,eG];omega
      ·refine hsz _ ((hgo.at (q:=g.pos+1) (by omega) hgp).gap hz) ?_;rw [(wo hz).1];exact hgd
     ·rw [if_pos hz,eH,eG];omega
    ·rw [z13,eG];omega
   ·rw [if_pos hgz,eG];omega
  ·rw [if_pos hxz];omega
 ·rw [if_pos hFz,eF];omega
theorem noR_sz {s:Bs} {sb:Rd→Rd} {r:Rd} (ho:Ok s r) (hit:r.dp<40→zj2 s (r.dp+1) sb) (hsz:r.dp<40→ItSz s (r.dp+1) sb):(noR s sb r).ev.length≤8 * s.length+66:=by
 have h1:=ho.sz;have h2:=ho.pos;have eF:=ev_prF s r;unfold noR;by_cases hFz:(prF s r).cd=0
 ·rw [if_neg (by simpa using hFz)];have hFo:=ho.prF hFz;have hFd:(prF s r).dp=r.dp:=by obtain ⟨q9,e9,_⟩:=zf8 ho.pos ho.cd hFz;rw [e9];rfl
  generalize prF s r=F at *;unfold boR;split
  ·rename_i hb;exact zwd (zm hb (by decide)) hFo (by rw [hFd];exact hit) (by rw [hFd];exact hsz)
  ·split
   ·rename_i hb;refine zwd (zm hb (by decide)) hFo (fun h=>?_) (fun h=>?_)
    ·rw [hFd] at h ⊢;exact fun r2 k1 k2 k3=>zgm k1 (by rw [k2];exact hit h) k3
    ·rw [hFd] at h ⊢;exact fun r2 k1 k2=>paR_sz k1 (by rw [k2];exact hsz h)
   ·have:=ev_scR s F (prP s true r) 93 125;rw [eF] at this;omega
 ·rw [if_pos hFz,eF];omega
theorem noF_sz {s:Bs}:∀ (d:Nat) (r:Rd),Ok s r→r.dp+d=40→(noF s d r).ev.length≤8 * s.length+66
 | 0,r,ho,hd=>noR_sz ho (fun h=>by omega) (fun h=>by omega)
 | d+1,r,ho,hd=>noR_sz ho (fun h r1 h1 h2 h3=>zel d r1 h1 (by omega) h3) (fun h r1 h1 h2=>noF_sz d r1 h1 (by omega))
end Go.Pl
end
