/- How the reader of the flow style goes on: places, events, depths. -/
import Derived.Test.YtgippllfnmdnpaaGreatDoorSAS
import Derived.Lib.Join
section
set_option linter.unusedVariables false
set_option linter.unusedSimpArgs false
set_option linter.unusedSectionVars false
set_option linter.unnecessarySimpa false
namespace Go.Pl
open Go.Vg (lookS u4)
structure Ok (s:Bs) (r:Rd):Prop where
 cd:r.cd=0
 pos:r.pos≤s.length
 dn:r.dn.length=r.ev.length
 bs:r.bs≤r.ev.length
 dp:r.dp≤40
 sz:r.ev.length≤8 * r.pos+64
 hd:r.hd.length≤1048576
 pf:∀ h∈r.hd,h.pre.length≤1048576
/-- From one state to a later one,behind a node. -/
structure Stp (s:Bs) (r r':Rd):Prop where
 ok:Ok s r'
 lt:r.pos<r'.pos
 pre:r.ev <+: r'.ev
 hd:r'.hd=r.hd
 bs:r'.bs=r.bs
 dp:r'.dp=r.dp
 pot:r'.ev.length+8 * r.pos≤r.ev.length+8 * r'.pos
theorem Ok.size {s:Bs} {r:Rd} (h:Ok s r) (hs:s.length≤1048576):r.ev.length≤8388672:=by
 have:=h.sz;have:=h.pos;omega
theorem Ok.at {s:Bs} {r:Rd} {q:Nat} (h:Ok s r) (h1:r.pos≤q) (h2:q≤s.length):Ok s (atR r q):=
 ⟨h.cd,h2,h.dn,h.bs,h.dp,by have:=h.sz;simp only [atR];omega,h.hd,h.pf⟩
theorem zlq {s:Bs} {r:Rd} (h:(kx s r).cd=0):kx s r=r∧r.pos<s.length∧mkA s r.pos=0:=by
 unfold kx at h ⊢
 split
 ·rename_i h1;rw [if_pos h1] at h;simp [flt] at h
 ·rename_i h1
  rw [if_neg h1] at h
  split
  ·rename_i h2;rw [if_pos h2] at h;simp [flt] at h
  ·rename_i h2;exact ⟨rfl,by omega,by simpa using h2⟩
theorem w8 {s:Bs} {r:Rd} (h:(yr s r).cd=0):yr s r=atR r (gpE s r.pos)∧gpE s r.pos<s.length:=by
 have:=zlq (s:=s) (r:=atR r (gpE s r.pos)) h
 exact ⟨this.1,this.2.1⟩
theorem Ok.gap {s:Bs} {r:Rd} (h:Ok s r) (hg:(yr s r).cd=0):Ok s (yr s r):=by
 rw [(w8 hg).1]
 exact h.at (wl s r.pos) (qr s r.pos h.pos)
theorem zg9 {s:Bs} {hd:List Hd} {fl:Bool} {pos:Nat} {p:Pp} (hl:pos≤s.length) :
  pos≤(prs s hd fl pos p).1∧(prs s hd fl pos p).1≤s.length∧((prs s hd fl pos p).2.2=0→(prs s hd fl pos p).2.1.has=true→p.has=true∨pos<(prs s hd fl pos p).1)∧(p.has=true→(prs s hd fl pos p).2.2=0→(prs s hd fl pos p).2.1.has=true):=by
 fun_induction prs s hd fl pos p with
 | case1 pos p h ih=>
  have h1:=zdt hl h.2
  have h2:=zd3 (s:=s) (fl:=fl) h1.2.1
  have h3:=ih h2.2
  refine ⟨by omega,h3.2.1,fun _ _=>.inr (by omega),fun _ h0=>h3.2.2.2 h1.2.2 h0⟩
 | case2 pos p h=>
  simp only
  refine ⟨Nat.le_refl _,hl, ?_, ?_⟩
  ·split
   ·rename_i h1
    intro h2 h3
    exact absurd ⟨h1,h2⟩ h
   ·intro _ h3;exact .inl h3
  ·split
   ·rename_i h1
    intro _ h2
    exact absurd ⟨h1,h2⟩ h
   ·intro h3 _;exact h3
theorem vg {s:Bs} {fl:Bool} {r:Rd} (hl:r.pos≤s.length) (h0:r.cd=0) (h:(prR s fl r).cd=0):∃ q,prR s fl r=atR r q∧r.pos≤q∧q≤s.length∧((prP s fl r).has=true→r.pos<q)∧(prs s r.hd fl r.pos (ppz r.pos)).2.2=0:=by
 have hp:=zg9 (s:=s) (hd:=r.hd) (fl:=fl) (p:=ppz r.pos) hl
 unfold prR at h ⊢
 split
 ·rename_i h1
  refine ⟨_,rfl,hp.1,hp.2.1,fun h2=>?_,h1⟩
  rcases hp.2.2.1 h1 h2 with h3 | h3
  ·cases h3
  ·exact h3
 ·rename_i h1
  rw [if_neg h1] at h
  exact absurd h h1
theorem zft {s:Bs} {r:Rd} (hl:r.pos≤s.length) (h0:r.cd=0) (h:(prF s r).cd=0):∃ q,prF s r=atR r q∧r.pos≤q∧q≤s.length∧((prP s true r).has=true→r.pos<q):=by
 unfold prF at h ⊢
 split
 ·rename_i h1
  rw [if_pos h1] at h
  obtain ⟨q,e,h2,h3,h4,_⟩:=vg hl h0 h1.1
  rw [(zlq h).1]
  exact ⟨q,e,h2,h3,h4⟩
 ·rename_i h1
  rw [if_neg h1] at h
  obtain ⟨q,e,h2,h3,h4,_⟩:=vg hl h0 h
  exact ⟨q,e,h2,h3,h4⟩
theorem Ok.prF {s:Bs} {r:Rd} (h:Ok s r) (hf:(prF s r).cd=0):Ok s (prF s r):=by
 obtain ⟨q,e,h2,h3,_⟩:=zft h.pos h.cd hf
 rw [e];exact h.at h2 h3
/-- An event more,at a later place. -/
def vf (r:Rd) (e:Ev) (q:Nat):Rd:=atR (zn r e true) q
theorem Ok.put {s:Bs} {r:Rd} {e:Ev} {q:Nat} (h:Ok s r) (h1:r.pos<q∨r.ev.length+1≤8 * r.pos+64∧r.pos≤q) (h2:q≤s.length):Ok s (vf r e q):=
 ⟨h.cd,h2,by simp [vf,atR,zn,h.dn],by simp only [vf,atR,zn,List.length_append];have:=h.bs;omega,h.dp,by simp only [vf,atR,zn,List.length_append,List.length_singleton];have:=h.sz;omega,h.hd,h.pf⟩
theorem zg7 {s:Bs} {p:Nat} (hb:zff (byt s p)=true) (h0:(qtA s p).2.2=0):p+1<(qtA s p).2.1∧(qtA s p).2.1≤s.length:=by
 have hl:p≤s.length:=by
  unfold zff at hb
  simp only [Bool.or_eq_true,beq_iff_eq] at hb
  rcases hb with h | h
  ·exact Nat.le_of_lt (zx h (by decide))
  ·exact Nat.le_of_lt (zx h (by decide))
 unfold qtA at h0 ⊢
 split
 ·rename_i h1;rw [if_pos h1] at h0
  have:=zin hl
  have:=this.2.2 h0
  omega
 ·rename_i h1;rw [if_neg h1] at h0
  have:=zg4 hl
  have:=this.2.2 h0
  omega
end Go.Pl
namespace Go.Pl
theorem zha {s:Bs} {p:Nat} {fl:Bool} (h:pfA s p fl=true):gap s p=false∧¬s.getD p 0∈pfL∧(byt s p=58→gap s (p+1)=false∧¬(fl=true∧flw (byt s (p+1))=true)):=by
 unfold pfA at h
 simp only [Bool.and_eq_true,Bool.not_eq_true',decide_eq_false_iff_not] at h
 refine ⟨h.1.1,h.1.2,fun h2=>?_⟩
 have h3:=h.2
 simp only [h2,decide_true,Bool.or_true,Bool.not_true,Bool.false_or,Bool.and_eq_true,Bool.not_eq_true',Bool.and_eq_false_iff] at h3
 refine ⟨h3.1,fun h4=>?_⟩
 rcases h3.2 with h5 | h5
 ·rw [h4.1] at h5;cases h5
 ·rw [h4.2] at h5;cases h5
theorem pfL_flw {s:Bs} {p:Nat} (hl:p<s.length) (h:¬s.getD p 0∈pfL):flw (byt s p)=false:=by
 rw [kv hl]
 unfold flw
 generalize s.getD p 0=c at h ⊢
 have h1:∀ n:Nat,n<256→(UInt8.ofNat n)∈pfL→¬(c.toNat:Int)=n:=fun n hn hm he=>by
  rw [zbk hn] at he;rw [he] at h;exact h hm
 have a:=h1 44 (by decide) (by decide)
 have b:=h1 91 (by decide) (by decide)
 have d:=h1 93 (by decide) (by decide)
 have e:=h1 123 (by decide) (by decide)
 have f:=h1 125 (by decide) (by decide)
 simp only [Int.cast_ofNat_Int] at a b d e f
 simp [a,b,d,e,f]
theorem plE_gt {s:Bs} {p:Nat} {fl:Bool} (h:pfA s p fl=true):p<plE s p fl:=by
 obtain ⟨h1,h2,h3⟩:=zha h
 have hl:=ui h1
 have hB:isB s p=false:=by unfold gap at h1;rw [Bool.or_eq_false_iff] at h1;exact h1.2
 have hW:isW s p=false:=by unfold gap at h1;rw [Bool.or_eq_false_iff] at h1;exact h1.1
 have hX:peX s p fl p=false:=by
  unfold peX
  rw [pfL_flw hl h2]
  simp only [Nat.lt_irrefl,decide_false,Bool.and_false,Bool.false_and,Bool.false_or,Bool.or_false]
  by_cases h58:byt s p=58
  ·have:=h3 h58
   rw [this.1,decide_eq_true h58]
   cases fl
   ·rfl
   ·cases hf:flw (byt s (p+1))
    ·rfl
    ·exact absurd ⟨rfl,hf⟩ this.2
  ·rw [decide_eq_false h58];rfl
 have h4:p+1≤pe1 s p fl p:=by rw [pe1_t ⟨hB,hX⟩];exact pe1_ge s p fl (p+1)
 unfold plE
 have key:∀ q,p<q→p<bkW s p q:=by
  intro q
  induction q with
  | zero=>omega
  | succ q ih=>
   intro hq
   unfold bkW
   split
   ·rename_i h5
    rcases Nat.lt_or_ge p q with h6 | h6
    ·exact ih h6
    ·obtain rfl:p=q:=by omega
     rw [hW] at h5;cases h5.2
   ·exact hq
 exact key _ h4
theorem zyc (s:Bs) (e:Nat) (n:Int) (fl:Bool) (L:List Pc) (h:e≤s.length):e≤(plA s e n fl L).2∧(plA s e n fl L).2≤s.length:=by
 fun_induction plA s e n fl L with
 | case1 e L h1 ih=>
  have h2:=zd4 h1
  have h3:=zfu s (nxA s e n fl).1 fl h2.2.1
  have:=ih h3
  omega
 | case2 e L h1=>exact ⟨Nat.le_refl _,h⟩
theorem zoa {s:Bs} {p:Nat} {n:Int} {fl:Bool} (h:pfA s p fl=true):p<(ptA s p n fl).2.1∧(ptA s p n fl).2.1≤s.length:=by
 have h1:=plE_gt h
 have h2:=zfu s p fl (Nat.le_of_lt (ui (zha h).1))
 have h3:=zyc s (plE s p fl) n fl [⟨sub s p (plE s p fl),false⟩] h2
 unfold ptA
 rw [if_pos h]
 simp only;omega
/-- What a scalar or alias leaves. -/
theorem zxm {s:Bs} {r:Rd} {p:Pp} {c1 c2:Int} (hl:r.pos≤s.length) (h0:r.cd=0) (h:(scR s r p c1 c2).cd=0):∃ e q,scR s r p c1 c2=vf r e q∧r.pos≤q∧q≤s.length∧(p.has=false→r.pos<q):=by
 unfold scR at h ⊢
 split
 ·rename_i h1
  rw [if_pos h1] at h
  unfold alR at h ⊢
  split
  ·rename_i h2;rw [if_pos h2] at h;simp [flt] at h
  ·rename_i h2;rw [if_neg h2] at h
   have hp:=zaz (by simpa using h2)
   split
   ·rename_i h3;rw [if_pos h3] at h;simp [flt] at h
   ·rename_i h3;rw [if_neg h3] at h
    split
    ·exact ⟨_,_,rfl,by omega,by omega,fun _=>by omega⟩
    ·rename_i h4;rw [if_neg h4] at h;simp [flt] at h
 ·rename_i h1
  rw [if_neg h1] at h
  split
  ·rename_i h2
   rw [if_pos h2] at h
   unfold qtR at h ⊢
   split
   ·rename_i h3
    rw [if_pos h3] at h
    exact absurd h h3
   ·rename_i h3
    have:=zg7 h2 (by simpa using h3)
    exact ⟨_,_,rfl,by omega,this.2,fun _=>by omega⟩
  ·rename_i h2
   rw [if_neg h2] at h
   split
   ·rename_i h3
    have:=zoa (n := -1) h3
    exact ⟨_,_,rfl,by omega,this.2,fun _=>this.1⟩
   ·rename_i h3
    rw [if_neg h3] at h
    split
    ·rename_i h4
     exact ⟨evT 1 [] p.an p.tg,r.pos,rfl,Nat.le_refl _,hl,fun h5=>by rw [h5] at h4;cases h4.1⟩
    ·rename_i h4;rw [if_neg h4] at h;simp [flt] at h
theorem zhq {r:Rd} {k st:Int} {p:Pp} {sg:Nat} (h:(opR r k st p sg).cd=0):opR r k st p sg={ zn r (evO k st p.an p.tg) false with dp:=r.dp+1 }∧r.dp<40:=by
 unfold opR at h ⊢
 split
 ·rename_i h1;rw [if_pos h1] at h;simp [flt] at h
 ·exact ⟨rfl,by omega⟩
theorem cmR_ok {s:Bs} {r:Rd} {c:Int} (hl:r.pos≤s.length) (h:(cmR s r c).cd=0):∃ q,cmR s r c=atR r q∧r.pos≤q∧q≤s.length:=by
 unfold cmR at h ⊢
 split
 ·rename_i h1;exact ⟨r.pos+1,rfl,by omega,zx h1 (by decide)⟩
 ·rename_i h1
  rw [if_neg h1] at h
  split
  ·exact ⟨r.pos,rfl,Nat.le_refl _,hl⟩
  ·rename_i h2;rw [if_neg h2] at h;simp [flt] at h
end Go.Pl
namespace Go.Pl
theorem zio {s:Bs} {it:Rd→Rd} {c:Int} {k:Nat} {r:Rd} (h:(yr s r).cd≠0):clL s it c k r=yr s r:=by rw [clL,if_pos h]
theorem zip {s:Bs} {it:Rd→Rd} {c:Int} {k:Nat} {r:Rd} (h:(yr s r).cd=0) (h2:byt s (yr s r).pos=c):clL s it c k r=shR (atR (yr s r) ((yr s r).pos+1)) k:=by
 rw [clL,if_neg (by simpa using h),if_pos h2]
theorem zp8 {s:Bs} {it:Rd→Rd} {c:Int} {k:Nat} {r:Rd} (h:(yr s r).cd=0) (h2:¬byt s (yr s r).pos=c) (h3:(it (yr s r)).cd≠0):clL s it c k r=it (yr s r):=by
 rw [clL,if_neg (by simpa using h),if_neg h2,if_pos h3]
theorem zqa {s:Bs} {it:Rd→Rd} {c:Int} {k:Nat} {r:Rd} (h:(yr s r).cd=0) (h2:¬byt s (yr s r).pos=c) (h3:(it (yr s r)).cd=0) (h4:(yr s (it (yr s r))).cd≠0):clL s it c k r=yr s (it (yr s r)):=by
 rw [clL,if_neg (by simpa using h),if_neg h2,if_neg (by simpa using h3),if_pos h4]
theorem zqb {s:Bs} {it:Rd→Rd} {c:Int} {k:Nat} {r:Rd} (h:(yr s r).cd=0) (h2:¬byt s (yr s r).pos=c) (h3:(it (yr s r)).cd=0) (h4:(yr s (it (yr s r))).cd=0) (h5:(cmR s (yr s (it (yr s r))) c).cd≠0):clL s it c k r=cmR s (yr s (it (yr s r))) c:=by
 rw [clL,if_neg (by simpa using h),if_neg h2,if_neg (by simpa using h3),if_neg (by simpa using h4),dif_neg (fun h=>h5 h.1)]
theorem zp9 {s:Bs} {it:Rd→Rd} {c:Int} {k:Nat} {r:Rd} (h:(yr s r).cd=0) (h2:¬byt s (yr s r).pos=c) (h3:(it (yr s r)).cd=0) (h4:(yr s (it (yr s r))).cd=0) (h5:(cmR s (yr s (it (yr s r))) c).cd=0∧r.pos<(cmR s (yr s (it (yr s r))) c).pos∧r.pos<s.length):clL s it c k r=clL s it c k (cmR s (yr s (it (yr s r))) c):=by
 conv=>lhs;rw [clL,if_neg (by simpa using h),if_neg h2,if_neg (by simpa using h3),if_neg (by simpa using h4),dif_pos h5]
/-- What an item does. -/
def zf8 (s:Bs) (D:Nat) (it:Rd→Rd):Prop:=∀ r,Ok s r→r.dp=D→(it r).cd=0→Stp s r (it r)
/-- One round of a collection. -/
theorem zeg {s:Bs} {it:Rd→Rd} {c:Int} {D:Nat} {r:Rd} (hit:zf8 s D it) (ho:Ok s r) (hd:r.dp=D) (h:(yr s r).cd=0) (h3:(it (yr s r)).cd=0) (h4:(yr s (it (yr s r))).cd=0) (h5:(cmR s (yr s (it (yr s r))) c).cd=0):Stp s r (cmR s (yr s (it (yr s r))) c):=by
 have hg:=w8 h
 have ho1:=ho.gap h
 have hs:=hit _ ho1 (by rw [hg.1];exact hd) h3
 have ho2:=hs.ok.gap h4
 have hg2:=w8 h4
 obtain ⟨q,e,h6,h7⟩:=cmR_ok ho2.pos h5
 have e1:(yr s r).pos=gpE s r.pos:=by rw [hg.1];rfl
 have e2:(yr s r).ev=r.ev:=by rw [hg.1];rfl
 have e3:(yr s r).hd=r.hd:=by rw [hg.1];rfl
 have e4:(yr s r).bs=r.bs:=by rw [hg.1];rfl
 have e5:(yr s r).dp=r.dp:=by rw [hg.1];rfl
 have h8:=wl s r.pos
 have hlt:=hs.lt
 have hpre:=hs.pre
 have hpot:=hs.pot
 have hhd:=hs.hd
 have hbs:=hs.bs
 have hdp:=hs.dp
 have hok:=hs.ok
 rw [e,hg2.1]
 rw [hg2.1] at h6
 generalize it (yr s r)=t at *
 have h9:=wl s t.pos
 rw [e2] at hpre
 simp only [atR] at h6
 exact ⟨hok.at (by omega) h7,by simp only [atR];omega,hpre,hhd.trans e3,hbs.trans e4,hdp.trans e5,by simp only [atR];rw [e2] at hpot;omega⟩
structure Clo (s:Bs) (r r':Rd):Prop where
 ok:Ok s r'
 lt:r.pos<r'.pos
 pre:r.ev <+: r'.ev
 hd:r'.hd=r.hd
 bs:r'.bs=r.bs
 dp:r'.dp+1=r.dp
 pot:r'.ev.length+8 * r.pos≤r.ev.length+8 * r'.pos
theorem clL_ok {s:Bs} {it:Rd→Rd} {c:Int} {D:Nat} (hc:0≤c) (hit:zf8 s D it) (hD:1≤D):∀ (n:Nat) (k:Nat) (r:Rd),s.length-r.pos=n→Ok s r→r.dp=D→k<r.ev.length→(clL s it c k r).cd=0→Clo s r (clL s it c k r):=by
 intro n
 induction n using Nat.strongRecOn with
 | ind n ih=>
 intro k r hn ho hd hk hz
 by_cases h:(yr s r).cd=0
 ·by_cases h2:byt s (yr s r).pos=c
  ·rw [zip h h2] at hz ⊢
   have hg:=w8 h
   have h8:=wl s r.pos
   have hp:=zx h2 hc
   rw [hg.1] at hp ⊢
   have hpp:=ho.sz
   simp only [atR] at hp
   refine ⟨⟨ho.cd, ?_, ?_, ?_, ?_, ?_,ho.hd,ho.pf⟩, ?_, ?_,rfl,rfl, ?_, ?_⟩
   ·simp only [shR,atR];omega
   ·simp [shR,atR,ho.dn]
   ·simp only [shR,atR,List.length_append];have:=ho.bs;omega
   ·simp only [shR,atR];have:=ho.dp;omega
   ·simp only [shR,atR,List.length_append,List.length_singleton];omega
   ·simp only [shR,atR];omega
   ·exact List.prefix_append _ _
   ·simp only [shR,atR];omega
   ·simp only [shR,atR,List.length_append,List.length_singleton];omega
  ·by_cases h3:(it (yr s r)).cd=0
   ·by_cases h4:(yr s (it (yr s r))).cd=0
    ·by_cases h5:(cmR s (yr s (it (yr s r))) c).cd=0
     ·have hst:=zeg hit ho hd h h3 h4 h5
      have hl:r.pos<s.length:=by have:=hst.lt;have:=hst.ok.pos;omega
      rw [zp9 h h2 h3 h4 ⟨h5,hst.lt,hl⟩] at hz ⊢
      have hr:=ih (s.length-(cmR s (yr s (it (yr s r))) c).pos) (by have:=hst.lt;omega) k _ rfl hst.ok (by rw [hst.dp];exact hd) (by have:=hst.pre.length_le;omega) hz
      exact ⟨hr.ok,by have:=hst.lt;have:=hr.lt;omega,hst.pre.trans hr.pre,hr.hd.trans hst.hd,hr.bs.trans hst.bs,by have:=hr.dp;have:=hst.dp;omega,by have:=hr.pot;have:=hst.pot;have:=hst.lt;have:=hr.lt;omega⟩
     ·rw [zqb h h2 h3 h4 h5] at hz;exact absurd hz h5
    ·rw [zqa h h2 h3 h4] at hz;exact absurd hz h4
   ·rw [zp8 h h2 h3] at hz;exact absurd hz h3
 ·rw [zio h] at hz;exact absurd hz h
theorem z0z {s:Bs} {it:Rd→Rd} {c k:Int} {r:Rd} {p:Pp} (hc:0≤c) (hl:r.pos<s.length) (ho:Ok s r) (hit:r.dp<40→zf8 s (r.dp+1) it) (hz:(coR s it c k r p).cd=0):Stp s r (coR s it c k r p):=by
 unfold coR at hz ⊢
 split
 ·rename_i h;rw [if_pos h] at hz;exact absurd hz h
 ·rename_i h
  rw [if_neg h] at hz
  obtain ⟨e,hd⟩:=zhq (show (opR r k 6 p r.pos).cd=0 by simpa using h)
  have hsz:=ho.sz
  have hok:Ok s (atR (opR r k 6 p r.pos) (r.pos+1)):=by
   rw [e]
   refine ⟨ho.cd,hl,by simp [atR,zn,ho.dn],by simp only [atR,zn,List.length_append];have:=ho.bs;omega,by simp only [atR];omega,by simp only [atR,zn,List.length_append,List.length_singleton];omega,ho.hd,ho.pf⟩
  have hr:=clL_ok hc (hit hd) (by omega) _ r.ev.length _ rfl hok (by rw [e];rfl) (by rw [e];simp [atR,zn]) hz
  have hlt:=hr.lt
  have hpre:=hr.pre
  have hpot:=hr.pot
  have hhd:=hr.hd
  have hbs:=hr.bs
  have hdp:=hr.dp
  have hok2:=hr.ok
  have e1:(atR (opR r k 6 p r.pos) (r.pos+1)).pos=r.pos+1:=rfl
  have e2:(atR (opR r k 6 p r.pos) (r.pos+1)).ev=r.ev++[evO k 6 p.an p.tg]:=by rw [e];rfl
  have e3:(atR (opR r k 6 p r.pos) (r.pos+1)).hd=r.hd:=by rw [e];rfl
  have e4:(atR (opR r k 6 p r.pos) (r.pos+1)).bs=r.bs:=by rw [e];rfl
  have e5:(atR (opR r k 6 p r.pos) (r.pos+1)).dp=r.dp+1:=by rw [e];rfl
  generalize clL s it c r.ev.length (atR (opR r k 6 p r.pos) (r.pos+1))=r' at *
  rw [e2] at hpre
  rw [e2,List.length_append,List.length_singleton] at hpot
  exact ⟨hok2,by omega,(List.prefix_append _ _).trans hpre,hhd.trans e3,hbs.trans e4,by omega,by omega⟩
end Go.Pl
namespace Go.Pl
theorem Stp.at0 {s:Bs} {r r':Rd} {q:Nat} (h:Stp s (atR r q) r') (h1:r.pos≤q):Stp s r r' :=
 ⟨h.ok,by have:=h.lt;simp only [atR] at this;omega,h.pre,h.hd,h.bs,h.dp,by have:=h.pot;have:=h.lt;simp only [atR] at *;omega⟩
theorem zlp {s:Bs} {r:Rd} {e:Ev} {q q2:Nat} (ho:Ok s r) (h1:r.pos<q2) (h2:q2≤s.length):Stp s r (vf (atR r q) e q2):=
 ⟨⟨ho.cd,h2,by simp [vf,atR,zn,ho.dn],by simp only [vf,atR,zn,List.length_append];have:=ho.bs;omega,ho.dp,by simp only [vf,atR,zn,List.length_append,List.length_singleton];have:=ho.sz;omega,ho.hd,ho.pf⟩,h1,List.prefix_append _ _,rfl,rfl,rfl,by simp only [vf,atR,zn,List.length_append,List.length_singleton];omega⟩
theorem noR_ok {s:Bs} {sb:Rd→Rd} {r:Rd} (ho:Ok s r) (hit:r.dp<40→zf8 s (r.dp+1) sb) (hpa:r.dp<40→zf8 s (r.dp+1) (paR s sb)) (hz:(noR s sb r).cd=0):Stp s r (noR s sb r):=by
 unfold noR at hz ⊢
 split
 ·rename_i h;rw [if_pos h] at hz;exact absurd hz h
 ·rename_i h
  rw [if_neg h] at hz
  obtain ⟨q,e,h1,h2,h3⟩:=zft ho.pos ho.cd (show (prF s r).cd=0 by simpa using h)
  rw [e] at hz ⊢
  have ho1:=ho.at h1 h2
  unfold boR at hz ⊢
  split
  ·rename_i h4
   rw [if_pos h4] at hz
   exact (z0z (by decide) (zx h4 (by decide)) ho1 hit hz).at0 h1
  ·rename_i h4
   rw [if_neg h4] at hz
   split
   ·rename_i h5
    rw [if_pos h5] at hz
    exact (z0z (by decide) (zx h5 (by decide)) ho1 hpa hz).at0 h1
   ·rename_i h5
    rw [if_neg h5] at hz
    obtain ⟨ev,q2,e2,h6,h7,h8⟩:=zxm ho1.pos ho1.cd hz
    rw [e2]
    have h9:r.pos<q2:=by
     cases hh:(prP s true r).has
     ·have:=h8 hh;simp only [atR] at this;omega
     ·have:=h3 hh;simp only [atR] at h6;omega
    exact zlp ho h9 h7
theorem zhp {s:Bs} {sb:Rd→Rd} {r:Rd} (ho:Ok s r) (hit:zf8 s r.dp sb) (hz:(paR s sb r).cd=0):Stp s r (paR s sb r):=by
 unfold paR at hz ⊢
 split
 ·rename_i h;rw [if_pos h] at hz;exact absurd hz h
 ·rename_i h
  rw [if_neg h] at hz
  obtain ⟨q,e,h1,h2,h3⟩:=zft ho.pos ho.cd (show (prF s r).cd=0 by simpa using h)
  generalize hb:zff (byt s (prF s r).pos)=qu at *
  rw [e] at hz ⊢
  have ho1:=ho.at h1 h2
  split
  ·rename_i h4;rw [if_pos h4] at hz;exact absurd hz h4
  ·rename_i h4
   rw [if_neg h4] at hz
   obtain ⟨ev,q2,e2,h6,h7,h8⟩:=zxm ho1.pos ho1.cd (show (scR s (atR r q) (prP s true r) 125 58).cd=0 by simpa using h4)
   have h9:r.pos<q2:=by
    cases hh:(prP s true r).has
    ·have:=h8 hh;simp only [atR] at this;omega
    ·have:=h3 hh;simp only [atR] at h6;omega
   rw [e2] at hz ⊢
   have hs2:=zlp (q:=q) (e:=ev) ho h9 h7
   split
   ·rename_i h10;rw [if_pos h10] at hz;exact absurd hz h10
   ·rename_i h10
    rw [if_neg h10] at hz
    have hg:=w8 (show (yr s (vf (atR r q) ev q2)).cd=0 by simpa using h10)
    have hg1:=wl s q2
    have hg2:gpE s q2<s.length:=hg.2
    have e3:yr s (vf (atR r q) ev q2)=vf (atR r q) ev (gpE s q2):=hg.1
    rw [e3] at hz ⊢
    have T2:∀ q4,r.pos<q4→q4≤s.length→Stp s r (y4 (vf (atR r q) ev q4) 1 [] [] []):=fun q4 hq4 hq5=>
     ⟨⟨ho.cd,hq5,by simp [vf,atR,zn,y4,ho.dn],by simp only [vf,atR,zn,y4,List.length_append];have:=ho.bs;omega,ho.dp,by simp only [vf,atR,zn,y4,List.length_append,List.length_singleton];have:=ho.sz;omega,ho.hd,ho.pf⟩,hq4,(List.prefix_append _ _).trans (List.prefix_append _ _),rfl,rfl,rfl,by simp only [vf,atR,zn,y4,List.length_append,List.length_singleton];omega⟩
    unfold paK at hz ⊢
    split
    ·rename_i h11
     rw [if_pos h11] at hz
     have hp11:gpE s q2<s.length:=hg2
     unfold paV at hz ⊢
     split
     ·rename_i h12;rw [if_pos h12] at hz;exact absurd hz h12
     ·rename_i h12
      rw [if_neg h12] at hz
      have e4:atR (vf (atR r q) ev (gpE s q2)) ((vf (atR r q) ev (gpE s q2)).pos+1)=vf (atR r q) ev (gpE s q2+1):=rfl
      rw [e4] at hz ⊢ h12
      have hg4:=w8 (show (yr s (vf (atR r q) ev (gpE s q2+1))).cd=0 by simpa using h12)
      have e5:yr s (vf (atR r q) ev (gpE s q2+1))=vf (atR r q) ev (gpE s (gpE s q2+1)):=hg4.1
      have hg5:=wl s (gpE s q2+1)
      have hg6:gpE s (gpE s q2+1)<s.length:=hg4.2
      rw [e5] at hz ⊢
      split
      ·exact T2 _ (by omega) (by omega)
      ·rename_i h13
       rw [if_neg h13] at hz
       have hs4:=zlp (q:=q) (e:=ev) (q2:=gpE s (gpE s q2+1)) ho (by omega) (by omega)
       have hr:=hit _ hs4.ok hs4.dp hz
       exact ⟨hr.ok,by have:=hs4.lt;have:=hr.lt;omega,hs4.pre.trans hr.pre,hr.hd.trans hs4.hd,hr.bs.trans hs4.bs,hr.dp.trans hs4.dp,by have:=hr.pot;have:=hs4.pot;have:=hr.lt;omega⟩
    ·exact T2 _ (by omega) (by omega)
/-- A node's reader,at a depth. -/
theorem zhv {s:Bs}:∀ (d:Nat) (r:Rd),Ok s r→r.dp+d=40→(noF s d r).cd=0→Stp s r (noF s d r)
 | 0,r,ho,hd,hz=>noR_ok ho (fun h=>by omega) (fun h=>by omega) hz
 | d+1,r,ho,hd,hz=>by
  have hit:zf8 s (r.dp+1) (noF s d):=fun r1 h1 h2 h3=>zhv d r1 h1 (by omega) h3
  exact noR_ok ho (fun _=>hit) (fun _ r1 h1 h2 h3=>zhp h1 (by rw [h2];exact hit) h3) hz
end Go.Pl
namespace Go.Pl
theorem zyt {s:Bs} {r F x:Rd} (ho:Ok s r) (hF:F=prF s r) (hFz:F.cd=0) (hx:x=scR s F (prP s true r) 125 58) (hxz:x.cd=0):Stp s r x:=by
 obtain ⟨q,e,h1,h2,h3⟩:=zft ho.pos ho.cd (show (prF s r).cd=0 by rw [←hF];exact hFz)
 have ho1:=ho.at h1 h2
 rw [hF,e] at hx
 obtain ⟨ev,q2,e2,h6,h7,h8⟩:=zxm ho1.pos ho1.cd (show (scR s (atR r q) (prP s true r) 125 58).cd=0 by rw [←hx];exact hxz)
 have h9:r.pos<q2:=by
  cases hh:(prP s true r).has
  ·have:=h8 hh;simp only [atR] at this;omega
  ·have:=h3 hh;simp only [atR] at h6;omega
 rw [hx,e2]
 exact zlp ho h9 h7
end Go.Pl
end
section
set_option linter.unusedVariables false
set_option linter.unusedSimpArgs false
set_option linter.unusedSectionVars false
set_option linter.unnecessarySimpa false
namespace Go.Pl
open Go.Vg (lookS u4)
structure PrA (s:Bs) (fl:Bool) (r x:Rd) (p:Pp):Prop where
 cd:x.cd=0
 at':x=atR r x.pos
 pos:x.pos≤s.length
 rest:prs s r.hd fl x.pos p=prs s r.hd fl r.pos (ppz r.pos)
 stop:fl=true→p.has=true→kx s x=x
end Go.Pl
end
section
set_option linter.unusedVariables false
set_option linter.unusedSimpArgs false
set_option linter.unusedSectionVars false
set_option linter.unnecessarySimpa false
namespace Go.Pl
open Go.Vg (lookS u4)
theorem z0g (s:Bs) (r:Rd):(kx s r).ev=r.ev:=by
 unfold kx;split
 ·rfl
 ·split<;>rfl
theorem zk2 (s:Bs) (r:Rd):(yr s r).ev=r.ev:=z0g s _
theorem zk1 (s:Bs) (fl:Bool) (r:Rd):(prR s fl r).ev=r.ev:=by
 unfold prR;split<;>rfl
theorem ev_prF (s:Bs) (r:Rd):(prF s r).ev=r.ev:=by
 unfold prF;split
 ·rw [z0g,zk1]
 ·exact zk1 s true r
theorem ev_cmR (s:Bs) (r:Rd) (c:Int):(cmR s r c).ev=r.ev:=by
 unfold cmR;split
 ·rfl
 ·split<;>rfl
theorem z0f (r:Rd) (st:Int) (t a g:Bs):(y4 r st t a g).ev.length=r.ev.length+1:=by simp [y4,zn]
theorem ev_shR (r:Rd) (k:Nat):(shR r k).ev.length=r.ev.length+1:=by simp [shR]
theorem ev_scR (s:Bs) (r:Rd) (p:Pp) (c1 c2:Int):(scR s r p c1 c2).ev.length≤r.ev.length+1:=by
 unfold scR alR qtR plR
 repeat' split
 all_goals simp [y4,zn,flt,atR]
theorem z0h (r:Rd) (k st:Int) (p:Pp) (sg:Nat):(opR r k st p sg).ev.length≤r.ev.length+1:=by
 unfold opR;split
 ·simp [flt]
 ·simp [zn]
def ItSz (s:Bs) (D:Nat) (it:Rd→Rd):Prop:=∀ r,Ok s r→r.dp=D→(it r).ev.length≤8 * s.length+66
theorem clL_sz {s:Bs} {it:Rd→Rd} {c:Int} {D:Nat} (hit:zf8 s D it) (hsz:ItSz s D it):∀ (n k:Nat) (r:Rd),s.length-r.pos=n→Ok s r→r.dp=D→(clL s it c k r).ev.length≤8 * s.length+66:=by
 intro n
 induction n using Nat.strongRecOn with
 | ind n ih=>
  intro k r hn ho hd
  have h1:=ho.sz
  have h2:=ho.pos
  refine Decidable.byCases (p:=(yr s r).cd=0) (fun hg=>?_) (fun hg=>by rw [zio hg,zk2];omega)
  have hgo:=ho.gap hg
  have hgd:(yr s r).dp=D:=by rw [(w8 hg).1];exact hd
  by_cases hb:byt s (yr s r).pos=c
  ·rw [zip hg hb,ev_shR]
   show (yr s r).ev.length+1≤_
   rw [zk2];omega
  have hI:=hsz _ hgo hgd
  refine Decidable.byCases (p:=(it (yr s r)).cd=0) (fun h3=>?_) (fun h3=>by rw [zp8 hg hb h3];exact hI)
  refine Decidable.byCases (p:=(yr s (it (yr s r))).cd=0) (fun h4=>?_) (fun h4=>by rw [zqa hg hb h3 h4,zk2];exact hI)
  refine Decidable.byCases (p:=(cmR s (yr s (it (yr s r))) c).cd=0) (fun h5=>?_) (fun h5=>by rw [zqb hg hb h3 h4 h5,ev_cmR,zk2];exact hI)
  have hrd:=zeg hit ho hd hg h3 h4 h5
  have hlt:=hrd.lt
  have hps:=hrd.ok.pos
  rw [zp9 hg hb h3 h4 ⟨h5,hlt,by omega⟩]
  exact ih _ (by omega) k _ rfl hrd.ok (hrd.dp.trans hd)
theorem zum {s:Bs} {it:Rd→Rd} {c k:Int} {r:Rd} {p:Pp} (hl:r.pos<s.length) (ho:Ok s r) (hit:r.dp<40→zf8 s (r.dp+1) it) (hsz:r.dp<40→ItSz s (r.dp+1) it):(coR s it c k r p).ev.length≤8 * s.length+66:=by
 have h1:=ho.sz
 have h8:=ho.bs
 unfold coR
 by_cases hz:(opR r k 6 p r.pos).cd=0
 ·rw [if_neg (by simpa using hz)]
  obtain ⟨e,hd⟩:=zhq hz
  refine clL_sz (D:=r.dp+1) (hit hd) (hsz hd) _ _ _ rfl ?_ (by rw [e];rfl)
  rw [e]
  exact ⟨ho.cd,hl,by simp [atR,zn,ho.dn],by simp only [atR,zn,List.length_append];omega,by simp only [atR];omega,by simp only [atR,zn,List.length_append,List.length_singleton];omega,ho.hd,ho.pf⟩
 ·rw [if_pos hz]
  have:=z0h r k 6 p r.pos
  omega
theorem paR_sz {s:Bs} {sb:Rd→Rd} {r:Rd} (ho:Ok s r) (hsz:ItSz s r.dp sb):(paR s sb r).ev.length≤8 * s.length+66:=by
 have h1:=ho.sz
 have h2:=ho.pos
 have eF:=ev_prF s r
 obtain ⟨F,hF⟩:∃ F,F=prF s r:=⟨_,rfl⟩
 unfold paR
 rw [←hF] at eF ⊢
 by_cases hFz:F.cd=0
 ·rw [if_neg (by simpa using hFz)]
  have eS:=ev_scR s F (prP s true r) 125 58
  obtain ⟨x,hx⟩:∃ x,x=scR s F (prP s true r) 125 58:=⟨_,rfl⟩
  rw [←hx] at eS ⊢
  rw [eF] at eS
  by_cases hxz:x.cd=0
  ·rw [if_neg (by simpa using hxz)]
   have hst:=zyt ho hF hFz hx hxz
   have hxo:=hst.ok
   have eG:=zk2 s x
   by_cases hgz:(yr s x).cd=0
   ·rw [if_neg (by simpa using hgz)]
    have hgo:=hxo.gap hgz
    have hgd:(yr s x).dp=r.dp:=by rw [(w8 hgz).1];exact hst.dp
    have hgp:(yr s x).pos<s.length:=by
     obtain ⟨e9,h9⟩:=w8 hgz
     rw [e9];exact h9
    generalize yr s x=g at *
    unfold paK
    split
    ·unfold paV
     have eH:(yr s (atR g (g.pos+1))).ev=g.ev:=zk2 s (atR g (g.pos+1))
     by_cases hz:(yr s (atR g (g.pos+1))).cd=0
     ·rw [if_neg (by simpa using hz)]
      split
      ·rw [z0f,eH,eG];omega
      ·refine hsz _ ((hgo.at (q:=g.pos+1) (by omega) hgp).gap hz) ?_
       rw [(w8 hz).1];exact hgd
     ·rw [if_pos hz,eH,eG];omega
    ·rw [z0f,eG];omega
   ·rw [if_pos hgz,eG];omega
  ·rw [if_pos hxz];omega
 ·rw [if_pos hFz,eF];omega
theorem noR_sz {s:Bs} {sb:Rd→Rd} {r:Rd} (ho:Ok s r) (hit:r.dp<40→zf8 s (r.dp+1) sb) (hsz:r.dp<40→ItSz s (r.dp+1) sb):(noR s sb r).ev.length≤8 * s.length+66:=by
 have h1:=ho.sz
 have h2:=ho.pos
 have eF:=ev_prF s r
 unfold noR
 by_cases hFz:(prF s r).cd=0
 ·rw [if_neg (by simpa using hFz)]
  have hFo:=ho.prF hFz
  have hFd:(prF s r).dp=r.dp:=by
   obtain ⟨q9,e9,_⟩:=zft ho.pos ho.cd hFz
   rw [e9];rfl
  generalize prF s r=F at *
  unfold boR
  split
  ·rename_i hb
   exact zum (zx hb (by decide)) hFo (by rw [hFd];exact hit) (by rw [hFd];exact hsz)
  ·split
   ·rename_i hb
    refine zum (zx hb (by decide)) hFo (fun h=>?_) (fun h=>?_)
    ·rw [hFd] at h ⊢
     exact fun r2 k1 k2 k3=>zhp k1 (by rw [k2];exact hit h) k3
    ·rw [hFd] at h ⊢
     exact fun r2 k1 k2=>paR_sz k1 (by rw [k2];exact hsz h)
   ·have:=ev_scR s F (prP s true r) 93 125
    rw [eF] at this
    omega
 ·rw [if_pos hFz,eF];omega
theorem noF_sz {s:Bs}:∀ (d:Nat) (r:Rd),Ok s r→r.dp+d=40→(noF s d r).ev.length≤8 * s.length+66
 | 0,r,ho,hd=>noR_sz ho (fun h=>by omega) (fun h=>by omega)
 | d+1,r,ho,hd=>noR_sz ho (fun h r1 h1 h2 h3=>zhv d r1 h1 (by omega) h3) (fun h r1 h1 h2=>noF_sz d r1 h1 (by omega))
end Go.Pl
end
section
set_option linter.unusedVariables false
set_option linter.unusedSimpArgs false
set_option linter.unusedSectionVars false
set_option linter.unnecessarySimpa false
namespace Go.Pl
open Go.Vg (lookS u4)
/-- Where the rest of a line is nothing,the line's end. -/
def rsA (s:Bs) (p:Nat):Nat×Bool:=
 if isB s (wh s p)=true∨(byt s (wh s p)=35∧(wh s p≠p∨la s p=p)) then (en s (wh s p),true) else (wh s p,false)
theorem ky {s:Bs} {p:Nat} (h:p≤s.length):p≤(rsA s p).1∧(rsA s p).1≤s.length:=by
 have h1:=vd s p
 have h2:=vb s p h
 have h3:=zgh s (wh s p)
 have h4:=zb3 s (wh s p) h2
 unfold rsA
 split
 ·exact ⟨by simp only;omega,by simp only;omega⟩
 ·exact ⟨by simp only;omega,by simp only;omega⟩
def zpg (s:Bs) (p:Nat):Bool:=decide (byt s p=45)&&gap s (p+1)
def zak (s:Bs) (p:Nat):Bool:=decide (s.length≤p)||!decide (mkA s p=0)
/-- The column. -/
def coA (s:Bs) (p:Nat):Nat:=p-la s p
def dpA (s:Bs) (p:Nat) (n:Int) (lo:Bool):Bool:=decide (n<(coA s p:Int))||(lo&&decide ((coA s p:Int)=n)&&zpg s p)
/-- A byte 9 ahead of what is the first of its line is a fault. -/
def zbg (s:Bs) (r:Rd):Rd:=
 if wh s (la s r.pos)≠r.pos then r else if idx (sub s (la s r.pos) r.pos) 9<0 then r else flt r 2 (la s r.pos+(idx (sub s (la s r.pos) r.pos) 9).toNat)
def ovR (s:Bs) (r:Rd) (p:Nat):Rd:=if zak s (gpE s p)=true then atR r (gpE s p) else zbg s (atR r (gpE s p))
def ntR (r:Rd) (p:Pp) (e:Nat):Rd:=atR (y4 r 1 [] p.an p.tg) e
def chv (b:Int):Int:=if b=45 then 1 else 2
/-- The head of a block scalar: digit,kind of its end,where its line ends,a fault's code. -/
def hdS (s:Bs) (q:Nat) (dg ch:Int) (sg:Bool):Int×Int×Nat×Int:=
 if h:(49≤byt s q∧byt s q≤57)∧dg=0 then hdS s (q+1) (byt s q-48) ch sg
 else if h2:(byt s q=43∨byt s q=45)∧sg=false then hdS s (q+1) dg (chv (byt s q)) true
 else if (rsA s q).2=true then (dg,ch,(rsA s q).1,0) else (0,0,(rsA s q).1,6)
termination_by s.length-q
decreasing_by
 ·have:q<s.length:=zx (b:=byt s q) rfl (by omega)
  omega
 ·have:q<s.length:=zx (b:=byt s q) rfl (by omega)
  omega
theorem hdS_d {s:Bs} {q:Nat} {dg ch:Int} {sg:Bool} (h:(49≤byt s q∧byt s q≤57)∧dg=0):hdS s q dg ch sg=hdS s (q+1) (byt s q-48) ch sg:=by
 conv=>lhs;rw [hdS]
 rw [dif_pos h]
theorem hdS_c {s:Bs} {q:Nat} {dg ch:Int} {sg:Bool} (h:¬((49≤byt s q∧byt s q≤57)∧dg=0)) (h2:(byt s q=43∨byt s q=45)∧sg=false):hdS s q dg ch sg=hdS s (q+1) dg (chv (byt s q)) true:=by
 conv=>lhs;rw [hdS]
 rw [dif_neg h,dif_pos h2]
theorem hdS_r {s:Bs} {q:Nat} {dg ch:Int} {sg:Bool} (h:¬((49≤byt s q∧byt s q≤57)∧dg=0)) (h2:¬((byt s q=43∨byt s q=45)∧sg=false)):hdS s q dg ch sg=if (rsA s q).2=true then (dg,ch,(rsA s q).1,0) else (0,0,(rsA s q).1,6):=by
 conv=>lhs;rw [hdS]
 rw [dif_neg h,dif_neg h2]
def hdA (s:Bs) (p:Nat):Int×Int×Nat×Int:=if byt s p=124∨byt s p=62 then hdS s (p+1) 0 0 false else (0,0,p,10)
def bhL (s:Bs) (e:Nat):Nat:=min (e+1) s.length
theorem zir {s:Bs} {a:Nat} (h:a<s.length):a<bhL s (en s a):=by
 have:=zgh s a;unfold bhL;omega
theorem zel (s:Bs) (e:Nat):bhL s e≤s.length:=Nat.min_le_right _ _
/-- The column of a block scalar without a digit,and where its first line that is not white begins. -/
def ltC (s:Bs) (a:Nat) (n:Int):Nat×Nat:=
 if h:a<s.length∧mkA s a=0 then (if lnA s a=false then (if n<(inA s a:Int) then (inA s a,a) else (60000,s.length)) else ltC s (bhL s (en s a)) n) else (60000,s.length)
termination_by s.length-a
decreasing_by have:=zir h.1;omega
theorem ltC_n {s:Bs} {a:Nat} {n:Int} (h:a<s.length∧mkA s a=0) (h2:lnA s a=true):ltC s a n=ltC s (bhL s (en s a)) n:=by
 conv=>lhs;rw [ltC]
 rw [dif_pos h,if_neg (by rw [h2];simp)]
theorem ltC_l {s:Bs} {a:Nat} {n:Int} (h:a<s.length∧mkA s a=0) (h2:lnA s a=false):ltC s a n=if n<(inA s a:Int) then (inA s a,a) else (60000,s.length):=by
 rw [ltC,dif_pos h,if_pos h2]
theorem ltC_e {s:Bs} {a:Nat} {n:Int} (h:¬(a<s.length∧mkA s a=0)):ltC s a n=(60000,s.length):=by
 rw [ltC,dif_neg h]
/-- The lines of a block scalar,and the place behind them. -/
def ltL (s:Bs) (d f a:Nat):List Bs×Nat:=
 if h:a<s.length∧mkA s a=0∧(lnA s a=true∨d≤inA s a) then ((if f≤a∧(lnA s a=false∨d<inA s a) then sub s (a+d) (en s a) else [])::(ltL s d f (bhL s (en s a))).1,(ltL s d f (bhL s (en s a))).2) else ([],a)
termination_by s.length-a
decreasing_by all_goals (have:=zir h.1;omega)
/-- How many of some texts,without empty ones at the end. -/
def lsN (l:List Bs):Nat→Nat
 | 0=>0
 | n+1=>if l.getD n []=[] then lsN l n else n+1
/-- The lengths of some texts,and one more for each. -/
def lnW (l:List Bs):Nat:=(l.map fun x=>x.length+1).sum
theorem lsN_end {l:List Bs}:∀ {n:Nat},(0<n→l.getD (n-1) []≠[])→lsN l n=n
 | 0,_=>rfl
 | n+1,h=>by unfold lsN;rw [if_neg (by simpa using h (Nat.succ_pos _))]
theorem lsN_step {l:List Bs}:∀ {n:Nat},0<n→l.getD (n-1) []=[]→lsN l n=lsN l (n-1)
 | 0,h,_=>absurd h (Nat.lt_irrefl _)
 | n+1,_,h=>by
           conv=>lhs;unfold lsN
           rw [if_pos (by simpa using h)];rfl
def far (s:Bs):Bool:=isW s 0
/-- Lines folded. -/
def fbk:List Bs→Bs→Nat→Bs→Bs
 | [],_,_,out=>out
 | x::r,last,many,out=>if x=[] then fbk r last (many+1) out else fbk r x 0 (out++(if last=[] then List.replicate many 10 else if far last=true∨far x=true then List.replicate (many+1) 10 else if many=0 then [32] else List.replicate many 10)++x)
theorem z0q {l:List Bs} {i:Nat} (h:i<l.length):l.drop i=l.getD i []::l.drop (i+1):=by
 rw [List.drop_eq_getElem_cons h];congr 1;simp [List.getD,h]
theorem lnW_drop {l:List Bs} {i:Nat} (h:i<l.length):lnW (l.drop i)=(l.getD i []).length+1+lnW (l.drop (i+1)):=by
 rw [z0q h];simp only [lnW,List.map_cons,List.sum_cons]
theorem zc9:∀ l:List Bs,l.length≤lnW l
 | []=>Nat.zero_le _
 | x::r=>by have:=zc9 r;simp only [lnW,List.map_cons,List.sum_cons,List.length_cons] at *;omega
theorem zmu:∀ (l:List Bs) (n:Nat),lnW (l.take n)≤lnW l
 | [],n=>by simp
 | x::r,0=>by simp [lnW]
 | x::r,n+1=>by have:=zmu r n;simp only [lnW,List.take_succ_cons,List.map_cons,List.sum_cons] at *;omega
theorem zmx:∀ l:List Bs,(Go.Lib.join l [10]).length≤lnW l
 | []=>by simp [Go.Lib.join,List.intercalate]
 | [x]=>by simp [Go.Lib.join,List.intercalate,lnW]
 | x::y::r=>by
  have:=zmx (y::r)
  simp only [Go.Lib.join,List.intercalate,lnW,List.map_cons,List.sum_cons,List.intersperse_cons_cons,List.flatten_cons,List.length_append,List.length_singleton] at *
  omega
theorem zm6:∀ (l:List Bs) (last:Bs) (k:Nat) (out:Bs),(fbk l last k out).length≤out.length+k+lnW l
 | [],last,k,out=>by simp only [fbk];omega
 | x::r,last,k,out=>by
  unfold fbk
  split
  ·have:=zm6 r last (k+1) out
   simp only [lnW,List.map_cons,List.sum_cons] at *;omega
  ·have h1:=zm6 r x 0 (out++(if last=[] then List.replicate k 10 else if far last=true∨far x=true then List.replicate (k+1) 10 else if k=0 then [32] else List.replicate k 10)++x)
   have h2:(if last=[] then List.replicate k (10:UInt8) else if far last=true∨far x=true then List.replicate (k+1) 10 else if k=0 then [32] else List.replicate k 10).length≤k+1:=by
    split
    ·simp
    ·split
     ·simp
     ·split<;>simp
   simp only [List.length_append] at h1
   simp only [lnW,List.map_cons,List.sum_cons] at *;omega
theorem fbk_e {r:List Bs} {x last:Bs} {k:Nat} {out:Bs} (h:x=[]):fbk (x::r) last k out=fbk r last (k+1) out:=by rw [fbk,if_pos h]
theorem fbk_n {r:List Bs} {x last:Bs} {k:Nat} {out:Bs} (h:¬x=[]):fbk (x::r) last k out=fbk r x 0 (out++(if last=[] then List.replicate k 10 else if far last=true∨far x=true then List.replicate (k+1) 10 else if k=0 then [32] else List.replicate k 10)++x):=by rw [fbk,if_neg h]
def btA (l:List Bs) (fo:Bool) (ch:Int):Bs:=
 if lsN l l.length=0 then (if ch=2 then List.replicate l.length 10 else [])
 else if ch=1 then (if fo=true then fbk (l.take (lsN l l.length)) [] 0 [] else Go.Lib.join (l.take (lsN l l.length)) [10])
 else if ch=2 then (if fo=true then fbk (l.take (lsN l l.length)) [] 0 [] else Go.Lib.join (l.take (lsN l l.length)) [10])++List.replicate (1+l.length-lsN l l.length) 10
 else (if fo=true then fbk (l.take (lsN l l.length)) [] 0 [] else Go.Lib.join (l.take (lsN l l.length)) [10])++[10]
/-- Column and first line. -/
def ltD (s:Bs) (n:Int) (dg:Int) (a:Nat):Nat×Nat:=
 if 0<dg∧n≤60000 then ((max n 0+dg).toNat,a) else if dg=0 then ltC s a n else (60000,a)
def liA (s:Bs) (p:Nat) (n:Int):Bs×Nat×Int:=
 if (hdA s p).2.2.2≠0 then ([],(hdA s p).2.2.1,(hdA s p).2.2.2)
 else (btA (ltL s (ltD s n (hdA s p).1 (bhL s (hdA s p).2.2.1)).1 (ltD s n (hdA s p).1 (bhL s (hdA s p).2.2.1)).2 (bhL s (hdA s p).2.2.1)).1 (decide (byt s p=62)) (hdA s p).2.1,
  (ltL s (ltD s n (hdA s p).1 (bhL s (hdA s p).2.2.1)).1 (ltD s n (hdA s p).1 (bhL s (hdA s p).2.2.1)).2 (bhL s (hdA s p).2.2.1)).2,0)
/-- What the reader of blocks has come to: also whether the line's rest need not be asked,and where the last node ended. -/
structure Rb where
 r:Rd
 fr:Bool
 lt:Nat
def onB (x:Rb) (r:Rd):Rb:=⟨r,x.fr,x.lt⟩
def ntB (x:Rb) (r:Rd) (p:Pp) (e:Nat):Rb:=⟨ntR r p e,true,x.lt⟩
/-- What stands behind the properties of a flow node,at the reader's depth. -/
def boS (s:Bs) (r:Rd) (p:Pp):Rd:=match 40-r.dp with
 | 0=>boR s id r p
 | d+1=>boR s (noF s d) r p
/-- A node that is no block collection. -/
def scK (s:Bs) (x:Rb) (p:Pp) (n:Int):Rb:=
 if byt s x.r.pos=124∨byt s x.r.pos=62 then
  (if (liA s x.r.pos n).2.2≠0 then ⟨flt x.r (liA s x.r.pos n).2.2 (liA s x.r.pos n).2.1,false,x.lt⟩ else ⟨atR (y4 x.r (if byt s x.r.pos=62 then 5 else 4) (liA s x.r.pos n).1 p.an p.tg) (liA s x.r.pos n).2.1,true,x.lt⟩)
 else if byt s x.r.pos=91∨byt s x.r.pos=123 then ⟨boS s x.r p,false,x.lt⟩
 else if byt s x.r.pos=42 then ⟨alR s x.r p.has,false,x.lt⟩
 else if zff (byt s x.r.pos)=true then ⟨qtR s x.r p,false,x.lt⟩
 else if pfA s x.r.pos false=true then ⟨plR s x.r p n false,false,x.lt⟩
 else ⟨flt x.r 10 x.r.pos,false,x.lt⟩
/-- On to what is behind a node. -/
def nxK (s:Bs) (x:Rb):Rb:=
 if x.fr=false∧(rsA s x.r.pos).2=false then ⟨flt x.r 8 (rsA s x.r.pos).1,x.fr,x.r.pos⟩ else ⟨ovR s x.r x.r.pos,x.fr,x.r.pos⟩
/-- The end of a block collection. -/
def dnK (x:Rb) (k:Nat):Rb:=⟨atR (shR x.r k) x.lt,true,x.lt⟩
def kyR (s:Bs) (r:Rd) (p:Pp):Rd:=
 if byt s r.pos=42 then alR s r p.has
 else if zff (byt s r.pos)=true then qtR s r p
 else y4 r 1 (sub s r.pos (kyA s r.pos).1.toNat) p.an p.tg
/-- What stands behind a sign. -/
def vlK (s:Bs) (sb:Int→Bool→Bool→Rb→Rb) (sg:Nat) (c:Int) (li:Bool) (x:Rb):Rb:=
 if (rsA s (sg+1)).2=false then sb c (!li) false (onB x (atR x.r (wh s (sg+1))))
 else if (ovR s x.r (sg+1)).cd≠0 then onB x (ovR s x.r (sg+1))
 else if zak s (ovR s x.r (sg+1)).pos=true∨dpA s (ovR s x.r (sg+1)).pos c (!li)=false then ntB x (ovR s x.r (sg+1)) (ppz 0) (rsA s (sg+1)).1
 else sb c false (!li) (onB x (ovR s x.r (sg+1)))
/-- A key and its value,and on to what is next. -/
def mpS (s:Bs) (sb:Int→Bool→Bool→Rb→Rb) (c:Nat) (own:Pp) (x:Rb):Rb:=
 if (kyR s x.r own).cd≠0 then onB x (kyR s x.r own)
 else if (vlK s sb (kyA s x.r.pos).2.1.toNat c false (onB x (kyR s x.r own))).r.cd≠0 then vlK s sb (kyA s x.r.pos).2.1.toNat c false (onB x (kyR s x.r own))
 else nxK s (vlK s sb (kyA s x.r.pos).2.1.toNat c false (onB x (kyR s x.r own)))
def mpL (s:Bs) (sb:Int→Bool→Bool→Rb→Rb) (c k:Nat) (own:Pp) (x:Rb):Rb:=
 if (mpS s sb c own x).r.cd≠0 then mpS s sb c own x
 else if zak s (mpS s sb c own x).r.pos=true∨coA s (mpS s sb c own x).r.pos<c then dnK (mpS s sb c own x) k
 else if c<coA s (mpS s sb c own x).r.pos then onB (mpS s sb c own x) (flt (mpS s sb c own x).r 9 (mpS s sb c own x).r.pos)
 else if (prR s false (mpS s sb c own x).r).cd≠0 then onB (mpS s sb c own x) (prR s false (mpS s sb c own x).r)
 else if (kyA s (prR s false (mpS s sb c own x).r).pos).2.2=false then onB (mpS s sb c own x) (flt (prR s false (mpS s sb c own x).r) 10 (prR s false (mpS s sb c own x).r).pos)
 else if h:x.r.pos<(prR s false (mpS s sb c own x).r).pos∧x.r.pos<s.length then mpL s sb c k (prP s false (mpS s sb c own x).r) (onB (mpS s sb c own x) (prR s false (mpS s sb c own x).r))
 else x
termination_by s.length-x.r.pos
decreasing_by simp only [onB];omega
def mpK (s:Bs) (sb:Int→Bool→Bool→Rb→Rb) (outer own:Pp) (fm:Nat) (x:Rb):Rb:=
 if (opR x.r 4 7 outer (if own.has=true then fm else x.r.pos)).cd≠0 then onB x (opR x.r 4 7 outer (if own.has=true then fm else x.r.pos))
 else mpL s sb (coA s (if own.has=true then fm else x.r.pos)) x.r.ev.length own (onB x (opR x.r 4 7 outer (if own.has=true then fm else x.r.pos)))
def lsS (s:Bs) (sb:Int→Bool→Bool→Rb→Rb) (c:Nat) (x:Rb):Rb:=
 if (vlK s sb x.r.pos c true x).r.cd≠0 then vlK s sb x.r.pos c true x else nxK s (vlK s sb x.r.pos c true x)
def lsL (s:Bs) (sb:Int→Bool→Bool→Rb→Rb) (c k:Nat) (x:Rb):Rb:=
 if (lsS s sb c x).r.cd≠0 then lsS s sb c x
 else if zak s (lsS s sb c x).r.pos=true∨coA s (lsS s sb c x).r.pos<c∨(coA s (lsS s sb c x).r.pos=c∧zpg s (lsS s sb c x).r.pos=false) then dnK (lsS s sb c x) k
 else if c<coA s (lsS s sb c x).r.pos then onB (lsS s sb c x) (flt (lsS s sb c x).r 9 (lsS s sb c x).r.pos)
 else if h:x.r.pos<(lsS s sb c x).r.pos∧x.r.pos<s.length then lsL s sb c k (lsS s sb c x)
 else x
termination_by s.length-x.r.pos
decreasing_by omega
def lsK (s:Bs) (sb:Int→Bool→Bool→Rb→Rb) (outer:Pp) (x:Rb):Rb:=
 if (opR x.r 3 7 outer x.r.pos).cd≠0 then onB x (opR x.r 3 7 outer x.r.pos)
 else lsL s sb (coA s x.r.pos) x.r.ev.length (onB x (opR x.r 3 7 outer x.r.pos))
/-- A node behind its properties. -/
def bnE (s:Bs) (sb:Int→Bool→Bool→Rb→Rb) (n:Int) (inl:Bool) (outer own:Pp) (fm:Nat) (x:Rb):Rb:=
 if inl=false∧(kyA s x.r.pos).2.2=true then mpK s sb outer own fm x
 else if inl=false∧own.has=false∧zpg s x.r.pos=true then lsK s sb outer x
 else if outer.has=true∧own.has=true then (if (rsA s own.en).2=true then onB x (flt x.r 10 (wh s own.en)) else onB x (flt x.r 7 fm))
 else scK s x (if outer.has=true then outer else own) n
def bnR (s:Bs) (sb:Int→Bool→Bool→Rb→Rb) (n:Int) (inl lo:Bool) (x:Rb):Rb:=
 if (prR s false x.r).cd≠0 then onB x (prR s false x.r)
 else if (prP s false x.r).has=true∧(rsA s (prP s false x.r).en).2=true then
  (if (ovR s (prR s false x.r) (prP s false x.r).en).cd≠0 then onB x (ovR s (prR s false x.r) (prP s false x.r).en)
  else if zak s (ovR s (prR s false x.r) (prP s false x.r).en).pos=true∨dpA s (ovR s (prR s false x.r) (prP s false x.r).en).pos n lo=false then ntB x (ovR s (prR s false x.r) (prP s false x.r).en) (prP s false x.r) (rsA s (prP s false x.r).en).1
  else if (prR s false (ovR s (prR s false x.r) (prP s false x.r).en)).cd≠0 then onB x (prR s false (ovR s (prR s false x.r) (prP s false x.r).en))
  else bnE s sb n false (prP s false x.r) (prP s false (ovR s (prR s false x.r) (prP s false x.r).en)) (ovR s (prR s false x.r) (prP s false x.r).en).pos (onB x (prR s false (ovR s (prR s false x.r) (prP s false x.r).en))))
 else bnE s sb n inl (ppz 0) (prP s false x.r) x.r.pos (onB x (prR s false x.r))
/-- A block node,where so many collections may still stand in one another. -/
def bnF (s:Bs):Nat→Int→Bool→Bool→Rb→Rb
 | 0=>bnR s fun _ _ _ x=>x
 | d+1=>bnR s (bnF s d)
end Go.Pl
end
