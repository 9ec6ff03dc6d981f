/- How the reader of the block style goes on. -/
import Derived.Test.YtgippllfnmdnpaaGreatDoorUAP
set_option linter.all false
section
namespace Go.Pl
theorem idx_bd (s:Bs) (c:UInt8) : -1≤idx s c∧idx s c<s.length:=by
 unfold idx;split
 ·rename_i i h;have:=(List.findIdx?_eq_some_iff_getElem.1 h).1;omega
 ·omega
theorem zn7 {s:Bs} {r:Rd} (h:(ze1 s r).cd=0):ze1 s r=r:=by
 unfold ze1 at h ⊢;split
 ·rfl
 ·rename_i h1;rw [if_neg h1] at h;split
  ·rfl
  ·rename_i h2;rw [if_neg h2] at h;simp [flt] at h
theorem ug {s:Bs} {r:Rd} {p:Nat} (h:(ovR s r p).cd=0):ovR s r p=atR r (gpE s p):=by
 unfold ovR at h ⊢;split
 ·rfl
 ·rename_i h1;rw [if_neg h1] at h;exact zn7 h
theorem ev_lin (s:Bs) (r:Rd):(ze1 s r).ev=r.ev:=by unfold ze1;split;rfl;split<;>rfl
theorem ev_ov (s:Bs) (r:Rd) (p:Nat):(ovR s r p).ev=r.ev:=by unfold ovR;split;rfl;exact ev_lin s _
theorem z1y (s:Bs) (q:Nat) (dg ch:Int) (sg:Bool) (h:q≤s.length):q≤(hdS s q dg ch sg).2.2.1∧(hdS s q dg ch sg).2.2.1≤s.length:=by
 fun_induction hdS s q dg ch sg with
 | case1 q dg ch sg h1 ih=>
  have:q<s.length:=zm (b:=byt s q) rfl (by omega);have:=ih (by omega);omega
 | case2 q dg ch sg h1 h2 ih=>
  have:q<s.length:=zm (b:=byt s q) rfl (by omega);have:=ih (by omega);omega
 | case3 q dg ch sg h1 h2 h3=>exact wx h
 | case4 q dg ch sg h1 h2 h3=>exact wx h
theorem zje {s:Bs} {p:Nat} (h:p<s.length):p≤(hdA s p).2.2.1∧(hdA s p).2.2.1≤s.length∧((hdA s p).2.2.2=0→p<(hdA s p).2.2.1):=by
 unfold hdA;split
 ·have:=z1y s (p+1) 0 0 false (by omega);exact ⟨by omega,this.2,fun _=>by omega⟩
 ·exact ⟨Nat.le_refl _,by simp only;omega,fun h=>by simp at h⟩
theorem rsA_end {s:Bs} {q:Nat} (h:q≤s.length) (h2:(rsA s q).2=true):∃ x,x≤s.length∧(rsA s q).1=en s x:=by
 unfold rsA at h2 ⊢;split
 ·exact ⟨wh s q,jg s q h,rfl⟩
 ·rename_i h3;rw [if_neg h3] at h2;cases h2
theorem hdS_end (s:Bs) (q:Nat) (dg ch:Int) (sg:Bool) (h:q≤s.length) (hd:0≤dg∧dg≤9):(hdS s q dg ch sg).2.2.2=0→(∃ x,x≤s.length∧(hdS s q dg ch sg).2.2.1=en s x)∧0≤(hdS s q dg ch sg).1∧(hdS s q dg ch sg).1≤9:=by
 fun_induction hdS s q dg ch sg with
 | case1 q dg ch sg h1 ih=>
  have:q<s.length:=zm (b:=byt s q) rfl (by omega);exact ih (by omega) (by omega)
 | case2 q dg ch sg h1 h2 ih=>
  have:q<s.length:=zm (b:=byt s q) rfl (by omega);exact ih (by omega) hd
 | case3 q dg ch sg h1 h2 h3=>intro _;exact ⟨rsA_end h h3,hd⟩
 | case4 q dg ch sg h1 h2 h3=>intro h4;simp at h4
theorem z10 {s:Bs} {p:Nat} (h:p<s.length) (h2:(hdA s p).2.2.2=0):(∃ x,x≤s.length∧(hdA s p).2.2.1=en s x)∧0≤(hdA s p).1∧(hdA s p).1≤9:=by
 unfold hdA at h2 ⊢;split
 ·rename_i h3;rw [if_pos h3] at h2;exact hdS_end s (p+1) 0 0 false (by omega) (by omega) h2
 ·rename_i h3;rw [if_neg h3] at h2;simp at h2
/-- Behind a line's end a line begins. -/
theorem zgw {s:Bs} {x:Nat} (h:bhL s (en s x)<s.length):la s (bhL s (en s x))=bhL s (en s x):=by
 have h1:en s x<s.length:=by unfold bhL at h;omega
 have h2:=en_10 h1;have e:bhL s (en s x)=en s x+1:=by unfold bhL;omega
 rw [e];exact la_nl h2
theorem zs9 (s:Bs) (i:Nat):bl s i≤en s i:=by
 fun_induction bl s i with
 | case1 i h ih=>
  rw [en_t (show isB s i=false by unfold isB;rw [h];decide)];exact ih
 | case2 i h=>exact zck s i
theorem zxp {s:Bs} {d f a:Nat} (h:a<s.length∧mkA s a=0∧(lnA s a=true∨d≤inA s a)):ltL s d f a=((if f≤a∧(lnA s a=false∨d<inA s a) then sub s (a+d) (en s a) else [])::(ltL s d f (bhL s (en s a))).1,(ltL s d f (bhL s (en s a))).2):=by
 conv=>lhs;rw [ltL]
 rw [dif_pos h]
theorem zn6 {s:Bs} {d f a:Nat} (h:¬(a<s.length∧mkA s a=0∧(lnA s a=true∨d≤inA s a))):ltL s d f a=([],a):=by rw [ltL,dif_neg h]
theorem wn (l:List Bs) (x:Bs):lnW (l++[x])=lnW l+x.length+1:=by simp [lnW,Nat.add_assoc]
theorem z1f (s:Bs) (d f a:Nat) (h:a≤s.length):a≤(ltL s d f a).2∧(ltL s d f a).2≤s.length:=by
 fun_induction ltL s d f a with
 | case1 a h1 ih=>
  have:=ih (uk s _);have:=zad (s:=s) h1.1;simp only;omega
 | case2 a h1=>exact ⟨Nat.le_refl _,h⟩
theorem z1p {s:Bs} {p:Nat} {n:Int} (h:p<s.length):(liA s p n).2.1≤s.length∧((liA s p n).2.2=0→p<(liA s p n).2.1):=by
 have h1:=zje h;unfold liA;split
 ·rename_i h2;exact ⟨h1.2.1,fun h3=>absurd h3 h2⟩
 ·rename_i h2;have h3:=h1.2.2 (by simpa using h2);have h4:=z1f s (ltD s n (hdA s p).1 (bhL s (hdA s p).2.2.1)).1 (ltD s n (hdA s p).1 (bhL s (hdA s p).2.2.1)).2 (bhL s (hdA s p).2.2.1) (uk s _);refine ⟨h4.2,fun _=>?_⟩;have h5:(hdA s p).2.2.1≤bhL s (hdA s p).2.2.1:=by unfold bhL;omega
  simp only;omega
/-- Where the last property ends. -/
theorem prs_enI {s:Bs} {hd:List Hd} {fl:Bool} {pos:Nat} {p:Pp} (hl:pos≤s.length) (h0:(prs s hd fl pos p).2.2=0):(prs s hd fl pos p).2.1=p∨(pos<(prs s hd fl pos p).2.1.en∧(prs s hd fl pos p).2.1.en≤s.length∧(prs s hd fl pos p).2.1.en≤(prs s hd fl pos p).1):=by
 fun_induction prs s hd fl pos p with
 | case1 pos p h ih=>
  have h1:=u4 hl h.2;have h2:=zbt (s:=s) (fl:=fl) h1.2.1;have h4:=zpj (s:=s) (hd:=hd) (fl:=fl) (p:=(prA s hd fl pos p).1) h2.2;rcases ih h2.2 h0 with h3 | h3
  ·rw [h3];exact .inr ⟨by omega,h1.2.1,by omega⟩
  ·exact .inr ⟨by omega,h3.2.1,h3.2.2⟩
 | case2 pos p h=>
  simp only at h0 ⊢;by_cases h1:zfs s pos=true
  ·rw [if_pos h1] at h0;exact absurd ⟨h1,h0⟩ h
  ·rw [if_neg h1];exact .inl rfl
theorem zh2 {s:Bs} {r:Rd} {fl:Bool} (hl:r.pos≤s.length) (h0:(prs s r.hd fl r.pos (ppz r.pos)).2.2=0) (h:(prP s fl r).has=true):r.pos<(prP s fl r).en∧(prP s fl r).en≤s.length∧(prP s fl r).en≤(prs s r.hd fl r.pos (ppz r.pos)).1:=by
 rcases prs_enI hl h0 with h1 | h1
 ·unfold prP at h;rw [h1] at h;cases h
 ·exact h1
/-- From one state to a later one,behind a node;fewer events than there might be. -/
structure StK (s:Bs) (r r':Rd):Prop where
 ok:Ok s r'
 lt:r.pos<r'.pos
 pre:r.ev <+: r'.ev
 hd:r'.hd=r.hd
 bs:r'.bs=r.bs
 dp:r'.dp=r.dp
 pot:r'.ev.length+8 * r.pos+4≤r.ev.length+8 * r'.pos
theorem StK.at0 {s:Bs} {r r':Rd} {q:Nat} (h:StK s (atR r q) r') (h1:r.pos≤q):StK s r r' :=
 ⟨h.ok,by have:=h.lt;simp only [atR] at this;omega,h.pre,h.hd,h.bs,h.dp,by have:=h.pot;have:=h.lt;simp only [atR] at *;omega⟩
theorem ze5 {s:Bs} {r:Rd} {e:Ev} {q q2:Nat} (ho:Ok s r) (h1:r.pos<q2) (h2:q2≤s.length):StK s r (xd (atR r q) e q2):=
 ⟨⟨ho.cd,h2,by simp [xd,atR,zf,ho.dn],by simp only [xd,atR,zf,List.length_append];have:=ho.bs;omega,ho.dp,by simp only [xd,atR,zf,List.length_append,List.length_singleton];have:=ho.sz;omega,ho.hd,ho.pf⟩,h1,List.prefix_append _ _,rfl,rfl,rfl,by simp only [xd,atR,zf,List.length_append,List.length_singleton];omega⟩
theorem coR_k {s:Bs} {it:Rd→Rd} {c k:Int} {r:Rd} {p:Pp} (hc:0≤c) (hl:r.pos<s.length) (ho:Ok s r) (hit:r.dp<40→zj2 s (r.dp+1) it) (hz:(coR s it c k r p).cd=0):StK s r (coR s it c k r p):=by
 have hst:=z2q hc hl ho hit hz;refine ⟨hst.ok,hst.lt,hst.pre,hst.hd,hst.bs,hst.dp, ?_⟩;unfold coR at hz ⊢;split
 ·rename_i h;rw [if_pos h] at hz;exact absurd hz h
 ·rename_i h;rw [if_neg h] at hz;obtain ⟨e,hd⟩:=zgn (show (opR r k 6 p r.pos).cd=0 by simpa using h);have hsz:=ho.sz;have hok:Ok s (atR (opR r k 6 p r.pos) (r.pos+1)):=by rw [e];refine ⟨ho.cd,hl,by simp [atR,zf,ho.dn],by simp only [atR,zf,List.length_append];have:=ho.bs;omega,by simp only [atR];omega,by simp only [atR,zf,List.length_append,List.length_singleton];omega,ho.hd,ho.pf⟩
  have hr:=clL_ok hc (hit hd) (by omega) _ r.ev.length _ rfl hok (by rw [e];rfl) (by rw [e];simp [atR,zf]) hz;have hpot:=hr.pot;have e1:(atR (opR r k 6 p r.pos) (r.pos+1)).pos=r.pos+1:=rfl;have e2:(atR (opR r k 6 p r.pos) (r.pos+1)).ev=r.ev++[evO k 6 p.an p.tg]:=by rw [e];rfl
  rw [e2,List.length_append,List.length_singleton] at hpot;omega
theorem boS_k {s:Bs} {r:Rd} {p:Pp} (ho:Ok s r) (hb:byt s r.pos=91∨byt s r.pos=123) (hz:(boS s r p).cd=0):StK s r (boS s r p):=by
 have hl:r.pos<s.length:=by
  rcases hb with h | h
  ·exact zm h (by decide)
  ·exact zm h (by decide)
 have hdp:=ho.dp;have key:∀ sb:Rd→Rd,(r.dp<40→zj2 s (r.dp+1) sb)→(boR s sb r p).cd=0→StK s r (boR s sb r p):=by
  intro sb hsb hz;unfold boR at hz ⊢;by_cases h1:byt s r.pos=91
  ·rw [if_pos h1] at hz ⊢;exact coR_k (by decide) hl ho hsb hz
  ·have h2:byt s r.pos=123:=hb.resolve_left h1;rw [if_neg h1,if_pos h2] at hz ⊢;exact coR_k (by decide) hl ho (fun h r1 h3 h4 h5=>zgm h3 (by rw [h4];exact hsb h) h5) hz
 unfold boS at hz ⊢;split at hz
 ·rename_i h9;exact key id (fun h=>by omega) hz
 ·rename_i d h9;exact key _ (fun h r1 h1 h2 h3=>zel d r1 h1 (by omega) h3) hz
theorem alR_k {s:Bs} {r:Rd} {b:Bool} (h:(alR s r b).cd=0) (ho:Ok s r):∃ e q,alR s r b=xd r e q∧r.pos+1<q∧q≤s.length:=by
 unfold alR at h ⊢;split
 ·rename_i h2;rw [if_pos h2] at h;simp [flt] at h
 ·rename_i h2;rw [if_neg h2] at h;have hp:=xa (by simpa using h2);split
  ·rename_i h3;rw [if_pos h3] at h;simp [flt] at h
  ·rename_i h3;rw [if_neg h3] at h;split
   ·exact ⟨_,_,rfl,by omega,by omega⟩
   ·rename_i h4;rw [if_neg h4] at h;simp [flt] at h
theorem qtR_k {s:Bs} {r:Rd} {p:Pp} (hb:isQu (byt s r.pos)=true) (h:(qtR s r p).cd=0) (ho:Ok s r):∃ e q,qtR s r p=xd r e q∧r.pos+1<q∧q≤s.length:=by
 unfold qtR at h ⊢;split
 ·rename_i h3;rw [if_pos h3] at h;exact absurd h h3
 ·rename_i h3;have:=zh0 hb (by simpa using h3);exact ⟨_,_,rfl,by omega,this.2⟩
theorem scK_k {s:Bs} {x:Rb} {p:Pp} {n:Int} (ho:Ok s x.r) (hz:(scK s x p n).r.cd=0):StK s x.r (scK s x p n).r:=by
 unfold scK at hz ⊢;split
 ·rename_i h1;rw [if_pos h1] at hz;have hl:x.r.pos<s.length:=by
   rcases h1 with h | h
   ·exact zm h (by decide)
   ·exact zm h (by decide)
  have hp:=z1p (n:=n) hl;split
  ·rename_i h2;rw [if_pos h2] at hz;exact absurd hz h2
  ·rename_i h2;exact ze5 (q:=x.r.pos) ho (hp.2 (by simpa using h2)) hp.1
 ·rename_i h1;rw [if_neg h1] at hz;split
  ·rename_i h2;rw [if_pos h2] at hz;exact boS_k ho h2 hz
  ·rename_i h2;rw [if_neg h2] at hz;split
   ·rename_i h3;rw [if_pos h3] at hz;obtain ⟨e,q,h4,h5,h6⟩:=alR_k hz ho;show StK s x.r (alR s x.r p.has);rw [h4];exact ze5 (q:=x.r.pos) ho (by omega) h6
   ·rename_i h3;rw [if_neg h3] at hz;split
    ·rename_i h4;rw [if_pos h4] at hz;obtain ⟨e,q,h5,h6,h7⟩:=qtR_k h4 hz ho;show StK s x.r (qtR s x.r p);rw [h5];exact ze5 (q:=x.r.pos) ho (by omega) h7
    ·rename_i h4;rw [if_neg h4] at hz;split
     ·rename_i h5;have:=zpi (n:=n) h5;exact ze5 (q:=x.r.pos) ho this.1 this.2
     ·rename_i h5;rw [if_neg h5] at hz;simp [flt] at hz
theorem scK_lt (s:Bs) (x:Rb) (y:Rd) (p:Pp) (n:Int):scK s (onB x y) p n=⟨(scK s ⟨y,false,0⟩ p n).r,(scK s ⟨y,false,0⟩ p n).fr,x.lt⟩:=by
 unfold scK onB;simp only
 repeat' split
 all_goals rfl
/-- Behind a node,the reader goes on over a gap. -/
theorem zqj {s:Bs} {x:Rb} (h:(nxK s x).r.cd=0):nxK s x=⟨atR x.r (gpE s x.r.pos),x.fr,x.r.pos⟩:=by
 unfold nxK at h ⊢;split
 ·rename_i h1;rw [if_pos h1] at h;simp [flt] at h
 ·rename_i h1;rw [if_neg h1] at h;rw [ug h]
/-- What the reader of a node zt2 does. -/
def zko (s:Bs) (D:Nat) (sb:Int→Bool→Bool→Rb→Rb):Prop:=∀ n i l x,Ok s x.r→x.r.dp=D→(sb n i l x).r.cd=0→StK s x.r (sb n i l x).r
/-- What a value leaves,counted from behind its sign. -/
structure VlA (s:Bs) (r:Rd) (a:Nat) (r':Rd):Prop where
 ok:Ok s r'
 lt:a≤r'.pos
 pre:r.ev <+: r'.ev
 hd:r'.hd=r.hd
 bs:r'.bs=r.bs
 dp:r'.dp=r.dp
 pot:r'.ev.length+8 * a≤r.ev.length+1+8 * r'.pos
theorem zqc {s:Bs} {r:Rd} {a q:Nat} (ho:Ok s r) (hsz:r.ev.length≤8 * a+64) (h1:a≤q) (h2:q≤s.length):Ok s (atR r q):=
 ⟨ho.cd,h2,ho.dn,ho.bs,ho.dp,by simp only [atR];omega,ho.hd,ho.pf⟩
theorem zw3 {s:Bs} {sb:Int→Bool→Bool→Rb→Rb} {sg:Nat} {c:Int} {li:Bool} {x:Rb} (hsb:zko s x.r.dp sb) (ho:Ok s (atR x.r (sg+1))) (hsz:x.r.ev.length+1≤8 * (sg+1)+64) (hl:sg<s.length) (hz:(vlK s sb sg c li x).r.cd=0):VlA s x.r (sg+1) (vlK s sb sg c li x).r:=by
 have hw1:=jh s (sg+1);have hw2:=jg s (sg+1) hl;have hr:=wx (s:=s) (p:=sg+1) hl;have hg1:=q8 s (sg+1);have hg2:=qr s (sg+1) hl;have key:∀ (q:Nat) (n:Int) (i l:Bool),sg+1≤q→q≤s.length→(sb n i l (onB x (atR x.r q))).r.cd=0→VlA s x.r (sg+1) (sb n i l (onB x (atR x.r q))).r:=by intro q n i l h1 h2 h3;have h4:=hsb n i l (onB x (atR x.r q)) (zqc (r:=atR x.r (sg+1)) ho (by simp only [atR];omega) h1 h2) rfl h3;have h5:=h4.lt;have h6:=h4.pot;have e1:(onB x (atR x.r q)).r.pos=q:=rfl;have e2:(onB x (atR x.r q)).r.ev=x.r.ev:=rfl;rw [e1] at h5;rw [e1,e2] at h6;exact ⟨h4.ok,by omega,h4.pre,h4.hd,h4.bs,h4.dp,by omega⟩
 unfold vlK at hz ⊢;split
 ·rename_i h1;rw [if_pos h1] at hz;exact key _ _ _ _ hw1 hw2 hz
 ·rename_i h1;rw [if_neg h1] at hz;split
  ·rename_i h2;rw [if_pos h2] at hz;exact absurd hz h2
  ·rename_i h2;rw [if_neg h2] at hz;have hov:=ug (show (ovR s x.r (sg+1)).cd=0 by simpa using h2);rw [hov] at hz ⊢;split
   ·refine ⟨⟨ho.cd,hr.2, ?_, ?_,ho.dp, ?_,ho.hd,ho.pf⟩,hr.1,List.prefix_append _ _,rfl,rfl,rfl, ?_⟩
    ·have:=ho.dn;simp only [atR] at this;simp [ntB,ntR,atR,yb,zf,this]
    ·have:=ho.bs;simp only [atR] at this;simp only [ntB,ntR,atR,yb,zf,List.length_append];omega
    ·simp only [ntB,ntR,atR,yb,zf,List.length_append,List.length_singleton];omega
    ·simp only [ntB,ntR,atR,yb,zf,List.length_append,List.length_singleton];omega
   ·rename_i h3;rw [if_neg h3] at hz;exact key _ _ _ _ hg1 hg2 hz
end Go.Pl
namespace Go.Pl
/-- The first state of a round: it may have told an event more. -/
structure OkM (s:Bs) (r:Rd):Prop where
 cd:r.cd=0
 pos:r.pos<s.length
 dn:r.dn.length=r.ev.length
 bs:r.bs≤r.ev.length
 dp:r.dp≤40
 d1:1≤r.dp
 sz:r.ev.length≤8 * r.pos+65
 hd:r.hd.length≤1048576
 pf:∀ h∈r.hd,h.pre.length≤1048576
theorem xo {s:Bs} {p:Nat} (hp:p≤s.length) (h:(kyA s p).2.2=true):(p:Int)<(kyA s p).1∧(kyA s p).1≤s.length∧(kyA s p).2.1.toNat<s.length∧p+1≤(kyA s p).2.1.toNat∧(((kyA s p).2.1.toNat:Nat):Int)=(kyA s p).2.1:=by
 by_cases hc:(keE s p).2=true∧(keE s p).1-p≤1000∧byt s (wh s (keE s p).1.toNat)=58∧gap s (wh s (keE s p).1.toNat+1)=true
 ·have h1:=zja hp;have h2:=h1.2.2 hc.1;have h3:=jh s (keE s p).1.toNat;have h4:=zm hc.2.2.1 (by decide);rw [kyA_t hc];simp only;omega
 ·rw [z1r hc] at h;cases h
theorem kyR_k {s:Bs} {r:Rd} {p:Pp} (ho:r.cd=0) (hp:r.pos≤s.length) (h:(kyR s r p).cd=0):∃ e q,kyR s r p=xd r e q∧q≤s.length:=by
 unfold kyR at h ⊢;split
 ·rename_i h1;rw [if_pos h1] at h;unfold alR at h ⊢;split
  ·rename_i h2;rw [if_pos h2] at h;simp [flt] at h
  ·rename_i h2;rw [if_neg h2] at h;have hp:=xa (by simpa using h2);split
   ·rename_i h3;rw [if_pos h3] at h;simp [flt] at h
   ·rename_i h3;rw [if_neg h3] at h;split
    ·exact ⟨_,_,rfl,by omega⟩
    ·rename_i h4;rw [if_neg h4] at h;simp [flt] at h
 ·rename_i h1;rw [if_neg h1] at h;split
  ·rename_i h2;rw [if_pos h2] at h;unfold qtR at h ⊢;split
   ·rename_i h3;rw [if_pos h3] at h;exact absurd h h3
   ·rename_i h3;have:=zh0 h2 (by simpa using h3);exact ⟨_,_,rfl,this.2⟩
  ·exact ⟨evT 1 (sub s r.pos (kyA s r.pos).1.toNat) p.an p.tg,r.pos,rfl,hp⟩
theorem kyR_sz (s:Bs) (r:Rd) (p:Pp):(kyR s r p).ev.length≤r.ev.length+1:=by
 unfold kyR alR qtR
 repeat' split
 all_goals simp [flt,atR,yb,zf]
/-- A round's end. -/
structure En (s:Bs) (r:Rd) (m:Nat) (w:Rb) (v:Rd):Prop where
 eq:w.r=atR v (gpE s v.pos)∧w.lt=v.pos
 ok:Ok s v
 lt:r.pos<v.pos
 pre:r.ev <+: v.ev
 hd:v.hd=r.hd
 bs:v.bs=r.bs
 dp:v.dp=r.dp
 pot:v.ev.length+8 * r.pos+m≤r.ev.length+8 * v.pos
theorem mpS_k {s:Bs} {sb:Int→Bool→Bool→Rb→Rb} {c:Nat} {own:Pp} {x:Rb} (hsb:zko s x.r.dp sb) (ho:OkM s x.r) (hk:(kyA s x.r.pos).2.2=true) (hz:(mpS s sb c own x).r.cd=0):∃ v,En s x.r 14 (mpS s sb c own x) v:=by
 obtain ⟨k1,k2,k3,k4,k5⟩:=xo (Nat.le_of_lt ho.pos) hk;unfold mpS at hz ⊢;split
 ·rename_i h;rw [if_pos h] at hz;exact absurd hz h
 ·rename_i h;rw [if_neg h] at hz;obtain ⟨e,q,e1,e2⟩:=kyR_k ho.cd (Nat.le_of_lt ho.pos) (show (kyR s x.r own).cd=0 by simpa using h);rw [e1] at hz ⊢;split
  ·rename_i h2;rw [if_pos h2] at hz;exact absurd hz h2
  ·rename_i h2;rw [if_neg h2] at hz;have hsz:=ho.sz;have hv:=zw3 (x:=onB x (xd x.r e q)) (li:=false) (c:=(c:Int)) hsb ⟨ho.cd,k3,by simp [onB,xd,atR,zf,ho.dn],by simp only [onB,xd,atR,zf,List.length_append];have:=ho.bs;omega,ho.dp,by simp only [onB,xd,atR,zf,List.length_append,List.length_singleton];omega,ho.hd,ho.pf⟩ (by simp only [onB,xd,atR,zf,List.length_append,List.length_singleton];omega) k3 (by simpa using h2);rw [zqj hz];generalize vlK s sb (kyA s x.r.pos).2.1.toNat c false (onB x (xd x.r e q))=v at *;have h5:=hv.lt;have h6:=hv.pot;simp only [onB,xd,atR,zf,List.length_append,List.length_singleton] at h6;exact ⟨v.r,⟨⟨rfl,rfl⟩,hv.ok,by omega,(List.prefix_append _ _).trans hv.pre,hv.hd,hv.bs,hv.dp,by omega⟩⟩
theorem lsS_k {s:Bs} {sb:Int→Bool→Bool→Rb→Rb} {c:Nat} {x:Rb} (hsb:zko s x.r.dp sb) (ho:OkM s x.r) (hz:(lsS s sb c x).r.cd=0):∃ v,En s x.r 7 (lsS s sb c x) v:=by
 unfold lsS at hz ⊢;split
 ·rename_i h2;rw [if_pos h2] at hz;exact absurd hz h2
 ·rename_i h2;rw [if_neg h2] at hz;have hsz:=ho.sz;have hv:=zw3 (x:=x) (li:=true) (c:=(c:Int)) (sg:=x.r.pos) hsb ⟨ho.cd,ho.pos,ho.dn,ho.bs,ho.dp,by simp only [atR];omega,ho.hd,ho.pf⟩ (by omega) ho.pos (by simpa using h2);rw [zqj hz];generalize vlK s sb x.r.pos c true x=v at *;have h5:=hv.lt;have h6:=hv.pot;exact ⟨v.r,⟨⟨rfl,rfl⟩,hv.ok,by omega,hv.pre,hv.hd,hv.bs,hv.dp,by omega⟩⟩
/-- From a round's first state to the end of the collection. -/
structure ClK (s:Bs) (r r':Rd):Prop where
 ok:Ok s r'
 lt:r.pos<r'.pos
 pre:r.ev <+: r'.ev
 hd:r'.hd=r.hd
 bs:r'.bs=r.bs
 dp:r'.dp+1=r.dp
 pot:r'.ev.length+8 * r.pos+5≤r.ev.length+8 * r'.pos
theorem En.done {s:Bs} {r v:Rd} {m k:Nat} {w:Rb} (h:En s r m w v) (ho:OkM s r) (hm:6≤m):ClK s r (dnK w k).r:=by
 have hsz:=ho.sz;have hpot:=h.pot;have hv:=h.ok;have hd:=h.dp;have hd1:=ho.d1;have hdp:=ho.dp;unfold dnK;rw [h.eq.1,h.eq.2];refine ⟨⟨hv.cd,hv.pos, ?_, ?_, ?_, ?_,hv.hd,hv.pf⟩,h.lt, ?_,h.hd,h.bs, ?_, ?_⟩
 ·simp [shR,atR,hv.dn]
 ·simp only [shR,atR,List.length_append];have:=hv.bs;omega
 ·simp only [shR,atR];omega
 ·simp only [shR,atR,List.length_append,List.length_singleton];omega
 ·exact h.pre.trans (List.prefix_append _ _)
 ·simp only [shR,atR];omega
 ·simp only [shR,atR,List.length_append,List.length_singleton];omega
theorem En.next {s:Bs} {r v:Rd} {m q:Nat} {w:Rb} (h:En s r m w v) (ho:OkM s r) (hm:6≤m) (h1:gpE s v.pos≤q) (h2:q<s.length):OkM s (atR v q)∧r.pos<q∧v.ev.length+8 * r.pos≤r.ev.length+8 * q:=by have hsz:=ho.sz;have hpot:=h.pot;have hlt:=h.lt;have hg:=q8 s v.pos;have hv:=h.ok;exact ⟨⟨hv.cd,h2,hv.dn,hv.bs,by rw [show (atR v q).dp=v.dp from rfl,h.dp];exact ho.dp,by rw [show (atR v q).dp=v.dp from rfl,h.dp];exact ho.d1,by simp only [atR];omega,hv.hd,hv.pf⟩,by omega,by omega⟩
theorem ClK.next {s:Bs} {r v r':Rd} {m q:Nat} {w:Rb} (hc:ClK s (atR v q) r') (h:En s r m w v) (ho:OkM s r) (hm:6≤m) (h1:gpE s v.pos≤q) (h2:q<s.length):ClK s r r':=by
 obtain ⟨_,h4,h5⟩:=h.next ho hm h1 h2
 have h6:=hc.lt;have h7:=hc.pot;have h8:=hc.dp;have h9:=h.dp;simp only [atR] at h6 h7 h8;exact ⟨hc.ok,by omega,h.pre.trans hc.pre,hc.hd.trans h.hd,hc.bs.trans h.bs,by omega,by omega⟩
theorem mpL_k {s:Bs} {sb:Int→Bool→Bool→Rb→Rb} {c k D:Nat} (hsb:zko s D sb):∀ (n:Nat) (own:Pp) (x:Rb),s.length-x.r.pos=n→OkM s x.r→x.r.dp=D→(kyA s x.r.pos).2.2=true→(mpL s sb c k own x).r.cd=0→ClK s x.r (mpL s sb c k own x).r:=by
 intro n
 induction n using Nat.strongRecOn with
 | ind n ih=>
 intro own x hn ho hd hk hz;rw [mpL] at hz ⊢;by_cases h1:(mpS s sb c own x).r.cd=0
 ·obtain ⟨v,hv⟩:=mpS_k (by rw [hd];exact hsb) ho hk h1;rw [if_neg (by simpa using h1)] at hz ⊢;by_cases h2:jl s (mpS s sb c own x).r.pos=true∨coA s (mpS s sb c own x).r.pos<c
  ·rw [if_pos h2];exact hv.done ho (by decide)
  ·rw [if_neg h2] at hz ⊢;by_cases h3:c<coA s (mpS s sb c own x).r.pos
   ·rw [if_pos h3] at hz;simp [onB,flt] at hz
   ·rw [if_neg h3] at hz ⊢;by_cases h4:(prR s false (mpS s sb c own x).r).cd=0
    ·rw [if_neg (by simpa using h4)] at hz ⊢;by_cases h5:(kyA s (prR s false (mpS s sb c own x).r).pos).2.2=true
     ·rw [if_neg (by rw [h5];simp)] at hz ⊢;have hvo:=hv.ok;have hgl:=qr s v.pos hvo.pos;rw [hv.eq.1] at h4 h5 hz ⊢;obtain ⟨q,e,hq1,hq2,_,_⟩:=xn (show (atR v (gpE s v.pos)).pos≤s.length from hgl) hvo.cd h4;rw [e] at h5 hz ⊢;have hql:q<s.length:=by have:=(xo hq2 h5).2.2.1;have:=(xo hq2 h5).2.2.2.1;omega
      obtain ⟨hM,h6,h7⟩:=hv.next ho (by decide) hq1 hql
      rw [dif_pos ⟨h6,ho.pos⟩] at hz ⊢;have hr:=ih (s.length-q) (by have:=ho.pos;omega) _ (onB (mpS s sb c own x) (atR (atR v (gpE s v.pos)) q)) rfl hM (by rw [show (onB (mpS s sb c own x) (atR (atR v (gpE s v.pos)) q)).r.dp=v.dp from rfl,hv.dp];exact hd) h5 hz;exact ClK.next (v:=v) (q:=q) hr hv ho (by decide) hq1 hql
     ·rw [if_pos (by simpa using h5)] at hz;simp [onB,flt] at hz
    ·rw [if_pos (by simpa using h4)] at hz;exact absurd hz h4
 ·rw [if_pos (by simpa using h1)] at hz;exact absurd hz h1
theorem zgo (s:Bs) (x:Rb):(nxK s x).fr=x.fr∧(nxK s x).lt=x.r.pos:=by unfold nxK;split<;>exact ⟨rfl,rfl⟩
theorem zxm {s:Bs} {sb:Int→Bool→Bool→Rb→Rb} {c k:Nat} {own:Pp} {x w:Rb} (hw:mpS s sb c own x=w) (h:¬w.r.cd=0):mpL s sb c k own x=w:=by rw [mpL,hw,if_pos h]
theorem mpL_d {s:Bs} {sb:Int→Bool→Bool→Rb→Rb} {c k:Nat} {own:Pp} {x w:Rb} (hw:mpS s sb c own x=w) (h:w.r.cd=0) (h2:jl s w.r.pos=true∨coA s w.r.pos<c):mpL s sb c k own x=dnK w k:=by rw [mpL,hw,if_neg (by simpa using h),if_pos h2]
theorem mpL_9 {s:Bs} {sb:Int→Bool→Bool→Rb→Rb} {c k:Nat} {own:Pp} {x w:Rb} (hw:mpS s sb c own x=w) (h:w.r.cd=0) (h2:¬(jl s w.r.pos=true∨coA s w.r.pos<c)) (h3:c<coA s w.r.pos):mpL s sb c k own x=onB w (flt w.r 9 w.r.pos):=by rw [mpL,hw,if_neg (by simpa using h),if_neg h2,if_pos h3]
theorem mpL_p {s:Bs} {sb:Int→Bool→Bool→Rb→Rb} {c k:Nat} {own:Pp} {x w:Rb} (hw:mpS s sb c own x=w) (h:w.r.cd=0) (h2:¬(jl s w.r.pos=true∨coA s w.r.pos<c)) (h3:¬c<coA s w.r.pos) (h4:¬(prR s false w.r).cd=0):mpL s sb c k own x=onB w (prR s false w.r):=by rw [mpL,hw,if_neg (by simpa using h),if_neg h2,if_neg h3,if_pos h4]
theorem mpL_10 {s:Bs} {sb:Int→Bool→Bool→Rb→Rb} {c k:Nat} {own:Pp} {x w:Rb} (hw:mpS s sb c own x=w) (h:w.r.cd=0) (h2:¬(jl s w.r.pos=true∨coA s w.r.pos<c)) (h3:¬c<coA s w.r.pos) (h4:(prR s false w.r).cd=0) (h5:(kyA s (prR s false w.r).pos).2.2=false):mpL s sb c k own x=onB w (flt (prR s false w.r) 10 (prR s false w.r).pos):=by rw [mpL,hw,if_neg (by simpa using h),if_neg h2,if_neg h3,if_neg (by simpa using h4),if_pos h5]
theorem mpL_n {s:Bs} {sb:Int→Bool→Bool→Rb→Rb} {c k:Nat} {own:Pp} {x w:Rb} (hw:mpS s sb c own x=w) (h:w.r.cd=0) (h2:¬(jl s w.r.pos=true∨coA s w.r.pos<c)) (h3:¬c<coA s w.r.pos) (h4:(prR s false w.r).cd=0) (h5:(kyA s (prR s false w.r).pos).2.2=true) (h6:x.r.pos<(prR s false w.r).pos∧x.r.pos<s.length):mpL s sb c k own x=mpL s sb c k (prP s false w.r) (onB w (prR s false w.r)):=by
 conv=>lhs;rw [mpL]
 rw [hw,if_neg (by simpa using h),if_neg h2,if_neg h3,if_neg (by simpa using h4),if_neg (by rw [h5];simp),dif_pos h6]
theorem lsL_m {s:Bs} {sb:Int→Bool→Bool→Rb→Rb} {c k:Nat} {x w:Rb} (hw:lsS s sb c x=w) (h:¬w.r.cd=0):lsL s sb c k x=w:=by rw [lsL,hw,if_pos h]
theorem lsL_d {s:Bs} {sb:Int→Bool→Bool→Rb→Rb} {c k:Nat} {x w:Rb} (hw:lsS s sb c x=w) (h:w.r.cd=0) (h2:jl s w.r.pos=true∨coA s w.r.pos<c∨(coA s w.r.pos=c∧zgq s w.r.pos=false)):lsL s sb c k x=dnK w k:=by rw [lsL,hw,if_neg (by simpa using h),if_pos h2]
theorem lsL_9 {s:Bs} {sb:Int→Bool→Bool→Rb→Rb} {c k:Nat} {x w:Rb} (hw:lsS s sb c x=w) (h:w.r.cd=0) (h2:¬(jl s w.r.pos=true∨coA s w.r.pos<c∨(coA s w.r.pos=c∧zgq s w.r.pos=false))) (h3:c<coA s w.r.pos):lsL s sb c k x=onB w (flt w.r 9 w.r.pos):=by rw [lsL,hw,if_neg (by simpa using h),if_neg h2,if_pos h3]
theorem lsL_n {s:Bs} {sb:Int→Bool→Bool→Rb→Rb} {c k:Nat} {x w:Rb} (hw:lsS s sb c x=w) (h:w.r.cd=0) (h2:¬(jl s w.r.pos=true∨coA s w.r.pos<c∨(coA s w.r.pos=c∧zgq s w.r.pos=false))) (h3:¬c<coA s w.r.pos) (h6:x.r.pos<w.r.pos∧x.r.pos<s.length):lsL s sb c k x=lsL s sb c k w:=by
 conv=>lhs;rw [lsL]
 rw [hw,if_neg (by simpa using h),if_neg h2,if_neg h3,dif_pos h6]
theorem zn8 {s:Bs} {p:Nat} (h:jl s p=false):p<s.length∧mkA s p=0:=by unfold jl at h;simp only [Bool.or_eq_false_iff,decide_eq_false_iff_not,Bool.not_eq_false',decide_eq_true_eq] at h;exact ⟨by omega,h.2⟩
theorem lsL_k {s:Bs} {sb:Int→Bool→Bool→Rb→Rb} {c k D:Nat} (hsb:zko s D sb):∀ (n:Nat) (x:Rb),s.length-x.r.pos=n→OkM s x.r→x.r.dp=D→(lsL s sb c k x).r.cd=0→ClK s x.r (lsL s sb c k x).r:=by
 intro n
 induction n using Nat.strongRecOn with
 | ind n ih=>
 intro x hn ho hd hz;rw [lsL] at hz ⊢;by_cases h1:(lsS s sb c x).r.cd=0
 ·obtain ⟨v,hv⟩:=lsS_k (by rw [hd];exact hsb) ho h1;rw [if_neg (by simpa using h1)] at hz ⊢;by_cases h2:jl s (lsS s sb c x).r.pos=true∨coA s (lsS s sb c x).r.pos<c∨(coA s (lsS s sb c x).r.pos=c∧zgq s (lsS s sb c x).r.pos=false)
  ·rw [if_pos h2];exact hv.done ho (by decide)
  ·rw [if_neg h2] at hz ⊢;by_cases h3:c<coA s (lsS s sb c x).r.pos
   ·rw [if_pos h3] at hz;simp [onB,flt] at hz
   ·rw [if_neg h3] at hz ⊢;have hst:jl s (lsS s sb c x).r.pos=false:=by simpa using fun h=>h2 (.inl h)
    have hql:=(zn8 hst).1;have e:(lsS s sb c x).r.pos=gpE s v.pos:=by rw [hv.eq.1];rfl
    rw [e] at hql;obtain ⟨hM,h6,h7⟩:=hv.next ho (by decide) (Nat.le_refl _) hql
    rw [dif_pos ⟨by rw [e];exact h6,ho.pos⟩] at hz ⊢;have hr:=ih (s.length-(lsS s sb c x).r.pos) (by have:=ho.pos;omega) (lsS s sb c x) rfl (by rw [hv.eq.1];exact hM) (by rw [hv.eq.1,show (atR v (gpE s v.pos)).dp=v.dp from rfl,hv.dp];exact hd) hz;rw [hv.eq.1] at hr;exact ClK.next (v:=v) (q:=gpE s v.pos) hr hv ho (by decide) (Nat.le_refl _) hql
 ·rw [if_pos (by simpa using h1)] at hz;exact absurd hz h1
theorem zqa {s:Bs} {r:Rd} {k st:Int} {p:Pp} {sg:Nat} (ho:Ok s r) (hl:r.pos<s.length) (h:(opR r k st p sg).cd=0):OkM s (opR r k st p sg)∧(opR r k st p sg).pos=r.pos∧(opR r k st p sg).ev=r.ev++[evO k st p.an p.tg]∧(opR r k st p sg).hd=r.hd∧(opR r k st p sg).bs=r.bs∧(opR r k st p sg).dp=r.dp+1∧r.dp<40:=by obtain ⟨e,hd⟩:=zgn h;rw [e];exact ⟨⟨ho.cd,hl,by simp [zf,ho.dn],by simp only [zf,List.length_append];have:=ho.bs;omega,by simp only;omega,by simp only;omega,by simp only [zf,List.length_append,List.length_singleton];have:=ho.sz;omega,ho.hd,ho.pf⟩,rfl,rfl,rfl,rfl,rfl,hd⟩
theorem mpK_k {s:Bs} {sb:Int→Bool→Bool→Rb→Rb} {outer own:Pp} {fm:Nat} {x:Rb} (hsb:x.r.dp<40→zko s (x.r.dp+1) sb) (ho:Ok s x.r) (hk:(kyA s x.r.pos).2.2=true) (hz:(mpK s sb outer own fm x).r.cd=0):StK s x.r (mpK s sb outer own fm x).r:=by
 have hl:x.r.pos<s.length:=by have:=xo ho.pos hk;omega
 unfold mpK at hz ⊢;generalize (if own.has=true then fm else x.r.pos)=fs at hz ⊢;split
 ·rename_i h;rw [if_pos h] at hz;exact absurd hz h
 ·rename_i h;rw [if_neg h] at hz;obtain ⟨hM,e1,e2,e3,e4,e5,e6⟩:=zqa ho hl (show (opR x.r 4 7 outer fs).cd=0 by simpa using h);generalize opR x.r 4 7 outer fs=o at *;have hr:=mpL_k (hsb e6) _ own (onB x o) rfl hM e5 (by rw [show (onB x o).r.pos=o.pos from rfl,e1];exact hk) hz;have h1:o.pos<_:=hr.lt;have h2:_+8 * o.pos+5≤o.ev.length+8 * _:=hr.pot;have h3:_+1=o.dp:=hr.dp;have h4:o.ev <+: _:=hr.pre;rw [e2] at h2 h4;rw [List.length_append,List.length_singleton] at h2;exact ⟨hr.ok,by omega,(List.prefix_append _ _).trans h4,hr.hd.trans e3,hr.bs.trans e4,by omega,by omega⟩
theorem lsK_k {s:Bs} {sb:Int→Bool→Bool→Rb→Rb} {outer:Pp} {x:Rb} (hsb:x.r.dp<40→zko s (x.r.dp+1) sb) (ho:Ok s x.r) (hl:x.r.pos<s.length) (hz:(lsK s sb outer x).r.cd=0):StK s x.r (lsK s sb outer x).r:=by
 unfold lsK at hz ⊢;split
 ·rename_i h;rw [if_pos h] at hz;exact absurd hz h
 ·rename_i h;rw [if_neg h] at hz;obtain ⟨hM,e1,e2,e3,e4,e5,e6⟩:=zqa ho hl (show (opR x.r 3 7 outer x.r.pos).cd=0 by simpa using h);generalize opR x.r 3 7 outer x.r.pos=o at *;have hr:=lsL_k (hsb e6) _ (onB x o) rfl hM e5 hz;have h1:o.pos<_:=hr.lt;have h2:_+8 * o.pos+5≤o.ev.length+8 * _:=hr.pot;have h3:_+1=o.dp:=hr.dp;have h4:o.ev <+: _:=hr.pre;rw [e2] at h2 h4;rw [List.length_append,List.length_singleton] at h2;exact ⟨hr.ok,by omega,(List.prefix_append _ _).trans h4,hr.hd.trans e3,hr.bs.trans e4,by omega,by omega⟩
theorem zn9 {s:Bs} {p:Nat} (h:zgq s p=true):p<s.length:=by unfold zgq at h;simp only [Bool.and_eq_true,decide_eq_true_eq] at h;exact zm h.1 (by decide)
theorem bnE_k {s:Bs} {sb:Int→Bool→Bool→Rb→Rb} {n:Int} {inl:Bool} {outer own:Pp} {fm:Nat} {x:Rb} (hsb:x.r.dp<40→zko s (x.r.dp+1) sb) (ho:Ok s x.r) (hz:(bnE s sb n inl outer own fm x).r.cd=0):StK s x.r (bnE s sb n inl outer own fm x).r:=by
 unfold bnE at hz ⊢;split
 ·rename_i h;rw [if_pos h] at hz;exact mpK_k hsb ho h.2 hz
 ·rename_i h;rw [if_neg h] at hz;split
  ·rename_i h2;rw [if_pos h2] at hz;exact lsK_k hsb ho (zn9 h2.2.2) hz
  ·rename_i h2;rw [if_neg h2] at hz;split
   ·rename_i h3;rw [if_pos h3] at hz;split at hz
    ·simp [onB,flt] at hz
    ·simp [onB,flt] at hz
   ·rename_i h3;rw [if_neg h3] at hz;exact scK_k ho hz
theorem bnR_k {s:Bs} {sb:Int→Bool→Bool→Rb→Rb} {n:Int} {inl lo:Bool} {x:Rb} (hsb:x.r.dp<40→zko s (x.r.dp+1) sb) (ho:Ok s x.r) (hz:(bnR s sb n inl lo x).r.cd=0):StK s x.r (bnR s sb n inl lo x).r:=by
 unfold bnR at hz ⊢;split
 ·rename_i h;rw [if_pos h] at hz;exact absurd hz h
 ·rename_i h;rw [if_neg h] at hz;obtain ⟨q,e,h1,h2,h3,h4⟩:=xn ho.pos ho.cd (show (prR s false x.r).cd=0 by simpa using h);rw [e] at hz ⊢;split
  ·rename_i h5;rw [if_pos h5] at hz;have h6:x.r.pos<(prP s false x.r).en∧(prP s false x.r).en≤s.length:=⟨(zh2 ho.pos h4 h5.1).1,(zh2 ho.pos h4 h5.1).2.1⟩
   have hg1:=q8 s (prP s false x.r).en;have hg2:=qr s (prP s false x.r).en h6.2;have hr:=wx (s:=s) h6.2;split
   ·rename_i h7;rw [if_pos h7] at hz;exact absurd hz h7
   ·rename_i h7;rw [if_neg h7] at hz;have hov:=ug (show (ovR s (atR x.r q) (prP s false x.r).en).cd=0 by simpa using h7);rw [hov] at hz ⊢;split
    ·exact ze5 (q:=x.r.pos) ho (by omega) hr.2
    ·rename_i h8;rw [if_neg h8] at hz;split
     ·rename_i h9;rw [if_pos h9] at hz;exact absurd hz h9
     ·rename_i h9;rw [if_neg h9] at hz;have ho2:Ok s (atR (atR x.r q) (gpE s (prP s false x.r).en)):=ho.at (q:=gpE s (prP s false x.r).en) (by omega) hg2;obtain ⟨q2,e2,k1,k2,k3,k4⟩:=xn ho2.pos ho2.cd (show (prR s false (atR (atR x.r q) (gpE s (prP s false x.r).en))).cd=0 by simpa using h9);rw [e2] at hz ⊢;have k1':gpE s (prP s false x.r).en≤q2:=k1;exact StK.at0 (q:=q2) (bnE_k (x:=onB x (atR x.r q2)) hsb (ho.at (by omega) k2) hz) (by omega)
  ·rename_i h5;rw [if_neg h5] at hz;exact StK.at0 (q:=q) (bnE_k (x:=onB x (atR x.r q)) hsb (ho.at h1 h2) hz) h1
theorem zog {s:Bs}:∀ (d:Nat) (n:Int) (i l:Bool) (x:Rb),Ok s x.r→x.r.dp+d=40→(bnF s d n i l x).r.cd=0→StK s x.r (bnF s d n i l x).r
 | 0,n,i,l,x,ho,hd,hz=>bnR_k (fun h=>by omega) ho hz
 | d+1,n,i,l,x,ho,hd,hz=>bnR_k (fun _ n2 i2 l2 x2 h1 h2 h3=>zog d n2 i2 l2 x2 h1 (by omega) h3) ho hz
end Go.Pl
end
section
namespace Go.Pl
def Sz (s:Bs) (r:Rd):Prop:=r.ev.length≤8 * s.length+70
def SbSz (s:Bs) (D:Nat) (sb:Int→Bool→Bool→Rb→Rb):Prop:=∀ n i l x,Ok s x.r→x.r.dp=D→Sz s (sb n i l x).r
theorem ev_nx (s:Bs) (x:Rb):(nxK s x).r.ev=x.r.ev:=by
 unfold nxK;split
 ·rfl
 ·exact ev_ov s _ _
theorem vlK_sz {s:Bs} {sb:Int→Bool→Bool→Rb→Rb} {sg:Nat} {c:Int} {li:Bool} {x:Rb} (hsb:SbSz s x.r.dp sb) (ho:Ok s (atR x.r (sg+1))) (hsz:x.r.ev.length+1≤8 * (sg+1)+64) (hl:sg<s.length):Sz s (vlK s sb sg c li x).r:=by
 have key:∀ (q:Nat) (n:Int) (i l:Bool),sg+1≤q→q≤s.length→Sz s (sb n i l (onB x (atR x.r q))).r:=by intro q n i l h1 h2;exact hsb n i l (onB x (atR x.r q)) (zqc (r:=atR x.r (sg+1)) ho (by simp only [atR];omega) h1 h2) rfl
 unfold vlK;split
 ·exact key _ _ _ _ (jh s _) (jg s _ hl)
 ·split
  ·show (ovR s x.r (sg+1)).ev.length≤_;rw [ev_ov];omega
  ·rename_i h2;have hov:=ug (show (ovR s x.r (sg+1)).cd=0 by simpa using h2);rw [hov];split
   ·simp only [Sz,ntB,ntR,atR,yb,zf,List.length_append,List.length_singleton];omega
   ·exact key _ _ _ _ (q8 s _) (qr s _ hl)
theorem mpS_sz {s:Bs} {sb:Int→Bool→Bool→Rb→Rb} {c:Nat} {own:Pp} {x:Rb} (hsb:SbSz s x.r.dp sb) (ho:OkM s x.r) (hk:(kyA s x.r.pos).2.2=true):Sz s (mpS s sb c own x).r:=by
 obtain ⟨k1,k2,k3,k4,k5⟩:=xo (Nat.le_of_lt ho.pos) hk;have hsz:=ho.sz;have hpos:=ho.pos;unfold mpS;split
 ·have:=kyR_sz s x.r own;simp only [Sz,onB];omega
 ·rename_i h;obtain ⟨e,q,e1,e2⟩:=kyR_k ho.cd (Nat.le_of_lt ho.pos) (show (kyR s x.r own).cd=0 by simpa using h);rw [e1];have hv:=vlK_sz (x:=onB x (xd x.r e q)) (li:=false) (c:=(c:Int)) hsb ⟨ho.cd,k3,by simp [onB,xd,atR,zf,ho.dn],by simp only [onB,xd,atR,zf,List.length_append];have:=ho.bs;omega,ho.dp,by simp only [onB,xd,atR,zf,List.length_append,List.length_singleton];omega,ho.hd,ho.pf⟩ (by simp only [onB,xd,atR,zf,List.length_append,List.length_singleton];omega) k3;split
  ·exact hv
  ·unfold Sz;rw [ev_nx];exact hv
theorem lsS_sz {s:Bs} {sb:Int→Bool→Bool→Rb→Rb} {c:Nat} {x:Rb} (hsb:SbSz s x.r.dp sb) (ho:OkM s x.r):Sz s (lsS s sb c x).r:=by
 have hsz:=ho.sz;have hv:=vlK_sz (x:=x) (li:=true) (c:=(c:Int)) (sg:=x.r.pos) hsb ⟨ho.cd,ho.pos,ho.dn,ho.bs,ho.dp,by simp only [atR];omega,ho.hd,ho.pf⟩ (by omega) ho.pos;unfold lsS;split
 ·exact hv
 ·unfold Sz;rw [ev_nx];exact hv
theorem En.sz {s:Bs} {r v:Rd} {m k:Nat} {w:Rb} (h:En s r m w v):Sz s (dnK w k).r:=by have:=h.ok.sz;have:=h.ok.pos;unfold dnK Sz;rw [h.eq.1];simp only [shR,atR,List.length_append,List.length_singleton];omega
theorem mpL_sz {s:Bs} {sb:Int→Bool→Bool→Rb→Rb} {c k D:Nat} (hsb:zko s D sb) (hsz:SbSz s D sb):∀ (n:Nat) (own:Pp) (x:Rb),s.length-x.r.pos=n→OkM s x.r→x.r.dp=D→(kyA s x.r.pos).2.2=true→Sz s (mpL s sb c k own x).r:=by
 intro n
 induction n using Nat.strongRecOn with
 | ind n ih=>
 intro own x hn ho hd hk;rw [mpL];have hS:=mpS_sz (c:=c) (own:=own) (by rw [hd];exact hsz) ho hk;by_cases h1:(mpS s sb c own x).r.cd=0
 ·obtain ⟨v,hv⟩:=mpS_k (by rw [hd];exact hsb) ho hk h1;rw [if_neg (by simpa using h1)];by_cases h2:jl s (mpS s sb c own x).r.pos=true∨coA s (mpS s sb c own x).r.pos<c
  ·rw [if_pos h2];exact hv.sz
  ·rw [if_neg h2];by_cases h3:c<coA s (mpS s sb c own x).r.pos
   ·rw [if_pos h3];exact hS
   ·rw [if_neg h3];by_cases h4:(prR s false (mpS s sb c own x).r).cd=0
    ·rw [if_neg (by simpa using h4)];by_cases h5:(kyA s (prR s false (mpS s sb c own x).r).pos).2.2=true
     ·rw [if_neg (by rw [h5];simp)];have hvo:=hv.ok;have hgl:=qr s v.pos hvo.pos;rw [hv.eq.1] at h4 h5 ⊢;obtain ⟨q,e,hq1,hq2,_,_⟩:=xn (show (atR v (gpE s v.pos)).pos≤s.length from hgl) hvo.cd h4;rw [e] at h5 ⊢;have hql:q<s.length:=by have:=(xo hq2 h5).2.2.1;have:=(xo hq2 h5).2.2.2.1;omega
      obtain ⟨hM,h6,h7⟩:=hv.next ho (by decide) hq1 hql
      rw [dif_pos ⟨h6,ho.pos⟩];exact ih (s.length-q) (by have:=ho.pos;omega) _ (onB (mpS s sb c own x) (atR (atR v (gpE s v.pos)) q)) rfl hM (by rw [show (onB (mpS s sb c own x) (atR (atR v (gpE s v.pos)) q)).r.dp=v.dp from rfl,hv.dp];exact hd) h5
     ·rw [if_pos (by simpa using h5)];show (prR s false (mpS s sb c own x).r).ev.length≤_;rw [zmr];exact hS
    ·rw [if_pos (by simpa using h4)];show (prR s false (mpS s sb c own x).r).ev.length≤_;rw [zmr];exact hS
 ·rw [if_pos (by simpa using h1)];exact hS
theorem lsL_sz {s:Bs} {sb:Int→Bool→Bool→Rb→Rb} {c k D:Nat} (hsb:zko s D sb) (hsz:SbSz s D sb):∀ (n:Nat) (x:Rb),s.length-x.r.pos=n→OkM s x.r→x.r.dp=D→Sz s (lsL s sb c k x).r:=by
 intro n
 induction n using Nat.strongRecOn with
 | ind n ih=>
 intro x hn ho hd;rw [lsL];have hS:=lsS_sz (c:=c) (by rw [hd];exact hsz) ho;by_cases h1:(lsS s sb c x).r.cd=0
 ·obtain ⟨v,hv⟩:=lsS_k (by rw [hd];exact hsb) ho h1;rw [if_neg (by simpa using h1)];by_cases h2:jl s (lsS s sb c x).r.pos=true∨coA s (lsS s sb c x).r.pos<c∨(coA s (lsS s sb c x).r.pos=c∧zgq s (lsS s sb c x).r.pos=false)
  ·rw [if_pos h2];exact hv.sz
  ·rw [if_neg h2];by_cases h3:c<coA s (lsS s sb c x).r.pos
   ·rw [if_pos h3];exact hS
   ·rw [if_neg h3];have hst:jl s (lsS s sb c x).r.pos=false:=by simpa using fun h=>h2 (.inl h)
    have hql:=(zn8 hst).1;have e:(lsS s sb c x).r.pos=gpE s v.pos:=by rw [hv.eq.1];rfl
    rw [e] at hql;obtain ⟨hM,h6,h7⟩:=hv.next ho (by decide) (Nat.le_refl _) hql
    rw [dif_pos ⟨by rw [e];exact h6,ho.pos⟩];exact ih (s.length-(lsS s sb c x).r.pos) (by have:=ho.pos;omega) (lsS s sb c x) rfl (by rw [hv.eq.1];exact hM) (by rw [hv.eq.1,show (atR v (gpE s v.pos)).dp=v.dp from rfl,hv.dp];exact hd)
 ·rw [if_pos (by simpa using h1)];exact hS
theorem mpK_sz {s:Bs} {sb:Int→Bool→Bool→Rb→Rb} {outer own:Pp} {fm:Nat} {x:Rb} (hsb:x.r.dp<40→zko s (x.r.dp+1) sb) (hsz:x.r.dp<40→SbSz s (x.r.dp+1) sb) (ho:Ok s x.r) (hk:(kyA s x.r.pos).2.2=true):Sz s (mpK s sb outer own fm x).r:=by
 have hl:x.r.pos<s.length:=by have:=xo ho.pos hk;omega
 have h9:=ho.sz;unfold mpK;generalize (if own.has=true then fm else x.r.pos)=fs;split
 ·have:=z15 x.r 4 7 outer fs;simp only [Sz,onB];omega
 ·rename_i h;obtain ⟨hM,e1,e2,e3,e4,e5,e6⟩:=zqa ho hl (show (opR x.r 4 7 outer fs).cd=0 by simpa using h);generalize opR x.r 4 7 outer fs=o at *;exact mpL_sz (hsb e6) (hsz e6) _ own (onB x o) rfl hM e5 (by rw [show (onB x o).r.pos=o.pos from rfl,e1];exact hk)
theorem lsK_sz {s:Bs} {sb:Int→Bool→Bool→Rb→Rb} {outer:Pp} {x:Rb} (hsb:x.r.dp<40→zko s (x.r.dp+1) sb) (hsz:x.r.dp<40→SbSz s (x.r.dp+1) sb) (ho:Ok s x.r) (hl:x.r.pos<s.length):Sz s (lsK s sb outer x).r:=by
 have h9:=ho.sz;unfold lsK;split
 ·have:=z15 x.r 3 7 outer x.r.pos;simp only [Sz,onB];omega
 ·rename_i h;obtain ⟨hM,e1,e2,e3,e4,e5,e6⟩:=zqa ho hl (show (opR x.r 3 7 outer x.r.pos).cd=0 by simpa using h);generalize opR x.r 3 7 outer x.r.pos=o at *;exact lsL_sz (hsb e6) (hsz e6) _ (onB x o) rfl hM e5
theorem boS_sz {s:Bs} {r:Rd} {p:Pp} (ho:Ok s r) (hb:byt s r.pos=91∨byt s r.pos=123):Sz s (boS s r p):=by
 have hl:r.pos<s.length:=by
  rcases hb with h | h
  ·exact zm h (by decide)
  ·exact zm h (by decide)
 have hdp:=ho.dp;have key:∀ sb:Rd→Rd,(r.dp<40→zj2 s (r.dp+1) sb)→(r.dp<40→ItSz s (r.dp+1) sb)→Sz s (boR s sb r p):=by
  intro sb hsb hsz;unfold boR Sz;by_cases h1:byt s r.pos=91
  ·rw [if_pos h1];have:=zwd (c:=93) (k:=3) (p:=p) hl ho hsb hsz;omega
  ·have h2:byt s r.pos=123:=hb.resolve_left h1;rw [if_neg h1,if_pos h2];have:=zwd (it:=paR s sb) (c:=125) (k:=4) (p:=p) hl ho (fun h r1 h3 h4 h5=>zgm h3 (by rw [h4];exact hsb h) h5) (fun h r1 h3 h4=>paR_sz h3 (by rw [h4];exact hsz h));omega
 unfold boS;split
 ·rename_i h9;exact key id (fun h=>by omega) (fun h=>by omega)
 ·rename_i d h9;exact key _ (fun h r1 h1 h2 h3=>zel d r1 h1 (by omega) h3) (fun h r1 h1 h2=>noF_sz d r1 h1 (by omega))
theorem scK_sz {s:Bs} {x:Rb} {p:Pp} {n:Int} (ho:Ok s x.r):Sz s (scK s x p n).r:=by
 have h9:=ho.sz;have h8:=ho.pos;unfold scK;split
 ·split
  ·simp only [Sz,flt];omega
  ·simp only [Sz,atR,yb,zf,List.length_append,List.length_singleton];omega
 ·split
  ·rename_i h2;exact boS_sz ho h2
  ·have h7:(alR s x.r p.has).ev.length≤x.r.ev.length+1:=by unfold alR;(repeat' split)<;>simp [flt,atR,zf]
   have h6:(qtR s x.r p).ev.length≤x.r.ev.length+1:=by unfold qtR;(repeat' split)<;>simp [flt,atR,zf,yb]
   have h5:(plR s x.r p n false).ev.length≤x.r.ev.length+1:=by simp [plR,atR,yb,zf]
   unfold Sz
   repeat' split
   all_goals first | (simp only [flt];omega) | (simp only;omega)
theorem bnE_sz {s:Bs} {sb:Int→Bool→Bool→Rb→Rb} {n:Int} {inl:Bool} {outer own:Pp} {fm:Nat} {x:Rb} (hsb:x.r.dp<40→zko s (x.r.dp+1) sb) (hsz:x.r.dp<40→SbSz s (x.r.dp+1) sb) (ho:Ok s x.r):Sz s (bnE s sb n inl outer own fm x).r:=by
 have h9:=ho.sz;have h8:=ho.pos;unfold bnE;split
 ·rename_i h;exact mpK_sz hsb hsz ho h.2
 ·split
  ·rename_i h2;exact lsK_sz hsb hsz ho (zn9 h2.2.2)
  ·split
   ·split<;>(simp only [Sz,onB,flt];omega)
   ·exact scK_sz ho
theorem bnR_sz {s:Bs} {sb:Int→Bool→Bool→Rb→Rb} {n:Int} {inl lo:Bool} {x:Rb} (hsb:x.r.dp<40→zko s (x.r.dp+1) sb) (hsz:x.r.dp<40→SbSz s (x.r.dp+1) sb) (ho:Ok s x.r):Sz s (bnR s sb n inl lo x).r:=by
 have h9:=ho.sz;have h8:=ho.pos;unfold bnR;split
 ·show (prR s false x.r).ev.length≤_;rw [zmr];omega
 ·rename_i h;obtain ⟨q,e,h1,h2,h3,h4⟩:=xn ho.pos ho.cd (show (prR s false x.r).cd=0 by simpa using h);rw [e];split
  ·rename_i h5;have h6:=zh2 ho.pos h4 h5.1;have hg1:=q8 s (prP s false x.r).en;have hg2:=qr s (prP s false x.r).en h6.2.1;split
   ·show (ovR s (atR x.r q) (prP s false x.r).en).ev.length≤_;rw [ev_ov];simp only [atR];omega
   ·rename_i h7;have hov:=ug (show (ovR s (atR x.r q) (prP s false x.r).en).cd=0 by simpa using h7);rw [hov];split
    ·simp only [Sz,ntB,ntR,atR,yb,zf,List.length_append,List.length_singleton];omega
    ·have ho2:Ok s (atR (atR x.r q) (gpE s (prP s false x.r).en)):=ho.at (q:=gpE s (prP s false x.r).en) (by omega) hg2;split
     ·show (prR s false (atR (atR x.r q) (gpE s (prP s false x.r).en))).ev.length≤_;rw [zmr];simp only [atR];omega
     ·rename_i h10;obtain ⟨q2,e2,k1,k2,k3,k4⟩:=xn ho2.pos ho2.cd (show (prR s false (atR (atR x.r q) (gpE s (prP s false x.r).en))).cd=0 by simpa using h10);rw [e2];have k1':gpE s (prP s false x.r).en≤q2:=k1;exact bnE_sz (x:=onB x (atR x.r q2)) hsb hsz (ho.at (by omega) k2)
  ·exact bnE_sz (x:=onB x (atR x.r q)) hsb hsz (ho.at h1 h2)
theorem zwh {s:Bs}:∀ (d:Nat) (n:Int) (i l:Bool) (x:Rb),Ok s x.r→x.r.dp+d=40→Sz s (bnF s d n i l x).r
 | 0,n,i,l,x,ho,hd=>bnR_sz (fun h=>by omega) (fun h=>by omega) ho
 | d+1,n,i,l,x,ho,hd=>bnR_sz (fun _ n2 i2 l2 x2 h1 h2 h3=>zog d n2 i2 l2 x2 h1 (by omega) h3) (fun _ n2 i2 l2 x2 h1 h2=>zwh d n2 i2 l2 x2 h1 (by omega)) ho
end Go.Pl
end
