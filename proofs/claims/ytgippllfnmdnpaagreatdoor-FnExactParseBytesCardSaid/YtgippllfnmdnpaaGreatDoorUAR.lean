/- Documents and streams, in plain words. -/
import Derived.Test.YtgippllfnmdnpaaGreatDoorUAQ
import Derived.Shelf.Unicode.DecodeSlow
import Derived.Test.YtgippllfnmdnpaaGreatDoorUAN
import Derived.Test.YtgippllfnmdnpaaGreatDoorUAP
import Derived.Lib.DecodeN
set_option linter.all false
section
namespace Go.Pl
def hkO (h:Hd):Bool:=nmO h.name&&(decide (1≤h.pre.length)&&decide (h.pre.length≤60))&&h.pre.all fun b=>decide (33≤b.toNat)&&decide (b.toNat≤126)
/-- Whether there is a directive. -/
def zgr (s:Bs) (p:Nat):Bool:=decide (byt s p=37)&&decide (coA s p=0)
def drW (s:Bs) (p:Nat):List Bs:=zcg s (en s p) p
def yamW:Bs:=[37,89,65,77,76]
def tagW:Bs:=[37,84,65,71]
def zvy (s:Bs) (p:Nat):Bool:=decide ((drW s p).getD 0 []=yamW)&&decide ((drW s p).length=2)
def zxr (s:Bs) (p:Nat):Bool:=decide ((drW s p).getD 0 []=tagW)&&decide ((drW s p).length=3)
def drN (s:Bs) (p:Nat):Hd:=⟨(drW s p).getD 1 [],(drW s p).getD 2 []⟩
def drO (s:Bs) (r:Rd) (y:Bool):Bool:=
 if zvy s r.pos=true then (decide ((drW s r.pos).getD 1 []=[49,46,49])||decide ((drW s r.pos).getD 1 []=[49,46,50]))&&!y
 else if zxr s r.pos=true then hkO (drN s r.pos)&&r.hd.all fun h=>!decide (h.name=(drN s r.pos).name)
 else false
def drH (s:Bs) (r:Rd):List Hd:=if zvy s r.pos=true then r.hd else if zxr s r.pos=true then r.hd++[drN s r.pos] else r.hd
def drY (s:Bs) (p:Nat) (y:Bool):Bool:=zvy s p||y
def hdR (r:Rd) (l:List Hd):Rd:={ r with hd:=l }
/-- One directive. -/
def drR (s:Bs) (r:Rd) (y:Bool):Rd:=
 if drO s r y=false then flt (hdR r (drH s r)) 13 r.pos
 else if mkA s (gpE s (en s r.pos))=1∨zgr s (gpE s (en s r.pos))=true then atR (hdR r (drH s r)) (gpE s (en s r.pos))
 else flt (atR (hdR r (drH s r)) (gpE s (en s r.pos))) 13 (gpE s (en s r.pos))
/-- All directives. -/
def drL (s:Bs) (y:Bool) (r:Rd):Rd:=
 if zgr s r.pos=true then (if (drR s r y).cd≠0 then drR s r y else if h:r.pos<(drR s r y).pos∧r.pos<s.length then drL s (drY s r.pos y) (drR s r y) else r) else r
termination_by s.length-r.pos
decreasing_by omega
def evS:Ev:=⟨1,0,false,[],[],[],0,0⟩
def evD (m:Bool):Ev:=⟨2,0,m,[],[],[],0,0⟩
def xe (m:Bool):Ev:=⟨8,0,m,[],[],[],0,0⟩
def evSE:Ev:=⟨9,0,false,[],[],[],0,0⟩
def evF (c:Int) (p:Nat):Ev:=⟨10,0,false,[],[],[],(p:Nat),c⟩
/-- The node of a document. -/
def rtK (s:Bs) (mark:Bool) (x:Rb):Rb:=
 if mark=false then (if (ze1 s x.r).cd≠0 then onB x (ze1 s x.r) else bnF s 40 (-1) false false (onB x (ze1 s x.r)))
 else if (rsA s (x.r.pos+3)).2=false then bnF s 40 (-1) true false (onB x (atR x.r (wh s (x.r.pos+3))))
 else if (ovR s x.r (x.r.pos+3)).cd≠0 then onB x (ovR s x.r (x.r.pos+3))
 else if jl s (ovR s x.r (x.r.pos+3)).pos=true then ntB x (ovR s x.r (x.r.pos+3)) (ppz 0) (rsA s (x.r.pos+3)).1
 else bnF s 40 (-1) false false (onB x (ovR s x.r (x.r.pos+3)))
def rmR (s:Bs) (r:Rd):Rd:=if (rsA s (r.pos+3)).2=false then flt r 8 (rsA s (r.pos+3)).1 else atR r (rsA s (r.pos+3)).1
def dcT (s:Bs) (z:Rb):Rb:=
 if jl s z.r.pos=false then onB z (flt z.r 9 z.r.pos)
 else if mkA s z.r.pos=2 then (if (rmR s z.r).cd≠0 then onB z (rmR s z.r) else onB z (zf (rmR s z.r) (xe true) true))
 else onB z (zf z.r (xe false) true)
def dcS (s:Bs) (r:Rd):Rd:=drL s false { r with bs:=r.ev.length,hd:=[] }
def dcM (s:Bs) (m:Bool) (x:Rb):Rb:=rtK s m ⟨zf x.r (evD m) true,false,x.lt⟩
/-- A document. -/
def dcK (s:Bs) (x:Rb):Rb:=
 if (dcS s x.r).cd≠0 then onB x (dcS s x.r)
 else if (dcM s (decide (mkA s (dcS s x.r).pos=1)) (onB x (dcS s x.r))).r.cd≠0 then dcM s (decide (mkA s (dcS s x.r).pos=1)) (onB x (dcS s x.r))
 else if (nxK s (dcM s (decide (mkA s (dcS s x.r).pos=1)) (onB x (dcS s x.r)))).r.cd≠0 then nxK s (dcM s (decide (mkA s (dcS s x.r).pos=1)) (onB x (dcS s x.r)))
 else dcT s (nxK s (dcM s (decide (mkA s (dcS s x.r).pos=1)) (onB x (dcS s x.r))))
/-- One step of a stream,at what is behind a gap. -/
def smS (s:Bs) (x:Rb):Rb:=if mkA s x.r.pos=2 then onB x (rmR s x.r) else dcK s x
def smL (s:Bs) (x:Rb):Rb:=
 if s.length≤gpE s x.r.pos then onB x (zf (atR x.r (gpE s x.r.pos)) evSE true)
 else if (smS s (onB x (atR x.r (gpE s x.r.pos)))).r.cd≠0 then smS s (onB x (atR x.r (gpE s x.r.pos)))
 else if h:x.r.pos<(smS s (onB x (atR x.r (gpE s x.r.pos)))).r.pos∧x.r.pos<s.length then smL s (smS s (onB x (atR x.r (gpE s x.r.pos)))) else x
termination_by s.length-x.r.pos
decreasing_by omega
def psR (s:Bs):Rd:=(smL s ⟨zf (rdz 0) evS true,false,0⟩).r
/-- The events of a text whose first place that is not clean is known. -/
def psE (cl:Nat) (s:Bs):List Ev:=
 if 60000<s.length then [evS,evF 1 60000] else if cl≠s.length then [evS,evF 1 cl] else if (psR s).cd≠0 then (psR s).ev++[evF (psR s).cd (psR s).pl] else (psR s).ev
/-- What holds between documents. -/
structure OkS (s:Bs) (r:Rd):Prop where
 ok:Ok s r
 dp:r.dp=0
 sz:r.ev.length≤8 * r.pos+62
theorem zuq {s:Bs} {r:Rd} (h:(rmR s r).cd=0):rmR s r=atR r (rsA s (r.pos+3)).1∧(rsA s (r.pos+3)).2=true:=by
 unfold rmR at h ⊢;split
 ·rename_i h1;rw [if_pos h1] at h;simp [flt] at h
 ·rename_i h1;exact ⟨rfl,by simpa using h1⟩
theorem xk {s:Bs} {p:Nat} (h:mkA s p≠0):p+3≤s.length∧la s p=p:=by
 unfold mkA at h;split at h
 ·rename_i h1;exact ⟨h1.2.1,h1.1⟩
 ·exact absurd rfl h
theorem ev_dr (s:Bs) (r:Rd) (y:Bool):(drR s r y).ev=r.ev:=by unfold drR;(repeat' split)<;>rfl
/-- What holds while directives are read. -/
structure OkD (s:Bs) (r:Rd):Prop where
 cd:r.cd=0
 pos:r.pos≤s.length
 dn:r.dn.length=r.ev.length
 bs:r.bs≤r.ev.length
 dp:r.dp=0
 sz:r.ev.length≤8 * r.pos+62
 hd:r.hd.length≤r.pos
 pf:∀ h∈r.hd,h.pre.length≤60
theorem zdf {s:Bs} {p:Nat} (h:zgr s p=true):byt s p=37∧p<s.length∧la s p=p:=by unfold zgr coA at h;simp only [Bool.and_eq_true,decide_eq_true_eq] at h;exact ⟨h.1,zm h.1 (by decide),by have:=zfq s p;omega⟩
theorem z2k {s:Bs} {r:Rd} {y:Bool} (ho:OkD s r) (hd:zgr s r.pos=true) (hz:(drR s r y).cd=0):drR s r y=atR (hdR r (drH s r)) (gpE s (en s r.pos))∧OkD s (drR s r y)∧r.pos<(drR s r y).pos:=by
 obtain ⟨h37,hl,hla⟩:=zdf hd;have hB:isB s r.pos=false:=by unfold isB;rw [h37];decide
 have h1:=z2f hB;have h2:=uo s r.pos (Nat.le_of_lt hl);have h3:=q8 s (en s r.pos);have h4:=qr s (en s r.pos) h2;unfold drR at hz ⊢;split
 ·rename_i h;rw [if_pos h] at hz;simp [flt] at hz
 ·rename_i h;rw [if_neg h] at hz;split
  ·refine ⟨rfl,⟨ho.cd,h4,ho.dn,ho.bs,ho.dp, ?_, ?_, ?_⟩,by simp only [atR];omega⟩
   ·have:=ho.sz;simp only [atR,hdR];omega
   ·have h5:=ho.hd;simp only [atR,hdR,drH]
    repeat' split
    all_goals (try simp only [List.length_append,List.length_singleton]);omega
   ·intro x hx;simp only [atR,hdR,drH] at hx;split at hx
    ·exact ho.pf x hx
    ·rename_i h6;split at hx
     ·rename_i h7;rcases List.mem_append.1 hx with h8 | h8
      ·exact ho.pf x h8
      ·have h9:x=drN s r.pos:=by simpa using h8
       have h10:drO s r y=true:=by simpa using h
       unfold drO at h10;rw [if_neg h6,if_pos h7] at h10;simp only [Bool.and_eq_true] at h10;have h11:=h10.1;unfold hkO at h11;simp only [Bool.and_eq_true,decide_eq_true_eq] at h11;rw [h9];exact h11.1.2.2
     ·exact ho.pf x hx
  ·rename_i h6;rw [if_neg h6] at hz;simp [flt] at hz
theorem drL_ok {s:Bs}:∀ (n:Nat) (y:Bool) (r:Rd),s.length-r.pos=n→OkD s r→((drL s y r).ev=r.ev∧(drL s y r).bs=r.bs∧((drL s y r).cd=0→OkD s (drL s y r)∧r.pos≤(drL s y r).pos∧zgr s (drL s y r).pos=false)):=by
 intro n
 induction n using Nat.strongRecOn with
 | ind n ih=>
 intro y r hn ho;rw [drL];by_cases h1:zgr s r.pos=true
 ·rw [if_pos h1];by_cases h2:(drR s r y).cd=0
  ·rw [if_neg (by simpa using h2)];obtain ⟨e,h3,h4⟩:=z2k ho h1 h2;have hl:=(zdf h1).2.1;rw [dif_pos ⟨h4,hl⟩];obtain ⟨k1,k2,k3⟩:=ih (s.length-(drR s r y).pos) (by omega) (drY s r.pos y) (drR s r y) rfl h3;refine ⟨by rw [k1,ev_dr],by rw [k2,e];rfl,fun hz=>?_⟩;obtain ⟨k4,k5,k6⟩:=k3 hz;exact ⟨k4,by omega,k6⟩
  ·rw [if_pos h2];refine ⟨ev_dr s r y, ?_,fun hz=>absurd hz h2⟩;unfold drR;(repeat' split)<;>rfl
 ·rw [if_neg h1];exact ⟨rfl,rfl,fun _=>⟨ho,Nat.le_refl _,by simpa using h1⟩⟩
/-- The beginning of a document. -/
theorem dcS_ok {s:Bs} {r:Rd} (ho:OkS s r):(dcS s r).ev=r.ev∧(dcS s r).bs=r.ev.length∧((dcS s r).cd=0→OkD s (dcS s r)∧r.pos≤(dcS s r).pos∧zgr s (dcS s r).pos=false):=
 drL_ok _ false { r with bs:=r.ev.length,hd:=[] } rfl ⟨ho.ok.cd,ho.ok.pos,ho.ok.dn,Nat.le_refl _,ho.dp,ho.sz,Nat.zero_le _,fun h hh=>by simp at hh⟩
theorem rtK_k {s:Bs} {m:Bool} {x:Rb} (ho:Ok s x.r) (hd:x.r.dp=0) (hm:m=true→x.r.pos+3≤s.length) (hz:(rtK s m x).r.cd=0):StK s x.r (rtK s m x).r:=by
 unfold rtK at hz ⊢;split
 ·rename_i h;rw [if_pos h] at hz;split
  ·rename_i h1;rw [if_pos h1] at hz;exact absurd hz h1
  ·rename_i h1;rw [if_neg h1] at hz;rw [zn7 (show (ze1 s x.r).cd=0 by simpa using h1)] at hz ⊢;exact zog 40 _ _ _ (onB x x.r) ho (by show x.r.dp+40=40;omega) hz
 ·rename_i h;rw [if_neg h] at hz;have hl:=hm (by simpa using h);have hr:=wx (s:=s) (p:=x.r.pos+3) hl;have hw1:=jh s (x.r.pos+3);have hw2:=jg s (x.r.pos+3) hl;have hg1:=q8 s (x.r.pos+3);have hg2:=qr s (x.r.pos+3) hl;split
  ·rename_i h1;rw [if_pos h1] at hz;exact StK.at0 (q:=wh s (x.r.pos+3)) (zog 40 _ _ _ (onB x (atR x.r (wh s (x.r.pos+3)))) (ho.at (by omega) hw2) (by show x.r.dp+40=40;omega) hz) (by omega)
  ·rename_i h1;rw [if_neg h1] at hz;split
   ·rename_i h2;rw [if_pos h2] at hz;exact absurd hz h2
   ·rename_i h2;rw [if_neg h2] at hz;rw [ug (show (ovR s x.r (x.r.pos+3)).cd=0 by simpa using h2)] at hz ⊢;split
    ·exact ze5 (q:=x.r.pos) ho (by omega) hr.2
    ·rename_i h3;rw [if_neg h3] at hz;exact StK.at0 (q:=gpE s (x.r.pos+3)) (zog 40 _ _ _ (onB x (atR x.r (gpE s (x.r.pos+3)))) (ho.at (by omega) hg2) (by show x.r.dp+40=40;omega) hz) (by omega)
theorem rtK_sz {s:Bs} {m:Bool} {x:Rb} (ho:Ok s x.r) (hd:x.r.dp=0) (hm:m=true→x.r.pos+3≤s.length):Sz s (rtK s m x).r:=by
 have h9:=ho.sz;have h8:=ho.pos;unfold rtK;split
 ·split
  ·show (ze1 s x.r).ev.length≤_;rw [ev_lin];omega
  ·rename_i h1;rw [zn7 (show (ze1 s x.r).cd=0 by simpa using h1)];exact zwh 40 _ _ _ (onB x x.r) ho (by show x.r.dp+40=40;omega)
 ·rename_i h;have hl:=hm (by simpa using h);have hw1:=jh s (x.r.pos+3);have hw2:=jg s (x.r.pos+3) hl;have hg1:=q8 s (x.r.pos+3);have hg2:=qr s (x.r.pos+3) hl;split
  ·exact zwh 40 _ _ _ (onB x (atR x.r (wh s (x.r.pos+3)))) (ho.at (by omega) hw2) (by show x.r.dp+40=40;omega)
  ·split
   ·show (ovR s x.r (x.r.pos+3)).ev.length≤_;rw [ev_ov];omega
   ·rename_i h2;rw [ug (show (ovR s x.r (x.r.pos+3)).cd=0 by simpa using h2)];split
    ·simp only [Sz,ntB,ntR,atR,yb,zf,List.length_append,List.length_singleton];omega
    ·exact zwh 40 _ _ _ (onB x (atR x.r (gpE s (x.r.pos+3)))) (ho.at (by omega) hg2) (by show x.r.dp+40=40;omega)
theorem OkD.tell {s:Bs} {r:Rd} {m:Bool} (h:OkD s r) (hs:s.length≤1048576):Ok s (zf r (evD m) true):=
 ⟨h.cd,h.pos,by simp [zf,h.dn],by simp only [zf,List.length_append];have:=h.bs;omega,by show r.dp≤40;rw [h.dp];omega,by simp only [zf,List.length_append,List.length_singleton];have:=h.sz;omega,by have:=h.hd;have:=h.pos;show r.hd.length≤_;omega,fun x hx=>by have:=h.pf x hx;omega⟩
/-- A document's node,and what is behind it. -/
theorem dcM_k {s:Bs} {m:Bool} {x:Rb} (hs:s.length≤1048576) (ho:OkD s x.r) (hm:m=true→mkA s x.r.pos=1) (hz:(dcM s m x).r.cd=0):StK s (zf x.r (evD m) true) (dcM s m x).r:=
 rtK_k (x:=⟨zf x.r (evD m) true,false,x.lt⟩) (ho.tell hs) ho.dp (fun h=>(xk (s:=s) (p:=x.r.pos) (by rw [hm h];decide)).1) hz
theorem dcM_sz {s:Bs} {m:Bool} {x:Rb} (hs:s.length≤1048576) (ho:OkD s x.r) (hm:m=true→mkA s x.r.pos=1):Sz s (dcM s m x).r:=
 rtK_sz (x:=⟨zf x.r (evD m) true,false,x.lt⟩) (ho.tell hs) ho.dp (fun h=>(xk (s:=s) (p:=x.r.pos) (by rw [hm h];decide)).1)
theorem dcK_k {s:Bs} {x:Rb} (hs:s.length≤1048576) (ho:OkS s x.r) (hz:(dcK s x).r.cd=0):OkS s (dcK s x).r∧x.r.pos<(dcK s x).r.pos:=by
 obtain ⟨h1,h2,h3⟩:=dcS_ok ho;unfold dcK at hz ⊢;split
 ·rename_i h;rw [if_pos h] at hz;exact absurd hz h
 ·rename_i h;rw [if_neg h] at hz;obtain ⟨hD,h4,h5⟩:=h3 (by simpa using h);split
  ·rename_i h6;rw [if_pos h6] at hz;exact absurd hz h6
  ·rename_i h6;rw [if_neg h6] at hz;have hk:StK s (zf (dcS s x.r) (evD (decide (mkA s (dcS s x.r).pos=1))) true) (dcM s (decide (mkA s (dcS s x.r).pos=1)) (onB x (dcS s x.r))).r:=dcM_k (m:=decide (mkA s (dcS s x.r).pos=1)) (x:=onB x (dcS s x.r)) hs hD (fun h=>of_decide_eq_true h) (Decidable.not_not.1 h6);split
   ·rename_i h7;rw [if_pos h7] at hz;exact absurd hz h7
   ·rename_i h7;rw [if_neg h7] at hz;have hn:=zqj (s:=s) (x:=dcM s (decide (mkA s (dcS s x.r).pos=1)) (onB x (dcS s x.r))) (by simpa using h7);rw [hn] at hz ⊢;generalize dcM s (decide (mkA s (dcS s x.r).pos=1)) (onB x (dcS s x.r))=v at *;have hv:=hk.ok;have hlt:=hk.lt;have hpot:=hk.pot;have hdp:=hk.dp;have hDsz:=hD.sz;have hDdp:=hD.dp;have hg1:=q8 s v.r.pos;have hg2:=qr s v.r.pos hv.pos;simp only [zf,List.length_append,List.length_singleton] at hlt hpot hdp;have hO:∀ (q:Nat) (e:Ev),gpE s v.r.pos≤q→q≤s.length→OkS s (zf (atR v.r q) e true):=fun q e k1 k2=>
     ⟨⟨hv.cd,k2,by simp [zf,atR,hv.dn],by simp only [zf,atR,List.length_append];have:=hv.bs;omega,by simp only [zf,atR];omega,by simp only [zf,atR,List.length_append,List.length_singleton];omega,hv.hd,hv.pf⟩,by simp only [zf,atR];omega,by simp only [zf,atR,List.length_append,List.length_singleton];omega⟩
    unfold dcT at hz ⊢;simp only [onB] at hz ⊢;split
    ·rename_i h8;rw [if_pos h8] at hz;simp [flt] at hz
    ·rename_i h8;rw [if_neg h8] at hz;split
     ·rename_i h9;rw [if_pos h9] at hz;split
      ·rename_i h10;rw [if_pos h10] at hz;exact absurd hz h10
      ·rename_i h10;obtain ⟨e1,e2⟩:=zuq (show (rmR s (atR v.r (gpE s v.r.pos))).cd=0 by simpa using h10);rw [e1];have hm:=(xk (s:=s) (p:=(atR v.r (gpE s v.r.pos)).pos) (by rw [h9];decide)).1;have hr:=wx hm;simp only [atR] at hr hm ⊢;exact ⟨hO _ _ (by omega) hr.2,by simp only [zf];omega⟩
     ·exact ⟨hO _ _ (Nat.le_refl _) hg2,by simp only [zf,atR];omega⟩
theorem dcK_sz {s:Bs} {x:Rb} (hs:s.length≤1048576) (ho:OkS s x.r):(dcK s x).r.ev.length≤8 * s.length+71:=by
 obtain ⟨h1,h2,h3⟩:=dcS_ok ho;have h9:=ho.sz;have h8:=ho.ok.pos;unfold dcK;split
 ·show (dcS s x.r).ev.length≤_;rw [h1];omega
 ·rename_i h;obtain ⟨hD,h4,h5⟩:=h3 (by simpa using h);have hS:Sz s (dcM s (decide (mkA s (dcS s x.r).pos=1)) (onB x (dcS s x.r))).r:=dcM_sz (m:=decide (mkA s (dcS s x.r).pos=1)) (x:=onB x (dcS s x.r)) hs hD (fun h=>of_decide_eq_true h);unfold Sz at hS;split
  ·omega
  ·split
   ·rw [ev_nx];omega
   ·generalize dcM s (decide (mkA s (dcS s x.r).pos=1)) (onB x (dcS s x.r))=v at *;have hn:=ev_nx s v;show (dcT s (nxK s v)).r.ev.length≤_;rw [←hn] at hS;generalize nxK s v=z at *;have h10:(rmR s z.r).ev=z.r.ev:=by unfold rmR;split<;>rfl
    unfold dcT;split
    ·simp only [onB,flt];omega
    ·split
     ·split
      ·simp only [onB];rw [h10];omega
      ·simp only [onB,zf,List.length_append,List.length_singleton];rw [h10];omega
     ·simp only [onB,zf,List.length_append,List.length_singleton];omega
theorem smS_k {s:Bs} {x:Rb} (hs:s.length≤1048576) (ho:OkS s x.r) (hz:(smS s x).r.cd=0):OkS s (smS s x).r∧x.r.pos<(smS s x).r.pos:=by
 unfold smS at hz ⊢;split
 ·rename_i h;rw [if_pos h] at hz;obtain ⟨e1,e2⟩:=zuq (show (rmR s x.r).cd=0 from hz);have hm:=(xk (s:=s) (p:=x.r.pos) (by rw [h];decide)).1;have hr:=wx hm;have h1:=ho.sz;simp only [onB];rw [e1];exact ⟨⟨ho.ok.at (by omega) hr.2,ho.dp,by simp only [atR];omega⟩,by simp only [atR];omega⟩
 ·rename_i h;rw [if_neg h] at hz;exact dcK_k hs ho hz
theorem smS_sz {s:Bs} {x:Rb} (hs:s.length≤1048576) (ho:OkS s x.r):(smS s x).r.ev.length≤8 * s.length+71:=by
 unfold smS;split
 ·have h10:(rmR s x.r).ev=x.r.ev:=by unfold rmR;split<;>rfl
  have:=ho.sz;have:=ho.ok.pos;simp only [onB];rw [h10];omega
 ·exact dcK_sz hs ho
theorem OkS.gap {s:Bs} {r:Rd} (h:OkS s r):OkS s (atR r (gpE s r.pos)):=
 ⟨h.ok.at (q8 s _) (qr s _ h.ok.pos),h.dp,by have:=h.sz;have:=q8 s r.pos;simp only [atR];omega⟩
theorem smL_sz {s:Bs} (hs:s.length≤1048576):∀ (n:Nat) (x:Rb),s.length-x.r.pos=n→OkS s x.r→(smL s x).r.ev.length≤8 * s.length+71:=by
 intro n
 induction n using Nat.strongRecOn with
 | ind n ih=>
 intro x hn ho;have h9:=ho.sz;have h8:=ho.ok.pos;have hg:=ho.gap;have h7:=q8 s x.r.pos;rw [smL];by_cases h1:s.length≤gpE s x.r.pos
 ·rw [if_pos h1];simp only [onB,zf,atR,List.length_append,List.length_singleton];omega
 ·rw [if_neg h1];have hS:=smS_sz (x:=onB x (atR x.r (gpE s x.r.pos))) hs hg;by_cases h2:(smS s (onB x (atR x.r (gpE s x.r.pos)))).r.cd=0
  ·rw [if_neg (by simpa using h2)];obtain ⟨h3,h4⟩:=smS_k (x:=onB x (atR x.r (gpE s x.r.pos))) hs hg h2;simp only [onB,atR] at h4;rw [dif_pos ⟨by simp only [onB,atR];omega,by omega⟩];exact ih _ (by simp only [onB,atR] at *;omega) _ rfl h3
  ·rw [if_pos (by simpa using h2)];exact hS
theorem zh1 (s:Bs):OkS s (zf (rdz 0) evS true):=
 ⟨⟨rfl,Nat.zero_le _,rfl,Nat.zero_le _,by simp [zf,rdz],by simp [zf,rdz],by simp [zf,rdz],fun h hh=>by simp [zf,rdz] at hh⟩,rfl,by simp [zf,rdz]⟩
theorem zz3 {s:Bs} (hs:s.length≤1048576):(psR s).ev.length≤8 * s.length+71:=smL_sz hs _ _ rfl (zh1 s)
end Go.Pl
namespace Go.Pl
theorem dirs_in {s:Bs} {e p:Nat}:∀ x∈zcg s e p,x.length≤s.length:=by
 fun_induction zcg s e p with
 | case1 p q h ih=>
  intro x hx;rcases List.mem_cons.1 hx with h1 | h1
  ·rw [h1];simp only [sub,List.length_drop,List.length_take];omega
  ·exact ih x h1
 | case2 p q h=>intro x hx;cases hx
theorem z2i {s:Bs} {p:Nat} (i:Nat):((drW s p).getD i []).length≤s.length:=by
 rw [List.getD_eq_getElem?_getD];cases h:(drW s p)[i]? with
 | none=>simp
 | some x=>simp only [Option.getD_some];exact dirs_in x (List.mem_of_getElem? h)
theorem z2g {s:Bs} {p:Nat} (h:zgr s p=true):0<(drW s p).length:=by
 obtain ⟨h1,h2,h3⟩:=zdf h;have hW:isW s p=false:=by unfold isW;rw [h1];decide
 have hB:isB s p=false:=by unfold isB;rw [h1];decide
 have hq:=wh_f hW;unfold drW;rw [zcg];simp only [hq];rw [dif_pos ⟨z2f hB,by rw [h1];decide,by unfold gap;rw [hW,hB];rfl⟩];simp
theorem z2h (s:Bs) (p:Nat) (h:p≤s.length):(drW s p).length≤s.length:=by have h1:=dirs_len s (en s p) p;have h2:=uo s p h;unfold drW;omega
end Go.Pl
end
section
namespace Go.Pl
def dcG (t:Bs):Nat×Nat:=Go.Lib.decodeGo ⟨t.toArray⟩
/-- The rune at the beginning of a text,and its size;0 where there is none. -/
def rnA (t:Bs):Nat×Nat:=if (dcG t).2=0∨((dcG t).1=65533∧(dcG t).2=1) then (0,0) else dcG t
def z1d (r:Nat):Bool:=decide (r=9∨r=10∨(32≤r∧r≤126)∨(159<r∧r≠65279∧r≠65534∧r≠65535))
/-- The first place that is not clean. -/
def clA (s:Bs) (p:Nat):Nat:=
 if h:p<s.length∧(rnA (s.drop p)).2≠0∧z1d (rnA (s.drop p)).1=true∧p+(rnA (s.drop p)).2≤s.length then clA s (p+(rnA (s.drop p)).2) else p
termination_by s.length-p
decreasing_by omega
/-- The events of a text. -/
def psA (s:Bs):List Ev:=psE (clA s 0) s
end Go.Pl
namespace Go.Pl
theorem dcG_bd (t:Bs):(dcG t).1≤2097151∧(dcG t).2≤t.length:=by
 have hsz:(⟨t.toArray⟩:ByteArray).size=t.length:=by show t.toArray.size=_;exact List.size_toArray
 unfold dcG Go.Lib.decodeGo;rw [hsz];split
 ·exact ⟨by decide,Nat.zero_le _⟩
 ·rename_i h0;have hp:0<t.length:=Nat.pos_of_ne_zero h0;unfold Go.Utf8.decode;simp only [hsz,Go.Utf8.runeError,Nat.zero_add]
  repeat' split
  all_goals (simp only [Bool.and_eq_true,decide_eq_true_eq,beq_iff_eq] at *;refine ⟨by omega,by omega⟩)
theorem zzx (t:Bs):(rnA t).1≤2097151∧(rnA t).2≤t.length:=by
 have:=dcG_bd t;unfold rnA;split
 ·exact ⟨Nat.zero_le _,Nat.zero_le _⟩
 ·exact this
theorem z2r (s:Bs) (p:Nat) (h:p≤s.length):clA s p≤s.length:=by
 fun_induction clA s p with
 | case1 p h1 ih=>exact ih h1.2.2.2
 | case2 p h1=>exact h
theorem clA_t {s:Bs} {p:Nat} (h:p<s.length) (h1:(rnA (s.drop p)).2≠0) (h2:z1d (rnA (s.drop p)).1=true):clA s p=clA s (p+(rnA (s.drop p)).2):=by
 have:=(zzx (s.drop p)).2;rw [List.length_drop] at this
 conv=>lhs;rw [clA]
 rw [dif_pos ⟨h,h1,h2,by omega⟩]
theorem clA_f {s:Bs} {p:Nat} (h:¬((rnA (s.drop p)).2≠0∧z1d (rnA (s.drop p)).1=true)):clA s p=p:=by rw [clA,dif_neg (fun h9=>h ⟨h9.2.1,h9.2.2.1⟩)]
theorem clA_e {s:Bs} {p:Nat} (h:¬p<s.length):clA s p=p:=by rw [clA,dif_neg (fun h9=>h h9.1)]
end Go.Pl
end
section
namespace Go.Vg
variable [Go.Vg.Glob]
open Go.Pl
/-- A method that brings the reader of blocks from one state to another and tells whether there is no fault. -/
def zb7 (P:Program) (f:FuncId) (s:Bs) (args:List SV) (x x':Rb):Prop:=FnK P f 1 (.ptr 0 0 0::args) (rdC s x.r x.fr (x.lt:Nat)) fun z c=>z=.b (decide (x'.r.cd=0))∧c=rdC s x'.r x'.fr (x'.lt:Nat)
/-- A call's argument that stands under a guard that holds. -/
theorem yp.ungd {P:Program} {f:FuncId} {args args':List SV} {kk:Nat} {st:St} {K:Sl (SV×St)} (hX:yp P f args' kk st K) (h:∀ σ vs,relL σ args vs→relL σ args' vs):yp P f args kk st K:=
 ⟨hX.1,fun A σ a w vs h1 h2 h3 h4=>hX.2 A σ a w vs h1 h2 h3 (h σ _ h4)⟩
theorem zsb {σ:Asg} {x:SV} {r:List SV} {vs:List Value}:relL σ (.gd true x::r) vs=relL σ (x::r) vs:=by simp [relL,rel]
theorem relL_gd3 {σ:Asg} {x y z:SV} {r:List SV} {vs:List Value}:relL σ (z::y::.gd true x::r) vs=relL σ (z::y::x::r) vs:=by simp [relL,rel]
end Go.Vg
end
section
namespace Go.Pl
theorem mk_lone {s:Bs} {q:Nat} (h:mkA s q≠0):lnA s q=false:=by
 have hr:=xk h;have hb:byt s q=45∨byt s q=46:=by
  have e:∀ b:UInt8,sub s q (q+3)=[b,b,b]→s.getD q 0=b:=by intro b hb;have h1:=congrArg (fun x=>x.getD 0 0) hb;simp only [sub,List.getD_eq_getElem?_getD,List.getElem?_drop] at h1;rw [Nat.add_zero,List.getElem?_take_of_lt (by omega),←List.getD_eq_getElem?_getD] at h1;simpa using h1
  rw [zw (by omega)];unfold mkA at h;split at h
  ·split at h
   ·rename_i h1;left;rw [e 45 h1];rfl
   ·split at h
    ·rename_i h1;right;rw [e 46 h1];rfl
    ·exact absurd rfl h
  ·exact absurd rfl h
 unfold lnA;rw [hr.2,wh_f (by unfold isW;rcases hb with hb | hb<;>rw [hb]<;>decide)];unfold isB;rcases hb with hb | hb<;>rw [hb]<;>decide
theorem z1h {s:Bs} {q:Nat} (h:lnA s q=true):mkA s q=0:=by
 by_cases hm:mkA s q=0
 ·exact hm
 ·rw [mk_lone hm] at h;cases h
theorem ltC_end {s:Bs} {q:Nat} {n:Int} (h:q<s.length) (hl:lnA s q=true) (he:¬en s q<s.length):ltC s q n=(60000,s.length):=by
 rw [zsu ⟨h,z1h hl⟩ hl];have e:bhL s (en s q)=s.length:=by have:=uk s (en s q);unfold bhL at *;omega
 rw [e,ltC_e (by omega)]
theorem ltC_ge (s:Bs) (a:Nat) (n:Int) (h:a≤s.length):a≤(ltC s a n).2:=by
 fun_induction ltC s a n with
 | case1 a h1 h2 h3=>exact Nat.le_refl _
 | case2 a h1 h2 h3=>exact h
 | case3 a h1 h2 ih=>
  have h3:=zad h1.1;have:=ih (uk s _);omega
 | case4 a h1=>exact h
theorem bl_wh (s:Bs) (i:Nat):bl s i≤wh s i:=by
 fun_induction bl s i with
 | case1 i h ih=>rw [wh_t (by unfold isW;rw [h];decide)];exact ih
 | case2 i h=>exact jh s i
theorem inA_lt {s:Bs} {q:Nat} (h:lnA s q=false) (hq:q≤s.length):inA s q<s.length:=by unfold lnA at h;have h1:=vw h;have h2:wh s (la s q)<s.length:=h1;unfold inA;have h3:=zs9 s (la s q);have h4:bl s (la s q)≤wh s (la s q):=bl_wh s _;omega
/-- What the reference asks of a line,and what is asked of it here. -/
theorem zst {s:Bs} {q d F:Nat} {n:Int} {bg:Bool} (hs:s.length≤60000) (hq:q<s.length) (hm:mkA s q=0) (h1:bg=true→F≤q) (h2:bg=false→ltC s q n=(d,F)) (hb:¬(lnA s q=false∧inA s q<d)) :
  (F≤q∧(lnA s q=false∨d<inA s q))↔(lnA s q=false∨(bg=true∧d<inA s q)):=by
 cases bg with
 | true=>have:=h1 rfl;simp only [this,true_and]
 | false=>
  have h3:=h2 rfl;cases hl:lnA s q
  ·rw [ltC_l ⟨hq,hm⟩ hl] at h3;have h4:=inA_lt hl (Nat.le_of_lt hq);by_cases h5:n<(inA s q:Int)
   ·rw [if_pos h5] at h3;obtain ⟨rfl,rfl⟩:=Prod.mk.inj h3;simp
   ·rw [if_neg h5] at h3;obtain ⟨rfl,rfl⟩:=Prod.mk.inj h3;exact absurd ⟨hl,by omega⟩ hb
  ·rw [zsu ⟨hq,hm⟩ hl] at h3;have h4:=ltC_ge s (bhL s (en s q)) n (uk s _);have h5:=zad hq;rw [h3] at h4;simp only at h4;simp;omega
theorem zqs:∀ (l:List Bs) (x:Bs),Go.Lib.join (l++[x]) [10]=(if l=[] then [] else Go.Lib.join l [10]++[10])++x
 | [],x=>by simp [Go.Lib.join,List.intercalate]
 | [a],x=>by simp [Go.Lib.join,List.intercalate,List.intersperse]
 | a::b::r,x=>by have ih:=zqs (b::r) x;rw [if_neg (by simp)] at ih ⊢;simp only [Go.Lib.join,List.intercalate,List.cons_append,List.intersperse_cons_cons,List.flatten_cons] at ih ⊢;rw [ih];simp [List.append_assoc]
theorem z1u {l:List Bs} {i:Nat} (h:i<l.length):Go.Lib.join (l.take (i+1)) [10]=(if i=0 then [] else Go.Lib.join (l.take i) [10]++[10])++l.getD i []:=by
 rw [List.take_add_one,List.getElem?_eq_getElem h,Option.toList_some,zqs,List.getD_eq_getElem?_getD,List.getElem?_eq_getElem h];by_cases h0:i=0
 ·subst h0;rw [if_pos rfl,if_pos (by simp)];rfl
 ·rw [if_neg h0,if_neg (by intro h9;have h10:=congrArg List.length h9;rw [List.length_take] at h10;simp only [List.length_nil] at h10;omega)];rfl
theorem zwf {l:List Bs} {fo:Bool} {ch:Int} {n i:Nat} (hn:lsN l l.length=n) (h1:n≤i) (h2:i≤l.length) (h3:ch=2→i=l.length) (h4:ch≠2→i=n) :
  (if 0<n∧ch≠1 then (if fo=true then fbk (l.take n) [] 0 [] else Go.Lib.join (l.take n) [10])++[10] else (if fo=true then fbk (l.take n) [] 0 [] else Go.Lib.join (l.take n) [10]))++List.replicate (i-n) 10=btA l fo ch:=by
 unfold btA;rw [hn];by_cases h0:n=0
 ·subst h0;rw [if_neg (by omega),if_pos rfl];have e:(if fo=true then fbk (l.take 0) [] 0 [] else Go.Lib.join (l.take 0) [10])=[]:=by cases fo<;>rfl
  rw [e];by_cases hc:ch=2
  ·rw [if_pos hc,h3 hc];simp
  ·rw [if_neg hc,h4 hc];simp
 ·rw [if_neg h0];generalize (if fo=true then fbk (l.take n) [] 0 [] else Go.Lib.join (l.take n) [10])=B;by_cases hc1:ch=1
  ·rw [if_neg (fun h=>h.2 hc1),if_pos hc1,h4 (by omega)];simp
  ·rw [if_pos ⟨by omega,hc1⟩,if_neg hc1];by_cases hc:ch=2
   ·rw [if_pos hc,h3 hc,show 1+l.length-n=(l.length-n)+1 by omega,List.replicate_succ];simp
   ·rw [if_neg hc,h4 hc];simp
end Go.Pl
namespace Go.Pl
/-- On to what is next,from behind a node. -/
def nxR (s:Bs) (r:Rd) (lo:Bool):Rd:=if lo=false∧(rsA s r.pos).2=false then flt r 8 (rsA s r.pos).1 else ovR s r r.pos
def dpR (s:Bs) (p:Nat) (n:Int) (lo:Bool):Bool:=!jl s p&&dpA s p n lo
end Go.Pl
namespace Go.Pl
theorem idx_none {l:Bs} {c:UInt8} (h:∀ j,j<l.length→l.getD j 0≠c):idx l c = -1:=by unfold idx;rw [List.findIdx?_eq_none_iff.2];intro x hx;obtain ⟨j,hj,rfl⟩:=List.getElem_of_mem hx;have:=h j hj;rw [List.getD_eq_getElem?_getD,List.getElem?_eq_getElem hj] at this;simpa using this
theorem idx_at {l:Bs} {c:UInt8} {i:Nat} (hi:i<l.length) (hc:l.getD i 0=c) (hb:∀ j,j<i→l.getD j 0≠c):idx l c=i:=by
 unfold idx;rw [List.findIdx?_eq_some_iff_getElem.2 ⟨hi,by
  rw [List.getD_eq_getElem?_getD,List.getElem?_eq_getElem hi] at hc;simpa using hc,fun j hj=>by
  have:=hb j hj;rw [List.getD_eq_getElem?_getD,List.getElem?_eq_getElem (by omega)] at this;simpa using this⟩]
theorem ovR_stop {s:Bs} {r:Rd} {f:Nat} (h:jl s (gpE s f)=true∨¬wh s (la s (gpE s f))=gpE s f):ovR s r f=atR r (gpE s f):=by
 unfold ovR;by_cases h1:jl s (gpE s f)=true
 ·rw [if_pos h1]
 ·rw [if_neg h1];unfold ze1;exact if_pos (h.resolve_left h1)
theorem ovR_none {s:Bs} {r:Rd} {f:Nat} (h:jl s (gpE s f)=false) (hw:wh s (la s (gpE s f))=gpE s f) (hl:gpE s f≤s.length) (hn:∀ j,la s (gpE s f)≤j→j<gpE s f→s.getD j 0≠9):ovR s r f=atR r (gpE s f):=by
 have hle:=zfq s (gpE s f);unfold ovR;rw [if_neg (by rw [h];simp)];unfold ze1;rw [if_neg (by simpa [atR] using hw)];have e:idx (sub s (la s (gpE s f)) (gpE s f)) 9 = -1:=idx_none fun j hj=>by
  have hj2:j<gpE s f-la s (gpE s f):=by simp only [sub,List.length_drop,List.length_take] at hj;omega
  have:=hn (la s (gpE s f)+j) (by omega) (by omega);simp only [sub,List.getD_eq_getElem?_getD,List.getElem?_drop];rw [List.getElem?_take_of_lt (by omega),←List.getD_eq_getElem?_getD];exact this
 rw [if_pos (by simp only [atR];rw [e];decide)]
theorem ovR_tab {s:Bs} {r:Rd} {f i:Nat} (h:jl s (gpE s f)=false) (hw:wh s (la s (gpE s f))=gpE s f) (hl:gpE s f≤s.length) (h1:la s (gpE s f)≤i) (h2:i<gpE s f) (h3:s.getD i 0=9) (hn:∀ j,la s (gpE s f)≤j→j<i→s.getD j 0≠9):ovR s r f=flt (atR r (gpE s f)) 2 i:=by
 have hg:∀ j,la s (gpE s f)+j<gpE s f→(sub s (la s (gpE s f)) (gpE s f)).getD j 0=s.getD (la s (gpE s f)+j) 0:=fun j hj=>by simp only [sub,List.getD_eq_getElem?_getD,List.getElem?_drop];rw [List.getElem?_take_of_lt hj]
 unfold ovR;rw [if_neg (by rw [h];simp)];unfold ze1;rw [if_neg (by simpa [atR] using hw)];have e:idx (sub s (la s (gpE s f)) (gpE s f)) 9=((i-la s (gpE s f):Nat):Int):=idx_at (by simp only [sub,List.length_drop,List.length_take];omega) (by rw [hg _ (by omega),show la s (gpE s f)+(i-la s (gpE s f))=i by omega];exact h3) fun j hj=>by rw [hg j (by omega)];exact hn _ (by omega) (by omega)
 rw [if_neg (by simp only [atR];rw [e];omega)];simp only [atR];rw [e,Int.toNat_natCast,show la s (gpE s f)+(i-la s (gpE s f))=i by omega]
end Go.Pl
end
section
namespace Go.Pl
theorem wh_prev (s:Bs) (p:Nat):wh s p=p∨isW s (wh s p-1)=true:=by
 fun_induction wh s p with
 | case1 i h ih=>
  right;rcases ih with h1 | h1
  ·rw [h1,Nat.add_sub_cancel];exact h
  ·exact h1
 | case2 i h=>exact .inl rfl
/-- Behind the rest of a line stands what stands behind the place. -/
theorem rsA_gp {s:Bs} {p:Nat} (h:(rsA s p).2=true):gpE s (rsA s p).1=gpE s p:=by
 unfold rsA at h ⊢;split
 ·rename_i h1;rw [←zv1 s p];rcases h1 with h1 | h1
  ·simp only;rw [en_f h1]
  ·simp only;refine (gpE_c ?_).symm;unfold gpC;rw [decide_eq_true h1.1,Bool.true_and,Bool.or_eq_true,decide_eq_true_eq];rcases h1.2 with h2 | h2
   ·exact .inr ((wh_prev s p).resolve_left h2)
   ·rcases wh_prev s p with h3 | h3
    ·rw [h3];exact .inl h2
    ·exact .inr h3
 ·rename_i h1;rw [if_neg h1] at h;cases h
theorem zva {s:Bs} {r:Rd} {p:Nat} (h:(rsA s p).2=true):ovR s r (rsA s p).1=ovR s r p:=by unfold ovR;rw [rsA_gp h]
theorem prs_x {s:Bs} {hd:List Hd} {fl:Bool} {pos:Nat} {p:Pp} (h0:(prs s hd fl pos p).2.2=0):((prs s hd fl pos p).2.1=p∧(prs s hd fl pos p).1=pos)∨((prs s hd fl pos p).2.1.has=true∧(prs s hd fl pos p).1=nxP s fl (prs s hd fl pos p).2.1.en):=by
 fun_induction prs s hd fl pos p with
 | case1 pos p h ih=>
  have hl:pos<s.length:=by
   have:=h.1;unfold zfs at this;rcases of_decide_eq_true this with h1 | h1
   ·exact zm h1 (by decide)
   ·exact zm h1 (by decide)
  rcases ih h0 with h1 | h1
  ·right;rw [h1.1,h1.2];exact ⟨(u4 (Nat.le_of_lt hl) h.2).2.2,rfl⟩
  ·exact .inr h1
 | case2 pos p h=>
  simp only at h0 ⊢;by_cases h1:zfs s pos=true
  ·rw [if_pos h1] at h0;exact absurd ⟨h1,h0⟩ h
  ·rw [if_neg h1];exact .inl ⟨rfl,trivial⟩
theorem prR_z {s:Bs} {fl:Bool} {r:Rd} (h0:r.cd=0) (h:(prR s fl r).cd=0):(prs s r.hd fl r.pos (ppz r.pos)).2.2=0:=by
 unfold prR at h;by_cases h1:(prs s r.hd fl r.pos (ppz r.pos)).2.2=0
 ·exact h1
 ·rw [if_neg h1] at h;exact absurd h h1
theorem prR_no {s:Bs} {fl:Bool} {r:Rd} (h0:r.cd=0) (h:(prR s fl r).cd=0) (h2:(prP s fl r).has=false):prR s fl r=r∧prP s fl r=ppz r.pos:=by
 have hz:=prR_z h0 h;rcases prs_x hz with h1 | h1
 ·refine ⟨?_,h1.1⟩;unfold prR;rw [if_pos hz,h1.2];rfl
 ·unfold prP at h2;rw [h1.1] at h2;cases h2
theorem prR_at {s:Bs} {r:Rd} (h0:r.cd=0) (h:(prR s false r).cd=0) (h2:(prP s false r).has=true):(prR s false r).pos=wh s (prP s false r).en:=by
 have hz:=prR_z h0 h;rcases prs_x hz with h1 | h1
 ·unfold prP at h2;rw [h1.1] at h2;cases h2
 ·unfold prR;rw [if_pos hz];exact h1.2
theorem zsk (s:Bs) (x:Rb):nxR s x.r x.fr=(nxK s x).r:=by unfold nxR nxK;split<;>rfl
theorem zvb (s:Bs) (r:Rd) (p q:Nat):ovR s (atR r q) p=ovR s r p:=by unfold ovR atR;rfl
theorem zsw {s:Bs} {r:Rd} {ha:Bool} {an tg:Bs} (h:byt s r.pos=42∨isQu (byt s r.pos)=true):scX s r ⟨ha,an,tg,0⟩ (-1) false=kyR s r ⟨ha,an,tg,0⟩:=by
 unfold scX kyR;rcases h with h | h
 ·rw [if_pos h,if_pos h]
 ·by_cases h1:byt s r.pos=42
  ·rw [if_pos h1,if_pos h1]
  ·rw [if_neg h1,if_neg h1,if_pos h,if_pos h]
theorem kyR_en {s:Bs} {r:Rd} {ha:Bool} {an tg:Bs} {e:Nat}:kyR s r ⟨ha,an,tg,e⟩=kyR s r ⟨ha,an,tg,0⟩:=by unfold kyR;rfl
end Go.Pl
namespace Go.Pl
theorem vlK_at (s:Bs) (sb:Int→Bool→Bool→Rb→Rb) (sg:Nat) (c:Int) (li:Bool) (y:Rb) (r:Rd) (q:Nat):vlK s sb sg c li (onB y (atR r q))=vlK s sb sg c li (onB y r):=by unfold vlK;simp only [onB,zvb];rfl
end Go.Pl
namespace Go.Pl
theorem scX_no {s:Bs} {r:Rd} {p:Pp} {n:Int} {fl:Bool} (h:sqB s r fl=false):scX s r p n fl=r:=by unfold sqB at h;simp only [Bool.or_eq_false_iff,decide_eq_false_iff_not] at h;unfold scX;rw [if_neg h.1.1,if_neg (by rw [h.1.2];simp),if_neg (by rw [h.2];simp)]
theorem scK_x {s:Bs} {x:Rb} {p:Pp} {n:Int} (h1:¬(byt s x.r.pos=124∨byt s x.r.pos=62)) (h2:¬(byt s x.r.pos=91∨byt s x.r.pos=123)):scK s x p n=if sqB s x.r false=true then ⟨scX s x.r ⟨p.has,p.an,p.tg,0⟩ n false,false,x.lt⟩ else ⟨flt x.r 10 x.r.pos,false,x.lt⟩:=by
 unfold scK scX sqB;rw [if_neg h1,if_neg h2];by_cases h3:byt s x.r.pos=42
 ·rw [if_pos h3,if_pos h3,if_pos (by simp [h3])]
 ·rw [if_neg h3,if_neg h3];cases h4:isQu (byt s x.r.pos)
  ·cases h5:pfA s x.r.pos false
   ·simp [h3]
   ·simp [h3];rfl
  ·simp;rfl
theorem scK_bo {s:Bs} {x:Rb} {p:Pp} {n:Int} (h:byt s x.r.pos=91∨byt s x.r.pos=123):scK s x p n=⟨boS s x.r p,false,x.lt⟩:=by unfold scK;rw [if_neg (by omega),if_pos h]
end Go.Pl
namespace Go.Pl
theorem ovR_lin {s:Bs} {r:Rd} (h1:gpE s r.pos=r.pos) (h2:jl s r.pos=false):ovR s r r.pos=ze1 s r:=by unfold ovR;rw [h1,if_neg (by rw [h2];simp)];rfl
end Go.Pl
end
section
namespace Go.Vg
variable [Go.Vg.Glob]
open Go.Pl
/-- A method of the reference that reads a block node;its place,and whether the line's rest need not be asked,are told where there is no fault. -/
def zhe (P:Program) (f:FuncId) (s:Bs) (args:List SV) (pr:Int) (r:Rd) (x':Rb):Prop:=FnK P f 1 (.ptr 0 0 0::args) (spC s r (r.pos:Nat) pr) fun z c=>∃ (a pr':Int) (lo:Bool),(x'.r.cd=0→a=((x'.r.pos:Nat):Int)∧lo=x'.fr)∧z=.b lo∧c=spC s x'.r a pr'
end Go.Vg
namespace Go.Vg
variable [Go.Vg.Glob]
open Go.Pl
/-- .. a block collection: behind it the rest of the line need not be asked. -/
def NodeU (P:Program) (f:FuncId) (s:Bs) (args:List SV) (pr:Int) (r:Rd) (x':Rb):Prop:=FnK P f 1 (.ptr 0 0 0::args) (spC s r (r.pos:Nat) pr) fun z c=>∃ (a pr':Int),(x'.r.cd=0→a=((x'.r.pos:Nat):Int)∧x'.fr=true)∧z=.tup []∧c=spC s x'.r a pr'
end Go.Vg
end
section
namespace Go.Pl
def bN (t:Bs) (i:Nat):Int:=((t.getD i 0).toNat:Nat)
def rnO (k:Nat):Int:=if k=2 then 192 else if k=3 then 224 else if k=4 then 240 else 0
/-- The rune that so many bytes would be,read up to a place. -/
def rnI (t:Bs) (k:Nat):Nat→Int
 | 0=>bN t 0-rnO k
 | i+1=>rnI t k i * 64+bN t (i+1)-128
def rnW (t:Bs) (k:Nat):Int:=rnI t k (k-1)
def rnL (t:Bs) (k:Nat):Nat×Nat:=
 if h:k≤4∧k≤t.length then (if rnB (rnW t k)=t.take k then ((rnW t k).toNat,k) else rnL t (k+1)) else (0,0)
termination_by 5-k
theorem bN_lt (t:Bs) (i:Nat):0≤bN t i∧bN t i<256:=by unfold bN;have:=(t.getD i 0).toNat_lt;omega
theorem dcG_N (t:Bs) (h:t≠[]):dcG t=Go.Lib.decodeN t.length (bN t 0).toNat (bN t 1).toNat (bN t 2).toNat (bN t 3).toNat:=by
 have hsz:(⟨t.toArray⟩:ByteArray).size=t.length:=by show t.toArray.size=_;exact List.size_toArray
 have hg:∀ i,(⟨t.toArray⟩:ByteArray).get! i=t.getD i 0:=fun i=>by show t.toArray[i]! = _;rw [List.getD_eq_getElem?_getD];simp;rfl
 unfold dcG Go.Lib.decodeGo;rw [hsz,if_neg (by simpa using h),Go.Lib.decode_at,hsz];simp only [hg,bN,Int.toNat_natCast,Nat.zero_add,Nat.sub_zero]
theorem zkn {n:Nat} {b:UInt8} (h:n<256):UInt8.ofNat n=b↔n=b.toNat:=by
 constructor
 ·intro e;rw [←e,UInt8.toNat_ofNat'];omega
 ·intro e;rw [e,UInt8.ofNat_toNat]
theorem rnB_lo {r:Int} {b:UInt8}:rnB r=[b]↔r=(b.toNat:Nat)∧b.toNat<128:=by
 have hb:=b.toNat_lt;by_cases h:r<0∨1114111<r∨(55296≤r∧r≤57343)
 ·rw [uw h];constructor
  ·intro e;simp at e
  ·omega
 obtain ⟨n,rfl⟩:∃ n:Nat,r=n:=⟨r.toNat,by omega⟩
 by_cases h1:n<128
 ·rw [zzw h h1,List.cons.injEq,zkn (by omega)];simp;omega
 constructor
 ·intro e;by_cases h2:n<2048
  ·rw [zzv h h1 h2] at e;simp at e
  by_cases h3:n<65536
  ·rw [zzu h h2 h3] at e;simp at e
  ·rw [zzt h h3] at e;simp at e
 ·omega
theorem rnB_two {r:Int} {a b:UInt8}:rnB r=[a,b]↔r=((a.toNat:Nat)-192) * 64+(b.toNat:Nat)-128∧194≤a.toNat∧a.toNat<224∧128≤b.toNat∧b.toNat<192:=by
 have ha:=a.toNat_lt;have hb:=b.toNat_lt;by_cases h:r<0∨1114111<r∨(55296≤r∧r≤57343)
 ·rw [uw h];constructor
  ·intro e;simp at e
  ·omega
 obtain ⟨n,rfl⟩:∃ n:Nat,r=n:=⟨r.toNat,by omega⟩
 by_cases h1:n<128
 ·rw [zzw h h1];constructor
  ·intro e;simp at e
  ·omega
 by_cases h2:n<2048
 ·rw [zzv h h1 h2,List.cons.injEq,List.cons.injEq,zkn (by omega),zkn (by omega)];simp;omega
 constructor
 ·intro e;by_cases h3:n<65536
  ·rw [zzu h h2 h3] at e;simp at e
  ·rw [zzt h h3] at e;simp at e
 ·omega
theorem rnB_tri {r:Int} {a b c:UInt8}:rnB r=[a,b,c]↔r=(((a.toNat:Nat)-224) * 64+(b.toNat:Nat)-128) * 64+(c.toNat:Nat)-128∧2048≤r∧¬(55296≤r∧r≤57343)∧224≤a.toNat∧a.toNat<240∧128≤b.toNat∧b.toNat<192∧128≤c.toNat∧c.toNat<192:=by
 have ha:=a.toNat_lt;have hb:=b.toNat_lt;have hc:=c.toNat_lt;by_cases h:r<0∨1114111<r∨(55296≤r∧r≤57343)
 ·rw [uw h];constructor
  ·intro e;simp at e
  ·omega
 obtain ⟨n,rfl⟩:∃ n:Nat,r=n:=⟨r.toNat,by omega⟩
 by_cases h1:n<128
 ·rw [zzw h h1];constructor
  ·intro e;simp at e
  ·omega
 by_cases h2:n<2048
 ·rw [zzv h h1 h2];constructor
  ·intro e;simp at e
  ·omega
 by_cases h3:n<65536
 ·rw [zzu h h2 h3,List.cons.injEq,List.cons.injEq,List.cons.injEq,zkn (by omega),zkn (by omega),zkn (by omega)];simp;omega
 constructor
 ·intro e;rw [zzt h h3] at e;simp at e
 ·omega
theorem rnB_qua {r:Int} {a b c d:UInt8}:rnB r=[a,b,c,d]↔r=((((a.toNat:Nat)-240) * 64+(b.toNat:Nat)-128) * 64+(c.toNat:Nat)-128) * 64+(d.toNat:Nat)-128∧65536≤r∧r≤1114111∧240≤a.toNat∧128≤b.toNat∧b.toNat<192∧128≤c.toNat∧c.toNat<192∧128≤d.toNat∧d.toNat<192:=by
 have ha:=a.toNat_lt;have hb:=b.toNat_lt;have hc:=c.toNat_lt;have hd:=d.toNat_lt;by_cases h:r<0∨1114111<r∨(55296≤r∧r≤57343)
 ·rw [uw h];constructor
  ·intro e;simp at e
  ·omega
 obtain ⟨n,rfl⟩:∃ n:Nat,r=n:=⟨r.toNat,by omega⟩
 by_cases h1:n<128
 ·rw [zzw h h1];constructor
  ·intro e;simp at e
  ·omega
 by_cases h2:n<2048
 ·rw [zzv h h1 h2];constructor
  ·intro e;simp at e
  ·omega
 by_cases h3:n<65536
 ·rw [zzu h h2 h3];constructor
  ·intro e;simp at e
  ·omega
 ·rw [zzt h h3,List.cons.injEq,List.cons.injEq,List.cons.injEq,List.cons.injEq,zkn (by omega),zkn (by omega),zkn (by omega),zkn (by omega)];simp;omega
theorem zzq {t:Bs} {k:Nat} (h:k≤4∧k≤t.length) (e:rnB (rnW t k)=t.take k):rnL t k=((rnW t k).toNat,k):=by rw [rnL,dif_pos h,if_pos e]
theorem zzr {t:Bs} {k:Nat} (h:k≤4∧k≤t.length) (e:¬rnB (rnW t k)=t.take k):rnL t k=rnL t (k+1):=by rw [rnL,dif_pos h,if_neg e]
theorem zw8 {t:Bs} {k:Nat} (h:¬(k≤4∧k≤t.length)):rnL t k=(0,0):=by rw [rnL,dif_neg h]
theorem tk1:∀ {l:Bs},1≤l.length→l.take 1=[l.getD 0 0]
 | _::_,_=>by simp
theorem tk2:∀ {l:Bs},2≤l.length→l.take 2=[l.getD 0 0,l.getD 1 0]
 | [_],h=>by simp at h
 | _::_::_,_=>by simp
theorem tk3:∀ {l:Bs},3≤l.length→l.take 3=[l.getD 0 0,l.getD 1 0,l.getD 2 0]
 | [_],h=>by simp at h
 | [_,_],h=>by simp at h
 | _::_::_::_,_=>by simp
theorem tk4:∀ {l:Bs},4≤l.length→l.take 4=[l.getD 0 0,l.getD 1 0,l.getD 2 0,l.getD 3 0]
 | [_],h=>by simp at h
 | [_,_],h=>by simp at h
 | [_,_,_],h=>by simp at h
 | _::_::_::_::_,_=>by simp
set_option maxHeartbeats 4000000 in
/-- The reference finds the rune that is decoded. -/
theorem rnL_rnA (t:Bs):rnL t 1=rnA t:=by
 by_cases h0:t=[]
 ·subst h0;rw [zw8 (by simp)];rfl
 have hl:1≤t.length:=by cases t;exact absurd rfl h0;simp
 have h256:∀ i,(t.getD i 0).toNat<256:=fun i=>(t.getD i 0).toNat_lt;have k0:=h256 0;have k1:=h256 1;have k2:=h256 2;have k3:=h256 3;have w1:rnW t 1=((t.getD 0 0).toNat:Nat):=by show bN t 0-rnO 1=_;simp [bN,rnO]
 have w2:rnW t 2=(((t.getD 0 0).toNat:Nat)-192) * 64+((t.getD 1 0).toNat:Nat)-128:=by show (bN t 0-rnO 2) * 64+bN t 1-128=_;simp [bN,rnO]
 have w3:rnW t 3=((((t.getD 0 0).toNat:Nat)-224) * 64+((t.getD 1 0).toNat:Nat)-128) * 64+((t.getD 2 0).toNat:Nat)-128:=by show ((bN t 0-rnO 3) * 64+bN t 1-128) * 64+bN t 2-128=_;simp [bN,rnO]
 have w4:rnW t 4=(((((t.getD 0 0).toNat:Nat)-240) * 64+((t.getD 1 0).toNat:Nat)-128) * 64+((t.getD 2 0).toNat:Nat)-128) * 64+((t.getD 3 0).toNat:Nat)-128:=by show (((bN t 0-rnO 4) * 64+bN t 1-128) * 64+bN t 2-128) * 64+bN t 3-128=_;simp [bN,rnO]
 have e1:rnB (rnW t 1)=t.take 1↔(t.getD 0 0).toNat<128:=by rw [tk1 hl,rnB_lo,w1];simp only [true_and]
 have e2:2≤t.length→(rnB (rnW t 2)=t.take 2↔194≤(t.getD 0 0).toNat∧(t.getD 0 0).toNat<224∧128≤(t.getD 1 0).toNat∧(t.getD 1 0).toNat<192):=fun h=>by rw [tk2 h,rnB_two,w2];simp only [true_and]
 have e3:3≤t.length→(rnB (rnW t 3)=t.take 3↔2048≤rnW t 3∧¬(55296≤rnW t 3∧rnW t 3≤57343)∧224≤(t.getD 0 0).toNat∧(t.getD 0 0).toNat<240∧128≤(t.getD 1 0).toNat∧(t.getD 1 0).toNat<192∧128≤(t.getD 2 0).toNat∧(t.getD 2 0).toNat<192):=fun h=>by rw [tk3 h,rnB_tri];exact ⟨fun h=>h.2,fun h=>⟨w3,h⟩⟩
 have e4:4≤t.length→(rnB (rnW t 4)=t.take 4↔65536≤rnW t 4∧rnW t 4≤1114111∧240≤(t.getD 0 0).toNat∧128≤(t.getD 1 0).toNat∧(t.getD 1 0).toNat<192∧128≤(t.getD 2 0).toNat∧(t.getD 2 0).toNat<192∧128≤(t.getD 3 0).toNat∧(t.getD 3 0).toNat<192):=fun h=>by rw [tk4 h,rnB_qua];exact ⟨fun h=>h.2,fun h=>⟨w4,h⟩⟩
 have hd:=dcG_N t h0;simp only [bN,Int.toNat_natCast] at hd;have A:∀ x y:Nat,dcG t=(x,y)→y≠0→¬(x=65533∧y=1)→rnA t=(x,y):=fun x y e h1 h2=>by unfold rnA;rw [e,if_neg (by simp only;omega)]
 have B:dcG t=(65533,1)→rnA t=(0,0):=fun e=>by unfold rnA;rw [e];rfl
 generalize (t.getD 0 0).toNat=b0 at *;generalize (t.getD 1 0).toNat=b1 at *;generalize (t.getD 2 0).toNat=b2 at *;generalize (t.getD 3 0).toNat=b3 at *;by_cases c1:b0<128
 ·rw [zzq ⟨by decide,hl⟩ (e1.2 c1),w1,Int.toNat_natCast];exact (A b0 1 (by rw [hd];unfold Go.Lib.decodeN;rw [if_pos c1]) (by decide) (by omega)).symm
 rw [zzr ⟨by decide,hl⟩ (fun h=>c1 (e1.1 h))];by_cases n2:2≤t.length
 rotate_left
 ·rw [zw8 (by omega),B];rw [hd];unfold Go.Lib.decodeN;rw [if_neg c1,if_neg (by omega),if_neg (by omega),if_neg (by omega)]
 by_cases c2:194≤b0∧b0<224∧128≤b1∧b1<192
 ·rw [zzq ⟨by decide,n2⟩ ((e2 n2).2 c2),w2];refine (A _ 2 ?_ (by decide) (by omega)).symm;rw [hd];unfold Go.Lib.decodeN;rw [if_neg c1,if_pos (by omega),if_pos (by omega),Prod.mk.injEq];exact ⟨by omega,rfl⟩
 rw [zzr ⟨by decide,n2⟩ (fun h=>c2 ((e2 n2).1 h))];by_cases n3:3≤t.length
 rotate_left
 ·rw [zw8 (by omega),B];rw [hd];unfold Go.Lib.decodeN;rw [if_neg c1];split
  ·rw [if_neg (by omega)]
  ·rw [if_neg (by omega),if_neg (by omega)]
 have e3':=e3 n3;rw [w3] at e3';by_cases c3:2048≤((((b0:Nat):Int)-224) * 64+(b1:Nat)-128) * 64+(b2:Nat)-128∧¬(55296≤((((b0:Nat):Int)-224) * 64+(b1:Nat)-128) * 64+(b2:Nat)-128∧((((b0:Nat):Int)-224) * 64+(b1:Nat)-128) * 64+(b2:Nat)-128≤57343)∧224≤b0∧b0<240∧128≤b1∧b1<192∧128≤b2∧b2<192
 ·rw [zzq ⟨by decide,n3⟩ (by rw [w3];exact e3'.2 c3),w3];refine (A _ 3 ?_ (by decide) (by omega)).symm;rw [hd];unfold Go.Lib.decodeN;rw [if_neg c1,if_neg (by omega),if_pos (by omega),if_pos (by omega),Prod.mk.injEq];exact ⟨by omega,rfl⟩
 rw [zzr ⟨by decide,n3⟩ (fun h=>c3 (e3'.1 (by rw [w3] at h;exact h)))];by_cases n4:4≤t.length
 rotate_left
 ·rw [zw8 (by omega),B];rw [hd];unfold Go.Lib.decodeN;rw [if_neg c1];split
  ·rw [if_neg (by omega)]
  ·split
   ·rw [if_neg (by omega)]
   ·rw [if_neg (by omega)]
 have e4':=e4 n4;rw [w4] at e4';by_cases c4:65536≤(((((b0:Nat):Int)-240) * 64+(b1:Nat)-128) * 64+(b2:Nat)-128) * 64+(b3:Nat)-128∧(((((b0:Nat):Int)-240) * 64+(b1:Nat)-128) * 64+(b2:Nat)-128) * 64+(b3:Nat)-128≤1114111∧240≤b0∧128≤b1∧b1<192∧128≤b2∧b2<192∧128≤b3∧b3<192
 ·rw [zzq ⟨by decide,n4⟩ (by rw [w4];exact e4'.2 c4),w4];refine (A _ 4 ?_ (by decide) (by omega)).symm;rw [hd];unfold Go.Lib.decodeN;rw [if_neg c1,if_neg (by omega),if_neg (by omega),if_pos (by omega),if_pos (by omega),Prod.mk.injEq];exact ⟨by omega,rfl⟩
 rw [zzr ⟨by decide,n4⟩ (fun h=>c4 (e4'.1 (by rw [w4] at h;exact h))),zw8 (by omega),B];rw [hd];unfold Go.Lib.decodeN;rw [if_neg c1];split
 ·rw [if_neg (by omega)]
 ·split
  ·rw [if_neg (by omega)]
  ·split
   ·rw [if_neg (by omega)]
   ·rfl
theorem rnI_bd (t:Bs) (k:Nat):∀ j,j≤3 → -70000000≤rnI t k j∧rnI t k j≤70000000:=by
 have hO:0≤rnO k∧rnO k≤240:=by unfold rnO;(repeat' split)<;>decide
 have h0:=bN_lt t 0;have h1:=bN_lt t 1;have h2:=bN_lt t 2;have h3:=bN_lt t 3;intro j hj;have e0:rnI t k 0=bN t 0-rnO k:=rfl;have e1:rnI t k 1=rnI t k 0 * 64+bN t 1-128:=rfl;have e2:rnI t k 2=rnI t k 1 * 64+bN t 2-128:=rfl;have e3:rnI t k 3=rnI t k 2 * 64+bN t 3-128:=rfl;obtain rfl | rfl | rfl | rfl:j=0∨j=1∨j=2∨j=3:=by omega
 all_goals omega
end Go.Pl
end
