/- Documents and streams, in plain words. -/
import Derived.Test.YtgippllfnmdnpaaGreatDoorTAV
import Derived.Shelf.Unicode.DecodeSlow
import Derived.Test.YtgippllfnmdnpaaGreatDoorTAR
import Derived.Test.YtgippllfnmdnpaaGreatDoorTAK
section
set_option linter.unusedVariables false
set_option linter.unusedSimpArgs false
set_option linter.unusedSectionVars false
set_option linter.unnecessarySimpa false
namespace Go.Pl
def hkO (h:Hd):Bool:=nmO h.name&&(decide (1≤h.pre.length)&&decide (h.pre.length≤60))&&h.pre.all fun b=>decide (33≤b.toNat)&&decide (b.toNat≤126)
/-- Whether there is a directive. -/
def zp8 (s:Bs) (p:Nat):Bool:=decide (byt s p=37)&&decide (coA s p=0)
def drW (s:Bs) (p:Nat):List Bs:=zi9 s (en s p) p
def yamW:Bs:=[37,89,65,77,76]
def tagW:Bs:=[37,84,65,71]
def isYm (s:Bs) (p:Nat):Bool:=decide ((drW s p).getD 0 []=yamW)&&decide ((drW s p).length=2)
def isTg (s:Bs) (p:Nat):Bool:=decide ((drW s p).getD 0 []=tagW)&&decide ((drW s p).length=3)
def drN (s:Bs) (p:Nat):Hd:=⟨(drW s p).getD 1 [],(drW s p).getD 2 []⟩
def drO (s:Bs) (r:Rd) (y:Bool):Bool:=
 if isYm s r.pos=true then (decide ((drW s r.pos).getD 1 []=[49,46,49])||decide ((drW s r.pos).getD 1 []=[49,46,50]))&&!y
 else if isTg s r.pos=true then hkO (drN s r.pos)&&r.hd.all fun h=>!decide (h.name=(drN s r.pos).name)
 else false
def drH (s:Bs) (r:Rd):List Hd:=if isYm s r.pos=true then r.hd else if isTg s r.pos=true then r.hd++[drN s r.pos] else r.hd
def drY (s:Bs) (p:Nat) (y:Bool):Bool:=isYm s p||y
def hdR (r:Rd) (l:List Hd):Rd:={ r with hd:=l }
/-- One directive. -/
def drR (s:Bs) (r:Rd) (y:Bool):Rd:=
 if drO s r y=false then flt (hdR r (drH s r)) 13 r.pos
 else if mkA s (gpE s (en s r.pos))=1∨zp8 s (gpE s (en s r.pos))=true then atR (hdR r (drH s r)) (gpE s (en s r.pos))
 else flt (atR (hdR r (drH s r)) (gpE s (en s r.pos))) 13 (gpE s (en s r.pos))
/-- All directives. -/
def drL (s:Bs) (y:Bool) (r:Rd):Rd:=
 if zp8 s r.pos=true then (if (drR s r y).cd≠0 then drR s r y else if h:r.pos<(drR s r y).pos∧r.pos<s.length then drL s (drY s r.pos y) (drR s r y) else r) else r
termination_by s.length-r.pos
decreasing_by omega
def evS:Ev:=⟨1,0,false,[],[],[],0,0⟩
def evD (m:Bool):Ev:=⟨2,0,m,[],[],[],0,0⟩
def evDE (m:Bool):Ev:=⟨8,0,m,[],[],[],0,0⟩
def evSE:Ev:=⟨9,0,false,[],[],[],0,0⟩
def evF (c:Int) (p:Nat):Ev:=⟨10,0,false,[],[],[],(p:Nat),c⟩
/-- The node of a document. -/
def rtK (s:Bs) (mark:Bool) (x:Rb):Rb:=
 if mark=false then (if (zbs s x.r).cd≠0 then onB x (zbs s x.r) else bnF s 40 (-1) false false (onB x (zbs s x.r)))
 else if (rsA s (x.r.pos+3)).2=false then bnF s 40 (-1) true false (onB x (atR x.r (wh s (x.r.pos+3))))
 else if (ovR s x.r (x.r.pos+3)).cd≠0 then onB x (ovR s x.r (x.r.pos+3))
 else if zau s (ovR s x.r (x.r.pos+3)).pos=true then ntB x (ovR s x.r (x.r.pos+3)) (ppz 0) (rsA s (x.r.pos+3)).1
 else bnF s 40 (-1) false false (onB x (ovR s x.r (x.r.pos+3)))
def rmR (s:Bs) (r:Rd):Rd:=if (rsA s (r.pos+3)).2=false then flt r 8 (rsA s (r.pos+3)).1 else atR r (rsA s (r.pos+3)).1
def dcT (s:Bs) (z:Rb):Rb:=
 if zau s z.r.pos=false then onB z (flt z.r 9 z.r.pos)
 else if mkA s z.r.pos=2 then (if (rmR s z.r).cd≠0 then onB z (rmR s z.r) else onB z (zn (rmR s z.r) (evDE true) true))
 else onB z (zn z.r (evDE false) true)
def dcS (s:Bs) (r:Rd):Rd:=drL s false { r with bs:=r.ev.length,hd:=[] }
def dcM (s:Bs) (m:Bool) (x:Rb):Rb:=rtK s m ⟨zn x.r (evD m) true,false,x.lt⟩
/-- A document. -/
def dcK (s:Bs) (x:Rb):Rb:=
 if (dcS s x.r).cd≠0 then onB x (dcS s x.r)
 else if (dcM s (decide (mkA s (dcS s x.r).pos=1)) (onB x (dcS s x.r))).r.cd≠0 then dcM s (decide (mkA s (dcS s x.r).pos=1)) (onB x (dcS s x.r))
 else if (nxK s (dcM s (decide (mkA s (dcS s x.r).pos=1)) (onB x (dcS s x.r)))).r.cd≠0 then nxK s (dcM s (decide (mkA s (dcS s x.r).pos=1)) (onB x (dcS s x.r)))
 else dcT s (nxK s (dcM s (decide (mkA s (dcS s x.r).pos=1)) (onB x (dcS s x.r))))
/-- One step of a stream,at what is behind a gap. -/
def smS (s:Bs) (x:Rb):Rb:=if mkA s x.r.pos=2 then onB x (rmR s x.r) else dcK s x
def smL (s:Bs) (x:Rb):Rb:=
 if s.length≤gpE s x.r.pos then onB x (zn (atR x.r (gpE s x.r.pos)) evSE true)
 else if (smS s (onB x (atR x.r (gpE s x.r.pos)))).r.cd≠0 then smS s (onB x (atR x.r (gpE s x.r.pos)))
 else if h:x.r.pos<(smS s (onB x (atR x.r (gpE s x.r.pos)))).r.pos∧x.r.pos<s.length then smL s (smS s (onB x (atR x.r (gpE s x.r.pos)))) else x
termination_by s.length-x.r.pos
decreasing_by omega
def psR (s:Bs):Rd:=(smL s ⟨zn (rdz 0) evS true,false,0⟩).r
/-- The events of a text whose first place that is not clean is known. -/
def psE (cl:Nat) (s:Bs):List Ev:=
 if 60000<s.length then [evS,evF 1 60000] else if cl≠s.length then [evS,evF 1 cl] else if (psR s).cd≠0 then (psR s).ev++[evF (psR s).cd (psR s).pl] else (psR s).ev
/-- What holds between documents. -/
structure OkS (s:Bs) (r:Rd):Prop where
 ok:Ok s r
 dp:r.dp=0
 sz:r.ev.length≤8 * r.pos+62
theorem zw5 {s:Bs} {r:Rd} (h:(rmR s r).cd=0):rmR s r=atR r (rsA s (r.pos+3)).1∧(rsA s (r.pos+3)).2=true:=by
 unfold rmR at h ⊢
 split
 ·rename_i h1;rw [if_pos h1] at h;simp [flt] at h
 ·rename_i h1;exact ⟨rfl,by simpa using h1⟩
theorem uq {s:Bs} {p:Nat} (h:mkA s p≠0):p+3≤s.length∧la s p=p:=by
 unfold mkA at h
 split at h
 ·rename_i h1;exact ⟨h1.2.1,h1.1⟩
 ·exact absurd rfl h
theorem ev_dr (s:Bs) (r:Rd) (y:Bool):(drR s r y).ev=r.ev:=by unfold drR;(repeat' split)<;>rfl
/-- What holds while directives are read. -/
structure OkD (s:Bs) (r:Rd):Prop where
 cd:r.cd=0
 pos:r.pos≤s.length
 dn:r.dn.length=r.ev.length
 bs:r.bs≤r.ev.length
 dp:r.dp=0
 sz:r.ev.length≤8 * r.pos+62
 hd:r.hd.length≤r.pos
 pf:∀ h∈r.hd,h.pre.length≤60
theorem zmk {s:Bs} {p:Nat} (h:zp8 s p=true):byt s p=37∧p<s.length∧la s p=p:=by
 unfold zp8 coA at h
 simp only [Bool.and_eq_true,decide_eq_true_eq] at h
 exact ⟨h.1,zy h.1 (by decide),by have:=zoq s p;omega⟩
theorem drR_ok {s:Bs} {r:Rd} {y:Bool} (ho:OkD s r) (hd:zp8 s r.pos=true) (hz:(drR s r y).cd=0):drR s r y=atR (hdR r (drH s r)) (gpE s (en s r.pos))∧OkD s (drR s r y)∧r.pos<(drR s r y).pos:=by
 obtain ⟨h37,hl,hla⟩:=zmk hd
 have hB:isB s r.pos=false:=by unfold isB;rw [h37];decide
 have h1:=en_gt hB
 have h2:=zcd s r.pos (Nat.le_of_lt hl)
 have h3:=wj s (en s r.pos)
 have h4:=qt s (en s r.pos) h2
 unfold drR at hz ⊢
 split
 ·rename_i h;rw [if_pos h] at hz;simp [flt] at hz
 ·rename_i h;rw [if_neg h] at hz
  split
  ·refine ⟨rfl,⟨ho.cd,h4,ho.dn,ho.bs,ho.dp, ?_, ?_, ?_⟩,by simp only [atR];omega⟩
   ·have:=ho.sz;simp only [atR,hdR];omega
   ·have h5:=ho.hd
    simp only [atR,hdR,drH]
    repeat' split
    all_goals (try simp only [List.length_append,List.length_singleton]);omega
   ·intro x hx
    simp only [atR,hdR,drH] at hx
    split at hx
    ·exact ho.pf x hx
    ·rename_i h6
     split at hx
     ·rename_i h7
      rcases List.mem_append.1 hx with h8 | h8
      ·exact ho.pf x h8
      ·have h9:x=drN s r.pos:=by simpa using h8
       have h10:drO s r y=true:=by simpa using h
       unfold drO at h10
       rw [if_neg h6,if_pos h7] at h10
       simp only [Bool.and_eq_true] at h10
       have h11:=h10.1
       unfold hkO at h11
       simp only [Bool.and_eq_true,decide_eq_true_eq] at h11
       rw [h9];exact h11.1.2.2
     ·exact ho.pf x hx
  ·rename_i h6;rw [if_neg h6] at hz;simp [flt] at hz
theorem drL_ok {s:Bs}:∀ (n:Nat) (y:Bool) (r:Rd),s.length-r.pos=n→OkD s r→((drL s y r).ev=r.ev∧(drL s y r).bs=r.bs∧((drL s y r).cd=0→OkD s (drL s y r)∧r.pos≤(drL s y r).pos∧zp8 s (drL s y r).pos=false)):=by
 intro n
 induction n using Nat.strongRecOn with
 | ind n ih=>
 intro y r hn ho
 rw [drL]
 by_cases h1:zp8 s r.pos=true
 ·rw [if_pos h1]
  by_cases h2:(drR s r y).cd=0
  ·rw [if_neg (by simpa using h2)]
   obtain ⟨e,h3,h4⟩:=drR_ok ho h1 h2
   have hl:=(zmk h1).2.1
   rw [dif_pos ⟨h4,hl⟩]
   obtain ⟨k1,k2,k3⟩:=ih (s.length-(drR s r y).pos) (by omega) (drY s r.pos y) (drR s r y) rfl h3
   refine ⟨by rw [k1,ev_dr],by rw [k2,e];rfl,fun hz=>?_⟩
   obtain ⟨k4,k5,k6⟩:=k3 hz
   exact ⟨k4,by omega,k6⟩
  ·rw [if_pos h2]
   refine ⟨ev_dr s r y, ?_,fun hz=>absurd hz h2⟩
   unfold drR;(repeat' split)<;>rfl
 ·rw [if_neg h1]
  exact ⟨rfl,rfl,fun _=>⟨ho,Nat.le_refl _,by simpa using h1⟩⟩
/-- The beginning of a document. -/
theorem zzt {s:Bs} {r:Rd} (ho:OkS s r):(dcS s r).ev=r.ev∧(dcS s r).bs=r.ev.length∧((dcS s r).cd=0→OkD s (dcS s r)∧r.pos≤(dcS s r).pos∧zp8 s (dcS s r).pos=false):=
 drL_ok _ false { r with bs:=r.ev.length,hd:=[] } rfl ⟨ho.ok.cd,ho.ok.pos,ho.ok.dn,Nat.le_refl _,ho.dp,ho.sz,Nat.zero_le _,fun h hh=>by simp at hh⟩
theorem rtK_k {s:Bs} {m:Bool} {x:Rb} (ho:Ok s x.r) (hd:x.r.dp=0) (hm:m=true→x.r.pos+3≤s.length) (hz:(rtK s m x).r.cd=0):StK s x.r (rtK s m x).r:=by
 unfold rtK at hz ⊢
 split
 ·rename_i h;rw [if_pos h] at hz
  split
  ·rename_i h1;rw [if_pos h1] at hz;exact absurd hz h1
  ·rename_i h1;rw [if_neg h1] at hz
   rw [zh1 (show (zbs s x.r).cd=0 by simpa using h1)] at hz ⊢
   exact zpv 40 _ _ _ (onB x x.r) ho (by show x.r.dp+40=40;omega) hz
 ·rename_i h;rw [if_neg h] at hz
  have hl:=hm (by simpa using h)
  have hr:=kx (s:=s) (p:=x.r.pos+3) hl
  have hw1:=vl s (x.r.pos+3)
  have hw2:=vk s (x.r.pos+3) hl
  have hg1:=wj s (x.r.pos+3)
  have hg2:=qt s (x.r.pos+3) hl
  split
  ·rename_i h1;rw [if_pos h1] at hz
   exact StK.at0 (q:=wh s (x.r.pos+3)) (zpv 40 _ _ _ (onB x (atR x.r (wh s (x.r.pos+3)))) (ho.at (by omega) hw2) (by show x.r.dp+40=40;omega) hz) (by omega)
  ·rename_i h1;rw [if_neg h1] at hz
   split
   ·rename_i h2;rw [if_pos h2] at hz;exact absurd hz h2
   ·rename_i h2;rw [if_neg h2] at hz
    rw [zap (show (ovR s x.r (x.r.pos+3)).cd=0 by simpa using h2)] at hz ⊢
    split
    ·exact zet (q:=x.r.pos) ho (by omega) hr.2
    ·rename_i h3;rw [if_neg h3] at hz
     exact StK.at0 (q:=gpE s (x.r.pos+3)) (zpv 40 _ _ _ (onB x (atR x.r (gpE s (x.r.pos+3)))) (ho.at (by omega) hg2) (by show x.r.dp+40=40;omega) hz) (by omega)
theorem rtK_sz {s:Bs} {m:Bool} {x:Rb} (ho:Ok s x.r) (hd:x.r.dp=0) (hm:m=true→x.r.pos+3≤s.length):Sz s (rtK s m x).r:=by
 have h9:=ho.sz
 have h8:=ho.pos
 unfold rtK
 split
 ·split
  ·show (zbs s x.r).ev.length≤_
   rw [ev_lin];omega
  ·rename_i h1
   rw [zh1 (show (zbs s x.r).cd=0 by simpa using h1)]
   exact zt1 40 _ _ _ (onB x x.r) ho (by show x.r.dp+40=40;omega)
 ·rename_i h
  have hl:=hm (by simpa using h)
  have hw1:=vl s (x.r.pos+3)
  have hw2:=vk s (x.r.pos+3) hl
  have hg1:=wj s (x.r.pos+3)
  have hg2:=qt s (x.r.pos+3) hl
  split
  ·exact zt1 40 _ _ _ (onB x (atR x.r (wh s (x.r.pos+3)))) (ho.at (by omega) hw2) (by show x.r.dp+40=40;omega)
  ·split
   ·show (ovR s x.r (x.r.pos+3)).ev.length≤_
    rw [ev_ov];omega
   ·rename_i h2
    rw [zap (show (ovR s x.r (x.r.pos+3)).cd=0 by simpa using h2)]
    split
    ·simp only [Sz,ntB,ntR,atR,y5,zn,List.length_append,List.length_singleton];omega
    ·exact zt1 40 _ _ _ (onB x (atR x.r (gpE s (x.r.pos+3)))) (ho.at (by omega) hg2) (by show x.r.dp+40=40;omega)
theorem OkD.tell {s:Bs} {r:Rd} {m:Bool} (h:OkD s r) (hs:s.length≤1048576):Ok s (zn r (evD m) true):=
 ⟨h.cd,h.pos,by simp [zn,h.dn],by simp only [zn,List.length_append];have:=h.bs;omega,by show r.dp≤40;rw [h.dp];omega,by simp only [zn,List.length_append,List.length_singleton];have:=h.sz;omega,by have:=h.hd;have:=h.pos;show r.hd.length≤_;omega,fun x hx=>by have:=h.pf x hx;omega⟩
/-- A document's node,and what is behind it. -/
theorem dcM_k {s:Bs} {m:Bool} {x:Rb} (hs:s.length≤1048576) (ho:OkD s x.r) (hm:m=true→mkA s x.r.pos=1) (hz:(dcM s m x).r.cd=0):StK s (zn x.r (evD m) true) (dcM s m x).r:=
 rtK_k (x:=⟨zn x.r (evD m) true,false,x.lt⟩) (ho.tell hs) ho.dp (fun h=>(uq (s:=s) (p:=x.r.pos) (by rw [hm h];decide)).1) hz
theorem dcM_sz {s:Bs} {m:Bool} {x:Rb} (hs:s.length≤1048576) (ho:OkD s x.r) (hm:m=true→mkA s x.r.pos=1):Sz s (dcM s m x).r:=
 rtK_sz (x:=⟨zn x.r (evD m) true,false,x.lt⟩) (ho.tell hs) ho.dp (fun h=>(uq (s:=s) (p:=x.r.pos) (by rw [hm h];decide)).1)
theorem dcK_k {s:Bs} {x:Rb} (hs:s.length≤1048576) (ho:OkS s x.r) (hz:(dcK s x).r.cd=0):OkS s (dcK s x).r∧x.r.pos<(dcK s x).r.pos:=by
 obtain ⟨h1,h2,h3⟩:=zzt ho
 unfold dcK at hz ⊢
 split
 ·rename_i h;rw [if_pos h] at hz;exact absurd hz h
 ·rename_i h;rw [if_neg h] at hz
  obtain ⟨hD,h4,h5⟩:=h3 (by simpa using h)
  split
  ·rename_i h6;rw [if_pos h6] at hz;exact absurd hz h6
  ·rename_i h6;rw [if_neg h6] at hz
   have hk:StK s (zn (dcS s x.r) (evD (decide (mkA s (dcS s x.r).pos=1))) true) (dcM s (decide (mkA s (dcS s x.r).pos=1)) (onB x (dcS s x.r))).r:=dcM_k (m:=decide (mkA s (dcS s x.r).pos=1)) (x:=onB x (dcS s x.r)) hs hD (fun h=>of_decide_eq_true h) (Decidable.not_not.1 h6)
   split
   ·rename_i h7;rw [if_pos h7] at hz;exact absurd hz h7
   ·rename_i h7;rw [if_neg h7] at hz
    have hn:=zof (s:=s) (x:=dcM s (decide (mkA s (dcS s x.r).pos=1)) (onB x (dcS s x.r))) (by simpa using h7)
    rw [hn] at hz ⊢
    generalize dcM s (decide (mkA s (dcS s x.r).pos=1)) (onB x (dcS s x.r))=v at *
    have hv:=hk.ok
    have hlt:=hk.lt
    have hpot:=hk.pot
    have hdp:=hk.dp
    have hDsz:=hD.sz
    have hDdp:=hD.dp
    have hg1:=wj s v.r.pos
    have hg2:=qt s v.r.pos hv.pos
    simp only [zn,List.length_append,List.length_singleton] at hlt hpot hdp
    have hO:∀ (q:Nat) (e:Ev),gpE s v.r.pos≤q→q≤s.length→OkS s (zn (atR v.r q) e true):=fun q e k1 k2=>
     ⟨⟨hv.cd,k2,by simp [zn,atR,hv.dn],by simp only [zn,atR,List.length_append];have:=hv.bs;omega,by simp only [zn,atR];omega,by simp only [zn,atR,List.length_append,List.length_singleton];omega,hv.hd,hv.pf⟩,by simp only [zn,atR];omega,by simp only [zn,atR,List.length_append,List.length_singleton];omega⟩
    unfold dcT at hz ⊢
    simp only [onB] at hz ⊢
    split
    ·rename_i h8;rw [if_pos h8] at hz;simp [flt] at hz
    ·rename_i h8;rw [if_neg h8] at hz
     split
     ·rename_i h9;rw [if_pos h9] at hz
      split
      ·rename_i h10;rw [if_pos h10] at hz;exact absurd hz h10
      ·rename_i h10
       obtain ⟨e1,e2⟩:=zw5 (show (rmR s (atR v.r (gpE s v.r.pos))).cd=0 by simpa using h10)
       rw [e1]
       have hm:=(uq (s:=s) (p:=(atR v.r (gpE s v.r.pos)).pos) (by rw [h9];decide)).1
       have hr:=kx hm
       simp only [atR] at hr hm ⊢
       exact ⟨hO _ _ (by omega) hr.2,by simp only [zn];omega⟩
     ·exact ⟨hO _ _ (Nat.le_refl _) hg2,by simp only [zn,atR];omega⟩
theorem dcK_sz {s:Bs} {x:Rb} (hs:s.length≤1048576) (ho:OkS s x.r):(dcK s x).r.ev.length≤8 * s.length+71:=by
 obtain ⟨h1,h2,h3⟩:=zzt ho
 have h9:=ho.sz
 have h8:=ho.ok.pos
 unfold dcK
 split
 ·show (dcS s x.r).ev.length≤_
  rw [h1];omega
 ·rename_i h
  obtain ⟨hD,h4,h5⟩:=h3 (by simpa using h)
  have hS:Sz s (dcM s (decide (mkA s (dcS s x.r).pos=1)) (onB x (dcS s x.r))).r:=dcM_sz (m:=decide (mkA s (dcS s x.r).pos=1)) (x:=onB x (dcS s x.r)) hs hD (fun h=>of_decide_eq_true h)
  unfold Sz at hS
  split
  ·omega
  ·split
   ·rw [ev_nx];omega
   ·generalize dcM s (decide (mkA s (dcS s x.r).pos=1)) (onB x (dcS s x.r))=v at *
    have hn:=ev_nx s v
    show (dcT s (nxK s v)).r.ev.length≤_
    rw [←hn] at hS
    generalize nxK s v=z at *
    have h10:(rmR s z.r).ev=z.r.ev:=by unfold rmR;split<;>rfl
    unfold dcT
    split
    ·simp only [onB,flt];omega
    ·split
     ·split
      ·simp only [onB];rw [h10];omega
      ·simp only [onB,zn,List.length_append,List.length_singleton];rw [h10];omega
     ·simp only [onB,zn,List.length_append,List.length_singleton];omega
theorem smS_k {s:Bs} {x:Rb} (hs:s.length≤1048576) (ho:OkS s x.r) (hz:(smS s x).r.cd=0):OkS s (smS s x).r∧x.r.pos<(smS s x).r.pos:=by
 unfold smS at hz ⊢
 split
 ·rename_i h;rw [if_pos h] at hz
  obtain ⟨e1,e2⟩:=zw5 (show (rmR s x.r).cd=0 from hz)
  have hm:=(uq (s:=s) (p:=x.r.pos) (by rw [h];decide)).1
  have hr:=kx hm
  have h1:=ho.sz
  simp only [onB]
  rw [e1]
  exact ⟨⟨ho.ok.at (by omega) hr.2,ho.dp,by simp only [atR];omega⟩,by simp only [atR];omega⟩
 ·rename_i h;rw [if_neg h] at hz;exact dcK_k hs ho hz
theorem smS_sz {s:Bs} {x:Rb} (hs:s.length≤1048576) (ho:OkS s x.r):(smS s x).r.ev.length≤8 * s.length+71:=by
 unfold smS
 split
 ·have h10:(rmR s x.r).ev=x.r.ev:=by unfold rmR;split<;>rfl
  have:=ho.sz
  have:=ho.ok.pos
  simp only [onB];rw [h10];omega
 ·exact dcK_sz hs ho
theorem OkS.gap {s:Bs} {r:Rd} (h:OkS s r):OkS s (atR r (gpE s r.pos)):=
 ⟨h.ok.at (wj s _) (qt s _ h.ok.pos),h.dp,by have:=h.sz;have:=wj s r.pos;simp only [atR];omega⟩
theorem smL_sz {s:Bs} (hs:s.length≤1048576):∀ (n:Nat) (x:Rb),s.length-x.r.pos=n→OkS s x.r→(smL s x).r.ev.length≤8 * s.length+71:=by
 intro n
 induction n using Nat.strongRecOn with
 | ind n ih=>
 intro x hn ho
 have h9:=ho.sz
 have h8:=ho.ok.pos
 have hg:=ho.gap
 have h7:=wj s x.r.pos
 rw [smL]
 by_cases h1:s.length≤gpE s x.r.pos
 ·rw [if_pos h1]
  simp only [onB,zn,atR,List.length_append,List.length_singleton];omega
 ·rw [if_neg h1]
  have hS:=smS_sz (x:=onB x (atR x.r (gpE s x.r.pos))) hs hg
  by_cases h2:(smS s (onB x (atR x.r (gpE s x.r.pos)))).r.cd=0
  ·rw [if_neg (by simpa using h2)]
   obtain ⟨h3,h4⟩:=smS_k (x:=onB x (atR x.r (gpE s x.r.pos))) hs hg h2
   simp only [onB,atR] at h4
   rw [dif_pos ⟨by simp only [onB,atR];omega,by omega⟩]
   exact ih _ (by simp only [onB,atR] at *;omega) _ rfl h3
  ·rw [if_pos (by simpa using h2)];exact hS
theorem zg8 (s:Bs):OkS s (zn (rdz 0) evS true):=
 ⟨⟨rfl,Nat.zero_le _,rfl,Nat.zero_le _,by simp [zn,rdz],by simp [zn,rdz],by simp [zn,rdz],fun h hh=>by simp [zn,rdz] at hh⟩,rfl,by simp [zn,rdz]⟩
theorem psR_sz {s:Bs} (hs:s.length≤1048576):(psR s).ev.length≤8 * s.length+71:=smL_sz hs _ _ rfl (zg8 s)
end Go.Pl
namespace Go.Pl
theorem dirs_in {s:Bs} {e p:Nat}:∀ x∈zi9 s e p,x.length≤s.length:=by
 fun_induction zi9 s e p with
 | case1 p q h ih=>
  intro x hx
  rcases List.mem_cons.1 hx with h1 | h1
  ·rw [h1];simp only [sub,List.length_drop,List.length_take];omega
  ·exact ih x h1
 | case2 p q h=>intro x hx;cases hx
theorem drW_get {s:Bs} {p:Nat} (i:Nat):((drW s p).getD i []).length≤s.length:=by
 rw [List.getD_eq_getElem?_getD]
 cases h:(drW s p)[i]? with
 | none=>simp
 | some x=>
  simp only [Option.getD_some]
  exact dirs_in x (List.mem_of_getElem? h)
theorem drW_pos {s:Bs} {p:Nat} (h:zp8 s p=true):0<(drW s p).length:=by
 obtain ⟨h1,h2,h3⟩:=zmk h
 have hW:isW s p=false:=by unfold isW;rw [h1];decide
 have hB:isB s p=false:=by unfold isB;rw [h1];decide
 have hq:=wh_f hW
 unfold drW
 rw [zi9]
 simp only [hq]
 rw [dif_pos ⟨en_gt hB,by rw [h1];decide,by unfold gap;rw [hW,hB];rfl⟩]
 simp
theorem drW_len (s:Bs) (p:Nat) (h:p≤s.length):(drW s p).length≤s.length:=by
 have h1:=dirs_len s (en s p) p
 have h2:=zcd s p h
 unfold drW;omega
end Go.Pl
end
section
set_option linter.unusedVariables false
set_option linter.unusedSimpArgs false
set_option linter.unusedSectionVars false
set_option linter.unnecessarySimpa false
namespace Go.Pl
def dcG (t:Bs):Nat×Nat:=Go.Lib.decodeGo ⟨t.toArray⟩
/-- The rune at the beginning of a text,and its size;0 where there is none. -/
def rnA (t:Bs):Nat×Nat:=if (dcG t).2=0∨((dcG t).1=65533∧(dcG t).2=1) then (0,0) else dcG t
def mayS (r:Nat):Bool:=decide (r=9∨r=10∨(32≤r∧r≤126)∨(159<r∧r≠65279∧r≠65534∧r≠65535))
/-- The first place that is not clean. -/
def clA (s:Bs) (p:Nat):Nat:=
 if h:p<s.length∧(rnA (s.drop p)).2≠0∧mayS (rnA (s.drop p)).1=true∧p+(rnA (s.drop p)).2≤s.length then clA s (p+(rnA (s.drop p)).2) else p
termination_by s.length-p
decreasing_by omega
/-- The events of a text. -/
def psA (s:Bs):List Ev:=psE (clA s 0) s
end Go.Pl
namespace Go.Pl
theorem dcG_bd (t:Bs):(dcG t).1≤2097151∧(dcG t).2≤t.length:=by
 have hsz:(⟨t.toArray⟩:ByteArray).size=t.length:=by show t.toArray.size=_;exact List.size_toArray
 unfold dcG Go.Lib.decodeGo
 rw [hsz]
 split
 ·exact ⟨by decide,Nat.zero_le _⟩
 ·rename_i h0
  have hp:0<t.length:=Nat.pos_of_ne_zero h0
  unfold Go.Utf8.decode
  simp only [hsz,Go.Utf8.runeError,Nat.zero_add]
  repeat' split
  all_goals (simp only [Bool.and_eq_true,decide_eq_true_eq,beq_iff_eq] at *;refine ⟨by omega,by omega⟩)
theorem rnA_bd (t:Bs):(rnA t).1≤2097151∧(rnA t).2≤t.length:=by
 have:=dcG_bd t
 unfold rnA
 split
 ·exact ⟨Nat.zero_le _,Nat.zero_le _⟩
 ·exact this
theorem clA_le (s:Bs) (p:Nat) (h:p≤s.length):clA s p≤s.length:=by
 fun_induction clA s p with
 | case1 p h1 ih=>exact ih h1.2.2.2
 | case2 p h1=>exact h
theorem clA_t {s:Bs} {p:Nat} (h:p<s.length) (h1:(rnA (s.drop p)).2≠0) (h2:mayS (rnA (s.drop p)).1=true):clA s p=clA s (p+(rnA (s.drop p)).2):=by
 have:=(rnA_bd (s.drop p)).2
 rw [List.length_drop] at this
 conv=>lhs;rw [clA]
 rw [dif_pos ⟨h,h1,h2,by omega⟩]
theorem clA_f {s:Bs} {p:Nat} (h:¬((rnA (s.drop p)).2≠0∧mayS (rnA (s.drop p)).1=true)):clA s p=p:=by
 rw [clA,dif_neg (fun h9=>h ⟨h9.2.1,h9.2.2.1⟩)]
theorem clA_e {s:Bs} {p:Nat} (h:¬p<s.length):clA s p=p:=by
 rw [clA,dif_neg (fun h9=>h h9.1)]
end Go.Pl
end
section
set_option linter.unusedVariables false
set_option linter.unusedSimpArgs false
set_option linter.unusedSectionVars false
set_option linter.unnecessarySimpa false
namespace Go.Pl
def whl (l:List Ev):Bool:=tiedV l&&!hasF l
theorem psA_len (s:Bs):(psA s).length≤480072:=by
 unfold psA psE
 split
 ·decide
 ·split
  ·simp only [List.length_cons,List.length_nil];omega
  ·have:=psR_sz (s:=s) (by omega)
   split
   ·rw [List.length_append];simp only [List.length_cons,List.length_nil];omega
   ·omega
end Go.Pl
end
section
set_option linter.unusedVariables false
set_option linter.unusedSimpArgs false
set_option linter.unusedSectionVars false
set_option linter.unnecessarySimpa false
namespace Go.Vg
variable [Go.Vg.Glob]
open Go.Pl
def zvz:List Bs:=[[97],[98],[107,101,121],[120,49],[108,105,115,116],[195,169],[110,111],[49,50],[45,51],[48,120,49,70],[116,114,117,101],[110,117,108,108],[126],[97,32,98]]
def ztv (cd:Bs) (d:Nat×Int):Bs×Nat×Int:=(zvz.getD (yx cd zvz.length d).1.toNat [],(yx cd zvz.length d).2)
theorem zzp (cd:Bs) (d:Nat×Int):∃ k:Fin 14,(ztv cd d).1=zvz.getD k.1 []:=by
 have h:=yg cd (n:=zvz.length) d (by decide)
 have h2:(zvz.length:Int)=14:=rfl
 exact ⟨⟨(yx cd zvz.length d).1.toNat,by omega⟩,rfl⟩
end Go.Vg
namespace Go.Pl
open Go.Vg (zvz)
/-- The text that a word is set into. -/
def wrdL (w:Bs):Bs:=[45,32]++w++[10,45,32,123]++w++[32,58,32]++w++[125,10]
def wrdN (w:Bs) (l:List Ev):Nat:=(l.filter fun e=>decide (e.kind=5)&&decide (e.text=w)&&decide (e.style=1)).length
def wrdK (w:Bs):Bool:=decide (ptA (w++[10]) 0 (-1) false=(w,w.length,true))&&decide (kyA (w++[32,58,32,120]) 0=((w.length:Int),(w.length:Int)+1,true))&&decide (wrdN w (psA (wrdL w))=3)&&whl (psA (wrdL w))
theorem wrdK_all:∀ k:Fin 14,wrdK (zvz.getD k.1 [])=true∧(zvz.getD k.1 []).length≤4:=by decide +kernel
end Go.Pl
end
section
set_option linter.unusedVariables false
set_option linter.unusedSimpArgs false
set_option linter.unusedSectionVars false
set_option linter.unnecessarySimpa false
namespace Go.Vg
variable [Go.Vg.Glob]
set_option maxRecDepth 100000
open Go.Pl in
theorem zzn {r:Int} (h:¬(r<0∨1114111<r∨(55296≤r∧r≤57343))):(Utf8.encode r).data.toList=rnB r:=by
 have hv:Utf8.valid r=true:=by simp [Utf8.valid];omega
 obtain ⟨n,rfl⟩:∃ n:Nat,r=n:=⟨r.toNat,by omega⟩
 unfold rnB Utf8.encode
 rw [if_neg h,hv]
 simp only [if_true,Int.toNat_natCast]
 by_cases h1:n<128
 ·rw [if_pos h1,if_pos (show (n:Int)<128 by omega)]
 rw [if_neg h1,if_neg (show ¬(n:Int)<128 by omega)]
 by_cases h2:n<2048
 ·rw [if_pos h2,if_pos (show (n:Int)<2048 by omega)]
 rw [if_neg h2,if_neg (show ¬(n:Int)<2048 by omega)]
 by_cases h3:n<65536
 ·rw [if_pos h3,if_pos (show (n:Int)<65536 by omega)]
 rw [if_neg h3,if_neg (show ¬(n:Int)<65536 by omega)]
end Go.Vg
end
