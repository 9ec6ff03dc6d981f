/- What a reader tells is yf: nodes in the block style, documents, streams. -/
import Derived.Test.YtgippllfnmdnpaaGreatDoorTBS
import Derived.Test.YtgippllfnmdnpaaGreatDoorTAS
import Derived.Test.YtgippllfnmdnpaaGreatDoorTAP
section
set_option linter.unusedVariables false
set_option linter.unusedSimpArgs false
set_option linter.unusedSectionVars false
set_option linter.unnecessarySimpa false
namespace Go.Pl
theorem zyv {s:Bs} {r:Rd} {d:Int} {o:Stk} {S:List Nat} (h0:r.cd=0) (hp:r.pos≤s.length) (h:At r d o S):Res s (zbs s r) d o S:=by
 unfold zbs
 split
 ·exact h.res h0
 ·split
  ·exact h.res h0
  ·rename_i h1 h2
   have h3:=idx_bd (sub s (la s r.pos) r.pos) 9
   have h4:=zoq s r.pos
   have h5:(sub s (la s r.pos) r.pos).length=r.pos-la s r.pos:=by simp only [sub,List.length_drop,List.length_take];omega
   exact h.resF (by decide) (by omega)
theorem zsx {s:Bs} {r:Rd} {p:Nat} {d:Int} {o:Stk} {S:List Nat} (h0:r.cd=0) (hp:p≤s.length) (h:At r d o S):Res s (ovR s r p) d o S:=by
 unfold ovR
 split
 ·exact h.at.res h0
 ·exact zyv h0 (qt s p hp) h.at
theorem hdS_cd (s:Bs) (q:Nat) (dg ch:Int) (sg:Bool):0≤(hdS s q dg ch sg).2.2.2∧(hdS s q dg ch sg).2.2.2≤99:=by
 fun_induction hdS s q dg ch sg with
 | case1 q dg ch sg h ih=>exact ih
 | case2 q dg ch sg h h2 ih=>exact ih
 | case3=>exact ⟨Int.le_refl 0,show (0:Int)≤99 by decide⟩
 | case4=>exact ⟨show (0:Int)≤6 by decide,show (6:Int)≤99 by decide⟩
theorem liA_cd (s:Bs) (p:Nat) (n:Int):0≤(liA s p n).2.2∧(liA s p n).2.2≤99:=by
 have h:0≤(hdA s p).2.2.2∧(hdA s p).2.2.2≤99:=by
  unfold hdA
  split
  ·exact hdS_cd s _ _ _ _
  ·exact ⟨show (0:Int)≤10 by decide,show (10:Int)≤99 by decide⟩
 unfold liA
 split
 ·exact h
 ·exact ⟨Int.le_refl 0,show (0:Int)≤99 by decide⟩
theorem sk_res {s:Bs} [Sm s] {x:Rb} {p:Pp} {n:Int} {d:Int} {o:Stk} {S:List Nat} (ho:Ok s x.r) (h:At x.r d o S) (hn:zfk d o) (hp:zep p):Res s (scK s x p n).r (nN d o) (oN o) S:=by
 unfold scK
 split
 ·rename_i h1
  have hl:x.r.pos<s.length:=by
   rcases h1 with h1 | h1
   ·exact zy h1 (by decide)
   ·exact zy h1 (by decide)
  have h2:=liA_cd s x.r.pos n
  have h3:=zop (n:=n) hl
  split
  ·rename_i h4;exact h.resF (by omega) h3.1
  ·refine (At.at ?_).res ho.cd
   exact h.text (t:=(liA s x.r.pos n).1) (by have h9:=liA_tx (n:=n) hl;have:=Sm.le (s:=s);omega) hp (by split<;>decide) hn rfl rfl rfl rfl
 ·split
  ·exact bs_res ho h hn hp
  ·split
   ·exact z0c ho.cd ho.pos h hn
   ·split
    ·rename_i h1;exact zxb ho.cd h1 h hn hp
    ·split
     ·exact pl_res ho.cd h hn hp
     ·exact h.resF (by decide) ho.pos
theorem zx9 {s:Bs} {x:Rb} {d:Int} {o:Stk} {S:List Nat} (h0:x.r.cd=0) (hp:x.r.pos≤s.length) (h:At x.r d o S):Res s (nxK s x).r d o S:=by
 unfold nxK
 split
 ·exact h.resF (by decide) (kx hp).2
 ·exact zsx h0 hp h
theorem ky_res {s:Bs} [Sm s] {r:Rd} {p:Pp} {d:Int} {o:Stk} {S:List Nat} (h0:r.cd=0) (hl:r.pos≤s.length) (h:At r d o S) (hn:zfk d o) (hp:zep p):Res s (kyR s r p) (nN d o) (oN o) S:=by
 unfold kyR
 split
 ·exact z0c h0 hl h hn
 ·split
  ·rename_i h1;exact zxb h0 h1 h hn hp
  ·exact zqh (by have h9:=zlh s r.pos (kyA s r.pos).1.toNat;have:=Sm.le (s:=s);omega) h0 h hn hp (by decide)
def NbN (s:Bs) (D:Nat) (sb:Int→Bool→Bool→Rb→Rb):Prop:=∀ n i l x d o S,Ok s x.r→x.r.dp=D→zfk d o→At x.r d o S→Res s (sb n i l x).r (nN d o) (oN o) S
theorem zya {s:Bs} {x:Rb} {r:Rd} {p:Pp} {e:Nat} {d:Int} {o:Stk} {S:List Nat} (h0:r.cd=0) (h:At r d o S) (hn:zfk d o) (hp:zep p):Res s (ntB x r p e).r (nN d o) (oN o) S:=
 (h.text (t:=[]) (by simp) hp (by decide) hn rfl rfl rfl rfl:At (y5 r 1 [] p.an p.tg) _ _ _).at.res h0
theorem vl_res {s:Bs} [Sm s] {sb:Int→Bool→Bool→Rb→Rb} {sg:Nat} {c:Int} {li:Bool} {x:Rb} {d:Int} {o:Stk} {S:List Nat} (hnb:NbN s x.r.dp sb) (ho:Ok s (atR x.r (sg+1))) (hl:sg<s.length) (h:At x.r d o S) (hn:zfk d o):Res s (vlK s sb sg c li x).r (nN d o) (oN o) S:=by
 have hw1:=vl s (sg+1)
 have hw2:=vk s (sg+1) hl
 have hg1:=wj s (sg+1)
 have hg2:=qt s (sg+1) hl
 have hsz:=ho.sz
 have key:∀ (q:Nat) (n:Int) (i l:Bool),sg+1≤q→q≤s.length→Res s (sb n i l (onB x (atR x.r q))).r (nN d o) (oN o) S:=fun q n i l h1 h2=>
  hnb n i l (onB x (atR x.r q)) d o S (zxz (r:=atR x.r (sg+1)) ho (by simp only [atR] at hsz ⊢;omega) h1 h2) rfl hn h.at
 unfold vlK
 split
 ·exact key _ _ _ _ hw1 hw2
 ·have h1:=zsx (s:=s) (r:=x.r) (p:=sg+1) ho.cd hl h
  split
  ·rename_i h2;exact h1.bad h2
  ·rename_i h2
   have h2:(ovR s x.r (sg+1)).cd=0:=by simpa using h2
   split
   ·exact zya (p:=ppz 0) h2 (h1.1 h2) hn (zst 0)
   ·rw [zap h2];exact key _ _ _ _ hg1 hg2
theorem ms_res {s:Bs} [Sm s] {sb:Int→Bool→Bool→Rb→Rb} {c:Nat} {own:Pp} {x:Rb} {d:Int} {o:Stk} {S:List Nat} (hsb:zfj s x.r.dp sb) (hnb:NbN s x.r.dp sb) (ho:OkM s x.r) (hk:(kyA s x.r.pos).2.2=true) (h:At x.r d o S) (hne:o≠[]) (hp:zep own):Res s (mpS s sb c own x).r d (inB true o) S:=by
 obtain ⟨k1,k2,k3,k4,k5⟩:=xx (Nat.le_of_lt ho.pos) hk
 obtain ⟨n1,n2,n3⟩:=zyk (d:=d) hne
 obtain ⟨m1,m2,m3⟩:=zyk (d:=d) (zdg hne)
 have e0:inB true o=zeo (zeo o):=rfl
 have h1:=ky_res ho.cd (Nat.le_of_lt ho.pos) h n1 hp
 rw [n2,n3] at h1
 rw [e0]
 unfold mpS
 split
 ·rename_i h2;exact h1.bad h2
 ·rename_i h2
  have h2:(kyR s x.r own).cd=0:=by simpa using h2
  have hA:=h1.1 h2
  obtain ⟨e,q,e1,e2⟩:=kyR_k ho.cd (Nat.le_of_lt ho.pos) h2
  rw [e1] at hA ⊢
  have hsz:=ho.sz
  have hok:Ok s (atR (onB x (vn x.r e q)).r ((kyA s x.r.pos).2.1.toNat+1)):=⟨ho.cd,k3,by simp [onB,vn,atR,zn,ho.dn],by simp only [onB,vn,atR,zn,List.length_append];have:=ho.bs;omega,ho.dp,by simp only [onB,vn,atR,zn,List.length_append,List.length_singleton];omega,ho.hd,ho.pf⟩
  have h3:=vl_res (x:=onB x (vn x.r e q)) (li:=false) (c:=(c:Int)) hnb hok k3 hA m1
  rw [m2,m3] at h3
  split
  ·rename_i h4;exact h3.bad h4
  ·rename_i h4
   have h4:(vlK s sb (kyA s x.r.pos).2.1.toNat c false (onB x (vn x.r e q))).r.cd=0:=by simpa using h4
   have hv:=zul (x:=onB x (vn x.r e q)) (li:=false) (c:=(c:Int)) hsb hok (by simp only [onB,vn,atR,zn,List.length_append,List.length_singleton];omega) k3 h4
   exact zx9 h4 hv.ok.pos (h3.1 h4)
theorem ls_res {s:Bs} [Sm s] {sb:Int→Bool→Bool→Rb→Rb} {c:Nat} {x:Rb} {d:Int} {o:Stk} {S:List Nat} (hsb:zfj s x.r.dp sb) (hnb:NbN s x.r.dp sb) (ho:OkM s x.r) (h:At x.r d o S) (hne:o≠[]):Res s (lsS s sb c x).r d (inB false o) S:=by
 obtain ⟨n1,n2,n3⟩:=zyk (d:=d) hne
 have e0:inB false o=zeo o:=rfl
 have hsz:=ho.sz
 have hok:Ok s (atR x.r (x.r.pos+1)):=⟨ho.cd,ho.pos,ho.dn,ho.bs,ho.dp,by simp only [atR];omega,ho.hd,ho.pf⟩
 have h3:=vl_res (li:=true) (c:=(c:Int)) hnb hok ho.pos h n1
 rw [n2,n3] at h3
 rw [e0]
 unfold lsS
 split
 ·rename_i h4;exact h3.bad h4
 ·rename_i h4
  have h4:(vlK s sb x.r.pos c true x).r.cd=0:=by simpa using h4
  have hv:=zul (li:=true) (c:=(c:Int)) hsb hok (by omega) ho.pos h4
  exact zx9 h4 hv.ok.pos (h3.1 h4)
theorem dn_res {s:Bs} {x:Rb} {k:Nat} {d:Int} {o:Stk} {S:List Nat} (h0:x.r.cd=0) (h:At x.r d o (S++[k])) (he:ndEnds o=true):Res s (dnK x k).r d (pop o) S:=(At.sh h he).at.res h0
theorem mpL_res {s:Bs} [Sm s] {sb:Int→Bool→Bool→Rb→Rb} {c D:Nat} (hsb:zfj s D sb) (hnb:NbN s D sb):∀ (n k:Nat) (own:Pp) (x:Rb) (d:Int) (o:Stk) (S:List Nat),s.length-x.r.pos=n→OkM s x.r→x.r.dp=D→(kyA s x.r.pos).2.2=true→At x.r d o (S++[k])→o≠[]→(tp o).1=true→(tp o).2 % 2=0→zep own→Res s (mpL s sb c k own x).r d (pop o) S:=by
 intro n
 induction n using Nat.strongRecOn with
 | ind n ih=>
 intro k own x d o S hn ho hd hk h hne hb h2 hp
 obtain ⟨w1,w2,w3,w4⟩:=zq1 hne hb (fun _=>h2)
 have hS:=ms_res (c:=c) (by rw [hd];exact hsb) (by rw [hd];exact hnb) ho hk h hne hp
 rw [mpL]
 by_cases h1:(mpS s sb c own x).r.cd=0
 ·obtain ⟨v,hv⟩:=mpS_k (by rw [hd];exact hsb) ho hk h1
  have hA:=hS.1 h1
  have hvo:=hv.ok
  have hgl:=qt s v.pos hvo.pos
  have hwp:(mpS s sb c own x).r.pos≤s.length:=by rw [hv.eq.1];exact hgl
  rw [if_neg (by simpa using h1)]
  by_cases h2:zau s (mpS s sb c own x).r.pos=true∨coA s (mpS s sb c own x).r.pos<c
  ·rw [if_pos h2,←w4];exact dn_res h1 hA (zme w1 w2 w3)
  ·rw [if_neg h2]
   by_cases h3:c<coA s (mpS s sb c own x).r.pos
   ·rw [if_pos h3];exact hA.resF (by decide) hwp
   ·rw [if_neg h3]
    have hwo:Ok s (mpS s sb c own x).r:=by
     rw [hv.eq.1];exact hvo.at (wj s v.pos) hgl
    have hP:=zlt (fl:=false) hwo hA
    by_cases h4:(prR s false (mpS s sb c own x).r).cd=0
    ·rw [if_neg (by simpa using h4)]
     by_cases h5:(kyA s (prR s false (mpS s sb c own x).r).pos).2.2=true
     ·rw [if_neg (by rw [h5];simp)]
      obtain ⟨q,e,hq1,hq2,_,_⟩:=vo hwp hwo.cd h4
      have hA2:=hP.1.1 h4
      have hp2:=hP.2 h4
      rw [hv.eq.1] at e hq1
      rw [hv.eq.1] at h5 h4 hA2 hp2 ⊢
      rw [e] at h5 hA2 ⊢
      have hql:q<s.length:=by have:=(xx hq2 h5).2.2.1;have:=(xx hq2 h5).2.2.2.1;omega
      obtain ⟨hM,h6,h7⟩:=hv.next ho (by decide) hq1 hql
      rw [dif_pos ⟨h6,ho.pos⟩,←w4]
      exact ih (s.length-q) (by have:=ho.pos;omega) k _ (onB (mpS s sb c own x) (atR (atR v (gpE s v.pos)) q)) d _ S rfl hM (by rw [show (onB (mpS s sb c own x) (atR (atR v (gpE s v.pos)) q)).r.dp=v.dp from rfl,hv.dp];exact hd) h5 hA2 w1 w2 (w3 rfl) hp2
     ·rw [if_pos (by simpa using h5)]
      have hpp:(prR s false (mpS s sb c own x).r).pos≤s.length:=by
       obtain ⟨q,e,hq1,hq2,_,_⟩:=vo hwp hwo.cd h4
       rw [e];exact hq2
      exact (hP.1.1 h4).resF (by decide) hpp
    ·rw [if_pos (by simpa using h4)];exact hP.1.bad h4
 ·rw [if_pos (by simpa using h1)];exact hS.bad h1
theorem lsL_res {s:Bs} [Sm s] {sb:Int→Bool→Bool→Rb→Rb} {c D:Nat} (hsb:zfj s D sb) (hnb:NbN s D sb):∀ (n k:Nat) (x:Rb) (d:Int) (o:Stk) (S:List Nat),s.length-x.r.pos=n→OkM s x.r→x.r.dp=D→At x.r d o (S++[k])→o≠[]→(tp o).1=false→Res s (lsL s sb c k x).r d (pop o) S:=by
 intro n
 induction n using Nat.strongRecOn with
 | ind n ih=>
 intro k x d o S hn ho hd h hne hb
 obtain ⟨w1,w2,w3,w4⟩:=zq1 hne hb (fun h=>by cases h)
 have hS:=ls_res (c:=c) (by rw [hd];exact hsb) (by rw [hd];exact hnb) ho h hne
 rw [lsL]
 by_cases h1:(lsS s sb c x).r.cd=0
 ·obtain ⟨v,hv⟩:=lsS_k (by rw [hd];exact hsb) ho h1
  have hA:=hS.1 h1
  have hvo:=hv.ok
  have hgl:=qt s v.pos hvo.pos
  have hwp:(lsS s sb c x).r.pos≤s.length:=by rw [hv.eq.1];exact hgl
  rw [if_neg (by simpa using h1)]
  by_cases h2:zau s (lsS s sb c x).r.pos=true∨coA s (lsS s sb c x).r.pos<c∨(coA s (lsS s sb c x).r.pos=c∧zo0 s (lsS s sb c x).r.pos=false)
  ·rw [if_pos h2,←w4];exact dn_res h1 hA (zme w1 w2 w3)
  ·rw [if_neg h2]
   by_cases h3:c<coA s (lsS s sb c x).r.pos
   ·rw [if_pos h3];exact hA.resF (by decide) hwp
   ·rw [if_neg h3]
    have hst:zau s (lsS s sb c x).r.pos=false:=by simpa using fun h=>h2 (.inl h)
    have hql:=(zmj hst).1
    have e:(lsS s sb c x).r.pos=gpE s v.pos:=by rw [hv.eq.1];rfl
    rw [e] at hql
    obtain ⟨hM,h6,h7⟩:=hv.next ho (by decide) (Nat.le_refl _) hql
    rw [dif_pos ⟨by rw [e];exact h6,ho.pos⟩,←w4]
    exact ih (s.length-(lsS s sb c x).r.pos) (by have:=ho.pos;omega) k (lsS s sb c x) d _ S rfl (by rw [hv.eq.1];exact hM) (by rw [hv.eq.1,show (atR v (gpE s v.pos)).dp=v.dp from rfl,hv.dp];exact hd) hA w1 w2
 ·rw [if_pos (by simpa using h1)];exact hS.bad h1
theorem mp_res {s:Bs} [Sm s] {sb:Int→Bool→Bool→Rb→Rb} {outer own:Pp} {fm:Nat} {x:Rb} {d:Int} {o:Stk} {S:List Nat} (hsb:x.r.dp<40→zfj s (x.r.dp+1) sb) (hnb:x.r.dp<40→NbN s (x.r.dp+1) sb) (ho:Ok s x.r) (hk:(kyA s x.r.pos).2.2=true) (h:At x.r d o S) (hn:zfk d o) (hp:zep outer) (hq:zep own) (hf:fm≤s.length):Res s (mpK s sb outer own fm x).r (nN d o) (oN o) S:=by
 have hl:x.r.pos<s.length:=by have:=xx ho.pos hk;omega
 unfold mpK
 have hfs:(if own.has=true then fm else x.r.pos)≤s.length:=by split;exact hf;omega
 generalize (if own.has=true then fm else x.r.pos)=fs at hfs ⊢
 have h1:=zxy (sg:=fs) ho.cd h hn hp (k:=4) (.inr rfl) (st:=7) (by decide) hfs
 split
 ·rename_i h2;exact h1.bad h2
 ·rename_i h2
  have h2:(opR x.r 4 7 outer fs).cd=0:=by simpa using h2
  obtain ⟨hM,e1,e2,e3,e4,e5,e6⟩:=zma ho hl h2
  have hA:=h1.1 h2
  have:=mpL_res (c:=coA s fs) (hsb e6) (hnb e6) _ x.r.ev.length own (onB x (opR x.r 4 7 outer fs)) _ _ S rfl hM e5 (by rw [show (onB x (opR x.r 4 7 outer fs)).r.pos=(opR x.r 4 7 outer fs).pos from rfl,e1];exact hk) hA zqs (by rw [zg0];rfl) (by rw [zg0];rfl) hq
  rw [zlu] at this
  exact this
theorem lk_res {s:Bs} [Sm s] {sb:Int→Bool→Bool→Rb→Rb} {outer:Pp} {x:Rb} {d:Int} {o:Stk} {S:List Nat} (hsb:x.r.dp<40→zfj s (x.r.dp+1) sb) (hnb:x.r.dp<40→NbN s (x.r.dp+1) sb) (ho:Ok s x.r) (hl:x.r.pos<s.length) (h:At x.r d o S) (hn:zfk d o) (hp:zep outer):Res s (lsK s sb outer x).r (nN d o) (oN o) S:=by
 unfold lsK
 have h1:=zxy (sg:=x.r.pos) ho.cd h hn hp (k:=3) (.inl rfl) (st:=7) (by decide) ho.pos
 split
 ·rename_i h2;exact h1.bad h2
 ·rename_i h2
  have h2:(opR x.r 3 7 outer x.r.pos).cd=0:=by simpa using h2
  obtain ⟨hM,e1,e2,e3,e4,e5,e6⟩:=zma ho hl h2
  have hA:=h1.1 h2
  have:=lsL_res (c:=coA s x.r.pos) (hsb e6) (hnb e6) _ x.r.ev.length (onB x (opR x.r 3 7 outer x.r.pos)) _ _ S rfl hM e5 hA zqs (by rw [zg0];rfl)
  rw [zlu] at this
  exact this
theorem be_res {s:Bs} [Sm s] {sb:Int→Bool→Bool→Rb→Rb} {n:Int} {inl:Bool} {outer own:Pp} {fm:Nat} {x:Rb} {d:Int} {o:Stk} {S:List Nat} (hsb:x.r.dp<40→zfj s (x.r.dp+1) sb) (hnb:x.r.dp<40→NbN s (x.r.dp+1) sb) (ho:Ok s x.r) (h:At x.r d o S) (hn:zfk d o) (hp:zep outer) (hq:zep own) (hf:fm≤s.length) (hw:own.has=true→own.en≤s.length):Res s (bnE s sb n inl outer own fm x).r (nN d o) (oN o) S:=by
 unfold bnE
 split
 ·rename_i h1;exact mp_res hsb hnb ho h1.2 h hn hp hq hf
 ·split
  ·rename_i h2;exact lk_res hsb hnb ho (zh5 h2.2.2) h hn hp
  ·split
   ·rename_i h3
    split
    ·exact h.resF (by decide) (vk s _ (hw h3.2))
    ·exact h.resF (by decide) hf
   ·refine sk_res ho h hn ?_
    split
    ·exact hp
    ·exact hq
theorem br_res {s:Bs} [Sm s] {sb:Int→Bool→Bool→Rb→Rb} {n:Int} {inl lo:Bool} {x:Rb} {d:Int} {o:Stk} {S:List Nat} (hsb:x.r.dp<40→zfj s (x.r.dp+1) sb) (hnb:x.r.dp<40→NbN s (x.r.dp+1) sb) (ho:Ok s x.r) (h:At x.r d o S) (hn:zfk d o):Res s (bnR s sb n inl lo x).r (nN d o) (oN o) S:=by
 have hP:=zlt (fl:=false) ho h
 unfold bnR
 split
 ·rename_i h1;exact hP.1.bad h1
 ·rename_i h1
  have h1:(prR s false x.r).cd=0:=by simpa using h1
  obtain ⟨q,e,k1,k2,k3,k4⟩:=vo ho.pos ho.cd h1
  have hA:=hP.1.1 h1
  have hp:=hP.2 h1
  have hen:(prP s false x.r).has=true→x.r.pos<(prP s false x.r).en∧(prP s false x.r).en≤s.length:=fun h=>⟨(zfr ho.pos k4 h).1,(zfr ho.pos k4 h).2.1⟩
  rw [e] at hA ⊢
  split
  ·rename_i h5
   have h6:=hen h5.1
   have hg1:=wj s (prP s false x.r).en
   have hg2:=qt s (prP s false x.r).en h6.2
   have hO:=zsx (s:=s) (r:=atR x.r q) (p:=(prP s false x.r).en) ho.cd h6.2 hA
   split
   ·rename_i h7;exact hO.bad h7
   ·rename_i h7
    have h7:(ovR s (atR x.r q) (prP s false x.r).en).cd=0:=by simpa using h7
    have hA2:=hO.1 h7
    split
    ·exact zya h7 hA2 hn hp
    ·have hov:=zap h7
     have ho2:Ok s (ovR s (atR x.r q) (prP s false x.r).en):=by rw [hov];exact ho.at (q:=gpE s (prP s false x.r).en) (by omega) hg2
     have hpos:(ovR s (atR x.r q) (prP s false x.r).en).pos=gpE s (prP s false x.r).en:=by rw [hov];rfl
     have hdp:(ovR s (atR x.r q) (prP s false x.r).en).dp=x.r.dp:=by rw [hov];rfl
     have hP2:=zlt (fl:=false) ho2 hA2
     generalize ovR s (atR x.r q) (prP s false x.r).en=v at *
     split
     ·rename_i h9;exact hP2.1.bad h9
     ·rename_i h9
      have h9:(prR s false v).cd=0:=by simpa using h9
      obtain ⟨q2,e2,m1,m2,m3,m4⟩:=vo ho2.pos ho2.cd h9
      have hA3:=hP2.1.1 h9
      have hp2:=hP2.2 h9
      rw [e2] at hA3 ⊢
      exact be_res (x:=onB x (atR v q2)) (by rw [show (onB x (atR v q2)).r.dp=v.dp from rfl,hdp];exact hsb) (by rw [show (onB x (atR v q2)).r.dp=v.dp from rfl,hdp];exact hnb) (ho2.at m1 m2) hA3 hn hp hp2 ho2.pos (fun h=>(zfr ho2.pos m4 h).2.1)
  ·exact be_res (x:=onB x (atR x.r q)) hsb hnb (ho.at k1 k2) hA hn (zst 0) hp ho.pos (fun h=>(hen h).2)
theorem bnF_sb {s:Bs} {d D:Nat} (h:D+d=40):zfj s D (bnF s d):=fun n i l x ho hd hz=>zpv d n i l x ho (by omega) hz
theorem zz3 {s:Bs} [Sm s]:∀ (n D:Nat),D+n=40→NbN s D (bnF s n)
 | 0,D,h0=>fun m i l x d o S ho hd hn h=>br_res (fun h4=>by omega) (fun h4=>by omega) ho h hn
 | n+1,D,h0=>fun m i l x d o S ho hd hn h=>br_res (fun h4=>bnF_sb (by omega)) (fun h4=>zz3 n _ (by omega)) ho h hn
theorem rm_res {s:Bs} {r:Rd} {d:Int} {o:Stk} {S:List Nat} (h0:r.cd=0) (hp:r.pos+3≤s.length) (h:At r d o S):Res s (rmR s r) d o S:=by
 unfold rmR
 split
 ·exact h.resF (by decide) (kx hp).2
 ·exact h.at.res h0
theorem rt_res {s:Bs} [Sm s] {m:Bool} {x:Rb} {d:Int} {o:Stk} {S:List Nat} (ho:Ok s x.r) (hd:x.r.dp=0) (hm:m=true→x.r.pos+3≤s.length) (h:At x.r d o S) (hn:zfk d o):Res s (rtK s m x).r (nN d o) (oN o) S:=by
 have hb:NbN s 0 (bnF s 40):=zz3 40 0 rfl
 unfold rtK
 split
 ·have h1:=zyv ho.cd ho.pos h
  split
  ·rename_i h2;exact h1.bad h2
  ·rename_i h2
   rw [zh1 (show (zbs s x.r).cd=0 by simpa using h2)]
   exact hb _ _ _ (onB x x.r) d o S ho hd hn h
 ·rename_i h0
  have hl:=hm (by simpa using h0)
  have hw1:=vl s (x.r.pos+3)
  have hw2:=vk s (x.r.pos+3) hl
  have hg1:=wj s (x.r.pos+3)
  have hg2:=qt s (x.r.pos+3) hl
  split
  ·exact hb _ _ _ (onB x (atR x.r (wh s (x.r.pos+3)))) d o S (ho.at (by omega) hw2) hd hn h.at
  ·have h1:=zsx (s:=s) (p:=x.r.pos+3) ho.cd hl h
   split
   ·rename_i h2;exact h1.bad h2
   ·rename_i h2
    have h2:(ovR s x.r (x.r.pos+3)).cd=0:=by simpa using h2
    split
    ·exact zya (p:=ppz 0) h2 (h1.1 h2) hn (zst 0)
    ·rw [zap h2]
     exact hb _ _ _ (onB x (atR x.r (gpE s (x.r.pos+3)))) d o S (ho.at (by omega) hg2) hd hn h.at
theorem drO_pre {s:Bs} {r:Rd} {y:Bool} (h:¬drO s r y=false) (hd:∀ h∈r.hd,h.pre.length≤60):∀ h∈drH s r,h.pre.length≤60:=by
 unfold drO at h
 unfold drH
 split
 ·exact hd
 ·rename_i h1;rw [if_neg h1] at h
  split
  ·rename_i h2;rw [if_pos h2] at h
   simp only [Bool.not_eq_false,Bool.and_eq_true,hkO,decide_eq_true_eq] at h
   intro x hx
   rcases List.mem_append.1 hx with hx | hx
   ·exact hd x hx
   ·simp only [List.mem_cons,List.not_mem_nil,or_false] at hx;subst hx;exact h.1.1.2.2
  ·exact hd
theorem At.hdR {r:Rd} {l:List Hd} {d:Int} {o:Stk} {S:List Nat} (h:At r d o S) (hl:∀ h∈l,h.pre.length≤60):At (hdR r l) d o S:=⟨h.nd,h.st,h.dn,h.dt,h.ti,h.dc,hl⟩
theorem dr_res {s:Bs} {r:Rd} {y:Bool} {d:Int} {o:Stk} {S:List Nat} (h0:r.cd=0) (hp:r.pos≤s.length) (h:At r d o S):Res s (drR s r y) d o S:=by
 have hg:=qt s _ (zcd s r.pos hp)
 unfold drR
 split
 ·exact ⟨fun h1=>by simp [flt] at h1,fun _=>h.bad rfl (by simp [flt]) hp⟩
 ·rename_i h1
  have h2:=h.hdR (drO_pre h1 h.hd)
  split
  ·exact h2.at.res h0
  ·exact h2.at.resF (by decide) hg
theorem drL_res {s:Bs}:∀ (n:Nat) (y:Bool) (r:Rd) (d:Int) (o:Stk) (S:List Nat),s.length-r.pos=n→r.cd=0→r.pos≤s.length→At r d o S→Res s (drL s y r) d o S:=by
 intro n
 induction n using Nat.strongRecOn with
 | ind n ih=>
 intro y r d o S hn h0 hp h
 have h1:=dr_res (y:=y) h0 hp h
 rw [drL]
 split
 ·split
  ·rename_i h2;exact h1.bad h2
  ·rename_i h2
   have h2:(drR s r y).cd=0:=by simpa using h2
   split
   ·rename_i h3
    have hp2:(drR s r y).pos≤s.length:=by
     unfold drR at h2 ⊢
     split
     ·exact hp
     ·split
      ·exact qt s _ (zcd s r.pos hp)
      ·exact qt s _ (zcd s r.pos hp)
    exact ih _ (by omega) _ _ _ _ _ rfl h2 hp2 (h1.1 h2)
   ·exact h.res h0
 ·exact h.res h0
theorem dc_res {s:Bs} {r:Rd} {d:Int} {o:Stk} {S:List Nat} (h0:r.cd=0) (hp:r.pos≤s.length) (h:At r d o S):Res s (dcS s r) d o S:=by
 refine drL_res _ false _ d o S rfl h0 hp ?_
 exact ⟨h.nd,h.st,h.dn,h.dt,h.ti,fun j h1 h2=>by simp only at h1 h2;omega,fun x hx=>by cases hx⟩
theorem At.doc {r:Rd} {m:Bool} {S:List Nat} (h:At r 0 [] S) (hb:r.bs=r.ev.length):At (zn r (evD m) true) 1 [] S:=by
 have:=h.tell (r':=zn r (evD m) true) (e:=evD m) rfl rfl rfl rfl (by cases m<;>decide) (by cases m<;>decide) (by cases m<;>decide) (by cases m<;>decide) (by intro h;simp [evD] at h) (fun _=>hb)
 have e:vw 0 [] (evD m).kind=(true,1,[]):=rfl
 rw [e] at this
 exact this
theorem At.docE {r:Rd} {m:Bool} {S:List Nat} (h:At r 2 [] S):At (zn r (evDE m) true) 0 [] S:=by
 have:=h.tell (r':=zn r (evDE m) true) (e:=evDE m) rfl rfl rfl rfl (by cases m<;>decide) (by cases m<;>decide) (by cases m<;>decide) (by cases m<;>decide) (by intro h;simp [evDE] at h) (by intro h;simp [evDE] at h)
 have e:vw 2 [] (evDE m).kind=(true,0,[]):=rfl
 rw [e] at this
 exact this
theorem dk_res {s:Bs} [Sm s] {x:Rb} {S:List Nat} (hs:s.length≤1048576) (ho:OkS s x.r) (h:At x.r 0 [] S):Res s (dcK s x).r 0 [] S:=by
 obtain ⟨h1,h2,h3⟩:=zzt ho
 have hD0:=dc_res ho.ok.cd ho.ok.pos h
 unfold dcK
 split
 ·rename_i h4;exact hD0.bad h4
 ·rename_i h4
  have h4:(dcS s x.r).cd=0:=by simpa using h4
  obtain ⟨hD,_,_⟩:=h3 h4
  have hA:=hD0.1 h4
  have hT:=hA.doc (m:=decide (mkA s (dcS s x.r).pos=1)) (by rw [h2,h1])
  have hM:=rt_res (m:=decide (mkA s (dcS s x.r).pos=1)) (x:=⟨zn (dcS s x.r) (evD (decide (mkA s (dcS s x.r).pos=1))) true,false,x.lt⟩) (hD.tell hs) hD.dp (fun h=>(uq (s:=s) (p:=(dcS s x.r).pos) (by rw [of_decide_eq_true h];decide)).1) hT (fun _=>rfl)
  have hM':Res s (dcM s (decide (mkA s (dcS s x.r).pos=1)) (onB x (dcS s x.r))).r 2 [] S:=hM
  split
  ·rename_i h6;exact hM'.bad h6
  ·rename_i h6
   have h6:(dcM s (decide (mkA s (dcS s x.r).pos=1)) (onB x (dcS s x.r))).r.cd=0:=by simpa using h6
   have hk:StK s (zn (dcS s x.r) (evD (decide (mkA s (dcS s x.r).pos=1))) true) (dcM s (decide (mkA s (dcS s x.r).pos=1)) (onB x (dcS s x.r))).r:=dcM_k (m:=decide (mkA s (dcS s x.r).pos=1)) (x:=onB x (dcS s x.r)) hs hD (fun h=>of_decide_eq_true h) h6
   have hA2:=hM'.1 h6
   generalize dcM s (decide (mkA s (dcS s x.r).pos=1)) (onB x (dcS s x.r))=v at *
   have hN:=zx9 h6 hk.ok.pos hA2
   split
   ·rename_i h7;exact hN.bad h7
   ·rename_i h7
    have h7:(nxK s v).r.cd=0:=by simpa using h7
    have hA3:=hN.1 h7
    have hpz:(nxK s v).r.pos≤s.length:=by rw [zof h7];exact qt s _ hk.ok.pos
    generalize nxK s v=z at *
    unfold dcT
    split
    ·exact hA3.resF (by decide) hpz
    ·split
     ·rename_i h9
      have hR:=rm_res h7 (uq (s:=s) (p:=z.r.pos) (by rw [h9];decide)).1 hA3
      split
      ·rename_i h10;exact hR.bad h10
      ·rename_i h10
       have h10:(rmR s z.r).cd=0:=by simpa using h10
       exact (hR.1 h10).docE.res h10
     ·exact hA3.docE.res h7
theorem sm_res {s:Bs} [Sm s] {x:Rb} {S:List Nat} (hs:s.length≤1048576) (ho:OkS s x.r) (h:At x.r 0 [] S):Res s (smS s x).r 0 [] S:=by
 unfold smS
 split
 ·rename_i h1
  exact rm_res ho.ok.cd (uq (s:=s) (p:=x.r.pos) (by rw [h1];decide)).1 h
 ·exact dk_res hs ho h
/-- A whole stream,or one with a fault. -/
structure Whl (s:Bs) (r:Rd):Prop where
 nd:yf (if r.cd=0 then r.ev else r.ev++[evF r.cd r.pl])=true
 ti:Tie r.ev
 en:r.cd=0→∃ m d o,r.ev=m++[evSE]∧Nd m d o
 fl:r.cd≠0→(∃ d o,Nd r.ev d o)∧r.pl≤s.length
theorem evF_ok {c:Int} {p:Nat} (h:1≤c∧c≤99):zaw (evF c p)=true:=by
 simp [zaw,evF,h.1,h.2]
theorem Bad.whl {s:Bs} {r:Rd} (h:Bad s r) (h0:r.cd≠0):Whl s r:=by
 obtain ⟨d,o,hd⟩:=h.nd
 exact ⟨by rw [if_neg h0];exact hd.fin (evF_ok ⟨h.c1,h.c2⟩) (.inl rfl),h.ti,fun h1=>absurd h1 h0,fun _=>⟨h.nd,h.pl⟩⟩
theorem smL_res {s:Bs} [Sm s] (hs:s.length≤1048576):∀ (n:Nat) (x:Rb),s.length-x.r.pos=n→OkS s x.r→At x.r 0 [] []→Whl s (smL s x).r:=by
 intro n
 induction n using Nat.strongRecOn with
 | ind n ih=>
 intro x hn ho h
 have h8:=ho.ok.pos
 have hg:=ho.gap
 have h7:=wj s x.r.pos
 rw [smL]
 by_cases h1:s.length≤gpE s x.r.pos
 ·rw [if_pos h1]
  have hc:(onB x (zn (atR x.r (gpE s x.r.pos)) evSE true)).r.cd=0:=ho.ok.cd
  refine ⟨?_, ?_,fun _=>⟨x.r.ev,0,[],rfl,h.nd⟩,fun h2=>absurd hc h2⟩
  ·rw [if_pos hc];exact h.nd.fin (by decide) (.inr ⟨rfl,rfl⟩)
  ·exact h.ti.app (by intro h;simp [evSE] at h)
 ·rw [if_neg h1]
  have hS:=sm_res (x:=onB x (atR x.r (gpE s x.r.pos))) hs hg h.at
  by_cases h2:(smS s (onB x (atR x.r (gpE s x.r.pos)))).r.cd=0
  ·rw [if_neg (by simpa using h2)]
   obtain ⟨h3,h4⟩:=smS_k (x:=onB x (atR x.r (gpE s x.r.pos))) hs hg h2
   simp only [onB,atR] at h4
   rw [dif_pos ⟨by simp only [onB,atR];omega,by omega⟩]
   exact ih _ (by simp only [onB,atR] at *;omega) _ rfl h3 (hS.1 h2)
  ·rw [if_pos (by simpa using h2)];exact (hS.2 h2).whl h2
theorem psR_at (s:Bs):At (zn (rdz 0) evS true) 0 [] []:=by
 refine ⟨⟨[],rfl,rfl⟩,rfl,rfl,(fun k _ _ h=>by cases h), ?_, ?_,(fun x hx=>by cases hx)⟩
 ·intro i hi hk
  have:i=0:=by simp [zn,rdz] at hi;exact hi
  subst this
  simp [zn,rdz,evS] at hk
 ·intro j h1 h2
  simp [zn,rdz] at h1 h2
  omega
theorem psR_res {s:Bs} (hs:s.length≤1048576):Whl s (psR s):=
 haveI:Sm s:=⟨hs⟩
 smL_res hs _ _ rfl (zg8 s) (psR_at s)
end Go.Pl
end
section
set_option linter.unusedVariables false
set_option linter.unusedSimpArgs false
set_option linter.unusedSectionVars false
set_option linter.unnecessarySimpa false
namespace Go.Pl
theorem zii {l:List Ev} {k:Nat}:∀ (i:Nat),k<i→k ∉ stk l i→isNode (l.getD k evz).kind=true→0≤endF l i k∧endF l i k<i
 | 0,h,_,_=>absurd h (Nat.not_lt_zero _)
 | i+1,h,hs,hn=>by
  simp only [endF]
  by_cases hk:k=i
  ·subst hk
   rw [if_pos rfl]
   have hc:isColl (l.getD k evz).kind=false:=by
    cases hc:isColl (l.getD k evz).kind
    ·rfl
    ·rw [kh hc] at hs;exact absurd (List.mem_append_right _ (List.mem_singleton.2 rfl)) hs
   rw [hn,hc]
   simp only [Bool.not_false,Bool.and_self,if_true]
   omega
  ·rw [if_neg hk]
   by_cases h7:(l.getD i evz).kind=7∧zen (stk l i)=k
   ·rw [if_pos h7];omega
   ·rw [if_neg h7]
    have hs2:k ∉ stk l i:=by
     intro hm
     by_cases hc:isColl (l.getD i evz).kind=true
     ·rw [kh hc] at hs;exact hs (List.mem_append_left _ hm)
     ·by_cases h8:(l.getD i evz).kind=7
      ·rw [xm h8] at hs
       have hp:0<(stk l i).length:=List.length_pos_of_mem hm
       have ht:zen (stk l i)≠k:=fun h=>h7 ⟨h8,h⟩
       rw [zcl hp] at ht
       obtain ⟨p,hp2,e⟩:=List.getElem_of_mem hm
       rcases Nat.lt_or_ge p ((stk l i).length-1) with h9 | h9
       ·refine hs (List.mem_of_getElem (i:=p) (h:=by rw [List.length_take];omega) ?_)
        rw [List.getElem_take];exact e
       ·obtain rfl:p=(stk l i).length-1:=by omega
        rw [List.getD_eq_getElem?_getD,List.getElem?_eq_getElem hp2,e] at ht
        exact ht rfl
      ·rw [va hc h8] at hs;exact hs hm
    have:=zii i (by omega) hs2 hn
    omega
theorem tie_to {l:List Ev} (hn:yf l=true) (ht:Tie l):∀ n,n≤l.length→zr8 l n=true
 | 0,_=>rfl
 | i+1,h=>by
  simp only [zr8]
  rw [tie_to hn ht i (by omega),Bool.true_and]
  by_cases h6:(l.getD i evz).kind=6
  ·obtain ⟨k,h1,h2,h3⟩:=ht i (by omega) h6
   have hd:¬defS l i i<0:=by
    rw [zpl hn (by omega) i (Nat.le_refl _),h1,if_neg (by omega)]
    have h4:=zki hn (t:=(l.getD i evz).text) i (by omega) (by rw [h1];omega)
    rw [h1] at h4
    simp only [Int.toNat_natCast] at h4 ⊢
    have h5:=zec hn (i:=k) (by omega)
    rw [if_pos h4,zed (m:=i) h2 h3 (by omega)] at h5
    have h7:=zii i h2 h3 h4
    rw [if_neg (by omega)]
    omega
   rw [decide_eq_false hd];simp
  ·rw [decide_eq_false h6];rfl
theorem zr9 {l:List Ev} (hn:yf l=true) (ht:Tie l):tiedV l=true:=by
 unfold tiedV;rw [hn,tie_to hn ht _ (Nat.le_refl _)];rfl
theorem evOk_sz {e:Ev} (h:zaw e=true):e.anchor.length≤60∧e.tag.length≤120:=by
 unfold zaw at h
 simp only [Bool.and_eq_true] at h
 obtain ⟨⟨_,h5⟩,h6⟩:=h
 by_cases hk:e.kind=10
 ·simp only [Bool.or_eq_true,decide_eq_true_eq] at h5
  rcases h5 with h5 | h5
  ·rw [h5.1,h5.2];simp
  ·omega
 ·rw [if_neg hk] at h6
  simp only [Bool.and_eq_true,decide_eq_true_eq] at h6
  exact ⟨(of_decide_eq_true h6.1.1.2).1,h6.1.2⟩
def EvSz (l:List Ev):Prop:=∀ i,i<l.length→(l.getD i evz).text.length≤16777216∧(l.getD i evz).anchor.length≤1048576∧(l.getD i evz).tag.length≤1048576
theorem Nd.sz {l:List Ev} {d:Int} {o:Stk} (h:Nd l d o):EvSz l:=fun i hi=>by
 have h1:=h.okx hi
 have h2:=evOk_sz h1.1
 exact ⟨h1.2,by omega,by omega⟩
theorem EvSz.app {l:List Ev} {e:Ev} (h:EvSz l) (he:e.text=[]∧e.anchor=[]∧e.tag=[]):EvSz (l++[e]):=by
 intro i hi
 rcases Nat.lt_or_ge i l.length with h1 | h1
 ·rw [ku h1];exact h i h1
 ·obtain rfl:i=l.length:=by simp at hi;omega
  rw [qj,he.1,he.2.1,he.2.2];simp
/-- What is told of any text. -/
structure PsOk (n:Nat) (l:List Ev):Prop where
 nd:yf l=true
 td:tiedV l=true
 sz:EvSz l
 la:∃ (m:List Ev) (e:Ev),l=m++[e]∧((e.kind=10∧0≤e.pos∧e.pos≤(n:Int)∧hasF l=true)∨(e.kind=9∧hasF l=false))
theorem ztk {m:List Ev} {e:Ev}:(m++[e]).getD ((m++[e]).length-1) evz=e:=by
 rw [List.length_append,List.length_singleton,Nat.add_sub_cancel,qj]
theorem zls {n:Nat} {m:List Ev} {d:Int} {o:Stk} {c:Int} {p:Nat} (h:Nd m d o) (ht:Tie m) (hc:1≤c∧c≤99) (hp:p≤n):PsOk n (m++[evF c p]):=by
 have hn:yf (m++[evF c p])=true:=h.fin (evF_ok hc) (.inl rfl)
 refine ⟨hn,zr9 hn (ht.app (by intro h;simp [evF] at h)),h.sz.app ⟨rfl,rfl,rfl⟩,m,evF c p,rfl,.inl ⟨rfl,by simp [evF],by simp [evF];omega, ?_⟩⟩
 rw [zpc hn,ztk];rfl
theorem zta:Nd [evS] 0 []:=⟨[],rfl,rfl⟩
theorem znf:Tie [evS]:=by
 intro i hi hk
 have:i=0:=by simp at hi;exact hi
 subst this
 simp [evS] at hk
theorem psA_ok {s:Bs}:PsOk s.length (psA s):=by
 have hcl:=clA_le s 0 (Nat.zero_le _)
 unfold psA psE
 split
 ·exact zls (m:=[evS]) zta znf (by decide) (by omega)
 ·split
  ·exact zls (m:=[evS]) zta znf (by decide) hcl
  ·have hW:=psR_res (s:=s) (by omega)
   split
   ·rename_i h3
    have hn:=hW.nd
    rw [if_neg h3] at hn
    have ht:=hW.ti
    obtain ⟨⟨d,o,hd⟩,hp⟩:=hW.fl h3
    have ho:=zhv hn (i:=(psR s).ev.length) (by simp)
    rw [qj] at ho
    refine zls hd ht ?_ hp
    simp [zaw,evF] at ho
    omega
   ·rename_i h3
    have h3:(psR s).cd=0:=by simpa using h3
    have hn:=hW.nd
    rw [if_pos h3] at hn
    obtain ⟨m,d,o,e,hd⟩:=hW.en h3
    refine ⟨hn,zr9 hn hW.ti,by rw [e];exact hd.sz.app ⟨rfl,rfl,rfl⟩,m,evSE,e,.inr ⟨rfl, ?_⟩⟩
    rw [zpc hn,e,ztk];rfl
end Go.Pl
end
section
set_option linter.unusedVariables false
set_option linter.unusedSimpArgs false
set_option linter.unusedSectionVars false
set_option linter.unnecessarySimpa false
namespace Go.Pl
theorem zy0 {l:List Ev} (u:Nat):(zat l u).length≤l.length:=by
 unfold zat
 split
 ·have:=zot (l:=l) _ (u+1) (Nat.le_refl _);omega
 ·exact Nat.zero_le _
end Go.Pl
namespace Go.Pl
end Go.Pl
namespace Go.Pl
end Go.Pl
end
section
set_option linter.unusedVariables false
set_option linter.unusedSimpArgs false
set_option linter.unusedSectionVars false
set_option linter.unnecessarySimpa false
namespace Go.Pl
theorem ndEv_two {d:Int} {o:Stk} {k:Int} (h:(vw d o k).1=true) (hd:o≠[]→d=2):(vw d o k).2.2≠[]→(vw d o k).2.1=2:=by
 unfold vw kf at h ⊢
 by_cases ho:o=[]
 ·subst ho
  (repeat' split at h)<;>simp_all [ndEnds,pop]
 ·have:=hd ho
  (repeat' split at h)<;>simp_all [ndEnds,pop]
theorem run_at {l:List Ev} (hn:yf l=true):∀ m,1≤m→m<l.length→∃ d o,o.length=(stk l m).length∧(o≠[]→d=2)∧zaq (l.drop m) d o=true:=by
 intro m
 induction m with
 | zero=>intro h;omega
 | succ m ih=>
  intro _ hm
  by_cases h0:m=0
  ·subst h0
   have hk:=zb5 hn
   match l,hn with
   | e::r,hn=>
    simp only [yf,Bool.and_eq_true,decide_eq_true_eq] at hn
    refine ⟨0,[], ?_,fun h=>absurd rfl h,by simpa using hn.2⟩
    simp only [List.getD_cons_zero] at hk
    simp [stk,hk,isColl]
  ·obtain ⟨d,o,h1,h2,h3⟩:=ih (by omega) (by omega)
   have e1:l.drop m=l.getD m evz::l.drop (m+1):=by
    rw [List.drop_eq_getElem_cons (by omega),List.getD_eq_getElem?_getD,List.getElem?_eq_getElem (by omega)];rfl
   rw [e1] at h3
   simp only [zaq,Bool.and_eq_true] at h3
   have hne:l.drop (m+1)≠[]:=by
    intro h;have:=congrArg List.length h;simp at this;omega
   have hnE:(l.drop (m+1)).isEmpty=false:=by
    cases hh:(l.drop (m+1)).isEmpty
    ·rfl
    ·exact absurd (List.isEmpty_iff.1 hh) hne
   obtain ⟨h4,h5⟩:=h3
   split at h5
   ·rw [hnE] at h5;cases h5
   ·split at h5
    ·rw [hnE] at h5;cases h5
    ·simp only [Bool.and_eq_true] at h5
     refine ⟨_,_, ?_,ndEv_two h5.1 h2,h5.2⟩
     have:=ztc (i:=m) h5.1 h1
     simp only [stk]
     exact this
theorem open_kind {l:List Ev} (hn:yf l=true) {m:Nat} (h1:1≤m) (hm:m<l.length) (hs:stk l m≠[]):isNode (l.getD m evz).kind=true∨(l.getD m evz).kind=7∨(l.getD m evz).kind=10:=by
 obtain ⟨d,o,h2,h3,h4⟩:=run_at hn m h1 hm
 have ho:o≠[]:=by
  intro h;subst h
  exact hs (List.length_eq_zero_iff.1 h2.symm)
 have hd:=h3 ho
 have e1:l.drop m=l.getD m evz::l.drop (m+1):=by
  rw [List.drop_eq_getElem_cons (by omega),List.getD_eq_getElem?_getD,List.getElem?_eq_getElem (by omega)];rfl
 rw [e1] at h4
 simp only [zaq,Bool.and_eq_true] at h4
 generalize (l.getD m evz).kind=k at *
 obtain ⟨_,h5⟩:=h4
 split at h5
 ·right;right;assumption
 ·split at h5
  ·simp only [Bool.and_eq_true,decide_eq_true_eq] at h5;omega
  ·simp only [Bool.and_eq_true] at h5
   have h6:=h5.1
   unfold vw at h6
   split at h6
   ·simp only [decide_eq_true_eq] at h6;omega
   ·split at h6
    ·rename_i h7;left;rcases h7 with rfl | rfl<;>rfl
    ·split at h6
     ·rename_i h7;left;rcases h7 with rfl | rfl<;>rfl
     ·split at h6
      ·right;left;assumption
      ·split at h6
       ·simp [ho] at h6
       ·cases h6
/-- What is on the stack stays beneath. -/
theorem pre_stk {l:List Ev} {k:Nat} (hc:isColl (l.getD k evz).kind=true):∀ m,k<m→k∈stk l m→∃ R,stk l m=stk l k++k::R:=by
 intro m
 induction m with
 | zero=>intro h;omega
 | succ m ih=>
  intro hm hk
  rcases Nat.eq_or_lt_of_le (Nat.le_of_lt_succ hm) with rfl | h1
  ·exact ⟨[],kh hc⟩
  ·by_cases hcm:isColl (l.getD m evz).kind=true
   ·rw [kh hcm] at hk ⊢
    rcases List.mem_append.1 hk with hk | hk
    ·obtain ⟨R,e⟩:=ih h1 hk
     exact ⟨R++[m],by rw [e];simp⟩
    ·simp at hk;omega
   ·by_cases h7:(l.getD m evz).kind=7
    ·rw [xm h7] at hk ⊢
     obtain ⟨R,e⟩:=ih h1 (List.mem_of_mem_take hk)
     rw [e] at hk ⊢
     rcases List.eq_nil_or_concat R with rfl | ⟨R',x,rfl⟩
     ·exfalso
      have:((stk l k++[k]).take ((stk l k++[k]).length-1))=stk l k:=by simp
      rw [this] at hk
      have:=wm hk
      omega
     ·refine ⟨R', ?_⟩
      have e2:stk l k++k::R'.concat x=(stk l k++k::R')++[x]:=by rw [List.concat_eq_append];simp
      rw [e2,List.length_append,List.length_singleton,Nat.add_sub_cancel,List.take_left' rfl]
    ·rw [va hcm h7] at hk ⊢
     exact ih h1 hk
theorem zg2 {s:List Nat} {x:Nat}:zen (s++[x])=x:=by
 rw [zcl (by simp),List.length_append,List.length_singleton,Nat.add_sub_cancel,qj]
theorem zr7 {s:List Nat} {k:Nat} (h:zen s=k):k∈s:=by
 have hp:0<s.length:=by
  rcases Nat.eq_zero_or_pos s.length with h0 | h0
  ·rw [zr6 (by omega)] at h;omega
  ·exact h0
 rw [zcl hp,List.getD_eq_getElem?_getD,List.getElem?_eq_getElem (by omega)] at h
 simp only [Option.getD_some] at h
 have h2:s[s.length-1]=k:=by omega
 rw [←h2];exact List.getElem_mem _
theorem zzm {l:List Ev} {k e:Nat} (hc:isColl (l.getD k evz).kind=true):∀ n,endF l n k=(e:Int)→k<n→k<e∧e<n∧(l.getD e evz).kind=7∧zen (stk l e)=k
 | 0,h,h0=>absurd h0 (Nat.not_lt_zero _)
 | n+1,h,hkn=>by
  simp only [endF] at h
  by_cases hk:k=n
  ·subst hk
   rw [if_pos rfl,hc] at h
   simp at h
  ·rw [if_neg hk] at h
   by_cases h7:(l.getD n evz).kind=7∧zen (stk l n)=k
   ·rw [if_pos h7] at h
    obtain rfl:n=e:=by omega
    have:=wm (zr7 h7.2)
    exact ⟨this,by omega,h7.1,h7.2⟩
   ·rw [if_neg h7] at h
    obtain ⟨a,b,c⟩:=zzm hc n h (by omega)
    exact ⟨a,by omega,c⟩
/-- Where a collection ends. -/
theorem zmu {l:List Ev} (hn:yf l=true) {k e:Nat} (hk:k<l.length) (hc:isColl (l.getD k evz).kind=true) (h:scB l k 0=e):k<e∧e<l.length∧(l.getD e evz).kind=7∧stk l e=stk l k++[k]∧stk l (e+1)=stk l k:=by
 have hnode:isNode (l.getD k evz).kind=true:=by unfold isNode;rw [hc];rfl
 have h1:=zec hn hk
 rw [if_pos hnode,h] at h1
 obtain ⟨a,b,c,d⟩:=zzm hc l.length h1 hk
 obtain ⟨R,eR⟩:=pre_stk hc e a (zr7 d)
 have hR:R=[]:=by
  rcases List.eq_nil_or_concat R with rfl | ⟨R',x,rfl⟩
  ·rfl
  ·exfalso
   have e2:stk l e=(stk l k++k::R')++[x]:=by rw [eR,List.concat_eq_append];simp
   have h2:=d
   rw [e2,zg2] at h2
   have hx:x=k:=by omega
   have h3:=zay (l:=l) e (stk l k).length ((stk l k++k::R').length) (by simp) (by rw [e2];simp)
   rw [e2,qj] at h3
   have h4:((stk l k++k::R')++[x]).getD (stk l k).length 0=k:=by
    rw [List.getD_eq_getElem?_getD];simp
   rw [h4] at h3
   omega
 subst hR
 refine ⟨a,b,c,eR, ?_⟩
 rw [xm c,eR];simp
theorem zti {l:List Ev} {k:Nat} (hk:k<l.length) (hn:isNode (l.getD k evz).kind=true) (hc:¬isColl (l.getD k evz).kind=true):scB l k 0=k∧stk l (k+1)=stk l k:=by
 have h7:(l.getD k evz).kind≠7:=by intro h;rw [h] at hn;cases hn
 refine ⟨?_,va hc h7⟩
 rw [znl hk]
 unfold cnE
 rw [if_neg hc,if_neg h7,if_pos rfl]
theorem scB_m1 (l:List Ev) (k c:Nat) : -1≤scB l k c:=by
 fun_induction scB l k c with
 | case1=>omega
 | case2=>assumption
 | case3=>omega
theorem scB_up {l:List Ev} {k:Nat} (hk:k<l.length):scB l k 0<l.length:=by
 by_cases h:0≤scB l k 0
 ·exact (zai (l:=l) _ k 0 (Nat.le_refl _) h).2
 ·omega
/-- What holds while the nodes in a collection are gone through. -/
def KdI (l:List Ev) (i:Nat) (last:Int) (rem:List Int):Prop:=(∃ p:Nat,last+1=p∧p≤l.length∧rem=zd7 l p∧stk l p=stk l i++[i])∨(rem=[]∧scB l i 0<0)
theorem KdI.start {l:List Ev} {i:Nat} (hi:i<l.length) (hc:isColl (l.getD i evz).kind=true):KdI l i i (zat l i):=by
 refine .inl ⟨i+1,by omega,hi, ?_,kh hc⟩
 unfold zat;rw [if_pos hc]
theorem KdI.step {l:List Ev} (hn:yf l=true) {i:Nat} {last k:Int} {rem:List Int} (hi:i<l.length) (hc:isColl (l.getD i evz).kind=true) (h:KdI l i last (k::rem)):k=last+1∧0≤k∧k<l.length∧upB l k.toNat 0=i∧isNode (l.getD k.toNat evz).kind=true∧KdI l i (scB l k.toNat 0) rem:=by
 rcases h with ⟨p,h1,h2,h3,h4⟩ | ⟨h1,_⟩
 ·by_cases hk:p<l.length∧isNode (l.getD p evz).kind=true
  ·have hup:upB l p 0=i:=by rw [←zqi hn (by omega),h4,zg2]
   by_cases hs:scB l p 0<0
   ·rw [zcv hk hs] at h3
    obtain ⟨rfl,rfl⟩:=List.cons.inj h3
    refine ⟨h1.symm,by omega,by omega,by simpa using hup,by simpa using hk.2,.inr ⟨rfl, ?_⟩⟩
    -- what is not ended keeps what is around it from ending
    by_cases hsi:scB l i 0<0
    ·exact hsi
    ·exfalso
     have hpc:isColl (l.getD p evz).kind=true:=by
      by_cases hpc:isColl (l.getD p evz).kind=true
      ·exact hpc
      ·have:=(zti hk.1 hk.2 hpc).1;omega
     obtain ⟨e,he⟩:∃ e:Nat,scB l i 0=e:=⟨(scB l i 0).toNat,by omega⟩
     obtain ⟨g1,g2,g3,g4,g5⟩:=zmu hn hi hc he
     have hip:i<p:=by
      have:i∈stk l p:=by rw [h4];simp
      exact wm this
     have hie:i ∉ stk l (e+1):=by rw [g5];intro h;have:=wm h;omega
     rcases Nat.lt_or_ge p e with hpe | hpe
     ·have hpn:p ∉ stk l e:=by
       rw [g4];intro h
       rcases List.mem_append.1 h with h | h
       ·have:=wm h;omega
       ·simp at h;omega
      have h5:=zec hn hk.1
      rw [if_pos hk.2,zed hpe hpn (by omega)] at h5
      have h6:=zii e hpe hpn hk.2
      omega
     ·rcases Nat.eq_or_lt_of_le hpe with rfl | hpe
      ·rw [g3] at hpc;cases hpc
      ·have h5:=(zcc (by omega:i<e+1) hie (p-(e+1))).1
       rw [show e+1+(p-(e+1))=p by omega,h4] at h5
       exact h5 (by simp)
   ·rw [zcu hk hs] at h3
    obtain ⟨rfl,rfl⟩:=List.cons.inj h3
    refine ⟨h1.symm,by omega,by omega,by simpa using hup,by simpa using hk.2, ?_⟩
    obtain ⟨e,he⟩:∃ e:Nat,scB l p 0=e:=⟨(scB l p 0).toNat,by omega⟩
    simp only [Int.toNat_natCast]
    rw [he]
    simp only [Int.toNat_natCast]
    by_cases hpc:isColl (l.getD p evz).kind=true
    ·obtain ⟨g1,g2,g3,g4,g5⟩:=zmu hn hk.1 hpc he
     exact .inl ⟨e+1,by omega,g2,rfl,by rw [g5,h4]⟩
    ·obtain ⟨g1,g2⟩:=zti hk.1 hk.2 hpc
     obtain rfl:e=p:=by omega
     exact .inl ⟨e+1,by omega,hk.1,rfl,by rw [g2,h4]⟩
  ·rw [zmh hk] at h3;cases h3
 ·cases h1
theorem KdI.fin {l:List Ev} (hn:yf l=true) {i:Nat} {last:Int} (hi:i<l.length) (hc:isColl (l.getD i evz).kind=true) (h:KdI l i last []) (he:0≤scB l i 0):last+1=scB l i 0∧scB l i 0<l.length∧(l.getD (scB l i 0).toNat evz).kind=7∧upB l (scB l i 0).toNat 0=i:=by
 obtain ⟨e,hE⟩:∃ e:Nat,scB l i 0=e:=⟨(scB l i 0).toNat,by omega⟩
 obtain ⟨g1,g2,g3,g4,g5⟩:=zmu hn hi hc hE
 rw [hE]
 simp only [Int.toNat_natCast]
 refine ⟨?_,by omega,g3,by rw [←zqi hn (by omega),g4,zg2]⟩
 have hie:i ∉ stk l (e+1):=by rw [g5];intro h;have:=wm h;omega
 rcases h with ⟨p,h1,h2,h3,h4⟩ | ⟨_,h2⟩
 ·have hip:i<p:=by
   have:i∈stk l p:=by rw [h4];simp
   exact wm this
  have hpe:p≤e:=by
   rcases Nat.lt_or_ge e p with hpe | hpe
   ·exfalso
    have h5:=(zcc (by omega:i<e+1) hie (p-(e+1))).1
    rw [show e+1+(p-(e+1))=p by omega,h4] at h5
    exact h5 (by simp)
   ·exact hpe
  have hk:¬(p<l.length∧isNode (l.getD p evz).kind=true):=by
   intro hk
   by_cases hs:scB l p 0<0
   ·rw [zcv hk hs] at h3;cases h3
   ·rw [zcu hk hs] at h3;cases h3
  have hpl:p<l.length:=by omega
  rcases open_kind hn (by omega) hpl (by rw [h4];simp) with hk1 | hk1 | hk1
  ·exact absurd ⟨hpl,hk1⟩ hk
  ·rcases Nat.eq_or_lt_of_le hpe with rfl | hlt
   ·omega
   ·exfalso
    have h6:i ∉ stk l (p+1):=by
     rw [xm hk1,h4]
     simp
     intro h;have:=wm h;omega
    have h5:=(zcc (by omega:i<p+1) h6 (e-(p+1))).1
    rw [show p+1+(e-(p+1))=e by omega,g4] at h5
    exact h5 (by simp)
  ·have:=zfz hn hpl hk1
   obtain rfl:p=e:=by omega
   rw [g3] at hk1;cases hk1
 ·omega
end Go.Pl
end
