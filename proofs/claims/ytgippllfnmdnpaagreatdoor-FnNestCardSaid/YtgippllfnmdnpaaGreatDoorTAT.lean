/- What holds of the reader's steps. -/
import Derived.Test.YtgippllfnmdnpaaGreatDoorTAS
section
set_option linter.unusedVariables false
set_option linter.unusedSimpArgs false
set_option linter.unusedSectionVars false
set_option linter.unnecessarySimpa false
namespace Go.Pl
open Go.Vg (lookS zbh)
theorem ku {α:Type} {l m:List α} {i:Nat} {z:α} (h:i<l.length):(l++m).getD i z=l.getD i z:=by
 simp only [List.getD_eq_getElem?_getD,List.getElem?_append_left h]
theorem qj {α:Type} {l:List α} {x z:α}:(l++[x]).getD l.length z=x:=by
 simp [List.getD_eq_getElem?_getD]
theorem anI_push {l:List Ev} {e:Ev} {b:Nat} (hb:b≤l.length):anI (l++[e]) b=anI l b++(if e.anchor=[] then [] else [l.length]):=by
 unfold anI
 rw [List.length_append,List.length_singleton,List.range_succ,List.filter_append]
 congr 1
 ·apply List.filter_congr
  intro i hi
  rw [ku (by simpa using hi)]
 ·simp only [List.filter_cons,List.filter_nil,qj,decide_eq_true hb,Bool.true_and]
  by_cases h:e.anchor=[]
  ·simp [h]
  ·simp [h]
theorem z0b {l:List Ev} {b i:Nat} (h:i∈anI l b):b≤i∧i<l.length∧(l.getD i evz).anchor≠[]:=by
 unfold anI at h
 rw [List.mem_filter] at h
 simp only [List.mem_range,Bool.and_eq_true,decide_eq_true_eq,Bool.not_eq_true',decide_eq_false_iff_not] at h
 exact ⟨h.2.1,h.1,h.2.2⟩
theorem anI_self {l:List Ev}:anI l l.length=[]:=by
 unfold anI
 rw [List.filter_eq_nil_iff]
 intro i hi
 have:i<l.length:=by simpa using hi
 simp;omega
theorem zf3 {α β:Type} {f g:β→α→β}:∀ (l:List α) (b:β),(∀ x∈l,∀ b,f b x=g b x)→l.foldl f b=l.foldl g b
 | [],b,_=>rfl
 | x::r,b,h=>by
  rw [List.foldl_cons,List.foldl_cons,h x (List.mem_cons_self ..)]
  exact zf3 r _ fun y hy=>h y (List.mem_cons_of_mem _ hy)
theorem nmI_self {l:List Ev}:nmI l l.length=[]:=by unfold nmI;rw [anI_self];rfl
theorem nmI_push {l:List Ev} {e:Ev} {b:Nat} (hb:b≤l.length):nmI (l++[e]) b=if e.anchor=[] then nmI l b else zbh (nmI l b) e.anchor l.length:=by
 unfold nmI
 rw [anI_push hb,List.foldl_append]
 have h1:(anI l b).foldl (fun m i=>zbh m ((l++[e]).getD i evz).anchor (i:Int)) []=(anI l b).foldl (fun m i=>zbh m (l.getD i evz).anchor (i:Int)) []:=
  zf3 _ _ fun i hi m=>by rw [ku (z0b hi).2.1]
 rw [h1]
 by_cases h:e.anchor=[]
 ·rw [if_pos h,if_pos h];rfl
 ·rw [if_neg h,if_neg h]
  simp only [List.foldl_cons,List.foldl_nil,qj]
theorem zh0 {α:Type} [DecidableEq α] (v:Int):∀ (l:List (α×Int)) (k k':α),lookS (zbh l k v) k'=if k=k' then some v else lookS l k'
 | [],k,k'=>rfl
 | p::r,k,k'=>by
  simp only [zbh]
  by_cases h:p.1=k
  ·rw [if_pos h]
   simp only [lookS]
   by_cases h2:k=k'
   ·rw [if_pos h2,if_pos h2]
   ·rw [if_neg h2,if_neg h2,if_neg (by rw [h];exact h2)]
  ·rw [if_neg h]
   simp only [lookS,zh0 v r k k']
   by_cases h2:p.1=k'
   ·rw [if_pos h2,if_pos h2,if_neg (by rw [←h2];exact fun e=>h e.symm)]
   ·rw [if_neg h2,if_neg h2]
/-- What the map of names says of a name. -/
theorem look_al {l:List Ev} {d:List Bool} {b:Nat} {name:Bs}:(lookS (nmI l b) name=none→alD l d b name=false)∧∀ k,lookS (nmI l b) name=some k→0≤k∧k<l.length∧alD l d b name=d.getD k.toNat false:=by
 unfold alD nmI nmS
 have key:∀ (I:List Nat) (m:List (Bs×Int)) (x:Bool),(∀ i∈I,i<l.length)→((lookS m name=none→x=false)∧∀ k,lookS m name=some k→0≤k∧k<l.length∧x=d.getD k.toNat false) →
   ((lookS (I.foldl (fun m i=>zbh m (l.getD i evz).anchor (i:Int)) m) name=none→(I.map fun i=>((l.getD i evz).anchor,d.getD i false)).foldl (fun x p=>if p.1=name then p.2 else x) x=false)∧∀ k,lookS (I.foldl (fun m i=>zbh m (l.getD i evz).anchor (i:Int)) m) name=some k→0≤k∧k<l.length∧(I.map fun i=>((l.getD i evz).anchor,d.getD i false)).foldl (fun x p=>if p.1=name then p.2 else x) x=d.getD k.toNat false):=by
  intro I
  induction I with
  | nil=>intro m x _ h;exact h
  | cons i r ih=>
   intro m x hI h
   simp only [List.foldl_cons,List.map_cons]
   apply ih _ _ (fun j hj=>hI j (List.mem_cons_of_mem _ hj))
   rw [zh0]
   by_cases h9:(l.getD i evz).anchor=name
   ·rw [if_pos h9,if_pos h9]
    refine ⟨fun h=>(by cases h),fun k hk=>?_⟩
    simp only [Option.some.injEq] at hk
    subst hk
    exact ⟨by omega,by have:=hI i (List.mem_cons_self ..);omega,by simp⟩
   ·rw [if_neg h9,if_neg h9];exact h
 exact key (anI l b) [] false (fun i hi=>(z0b hi).2.1) ⟨fun _=>rfl,fun k hk=>by simp [lookS] at hk⟩
end Go.Pl
namespace Go.Pl
theorem zy3 {s:Bs} {p:Nat} (h:zv1 s p=true):p<s.length:=by
 unfold zv1 at h
 rcases of_decide_eq_true h with h1 | h1
 ·exact zy h1 (by decide)
 ·exact zy h1 (by decide)
theorem isPr_33 {s:Bs} {p:Nat} (h:zv1 s p=true) (h2:¬byt s p=38):byt s p=33:=by
 unfold zv1 at h
 rcases of_decide_eq_true h with h1 | h1
 ·exact absurd h1 h2
 ·exact h1
end Go.Pl
namespace Go.Pl
theorem zz5 {g f:Bool} (h:(!g&&!f)=true):(g||f)=false:=by cases g<;>cases f<;>simp_all
theorem zz4 {g f:Bool} (h:(!g&&!f)=false):(g||f)=true:=by cases g<;>cases f<;>simp_all
end Go.Pl
namespace Go.Pl
theorem tgA_nn (s:Bs) (p:Nat):0≤(tgA s p).2.1:=by
 unfold tgA;split<;>simp
theorem zwj (s:Bs) (p:Nat):(tgA s p).1.length≤60:=by
 unfold tgA;split
 ·rename_i h
  simp only [sub,List.length_drop,List.length_take];omega
 ·simp
end Go.Pl
namespace Go.Pl
end Go.Pl
namespace Go.Pl
end Go.Pl
namespace Go.Pl
end Go.Pl
end
section
set_option linter.unusedVariables false
set_option linter.unusedSimpArgs false
set_option linter.unusedSectionVars false
set_option linter.unnecessarySimpa false
namespace Go.Pl
open Go.Vg (lookS zbh)
structure Ok (s:Bs) (r:Rd):Prop where
 cd:r.cd=0
 pos:r.pos≤s.length
 dn:r.dn.length=r.ev.length
 bs:r.bs≤r.ev.length
 dp:r.dp≤40
 sz:r.ev.length≤8 * r.pos+64
 hd:r.hd.length≤1048576
 pf:∀ h∈r.hd,h.pre.length≤1048576
/-- From one state to a later one,behind a node. -/
structure Stp (s:Bs) (r r':Rd):Prop where
 ok:Ok s r'
 lt:r.pos<r'.pos
 pre:r.ev <+: r'.ev
 hd:r'.hd=r.hd
 bs:r'.bs=r.bs
 dp:r'.dp=r.dp
 pot:r'.ev.length+8 * r.pos≤r.ev.length+8 * r'.pos
theorem Ok.size {s:Bs} {r:Rd} (h:Ok s r) (hs:s.length≤1048576):r.ev.length≤8388672:=by
 have:=h.sz;have:=h.pos;omega
theorem Ok.at {s:Bs} {r:Rd} {q:Nat} (h:Ok s r) (h1:r.pos≤q) (h2:q≤s.length):Ok s (atR r q):=
 ⟨h.cd,h2,h.dn,h.bs,h.dp,by have:=h.sz;simp only [atR];omega,h.hd,h.pf⟩
theorem zlj {s:Bs} {r:Rd} (h:(kw s r).cd=0):kw s r=r∧r.pos<s.length∧mkA s r.pos=0:=by
 unfold kw at h ⊢
 split
 ·rename_i h1;rw [if_pos h1] at h;simp [flt] at h
 ·rename_i h1
  rw [if_neg h1] at h
  split
  ·rename_i h2;rw [if_pos h2] at h;simp [flt] at h
  ·rename_i h2;exact ⟨rfl,by omega,by simpa using h2⟩
theorem ka {s:Bs} {r:Rd} (h:(yr s r).cd=0):yr s r=atR r (gpE s r.pos)∧gpE s r.pos<s.length:=by
 have:=zlj (s:=s) (r:=atR r (gpE s r.pos)) h
 exact ⟨this.1,this.2.1⟩
theorem Ok.gap {s:Bs} {r:Rd} (h:Ok s r) (hg:(yr s r).cd=0):Ok s (yr s r):=by
 rw [(ka hg).1]
 exact h.at (wj s r.pos) (qt s r.pos h.pos)
theorem zg9 {s:Bs} {hd:List Hd} {fl:Bool} {pos:Nat} {p:Pp} (hl:pos≤s.length) :
  pos≤(prs s hd fl pos p).1∧(prs s hd fl pos p).1≤s.length∧((prs s hd fl pos p).2.2=0→(prs s hd fl pos p).2.1.has=true→p.has=true∨pos<(prs s hd fl pos p).1)∧(p.has=true→(prs s hd fl pos p).2.2=0→(prs s hd fl pos p).2.1.has=true):=by
 fun_induction prs s hd fl pos p with
 | case1 pos p h ih=>
  have h1:=zdw hl h.2
  have h2:=zd2 (s:=s) (fl:=fl) h1.2.1
  have h3:=ih h2.2
  refine ⟨by omega,h3.2.1,fun _ _=>.inr (by omega),fun _ h0=>h3.2.2.2 h1.2.2 h0⟩
 | case2 pos p h=>
  simp only
  refine ⟨Nat.le_refl _,hl, ?_, ?_⟩
  ·split
   ·rename_i h1
    intro h2 h3
    exact absurd ⟨h1,h2⟩ h
   ·intro _ h3;exact .inl h3
  ·split
   ·rename_i h1
    intro _ h2
    exact absurd ⟨h1,h2⟩ h
   ·intro h3 _;exact h3
theorem vo {s:Bs} {fl:Bool} {r:Rd} (hl:r.pos≤s.length) (h0:r.cd=0) (h:(prR s fl r).cd=0):∃ q,prR s fl r=atR r q∧r.pos≤q∧q≤s.length∧((prP s fl r).has=true→r.pos<q)∧(prs s r.hd fl r.pos (ppz r.pos)).2.2=0:=by
 have hp:=zg9 (s:=s) (hd:=r.hd) (fl:=fl) (p:=ppz r.pos) hl
 unfold prR at h ⊢
 split
 ·rename_i h1
  refine ⟨_,rfl,hp.1,hp.2.1,fun h2=>?_,h1⟩
  rcases hp.2.2.1 h1 h2 with h3 | h3
  ·cases h3
  ·exact h3
 ·rename_i h1
  rw [if_neg h1] at h
  exact absurd h h1
theorem zfs {s:Bs} {r:Rd} (hl:r.pos≤s.length) (h0:r.cd=0) (h:(prF s r).cd=0):∃ q,prF s r=atR r q∧r.pos≤q∧q≤s.length∧((prP s true r).has=true→r.pos<q):=by
 unfold prF at h ⊢
 split
 ·rename_i h1
  rw [if_pos h1] at h
  obtain ⟨q,e,h2,h3,h4,_⟩:=vo hl h0 h1.1
  rw [(zlj h).1]
  exact ⟨q,e,h2,h3,h4⟩
 ·rename_i h1
  rw [if_neg h1] at h
  obtain ⟨q,e,h2,h3,h4,_⟩:=vo hl h0 h
  exact ⟨q,e,h2,h3,h4⟩
theorem Ok.prF {s:Bs} {r:Rd} (h:Ok s r) (hf:(prF s r).cd=0):Ok s (prF s r):=by
 obtain ⟨q,e,h2,h3,_⟩:=zfs h.pos h.cd hf
 rw [e];exact h.at h2 h3
/-- An event more,at a later place. -/
def vn (r:Rd) (e:Ev) (q:Nat):Rd:=atR (zn r e true) q
theorem Ok.put {s:Bs} {r:Rd} {e:Ev} {q:Nat} (h:Ok s r) (h1:r.pos<q∨r.ev.length+1≤8 * r.pos+64∧r.pos≤q) (h2:q≤s.length):Ok s (vn r e q):=
 ⟨h.cd,h2,by simp [vn,atR,zn,h.dn],by simp only [vn,atR,zn,List.length_append];have:=h.bs;omega,h.dp,by simp only [vn,atR,zn,List.length_append,List.length_singleton];have:=h.sz;omega,h.hd,h.pf⟩
theorem zg7 {s:Bs} {p:Nat} (hb:zff (byt s p)=true) (h0:(qtA s p).2.2=0):p+1<(qtA s p).2.1∧(qtA s p).2.1≤s.length:=by
 have hl:p≤s.length:=by
  unfold zff at hb
  simp only [Bool.or_eq_true,beq_iff_eq] at hb
  rcases hb with h | h
  ·exact Nat.le_of_lt (zy h (by decide))
  ·exact Nat.le_of_lt (zy h (by decide))
 unfold qtA at h0 ⊢
 split
 ·rename_i h1;rw [if_pos h1] at h0
  have:=zik hl
  have:=this.2.2 h0
  omega
 ·rename_i h1;rw [if_neg h1] at h0
  have:=zg4 hl
  have:=this.2.2 h0
  omega
end Go.Pl
namespace Go.Pl
theorem zha {s:Bs} {p:Nat} {fl:Bool} (h:pfA s p fl=true):gap s p=false∧¬s.getD p 0∈pfL∧(byt s p=58→gap s (p+1)=false∧¬(fl=true∧flw (byt s (p+1))=true)):=by
 unfold pfA at h
 simp only [Bool.and_eq_true,Bool.not_eq_true',decide_eq_false_iff_not] at h
 refine ⟨h.1.1,h.1.2,fun h2=>?_⟩
 have h3:=h.2
 simp only [h2,decide_true,Bool.or_true,Bool.not_true,Bool.false_or,Bool.and_eq_true,Bool.not_eq_true',Bool.and_eq_false_iff] at h3
 refine ⟨h3.1,fun h4=>?_⟩
 rcases h3.2 with h5 | h5
 ·rw [h4.1] at h5;cases h5
 ·rw [h4.2] at h5;cases h5
theorem pfL_flw {s:Bs} {p:Nat} (hl:p<s.length) (h:¬s.getD p 0∈pfL):flw (byt s p)=false:=by
 rw [kv hl]
 unfold flw
 generalize s.getD p 0=c at h ⊢
 have h1:∀ n:Nat,n<256→(UInt8.ofNat n)∈pfL→¬(c.toNat:Int)=n:=fun n hn hm he=>by
  rw [zbw hn] at he;rw [he] at h;exact h hm
 have a:=h1 44 (by decide) (by decide)
 have b:=h1 91 (by decide) (by decide)
 have d:=h1 93 (by decide) (by decide)
 have e:=h1 123 (by decide) (by decide)
 have f:=h1 125 (by decide) (by decide)
 simp only [Int.cast_ofNat_Int] at a b d e f
 simp [a,b,d,e,f]
theorem plE_gt {s:Bs} {p:Nat} {fl:Bool} (h:pfA s p fl=true):p<plE s p fl:=by
 obtain ⟨h1,h2,h3⟩:=zha h
 have hl:=ut h1
 have hB:isB s p=false:=by unfold gap at h1;rw [Bool.or_eq_false_iff] at h1;exact h1.2
 have hW:isW s p=false:=by unfold gap at h1;rw [Bool.or_eq_false_iff] at h1;exact h1.1
 have hX:peX s p fl p=false:=by
  unfold peX
  rw [pfL_flw hl h2]
  simp only [Nat.lt_irrefl,decide_false,Bool.and_false,Bool.false_and,Bool.false_or,Bool.or_false]
  by_cases h58:byt s p=58
  ·have:=h3 h58
   rw [this.1,decide_eq_true h58]
   cases fl
   ·rfl
   ·cases hf:flw (byt s (p+1))
    ·rfl
    ·exact absurd ⟨rfl,hf⟩ this.2
  ·rw [decide_eq_false h58];rfl
 have h4:p+1≤pe1 s p fl p:=by rw [pe1_t ⟨hB,hX⟩];exact pe1_ge s p fl (p+1)
 unfold plE
 have key:∀ q,p<q→p<bkW s p q:=by
  intro q
  induction q with
  | zero=>omega
  | succ q ih=>
   intro hq
   unfold bkW
   split
   ·rename_i h5
    rcases Nat.lt_or_ge p q with h6 | h6
    ·exact ih h6
    ·obtain rfl:p=q:=by omega
     rw [hW] at h5;cases h5.2
   ·exact hq
 exact key _ h4
theorem zxg (s:Bs) (e:Nat) (n:Int) (fl:Bool) (L:List Pc) (h:e≤s.length):e≤(plA s e n fl L).2∧(plA s e n fl L).2≤s.length:=by
 fun_induction plA s e n fl L with
 | case1 e L h1 ih=>
  have h2:=zd3 h1
  have h3:=zft s (nxA s e n fl).1 fl h2.2.1
  have:=ih h3
  omega
 | case2 e L h1=>exact ⟨Nat.le_refl _,h⟩
theorem zny {s:Bs} {p:Nat} {n:Int} {fl:Bool} (h:pfA s p fl=true):p<(ptA s p n fl).2.1∧(ptA s p n fl).2.1≤s.length:=by
 have h1:=plE_gt h
 have h2:=zft s p fl (Nat.le_of_lt (ut (zha h).1))
 have h3:=zxg s (plE s p fl) n fl [⟨sub s p (plE s p fl),false⟩] h2
 unfold ptA
 rw [if_pos h]
 simp only;omega
/-- What a scalar or alias leaves. -/
theorem zws {s:Bs} {r:Rd} {p:Pp} {c1 c2:Int} (hl:r.pos≤s.length) (h0:r.cd=0) (h:(scR s r p c1 c2).cd=0):∃ e q,scR s r p c1 c2=vn r e q∧r.pos≤q∧q≤s.length∧(p.has=false→r.pos<q):=by
 unfold scR at h ⊢
 split
 ·rename_i h1
  rw [if_pos h1] at h
  unfold alR at h ⊢
  split
  ·rename_i h2;rw [if_pos h2] at h;simp [flt] at h
  ·rename_i h2;rw [if_neg h2] at h
   have hp:=za9 (by simpa using h2)
   split
   ·rename_i h3;rw [if_pos h3] at h;simp [flt] at h
   ·rename_i h3;rw [if_neg h3] at h
    split
    ·exact ⟨_,_,rfl,by omega,by omega,fun _=>by omega⟩
    ·rename_i h4;rw [if_neg h4] at h;simp [flt] at h
 ·rename_i h1
  rw [if_neg h1] at h
  split
  ·rename_i h2
   rw [if_pos h2] at h
   unfold qtR at h ⊢
   split
   ·rename_i h3
    rw [if_pos h3] at h
    exact absurd h h3
   ·rename_i h3
    have:=zg7 h2 (by simpa using h3)
    exact ⟨_,_,rfl,by omega,this.2,fun _=>by omega⟩
  ·rename_i h2
   rw [if_neg h2] at h
   split
   ·rename_i h3
    have:=zny (n := -1) h3
    exact ⟨_,_,rfl,by omega,this.2,fun _=>this.1⟩
   ·rename_i h3
    rw [if_neg h3] at h
    split
    ·rename_i h4
     exact ⟨evT 1 [] p.an p.tg,r.pos,rfl,Nat.le_refl _,hl,fun h5=>by rw [h5] at h4;cases h4.1⟩
    ·rename_i h4;rw [if_neg h4] at h;simp [flt] at h
theorem zhn {r:Rd} {k st:Int} {p:Pp} {sg:Nat} (h:(opR r k st p sg).cd=0):opR r k st p sg={ zn r (evO k st p.an p.tg) false with dp:=r.dp+1 }∧r.dp<40:=by
 unfold opR at h ⊢
 split
 ·rename_i h1;rw [if_pos h1] at h;simp [flt] at h
 ·exact ⟨rfl,by omega⟩
theorem cmR_ok {s:Bs} {r:Rd} {c:Int} (hl:r.pos≤s.length) (h:(cmR s r c).cd=0):∃ q,cmR s r c=atR r q∧r.pos≤q∧q≤s.length:=by
 unfold cmR at h ⊢
 split
 ·rename_i h1;exact ⟨r.pos+1,rfl,by omega,zy h1 (by decide)⟩
 ·rename_i h1
  rw [if_neg h1] at h
  split
  ·exact ⟨r.pos,rfl,Nat.le_refl _,hl⟩
  ·rename_i h2;rw [if_neg h2] at h;simp [flt] at h
end Go.Pl
namespace Go.Pl
theorem zil {s:Bs} {it:Rd→Rd} {c:Int} {k:Nat} {r:Rd} (h:(yr s r).cd≠0):clL s it c k r=yr s r:=by rw [clL,if_pos h]
theorem zim {s:Bs} {it:Rd→Rd} {c:Int} {k:Nat} {r:Rd} (h:(yr s r).cd=0) (h2:byt s (yr s r).pos=c):clL s it c k r=shR (atR (yr s r) ((yr s r).pos+1)) k:=by
 rw [clL,if_neg (by simpa using h),if_pos h2]
theorem zpp {s:Bs} {it:Rd→Rd} {c:Int} {k:Nat} {r:Rd} (h:(yr s r).cd=0) (h2:¬byt s (yr s r).pos=c) (h3:(it (yr s r)).cd≠0):clL s it c k r=it (yr s r):=by
 rw [clL,if_neg (by simpa using h),if_neg h2,if_pos h3]
theorem zpr {s:Bs} {it:Rd→Rd} {c:Int} {k:Nat} {r:Rd} (h:(yr s r).cd=0) (h2:¬byt s (yr s r).pos=c) (h3:(it (yr s r)).cd=0) (h4:(yr s (it (yr s r))).cd≠0):clL s it c k r=yr s (it (yr s r)):=by
 rw [clL,if_neg (by simpa using h),if_neg h2,if_neg (by simpa using h3),if_pos h4]
theorem zps {s:Bs} {it:Rd→Rd} {c:Int} {k:Nat} {r:Rd} (h:(yr s r).cd=0) (h2:¬byt s (yr s r).pos=c) (h3:(it (yr s r)).cd=0) (h4:(yr s (it (yr s r))).cd=0) (h5:(cmR s (yr s (it (yr s r))) c).cd≠0):clL s it c k r=cmR s (yr s (it (yr s r))) c:=by
 rw [clL,if_neg (by simpa using h),if_neg h2,if_neg (by simpa using h3),if_neg (by simpa using h4),dif_neg (fun h=>h5 h.1)]
theorem zpq {s:Bs} {it:Rd→Rd} {c:Int} {k:Nat} {r:Rd} (h:(yr s r).cd=0) (h2:¬byt s (yr s r).pos=c) (h3:(it (yr s r)).cd=0) (h4:(yr s (it (yr s r))).cd=0) (h5:(cmR s (yr s (it (yr s r))) c).cd=0∧r.pos<(cmR s (yr s (it (yr s r))) c).pos∧r.pos<s.length):clL s it c k r=clL s it c k (cmR s (yr s (it (yr s r))) c):=by
 conv=>lhs;rw [clL,if_neg (by simpa using h),if_neg h2,if_neg (by simpa using h3),if_neg (by simpa using h4),dif_pos h5]
/-- What an item does. -/
def zf8 (s:Bs) (D:Nat) (it:Rd→Rd):Prop:=∀ r,Ok s r→r.dp=D→(it r).cd=0→Stp s r (it r)
/-- One round of a collection. -/
theorem zef {s:Bs} {it:Rd→Rd} {c:Int} {D:Nat} {r:Rd} (hit:zf8 s D it) (ho:Ok s r) (hd:r.dp=D) (h:(yr s r).cd=0) (h3:(it (yr s r)).cd=0) (h4:(yr s (it (yr s r))).cd=0) (h5:(cmR s (yr s (it (yr s r))) c).cd=0):Stp s r (cmR s (yr s (it (yr s r))) c):=by
 have hg:=ka h
 have ho1:=ho.gap h
 have hs:=hit _ ho1 (by rw [hg.1];exact hd) h3
 have ho2:=hs.ok.gap h4
 have hg2:=ka h4
 obtain ⟨q,e,h6,h7⟩:=cmR_ok ho2.pos h5
 have e1:(yr s r).pos=gpE s r.pos:=by rw [hg.1];rfl
 have e2:(yr s r).ev=r.ev:=by rw [hg.1];rfl
 have e3:(yr s r).hd=r.hd:=by rw [hg.1];rfl
 have e4:(yr s r).bs=r.bs:=by rw [hg.1];rfl
 have e5:(yr s r).dp=r.dp:=by rw [hg.1];rfl
 have h8:=wj s r.pos
 have hlt:=hs.lt
 have hpre:=hs.pre
 have hpot:=hs.pot
 have hhd:=hs.hd
 have hbs:=hs.bs
 have hdp:=hs.dp
 have hok:=hs.ok
 rw [e,hg2.1]
 rw [hg2.1] at h6
 generalize it (yr s r)=t at *
 have h9:=wj s t.pos
 rw [e2] at hpre
 simp only [atR] at h6
 exact ⟨hok.at (by omega) h7,by simp only [atR];omega,hpre,hhd.trans e3,hbs.trans e4,hdp.trans e5,by simp only [atR];rw [e2] at hpot;omega⟩
structure Clo (s:Bs) (r r':Rd):Prop where
 ok:Ok s r'
 lt:r.pos<r'.pos
 pre:r.ev <+: r'.ev
 hd:r'.hd=r.hd
 bs:r'.bs=r.bs
 dp:r'.dp+1=r.dp
 pot:r'.ev.length+8 * r.pos≤r.ev.length+8 * r'.pos
theorem clL_ok {s:Bs} {it:Rd→Rd} {c:Int} {D:Nat} (hc:0≤c) (hit:zf8 s D it) (hD:1≤D):∀ (n:Nat) (k:Nat) (r:Rd),s.length-r.pos=n→Ok s r→r.dp=D→k<r.ev.length→(clL s it c k r).cd=0→Clo s r (clL s it c k r):=by
 intro n
 induction n using Nat.strongRecOn with
 | ind n ih=>
 intro k r hn ho hd hk hz
 by_cases h:(yr s r).cd=0
 ·by_cases h2:byt s (yr s r).pos=c
  ·rw [zim h h2] at hz ⊢
   have hg:=ka h
   have h8:=wj s r.pos
   have hp:=zy h2 hc
   rw [hg.1] at hp ⊢
   have hpp:=ho.sz
   simp only [atR] at hp
   refine ⟨⟨ho.cd, ?_, ?_, ?_, ?_, ?_,ho.hd,ho.pf⟩, ?_, ?_,rfl,rfl, ?_, ?_⟩
   ·simp only [shR,atR];omega
   ·simp [shR,atR,ho.dn]
   ·simp only [shR,atR,List.length_append];have:=ho.bs;omega
   ·simp only [shR,atR];have:=ho.dp;omega
   ·simp only [shR,atR,List.length_append,List.length_singleton];omega
   ·simp only [shR,atR];omega
   ·exact List.prefix_append _ _
   ·simp only [shR,atR];omega
   ·simp only [shR,atR,List.length_append,List.length_singleton];omega
  ·by_cases h3:(it (yr s r)).cd=0
   ·by_cases h4:(yr s (it (yr s r))).cd=0
    ·by_cases h5:(cmR s (yr s (it (yr s r))) c).cd=0
     ·have hst:=zef hit ho hd h h3 h4 h5
      have hl:r.pos<s.length:=by have:=hst.lt;have:=hst.ok.pos;omega
      rw [zpq h h2 h3 h4 ⟨h5,hst.lt,hl⟩] at hz ⊢
      have hr:=ih (s.length-(cmR s (yr s (it (yr s r))) c).pos) (by have:=hst.lt;omega) k _ rfl hst.ok (by rw [hst.dp];exact hd) (by have:=hst.pre.length_le;omega) hz
      exact ⟨hr.ok,by have:=hst.lt;have:=hr.lt;omega,hst.pre.trans hr.pre,hr.hd.trans hst.hd,hr.bs.trans hst.bs,by have:=hr.dp;have:=hst.dp;omega,by have:=hr.pot;have:=hst.pot;have:=hst.lt;have:=hr.lt;omega⟩
     ·rw [zps h h2 h3 h4 h5] at hz;exact absurd hz h5
    ·rw [zpr h h2 h3 h4] at hz;exact absurd hz h4
   ·rw [zpp h h2 h3] at hz;exact absurd hz h3
 ·rw [zil h] at hz;exact absurd hz h
theorem zzx {s:Bs} {it:Rd→Rd} {c k:Int} {r:Rd} {p:Pp} (hc:0≤c) (hl:r.pos<s.length) (ho:Ok s r) (hit:r.dp<40→zf8 s (r.dp+1) it) (hz:(coR s it c k r p).cd=0):Stp s r (coR s it c k r p):=by
 unfold coR at hz ⊢
 split
 ·rename_i h;rw [if_pos h] at hz;exact absurd hz h
 ·rename_i h
  rw [if_neg h] at hz
  obtain ⟨e,hd⟩:=zhn (show (opR r k 6 p r.pos).cd=0 by simpa using h)
  have hsz:=ho.sz
  have hok:Ok s (atR (opR r k 6 p r.pos) (r.pos+1)):=by
   rw [e]
   refine ⟨ho.cd,hl,by simp [atR,zn,ho.dn],by simp only [atR,zn,List.length_append];have:=ho.bs;omega,by simp only [atR];omega,by simp only [atR,zn,List.length_append,List.length_singleton];omega,ho.hd,ho.pf⟩
  have hr:=clL_ok hc (hit hd) (by omega) _ r.ev.length _ rfl hok (by rw [e];rfl) (by rw [e];simp [atR,zn]) hz
  have hlt:=hr.lt
  have hpre:=hr.pre
  have hpot:=hr.pot
  have hhd:=hr.hd
  have hbs:=hr.bs
  have hdp:=hr.dp
  have hok2:=hr.ok
  have e1:(atR (opR r k 6 p r.pos) (r.pos+1)).pos=r.pos+1:=rfl
  have e2:(atR (opR r k 6 p r.pos) (r.pos+1)).ev=r.ev++[evO k 6 p.an p.tg]:=by rw [e];rfl
  have e3:(atR (opR r k 6 p r.pos) (r.pos+1)).hd=r.hd:=by rw [e];rfl
  have e4:(atR (opR r k 6 p r.pos) (r.pos+1)).bs=r.bs:=by rw [e];rfl
  have e5:(atR (opR r k 6 p r.pos) (r.pos+1)).dp=r.dp+1:=by rw [e];rfl
  generalize clL s it c r.ev.length (atR (opR r k 6 p r.pos) (r.pos+1))=r' at *
  rw [e2] at hpre
  rw [e2,List.length_append,List.length_singleton] at hpot
  exact ⟨hok2,by omega,(List.prefix_append _ _).trans hpre,hhd.trans e3,hbs.trans e4,by omega,by omega⟩
end Go.Pl
namespace Go.Pl
theorem Stp.at0 {s:Bs} {r r':Rd} {q:Nat} (h:Stp s (atR r q) r') (h1:r.pos≤q):Stp s r r' :=
 ⟨h.ok,by have:=h.lt;simp only [atR] at this;omega,h.pre,h.hd,h.bs,h.dp,by have:=h.pot;have:=h.lt;simp only [atR] at *;omega⟩
theorem zli {s:Bs} {r:Rd} {e:Ev} {q q2:Nat} (ho:Ok s r) (h1:r.pos<q2) (h2:q2≤s.length):Stp s r (vn (atR r q) e q2):=
 ⟨⟨ho.cd,h2,by simp [vn,atR,zn,ho.dn],by simp only [vn,atR,zn,List.length_append];have:=ho.bs;omega,ho.dp,by simp only [vn,atR,zn,List.length_append,List.length_singleton];have:=ho.sz;omega,ho.hd,ho.pf⟩,h1,List.prefix_append _ _,rfl,rfl,rfl,by simp only [vn,atR,zn,List.length_append,List.length_singleton];omega⟩
theorem noR_ok {s:Bs} {sb:Rd→Rd} {r:Rd} (ho:Ok s r) (hit:r.dp<40→zf8 s (r.dp+1) sb) (hpa:r.dp<40→zf8 s (r.dp+1) (paR s sb)) (hz:(noR s sb r).cd=0):Stp s r (noR s sb r):=by
 unfold noR at hz ⊢
 split
 ·rename_i h;rw [if_pos h] at hz;exact absurd hz h
 ·rename_i h
  rw [if_neg h] at hz
  obtain ⟨q,e,h1,h2,h3⟩:=zfs ho.pos ho.cd (show (prF s r).cd=0 by simpa using h)
  rw [e] at hz ⊢
  have ho1:=ho.at h1 h2
  unfold boR at hz ⊢
  split
  ·rename_i h4
   rw [if_pos h4] at hz
   exact (zzx (by decide) (zy h4 (by decide)) ho1 hit hz).at0 h1
  ·rename_i h4
   rw [if_neg h4] at hz
   split
   ·rename_i h5
    rw [if_pos h5] at hz
    exact (zzx (by decide) (zy h5 (by decide)) ho1 hpa hz).at0 h1
   ·rename_i h5
    rw [if_neg h5] at hz
    obtain ⟨ev,q2,e2,h6,h7,h8⟩:=zws ho1.pos ho1.cd hz
    rw [e2]
    have h9:r.pos<q2:=by
     cases hh:(prP s true r).has
     ·have:=h8 hh;simp only [atR] at this;omega
     ·have:=h3 hh;simp only [atR] at h6;omega
    exact zli ho h9 h7
theorem zhm {s:Bs} {sb:Rd→Rd} {r:Rd} (ho:Ok s r) (hit:zf8 s r.dp sb) (hz:(paR s sb r).cd=0):Stp s r (paR s sb r):=by
 unfold paR at hz ⊢
 split
 ·rename_i h;rw [if_pos h] at hz;exact absurd hz h
 ·rename_i h
  rw [if_neg h] at hz
  obtain ⟨q,e,h1,h2,h3⟩:=zfs ho.pos ho.cd (show (prF s r).cd=0 by simpa using h)
  generalize hb:zff (byt s (prF s r).pos)=qu at *
  rw [e] at hz ⊢
  have ho1:=ho.at h1 h2
  split
  ·rename_i h4;rw [if_pos h4] at hz;exact absurd hz h4
  ·rename_i h4
   rw [if_neg h4] at hz
   obtain ⟨ev,q2,e2,h6,h7,h8⟩:=zws ho1.pos ho1.cd (show (scR s (atR r q) (prP s true r) 125 58).cd=0 by simpa using h4)
   have h9:r.pos<q2:=by
    cases hh:(prP s true r).has
    ·have:=h8 hh;simp only [atR] at this;omega
    ·have:=h3 hh;simp only [atR] at h6;omega
   rw [e2] at hz ⊢
   have hs2:=zli (q:=q) (e:=ev) ho h9 h7
   split
   ·rename_i h10;rw [if_pos h10] at hz;exact absurd hz h10
   ·rename_i h10
    rw [if_neg h10] at hz
    have hg:=ka (show (yr s (vn (atR r q) ev q2)).cd=0 by simpa using h10)
    have hg1:=wj s q2
    have hg2:gpE s q2<s.length:=hg.2
    have e3:yr s (vn (atR r q) ev q2)=vn (atR r q) ev (gpE s q2):=hg.1
    rw [e3] at hz ⊢
    have T2:∀ q4,r.pos<q4→q4≤s.length→Stp s r (y5 (vn (atR r q) ev q4) 1 [] [] []):=fun q4 hq4 hq5=>
     ⟨⟨ho.cd,hq5,by simp [vn,atR,zn,y5,ho.dn],by simp only [vn,atR,zn,y5,List.length_append];have:=ho.bs;omega,ho.dp,by simp only [vn,atR,zn,y5,List.length_append,List.length_singleton];have:=ho.sz;omega,ho.hd,ho.pf⟩,hq4,(List.prefix_append _ _).trans (List.prefix_append _ _),rfl,rfl,rfl,by simp only [vn,atR,zn,y5,List.length_append,List.length_singleton];omega⟩
    unfold paK at hz ⊢
    split
    ·rename_i h11
     rw [if_pos h11] at hz
     have hp11:gpE s q2<s.length:=hg2
     unfold paV at hz ⊢
     split
     ·rename_i h12;rw [if_pos h12] at hz;exact absurd hz h12
     ·rename_i h12
      rw [if_neg h12] at hz
      have e4:atR (vn (atR r q) ev (gpE s q2)) ((vn (atR r q) ev (gpE s q2)).pos+1)=vn (atR r q) ev (gpE s q2+1):=rfl
      rw [e4] at hz ⊢ h12
      have hg4:=ka (show (yr s (vn (atR r q) ev (gpE s q2+1))).cd=0 by simpa using h12)
      have e5:yr s (vn (atR r q) ev (gpE s q2+1))=vn (atR r q) ev (gpE s (gpE s q2+1)):=hg4.1
      have hg5:=wj s (gpE s q2+1)
      have hg6:gpE s (gpE s q2+1)<s.length:=hg4.2
      rw [e5] at hz ⊢
      split
      ·exact T2 _ (by omega) (by omega)
      ·rename_i h13
       rw [if_neg h13] at hz
       have hs4:=zli (q:=q) (e:=ev) (q2:=gpE s (gpE s q2+1)) ho (by omega) (by omega)
       have hr:=hit _ hs4.ok hs4.dp hz
       exact ⟨hr.ok,by have:=hs4.lt;have:=hr.lt;omega,hs4.pre.trans hr.pre,hr.hd.trans hs4.hd,hr.bs.trans hs4.bs,hr.dp.trans hs4.dp,by have:=hr.pot;have:=hs4.pot;have:=hr.lt;omega⟩
    ·exact T2 _ (by omega) (by omega)
/-- A node's reader,at a depth. -/
theorem zhs {s:Bs}:∀ (d:Nat) (r:Rd),Ok s r→r.dp+d=40→(noF s d r).cd=0→Stp s r (noF s d r)
 | 0,r,ho,hd,hz=>noR_ok ho (fun h=>by omega) (fun h=>by omega) hz
 | d+1,r,ho,hd,hz=>by
  have hit:zf8 s (r.dp+1) (noF s d):=fun r1 h1 h2 h3=>zhs d r1 h1 (by omega) h3
  exact noR_ok ho (fun _=>hit) (fun _ r1 h1 h2 h3=>zhm h1 (by rw [h2];exact hit) h3) hz
end Go.Pl
namespace Go.Pl
theorem zxx {s:Bs} {r F x:Rd} (ho:Ok s r) (hF:F=prF s r) (hFz:F.cd=0) (hx:x=scR s F (prP s true r) 125 58) (hxz:x.cd=0):Stp s r x:=by
 obtain ⟨q,e,h1,h2,h3⟩:=zfs ho.pos ho.cd (show (prF s r).cd=0 by rw [←hF];exact hFz)
 have ho1:=ho.at h1 h2
 rw [hF,e] at hx
 obtain ⟨ev,q2,e2,h6,h7,h8⟩:=zws ho1.pos ho1.cd (show (scR s (atR r q) (prP s true r) 125 58).cd=0 by rw [←hx];exact hxz)
 have h9:r.pos<q2:=by
  cases hh:(prP s true r).has
  ·have:=h8 hh;simp only [atR] at this;omega
  ·have:=h3 hh;simp only [atR] at h6;omega
 rw [hx,e2]
 exact zli ho h9 h7
end Go.Pl
end
section
set_option linter.unusedVariables false
set_option linter.unusedSimpArgs false
set_option linter.unusedSectionVars false
set_option linter.unnecessarySimpa false
namespace Go.Pl
open Go.Vg (lookS zbh)
structure PrA (s:Bs) (fl:Bool) (r x:Rd) (p:Pp):Prop where
 cd:x.cd=0
 at':x=atR r x.pos
 pos:x.pos≤s.length
 rest:prs s r.hd fl x.pos p=prs s r.hd fl r.pos (ppz r.pos)
 stop:fl=true→p.has=true→kw s x=x
end Go.Pl
end
section
set_option linter.unusedVariables false
set_option linter.unusedSimpArgs false
set_option linter.unusedSectionVars false
set_option linter.unnecessarySimpa false
namespace Go.Pl
open Go.Vg (lookS zbh)
theorem zze (s:Bs) (r:Rd):(kw s r).ev=r.ev:=by
 unfold kw;split
 ·rfl
 ·split<;>rfl
theorem zkw (s:Bs) (r:Rd):(yr s r).ev=r.ev:=zze s _
theorem zkv (s:Bs) (fl:Bool) (r:Rd):(prR s fl r).ev=r.ev:=by
 unfold prR;split<;>rfl
theorem ev_prF (s:Bs) (r:Rd):(prF s r).ev=r.ev:=by
 unfold prF;split
 ·rw [zze,zkv]
 ·exact zkv s true r
theorem ev_cmR (s:Bs) (r:Rd) (c:Int):(cmR s r c).ev=r.ev:=by
 unfold cmR;split
 ·rfl
 ·split<;>rfl
theorem zzd (r:Rd) (st:Int) (t a g:Bs):(y5 r st t a g).ev.length=r.ev.length+1:=by simp [y5,zn]
theorem ev_shR (r:Rd) (k:Nat):(shR r k).ev.length=r.ev.length+1:=by simp [shR]
theorem ev_scR (s:Bs) (r:Rd) (p:Pp) (c1 c2:Int):(scR s r p c1 c2).ev.length≤r.ev.length+1:=by
 unfold scR alR qtR plR
 repeat' split
 all_goals simp [y5,zn,flt,atR]
theorem zzf (r:Rd) (k st:Int) (p:Pp) (sg:Nat):(opR r k st p sg).ev.length≤r.ev.length+1:=by
 unfold opR;split
 ·simp [flt]
 ·simp [zn]
def ItSz (s:Bs) (D:Nat) (it:Rd→Rd):Prop:=∀ r,Ok s r→r.dp=D→(it r).ev.length≤8 * s.length+66
theorem clL_sz {s:Bs} {it:Rd→Rd} {c:Int} {D:Nat} (hit:zf8 s D it) (hsz:ItSz s D it):∀ (n k:Nat) (r:Rd),s.length-r.pos=n→Ok s r→r.dp=D→(clL s it c k r).ev.length≤8 * s.length+66:=by
 intro n
 induction n using Nat.strongRecOn with
 | ind n ih=>
  intro k r hn ho hd
  have h1:=ho.sz
  have h2:=ho.pos
  refine Decidable.byCases (p:=(yr s r).cd=0) (fun hg=>?_) (fun hg=>by rw [zil hg,zkw];omega)
  have hgo:=ho.gap hg
  have hgd:(yr s r).dp=D:=by rw [(ka hg).1];exact hd
  by_cases hb:byt s (yr s r).pos=c
  ·rw [zim hg hb,ev_shR]
   show (yr s r).ev.length+1≤_
   rw [zkw];omega
  have hI:=hsz _ hgo hgd
  refine Decidable.byCases (p:=(it (yr s r)).cd=0) (fun h3=>?_) (fun h3=>by rw [zpp hg hb h3];exact hI)
  refine Decidable.byCases (p:=(yr s (it (yr s r))).cd=0) (fun h4=>?_) (fun h4=>by rw [zpr hg hb h3 h4,zkw];exact hI)
  refine Decidable.byCases (p:=(cmR s (yr s (it (yr s r))) c).cd=0) (fun h5=>?_) (fun h5=>by rw [zps hg hb h3 h4 h5,ev_cmR,zkw];exact hI)
  have hrd:=zef hit ho hd hg h3 h4 h5
  have hlt:=hrd.lt
  have hps:=hrd.ok.pos
  rw [zpq hg hb h3 h4 ⟨h5,hlt,by omega⟩]
  exact ih _ (by omega) k _ rfl hrd.ok (hrd.dp.trans hd)
theorem ztx {s:Bs} {it:Rd→Rd} {c k:Int} {r:Rd} {p:Pp} (hl:r.pos<s.length) (ho:Ok s r) (hit:r.dp<40→zf8 s (r.dp+1) it) (hsz:r.dp<40→ItSz s (r.dp+1) it):(coR s it c k r p).ev.length≤8 * s.length+66:=by
 have h1:=ho.sz
 have h8:=ho.bs
 unfold coR
 by_cases hz:(opR r k 6 p r.pos).cd=0
 ·rw [if_neg (by simpa using hz)]
  obtain ⟨e,hd⟩:=zhn hz
  refine clL_sz (D:=r.dp+1) (hit hd) (hsz hd) _ _ _ rfl ?_ (by rw [e];rfl)
  rw [e]
  exact ⟨ho.cd,hl,by simp [atR,zn,ho.dn],by simp only [atR,zn,List.length_append];omega,by simp only [atR];omega,by simp only [atR,zn,List.length_append,List.length_singleton];omega,ho.hd,ho.pf⟩
 ·rw [if_pos hz]
  have:=zzf r k 6 p r.pos
  omega
theorem paR_sz {s:Bs} {sb:Rd→Rd} {r:Rd} (ho:Ok s r) (hsz:ItSz s r.dp sb):(paR s sb r).ev.length≤8 * s.length+66:=by
 have h1:=ho.sz
 have h2:=ho.pos
 have eF:=ev_prF s r
 obtain ⟨F,hF⟩:∃ F,F=prF s r:=⟨_,rfl⟩
 unfold paR
 rw [←hF] at eF ⊢
 by_cases hFz:F.cd=0
 ·rw [if_neg (by simpa using hFz)]
  have eS:=ev_scR s F (prP s true r) 125 58
  obtain ⟨x,hx⟩:∃ x,x=scR s F (prP s true r) 125 58:=⟨_,rfl⟩
  rw [←hx] at eS ⊢
  rw [eF] at eS
  by_cases hxz:x.cd=0
  ·rw [if_neg (by simpa using hxz)]
   have hst:=zxx ho hF hFz hx hxz
   have hxo:=hst.ok
   have eG:=zkw s x
   by_cases hgz:(yr s x).cd=0
   ·rw [if_neg (by simpa using hgz)]
    have hgo:=hxo.gap hgz
    have hgd:(yr s x).dp=r.dp:=by rw [(ka hgz).1];exact hst.dp
    have hgp:(yr s x).pos<s.length:=by
     obtain ⟨e9,h9⟩:=ka hgz
     rw [e9];exact h9
    generalize yr s x=g at *
    unfold paK
    split
    ·unfold paV
     have eH:(yr s (atR g (g.pos+1))).ev=g.ev:=zkw s (atR g (g.pos+1))
     by_cases hz:(yr s (atR g (g.pos+1))).cd=0
     ·rw [if_neg (by simpa using hz)]
      split
      ·rw [zzd,eH,eG];omega
      ·refine hsz _ ((hgo.at (q:=g.pos+1) (by omega) hgp).gap hz) ?_
       rw [(ka hz).1];exact hgd
     ·rw [if_pos hz,eH,eG];omega
    ·rw [zzd,eG];omega
   ·rw [if_pos hgz,eG];omega
  ·rw [if_pos hxz];omega
 ·rw [if_pos hFz,eF];omega
theorem noR_sz {s:Bs} {sb:Rd→Rd} {r:Rd} (ho:Ok s r) (hit:r.dp<40→zf8 s (r.dp+1) sb) (hsz:r.dp<40→ItSz s (r.dp+1) sb):(noR s sb r).ev.length≤8 * s.length+66:=by
 have h1:=ho.sz
 have h2:=ho.pos
 have eF:=ev_prF s r
 unfold noR
 by_cases hFz:(prF s r).cd=0
 ·rw [if_neg (by simpa using hFz)]
  have hFo:=ho.prF hFz
  have hFd:(prF s r).dp=r.dp:=by
   obtain ⟨q9,e9,_⟩:=zfs ho.pos ho.cd hFz
   rw [e9];rfl
  generalize prF s r=F at *
  unfold boR
  split
  ·rename_i hb
   exact ztx (zy hb (by decide)) hFo (by rw [hFd];exact hit) (by rw [hFd];exact hsz)
  ·split
   ·rename_i hb
    refine ztx (zy hb (by decide)) hFo (fun h=>?_) (fun h=>?_)
    ·rw [hFd] at h ⊢
     exact fun r2 k1 k2 k3=>zhm k1 (by rw [k2];exact hit h) k3
    ·rw [hFd] at h ⊢
     exact fun r2 k1 k2=>paR_sz k1 (by rw [k2];exact hsz h)
   ·have:=ev_scR s F (prP s true r) 93 125
    rw [eF] at this
    omega
 ·rw [if_pos hFz,eF];omega
theorem noF_sz {s:Bs}:∀ (d:Nat) (r:Rd),Ok s r→r.dp+d=40→(noF s d r).ev.length≤8 * s.length+66
 | 0,r,ho,hd=>noR_sz ho (fun h=>by omega) (fun h=>by omega)
 | d+1,r,ho,hd=>noR_sz ho (fun h r1 h1 h2 h3=>zhs d r1 h1 (by omega) h3) (fun h r1 h1 h2=>noF_sz d r1 h1 (by omega))
end Go.Pl
end
