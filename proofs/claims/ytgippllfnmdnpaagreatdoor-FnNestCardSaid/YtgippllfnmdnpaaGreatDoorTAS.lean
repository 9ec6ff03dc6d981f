/- Events that are yf, in plain words. -/
import Derived.Test.YtgippllfnmdnpaaGreatDoorTAP
import Derived.Test.YtgippllfnmdnpaaGreatDoorTAA
import Derived.Test.YtgippllfnmdnpaaGreatDoorTAR
import Derived.Test.YtgippllfnmdnpaaGreatDoorTAC
section
set_option linter.unusedVariables false
set_option linter.unusedSimpArgs false
set_option linter.unusedSectionVars false
set_option linter.unnecessarySimpa false
namespace Go.Pl
/-- What is open: is it a map,and how many nodes it has;the innermost last. -/
abbrev Stk:=List (Bool×Nat)
def tp (o:Stk):Bool×Nat:=o.getD (o.length-1) (false,0)
def zeo (o:Stk):Stk:=o.set (o.length-1) ((tp o).1,(tp o).2+1)
def pop (o:Stk):Stk:=o.take (o.length-1)
def kdO (p:Bool×Nat):Int:=if p.1 then 4 else 3
def mnO (p:Bool×Nat):Int:=p.2
def kf (d:Int) (o:Stk):Bool×Int×Stk:=if o=[] then (decide (d=1),2,[]) else (true,d,zeo o)
def ndEnds (o:Stk):Bool:=!(decide (o=[])||((tp o).1&&decide ((tp o).2 % 2≠0)))
def vw (d:Int) (o:Stk) (k:Int):Bool×Int×Stk:=
 if k=2 then (decide (d=0),1,o)
 else if k=5∨k=6 then kf d o
 else if k=3∨k=4 then ((kf d o).1,(kf d o).2.1,(kf d o).2.2++[(decide (k=4),0)])
 else if k=7 then if ndEnds o then (true,d,pop o) else (false,d,o)
 else if k=8 then (decide (d=2)&&decide (o=[]),0,o)
 else (false,d,o)
def zaq:List Ev→Int→Stk→Bool
 | [],_,_=>false
 | e::r,d,o=>zaw e&&(if e.kind=10 then r.isEmpty else if e.kind=9 then r.isEmpty&&decide (d=0) else (vw d o e.kind).1&&zaq r (vw d o e.kind).2.1 (vw d o e.kind).2.2)
def yf:List Ev→Bool
 | []=>false
 | e::r=>zaw e&&decide (e.kind=1)&&zaq r 0 []
theorem zpe {α β:Type} (g:α→β) (l:List α) (j:Nat) (z:α):(l.map g).getD j (g z)=g (l.getD j z):=by
 simp only [List.getD_eq_getElem?_getD,List.getElem?_map];cases l[j]?<;>rfl
theorem zdh {o:Stk}:(zeo o).length=o.length:=by simp [zeo]
theorem uf {o:Stk}:(pop o).length=o.length-1:=by simp [pop]
theorem incr_kd {o:Stk} (h:o≠[]):(zeo o).map kdO=o.map kdO:=by
 have hl:0<o.length:=List.length_pos_iff.2 h
 unfold zeo
 rw [List.map_set]
 apply List.ext_getElem?
 intro j
 rw [List.getElem?_set]
 split
 ·rename_i he;subst he
  simp [kdO,tp,List.getD,show o.length-1<o.length by omega]
 ·rfl
theorem incr_mn {o:Stk} (h:o≠[]):(zeo o).map mnO=(o.map mnO).set (o.length-1) (mnO (tp o)+1):=by
 unfold zeo;rw [List.map_set];simp [mnO]
theorem zh9 {α:Type} (l:List α) (i j:Nat) (x z:α) (hi:i<l.length):(l.set i x).getD j z=if j=i then x else l.getD j z:=by
 simp only [List.getD_eq_getElem?_getD,List.getElem?_set]
 by_cases h:j=i
 ·subst h;simp [hi]
 ·rw [if_neg (Ne.symm h),if_neg h]
theorem pop_getD {α:Type} (g:Bool×Nat→α) (o:Stk) (j:Nat) (z:α) (h:j<o.length-1):((pop o).map g).getD j z=(o.map g).getD j z:=by
 simp only [pop,List.getD_eq_getElem?_getD,List.getElem?_map,List.getElem?_take,if_pos h]
end Go.Pl
namespace Go.Pl
theorem kd_top {o:Stk} (h:0<o.length):(o.map kdO).getD (o.length-1) 0=kdO (tp o):=by
 simp [tp,List.getD,show o.length-1<o.length by omega]
theorem mn_top {o:Stk}:(o.map mnO).getD (o.length-1) 0=((tp o).2:Nat):=zpe mnO o (o.length-1) (false,0)
theorem kdO_4 {p:Bool×Nat}:kdO p=4↔p.1=true:=by
 unfold kdO;split<;>simp_all
theorem zkb {o:Stk} (h:o.length=0∨(kdO (tp o)=4∧(tp o).2 % 2≠0)):ndEnds o=false:=by
 unfold ndEnds
 rcases h with h | h
 ·simp [List.length_eq_zero_iff.1 h]
 ·rw [kdO_4] at h;simp [h.1];omega
theorem zqx {o:Stk} (h:0<o.length∧(kdO (tp o)≠4∨(tp o).2 % 2=0)):ndEnds o=true:=by
 unfold ndEnds
 have h1:o≠[]:=List.length_pos_iff.1 h.1
 rcases h.2 with h2 | h2
 ·rw [ne_eq,kdO_4] at h2;simp [h1,h2]
 ·simp [h1,h2]
theorem zxf {α:Type} {g:Bool×Nat→α} {o:Stk} {j:Nat} (z:α) (h:j<(pop o).length):((pop o).map g).getD j z=(o.map g).getD j z:=pop_getD g o j z (by rw [uf] at h;exact h)
end Go.Pl
namespace Go.Pl
theorem zar {d:Int} {o:Stk}:(kf d o).2.2.length=o.length:=by
 unfold kf;split
 ·rename_i h;simp [h]
 ·exact zdh
end Go.Pl
namespace Go.Pl
theorem zfb {l:List Ev} (h:l.length<2∨(l.getD 0 evz).kind≠1∨zaw (l.getD 0 evz)=false):yf l=false:=by
 match l with
 | []=>rfl
 | [e]=>simp [yf,zaq]
 | e::f::r=>
  simp only [List.getD_cons_zero,List.length_cons] at h
  unfold yf
  rcases h with h | h | h
  ·omega
  ·simp [h]
  ·simp [h]
theorem zqw {l:List Ev} (h:2≤l.length∧(l.getD 0 evz).kind=1∧zaw (l.getD 0 evz)=true):yf l=zaq (l.drop 1) 0 []:=by
 match l with
 | []=>simp at h
 | e::r=>
  simp only [List.getD_cons_zero] at h
  simp [yf,h.2.1,h.2.2]
end Go.Pl
namespace Go.Pl
theorem zpj {α:Type} (l:List α) (j:Nat) (z:α) (h:j<l.length):l.drop j=l.getD j z::l.drop (j+1):=by
 rw [List.drop_eq_getElem_cons h]
 simp [List.getD,h]
theorem zy9 {α:Type} (l:List α) (n j:Nat) (z:α):(l.drop n).getD j z=l.getD (n+j) z:=by
 simp only [List.getD_eq_getElem?_getD,List.getElem?_drop]
theorem zoz {α:Type} (l:List α) (n:Nat) (h:n≤l.length):(l.drop n).isEmpty=decide ((n:Int)=l.length):=by
 rw [Bool.eq_iff_iff];simp;omega
theorem ndEv_len {d:Int} {o:Stk} {k:Int}:(vw d o k).2.2.length≤o.length+1:=by
 unfold vw
 repeat' split
 all_goals simp only [zar,List.length_append,List.length_singleton,uf]<;>omega
end Go.Pl
namespace Go.Pl
def bnd (o:Stk) (n:Nat):Prop:=∀ j,(o.getD j (false,0)).2≤n
theorem zz2 {n:Nat}:bnd [] n:=fun j=>by simp
theorem zei {o:Stk} {n m:Nat} (h:bnd o n) (hm:n≤m):bnd o m:=fun j=>Nat.le_trans (h j) hm
theorem bnd_tp {o:Stk} {n:Nat} (h:bnd o n):(tp o).2≤n:=h _
theorem bnd_incr {o:Stk} {n:Nat} (h:bnd o n):bnd (zeo o) (n+1):=fun j=>by
 by_cases h0:o.length=0
 ·rw [List.length_eq_zero_iff.1 h0];simp [zeo]
 ·unfold zeo
  rw [zh9 _ _ _ _ _ (by omega)]
  split
  ·have:=bnd_tp h;simp only;omega
  ·exact Nat.le_succ_of_le (h j)
theorem bnd_pop {o:Stk} {n:Nat} (h:bnd o n):bnd (pop o) n:=fun j=>by
 unfold pop
 simp only [List.getD_eq_getElem?_getD,List.getElem?_take]
 split
 ·have:=h j;simpa [List.getD_eq_getElem?_getD] using this
 ·simp
theorem bnd_push {o:Stk} {n:Nat} {b:Bool} (h:bnd o n):bnd (o++[(b,0)]) n:=fun j=>by
 simp only [List.getD_eq_getElem?_getD,List.getElem?_append]
 split
 ·have:=h j;simpa [List.getD_eq_getElem?_getD] using this
 ·rw [List.getElem?_singleton];split<;>simp
theorem zt0 {d:Int} {o:Stk} {n:Nat} (h:bnd o n):bnd (kf d o).2.2 (n+1):=by
 unfold kf;split
 ·exact zz2
 ·exact bnd_incr h
theorem ndEv_bnd {d:Int} {o:Stk} {k:Int} {n:Nat} (h:bnd o n):bnd (vw d o k).2.2 (n+1):=by
 unfold vw
 repeat' split
 ·exact zei h (Nat.le_succ _)
 ·exact zt0 h
 ·exact bnd_push (zt0 h)
 ·exact zei (bnd_pop h) (Nat.le_succ _)
 ·exact zei h (Nat.le_succ _)
 ·exact zei h (Nat.le_succ _)
 ·exact zei h (Nat.le_succ _)
end Go.Pl
namespace Go.Pl
end Go.Pl
namespace Go.Pl
end Go.Pl
end
section
set_option linter.unusedVariables false
set_option linter.unusedSimpArgs false
set_option linter.unusedSectionVars false
set_option linter.unnecessarySimpa false
namespace Go.Pl
def isColl (k:Int):Bool:=decide (k=3)||decide (k=4)
def isNode (k:Int):Bool:=isColl k||decide (k=5)||decide (k=6)
/-- What is open before a place: the places of the collections around it,the innermost last. -/
def stk (l:List Ev):Nat→List Nat
 | 0=>[]
 | k+1=>if isColl (l.getD k evz).kind then stk l k++[k] else if (l.getD k evz).kind=7 then (stk l k).take ((stk l k).length-1) else stk l k
def zen (s:List Nat):Int:=if s.length=0 then -1 else s.getD (s.length-1) 0
def docF (l:List Ev):Nat→Nat
 | 0=>0
 | k+1=>if (l.getD k evz).kind=2 then k else docF l k
def endF (l:List Ev):Nat→Nat→Int
 | 0,_=>0
 | k+1,j=>if j=k then (if isNode (l.getD k evz).kind&&!isColl (l.getD k evz).kind then (k:Int) else -1) else if (l.getD k evz).kind=7∧zen (stk l k)=j then (k:Int) else endF l k j
def mkR (n:Nat) (f:Nat→Int):List Int:=(List.range n).map f
def zvg (l:List Ev):List Int:=mkR l.length (endF l l.length)
def upL (l:List Ev):List Int:=mkR l.length fun j=>zen (stk l j)
def zzs (l:List Ev):List Int:=mkR l.length fun j=>(docF l (j+1):Nat)
theorem ug {n:Nat} {f:Nat→Int}:(mkR n f).length=n:=by simp [mkR]
theorem zo {n:Nat} {f:Nat→Int} {j:Nat} (h:j<n):(mkR n f).getD j 0=f j:=by simp [mkR,List.getD,h]
end Go.Pl
namespace Go.Pl
theorem zu8 {o:Stk} (h:ndEnds o=true):0<o.length:=by
 unfold ndEnds at h
 simp at h
 exact List.length_pos_iff.2 h.1
theorem ztc {d:Int} {o:Stk} {s:List Nat} {k:Int} {i:Nat} (h:(vw d o k).1=true) (hl:o.length=s.length) :
  (vw d o k).2.2.length=(if isColl k then s++[i] else if k=7 then s.take (s.length-1) else s).length:=by
 unfold vw at h ⊢
 unfold isColl
 by_cases h2:k=2
 ·simp [h2,hl]
 by_cases h5:k=5∨k=6
 ·rw [if_neg h2,if_pos h5,if_neg (by simp;omega),if_neg (by omega),zar,hl]
 by_cases h3:k=3∨k=4
 ·rw [if_neg h2,if_neg h5,if_pos h3,if_pos (by simp;omega)];simp [zar,hl]
 have hc:(decide (k=3)||decide (k=4))=false:=by simp;omega
 simp only [h2,h5,h3,hc,if_false,Bool.false_eq_true] at h ⊢
 by_cases h7:k=7
 ·simp only [h7,if_true] at h ⊢
  cases he:ndEnds o with
  | true=>simp [uf,hl]
  | false=>rw [he] at h;simp at h
 ·simp only [h7,if_false] at h ⊢
  by_cases h8:k=8
  ·simp only [h8,if_true];exact hl
  ·simp only [h8,if_false] at h;cases h
theorem zwt {l:List Ev}:∀ (n k:Nat) (d:Int) (o:Stk),l.length-k≤n→zaq (l.drop k) d o=true→o.length=(stk l k).length→∀ m,k≤m→m<l.length→(l.getD m evz).kind=7→0<(stk l m).length
 | 0,k,d,o,hn,hr,hl,m,h1,h2,h3=>by omega
 | n+1,k,d,o,hn,hr,hl,m,h1,h2,h3=>by
  rw [zpj l k evz (by omega)] at hr
  simp only [zaq,Bool.and_eq_true] at hr
  obtain ⟨_,hr⟩:=hr
  by_cases h10:(l.getD k evz).kind=10
  ·rw [if_pos h10] at hr
   have:l.length≤k+1:=by simpa using hr
   obtain rfl:m=k:=by omega
   rw [h10] at h3;cases h3
  rw [if_neg h10] at hr
  by_cases h9:(l.getD k evz).kind=9
  ·rw [if_pos h9] at hr
   simp only [Bool.and_eq_true] at hr
   have:l.length≤k+1:=by simpa using hr.1
   obtain rfl:m=k:=by omega
   rw [h9] at h3;cases h3
  rw [if_neg h9] at hr
  simp only [Bool.and_eq_true] at hr
  by_cases hm:m=k
  ·subst hm
   have:=hr.1
   rw [h3] at this
   simp only [vw,Int.reduceEq,if_false,or_self,if_true] at this
   split at this
   ·rename_i he;have:=zu8 he;omega
   ·cases this
  ·exact zwt n (k+1) _ _ (by omega) hr.2 (ztc hr.1 hl) m (by omega) h2 h3
theorem zka {l:List Ev} (h:yf l=true) {m:Nat} (h2:m<l.length) (h3:(l.getD m evz).kind=7):0<(stk l m).length:=by
 match l,h with
 | e::r,h=>
  simp only [yf,Bool.and_eq_true,decide_eq_true_eq] at h
  have h1:1≤m:=by
   rcases Nat.eq_zero_or_pos m with h0 | h0
   ·subst h0;simp only [List.getD_cons_zero] at h3;omega
   ·exact h0
  exact zwt (l:=e::r) _ 1 0 [] (Nat.le_refl _) h.2 (by simp [stk,isColl,h.1.2]) m h1 h2 h3
theorem zjw {l:List Ev}:∀ (k j:Nat),j<(stk l k).length→(stk l k).getD j 0<k
 | 0,j,h=>by simp [stk] at h
 | k+1,j,h=>by
  simp only [stk] at h ⊢
  split at h
  ·rename_i hc
   rw [if_pos hc]
   simp only [List.length_append,List.length_singleton] at h
   by_cases hj:j<(stk l k).length
   ·have:=zjw k j hj
    simp only [List.getD_eq_getElem?_getD,List.getElem?_append_left hj] at this ⊢
    omega
   ·have:j=(stk l k).length:=by omega
    subst this;simp
  ·rename_i hc
   rw [if_neg hc]
   split at h
   ·rename_i h7
    rw [if_pos h7]
    simp only [List.length_take] at h
    have:=zjw (l:=l) k j (by omega)
    simp only [List.getD_eq_getElem?_getD,List.getElem?_take,if_pos (show j<(stk l k).length-1 by omega)] at this ⊢
    omega
   ·rename_i h7
    rw [if_neg h7]
    have:=zjw k j h
    omega
end Go.Pl
namespace Go.Pl
theorem zcl {s:List Nat} (h:0<s.length):zen s=s.getD (s.length-1) 0:=by unfold zen;rw [if_neg (by omega)]
theorem zr6 {s:List Nat} (h:¬0<s.length):zen s = -1:=by unfold zen;rw [if_pos (by omega)]
end Go.Pl
namespace Go.Pl
theorem zwp {l:List Ev}:∀ (k:Nat),(stk l k).length≤k
 | 0=>by simp [stk]
 | k+1=>by
  have:=zwp (l:=l) k
  simp only [stk]
  split
  ·simp;omega
  ·split
   ·simp;omega
   ·omega
end Go.Pl
namespace Go.Pl
theorem take_row {α β:Type} {g:α→β} {s:List α} {m j:Nat} (z:β) (h:j<(s.take m).length):((s.take m).map g).getD j z=(s.map g).getD j z:=by
 have h':j<m:=by simp at h;omega
 simp only [List.getD_eq_getElem?_getD,List.getElem?_map,List.getElem?_take,if_pos h']
theorem pop_ends {K:Int} {t:Int} {i j:Nat} {e:Int} {A:Int→Go.Vg.SV} (hK:K=7) (h0:0≤t) (h1:t<i) :
  (if j=t.toNat then (if j=i then [A (-1)] else [A e]).set 0 (A i) else if j=i then [A (-1)] else [A e])=[A (if j=i then (if (isNode K&&!isColl K)=true then (i:Int) else -1) else if K=7∧t=j then (i:Int) else e)]:=by
 subst hK
 have hn7:(isNode 7&&!isColl 7)=false:=by decide
 rw [hn7]
 by_cases hji:j=i
 ·rw [if_neg (by omega),if_pos hji,if_pos hji];rfl
 ·by_cases ht:t=j
  ·rw [if_pos (by omega),if_neg hji,if_neg hji,if_pos ⟨rfl,ht⟩];rfl
  ·rw [if_neg (by omega),if_neg hji,if_neg hji,if_neg (fun h=>ht h.2)]
theorem zqe {s:Nat→List Nat} {i j:Nat} {A:Int→Go.Vg.SV} (h:¬0<(s i).length):(if j=i then [A (-1)] else [A (if j<i then zen (s j) else 0)])=[A (if j<i+1 then zen (s j) else 0)]:=by
 by_cases hji:j=i
 ·subst hji;rw [if_pos rfl,if_pos (by omega),zr6 h]
 ·rw [if_neg hji]
  by_cases hlt:j<i
  ·rw [if_pos hlt,if_pos (by omega)]
  ·rw [if_neg hlt,if_neg (by omega)]
end Go.Pl
namespace Go.Pl
theorem zlg {s:Nat→List Nat} {i j:Nat} {A:Int→Go.Vg.SV} {G e:Int} (h:G=zen (s i)):(if j=i then (if j=i then [A (-1)] else [A e]).set 0 (A G) else if j=i then [A (-1)] else [A (if j<i then zen (s j) else 0)])=[A (if j<i+1 then zen (s j) else 0)]:=by
 by_cases hji:j=i
 ·subst hji;rw [if_pos rfl,if_pos rfl,if_pos (by omega),h];rfl
 ·rw [if_neg hji,if_neg hji]
  by_cases hlt:j<i
  ·rw [if_pos hlt,if_pos (by omega)]
  ·rw [if_neg hlt,if_neg (by omega)]
end Go.Pl
namespace Go.Pl
theorem zxc {K:Int} {t:Int} {i j:Nat} {e:Int} {A:Int→Go.Vg.SV} (hK:isColl K=true) :
  (if j=i then [A (-1)] else [A e])=[A (if j=i then (if (isNode K&&!isColl K)=true then (i:Int) else -1) else if K=7∧t=j then (i:Int) else e)]:=by
 have h7:K≠7:=by rintro rfl;exact absurd hK (by decide)
 rw [hK]
 by_cases hji:j=i
 ·rw [if_pos hji,if_pos hji,if_neg (by simp)]
 ·rw [if_neg hji,if_neg hji,if_neg (fun h=>h7 h.1)]
end Go.Pl
namespace Go.Pl
def upB (l:List Ev):Nat→Nat→Int
 | 0,_ => -1
 | k+1,c=>if (l.getD k evz).kind=7 then upB l k (c+1) else if isColl (l.getD k evz).kind then (if c=0 then (k:Int) else upB l k (c-1)) else upB l k c
theorem zwa {l:List Ev}:∀ (k c:Nat),(∀ m,m<k→(l.getD m evz).kind=7→0<(stk l m).length)→upB l k c=if c<(stk l k).length then (((stk l k).getD ((stk l k).length-1-c) 0:Nat):Int) else -1
 | 0,c,_=>by simp [upB,stk]
 | k+1,c,h=>by
  have ih:=fun c=>zwa (l:=l) k c (fun m hm=>h m (by omega))
  simp only [upB]
  by_cases h7:(l.getD k evz).kind=7
  ·have hp:=h k (by omega) h7
   have hc:¬isColl (l.getD k evz).kind=true:=by rw [h7];decide
   have hs:stk l (k+1)=(stk l k).take ((stk l k).length-1):=by simp only [stk];rw [if_neg hc,if_pos h7]
   rw [if_pos h7,ih,hs,List.length_take]
   by_cases hlt:c+1<(stk l k).length
   ·rw [if_pos hlt,if_pos (by omega)]
    have e1:min ((stk l k).length-1) (stk l k).length-1-c=(stk l k).length-1-(c+1):=by omega
    rw [e1]
    simp only [List.getD_eq_getElem?_getD,List.getElem?_take,if_pos (show (stk l k).length-1-(c+1)<(stk l k).length-1 by omega)]
   ·rw [if_neg hlt,if_neg (by omega)]
  ·rw [if_neg h7]
   by_cases hc:isColl (l.getD k evz).kind=true
   ·have hs:stk l (k+1)=stk l k++[k]:=by simp only [stk];rw [if_pos hc]
    rw [if_pos hc,hs,List.length_append,List.length_singleton]
    by_cases h0:c=0
    ·subst h0;rw [if_pos rfl,if_pos (by omega)];simp
    ·rw [if_neg h0,ih]
     by_cases hlt:c-1<(stk l k).length
     ·rw [if_pos hlt,if_pos (by omega)]
      have e1:(stk l k).length+1-1-c=(stk l k).length-1-(c-1):=by omega
      rw [e1]
      simp only [List.getD_eq_getElem?_getD,List.getElem?_append_left (show (stk l k).length-1-(c-1)<(stk l k).length by omega)]
     ·rw [if_neg hlt,if_neg (by omega)]
   ·have hs:stk l (k+1)=stk l k:=by simp only [stk];rw [if_neg hc,if_neg h7]
    rw [if_neg hc,hs]
    exact ih c
theorem zqi {l:List Ev} (hn:yf l=true) {k:Nat} (hk:k≤l.length):zen (stk l k)=upB l k 0:=by
 rw [zwa k 0 (fun m hm h7=>zka hn (by omega) h7)]
 unfold zen
 by_cases h:(stk l k).length=0
 ·rw [if_pos h,if_neg (by omega)]
 ·rw [if_neg h,if_pos (by omega)];simp
end Go.Pl
end
section
set_option linter.unusedVariables false
set_option linter.unusedSimpArgs false
set_option linter.unusedSectionVars false
set_option linter.unnecessarySimpa false
namespace Go.Pl
def cnE (k:Int) (c:Nat):Nat:=if isColl k then c+1 else if k=7 then c-1 else c
def scB (l:List Ev) (k c:Nat):Int:=if h:k<l.length then (if cnE (l.getD k evz).kind c=0 then (k:Int) else scB l (k+1) (cnE (l.getD k evz).kind c)) else -1
termination_by l.length-k
theorem znl {l:List Ev} {k c:Nat} (h:k<l.length):scB l k c=if cnE (l.getD k evz).kind c=0 then (k:Int) else scB l (k+1) (cnE (l.getD k evz).kind c):=by rw [scB,dif_pos h]
theorem scB_ge {l:List Ev} {k c:Nat} (h:¬k<l.length):scB l k c = -1:=by rw [scB,dif_neg h]
theorem kh {l:List Ev} {k:Nat} (h:isColl (l.getD k evz).kind=true):stk l (k+1)=stk l k++[k]:=by simp only [stk];rw [if_pos h]
theorem xm {l:List Ev} {k:Nat} (h:(l.getD k evz).kind=7):stk l (k+1)=(stk l k).take ((stk l k).length-1):=by
 simp only [stk];rw [if_neg (by rw [h];decide),if_pos h]
theorem va {l:List Ev} {k:Nat} (h:¬isColl (l.getD k evz).kind=true) (h7:(l.getD k evz).kind≠7):stk l (k+1)=stk l k:=by
 simp only [stk];rw [if_neg h,if_neg h7]
theorem wm {l:List Ev} {k i:Nat} (h:i∈stk l k):i<k:=by
 obtain ⟨j,hj,rfl⟩:=List.mem_iff_getElem.1 h
 have:=zjw (l:=l) k j hj
 simpa [List.getD,hj] using this
/-- What has left the stack does not come back,and its end stays. -/
theorem zcc {l:List Ev} {i m:Nat} (him:i<m) (hi:i ∉ stk l m):∀ n,i ∉ stk l (m+n)∧endF l (m+n) i=endF l m i
 | 0=>⟨hi,rfl⟩
 | n+1=>by
  obtain ⟨h1,h2⟩:=zcc him hi n
  have hne:i≠m+n:=by omega
  refine ⟨?_, ?_⟩
  ·show i ∉ stk l (m+n+1)
   by_cases hc:isColl (l.getD (m+n) evz).kind=true
   ·rw [kh hc];simp [h1,hne]
   ·by_cases h7:(l.getD (m+n) evz).kind=7
    ·rw [xm h7];exact fun h=>h1 (List.mem_of_mem_take h)
    ·rw [va hc h7];exact h1
  ·show endF l (m+n+1) i=endF l m i
   simp only [endF]
   rw [if_neg hne,if_neg,h2]
   rintro ⟨_,ht⟩
   apply h1
   unfold zen at ht
   split at ht
   ·omega
   ·rename_i h0
    have:(stk l (m+n)).getD ((stk l (m+n)).length-1) 0=i:=by omega
    rw [←this]
    rw [List.getD_eq_getElem?_getD,List.getElem?_eq_getElem (by omega)]
    exact List.getElem_mem _
theorem zay {l:List Ev}:∀ (k p q:Nat),p<q→q<(stk l k).length→(stk l k).getD p 0<(stk l k).getD q 0
 | 0,p,q,_,h=>by simp [stk] at h
 | k+1,p,q,hpq,h=>by
  by_cases hc:isColl (l.getD k evz).kind=true
  ·rw [kh hc] at h ⊢
   simp only [List.length_append,List.length_singleton] at h
   by_cases hq:q<(stk l k).length
   ·have:=zay (l:=l) k p q hpq hq
    simp only [List.getD_eq_getElem?_getD,List.getElem?_append_left hq,List.getElem?_append_left (show p<(stk l k).length by omega)] at this ⊢
    exact this
   ·have hql:q=(stk l k).length:=by omega
    subst hql
    have:=zjw (l:=l) k p (by omega)
    simp only [List.getD_eq_getElem?_getD,List.getElem?_append_left (show p<(stk l k).length by omega)] at this ⊢
    simpa using this
  ·by_cases h7:(l.getD k evz).kind=7
   ·rw [xm h7] at h ⊢
    simp only [List.length_take] at h
    have:=zay (l:=l) k p q hpq (by omega)
    simp only [List.getD_eq_getElem?_getD,List.getElem?_take,if_pos (show p<(stk l k).length-1 by omega),if_pos (show q<(stk l k).length-1 by omega)] at this ⊢
    exact this
   ·rw [va hc h7] at h ⊢
    exact zay k p q hpq h
end Go.Pl
namespace Go.Pl
theorem zed {l:List Ev} {i m:Nat} (him:i<m) (hi:i ∉ stk l m) (hm:m≤l.length):endF l l.length i=endF l m i:=by
 have:=(zcc him hi (l.length-m)).2
 rwa [show m+(l.length-m)=l.length by omega] at this
theorem zd1 {l:List Ev} (hn:yf l=true):∀ (n k i p:Nat),l.length-k≤n→k≤l.length→i<k→p<(stk l k).length→(stk l k).getD p 0=i→endF l k i = -1→scB l k ((stk l k).length-p)=endF l l.length i
 | n,k,i,p,hf,hk,hik,hp,hpi,he=>by
  by_cases hlt:k<l.length
  ·have hn1:l.length-(k+1)<l.length-k:=by omega
   rw [znl hlt]
   have hne:i≠k:=by omega
   by_cases hc:isColl (l.getD k evz).kind=true
   ·have h7:(l.getD k evz).kind≠7:=fun h=>by rw [h] at hc;cases hc
    have hcn:cnE (l.getD k evz).kind ((stk l k).length-p)=(stk l (k+1)).length-p:=by
     unfold cnE;rw [if_pos hc,kh hc];simp;omega
    rw [hcn,if_neg (by rw [kh hc];simp;omega)]
    refine zd1 hn (n-1) (k+1) i p (by omega) (by omega) (by omega) (by rw [kh hc];simp;omega) ?_ ?_
    ·rw [kh hc]
     simp only [List.getD_eq_getElem?_getD,List.getElem?_append_left hp] at hpi ⊢
     exact hpi
    ·simp only [endF];rw [if_neg hne,if_neg (fun h=>h7 h.1)];exact he
   ·by_cases h7:(l.getD k evz).kind=7
    ·have hcn:cnE (l.getD k evz).kind ((stk l k).length-p)=(stk l k).length-p-1:=by
      unfold cnE;rw [if_neg hc,if_pos h7]
     rw [hcn]
     by_cases hp1:p+1=(stk l k).length
     ·have hpt:p=(stk l k).length-1:=by omega
      rw [if_pos (by omega)]
      have htop:zen (stk l k)=i:=by rw [zcl (by omega),←hpt,hpi]
      have he1:endF l (k+1) i=k:=by simp only [endF];rw [if_neg hne,if_pos ⟨h7,htop⟩]
      rw [←he1]
      refine (zed (by omega) ?_ (by omega)).symm
      rw [xm h7]
      intro hm
      obtain ⟨j,hj,hji⟩:=List.mem_iff_getElem.1 hm
      simp only [List.length_take] at hj
      have:=zay (l:=l) k j p (by omega) hp
      rw [hpi] at this
      simp only [List.getElem_take] at hji
      rw [List.getD_eq_getElem?_getD,List.getElem?_eq_getElem (by omega)] at this
      simp only [Option.getD_some,hji] at this
      omega
     ·rw [if_neg (by omega)]
      have hD:(stk l k).length-p-1=(stk l (k+1)).length-p:=by rw [xm h7];simp;omega
      rw [hD]
      refine zd1 hn (n-1) (k+1) i p (by omega) (by omega) (by omega) (by rw [xm h7];simp;omega) ?_ ?_
      ·rw [xm h7]
       simp only [List.getD_eq_getElem?_getD,List.getElem?_take,if_pos (show p<(stk l k).length-1 by omega)] at hpi ⊢
       exact hpi
      ·simp only [endF]
       rw [if_neg hne,if_neg]
       ·exact he
       ·rintro ⟨_,ht⟩
        have:=zay (l:=l) k p ((stk l k).length-1) (by omega) (by omega)
        rw [zcl (by omega)] at ht
        omega
    ·have hcn:cnE (l.getD k evz).kind ((stk l k).length-p)=(stk l (k+1)).length-p:=by
      unfold cnE;rw [if_neg hc,if_neg h7,va hc h7]
     rw [hcn,if_neg (by rw [va hc h7];omega)]
     refine zd1 hn (n-1) (k+1) i p (by omega) (by omega) (by omega) (by rw [va hc h7];exact hp) (by rw [va hc h7];exact hpi) ?_
     simp only [endF];rw [if_neg hne,if_neg (fun h=>h7 h.1)];exact he
  ·rw [scB_ge hlt,←he,show l.length=k by omega]
termination_by _ k=>l.length-k
theorem zec {l:List Ev} (hn:yf l=true) {i:Nat} (hi:i<l.length):endF l l.length i=if isNode (l.getD i evz).kind then scB l i 0 else -1:=by
 have hlast:∀ s:List Nat,(∀ j∈s,j<i)→i ∉ s:=fun s h hm=>Nat.lt_irrefl _ (h i hm)
 by_cases hc:isColl (l.getD i evz).kind=true
 ·have hnode:isNode (l.getD i evz).kind=true:=by unfold isNode;rw [hc];rfl
  rw [if_pos hnode,znl hi]
  have hcn:cnE (l.getD i evz).kind 0=1:=by unfold cnE;rw [if_pos hc]
  rw [hcn,if_neg (by omega)]
  have h1:(stk l (i+1)).length-(stk l i).length=1:=by rw [kh hc];simp
  have:=zd1 hn _ (i+1) i (stk l i).length (Nat.le_refl _) (by omega) (by omega) (by rw [kh hc];simp) (by rw [kh hc];simp) (by simp only [endF,if_true];rw [hc];simp)
  rw [h1] at this
  exact this.symm
 ·have hni:i ∉ stk l (i+1):=by
   intro hm
   by_cases h7:(l.getD i evz).kind=7
   ·rw [xm h7] at hm;exact Nat.lt_irrefl _ (wm (List.mem_of_mem_take hm))
   ·rw [va hc h7] at hm;exact Nat.lt_irrefl _ (wm hm)
  rw [zed (by omega) hni (by omega)]
  simp only [endF,if_true]
  have hcf:isColl (l.getD i evz).kind=false:=by simpa using hc
  rw [hcf]
  by_cases hnode:isNode (l.getD i evz).kind=true
  ·rw [if_pos hnode,if_pos (by rw [hnode];rfl),znl hi]
   have h7:(l.getD i evz).kind≠7:=fun h=>by rw [h] at hnode;cases hnode
   rw [if_pos (by unfold cnE;rw [if_neg hc,if_neg h7])]
  ·rw [if_neg hnode,if_neg (fun h=>hnode (by simpa using h))]
end Go.Pl
end
section
set_option linter.unusedVariables false
set_option linter.unusedSimpArgs false
set_option linter.unusedSectionVars false
set_option linter.unnecessarySimpa false
namespace Go.Pl
theorem ztb:∀ (l:List Ev) (d:Int) (o:Stk),zaq l d o=true→∀ i,i<l.length→zaw (l.getD i evz)=true
 | [],_,_,_,i,h=>by simp at h
 | e::r,d,o,h,i,hi=>by
  simp only [zaq,Bool.and_eq_true] at h
  obtain ⟨h1,h2⟩:=h
  cases i with
  | zero=>exact h1
  | succ i=>
   split at h2
   ·rw [List.isEmpty_iff.1 h2] at hi;simp at hi
   ·split at h2
    ·simp only [Bool.and_eq_true] at h2;rw [List.isEmpty_iff.1 h2.1] at hi;simp at hi
    ·simp only [Bool.and_eq_true] at h2
     have:=ztb r _ _ h2.2 i (by simp at hi;omega)
     simpa using this
theorem zhv {l:List Ev} (hn:yf l=true) {i:Nat} (hi:i<l.length):zaw (l.getD i evz)=true:=by
 match l,hn with
 | e::r,hn=>
  simp only [yf,Bool.and_eq_true] at hn
  cases i with
  | zero=>exact hn.1.1
  | succ i=>
   have:=ztb r _ _ hn.2 i (by simp at hi;omega)
   simpa using this
theorem zj9 {l:List Ev} (hn:yf l=true):2≤l.length:=by
 rcases Nat.lt_or_ge l.length 2 with h | h
 ·rw [zfb (.inl h)] at hn;cases hn
 ·exact h
theorem zb5 {l:List Ev} (hn:yf l=true):(l.getD 0 evz).kind=1:=by
 by_cases h:(l.getD 0 evz).kind=1
 ·exact h
 ·rw [zfb (.inr (.inl h))] at hn;cases hn
/-- What the alias at i is,looked for below k. -/
def defS (l:List Ev) (i:Nat):Nat→Int
 | 0 => -1
 | k+1=>if (l.getD k evz).kind=2 then -1 else if isNode (l.getD k evz).kind=true∧(l.getD k evz).anchor≠[]∧(l.getD k evz).anchor=(l.getD i evz).text then (if scB l k 0<0∨scB l k 0>i then -1 else (k:Int)) else defS l i k
theorem endL_get {l:List Ev} (hn:yf l=true) {k:Nat} (hk:k<l.length):(zvg l).getD k 0=if isNode (l.getD k evz).kind then scB l k 0 else -1:=by
 unfold zvg
 rw [zo hk,zec hn hk]
/-- The roots of documents. -/
def zkk (l:List Ev) (i:Nat):Bool:=decide (0<i)&&decide ((l.getD (i-1) evz).kind=2)&&isNode (l.getD i evz).kind
def jn (l:List Ev):Nat→List Int
 | 0=>[]
 | i+1=>if zkk l i then jn l i++[(i:Int)] else jn l i
theorem za0 {l:List Ev}:∀ n,(jn l n).length≤n
 | 0=>Nat.le_refl _
 | n+1=>by
  simp only [jn]
  split
  ·have:=za0 (l:=l) n;simp;omega
  ·have:=za0 (l:=l) n;omega
end Go.Pl
namespace Go.Pl
theorem zai {l:List Ev}:∀ (n k c:Nat),l.length-k≤n→0≤scB l k c→(k:Int)≤scB l k c∧scB l k c<l.length
 | n,k,c,hn,h=>by
  by_cases hk:k<l.length
  ·rw [znl hk] at h ⊢
   split
   ·omega
   ·rename_i h0
    rw [if_neg h0] at h
    match n,hn with
    | n+1,hn=>have:=zai n (k+1) _ (by omega) h;omega
    | 0,hn=>omega
  ·rw [scB_ge hk] at h;omega
/-- The nodes from k on,as far as they stand one behind the other. -/
def zd7 (l:List Ev) (k:Nat):List Int:=
 if h:k<l.length∧isNode (l.getD k evz).kind=true then (k:Int)::(if h2:scB l k 0<0 then [] else zd7 l ((scB l k 0).toNat+1)) else []
termination_by l.length-k
decreasing_by
 have:=zai (l:=l) (l.length-k) k 0 (Nat.le_refl _) (by omega)
 omega
theorem zmh {l:List Ev} {k:Nat} (h:¬(k<l.length∧isNode (l.getD k evz).kind=true)):zd7 l k=[]:=by rw [zd7,dif_neg h]
theorem zcv {l:List Ev} {k:Nat} (h:k<l.length∧isNode (l.getD k evz).kind=true) (h2:scB l k 0<0):zd7 l k=[(k:Int)]:=by rw [zd7,dif_pos h,dif_pos h2]
theorem zcu {l:List Ev} {k:Nat} (h:k<l.length∧isNode (l.getD k evz).kind=true) (h2:¬scB l k 0<0):zd7 l k=(k:Int)::zd7 l ((scB l k 0).toNat+1):=by rw [zd7,dif_pos h,dif_neg h2]
def zat (l:List Ev) (i:Nat):List Int:=if isColl (l.getD i evz).kind then zd7 l (i+1) else []
theorem zot {l:List Ev}:∀ (n k:Nat),l.length-k≤n→(zd7 l k).length≤l.length-k
 | n,k,hn=>by
  by_cases h:k<l.length∧isNode (l.getD k evz).kind=true
  ·by_cases h2:scB l k 0<0
   ·rw [zcv h h2];simp;omega
   ·rw [zcu h h2]
    have hr:=zai (l:=l) (l.length-k) k 0 (Nat.le_refl _) (by omega)
    match n,hn with
    | n+1,hn=>have:=zot (l:=l) n ((scB l k 0).toNat+1) (by omega);simp;omega
    | 0,hn=>omega
  ·rw [zmh h];exact Nat.zero_le _
end Go.Pl
namespace Go.Pl
open Go.Pl
end Go.Pl
namespace Go.Pl
def zbk (l:List Ev) (i:Nat):List Int:=if yf l=true then jn l i else []
theorem zus {l:List Ev} (n:Nat):(zbk l n).length≤n:=by
 unfold zbk
 split
 ·exact za0 n
 ·exact Nat.zero_le _
end Go.Pl
namespace Go.Pl
theorem zw3 {l:List Ev} (h:¬yf l=true) (n:Nat):zbk l n=[]:=by unfold zbk;rw [if_neg h]
theorem zur {l:List Ev} (h:yf l=true) (n:Nat):zbk l n=jn l n:=by unfold zbk;rw [if_pos h]
end Go.Pl
namespace Go.Pl
end Go.Pl
end
section
set_option linter.unusedVariables false
set_option linter.unusedSimpArgs false
set_option linter.unusedSectionVars false
set_option linter.unnecessarySimpa false
namespace Go.Pl
/-- The last place below i,in the same document,whose anchor is t. -/
def xu (l:List Ev) (t:Bs):Nat→Int
 | 0 => -1
 | i+1=>if (l.getD i evz).kind=2 then -1 else if (l.getD i evz).kind≠6∧(l.getD i evz).anchor≠[]∧(l.getD i evz).anchor=t then (i:Int) else xu l t i
theorem zdm {e:Ev} (h:zaw e=true) (ha:e.anchor≠[]):isNode e.kind=true∧e.kind≠6:=by
 by_cases h3:e.kind=3∨e.kind=4∨e.kind=5
 ·rcases h3 with h3 | h3 | h3<;>rw [h3]<;>exact ⟨rfl,by decide⟩
 ·simp [zaw,ha,h3] at h
theorem zki {l:List Ev} (hn:yf l=true) {t:Bs}:∀ i,i≤l.length→0≤xu l t i→isNode (l.getD (xu l t i).toNat evz).kind=true
 | 0,_,h=>by simp [xu] at h
 | i+1,hi,h=>by
  simp only [xu] at h ⊢
  split
  ·rename_i h1;rw [if_pos h1] at h;omega
  ·rename_i h1
   rw [if_neg h1] at h
   split
   ·rename_i h2
    exact (zdm (zhv hn (by omega)) h2.2.1).1
   ·rename_i h2
    rw [if_neg h2] at h
    exact zki hn i (by omega) h
theorem zpl {l:List Ev} (hn:yf l=true) {i:Nat} (hi:i<l.length):∀ k,k≤i→defS l i k=if xu l (l.getD i evz).text k<0 then -1 else if scB l (xu l (l.getD i evz).text k).toNat 0<0∨scB l (xu l (l.getD i evz).text k).toNat 0>i then -1 else xu l (l.getD i evz).text k
 | 0,_=>by simp [defS,xu]
 | k+1,hk=>by
  have hok:=zhv hn (show k<l.length by omega)
  simp only [defS]
  by_cases h2:(l.getD k evz).kind=2
  ·have e:xu l (l.getD i evz).text (k+1) = -1:=by simp only [xu];rw [if_pos h2]
   rw [if_pos h2,e,if_pos (by omega)]
  ·rw [if_neg h2]
   by_cases ha:(l.getD k evz).anchor≠[]∧(l.getD k evz).anchor=(l.getD i evz).text
   ·have hx:=zdm hok ha.1
    have e:xu l (l.getD i evz).text (k+1)=k:=by simp only [xu];rw [if_neg h2,if_pos ⟨hx.2,ha⟩]
    rw [if_pos ⟨hx.1,ha⟩,e,if_neg (show ¬((k:Nat):Int)<0 by omega),Int.toNat_natCast]
   ·have e:xu l (l.getD i evz).text (k+1)=xu l (l.getD i evz).text k:=by simp only [xu];rw [if_neg h2,if_neg (fun h=>ha h.2)]
    rw [if_neg (fun h=>ha h.2),e]
    exact zpl hn hi k (by omega)
/-- All aliases below n are of something. -/
def zr8 (l:List Ev):Nat→Bool
 | 0=>true
 | i+1=>zr8 l i&&!(decide ((l.getD i evz).kind=6)&&decide (defS l i i<0))
def tiedV (l:List Ev):Bool:=yf l&&zr8 l l.length
theorem zhx:∀ (l:List Ev) (d:Int) (o:Stk),zaq l d o=true→∀ i,i<l.length→(l.getD i evz).kind=10→i+1=l.length
 | [],_,_,_,i,h,_=>by simp at h
 | e::r,d,o,h,i,hi,h10=>by
  simp only [zaq,Bool.and_eq_true] at h
  obtain ⟨h1,h2⟩:=h
  cases i with
  | zero=>
   simp only [List.getD_cons_zero] at h10
   rw [if_pos h10] at h2
   rw [List.isEmpty_iff.1 h2];rfl
  | succ i=>
   simp only [List.getD_cons_succ] at h10
   split at h2
   ·rw [List.isEmpty_iff.1 h2] at hi;simp at hi
   ·split at h2
    ·simp only [Bool.and_eq_true] at h2;rw [List.isEmpty_iff.1 h2.1] at hi;simp at hi
    ·simp only [Bool.and_eq_true] at h2
     have:=zhx r _ _ h2.2 i (by simp at hi;omega) h10
     simp only [List.length_cons];omega
theorem zfz {l:List Ev} (hn:yf l=true) {i:Nat} (hi:i<l.length) (h10:(l.getD i evz).kind=10):i+1=l.length:=by
 match l,hn with
 | e::r,hn=>
  simp only [yf,Bool.and_eq_true,decide_eq_true_eq] at hn
  cases i with
  | zero=>simp only [List.getD_cons_zero] at h10;omega
  | succ i=>
   have:=zhx r _ _ hn.2 i (by simp at hi;omega) (by simpa using h10)
   simp only [List.length_cons];omega
def hasF (l:List Ev):Bool:=l.any fun e=>decide (e.kind=10)
theorem zpc {l:List Ev} (hn:yf l=true):hasF l=decide ((l.getD (l.length-1) evz).kind=10):=by
 have hl:=zj9 hn
 unfold hasF
 rw [Bool.eq_iff_iff,List.any_eq_true,decide_eq_true_eq]
 constructor
 ·rintro ⟨e,he,h⟩
  obtain ⟨j,hj,rfl⟩:=List.mem_iff_getElem.1 he
  rw [decide_eq_true_eq] at h
  have h2:(l.getD j evz).kind=10:=by simp [List.getD,hj,h]
  have:=zfz hn hj h2
  rw [show l.length-1=j by omega]
  exact h2
 ·intro h
  refine ⟨l.getD (l.length-1) evz,zmo (by omega),by rw [decide_eq_true_eq];exact h⟩
end Go.Pl
namespace Go.Pl
end Go.Pl
end
section
set_option linter.unusedVariables false
set_option linter.unusedSimpArgs false
set_option linter.unusedSectionVars false
set_option linter.unnecessarySimpa false
namespace Go.Pl
open Go.Vg (lookS zbh)
/-- What a reader has come to: place,events,which have ended,where the document begins,handles,depth,fault. -/
structure Rd where
 pos:Nat
 ev:List Ev
 dn:List Bool
 bs:Nat
 hd:List Hd
 dp:Nat
 cd:Int
 pl:Nat
/-- Properties: any,anchor,tag,the place behind them. -/
structure Pp where
 has:Bool
 an:Bs
 tg:Bs
 en:Nat
/-- The events since the document's beginning that bear an anchor. -/
def anI (l:List Ev) (b:Nat):List Nat:=(List.range l.length).filter fun i=>decide (b≤i)&&!decide ((l.getD i evz).anchor=[])
def nmI (l:List Ev) (b:Nat):List (Bs×Int):=(anI l b).foldl (fun m i=>zbh m (l.getD i evz).anchor (i:Int)) []
def nmS (l:List Ev) (d:List Bool) (b:Nat):List (Bs×Bool):=(anI l b).map fun i=>((l.getD i evz).anchor,d.getD i false)
/-- Whether the last node of a name has ended. -/
def alD (l:List Ev) (d:List Bool) (b:Nat) (name:Bs):Bool:=(nmS l d b).foldl (fun x p=>if p.1=name then p.2 else x) false
def flt (r:Rd) (c:Int) (p:Nat):Rd:={ r with cd:=c,pl:=p }
def zn (r:Rd) (e:Ev) (d:Bool):Rd:={ r with ev:=r.ev++[e],dn:=r.dn++[d] }
def evT (st:Int) (t a g:Bs):Ev:=⟨5,st,false,t,a,g,0,0⟩
def evA (t:Bs):Ev:=⟨6,0,false,t,[],[],0,0⟩
def evO (k st:Int) (a g:Bs):Ev:=⟨k,st,false,[],a,g,0,0⟩
def evE:Ev:=⟨7,0,false,[],[],[],0,0⟩
def y5 (r:Rd) (st:Int) (t a g:Bs):Rd:=zn r (evT st t a g) true
def atR (r:Rd) (p:Nat):Rd:={ r with pos:=p }
/-- A stop is a fault. -/
def kw (s:Bs) (r:Rd):Rd:=if s.length≤r.pos then flt r 3 r.pos else if mkA s r.pos≠0 then flt r 4 r.pos else r
def yr (s:Bs) (r:Rd):Rd:=kw s (atR r (gpE s r.pos))
def bhd (s:Bs) (fl:Bool) (e:Nat):Bool:=gap s e||(fl&&flw (byt s e))
def nxP (s:Bs) (fl:Bool) (e:Nat):Nat:=if fl then gpE s e else wh s e
/-- One property;code 0: there is one. -/
def prA (s:Bs) (hd:List Hd) (fl:Bool) (pos:Nat) (p:Pp):Pp×Int:=
 if byt s pos=38 then
  (if (nmA s pos).2.2=true∧p.an=[] then (if bhd s fl (nmA s pos).2.1.toNat=true then (⟨true,(nmA s pos).1,p.tg,(nmA s pos).2.1.toNat⟩,0) else ({ p with an:=(nmA s pos).1 },7)) else (p,7))
 else
  (if (tgA s pos).2.2=true∧p.tg=[]∧bhd s fl (tgA s pos).2.1.toNat=true then (if (trA (tgA s pos).1 hd).2=true then (⟨true,p.an,(trA (tgA s pos).1 hd).1,(tgA s pos).2.1.toNat⟩,0) else (p,15)) else (p,7))
theorem zg3 {s:Bs} {p:Nat} (h:(tgA s p).2.2=true):byt s p=33∧(p:Int)+1≤(tgA s p).2.1∧(tgA s p).2.1≤s.length∧(tgA s p).2.1≤p+60:=by
 by_cases h1:byt s p=33∧tgE s p≤p+60
 ·have:=znh h1.1
  rw [tgA_t h1]
  exact ⟨h1.1,by simp only;omega,by simp only;omega,by simp only;omega⟩
 ·rw [zwk h1] at h;cases h
theorem za9 {s:Bs} {p:Nat} (h:(nmA s p).2.2=true):(byt s p=38∨byt s p=42)∧(p:Int)+2≤(nmA s p).2.1∧(nmA s p).2.1≤s.length∧(nmA s p).1.length≤60∧(nmA s p).1≠[]:=by
 by_cases h1:(byt s p=38∨byt s p=42)∧p+2≤stc s (p+1)∧stc s (p+1)≤p+61
 ·have hl:p<s.length:=by
   rcases h1.1 with h2 | h2
   ·exact zy h2 (by decide)
   ·exact zy h2 (by decide)
  have:=zjx s (p+1) hl
  rw [nmA_t h1]
  have hs:(sub s (p+1) (stc s (p+1))).length=stc s (p+1)-(p+1):=by simp only [sub,List.length_drop,List.length_take];omega
  refine ⟨h1.1,by simp only;omega,by simp only;omega,by simp only;omega,fun h9=>?_⟩
  simp only at h9
  rw [h9] at hs
  simp at hs;omega
 ·rw [nmA_f h1] at h;cases h
theorem zdw {s:Bs} {hd:List Hd} {fl:Bool} {pos:Nat} {p:Pp} (hl:pos≤s.length) (h:(prA s hd fl pos p).2=0):pos+1≤(prA s hd fl pos p).1.en∧(prA s hd fl pos p).1.en≤s.length∧(prA s hd fl pos p).1.has=true:=by
 unfold prA at h ⊢
 split
 ·rename_i h1
  rw [if_pos h1] at h
  split
  ·rename_i h2
   have:=za9 h2.1
   rw [if_pos h2] at h
   split
   ·exact ⟨by simp only;omega,by simp only;omega,rfl⟩
   ·rename_i h3;rw [if_neg h3] at h;simp at h
  ·rename_i h2;rw [if_neg h2] at h;simp at h
 ·rename_i h1
  rw [if_neg h1] at h
  split
  ·rename_i h2
   have:=zg3 h2.1
   rw [if_pos h2] at h
   split
   ·exact ⟨by simp only;omega,by simp only;omega,rfl⟩
   ·rename_i h3;rw [if_neg h3] at h;simp at h
  ·rename_i h2;rw [if_neg h2] at h;simp at h
theorem zd2 {s:Bs} {fl:Bool} {e:Nat} (h:e≤s.length):e≤nxP s fl e∧nxP s fl e≤s.length:=by
 unfold nxP;split
 ·exact ⟨wj s e,qt s e h⟩
 ·exact ⟨vl s e,vk s e h⟩
def zv1 (s:Bs) (pos:Nat):Bool:=decide (byt s pos=38∨byt s pos=33)
/-- All properties at a place: where they end,what they are,a fault's code. -/
def prs (s:Bs) (hd:List Hd) (fl:Bool) (pos:Nat) (p:Pp):Nat×Pp×Int:=
 if h:zv1 s pos=true∧(prA s hd fl pos p).2=0 then prs s hd fl (nxP s fl (prA s hd fl pos p).1.en) (prA s hd fl pos p).1
 else (pos,if zv1 s pos=true then ((prA s hd fl pos p).1,(prA s hd fl pos p).2) else (p,0))
termination_by s.length-pos
decreasing_by
 have hl:pos<s.length:=by
  have:=h.1
  unfold zv1 at this
  rcases of_decide_eq_true this with h1 | h1
  ·exact zy h1 (by decide)
  ·exact zy h1 (by decide)
 have h1:=zdw (Nat.le_of_lt hl) h.2
 have h2:=zd2 (s:=s) (fl:=fl) h1.2.1
 omega
def ppz (p:Nat):Pp:=⟨false,[],[],p⟩
/-- The properties at the reader's place. -/
def prR (s:Bs) (fl:Bool) (r:Rd):Rd:=
 if (prs s r.hd fl r.pos (ppz r.pos)).2.2=0 then atR r (prs s r.hd fl r.pos (ppz r.pos)).1 else flt (atR r (prs s r.hd fl r.pos (ppz r.pos)).1) (prs s r.hd fl r.pos (ppz r.pos)).2.2 (prs s r.hd fl r.pos (ppz r.pos)).1
def prP (s:Bs) (fl:Bool) (r:Rd):Pp:=(prs s r.hd fl r.pos (ppz r.pos)).2.1
/-- .. zna a flow collection: no stop behind them. -/
def prF (s:Bs) (r:Rd):Rd:=if (prR s true r).cd=0∧(prP s true r).has=true then kw s (prR s true r) else prR s true r
def alR (s:Bs) (r:Rd) (has:Bool):Rd:=
 if (nmA s r.pos).2.2=false then flt r 7 r.pos
 else if has=true then flt r 16 r.pos
 else if alD r.ev r.dn r.bs (nmA s r.pos).1=true then atR (zn r (evA (nmA s r.pos).1) true) (nmA s r.pos).2.1.toNat
 else flt r 14 r.pos
def qtA (s:Bs) (p:Nat):Bs×Nat×Int:=if byt s p=34 then dbA s p else sgA s p
def qtR (s:Bs) (r:Rd) (p:Pp):Rd:=
 if (qtA s r.pos).2.2≠0 then flt r (qtA s r.pos).2.2 (qtA s r.pos).2.1
 else atR (y5 r (if byt s r.pos=34 then 3 else 2) (qtA s r.pos).1 p.an p.tg) (qtA s r.pos).2.1
def plR (s:Bs) (r:Rd) (p:Pp) (n:Int) (fl:Bool):Rd:=atR (y5 r 1 (ptA s r.pos n fl).1 p.an p.tg) (ptA s r.pos n fl).2.1
def opR (r:Rd) (k st:Int) (p:Pp) (sign:Nat):Rd:=if 40≤r.dp then flt r 12 sign else { zn r (evO k st p.an p.tg) false with dp:=r.dp+1 }
def shR (r:Rd) (k:Nat):Rd:={ r with ev:=r.ev++[evE],dn:=(r.dn++[true]).set k true,dp:=r.dp-1 }
def cmR (s:Bs) (r:Rd) (c:Int):Rd:=if byt s r.pos=44 then atR r (r.pos+1) else if byt s r.pos=c then r else flt r 11 r.pos
/-- The items of a collection,up to its end. -/
def clL (s:Bs) (it:Rd→Rd) (c:Int) (k:Nat) (r:Rd):Rd:=
 if (yr s r).cd≠0 then yr s r
 else if byt s (yr s r).pos=c then shR (atR (yr s r) ((yr s r).pos+1)) k
 else if (it (yr s r)).cd≠0 then it (yr s r)
 else if (yr s (it (yr s r))).cd≠0 then yr s (it (yr s r))
 else if h:(cmR s (yr s (it (yr s r))) c).cd=0∧r.pos<(cmR s (yr s (it (yr s r))) c).pos∧r.pos<s.length then clL s it c k (cmR s (yr s (it (yr s r))) c)
 else cmR s (yr s (it (yr s r))) c
termination_by s.length-r.pos
decreasing_by omega
def zff (b:Int):Bool:=b==39||b==34
/-- A scalar or an alias;or nothing,where properties and one of three signs stand. -/
def scR (s:Bs) (r:Rd) (p:Pp) (c1 c2:Int):Rd:=
 if byt s r.pos=42 then alR s r p.has
 else if zff (byt s r.pos)=true then qtR s r p
 else if pfA s r.pos true=true then plR s r p (-1) true
 else if p.has=true∧(byt s r.pos=44∨byt s r.pos=c1∨byt s r.pos=c2) then y5 r 1 [] p.an p.tg
 else flt r 10 r.pos
/-- A key and its value. -/
def paV (s:Bs) (sb:Rd→Rd) (r:Rd):Rd:=
 if (yr s r).cd≠0 then yr s r
 else if byt s (yr s r).pos=44∨byt s (yr s r).pos=125 then y5 (yr s r) 1 [] [] []
 else sb (yr s r)
def paK (s:Bs) (sb:Rd→Rd) (q:Bool) (r:Rd):Rd:=
 if byt s r.pos=58∧(gap s (r.pos+1)||flw (byt s (r.pos+1))||q)=true then paV s sb (atR r (r.pos+1)) else y5 r 1 [] [] []
def paR (s:Bs) (sb:Rd→Rd) (r:Rd):Rd:=
 if (prF s r).cd≠0 then prF s r
 else if (scR s (prF s r) (prP s true r) 125 58).cd≠0 then scR s (prF s r) (prP s true r) 125 58
 else if (yr s (scR s (prF s r) (prP s true r) 125 58)).cd≠0 then yr s (scR s (prF s r) (prP s true r) 125 58)
 else paK s sb (zff (byt s (prF s r).pos)) (yr s (scR s (prF s r) (prP s true r) 125 58))
def coR (s:Bs) (it:Rd→Rd) (c k:Int) (r:Rd) (p:Pp):Rd:=
 if (opR r k 6 p r.pos).cd≠0 then opR r k 6 p r.pos else clL s it c r.ev.length (atR (opR r k 6 p r.pos) (r.pos+1))
def boR (s:Bs) (sb:Rd→Rd) (r:Rd) (p:Pp):Rd:=
 if byt s r.pos=91 then coR s sb 93 3 r p
 else if byt s r.pos=123 then coR s (paR s sb) 125 4 r p
 else scR s r p 93 125
def noR (s:Bs) (sb:Rd→Rd) (r:Rd):Rd:=if (prF s r).cd≠0 then prF s r else boR s sb (prF s r) (prP s true r)
/-- A node,where so many collections may still stand in one another. -/
def noF (s:Bs):Nat→Rd→Rd
 | 0=>noR s id
 | d+1=>noR s (noF s d)
def rdz (p:Nat):Rd:=⟨p,[],[],0,[],0,0,0⟩
end Go.Pl
namespace Go.Pl
def pr1 (s:Bs) (fl:Bool) (r:Rd) (p:Pp):Rd:=if (prA s r.hd fl r.pos p).2=0 then atR r (nxP s fl (prA s r.hd fl r.pos p).1.en) else flt r (prA s r.hd fl r.pos p).2 r.pos
end Go.Pl
namespace Go.Pl
end Go.Pl
end
