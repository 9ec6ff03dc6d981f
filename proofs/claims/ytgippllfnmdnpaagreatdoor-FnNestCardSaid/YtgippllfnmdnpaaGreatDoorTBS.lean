/- How long the text of a node is at most. -/
import Derived.Test.YtgippllfnmdnpaaGreatDoorTAW
section
set_option linter.unusedVariables false
set_option linter.unusedSimpArgs false
set_option linter.unusedSectionVars false
set_option linter.unnecessarySimpa false
namespace Go.Pl
theorem sgl_tx (s:Bs) (i:Nat) (L:List Pc) (cur:Bs) (h:i≤s.length):(sgl s i L cur).1.length≤pcW L+cur.length+2 * (s.length-i)+1:=by
 fun_induction sgl s i L cur with
 | case1 i L cur h1 hb hm ih=>
  have h2:=vl s (i+1)
  have h3:=vk s (i+1) h1
  have h4:=zgu 0 cur
  have:=ih h3
  rw [w9,xq] at this
  simp only [List.length_nil] at this
  omega
 | case2=>simp
 | case3 i L cur h1 hb hq ih=>
  have hl:=zy hq.2 (by decide)
  have:=ih (by omega)
  simp only [List.length_append,List.length_singleton] at this
  omega
 | case4 i L cur h1 hb hq h3=>
  have h2:=zid (L++[⟨cur,false⟩])
  rw [w9,xq] at h2
  simp only at h2 ⊢;omega
 | case5 i L cur h1 hb hq h3 ih=>
  have:=ih (by omega)
  simp only [List.length_append,List.length_singleton] at this
  omega
 | case6=>simp
theorem dbl_tx (s:Bs) (i:Nat) (L:List Pc) (cur:Bs) (k:Nat) (h:i≤s.length):(dbl s i L cur k).1.length≤pcW L+cur.length+4 * (s.length-i)+1:=by
 fun_induction dbl s i L cur k with
 | case1 i L cur k h1 hb hm ih=>
  have h2:=vl s (i+1)
  have h3:=vk s (i+1) h1
  have h4:=zgu k cur
  have:=ih h3
  rw [w9,xq] at this
  simp only [List.length_nil] at this
  omega
 | case2=>simp
 | case3 i L cur k h1 hb hq hm ih=>
  have hl:=zy hq.2 (by decide)
  have h2:=vl s (i+2)
  have h3:=vk s (i+2) (by omega)
  have:=ih h3
  rw [w9,xq] at this
  simp only [List.length_nil] at this
  omega
 | case4=>simp
 | case5=>simp
 | case6 i L cur k h1 hb hq hc he ih=>
  have h2:=zzl s i
  have h3:=ztu s i
  have h4:=zzk s i
  have h5:¬(esA s i).2≤i:=by assumption
  have:=ih h3
  have h6:(cur++(esA s i).1).length=cur.length+(esA s i).1.length:=List.length_append
  omega
 | case7 i L cur k h1 hb hq hc h3=>
  have h2:=zid (L++[⟨cur,false⟩])
  rw [w9,xq] at h2
  simp only at h2 ⊢;omega
 | case8 i L cur k h1 hb hq hc h3 ih=>
  have:=ih (by omega)
  simp only [List.length_append,List.length_singleton] at this
  omega
 | case9=>simp
theorem qtA_tx {s:Bs} {p:Nat} (hp:p<s.length):(qtA s p).1.length≤4 * s.length+1:=by
 by_cases hb:byt s p=34
 ·rw [show qtA s p=dbl s (p+1) [] [] 0 by unfold qtA dbA;rw [if_pos hb,if_pos hb]]
  have:=dbl_tx s (p+1) [] [] 0 hp
  simp [pcW] at this;omega
 ·by_cases hc:byt s p=39
  ·rw [show qtA s p=sgl s (p+1) [] [] by unfold qtA sgA;rw [if_neg hb,if_pos hc]]
   have:=sgl_tx s (p+1) [] [] hp
   simp [pcW] at this;omega
  ·rw [show qtA s p=([],p,10) by unfold qtA sgA;rw [if_neg hb,if_neg hc]]
   simp
theorem zlh (s:Bs) (a b:Nat):(sub s a b).length≤b-a∧(sub s a b).length≤s.length:=by
 simp only [sub,List.length_drop,List.length_take];omega
theorem plA_tx (s:Bs) (e:Nat) (n:Int) (fl:Bool) (L:List Pc) (h:e≤s.length) (hw:pcW L≤e+1):(plA s e n fl L).1.length≤s.length+1:=by
 fun_induction plA s e n fl L with
 | case1 e L h1 ih=>
  have h2:=zd3 h1
  have h3:=zft s (nxA s e n fl).1 fl h2.2.1
  have h4:=zlh s (nxA s e n fl).1 (plE s (nxA s e n fl).1 fl)
  refine ih h3 ?_
  simp only [w9,xq,zl9]
  omega
 | case2 e L h1=>
  have:=zid L
  simp only;omega
theorem ptA_tx {s:Bs} {p:Nat} {n:Int} {fl:Bool}:(ptA s p n fl).1.length≤s.length+1:=by
 unfold ptA
 split
 ·rename_i h
  have h1:=plE_gt h
  have h2:=zft s p fl (Nat.le_of_lt (ut (zha h).1))
  have h4:=zlh s p (plE s p fl)
  refine plA_tx s _ n fl _ h2 ?_
  rw [xq];simp only;omega
 ·simp
theorem ltL_w (s:Bs) (d f a:Nat) (h:a≤s.length):lnW (ltL s d f a).1≤s.length-a+1:=by
 fun_induction ltL s d f a with
 | case1 a h1 ih=>
  have h2:=zgh s a
  have h3:=zcd s a h
  have h4:=zej s (en s a)
  have h5:=ih h4
  have h6:bhL s (en s a)=min (en s a+1) s.length:=rfl
  have h7:=zlh s (a+d) (en s a)
  have h8:lnW (((if f≤a∧(lnA s a=false∨d<inA s a) then sub s (a+d) (en s a) else [])::(ltL s d f (bhL s (en s a))).1))≤(en s a-a)+1+lnW (ltL s d f (bhL s (en s a))).1:=by
   unfold lnW
   simp only [List.map_cons,List.sum_cons]
   split
   ·omega
   ·simp
  by_cases h9:en s a<s.length
  ·simp only at h8 ⊢;omega
  ·have h10:bhL s (en s a)=s.length:=by omega
   rw [h10] at h8 ⊢
   rw [ltL_f (by omega)] at h8 ⊢
   simp only [lnW,List.map_nil,List.sum_nil] at h8 ⊢
   omega
 | case2 a h1=>simp [lnW]
theorem btA_len (l:List Bs) (fo:Bool) (ch:Int):(btA l fo ch).length≤2 * lnW l+2:=by
 have h1:=zdd l
 have h2:=zmg l (lsN l l.length)
 have h3:=zmr (l.take (lsN l l.length)) [] 0 []
 have h4:=zmi (l.take (lsN l l.length))
 simp only [List.length_nil] at h3
 unfold btA
 repeat' split
 all_goals (first | omega | (simp only [List.length_append,List.length_replicate,List.length_nil,List.length_cons];omega) | (rename_i h9;simp only [List.length_append,List.length_replicate,List.length_nil,List.length_cons];split<;>omega))
theorem liA_tx {s:Bs} {p:Nat} {n:Int} (hp:p<s.length):(liA s p n).1.length≤2 * s.length+4:=by
 unfold liA
 split
 ·simp
 ·have h0:∀ (d f a:Nat),a≤s.length→(btA (ltL s d f a).1 (decide (byt s p=62)) (hdA s p).2.1).length≤2 * s.length+4:=fun d f a ha=>by
   have h1:=ltL_w s d f a ha
   have h2:=btA_len (ltL s d f a).1 (decide (byt s p=62)) (hdA s p).2.1
   omega
  exact h0 _ _ _ (zej s _)
/-- A text that is not too long. -/
class Sm (s:Bs):Prop where
 le:s.length≤1048576
end Go.Pl
end
section
set_option linter.unusedVariables false
set_option linter.unusedSimpArgs false
set_option linter.unusedSectionVars false
set_option linter.unnecessarySimpa false
namespace Go.Pl
/-- One event more. -/
def nsE (x:Option (Int×Stk)) (e:Ev):Option (Int×Stk):=
 x.bind fun y=>if (zaw e=true∧e.text.length≤16777216)∧e.kind≠9∧e.kind≠10∧(vw y.1 y.2 e.kind).1=true then some (vw y.1 y.2 e.kind).2 else none
def nsL (l:List Ev) (d:Int) (o:Stk):Option (Int×Stk):=l.foldl nsE (some (d,o))
theorem zmb:∀ l:List Ev,l.foldl nsE none=none
 | []=>rfl
 | e::r=>zmb r
theorem zyc:∀ (l m:List Ev) (d:Int) (o:Stk) (y:Int×Stk),nsL l d o=some y→zaq (l++m) d o=zaq m y.1 y.2
 | [],m,d,o,y,h=>by cases h;rfl
 | e::r,m,d,o,y,h=>by
  unfold nsL at h
  rw [List.foldl_cons] at h
  by_cases hc:(zaw e=true∧e.text.length≤16777216)∧e.kind≠9∧e.kind≠10∧(vw d o e.kind).1=true
  ·have e1:nsE (some (d,o)) e=some (vw d o e.kind).2:=by simp only [nsE,Option.bind_some];rw [if_pos hc]
   rw [e1] at h
   have:=zyc r m _ _ y h
   rw [List.cons_append]
   simp only [zaq]
   rw [hc.1.1,if_neg hc.2.2.1,if_neg hc.2.1,hc.2.2.2,this]
   rfl
  ·have e1:nsE (some (d,o)) e=none:=by simp only [nsE,Option.bind_some];rw [if_neg hc]
   rw [e1,zmb] at h
   cases h
/-- The events so far are a stream that goes on: what is open. -/
def Nd (l:List Ev) (d:Int) (o:Stk):Prop:=∃ m,l=evS::m∧nsL m 0 []=some (d,o)
theorem Nd.tell {l:List Ev} {d:Int} {o:Stk} {e:Ev} (h:Nd l d o) (he:zaw e=true) (ht:e.text.length≤16777216) (h9:e.kind≠9) (h10:e.kind≠10) (h1:(vw d o e.kind).1=true):Nd (l++[e]) (vw d o e.kind).2.1 (vw d o e.kind).2.2:=by
 obtain ⟨m,rfl,hm⟩:=h
 refine ⟨m++[e],rfl, ?_⟩
 unfold nsL at hm ⊢
 rw [List.foldl_append,hm]
 simp only [List.foldl_cons,List.foldl_nil,nsE,Option.bind_some]
 rw [if_pos ⟨⟨he,ht⟩,h9,h10,h1⟩]
theorem Nd.fin {l:List Ev} {d:Int} {o:Stk} {e:Ev} (h:Nd l d o) (he:zaw e=true) (hk:e.kind=10∨e.kind=9∧d=0):yf (l++[e])=true:=by
 obtain ⟨m,rfl,hm⟩:=h
 rw [List.cons_append]
 simp only [yf]
 rw [zyc m [e] 0 [] _ hm]
 simp only [zaq,List.isEmpty_nil,he,Bool.true_and,Bool.and_true]
 rw [show zaw evS=true by decide,show decide (evS.kind=1)=true by decide]
 rcases hk with hk | ⟨hk,rfl⟩
 ·rw [if_pos hk];rfl
 ·rw [if_neg (by omega),if_pos hk];rfl
def nN (d:Int) (o:Stk):Int:=if o=[] then 2 else d
def oN (o:Stk):Stk:=if o=[] then [] else zeo o
/-- A node may come. -/
def zfk (d:Int) (o:Stk):Prop:=o=[]→d=1
theorem zhy {d:Int} {o:Stk} (h:zfk d o):kf d o=(true,nN d o,oN o):=by
 unfold kf nN oN
 by_cases ho:o=[]
 ·rw [if_pos ho,if_pos ho,if_pos ho,h ho];rfl
 ·rw [if_neg ho,if_neg ho,if_neg ho]
theorem zeu {l m:List Ev}:∀ {i:Nat},i≤l.length→stk (l++m) i=stk l i
 | 0,_=>rfl
 | i+1,h=>by
  simp only [stk]
  rw [ku (by omega),zeu (by omega)]
theorem zh3 {l m:List Ev} {t:Bs}:∀ {i:Nat},i≤l.length→xu (l++m) t i=xu l t i
 | 0,_=>rfl
 | i+1,h=>by
  simp only [xu]
  rw [ku (by omega),zh3 (by omega)]
/-- An alias at i is of a node that has ended. -/
def TieAt (l:List Ev) (i:Nat):Prop:=∃ k:Nat,xu l (l.getD i evz).text i=k∧k<i∧k ∉ stk l i
def Tie (l:List Ev):Prop:=∀ i,i<l.length→(l.getD i evz).kind=6→TieAt l i
theorem Tie.app {l:List Ev} {e:Ev} (h:Tie l) (he:e.kind=6→TieAt (l++[e]) l.length):Tie (l++[e]):=by
 intro i hi hk
 rcases Nat.lt_or_ge i l.length with h1 | h1
 ·rw [ku h1] at hk
  obtain ⟨k,h2,h3,h4⟩:=h i h1 hk
  refine ⟨k, ?_,h3, ?_⟩
  ·rw [zh3 (by omega),ku h1];exact h2
  ·rw [zeu (by omega)];exact h4
 ·obtain rfl:i=l.length:=by simp at hi;omega
  rw [qj] at hk
  exact he hk
/-- What holds of a reader that goes on. -/
structure At (r:Rd) (d:Int) (o:Stk) (S:List Nat):Prop where
 nd:Nd r.ev d o
 st:stk r.ev r.ev.length=S
 dn:r.dn.length=r.ev.length
 dt:∀ k,k<r.ev.length→r.dn.getD k false=true→k ∉ S
 ti:Tie r.ev
 dc:∀ j,r.bs<j→j<r.ev.length→(r.ev.getD j evz).kind≠2
 hd:∀ h∈r.hd,h.pre.length≤60
/-- .. of one that has a fault. -/
structure Bad (s:Bs) (r:Rd):Prop where
 nd:∃ d o,Nd r.ev d o
 ti:Tie r.ev
 c1:1≤r.cd
 c2:r.cd≤99
 pl:r.pl≤s.length
def Res (s:Bs) (r:Rd) (d:Int) (o:Stk) (S:List Nat):Prop:=(r.cd=0→At r d o S)∧(r.cd≠0→Bad s r)
theorem At.cast {r r':Rd} {d:Int} {o:Stk} {S:List Nat} (h:At r d o S) (h1:r'.ev=r.ev) (h2:r'.dn=r.dn) (h3:r'.bs=r.bs) (h4:r'.hd=r.hd):At r' d o S:=by
 obtain ⟨a1,a2,a3,a4,a5,a6,a8⟩:=h
 refine ⟨?_, ?_, ?_, ?_, ?_, ?_, ?_⟩
 ·rw [h1];exact a1
 ·rw [h1];exact a2
 ·rw [h1,h2];exact a3
 ·rw [h1,h2];exact a4
 ·rw [h1];exact a5
 ·rw [h1,h3];exact a6
 ·rw [h4];exact a8
theorem At.at {r:Rd} {q:Nat} {d:Int} {o:Stk} {S:List Nat} (h:At r d o S):At (atR r q) d o S:=h.cast rfl rfl rfl rfl
theorem At.bad {s:Bs} {r r':Rd} {d:Int} {o:Stk} {S:List Nat} (h:At r d o S) (h1:r'.ev=r.ev) (hc:1≤r'.cd∧r'.cd≤99) (hp:r'.pl≤s.length):Bad s r':=⟨⟨d,o,by rw [h1];exact h.nd⟩,by rw [h1];exact h.ti,hc.1,hc.2,hp⟩
theorem At.flt {s:Bs} {r:Rd} {d:Int} {o:Stk} {S:List Nat} {c:Int} {p:Nat} (h:At r d o S) (hc:1≤c∧c≤99) (hp:p≤s.length):Bad s (flt r c p):=h.bad rfl hc hp
theorem At.resF {s:Bs} {r:Rd} {d d':Int} {o o':Stk} {S S':List Nat} {c:Int} {p:Nat} (h:At r d o S) (hc:1≤c∧c≤99) (hp:p≤s.length):Res s (Pl.flt r c p) d' o' S':=⟨fun h0=>by simp only [Pl.flt] at h0;omega,fun _=>h.flt hc hp⟩
theorem At.res {s:Bs} {r:Rd} {d:Int} {o:Stk} {S:List Nat} (h:At r d o S) (h0:r.cd=0):Res s r d o S:=⟨fun _=>h,fun h1=>absurd h0 h1⟩
theorem Res.bad {s:Bs} {r:Rd} {d d':Int} {o o':Stk} {S S':List Nat} (h:Res s r d o S) (h0:r.cd≠0):Res s r d' o' S':=⟨fun h1=>absurd h1 h0,h.2⟩
/-- An event that is no collection's. -/
theorem At.tell {r r':Rd} {d:Int} {o:Stk} {S:List Nat} {e:Ev} (h:At r d o S) (h1:r'.ev=r.ev++[e]) (h2:r'.dn=r.dn++[true]) (h3:r'.bs=r.bs) (h4:r'.hd=r.hd) (he:zaw e=true) (ht:e.text.length≤16777216) (hk:e.kind≠9∧e.kind≠10∧e.kind≠7∧isColl e.kind=false)
  (hn:(vw d o e.kind).1=true) (h6:e.kind=6→TieAt (r.ev++[e]) r.ev.length) (hd:e.kind=2→r.bs=r.ev.length):At r' (vw d o e.kind).2.1 (vw d o e.kind).2.2 S:=by
 obtain ⟨a1,a2,a3,a4,a5,a6,a8⟩:=h
 refine ⟨?_, ?_, ?_, ?_, ?_, ?_, ?_⟩
 ·rw [h1];exact a1.tell he ht hk.1 hk.2.1 hn
 ·rw [h1,List.length_append]
  simp only [List.length_cons,List.length_nil,Nat.zero_add]
  rw [va (by rw [qj,hk.2.2.2];simp) (by rw [qj];exact hk.2.2.1),zeu (Nat.le_refl _)]
  exact a2
 ·rw [h1,h2,List.length_append,List.length_append,a3];rfl
 ·intro k hl ht hm
  rw [h1,List.length_append] at hl
  simp only [List.length_cons,List.length_nil,Nat.zero_add] at hl
  rcases Nat.lt_or_ge k r.ev.length with hk | hk
  ·rw [h2,ku (by omega)] at ht
   exact a4 k hk ht hm
  ·rw [←a2] at hm
   have:=wm hm
   omega
 ·rw [h1];exact a5.app h6
 ·intro j hj hl
  rw [h1,List.length_append] at hl
  simp only [List.length_cons,List.length_nil,Nat.zero_add] at hl
  rw [h3] at hj
  rw [h1]
  rcases Nat.lt_or_ge j r.ev.length with hk | hk
  ·rw [ku hk];exact a6 j hj hk
  ·obtain rfl:j=r.ev.length:=by omega
   rw [qj]
   intro h2
   have:=hd h2
   omega
 ·rw [h4];exact a8
theorem nsL_ok:∀ (l:List Ev) (d:Int) (o:Stk) (y:Int×Stk),nsL l d o=some y→∀ e∈l,zaw e=true∧e.text.length≤16777216
 | [],_,_,_,_=>fun e he=>by cases he
 | a::r,d,o,y,h=>by
  unfold nsL at h
  rw [List.foldl_cons] at h
  by_cases hc:(zaw a=true∧a.text.length≤16777216)∧a.kind≠9∧a.kind≠10∧(vw d o a.kind).1=true
  ·have e1:nsE (some (d,o)) a=some (vw d o a.kind).2:=by simp only [nsE,Option.bind_some];rw [if_pos hc]
   rw [e1] at h
   intro e he
   rcases List.mem_cons.1 he with rfl | he
   ·exact hc.1
   ·exact nsL_ok r _ _ y h e he
  ·have e1:nsE (some (d,o)) a=none:=by simp only [nsE,Option.bind_some];rw [if_neg hc]
   rw [e1,zmb] at h
   cases h
theorem Nd.okx {l:List Ev} {d:Int} {o:Stk} (h:Nd l d o) {i:Nat} (hi:i<l.length):zaw (l.getD i evz)=true∧(l.getD i evz).text.length≤16777216:=by
 obtain ⟨m,rfl,hm⟩:=h
 have hx:(evS::m).getD i evz∈evS::m:=by
  rw [List.getD_eq_getElem?_getD,List.getElem?_eq_getElem hi];exact List.getElem_mem hi
 rcases List.mem_cons.1 hx with h1 | h1
 ·rw [h1];decide
 ·exact nsL_ok m _ _ _ hm _ h1
theorem Nd.ok {l:List Ev} {d:Int} {o:Stk} (h:Nd l d o) {i:Nat} (hi:i<l.length):zaw (l.getD i evz)=true:=(h.okx hi).1
theorem alD_last {l:List Ev} {d:List Bool} {b:Nat} {name:Bs} (ho:∀ i,i<l.length→zaw (l.getD i evz)=true) (hc:∀ j,b<j→j<l.length→(l.getD j evz).kind≠2) (h:alD l d b name=true):∃ k:Nat,xu l name l.length=k∧k<l.length∧d.getD k false=true:=by
 unfold alD nmS anI at h
 rw [List.foldl_map] at h
 have key:∀ n,n≤l.length→((List.range n).filter fun i=>decide (b≤i)&&!decide ((l.getD i evz).anchor=[])).foldl (fun x i=>if (l.getD i evz).anchor=name then d.getD i false else x) false=true→∃ k:Nat,xu l name n=k∧k<n∧d.getD k false=true:=by
  intro n
  induction n with
  | zero=>intro _ h;simp at h
  | succ n ih=>
   intro hn hx
   rw [List.range_succ,List.filter_append,List.foldl_append] at hx
   by_cases hp:(decide (b≤n)&&!decide ((l.getD n evz).anchor=[]))=true
   ·rw [List.filter_cons_of_pos (p:=fun i=>decide (b≤i)&&!decide ((l.getD i evz).anchor=[])) hp,List.filter_nil,List.foldl_cons,List.foldl_nil] at hx
    simp only [Bool.and_eq_true,decide_eq_true_eq,Bool.not_eq_true',decide_eq_false_iff_not] at hp
    have ha:=zdm (ho n (by omega)) hp.2
    have h2:(l.getD n evz).kind≠2:=by
     intro h2
     have:=ha.1
     rw [h2] at this
     revert this;decide
    simp only [xu]
    rw [if_neg h2]
    by_cases he:(l.getD n evz).anchor=name
    ·rw [if_pos he] at hx
     rw [if_pos ⟨ha.2,hp.2,he⟩]
     exact ⟨n,rfl,by omega,hx⟩
    ·rw [if_neg he] at hx
     rw [if_neg fun h=>he h.2.2]
     obtain ⟨k,h3,h4,h5⟩:=ih (by omega) hx
     exact ⟨k,h3,by omega,h5⟩
   ·rw [List.filter_cons_of_neg (p:=fun i=>decide (b≤i)&&!decide ((l.getD i evz).anchor=[])) hp,List.filter_nil,List.foldl_nil] at hx
    obtain ⟨k,h3,h4,h5⟩:=ih (by omega) hx
    have hb:b<n:=by
     rcases Nat.lt_or_ge b n with hb | hb
     ·exact hb
     ·rw [List.filter_eq_nil_iff.2 (by intro a ha;have:=List.mem_range.1 ha;simp;intro h;omega)] at hx
      simp at hx
    have hd:(l.getD n evz).anchor=[]:=by
     by_cases hd:(l.getD n evz).anchor=[]
     ·exact hd
     ·exact absurd (by rw [decide_eq_true (show b≤n by omega),decide_eq_false hd];rfl) hp
    refine ⟨k, ?_,by omega,h5⟩
    simp only [xu]
    rw [if_neg (hc n hb (by omega)),if_neg fun h=>h.2.1 hd]
    exact h3
 exact key l.length (Nat.le_refl _) h
/-- Properties that an event may bear. -/
def zep (p:Pp):Prop:=zoy p.an=true∧p.tg.length≤120
theorem evT_ok {st:Int} {t a g:Bs} (hs:1≤st∧st≤5) (ha:zoy a=true) (hg:g.length≤120):zaw (evT st t a g)=true:=by
 simp [zaw,evT,ha,hs.1,hs.2,hg]
theorem evA_ok {t:Bs} (ht:t≠[]) (hn:zoy t=true):zaw (evA t)=true:=by
 simp [zaw,evA,ht,hn,zd8]
theorem evO_ok {k st:Int} {a g:Bs} (hk:k=3∨k=4) (hs:6≤st∧st≤7) (ha:zoy a=true) (hg:g.length≤120):zaw (evO k st a g)=true:=by
 rcases hk with rfl | rfl<;>simp [zaw,evO,ha,hs.1,hs.2,hg]
theorem At.text {r r':Rd} {d:Int} {o:Stk} {S:List Nat} {st:Int} {t:Bs} {p:Pp} (h:At r d o S) (ht:t.length≤16777216) (hp:zep p) (hs:1≤st∧st≤5) (hn:zfk d o) (h1:r'.ev=r.ev++[evT st t p.an p.tg]) (h2:r'.dn=r.dn++[true]) (h3:r'.bs=r.bs) (h4:r'.hd=r.hd):At r' (nN d o) (oN o) S:=by
 have e:vw d o (evT st t p.an p.tg).kind=(true,nN d o,oN o):=by
  rw [←zhy hn];rfl
 have:=h.tell h1 h2 h3 h4 (evT_ok hs hp.1 hp.2) ht ⟨by simp [evT],by simp [evT],by simp [evT],by simp [evT,isColl]⟩ (by rw [e]) (by simp [evT]) (by simp [evT])
 rw [e] at this
 exact this
theorem At.alias {r r':Rd} {d:Int} {o:Stk} {S:List Nat} {t:Bs} (h:At r d o S) (ht:t≠[]) (hm:zoy t=true) (hn:zfk d o) (ha:alD r.ev r.dn r.bs t=true) (h1:r'.ev=r.ev++[evA t]) (h2:r'.dn=r.dn++[true]) (h3:r'.bs=r.bs) (h4:r'.hd=r.hd):At r' (nN d o) (oN o) S:=by
 have e:vw d o (evA t).kind=(true,nN d o,oN o):=by
  rw [←zhy hn];rfl
 have:=h.tell h1 h2 h3 h4 (evA_ok ht hm) (by have h9:t.length≤60:=(of_decide_eq_true hm).1;simp only [evA];omega) ⟨by simp [evA],by simp [evA],by simp [evA],by simp [evA,isColl]⟩ (by rw [e]) (fun _=>?_) (by simp [evA])
 ·rw [e] at this
  exact this
 ·obtain ⟨k,h5,h6,h7⟩:=alD_last (fun i hi=>h.nd.ok hi) h.dc ha
  refine ⟨k, ?_,h6, ?_⟩
  ·rw [qj,zh3 (Nat.le_refl _)];exact h5
  ·rw [zeu (Nat.le_refl _),h.st];exact h.dt k h6 h7
/-- A collection begins. -/
theorem At.op {r r':Rd} {d:Int} {o:Stk} {S:List Nat} {k st:Int} {p:Pp} (h:At r d o S) (hp:zep p) (hk:k=3∨k=4) (hs:6≤st∧st≤7) (hn:zfk d o) (h1:r'.ev=r.ev++[evO k st p.an p.tg]) (h2:r'.dn=r.dn++[false]) (h3:r'.bs=r.bs) (h4:r'.hd=r.hd):At r' (nN d o) (oN o++[(decide (k=4),0)]) (S++[r.ev.length]):=by
 obtain ⟨a1,a2,a3,a4,a5,a6,a8⟩:=h
 have hc:isColl (evO k st p.an p.tg).kind=true:=by rcases hk with rfl | rfl<;>simp [evO,isColl]
 have e:vw d o (evO k st p.an p.tg).kind=(true,nN d o,oN o++[(decide (k=4),0)]):=by
  have:vw d o k=((kf d o).1,(kf d o).2.1,(kf d o).2.2++[(decide (k=4),0)]):=by
   rcases hk with rfl | rfl<;>simp [vw]
  rw [zhy hn] at this
  exact this
 have hS:stk (r.ev++[evO k st p.an p.tg]) (r.ev.length+1)=S++[r.ev.length]:=by
  rw [kh (by rw [qj];exact hc),zeu (Nat.le_refl _),a2]
 refine ⟨?_, ?_, ?_, ?_, ?_, ?_, ?_⟩
 ·have:=a1.tell (evO_ok hk hs hp.1 hp.2) (by simp [evO]) (by rcases hk with rfl | rfl<;>simp [evO]) (by rcases hk with rfl | rfl<;>simp [evO]) (by rw [e])
  rw [e] at this
  rw [h1];exact this
 ·rw [h1,List.length_append];exact hS
 ·rw [h1,h2,List.length_append,List.length_append,a3];rfl
 ·intro j hl ht hm
  rw [h1,List.length_append] at hl
  simp only [List.length_cons,List.length_nil,Nat.zero_add] at hl
  rcases Nat.lt_or_ge j r.ev.length with hk | hk
  ·rw [h2,ku (by omega)] at ht
   rcases List.mem_append.1 hm with hm | hm
   ·exact a4 j hk ht hm
   ·simp at hm;omega
  ·obtain rfl:j=r.ev.length:=by omega
   rw [h2,←a3,qj] at ht
   cases ht
 ·rw [h1];exact a5.app (by rcases hk with rfl | rfl<;>simp [evO])
 ·intro j hj hl
  rw [h1,List.length_append] at hl
  simp only [List.length_cons,List.length_nil,Nat.zero_add] at hl
  rw [h3] at hj
  rw [h1]
  rcases Nat.lt_or_ge j r.ev.length with hk2 | hk2
  ·rw [ku hk2];exact a6 j hj hk2
  ·obtain rfl:j=r.ev.length:=by omega
   rw [qj]
   rcases hk with rfl | rfl<;>simp [evO]
 ·rw [h4];exact a8
/-- .. and ends. -/
theorem At.sh {r:Rd} {d:Int} {o:Stk} {S:List Nat} {k:Nat} (h:At r d o (S++[k])) (he:ndEnds o=true):At (shR r k) d (pop o) S:=by
 obtain ⟨a1,a2,a3,a4,a5,a6,a8⟩:=h
 have hkS:k ∉ S:=by
  intro hm
  obtain ⟨p,hp,e⟩:=List.getElem_of_mem hm
  have hmo:=zay (l:=r.ev) r.ev.length p S.length hp (by rw [a2];simp)
  rw [a2] at hmo
  rw [ku hp,qj] at hmo
  rw [List.getD_eq_getElem?_getD,List.getElem?_eq_getElem hp,e] at hmo
  simp at hmo
 have e:vw d o evE.kind=(true,d,pop o):=by simp [vw,evE,he]
 refine ⟨?_, ?_, ?_, ?_, ?_, ?_, ?_⟩
 ·have:=a1.tell (e:=evE) (by decide) (by decide) (by decide) (by decide) (by rw [e])
  rw [e] at this
  exact this
 ·simp only [shR,List.length_append,List.length_cons,List.length_nil,Nat.zero_add]
  rw [xm (by rw [qj];rfl),zeu (Nat.le_refl _),a2]
  simp
 ·simp [shR,a3]
 ·intro j hl ht hm
  simp only [shR,List.length_append,List.length_cons,List.length_nil,Nat.zero_add] at hl ht
  have hj:j∈S++[k]:=List.mem_append_left _ hm
  have hjl:j<r.ev.length:=by rw [←a2] at hj;exact wm hj
  have hne:k≠j:=fun h=>hkS (h▸hm)
  rw [List.getD_eq_getElem?_getD,List.getElem?_set_ne hne,←List.getD_eq_getElem?_getD,ku (by omega)] at ht
  exact a4 j hjl ht hj
 ·exact a5.app (by simp [evE])
 ·intro j hj hl
  simp only [shR,List.length_append,List.length_cons,List.length_nil,Nat.zero_add] at hl hj ⊢
  rcases Nat.lt_or_ge j r.ev.length with hk2 | hk2
  ·rw [ku hk2];exact a6 j hj hk2
  ·obtain rfl:j=r.ev.length:=by omega
   rw [qj];decide
 ·exact a8
end Go.Pl
end
section
set_option linter.unusedVariables false
set_option linter.unusedSimpArgs false
set_option linter.unusedSectionVars false
set_option linter.unnecessarySimpa false
namespace Go.Pl
theorem stc_in {s:Bs} {p i:Nat} (h1:p≤i) (h2:i<stc s p):gap s i=false∧flw (byt s i)=false:=by
 fun_induction stc s p with
 | case1 p h ih=>
  rcases Nat.eq_or_lt_of_le h1 with rfl | h3
  ·exact h
  ·exact ih (by omega) h2
 | case2 p h=>omega
theorem nm_nm {s:Bs} {p:Nat} (h:(nmA s p).2.2=true):zoy (nmA s p).1=true:=by
 by_cases h1:(byt s p=38∨byt s p=42)∧p+2≤stc s (p+1)∧stc s (p+1)≤p+61
 ·have hl:p<s.length:=by
   rcases h1.1 with h2 | h2
   ·exact zy h2 (by decide)
   ·exact zy h2 (by decide)
  have hle:=zjx s (p+1) hl
  rw [nmA_t h1]
  have hs:(sub s (p+1) (stc s (p+1))).length=stc s (p+1)-(p+1):=by simp only [sub,List.length_drop,List.length_take];omega
  refine ztn (by rw [hs];omega) fun j hj=>?_
  rw [hs] at hj
  have e:(sub s (p+1) (stc s (p+1))).getD j 0=s.getD (p+1+j) 0:=by
   simp only [sub,List.getD_eq_getElem?_getD,List.getElem?_drop]
   rw [List.getElem?_take_of_lt (by omega)]
  rw [e,←nmc_gap (by omega)]
  have h3:=stc_in (s:=s) (p:=p+1) (i:=p+1+j) (by omega) (by omega)
  rw [kv (by omega)] at h3
  rw [h3.1,h3.2];rfl
 ·rw [nmA_f h1] at h;cases h
theorem zy8 {name rest:Bs}:∀ (l:List Hd),(∀ h∈l,h.pre.length≤60)→(hdF name rest l).2=true→(hdF name rest l).1.length≤60+rest.length
 | [],_,h=>by
  unfold hdF at h ⊢
  split
  ·simp;omega
  ·rename_i h1;rw [if_neg h1] at h;split
   ·simp;omega
   ·rename_i h2;rw [if_neg h2] at h;cases h
 | a::r,hl,h=>by
  unfold hdF at h ⊢
  split
  ·rename_i h1
   rw [if_pos h1] at h
   split
   ·rename_i h2;rw [if_pos h2] at h;cases h
   ·have:=hl a (List.mem_cons_self ..)
    simp only [List.length_append];omega
  ·rename_i h1
   rw [if_neg h1] at h
   exact zy8 r (fun x hx=>hl x (List.mem_cons_of_mem _ hx)) h
theorem trA_len {raw:Bs} {l:List Hd} (hr:raw.length≤60) (hl:∀ h∈l,h.pre.length≤60) (h:(trA raw l).2=true):(trA raw l).1.length≤120:=by
 unfold trA at h ⊢
 split
 ·simp
 ·rename_i h1;rw [if_neg h1] at h
  split
  ·simp only [sub,List.length_drop,List.length_take];omega
  ·rename_i h2;rw [if_neg h2] at h
   split
   ·simp
   ·rename_i h3;rw [if_neg h3] at h
    split
    ·simp
    ·rename_i h4;rw [if_neg h4] at h
     have:=zy8 l hl h
     simp only [List.length_drop] at this
     omega
theorem prA_pp {s:Bs} {hd:List Hd} {fl:Bool} {pos:Nat} {p:Pp} (hl:∀ h∈hd,h.pre.length≤60) (hp:zep p) (h:(prA s hd fl pos p).2=0):zep (prA s hd fl pos p).1:=by
 unfold prA at h ⊢
 split
 ·rename_i h1
  rw [if_pos h1] at h
  split
  ·rename_i h2
   rw [if_pos h2] at h
   split
   ·exact ⟨nm_nm h2.1,hp.2⟩
   ·exact ⟨nm_nm h2.1,hp.2⟩
  ·exact hp
 ·rename_i h1
  rw [if_neg h1] at h
  split
  ·rename_i h2
   split
   ·rename_i h3;exact ⟨hp.1,trA_len (zwj s pos) hl h3⟩
   ·exact hp
  ·exact hp
theorem prA_cd {s:Bs} {hd:List Hd} {fl:Bool} {pos:Nat} {p:Pp}:(prA s hd fl pos p).2=0∨(prA s hd fl pos p).2=7∨(prA s hd fl pos p).2=15:=by
 unfold prA;(repeat' split)<;>simp
theorem prs_pp {s:Bs} {hd:List Hd} {fl:Bool} {pos:Nat} {p:Pp} (hl:∀ h∈hd,h.pre.length≤60) (hp:zep p):((prs s hd fl pos p).2.2=0→zep (prs s hd fl pos p).2.1)∧0≤(prs s hd fl pos p).2.2∧(prs s hd fl pos p).2.2≤99:=by
 fun_induction prs s hd fl pos p with
 | case1 pos p h ih=>exact ih (prA_pp hl hp h.2)
 | case2 pos p h=>
  split
  ·rename_i h1
   simp only
   refine ⟨fun h2=>absurd ⟨h1,h2⟩ h, ?_⟩
   have:=prA_cd (s:=s) (hd:=hd) (fl:=fl) (pos:=pos) (p:=p)
   omega
  ·exact ⟨fun _=>hp,show (0:Int)≤0 by decide,show (0:Int)≤99 by decide⟩
theorem zst (p:Nat):zep (ppz p):=⟨zd8,Nat.zero_le _⟩
theorem zsc {s:Bs} {r:Rd} {d:Int} {o:Stk} {S:List Nat} (h:At r d o S) (h0:r.cd=0) (hp:r.pos≤s.length):Res s (kw s r) d o S:=by
 unfold kw
 split
 ·exact h.resF (by decide) hp
 ·split
  ·exact h.resF (by decide) hp
  ·exact h.res h0
theorem zmp {s:Bs} {r:Rd} {d:Int} {o:Stk} {S:List Nat} (ho:Ok s r) (h:At r d o S):Res s (yr s r) d o S:=zsc h.at ho.cd (qt s _ ho.pos)
theorem zlt {s:Bs} {fl:Bool} {r:Rd} {d:Int} {o:Stk} {S:List Nat} (ho:Ok s r) (h:At r d o S):Res s (prR s fl r) d o S∧((prR s fl r).cd=0→zep (prP s fl r)):=by
 have h1:=prs_pp (s:=s) (hd:=r.hd) (fl:=fl) (pos:=r.pos) (p:=ppz r.pos) h.hd (zst _)
 have h2:=zg9 (s:=s) (hd:=r.hd) (fl:=fl) (p:=ppz r.pos) ho.pos
 unfold prR prP
 split
 ·rename_i h3;exact ⟨h.at.res ho.cd,fun _=>h1.1 h3⟩
 ·rename_i h3
  exact ⟨h.at.resF (by omega) h2.2.1,fun h4=>absurd h4 h3⟩
theorem zxe {s:Bs} {r:Rd} {d:Int} {o:Stk} {S:List Nat} (ho:Ok s r) (h:At r d o S):Res s (prF s r) d o S∧((prF s r).cd=0→zep (prP s true r)):=by
 have h1:=zlt (fl:=true) ho h
 unfold prF
 split
 ·rename_i h2
  obtain ⟨q,e,h3,h4,_⟩:=vo ho.pos ho.cd h2.1
  exact ⟨zsc (h1.1.1 h2.1) h2.1 (by rw [e];exact h4),fun _=>h1.2 h2.1⟩
 ·exact h1
theorem z0c {s:Bs} {r:Rd} {b:Bool} {d:Int} {o:Stk} {S:List Nat} (ho:r.cd=0) (hp:r.pos≤s.length) (h:At r d o S) (hn:zfk d o):Res s (alR s r b) (nN d o) (oN o) S:=by
 unfold alR
 split
 ·exact h.resF (by decide) hp
 ·rename_i h1
  split
  ·exact h.resF (by decide) hp
  ·split
   ·rename_i h2 h3
    have h4:(nmA s r.pos).2.2=true:=by simpa using h1
    exact (h.alias (za9 h4).2.2.2.2 (nm_nm h4) hn h3 rfl rfl rfl rfl:At (zn r (evA (nmA s r.pos).1) true) _ _ _).at.res ho
   ·exact h.resF (by decide) hp
theorem sgl_cd (s:Bs) (i:Nat) (L:List Pc) (cur:Bs):0≤(sgl s i L cur).2.2∧(sgl s i L cur).2.2≤99:=by
 fun_induction sgl s i L cur<;>simp_all
theorem dbl_cd (s:Bs) (i:Nat) (L:List Pc) (cur:Bs) (k:Nat):0≤(dbl s i L cur k).2.2∧(dbl s i L cur k).2.2≤99:=by
 fun_induction dbl s i L cur k<;>simp_all
theorem qtA_cd {s:Bs} {p:Nat} (hp:p<s.length):0≤(qtA s p).2.2∧(qtA s p).2.2≤99∧(qtA s p).2.1≤s.length:=by
 by_cases hb:byt s p=34
 ·rw [show qtA s p=dbl s (p+1) [] [] 0 by unfold qtA dbA;rw [if_pos hb,if_pos hb]]
  have h1:=dbl_cd s (p+1) [] [] 0
  have h2:=zpm s (p+1) [] [] 0 (by omega)
  exact ⟨h1.1,h1.2,h2.2.1⟩
 ·by_cases hc:byt s p=39
  ·rw [show qtA s p=sgl s (p+1) [] [] by unfold qtA sgA;rw [if_neg hb,if_pos hc]]
   have h1:=sgl_cd s (p+1) [] []
   have h2:=zni s (p+1) [] [] (by omega)
   exact ⟨h1.1,h1.2,h2.2.1⟩
  ·rw [show qtA s p=([],p,10) by unfold qtA sgA;rw [if_neg hb,if_neg hc]]
   exact ⟨show (0:Int)≤10 by decide,show (10:Int)≤99 by decide,Nat.le_of_lt hp⟩
theorem zy2 {s:Bs} {p:Nat} (h:zff (byt s p)=true):p<s.length:=by
 unfold zff at h
 simp only [Bool.or_eq_true,beq_iff_eq] at h
 rcases h with h | h
 ·exact zy h (by decide)
 ·exact zy h (by decide)
theorem zxb {s:Bs} [Sm s] {r:Rd} {p:Pp} {d:Int} {o:Stk} {S:List Nat} (ho:r.cd=0) (hq:zff (byt s r.pos)=true) (h:At r d o S) (hn:zfk d o) (hp:zep p):Res s (qtR s r p) (nN d o) (oN o) S:=by
 have h1:=qtA_cd (zy2 hq)
 unfold qtR
 split
 ·rename_i h2;exact h.resF (by omega) h1.2.2
 ·refine (At.at ?_).res ho
  exact h.text (t:=(qtA s r.pos).1) (by have h9:=qtA_tx (zy2 hq);have:=Sm.le (s:=s);omega) hp (by split<;>decide) hn rfl rfl rfl rfl
theorem zqh {s:Bs} {r:Rd} {t:Bs} {p:Pp} {st:Int} {d:Int} {o:Stk} {S:List Nat} (ht:t.length≤16777216) (ho:r.cd=0) (h:At r d o S) (hn:zfk d o) (hp:zep p) (hs:1≤st∧st≤5):Res s (y5 r st t p.an p.tg) (nN d o) (oN o) S:=
 (h.text (t:=t) ht hp hs hn rfl rfl rfl rfl:At (y5 r st t p.an p.tg) _ _ _).res ho
theorem pl_res {s:Bs} [Sm s] {r:Rd} {p:Pp} {n:Int} {fl:Bool} {d:Int} {o:Stk} {S:List Nat} (ho:r.cd=0) (h:At r d o S) (hn:zfk d o) (hp:zep p):Res s (plR s r p n fl) (nN d o) (oN o) S:=
 (h.text (t:=(ptA s r.pos n fl).1) (by have h9:=ptA_tx (s:=s) (p:=r.pos) (n:=n) (fl:=fl);have:=Sm.le (s:=s);omega) hp (by decide) hn rfl rfl rfl rfl:At (y5 r 1 (ptA s r.pos n fl).1 p.an p.tg) _ _ _).at.res ho
theorem sc_res {s:Bs} [Sm s] {r:Rd} {p:Pp} {c1 c2:Int} {d:Int} {o:Stk} {S:List Nat} (ho:Ok s r) (h:At r d o S) (hn:zfk d o) (hp:zep p):Res s (scR s r p c1 c2) (nN d o) (oN o) S:=by
 unfold scR
 split
 ·exact z0c ho.cd ho.pos h hn
 ·split
  ·rename_i h1;exact zxb ho.cd h1 h hn hp
  ·split
   ·exact pl_res ho.cd h hn hp
   ·split
    ·exact zqh (by simp) ho.cd h hn hp (by decide)
    ·exact h.resF (by decide) ho.pos
theorem zxy {s:Bs} {r:Rd} {k st:Int} {p:Pp} {sg:Nat} {d:Int} {o:Stk} {S:List Nat} (ho:r.cd=0) (h:At r d o S) (hn:zfk d o) (hp:zep p) (hk:k=3∨k=4) (hs:6≤st∧st≤7) (hl:sg≤s.length):Res s (opR r k st p sg) (nN d o) (oN o++[(decide (k=4),0)]) (S++[r.ev.length]):=by
 unfold opR
 split
 ·exact h.resF (by decide) hl
 ·exact (h.op hp hk hs hn rfl rfl rfl rfl:At { zn r (evO k st p.an p.tg) false with dp:=r.dp+1 } _ _ _).res ho
theorem cm_res {s:Bs} {r:Rd} {c:Int} {d:Int} {o:Stk} {S:List Nat} (ho:Ok s r) (h:At r d o S):Res s (cmR s r c) d o S:=by
 unfold cmR
 split
 ·exact h.at.res ho.cd
 ·split
  ·exact h.res ho.cd
  ·exact h.resF (by decide) ho.pos
theorem zdg {o:Stk} (h:o≠[]):zeo o≠[]:=by
 intro h1
 have h2:=zdh (o:=o)
 rw [h1] at h2
 exact h (List.length_eq_zero_iff.1 h2.symm)
theorem zg1 {o:Stk} (h:o≠[]):tp (zeo o)=((tp o).1,(tp o).2+1):=by
 have hl:0<o.length:=List.length_pos_iff.2 h
 unfold tp zeo
 rw [List.length_set,List.getD_eq_getElem?_getD,List.getElem?_set_self (by omega)]
 rfl
theorem zlv {o:Stk}:pop (zeo o)=pop o:=by
 unfold pop zeo
 rw [List.length_set,List.take_set_of_le (Nat.le_refl _)]
theorem zg0 {o:Stk} {x:Bool×Nat}:tp (o++[x])=x:=by
 unfold tp
 rw [List.length_append,List.length_cons,List.length_nil,Nat.zero_add,Nat.add_sub_cancel,qj]
theorem zlu {o:Stk} {x:Bool×Nat}:pop (o++[x])=o:=by simp [pop]
def inB (b:Bool) (o:Stk):Stk:=if b then zeo (zeo o) else zeo o
/-- A reader of an item: of one node,or of two. -/
def ItN (s:Bs) (D:Nat) (b:Bool) (it:Rd→Rd):Prop:=∀ r d o S,Ok s r→r.dp=D→o≠[]→At r d o S→Res s (it r) d (inB b o) S
def NoN (s:Bs) (D:Nat) (it:Rd→Rd):Prop:=∀ r d o S,Ok s r→r.dp=D→zfk d o→At r d o S→Res s (it r) (nN d o) (oN o) S
theorem NoN.it {s:Bs} {D:Nat} {it:Rd→Rd} (h:NoN s D it):ItN s D false it:=by
 intro r d o S h1 h2 h3 h4
 have:=h r d o S h1 h2 (fun h=>absurd h h3) h4
 unfold nN oN at this
 rw [if_neg h3,if_neg h3] at this
 exact this
theorem zme {o:Stk} {b:Bool} (h:o≠[]) (hb:(tp o).1=b) (h2:b=true→(tp o).2 % 2=0):ndEnds o=true:=by
 unfold ndEnds
 cases b with
 | false=>simp [h,hb]
 | true=>simp [h,hb,h2 rfl]
theorem zq1 {o:Stk} {b:Bool} (h:o≠[]) (hb:(tp o).1=b) (h2:b=true→(tp o).2 % 2=0):inB b o≠[]∧(tp (inB b o)).1=b∧(b=true→(tp (inB b o)).2 % 2=0)∧pop (inB b o)=pop o:=by
 cases b with
 | false=>
  have e:inB false o=zeo o:=rfl
  rw [e]
  exact ⟨zdg h,(by rw [zg1 h];exact hb),(fun h=>Bool.noConfusion h),zlv⟩
 | true=>
  have e:inB true o=zeo (zeo o):=rfl
  rw [e]
  refine ⟨zdg (zdg h), ?_,fun _=>?_, ?_⟩
  ·rw [zg1 (zdg h),zg1 h];exact hb
  ·rw [zg1 (zdg h),zg1 h]
   have:=h2 rfl
   simp only;omega
  ·rw [zlv,zlv]
theorem clL_res {s:Bs} [Sm s] {it:Rd→Rd} {c:Int} {D:Nat} {b:Bool} (hit:zf8 s D it) (hin:ItN s D b it):∀ (n:Nat) (k:Nat) (r:Rd) (d:Int) (o:Stk) (S:List Nat),s.length-r.pos=n→Ok s r→r.dp=D→At r d o (S++[k])→o≠[]→(tp o).1=b→(b=true→(tp o).2 % 2=0)→Res s (clL s it c k r) d (pop o) S:=by
 intro n
 induction n using Nat.strongRecOn with
 | _ n ih=>
  intro k r d o S hn ho hd h hne hb h2
  have hg:=zmp ho h
  by_cases h1:(yr s r).cd=0
  ·have hgo:=ho.gap h1
   have hga:=hg.1 h1
   by_cases h3:byt s (yr s r).pos=c
   ·rw [zim h1 h3]
    exact (At.sh hga.at (zme hne hb h2)).res h1
   ·have e:=(ka h1).1
    have hi:=hin _ d o _ hgo (by rw [e];exact hd) hne hga
    obtain ⟨w1,w2,w3,w4⟩:=zq1 hne hb h2
    by_cases h4:(it (yr s r)).cd=0
    ·have hs:=hit _ hgo (by rw [e];exact hd) h4
     have hi2:=zmp hs.ok (hi.1 h4)
     by_cases h5:(yr s (it (yr s r))).cd=0
     ·have hc:=cm_res (c:=c) (hs.ok.gap h5) (hi2.1 h5)
      by_cases h6:(cmR s (yr s (it (yr s r))) c).cd=0
      ·have hr:=zef hit ho hd h1 h4 h5 h6
       have hlt:=hr.lt
       have hlp:=hr.ok.pos
       rw [zpq h1 h3 h4 h5 ⟨h6,hlt,by omega⟩]
       have:=ih (s.length-(cmR s (yr s (it (yr s r))) c).pos) (by omega) k _ d _ S rfl hr.ok (by rw [hr.dp];exact hd) (hc.1 h6) w1 w2 w3
       rw [w4] at this
       exact this
      ·rw [zps h1 h3 h4 h5 h6];exact hc.bad h6
     ·rw [zpr h1 h3 h4 h5];exact hi2.bad h5
    ·rw [zpp h1 h3 h4];exact hi.bad h4
  ·rw [zil h1];exact hg.bad h1
theorem zqs {o:Stk} {x:Bool×Nat}:oN o++[x]≠[]:=by simp
theorem co_res {s:Bs} [Sm s] {it:Rd→Rd} {c k:Int} {r:Rd} {p:Pp} {d:Int} {o:Stk} {S:List Nat} (hl:r.pos<s.length) (ho:Ok s r) (hit:r.dp<40→zf8 s (r.dp+1) it) (hin:r.dp<40→ItN s (r.dp+1) (decide (k=4)) it) (hk:k=3∨k=4) (h:At r d o S) (hn:zfk d o) (hp:zep p):Res s (coR s it c k r p) (nN d o) (oN o) S:=by
 have h1:=zxy (sg:=r.pos) ho.cd h hn hp hk (st:=6) (by decide) ho.pos
 unfold coR
 split
 ·rename_i h2;exact h1.bad h2
 ·rename_i h2
  have h2:(opR r k 6 p r.pos).cd=0:=by simpa using h2
  obtain ⟨h3,e1,e2,e3,e4,e5,h4⟩:=zma ho hl h2
  have hok:Ok s (atR (opR r k 6 p r.pos) (r.pos+1)):=by
   obtain ⟨e,_⟩:=zhn h2
   have hsz:=ho.sz
   refine ⟨h2,hl, ?_, ?_, ?_, ?_, ?_, ?_⟩
   ·simp only [atR];rw [e];simp [zn,ho.dn]
   ·simp only [atR];rw [e4,e2];have:=ho.bs;simp;omega
   ·simp only [atR];omega
   ·simp only [atR];rw [e2];simp;omega
   ·simp only [atR];rw [e3];exact ho.hd
   ·simp only [atR];rw [e3];exact ho.pf
  have:=clL_res (c:=c) (hit h4) (hin h4) _ r.ev.length (atR (opR r k 6 p r.pos) (r.pos+1)) (nN d o) (oN o++[(decide (k=4),0)]) S rfl hok e5 (h1.1 h2).at zqs (by rw [zg0]) (fun _=>by rw [zg0];rfl)
  rw [zlu] at this
  exact this
theorem ptp_nil:zep (⟨false,[],[],0⟩:Pp):=⟨by decide,by decide⟩
theorem zr3 {s:Bs} {r:Rd} {t:Bs} {st:Int} {d:Int} {o:Stk} {S:List Nat} (ht:t.length≤16777216) (ho:r.cd=0) (h:At r d o S) (hn:zfk d o) (hs:1≤st∧st≤5):Res s (y5 r st t [] []) (nN d o) (oN o) S:=zqh (p:=(⟨false,[],[],0⟩:Pp)) ht ho h hn ptp_nil hs
theorem zyk {d:Int} {o:Stk} (h:o≠[]):zfk d o∧nN d o=d∧oN o=zeo o:=⟨fun h1=>absurd h1 h,if_neg h,if_neg h⟩
theorem pa_res {s:Bs} [Sm s] {sb:Rd→Rd} {r:Rd} {d:Int} {o:Stk} {S:List Nat} (ho:Ok s r) (hit:zf8 s r.dp sb) (hin:NoN s r.dp sb) (h:At r d o S) (hne:o≠[]):Res s (paR s sb r) d (inB true o) S:=by
 have h1:=zxe ho h
 unfold paR
 split
 ·rename_i h2;exact h1.1.bad h2
 ·rename_i h2
  have h2:(prF s r).cd=0:=by simpa using h2
  have hfo:=ho.prF h2
  obtain ⟨q,ef,_⟩:=zfs ho.pos ho.cd h2
  obtain ⟨n1,n2,n3⟩:=zyk (d:=d) hne
  have h3:=sc_res (c1:=125) (c2:=58) hfo (h1.1.1 h2) n1 (h1.2 h2)
  rw [n2,n3] at h3
  split
  ·rename_i h4;exact h3.bad h4
  ·rename_i h4
   have h4:(scR s (prF s r) (prP s true r) 125 58).cd=0:=by simpa using h4
   have hk:=zxx ho rfl h2 rfl h4
   have h5:=zmp hk.ok (h3.1 h4)
   split
   ·rename_i h6;exact h5.bad h6
   ·rename_i h6
    have h6:(yr s (scR s (prF s r) (prP s true r) 125 58)).cd=0:=by simpa using h6
    have hgo:=hk.ok.gap h6
    have hga:=h5.1 h6
    have hdp:(yr s (scR s (prF s r) (prP s true r) 125 58)).dp=r.dp:=by rw [(ka h6).1];exact hk.dp
    generalize yr s (scR s (prF s r) (prP s true r) 125 58)=g at *
    obtain ⟨m1,m2,m3⟩:=zyk (d:=d) (zdg hne)
    have e:inB true o=zeo (zeo o):=rfl
    rw [e]
    unfold paK
    split
    ·rename_i h7
     unfold paV
     have hl:=zy h7.1 (by decide)
     have hao:Ok s (atR g (g.pos+1)):=hgo.at (by omega) hl
     have h8:=zmp hao hga.at
     split
     ·rename_i h9;exact h8.bad h9
     ·rename_i h9
      have h9:(yr s (atR g (g.pos+1))).cd=0:=by simpa using h9
      split
      ·have:=zr3 (t:=[]) (st:=1) (by simp) h9 (h8.1 h9) m1 (s:=s) (by decide)
       rw [m2,m3] at this;exact this
      ·have:=hin _ _ _ _ (hao.gap h9) (by rw [(ka h9).1];exact hdp) m1 (h8.1 h9)
       rw [m2,m3] at this;exact this
    ·have:=zr3 (t:=[]) (st:=1) (by simp) hgo.cd hga m1 (s:=s) (by decide)
     rw [m2,m3] at this;exact this
theorem zz0 {s:Bs} [Sm s] {sb:Rd→Rd} {r:Rd} {p:Pp} {d:Int} {o:Stk} {S:List Nat} (ho:Ok s r) (hit:r.dp<40→zf8 s (r.dp+1) sb) (hpa:r.dp<40→zf8 s (r.dp+1) (paR s sb)) (hin:r.dp<40→NoN s (r.dp+1) sb) (h:At r d o S) (hn:zfk d o) (hp:zep p):Res s (boR s sb r p) (nN d o) (oN o) S:=by
 unfold boR
 split
 ·rename_i h1
  exact co_res (zy h1 (by decide)) ho hit (fun h4=>(hin h4).it) (.inl rfl) h hn hp
 ·split
  ·rename_i h1
   refine co_res (zy h1 (by decide)) ho hpa (fun h4=>?_) (.inr rfl) h hn hp
   intro r' d' o' S' h5 h6 h7 h8
   exact pa_res h5 (by rw [h6];exact hit h4) (by rw [h6];exact hin h4) h8 h7
  ·exact sc_res ho h hn hp
theorem no_res {s:Bs} [Sm s] {sb:Rd→Rd} {r:Rd} {d:Int} {o:Stk} {S:List Nat} (ho:Ok s r) (hit:r.dp<40→zf8 s (r.dp+1) sb) (hpa:r.dp<40→zf8 s (r.dp+1) (paR s sb)) (hin:r.dp<40→NoN s (r.dp+1) sb) (h:At r d o S) (hn:zfk d o):Res s (noR s sb r) (nN d o) (oN o) S:=by
 have h1:=zxe ho h
 unfold noR
 split
 ·rename_i h2;exact h1.1.bad h2
 ·rename_i h2
  have h2:(prF s r).cd=0:=by simpa using h2
  obtain ⟨q,ef,_⟩:=zfs ho.pos ho.cd h2
  have hd:(prF s r).dp=r.dp:=by rw [ef];rfl
  exact zz0 (ho.prF h2) (by rw [hd];exact hit) (by rw [hd];exact hpa) (by rw [hd];exact hin) (h1.1.1 h2) hn (h1.2 h2)
theorem zyf {s:Bs} {d D:Nat} (h:D+d=40):zf8 s D (noF s d):=fun r ho hd hz=>zhs d r ho (by omega) hz
theorem noF_pa {s:Bs} {d D:Nat} (h:D+d=40):zf8 s D (paR s (noF s d)):=fun r ho hd hz=>zhm ho (by rw [hd];exact zyf h) hz
theorem zye {s:Bs} [Sm s]:∀ (n D:Nat),D+n=40→NoN s D (noF s n)
 | 0,D,h0=>fun r d o S ho hd hn h=>no_res ho (fun h4=>by omega) (fun h4=>by omega) (fun h4=>by omega) h hn
 | n+1,D,h0=>fun r d o S ho hd hn h=>no_res ho (fun h4=>zyf (by omega)) (fun h4=>noF_pa (by omega)) (fun h4=>zye n _ (by omega)) h hn
theorem bs_res {s:Bs} [Sm s] {r:Rd} {p:Pp} {d:Int} {o:Stk} {S:List Nat} (ho:Ok s r) (h:At r d o S) (hn:zfk d o) (hp:zep p):Res s (boS s r p) (nN d o) (oN o) S:=by
 have hd:=ho.dp
 unfold boS
 split
 ·exact zz0 ho (fun h4=>by omega) (fun h4=>by omega) (fun h4=>by omega) h hn hp
 ·rename_i n e
  exact zz0 ho (fun h4=>zyf (by omega)) (fun h4=>noF_pa (by omega)) (fun h4=>zye n _ (by omega)) h hn hp
end Go.Pl
end
