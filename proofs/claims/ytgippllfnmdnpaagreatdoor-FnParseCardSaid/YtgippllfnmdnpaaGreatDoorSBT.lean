/- Own text: part SBT. -/
import Derived.Test.YtgippllfnmdnpaaGreatDoorSBA
import Derived.Test.YtgippllfnmdnpaaGreatDoorSBR
import Derived.Test.YtgippllfnmdnpaaGreatDoorSBS
import Derived.Test.YtgippllfnmdnpaaGreatDoorSBC
import Derived.Test.YtgippllfnmdnpaaGreatDoorSBQ
section
set_option linter.unusedVariables false
set_option linter.unusedSimpArgs false
set_option linter.unusedSectionVars false
set_option linter.unnecessarySimpa false
namespace Go.T
variable [Go.Vg.Glob]
open Go.Proofs Go.Vg Go.RowKit Go.TT Go.Pl
set_option maxRecDepth 10000
set_option maxHeartbeats 4000000
theorem z0u (n:Int) (hp:0≤n∧n≤4294967295):PF Tryz.prog 218 [.i .i64 n] (.s (dec n.toNat)):=by
 refine ⟨rfl,rfl,FnK.of (cf:=zk Tryz.prog te [] 21 0 false (fun _=>false) (kp [(0,[0]),(1,[0,3]),(2,[0,3,9]),(3,[0,3]),(4,[0,3]),(5,[2])]) [] []) (zf te_ok (l:=[]) (trivial) zc) Tryz.func218 rfl rfl rfl (by simp [zk]) (by simp [zk]) (rs:=[.tmp 2]) rfl 100000 ?_⟩
 simp only [↓XC,XV,XT,Yg,reduceIte,Nat.reduceAdd,Nat.reduceLT,Nat.reduceEqDiff,Nat.reduceBEq,Nat.reduceLeDiff,reduceCtorEq,Nat.reduceSub,Nat.reduceMul,Int.reduceToNat,Int.reduceLT,Int.reduceLE,TES]
 refine yq.of (ι:={x:Nat×List UInt8 // (x.2=[]∧x.1=n.toNat)∨(x.2≠[]∧zf9 n.toNat x.1 x.2)}) (fun x=>⟨[(0,.i .i64 (x.1.1:Nat)),(3,.s x.1.2)],[]⟩) (fun x=>if x.1.2=[] then x.1.1+1 else x.1.1) ⟨(n.toNat,[]),.inl ⟨rfl,rfl⟩⟩ (by rw [show ((n.toNat:Nat):Int)=n by omega];exact Ent.refl _ _) ?_
 rintro ⟨⟨m,out⟩,hm⟩
 simp only [↓XC,XV,XT,Yg,reduceIte,Nat.reduceAdd,Nat.reduceLT,Nat.reduceEqDiff,Nat.reduceBEq,Nat.reduceLeDiff,reduceCtorEq,Nat.reduceSub,Nat.reduceMul,Int.reduceToNat,Int.reduceLT,Int.reduceLE,TES]
 simp only at hm
 have e1:(m:Int).tmod 10=((m % 10:Nat):Int):=zss m 10
 have e2:(m:Int).tdiv 10=((m / 10:Nat):Int):=tdiv_nat m 10
 simp only [e1,e2]
 have e3:((48:Int)+((m % 10:Nat):Int)).toNat=48+m % 10:=by omega
 have hmk:m≤n.toNat:=by rcases hm with h | h;omega;exact h.2.1
 have hl:out.length≤n.toNat+1:=by
  rcases hm with h | h
  ·rw [h.1];simp
  ·exact h.2.len
 refine ⟨fun hc=>Chk.mk (by decide) fun _=>Chk.mk (by simp only [inR];omega) fun _=>Chk.mk (by simp only [inR];omega) fun _=>⟨isU8_one,Chk.mk (by omega) fun _=>⟨by decide,Chk.mk (by simp only [inR];omega) fun _=>?_⟩⟩,fun hc=>?_⟩
 ·rw [e3]
  refine ⟨⟨(m / 10,UInt8.ofNat (48+m % 10)::out),.inr ⟨by simp, ?_⟩⟩, ?_,Ent.nil (by simp [zi,Vg.look,SV.mapH])⟩
  ·rcases hm with ⟨h1,h2⟩ | ⟨h1,h2⟩
   ·subst h1
    subst h2
    refine ⟨by omega, ?_⟩
    rw [zp4 n.toNat]
    by_cases h9:n.toNat<10
    ·rw [if_pos h9,if_pos (by omega),show n.toNat % 10=n.toNat by omega]
    ·rw [if_neg h9,if_neg (by omega)]
   ·refine h2.step ?_
    simp only [Bool.or_eq_true,decide_eq_true_eq] at hc
    rcases hc with hc | hc
    ·exact absurd hc h1
    ·omega
  ·simp only [reduceCtorEq,if_false]
   split
   ·omega
   ·rename_i h9
    simp only [Bool.or_eq_true,decide_eq_true_eq] at hc
    rcases hc with hc | hc
    ·exact absurd hc h9
    ·omega
 ·simp only [Bool.or_eq_false_iff,decide_eq_false_iff_not] at hc
  rcases hm with ⟨h1,_⟩ | ⟨h1,h2⟩
  ·exact absurd h1 hc.1
  ·have:=h2.2
   rw [if_pos (by omega)] at this
   rw [this]
noncomputable def zch:PE:=peR (fun (n:Int)=>[.i .i64 n]) (fun (n:Int)=>0≤n∧n≤4294967295) (fun (n:Int)=>.s (dec n.toNat))
theorem zmc {n:Int}:zch [.i .i64 n]=some (0≤n∧n≤4294967295,.s (dec n.toNat)):=yb (by rintro a b h;simp_all []) n
theorem zmb:PE1 Tryz.prog 218 zch:=yf (by rintro n hp;exact z0u n hp)
theorem z1p (n:Int):PF Tryz.prog 157 [.i .i64 n] (.s (numX n)):=by
 refine ⟨rfl,rfl,FnK.of (cf:=zk Tryz.prog te [(147,qq),(218,zch)] 8 0 false (fun _=>false) (kp [(0,[0]),(1,[0,5]),(2,[2]),(3,[2])]) [] []) (zf te_ok (l:=[(147,qq),(218,zch)]) (⟨ka,zmb,trivial⟩) zc) Tryz.func157 rfl rfl rfl (by simp [zk]) (by simp [zk]) (rs:=[.tmp 2]) rfl 100000 ?_⟩
 simp only [↓XC,XV,XT,Yg,reduceIte,Nat.reduceAdd,Nat.reduceLT,Nat.reduceEqDiff,Nat.reduceBEq,Nat.reduceLeDiff,reduceCtorEq,Nat.reduceSub,Nat.reduceMul,Int.reduceToNat,Int.reduceLT,Int.reduceLE,TES,wc,zmc]
 unfold numX
 refine ⟨fun h=>by rw [if_neg (by simp at h;omega)],fun h=>?_⟩
 have h2:0≤n∧n≤4294967295:=by simp at h;omega
 exact Chk.mk h2 fun _=>by rw [if_pos h2]
noncomputable def uw:PE:=peR (fun (n:Int)=>[.i .i64 n]) (fun (n:Int)=>True) (fun (n:Int)=>.s (numX n))
theorem zhm {n:Int}:uw [.i .i64 n]=some (True,.s (numX n)):=yb (by rintro a b h;simp_all []) n
theorem zhl:PE1 Tryz.prog 157 uw:=yf (by rintro n hp;exact z1p n)
theorem escaped (s:Bs) (hp:s.length≤1073741824):PF Tryz.prog 156 [.s s] (.s (zcs s)):=by
 refine ⟨rfl,rfl,FnK.of (cf:=zk Tryz.prog te [] 53 0 false (fun _=>false) (kp [(0,[0]),(1,[0,3]),(2,[0,3,7,8]),(3,[0,3,7,8,9]),(4,[0,3,4,7,8]),(5,[0,3,4,7,8,13]),(6,[0,3,7,8]),(7,[0,3,4,7,8,13,20]),(8,[0,3,7,8]),(9,[0,3,4,7,8,13,25]),(10,[0,3,7,8]),(11,[0,3,4,7,8,13,30]),(12,[0,3,7,8]),(13,[0,3,4,7,8,13,35]),(14,[0,3,7,8]),(15,[0,3,4,7,8,13,40]),(16,[0,3,7,8]),(17,[0,3,4,7,8,45]),(18,[0,3,7,8]),(19,[0,3,7,8]),(20,[2])]) [] []) (zf te_ok (l:=[]) (trivial) zc) Tryz.func156 rfl rfl rfl (by simp [zk]) (by simp [zk]) (rs:=[.tmp 2]) rfl 100000 ?_⟩
 simp only [↓XC,XV,XT,Yg,reduceIte,Nat.reduceAdd,Nat.reduceLT,Nat.reduceEqDiff,Nat.reduceBEq,Nat.reduceLeDiff,reduceCtorEq,Nat.reduceSub,Nat.reduceMul,Int.reduceToNat,Int.reduceLT,Int.reduceLE,TES,XR]
 refine yq.of (ι:={i:Nat // i≤s.length}) (fun x=>⟨[(0,.s s),(3,.slc 0 0 (zcs (s.take x.1)).length),(7,.i .i64 (s.length:Nat)),(8,.i .i64 (x.1:Nat))],[some (.row false 1 (zcs (s.take x.1)).length (zh vo 0 (zcs (s.take x.1))))]⟩) (fun x=>s.length-x.1) ⟨0,Nat.zero_le _⟩ (Ent.ren1 [0] (by decide) (by simp only [Yd];exact zg fun j hj=>absurd hj (Nat.not_lt_zero _)) (by simp [zi,Vg.look,SV.mapH,muL,zcs])) ?_
 rintro ⟨i,hi⟩
 simp only [↓XC,XV,XT,Yg,reduceIte,Nat.reduceAdd,Nat.reduceLT,Nat.reduceEqDiff,Nat.reduceBEq,Nat.reduceLeDiff,reduceCtorEq,Nat.reduceSub,Nat.reduceMul,Int.reduceToNat,Int.reduceLT,Int.reduceLE,TES,XR]
 obtain ⟨T,hT⟩:∃ T,T=zcs (s.take i):=⟨_,rfl⟩
 rw [←hT]
 have hTl:T.length≤2 * 1073741824:=by
  have:=zgu (s.take i)
  rw [←hT,List.length_take] at this
  omega
 refine ⟨fun hl=>Chk.mk (by omega) fun _=>?_,fun hl=>?_⟩
 ·refine ⟨fun hc=>?_,fun c1=>?_⟩
  ·have hb:s.getD i 0=92:=UInt8.toNat_inj.1 (by have h9:(((s.getD i 0).toNat:Nat):Int)=92:=(by omega);show (s.getD i 0).toNat=92;omega)
   have e:zcs (s.take (i+1))=T++[92,92]:=by rw [uk (by omega),hb,hT];rfl
   have el:(zcs (s.take (i+1))).length=T.length+2:=by rw [e];simp
   refine ⟨zaj rfl rfl,Chk.mk (by omega) fun _=>Chk.mk (by simp only [inR];omega) fun _=>⟨⟨i+1,by omega⟩,by simp only;omega, ?_⟩⟩
   simp only [el]
   exact (Ent.ren1 [2] (by decide) (by simp only [Yd];exact zg fun j hj=>(by rw [e];exact (zb5 T [92,92] rfl (fun _ _=>rfl) rfl j (by simpa using hj)).symm)) (by simp [zi,Vg.look,SV.mapH,muL,Int.natCast_add,Int.natCast_one]))
  refine ⟨fun hc=>?_,fun c2=>?_⟩
  ·have hb:s.getD i 0=10:=UInt8.toNat_inj.1 (by have h9:(((s.getD i 0).toNat:Nat):Int)=10:=(by omega);show (s.getD i 0).toNat=10;omega)
   have e:zcs (s.take (i+1))=T++[92,110]:=by rw [uk (by omega),hb,hT];rfl
   have el:(zcs (s.take (i+1))).length=T.length+2:=by rw [e];simp
   refine ⟨zaj rfl rfl,Chk.mk (by omega) fun _=>Chk.mk (by simp only [inR];omega) fun _=>⟨⟨i+1,by omega⟩,by simp only;omega, ?_⟩⟩
   simp only [el]
   exact (Ent.ren1 [2] (by decide) (by simp only [Yd];exact zg fun j hj=>(by rw [e];exact (zb5 T [92,110] rfl (fun _ _=>rfl) rfl j (by simpa using hj)).symm)) (by simp [zi,Vg.look,SV.mapH,muL,Int.natCast_add,Int.natCast_one]))
  refine ⟨fun hc=>?_,fun c3=>?_⟩
  ·have hb:s.getD i 0=9:=UInt8.toNat_inj.1 (by have h9:(((s.getD i 0).toNat:Nat):Int)=9:=(by omega);show (s.getD i 0).toNat=9;omega)
   have e:zcs (s.take (i+1))=T++[92,116]:=by rw [uk (by omega),hb,hT];rfl
   have el:(zcs (s.take (i+1))).length=T.length+2:=by rw [e];simp
   refine ⟨zaj rfl rfl,Chk.mk (by omega) fun _=>Chk.mk (by simp only [inR];omega) fun _=>⟨⟨i+1,by omega⟩,by simp only;omega, ?_⟩⟩
   simp only [el]
   exact (Ent.ren1 [2] (by decide) (by simp only [Yd];exact zg fun j hj=>(by rw [e];exact (zb5 T [92,116] rfl (fun _ _=>rfl) rfl j (by simpa using hj)).symm)) (by simp [zi,Vg.look,SV.mapH,muL,Int.natCast_add,Int.natCast_one]))
  refine ⟨fun hc=>?_,fun c4=>?_⟩
  ·have hb:s.getD i 0=13:=UInt8.toNat_inj.1 (by have h9:(((s.getD i 0).toNat:Nat):Int)=13:=(by omega);show (s.getD i 0).toNat=13;omega)
   have e:zcs (s.take (i+1))=T++[92,114]:=by rw [uk (by omega),hb,hT];rfl
   have el:(zcs (s.take (i+1))).length=T.length+2:=by rw [e];simp
   refine ⟨zaj rfl rfl,Chk.mk (by omega) fun _=>Chk.mk (by simp only [inR];omega) fun _=>⟨⟨i+1,by omega⟩,by simp only;omega, ?_⟩⟩
   simp only [el]
   exact (Ent.ren1 [2] (by decide) (by simp only [Yd];exact zg fun j hj=>(by rw [e];exact (zb5 T [92,114] rfl (fun _ _=>rfl) rfl j (by simpa using hj)).symm)) (by simp [zi,Vg.look,SV.mapH,muL,Int.natCast_add,Int.natCast_one]))
  refine ⟨fun hc=>?_,fun c5=>?_⟩
  ·have hb:s.getD i 0=8:=UInt8.toNat_inj.1 (by have h9:(((s.getD i 0).toNat:Nat):Int)=8:=(by omega);show (s.getD i 0).toNat=8;omega)
   have e:zcs (s.take (i+1))=T++[92,98]:=by rw [uk (by omega),hb,hT];rfl
   have el:(zcs (s.take (i+1))).length=T.length+2:=by rw [e];simp
   refine ⟨zaj rfl rfl,Chk.mk (by omega) fun _=>Chk.mk (by simp only [inR];omega) fun _=>⟨⟨i+1,by omega⟩,by simp only;omega, ?_⟩⟩
   simp only [el]
   exact (Ent.ren1 [2] (by decide) (by simp only [Yd];exact zg fun j hj=>(by rw [e];exact (zb5 T [92,98] rfl (fun _ _=>rfl) rfl j (by simpa using hj)).symm)) (by simp [zi,Vg.look,SV.mapH,muL,Int.natCast_add,Int.natCast_one]))
  refine ⟨fun hc=>?_,fun c6=>?_⟩
  ·have hb:s.getD i 0=0:=UInt8.toNat_inj.1 (by have h9:(((s.getD i 0).toNat:Nat):Int)=0:=(by omega);show (s.getD i 0).toNat=0;omega)
   have e:zcs (s.take (i+1))=T++[92,48]:=by rw [uk (by omega),hb,hT];rfl
   have el:(zcs (s.take (i+1))).length=T.length+2:=by rw [e];simp
   refine ⟨zaj rfl rfl,Chk.mk (by omega) fun _=>Chk.mk (by simp only [inR];omega) fun _=>⟨⟨i+1,by omega⟩,by simp only;omega, ?_⟩⟩
   simp only [el]
   exact (Ent.ren1 [2] (by decide) (by simp only [Yd];exact zg fun j hj=>(by rw [e];exact (zb5 T [92,48] rfl (fun _ _=>rfl) rfl j (by simpa using hj)).symm)) (by simp [zi,Vg.look,SV.mapH,muL,Int.natCast_add,Int.natCast_one]))
  have hx:∀ y:UInt8,¬(((s.getD i 0).toNat:Nat):Int)=(y.toNat:Nat)→¬s.getD i 0=y:=fun y h h2=>h (by rw [h2])
  have e:zcs (s.take (i+1))=T++[s.getD i 0]:=by
   rw [uk (by omega),hT];unfold esc1
   rw [if_neg (hx 92 (by simpa using c1)),if_neg (hx 10 (by simpa using c2)),if_neg (hx 9 (by simpa using c3)),if_neg (hx 13 (by simpa using c4)),if_neg (hx 8 (by simpa using c5)),if_neg (hx 0 (by simpa using c6))]
  have el:(zcs (s.take (i+1))).length=T.length+1:=by rw [e];simp
  refine Chk.mk (by omega) fun _=>⟨qn rfl rfl,Chk.mk (by omega) fun _=>Chk.mk (by simp only [inR];omega) fun _=>⟨⟨i+1,by omega⟩,by simp only;omega, ?_⟩⟩
  simp only [el]
  exact (Ent.ren1 [2] (by decide) (by simp only [Yd];exact zg fun j hj=>(by rw [e];exact (zb5 T [s.getD i 0] rfl (fun _ _=>rfl) rfl j (by simpa using hj)).symm)) (by simp [zi,Vg.look,SV.mapH,muL,Int.natCast_add,Int.natCast_one]))
 ·obtain rfl:i=s.length:=by omega
  rw [List.take_length] at hT
  refine ⟨fun j hj=>zpb T j,Chk.mk (Nat.le_refl _) fun _=>?_⟩
  rw [zdn,hT]
noncomputable def zcg:PE:=peR (fun (s:Bs)=>[.s s]) (fun (s:Bs)=>s.length≤1073741824) (fun (s:Bs)=>.s (zcs s))
theorem zma {s:Bs}:zcg [.s s]=some (s.length≤1073741824,.s (zcs s)):=yb (by rintro a b h;simp_all []) s
theorem zl9:PE1 Tryz.prog 156 zcg:=yf (by rintro s hp;exact escaped s hp)
theorem zzn (k st:Int) (fl:Bool) (x a g:Bs) (p c:Int) (hp:a.length≤1048576∧g.length≤1048576):PF Tryz.prog 155 [.agg [.i .i64 k,.i .i64 st,.b fl,.s x,.s a,.s g,.i .i64 p,.i .i64 c]] (.s (mkdT a g)):=by
 refine ⟨rfl,rfl,FnK.of (cf:=zk Tryz.prog te [] 20 0 false (fun _=>false) (kp [(0,[1]),(1,[1,3]),(2,[1,3,6]),(3,[1,3]),(4,[1,3,12]),(5,[3]),(6,[2])]) [] []) (zf te_ok (l:=[]) (trivial) zc) Tryz.func155 rfl rfl rfl (by simp [zk]) (by simp [zk]) (rs:=[.tmp 2]) rfl 100000 ?_⟩
 simp only [↓XC,XV,XT,Yg,reduceIte,Nat.reduceAdd,Nat.reduceLT,Nat.reduceEqDiff,Nat.reduceBEq,Nat.reduceLeDiff,reduceCtorEq,Nat.reduceSub,Nat.reduceMul,Int.reduceToNat,Int.reduceLT,Int.reduceLE,TES]
 unfold mkdT
 repeat' (first | with_reducible refine Chk.mk ?_ fun _=>?_ | with_reducible refine And.intro ?_ ?_ | intro _)
 all_goals (first | omega | (simp_all))
noncomputable def zdv:PE:=peR (fun (x:Int×Int×Bool×Bs×Bs×Bs×Int×Int)=>match x with | (k,st,fl,x,a,g,p,c)=>[.agg [.i .i64 k,.i .i64 st,.b fl,.s x,.s a,.s g,.i .i64 p,.i .i64 c]]) (fun (x:Int×Int×Bool×Bs×Bs×Bs×Int×Int)=>match x with | (k,st,fl,x,a,g,p,c)=>a.length≤1048576∧g.length≤1048576) (fun (x:Int×Int×Bool×Bs×Bs×Bs×Int×Int)=>match x with | (k,st,fl,x,a,g,p,c)=>.s (mkdT a g))
theorem zoh {k st:Int} {fl:Bool} {x a g:Bs} {p c:Int}:zdv [.agg [.i .i64 k,.i .i64 st,.b fl,.s x,.s a,.s g,.i .i64 p,.i .i64 c]]=some (a.length≤1048576∧g.length≤1048576,.s (mkdT a g)):=yb (by rintro ⟨a0,a1,a2,a3,a4,a5,a6,a7⟩ ⟨b0,b1,b2,b3,b4,b5,b6,b7⟩ h;simp_all []) (k,st,fl,x,a,g,p,c)
theorem zog:PE1 Tryz.prog 155 zdv:=yf (by rintro ⟨k,st,fl,x,a,g,p,c⟩ hp;exact zzn k st fl x a g p c hp)
theorem z1q (k st:Int) (fl:Bool) (x a g:Bs) (p c:Int) (hp:x.length≤16777216∧a.length≤1048576∧g.length≤1048576):PF Tryz.prog 77 [.agg [.i .i64 k,.i .i64 st,.b fl,.s x,.s a,.s g,.i .i64 p,.i .i64 c]] (.s (zwv (⟨k,st,fl,x,a,g,p,c⟩:Ev))):=by
 refine ⟨rfl,rfl,FnK.of (cf:=zk Tryz.prog te [(72,j3),(155,zdv),(156,zcg),(157,uw)] 70 0 false (fun _=>false) (kp [(0,[1]),(1,[1,7]),(2,[2]),(3,[1,9]),(4,[1,9,10]),(5,[2]),(6,[1,9,12]),(7,[15]),(8,[2]),(9,[2]),(10,[1,9,16]),(11,[1,9,16]),(12,[1,3]),(13,[1,3,4]),(14,[1,3,4,21]),(15,[1,3,4]),(16,[1,3,4,24]),(17,[1,3,4]),(18,[2]),(19,[1,9,31]),(20,[2]),(21,[1,9,48]),(22,[2]),(23,[1,9,53]),(24,[2]),(25,[1,9,55]),(26,[58]),(27,[2]),(28,[2]),(29,[1,59]),(30,[2]),(31,[2])]) [] [(20,[],[],.q1 4 (.q1 7 (.q1 11 (.q0 0 [0] (.q0 5 [5] (.q1 6 (.q0 8 [8] (.q1 9 (.q0 12 [12] (.alt 1 (.q1 2 (.q1 3 (.q1 10 (.alt 13 (.q1 14 (.q1 15 (.fin))) (.fin))))) (.fin))))))))))),(31,[],[],.q1 0 (.q1 5 (.q0 1 [1] (.q0 6 [6] (.alt 2 (.q1 3 (.q1 4 (.alt 7 (.q1 8 (.q1 9 (.fin))) (.fin)))) (.fin))))))]) (zf te_ok (l:=[(72,j3),(155,zdv),(156,zcg),(157,uw)]) (⟨zbv,zog,zl9,zhl,trivial⟩) zc) Tryz.func77 rfl rfl rfl (by simp [zk]) (by simp [zk]) (rs:=[.tmp 2]) rfl 100000 ?_⟩
 simp only [↓XC,XV,XT,Yg,reduceIte,Nat.reduceAdd,Nat.reduceLT,Nat.reduceEqDiff,Nat.reduceBEq,Nat.reduceLeDiff,reduceCtorEq,Nat.reduceSub,Nat.reduceMul,Int.reduceToNat,Int.reduceLT,Int.reduceLE,TES,j8,zoh,zma,zhm]
 have hm:=zt1 a g
 have hn1:=zgq c
 have hn2:=zgq p
 have hx:=zgu x
 have h5:=evOk_st (e:=(⟨k,st,fl,x,a,g,p,c⟩:Ev))
 simp only at h5
 cases hE:uj (⟨k,st,fl,x,a,g,p,c⟩:Ev)
 ·refine ⟨fun _=>by unfold zwv;rw [if_pos hE],fun h=>by simp at h⟩
 refine ⟨fun h=>by simp at h,fun _=>?_⟩
 have h5:=h5 hE
 rw [z0l hE]
 clear hE
 repeat' (first | with_reducible refine Chk.mk ?_ fun _=>?_ | with_reducible refine And.intro ?_ ?_ | intro _)
 all_goals (first | omega | (simp only [inR];omega) | (simp only [List.length_drop,List.length_take,List.length_cons,List.length_nil];omega) | decide +kernel | (simp_all [evTy,sub,stW]))
noncomputable def ux:PE:=peR (fun (x:Int×Int×Bool×Bs×Bs×Bs×Int×Int)=>match x with | (k,st,fl,x,a,g,p,c)=>[.agg [.i .i64 k,.i .i64 st,.b fl,.s x,.s a,.s g,.i .i64 p,.i .i64 c]]) (fun (x:Int×Int×Bool×Bs×Bs×Bs×Int×Int)=>match x with | (k,st,fl,x,a,g,p,c)=>x.length≤16777216∧a.length≤1048576∧g.length≤1048576) (fun (x:Int×Int×Bool×Bs×Bs×Bs×Int×Int)=>match x with | (k,st,fl,x,a,g,p,c)=>.s (zwv (⟨k,st,fl,x,a,g,p,c⟩:Ev)))
theorem zbu {k st:Int} {fl:Bool} {x a g:Bs} {p c:Int}:ux [.agg [.i .i64 k,.i .i64 st,.b fl,.s x,.s a,.s g,.i .i64 p,.i .i64 c]]=some (x.length≤16777216∧a.length≤1048576∧g.length≤1048576,.s (zwv (⟨k,st,fl,x,a,g,p,c⟩:Ev))):=yb (by rintro ⟨a0,a1,a2,a3,a4,a5,a6,a7⟩ ⟨b0,b1,b2,b3,b4,b5,b6,b7⟩ h;simp_all []) (k,st,fl,x,a,g,p,c)
theorem zhn:PE1 Tryz.prog 77 ux:=yf (by rintro ⟨k,st,fl,x,a,g,p,c⟩ hp;exact z1q k st fl x a g p c hp)
end Go.T
end
section
set_option linter.unusedVariables false
set_option linter.unusedSimpArgs false
set_option linter.unusedSectionVars false
set_option linter.unnecessarySimpa false
namespace Go.T
variable [Go.Vg.Glob]
open Go.Proofs Go.Vg Go.RowKit Go.TT Go.Pl
set_option maxRecDepth 10000
set_option maxHeartbeats 4000000
theorem zwo (l:List Ev) (hp:l.length≤1048576∧∀ i,i<l.length→(l.getD i evz).text.length≤16777216∧(l.getD i evz).anchor.length≤1048576∧(l.getD i evz).tag.length≤1048576):PF Tryz.prog 20 [.fs 8 (l.map evc)] (.s (zng l)):=by
 refine ⟨rfl,rfl,FnK.of (cf:=zk Tryz.prog te [(77,ux)] 23 0 false (fun _=>false) (kp [(0,[0]),(1,[0,3]),(2,[3,7,8,9]),(3,[3,7,8,9,10]),(4,[3,5,7,8,9]),(5,[3,7,8,9]),(6,[3,7,8,9]),(7,[3,7,8,9]),(8,[2])]) [] []) (zf te_ok (l:=[(77,ux)]) (⟨zhn,trivial⟩) zc) Tryz.func20 rfl rfl rfl (by simp [zk]) (by simp [zk]) (rs:=[.tmp 2]) rfl 100000 ?_⟩
 simp only [↓XC,XV,XT,Yg,seval,TES,zbu,XR,XRE]
 refine yq.of (ι:={i:Nat // i≤l.length}) (fun x=>⟨[(3,.slc 0 0 (zng (l.take x.1)).length),(7,.fs 8 (l.map evc)),(8,.i .i64 (l.length:Nat)),(9,.i .i64 (x.1:Nat))],[some (.row false 1 (zng (l.take x.1)).length (zh vo 0 (zng (l.take x.1))))]⟩) (fun x=>l.length-x.1) ⟨0,Nat.zero_le _⟩ (Ent.ren1 [0] (by decide) (by simp only [Yd];exact zg fun j hj=>absurd hj (Nat.not_lt_zero _)) (by simp [zi,Vg.look,SV.mapH,muL,zng])) ?_
 rintro ⟨i,hi⟩
 simp only [↓XC,XV,XT,Yg,seval,TES,zbu,XR,XRE]
 have hT:=zuf hp.2 i hi
 refine ⟨fun hl=>?_,fun hl=>?_⟩
 ·have hx:=hp.2 i (by omega)
  have hE:=zug hx.1 hx.2.1 hx.2.2
  have e:=zpz (l:=l) (i:=i) (by omega)
  obtain ⟨T,hTT⟩:∃ T,T=zng (l.take i):=⟨_,rfl⟩
  obtain ⟨E,hEE⟩:∃ E,E=zwv (l.getD i evz):=⟨_,rfl⟩
  rw [←hTT] at hT e ⊢
  rw [←hEE] at hE e ⊢
  have el:(zng (l.take (i+1))).length=T.length+E.length+1:=by rw [e];simp;omega
  refine Chk.mk (by omega) fun _=>Chk.mk hx fun _=>Chk.mk (by omega) fun _=>⟨qn rfl rfl,Chk.mk (by omega) fun _=>Chk.mk (by simp only [inR];omega) fun _=>⟨⟨i+1,by omega⟩,by simp only;omega, ?_⟩⟩
  simp only [el]
  exact (Ent.ren1 [4] (by decide) (by simp only [Yd];exact zg fun j hj=>(by rw [e];exact (zb5 (T++E) [10] (by simp) (fun j _=>cat_app T E rfl j) rfl j (by simpa [Nat.add_assoc] using hj)).symm)) (by simp [zi,Vg.look,SV.mapH,muL,Int.natCast_add,Int.natCast_one]))
 ·obtain rfl:i=l.length:=by omega
  rw [List.take_length] at hT ⊢
  refine ⟨fun j hj=>zpb _ j,Chk.mk (Nat.le_refl _) fun _=>?_⟩
  rw [zdn]
noncomputable def xp:PE:=peR (fun (l:List Ev)=>[.fs 8 (l.map evc)]) (fun (l:List Ev)=>l.length≤1048576∧∀ i,i<l.length→(l.getD i evz).text.length≤16777216∧(l.getD i evz).anchor.length≤1048576∧(l.getD i evz).tag.length≤1048576) (fun (l:List Ev)=>.s (zng l))
theorem zbc {l:List Ev}:xp [.fs 8 (l.map evc)]=some (l.length≤1048576∧∀ i,i<l.length→(l.getD i evz).text.length≤16777216∧(l.getD i evz).anchor.length≤1048576∧(l.getD i evz).tag.length≤1048576,.s (zng l)):=yb (by rintro a b h;simp_all [u3]) l
theorem zge:PE1 Tryz.prog 20 xp:=yf (by rintro l hp;exact zwo l hp)
end Go.T
end
section
set_option linter.unusedVariables false
set_option linter.unusedSimpArgs false
set_option linter.unusedSectionVars false
set_option linter.unnecessarySimpa false
namespace Go.T
variable [Go.Vg.Glob] [Go.Vg.GlobTabs 0 1]
open Go.Proofs Go.Vg Go.RowKit Go.TT Go.Pl
set_option maxRecDepth 10000
set_option maxHeartbeats 4000000
theorem law_FnParse (cd:Bs):PF Tryz.prog 3 [.fs 1 (cd.map vo)] (.b true):=by
 refine ⟨rfl,rfl,FnK.of (cf:=zk Tryz.prog te [(16,zck),(17,vn),(18,zaf),(19,zci),(20,xp)] 61 0 false (fun _=>false) (kp [(0,[0]),(1,[0,9]),(2,[2]),(3,[3]),(4,[3,4]),(5,[3,4,5]),(6,[3,4,5,27]),(7,[2]),(8,[3,4,5,6]),(9,[3,4,5,6,35]),(10,[2]),(11,[2])]) [] []) (zf te_ok (l:=[(16,zck),(17,vn),(18,zaf),(19,zci),(20,xp)]) (⟨zmi,zcy,zf0,zmf,zge,trivial⟩) zc) Tryz.func3 rfl rfl rfl (by simp [zk]) (by simp [zk]) (rs:=[.tmp 2]) rfl 100000 ?_⟩
 simp only [↓XC,XV,XT,Yg,seval,TES,zd1,u0,zbr,zd0,zbc,XR,XRE]
 intro h
 have hc:cd.length≤1048576:=by omega
 refine zl.ownQ (zrz cd hc) rfl ?_
 rintro _ _ ⟨s,hs,rfl,rfl⟩
 simp only [↓XC,XV,XT,Yg,seval,TES,zd1,u0,zbr,zd0,zbc,XR,XRE,zr,upd,muL,List.getElem?_nil,List.drop_nil,Option.map_none,SO.mapH,List.getElem?_cons_zero,List.getElem?_cons_succ]
 have hP:=psA_ok (s:=s)
 have hL:=psA_len s
 generalize psA s=l at *
 have hev:5 * l.length≤(zng l).length:=z0e fun x hx=>by
  obtain ⟨i,hi,rfl⟩:=List.getElem_of_mem hx
  have:=zd6 hP.nd hi
  rwa [List.getD_eq_getElem?_getD,List.getElem?_eq_getElem hi] at this
 obtain ⟨m,e,hl,hla⟩:=hP.la
 have h2:=zkf hP.nd
 have hg:l.getD ((l.length:Int)-1).toNat evz=e:=by
  rw [show ((l.length:Int)-1).toNat=l.length-1 by omega,hl,zmv]
 rw [hP.nd,hP.td,hg]
 refine Chk.mk (by omega) fun _=>Chk.mk (fun h=>⟨h,by omega⟩) fun _=>Chk.mk (fun h=>⟨h,by omega⟩) fun _=>⟨fun h=>by simp at h;omega,fun _=>Chk.mk (by simp only [inR];omega) fun _=>Chk.mk (by omega) fun _=>⟨fun h10=>?_,fun h10=>?_⟩⟩
 ·rcases hla with ⟨_,h0,h1,hF⟩ | ⟨h9,_⟩
  ·exact Chk.mk (fun h=>⟨h,by omega⟩) fun _=>by rw [hF,decide_eq_true h1];rfl
  ·omega
 ·rcases hla with ⟨h9,_⟩ | ⟨h9,hF⟩
  ·exact absurd h9 h10
  ·rw [hF]
   refine Chk.mk (fun h=>⟨h,by omega⟩) fun _=>Chk.mk (fun h=>⟨h,by omega,hP.sz⟩) fun _=>Chk.mk (fun _=>by simp only [inR];omega) fun _=>?_
   rw [decide_eq_true h9,decide_eq_true (show ((zng l).length:Int)≥5 * (l.length:Int) by omega)]
   rfl
end Go.T
end
