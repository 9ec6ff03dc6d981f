/- Own text: part UAY. -/
import Derived.Test.YtgippllfnmdnpaaGreatDoorUAX
set_option linter.all false
namespace Go.T
variable [Go.Vg.Glob] [Go.Vg.GlobTabs 0 1]
open Go.Proofs Go.Vg Go.RowKit Go.TT Go.Pl
set_option maxRecDepth 10000
set_option maxHeartbeats 4000000
theorem zx6 (s:Bs) (p:Int) (hp:s.length≤1048576):PF Tryz.prog 192 [.s s,.i .i64 p] (.tup [.s (sgA s (spot s p)).1,.i .i64 ((sgA s (spot s p)).2.1:Nat),.i .i64 (sgA s (spot s p)).2.2]):=by
 refine HPx (yd.c (zt.c ja.d)) 79 [[0,1],[0,1],[0,1,15],[4,5,6],[0,7],[0,7,28],[0,7,8],[0,7],[0,7,8,44],[0,7,49],[4,5,6],[0,7,8,54],[0,7],[0,7,8,69],[4,5,6],[4,5,6]] Tryz.func192 [.tmp 4,.tmp 5,.tmp 6] (fun _=>false) [] [(10,[],[],.q1 0 (.q1 1 (.q1 2 (.q1 4 (.q0 3 [3] (.q1 5 (.q1 6 .fin))))))),(7,[],[],.q1 0 (.q1 1 (.q1 4 (.q1 5 (.alt 2 (.alt 3 (.seq [6,7,8]) (.alt 6 (.alt 3 (.seq [7,8]) (.alt 7 (.seq [3,8]) .fin)) .fin)) (.alt 6 (.alt 2 (.alt 3 (.seq [7,8]) (.alt 7 (.seq [3,8]) .fin)) (.alt 7 (.seq [2,3,8]) .fin)) .fin))))))] ?_;simp only [↓XC,X1,seval,TES,ye,zc,zy,XRP,XR];have h0:=yh s p;rw [zg s h0];refine Chk.mk hp fun _=>⟨fun h=>?_,fun h=>CR fun _=>?_⟩
 ·rw [show sgA s (spot s p)=([],spot s p,10) by unfold sgA;rw [if_neg (by simp only [Yi] at h;omega)]]
 have hb:byt s (spot s p)=39:=by simp only [Yi] at h;omega
 have hl0:spot s p<s.length:=by
  rcases Nat.lt_or_ge (spot s p) s.length with h3 | h3
  ·exact h3
  ·rw [qk h3] at hb;omega
 refine zl.of (ι:={x:Nat×List Pc×Bs×Nat // x.1≤s.length∧x.2.2.1.length+pcW x.2.1≤1 * x.1∧x.2.2.2≤x.2.2.1.length∧sgl s x.1 x.2.1 x.2.2.1=sgA s (spot s p)∧x.2.2.2=0}) (fun x=>⟨[(0,.s s),(7,.ptr 0 0 0)],[some (.blk false [.s s,.i .i64 ((x.1.1:Nat)),.slc 1 0 (x.1.2.1).length,.s (x.1.2.2.1),.i .i64 (((uq x.1.2.2.2 x.1.2.2.1).length:Nat))]),some (.row false 2 (x.1.2.1).length (zu pcc pcz (x.1.2.1)))]⟩) (fun x=>s.length-x.1.1) ⟨(spot s p+1,[],[],0),by simp only;omega,by simp [pcW],Nat.zero_le _,by unfold sgA;rw [if_pos hb],rfl⟩ (Ent.nl (d:=[some (.blk false [.s s,.i .i64 ((spot s p:Nat)+1),.slc 1 0 0,.s [],.i .i64 0])]) [(2,zu pcc pcz [])] (by simp [nlE,nlV,Vg.look]) (by simp [nlC,nlO,nlL,nlV,zet])) ?_;rintro ⟨⟨i,L,cur,k⟩,h1,h2,h3,h4,h5⟩;simp only [↓XC,X1,seval,TES,zc,zy,XRP,XR];simp only at h1 h2 h3 h4 h5;have hW:=zej L;have hcw:=zeu k cur;refine ⟨fun hil=>CO fun _=>?_,fun hil=>?_⟩
 ·have hi:i<s.length:=by omega
  have hbt:=zw hi;rw [←hbt];have e1:byt s (spot s ((i:Int)+1))=byt s (i+1):=by rw [vo (by omega)];rfl
  rw [e1];refine ⟨fun h10=>?_,fun h10=>Chk.mk (fun _=>by simp only [inR];omega) fun _=>Chk.mk (fun h=>⟨⟨h,h⟩,hp⟩) fun _=>⟨fun hqq=>?_,fun hqq=>⟨fun hq=>?_,fun hq=>?_⟩⟩⟩
  ·refine yp.reb (qends s i L cur (uq k cur).length false ⟨hp,hi,hcw,by omega,by omega⟩) [0,1] (by simp [Yf]) (by simp only [Ye];exact ⟨by omega,zb (by simp [Yf]),by omega,za fun _=>rfl⟩) (by decide) (by simp [z6,SO.ro,YC]) (by decide) (by simp [jf,zdm,vf,zdk,noH,SO.ro,q7,YC]) ?_;simp only [↓XC,X1,seval,TES,zc,zy,XRP,XR,XM];subst h5;by_cases hm:mkA s (i+1)=0
   ·simp only [hm,decide_true,Bool.not_true,Bool.false_eq_true,false_implies,true_and,forall_const,if_true];have hcl:=zrh 0 cur;have hwl:=jg s (i+1) hi;have hwg:=jh s (i+1);rw [hcl];exact ⟨⟨(wh s (i+1),L++[⟨uq 0 cur,false⟩],[],0),hwl,by simp only [ko,uf,List.length_nil];omega,Nat.le_refl _,by simp only;rw [←sgl_nl hi h10 hm];exact h4,rfl⟩,by simp only;omega,(Ent.ren1 [0,1] (by decide) (by simp only [Yd];exact ⟨zb (by simp [Yf,zet]),vi (by simp) fun j hj=>rfl⟩) (by simp [ze,Vg.look,SV.mapH,muL]))⟩
   ·simp only [hm,decide_false,Bool.not_false,Bool.true_eq_false,false_implies,and_true,forall_const,if_false];refine ⟨by decide +kernel, ?_⟩;rw [←h4,sgl_mk hi h10 hm]
  ·refine yp.reb (qput s i L cur (uq k cur).length [39] 2 true ⟨by omega,by simp,by omega,by omega,by omega⟩) [0,1] (by simp [Yf]) (by simp only [Ye];exact ⟨by omega,zb (by simp [Yf]),by omega,za fun _=>rfl⟩) (by decide) (by simp [z6,SO.ro,YC]) (by decide) (by simp [jf,zdm,vf,zdk,noH,SO.ro,q7,YC]) ?_;simp only [↓XC,X1,seval,TES,zc,zy,XRP,XR,XM];have h39:byt s i=39∧byt s (i+1)=39:=by simpa using hqq
   have hi1:i+1<s.length:=by
    rcases Nat.lt_or_ge (i+1) s.length with h6 | h6
    ·exact h6
    ·rw [qk h6] at h39;omega
   have hc:uq k (cur++[39])=cur++[39]:=zod (by decide);exact ⟨⟨(i+2,L,cur++[39],k),by simp only;omega,by simp only [List.length_append,List.length_singleton];omega,by simp only [List.length_append,List.length_singleton];omega,by simp only;rw [←sgl_qq hi h39.1 h39.2];exact h4,h5⟩,by simp only;omega,(Ent.ren1 [0,1] (by decide) (by simp only [Yd];exact ⟨zb (by simp [Yf,hc]),vi (by simp) fun j hj=>rfl⟩) (by simp [ze,Vg.look,SV.mapH,muL]))⟩
  ·refine yp.reb (qdone s i L cur (uq k cur).length ⟨by omega,by omega⟩) [0,1] (by simp [Yf]) (by simp only [Ye];exact ⟨by omega,zb (by simp [Yf]),by omega,za fun _=>rfl⟩) (by decide) (by simp [z6,SO.ro,YC]) (by decide) (by simp [jf,zdm,vf,zdk,noH,SO.ro,q7,YC]) ?_;simp only [↓XC,X1,seval,TES,zc,zy,XRP,XR,XM];have hn:¬byt s (i+1)=39:=by intro hx;simp [hq,hx] at hqq
   rw [←h4,sgl_q hi hq hn];rfl
  ·refine ⟨by decide +kernel,Chk.mk (by have:=zac s i;simp only [inR];omega) fun _=>?_⟩;have hks:zme ((q7 [SV.i .u8 (byt s i)] 1 0).getD 0 .u)=true:=by rfl
   have hU:∀ j,j<1→zme ((q7 [SV.i .u8 (byt s i)] 1 j).getD 0 .u)=true:=by
    intro j hj;obtain rfl:j=0:=by omega
    exact hks
   simp only [u8_of];have hwk:(!(byt s i==32||byt s i==9))=false→(s.getD i 0=32∨s.getD i 0=9):=fun hw=>by have e1:=xp (c:=s.getD i 0) (n:=32) (by decide);have e2:=xp (c:=s.getD i 0) (n:=9) (by decide);simp only [Int.cast_ofNat_Int] at e1 e2;rw [hbt] at hw;simp only [Bool.not_eq_false',Bool.or_eq_true,beq_iff_eq,e1,e2] at hw;exact hw
   have hwn:(!(byt s i==32||byt s i==9))=true→¬(s.getD i 0=32∨s.getD i 0=9):=fun hw=>by
    have e1:=xp (c:=s.getD i 0) (n:=32) (by decide);have e2:=xp (c:=s.getD i 0) (n:=9) (by decide);simp only [Int.cast_ofNat_Int] at e1 e2;rw [hbt] at hw;simp only [Bool.not_eq_true',Bool.or_eq_false_iff,beq_eq_false_iff_ne,ne_eq,e1,e2] at hw;rintro (hx | hx)
    ·exact hw.1 hx
    ·exact hw.2 hx
   have hlen:((if (!(byt s i==32||byt s i==9))=true then cur.length+1 else (uq k cur).length:Nat):Int)=((uq k (cur++[s.getD i 0])).length:Nat):=by
    cases hw:(!(byt s i==32||byt s i==9))
    ·rw [zmz h3 (hwk hw)];rfl
    ·rw [zod (hwn hw)];simp
   have hS:∀ {P:Program} {kk:Nat} {st:St} {K:Sl (SV×St)},True:=fun {_ _ _ _}=>trivial
   repeat' (with_reducible refine And.intro ?_ ?_)
   all_goals first
    | exact hU
    | (
      refine yp.reb (qput s i L cur (uq k cur).length [s.getD i 0] 1 (!(byt s i==32||byt s i==9)) ⟨by omega,by simp,by omega,by omega,by omega⟩) [0,1] (by simp [Yf]) (by simp only [Ye];exact ⟨by omega,zb (by simp [Yf]),by omega,za fun _=>rfl⟩) (by decide) (by simp [z6,SO.ro,YC]) (by decide) (by simp [jf,zdm,vf,zdk,noH,SO.ro,q7,YC]) ?_;simp only [↓XC,X1,seval,TES,zc,zy,XRP,XR,XM];rw [hlen];exact ⟨⟨(i+1,L,cur++[s.getD i 0],k),by simp only;omega,by simp only [List.length_append,List.length_singleton];omega,by simp only [List.length_append,List.length_singleton];omega,by simp only;rw [←sgl_c hi h10 hq];exact h4,h5⟩,by simp only;omega,(Ent.ren1 [0,1] (by decide) (by simp only [Yd];exact ⟨zb (by simp [Yf]),vi (by simp) fun j hj=>rfl⟩) (by simp [ze,Vg.look,SV.mapH,muL]))⟩)
 ·rw [←h4,zzd (by omega)]
noncomputable def zd3:=qsi (fun s p=>s.length≤1048576) fun s p=>.tup [.s (sgA s (spot s p)).1,.i .i64 ((sgA s (spot s p)).2.1:Nat),.i .i64 (sgA s (spot s p)).2.2]
theorem za1 {s} {p}:zd3 [.s s,.i .i64 p]=some (s.length≤1048576,.tup [.s (sgA s (spot s p)).1,.i .i64 ((sgA s (spot s p)).2.1:Nat),.i .i64 (sgA s (spot s p)).2.2]):=y7
theorem za0:PE1 Tryz.prog 192 zd3:=y6 zx6
theorem zyj (s:Bs) (p:Int) (hp:s.length≤1048576):PF Tryz.prog 193 [.s s,.i .i64 p] (.tup [.s (dbA s (spot s p)).1,.i .i64 ((dbA s (spot s p)).2.1:Nat),.i .i64 (dbA s (spot s p)).2.2]):=by
 refine HPx (yd.c (zt.c (zg8.c ja.d))) 118 [[0,1],[0,1],[0,1,18],[4,5,6],[0,7],[0,7,31],[0,7,8],[0,7,8,9],[0,7],[0,7,8,9,59],[0,7,9,65],[0,7,9],[0,7,76],[4,5,6],[0,7,8,81],[0,7,10,11],[0,7,10,11,94],[4,5,6],[0,7],[0,7,8,108],[4,5,6],[4,5,6]] Tryz.func193 [.tmp 4,.tmp 5,.tmp 6] (fun _=>false) [] [(13,[],[],.q1 0 (.q1 1 (.q1 2 (.q1 4 (.q0 3 [3] (.q1 5 (.q1 6 .fin))))))),(17,[],[],.q1 0 (.q1 1 (.q1 2 (.q1 4 (.q0 3 [3] (.q1 5 (.q1 6 .fin))))))),(8,[],[],.q1 0 (.q1 1 (.q1 4 (.q1 5 (.alt 2 (.alt 3 (.seq [6,7,8]) (.alt 6 (.alt 3 (.seq [7,8]) (.alt 7 (.seq [3,8]) .fin)) .fin)) (.alt 6 (.alt 2 (.alt 3 (.seq [7,8]) (.alt 7 (.seq [3,8]) .fin)) (.alt 7 (.seq [2,3,8]) .fin)) .fin))))))] ?_;simp only [↓XC,X1,seval,TES,ye,zc,za5,zy,XRP,XR];have h0:=yh s p;rw [zg s h0];refine Chk.mk hp fun _=>⟨fun h=>?_,fun h=>CR fun _=>?_⟩
 ·rw [show dbA s (spot s p)=([],spot s p,10) by unfold dbA;rw [if_neg (by simp only [Yi] at h;omega)]]
 have hb:byt s (spot s p)=34:=by simp only [Yi] at h;omega
 have hl0:spot s p<s.length:=by
  rcases Nat.lt_or_ge (spot s p) s.length with h3 | h3
  ·exact h3
  ·rw [qk h3] at hb;omega
 refine zl.of (ι:={x:Nat×List Pc×Bs×Nat // x.1≤s.length∧x.2.2.1.length+pcW x.2.1≤2 * x.1∧x.2.2.2≤x.2.2.1.length∧dbl s x.1 x.2.1 x.2.2.1 x.2.2.2=dbA s (spot s p)}) (fun x=>⟨[(0,.s s),(7,.ptr 0 0 0)],[some (.blk false [.s s,.i .i64 ((x.1.1:Nat)),.slc 1 0 (x.1.2.1).length,.s (x.1.2.2.1),.i .i64 (((uq x.1.2.2.2 x.1.2.2.1).length:Nat))]),some (.row false 2 (x.1.2.1).length (zu pcc pcz (x.1.2.1)))]⟩) (fun x=>s.length-x.1.1) ⟨(spot s p+1,[],[],0),by simp only;omega,by simp [pcW],Nat.zero_le _,by unfold dbA;rw [if_pos hb]⟩ (Ent.nl (d:=[some (.blk false [.s s,.i .i64 ((spot s p:Nat)+1),.slc 1 0 0,.s [],.i .i64 0])]) [(2,zu pcc pcz [])] (by simp [nlE,nlV,Vg.look]) (by simp [nlC,nlO,nlL,nlV,zet])) ?_;rintro ⟨⟨i,L,cur,k⟩,h1,h2,h3,h4⟩;simp only [↓XC,X1,seval,TES,zc,zy,za5,XRP,XR];simp only at h1 h2 h3 h4;have hW:=zej L;have hcw:=zeu k cur;refine ⟨fun hil=>CO fun _=>?_,fun hil=>?_⟩
 ·have hi:i<s.length:=by omega
  have hbt:=zw hi;rw [←hbt];have e1:byt s (spot s ((i:Int)+1))=byt s (i+1):=by rw [vo (by omega)];rfl
  rw [e1,zg s h1];refine Chk.mk (fun _=>by simp only [inR];omega) fun _=>Chk.mk (fun h=>⟨⟨h,h⟩,hp⟩) fun _=>⟨fun hA=>⟨fun hg=>CR fun _=>?_,fun hg=>?_⟩,fun hA=>⟨fun h92=>Chk.mk hp fun _=>⟨fun he=>?_,fun he=>Chk.mk (by have:=zv8 s i;simp only [inR];omega) fun _=>?_⟩,fun h92=>⟨fun hq=>?_,fun hq=>?_⟩⟩⟩
  ·rw [hg];have hgl:byt s i=92∧byt s (i+1)=10:=by simpa using hg
   have hi1:i+1<s.length:=by
    rcases Nat.lt_or_ge (i+1) s.length with h6 | h6
    ·exact h6
    ·rw [qk h6] at hgl;omega
   refine yp.reb (qends s (i+1) L cur (uq k cur).length true ⟨hp,hi1,hcw,by omega,by omega⟩) [0,1] (by simp [Yf]) (by simp only [Ye];exact ⟨by omega,zb (by simp [Yf]),by omega,za fun _=>rfl⟩) (by decide) (by simp [z6,SO.ro,YC]) (by decide) (by simp [jf,zdm,vf,zdk,noH,SO.ro,q7,YC]) ?_;simp only [↓XC,X1,seval,TES,zc,zy,XRP,XR,XM];by_cases hm:mkA s (i+1+1)=0
   ·simp only [hm,decide_true,Bool.not_true,Bool.false_eq_true,false_implies,true_and,forall_const,if_true];have hwl:=jg s (i+1+1) hi1;have hwg:=jh s (i+1+1);exact ⟨⟨(wh s (i+1+1),L++[⟨cur,true⟩],[],0),hwl,by simp only [ko,uf,List.length_nil];omega,Nat.le_refl _,by simp only;rw [←dbl_gl hi hgl.1 hgl.2 hm];exact h4⟩,by simp only;omega,(Ent.ren1 [0,1] (by decide) (by simp only [Yd];exact ⟨zb (by simp [Yf,zet]),vi (by simp) fun j hj=>rfl⟩) (by simp [ze,Vg.look,SV.mapH,muL]))⟩
   ·simp only [hm,decide_false,Bool.not_false,Bool.true_eq_false,false_implies,and_true,forall_const,if_false];refine ⟨by decide +kernel, ?_⟩;rw [←h4,dbl_gm hi hgl.1 hgl.2 hm]
  ·rw [hg];have h10:byt s i=10:=by rw [hg] at hA;simpa using hA
   refine yp.reb (qends s i L cur (uq k cur).length false ⟨hp,hi,hcw,by omega,by omega⟩) [0,1] (by simp [Yf]) (by simp only [Ye];exact ⟨by omega,zb (by simp [Yf]),by omega,za fun _=>rfl⟩) (by decide) (by simp [z6,SO.ro,YC]) (by decide) (by simp [jf,zdm,vf,zdk,noH,SO.ro,q7,YC]) ?_;simp only [↓XC,X1,seval,TES,zc,zy,XRP,XR,XM];by_cases hm:mkA s (i+1)=0
   ·simp only [hm,decide_true,Bool.not_true,Bool.false_eq_true,false_implies,true_and,forall_const,if_true,if_false];have hcl:=zrh k cur;have hwl:=jg s (i+1) hi;have hwg:=jh s (i+1);rw [hcl];exact ⟨⟨(wh s (i+1),L++[⟨uq k cur,false⟩],[],0),hwl,by simp only [ko,uf,List.length_nil];omega,Nat.le_refl _,by simp only;rw [←dbl_nl hi h10 hm];exact h4⟩,by simp only;omega,(Ent.ren1 [0,1] (by decide) (by simp only [Yd];exact ⟨zb (by simp [Yf,zet]),vi (by simp) fun j hj=>rfl⟩) (by simp [ze,Vg.look,SV.mapH,muL]))⟩
   ·simp only [hm,decide_false,Bool.not_false,Bool.true_eq_false,false_implies,and_true,forall_const,if_false];refine ⟨by decide +kernel, ?_⟩;rw [←h4,dbl_mk hi h10 hm]
  ·have hn:¬byt s (i+1)=10:=by intro hx;simp [h92,hx] at hA
   refine ⟨by decide +kernel, ?_⟩;rw [←h4,dbl_eb hi h92 hn (by omega)]
  ·have hn:¬byt s (i+1)=10:=by intro hx;simp [h92,hx] at hA
   have hel:=z2a s i;have hegt:=z2c s i;have hele:=zv8 s i;have h44:=dbl_es (L:=L) (cur:=cur) (k:=k) hi h92 hn (by omega);rw [h4] at h44;generalize esA s i=t at *;refine yp.reb (qput s i L cur (uq k cur).length t.1 ((t.2:Int)-i) true ⟨by omega,by omega,by omega,by omega,by omega⟩) [0,1] (by simp [Yf]) (by simp only [Ye];exact ⟨by omega,zb (by simp [Yf]),by omega,za fun _=>rfl⟩) (by decide) (by simp [z6,SO.ro,YC]) (by decide) (by simp [jf,zdm,vf,zdk,noH,SO.ro,q7,YC]) ?_;simp only [↓XC,X1,seval,TES,zc,zy,XRP,XR,XM];have hc:uq (cur.length+t.1.length) (cur++t.1)=cur++t.1:=by rw [←List.length_append];exact zwc _
   rw [show (i:Int)+((t.2:Int)-i)=(t.2:Int) by omega];exact ⟨⟨(t.2,L,cur++t.1,(cur++t.1).length),by simp only;omega,by simp only [List.length_append];omega,Nat.le_refl _,h44.symm⟩,by simp only;omega,(Ent.ren1 [0,1] (by decide) (by simp only [Yd];exact ⟨zb (by simp [Yf,hc]),vi (by simp) fun j hj=>rfl⟩) (by simp [ze,Vg.look,SV.mapH,muL]))⟩
  ·refine yp.reb (qdone s i L cur (uq k cur).length ⟨by omega,by omega⟩) [0,1] (by simp [Yf]) (by simp only [Ye];exact ⟨by omega,zb (by simp [Yf]),by omega,za fun _=>rfl⟩) (by decide) (by simp [z6,SO.ro,YC]) (by decide) (by simp [jf,zdm,vf,zdk,noH,SO.ro,q7,YC]) ?_;simp only [↓XC,X1,seval,TES,zc,zy,XRP,XR,XM];rw [←h4,dbl_q hi hq];rfl
  ·have hq10:¬byt s i=10:=by intro hx;simp [hx] at hA
   refine ⟨by decide +kernel,Chk.mk (by have:=zac s i;simp only [inR];omega) fun _=>?_⟩;have hks:zme ((q7 [SV.i .u8 (byt s i)] 1 0).getD 0 .u)=true:=by rfl
   have hU:∀ j,j<1→zme ((q7 [SV.i .u8 (byt s i)] 1 j).getD 0 .u)=true:=by
    intro j hj;obtain rfl:j=0:=by omega
    exact hks
   simp only [u8_of];have hwk:(!(byt s i==32||byt s i==9))=false→(s.getD i 0=32∨s.getD i 0=9):=fun hw=>by have e1:=xp (c:=s.getD i 0) (n:=32) (by decide);have e2:=xp (c:=s.getD i 0) (n:=9) (by decide);simp only [Int.cast_ofNat_Int] at e1 e2;rw [hbt] at hw;simp only [Bool.not_eq_false',Bool.or_eq_true,beq_iff_eq,e1,e2] at hw;exact hw
   have hwn:(!(byt s i==32||byt s i==9))=true→¬(s.getD i 0=32∨s.getD i 0=9):=fun hw=>by
    have e1:=xp (c:=s.getD i 0) (n:=32) (by decide);have e2:=xp (c:=s.getD i 0) (n:=9) (by decide);simp only [Int.cast_ofNat_Int] at e1 e2;rw [hbt] at hw;simp only [Bool.not_eq_true',Bool.or_eq_false_iff,beq_eq_false_iff_ne,ne_eq,e1,e2] at hw;rintro (hx | hx)
    ·exact hw.1 hx
    ·exact hw.2 hx
   have hlen:((if (!(byt s i==32||byt s i==9))=true then cur.length+1 else (uq k cur).length:Nat):Int)=((uq k (cur++[s.getD i 0])).length:Nat):=by
    cases hw:(!(byt s i==32||byt s i==9))
    ·rw [zmz h3 (hwk hw)];rfl
    ·rw [zod (hwn hw)];simp
   repeat' (with_reducible refine And.intro ?_ ?_)
   all_goals first
    | exact hU
    | (
      refine yp.reb (qput s i L cur (uq k cur).length [s.getD i 0] 1 (!(byt s i==32||byt s i==9)) ⟨by omega,by simp,by omega,by omega,by omega⟩) [0,1] (by simp [Yf]) (by simp only [Ye];exact ⟨by omega,zb (by simp [Yf]),by omega,za fun _=>rfl⟩) (by decide) (by simp [z6,SO.ro,YC]) (by decide) (by simp [jf,zdm,vf,zdk,noH,SO.ro,q7,YC]) ?_;simp only [↓XC,X1,seval,TES,zc,zy,XRP,XR,XM];rw [hlen];exact ⟨⟨(i+1,L,cur++[s.getD i 0],k),by simp only;omega,by simp only [List.length_append,List.length_singleton];omega,by simp only [List.length_append,List.length_singleton];omega,by simp only;rw [←dbl_c hi hq10 h92 hq];exact h4⟩,by simp only;omega,(Ent.ren1 [0,1] (by decide) (by simp only [Yd];exact ⟨zb (by simp [Yf]),vi (by simp) fun j hj=>rfl⟩) (by simp [ze,Vg.look,SV.mapH,muL]))⟩)
 ·rw [←h4,z2n (by omega)]
noncomputable def zeg:=qsi (fun s p=>s.length≤1048576) fun s p=>.tup [.s (dbA s (spot s p)).1,.i .i64 ((dbA s (spot s p)).2.1:Nat),.i .i64 (dbA s (spot s p)).2.2]
theorem za8 {s} {p}:zeg [.s s,.i .i64 p]=some (s.length≤1048576,.tup [.s (dbA s (spot s p)).1,.i .i64 ((dbA s (spot s p)).2.1:Nat),.i .i64 (dbA s (spot s p)).2.2]):=y7
theorem za7:PE1 Tryz.prog 193 zeg:=y6 zyj
theorem zx5 (s:Bs) (p:Int) (hp:s.length≤1048576):PF Tryz.prog 291 [.s s,.i .i64 p] (.tup [.s (sgA s (spot s p)).1,.i .i64 ((sgA s (spot s p)).2.1:Nat),.i .i64 (sgA s (spot s p)).2.2]):=by
 refine HP (yl.c (xj.c (zix.c (wd.c qi.d)))) 105 [[0,1],[0,1],[0,1,22],[4,5,6],[0,1,7],[0,1,7,8],[0,7,8,9],[0,7,8,9,31],[0,7,8,9],[0,7,8,9],[0,7,8,9,40],[0,7,8,9],[0,7,8,9],[0,7,8,9,64],[7,9],[4,5,6],[0,7,8,9,79],[0,7,9],[0,7,8,9],[0,7,8,9,95],[4,5,6],[0,7,8,9],[4,5,6]] Tryz.func291 [.tmp 4,.tmp 5,.tmp 6] ?_;simp only [↓XC,X1,seval,TES,yn,yc,j6,zh,zj,XRP,XR];have h0:=yh s p;refine Chk.mk (fun h=>by simp only [Yi] at h;omega) fun _=>⟨fun h=>?_,fun h=>CR fun _=>?_⟩
 ·have hn:¬byt s (spot s p)=39:=by
   intro hb;have hl:spot s p<s.length:=by
    rcases Nat.lt_or_ge (spot s p) s.length with h3 | h3
    ·exact h3
    ·rw [qk h3] at hb;omega
   rw [zw hl] at hb;simp only [Yi] at h;omega
  rw [show sgA s (spot s p)=([],spot s p,10) by unfold sgA;rw [if_neg hn]]
 have hl0:spot s p<s.length:=by simp only [Yi] at h;omega
 have hb:byt s (spot s p)=39:=by rw [zw hl0];simp only [Yi] at h;omega
 refine zl.of (ι:={x:Nat×List Pc×Bs×Nat // x.1≤s.length∧x.2.2.1.length+pcW x.2.1≤1 * x.1∧x.2.2.2≤x.2.2.1.length∧sgl s x.1 x.2.1 x.2.2.1=sgA s (spot s p)∧x.2.2.2=0}) (fun x=>⟨[(0,.s s),(7,.slc 0 0 x.1.2.1.length),(8,.slc 1 0 x.1.2.2.1.length),(9,.i .i64 (x.1.1:Nat))],[some (.row false 2 x.1.2.1.length (zu pcc pcz x.1.2.1)),some (.row false 1 x.1.2.2.1.length (zu j7 0 x.1.2.2.1))]⟩) (fun x=>s.length-x.1.1) ⟨(spot s p+1,[],[],0),by simp only;omega,by simp [pcW],Nat.zero_le _,by unfold sgA;rw [if_pos hb],rfl⟩ (by simp only [Int.natCast_add,Int.natCast_one];exact (Ent.ren1 [0,1] (by decide) (by simp only [Yd];exact ⟨yi fun j hj=>absurd hj (Nat.not_lt_zero _),yi fun j hj=>absurd hj (Nat.not_lt_zero _)⟩) (by simp [ze,Vg.look,SV.mapH,muL]))) ?_;rintro ⟨⟨i,L,cur,k⟩,h1,h2,h3,h4,h5⟩;simp only [↓XC,X1,seval,TES,yc,j6,zh,zj,XRP,XR];simp only at h1 h2 h3 h4 h5;have hW:=zej L;have e2:((i:Int)+1).toNat=i+1:=by omega
 rw [e2];refine ⟨fun hil=>CO fun _=>?_,fun hil=>?_⟩
 ·have hi:i<s.length:=by omega
  have hbt:=zw hi;rw [←hbt];refine Chk.mk (fun _=>by simp only [inR];omega) fun _=>Chk.mk (fun h=>by simp only [inR];omega) fun _=>Chk.mk (fun h=>by simp only [Yi] at h;omega) fun _=>⟨fun hqq=>?_,fun hqq=>CO fun _=>⟨fun hq=>?_,fun hq=>CO fun _=>⟨fun h10=>?_,fun h10=>CO fun _=>?_⟩⟩⟩
  ·have h39:byt s i=39∧byt s (i+1)=39∧i+1<s.length:=by simp only [Yi] at hqq;exact ⟨hqq.1.1,by rw [zw (by omega)];exact hqq.2,by omega⟩
   refine ⟨z2 rfl rfl,CO fun _=>CR fun _=>CR fun _=>?_⟩;exact ⟨⟨(i+2,L,cur++[39],k),by simp only;omega,by simp only [List.length_append,List.length_singleton];omega,by simp only [List.length_append,List.length_singleton];omega,by simp only;rw [←sgl_qq hi h39.1 h39.2.1];exact h4,h5⟩,by simp only;omega,(by first | exact Ent.ren1 [0,3] (by decide) (by simp only [Yd];exact ⟨za fun _=>rfl,qq (enc:=j7) (z:=0) (xs:=cur) (y:=39) (sz:=1) (fun _=>rfl) rfl (fun _ _=>rfl) rfl⟩) (by simp [ze,Vg.look,SV.mapH,muL];try omega))⟩
  ·have hn:¬byt s (i+1)=39:=by
    intro hx;have hi1:i+1<s.length:=by
     rcases Nat.lt_or_ge (i+1) s.length with h6 | h6
     ·exact h6
     ·rw [qk h6] at hx;omega
    rw [zw hi1] at hx;simp only [hq,hx,show (i:Int)+1<s.length by omega,decide_true,Bool.and_self,Bool.true_eq_false] at hqq
   refine ⟨fun j _=>rfl,Chk.mk (Nat.le_refl _) fun _=>⟨z2 rfl rfl,CO fun _=>?_⟩⟩;rw [xq];have e:je (zfz L.length (fun j=>[SV.s (L.getD j pcz).text,SV.b (L.getD j pcz).glue]) fun j=>q7 [SV.s cur,SV.b false] 2 j) 0 (L.length+1)=(L++[(⟨cur,false⟩:Pc)]).map pcc:=zai pcz L ⟨cur,false⟩ 2 (fun _ _=>rfl) rfl rfl;rw [e];simp only [↓XC,X1,seval,TES,yc,XRP,XR];refine Chk.mk ⟨⟨Nat.le_refl _,zfy (enc:=pcc) pcz L ⟨cur,false⟩ 2 (fun _=>rfl) (fun _ _=>rfl) rfl fun _=>rfl⟩,by rw [ko,uf];show pcW L+(cur.length+1)≤16777216;omega⟩ fun _=>CR fun _=>?_;rw [←h4,sgl_q hi hq hn];rfl
  ·rw [yf rfl];simp only [↓XC,X1,seval,TES,yc,j6,zh,zj,XRP,XR];have hs:spot s ((i:Int)+1)=i+1:=by unfold spot;omega
   rw [hs];have hwl:=jg s (i+1) hi;have hwg:=jh s (i+1);have hcl:=zeu 0 cur;have hr:=mkA_range s (i+1);refine Chk.mk ⟨Nat.le_refl _,by omega⟩ fun _=>⟨z2 rfl rfl,CO fun _=>CR fun _=>Chk.mk hp fun _=>⟨fun hm=>CR fun _=>?_,fun hm=>CR fun _=>Chk.mk hp fun _=>CR fun _=>CR fun _=>?_⟩⟩
   ·rw [←h4,sgl_mk hi h10 (by omega)];rfl
   ·rw [show (((wh s (i+1):Nat):Int)-1+1)=((wh s (i+1):Nat):Int) by omega];exact ⟨⟨(wh s (i+1),L++[⟨uq 0 cur,false⟩],[],0),hwl,by simp only [ko,uf,List.length_nil];omega,Nat.le_refl _,by simp only;rw [←sgl_nl hi h10 (by omega)];exact h4,rfl⟩,by simp only;omega,(Ent.ren1 [3,4] (by decide) (by simp only [Yd];exact ⟨qq (enc:=pcc) (z:=pcz) (xs:=L) (y:=⟨uq 0 cur,false⟩) (sz:=2) (fun _=>rfl) rfl (fun _ _=>rfl) rfl,yi fun j hj=>absurd hj (Nat.not_lt_zero _)⟩) (by simp [ze,Vg.look,SV.mapH,muL]))⟩
  ·refine ⟨z2 rfl rfl,CO fun _=>CR fun _=>?_⟩;rw [hbt];exact ⟨⟨(i+1,L,cur++[s.getD i 0],k),by simp only;omega,by simp only [List.length_append,List.length_singleton];omega,by simp only [List.length_append,List.length_singleton];omega,by simp only;rw [←sgl_c hi h10 hq];exact h4,h5⟩,by simp only;omega,(by first | exact Ent.ren1 [0,3] (by decide) (by simp only [Yd];exact ⟨za fun _=>rfl,qq (enc:=j7) (z:=0) (xs:=cur) (y:=s.getD i 0) (sz:=1) (fun _=>rfl) rfl (fun _ _=>rfl) rfl⟩) (by simp [ze,Vg.look,SV.mapH,muL];try omega))⟩
 ·rw [←h4,zzd (by omega)]
noncomputable def zd2:=qsi (fun s p=>s.length≤1048576) fun s p=>.tup [.s (sgA s (spot s p)).1,.i .i64 ((sgA s (spot s p)).2.1:Nat),.i .i64 (sgA s (spot s p)).2.2]
theorem j1 {s} {p}:zd2 [.s s,.i .i64 p]=some (s.length≤1048576,.tup [.s (sgA s (spot s p)).1,.i .i64 ((sgA s (spot s p)).2.1:Nat),.i .i64 (sgA s (spot s p)).2.2]):=y7
theorem zaz:PE1 Tryz.prog 291 zd2:=y6 zx5
theorem zyi (s:Bs) (p:Int) (hp:s.length≤1048576):PF Tryz.prog 293 [.s s,.i .i64 p] (.tup [.s (dbA s (spot s p)).1,.i .i64 ((dbA s (spot s p)).2.1:Nat),.i .i64 (dbA s (spot s p)).2.2]):=by
 refine HP (yl.c (xj.c (zix.c (wd.c (qi.c zg7.d))))) 134 [[0,1],[0,1],[0,1,26],[4,5,6],[0,1,7],[0,1,7,8],[0,1,7,8,9],[0,7,8,9,10],[0,7,8,9,10,35],[0,7,8,9,10],[0,7,8,9,10,11],[0,7,8,9,10],[0,7,8,9,10,11,62],[7,10],[4,5,6],[0,7,8,9,10,11,77],[0,7,8,9,10,11,85],[0,7,8,9,10,11],[0,7,8,9,10,11],[0,7,10],[0,7,8,10],[0,7,8,9,10],[0,7,8,9,10,103],[4,5,6],[0,7,8,9,10],[0,7,8,9,10,111],[0,7,8,10,12,13],[0,7,8,10,12,13,123],[4,5,6],[0,7,8,13],[0,7,8,9,13],[0,7,8,9,10],[4,5,6]] Tryz.func293 [.tmp 4,.tmp 5,.tmp 6] ?_;simp only [↓XC,X1,seval,TES,yn,yc,j6,zh,zj,j2,XRP,XR];have h0:=yh s p;refine Chk.mk (fun h=>by simp only [Yi] at h;omega) fun _=>⟨fun h=>?_,fun h=>CR fun _=>?_⟩
 ·have hn:¬byt s (spot s p)=34:=by
   intro hb;have hl:spot s p<s.length:=by
    rcases Nat.lt_or_ge (spot s p) s.length with h3 | h3
    ·exact h3
    ·rw [qk h3] at hb;omega
   rw [zw hl] at hb;simp only [Yi] at h;omega
  rw [show dbA s (spot s p)=([],spot s p,10) by unfold dbA;rw [if_neg hn]]
 have hl0:spot s p<s.length:=by simp only [Yi] at h;omega
 have hb:byt s (spot s p)=34:=by rw [zw hl0];simp only [Yi] at h;omega
 refine zl.of (ι:={x:Nat×List Pc×Bs×Nat // x.1≤s.length∧x.2.2.1.length+pcW x.2.1≤2 * x.1∧x.2.2.2≤x.2.2.1.length∧dbl s x.1 x.2.1 x.2.2.1 x.2.2.2=dbA s (spot s p)}) (fun x=>⟨[(0,.s s),(7,.slc 0 0 x.1.2.1.length),(8,.slc 1 0 x.1.2.2.1.length),(9,.i .i64 (x.1.2.2.2:Nat)),(10,.i .i64 (x.1.1:Nat))],[some (.row false 2 x.1.2.1.length (zu pcc pcz x.1.2.1)),some (.row false 1 x.1.2.2.1.length (zu j7 0 x.1.2.2.1))]⟩) (fun x=>s.length-x.1.1) ⟨(spot s p+1,[],[],0),by simp only;omega,by simp [pcW],Nat.zero_le _,by unfold dbA;rw [if_pos hb]⟩ (by simp only [Int.natCast_add,Int.natCast_one];exact (Ent.ren1 [0,1] (by decide) (by simp only [Yd];exact ⟨yi fun j hj=>absurd hj (Nat.not_lt_zero _),yi fun j hj=>absurd hj (Nat.not_lt_zero _)⟩) (by simp [ze,Vg.look,SV.mapH,muL]))) ?_;rintro ⟨⟨i,L,cur,k⟩,h1,h2,h3,h4⟩;simp only [↓XC,X1,seval,TES,yc,j6,zh,zj,j2,XRP,XR];simp only at h1 h2 h3 h4;have hW:=zej L;have e2:((i:Int)+1).toNat=i+1:=by omega
 rw [e2];refine ⟨fun hil=>CO fun _=>?_,fun hil=>?_⟩
 ·have hi:i<s.length:=by omega
  have hbt:=zw hi;rw [←hbt];have hgl:(decide (byt s i=92)&&decide ((i:Int)+1<s.length)&&decide (((s.getD (i+1) 0).toNat:Int)=10))=decide (byt s i=92∧byt s (i+1)=10):=by
   rcases Nat.lt_or_ge (i+1) s.length with h6 | h6
   ·rw [←zw h6,show decide ((i:Int)+1<s.length)=true from decide_eq_true (by omega),Bool.and_true,Bool.decide_and]
   ·rw [qk h6,show decide ((i:Int)+1<s.length)=false from decide_eq_false (by omega)];simp
  rw [hgl];refine Chk.mk (fun _=>by simp only [inR];omega) fun _=>Chk.mk (fun h=>by simp only [inR];omega) fun _=>Chk.mk (fun h=>by simp only [Yi] at h;omega) fun _=>CO fun _=>⟨fun hq=>?_,fun hq=>CO fun _=>⟨fun hA=>⟨fun hg=>CR fun _=>?_,fun hg=>?_⟩,fun hA=>CO fun _=>⟨fun h92=>?_,fun h92=>CO fun _=>?_⟩⟩⟩
  ·refine ⟨fun j _=>rfl,Chk.mk (Nat.le_refl _) fun _=>⟨z2 rfl rfl,CO fun _=>?_⟩⟩;rw [xq];have e:je (zfz L.length (fun j=>[SV.s (L.getD j pcz).text,SV.b (L.getD j pcz).glue]) fun j=>q7 [SV.s cur,SV.b false] 2 j) 0 (L.length+1)=(L++[(⟨cur,false⟩:Pc)]).map pcc:=zai pcz L ⟨cur,false⟩ 2 (fun _ _=>rfl) rfl rfl;rw [e];simp only [↓XC,X1,seval,TES,yc,XRP,XR];refine Chk.mk ⟨⟨Nat.le_refl _,zfy (enc:=pcc) pcz L ⟨cur,false⟩ 2 (fun _=>rfl) (fun _ _=>rfl) rfl fun _=>rfl⟩,by rw [ko,uf];show pcW L+(cur.length+1)≤16777216;omega⟩ fun _=>CR fun _=>?_;rw [←h4,dbl_q hi hq];rfl
  ·rw [yf rfl];simp only [↓XC,X1,seval,TES,yc,j6,zh,zj,j2,XRP,XR];have hg2:decide (byt s i=92∧byt s (i+1)=10)=true:=hg;have hgl2:=of_decide_eq_true hg;rw [hg2];have hi1:i+1+1≤s.length:=by
    rcases Nat.lt_or_ge (i+1) s.length with h6 | h6
    ·exact h6
    ·rw [qk h6] at hgl2;omega
   have hs:spot s ((i:Int)+1+1)=i+1+1:=by unfold spot;omega
   rw [hs];have hwl:=jg s (i+1+1) hi1;have hwg:=jh s (i+1+1);have hcl:=zeu k cur;have hr:=mkA_range s (i+1+1);rw [zwc];refine Chk.mk ⟨Nat.le_refl _,by omega,by omega⟩ fun _=>⟨z2 rfl rfl,CO fun _=>CR fun _=>Chk.mk hp fun _=>⟨fun hm=>CR fun _=>?_,fun hm=>CR fun _=>Chk.mk hp fun _=>CR fun _=>CR fun _=>?_⟩⟩
   ·rw [←h4,dbl_gm hi hgl2.1 hgl2.2 (show ¬mkA s (i+1+1)=0 by omega)];rfl
   ·rw [show (((wh s (i+1+1):Nat):Int)-1+1)=((wh s (i+1+1):Nat):Int) by omega];exact ⟨⟨(wh s (i+1+1),L++[⟨cur,true⟩],[],0),hwl,by simp only [ko,uf,List.length_nil];omega,Nat.le_refl _,(dbl_gl hi hgl2.1 hgl2.2 (show mkA s (i+1+1)=0 by omega)).symm.trans h4⟩,by simp only;omega,(Ent.ren1 [3,4] (by decide) (by simp only [Yd];exact ⟨qq (enc:=pcc) (z:=pcz) (xs:=L) (y:=⟨cur,true⟩) (sz:=2) (fun _=>rfl) rfl (fun _ _=>rfl) rfl,yi fun j hj=>absurd hj (Nat.not_lt_zero _)⟩) (by simp [ze,Vg.look,SV.mapH,muL]))⟩
  ·rw [yf rfl];simp only [↓XC,X1,seval,TES,yc,j6,zh,zj,j2,XRP,XR];have hg2:decide (byt s i=92∧byt s (i+1)=10)=false:=hg;have h10:byt s i=10:=by rw [hg] at hA;simpa using hA
   rw [hg2];have hi1:i+1≤s.length:=hi;have hs:spot s ((i:Int)+1)=i+1:=by unfold spot;omega
   rw [hs];have hwl:=jg s (i+1) hi1;have hwg:=jh s (i+1);have hcl:=zeu k cur;have hr:=mkA_range s (i+1)
   skip
   refine Chk.mk ⟨Nat.le_refl _,by omega,by omega⟩ fun _=>⟨z2 rfl rfl,CO fun _=>CR fun _=>Chk.mk hp fun _=>⟨fun hm=>CR fun _=>?_,fun hm=>CR fun _=>Chk.mk hp fun _=>CR fun _=>CR fun _=>?_⟩⟩
   ·rw [←h4,dbl_mk hi h10 (by omega)];rfl
   ·rw [show (((wh s (i+1):Nat):Int)-1+1)=((wh s (i+1):Nat):Int) by omega];exact ⟨⟨(wh s (i+1),L++[⟨uq k cur,false⟩],[],0),hwl,by simp only [ko,uf,List.length_nil];omega,Nat.le_refl _,by simp only;rw [←dbl_nl hi h10 (by omega)];exact h4⟩,by simp only;omega,(Ent.ren1 [3,4] (by decide) (by simp only [Yd];exact ⟨qq (enc:=pcc) (z:=pcz) (xs:=L) (y:=⟨uq k cur,false⟩) (sz:=2) (fun _=>rfl) rfl (fun _ _=>rfl) rfl,yi fun j hj=>absurd hj (Nat.not_lt_zero _)⟩) (by simp [ze,Vg.look,SV.mapH,muL]))⟩
  ·have hn:¬byt s (i+1)=10:=by intro hx;simp [h92,hx] at hA
   rw [zg s h1];have hel:=z2a s i;have hegt:=z2c s i;have hele:=zv8 s i;refine Chk.mk hp fun _=>⟨fun he=>?_,fun he=>?_⟩
   ·rw [←h4,dbl_eb hi h92 hn (by omega)]
   ·have h44:=dbl_es (L:=L) (cur:=cur) (k:=k) hi h92 hn (by omega);rw [h4] at h44;generalize esA s i=t at *;refine CO fun _=>CR fun _=>CR fun _=>?_;rw [show ((t.2:Int)-1+1)=(t.2:Int) by omega];exact ⟨⟨(t.2,L,cur++t.1,(cur++t.1).length),by simp only;omega,by simp only [List.length_append];omega,Nat.le_refl _,h44.symm⟩,by simp only;omega,Ent.ren1 [0,2] (by decide) (by simp only [Yd];exact ⟨za fun _=>rfl,soLe_app (enc:=j7) (z:=0) cur t.1 1 (fun _=>rfl) (fun _ _=>rfl) (fun _ _=>rfl)⟩) (by simp [ze,Vg.look,SV.mapH,muL])⟩
  ·have h10:¬byt s i=10:=by intro hx;simp [hx] at hA
   refine ⟨z2 rfl rfl,CO fun _=>CR fun _=>?_⟩;rw [hbt];exact ⟨⟨(i+1,L,cur++[s.getD i 0],k),by simp only;omega,by simp only [List.length_append,List.length_singleton];omega,by simp only [List.length_append,List.length_singleton];omega,by simp only;rw [←dbl_c hi h10 h92 hq];exact h4⟩,by simp only;omega,(by first | exact Ent.ren1 [0,3] (by decide) (by simp only [Yd];exact ⟨za fun _=>rfl,qq (enc:=j7) (z:=0) (xs:=cur) (y:=s.getD i 0) (sz:=1) (fun _=>rfl) rfl (fun _ _=>rfl) rfl⟩) (by simp [ze,Vg.look,SV.mapH,muL];try omega))⟩
 ·rw [←h4,z2n (by omega)]
noncomputable def zef:=qsi (fun s p=>s.length≤1048576) fun s p=>.tup [.s (dbA s (spot s p)).1,.i .i64 ((dbA s (spot s p)).2.1:Nat),.i .i64 (dbA s (spot s p)).2.2]
theorem jc {s} {p}:zef [.s s,.i .i64 p]=some (s.length≤1048576,.tup [.s (dbA s (spot s p)).1,.i .i64 ((dbA s (spot s p)).2.1:Nat),.i .i64 (dbA s (spot s p)).2.2]):=y7
theorem za6:PE1 Tryz.prog 293 zef:=y6 zyi
end Go.T
