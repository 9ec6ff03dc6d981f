/- Own text: part UBD. -/
import Derived.Test.YtgippllfnmdnpaaGreatDoorUBC
import Derived.Test.YtgippllfnmdnpaaGreatDoorUAQ
import Derived.Test.YtgippllfnmdnpaaGreatDoorUBB
set_option linter.all false
section
namespace Go.T
variable [Go.Vg.Glob] [Go.Vg.GlobTabs 0 1]
open Go.Proofs Go.Vg Go.RowKit Go.TT Go.Pl Go.TSh
set_option maxRecDepth 10000
set_option maxHeartbeats 4000000
theorem isFar (s:Bs) (hp:s.length≤1048576):PF Tryz.prog 360 [.s s] (.b (far s)):=by refine HP (zt.c ja.d) 6 [[0],[2]] Tryz.func360 [.tmp 2] ?_;simp only [↓XC,X1,seval,TES,zc,zy,XR];exact Chk.mk hp fun _=>by rw [show spot s 0=0 from by unfold spot;omega];rfl
noncomputable def zu2:PE:=peR (fun (s:Bs)=>[.s s]) (fun (s:Bs)=>s.length≤1048576) (fun (s:Bs)=>.b (far s))
theorem zh9 {s:Bs}:zu2 [.s s]=some (s.length≤1048576,.b (far s)):=yg (by rintro a b h;simp_all []) s
theorem zsh:PE1 Tryz.prog 360 zu2:=yo (by rintro s hp;exact isFar s hp)
theorem ztj (l:List Bs) (hp:lnW l≤1073741824∧∀ x∈l,x.length≤1048576):PF Tryz.prog 354 [.fs 1 (l.map j4)] (.s (fbk l [] 0 [])):=by
 refine HP (zfc.c zsh.d) 52 [[0],[0,3],[0,3,4],[0,3,4,5],[3,4,5,8,9,10],[3,4,5,8,9,10,11],[3,4,5,7,8,9,10],[3,4,5,7,8,9,10,15],[3,4,5,8,9,10],[3,7,8,9,10],[3,4,5,7,8,9,10,22],[3,7,8,9,10],[3,5,7,8,9,10,29],[3,7,8,9,10],[3,5,7,8,9,10,41],[3,7,8,9,10],[3,7,8,9,10],[3,4,8,9,10],[3,4,5,8,9,10],[3,4,5,8,9,10],[2]] Tryz.func354 [.tmp 2] ?_;simp only [↓XC,X1,seval,TES,vb,zh9,XR];refine zl.of (ι:={x:(Nat×Nat)×Bs×Bs // x.1.1≤l.length∧x.2.1.length+x.1.2+lnW (l.drop x.1.1)≤lnW l∧x.2.2.length≤1048576∧fbk (l.drop x.1.1) x.2.2 x.1.2 x.2.1=fbk l [] 0 []}) (fun x=>⟨[(3,.s x.1.2.1),(4,.s x.1.2.2),(5,.i .i64 (x.1.1.2:Nat)),(8,.fs 1 (l.map j4)),(9,.i .i64 (l.length:Nat)),(10,.i .i64 (x.1.1.1:Nat))],[]⟩) (fun x=>l.length-x.1.1.1) ⟨((0,0),[],[]),Nat.zero_le _,by simp,by simp,rfl⟩ (Ent.refl _ _) ?_;rintro ⟨⟨⟨i,k⟩,out,last⟩,h1,h2,h3,h4⟩;simp only [↓XC,X1,seval,TES,zh9,vb,XR];simp only at h1 h2 h3 h4;have hR:∀ m:Nat,Lib.repeatL [10] m=List.replicate m 10:=fun m=>by have:=Lib.repeatL_replicate 10 1 m;simpa using this
 have hW:=hp.1;have hN:=uh l;have e1:((k:Int)+1).toNat=k+1:=by omega
 simp only [e1,hR];refine ⟨fun h=>CO fun _=>?_,fun h=>?_⟩
 ·have hi:i<l.length:=by omega
  have hd:=zs6 hi;have hlw:=zvw hi;have hx:(l.getD i []).length≤1048576:=hp.2 _ (by rw [List.getD_eq_getElem?_getD,List.getElem?_eq_getElem hi];exact List.getElem_mem hi);rw [hlw] at h2;rw [hd] at h4;refine ⟨fun hx0=>CR fun _=>CR fun _=>?_,fun hx0=>⟨fun hl0=>CO fun _=>Chk.mk (by simp only [List.length_append,List.length_replicate,List.length_singleton];omega) fun _=>Chk.mk (by simp only [List.length_append,List.length_replicate,List.length_singleton];omega) fun _=>CR fun _=>?_,fun hl0=>Chk.mk h3 fun _=>Chk.mk (fun h=>⟨h,hx⟩) fun _=>⟨fun hf=>CR fun _=>CO fun _=>Chk.mk (by simp only [List.length_append,List.length_replicate,List.length_singleton];omega) fun _=>Chk.mk (by simp only [List.length_append,List.length_replicate,List.length_singleton];omega) fun _=>CR fun _=>?_,fun hf=>⟨fun hk=>CO fun _=>CO fun _=>CR fun _=>?_,fun hk=>CO fun _=>Chk.mk (by simp only [List.length_append,List.length_replicate,List.length_singleton];omega) fun _=>Chk.mk (by simp only [List.length_append,List.length_replicate,List.length_singleton];omega) fun _=>CR fun _=>?_⟩⟩⟩⟩
  ·rw [hx0] at h2;simp only [List.length_nil] at h2;exact ⟨⟨((i+1,k+1),out,last),by simp only;omega,by simp only;omega,h3,by simp only;rw [←h4,fbk_e hx0]⟩,by simp only;omega,(by first | exact Ent.refl _ _ | (simp only [Int.natCast_add,Int.natCast_one];exact Ent.refl _ _))⟩
  ·exact ⟨⟨((i+1,0),out++List.replicate k 10++l.getD i [],l.getD i []),by simp only;omega,by simp only [List.length_append,List.length_replicate,List.length_singleton];omega,by simp only;omega,by simp only;rw [←h4,zs5 hx0,if_pos hl0]⟩,by simp only;omega,(by first | exact Ent.refl _ _ | (simp only [Int.natCast_add,Int.natCast_one];exact Ent.refl _ _))⟩
  ·exact ⟨⟨((i+1,0),out++List.replicate (k+1) 10++l.getD i [],l.getD i []),by simp only;omega,by simp only [List.length_append,List.length_replicate,List.length_singleton];omega,by simp only;omega,by simp only;rw [←h4,zs5 hx0,if_neg hl0,if_pos (by simpa using hf)]⟩,by simp only;omega,(by first | exact Ent.refl _ _ | (simp only [Int.natCast_add,Int.natCast_one];exact Ent.refl _ _))⟩
  ·exact ⟨⟨((i+1,0),out++[32]++l.getD i [],l.getD i []),by simp only;omega,by simp only [List.length_append,List.length_replicate,List.length_singleton];omega,by simp only;omega,by simp only;rw [←h4,zs5 hx0,if_neg hl0,if_neg (by simpa using hf),if_pos (by omega)]⟩,by simp only;omega,(by first | exact Ent.refl _ _ | (simp only [Int.natCast_add,Int.natCast_one];exact Ent.refl _ _))⟩
  ·exact ⟨⟨((i+1,0),out++List.replicate k 10++l.getD i [],l.getD i []),by simp only;omega,by simp only [List.length_append,List.length_replicate,List.length_singleton];omega,by simp only;omega,by simp only;rw [←h4,zs5 hx0,if_neg hl0,if_neg (by simpa using hf),if_neg (by omega)]⟩,by simp only;omega,(by first | exact Ent.refl _ _ | (simp only [Int.natCast_add,Int.natCast_one];exact Ent.refl _ _))⟩
 ·rw [←h4,List.drop_eq_nil_of_le (by omega)];rfl
noncomputable def zcy:PE:=peR (fun (l:List Bs)=>[.fs 1 (l.map j4)]) (fun (l:List Bs)=>lnW l≤1073741824∧∀ x∈l,x.length≤1048576) (fun (l:List Bs)=>.s (fbk l [] 0 []))
theorem jr {l:List Bs}:zcy [.fs 1 (l.map j4)]=some (lnW l≤1073741824∧∀ x∈l,x.length≤1048576,.s (fbk l [] 0 [])):=yg (by rintro a b h;simp_all [zhi]) l
theorem zfk:PE1 Tryz.prog 354 zcy:=yo (by rintro l hp;exact ztj l hp)
theorem ztl (l:List Bs) (fo:Bool) (ch:Int) (hp:lnW l≤1073741824∧∀ x∈l,x.length≤1048576):PF Tryz.prog 347 [.fs 1 (l.map j4),.b fo,.i .i64 ch] (.s (btA l fo ch)):=by
 refine HP (zfc.c (zsf.c zfk.d)) 55 [[0,1,2],[0,1,2,7],[0,1,2,7,20],[0,1,2,7],[0,1,2,7,24],[0,26],[6],[6],[0,1,2,7,8],[0,2,7,8,34],[0,2,7,8],[0,7,8,39],[0,7,8,39,40],[6],[0,7,8,43],[6],[6]] Tryz.func347 [.tmp 6] ?_;simp only [↓XC,X1,seval,TES,vb,uc,jr,XR];refine zl.of (ι:={n:Nat // n≤l.length∧lsN l n=lsN l l.length}) (fun x=>⟨[(0,.fs 1 (l.map j4)),(1,.b fo),(2,.i .i64 ch),(7,.i .i64 (x.1:Nat))],[]⟩) (fun x=>x.1) ⟨l.length,Nat.le_refl _,rfl⟩ (Ent.refl _ _) ?_;rintro ⟨n,h1,h2⟩;simp only [↓XC,X1,seval,TES,jr,vb,uc,XR];have hR:∀ m:Nat,Lib.repeatL [10] m=List.replicate m 10:=fun m=>by have:=Lib.repeatL_replicate 10 1 m;simpa using this
 have hW:=hp.1;have e1:((n:Int)-1).toNat=n-1:=by omega
 have hN:=uh l;simp only [e1,hR,←List.map_take,uc];simp only [↓XC,X1,seval,TES,jr,vb,uc,XR];simp only [hR,←List.map_take];simp only [↓XC,X1,seval,TES,jr,vb,uc,XR];simp only [hR];have hN2:=zhl l n;have hJ:=zhm (l.take n);have hF:=zoc (l.take n) [] 0 [];simp only [List.length_nil] at hF;have hT:(l.take n).length≤l.length:=by rw [List.length_take];omega
 refine Chk.mk (fun _=>(by simp only [inR];omega)) fun _=>Chk.mk (fun _=>by omega) fun _=>⟨fun h=>CR fun _=>?_,fun h=>?_⟩
 ·simp only [gt_iff_lt,Bool.and_eq_true,decide_eq_true_eq] at h;refine ⟨⟨n-1,by omega,by rw [←zvv (by omega) h.2];exact h2⟩,by simp only;omega, ?_⟩;rw [show ((n:Int)-1)=((n-1:Nat):Int) by omega];exact Ent.refl _ _
 ·simp only [gt_iff_lt,Bool.and_eq_false_iff,decide_eq_false_iff_not] at h;have hn:lsN l l.length=n:=by rw [←h2];exact z1g fun h3=>h.resolve_left (by omega)
  have e2:((1:Int)+l.length-n).toNat=1+l.length-n:=by omega
  unfold btA;rw [hn];refine ⟨fun h0=>⟨fun hc=>CO fun _=>by rw [if_pos (by omega),if_pos hc],fun hc=>by rw [if_pos (by omega),if_neg hc]⟩,fun h0=>CO fun _=>Chk.mk ⟨by omega,by omega⟩ fun _=>?_⟩;have h0':¬n=0:=by omega
  refine ⟨fun hf=>CO fun _=>Chk.mk ⟨by omega,fun x hx=>hp.2 x (List.mem_of_mem_take hx)⟩ fun _=>?_,fun hf=>?_⟩
  ·exact ⟨fun hc=>by rw [if_neg h0',if_pos hc,if_pos hf],fun hc=>⟨fun hc2=>CR fun _=>CR fun _=>CO fun _=>Chk.mk (by rw [List.length_replicate];omega) fun _=>by rw [if_neg h0',if_neg hc,if_pos hc2,if_pos hf,e2],fun hc2=>CO fun _=>by rw [if_neg h0',if_neg hc,if_neg hc2,if_pos hf]⟩⟩
  ·have hf2:¬fo=true:=by simpa using hf
   exact ⟨fun hc=>by rw [if_neg h0',if_pos hc,if_neg hf2],fun hc=>⟨fun hc2=>CR fun _=>CR fun _=>CO fun _=>Chk.mk (by rw [List.length_replicate];omega) fun _=>by rw [if_neg h0',if_neg hc,if_pos hc2,if_neg hf2,e2],fun hc2=>CO fun _=>by rw [if_neg h0',if_neg hc,if_neg hc2,if_neg hf2]⟩⟩
noncomputable def zc0:PE:=peR (fun (x:List Bs×Bool×Int)=>match x with | (l,fo,ch)=>[.fs 1 (l.map j4),.b fo,.i .i64 ch]) (fun (x:List Bs×Bool×Int)=>match x with | (l,fo,ch)=>lnW l≤1073741824∧∀ x∈l,x.length≤1048576) (fun (x:List Bs×Bool×Int)=>match x with | (l,fo,ch)=>.s (btA l fo ch))
theorem wb {l:List Bs} {fo:Bool} {ch:Int}:zc0 [.fs 1 (l.map j4),.b fo,.i .i64 ch]=some (lnW l≤1073741824∧∀ x∈l,x.length≤1048576,.s (btA l fo ch)):=yg (by rintro ⟨a0,a1,a2⟩ ⟨b0,b1,b2⟩ h;simp_all [zhi]) (l,fo,ch)
theorem zfm:PE1 Tryz.prog 347 zc0:=yo (by rintro ⟨l,fo,ch⟩ hp;exact ztl l fo ch hp)
theorem zth (s:Bs) (p n:Int) (hp:s.length≤1048576):PF Tryz.prog 317 [.s s,.i .i64 p,.i .i64 n] (.tup [.s (liA s (spot s p) n).1,.i .i64 ((liA s (spot s p) n).2.1:Nat),.i .i64 (liA s (spot s p) n).2.2]):=by
 refine HP (yd.c (zkl.c (zay.c (zg2.c (we.c (zbs.c (xi.c (jt.c zfm.d)))))))) 122 [[0,1,2],[0,1,2],[0,1,2,9,10,11,12],[0,1,2,9,10,11,12,30],[6,7,8],[0,1,2,9,10,13],[0,1,2,9,10,13,14,15],[0,1,2,9,10,13,14,15,37],[0,1,10,13,14,15],[0,1,2,10,13,14,15,48],[0,1,10,13,14,15],[0,1,10,13,14,15,16],[0,1,10,13,14,15,16,80],[0,1,10,13,14,15,16,17],[0,1,10,13,14,15,16,17,96],[0,1,10,13,14,15,16,17],[0,1,10,13,14,15,16],[0,1,10,13,14,15,16],[6,7,8]] Tryz.func317 [.tmp 6,.tmp 7,.tmp 8] ?_;simp only [↓XC,X1,seval,TES,ye,zkm,w6,zg3,zd,kv,qy,qn,wb,XR];have h0:=yh s p;generalize spot s p=q0 at *;rw [zg s h0];have hP:(hdA s q0).2.2.1≤s.length:=by
  by_cases h:q0<s.length
  ·exact (zje h).2.1
  ·unfold hdA;rw [qk (by omega),if_neg (by decide)];exact h0
 unfold liA;have hE:(hdA s q0).2.2.2=0→q0<s.length∧(∃ x,x≤s.length∧(hdA s q0).2.2.1=en s x)∧0≤(hdA s q0).1∧(hdA s q0).1≤9:=fun h=>by
  have hl:q0<s.length:=by
   rcases Nat.lt_or_ge q0 s.length with h9 | h9
   ·exact h9
   ·unfold hdA at h;rw [qk h9,if_neg (by decide)] at h;simp at h
  exact ⟨hl,z10 hl h⟩
 generalize hdA s q0=H at *;obtain ⟨dg,ch,e,cd⟩:=H;simp only at hP hE;simp only;refine Chk.mk hp fun _=>⟨fun h=>by rw [if_pos (show cd≠0 by simpa using h)],fun h=>Chk.mk ⟨hp,by omega,by omega⟩ fun _=>?_⟩
 have hz:cd=0:=by simpa using h
 obtain ⟨hl,⟨x0,hx0,hex⟩,hd0,hd9⟩:=hE hz;rw [if_neg (show ¬cd≠0 by simpa using h)];have hal:=uk s e;have hala:bhL s e<s.length→la s (bhL s e)=bhL s e:=fun h=>by rw [hex] at h ⊢;exact zgw h
 generalize bhL s e=a0 at *;obtain ⟨d,f,hD⟩:∃ d f,ltD s n dg a0=(d,f):=⟨_,_,rfl⟩
 rw [hD];unfold ltD at hD;refine ⟨fun h1=>Chk.mk ?_ fun _=>?_,fun h1=>⟨fun h2=>Chk.mk ⟨hp,by omega,by omega⟩ fun _=>?_,fun h2=>?_⟩⟩
 ·simp only [gt_iff_lt,Bool.and_eq_true,decide_eq_true_eq] at h1;simp only [inR];split<;>omega
 ·have h1':0<dg∧n≤60000:=by simpa using h1
  rw [if_pos h1',Prod.mk.injEq] at hD;have h14:(if (0:Int)>n then 0 else n)+dg=(d:Int):=by have:=hD.1;split<;>omega
  have h15:f=a0:=hD.2.symm;refine zl.of (ι:={x:Nat×List Bs // x.1≤s.length∧(x.1<s.length→la s x.1=x.1∧lnW x.2≤x.1)∧lnW x.2≤x.1+1∧(∀ y∈x.2,y.length≤1048576)∧(x.2++(ltL s d f x.1).1,(ltL s d f x.1).2)=ltL s d f a0}) (fun x=>⟨[(0,.s s),(1,.i .i64 (q0:Nat)),(10,.i .i64 ch),(13,.i .i64 (x.1.1:Nat)),(14,.i .i64 (d:Nat)),(15,.i .i64 (f:Nat)),(16,.slc 0 0 x.1.2.length)],[some (.row false 1 x.1.2.length (zu j4 [] x.1.2))]⟩) (fun x=>s.length-x.1.1) ⟨(a0,[]),hal,fun h=>⟨hala h,Nat.zero_le _⟩,Nat.zero_le _,(fun y hy=>by simp at hy),rfl⟩ (by rw [←h14,h15];exact (Ent.ren1 [0] (by decide) (by simp only [Yd];exact yi fun i hi=>by simp at hi) (by simp [ze,Vg.look,SV.mapH,muL]))) ?_;rintro ⟨⟨a,L⟩,k1,k2,k3,k4,k5⟩;simp only [↓XC,X1,seval,TES,zd,kv,qy,qn,w6,wb,XR];simp only at k1 k2 k3 k4 k5;rw [zg s k1];have hLn:=uh L;have hA:(decide ((a:Int)<(s.length:Nat))&&decide (mkA s a=0)&&(lnA s a||decide ((inA s a:Int)≥d)))=decide (a<s.length∧mkA s a=0∧(lnA s a=true∨d≤inA s a)):=by rw [Bool.eq_iff_iff];simp only [Bool.and_eq_true,Bool.or_eq_true,decide_eq_true_eq,Int.ofNat_lt,Int.ofNat_le,ge_iff_le,and_assoc]
  have hB:(decide ((a:Int)≥f)&&(!lnA s a||decide ((inA s a:Int)>d)))=decide (f≤a∧(lnA s a=false∨d<inA s a)):=by rw [Bool.eq_iff_iff];simp only [Bool.and_eq_true,Bool.or_eq_true,decide_eq_true_eq,Int.ofNat_lt,Int.ofNat_le,ge_iff_le,gt_iff_lt,Bool.not_eq_true']
  rw [hA,hB];refine Chk.mk (fun h=>⟨⟨h,h⟩,hp⟩) fun _=>Chk.mk (fun h=>⟨⟨h,h⟩,hp⟩) fun _=>Chk.mk (fun h=>⟨⟨h,h⟩,hp⟩) fun _=>⟨fun h3=>Chk.mk (fun h=>⟨⟨h,h⟩,hp⟩) fun _=>Chk.mk (fun h=>⟨⟨h,h⟩,hp⟩) fun _=>?_,fun h3=>?_⟩
  ·have h3':=of_decide_eq_true h3;obtain ⟨k6,k7⟩:=k2 h3'.1;have hg:=zad h3'.1;have hbl:=uk s (en s a);have hen:=uo s a k1;have hge:=zck s a;have hbe:bl s a-a=inA s a:=by unfold inA;rw [k6]
   have hble:=zs9 s a;have hbla:bhL s (en s a)<s.length→la s (bhL s (en s a))=bhL s (en s a):=zgw;have hbw:bhL s (en s a)<s.length→bhL s (en s a)=en s a+1:=fun h=>by unfold bhL at *;omega
   have hbw2:en s a≤bhL s (en s a):=by unfold bhL;omega
   have htl:=zxp (f:=f) (d:=d) h3';have hd6:decide (f≤a∧(lnA s a=false∨d<inA s a))=true→d≤inA s a:=fun h4=>by
    rcases (of_decide_eq_true h4).2 with h5 | h5
    ·exact h3'.2.2.resolve_left (by rw [h5];simp)
    ·omega
   refine ⟨fun h4=>Chk.mk (by have:=hd6 h4;simp only [inR];omega) fun _=>Chk.mk hp fun _=>Chk.mk ⟨by omega, ?_,by omega⟩ fun _=>⟨z2 rfl rfl,CO fun _=>Chk.mk hp fun _=>Chk.mk ⟨hp,by omega,by omega⟩ fun _=>?_⟩,fun h4=>⟨z2 rfl rfl,CO fun _=>Chk.mk hp fun _=>Chk.mk ⟨hp,by omega,by omega⟩ fun _=>?_⟩⟩
   ·have:=hd6 h4;omega
   ·have h4':=of_decide_eq_true h4;have e1:((a:Int)+d).toNat=a+d:=by omega
    rw [e1];have hxl:(sub s (a+d) (en s a)).length=en s a-(a+d):=by simp only [sub,List.length_drop,List.length_take];omega
    refine ⟨⟨(bhL s (en s a),L++[sub s (a+d) (en s a)]),hbl,fun h=>⟨hbla h, ?_⟩, ?_, ?_, ?_⟩,by simp only;omega,(Ent.ren1 [2] (by decide) (by simp only [Yd];exact qq (y:=sub s (a+d) (en s a)) (fun _=>rfl) rfl (fun _ _=>rfl) rfl) (by simp [ze,Vg.look,SV.mapH,muL]))⟩
    ·have h8:=hbw h;simp only [wn,hxl] at h8 ⊢;omega
    ·simp only [wn,hxl];omega
    ·intro y hy;rcases List.mem_append.1 hy with h9 | h9
     ·exact k4 y h9
     ·have h10:y=sub s (a+d) (en s a):=by simpa using h9
      rw [h10,hxl];omega
    ·rw [htl,if_pos h4'] at k5;simp only [List.append_assoc,List.singleton_append];exact k5
   ·have h4':=of_decide_eq_false h4;have hxl:([]:Bs).length=0:=rfl;refine ⟨⟨(bhL s (en s a),L++[([]:Bs)]),hbl,fun h=>⟨hbla h, ?_⟩, ?_, ?_, ?_⟩,by simp only;omega,(Ent.ren1 [2] (by decide) (by simp only [Yd];exact qq (y:=([]:Bs)) (fun _=>rfl) rfl (fun _ _=>rfl) rfl) (by simp [ze,Vg.look,SV.mapH,muL]))⟩
    ·have h8:=hbw h;simp only [wn,hxl] at h8 ⊢;omega
    ·simp only [wn,hxl];omega
    ·intro y hy;rcases List.mem_append.1 hy with h9 | h9
     ·exact k4 y h9
     ·have h10:y=([]:Bs):=by simpa using h9
      rw [h10,hxl];omega
    ·rw [htl,if_neg h4'] at k5;simp only [List.append_assoc,List.singleton_append];exact k5
  ·rw [zn6 (of_decide_eq_false h3)] at k5;rw [←k5];refine Chk.mk ⟨by omega,by omega⟩ fun _=>?_;rw [yf rfl,←zw hl];simp only [↓XC,X1,seval,TES,wb,XR];exact Chk.mk ⟨Nat.le_refl _,by omega,k4⟩ fun _=>trivial
 ·have h1':¬(0<dg∧n≤60000):=by omega
  rw [if_neg h1',if_pos h2] at hD;have h14:(((ltC s a0 n).1:Nat):Int)=(d:Int):=by rw [hD]
  have h15:f=(ltC s a0 n).2:=by rw [hD]
  refine zl.of (ι:={x:Nat×List Bs // x.1≤s.length∧(x.1<s.length→la s x.1=x.1∧lnW x.2≤x.1)∧lnW x.2≤x.1+1∧(∀ y∈x.2,y.length≤1048576)∧(x.2++(ltL s d f x.1).1,(ltL s d f x.1).2)=ltL s d f a0}) (fun x=>⟨[(0,.s s),(1,.i .i64 (q0:Nat)),(10,.i .i64 ch),(13,.i .i64 (x.1.1:Nat)),(14,.i .i64 (d:Nat)),(15,.i .i64 (f:Nat)),(16,.slc 0 0 x.1.2.length)],[some (.row false 1 x.1.2.length (zu j4 [] x.1.2))]⟩) (fun x=>s.length-x.1.1) ⟨(a0,[]),hal,fun h=>⟨hala h,Nat.zero_le _⟩,Nat.zero_le _,(fun y hy=>by simp at hy),rfl⟩ (by rw [←h14,h15];exact (Ent.ren1 [0] (by decide) (by simp only [Yd];exact yi fun i hi=>by simp at hi) (by simp [ze,Vg.look,SV.mapH,muL]))) ?_;rintro ⟨⟨a,L⟩,k1,k2,k3,k4,k5⟩;simp only [↓XC,X1,seval,TES,zd,kv,qy,qn,w6,wb,XR];simp only at k1 k2 k3 k4 k5;rw [zg s k1];have hLn:=uh L;have hA:(decide ((a:Int)<(s.length:Nat))&&decide (mkA s a=0)&&(lnA s a||decide ((inA s a:Int)≥d)))=decide (a<s.length∧mkA s a=0∧(lnA s a=true∨d≤inA s a)):=by rw [Bool.eq_iff_iff];simp only [Bool.and_eq_true,Bool.or_eq_true,decide_eq_true_eq,Int.ofNat_lt,Int.ofNat_le,ge_iff_le,and_assoc]
  have hB:(decide ((a:Int)≥f)&&(!lnA s a||decide ((inA s a:Int)>d)))=decide (f≤a∧(lnA s a=false∨d<inA s a)):=by rw [Bool.eq_iff_iff];simp only [Bool.and_eq_true,Bool.or_eq_true,decide_eq_true_eq,Int.ofNat_lt,Int.ofNat_le,ge_iff_le,gt_iff_lt,Bool.not_eq_true']
  rw [hA,hB];refine Chk.mk (fun h=>⟨⟨h,h⟩,hp⟩) fun _=>Chk.mk (fun h=>⟨⟨h,h⟩,hp⟩) fun _=>Chk.mk (fun h=>⟨⟨h,h⟩,hp⟩) fun _=>⟨fun h3=>Chk.mk (fun h=>⟨⟨h,h⟩,hp⟩) fun _=>Chk.mk (fun h=>⟨⟨h,h⟩,hp⟩) fun _=>?_,fun h3=>?_⟩
  ·have h3':=of_decide_eq_true h3;obtain ⟨k6,k7⟩:=k2 h3'.1;have hg:=zad h3'.1;have hbl:=uk s (en s a);have hen:=uo s a k1;have hge:=zck s a;have hbe:bl s a-a=inA s a:=by unfold inA;rw [k6]
   have hble:=zs9 s a;have hbla:bhL s (en s a)<s.length→la s (bhL s (en s a))=bhL s (en s a):=zgw;have hbw:bhL s (en s a)<s.length→bhL s (en s a)=en s a+1:=fun h=>by unfold bhL at *;omega
   have hbw2:en s a≤bhL s (en s a):=by unfold bhL;omega
   have htl:=zxp (f:=f) (d:=d) h3';have hd6:decide (f≤a∧(lnA s a=false∨d<inA s a))=true→d≤inA s a:=fun h4=>by
    rcases (of_decide_eq_true h4).2 with h5 | h5
    ·exact h3'.2.2.resolve_left (by rw [h5];simp)
    ·omega
   refine ⟨fun h4=>Chk.mk (by have:=hd6 h4;simp only [inR];omega) fun _=>Chk.mk hp fun _=>Chk.mk ⟨by omega, ?_,by omega⟩ fun _=>⟨z2 rfl rfl,CO fun _=>Chk.mk hp fun _=>Chk.mk ⟨hp,by omega,by omega⟩ fun _=>?_⟩,fun h4=>⟨z2 rfl rfl,CO fun _=>Chk.mk hp fun _=>Chk.mk ⟨hp,by omega,by omega⟩ fun _=>?_⟩⟩
   ·have:=hd6 h4;omega
   ·have h4':=of_decide_eq_true h4;have e1:((a:Int)+d).toNat=a+d:=by omega
    rw [e1];have hxl:(sub s (a+d) (en s a)).length=en s a-(a+d):=by simp only [sub,List.length_drop,List.length_take];omega
    refine ⟨⟨(bhL s (en s a),L++[sub s (a+d) (en s a)]),hbl,fun h=>⟨hbla h, ?_⟩, ?_, ?_, ?_⟩,by simp only;omega,(Ent.ren1 [2] (by decide) (by simp only [Yd];exact qq (y:=sub s (a+d) (en s a)) (fun _=>rfl) rfl (fun _ _=>rfl) rfl) (by simp [ze,Vg.look,SV.mapH,muL]))⟩
    ·have h8:=hbw h;simp only [wn,hxl] at h8 ⊢;omega
    ·simp only [wn,hxl];omega
    ·intro y hy;rcases List.mem_append.1 hy with h9 | h9
     ·exact k4 y h9
     ·have h10:y=sub s (a+d) (en s a):=by simpa using h9
      rw [h10,hxl];omega
    ·rw [htl,if_pos h4'] at k5;simp only [List.append_assoc,List.singleton_append];exact k5
   ·have h4':=of_decide_eq_false h4;have hxl:([]:Bs).length=0:=rfl;refine ⟨⟨(bhL s (en s a),L++[([]:Bs)]),hbl,fun h=>⟨hbla h, ?_⟩, ?_, ?_, ?_⟩,by simp only;omega,(Ent.ren1 [2] (by decide) (by simp only [Yd];exact qq (y:=([]:Bs)) (fun _=>rfl) rfl (fun _ _=>rfl) rfl) (by simp [ze,Vg.look,SV.mapH,muL]))⟩
    ·have h8:=hbw h;simp only [wn,hxl] at h8 ⊢;omega
    ·simp only [wn,hxl];omega
    ·intro y hy;rcases List.mem_append.1 hy with h9 | h9
     ·exact k4 y h9
     ·have h10:y=([]:Bs):=by simpa using h9
      rw [h10,hxl];omega
    ·rw [htl,if_neg h4'] at k5;simp only [List.append_assoc,List.singleton_append];exact k5
  ·rw [zn6 (of_decide_eq_false h3)] at k5;rw [←k5];refine Chk.mk ⟨by omega,by omega⟩ fun _=>?_;rw [yf rfl,←zw hl];simp only [↓XC,X1,seval,TES,wb,XR];exact Chk.mk ⟨Nat.le_refl _,by omega,k4⟩ fun _=>trivial
 ·have h1':¬(0<dg∧n≤60000):=by simpa using h1
  rw [if_neg h1',if_neg h2,Prod.mk.injEq] at hD;have h14:(60000:Int)=(d:Int):=by omega
  have h15:f=a0:=hD.2.symm;refine zl.of (ι:={x:Nat×List Bs // x.1≤s.length∧(x.1<s.length→la s x.1=x.1∧lnW x.2≤x.1)∧lnW x.2≤x.1+1∧(∀ y∈x.2,y.length≤1048576)∧(x.2++(ltL s d f x.1).1,(ltL s d f x.1).2)=ltL s d f a0}) (fun x=>⟨[(0,.s s),(1,.i .i64 (q0:Nat)),(10,.i .i64 ch),(13,.i .i64 (x.1.1:Nat)),(14,.i .i64 (d:Nat)),(15,.i .i64 (f:Nat)),(16,.slc 0 0 x.1.2.length)],[some (.row false 1 x.1.2.length (zu j4 [] x.1.2))]⟩) (fun x=>s.length-x.1.1) ⟨(a0,[]),hal,fun h=>⟨hala h,Nat.zero_le _⟩,Nat.zero_le _,(fun y hy=>by simp at hy),rfl⟩ (by rw [←h14,h15];exact (Ent.ren1 [0] (by decide) (by simp only [Yd];exact yi fun i hi=>by simp at hi) (by simp [ze,Vg.look,SV.mapH,muL]))) ?_;rintro ⟨⟨a,L⟩,k1,k2,k3,k4,k5⟩;simp only [↓XC,X1,seval,TES,zd,kv,qy,qn,w6,wb,XR];simp only at k1 k2 k3 k4 k5;rw [zg s k1];have hLn:=uh L;have hA:(decide ((a:Int)<(s.length:Nat))&&decide (mkA s a=0)&&(lnA s a||decide ((inA s a:Int)≥d)))=decide (a<s.length∧mkA s a=0∧(lnA s a=true∨d≤inA s a)):=by rw [Bool.eq_iff_iff];simp only [Bool.and_eq_true,Bool.or_eq_true,decide_eq_true_eq,Int.ofNat_lt,Int.ofNat_le,ge_iff_le,and_assoc]
  have hB:(decide ((a:Int)≥f)&&(!lnA s a||decide ((inA s a:Int)>d)))=decide (f≤a∧(lnA s a=false∨d<inA s a)):=by rw [Bool.eq_iff_iff];simp only [Bool.and_eq_true,Bool.or_eq_true,decide_eq_true_eq,Int.ofNat_lt,Int.ofNat_le,ge_iff_le,gt_iff_lt,Bool.not_eq_true']
  rw [hA,hB];refine Chk.mk (fun h=>⟨⟨h,h⟩,hp⟩) fun _=>Chk.mk (fun h=>⟨⟨h,h⟩,hp⟩) fun _=>Chk.mk (fun h=>⟨⟨h,h⟩,hp⟩) fun _=>⟨fun h3=>Chk.mk (fun h=>⟨⟨h,h⟩,hp⟩) fun _=>Chk.mk (fun h=>⟨⟨h,h⟩,hp⟩) fun _=>?_,fun h3=>?_⟩
  ·have h3':=of_decide_eq_true h3;obtain ⟨k6,k7⟩:=k2 h3'.1;have hg:=zad h3'.1;have hbl:=uk s (en s a);have hen:=uo s a k1;have hge:=zck s a;have hbe:bl s a-a=inA s a:=by unfold inA;rw [k6]
   have hble:=zs9 s a;have hbla:bhL s (en s a)<s.length→la s (bhL s (en s a))=bhL s (en s a):=zgw;have hbw:bhL s (en s a)<s.length→bhL s (en s a)=en s a+1:=fun h=>by unfold bhL at *;omega
   have hbw2:en s a≤bhL s (en s a):=by unfold bhL;omega
   have htl:=zxp (f:=f) (d:=d) h3';have hd6:decide (f≤a∧(lnA s a=false∨d<inA s a))=true→d≤inA s a:=fun h4=>by
    rcases (of_decide_eq_true h4).2 with h5 | h5
    ·exact h3'.2.2.resolve_left (by rw [h5];simp)
    ·omega
   refine ⟨fun h4=>Chk.mk (by have:=hd6 h4;simp only [inR];omega) fun _=>Chk.mk hp fun _=>Chk.mk ⟨by omega, ?_,by omega⟩ fun _=>⟨z2 rfl rfl,CO fun _=>Chk.mk hp fun _=>Chk.mk ⟨hp,by omega,by omega⟩ fun _=>?_⟩,fun h4=>⟨z2 rfl rfl,CO fun _=>Chk.mk hp fun _=>Chk.mk ⟨hp,by omega,by omega⟩ fun _=>?_⟩⟩
   ·have:=hd6 h4;omega
   ·have h4':=of_decide_eq_true h4;have e1:((a:Int)+d).toNat=a+d:=by omega
    rw [e1];have hxl:(sub s (a+d) (en s a)).length=en s a-(a+d):=by simp only [sub,List.length_drop,List.length_take];omega
    refine ⟨⟨(bhL s (en s a),L++[sub s (a+d) (en s a)]),hbl,fun h=>⟨hbla h, ?_⟩, ?_, ?_, ?_⟩,by simp only;omega,(Ent.ren1 [2] (by decide) (by simp only [Yd];exact qq (y:=sub s (a+d) (en s a)) (fun _=>rfl) rfl (fun _ _=>rfl) rfl) (by simp [ze,Vg.look,SV.mapH,muL]))⟩
    ·have h8:=hbw h;simp only [wn,hxl] at h8 ⊢;omega
    ·simp only [wn,hxl];omega
    ·intro y hy;rcases List.mem_append.1 hy with h9 | h9
     ·exact k4 y h9
     ·have h10:y=sub s (a+d) (en s a):=by simpa using h9
      rw [h10,hxl];omega
    ·rw [htl,if_pos h4'] at k5;simp only [List.append_assoc,List.singleton_append];exact k5
   ·have h4':=of_decide_eq_false h4;have hxl:([]:Bs).length=0:=rfl;refine ⟨⟨(bhL s (en s a),L++[([]:Bs)]),hbl,fun h=>⟨hbla h, ?_⟩, ?_, ?_, ?_⟩,by simp only;omega,(Ent.ren1 [2] (by decide) (by simp only [Yd];exact qq (y:=([]:Bs)) (fun _=>rfl) rfl (fun _ _=>rfl) rfl) (by simp [ze,Vg.look,SV.mapH,muL]))⟩
    ·have h8:=hbw h;simp only [wn,hxl] at h8 ⊢;omega
    ·simp only [wn,hxl];omega
    ·intro y hy;rcases List.mem_append.1 hy with h9 | h9
     ·exact k4 y h9
     ·have h10:y=([]:Bs):=by simpa using h9
      rw [h10,hxl];omega
    ·rw [htl,if_neg h4'] at k5;simp only [List.append_assoc,List.singleton_append];exact k5
  ·rw [zn6 (of_decide_eq_false h3)] at k5;rw [←k5];refine Chk.mk ⟨by omega,by omega⟩ fun _=>?_;rw [yf rfl,←zw hl];simp only [↓XC,X1,seval,TES,wb,XR];exact Chk.mk ⟨Nat.le_refl _,by omega,k4⟩ fun _=>trivial
noncomputable def zcw:PE:=peR (fun (x:Bs×Int×Int)=>match x with | (s,p,n)=>[.s s,.i .i64 p,.i .i64 n]) (fun (x:Bs×Int×Int)=>match x with | (s,p,n)=>s.length≤1048576) (fun (x:Bs×Int×Int)=>match x with | (s,p,n)=>.tup [.s (liA s (spot s p) n).1,.i .i64 ((liA s (spot s p) n).2.1:Nat),.i .i64 (liA s (spot s p) n).2.2])
theorem zfi {s:Bs} {p n:Int}:zcw [.s s,.i .i64 p,.i .i64 n]=some (s.length≤1048576,.tup [.s (liA s (spot s p) n).1,.i .i64 ((liA s (spot s p) n).2.1:Nat),.i .i64 (liA s (spot s p) n).2.2]):=yg (by rintro ⟨a0,a1,a2⟩ ⟨b0,b1,b2⟩ h;simp_all []) (s,p,n)
theorem zfh:PE1 Tryz.prog 317 zcw:=yo (by rintro ⟨s,p,n⟩ hp;exact zth s p n hp)
end Go.T
end
section
namespace Go.T
variable [Go.Vg.Glob] [Go.Vg.GlobTabs 0 1]
open Go.Proofs Go.Vg Go.RowKit Go.TT Go.Pl
set_option maxRecDepth 10000
set_option maxHeartbeats 4000000
theorem rboS (s:Bs) (r:Rd) (fr:Bool) (la:Int) (ha:Bool) (an tg:Bs) (pf:Int) (pe:Nat) (hs:s.length≤1048576) (ho:Ok s r):zcl Tryz.prog 318 s fr la [.agg [.b ha,.s an,.s tg,.i .i64 pf,.i .i64 (pe:Nat)]] r (boS s r (⟨ha,an,tg,pe⟩:Pp)):=by
 have hdp:=ho.dp;unfold boS;split
 ·rename_i h9;refine zdt s r fr la id ha an tg pf pe (fun hb=>?_) (fun hb=>?_) ⟨hs,ho⟩
  ·exact zds s r fr la id ha an tg pf pe (fun h=>by omega) ⟨hs,ho,zm hb (by decide)⟩
  ·exact zhk s r fr la (paR s id) ha an tg pf pe (fun h=>by omega) ⟨hs,ho,zm hb (by decide)⟩
 ·rename_i d h9;have hit:zj2 s (r.dp+1) (noF s d):=fun r1 h1 h2 h3=>zel d r1 h1 (by omega) h3;refine zdt s r fr la (noF s d) ha an tg pf pe (fun hb=>?_) (fun hb=>?_) ⟨hs,ho⟩
  ·exact zds s r fr la (noF s d) ha an tg pf pe (fun h=>⟨hit,fun r2 k1 k2=>rnode s fr la hs d r2 k1 (by omega)⟩) ⟨hs,ho,zm hb (by decide)⟩
  ·exact zhk s r fr la (paR s (noF s d)) ha an tg pf pe (fun h=>⟨fun r2 k1 k2 k3=>zgm k1 (by rw [k2];exact hit) k3,fun r2 k1 k2=>zo9 s r2 fr la (noF s d) (fun r3 m1 m2=>rnode s fr la hs d r3 m1 (by omega)) ⟨hs,k1⟩⟩) ⟨hs,ho,zm hb (by decide)⟩
theorem rscalar (s:Bs) (r:Rd) (fr:Bool) (la:Int) (ha:Bool) (an tg:Bs) (pf:Int) (pe:Nat) (n:Int) (hp:s.length≤1048576∧Ok s r):FnK Tryz.prog 283 1 [.ptr 0 0 0,.agg [.b ha,.s an,.s tg,.i .i64 pf,.i .i64 (pe:Nat)],.i .i64 n] (rdC s (r) fr la) (fun z c=>z=.b (decide ((scK s ⟨r,false,0⟩ (⟨ha,an,tg,pe⟩:Pp) n).r.cd=0))∧c=(rdC s ((scK s ⟨r,false,0⟩ (⟨ha,an,tg,pe⟩:Pp) n).r) (scK s ⟨r,false,0⟩ (⟨ha,an,tg,pe⟩:Pp) n).fr la)):=by
 refine HEx (zt.c (zfh.c (vj.c ka.d))) 107 [[0,2,4],[0,2,4],[0,2,4,7],[0,2,4,7,24],[0,4,7,8,9,10],[0,4,7,8,9,10,46],[6],[0,4,7,8,9,11],[0,4,8,9,11,52],[0,4,8,9,11],[0,9],[0],[],[6],[0,2,4,7,65],[6],[0,2,4,7,75],[6],[0,2,4,81],[6],[0,2,4,87],[6],[6]] Tryz.func283 [.tmp 6] (fun _=>false) [] [(2,[],[],qa (.q0 3 [3] (.q0 7 [7] (.alt 8 (.q1 9 .fin) .fin)))),(4,[],[],qa (.q1 8 (.q0 3 [3] (.q0 7 [7] (.alt 9 (.q1 10 (.q1 11 (.q1 12 (.q1 13 (.q1 14 (.q1 15 (.q1 16 .fin))))))) .fin))))),(20,[],[],qa (.q0 3 [3] (.q0 7 [7] (.alt 8 (.q1 9 .fin) .fin))))] ?_;simp only [↓XC,X1,seval,X2,zc,zfi,ya,zk];obtain ⟨hs,ho⟩:=hp;have hpos:=ho.pos;have hsz:=ho.size hs;have hcd:=ho.cd;rw [zg s hpos];refine ⟨by decide +kernel,Chk.mk hs fun _=>⟨fun h1=>⟨by decide +kernel,Chk.mk hs fun _=>?_⟩,fun h1=>?_⟩⟩
 ·have h1':byt s r.pos=124∨byt s r.pos=62:=by simpa using h1
  refine ⟨fun h2=>?_,fun h2=>⟨fun h3=>?_,fun h3=>?_⟩⟩
  ·have hne:¬(liA s r.pos n).2.2=0:=by simpa using h2
   refine Wm (wy s r false la (liA s r.pos n).2.2 (liA s r.pos n).2.1 hcd) ?_;simp only [↓XC,X1,seval,X2,XM];have e:scK s ⟨r,false,0⟩ (⟨ha,an,tg,pe⟩:Pp) n=⟨flt r (liA s r.pos n).2.2 (liA s r.pos n).2.1,false,0⟩:=by unfold scK;rw [if_pos h1',if_pos hne]
   rw [e];exact Wf (by simp only [↓XC,X1,seval];try simp [Yf,flt,hne])
  ·have hne:¬(liA s r.pos n).2.2≠0:=by simpa using h2
   refine Wb (zhy s r false la 5 (liA s r.pos n).1 ha an tg pf pe ⟨by omega,ho.dn,ho.bs⟩) ?_;simp only [↓XC,X1,seval,X2,XM];have e:scK s ⟨r,false,0⟩ (⟨ha,an,tg,pe⟩:Pp) n=⟨atR (yb r 5 (liA s r.pos n).1 an tg) (liA s r.pos n).2.1,true,0⟩:=by unfold scK;rw [if_pos h1',if_neg hne,if_pos h3]
   rw [e];try simp only [atR,yb,zf,List.length_append,List.length_cons,List.length_nil,Nat.zero_add]
   exact Wf (by simp only [↓XC,X1,seval];try simp [Yf,hcd])
  ·have hne:¬(liA s r.pos n).2.2≠0:=by simpa using h2
   refine Wb (zhy s r false la 4 (liA s r.pos n).1 ha an tg pf pe ⟨by omega,ho.dn,ho.bs⟩) ?_;simp only [↓XC,X1,seval,X2,XM];have e:scK s ⟨r,false,0⟩ (⟨ha,an,tg,pe⟩:Pp) n=⟨atR (yb r 4 (liA s r.pos n).1 an tg) (liA s r.pos n).2.1,true,0⟩:=by unfold scK;rw [if_pos h1',if_neg hne,if_neg h3]
   rw [e];try simp only [atR,yb,zf,List.length_append,List.length_cons,List.length_nil,Nat.zero_add]
   exact Wf (by simp only [↓XC,X1,seval];try simp [Yf,hcd])
 have h1':¬(byt s r.pos=124∨byt s r.pos=62):=by simpa using h1
 refine ⟨fun h2=>?_,fun h2=>?_⟩
 ·have h2':byt s r.pos=91∨byt s r.pos=123:=by simpa using h2
  have hN:=rboS s r false la ha an tg pf pe hs ho;unfold zcl rdC at hN;refine Wb (hN) ?_;simp only [↓XC,X1,seval,X2,XM];have e:scK s ⟨r,false,0⟩ (⟨ha,an,tg,pe⟩:Pp) n=⟨boS s r (⟨ha,an,tg,pe⟩:Pp),false,0⟩:=by unfold scK;rw [if_neg h1',if_pos h2']
  rw [e];exact Wf
 have h2':¬(byt s r.pos=91∨byt s r.pos=123):=by simpa using h2
 refine ⟨fun h3=>?_,fun h3=>⟨fun h4=>?_,fun h4=>⟨by decide +kernel,Chk.mk hs fun _=>⟨fun h5=>?_,fun h5=>?_⟩⟩⟩⟩
 ·refine Wb (zuu s r false la ha an tg pf pe ⟨hs,by omega,ho.dn,ho.bs,hcd,hpos⟩) ?_;simp only [↓XC,X1,seval,X2,XM];have e:scK s ⟨r,false,0⟩ (⟨ha,an,tg,pe⟩:Pp) n=⟨alR s r ha,false,0⟩:=by unfold scK;rw [if_neg h1',if_neg h2',if_pos h3]
  rw [e];exact Wf
 ·have h4':isQu (byt s r.pos)=true:=h4;have hqp:r.pos<s.length:=by
   simp only [Bool.or_eq_true,beq_iff_eq] at h4;rcases h4 with h | h
   ·exact zm h (by decide)
   ·exact zm h (by decide)
  refine Wb (zuf s r false la ha an tg pf pe ⟨hs,by omega,ho.dn,ho.bs,hcd,hqp⟩) ?_;simp only [↓XC,X1,seval,X2,XM];have e:scK s ⟨r,false,0⟩ (⟨ha,an,tg,pe⟩:Pp) n=⟨qtR s r (⟨ha,an,tg,pe⟩:Pp),false,0⟩:=by unfold scK;rw [if_neg h1',if_neg h2',if_neg h3,if_pos h4']
  rw [e];exact Wf
 ·have h4':¬isQu (byt s r.pos)=true:=by unfold isQu;rw [h4];simp
  refine Wb (zzg s r false la ha an tg pf pe n false ⟨hs,by omega,ho.dn,ho.bs,hpos⟩) ?_;simp only [↓XC,X1,seval,X2,XM];have e:scK s ⟨r,false,0⟩ (⟨ha,an,tg,pe⟩:Pp) n=⟨plR s r (⟨ha,an,tg,pe⟩:Pp) n false,false,0⟩:=by unfold scK;rw [if_neg h1',if_neg h2',if_neg h3,if_neg h4',if_pos h5]
  rw [e];try simp only [plR,atR,yb,zf,List.length_append,List.length_cons,List.length_nil,Nat.zero_add]
  exact Wf (by simp only [↓XC,X1,seval];try simp [Yf,hcd])
 ·have h4':¬isQu (byt s r.pos)=true:=by unfold isQu;rw [h4];simp
  refine Wm (wy s r false la 10 r.pos hcd) ?_;simp only [↓XC,X1,seval,X2,XM];have e:scK s ⟨r,false,0⟩ (⟨ha,an,tg,pe⟩:Pp) n=⟨flt r 10 r.pos,false,0⟩:=by unfold scK;rw [if_neg h1',if_neg h2',if_neg h3,if_neg h4',if_neg (by simpa using h5)]
  rw [e];exact Wf
theorem rkey (s:Bs) (r:Rd) (fr:Bool) (la:Int) (ha:Bool) (an tg:Bs) (pf:Int) (pe:Nat) (hp:s.length≤1048576∧OkM s r∧(kyA s r.pos).2.2=true):FnK Tryz.prog 314 1 [.ptr 0 0 0,.agg [.b ha,.s an,.s tg,.i .i64 pf,.i .i64 (pe:Nat)]] (rdC s (r) fr la) (fun z c=>z=.tup [.i .i64 (kyA s r.pos).2.1,.b (decide ((kyR s r (⟨ha,an,tg,pe⟩:Pp)).cd=0))]∧c=(rdC s (kyR s r (⟨ha,an,tg,pe⟩:Pp)) fr la)):=by
 refine HEx (zam.c (zt.c vj.d)) 60 [[0,3],[0,3,6,7],[0,3,6,7,9],[0,3,6,7,9,10],[7,9],[0,3,6,7,9,10,46],[7,9],[0,3,6,7,9,52],[7,9],[4,5]] Tryz.func314 [.tmp 4,.tmp 5] (fun _=>false) [] [(1,[],[],qa (.q0 3 [3] (.q0 7 [7] (.alt 8 (qg .fin) .fin)))),(3,[],[],qa (.q0 3 [3] (.q0 7 [7] (.alt 8 (.q1 9 .fin) .fin)))),(4,[],[],qf (.q1 9 (.q0 4 [4,10,12] (.q0 8 [8,10,12] (.q1 10 (.q0 11 [11,12] (.seq [12])))))))] ?_;simp only [↓XC,X1,seval,X2,y8,zc,ya];obtain ⟨hs,ho,hk⟩:=hp;have hpos:=ho.pos;have hcd:=ho.cd;have hsz:=ho.sz;obtain ⟨k1,k2,k3,k4,k5⟩:=xo (Nat.le_of_lt hpos) hk;rw [zg s (Nat.le_of_lt hpos)];refine ⟨by decide +kernel,Chk.mk hs fun _=>⟨by decide +kernel,Chk.mk hs fun _=>⟨fun h3=>?_,fun h3=>⟨fun h4=>?_,fun h4=>⟨by decide +kernel,Chk.mk ⟨by omega,by omega,by omega⟩ fun _=>?_⟩⟩⟩⟩⟩
 ·refine Wb (zuu s r fr la ha an tg pf pe ⟨hs,by omega,ho.dn,ho.bs,hcd,Nat.le_of_lt hpos⟩) ?_;simp only [↓XC,X1,seval,X2,XM];have e:kyR s r (⟨ha,an,tg,pe⟩:Pp)=alR s r ha:=by unfold kyR;rw [if_pos h3]
  rw [e];exact Wf
 ·have h4':isQu (byt s r.pos)=true:=h4;refine Wb (zuf s r fr la ha an tg pf pe ⟨hs,by omega,ho.dn,ho.bs,hcd,hpos⟩) ?_;simp only [↓XC,X1,seval,X2,XM];have e:kyR s r (⟨ha,an,tg,pe⟩:Pp)=qtR s r (⟨ha,an,tg,pe⟩:Pp):=by unfold kyR;rw [if_neg h3,if_pos h4']
  rw [e];exact Wf
 ·have h4':¬isQu (byt s r.pos)=true:=by unfold isQu;rw [h4];simp
  rw [show List.drop r.pos (List.take (kyA s r.pos).1.toNat s)=sub s r.pos (kyA s r.pos).1.toNat from rfl];refine Wb (zhy s r fr la 1 (sub s r.pos (kyA s r.pos).1.toNat) ha an tg pf pe ⟨by omega,ho.dn,ho.bs⟩) ?_;simp only [↓XC,X1,seval,X2,XM];have e:kyR s r (⟨ha,an,tg,pe⟩:Pp)=yb r 1 (sub s r.pos (kyA s r.pos).1.toNat) an tg:=by unfold kyR;rw [if_neg h3,if_neg h4']
  rw [e];try simp only [atR,yb,zf,List.length_append,List.length_cons,List.length_nil,Nat.zero_add]
  exact Wf (by simp only [↓XC,X1,seval];try simp [Yf,hcd])
theorem rvalue (s:Bs) (x:Rb) (sb:Int→Bool→Bool→Rb→Rb) (sg:Nat) (cc:Int) (li:Bool) (HS:∀ (n:Int) (i l:Bool) (x1:Rb),Ok s x1.r→x1.r.dp=x.r.dp→zb7 Tryz.prog 252 s [.i .i64 n,.b i,.b l] x1 (sb n i l x1)) (hp:s.length≤1048576∧Ok s (atR x.r (sg+1))∧x.r.ev.length+1≤8 * (sg+1)+64∧sg<s.length):FnK Tryz.prog 315 1 [.ptr 0 0 0,.i .i64 (sg:Nat),.i .i64 cc,.b li] (rdC s ((x).r) (x).fr ((x).lt:Nat)) (fun z c=>z=.b (decide ((vlK s sb sg cc li x).r.cd=0))∧c=(rdC s (((vlK s sb sg cc li x)).r) ((vlK s sb sg cc li x)).fr (((vlK s sb sg cc li x)).lt:Nat))):=by
 refine HEx (vd.c qv.d) 66 [[0,1,2,3],[0,1,2,3,9,10],[0,1,2,3,9,22],[0,2,3],[8],[0,2,3,9,42],[8],[0,2,3,9,56],[],[8],[8]] Tryz.func315 [.tmp 8] (fun _=>true) [] [] ?_;simp only [↓XC,X1,seval,X2,yu,zz];obtain ⟨hs,ho,hsz,hsg⟩:=hp;have hcd:x.r.cd=0:=ho.cd;have hdn:x.r.dn.length=x.r.ev.length:=ho.dn;have hbs:x.r.bs≤x.r.ev.length:=ho.bs;have hw1:=jh s (sg+1);have hw2:=jg s (sg+1) hsg;have hg1:=q8 s (sg+1);have hg2:=qr s (sg+1) hsg;have hr:=wx (s:=s) (p:=sg+1) hsg;rw [show spot s ((sg:Int)+1)=sg+1 from by unfold spot;omega,show (sg:Int)+1=((sg+1:Nat):Int) by omega];refine CR fun _=>Chk.mk hs fun _=>⟨fun h=>CR fun _=>Chk.mk hs fun _=>?_,fun h=>CR fun _=>?_⟩
 ·have h':(rsA s (sg+1)).2=false:=by simpa using h
  have hN:=HS cc (!li) false (onB x (atR x.r (wh s (sg+1)))) (zqc (r:=atR x.r (sg+1)) ho (by simp only [atR];omega) hw1 hw2) rfl;unfold zb7 rdC at hN;refine Wb (hN) ?_;simp only [↓XC,X1,seval,X2,↓Ya,Yb,onB,XM];have e:vlK s sb sg cc li x=sb cc (!li) false (onB x (atR x.r (wh s (sg+1)))):=by unfold vlK;rw [if_pos h']
  rw [e];exact Wf
 ·have h':¬(rsA s (sg+1)).2=false:=by simpa using h
  refine Wm (zzp s x.r x.fr (x.lt:Nat) (sg+1) ⟨hs,hcd,hsg⟩) ?_;simp only [↓XC,X1,seval,X2,↓Ya,Yb,onB,XM];obtain ⟨g,hg⟩:∃ g,g=ovR s x.r (sg+1):=⟨_,rfl⟩
  rw [←hg];by_cases hgz:g.cd=0
  ·simp only [decide_eq_true hgz];simp only [↓XC,X1,seval,X2,↓Ya,Yb];have hge:g=atR x.r (gpE s (sg+1)):=by rw [hg];exact ug (by rw [←hg];exact hgz)
   have hgp:g.pos≤s.length:=by rw [hge];exact hg2
   have hgo:Ok s g:=by rw [hge];exact zqc (r:=atR x.r (sg+1)) ho (by simp only [atR];omega) hg1 hg2
   have hgl:g.ev.length≤16777216:=Nat.le_trans (hgo.size hs) (by decide);have hgd:g.dp=x.r.dp:=by rw [hge];rfl
   refine Wm (zda s g x.fr (x.lt:Nat) g.pos ⟨hs,hgp⟩) ?_;simp only [↓XC,X1,seval,X2,↓Ya,Yb,onB,XM];by_cases hst:jl s g.pos=true
   ·simp only [hst];simp only [↓XC,X1,seval,X2,↓Ya,Yb];refine Wb (zdr s g x.fr (x.lt:Nat) false [] [] 0 0 (rsA s (sg+1)).1 ⟨hgl,hgo.dn,hgo.bs⟩) ?_;simp only [↓XC,X1,seval,X2,↓Ya,Yb,onB,XM];have e:vlK s sb sg cc li x=ntB x g (ppz 0) (rsA s (sg+1)).1:=by unfold vlK;rw [if_neg h',←hg,if_neg (by simpa using hgz),if_pos (.inl hst)]
    rw [e];try simp only [ntB,ppz,ntR,atR,yb,zf,List.length_append,List.length_cons,List.length_nil,Nat.zero_add]
    exact Wf (by simp only [↓XC,X1,seval];try simp [Yf,onB,hgz])
   ·rw [Bool.not_eq_true] at hst;simp only [hst];simp only [↓XC,X1,seval,X2,↓Ya,Yb];refine Wm (zz0 s g x.fr (x.lt:Nat) cc (!li) ⟨hs,hgp⟩) ?_;simp only [↓XC,X1,seval,X2,↓Ya,Yb,onB,XM];by_cases hdp:dpA s g.pos cc (!li)=true
    ·simp only [hdp];simp only [↓XC,X1,seval,X2,↓Ya,Yb];have hN:=HS cc false (!li) (onB x g) hgo hgd;unfold zb7 rdC at hN;refine Wb (hN) ?_;simp only [↓XC,X1,seval,X2,↓Ya,Yb,onB,XM];have e:vlK s sb sg cc li x=sb cc false (!li) (onB x g):=by unfold vlK;rw [if_neg h',←hg,if_neg (by simpa using hgz),if_neg (by rw [hst,hdp];simp)]
     rw [e];exact Wf
    ·rw [Bool.not_eq_true] at hdp;simp only [hdp];simp only [↓XC,X1,seval,X2,↓Ya,Yb];refine Wb (zdr s g x.fr (x.lt:Nat) false [] [] 0 0 (rsA s (sg+1)).1 ⟨hgl,hgo.dn,hgo.bs⟩) ?_;simp only [↓XC,X1,seval,X2,↓Ya,Yb,onB,XM];have e:vlK s sb sg cc li x=ntB x g (ppz 0) (rsA s (sg+1)).1:=by unfold vlK;rw [if_neg h',←hg,if_neg (by simpa using hgz),if_pos (.inr hdp)]
     rw [e];try simp only [ntB,ppz,ntR,atR,yb,zf,List.length_append,List.length_cons,List.length_nil,Nat.zero_add]
     exact Wf (by simp only [↓XC,X1,seval];try simp [Yf,onB,hgz])
  ·simp only [decide_eq_false hgz];simp only [↓XC,X1,seval,X2,↓Ya,Yb];have e:vlK s sb sg cc li x=onB x g:=by unfold vlK;rw [if_neg h',←hg,if_pos hgz]
   rw [e];exact Wf (by simp only [↓XC,X1,seval];try simp [Yf,onB,hgz])
end Go.T
end
