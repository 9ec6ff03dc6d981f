/- Own text: part RBC. -/
import Derived.Test.YtgippllfnmdnpaaGreatDoorRAY
import Derived.Test.YtgippllfnmdnpaaGreatDoorRBA
section
set_option linter.unusedVariables false
set_option linter.unusedSimpArgs false
set_option linter.unusedSectionVars false
set_option linter.unnecessarySimpa false
namespace Go.T
variable [Go.Vg.Glob] [Go.Vg.GlobTabs 0 1]
open Go.Proofs Go.Vg Go.RowKit Go.TT Go.Pl Go.TSh
set_option maxRecDepth 10000
set_option maxHeartbeats 4000000
theorem zt4 (l:List Pc) (hp:pcW l≤16777216):PF Tryz.prog 104 [.fs 2 (l.map pcc)] (.s (zex l)):=by
 refine ⟨rfl,rfl,FnK.of (cf:=zk Tryz.prog te [(189,zaw)] 65 0 false (fun _=>false) (kp [(0,[0]),(1,[0,10]),(2,[2]),(3,[0,3]),(4,[0,3,4]),(5,[0,3,4,5]),(6,[0,3,4,5,6]),(7,[0,3,4,5,6,22]),(8,[0,3,4,5,6]),(9,[0,3,4,5,6,7]),(10,[0,3,4,5,6,7,43]),(11,[0,3,4,5,6]),(12,[0,3,4,5,6,7,46]),(13,[0,3,6,7]),(14,[0,3,6,7,53]),(15,[0,3,6,7]),(16,[0,3,6,7]),(17,[0,3,4,6]),(18,[0,3,4,5,6]),(19,[2])]) [] []) (zf te_ok (l:=[(189,zaw)]) (⟨zdr,trivial⟩) zd) Tryz.func104 rfl rfl rfl (by simp [zk]) (by simp [zk]) (rs:=[.tmp 2]) rfl 100000 ?_⟩
 simp only [↓XC,XV,XT,Yg,seval,TES,ji,XRP]
 have hW:=zmn l
 refine ⟨fun h=>?_,fun h=>Chk.mk (by omega) fun _=>Chk.mk (by omega) fun _=>?_⟩
 ·obtain rfl:l=[]:=List.length_eq_zero_iff.1 (by omega)
  rfl
 refine yv.of (ι:={x:Nat×Bs×Bool×Nat // 1≤x.1∧x.1≤l.length∧x.2.1.length+x.2.2.2+pcW (l.drop x.1)≤pcW l∧x.2.1++zc6 x.2.2.1 x.2.2.2 (l.drop x.1)=zex l}) (fun x=>⟨[(0,.fs 2 (l.map pcc)),(3,.s x.1.2.1),(4,.b x.1.2.2.1),(5,.i .i64 (x.1.2.2.2:Nat)),(6,.i .i64 (x.1.1:Nat))],[]⟩) (fun x=>l.length-x.1.1) ⟨(1,(l.getD 0 pcz).text,(l.getD 0 pcz).glue,0),by simp only;omega,by simp only;omega,by have:=zqy (l:=l) (i:=0) (by omega);simp only [List.drop_zero,Nat.zero_add] at this;simp only;omega,(zto (by omega)).symm⟩ (Ent.refl _ _) ?_
 rintro ⟨⟨i,out,glue,many⟩,h1,h2,h3,h4⟩
 simp only [↓XC,XV,XT,Yg,seval,TES,ji,XRP]
 simp only at h1 h2 h3 h4
 refine ⟨fun hl=>Chk.mk (by omega) fun _=>Chk.mk (fun _=>by simp only [inR];omega) fun _=>?_,fun hl=>?_⟩
 ·have hi:i<l.length:=by omega
  have hw:=zqy (l:=l) hi
  have hrl:Lib.repeatL [10] many=List.replicate many 10:=by have:=Lib.repeatL_replicate 10 1 many;simpa using this
  have hX:(decide ((l.getD i pcz).text=[])&&!(l.getD i pcz).glue&&decide ((i:Int)<(l.length:Int)-1))=decide ((l.getD i pcz).text=[]∧(l.getD i pcz).glue=false∧i+1<l.length):=by
   rw [Bool.eq_iff_iff]
   simp only [Bool.and_eq_true,decide_eq_true_eq,Bool.not_eq_true']
   constructor
   ·rintro ⟨⟨a,b⟩,c⟩;exact ⟨a,b,by omega⟩
   ·rintro ⟨a,b,c⟩;exact ⟨⟨a,b⟩,by omega⟩
  rw [hX,hrl]
  refine ⟨fun hx=>?_,fun hx=>?_⟩
  ·have hx:=of_decide_eq_true hx
   rw [hx.1] at hw
   simp only [List.length_nil] at hw
   exact Chk.mk (by simp only [inR];omega) fun _=>Chk.mk (by simp only [inR];omega) fun _=>⟨⟨(i+1,out,glue,many+1),by simp only;omega,by simp only;omega,by simp only;omega,by simp only;rw [←ztp hx.2.2 hx.1 hx.2.1];exact h4⟩,by simp only;omega,(by (try simp only [Int.natCast_add,Int.natCast_one]);exact Ent.nil (by simp [zj,Vg.look,SV.mapH]))⟩
  ·have hx:=of_decide_eq_false hx
   rw [zxa hi hx] at h4
   refine ⟨fun hm=>?_,fun hm=>⟨fun hg=>?_,fun hg=>?_⟩⟩
   ·rw [if_pos (by omega)] at h4
    refine Chk.mk (by omega) fun _=>Chk.mk (by simp only [List.length_replicate];omega) fun _=>Chk.mk (by simp only [List.length_replicate];omega) fun _=>Chk.mk (by simp only [inR];omega) fun _=>⟨⟨(i+1,out++List.replicate many 10++(l.getD i pcz).text,(l.getD i pcz).glue,0),by simp only;omega,by simp only;omega,by simp only [List.length_append,List.length_replicate];omega,by simp only;rw [←h4];simp only [List.append_assoc]⟩,by simp only;omega,(by (try simp only [Int.natCast_add,Int.natCast_one]);exact Ent.nil (by simp [zj,Vg.look,SV.mapH]))⟩
   ·obtain rfl:many=0:=by omega
    have hg:glue=false:=by simpa using hg
    rw [hg] at h4
    simp only [Nat.lt_irrefl,if_false,Bool.false_eq_true] at h4
    refine Chk.mk (by omega) fun _=>Chk.mk (by omega) fun _=>Chk.mk (by simp only [inR];omega) fun _=>⟨⟨(i+1,out++[32]++(l.getD i pcz).text,(l.getD i pcz).glue,0),by simp only;omega,by simp only;omega,by simp only [List.length_append,List.length_singleton];omega,by simp only;rw [←h4];simp only [List.append_assoc]⟩,by simp only;omega,(by (try simp only [Int.natCast_add,Int.natCast_one]);exact Ent.nil (by simp [zj,Vg.look,SV.mapH]))⟩
   ·obtain rfl:many=0:=by omega
    have hg:glue=true:=by simpa using hg
    rw [hg] at h4
    simp only [Nat.lt_irrefl,if_false,if_true,List.nil_append] at h4
    refine Chk.mk (by omega) fun _=>Chk.mk (by simp only [inR];omega) fun _=>⟨⟨(i+1,out++(l.getD i pcz).text,(l.getD i pcz).glue,0),by simp only;omega,by simp only;omega,by simp only [List.length_append];omega,by simp only;rw [←h4];simp only [List.append_assoc]⟩,by simp only;omega,(by (try simp only [Int.natCast_add,Int.natCast_one]);exact Ent.nil (by simp [zj,Vg.look,SV.mapH]))⟩
 ·obtain rfl:i=l.length:=by omega
  rw [List.drop_length] at h4
  rw [←h4];simp [zc6]
noncomputable def kj:PE:=peR (fun (l:List Pc)=>[.fs 2 (l.map pcc)]) (fun (l:List Pc)=>pcW l≤16777216) (fun (l:List Pc)=>.s (zex l))
theorem wz {l:List Pc}:kj [.fs 2 (l.map pcc)]=some (pcW l≤16777216,.s (zex l)):=z6 (by rintro a b h;simp_all [pcc_inj]) l
theorem zah:PE1 Tryz.prog 104 kj:=yb (by rintro l hp;exact zt4 l hp)
end Go.T
end
section
set_option linter.unusedVariables false
set_option linter.unusedSimpArgs false
set_option linter.unusedSectionVars false
set_option linter.unnecessarySimpa false
namespace Go.T
variable [Go.Vg.Glob] [Go.Vg.GlobTabs 0 1]
open Go.Proofs Go.Vg Go.RowKit Go.TT Go.Pl
set_option maxRecDepth 10000
set_option maxHeartbeats 4000000
theorem qput (s:Bs) (n:Nat) (L:List Pc) (cur:Bs) (k:Nat) (t:Bs) (m:Int) (b:Bool) (hp:cur.length≤16777216∧t.length≤16∧n≤16777216∧0≤m∧m≤16777216):FnK Tryz.prog 239 1 [.ptr 0 0 0,.s t,.i .i64 m,.b b] [some (.blk false [.s s,.i .i64 ((n:Int)),.slc 1 0 (L).length,.s (cur),.i .i64 ((k:Int))]),some (.row false 2 (L).length (zg pcc pcz (L)))] (fun z c=>z=.tup []∧c=[some (.blk false [.s s,.i .i64 ((n:Int)+m),.slc 1 0 (L).length,.s (cur++t),.i .i64 ((if b then ((cur++t).length:Nat) else k:Nat))]),some (.row false 2 (L).length (zg pcc pcz (L)))]):=by
 refine FnK.ofE (cf:=zk Tryz.prog te [] 35 1 false (fun _=>false) (kp [(0,[0,2,3]),(1,[0,3]),(2,[0,26]),(3,[])]) [] []) (zf te_ok (l:=[]) (trivial) zd) Tryz.func239 rfl rfl rfl (by simp [zk]) (by simp [zk]) (rs:=[]) rfl 100000 ?_
 simp only [↓XC,XV,XT,Yg,seval,TES,XRP]
 refine Chk.mk (by omega) fun _=>Chk.mk (by simp only [inR];omega) fun _=>⟨fun hb=>?_,fun hb=>?_⟩
 ·subst hb
  exact ⟨[0,1],by decide,by simp only [Yd];refine ⟨zb (by simp [Yf]), ?_⟩;exact za fun _=>rfl,by simp only [↓XC,XV,XT,Yg,seval];try first | rfl | simp [Yf],by simp [ye,SO.ro],by simp⟩
 ·subst hb
  exact ⟨[0,1],by decide,by simp only [Yd];refine ⟨zb (by simp [Yf]), ?_⟩;exact za fun _=>rfl,by simp only [↓XC,XV,XT,Yg,seval];try first | rfl | simp [Yf],by simp [ye,SO.ro],by simp⟩
theorem qends (s:Bs) (n:Nat) (L:List Pc) (cur:Bs) (k:Nat) (b:Bool) (hp:s.length≤1048576∧n<s.length∧k≤cur.length∧L.length≤16777216∧cur.length≤16777216):FnK Tryz.prog 238 1 [.ptr 0 0 0,.b b] [some (.blk false [.s s,.i .i64 ((n:Int)),.slc 1 0 (L).length,.s (cur),.i .i64 ((k:Int))]),some (.row false 2 (L).length (zg pcc pcz (L)))] (fun z c=>z=.b (decide (mkA s (n+1)=0))∧c=[some (.blk false [.s s,.i .i64 (((if mkA s (n+1)=0 then wh s (n+1) else n+1:Nat):Int)),.slc 1 0 (L++[(⟨if b then cur else cur.take k,b⟩:Pc)]).length,.s (([]:Bs)),.i .i64 (0)]),some (.row false 2 (L++[(⟨if b then cur else cur.take k,b⟩:Pc)]).length (zg pcc pcz (L++[(⟨if b then cur else cur.take k,b⟩:Pc)])))]):=by
 refine FnK.ofE (cf:=zk Tryz.prog te [(144,yj),(106,yg)] 69 1 false (fun _=>false) (kp [(0,[0,1]),(1,[0,1,6]),(2,[0,1]),(3,[0]),(4,[0]),(5,[0]),(6,[0]),(7,[0,56]),(8,[4]),(9,[]),(10,[4])]) [] [(2,[12],[0],.q1 0 (.q1 1 (.q1 2 (.q1 3 (.q1 5 (.q1 6 (.q1 7 (.q0 4 [4,9,10,11,12] (.q0 8 [8,9,10,11,12] (.q0 9 [9,10,11,12] (.q1 10 (.q1 11 (.sw (.alt 12 (.fin) (.fin))))))))))))))),(3,[12,15],[0,1],.q1 0 (.q1 1 (.q1 2 (.q1 3 (.q1 5 (.q1 6 (.q1 7 (.q1 9 (.q0 4 [4,12,13,14,15] (.q0 8 [8,10,11,12,13,14,15] (.q1 10 (.alt 11 (.sw (.alt 12 (.q1 13 (.q1 14 (.alt 15 (.fin) (.fin)))) (.fin))) (.fin))))))))))))),(7,[],[],.q1 0 (.q1 1 (.q1 2 (.q1 4 (.q1 5 (.q1 6 (.q0 3 [3] (.q0 7 [7] (.alt 8 (.q1 9 (.fin)) (.fin)))))))))),(9,[12],[0],.q1 0 (.q1 1 (.q1 2 (.q1 3 (.q1 5 (.q1 6 (.q1 7 (.q0 4 [4,9,10,11,12] (.q0 8 [8,9,10,11,12] (.alt 9 (.q1 10 (.q1 11 (.sw (.alt 12 (.fin) (.fin))))) (.fin)))))))))))]) (zf te_ok (l:=[(144,yj),(106,yg)]) (⟨qd,y7,trivial⟩) zd) Tryz.func238 rfl rfl rfl (by simp [zk]) (by simp [zk]) (rs:=[.tmp 4]) rfl 100000 ?_
 simp only [↓XC,XV,XT,Yg,seval,TES,ze,zz,XRP]
 have hs:spot s ((n:Int)+1)=n+1:=by unfold spot;omega
 rw [hs]
 have hm:mkA s (n+1)=0∨¬mkA s (n+1)=0:=Classical.em _
 refine ⟨fun hb=>⟨by decide +kernel,Chk.mk (by omega) fun _=>⟨by decide +kernel,qi rfl rfl,Chk.mk (by omega) fun _=>Chk.mk (by simp only [inR];omega) fun _=>⟨by decide +kernel,Chk.mk hp.1 fun _=>?_⟩⟩⟩,fun hb=>⟨by decide +kernel,qi rfl rfl,Chk.mk (by omega) fun _=>Chk.mk (by simp only [inR];omega) fun _=>⟨by decide +kernel,Chk.mk hp.1 fun _=>?_⟩⟩⟩
 ·obtain rfl:b=false:=by simpa using hb
  rcases hm with hm | hm
  ·simp only [hm,if_true,decide_true,Bool.not_true,Bool.false_eq_true,false_implies,true_and,true_implies,if_false,forall_const]
   exact ⟨by decide +kernel,Chk.mk hp.1 fun _=>⟨[0,3],by decide,by simp only [Yd];refine ⟨zb (by simp [Yf]), ?_⟩;exact ub (enc:=pcc) (z:=pcz) L (⟨cur.take k,false⟩:Pc) 2 (fun _=>rfl) (fun _ _=>rfl) rfl rfl,by simp only [↓XC,XV,XT,Yg,seval];try first | rfl | simp [Yf],by simp [ye,SO.ro],by simp⟩⟩
  ·simp only [hm,if_false,decide_false,Bool.not_false,true_implies,Bool.true_eq_false,false_implies,and_true,Bool.false_eq_true,forall_const]
   exact ⟨[0,3],by decide,by simp only [Yd];refine ⟨zb (by simp [Yf]), ?_⟩;exact ub (enc:=pcc) (z:=pcz) L (⟨cur.take k,false⟩:Pc) 2 (fun _=>rfl) (fun _ _=>rfl) rfl rfl,by simp only [↓XC,XV,XT,Yg,seval];try first | rfl | simp [Yf],by simp [ye,SO.ro],by simp⟩
 ·obtain rfl:b=true:=by simpa using hb
  rcases hm with hm | hm
  ·simp only [hm,if_true,decide_true,Bool.not_true,Bool.false_eq_true,false_implies,true_and,true_implies,forall_const]
   exact ⟨by decide +kernel,Chk.mk hp.1 fun _=>⟨[0,3],by decide,by simp only [Yd];refine ⟨zb (by simp [Yf]), ?_⟩;exact ub (enc:=pcc) (z:=pcz) L (⟨cur,true⟩:Pc) 2 (fun _=>rfl) (fun _ _=>rfl) rfl rfl,by simp only [↓XC,XV,XT,Yg,seval];try first | rfl | simp [Yf],by simp [ye,SO.ro],by simp⟩⟩
  ·simp only [hm,if_false,if_true,decide_false,Bool.not_false,true_implies,Bool.true_eq_false,false_implies,and_true,forall_const]
   exact ⟨[0,3],by decide,by simp only [Yd];refine ⟨zb (by simp [Yf]), ?_⟩;exact ub (enc:=pcc) (z:=pcz) L (⟨cur,true⟩:Pc) 2 (fun _=>rfl) (fun _ _=>rfl) rfl rfl,by simp only [↓XC,XV,XT,Yg,seval];try first | rfl | simp [Yf],by simp [ye,SO.ro],by simp⟩
theorem qdone (s:Bs) (n:Nat) (L:List Pc) (cur:Bs) (k:Nat) (hp:pcW L+cur.length≤16777214∧n≤16777216):FnK Tryz.prog 240 1 [.ptr 0 0 0] [some (.blk false [.s s,.i .i64 ((n:Int)),.slc 1 0 (L).length,.s (cur),.i .i64 ((k:Int))]),some (.row false 2 (L).length (zg pcc pcz (L)))] (fun z c=>z=.tup [.s (zex (L++[(⟨cur,false⟩:Pc)])),.i .i64 ((n:Int)+1),.i .i64 0]∧c=[some (.blk false [.s s,.i .i64 ((n:Int)),.slc 1 0 (L++[(⟨cur,false⟩:Pc)]).length,.s (cur),.i .i64 ((k:Int))]),some (.row false 2 (L++[(⟨cur,false⟩:Pc)]).length (zg pcc pcz (L++[(⟨cur,false⟩:Pc)])))]):=by
 refine FnK.ofE (cf:=zk Tryz.prog te [(104,kj)] 29 1 false (fun _=>false) (kp [(0,[0]),(1,[0]),(2,[2,3,4])]) [] [(1,[11,14],[0,1],.q1 0 (.q1 1 (.q1 2 (.q1 3 (.q1 5 (.q1 6 (.q1 7 (.q0 4 [4,11,12,13,14] (.q0 8 [8,9,10,11,12,13,14] (.q1 9 (.alt 10 (.sw (.alt 11 (.q1 12 (.q1 13 (.alt 14 (.fin) (.fin)))) (.fin))) (.fin)))))))))))),(2,[],[],.q1 0 (.q1 1 (.q1 2 (.q1 5 (.q1 6 (.q1 7 (.q0 3 [3] (.q0 8 [8] (.q1 9 (.alt 4 (.q1 10 (.q1 11 (.q1 12 (.fin)))) (.fin)))))))))))]) (zf te_ok (l:=[(104,kj)]) (⟨zah,trivial⟩) zd) Tryz.func240 rfl rfl rfl (by simp [zk]) (by simp [zk]) (rs:=[.tmp 2,.tmp 3,.tmp 4]) rfl 100000 ?_
 simp only [↓XC,XV,XT,Yg,seval,TES,wz,XRP]
 have hW:=zmn L
 refine ⟨by decide +kernel,qi rfl rfl,Chk.mk (by omega) fun _=>⟨by decide +kernel,Chk.mk (by simp only [inR];omega) fun _=>?_⟩⟩
 have e:jd (zey L.length (fun j=>[SV.s (L.getD j pcz).text,SV.b (L.getD j pcz).glue]) fun j=>qx [SV.s cur,SV.b false] 2 j) 0 (L.length+1)=(L++[(⟨cur,false⟩:Pc)]).map pcc:=zj2 pcz L ⟨cur,false⟩ 2 (fun _ _=>rfl) rfl rfl
 rw [e]
 simp only [↓XC,XV,XT,Yg,seval,TES,wz,XRP]
 refine Chk.mk ⟨⟨Nat.le_refl _,ztt (enc:=pcc) pcz L ⟨cur,false⟩ 2 (fun _=>rfl) (fun _ _=>rfl) rfl fun _=>rfl⟩,by rw [uj,zfv];show pcW L+(cur.length+1)≤16777216;omega⟩ fun _=>?_
 exact ⟨[0,3],by decide,by simp only [Yd];refine ⟨zb (by simp [Yf]), ?_⟩;exact ub (enc:=pcc) (z:=pcz) L (⟨cur,false⟩:Pc) 2 (fun _=>rfl) (fun _ _=>rfl) rfl rfl,by simp only [↓XC,XV,XT,Yg,seval];try first | rfl | simp [Yf],by simp [ye,SO.ro],by simp⟩
end Go.T
end
section
set_option linter.unusedVariables false
set_option linter.unusedSimpArgs false
set_option linter.unusedSectionVars false
set_option linter.unnecessarySimpa false
namespace Go.T
variable [Go.Vg.Glob] [Go.Vg.GlobTabs 0 1]
open Go.Proofs Go.Vg Go.RowKit Go.TT Go.Pl
set_option maxRecDepth 10000
set_option maxHeartbeats 4000000
theorem zty (s:Bs) (p:Int) (hp:s.length≤1048576):PF Tryz.prog 192 [.s s,.i .i64 p] (.tup [.s (sgA s (spot s p)).1,.i .i64 ((sgA s (spot s p)).2.1:Nat),.i .i64 (sgA s (spot s p)).2.2]):=by
 refine ⟨rfl,rfl,FnK.of (cf:=zk Tryz.prog te [(100,zr),(107,zl),(185,y4)] 79 0 false (fun _=>false) (kp [(0,[0,1]),(1,[0,1]),(2,[0,1,15]),(3,[4,5,6]),(4,[0,7]),(5,[0,7,28]),(6,[0,7,8]),(7,[0,7]),(8,[0,7,8,44]),(9,[0,7,49]),(10,[4,5,6]),(11,[0,7,8,54]),(12,[0,7]),(13,[0,7,8,69]),(14,[4,5,6]),(15,[4,5,6])]) [] [(10,[],[],.q1 0 (.q1 1 (.q1 2 (.q1 4 (.q0 3 [3] (.q1 5 (.q1 6 (.fin)))))))),(7,[],[],.q1 0 (.q1 1 (.q1 4 (.q1 5 (.alt 2 (.alt 3 (.seq [6,7,8]) (.alt 6 (.alt 3 (.seq [7,8]) (.alt 7 (.seq [3,8]) (.fin))) (.fin))) (.alt 6 (.alt 2 (.alt 3 (.seq [7,8]) (.alt 7 (.seq [3,8]) (.fin))) (.alt 7 (.seq [2,3,8]) (.fin))) (.fin)))))))]) (zf te_ok (l:=[(100,zr),(107,zl),(185,y4)]) (⟨yc,zu,q8,trivial⟩) zd) Tryz.func192 rfl rfl rfl (by simp [zk]) (by simp [zk]) (rs:=[.tmp 4,.tmp 5,.tmp 6]) rfl 100000 ?_⟩
 simp only [↓XC,XV,XT,Yg,seval,TES,yd,zc,zw,XRP,XR]
 have h0:=ql s p
 rw [zq s h0]
 refine Chk.mk hp fun _=>⟨fun h=>?_,fun h=>Chk.mk (by simp only [inR];omega) fun _=>?_⟩
 ·rw [show sgA s (spot s p)=([],spot s p,10) by unfold sgA;rw [if_neg (by simp only [Yi] at h;omega)]]
 have hb:byt s (spot s p)=39:=by simp only [Yi] at h;omega
 have hl0:spot s p<s.length:=by
  rcases Nat.lt_or_ge (spot s p) s.length with h3 | h3
  ·exact h3
  ·rw [k8 h3] at hb;omega
 refine yv.of (ι:={x:Nat×List Pc×Bs×Nat // x.1≤s.length∧x.2.2.1.length+pcW x.2.1≤1 * x.1∧x.2.2.2≤x.2.2.1.length∧sgl s x.1 x.2.1 x.2.2.1=sgA s (spot s p)∧x.2.2.2=0}) (fun x=>⟨[(0,.s s),(7,.ptr 0 0 0)],[some (.blk false [.s s,.i .i64 ((x.1.1:Nat)),.slc 1 0 (x.1.2.1).length,.s (x.1.2.2.1),.i .i64 (((zap x.1.2.2.2 x.1.2.2.1).length:Nat))]),some (.row false 2 (x.1.2.1).length (zg pcc pcz (x.1.2.1)))]⟩) (fun x=>s.length-x.1.1) ⟨(spot s p+1,[],[],0),by simp only;omega,by simp [pcW],Nat.zero_le _,by unfold sgA;rw [if_pos hb],rfl⟩ (Ent.nl (d:=[some (.blk false [.s s,.i .i64 ((spot s p:Nat)+1),.slc 1 0 0,.s [],.i .i64 0])]) [(2,zg pcc pcz [])] (by simp [nlE,nlV,Vg.look]) (by simp [nlC,nlO,nlL,nlV,zc9])) ?_
 rintro ⟨⟨i,L,cur,k⟩,h1,h2,h3,h4,h5⟩
 simp only [↓XC,XV,XT,Yg,seval,TES,zc,zw,XRP,XR]
 simp only at h1 h2 h3 h4 h5
 have hW:=zmn L
 have hcw:=zrx k cur
 refine ⟨fun hil=>Chk.mk (by omega) fun _=>?_,fun hil=>?_⟩
 ·have hi:i<s.length:=by omega
  have hbt:=kw hi
  rw [←hbt]
  have e1:byt s (spot s ((i:Int)+1))=byt s (i+1):=by rw [jx (by omega)];rfl
  rw [e1]
  refine ⟨fun h10=>?_,fun h10=>Chk.mk (fun _=>by simp only [inR];omega) fun _=>Chk.mk (fun h=>⟨⟨h,h⟩,hp⟩) fun _=>⟨fun hqq=>?_,fun hqq=>⟨fun hq=>?_,fun hq=>?_⟩⟩⟩
  ·refine yq.reb (qends s i L cur (zap k cur).length false ⟨hp,hi,hcw,by omega,by omega⟩) [0,1] (by simp [Yf]) (by simp only [Ye];exact ⟨by omega,zb (by simp [Yf]),by omega,za fun _=>rfl⟩) (by decide) (by simp [ye,SO.ro]) (by decide) (by simp [jn,zer,jw,zcw,noH,SO.ro,qx]) ?_
   simp only [↓XC,XV,XT,Yg,seval,TES,zc,zw,XRP,XR,XM]
   subst h5
   by_cases hm:mkA s (i+1)=0
   ·simp only [hm,decide_true,Bool.not_true,Bool.false_eq_true,false_implies,true_and,forall_const,if_true]
    have hcl:=znw 0 cur
    have hwl:=xo s (i+1) hi
    have hwg:=xa s (i+1)
    rw [hcl]
    exact ⟨⟨(wh s (i+1),L++[⟨zap 0 cur,false⟩],[],0),hwl,by simp only [uj,zfv,List.length_nil];omega,Nat.le_refl _,by simp only;rw [←sgl_nl hi h10 hm];exact h4,rfl⟩,by simp only;omega,(Ent.ren1 [0,1] (by decide) (by simp only [Yd];exact ⟨zb (by simp [Yf,zc9]),wx (by simp) fun j hj=>rfl⟩) (by simp [zj,Vg.look,SV.mapH,muL]))⟩
   ·simp only [hm,decide_false,Bool.not_false,Bool.true_eq_false,false_implies,and_true,forall_const,if_false]
    refine ⟨by decide +kernel, ?_⟩
    rw [←h4,sgl_mk hi h10 hm]
  ·refine yq.reb (qput s i L cur (zap k cur).length [39] 2 true ⟨by omega,by simp,by omega,by omega,by omega⟩) [0,1] (by simp [Yf]) (by simp only [Ye];exact ⟨by omega,zb (by simp [Yf]),by omega,za fun _=>rfl⟩) (by decide) (by simp [ye,SO.ro]) (by decide) (by simp [jn,zer,jw,zcw,noH,SO.ro,qx]) ?_
   simp only [↓XC,XV,XT,Yg,seval,TES,zc,zw,XRP,XR,XM]
   have h39:byt s i=39∧byt s (i+1)=39:=by simpa using hqq
   have hi1:i+1<s.length:=by
    rcases Nat.lt_or_ge (i+1) s.length with h6 | h6
    ·exact h6
    ·rw [k8 h6] at h39;omega
   have hc:zap k (cur++[39])=cur++[39]:=zk0 (by decide)
   exact ⟨⟨(i+2,L,cur++[39],k),by simp only;omega,by simp only [List.length_append,List.length_singleton];omega,by simp only [List.length_append,List.length_singleton];omega,by simp only;rw [←sgl_qq hi h39.1 h39.2];exact h4,h5⟩,by simp only;omega,(Ent.ren1 [0,1] (by decide) (by simp only [Yd];exact ⟨zb (by simp [Yf,hc]),wx (by simp) fun j hj=>rfl⟩) (by simp [zj,Vg.look,SV.mapH,muL]))⟩
  ·refine yq.reb (qdone s i L cur (zap k cur).length ⟨by omega,by omega⟩) [0,1] (by simp [Yf]) (by simp only [Ye];exact ⟨by omega,zb (by simp [Yf]),by omega,za fun _=>rfl⟩) (by decide) (by simp [ye,SO.ro]) (by decide) (by simp [jn,zer,jw,zcw,noH,SO.ro,qx]) ?_
   simp only [↓XC,XV,XT,Yg,seval,TES,zc,zw,XRP,XR,XM]
   have hn:¬byt s (i+1)=39:=by intro hx;simp [hq,hx] at hqq
   rw [←h4,sgl_q hi hq hn];rfl
  ·refine ⟨by decide +kernel,Chk.mk (by have:=za7 s i;simp only [inR];omega) fun _=>?_⟩
   have hks:zoc ((qx [SV.i .u8 (byt s i)] 1 0).getD 0 .u)=true:=by rfl
   have hU:∀ j,j<1→zoc ((qx [SV.i .u8 (byt s i)] 1 j).getD 0 .u)=true:=by
    intro j hj
    obtain rfl:j=0:=by omega
    exact hks
   simp only [u8_of]
   have hwk:(!(byt s i==32||byt s i==9))=false→(s.getD i 0=32∨s.getD i 0=9):=fun hw=>by
    have e1:=zar (c:=s.getD i 0) (n:=32) (by decide)
    have e2:=zar (c:=s.getD i 0) (n:=9) (by decide)
    simp only [Int.cast_ofNat_Int] at e1 e2
    rw [hbt] at hw
    simp only [Bool.not_eq_false',Bool.or_eq_true,beq_iff_eq,e1,e2] at hw
    exact hw
   have hwn:(!(byt s i==32||byt s i==9))=true→¬(s.getD i 0=32∨s.getD i 0=9):=fun hw=>by
    have e1:=zar (c:=s.getD i 0) (n:=32) (by decide)
    have e2:=zar (c:=s.getD i 0) (n:=9) (by decide)
    simp only [Int.cast_ofNat_Int] at e1 e2
    rw [hbt] at hw
    simp only [Bool.not_eq_true',Bool.or_eq_false_iff,beq_eq_false_iff_ne,ne_eq,e1,e2] at hw
    rintro (hx | hx)
    ·exact hw.1 hx
    ·exact hw.2 hx
   have hlen:((if (!(byt s i==32||byt s i==9))=true then cur.length+1 else (zap k cur).length:Nat):Int)=((zap k (cur++[s.getD i 0])).length:Nat):=by
    cases hw:(!(byt s i==32||byt s i==9))
    ·rw [zji h3 (hwk hw)];rfl
    ·rw [zk0 (hwn hw)];simp
   have hS:∀ {P:Program} {kk:Nat} {st:St} {K:Sl (SV×St)},True:=fun {_ _ _ _}=>trivial
   repeat' (with_reducible refine And.intro ?_ ?_)
   all_goals first
    | exact hU
    | (
      refine yq.reb (qput s i L cur (zap k cur).length [s.getD i 0] 1 (!(byt s i==32||byt s i==9)) ⟨by omega,by simp,by omega,by omega,by omega⟩) [0,1] (by simp [Yf]) (by simp only [Ye];exact ⟨by omega,zb (by simp [Yf]),by omega,za fun _=>rfl⟩) (by decide) (by simp [ye,SO.ro]) (by decide) (by simp [jn,zer,jw,zcw,noH,SO.ro,qx]) ?_
      simp only [↓XC,XV,XT,Yg,seval,TES,zc,zw,XRP,XR,XM]
      rw [hlen]
      exact ⟨⟨(i+1,L,cur++[s.getD i 0],k),by simp only;omega,by simp only [List.length_append,List.length_singleton];omega,by simp only [List.length_append,List.length_singleton];omega,by simp only;rw [←sgl_c hi h10 hq];exact h4,h5⟩,by simp only;omega,(Ent.ren1 [0,1] (by decide) (by simp only [Yd];exact ⟨zb (by simp [Yf]),wx (by simp) fun j hj=>rfl⟩) (by simp [zj,Vg.look,SV.mapH,muL]))⟩)
 ·rw [←h4,sgl_end (by omega)]
noncomputable def ki:PE:=peR (fun (x:Bs×Int)=>match x with | (s,p)=>[.s s,.i .i64 p]) (fun (x:Bs×Int)=>match x with | (s,p)=>s.length≤1048576) (fun (x:Bs×Int)=>match x with | (s,p)=>.tup [.s (sgA s (spot s p)).1,.i .i64 ((sgA s (spot s p)).2.1:Nat),.i .i64 (sgA s (spot s p)).2.2])
theorem zag {s:Bs} {p:Int}:ki [.s s,.i .i64 p]=some (s.length≤1048576,.tup [.s (sgA s (spot s p)).1,.i .i64 ((sgA s (spot s p)).2.1:Nat),.i .i64 (sgA s (spot s p)).2.2]):=z6 (by rintro ⟨a0,a1⟩ ⟨b0,b1⟩ h;simp_all []) (s,p)
theorem zaf:PE1 Tryz.prog 192 ki:=yb (by rintro ⟨s,p⟩ hp;exact zty s p hp)
theorem zt6 (s:Bs) (p:Int) (hp:s.length≤1048576):PF Tryz.prog 193 [.s s,.i .i64 p] (.tup [.s (dbA s (spot s p)).1,.i .i64 ((dbA s (spot s p)).2.1:Nat),.i .i64 (dbA s (spot s p)).2.2]):=by
 refine ⟨rfl,rfl,FnK.of (cf:=zk Tryz.prog te [(100,zr),(107,zl),(241,vq),(185,y4)] 118 0 false (fun _=>false) (kp [(0,[0,1]),(1,[0,1]),(2,[0,1,18]),(3,[4,5,6]),(4,[0,7]),(5,[0,7,31]),(6,[0,7,8]),(7,[0,7,8,9]),(8,[0,7]),(9,[0,7,8,9,59]),(10,[0,7,9,65]),(11,[0,7,9]),(12,[0,7,76]),(13,[4,5,6]),(14,[0,7,8,81]),(15,[0,7,10,11]),(16,[0,7,10,11,94]),(17,[4,5,6]),(18,[0,7]),(19,[0,7,8,108]),(20,[4,5,6]),(21,[4,5,6])]) [] [(13,[],[],.q1 0 (.q1 1 (.q1 2 (.q1 4 (.q0 3 [3] (.q1 5 (.q1 6 (.fin)))))))),(17,[],[],.q1 0 (.q1 1 (.q1 2 (.q1 4 (.q0 3 [3] (.q1 5 (.q1 6 (.fin)))))))),(8,[],[],.q1 0 (.q1 1 (.q1 4 (.q1 5 (.alt 2 (.alt 3 (.seq [6,7,8]) (.alt 6 (.alt 3 (.seq [7,8]) (.alt 7 (.seq [3,8]) (.fin))) (.fin))) (.alt 6 (.alt 2 (.alt 3 (.seq [7,8]) (.alt 7 (.seq [3,8]) (.fin))) (.alt 7 (.seq [2,3,8]) (.fin))) (.fin)))))))]) (zf te_ok (l:=[(100,zr),(107,zl),(241,vq),(185,y4)]) (⟨yc,zu,zev,q8,trivial⟩) zd) Tryz.func193 rfl rfl rfl (by simp [zk]) (by simp [zk]) (rs:=[.tmp 4,.tmp 5,.tmp 6]) rfl 100000 ?_⟩
 simp only [↓XC,XV,XT,Yg,seval,TES,yd,zc,zai,zw,XRP,XR]
 have h0:=ql s p
 rw [zq s h0]
 refine Chk.mk hp fun _=>⟨fun h=>?_,fun h=>Chk.mk (by simp only [inR];omega) fun _=>?_⟩
 ·rw [show dbA s (spot s p)=([],spot s p,10) by unfold dbA;rw [if_neg (by simp only [Yi] at h;omega)]]
 have hb:byt s (spot s p)=34:=by simp only [Yi] at h;omega
 have hl0:spot s p<s.length:=by
  rcases Nat.lt_or_ge (spot s p) s.length with h3 | h3
  ·exact h3
  ·rw [k8 h3] at hb;omega
 refine yv.of (ι:={x:Nat×List Pc×Bs×Nat // x.1≤s.length∧x.2.2.1.length+pcW x.2.1≤2 * x.1∧x.2.2.2≤x.2.2.1.length∧dbl s x.1 x.2.1 x.2.2.1 x.2.2.2=dbA s (spot s p)}) (fun x=>⟨[(0,.s s),(7,.ptr 0 0 0)],[some (.blk false [.s s,.i .i64 ((x.1.1:Nat)),.slc 1 0 (x.1.2.1).length,.s (x.1.2.2.1),.i .i64 (((zap x.1.2.2.2 x.1.2.2.1).length:Nat))]),some (.row false 2 (x.1.2.1).length (zg pcc pcz (x.1.2.1)))]⟩) (fun x=>s.length-x.1.1) ⟨(spot s p+1,[],[],0),by simp only;omega,by simp [pcW],Nat.zero_le _,by unfold dbA;rw [if_pos hb]⟩ (Ent.nl (d:=[some (.blk false [.s s,.i .i64 ((spot s p:Nat)+1),.slc 1 0 0,.s [],.i .i64 0])]) [(2,zg pcc pcz [])] (by simp [nlE,nlV,Vg.look]) (by simp [nlC,nlO,nlL,nlV,zc9])) ?_
 rintro ⟨⟨i,L,cur,k⟩,h1,h2,h3,h4⟩
 simp only [↓XC,XV,XT,Yg,seval,TES,zc,zw,zai,XRP,XR]
 simp only at h1 h2 h3 h4
 have hW:=zmn L
 have hcw:=zrx k cur
 refine ⟨fun hil=>Chk.mk (by omega) fun _=>?_,fun hil=>?_⟩
 ·have hi:i<s.length:=by omega
  have hbt:=kw hi
  rw [←hbt]
  have e1:byt s (spot s ((i:Int)+1))=byt s (i+1):=by rw [jx (by omega)];rfl
  rw [e1,zq s h1]
  refine Chk.mk (fun _=>by simp only [inR];omega) fun _=>Chk.mk (fun h=>⟨⟨h,h⟩,hp⟩) fun _=>⟨fun hA=>⟨fun hg=>Chk.mk (by simp only [inR];omega) fun _=>?_,fun hg=>?_⟩,fun hA=>⟨fun h92=>Chk.mk hp fun _=>⟨fun he=>?_,fun he=>Chk.mk (by have:=zxi s i;simp only [inR];omega) fun _=>?_⟩,fun h92=>⟨fun hq=>?_,fun hq=>?_⟩⟩⟩
  ·rw [hg]
   have hgl:byt s i=92∧byt s (i+1)=10:=by simpa using hg
   have hi1:i+1<s.length:=by
    rcases Nat.lt_or_ge (i+1) s.length with h6 | h6
    ·exact h6
    ·rw [k8 h6] at hgl;omega
   refine yq.reb (qends s (i+1) L cur (zap k cur).length true ⟨hp,hi1,hcw,by omega,by omega⟩) [0,1] (by simp [Yf]) (by simp only [Ye];exact ⟨by omega,zb (by simp [Yf]),by omega,za fun _=>rfl⟩) (by decide) (by simp [ye,SO.ro]) (by decide) (by simp [jn,zer,jw,zcw,noH,SO.ro,qx]) ?_
   simp only [↓XC,XV,XT,Yg,seval,TES,zc,zw,XRP,XR,XM]
   by_cases hm:mkA s (i+1+1)=0
   ·simp only [hm,decide_true,Bool.not_true,Bool.false_eq_true,false_implies,true_and,forall_const,if_true]
    have hwl:=xo s (i+1+1) hi1
    have hwg:=xa s (i+1+1)
    exact ⟨⟨(wh s (i+1+1),L++[⟨cur,true⟩],[],0),hwl,by simp only [uj,zfv,List.length_nil];omega,Nat.le_refl _,by simp only;rw [←dbl_gl hi hgl.1 hgl.2 hm];exact h4⟩,by simp only;omega,(Ent.ren1 [0,1] (by decide) (by simp only [Yd];exact ⟨zb (by simp [Yf,zc9]),wx (by simp) fun j hj=>rfl⟩) (by simp [zj,Vg.look,SV.mapH,muL]))⟩
   ·simp only [hm,decide_false,Bool.not_false,Bool.true_eq_false,false_implies,and_true,forall_const,if_false]
    refine ⟨by decide +kernel, ?_⟩
    rw [←h4,dbl_gm hi hgl.1 hgl.2 hm]
  ·rw [hg]
   have h10:byt s i=10:=by rw [hg] at hA;simpa using hA
   refine yq.reb (qends s i L cur (zap k cur).length false ⟨hp,hi,hcw,by omega,by omega⟩) [0,1] (by simp [Yf]) (by simp only [Ye];exact ⟨by omega,zb (by simp [Yf]),by omega,za fun _=>rfl⟩) (by decide) (by simp [ye,SO.ro]) (by decide) (by simp [jn,zer,jw,zcw,noH,SO.ro,qx]) ?_
   simp only [↓XC,XV,XT,Yg,seval,TES,zc,zw,XRP,XR,XM]
   by_cases hm:mkA s (i+1)=0
   ·simp only [hm,decide_true,Bool.not_true,Bool.false_eq_true,false_implies,true_and,forall_const,if_true,if_false]
    have hcl:=znw k cur
    have hwl:=xo s (i+1) hi
    have hwg:=xa s (i+1)
    rw [hcl]
    exact ⟨⟨(wh s (i+1),L++[⟨zap k cur,false⟩],[],0),hwl,by simp only [uj,zfv,List.length_nil];omega,Nat.le_refl _,by simp only;rw [←dbl_nl hi h10 hm];exact h4⟩,by simp only;omega,(Ent.ren1 [0,1] (by decide) (by simp only [Yd];exact ⟨zb (by simp [Yf,zc9]),wx (by simp) fun j hj=>rfl⟩) (by simp [zj,Vg.look,SV.mapH,muL]))⟩
   ·simp only [hm,decide_false,Bool.not_false,Bool.true_eq_false,false_implies,and_true,forall_const,if_false]
    refine ⟨by decide +kernel, ?_⟩
    rw [←h4,dbl_mk hi h10 hm]
  ·have hn:¬byt s (i+1)=10:=by intro hx;simp [h92,hx] at hA
   refine ⟨by decide +kernel, ?_⟩
   rw [←h4,dbl_eb hi h92 hn (by omega)]
  ·have hn:¬byt s (i+1)=10:=by intro hx;simp [h92,hx] at hA
   have hel:=esA_len s i
   have hegt:=esA_gt s i
   have hele:=zxi s i
   have h44:=dbl_es (L:=L) (cur:=cur) (k:=k) hi h92 hn (by omega)
   rw [h4] at h44
   generalize esA s i=t at *
   refine yq.reb (qput s i L cur (zap k cur).length t.1 ((t.2:Int)-i) true ⟨by omega,by omega,by omega,by omega,by omega⟩) [0,1] (by simp [Yf]) (by simp only [Ye];exact ⟨by omega,zb (by simp [Yf]),by omega,za fun _=>rfl⟩) (by decide) (by simp [ye,SO.ro]) (by decide) (by simp [jn,zer,jw,zcw,noH,SO.ro,qx]) ?_
   simp only [↓XC,XV,XT,Yg,seval,TES,zc,zw,XRP,XR,XM]
   have hc:zap (cur.length+t.1.length) (cur++t.1)=cur++t.1:=by rw [←List.length_append];exact cutW_all _
   rw [show (i:Int)+((t.2:Int)-i)=(t.2:Int) by omega]
   exact ⟨⟨(t.2,L,cur++t.1,(cur++t.1).length),by simp only;omega,by simp only [List.length_append];omega,Nat.le_refl _,h44.symm⟩,by simp only;omega,(Ent.ren1 [0,1] (by decide) (by simp only [Yd];exact ⟨zb (by simp [Yf,hc]),wx (by simp) fun j hj=>rfl⟩) (by simp [zj,Vg.look,SV.mapH,muL]))⟩
  ·refine yq.reb (qdone s i L cur (zap k cur).length ⟨by omega,by omega⟩) [0,1] (by simp [Yf]) (by simp only [Ye];exact ⟨by omega,zb (by simp [Yf]),by omega,za fun _=>rfl⟩) (by decide) (by simp [ye,SO.ro]) (by decide) (by simp [jn,zer,jw,zcw,noH,SO.ro,qx]) ?_
   simp only [↓XC,XV,XT,Yg,seval,TES,zc,zw,XRP,XR,XM]
   rw [←h4,dbl_q hi hq];rfl
  ·have hq10:¬byt s i=10:=by intro hx;simp [hx] at hA
   refine ⟨by decide +kernel,Chk.mk (by have:=za7 s i;simp only [inR];omega) fun _=>?_⟩
   have hks:zoc ((qx [SV.i .u8 (byt s i)] 1 0).getD 0 .u)=true:=by rfl
   have hU:∀ j,j<1→zoc ((qx [SV.i .u8 (byt s i)] 1 j).getD 0 .u)=true:=by
    intro j hj
    obtain rfl:j=0:=by omega
    exact hks
   simp only [u8_of]
   have hwk:(!(byt s i==32||byt s i==9))=false→(s.getD i 0=32∨s.getD i 0=9):=fun hw=>by
    have e1:=zar (c:=s.getD i 0) (n:=32) (by decide)
    have e2:=zar (c:=s.getD i 0) (n:=9) (by decide)
    simp only [Int.cast_ofNat_Int] at e1 e2
    rw [hbt] at hw
    simp only [Bool.not_eq_false',Bool.or_eq_true,beq_iff_eq,e1,e2] at hw
    exact hw
   have hwn:(!(byt s i==32||byt s i==9))=true→¬(s.getD i 0=32∨s.getD i 0=9):=fun hw=>by
    have e1:=zar (c:=s.getD i 0) (n:=32) (by decide)
    have e2:=zar (c:=s.getD i 0) (n:=9) (by decide)
    simp only [Int.cast_ofNat_Int] at e1 e2
    rw [hbt] at hw
    simp only [Bool.not_eq_true',Bool.or_eq_false_iff,beq_eq_false_iff_ne,ne_eq,e1,e2] at hw
    rintro (hx | hx)
    ·exact hw.1 hx
    ·exact hw.2 hx
   have hlen:((if (!(byt s i==32||byt s i==9))=true then cur.length+1 else (zap k cur).length:Nat):Int)=((zap k (cur++[s.getD i 0])).length:Nat):=by
    cases hw:(!(byt s i==32||byt s i==9))
    ·rw [zji h3 (hwk hw)];rfl
    ·rw [zk0 (hwn hw)];simp
   repeat' (with_reducible refine And.intro ?_ ?_)
   all_goals first
    | exact hU
    | (
      refine yq.reb (qput s i L cur (zap k cur).length [s.getD i 0] 1 (!(byt s i==32||byt s i==9)) ⟨by omega,by simp,by omega,by omega,by omega⟩) [0,1] (by simp [Yf]) (by simp only [Ye];exact ⟨by omega,zb (by simp [Yf]),by omega,za fun _=>rfl⟩) (by decide) (by simp [ye,SO.ro]) (by decide) (by simp [jn,zer,jw,zcw,noH,SO.ro,qx]) ?_
      simp only [↓XC,XV,XT,Yg,seval,TES,zc,zw,XRP,XR,XM]
      rw [hlen]
      exact ⟨⟨(i+1,L,cur++[s.getD i 0],k),by simp only;omega,by simp only [List.length_append,List.length_singleton];omega,by simp only [List.length_append,List.length_singleton];omega,by simp only;rw [←dbl_c hi hq10 h92 hq];exact h4⟩,by simp only;omega,(Ent.ren1 [0,1] (by decide) (by simp only [Yd];exact ⟨zb (by simp [Yf]),wx (by simp) fun j hj=>rfl⟩) (by simp [zj,Vg.look,SV.mapH,muL]))⟩)
 ·rw [←h4,dbl_end (by omega)]
noncomputable def kn:PE:=peR (fun (x:Bs×Int)=>match x with | (s,p)=>[.s s,.i .i64 p]) (fun (x:Bs×Int)=>match x with | (s,p)=>s.length≤1048576) (fun (x:Bs×Int)=>match x with | (s,p)=>.tup [.s (dbA s (spot s p)).1,.i .i64 ((dbA s (spot s p)).2.1:Nat),.i .i64 (dbA s (spot s p)).2.2])
theorem zak {s:Bs} {p:Int}:kn [.s s,.i .i64 p]=some (s.length≤1048576,.tup [.s (dbA s (spot s p)).1,.i .i64 ((dbA s (spot s p)).2.1:Nat),.i .i64 (dbA s (spot s p)).2.2]):=z6 (by rintro ⟨a0,a1⟩ ⟨b0,b1⟩ h;simp_all []) (s,p)
theorem zaj:PE1 Tryz.prog 193 kn:=yb (by rintro ⟨s,p⟩ hp;exact zt6 s p hp)
end Go.T
end
section
set_option linter.unusedVariables false
set_option linter.unusedSimpArgs false
set_option linter.unusedSectionVars false
set_option linter.unnecessarySimpa false
namespace Go.T
variable [Go.Vg.Glob] [Go.Vg.GlobTabs 0 1]
open Go.Proofs Go.Vg Go.RowKit Go.TT Go.Pl
set_option maxRecDepth 10000
set_option maxHeartbeats 4000000
theorem zt2 (s:Bs) (p:Int) (hp:s.length≤1048576):PF Tryz.prog 188 [.s s,.i .i64 p] (.i .i64 (inA s (spot s p):Nat)):=by
 refine ⟨rfl,rfl,FnK.of (cf:=zk Tryz.prog te [(209,y3),(107,zl)] 20 0 false (fun _=>false) (kp [(0,[0,1]),(1,[0,5]),(2,[0,5,6]),(3,[0,5,6,14]),(4,[0,5,6]),(5,[4])]) [] []) (zf te_ok (l:=[(209,y3),(107,zl)]) (⟨wk,zu,trivial⟩) zd) Tryz.func188 rfl rfl rfl (by simp [zk]) (by simp [zk]) (rs:=[.tmp 4]) rfl 100000 ?_⟩
 simp only [↓XC,XV,XT,Yg,seval,TES,qm,zc]
 have h0:=ql s p
 have hl:=zo4 s (spot s p)
 refine Chk.mk hp fun _=>?_
 refine yv.of (ι:={q:Nat // la s (spot s p)≤q∧q≤s.length∧bl s q=bl s (la s (spot s p))}) (fun x=>⟨[(0,.s s),(5,.i .i64 (la s (spot s p):Nat)),(6,.i .i64 (x.1:Nat))],[]⟩) (fun x=>s.length-x.1) ⟨la s (spot s p),Nat.le_refl _,by omega,rfl⟩ (Ent.refl _ _) ?_
 rintro ⟨q,hq1,hq2,hw⟩
 simp only [↓XC,XV,XT,Yg,seval,TES,zc]
 rw [zq s hq2]
 refine Chk.mk hp fun _=>⟨fun h=>Chk.mk (by simp only [inR];omega) fun _=>?_,fun h=>Chk.mk (by simp only [inR];omega) fun _=>?_⟩
 ·have hl2:=z2 h (by decide)
  exact ⟨⟨q+1,by omega,by omega,by rw [←bl_t h];exact hw⟩,by simp only;omega,(by first | exact Ent.refl _ _ | (simp only [Int.natCast_add,Int.natCast_one];exact Ent.refl _ _))⟩
 ·rw [show inA s (spot s p)=q-la s (spot s p) by unfold inA;rw [←hw,bl_f h],Int.ofNat_sub hq1]
noncomputable def we:PE:=peR (fun (x:Bs×Int)=>match x with | (s,p)=>[.s s,.i .i64 p]) (fun (x:Bs×Int)=>match x with | (s,p)=>s.length≤1048576) (fun (x:Bs×Int)=>match x with | (s,p)=>.i .i64 (inA s (spot s p):Nat))
theorem y8 {s:Bs} {p:Int}:we [.s s,.i .i64 p]=some (s.length≤1048576,.i .i64 (inA s (spot s p):Nat)):=z6 (by rintro ⟨a0,a1⟩ ⟨b0,b1⟩ h;simp_all []) (s,p)
theorem vh:PE1 Tryz.prog 188 we:=yb (by rintro ⟨s,p⟩ hp;exact zt2 s p hp)
theorem Gap_i (s:Bs) (p:Int) (hp:s.length≤1048576):PF Tryz.prog 143 [.s s,.i .i64 p] (.i .i64 (gpE s (spot s p):Nat)):=by
 refine ⟨rfl,rfl,FnK.of (cf:=zk Tryz.prog te [(100,zr),(107,zl),(185,y4),(209,y3),(187,qg)] 47 0 false (fun _=>false) (kp [(0,[0,1]),(1,[0,1]),(2,[0,1,12]),(3,[0,1,5]),(4,[4]),(5,[0,1,5,17]),(6,[0,1]),(7,[0,1,26]),(8,[0,1]),(9,[4])]) [] []) (zf te_ok (l:=[(100,zr),(107,zl),(185,y4),(209,y3),(187,qg)]) (⟨yc,zu,q8,wk,km,trivial⟩) zd) Tryz.func143 rfl rfl rfl (by simp [zk]) (by simp [zk]) (rs:=[.tmp 4]) rfl 100000 ?_⟩
 simp only [↓XC,XV,XT,Yg,seval,TES,yd,zc,zw,qm,y6]
 refine yv.of (ι:={q:Nat // q≤s.length∧gpE s q=gpE s (spot s p)}) (fun x=>⟨[(0,.s s),(1,.i .i64 (x.1:Nat))],[]⟩) (fun x=>s.length-x.1) ⟨spot s p,ql s p,rfl⟩ (Ent.refl _ _) ?_
 rintro ⟨q,hq,hw⟩
 simp only [↓XC,XV,XT,Yg,seval,TES,zc,zw,qm,y6]
 have e2:spot s ((q:Int)-1)=q-1:=by unfold spot;omega
 rw [zq s hq,e2]
 have hA:(byt s q==32||byt s q==9||decide (byt s q=10))=decide (isW s q=true∨byt s q=10):=by
  rw [Bool.decide_or,show (byt s q==32||byt s q==9)=isW s q from rfl,Bool.decide_eq_true]
 have hC:(decide (byt s q=35)&&(decide ((la s q:Int)=(q:Int))||(byt s (q-1)==32||byt s (q-1)==9)))=gpC s q:=by
  unfold gpC isW
  rw [show decide ((la s q:Int)=(q:Int))=decide (la s q=q) from by rw [decide_eq_decide];omega]
 rw [hA,hC]
 refine ⟨fun hl=>Chk.mk hp fun _=>⟨fun h=>Chk.mk (by simp only [inR];omega) fun _=>?_,fun h=>Chk.mk (fun h=>⟨⟨h,h⟩,hp⟩) fun _=>Chk.mk (fun _=>by simp only [inR];omega) fun _=>Chk.mk (fun h=>⟨⟨h,h⟩,hp⟩) fun _=>⟨fun hc=>Chk.mk hp fun _=>?_,fun hc=>?_⟩⟩,fun hl=>?_⟩
 ·exact ⟨⟨q+1,by omega,by rw [←gpE_w (of_decide_eq_true h)];exact hw⟩,by simp only;omega,(by first | exact Ent.refl _ _ | (simp only [Int.natCast_add,Int.natCast_one];exact Ent.refl _ _))⟩
 ·have hg:=en_gt (isB_35 (by simp [gpC] at hc;exact hc.1))
  exact ⟨⟨en s q,zd3 s q hq,by rw [←gpE_c hc];exact hw⟩,by simp only;omega,Ent.refl _ _⟩
 ·rw [←hw,gpE_f (of_decide_eq_false h) hc]
 ·rw [←hw,gpE_end (by omega)]
noncomputable def ja:PE:=peR (fun (x:Bs×Int)=>match x with | (s,p)=>[.s s,.i .i64 p]) (fun (x:Bs×Int)=>match x with | (s,p)=>s.length≤1048576) (fun (x:Bs×Int)=>match x with | (s,p)=>.i .i64 (gpE s (spot s p):Nat))
theorem z1 {s:Bs} {p:Int}:ja [.s s,.i .i64 p]=some (s.length≤1048576,.i .i64 (gpE s (spot s p):Nat)):=z6 (by rintro ⟨a0,a1⟩ ⟨b0,b1⟩ h;simp_all []) (s,p)
theorem xh:PE1 Tryz.prog 143 ja:=yb (by rintro ⟨s,p⟩ hp;exact Gap_i s p hp)
theorem Lone_i (s:Bs) (p:Int) (hp:s.length≤1048576):PF Tryz.prog 186 [.s s,.i .i64 p] (.b (lnA s (spot s p))):=by
 refine ⟨rfl,rfl,FnK.of (cf:=zk Tryz.prog te [(209,y3),(106,yg),(107,zl),(184,qz)] 13 0 false (fun _=>false) (kp [(0,[0,1]),(1,[4])]) [] []) (zf te_ok (l:=[(209,y3),(106,yg),(107,zl),(184,qz)]) (⟨wk,y7,zu,jt,trivial⟩) zd) Tryz.func186 rfl rfl rfl (by simp [zk]) (by simp [zk]) (rs:=[.tmp 4]) rfl 100000 ?_⟩
 simp only [↓XC,XV,XT,Yg,seval,TES,qm,zz,zc,wv]
 have h0:=ql s p
 have hl:=zo4 s (spot s p)
 have hw:=xo s (la s (spot s p)) (by omega)
 rw [zq s (show la s (spot s p)≤s.length by omega),zq s hw]
 exact Chk.mk hp fun _=>Chk.mk hp fun _=>Chk.mk hp fun _=>rfl
noncomputable def ve:PE:=peR (fun (x:Bs×Int)=>match x with | (s,p)=>[.s s,.i .i64 p]) (fun (x:Bs×Int)=>match x with | (s,p)=>s.length≤1048576) (fun (x:Bs×Int)=>match x with | (s,p)=>.b (lnA s (spot s p)))
theorem wm {s:Bs} {p:Int}:ve [.s s,.i .i64 p]=some (s.length≤1048576,.b (lnA s (spot s p))):=z6 (by rintro ⟨a0,a1⟩ ⟨b0,b1⟩ h;simp_all []) (s,p)
theorem za0:PE1 Tryz.prog 186 ve:=yb (by rintro ⟨s,p⟩ hp;exact Lone_i s p hp)
theorem TagAt_i (s:Bs) (p:Int) (hp:s.length≤1048576):PF Tryz.prog 341 [.s s,.i .i64 p] (.tup [.s (tgA s (spot s p)).1,.i .i64 (tgA s (spot s p)).2.1,.b (tgA s (spot s p)).2.2]):=by
 refine ⟨rfl,rfl,FnK.of (cf:=zk Tryz.prog te [(100,zr),(107,zl),(237,jh),(108,qa)] 59 0 false (fun _=>false) (kp [(0,[0,1]),(1,[0,1]),(2,[0,1,15]),(3,[4,5,6]),(4,[0,1,7]),(5,[0,1,7,23]),(6,[0,1,7,8]),(7,[0,1,7,8,35]),(8,[0,1,7,8]),(9,[0,1,7,8,47]),(10,[0,1,7]),(11,[0,1,7,53]),(12,[4,5,6]),(13,[4,5,6])]) [] []) (zf te_ok (l:=[(100,zr),(107,zl),(237,jh),(108,qa)]) (⟨yc,zu,zau,wj,trivial⟩) zd) Tryz.func341 rfl rfl rfl (by simp [zk]) (by simp [zk]) (rs:=[.tmp 4,.tmp 5,.tmp 6]) rfl 100000 ?_⟩
 simp only [↓XC,XV,XT,Yg,seval,TES,yd,zc,zav,zt]
 have h0:=ql s p
 have hsp:=zq s h0
 generalize spot s p=a at *
 rw [hsp]
 refine Chk.mk hp fun _=>⟨fun h=>?_,fun h=>?_⟩
 ·rw [zuq (by rintro ⟨h2,_⟩;simp [h2] at h)]
 have h33:byt s a=33:=by simpa using h
 have hpl:=zlq h33
 have hlt:=z2 h33 (by decide)
 have hst:=stc_33 h33
 have hstl:=zlr s a h0
 rw [show byt s (spot s ((a:Int)+1))=byt s (a+1) by rw [jx (by omega)];rfl]
 refine Chk.mk ⟨hp,by omega,by omega⟩ fun _=>Chk.mk (by simp only [inR];omega) fun _=>Chk.mk hp fun _=>⟨fun h60=>Chk.mk (by simp only [inR];omega) fun _=>?_,fun h60=>?_⟩
 ·refine yv.of (ι:={q:Nat // a+2≤q∧q≤s.length+1∧cl s q=cl s (a+2)}) (fun x=>⟨[(0,.s s),(1,.i .i64 (a:Nat)),(7,.i .i64 (stc s a:Nat)),(8,.i .i64 (x.1:Nat))],[]⟩) (fun x=>s.length+1-x.1) ⟨a+2,Nat.le_refl _,by omega,rfl⟩ (by simp only [Int.natCast_add];exact Ent.refl _ _) ?_
  rintro ⟨q,hq1,hq2,hw⟩
  simp only [↓XC,XV,XT,Yg,seval,TES,zc,zt]
  rw [show byt s (spot s (q:Int))=byt s q by rw [jx (by omega)];rfl]
  have hd:(!decide (byt s q=62)&&!gap s q)=decide (gap s q=false∧¬byt s q=62):=by cases hg:gap s q<;>by_cases hb:byt s q=62<;>simp [hb]
  rw [hd]
  refine Chk.mk hp fun _=>Chk.mk (fun h=>⟨⟨h,h⟩,hp,by omega⟩) fun _=>⟨fun h=>Chk.mk (by simp only [inR];omega) fun _=>?_,fun h=>Chk.mk hp fun _=>Chk.mk (fun _=>by simp only [inR];omega) fun _=>⟨fun hx=>Chk.mk (by simp only [inR];omega) fun _=>?_,fun hx=>?_⟩⟩
  ·have h':=of_decide_eq_true h
   have:=x8 h'.1
   exact ⟨⟨q+1,by omega,by omega,by rw [←cl_t h'];exact hw⟩,by simp only;omega,(by first | exact Ent.refl _ _ | (simp only [Int.natCast_add,Int.natCast_one];exact Ent.refl _ _))⟩
  ·have hc:=cl_f (of_decide_eq_false h)
   simp only [Yi] at hx
   have hql:=z2 hx.1 (by decide)
   have hE:tgE s a=q+1:=by unfold tgE;rw [if_pos ⟨h60,by rw [←hw,hc];exact hx.1,by rw [←hw,hc];omega⟩,←hw,hc]
   have e4:((q:Int)+1).toNat=q+1:=by omega
   rw [e4]
   refine Chk.mk (by simp only [inR];omega) fun _=>⟨fun h=>?_,fun h=>Chk.mk (by omega) fun _=>?_⟩
   ·rw [zuq (by rintro ⟨_,h2⟩;rw [hE] at h2;omega)]
   ·rw [tgA_t ⟨h33,by rw [hE];omega⟩,hE];rfl
  ·have hc:=cl_f (of_decide_eq_false h)
   simp only [Yi] at hx
   have hE:tgE s a=stc s a:=by unfold tgE;rw [if_neg (by rintro ⟨_,h2,h3⟩;rw [←hw,hc] at h2 h3;omega)]
   refine Chk.mk (by simp only [inR];omega) fun _=>⟨fun h=>?_,fun h=>Chk.mk (by omega) fun _=>?_⟩
   ·rw [zuq (by rintro ⟨_,h2⟩;rw [hE] at h2;omega)]
   ·rw [tgA_t ⟨h33,by rw [hE];omega⟩,hE];rfl
 ·have hE:tgE s a=stc s a:=by unfold tgE;rw [if_neg (fun h=>h60 h.1)]
  refine Chk.mk (by simp only [inR];omega) fun _=>⟨fun h=>?_,fun h=>Chk.mk (by omega) fun _=>?_⟩
  ·rw [zuq (by rintro ⟨_,h2⟩;rw [hE] at h2;omega)]
  ·rw [tgA_t ⟨h33,by rw [hE];omega⟩,hE];rfl
noncomputable def zbf:PE:=peR (fun (x:Bs×Int)=>match x with | (s,p)=>[.s s,.i .i64 p]) (fun (x:Bs×Int)=>match x with | (s,p)=>s.length≤1048576) (fun (x:Bs×Int)=>match x with | (s,p)=>.tup [.s (tgA s (spot s p)).1,.i .i64 (tgA s (spot s p)).2.1,.b (tgA s (spot s p)).2.2])
theorem zkj {s:Bs} {p:Int}:zbf [.s s,.i .i64 p]=some (s.length≤1048576,.tup [.s (tgA s (spot s p)).1,.i .i64 (tgA s (spot s p)).2.1,.b (tgA s (spot s p)).2.2]):=z6 (by rintro ⟨a0,a1⟩ ⟨b0,b1⟩ h;simp_all []) (s,p)
theorem zki:PE1 Tryz.prog 341 zbf:=yb (by rintro ⟨s,p⟩ hp;exact TagAt_i s p hp)
end Go.T
end
