/- Own text: part UAX. -/
import Derived.Test.YtgippllfnmdnpaaGreatDoorUAV
import Derived.Test.YtgippllfnmdnpaaGreatDoorUAW
set_option linter.all false
section
namespace Go.T
variable [Go.Vg.Glob] [Go.Vg.GlobTabs 0 1]
open Go.Proofs Go.Vg Go.RowKit Go.TT Go.Pl Go.TSh
set_option maxRecDepth 10000
set_option maxHeartbeats 4000000
theorem zyf (l:List Pc) (hp:pcW l≤16777216):PF Tryz.prog 104 [.fs 2 (l.map pcc)] (.s (zb1 l)):=by
 refine HP zfc.d 65 [[0],[0,10],[2],[0,3],[0,3,4],[0,3,4,5],[0,3,4,5,6],[0,3,4,5,6,22],[0,3,4,5,6],[0,3,4,5,6,7],[0,3,4,5,6,7,43],[0,3,4,5,6],[0,3,4,5,6,7,46],[0,3,6,7],[0,3,6,7,53],[0,3,6,7],[0,3,6,7],[0,3,4,6],[0,3,4,5,6],[2]] Tryz.func104 [.tmp 2] ?_;simp only [↓XC,X1,seval,TES,vb,XRP];have hW:=zej l;refine ⟨fun h=>?_,fun h=>CO fun _=>CO fun _=>?_⟩
 ·obtain rfl:l=[]:=List.length_eq_zero_iff.1 (by omega);rfl
 refine zl.of (ι:={x:Nat×Bs×Bool×Nat // 1≤x.1∧x.1≤l.length∧x.2.1.length+x.2.2.2+pcW (l.drop x.1)≤pcW l∧x.2.1++zb2 x.2.2.1 x.2.2.2 (l.drop x.1)=zb1 l}) (fun x=>⟨[(0,.fs 2 (l.map pcc)),(3,.s x.1.2.1),(4,.b x.1.2.2.1),(5,.i .i64 (x.1.2.2.2:Nat)),(6,.i .i64 (x.1.1:Nat))],[]⟩) (fun x=>l.length-x.1.1) ⟨(1,(l.getD 0 pcz).text,(l.getD 0 pcz).glue,0),by simp only;omega,by simp only;omega,by have:=zn1 (l:=l) (i:=0) (by omega);simp only [List.drop_zero,Nat.zero_add] at this;simp only;omega,(zmn (by omega)).symm⟩ (Ent.refl _ _) ?_;rintro ⟨⟨i,out,glue,many⟩,h1,h2,h3,h4⟩;simp only [↓XC,X1,seval,TES,vb,XRP];simp only at h1 h2 h3 h4;refine ⟨fun hl=>CO fun _=>Chk.mk (fun _=>by simp only [inR];omega) fun _=>?_,fun hl=>?_⟩
 ·have hi:i<l.length:=by omega
  have hw:=zn1 (l:=l) hi;have hrl:Lib.repeatL [10] many=List.replicate many 10:=by have:=Lib.repeatL_replicate 10 1 many;simpa using this
  have hX:(decide ((l.getD i pcz).text=[])&&!(l.getD i pcz).glue&&decide ((i:Int)<(l.length:Int)-1))=decide ((l.getD i pcz).text=[]∧(l.getD i pcz).glue=false∧i+1<l.length):=by
   rw [Bool.eq_iff_iff];simp only [Bool.and_eq_true,decide_eq_true_eq,Bool.not_eq_true'];constructor
   ·rintro ⟨⟨a,b⟩,c⟩;exact ⟨a,b,by omega⟩
   ·rintro ⟨a,b,c⟩;exact ⟨⟨a,b⟩,by omega⟩
  rw [hX,hrl];refine ⟨fun hx=>?_,fun hx=>?_⟩
  ·have hx:=of_decide_eq_true hx;rw [hx.1] at hw;simp only [List.length_nil] at hw;exact CR fun _=>CR fun _=>⟨⟨(i+1,out,glue,many+1),by simp only;omega,by simp only;omega,by simp only;omega,by simp only;rw [←zmo hx.2.2 hx.1 hx.2.1];exact h4⟩,by simp only;omega,(by (try simp only [Int.natCast_add,Int.natCast_one]);exact Ent.nil (by simp [ze,Vg.look,SV.mapH]))⟩
  ·have hx:=of_decide_eq_false hx;rw [zre hi hx] at h4;refine ⟨fun hm=>?_,fun hm=>⟨fun hg=>?_,fun hg=>?_⟩⟩
   ·rw [if_pos (by omega)] at h4;refine CO fun _=>Chk.mk (by simp only [List.length_replicate];omega) fun _=>Chk.mk (by simp only [List.length_replicate];omega) fun _=>CR fun _=>⟨⟨(i+1,out++List.replicate many 10++(l.getD i pcz).text,(l.getD i pcz).glue,0),by simp only;omega,by simp only;omega,by simp only [List.length_append,List.length_replicate];omega,by simp only;rw [←h4];simp only [List.append_assoc]⟩,by simp only;omega,(by (try simp only [Int.natCast_add,Int.natCast_one]);exact Ent.nil (by simp [ze,Vg.look,SV.mapH]))⟩
   ·obtain rfl:many=0:=by omega
    have hg:glue=false:=by simpa using hg
    rw [hg] at h4;simp only [Nat.lt_irrefl,if_false,Bool.false_eq_true] at h4;refine CO fun _=>CO fun _=>CR fun _=>⟨⟨(i+1,out++[32]++(l.getD i pcz).text,(l.getD i pcz).glue,0),by simp only;omega,by simp only;omega,by simp only [List.length_append,List.length_singleton];omega,by simp only;rw [←h4];simp only [List.append_assoc]⟩,by simp only;omega,(by (try simp only [Int.natCast_add,Int.natCast_one]);exact Ent.nil (by simp [ze,Vg.look,SV.mapH]))⟩
   ·obtain rfl:many=0:=by omega
    have hg:glue=true:=by simpa using hg
    rw [hg] at h4;simp only [Nat.lt_irrefl,if_false,if_true,List.nil_append] at h4;refine CO fun _=>CR fun _=>⟨⟨(i+1,out++(l.getD i pcz).text,(l.getD i pcz).glue,0),by simp only;omega,by simp only;omega,by simp only [List.length_append];omega,by simp only;rw [←h4];simp only [List.append_assoc]⟩,by simp only;omega,(by (try simp only [Int.natCast_add,Int.natCast_one]);exact Ent.nil (by simp [ze,Vg.look,SV.mapH]))⟩
 ·obtain rfl:i=l.length:=by omega
  rw [List.drop_length] at h4;rw [←h4];simp [zb2]
noncomputable def zec:PE:=peR (fun (l:List Pc)=>[.fs 2 (l.map pcc)]) (fun (l:List Pc)=>pcW l≤16777216) (fun (l:List Pc)=>.s (zb1 l))
theorem jb {l:List Pc}:zec [.fs 2 (l.map pcc)]=some (pcW l≤16777216,.s (zb1 l)):=yg (by rintro a b h;simp_all [z0q]) l
theorem za4:PE1 Tryz.prog 104 zec:=yo (by rintro l hp;exact zyf l hp)
theorem zye (l:List Pc) (hp:pcW l≤16777216):PF Tryz.prog 326 [.fs 2 (l.map pcc)] (.s (zb1 l)):=by
 refine HP pn 62 [[0],[0,3],[0,3,4],[0,3,4,5],[0,3,4,5,8,9,10],[0,3,4,5,8,9,10,11],[0,3,4,5,6,7,8,9,10],[0,3,4,5,6,7,8,9,10,33],[0,3,4,5,8,9,10],[0,3,4,7,8,9,10,45],[0,3,4,7,8,9,10],[0,3,4,7,8,9,10,49],[0,3,4,7,8,9,10],[0,3,4,7,8,9,10],[0,3,4,7,8,9,10],[0,3,4,5,8,9,10],[0,3,4,5,8,9,10],[2]] Tryz.func326 [.tmp 2] ?_;simp only [↓XC,X1,seval,TES,XRP];have hW:=zej l;refine zl.of (ι:={x:Nat×Bs×Bool×Nat // x.1≤l.length∧x.2.1.length+x.2.2.2+pcW (l.drop x.1)≤pcW l∧if x.1=0 then x.2.1=[]∧x.2.2.1=false∧x.2.2.2=0 else x.2.1++zb2 x.2.2.1 x.2.2.2 (l.drop x.1)=zb1 l}) (fun x=>⟨[(0,.fs 2 (l.map pcc)),(3,.s x.1.2.1),(4,.i .i64 (x.1.2.2.2:Nat)),(5,.b x.1.2.2.1),(8,.fs 2 (l.map pcc)),(9,.i .i64 (l.length:Nat)),(10,.i .i64 (x.1.1:Nat))],[]⟩) (fun x=>l.length-x.1.1) ⟨(0,[],false,0),Nat.zero_le _,by simp,rfl,rfl,rfl⟩ (Ent.refl _ _) ?_;rintro ⟨⟨i,out,glue,many⟩,h1,h2,h3⟩;simp only [↓XC,X1,seval,TES,XRP];simp only at h1 h2 h3;refine ⟨fun hl=>CO fun _=>Chk.mk (fun _=>by simp only [inR];omega) fun _=>?_,fun hl=>?_⟩
 ·have hi:i<l.length:=by omega
  have hw:=zn1 (l:=l) hi;have hX:(decide ((i:Int)>0)&&decide ((i:Int)<(l.length:Int)-1)&&decide ((l.getD i pcz).text=[])&&!(l.getD i pcz).glue)=decide (0<i∧(l.getD i pcz).text=[]∧(l.getD i pcz).glue=false∧i+1<l.length):=by
   rw [Bool.eq_iff_iff];simp only [Bool.and_eq_true,decide_eq_true_eq,Bool.not_eq_true'];constructor
   ·rintro ⟨⟨⟨d,c⟩,a⟩,b⟩;exact ⟨by omega,a,b,by omega⟩
   ·rintro ⟨d,a,b,c⟩;exact ⟨⟨⟨by omega,by omega⟩,a⟩,b⟩
  rw [hX];refine ⟨fun hx=>?_,fun hx=>?_⟩
  ·have hx:=of_decide_eq_true hx;rw [hx.2.1] at hw;simp only [List.length_nil] at hw;rw [if_neg (by omega)] at h3;exact CR fun _=>CR fun _=>⟨⟨(i+1,out,glue,many+1),by simp only;omega,by simp only;omega,by simp only [Nat.succ_ne_zero,if_false];rw [←zmo hx.2.2.2 hx.2.1 hx.2.2.1];exact h3⟩,by simp only;omega,(by (try simp only [Int.natCast_add,Int.natCast_one]);exact Ent.nil (by simp [ze,Vg.look,SV.mapH]))⟩
  ·have hx:=of_decide_eq_false hx;have hend:∀ oo:Bs,oo=(if decide ((i:Int)>0)&&decide ((many:Int)=0)&&!glue then out++[32] else out)++List.replicate many 10→oo++(l.getD i pcz).text++zb2 (l.getD i pcz).glue 0 (l.drop (i+1))=zb1 l:=by
    rintro oo rfl;by_cases h0:i=0
    ·subst h0;rw [if_pos rfl] at h3;obtain ⟨rfl,rfl,rfl⟩:=h3;rw [zmn hi];simp
    ·rw [if_neg h0,zre hi (fun h=>hx ⟨by omega,h⟩)] at h3;rw [←h3];by_cases hm:0<many
     ·rw [if_pos hm,if_neg (by simp;omega)];simp only [List.append_assoc]
     ·obtain rfl:many=0:=by omega
      cases glue<;>simp [show 0<i by omega]
   refine ⟨fun hg=>CO fun _=>?_,fun hg=>?_⟩
   ·rw [if_pos hg] at hend;have hm0:many=0:=by simp only [Yi] at hg;omega
    refine zl.of (ι:={x:Nat×Bs // x.2.length+x.1≤(out++[32]:Bs).length+many∧x.2++List.replicate x.1 10=out++[32]++List.replicate many 10}) (fun x=>⟨[(0,.fs 2 (l.map pcc)),(3,.s x.1.2),(4,.i .i64 (x.1.1:Nat)),(7,.ptr 0 0 0),(8,.fs 2 (l.map pcc)),(9,.i .i64 (l.length:Nat)),(10,.i .i64 (i:Nat))],[some (.blk false [.s (l.getD i pcz).text,.b (l.getD i pcz).glue])]⟩) (fun x=>x.1.1) ⟨(many,out++[32]),Nat.le_refl _,rfl⟩ (by first | exact Ent.refl _ _ | exact Ent.ren1 [0] (by decide) (by simp only [Yd];exact zb rfl) (by simp [ze,Vg.look,SV.mapH,muL])) ?_;rintro ⟨⟨k,oo⟩,k1,k2⟩;simp only [↓XC,X1,seval,TES,XRP];simp only [List.length_append,List.length_singleton] at k1;simp only at k2;refine ⟨fun hk=>CO fun _=>CR fun _=>⟨⟨(k-1,oo++[10]),by simp only [List.length_append,List.length_singleton];omega,by simp only;rw [zpc,show k-1+1=k by omega];exact k2⟩,by simp only;omega, ?_⟩,fun hk=>?_⟩
    ·simp only [show ((k:Int)-1)=((k-1:Nat):Int) by omega];exact Ent.refl _ _
    ·obtain rfl:k=0:=by omega
     simp only [List.replicate_zero,List.append_nil] at k2;have hee:=hend oo k2;refine CO fun _=>CR fun _=>⟨⟨(i+1,oo++(l.getD i pcz).text,(l.getD i pcz).glue,0),by simp only;omega,by simp only [List.length_append];omega,by simp only [Nat.succ_ne_zero,if_false];exact hee⟩,by simp only;omega,(by (try simp only [Int.natCast_add,Int.natCast_one]);exact Ent.nil (by simp [ze,Vg.look,SV.mapH]))⟩
   ·rw [hg] at hend;simp only [Bool.false_eq_true,if_false] at hend;refine zl.of (ι:={x:Nat×Bs // x.2.length+x.1≤(out:Bs).length+many∧x.2++List.replicate x.1 10=out++List.replicate many 10}) (fun x=>⟨[(0,.fs 2 (l.map pcc)),(3,.s x.1.2),(4,.i .i64 (x.1.1:Nat)),(7,.ptr 0 0 0),(8,.fs 2 (l.map pcc)),(9,.i .i64 (l.length:Nat)),(10,.i .i64 (i:Nat))],[some (.blk false [.s (l.getD i pcz).text,.b (l.getD i pcz).glue])]⟩) (fun x=>x.1.1) ⟨(many,out),Nat.le_refl _,rfl⟩ (by first | exact Ent.refl _ _ | exact Ent.ren1 [0] (by decide) (by simp only [Yd];exact zb rfl) (by simp [ze,Vg.look,SV.mapH,muL])) ?_;rintro ⟨⟨k,oo⟩,k1,k2⟩;simp only [↓XC,X1,seval,TES,XRP];simp only [List.length_append,List.length_singleton] at k1;simp only at k2;refine ⟨fun hk=>CO fun _=>CR fun _=>⟨⟨(k-1,oo++[10]),by simp only [List.length_append,List.length_singleton];omega,by simp only;rw [zpc,show k-1+1=k by omega];exact k2⟩,by simp only;omega, ?_⟩,fun hk=>?_⟩
    ·simp only [show ((k:Int)-1)=((k-1:Nat):Int) by omega];exact Ent.refl _ _
    ·obtain rfl:k=0:=by omega
     simp only [List.replicate_zero,List.append_nil] at k2;have hee:=hend oo k2;refine CO fun _=>CR fun _=>⟨⟨(i+1,oo++(l.getD i pcz).text,(l.getD i pcz).glue,0),by simp only;omega,by simp only [List.length_append];omega,by simp only [Nat.succ_ne_zero,if_false];exact hee⟩,by simp only;omega,(by (try simp only [Int.natCast_add,Int.natCast_one]);exact Ent.nil (by simp [ze,Vg.look,SV.mapH]))⟩
 ·obtain rfl:i=l.length:=by omega
  by_cases h0:l.length=0
  ·rw [if_pos h0] at h3;rw [h3.1,List.length_eq_zero_iff.1 h0];rfl
  ·rw [if_neg h0,List.drop_length] at h3;rw [←h3];simp [zb2]
noncomputable def zeb:PE:=peR (fun (l:List Pc)=>[.fs 2 (l.map pcc)]) (fun (l:List Pc)=>pcW l≤16777216) (fun (l:List Pc)=>.s (zb1 l))
theorem yc {l:List Pc}:zeb [.fs 2 (l.map pcc)]=some (pcW l≤16777216,.s (zb1 l)):=yg (by rintro a b h;simp_all [z0q]) l
theorem xj:PE1 Tryz.prog 326 zeb:=yo (by rintro l hp;exact zye l hp)
theorem Cut_s (b:List UInt8) (k:Int) (hp:b.length≤16777216∧0≤k):PF Tryz.prog 327 [.fs 1 (b.map j7),.i .i64 k] (.s (uq k.toNat b)):=by
 refine HP pn 34 [[0,1],[0,1,26],[0,1],[4]] Tryz.func327 [.tmp 4] ?_;simp only [↓XC,X1,seval,TES,XRP];refine zl.of (ι:={x:Bs // uq k.toNat x=uq k.toNat b∧x.length≤b.length}) (fun x=>⟨[(0,.fs 1 (x.1.map j7)),(1,.i .i64 k)],[]⟩) (fun x=>x.1.length) ⟨b,rfl,Nat.le_refl _⟩ (Ent.refl _ _) ?_;rintro ⟨x,hx,hl⟩;simp only [↓XC,X1,seval,TES,XR];have e1:((x.length:Int)-1).toNat=x.length-1:=by omega
 rw [e1];have hX:(decide ((x.length:Int)>k)&&(decide (((x.getD (x.length-1) 0).toNat:Int)=32)||decide (((x.getD (x.length-1) 0).toNat:Int)=9)))=decide (k.toNat<x.length∧(x.getD (x.length-1) 0=32∨x.getD (x.length-1) 0=9)):=by
  have h1:=xp (c:=x.getD (x.length-1) 0) (n:=32) (by decide);have h2:=xp (c:=x.getD (x.length-1) 0) (n:=9) (by decide);simp only [Int.cast_ofNat_Int] at h1 h2;rw [Bool.eq_iff_iff];simp only [Bool.and_eq_true,Bool.or_eq_true,decide_eq_true_eq,h1,h2];constructor
  ·rintro ⟨a,b⟩;exact ⟨by omega,b⟩
  ·rintro ⟨a,b⟩;exact ⟨by omega,b⟩
 rw [hX];refine Chk.mk (fun h=>by simp only [inR];omega) fun _=>Chk.mk (fun h=>by omega) fun _=>Chk.mk (fun h=>by simp only [inR];omega) fun _=>Chk.mk (fun h=>by simp only [Yi] at h;omega) fun _=>⟨fun h=>?_,fun h=>?_⟩
 ·have h:=of_decide_eq_true h;refine CR fun _=>CO fun _=>⟨⟨x.take (x.length-1),by rw [←cutW_t h];exact hx,by rw [List.length_take];omega⟩,by simp only [List.length_take];omega, ?_⟩
  rw [←List.map_take];exact Ent.refl _ _
 ·have h:=of_decide_eq_false h;refine Chk.mk (fun y hy=>by obtain ⟨z,_,rfl⟩:=List.mem_map.1 hy;rfl) fun _=>?_;rw [zrc,←hx,zwb h]
noncomputable def zu7:PE:=peR (fun (x:List UInt8×Int)=>match x with | (b,k)=>[.fs 1 (b.map j7),.i .i64 k]) (fun (x:List UInt8×Int)=>match x with | (b,k)=>b.length≤16777216∧0≤k) (fun (x:List UInt8×Int)=>match x with | (b,k)=>.s (uq k.toNat b))
theorem j6 {b:List UInt8} {k:Int}:zu7 [.fs 1 (b.map j7),.i .i64 k]=some (b.length≤16777216∧0≤k,.s (uq k.toNat b)):=yg (by rintro ⟨a0,a1⟩ ⟨b0,b1⟩ h;simp_all [z2t]) (b,k)
theorem zix:PE1 Tryz.prog 327 zu7:=yo (by rintro ⟨b,k⟩ hp;exact Cut_s b k hp)
end Go.T
end
section
namespace Go.T
variable [Go.Vg.Glob] [Go.Vg.GlobTabs 0 1]
open Go.Proofs Go.Vg Go.RowKit Go.TT Go.Pl
set_option maxRecDepth 10000
set_option maxHeartbeats 4000000
theorem qput (s:Bs) (n:Nat) (L:List Pc) (cur:Bs) (k:Nat) (t:Bs) (m:Int) (b:Bool) (hp:cur.length≤16777216∧t.length≤16∧n≤16777216∧0≤m∧m≤16777216):FnK Tryz.prog 239 1 [.ptr 0 0 0,.s t,.i .i64 m,.b b] [some (.blk false [.s s,.i .i64 ((n:Int)),.slc 1 0 (L).length,.s (cur),.i .i64 ((k:Int))]),some (.row false 2 (L).length (zu pcc pcz (L)))] (fun z c=>z=.tup []∧c=[some (.blk false [.s s,.i .i64 ((n:Int)+m),.slc 1 0 (L).length,.s (cur++t),.i .i64 ((if b then ((cur++t).length:Nat) else k:Nat))]),some (.row false 2 (L).length (zu pcc pcz (L)))]):=by
 refine HE pn 35 [[0,2,3],[0,3],[0,26],[]] Tryz.func239 [] ?_;simp only [↓XC,X1,seval,TES,XRP];refine CO fun _=>CR fun _=>⟨fun hb=>?_,fun hb=>?_⟩
 ·subst hb;exact ⟨[0,1],by decide,by simp only [Yd];refine ⟨zb (by simp [Yf]), ?_⟩;exact za fun _=>rfl,by simp only [↓XC,X1,seval];try first | rfl | simp [Yf],by simp [z6,SO.ro,YC],by simp⟩
 ·subst hb;exact ⟨[0,1],by decide,by simp only [Yd];refine ⟨zb (by simp [Yf]), ?_⟩;exact za fun _=>rfl,by simp only [↓XC,X1,seval];try first | rfl | simp [Yf],by simp [z6,SO.ro,YC],by simp⟩
theorem qends (s:Bs) (n:Nat) (L:List Pc) (cur:Bs) (k:Nat) (b:Bool) (hp:s.length≤1048576∧n<s.length∧k≤cur.length∧L.length≤16777216∧cur.length≤16777216):FnK Tryz.prog 238 1 [.ptr 0 0 0,.b b] [some (.blk false [.s s,.i .i64 ((n:Int)),.slc 1 0 (L).length,.s (cur),.i .i64 ((k:Int))]),some (.row false 2 (L).length (zu pcc pcz (L)))] (fun z c=>z=.b (decide (mkA s (n+1)=0))∧c=[some (.blk false [.s s,.i .i64 (((if mkA s (n+1)=0 then wh s (n+1) else n+1:Nat):Int)),.slc 1 0 (L++[(⟨if b then cur else cur.take k,b⟩:Pc)]).length,.s (([]:Bs)),.i .i64 (0)]),some (.row false 2 (L++[(⟨if b then cur else cur.take k,b⟩:Pc)]).length (zu pcc pcz (L++[(⟨if b then cur else cur.take k,b⟩:Pc)])))]):=by
 refine HEx (we.c qv.d) 69 [[0,1],[0,1,6],[0,1],[0],[0],[0],[0],[0,56],[4],[],[4]] Tryz.func238 [.tmp 4] (fun _=>false) [] [(2,[12],[0],qf (.q0 4 [4,9,10,11,12] (.q0 8 [8,9,10,11,12] (.q0 9 [9,10,11,12] (.q1 10 (.q1 11 (.sw (.alt 12 .fin .fin)))))))),(3,[12,15],[0,1],qf (.q1 9 (.q0 4 [4,12,13,14,15] (.q0 8 [8,10,11,12,13,14,15] (.q1 10 (.alt 11 (.sw (.alt 12 (.q1 13 (.q1 14 (.alt 15 .fin .fin))) .fin)) .fin)))))),(7,[],[],qa (.q0 3 [3] (.q0 7 [7] (.alt 8 (.q1 9 .fin) .fin)))),(9,[12],[0],qf (.q0 4 [4,9,10,11,12] (.q0 8 [8,9,10,11,12] (.alt 9 (.q1 10 (.q1 11 (.sw (.alt 12 .fin .fin)))) .fin))))] ?_;simp only [↓XC,X1,seval,TES,zd,zz,XRP];have hs:spot s ((n:Int)+1)=n+1:=by unfold spot;omega
 rw [hs];have hm:mkA s (n+1)=0∨¬mkA s (n+1)=0:=Classical.em _;refine ⟨fun hb=>⟨by decide +kernel,CO fun _=>⟨by decide +kernel,z2 rfl rfl,CO fun _=>CR fun _=>⟨by decide +kernel,Chk.mk hp.1 fun _=>?_⟩⟩⟩,fun hb=>⟨by decide +kernel,z2 rfl rfl,CO fun _=>CR fun _=>⟨by decide +kernel,Chk.mk hp.1 fun _=>?_⟩⟩⟩
 ·obtain rfl:b=false:=by simpa using hb
  rcases hm with hm | hm
  ·simp only [hm,if_true,decide_true,Bool.not_true,Bool.false_eq_true,false_implies,true_and,true_implies,if_false,forall_const];exact ⟨by decide +kernel,Chk.mk hp.1 fun _=>⟨[0,3],by decide,by simp only [Yd];refine ⟨zb (by simp [Yf]), ?_⟩;exact jn (enc:=pcc) (z:=pcz) L (⟨cur.take k,false⟩:Pc) 2 (fun _=>rfl) (fun _ _=>rfl) rfl rfl,by simp only [↓XC,X1,seval];try first | rfl | simp [Yf],by simp [z6,SO.ro,YC],by simp⟩⟩
  ·simp only [hm,if_false,decide_false,Bool.not_false,true_implies,Bool.true_eq_false,false_implies,and_true,Bool.false_eq_true,forall_const];exact ⟨[0,3],by decide,by simp only [Yd];refine ⟨zb (by simp [Yf]), ?_⟩;exact jn (enc:=pcc) (z:=pcz) L (⟨cur.take k,false⟩:Pc) 2 (fun _=>rfl) (fun _ _=>rfl) rfl rfl,by simp only [↓XC,X1,seval];try first | rfl | simp [Yf],by simp [z6,SO.ro,YC],by simp⟩
 ·obtain rfl:b=true:=by simpa using hb
  rcases hm with hm | hm
  ·simp only [hm,if_true,decide_true,Bool.not_true,Bool.false_eq_true,false_implies,true_and,true_implies,forall_const];exact ⟨by decide +kernel,Chk.mk hp.1 fun _=>⟨[0,3],by decide,by simp only [Yd];refine ⟨zb (by simp [Yf]), ?_⟩;exact jn (enc:=pcc) (z:=pcz) L (⟨cur,true⟩:Pc) 2 (fun _=>rfl) (fun _ _=>rfl) rfl rfl,by simp only [↓XC,X1,seval];try first | rfl | simp [Yf],by simp [z6,SO.ro,YC],by simp⟩⟩
  ·simp only [hm,if_false,if_true,decide_false,Bool.not_false,true_implies,Bool.true_eq_false,false_implies,and_true,forall_const];exact ⟨[0,3],by decide,by simp only [Yd];refine ⟨zb (by simp [Yf]), ?_⟩;exact jn (enc:=pcc) (z:=pcz) L (⟨cur,true⟩:Pc) 2 (fun _=>rfl) (fun _ _=>rfl) rfl rfl,by simp only [↓XC,X1,seval];try first | rfl | simp [Yf],by simp [z6,SO.ro,YC],by simp⟩
theorem qdone (s:Bs) (n:Nat) (L:List Pc) (cur:Bs) (k:Nat) (hp:pcW L+cur.length≤16777214∧n≤16777216):FnK Tryz.prog 240 1 [.ptr 0 0 0] [some (.blk false [.s s,.i .i64 ((n:Int)),.slc 1 0 (L).length,.s (cur),.i .i64 ((k:Int))]),some (.row false 2 (L).length (zu pcc pcz (L)))] (fun z c=>z=.tup [.s (zb1 (L++[(⟨cur,false⟩:Pc)])),.i .i64 ((n:Int)+1),.i .i64 0]∧c=[some (.blk false [.s s,.i .i64 ((n:Int)),.slc 1 0 (L++[(⟨cur,false⟩:Pc)]).length,.s (cur),.i .i64 ((k:Int))]),some (.row false 2 (L++[(⟨cur,false⟩:Pc)]).length (zu pcc pcz (L++[(⟨cur,false⟩:Pc)])))]):=by refine HEx za4.d 29 [[0],[0],[2,3,4]] Tryz.func240 [.tmp 2,.tmp 3,.tmp 4] (fun _=>false) [] [(1,[11,14],[0,1],qf (.q0 4 [4,11,12,13,14] (.q0 8 [8,9,10,11,12,13,14] (.q1 9 (.alt 10 (.sw (.alt 11 (.q1 12 (.q1 13 (.alt 14 .fin .fin))) .fin)) .fin))))),(2,[],[],.q1 0 (.q1 1 (.q1 2 (.q1 5 (.q1 6 (.q1 7 (.q0 3 [3] (.q0 8 [8] (.q1 9 (.alt 4 (.q1 10 (.q1 11 (.q1 12 .fin))) .fin))))))))))] ?_;simp only [↓XC,X1,seval,TES,jb,XRP];have hW:=zej L;refine ⟨by decide +kernel,z2 rfl rfl,CO fun _=>⟨by decide +kernel,CR fun _=>?_⟩⟩;have e:je (zfz L.length (fun j=>[SV.s (L.getD j pcz).text,SV.b (L.getD j pcz).glue]) fun j=>q7 [SV.s cur,SV.b false] 2 j) 0 (L.length+1)=(L++[(⟨cur,false⟩:Pc)]).map pcc:=zai pcz L ⟨cur,false⟩ 2 (fun _ _=>rfl) rfl rfl;rw [e];simp only [↓XC,X1,seval,TES,jb,XRP];refine Chk.mk ⟨⟨Nat.le_refl _,zfy (enc:=pcc) pcz L ⟨cur,false⟩ 2 (fun _=>rfl) (fun _ _=>rfl) rfl fun _=>rfl⟩,by rw [ko,uf];show pcW L+(cur.length+1)≤16777216;omega⟩ fun _=>?_;exact ⟨[0,3],by decide,by simp only [Yd];refine ⟨zb (by simp [Yf]), ?_⟩;exact jn (enc:=pcc) (z:=pcz) L (⟨cur,false⟩:Pc) 2 (fun _=>rfl) (fun _ _=>rfl) rfl rfl,by simp only [↓XC,X1,seval];try first | rfl | simp [Yf],by simp [z6,SO.ro,YC],by simp⟩
end Go.T
end
