/- Own text: part RBE. -/
import Derived.Test.YtgippllfnmdnpaaGreatDoorRBC
import Derived.Test.YtgippllfnmdnpaaGreatDoorRAW
section
set_option linter.unusedVariables false
set_option linter.unusedSimpArgs false
set_option linter.unusedSectionVars false
set_option linter.unnecessarySimpa false
namespace Go.T
variable [Go.Vg.Glob] [Go.Vg.GlobTabs 0 1]
open Go.Proofs Go.Vg Go.RowKit Go.TT Go.Pl
set_option maxRecDepth 10000
set_option maxHeartbeats 4000000
theorem isWord (b:UInt8):PF Tryz.prog 311 [.i .u8 (b.toNat:Nat)] (.b (isWd b)):=by
 refine ⟨rfl,rfl,FnK.of (cf:=zk Tryz.prog te [] 29 0 false (fun _=>false) (kp [(0,[0]),(1,[2])]) [] []) (zf te_ok (l:=[]) (trivial) zd) Tryz.func311 rfl rfl rfl (by simp [zk]) (by simp [zk]) (rs:=[.tmp 2]) rfl 100000 ?_⟩
 simp only [↓XC,XV,XT,Yg,seval,TES]
 simp only [SV.b.injEq]
 unfold isWd
 rw [Bool.eq_iff_iff]
 simp only [Bool.or_eq_true,Bool.and_eq_true,decide_eq_true_eq]
 omega
noncomputable def zco:PE:=peR (fun (b:UInt8)=>[.i .u8 (b.toNat:Nat)]) (fun (b:UInt8)=>True) (fun (b:UInt8)=>.b (isWd b))
theorem zei {b:UInt8}:zco [.i .u8 (b.toNat:Nat)]=some (True,.b (isWd b)):=z6 (by rintro a b h;simp_all [Int.ofNat_inj,UInt8.toNat_inj]) b
theorem zmi:PE1 Tryz.prog 311 zco:=yb (by rintro b hp;exact isWord b)
theorem nameOk (s:Bs) (hp:s.length≤1048576):PF Tryz.prog 276 [.s s] (.b (nmO s)):=by
 refine ⟨rfl,rfl,FnK.of (cf:=zk Tryz.prog te [(311,zco)] 36 0 false (fun _=>false) (kp [(0,[0]),(1,[0,23]),(2,[2]),(3,[0,3]),(4,[0,3,28]),(5,[0,3]),(6,[0,3,35]),(7,[2]),(8,[2])]) [] []) (zf te_ok (l:=[(311,zco)]) (⟨zmi,trivial⟩) zd) Tryz.func276 rfl rfl rfl (by simp [zk]) (by simp [zk]) (rs:=[.tmp 2]) rfl 100000 ?_⟩
 simp only [↓XC,XV,XT,Yg,seval,TES,zei]
 have hA:∀ x:Nat,x=s.length-1→((decide ((s.length:Int)>60)||decide (s=[])||!decide (((s.getD 0 0).toNat:Int)=33)||!decide (((s.getD x 0).toNat:Int)=33))=false↔(s.length≤60∧s≠[]∧s.getD 0 0=33∧s.getD (s.length-1) 0=33)):=by
  rintro x rfl
  have h3:=zar (c:=s.getD 0 0) (n:=33) (by decide)
  have h4:=zar (c:=s.getD (s.length-1) 0) (n:=33) (by decide)
  simp only [Int.cast_ofNat_Int] at h3 h4
  simp only [h3,h4]
  simp only [Bool.or_eq_false_iff,decide_eq_false_iff_not,Bool.not_eq_false',decide_eq_true_eq,ne_eq]
  constructor
  ·rintro ⟨⟨⟨a,b⟩,c⟩,d⟩;exact ⟨by omega,b,c,d⟩
  ·rintro ⟨a,b,c,d⟩;exact ⟨⟨⟨by omega,b⟩,c⟩,d⟩
 have hl0:s≠[]→0<s.length:=fun h=>List.length_pos_iff.2 h
 have e1:((s.length:Int)-1).toNat=s.length-1:=by omega
 rw [e1]
 refine Chk.mk (fun h=>by simp at h;have:=hl0 h.2;omega) fun _=>Chk.mk (fun h=>by simp only [inR];omega) fun _=>Chk.mk (fun h=>by simp at h;have:=hl0 h.1.2;omega) fun _=>⟨fun h=>?_,fun h=>?_⟩
 ·have:¬(s.length≤60∧s≠[]∧s.getD 0 0=33∧s.getD (s.length-1) 0=33):=by rw [←hA _ rfl,h];simp
  rw [nmO,decide_eq_false this];rfl
 have hc:=(hA _ rfl).1 h
 have hnm:nmO s=(sub s 1 (s.length-1)).all isWd:=by rw [nmO,decide_eq_true hc];rfl
 have hpos:=hl0 hc.2.1
 refine yv.of (ι:={i:Nat // 1≤i∧i≤s.length∧∀ j,1≤j→j<i→isWd (s.getD j 0)=true}) (fun x=>⟨[(0,.s s),(3,.i .i64 (x.1:Nat))],[]⟩) (fun x=>s.length-x.1) ⟨1,Nat.le_refl _,by omega,fun j h1 h2=>by omega⟩ (Ent.refl _ _) ?_
 rintro ⟨i,hi1,hi2,hj⟩
 simp only [↓XC,XV,XT,Yg,seval,TES,zei]
 refine Chk.mk (by simp only [inR];omega) fun _=>⟨fun hl=>Chk.mk (by omega) fun _=>⟨fun hw=>?_,fun hw=>Chk.mk (by simp only [inR];omega) fun _=>?_⟩,fun hl=>?_⟩
 ·have:nmO s=false:=by
   rw [hnm,Bool.eq_false_iff]
   intro h9
   have:=(zus isWd (by omega)).1 h9 i hi1 (by omega)
   rw [this] at hw;cases hw
  rw [this]
 ·refine ⟨⟨i+1,by omega,by omega,fun j h1 h2=>?_⟩,by simp only;omega,(by first | exact Ent.refl _ _ | (simp only [Int.natCast_add,Int.natCast_one];exact Ent.refl _ _))⟩
  rcases Nat.lt_or_ge j i with h3 | h3
  ·exact hj j h1 h3
  ·obtain rfl:j=i:=by omega
   simpa using hw
 ·have:nmO s=true:=by rw [hnm];exact (zus isWd (by omega)).2 fun j h1 h2=>hj j h1 (by omega)
  rw [this]
noncomputable def ui:PE:=peR (fun (s:Bs)=>[.s s]) (fun (s:Bs)=>s.length≤1048576) (fun (s:Bs)=>.b (nmO s))
theorem zeg {s:Bs}:ui [.s s]=some (s.length≤1048576,.b (nmO s)):=z6 (by rintro a b h;simp_all []) s
theorem zef:PE1 Tryz.prog 276 ui:=yb (by rintro s hp;exact nameOk s hp)
theorem zyd (raw:Bs) (l:List Hd) (hp:raw.length≤1048576∧l.length≤1048576∧(∀ h∈l,h.pre.length≤1048576)):PF Tryz.prog 342 [.s raw,.fs 2 (l.map hdc)] (.tup [.s (trA raw l).1,.b (trA raw l).2]):=by
 refine ⟨rfl,rfl,FnK.of (cf:=zk Tryz.prog te [(247,zdt),(276,ui)] 87 0 false (fun _=>false) (kp [(0,[0,1]),(1,[0,1,11]),(2,[4,5]),(3,[0,1,19]),(4,[4,5]),(5,[0,1,41]),(6,[4,5]),(7,[0,1,6]),(8,[1,7,8]),(9,[1,7,8,59]),(10,[4,5]),(11,[7,8,60,61,62]),(12,[7,8,60,61,62,63]),(13,[7,8,10,60,61,62]),(14,[7,8,10,60,61,62,69]),(15,[8,10,72]),(16,[4,5]),(17,[4,5]),(18,[7,8,60,61,62]),(19,[8,78]),(20,[8,78,79]),(21,[4,5]),(22,[8,83]),(23,[4,5]),(24,[4,5])]) [] [(8,[],[],.q1 0 (.q1 1 (.q1 2 (.q1 3 (.q1 4 (.q1 5 (.q1 6 (.q1 7 (.fin)))))))))]) (zf te_ok (l:=[(247,zdt),(276,ui)]) (⟨zig,zef,trivial⟩) zd) Tryz.func342 rfl rfl rfl (by simp [zk]) (by simp [zk]) (rs:=[.tmp 4,.tmp 5]) rfl 100000 ?_⟩
 simp only [↓XC,XV,XT,Yg,seval,TES,zih,zeg,XRH]
 have hlx:=lix_bd raw 33
 have h0:=zar (c:=raw.getD 0 0) (n:=33) (by decide)
 have h1:=zar (c:=raw.getD 1 0) (n:=60) (by decide)
 have e1:((raw.length:Int)-1).toNat=raw.length-1:=by omega
 have h2:=zar (c:=raw.getD (raw.length-1) 0) (n:=62) (by decide)
 simp only [Int.cast_ofNat_Int] at h0 h1 h2
 have h5:((raw.length:Int)>3)=(3<raw.length):=by apply propext;omega
 simp only [h0,h1,h2,e1,h5]
 refine Chk.mk (fun h=>Int.ofNat_lt.2 (List.length_pos_iff.2 (by simpa using h))) fun _=>⟨fun h=>?_,fun h=>Chk.mk (fun h=>by omega) fun _=>Chk.mk (fun h=>by simp only [inR];omega) fun _=>Chk.mk (fun h=>by simp at h;omega) fun _=>⟨fun hb=>Chk.mk (by simp only [inR];omega) fun _=>Chk.mk (by simp at hb;omega) fun _=>?_,fun hb=>⟨fun hc=>?_,fun hc=>Chk.mk hp.1 fun _=>Chk.mk (by simp only [inR];omega) fun _=>⟨by decide +kernel,Chk.mk (by omega) fun _=>Chk.mk (by omega) fun _=>Chk.mk (fun h=>⟨h,by simp only [List.length_take];omega⟩) fun _=>⟨fun hd=>?_,fun hd=>?_⟩⟩⟩⟩⟩
 ·rw [trA_a (by simpa using h)]
 ·rw [trA_b (by simpa using h) (by simpa [and_assoc] using hb)];rfl
 ·subst hc;rw [trA_c]
 ·rw [trA_d (by simpa using h) (by simpa [and_assoc] using hb) hc,if_pos (by simpa using hd)]
 have hD:=trA_d (l:=l) (by simpa using h) (by simpa [and_assoc] using hb) hc
 rw [if_neg (by simpa using hd)] at hD
 generalize List.take (lix raw 33+1).toNat raw=nm at *
 have hrl:(List.drop (lix raw 33+1).toNat raw).length≤1048576:=by simp only [List.length_drop];omega
 generalize List.drop (lix raw 33+1).toNat raw=rs at *
 refine yv.of (ι:={i:Nat // i≤l.length∧hdF nm rs (l.drop i)=hdF nm rs l}) (fun x=>⟨[(7,.s nm),(8,.s rs),(60,.fs 2 (l.map hdc)),(61,.i .i64 (l.length:Nat)),(62,.i .i64 (x.1:Nat))],[]⟩) (fun x=>l.length-x.1) ⟨0,Nat.zero_le _,rfl⟩ (Ent.refl _ _) ?_
 rintro ⟨i,hi,hd2⟩
 simp only [↓XC,XV,XT,Yg,seval,TES,XRH]
 refine ⟨fun hl=>Chk.mk (by omega) fun _=>?_,fun hl=>?_⟩
 ·have hs:=hdF_drop (name:=nm) (rest:=rs) (l:=l) (i:=i) (by omega)
  have hpl:=hp.2.2 (l.getD i hdz) (getD_mem (by omega))
  refine ⟨fun hn=>⟨fun he=>?_,fun he=>Chk.mk (by omega) fun _=>?_⟩,fun hn=>Chk.mk (by simp only [inR];omega) fun _=>⟨⟨i+1,by omega, ?_⟩,by simp only;omega,(by (try simp only [Int.natCast_add,Int.natCast_one]);exact Ent.nil (by simp [zj,Vg.look,SV.mapH]))⟩⟩
  ·rw [hD,←hd2,hs,if_pos hn,if_pos he]
  ·rw [hD,←hd2,hs,if_pos hn,if_neg he]
  ·rw [←hd2,hs,if_neg hn]
 ·rw [hD,←hd2,List.drop_of_length_le (by omega)]
  refine ⟨fun h3=>Chk.mk (by omega) fun _=>?_,fun h3=>⟨fun h4=>Chk.mk (by omega) fun _=>?_,fun h4=>?_⟩⟩
  ·unfold hdF;rw [if_pos h3];rfl
  ·unfold hdF;rw [if_neg h3,if_pos h4];rfl
  ·unfold hdF;rw [if_neg h3,if_neg h4]
noncomputable def xv:PE:=peR (fun (x:Bs×List Hd)=>match x with | (raw,l)=>[.s raw,.fs 2 (l.map hdc)]) (fun (x:Bs×List Hd)=>match x with | (raw,l)=>raw.length≤1048576∧l.length≤1048576∧(∀ h∈l,h.pre.length≤1048576)) (fun (x:Bs×List Hd)=>match x with | (raw,l)=>.tup [.s (trA raw l).1,.b (trA raw l).2])
theorem zay {raw:Bs} {l:List Hd}:xv [.s raw,.fs 2 (l.map hdc)]=some (raw.length≤1048576∧l.length≤1048576∧(∀ h∈l,h.pre.length≤1048576),.tup [.s (trA raw l).1,.b (trA raw l).2]):=z6 (by rintro ⟨a0,a1⟩ ⟨b0,b1⟩ h;simp_all [hdc_inj]) (raw,l)
theorem zft:PE1 Tryz.prog 342 xv:=yb (by rintro ⟨raw,l⟩ hp;exact zyd raw l hp)
end Go.T
end
section
set_option linter.unusedVariables false
set_option linter.unusedSimpArgs false
set_option linter.unusedSectionVars false
set_option linter.unnecessarySimpa false
namespace Go.T
variable [Go.Vg.Glob] [Go.Vg.GlobTabs 0 1]
open Go.Proofs Go.Vg Go.RowKit Go.TT Go.Pl
set_option maxRecDepth 10000
set_option maxHeartbeats 4000000
theorem zoz (s:Bs) (e n:Int) (fl:Bool) (hp:s.length≤1048576∧0≤e∧e≤s.length):PF Tryz.prog 103 [.s s,.i .i64 e,.i .i64 n,.b fl] (.tup [.i .i64 (nxA s e.toNat n fl).1,.i .i64 (nxA s e.toNat n fl).2.1,.b (nxA s e.toNat n fl).2.2]):=by
 refine ⟨rfl,rfl,FnK.of (cf:=zk Tryz.prog te [(106,yg),(107,zl),(186,ve),(187,qg),(144,yj),(188,we),(102,wd)] 73 0 false (fun _=>false) (kp [(0,[0,1,2,3]),(1,[0,1,2,3,19]),(2,[8,9,10]),(3,[0,2,3,11]),(4,[0,2,3,11,12]),(5,[0,2,3,11,12,26]),(6,[0,2,3,11,12,32]),(7,[8,9,10]),(8,[0,2,3,11,12]),(9,[0,2,3,11,12]),(10,[0,2,3,11,12,13]),(11,[12,13,70]),(12,[8,9,10]),(13,[8,9,10])]) [] []) (zf te_ok (l:=[(106,yg),(107,zl),(186,ve),(187,qg),(144,yj),(188,we),(102,wd)]) (⟨y7,zu,za0,km,qd,vh,vg,trivial⟩) zd) Tryz.func103 rfl rfl rfl (by simp [zk]) (by simp [zk]) (rs:=[.tmp 8,.tmp 9,.tmp 10]) rfl 100000 ?_⟩
 simp only [↓XC,XV,XT,Yg,seval,TES,zz,zc,wm,y6,ze,y8,q6]
 obtain ⟨q,rfl⟩:∃ q:Nat,e=q:=⟨e.toNat,by omega⟩
 have hq:q≤s.length:=by omega
 have hw:=xo s q hq
 rw [zq s hq,zq s hw]
 simp only [Int.toNat_natCast]
 refine Chk.mk hp.1 fun _=>Chk.mk hp.1 fun _=>⟨fun h=>?_,fun h=>Chk.mk hp.1 fun _=>Chk.mk (by simp only [inR];omega) fun _=>?_⟩
 ·rw [nxA_f (by rintro ⟨h2,_⟩;simp [h2] at h)];rfl
 have h10:byt s (wh s q)=10:=by simpa using h
 have hwl:=z2 h10 (by decide)
 refine yv.of (ι:={x:Nat×Nat // wh s q+1≤x.1∧x.1≤s.length∧x.2≤x.1∧lnS s x.1 x.2=lnS s (wh s q+1) 0}) (fun x=>⟨[(0,.s s),(2,.i .i64 n),(3,.b fl),(11,.i .i64 (x.1.1:Nat)),(12,.i .i64 (x.1.2:Nat))],[]⟩) (fun x=>s.length-x.1.1) ⟨(wh s q+1,0),Nat.le_refl _,hwl,by simp only;omega,rfl⟩ (by simp only [Int.natCast_add,Int.natCast_one];exact Ent.refl _ _) ?_
 rintro ⟨⟨a,many⟩,h1,h2,h3,h4⟩
 simp only [↓XC,XV,XT,Yg,seval,TES,wm,y6,zz,ze,y8,zc,q6]
 simp only at h1 h2 h3 h4
 have hen:=zd3 s a h2
 have heg:=zgm s a
 have hwa:=xo s a h2
 rw [zq s h2,zq s hwa]
 have hN:(!decide (mkA s a=0)||!fl&&decide ((inA s a:Int)≤n)||decide (byt s (wh s a)=35)||decide ((plE s (wh s a) fl:Int)=(wh s a:Nat)))=!nxO s a n fl:=by
  unfold nxO
  rw [show decide (n<(inA s a:Int))=!decide ((inA s a:Int)≤n) by rw [←decide_not,decide_eq_decide];omega,show decide ((plE s (wh s a) fl:Int)=(wh s a:Nat))=decide (plE s (wh s a) fl=wh s a) by rw [decide_eq_decide];omega]
  simp only [Bool.not_and,Bool.not_not,Bool.not_or]
 rw [hN]
 refine Chk.mk hp.1 fun _=>⟨fun hl=>Chk.mk hp.1 fun _=>⟨fun he=>?_,fun he=>Chk.mk hp.1 fun _=>Chk.mk (by simp only [inR];omega) fun _=>Chk.mk (by simp only [inR];omega) fun _=>?_⟩,fun hl=>Chk.mk hp.1 fun _=>Chk.mk hp.1 fun _=>Chk.mk (fun h=>⟨⟨h,h⟩,hp.1⟩) fun _=>Chk.mk (fun h=>⟨⟨h,h⟩,hp.1⟩) fun _=>Chk.mk (fun h=>⟨⟨h,h,h⟩,hp.1⟩) fun _=>⟨fun hx=>?_,fun hx=>?_⟩⟩
 ·rw [lnS_e hl (by omega)] at h4
  rw [nxA_f (by rintro ⟨_,h5,_⟩;rw [←h4] at h5;cases h5)];rfl
 ·exact ⟨⟨(en s a+1,many+1),by simp only;omega,by simp only;omega,by simp only;omega,by rw [←lnS_t hl (by omega)];exact h4⟩,by simp only;omega,(by first | exact Ent.refl _ _ | (simp only [Int.natCast_add,Int.natCast_one];exact Ent.refl _ _))⟩
 ·rw [lnS_f hl] at h4
  rw [nxA_f (by rintro ⟨_,_,h5⟩;rw [←h4] at h5;simp only at h5;rw [h5] at hx;cases hx)];rfl
 ·rw [lnS_f hl] at h4
  have hx':nxO s a n fl=true:=by simpa using hx
  rw [nxA_t ⟨h10,by rw [←h4],by rw [←h4];exact hx'⟩,←h4]
noncomputable def j6:PE:=peR (fun (x:Bs×Int×Int×Bool)=>match x with | (s,e,n,fl)=>[.s s,.i .i64 e,.i .i64 n,.b fl]) (fun (x:Bs×Int×Int×Bool)=>match x with | (s,e,n,fl)=>s.length≤1048576∧0≤e∧e≤s.length) (fun (x:Bs×Int×Int×Bool)=>match x with | (s,e,n,fl)=>.tup [.i .i64 (nxA s e.toNat n fl).1,.i .i64 (nxA s e.toNat n fl).2.1,.b (nxA s e.toNat n fl).2.2])
theorem uh {s:Bs} {e n:Int} {fl:Bool}:j6 [.s s,.i .i64 e,.i .i64 n,.b fl]=some (s.length≤1048576∧0≤e∧e≤s.length,.tup [.i .i64 (nxA s e.toNat n fl).1,.i .i64 (nxA s e.toNat n fl).2.1,.b (nxA s e.toNat n fl).2.2]):=z6 (by rintro ⟨a0,a1,a2,a3⟩ ⟨b0,b1,b2,b3⟩ h;simp_all []) (s,e,n,fl)
theorem zds:PE1 Tryz.prog 103 j6:=yb (by rintro ⟨s,e,n,fl⟩ hp;exact zoz s e n fl hp)
theorem zye (s:Bs) (p n:Int) (fl:Bool) (hp:s.length≤1048576):PF Tryz.prog 31 [.s s,.i .i64 p,.i .i64 n,.b fl] (.tup [.s (ptA s (spot s p) n fl).1,.i .i64 (ptA s (spot s p) n fl).2.1,.b (ptA s (spot s p) n fl).2.2]):=by
 refine ⟨rfl,rfl,FnK.of (cf:=zk Tryz.prog te [(100,zr),(101,yn),(102,wd),(103,j6),(104,kj)] 68 0 false (fun _=>false) (kp [(0,[0,1,2,3]),(1,[0,1,2,3]),(2,[0,1,2,3,23]),(3,[8,9,10]),(4,[0,1,2,3,11]),(5,[0,2,3,11,12]),(6,[0,2,3,11,12,13,14,15]),(7,[0,2,3,11,12,13,14,44]),(8,[8,9,10]),(9,[0,2,3,12,13,48,49]),(10,[0,2,3,12,13,48,49,50]),(11,[0,2,3,12,13,48,49]),(12,[0,2,3,12,13,48,49]),(13,[0,2,3,11,12,13]),(14,[0,2,3,11,12])]) [] []) (zf te_ok (l:=[(100,zr),(101,yn),(102,wd),(103,j6),(104,kj)]) (⟨yc,wc,vg,zds,zah,trivial⟩) zd) Tryz.func31 rfl rfl rfl (by simp [zk]) (by simp [zk]) (rs:=[.tmp 8,.tmp 9,.tmp 10]) rfl 100000 ?_⟩
 simp only [↓XC,XV,XT,Yg,seval,TES,yd,zn,q6,uh,wz,XRP]
 have h0:=ql s p
 rw [zq s h0]
 generalize spot s p=q at *
 have hge:=plE_ge s q fl
 have hle:=zif s q fl h0
 refine Chk.mk hp fun _=>⟨fun h=>?_,fun h=>Chk.mk hp fun _=>Chk.mk (by omega) fun _=>?_⟩
 ·unfold ptA;rw [if_neg (by simpa using h)];rfl
 have hpt:ptA s q n fl=((plA s (plE s q fl) n fl [⟨sub s q (plE s q fl),false⟩]).1,(plA s (plE s q fl) n fl [⟨sub s q (plE s q fl),false⟩]).2,true):=by unfold ptA;rw [if_pos (by simpa using h)]
 rw [hpt]
 refine yv.of (ι:={x:Nat×List Pc // x.1≤s.length∧pcW x.2≤x.1+1∧plA s x.1 n fl x.2=plA s (plE s q fl) n fl [⟨sub s q (plE s q fl),false⟩]}) (fun x=>⟨[(0,.s s),(2,.i .i64 n),(3,.b fl),(11,.i .i64 (x.1.1:Nat)),(12,.slc 0 0 x.1.2.length)],[some (.row false 2 x.1.2.length (zg pcc pcz x.1.2))]⟩) (fun x=>s.length-x.1.1) ⟨(plE s q fl,[⟨sub s q (plE s q fl),false⟩]),hle,by simp only [pcW,List.map_cons,List.map_nil,List.sum_cons,List.sum_nil,sub,List.length_drop,List.length_take];omega,rfl⟩ (Ent.ren1 [0] (by decide) (by simp only [Yd];exact zh fun j hj=>by match j,hj with | 0,_=>rfl) (by simp [zj,Vg.look,SV.mapH,muL])) ?_
 rintro ⟨⟨e,L⟩,h1,h2,h3⟩
 simp only [↓XC,XV,XT,Yg,seval,TES,uh,wz,q6,XRP]
 simp only at h1 h2 h3
 have hW:=zmn L
 refine Chk.mk ⟨hp,by omega,by omega⟩ fun _=>⟨fun hn=>?_,fun hn=>?_⟩
 ·rw [wy rfl]
  simp only [↓XC,XV,XT,Yg,seval,TES,wz,XRP]
  refine Chk.mk ⟨Nat.le_refl _,by omega⟩ fun _=>?_
  rw [←h3,plA_f (by simpa using hn)]
 have hok:(nxA s e n fl).2.2=true:=by simpa using hn
 have hpl:=zf1 hok
 have hpe:=zif s (nxA s e n fl).1 fl hpl.2.1
 refine yv.of (ι:={k:Nat // (k:Int)≤(nxA s e n fl).2.1}) (fun x=>⟨[(0,.s s),(2,.i .i64 n),(3,.b fl),(12,.slc 0 0 (L.length+x.1)),(13,.i .i64 (nxA s e n fl).1),(48,.i .i64 (nxA s e n fl).2.1),(49,.i .i64 (x.1:Nat))],[some (.row false 2 (L.length+x.1) (zg pcc pcz (L++List.replicate x.1 pcz)))]⟩) (fun x=>(nxA s e n fl).2.1-x.1) ⟨0,by omega⟩ (Ent.ren1 [0] (by decide) (by simp only [Yd];exact zh fun j hj=>by simp only [List.replicate_zero,List.append_nil];rfl) (by simp [zj,Vg.look,SV.mapH,muL])) ?_
 rintro ⟨k,hk⟩
 simp only [↓XC,XV,XT,Yg,seval,TES,q6,XRP]
 rw [zq s hpl.2.1]
 refine ⟨fun hlt=>⟨qi rfl rfl,Chk.mk (by omega) fun _=>Chk.mk (by simp only [inR];omega) fun _=>⟨⟨k+1,by omega⟩,by simp only;omega, ?_⟩⟩,fun hlt=>Chk.mk hp fun _=>Chk.mk (by omega) fun _=>⟨qi rfl rfl,Chk.mk (by omega) fun _=>?_⟩⟩
 ·simp only [Int.natCast_add,Int.natCast_one]
  exact (Ent.ren1 [2] (by decide) (by simp only [Yd];exact j0 (L++List.replicate k pcz) pcz (fun _=>rfl) (by rw [List.replicate_succ',List.append_assoc]) (by simp) rfl (fun _ _=>rfl) rfl rfl) (by simp [zj,Vg.look,SV.mapH,muL,Nat.add_assoc]))
 ·have hkm:k=(nxA s e n fl).2.1:=by omega
  subst hkm
  have hs:(sub s (nxA s e n fl).1 (plE s (nxA s e n fl).1 fl)).length=plE s (nxA s e n fl).1 fl-(nxA s e n fl).1:=by simp only [sub,List.length_drop,List.length_take];omega
  refine ⟨⟨(plE s (nxA s e n fl).1 fl,L++List.replicate (nxA s e n fl).2.1 pcz++[⟨sub s (nxA s e n fl).1 (plE s (nxA s e n fl).1 fl),false⟩]),hpe, ?_,by rw [←plA_t hok];exact h3⟩,by simp only;omega, ?_⟩
  ·simp only [uj,zfv,zqx]
   omega
  ·exact (Ent.ren1 [2] (by decide) (by simp only [Yd];exact j0 (L++List.replicate (nxA s e n fl).2.1 pcz) ⟨sub s (nxA s e n fl).1 (plE s (nxA s e n fl).1 fl),false⟩ (fun _=>rfl) rfl (by simp) (by simp [Nat.add_assoc]) (fun _ _=>rfl) rfl rfl) (by simp [zj,Vg.look,SV.mapH,muL,Nat.add_assoc]))
noncomputable def jl:PE:=peR (fun (x:Bs×Int×Int×Bool)=>match x with | (s,p,n,fl)=>[.s s,.i .i64 p,.i .i64 n,.b fl]) (fun (x:Bs×Int×Int×Bool)=>match x with | (s,p,n,fl)=>s.length≤1048576) (fun (x:Bs×Int×Int×Bool)=>match x with | (s,p,n,fl)=>.tup [.s (ptA s (spot s p) n fl).1,.i .i64 (ptA s (spot s p) n fl).2.1,.b (ptA s (spot s p) n fl).2.2])
theorem xg {s:Bs} {p n:Int} {fl:Bool}:jl [.s s,.i .i64 p,.i .i64 n,.b fl]=some (s.length≤1048576,.tup [.s (ptA s (spot s p) n fl).1,.i .i64 (ptA s (spot s p) n fl).2.1,.b (ptA s (spot s p) n fl).2.2]):=z6 (by rintro ⟨a0,a1,a2,a3⟩ ⟨b0,b1,b2,b3⟩ h;simp_all []) (s,p,n,fl)
theorem zaz:PE1 Tryz.prog 31 jl:=yb (by rintro ⟨s,p,n,fl⟩ hp;exact zye s p n fl hp)
end Go.T
end
section
set_option linter.unusedVariables false
set_option linter.unusedSimpArgs false
set_option linter.unusedSectionVars false
set_option linter.unnecessarySimpa false
namespace Go.T
variable [Go.Vg.Glob] [Go.Vg.GlobTabs 0 1]
open Go.Proofs Go.Vg Go.RowKit Go.TT Go.Pl Go.TSh
set_option maxRecDepth 10000
set_option maxHeartbeats 4000000
theorem keyEnd (s:Bs) (p:Int) (hp:s.length≤1048576∧0≤p∧p≤s.length):PF Tryz.prog 105 [.s s,.i .i64 p] (.tup [.i .i64 (keE s p.toNat).1,.b (keE s p.toNat).2]):=by
 refine ⟨rfl,rfl,FnK.of (cf:=zk Tryz.prog te [(107,zl),(190,w9),(191,qy),(192,ki),(193,kn),(194,zkg),(101,yn),(102,wd)] 70 0 false (fun _=>false) (kp [(0,[0,1]),(1,[0,1,6]),(2,[0,1,6,17]),(3,[8,9]),(4,[4,5]),(5,[0,1,6,29]),(6,[0,1,6,11,12]),(7,[0,1,11,12,40]),(8,[0,1,11,12]),(9,[4,5]),(10,[0,1,59]),(11,[1,13]),(12,[4,5]),(13,[4,5])]) [] []) (zf te_ok (l:=[(107,zl),(190,w9),(191,qy),(192,ki),(193,kn),(194,zkg),(101,yn),(102,wd)]) (⟨zu,xz,jr,zaf,zaj,zs9,wc,vg,trivial⟩) zd) Tryz.func105 rfl rfl rfl (by simp [zk]) (by simp [zk]) (rs:=[.tmp 4,.tmp 5]) rfl 100000 ?_⟩
 simp only [↓XC,XV,XT,Yg,seval,TES,zc,x7,ya,zag,zak,zta,zn,q6]
 obtain ⟨q,rfl⟩:∃ q:Nat,p=q:=⟨p.toNat,by omega⟩
 have hq:q≤s.length:=by omega
 have h2:=zfi hq
 have h3:=zgq hq
 have hp0:=hp.1
 rw [zq s hq,Int.toNat_natCast]
 have hm:∀ e:Nat,q≤e→e≤s.length→decide ((10:UInt8)∈List.drop q (List.take e s))=!oneL s q e:=fun e h1 h2=>mem_sub h1 h2
 refine Chk.mk hp0 fun _=>⟨fun h42=>Chk.mk hp0 fun _=>?_,fun h42=>⟨fun hQ=>Chk.mk hp0 fun _=>⟨fun h34=>Chk.mk hp0 fun _=>Chk.mk (fun h=>by omega) fun _=>?_,fun h34=>Chk.mk (fun h=>by omega) fun _=>?_⟩,fun hQ=>Chk.mk hp0 fun _=>⟨fun hf=>Chk.mk hp0 fun _=>?_,fun hf=>?_⟩⟩⟩
 ·unfold keE;rw [if_pos h42]
 ·unfold keE;rw [if_neg h42,if_neg (by omega),if_pos h34,hm _ h3.1 h3.2.1,Bool.not_not]
 ·have h39:byt s q=39:=by simpa [h34] using hQ
  unfold keE;rw [if_neg h42,if_pos h39,hm _ h2.1 h2.2.1,Bool.not_not]
 ·have h39:¬byt s q=39∧¬byt s q=34:=by simpa using hQ
  unfold keE;rw [if_neg h42,if_neg h39.1,if_neg h39.2,if_pos hf]
  simp only [gt_iff_lt,Int.ofNat_lt]
 ·have h39:¬byt s q=39∧¬byt s q=34:=by simpa using hQ
  unfold keE;rw [if_neg h42,if_neg h39.1,if_neg h39.2,if_neg (by rw [hf];simp)]
noncomputable def zcn:PE:=peR (fun (x:Bs×Int)=>match x with | (s,p)=>[.s s,.i .i64 p]) (fun (x:Bs×Int)=>match x with | (s,p)=>s.length≤1048576∧0≤p∧p≤s.length) (fun (x:Bs×Int)=>match x with | (s,p)=>.tup [.i .i64 (keE s p.toNat).1,.b (keE s p.toNat).2])
theorem zmh {s:Bs} {p:Int}:zcn [.s s,.i .i64 p]=some (s.length≤1048576∧0≤p∧p≤s.length,.tup [.i .i64 (keE s p.toNat).1,.b (keE s p.toNat).2]):=z6 (by rintro ⟨a0,a1⟩ ⟨b0,b1⟩ h;simp_all []) (s,p)
theorem zmg:PE1 Tryz.prog 105 zcn:=yb (by rintro ⟨s,p⟩ hp;exact keyEnd s p hp)
theorem KeyAt_i (s:Bs) (p:Int) (hp:s.length≤1048576):PF Tryz.prog 32 [.s s,.i .i64 p] (.tup [.i .i64 (kyA s (spot s p)).1,.i .i64 (kyA s (spot s p)).2.1,.b (kyA s (spot s p)).2.2]):=by
 refine ⟨rfl,rfl,FnK.of (cf:=zk Tryz.prog te [(100,zr),(105,zcn),(106,yg),(107,zl),(108,qa)] 43 0 false (fun _=>false) (kp [(0,[0,1]),(1,[0,1]),(2,[0,1,7,8]),(3,[0,7,26]),(4,[4,5,6]),(5,[0,7,9]),(6,[7,9,40]),(7,[4,5,6]),(8,[4,5,6])]) [] []) (zf te_ok (l:=[(100,zr),(105,zcn),(106,yg),(107,zl),(108,qa)]) (⟨yc,zmg,y7,zu,wj,trivial⟩) zd) Tryz.func32 rfl rfl rfl (by simp [zk]) (by simp [zk]) (rs:=[.tmp 4,.tmp 5,.tmp 6]) rfl 100000 ?_⟩
 simp only [↓XC,XV,XT,Yg,seval,TES,yd,zmh,zz,zc,zt]
 have h0:=ql s p
 generalize spot s p=q at *
 have h1:=zm4 h0
 obtain ⟨e,he⟩:∃ e:Nat,(keE s q).1=e:=⟨(keE s q).1.toNat,by omega⟩
 rw [he] at h1 ⊢
 have hel:e≤s.length:=by omega
 rw [zq s hel]
 have hwl:=xo s e hel
 rw [zq s hwl]
 have e1:((wh s e:Nat)+1:Int).toNat=wh s e+1:=by omega
 rw [e1]
 have hN:(keE s q).1.toNat=e:=by omega
 refine Chk.mk ⟨hp,by omega,by omega⟩ fun _=>Chk.mk (fun _=>by simp only [inR];omega) fun _=>⟨fun h=>?_,fun h=>Chk.mk hp fun _=>Chk.mk hp fun _=>Chk.mk (fun _=>by simp only [inR];omega) fun _=>Chk.mk (fun h=>⟨⟨h,h⟩,hp,by omega⟩) fun _=>⟨fun h4=>?_,fun h4=>?_⟩⟩
 ·rw [kyA_f];rintro ⟨h2,h3,_⟩;rw [he] at h3;rw [h2,decide_eq_false (by omega)] at h;cases h
 ·rw [kyA_f];rintro ⟨_,_,h2,h3⟩;rw [hN] at h2 h3;rw [h2,h3] at h4;simp at h4
 ·have h5:(keE s q).2=true∧¬(e:Int)-q>1000:=by simpa using h
  have h6:byt s (wh s e)=58∧gap s (wh s e+1)=true:=by simpa using h4
  rw [kyA_t ⟨h5.1,by rw [he];omega,by rw [hN];exact h6.1,by rw [hN];exact h6.2⟩,he,Int.toNat_natCast]
noncomputable def w5:PE:=peR (fun (x:Bs×Int)=>match x with | (s,p)=>[.s s,.i .i64 p]) (fun (x:Bs×Int)=>match x with | (s,p)=>s.length≤1048576) (fun (x:Bs×Int)=>match x with | (s,p)=>.tup [.i .i64 (kyA s (spot s p)).1,.i .i64 (kyA s (spot s p)).2.1,.b (kyA s (spot s p)).2.2])
theorem yi {s:Bs} {p:Int}:w5 [.s s,.i .i64 p]=some (s.length≤1048576,.tup [.i .i64 (kyA s (spot s p)).1,.i .i64 (kyA s (spot s p)).2.1,.b (kyA s (spot s p)).2.2]):=z6 (by rintro ⟨a0,a1⟩ ⟨b0,b1⟩ h;simp_all []) (s,p)
theorem vo:PE1 Tryz.prog 32 w5:=yb (by rintro ⟨s,p⟩ hp;exact KeyAt_i s p hp)
end Go.T
end
section
set_option linter.unusedVariables false
set_option linter.unusedSimpArgs false
set_option linter.unusedSectionVars false
set_option linter.unnecessarySimpa false
namespace Go.T
variable [Go.Vg.Glob]
open Go.Proofs Go.Vg Go.RowKit Go.TT Go.Pl
set_option maxRecDepth 10000
set_option maxHeartbeats 4000000
end Go.T
end
