/- Own text: part TBE. -/
import Derived.Test.YtgippllfnmdnpaaGreatDoorTBB
import Derived.Test.YtgippllfnmdnpaaGreatDoorTAY
section
set_option linter.unusedVariables false
set_option linter.unusedSimpArgs false
set_option linter.unusedSectionVars false
set_option linter.unnecessarySimpa false
namespace Go.T
variable [Go.Vg.Glob]
open Go.Proofs Go.Vg Go.RowKit Go.TT Go.Pl
set_option maxRecDepth 10000
set_option maxHeartbeats 4000000
theorem lixb (s:Bs) (c:Int) (hp:s.length≤1048576):PF Tryz.prog 275 [.s s,.i .u8 c] (.i .i64 (lix s c)):=by
 refine ⟨rfl,rfl,FnK.of (cf:=zk Tryz.prog te [] 19 0 false (fun _=>false) (kp [(0,[0,1]),(1,[0,1,5]),(2,[0,1,5,10]),(3,[0,1,5]),(4,[0,1,5,17]),(5,[4]),(6,[4])]) [] []) (zf te_ok (l:=[]) (trivial) zc) Tryz.func275 rfl rfl rfl (by simp [zk]) (by simp [zk]) (rs:=[.tmp 4]) rfl 100000 ?_⟩
 simp only [↓XC,XV,XT,Yg,seval,TES]
 refine Chk.mk (by simp only [inR];omega) fun _=>?_
 refine yv.of (ι:={i:Nat // i≤s.length∧lixU s c i=lix s c}) (fun x=>⟨[(0,.s s),(1,.i .u8 c),(5,.i .i64 ((x.1:Nat)-1))],[]⟩) (fun x=>x.1) ⟨s.length,Nat.le_refl _,rfl⟩ (Ent.refl _ _) ?_
 rintro ⟨i,hi,hj⟩
 simp only [↓XC,XV,XT,Yg,seval,TES]
 refine ⟨fun h=>?_,fun h=>?_⟩
 ·obtain ⟨k,rfl⟩:∃ k,i=k+1:=⟨i-1,by omega⟩
  have e1:(((k+1:Nat):Int)-1).toNat=k:=by omega
  have e2:((k+1:Nat):Int)-1=(k:Nat):=by omega
  rw [e1,e2]
  refine Chk.mk (by omega) fun _=>⟨fun h1=>?_,fun h1=>Chk.mk (by simp only [inR];omega) fun _=>⟨⟨k,by omega, ?_⟩,by simp only;omega,Ent.refl _ _⟩⟩
  ·rw [←hj,lixU,if_pos h1]
  ·rw [←hj];conv=>rhs;rw [lixU,if_neg h1]
 ·obtain rfl:i=0:=by omega
  rw [←hj];rfl
noncomputable def zlx:PE:=peR (fun (x:Bs×Int)=>match x with | (s,c)=>[.s s,.i .u8 c]) (fun (x:Bs×Int)=>match x with | (s,c)=>s.length≤1048576) (fun (x:Bs×Int)=>match x with | (s,c)=>.i .i64 (lix s c))
theorem zux {s:Bs} {c:Int}:zlx [.s s,.i .u8 c]=some (s.length≤1048576,.i .i64 (lix s c)):=yh (by rintro ⟨a0,a1⟩ ⟨b0,b1⟩ h;simp_all []) (s,c)
theorem zuw:PE1 Tryz.prog 275 zlx:=yl (by rintro ⟨s,c⟩ hp;exact lixb s c hp)
theorem lixs (s:Bs) (c:Int) (hp:s.length≤1048576):PF Tryz.prog 247 [.s s,.i .u8 c] (.i .i64 (lix s c)):=by
 refine ⟨rfl,rfl,FnK.of (cf:=zk Tryz.prog te [(275,zlx)] 8 0 false (fun _=>false) (kp [(0,[0,1]),(1,[4])]) [] []) (zf te_ok (l:=[(275,zlx)]) (⟨zuw,trivial⟩) zc) Tryz.func247 rfl rfl rfl (by simp [zk]) (by simp [zk]) (rs:=[.tmp 4]) rfl 100000 ?_⟩
 simp only [↓XC,XV,XT,Yg,seval,TES,zux]
 exact Chk.mk hp fun _=>trivial
noncomputable def ze3:PE:=peR (fun (x:Bs×Int)=>match x with | (s,c)=>[.s s,.i .u8 c]) (fun (x:Bs×Int)=>match x with | (s,c)=>s.length≤1048576) (fun (x:Bs×Int)=>match x with | (s,c)=>.i .i64 (lix s c))
theorem zj3 {s:Bs} {c:Int}:ze3 [.s s,.i .u8 c]=some (s.length≤1048576,.i .i64 (lix s c)):=yh (by rintro ⟨a0,a1⟩ ⟨b0,b1⟩ h;simp_all []) (s,c)
theorem zj2:PE1 Tryz.prog 247 ze3:=yl (by rintro ⟨s,c⟩ hp;exact lixs s c hp)
theorem LineAt_i (s:Bs) (p:Int) (hp:s.length≤1048576):PF Tryz.prog 209 [.s s,.i .i64 p] (.i .i64 (la s (spot s p):Nat)):=by
 refine ⟨rfl,rfl,FnK.of (cf:=zk Tryz.prog te [(100,zx),(247,ze3)] 12 0 false (fun _=>false) (kp [(0,[0,1]),(1,[4])]) [] []) (zf te_ok (l:=[(100,zx),(247,ze3)]) (⟨ym,zj2,trivial⟩) zc) Tryz.func209 rfl rfl rfl (by simp [zk]) (by simp [zk]) (rs:=[.tmp 4]) rfl 100000 ?_⟩
 simp only [↓XC,XV,XT,Yg,seval,TES,yn,zj3]
 have h0:=q8 s p
 have h1:=lix_take h0
 have h2:=zoq s (spot s p)
 rw [h1]
 exact Chk.mk (by omega) fun _=>Chk.mk (by simp only [List.length_take];omega) fun _=>Chk.mk (by simp only [inR];omega) fun _=>rfl
noncomputable def qd:PE:=peR (fun (x:Bs×Int)=>match x with | (s,p)=>[.s s,.i .i64 p]) (fun (x:Bs×Int)=>match x with | (s,p)=>s.length≤1048576) (fun (x:Bs×Int)=>match x with | (s,p)=>.i .i64 (la s (spot s p):Nat))
theorem wb {s:Bs} {p:Int}:qd [.s s,.i .i64 p]=some (s.length≤1048576,.i .i64 (la s (spot s p):Nat)):=yh (by rintro ⟨a0,a1⟩ ⟨b0,b1⟩ h;simp_all []) (s,p)
theorem w7:PE1 Tryz.prog 209 qd:=yl (by rintro ⟨s,p⟩ hp;exact LineAt_i s p hp)
theorem MarkAt_i (s:Bs) (p:Int) (hp:s.length≤1048576):PF Tryz.prog 144 [.s s,.i .i64 p] (.i .i64 (mkA s (spot s p))):=by
 refine ⟨rfl,rfl,FnK.of (cf:=zk Tryz.prog te [(100,zx),(209,qd),(108,qn)] 36 0 false (fun _=>false) (kp [(0,[0,1]),(1,[0,1]),(2,[0,1,26]),(3,[4]),(4,[31]),(5,[31,32]),(6,[4]),(7,[34]),(8,[4]),(9,[4])]) [] []) (zf te_ok (l:=[(100,zx),(209,qd),(108,qn)]) (⟨ym,w7,w5,trivial⟩) zc) Tryz.func144 rfl rfl rfl (by simp [zk]) (by simp [zk]) (rs:=[.tmp 4]) rfl 100000 ?_⟩
 simp only [↓XC,XV,XT,Yg,seval,TES,yn,wb,zz]
 have h0:=q8 s p
 rw [zu s h0]
 have e0:((spot s p:Nat)+3:Int).toNat=spot s p+3:=by omega
 rw [e0]
 generalize spot s p=q at *
 have hA:(!decide ((la s q:Int)=(q:Int))||decide ((s.length:Int)-(q:Int)<3)||!gap s (q+3))=!decide (la s q=q∧q+3≤s.length∧gap s (q+3)=true):=by
  rw [Bool.eq_iff_iff]
  simp only [Bool.or_eq_true,Bool.not_eq_true',decide_eq_true_eq,decide_eq_false_iff_not]
  cases gap s (q+3)<;>simp<;>omega
 rw [hA]
 refine Chk.mk hp fun _=>Chk.mk (fun _=>by simp only [inR];omega) fun _=>Chk.mk (fun _=>by simp only [inR];omega) fun _=>Chk.mk (fun h=>⟨⟨h,h⟩,hp,by omega⟩) fun _=>⟨fun h=>?_,fun h=>?_⟩
 ·rw [mkA_bad (by intro hx;rw [decide_eq_true hx] at h;cases h)]
 ·have h1:la s q=q∧q+3≤s.length∧gap s (q+3)=true:=by simpa using h
  refine Chk.mk (by simp only [inR];omega) fun _=>Chk.mk (by omega) fun _=>?_
  unfold mkA sub
  rw [if_pos h1]
  refine ⟨fun h2=>by rw [if_pos h2],fun h2=>⟨fun h3=>by rw [if_neg h2,if_pos h3],fun h3=>by rw [if_neg h2,if_neg h3]⟩⟩
noncomputable def yu:PE:=peR (fun (x:Bs×Int)=>match x with | (s,p)=>[.s s,.i .i64 p]) (fun (x:Bs×Int)=>match x with | (s,p)=>s.length≤1048576) (fun (x:Bs×Int)=>match x with | (s,p)=>.i .i64 (mkA s (spot s p)))
theorem ze {s:Bs} {p:Int}:yu [.s s,.i .i64 p]=some (s.length≤1048576,.i .i64 (mkA s (spot s p))):=yh (by rintro ⟨a0,a1⟩ ⟨b0,b1⟩ h;simp_all []) (s,p)
theorem qw:PE1 Tryz.prog 144 yu:=yl (by rintro ⟨s,p⟩ hp;exact MarkAt_i s p hp)
theorem zwo (s:Bs) (p:Int) (hp:s.length≤1048576∧0≤p∧p≤s.length+1):PF Tryz.prog 237 [.s s,.i .i64 p] (.i .i64 (stc s p.toNat:Nat)):=by
 refine ⟨rfl,rfl,FnK.of (cf:=zk Tryz.prog te [(108,qn),(107,zm),(183,wu)] 19 0 false (fun _=>false) (kp [(0,[0,1]),(1,[0,1,15]),(2,[0,1]),(3,[4])]) [] []) (zf te_ok (l:=[(108,qn),(107,zm),(183,wu)]) (⟨w5,z6,j5,trivial⟩) zc) Tryz.func237 rfl rfl rfl (by simp [zk]) (by simp [zk]) (rs:=[.tmp 4]) rfl 100000 ?_⟩
 simp only [↓XC,XV,XT,Yg,seval,TES,zz,zd,yb]
 refine yv.of (ι:={q:Nat // p.toNat≤q∧q≤s.length+1∧stc s q=stc s p.toNat}) (fun x=>⟨[(0,.s s),(1,.i .i64 (x.1:Nat))],[]⟩) (fun x=>s.length+1-x.1) ⟨p.toNat,Nat.le_refl _,by omega,rfl⟩ (by rw [show ((p.toNat:Nat):Int)=p by omega];exact Ent.refl _ _) ?_
 rintro ⟨q,hq1,hq2,hw⟩
 simp only [↓XC,XV,XT,Yg,seval,TES,zz,zd,yb]
 have hb:byt s (spot s (q:Int))=byt s q:=by rw [vj (by omega)];rfl
 rw [hb]
 refine Chk.mk ⟨hp.1,by omega⟩ fun _=>Chk.mk (fun h=>⟨⟨h,h⟩,hp.1⟩) fun _=>⟨fun h=>Chk.mk (by simp only [inR];omega) fun _=>?_,fun h=>?_⟩
 ·have h1:gap s q=false∧flw (byt s q)=false:=by simpa using h
  have h2:=ut h1.1
  exact ⟨⟨q+1,by omega,by omega,by rw [←stc_t h1];exact hw⟩,by simp only;omega,(by first | exact Ent.refl _ _ | (simp only [Int.natCast_add,Int.natCast_one];exact Ent.refl _ _))⟩
 ·rw [←hw,stc_f]
  simpa using h
noncomputable def j3:PE:=peR (fun (x:Bs×Int)=>match x with | (s,p)=>[.s s,.i .i64 p]) (fun (x:Bs×Int)=>match x with | (s,p)=>s.length≤1048576∧0≤p∧p≤s.length+1) (fun (x:Bs×Int)=>match x with | (s,p)=>.i .i64 (stc s p.toNat:Nat))
theorem zb0 {s:Bs} {p:Int}:j3 [.s s,.i .i64 p]=some (s.length≤1048576∧0≤p∧p≤s.length+1,.i .i64 (stc s p.toNat:Nat)):=yh (by rintro ⟨a0,a1⟩ ⟨b0,b1⟩ h;simp_all []) (s,p)
theorem zbz:PE1 Tryz.prog 237 j3:=yl (by rintro ⟨s,p⟩ hp;exact zwo s p hp)
theorem NameAt_i (s:Bs) (p:Int) (hp:s.length≤1048576):PF Tryz.prog 190 [.s s,.i .i64 p] (.tup [.s (nmA s (spot s p)).1,.i .i64 (nmA s (spot s p)).2.1,.b (nmA s (spot s p)).2.2]):=by
 refine ⟨rfl,rfl,FnK.of (cf:=zk Tryz.prog te [(100,zx),(107,zm),(237,j3),(147,qr)] 37 0 false (fun _=>false) (kp [(0,[0,1]),(1,[0,1]),(2,[0,1,7]),(3,[0,1,20]),(4,[4,5,6]),(5,[0,1,8]),(6,[0,1,8,30]),(7,[4,5,6]),(8,[4,5,6])]) [] []) (zf te_ok (l:=[(100,zx),(107,zm),(237,j3),(147,qr)]) (⟨ym,z6,zbz,kb,trivial⟩) zc) Tryz.func190 rfl rfl rfl (by simp [zk]) (by simp [zk]) (rs:=[.tmp 4,.tmp 5,.tmp 6]) rfl 100000 ?_⟩
 simp only [↓XC,XV,XT,Yg,seval,TES,yn,zd,zb0,wa]
 have h0:=q8 s p
 rw [zu s h0]
 have e0:((spot s p:Nat)+1:Int).toNat=spot s p+1:=by omega
 rw [e0]
 generalize spot s p=q at *
 have h1:=stc_ge s (q+1)
 refine Chk.mk hp fun _=>⟨fun h=>?_,fun h=>Chk.mk (by simp only [inR];omega) fun _=>Chk.mk ⟨hp,by omega,by omega⟩ fun _=>?_⟩
 ·rw [nmA_f];rintro ⟨h2,_⟩;simp at h;omega
 have hb:byt s q=38∨byt s q=42:=by
  by_cases h3:byt s q=38
  ·exact .inl h3
  ·simp [h3] at h;exact .inr h
 have hq:q<s.length:=by
  rcases Nat.lt_or_ge q s.length with h3 | h3
  ·exact h3
  ·rw [jt h3] at hb;omega
 have h2:=zjx s (q+1) (by omega)
 refine Chk.mk (by simp only [inR];omega) fun _=>Chk.mk (by simp only [inR];omega) fun _=>⟨fun h3=>?_,fun h3=>Chk.mk (by simp only [inR];omega) fun _=>?_⟩
 ·rw [nmA_f];rintro ⟨_,h4,h5⟩;simp at h3;omega
 ·have h4:q+2≤stc s (q+1)∧stc s (q+1)≤q+61:=by simp at h3;omega
  exact Chk.mk (by omega) fun _=>by rw [nmA_t ⟨hb,h4⟩];rfl
noncomputable def k9:PE:=peR (fun (x:Bs×Int)=>match x with | (s,p)=>[.s s,.i .i64 p]) (fun (x:Bs×Int)=>match x with | (s,p)=>s.length≤1048576) (fun (x:Bs×Int)=>match x with | (s,p)=>.tup [.s (nmA s (spot s p)).1,.i .i64 (nmA s (spot s p)).2.1,.b (nmA s (spot s p)).2.2])
theorem zae {s:Bs} {p:Int}:k9 [.s s,.i .i64 p]=some (s.length≤1048576,.tup [.s (nmA s (spot s p)).1,.i .i64 (nmA s (spot s p)).2.1,.b (nmA s (spot s p)).2.2]):=yh (by rintro ⟨a0,a1⟩ ⟨b0,b1⟩ h;simp_all []) (s,p)
theorem zad:PE1 Tryz.prog 190 k9:=yl (by rintro ⟨s,p⟩ hp;exact NameAt_i s p hp)
theorem isQuote (b:Int):PF Tryz.prog 191 [.i .i64 b] (.b (b==39||b==34)):=by
 refine ⟨rfl,rfl,FnK.of (cf:=zk Tryz.prog te [] 9 0 false (fun _=>false) (kp [(0,[0]),(1,[2])]) [] []) (zf te_ok (l:=[]) (trivial) zc) Tryz.func191 rfl rfl rfl (by simp [zk]) (by simp [zk]) (rs:=[.tmp 2]) rfl 100000 ?_⟩
 simp only [↓XC,XV,XT,Yg,seval,TES]
 rfl
noncomputable def wn:PE:=peR (fun (b:Int)=>[.i .i64 b]) (fun (b:Int)=>True) (fun (b:Int)=>.b (b==39||b==34))
theorem yj {b:Int}:wn [.i .i64 b]=some (True,.b (b==39||b==34)):=yh (by rintro a b h;simp_all []) b
theorem ve:PE1 Tryz.prog 191 wn:=yl (by rintro b hp;exact isQuote b)
theorem zp3 (s:Bs) (p:Int) (fl:Bool) (hp:s.length≤1048576):PF Tryz.prog 101 [.s s,.i .i64 p,.b fl] (.b (pfA s (spot s p) fl)):=by
 refine ⟨rfl,rfl,FnK.of (cf:=zk Tryz.prog te [(100,zx),(107,zm),(108,qn),(182,zfx),(183,wu)] 57 0 false (fun _=>false) (kp [(0,[0,1,2]),(1,[0,1,2]),(2,[0,1,2,7]),(3,[0,1,2,7,30]),(4,[6]),(5,[0,1,2,40]),(6,[6]),(7,[6])]) [] []) (zf te_ok (l:=[(100,zx),(107,zm),(108,qn),(182,zfx),(183,wu)]) (⟨ym,z6,w5,zhd,j5,trivial⟩) zc) Tryz.func101 rfl rfl rfl (by simp [zk]) (by simp [zk]) (rs:=[.tmp 6]) rfl 100000 ?_⟩
 simp only [↓XC,XV,XT,Yg,seval,TES,yn,zd,zz,zhe,yb]
 have h0:=q8 s p
 rw [zu s h0]
 have e0:((spot s p:Nat)+1:Int).toNat=spot s p+1:=by omega
 have e1:byt s (spot s ((spot s p:Nat)+1:Int))=byt s (spot s p+1):=by rw [vj (by omega),e0]
 rw [e1,e0]
 generalize spot s p=q at *
 have hr:=zcf s q
 refine Chk.mk hp fun _=>Chk.mk ⟨hp,by omega⟩ fun _=>?_
 have hg:gap s q=true∨gap s q=false:=by cases gap s q<;>simp
 rcases hg with hg | hg
 ·rw [hg,pfA_gap hg]
  simp
 have hq:=ut hg
 have hL:=pfL_mem (s.getD q 0)
 rw [←kv hq] at hL
 have e2:UInt8.ofNat (byt s q).toNat=s.getD q 0:=by rw [kv hq];simp
 rw [e2,idx_ge,hg]
 simp only [Bool.false_or]
 rw [hL]
 refine Chk.mk (fun _=>by rw [kv hq];have:=(s.getD q 0).toNat_lt;simp only [inR];omega) fun _=>⟨fun h=>?_,fun h=>?_⟩
 ·rw [pfA_no (by simpa using h)]
 have hn:¬s.getD q 0∈pfL:=by simpa using h
 refine ⟨fun hs=>?_,fun hs=>?_⟩
 ·rw [pfA_sign hg hn (by simpa [or_assoc] using hs)]
  exact Chk.mk (by simp only [inR];omega) fun _=>Chk.mk ⟨hp,by omega⟩ fun _=>Chk.mk (fun _=>by simp only [inR];omega) fun _=>Chk.mk (fun h=>⟨⟨h,h⟩,hp⟩) fun _=>rfl
 ·rw [pfA_yes hg hn (by simpa [and_assoc] using hs)]
noncomputable def y4:PE:=peR (fun (x:Bs×Int×Bool)=>match x with | (s,p,fl)=>[.s s,.i .i64 p,.b fl]) (fun (x:Bs×Int×Bool)=>match x with | (s,p,fl)=>s.length≤1048576) (fun (x:Bs×Int×Bool)=>match x with | (s,p,fl)=>.b (pfA s (spot s p) fl))
theorem zq {s:Bs} {p:Int} {fl:Bool}:y4 [.s s,.i .i64 p,.b fl]=some (s.length≤1048576,.b (pfA s (spot s p) fl)):=yh (by rintro ⟨a0,a1,a2⟩ ⟨b0,b1,b2⟩ h;simp_all []) (s,p,fl)
theorem ww:PE1 Tryz.prog 101 y4:=yl (by rintro ⟨s,p,fl⟩ hp;exact zp3 s p fl hp)
theorem zvr (s:Bs) (p:Int) (fl:Bool) (hp:s.length≤1048576):PF Tryz.prog 102 [.s s,.i .i64 p,.b fl] (.i .i64 (plE s (spot s p) fl:Nat)):=by
 refine ⟨rfl,rfl,FnK.of (cf:=zk Tryz.prog te [(100,zx),(107,zm),(184,wo),(108,qn),(183,wu),(185,qe)] 79 0 false (fun _=>false) (kp [(0,[0,1,2]),(1,[0,1,2]),(2,[0,1,2,7]),(3,[0,1,2,7,18]),(4,[0,1,2,7,8]),(5,[0,1,2,7,8,9]),(6,[0,1,2,7,63]),(7,[0,1,2,7]),(8,[0,1,7,75]),(9,[0,1,7]),(10,[6])]) [] []) (zf te_ok (l:=[(100,zx),(107,zm),(184,wo),(108,qn),(183,wu),(185,qe)]) (⟨ym,z6,vf,w5,j5,wt,trivial⟩) zc) Tryz.func102 rfl rfl rfl (by simp [zk]) (by simp [zk]) (rs:=[.tmp 6]) rfl 100000 ?_⟩
 simp only [↓XC,XV,XT,Yg,seval,TES,yn,zd,km,zz,yb,z7]
 have h0:=q8 s p
 refine yv.of (ι:={q:Nat // spot s p≤q∧q≤s.length∧pe1 s (spot s p) fl q=pe1 s (spot s p) fl (spot s p)}) (fun x=>⟨[(0,.s s),(1,.i .i64 (spot s p:Nat)),(2,.b fl),(7,.i .i64 (x.1:Nat))],[]⟩) (fun x=>s.length-x.1) ⟨spot s p,Nat.le_refl _,h0,rfl⟩ (Ent.refl _ _) ?_
 rintro ⟨q,hq1,hq2,hw⟩
 simp only [↓XC,XV,XT,Yg,seval,TES,km,zd,z7,zz,yb]
 have e0:((q:Nat)+1:Int).toNat=q+1:=by omega
 have e1:byt s (spot s ((q:Nat)+1:Int))=byt s (q+1):=by rw [vj (by omega),e0]
 have e2:spot s ((q:Int)-1)=q-1:=by unfold spot;omega
 have hB:(byt s q==10||decide (byt s q<0))=isB s q:=rfl
 have hX:(decide (byt s q=35)&&decide ((q:Int)>(spot s p:Nat))&&(byt s (q-1)==32||byt s (q-1)==9)||decide (byt s q=58)&&(gap s (q+1)||fl&&flw (byt s (q+1)))||fl&&flw (byt s q))=peX s (spot s p) fl q:=by
  unfold peX isW
  rw [show decide ((q:Int)>((spot s p:Nat):Int))=decide (spot s p<q) from by rw [decide_eq_decide];omega]
 rw [e1,e0,e2,zu s hq2,hB]
 rw [hX]
 refine Chk.mk hp fun _=>⟨fun hb=>?_,fun hb=>?_⟩
 ·have hbf:isB s q=false:=by simpa using hb
  have hl:=zdf hbf
  refine Chk.mk hp fun _=>Chk.mk (by simp only [inR];omega) fun _=>Chk.mk ⟨hp,by omega⟩ fun _=>Chk.mk (fun _=>by simp only [inR];omega) fun _=>Chk.mk (fun h=>⟨⟨h,h⟩,hp⟩) fun _=>Chk.mk (fun h=>by simp only [inR];omega) fun _=>Chk.mk (fun h=>⟨⟨h,h⟩,hp⟩) fun _=>⟨fun hx=>?_,fun hx=>Chk.mk (by simp only [inR];omega) fun _=>⟨⟨q+1,by omega,by omega,by rw [←pe1_t ⟨hbf,hx⟩];exact hw⟩,by simp only;omega,(by first | exact Ent.refl _ _ | (simp only [Int.natCast_add,Int.natCast_one];exact Ent.refl _ _))⟩⟩
  have hf:¬(isB s q=false∧peX s (spot s p) fl q=false):=by rw [hx];simp
  refine yv.of (ι:={q:Nat // spot s p≤q∧q≤s.length∧bkW s (spot s p) q=plE s (spot s p) fl}) (fun x=>⟨[(0,.s s),(1,.i .i64 (spot s p:Nat)),(7,.i .i64 (x.1:Nat))],[]⟩) (fun x=>x.1) ⟨q,hq1,hq2,by rw [plE,←hw,pe1_f hf]⟩ (by (try simp only [Int.natCast_add,Int.natCast_one]);exact Ent.nil (by simp [zi,Vg.look,SV.mapH])) ?_
  rintro ⟨k,hk1,hk2,hk⟩
  simp only [↓XC,XV,XT,Yg,seval,TES,z7,zd]
  have e4:spot s ((k:Int)-1)=k-1:=by unfold spot;omega
  have hX:(decide ((k:Int)>(spot s p:Nat))&&(byt s (k-1)==32||byt s (k-1)==9))=decide (spot s p<k∧isW s (k-1)=true):=by
   rw [Bool.eq_iff_iff,Bool.and_eq_true,decide_eq_true_eq,decide_eq_true_eq,gt_iff_lt,Int.ofNat_lt]
   rfl
  rw [e4,hX]
  refine Chk.mk (fun h=>by simp only [inR];omega) fun _=>Chk.mk (fun h=>⟨⟨h,h⟩,hp⟩) fun _=>⟨fun h=>?_,fun h=>?_⟩
  ·have h1:=of_decide_eq_true h
   refine Chk.mk (by simp only [inR];omega) fun _=>⟨⟨k-1,by omega,by omega,by rw [←bkW_t h1.1 h1.2];exact hk⟩,by simp only;omega, ?_⟩
   rw [show ((k:Int)-1)=((k-1:Nat):Int) by omega]
   exact Ent.refl _ _
  ·rw [←hk,bkW_f (of_decide_eq_false h)]
 ·have hbt:isB s q=true:=by simpa using hb
  have hf:¬(isB s q=false∧peX s (spot s p) fl q=false):=by rw [hbt];simp
  refine yv.of (ι:={q:Nat // spot s p≤q∧q≤s.length∧bkW s (spot s p) q=plE s (spot s p) fl}) (fun x=>⟨[(0,.s s),(1,.i .i64 (spot s p:Nat)),(7,.i .i64 (x.1:Nat))],[]⟩) (fun x=>x.1) ⟨q,hq1,hq2,by rw [plE,←hw,pe1_f hf]⟩ (by (try simp only [Int.natCast_add,Int.natCast_one]);exact Ent.nil (by simp [zi,Vg.look,SV.mapH])) ?_
  rintro ⟨k,hk1,hk2,hk⟩
  simp only [↓XC,XV,XT,Yg,seval,TES,z7,zd]
  have e4:spot s ((k:Int)-1)=k-1:=by unfold spot;omega
  have hX:(decide ((k:Int)>(spot s p:Nat))&&(byt s (k-1)==32||byt s (k-1)==9))=decide (spot s p<k∧isW s (k-1)=true):=by
   rw [Bool.eq_iff_iff,Bool.and_eq_true,decide_eq_true_eq,decide_eq_true_eq,gt_iff_lt,Int.ofNat_lt]
   rfl
  rw [e4,hX]
  refine Chk.mk (fun h=>by simp only [inR];omega) fun _=>Chk.mk (fun h=>⟨⟨h,h⟩,hp⟩) fun _=>⟨fun h=>?_,fun h=>?_⟩
  ·have h1:=of_decide_eq_true h
   refine Chk.mk (by simp only [inR];omega) fun _=>⟨⟨k-1,by omega,by omega,by rw [←bkW_t h1.1 h1.2];exact hk⟩,by simp only;omega, ?_⟩
   rw [show ((k:Int)-1)=((k-1:Nat):Int) by omega]
   exact Ent.refl _ _
  ·rw [←hk,bkW_f (of_decide_eq_false h)]
noncomputable def wx:PE:=peR (fun (x:Bs×Int×Bool)=>match x with | (s,p,fl)=>[.s s,.i .i64 p,.b fl]) (fun (x:Bs×Int×Bool)=>match x with | (s,p,fl)=>s.length≤1048576) (fun (x:Bs×Int×Bool)=>match x with | (s,p,fl)=>.i .i64 (plE s (spot s p) fl:Nat))
theorem ws {s:Bs} {p:Int} {fl:Bool}:wx [.s s,.i .i64 p,.b fl]=some (s.length≤1048576,.i .i64 (plE s (spot s p) fl:Nat)):=yh (by rintro ⟨a0,a1,a2⟩ ⟨b0,b1,b2⟩ h;simp_all []) (s,p,fl)
theorem xo:PE1 Tryz.prog 102 wx:=yl (by rintro ⟨s,p,fl⟩ hp;exact zvr s p fl hp)
end Go.T
end
section
set_option linter.unusedVariables false
set_option linter.unusedSimpArgs false
set_option linter.unusedSectionVars false
set_option linter.unnecessarySimpa false
namespace Go.T
variable [Go.Vg.Glob]
open Go.Proofs Go.Vg Go.RowKit Go.TT Go.Pl
set_option maxRecDepth 10000
set_option maxHeartbeats 4000000
theorem zrc (r:Int):PF Tryz.prog 271 [.i .i64 r] (.s (rnB r)):=by
 refine ⟨rfl,rfl,FnK.of (cf:=zk Tryz.prog te [(147,qr)] 13 0 false (fun _=>false) (kp [(0,[0]),(1,[0,9]),(2,[2]),(3,[2])]) [] []) (zf te_ok (l:=[(147,qr)]) (⟨kb,trivial⟩) zc) Tryz.func271 rfl rfl rfl (by simp [zk]) (by simp [zk]) (rs:=[.tmp 2]) rfl 100000 ?_⟩
 simp only [↓XC,XV,XT,Yg,seval,TES,wa]
 refine ⟨fun h=>?_,fun h=>?_⟩
 ·rw [zln (by simp only [Yi] at h;omega)]
 ·have hv:¬(r<0∨1114111<r∨(55296≤r∧r≤57343)):=by simp only [Yi] at h;omega
  exact Chk.mk (by simp only [inR];omega) fun _=>by rw [zzn hv]
noncomputable def xa:PE:=peR (fun (r:Int)=>[.i .i64 r]) (fun (r:Int)=>True) (fun (r:Int)=>.s (rnB r))
theorem ze5 {r:Int}:xa [.i .i64 r]=some (True,.s (rnB r)):=yh (by rintro a b h;simp_all []) r
theorem ze4:PE1 Tryz.prog 271 xa:=yl (by rintro r hp;exact zrc r)
theorem zql (b:Int) (hp : -1≤b∧b≤255):PF Tryz.prog 270 [.i .i64 b] (.i .i64 (shE b)):=by
 refine ⟨rfl,rfl,FnK.of (cf:=zk Tryz.prog te [] 42 0 false (fun _=>false) (kp [(0,[0]),(1,[0,3]),(2,[0,3,4]),(3,[2]),(4,[0,3,6]),(5,[0,3,6]),(6,[2]),(7,[0,3,12]),(8,[0,3,12]),(9,[2]),(10,[0,3,15]),(11,[2]),(12,[0,3,17]),(13,[0,3,17]),(14,[2]),(15,[0,3,24]),(16,[2]),(17,[0,3,26]),(18,[2]),(19,[0,3,28]),(20,[0,3,28]),(21,[0,3,28]),(22,[0,3,28]),(23,[2]),(24,[3,34]),(25,[2]),(26,[3,36]),(27,[2]),(28,[3,38]),(29,[2]),(30,[40]),(31,[2]),(32,[2])]) [] []) (zf te_ok (l:=[]) (trivial) zc) Tryz.func270 rfl rfl rfl (by simp [zk]) (by simp [zk]) (rs:=[.tmp 2]) rfl 100000 ?_⟩
 simp only [↓XC,XV,XT,Yg,seval,TES]
 repeat' (first | with_reducible refine Chk.mk ?_ fun _=>?_ | with_reducible refine And.intro ?_ ?_ | intro _)
 all_goals first
  | (simp only [inR];omega)
  | omega
  | (exfalso;omega)
  | (subst_vars;rfl)
  | (rw [zwr (by omega)])
noncomputable def v6:PE:=peR (fun (b:Int)=>[.i .i64 b]) (fun (b:Int) => -1≤b∧b≤255) (fun (b:Int)=>.i .i64 (shE b))
theorem ze0 {b:Int}:v6 [.i .i64 b]=some (-1≤b∧b≤255,.i .i64 (shE b)):=yh (by rintro a b h;simp_all []) b
theorem zez:PE1 Tryz.prog 270 v6:=yl (by rintro b hp;exact zql b hp)
theorem hexValue (s:Bs) (p m:Int) (hp:s.length≤1048576∧0≤p∧p≤s.length+9∧0≤m∧m≤8):PF Tryz.prog 272 [.s s,.i .i64 p,.i .i64 m] (.tup [.i .i64 (if (hxV s p.toNat m.toNat 0)<0 then 0 else (hxV s p.toNat m.toNat 0)),.b (decide (0≤(hxV s p.toNat m.toNat 0)))]):=by
 refine ⟨rfl,rfl,FnK.of (cf:=zk Tryz.prog te [(107,zm),(147,qr)] 48 0 false (fun _=>false) (kp [(0,[0,1,2]),(1,[0,1,2,8]),(2,[0,1,8,11,12]),(3,[0,1,8,11,12,13]),(4,[0,1,8,9,11,12]),(5,[0,1,8,10,11,12]),(6,[6,7]),(7,[0,1,8,10,11,12,20]),(8,[0,1,8,11,12]),(9,[0,1,8,10,11,12,28]),(10,[0,1,8,11,12]),(11,[0,1,8,10,11,12,37]),(12,[0,1,8,11,12]),(13,[0,1,8,11,12]),(14,[6,7])]) [] []) (zf te_ok (l:=[(107,zm),(147,qr)]) (⟨z6,kb,trivial⟩) zc) Tryz.func272 rfl rfl rfl (by simp [zk]) (by simp [zk]) (rs:=[.tmp 6,.tmp 7]) rfl 100000 ?_⟩
 simp only [↓XC,XV,XT,Yg,seval,TES,zd,wa]
 refine yv.of (ι:={x:Nat×Nat // x.1≤m.toNat∧x.2<16 ^ x.1∧hxV s (p.toNat+x.1) (m.toNat-x.1) x.2=hxV s p.toNat m.toNat 0}) (fun x=>⟨[(0,.s s),(1,.i .i64 p),(8,.i .i64 (x.1.2:Nat)),(11,.i .i64 m),(12,.i .i64 (x.1.1:Nat))],[]⟩) (fun x=>m.toNat-x.1.1) ⟨(0,0),Nat.zero_le _,by decide,rfl⟩ (Ent.refl _ _) ?_
 rintro ⟨⟨i,a⟩,hi,ha,hv⟩
 simp only [↓XC,XV,XT,Yg,seval,TES,zd,wa]
 simp only at hi ha hv
 have h16:=hx16 (i:=i) (by omega)
 refine ⟨fun h=>Chk.mk (by simp only [inR];omega) fun _=>Chk.mk hp.1 fun _=>?_,fun h=>?_⟩
 ·have hb:byt s (spot s (p+(i:Nat)))=byt s (p.toNat+i):=by rw [vj (by omega)];congr 1;omega
  rw [hb]
  obtain ⟨b,hbe⟩:∃ b,byt s (p.toNat+i)=b:=⟨_,rfl⟩
  rw [hbe]
  refine ⟨fun h1=>?_,fun h1=>⟨fun h2=>?_,fun h2=>⟨fun h3=>?_,fun h3=>?_⟩⟩⟩
  ·simp only [Yi] at h1
   have hd:hxD b=b-48:=by first | exact hxD_1 (by omega) (by omega) | exact hxD_2 (by omega) (by omega) | exact hxD_3 (by omega) (by omega)
   have hs:=zmm (s:=s) (p:=p.toNat+i) (n:=m.toNat-(i+1)) (a:=a) (by rw [hbe,hd];omega)
   rw [show m.toNat-(i+1)+1=m.toNat-i by omega,hv,hbe,hd] at hs
   refine Chk.mk (by simp only [inR];omega) fun _=>Chk.mk (by simp only [inR];omega) fun _=>Chk.mk (by simp only [inR];omega) fun _=>Chk.mk (by simp only [inR];omega) fun _=>⟨⟨(i+1,(16 * (a:Int)+(b-48)).toNat),by simp only;omega,by simp only [Nat.pow_succ];omega,by simp only;rw [hs,←Nat.add_assoc];congr 1;omega⟩,by simp only;omega, ?_⟩
   rw [show ((16:Int) * a+b-48)=(((16 * (a:Int)+(b-48)).toNat:Nat):Int) by omega];exact (by first | exact Ent.refl _ _ | (simp only [Int.natCast_add,Int.natCast_one];exact Ent.refl _ _))
  ·simp only [Yi] at h2
   have hd:hxD b=b-97+10:=by first | exact hxD_1 (by omega) (by omega) | exact hxD_2 (by omega) (by omega) | exact hxD_3 (by omega) (by omega)
   have hs:=zmm (s:=s) (p:=p.toNat+i) (n:=m.toNat-(i+1)) (a:=a) (by rw [hbe,hd];omega)
   rw [show m.toNat-(i+1)+1=m.toNat-i by omega,hv,hbe,hd] at hs
   refine Chk.mk (by simp only [inR];omega) fun _=>Chk.mk (by simp only [inR];omega) fun _=>Chk.mk (by simp only [inR];omega) fun _=>Chk.mk (by simp only [inR];omega) fun _=>Chk.mk (by simp only [inR];omega) fun _=>⟨⟨(i+1,(16 * (a:Int)+(b-97+10)).toNat),by simp only;omega,by simp only [Nat.pow_succ];omega,by simp only;rw [hs,←Nat.add_assoc];congr 1;omega⟩,by simp only;omega, ?_⟩
   rw [show ((16:Int) * a+b-97+10)=(((16 * (a:Int)+(b-97+10)).toNat:Nat):Int) by omega];exact (by first | exact Ent.refl _ _ | (simp only [Int.natCast_add,Int.natCast_one];exact Ent.refl _ _))
  ·simp only [Yi] at h3
   have hd:hxD b=b-65+10:=by first | exact hxD_1 (by omega) (by omega) | exact hxD_2 (by omega) (by omega) | exact hxD_3 (by omega) (by omega)
   have hs:=zmm (s:=s) (p:=p.toNat+i) (n:=m.toNat-(i+1)) (a:=a) (by rw [hbe,hd];omega)
   rw [show m.toNat-(i+1)+1=m.toNat-i by omega,hv,hbe,hd] at hs
   refine Chk.mk (by simp only [inR];omega) fun _=>Chk.mk (by simp only [inR];omega) fun _=>Chk.mk (by simp only [inR];omega) fun _=>Chk.mk (by simp only [inR];omega) fun _=>Chk.mk (by simp only [inR];omega) fun _=>⟨⟨(i+1,(16 * (a:Int)+(b-65+10)).toNat),by simp only;omega,by simp only [Nat.pow_succ];omega,by simp only;rw [hs,←Nat.add_assoc];congr 1;omega⟩,by simp only;omega, ?_⟩
   rw [show ((16:Int) * a+b-65+10)=(((16 * (a:Int)+(b-65+10)).toNat:Nat):Int) by omega];exact (by first | exact Ent.refl _ _ | (simp only [Int.natCast_add,Int.natCast_one];exact Ent.refl _ _))
  ·simp only [Yi] at h1
   simp only [Yi] at h2
   simp only [Yi] at h3
   have hs:=hxV_neg (s:=s) (p:=p.toNat+i) (n:=m.toNat-(i+1)) (a:=a) (by rw [hbe,hxD_n (by omega) (by omega) (by omega)];decide)
   rw [show m.toNat-(i+1)+1=m.toNat-i by omega,hv] at hs
   rw [hs];rfl
 ·have hs:hxV s p.toNat m.toNat 0=a:=by rw [←hv,show m.toNat-i=0 by omega];rfl
  rw [hs,if_neg (by omega)]
  simp
noncomputable def za2:PE:=peR (fun (x:Bs×Int×Int)=>match x with | (s,p,m)=>[.s s,.i .i64 p,.i .i64 m]) (fun (x:Bs×Int×Int)=>match x with | (s,p,m)=>s.length≤1048576∧0≤p∧p≤s.length+9∧0≤m∧m≤8) (fun (x:Bs×Int×Int)=>match x with | (s,p,m)=>.tup [.i .i64 (if (hxV s p.toNat m.toNat 0)<0 then 0 else (hxV s p.toNat m.toNat 0)),.b (decide (0≤(hxV s p.toNat m.toNat 0)))])
theorem zi3 {s:Bs} {p m:Int}:za2 [.s s,.i .i64 p,.i .i64 m]=some (s.length≤1048576∧0≤p∧p≤s.length+9∧0≤m∧m≤8,.tup [.i .i64 (if (hxV s p.toNat m.toNat 0)<0 then 0 else (hxV s p.toNat m.toNat 0)),.b (decide (0≤(hxV s p.toNat m.toNat 0)))]):=yh (by rintro ⟨a0,a1,a2⟩ ⟨b0,b1,b2⟩ h;simp_all []) (s,p,m)
theorem zi2:PE1 Tryz.prog 272 za2:=yl (by rintro ⟨s,p,m⟩ hp;exact hexValue s p m hp)
theorem mp_hx (b:Int):(lookS (zbh (zbh (zbh [] (120:Int) 2) 117 4) 85 8) b).getD 0=(hxN b:Int):=by
 unfold hxN
 by_cases h1:b=120
 ·subst h1;rfl
 by_cases h2:b=117
 ·subst h2;rfl
 by_cases h3:b=85
 ·subst h3;rfl
 rw [if_neg h1,if_neg h2,if_neg h3]
 have e1:¬(120:Int)=b:=fun e=>h1 e.symm
 have e2:¬(117:Int)=b:=fun e=>h2 e.symm
 have e3:¬(85:Int)=b:=fun e=>h3 e.symm
 simp [zbh,lookS,e1,e2,e3]
theorem zvx (s:Bs) (p:Int) (hp:s.length≤1048576):PF Tryz.prog 241 [.s s,.i .i64 p] (.tup [.s (esA s (spot s p)).1,.i .i64 ((esA s (spot s p)).2:Nat)]):=by
 refine ⟨rfl,rfl,FnK.of (cf:=zk Tryz.prog te [(100,zx),(107,zm),(270,v6),(271,xa),(272,za2)] 67 0 false (fun _=>false) (kp [(0,[0,1]),(1,[0,1]),(2,[0,1,25]),(3,[4,5]),(4,[0,1,6]),(5,[0,1,6,7]),(6,[0,1,6,7,33]),(7,[4,5]),(8,[0,1,8]),(9,[1,8,9,10]),(10,[1,8,10,11]),(11,[1,8,11,61]),(12,[4,5]),(13,[4,5])]) [] []) (zf te_ok (l:=[(100,zx),(107,zm),(270,v6),(271,xa),(272,za2)]) (⟨ym,z6,zez,ze4,zi2,trivial⟩) zc) Tryz.func241 rfl rfl rfl (by simp [zk]) (by simp [zk]) (rs:=[.tmp 4,.tmp 5]) rfl 100000 ?_⟩
 simp only [↓XC,XV,XT,Yg,seval,TES,yn,zd,ze0,ze5,zi3]
 have h0:=q8 s p
 rw [zu s h0]
 have e0:((spot s p:Nat)+1:Int).toNat=spot s p+1:=by omega
 have e1:byt s (spot s ((spot s p:Nat)+1:Int))=byt s (spot s p+1):=by rw [vj (by omega),e0]
 have e2:((spot s p:Nat)+2:Int).toNat=spot s p+2:=by omega
 rw [e1,e2]
 simp only [mp_hx,Int.toNat_natCast]
 generalize spot s p=q at *
 have hr:=zcf s (q+1)
 have hn:=hxN_le (byt s (q+1))
 refine Chk.mk hp fun _=>Chk.mk (fun _=>by simp only [inR];omega) fun _=>⟨fun h=>?_,fun h=>Chk.mk (by simp only [inR];omega) fun _=>Chk.mk hp fun _=>Chk.mk hr fun _=>?_⟩
 ·rw [esA_bad (by simp only [Yi] at h;omega)];rfl
 have hb:byt s q=92∧q+1<s.length:=by simp only [Yi] at h;omega
 refine ⟨fun h1=>Chk.mk (by simp only [inR];omega) fun _=>?_,fun h1=>Chk.mk (by simp only [inR];omega) fun _=>Chk.mk ⟨hp,by omega,by omega,by omega,by omega⟩ fun _=>⟨fun h2=>?_,fun h2=>Chk.mk (by simp only [inR];omega) fun _=>Chk.mk (by simp only [inR];omega) fun _=>?_⟩⟩
 ·rw [zzj hb h1];simp
 ·rw [esA_no hb h1];rfl
  simp only [Yi] at h2
  rcases h2 with (h2 | h2) | h2
  ·exact .inl (by omega)
  ·exact .inr (zln (.inl h2))
  ·right
   by_cases h3:hxV s (q+2) (hxN (byt s (q+1))) 0<0
   ·exact zln (.inl h3)
   ·rw [if_neg h3] at h2;exact h2
 ·simp only [Yi] at h2
  rw [if_neg (by omega)] at h2 ⊢
  rw [esA_hex hb h1 (by rintro (h3 | h3);exact h2.1.1 (by omega);exact h2.2 h3)]
  simp
noncomputable def ua:PE:=peR (fun (x:Bs×Int)=>match x with | (s,p)=>[.s s,.i .i64 p]) (fun (x:Bs×Int)=>match x with | (s,p)=>s.length≤1048576) (fun (x:Bs×Int)=>match x with | (s,p)=>.tup [.s (esA s (spot s p)).1,.i .i64 ((esA s (spot s p)).2:Nat)])
theorem zbp {s:Bs} {p:Int}:ua [.s s,.i .i64 p]=some (s.length≤1048576,.tup [.s (esA s (spot s p)).1,.i .i64 ((esA s (spot s p)).2:Nat)]):=yh (by rintro ⟨a0,a1⟩ ⟨b0,b1⟩ h;simp_all []) (s,p)
theorem zgf:PE1 Tryz.prog 241 ua:=yl (by rintro ⟨s,p⟩ hp;exact zvx s p hp)
end Go.T
end
