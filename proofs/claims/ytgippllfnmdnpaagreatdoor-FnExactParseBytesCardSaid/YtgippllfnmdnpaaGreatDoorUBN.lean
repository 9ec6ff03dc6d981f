/- Own text: part UBN. -/
import Derived.Test.YtgippllfnmdnpaaGreatDoorUBC
import Derived.Test.YtgippllfnmdnpaaGreatDoorUBL
import Derived.Test.YtgippllfnmdnpaaGreatDoorUBM
import Derived.Test.YtgippllfnmdnpaaGreatDoorUAS
import Derived.Test.YtgippllfnmdnpaaGreatDoorUBG
import Derived.Test.YtgippllfnmdnpaaGreatDoorUAU
set_option linter.all false
section
namespace Go.T
variable [Go.Vg.Glob] [Go.Vg.GlobTabs 0 1]
open Go.Proofs Go.Vg Go.RowKit Go.TT Go.Pl
set_option maxRecDepth 10000
set_option maxHeartbeats 4000000
theorem Normal_i (b:Bs) (hp:b.length≤1048576):PF Tryz.prog 114 [.fs 1 (b.map j7)] (.tup [.s (nmB b).1,.i .i64 (nmB b).2]):=by
 refine HPx zei.d 75 [[0],[0,10],[2,3],[0,31],[0],[0,4],[0,4,35,36,37],[0,4,35,36,37,38],[0,4,5,6,35,36,37],[0,4,5,6,35,36,37,42],[0,4,35,36,37],[0,4,35,36,37,49],[0,4,35,36,37],[0,4,35,36,37],[7],[7,73],[2,3],[2,3]] Tryz.func114 [.tmp 2,.tmp 3] (fun _=>false) [5] [] ?_;simp only [↓XC,X1,seval,TES,xw,XRE,XR,XRH,XM,zp];have hbm:(decide (((b.length:Nat):Int)≥3)&&decide ((((b.getD 0 0).toNat:Nat):Int)=239)&&decide ((((b.getD 1 0).toNat:Nat):Int)=187)&&decide ((((b.getD 2 0).toNat:Nat):Int)=191))=bom b:=by
  have hu:∀ (x:UInt8) (n:Nat),n<256→(decide (((x.toNat:Nat):Int)=(n:Nat))=decide (x=UInt8.ofNat n)):=fun x n hn=>by rw [Bool.eq_iff_iff,decide_eq_true_eq,decide_eq_true_eq,←UInt8.toNat_inj,UInt8.toNat_ofNat'];omega
  have h1:=hu (b.getD 0 0) 239 (by decide);have h2:=hu (b.getD 1 0) 187 (by decide);have h3:=hu (b.getD 2 0) 191 (by decide);have h0:decide (((b.length:Nat):Int)≥3)=decide (3≤b.length):=by rw [Bool.eq_iff_iff,decide_eq_true_eq,decide_eq_true_eq];omega
  unfold bom;exact (by rw [h0];exact congr (congrArg _ (congr (congrArg _ (congr (congrArg _ rfl) h1)) h2)) h3)
 refine ⟨fun h=>?_,fun h=>?_⟩
 ·have e:nmB b=([],1):=by unfold nmB;rw [if_pos (by omega)]
  rw [e]
 have h6:b.length≤60000:=by omega
 have hz:=zn3 b;refine zav.of (ι:={c:Bs // c=if bom b=true then b.drop 3 else b}) (fun c=>⟨[(0,.fs 1 (c.1.map j7))],[]⟩) ?_ ?_
 ·simp only [↓XC,X1,seval,TES,XRE,XR,XRH,XM,zp];rw [hbm];refine Chk.mk (fun _=>by omega) fun _=>Chk.mk (fun h=>by simp only [Bool.and_eq_true,decide_eq_true_eq] at h;omega) fun _=>Chk.mk (fun h=>by simp only [Bool.and_eq_true,decide_eq_true_eq] at h;omega) fun _=>⟨fun h1=>Chk.mk (by simp only [bom,Bool.and_eq_true,decide_eq_true_eq] at h1;omega) fun _=>⟨⟨b.drop 3,by rw [if_pos h1]⟩, ?_⟩,fun h1=>⟨⟨b,by rw [if_neg (by rw [h1];simp)]⟩,(Ent.ren1 [] (by decide) (by simp only [kf]) (by simp [ze,Vg.look,SV.mapH,muL]))⟩⟩
  rw [List.take_of_length_le (by simp),List.map_drop];exact (Ent.ren1 [] (by decide) (by simp only [kf]) (by simp [ze,Vg.look,SV.mapH,muL]))
 rintro ⟨c,hc⟩;have hS:zsn b=nrm c:=by unfold zsn;rw [hc]
 have hcl:c.length≤b.length:=by rw [hc];split<;>simp
 simp only [↓XC,X1,seval,TES,xw,XRE,XR,XRH,XM,zp];refine zl.of (ι:={x:Nat×Bs // x.1≤c.length∧x.2.length≤x.1∧x.2++nrm (c.drop x.1)=nrm c}) (fun x=>⟨[(0,.fs 1 (c.map j7)),(4,.slc 0 0 x.1.2.length),(35,.fs 1 (c.map j7)),(36,.i .i64 (c.length:Nat)),(37,.i .i64 (x.1.1:Nat))],[some (.row false 1 x.1.2.length (zu j7 0 x.1.2))]⟩) (fun x=>c.length-x.1.1) ⟨(0,[]),Nat.zero_le _,Nat.le_refl _,rfl⟩ (by exact (Ent.ren1 [0] (by decide) (by simp only [Yd];exact yi fun j hj=>absurd hj (Nat.not_lt_zero _)) (by simp [ze,Vg.look,SV.mapH,muL]))) ?_;rintro ⟨⟨i,L⟩,hi,hL,hN⟩;simp only [↓XC,X1,seval,TES,xw,XRE,XR,XRH,XM,zp];simp only at hi hL hN;have hub:=(c.getD i 0).toNat_lt;have hub2:=(c.getD (i+1) 0).toNat_lt;have e1:((i:Int)+1).toNat=i+1:=by omega
 rw [e1];have hD:∀ h:i<c.length,(c.getD i 0≠13↔(!decide ((((c.getD i 0).toNat:Nat):Int)=13))=true):=fun h=>by
  rw [Bool.not_eq_true',decide_eq_false_iff_not];constructor
  ·intro h1 h2;exact h1 (UInt8.toNat_inj.1 (by have e:(13:UInt8).toNat=13:=rfl;omega))
  ·intro h1 h2;rw [h2] at h1;exact h1 rfl
 have hT:(c.getD (i+1) 0=10↔((((c.getD (i+1) 0).toNat:Nat):Int)=10)):=by
  constructor
  ·intro h1;rw [h1];rfl
  ·intro h1;exact UInt8.toNat_inj.1 (by have e:(10:UInt8).toNat=10:=rfl;omega)
 have hO:¬i+1<c.length→c.getD (i+1) 0=0:=fun h=>by rw [List.getD_eq_getElem?_getD,List.getElem?_eq_none (by omega)];rfl
 refine ⟨fun hl=>CO fun _=>?_,fun hl=>?_⟩
 ·have hl2:i<c.length:=by omega
  refine ⟨fun h1=>⟨z2 rfl rfl,CO fun _=>CR fun _=>?_⟩,fun h1=>CR fun _=>Chk.mk (fun _=>by simp only [inR];omega) fun _=>Chk.mk (fun h=>by simp at h;omega) fun _=>⟨fun h2=>⟨z2 rfl rfl,CO fun _=>CR fun _=>?_⟩,fun h2=>CR fun _=>?_⟩⟩
  ·refine ⟨⟨(i+1,L++[c.getD i 0]),by simp only;omega,by simp only [List.length_append,List.length_singleton];omega, ?_⟩,by simp only;omega, ?_⟩
   ·simp only;rw [List.append_assoc,←hN,zca hl2,if_pos ((hD hl2).2 h1)];rfl
   ·simp only [List.length_append,List.length_singleton,Int.natCast_add,Int.natCast_one];exact (Ent.ren1 [2] (by decide) (by simp only [Yd];exact jn L (c.getD i 0) 1 (fun _=>rfl) (fun _ _=>rfl) rfl rfl) (by simp [ze,Vg.look,SV.mapH,muL]))
  ·have k1:¬c.getD i 0≠13:=fun h=>by rw [(hD hl2).1 h] at h1;cases h1
   have k2:¬c.getD (i+1) 0=10:=fun h=>by
    simp only [Bool.or_eq_true,decide_eq_true_eq,Bool.not_eq_true',decide_eq_false_iff_not] at h2;rcases h2 with h2 | h2
    ·rw [hO (by omega)] at h;cases h
    ·exact h2 (hT.1 h)
   refine ⟨⟨(i+1,L++[10]),by simp only;omega,by simp only [List.length_append,List.length_singleton];omega, ?_⟩,by simp only;omega, ?_⟩
   ·simp only;rw [List.append_assoc,←hN,zca hl2,if_neg k1,if_neg k2];rfl
   ·simp only [List.length_append,List.length_singleton,Int.natCast_add,Int.natCast_one];exact (Ent.ren1 [2] (by decide) (by simp only [Yd];exact jn L (10) 1 (fun _=>rfl) (fun _ _=>rfl) rfl rfl) (by simp [ze,Vg.look,SV.mapH,muL]))
  ·have k1:¬c.getD i 0≠13:=fun h=>by rw [(hD hl2).1 h] at h1;cases h1
   have k2:c.getD (i+1) 0=10:=by simp only [Bool.or_eq_false_iff,Bool.not_eq_false',decide_eq_true_eq] at h2;exact hT.2 h2.2
   exact ⟨⟨(i+1,L),by simp only;omega,by simp only;omega,by rw [←hN,zca hl2,if_neg k1,if_pos k2]⟩,by simp only;omega,(by first | exact Ent.refl _ _ | (simp only [Int.natCast_add,Int.natCast_one];exact Ent.refl _ _))⟩
 ·have hie:i=c.length:=by omega
  have eL:L=zsn b:=by rw [hS,←hN,hie,List.drop_length];simp [nrm]
  rw [eL];rw [eL] at hL;refine ⟨fun _ _=>rfl,Chk.mk (Nat.le_refl _) fun _=>?_⟩;rw [xq];refine CO fun _=>⟨fun h7=>?_,fun h7=>?_⟩
  ·have e:nmB b=([],2):=by unfold nmB;rw [if_neg (by omega),if_pos (by simp at h7;omega)]
   rw [e]
  ·have e:nmB b=(zsn b,0):=by unfold nmB;rw [if_neg (by omega),if_neg (by simp at h7;omega)]
   rw [e]
noncomputable def zin:PE:=peR (fun (b:Bs)=>[.fs 1 (b.map j7)]) (fun (b:Bs)=>b.length≤1048576) (fun (b:Bs)=>.tup [.s (nmB b).1,.i .i64 (nmB b).2])
theorem zki {b:Bs}:zin [.fs 1 (b.map j7)]=some (b.length≤1048576,.tup [.s (nmB b).1,.i .i64 (nmB b).2]):=yg (by rintro a b h;simp_all [zof]) b
theorem zkh:PE1 Tryz.prog 114 zin:=yo (by rintro b hp;exact Normal_i b hp)
theorem Normal_s (b:Bs) (hp:b.length≤1048576):PF Tryz.prog 113 [.fs 1 (b.map j7)] (.tup [.s (nmB b).1,.i .i64 (nmB b).2]):=by
 refine HPx zeh.d 74 [[0],[0,9],[2,3],[0,4],[0,4,30],[0,4],[0,4,5],[0,4,5,35],[0,4,5],[0,4,5,42],[0,4,5],[0,4,5,62],[0,4,5],[6],[6,72],[2,3],[2,3]] Tryz.func113 [.tmp 2,.tmp 3] (fun _=>false) [6] [] ?_;simp only [↓XC,X1,seval,TES,xv,XRE,XR,XRH,XM,zp];have hbm:(decide (((b.length:Nat):Int)≥3)&&decide ((((b.getD 0 0).toNat:Nat):Int)=239)&&decide ((((b.getD 1 0).toNat:Nat):Int)=187)&&decide ((((b.getD 2 0).toNat:Nat):Int)=191))=bom b:=by
  have hu:∀ (x:UInt8) (n:Nat),n<256→(decide (((x.toNat:Nat):Int)=(n:Nat))=decide (x=UInt8.ofNat n)):=fun x n hn=>by rw [Bool.eq_iff_iff,decide_eq_true_eq,decide_eq_true_eq,←UInt8.toNat_inj,UInt8.toNat_ofNat'];omega
  have h1:=hu (b.getD 0 0) 239 (by decide);have h2:=hu (b.getD 1 0) 187 (by decide);have h3:=hu (b.getD 2 0) 191 (by decide);have h0:decide (((b.length:Nat):Int)≥3)=decide (3≤b.length):=by rw [Bool.eq_iff_iff,decide_eq_true_eq,decide_eq_true_eq];omega
  unfold bom;exact (by rw [h0];exact congr (congrArg _ (congr (congrArg _ (congr (congrArg _ rfl) h1)) h2)) h3)
 refine ⟨fun h=>?_,fun h=>?_⟩
 ·have e:nmB b=([],1):=by unfold nmB;rw [if_pos (by omega)]
  rw [e]
 have h6:b.length≤60000:=by omega
 have hz:=zn3 b;refine zav.of (ι:={i:Nat // i=if bom b=true then 3 else 0}) (fun i=>⟨[(0,.fs 1 (b.map j7)),(4,.i .i64 (i.1:Nat))],[]⟩) ?_ ?_
 ·simp only [↓XC,X1,seval,TES,XRE,XR,XRH,XM,zp];rw [hbm];refine Chk.mk (fun _=>by omega) fun _=>Chk.mk (fun h=>by simp only [Bool.and_eq_true,decide_eq_true_eq] at h;omega) fun _=>Chk.mk (fun h=>by simp only [Bool.and_eq_true,decide_eq_true_eq] at h;omega) fun _=>⟨fun h1=>⟨⟨3,by rw [if_pos h1]⟩,(Ent.ren1 [] (by decide) (by simp only [kf]) (by simp [ze,Vg.look,SV.mapH,muL]))⟩,fun h1=>⟨⟨0,by rw [if_neg (by rw [h1];simp)]⟩,(Ent.ren1 [] (by decide) (by simp only [kf]) (by simp [ze,Vg.look,SV.mapH,muL]))⟩⟩
 rintro ⟨i0,hi0⟩;have hS:[]++nrm (b.drop i0)=zsn b:=by unfold zsn;rw [hi0];split<;>simp
 have hil:i0≤b.length:=by
  rw [hi0];split
  ·rename_i h9;simp only [bom,Bool.and_eq_true,decide_eq_true_eq] at h9;omega
  ·omega
 simp only [↓XC,X1,seval,TES,xv,XRE,XR,XRH,XM,zp];refine zl.of (ι:={x:Nat×Bs // x.1≤b.length∧x.2.length≤x.1∧x.2++nrm (b.drop x.1)=zsn b}) (fun x=>⟨[(0,.fs 1 (b.map j7)),(4,.i .i64 (x.1.1:Nat)),(5,.slc 0 0 x.1.2.length)],[some (.row false 1 x.1.2.length (zu j7 0 x.1.2))]⟩) (fun x=>b.length-x.1.1) ⟨(i0,[]),hil,Nat.zero_le _,hS⟩ (by exact (Ent.ren1 [0] (by decide) (by simp only [Yd];exact yi fun j hj=>absurd hj (Nat.not_lt_zero _)) (by simp [ze,Vg.look,SV.mapH,muL]))) ?_;rintro ⟨⟨i,L⟩,hi,hL,hN⟩;simp only [↓XC,X1,seval,TES,xv,XRE,XR,XRH,XM,zp];simp only at hi hL hN;have hub:=(b.getD i 0).toNat_lt;have hub2:=(b.getD (i+1) 0).toNat_lt;have e1:((i:Int)+1).toNat=i+1:=by omega
 rw [e1];have hD:∀ h:i<b.length,(b.getD i 0≠13↔(!decide ((((b.getD i 0).toNat:Nat):Int)=13))=true):=fun h=>by
  rw [Bool.not_eq_true',decide_eq_false_iff_not];constructor
  ·intro h1 h2;exact h1 (UInt8.toNat_inj.1 (by have e:(13:UInt8).toNat=13:=rfl;omega))
  ·intro h1 h2;rw [h2] at h1;exact h1 rfl
 have hT:(b.getD (i+1) 0=10↔((((b.getD (i+1) 0).toNat:Nat):Int)=10)):=by
  constructor
  ·intro h1;rw [h1];rfl
  ·intro h1;exact UInt8.toNat_inj.1 (by have e:(10:UInt8).toNat=10:=rfl;omega)
 have hO:¬i+1<b.length→b.getD (i+1) 0=0:=fun h=>by rw [List.getD_eq_getElem?_getD,List.getElem?_eq_none (by omega)];rfl
 refine ⟨fun hl=>CO fun _=>?_,fun hl=>?_⟩
 ·have hl2:i<b.length:=by omega
  refine ⟨fun h1=>CO fun _=>⟨z2 rfl rfl,CO fun _=>CR fun _=>?_⟩,fun h1=>CR fun _=>Chk.mk (fun _=>by simp only [inR];omega) fun _=>Chk.mk (fun h=>by simp at h;omega) fun _=>⟨fun h2=>⟨z2 rfl rfl,CO fun _=>CR fun _=>?_⟩,fun h2=>CR fun _=>?_⟩⟩
  ·refine ⟨⟨(i+1,L++[b.getD i 0]),by simp only;omega,by simp only [List.length_append,List.length_singleton];omega, ?_⟩,by simp only;omega, ?_⟩
   ·simp only;rw [List.append_assoc,←hN,zca hl2,if_pos ((hD hl2).2 h1)];rfl
   ·simp only [List.length_append,List.length_singleton,Int.natCast_add,Int.natCast_one];exact (Ent.ren1 [2] (by decide) (by simp only [Yd];exact jn L (b.getD i 0) 1 (fun _=>rfl) (fun _ _=>rfl) rfl rfl) (by simp [ze,Vg.look,SV.mapH,muL]))
  ·have k1:¬b.getD i 0≠13:=fun h=>by rw [(hD hl2).1 h] at h1;cases h1
   have k2:¬b.getD (i+1) 0=10:=fun h=>by
    simp only [Bool.or_eq_true,decide_eq_true_eq,Bool.not_eq_true',decide_eq_false_iff_not] at h2;rcases h2 with h2 | h2
    ·rw [hO (by omega)] at h;cases h
    ·exact h2 (hT.1 h)
   refine ⟨⟨(i+1,L++[10]),by simp only;omega,by simp only [List.length_append,List.length_singleton];omega, ?_⟩,by simp only;omega, ?_⟩
   ·simp only;rw [List.append_assoc,←hN,zca hl2,if_neg k1,if_neg k2];rfl
   ·simp only [List.length_append,List.length_singleton,Int.natCast_add,Int.natCast_one];exact (Ent.ren1 [2] (by decide) (by simp only [Yd];exact jn L (10) 1 (fun _=>rfl) (fun _ _=>rfl) rfl rfl) (by simp [ze,Vg.look,SV.mapH,muL]))
  ·have k1:¬b.getD i 0≠13:=fun h=>by rw [(hD hl2).1 h] at h1;cases h1
   have k2:b.getD (i+1) 0=10:=by simp only [Bool.or_eq_false_iff,Bool.not_eq_false',decide_eq_true_eq] at h2;exact hT.2 h2.2
   exact ⟨⟨(i+1,L),by simp only;omega,by simp only;omega,by rw [←hN,zca hl2,if_neg k1,if_pos k2]⟩,by simp only;omega,(by first | exact Ent.refl _ _ | (simp only [Int.natCast_add,Int.natCast_one];exact Ent.refl _ _))⟩
 ·have hie:i=b.length:=by omega
  have eL:L=zsn b:=by rw [←hN,hie,List.drop_length];simp [nrm]
  rw [eL];rw [eL] at hL;refine ⟨fun _ _=>rfl,Chk.mk (Nat.le_refl _) fun _=>?_⟩;rw [xq];refine CO fun _=>⟨fun h7=>?_,fun h7=>?_⟩
  ·have e:nmB b=([],2):=by unfold nmB;rw [if_neg (by omega),if_pos (by omega)]
   rw [e]
  ·have e:nmB b=(zsn b,0):=by unfold nmB;rw [if_neg (by omega),if_neg (by have:=z2r (zsn b) 0 (Nat.zero_le _);omega)]
   rw [e]
noncomputable def zim:PE:=peR (fun (b:Bs)=>[.fs 1 (b.map j7)]) (fun (b:Bs)=>b.length≤1048576) (fun (b:Bs)=>.tup [.s (nmB b).1,.i .i64 (nmB b).2])
theorem zkg {b:Bs}:zim [.fs 1 (b.map j7)]=some (b.length≤1048576,.tup [.s (nmB b).1,.i .i64 (nmB b).2]):=yg (by rintro a b h;simp_all [zof]) b
theorem zkf:PE1 Tryz.prog 113 zim:=yo (by rintro b hp;exact Normal_s b hp)
theorem zhd (b:Bs) (hp:b.length≤1048576):FnK Tryz.prog 39 0 [.fs 1 (b.map j7)] [] (fun z c=>z=.slc 0 0 (if (nmB b).2=0 then psA (nmB b).1 else [evS,evF 1 0]).length∧c=[some (.row false 8 (if (nmB b).2=0 then psA (nmB b).1 else [evS,evF 1 0]).length (zu evc evz (if (nmB b).2=0 then psA (nmB b).1 else [evS,evF 1 0])))]):=by
 refine HE zkh.d 17 [[0],[3,4],[3,11],[2],[2]] Tryz.func39 [.tmp 2] ?_;simp only [↓XC,X1,seval,TES,zki,XRE,XR,XRH,XM];have hl:=zso b;obtain ⟨G,hG⟩:∃ G,G=(if (nmB b).2=0 then psA (nmB b).1 else [evS,evF 1 0]):=⟨_,rfl⟩
 rw [←hG];refine Chk.mk hp fun _=>⟨fun h=>?_,fun h=>?_⟩
 ·have e:G=[evS,evF 1 0]:=by rw [hG,if_neg (by simpa using h)]
  rw [e];exact ⟨[0],by decide,by simp only [Yd];exact yi fun j hj=>by rcases j with _ | _ | j;rfl;rfl;simp only [List.length_cons,List.length_nil] at hj;omega,by simp only [↓XC,X1,seval];try simp [Yf],by simp [z6,SO.ro,YC],by simp⟩
 ·have e:G=psA (nmB b).1:=by rw [hG,if_pos (by simpa using h)]
  rw [e];refine yp.own (ztf (nmB b).1 (by omega)) rfl ?_;simp only [↓XC,X1,seval,TES,XRE,XR,XRH,XM];exact ⟨[0],by decide,by simp only [Yd];exact za fun _=>rfl,by simp only [↓XC,X1,seval];try simp [Yf],by simp [z6,SO.ro,YC],by simp⟩
theorem zhc (b:Bs) (hp:b.length≤1048576):FnK Tryz.prog 37 0 [.fs 1 (b.map j7)] [] (fun z c=>z=.slc 0 0 (if (nmB b).2=0 then psA (nmB b).1 else [evS,evF 1 0]).length∧c=[some (.row false 8 (if (nmB b).2=0 then psA (nmB b).1 else [evS,evF 1 0]).length (zu evc evz (if (nmB b).2=0 then psA (nmB b).1 else [evS,evF 1 0])))]):=by
 refine HE zkf.d 15 [[0],[3,4],[3,11],[2],[2]] Tryz.func37 [.tmp 2] ?_;simp only [↓XC,X1,seval,TES,zkg,XRE,XR,XRH,XM];have hl:=zso b;have hB:psB (nmB b).1=psA (nmB b).1:=by unfold psB;rw [if_neg (by omega)]
 obtain ⟨G,hG⟩:∃ G,G=(if (nmB b).2=0 then psA (nmB b).1 else [evS,evF 1 0]):=⟨_,rfl⟩
 rw [←hG];refine Chk.mk hp fun _=>⟨fun h=>?_,fun h=>?_⟩
 ·have e:G=[evS,evF 1 0]:=by rw [hG,if_neg (by simpa using h)]
  rw [e];refine yp.own (zbx 0) rfl ?_;simp only [↓XC,X1,seval,TES,XRE,XR,XRH,XM];exact ⟨[0],by decide,by simp only [Yd];exact za fun _=>rfl,by simp only [↓XC,X1,seval];try simp [Yf],by simp [z6,SO.ro,YC],by simp⟩
 ·have e:G=psA (nmB b).1:=by rw [hG,if_pos (by simpa using h)]
  rw [e,←hB];refine yp.own (zte (nmB b).1 (by omega)) rfl ?_;simp only [↓XC,X1,seval,TES,XRE,XR,XRH,XM];exact ⟨[0],by decide,by simp only [Yd];exact za fun _=>rfl,by simp only [↓XC,X1,seval];try simp [Yf],by simp [z6,SO.ro,YC],by simp⟩
theorem law_ParseBytes (b:Bs) (hp:b.length≤9223372036854775807):PF Tryz.prog 8 [.fs 1 (b.map j7)] (.b true):=by
 refine HP (zkb.c (znt.c zg4.d)) 66 [[0],[0,12],[2],[0,3],[0,3,4],[0,3,4,5],[0,3,4,5,23],[2],[0,3,4,5,28],[2],[0,3,4,5,6],[0,3,5,6],[0,3,5,39],[2],[0,3,5,7],[0,3,5,7],[0,3,5,7,8],[0,3,5,7,8],[0,3,5,7,8,47],[2],[0,3,5,7,50],[2],[3,5,7,9],[5,7,57],[2],[5,7,8],[7,8],[7,8,62],[2],[65],[2],[2]] Tryz.func8 [.tmp 2] ?_;simp only [↓XC,X1,seval,TES,qt,wc,qb,XRE];intro h;have hl:b.length≤1048576:=by omega
 have hS:=zhc b hl;have hI:=zhd b hl;have hV:=pbA_len b;obtain ⟨V,hVd⟩:∃ V,V=(if (nmB b).2=0 then psA (nmB b).1 else [evS,evF 1 0]):=⟨_,rfl⟩
 rw [←hVd] at hS hI hV;refine yp.own (zag b hl) rfl ?_;simp only [↓XC,X1,seval,TES,qt,wc,qb,XRE,XR,yf,ww,jw,upd,muL,List.getElem?_nil,List.drop_nil,Option.map_none];refine yp.lend (hS) (by simp only [vn,zcj,zq,zo];rw [yf rfl]) rfl (by simp only [jx,vz,zq,zo,and_true];exact ⟨by omega,fun j hj=>⟨rfl,rfl⟩⟩) rfl (zsp fun _=>rfl) ?_;simp only [↓XC,X1,seval,TES,qt,wc,qb,XRE,XR,yf,ww,jw,upd,muL,List.getElem?_nil,List.drop_nil,Option.map_none];refine yp.own (zag b hl) rfl ?_;simp only [↓XC,X1,seval,TES,qt,wc,qb,XRE,XR,yf,ww,jw,upd,muL,List.getElem?_nil,List.drop_nil,Option.map_none];refine yp.lend (hI) (by simp only [vn,zcj,zq,zo];rw [yf rfl]) rfl (by simp only [jx,vz,zq,zo,and_true];exact ⟨by omega,fun j hj=>⟨rfl,rfl⟩⟩) rfl (zsp fun _=>rfl) ?_;simp only [↓XC,X1,seval,TES,qt,wc,qb,XRE,XR,yf,ww,jw,upd,muL,List.getElem?_nil,List.drop_nil,Option.map_none];refine Chk.mk (by first | omega | exact ⟨⟨Nat.le_refl _,Nat.le_refl _⟩,by omega⟩) fun _=>?_;refine yp.own (zag b hl) rfl ?_;simp only [↓XC,X1,seval,TES,qt,wc,qb,XRE,XR,yf,ww,jw,upd,muL,List.getElem?_nil,List.drop_nil,Option.map_none];refine Chk.mk (by first | omega | exact ⟨⟨Nat.le_refl _,Nat.le_refl _⟩,by omega⟩) fun _=>?_;refine yp.mut (z1e b 1 ⟨hl,by omega,by omega⟩) rfl [2] (by simp [Yf]) (by simp only [Ye];exact ⟨by omega,za fun _=>rfl⟩) (by decide) ?_;simp only [↓XC,X1,seval,TES,qt,wc,qb,XRE,XR,yf,ww,jw,upd,muL,List.getElem?_nil,List.drop_nil,Option.map_none];refine Chk.mk (fun h=>⟨⟨h,h⟩,⟨Nat.le_refl _,Nat.le_refl _⟩,by omega⟩) fun _=>⟨fun h=>by omega,fun _=>?_⟩
 refine yp.mut (zxo V 1 ⟨by omega,by omega,by omega⟩) rfl [3] (by simp [Yf]) (by simp only [Ye];exact ⟨by omega,za fun _=>rfl⟩) (by decide) ?_;simp only [↓XC,X1,seval,TES,qt,wc,qb,XRE,XR,yf,ww,jw,upd,muL,List.getElem?_nil,List.drop_nil,Option.map_none];refine CO fun _=>⟨fun h=>by omega,fun _=>?_⟩
 refine yp.own (zag b hl) rfl ?_;simp only [↓XC,X1,seval,TES,qt,wc,qb,XRE,XR,yf,ww,jw,upd,muL,List.getElem?_nil,List.drop_nil,Option.map_none];refine yp.lend (hI) (by simp only [vn,zcj,zq,zo];rw [yf rfl]) rfl (by simp only [jx,vz,zq,zo,and_true];exact ⟨by omega,fun j hj=>⟨rfl,rfl⟩⟩) rfl (zsp fun _=>rfl) ?_;simp only [↓XC,X1,seval,TES,qt,wc,qb,XRE,XR,yf,ww,jw,upd,muL,List.getElem?_nil,List.drop_nil,Option.map_none];exact Chk.mk ⟨⟨Nat.le_refl _,Nat.le_refl _⟩,by omega⟩ fun _=>Chk.mk ⟨Nat.le_refl _,by omega⟩ fun _ h=>by omega
end Go.T
end
