/- Own text: part VBM. -/
import Derived.Test.YtgippllfnmdnpaaGreatDoorVAT
import Derived.Test.YtgippllfnmdnpaaGreatDoorVAK
import Derived.Test.YtgippllfnmdnpaaGreatDoorVAR
import Derived.Test.YtgippllfnmdnpaaGreatDoorVBL
set_option linter.all false
section
namespace Go.T
variable[Go.Vg.df]
open Go.Proofs Go.Vg Go.RowKit Go.TT Go.Pl
set_option maxRecDepth 10000
set_option maxHeartbeats 4000000
noncomputable def wY:=gC fun((a,l):List Int×Int)=>([.fs 1 (a.map dC),.i .i64 l],0<=l/\l<=1048576/\a.length<=9223372036854775807,.i .i64 (if l<a.length then -1 else l-a.length))
theorem vn{a:List Int}{l:Int}:wY [.fs 1 (a.map dC),.i .i64 l]=some (ptr wY rfl (a,l)):=qK @gT
theorem vo:fO Tryz.prog 117 wY:=gJ fun(a,l) hp=>by
 dsimp only at *;refine HP pn 12 [[0,1],[1],[1,10],[4],[4]] Tryz.func117 [.tmp 4] ?_;simp only[↓XC,X1,seval,dB,jE,XR,XM]
 repeat' (first|with_reducible refine bH.mk ?_ fun _=>?_|with_reducible refine And.intro ?_ ?_|intro _)
 all_goals first
  |(simp only[iU];omega)
  |(simp only[SV.i.injEq,cP];split<;>omega)
noncomputable def wZ:=gC fun((m,l):Mk×Int)=>([.agg [.i .i64 m.id,.i .i64 m.place,.fs 1 (m.st.map dC)],.i .i64 l],0<=l/\l<=1048576/\m.st.length<=9223372036854775807,.i .i64 (if l<m.st.length then -1 else l-m.st.length))
theorem p8{m:Mk}{l:Int}:wZ [.agg [.i .i64 m.id,.i .i64 m.place,.fs 1 (m.st.map dC)],.i .i64 l]=some (ptr wZ rfl (m,l)):=qK (ai @gT @Mk.ext_iff)
theorem Eu:fO Tryz.prog 196 wZ:=gJ fun(m,l) hp=>by
 dsimp only at *;refine HP vo.d 12 [[1,2],[1],[1,10],[4],[4]] Tryz.func196 [.tmp 4] ?_;simp only[↓XC,X1,seval,dB,vn,jE,XR,XM];refine bH.mk hp fun _ h=>?_;split at h
 ·rename_i a;rw[aB a]
 omega
noncomputable def ub:=gC fun((a,l):List Mk×Int)=>([.fs 3 (a.map kD),.i .i64 l],0<=l/\l<=1048576/\a.length<=9223372036854775807/\∀m∈a,m.st.length<=9223372036854775807,.i .i64 (if l<a.length+yC a then -1 else l-(a.length+yC a)))
theorem BX{a:List Mk}{l:Int}:ub [.fs 3 (a.map kD),.i .i64 l]=some (ptr ub rfl (a,l)):=qK @lP
theorem BY:fO Tryz.prog 118 ub:=gJ fun(a,l) hp=>by
 dsimp only at *;refine HP Eu.d 27 [[0,1],[0,1],[0,1,11],[4],[0,1,5],[0,1,5,15],[0,1,5],[0,1,5],[0,1,5,25],[4],[4]] Tryz.func118 [.tmp 4] ?_;simp only[↓XC,X1,seval,dB,p8,jE,XR,XM,uB];obtain⟨n,o,p,d⟩:=hp;refine CR fun _=>⟨fun h=>by rw[aB (by omega)],fun h=>?_⟩
 refine cF.of (ι:={i:Nat // i<=a.length/\a.length+yC (a.take i)<=l}) (fun x=>⟨[(0,.fs 3 (a.map kD)),(1,.i .i64 (l-(a.length+yC (a.take x.1)))),(5,.i .i64 (x.1:Nat))],[]⟩) (fun x=>a.length-x.1) ⟨0,bF _,by simp[yC];omega⟩ (by simp[yC];exact cG.refl _ _) ?_;rintro⟨i,q,j⟩;simp only[↓XC,X1,seval,dB,p8,jE,XR,XM,uB];have k:=N4 (l:=a) i;refine⟨fun e=>CO fun _=>?_,fun e=>?_⟩
 ·have b:i<a.length:=by omega
  have f:=d _ (kW (z:=nB) b);have r:=N5 b;have m:=N4 (l:=a) (i+1);rw[uh b];simp only[↓XC,X1,seval,dB,p8,jE,XR,XM,uB];refine bH.mk ⟨by omega,by omega,f⟩ fun _=>⟨fun c=>?_,fun c=>?_⟩
  ·split at c
   ·rw[aB (by omega)]
   omega
  have g:(a.length:Int)+(yC (a.take (i+1)):Nat)<=l:=by split at c<;>omega
  rw[aA (by omega)];rw[show l-((a.length:Int)+(yC (a.take i):Nat))-((a.getD i nB).st.length:Nat)=l-(a.length+(yC (a.take (i+1)):Nat)) by omega];exact CR fun _=>⟨⟨i+1,by omega,g⟩,by simp only;omega,(by first|exact cG.refl _ _|(simp only[aP,aQ];exact cG.refl _ _))⟩
 rw[show a.take i=a by rw[show i=a.length by omega];exact eY]at j |-
 rw[aA (by omega)]
theorem I8(a:List Int)(hp:a.length<=1048576):gQ Tryz.prog 119 0 [.fs 1 (a.map dC)] [] (fun z c=>z=.ew 0 0 a.length/\c=[some (.row false 1 a.length (bT dC 0 a))]):=by
 refine HE pn 22 [[0],[0,3],[0,3,4],[0,3,4,11],[0,3,4],[0,3,4],[2]] Tryz.func119 [.tmp 2] ?_;simp only[↓XC,X1,seval,dB,jE,XR,XM];refine CO fun _=>?_;refine cF.of (ι:={i:Nat // i<=a.length}) (fun x=>⟨[(0,.fs 1 (a.map dC)),(3,.ew 0 0 a.length),(4,.i .i64 (x.1:Nat))],[some (.row false 1 a.length (bT dC 0 (a.take x.1)))]⟩) (fun x=>a.length-x.1) ⟨0,bF _⟩ (by simp only[List.take_zero];exact(cG.cT [0] (by decide) (by simp only[Yd];exact bM fun j d=>rfl) (by simp[bC,Vg.look,SV.bP,dX]))) ?_;rintro⟨i,e⟩;simp only[↓XC,X1,seval,dB,jE,XR,XM];refine⟨fun h=>CO fun _=>CO fun _=>CO fun _=>CR fun _=>⟨⟨i+1,by omega⟩,by simp only;omega, ?_⟩,fun h=>?_⟩
 ·simp only[aP,aQ];refine(cG.cT [0] (by decide) (by simp only[Yd];exact MB (fun _=>rfl) (by omega) fun j d=>rfl) (by simp[bC,Vg.look,SV.bP,dX]))
 have b:i=a.length:=by omega
 subst b;rw[eY];exact⟨[0],by decide,by simp only[Yd];exact aF fun _=>rfl,by simp only[↓XC,X1,seval];try simp[Yf],by simp[da,SO.ro,YC],by simp⟩
noncomputable def w1:=gC fun(a:List Int)=>([.fs 1 (a.map dC)],a.length<=1048576,.fs 1 (a.map dC))
theorem vp{a:List Int}:w1 [.fs 1 (a.map dC)]=some (ptr w1 rfl a):=qK @gT
theorem vq:fO Tryz.prog 119 w1:=gJ fun a hp=>PF.xP (I8 a hp) rfl rfl (by simp only[jf,iJ,jX,iT,du,dD];exact⟨⟨by omega,fun j b=>⟨rfl,rfl⟩⟩,by rw[et rfl]⟩)
noncomputable def wG:=gC fun((a,b):List Int×List Int)=>([.fs 1 (a.map dC),.fs 1 (b.map dC)],a.length<=16777216,.b (decide (a=b)))
theorem vb{a b:List Int}:wG [.fs 1 (a.map dC),.fs 1 (b.map dC)]=some (ptr wG rfl (a,b)):=qK @gT
theorem vd:fO Tryz.prog 121 wG:=gJ fun(a,b) hp=>by
 dsimp only at *;refine HF pn 26 [[0,1],[0,1,10],[4],[0,1,5],[0,1,5,14],[0,1,5],[0,1,5,25],[4],[4]] Tryz.func121 [.tmp 4] (fun _=>false) [] [(6,[],[],qa (.q0 3 [3] (.q0 7 [7] (.q1 8 .fin))))] ?_;simp only[↓XC,X1,seval,dB,jE,XR,XM];refine⟨fun h=>?_,fun h=>?_⟩
 ·have:a≠b:=by intro e;subst e;simp at h
  simp[this]
 have hlen:a.length=b.length:=by simp at h;omega
 refine cF.of (ι:={i:Nat // i<=a.length/\∀j,j<i->a.getD j 0=b.getD j 0}) (fun x=>⟨[(0,.fs 1 (a.map dC)),(1,.fs 1 (b.map dC)),(5,.i .i64 (x.1:Nat))],[]⟩) (fun x=>a.length-x.1) ⟨0,bF _,fun j d=>absurd d (aT _)⟩ (cG.refl _ _) ?_;rintro⟨i,k,d⟩;simp only[↓XC,X1,seval,dB,jE,XR,XM];refine⟨fun h=>⟨by decide +kernel,CO fun _=>CO fun _=>⟨fun c=>?_,fun c=>CR fun _=>⟨⟨i+1,by omega, ?_⟩,by simp only;omega,(by first|exact cG.refl _ _|(simp only[aP,aQ];exact cG.refl _ _))⟩⟩⟩,fun h=>?_⟩
 ·have:a≠b:=by intro e;subst e;simp at c
  simp[this]
 ·intro j g;rcases aU j i with f|f
  ·exact d j f
  have:j=i:=by omega
  subst this;simpa using c
 have:a=b:=zl 0 hlen fun j f=>d j (by omega);simp[this]
noncomputable def w3:=gC fun(m:Mk)=>([.agg [.i .i64 m.id,.i .i64 m.place,.fs 1 (m.st.map dC)]],m.st.length<=1048576,.agg [.i .i64 m.id,.i .i64 m.place,.fs 1 (m.st.map dC)])
theorem p9{m:Mk}:w3 [.agg [.i .i64 m.id,.i .i64 m.place,.fs 1 (m.st.map dC)]]=some (ptr w3 rfl m):=qK (ai @gT @Mk.ext_iff)
theorem Ew:fO Tryz.prog 197 w3:=gJ fun m hp=>by dsimp only at *;refine HP vq.d 15 [[1,2],[1,2,3],[1,2,3],[1,2,3],[2,3],[2]] Tryz.func197 [.cell 2 160] ?_;simp only[↓XC,X1,seval,dB,vp,jE,XR,XM,uB];exact bH.mk hp fun _=>trivial
noncomputable def wH:=gC fun((a,b):Mk×Mk)=>([.agg [.i .i64 a.id,.i .i64 a.place,.fs 1 (a.st.map dC)],.agg [.i .i64 b.id,.i .i64 b.place,.fs 1 (b.st.map dC)]],a.st.length<=1048576,.b (decide (a=b)))
theorem p0{a b:Mk}:wH [.agg [.i .i64 a.id,.i .i64 a.place,.fs 1 (a.st.map dC)],.agg [.i .i64 b.id,.i .i64 b.place,.fs 1 (b.st.map dC)]]=some (ptr wH rfl (a,b)):=qK (ai @gT @Mk.ext_iff)
theorem Eh:fO Tryz.prog 198 wH:=gJ fun(a,b) hp=>by dsimp only at *;refine HP vd.d 21 [[2,3],[2,3,9],[4],[2,3,14],[4],[20],[4],[4]] Tryz.func198 [.tmp 4] ?_;simp only[↓XC,X1,seval,dB,vb,jE,XR,XM,uB];refine⟨fun h=>?_,fun h=>⟨fun c=>?_,fun c=>CO fun _=>⟨fun d=>?_,fun d=>?_⟩⟩⟩;all_goals(congr 1;simp_all[Mk.ext_iff])
theorem Hc(a:List Mk)(hp:a.length<=1048576/\∀m∈a,m.st.length<=1048576):gQ Tryz.prog 120 0 [.fs 3 (a.map kD)] [] (fun z c=>z=.ew 0 0 a.length/\c=[some (.row false 3 a.length (bT kD nB a))]):=by
 refine HE Ew.d 23 [[0],[0,3],[0,3,4],[0,3,4,11],[0,3,4],[0,3,4],[2]] Tryz.func120 [.tmp 2] ?_;simp only[↓XC,X1,seval,dB,p9,jE,XR,XM,uB];obtain⟨e,d⟩:=hp;refine CO fun _=>?_;refine cF.of (ι:={i:Nat // i<=a.length}) (fun x=>⟨[(0,.fs 3 (a.map kD)),(3,.ew 0 0 a.length),(4,.i .i64 (x.1:Nat))],[some (.row false 3 a.length (MH a x.1))]⟩) (fun x=>a.length-x.1) ⟨0,bF _⟩ (cG.cT [0] (by decide) (by simp only[Yd];exact MC) (by simp[bC,Vg.look,SV.bP,dX])) ?_;rintro⟨i,f⟩;simp only[↓XC,X1,seval,dB,p9,jE,XR,XM,uB,Kp];refine⟨fun h=>CO fun _=>?_,fun h=>?_⟩
 ·have b:i<a.length:=by omega
  have hm:=d _ (kW (z:=nB) b);rw[uh b];simp only[↓XC,X1,seval,dB,p9,jE,XR,XM,uB,Kp];refine bH.mk hm fun _=>CO fun _=>CO fun _=>CR fun _=>⟨⟨i+1,by omega⟩,by simp only;omega, ?_⟩
  simp only[aP,aQ];exact(cG.cT [0] (by decide) (by simp only[Yd];exact Pt fun j=>rfl) (by simp[bC,Vg.look,SV.bP,dX]))
 obtain rfl:i=a.length:=by omega
 exact⟨[0],by decide,by simp only[Yd];exact MD,by simp only[↓XC,X1,seval];try simp[Yf],by simp[da,SO.ro,YC],by simp⟩
noncomputable def uc:=gC fun(a:List Mk)=>([.fs 3 (a.map kD)],a.length<=1048576/\∀m∈a,m.st.length<=1048576,.fs 3 (a.map kD))
theorem BZ{a:List Mk}:uc [.fs 3 (a.map kD)]=some (ptr uc rfl a):=qK @lP
theorem B0:fO Tryz.prog 120 uc:=gJ fun a hp=>PF.xP (Hc a hp) rfl rfl (by simp only[jf,iJ,jX,iT,du,dD];exact⟨⟨by omega,fun j b=>⟨rfl,rfl⟩⟩,by rw[et rfl]⟩)
noncomputable def tR:=gC fun((a,b):List Mk×List Mk)=>([.fs 3 (a.map kD),.fs 3 (b.map kD)],a.length<=1048576/\∀m∈a,m.st.length<=1048576,.b (decide (a=b)))
theorem BR{a b:List Mk}:tR [.fs 3 (a.map kD),.fs 3 (b.map kD)]=some (ptr tR rfl (a,b)):=qK @lP
theorem BS:fO Tryz.prog 122 tR:=gJ fun(a,b) hp=>by
 dsimp only at *;refine HF Eh.d 27 [[0,1],[0,1,10],[4],[0,1,5],[0,1,5,14],[0,1,5],[0,1,5,26],[4],[4]] Tryz.func122 [.tmp 4] (fun _=>false) [] [(6,[],[],qa (.q0 3 [3] (.q0 7 [7] (.de 8 (.q1 9 .fin) .fin))))] ?_;simp only[↓XC,X1,seval,dB,p0,jE,XR,XM,uB];obtain⟨n,hm⟩:=hp;refine⟨fun h=>?_,fun h=>?_⟩
 ·have:a≠b:=by intro e;subst e;simp at h
  simp[this]
 have hlen:a.length=b.length:=by simp at h;omega
 refine cF.of (ι:={i:Nat // i<=a.length/\∀j,j<i->a.getD j nB=b.getD j nB}) (fun x=>⟨[(0,.fs 3 (a.map kD)),(1,.fs 3 (b.map kD)),(5,.i .i64 (x.1:Nat))],[]⟩) (fun x=>a.length-x.1) ⟨0,bF _,fun j f=>absurd f (aT _)⟩ (cG.refl _ _) ?_;rintro⟨i,m,f⟩;simp only[↓XC,X1,seval,dB,p0,jE,XR,XM,uB];refine⟨fun h=>?_,fun h=>?_⟩
 ·have d:i<a.length:=by omega
  have k:=hm _ (kW (z:=nB) d);rw[uh d,uh (show i<b.length by omega)];simp only[↓XC,X1,seval,dB,p0,jE,XR,XM,uB];refine⟨by decide +kernel,CO fun _=>CO fun _=>bH.mk k fun _=>⟨fun c=>?_,fun c=>CR fun _=>⟨⟨i+1,by omega, ?_⟩,by simp only;omega,(by first|exact cG.refl _ _|(simp only[aP,aQ];exact cG.refl _ _))⟩⟩⟩
  ·have:a≠b:=by intro e;subst e;simp at c
   simp[this]
  intro j l;rcases aU j i with g|g
  ·exact f j g
  obtain rfl:j=i:=by omega
  simpa using c
 have:a=b:=zl nB hlen fun j g=>f j (by omega);simp[this]
noncomputable def rZ:=gC fun((c,l):Cu×Int)=>([.agg [.s c.tx,.i .i64 c.place,.fs 1 (c.st.map dC),.fs 3 (c.ms.map kD),.i .i64 c.la],.i .i64 l],0<=l/\l<=1048576/\c.tx.length<=9223372036854775807/\c.st.length<=9223372036854775807/\c.ms.length<=9223372036854775807/\∀m∈c.ms,m.st.length<=9223372036854775807,.i .i64 (if l<VU c then -1 else l-VU c))
theorem AD{c:Cu}{l:Int}:rZ [.agg [.s c.tx,.i .i64 c.place,.fs 1 (c.st.map dC),.fs 3 (c.ms.map kD),.i .i64 c.la],.i .i64 l]=some (ptr rZ rfl (c,l)):=qK (ai @gT (ai @lP @Cu.ext_iff))
theorem AE:fO Tryz.prog 45 rZ:=gJ fun(c,l) hp=>by
 dsimp only at *;refine HP (vo.c BY.d) 25 [[1,2],[1,2],[1,2,11],[4],[1,2],[1,2,17],[4],[1],[1,23],[4],[4]] Tryz.func45 [.tmp 4] ?_;simp only[↓XC,X1,seval,dB,vn,BX,jE,XR,XM,uB];obtain⟨i,j,k,e,f,g⟩:=hp;unfold VU;refine CR fun _=>⟨fun h=>by rw[aB (by omega)],fun h=>bH.mk ⟨by omega,by omega,e⟩ fun _=>⟨fun b=>?_,fun b=>?_⟩⟩
 ·split at b
  ·rw[aB (by omega)]
  omega
 have a:¬l-(c.tx.length:Nat)<(c.st.length:Nat):=fun a=>by rw[aB a]at b;omega
 simp only[aA a];refine bH.mk ⟨by omega,by omega,f,g⟩ fun _=>⟨fun d=>?_,fun d=>?_⟩
 ·split at d
  ·rw[aB (by omega)]
  omega
 have hw:¬l-(c.tx.length:Nat)-(c.st.length:Nat)<(c.ms.length:Nat)+(yC c.ms:Nat):=fun a=>by rw[aB a]at d;omega
 rw[aA hw,aA (by omega)];congr 1;omega
noncomputable def r0:=gC fun(c:Cu)=>([.agg [.s c.tx,.i .i64 c.place,.fs 1 (c.st.map dC),.fs 3 (c.ms.map kD),.i .i64 c.la]],c.tx.length<=1048576/\c.st.length<=1048576/\c.ms.length<=1048576/\∀m∈c.ms,m.st.length<=1048576,.agg [.s c.tx,.i .i64 c.place,.fs 1 (c.st.map dC),.fs 3 (c.ms.map kD),.i .i64 c.la])
theorem AF{c:Cu}:r0 [.agg [.s c.tx,.i .i64 c.place,.fs 1 (c.st.map dC),.fs 3 (c.ms.map kD),.i .i64 c.la]]=some (ptr r0 rfl c):=qK (ai @gT (ai @lP @Cu.ext_iff))
theorem AG:fO Tryz.prog 47 r0:=gJ fun c hp=>by dsimp only at *;refine HP (vq.c B0.d) 22 [[1,2],[1,2,3],[1,2,3],[1,2,3],[1,2,3],[1,2,3],[2,3],[2]] Tryz.func47 [.cell 2 34] ?_;simp only[↓XC,X1,seval,dB,vp,BZ,jE,XR,XM,uB];exact bH.mk hp.2.1 fun _=>bH.mk hp.2.2 fun _=>trivial
noncomputable def rK:=gC fun((a,b):Cu×Cu)=>([.agg [.s a.tx,.i .i64 a.place,.fs 1 (a.st.map dC),.fs 3 (a.ms.map kD),.i .i64 a.la],.agg [.s b.tx,.i .i64 b.place,.fs 1 (b.st.map dC),.fs 3 (b.ms.map kD),.i .i64 b.la]],a.tx.length<=1048576/\a.st.length<=1048576/\a.ms.length<=1048576/\∀m∈a.ms,m.st.length<=1048576,.b (decide (a=b)))
theorem Ao{a b:Cu}:rK [.agg [.s a.tx,.i .i64 a.place,.fs 1 (a.st.map dC),.fs 3 (a.ms.map kD),.i .i64 a.la],.agg [.s b.tx,.i .i64 b.place,.fs 1 (b.st.map dC),.fs 3 (b.ms.map kD),.i .i64 b.la]]=some (ptr rK rfl (a,b)):=qK (ai @gT (ai @lP @Cu.ext_iff))
theorem Ap:fO Tryz.prog 48 rK:=gJ fun(a,b) hp=>by dsimp only at *;refine HP (vd.c BS.d) 32 [[2,3],[2,3,9],[4],[2,3,14],[4],[2,3,20],[4],[2,3,26],[4],[31],[4],[4]] Tryz.func48 [.tmp 4] ?_;simp only[↓XC,X1,seval,dB,vb,BR,jE,XR,XM,uB];refine⟨fun h=>?_,fun h=>⟨fun c=>?_,fun c=>CO fun _=>⟨fun d=>?_,fun d=>bH.mk hp.2.2 fun _=>⟨fun e=>?_,fun e=>⟨fun f=>?_,fun f=>?_⟩⟩⟩⟩⟩;all_goals(congr 1;simp_all[Cu.ext_iff])
end Go.T
end
section
namespace Go.T
variable[Go.Vg.df][Go.Vg.cS 0 1]
open Go.Proofs Go.Vg Go.RowKit Go.TT Go.Pl
set_option maxRecDepth 10000
set_option maxHeartbeats 4000000
theorem D3(c:Cu)(hp:c.tx.length<=9223372036854775807/\c.st.length<=9223372036854775807/\c.ms.length<=9223372036854775807/\∀m∈c.ms,m.st.length<=9223372036854775807):PF Tryz.prog 9 [.agg [.s c.tx,.i .i64 c.place,.fs 1 (c.st.map dC),.fs 3 (c.ms.map kD),.i .i64 c.la]] (.b true):=by
 refine HF (AE.c (AG.c (wj.c (wg.c Ap.d)))) 27 [[1],[1,3],[1,3],[1,11],[2],[1,4],[1,4,5],[1,4,5,6],[1,5,21],[2],[26],[2],[2]] Tryz.func9 [.tmp 2] (fun _=>false) [] [(10,[],[],.g (.q0 0 [0] (.q0 1 [1] (.de 2 (.de 3 (.q1 4 .fin) .fin) .fin))))] ?_;simp only[↓XC,X1,seval,dB,AD,AF,wi,we,Ao,jE,XR,XM,uB];refine bH.mk hp fun _ h=>?_;have hw:VU c<=1048576:=by split at h<;>omega
 have a:c.tx.length<=1048576/\c.st.length<=1048576/\c.ms.length<=1048576/\∀m∈c.ms,m.st.length<=1048576:=by unfold VU at hw;exact⟨by omega,by omega,by omega,fun m hm=>by have:=Kq hm;omega⟩
 refine bH.mk a fun _=>bH.mk a fun _=>bH.mk a fun _=>bH.mk a fun _=>⟨fun b=>?_,fun _=>⟨by decide +kernel,bH.mk a fun _=>bH.mk a fun _=>trivial⟩⟩
 rw[show decide (sH (xU c.tx) c)=decide (sH (E5 c.tx) c)from cZ.2 (LO c).symm]at b;simp at b
end Go.T
end
