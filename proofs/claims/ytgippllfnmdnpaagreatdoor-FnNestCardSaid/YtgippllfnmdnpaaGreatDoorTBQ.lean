/- Own text: part TBQ. -/
import Derived.Test.YtgippllfnmdnpaaGreatDoorTBP
import Derived.Test.YtgippllfnmdnpaaGreatDoorTBL
section
set_option linter.unusedVariables false
set_option linter.unusedSimpArgs false
set_option linter.unusedSectionVars false
set_option linter.unnecessarySimpa false
namespace Go.T
variable [Go.Vg.Glob] [Go.Vg.GlobTabs 0 1]
open Go.Proofs Go.Vg Go.RowKit Go.TT Go.Pl
set_option maxRecDepth 10000
set_option maxHeartbeats 4000000
theorem zjy (s:Bs) (x:Rb) (sb:Int→Bool→Bool→Rb→Rb) (n:Int) (inl lo:Bool) (HM:∀ (oh:Bool) (oa og:Bs) (ofr:Int) (oe:Nat) (ha:Bool) (an tg:Bs) (fm pe:Nat) (x1:Rb),Ok s x1.r→x1.r.dp=x.r.dp→(kyA s x1.r.pos).2.2=true→fm≤s.length→zcj Tryz.prog 280 s [.agg [.b oh,.s oa,.s og,.i .i64 ofr,.i .i64 (oe:Nat)],.agg [.b ha,.s an,.s tg,.i .i64 (fm:Nat),.i .i64 (pe:Nat)]] x1 (mpK s sb (⟨oh,oa,og,oe⟩:Pp) (⟨ha,an,tg,pe⟩:Pp) fm x1)) (HL:∀ (oh:Bool) (oa og:Bs) (ofr:Int) (oe:Nat) (x1:Rb),Ok s x1.r→x1.r.dp=x.r.dp→x1.r.pos<s.length→zcj Tryz.prog 282 s [.agg [.b oh,.s oa,.s og,.i .i64 ofr,.i .i64 (oe:Nat)]] x1 (lsK s sb (⟨oh,oa,og,oe⟩:Pp) x1)) (hp:s.length≤1048576∧Ok s x.r):FnK Tryz.prog 252 1 [.ptr 0 0 0,.i .i64 n,.b inl,.b lo] [some (.blk false [.s s,.i .i64 (((x).r).pos:Nat),.slc 1 0 ((x).r).ev.length,.slc 2 0 ((x).r).ev.length,.mp 3,.slc 4 0 ((x).r).hd.length,.i .i64 (((x).r).dp:Nat),.i .i64 ((x).r).cd,.i .i64 (((x).r).pl:Nat),.b (x).fr,.i .i64 ((x).lt:Nat)]),some (.row false 8 ((x).r).ev.length (zg evc evz ((x).r).ev)),some (.row false 1 ((x).r).ev.length (zg qy false ((x).r).dn)),some (.mapS (nmI ((x).r).ev ((x).r).bs)),some (.row false 2 ((x).r).hd.length (zg hdc hdz ((x).r).hd))] (fun z c=>z=.b (decide ((bnR s sb n inl lo x).r.cd=0))∧c=[some (.blk false [.s s,.i .i64 ((((bnR s sb n inl lo x)).r).pos:Nat),.slc 1 0 (((bnR s sb n inl lo x)).r).ev.length,.slc 2 0 (((bnR s sb n inl lo x)).r).ev.length,.mp 3,.slc 4 0 (((bnR s sb n inl lo x)).r).hd.length,.i .i64 ((((bnR s sb n inl lo x)).r).dp:Nat),.i .i64 (((bnR s sb n inl lo x)).r).cd,.i .i64 ((((bnR s sb n inl lo x)).r).pl:Nat),.b ((bnR s sb n inl lo x)).fr,.i .i64 (((bnR s sb n inl lo x)).lt:Nat)]),some (.row false 8 (((bnR s sb n inl lo x)).r).ev.length (zg evc evz (((bnR s sb n inl lo x)).r).ev)),some (.row false 1 (((bnR s sb n inl lo x)).r).ev.length (zg qy false (((bnR s sb n inl lo x)).r).dn)),some (.mapS (nmI (((bnR s sb n inl lo x)).r).ev (((bnR s sb n inl lo x)).r).bs)),some (.row false 2 (((bnR s sb n inl lo x)).r).hd.length (zg hdc hdz (((bnR s sb n inl lo x)).r).hd))]):=by
 refine FnK.ofE (cf:=zk Tryz.prog te [(210,wv),(32,j7),(281,xi),(106,yp)] 154 1 false (fun _=>true) (kp [(0,[0,1,2,3]),(1,[0,1,2,3,9,10]),(2,[0,1,2,3,9,25]),(3,[8]),(4,[0,1,2,3,9,11]),(5,[0,1,2,3,9,11,28]),(6,[0,1,2,3,9,11,12,13]),(7,[0,1,2,3,9,11,12,39]),(8,[0,1,3,9,11,12,44]),(9,[8]),(10,[0,1,9,11,12,57]),(11,[]),(12,[8]),(13,[0,1,2,9,11]),(14,[0,1,2,9,10,11]),(15,[0,1,2,9,11,69]),(16,[8]),(17,[0,1,2,9,11,16]),(18,[0,1,2,9,11,83]),(19,[8]),(20,[0,1,9,11,93]),(21,[8]),(22,[0,1,9,11,115]),(23,[0,9,18]),(24,[0,9,132]),(25,[8]),(26,[8]),(27,[0,1,9,11,146]),(28,[0,1,9]),(29,[8])]) [17,29] [(6,[],[],.q1 0 (.q1 1 (.q1 2 (.q1 4 (.q0 3 [3] (.q0 5 [5] (.alt 6 (.q1 7 (.q1 8 (.q1 9 (.q1 10 (.q1 11 (.fin)))))) (.fin)))))))),(17,[],[],.q1 0 (.q1 1 (.q1 2 (.q1 4 (.q1 5 (.q1 6 (.q0 3 [3] (.q0 7 [7] (.alt 8 (.q1 9 (.q1 10 (.q1 11 (.q1 12 (.q1 13 (.q1 14 (.q1 15 (.fin)))))))) (.fin)))))))))),(20,[],[],.q1 0 (.q1 1 (.q1 2 (.q1 3 (.q0 4 [4] (.q1 5 (.q1 6 (.q1 7 (.q1 8 (.q1 9 (.q1 10 (.q1 12 (.q1 13 (.q1 14 (.q0 11 [11] (.q0 15 [15] (.alt 16 (.q1 17 (.q1 18 (.fin))) (.fin)))))))))))))))))),(23,[],[],.q1 0 (.q1 1 (.q1 2 (.q1 4 (.q0 3 [3] (.q0 5 [5] (.alt 6 (.q1 7 (.q1 8 (.q1 9 (.q1 10 (.q1 11 (.fin)))))) (.fin)))))))),(25,[],[],.q1 0 (.q1 1 (.q1 2 (.q1 3 (.q1 5 (.q0 4 [4,7,8,9] (.q0 6 [6,7,8,9] (.seq [7,8,9]))))))))]) (zf te_ok (l:=[(210,wv),(32,j7),(281,xi),(106,yp)]) (⟨j6,za5,zb2,qi,trivial⟩) zc) Tryz.func252 rfl rfl rfl (by simp [zk]) (by simp [zk]) (rs:=[.tmp 8]) rfl 100000 ?_
 simp only [↓XC,XV,XT,Yg,seval,TES,yz,qa,y7,yc,XRE,XR,XRH,Yh,yo]
 obtain ⟨hs,ho⟩:=hp
 have hpos:=ho.pos
 have hcd:=ho.cd
 refine Wm (znn s x.r x.fr (x.lt:Nat) false ⟨hs,hcd,hpos,ho.hd,ho.pf⟩) ?_
 simp only [↓XC,XV,XT,Yg,seval,TES,XRE,XR,XRH,Yh,↓Ya,Yb,yo,onB,XM]
 obtain ⟨q,hq⟩:∃ q,q=prR s false x.r:=⟨_,rfl⟩
 obtain ⟨pp,hpp⟩:∃ pp,pp=prP s false x.r:=⟨_,rfl⟩
 rw [←hq,←hpp]
 by_cases hqz:q.cd=0
 ·simp only [decide_eq_true hqz]
  simp only [↓XC,XV,XT,Yg,seval,TES,XRE,XR,XRH,Yh,↓Ya,Yb,yo,onB]
  obtain ⟨qp,e9,l9,l10,h11,h12⟩:=vo (fl:=false) hpos hcd (show (prR s false x.r).cd=0 by rw [←hq];exact hqz)
  rw [←hq] at e9
  rw [←hpp] at h11
  have hqo:Ok s q:=by rw [e9];exact ho.at l9 l10
  have hqd:q.dp=x.r.dp:=by rw [e9];rfl
  have hpe:pp.has=true→x.r.pos<pp.en∧pp.en≤s.length∧pp.en≤qp:=fun h=>by
   have h1:=zfr hpos h12 (by rw [←hpp];exact h)
   have h2:(prs s x.r.hd false x.r.pos (ppz x.r.pos)).1=qp:=by
    have h3:=e9
    rw [hq] at h3
    unfold prR at h3
    rw [if_pos h12] at h3
    exact congrArg Rd.pos h3
   rw [h2,←hpp] at h1
   exact h1
  refine zgl.of (ι:={u:(Bool×Pp×Int)×Pp×Nat×Rd // (bnR s sb n inl lo x)=bnE s sb n u.1.1 u.1.2.1 u.2.1 u.2.2.1 (onB x u.2.2.2)∧Ok s u.2.2.2∧u.2.2.2.dp=x.r.dp∧u.2.2.1≤s.length∧(u.2.1.has=true→u.2.1.en≤s.length)}) (fun u=>⟨[(0,.ptr 0 0 0),(1,.i .i64 n),(2,.b u.1.1.1),(9,.ptr 5 0 0),(11,.ptr 6 0 0)],[some (.blk false [.s s,.i .i64 ((u.1.2.2.2).pos:Nat),.slc 1 0 (u.1.2.2.2).ev.length,.slc 2 0 (u.1.2.2.2).ev.length,.mp 3,.slc 4 0 (u.1.2.2.2).hd.length,.i .i64 ((u.1.2.2.2).dp:Nat),.i .i64 (u.1.2.2.2).cd,.i .i64 ((u.1.2.2.2).pl:Nat),.b x.fr,.i .i64 (x.lt:Nat)]),some (.row false 8 (u.1.2.2.2).ev.length (zg evc evz (u.1.2.2.2).ev)),some (.row false 1 (u.1.2.2.2).ev.length (zg qy false (u.1.2.2.2).dn)),some (.mapS (nmI (u.1.2.2.2).ev (u.1.2.2.2).bs)),some (.row false 2 (u.1.2.2.2).hd.length (zg hdc hdz (u.1.2.2.2).hd)),some (.blk false [.b u.1.2.1.has,.s u.1.2.1.an,.s u.1.2.1.tg,.i .i64 (u.1.2.2.1:Nat),.i .i64 (u.1.2.1.en:Nat)]),some (.blk false [.b u.1.1.2.1.has,.s u.1.1.2.1.an,.s u.1.1.2.1.tg,.i .i64 u.1.1.2.2,.i .i64 (u.1.1.2.1.en:Nat)])]⟩) ?_ ?_
  ·simp only [↓XC,XV,XT,Yg,seval,TES,yz,XRE,XR,XRH,Yh,↓Ya,Yb,yo,onB]
   have hW:¬(pp.has=true∧(rsA s pp.en).2=true)→(bnR s sb n inl lo x)=bnE s sb n inl (ppz 0) pp x.r.pos (onB x q):=fun h=>by unfold bnR;rw [←hq,←hpp,if_neg (by simpa using hqz),if_neg h]
   have hP:¬(pp.has=true∧(rsA s pp.en).2=true)→(bnR s sb n inl lo x)=bnE s sb n inl (ppz 0) pp x.r.pos (onB x q)∧Ok s q∧q.dp=x.r.dp∧x.r.pos≤s.length∧(pp.has=true→pp.en≤s.length):=fun h=>⟨hW h,hqo,hqd,hpos,fun h=>(hpe h).2.1⟩
   refine ⟨fun hh=>?_,fun hh=>?_⟩
   ·rw [zu s (hpe hh).2.1]
    refine ⟨by decide +kernel,Chk.mk hs fun _=>⟨fun hr=>?_,fun hr=>?_⟩⟩
    ·have hcc:pp.has=true∧(rsA s pp.en).2=true:=⟨hh,hr⟩
     refine Wm (zw2 s q x.fr (x.lt:Nat) pp.en ⟨hs,hqz,(hpe hh).2.1⟩) ?_
     simp only [↓XC,XV,XT,Yg,seval,TES,XRE,XR,XRH,Yh,↓Ya,Yb,yo,onB,XM]
     obtain ⟨v,hv⟩:∃ v,v=ovR s q pp.en:=⟨_,rfl⟩
     rw [←hv]
     by_cases hvz:v.cd=0
     ·simp only [decide_eq_true hvz]
      simp only [↓XC,XV,XT,Yg,seval,TES,XRE,XR,XRH,Yh,↓Ya,Yb,yo,onB]
      have hge1:=wj s pp.en
      have hge2:=qt s pp.en (hpe hh).2.1
      have hve:v=atR q (gpE s pp.en):=by rw [hv];exact zap (by rw [←hv];exact hvz)
      have hvo:Ok s v:=by rw [hve,e9];exact ho.at (q:=gpE s pp.en) (by have:=(hpe hh).1;omega) hge2
      have hvp:=hvo.pos
      have hvl:v.ev.length≤16777216:=Nat.le_trans (hvo.size hs) (by decide)
      have hvd:v.dp=x.r.dp:=by rw [hve];exact hqd
      refine Wm (zda s v x.fr (x.lt:Nat) v.pos ⟨hs,hvp⟩) ?_
      simp only [↓XC,XV,XT,Yg,seval,TES,XRE,XR,XRH,Yh,↓Ya,Yb,yo,onB,XM]
      cases hst:zau s v.pos
      ·simp only [↓XC,XV,XT,Yg,seval,TES,XRE,XR,XRH,Yh,↓Ya,Yb,yo,onB]
       refine Wm (zw9 s v x.fr (x.lt:Nat) n lo ⟨hs,hvp⟩) ?_
       simp only [↓XC,XV,XT,Yg,seval,TES,XRE,XR,XRH,Yh,↓Ya,Yb,yo,onB,XM]
       cases hdp:dpA s v.pos n lo
       ·simp only [↓XC,XV,XT,Yg,seval,TES,XRE,XR,XRH,Yh,↓Ya,Yb,yo,onB]
        refine Wb (zdr s v x.fr (x.lt:Nat) pp.has pp.an pp.tg (x.r.pos:Nat) pp.en (rsA s pp.en).1 ⟨hvl,hvo.dn,hvo.bs⟩) ?_
        simp only [↓XC,XV,XT,Yg,seval,TES,XRE,XR,XRH,Yh,↓Ya,Yb,yo,onB,XM]
        have e:(bnR s sb n inl lo x)=ntB x v pp (rsA s pp.en).1:=by unfold bnR;rw [←hq,←hpp,if_neg (by simpa using hqz),if_pos hcc,←hv,if_neg (by simpa using hvz),if_pos (.inr hdp)]
        rw [e]
        try simp only [ntB,ntR,atR,y5,zn,List.length_append,List.length_cons,List.length_nil,Nat.zero_add]
        exact Wf (by simp only [↓XC,XV,XT,Yg,seval];try simp [Yf,onB,hvz])
       ·simp only [↓XC,XV,XT,Yg,seval,TES,XRE,XR,XRH,Yh,↓Ya,Yb,yo,onB]
        refine Wm (znn s v x.fr (x.lt:Nat) false ⟨hs,hvz,hvp,hvo.hd,hvo.pf⟩) ?_
        simp only [↓XC,XV,XT,Yg,seval,TES,XRE,XR,XRH,Yh,↓Ya,Yb,yo,onB,XM]
        obtain ⟨q2,hq2⟩:∃ q2,q2=prR s false v:=⟨_,rfl⟩
        obtain ⟨pp2,hpp2⟩:∃ pp2,pp2=prP s false v:=⟨_,rfl⟩
        rw [←hq2,←hpp2]
        have hU:(bnR s sb n inl lo x)=if q2.cd≠0 then onB x q2 else bnE s sb n false pp pp2 v.pos (onB x q2):=by unfold bnR;rw [←hq,←hpp,if_neg (by simpa using hqz),if_pos hcc,←hv,if_neg (by simpa using hvz),if_neg (by rw [hst,hdp];simp),←hq2,←hpp2]
        by_cases hq2z:q2.cd=0
        ·simp only [decide_eq_true hq2z]
         simp only [↓XC,XV,XT,Yg,seval,TES,XRE,XR,XRH,Yh,↓Ya,Yb,yo,onB]
         obtain ⟨qp2,f9,m9,m10,g11,g12⟩:=vo (fl:=false) hvp hvz (show (prR s false v).cd=0 by rw [←hq2];exact hq2z)
         rw [←hq2] at f9
         have hq2o:Ok s q2:=by rw [f9];exact hvo.at m9 m10
         refine ⟨⟨((false,pp,(x.r.pos:Nat)),pp2,v.pos,q2), ?_,hq2o, ?_,hvp,fun h=>?_⟩,(Ent.ren1 [0,1,2,3,4,5,6] (by decide) (by simp only [Yd];exact ⟨za (by simp [Yf,Yh,onB]),zb fun _=>rfl,zb fun _=>rfl,zl,zb fun _=>rfl,za (by simp [Yf]),za (by simp [Yf])⟩) (by simp [zi,Vg.look,SV.mapH,muL,onB]))⟩
         ·rw [hU,if_neg (by simpa using hq2z)];rfl
         ·show q2.dp=_;rw [f9];exact hvd
         ·show pp2.en≤s.length
          rw [hpp2]
          exact (zfr hvp g12 (by rw [←hpp2];exact h)).2.1
        ·simp only [decide_eq_false hq2z]
         simp only [↓XC,XV,XT,Yg,seval,TES,XRE,XR,XRH,Yh,↓Ya,Yb,yo,onB]
         rw [hU,if_pos hq2z]
         exact Wf (by simp only [↓XC,XV,XT,Yg,seval];try simp [Yf,onB,hq2z])
      ·simp only [↓XC,XV,XT,Yg,seval,TES,XRE,XR,XRH,Yh,↓Ya,Yb,yo,onB]
       refine Wb (zdr s v x.fr (x.lt:Nat) pp.has pp.an pp.tg (x.r.pos:Nat) pp.en (rsA s pp.en).1 ⟨hvl,hvo.dn,hvo.bs⟩) ?_
       simp only [↓XC,XV,XT,Yg,seval,TES,XRE,XR,XRH,Yh,↓Ya,Yb,yo,onB,XM]
       have e:(bnR s sb n inl lo x)=ntB x v pp (rsA s pp.en).1:=by unfold bnR;rw [←hq,←hpp,if_neg (by simpa using hqz),if_pos hcc,←hv,if_neg (by simpa using hvz),if_pos (.inl hst)]
       rw [e]
       try simp only [ntB,ntR,atR,y5,zn,List.length_append,List.length_cons,List.length_nil,Nat.zero_add]
       exact Wf (by simp only [↓XC,XV,XT,Yg,seval];try simp [Yf,onB,hvz])
     ·simp only [decide_eq_false hvz]
      simp only [↓XC,XV,XT,Yg,seval,TES,XRE,XR,XRH,Yh,↓Ya,Yb,yo,onB]
      have e:(bnR s sb n inl lo x)=onB x v:=by unfold bnR;rw [←hq,←hpp,if_neg (by simpa using hqz),if_pos hcc,←hv,if_pos hvz]
      rw [e]
      exact Wf (by simp only [↓XC,XV,XT,Yg,seval];try simp [Yf,onB,hvz])
    ·exact ⟨⟨((inl,(⟨false,[],[],0⟩:Pp),0),pp,x.r.pos,q),hP (by rw [hr];simp)⟩,(Ent.ren1 [0,1,2,3,4,5,6] (by decide) (by simp only [Yd];exact ⟨za (by simp [Yf,Yh,onB,ppz]),zb fun _=>rfl,zb fun _=>rfl,zl,zb fun _=>rfl,za (by simp [Yf]),za (by simp [Yf])⟩) (by simp [zi,Vg.look,SV.mapH,muL,onB,ppz]))⟩
   ·exact ⟨⟨((inl,(⟨false,[],[],0⟩:Pp),0),pp,x.r.pos,q),hP (by rw [hh];simp)⟩,(Ent.ren1 [0,1,2,3,4,5,6] (by decide) (by simp only [Yd];exact ⟨za (by simp [Yf,Yh,onB,ppz]),zb fun _=>rfl,zb fun _=>rfl,zl,zb fun _=>rfl,za (by simp [Yf]),za (by simp [Yf])⟩) (by simp [zi,Vg.look,SV.mapH,muL,onB,ppz]))⟩
  rintro ⟨⟨⟨inl2,ou,ofr⟩,own,fm,y⟩,hy1,hy2,hy3,hy4,hy5⟩
  simp only at hy1 hy2 hy3 hy4 hy5
  have hy2p:=hy2.pos
  simp only [↓XC,XV,XT,Yg,seval,TES,qa,XRE,XR,XRH,Yh,↓Ya,Yb,yo,onB]
  rw [zu s hy2.pos]
  refine ⟨by decide +kernel,Chk.mk hs fun _=>?_⟩
  refine zgl.of (ι:={u:Pp×Int // (bnR s sb n inl lo x)=scK s (onB x y) u.1 n}) (fun u=>⟨[(0,.ptr 0 0 0),(1,.i .i64 n),(9,.ptr 5 0 0)],[some (.blk false [.s s,.i .i64 ((y).pos:Nat),.slc 1 0 (y).ev.length,.slc 2 0 (y).ev.length,.mp 3,.slc 4 0 (y).hd.length,.i .i64 ((y).dp:Nat),.i .i64 (y).cd,.i .i64 ((y).pl:Nat),.b x.fr,.i .i64 (x.lt:Nat)]),some (.row false 8 (y).ev.length (zg evc evz (y).ev)),some (.row false 1 (y).ev.length (zg qy false (y).dn)),some (.mapS (nmI (y).ev (y).bs)),some (.row false 2 (y).hd.length (zg hdc hdz (y).hd)),some (.blk false [.b u.1.1.has,.s u.1.1.an,.s u.1.1.tg,.i .i64 u.1.2,.i .i64 (u.1.1.en:Nat)]),some (.blk false [.b ou.has,.s ou.an,.s ou.tg,.i .i64 ofr,.i .i64 (ou.en:Nat)])]⟩) ?_ ?_
  ·simp only [↓XC,XV,XT,Yg,seval,TES,qa,y7,yz,yc,XRE,XR,XRH,Yh,↓Ya,Yb,yo,onB]
   obtain ⟨ouh,oua,oug,oue⟩:=ou
   obtain ⟨owh,owa,owg,owe⟩:=own
   cases inl2<;>cases owh<;>cases ouh
   ·simp only [↓XC,XV,XT,Yg,seval,TES,qa,y7,yz,yc,XRE,XR,XRH,Yh,↓Ya,Yb,yo,onB]
    refine ⟨fun hk=>?_,fun hk=>?_⟩
    ·have hN:=HM false oua oug ofr oue false owa owg fm owe (onB x y) hy2 hy3 hk hy4
     unfold zcj rdC at hN
     refine Wb (hN) ?_
     simp only [↓XC,XV,XT,Yg,seval,TES,XRE,XR,XRH,Yh,↓Ya,Yb,yo,onB,XM]
     rw [hy1,bnE,if_pos ⟨rfl,hk⟩]
     exact Wf
    ·refine ⟨by decide +kernel,Chk.mk ⟨hs,by omega,by omega⟩ fun _=>⟨fun hd=>?_,fun hd=>?_⟩⟩
     ·have hN:=HL false oua oug ofr oue (onB x y) hy2 hy3 (zh5 hd)
      unfold zcj rdC at hN
      refine Wb (hN) ?_
      simp only [↓XC,XV,XT,Yg,seval,TES,XRE,XR,XRH,Yh,↓Ya,Yb,yo,onB,XM]
      rw [hy1,bnE,if_neg (by simp [onB,hk]),if_pos ⟨rfl,rfl,hd⟩]
      exact Wf
     ·exact ⟨⟨((⟨false,owa,owg,owe⟩:Pp),(fm:Nat)),by rw [hy1,bnE,if_neg (by simp [onB,hk]),if_neg (by simp [onB,hd]),if_neg (by simp),if_neg (by simp)];rfl⟩,(Ent.ren1 [0,1,2,3,4,5,6] (by decide) (by simp only [Yd];exact ⟨za (by simp [Yf,Yh,onB]),zb fun _=>rfl,zb fun _=>rfl,zl,zb fun _=>rfl,za (by simp [Yf]),za (by simp [Yf])⟩) (by simp [zi,Vg.look,SV.mapH,muL,onB]))⟩
   ·simp only [↓XC,XV,XT,Yg,seval,TES,qa,y7,yz,yc,XRE,XR,XRH,Yh,↓Ya,Yb,yo,onB]
    refine ⟨fun hk=>?_,fun hk=>?_⟩
    ·have hN:=HM true oua oug ofr oue false owa owg fm owe (onB x y) hy2 hy3 hk hy4
     unfold zcj rdC at hN
     refine Wb (hN) ?_
     simp only [↓XC,XV,XT,Yg,seval,TES,XRE,XR,XRH,Yh,↓Ya,Yb,yo,onB,XM]
     rw [hy1,bnE,if_pos ⟨rfl,hk⟩]
     exact Wf
    ·refine ⟨by decide +kernel,Chk.mk ⟨hs,by omega,by omega⟩ fun _=>⟨fun hd=>?_,fun hd=>?_⟩⟩
     ·have hN:=HL true oua oug ofr oue (onB x y) hy2 hy3 (zh5 hd)
      unfold zcj rdC at hN
      refine Wb (hN) ?_
      simp only [↓XC,XV,XT,Yg,seval,TES,XRE,XR,XRH,Yh,↓Ya,Yb,yo,onB,XM]
      rw [hy1,bnE,if_neg (by simp [onB,hk]),if_pos ⟨rfl,rfl,hd⟩]
      exact Wf
     ·exact ⟨⟨((⟨true,oua,oug,oue⟩:Pp),ofr),by rw [hy1,bnE,if_neg (by simp [onB,hk]),if_neg (by simp [onB,hd]),if_neg (by simp),if_pos rfl];rfl⟩,(Ent.ren1 [0,1,2,3,4,5,6] (by decide) (by simp only [Yd];exact ⟨za (by simp [Yf,Yh,onB]),zb fun _=>rfl,zb fun _=>rfl,zl,zb fun _=>rfl,za (by simp [Yf]),za (by simp [Yf])⟩) (by simp [zi,Vg.look,SV.mapH,muL,onB]))⟩
   ·simp only [↓XC,XV,XT,Yg,seval,TES,qa,y7,yz,yc,XRE,XR,XRH,Yh,↓Ya,Yb,yo,onB]
    refine ⟨fun hk=>?_,fun hk=>?_⟩
    ·have hN:=HM false oua oug ofr oue true owa owg fm owe (onB x y) hy2 hy3 hk hy4
     unfold zcj rdC at hN
     refine Wb (hN) ?_
     simp only [↓XC,XV,XT,Yg,seval,TES,XRE,XR,XRH,Yh,↓Ya,Yb,yo,onB,XM]
     rw [hy1,bnE,if_pos ⟨rfl,hk⟩]
     exact Wf
    ·exact ⟨by decide +kernel,⟨((⟨true,owa,owg,owe⟩:Pp),(fm:Nat)),by rw [hy1,bnE,if_neg (by simp [onB,hk]),if_neg (by simp),if_neg (by simp),if_neg (by simp)];rfl⟩,(Ent.ren1 [0,1,2,3,4,5,6] (by decide) (by simp only [Yd];exact ⟨za (by simp [Yf,Yh,onB]),zb fun _=>rfl,zb fun _=>rfl,zl,zb fun _=>rfl,za (by simp [Yf]),za (by simp [Yf])⟩) (by simp [zi,Vg.look,SV.mapH,muL,onB]))⟩
   ·simp only [↓XC,XV,XT,Yg,seval,TES,qa,y7,yz,yc,XRE,XR,XRH,Yh,↓Ya,Yb,yo,onB]
    refine ⟨fun hk=>?_,fun hk=>?_⟩
    ·have hN:=HM true oua oug ofr oue true owa owg fm owe (onB x y) hy2 hy3 hk hy4
     unfold zcj rdC at hN
     refine Wb (hN) ?_
     simp only [↓XC,XV,XT,Yg,seval,TES,XRE,XR,XRH,Yh,↓Ya,Yb,yo,onB,XM]
     rw [hy1,bnE,if_pos ⟨rfl,hk⟩]
     exact Wf
    ·rw [zu s (hy5 rfl)]
     refine ⟨by decide +kernel,by decide +kernel,Chk.mk hs fun _=>⟨fun hr=>?_,fun hr=>?_⟩⟩
     ·refine ⟨by decide +kernel,Chk.mk hs fun _=>?_⟩
      refine Wm (wg s y x.fr (x.lt:Nat) 10 (wh s owe) hy2.cd) ?_
      simp only [↓XC,XV,XT,Yg,seval,TES,XRE,XR,XRH,Yh,↓Ya,Yb,yo,onB,XM]
      rw [hy1,bnE,if_neg (by simp [onB,hk]),if_neg (by simp),if_pos ⟨rfl,rfl⟩,if_pos hr]
      exact Wf
     ·refine Wm (wg s y x.fr (x.lt:Nat) 7 fm hy2.cd) ?_
      simp only [↓XC,XV,XT,Yg,seval,TES,XRE,XR,XRH,Yh,↓Ya,Yb,yo,onB,XM]
      rw [hy1,bnE,if_neg (by simp [onB,hk]),if_neg (by simp),if_pos ⟨rfl,rfl⟩,if_neg (by rw [hr];simp)]
      exact Wf
   ·simp only [↓XC,XV,XT,Yg,seval,TES,qa,y7,yz,yc,XRE,XR,XRH,Yh,↓Ya,Yb,yo,onB]
    exact ⟨by decide +kernel,⟨((⟨false,owa,owg,owe⟩:Pp),(fm:Nat)),by rw [hy1,bnE,if_neg (by simp),if_neg (by simp),if_neg (by simp),if_neg (by simp)];rfl⟩,(Ent.ren1 [0,1,2,3,4,5,6] (by decide) (by simp only [Yd];exact ⟨za (by simp [Yf,Yh,onB]),zb fun _=>rfl,zb fun _=>rfl,zl,zb fun _=>rfl,za (by simp [Yf]),za (by simp [Yf])⟩) (by simp [zi,Vg.look,SV.mapH,muL,onB]))⟩
   ·simp only [↓XC,XV,XT,Yg,seval,TES,qa,y7,yz,yc,XRE,XR,XRH,Yh,↓Ya,Yb,yo,onB]
    exact ⟨by decide +kernel,⟨((⟨true,oua,oug,oue⟩:Pp),ofr),by rw [hy1,bnE,if_neg (by simp),if_neg (by simp),if_neg (by simp),if_pos rfl];rfl⟩,(Ent.ren1 [0,1,2,3,4,5,6] (by decide) (by simp only [Yd];exact ⟨za (by simp [Yf,Yh,onB]),zb fun _=>rfl,zb fun _=>rfl,zl,zb fun _=>rfl,za (by simp [Yf]),za (by simp [Yf])⟩) (by simp [zi,Vg.look,SV.mapH,muL,onB]))⟩
   ·simp only [↓XC,XV,XT,Yg,seval,TES,qa,y7,yz,yc,XRE,XR,XRH,Yh,↓Ya,Yb,yo,onB]
    exact ⟨by decide +kernel,⟨((⟨true,owa,owg,owe⟩:Pp),(fm:Nat)),by rw [hy1,bnE,if_neg (by simp),if_neg (by simp),if_neg (by simp),if_neg (by simp)];rfl⟩,(Ent.ren1 [0,1,2,3,4,5,6] (by decide) (by simp only [Yd];exact ⟨za (by simp [Yf,Yh,onB]),zb fun _=>rfl,zb fun _=>rfl,zl,zb fun _=>rfl,za (by simp [Yf]),za (by simp [Yf])⟩) (by simp [zi,Vg.look,SV.mapH,muL,onB]))⟩
   ·simp only [↓XC,XV,XT,Yg,seval,TES,qa,y7,yz,yc,XRE,XR,XRH,Yh,↓Ya,Yb,yo,onB]
    rw [zu s (hy5 rfl)]
    refine ⟨by decide +kernel,by decide +kernel,Chk.mk hs fun _=>⟨fun hr=>?_,fun hr=>?_⟩⟩
    ·refine ⟨by decide +kernel,Chk.mk hs fun _=>?_⟩
     refine Wm (wg s y x.fr (x.lt:Nat) 10 (wh s owe) hy2.cd) ?_
     simp only [↓XC,XV,XT,Yg,seval,TES,XRE,XR,XRH,Yh,↓Ya,Yb,yo,onB,XM]
     rw [hy1,bnE,if_neg (by simp),if_neg (by simp),if_pos ⟨rfl,rfl⟩,if_pos hr]
     exact Wf
    ·refine Wm (wg s y x.fr (x.lt:Nat) 7 fm hy2.cd) ?_
     simp only [↓XC,XV,XT,Yg,seval,TES,XRE,XR,XRH,Yh,↓Ya,Yb,yo,onB,XM]
     rw [hy1,bnE,if_neg (by simp),if_neg (by simp),if_pos ⟨rfl,rfl⟩,if_neg (by rw [hr];simp)]
     exact Wf
  rintro ⟨⟨w,wf⟩,hw⟩
  simp only at hw
  simp only [↓XC,XV,XT,Yg,seval,TES,XRE,XR,XRH,Yh,↓Ya,Yb,yo,onB]
  refine Wb (rscalar s y x.fr (x.lt:Nat) w.has w.an w.tg wf w.en n ⟨hs,hy2⟩) ?_
  simp only [↓XC,XV,XT,Yg,seval,TES,XRE,XR,XRH,Yh,↓Ya,Yb,yo,onB,XM]
  rw [hw,scK_lt]
  exact Wf
 ·simp only [decide_eq_false hqz]
  simp only [↓XC,XV,XT,Yg,seval,TES,XRE,XR,XRH,Yh,↓Ya,Yb,yo,onB]
  have e:(bnR s sb n inl lo x)=onB x q:=by unfold bnR;rw [←hq,if_pos hqz]
  rw [e]
  exact Wf (by simp only [↓XC,XV,XT,Yg,seval];try simp [Yf,onB,hqz])
end Go.T
end
section
set_option linter.unusedVariables false
set_option linter.unusedSimpArgs false
set_option linter.unusedSectionVars false
set_option linter.unnecessarySimpa false
namespace Go.T
variable [Go.Vg.Glob] [Go.Vg.GlobTabs 0 1]
open Go.Proofs Go.Vg Go.RowKit Go.TT Go.Pl
set_option maxRecDepth 10000
set_option maxHeartbeats 4000000
theorem zxa (s:Bs) (hs:s.length≤1048576):∀ (d:Nat) (x:Rb) (n:Int) (i l:Bool),Ok s x.r→x.r.dp+d=40→zcj Tryz.prog 252 s [.i .i64 n,.b i,.b l] x (bnF s d n i l x):=by
 intro d
 induction d with
 | zero=>
  intro x n i l ho hd
  refine zjy s x (fun _ _ _ x=>x) n i l (fun oh oa og ofr oe ha an tg fm pe x1 h1 h2 h3 h4=>?_) (fun oh oa og ofr oe x1 h1 h2 h3=>?_) ⟨hs,ho⟩
  ·exact znt s x1 (fun _ _ _ x=>x) oh oa og ofr oe ha an tg fm pe (fun h=>by omega) ⟨hs,h1,h3,h4⟩
  ·exact zjz s x1 (fun _ _ _ x=>x) oh oa og ofr oe (fun h=>by omega) ⟨hs,h1,h3⟩
 | succ d ih=>
  intro x n i l ho hd
  refine zjy s x (bnF s d) n i l (fun oh oa og ofr oe ha an tg fm pe x1 h1 h2 h3 h4=>?_) (fun oh oa og ofr oe x1 h1 h2 h3=>?_) ⟨hs,ho⟩
  ·exact znt s x1 (bnF s d) oh oa og ofr oe ha an tg fm pe (fun h=>⟨fun n2 i2 l2 x2 k1 k2 k3=>zpv d n2 i2 l2 x2 k1 (by omega) k3,fun n2 i2 l2 x2 k1 k2=>ih x2 n2 i2 l2 k1 (by omega)⟩) ⟨hs,h1,h3,h4⟩
  ·exact zjz s x1 (bnF s d) oh oa og ofr oe (fun h=>⟨fun n2 i2 l2 x2 k1 k2 k3=>zpv d n2 i2 l2 x2 k1 (by omega) k3,fun n2 i2 l2 x2 k1 k2=>ih x2 n2 i2 l2 k1 (by omega)⟩) ⟨hs,h1,h3⟩
end Go.T
end
section
set_option linter.unusedVariables false
set_option linter.unusedSimpArgs false
set_option linter.unusedSectionVars false
set_option linter.unnecessarySimpa false
namespace Go.T
variable [Go.Vg.Glob] [Go.Vg.GlobTabs 0 1]
open Go.Proofs Go.Vg Go.RowKit Go.TT Go.Pl
set_option maxRecDepth 10000
set_option maxHeartbeats 4000000
theorem risDir (s:Bs) (r:Rd) (fr:Bool) (la:Int) (hp:s.length≤1048576∧r.pos≤s.length):FnK Tryz.prog 212 5 [.ptr 0 0 0] [some (.blk false [.s s,.i .i64 ((r).pos:Nat),.slc 1 0 (r).ev.length,.slc 2 0 (r).ev.length,.mp 3,.slc 4 0 (r).hd.length,.i .i64 ((r).dp:Nat),.i .i64 (r).cd,.i .i64 ((r).pl:Nat),.b fr,.i .i64 la]),some (.row false 8 (r).ev.length (zg evc evz (r).ev)),some (.row false 1 (r).ev.length (zg qy false (r).dn)),some (.mapS (nmI (r).ev (r).bs)),some (.row false 2 (r).hd.length (zg hdc hdz (r).hd))] (fun z c=>z=.b (zp8 s r.pos)∧c=[some (.blk false [.s s,.i .i64 ((r).pos:Nat),.slc 1 0 (r).ev.length,.slc 2 0 (r).ev.length,.mp 3,.slc 4 0 (r).hd.length,.i .i64 ((r).dp:Nat),.i .i64 (r).cd,.i .i64 ((r).pl:Nat),.b fr,.i .i64 la]),some (.row false 8 (r).ev.length (zg evc evz (r).ev)),some (.row false 1 (r).ev.length (zg qy false (r).dn)),some (.mapS (nmI (r).ev (r).bs)),some (.row false 2 (r).hd.length (zg hdc hdz (r).hd))]):=by
 refine FnK.ofE (cf:=zk Tryz.prog te [(107,zm),(248,xg)] 25 5 false (fun _=>true) (kp [(0,[0]),(1,[2])]) [] [(1,[],[],.q1 0 (.q1 1 (.q1 2 (.q1 4 (.q1 5 (.q1 6 (.q0 3 [3] (.q0 7 [7] (.alt 8 (.q1 9 (.q1 10 (.q1 11 (.q1 12 (.q1 13 (.q1 15 (.q1 16 (.q1 17 (.q0 14 [14] (.q0 18 [18] (.alt 19 (.q1 20 (.q1 21 (.q1 22 (.fin)))) (.fin)))))))))))) (.fin))))))))))]) (zf te_ok (l:=[(107,zm),(248,xg)]) (⟨z6,za7,trivial⟩) zc) Tryz.func212 rfl rfl rfl (by simp [zk]) (by simp [zk]) (rs:=[.tmp 2]) rfl 100000 ?_
 simp only [↓XC,XV,XT,Yg,seval,TES,zd,wi,XRE,XR,XRH,Yh]
 rw [zu s hp.2]
 have e:(decide (byt s r.pos=37)&&decide (((coA s r.pos:Nat):Int)=0))=zp8 s r.pos:=by
  unfold zp8;congr 1;rw [decide_eq_decide];omega
 rw [e]
 exact ⟨by decide +kernel,Chk.mk hp.1 fun _=>Chk.mk (fun h=>⟨⟨h,h⟩,hp.1⟩) fun _=>⟨[0,1,2,3,4],by decide,by simp only [Yd];exact ⟨za (by simp [Yf,Yh]),zb fun _=>rfl,zb fun _=>rfl,zl,zb fun _=>rfl⟩,by simp only [↓XC,XV,XT,Yg,seval];try first | rfl | simp [Yf],by simp [zw,SO.ro],by simp⟩⟩
theorem rrest (s:Bs) (r:Rd) (fr:Bool) (la:Int) (hp:s.length≤1048576∧r.cd=0∧r.pos+3≤s.length):FnK Tryz.prog 145 5 [.ptr 0 0 0] [some (.blk false [.s s,.i .i64 ((r).pos:Nat),.slc 1 0 (r).ev.length,.slc 2 0 (r).ev.length,.mp 3,.slc 4 0 (r).hd.length,.i .i64 ((r).dp:Nat),.i .i64 (r).cd,.i .i64 ((r).pl:Nat),.b fr,.i .i64 la]),some (.row false 8 (r).ev.length (zg evc evz (r).ev)),some (.row false 1 (r).ev.length (zg qy false (r).dn)),some (.mapS (nmI (r).ev (r).bs)),some (.row false 2 (r).hd.length (zg hdc hdz (r).hd))] (fun z c=>z=.b (decide ((rmR s r).cd=0))∧c=[some (.blk false [.s s,.i .i64 ((rmR s r).pos:Nat),.slc 1 0 (rmR s r).ev.length,.slc 2 0 (rmR s r).ev.length,.mp 3,.slc 4 0 (rmR s r).hd.length,.i .i64 ((rmR s r).dp:Nat),.i .i64 (rmR s r).cd,.i .i64 ((rmR s r).pl:Nat),.b fr,.i .i64 la]),some (.row false 8 (rmR s r).ev.length (zg evc evz (rmR s r).ev)),some (.row false 1 (rmR s r).ev.length (zg qy false (rmR s r).dn)),some (.mapS (nmI (rmR s r).ev (rmR s r).bs)),some (.row false 2 (rmR s r).hd.length (zg hdc hdz (rmR s r).hd))]):=by
 refine FnK.ofE (cf:=zk Tryz.prog te [(210,wv)] 27 5 false (fun _=>false) (kp [(0,[0]),(1,[0,3,4]),(2,[0,3,19]),(3,[2]),(4,[]),(5,[2])]) [] [(1,[],[],.q1 0 (.q1 1 (.q1 2 (.q1 4 (.q1 5 (.q1 6 (.q0 3 [3] (.q0 7 [7] (.q1 8 (.alt 9 (.q1 10 (.q1 11 (.q1 12 (.q1 13 (.q1 14 (.fin)))))) (.fin)))))))))))]) (zf te_ok (l:=[(210,wv)]) (⟨j6,trivial⟩) zc) Tryz.func145 rfl rfl rfl (by simp [zk]) (by simp [zk]) (rs:=[.tmp 2]) rfl 100000 ?_
 simp only [↓XC,XV,XT,Yg,seval,TES,yz,XRE,XR,XRH,Yh]
 rw [show spot s ((r.pos:Int)+3)=r.pos+3 from by unfold spot;omega]
 refine ⟨by decide +kernel,Chk.mk (by simp only [inR];omega) fun _=>Chk.mk hp.1 fun _=>⟨fun h=>?_,fun h=>?_⟩⟩
 ·have e:rmR s r=flt r 8 (rsA s (r.pos+3)).1:=by unfold rmR;rw [if_pos (by simpa using h)]
  rw [e]
  refine Wm (wg s r fr la 8 (rsA s (r.pos+3)).1 hp.2.1) ?_
  simp only [↓XC,XV,XT,Yg,seval,TES,XRE,XR,XRH,Yh,XM]
  exact Wf
 ·have e:rmR s r=atR r (rsA s (r.pos+3)).1:=by unfold rmR;rw [if_neg (by simpa using h)]
  rw [e,decide_eq_true (show (atR r (rsA s (r.pos+3)).1).cd=0 from hp.2.1)]
  exact Wf
theorem zuu (s:Bs) (r:Rd) (fr:Bool) (la:Int) (y:Bool) (hp:s.length≤1048576∧OkD s r∧zp8 s r.pos=true):FnK Tryz.prog 213 2 [.ptr 0 0 0,.ptr 1 0 0] [some (.blk false [.s s,.i .i64 ((r).pos:Nat),.slc 2 0 (r).ev.length,.slc 3 0 (r).ev.length,.mp 4,.slc 5 0 (r).hd.length,.i .i64 ((r).dp:Nat),.i .i64 (r).cd,.i .i64 ((r).pl:Nat),.b fr,.i .i64 la]),some (.blk false [.b y]),some (.row false 8 (r).ev.length (zg evc evz (r).ev)),some (.row false 1 (r).ev.length (zg qy false (r).dn)),some (.mapS (nmI (r).ev (r).bs)),some (.row false 2 (r).hd.length (zg hdc hdz (r).hd))] (fun z c=>z=.b (decide ((drR s r y).cd=0))∧c=[some (.blk false [.s s,.i .i64 ((drR s r y).pos:Nat),.slc 2 0 (drR s r y).ev.length,.slc 3 0 (drR s r y).ev.length,.mp 4,.slc 5 0 (drR s r y).hd.length,.i .i64 ((drR s r y).dp:Nat),.i .i64 (drR s r y).cd,.i .i64 ((drR s r y).pl:Nat),.b fr,.i .i64 la]),some (.blk false [.b (drY s r.pos y)]),some (.row false 8 (drR s r y).ev.length (zg evc evz (drR s r y).ev)),some (.row false 1 (drR s r y).ev.length (zg qy false (drR s r y).dn)),some (.mapS (nmI (drR s r y).ev (drR s r y).bs)),some (.row false 2 (drR s r y).hd.length (zg hdc hdz (drR s r y).hd))]):=by
 refine FnK.ofE (cf:=zk Tryz.prog te [(249,jw),(250,x9),(143,jv),(144,yu)] 137 2 false (fun _=>true) (kp [(0,[0,1]),(1,[0,1,5,6]),(2,[0,1,5,6,7]),(3,[0,1,5,6,7,23]),(4,[0,1,6,7]),(5,[0,6,7]),(6,[0,5,6,7,51]),(7,[0,6,8]),(8,[0,6,7,8]),(9,[0,6,7,8,73,74,75]),(10,[0,6,7,8,73,74,75,76]),(11,[0,6,7,8,10,73,74,75]),(12,[0,6,7,8,73,74,75]),(13,[0,6,7,8,73,74,75]),(14,[0,6,7]),(15,[0,6,99]),(16,[4]),(17,[0]),(18,[4])]) [2,15] [(1,[],[],.q1 0 (.q1 1 (.q1 2 (.q1 4 (.q1 5 (.q1 6 (.q0 3 [3,8,9,10,11,12,13] (.q0 7 [7,8,9,10,11,12,13] (.alt 8 (.q1 9 (.q1 10 (.alt 11 (.seq [12,13]) (.alt 12 (.seq [11,13]) (.fin))))) (.fin)))))))))),(7,[],[],.q1 0 (.q1 1 (.q1 3 (.q1 4 (.q0 2 [2] (.q0 5 [5] (.q1 6 (.alt 7 (.alt 8 (.fin) (.fin)) (.fin))))))))),(14,[7,10],[0,5],.q1 0 (.q1 1 (.q1 2 (.q1 3 (.q0 4 [4,7,8,9,10] (.q0 5 [5,6,7,8,9,10] (.alt 6 (.sw (.alt 7 (.q1 8 (.q1 9 (.alt 10 (.fin) (.fin)))) (.fin))) (.fin)))))))),(18,[],[],.q1 0 (.q1 1 (.q1 2 (.q1 4 (.q1 5 (.q1 6 (.q0 3 [3,8,9,10,11,12,13,14,15,16,17,18,19,20,21,22] (.q0 7 [7,8,9,10,11,12,13,14,15,16,17,18,19,20,21,22] (.alt 8 (.q1 9 (.q1 10 (.q1 11 (.sw (.alt 12 (.q1 13 (.q1 14 (.q1 15 (.q1 16 (.q1 17 (.q1 18 (.alt 19 (.sw (.alt 20 (.seq [21,22]) (.fin))) (.fin)))))))) (.fin)))))) (.fin))))))))))]) (zf te_ok (l:=[(249,jw),(250,x9),(143,jv),(144,yu)]) (⟨zdb,zge,un,qw,trivial⟩) zc) Tryz.func213 rfl rfl rfl (by simp [zk]) (by simp [zk]) (rs:=[.tmp 4]) rfl 100000 ?_
 simp only [↓XC,XV,XT,Yg,seval,TES,zt,ya,yd,ze,XRE,XR,XRH,Yh,yo]
 obtain ⟨hs,ho,hd⟩:=hp
 have hpos:=ho.pos
 have hcd:=ho.cd
 have hhl:=ho.hd
 have hw0:=drW_pos hd
 have hwl:=drW_len s r.pos hpos
 have hwg:=fun i=>drW_get (s:=s) (p:=r.pos) i
 refine zgl.of (ι:=Unit) (fun _=>⟨[(0,.ptr 0 0 0),(1,.ptr 1 0 0),(5,.fs 1 ((drW s r.pos).map zbi)),(6,.i .i64 (en s r.pos:Nat))],[some (.blk false [.s s,.i .i64 ((r).pos:Nat),.slc 2 0 (r).ev.length,.slc 3 0 (r).ev.length,.mp 4,.slc 5 0 (r).hd.length,.i .i64 ((r).dp:Nat),.i .i64 (r).cd,.i .i64 ((r).pl:Nat),.b fr,.i .i64 la]),some (.blk false [.b y]),some (.row false 8 (r).ev.length (zg evc evz (r).ev)),some (.row false 1 (r).ev.length (zg qy false (r).dn)),some (.mapS (nmI (r).ev (r).bs)),some (.row false 2 (r).hd.length (zg hdc hdz (r).hd))]⟩) ?_ ?_
 ·simp only [↓XC,XV,XT,Yg,seval,TES,zt,ya,yd,ze,XRE,XR,XRH,Yh,↓Ya,Yb,yo,onB,↓Yc]
  rw [zu s hpos]
  rw [show zi9 s (en s r.pos) r.pos=drW s r.pos from rfl]
  exact ⟨by decide +kernel,Chk.mk hs fun _=>⟨⟨(),(Ent.ren1 [0,1,2,3,4,5] (by decide) (by simp only [Yd];exact ⟨za (by simp [Yf,Yh,onB]),za (by simp [Yf]),zb fun _=>rfl,zb fun _=>rfl,zl,zb fun _=>rfl⟩) (by simp [zi,Vg.look,SV.mapH,muL,onB]))⟩,⟨(),(Ent.ren1 [0,1,2,3,4,5] (by decide) (by simp only [Yd];exact ⟨za (by simp [Yf,Yh,onB]),za (by simp [Yf]),zb fun _=>rfl,zb fun _=>rfl,zl,zb fun _=>rfl⟩) (by simp [zi,Vg.look,SV.mapH,muL,onB]))⟩⟩⟩
 rintro ⟨⟩
 simp only [↓XC,XV,XT,Yg,seval,TES,zt,ya,yd,ze,XRE,XR,XRH,Yh,↓Ya,Yb,yo,onB,↓Yc]
 have hnm:∀ i,(drW s r.pos).getD i []=(drW s r.pos).getD i []:=fun _=>rfl
 refine zgl.of (ι:=Unit) (fun _=>⟨[(0,.ptr 0 0 0),(6,.i .i64 (en s r.pos:Nat)),(7,.b (drO s r y))],[some (.blk false [.s s,.i .i64 ((hdR r (drH s r)).pos:Nat),.slc 2 0 (hdR r (drH s r)).ev.length,.slc 3 0 (hdR r (drH s r)).ev.length,.mp 4,.slc 5 0 (hdR r (drH s r)).hd.length,.i .i64 ((hdR r (drH s r)).dp:Nat),.i .i64 (hdR r (drH s r)).cd,.i .i64 ((hdR r (drH s r)).pl:Nat),.b fr,.i .i64 la]),some (.blk false [.b (drY s r.pos y)]),some (.row false 8 (hdR r (drH s r)).ev.length (zg evc evz (hdR r (drH s r)).ev)),some (.row false 1 (hdR r (drH s r)).ev.length (zg qy false (hdR r (drH s r)).dn)),some (.mapS (nmI (hdR r (drH s r)).ev (hdR r (drH s r)).bs)),some (.row false 2 (hdR r (drH s r)).hd.length (zg hdc hdz (hdR r (drH s r)).hd))]⟩) ?_ ?_
 ·simp only [↓XC,XV,XT,Yg,seval,TES,zt,ya,yd,ze,XRE,XR,XRH,Yh,↓Ya,Yb,yo,onB,↓Yc]
  refine Chk.mk (by omega) fun _=>?_
  by_cases h0:(drW s r.pos).getD 0 []=[37,89,65,77,76]
  ·have h1:¬(drW s r.pos).getD 0 []=[37,84,65,71]:=by rw [h0];decide
   simp only [decide_eq_true h0,decide_eq_false h1]
   simp only [↓XC,XV,XT,Yg,seval,TES,zt,ya,yd,ze,XRE,XR,XRH,Yh,↓Ya,Yb,yo,onB,↓Yc]
   refine ⟨fun h2=>Chk.mk (by omega) fun _=>?_,fun h2=>Chk.mk (by omega) fun _=>?_⟩
   ·have hYm:isYm s r.pos=true:=by unfold isYm yamW;rw [decide_eq_true h0,decide_eq_true (show (drW s r.pos).length=2 by omega)];rfl
    have eH:hdR r (drH s r)=r:=by unfold drH;rw [if_pos hYm];rfl
    have eY:drY s r.pos y=true:=by unfold drY;rw [hYm];rfl
    have eO:drO s r y=((decide ((drW s r.pos).getD 1 []=[49,46,49])||decide ((drW s r.pos).getD 1 []=[49,46,50]))&&!y):=by unfold drO;rw [if_pos hYm]
    rw [eH,eY]
    by_cases h3:(drW s r.pos).getD 1 []=[49,46,49]
    ·simp only [decide_eq_true h3]
     simp only [↓XC,XV,XT,Yg,seval,TES,zt,ya,yd,ze,XRE,XR,XRH,Yh,↓Ya,Yb,yo,onB,↓Yc]
     rw [show drO s r y=!y by rw [eO,decide_eq_true h3];rfl]
     exact ⟨(),(Ent.ren1 [0,1,2,3,4,5] (by decide) (by simp only [Yd];exact ⟨za (by simp [Yf,Yh,onB]),za (by simp [Yf]),zb fun _=>rfl,zb fun _=>rfl,zl,zb fun _=>rfl⟩) (by simp [zi,Vg.look,SV.mapH,muL,onB]))⟩
    ·simp only [decide_eq_false h3]
     simp only [↓XC,XV,XT,Yg,seval,TES,zt,ya,yd,ze,XRE,XR,XRH,Yh,↓Ya,Yb,yo,onB,↓Yc]
     refine Chk.mk (by omega) fun _=>?_
     by_cases h4:(drW s r.pos).getD 1 []=[49,46,50]
     ·simp only [decide_eq_true h4]
      simp only [↓XC,XV,XT,Yg,seval,TES,zt,ya,yd,ze,XRE,XR,XRH,Yh,↓Ya,Yb,yo,onB,↓Yc]
      rw [show drO s r y=!y by rw [eO,decide_eq_false h3,decide_eq_true h4];rfl]
      exact ⟨(),(Ent.ren1 [0,1,2,3,4,5] (by decide) (by simp only [Yd];exact ⟨za (by simp [Yf,Yh,onB]),za (by simp [Yf]),zb fun _=>rfl,zb fun _=>rfl,zl,zb fun _=>rfl⟩) (by simp [zi,Vg.look,SV.mapH,muL,onB]))⟩
     ·simp only [decide_eq_false h4]
      simp only [↓XC,XV,XT,Yg,seval,TES,zt,ya,yd,ze,XRE,XR,XRH,Yh,↓Ya,Yb,yo,onB,↓Yc]
      rw [show drO s r y=false by rw [eO,decide_eq_false h3,decide_eq_false h4];rfl]
      exact ⟨(),(Ent.ren1 [0,1,2,3,4,5] (by decide) (by simp only [Yd];exact ⟨za (by simp [Yf,Yh,onB]),za (by simp [Yf]),zb fun _=>rfl,zb fun _=>rfl,zl,zb fun _=>rfl⟩) (by simp [zi,Vg.look,SV.mapH,muL,onB]))⟩
   ·simp only [decide_eq_false h1]
    simp only [↓XC,XV,XT,Yg,seval,TES,zt,ya,yd,ze,XRE,XR,XRH,Yh,↓Ya,Yb,yo,onB,↓Yc]
    have hYm:¬isYm s r.pos=true:=by unfold isYm;rw [decide_eq_false (show ¬(drW s r.pos).length=2 by omega)];simp
    have hTg:¬isTg s r.pos=true:=by
     unfold isTg
     first | (unfold tagW;rw [decide_eq_false h1];simp;done) | (rw [decide_eq_false (show ¬(drW s r.pos).length=3 by omega)];simp)
    have eH:hdR r (drH s r)=r:=by unfold drH;rw [if_neg hYm,if_neg hTg];rfl
    have eY:drY s r.pos y=y:=by unfold drY;rw [Bool.not_eq_true] at hYm;rw [hYm];rfl
    have eO:drO s r y=false:=by unfold drO;rw [if_neg hYm,if_neg hTg]
    rw [eH,eY,eO]
    exact ⟨(),(Ent.ren1 [0,1,2,3,4,5] (by decide) (by simp only [Yd];exact ⟨za (by simp [Yf,Yh,onB]),za (by simp [Yf]),zb fun _=>rfl,zb fun _=>rfl,zl,zb fun _=>rfl⟩) (by simp [zi,Vg.look,SV.mapH,muL,onB]))⟩
  ·simp only [decide_eq_false h0]
   simp only [↓XC,XV,XT,Yg,seval,TES,zt,ya,yd,ze,XRE,XR,XRH,Yh,↓Ya,Yb,yo,onB,↓Yc]
   refine Chk.mk (by omega) fun _=>?_
   have hYm:¬isYm s r.pos=true:=by unfold isYm yamW;rw [decide_eq_false h0];simp
   by_cases h1:(drW s r.pos).getD 0 []=[37,84,65,71]
   ·simp only [decide_eq_true h1]
    simp only [↓XC,XV,XT,Yg,seval,TES,zt,ya,yd,ze,XRE,XR,XRH,Yh,↓Ya,Yb,yo,onB,↓Yc]
    refine ⟨fun h2=>⟨by decide +kernel,Chk.mk (by omega) fun _=>Chk.mk (by omega) fun _=>Chk.mk ⟨Nat.le_trans (hwg 1) hs,Nat.le_trans (hwg 2) hs⟩ fun _=>?_⟩,fun h2=>?_⟩
    ·have hTg:isTg s r.pos=true:=by unfold isTg tagW;rw [decide_eq_true h1,decide_eq_true (show (drW s r.pos).length=3 by omega)];rfl
     refine yv.of (ι:={i:Nat // i≤r.hd.length}) (fun x=>⟨[(0,.ptr 0 0 0),(6,.i .i64 (en s r.pos:Nat)),(7,.b (hkO (drN s r.pos)&&(r.hd.take x.1).all fun h=>!decide (h.name=(drN s r.pos).name))),(8,.ptr 6 0 0),(73,.slc 5 0 r.hd.length),(74,.i .i64 (r.hd.length:Nat)),(75,.i .i64 (x.1:Nat))],[some (.blk false [.s s,.i .i64 ((r).pos:Nat),.slc 2 0 (r).ev.length,.slc 3 0 (r).ev.length,.mp 4,.slc 5 0 (r).hd.length,.i .i64 ((r).dp:Nat),.i .i64 (r).cd,.i .i64 ((r).pl:Nat),.b fr,.i .i64 la]),some (.blk false [.b y]),some (.row false 8 (r).ev.length (zg evc evz (r).ev)),some (.row false 1 (r).ev.length (zg qy false (r).dn)),some (.mapS (nmI (r).ev (r).bs)),some (.row false 2 (r).hd.length (zg hdc hdz (r).hd)),some (.blk false [.s ((drW s r.pos).getD 1 []),.s ((drW s r.pos).getD 2 [])])]⟩) (fun x=>r.hd.length-x.1) ⟨0,Nat.zero_le _⟩ (by rw [show (hkO (drN s r.pos)&&(r.hd.take 0).all fun h=>!decide (h.name=(drN s r.pos).name))=hkO ⟨(drW s r.pos).getD 1 [],(drW s r.pos).getD 2 []⟩ by simp [drN]];exact (Ent.ren1 [0,1,2,3,4,5,6] (by decide) (by simp only [Yd];exact ⟨za (by simp [Yf,Yh,onB]),za (by simp [Yf]),zb fun _=>rfl,zb fun _=>rfl,zl,zb fun _=>rfl,za (by simp [Yf])⟩) (by simp [zi,Vg.look,SV.mapH,muL,onB]))) ?_
     rintro ⟨i,hi⟩
     simp only [↓XC,XV,XT,Yg,seval,TES,XRE,XR,XRH,Yh,↓Ya,Yb,yo,onB,↓Yc]
     have hS:∀ i,i<r.hd.length→(hkO (drN s r.pos)&&(List.take (i+1) r.hd).all fun h=>!decide (h.name=(drN s r.pos).name))=((hkO (drN s r.pos)&&(List.take i r.hd).all fun h=>!decide (h.name=(drN s r.pos).name))&&!decide ((r.hd.getD i hdz).name=(drW s r.pos).getD 1 [])):=fun i hi=>by
      rw [List.take_add_one,List.getElem?_eq_getElem hi,Option.toList_some,List.all_append,List.all_cons,List.all_nil,Bool.and_true,←Bool.and_assoc,List.getD_eq_getElem?_getD,List.getElem?_eq_getElem hi]
      rfl
     refine ⟨fun h=>Chk.mk ⟨by omega,h⟩ fun _=>Chk.mk (by omega) fun _=>?_,fun h=>?_⟩
     ·have hS1:=hS i (by omega)
      generalize (hkO (drN s r.pos)&&(List.take i r.hd).all fun h=>!decide (h.name=(drN s r.pos).name))=b at *
      cases b
      ·simp only [↓XC,XV,XT,Yg,seval,TES,XRE,XR,XRH,Yh,↓Ya,Yb,yo,onB,↓Yc]
       refine Chk.mk (by simp only [inR];omega) fun _=>⟨⟨i+1,by omega⟩,by simp only;omega, ?_⟩
       simp only [hS1,Bool.false_and]
       exact (Ent.ren1 [0,1,2,3,4,5,6] (by decide) (by simp only [Yd];exact ⟨za (by simp [Yf,Yh,onB]),za (by simp [Yf]),zb fun _=>rfl,zb fun _=>rfl,zl,zb fun _=>rfl,za (by simp [Yf])⟩) (by simp [zi,Vg.look,SV.mapH,muL,onB]))
      ·simp only [↓XC,XV,XT,Yg,seval,TES,XRE,XR,XRH,Yh,↓Ya,Yb,yo,onB,↓Yc]
       refine Chk.mk (by simp only [inR];omega) fun _=>⟨⟨i+1,by omega⟩,by simp only;omega, ?_⟩
       simp only [hS1,Bool.true_and]
       exact (Ent.ren1 [0,1,2,3,4,5,6] (by decide) (by simp only [Yd];exact ⟨za (by simp [Yf,Yh,onB]),za (by simp [Yf]),zb fun _=>rfl,zb fun _=>rfl,zl,zb fun _=>rfl,za (by simp [Yf])⟩) (by simp [zi,Vg.look,SV.mapH,muL,onB]))
     ·have hi2:i=r.hd.length:=by omega
      have hhd:=ho.hd
      subst hi2
      have eH:drH s r=r.hd++[drN s r.pos]:=by unfold drH;rw [if_neg hYm,if_pos hTg]
      have eY:drY s r.pos y=y:=by unfold drY;rw [Bool.not_eq_true] at hYm;rw [hYm];rfl
      have eO:drO s r y=(hkO (drN s r.pos)&&(List.take r.hd.length r.hd).all fun h=>!decide (h.name=(drN s r.pos).name)):=by unfold drO;rw [if_neg hYm,if_pos hTg,List.take_length]
      rw [eH,eY,eO]
      exact ⟨by decide +kernel,qo rfl rfl,Chk.mk ⟨Nat.le_refl _,by omega⟩ fun _=>⟨(),(Ent.ren1 [0,1,2,3,4,8] (by decide) (by simp only [Yd];exact ⟨za (by simp [Yf,hdR]),za (by simp [Yf]),zb fun _=>rfl,zb fun _=>rfl,zl,vr r.hd (drN s r.pos) (fun _=>rfl) rfl rfl (by simp [hdR]) (fun _ _=>rfl) rfl rfl⟩) (by simp [zi,Vg.look,SV.mapH,muL,hdR]))⟩⟩
    ·have hTg:¬isTg s r.pos=true:=by
      unfold isTg
      first | (unfold tagW;rw [decide_eq_false h1];simp;done) | (rw [decide_eq_false (show ¬(drW s r.pos).length=3 by omega)];simp)
     have eH:hdR r (drH s r)=r:=by unfold drH;rw [if_neg hYm,if_neg hTg];rfl
     have eY:drY s r.pos y=y:=by unfold drY;rw [Bool.not_eq_true] at hYm;rw [hYm];rfl
     have eO:drO s r y=false:=by unfold drO;rw [if_neg hYm,if_neg hTg]
     rw [eH,eY,eO]
     exact ⟨(),(Ent.ren1 [0,1,2,3,4,5] (by decide) (by simp only [Yd];exact ⟨za (by simp [Yf,Yh,onB]),za (by simp [Yf]),zb fun _=>rfl,zb fun _=>rfl,zl,zb fun _=>rfl⟩) (by simp [zi,Vg.look,SV.mapH,muL,onB]))⟩
   ·simp only [decide_eq_false h1]
    simp only [↓XC,XV,XT,Yg,seval,TES,zt,ya,yd,ze,XRE,XR,XRH,Yh,↓Ya,Yb,yo,onB,↓Yc]
    have hTg:¬isTg s r.pos=true:=by
     unfold isTg
     first | (unfold tagW;rw [decide_eq_false h1];simp;done) | (rw [decide_eq_false (show ¬(drW s r.pos).length=3 by omega)];simp)
    have eH:hdR r (drH s r)=r:=by unfold drH;rw [if_neg hYm,if_neg hTg];rfl
    have eY:drY s r.pos y=y:=by unfold drY;rw [Bool.not_eq_true] at hYm;rw [hYm];rfl
    have eO:drO s r y=false:=by unfold drO;rw [if_neg hYm,if_neg hTg]
    rw [eH,eY,eO]
    exact ⟨(),(Ent.ren1 [0,1,2,3,4,5] (by decide) (by simp only [Yd];exact ⟨za (by simp [Yf,Yh,onB]),za (by simp [Yf]),zb fun _=>rfl,zb fun _=>rfl,zl,zb fun _=>rfl⟩) (by simp [zi,Vg.look,SV.mapH,muL,onB]))⟩
 rintro ⟨⟩
 simp only [↓XC,XV,XT,Yg,seval,TES,zt,ya,yd,ze,XRE,XR,XRH,Yh,↓Ya,Yb,yo,onB,↓Yc]
 have hen:=zcd s r.pos hpos
 have hg:=qt s (en s r.pos) hen
 rw [zu s hen,zu s hg]
 have hcd2:(hdR r (drH s r)).cd=0:=hcd
 refine ⟨fun h=>?_,fun h=>Chk.mk hs fun _=>⟨by decide +kernel,Chk.mk hs fun _=>?_⟩⟩
 ·refine zj.mut (wg s (hdR r (drH s r)) fr la 13 (hdR r (drH s r)).pos hcd2) rfl [0,2,3,4,5] (by simp [Yf]) (by simp only [Ye];exact ⟨by omega,za (by simp [Yf,Yh,onB]),by omega,zb fun _=>rfl,by omega,zb fun _=>rfl,by omega,zl,by omega,zb fun _=>rfl⟩) (by decide) ?_
  simp only [↓XC,XV,XT,Yg,seval,TES,XRE,XR,XRH,Yh,↓Ya,Yb,yo,onB,↓Yc,XM]
  have e:drR s r y=flt (hdR r (drH s r)) 13 r.pos:=by unfold drR;rw [if_pos (by simpa using h)]
  rw [e]
  exact ⟨[0,1,2,3,4,5],by decide,by simp only [Yd];exact ⟨za (by simp [Yf,Yh,onB,hdR]),za (by simp [Yf]),zb fun _=>rfl,zb fun _=>rfl,zl,zb fun _=>rfl⟩,by simp only [↓XC,XV,XT,Yg,seval];try first | rfl | simp [Yf,onB,hdR],by simp [zw,SO.ro],by simp⟩
 ·have hR:drR s r y=if mkA s (gpE s (en s r.pos))=1∨zp8 s (gpE s (en s r.pos))=true then atR (hdR r (drH s r)) (gpE s (en s r.pos)) else flt (atR (hdR r (drH s r)) (gpE s (en s r.pos))) 13 (gpE s (en s r.pos)):=by unfold drR;rw [if_neg (by simpa using h)]
  generalize gpE s (en s r.pos)=g at *
  by_cases hm:mkA s g=1
  ·simp only [decide_eq_true hm]
   simp only [↓XC,XV,XT,Yg,seval,TES,zt,ya,yd,ze,XRE,XR,XRH,Yh,↓Ya,Yb,yo,onB,↓Yc]
   rw [hR,if_pos (.inl hm)]
   exact ⟨[0,1,2,3,4,5],by decide,by simp only [Yd];exact ⟨za (by simp [Yf,Yh,onB,hdR]),za (by simp [Yf]),zb fun _=>rfl,zb fun _=>rfl,zl,zb fun _=>rfl⟩,by simp only [↓XC,XV,XT,Yg,seval];try simp [Yf,onB,hcd2,atR],by simp [zw,SO.ro],by simp⟩
  ·simp only [decide_eq_false hm]
   simp only [↓XC,XV,XT,Yg,seval,TES,zt,ya,yd,ze,XRE,XR,XRH,Yh,↓Ya,Yb,yo,onB,↓Yc]
   refine zj.ungd (args':=[.ptr 0 0 0]) ?_ (fun σ vs h=>by rwa [zw7] at h)
   refine zj.mut (risDir s (atR (hdR r (drH s r)) g) fr la ⟨hs,hg⟩) rfl [0,2,3,4,5] (by simp [Yf]) (by simp only [Ye];exact ⟨by omega,za (by simp [Yf,Yh,onB]),by omega,zb fun _=>rfl,by omega,zb fun _=>rfl,by omega,zl,by omega,zb fun _=>rfl⟩) (by decide) ?_
   simp only [↓XC,XV,XT,Yg,seval,TES,XRE,XR,XRH,Yh,↓Ya,Yb,yo,onB,↓Yc,XM]
   cases hd2:zp8 s g
   ·simp only [↓XC,XV,XT,Yg,seval,TES,zt,ya,yd,ze,XRE,XR,XRH,Yh,↓Ya,Yb,yo,onB,↓Yc]
    refine zj.ungd (args':=[.ptr 0 0 0,.i .i64 13,.i .i64 (g:Nat)]) ?_ (fun σ vs h=>by rwa [zw7,relL_gd3] at h)
    refine zj.mut (wg s (atR (hdR r (drH s r)) g) fr la 13 g hcd2) rfl [0,2,3,4,5] (by simp [Yf]) (by simp only [Ye];exact ⟨by omega,za (by simp [Yf,Yh,onB]),by omega,zb fun _=>rfl,by omega,zb fun _=>rfl,by omega,zl,by omega,zb fun _=>rfl⟩) (by decide) ?_
    simp only [↓XC,XV,XT,Yg,seval,TES,XRE,XR,XRH,Yh,↓Ya,Yb,yo,onB,↓Yc,XM]
    rw [hR,if_neg (by rintro (h9 | h9);exact hm h9;rw [hd2] at h9;cases h9)]
    exact ⟨[0,1,2,3,4,5],by decide,by simp only [Yd];exact ⟨za (by simp [Yf,Yh,onB,hdR]),za (by simp [Yf]),zb fun _=>rfl,zb fun _=>rfl,zl,zb fun _=>rfl⟩,by simp only [↓XC,XV,XT,Yg,seval];try first | rfl | simp [Yf,onB,hdR],by simp [zw,SO.ro],by simp⟩
   ·simp only [↓XC,XV,XT,Yg,seval,TES,zt,ya,yd,ze,XRE,XR,XRH,Yh,↓Ya,Yb,yo,onB,↓Yc]
    rw [hR,if_pos (.inr hd2)]
    exact ⟨[0,1,2,3,4,5],by decide,by simp only [Yd];exact ⟨za (by simp [Yf,Yh,onB,hdR]),za (by simp [Yf]),zb fun _=>rfl,zb fun _=>rfl,zl,zb fun _=>rfl⟩,by simp only [↓XC,XV,XT,Yg,seval];try simp [Yf,onB,hcd2,atR],by simp [zw,SO.ro],by simp⟩
end Go.T
end
