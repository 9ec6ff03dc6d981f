/- Rows of pieces. -/
import Derived.Test.YtgippllfnmdnpaaGreatDoorTAP
import Derived.Test.YtgippllfnmdnpaaGreatDoorTAW
import Derived.Test.YtgippllfnmdnpaaGreatDoorTAR
import Derived.Test.YtgippllfnmdnpaaGreatDoorTAK
import Derived.Test.YtgippllfnmdnpaaGreatDoorTAS
import Derived.Test.YtgippllfnmdnpaaGreatDoorTAL
import Derived.Test.YtgippllfnmdnpaaGreatDoorTAU
section
set_option linter.unusedVariables false
set_option linter.unusedSimpArgs false
set_option linter.unusedSectionVars false
set_option linter.unnecessarySimpa false
namespace Go.Vg
variable [Go.Vg.Glob]
open Go.Pl
def pcc (e:Pc):List SV:=[.s e.text,.b e.glue]
theorem pcc_inj {l m:List Pc}:l.map pcc=m.map pcc↔l=m:=zfc fun a b h=>by cases a;cases b;simpa [pcc] using h
theorem ztq (a:List Pc) (i:Nat):(a.map pcc).getD i [.s [],.b false]=[.s (a.getD i pcz).text,.b (a.getD i pcz).glue]:=zbc pcc a i pcz
theorem zwz {a:List Pc} {i:Nat}:zg pcc pcz a i=[.s (a.getD i pcz).text,.b (a.getD i pcz).glue]:=id rfl
theorem zww {μ:Nat→Nat} {r:Bool} {sz n:Nat} {a:List Pc}:SO.mapH μ (.row r sz n (zg pcc pcz a))=.row r sz n (zg pcc pcz a):=rowH fun _=>rfl
theorem pcEta (e:Pc):(⟨e.text,e.glue⟩:Pc)=e:=id rfl
theorem XRP:type_of% (And.intro (And.intro @ztq @zwz) (And.intro @zww @pcEta)):=And.intro (And.intro @ztq @zwz) (And.intro @zww @pcEta)
theorem zno {α:Type} {enc:α→List SV} {z:α} {xs:List α} {y:α} {sz:Nat} {f:Nat→List SV} (hf:∀ j,j<xs.length→f j=zg enc z xs j) (hl:(enc y).length=sz) :
  jy (zgi xs.length f fun j=>wl (enc y) sz j) 0 (xs.length+1)=(xs++[y]).map enc:=by
 rw [←w8 (enc:=enc) (z:=z) (xs:=xs++[y]) (n:=xs.length+1) (by simp)]
 unfold jy
 apply List.map_congr_left
 intro j hj
 rw [Nat.zero_add]
 exact zak rfl hf hl (by simpa using hj)
theorem zag {μ:Nat→Nat} {α:Type} {enc:α→List SV} {z:α} (xs:List α) (y:α) (sz:Nat) {f:Nat→List SV} {cs:List SV} (hp:∀ x,plainL (enc x)=true) (hf:∀ j,j<xs.length→f j=zg enc z xs j) (hy:cs=enc y) (hl:(enc y).length=sz) :
  soLe μ (.row false sz (xs.length+1) (zg enc z (xs++[y]))) (.row false sz (xs.length+1) (zgi xs.length f fun j=>wl cs sz j)):=by
 subst hy
 refine zh fun j hj=>?_
 rw [zak (z:=z) rfl hf hl hj]
 exact q6 (hp _)
theorem zlm {α:Type} {enc:α→List SV} (z:α) (xs:List α) (y:α) (sz:Nat) {f:Nat→List SV} {cs:List SV} (hf:∀ j,j<xs.length→f j=zg enc z xs j) (hy:cs=enc y) (hl:(enc y).length=sz) :
  jy (zgi xs.length f fun j=>wl cs sz j) 0 (xs.length+1)=(xs++[y]).map enc:=by
 subst hy;exact zno (z:=z) hf hl
theorem zvl {α:Type} {enc:α→List SV} (z:α) (xs:List α) (y:α) (sz:Nat) {f:Nat→List SV} {cs:List SV} (hp:∀ x,plainL (enc x)=true) (hf:∀ j,j<xs.length→f j=zg enc z xs j) (hy:cs=enc y) (hl:∀ x,(enc x).length=sz) :
  ∀ j,j<xs.length+1→(zgi xs.length f (fun j=>wl cs sz j) j).length=sz∧plainL (zgi xs.length f (fun j=>wl cs sz j) j)=true:=by
 intro j hj
 subst hy
 rw [zak (z:=z) rfl hf (hl y) hj]
 exact ⟨hl _,hp _⟩
end Go.Vg
end
section
set_option linter.unusedVariables false
set_option linter.unusedSimpArgs false
set_option linter.unusedSectionVars false
set_option linter.unnecessarySimpa false
namespace Go.Vg
variable [Go.Vg.Glob]
open Go.Pl
def hdc (e:Hd):List SV:=[.s e.name,.s e.pre]
theorem hdc_inj {l m:List Hd}:l.map hdc=m.map hdc↔l=m:=zfc fun a b h=>by cases a;cases b;simpa [hdc] using h
theorem ztr (a:List Hd) (i:Nat):(a.map hdc).getD i [.s [],.s []]=[.s (a.getD i hdz).name,.s (a.getD i hdz).pre]:=zbc hdc a i hdz
theorem zw0 {a:List Hd} {i:Nat}:zg hdc hdz a i=[.s (a.getD i hdz).name,.s (a.getD i hdz).pre]:=id rfl
theorem zwx {μ:Nat→Nat} {r:Bool} {sz n:Nat} {a:List Hd}:SO.mapH μ (.row r sz n (zg hdc hdz a))=.row r sz n (zg hdc hdz a):=rowH fun _=>rfl
theorem hdEta (e:Hd):(⟨e.name,e.pre⟩:Hd)=e:=id rfl
theorem XRH:type_of% (And.intro (And.intro @ztr @zw0) (And.intro @zwx @hdEta)):=And.intro (And.intro @ztr @zw0) (And.intro @zwx @hdEta)
end Go.Vg
namespace Go.Vg
variable [Go.Vg.Glob]
theorem vr {μ:Nat→Nat} {α:Type} {enc:α→List SV} {z:α} (xs:List α) (y:α) {ys:List α} {sz n m:Nat} {f:Nat→List SV} {cs:List SV} (hp:∀ x,plainL (enc x)=true) (hys:ys=xs++[y]) (hn:n=xs.length) (hm:m=n+1) (hf:∀ j,j<n→f j=zg enc z xs j) (hy:cs=enc y) (hl:(enc y).length=sz) :
  soLe μ (.row false sz m (zg enc z ys)) (.row false sz (n+1) (zgi n f fun j=>wl cs sz j)):=by
 subst hy;subst hys;subst hn;subst hm
 refine zh fun j hj=>?_
 rw [zak (z:=z) rfl hf hl hj]
 exact q6 (hp _)
end Go.Vg
end
section
set_option linter.unusedVariables false
set_option linter.unusedSimpArgs false
set_option linter.unusedSectionVars false
set_option linter.unnecessarySimpa false
namespace Go.Vg
variable [Go.Vg.Glob]
open Go.Pl
theorem zl {μ:Nat→Nat} {l:List (List UInt8×Int)}:soLe μ (.mapS l) (.mapS l):=⟨id,rfl,rfl,Nat.le_refl _,rfl,fun i hi=>absurd hi (Nat.not_lt_zero _)⟩
end Go.Vg
namespace Go.Vg
variable [Go.Vg.Glob]
open Go.Pl
end Go.Vg
namespace Go.Vg
variable [Go.Vg.Glob]
open Go.RowKit
end Go.Vg
end
section
set_option linter.unusedVariables false
set_option linter.unusedSimpArgs false
set_option linter.unusedSectionVars false
set_option linter.unnecessarySimpa false
namespace Go.Vg
variable [Go.Vg.Glob]
open Go.Pl
/-- A function's end,of which only so much is told. -/
def FinQ (te:TE) (k pl:Nat) (rs:List ResultVar) (Q:SV→Ctx→Prop) (st:St):Prop:=∃ Z C,Q Z C∧FinE te k pl rs Z C st
theorem FnK.ofQ {cf:Cf} (hcf:cf.ok) {f:FuncId} {fn:Func} {c:Code} (hf:cf.P.funcs[f]?=some fn) (hb:fn.body=some c) (hname:(fn.name == "runtime.NumGoroutine")=false)
  (hnt:fn.ntmps=cf.nt) {args:List SV} {pre:Ctx} (hlen:args.length≤cf.nt) (hk:cf.k≤pre.length) {rs:List ResultVar} (hrs:fn.results.toList=rs) {Q:SV→Ctx→Prop} (n:Nat)
  (h:vc cf (FinQ cf.te cf.k pre.length rs Q) n [.code c] ⟨zdk 0 args,pre⟩):FnK cf.P f cf.k args pre Q:=by
 refine FnK.ofG hcf hf hb hname hnt hlen hk hrs (fun A σ st a w hAk _ hF hR=>?_) n h
 obtain ⟨Z,C,hQ,l,⟨h1,h2⟩,h3,h4,h5,h6⟩:=hF
 rw [←hrs] at h4
 obtain ⟨z,v,hz,hv,hr⟩:=zcm (P:=cf.P) hcf.te hR h4
 subst hz
 exact ⟨Z,v,C,σ.ren (muL l st.ctx.length),hQ,hv,(xy _ _ _ _).1 hr,Rel.ren (st':=⟨[],C⟩) l h1 h2 h3 trivial hAk hR,h5,h6⟩
theorem zm4 {P:Program} {te:TE} {wr:Bool} {nt:Nat} {pt:PT} {st:St} {K:Sl St} {d:Tmp} {want:Bool} {o:Oper} (h:look st.env d=.b want):zfn true P te wr nt pt (some d) want st o K=XOs P te wr nt pt false true st o K:=by
 rw [zld,h,zgt]
 cases want<;>simp
theorem zm5 {P:Program} {te:TE} {wr:Bool} {nt:Nat} {pt:PT} {st:St} {K:Sl St} {d:Tmp} {want:Bool} {o:Oper} (h:look st.env d=.b (!want)):zfn true P te wr nt pt (some d) want st o K=wk nt st o.dst (.gd false (.b false)) K:=by
 rw [zld,h,zgt]
 cases want<;>simp
theorem zm6 {P:Program} {te:TE} {wr:Bool} {nt:Nat} {pt:PT} {st:St} {K:Sl St} {d:Tmp} {want:Bool} {o:Oper} (h:look st.env d=.gd false (.b false)):zfn true P te wr nt pt (some d) want st o K=wk nt st o.dst (.gd false (.b false)) K:=by
 rw [zld,h,zh7]
 simp
/-- The reader's objects. -/
def rdC (s:Bs) (r:Rd) (fr:Bool) (la:Int):Ctx:=[some (.blk false [.s s,.i .i64 (r.pos:Nat),.slc 1 0 r.ev.length,.slc 2 0 r.ev.length,.mp 3,.slc 4 0 r.hd.length,.i .i64 (r.dp:Nat),.i .i64 r.cd,.i .i64 (r.pl:Nat),.b fr,.i .i64 la]),some (.row false 8 r.ev.length (zg evc evz r.ev)),some (.row false 1 r.ev.length (zg qy false r.dn)),some (.mapS (nmI r.ev r.bs)),some (.row false 2 r.hd.length (zg hdc hdz r.hd))]
/-- A method that brings the reader from one state to another and tells whether there is no fault. -/
def zc0 (P:Program) (f:FuncId) (s:Bs) (fr:Bool) (la:Int) (args:List SV) (r r':Rd):Prop:=FnK P f 1 (.ptr 0 0 0::args) (rdC s r fr la) fun z c=>z=.b (decide (r'.cd=0))∧c=rdC s r' fr la
end Go.Vg
namespace Go.Vg
variable [Go.Vg.Glob]
open Go.Pl
end Go.Vg
end
section
set_option linter.unusedVariables false
set_option linter.unusedSimpArgs false
set_option linter.unusedSectionVars false
set_option linter.unnecessarySimpa false
namespace Go.Vg
variable [Go.Vg.Glob]
theorem Ya:type_of% (And.intro @zm4 (And.intro @zm5 @zm6)):=(And.intro @zm4 (And.intro @zm5 @zm6))
theorem Yb:type_of% (And.intro Bool.not_true Bool.not_false):=(And.intro Bool.not_true Bool.not_false)
theorem Yc:type_of% (And.intro @XW_sw (And.intro @z0e @z0d)):=(And.intro @XW_sw (And.intro @z0e @z0d))
theorem Yd:type_of% (And.intro (And.intro @vh.eq_1 (And.intro @vh.eq_2 @vh.eq_3)) (And.intro (And.intro @ye @yi) (And.intro @and_true @true_and))):=(And.intro (And.intro @vh.eq_1 (And.intro @vh.eq_2 @vh.eq_3)) (And.intro (And.intro @ye @yi) (And.intro @and_true @true_and)))
theorem Ye:type_of% (And.intro (And.intro (And.intro @xl.eq_1 @xl.eq_2) (And.intro @xl.eq_3 @ye)) (And.intro (And.intro @yi @and_true) (And.intro @List.length_cons.{0} @List.length_nil.{0}))):=(And.intro (And.intro (And.intro @xl.eq_1 @xl.eq_2) (And.intro @xl.eq_3 @ye)) (And.intro (And.intro @yi @and_true) (And.intro @List.length_cons.{0} @List.length_nil.{0})))
theorem Yf:type_of% (And.intro (And.intro (And.intro (And.intro @jb.eq_1 @jb.eq_2) (And.intro @SV.mapH.eq_1 @SV.mapH.eq_2)) (And.intro (And.intro @SV.mapH.eq_3 @SV.mapH.eq_4) (And.intro @SV.mapH.eq_5 @SV.mapH.eq_6))) (And.intro (And.intro (And.intro @SV.mapH.eq_7 @SV.mapH.eq_8) (And.intro @SV.mapH.eq_9 @SV.mapH.eq_10)) (And.intro (And.intro @SV.mapH.eq_11 @SV.mapH.eq_12) (And.intro @SV.mapH.eq_13 (And.intro @SV.mapH.eq_14 @muL.eq_1))))):=(And.intro (And.intro (And.intro (And.intro @jb.eq_1 @jb.eq_2) (And.intro @SV.mapH.eq_1 @SV.mapH.eq_2)) (And.intro (And.intro @SV.mapH.eq_3 @SV.mapH.eq_4) (And.intro @SV.mapH.eq_5 @SV.mapH.eq_6))) (And.intro (And.intro (And.intro @SV.mapH.eq_7 @SV.mapH.eq_8) (And.intro @SV.mapH.eq_9 @SV.mapH.eq_10)) (And.intro (And.intro @SV.mapH.eq_11 @SV.mapH.eq_12) (And.intro @SV.mapH.eq_13 (And.intro @SV.mapH.eq_14 @muL.eq_1)))))
theorem Yg:type_of% (And.intro (And.intro @forall_const.{0} @forall_const.{1}) (And.intro @implies_true.{0} @implies_true.{1})):=(And.intro (And.intro @forall_const.{0} @forall_const.{1}) (And.intro @implies_true.{0} @implies_true.{1}))
end Go.Vg
end
section
set_option linter.unusedVariables false
set_option linter.unusedSimpArgs false
set_option linter.unusedSectionVars false
set_option linter.unnecessarySimpa false
namespace Go.Pl
theorem Yh:type_of% (And.intro (And.intro @flt.eq_1 @atR.eq_1) (And.intro @zn.eq_1 @y5.eq_1)):=(And.intro (And.intro @flt.eq_1 @atR.eq_1) (And.intro @zn.eq_1 @y5.eq_1))
end Go.Pl
end
section
set_option linter.unusedVariables false
set_option linter.unusedSimpArgs false
set_option linter.unusedSectionVars false
set_option linter.unnecessarySimpa false
namespace Go.Vg
open Go.Pl
variable [Go.Vg.Glob]
theorem Yi:type_of% (And.intro (And.intro (And.intro (And.intro @Bool.or_eq_true @Bool.and_eq_true) (And.intro @Bool.or_eq_false_iff @Bool.and_eq_false_iff)) (And.intro (And.intro @decide_eq_true_eq @decide_eq_false_iff_not) (And.intro @Bool.not_eq_true' @Bool.not_eq_false'))) (And.intro (And.intro (And.intro @beq_iff_eq.{0} @beq_eq_false_iff_ne.{0}) (And.intro @ne_eq.{1} @ge_iff_le.{0})) (And.intro (And.intro @gt_iff_lt.{0} @Int.not_le) (And.intro @Int.not_lt (And.intro @Int.ofNat_le @Int.ofNat_lt))))):=(And.intro (And.intro (And.intro (And.intro @Bool.or_eq_true @Bool.and_eq_true) (And.intro @Bool.or_eq_false_iff @Bool.and_eq_false_iff)) (And.intro (And.intro @decide_eq_true_eq @decide_eq_false_iff_not) (And.intro @Bool.not_eq_true' @Bool.not_eq_false'))) (And.intro (And.intro (And.intro @beq_iff_eq.{0} @beq_eq_false_iff_ne.{0}) (And.intro @ne_eq.{1} @ge_iff_le.{0})) (And.intro (And.intro @gt_iff_lt.{0} @Int.not_le) (And.intro @Int.not_lt (And.intro @Int.ofNat_le @Int.ofNat_lt)))))
theorem Wm {P:Program} {f:FuncId} {args0:List SV} {pre:Ctx} {Z:SV} {C:Ctx} (hF:FnK P f 5 args0 pre fun z c=>z=Z∧c=C) {args:List SV} {kk:Nat} {st:St} {K:Sl (SV×St)}
  (hK:K.f (Z.mapH (muL [0,1,2,3,4] st.ctx.length),⟨st.env,zr (muL [0,1,2,3,4] st.ctx.length) [0,1,2,3,4] pre C st.ctx⟩))
  (hargs:jb (muL [0,1,2,3,4] st.ctx.length) args0=args:=by simp [Yf]) (hkl:pre.length=5:=by rfl)
  (hmap:xl (muL [0,1,2,3,4] st.ctx.length) st.ctx [0,1,2,3,4] pre:=by simp only [Ye];exact ⟨by omega,za (by simp [Yf,Yh,onB]),by omega,zb fun _=>rfl,by omega,zb fun _=>rfl,by omega,zl,by omega,zb fun _=>rfl⟩):zj P f args kk st K:=
 zj.mut hF hkl [0,1,2,3,4] hargs hmap (by decide) hK
theorem Wb {P:Program} {f:FuncId} {k:Nat} {args0:List SV} {pre:Ctx} {Z:SV} {C:Ctx} (hF:FnK P f k args0 pre fun z c=>z=Z∧c=C) {args:List SV} {kk:Nat} {st:St} {K:Sl (SV×St)}
  (hK:K.f (Z.mapH (muL [0,1,2,3,4] st.ctx.length),⟨zd5 ([0,1,2,3,4].drop k) st.env,zr (muL [0,1,2,3,4] st.ctx.length) [0,1,2,3,4] pre C st.ctx⟩))
  (hargs:jb (muL [0,1,2,3,4] st.ctx.length) args0=args:=by simp [Yf])
  (hmap:xl (muL [0,1,2,3,4] st.ctx.length) st.ctx [0,1,2,3,4] pre:=by simp only [Ye];exact ⟨by omega,za (by simp [Yf,Yh,onB]),by omega,zb fun _=>rfl,by omega,zb fun _=>rfl,by omega,zl,by omega,zb fun _=>rfl⟩)
  (hrw:zw k pre:=by simp [zw,SO.ro]) (hfix:(([0,1,2,3,4]:List Nat).drop k).all (fun g=>decide (kk≤g))=true:=by decide)
  (hclean:j8 (([0,1,2,3,4]:List Nat).drop k) (zf9 [0,1,2,3,4] pre) 0 st.ctx:=by simp [j8,zf9,vi,zd4,noH,SO.ro,wl]):zj P f args kk st K:=
 zj.reb hF [0,1,2,3,4] hargs hmap (by decide) hrw hfix hclean hK
theorem Wf {A B C D E:List Nat→Prop} (c:C [0,1,2,3,4]:=by simp only [↓XC,XV,XT,Yg,seval];try first | rfl | simp [Yf,onB]) (a:A [0,1,2,3,4]:=by decide)
  (b:B [0,1,2,3,4]:=by simp only [Yd];exact ⟨za (by simp [Yf,Yh,onB]),zb fun _=>rfl,zb fun _=>rfl,zl,zb fun _=>rfl⟩)
  (d:D [0,1,2,3,4]:=by simp [zw,SO.ro]) (e:E [0,1,2,3,4]:=by simp):∃ l,A l∧B l∧C l∧D l∧E l:=⟨_,a,b,c,d,e⟩
end Go.Vg
end
section
set_option linter.unusedVariables false
set_option linter.unusedSimpArgs false
set_option linter.unusedSectionVars false
set_option linter.unnecessarySimpa false
namespace Go.Vg
variable [Go.Vg.Glob]
open Go.Pl
theorem zj.mutQ {P:Program} {f:FuncId} {k:Nat} {args0:List SV} {pre:Ctx} {Q:SV→Ctx→Prop} (hF:FnK P f k args0 pre Q) (hkl:pre.length=k) (l:List Nat) {args:List SV} {kk:Nat} {st:St} {K:Sl (SV×St)}
  (hargs:jb (muL l st.ctx.length) args0=args) (hmap:xl (muL l st.ctx.length) st.ctx l pre) (hnd:l.Nodup)
  (hK:∀ z c,Q z c→K.f (z.mapH (muL l st.ctx.length),⟨st.env,zr (muL l st.ctx.length) l pre c st.ctx⟩)):zj P f args kk st K:=by
 subst hkl
 have hl:=(zcy hmap).1
 have hd:l.drop pre.length=[]:=by rw [←hl];exact List.drop_length
 refine zgk.of hF l hargs.symm hmap (.inr hnd) (by simp [zw]) (by rw [hd];rfl) (.inl hd) (by rw [hd];exact uh) ?_
 intro z c h
 rw [hd,zb6]
 exact hK z c h
theorem zj.ownQ {P:Program} {f:FuncId} {args:List SV} {Q:SV→Ctx→Prop} (hF:FnK P f 0 args [] Q) (hp:plainL args=true) {kk:Nat} {st:St} {K:Sl (SV×St)}
  (hK:∀ z c,Q z c→K.f (z.mapH (muL [] st.ctx.length),⟨st.env,zr (muL [] st.ctx.length) [] [] c st.ctx⟩)):zj P f args kk st K:=
 zj.mutQ hF rfl [] (q6 hp) trivial (by decide) hK
/-- A text so long at most,and the draws gone on. -/
def DrS (cd:Bs) (B:Nat):SV→Ctx→Prop:=fun z c=>∃ (t:Bs) (d:Nat×Int),t.length≤B∧d.1≤cd.length∧z=.s t∧c=[some (.blk false [.fs 1 (cd.map u6),.i .i64 (d.1:Nat),.i .i64 d.2])]
theorem DrS.mk {cd:Bs} {B:Nat} (t:Bs) (d:Nat×Int) (h1:t.length≤B) (h2:d.1≤cd.length):DrS cd B (.s t) [some (.blk false [.fs 1 (cd.map u6),.i .i64 (d.1:Nat),.i .i64 d.2])]:=⟨t,d,h1,h2,rfl,rfl⟩
/-- Up to three rounds,each so much longer at most. -/
def lp3 (A S r l:Nat):Prop:=r≤3∧(r=3→l≤A)∧(r=2→l≤A+S)∧(r=1→l≤A+2 * S)∧(r=0→l≤A+3 * S)
theorem lp3.start {A S r l:Nat} (h:r≤3) (hl:l≤A):lp3 A S r l:=⟨h,fun _=>hl,fun _=>by omega,fun _=>by omega,fun _=>by omega⟩
theorem lp3.step {A S r l l':Nat} (h:lp3 A S (r+1) l) (hl:l'≤l+S):lp3 A S r l':=by
 obtain ⟨h1,h2,h3,h4,h5⟩:=h
 exact ⟨by omega,fun h=>by omega,fun h=>by have:=h2 (by omega);omega,fun h=>by have:=h3 (by omega);omega,fun h=>by have:=h4 (by omega);omega⟩
theorem lp3.le {A S r l:Nat} (h:lp3 A S r l):r≤3:=h.1
theorem lp3.all {A S r l:Nat} (h:lp3 A S r l):l≤A+3 * S:=by
 obtain ⟨h1,h2,h3,h4,h5⟩:=h
 have:r=0∨r=1∨r=2∨r=3:=by omega
 rcases this with h | h | h | h
 ·exact h5 h
 ·have:=h4 h;omega
 ·have:=h3 h;omega
 ·have:=h2 h;omega
theorem pw8 {p:Int} (h:1≤p):8 ^ p.toNat=8 * 8 ^ (p-1).toNat∧8 ^ (p-2).toNat≤8 ^ (p-1).toNat∧1≤8 ^ (p-1).toNat:=by
 refine ⟨?_,Nat.pow_le_pow_right (by decide) (by omega),Nat.pow_pos (by decide)⟩
 rw [show p.toNat=(p-1).toNat+1 by omega,Nat.pow_succ,Nat.mul_comm]
theorem ql {L:List Bs} {t:Bs} {M:Nat} (h:t∈L) (hL:L.all (fun x=>decide (x.length≤M))=true):t.length≤M:=of_decide_eq_true (List.all_eq_true.1 hL t h)
end Go.Vg
end
