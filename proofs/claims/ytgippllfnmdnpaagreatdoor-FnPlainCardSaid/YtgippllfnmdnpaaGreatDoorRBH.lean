/- Contracts whose end is not told exactly. -/
import Derived.Test.YtgippllfnmdnpaaGreatDoorRBD
import Derived.Test.YtgippllfnmdnpaaGreatDoorRAX
import Derived.Test.YtgippllfnmdnpaaGreatDoorRAS
import Derived.Test.YtgippllfnmdnpaaGreatDoorRAL
import Derived.Test.YtgippllfnmdnpaaGreatDoorRAT
section
set_option linter.unusedVariables false
set_option linter.unusedSimpArgs false
set_option linter.unusedSectionVars false
set_option linter.unnecessarySimpa false
namespace Go.Vg
variable [Go.Vg.Glob]
open Go.Pl
theorem zle {P:Program} {te:TE} {wr:Bool} {nt:Nat} {pt:PT} {st:St} {K:Sl St} {d:Tmp} {want:Bool} {o:Oper} (h:look st.env d=.b want):zeb true P te wr nt pt (some d) want st o K=XOs P te wr nt pt false true st o K:=by
 rw [zju,h,zfa]
 cases want<;>simp
theorem zlf {P:Program} {te:TE} {wr:Bool} {nt:Nat} {pt:PT} {st:St} {K:Sl St} {d:Tmp} {want:Bool} {o:Oper} (h:look st.env d=.b (!want)):zeb true P te wr nt pt (some d) want st o K=qw nt st o.dst (.gd false (.b false)) K:=by
 rw [zju,h,zfa]
 cases want<;>simp
theorem zlg {P:Program} {te:TE} {wr:Bool} {nt:Nat} {pt:PT} {st:St} {K:Sl St} {d:Tmp} {want:Bool} {o:Oper} (h:look st.env d=.gd false (.b false)):zeb true P te wr nt pt (some d) want st o K=qw nt st o.dst (.gd false (.b false)) K:=by
 rw [zju,h,zgc]
 simp
/-- The reader's objects. -/
def rdC (s:Bs) (r:Rd) (fr:Bool) (la:Int):Ctx:=[some (.blk false [.s s,.i .i64 (r.pos:Nat),.slc 1 0 r.ev.length,.slc 2 0 r.ev.length,.mp 3,.slc 4 0 r.hd.length,.i .i64 (r.dp:Nat),.i .i64 r.cd,.i .i64 (r.pl:Nat),.b fr,.i .i64 la]),some (.row false 8 r.ev.length (zg evc evz r.ev)),some (.row false 1 r.ev.length (zg qf false r.dn)),some (.mapS (nmI r.ev r.bs)),some (.row false 2 r.hd.length (zg hdc hdz r.hd))]
/-- A method that brings the reader from one state to another and tells whether there is no fault. -/
def zbp (P:Program) (f:FuncId) (s:Bs) (fr:Bool) (la:Int) (args:List SV) (r r':Rd):Prop:=FnK P f 1 (.ptr 0 0 0::args) (rdC s r fr la) fun z c=>z=.b (decide (r'.cd=0))∧c=rdC s r' fr la
end Go.Vg
namespace Go.Vg
variable [Go.Vg.Glob]
open Go.Pl
end Go.Vg
end
section
set_option linter.unusedVariables false
set_option linter.unusedSimpArgs false
set_option linter.unusedSectionVars false
set_option linter.unnecessarySimpa false
namespace Go.Vg
variable [Go.Vg.Glob]
theorem Ya:type_of% (And.intro @zle (And.intro @zlf @zlg)):=(And.intro @zle (And.intro @zlf @zlg))
theorem Yb:type_of% (And.intro Bool.not_true Bool.not_false):=(And.intro Bool.not_true Bool.not_false)
theorem Yc:type_of% (And.intro @XW_sw (And.intro @zx6 @zx5)):=(And.intro @XW_sw (And.intro @zx6 @zx5))
theorem Yd:type_of% (And.intro (And.intro @jv.eq_1 (And.intro @jv.eq_2 @jv.eq_3)) (And.intro (And.intro @z7 @z8) (And.intro @and_true @true_and))):=(And.intro (And.intro @jv.eq_1 (And.intro @jv.eq_2 @jv.eq_3)) (And.intro (And.intro @z7 @z8) (And.intro @and_true @true_and)))
theorem Ye:type_of% (And.intro (And.intro (And.intro @vl.eq_1 @vl.eq_2) (And.intro @vl.eq_3 @z7)) (And.intro (And.intro @z8 @and_true) (And.intro @List.length_cons.{0} @List.length_nil.{0}))):=(And.intro (And.intro (And.intro @vl.eq_1 @vl.eq_2) (And.intro @vl.eq_3 @z7)) (And.intro (And.intro @z8 @and_true) (And.intro @List.length_cons.{0} @List.length_nil.{0})))
theorem Yf:type_of% (And.intro (And.intro (And.intro (And.intro @ko.eq_1 @ko.eq_2) (And.intro @SV.mapH.eq_1 @SV.mapH.eq_2)) (And.intro (And.intro @SV.mapH.eq_3 @SV.mapH.eq_4) (And.intro @SV.mapH.eq_5 @SV.mapH.eq_6))) (And.intro (And.intro (And.intro @SV.mapH.eq_7 @SV.mapH.eq_8) (And.intro @SV.mapH.eq_9 @SV.mapH.eq_10)) (And.intro (And.intro @SV.mapH.eq_11 @SV.mapH.eq_12) (And.intro @SV.mapH.eq_13 (And.intro @SV.mapH.eq_14 @muL.eq_1))))):=(And.intro (And.intro (And.intro (And.intro @ko.eq_1 @ko.eq_2) (And.intro @SV.mapH.eq_1 @SV.mapH.eq_2)) (And.intro (And.intro @SV.mapH.eq_3 @SV.mapH.eq_4) (And.intro @SV.mapH.eq_5 @SV.mapH.eq_6))) (And.intro (And.intro (And.intro @SV.mapH.eq_7 @SV.mapH.eq_8) (And.intro @SV.mapH.eq_9 @SV.mapH.eq_10)) (And.intro (And.intro @SV.mapH.eq_11 @SV.mapH.eq_12) (And.intro @SV.mapH.eq_13 (And.intro @SV.mapH.eq_14 @muL.eq_1)))))
theorem Yg:type_of% (And.intro (And.intro @forall_const.{0} @forall_const.{1}) (And.intro @implies_true.{0} @implies_true.{1})):=(And.intro (And.intro @forall_const.{0} @forall_const.{1}) (And.intro @implies_true.{0} @implies_true.{1}))
end Go.Vg
end
section
set_option linter.unusedVariables false
set_option linter.unusedSimpArgs false
set_option linter.unusedSectionVars false
set_option linter.unnecessarySimpa false
namespace Go.Pl
theorem Yh:type_of% (And.intro (And.intro @flt.eq_1 @atR.eq_1) (And.intro @zo.eq_1 @yx.eq_1)):=(And.intro (And.intro @flt.eq_1 @atR.eq_1) (And.intro @zo.eq_1 @yx.eq_1))
end Go.Pl
end
section
set_option linter.unusedVariables false
set_option linter.unusedSimpArgs false
set_option linter.unusedSectionVars false
set_option linter.unnecessarySimpa false
namespace Go.Vg
open Go.Pl
variable [Go.Vg.Glob]
theorem Yi:type_of% (And.intro (And.intro (And.intro (And.intro @Bool.or_eq_true @Bool.and_eq_true) (And.intro @Bool.or_eq_false_iff @Bool.and_eq_false_iff)) (And.intro (And.intro @decide_eq_true_eq @decide_eq_false_iff_not) (And.intro @Bool.not_eq_true' @Bool.not_eq_false'))) (And.intro (And.intro (And.intro @beq_iff_eq.{0} @beq_eq_false_iff_ne.{0}) (And.intro @ne_eq.{1} @ge_iff_le.{0})) (And.intro (And.intro @gt_iff_lt.{0} @Int.not_le) (And.intro @Int.not_lt (And.intro @Int.ofNat_le @Int.ofNat_lt))))):=(And.intro (And.intro (And.intro (And.intro @Bool.or_eq_true @Bool.and_eq_true) (And.intro @Bool.or_eq_false_iff @Bool.and_eq_false_iff)) (And.intro (And.intro @decide_eq_true_eq @decide_eq_false_iff_not) (And.intro @Bool.not_eq_true' @Bool.not_eq_false'))) (And.intro (And.intro (And.intro @beq_iff_eq.{0} @beq_eq_false_iff_ne.{0}) (And.intro @ne_eq.{1} @ge_iff_le.{0})) (And.intro (And.intro @gt_iff_lt.{0} @Int.not_le) (And.intro @Int.not_lt (And.intro @Int.ofNat_le @Int.ofNat_lt)))))
theorem Wm {P:Program} {f:FuncId} {args0:List SV} {pre:Ctx} {Z:SV} {C:Ctx} (hF:FnK P f 5 args0 pre fun z c=>z=Z∧c=C) {args:List SV} {kk:Nat} {st:St} {K:Sl (SV×St)}
  (hK:K.f (Z.mapH (muL [0,1,2,3,4] st.ctx.length),⟨st.env,kb (muL [0,1,2,3,4] st.ctx.length) [0,1,2,3,4] pre C st.ctx⟩))
  (hargs:ko (muL [0,1,2,3,4] st.ctx.length) args0=args:=by simp [Yf]) (hkl:pre.length=5:=by rfl)
  (hmap:vl (muL [0,1,2,3,4] st.ctx.length) st.ctx [0,1,2,3,4] pre:=by simp only [Ye];exact ⟨by omega,zb (by simp [Yf,Yh,onB]),by omega,za fun _=>rfl,by omega,za fun _=>rfl,by omega,zi,by omega,za fun _=>rfl⟩):yq P f args kk st K:=
 yq.mut hF hkl [0,1,2,3,4] hargs hmap (by decide) hK
theorem Wb {P:Program} {f:FuncId} {k:Nat} {args0:List SV} {pre:Ctx} {Z:SV} {C:Ctx} (hF:FnK P f k args0 pre fun z c=>z=Z∧c=C) {args:List SV} {kk:Nat} {st:St} {K:Sl (SV×St)}
  (hK:K.f (Z.mapH (muL [0,1,2,3,4] st.ctx.length),⟨zcz ([0,1,2,3,4].drop k) st.env,kb (muL [0,1,2,3,4] st.ctx.length) [0,1,2,3,4] pre C st.ctx⟩))
  (hargs:ko (muL [0,1,2,3,4] st.ctx.length) args0=args:=by simp [Yf])
  (hmap:vl (muL [0,1,2,3,4] st.ctx.length) st.ctx [0,1,2,3,4] pre:=by simp only [Ye];exact ⟨by omega,zb (by simp [Yf,Yh,onB]),by omega,za fun _=>rfl,by omega,za fun _=>rfl,by omega,zi,by omega,za fun _=>rfl⟩)
  (hrw:ye k pre:=by simp [ye,SO.ro]) (hfix:(([0,1,2,3,4]:List Nat).drop k).all (fun g=>decide (kk≤g))=true:=by decide)
  (hclean:jn (([0,1,2,3,4]:List Nat).drop k) (zer [0,1,2,3,4] pre) 0 st.ctx:=by simp [jn,zer,jw,zcw,noH,SO.ro,qx]):yq P f args kk st K:=
 yq.reb hF [0,1,2,3,4] hargs hmap (by decide) hrw hfix hclean hK
theorem Wf {A B C D E:List Nat→Prop} (c:C [0,1,2,3,4]:=by simp only [↓XC,XV,XT,Yg,seval];try first | rfl | simp [Yf,onB]) (a:A [0,1,2,3,4]:=by decide)
  (b:B [0,1,2,3,4]:=by simp only [Yd];exact ⟨zb (by simp [Yf,Yh,onB]),za fun _=>rfl,za fun _=>rfl,zi,za fun _=>rfl⟩)
  (d:D [0,1,2,3,4]:=by simp [ye,SO.ro]) (e:E [0,1,2,3,4]:=by simp):∃ l,A l∧B l∧C l∧D l∧E l:=⟨_,a,b,c,d,e⟩
end Go.Vg
end
