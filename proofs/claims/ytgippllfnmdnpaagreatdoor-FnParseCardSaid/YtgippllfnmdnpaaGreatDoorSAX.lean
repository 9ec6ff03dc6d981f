/- Rows of pieces. -/
import Derived.Test.YtgippllfnmdnpaaGreatDoorSAP
import Derived.Test.YtgippllfnmdnpaaGreatDoorSAV
import Derived.Test.YtgippllfnmdnpaaGreatDoorSAR
import Derived.Test.YtgippllfnmdnpaaGreatDoorSAK
import Derived.Test.YtgippllfnmdnpaaGreatDoorSAS
import Derived.Test.YtgippllfnmdnpaaGreatDoorSAL
import Derived.Test.YtgippllfnmdnpaaGreatDoorSAT
section
set_option linter.unusedVariables false
set_option linter.unusedSimpArgs false
set_option linter.unusedSectionVars false
set_option linter.unnecessarySimpa false
namespace Go.Vg
variable [Go.Vg.Glob]
open Go.Pl
def pcc (e:Pc):List SV:=[.s e.text,.b e.glue]
theorem pcc_inj {l m:List Pc}:l.map pcc=m.map pcc↔l=m:=zfc fun a b h=>by cases a;cases b;simpa [pcc] using h
theorem zt9 (a:List Pc) (i:Nat):(a.map pcc).getD i [.s [],.b false]=[.s (a.getD i pcz).text,.b (a.getD i pcz).glue]:=za2 pcc a i pcz
theorem zxw {a:List Pc} {i:Nat}:zh pcc pcz a i=[.s (a.getD i pcz).text,.b (a.getD i pcz).glue]:=id rfl
theorem zxt {μ:Nat→Nat} {r:Bool} {sz n:Nat} {a:List Pc}:SO.mapH μ (.row r sz n (zh pcc pcz a))=.row r sz n (zh pcc pcz a):=rowH fun _=>rfl
theorem pcEta (e:Pc):(⟨e.text,e.glue⟩:Pc)=e:=id rfl
theorem XRP:type_of% (And.intro (And.intro @zt9 @zxw) (And.intro @zxt @pcEta)):=And.intro (And.intro @zt9 @zxw) (And.intro @zxt @pcEta)
theorem zn1 {α:Type} {enc:α→List SV} {z:α} {xs:List α} {y:α} {sz:Nat} {f:Nat→List SV} (hf:∀ j,j<xs.length→f j=zh enc z xs j) (hl:(enc y).length=sz) :
  ju (zei xs.length f fun j=>qv (enc y) sz j) 0 (xs.length+1)=(xs++[y]).map enc:=by
 rw [←kl (enc:=enc) (z:=z) (xs:=xs++[y]) (n:=xs.length+1) (by simp)]
 unfold ju
 apply List.map_congr_left
 intro j hj
 rw [Nat.zero_add]
 exact zaa rfl hf hl (by simpa using hj)
theorem u6 {μ:Nat→Nat} {α:Type} {enc:α→List SV} {z:α} (xs:List α) (y:α) (sz:Nat) {f:Nat→List SV} {cs:List SV} (hp:∀ x,plainL (enc x)=true) (hf:∀ j,j<xs.length→f j=zh enc z xs j) (hy:cs=enc y) (hl:(enc y).length=sz) :
  soLe μ (.row false sz (xs.length+1) (zh enc z (xs++[y]))) (.row false sz (xs.length+1) (zei xs.length f fun j=>qv cs sz j)):=by
 subst hy
 refine zg fun j hj=>?_
 rw [zaa (z:=z) rfl hf hl hj]
 exact wa (hp _)
theorem zls {α:Type} {enc:α→List SV} (z:α) (xs:List α) (y:α) (sz:Nat) {f:Nat→List SV} {cs:List SV} (hf:∀ j,j<xs.length→f j=zh enc z xs j) (hy:cs=enc y) (hl:(enc y).length=sz) :
  ju (zei xs.length f fun j=>qv cs sz j) 0 (xs.length+1)=(xs++[y]).map enc:=by
 subst hy;exact zn1 (z:=z) hf hl
theorem zwc {α:Type} {enc:α→List SV} (z:α) (xs:List α) (y:α) (sz:Nat) {f:Nat→List SV} {cs:List SV} (hp:∀ x,plainL (enc x)=true) (hf:∀ j,j<xs.length→f j=zh enc z xs j) (hy:cs=enc y) (hl:∀ x,(enc x).length=sz) :
  ∀ j,j<xs.length+1→(zei xs.length f (fun j=>qv cs sz j) j).length=sz∧plainL (zei xs.length f (fun j=>qv cs sz j) j)=true:=by
 intro j hj
 subst hy
 rw [zaa (z:=z) rfl hf (hl y) hj]
 exact ⟨hl _,hp _⟩
theorem zdn (l:List UInt8):ko (zh vo 0 l) 0 l.length=l:=by
 apply List.ext_getElem (by simp [ko])
 intro j h1 h2
 simp [ko,zh,vo,List.getD,h2]
theorem zpb (l:List UInt8) (j:Nat):zmy (SV.i .u8 ((l.getD j 0).toNat:Int))=true:=rfl
end Go.Vg
end
section
set_option linter.unusedVariables false
set_option linter.unusedSimpArgs false
set_option linter.unusedSectionVars false
set_option linter.unnecessarySimpa false
namespace Go.Vg
variable [Go.Vg.Glob]
open Go.Pl
def hdc (e:Hd):List SV:=[.s e.name,.s e.pre]
theorem hdc_inj {l m:List Hd}:l.map hdc=m.map hdc↔l=m:=zfc fun a b h=>by cases a;cases b;simpa [hdc] using h
theorem zua (a:List Hd) (i:Nat):(a.map hdc).getD i [.s [],.s []]=[.s (a.getD i hdz).name,.s (a.getD i hdz).pre]:=za2 hdc a i hdz
theorem zxx {a:List Hd} {i:Nat}:zh hdc hdz a i=[.s (a.getD i hdz).name,.s (a.getD i hdz).pre]:=id rfl
theorem zxu {μ:Nat→Nat} {r:Bool} {sz n:Nat} {a:List Hd}:SO.mapH μ (.row r sz n (zh hdc hdz a))=.row r sz n (zh hdc hdz a):=rowH fun _=>rfl
theorem hdEta (e:Hd):(⟨e.name,e.pre⟩:Hd)=e:=id rfl
theorem XRH:type_of% (And.intro (And.intro @zua @zxx) (And.intro @zxu @hdEta)):=And.intro (And.intro @zua @zxx) (And.intro @zxu @hdEta)
end Go.Vg
namespace Go.Vg
variable [Go.Vg.Glob]
theorem vj {μ:Nat→Nat} {α:Type} {enc:α→List SV} {z:α} (xs:List α) (y:α) {ys:List α} {sz n m:Nat} {f:Nat→List SV} {cs:List SV} (hp:∀ x,plainL (enc x)=true) (hys:ys=xs++[y]) (hn:n=xs.length) (hm:m=n+1) (hf:∀ j,j<n→f j=zh enc z xs j) (hy:cs=enc y) (hl:(enc y).length=sz) :
  soLe μ (.row false sz m (zh enc z ys)) (.row false sz (n+1) (zei n f fun j=>qv cs sz j)):=by
 subst hy;subst hys;subst hn;subst hm
 refine zg fun j hj=>?_
 rw [zaa (z:=z) rfl hf hl hj]
 exact wa (hp _)
end Go.Vg
end
section
set_option linter.unusedVariables false
set_option linter.unusedSimpArgs false
set_option linter.unusedSectionVars false
set_option linter.unnecessarySimpa false
namespace Go.Vg
variable [Go.Vg.Glob]
open Go.Pl
theorem zj {μ:Nat→Nat} {l:List (List UInt8×Int)}:soLe μ (.mapS l) (.mapS l):=⟨id,rfl,rfl,Nat.le_refl _,rfl,fun i hi=>absurd hi (Nat.not_lt_zero _)⟩
theorem zkp {α:Type} [DecidableEq α] (v:Int):∀ (l:List (α×Int)) (k k':α),lookS (u4 l k v) k'=if k=k' then some v else lookS l k'
 | [],k,k'=>rfl
 | p::r,k,k'=>by
  simp only [u4]
  by_cases h:p.1=k
  ·rw [if_pos h]
   simp only [lookS]
   by_cases h2:k=k'
   ·rw [if_pos h2,if_pos h2]
   ·rw [if_neg h2,if_neg h2,if_neg (by rw [h];exact h2)]
  ·rw [if_neg h]
   simp only [lookS,zkp v r k k']
   by_cases h2:p.1=k'
   ·rw [if_pos h2,if_pos h2,if_neg (by rw [←h2];exact fun e=>h e.symm)]
   ·rw [if_neg h2,if_neg h2]
/-- The map zea the last place of each anchor. -/
def zre (l:List Ev) (i:Nat) (m:List (List UInt8×Int)):Prop:=∀ t,lookS m t=if q6 l t i<0 then none else some (q6 l t i)
theorem zv1 {l:List Ev}:zre l 0 []:=fun t=>by simp [lookS,q6]
theorem zzp {l:List Ev} {i:Nat} (h:(l.getD i evz).kind=2):zre l (i+1) []:=fun t=>by
 have e:q6 l t (i+1) = -1:=by simp only [q6];rw [if_pos h]
 rw [e];rfl
theorem zzo {l:List Ev} {i:Nat} {m:List (List UInt8×Int)} (hm:zre l i m) (h2:(l.getD i evz).kind≠2) (h6:(l.getD i evz).kind≠6) (ha:(l.getD i evz).anchor≠[]):zre l (i+1) (u4 m (l.getD i evz).anchor i):=fun t=>by
 rw [zkp]
 by_cases h:(l.getD i evz).anchor=t
 ·have e:q6 l t (i+1)=i:=by simp only [q6];rw [if_neg h2,if_pos ⟨h6,ha,h⟩]
  rw [if_pos h,e,if_neg (by omega)]
 ·have e:q6 l t (i+1)=q6 l t i:=by simp only [q6];rw [if_neg h2,if_neg (fun h9=>h h9.2.2)]
  rw [if_neg h,e,hm t]
theorem zkm {l:List Ev} {i:Nat} {m:List (List UInt8×Int)} (hm:zre l i m) (h2:(l.getD i evz).kind≠2) (h:(l.getD i evz).kind=6∨(l.getD i evz).anchor=[]):zre l (i+1) m:=fun t=>by
 have e:q6 l t (i+1)=q6 l t i:=by simp only [q6];rw [if_neg h2,if_neg (fun h9=>by rcases h with h | h;exact h9.1 h;exact h9.2.1 h)]
 rw [e,hm t]
end Go.Vg
namespace Go.Vg
variable [Go.Vg.Glob]
open Go.Pl
theorem rowD {l:List Ev} {i n:Nat} {v:Int} (hv:v=zje l i) (j:Nat) (hj:j<n):(if j=i then [SV.i .i64 v] else [SV.i .i64 ((mkR n fun j=>if j<i then zje l j else 0).getD j 0)])=[.i .i64 (if j<i+1 then zje l j else 0)]:=by
 rw [zo hj]
 by_cases h:j=i
 ·subst h;rw [if_pos rfl,if_pos (by omega),hv]
 ·rw [if_neg h]
  by_cases h2:j<i
  ·rw [if_pos h2,if_pos (by omega)]
  ·rw [if_neg h2,if_neg (by omega)]
theorem rowD2 {l:List Ev} {i n:Nat} {v w:Int} (hv:v=zje l i) (j:Nat) (hj:j<n):(if j=i then (if j=i then [SV.i .i64 w] else [SV.i .i64 ((mkR n fun j=>if j<i then zje l j else 0).getD j 0)]).set 0 (SV.i .i64 v) else if j=i then [SV.i .i64 w] else [SV.i .i64 ((mkR n fun j=>if j<i then zje l j else 0).getD j 0)])=[.i .i64 (if j<i+1 then zje l j else 0)]:=by
 rw [←rowD hv j hj]
 by_cases h:j=i
 ·rw [if_pos h,if_pos h,if_pos h];rfl
 ·rw [if_neg h,if_neg h,if_neg h]
theorem zrt {l:List Ev} {i:Nat} (h:(l.getD i evz).kind≠6):(-1:Int)=zje l i:=by unfold zje;rw [if_neg h]
theorem mkR_done {l:List Ev}:(mkR l.length fun j=>if j<l.length then zje l j else 0)=mkR l.length (zje l):=by
 unfold mkR
 exact List.map_congr_left fun j hj=>by rw [if_pos (by simpa using hj)]
end Go.Vg
namespace Go.Vg
variable [Go.Vg.Glob]
open Go.RowKit
/-- A call of a function that is a value. -/
def onFn (x:SV) (K:Sl FuncId):Prop:=match x with | .fn f=>K.f f | _=>False
theorem uf {f:FuncId} {K:Sl FuncId}:onFn (.fn f) K=K.f f:=id rfl
theorem w9 {P:Program} {te:TE} {wr:Bool} {nt:Nat} {pt:PT} {g c:Bool} {st:St} {K:Sl St} {dst:Option Tmp} {ty:TypeId} {pos:String} {after:Array Edge} {gd:Option (Nat×Bool)} {t:Tmp} {args:Array Operand} {ts:Array TypeId} :
  XOs P te wr nt pt g c st ⟨dst,.call { callee:=.value (.tmp t),args:=args,argTypes:=ts },ty,pos,after,gd⟩ K=onFn (look st.env t) ⟨fun f=>XOs P te wr nt pt g c st ⟨dst,.call { callee:=.value (.func f),args:=args,argTypes:=ts },ty,pos,after,gd⟩ K,⟨⟩⟩:=by
 have h1:∀ x:Operand,XOs P te wr nt pt g c st ⟨dst,.call { callee:=.value x,args:=args,argTypes:=ts },ty,pos,after,gd⟩ K=(match (match st.ev x with | .fn f=>some f | _=>none) with
   | some f=>match ptOf pt f with
    | some t=>match t (ve st.ctx (kw (args.toList.map st.ev))) with
     | some (p,z)=>zd9 (kw (args.toList.map st.ev)) z pt.gr=true∧Chk (c=true→zz8 (args.toList.map st.ev)∧jm st.ctx (kw (args.toList.map st.ev))∧p) (zly nt st dst (if g then zh0 c z else z) K.f)
     | none=>False
    | none=>g=false∧pt.gr=true∧zfj P f (args.toList.map st.ev) pt.k st fun z st'=>zly nt st' dst z K.f
   | none=>False):=fun _=>rfl
 rw [h1]
 show (match (match look st.env t with | .fn f=>some f | _=>none) with | some f=>_ | none=>False)=_
 cases look st.env t<;>rfl
end Go.Vg
end
section
set_option linter.unusedVariables false
set_option linter.unusedSimpArgs false
set_option linter.unusedSectionVars false
set_option linter.unnecessarySimpa false
namespace Go.Vg
variable [Go.Vg.Glob]
open Go.Pl
/-- A function's end,of which only so much is told. -/
def FinQ (te:TE) (k pl:Nat) (rs:List ResultVar) (Q:SV→Ctx→Prop) (st:St):Prop:=∃ Z C,Q Z C∧FinE te k pl rs Z C st
theorem FnK.ofQ {cf:Cf} (hcf:cf.ok) {f:FuncId} {fn:Func} {c:Code} (hf:cf.P.funcs[f]?=some fn) (hb:fn.body=some c) (hname:(fn.name == "runtime.NumGoroutine")=false)
  (hnt:fn.ntmps=cf.nt) {args:List SV} {pre:Ctx} (hlen:args.length≤cf.nt) (hk:cf.k≤pre.length) {rs:List ResultVar} (hrs:fn.results.toList=rs) {Q:SV→Ctx→Prop} (n:Nat)
  (h:vc cf (FinQ cf.te cf.k pre.length rs Q) n [.code c] ⟨zdf 0 args,pre⟩):FnK cf.P f cf.k args pre Q:=by
 refine FnK.ofG hcf hf hb hname hnt hlen hk hrs (fun A σ st a w hAk _ hF hR=>?_) n h
 obtain ⟨Z,C,hQ,l,⟨h1,h2⟩,h3,h4,h5,h6⟩:=hF
 rw [←hrs] at h4
 obtain ⟨z,v,hz,hv,hr⟩:=zce (P:=cf.P) hcf.te hR h4
 subst hz
 exact ⟨Z,v,C,σ.ren (muL l st.ctx.length),hQ,hv,(xm _ _ _ _).1 hr,Rel.ren (st':=⟨[],C⟩) l h1 h2 h3 trivial hAk hR,h5,h6⟩
theorem zni {P:Program} {te:TE} {wr:Bool} {nt:Nat} {pt:PT} {st:St} {K:Sl St} {d:Tmp} {want:Bool} {o:Oper} (h:look st.env d=.b want):zfo true P te wr nt pt (some d) want st o K=XOs P te wr nt pt false true st o K:=by
 rw [zlk,h,zgt]
 cases want<;>simp
theorem znj {P:Program} {te:TE} {wr:Bool} {nt:Nat} {pt:PT} {st:St} {K:Sl St} {d:Tmp} {want:Bool} {o:Oper} (h:look st.env d=.b (!want)):zfo true P te wr nt pt (some d) want st o K=wm nt st o.dst (.gd false (.b false)) K:=by
 rw [zlk,h,zgt]
 cases want<;>simp
theorem znk {P:Program} {te:TE} {wr:Bool} {nt:Nat} {pt:PT} {st:St} {K:Sl St} {d:Tmp} {want:Bool} {o:Oper} (h:look st.env d=.gd false (.b false)):zfo true P te wr nt pt (some d) want st o K=wm nt st o.dst (.gd false (.b false)) K:=by
 rw [zlk,h,zh9]
 simp
/-- The reader's objects. -/
def rdC (s:Bs) (r:Rd) (fr:Bool) (la:Int):Ctx:=[some (.blk false [.s s,.i .i64 (r.pos:Nat),.slc 1 0 r.ev.length,.slc 2 0 r.ev.length,.mp 3,.slc 4 0 r.hd.length,.i .i64 (r.dp:Nat),.i .i64 r.cd,.i .i64 (r.pl:Nat),.b fr,.i .i64 la]),some (.row false 8 r.ev.length (zh evc evz r.ev)),some (.row false 1 r.ev.length (zh q5 false r.dn)),some (.mapS (nmI r.ev r.bs)),some (.row false 2 r.hd.length (zh hdc hdz r.hd))]
/-- A method that brings the reader from one state to another and tells whether there is no fault. -/
def zct (P:Program) (f:FuncId) (s:Bs) (fr:Bool) (la:Int) (args:List SV) (r r':Rd):Prop:=FnK P f 1 (.ptr 0 0 0::args) (rdC s r fr la) fun z c=>z=.b (decide (r'.cd=0))∧c=rdC s r' fr la
end Go.Vg
namespace Go.Vg
variable [Go.Vg.Glob]
open Go.Pl
end Go.Vg
end
section
set_option linter.unusedVariables false
set_option linter.unusedSimpArgs false
set_option linter.unusedSectionVars false
set_option linter.unnecessarySimpa false
namespace Go.Vg
variable [Go.Vg.Glob]
theorem Ya:type_of% (And.intro @zni (And.intro @znj @znk)):=(And.intro @zni (And.intro @znj @znk))
theorem Yb:type_of% (And.intro Bool.not_true Bool.not_false):=(And.intro Bool.not_true Bool.not_false)
theorem Yc:type_of% (And.intro @XW_sw (And.intro @z1g @z1f)):=(And.intro @XW_sw (And.intro @z1g @z1f))
theorem Yd:type_of% (And.intro (And.intro @xa.eq_1 (And.intro @xa.eq_2 @xa.eq_3)) (And.intro (And.intro @yh @yi) (And.intro @and_true @true_and))):=(And.intro (And.intro @xa.eq_1 (And.intro @xa.eq_2 @xa.eq_3)) (And.intro (And.intro @yh @yi) (And.intro @and_true @true_and)))
theorem Ye:type_of% (And.intro (And.intro (And.intro @xc.eq_1 @xc.eq_2) (And.intro @xc.eq_3 @yh)) (And.intro (And.intro @yi @and_true) (And.intro @List.length_cons.{0} @List.length_nil.{0}))):=(And.intro (And.intro (And.intro @xc.eq_1 @xc.eq_2) (And.intro @xc.eq_3 @yh)) (And.intro (And.intro @yi @and_true) (And.intro @List.length_cons.{0} @List.length_nil.{0})))
theorem Yf:type_of% (And.intro (And.intro (And.intro (And.intro @k9.eq_1 @k9.eq_2) (And.intro @SV.mapH.eq_1 @SV.mapH.eq_2)) (And.intro (And.intro @SV.mapH.eq_3 @SV.mapH.eq_4) (And.intro @SV.mapH.eq_5 @SV.mapH.eq_6))) (And.intro (And.intro (And.intro @SV.mapH.eq_7 @SV.mapH.eq_8) (And.intro @SV.mapH.eq_9 @SV.mapH.eq_10)) (And.intro (And.intro @SV.mapH.eq_11 @SV.mapH.eq_12) (And.intro @SV.mapH.eq_13 (And.intro @SV.mapH.eq_14 @muL.eq_1))))):=(And.intro (And.intro (And.intro (And.intro @k9.eq_1 @k9.eq_2) (And.intro @SV.mapH.eq_1 @SV.mapH.eq_2)) (And.intro (And.intro @SV.mapH.eq_3 @SV.mapH.eq_4) (And.intro @SV.mapH.eq_5 @SV.mapH.eq_6))) (And.intro (And.intro (And.intro @SV.mapH.eq_7 @SV.mapH.eq_8) (And.intro @SV.mapH.eq_9 @SV.mapH.eq_10)) (And.intro (And.intro @SV.mapH.eq_11 @SV.mapH.eq_12) (And.intro @SV.mapH.eq_13 (And.intro @SV.mapH.eq_14 @muL.eq_1)))))
theorem Yg:type_of% (And.intro (And.intro @forall_const.{0} @forall_const.{1}) (And.intro @implies_true.{0} @implies_true.{1})):=(And.intro (And.intro @forall_const.{0} @forall_const.{1}) (And.intro @implies_true.{0} @implies_true.{1}))
end Go.Vg
end
section
set_option linter.unusedVariables false
set_option linter.unusedSimpArgs false
set_option linter.unusedSectionVars false
set_option linter.unnecessarySimpa false
namespace Go.Pl
theorem Yh:type_of% (And.intro (And.intro @flt.eq_1 @atR.eq_1) (And.intro @zn.eq_1 @y4.eq_1)):=(And.intro (And.intro @flt.eq_1 @atR.eq_1) (And.intro @zn.eq_1 @y4.eq_1))
end Go.Pl
end
section
set_option linter.unusedVariables false
set_option linter.unusedSimpArgs false
set_option linter.unusedSectionVars false
set_option linter.unnecessarySimpa false
namespace Go.Vg
open Go.Pl
variable [Go.Vg.Glob]
theorem Yi:type_of% (And.intro (And.intro (And.intro (And.intro @Bool.or_eq_true @Bool.and_eq_true) (And.intro @Bool.or_eq_false_iff @Bool.and_eq_false_iff)) (And.intro (And.intro @decide_eq_true_eq @decide_eq_false_iff_not) (And.intro @Bool.not_eq_true' @Bool.not_eq_false'))) (And.intro (And.intro (And.intro @beq_iff_eq.{0} @beq_eq_false_iff_ne.{0}) (And.intro @ne_eq.{1} @ge_iff_le.{0})) (And.intro (And.intro @gt_iff_lt.{0} @Int.not_le) (And.intro @Int.not_lt (And.intro @Int.ofNat_le @Int.ofNat_lt))))):=(And.intro (And.intro (And.intro (And.intro @Bool.or_eq_true @Bool.and_eq_true) (And.intro @Bool.or_eq_false_iff @Bool.and_eq_false_iff)) (And.intro (And.intro @decide_eq_true_eq @decide_eq_false_iff_not) (And.intro @Bool.not_eq_true' @Bool.not_eq_false'))) (And.intro (And.intro (And.intro @beq_iff_eq.{0} @beq_eq_false_iff_ne.{0}) (And.intro @ne_eq.{1} @ge_iff_le.{0})) (And.intro (And.intro @gt_iff_lt.{0} @Int.not_le) (And.intro @Int.not_lt (And.intro @Int.ofNat_le @Int.ofNat_lt)))))
theorem Wm {P:Program} {f:FuncId} {args0:List SV} {pre:Ctx} {Z:SV} {C:Ctx} (hF:FnK P f 5 args0 pre fun z c=>z=Z∧c=C) {args:List SV} {kk:Nat} {st:St} {K:Sl (SV×St)}
  (hK:K.f (Z.mapH (muL [0,1,2,3,4] st.ctx.length),⟨st.env,zr (muL [0,1,2,3,4] st.ctx.length) [0,1,2,3,4] pre C st.ctx⟩))
  (hargs:k9 (muL [0,1,2,3,4] st.ctx.length) args0=args:=by simp [Yf]) (hkl:pre.length=5:=by rfl)
  (hmap:xc (muL [0,1,2,3,4] st.ctx.length) st.ctx [0,1,2,3,4] pre:=by simp only [Ye];exact ⟨by omega,za (by simp [Yf,Yh,onB]),by omega,zb fun _=>rfl,by omega,zb fun _=>rfl,by omega,zj,by omega,zb fun _=>rfl⟩):zl P f args kk st K:=
 zl.mut hF hkl [0,1,2,3,4] hargs hmap (by decide) hK
theorem Wb {P:Program} {f:FuncId} {k:Nat} {args0:List SV} {pre:Ctx} {Z:SV} {C:Ctx} (hF:FnK P f k args0 pre fun z c=>z=Z∧c=C) {args:List SV} {kk:Nat} {st:St} {K:Sl (SV×St)}
  (hK:K.f (Z.mapH (muL [0,1,2,3,4] st.ctx.length),⟨zd7 ([0,1,2,3,4].drop k) st.env,zr (muL [0,1,2,3,4] st.ctx.length) [0,1,2,3,4] pre C st.ctx⟩))
  (hargs:k9 (muL [0,1,2,3,4] st.ctx.length) args0=args:=by simp [Yf])
  (hmap:xc (muL [0,1,2,3,4] st.ctx.length) st.ctx [0,1,2,3,4] pre:=by simp only [Ye];exact ⟨by omega,za (by simp [Yf,Yh,onB]),by omega,zb fun _=>rfl,by omega,zb fun _=>rfl,by omega,zj,by omega,zb fun _=>rfl⟩)
  (hrw:zy k pre:=by simp [zy,SO.ro]) (hfix:(([0,1,2,3,4]:List Nat).drop k).all (fun g=>decide (kk≤g))=true:=by decide)
  (hclean:j4 (([0,1,2,3,4]:List Nat).drop k) (zga [0,1,2,3,4] pre) 0 st.ctx:=by simp [j4,zga,j9,zd5,noH,SO.ro,qv]):zl P f args kk st K:=
 zl.reb hF [0,1,2,3,4] hargs hmap (by decide) hrw hfix hclean hK
theorem Wf {A B C D E:List Nat→Prop} (c:C [0,1,2,3,4]:=by simp only [↓XC,XV,XT,Yg,seval];try first | rfl | simp [Yf,onB]) (a:A [0,1,2,3,4]:=by decide)
  (b:B [0,1,2,3,4]:=by simp only [Yd];exact ⟨za (by simp [Yf,Yh,onB]),zb fun _=>rfl,zb fun _=>rfl,zj,zb fun _=>rfl⟩)
  (d:D [0,1,2,3,4]:=by simp [zy,SO.ro]) (e:E [0,1,2,3,4]:=by simp):∃ l,A l∧B l∧C l∧D l∧E l:=⟨_,a,b,c,d,e⟩
end Go.Vg
end
section
set_option linter.unusedVariables false
set_option linter.unusedSimpArgs false
set_option linter.unusedSectionVars false
set_option linter.unnecessarySimpa false
namespace Go.Vg
variable [Go.Vg.Glob]
open Go.Pl
theorem zl.mutQ {P:Program} {f:FuncId} {k:Nat} {args0:List SV} {pre:Ctx} {Q:SV→Ctx→Prop} (hF:FnK P f k args0 pre Q) (hkl:pre.length=k) (l:List Nat) {args:List SV} {kk:Nat} {st:St} {K:Sl (SV×St)}
  (hargs:k9 (muL l st.ctx.length) args0=args) (hmap:xc (muL l st.ctx.length) st.ctx l pre) (hnd:l.Nodup)
  (hK:∀ z c,Q z c→K.f (z.mapH (muL l st.ctx.length),⟨st.env,zr (muL l st.ctx.length) l pre c st.ctx⟩)):zl P f args kk st K:=by
 subst hkl
 have hl:=(zcq hmap).1
 have hd:l.drop pre.length=[]:=by rw [←hl];exact List.drop_length
 refine zfj.of hF l hargs.symm hmap (.inr hnd) (by simp [zy]) (by rw [hd];rfl) (.inl hd) (by rw [hd];exact x7) ?_
 intro z c h
 rw [hd,zbx]
 exact hK z c h
theorem zl.ownQ {P:Program} {f:FuncId} {args:List SV} {Q:SV→Ctx→Prop} (hF:FnK P f 0 args [] Q) (hp:plainL args=true) {kk:Nat} {st:St} {K:Sl (SV×St)}
  (hK:∀ z c,Q z c→K.f (z.mapH (muL [] st.ctx.length),⟨st.env,zr (muL [] st.ctx.length) [] [] c st.ctx⟩)):zl P f args kk st K:=
 zl.mutQ hF rfl [] (wa hp) trivial (by decide) hK
/-- A text so long at most,and the draws gone on. -/
def DrS (cd:Bs) (B:Nat):SV→Ctx→Prop:=fun z c=>∃ (t:Bs) (d:Nat×Int),t.length≤B∧d.1≤cd.length∧z=.s t∧c=[some (.blk false [.fs 1 (cd.map vo),.i .i64 (d.1:Nat),.i .i64 d.2])]
theorem DrS.mk {cd:Bs} {B:Nat} (t:Bs) (d:Nat×Int) (h1:t.length≤B) (h2:d.1≤cd.length):DrS cd B (.s t) [some (.blk false [.fs 1 (cd.map vo),.i .i64 (d.1:Nat),.i .i64 d.2])]:=⟨t,d,h1,h2,rfl,rfl⟩
/-- Up to three rounds,each so much longer at most. -/
def lp3 (A S r l:Nat):Prop:=r≤3∧(r=3→l≤A)∧(r=2→l≤A+S)∧(r=1→l≤A+2 * S)∧(r=0→l≤A+3 * S)
theorem lp3.start {A S r l:Nat} (h:r≤3) (hl:l≤A):lp3 A S r l:=⟨h,fun _=>hl,fun _=>by omega,fun _=>by omega,fun _=>by omega⟩
theorem lp3.step {A S r l l':Nat} (h:lp3 A S (r+1) l) (hl:l'≤l+S):lp3 A S r l':=by
 obtain ⟨h1,h2,h3,h4,h5⟩:=h
 exact ⟨by omega,fun h=>by omega,fun h=>by have:=h2 (by omega);omega,fun h=>by have:=h3 (by omega);omega,fun h=>by have:=h4 (by omega);omega⟩
theorem lp3.le {A S r l:Nat} (h:lp3 A S r l):r≤3:=h.1
theorem lp3.all {A S r l:Nat} (h:lp3 A S r l):l≤A+3 * S:=by
 obtain ⟨h1,h2,h3,h4,h5⟩:=h
 have:r=0∨r=1∨r=2∨r=3:=by omega
 rcases this with h | h | h | h
 ·exact h5 h
 ·have:=h4 h;omega
 ·have:=h3 h;omega
 ·have:=h2 h;omega
theorem pw8 {p:Int} (h:1≤p):8 ^ p.toNat=8 * 8 ^ (p-1).toNat∧8 ^ (p-2).toNat≤8 ^ (p-1).toNat∧1≤8 ^ (p-1).toNat:=by
 refine ⟨?_,Nat.pow_le_pow_right (by decide) (by omega),Nat.pow_pos (by decide)⟩
 rw [show p.toNat=(p-1).toNat+1 by omega,Nat.pow_succ,Nat.mul_comm]
theorem qk {L:List Bs} {t:Bs} {M:Nat} (h:t∈L) (hL:L.all (fun x=>decide (x.length≤M))=true):t.length≤M:=of_decide_eq_true (List.all_eq_true.1 hL t h)
end Go.Vg
end
