/- The walk's steps as equations; what follows a step is kept out of a rewriter's sight by its type. -/
import Derived.Test.YtgippllfnmdnpaaGreatDoorUAG
set_option linter.all false
namespace Go.Vg
variable [Go.Vg.Glob]
open Go.RowKit
structure Tag {α:Sort _} (a:α):Type where
/-- What follows: a function that a later part's type hangs on,so that it is left alone. -/
structure Sl (α:Type) where
 f:α→Prop
 t:Tag f
theorem zqz {c:Code}:zby [] c=false:=by unfold zby;split<;>rfl
theorem zl5 {o:SO} {c:Ctx}:z6 0 (some o::c)=(o.ro=false∧z6 0 c):=by simp [z6]
theorem zi3 {c:Ctx}:z6 0 (none::c)=z6 0 c:=by simp [z6]
theorem zl6 {k:Nat} {o:Option SO} {c:Ctx}:z6 (k+1) (o::c)=z6 k c:=by simp [z6]
theorem z2p {a b:Bool}:(bif a then b else false)=(a&&b):=by cases a<;>rfl
theorem z2o {a b:Bool}:(bif a then true else b)=(a||b):=by cases a<;>rfl
theorem zi4 {k:Nat}:z6 k []:=by simp [z6]
def XLs (P:Program) (te:TE) (wr:Bool) (nt:Nat) (pt:PT) (sp:Bool) (ops:Array Oper) (K:Sl St) (os:List Oper) (st:St):Prop:=XL P te wr nt pt sp ops K.f os st
def XOs (P:Program) (te:TE) (wr:Bool) (nt:Nat) (pt:PT) (g c:Bool) (st:St) (o:Oper) (K:Sl St):Prop:=zoi P te wr nt pt g c st o K.f
def w5 (nt:Nat) (st:St) (d:Option Tmp) (z:SV) (K:Sl St):Prop:=zoo nt st d z K.f
def u0 (c:Bool) (x:SV) (K:Sl SV):Prop:=ung c x K.f
def zoa (want:Bool) (x:SV) (K:Sl Bool):Prop:=zjg want x K.f
def kg (te:TE) (t:TypeId) (wr c:Bool) (op:BinOp) (x y:SV) (K:Sl SV):Prop:=zjz te t wr c op x y K.f
def drS (d:Nat→Array Oper→(St→Prop)→St→Prop) (id:Nat) (ops:Array Oper) (K:Sl St) (st:St):Prop:=d id ops K.f st
def zl (k:Nat) (st:St) (B:Sl ((St→Prop)×St)):Prop:=VLoop k st fun J s=>B.f (J,s)
def zav (k:Nat) (B:Sl (St→Prop)) (R:Sl St):Prop:=VCut k B.f R.f
def yp (P:Program) (f:FuncId) (args:List SV) (kk:Nat) (st:St) (K:Sl (SV×St)):Prop:=zhb P f args kk st fun z s=>K.f (z,s)
/-- A state,put into its simplest form before the walk goes on. -/
def nst (st:St) (K:Sl St):Prop:=K.f st
theorem nst_eq {st:St} {K:Sl St}:nst st K=K.f st:=id rfl
section code
variable {cf:Cf} {F:St→Prop} {n:Nat} {r:List It} {st:St}
theorem vc_nil:vc cf F (n+1) [] st=F st:=id rfl
theorem vc_blk {i:Nat}:vc cf F (n+1) (.blk i::r) st=vc cf F n r st:=id rfl
theorem zyo {J:St→Prop}:vc cf F (n+1) (.stop J::r) st=J st:=id rfl
theorem zyp:vc cf F (n+1) (.code .skip::r) st=vc cf F n r st:=id rfl
theorem vc_ret:vc cf F (n+1) (.code .ret::r) st=F st:=id rfl
theorem vc_seq {x y:Code} (h:zby cf.cut y=false):vc cf F (n+1) (.code (.seq x y)::r) st=vc cf F n (.code x::.code y::r) st:=by show (if zby cf.cut y then _ else _)=_;rw [if_neg (by rw [h];exact Bool.false_ne_true)]
theorem vc_cut {x y:Code} (h:zby cf.cut y=true):vc cf F (n+1) (.code (.seq x y)::r) st=zav cf.k ⟨fun J=>vc cf F n (.code x::.stop J::.code y::r) st,⟨⟩⟩ ⟨fun s=>vc cf F n (.code y::r) s,⟨⟩⟩:=by show (if zby cf.cut y then _ else _)=_;rw [if_pos h];rfl
theorem zox {id:Nat} {ops:List Oper}:vc cf F (n+1) (.code (.region id ⟨ops⟩ false)::r) st=XLs cf.P cf.te cf.wr cf.nt cf.pt (cf.sp id) ⟨ops⟩ ⟨fun s=>nst (trim (cf.keep id) s) ⟨fun s=>vc cf F n r s,⟨⟩⟩,⟨⟩⟩ ops st:=_root_.id rfl
theorem zyr {id:Nat} {ops:Array Oper}:vc cf F (n+1) (.code (.region id ops true)::r) st=drS cf.dr id ops ⟨fun s=>nst (trim (cf.keep id) s) ⟨fun s=>vc cf F n r s,⟨⟩⟩,⟨⟩⟩ st:=_root_.id rfl
theorem zt5 {id:Nat} {b:Code}:vc cf F (n+1) (.code (.block id b)::r) st=vc cf F n (.code b::.blk id::r) st:=_root_.id rfl
theorem zyq {b:Code}:vc cf F (n+1) (.code (.loop b)::r) st=zl cf.k st ⟨fun p=>vc cf F n (.code b::.stop p.1::r) p.2,⟨⟩⟩:=id rfl
def zrw (cf:Cf) (F:St→Prop) (n:Nat) (st:St) (id:Nat):List It→Prop
 | []=>False
 | .blk id'::r=>if id=id' then vc cf F n r st else zrw cf F n st id r
 | _::r=>zrw cf F n st id r
theorem znp {id:Nat}:∀ {r:List It},(match ze9 id r with | some r'=>vc cf F n r' st | none=>False)=zrw cf F n st id r
 | []=>rfl
 | .blk id'::r=>by
  simp only [ze9,zrw];by_cases h:id=id'
  ·rw [if_pos h,if_pos h]
  ·rw [if_neg h,if_neg h];exact znp
 | .code _::r=>by simp only [ze9,zrw];exact znp
 | .stop _::r=>by simp only [ze9,zrw];exact znp
theorem zt4 {id:Nat}:vc cf F (n+1) (.code (.exit id)::r) st=zrw cf F n st id r:=by show (match ze9 id r with | some r'=>vc cf F n r' st | none=>False)=_;exact znp
theorem zuy {id:Nat}:zrw cf F n st id (.blk id::r)=vc cf F n r st:=by simp [zrw]
theorem zpm {id i:Nat} (h:(id==i)=false):zrw cf F n st id (.blk i::r)=zrw cf F n st id r:=by simp only [beq_eq_false_iff_ne,ne_eq] at h;simp [zrw,h]
theorem zpl {id:Nat} {c:Code}:zrw cf F n st id (.code c::r)=zrw cf F n st id r:=_root_.id rfl
theorem zpk {id:Nat} {c:St→Prop}:zrw cf F n st id (.stop c::r)=zrw cf F n st id r:=_root_.id rfl
structure Tag2 (a b:Prop):Type where
def zw1 (x:SV) (p q:Prop) (t:Tag2 p q):Prop:=match x with
 | .b t=>(t=true→p)∧(t=false→q)
 | _=>False
theorem zym {t:Bool} {p q:Prop} {tg:Tag2 p q}:zw1 (.b t) p q tg=((t=true→p)∧(t=false→q)):=id rfl
theorem zkt {p q:Prop} {tg:Tag2 p q}:zw1 (.b true) p q tg=p:=by simp [zw1]
theorem zht {p q:Prop} {tg:Tag2 p q}:zw1 (.b false) p q tg=q:=by simp [zw1]
theorem zys {c:Operand} {x y:Code}:vc cf F (n+1) (.code (.cond c x y)::r) st=zw1 (st.ev c) (vc cf F n (.code x::r) st) (vc cf F n (.code y::r) st) ⟨⟩:=id rfl
end code
section ops
variable {P:Program} {te:TE} {wr:Bool} {nt:Nat} {pt:PT} {sp g c:Bool} {ops:Array Oper} {st:St} {K:Sl St} {os:List Oper} {dst:Option Tmp} {ty:TypeId} {pos:String} {after:Array Edge} {gd:Option (Nat×Bool)}
theorem XL_nil:XLs P te wr nt pt sp ops K [] st=K.f st:=id rfl
theorem z3b {op:Op}:XLs P te wr nt pt sp ops K (⟨dst,op,ty,pos,after,none⟩::os) st=XOs P te wr nt pt false true st ⟨dst,op,ty,pos,after,none⟩ ⟨XLs P te wr nt pt sp ops K os,⟨⟩⟩:=id rfl
def zf4 (sp:Bool) (P:Program) (te:TE) (wr:Bool) (nt:Nat) (pt:PT) (d:Option Tmp) (want:Bool) (st:St) (o:Oper) (K:Sl St):Prop:=
 match d with
  | none=>False
  | some d=>zjg want (look st.env d) fun c=>
    if sp then (c=true→zoi P te wr nt pt false true st o K.f)∧(c=false→zoo nt st o.dst (.gd false (.b false)) K.f)
    else zoi P te wr nt pt true c st o K.f
theorem zwt {op:Op} {j:Nat} {want:Bool}:XLs P te wr nt pt sp ops K (⟨dst,op,ty,pos,after,some (j,want)⟩::os) st=zf4 sp P te wr nt pt (zjo ops j) want st ⟨dst,op,ty,pos,after,some (j,want)⟩ ⟨XLs P te wr nt pt sp ops K os,⟨⟩⟩:=id rfl
theorem zto {d:Tmp} {want:Bool} {o:Oper}:zf4 false P te wr nt pt (some d) want st o K=zoa want (look st.env d) ⟨fun c=>XOs P te wr nt pt true c st o K,⟨⟩⟩:=id rfl
theorem znf {d:Tmp} {want:Bool} {o:Oper}:zf4 true P te wr nt pt (some d) want st o K=zoa want (look st.env d) ⟨fun c=>(c=true→XOs P te wr nt pt false true st o K)∧(c=false→w5 nt st o.dst (.gd false (.b false)) K),⟨⟩⟩:=id rfl
theorem zmx {o:Oper} {l:List Oper}:zjo ⟨o::l⟩ 0=o.dst:=id rfl
theorem zmy {o:Oper} {l:List Oper} {i:Nat}:zjo ⟨o::l⟩ (i+1)=zjo ⟨l⟩ i:=by simp [zjo]
theorem zho {want:Bool} {e:Bool} {K:Sl Bool}:zoa want (.b e) K=K.f (if want then e else !e):=id rfl
theorem zjf {want g:Bool} {e:Bool} {K:Sl Bool}:zoa want (.gd g (.b e)) K=K.f (g&&(if want then e else !e)):=id rfl
theorem ung_gd {c g:Bool} {v:SV} {K:Sl SV}:u0 c (.gd g v) K=Chk (c=true→g=true) (K.f v):=id rfl
def gz (g c:Bool) (z:SV):SV:=if g then zj1 c z else z
theorem gz_f {z:SV}:gz false c z=z:=id rfl
theorem gz_t {z:SV}:gz true c z=zj1 c z:=id rfl
theorem ung_b {c:Bool} {x:Bool} {K:Sl SV}:u0 c (.b x) K=K.f (.b x):=id rfl
theorem ung_i {c:Bool} {k:IntKind} {x:Int} {K:Sl SV}:u0 c (.i k x) K=K.f (.i k x):=id rfl
theorem ung_s {c:Bool} {x:List UInt8} {K:Sl SV}:u0 c (.s x) K=K.f (.s x):=id rfl
theorem zyw {c:Bool} {h i k:Nat} {K:Sl SV}:u0 c (.ptr h i k) K=K.f (.ptr h i k):=id rfl
theorem zyv {c:Bool} {h i k:Nat} {K:Sl SV}:u0 c (.slc h i k) K=K.f (.slc h i k):=id rfl
theorem zt7 {c:Bool}  {K:Sl SV}:u0 c (.nils) K=K.f (.nils):=id rfl
theorem ung_mp {c:Bool} {h:Nat} {K:Sl SV}:u0 c (.mp h) K=K.f (.mp h):=id rfl
theorem zyx {c:Bool} {l:List SV} {K:Sl SV}:u0 c (.agg l) K=K.f (.agg l):=id rfl
theorem zyu {c:Bool} {l:List SV} {K:Sl SV}:u0 c (.tup l) K=K.f (.tup l):=id rfl
theorem ung_fs {c:Bool} {sz:Nat} {l:List (List SV)} {K:Sl SV}:u0 c (.fs sz l) K=K.f (.fs sz l):=id rfl
theorem ung_fp {c:Bool} {l:List SV} {k:Nat} {K:Sl SV}:u0 c (.fp l k) K=K.f (.fp l k):=id rfl
theorem mkgd_b {c:Bool} {x:Bool}:zj1 c (.b x)=.gd c (.b x):=id rfl
theorem mkgd_i {c:Bool} {k:IntKind} {x:Int}:zj1 c (.i k x)=.gd c (.i k x):=id rfl
theorem mkgd_s {c:Bool} {x:List UInt8}:zj1 c (.s x)=.gd c (.s x):=id rfl
theorem zvs {c:Bool} {h i k:Nat}:zj1 c (.ptr h i k)=.gd c (.ptr h i k):=id rfl
theorem zvq {c:Bool} {h i k:Nat}:zj1 c (.slc h i k)=.gd c (.slc h i k):=id rfl
theorem zql {c:Bool}  : zj1 c (.nils)=.gd c (.nils):=id rfl
theorem z08 {c:Bool} {h:Nat}:zj1 c (.mp h)=.gd c (.mp h):=id rfl
theorem zvt {c:Bool} {l:List SV}:zj1 c (.agg l)=.gd c (.agg l):=id rfl
theorem zvp {c:Bool} {l:List SV}:zj1 c (.tup l)=.gd c (.tup l):=id rfl
theorem z1a {c:Bool} {sz:Nat} {l:List (List SV)}:zj1 c (.fs sz l)=.gd c (.fs sz l):=id rfl
theorem z1b {c:Bool} {l:List SV} {k:Nat}:zj1 c (.fp l k)=.gd c (.fp l k):=id rfl
theorem z09 {c g:Bool} {x:SV}:zj1 c (.gd g x)=.gd (c&&g) x:=id rfl
def ifPtr (v:SV) (K:Sl (Nat×Nat×Nat)):Prop:=match v with
 | .ptr h i k=>K.f (h,i,k)
 | _=>False
theorem zq3 {h i k:Nat} {K:Sl (Nat×Nat×Nat)}:ifPtr (.ptr h i k) K=K.f (h,i,k):=id rfl
def ifPP (v:SV) (K:Sl (Nat×Nat×Nat)) (K2:Sl (List SV×Nat)):Prop:=match v with
 | .ptr h i k=>K.f (h,i,k)
 | .fp l k=>K2.f (l,k)
 | _=>False
theorem zv0 {h i k:Nat} {K:Sl (Nat×Nat×Nat)} {K2:Sl (List SV×Nat)}:ifPP (.ptr h i k) K K2=K.f (h,i,k):=id rfl
theorem z1x {l:List SV} {k:Nat} {K:Sl (Nat×Nat×Nat)} {K2:Sl (List SV×Nat)}:ifPP (.fp l k) K K2=K2.f (l,k):=id rfl
def ifSF (v:SV) (K:Sl (Nat×Nat×Nat)) (K2:Sl (Nat×List (List SV))):Prop:=match v with
 | .slc h i k=>K.f (h,i,k)
 | .fs z l=>K2.f (z,l)
 | _=>False
theorem zvz {h i k:Nat} {K:Sl (Nat×Nat×Nat)} {K2:Sl (Nat×List (List SV))}:ifSF (.slc h i k) K K2=K.f (h,i,k):=id rfl
theorem z1w {z:Nat} {l:List (List SV)} {K:Sl (Nat×Nat×Nat)} {K2:Sl (Nat×List (List SV))}:ifSF (.fs z l) K K2=K2.f (z,l):=id rfl
def ifSlc (v:SV) (K:Sl (Nat×Nat×Nat)):Prop:=match v with
 | .slc h i k=>K.f (h,i,k)
 | _=>False
theorem zq1 {h i k:Nat} {K:Sl (Nat×Nat×Nat)}:ifSlc (.slc h i k) K=K.f (h,i,k):=id rfl
def ifB (v:SV) (K:Sl (Bool)):Prop:=match v with
 | .b x=>K.f x
 | _=>False
theorem ifB_b {x:Bool} {K:Sl (Bool)}:ifB (.b x) K=K.f x:=id rfl
def ifI (v:SV) (K:Sl (IntKind×Int)):Prop:=match v with
 | .i k x=>K.f (k,x)
 | _=>False
theorem ifI_i {k:IntKind} {x:Int} {K:Sl (IntKind×Int)}:ifI (.i k x) K=K.f (k,x):=id rfl
def ifS (v:SV) (K:Sl (List UInt8)):Prop:=match v with
 | .s l=>K.f l
 | _=>False
theorem ifS_s {l:List UInt8} {K:Sl (List UInt8)}:ifS (.s l) K=K.f l:=id rfl
def ifTup (v:SV) (K:Sl (List SV)):Prop:=match v with
 | .tup l=>K.f l
 | _=>False
theorem zq0 {l:List SV} {K:Sl (List SV)}:ifTup (.tup l) K=K.f l:=id rfl
def zcc (v:TD) (K:Sl (List (TypeId×Nat))):Prop:=match v with
 | .struct l=>K.f l
 | _=>False
theorem zbz {l:List (TypeId×Nat)} {K:Sl (List (TypeId×Nat))}:zcc (.struct l) K=K.f l:=id rfl
def xm (v:TD) (K:Sl (TypeId)):Prop:=match v with
 | .slice e=>K.f e
 | _=>False
theorem zer {e:TypeId} {K:Sl (TypeId)}:xm (.slice e) K=K.f e:=id rfl
def onO {α:Type} (o:Option α) (K:Sl α):Prop:=match o with
 | some x=>K.f x
 | none=>False
theorem zvc {α:Type} {x:α} {K:Sl α}:onO (some x) K=K.f x:=id rfl
def zyk (b:Bool) (p q:Prop) (t:Tag2 p q):Prop:=if b then p else q
theorem zqt {p q:Prop} {tg:Tag2 p q}:zyk true p q tg=p:=by simp [zyk]
theorem zmd {p q:Prop} {tg:Tag2 p q}:zyk false p q tg=q:=by simp [zyk]
def zqv:TD→Bool
 | .str=>true
 | _=>false
theorem zus {te:TE} {st:St} {Q:SV→Ctx→Prop} {acc:List SV}:zrv te st Q [] acc=Q (tupS acc) st.ctx:=id rfl
theorem zur {te:TE} {st:St} {Q:SV→Ctx→Prop} {acc:List SV} {t:Tmp} {r:List ResultVar}:zrv te st Q (.tmp t::r) acc=zrv te st Q r (acc++[look st.env t]):=id rfl
theorem zpb {te:TE} {st:St} {Q:SV→Ctx→Prop} {acc:List SV} {a:Tmp} {t:TypeId} {r:List ResultVar}:zrv te st Q (.cell a t::r) acc=onO (cellV te st.ctx (look st.env a) t) ⟨fun x=>zrv te st Q r (acc++[x]),⟨⟩⟩:=by simp only [zrv];cases cellV te st.ctx (look st.env a) t<;>rfl
theorem zt9 {x:SV}:tupS [x]=x:=id rfl
theorem zt8 {x y:SV}:tupS [x,y]=.tup [x,y]:=id rfl
theorem zlb {x y z:SV}:tupS [x,y,z]=.tup [x,y,z]:=id rfl
theorem zoy {x y z q:SV}:tupS [x,y,z,q]=.tup [x,y,z,q]:=id rfl
def oLen (v:SV) (t:TD) (K:Sl SV):Prop:=match v,t with
   | .s l,.str=>K.f (.i .i64 l.length)
   | .slc _ _ len,.slice _=>K.f (.i .i64 len)
   | .fs _ l,.slice _=>K.f (.i .i64 l.length)
   | .nils,.slice _=>K.f (.i .i64 0)
   | _,_=>False
theorem z00 {z:Nat} {l:List (List SV)} {e:TypeId} {K:Sl SV}:oLen (.fs z l) (.slice e) K=K.f (.i .i64 l.length):=id rfl
theorem oLen_s {l:List UInt8} {K:Sl SV}:oLen (.s l) .str K=K.f (.i .i64 l.length):=id rfl
theorem zvh {h lo len:Nat} {e:TypeId} {K:Sl SV}:oLen (.slc h lo len) (.slice e) K=K.f (.i .i64 len):=id rfl
theorem zqg {e:TypeId} {K:Sl SV}:oLen .nils (.slice e) K=K.f (.i .i64 0):=id rfl
theorem zro {x:Operand}:XOs P te wr nt pt g c st ⟨dst,.move x,ty,pos,after,gd⟩ K=w5 nt st dst (gz g c (st.ev x)) K:=id rfl
theorem zjx {x:Operand}:XOs P te wr nt pt g c st ⟨dst,.assign x,ty,pos,after,gd⟩ K=w5 nt st dst (gz g c (st.ev x)) K:=id rfl
theorem zrn {e a b:Operand}:XOs P te wr nt pt g c st ⟨dst,.pick e a b,ty,pos,after,gd⟩ K=u0 c (st.ev e) ⟨fun e'=>ifB e' ⟨fun e0=>u0 (c&&e0) (st.ev a) ⟨fun a'=>u0 (c&&!e0) (st.ev b) ⟨fun b'=>ifB a' ⟨fun x=>ifB b' ⟨fun y=>w5 nt st dst (gz g c (.b (bif e0 then x else y))) K,⟨⟩⟩,⟨⟩⟩,⟨⟩⟩,⟨⟩⟩,⟨⟩⟩,⟨⟩⟩:=by
 show (ung c (st.ev e) _)=ung c (st.ev e) _;congr;funext e';cases e'<;>try rfl
 show ung _ _ _=ung _ _ _;congr;funext a';show ung _ _ _=ung _ _ _;congr;funext b';cases a'<;>cases b'<;>rfl
theorem zc5 {s:TypeId} {x:Operand} {f:Nat}:XOs P te wr nt pt g c st ⟨dst,.fieldAddr s x f,ty,pos,after,gd⟩ K=u0 c (st.ev x) ⟨fun v=>ifPP v ⟨fun p=>zcc (tdOf te s) ⟨fun fs=>onO fs[f]? ⟨fun q=>te q.1≠none∧j8 te q.1≠0∧w5 nt st dst (gz g c (.ptr p.1 p.2.1 (p.2.2+q.2))) K,⟨⟩⟩,⟨⟩⟩,⟨⟩⟩ ⟨fun p=>zcc (tdOf te s) ⟨fun fs=>onO fs[f]? ⟨fun q=>te q.1≠none∧j8 te q.1≠0∧w5 nt st dst (gz g c (.fp p.1 (p.2+q.2))) K,⟨⟩⟩,⟨⟩⟩,⟨⟩⟩,⟨⟩⟩:=by
 show (ung c (st.ev x) _)=ung c (st.ev x) _;congr;funext v;cases v<;>try rfl
 all_goals
  simp only [ifPP];cases tdOf te s<;>try rfl
  rename_i fs;simp only [zcc];cases fs[f]?<;>rfl
theorem zc4 {t:TypeId} {x ix:Operand}:XOs P te wr nt pt g c st ⟨dst,.indexAddr t x ix,ty,pos,after,gd⟩ K=u0 c (st.ev x) ⟨fun v=>u0 c (st.ev ix) ⟨fun m=>ifI m ⟨fun n=>xm (tdOf te t) ⟨fun e=>ifSF v ⟨fun p=>onO (st.ctx.at p.1) ⟨fun o=>o.isMap=false∧te e≠none∧j8 te e=o.sz∧Chk (c=true→0≤n.2∧n.2<p.2.2) (w5 nt st dst (gz g c (.ptr p.1 (p.2.1+n.2.toNat) 0)) K),⟨⟩⟩,⟨⟩⟩ ⟨fun p=>te e≠none∧j8 te e=p.1∧Chk (c=true→0≤n.2∧n.2<p.2.length) (w5 nt st dst (gz g c (.fp (p.2.getD n.2.toNat (zop te e)) 0)) K),⟨⟩⟩,⟨⟩⟩,⟨⟩⟩,⟨⟩⟩,⟨⟩⟩:=by
 show (ung c (st.ev x) _)=ung c (st.ev x) _;congr;funext v;show ung _ _ _=ung _ _ _;congr;funext m;cases v<;>cases m<;>(try rfl)<;>simp only [ifI,ifSF]<;>cases tdOf te t<;>(try rfl)<;>simp only [xm]
 rename_i h lo len k n e;cases st.ctx.at h<;>simp [onO,and_assoc,gz,w5]
theorem zm9 {t:TypeId} {x ix:Operand}:XOs P te wr nt pt g c st ⟨dst,.index t x ix,ty,pos,after,gd⟩ K=u0 c (st.ev x) ⟨fun v=>u0 c (st.ev ix) ⟨fun m=>ifS v ⟨fun l=>ifI m ⟨fun n=>zyk (zqv (tdOf te t)) (Chk (c=true→0≤n.2∧n.2<l.length) (w5 nt st dst (gz g c (.i .u8 (l.getD n.2.toNat 0).toNat)) K)) False ⟨⟩,⟨⟩⟩,⟨⟩⟩,⟨⟩⟩,⟨⟩⟩:=by show (ung c (st.ev x) _)=ung c (st.ev x) _;congr;funext v;show ung _ _ _=ung _ _ _;congr;funext m;cases v<;>cases m<;>(try rfl)<;>simp only [ifI,ifS]<;>cases tdOf te t<;>simp [zyk,zqv,gz,w5]
theorem zgy {x:Operand} {i:Nat}:XOs P te wr nt pt g c st ⟨dst,.extract x i,ty,pos,after,gd⟩ K=u0 c (st.ev x) ⟨fun v=>ifTup v ⟨fun l=>i<l.length∧w5 nt st dst (gz g c (l.getD i .u)) K,⟨⟩⟩,⟨⟩⟩:=by
 show (ung c (st.ev x) _)=ung c (st.ev x) _;first
  | rfl
  | (congr;funext v;cases v<;>rfl)
theorem zwm {t:TypeId} {x:Operand}:XOs P te wr nt pt g c st ⟨dst,.unOp .not t x,ty,pos,after,gd⟩ K=u0 c (st.ev x) ⟨fun v=>ifB v ⟨fun b=>w5 nt st dst (gz g c (.b (!b))) K,⟨⟩⟩,⟨⟩⟩:=by
 show (ung c (st.ev x) _)=ung c (st.ev x) _;first
  | rfl
  | (congr;funext v;cases v<;>rfl)
theorem zwn {t:TypeId} {x:Operand}:XOs P te wr nt pt g c st ⟨dst,.unOp .neg t x,ty,pos,after,gd⟩ K=u0 c (st.ev x) ⟨fun v=>ifI v ⟨fun n=>Chk (c=true→inR n.1 (0-n.2)) (w5 nt st dst (gz g c (.i n.1 (0-n.2))) K),⟨⟩⟩,⟨⟩⟩:=by
 show (ung c (st.ev x) _)=ung c (st.ev x) _;first
  | rfl
  | (congr;funext v;cases v<;>rfl)
theorem znb {op:BinOp} {t yt:TypeId} {x y:Operand}:XOs P te wr nt pt g c st ⟨dst,.binOp op t x y yt,ty,pos,after,gd⟩ K=u0 c (st.ev x) ⟨fun v=>u0 c (st.ev y) ⟨fun y=>kg te t wr c op v y ⟨fun z=>w5 nt st dst (gz g c (z)) K,⟨⟩⟩,⟨⟩⟩,⟨⟩⟩:=id rfl
def zrz (te:TE) (t:TypeId) (st:St) (c:Bool) (x:SV) (lo hi:Option Operand) (K:Sl SV):Prop:=xcut te t st c x lo hi K.f
theorem zm7 {t:TypeId} {x:Operand} {lo hi:Option Operand}:XOs P te wr nt pt g c st ⟨dst,.slice t x lo hi none,ty,pos,after,gd⟩ K=u0 c (st.ev x) ⟨fun v=>zrz te t st c v lo hi ⟨fun z=>w5 nt st dst (gz g c (z)) K,⟨⟩⟩,⟨⟩⟩:=id rfl
theorem zwq {x:Operand} {t:TypeId}:XOs P te wr nt pt g c st ⟨dst,.call { callee:=.builtin .len,args:=#[x],argTypes:=#[t] },ty,pos,after,gd⟩ K=u0 c (st.ev x) ⟨fun v=>oLen v (tdOf te t) ⟨fun z=>w5 nt st dst (gz g c (z)) K,⟨⟩⟩,⟨⟩⟩:=by
 show (ung c (st.ev x) _)=ung c (st.ev x) _;first
  | rfl
  | (congr;funext v;cases v<;>cases tdOf te t<;>rfl)
theorem zrp {t:TypeId} {x:Operand}:XOs P te wr nt pt g c st ⟨dst,.load t x,ty,pos,after,gd⟩ K=u0 c (st.ev x) ⟨fun v=>ifPP v ⟨fun p=>onO (st.ctx.at p.1) ⟨fun ob=>onO (te t) ⟨fun ti=>ob.isMap=false∧ti.td≠.other∧zyk ti.td.isStruct (p.2.2+ti.size≤ob.sz∧(ob.el p.2.1).length=ob.sz∧Chk (c=true→p.2.1<ob.n) (w5 nt st dst (gz g c (.agg (((ob.el p.2.1).drop p.2.2).take ti.size))) K)) (p.2.2<ob.sz∧Chk (c=true→p.2.1<ob.n) (w5 nt st dst (gz g c ((ob.el p.2.1).getD p.2.2 .u)) K)) ⟨⟩,⟨⟩⟩,⟨⟩⟩,⟨⟩⟩ ⟨fun p=>onO (te t) ⟨fun ti=>ti.td≠.other∧zyk ti.td.isStruct (Chk (c=true→p.2+ti.size≤p.1.length) (w5 nt st dst (gz g c (.agg ((p.1.drop p.2).take ti.size))) K)) (Chk (c=true→p.2<p.1.length) (w5 nt st dst (gz g c (p.1.getD p.2 .u)) K)) ⟨⟩,⟨⟩⟩,⟨⟩⟩,⟨⟩⟩:=by
 show (ung c (st.ev x) _)=ung c (st.ev x) _;congr;funext v;cases v<;>try rfl
 ·simp only [ifPP];rename_i h i k;cases st.ctx.at h<;>try rfl
  cases te t<;>rfl
 ·simp only [ifPP];cases te t<;>rfl
theorem zwr {t:TypeId} {x:Operand}:XOs P te wr nt pt false c st ⟨dst,.box t x,ty,pos,after,gd⟩ K=(ji (st.ev x)=true∧w5 nt (st.addObj (.blk false (cellsOf (st.ev x)))) dst (.ptr st.ctx.length 0 0) K):=by show (false=false∧_)=_;simp only [true_and];rfl
theorem znc {t:TypeId}:XOs P te wr nt pt false c st ⟨dst,.alloc t,ty,pos,after,gd⟩ K=onO (te t) ⟨fun ti=>w5 nt (st.addObj (.blk false ti.zero)) dst (.ptr st.ctx.length 0 0) K,⟨⟩⟩:=by show (false=false∧_)=_;simp only [true_and];show (match te t with | some ti=>_ | none=>False)=_;cases te t<;>rfl
theorem zm6 {t:TypeId} {x y:Operand}:XOs P te wr nt pt false c st ⟨dst,.store t x y,ty,pos,after,gd⟩ K=ifPtr (st.ev x) ⟨fun p=>onO (st.ctx.at p.1) ⟨fun ob=>onO (te t) ⟨fun ti=>ob.isMap=false∧ob.ro=false∧ji (st.ev y)=true∧(cellsOf (st.ev y)).length=ti.size∧(cellsOf (st.ev y)).all wl=true∧(ob.el p.2.1).length=ob.sz∧p.2.2+ti.size≤ob.sz∧Chk (p.2.1<ob.n) (w5 nt (st.setObj p.1 (some (ob.put p.2.1 p.2.2 (cellsOf (st.ev y))))) dst .u K),⟨⟩⟩,⟨⟩⟩,⟨⟩⟩:=by
 show (false=false∧_)=_;simp only [true_and];show zkr te st (.store t x y) _=_;simp only [zkr];cases st.ev x<;>try rfl
 simp only [ifPtr];rename_i h i k;cases st.ctx.at h<;>try rfl
 cases te t<;>rfl
/-- A call of one of the table's functions. -/
def oCall (t:Option (Prop×SV)) (c gr:Bool) (args:List SV) (ctx:Ctx) (K:Sl SV):Prop:=match t with
 | some (p,z)=>zgp (j9 args) z gr=true∧Chk (c=true→gokL args∧jx ctx (j9 args)∧p) (K.f z)
 | none=>False
theorem zl4 {p:Prop} {z:SV} {gr:Bool} {args:List SV} {ctx:Ctx} {K:Sl SV}:oCall (some (p,z)) c gr args ctx K=(zgp (j9 args) z gr=true∧Chk (c=true→gokL args∧jx ctx (j9 args)∧p) (K.f z)):=id rfl
def zqh (P:Program) (t:Option PE) (f:FuncId) (args:List SV) (kk:Nat) (gr:Bool) (st:St) (g c:Bool) (K:Sl SV) (KX:Sl (SV×St)):Prop:=match t with
 | some e=>oCall (e (vn st.ctx (j9 args))) c gr args st.ctx K
 | none=>g=false∧gr=true∧yp P f args kk st KX
theorem zi1 {P:Program} {e:PE} {f:FuncId} {args:List SV} {kk:Nat} {gr:Bool} {K:Sl SV} {KX:Sl (SV×St)}:zqh P (some e) f args kk gr st g c K KX=oCall (e (vn st.ctx (j9 args))) c gr args st.ctx K:=id rfl
theorem zi2 {P:Program} {f:FuncId} {args:List SV} {kk:Nat} {K:Sl SV} {KX:Sl (SV×St)}:zqh P none f args kk true st false c K KX=yp P f args kk st KX:=by simp [zqh]
theorem zrq {f:FuncId} {args:Array Operand} {ts:Array TypeId}:XOs P te wr nt pt g c st ⟨dst,.call { callee:=.value (.func f),args:=args,argTypes:=ts },ty,pos,after,gd⟩ K=zqh P (ptOf pt f) f (args.toList.map st.ev) pt.k pt.gr st g c ⟨fun z=>w5 nt st dst (gz g c (z)) K,⟨⟩⟩ ⟨fun p=>w5 nt p.2 dst p.1 K,⟨⟩⟩:=by
 show (match ptOf pt f with
   | some t=>match t (vn st.ctx (j9 (args.toList.map st.ev))) with
    | some (p,z)=>zgp (j9 (args.toList.map st.ev)) z pt.gr=true∧Chk (c=true→gokL (args.toList.map st.ev)∧jx st.ctx (j9 (args.toList.map st.ev))∧p) (zoo nt st dst (if g then zj1 c z else z) K.f)
    | none=>False
   | none=>g=false∧pt.gr=true∧zhb P f (args.toList.map st.ev) pt.k st fun z st'=>zoo nt st' dst z K.f)=_
 cases ptOf pt f with
 | none=>rfl
 | some e=>simp only [zqh,oCall];cases e (vn st.ctx (j9 (args.toList.map st.ev)))<;>rfl
theorem ze0 {x:Operand}:XOs P te wr nt pt g c st ⟨dst,.nilCheck x,ty,pos,after,gd⟩ K=u0 c (st.ev x) ⟨fun v=>ifPP v ⟨fun p=>w5 nt st dst (gz g c (.ptr p.1 p.2.1 p.2.2)) K,⟨⟩⟩ ⟨fun p=>w5 nt st dst (gz g c (.fp p.1 p.2)) K,⟨⟩⟩,⟨⟩⟩:=by
 show (ung c (st.ev x) _)=ung c (st.ev x) _;first
  | rfl
  | (congr;funext v;cases v<;>rfl)
theorem zwo {x y:Operand} {ts:Array TypeId}:XOs P te wr nt pt g c st ⟨dst,.call { callee:=.builtin .min,args:=#[x,y],argTypes:=ts },ty,pos,after,gd⟩ K=u0 c (st.ev x) ⟨fun v=>u0 c (st.ev y) ⟨fun w=>ifI v ⟨fun p=>ifI w ⟨fun q=>w5 nt st dst (gz g c (.i p.1 (if q.2<p.2 then q.2 else p.2))) K,⟨⟩⟩,⟨⟩⟩,⟨⟩⟩,⟨⟩⟩:=by show (ung c (st.ev x) _)=ung c (st.ev x) _;congr;funext v;show ung _ _ _=ung _ _ _;congr;funext w;cases v<;>cases w<;>rfl
theorem zwp {x y:Operand} {ts:Array TypeId}:XOs P te wr nt pt g c st ⟨dst,.call { callee:=.builtin .max,args:=#[x,y],argTypes:=ts },ty,pos,after,gd⟩ K=u0 c (st.ev x) ⟨fun v=>u0 c (st.ev y) ⟨fun w=>ifI v ⟨fun p=>ifI w ⟨fun q=>w5 nt st dst (gz g c (.i p.1 (if q.2>p.2 then q.2 else p.2))) K,⟨⟩⟩,⟨⟩⟩,⟨⟩⟩,⟨⟩⟩:=by show (ung c (st.ev x) _)=ung c (st.ev x) _;congr;funext v;show ung _ _ _=ung _ _ _;congr;funext w;cases v<;>cases w<;>rfl
theorem zna {t:TypeId} {parts:Array (Nat×Operand)}:XOs P te wr nt pt g c st ⟨dst,.build t parts,ty,pos,after,gd⟩ K=onO (te t) ⟨fun ti=>zcc ti.td ⟨fun fs=>(parts.toList.all fun p=>ji (st.ev p.2))=true∧(fs.all fun p=>(te p.1).isSome)=true∧onO (fillS te fs ti.zero (parts.toList.map fun p=>(p.1,st.ev p.2))) ⟨fun l=>w5 nt st dst (gz g c (.agg l)) K,⟨⟩⟩,⟨⟩⟩,⟨⟩⟩:=by
 simp only [XOs,zoi,y5,zry];cases te t with
 | none=>rfl
 | some ti=>
  simp only [onO];cases ti.td<;>try rfl
  rename_i fs;simp only [zcc,onO];cases fillS te fs ti.zero (parts.toList.map fun p=>(p.1,st.ev p.2))<;>rfl
def z2x (st:St) (c:Bool) (o:Option Operand) (d:Int) (K:Sl Int):Prop:=bndS st c o d K.f
theorem zrk {d:Int} {K:Sl Int}:z2x st c none d K=K.f d:=id rfl
theorem zrj {x:Operand} {d:Int} {K:Sl Int}:z2x st c (some x) d K=u0 c (st.ev x) ⟨fun v=>ifI v ⟨fun n=>K.f n.2,⟨⟩⟩,⟨⟩⟩:=by
 simp only [z2x,bndS,u0];first
  | rfl
  | (congr;done)
  | (congr;funext v;cases v<;>rfl)
theorem zyl {t:TypeId} {l:List UInt8} {lo hi:Option Operand} {K:Sl SV}:zrz te t st c (.s l) lo hi K=zyk (zqv (tdOf te t)) (z2x st c hi l.length ⟨fun h=>z2x st c lo 0 ⟨fun b=>Chk (c=true→0≤b∧b≤h∧h≤l.length) (K.f (.s ((l.take h.toNat).drop b.toNat))),⟨⟩⟩,⟨⟩⟩) False ⟨⟩:=by simp only [zrz,xcut];cases tdOf te t<;>simp [zyk,zqv,z2x]
theorem zou {t:TypeId} {h a len:Nat} {lo hi:Option Operand} {K:Sl SV}:zrz te t st c (.slc h a len) lo hi K=xm (tdOf te t) ⟨fun e=>onO (st.ctx.at h) ⟨fun o=>o.isMap=false∧te e≠none∧j8 te e=o.sz ∧
   z2x st c hi len ⟨fun y=>z2x st c lo 0 ⟨fun b=>Chk (c=true→0≤b∧b≤y∧y≤len) (K.f (.slc h (a+b.toNat) (y.toNat-b.toNat))),⟨⟩⟩,⟨⟩⟩,⟨⟩⟩,⟨⟩⟩:=by
 simp only [zrz,xcut];cases tdOf te t<;>try rfl
 simp only [xm];cases st.ctx.at h<;>simp [onO,z2x,and_assoc]
theorem ztp {t:TypeId} {z:Nat} {l:List (List SV)} {lo hi:Option Operand} {K:Sl SV}:zrz te t st c (.fs z l) lo hi K=xm (tdOf te t) ⟨fun e=>te e≠none∧j8 te e=z ∧
   z2x st c hi l.length ⟨fun y=>z2x st c lo 0 ⟨fun b=>Chk (c=true→0≤b∧b≤y∧y≤l.length) (K.f (.fs z ((l.take y.toNat).drop b.toNat))),⟨⟩⟩,⟨⟩⟩,⟨⟩⟩:=by
 simp only [zrz,xcut];cases tdOf te t<;>try rfl
def zsj (a b:TD) (k0 k1 k2:Prop) (t:Tag2 k0 k1) (t':Tag2 k1 k2):Prop:=match a,b with
 | .slice _,.str=>k1
 | .slice _,.slice _=>k2
 | _,_=>k0
theorem zvk {a b:TypeId} {k0 k1 k2:Prop} {t:Tag2 k0 k1} {t':Tag2 k1 k2}:zsj (.slice a) (.slice b) k0 k1 k2 t t'=k2:=id rfl
theorem zvj {a:TypeId} {k0 k1 k2:Prop} {t:Tag2 k0 k1} {t':Tag2 k1 k2}:zsj (.slice a) .str k0 k1 k2 t t'=k1:=id rfl
theorem zvm {a b:IntKind} {k0 k1 k2:Prop} {t:Tag2 k0 k1} {t':Tag2 k1 k2}:zsj (.int a) (.int b) k0 k1 k2 t t'=k0:=id rfl
theorem zvl {a:IntKind} {k0 k1 k2:Prop} {t:Tag2 k0 k1} {t':Tag2 k1 k2}:zsj (.int a) .str k0 k1 k2 t t'=k0:=id rfl
theorem zvi {k0 k1 k2:Prop} {t:Tag2 k0 k1} {t':Tag2 k1 k2}:zsj .str .str k0 k1 k2 t t'=k0:=id rfl
def zf5 (te:TE) (wr c:Bool) (td:TD) (x:SV) (K:Sl SV):Prop:=match td,x with
 | .int k,.i _ n=>if wr then K.f (.i k (k.wrap n)) else Chk (c=true→inR k n) (K.f (.i k n))
 | .str,.s l=>K.f (.s l)
 | .str,.i _ n=>K.f (.s (Utf8.encode n).data.toList)
 | _,_=>False
theorem zts {k k':IntKind} {n:Int} {K:Sl SV}:zf5 te false c (.int k) (.i k' n) K=Chk (c=true→inR k n) (K.f (.i k n)):=by simp [zf5]
theorem zov {k k':IntKind} {n:Int} {K:Sl SV}:zf5 te true c (.int k) (.i k' n) K=K.f (.i k (k.wrap n)):=by simp [zf5]
theorem ztr {l:List UInt8} {K:Sl SV}:zf5 te wr c .str (.s l) K=K.f (.s l):=id rfl
theorem ztq {k:IntKind} {n:Int} {K:Sl SV}:zf5 te wr c .str (.i k n) K=K.f (.s (Utf8.encode n).data.toList):=id rfl
/-- A string of a slice's bytes. -/
def oStr (te:TE) (a:TD) (ctx:Ctx) (c:Bool) (v:SV) (K:Sl SV):Prop:=match v,a with
 | .slc h lo len,.slice e=>xl te e=true∧(match ctx.at h with
   | some (.row ro sz n f)=>sz=1∧(∀ j,j<len→zme ((f (lo+j)).getD 0 .u)=true)∧Chk (c=true→lo+len≤n) (K.f (.s (w9 f lo len)))
   | _=>False)
 | .nils,.slice e=>xl te e=true∧K.f (.s [])
 | .fs sz l,.slice e=>xl te e=true∧sz=1∧Chk (c=true→∀ x∈l,zme (x.getD 0 .u)=true) (K.f (.s (ui l)))
 | _,_=>False
theorem z0w {sz:Nat} {l:List (List SV)} {e:TypeId} {ctx:Ctx} {K:Sl SV}:oStr te (.slice e) ctx c (.fs sz l) K=(xl te e=true∧sz=1∧Chk (c=true→∀ x∈l,zme (x.getD 0 .u)=true) (K.f (.s (ui l)))):=id rfl
def ifRow (o:Option SO) (K:Sl (Nat×Nat×(Nat→List SV))):Prop:=match o with
 | some (.row _ sz n f)=>K.f (sz,n,f)
 | _=>False
theorem zq2 {r:Bool} {sz n:Nat} {f:Nat→List SV} {K:Sl (Nat×Nat×(Nat→List SV))}:ifRow (some (.row r sz n f)) K=K.f (sz,n,f):=id rfl
theorem zvd {h lo len:Nat} {e:TypeId} {ctx:Ctx} {K:Sl SV}:oStr te (.slice e) ctx c (.slc h lo len) K=(xl te e=true∧ifRow (ctx.at h) ⟨fun p=>p.1=1∧(∀ j,j<len→zme ((p.2.2 (lo+j)).getD 0 .u)=true)∧Chk (c=true→lo+len≤p.2.1) (K.f (.s (w9 p.2.2 lo len))),⟨⟩⟩):=by
 simp only [oStr];rcases ctx.at h with _ | o
 ·rfl
 ·cases o<;>rfl
theorem zqe {e:TypeId} {ctx:Ctx} {K:Sl SV}:oStr te (.slice e) ctx c .nils K=(xl te e=true∧K.f (.s [])):=id rfl
theorem zgz {s d:TypeId} {x:Operand}:XOs P te wr nt pt g c st ⟨dst,.convert s d x,ty,pos,after,gd⟩ K=zsj (tdOf te s) (tdOf te d) (te s≠none∧u0 c (st.ev x) ⟨fun v=>zf5 te wr c (tdOf te d) v ⟨fun z=>w5 nt st dst (gz g c (z)) K,⟨⟩⟩,⟨⟩⟩) (u0 c (st.ev x) ⟨fun v=>oStr te (tdOf te s) st.ctx c v ⟨fun z=>w5 nt st dst (gz g c (z)) K,⟨⟩⟩,⟨⟩⟩) (g=false∧zkr te st (.convert s d x) fun z st'=>zoo nt st' dst z K.f) ⟨⟩ ⟨⟩:=by
 simp only [XOs,zoi,y5];cases hs:tdOf te s<;>cases hd:tdOf te d<;>simp only [zsj,zry,zf5,hd]
 case slice.str e=>
  simp only [zne,u0];congr 1;funext v;cases v<;>simp only [oStr,hs,hd]<;>rfl
 all_goals (congr 1;simp only [u0];congr 1;funext v;cases v<;>simp only [xconv,hd]<;>rfl)
theorem zb6 {t:TypeId} {len:Nat} {parts:Array (Nat×Operand)}:XOs P te wr nt pt false c st ⟨dst,.buildSlice t len parts,ty,pos,after,gd⟩ K=xm (tdOf te t) ⟨fun e=>onO (te e) ⟨fun ti=>ti.zero.length=ti.size∧len * ti.size≤16777216∧(parts.toList.all fun p=>ji (st.ev p.2))=true∧onO (fillP ti.size (zj0 ti.zero len) (parts.toList.map fun p=>(p.1,st.ev p.2))) ⟨fun l=>w5 nt (st.addObj (.row false ti.size len (q7 l ti.size))) dst (.slc st.ctx.length 0 len) K,⟨⟩⟩,⟨⟩⟩,⟨⟩⟩:=by
 simp only [XOs,zoi,y5,true_and,zkr];cases tdOf te t<;>try rfl
 rename_i e;simp only [xm];cases te e with
 | none=>rfl
 | some ti=>simp only [onO];cases fillP ti.size (zj0 ti.zero len) (parts.toList.map fun p=>(p.1,st.ev p.2))<;>rfl
theorem zc3 {t:TypeId} {l m:Operand}:XOs P te wr nt pt false c st ⟨dst,.makeSlice t l m,ty,pos,after,gd⟩ K=xm (tdOf te t) ⟨fun e=>ifI (st.ev l) ⟨fun n=>ifI (st.ev m) ⟨fun q=>n.1=.i64∧q.1=.i64∧onO (te e) ⟨fun ti=>ti.zero.length=ti.size∧Chk (0≤n.2∧n.2≤q.2∧q.2 * ti.bytes≤281474976710656∧q.2≤281474976710656) (w5 nt (st.addObj (.row false ti.size n.2.toNat (fun _=>ti.zero))) dst (.slc st.ctx.length 0 n.2.toNat) K),⟨⟩⟩,⟨⟩⟩,⟨⟩⟩,⟨⟩⟩:=by
 simp only [XOs,zoi,y5,true_and,zkr];cases tdOf te t<;>try rfl
 rename_i e;simp only [xm];cases st.ev l<;>try rfl
 rename_i k n;cases st.ev m<;>try (cases k<;>rfl)
 rename_i k' n';simp only [ifI];cases hte:te e with
 | none=>cases k<;>cases k'<;>simp [onO,hte]
 | some ti=>cases k<;>cases k'<;>simp [onO,w5,hte]
def zqw:TD→Bool
 | .slice _=>true
 | .str=>true
 | _=>false
def oSrc (st:St) (sz:Nat) (u8:Bool) (dh:Nat) (x:SV) (K:Sl (Nat×(Nat→List SV))):Prop:=xsrc st sz u8 dh x fun m f=>K.f (m,f)
theorem zqf {sz dh:Nat} {u8:Bool} {K:Sl (Nat×(Nat→List SV))}:oSrc st sz u8 dh .nils K=K.f (0,fun _=>[]):=id rfl
theorem z0x {sz z dh:Nat} {u8:Bool} {l:List (List SV)} {K:Sl (Nat×(Nat→List SV))}:oSrc st sz u8 dh (.fs z l) K=(z=sz∧(∀ x∈l,x.all wl=true)∧K.f (l.length,fun j=>l.getD j [])):=id rfl
theorem oSrc_s {sz dh:Nat} {u8:Bool} {l:List UInt8} {K:Sl (Nat×(Nat→List SV))}:oSrc st sz u8 dh (.s l) K=(u8=true∧sz=1∧K.f (l.length,fun j=>[.i .u8 (l.getD j 0).toNat])):=id rfl
theorem zve {sz dh h lo m:Nat} {u8:Bool} {K:Sl (Nat×(Nat→List SV))}:oSrc st sz u8 dh (.slc h lo m) K=ifRow (st.ctx.at h) ⟨fun p=>p.1=sz∧h≠dh∧(∀ j,j<m→(p.2.2 (lo+j)).all wl=true∧(p.2.2 (lo+j)).length=sz)∧Chk (lo+m≤p.2.1) (K.f (m,fun j=>p.2.2 (lo+j))),⟨⟩⟩:=by
 simp only [oSrc,xsrc];rcases st.ctx.at h with _ | o
 ·rfl
 ·cases o<;>rfl
def ifRowW (o:Option SO) (K:Sl (Nat×Nat×(Nat→List SV))):Prop:=match o with
 | some (.row false sz n f)=>K.f (sz,n,f)
 | _=>False
theorem zmj {sz n:Nat} {f:Nat→List SV} {K:Sl (Nat×Nat×(Nat→List SV))}:ifRowW (some (.row false sz n f)) K=K.f (sz,n,f):=id rfl
def oApp (te:TE) (st:St) (e:TypeId) (ti:TI) (s x:SV) (K:Sl (SV×St)):Prop:=match s with
   | .nils=>xsrc st ti.size (xl te e) st.ctx.length x fun m g=>Chk (m * ti.bytes≤140737488355328) (K.f (.slc st.ctx.length 0 m,st.addObj (.row false ti.size m g)))
   | .slc h lo len=>match st.ctx.at h with
    | some (.row false sz' n f)=>sz'=ti.size∧xsrc st ti.size (xl te e) h x fun m g=>Chk (lo+len≤n∧(len+m) * ti.bytes≤140737488355328)
      (K.f (.slc st.ctx.length 0 (len+m),(st.setObj h none).addObj (.row false ti.size (len+m) (zfz len (fun j=>f (lo+j)) g))))
    | _=>False
   | _=>False
theorem zqi {e:TypeId} {ti:TI} {x:SV} {K:Sl (SV×St)}:oApp te st e ti .nils x K=oSrc st ti.size (xl te e) st.ctx.length x ⟨fun q=>Chk (q.1 * ti.bytes≤140737488355328) (K.f (.slc st.ctx.length 0 q.1,st.addObj (.row false ti.size q.1 q.2))),⟨⟩⟩:=id rfl
theorem zvn {e:TypeId} {ti:TI} {h lo len:Nat} {x:SV} {K:Sl (SV×St)}:oApp te st e ti (.slc h lo len) x K=ifRowW (st.ctx.at h) ⟨fun p=>p.1=ti.size∧oSrc st ti.size (xl te e) h x ⟨fun q=>Chk (lo+len≤p.2.1∧(len+q.1) * ti.bytes≤140737488355328)
      (K.f (.slc st.ctx.length 0 (len+q.1),(st.setObj h none).addObj (.row false ti.size (len+q.1) (zfz len (fun j=>p.2.2 (lo+j)) q.2)))),⟨⟩⟩,⟨⟩⟩:=by
 simp only [oApp];rcases st.ctx.at h with _ | o
 ·rfl
 ·cases o<;>rfl
theorem zjy {s x:Operand} {t xt:TypeId}:XOs P te wr nt pt false c st ⟨dst,.call { callee:=.builtin .append,args:=#[s,x],argTypes:=#[t,xt] },ty,pos,after,gd⟩ K=(zqw (tdOf te xt)=true∧xm (tdOf te t) ⟨fun e=>onO (te e) ⟨fun ti=>ti.zero.length=ti.size∧ti.bytes≠0∧oApp te st e ti (st.ev s) (st.ev x) ⟨fun p=>w5 nt p.2 dst p.1 K,⟨⟩⟩,⟨⟩⟩,⟨⟩⟩):=by
 simp only [XOs,zoi,y5,true_and,zkr,znh];have h2:∀ (p q:Prop),p=q→∀ (a b:Prop),a=b→(p∧a)=(q∧b):=by intro p q e a b e';rw [e,e']
 refine h2 _ _ ?_ _ _ ?_
 ·cases tdOf te xt<;>simp [zqw]
 ·cases tdOf te t<;>try rfl
  rename_i e;simp only [xm];cases te e<;>rfl
def oLook (te:TE) (c ok:Bool) (st:St) (t:TypeId) (v y:SV) (K:Sl SV):Prop:=match v,y with
  | .mp h,.s s=>match st.ctx.at h,tdOf te t with
   | some (.mapS l),.map kt vt=>tdOf te kt=.str∧te vt=some ⟨.int .i64,1,8,[.i .i64 0],false⟩∧zhr c ok (lookS l s) K.f
   | _,_=>False
  | .mp h,.i .i64 s=>match st.ctx.at h,tdOf te t with
   | some (.mapI l),.map kt vt=>tdOf te kt=.int .i64∧te vt=some ⟨.int .i64,1,8,[.i .i64 0],false⟩∧zhr c ok (lookS l s) K.f
   | _,_=>False
  | _,_=>False
def oLookS (te:TE) (ok:Bool) (o:Option SO) (d:TD) (s:List UInt8) (K:Sl SV):Prop:=match o,d with
 | some (.mapS l),.map kt vt=>tdOf te kt=.str∧te vt=some ⟨.int .i64,1,8,[.i .i64 0],false⟩∧zhr true ok (lookS l s) K.f
 | _,_=>False
def oLookI (te:TE) (ok:Bool) (o:Option SO) (d:TD) (s:Int) (K:Sl SV):Prop:=match o,d with
 | some (.mapI l),.map kt vt=>tdOf te kt=.int .i64∧te vt=some ⟨.int .i64,1,8,[.i .i64 0],false⟩∧zhr true ok (lookS l s) K.f
 | _,_=>False
def zks (ok:Bool) (r:Option Int) (K:Sl SV):Prop:=zhr true ok r K.f
theorem ztm {r:Option Int} {K:Sl SV}:zks true r K=K.f (.tup [.i .i64 (r.getD 0),.b r.isSome]):=by simp [zks,zhr]
theorem ztn {r:Option Int} {K:Sl SV}:zks false r K=K.f (.i .i64 (r.getD 0)):=by simp [zks,zhr]
theorem z0y {ok:Bool} {t:TypeId} {h:Nat} {s:List UInt8} {K:Sl SV}:oLook te c ok st t (.mp h) (.s s) K=oLookS te ok (st.ctx.at h) (tdOf te t) s K:=id rfl
theorem z0z {ok:Bool} {t:TypeId} {h:Nat} {s:Int} {K:Sl SV}:oLook te c ok st t (.mp h) (.i .i64 s) K=oLookI te ok (st.ctx.at h) (tdOf te t) s K:=id rfl
theorem zvf {ok:Bool} {l:List (List UInt8×Int)} {kt vt:TypeId} {s:List UInt8} {K:Sl SV}:oLookS te ok (some (.mapS l)) (.map kt vt) s K=(tdOf te kt=.str∧te vt=some ⟨.int .i64,1,8,[.i .i64 0],false⟩∧zks ok (lookS l s) K):=id rfl
theorem zvg {ok:Bool} {l:List (Int×Int)} {kt vt:TypeId} {s:Int} {K:Sl SV}:oLookI te ok (some (.mapI l)) (.map kt vt) s K=(tdOf te kt=.int .i64∧te vt=some ⟨.int .i64,1,8,[.i .i64 0],false⟩∧zks ok (lookS l s) K):=id rfl
theorem zjv {t:TypeId} {m k:Operand} {ok:Bool}:XOs P te wr nt pt g c st ⟨dst,.lookup t m k ok,ty,pos,after,gd⟩ K=u0 c (st.ev m) ⟨fun v=>u0 c (st.ev k) ⟨fun y=>oLook te c ok st t v y ⟨fun z=>w5 nt st dst (gz g c (z)) K,⟨⟩⟩,⟨⟩⟩,⟨⟩⟩:=id rfl
def oUpdS (te:TE) (o:Option SO) (kt:TypeId) (s:List UInt8) (v:Int) (K:Sl SO):Prop:=match o with
 | some (.mapS l)=>tdOf te kt=.str∧K.f (.mapS (zaw l s v))
 | _=>False
def oUpdI (te:TE) (o:Option SO) (kt:TypeId) (s:Int) (v:Int) (K:Sl SO):Prop:=match o with
 | some (.mapI l)=>tdOf te kt=.int .i64∧K.f (.mapI (zaw l s v))
 | _=>False
theorem z0u {l:List (List UInt8×Int)} {kt:TypeId} {s:List UInt8} {v:Int} {K:Sl SO}:oUpdS te (some (.mapS l)) kt s v K=(tdOf te kt=.str∧K.f (.mapS (zaw l s v))):=id rfl
theorem z0v {l:List (Int×Int)} {kt:TypeId} {s v:Int} {K:Sl SO}:oUpdI te (some (.mapI l)) kt s v K=(tdOf te kt=.int .i64∧K.f (.mapI (zaw l s v))):=id rfl
def oUpd (te:TE) (st:St) (m k x:SV) (d:TD) (K:Sl St):Prop:=match m,k,x,d with
  | .mp h,.s s,.i .i64 v,.map kt vt=>oUpdS te (st.ctx.at h) kt s v ⟨fun o=>K.f (st.setObj h (some o)),⟨⟩⟩
  | .mp h,.i .i64 s,.i .i64 v,.map kt vt=>oUpdI te (st.ctx.at h) kt s v ⟨fun o=>K.f (st.setObj h (some o)),⟨⟩⟩
  | _,_,_,_=>False
theorem oUpd_s {h:Nat} {s:List UInt8} {v:Int} {kt vt:TypeId} {K:Sl St}:oUpd te st (.mp h) (.s s) (.i .i64 v) (.map kt vt) K=oUpdS te (st.ctx.at h) kt s v ⟨fun o=>K.f (st.setObj h (some o)),⟨⟩⟩:=id rfl
theorem oUpd_i {h:Nat} {s v:Int} {kt vt:TypeId} {K:Sl St}:oUpd te st (.mp h) (.i .i64 s) (.i .i64 v) (.map kt vt) K=oUpdI te (st.ctx.at h) kt s v ⟨fun o=>K.f (st.setObj h (some o)),⟨⟩⟩:=id rfl
theorem z0t {t:TypeId} {m k x:Operand} {K:Sl St} (o:Op) (ho:o=.mapUpdate t m k x∨o=.insert t m k x):zkr te st o (fun z s=>K.f s)=oUpd te st (st.ev m) (st.ev k) (st.ev x) (tdOf te t) K:=by
 have key:∀ (o:Op),(o=.mapUpdate t m k x∨o=.insert t m k x)→zkr te st o (fun z s=>K.f s)=oUpd te st (st.ev m) (st.ev k) (st.ev x) (tdOf te t) K:=by
  intro o ho;rcases ho with rfl | rfl;all_goals
   simp only [zkr,oUpd];split
   ·rename_i hh s v kt vt e1 e2 e3 e4;simp only [e1,e2,e3,e4,oUpdS];split<;>simp_all
   ·rename_i hh s v kt vt e1 e2 e3 e4;simp only [e1,e2,e3,e4,oUpdI];split<;>simp_all
   ·rename_i h1 h2;split
    ·rename_i e1 e2 e3 e4;exact absurd e4 (h1 _ _ _ _ _ e1 e2 e3)
    ·rename_i e1 e2 e3 e4;exact absurd e4 (h2 _ _ _ _ _ e1 e2 e3)
    ·rfl
 exact key o ho
theorem zc2 {t:TypeId} {m k x:Operand}:XOs P te wr nt pt false c st ⟨dst,.mapUpdate t m k x,ty,pos,after,gd⟩ K=oUpd te st (st.ev m) (st.ev k) (st.ev x) (tdOf te t) ⟨fun s=>w5 nt s dst .u K,⟨⟩⟩:=by show (false=false∧_)=_;simp only [true_and];rw [←z0t (.mapUpdate t m k x) (.inl rfl)];simp only [zkr];rfl
theorem zjw {t:TypeId} {m k x:Operand}:XOs P te wr nt pt false c st ⟨dst,.insert t m k x,ty,pos,after,gd⟩ K=oUpd te st (st.ev m) (st.ev k) (st.ev x) (tdOf te t) ⟨fun s=>w5 nt s dst .u K,⟨⟩⟩:=by show (false=false∧_)=_;simp only [true_and];rw [←z0t (.insert t m k x) (.inr rfl)];simp only [zkr];rfl
def oMk (kd:TD) (st:St) (K:Sl (SV×St)):Prop:=match kd with
 | .str=>K.f (.mp st.ctx.length,st.addObj (.mapS []))
 | .int .i64=>K.f (.mp st.ctx.length,st.addObj (.mapI []))
 | _=>False
theorem oMk_s {K:Sl (SV×St)}:oMk .str st K=K.f (.mp st.ctx.length,st.addObj (.mapS [])):=id rfl
theorem oMk_i {K:Sl (SV×St)}:oMk (.int .i64) st K=K.f (.mp st.ctx.length,st.addObj (.mapI [])):=id rfl
def ifMap (d:TD) (K:Sl (TypeId×TypeId)):Prop:=match d with
 | .map k e=>K.f (k,e)
 | _=>False
theorem zq4 {k e:TypeId} {K:Sl (TypeId×TypeId)}:ifMap (.map k e) K=K.f (k,e):=id rfl
def mkArg (st:St):Option Operand→Prop
 | none=>True
 | some x=>match st.ev x with | .i _ _=>True | _=>False
theorem zl7:mkArg st none:=trivial
theorem zqp {k:IntKind} {n:Int}:mkArg st (some (.const (.int k n))):=by simp [mkArg,St.ev,ofVal]
theorem zgx {t:TypeId} {r:Option Operand}:XOs P te wr nt pt false c st ⟨dst,.makeMap t r,ty,pos,after,gd⟩ K=(mkArg st r∧ifMap (tdOf te t) ⟨fun q=>oMk (tdOf te q.1) st ⟨fun p=>w5 nt p.2 dst p.1 K,⟨⟩⟩,⟨⟩⟩):=by
 show (false=false∧_)=_;simp only [true_and];show zkr te st (.makeMap t r) _=_;simp only [zkr];have h2:∀ (p q:Prop),p=q→∀ (a b:Prop),a=b→(p∧a)=(q∧b):=by intro p q e a b e';rw [e,e']
 refine h2 _ _ ?_ _ _ ?_
 ·cases r<;>rfl
 ·cases tdOf te t<;>rfl
theorem zt0 {t:TypeId} {k:IntKind} {a b:Int} {K:Sl SV}:kg te t false c .add (.i k a) (.i k b) K=Chk (c=true→inR k (a+b)) (K.f (.i k (a+b))):=by simp [kg,zjz]
theorem zk8 {t:TypeId} {k:IntKind} {a b:Int} {K:Sl SV}:kg te t true c .add (.i k a) (.i k b) K=K.f (.i k (k.wrap (a+b))):=by simp [kg,zjz]
theorem ztu {t:TypeId} {k:IntKind} {a b:Int} {K:Sl SV}:kg te t false c .sub (.i k a) (.i k b) K=Chk (c=true→inR k (a-b)) (K.f (.i k (a-b))):=by simp [kg,zjz]
theorem zku {t:TypeId} {k:IntKind} {a b:Int} {K:Sl SV}:kg te t true c .sub (.i k a) (.i k b) K=K.f (.i k (k.wrap (a-b))):=by simp [kg,zjz]
theorem zty {t:TypeId} {k:IntKind} {a b:Int} {K:Sl SV}:kg te t false c .mul (.i k a) (.i k b) K=Chk (c=true→inR k (a * b)) (K.f (.i k (a * b))):=by simp [kg,zjz]
theorem zkz {t:TypeId} {k:IntKind} {a b:Int} {K:Sl SV}:kg te t true c .mul (.i k a) (.i k b) K=K.f (.i k (k.wrap (a * b))):=by simp [kg,zjz]
theorem ztx {t:TypeId} {k:IntKind} {a b:Int} {K:Sl SV}:kg te t wr c .quo (.i k a) (.i k b) K=(b≠0∧Chk (c=true→inR k (a.tdiv b)) (K.f (.i k (a.tdiv b)))):=by simp [kg,zjz]
theorem ztw {t:TypeId} {k:IntKind} {a b:Int} {K:Sl SV}:kg te t wr c .rem (.i k a) (.i k b) K=Chk (c=true→b≠0) (K.f (.i k (a.tmod b))):=by simp [kg,zjz]
theorem ztz {t:TypeId} {k:IntKind} {a b:Int} {K:Sl SV}:kg te t wr c .and (.i k a) (.i k b) K=K.f (.i k (k.wrap ((BitVec.ofInt k.bits a &&& BitVec.ofInt k.bits b).toNat))):=by simp [kg,zjz]
theorem ztt {t:TypeId} {k:IntKind} {a b:Int} {K:Sl SV}:kg te t wr c .xor (.i k a) (.i k b) K=K.f (.i k (k.wrap ((BitVec.ofInt k.bits a ^^^ BitVec.ofInt k.bits b).toNat))):=by simp [kg,zjz]
theorem ztv {t:TypeId} {k k':IntKind} {a b:Int} {K:Sl SV}:kg te t wr c .shr (.i k a) (.i k' b) K=(0≤b∧K.f (.i k (a.fdiv (2 ^ (min b.toNat k.bits))))):=id rfl
theorem zk5 {t:TypeId} {k:IntKind} {a b:Int} {K:Sl SV}:kg te t wr c .eql (.i k a) (.i k b) K=K.f (.b (decide (a=b))):=by simp [kg,zjz]
theorem zkw {t:TypeId} {k:IntKind} {a b:Int} {K:Sl SV}:kg te t wr c .neq (.i k a) (.i k b) K=K.f (.b (!decide (a=b))):=by simp [kg,zjz]
theorem zk0 {t:TypeId} {k:IntKind} {a b:Int} {K:Sl SV}:kg te t wr c .lss (.i k a) (.i k b) K=K.f (.b (decide (a<b))):=by simp [kg,zjz]
theorem zk1 {t:TypeId} {k:IntKind} {a b:Int} {K:Sl SV}:kg te t wr c .leq (.i k a) (.i k b) K=K.f (.b (decide (a≤b))):=by simp [kg,zjz]
theorem zk2 {t:TypeId} {k:IntKind} {a b:Int} {K:Sl SV}:kg te t wr c .gtr (.i k a) (.i k b) K=K.f (.b (decide (a>b))):=by simp [kg,zjz]
theorem zk3 {t:TypeId} {k:IntKind} {a b:Int} {K:Sl SV}:kg te t wr c .geq (.i k a) (.i k b) K=K.f (.b (decide (a≥b))):=by simp [kg,zjz]
theorem zk9 {t:TypeId} {a b:List UInt8} {K:Sl SV}:kg te t wr c .add (.s a) (.s b) K=Chk (c=true→a.length+b.length≤9223372036854775807) (K.f (.s (a++b))):=id rfl
theorem zk4 {t:TypeId} {a b:List UInt8} {K:Sl SV}:kg te t wr c .eql (.s a) (.s b) K=K.f (.b (decide (a=b))):=id rfl
theorem zkv {t:TypeId} {a b:List UInt8} {K:Sl SV}:kg te t wr c .neq (.s a) (.s b) K=K.f (.b (!decide (a=b))):=id rfl
theorem zk6 {t:TypeId} {a b:Bool} {K:Sl SV}:kg te t wr c .eql (.b a) (.b b) K=(tdOf te t=.bool∧K.f (.b (a==b))):=id rfl
theorem zkx {t:TypeId} {a b:Bool} {K:Sl SV}:kg te t wr c .neq (.b a) (.b b) K=(tdOf te t=.bool∧K.f (.b (!(a==b)))):=id rfl
theorem zk7 {t:TypeId} {a b:List SV} {K:Sl SV}:kg te t wr c .eql (.agg a) (.agg b) K=onO (eqAt te 4 t (.agg a) (.agg b)) ⟨fun z=>K.f (.b z),⟨⟩⟩:=by simp only [kg,zjz];cases eqAt te 4 t (.agg a) (.agg b)<;>rfl
theorem zky {t:TypeId} {a b:List SV} {K:Sl SV}:kg te t wr c .neq (.agg a) (.agg b) K=onO (eqAt te 4 t (.agg a) (.agg b)) ⟨fun z=>K.f (.b (!z)),⟨⟩⟩:=by simp only [kg,zjz];cases eqAt te 4 t (.agg a) (.agg b)<;>rfl
theorem zpg {z:SV}:w5 nt st none z K=K.f st:=id rfl
theorem zpf {d:Tmp} {z:SV}:w5 nt st (some d) z K=(d<nt∧K.f ⟨(d,z)::st.env,st.ctx⟩):=id rfl
theorem ev_tmp {t:Tmp}:st.ev (.tmp t)=look st.env t:=id rfl
theorem ev_int {k:IntKind} {n:Int}:st.ev (.const (.int k n))=.i k n:=id rfl
theorem z18 {b:Bool}:st.ev (.const (.bool b))=.b b:=id rfl
theorem ev_str {b:Array UInt8}:st.ev (.const (.string ⟨b⟩))=.s b.toList:=id rfl
theorem z16:st.ev (.const (.slice none 0 0))=.nils:=id rfl
theorem z17 {f:FuncId}:st.ev (.func f)=.fn f:=id rfl
theorem zqr {u t:Tmp} {x:SV} {r:List (Tmp×SV)}:look ((u,x)::r) t=if u=t then x else look r t:=id rfl
theorem zyz {l:List Tmp}:trim l st=⟨l.map fun t=>(t,look st.env t),st.ctx⟩:=id rfl
theorem zrm {o:SO}:st.addObj o=⟨st.env,st.ctx++[some o]⟩:=id rfl
theorem zo5 {h:Nat} {o:Option SO}:st.setObj h o=⟨st.env,st.ctx.set h o⟩:=id rfl
theorem zuw {f:FuncId} {g:PE} {r:List (FuncId×PE)} {k:Nat} {gr:Bool}:ptOf ⟨(f,g)::r,k,gr⟩ f=some g:=by simp [ptOf,zxb]
theorem zph {f f':FuncId} {g:PE} {r:List (FuncId×PE)} {k:Nat} {gr:Bool} (h:(f'==f)=false):ptOf ⟨(f',g)::r,k,gr⟩ f=ptOf ⟨r,k,gr⟩ f:=by simp only [beq_eq_false_iff_ne,ne_eq] at h;simp [ptOf,zxb,h]
theorem z1t {j i:Nat} {l:List Tmp} {r:List (Nat×List Tmp)}:kp ((j,l)::r) i=if j=i then l else kp r i:=id rfl
theorem zuv {f:FuncId} {k:Nat} {gr:Bool}:ptOf ⟨[],k,gr⟩ f=none:=id rfl
end ops
end Go.Vg
