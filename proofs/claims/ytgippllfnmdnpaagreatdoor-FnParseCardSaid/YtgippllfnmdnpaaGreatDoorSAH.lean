/- The walk's steps as equations; what follows a step is kept out of a rewriter's sight by its type. -/
import Derived.Test.YtgippllfnmdnpaaGreatDoorSAG
set_option linter.unusedVariables false
set_option linter.unusedSimpArgs false
set_option linter.unusedSectionVars false
set_option linter.unnecessarySimpa false
namespace Go.Vg
variable [Go.Vg.Glob]
open Go.RowKit
structure Tag {α:Sort _} (a:α):Type where
/-- What follows: a function that a later part's type hangs on,so that it is left alone. -/
structure Sl (α:Type) where
 f:α→Prop
 t:Tag f
theorem zpj {c:Code}:zbz [] c=false:=by unfold zbz;split<;>rfl
theorem zkd {o:SO} {c:Ctx}:zy 0 (some o::c)=(o.ro=false∧zy 0 c):=by simp [zy]
theorem zhw {c:Ctx}:zy 0 (none::c)=zy 0 c:=by simp [zy]
theorem zke {k:Nat} {o:Option SO} {c:Ctx}:zy (k+1) (o::c)=zy k c:=by simp [zy]
theorem z0y {a b:Bool}:(bif a then b else false)=(a&&b):=by cases a<;>rfl
theorem z0x {a b:Bool}:(bif a then true else b)=(a||b):=by cases a<;>rfl
theorem zhx {k:Nat}:zy k []:=by simp [zy]
def XLs (P:Program) (te:TE) (wr:Bool) (nt:Nat) (pt:PT) (sp:Bool) (ops:Array Oper) (K:Sl St) (os:List Oper) (st:St):Prop:=XL P te wr nt pt sp ops K.f os st
def XOs (P:Program) (te:TE) (wr:Bool) (nt:Nat) (pt:PT) (g c:Bool) (st:St) (o:Oper) (K:Sl St):Prop:=zm9 P te wr nt pt g c st o K.f
def wm (nt:Nat) (st:St) (d:Option Tmp) (z:SV) (K:Sl St):Prop:=zly nt st d z K.f
def u5 (c:Bool) (x:SV) (K:Sl SV):Prop:=ung c x K.f
def zm2 (want:Bool) (x:SV) (K:Sl Bool):Prop:=zia want x K.f
def wz (te:TE) (t:TypeId) (wr c:Bool) (op:BinOp) (x y:SV) (K:Sl SV):Prop:=ziz te t wr c op x y K.f
def drS (d:Nat→Array Oper→(St→Prop)→St→Prop) (id:Nat) (ops:Array Oper) (K:Sl St) (st:St):Prop:=d id ops K.f st
def yq (k:Nat) (st:St) (B:Sl ((St→Prop)×St)):Prop:=VLoop k st fun J s=>B.f (J,s)
def zgj (k:Nat) (B:Sl (St→Prop)) (R:Sl St):Prop:=VCut k B.f R.f
def zl (P:Program) (f:FuncId) (args:List SV) (kk:Nat) (st:St) (K:Sl (SV×St)):Prop:=zfj P f args kk st fun z s=>K.f (z,s)
/-- A state,put into its simplest form before the walk goes on. -/
def nst (st:St) (K:Sl St):Prop:=K.f st
theorem nst_eq {st:St} {K:Sl St}:nst st K=K.f st:=id rfl
section code
variable {cf:Cf} {F:St→Prop} {n:Nat} {r:List It} {st:St}
theorem vc_nil:vc cf F (n+1) [] st=F st:=id rfl
theorem vc_blk {i:Nat}:vc cf F (n+1) (.blk i::r) st=vc cf F n r st:=id rfl
theorem zwy {J:St→Prop}:vc cf F (n+1) (.stop J::r) st=J st:=id rfl
theorem zwz:vc cf F (n+1) (.code .skip::r) st=vc cf F n r st:=id rfl
theorem vc_ret:vc cf F (n+1) (.code .ret::r) st=F st:=id rfl
theorem vc_seq {x y:Code} (h:zbz cf.cut y=false):vc cf F (n+1) (.code (.seq x y)::r) st=vc cf F n (.code x::.code y::r) st:=by
 show (if zbz cf.cut y then _ else _)=_
 rw [if_neg (by rw [h];exact Bool.false_ne_true)]
theorem vc_cut {x y:Code} (h:zbz cf.cut y=true):vc cf F (n+1) (.code (.seq x y)::r) st=zgj cf.k ⟨fun J=>vc cf F n (.code x::.stop J::.code y::r) st,⟨⟩⟩ ⟨fun s=>vc cf F n (.code y::r) s,⟨⟩⟩:=by
 show (if zbz cf.cut y then _ else _)=_
 rw [if_pos h]
 rfl
theorem zno {id:Nat} {ops:List Oper}:vc cf F (n+1) (.code (.region id ⟨ops⟩ false)::r) st=XLs cf.P cf.te cf.wr cf.nt cf.pt (cf.sp id) ⟨ops⟩ ⟨fun s=>nst (trim (cf.keep id) s) ⟨fun s=>vc cf F n r s,⟨⟩⟩,⟨⟩⟩ ops st:=_root_.id rfl
theorem zw1 {id:Nat} {ops:Array Oper}:vc cf F (n+1) (.code (.region id ops true)::r) st=drS cf.dr id ops ⟨fun s=>nst (trim (cf.keep id) s) ⟨fun s=>vc cf F n r s,⟨⟩⟩,⟨⟩⟩ st:=_root_.id rfl
theorem zsm {id:Nat} {b:Code}:vc cf F (n+1) (.code (.block id b)::r) st=vc cf F n (.code b::.blk id::r) st:=_root_.id rfl
theorem zw0 {b:Code}:vc cf F (n+1) (.code (.loop b)::r) st=yq cf.k st ⟨fun p=>vc cf F n (.code b::.stop p.1::r) p.2,⟨⟩⟩:=id rfl
def zqo (cf:Cf) (F:St→Prop) (n:Nat) (st:St) (id:Nat):List It→Prop
 | []=>False
 | .blk id'::r=>if id=id' then vc cf F n r st else zqo cf F n st id r
 | _::r=>zqo cf F n st id r
theorem zl3 {id:Nat}:∀ {r:List It},(match zez id r with | some r'=>vc cf F n r' st | none=>False)=zqo cf F n st id r
 | []=>rfl
 | .blk id'::r=>by
  simp only [zez,zqo]
  by_cases h:id=id'
  ·rw [if_pos h,if_pos h]
  ·rw [if_neg h,if_neg h];exact zl3
 | .code _::r=>by simp only [zez,zqo];exact zl3
 | .stop _::r=>by simp only [zez,zqo];exact zl3
theorem zsl {id:Nat}:vc cf F (n+1) (.code (.exit id)::r) st=zqo cf F n st id r:=by
 show (match zez id r with | some r'=>vc cf F n r' st | none=>False)=_
 exact zl3
theorem zte {id:Nat}:zqo cf F n st id (.blk id::r)=vc cf F n r st:=by simp [zqo]
theorem zod {id i:Nat} (h:(id==i)=false):zqo cf F n st id (.blk i::r)=zqo cf F n st id r:=by
 simp only [beq_eq_false_iff_ne,ne_eq] at h
 simp [zqo,h]
theorem zoc {id:Nat} {c:Code}:zqo cf F n st id (.code c::r)=zqo cf F n st id r:=_root_.id rfl
theorem zob {id:Nat} {c:St→Prop}:zqo cf F n st id (.stop c::r)=zqo cf F n st id r:=_root_.id rfl
structure Tag2 (a b:Prop):Type where
def zu8 (x:SV) (p q:Prop) (t:Tag2 p q):Prop:=match x with
 | .b t=>(t=true→p)∧(t=false→q)
 | _=>False
theorem zwx {t:Bool} {p q:Prop} {tg:Tag2 p q}:zu8 (.b t) p q tg=((t=true→p)∧(t=false→q)):=id rfl
theorem zji {p q:Prop} {tg:Tag2 p q}:zu8 (.b true) p q tg=p:=by simp [zu8]
theorem zgz {p q:Prop} {tg:Tag2 p q}:zu8 (.b false) p q tg=q:=by simp [zu8]
theorem zw2 {c:Operand} {x y:Code}:vc cf F (n+1) (.code (.cond c x y)::r) st=zu8 (st.ev c) (vc cf F n (.code x::r) st) (vc cf F n (.code y::r) st) ⟨⟩:=id rfl
end code
section ops
variable {P:Program} {te:TE} {wr:Bool} {nt:Nat} {pt:PT} {sp g c:Bool} {ops:Array Oper} {st:St} {K:Sl St} {os:List Oper} {dst:Option Tmp} {ty:TypeId} {pos:String} {after:Array Edge} {gd:Option (Nat×Bool)}
theorem XL_nil:XLs P te wr nt pt sp ops K [] st=K.f st:=id rfl
theorem z1i {op:Op}:XLs P te wr nt pt sp ops K (⟨dst,op,ty,pos,after,none⟩::os) st=XOs P te wr nt pt false true st ⟨dst,op,ty,pos,after,none⟩ ⟨XLs P te wr nt pt sp ops K os,⟨⟩⟩:=id rfl
def zfo (sp:Bool) (P:Program) (te:TE) (wr:Bool) (nt:Nat) (pt:PT) (d:Option Tmp) (want:Bool) (st:St) (o:Oper) (K:Sl St):Prop:=
 match d with
  | none=>False
  | some d=>zia want (look st.env d) fun c=>
    if sp then (c=true→zm9 P te wr nt pt false true st o K.f)∧(c=false→zly nt st o.dst (.gd false (.b false)) K.f)
    else zm9 P te wr nt pt true c st o K.f
theorem zu1 {op:Op} {j:Nat} {want:Bool}:XLs P te wr nt pt sp ops K (⟨dst,op,ty,pos,after,some (j,want)⟩::os) st=zfo sp P te wr nt pt (zil ops j) want st ⟨dst,op,ty,pos,after,some (j,want)⟩ ⟨XLs P te wr nt pt sp ops K os,⟨⟩⟩:=id rfl
theorem zr5 {d:Tmp} {want:Bool} {o:Oper}:zfo false P te wr nt pt (some d) want st o K=zm2 want (look st.env d) ⟨fun c=>XOs P te wr nt pt true c st o K,⟨⟩⟩:=id rfl
theorem zlk {d:Tmp} {want:Bool} {o:Oper}:zfo true P te wr nt pt (some d) want st o K=zm2 want (look st.env d) ⟨fun c=>(c=true→XOs P te wr nt pt false true st o K)∧(c=false→wm nt st o.dst (.gd false (.b false)) K),⟨⟩⟩:=id rfl
theorem zk6 {o:Oper} {l:List Oper}:zil ⟨o::l⟩ 0=o.dst:=id rfl
theorem zk7 {o:Oper} {l:List Oper} {i:Nat}:zil ⟨o::l⟩ (i+1)=zil ⟨l⟩ i:=by simp [zil]
theorem zgt {want:Bool} {e:Bool} {K:Sl Bool}:zm2 want (.b e) K=K.f (if want then e else !e):=id rfl
theorem zh9 {want g:Bool} {e:Bool} {K:Sl Bool}:zm2 want (.gd g (.b e)) K=K.f (g&&(if want then e else !e)):=id rfl
theorem ung_gd {c g:Bool} {v:SV} {K:Sl SV}:u5 c (.gd g v) K=Chk (c=true→g=true) (K.f v):=id rfl
def gz (g c:Bool) (z:SV):SV:=if g then zh0 c z else z
theorem gz_f {z:SV}:gz false c z=z:=id rfl
theorem gz_t {z:SV}:gz true c z=zh0 c z:=id rfl
theorem ung_b {c:Bool} {x:Bool} {K:Sl SV}:u5 c (.b x) K=K.f (.b x):=id rfl
theorem ung_i {c:Bool} {k:IntKind} {x:Int} {K:Sl SV}:u5 c (.i k x) K=K.f (.i k x):=id rfl
theorem ung_s {c:Bool} {x:List UInt8} {K:Sl SV}:u5 c (.s x) K=K.f (.s x):=id rfl
theorem zw6 {c:Bool} {h i k:Nat} {K:Sl SV}:u5 c (.ptr h i k) K=K.f (.ptr h i k):=id rfl
theorem zw5 {c:Bool} {h i k:Nat} {K:Sl SV}:u5 c (.slc h i k) K=K.f (.slc h i k):=id rfl
theorem zso {c:Bool}  {K:Sl SV}:u5 c (.nils) K=K.f (.nils):=id rfl
theorem ung_mp {c:Bool} {h:Nat} {K:Sl SV}:u5 c (.mp h) K=K.f (.mp h):=id rfl
theorem zw7 {c:Bool} {l:List SV} {K:Sl SV}:u5 c (.agg l) K=K.f (.agg l):=id rfl
theorem zw4 {c:Bool} {l:List SV} {K:Sl SV}:u5 c (.tup l) K=K.f (.tup l):=id rfl
theorem ung_fs {c:Bool} {sz:Nat} {l:List (List SV)} {K:Sl SV}:u5 c (.fs sz l) K=K.f (.fs sz l):=id rfl
theorem ung_fp {c:Bool} {l:List SV} {k:Nat} {K:Sl SV}:u5 c (.fp l k) K=K.f (.fp l k):=id rfl
theorem mkgd_b {c:Bool} {x:Bool}:zh0 c (.b x)=.gd c (.b x):=id rfl
theorem mkgd_i {c:Bool} {k:IntKind} {x:Int}:zh0 c (.i k x)=.gd c (.i k x):=id rfl
theorem mkgd_s {c:Bool} {x:List UInt8}:zh0 c (.s x)=.gd c (.s x):=id rfl
theorem ztz {c:Bool} {h i k:Nat}:zh0 c (.ptr h i k)=.gd c (.ptr h i k):=id rfl
theorem ztx {c:Bool} {h i k:Nat}:zh0 c (.slc h i k)=.gd c (.slc h i k):=id rfl
theorem zox {c:Bool}  : zh0 c (.nils)=.gd c (.nils):=id rfl
theorem zzi {c:Bool} {h:Nat}:zh0 c (.mp h)=.gd c (.mp h):=id rfl
theorem zt0 {c:Bool} {l:List SV}:zh0 c (.agg l)=.gd c (.agg l):=id rfl
theorem ztw {c:Bool} {l:List SV}:zh0 c (.tup l)=.gd c (.tup l):=id rfl
theorem zzk {c:Bool} {sz:Nat} {l:List (List SV)}:zh0 c (.fs sz l)=.gd c (.fs sz l):=id rfl
theorem zzl {c:Bool} {l:List SV} {k:Nat}:zh0 c (.fp l k)=.gd c (.fp l k):=id rfl
theorem zzj {c g:Bool} {x:SV}:zh0 c (.gd g x)=.gd (c&&g) x:=id rfl
def ifPtr (v:SV) (K:Sl (Nat×Nat×Nat)):Prop:=match v with
 | .ptr h i k=>K.f (h,i,k)
 | _=>False
theorem zpn {h i k:Nat} {K:Sl (Nat×Nat×Nat)}:ifPtr (.ptr h i k) K=K.f (h,i,k):=id rfl
def ifPP (v:SV) (K:Sl (Nat×Nat×Nat)) (K2:Sl (List SV×Nat)):Prop:=match v with
 | .ptr h i k=>K.f (h,i,k)
 | .fp l k=>K2.f (l,k)
 | _=>False
theorem zt8 {h i k:Nat} {K:Sl (Nat×Nat×Nat)} {K2:Sl (List SV×Nat)}:ifPP (.ptr h i k) K K2=K.f (h,i,k):=id rfl
theorem zz5 {l:List SV} {k:Nat} {K:Sl (Nat×Nat×Nat)} {K2:Sl (List SV×Nat)}:ifPP (.fp l k) K K2=K2.f (l,k):=id rfl
def ifSF (v:SV) (K:Sl (Nat×Nat×Nat)) (K2:Sl (Nat×List (List SV))):Prop:=match v with
 | .slc h i k=>K.f (h,i,k)
 | .fs z l=>K2.f (z,l)
 | _=>False
theorem zt7 {h i k:Nat} {K:Sl (Nat×Nat×Nat)} {K2:Sl (Nat×List (List SV))}:ifSF (.slc h i k) K K2=K.f (h,i,k):=id rfl
theorem zz4 {z:Nat} {l:List (List SV)} {K:Sl (Nat×Nat×Nat)} {K2:Sl (Nat×List (List SV))}:ifSF (.fs z l) K K2=K2.f (z,l):=id rfl
def ifSlc (v:SV) (K:Sl (Nat×Nat×Nat)):Prop:=match v with
 | .slc h i k=>K.f (h,i,k)
 | _=>False
theorem zpl {h i k:Nat} {K:Sl (Nat×Nat×Nat)}:ifSlc (.slc h i k) K=K.f (h,i,k):=id rfl
def ifB (v:SV) (K:Sl (Bool)):Prop:=match v with
 | .b x=>K.f x
 | _=>False
theorem ifB_b {x:Bool} {K:Sl (Bool)}:ifB (.b x) K=K.f x:=id rfl
def ifI (v:SV) (K:Sl (IntKind×Int)):Prop:=match v with
 | .i k x=>K.f (k,x)
 | _=>False
theorem ifI_i {k:IntKind} {x:Int} {K:Sl (IntKind×Int)}:ifI (.i k x) K=K.f (k,x):=id rfl
def ifS (v:SV) (K:Sl (List UInt8)):Prop:=match v with
 | .s l=>K.f l
 | _=>False
theorem ifS_s {l:List UInt8} {K:Sl (List UInt8)}:ifS (.s l) K=K.f l:=id rfl
def ifTup (v:SV) (K:Sl (List SV)):Prop:=match v with
 | .tup l=>K.f l
 | _=>False
theorem zpk {l:List SV} {K:Sl (List SV)}:ifTup (.tup l) K=K.f l:=id rfl
def zco (v:TD) (K:Sl (List (TypeId×Nat))):Prop:=match v with
 | .struct l=>K.f l
 | _=>False
theorem zb0 {l:List (TypeId×Nat)} {K:Sl (List (TypeId×Nat))}:zco (.struct l) K=K.f l:=id rfl
def xi (v:TD) (K:Sl (TypeId)):Prop:=match v with
 | .slice e=>K.f e
 | _=>False
theorem zed {e:TypeId} {K:Sl (TypeId)}:xi (.slice e) K=K.f e:=id rfl
def onO {α:Type} (o:Option α) (K:Sl α):Prop:=match o with
 | some x=>K.f x
 | none=>False
theorem zti {α:Type} {x:α} {K:Sl α}:onO (some x) K=K.f x:=id rfl
def zws (b:Bool) (p q:Prop) (t:Tag2 p q):Prop:=if b then p else q
theorem zpa {p q:Prop} {tg:Tag2 p q}:zws true p q tg=p:=by simp [zws]
theorem zkq {p q:Prop} {tg:Tag2 p q}:zws false p q tg=q:=by simp [zws]
def zpc:TD→Bool
 | .str=>true
 | _=>false
theorem zs8 {te:TE} {st:St} {Q:SV→Ctx→Prop} {acc:List SV}:zs9 te st Q [] acc=Q (tupS acc) st.ctx:=id rfl
theorem zs7 {te:TE} {st:St} {Q:SV→Ctx→Prop} {acc:List SV} {t:Tmp} {r:List ResultVar}:zs9 te st Q (.tmp t::r) acc=zs9 te st Q r (acc++[look st.env t]):=id rfl
theorem zn4 {te:TE} {st:St} {Q:SV→Ctx→Prop} {acc:List SV} {a:Tmp} {t:TypeId} {r:List ResultVar}:zs9 te st Q (.cell a t::r) acc=onO (cellV te st.ctx (look st.env a) t) ⟨fun x=>zs9 te st Q r (acc++[x]),⟨⟩⟩:=by
 simp only [zs9]
 cases cellV te st.ctx (look st.env a) t<;>rfl
theorem zsr {x:SV}:tupS [x]=x:=id rfl
theorem zsq {x y:SV}:tupS [x,y]=.tup [x,y]:=id rfl
theorem zj0 {x y z:SV}:tupS [x,y,z]=.tup [x,y,z]:=id rfl
theorem znp {x y z q:SV}:tupS [x,y,z,q]=.tup [x,y,z,q]:=id rfl
def oLen (v:SV) (t:TD) (K:Sl SV):Prop:=match v,t with
   | .s l,.str=>K.f (.i .i64 l.length)
   | .slc _ _ len,.slice _=>K.f (.i .i64 len)
   | .fs _ l,.slice _=>K.f (.i .i64 l.length)
   | .nils,.slice _=>K.f (.i .i64 0)
   | _,_=>False
theorem zy4 {z:Nat} {l:List (List SV)} {e:TypeId} {K:Sl SV}:oLen (.fs z l) (.slice e) K=K.f (.i .i64 l.length):=id rfl
theorem oLen_s {l:List UInt8} {K:Sl SV}:oLen (.s l) .str K=K.f (.i .i64 l.length):=id rfl
theorem ztn {h lo len:Nat} {e:TypeId} {K:Sl SV}:oLen (.slc h lo len) (.slice e) K=K.f (.i .i64 len):=id rfl
theorem zor {e:TypeId} {K:Sl SV}:oLen .nils (.slice e) K=K.f (.i .i64 0):=id rfl
theorem zqi {x:Operand}:XOs P te wr nt pt g c st ⟨dst,.move x,ty,pos,after,gd⟩ K=wm nt st dst (gz g c (st.ev x)) K:=id rfl
theorem zix {x:Operand}:XOs P te wr nt pt g c st ⟨dst,.assign x,ty,pos,after,gd⟩ K=wm nt st dst (gz g c (st.ev x)) K:=id rfl
theorem zqh {e a b:Operand}:XOs P te wr nt pt g c st ⟨dst,.pick e a b,ty,pos,after,gd⟩ K=u5 c (st.ev e) ⟨fun e'=>ifB e' ⟨fun e0=>u5 (c&&e0) (st.ev a) ⟨fun a'=>u5 (c&&!e0) (st.ev b) ⟨fun b'=>ifB a' ⟨fun x=>ifB b' ⟨fun y=>wm nt st dst (gz g c (.b (bif e0 then x else y))) K,⟨⟩⟩,⟨⟩⟩,⟨⟩⟩,⟨⟩⟩,⟨⟩⟩,⟨⟩⟩:=by
 show (ung c (st.ev e) _)=ung c (st.ev e) _
 congr;funext e'
 cases e'<;>try rfl
 show ung _ _ _=ung _ _ _
 congr;funext a'
 show ung _ _ _=ung _ _ _
 congr;funext b'
 cases a'<;>cases b'<;>rfl
theorem zc2 {s:TypeId} {x:Operand} {f:Nat}:XOs P te wr nt pt g c st ⟨dst,.fieldAddr s x f,ty,pos,after,gd⟩ K=u5 c (st.ev x) ⟨fun v=>ifPP v ⟨fun p=>zco (tdOf te s) ⟨fun fs=>onO fs[f]? ⟨fun q=>te q.1≠none∧jx te q.1≠0∧wm nt st dst (gz g c (.ptr p.1 p.2.1 (p.2.2+q.2))) K,⟨⟩⟩,⟨⟩⟩,⟨⟩⟩ ⟨fun p=>zco (tdOf te s) ⟨fun fs=>onO fs[f]? ⟨fun q=>te q.1≠none∧jx te q.1≠0∧wm nt st dst (gz g c (.fp p.1 (p.2+q.2))) K,⟨⟩⟩,⟨⟩⟩,⟨⟩⟩,⟨⟩⟩:=by
 show (ung c (st.ev x) _)=ung c (st.ev x) _
 congr;funext v
 cases v<;>try rfl
 all_goals
  simp only [ifPP]
  cases tdOf te s<;>try rfl
  rename_i fs
  simp only [zco]
  cases fs[f]?<;>rfl
theorem zc1 {t:TypeId} {x ix:Operand}:XOs P te wr nt pt g c st ⟨dst,.indexAddr t x ix,ty,pos,after,gd⟩ K=u5 c (st.ev x) ⟨fun v=>u5 c (st.ev ix) ⟨fun m=>ifI m ⟨fun n=>xi (tdOf te t) ⟨fun e=>ifSF v ⟨fun p=>onO (st.ctx.at p.1) ⟨fun o=>o.isMap=false∧te e≠none∧jx te e=o.sz∧Chk (c=true→0≤n.2∧n.2<p.2.2) (wm nt st dst (gz g c (.ptr p.1 (p.2.1+n.2.toNat) 0)) K),⟨⟩⟩,⟨⟩⟩ ⟨fun p=>te e≠none∧jx te e=p.1∧Chk (c=true→0≤n.2∧n.2<p.2.length) (wm nt st dst (gz g c (.fp (p.2.getD n.2.toNat (znh te e)) 0)) K),⟨⟩⟩,⟨⟩⟩,⟨⟩⟩,⟨⟩⟩,⟨⟩⟩:=by
 show (ung c (st.ev x) _)=ung c (st.ev x) _
 congr;funext v
 show ung _ _ _=ung _ _ _
 congr;funext m
 cases v<;>cases m<;>(try rfl)<;>simp only [ifI,ifSF]<;>cases tdOf te t<;>(try rfl)<;>simp only [xi]
 rename_i h lo len k n e
 cases st.ctx.at h<;>simp [onO,and_assoc,gz,wm]
theorem zle {t:TypeId} {x ix:Operand}:XOs P te wr nt pt g c st ⟨dst,.index t x ix,ty,pos,after,gd⟩ K=u5 c (st.ev x) ⟨fun v=>u5 c (st.ev ix) ⟨fun m=>ifS v ⟨fun l=>ifI m ⟨fun n=>zws (zpc (tdOf te t)) (Chk (c=true→0≤n.2∧n.2<l.length) (wm nt st dst (gz g c (.i .u8 (l.getD n.2.toNat 0).toNat)) K)) False ⟨⟩,⟨⟩⟩,⟨⟩⟩,⟨⟩⟩,⟨⟩⟩:=by
 show (ung c (st.ev x) _)=ung c (st.ev x) _
 congr;funext v
 show ung _ _ _=ung _ _ _
 congr;funext m
 cases v<;>cases m<;>(try rfl)<;>simp only [ifI,ifS]<;>cases tdOf te t<;>simp [zws,zpc,gz,wm]
theorem zf6 {x:Operand} {i:Nat}:XOs P te wr nt pt g c st ⟨dst,.extract x i,ty,pos,after,gd⟩ K=u5 c (st.ev x) ⟨fun v=>ifTup v ⟨fun l=>i<l.length∧wm nt st dst (gz g c (l.getD i .u)) K,⟨⟩⟩,⟨⟩⟩:=by
 show (ung c (st.ev x) _)=ung c (st.ev x) _
 first
  | rfl
  | (congr;funext v;cases v<;>rfl)
theorem zuu {t:TypeId} {x:Operand}:XOs P te wr nt pt g c st ⟨dst,.unOp .not t x,ty,pos,after,gd⟩ K=u5 c (st.ev x) ⟨fun v=>ifB v ⟨fun b=>wm nt st dst (gz g c (.b (!b))) K,⟨⟩⟩,⟨⟩⟩:=by
 show (ung c (st.ev x) _)=ung c (st.ev x) _
 first
  | rfl
  | (congr;funext v;cases v<;>rfl)
theorem zuv {t:TypeId} {x:Operand}:XOs P te wr nt pt g c st ⟨dst,.unOp .neg t x,ty,pos,after,gd⟩ K=u5 c (st.ev x) ⟨fun v=>ifI v ⟨fun n=>Chk (c=true→inR n.1 (0-n.2)) (wm nt st dst (gz g c (.i n.1 (0-n.2))) K),⟨⟩⟩,⟨⟩⟩:=by
 show (ung c (st.ev x) _)=ung c (st.ev x) _
 first
  | rfl
  | (congr;funext v;cases v<;>rfl)
theorem zlg {op:BinOp} {t yt:TypeId} {x y:Operand}:XOs P te wr nt pt g c st ⟨dst,.binOp op t x y yt,ty,pos,after,gd⟩ K=u5 c (st.ev x) ⟨fun v=>u5 c (st.ev y) ⟨fun y=>wz te t wr c op v y ⟨fun z=>wm nt st dst (gz g c (z)) K,⟨⟩⟩,⟨⟩⟩,⟨⟩⟩:=id rfl
def zqs (te:TE) (t:TypeId) (st:St) (c:Bool) (x:SV) (lo hi:Option Operand) (K:Sl SV):Prop:=xcut te t st c x lo hi K.f
theorem zlc {t:TypeId} {x:Operand} {lo hi:Option Operand}:XOs P te wr nt pt g c st ⟨dst,.slice t x lo hi none,ty,pos,after,gd⟩ K=u5 c (st.ev x) ⟨fun v=>zqs te t st c v lo hi ⟨fun z=>wm nt st dst (gz g c (z)) K,⟨⟩⟩,⟨⟩⟩:=id rfl
theorem zuy {x:Operand} {t:TypeId}:XOs P te wr nt pt g c st ⟨dst,.call { callee:=.builtin .len,args:=#[x],argTypes:=#[t] },ty,pos,after,gd⟩ K=u5 c (st.ev x) ⟨fun v=>oLen v (tdOf te t) ⟨fun z=>wm nt st dst (gz g c (z)) K,⟨⟩⟩,⟨⟩⟩:=by
 show (ung c (st.ev x) _)=ung c (st.ev x) _
 first
  | rfl
  | (congr;funext v;cases v<;>cases tdOf te t<;>rfl)
theorem zqj {t:TypeId} {x:Operand}:XOs P te wr nt pt g c st ⟨dst,.load t x,ty,pos,after,gd⟩ K=u5 c (st.ev x) ⟨fun v=>ifPP v ⟨fun p=>onO (st.ctx.at p.1) ⟨fun ob=>onO (te t) ⟨fun ti=>ob.isMap=false∧ti.td≠.other∧zws ti.td.isStruct (p.2.2+ti.size≤ob.sz∧(ob.el p.2.1).length=ob.sz∧Chk (c=true→p.2.1<ob.n) (wm nt st dst (gz g c (.agg (((ob.el p.2.1).drop p.2.2).take ti.size))) K)) (p.2.2<ob.sz∧Chk (c=true→p.2.1<ob.n) (wm nt st dst (gz g c ((ob.el p.2.1).getD p.2.2 .u)) K)) ⟨⟩,⟨⟩⟩,⟨⟩⟩,⟨⟩⟩ ⟨fun p=>onO (te t) ⟨fun ti=>ti.td≠.other∧zws ti.td.isStruct (Chk (c=true→p.2+ti.size≤p.1.length) (wm nt st dst (gz g c (.agg ((p.1.drop p.2).take ti.size))) K)) (Chk (c=true→p.2<p.1.length) (wm nt st dst (gz g c (p.1.getD p.2 .u)) K)) ⟨⟩,⟨⟩⟩,⟨⟩⟩,⟨⟩⟩:=by
 show (ung c (st.ev x) _)=ung c (st.ev x) _
 congr;funext v
 cases v<;>try rfl
 ·simp only [ifPP]
  rename_i h i k
  cases st.ctx.at h<;>try rfl
  cases te t<;>rfl
 ·simp only [ifPP]
  cases te t<;>rfl
theorem zuz {t:TypeId} {x:Operand}:XOs P te wr nt pt false c st ⟨dst,.box t x,ty,pos,after,gd⟩ K=(k8 (st.ev x)=true∧wm nt (st.addObj (.blk false (cellsOf (st.ev x)))) dst (.ptr st.ctx.length 0 0) K):=by
 show (false=false∧_)=_
 simp only [true_and]
 rfl
theorem zlh {t:TypeId}:XOs P te wr nt pt false c st ⟨dst,.alloc t,ty,pos,after,gd⟩ K=onO (te t) ⟨fun ti=>wm nt (st.addObj (.blk false ti.zero)) dst (.ptr st.ctx.length 0 0) K,⟨⟩⟩:=by
 show (false=false∧_)=_
 simp only [true_and]
 show (match te t with | some ti=>_ | none=>False)=_
 cases te t<;>rfl
theorem zlb {t:TypeId} {x y:Operand}:XOs P te wr nt pt false c st ⟨dst,.store t x y,ty,pos,after,gd⟩ K=ifPtr (st.ev x) ⟨fun p=>onO (st.ctx.at p.1) ⟨fun ob=>onO (te t) ⟨fun ti=>ob.isMap=false∧ob.ro=false∧k8 (st.ev y)=true∧(cellsOf (st.ev y)).length=ti.size∧(cellsOf (st.ev y)).all qw=true∧(ob.el p.2.1).length=ob.sz∧p.2.2+ti.size≤ob.sz∧Chk (p.2.1<ob.n) (wm nt (st.setObj p.1 (some (ob.put p.2.1 p.2.2 (cellsOf (st.ev y))))) dst .u K),⟨⟩⟩,⟨⟩⟩,⟨⟩⟩:=by
 show (false=false∧_)=_
 simp only [true_and]
 show zne te st (.store t x y) _=_
 simp only [zne]
 cases st.ev x<;>try rfl
 simp only [ifPtr]
 rename_i h i k
 cases st.ctx.at h<;>try rfl
 cases te t<;>rfl
/-- A call of one of the table's functions. -/
def oCall (t:Option (Prop×SV)) (c gr:Bool) (args:List SV) (ctx:Ctx) (K:Sl SV):Prop:=match t with
 | some (p,z)=>zd9 (kw args) z gr=true∧Chk (c=true→zz8 args∧jm ctx (kw args)∧p) (K.f z)
 | none=>False
theorem zkb {p:Prop} {z:SV} {gr:Bool} {args:List SV} {ctx:Ctx} {K:Sl SV}:oCall (some (p,z)) c gr args ctx K=(zd9 (kw args) z gr=true∧Chk (c=true→zz8 args∧jm ctx (kw args)∧p) (K.f z)):=id rfl
def zos (P:Program) (t:Option PE) (f:FuncId) (args:List SV) (kk:Nat) (gr:Bool) (st:St) (g c:Bool) (K:Sl SV) (KX:Sl (SV×St)):Prop:=match t with
 | some e=>oCall (e (ve st.ctx (kw args))) c gr args st.ctx K
 | none=>g=false∧gr=true∧zl P f args kk st KX
theorem zht {P:Program} {e:PE} {f:FuncId} {args:List SV} {kk:Nat} {gr:Bool} {K:Sl SV} {KX:Sl (SV×St)}:zos P (some e) f args kk gr st g c K KX=oCall (e (ve st.ctx (kw args))) c gr args st.ctx K:=id rfl
theorem zhu {P:Program} {f:FuncId} {args:List SV} {kk:Nat} {K:Sl SV} {KX:Sl (SV×St)}:zos P none f args kk true st false c K KX=zl P f args kk st KX:=by simp [zos]
theorem zqk {f:FuncId} {args:Array Operand} {ts:Array TypeId}:XOs P te wr nt pt g c st ⟨dst,.call { callee:=.value (.func f),args:=args,argTypes:=ts },ty,pos,after,gd⟩ K=zos P (ptOf pt f) f (args.toList.map st.ev) pt.k pt.gr st g c ⟨fun z=>wm nt st dst (gz g c (z)) K,⟨⟩⟩ ⟨fun p=>wm nt p.2 dst p.1 K,⟨⟩⟩:=by
 show (match ptOf pt f with
   | some t=>match t (ve st.ctx (kw (args.toList.map st.ev))) with
    | some (p,z)=>zd9 (kw (args.toList.map st.ev)) z pt.gr=true∧Chk (c=true→zz8 (args.toList.map st.ev)∧jm st.ctx (kw (args.toList.map st.ev))∧p) (zly nt st dst (if g then zh0 c z else z) K.f)
    | none=>False
   | none=>g=false∧pt.gr=true∧zfj P f (args.toList.map st.ev) pt.k st fun z st'=>zly nt st' dst z K.f)=_
 cases ptOf pt f with
 | none=>rfl
 | some e=>
  simp only [zos,oCall]
  cases e (ve st.ctx (kw (args.toList.map st.ev)))<;>rfl
theorem zeo {x:Operand}:XOs P te wr nt pt g c st ⟨dst,.nilCheck x,ty,pos,after,gd⟩ K=u5 c (st.ev x) ⟨fun v=>ifPP v ⟨fun p=>wm nt st dst (gz g c (.ptr p.1 p.2.1 p.2.2)) K,⟨⟩⟩ ⟨fun p=>wm nt st dst (gz g c (.fp p.1 p.2)) K,⟨⟩⟩,⟨⟩⟩:=by
 show (ung c (st.ev x) _)=ung c (st.ev x) _
 first
  | rfl
  | (congr;funext v;cases v<;>rfl)
theorem zuw {x y:Operand} {ts:Array TypeId}:XOs P te wr nt pt g c st ⟨dst,.call { callee:=.builtin .min,args:=#[x,y],argTypes:=ts },ty,pos,after,gd⟩ K=u5 c (st.ev x) ⟨fun v=>u5 c (st.ev y) ⟨fun w=>ifI v ⟨fun p=>ifI w ⟨fun q=>wm nt st dst (gz g c (.i p.1 (if q.2<p.2 then q.2 else p.2))) K,⟨⟩⟩,⟨⟩⟩,⟨⟩⟩,⟨⟩⟩:=by
 show (ung c (st.ev x) _)=ung c (st.ev x) _
 congr;funext v
 show ung _ _ _=ung _ _ _
 congr;funext w
 cases v<;>cases w<;>rfl
theorem zux {x y:Operand} {ts:Array TypeId}:XOs P te wr nt pt g c st ⟨dst,.call { callee:=.builtin .max,args:=#[x,y],argTypes:=ts },ty,pos,after,gd⟩ K=u5 c (st.ev x) ⟨fun v=>u5 c (st.ev y) ⟨fun w=>ifI v ⟨fun p=>ifI w ⟨fun q=>wm nt st dst (gz g c (.i p.1 (if q.2>p.2 then q.2 else p.2))) K,⟨⟩⟩,⟨⟩⟩,⟨⟩⟩,⟨⟩⟩:=by
 show (ung c (st.ev x) _)=ung c (st.ev x) _
 congr;funext v
 show ung _ _ _=ung _ _ _
 congr;funext w
 cases v<;>cases w<;>rfl
theorem zlf {t:TypeId} {parts:Array (Nat×Operand)}:XOs P te wr nt pt g c st ⟨dst,.build t parts,ty,pos,after,gd⟩ K=onO (te t) ⟨fun ti=>zco ti.td ⟨fun fs=>(parts.toList.all fun p=>k8 (st.ev p.2))=true∧(fs.all fun p=>(te p.1).isSome)=true∧onO (fillS te fs ti.zero (parts.toList.map fun p=>(p.1,st.ev p.2))) ⟨fun l=>wm nt st dst (gz g c (.agg l)) K,⟨⟩⟩,⟨⟩⟩,⟨⟩⟩:=by
 simp only [XOs,zm9,y8,zqr]
 cases te t with
 | none=>rfl
 | some ti=>
  simp only [onO]
  cases ti.td<;>try rfl
  rename_i fs
  simp only [zco,onO]
  cases fillS te fs ti.zero (parts.toList.map fun p=>(p.1,st.ev p.2))<;>rfl
def z03 (st:St) (c:Bool) (o:Option Operand) (d:Int) (K:Sl Int):Prop:=bndS st c o d K.f
theorem zqd {d:Int} {K:Sl Int}:z03 st c none d K=K.f d:=id rfl
theorem zqc {x:Operand} {d:Int} {K:Sl Int}:z03 st c (some x) d K=u5 c (st.ev x) ⟨fun v=>ifI v ⟨fun n=>K.f n.2,⟨⟩⟩,⟨⟩⟩:=by
 simp only [z03,bndS,u5]
 first
  | rfl
  | (congr;done)
  | (congr;funext v;cases v<;>rfl)
theorem zww {t:TypeId} {l:List UInt8} {lo hi:Option Operand} {K:Sl SV}:zqs te t st c (.s l) lo hi K=zws (zpc (tdOf te t)) (z03 st c hi l.length ⟨fun h=>z03 st c lo 0 ⟨fun b=>Chk (c=true→0≤b∧b≤h∧h≤l.length) (K.f (.s ((l.take h.toNat).drop b.toNat))),⟨⟩⟩,⟨⟩⟩) False ⟨⟩:=by
 simp only [zqs,xcut]
 cases tdOf te t<;>simp [zws,zpc,z03]
theorem znl {t:TypeId} {h a len:Nat} {lo hi:Option Operand} {K:Sl SV}:zqs te t st c (.slc h a len) lo hi K=xi (tdOf te t) ⟨fun e=>onO (st.ctx.at h) ⟨fun o=>o.isMap=false∧te e≠none∧jx te e=o.sz ∧
   z03 st c hi len ⟨fun y=>z03 st c lo 0 ⟨fun b=>Chk (c=true→0≤b∧b≤y∧y≤len) (K.f (.slc h (a+b.toNat) (y.toNat-b.toNat))),⟨⟩⟩,⟨⟩⟩,⟨⟩⟩,⟨⟩⟩:=by
 simp only [zqs,xcut]
 cases tdOf te t<;>try rfl
 simp only [xi]
 cases st.ctx.at h<;>simp [onO,z03,and_assoc]
theorem zr6 {t:TypeId} {z:Nat} {l:List (List SV)} {lo hi:Option Operand} {K:Sl SV}:zqs te t st c (.fs z l) lo hi K=xi (tdOf te t) ⟨fun e=>te e≠none∧jx te e=z ∧
   z03 st c hi l.length ⟨fun y=>z03 st c lo 0 ⟨fun b=>Chk (c=true→0≤b∧b≤y∧y≤l.length) (K.f (.fs z ((l.take y.toNat).drop b.toNat))),⟨⟩⟩,⟨⟩⟩,⟨⟩⟩:=by
 simp only [zqs,xcut]
 cases tdOf te t<;>try rfl
def zq9 (a b:TD) (k0 k1 k2:Prop) (t:Tag2 k0 k1) (t':Tag2 k1 k2):Prop:=match a,b with
 | .slice _,.str=>k1
 | .slice _,.slice _=>k2
 | _,_=>k0
theorem ztq {a b:TypeId} {k0 k1 k2:Prop} {t:Tag2 k0 k1} {t':Tag2 k1 k2}:zq9 (.slice a) (.slice b) k0 k1 k2 t t'=k2:=id rfl
theorem ztp {a:TypeId} {k0 k1 k2:Prop} {t:Tag2 k0 k1} {t':Tag2 k1 k2}:zq9 (.slice a) .str k0 k1 k2 t t'=k1:=id rfl
theorem zts {a b:IntKind} {k0 k1 k2:Prop} {t:Tag2 k0 k1} {t':Tag2 k1 k2}:zq9 (.int a) (.int b) k0 k1 k2 t t'=k0:=id rfl
theorem ztr {a:IntKind} {k0 k1 k2:Prop} {t:Tag2 k0 k1} {t':Tag2 k1 k2}:zq9 (.int a) .str k0 k1 k2 t t'=k0:=id rfl
theorem zto {k0 k1 k2:Prop} {t:Tag2 k0 k1} {t':Tag2 k1 k2}:zq9 .str .str k0 k1 k2 t t'=k0:=id rfl
def zfp (te:TE) (wr c:Bool) (td:TD) (x:SV) (K:Sl SV):Prop:=match td,x with
 | .int k,.i _ n=>if wr then K.f (.i k (k.wrap n)) else Chk (c=true→inR k n) (K.f (.i k n))
 | .str,.s l=>K.f (.s l)
 | .str,.i _ n=>K.f (.s (Utf8.encode n).data.toList)
 | _,_=>False
theorem zr9 {k k':IntKind} {n:Int} {K:Sl SV}:zfp te false c (.int k) (.i k' n) K=Chk (c=true→inR k n) (K.f (.i k n)):=by simp [zfp]
theorem znm {k k':IntKind} {n:Int} {K:Sl SV}:zfp te true c (.int k) (.i k' n) K=K.f (.i k (k.wrap n)):=by simp [zfp]
theorem zr8 {l:List UInt8} {K:Sl SV}:zfp te wr c .str (.s l) K=K.f (.s l):=id rfl
theorem zr7 {k:IntKind} {n:Int} {K:Sl SV}:zfp te wr c .str (.i k n) K=K.f (.s (Utf8.encode n).data.toList):=id rfl
/-- A string of a slice's bytes. -/
def oStr (te:TE) (a:TD) (ctx:Ctx) (c:Bool) (v:SV) (K:Sl SV):Prop:=match v,a with
 | .slc h lo len,.slice e=>uh te e=true∧(match ctx.at h with
   | some (.row ro sz n f)=>sz=1∧(∀ j,j<len→zmy ((f (lo+j)).getD 0 .u)=true)∧Chk (c=true→lo+len≤n) (K.f (.s (ko f lo len)))
   | _=>False)
 | .nils,.slice e=>uh te e=true∧K.f (.s [])
 | .fs sz l,.slice e=>uh te e=true∧sz=1∧Chk (c=true→∀ x∈l,zmy (x.getD 0 .u)=true) (K.f (.s (za3 l)))
 | _,_=>False
theorem zy0 {sz:Nat} {l:List (List SV)} {e:TypeId} {ctx:Ctx} {K:Sl SV}:oStr te (.slice e) ctx c (.fs sz l) K=(uh te e=true∧sz=1∧Chk (c=true→∀ x∈l,zmy (x.getD 0 .u)=true) (K.f (.s (za3 l)))):=id rfl
def ifRow (o:Option SO) (K:Sl (Nat×Nat×(Nat→List SV))):Prop:=match o with
 | some (.row _ sz n f)=>K.f (sz,n,f)
 | _=>False
theorem zpm {r:Bool} {sz n:Nat} {f:Nat→List SV} {K:Sl (Nat×Nat×(Nat→List SV))}:ifRow (some (.row r sz n f)) K=K.f (sz,n,f):=id rfl
theorem ztj {h lo len:Nat} {e:TypeId} {ctx:Ctx} {K:Sl SV}:oStr te (.slice e) ctx c (.slc h lo len) K=(uh te e=true∧ifRow (ctx.at h) ⟨fun p=>p.1=1∧(∀ j,j<len→zmy ((p.2.2 (lo+j)).getD 0 .u)=true)∧Chk (c=true→lo+len≤p.2.1) (K.f (.s (ko p.2.2 lo len))),⟨⟩⟩):=by
 simp only [oStr]
 rcases ctx.at h with _ | o
 ·rfl
 ·cases o<;>rfl
theorem zop {e:TypeId} {ctx:Ctx} {K:Sl SV}:oStr te (.slice e) ctx c .nils K=(uh te e=true∧K.f (.s [])):=id rfl
theorem zf7 {s d:TypeId} {x:Operand}:XOs P te wr nt pt g c st ⟨dst,.convert s d x,ty,pos,after,gd⟩ K=zq9 (tdOf te s) (tdOf te d) (te s≠none∧u5 c (st.ev x) ⟨fun v=>zfp te wr c (tdOf te d) v ⟨fun z=>wm nt st dst (gz g c (z)) K,⟨⟩⟩,⟨⟩⟩) (u5 c (st.ev x) ⟨fun v=>oStr te (tdOf te s) st.ctx c v ⟨fun z=>wm nt st dst (gz g c (z)) K,⟨⟩⟩,⟨⟩⟩) (g=false∧zne te st (.convert s d x) fun z st'=>zly nt st' dst z K.f) ⟨⟩ ⟨⟩:=by
 simp only [XOs,zm9,y8]
 cases hs:tdOf te s<;>cases hd:tdOf te d<;>simp only [zq9,zqr,zfp,hd]
 case slice.str e=>
  simp only [zlj,u5]
  congr 1;funext v
  cases v<;>simp only [oStr,hs,hd]<;>rfl
 all_goals (congr 1;simp only [u5];congr 1;funext v;cases v<;>simp only [xconv,hd]<;>rfl)
theorem zb9 {t:TypeId} {len:Nat} {parts:Array (Nat×Operand)}:XOs P te wr nt pt false c st ⟨dst,.buildSlice t len parts,ty,pos,after,gd⟩ K=xi (tdOf te t) ⟨fun e=>onO (te e) ⟨fun ti=>ti.zero.length=ti.size∧len * ti.size≤16777216∧(parts.toList.all fun p=>k8 (st.ev p.2))=true∧onO (fillP ti.size (zi1 ti.zero len) (parts.toList.map fun p=>(p.1,st.ev p.2))) ⟨fun l=>wm nt (st.addObj (.row false ti.size len (qv l ti.size))) dst (.slc st.ctx.length 0 len) K,⟨⟩⟩,⟨⟩⟩,⟨⟩⟩:=by
 simp only [XOs,zm9,y8,true_and,zne]
 cases tdOf te t<;>try rfl
 rename_i e
 simp only [xi]
 cases te e with
 | none=>rfl
 | some ti=>
  simp only [onO]
  cases fillP ti.size (zi1 ti.zero len) (parts.toList.map fun p=>(p.1,st.ev p.2))<;>rfl
theorem zc0 {t:TypeId} {l m:Operand}:XOs P te wr nt pt false c st ⟨dst,.makeSlice t l m,ty,pos,after,gd⟩ K=xi (tdOf te t) ⟨fun e=>ifI (st.ev l) ⟨fun n=>ifI (st.ev m) ⟨fun q=>n.1=.i64∧q.1=.i64∧onO (te e) ⟨fun ti=>ti.zero.length=ti.size∧Chk (0≤n.2∧n.2≤q.2∧q.2 * ti.bytes≤281474976710656∧q.2≤281474976710656) (wm nt (st.addObj (.row false ti.size n.2.toNat (fun _=>ti.zero))) dst (.slc st.ctx.length 0 n.2.toNat) K),⟨⟩⟩,⟨⟩⟩,⟨⟩⟩,⟨⟩⟩:=by
 simp only [XOs,zm9,y8,true_and,zne]
 cases tdOf te t<;>try rfl
 rename_i e
 simp only [xi]
 cases st.ev l<;>try rfl
 rename_i k n
 cases st.ev m<;>try (cases k<;>rfl)
 rename_i k' n'
 simp only [ifI]
 cases hte:te e with
 | none=>cases k<;>cases k'<;>simp [onO,hte]
 | some ti=>cases k<;>cases k'<;>simp [onO,wm,hte]
def zpd:TD→Bool
 | .slice _=>true
 | .str=>true
 | _=>false
def oSrc (st:St) (sz:Nat) (u8:Bool) (dh:Nat) (x:SV) (K:Sl (Nat×(Nat→List SV))):Prop:=xsrc st sz u8 dh x fun m f=>K.f (m,f)
theorem zoq {sz dh:Nat} {u8:Bool} {K:Sl (Nat×(Nat→List SV))}:oSrc st sz u8 dh .nils K=K.f (0,fun _=>[]):=id rfl
theorem zy1 {sz z dh:Nat} {u8:Bool} {l:List (List SV)} {K:Sl (Nat×(Nat→List SV))}:oSrc st sz u8 dh (.fs z l) K=(z=sz∧(∀ x∈l,x.all qw=true)∧K.f (l.length,fun j=>l.getD j [])):=id rfl
theorem oSrc_s {sz dh:Nat} {u8:Bool} {l:List UInt8} {K:Sl (Nat×(Nat→List SV))}:oSrc st sz u8 dh (.s l) K=(u8=true∧sz=1∧K.f (l.length,fun j=>[.i .u8 (l.getD j 0).toNat])):=id rfl
theorem ztk {sz dh h lo m:Nat} {u8:Bool} {K:Sl (Nat×(Nat→List SV))}:oSrc st sz u8 dh (.slc h lo m) K=ifRow (st.ctx.at h) ⟨fun p=>p.1=sz∧h≠dh∧(∀ j,j<m→(p.2.2 (lo+j)).all qw=true∧(p.2.2 (lo+j)).length=sz)∧Chk (lo+m≤p.2.1) (K.f (m,fun j=>p.2.2 (lo+j))),⟨⟩⟩:=by
 simp only [oSrc,xsrc]
 rcases st.ctx.at h with _ | o
 ·rfl
 ·cases o<;>rfl
def ifRowW (o:Option SO) (K:Sl (Nat×Nat×(Nat→List SV))):Prop:=match o with
 | some (.row false sz n f)=>K.f (sz,n,f)
 | _=>False
theorem zkv {sz n:Nat} {f:Nat→List SV} {K:Sl (Nat×Nat×(Nat→List SV))}:ifRowW (some (.row false sz n f)) K=K.f (sz,n,f):=id rfl
def oApp (te:TE) (st:St) (e:TypeId) (ti:TI) (s x:SV) (K:Sl (SV×St)):Prop:=match s with
   | .nils=>xsrc st ti.size (uh te e) st.ctx.length x fun m g=>Chk (m * ti.bytes≤140737488355328) (K.f (.slc st.ctx.length 0 m,st.addObj (.row false ti.size m g)))
   | .slc h lo len=>match st.ctx.at h with
    | some (.row false sz' n f)=>sz'=ti.size∧xsrc st ti.size (uh te e) h x fun m g=>Chk (lo+len≤n∧(len+m) * ti.bytes≤140737488355328)
      (K.f (.slc st.ctx.length 0 (len+m),(st.setObj h none).addObj (.row false ti.size (len+m) (zei len (fun j=>f (lo+j)) g))))
    | _=>False
   | _=>False
theorem zot {e:TypeId} {ti:TI} {x:SV} {K:Sl (SV×St)}:oApp te st e ti .nils x K=oSrc st ti.size (uh te e) st.ctx.length x ⟨fun q=>Chk (q.1 * ti.bytes≤140737488355328) (K.f (.slc st.ctx.length 0 q.1,st.addObj (.row false ti.size q.1 q.2))),⟨⟩⟩:=id rfl
theorem ztt {e:TypeId} {ti:TI} {h lo len:Nat} {x:SV} {K:Sl (SV×St)}:oApp te st e ti (.slc h lo len) x K=ifRowW (st.ctx.at h) ⟨fun p=>p.1=ti.size∧oSrc st ti.size (uh te e) h x ⟨fun q=>Chk (lo+len≤p.2.1∧(len+q.1) * ti.bytes≤140737488355328)
      (K.f (.slc st.ctx.length 0 (len+q.1),(st.setObj h none).addObj (.row false ti.size (len+q.1) (zei len (fun j=>p.2.2 (lo+j)) q.2)))),⟨⟩⟩,⟨⟩⟩:=by
 simp only [oApp]
 rcases st.ctx.at h with _ | o
 ·rfl
 ·cases o<;>rfl
theorem ziy {s x:Operand} {t xt:TypeId}:XOs P te wr nt pt false c st ⟨dst,.call { callee:=.builtin .append,args:=#[s,x],argTypes:=#[t,xt] },ty,pos,after,gd⟩ K=(zpd (tdOf te xt)=true∧xi (tdOf te t) ⟨fun e=>onO (te e) ⟨fun ti=>ti.zero.length=ti.size∧ti.bytes≠0∧oApp te st e ti (st.ev s) (st.ev x) ⟨fun p=>wm nt p.2 dst p.1 K,⟨⟩⟩,⟨⟩⟩,⟨⟩⟩):=by
 simp only [XOs,zm9,y8,true_and,zne,zlm]
 have h2:∀ (p q:Prop),p=q→∀ (a b:Prop),a=b→(p∧a)=(q∧b):=by intro p q e a b e';rw [e,e']
 refine h2 _ _ ?_ _ _ ?_
 ·cases tdOf te xt<;>simp [zpd]
 ·cases tdOf te t<;>try rfl
  rename_i e
  simp only [xi]
  cases te e<;>rfl
def oLook (te:TE) (c ok:Bool) (st:St) (t:TypeId) (v y:SV) (K:Sl SV):Prop:=match v,y with
  | .mp h,.s s=>match st.ctx.at h,tdOf te t with
   | some (.mapS l),.map kt vt=>tdOf te kt=.str∧te vt=some ⟨.int .i64,1,8,[.i .i64 0],false⟩∧zgx c ok (lookS l s) K.f
   | _,_=>False
  | .mp h,.i .i64 s=>match st.ctx.at h,tdOf te t with
   | some (.mapI l),.map kt vt=>tdOf te kt=.int .i64∧te vt=some ⟨.int .i64,1,8,[.i .i64 0],false⟩∧zgx c ok (lookS l s) K.f
   | _,_=>False
  | _,_=>False
def oLookS (te:TE) (ok:Bool) (o:Option SO) (d:TD) (s:List UInt8) (K:Sl SV):Prop:=match o,d with
 | some (.mapS l),.map kt vt=>tdOf te kt=.str∧te vt=some ⟨.int .i64,1,8,[.i .i64 0],false⟩∧zgx true ok (lookS l s) K.f
 | _,_=>False
def oLookI (te:TE) (ok:Bool) (o:Option SO) (d:TD) (s:Int) (K:Sl SV):Prop:=match o,d with
 | some (.mapI l),.map kt vt=>tdOf te kt=.int .i64∧te vt=some ⟨.int .i64,1,8,[.i .i64 0],false⟩∧zgx true ok (lookS l s) K.f
 | _,_=>False
def zjh (ok:Bool) (r:Option Int) (K:Sl SV):Prop:=zgx true ok r K.f
theorem zr3 {r:Option Int} {K:Sl SV}:zjh true r K=K.f (.tup [.i .i64 (r.getD 0),.b r.isSome]):=by simp [zjh,zgx]
theorem zr4 {r:Option Int} {K:Sl SV}:zjh false r K=K.f (.i .i64 (r.getD 0)):=by simp [zjh,zgx]
theorem zy2 {ok:Bool} {t:TypeId} {h:Nat} {s:List UInt8} {K:Sl SV}:oLook te c ok st t (.mp h) (.s s) K=oLookS te ok (st.ctx.at h) (tdOf te t) s K:=id rfl
theorem zy3 {ok:Bool} {t:TypeId} {h:Nat} {s:Int} {K:Sl SV}:oLook te c ok st t (.mp h) (.i .i64 s) K=oLookI te ok (st.ctx.at h) (tdOf te t) s K:=id rfl
theorem ztl {ok:Bool} {l:List (List UInt8×Int)} {kt vt:TypeId} {s:List UInt8} {K:Sl SV}:oLookS te ok (some (.mapS l)) (.map kt vt) s K=(tdOf te kt=.str∧te vt=some ⟨.int .i64,1,8,[.i .i64 0],false⟩∧zjh ok (lookS l s) K):=id rfl
theorem ztm {ok:Bool} {l:List (Int×Int)} {kt vt:TypeId} {s:Int} {K:Sl SV}:oLookI te ok (some (.mapI l)) (.map kt vt) s K=(tdOf te kt=.int .i64∧te vt=some ⟨.int .i64,1,8,[.i .i64 0],false⟩∧zjh ok (lookS l s) K):=id rfl
theorem ziv {t:TypeId} {m k:Operand} {ok:Bool}:XOs P te wr nt pt g c st ⟨dst,.lookup t m k ok,ty,pos,after,gd⟩ K=u5 c (st.ev m) ⟨fun v=>u5 c (st.ev k) ⟨fun y=>oLook te c ok st t v y ⟨fun z=>wm nt st dst (gz g c (z)) K,⟨⟩⟩,⟨⟩⟩,⟨⟩⟩:=id rfl
def oUpdS (te:TE) (o:Option SO) (kt:TypeId) (s:List UInt8) (v:Int) (K:Sl SO):Prop:=match o with
 | some (.mapS l)=>tdOf te kt=.str∧K.f (.mapS (u4 l s v))
 | _=>False
def oUpdI (te:TE) (o:Option SO) (kt:TypeId) (s:Int) (v:Int) (K:Sl SO):Prop:=match o with
 | some (.mapI l)=>tdOf te kt=.int .i64∧K.f (.mapI (u4 l s v))
 | _=>False
theorem zyy {l:List (List UInt8×Int)} {kt:TypeId} {s:List UInt8} {v:Int} {K:Sl SO}:oUpdS te (some (.mapS l)) kt s v K=(tdOf te kt=.str∧K.f (.mapS (u4 l s v))):=id rfl
theorem zyz {l:List (Int×Int)} {kt:TypeId} {s v:Int} {K:Sl SO}:oUpdI te (some (.mapI l)) kt s v K=(tdOf te kt=.int .i64∧K.f (.mapI (u4 l s v))):=id rfl
def oUpd (te:TE) (st:St) (m k x:SV) (d:TD) (K:Sl St):Prop:=match m,k,x,d with
  | .mp h,.s s,.i .i64 v,.map kt vt=>oUpdS te (st.ctx.at h) kt s v ⟨fun o=>K.f (st.setObj h (some o)),⟨⟩⟩
  | .mp h,.i .i64 s,.i .i64 v,.map kt vt=>oUpdI te (st.ctx.at h) kt s v ⟨fun o=>K.f (st.setObj h (some o)),⟨⟩⟩
  | _,_,_,_=>False
theorem oUpd_s {h:Nat} {s:List UInt8} {v:Int} {kt vt:TypeId} {K:Sl St}:oUpd te st (.mp h) (.s s) (.i .i64 v) (.map kt vt) K=oUpdS te (st.ctx.at h) kt s v ⟨fun o=>K.f (st.setObj h (some o)),⟨⟩⟩:=id rfl
theorem oUpd_i {h:Nat} {s v:Int} {kt vt:TypeId} {K:Sl St}:oUpd te st (.mp h) (.i .i64 s) (.i .i64 v) (.map kt vt) K=oUpdI te (st.ctx.at h) kt s v ⟨fun o=>K.f (st.setObj h (some o)),⟨⟩⟩:=id rfl
theorem zyx {t:TypeId} {m k x:Operand} {K:Sl St} (o:Op) (ho:o=.mapUpdate t m k x∨o=.insert t m k x):zne te st o (fun z s=>K.f s)=oUpd te st (st.ev m) (st.ev k) (st.ev x) (tdOf te t) K:=by
 have key:∀ (o:Op),(o=.mapUpdate t m k x∨o=.insert t m k x)→zne te st o (fun z s=>K.f s)=oUpd te st (st.ev m) (st.ev k) (st.ev x) (tdOf te t) K:=by
  intro o ho
  rcases ho with rfl | rfl
  all_goals
   simp only [zne,oUpd]
   split
   ·rename_i hh s v kt vt e1 e2 e3 e4
    simp only [e1,e2,e3,e4,oUpdS]
    split<;>simp_all
   ·rename_i hh s v kt vt e1 e2 e3 e4
    simp only [e1,e2,e3,e4,oUpdI]
    split<;>simp_all
   ·rename_i h1 h2
    split
    ·rename_i e1 e2 e3 e4;exact absurd e4 (h1 _ _ _ _ _ e1 e2 e3)
    ·rename_i e1 e2 e3 e4;exact absurd e4 (h2 _ _ _ _ _ e1 e2 e3)
    ·rfl
 exact key o ho
theorem zcz {t:TypeId} {m k x:Operand}:XOs P te wr nt pt false c st ⟨dst,.mapUpdate t m k x,ty,pos,after,gd⟩ K=oUpd te st (st.ev m) (st.ev k) (st.ev x) (tdOf te t) ⟨fun s=>wm nt s dst .u K,⟨⟩⟩:=by
 show (false=false∧_)=_
 simp only [true_and]
 rw [←zyx (.mapUpdate t m k x) (.inl rfl)]
 simp only [zne]
 rfl
theorem ziw {t:TypeId} {m k x:Operand}:XOs P te wr nt pt false c st ⟨dst,.insert t m k x,ty,pos,after,gd⟩ K=oUpd te st (st.ev m) (st.ev k) (st.ev x) (tdOf te t) ⟨fun s=>wm nt s dst .u K,⟨⟩⟩:=by
 show (false=false∧_)=_
 simp only [true_and]
 rw [←zyx (.insert t m k x) (.inr rfl)]
 simp only [zne]
 rfl
def oMk (kd:TD) (st:St) (K:Sl (SV×St)):Prop:=match kd with
 | .str=>K.f (.mp st.ctx.length,st.addObj (.mapS []))
 | .int .i64=>K.f (.mp st.ctx.length,st.addObj (.mapI []))
 | _=>False
theorem oMk_s {K:Sl (SV×St)}:oMk .str st K=K.f (.mp st.ctx.length,st.addObj (.mapS [])):=id rfl
theorem oMk_i {K:Sl (SV×St)}:oMk (.int .i64) st K=K.f (.mp st.ctx.length,st.addObj (.mapI [])):=id rfl
def ifMap (d:TD) (K:Sl (TypeId×TypeId)):Prop:=match d with
 | .map k e=>K.f (k,e)
 | _=>False
theorem zpo {k e:TypeId} {K:Sl (TypeId×TypeId)}:ifMap (.map k e) K=K.f (k,e):=id rfl
def mkArg (st:St):Option Operand→Prop
 | none=>True
 | some x=>match st.ev x with | .i _ _=>True | _=>False
theorem zki:mkArg st none:=trivial
theorem zo1 {k:IntKind} {n:Int}:mkArg st (some (.const (.int k n))):=by simp [mkArg,St.ev,ofVal]
theorem zf5 {t:TypeId} {r:Option Operand}:XOs P te wr nt pt false c st ⟨dst,.makeMap t r,ty,pos,after,gd⟩ K=(mkArg st r∧ifMap (tdOf te t) ⟨fun q=>oMk (tdOf te q.1) st ⟨fun p=>wm nt p.2 dst p.1 K,⟨⟩⟩,⟨⟩⟩):=by
 show (false=false∧_)=_
 simp only [true_and]
 show zne te st (.makeMap t r) _=_
 simp only [zne]
 have h2:∀ (p q:Prop),p=q→∀ (a b:Prop),a=b→(p∧a)=(q∧b):=by intro p q e a b e';rw [e,e']
 refine h2 _ _ ?_ _ _ ?_
 ·cases r<;>rfl
 ·cases tdOf te t<;>rfl
theorem zsh {t:TypeId} {k:IntKind} {a b:Int} {K:Sl SV}:wz te t false c .add (.i k a) (.i k b) K=Chk (c=true→inR k (a+b)) (K.f (.i k (a+b))):=by simp [wz,ziz]
theorem zjx {t:TypeId} {k:IntKind} {a b:Int} {K:Sl SV}:wz te t true c .add (.i k a) (.i k b) K=K.f (.i k (k.wrap (a+b))):=by simp [wz,ziz]
theorem zsb {t:TypeId} {k:IntKind} {a b:Int} {K:Sl SV}:wz te t false c .sub (.i k a) (.i k b) K=Chk (c=true→inR k (a-b)) (K.f (.i k (a-b))):=by simp [wz,ziz]
theorem zjj {t:TypeId} {k:IntKind} {a b:Int} {K:Sl SV}:wz te t true c .sub (.i k a) (.i k b) K=K.f (.i k (k.wrap (a-b))):=by simp [wz,ziz]
theorem zsf {t:TypeId} {k:IntKind} {a b:Int} {K:Sl SV}:wz te t false c .mul (.i k a) (.i k b) K=Chk (c=true→inR k (a * b)) (K.f (.i k (a * b))):=by simp [wz,ziz]
theorem zjo {t:TypeId} {k:IntKind} {a b:Int} {K:Sl SV}:wz te t true c .mul (.i k a) (.i k b) K=K.f (.i k (k.wrap (a * b))):=by simp [wz,ziz]
theorem zse {t:TypeId} {k:IntKind} {a b:Int} {K:Sl SV}:wz te t wr c .quo (.i k a) (.i k b) K=(b≠0∧Chk (c=true→inR k (a.tdiv b)) (K.f (.i k (a.tdiv b)))):=by simp [wz,ziz]
theorem zsd {t:TypeId} {k:IntKind} {a b:Int} {K:Sl SV}:wz te t wr c .rem (.i k a) (.i k b) K=Chk (c=true→b≠0) (K.f (.i k (a.tmod b))):=by simp [wz,ziz]
theorem zsg {t:TypeId} {k:IntKind} {a b:Int} {K:Sl SV}:wz te t wr c .and (.i k a) (.i k b) K=K.f (.i k (k.wrap ((BitVec.ofInt k.bits a &&& BitVec.ofInt k.bits b).toNat))):=by simp [wz,ziz]
theorem zsa {t:TypeId} {k:IntKind} {a b:Int} {K:Sl SV}:wz te t wr c .xor (.i k a) (.i k b) K=K.f (.i k (k.wrap ((BitVec.ofInt k.bits a ^^^ BitVec.ofInt k.bits b).toNat))):=by simp [wz,ziz]
theorem zsc {t:TypeId} {k k':IntKind} {a b:Int} {K:Sl SV}:wz te t wr c .shr (.i k a) (.i k' b) K=(0≤b∧K.f (.i k (a.fdiv (2 ^ (min b.toNat k.bits))))):=id rfl
theorem zju {t:TypeId} {k:IntKind} {a b:Int} {K:Sl SV}:wz te t wr c .eql (.i k a) (.i k b) K=K.f (.b (decide (a=b))):=by simp [wz,ziz]
theorem zjl {t:TypeId} {k:IntKind} {a b:Int} {K:Sl SV}:wz te t wr c .neq (.i k a) (.i k b) K=K.f (.b (!decide (a=b))):=by simp [wz,ziz]
theorem zjp {t:TypeId} {k:IntKind} {a b:Int} {K:Sl SV}:wz te t wr c .lss (.i k a) (.i k b) K=K.f (.b (decide (a<b))):=by simp [wz,ziz]
theorem zjq {t:TypeId} {k:IntKind} {a b:Int} {K:Sl SV}:wz te t wr c .leq (.i k a) (.i k b) K=K.f (.b (decide (a≤b))):=by simp [wz,ziz]
theorem zjr {t:TypeId} {k:IntKind} {a b:Int} {K:Sl SV}:wz te t wr c .gtr (.i k a) (.i k b) K=K.f (.b (decide (a>b))):=by simp [wz,ziz]
theorem zjs {t:TypeId} {k:IntKind} {a b:Int} {K:Sl SV}:wz te t wr c .geq (.i k a) (.i k b) K=K.f (.b (decide (a≥b))):=by simp [wz,ziz]
theorem zjy {t:TypeId} {a b:List UInt8} {K:Sl SV}:wz te t wr c .add (.s a) (.s b) K=Chk (c=true→a.length+b.length≤9223372036854775807) (K.f (.s (a++b))):=id rfl
theorem zjt {t:TypeId} {a b:List UInt8} {K:Sl SV}:wz te t wr c .eql (.s a) (.s b) K=K.f (.b (decide (a=b))):=id rfl
theorem zjk {t:TypeId} {a b:List UInt8} {K:Sl SV}:wz te t wr c .neq (.s a) (.s b) K=K.f (.b (!decide (a=b))):=id rfl
theorem zjv {t:TypeId} {a b:Bool} {K:Sl SV}:wz te t wr c .eql (.b a) (.b b) K=(tdOf te t=.bool∧K.f (.b (a==b))):=id rfl
theorem zjm {t:TypeId} {a b:Bool} {K:Sl SV}:wz te t wr c .neq (.b a) (.b b) K=(tdOf te t=.bool∧K.f (.b (!(a==b)))):=id rfl
theorem zjw {t:TypeId} {a b:List SV} {K:Sl SV}:wz te t wr c .eql (.agg a) (.agg b) K=onO (eqAt te 4 t (.agg a) (.agg b)) ⟨fun z=>K.f (.b z),⟨⟩⟩:=by
 simp only [wz,ziz]
 cases eqAt te 4 t (.agg a) (.agg b)<;>rfl
theorem zjn {t:TypeId} {a b:List SV} {K:Sl SV}:wz te t wr c .neq (.agg a) (.agg b) K=onO (eqAt te 4 t (.agg a) (.agg b)) ⟨fun z=>K.f (.b (!z)),⟨⟩⟩:=by
 simp only [wz,ziz]
 cases eqAt te 4 t (.agg a) (.agg b)<;>rfl
theorem zn8 {z:SV}:wm nt st none z K=K.f st:=id rfl
theorem zn7 {d:Tmp} {z:SV}:wm nt st (some d) z K=(d<nt∧K.f ⟨(d,z)::st.env,st.ctx⟩):=id rfl
theorem ev_tmp {t:Tmp}:st.ev (.tmp t)=look st.env t:=id rfl
theorem ev_int {k:IntKind} {n:Int}:st.ev (.const (.int k n))=.i k n:=id rfl
theorem z0k {b:Bool}:st.ev (.const (.bool b))=.b b:=id rfl
theorem ev_str {b:Array UInt8}:st.ev (.const (.string ⟨b⟩))=.s b.toList:=id rfl
theorem z0i:st.ev (.const (.slice none 0 0))=.nils:=id rfl
theorem z0j {f:FuncId}:st.ev (.func f)=.fn f:=id rfl
theorem zo3 {u t:Tmp} {x:SV} {r:List (Tmp×SV)}:look ((u,x)::r) t=if u=t then x else look r t:=id rfl
theorem zw9 {l:List Tmp}:trim l st=⟨l.map fun t=>(t,look st.env t),st.ctx⟩:=id rfl
theorem zqg {o:SO}:st.addObj o=⟨st.env,st.ctx++[some o]⟩:=id rfl
theorem znw {h:Nat} {o:Option SO}:st.setObj h o=⟨st.env,st.ctx.set h o⟩:=id rfl
theorem ztc {f:FuncId} {g:PE} {r:List (FuncId×PE)} {k:Nat} {gr:Bool}:ptOf ⟨(f,g)::r,k,gr⟩ f=some g:=by simp [ptOf,zvi]
theorem zn9 {f f':FuncId} {g:PE} {r:List (FuncId×PE)} {k:Nat} {gr:Bool} (h:(f'==f)=false):ptOf ⟨(f',g)::r,k,gr⟩ f=ptOf ⟨r,k,gr⟩ f:=by
 simp only [beq_eq_false_iff_ne,ne_eq] at h
 simp [ptOf,zvi,h]
theorem zzz {j i:Nat} {l:List Tmp} {r:List (Nat×List Tmp)}:kp ((j,l)::r) i=if j=i then l else kp r i:=id rfl
theorem ztb {f:FuncId} {k:Nat} {gr:Bool}:ptOf ⟨[],k,gr⟩ f=none:=id rfl
end ops
end Go.Vg
