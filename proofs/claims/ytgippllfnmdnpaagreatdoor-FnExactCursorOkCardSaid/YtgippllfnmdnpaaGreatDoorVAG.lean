/- Own text: part VAG. -/
import Derived.Test.YtgippllfnmdnpaaGreatDoorVAF
set_option linter.all false
namespace Go.Vg
variable[Go.Vg.df]
open Go.RowKit
structure Tag{α:Sort _}(a:α):Type where
structure Sl(α:Type) where
 f:α->Prop
 t:Tag f
theorem CG{c:Code}:lX [] c=false:=by unfold lX;split<;>rfl
theorem zU{o:SO}{c:dZ}:da 0 (some o::c)=(o.ro=false/\da 0 c):=by simp[da]
theorem xK{c:dZ}:da 0 (none::c)=da 0 c:=by simp[da]
theorem zT{k:Nat}{o:Option SO}{c:dZ}:da (k+1) (o::c)=da k c:=by simp[da]
theorem JA{a b:Bool}:(bif a then b else false)=(a&&b):=by cases a<;>rfl
theorem JB{a b:Bool}:(bif a then true else b)=(a||b):=by cases a<;>rfl
theorem wa{k:Nat}:da k []:=by simp[da]
def Vx(P:Program)(te:TE)(wr:Bool)(nt:Nat)(pt:PT)(sp:Bool)(ops:Array Oper)(K:Sl St)(os:List Oper)(st:St):Prop:=XL P te wr nt pt sp ops K.f os st
def pw(P:Program)(te:TE)(wr:Bool)(nt:Nat)(pt:PT)(g c:Bool)(st:St)(o:Oper)(K:Sl St):Prop:=py P te wr nt pt g c st o K.f
def gk(nt:Nat)(st:St)(d:Option Tmp)(z:SV)(K:Sl St):Prop:=qL nt st d z K.f
def jD(c:Bool)(x:SV)(K:Sl SV):Prop:=j9 c x K.f
def yy(want:Bool)(x:SV)(K:Sl Bool):Prop:=tv want x K.f
def gK(te:TE)(t:TypeId)(wr c:Bool)(op:BinOp)(x y:SV)(K:Sl SV):Prop:=nJ te t wr c op x y K.f
def R5(d:Nat->Array Oper->(St->Prop)->St->Prop)(id:Nat)(ops:Array Oper)(K:Sl St)(st:St):Prop:=d id ops K.f st
def cF(k:Nat)(st:St)(B:Sl ((St->Prop)×St)):Prop:=Jj k st fun J s=>B.f (J,s)
def kT(k:Nat)(B:Sl (St->Prop))(R:Sl St):Prop:=Qw k B.f R.f
def eS(P:Program)(f:FuncId)(args:List SV)(kk:Nat)(st:St)(K:Sl (SV×St)):Prop:=qm P f args kk st fun z s=>K.f (z,s)
def WO(st:St)(K:Sl St):Prop:=K.f st
theorem Ov{st:St}{K:Sl St}:WO st K=K.f st:=id rfl
section code
variable{cf:Cf}{F:St->Prop}{n:Nat}{r:List It}{st:St}
theorem Qg:vc cf F (n+1) [] st=F st:=id rfl
theorem Qe{i:Nat}:vc cf F (n+1) (.gA i::r) st=vc cf F n r st:=id rfl
theorem LF{J:St->Prop}:vc cf F (n+1) (.stop J::r) st=J st:=id rfl
theorem LD:vc cf F (n+1) (.code .skip::r) st=vc cf F n r st:=id rfl
theorem Qh:vc cf F (n+1) (.code .ret::r) st=F st:=id rfl
theorem Qi{x y:Code}(h:lX cf.cut y=false):vc cf F (n+1) (.code (.seq x y)::r) st=vc cf F n (.code x::.code y::r) st:=by show(if lX cf.cut y then _ else _)=_;rw[aA (by rw[h];exact Bool.false_ne_true)]
theorem Qf{x y:Code}(h:lX cf.cut y=true):vc cf F (n+1) (.code (.seq x y)::r) st=kT cf.k ⟨fun J=>vc cf F n (.code x::.stop J::.code y::r) st,⟨⟩⟩ ⟨fun s=>vc cf F n (.code y::r) s,⟨⟩⟩:=by show(if lX cf.cut y then _ else _)=_;rw[aB h];rfl
theorem Dt{id:Nat}{ops:List Oper}:vc cf F (n+1) (.code (.region id ⟨ops⟩ false)::r) st=Vx cf.P cf.te cf.wr cf.nt cf.pt (cf.sp id) ⟨ops⟩ ⟨fun s=>WO (trim (cf.yd id) s) ⟨fun s=>vc cf F n r s,⟨⟩⟩,⟨⟩⟩ ops st:=_root_.id rfl
theorem LB{id:Nat}{ops:Array Oper}:vc cf F (n+1) (.code (.region id ops true)::r) st=R5 cf.dr id ops ⟨fun s=>WO (trim (cf.yd id) s) ⟨fun s=>vc cf F n r s,⟨⟩⟩,⟨⟩⟩ st:=_root_.id rfl
theorem Hi{id:Nat}{b:Code}:vc cf F (n+1) (.code (.block id b)::r) st=vc cf F n (.code b::.gA id::r) st:=_root_.id rfl
theorem LC{b:Code}:vc cf F (n+1) (.code (.loop b)::r) st=cF cf.k st ⟨fun p=>vc cf F n (.code b::.stop p.1::r) p.2,⟨⟩⟩:=id rfl
def sM(cf:Cf)(F:St->Prop)(n:Nat)(st:St)(id:Nat):List It->Prop
 |[]=>False
 | .gA a::r=>if id=a then vc cf F n r st else sM cf F n st id r
 |_::r=>sM cf F n st id r
theorem yF{id:Nat}:∀{r:List It},(match pj id r with|some r'=>vc cf F n r' st|none=>False)=sM cf F n st id r
 |[]=>rfl
 | .gA a::r=>by
  simp only[pj,sM];by_cases h:id=a
  ·rw[aB h,aB h]
  ·rw[aA h,aA h];exact yF
 | .code _::r=>by simp only[pj,sM];exact yF
 | .stop _::r=>by simp only[pj,sM];exact yF
theorem Hj{id:Nat}:vc cf F (n+1) (.code (.exit id)::r) st=sM cf F n st id r:=by show(match pj id r with|some r'=>vc cf F n r' st|none=>False)=_;exact yF
theorem GG{id:Nat}:sM cf F n st id (.gA id::r)=vc cf F n r st:=by simp[sM]
theorem C3{id i:Nat}(h:(id==i)=false):sM cf F n st id (.gA i::r)=sM cf F n st id r:=by simp only[gS,ne_eq]at h;simp[sM,h]
theorem C4{id:Nat}{c:Code}:sM cf F n st id (.code c::r)=sM cf F n st id r:=_root_.id rfl
theorem C5{id:Nat}{c:St->Prop}:sM cf F n st id (.stop c::r)=sM cf F n st id r:=_root_.id rfl
structure px(a b:Prop):Type where
def Dv(x:SV)(p q:Prop)(t:px p q):Prop:=match x with
 | .b t=>(t=true->p)/\(t=false->q)
 |_=>False
theorem LH{t:Bool}{p q:Prop}{tg:px p q}:Dv (.b t) p q tg=((t=true->p)/\(t=false->q)):=id rfl
theorem Bm{p q:Prop}{tg:px p q}:Dv (.b true) p q tg=p:=by simp[Dv]
theorem xZ{p q:Prop}{tg:px p q}:Dv (.b false) p q tg=q:=by simp[Dv]
theorem LA{c:Operand}{x y:Code}:vc cf F (n+1) (.code (.cond c x y)::r) st=Dv (st.ev c) (vc cf F n (.code x::r) st) (vc cf F n (.code y::r) st) ⟨⟩:=id rfl
end code
section ops
variable{P:Program}{te:TE}{wr:Bool}{nt:Nat}{pt:PT}{sp g c:Bool}{ops:Array Oper}{st:St}{K:Sl St}{os:List Oper}{dst:Option Tmp}{ty:TypeId}{pos:String}{after:Array Edge}{gd:Option (Nat×Bool)}
theorem MU:Vx P te wr nt pt sp ops K [] st=K.f st:=id rfl
theorem Jo{op:Op}:Vx P te wr nt pt sp ops K (⟨dst,op,ty,pos,after,none⟩::os) st=pw P te wr nt pt false true st ⟨dst,op,ty,pos,after,none⟩ ⟨Vx P te wr nt pt sp ops K os,⟨⟩⟩:=id rfl
def sd(sp:Bool)(P:Program)(te:TE)(wr:Bool)(nt:Nat)(pt:PT)(d:Option Tmp)(want:Bool)(st:St)(o:Oper)(K:Sl St):Prop:=
 match d with
  |none=>False
  |some d=>tv want (look st.env d) fun c=>
    if sp then(c=true->py P te wr nt pt false true st o K.f)/\(c=false->qL nt st o.dst (.gd false (.b false)) K.f)
    else py P te wr nt pt true c st o K.f
theorem Fh{op:Op}{j:Nat}{want:Bool}:Vx P te wr nt pt sp ops K (⟨dst,op,ty,pos,after,some (j,want)⟩::os) st=sd sp P te wr nt pt (rb ops j) want st ⟨dst,op,ty,pos,after,some (j,want)⟩ ⟨Vx P te wr nt pt sp ops K os,⟨⟩⟩:=id rfl
theorem Hz{d:Tmp}{want:Bool}{o:Oper}:sd false P te wr nt pt (some d) want st o K=yy want (look st.env d) ⟨fun c=>pw P te wr nt pt true c st o K,⟨⟩⟩:=id rfl
theorem Bo{d:Tmp}{want:Bool}{o:Oper}:sd true P te wr nt pt (some d) want st o K=yy want (look st.env d) ⟨fun c=>(c=true->pw P te wr nt pt false true st o K)/\(c=false->gk nt st o.dst (.gd false (.b false)) K),⟨⟩⟩:=id rfl
theorem zg{o:Oper}{l:List Oper}:rb ⟨o::l⟩ 0=o.dst:=id rfl
theorem zf{o:Oper}{l:List Oper}{i:Nat}:rb ⟨o::l⟩ (i+1)=rb ⟨l⟩ i:=by simp[rb]
theorem uN{want:Bool}{e:Bool}{K:Sl Bool}:yy want (.b e) K=K.f (if want then e else !e):=id rfl
theorem vV{want g:Bool}{e:Bool}{K:Sl Bool}:yy want (.gd g (.b e)) K=K.f (g&&(if want then e else !e)):=id rfl
theorem Qc{c g:Bool}{v:SV}{K:Sl SV}:jD c (.gd g v) K=bH (c=true->g=true) (K.f v):=id rfl
def gz(g c:Bool)(z:SV):SV:=if g then nF c z else z
theorem VZ{z:SV}:gz false c z=z:=id rfl
theorem V0{z:SV}:gz true c z=nF c z:=id rfl
theorem Tv{c:Bool}{x:Bool}{K:Sl SV}:jD c (.b x) K=K.f (.b x):=id rfl
theorem Tw{c:Bool}{k:IntKind}{x:Int}{K:Sl SV}:jD c (.i k x) K=K.f (.i k x):=id rfl
theorem Tx{c:Bool}{x:List UInt8}{K:Sl SV}:jD c (.s x) K=K.f (.s x):=id rfl
theorem Lx{c:Bool}{h i k:Nat}{K:Sl SV}:jD c (.ptr h i k) K=K.f (.ptr h i k):=id rfl
theorem Ly{c:Bool}{h i k:Nat}{K:Sl SV}:jD c (.ew h i k) K=K.f (.ew h i k):=id rfl
theorem Hh{c:Bool}{K:Sl SV}:jD c (.cQ) K=K.f (.cQ):=id rfl
theorem Qd{c:Bool}{h:Nat}{K:Sl SV}:jD c (.mp h) K=K.f (.mp h):=id rfl
theorem Lw{c:Bool}{l:List SV}{K:Sl SV}:jD c (.agg l) K=K.f (.agg l):=id rfl
theorem Lz{c:Bool}{l:List SV}{K:Sl SV}:jD c (.fJ l) K=K.f (.fJ l):=id rfl
theorem Qb{c:Bool}{sz:Nat}{l:List (List SV)}{K:Sl SV}:jD c (.fs sz l) K=K.f (.fs sz l):=id rfl
theorem Qa{c:Bool}{l:List SV}{k:Nat}{K:Sl SV}:jD c (.fp l k) K=K.f (.fp l k):=id rfl
theorem N6{c:Bool}{x:Bool}:nF c (.b x)=.gd c (.b x):=id rfl
theorem N7{c:Bool}{k:IntKind}{x:Int}:nF c (.i k x)=.gd c (.i k x):=id rfl
theorem N8{c:Bool}{x:List UInt8}:nF c (.s x)=.gd c (.s x):=id rfl
theorem Gd{c:Bool}{h i k:Nat}:nF c (.ptr h i k)=.gd c (.ptr h i k):=id rfl
theorem Gf{c:Bool}{h i k:Nat}:nF c (.ew h i k)=.gd c (.ew h i k):=id rfl
theorem CV{c:Bool}  : nF c (.cQ)=.gd c (.cQ):=id rfl
theorem Ku{c:Bool}{h:Nat}:nF c (.mp h)=.gd c (.mp h):=id rfl
theorem Gc{c:Bool}{l:List SV}:nF c (.agg l)=.gd c (.agg l):=id rfl
theorem Gg{c:Bool}{l:List SV}:nF c (.fJ l)=.gd c (.fJ l):=id rfl
theorem Ks{c:Bool}{sz:Nat}{l:List (List SV)}:nF c (.fs sz l)=.gd c (.fs sz l):=id rfl
theorem Kr{c:Bool}{l:List SV}{k:Nat}:nF c (.fp l k)=.gd c (.fp l k):=id rfl
theorem Kt{c g:Bool}{x:SV}:nF c (.gd g x)=.gd (c&&g) x:=id rfl
def NJ(v:SV)(K:Sl (Nat×Nat×Nat)):Prop:=match v with
 | .ptr h i k=>K.f (h,i,k)
 |_=>False
theorem CC{h i k:Nat}{K:Sl (Nat×Nat×Nat)}:NJ (.ptr h i k) K=K.f (h,i,k):=id rfl
def FY(v:SV)(K:Sl (Nat×Nat×Nat))(a:Sl (List SV×Nat)):Prop:=match v with
 | .ptr h i k=>K.f (h,i,k)
 | .fp l k=>a.f (l,k)
 |_=>False
theorem FZ{h i k:Nat}{K:Sl (Nat×Nat×Nat)}{a:Sl (List SV×Nat)}:FY (.ptr h i k) K a=K.f (h,i,k):=id rfl
theorem J2{l:List SV}{k:Nat}{K:Sl (Nat×Nat×Nat)}{a:Sl (List SV×Nat)}:FY (.fp l k) K a=a.f (l,k):=id rfl
def QZ(v:SV)(K:Sl (Nat×Nat×Nat))(a:Sl (Nat×List (List SV))):Prop:=match v with
 | .ew h i k=>K.f (h,i,k)
 | .fs z l=>a.f (z,l)
 |_=>False
theorem F0{h i k:Nat}{K:Sl (Nat×Nat×Nat)}{a:Sl (Nat×List (List SV))}:QZ (.ew h i k) K a=K.f (h,i,k):=id rfl
theorem J3{z:Nat}{l:List (List SV)}{K:Sl (Nat×Nat×Nat)}{a:Sl (Nat×List (List SV))}:QZ (.fs z l) K a=a.f (z,l):=id rfl
def V3(v:SV)(K:Sl (Nat×Nat×Nat)):Prop:=match v with
 | .ew h i k=>K.f (h,i,k)
 |_=>False
theorem CE{h i k:Nat}{K:Sl (Nat×Nat×Nat)}:V3 (.ew h i k) K=K.f (h,i,k):=id rfl
def V2(v:SV)(K:Sl (Bool)):Prop:=match v with
 | .b x=>K.f x
 |_=>False
theorem Sj{x:Bool}{K:Sl (Bool)}:V2 (.b x) K=K.f x:=id rfl
def J1(v:SV)(K:Sl (IntKind×Int)):Prop:=match v with
 | .i k x=>K.f (k,x)
 |_=>False
theorem Sk{k:IntKind}{x:Int}{K:Sl (IntKind×Int)}:J1 (.i k x) K=K.f (k,x):=id rfl
def WL(v:SV)(K:Sl (List UInt8)):Prop:=match v with
 | .s l=>K.f l
 |_=>False
theorem So{l:List UInt8}{K:Sl (List UInt8)}:WL (.s l) K=K.f l:=id rfl
def Sp(v:SV)(K:Sl (List SV)):Prop:=match v with
 | .fJ l=>K.f l
 |_=>False
theorem CF{l:List SV}{K:Sl (List SV)}:Sp (.fJ l) K=K.f l:=id rfl
def oW(v:TD)(K:Sl (List (TypeId×Nat))):Prop:=match v with
 | .struct l=>K.f l
 |_=>False
theorem qs{l:List (TypeId×Nat)}{K:Sl (List (TypeId×Nat))}:oW (.struct l) K=K.f l:=id rfl
def ks(v:TD)(K:Sl (TypeId)):Prop:=match v with
 | .slice e=>K.f e
 |_=>False
theorem sS{e:TypeId}{K:Sl (TypeId)}:ks (.slice e) K=K.f e:=id rfl
def rn{α:Type}(o:Option α)(K:Sl α):Prop:=match o with
 |some x=>K.f x
 |none=>False
theorem Gw{α:Type}{x:α}{K:Sl α}:rn (some x) K=K.f x:=id rfl
def yc(b:Bool)(p q:Prop)(t:px p q):Prop:=if b then p else q
theorem CJ{p q:Prop}{tg:px p q}:yc true p q tg=p:=by simp[yc]
theorem zE{p q:Prop}{tg:px p q}:yc false p q tg=q:=by simp[yc]
def xA:TD->Bool
 | .str=>true
 |_=>false
theorem GL{te:TE}{st:St}{Q:SV->dZ->Prop}{acc:List SV}:sN te st Q [] acc=Q (ER acc) st.ctx:=id rfl
theorem GM{te:TE}{st:St}{Q:SV->dZ->Prop}{acc:List SV}{t:Tmp}{r:List ResultVar}:sN te st Q (.tmp t::r) acc=sN te st Q r (acc++[look st.env t]):=id rfl
theorem De{te:TE}{st:St}{Q:SV->dZ->Prop}{acc:List SV}{a:Tmp}{t:TypeId}{r:List ResultVar}:sN te st Q (.cell a t::r) acc=rn (uF te st.ctx (look st.env a) t) ⟨fun x=>sN te st Q r (acc++[x]),⟨⟩⟩:=by simp only[sN];cases uF te st.ctx (look st.env a) t<;>rfl
theorem He{x:SV}:ER [x]=x:=id rfl
theorem Hf{x y:SV}:ER [x,y]=.fJ [x,y]:=id rfl
theorem A3{x y z:SV}:ER [x,y,z]=.fJ [x,y,z]:=id rfl
theorem Ds{x y z q:SV}:ER [x,y,z,q]=.fJ [x,y,z,q]:=id rfl
def Ox(v:SV)(t:TD)(K:Sl SV):Prop:=match v,t with
   | .s l,.str=>K.f (.i .i64 l.length)
   | .ew _ _ len,.slice _=>K.f (.i .i64 len)
   | .fs _ l,.slice _=>K.f (.i .i64 l.length)
   | .cQ,.slice _=>K.f (.i .i64 0)
   |_,_=>False
theorem KD{z:Nat}{l:List (List SV)}{e:TypeId}{K:Sl SV}:Ox (.fs z l) (.slice e) K=K.f (.i .i64 l.length):=id rfl
theorem Oy{l:List UInt8}{K:Sl SV}:Ox (.s l) .str K=K.f (.i .i64 l.length):=id rfl
theorem Gr{h a len:Nat}{e:TypeId}{K:Sl SV}:Ox (.ew h a len) (.slice e) K=K.f (.i .i64 len):=id rfl
theorem CZ{e:TypeId}{K:Sl SV}:Ox .cQ (.slice e) K=K.f (.i .i64 0):=id rfl
theorem B7{x:Operand}:pw P te wr nt pt g c st ⟨dst,.move x,ty,pos,after,gd⟩ K=gk nt st dst (gz g c (st.ev x)) K:=id rfl
theorem xj{x:Operand}:pw P te wr nt pt g c st ⟨dst,.assign x,ty,pos,after,gd⟩ K=gk nt st dst (gz g c (st.ev x)) K:=id rfl
theorem B8{e a b:Operand}:pw P te wr nt pt g c st ⟨dst,.pick e a b,ty,pos,after,gd⟩ K=jD c (st.ev e) ⟨fun h=>V2 h ⟨fun i=>jD (c&&i) (st.ev a) ⟨fun d=>jD (c&&!i) (st.ev b) ⟨fun f=>V2 d ⟨fun x=>V2 f ⟨fun y=>gk nt st dst (gz g c (.b (bif i then x else y))) K,⟨⟩⟩,⟨⟩⟩,⟨⟩⟩,⟨⟩⟩,⟨⟩⟩,⟨⟩⟩:=by
 show(j9 c (st.ev e) _)=j9 c (st.ev e) _;congr;funext h;cases h<;>try rfl
 show j9 _ _ _=j9 _ _ _;congr;funext d;show j9 _ _ _=j9 _ _ _;congr;funext f;cases d<;>cases f<;>rfl
theorem qQ{s:TypeId}{x:Operand}{f:Nat}:pw P te wr nt pt g c st ⟨dst,.fieldAddr s x f,ty,pos,after,gd⟩ K=jD c (st.ev x) ⟨fun v=>FY v ⟨fun p=>oW (dP te s) ⟨fun fs=>rn fs[f]? ⟨fun q=>te q.1≠none/\gW te q.1≠0/\gk nt st dst (gz g c (.ptr p.1 p.2.1 (p.2.2+q.2))) K,⟨⟩⟩,⟨⟩⟩,⟨⟩⟩ ⟨fun p=>oW (dP te s) ⟨fun fs=>rn fs[f]? ⟨fun q=>te q.1≠none/\gW te q.1≠0/\gk nt st dst (gz g c (.fp p.1 (p.2+q.2))) K,⟨⟩⟩,⟨⟩⟩,⟨⟩⟩,⟨⟩⟩:=by
 show(j9 c (st.ev x) _)=j9 c (st.ev x) _;congr;funext v;cases v<;>try rfl
 all_goals
  simp only[FY];cases dP te s<;>try rfl
  rename_i fs;simp only[oW];cases fs[f]?<;>rfl
theorem qR{t:TypeId}{x a:Operand}:pw P te wr nt pt g c st ⟨dst,.indexAddr t x a,ty,pos,after,gd⟩ K=jD c (st.ev x) ⟨fun v=>jD c (st.ev a) ⟨fun m=>J1 m ⟨fun n=>ks (dP te t) ⟨fun e=>QZ v ⟨fun p=>rn (st.ctx.at p.1) ⟨fun o=>o.isMap=false/\te e≠none/\gW te e=o.sz/\bH (c=true->0<=n.2/\n.2<p.2.2) (gk nt st dst (gz g c (.ptr p.1 (p.2.1+n.2.toNat) 0)) K),⟨⟩⟩,⟨⟩⟩ ⟨fun p=>te e≠none/\gW te e=p.1/\bH (c=true->0<=n.2/\n.2<p.2.length) (gk nt st dst (gz g c (.fp (p.2.getD n.2.toNat (zeroOf te e)) 0)) K),⟨⟩⟩,⟨⟩⟩,⟨⟩⟩,⟨⟩⟩,⟨⟩⟩:=by
 show(j9 c (st.ev x) _)=j9 c (st.ev x) _;congr;funext v;show j9 _ _ _=j9 _ _ _;congr;funext m;cases v<;>cases m<;>(try rfl)<;>simp only[J1,QZ]<;>cases dP te t<;>(try rfl)<;>simp only[ks]
 rename_i h b len k n e;cases st.ctx.at h<;>simp[rn,fe,gz,gk]
theorem yU{t:TypeId}{x a:Operand}:pw P te wr nt pt g c st ⟨dst,.index t x a,ty,pos,after,gd⟩ K=jD c (st.ev x) ⟨fun v=>jD c (st.ev a) ⟨fun m=>WL v ⟨fun l=>J1 m ⟨fun n=>yc (xA (dP te t)) (bH (c=true->0<=n.2/\n.2<l.length) (gk nt st dst (gz g c (.i .u8 (l.getD n.2.toNat 0).toNat)) K)) False ⟨⟩,⟨⟩⟩,⟨⟩⟩,⟨⟩⟩,⟨⟩⟩:=by show(j9 c (st.ev x) _)=j9 c (st.ev x) _;congr;funext v;show j9 _ _ _=j9 _ _ _;congr;funext m;cases v<;>cases m<;>(try rfl)<;>simp only[J1,WL]<;>cases dP te t<;>simp[yc,xA,gz,gk]
theorem uz{x:Operand}{i:Nat}:pw P te wr nt pt g c st ⟨dst,.extract x i,ty,pos,after,gd⟩ K=jD c (st.ev x) ⟨fun v=>Sp v ⟨fun l=>i<l.length/\gk nt st dst (gz g c (l.getD i .u)) K,⟨⟩⟩,⟨⟩⟩:=by
 show(j9 c (st.ev x) _)=j9 c (st.ev x) _;first
  |rfl
  |(congr;funext v;cases v<;>rfl)
theorem Fp{t:TypeId}{x:Operand}:pw P te wr nt pt g c st ⟨dst,.unOp .not t x,ty,pos,after,gd⟩ K=jD c (st.ev x) ⟨fun v=>V2 v ⟨fun b=>gk nt st dst (gz g c (.b (!b))) K,⟨⟩⟩,⟨⟩⟩:=by
 show(j9 c (st.ev x) _)=j9 c (st.ev x) _;first
  |rfl
  |(congr;funext v;cases v<;>rfl)
theorem Fo{t:TypeId}{x:Operand}:pw P te wr nt pt g c st ⟨dst,.unOp .neg t x,ty,pos,after,gd⟩ K=jD c (st.ev x) ⟨fun v=>J1 v ⟨fun n=>bH (c=true->iU n.1 (0-n.2)) (gk nt st dst (gz g c (.i n.1 (0-n.2))) K),⟨⟩⟩,⟨⟩⟩:=by
 show(j9 c (st.ev x) _)=j9 c (st.ev x) _;first
  |rfl
  |(congr;funext v;cases v<;>rfl)
theorem yS{op:BinOp}{t a:TypeId}{x y:Operand}:pw P te wr nt pt g c st ⟨dst,.binOp op t x y a,ty,pos,after,gd⟩ K=jD c (st.ev x) ⟨fun v=>jD c (st.ev y) ⟨fun y=>gK te t wr c op v y ⟨fun z=>gk nt st dst (gz g c (z)) K,⟨⟩⟩,⟨⟩⟩,⟨⟩⟩:=id rfl
def Bn(te:TE)(t:TypeId)(st:St)(c:Bool)(x:SV)(b a:Option Operand)(K:Sl SV):Prop:=Je te t st c x b a K.f
theorem yW{t:TypeId}{x:Operand}{b a:Option Operand}:pw P te wr nt pt g c st ⟨dst,.slice t x b a none,ty,pos,after,gd⟩ K=jD c (st.ev x) ⟨fun v=>Bn te t st c v b a ⟨fun z=>gk nt st dst (gz g c (z)) K,⟨⟩⟩,⟨⟩⟩:=id rfl
theorem Fk{x:Operand}{t:TypeId}:pw P te wr nt pt g c st ⟨dst,.call { callee:=.builtin .len,args:=#[x],argTypes:=#[t] },ty,pos,after,gd⟩ K=jD c (st.ev x) ⟨fun v=>Ox v (dP te t) ⟨fun z=>gk nt st dst (gz g c (z)) K,⟨⟩⟩,⟨⟩⟩:=by
 show(j9 c (st.ev x) _)=j9 c (st.ev x) _;first
  |rfl
  |(congr;funext v;cases v<;>cases dP te t<;>rfl)
theorem B6{t:TypeId}{x:Operand}:pw P te wr nt pt g c st ⟨dst,.load t x,ty,pos,after,gd⟩ K=jD c (st.ev x) ⟨fun v=>FY v ⟨fun p=>rn (st.ctx.at p.1) ⟨fun a=>rn (te t) ⟨fun ti=>a.isMap=false/\ti.td≠.other/\yc ti.td.eT (p.2.2+ti.size<=a.sz/\(a.el p.2.1).length=a.sz/\bH (c=true->p.2.1<a.n) (gk nt st dst (gz g c (.agg (((a.el p.2.1).drop p.2.2).take ti.size))) K)) (p.2.2<a.sz/\bH (c=true->p.2.1<a.n) (gk nt st dst (gz g c ((a.el p.2.1).getD p.2.2 .u)) K)) ⟨⟩,⟨⟩⟩,⟨⟩⟩,⟨⟩⟩ ⟨fun p=>rn (te t) ⟨fun ti=>ti.td≠.other/\yc ti.td.eT (bH (c=true->p.2+ti.size<=p.1.length) (gk nt st dst (gz g c (.agg ((p.1.drop p.2).take ti.size))) K)) (bH (c=true->p.2<p.1.length) (gk nt st dst (gz g c (p.1.getD p.2 .u)) K)) ⟨⟩,⟨⟩⟩,⟨⟩⟩,⟨⟩⟩:=by
 show(j9 c (st.ev x) _)=j9 c (st.ev x) _;congr;funext v;cases v<;>try rfl
 ·simp only[FY];rename_i h i k;cases st.ctx.at h<;>try rfl
  cases te t<;>rfl
 simp only[FY];cases te t<;>rfl
theorem Fj{t:TypeId}{x:Operand}:pw P te wr nt pt false c st ⟨dst,.box t x,ty,pos,after,gd⟩ K=(iV (st.ev x)=true/\gk nt (st.fA (.gA false (cellsOf (st.ev x)))) dst (.ptr st.ctx.length 0 0) K):=by show(false=false/\_)=_;simp only[cP];rfl
theorem yR{t:TypeId}:pw P te wr nt pt false c st ⟨dst,.alloc t,ty,pos,after,gd⟩ K=rn (te t) ⟨fun ti=>gk nt (st.fA (.gA false ti.zero)) dst (.ptr st.ctx.length 0 0) K,⟨⟩⟩:=by show(false=false/\_)=_;simp only[cP];show(match te t with|some ti=>_|none=>False)=_;cases te t<;>rfl
theorem yX{t:TypeId}{x y:Operand}:pw P te wr nt pt false c st ⟨dst,.store t x y,ty,pos,after,gd⟩ K=NJ (st.ev x) ⟨fun p=>rn (st.ctx.at p.1) ⟨fun b=>rn (te t) ⟨fun ti=>b.isMap=false/\b.ro=false/\iV (st.ev y)=true/\(cellsOf (st.ev y)).length=ti.size/\(cellsOf (st.ev y)).all gB=true/\(b.el p.2.1).length=b.sz/\p.2.2+ti.size<=b.sz/\bH (p.2.1<b.n) (gk nt (st.setObj p.1 (some (b.put p.2.1 p.2.2 (cellsOf (st.ev y))))) dst .u K),⟨⟩⟩,⟨⟩⟩,⟨⟩⟩:=by
 show(false=false/\_)=_;simp only[cP];show pv te st (.store t x y) _=_;simp only[pv];cases st.ev x<;>try rfl
 simp only[NJ];rename_i h i k;cases st.ctx.at h<;>try rfl
 cases te t<;>rfl
def KC(t:Option (Prop×SV))(c gr:Bool)(args:List SV)(ctx:dZ)(K:Sl SV):Prop:=match t with
 |some (p,z)=>ri (stripL args) z gr=true/\bH (c=true->BA args/\iJ ctx (stripL args)/\p) (K.f z)
 |none=>False
theorem zZ{p:Prop}{z:SV}{gr:Bool}{args:List SV}{ctx:dZ}{K:Sl SV}:KC (some (p,z)) c gr args ctx K=(ri (stripL args) z gr=true/\bH (c=true->BA args/\iJ ctx (stripL args)/\p) (K.f z)):=id rfl
def zY(P:Program)(t:Option PE)(f:FuncId)(args:List SV)(kk:Nat)(gr:Bool)(st:St)(g c:Bool)(K:Sl SV)(a:Sl (SV×St)):Prop:=match t with
 |some e=>KC (e (iT st.ctx (stripL args))) c gr args st.ctx K
 |none=>g=false/\gr=true/\eS P f args kk st a
theorem xN{P:Program}{e:PE}{f:FuncId}{args:List SV}{kk:Nat}{gr:Bool}{K:Sl SV}{a:Sl (SV×St)}:zY P (some e) f args kk gr st g c K a=KC (e (iT st.ctx (stripL args))) c gr args st.ctx K:=id rfl
theorem xM{P:Program}{f:FuncId}{args:List SV}{kk:Nat}{K:Sl SV}{a:Sl (SV×St)}:zY P none f args kk true st false c K a=eS P f args kk st a:=by simp[zY]
theorem B5{f:FuncId}{args:Array Operand}{a:Array TypeId}:pw P te wr nt pt g c st ⟨dst,.call { callee:=.value (.func f),args:=args,argTypes:=a },ty,pos,after,gd⟩ K=zY P (AL pt f) f (args.toList.map st.ev) pt.k pt.gr st g c ⟨fun z=>gk nt st dst (gz g c (z)) K,⟨⟩⟩ ⟨fun p=>gk nt p.2 dst p.1 K,⟨⟩⟩:=by
 show(match AL pt f with
   |some t=>match t (iT st.ctx (stripL (args.toList.map st.ev)))with
    |some (p,z)=>ri (stripL (args.toList.map st.ev)) z pt.gr=true/\bH (c=true->BA (args.toList.map st.ev)/\iJ st.ctx (stripL (args.toList.map st.ev))/\p) (qL nt st dst (if g then nF c z else z) K.f)
    |none=>False
   |none=>g=false/\pt.gr=true/\qm P f (args.toList.map st.ev) pt.k st fun z st'=>qL nt st' dst z K.f)=_
 cases AL pt f with
 |none=>rfl
 |some e=>simp only[zY,KC];cases e (iT st.ctx (stripL (args.toList.map st.ev)))<;>rfl
theorem sP{x:Operand}:pw P te wr nt pt g c st ⟨dst,.nilCheck x,ty,pos,after,gd⟩ K=jD c (st.ev x) ⟨fun v=>FY v ⟨fun p=>gk nt st dst (gz g c (.ptr p.1 p.2.1 p.2.2)) K,⟨⟩⟩ ⟨fun p=>gk nt st dst (gz g c (.fp p.1 p.2)) K,⟨⟩⟩,⟨⟩⟩:=by
 show(j9 c (st.ev x) _)=j9 c (st.ev x) _;first
  |rfl
  |(congr;funext v;cases v<;>rfl)
theorem Fm{x y:Operand}{a:Array TypeId}:pw P te wr nt pt g c st ⟨dst,.call { callee:=.builtin .min,args:=#[x,y],argTypes:=a },ty,pos,after,gd⟩ K=jD c (st.ev x) ⟨fun v=>jD c (st.ev y) ⟨fun w=>J1 v ⟨fun p=>J1 w ⟨fun q=>gk nt st dst (gz g c (.i p.1 (if q.2<p.2 then q.2 else p.2))) K,⟨⟩⟩,⟨⟩⟩,⟨⟩⟩,⟨⟩⟩:=by show(j9 c (st.ev x) _)=j9 c (st.ev x) _;congr;funext v;show j9 _ _ _=j9 _ _ _;congr;funext w;cases v<;>cases w<;>rfl
theorem Fl{x y:Operand}{a:Array TypeId}:pw P te wr nt pt g c st ⟨dst,.call { callee:=.builtin .max,args:=#[x,y],argTypes:=a },ty,pos,after,gd⟩ K=jD c (st.ev x) ⟨fun v=>jD c (st.ev y) ⟨fun w=>J1 v ⟨fun p=>J1 w ⟨fun q=>gk nt st dst (gz g c (.i p.1 (if q.2>p.2 then q.2 else p.2))) K,⟨⟩⟩,⟨⟩⟩,⟨⟩⟩,⟨⟩⟩:=by show(j9 c (st.ev x) _)=j9 c (st.ev x) _;congr;funext v;show j9 _ _ _=j9 _ _ _;congr;funext w;cases v<;>cases w<;>rfl
theorem yT{t:TypeId}{parts:Array (Nat×Operand)}:pw P te wr nt pt g c st ⟨dst,.build t parts,ty,pos,after,gd⟩ K=rn (te t) ⟨fun ti=>oW ti.td ⟨fun fs=>(parts.toList.all fun p=>iV (st.ev p.2))=true/\(fs.all fun p=>(te p.1).isSome)=true/\rn (rc te fs ti.zero (parts.toList.map fun p=>(p.1,st.ev p.2))) ⟨fun l=>gk nt st dst (gz g c (.agg l)) K,⟨⟩⟩,⟨⟩⟩,⟨⟩⟩:=by
 simp only[pw,py,eG,Bp];cases te t with
 |none=>rfl
 |some ti=>
  simp only[rn];cases ti.td<;>try rfl
  rename_i fs;simp only[oW,rn];cases rc te fs ti.zero (parts.toList.map fun p=>(p.1,st.ev p.2))<;>rfl
def y7(st:St)(c:Bool)(o:Option Operand)(d:Int)(K:Sl Int):Prop:=Bu st c o d K.f
theorem Ca{d:Int}{K:Sl Int}:y7 st c none d K=K.f d:=id rfl
theorem Cb{x:Operand}{d:Int}{K:Sl Int}:y7 st c (some x) d K=jD c (st.ev x) ⟨fun v=>J1 v ⟨fun n=>K.f n.2,⟨⟩⟩,⟨⟩⟩:=by
 simp only[y7,Bu,jD];first
  |rfl
  |(congr;done)
  |(congr;funext v;cases v<;>rfl)
theorem LJ{t:TypeId}{l:List UInt8}{d a:Option Operand}{K:Sl SV}:Bn te t st c (.s l) d a K=yc (xA (dP te t)) (y7 st c a l.length ⟨fun h=>y7 st c d 0 ⟨fun b=>bH (c=true->0<=b/\b<=h/\h<=l.length) (K.f (.s ((l.take h.toNat).drop b.toNat))),⟨⟩⟩,⟨⟩⟩) False ⟨⟩:=by simp only[Bn,Je];cases dP te t<;>simp[yc,xA,y7]
theorem Dx{t:TypeId}{h a len:Nat}{f d:Option Operand}{K:Sl SV}:Bn te t st c (.ew h a len) f d K=ks (dP te t) ⟨fun e=>rn (st.ctx.at h) ⟨fun o=>o.isMap=false/\te e≠none/\gW te e=o.sz /\
   y7 st c d len ⟨fun y=>y7 st c f 0 ⟨fun b=>bH (c=true->0<=b/\b<=y/\y<=len) (K.f (.ew h (a+b.toNat) (y.toNat-b.toNat))),⟨⟩⟩,⟨⟩⟩,⟨⟩⟩,⟨⟩⟩:=by
 simp only[Bn,Je];cases dP te t<;>try rfl
 simp only[ks];cases st.ctx.at h<;>simp[rn,y7,fe]
theorem Hy{t:TypeId}{z:Nat}{l:List (List SV)}{d a:Option Operand}{K:Sl SV}:Bn te t st c (.fs z l) d a K=ks (dP te t) ⟨fun e=>te e≠none/\gW te e=z /\
   y7 st c a l.length ⟨fun y=>y7 st c d 0 ⟨fun b=>bH (c=true->0<=b/\b<=y/\y<=l.length) (K.f (.fs z ((l.take y.toNat).drop b.toNat))),⟨⟩⟩,⟨⟩⟩,⟨⟩⟩:=by
 simp only[Bn,Je];cases dP te t<;>try rfl
def z1(a b:TD)(e d f:Prop)(t:px e d)(h:px d f):Prop:=match a,b with
 | .slice _,.str=>d
 | .slice _,.slice _=>f
 |_,_=>e
theorem Gn{a b:TypeId}{f d e:Prop}{t:px f d}{h:px d e}:z1 (.slice a) (.slice b) f d e t h=e:=id rfl
theorem Gp{a:TypeId}{d b e:Prop}{t:px d b}{f:px b e}:z1 (.slice a) .str d b e t f=b:=id rfl
theorem Gl{a b:IntKind}{d e f:Prop}{t:px d e}{h:px e f}:z1 (.int a) (.int b) d e f t h=d:=id rfl
theorem Gm{a:IntKind}{b d e:Prop}{t:px b d}{f:px d e}:z1 (.int a) .str b d e t f=b:=id rfl
theorem Gq{a b d:Prop}{t:px a b}{e:px b d}:z1 .str .str a b d t e=a:=id rfl
def sc(te:TE)(wr c:Bool)(td:TD)(x:SV)(K:Sl SV):Prop:=match td,x with
 | .int k,.i _ n=>if wr then K.f (.i k (k.wrap n))else bH (c=true->iU k n) (K.f (.i k n))
 | .str,.s l=>K.f (.s l)
 | .str,.i _ n=>K.f (.s (Utf8.encode n).data.toList)
 |_,_=>False
theorem Hv{k a:IntKind}{n:Int}{K:Sl SV}:sc te false c (.int k) (.i a n) K=bH (c=true->iU k n) (K.f (.i k n)):=by simp[sc]
theorem Dw{k a:IntKind}{n:Int}{K:Sl SV}:sc te true c (.int k) (.i a n) K=K.f (.i k (k.wrap n)):=by simp[sc]
theorem Hw{l:List UInt8}{K:Sl SV}:sc te wr c .str (.s l) K=K.f (.s l):=id rfl
theorem Hx{k:IntKind}{n:Int}{K:Sl SV}:sc te wr c .str (.i k n) K=K.f (.s (Utf8.encode n).data.toList):=id rfl
def Mc(te:TE)(a:TD)(ctx:dZ)(c:Bool)(v:SV)(K:Sl SV):Prop:=match v,a with
 | .ew h b len,.slice e=>jK te e=true/\(match ctx.at h with
   |some (.row ro sz n f)=>sz=1/\(∀j,j<len->qH ((f (b+j)).getD 0 .u)=true)/\bH (c=true->b+len<=n) (K.f (.s (iz f b len)))
   |_=>False)
 | .cQ,.slice e=>jK te e=true/\K.f (.s [])
 | .fs sz l,.slice e=>jK te e=true/\sz=1/\bH (c=true->∀x∈l,qH (x.getD 0 .u)=true) (K.f (.s (kV l)))
 |_,_=>False
theorem KH{sz:Nat}{l:List (List SV)}{e:TypeId}{ctx:dZ}{K:Sl SV}:Mc te (.slice e) ctx c (.fs sz l) K=(jK te e=true/\sz=1/\bH (c=true->∀x∈l,qH (x.getD 0 .u)=true) (K.f (.s (kV l)))):=id rfl
def NK(o:Option SO)(K:Sl (Nat×Nat×(Nat->List SV))):Prop:=match o with
 |some (.row _ sz n f)=>K.f (sz,n,f)
 |_=>False
theorem CD{r:Bool}{sz n:Nat}{f:Nat->List SV}{K:Sl (Nat×Nat×(Nat->List SV))}:NK (some (.row r sz n f)) K=K.f (sz,n,f):=id rfl
theorem Gv{h a len:Nat}{e:TypeId}{ctx:dZ}{K:Sl SV}:Mc te (.slice e) ctx c (.ew h a len) K=(jK te e=true/\NK (ctx.at h) ⟨fun p=>p.1=1/\(∀j,j<len->qH ((p.2.2 (a+j)).getD 0 .u)=true)/\bH (c=true->a+len<=p.2.1) (K.f (.s (iz p.2.2 a len))),⟨⟩⟩):=by
 simp only[Mc];rcases ctx.at h with _|o
 ·rfl
 cases o<;>rfl
theorem C1{e:TypeId}{ctx:dZ}{K:Sl SV}:Mc te (.slice e) ctx c .cQ K=(jK te e=true/\K.f (.s [])):=id rfl
theorem uy{s d:TypeId}{x:Operand}:pw P te wr nt pt g c st ⟨dst,.convert s d x,ty,pos,after,gd⟩ K=z1 (dP te s) (dP te d) (te s≠none/\jD c (st.ev x) ⟨fun v=>sc te wr c (dP te d) v ⟨fun z=>gk nt st dst (gz g c (z)) K,⟨⟩⟩,⟨⟩⟩) (jD c (st.ev x) ⟨fun v=>Mc te (dP te s) st.ctx c v ⟨fun z=>gk nt st dst (gz g c (z)) K,⟨⟩⟩,⟨⟩⟩) (g=false/\pv te st (.convert s d x) fun z st'=>qL nt st' dst z K.f) ⟨⟩ ⟨⟩:=by
 simp only[pw,py,eG];cases a:dP te s<;>cases hd:dP te d<;>simp only[z1,Bp,sc,hd]
 case slice.str e=>
  simp only[vE,jD];congr 1;funext v;cases v<;>simp only[Mc,a,hd]<;>rfl
 all_goals(congr 1;simp only[jD];congr 1;funext v;cases v<;>simp only[LI,hd]<;>rfl)
theorem qn{t:TypeId}{len:Nat}{parts:Array (Nat×Operand)}:pw P te wr nt pt false c st ⟨dst,.buildSlice t len parts,ty,pos,after,gd⟩ K=ks (dP te t) ⟨fun e=>rn (te e) ⟨fun ti=>ti.zero.length=ti.size/\len*ti.size<=16777216/\(parts.toList.all fun p=>iV (st.ev p.2))=true/\rn (qo ti.size (nH ti.zero len) (parts.toList.map fun p=>(p.1,st.ev p.2))) ⟨fun l=>gk nt (st.fA (.row false ti.size len (fF l ti.size))) dst (.ew st.ctx.length 0 len) K,⟨⟩⟩,⟨⟩⟩,⟨⟩⟩:=by
 simp only[pw,py,eG,cP,pv];cases dP te t<;>try rfl
 rename_i e;simp only[ks];cases te e with
 |none=>rfl
 |some ti=>simp only[rn];cases qo ti.size (nH ti.zero len) (parts.toList.map fun p=>(p.1,st.ev p.2))<;>rfl
theorem qS{t:TypeId}{l m:Operand}:pw P te wr nt pt false c st ⟨dst,.makeSlice t l m,ty,pos,after,gd⟩ K=ks (dP te t) ⟨fun e=>J1 (st.ev l) ⟨fun n=>J1 (st.ev m) ⟨fun q=>n.1=.i64/\q.1=.i64/\rn (te e) ⟨fun ti=>ti.zero.length=ti.size/\bH (0<=n.2/\n.2<=q.2/\q.2*ti.bytes<=281474976710656/\q.2<=281474976710656) (gk nt (st.fA (.row false ti.size n.2.toNat (fun _=>ti.zero))) dst (.ew st.ctx.length 0 n.2.toNat) K),⟨⟩⟩,⟨⟩⟩,⟨⟩⟩,⟨⟩⟩:=by
 simp only[pw,py,eG,cP,pv];cases dP te t<;>try rfl
 rename_i e;simp only[ks];cases st.ev l<;>try rfl
 rename_i k n;cases st.ev m<;>try(cases k<;>rfl)
 rename_i b d;simp only[J1];cases a:te e with
 |none=>cases k<;>cases b<;>simp[rn,a]
 |some ti=>cases k<;>cases b<;>simp[rn,gk,a]
def xz:TD->Bool
 | .slice _=>true
 | .str=>true
 |_=>false
def Iw(st:St)(sz:Nat)(u8:Bool)(a:Nat)(x:SV)(K:Sl (Nat×(Nat->List SV))):Prop:=HC st sz u8 a x fun m f=>K.f (m,f)
theorem C0{sz a:Nat}{u8:Bool}{K:Sl (Nat×(Nat->List SV))}:Iw st sz u8 a .cQ K=K.f (0,fun _=>[]):=id rfl
theorem KG{sz z a:Nat}{u8:Bool}{l:List (List SV)}{K:Sl (Nat×(Nat->List SV))}:Iw st sz u8 a (.fs z l) K=(z=sz/\(∀x∈l,x.all gB=true)/\K.f (l.length,fun j=>l.getD j [])):=id rfl
theorem OC{sz a:Nat}{u8:Bool}{l:List UInt8}{K:Sl (Nat×(Nat->List SV))}:Iw st sz u8 a (.s l) K=(u8=true/\sz=1/\K.f (l.length,fun j=>[.i .u8 (l.getD j 0).toNat])):=id rfl
theorem Gu{sz b h a m:Nat}{u8:Bool}{K:Sl (Nat×(Nat->List SV))}:Iw st sz u8 b (.ew h a m) K=NK (st.ctx.at h) ⟨fun p=>p.1=sz/\h≠b/\(∀j,j<m->(p.2.2 (a+j)).all gB=true/\(p.2.2 (a+j)).length=sz)/\bH (a+m<=p.2.1) (K.f (m,fun j=>p.2.2 (a+j))),⟨⟩⟩:=by
 simp only[Iw,HC];rcases st.ctx.at h with _|o
 ·rfl
 cases o<;>rfl
def NL(o:Option SO)(K:Sl (Nat×Nat×(Nat->List SV))):Prop:=match o with
 |some (.row false sz n f)=>K.f (sz,n,f)
 |_=>False
theorem zx{sz n:Nat}{f:Nat->List SV}{K:Sl (Nat×Nat×(Nat->List SV))}:NL (some (.row false sz n f)) K=K.f (sz,n,f):=id rfl
def Rn(te:TE)(st:St)(e:TypeId)(ti:TI)(s x:SV)(K:Sl (SV×St)):Prop:=match s with
   | .cQ=>HC st ti.size (jK te e) st.ctx.length x fun m g=>bH (m*ti.bytes<=140737488355328) (K.f (.ew st.ctx.length 0 m,st.fA (.row false ti.size m g)))
   | .ew h b len=>match st.ctx.at h with
    |some (.row false a n f)=>a=ti.size/\HC st ti.size (jK te e) h x fun m g=>bH (b+len<=n/\(len+m)*ti.bytes<=140737488355328)
      (K.f (.ew st.ctx.length 0 (len+m),(st.setObj h none).fA (.row false ti.size (len+m) (lm len (fun j=>f (b+j)) g))))
    |_=>False
   |_=>False
theorem CY{e:TypeId}{ti:TI}{x:SV}{K:Sl (SV×St)}:Rn te st e ti .cQ x K=Iw st ti.size (jK te e) st.ctx.length x ⟨fun q=>bH (q.1*ti.bytes<=140737488355328) (K.f (.ew st.ctx.length 0 q.1,st.fA (.row false ti.size q.1 q.2))),⟨⟩⟩:=id rfl
theorem Gk{e:TypeId}{ti:TI}{h a len:Nat}{x:SV}{K:Sl (SV×St)}:Rn te st e ti (.ew h a len) x K=NL (st.ctx.at h) ⟨fun p=>p.1=ti.size/\Iw st ti.size (jK te e) h x ⟨fun q=>bH (a+len<=p.2.1/\(len+q.1)*ti.bytes<=140737488355328)
      (K.f (.ew st.ctx.length 0 (len+q.1),(st.setObj h none).fA (.row false ti.size (len+q.1) (lm len (fun j=>p.2.2 (a+j)) q.2)))),⟨⟩⟩,⟨⟩⟩:=by
 simp only[Rn];rcases st.ctx.at h with _|o
 ·rfl
 cases o<;>rfl
theorem xi{s x:Operand}{t d:TypeId}:pw P te wr nt pt false c st ⟨dst,.call { callee:=.builtin .append,args:=#[s,x],argTypes:=#[t,d] },ty,pos,after,gd⟩ K=(xz (dP te d)=true/\ks (dP te t) ⟨fun e=>rn (te e) ⟨fun ti=>ti.zero.length=ti.size/\ti.bytes≠0/\Rn te st e ti (st.ev s) (st.ev x) ⟨fun p=>gk nt p.2 dst p.1 K,⟨⟩⟩,⟨⟩⟩,⟨⟩⟩):=by
 simp only[pw,py,eG,cP,pv,yP];have h:∀(p q:Prop),p=q->∀(a b:Prop),a=b->(p/\a)=(q/\b):=by intro p q e a b f;rw[e,f]
 refine h _ _ ?_ _ _ ?_
 ·cases dP te d<;>simp[xz]
 cases dP te t<;>try rfl
 rename_i e;simp only[ks];cases te e<;>rfl
def Oz(te:TE)(c ok:Bool)(st:St)(t:TypeId)(v y:SV)(K:Sl SV):Prop:=match v,y with
  | .mp h,.s s=>match st.ctx.at h,dP te t with
   |some (.jY l),.map a b=>dP te a=.str/\te b=some ⟨.int .i64,1,8,[.i .i64 0],false⟩/\se c ok (lookS l s) K.f
   |_,_=>False
  | .mp h,.i .i64 s=>match st.ctx.at h,dP te t with
   |some (.nE l),.map a b=>dP te a=.int .i64/\te b=some ⟨.int .i64,1,8,[.i .i64 0],false⟩/\se c ok (lookS l s) K.f
   |_,_=>False
  |_,_=>False
def OB(te:TE)(ok:Bool)(o:Option SO)(d:TD)(s:List UInt8)(K:Sl SV):Prop:=match o,d with
 |some (.jY l),.map a b=>dP te a=.str/\te b=some ⟨.int .i64,1,8,[.i .i64 0],false⟩/\se true ok (lookS l s) K.f
 |_,_=>False
def OA(te:TE)(ok:Bool)(o:Option SO)(d:TD)(s:Int)(K:Sl SV):Prop:=match o,d with
 |some (.nE l),.map a b=>dP te a=.int .i64/\te b=some ⟨.int .i64,1,8,[.i .i64 0],false⟩/\se true ok (lookS l s) K.f
 |_,_=>False
def xf(ok:Bool)(r:Option Int)(K:Sl SV):Prop:=se true ok r K.f
theorem HB{r:Option Int}{K:Sl SV}:xf true r K=K.f (.fJ [.i .i64 (r.getD 0),.b r.isSome]):=by simp[xf,se]
theorem HA{r:Option Int}{K:Sl SV}:xf false r K=K.f (.i .i64 (r.getD 0)):=by simp[xf,se]
theorem KF{ok:Bool}{t:TypeId}{h:Nat}{s:List UInt8}{K:Sl SV}:Oz te c ok st t (.mp h) (.s s) K=OB te ok (st.ctx.at h) (dP te t) s K:=id rfl
theorem KE{ok:Bool}{t:TypeId}{h:Nat}{s:Int}{K:Sl SV}:Oz te c ok st t (.mp h) (.i .i64 s) K=OA te ok (st.ctx.at h) (dP te t) s K:=id rfl
theorem Gt{ok:Bool}{l:List (List UInt8×Int)}{a b:TypeId}{s:List UInt8}{K:Sl SV}:OB te ok (some (.jY l)) (.map a b) s K=(dP te a=.str/\te b=some ⟨.int .i64,1,8,[.i .i64 0],false⟩/\xf ok (lookS l s) K):=id rfl
theorem Gs{ok:Bool}{l:List (Int×Int)}{a b:TypeId}{s:Int}{K:Sl SV}:OA te ok (some (.nE l)) (.map a b) s K=(dP te a=.int .i64/\te b=some ⟨.int .i64,1,8,[.i .i64 0],false⟩/\xf ok (lookS l s) K):=id rfl
theorem xl{t:TypeId}{m k:Operand}{ok:Bool}:pw P te wr nt pt g c st ⟨dst,.lookup t m k ok,ty,pos,after,gd⟩ K=jD c (st.ev m) ⟨fun v=>jD c (st.ev k) ⟨fun y=>Oz te c ok st t v y ⟨fun z=>gk nt st dst (gz g c (z)) K,⟨⟩⟩,⟨⟩⟩,⟨⟩⟩:=id rfl
def KK(te:TE)(o:Option SO)(a:TypeId)(s:List UInt8)(v:Int)(K:Sl SO):Prop:=match o with
 |some (.jY l)=>dP te a=.str/\K.f (.jY (updS l s v))
 |_=>False
def KI(te:TE)(o:Option SO)(a:TypeId)(s:Int)(v:Int)(K:Sl SO):Prop:=match o with
 |some (.nE l)=>dP te a=.int .i64/\K.f (.nE (updS l s v))
 |_=>False
theorem KL{l:List (List UInt8×Int)}{a:TypeId}{s:List UInt8}{v:Int}{K:Sl SO}:KK te (some (.jY l)) a s v K=(dP te a=.str/\K.f (.jY (updS l s v))):=id rfl
theorem KJ{l:List (Int×Int)}{a:TypeId}{s v:Int}{K:Sl SO}:KI te (some (.nE l)) a s v K=(dP te a=.int .i64/\K.f (.nE (updS l s v))):=id rfl
def Ix(te:TE)(st:St)(m k x:SV)(d:TD)(K:Sl St):Prop:=match m,k,x,d with
  | .mp h,.s s,.i .i64 v,.map a b=>KK te (st.ctx.at h) a s v ⟨fun o=>K.f (st.setObj h (some o)),⟨⟩⟩
  | .mp h,.i .i64 s,.i .i64 v,.map a b=>KI te (st.ctx.at h) a s v ⟨fun o=>K.f (st.setObj h (some o)),⟨⟩⟩
  |_,_,_,_=>False
theorem OE{h:Nat}{s:List UInt8}{v:Int}{a b:TypeId}{K:Sl St}:Ix te st (.mp h) (.s s) (.i .i64 v) (.map a b) K=KK te (st.ctx.at h) a s v ⟨fun o=>K.f (st.setObj h (some o)),⟨⟩⟩:=id rfl
theorem OD{h:Nat}{s v:Int}{a b:TypeId}{K:Sl St}:Ix te st (.mp h) (.i .i64 s) (.i .i64 v) (.map a b) K=KI te (st.ctx.at h) a s v ⟨fun o=>K.f (st.setObj h (some o)),⟨⟩⟩:=id rfl
theorem KM{t:TypeId}{m k x:Operand}{K:Sl St}(o:Op)(f:o=.mapUpdate t m k x\/o=.insert t m k x):pv te st o (fun z s=>K.f s)=Ix te st (st.ev m) (st.ev k) (st.ev x) (dP te t) K:=by
 have key:∀(o:Op),(o=.mapUpdate t m k x\/o=.insert t m k x)->pv te st o (fun z s=>K.f s)=Ix te st (st.ev m) (st.ev k) (st.ev x) (dP te t) K:=by
  intro o f;rcases f with rfl|rfl;all_goals
   simp only[pv,Ix];split
   ·rename_i j s v l p a b d e;simp only[a,b,d,e,KK];split<;>simp_all
   ·rename_i j s v l p a b d e;simp only[a,b,d,e,KI];split<;>simp_all
   rename_i h i;split
   ·rename_i a b d e;exact absurd e (h _ _ _ _ _ a b d)
   ·rename_i a b d e;exact absurd e (i _ _ _ _ _ a b d)
   rfl
 exact key o f
theorem qT{t:TypeId}{m k x:Operand}:pw P te wr nt pt false c st ⟨dst,.mapUpdate t m k x,ty,pos,after,gd⟩ K=Ix te st (st.ev m) (st.ev k) (st.ev x) (dP te t) ⟨fun s=>gk nt s dst .u K,⟨⟩⟩:=by show(false=false/\_)=_;simp only[cP];rw[<-KM (.mapUpdate t m k x) (.inl rfl)];simp only[pv];rfl
theorem xk{t:TypeId}{m k x:Operand}:pw P te wr nt pt false c st ⟨dst,.insert t m k x,ty,pos,after,gd⟩ K=Ix te st (st.ev m) (st.ev k) (st.ev x) (dP te t) ⟨fun s=>gk nt s dst .u K,⟨⟩⟩:=by show(false=false/\_)=_;simp only[cP];rw[<-KM (.insert t m k x) (.inr rfl)];simp only[pv];rfl
def WQ(a:TD)(st:St)(K:Sl (SV×St)):Prop:=match a with
 | .str=>K.f (.mp st.ctx.length,st.fA (.jY []))
 | .int .i64=>K.f (.mp st.ctx.length,st.fA (.nE []))
 |_=>False
theorem SD{K:Sl (SV×St)}:WQ .str st K=K.f (.mp st.ctx.length,st.fA (.jY [])):=id rfl
theorem SC{K:Sl (SV×St)}:WQ (.int .i64) st K=K.f (.mp st.ctx.length,st.fA (.nE [])):=id rfl
def Sn(d:TD)(K:Sl (TypeId×TypeId)):Prop:=match d with
 | .map k e=>K.f (k,e)
 |_=>False
theorem CB{k e:TypeId}{K:Sl (TypeId×TypeId)}:Sn (.map k e) K=K.f (k,e):=id rfl
def Kn(st:St):Option Operand->Prop
 |none=>True
 |some x=>match st.ev x with | .i _ _=>True|_=>False
theorem zO:Kn st none:=trivial
theorem CS{k:IntKind}{n:Int}:Kn st (some (.const (.int k n))):=by simp[Kn,St.ev,KO]
theorem uA{t:TypeId}{r:Option Operand}:pw P te wr nt pt false c st ⟨dst,.makeMap t r,ty,pos,after,gd⟩ K=(Kn st r/\Sn (dP te t) ⟨fun q=>WQ (dP te q.1) st ⟨fun p=>gk nt p.2 dst p.1 K,⟨⟩⟩,⟨⟩⟩):=by
 show(false=false/\_)=_;simp only[cP];show pv te st (.makeMap t r) _=_;simp only[pv];have f:∀(p q:Prop),p=q->∀(a b:Prop),a=b->(p/\a)=(q/\b):=by intro p q e a b d;rw[e,d]
 refine f _ _ ?_ _ _ ?_
 ·cases r<;>rfl
 cases dP te t<;>rfl
theorem Hm{t:TypeId}{k:IntKind}{a b:Int}{K:Sl SV}:gK te t false c .add (.i k a) (.i k b) K=bH (c=true->iU k (a+b)) (K.f (.i k (a+b))):=by simp[gK,nJ]
theorem A7{t:TypeId}{k:IntKind}{a b:Int}{K:Sl SV}:gK te t true c .add (.i k a) (.i k b) K=K.f (.i k (k.wrap (a+b))):=by simp[gK,nJ]
theorem Hs{t:TypeId}{k:IntKind}{a b:Int}{K:Sl SV}:gK te t false c .sub (.i k a) (.i k b) K=bH (c=true->iU k (a-b)) (K.f (.i k (a-b))):=by simp[gK,nJ]
theorem Bl{t:TypeId}{k:IntKind}{a b:Int}{K:Sl SV}:gK te t true c .sub (.i k a) (.i k b) K=K.f (.i k (k.wrap (a-b))):=by simp[gK,nJ]
theorem Ho{t:TypeId}{k:IntKind}{a b:Int}{K:Sl SV}:gK te t false c .mul (.i k a) (.i k b) K=bH (c=true->iU k (a*b)) (K.f (.i k (a*b))):=by simp[gK,nJ]
theorem Bg{t:TypeId}{k:IntKind}{a b:Int}{K:Sl SV}:gK te t true c .mul (.i k a) (.i k b) K=K.f (.i k (k.wrap (a*b))):=by simp[gK,nJ]
theorem Hp{t:TypeId}{k:IntKind}{a b:Int}{K:Sl SV}:gK te t wr c .quo (.i k a) (.i k b) K=(b≠0/\bH (c=true->iU k (a.tdiv b)) (K.f (.i k (a.tdiv b)))):=by simp[gK,nJ]
theorem Hq{t:TypeId}{k:IntKind}{a b:Int}{K:Sl SV}:gK te t wr c .rem (.i k a) (.i k b) K=bH (c=true->b≠0) (K.f (.i k (a.tmod b))):=by simp[gK,nJ]
theorem Hn{t:TypeId}{k:IntKind}{a b:Int}{K:Sl SV}:gK te t wr c .and (.i k a) (.i k b) K=K.f (.i k (k.wrap ((BitVec.ofInt k.bits a &&& BitVec.ofInt k.bits b).toNat))):=by simp[gK,nJ]
theorem Ht{t:TypeId}{k:IntKind}{a b:Int}{K:Sl SV}:gK te t wr c .xor (.i k a) (.i k b) K=K.f (.i k (k.wrap ((BitVec.ofInt k.bits a ^^^ BitVec.ofInt k.bits b).toNat))):=by simp[gK,nJ]
theorem Hr{t:TypeId}{k d:IntKind}{a b:Int}{K:Sl SV}:gK te t wr c .shr (.i k a) (.i d b) K=(0<=b/\K.f (.i k (a.fdiv (2 ^ (min b.toNat k.bits))))):=id rfl
theorem Ba{t:TypeId}{k:IntKind}{a b:Int}{K:Sl SV}:gK te t wr c .eql (.i k a) (.i k b) K=K.f (.b (decide (a=b))):=by simp[gK,nJ]
theorem Bj{t:TypeId}{k:IntKind}{a b:Int}{K:Sl SV}:gK te t wr c .neq (.i k a) (.i k b) K=K.f (.b (!decide (a=b))):=by simp[gK,nJ]
theorem Bf{t:TypeId}{k:IntKind}{a b:Int}{K:Sl SV}:gK te t wr c .lss (.i k a) (.i k b) K=K.f (.b (decide (a<b))):=by simp[gK,nJ]
theorem Be{t:TypeId}{k:IntKind}{a b:Int}{K:Sl SV}:gK te t wr c .leq (.i k a) (.i k b) K=K.f (.b (decide (a<=b))):=by simp[gK,nJ]
theorem Bd{t:TypeId}{k:IntKind}{a b:Int}{K:Sl SV}:gK te t wr c .gtr (.i k a) (.i k b) K=K.f (.b (decide (a>b))):=by simp[gK,nJ]
theorem Bc{t:TypeId}{k:IntKind}{a b:Int}{K:Sl SV}:gK te t wr c .geq (.i k a) (.i k b) K=K.f (.b (decide (a>=b))):=by simp[gK,nJ]
theorem A6{t:TypeId}{a b:List UInt8}{K:Sl SV}:gK te t wr c .add (.s a) (.s b) K=bH (c=true->a.length+b.length<=9223372036854775807) (K.f (.s (a++b))):=id rfl
theorem Bb{t:TypeId}{a b:List UInt8}{K:Sl SV}:gK te t wr c .eql (.s a) (.s b) K=K.f (.b (decide (a=b))):=id rfl
theorem Bk{t:TypeId}{a b:List UInt8}{K:Sl SV}:gK te t wr c .neq (.s a) (.s b) K=K.f (.b (!decide (a=b))):=id rfl
theorem A9{t:TypeId}{a b:Bool}{K:Sl SV}:gK te t wr c .eql (.b a) (.b b) K=(dP te t=.bool/\K.f (.b (a==b))):=id rfl
theorem Bi{t:TypeId}{a b:Bool}{K:Sl SV}:gK te t wr c .neq (.b a) (.b b) K=(dP te t=.bool/\K.f (.b (!(a==b)))):=id rfl
theorem A8{t:TypeId}{a b:List SV}{K:Sl SV}:gK te t wr c .eql (.agg a) (.agg b) K=rn (uI te 4 t (.agg a) (.agg b)) ⟨fun z=>K.f (.b z),⟨⟩⟩:=by simp only[gK,nJ];cases uI te 4 t (.agg a) (.agg b)<;>rfl
theorem Bh{t:TypeId}{a b:List SV}{K:Sl SV}:gK te t wr c .neq (.agg a) (.agg b) K=rn (uI te 4 t (.agg a) (.agg b)) ⟨fun z=>K.f (.b (!z)),⟨⟩⟩:=by simp only[gK,nJ];cases uI te 4 t (.agg a) (.agg b)<;>rfl
theorem C9{z:SV}:gk nt st none z K=K.f st:=id rfl
theorem Da{d:Tmp}{z:SV}:gk nt st (some d) z K=(d<nt/\K.f ⟨(d,z)::st.env,st.ctx⟩):=id rfl
theorem Ny{t:Tmp}:st.ev (.tmp t)=look st.env t:=id rfl
theorem Nt{k:IntKind}{n:Int}:st.ev (.const (.int k n))=.i k n:=id rfl
theorem JM{b:Bool}:st.ev (.const (.bool b))=.b b:=id rfl
theorem Nx{b:Array UInt8}:st.ev (.const (.string ⟨b⟩))=.s b.toList:=id rfl
theorem JO:st.ev (.const (.slice none 0 0))=.cQ:=id rfl
theorem JN{f:FuncId}:st.ev (.func f)=.fn f:=id rfl
theorem CN{u t:Tmp}{x:SV}{r:List (Tmp×SV)}:look ((u,x)::r) t=if u=t then x else look r t:=id rfl
theorem Lv{l:List Tmp}:trim l st=⟨l.map fun t=>(t,look st.env t),st.ctx⟩:=id rfl
theorem B9{o:SO}:st.fA o=⟨st.env,st.ctx++[some o]⟩:=id rfl
theorem Dj{h:Nat}{o:Option SO}:st.setObj h o=⟨st.env,st.ctx.set h o⟩:=id rfl
theorem GJ{f:FuncId}{g:PE}{r:List (FuncId×PE)}{k:Nat}{gr:Bool}:AL ⟨(f,g)::r,k,gr⟩ f=some g:=by simp[AL,C7]
theorem C8{f a:FuncId}{g:PE}{r:List (FuncId×PE)}{k:Nat}{gr:Bool}(h:(a==f)=false):AL ⟨(a,g)::r,k,gr⟩ f=AL ⟨r,k,gr⟩ f:=by simp only[gS,ne_eq]at h;simp[AL,C7,h]
theorem Ka{j i:Nat}{l:List Tmp}{r:List (Nat×List Tmp)}:kp ((j,l)::r) i=if j=i then l else kp r i:=id rfl
theorem GK{f:FuncId}{k:Nat}{gr:Bool}:AL ⟨[],k,gr⟩ f=none:=id rfl
end ops
end Go.Vg
