/- Own text: part VAB. -/
import Derived.Test.YtgippllfnmdnpaaGreatDoorVAA
import Derived.Laws.Entries
import Derived.Laws.Append
set_option linter.all false
section
namespace Go.Vg
variable[Go.Vg.df]
open Go.RowKit
def cellsOf:SV->List SV
 | .agg l=>l
 |x=>[x]
def rc(te:TE)(fs:List (TypeId×Nat))(cs:List SV):List (Nat×SV)->Option (List SV)
 |[]=>some cs
 |(i,x)::r=>match fs[i]? with
  |none=>none
  |some (t,off)=>match te t with
   |none=>none
   |some ti=>if(cellsOf x).length=ti.size/\off+ti.size<=cs.length then rc te fs (cs.take off++(cellsOf x++cs.drop (off+ti.size))) r else none
def iV:SV->Bool
 | .gd _ _ | .u | .fJ _=>false
 |_=>true
def LI(te:TE)(wr c:Bool)(d:TypeId)(x:SV)(K:SV->Prop):Prop:=
 match dP te d,x with
 | .int k,.i _ n=>if wr then K (.i k (k.wrap n))else bH (c=true->iU k n) (K (.i k n))
 | .str,.s l=>K (.s l)
 | .str,.i _ n=>K (.s (Utf8.encode n).data.toList)
 |_,_=>False
def Bu(st:St)(c:Bool)(o:Option Operand)(d:Int)(K:Int->Prop):Prop:=
 match o with
 |none=>K d
 |some x=>j9 c (st.ev x) fun v=>match v with
  | .i _ n=>K n
  |_=>False
def Je(te:TE)(t:TypeId)(st:St)(c:Bool)(x:SV)(f d:Option Operand)(K:SV->Prop):Prop:=
 match dP te t,x with
 | .str,.s l=>Bu st c d l.length fun h=>Bu st c f 0 fun b=>bH (c=true->0<=b/\b<=h/\h<=l.length) (K (.s ((l.take h.toNat).drop b.toNat)))
 | .slice e,.ew h a len=>(match st.ctx.at h with|some o=>o.isMap=false/\te e≠none/\gW te e=o.sz|none=>False) /\
   Bu st c d len fun y=>Bu st c f 0 fun b=>bH (c=true->0<=b/\b<=y/\y<=len) (K (.ew h (a+b.toNat) (y.toNat-b.toNat)))
 | .slice e,.fs sz l=>te e≠none/\gW te e=sz /\
   Bu st c d l.length fun y=>Bu st c f 0 fun b=>bH (c=true->0<=b/\b<=y/\y<=l.length) (K (.fs sz ((l.take y.toNat).drop b.toNat)))
 |_,_=>False
def Bp(te:TE)(wr c:Bool)(st:St)(o:Op)(K:SV->Prop):Prop:=
 match o with
 | .move x=>K (st.ev x)
 | .assign x=>K (st.ev x)
 | .pick e a b=>j9 c (st.ev e) fun B=>match B with
  | .b j=>j9 (c&&j) (st.ev a) fun z=>j9 (c&&!j) (st.ev b) fun A=>match z,A with
   | .b x,.b y=>K (.b (bif j then x else y))
   |_,_=>False
  |_=>False
 | .nilCheck x=>j9 c (st.ev x) fun v=>match v with
  | .ptr h i k=>K (.ptr h i k)
  | .fp l k=>K (.fp l k)
  |_=>False
 | .fieldAddr s x f=>j9 c (st.ev x) fun v=>match v,dP te s with
  | .ptr h i k,.struct fs=>match fs[f]? with
   |some (g,off)=>te g≠none/\gW te g≠0/\K (.ptr h i (k+off))
   |none=>False
  | .fp l k,.struct fs=>match fs[f]? with
   |some (g,off)=>te g≠none/\gW te g≠0/\K (.fp l (k+off))
   |none=>False
  |_,_=>False
 | .indexAddr t x m=>j9 c (st.ev x) fun v=>j9 c (st.ev m) fun n=>match v,n,dP te t with
  | .ew h r len,.i _ n,.slice e=>(match st.ctx.at h with|some o=>o.isMap=false/\te e≠none/\gW te e=o.sz|none=>False) /\
    bH (c=true->0<=n/\n<len) (K (.ptr h (r+n.toNat) 0))
  | .fs sz l,.i _ n,.slice e=>te e≠none/\gW te e=sz/\bH (c=true->0<=n/\n<l.length) (K (.fp (l.getD n.toNat (zeroOf te e)) 0))
  |_,_,_=>False
 | .index t x m=>j9 c (st.ev x) fun v=>j9 c (st.ev m) fun n=>match v,n,dP te t with
  | .s l,.i _ n,.str=>bH (c=true->0<=n/\n<l.length) (K (.i .u8 (l.getD n.toNat 0).toNat))
  |_,_,_=>False
 | .extract x i=>j9 c (st.ev x) fun v=>match v with
  | .fJ l=>i<l.length/\K (l.getD i .u)
  |_=>False
 | .binOp op t x y _=>j9 c (st.ev x) fun v=>j9 c (st.ev y) fun y=>nJ te t wr c op v y K
 | .unOp .not _ x=>j9 c (st.ev x) fun v=>match v with
  | .b b=>K (.b (!b))
  |_=>False
 | .unOp .neg _ x=>j9 c (st.ev x) fun v=>match v with
  | .i k n=>bH (c=true->iU k (0-n)) (K (.i k (0-n)))
  |_=>False
 | .convert s d x=>te s≠none/\j9 c (st.ev x) fun v=>LI te wr c d v K
 | .slice t x r C none=>j9 c (st.ev x) fun v=>Je te t st c v r C K
 | .build t parts=>match te t with
  |some ti=>match ti.td with
   | .struct fs=>(parts.toList.all fun p=>iV (st.ev p.2))=true/\(fs.all fun p=>(te p.1).isSome)=true /\
     match rc te fs ti.zero (parts.toList.map fun p=>(p.1,st.ev p.2))with
     |some l=>K (.agg l)
     |none=>False
   |_=>False
  |none=>False
 | .call { callee:=.builtin .len,args:=args,argTypes:=D }=>match args.toList,D.toList with
  |[x],[t]=>j9 c (st.ev x) fun v=>match v,dP te t with
   | .s l,.str=>K (.i .i64 l.length)
   | .ew _ _ len,.slice _=>K (.i .i64 len)
   | .fs _ l,.slice _=>K (.i .i64 l.length)
   | .cQ,.slice _=>K (.i .i64 0)
   |_,_=>False
  |_,_=>False
 | .call { callee:=.builtin .min,args:=args,argTypes:=_ }=>match args.toList with
  |[x,y]=>j9 c (st.ev x) fun v=>j9 c (st.ev y) fun q=>match v,q with
   | .i k a,.i _ b=>K (.i k (if b<a then b else a))
   |_,_=>False
  |_=>False
 | .call { callee:=.builtin .max,args:=args,argTypes:=_ }=>match args.toList with
  |[x,y]=>j9 c (st.ev x) fun v=>j9 c (st.ev y) fun q=>match v,q with
   | .i k a,.i _ b=>K (.i k (if b>a then b else a))
   |_,_=>False
  |_=>False
 |_=>False
def WI(P:Program)(σ:ey)(c:Bool)(s:Sem Next)(K:SV->Prop):Prop:=
 ∃z,K z/\(c=true->∃v,rel σ z v/\∀w,s.run P w=.ok (.value v) w)
theorem gH{P:Program}{s:Sem Value}{v:Value}{w w':World}(h:s.run P w=.ok v w') :
  ((do pure (Next.value (<-s))):Sem Next).run P w=.ok (.value v) w':=by simp[h]
theorem lx{P:Program}{A:kS}{σ:ey}{st:St}{a:Act}{w:World}(e:Rel A σ st a w){c:Bool}{o:Option Operand}{d:Int}{K:Int->Prop}(h:Bu st c o d K):∃n,K n/\(c=true->match o with|none=>n=d|some x=>∃k,a.eval x=.int k n):=by
 unfold Bu at h;cases o with
 |none=>exact⟨d,h,fun _=>rfl⟩
 |some x=>
  obtain⟨y,b,g⟩:=fH (e.ev x) h;split at b
  ·rename_i k n;refine⟨n,b,fun f=>⟨k, ?_⟩⟩;have:=g f;simpa only[rel]using this
  exact b.elim
theorem run_sliceBound{P:Program}(k:IntKind)(n:Int)(y:Nat)(code:BoundsCode)(w:World)(a:0<=n)(b:n<=y):(Instr.sliceBound (.int k n) y code).run P w=.ok n.toNat w:=by simp[Instr.sliceBound,asIntOf,a,b]
theorem ue{P:Program}(isSlice:Bool)(len cap:Nat)(c d:Option Value)(b y:Int)(w:World)(a:match c with|none=>b=0|some x=>∃k,x=.int k b)(g:match d with|none=>y=len|some x=>∃k,x=.int k y)(e:0<=b)(i:b<=y)(f:y<=cap):(Instr.sliceBounds isSlice len cap c d none).run P w=.ok (b.toNat,y.toNat,cap) w:=by
 unfold Instr.sliceBounds;cases d with
 |none=>
  subst g;cases c with
  |none=>subst a;simp
  |some x=>
   obtain⟨k,rfl⟩:=a;simp[run_sliceBound k b len _ w e i]
 |some z=>
  obtain⟨h,rfl⟩:=g;cases c with
  |none=>subst a;simp[run_sliceBound h y cap _ w (by omega) f]
  |some x=>obtain⟨k,rfl⟩:=a;simp[run_sliceBound h y cap _ w (by omega) f,run_sliceBound k b y.toNat _ w e (by omega)]
theorem y0(l:List UInt8)(a b:Nat):(ByteArray.mk l.toArray).extract a b=ByteArray.mk ((l.take b).drop a).toArray:=by ext1;simp[ByteArray.data_extract,List.extract_eq_take_drop,List.drop_take]
theorem Kf{P:Program}{te:TE}(n:hX P te){σ:ey}{w:World}{st:St}(m:Sat σ w st.ctx){h:Nat}{e:TypeId}(f:match st.ctx.at h with|some o=>o.isMap=false/\te e≠none/\gW te e=o.sz|none=>False) :
  ∃ti,te e=some ti/\∀L,σ h=some L->L.sz=ti.size:=by
 cases k:st.ctx.at h with
 |none=>rw[k]at f;exact f.elim
 |some o=>
  rw[k]at f;obtain⟨hm,j,a⟩:=f;obtain⟨ti,b⟩:=Option.ne_none_iff_exists'.1 j;refine⟨ti,b,fun L d=>?_⟩;have g:=m.obj h o k;unfold fh at g;rw[hm]at g;simp only[gW,b]at a;rcases g with⟨_,i⟩|⟨p,c,q,fr,i,l⟩
  ·rw[i]at d;cases d
  rw[i]at d;cases d;rw[l.Br,a]
theorem Jf{P:Program}{te:TE}(g:hX P te){A:kS}{σ:ey}{st:St}{a:Act}{w:World}(C:Rel A σ st a w){c:Bool}{t:TypeId}{x:SV}{U:Value}{u r:Option Operand}{K:SV->Prop}(s:c=true->rel σ x U)(h:Je te t st c x u r K) :
  ∃z,K z/\(c=true->∃v,rel σ z v/\∀w,(Instr.sliceAt t U (u.map a.eval) (r.map a.eval) none).run P w=.ok v w):=by
 unfold Je at h;split at h
 ·rename_i l p;obtain⟨y,h,m⟩:=lx (P:=P) C h;obtain⟨b,h,o⟩:=lx (P:=P) C h;obtain⟨J,h⟩:=h.out;refine⟨_,h,fun f=>?_⟩;have d:=s f;simp only[rel]at d;subst d;refine⟨.string ⟨((l.take y.toNat).drop b.toNat).toArray⟩,by simp only[rel],fun w=>?_⟩;obtain⟨H,I,O⟩:=J f;have n:match u.map a.eval with|none=>b=0|some x=>∃k,x=.int k b:=by have:=o f;cases u<;>simpa using this
  have i:match r.map a.eval with|none=>y=((ByteArray.mk l.toArray).size:Nat)|some x=>∃k,x=.int k y:=by have:=m f;cases r<;>simpa[ByteArray.size]using this
  simp only[Instr.sliceAt,Sem.run_bind,fx (ju g p),Result.andThen_ok,Instr.slice];simp[ue false (ByteArray.mk l.toArray).size (ByteArray.mk l.toArray).size _ _ b y w n i H I (by simpa[ByteArray.size]using O),y0]
 ·rename_i e Z S len p;obtain⟨E,h⟩:=h;obtain⟨y,h,m⟩:=lx (P:=P) C h;obtain⟨b,h,o⟩:=lx (P:=P) C h;obtain⟨J,h⟩:=h.out;refine⟨_,h,fun f=>?_⟩;have d:=s f;simp only[rel]at d;obtain⟨G,cap,rfl,hlen,d⟩:=d;obtain⟨H,I,O⟩:=J f;obtain⟨ti,q,F⟩:=Kf g C.sat E;have n:match u.map a.eval with|none=>b=0|some x=>∃k,x=.int k b:=by have:=o f;cases u<;>simpa using this
  have i:match r.map a.eval with|none=>y=(len:Nat)|some x=>∃k,x=.int k y:=by have:=m f;cases r<;>simpa using this
  refine⟨.slice (if cap=b.toNat then G else G.map (·.add (b.toNat*ti.size))) (y.toNat-b.toNat) (cap-b.toNat), ?_,fun w=>?_⟩
  ·simp only[rel];refine⟨_,_,rfl,by omega, ?_⟩;by_cases M:cap=b.toNat
   ·left;omega
   right;rcases d with d|⟨L,T,rfl,Q⟩
   ·omega
   refine⟨L,T, ?_, ?_⟩
   ·rw[aA M,<-F L T];simp only[Option.map_some,addrOf,Addr.add,db];split
    ·rename_i B;simp only[Addr.mk.injEq,dD,cP];rcases Nat.mul_eq_zero.1 B with B|B
     ·rw[B];simp
     rw[B];simp
    simp only[Addr.mk.injEq,dD,cP];rw[eR];omega
   have:(S+b.toNat+(cap-b.toNat))=S+cap:=by omega
   rw[this];exact Q
  simp only[Instr.sliceAt,Sem.run_bind,fx (gF g p),Result.andThen_ok,Instr.slice];simp[ue true len cap _ _ b y w n i H I (by omega),jb g q]
 ·rename_i e sz l p;obtain⟨R,F,h⟩:=h;obtain⟨ti,q⟩:=Option.ne_none_iff_exists'.1 R;have N:ti.size=sz:=by simpa[gW,q]using F
  obtain⟨y,h,m⟩:=lx (P:=P) C h;obtain⟨b,h,o⟩:=lx (P:=P) C h;obtain⟨J,h⟩:=h.out;refine⟨_,h,fun f=>?_⟩;have d:=s f;simp only[rel]at d;obtain⟨G,cap,rfl,hlen,d⟩:=d;obtain⟨H,I,O⟩:=J f;have n:match u.map a.eval with|none=>b=0|some x=>∃k,x=.int k b:=by have:=o f;cases u<;>simpa using this
  have i:match r.map a.eval with|none=>y=(l.length:Nat)|some x=>∃k,x=.int k y:=by have:=m f;cases r<;>simpa using this
  refine⟨.slice (if cap=b.toNat then G else G.map (·.add (b.toNat*ti.size))) (y.toNat-b.toNat) (cap-b.toNat), ?_,fun w=>?_⟩
  ·simp only[rel];have D:((l.take y.toNat).drop b.toNat).length=y.toNat-b.toNat:=by simp;omega
   refine⟨_,_,by rw[D],by omega, ?_⟩;by_cases M:y.toNat=b.toNat
   ·left;exact dj.1 (by omega)
   right;rcases d with d|⟨V,off,cs,W,fr,rfl,X,Y⟩
   ·subst d;simp at O;omega
   refine⟨V,off+b.toNat*sz,cs,W,fr, ?_,X,l3 fun j x s=>?_⟩
   ·rw[aA (by omega),N];simp only[Option.map_some,Addr.add,db];split
    ·rename_i B;rw[B];simp
    rfl
   rw[bY,cH]at s;split at s
   ·have:=r3 Y s;rw[List.drop_drop]at this |-
    rw[show off+b.toNat*sz+j*sz=off+(b.toNat+j)*sz by rw[eR];omega];exact this
   cases s
  simp only[Instr.sliceAt,Sem.run_bind,fx (gF g p),Result.andThen_ok,Instr.slice];simp[ue true l.length cap _ _ b y w n i H I (by omega),jb g q]
 exact h.elim
theorem Hu{P:Program}{te:TE}(e:hX P te){σ:ey}{wr c:Bool}{s d:TypeId}(p:te s≠none){x:SV}{m:Value}{K:SV->Prop}(i:c=true->rel σ x m)(h:LI te wr c d x K):∃z,K z/\(c=true->∃v,rel σ z v/\∀w,(convert s d m).run P w=.ok v w):=by
 obtain⟨ti,j⟩:=Option.ne_none_iff_exists'.1 p;obtain⟨q,f,_⟩:=QD e j;unfold LI at h;split at h
 ·rename_i k r n a;split at h
  ·refine⟨_,h,fun g=>?_⟩;have b:=i g;simp only[rel]at b;subst b;exact⟨.int k (k.wrap n),by simp only[rel],fun w=>by simp[convert,fx f,fx (kh e a),Conv.intToInt]⟩
  obtain⟨o,h⟩:=h.out;refine⟨_,h,fun g=>?_⟩;have b:=i g;simp only[rel]at b;subst b;exact⟨.int k n,by simp only[rel],fun w=>by simp[convert,fx f,fx (kh e a),Conv.intToInt,mS (o g)]⟩
 ·rename_i l a;refine⟨_,h,fun g=>?_⟩;have b:=i g;simp only[rel]at b;subst b;exact⟨.string ⟨l.toArray⟩,by simp only[rel],fun w=>by simp[convert,fx f,fx (ju e a)]⟩
 ·rename_i k n a;refine⟨_,h,fun g=>?_⟩;have b:=i g;simp only[rel]at b;subst b;exact⟨.string (Utf8.encode n),by simp only[rel],fun w=>by simp[convert,fx f,fx (ju e a),Conv.intToString]⟩
 exact h.elim
theorem nM{σ:ey}{x:SV}{v:Value}(j:iV x=true)(h:rel σ x v):dm σ (cellsOf x) v.cells.toList:=by
 cases x<;>simp only[iV,bU]at j<;>simp only[rel]at h<;>simp only[cellsOf]
 case agg l=>obtain⟨cs,rfl,h⟩:=h;exact h
 case b x=>subst h;simp[Value.cells,dm,rel]
 case i x=>subst h;simp[Value.cells,dm,rel]
 case s x=>subst h;simp[Value.cells,dm,rel]
 case ptr x=>obtain⟨L,f,rfl⟩:=h;simp[Value.cells,dm,rel,f]
 case ew x=>
  obtain⟨g,cap,rfl,a,d⟩:=h;simp only[Value.cells,dm,rel];exact⟨_,_,rfl,⟨_,_,rfl,a,d⟩,rfl⟩
 case cQ=>subst h;simp[Value.cells,dm,rel]
 case mp x=>obtain⟨L,f,rfl⟩:=h;simp[Value.cells,dm,rel,f]
 case fn x=>subst h;simp[Value.cells,dm,rel]
 case fs x=>
  obtain⟨g,cap,rfl,a,d⟩:=h;simp only[Value.cells,dm,rel];exact⟨_,_,rfl,⟨_,_,rfl,a,d⟩,rfl⟩
 case fp x=>
  obtain⟨b,off,c,e,fr,rfl,a,d⟩:=h;simp only[Value.cells,dm,rel];exact⟨_,_,rfl,⟨_,_,_,_,_,rfl,a,d⟩,rfl⟩
theorem kK{σ:ey}:∀{a b:List SV} {u v:List Value},dm σ a u->dm σ b v->dm σ (a++b) (u++v)
 |[],b,u,v,h,k=>by simp only[dm]at h;subst h;simpa using k
 |x::xs,b,u,v,h,k=>by simp only[dm]at h;obtain⟨y,r,rfl,c,d⟩:=h;simp only[eL,dm];exact⟨y,r++v,rfl,c,kK d k⟩
theorem Co(cs:Array Value)(off:Nat)(vs:List Value)(d:off+vs.length<=cs.size):∀(k:Nat),
  ((vs.zipIdx k).foldl (fun cs (p:Value×Nat)=>cs.setIfInBounds (off+p.2) p.1) cs).toList=cs.toList.take (off+k)++(vs++cs.toList.drop (off+k+vs.length))\/cs.size<off+k+vs.length:=by
 induction vs generalizing cs with
 |nil=>intro k;left;simp
 |cons v vs e=>
  intro k;by_cases a:cs.size<off+k+(v::vs).length
  ·exact .inr a
  left;simp only[List.zipIdx_cons,eI];have b:off+vs.length<=(cs.setIfInBounds (off+k) v).size:=by simp at d |-;omega
  rcases e (cs.setIfInBounds (off+k) v) b (k+1)with h|h
  ·rw[h];simp only[aK]at a;have c:off+k<cs.toList.length:=by simp;omega
   simp only[Array.toList_setIfInBounds];rw[show off+(k+1)=(off+k)+1 by omega,List.take_succ_eq_append_getElem (by simpa using c)];simp only[List.getElem_set_self,List.take_set_of_le (aN _),bS,eL,gy];rw[List.drop_set_of_lt (by omega)];congr 4;simp;omega
  simp at h a;omega
theorem xu{P:Program}{te:TE}(r:hX P te){σ:ey}(fs:List (TypeId×Nat))(pl:Array (Nat×Nat))(d:∀(i:Nat) (t:TypeId) (off:Nat) (ti:TI),fs[i]?=some (t,off)->te t=some ti->pl[i]?=some (off,ti.size)) :
  ∀(ps:List (Nat×SV)) (vs:List (Nat×Value)) (cs:List SV) (b:Array Value) (l:List SV),ps.length=vs.length ->
   (∀(j:Nat) (i:Nat) (x:SV),ps[j]?=some (i,x)->∃v,vs[j]?=some (i,v)/\iV x=true/\rel σ x v)->dm σ cs b.toList->rc te fs cs ps=some l ->
   ∃out,Instr.fill (pl[·]?) b vs=some out/\dm σ l out.toList
 |[],[],cs,b,l,_,_,e,h=>by
  simp only[rc,db]at h;subst h;exact⟨b,rfl,e⟩
 |(i,x)::ps,(F,v)::vs,cs,b,l,hlen,w,e,h=>by
  obtain⟨G,u,n,q⟩:=w 0 i x rfl;simp only[List.getElem?_cons_zero,db,eb]at u;obtain⟨rfl,rfl⟩:=u;simp only[rc]at h;split at h
  ·cases h
  rename_i t off B;split at h
  ·cases h
  rename_i ti s;split at h
  ·rename_i y;obtain⟨z,A⟩:=y;have f:=nM n q;have k:=fv f;have m:=fv e;simp only[ds]at k m;have a:=Co b off v.cells.toList (by simp;omega) 0;simp only[ds,gl]at a;rcases a with a|a
   ·have g:dm σ (cs.take off++(cellsOf x++cs.drop (off+ti.size))) (v.cells.toList.zipIdx.foldl (fun cs (p:Value×Nat)=>cs.setIfInBounds (off+p.2) p.1) b).toList:=by rw[a];refine kK (po _ e) (kK f ?_);have:=pk (off+ti.size) e;rw[show off+v.cells.size=off+ti.size by omega];exact this
    obtain⟨out,D,o⟩:=xu r fs pl d ps vs _ _ l (by simpa using hlen) (fun j i x C=>w (j+1) i x (by simpa using C)) g h;refine⟨out, ?_,o⟩;simp only[Instr.fill,d F t off ti B s];have c:¬(v.cells.size≠ti.size\/off+v.cells.size>b.size):=by omega
    rw[aA (by simpa using c)];have E:v.cells.zipIdx.foldl (fun cs (p:Value×Nat)=>cs.setIfInBounds (off+p.2) p.1) b=v.cells.toList.zipIdx.foldl (fun cs (p:Value×Nat)=>cs.setIfInBounds (off+p.2) p.1) b:=by rw[<-Array.foldl_toList];simp
    have:=D;rw[<-E]at this;exact this
   omega
  ·cases h
 |[],_::_,_,_,_,h,_,_,_=>by simp at h
 |_::_,[],_,_,_,h,_,_,_=>by simp at h
theorem s4{P:Program}{α β:Type}(f:α->Sem β)(g:α->β)(w:World):∀(l:List α),(∀x∈l,(f x).run P w=.ok (g x) w)->(l.mapM f).run P w=.ok (l.map g) w
 |[],_=>rfl
 |x::xs,h=>by simp[List.mapM_cons,h x (by simp),s4 f g w xs fun y a=>h y (dI _ a)]
theorem EK{P:Program}{α β:Type}(l:Array α)(f:α->Sem β)(g:α->β)(w:World)(h:∀x∈l.toList,(f x).run P w=.ok (g x) w):(l.mapM f).run P w=.ok (l.map g) w:=by rw[Array.mapM_eq_mapM_toList];simp only[Sem.run_map,s4 f g w l.toList h,Result.andThen_ok];congr 1;simp[<-ed]
theorem I0{P:Program}(b:Bool)(w:World):(asBool (.bool b)).run P w=.ok b w:=rfl
theorem EP{te:TE}{t:TypeId}(h:te t≠none):∃ti,te t=some ti:=Option.ne_none_iff_exists'.1 h
theorem sf{P:Program}{te:TE}(r:hX P te){A:kS}{σ:ey}{st:St}{a:Act}{w:World}(D:Rel A σ st a w){wr c:Bool}{o:Oper}{K:SV->Prop}(h:Bp te wr c st o.op K):WI P σ c (execOp a.eval o) K:=by
 obtain⟨dst,op,ty,pos,after,guard⟩:=o;simp only at h;unfold Bp at h;split at h
 case h_1 x=>exact⟨_,h,fun _=>⟨_,D.ev x,fun w=>rfl⟩⟩
 case h_2 x=>exact⟨_,h,fun _=>⟨_,D.ev x,fun w=>rfl⟩⟩
 case h_3 e a1 W=>
  obtain⟨y,h,B⟩:=fH (D.ev e) h;split at h
  ·rename_i e0;obtain⟨y1,h,a6⟩:=fH (D.ev a1) h;obtain⟨y2,h,E⟩:=fH (D.ev W) h;split at h
   ·rename_i x1 x2 _;refine⟨_,h,fun g=>⟨.bool (bif e0 then x1 else x2),by simp only[rel],fun w=>?_⟩⟩;have T:=B g;simp only[rel]at T;simp only[execOp,T,Sem.run_bind,I0,Result.andThen_ok];cases e0 with
    |true=>
     have:=a6 (by simp[g]);simp only[rel]at this;simp[this]
    |false=>have:=E (by simp[g]);simp only[rel]at this;simp[this]
   exact h.elim
  exact h.elim
 case h_4 x=>
  obtain⟨y,h,B⟩:=fH (D.ev x) h;split at h
  ·rename_i hh i k;refine⟨_,h,fun g=>⟨_,B g,fun w=>?_⟩⟩;have:=B g;simp only[rel]at this;obtain⟨L,hL,F⟩:=this;simp[execOp,F]
  ·rename_i l k;refine⟨_,h,fun g=>⟨_,B g,fun w=>?_⟩⟩;have:=B g;simp only[rel]at this;obtain⟨b,off,c,e,fr,F,_⟩:=this;simp[execOp,F]
  exact h.elim
 case h_5 s x f=>
  obtain⟨y,h,B⟩:=fH (D.ev x) h;split at h
  ·rename_i hh i k fs u;split at h
   ·rename_i ft off O;obtain⟨ab,R,h⟩:=h;obtain⟨ti,C⟩:=EP ab;refine⟨_,h,fun g=>?_⟩;have:=B g;simp only[rel]at this;obtain⟨L,hL,F⟩:=this;refine⟨.pointer (some (addrOf L i (k+off))),by simp only[rel];exact⟨L,hL,rfl⟩,fun w=>?_⟩;obtain⟨S,Q,G,_⟩:=lM r u;have J:∃fl,S[f]?=some fl/\fl.type=ft/\fl.offset=off:=by rw[<-G]at O;simp only[cu,cK,eb]at O;obtain⟨fl,m,H,h3⟩:=O;exact⟨fl,by simpa using m,H,h3⟩
    obtain⟨fl,J,rfl,rfl⟩:=J;have aj:ti.size≠0:=by simpa[gW,C]using R
    simp only[execOp,Instr.fieldAt,F,Sem.run_bind,fx Q,Result.andThen_ok,J,Instr.sureAddr,fieldPlace,jb r C,aA aj,Sem.run_pure];simp only[Addr.add,addrOf];split
    ·rename_i T;simp[T]
    simp[dk]
   exact h.elim
  ·rename_i l k fs u;split at h
   ·rename_i ft off O;obtain⟨ab,R,h⟩:=h;obtain⟨ti,C⟩:=EP ab;refine⟨_,h,fun g=>?_⟩;have:=B g;simp only[rel]at this;obtain⟨b,bo,c,e,fr,F,ax,a7⟩:=this;refine⟨.pointer (some ⟨b,bo+(k+off),none⟩),by simp only[rel];exact⟨b,bo,c,e,fr,rfl,ax,a7⟩,fun w=>?_⟩;obtain⟨S,Q,G,_⟩:=lM r u;have J:∃fl,S[f]?=some fl/\fl.type=ft/\fl.offset=off:=by rw[<-G]at O;simp only[cu,cK,eb]at O;obtain⟨fl,m,H,h3⟩:=O;exact⟨fl,by simpa using m,H,h3⟩
    obtain⟨fl,J,rfl,rfl⟩:=J;have aj:ti.size≠0:=by simpa[gW,C]using R
    simp only[execOp,Instr.fieldAt,F,Sem.run_bind,fx Q,Result.andThen_ok,J,Instr.sureAddr,fieldPlace,jb r C,aA aj,Sem.run_pure];simp only[Addr.add];split
    ·rename_i T;simp[T]
    simp[dk]
   exact h.elim
  exact h.elim
 case h_6 t x ix=>
  obtain⟨y,h,B⟩:=fH (D.ev x) h;obtain⟨y2,h,E⟩:=fH (D.ev ix) h;split at h
  ·rename_i hh lo len k n e u _;obtain⟨ae,h⟩:=h;obtain⟨Y,h⟩:=h.out;refine⟨_,h,fun g=>?_⟩;obtain⟨ti,C,ah⟩:=Kf r D.sat ae;have m:=B g;have H:=E g;obtain⟨b0,W⟩:=Y g;simp only[rel]at m H;obtain⟨ad,cap,F,hl,U⟩:=m;rcases U with U|⟨L,hL,rfl,bg⟩
   ·omega
   refine⟨.pointer (some (addrOf L (lo+n.toNat) 0)),by simp only[rel];exact⟨L,hL,rfl⟩,fun w=>?_⟩;have ag:0<=n/\n<(len:Int):=⟨b0,W⟩
   simp only[execOp,Instr.indexAt,F,H,Sem.run_bind,asIntOf,Sem.run_pure,fx (gF r u),Result.andThen_ok,aB ag,jb r C];simp only[Addr.add,addrOf,<-ah L hL];simp[eR,dk]
  ·rename_i sz l k n e u _;obtain⟨az,aq,h⟩:=h;obtain⟨Y,h⟩:=h.out;refine⟨_,h,fun g=>?_⟩;obtain⟨ti,C⟩:=EP az;have ap:ti.size=sz:=by simpa[gW,C]using aq
   have m:=B g;have H:=E g;obtain⟨b0,W⟩:=Y g;simp only[rel]at m H;obtain⟨ad,cap,F,hl,m⟩:=m;rcases m with m|⟨bb,off,cs,e',fr,rfl,h3,h4⟩
   ·subst m;simp at W;omega
   have af:n.toNat<l.length:=by omega
   obtain⟨g1,g2⟩:=r3 h4 (j:=n.toNat) (x:=l.getD n.toNat (zeroOf te e)) (by simp[List.getD,aS af]);rw[List.drop_drop]at g2;refine⟨.pointer (some ⟨bb,off+n.toNat*sz,none⟩),by simp only[rel];exact⟨bb,off+n.toNat*sz,cs,e',fr,rfl,h3,by rw[g1];exact g2⟩,fun w=>?_⟩;have ag:0<=n/\n<(l.length:Int):=⟨b0,W⟩
   simp only[execOp,Instr.indexAt,F,H,Sem.run_bind,asIntOf,Sem.run_pure,fx (gF r u),Result.andThen_ok,aB ag,jb r C];simp only[Addr.add,ap];split
   ·rename_i T;simp[T]
   simp
  exact h.elim
 case h_7 t x ix=>
  obtain⟨y,h,B⟩:=fH (D.ev x) h;obtain⟨y2,h,E⟩:=fH (D.ev ix) h;split at h
  ·rename_i l k n u _;obtain⟨Y,h⟩:=h.out;refine⟨_,h,fun g=>?_⟩;have m:=B g;have H:=E g;obtain⟨b0,W⟩:=Y g;simp only[rel]at m H;refine⟨.int .u8 (l.getD n.toNat 0).toNat,by simp only[rel],fun w=>?_⟩;have af:n.toNat<l.length:=by omega
   have hg:(ByteArray.mk l.toArray)[n.toNat]?=some (l.getD n.toNat 0):=by
    have:(ByteArray.mk l.toArray)[n.toNat]?=l[n.toNat]?:=by simp only[getElem?_def,ByteArray.size];simp[ByteArray.getElem_eq_getElem_data]
    rw[this,List.getD,aS af];rfl
   simp[execOp,Instr.index,m,H,asIntOf,fx (ju r u),b0,hg]
  exact h.elim
 case h_8 x i=>
  obtain⟨y,h,B⟩:=fH (D.ev x) h;split at h
  ·rename_i l;obtain⟨hi,h⟩:=h;refine⟨_,h,fun g=>?_⟩;have m:=B g;simp only[rel]at m;obtain⟨cs,F,m⟩:=m;obtain⟨v,aw,M⟩:=ja m (j:=i) (x:=l.getD i .u) (by simp[List.getD,aS hi]);refine⟨v,M,fun w=>?_⟩;have:cs[i]?=some v:=by simpa using aw
   simp[execOp,Instr.extract,F,this]
  exact h.elim
 case h_9 op t x y ty=>
  obtain⟨y1,h,B⟩:=fH (D.ev x) h;obtain⟨y2,h,E⟩:=fH (D.ev y) h;obtain⟨z,R,F⟩:=Jd r x y B E h;refine⟨z,R,fun g=>?_⟩;obtain⟨v,M,I⟩:=F g;exact⟨v,M,fun w=>gH (I w)⟩
 case h_10 t x=>
  obtain⟨y,h,B⟩:=fH (D.ev x) h;split at h
  ·rename_i b;refine⟨_,h,fun g=>⟨.bool (!b),by simp only[rel],fun w=>?_⟩⟩;have m:=B g;simp only[rel]at m;simp[execOp,Op.unary,m]
  exact h.elim
 case h_11 t x=>
  obtain⟨y,h,B⟩:=fH (D.ev x) h;split at h
  ·rename_i k n;obtain⟨Y,h⟩:=h.out;refine⟨_,h,fun g=>⟨.int k (0-n),by simp only[rel],fun w=>?_⟩⟩;have m:=B g;simp only[rel]at m;simp only[execOp,Op.unary,m,Op.intArith,mS (Y g)];rfl
  exact h.elim
 case h_12 s d x=>
  obtain⟨hs,h⟩:=h;obtain⟨y,h,B⟩:=fH (D.ev x) h;obtain⟨z,R,F⟩:=Hu r hs B h;refine⟨z,R,fun g=>?_⟩;obtain⟨v,M,I⟩:=F g;exact⟨v,M,fun w=>gH (I w)⟩
 case h_13 t x lo hi=>
  obtain⟨y,h,B⟩:=fH (D.ev x) h;obtain⟨z,R,F⟩:=Jf r D B h;refine⟨z,R,fun g=>?_⟩;obtain⟨v,M,I⟩:=F g;exact⟨v,M,fun w=>gH (I w)⟩
 case h_14 t parts=>
  split at h
  ·rename_i ti C;split at h
   ·rename_i fs u;obtain⟨ak,ar,h⟩:=h;split at h
    ·rename_i l aa;refine⟨_,h,fun g=>?_⟩;obtain⟨i,hi,_,_,zv,bf,ba,_⟩:=(r t ti C).D0;obtain⟨S,Q,G,_⟩:=lM r ((lL C).trans u);have ao:dm σ ti.zero zv.cells.toList:=jT (mi.nil σ) ba;have X:=cx.1 ak;have ah:∀f∈S.toList,∀w,(sizeOf f.type).run P w=.ok (gW te f.type) w:=by intro f O w;have m:=cx.1 ar (f.type,f.offset) (by rw[<-G];exact List.mem_map.2 ⟨f,O,rfl⟩);obtain⟨bh,V⟩:=Option.isSome_iff_exists.1 m;rw[jb r V];simp[gW,V]
     obtain⟨out,al,a8⟩:=xu r fs (S.map fun f=>(f.offset,gW te f.type)) (by
       intro i t off bi Z bc;rw[<-G]at Z;simp only[cu,cK,eb]at Z;obtain⟨fl,m,rfl,rfl⟩:=Z;have:S[i]?=some fl:=by simpa using m
       simp[this,gW,bc])
      (parts.toList.map fun p=>(p.1,st.ev p.2)) (parts.map fun(p:Nat×Operand)=>(p.1,a.eval p.2)).toList ti.zero zv.cells l (by simp)
      (by intro j i x hj;simp only[cu,cK,eb]at hj;obtain⟨p,hp,rfl,rfl⟩:=hj;refine⟨a.eval p.2, ?_,X p (dJ hp),D.ev p.2⟩;simp[hp]) ao aa
     refine⟨.agg out,by simp only[rel];exact⟨out,rfl,a8⟩,fun w=>?_⟩;have hzero:(zeroValue t).run P w=.ok zv w:=by simp[zeroValue,nw hi,bf]
     have ay:=EK (P:=P) S (fun f=>do let s <-sizeOf f.type;pure (f.offset,s)) (fun f=>(f.offset,gW te f.type)) w (fun f O=>by simp[ah f O w]);simp only[execOp,Instr.build,Sem.run_bind,hzero,Result.andThen_ok,fx Q,ay];rw[show(fun x:Nat×Operand=>match x with|(i,x)=>(i,a.eval x))=fun p:Nat×Operand=>(p.1,a.eval p.2)from rfl];simp only[al,Sem.run_pure,Result.andThen_ok]
    exact h.elim
   exact h.elim
  exact h.elim
 case h_15 args ts=>
  split at h
  ·rename_i x t ha bd;obtain⟨y,h,B⟩:=fH (D.ev x) h;have N:args=#[x]:=by rw[<-ed];simpa using ha
   have au:ts=#[t]:=by rw[<-ed];simpa using bd
   subst N au;split at h
   ·rename_i l u;refine⟨_,h,fun g=>⟨.int .i64 l.length,by simp only[rel],fun w=>?_⟩⟩;have m:=B g;simp only[rel]at m;simp[execOp,resolve,invoke,builtin,Builtin.len_,m,fx (ju r u),goInt,Jv]
   ·rename_i hh lo len e u;refine⟨_,h,fun g=>⟨.int .i64 len,by simp only[rel],fun w=>?_⟩⟩;have m:=B g;simp only[rel]at m;obtain⟨ad,cap,F,_⟩:=m;simp[execOp,resolve,invoke,builtin,Builtin.len_,F,fx (gF r u),goInt]
   ·rename_i sz l e u;refine⟨_,h,fun g=>⟨.int .i64 l.length,by simp only[rel],fun w=>?_⟩⟩;have m:=B g;simp only[rel]at m;obtain⟨ad,cap,F,_⟩:=m;simp[execOp,resolve,invoke,builtin,Builtin.len_,F,fx (gF r u),goInt]
   ·rename_i e u;refine⟨_,h,fun g=>⟨.int .i64 0,by simp only[rel],fun w=>?_⟩⟩;have m:=B g;simp only[rel]at m;simp[execOp,resolve,invoke,builtin,Builtin.len_,m,fx (gF r u),goInt]
   exact h.elim
  exact h.elim
 case h_16 args ts=>
  split at h
  ·rename_i x y ha;obtain⟨y1,h,B⟩:=fH (D.ev x) h;obtain⟨y2,h,E⟩:=fH (D.ev y) h;have N:args=#[x,y]:=by rw[<-ed];simpa using ha
   subst N;split at h
   ·rename_i k p k' q _;refine⟨_,h,fun g=>⟨.int k (if q<p then q else p),by simp only[rel],fun w=>?_⟩⟩;have m:=B g;have H:=E g;simp only[rel]at m H;simp[execOp,resolve,invoke,builtin,Builtin.min_,Builtin.min2,m,H]
   exact h.elim
  exact h.elim
 case h_17 args ts=>
  split at h
  ·rename_i x y ha;obtain⟨y1,h,B⟩:=fH (D.ev x) h;obtain⟨y2,h,E⟩:=fH (D.ev y) h;have N:args=#[x,y]:=by rw[<-ed];simpa using ha
   subst N;split at h
   ·rename_i k p k' q _;refine⟨_,h,fun g=>⟨.int k (if q>p then q else p),by simp only[rel],fun w=>?_⟩⟩;have m:=B g;have H:=E g;simp only[rel]at m H;simp[execOp,resolve,invoke,builtin,Builtin.max_,Builtin.max2,m,H]
   exact h.elim
  exact h.elim
 case h_18=>exact h.elim
end Go.Vg
end
section
namespace Go.Vg
variable[Go.Vg.df]
open Go.RowKit
def kR(σ:ey)(q:Nat)(L:Loc):ey:=⟨fun h=>if h=q then some L else σ h,σ.fz⟩
theorem EV{σ:ey}{q:Nat}{L:Loc}:(kR σ q L).fz=σ.fz:=rfl
theorem uV{σ:ey}{q:Nat}{L:Loc}(h:σ q=none):mi σ (kR σ q L):=by
 refine⟨fun x M e=>?_,fun _ _ e=>e⟩;show(if x=q then some L else σ x)=some M;split
 ·rename_i a;subst a;rw[h]at e;cases e
 exact e
theorem pz(c:dZ)(o:Option SO)(h:Nat):(c++[o]:dZ).at h=if h=c.length then o else c.at h:=by
 unfold dZ.at;simp only[aG];by_cases b:h<c.length
 ·rw[cA b,aA (by omega)]
 by_cases a:h=c.length
 ·subst a;simp
 rw[aA a,cw (by simp;omega),cw (by omega)]
theorem xo{c:dZ}{h:Nat}{o:SO}(e:c.at h=some o):h<c.length:=by
 unfold dZ.at at e;rw[aG]at e;rcases aU h c.length with a|a
 ·exact a
 rw[cw a]at e;cases e
theorem vJ(c:dZ)(q:Nat)(o:Option SO)(h:Nat)(b:q<c.length):dZ.at (c.set q o) h=if h=q then o else c.at h:=by
 unfold dZ.at;simp only[aG,gE];by_cases a:q=h
 ·subst a;simp[b]
 rw[aA a,aA (Ne.symm a)]
theorem uH{σ σ':ey}(h:mi σ σ'):∀{ps:List (SV×SV)} {es:List MapEntry},fZ σ ps es->fZ σ' ps es
 |[],_,r=>by simpa[fZ]using r
 |p::ps,_,r=>by
  simp only[fZ]at r |-
  obtain⟨e,q,rfl,g,i,j⟩:=r;exact⟨e,q,rfl,jM h g,jM h i,uH h j⟩
theorem j2{σ σ':ey}{w w':World}{h:Nat}{o:SO}(hle:mi σ σ')(d:σ' h=σ h)(g:∀L,σ h=some L->w'.heap[L.b]?=w.heap[L.b]?)(f:fh σ w h o):fh σ' w' h o:=by
 unfold fh at *;split at f
 ·obtain⟨L,es,j,b,a,n⟩:=f;exact⟨L,es,j,d.trans b,(g L b).trans a,uH hle n⟩
 rcases f with⟨b,a⟩|⟨L,c,e,fr,b,a⟩
 ·exact .inl ⟨b,d.trans a⟩
 refine .inr ⟨L,c,e,fr,d.trans b,⟨(g L b).trans a.heap,a.Br,a.room,a.fits,fun i k p q=>?_,a.free⟩⟩;obtain⟨v,l,m⟩:=a.cell i k p q;exact⟨v,l,jM hle m⟩
theorem EB(w:World)(o:Obj){b:Nat}(h:b<w.heap.size):(w.heap.push o)[b]?=w.heap[b]?:=by rw[Array.getElem?_push,aA (by omega)]
theorem Sat.alloc{σ:ey}{w:World}{c:dZ}(d:Sat σ w c)(n:Obj)(o:SO)(L:Loc)(s:L.b=w.heap.size)(x:fh (kR σ c.length L) { w with heap:=w.heap.push n } c.length o):Sat (kR σ c.length L) { w with heap:=w.heap.push n } (c++[some o]):=by
 have y:σ c.length=none:=d.beyond _ (aN _);have hle:=uV (L:=L) y;have m:σ.fz L.b=none:=by
  cases u:σ.fz L.b with
  |none=>rfl
  |some i=>have:=d.pG _ _ u;rw[s,bZ (aN _)]at this;cases this
 refine⟨fun h o' e=>?_,fun h r i z p q l k j g s1 s2=>?_,fun h v=>?_,fun h M e=>?_,fun b i e=>?_,fun h i M e g s1=>?_,d.E0⟩
 ·rw[pz]at e;split at e
  ·rename_i a;cases e;rw[a];exact x
  rename_i a;refine j2 hle (by simp[kR,a]) (fun M t=>?_) (d.obj h o' e);exact EB _ _ (d.gq h M t)
 ·rw[pz]at k j;simp only[kR]at s1 s2;split at k
  ·rename_i a;rw[aB a]at s1;cases s1;split at j
   ·rename_i f;omega
   rename_i f;rw[aA f]at s2;have:=d.gq _ _ s2;omega
  rename_i a;rw[aA a]at s1;split at j
  ·rename_i f;rw[aB f]at s2;cases s2;have:=d.gq _ _ s1;omega
  rename_i f;rw[aA f]at s2;exact d.apart h r i z p q l k j g s1 s2
 ·simp only[aC,aH]at v;simp only[kR,aA (show h≠c.length by omega)];exact d.beyond h (by omega)
 ·simp only[kR]at e;simp only[Array.size_push];split at e
  ·cases e;omega
  have:=d.gq h M e;omega
 ·have a:=d.pG b i e;rw[EB _ _ (by
   rcases aU b w.heap.size with f|f
   ·exact f
   rw[bZ f]at a;cases a)]
  exact a
 rw[pz]at e;simp only[kR]at s1;rw[EV];split at e
 ·rename_i a;rw[aB a]at s1;cases s1;exact m
 rename_i a;rw[aA a]at s1;exact d.mR h i M e g s1
theorem Rel.alloc{A:kS}{σ:ey}{st:St}{a:Act}{w:World}(c:Rel A σ st a w)(g:Obj)(o:SO)(L:Loc)(i:L.b=w.heap.size)(l:fh (kR σ st.ctx.length L) { w with heap:=w.heap.push g } st.ctx.length o) :
  mi σ (kR σ st.ctx.length L)/\Rel A (kR σ st.ctx.length L) ⟨st.env,st.ctx++[some o]⟩ a { w with heap:=w.heap.push g }:=by
 have m:σ st.ctx.length=none:=c.sat.beyond _ (aN _);have hle:=uV (L:=L) m;refine⟨hle,c.defers,c.size,fun t=>jM hle (c.env t),c.sat.alloc g o L i l, ?_,fun h o' M e f s=>?_,⟨fun h k=>?_,c.base.FP,c.base.LV⟩, ?_⟩
 ·exact⟨c.fr.os,c.fr.tape,c.fr.output,by simp;have:=c.fr.size;omega,fun b j hd=>by rw[EB _ _ (dA j c.fr.size)];exact c.fr.block b j hd⟩
 ·rw[pz]at e;simp only[kR]at s;split at e
  ·rename_i d;rw[aB d]at s;cases s;right;rw[i];exact c.fr.size
  rename_i d;rw[aA d]at s;exact c.own h o' M e f s
 ·have:=c.mq;simp only[kR,aA (show h≠st.ctx.length by omega)];exact c.base.loc h k
 simp;have:=c.mq;omega
theorem z6{σ:ey}{w:World}{q:Nat}{cs:Array Value}{e:TypeId}{o:SO}{L:Loc}(hm:o.isMap=false)(g:L=⟨w.heap.size,0,cs.size,o.sz⟩)(j:o.n*o.sz<=cs.size)(h:∀i k,i<o.n->k<o.sz->∃v,cs[i*o.sz+k]?=some v/\rel σ ((o.el i).getD k .u) v)(n:σ q=none) :
  fh (kR σ q L) { w with heap:=w.heap.push (.cells cs e) } q o:=by
 subst g;unfold fh;rw[hm];refine .inr ⟨⟨w.heap.size,0,cs.size,o.sz⟩,cs,e,(0,0),by simp[kR],⟨?_,rfl, ?_,j,fun i k l m=>?_,fun _=>.inl rfl⟩⟩
 ·simp
 ·simp
 obtain⟨v,d,f⟩:=h i k l m;exact⟨v,by simpa using d,jM (uV n) f⟩
def WH(P:Program)(A:kS)(σ:ey)(a:Act)(w:World)(s:Sem Next)(K:SV->St->Prop):Prop:=
 ∃z st' v σ' w',K z st'/\(s.run P w=.ok (.value v) w'\/(s.run P w=.ok .skip w'/\v=undef))/\mi σ σ'/\rel σ' z v/\Rel A σ' st' a w'
def UE(st:St)(cs:List SV):St:=⟨st.env,st.ctx++[some (.gA false cs)]⟩
def Rj(st:St)(sz n:Nat)(f:Nat->List SV):St:=⟨st.env,st.ctx++[some (.row false sz n f)]⟩
theorem FA{P:Program}{A:kS}{σ:ey}{st:St}{a:Act}{w:World}(c:Rel A σ st a w){t:TypeId}{cs:List SV}{v:Value}(d:dm σ cs v.cells.toList) :
  ∃σ' w',(newVar t v).run P w=.ok ⟨w.heap.size,0,none⟩ w'/\mi σ σ'/\rel σ' (.ptr st.ctx.length 0 0) (.pointer (some ⟨w.heap.size,0,none⟩))/\Rel A σ' (UE st cs) a w':=by
 have m:σ st.ctx.length=none:=c.sat.beyond _ (aN _);have hlen:=fv d;simp only[ds]at hlen;obtain⟨e,f⟩:=c.alloc (.cells v.cells t) (.gA false cs) ⟨w.heap.size,0,v.cells.size,cs.length⟩ rfl
  (z6 rfl rfl (by simp[SO.n,SO.sz,hlen]) (fun i k n l=>by
   simp only[SO.n,SO.sz,SO.el]at *;obtain⟨u,g,h⟩:=ja d (j:=k) (x:=cs.getD k .u) (by simp[List.getD,aS l]);have b:i=0:=by omega
   subst b;exact⟨u,by simpa using g,h⟩) m)
 refine⟨_,_, ?_,e, ?_,f⟩
 ·simp[newVar,newRow]
 simp only[rel];exact⟨⟨w.heap.size,0,v.cells.size,cs.length⟩,by simp[kR],by simp[addrOf]⟩
end Go.Vg
end
section
namespace Go.Vg
variable[Go.Vg.df]
open Go.RowKit
theorem AT{P:Program}{A:kS}{σ:ey}{st:St}{a:Act}{w:World}(c:Rel A σ st a w){elem:TypeId}{cells:Array Value}{sz n cap:Nat}{f:Nat->List SV}(b:cells.size=cap*sz)(d:n<=cap)(h:∀i k,i<n->k<sz->∃v,cells[i*sz+k]?=some v/\rel σ ((f i).getD k .u) v) :
  ∃σ' w',(newRow elem cells).run P w=.ok ⟨w.heap.size,0,none⟩ w'/\mi σ σ'/\rel σ' (.ew st.ctx.length 0 n) (.slice (some ⟨w.heap.size,0,none⟩) n cap)/\Rel A σ' (Rj st sz n f) a w':=by
 have j:σ st.ctx.length=none:=c.sat.beyond _ (aN _);obtain⟨e,g⟩:=c.alloc (.cells cells elem) (.row false sz n f) ⟨w.heap.size,0,cells.size,sz⟩ rfl
  (z6 rfl rfl (by simp only[SO.n,SO.sz,b];exact cN _ d) h j)
 refine⟨_,_, ?_,e, ?_,g⟩
 ·simp[newRow]
 simp only[rel];exact⟨_,_,rfl,d,.inr ⟨⟨w.heap.size,0,cells.size,sz⟩,by simp[kR],by simp[addrOf],by simp[b]⟩⟩
theorem qU(b off j:Nat):(⟨b,off,none⟩:Addr).add j=⟨b,off+j,none⟩:=by
 unfold Addr.add;split
 ·rename_i h;simp[h]
 rfl
theorem q8{w:World}{b off:Nat}{c:Array Value}{e:TypeId}{fr:Nat×Nat}(h:w.heap[b]?=some (.cells c e fr)):w.cell? ⟨b,off,none⟩=c[off]?:=by simp[World.cell?,h]
theorem vw{P:Program}{w:World}{b off:Nat}{c:Array Value}{e:TypeId}{fr:Nat×Nat}(h:w.heap[b]?=some (.cells c e fr)) :
  ∀(vs:List Value) (i:Nat) (acc:Array Value),(∀(j:Nat) (v:Value),vs[j]?=some v->c[off+i+j]?=some v)->(loadCellsFrom ⟨b,off,none⟩ i vs.length acc).run P w=.ok (acc++vs.toArray) w
 |[],i,acc,_=>by simp[loadCellsFrom]
 |v::vs,i,acc,d=>by
  have a:=d 0 v rfl;simp only[aK,loadCellsFrom,Sem.run_bind,run_load,qU,q8 h];rw[show off+i+0=off+i from rfl]at a;simp only[a,Result.andThen_ok];rw[vw h vs (i+1) (acc.push v) (fun j u f=>by have:=d (j+1) u (by simpa using f);rw[show off+(i+1)+j=off+i+(j+1) by omega];exact this)]
  simp
theorem run_loadCells{P:Program}{w:World}{b off:Nat}{c:Array Value}{e:TypeId}{fr:Nat×Nat}(h:w.heap[b]?=some (.cells c e fr))(vs:List Value)(i:∀(j:Nat) (v:Value),vs[j]?=some v->c[off+j]?=some v):(loadCells ⟨b,off,none⟩ vs.length).run P w=.ok vs.toArray w:=by unfold loadCells;rw[vw h vs 0 #[] (by simpa using i)];simp
theorem tf{σ:ey}{w:World}{L:Loc}{o:SO}{c:Array Value}{e:TypeId}{fr:Nat×Nat}(h:sl σ w L o c e fr){i k n:Nat}(q:i<o.n)(s:k+n<=o.sz) :
  ∃vs:List Value,vs.length=n/\(∀(j:Nat) (v:Value),vs[j]?=some v->c[L.sh+i*L.sz+k+j]?=some v)/\∀(j:Nat) (v:Value),vs[j]?=some v->rel σ ((o.el i).getD (k+j) .u) v:=by
 induction n with
 |zero=>exact⟨[],rfl,by simp,by simp⟩
 |succ n r=>
  obtain⟨vs,g,l,m⟩:=r (by omega);obtain⟨v,f,p⟩:=h.cell i (k+n) q (by omega);rw[<-h.Br]at f;refine⟨vs++[v],by simp[g],fun j u a=>?_,fun j u a=>?_⟩
  ·rw[fc]at a;split at a
   ·exact l j u a
   have:j-vs.length=0:=by
    rcases dO (j-vs.length)with d|d
    ·exact d
    rw[cw (by simp;omega)]at a;cases a
   rw[this]at a;simp at a;subst a;have b:j=n:=by omega
   subst b;rw[show L.sh+i*L.sz+k+j=L.sh+i*L.sz+(k+j) by omega];exact f
  rw[fc]at a;split at a
  ·exact m j u a
  have:j-vs.length=0:=by
   rcases dO (j-vs.length)with d|d
   ·exact d
   rw[cw (by simp;omega)]at a;cases a
  rw[this]at a;simp at a;subst a;have b:j=n:=by omega
  subst b;exact p
def gB:SV->Bool
 | .b _ | .i _ _ | .s _ | .ptr _ _ _ | .ew _ _ _ | .cQ | .mp _ | .fn _ | .fs _ _ | .fp _ _=>true
 |_=>false
theorem tA{σ:ey}{x:SV}{v:Value}(h:gB x=true)(a:rel σ x v):v.oneCell'=true:=by
 cases x<;>simp only[gB,bU]at h<;>simp only[rel]at a
 case b=>subst a;rfl
 case i=>subst a;rfl
 case s=>subst a;rfl
 case ptr=>obtain⟨_,_,rfl⟩:=a;rfl
 case ew=>obtain⟨_,_,rfl,_⟩:=a;rfl
 case cQ=>subst a;rfl
 case mp=>obtain⟨_,_,rfl⟩:=a;rfl
 case fn=>subst a;rfl
 case fs=>obtain⟨_,_,rfl,_⟩:=a;rfl
 case fp=>obtain⟨_,_,_,_,_,rfl,_⟩:=a;rfl
def lK(c:Array Value)(off:Nat):List Value->Array Value
 |[]=>c
 |v::vs=>lK (c.setIfInBounds off v) (off+1) vs
theorem l4(c:Array Value):∀(vs:List Value) (off:Nat),(lK c off vs).size=c.size
 |[],_=>rfl
 |v::vs,off=>by simp[lK,l4 _ vs]
theorem ug:∀(vs:List Value) (c:Array Value) (off x:Nat),off+vs.length<=c.size->(lK c off vs)[x]?=if off<=x/\x<off+vs.length then vs[x-off]? else c[x]?
 |[],c,off,x,_=>by
  simp only[lK,aL];rw[aA (by omega)]
 |v::vs,c,off,x,h=>by
  simp only[aK]at h;simp only[lK];rw[ug vs _ (off+1) x (by simp;omega)];simp only[aK];by_cases a:off+1<=x/\x<off+1+vs.length
  ·rw[aB a,aB (by omega)];obtain⟨y,d⟩:∃y,x-off=y+1:=⟨x-off-1,by omega⟩
   rw[d,List.getElem?_cons_succ,show x-(off+1)=y by omega]
  rw[aA a,eW];by_cases b:off=x
  ·subst b;rw[aB rfl,aB (by omega)];simp
  rw[aA b,aA (by omega)]
theorem nx{P:Program}{b off:Nat}{e:TypeId}{fr:Nat×Nat}:∀(vs:List Value) (i:Nat) (w:World) (c:Array Value),w.heap[b]?=some (.cells c e fr) ->
  (∀v∈vs,v.oneCell'=true)->off+i+vs.length<=c.size->(∀x,x<c.size->¬(fr.1<=x/\x<fr.2)) ->
  (storeCells ⟨b,off,none⟩ vs i).run P w=.ok () { w with heap:=w.heap.setIfInBounds b (.cells (lK c (off+i) vs) e fr) }
 |[],i,w,c,h,_,_,_=>by
  simp only[storeCells,lK,Sem.run_pure];congr 1;have k:b<w.heap.size:=by
   rcases aU b w.heap.size with a|a
   ·exact a
   rw[bZ a]at h;cases h
  have:w.heap.setIfInBounds b (.cells c e fr)=w.heap:=by
   apply Array.ext_getElem?;intro j;rw[eW];split
   ·rename_i f;subst f;rw[h]
   rfl
  rw[this]
 |v::vs,i,w,c,h,m,o,l=>by
  simp only[aK]at o;have k:b<w.heap.size:=by
   rcases aU b w.heap.size with a|a
   ·exact a
   rw[bZ a]at h;cases h
  have n:w.cell? ⟨b,off+i,none⟩=some c[off+i]:=by rw[q8 h];exact Array.getElem?_eq_getElem (by omega)
  have g:w.frozen? ⟨b,off+i,none⟩=false:=by have:=l (off+i) (by omega);simp only[World.frozen?,h];simpa using this
  simp only[storeCells,Sem.run_bind,qU];rw[run_store P w _ v .plain (m v (by simp)),n];simp only[g,bU,bG,Result.andThen_ok];have d:(w.setCell ⟨b,off+i,none⟩ v).heap[b]?=some (.cells (c.setIfInBounds (off+i) v) e fr):=by simp only[World.setCell,Array.getElem?_modify,h,dy];simp
  rw[nx vs (i+1) (w.setCell ⟨b,off+i,none⟩ v) _ d (fun u hu=>m u (by simp[hu])) (by simp;omega) (by simpa using l)];congr 1;simp only[World.setCell,lK];congr 1;apply Array.ext_getElem?;intro j;simp only[eW,Array.size_modify,Array.getElem?_modify];by_cases f:b=j
  ·subst f;simp[k,dk]
  simp[f]
end Go.Vg
end
