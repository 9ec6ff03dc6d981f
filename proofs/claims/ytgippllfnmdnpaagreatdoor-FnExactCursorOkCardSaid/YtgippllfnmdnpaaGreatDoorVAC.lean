/- Own text: part VAC. -/
import Derived.Test.YtgippllfnmdnpaaGreatDoorVAB
import Derived.Laws.BytesString
import Derived.MapKept
set_option linter.all false
section
namespace Go.Vg
variable[Go.Vg.df]
open Go.RowKit
def Qv(l:List SV)(k:Nat)(cs:List SV):List SV:=
 match cs with
 |[x]=>l.set k x
 |_=>if k=0/\cs.length=l.length then cs else l.take k++(cs++l.drop (k+cs.length))
theorem Pu{l:List SV}{k:Nat}{cs:List SV}(h:k+cs.length<=l.length):Qv l k cs=l.take k++(cs++l.drop (k+cs.length)):=by
 unfold Qv;split
 ·rename_i x;simp only[aH]at h |-
  rw[List.set_eq_take_append_cons_drop,aB (by omega)];simp
 split
 ·rename_i a;obtain⟨rfl,b⟩:=a;simp[b]
 rfl
theorem I3{l:List SV}{k:Nat}{cs:List SV}(h:k+cs.length<=l.length):(Qv l k cs).length=l.length:=by rw[Pu h];simp;omega
theorem Lp{l:List SV}{k:Nat}{cs:List SV}(h:k+cs.length<=l.length)(j:Nat):(Qv l k cs).getD j .u=if k<=j/\j<k+cs.length then cs.getD (j-k) .u else l.getD j .u:=by
 rw[Pu h];simp only[aG];rw[fc,fc,aZ];by_cases a:j<k
 ·rw[aB (by omega),aA (by omega),ef a]
 rw[aA (by omega)];by_cases b:j<k+cs.length
 ·rw[aB (by omega),aB (by omega)];congr 2;omega
 rw[aA (by omega),aA (by omega),bY];congr 2;omega
def SO.put(o:SO)(i k:Nat)(cs:List SV):SO:=
 match o with
 | .row ro sz n f=>.row ro sz n (fun j=>if j=i then Qv (f j) k cs else f j)
 | .gA ro l=>.gA ro (Qv l k cs)
 |o=>o
def iz(f:Nat->List SV)(a len:Nat):List UInt8:=
 (List.range len).map fun j=>match (f (a+j)).getD 0 .u with
  | .i _ n=>UInt8.ofNat n.toNat
  |_=>0
def kV(l:List (List SV)):List UInt8:=l.map fun x=>match x.getD 0 .u with
 | .i _ n=>UInt8.ofNat n.toNat
 |_=>0
def qH:SV->Bool
 | .i .u8 _=>true
 |_=>false
def jK(te:TE)(t:TypeId):Bool:=match dP te t with
 | .int .u8=>true
 |_=>false
def lookS{α:Type}[DecidableEq α]:List (α×Int)->α->Option Int
 |[],_=>none
 |p::r,k=>if p.1=k then some p.2 else lookS r k
def updS{α:Type}[DecidableEq α]:List (α×Int)->α->Int->List (α×Int)
 |[],k,v=>[(k,v)]
 |p::r,k,v=>if p.1=k then(k,v)::r else p::updS r k v
def se(c:Bool)(ok:Bool)(r:Option Int)(K:SV->Prop):Prop:=
 if ok then K (.fJ [.i .i64 (r.getD 0),.b r.isSome])else K (.i .i64 (r.getD 0))
def vE(te:TE)(c:Bool)(st:St)(o:Op)(K:SV->Prop):Prop:=
 match o with
 | .load t x=>j9 c (st.ev x) fun v=>match v with
  | .ptr h i k=>match st.ctx.at h,te t with
   |some a,some ti=>a.isMap=false/\ti.td≠.other/\if ti.td.eT then k+ti.size<=a.sz/\(a.el i).length=a.sz/\bH (c=true->i<a.n) (K (.agg (((a.el i).drop k).take ti.size)))
    else k<a.sz/\bH (c=true->i<a.n) (K ((a.el i).getD k .u))
   |_,_=>False
  | .fp l k=>match te t with
   |some ti=>ti.td≠.other/\if ti.td.eT then bH (c=true->k+ti.size<=l.length) (K (.agg ((l.drop k).take ti.size)))
    else bH (c=true->k<l.length) (K (l.getD k .u))
   |none=>False
  |_=>False
 | .convert s d x=>j9 c (st.ev x) fun v=>match v,dP te s,dP te d with
  | .ew h g len,.slice e,.str=>jK te e=true/\(match st.ctx.at h with
   |some (.row ro sz n f)=>sz=1/\(∀j,j<len->qH ((f (g+j)).getD 0 .u)=true)/\bH (c=true->g+len<=n) (K (.s (iz f g len)))
   |_=>False)
  | .cQ,.slice e,.str=>jK te e=true/\K (.s [])
  | .fs sz l,.slice e,.str=>jK te e=true/\sz=1/\bH (c=true->∀x∈l,qH (x.getD 0 .u)=true) (K (.s (kV l)))
  |_,_,_=>False
 | .lookup t m k ok=>j9 c (st.ev m) fun v=>j9 c (st.ev k) fun y=>match v,y with
  | .mp h,.s s=>match st.ctx.at h,dP te t with
   |some (.jY l),.map b q=>dP te b=.str/\te q=some ⟨.int .i64,1,8,[.i .i64 0],false⟩/\se c ok (lookS l s) K
   |_,_=>False
  | .mp h,.i .i64 s=>match st.ctx.at h,dP te t with
   |some (.nE l),.map b q=>dP te b=.int .i64/\te q=some ⟨.int .i64,1,8,[.i .i64 0],false⟩/\se c ok (lookS l s) K
   |_,_=>False
  |_,_=>False
 |_=>False
def WG(P:Program)(σ:ey)(w:World)(c:Bool)(i:List Nat)(s:Sem Next)(K:SV->Prop):Prop:=
 ∃z,K z/\(c=true->∃v,rel σ z v/\∀w',(∀h∈i,∀L,σ h=some L->w'.heap[L.b]?=w.heap[L.b]?)->(∀b o,σ.fz b=some o->w'.heap[b]?=some o)->s.run P w'=.ok (.value v) w')
def jI:SV->List Nat
 | .ptr h _ _ | .ew h _ _ | .mp h=>[h]
 | .gd _ (.ptr h _ _) | .gd _ (.ew h _ _) | .gd _ (.mp h)=>[h]
 |_=>[]
def OG(st:St):Op->List Nat
 | .load _ x | .convert _ _ x | .lookup _ x _ _=>jI (st.ev x)
 |_=>[]
theorem uj{σ:ey}{c:Bool}{x:SV}{K:SV->Prop}{v:Value}(a:rel σ x v)(h:j9 c x K):∃y,K y/\(c=true->rel σ y v)/\((match y with | .gd _ _=>False|_=>True)->jI x=jI y):=by
 unfold j9 at h;split at h
 ·rename_i g y;obtain⟨b,d⟩:=h.out;refine⟨y,d,fun e=>by simp only[rel]at a;exact a.1 (b e),fun f=>?_⟩;cases y<;>first|rfl|exact f.elim
 exact⟨x,h,fun _=>a,fun _=>rfl⟩
theorem kC{σ:ey}{w:World}{st:St}(d:Sat σ w st.ctx){h:Nat}{a:SO}(b:st.ctx.at h=some a)(hm:a.isMap=false) :
  (a.n=0/\σ h=none)\/∃L c e fr,σ h=some L/\sl σ w L a c e fr:=by
 have:=d.obj h a b;unfold fh at this;rwa[hm]at this
theorem il{l:List SV}{j:Nat}(h:j<l.length):l[j]?=some (l.getD j .u):=by simp[List.getD,aS h]
theorem tw{P:Program}{te:TE}(c:hX P te){A:kS}{σ:ey}{st:St}{a:Act}{w:World}(H:Rel A σ st a w){t:TypeId}{ti:TI}(d:te t=some ti)(E:ti.td≠.other){h i k:Nat}{b:SO}(z:st.ctx.at h=some b)(hm:b.isMap=false)(D:i<b.n){v:Value}(F:rel σ (.ptr h i k) v)(n:if ti.td.eT then k+ti.size<=b.sz/\(b.el i).length=b.sz else k<b.sz) :
  ∃u,rel σ (if ti.td.eT then .agg (((b.el i).drop k).take ti.size)else(b.el i).getD k .u) u/\∀w',(∀L,σ h=some L->w'.heap[L.b]?=w.heap[L.b]?)->(Instr.loadAt t v).run P w'=.ok u w':=by
 rcases kC H.sat z hm with⟨K,_⟩|⟨L,cs,e,fr,q,l⟩
 ·omega
 simp only[rel]at F;obtain⟨J,g,rfl⟩:=F;rw[q]at g;cases g;by_cases f:ti.td.eT=true
 ·rw[aB f]at n;obtain⟨y,I⟩:=n;obtain⟨vs,m,p,G⟩:=tf l D y;refine⟨.agg vs.toArray, ?_,fun w' hw=>?_⟩
  ·rw[aB f];simp only[rel];refine⟨_,rfl, ?_⟩;refine j7 (by simp;omega) fun j x u o hu=>?_;have B:=G j u (by simpa using hu);have s:j<ti.size:=by
    rcases aU j ti.size with h|h
    ·exact h
    rw[cw (by simp;omega)]at o;cases o
   rw[ef s,bY]at o;rw[aG,o]at B;exact B
  have r:w'.heap[L.b]?=some (.cells cs e fr):=(hw L q).trans l.heap;have C:=run_loadCells (P:=P) (off:=L.sh+i*L.sz+k) r vs p;rw[m]at C;simp only[Instr.loadAt,Instr.sureAddr,Sem.run_bind,Sem.run_pure,Result.andThen_ok,loadVar,mG c d E,f,dy,jb c d,addrOf,C]
 rw[aA f]at n;obtain⟨u,m,p⟩:=l.cell i k D n;refine⟨u,by rw[aA f];exact p,fun w' hw=>?_⟩;have r:w'.heap[L.b]?=some (.cells cs e fr):=(hw L q).trans l.heap;rw[<-l.Br]at m;simp[Instr.loadAt,Instr.sureAddr,loadVar,mG c d E,f,addrOf,q8 r,m]
theorem xv{P:Program}{te:TE}(f:hX P te){σ:ey}{t:TypeId}{ti:TI}(g:te t=some ti)(y:ti.td≠.other){l:List SV}{k:Nat}{v:Value}(z:rel σ (.fp l k) v)(n:if ti.td.eT then k+ti.size<=l.length else k<l.length) :
  ∃u,rel σ (if ti.td.eT then .agg ((l.drop k).take ti.size)else l.getD k .u) u/\∀w',(∀b o,σ.fz b=some o->w'.heap[b]?=some o)->(Instr.loadAt t v).run P w'=.ok u w':=by
 simp only[rel]at z;obtain⟨b,off,c,e,fr,rfl,m,s⟩:=z;have d:=jT (⟨fun _ _ h=>(by cases h),fun _ _ h=>h⟩:mi σ.bare σ) s;by_cases p:ti.td.eT=true
 ·rw[aB p]at n |-
  have i:=po ti.size (pk k d);have hlen:=fv i;simp only[aZ,bK]at hlen;refine⟨.agg ((((c.toList.drop off).take l.length).drop k).take ti.size).toArray, ?_,fun w' hw=>?_⟩
  ·simp only[rel];exact⟨_,rfl,by simpa using i⟩
  have q:=hw _ _ m;have w:=run_loadCells (P:=P) (off:=off+k) q ((((c.toList.drop off).take l.length).drop k).take ti.size) (fun j x a=>by
   rw[cH]at a;split at a
   ·rw[bY,cH]at a;split at a
    ·rw[bY]at a;rw[show off+k+j=off+(k+j) by omega];simpa using a
    cases a
   cases a)
  have r:((((c.toList.drop off).take l.length).drop k).take ti.size).length=ti.size:=by simp only[aZ,bK];omega
  rw[r]at w;simp only[Instr.loadAt,Instr.sureAddr,Sem.run_bind,Sem.run_pure,Result.andThen_ok,loadVar,mG f g y,p,dy,jb f g,w]
 rw[aA p]at n |-
 obtain⟨u,i,A⟩:=ja d (il n);refine⟨u,A,fun w' hw=>?_⟩;have q:=hw _ _ m;rw[cH,aB n,bY]at i;have B:c[off+k]?=some u:=by simpa using i
 simp[Instr.loadAt,Instr.sureAddr,loadVar,mG f g y,p,q8 q,B]
end Go.Vg
end
section
namespace Go.Vg
variable[Go.Vg.df]
open Go.RowKit Go.MapKept
theorem AM(a:List Int):∀(s:ByteArray),(a.foldl (fun r n=>r.push (UInt8.ofNat n.toNat)) s)=⟨(s.data.toList++a.map fun n=>UInt8.ofNat n.toNat).toArray⟩:=by
 induction a with
 |nil=>intro s;simp
 |cons n a b=>intro s;simp only[eI,b];simp
theorem J9{x:SV}(h:qH x=true):∃n,x=.i .u8 n:=by
 unfold qH at h;split at h
 ·exact⟨_,rfl⟩
 cases h
theorem uS{te:TE}{t:TypeId}(h:jK te t=true):dP te t=.int .u8:=by
 unfold jK at h;split at h
 ·assumption
 cases h
theorem H2{σ:ey}{w:World}{L:Loc}{ro:Bool}{n:Nat}{f:Nat->List SV}{c:Array Value}{e:TypeId}{fr:Nat×Nat}(h:sl σ w L (.row ro 1 n f) c e fr)(d:Nat) :
  ∀(len:Nat),d+len<=n->(∀j,j<len->qH ((f (d+j)).getD 0 .u)=true) ->
  ∃b:List Int,b.length=len/\(∀(j:Nat) (x:Int),b[j]?=some x->c[L.sh+d+j]?=some (.int .u8 x))/\b.map (fun n=>UInt8.ofNat n.toNat)=iz f d len:=by
 intro len
 induction len with
 |zero=>intro _ _;exact⟨[],rfl,by simp,rfl⟩
 |succ len r=>
  intro s hu;obtain⟨b,o,p,q⟩:=r (by omega) (fun j a=>hu j (by omega));obtain⟨v,m,i⟩:=h.cell (d+len) 0 (by simp only[SO.n];omega) (by simp[SO.sz]);obtain⟨x,l⟩:=J9 (hu len (by omega));simp only[SO.el,SO.sz,Nat.mul_one,gl]at m i;rw[l]at i;simp only[rel]at i;subst i;refine⟨b++[x],by simp[o],fun j y a=>?_, ?_⟩
  ·rw[fc]at a;split at a
   ·exact p j y a
   have g:j-b.length=0:=by
    rcases dO (j-b.length)with g|g
    ·exact g
    rw[cw (by simp;omega)]at a;cases a
   rw[g]at a;simp at a;subst a;have k:j=len:=by omega
   subst k;rw[dk];exact m
  rw[gx,q];simp only[aG]at l;simp[iz,List.range_succ,l]
theorem H6{P:Program}{te:TE}(g:hX P te){A:kS}{σ:ey}{st:St}{a:Act}{w:World}(F:Rel A σ st a w){s d e:TypeId}(J:dP te s=.slice e)(hd:dP te d=.str)(he:jK te e=true){h b len n:Nat}{ro:Bool}{f:Nat->List SV}(q:st.ctx.at h=some (.row ro 1 n f))(hu:∀j,j<len->qH ((f (b+j)).getD 0 .u)=true)(I:b+len<=n){v:Value}(k:rel σ (.ew h b len) v) :
  ∀w',(∀L,σ h=some L->w'.heap[L.b]?=w.heap[L.b]?)->(convert s d v).run P w'=.ok (.string ⟨(iz f b len).toArray⟩) w':=by
 intro w' hw;simp only[rel]at k;obtain⟨l,cap,rfl,N,k⟩:=k;rw[run_convert_bytes_string w' s d e l len cap (gF g J) (kh g (uS he)) (ju g hd)];rcases k with k|⟨L,m,rfl,G⟩
 ·have C:len=0:=by omega
  subst C;cases l with
  |none=>simp[Conv.bytesToString,iz];rfl
  |some l=>rw[run_bytesToString w' l 0 cap [] (by simp[loadCells,loadCellsFrom])];simp[iz];rfl
 rcases kC F.sat q rfl with⟨_,o⟩|⟨M,c,B,fr,i,p⟩
 ·rw[o]at m;cases m
 rw[i]at m;cases m;obtain⟨z,o,D,E⟩:=H2 p b len I hu;have H:w'.heap[L.b]?=some (.cells c B fr):=(hw L i).trans p.heap;have r:L.sz=1:=p.Br;have t:=run_loadCells (P:=P) (off:=L.sh+b*L.sz+0) H (z.map (Value.int .u8)) (fun j x u=>by simp only[cu,cK]at u;obtain⟨y,K,rfl⟩:=u;rw[r];simpa using D j y K)
 simp only[List.length_map,o]at t;rw[show addrOf L b 0=⟨L.b,L.sh+b*L.sz+0,none⟩from rfl,run_bytesToString w' _ len cap z t,AM,E];simp
theorem uM{σ:ey}:∀{l:List (List SV)} {vs:List Value},ud σ 1 l vs->(∀x∈l,qH (x.getD 0 .u)=true) ->
  ∃a:List Int,a.length=l.length/\(∀(j:Nat) (x:Int),a[j]?=some x->vs[j]?=some (.int .u8 x))/\a.map (fun n=>UInt8.ofNat n.toNat)=kV l
 |[],_,_,_=>⟨[],rfl,by simp,rfl⟩
 |y::m,vs,h,hu=>by
  simp only[ud]at h;obtain⟨k,f,g⟩:=h;obtain⟨a,g1,g2,g3⟩:=uM g fun x i=>hu x (dI _ i);obtain⟨n,d⟩:=J9 (hu y (by simp));obtain⟨v,e,c⟩:=ja f (j:=0) (x:=y.getD 0 .u) (il (by omega));rw[d]at c;simp only[rel]at c;subst c;refine⟨n::a,by simp[g1],fun j x b=>?_, ?_⟩
  ·cases j with
   |zero=>
    simp at b;subst b;rw[cH]at e;simpa using e
   |succ j=>simp at b;have:=g2 j x b;rw[bY,Nat.add_comm]at this;exact this
  simp only[aG]at d;simp[kV,g3,d]
theorem FO{P:Program}{te:TE}(f:hX P te){σ:ey}{s d e:TypeId}(B:dP te s=.slice e)(hd:dP te d=.str)(he:jK te e=true){l:List (List SV)}(hu:∀x∈l,qH (x.getD 0 .u)=true){v:Value}(g:rel σ (.fs 1 l) v) :
  ∀w',(∀b o,σ.fz b=some o->w'.heap[b]?=some o)->(convert s d v).run P w'=.ok (.string ⟨(kV l).toArray⟩) w':=by
 intro w' hw;simp only[rel]at g;obtain⟨h,cap,rfl,F,g⟩:=g;rw[run_convert_bytes_string w' s d e h l.length cap (gF f B) (kh f (uS he)) (ju f hd)];rcases g with g|⟨b,off,c,E,fr,rfl,i,k⟩
 ·subst g;cases h with
  |none=>simp[Conv.bytesToString,kV];rfl
  |some h=>simp only[aL];rw[run_bytesToString w' h 0 cap [] (by simp[loadCells,loadCellsFrom])];simp[kV];rfl
 obtain⟨q,u,w,z⟩:=uM k hu;have n:=run_loadCells (P:=P) (off:=off) (hw _ _ i) (q.map (Value.int .u8)) (fun j x p=>by simp only[cu,cK]at p;obtain⟨y,C,rfl⟩:=p;have:=w j y C;rw[bY]at this;simpa using this)
 simp only[List.length_map,u]at n;rw[run_bytesToString w' _ l.length cap q n,AM,z];simp
structure ML(α:Type)[DecidableEq α] where
 d:TypeDesc
 v:α->Value
 s:α->SV
 same:∀a b,Instr.sameNow d (v a) (v b)=some (decide (a=b))
 isKey:∀a,IsKey d (v a)
 sA:∀σ a x,rel σ (s a) x↔x=v a
 stays:∀a,Instr.sameBits 10000 (v a) (v a)=true
def Q4:ML (List UInt8) where
 d:=.string
 v:=fun l=>.string ⟨l.toArray⟩
 s:=fun l=>.s l
 same:=fun a b=>by simp only[Instr.sameNow,beq_toListBytes,mB,nL]
 isKey:=fun a=>by simp[IsKey]
 sA:=fun σ a x=>by simp[rel]
 stays:=fun a=>by simp only[Instr.sameBits,beq_toListBytes,mB];simp
def Q3:ML Int where
 d:=.int .i64
 v:=fun n=>.int .i64 n
 s:=fun n=>.i .i64 n
 same:=fun a b=>by simp[Instr.sameNow,nL]
 isKey:=fun a=>by simp[IsKey]
 sA:=fun σ a x=>by simp[rel]
 stays:=fun a=>by simp[Instr.sameBits]
theorem vS{α:Type}[DecidableEq α](kk:ML α)(σ:ey)(k:α)(x:Int):∀(l:List (α×Int)) (es:List MapEntry) (i:Nat),fZ σ (l.map fun p=>(kk.s p.1,.i .i64 p.2)) es ->
  (lookS l k=none/\Instr.findNow kk.d (kk.v k) es i=some none/\updS l k x=l++[(k,x)]) \/
  ∃j e y,lookS l k=some y/\Instr.findNow kk.d (kk.v k) es i=some (some (i+j,.int .i64 y))/\es[j]?=some e/\e.key=kk.v k /\
   fZ σ ((updS l k x).map fun p=>(kk.s p.1,.i .i64 p.2)) (es.modify j fun e=>{ e with key:=kk.v k,val:=.int .i64 x })
 |[],es,i,h=>by
  simp only[eO,fZ]at h;subst h;exact .inl ⟨rfl,rfl,rfl⟩
 |(p,n)::l,es,i,h=>by
  simp only[cC,fZ]at h;obtain⟨e,r,rfl,a,c,d⟩:=h;rw[kk.sA]at a;simp only[rel]at c;by_cases hp:p=k
  ·subst hp;refine .inr ⟨0,e,n,by simp[lookS], ?_,rfl,a, ?_⟩
   ·simp[Instr.findNow,a,kk.same,c]
   simp only[updS,dy,cC,List.modify_zero_cons,fZ];exact⟨_,_,rfl,by rw[kk.sA],by simp[rel],d⟩
  have b:¬k=p:=fun q=>hp q.symm;rcases vS kk σ k x l r (i+1) d with⟨g1,g2,g3⟩|⟨j,f,y,g1,g2,g3,g4,g5⟩
  ·exact .inl ⟨by simp[lookS,hp,g1],by simp[Instr.findNow,a,kk.same,b,g2],by simp[updS,hp,g3]⟩
  refine .inr ⟨j+1,f,y,by simp[lookS,hp,g1], ?_,by simpa using g3,g4, ?_⟩
  ·simp[Instr.findNow,a,kk.same,b,g2];omega
  simp only[updS,aA hp,cC,List.modify_succ_cons,fZ];exact⟨_,_,rfl,by rw[kk.sA];exact a,by simp only[rel];exact c,g5⟩
theorem xp{σ:ey}:∀{ps a:List (SV×SV)} {es fs:List MapEntry},fZ σ ps es->fZ σ a fs->fZ σ (ps++a) (es++fs)
 |[],a,es,fs,h,k=>by simp only[fZ]at h;subst h;simpa using k
 |p::ps,a,es,fs,h,k=>by simp only[fZ]at h;obtain⟨e,r,rfl,b,c,d⟩:=h;simp only[eL,fZ];exact⟨e,r++fs,rfl,b,c,xp d k⟩
theorem pM{P:Program}{te:TE}(c:hX P te){α:Type}[DecidableEq α](kk:ML α){σ:ey}{w:World}{t m d:TypeId}(s:dP te t=.map m d)(a:P.underlying m=some kk.d)(g:te d=some ⟨.int .i64,1,8,[.i .i64 0],false⟩){L:Loc}{es:Array MapEntry}{n:Nat}(q:w.heap[L.b]?=some (.map es n)){l:List (α×Int)}(he:fZ σ (l.map fun p=>(kk.s p.1,.i .i64 p.2)) es.toList)(k:α)(ok:Bool) :
  (Instr.lookup t (.map (some L.b)) (kk.v k) ok).run P w=.ok (if ok then .tuple #[.int .i64 ((lookS l k).getD 0),.bool (lookS l k).isSome]else .int .i64 ((lookS l k).getD 0)) w:=by
 obtain⟨i,r,_,_,z,u,f,b⟩:=(c d _ g).D0;have h:z=.int .i64 0:=by have o:=b rfl;cases z<;>simp only[Value.oneCell',bU]at o<;>(simp only[Value.cells,dm,rel]at f;simp_all)
 have hzero:(zeroValue d).run P w=.ok (.int .i64 0) w:=by simp[zeroValue,nw r,u,h]
 unfold Instr.lookup;simp only[Sem.run_bind,fx (EU c s),Result.andThen_ok,Go.MapKept.run_getObj_map q,Sem.run_pure];rw[show(10000:Nat)=9999+1 from rfl,run_checkKey a (kk.isKey k)];simp only[Result.andThen_ok];rcases vS kk σ k 0 l es.toList 0 he with⟨g1,g2,_⟩|⟨j,e,y,g1,g2,_⟩
 ·rw[run_findKey a g2];simp[hzero,g1]
 rw[run_findKey a g2];simp[g1]
end Go.Vg
end
section
namespace Go.Vg
variable[Go.Vg.df]
open Go.RowKit
theorem x8{P:Program}{te:TE}(b:hX P te){A:kS}{σ:ey}{st:St}{a:Act}{w:World}(Q:Rel A σ st a w){c:Bool}{o:Oper}{K:SV->Prop}(h:vE te c st o.op K):WG P σ w c (OG st o.op) (execOp a.eval o) K:=by
 obtain⟨dst,op,ty,pos,after,guard⟩:=o;simp only at h |-
 unfold vE at h;split at h
 case h_1 t x=>
  obtain⟨y,h,F,V⟩:=uj (Q.ev x) h;split at h
  ·rename_i hd i k;have q:hd∈jI (st.ev x):=by rw[V trivial];exact dN.2 rfl
   split at h
   ·rename_i ob ti z M;obtain⟨hm,X,h⟩:=h;by_cases v:ti.td.eT=true
    ·rw[aB v]at h;obtain⟨T,Z,h⟩:=h;obtain⟨S,h⟩:=h.out;refine⟨_,h,fun g=>?_⟩;obtain⟨u,j,r⟩:=tw b Q M X z hm (S g) (F g) (by rw[aB v];exact⟨T,Z⟩);rw[aB v]at j;refine⟨u,j,fun w' hw E=>gH (r w' fun L C=>hw hd q L C)⟩
    rw[aA v]at h;obtain⟨T,h⟩:=h;obtain⟨S,h⟩:=h.out;refine⟨_,h,fun g=>?_⟩;obtain⟨u,j,r⟩:=tw b Q M X z hm (S g) (F g) (by rw[aA v];exact T);rw[aA v]at j;refine⟨u,j,fun w' hw E=>gH (r w' fun L C=>hw hd q L C)⟩
   exact h.elim
  ·rename_i l k;split at h
   ·rename_i ti M;obtain⟨X,h⟩:=h;by_cases v:ti.td.eT=true
    ·rw[aB v]at h;obtain⟨S,h⟩:=h.out;refine⟨_,h,fun g=>?_⟩;obtain⟨u,j,r⟩:=xv b M X (F g) (by rw[aB v];exact S g);rw[aB v]at j;exact⟨u,j,fun w' _ hw=>gH (r w' hw)⟩
    rw[aA v]at h;obtain⟨S,h⟩:=h.out;refine⟨_,h,fun g=>?_⟩;obtain⟨u,j,r⟩:=xv b M X (F g) (by rw[aA v];exact S g);rw[aA v]at j;exact⟨u,j,fun w' _ hw=>gH (r w' hw)⟩
   exact h.elim
  exact h.elim
 case h_2 s d x=>
  obtain⟨y,h,F,V⟩:=uj (Q.ev x) h;split at h
  ·rename_i hd lo len e v G;have q:hd∈jI (st.ev x):=by rw[V trivial];exact dN.2 rfl
   obtain⟨N,h⟩:=h;split at h
   ·rename_i ro sz n f z;obtain⟨rfl,hu,h⟩:=h;obtain⟨hn,h⟩:=h.out;refine⟨_,h,fun g=>⟨.string ⟨(iz f lo len).toArray⟩,by simp only[rel],fun w' hw E=>gH ?_⟩⟩;refine H6 b Q v G N z hu (hn g) (F g) w' fun L C=>hw hd q L C
   exact h.elim
  ·rename_i e v G;obtain⟨N,h⟩:=h;refine⟨_,h,fun g=>⟨.string ⟨#[]⟩,by simp only[rel],fun w' hw E=>gH ?_⟩⟩;have j:=F g;simp only[rel]at j;rw[j,run_convert_bytes_string w' s d e none 0 0 (gF b v) (kh b (uS N)) (ju b G)];simp[Conv.bytesToString];rfl
  ·rename_i sz l e v G;obtain⟨N,rfl,h⟩:=h;obtain⟨W,h⟩:=h.out;refine⟨_,h,fun g=>⟨.string ⟨(kV l).toArray⟩,by simp only[rel],fun w' _ hw=>gH ?_⟩⟩;exact FO b v G N (W g) (F g) w' hw
  exact h.elim
 case h_3 t m k ok=>
  obtain⟨y,h,F,V⟩:=uj (Q.ev m) h;obtain⟨y2,h,R⟩:=fH (Q.ev k) h;split at h
  ·rename_i hd s _;have q:hd∈jI (st.ev m):=by rw[V trivial];exact dN.2 rfl
   split at h
   ·rename_i l kt vt z J;obtain⟨I,O,h⟩:=h;have B:=Q.sat.obj hd _ z;simp only[fh,SO.isMap,SO.tq]at B;obtain⟨L,es,ck,C,H,he⟩:=B;unfold se at h;split at h
    ·rename_i D;refine⟨_,h,fun g=>⟨.tuple #[.int .i64 ((lookS l s).getD 0),.bool (lookS l s).isSome],by simp[rel,dm],fun w' hw E=>gH ?_⟩⟩;have j:=F g;have r:=R g;simp only[rel]at j r;obtain⟨Y,p,U⟩:=j;rw[C]at p;cases p;have:=pM b Q4 J (ju b I) O (L:=L) ((hw hd q L C).trans H) he s ok;rw[U,r];rw[aB D]at this;exact this
    rename_i D;refine⟨_,h,fun g=>⟨.int .i64 ((lookS l s).getD 0),by simp[rel],fun w' hw E=>gH ?_⟩⟩;have j:=F g;have r:=R g;simp only[rel]at j r;obtain⟨Y,p,U⟩:=j;rw[C]at p;cases p;have:=pM b Q4 J (ju b I) O (L:=L) ((hw hd q L C).trans H) he s ok;rw[U,r];rw[aA D]at this;exact this
   exact h.elim
  ·rename_i hd s _;have q:hd∈jI (st.ev m):=by rw[V trivial];exact dN.2 rfl
   split at h
   ·rename_i l kt vt z J;obtain⟨I,O,h⟩:=h;have B:=Q.sat.obj hd _ z;simp only[fh,SO.isMap,SO.tq]at B;obtain⟨L,es,ck,C,H,he⟩:=B;unfold se at h;split at h
    ·rename_i D;refine⟨_,h,fun g=>⟨.tuple #[.int .i64 ((lookS l s).getD 0),.bool (lookS l s).isSome],by simp[rel,dm],fun w' hw E=>gH ?_⟩⟩;have j:=F g;have r:=R g;simp only[rel]at j r;obtain⟨Y,p,U⟩:=j;rw[C]at p;cases p;have:=pM b Q3 J (kh b I) O (L:=L) ((hw hd q L C).trans H) he s ok;rw[U,r];rw[aB D]at this;exact this
    rename_i D;refine⟨_,h,fun g=>⟨.int .i64 ((lookS l s).getD 0),by simp[rel],fun w' hw E=>gH ?_⟩⟩;have j:=F g;have r:=R g;simp only[rel]at j r;obtain⟨Y,p,U⟩:=j;rw[C]at p;cases p;have:=pM b Q3 J (kh b I) O (L:=L) ((hw hd q L C).trans H) he s ok;rw[U,r];rw[aA D]at this;exact this
   exact h.elim
  exact h.elim
 case h_4=>exact h.elim
end Go.Vg
end
section
namespace Go.Vg
variable[Go.Vg.df]
open Go.RowKit
def St.setObj(st:St)(h:Nat)(o:Option SO):St:=⟨st.env,st.ctx.set h o⟩
def St.fA(st:St)(o:SO):St:=⟨st.env,st.ctx++[some o]⟩
def lm(n:Nat)(f g:Nat->List SV):Nat->List SV:=fun j=>if j<n then f j else g (j-n)
def fF(l:List SV)(sz:Nat):Nat->List SV:=fun j=>(l.drop (j*sz)).take sz
def qo(sz:Nat)(cs:List SV):List (Nat×SV)->Option (List SV)
 |[]=>some cs
 |(i,x)::r=>if(cellsOf x).length=sz/\i*sz+sz<=cs.length then qo sz (cs.take (i*sz)++(cellsOf x++cs.drop (i*sz+sz))) r else none
def nH(z:List SV):Nat->List SV
 |0=>[]
 |n+1=>z++nH z n
def HC(st:St)(sz:Nat)(u8:Bool)(c:Nat)(x:SV)(K:Nat->(Nat->List SV)->Prop):Prop:=
 match x with
 | .cQ=>K 0 (fun _=>[])
 | .s l=>u8=true/\sz=1/\K l.length (fun j=>[.i .u8 (l.getD j 0).toNat])
 | .ew h b m=>match st.ctx.at h with
  |some (.row ro a n f)=>a=sz/\h≠c/\(∀j,j<m->(f (b+j)).all gB=true/\(f (b+j)).length=sz)/\bH (b+m<=n) (K m (fun j=>f (b+j)))
  |_=>False
 | .fs a l=>a=sz/\(∀x∈l,x.all gB=true)/\K l.length (fun j=>l.getD j [])
 |_=>False
def yP(te:TE)(st:St)(t:TypeId)(s x:SV)(K:SV->St->Prop):Prop:=
 match dP te t with
 | .slice e=>match te e with
  |some ti=>ti.zero.length=ti.size/\ti.bytes≠0/\(match s with
   | .cQ=>HC st ti.size (jK te e) st.ctx.length x fun m g=>bH (m*ti.bytes<=140737488355328) (K (.ew st.ctx.length 0 m) (st.fA (.row false ti.size m g)))
   | .ew h b len=>match st.ctx.at h with
    |some (.row false a n f)=>a=ti.size/\HC st ti.size (jK te e) h x fun m g=>bH (b+len<=n/\(len+m)*ti.bytes<=140737488355328)
      (K (.ew st.ctx.length 0 (len+m)) ((st.setObj h none).fA (.row false ti.size (len+m) (lm len (fun j=>f (b+j)) g))))
    |_=>False
   |_=>False)
  |none=>False
 |_=>False
def pv(te:TE)(st:St)(o:Op)(K:SV->St->Prop):Prop:=
 match o with
 | .alloc t=>match te t with
  |some ti=>K (.ptr st.ctx.length 0 0) (st.fA (.gA false ti.zero))
  |none=>False
 | .box t x=>iV (st.ev x)=true/\K (.ptr st.ctx.length 0 0) (st.fA (.gA false (cellsOf (st.ev x))))
 | .store t x y=>match st.ev x with
  | .ptr h i k=>match st.ctx.at h,te t with
   |some b,some ti=>b.isMap=false/\b.ro=false/\iV (st.ev y)=true/\(cellsOf (st.ev y)).length=ti.size/\(cellsOf (st.ev y)).all gB=true /\
     (b.el i).length=b.sz/\k+ti.size<=b.sz/\bH (i<b.n) (K .u (st.setObj h (some (b.put i k (cellsOf (st.ev y))))))
   |_,_=>False
  |_=>False
 | .makeMap t r=>(match r with|none=>True|some x=>match st.ev x with | .i _ _=>True|_=>False)/\match dP te t with
  | .map a f=>match dP te a with
   | .str=>K (.mp st.ctx.length) (st.fA (.jY []))
   | .int .i64=>K (.mp st.ctx.length) (st.fA (.nE []))
   |_=>False
  |_=>False
 | .mapUpdate t m k x=>match st.ev m,st.ev k,st.ev x,dP te t with
  | .mp h,.s s,.i .i64 v,.map a f=>match st.ctx.at h with
   |some (.jY l)=>dP te a=.str/\K .u (st.setObj h (some (.jY (updS l s v))))
   |_=>False
  | .mp h,.i .i64 s,.i .i64 v,.map a f=>match st.ctx.at h with
   |some (.nE l)=>dP te a=.int .i64/\K .u (st.setObj h (some (.nE (updS l s v))))
   |_=>False
  |_,_,_,_=>False
 | .insert t m k x=>match st.ev m,st.ev k,st.ev x,dP te t with
  | .mp h,.s s,.i .i64 v,.map a f=>match st.ctx.at h with
   |some (.jY l)=>dP te a=.str/\K .u (st.setObj h (some (.jY (updS l s v))))
   |_=>False
  | .mp h,.i .i64 s,.i .i64 v,.map a f=>match st.ctx.at h with
   |some (.nE l)=>dP te a=.int .i64/\K .u (st.setObj h (some (.nE (updS l s v))))
   |_=>False
  |_,_,_,_=>False
 | .buildSlice t len parts=>match dP te t with
  | .slice e=>match te e with
   |some ti=>ti.zero.length=ti.size/\len*ti.size<=16777216/\(parts.toList.all fun p=>iV (st.ev p.2))=true /\
     match qo ti.size (nH ti.zero len) (parts.toList.map fun p=>(p.1,st.ev p.2))with
     |some l=>K (.ew st.ctx.length 0 len) (st.fA (.row false ti.size len (fF l ti.size)))
     |none=>False
   |none=>False
  |_=>False
 | .makeSlice t l c=>match dP te t,st.ev l,st.ev c with
  | .slice e,.i .i64 n,.i .i64 m=>match te e with
   |some ti=>ti.zero.length=ti.size/\bH (0<=n/\n<=m/\m*ti.bytes<=281474976710656/\m<=281474976710656)
     (K (.ew st.ctx.length 0 n.toNat) (st.fA (.row false ti.size n.toNat (fun _=>ti.zero))))
   |none=>False
  |_,_,_=>False
 | .convert s d x=>s=d/\match st.ev x,dP te s with
  | .ew h j len,.slice e=>jK te e=true/\0<len/\(match st.ctx.at h with
   |some (.row false _ _ _)=>True
   |_=>False)/\K (.ew h j len) st
  |_,_=>False
 | .call { callee:=.builtin .append,args:=args,argTypes:=u }=>match args.toList,u.toList with
  |[s,x],[t,w]=>(match dP te w with | .slice _=>True | .str=>True|_=>False)/\yP te st t (st.ev s) (st.ev x) K
  |_,_=>False
 |_=>False
theorem Rel.drawn{A:kS}{σ:ey}{st:St}{a:Act}{w:World}(b:Rel A σ st a w)(n:Nat):Rel A σ st a { w with drawn:=n }:=by refine⟨b.defers,b.size,b.env,⟨fun h o e=>?_,b.sat.apart,b.sat.beyond,b.sat.gq,b.sat.pG,b.sat.mR,b.sat.E0⟩,⟨b.fr.os,b.fr.tape,b.fr.output,b.fr.size,b.fr.block⟩,b.own,b.base,b.mq⟩;exact j2 (w:=w) (mi.refl σ) rfl (fun _ _=>rfl) (b.sat.obj h o e)
theorem jy{w:World}{b:Nat}{o:Obj}(x:Nat):(w.heap.setIfInBounds b o)[x]?=if x=b then(if b<w.heap.size then some o else none)else w.heap[x]?:=by
 rw[eW];by_cases h:b=x
 ·subst h;simp
 rw[aA h,aA (Ne.symm h)]
theorem Rel.write{A:kS}{σ:ey}{st:St}{a:Act}{w:World}(c:Rel A σ st a w){h:Nat}{o o':SO}{L:Loc}(l:st.ctx.at h=some o)(i:o.ro=false)(x:o'.ro=false)(u:σ h=some L)(z:Obj)(p:fh σ { w with heap:=w.heap.setIfInBounds L.b z } h o'):Rel A σ (st.setObj h (some o')) a { w with heap:=w.heap.setIfInBounds L.b z }:=by
 have k:=xo l;refine⟨c.defers,c.size,c.env,⟨fun f j e=>?_,fun f E j y q t g n m r s1 s2=>?_,fun f d=>?_,fun f M e=>?_,fun v j e=>?_,fun f j M e r s=>?_,c.sat.E0⟩, ?_,fun f j M e r s=>?_,c.base, ?_⟩
 ·simp only[St.setObj]at e;rw[vJ _ _ _ _ k]at e;split at e
  ·rename_i d;cases e;rw[d];exact p
  rename_i d;refine j2 (mi.refl σ) rfl (fun M C=>?_) (c.sat.obj f j e);have:=c.sat.apart h f o j L M (Ne.symm d) l e i u C;simp only[jy,aA (Ne.symm this)]
 ·simp only[St.setObj]at n m;rw[vJ _ _ _ _ k]at n m;split at n
  ·rename_i d;subst d;split at m
   ·rename_i B;exact absurd B.symm g
   exact c.sat.apart _ _ o y q t g l m i s1 s2
  split at m
  ·rename_i d;subst d;exact c.sat.apart _ _ j o q t g n l r s1 s2
  exact c.sat.apart _ _ j y q t g n m r s1 s2
 ·simp only[St.setObj,gw]at d;exact c.sat.beyond f d
 ·simpa using c.sat.gq f M e
 ·have g:v≠L.b:=fun d=>by rw[d,c.sat.mR h o L l i u]at e;cases e
  simp only[jy,aA g];exact c.sat.pG v j e
 ·simp only[St.setObj]at e;rw[vJ _ _ _ _ k]at e;split at e
  ·rename_i d;subst d;exact c.sat.mR _ o M l i s
  exact c.sat.mR f j M e r s
 ·refine⟨c.fr.os,c.fr.tape,c.fr.output,by simpa using c.fr.size,fun b D hd=>?_⟩;simp only[jy];rw[aA]
  ·exact c.fr.block b D hd
  intro e;subst e;rcases c.own h o L l i u with f|f
  ·exact hd f
  omega
 ·simp only[St.setObj]at e;rw[vJ _ _ _ _ k]at e;split at e
  ·rename_i d;subst d;exact c.own _ o M l i s
  exact c.own f j M e r s
 simpa[St.setObj]using c.mq
theorem SO.Ms{o:SO}{i k:Nat}{cs:List SV}(hm:o.isMap=false):(o.put i k cs).isMap=false/\(o.put i k cs).ro=o.ro/\(o.put i k cs).n=o.n /\
  ((o.el i).length=o.sz->k+cs.length<=o.sz->(o.put i k cs).sz=o.sz/\∀j x,j<o.n->i<o.n->((o.put i k cs).el j).getD x .u=if j=i/\k<=x/\x<k+cs.length then cs.getD (x-k) .u else(o.el j).getD x .u):=by
 cases o with
 |row ro sz n f=>
  refine⟨rfl,rfl,rfl,fun c b=>⟨rfl,fun j x e d=>?_⟩⟩;simp only[SO.put,SO.el]at *;by_cases a:j=i
  ·subst a;simp only[dy,cP];rw[Lp (by simp only[SO.sz]at c b;omega)]
  ·rw[aA a,aA (fun h=>a h.1)]
 |gA ro l=>
  refine⟨rfl,rfl,rfl,fun c b=>?_⟩;simp only[SO.put,SO.el,SO.sz]at *;refine⟨I3 b,fun j x e d=>?_⟩;have:j=i:=by simp only[SO.n]at e d;omega
  rw[Lp b];simp[this]
 |jY l=>cases hm
 |nE l=>cases hm
theorem G9{P:Program}{te:TE}(J:hX P te){A:kS}{σ:ey}{st:St}{a:Act}{w:World}(F:Rel A σ st a w){t:TypeId}{ti:TI}(K:te t=some ti){h i k:Nat}{b:SO}(C:st.ctx.at h=some b)(hm:b.isMap=false)(q:b.ro=false)(O:i<b.n){x:SV}(I:iV x=true)(hlen:(cellsOf x).length=ti.size)(s:(cellsOf x).all gB=true)(G:(b.el i).length=b.sz)(hk:k+ti.size<=b.sz){v u:Value}(Q:rel σ (.ptr h i k) v)(hu:rel σ x u):∃w',(Instr.storeAt t v u).run P w=.ok () w'/\Rel A σ (st.setObj h (some (b.put i k (cellsOf x)))) a w':=by
 rcases kC F.sat C hm with⟨Y,_⟩|⟨L,c,e,fr,E,f⟩
 ·omega
 simp only[rel]at Q;obtain⟨X,r,rfl⟩:=Q;rw[E]at r;cases r;have m:=nM I hu;have H:=fv m;simp only[ds]at H;have g:=f.free q;have z:L.sh+i*L.sz+k+u.cells.size<=c.size:=by
  have l:=f.room;have N:=f.fits;have Z:i*b.sz+b.sz<=b.n*b.sz:=by rw[<-dG];exact cN _ O
  rw[f.Br];omega
 refine⟨{ w with heap:=w.heap.setIfInBounds L.b (.cells (lK c (L.sh+i*L.sz+k) u.cells.toList) e fr) }, ?_, ?_⟩
 ·simp only[Instr.storeAt,Instr.sureAddr,Sem.run_bind,Sem.run_pure,Result.andThen_ok,storeVar,jb J K];rw[aA (by omega)];have:=nx (P:=P) (off:=L.sh+i*L.sz+k) u.cells.toList 0 w c f.heap (fun y D=>by
   obtain⟨j,n⟩:=List.mem_iff_getElem?.1 D;have B:j<(cellsOf x).length:=by
    rcases aU j u.cells.toList.length with h|h
    ·simp at h;omega
    rw[cw h]at n;cases n
   obtain⟨y',l,N⟩:=ja m (il B);rw[n]at l;cases l;exact tA (cx.1 s _ (dJ (il B))) N) (by simpa using z) (fun y D h=>by rcases g with h|h<;>omega)
  simpa[addrOf]using this
 obtain⟨T,U,R,V⟩:=SO.Ms (o:=b) (i:=i) (k:=k) (cs:=cellsOf x) hm;obtain⟨M,W⟩:=V G (by omega);refine F.write C q (U.trans q) E _ ?_;unfold fh;rw[T];refine .inr ⟨L,lK c (L.sh+i*L.sz+k) u.cells.toList,e,fr,E,⟨?_, ?_, ?_, ?_,fun j y n D=>?_,fun _=>?_⟩⟩
 ·have S:=F.sat.gq h L E;simp only[jy,dy,aB S]
 ·rw[M];exact f.Br
 ·rw[l4];exact f.room
 ·rw[R,M];exact f.fits
 ·rw[R]at n;rw[M]at D |-
  rw[W j y n O];obtain⟨v0,g1,g2⟩:=f.cell j y n D;rw[ug _ _ _ _ (by simpa using z)];simp only[ds];by_cases p:j=i
  ·subst p;by_cases d:k<=y/\y<k+(cellsOf x).length
   ·rw[aB (show L.sh+j*L.sz+k<=L.sh+j*b.sz+y/\L.sh+j*b.sz+y<L.sh+j*L.sz+k+u.cells.size by rw[f.Br];omega),aB ⟨rfl,d⟩];obtain⟨v1,g3,g4⟩:=ja m (il (show y-k<(cellsOf x).length by omega));refine⟨v1, ?_,g4⟩;rw[show L.sh+j*b.sz+y-(L.sh+j*L.sz+k)=y-k by rw[f.Br];omega];exact g3
   rw[aA (show ¬(L.sh+j*L.sz+k<=L.sh+j*b.sz+y/\L.sh+j*b.sz+y<L.sh+j*L.sz+k+u.cells.size) by rw[f.Br];omega),aA (fun h=>d h.2)];exact⟨v0,g1,g2⟩
  rw[aA (show ¬(j=i/\k<=y/\y<k+(cellsOf x).length)from fun h=>p h.1),aA]
  ·exact⟨v0,g1,g2⟩
  rw[f.Br];intro hh;rcases Nat.lt_or_gt_of_ne p with l|l
  ·have:j*b.sz+b.sz<=i*b.sz:=by rw[<-dG];exact cN _ l
   omega
  have:i*b.sz+b.sz<=j*b.sz:=by rw[<-dG];exact cN _ l
  omega
 rw[l4];exact g
end Go.Vg
end
section
namespace Go.Vg
variable[Go.Vg.df]
open Go.RowKit
theorem Fu{P:Program}{te:TE}(c:hX P te){A:kS}{σ:ey}{st:St}{a:Act}{w:World}(j:Rel A σ st a w){t:TypeId}{ti:TI}(d:te t=some ti) :
  ∃v σ' w',(Instr.alloc t true (.tuple #[])).run P w=.ok v w'/\mi σ σ'/\rel σ' (.ptr st.ctx.length 0 0) v/\Rel A σ' (st.fA (.gA false ti.zero)) a w':=by
 obtain⟨i,k,_,_,z,l,b,_⟩:=(c t ti d).D0;obtain⟨σ',w',e,f,g,h⟩:=FA (P:=P) j (t:=t) (jT (mi.nil σ) b);refine⟨_,σ',w', ?_,f,g,h⟩;simp[Instr.alloc,zeroValue,nw k,l,e]
theorem LM{P:Program}{A:kS}{σ:ey}{st:St}{a:Act}{w:World}(g:Rel A σ st a w){t:TypeId}{x:SV}{v:Value}(b:iV x=true)(h:rel σ x v) :
  ∃u σ' w',(Instr.box t v).run P w=.ok u w'/\mi σ σ'/\rel σ' (.ptr st.ctx.length 0 0) u/\Rel A σ' (st.fA (.gA false (cellsOf x))) a w':=by
 obtain⟨σ',w',c,d,e,f⟩:=FA (P:=P) g (t:=t) (nM b h);refine⟨_,σ',w', ?_,d,e,f⟩;simp[Instr.box,c]
theorem sV{P:Program}{A:kS}{σ:ey}{st:St}{a:Act}{w:World}(b:Rel A σ st a w)(o:SO)(hm:o.isMap=true)(he:o.tq=[])(e:o.ro=false) :
  ∃σ',mi σ σ'/\rel σ' (.mp st.ctx.length) (.map (some w.heap.size))/\Rel A σ' (st.fA o) a { w with heap:=w.heap.push (.map #[] 0) }:=by
 have f:σ st.ctx.length=none:=b.sat.beyond _ (aN _);obtain⟨c,d⟩:=b.alloc (.map #[] 0) o ⟨w.heap.size,0,0,0⟩ rfl (by unfold fh;rw[hm];exact⟨⟨w.heap.size,0,0,0⟩,#[],0,by simp[kR],by simp,by simp[he,fZ]⟩)
 exact⟨_,c,by simp only[rel];exact⟨⟨w.heap.size,0,0,0⟩,by simp[kR],rfl⟩,d⟩
theorem mz{P:Program}{te:TE}(D:hX P te){A:kS}{σ:ey}{st:St}{a:Act}{w:World}(r:Rel A σ st a w){α:Type}[DecidableEq α](kk:ML α){t G K:TypeId}(J:dP te t=.map G K)(g:P.underlying G=some kk.d){h:Nat}{o o':SO}{l:List (α×Int)}{k:α}{x:Int}(E:st.ctx.at h=some o)(hm:o.isMap=true)(z:o'.isMap=true)(I:o.ro=false)(B:o'.ro=false)(he:o.tq=l.map fun p=>(kk.s p.1,.i .i64 p.2))(m:o'.tq=(updS l k x).map fun p=>(kk.s p.1,.i .i64 p.2)){v:Value}(F:rel σ (.mp h) v) :
  ∃w',(Instr.mapUpdate t v (kk.v k) (.int .i64 x)).run P w=.ok () w'/\Rel A σ (st.setObj h (some o')) a w':=by
 have b:=r.sat.obj h o E;unfold fh at b;rw[hm]at b;obtain⟨L,es,N,q,u,f⟩:=b;simp only[rel]at F;obtain⟨M,i,rfl⟩:=F;rw[q]at i;cases i;rw[he]at f;have H:=r.sat.gq h L q;have key:∀(c:Array MapEntry) (d:Nat),fZ σ o'.tq c.toList->Rel A σ (st.setObj h (some o')) a { w with heap:=w.heap.setIfInBounds L.b (.map c d) }:=by intro c d C;refine r.write E I B q _ ?_;unfold fh;rw[z];exact⟨L,c,d,q,by simp only[jy,dy,aB H],C⟩
 unfold Instr.mapUpdate;simp only[Sem.run_bind,fx (EU D J),Result.andThen_ok,Go.MapKept.run_getObj_map u];rw[show(10000:Nat)=9999+1 from rfl,Go.MapKept.run_checkKey g (kk.isKey k)];simp only[Result.andThen_ok];rcases vS kk σ k x l es.toList 0 f with⟨g1,g2,g3⟩|⟨j,e,y,g1,g2,g3,g4,g5⟩
 ·rw[Go.MapKept.run_findKey g g2];simp only[Result.andThen_ok];rw[Go.MapKept.run_setObj_map _ u];refine⟨_,rfl,key _ _ ?_⟩;rw[m,g3,gx,Array.toList_push];refine xp f ?_;simp only[cC,eO,fZ];exact⟨_,_,rfl,by rw[kk.sA],by simp[rel],rfl⟩
 rw[Go.MapKept.run_findKey g g2];simp only[Result.andThen_ok,Sem.run_bind];have s:es[0+j]?=some e:=by simpa using g3
 have n:(Instr.keyThatStays (((es[0+j]?).map (·.key)).getD (kk.v k)) (kk.v k)).run P w=.ok (kk.v k) w:=by simp only[s,Option.map_some,fK,g4,Instr.keyThatStays,kk.stays,dy,Sem.run_pure]
 rw[n];simp only[Result.andThen_ok];rw[Go.MapKept.run_setObj_map _ u];refine⟨_,rfl,key _ _ ?_⟩;rw[m];simpa[Array.toList_modify]using g5
theorem kL(z:List SV):∀n,(nH z n).length=n*z.length
 |0=>by simp[nH]
 |n+1=>by simp[nH,kL z n,dG];omega
theorem AS{σ:ey}{z:List SV}{a:Array Value}(h:dm σ z a.toList):∀n,dm σ (nH z n) ((Array.range (n*a.size)).map fun i=>a[i % a.size]!).toList
 |0=>by simp[nH,dm]
 |n+1=>by
  have g:=fv h;simp only[ds]at g;have p:=AS h n;refine j7 (by rw[kL];simp[g]) fun j x v d o=>?_;simp only[nH]at d;have e:a[j % a.size]! = v:=by
   have:=o;simp only[Array.toList_map,cu,cK,Array.toList_range]at this;obtain⟨i,c,rfl⟩:=this;have:i=j:=by
    rw[List.getElem?_range]at c
    ·simpa using c.symm
    rcases aU j ((n+1)*a.size)with b|b
    ·exact b
    rw[cw (by simpa using b)]at c;cases c
   rw[this]
  by_cases m:j<z.length
  ·rw[cA m]at d;obtain⟨u,b,k⟩:=ja h d;have:a[j % a.size]! = u:=by
    rw[Nat.mod_eq_of_lt (by omega)];have f:a[j]?=some u:=by simpa using b
    simp[getElem!_def,f]
   rw[<-e,this];exact k
  rw[cR (by omega)]at d;obtain⟨u,b,k⟩:=ja p d;have l:j-z.length<n*a.size:=by
   rcases aU (j-z.length) (n*a.size)with f|f
   ·exact f
   rw[cw (by rw[kL,g];omega)]at d;cases d
  have:a[j % a.size]! = u:=by simp only[Array.toList_map,cu,cK,Array.toList_range]at b;obtain⟨i,c,rfl⟩:=b;rw[List.getElem?_range l]at c;cases c;rw[g,show j=(j-a.size)+a.size by omega,Nat.add_mod_right,Nat.add_sub_cancel]
  rw[<-e,this];exact k
theorem xr{σ:ey}(sz:Nat):∀(ps:List (Nat×SV)) (vs:List (Nat×Value)) (cs:List SV) (b:Array Value) (l:List SV),ps.length=vs.length ->
   (∀(j:Nat) (i:Nat) (x:SV),ps[j]?=some (i,x)->∃v,vs[j]?=some (i,v)/\iV x=true/\rel σ x v)->dm σ cs b.toList->qo sz cs ps=some l ->
   ∃out,Instr.fill (fun i=>some (i*sz,sz)) b vs=some out/\dm σ l out.toList/\out.size=b.size
 |[],[],cs,b,l,_,_,e,h=>by
  simp only[qo,db]at h;subst h;exact⟨b,rfl,e,rfl⟩
 |(i,x)::ps,(c,v)::vs,cs,b,l,hlen,t,e,h=>by
  obtain⟨D,s,n,q⟩:=t 0 i x rfl;simp only[List.getElem?_cons_zero,db,eb]at s;obtain⟨rfl,rfl⟩:=s;simp only[qo]at h;split at h
  ·rename_i w;obtain⟨y,z⟩:=w;have f:=nM n q;have k:=fv f;have m:=fv e;simp only[ds]at k m;have a:=Co b (c*sz) v.cells.toList (by simp;omega) 0;simp only[ds,gl]at a;rcases a with a|a
   ·have g:dm σ (cs.take (c*sz)++(cellsOf x++cs.drop (c*sz+sz))) (v.cells.toList.zipIdx.foldl (fun cs (p:Value×Nat)=>cs.setIfInBounds (c*sz+p.2) p.1) b).toList:=by rw[a];refine kK (po _ e) (kK f ?_);have:=pk (c*sz+sz) e;rw[show c*sz+v.cells.size=c*sz+sz by omega];exact this
    obtain⟨out,B,o,r⟩:=xr sz ps vs _ _ l (by simpa using hlen) (fun j i x A=>t (j+1) i x (by simpa using A)) g h;refine⟨out, ?_,o, ?_⟩
    ·simp only[Instr.fill];have d:¬(v.cells.size≠sz\/c*sz+v.cells.size>b.size):=by omega
     rw[aA (by simpa using d)];have C:v.cells.zipIdx.foldl (fun cs (p:Value×Nat)=>cs.setIfInBounds (c*sz+p.2) p.1) b=v.cells.toList.zipIdx.foldl (fun cs (p:Value×Nat)=>cs.setIfInBounds (c*sz+p.2) p.1) b:=by rw[<-Array.foldl_toList];simp
     have:=B;rw[<-C]at this;exact this
    rw[r];have u:=cD List.length a;simp only[ds,aC,aZ,bK]at u;omega
   omega
  ·cases h
 |[],_::_,_,_,_,h,_,_,_=>by simp at h
 |_::_,[],_,_,_,h,_,_,_=>by simp at h
end Go.Vg
end
