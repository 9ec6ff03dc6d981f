/- Own text: part UAB. -/
import Derived.Test.YtgippllfnmdnpaaGreatDoorUAA
import Derived.Laws.Entries
import Derived.Laws.Append
set_option linter.all false
section
namespace Go.Vg
variable [Go.Vg.Glob]
open Go.RowKit
def cellsOf:SV→List SV
 | .agg l=>l
 | x=>[x]
/-- Parts laid into the cells of an aggregate. -/
def fillS (te:TE) (fs:List (TypeId×Nat)) (cs:List SV):List (Nat×SV)→Option (List SV)
 | []=>some cs
 | (i,x)::r=>match fs[i]? with
  | none=>none
  | some (t,off)=>match te t with
   | none=>none
   | some ti=>if (cellsOf x).length=ti.size∧off+ti.size≤cs.length then fillS te fs (cs.take off++(cellsOf x++cs.drop (off+ti.size))) r else none
def ji:SV→Bool
 | .gd _ _ | .u | .tup _=>false
 | _=>true
def xconv (te:TE) (wr c:Bool) (d:TypeId) (x:SV) (K:SV→Prop):Prop:=
 match tdOf te d,x with
 | .int k,.i _ n=>if wr then K (.i k (k.wrap n)) else Chk (c=true→inR k n) (K (.i k n))
 | .str,.s l=>K (.s l)
 | .str,.i _ n=>K (.s (Utf8.encode n).data.toList)
 | _,_=>False
/-- A bound of a cut: the operand,or what stands for none. -/
def bndS (st:St) (c:Bool) (o:Option Operand) (d:Int) (K:Int→Prop):Prop:=
 match o with
 | none=>K d
 | some x=>ung c (st.ev x) fun v=>match v with
  | .i _ n=>K n
  | _=>False
def xcut (te:TE) (t:TypeId) (st:St) (c:Bool) (x:SV) (lo hi:Option Operand) (K:SV→Prop):Prop:=
 match tdOf te t,x with
 | .str,.s l=>bndS st c hi l.length fun h=>bndS st c lo 0 fun b=>Chk (c=true→0≤b∧b≤h∧h≤l.length) (K (.s ((l.take h.toNat).drop b.toNat)))
 | .slice e,.slc h a len=>(match st.ctx.at h with | some o=>o.isMap=false∧te e≠none∧j8 te e=o.sz | none=>False) ∧
   bndS st c hi len fun y=>bndS st c lo 0 fun b=>Chk (c=true→0≤b∧b≤y∧y≤len) (K (.slc h (a+b.toNat) (y.toNat-b.toNat)))
 | .slice e,.fs sz l=>te e≠none∧j8 te e=sz ∧
   bndS st c hi l.length fun y=>bndS st c lo 0 fun b=>Chk (c=true→0≤b∧b≤y∧y≤l.length) (K (.fs sz ((l.take y.toNat).drop b.toNat)))
 | _,_=>False
def zry (te:TE) (wr c:Bool) (st:St) (o:Op) (K:SV→Prop):Prop:=
 match o with
 | .move x=>K (st.ev x)
 | .assign x=>K (st.ev x)
 | .pick e a b=>ung c (st.ev e) fun e'=>match e' with
  | .b e0=>ung (c&&e0) (st.ev a) fun a'=>ung (c&&!e0) (st.ev b) fun b'=>match a',b' with
   | .b x,.b y=>K (.b (bif e0 then x else y))
   | _,_=>False
  | _=>False
 | .nilCheck x=>ung c (st.ev x) fun v=>match v with
  | .ptr h i k=>K (.ptr h i k)
  | .fp l k=>K (.fp l k)
  | _=>False
 | .fieldAddr s x f=>ung c (st.ev x) fun v=>match v,tdOf te s with
  | .ptr h i k,.struct fs=>match fs[f]? with
   | some (ft,off)=>te ft≠none∧j8 te ft≠0∧K (.ptr h i (k+off))
   | none=>False
  | .fp l k,.struct fs=>match fs[f]? with
   | some (ft,off)=>te ft≠none∧j8 te ft≠0∧K (.fp l (k+off))
   | none=>False
  | _,_=>False
 | .indexAddr t x ix=>ung c (st.ev x) fun v=>ung c (st.ev ix) fun n=>match v,n,tdOf te t with
  | .slc h lo len,.i _ n,.slice e=>(match st.ctx.at h with | some o=>o.isMap=false∧te e≠none∧j8 te e=o.sz | none=>False) ∧
    Chk (c=true→0≤n∧n<len) (K (.ptr h (lo+n.toNat) 0))
  | .fs sz l,.i _ n,.slice e=>te e≠none∧j8 te e=sz∧Chk (c=true→0≤n∧n<l.length) (K (.fp (l.getD n.toNat (zop te e)) 0))
  | _,_,_=>False
 | .index t x ix=>ung c (st.ev x) fun v=>ung c (st.ev ix) fun n=>match v,n,tdOf te t with
  | .s l,.i _ n,.str=>Chk (c=true→0≤n∧n<l.length) (K (.i .u8 (l.getD n.toNat 0).toNat))
  | _,_,_=>False
 | .extract x i=>ung c (st.ev x) fun v=>match v with
  | .tup l=>i<l.length∧K (l.getD i .u)
  | _=>False
 | .binOp op t x y _=>ung c (st.ev x) fun v=>ung c (st.ev y) fun y=>zjz te t wr c op v y K
 | .unOp .not _ x=>ung c (st.ev x) fun v=>match v with
  | .b b=>K (.b (!b))
  | _=>False
 | .unOp .neg _ x=>ung c (st.ev x) fun v=>match v with
  | .i k n=>Chk (c=true→inR k (0-n)) (K (.i k (0-n)))
  | _=>False
 | .convert s d x=>te s≠none∧ung c (st.ev x) fun v=>xconv te wr c d v K
 | .slice t x lo hi none=>ung c (st.ev x) fun v=>xcut te t st c v lo hi K
 | .build t parts=>match te t with
  | some ti=>match ti.td with
   | .struct fs=>(parts.toList.all fun p=>ji (st.ev p.2))=true∧(fs.all fun p=>(te p.1).isSome)=true ∧
     match fillS te fs ti.zero (parts.toList.map fun p=>(p.1,st.ev p.2)) with
     | some l=>K (.agg l)
     | none=>False
   | _=>False
  | none=>False
 | .call { callee:=.builtin .len,args:=args,argTypes:=ts }=>match args.toList,ts.toList with
  | [x],[t]=>ung c (st.ev x) fun v=>match v,tdOf te t with
   | .s l,.str=>K (.i .i64 l.length)
   | .slc _ _ len,.slice _=>K (.i .i64 len)
   | .fs _ l,.slice _=>K (.i .i64 l.length)
   | .nils,.slice _=>K (.i .i64 0)
   | _,_=>False
  | _,_=>False
 | .call { callee:=.builtin .min,args:=args,argTypes:=_ }=>match args.toList with
  | [x,y]=>ung c (st.ev x) fun v=>ung c (st.ev y) fun q=>match v,q with
   | .i k a,.i _ b=>K (.i k (if b<a then b else a))
   | _,_=>False
  | _=>False
 | .call { callee:=.builtin .max,args:=args,argTypes:=_ }=>match args.toList with
  | [x,y]=>ung c (st.ev x) fun v=>ung c (st.ev y) fun q=>match v,q with
   | .i k a,.i _ b=>K (.i k (if b>a then b else a))
   | _,_=>False
  | _=>False
 | _=>False
/-- What an operation that looks at no memory comes to. -/
def OutP (P:Program) (σ:Asg) (c:Bool) (s:Sem Next) (K:SV→Prop):Prop:=
 ∃ z,K z∧(c=true→∃ v,rel σ z v∧∀ w,s.run P w=.ok (.value v) w)
theorem wg {P:Program} {s:Sem Value} {v:Value} {w w':World} (h:s.run P w=.ok v w') :
  ((do pure (Next.value (←s))):Sem Next).run P w=.ok (.value v) w':=by simp [h]
theorem x8 {P:Program} {A:Amb} {σ:Asg} {st:St} {a:Act} {w:World} (hR:Rel A σ st a w) {c:Bool} {o:Option Operand} {d:Int} {K:Int→Prop}
  (h:bndS st c o d K):∃ n,K n∧(c=true→match o with | none=>n=d | some x=>∃ k,a.eval x=.int k n):=by
 unfold bndS at h;cases o with
 | none=>exact ⟨d,h,fun _=>rfl⟩
 | some x=>
  obtain ⟨y,hy,hr⟩:=y9 (hR.ev x) h;split at hy
  ·rename_i k n;refine ⟨n,hy,fun hc=>⟨k, ?_⟩⟩;have:=hr hc;simpa only [rel] using this
  ·exact hy.elim
theorem v6 {P:Program} (k:IntKind) (n:Int) (y:Nat) (code:BoundsCode) (w:World) (h0:0≤n) (h1:n≤y):(Instr.sliceBound (.int k n) y code).run P w=.ok n.toNat w:=by simp [Instr.sliceBound,asIntOf,h0,h1]
theorem ze8 {P:Program} (isSlice:Bool) (len cap:Nat) (lo hi:Option Value) (b y:Int) (w:World)
  (hl:match lo with | none=>b=0 | some x=>∃ k,x=.int k b) (hh:match hi with | none=>y=len | some x=>∃ k,x=.int k y)
  (h0:0≤b) (h1:b≤y) (h2:y≤cap):(Instr.sliceBounds isSlice len cap lo hi none).run P w=.ok (b.toNat,y.toNat,cap) w:=by
 unfold Instr.sliceBounds;cases hi with
 | none=>
  subst hh;cases lo with
  | none=>subst hl;simp
  | some x=>
   obtain ⟨k,rfl⟩:=hl;simp [v6 k b len _ w h0 h1]
 | some z=>
  obtain ⟨k',rfl⟩:=hh;cases lo with
  | none=>subst hl;simp [v6 k' y cap _ w (by omega) h2]
  | some x=>obtain ⟨k,rfl⟩:=hl;simp [v6 k' y cap _ w (by omega) h2,v6 k b y.toNat _ w h0 (by omega)]
theorem zm4 (l:List UInt8) (a b:Nat):(ByteArray.mk l.toArray).extract a b=ByteArray.mk ((l.take b).drop a).toArray:=by ext1;simp [ByteArray.data_extract,List.extract_eq_take_drop,List.drop_take]
theorem z1m {P:Program} {te:TE} (hte:vh P te) {σ:Asg} {w:World} {st:St} (hs:Sat σ w st.ctx) {h:Nat} {e:TypeId}
  (hl:match st.ctx.at h with | some o=>o.isMap=false∧te e≠none∧j8 te e=o.sz | none=>False) :
  ∃ ti,te e=some ti∧∀ L,σ h=some L→L.sz=ti.size:=by
 cases ho:st.ctx.at h with
 | none=>rw [ho] at hl;exact hl.elim
 | some o=>
  rw [ho] at hl;obtain ⟨hm,hne,hsz⟩:=hl;obtain ⟨ti,hti⟩:=Option.ne_none_iff_exists'.1 hne;refine ⟨ti,hti,fun L hL=>?_⟩;have h1:=hs.obj h o ho;unfold qc at h1;rw [hm] at h1;simp only [j8,hti] at hsz;rcases h1 with ⟨_,h2⟩ | ⟨L',c,e',fr,h2,h3⟩
  ·rw [h2] at hL;cases hL
  ·rw [h2] at hL;cases hL;rw [h3.lsz,hsz]
theorem zw0 {P:Program} {te:TE} (hte:vh P te) {A:Amb} {σ:Asg} {st:St} {a:Act} {w:World} (hR:Rel A σ st a w) {c:Bool} {t:TypeId} {x:SV} {vx:Value} {lo hi:Option Operand} {K:SV→Prop}
  (hx:c=true→rel σ x vx) (h:xcut te t st c x lo hi K) :
  ∃ z,K z∧(c=true→∃ v,rel σ z v∧∀ w,(Instr.sliceAt t vx (lo.map a.eval) (hi.map a.eval) none).run P w=.ok v w):=by
 unfold xcut at h;split at h
 ·rename_i l htd;obtain ⟨y,h,hhi⟩:=x8 (P:=P) hR h;obtain ⟨b,h,hlo⟩:=x8 (P:=P) hR h;obtain ⟨hb,h⟩:=h.out;refine ⟨_,h,fun hc=>?_⟩;have h1:=hx hc;simp only [rel] at h1;subst h1;refine ⟨.string ⟨((l.take y.toNat).drop b.toNat).toArray⟩,by simp only [rel],fun w=>?_⟩;obtain ⟨b0,b1,b2⟩:=hb hc;have hl':match lo.map a.eval with | none=>b=0 | some x=>∃ k,x=.int k b:=by have:=hlo hc;cases lo<;>simpa using this
  have hh':match hi.map a.eval with | none=>y=((ByteArray.mk l.toArray).size:Nat) | some x=>∃ k,x=.int k y:=by have:=hhi hc;cases hi<;>simpa [ByteArray.size] using this
  simp only [Instr.sliceAt,Sem.run_bind,qj (jy hte htd),Result.andThen_ok,Instr.slice];simp [ze8 false (ByteArray.mk l.toArray).size (ByteArray.mk l.toArray).size _ _ b y w hl' hh' b0 b1 (by simpa [ByteArray.size] using b2),zm4]
 ·rename_i e h' aa len htd;obtain ⟨hlive,h⟩:=h;obtain ⟨y,h,hhi⟩:=x8 (P:=P) hR h;obtain ⟨b,h,hlo⟩:=x8 (P:=P) hR h;obtain ⟨hb,h⟩:=h.out;refine ⟨_,h,fun hc=>?_⟩;have h1:=hx hc;simp only [rel] at h1;obtain ⟨ad,cap,rfl,hlen,h1⟩:=h1;obtain ⟨b0,b1,b2⟩:=hb hc;obtain ⟨ti,hti,hsz⟩:=z1m hte hR.sat hlive;have hl':match lo.map a.eval with | none=>b=0 | some x=>∃ k,x=.int k b:=by have:=hlo hc;cases lo<;>simpa using this
  have hh':match hi.map a.eval with | none=>y=(len:Nat) | some x=>∃ k,x=.int k y:=by have:=hhi hc;cases hi<;>simpa using this
  refine ⟨.slice (if cap=b.toNat then ad else ad.map (·.add (b.toNat * ti.size))) (y.toNat-b.toNat) (cap-b.toNat), ?_,fun w=>?_⟩
  ·simp only [rel];refine ⟨_,_,rfl,by omega, ?_⟩;by_cases hcb:cap=b.toNat
   ·left;omega
   ·right;rcases h1 with h1 | ⟨L,hL,rfl,hav⟩
    ·omega
    ·refine ⟨L,hL, ?_, ?_⟩
     ·rw [if_neg hcb,←hsz L hL];simp only [Option.map_some,vp,Addr.add,Option.some.injEq];split
      ·rename_i h0;simp only [Addr.mk.injEq,and_true,true_and];rcases Nat.mul_eq_zero.1 h0 with h0 | h0
       ·rw [h0];simp
       ·rw [h0];simp
      ·simp only [Addr.mk.injEq,and_true,true_and];rw [Nat.add_mul];omega
     ·have:(aa+b.toNat+(cap-b.toNat))=aa+cap:=by omega
      rw [this];exact hav
  ·simp only [Instr.sliceAt,Sem.run_bind,qj (qz hte htd),Result.andThen_ok,Instr.slice];simp [ze8 true len cap _ _ b y w hl' hh' b0 b1 (by omega),kw hte hti]
 ·rename_i e sz l htd;obtain ⟨hne,hsz,h⟩:=h;obtain ⟨ti,hti⟩:=Option.ne_none_iff_exists'.1 hne;have hsz':ti.size=sz:=by simpa [j8,hti] using hsz
  obtain ⟨y,h,hhi⟩:=x8 (P:=P) hR h;obtain ⟨b,h,hlo⟩:=x8 (P:=P) hR h;obtain ⟨hb,h⟩:=h.out;refine ⟨_,h,fun hc=>?_⟩;have h1:=hx hc;simp only [rel] at h1;obtain ⟨ad,cap,rfl,hlen,h1⟩:=h1;obtain ⟨b0,b1,b2⟩:=hb hc;have hl':match lo.map a.eval with | none=>b=0 | some x=>∃ k,x=.int k b:=by have:=hlo hc;cases lo<;>simpa using this
  have hh':match hi.map a.eval with | none=>y=(l.length:Nat) | some x=>∃ k,x=.int k y:=by have:=hhi hc;cases hi<;>simpa using this
  refine ⟨.slice (if cap=b.toNat then ad else ad.map (·.add (b.toNat * ti.size))) (y.toNat-b.toNat) (cap-b.toNat), ?_,fun w=>?_⟩
  ·simp only [rel];have hlen2:((l.take y.toNat).drop b.toNat).length=y.toNat-b.toNat:=by simp;omega
   refine ⟨_,_,by rw [hlen2],by omega, ?_⟩;by_cases hcb:y.toNat=b.toNat
   ·left;exact List.length_eq_zero_iff.1 (by omega)
   ·right;rcases h1 with h1 | ⟨bb,off,cs,e',fr,rfl,h2,h3⟩
    ·subst h1;simp at b2;omega
    ·refine ⟨bb,off+b.toNat * sz,cs,e',fr, ?_,h2,ub fun j x hx=>?_⟩
     ·rw [if_neg (by omega),hsz'];simp only [Option.map_some,Addr.add,Option.some.injEq];split
      ·rename_i h0;rw [h0];simp
      ·rfl
     ·rw [List.getElem?_drop,List.getElem?_take] at hx;split at hx
      ·have:=zdu h3 hx;rw [List.drop_drop] at this ⊢;rw [show off+b.toNat * sz+j * sz=off+(b.toNat+j) * sz by rw [Nat.add_mul];omega];exact this
      ·cases hx
  ·simp only [Instr.sliceAt,Sem.run_bind,qj (qz hte htd),Result.andThen_ok,Instr.slice];simp [ze8 true l.length cap _ _ b y w hl' hh' b0 b1 (by omega),kw hte hti]
 ·exact h.elim
theorem zr0 {P:Program} {te:TE} (hte:vh P te) {σ:Asg} {wr c:Bool} {s d:TypeId} (hs:te s≠none) {x:SV} {vx:Value} {K:SV→Prop}
  (hx:c=true→rel σ x vx) (h:xconv te wr c d x K):∃ z,K z∧(c=true→∃ v,rel σ z v∧∀ w,(convert s d vx).run P w=.ok v w):=by
 obtain ⟨ti,hti⟩:=Option.ne_none_iff_exists'.1 hs;obtain ⟨ds,hds,_⟩:=desc_of hte hti;unfold xconv at h;split at h
 ·rename_i k k' n htd;split at h
  ·refine ⟨_,h,fun hc=>?_⟩;have h1:=hx hc;simp only [rel] at h1;subst h1;exact ⟨.int k (k.wrap n),by simp only [rel],fun w=>by simp [convert,qj hds,qj (vq hte htd),Conv.intToInt]⟩
  ·obtain ⟨h0,h⟩:=h.out;refine ⟨_,h,fun hc=>?_⟩;have h1:=hx hc;simp only [rel] at h1;subst h1;exact ⟨.int k n,by simp only [rel],fun w=>by simp [convert,qj hds,qj (vq hte htd),Conv.intToInt,zas (h0 hc)]⟩
 ·rename_i l htd;refine ⟨_,h,fun hc=>?_⟩;have h1:=hx hc;simp only [rel] at h1;subst h1;exact ⟨.string ⟨l.toArray⟩,by simp only [rel],fun w=>by simp [convert,qj hds,qj (jy hte htd)]⟩
 ·rename_i k n htd;refine ⟨_,h,fun hc=>?_⟩;have h1:=hx hc;simp only [rel] at h1;subst h1;exact ⟨.string (Utf8.encode n),by simp only [rel],fun w=>by simp [convert,qj hds,qj (jy hte htd),Conv.intToString]⟩
 ·exact h.elim
theorem zau {σ:Asg} {x:SV} {v:Value} (hk:ji x=true) (h:rel σ x v):relL σ (cellsOf x) v.cells.toList:=by
 cases x<;>simp only [ji,Bool.false_eq_true] at hk<;>simp only [rel] at h<;>simp only [cellsOf]
 case agg l=>obtain ⟨cs,rfl,h⟩:=h;exact h
 case b x=>subst h;simp [Value.cells,relL,rel]
 case i x=>subst h;simp [Value.cells,relL,rel]
 case s x=>subst h;simp [Value.cells,relL,rel]
 case ptr x=>obtain ⟨L,hL,rfl⟩:=h;simp [Value.cells,relL,rel,hL]
 case slc x=>
  obtain ⟨ad,cap,rfl,h1,h2⟩:=h;simp only [Value.cells,relL,rel];exact ⟨_,_,rfl,⟨_,_,rfl,h1,h2⟩,rfl⟩
 case nils=>subst h;simp [Value.cells,relL,rel]
 case mp x=>obtain ⟨L,hL,rfl⟩:=h;simp [Value.cells,relL,rel,hL]
 case fn x=>subst h;simp [Value.cells,relL,rel]
 case fs x=>
  obtain ⟨ad,cap,rfl,h1,h2⟩:=h;simp only [Value.cells,relL,rel];exact ⟨_,_,rfl,⟨_,_,rfl,h1,h2⟩,rfl⟩
 case fp x=>
  obtain ⟨b,off,c,e,fr,rfl,h1,h2⟩:=h;simp only [Value.cells,relL,rel];exact ⟨_,_,rfl,⟨_,_,_,_,_,rfl,h1,h2⟩,rfl⟩
theorem vu {σ:Asg}:∀ {a b:List SV} {u v:List Value},relL σ a u→relL σ b v→relL σ (a++b) (u++v)
 | [],b,u,v,h,k=>by simp only [relL] at h;subst h;simpa using k
 | x::xs,b,u,v,h,k=>by simp only [relL] at h;obtain ⟨y,r,rfl,h1,h2⟩:=h;simp only [List.cons_append,relL];exact ⟨y,r++v,rfl,h1,vu h2 k⟩
theorem zrd (cs:Array Value) (off:Nat) (vs:List Value) (hl:off+vs.length≤cs.size):∀ (k:Nat),
  ((vs.zipIdx k).foldl (fun cs (p:Value×Nat)=>cs.setIfInBounds (off+p.2) p.1) cs).toList=cs.toList.take (off+k)++(vs++cs.toList.drop (off+k+vs.length))∨cs.size<off+k+vs.length:=by
 induction vs generalizing cs with
 | nil=>intro k;left;simp
 | cons v vs ih=>
  intro k;by_cases hk:cs.size<off+k+(v::vs).length
  ·exact .inr hk
  ·left;simp only [List.zipIdx_cons,List.foldl_cons];have hl':off+vs.length≤(cs.setIfInBounds (off+k) v).size:=by simp at hl ⊢;omega
   rcases ih (cs.setIfInBounds (off+k) v) hl' (k+1) with h | h
   ·rw [h];simp only [List.length_cons] at hk;have hlt:off+k<cs.toList.length:=by simp;omega
    simp only [Array.toList_setIfInBounds];rw [show off+(k+1)=(off+k)+1 by omega,List.take_succ_eq_append_getElem (by simpa using hlt)];simp only [List.getElem_set_self,List.take_set_of_le (Nat.le_refl _),List.append_assoc,List.cons_append,List.nil_append];rw [List.drop_set_of_lt (by omega)];congr 4;simp;omega
   ·simp at h hk;omega
theorem zjl {P:Program} {te:TE} (hte:vh P te) {σ:Asg} (fs:List (TypeId×Nat)) (pl:Array (Nat×Nat))
  (hpl:∀ (i:Nat) (t:TypeId) (off:Nat) (ti:TI),fs[i]?=some (t,off)→te t=some ti→pl[i]?=some (off,ti.size)) :
  ∀ (ps:List (Nat×SV)) (vs:List (Nat×Value)) (cs:List SV) (cv:Array Value) (l:List SV),ps.length=vs.length →
   (∀ (j:Nat) (i:Nat) (x:SV),ps[j]?=some (i,x)→∃ v,vs[j]?=some (i,v)∧ji x=true∧rel σ x v)→relL σ cs cv.toList→fillS te fs cs ps=some l →
   ∃ out,Instr.fill (pl[·]?) cv vs=some out∧relL σ l out.toList
 | [],[],cs,cv,l,_,_,hr,h=>by
  simp only [fillS,Option.some.injEq] at h;subst h;exact ⟨cv,rfl,hr⟩
 | (i,x)::ps,(i',v)::vs,cs,cv,l,hlen,hv,hr,h=>by
  obtain ⟨v',e1,hok,hrx⟩:=hv 0 i x rfl;simp only [List.getElem?_cons_zero,Option.some.injEq,Prod.mk.injEq] at e1;obtain ⟨rfl,rfl⟩:=e1;simp only [fillS] at h;split at h
  ·cases h
  rename_i t off hf;split at h
  ·cases h
  rename_i ti hti;split at h
  ·rename_i hc;obtain ⟨hc1,hc2⟩:=hc;have hrc:=zau hok hrx;have hl1:=y4 hrc;have hl2:=y4 hr;simp only [Array.length_toList] at hl1 hl2;have hfold:=zrd cv off v.cells.toList (by simp;omega) 0;simp only [Array.length_toList,Nat.add_zero] at hfold;rcases hfold with hfold | hfold
   ·have hrel:relL σ (cs.take off++(cellsOf x++cs.drop (off+ti.size))) (v.cells.toList.zipIdx.foldl (fun cs (p:Value×Nat)=>cs.setIfInBounds (off+p.2) p.1) cv).toList:=by rw [hfold];refine vu (zbf _ hr) (vu hrc ?_);have:=zbg (off+ti.size) hr;rw [show off+v.cells.size=off+ti.size by omega];exact this
    obtain ⟨out,ho,hro⟩:=zjl hte fs pl hpl ps vs _ _ l (by simpa using hlen) (fun j i x hj=>hv (j+1) i x (by simpa using hj)) hrel h;refine ⟨out, ?_,hro⟩;simp only [Instr.fill,hpl i' t off ti hf hti];have hcond:¬(v.cells.size≠ti.size∨off+v.cells.size>cv.size):=by omega
    rw [if_neg (by simpa using hcond)];have hz:v.cells.zipIdx.foldl (fun cs (p:Value×Nat)=>cs.setIfInBounds (off+p.2) p.1) cv=v.cells.toList.zipIdx.foldl (fun cs (p:Value×Nat)=>cs.setIfInBounds (off+p.2) p.1) cv:=by rw [←Array.foldl_toList];simp
    have:=ho;rw [←hz] at this;exact this
   ·omega
  ·cases h
 | [],_::_,_,_,_,h,_,_,_=>by simp at h
 | _::_,[],_,_,_,h,_,_,_=>by simp at h
theorem zdq {P:Program} {α β:Type} (f:α→Sem β) (g:α→β) (w:World):∀ (l:List α),(∀ x∈l,(f x).run P w=.ok (g x) w)→(l.mapM f).run P w=.ok (l.map g) w
 | [],_=>rfl
 | x::xs,h=>by simp [List.mapM_cons,h x (by simp),zdq f g w xs fun y hy=>h y (List.mem_cons_of_mem _ hy)]
theorem zo6 {P:Program} {α β:Type} (l:Array α) (f:α→Sem β) (g:α→β) (w:World) (h:∀ x∈l.toList,(f x).run P w=.ok (g x) w):(l.mapM f).run P w=.ok (l.map g) w:=by rw [Array.mapM_eq_mapM_toList];simp only [Sem.run_map,zdq f g w l.toList h,Result.andThen_ok];congr 1;simp [←Array.toList_inj]
theorem zw7 {P:Program} (b:Bool) (w:World):(asBool (.bool b)).run P w=.ok b w:=rfl
theorem zr4 {te:TE} {t:TypeId} (h:te t≠none):∃ ti,te t=some ti:=Option.ne_none_iff_exists'.1 h
theorem zc6 {P:Program} {te:TE} (hte:vh P te) {A:Amb} {σ:Asg} {st:St} {a:Act} {w:World} (hR:Rel A σ st a w) {wr c:Bool} {o:Oper} {K:SV→Prop}
  (h:zry te wr c st o.op K):OutP P σ c (execOp a.eval o) K:=by
 obtain ⟨dst,op,ty,pos,after,guard⟩:=o;simp only at h;unfold zry at h;split at h
 case h_1 x=>exact ⟨_,h,fun _=>⟨_,hR.ev x,fun w=>rfl⟩⟩
 case h_2 x=>exact ⟨_,h,fun _=>⟨_,hR.ev x,fun w=>rfl⟩⟩
 case h_3 e a1 b1=>
  obtain ⟨y,h,hr⟩:=y9 (hR.ev e) h;split at h
  ·rename_i e0;obtain ⟨y1,h,hr1⟩:=y9 (hR.ev a1) h;obtain ⟨y2,h,hr2⟩:=y9 (hR.ev b1) h;split at h
   ·rename_i x1 x2 _;refine ⟨_,h,fun hc=>⟨.bool (bif e0 then x1 else x2),by simp only [rel],fun w=>?_⟩⟩;have h0:=hr hc;simp only [rel] at h0;simp only [execOp,h0,Sem.run_bind,zw7,Result.andThen_ok];cases e0 with
    | true=>
     have:=hr1 (by simp [hc]);simp only [rel] at this;simp [this]
    | false=>have:=hr2 (by simp [hc]);simp only [rel] at this;simp [this]
   ·exact h.elim
  ·exact h.elim
 case h_4 x=>
  obtain ⟨y,h,hr⟩:=y9 (hR.ev x) h;split at h
  ·rename_i hh i k;refine ⟨_,h,fun hc=>⟨_,hr hc,fun w=>?_⟩⟩;have:=hr hc;simp only [rel] at this;obtain ⟨L,hL,hv⟩:=this;simp [execOp,hv]
  ·rename_i l k;refine ⟨_,h,fun hc=>⟨_,hr hc,fun w=>?_⟩⟩;have:=hr hc;simp only [rel] at this;obtain ⟨b,off,c,e,fr,hv,_⟩:=this;simp [execOp,hv]
  ·exact h.elim
 case h_5 s x f=>
  obtain ⟨y,h,hr⟩:=y9 (hR.ev x) h;split at h
  ·rename_i hh i k fs htd;split at h
   ·rename_i ft off hf;obtain ⟨hft,hz,h⟩:=h;obtain ⟨ti,hti⟩:=zr4 hft;refine ⟨_,h,fun hc=>?_⟩;have:=hr hc;simp only [rel] at this;obtain ⟨L,hL,hv⟩:=this;refine ⟨.pointer (some (vp L i (k+off))),by simp only [rel];exact ⟨L,hL,rfl⟩,fun w=>?_⟩;obtain ⟨ff,hff,hmap,_⟩:=xy hte htd;have hfl:∃ fl,ff[f]?=some fl∧fl.type=ft∧fl.offset=off:=by rw [←hmap] at hf;simp only [List.getElem?_map,Option.map_eq_some_iff,Prod.mk.injEq] at hf;obtain ⟨fl,h1,h2,h3⟩:=hf;exact ⟨fl,by simpa using h1,h2,h3⟩
    obtain ⟨fl,hfl,rfl,rfl⟩:=hfl;have hz':ti.size≠0:=by simpa [j8,hti] using hz
    simp only [execOp,Instr.fieldAt,hv,Sem.run_bind,qj hff,Result.andThen_ok,hfl,Instr.sureAddr,fieldPlace,kw hte hti,if_neg hz',Sem.run_pure];simp only [Addr.add,vp];split
    ·rename_i h0;simp [h0]
    ·simp [Nat.add_assoc]
   ·exact h.elim
  ·rename_i l k fs htd;split at h
   ·rename_i ft off hf;obtain ⟨hft,hz,h⟩:=h;obtain ⟨ti,hti⟩:=zr4 hft;refine ⟨_,h,fun hc=>?_⟩;have:=hr hc;simp only [rel] at this;obtain ⟨b,bo,c,e,fr,hv,hfz,hrl⟩:=this;refine ⟨.pointer (some ⟨b,bo+(k+off),none⟩),by simp only [rel];exact ⟨b,bo,c,e,fr,rfl,hfz,hrl⟩,fun w=>?_⟩;obtain ⟨ff,hff,hmap,_⟩:=xy hte htd;have hfl:∃ fl,ff[f]?=some fl∧fl.type=ft∧fl.offset=off:=by rw [←hmap] at hf;simp only [List.getElem?_map,Option.map_eq_some_iff,Prod.mk.injEq] at hf;obtain ⟨fl,h1,h2,h3⟩:=hf;exact ⟨fl,by simpa using h1,h2,h3⟩
    obtain ⟨fl,hfl,rfl,rfl⟩:=hfl;have hz':ti.size≠0:=by simpa [j8,hti] using hz
    simp only [execOp,Instr.fieldAt,hv,Sem.run_bind,qj hff,Result.andThen_ok,hfl,Instr.sureAddr,fieldPlace,kw hte hti,if_neg hz',Sem.run_pure];simp only [Addr.add];split
    ·rename_i h0;simp [h0]
    ·simp [Nat.add_assoc]
   ·exact h.elim
  ·exact h.elim
 case h_6 t x ix=>
  obtain ⟨y,h,hr⟩:=y9 (hR.ev x) h;obtain ⟨y2,h,hr2⟩:=y9 (hR.ev ix) h;split at h
  ·rename_i hh lo len k n e htd _;obtain ⟨hlive,h⟩:=h;obtain ⟨hb,h⟩:=h.out;refine ⟨_,h,fun hc=>?_⟩;obtain ⟨ti,hti,hsz⟩:=z1m hte hR.sat hlive;have h1:=hr hc;have h2:=hr2 hc;obtain ⟨b0,b1⟩:=hb hc;simp only [rel] at h1 h2;obtain ⟨ad,cap,hv,hl,hcap⟩:=h1;rcases hcap with hcap | ⟨L,hL,rfl,hav⟩
   ·omega
   refine ⟨.pointer (some (vp L (lo+n.toNat) 0)),by simp only [rel];exact ⟨L,hL,rfl⟩,fun w=>?_⟩;have hnl:0≤n∧n<(len:Int):=⟨b0,b1⟩
   simp only [execOp,Instr.indexAt,hv,h2,Sem.run_bind,asIntOf,Sem.run_pure,qj (qz hte htd),Result.andThen_ok,if_pos hnl,kw hte hti];simp only [Addr.add,vp,←hsz L hL];simp [Nat.add_mul,Nat.add_assoc]
  ·rename_i sz l k n e htd _;obtain ⟨hne,hszE,h⟩:=h;obtain ⟨hb,h⟩:=h.out;refine ⟨_,h,fun hc=>?_⟩;obtain ⟨ti,hti⟩:=zr4 hne;have hsz':ti.size=sz:=by simpa [j8,hti] using hszE
   have h1:=hr hc;have h2:=hr2 hc;obtain ⟨b0,b1⟩:=hb hc;simp only [rel] at h1 h2;obtain ⟨ad,cap,hv,hl,h1⟩:=h1;rcases h1 with h1 | ⟨bb,off,cs,e',fr,rfl,h3,h4⟩
   ·subst h1;simp at b1;omega
   have hlt:n.toNat<l.length:=by omega
   obtain ⟨g1,g2⟩:=zdu h4 (j:=n.toNat) (x:=l.getD n.toNat (zop te e)) (by simp [List.getD,List.getElem?_eq_getElem hlt]);rw [List.drop_drop] at g2;refine ⟨.pointer (some ⟨bb,off+n.toNat * sz,none⟩),by simp only [rel];exact ⟨bb,off+n.toNat * sz,cs,e',fr,rfl,h3,by rw [g1];exact g2⟩,fun w=>?_⟩;have hnl:0≤n∧n<(l.length:Int):=⟨b0,b1⟩
   simp only [execOp,Instr.indexAt,hv,h2,Sem.run_bind,asIntOf,Sem.run_pure,qj (qz hte htd),Result.andThen_ok,if_pos hnl,kw hte hti];simp only [Addr.add,hsz'];split
   ·rename_i h0;simp [h0]
   ·simp
  ·exact h.elim
 case h_7 t x ix=>
  obtain ⟨y,h,hr⟩:=y9 (hR.ev x) h;obtain ⟨y2,h,hr2⟩:=y9 (hR.ev ix) h;split at h
  ·rename_i l k n htd _;obtain ⟨hb,h⟩:=h.out;refine ⟨_,h,fun hc=>?_⟩;have h1:=hr hc;have h2:=hr2 hc;obtain ⟨b0,b1⟩:=hb hc;simp only [rel] at h1 h2;refine ⟨.int .u8 (l.getD n.toNat 0).toNat,by simp only [rel],fun w=>?_⟩;have hlt:n.toNat<l.length:=by omega
   have hg:(ByteArray.mk l.toArray)[n.toNat]?=some (l.getD n.toNat 0):=by
    have:(ByteArray.mk l.toArray)[n.toNat]?=l[n.toNat]?:=by simp only [getElem?_def,ByteArray.size];simp [ByteArray.getElem_eq_getElem_data]
    rw [this,List.getD,List.getElem?_eq_getElem hlt];rfl
   simp [execOp,Instr.index,h1,h2,asIntOf,qj (jy hte htd),b0,hg]
  ·exact h.elim
 case h_8 x i=>
  obtain ⟨y,h,hr⟩:=y9 (hR.ev x) h;split at h
  ·rename_i l;obtain ⟨hi,h⟩:=h;refine ⟨_,h,fun hc=>?_⟩;have h1:=hr hc;simp only [rel] at h1;obtain ⟨cs,hv,h1⟩:=h1;obtain ⟨v,hcv,hrv⟩:=ky h1 (j:=i) (x:=l.getD i .u) (by simp [List.getD,List.getElem?_eq_getElem hi]);refine ⟨v,hrv,fun w=>?_⟩;have:cs[i]?=some v:=by simpa using hcv
   simp [execOp,Instr.extract,hv,this]
  ·exact h.elim
 case h_9 op t x y ty=>
  obtain ⟨y1,h,hr⟩:=y9 (hR.ev x) h;obtain ⟨y2,h,hr2⟩:=y9 (hR.ev y) h;obtain ⟨z,hz,hv⟩:=zw2 hte x y hr hr2 h;refine ⟨z,hz,fun hc=>?_⟩;obtain ⟨v,hrv,hrun⟩:=hv hc;exact ⟨v,hrv,fun w=>wg (hrun w)⟩
 case h_10 t x=>
  obtain ⟨y,h,hr⟩:=y9 (hR.ev x) h;split at h
  ·rename_i b;refine ⟨_,h,fun hc=>⟨.bool (!b),by simp only [rel],fun w=>?_⟩⟩;have h1:=hr hc;simp only [rel] at h1;simp [execOp,Op.unary,h1]
  ·exact h.elim
 case h_11 t x=>
  obtain ⟨y,h,hr⟩:=y9 (hR.ev x) h;split at h
  ·rename_i k n;obtain ⟨hb,h⟩:=h.out;refine ⟨_,h,fun hc=>⟨.int k (0-n),by simp only [rel],fun w=>?_⟩⟩;have h1:=hr hc;simp only [rel] at h1;simp only [execOp,Op.unary,h1,Op.intArith,zas (hb hc)];rfl
  ·exact h.elim
 case h_12 s d x=>
  obtain ⟨hs,h⟩:=h;obtain ⟨y,h,hr⟩:=y9 (hR.ev x) h;obtain ⟨z,hz,hv⟩:=zr0 hte hs hr h;refine ⟨z,hz,fun hc=>?_⟩;obtain ⟨v,hrv,hrun⟩:=hv hc;exact ⟨v,hrv,fun w=>wg (hrun w)⟩
 case h_13 t x lo hi=>
  obtain ⟨y,h,hr⟩:=y9 (hR.ev x) h;obtain ⟨z,hz,hv⟩:=zw0 hte hR hr h;refine ⟨z,hz,fun hc=>?_⟩;obtain ⟨v,hrv,hrun⟩:=hv hc;exact ⟨v,hrv,fun w=>wg (hrun w)⟩
 case h_14 t parts=>
  split at h
  ·rename_i ti hti;split at h
   ·rename_i fs htd;obtain ⟨hall,hte',h⟩:=h;split at h
    ·rename_i l hfill;refine ⟨_,h,fun hc=>?_⟩;obtain ⟨i,hi,_,_,zv,hzv,hrz,_⟩:=(hte t ti hti).info;obtain ⟨ff,hff,hmap,_⟩:=xy hte ((xz hti).trans htd);have hrz':relL σ ti.zero zv.cells.toList:=jz (leA.nil σ) hrz;have hall':=List.all_eq_true.1 hall;have hsz:∀ f∈ff.toList,∀ w,(sizeOf f.type).run P w=.ok (j8 te f.type) w:=by intro f hf w;have h1:=List.all_eq_true.1 hte' (f.type,f.offset) (by rw [←hmap];exact List.mem_map.2 ⟨f,hf,rfl⟩);obtain ⟨ti',hti'⟩:=Option.isSome_iff_exists.1 h1;rw [kw hte hti'];simp [j8,hti']
     obtain ⟨out,hout,hro⟩:=zjl hte fs (ff.map fun f=>(f.offset,j8 te f.type)) (by
       intro i t off ti1 hf1 ht1;rw [←hmap] at hf1;simp only [List.getElem?_map,Option.map_eq_some_iff,Prod.mk.injEq] at hf1;obtain ⟨fl,h1,rfl,rfl⟩:=hf1;have:ff[i]?=some fl:=by simpa using h1
       simp [this,j8,ht1])
      (parts.toList.map fun p=>(p.1,st.ev p.2)) (parts.map fun (p:Nat×Operand)=>(p.1,a.eval p.2)).toList ti.zero zv.cells l (by simp)
      (by intro j i x hj;simp only [List.getElem?_map,Option.map_eq_some_iff,Prod.mk.injEq] at hj;obtain ⟨p,hp,rfl,rfl⟩:=hj;refine ⟨a.eval p.2, ?_,hall' p (List.mem_of_getElem? hp),hR.ev p.2⟩;simp [hp]) hrz' hfill
     refine ⟨.agg out,by simp only [rel];exact ⟨out,rfl,hro⟩,fun w=>?_⟩;have hzero:(zeroValue t).run P w=.ok zv w:=by simp [zeroValue,zah hi,hzv]
     have hmm:=zo6 (P:=P) ff (fun f=>do let s ←sizeOf f.type;pure (f.offset,s)) (fun f=>(f.offset,j8 te f.type)) w (fun f hf=>by simp [hsz f hf w]);simp only [execOp,Instr.build,Sem.run_bind,hzero,Result.andThen_ok,qj hff,hmm];rw [show (fun x:Nat×Operand=>match x with | (i,x)=>(i,a.eval x))=fun p:Nat×Operand=>(p.1,a.eval p.2) from rfl];simp only [hout,Sem.run_pure,Result.andThen_ok]
    ·exact h.elim
   ·exact h.elim
  ·exact h.elim
 case h_15 args ts=>
  split at h
  ·rename_i x t ha hts;obtain ⟨y,h,hr⟩:=y9 (hR.ev x) h;have ha':args=#[x]:=by rw [←Array.toList_inj];simpa using ha
   have hts':ts=#[t]:=by rw [←Array.toList_inj];simpa using hts
   subst ha' hts';split at h
   ·rename_i l htd;refine ⟨_,h,fun hc=>⟨.int .i64 l.length,by simp only [rel],fun w=>?_⟩⟩;have h1:=hr hc;simp only [rel] at h1;simp [execOp,resolve,invoke,builtin,Builtin.len_,h1,qj (jy hte htd),goInt,z24]
   ·rename_i hh lo len e htd;refine ⟨_,h,fun hc=>⟨.int .i64 len,by simp only [rel],fun w=>?_⟩⟩;have h1:=hr hc;simp only [rel] at h1;obtain ⟨ad,cap,hv,_⟩:=h1;simp [execOp,resolve,invoke,builtin,Builtin.len_,hv,qj (qz hte htd),goInt]
   ·rename_i sz l e htd;refine ⟨_,h,fun hc=>⟨.int .i64 l.length,by simp only [rel],fun w=>?_⟩⟩;have h1:=hr hc;simp only [rel] at h1;obtain ⟨ad,cap,hv,_⟩:=h1;simp [execOp,resolve,invoke,builtin,Builtin.len_,hv,qj (qz hte htd),goInt]
   ·rename_i e htd;refine ⟨_,h,fun hc=>⟨.int .i64 0,by simp only [rel],fun w=>?_⟩⟩;have h1:=hr hc;simp only [rel] at h1;simp [execOp,resolve,invoke,builtin,Builtin.len_,h1,qj (qz hte htd),goInt]
   ·exact h.elim
  ·exact h.elim
 case h_16 args ts=>
  split at h
  ·rename_i x y ha;obtain ⟨y1,h,hr⟩:=y9 (hR.ev x) h;obtain ⟨y2,h,hr2⟩:=y9 (hR.ev y) h;have ha':args=#[x,y]:=by rw [←Array.toList_inj];simpa using ha
   subst ha';split at h
   ·rename_i k p k' q _;refine ⟨_,h,fun hc=>⟨.int k (if q<p then q else p),by simp only [rel],fun w=>?_⟩⟩;have h1:=hr hc;have h2:=hr2 hc;simp only [rel] at h1 h2;simp [execOp,resolve,invoke,builtin,Builtin.min_,Builtin.min2,h1,h2]
   ·exact h.elim
  ·exact h.elim
 case h_17 args ts=>
  split at h
  ·rename_i x y ha;obtain ⟨y1,h,hr⟩:=y9 (hR.ev x) h;obtain ⟨y2,h,hr2⟩:=y9 (hR.ev y) h;have ha':args=#[x,y]:=by rw [←Array.toList_inj];simpa using ha
   subst ha';split at h
   ·rename_i k p k' q _;refine ⟨_,h,fun hc=>⟨.int k (if q>p then q else p),by simp only [rel],fun w=>?_⟩⟩;have h1:=hr hc;have h2:=hr2 hc;simp only [rel] at h1 h2;simp [execOp,resolve,invoke,builtin,Builtin.max_,Builtin.max2,h1,h2]
   ·exact h.elim
  ·exact h.elim
 case h_18=>exact h.elim
def zdj (σ:Asg) (q:Nat) (L:Loc):Asg:=⟨fun h=>if h=q then some L else σ h,σ.fz⟩
theorem zr2 {σ:Asg} {q:Nat} {L:Loc}:(zdj σ q L).fz=σ.fz:=rfl
theorem zi9 {σ:Asg} {q:Nat} {L:Loc} (h:σ q=none):leA σ (zdj σ q L):=by
 refine ⟨fun x M e=>?_,fun _ _ e=>e⟩;show (if x=q then some L else σ x)=some M;split
 ·rename_i hx;subst hx;rw [h] at e;cases e
 ·exact e
theorem zex (c:Ctx) (o:Option SO) (h:Nat):(c++[o]:Ctx).at h=if h=c.length then o else c.at h:=by
 unfold Ctx.at;simp only [List.getD_eq_getElem?_getD];by_cases h1:h<c.length
 ·rw [List.getElem?_append_left h1,if_neg (by omega)]
 ·by_cases h2:h=c.length
  ·subst h2;simp
  ·rw [if_neg h2,List.getElem?_eq_none (by simp;omega),List.getElem?_eq_none (by omega)]
theorem zrl {c:Ctx} {h:Nat} {o:SO} (e:c.at h=some o):h<c.length:=by
 unfold Ctx.at at e;rw [List.getD_eq_getElem?_getD] at e;rcases Nat.lt_or_ge h c.length with h1 | h1
 ·exact h1
 ·rw [List.getElem?_eq_none h1] at e;cases e
theorem zm5 (c:Ctx) (q:Nat) (o:Option SO) (h:Nat) (hq:q<c.length):Ctx.at (c.set q o) h=if h=q then o else c.at h:=by
 unfold Ctx.at;simp only [List.getD_eq_getElem?_getD,List.getElem?_set];by_cases h1:q=h
 ·subst h1;simp [hq]
 ·rw [if_neg h1,if_neg (Ne.symm h1)]
theorem zgv {σ σ':Asg} (h:leA σ σ'):∀ {ps:List (SV×SV)} {es:List MapEntry},qo σ ps es→qo σ' ps es
 | [],_,r=>by simpa [qo] using r
 | p::ps,_,r=>by simp only [qo] at r ⊢;obtain ⟨e,q,rfl,h1,h2,h3⟩:=r;exact ⟨e,q,rfl,jo h h1,jo h h2,zgv h h3⟩
/-- What an object says of a world hangs on its own block alone. -/
theorem jj {σ σ':Asg} {w w':World} {h:Nat} {o:SO} (hle:leA σ σ') (hh:σ' h=σ h) (hb:∀ L,σ h=some L→w'.heap[L.b]?=w.heap[L.b]?) (hs:qc σ w h o):qc σ' w' h o:=by
 unfold qc at *;split at hs
 ·obtain ⟨L,es,ck,h1,h2,h3⟩:=hs;exact ⟨L,es,ck,hh.trans h1,(hb L h1).trans h2,zgv hle h3⟩
 ·rcases hs with ⟨h1,h2⟩ | ⟨L,c,e,fr,h1,h2⟩
  ·exact .inl ⟨h1,hh.trans h2⟩
  ·refine .inr ⟨L,c,e,fr,hh.trans h1,⟨(hb L h1).trans h2.heap,h2.lsz,h2.room,h2.fits,fun i k hi hk=>?_,h2.free⟩⟩;obtain ⟨v,e1,e2⟩:=h2.cell i k hi hk;exact ⟨v,e1,jo hle e2⟩
theorem zsc (w:World) (o:Obj) {b:Nat} (h:b<w.heap.size):(w.heap.push o)[b]?=w.heap[b]?:=by rw [Array.getElem?_push,if_neg (by omega)]
theorem Sat.alloc {σ:Asg} {w:World} {c:Ctx} (hs:Sat σ w c) (ob:Obj) (o:SO) (L:Loc) (hL:L.b=w.heap.size)
  (ho:qc (zdj σ c.length L) { w with heap:=w.heap.push ob } c.length o):Sat (zdj σ c.length L) { w with heap:=w.heap.push ob } (c++[some o]):=by
 have hq:σ c.length=none:=hs.beyond _ (Nat.le_refl _);have hle:=zi9 (L:=L) hq;have hnf:σ.fz L.b=none:=by
  cases hf:σ.fz L.b with
  | none=>rfl
  | some o1=>have:=hs.frz _ _ hf;rw [hL,Array.getElem?_eq_none (Nat.le_refl _)] at this;cases this
 refine ⟨fun h o' e=>?_,fun h h' o1 o2 L1 L2 hne e1 e2 hro s1 s2=>?_,fun h hh=>?_,fun h M e=>?_,fun b o1 e=>?_,fun h o1 M e hro s1=>?_,hs.glb⟩
 ·rw [zex] at e;split at e
  ·rename_i h1;cases e;rw [h1];exact ho
  ·rename_i h1;refine jj hle (by simp [zdj,h1]) (fun M hM=>?_) (hs.obj h o' e);exact zsc _ _ (hs.inHeap h M hM)
 ·rw [zex] at e1 e2;simp only [zdj] at s1 s2;split at e1
  ·rename_i h1;rw [if_pos h1] at s1;cases s1;split at e2
   ·rename_i h2;omega
   ·rename_i h2;rw [if_neg h2] at s2;have:=hs.inHeap _ _ s2;omega
  ·rename_i h1;rw [if_neg h1] at s1;split at e2
   ·rename_i h2;rw [if_pos h2] at s2;cases s2;have:=hs.inHeap _ _ s1;omega
   ·rename_i h2;rw [if_neg h2] at s2;exact hs.apart h h' o1 o2 L1 L2 hne e1 e2 hro s1 s2
 ·simp only [List.length_append,List.length_singleton] at hh;simp only [zdj,if_neg (show h≠c.length by omega)];exact hs.beyond h (by omega)
 ·simp only [zdj] at e;simp only [Array.size_push];split at e
  ·cases e;omega
  ·have:=hs.inHeap h M e;omega
 ·have h1:=hs.frz b o1 e;rw [zsc _ _ (by
   rcases Nat.lt_or_ge b w.heap.size with h2 | h2
   ·exact h2
   ·rw [Array.getElem?_eq_none h2] at h1;cases h1)]
  exact h1
 ·rw [zex] at e;simp only [zdj] at s1;rw [zr2];split at e
  ·rename_i h1;rw [if_pos h1] at s1;cases s1;exact hnf
  ·rename_i h1;rw [if_neg h1] at s1;exact hs.frzA h o1 M e hro s1
theorem Rel.alloc {A:Amb} {σ:Asg} {st:St} {a:Act} {w:World} (hR:Rel A σ st a w) (ob:Obj) (o:SO) (L:Loc) (hL:L.b=w.heap.size)
  (ho:qc (zdj σ st.ctx.length L) { w with heap:=w.heap.push ob } st.ctx.length o) :
  leA σ (zdj σ st.ctx.length L)∧Rel A (zdj σ st.ctx.length L) ⟨st.env,st.ctx++[some o]⟩ a { w with heap:=w.heap.push ob }:=by
 have hq:σ st.ctx.length=none:=hR.sat.beyond _ (Nat.le_refl _);have hle:=zi9 (L:=L) hq;refine ⟨hle,hR.defers,hR.size,fun t=>jo hle (hR.env t),hR.sat.alloc ob o L hL ho, ?_,fun h o' M e hro s=>?_,⟨fun h hk=>?_,hR.base.fzb,hR.base.fzn⟩, ?_⟩
 ·exact ⟨hR.fr.os,hR.fr.tape,hR.fr.output,by simp;have:=hR.fr.size;omega,fun b hb hd=>by rw [zsc _ _ (Nat.lt_of_lt_of_le hb hR.fr.size)];exact hR.fr.block b hb hd⟩
 ·rw [zex] at e;simp only [zdj] at s;split at e
  ·rename_i h1;rw [if_pos h1] at s;cases s;right;rw [hL];exact hR.fr.size
  ·rename_i h1;rw [if_neg h1] at s;exact hR.own h o' M e hro s
 ·have:=hR.klen;simp only [zdj,if_neg (show h≠st.ctx.length by omega)];exact hR.base.loc h hk
 ·simp;have:=hR.klen;omega
/-- A new row,or variable. -/
theorem zl3 {σ:Asg} {w:World} {q:Nat} {cs:Array Value} {e:TypeId} {o:SO} {L:Loc} (hm:o.isMap=false)
  (hL:L=⟨w.heap.size,0,cs.size,o.sz⟩) (hf:o.n * o.sz≤cs.size)
  (hc:∀ i k,i<o.n→k<o.sz→∃ v,cs[i * o.sz+k]?=some v∧rel σ ((o.el i).getD k .u) v) (hq:σ q=none) :
  qc (zdj σ q L) { w with heap:=w.heap.push (.cells cs e) } q o:=by
 subst hL;unfold qc;rw [hm];refine .inr ⟨⟨w.heap.size,0,cs.size,o.sz⟩,cs,e,(0,0),by simp [zdj],⟨?_,rfl, ?_,hf,fun i k hi hk=>?_,fun _=>.inl rfl⟩⟩
 ·simp
 ·simp
 ·obtain ⟨v,h1,h2⟩:=hc i k hi hk;exact ⟨v,by simpa using h1,jo (zi9 hq) h2⟩
/-- What an operation that may turn memory comes to. -/
def OutM (P:Program) (A:Amb) (σ:Asg) (a:Act) (w:World) (s:Sem Next) (K:SV→St→Prop):Prop:=
 ∃ z st' v σ' w',K z st'∧(s.run P w=.ok (.value v) w'∨(s.run P w=.ok .skip w'∧v=undef))∧leA σ σ'∧rel σ' z v∧Rel A σ' st' a w'
def newBlk (st:St) (cs:List SV):St:=⟨st.env,st.ctx++[some (.blk false cs)]⟩
def newRowS (st:St) (sz n:Nat) (f:Nat→List SV):St:=⟨st.env,st.ctx++[some (.row false sz n f)]⟩
theorem zwg {P:Program} {A:Amb} {σ:Asg} {st:St} {a:Act} {w:World} (hR:Rel A σ st a w) {t:TypeId} {cs:List SV} {v:Value} (hv:relL σ cs v.cells.toList) :
  ∃ σ' w',(newVar t v).run P w=.ok ⟨w.heap.size,0,none⟩ w'∧leA σ σ'∧rel σ' (.ptr st.ctx.length 0 0) (.pointer (some ⟨w.heap.size,0,none⟩))∧Rel A σ' (newBlk st cs) a w':=by
 have hq:σ st.ctx.length=none:=hR.sat.beyond _ (Nat.le_refl _);have hlen:=y4 hv;simp only [Array.length_toList] at hlen;obtain ⟨h1,h2⟩:=hR.alloc (.cells v.cells t) (.blk false cs) ⟨w.heap.size,0,v.cells.size,cs.length⟩ rfl
  (zl3 rfl rfl (by simp [SO.n,SO.sz,hlen]) (fun i k hi hk=>by
   simp only [SO.n,SO.sz,SO.el] at *;obtain ⟨u,h3,h4⟩:=ky hv (j:=k) (x:=cs.getD k .u) (by simp [List.getD,List.getElem?_eq_getElem hk]);have hi0:i=0:=by omega
   subst hi0;exact ⟨u,by simpa using h3,h4⟩) hq)
 refine ⟨_,_, ?_,h1, ?_,h2⟩
 ·simp [newVar,newRow]
 ·simp only [rel];exact ⟨⟨w.heap.size,0,v.cells.size,cs.length⟩,by simp [zdj],by simp [vp]⟩
theorem znk {P:Program} {A:Amb} {σ:Asg} {st:St} {a:Act} {w:World} (hR:Rel A σ st a w) {elem:TypeId} {cells:Array Value} {sz n cap:Nat} {f:Nat→List SV}
  (hcs:cells.size=cap * sz) (hn:n≤cap) (hc:∀ i k,i<n→k<sz→∃ v,cells[i * sz+k]?=some v∧rel σ ((f i).getD k .u) v) :
  ∃ σ' w',(newRow elem cells).run P w=.ok ⟨w.heap.size,0,none⟩ w'∧leA σ σ'∧rel σ' (.slc st.ctx.length 0 n) (.slice (some ⟨w.heap.size,0,none⟩) n cap)∧Rel A σ' (newRowS st sz n f) a w':=by
 have hq:σ st.ctx.length=none:=hR.sat.beyond _ (Nat.le_refl _);obtain ⟨h1,h2⟩:=hR.alloc (.cells cells elem) (.row false sz n f) ⟨w.heap.size,0,cells.size,sz⟩ rfl
  (zl3 rfl rfl (by simp only [SO.n,SO.sz,hcs];exact Nat.mul_le_mul_right _ hn) hc hq)
 refine ⟨_,_, ?_,h1, ?_,h2⟩
 ·simp [newRow]
 ·simp only [rel];exact ⟨_,_,rfl,hn,.inr ⟨⟨w.heap.size,0,cells.size,sz⟩,by simp [zdj],by simp [vp],by simp [hcs]⟩⟩
theorem zez (b off j:Nat):(⟨b,off,none⟩:Addr).add j=⟨b,off+j,none⟩:=by
 unfold Addr.add;split
 ·rename_i h;simp [h]
 ·rfl
theorem zev {w:World} {b off:Nat} {c:Array Value} {e:TypeId} {fr:Nat×Nat} (h:w.heap[b]?=some (.cells c e fr)):w.cell? ⟨b,off,none⟩=c[off]?:=by simp [World.cell?,h]
theorem zf6 {P:Program} {w:World} {b off:Nat} {c:Array Value} {e:TypeId} {fr:Nat×Nat} (h:w.heap[b]?=some (.cells c e fr)) :
  ∀ (vs:List Value) (i:Nat) (acc:Array Value),(∀ (j:Nat) (v:Value),vs[j]?=some v→c[off+i+j]?=some v)→(loadCellsFrom ⟨b,off,none⟩ i vs.length acc).run P w=.ok (acc++vs.toArray) w
 | [],i,acc,_=>by simp [loadCellsFrom]
 | v::vs,i,acc,hv=>by
  have h0:=hv 0 v rfl;simp only [List.length_cons,loadCellsFrom,Sem.run_bind,run_load,zez,zev h];rw [show off+i+0=off+i from rfl] at h0;simp only [h0,Result.andThen_ok];rw [zf6 h vs (i+1) (acc.push v) (fun j u hj=>by have:=hv (j+1) u (by simpa using hj);rw [show off+(i+1)+j=off+i+(j+1) by omega];exact this)]
  simp
theorem kx {P:Program} {w:World} {b off:Nat} {c:Array Value} {e:TypeId} {fr:Nat×Nat} (h:w.heap[b]?=some (.cells c e fr))
  (vs:List Value) (hv:∀ (j:Nat) (v:Value),vs[j]?=some v→c[off+j]?=some v):(loadCells ⟨b,off,none⟩ vs.length).run P w=.ok vs.toArray w:=by
 unfold loadCells;rw [zf6 h vs 0 #[] (by simpa using hv)];simp
/-- The cells of a stretch of an object,as a list. -/
theorem zfw {σ:Asg} {w:World} {L:Loc} {o:SO} {c:Array Value} {e:TypeId} {fr:Nat×Nat} (h:cellsAt σ w L o c e fr) {i k n:Nat} (hi:i<o.n) (hk:k+n≤o.sz) :
  ∃ vs:List Value,vs.length=n∧(∀ (j:Nat) (v:Value),vs[j]?=some v→c[L.sh+i * L.sz+k+j]?=some v)∧∀ (j:Nat) (v:Value),vs[j]?=some v→rel σ ((o.el i).getD (k+j) .u) v:=by
 induction n with
 | zero=>exact ⟨[],rfl,by simp,by simp⟩
 | succ n ih=>
  obtain ⟨vs,h1,h2,h3⟩:=ih (by omega);obtain ⟨v,h4,h5⟩:=h.cell i (k+n) hi (by omega);rw [←h.lsz] at h4;refine ⟨vs++[v],by simp [h1],fun j u hj=>?_,fun j u hj=>?_⟩
  ·rw [List.getElem?_append] at hj;split at hj
   ·exact h2 j u hj
   ·have:j-vs.length=0:=by
     rcases Nat.eq_zero_or_pos (j-vs.length) with h0 | h0
     ·exact h0
     ·rw [List.getElem?_eq_none (by simp;omega)] at hj;cases hj
    rw [this] at hj;simp at hj;subst hj;have hjn:j=n:=by omega
    subst hjn;rw [show L.sh+i * L.sz+k+j=L.sh+i * L.sz+(k+j) by omega];exact h4
  ·rw [List.getElem?_append] at hj;split at hj
   ·exact h3 j u hj
   ·have:j-vs.length=0:=by
     rcases Nat.eq_zero_or_pos (j-vs.length) with h0 | h0
     ·exact h0
     ·rw [List.getElem?_eq_none (by simp;omega)] at hj;cases hj
    rw [this] at hj;simp at hj;subst hj;have hjn:j=n:=by omega
    subst hjn;exact h5
def wl:SV→Bool
 | .b _ | .i _ _ | .s _ | .ptr _ _ _ | .slc _ _ _ | .nils | .mp _ | .fn _ | .fs _ _ | .fp _ _=>true
 | _=>false
theorem zfn {σ:Asg} {x:SV} {v:Value} (h:wl x=true) (hr:rel σ x v):v.oneCell'=true:=by
 cases x<;>simp only [wl,Bool.false_eq_true] at h<;>simp only [rel] at hr
 case b=>subst hr;rfl
 case i=>subst hr;rfl
 case s=>subst hr;rfl
 case ptr=>obtain ⟨_,_,rfl⟩:=hr;rfl
 case slc=>obtain ⟨_,_,rfl,_⟩:=hr;rfl
 case nils=>subst hr;rfl
 case mp=>obtain ⟨_,_,rfl⟩:=hr;rfl
 case fn=>subst hr;rfl
 case fs=>obtain ⟨_,_,rfl,_⟩:=hr;rfl
 case fp=>obtain ⟨_,_,_,_,_,rfl,_⟩:=hr;rfl
/-- Cells of an array written one behind the other. -/
def u1 (c:Array Value) (off:Nat):List Value→Array Value
 | []=>c
 | v::vs=>u1 (c.setIfInBounds off v) (off+1) vs
theorem x9 (c:Array Value):∀ (vs:List Value) (off:Nat),(u1 c off vs).size=c.size
 | [],_=>rfl
 | v::vs,off=>by simp [u1,x9 _ vs]
theorem ze7:∀ (vs:List Value) (c:Array Value) (off x:Nat),off+vs.length≤c.size→(u1 c off vs)[x]?=if off≤x∧x<off+vs.length then vs[x-off]? else c[x]?
 | [],c,off,x,_=>by
  simp only [u1,List.length_nil];rw [if_neg (by omega)]
 | v::vs,c,off,x,h=>by
  simp only [List.length_cons] at h;simp only [u1];rw [ze7 vs _ (off+1) x (by simp;omega)];simp only [List.length_cons];by_cases h1:off+1≤x∧x<off+1+vs.length
  ·rw [if_pos h1,if_pos (by omega)];obtain ⟨y,hy⟩:∃ y,x-off=y+1:=⟨x-off-1,by omega⟩
   rw [hy,List.getElem?_cons_succ,show x-(off+1)=y by omega]
  ·rw [if_neg h1,Array.getElem?_setIfInBounds];by_cases h2:off=x
   ·subst h2;rw [if_pos rfl,if_pos (by omega)];simp
   ·rw [if_neg h2,if_neg (by omega)]
theorem uv {P:Program} {b off:Nat} {e:TypeId} {fr:Nat×Nat}:∀ (vs:List Value) (i:Nat) (w:World) (c:Array Value),w.heap[b]?=some (.cells c e fr) →
  (∀ v∈vs,v.oneCell'=true)→off+i+vs.length≤c.size→(∀ x,x<c.size→¬(fr.1≤x∧x<fr.2)) →
  (storeCells ⟨b,off,none⟩ vs i).run P w=.ok () { w with heap:=w.heap.setIfInBounds b (.cells (u1 c (off+i) vs) e fr) }
 | [],i,w,c,h,_,_,_=>by
  simp only [storeCells,u1,Sem.run_pure];congr 1;have hb:b<w.heap.size:=by
   rcases Nat.lt_or_ge b w.heap.size with h1 | h1
   ·exact h1
   ·rw [Array.getElem?_eq_none h1] at h;cases h
  have:w.heap.setIfInBounds b (.cells c e fr)=w.heap:=by
   apply Array.ext_getElem?;intro j;rw [Array.getElem?_setIfInBounds];split
   ·rename_i hj;subst hj;rw [h]
   ·rfl
  rw [this]
 | v::vs,i,w,c,h,hv,hl,hf=>by
  simp only [List.length_cons] at hl;have hb:b<w.heap.size:=by
   rcases Nat.lt_or_ge b w.heap.size with h1 | h1
   ·exact h1
   ·rw [Array.getElem?_eq_none h1] at h;cases h
  have hc:w.cell? ⟨b,off+i,none⟩=some c[off+i]:=by rw [zev h];exact Array.getElem?_eq_getElem (by omega)
  have hfz:w.frozen? ⟨b,off+i,none⟩=false:=by have:=hf (off+i) (by omega);simp only [World.frozen?,h];simpa using this
  simp only [storeCells,Sem.run_bind,zez];rw [run_store P w _ v .plain (hv v (by simp)),hc];simp only [hfz,Bool.false_eq_true,if_false,Result.andThen_ok];have hset:(w.setCell ⟨b,off+i,none⟩ v).heap[b]?=some (.cells (c.setIfInBounds (off+i) v) e fr):=by simp only [World.setCell,Array.getElem?_modify,h,if_true];simp
  rw [uv vs (i+1) (w.setCell ⟨b,off+i,none⟩ v) _ hset (fun u hu=>hv u (by simp [hu])) (by simp;omega) (by simpa using hf)];congr 1;simp only [World.setCell,u1];congr 1;apply Array.ext_getElem?;intro j;simp only [Array.getElem?_setIfInBounds,Array.size_modify,Array.getElem?_modify];by_cases hj:b=j
  ·subst hj;simp [hb,Nat.add_assoc]
  ·simp [hj]
end Go.Vg
end
