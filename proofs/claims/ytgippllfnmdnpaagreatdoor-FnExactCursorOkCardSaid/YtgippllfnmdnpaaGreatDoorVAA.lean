/- Own text: part VAA. -/
import Derived.Orders
import Derived.Below
import Derived.Lib.Strings
import Derived.Laws.Sem
import Derived.Laws.StructEq
import Derived.Tactics
set_option linter.all false
section
namespace Go
theorem aC:type_of% @List.length_append:=@List.length_append
theorem aA:type_of% @if_neg:=@if_neg
theorem aB:type_of% @if_pos:=@if_pos
theorem aG:type_of% @List.getD_eq_getElem?_getD:=@List.getD_eq_getElem?_getD
theorem aE:type_of% @decide_eq_true_eq:=@decide_eq_true_eq
theorem aD:type_of% @Bool.and_eq_true:=@Bool.and_eq_true
theorem aH:type_of% @List.length_singleton:=@List.length_singleton
theorem aK:type_of% @List.length_cons:=@List.length_cons
theorem aI:type_of% @decide_eq_false:=@decide_eq_false
theorem aL:type_of% @List.length_nil:=@List.length_nil
theorem aJ:type_of% @decide_eq_true:=@decide_eq_true
theorem aP:type_of% @Int.natCast_add:=@Int.natCast_add
theorem aQ:type_of% @Int.natCast_one:=@Int.natCast_one
theorem aN:type_of% @Nat.le_refl:=@Nat.le_refl
theorem aS:type_of% @List.getElem?_eq_getElem:=@List.getElem?_eq_getElem
theorem aO:type_of% @decide_eq_false_iff_not:=@decide_eq_false_iff_not
theorem aW:type_of% @of_decide_eq_true:=@of_decide_eq_true
theorem aT:type_of% @Nat.not_lt_zero:=@Nat.not_lt_zero
theorem aU:type_of% @Nat.lt_or_ge:=@Nat.lt_or_ge
theorem aX:type_of% @Nat.zero_add:=@Nat.zero_add
theorem aR:type_of% @Bool.not_eq_true':=@Bool.not_eq_true'
theorem aZ:type_of% @List.length_take:=@List.length_take
theorem bE:type_of% @of_decide_eq_false:=@of_decide_eq_false
theorem aV:type_of% @Bool.or_eq_true:=@Bool.or_eq_true
theorem bJ:type_of% @List.length_replicate:=@List.length_replicate
theorem bK:type_of% @List.length_drop:=@List.length_drop
theorem aY:type_of% @Bool.or_eq_false_iff:=@Bool.or_eq_false_iff
theorem bU:type_of% @Bool.false_eq_true:=@Bool.false_eq_true
theorem bO:type_of% @Bool.eq_iff_iff:=@Bool.eq_iff_iff
theorem bG:type_of% @if_false:=@if_false
theorem bF:type_of% @Nat.zero_le:=@Nat.zero_le
theorem bS:type_of% @List.append_assoc:=@List.append_assoc
theorem bZ:type_of% @Array.getElem?_eq_none:=@Array.getElem?_eq_none
theorem bY:type_of% @List.getElem?_drop:=@List.getElem?_drop
theorem cA:type_of% @List.getElem?_append_left:=@List.getElem?_append_left
theorem cz:type_of% @List.drop_eq_getElem_cons:=@List.drop_eq_getElem_cons
theorem cu:type_of% @List.getElem?_map:=@List.getElem?_map
theorem cC:type_of% @List.map_cons:=@List.map_cons
theorem cw:type_of% @List.getElem?_eq_none:=@List.getElem?_eq_none
theorem cx:type_of% @List.all_eq_true:=@List.all_eq_true
theorem cv:type_of% @Nat.le_trans:=@Nat.le_trans
theorem cH:type_of% @List.getElem?_take:=@List.getElem?_take
theorem bD:type_of% @Bool.not_eq_false':=@Bool.not_eq_false'
theorem cN:type_of% @Nat.mul_le_mul_right:=@Nat.mul_le_mul_right
theorem bV:type_of% @dif_pos:=@dif_pos
theorem dS:type_of% @decide_false:=@decide_false
theorem cJ:type_of% @Nat.le_of_lt:=@Nat.le_of_lt
theorem bA:type_of% @Bool.and_eq_false_iff:=@Bool.and_eq_false_iff
theorem cR:type_of% @List.getElem?_append_right:=@List.getElem?_append_right
theorem cK:type_of% @Option.map_eq_some_iff:=@Option.map_eq_some_iff
theorem dj:type_of% @List.length_eq_zero_iff:=@List.length_eq_zero_iff
theorem cD:type_of% @congrArg:=@congrArg
theorem ei:type_of% @false_implies:=@false_implies
theorem di:type_of% @Bool.true_and:=@Bool.true_and
theorem eV:type_of% @forall_const:=@forall_const
theorem cP:type_of% @true_and:=@true_and
theorem cX:type_of% @Bool.false_or:=@Bool.false_or
theorem cM:type_of% @List.getElem?_eq_some_iff:=@List.getElem?_eq_some_iff
theorem eE:type_of% @decide_true:=@decide_true
theorem dg:type_of% @List.cons.injEq:=@List.cons.injEq
theorem dw:type_of% @List.append_nil:=@List.append_nil
theorem cZ:type_of% @decide_eq_decide:=@decide_eq_decide
theorem db:type_of% @Option.some.injEq:=@Option.some.injEq
theorem dh:type_of% @List.mem_append:=@List.mem_append
theorem dl:type_of% @List.singleton_append:=@List.singleton_append
theorem dA:type_of% @Nat.lt_of_lt_of_le:=@Nat.lt_of_lt_of_le
theorem dM:type_of% @Int.cast_ofNat_Int:=@Int.cast_ofNat_Int
theorem dk:type_of% @Nat.add_assoc:=@Nat.add_assoc
theorem ds:type_of% @Array.length_toList:=@Array.length_toList
theorem dy:type_of% @if_true:=@if_true
theorem dJ:type_of% @List.mem_of_getElem?:=@List.mem_of_getElem?
theorem dD:type_of% @and_true:=@and_true
theorem dN:type_of% @List.mem_singleton:=@List.mem_singleton
theorem cV:type_of% @dif_neg:=@dif_neg
theorem dG:type_of% @Nat.succ_mul:=@Nat.succ_mul
theorem dF:type_of% @Int.ofNat_lt:=@Int.ofNat_lt
theorem dQ:type_of% @Bool.not_true:=@Bool.not_true
theorem dO:type_of% @Nat.eq_zero_or_pos:=@Nat.eq_zero_or_pos
theorem ea:type_of% @List.prefix_append:=@List.prefix_append
theorem dx:type_of% @beq_iff_eq:=@beq_iff_eq
theorem ej:type_of% @Bool.not_false:=@Bool.not_false
theorem eb:type_of% @Prod.mk.injEq:=@Prod.mk.injEq
theorem ed:type_of% @Array.toList_inj:=@Array.toList_inj
theorem ef:type_of% @List.getElem?_take_of_lt:=@List.getElem?_take_of_lt
theorem eo:type_of% @List.replicate_succ':=@List.replicate_succ'
theorem eO:type_of% @List.map_nil:=@List.map_nil
theorem eL:type_of% @List.cons_append:=@List.cons_append
theorem fX:type_of% @List.length_pos_iff:=@List.length_pos_iff
theorem eI:type_of% @List.foldl_cons:=@List.foldl_cons
theorem eH:type_of% @Bool.decide_and:=@Bool.decide_and
theorem eM:type_of% @List.mem_iff_getElem:=@List.mem_iff_getElem
theorem dI:type_of% @List.mem_cons_of_mem:=@List.mem_cons_of_mem
theorem fc:type_of% @List.getElem?_append:=@List.getElem?_append
theorem eR:type_of% @Nat.add_mul:=@Nat.add_mul
theorem fW:type_of% @List.getD_cons_zero:=@List.getD_cons_zero
theorem eY:type_of% @List.take_length:=@List.take_length
theorem fg:type_of% @gt_iff_lt:=@gt_iff_lt
theorem eX:type_of% @List.sum_cons:=@List.sum_cons
theorem eA:type_of% @List.mem_cons:=@List.mem_cons
theorem gb:type_of% @List.drop_zero:=@List.drop_zero
theorem fB:type_of% @Int.ofNat_le:=@Int.ofNat_le
theorem gS:type_of% @beq_eq_false_iff_ne:=@beq_eq_false_iff_ne
theorem fE:type_of% @List.replicate_zero:=@List.replicate_zero
theorem fD:type_of% @List.map_congr_left:=@List.map_congr_left
theorem fe:type_of% @and_assoc:=@and_assoc
theorem gR:type_of% @Option.bind_some:=@Option.bind_some
theorem fL:type_of% @Bool.true_eq_false:=@Bool.true_eq_false
theorem eW:type_of% @Array.getElem?_setIfInBounds:=@Array.getElem?_setIfInBounds
theorem gy:type_of% @List.nil_append:=@List.nil_append
theorem eF:type_of% @Classical.choose_spec:=@Classical.choose_spec
theorem fj:type_of% @Array.getD_eq_getD_getElem?:=@Array.getD_eq_getD_getElem?
theorem fR:type_of% @List.take_add_one:=@List.take_add_one
theorem fQ:type_of% @List.size_toArray:=@List.size_toArray
theorem fP:type_of% @List.getElem_take:=@List.getElem_take
theorem gE:type_of% @List.getElem?_set:=@List.getElem?_set
theorem fK:type_of% @Option.getD_some:=@Option.getD_some
theorem gg:type_of% @List.isEmpty_iff:=@List.isEmpty_iff
theorem gf:type_of% @List.getElem_mem:=@List.getElem_mem
theorem ga:type_of% @Bool.not_eq_true:=@Bool.not_eq_true
theorem gl:type_of% @Nat.add_zero:=@Nat.add_zero
theorem fU:type_of% @Nat.lt_irrefl:=@Nat.lt_irrefl
theorem fT:type_of% @Bool.or_false:=@Bool.or_false
theorem gx:type_of% @List.map_append:=@List.map_append
theorem gw:type_of% @List.length_set:=@List.length_set
theorem fC:type_of% @List.drop_of_length_le:=@List.drop_of_length_le
end Go
end
section
theorem ai{a b:Prop}(x:a)(y:b):a/\b:=⟨x,y⟩
namespace Go.Vg
open Go.RowKit
inductive SV where
 |b (x:Bool)
 |i (k:IntKind) (n:Int)
 |s (l:List UInt8)
 |ptr (h i k:Nat)
 |ew (h lo len:Nat)
 |cQ
 |mp (h:Nat)
 |fn (f:FuncId)
 |agg (l:List SV)
 |fJ (l:List SV)
 |gd (g:Bool) (x:SV)
 |u
 |fs (sz:Nat) (l:List (List SV))
 |fp (l:List SV) (k:Nat)
 deriving Inhabited
structure Loc where
 b:Nat
 sh:Nat
 av:Nat
 sz:Nat
structure ey where
 loc:Nat->Option Loc
 fz:Nat->Option Obj
class df where
 g:Nat->Option Obj
variable[df]
instance:CoeFun ey (fun _=>Nat->Option Loc):=⟨ey.loc⟩
def ey.yp(σ:ey)(μ:Nat->Nat):ey:=⟨fun h=>σ (μ h),σ.fz⟩
def ey.bare(σ:ey):ey:=⟨fun _=>none,σ.fz⟩
def ey.nil:ey:=⟨fun _=>none,fun _=>none⟩
theorem ey.EE(σ:ey)(μ:Nat->Nat)(h:Nat):(σ.yp μ) h=σ (μ h):=rfl
theorem ey.O5(σ:ey)(μ:Nat->Nat):(σ.yp μ).fz=σ.fz:=rfl
theorem ey.Vy(σ:ey):σ.bare.bare=σ.bare:=rfl
theorem ey.Fx(σ:ey)(μ:Nat->Nat):(σ.yp μ).bare=σ.bare:=rfl
def addrOf(L:Loc)(i k:Nat):Addr:=⟨L.b,L.sh+i*L.sz+k,none⟩
mutual
def rel:ey->SV->Value->Prop
 |_,.b x,v=>v=.bool x
 |_,.i k n,v=>v=.int k n
 |_,.s l,v=>v=.string ⟨l.toArray⟩
 |σ,.ptr h i k,v=>∃L,σ h=some L/\v=.pointer (some (addrOf L i k))
 |σ,.ew h d len,v=>∃a cap,v=.slice a len cap/\len<=cap/\(cap=0\/∃L,σ h=some L/\a=some (addrOf L d 0)/\(d+cap)*L.sz<=L.av)
 |_,.cQ,v=>v=.slice none 0 0
 |σ,.mp h,v=>∃L,σ h=some L/\v=.map (some L.b)
 |_,.fn f,v=>v=.func (.func f) #[] #[]
 |σ,.agg l,v=>∃cs,v=.agg cs/\dm σ l cs.toList
 |σ,.fJ l,v=>∃cs,v=.tuple cs/\dm σ l cs.toList
 |σ,.gd g x,v=>(g=true->rel σ x v)/\(g=false->v=undef)
 |_,.u,_=>True
 |σ,.fs sz l,v=>∃a cap,v=.slice a l.length cap/\l.length<=cap/\(l=[]\/∃b off c e fr,a=some ⟨b,off,none⟩/\σ.fz b=some (.cells c e fr)/\ud σ.bare sz l (c.toList.drop off))
 |σ,.fp l k,v=>∃b off c e fr,v=.pointer (some ⟨b,off+k,none⟩)/\σ.fz b=some (.cells c e fr)/\dm σ.bare l ((c.toList.drop off).take l.length)
def dm:ey->List SV->List Value->Prop
 |_,[],vs=>vs=[]
 |σ,x::xs,vs=>∃v r,vs=v::r/\rel σ x v/\dm σ xs r
def ud:ey->Nat->List (List SV)->List Value->Prop
 |_,_,[],_=>True
 |σ,sz,l::r,vs=>l.length=sz/\dm σ l (vs.take sz)/\ud σ sz r (vs.drop sz)
end
theorem fv{σ:ey}:∀{l:List SV} {vs:List Value},dm σ l vs->l.length=vs.length
 |[],vs,h=>by simp[dm]at h;simp[h]
 |x::xs,vs,h=>by simp only[dm]at h;obtain⟨v,r,rfl,_,a⟩:=h;simp[fv a]
theorem ja{σ:ey}:∀{l:List SV} {vs:List Value},dm σ l vs->∀{j:Nat} {x:SV},l[j]?=some x->∃v,vs[j]?=some v/\rel σ x v
 |[],_,_,j,x,a=>by simp at a
 |y::d,vs,h,j,x,a=>by
  simp only[dm]at h;obtain⟨v,r,rfl,b,c⟩:=h;cases j with
  |zero=>simp at a;subst a;exact⟨v,rfl,b⟩
  |succ j=>simp at a;simpa using ja c a
theorem j7{σ:ey}:∀{l:List SV} {vs:List Value},l.length=vs.length->(∀(j:Nat) (x:SV) (v:Value),l[j]?=some x->vs[j]?=some v->rel σ x v)->dm σ l vs
 |[],vs,b,_=>by simp only[dm];exact dj.1 (by simpa using b.symm)
 |x::xs,[],b,_=>by simp at b
 |x::xs,v::vs,b,h=>by simp only[dm];exact⟨v,vs,rfl,h 0 x v rfl rfl,j7 (by simpa using b) fun j y u d hu=>h (j+1) y u (by simpa using d) (by simpa using hu)⟩
theorem r3{σ:ey}{sz:Nat}:∀{l:List (List SV)} {vs:List Value},ud σ sz l vs->∀{j:Nat} {x:List SV},l[j]?=some x->x.length=sz/\dm σ x ((vs.drop (j*sz)).take sz)
 |[],_,_,j,x,a=>by simp at a
 |y::e,vs,h,j,x,a=>by
  simp only[ud]at h;obtain⟨b,c,d⟩:=h;cases j with
  |zero=>simp at a;subst a;simpa using⟨b,c⟩
  |succ j=>simp at a;have:=r3 d a;rw[List.drop_drop]at this;rw[dG,Nat.add_comm];exact this
theorem l3{σ:ey}{sz:Nat}:∀{l:List (List SV)} {vs:List Value},(∀(j:Nat) (x:List SV),l[j]?=some x->x.length=sz/\dm σ x ((vs.drop (j*sz)).take sz))->ud σ sz l vs
 |[],_,_=>by simp[ud]
 |y::c,vs,h=>by simp only[ud];have a:=h 0 y rfl;simp only[Nat.zero_mul,gb]at a;refine⟨a.1,a.2,l3 fun j x b=>?_⟩;have:=h (j+1) x (by simpa using b);rw[dG,Nat.add_comm]at this;rw[List.drop_drop];exact this
structure mi(σ σ':ey):Prop where
 loc:∀h L,σ h=some L->σ' h=some L
 fz:∀b o,σ.fz b=some o->σ'.fz b=some o
theorem mi.refl(σ:ey):mi σ σ:=⟨fun _ _ h=>h,fun _ _ h=>h⟩
theorem mi.trans{a b c:ey}(h:mi a b)(k:mi b c):mi a c:=⟨fun x L e=>k.loc x L (h.loc x L e),fun x L e=>k.fz x L (h.fz x L e)⟩
theorem mi.bare{a b:ey}(h:mi a b):mi a.bare b.bare:=⟨fun x L e=>(by cases e),h.fz⟩
theorem mi.nil(σ:ey):mi ey.nil σ:=⟨fun x L e=>(by cases e),fun x L e=>(by cases e)⟩
mutual
theorem jM:∀{σ σ':ey} (h:mi σ σ') {x:SV} {v:Value},rel σ x v->rel σ' x v
 |_,_,_,.b _,_,r=>by simpa[rel]using r
 |_,_,_,.i _ _,_,r=>by simpa[rel]using r
 |_,_,_,.s _,_,r=>by simpa[rel]using r
 |_,_,h,.ptr _ _ _,_,r=>by
  simp only[rel]at r |-
  obtain⟨L,e,r⟩:=r;exact⟨L,h.loc _ _ e,r⟩
 |_,_,h,.ew _ _ _,_,r=>by
  simp only[rel]at r |-
  obtain⟨a,cap,e,j,r⟩:=r;exact⟨a,cap,e,j,r.imp id fun⟨L,e,r⟩=>⟨L,h.loc _ _ e,r⟩⟩
 |_,_,_,.cQ,_,r=>by simpa[rel]using r
 |_,_,h,.mp _,_,r=>by
  simp only[rel]at r |-
  obtain⟨L,e,r⟩:=r;exact⟨L,h.loc _ _ e,r⟩
 |_,_,_,.fn _,_,r=>by simpa[rel]using r
 |_,_,h,.agg _,_,r=>by
  simp only[rel]at r |-
  obtain⟨cs,e,r⟩:=r;exact⟨cs,e,jT h r⟩
 |_,_,h,.fJ _,_,r=>by
  simp only[rel]at r |-
  obtain⟨cs,e,r⟩:=r;exact⟨cs,e,jT h r⟩
 |_,_,h,.gd _ _,_,r=>by
  simp only[rel]at r |-
  exact⟨fun g=>jM h (r.1 g),r.2⟩
 |_,_,_,.u,_,_=>by simp[rel]
 |_,_,h,.fs sz l,_,r=>by
  simp only[rel]at r |-
  obtain⟨a,cap,e,j,r⟩:=r;refine⟨a,cap,e,j,r.imp id ?_⟩;rintro⟨b,off,c,e,fr,d,f,i⟩;exact⟨b,off,c,e,fr,d,h.fz _ _ f,w8 h.bare i⟩
 |_,_,h,.fp l k,_,r=>by
  simp only[rel]at r |-
  obtain⟨b,off,c,e,fr,d,f,i⟩:=r;exact⟨b,off,c,e,fr,d,h.fz _ _ f,jT h.bare i⟩
theorem jT:∀{σ σ':ey} (h:mi σ σ') {x:List SV} {v:List Value},dm σ x v->dm σ' x v
 |_,_,_,[],_,r=>by simpa[dm]using r
 |_,_,h,_::_,_,r=>by
  simp only[dm]at r |-
  obtain⟨v,q,e,a,b⟩:=r;exact⟨v,q,e,jM h a,jT h b⟩
theorem w8:∀{σ σ':ey} (h:mi σ σ') {sz:Nat} {x:List (List SV)} {v:List Value},ud σ sz x v->ud σ' sz x v
 |_,_,_,_,[],_,_=>by simp[ud]
 |_,_,h,_,_::_,_,r=>by
  simp only[ud]at r |-
  exact⟨r.1,jT h r.2.1,w8 h r.2.2⟩
end
mutual
def SV.bP(μ:Nat->Nat):SV->SV
 | .ptr h i k=>.ptr (μ h) i k
 | .ew h a len=>.ew (μ h) a len
 | .mp h=>.mp (μ h)
 | .agg l=>.agg (hZ μ l)
 | .fJ l=>.fJ (hZ μ l)
 | .gd g x=>.gd g (SV.bP μ x)
 | .b x=>.b x
 | .i k n=>.i k n
 | .s l=>.s l
 | .cQ=>.cQ
 | .fn f=>.fn f
 | .u=>.u
 | .fs sz l=>.fs sz l
 | .fp l k=>.fp l k
def hZ(μ:Nat->Nat):List SV->List SV
 |[]=>[]
 |x::xs=>SV.bP μ x::hZ μ xs
end
theorem zJ(μ:Nat->Nat)(l:List SV):hZ μ l=l.map (SV.bP μ):=by
 induction l with
 |nil=>rfl
 |cons x xs a=>simp[hZ,a]
mutual
theorem lb(σ:ey)(μ:Nat->Nat):∀(x:SV) (v:Value),rel σ (x.bP μ) v↔rel (σ.yp μ) x v
 | .b _,_=>by simp[rel,SV.bP]
 | .i _ _,_=>by simp[rel,SV.bP]
 | .s _,_=>by simp[rel,SV.bP]
 | .ptr _ _ _,_=>by simp[rel,SV.bP,ey.EE]
 | .ew _ _ _,_=>by simp[rel,SV.bP,ey.EE]
 | .cQ,_=>by simp[rel,SV.bP]
 | .mp _,_=>by simp[rel,SV.bP,ey.EE]
 | .fn _,_=>by simp[rel,SV.bP]
 | .agg l,_=>by simp only[rel,SV.bP,sx σ μ l]
 | .fJ l,_=>by simp only[rel,SV.bP,sx σ μ l]
 | .gd _ x,_=>by simp only[rel,SV.bP,lb σ μ x]
 | .u,_=>by simp[rel,SV.bP]
 | .fs _ _,_=>by simp only[rel,SV.bP,ey.O5,ey.Fx]
 | .fp _ _,_=>by simp only[rel,SV.bP,ey.O5,ey.Fx]
theorem sx(σ:ey)(μ:Nat->Nat):∀(x:List SV) (v:List Value),dm σ (hZ μ x) v↔dm (σ.yp μ) x v
 |[],_=>by simp[dm,hZ]
 |x::xs,_=>by simp only[dm,hZ,lb σ μ x,sx σ μ xs]
end
inductive SO where
 |row (ro:Bool) (sz n:Nat) (f:Nat->List SV)
 |gA (ro:Bool) (cs:List SV)
 |jY (l:List (List UInt8×Int))
 |nE (l:List (Int×Int))
def SO.ro:SO->Bool
 | .row r _ _ _ | .gA r _=>r
 |_=>false
def SO.sz:SO->Nat
 | .row _ z _ _=>z
 | .gA _ cs=>cs.length
 |_=>0
def SO.n:SO->Nat
 | .row _ _ n _=>n
 | .gA _ _=>1
 |_=>0
def SO.el:SO->Nat->List SV
 | .row _ _ _ f,i=>f i
 | .gA _ cs,_=>cs
 |_,_=>[]
def SO.isMap:SO->Bool
 | .jY _ | .nE _=>true
 |_=>false
def SO.tq:SO->List (SV×SV)
 | .jY l=>l.map fun p=>(.s p.1,.i .i64 p.2)
 | .nE l=>l.map fun p=>(.i .i64 p.1,.i .i64 p.2)
 |_=>[]
def fZ(σ:ey):List (SV×SV)->List MapEntry->Prop
 |[],es=>es=[]
 |p::ps,es=>∃e r,es=e::r/\rel σ p.1 e.key/\rel σ p.2 e.val/\fZ σ ps r
structure sl(σ:ey)(w:World)(L:Loc)(o:SO)(c:Array Value)(e:TypeId)(fr:Nat×Nat):Prop where
 heap:w.heap[L.b]?=some (.cells c e fr)
 Br:L.sz=o.sz
 room:L.sh+L.av<=c.size
 fits:o.n*o.sz<=L.av
 cell:∀i k,i<o.n->k<o.sz->∃v,c[L.sh+i*o.sz+k]?=some v/\rel σ ((o.el i).getD k .u) v
 free:o.ro=false->(fr.1=fr.2\/c.size<=fr.1)
def fh(σ:ey)(w:World)(h:Nat)(o:SO):Prop:=
 match o.isMap with
 |true=>∃L es a,σ h=some L/\w.heap[L.b]?=some (.map es a)/\fZ σ o.tq es.toList
 |false=>(o.n=0/\σ h=none)\/∃L c e fr,σ h=some L/\sl σ w L o c e fr
abbrev dZ:=List (Option SO)
def dZ.at(c:dZ)(h:Nat):Option SO:=c.getD h none
structure Sat(σ:ey)(w:World)(c:dZ):Prop where
 obj:∀h o,c.at h=some o->fh σ w h o
 apart:∀h h' o o' L L',h≠h'->c.at h=some o->c.at h'=some o'->o.ro=false->σ h=some L->σ h'=some L'->L.b≠L'.b
 beyond:∀h,c.length<=h->σ h=none
 gq:∀h L,σ h=some L->L.b<w.heap.size
 pG:∀b o,σ.fz b=some o->w.heap[b]?=some o
 mR:∀h o L,c.at h=some o->o.ro=false->σ h=some L->σ.fz L.b=none
 E0:∀b o,df.g b=some o->σ.fz b=some o
structure St where
 env:List (Tmp×SV)
 ctx:dZ
def look:List (Tmp×SV)->Tmp->SV
 |[],_=>.u
 |(u,x)::r,t=>if u=t then x else look r t
structure kS where
 w0:World
 D:Nat->Prop
 σ0:ey
 k:Nat
 nt:Nat
 gr:Bool
structure Fr(D:Nat->Prop)(w w':World):Prop where
 os:w'.os=w.os
 tape:w'.tape=w.tape
 output:w'.output=w.output
 size:w.heap.size<=w'.heap.size
 block:∀b,b<w.heap.size->¬D b->w'.heap[b]?=w.heap[b]?
theorem Fr.refl(D:Nat->Prop)(w:World):Fr D w w:=⟨rfl,rfl,rfl,aN _,fun _ _ _=>rfl⟩
theorem Fr.trans{D:Nat->Prop}{a b c:World}(h:Fr D a b)(k:Fr D b c):Fr D a c:=
 ⟨k.os.trans h.os,k.tape.trans h.tape,k.output.trans h.output,cv h.size k.size,fun i d hd=>(k.block i (dA d h.size) hd).trans (h.block i d hd)⟩
theorem Fr.mono{D c:Nat->Prop}{w w':World}(h:Fr D w w')(hd:∀b,b<w.heap.size->D b->c b):Fr c w w' :=
 ⟨h.os,h.tape,h.output,h.size,fun b d g=>h.block b d fun x=>g (hd b d x)⟩
theorem Fr.step{D l:Nat->Prop}{a b c:World}(h:Fr D a b)(k:Fr l b c)(hd:∀x,x<a.heap.size->l x->D x):Fr D a c:=
 ⟨k.os.trans h.os,k.tape.trans h.tape,k.output.trans h.output,cv h.size k.size,
  fun i g o=>(k.block i (dA g h.size) fun x=>o (hd i g x)).trans (h.block i g o)⟩
structure TM(A:kS)(σ:ey):Prop where
 loc:∀h,h<A.k->σ h=A.σ0 h
 FP:∀b o,A.σ0.fz b=some o->σ.fz b=some o
 LV:∀b o,σ.fz b=some o->A.σ0.fz b=some o\/(A.gr=true/\(A.D b\/A.w0.heap.size<=b))
structure Rel(A:kS)(σ:ey)(st:St)(a:Act)(w:World):Prop where
 defers:a.defers=[]
 size:a.tmps.size=A.nt
 env:∀t,rel σ (look st.env t) (a.tmps.getD t undef)
 sat:Sat σ w st.ctx
 fr:Fr A.D A.w0 w
 own:∀h o L,st.ctx.at h=some o->o.ro=false->σ h=some L->A.D L.b\/A.w0.heap.size<=L.b
 base:TM A σ
 mq:A.k<=st.ctx.length
mutual
def SV.plain:SV->Bool
 | .ptr _ _ _=>false
 | .ew _ _ _=>false
 | .mp _=>false
 | .agg l=>eJ l
 | .fJ l=>eJ l
 | .gd _ x=>SV.plain x
 | .b _=>true
 | .i _ _=>true
 | .s _=>true
 | .cQ=>true
 | .fn _=>true
 | .u=>true
 | .fs _ _=>true
 | .fp _ _=>true
def eJ:List SV->Bool
 |[]=>true
 |x::xs=>SV.plain x&&eJ xs
end
mutual
def SV.bit:SV->Bool
 | .agg l=>DH l
 | .fJ l=>DH l
 | .gd _ x=>SV.bit x
 | .b _=>true
 | .i _ _=>true
 | .s _=>true
 | .cQ=>true
 | .fn _=>true
 | .u=>true
 |_=>false
def DH:List SV->Bool
 |[]=>true
 |x::xs=>SV.bit x&&DH xs
end
mutual
theorem eK{σ σ':ey}(d:∀b o,σ.fz b=some o->σ'.fz b=some o):∀{x:SV} {v:Value},x.plain=true->rel σ x v->rel σ' x v
 | .b _,_,_,r=>by simpa[rel]using r
 | .i _ _,_,_,r=>by simpa[rel]using r
 | .s _,_,_,r=>by simpa[rel]using r
 | .cQ,_,_,r=>by simpa[rel]using r
 | .fn _,_,_,r=>by simpa[rel]using r
 | .u,_,_,r=>by simp[rel]
 | .ptr _ _ _,_,h,_=>by simp[SV.plain]at h
 | .ew _ _ _,_,h,_=>by simp[SV.plain]at h
 | .mp _,_,h,_=>by simp[SV.plain]at h
 | .agg l,_,h,r=>by
  simp only[rel,SV.plain]at r h |-
  obtain⟨cs,e,r⟩:=r;exact⟨cs,e,lJ d h r⟩
 | .fJ l,_,h,r=>by
  simp only[rel,SV.plain]at r h |-
  obtain⟨cs,e,r⟩:=r;exact⟨cs,e,lJ d h r⟩
 | .gd _ x,_,h,r=>by
  simp only[rel,SV.plain]at r h |-
  exact⟨fun g=>eK d h (r.1 g),r.2⟩
 | .fs _ _,_,_,r=>by
  simp only[rel]at r |-
  obtain⟨a,cap,e,k,r⟩:=r;refine⟨a,cap,e,k,r.imp id ?_⟩;rintro⟨b,off,c,e,fr,f,i,j⟩;exact⟨b,off,c,e,fr,f,d _ _ i,w8 (⟨fun _ _ e=>(by cases e),d⟩:mi σ.bare σ'.bare) j⟩
 | .fp _ _,_,_,r=>by
  simp only[rel]at r |-
  obtain⟨b,off,c,e,fr,f,i,j⟩:=r;exact⟨b,off,c,e,fr,f,d _ _ i,jT (⟨fun _ _ e=>(by cases e),d⟩:mi σ.bare σ'.bare) j⟩
theorem lJ{σ σ':ey}(a:∀b o,σ.fz b=some o->σ'.fz b=some o):∀{x:List SV} {v:List Value},eJ x=true->dm σ x v->dm σ' x v
 |[],_,_,r=>by simpa[dm]using r
 |_::_,_,h,r=>by
  simp only[dm,eJ,aD]at r h |-
  obtain⟨v,q,e,c,d⟩:=r;exact⟨v,q,e,eK a h.1 c,lJ a h.2 d⟩
end
mutual
theorem sy{σ σ':ey}:∀{x:SV} {v:Value},x.bit=true->rel σ x v->rel σ' x v
 | .b _,_,_,r=>by simpa[rel]using r
 | .i _ _,_,_,r=>by simpa[rel]using r
 | .s _,_,_,r=>by simpa[rel]using r
 | .cQ,_,_,r=>by simpa[rel]using r
 | .fn _,_,_,r=>by simpa[rel]using r
 | .u,_,_,r=>by simp[rel]
 | .ptr _ _ _,_,h,_=>by simp[SV.bit]at h
 | .ew _ _ _,_,h,_=>by simp[SV.bit]at h
 | .mp _,_,h,_=>by simp[SV.bit]at h
 | .fs _ _,_,h,_=>by simp[SV.bit]at h
 | .fp _ _,_,h,_=>by simp[SV.bit]at h
 | .agg l,_,h,r=>by
  simp only[rel,SV.bit]at r h |-
  obtain⟨cs,e,r⟩:=r;exact⟨cs,e,AQ h r⟩
 | .fJ l,_,h,r=>by
  simp only[rel,SV.bit]at r h |-
  obtain⟨cs,e,r⟩:=r;exact⟨cs,e,AQ h r⟩
 | .gd _ x,_,h,r=>by
  simp only[rel,SV.bit]at r h |-
  exact⟨fun g=>sy h (r.1 g),r.2⟩
theorem AQ{σ σ':ey}:∀{x:List SV} {v:List Value},DH x=true->dm σ x v->dm σ' x v
 |[],_,_,r=>by simpa[dm]using r
 |_::_,_,h,r=>by
  simp only[dm,DH,aD]at r h |-
  obtain⟨v,q,e,a,b⟩:=r;exact⟨v,q,e,sy h.1 a,AQ h.2 b⟩
end
end Go.Vg
end
section
namespace Go.Vg
variable[Go.Vg.df]
open Go.RowKit
inductive TD where
 |bool|int (k:IntKind)|str|slice (e:TypeId)|map (k e:TypeId)|struct (fs:List (TypeId×Nat))|other
def TD.eT:TD->Bool
 | .struct _=>true
 |_=>false
structure TI where
 td:TD
 size:Nat
 bytes:Nat
 zero:List SV
 cmp:Bool
abbrev TE:=TypeId->Option TI
def mP:TypeDesc->TD->Prop
 | .bool,.bool=>True
 | .int k,.int c=>k=c
 | .string,.str=>True
 | .slice e,.slice a=>e=a
 | .map k e,.map c a=>k=c/\e=a
 | .struct fs,.struct b=>fs.toList.map (fun f=>(f.type,f.offset))=b/\∀f∈fs.toList,f.name ≠ "_"
 | .array ..,_=>False
 | .struct ..,.other=>False
 |_,.other=>True
 |_,_=>False
structure Wt(P:Program)(t:TypeId)(ti:TI):Prop where
 D0:∃i,P.info? t=some i/\i.size=ti.size/\i.bytes=ti.bytes/\∃z,i.zero=some z/\dm ey.nil ti.zero z.cells.toList/\(ti.td.eT=false->z.oneCell'=true)
 desc:∃d,P.underlying t=some d/\mP d ti.td
 eq:ti.cmp=true->P.stoodInHeld t=false/\P.eqGuardType P.depth t=false
def hX(P:Program)(te:TE):Prop:=∀t ti,te t=some ti->Wt P t ti
def KO:Value->SV
 | .bool b=>.b b
 | .int k n=>.i k n
 | .string s=>.s s.data.toList
 | .slice none 0 0=>.cQ
 |_=>.u
theorem Mv(σ:ey)(v:Value):rel σ (KO v) v:=by unfold KO;split<;>simp[rel]
def St.ev(st:St):Operand->SV
 | .tmp t=>look st.env t
 | .const v=>KO v
 | .global _=>.u
 | .func f=>.fn f
theorem Rel.ev{A:kS}{σ:ey}{st:St}{a:Act}{w:World}(h:Rel A σ st a w)(x:Operand):rel σ (st.ev x) (a.eval x):=by
 cases x with
 |tmp t=>exact h.env t
 |const v=>exact Mv σ v
 |global g=>simp[St.ev,rel]
 |func f=>simp[St.ev,rel,Act.eval]
def bH(p q:Prop):Prop:=p/\(p->q)
theorem bH.mk{p q:Prop}(h:p)(k:p->q):bH p q:=⟨h,k⟩
theorem bH.out{p q:Prop}(h:bH p q):p/\q:=⟨h.1,h.2 h.1⟩
def j9(c:Bool)(x:SV)(K:SV->Prop):Prop:=
 match x with
 | .gd g v=>bH (c=true->g=true) (K v)
 |v=>K v
theorem fH{σ:ey}{c:Bool}{x:SV}{K:SV->Prop}{v:Value}(a:rel σ x v)(h:j9 c x K):∃y,K y/\(c=true->rel σ y v):=by
 unfold j9 at h;split at h
 ·rename_i g y;obtain⟨b,d⟩:=h.out;exact⟨y,d,fun e=>by simp only[rel]at a;exact a.1 (b e)⟩
 exact⟨x,h,fun _=>a⟩
def iU:IntKind->Int->Prop
 | .i64,n => -9223372036854775808<=n/\n<=9223372036854775807
 | .i32,n => -2147483648<=n/\n<=2147483647
 | .u8,n=>0<=n/\n<=255
 |k,n=>k.wrap n=n
theorem mS{k:IntKind}{n:Int}(h:iU k n):k.wrap n=n:=by cases k<;>simp only[iU]at h<;>first|exact h|(simp only[IntKind.wrap,IntKind.bits,IntKind.signed];simp;omega)
def dP(te:TE)(t:TypeId):TD:=match te t with|some ti=>ti.td|none=>.other
def zeroOf(te:TE)(t:TypeId):List SV:=match te t with|some ti=>ti.zero|none=>[]
def gW(te:TE)(t:TypeId):Nat:=match te t with|some ti=>ti.size|none=>0
def KQ(te:TE)(t:TypeId)(cs:List SV)(off:Nat):SV:=
 if(dP te t).eT then .agg ((cs.drop off).take (gW te t))else cs.getD off .u
def QK(f:TypeId->SV->SV->Option Bool)(te:TE)(xs c:List SV):List (TypeId×Nat)->Option Bool
 |[]=>some true
 |(t,off)::r=>if off<xs.length/\off<c.length then match f t (KQ te t xs off) (KQ te t c off),QK f te xs c r with
  |some a,some b=>some (a&&b)
  |_,_=>none
  else none
def uI(te:TE):Nat->TypeId->SV->SV->Option Bool
 |0,_,_,_=>none
 |n+1,t,x,y=>match te t with
  |none=>none
  |some ti=>match ti.td,x,y with
   | .int _,.i k a,.i c b=>if k=c then some (decide (a=b))else none
   | .bool,.b a,.b b=>some (a==b)
   | .str,.s a,.s b=>some (decide (a=b))
   | .struct fs,.agg xs,.agg d=>if ti.cmp then QK (uI te n) te xs d fs else none
   |_,_,_=>none
def nJ(te:TE)(t:TypeId)(wr c:Bool)(op:BinOp)(x y:SV)(K:SV->Prop):Prop:=
 match op,x,y with
 | .add,.i k a,.i d b=>k=d/\(if wr then K (.i k (k.wrap (a+b)))else bH (c=true->iU k (a+b)) (K (.i k (a+b))))
 | .sub,.i k a,.i d b=>k=d/\(if wr then K (.i k (k.wrap (a-b)))else bH (c=true->iU k (a-b)) (K (.i k (a-b))))
 | .mul,.i k a,.i d b=>k=d/\(if wr then K (.i k (k.wrap (a*b)))else bH (c=true->iU k (a*b)) (K (.i k (a*b))))
 | .quo,.i k a,.i d b=>k=d/\b≠0/\bH (c=true->iU k (a.tdiv b)) (K (.i k (a.tdiv b)))
 | .rem,.i k a,.i d b=>k=d/\bH (c=true->b≠0) (K (.i k (a.tmod b)))
 | .and,.i k a,.i d b=>k=d/\K (.i k (k.wrap ((BitVec.ofInt k.bits a &&& BitVec.ofInt k.bits b).toNat)))
 | .xor,.i k a,.i d b=>k=d/\K (.i k (k.wrap ((BitVec.ofInt k.bits a ^^^ BitVec.ofInt k.bits b).toNat)))
 | .shr,.i k a,.i _ b=>0<=b/\K (.i k (a.fdiv (2 ^ (min b.toNat k.bits))))
 | .eql,.i k a,.i d b=>k=d/\K (.b (decide (a=b)))
 | .neq,.i k a,.i d b=>k=d/\K (.b (!decide (a=b)))
 | .lss,.i k a,.i d b=>k=d/\K (.b (decide (a<b)))
 | .leq,.i k a,.i d b=>k=d/\K (.b (decide (a<=b)))
 | .gtr,.i k a,.i d b=>k=d/\K (.b (decide (a>b)))
 | .geq,.i k a,.i d b=>k=d/\K (.b (decide (a>=b)))
 | .add,.s a,.s b=>bH (c=true->a.length+b.length<=9223372036854775807) (K (.s (a++b)))
 | .eql,.s a,.s b=>K (.b (decide (a=b)))
 | .neq,.s a,.s b=>K (.b (!decide (a=b)))
 | .eql,.b a,.b b=>dP te t=.bool/\K (.b (a==b))
 | .neq,.b a,.b b=>dP te t=.bool/\K (.b (!(a==b)))
 | .eql,.agg a,.agg b=>match uI te 4 t (.agg a) (.agg b)with
  |some z=>K (.b z)
  |none=>False
 | .neq,.agg a,.agg b=>match uI te 4 t (.agg a) (.agg b)with
  |some z=>K (.b (!z))
  |none=>False
 |_,_,_=>False
theorem LL(a b:List UInt8):(ByteArray.mk a.toArray)++(ByteArray.mk b.toArray)=ByteArray.mk (a++b).toArray:=by ext1;simp[ByteArray.data_append]
theorem nL{α:Type}[BEq α][LawfulBEq α][DecidableEq α](a b:α):(a==b)=decide (a=b):=by by_cases h:a=b<;>simp[h]
theorem Jv(l:List UInt8):(ByteArray.mk l.toArray).size=l.length:=by rw[<-ByteArray.size_data];simp
theorem mB(l:List UInt8):(ByteArray.mk l.toArray).toList=l:=by rw[ByteArray.toList_eq]
end Go.Vg
end
section
namespace Go.Vg
variable[Go.Vg.df]
open Go.RowKit
theorem QD{P:Program}{te:TE}(a:hX P te){t:TypeId}{ti:TI}(h:te t=some ti):∃d,P.underlying t=some d/\mP d ti.td:=(a t ti h).desc
theorem sa{P:Program}{te:TE}(a:hX P te){t:TypeId}(h:dP te t=.bool):P.underlying t=some .bool:=by
 unfold dP at h;split at h
 ·rename_i ti b;obtain⟨d,hd,c⟩:=(a t ti b).desc;rw[h]at c;cases d<;>simp only[mP]at c<;>exact hd
 cases h
theorem kh{P:Program}{te:TE}(b:hX P te){t:TypeId}{k:IntKind}(h:dP te t=.int k):P.underlying t=some (.int k):=by
 unfold dP at h;split at h
 ·rename_i ti c;obtain⟨d,hd,a⟩:=(b t ti c).desc;rw[h]at a;cases d<;>simp only[mP]at a<;>subst a<;>exact hd
 cases h
theorem ju{P:Program}{te:TE}(a:hX P te){t:TypeId}(h:dP te t=.str):P.underlying t=some .string:=by
 unfold dP at h;split at h
 ·rename_i ti b;obtain⟨d,hd,c⟩:=(a t ti b).desc;rw[h]at c;cases d<;>simp only[mP]at c<;>exact hd
 cases h
theorem gF{P:Program}{te:TE}(b:hX P te){t e:TypeId}(h:dP te t=.slice e):P.underlying t=some (.slice e):=by
 unfold dP at h;split at h
 ·rename_i ti c;obtain⟨d,hd,a⟩:=(b t ti c).desc;rw[h]at a;cases d<;>simp only[mP]at a<;>subst a<;>exact hd
 cases h
theorem EU{P:Program}{te:TE}(b:hX P te){t k e:TypeId}(h:dP te t=.map k e):P.underlying t=some (.map k e):=by
 unfold dP at h;split at h
 ·rename_i ti c;obtain⟨d,hd,a⟩:=(b t ti c).desc;rw[h]at a;cases d<;>simp only[mP]at a
  obtain⟨rfl,rfl⟩:=a;exact hd
 cases h
theorem lM{P:Program}{te:TE}(c:hX P te){t:TypeId}{fs:List (TypeId×Nat)}(h:dP te t=.struct fs) :
  ∃a,P.underlying t=some (.struct a)/\a.toList.map (fun f=>(f.type,f.offset))=fs/\∀f∈a.toList,f.name ≠ "_" := by
 unfold dP at h;split at h
 ·rename_i ti e;obtain⟨d,hd,b⟩:=(c t ti e).desc;rw[h]at b;cases d<;>simp only[mP]at b
  exact⟨_,hd,b⟩
 cases h
theorem lL{te:TE}{t:TypeId}{ti:TI}(h:te t=some ti):dP te t=ti.td:=by simp[dP,h]
theorem fx{P:Program}{t:TypeId}{d:TypeDesc}(h:P.underlying t=some d)(w:World):(underlying t).run P w=.ok d w:=by simp[underlying,h]
theorem nw{P:Program}{t:TypeId}{i:TypeInfo}(h:P.info? t=some i)(w:World):(typeInfo t).run P w=.ok i w:=by simp[typeInfo,h]
theorem jb{P:Program}{te:TE}(a:hX P te){t:TypeId}{ti:TI}(h:te t=some ti)(w:World):(sizeOf t).run P w=.ok ti.size w:=by obtain⟨i,b,c,_⟩:=(a t ti h).D0;simp[sizeOf,nw b,c]
theorem mG{P:Program}{te:TE}(b:hX P te){t:TypeId}{ti:TI}(h:te t=some ti)(e:ti.td≠.other)(w:World):(isAgg t).run P w=.ok ti.td.eT w:=by obtain⟨d,hd,c⟩:=(b t ti h).desc;simp only[isAgg,Sem.run_bind,fx hd,Result.andThen_ok];cases a:ti.td<;>rw[a]at c<;>cases d<;>simp only[mP]at c<;>first|(simp[TD.eT];done)|(exact absurd a e)
theorem pk{σ:ey}:∀{l:List SV} {vs:List Value} (n:Nat),dm σ l vs->dm σ (l.drop n) (vs.drop n)
 |l,vs,0,h=>by simpa using h
 |[],vs,n+1,h=>by simp only[dm]at h;subst h;simp[dm]
 |x::xs,vs,n+1,h=>by simp only[dm]at h;obtain⟨v,r,rfl,_,a⟩:=h;simpa using pk n a
theorem po{σ:ey}:∀{l:List SV} {vs:List Value} (n:Nat),dm σ l vs->dm σ (l.take n) (vs.take n)
 |l,vs,0,h=>by simp[dm]
 |[],vs,n+1,h=>by simp only[dm]at h;subst h;simp[dm]
 |x::xs,vs,n+1,h=>by simp only[dm]at h;obtain⟨v,r,rfl,a,b⟩:=h;simp only[List.take_succ_cons,dm];exact⟨v,r.take n,rfl,a,po n b⟩
theorem xQ{P:Program}{te:TE}(a:hX P te){σ:ey}{t:TypeId}{ti:TI}(c:te t=some ti)(f:ti.td≠.other){xs:List SV}{cs:Array Value}{off:Nat}(g:dm σ xs cs.toList)(b:off<xs.length):∃v,rel σ (KQ te t xs off) v/\∀w,(part t cs off).run P w=.ok v w:=by
 unfold KQ;rw[lL c];split
 ·rename_i e;refine⟨.agg (cs.extract off (off+ti.size)), ?_,fun w=>?_⟩
  ·simp only[rel];refine⟨_,rfl, ?_⟩;have:=po (gW te t) (pk off g);simp only[gW,c]at this |-
   simpa[Array.toList_extract,List.extract_eq_take_drop]using this
  simp[part,mG a c f,e,jb a c]
 rename_i e;obtain⟨v,h,d⟩:=ja g (j:=off) (x:=xs.getD off .u) (by simp[List.getD,aS b]);refine⟨v,d,fun w=>?_⟩;have:cs[off]?=some v:=by simpa using h
 simp[part,mG a c f,e,this]
theorem zk{P:Program}{te:TE}(i:hX P te){σ:ey}:∀(n:Nat) (t:TypeId) (x y:SV) (z:Bool),uI te n t x y=some z->∀N O,rel σ x N->rel σ y O ->
  (∀d,n<=d->∀w,(Op.equalIn d t N O).run P w=.ok z w)/\(∀l,x=.agg l->P.eqGuardType P.depth t=false):=by
 intro n
 induction n with
 |zero=>intro t x y z h;simp[uI]at h
 |succ n Y=>
  intro t x y z h N O m o;simp only[uI]at h;split at h
  ·cases h
  rename_i ti j;split at h
  ·rename_i _ _ X k a k' b c;split at h
   ·rename_i H;subst H;simp only[rel]at m o;subst m o;simp only[db]at h;subst h;refine⟨fun d hd w=>?_,fun _ u=>by cases u⟩;obtain⟨d,rfl⟩:∃e,d=e+1:=⟨d-1,by omega⟩
    rw[run_equalIn_int w d t k X a b (kh i ((lL j).trans c)),nL]
   cases h
  ·rename_i _ _ a b c;simp only[rel]at m o;subst m o;simp only[db]at h;subst h;refine⟨fun d hd w=>?_,fun _ u=>by cases u⟩;obtain⟨d,rfl⟩:∃e,d=e+1:=⟨d-1,by omega⟩
   rw[run_equalIn_bool' w d t a b (sa i ((lL j).trans c))]
  ·rename_i _ _ a b c;simp only[rel]at m o;subst m o;simp only[db]at h;subst h;refine⟨fun d hd w=>?_,fun _ u=>by cases u⟩;obtain⟨d,rfl⟩:∃e,d=e+1:=⟨d-1,by omega⟩
   rw[run_equalIn_string w d t _ _ (ju i ((lL j).trans c)),mB,mB,nL]
  ·rename_i _ _ fs xs ys c;split at h
   ·rename_i q;obtain⟨D,E⟩:=(i t ti j).eq q;refine⟨fun d hd w=>?_,fun _ _=>E⟩;obtain⟨d,rfl⟩:∃e,d=e+1:=⟨d-1,by omega⟩
    obtain⟨Q,r,A,B⟩:=lM i ((lL j).trans c);simp only[rel]at m o;obtain⟨cs,rfl,m⟩:=m;obtain⟨S,rfl,o⟩:=o;have s:P.fieldsOf t=Q:=by simp[Program.fieldsOf,r]
    rw[run_equalIn_agg w d t cs S (by rw[s];exact r) D,s];have G:n<=d:=by omega
    clear r s E D q c j;generalize u:Q.toList=l at *;clear u;subst A
    induction l generalizing z with
    |nil=>simp[QK]at h;simp[Op.eqFields,h]
    |cons f l L=>
     simp only[cC,QK]at h;split at h
     case isFalse=>cases h
     rename_i C;obtain⟨J,K⟩:=C;split at h
     ·rename_i a b v W;simp only[db]at h;subst h;have I:f.name ≠ "_" := B f (by simp);cases p:te f.type with
      |none=>
       cases n with
       |zero=>simp[uI]at v
       |succ n=>simp[uI,p]at v
      |some M=>
       have R:M.td≠.other:=by
        intro e;cases n with
        |zero=>simp[uI]at v
        |succ n=>simp[uI,p,e]at v
       obtain⟨v1,Z,T⟩:=xQ i p R m J;obtain⟨v2,r2,U⟩:=xQ i p R o K;have V:=(Y f.type _ _ a v v1 v2 Z r2).1 d G w;simp only[Op.eqFields,I,ne_eq,not_false_eq_true,dy,Sem.run_bind,T,U,Result.andThen_ok,V];cases a with
       |false=>simp
       |true=>simpa using L b (fun g E=>B g (dI _ E)) W
     cases h
   cases h
  cases h
theorem Jd{P:Program}{te:TE}(m:hX P te){σ:ey}{wr c:Bool}{op:BinOp}{x y:SV}{K:SV->Prop}{t:TypeId}{p q:Value}(B C:Operand)(g:c=true->rel σ x p)(i:c=true->rel σ y q)(h:nJ te t wr c op x y K) :
  ∃z,K z/\(c=true->∃v,rel σ z v/\∀w,((do eqGuard op t B C p q;Go.binOp op t p q):Sem Value).run P w=.ok v w):=by
 unfold nJ at h;split at h;all_goals first
  |exact h.elim
  |skip
 case h_1 k a j b=>
  obtain⟨rfl,h⟩:=h;split at h
  ·refine⟨_,h,fun f=>?_⟩;have d:=g f;have e:=i f;simp only[rel]at d e;subst d e;exact⟨.int k (k.wrap (a+b)),by simp only[rel],fun w=>by simp[eqGuard,Go.binOp,Op.intArith,Op.intDiv,Op.intBits,Op.intCmp,Op.shift,Op.stringOp]⟩
  obtain⟨l,h⟩:=h.out;refine⟨_,h,fun f=>?_⟩;have d:=g f;have e:=i f;simp only[rel]at d e;subst d e;exact⟨.int k (a+b),by simp only[rel],fun w=>by simp[eqGuard,Go.binOp,Op.intArith,Op.intDiv,Op.intBits,Op.intCmp,Op.shift,Op.stringOp,mS (l f)]⟩
 case h_2 k a j b=>
  obtain⟨rfl,h⟩:=h;split at h
  ·refine⟨_,h,fun f=>?_⟩;have d:=g f;have e:=i f;simp only[rel]at d e;subst d e;exact⟨.int k (k.wrap (a-b)),by simp only[rel],fun w=>by simp[eqGuard,Go.binOp,Op.intArith,Op.intDiv,Op.intBits,Op.intCmp,Op.shift,Op.stringOp]⟩
  obtain⟨l,h⟩:=h.out;refine⟨_,h,fun f=>?_⟩;have d:=g f;have e:=i f;simp only[rel]at d e;subst d e;exact⟨.int k (a-b),by simp only[rel],fun w=>by simp[eqGuard,Go.binOp,Op.intArith,Op.intDiv,Op.intBits,Op.intCmp,Op.shift,Op.stringOp,mS (l f)]⟩
 case h_3 k a j b=>
  obtain⟨rfl,h⟩:=h;split at h
  ·refine⟨_,h,fun f=>?_⟩;have d:=g f;have e:=i f;simp only[rel]at d e;subst d e;exact⟨.int k (k.wrap (a*b)),by simp only[rel],fun w=>by simp[eqGuard,Go.binOp,Op.intArith,Op.intDiv,Op.intBits,Op.intCmp,Op.shift,Op.stringOp]⟩
  obtain⟨l,h⟩:=h.out;refine⟨_,h,fun f=>?_⟩;have d:=g f;have e:=i f;simp only[rel]at d e;subst d e;exact⟨.int k (a*b),by simp only[rel],fun w=>by simp[eqGuard,Go.binOp,Op.intArith,Op.intDiv,Op.intBits,Op.intCmp,Op.shift,Op.stringOp,mS (l f)]⟩
 case h_4 k a j b=>
  obtain⟨rfl,D,h⟩:=h;obtain⟨l,h⟩:=h.out;refine⟨_,h,fun f=>?_⟩;have d:=g f;have e:=i f;simp only[rel]at d e;subst d e;exact⟨.int k (a.tdiv b),by simp only[rel],fun w=>by simp[eqGuard,Go.binOp,Op.intArith,Op.intDiv,Op.intBits,Op.intCmp,Op.shift,Op.stringOp,mS (l f),D]⟩
 case h_5 k a j b=>
  obtain⟨rfl,h⟩:=h;obtain⟨l,h⟩:=h.out;refine⟨_,h,fun f=>?_⟩;have d:=g f;have e:=i f;simp only[rel]at d e;subst d e;exact⟨.int k (a.tmod b),by simp only[rel],fun w=>by simp[eqGuard,Go.binOp,Op.intArith,Op.intDiv,Op.intBits,Op.intCmp,Op.shift,Op.stringOp,l f]⟩
 case h_6 k a j b=>
  obtain⟨rfl,h⟩:=h;refine⟨_,h,fun f=>?_⟩;have d:=g f;have e:=i f;simp only[rel]at d e;subst d e;exact⟨.int k (k.wrap ((BitVec.ofInt k.bits a &&& BitVec.ofInt k.bits b).toNat)),by simp only[rel],fun w=>by simp[eqGuard,Go.binOp,Op.intArith,Op.intDiv,Op.intBits,Op.intCmp,Op.shift,Op.stringOp]⟩
 case h_7 k a j b=>
  obtain⟨rfl,h⟩:=h;refine⟨_,h,fun f=>?_⟩;have d:=g f;have e:=i f;simp only[rel]at d e;subst d e;exact⟨.int k (k.wrap ((BitVec.ofInt k.bits a ^^^ BitVec.ofInt k.bits b).toNat)),by simp only[rel],fun w=>by simp[eqGuard,Go.binOp,Op.intArith,Op.intDiv,Op.intBits,Op.intCmp,Op.shift,Op.stringOp]⟩
 case h_8 k a E b=>
  obtain⟨D,h⟩:=h;refine⟨_,h,fun f=>?_⟩;have d:=g f;have e:=i f;simp only[rel]at d e;subst d e;exact⟨.int k (a.fdiv (2 ^ (min b.toNat k.bits))),by simp only[rel],fun w=>by simp[eqGuard,Go.binOp,Op.intArith,Op.intDiv,Op.intBits,Op.intCmp,Op.shift,Op.stringOp,show ¬b<0 by omega]⟩
 case h_9 k a j b=>
  obtain⟨rfl,h⟩:=h;refine⟨_,h,fun f=>?_⟩;have d:=g f;have e:=i f;simp only[rel]at d e;subst d e;exact⟨.bool (decide (a=b)),by simp only[rel],fun w=>by simp[eqGuard,Go.binOp,Op.intArith,Op.intDiv,Op.intBits,Op.intCmp,Op.shift,Op.stringOp,nL,bne]⟩
 case h_10 k a j b=>
  obtain⟨rfl,h⟩:=h;refine⟨_,h,fun f=>?_⟩;have d:=g f;have e:=i f;simp only[rel]at d e;subst d e;exact⟨.bool (!decide (a=b)),by simp only[rel],fun w=>by simp[eqGuard,Go.binOp,Op.intArith,Op.intDiv,Op.intBits,Op.intCmp,Op.shift,Op.stringOp,nL,bne]⟩
 case h_11 k a j b=>
  obtain⟨rfl,h⟩:=h;refine⟨_,h,fun f=>?_⟩;have d:=g f;have e:=i f;simp only[rel]at d e;subst d e;exact⟨.bool (decide (a<b)),by simp only[rel],fun w=>by simp[eqGuard,Go.binOp,Op.intArith,Op.intDiv,Op.intBits,Op.intCmp,Op.shift,Op.stringOp]⟩
 case h_12 k a j b=>
  obtain⟨rfl,h⟩:=h;refine⟨_,h,fun f=>?_⟩;have d:=g f;have e:=i f;simp only[rel]at d e;subst d e;exact⟨.bool (decide (a<=b)),by simp only[rel],fun w=>by simp[eqGuard,Go.binOp,Op.intArith,Op.intDiv,Op.intBits,Op.intCmp,Op.shift,Op.stringOp]⟩
 case h_13 k a j b=>
  obtain⟨rfl,h⟩:=h;refine⟨_,h,fun f=>?_⟩;have d:=g f;have e:=i f;simp only[rel]at d e;subst d e;exact⟨.bool (decide (a>b)),by simp only[rel],fun w=>by simp[eqGuard,Go.binOp,Op.intArith,Op.intDiv,Op.intBits,Op.intCmp,Op.shift,Op.stringOp]⟩
 case h_14 k a j b=>
  obtain⟨rfl,h⟩:=h;refine⟨_,h,fun f=>?_⟩;have d:=g f;have e:=i f;simp only[rel]at d e;subst d e;exact⟨.bool (decide (a>=b)),by simp only[rel],fun w=>by simp[eqGuard,Go.binOp,Op.intArith,Op.intDiv,Op.intBits,Op.intCmp,Op.shift,Op.stringOp]⟩
 case h_15 a b=>
  obtain⟨l,h⟩:=h.out;refine⟨_,h,fun f=>?_⟩;have d:=g f;have e:=i f;simp only[rel]at d e;subst d e;exact⟨.string ⟨(a++b).toArray⟩,by simp only[rel],fun w=>by simp[eqGuard,Go.binOp,Op.intArith,Op.intDiv,Op.intBits,Op.intCmp,Op.shift,Op.stringOp,LL,show ¬(9223372036854775807<(a.length:Int)+(b.length:Int)) by have:=l f;omega,IntKind.max,IntKind.bits,IntKind.signed,ByteArray.size]⟩
 case h_16 a b=>
  refine⟨_,h,fun f=>?_⟩;have d:=g f;have e:=i f;simp only[rel]at d e;subst d e;refine⟨.bool (decide (a=b)),by simp only[rel],fun w=>?_⟩;simp only[eqGuard,Go.binOp,Op.stringOp,mB,nL];rfl
 case h_17 a b=>
  refine⟨_,h,fun f=>?_⟩;have d:=g f;have e:=i f;simp only[rel]at d e;subst d e;refine⟨.bool (!decide (a=b)),by simp only[rel],fun w=>?_⟩;simp only[eqGuard,Go.binOp,Op.stringOp,mB,nL];rfl
 case h_18 a b=>
  obtain⟨u,h⟩:=h;refine⟨_,h,fun f=>?_⟩;have d:=g f;have e:=i f;simp only[rel]at d e;subst d e;refine⟨.bool (a==b),by simp only[rel],fun w=>?_⟩;simp[eqGuard,Go.binOp,Op.equal,Op.maxDepth,run_equalIn_bool' w _ t a b (sa m u)]
 case h_19 a b=>
  obtain⟨u,h⟩:=h;refine⟨_,h,fun f=>?_⟩;have d:=g f;have e:=i f;simp only[rel]at d e;subst d e;refine⟨.bool (!(a==b)),by simp only[rel],fun w=>?_⟩;simp[eqGuard,Go.binOp,Op.equal,Op.maxDepth,run_equalIn_bool' w _ t a b (sa m u)]
 case h_20 a b=>
  split at h
  ·rename_i z A;refine⟨_,h,fun f=>?_⟩;have d:=g f;have e:=i f;refine⟨.bool z,by simp only[rel],fun w=>?_⟩;obtain⟨o,s⟩:=zk m 4 t _ _ z A p q d e;have n:=o 10000 (by omega) w;clear g i;simp only[rel]at d e;obtain⟨cs,rfl,d⟩:=d;obtain⟨r,rfl,e⟩:=e;clear o d e;simp[run_eqGuard_agg w .eql t B C cs r (s _ rfl),run_eql_struct,n]
  exact h.elim
 case h_21 a b=>
  split at h
  ·rename_i z A;refine⟨_,h,fun f=>?_⟩;have d:=g f;have e:=i f;refine⟨.bool (!z),by simp only[rel],fun w=>?_⟩;obtain⟨o,s⟩:=zk m 4 t _ _ z A p q d e;have n:=o 10000 (by omega) w;clear g i;simp only[rel]at d e;obtain⟨cs,rfl,d⟩:=d;obtain⟨r,rfl,e⟩:=e;clear o d e;simp[run_eqGuard_agg w .neq t B C cs r (s _ rfl),run_neq_struct,n]
  exact h.elim
end Go.Vg
end
