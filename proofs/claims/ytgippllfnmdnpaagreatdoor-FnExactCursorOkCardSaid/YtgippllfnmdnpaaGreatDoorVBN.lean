/- Own text: part VBN. -/
import Derived.Test.YtgippllfnmdnpaaGreatDoorVBM
import Derived.Test.YtgippllfnmdnpaaGreatDoorVAS
import Derived.Lib.SmallJoins
import Derived.HandedShaped
import Derived.LaidLaws
import Derived.LaidMore
import Derived.Lay
import Derived.SevenTiedAt
import Derived.Lib.LaidU8T
import Derived.PinnedBridge
import Derived.Test.YtgippllfnmdnpaaGreatDoorCards
import Derived.Test.YtgippllfnmdnpaaGreatDoorTie
set_option linter.all false
namespace Go.Proofs.YtgippllfnmdnpaaGreatDoor.fnExactCursorOk
open Go.ChangeMaps (open_string shut_string)
open Go.ChangeShapes Go.WideShapes Go.ChangeAt Go.RowKit Go.Vg
theorem own:ownKnob Tryz.prog.godebug=none:=by kernel_rfl
theorem laidOut:laidOutB Tryz.prog=true:=by kernel_rfl
section
variable[Go.Vg.df]
theorem J4{l:List (List SV)}(h:∀y∈l,∃m,y=[.i .i64 m]/\iU .i64 m):∃es:List Int,l=es.map dC:=by
 obtain⟨es,rfl,_⟩:=tr (f:=dC) (p:=fun _=>True) (l:=l) fun y a=>by obtain⟨m,rfl,_⟩:=h y a;exact⟨m,trivial,rfl⟩
 exact⟨es,rfl⟩
theorem OH{y:SV}(h:JT Go.TT.te 5 56 y):∃c:Go.Pl.Cu,y=.agg [.s c.tx,.i .i64 c.place,.fs 1 (c.st.map dC),.fs 3 (c.ms.map kD),.i .i64 c.la]/\(c.tx.length<=9223372036854775807/\c.st.length<=9223372036854775807/\c.ms.length<=9223372036854775807/\∀m∈c.ms,m.st.length<=9223372036854775807):=by
 simp only[JT,dP,Go.TT.Lt,TD.eT,dy]at h;obtain⟨xs,rfl,h⟩:=h;simp only[fits,Go.TT.Lt,gW]at h;obtain⟨j,e⟩:=h
 match xs,j with
 |[x,z,A,B,C],_=>
 simp[-Bool.exists_bool,Go.TT.RO,Go.TT.Vl,Go.TT.Ls,Go.TT.P3,Go.TT.I7]at e;obtain⟨⟨t,rfl,o⟩,⟨u,rfl,_⟩,⟨w,rfl,q,g2⟩,⟨s,rfl,r,g3⟩,⟨n4,rfl,_⟩⟩:=e;obtain⟨g,rfl⟩:=J4 g2;obtain⟨i,rfl,he⟩:=tr (f:=kD) (p:=fun m=>m.st.length<=9223372036854775807) (l:=s) fun y n=>by
  obtain⟨k,d⟩:=g3 y n
  match y,k with
  |[D,E,F],_=>
  have a:=d 3 0 (by simp);have b:=d 3 1 (by simp);have c:=d 31 2 (by simp);simp[-Bool.exists_bool,Go.TT.RO,Go.TT.Ls]at a b c;obtain⟨m0,rfl,_⟩:=a;obtain⟨m1,rfl,_⟩:=b;obtain⟨m2,rfl,q2,v⟩:=c;obtain⟨es,rfl⟩:=J4 v;exact⟨⟨m0,m1,es⟩,by simpa using q2,rfl⟩
 refine⟨⟨t,u,g,i,n4⟩,rfl,o,by simpa using q,by simpa using r,fun m hm=>he m hm⟩
end
theorem wrap{H:Type}{enc:TypeId×Value->H}{a:Assume}{C:Checked}{os:Os}{f:FuncId}{fn:Func}{s:ChangeSpec}{conds:List PathCond}{apart fresh handsOn again:Bool}{X:World->Array Value->Prop}(u:∀(w w':World) (args:Array Value),w.heap=w'.heap->X w args->X w' args)(own:ownKnob C.prog.godebug=none)(started:os.Started)(c:C.prog.inits.idxOf? f=none)(n:C.prog.funcs[f]?=some fn)(witness:∃(w:World) (tape:Tape) (i:Input),w.os=os/\(w.forCall tape i).Shaped C.prog/\i.vars=[]/\Input.okWide C.prog (w.forCall tape i) .any w.heap.size f i /\
   ((s.pre enc C.prog fn conds apart (w.forCall tape i).memory i.args/\X (w.forCall tape i).memory i.args)/\sizedMet enc C.prog fn (OpenSpec.ofChange s) apart (w.forCall tape i).memory i.args)/\a.holds C.prog (lone (Frame.enter C.prog f i.args .normal) [] (w.forCall tape i)))(b:∀(W:World) (base:Nat) (args:Array Value) (l gs:List (DataW H)) (before:List MemPlace),
   (∀(j:Nat) t v,fn.params[j]?=some t->args[j]?=some v->Value.okWide C.prog W .any base t v) ->
   DataW.Whole enc C.prog fn.params.toList s.vars apart W args.toList l gs before->W.ShapedOpen C.prog->X W args ->
   Calls C.prog f args W fun e r=>∃v,e=.returned v/\s.post enc C.prog fn apart fresh handsOn again W args v r) :
  ReturnsInHanded a C os f .any (fun w args=>(s.pre enc C.prog fn conds apart w args/\X w args)/\sizedMet enc C.prog fn (OpenSpec.ofChange s) apart w args) (s.post enc C.prog fn apart fresh handsOn again):=by
 refine returnsInHanded_of_calls own started c witness ?_;intro w tape i _ p _ o g k;obtain⟨_,_,_,m,d,_,_,_,_,h⟩:=o;have e:m=fn:=Option.some.inj (d.symm.trans n);subst e;obtain⟨⟨⟨l,gs,before,hw,y⟩,x⟩,z⟩:=g;have q:=DataW.Whole.of_heap (w':=w.forCall tape i) (by rfl) hw;refine(b (w.forCall tape i) w.heap.size i.args l gs before h q p (u _ _ _ (by rfl) x)).mono fun e r ⟨v,he,hp⟩=>?_;subst he;exact ChangeSpec.post_blind hp
set_option maxRecDepth 100000 in
theorem lifted(os:Os)(started:os.Started)(H:Type)(enc:TypeId×Value->H) :
  ReturnsInHanded {} Tryz.checked os 9 .any (fun w args=>(Rows.fnExactCursorOkSpec.pre enc Tryz.prog Tryz.f9 Rows.fnExactCursorOkRow.domain false w args/\laidMetH Tryz.prog Rows.fnExactCursorOkRow.laid w)/\sizedMet enc Tryz.prog Tryz.f9 (OpenSpec.ofChange Rows.fnExactCursorOkSpec) false w args) (Rows.fnExactCursorOkSpec.post enc Tryz.prog Tryz.f9 false true false false):=by
 refine wrap (C:=Tryz.checked) (X:=fun w _=>laidMetH Tryz.prog Rows.fnExactCursorOkRow.laid w) (fun _ _ _ K h=>h.of_heap K) own started (by kernel_rfl) Tryz.func9
  (ChangeSpec.witness_shaped (enc:=enc) (C:=Tryz.checked) (os:=os) (X:=fun w _=>laidMetH Tryz.prog Rows.fnExactCursorOkRow.laid w) false (World.laidAll Tryz.prog os Rows.fnExactCursorOkRow.laid) #[.agg #[.string ByteArray.empty,.int .i64 0,.slice none 0 0,.slice none 0 0,.int .i64 0]] 8 (World.laidAll_os _ _ _)
   (World.shaped_of_ZipB (by kernel_rfl) (by kernel_rfl)) (by kernel_rfl) (by kernel_rfl) (by kernel_rfl)
   (by rw[MakeChecks.laidMetH_plain _ _ _ (by kernel_rfl)];exact laidMet_laidAll _ (by kernel_rfl) (by kernel_rfl))) ?_
 intro W base args A gs before a y M E;have c:∀(j:Nat) t v,Tryz.f9.params[j]?=some t->args[j]?=some v->Value.okWide Tryz.prog W .any base t v:=a;have l:=y;obtain⟨p,q,f,G,rfl,I,L⟩:=y;have u:DataW.TrodAll enc Tryz.prog W 0 (fun _=>true) true Tryz.f9.params.toList args.toList A p:=f;rw[Tryz.params9]at u c;have g:laidMet Tryz.prog Rows.fnExactCursorOkRow.laid W:=by have h:=E;rw[MakeChecks.laidMetH_plain _ _ _ (by kernel_rfl)]at h;exact h
 have F:Lib.Utf8Tabs 0 1 W:=
  utf8Tabs_of_readsT (ρ:=Tryz.xD) { Tryz.Kd with } ⟨by kernel_rfl,by kernel_rfl,by kernel_rfl,by kernel_rfl,by kernel_rfl,by kernel_rfl,by kernel_rfl⟩
   (Go.Pinned.utf8First_eq▸Lib.laidMet.reads g (.tail _ (.head _))) (Lib.laidMet.reads g (.head _))
 letI:df:=⟨fun b=>if b=0\/b=1 then W.heap[b]? else none⟩
 have J:∀b o,df.g b=some o->W.heap[b]?=some o:=fun b o h=>by
  have i:(if b=0\/b=1 then W.heap[b]? else none)=some o:=h;split at i
  ·exact i
  cases i
 haveI:cS 0 1:=FW F rfl rfl
 obtain⟨v0,P,d0,B,N,q0,r,rfl,rfl,k,O⟩:=trodAll_cons u;obtain⟨rfl,rfl,rfl⟩:=trodAll_nil O;obtain rfl:args=#[v0]:=by cases args;simp_all
 obtain⟨rfl,rfl⟩:=trodVars_none G;have s:∀x∈N,x.block<W.heap.size:=by obtain⟨m,hm⟩:=k;exact DataW.trod_lt m _ _ _ hm
 obtain⟨R,f0,D⟩:=I9 Go.TT.te_ok (n:=5) (by decide +kernel) ((c 0 56 v0 rfl rfl)) k;obtain⟨a0,rfl,z⟩:=OH f0;clear f a;refine(NU (T.D3 a0 z) (w:=W) (O4 D) J).mono fun e Q ⟨he,d⟩=>?_;subst he;exact⟨_,rfl,_,_,_,[],_,[],l,trodAll_mk1 (shut_bool Tryz.underlying4 _),(trodAll_cons_mk (Below.trod laidOut (by kernel_rfl) (aW (by kernel_rfl)) k d s) trodAll_mk0),rfl,d.frame _,fun h=>by cases h⟩
end Go.Proofs.YtgippllfnmdnpaaGreatDoor.fnExactCursorOk
