/- The law FnExactParseBytes returns true for every input: the row's statement, and the card that ties what it lists; no conditions. -/
import Derived.Test.YtgippllfnmdnpaaGreatDoorUBN
import Derived.Test.YtgippllfnmdnpaaGreatDoorUAS
import Derived.Lib.SmallJoins
import Derived.HandedShaped
import Derived.LaidLaws
import Derived.LaidMore
import Derived.Lay
import Derived.SevenTiedAt
import Derived.Lib.LaidU8T
import Derived.PinnedBridge
import Derived.Test.YtgippllfnmdnpaaGreatDoorCards
import Derived.Test.YtgippllfnmdnpaaGreatDoorTie
set_option linter.all false
namespace Go.Proofs.YtgippllfnmdnpaaGreatDoor.fnExactParseBytes
open Go.ChangeMaps (open_string shut_string)
open Go.ChangeShapes Go.WideShapes Go.ChangeAt Go.RowKit Go.Vg
theorem own:ownKnob Tryz.prog.godebug=none:=by kernel_rfl
theorem laidOut:laidOutB Tryz.prog=true:=by kernel_rfl
section
variable [Go.Vg.Glob]
theorem zxk {y:SV} (h:fitsV Go.TT.te 4 22 y):∃ l:List UInt8,y=.fs 1 (l.map j7)∧l.length≤9223372036854775807:=by
 simp only [fitsV,tdOf,j8,fits,Go.TT.te_22,Go.TT.te_5,TD.isStruct,Bool.false_eq_true,if_false] at h;obtain ⟨l,e,hl,hy⟩:=h;cases e;obtain ⟨es,rfl,he⟩:=zmq (f:=j7) (p:=fun _=>True) (l:=l) fun y hy'=>by obtain ⟨m,rfl,hm⟩:=hy y hy';simp only [inR] at hm;refine ⟨UInt8.ofNat m.toNat,trivial, ?_⟩;simp only [j7,UInt8.toNat_ofNat'];congr 2;omega
 exact ⟨es,rfl,by simpa using hl⟩
end
theorem wrap {H:Type} {enc:TypeId×Value→H} {a:Assume} {C:Checked} {os:Os} {f:FuncId} {fn:Func} {s:ChangeSpec} {conds:List PathCond} {apart fresh handsOn again:Bool} {X:World→Array Value→Prop}
  (hX:∀ (w w':World) (args:Array Value),w.heap=w'.heap→X w args→X w' args)
  (own:ownKnob C.prog.godebug=none) (started:os.Started) (noInit:C.prog.inits.idxOf? f=none) (hfn:C.prog.funcs[f]?=some fn)
  (witness:∃ (w:World) (tape:Tape) (i:Input),w.os=os∧(w.forCall tape i).Shaped C.prog∧i.vars=[]∧Input.okWide C.prog (w.forCall tape i) .any w.heap.size f i ∧
   ((s.pre enc C.prog fn conds apart (w.forCall tape i).memory i.args∧X (w.forCall tape i).memory i.args)∧sizedMet enc C.prog fn (OpenSpec.ofChange s) apart (w.forCall tape i).memory i.args)∧a.holds C.prog (lone (Frame.enter C.prog f i.args .normal) [] (w.forCall tape i)))
  (contract:∀ (W:World) (base:Nat) (args:Array Value) (ds gs:List (DataW H)) (before:List MemPlace),
   (∀ (j:Nat) t v,fn.params[j]?=some t→args[j]?=some v→Value.okWide C.prog W .any base t v) →
   DataW.Whole enc C.prog fn.params.toList s.vars apart W args.toList ds gs before→W.ShapedOpen C.prog→X W args →
   Calls C.prog f args W fun e W'=>∃ v,e=.returned v∧s.post enc C.prog fn apart fresh handsOn again W args v W') :
  ReturnsInHanded a C os f .any (fun w args=>(s.pre enc C.prog fn conds apart w args∧X w args)∧sizedMet enc C.prog fn (OpenSpec.ofChange s) apart w args) (s.post enc C.prog fn apart fresh handsOn again):=by
 refine returnsInHanded_of_calls own started noInit witness ?_;intro w tape i _ hsh _ hok hpre hholds;obtain ⟨_,_,_,fn',hfn',_,_,_,_,hval⟩:=hok;have e:fn'=fn:=Option.some.inj (hfn'.symm.trans hfn);subst e;obtain ⟨⟨⟨ds,gs,before,hw,hc⟩,hx⟩,hz⟩:=hpre;have hw':=DataW.Whole.of_heap (w':=w.forCall tape i) (by rfl) hw;refine (contract (w.forCall tape i) w.heap.size i.args ds gs before hval hw' hsh (hX _ _ _ (by rfl) hx)).mono fun e W' ⟨v,he,hp⟩=>?_;subst he;exact ChangeSpec.post_blind hp
set_option maxRecDepth 100000 in
theorem lifted (os:Os) (started:os.Started) (H:Type) (enc:TypeId×Value→H) :
  ReturnsInHanded {} Tryz.checked os 8 .any (fun w args=>(Rows.fnExactParseBytesSpec.pre enc Tryz.prog Tryz.f8 Rows.fnExactParseBytesRow.domain false w args∧laidMetH Tryz.prog Rows.fnExactParseBytesRow.laid w)∧sizedMet enc Tryz.prog Tryz.f8 (OpenSpec.ofChange Rows.fnExactParseBytesSpec) false w args) (Rows.fnExactParseBytesSpec.post enc Tryz.prog Tryz.f8 false true false false):=by
 refine wrap (C:=Tryz.checked) (X:=fun w _=>laidMetH Tryz.prog Rows.fnExactParseBytesRow.laid w) (fun _ _ _ hh h=>h.of_heap hh) own started (by kernel_rfl) Tryz.func8
  (ChangeSpec.witness_shaped (enc:=enc) (C:=Tryz.checked) (os:=os) (X:=fun w _=>laidMetH Tryz.prog Rows.fnExactParseBytesRow.laid w) false (World.laidAll Tryz.prog os Rows.fnExactParseBytesRow.laid) #[.slice none 0 0] 8 (World.laidAll_os _ _ _)
   (World.shaped_of_ZipB (by kernel_rfl) (by kernel_rfl)) (by kernel_rfl) (by kernel_rfl) (by kernel_rfl)
   (by rw [MakeChecks.laidMetH_plain _ _ _ (by kernel_rfl)];exact laidMet_laidAll _ (by kernel_rfl) (by kernel_rfl))) ?_
 intro W base args ds gs before hval0 hW hsh hL;have hval:∀ (j:Nat) t v,Tryz.f8.params[j]?=some t→args[j]?=some v→Value.okWide Tryz.prog W .any base t v:=hval0;have hW':=hW;obtain ⟨p,q,hA0,hV,rfl,hfz,hnd⟩:=hW;have hA:DataW.TrodAll enc Tryz.prog W 0 (fun _=>true) true Tryz.f8.params.toList args.toList ds p:=hA0;rw [Tryz.params8] at hA hval;have hL':laidMet Tryz.prog Rows.fnExactParseBytesRow.laid W:=by have h:=hL;rw [MakeChecks.laidMetH_plain _ _ _ (by kernel_rfl)] at h;exact h
 have hU:Lib.Utf8Tabs 0 1 W:=
  utf8Tabs_of_readsT (ρ:=Tryz.lays197_ren) { Tryz.lays197 with } ⟨by kernel_rfl,by kernel_rfl,by kernel_rfl,by kernel_rfl,by kernel_rfl,by kernel_rfl,by kernel_rfl⟩
   (Go.Pinned.utf8First_eq▸Lib.laidMet.reads hL' (.tail _ (.head _))) (Lib.laidMet.reads hL' (.head _))
 letI:Glob:=⟨fun b=>if b=0∨b=1 then W.heap[b]? else none⟩
 have hg:∀ b o,Glob.g b=some o→W.heap[b]?=some o:=fun b o h=>by
  have h':(if b=0∨b=1 then W.heap[b]? else none)=some o:=h;split at h'
  ·exact h'
  ·cases h'
 haveI:GlobTabs 0 1:=zs0 hU rfl rfl
 obtain ⟨v0,vs0,d0,ds0,p0,q0,hargs,rfl,rfl,h0,r0⟩:=trodAll_cons hA;obtain ⟨rfl,rfl,rfl⟩:=trodAll_nil r0;obtain rfl:args=#[v0]:=by cases args;simp_all
 obtain ⟨rfl,rfl⟩:=trodVars_none hV;have lt0:∀ x∈p0,x.block<W.heap.size:=by obtain ⟨m,hm⟩:=h0;exact DataW.trod_lt m _ _ _ hm
 obtain ⟨y0,f0,e0⟩:=zw4 Go.TT.te_ok (n:=4) (by decide +kernel) ((hval 0 22 v0 rfl rfl)) h0;obtain ⟨a0,rfl,b0⟩:=zxk f0;clear hA0 hval0;refine (law_pure (T.law_ParseBytes a0 b0) (w:=W) (relL_one e0) hg).mono fun e W' ⟨he,bel⟩=>?_;subst he;exact ⟨_,rfl,_,_,_,[],_,[],hW',trodAll_mk1 (shut_bool Tryz.underlying4 _),(trodAll_cons_mk (Below.trod laidOut (by kernel_rfl) (of_decide_eq_true (by kernel_rfl)) h0 bel lt0) trodAll_mk0),rfl,bel.frame _,fun h=>by cases h⟩
end Go.Proofs.YtgippllfnmdnpaaGreatDoor.fnExactParseBytes
