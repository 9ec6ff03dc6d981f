/- The library's own contracts (the shelf's) as entries of the table of calls. -/
import Derived.Test.YtgippllfnmdnpaaGreatDoorTAN
import Derived.Shelf.Strings.Repeat
import Derived.Shelf.Strings.Search2
import Derived.Test.YtgippllfnmdnpaaGreatDoorTAK
import Derived.Lib.Join
import Derived.Lib.Replace
import Derived.Lib.CountLaws
import Derived.Shelf.Unicode.DecodeSlow
section
set_option linter.unusedVariables false
set_option linter.unusedSimpArgs false
set_option linter.unusedSectionVars false
set_option linter.unnecessarySimpa false
namespace Go.Vg
variable [Go.Vg.Glob]
open Go.Proofs Go.RowKit
set_option maxRecDepth 10000
theorem jl.ofBelow {P:Program} {f:FuncId} {args:List SV} {z:SV} (hb:zcg P f) (ha:plainL args=true) (hz:z.plain=true)
  (h:∀ (fz:Nat→Option Obj) (w:World) (vs:Array Value),relL ⟨fun _=>none,fz⟩ args vs.toList→Calls P f vs w fun e w'=>∃ v,e=.returned v∧rel ⟨fun _=>none,fz⟩ z v∧Below w.heap.size w w'):jl P f args z:=by
 refine ⟨hb,ha,hz,fun fz w vs hf _ hr=>(h fz w vs hr).mono fun e w' ⟨v,he,hv,hw⟩=>⟨v,fz,he,hv,⟨hw.os,hw.tape,hw.output,hw.size,fun b hb _=>hw.block b hb⟩,fun _ _ h=>h,fun b o ho=>?_,fun b o ho=>.inl ho⟩⟩
 have h1:=hf b o ho
 have h2:b<w.heap.size:=by
  rcases Nat.lt_or_ge b w.heap.size with h | h
  ·exact h
  ·rw [Array.getElem?_eq_none h] at h1;cases h1
 rw [hw.block b h2,h1]
/-- .. where the world's blocks that stay are asked. -/
theorem jl.ofGlob {P:Program} {f:FuncId} {args:List SV} {z:SV} (hb:zcg P f) (ha:plainL args=true) (hz:z.plain=true)
  (h:∀ (fz:Nat→Option Obj) (w:World) (vs:Array Value),(∀ b o,fz b=some o→w.heap[b]?=some o)→(∀ b o,Glob.g b=some o→w.heap[b]?=some o)→relL ⟨fun _=>none,fz⟩ args vs.toList→Calls P f vs w fun e w'=>∃ v,e=.returned v∧rel ⟨fun _=>none,fz⟩ z v∧Below w.heap.size w w'):jl P f args z:=by
 refine ⟨hb,ha,hz,fun fz w vs hf hg hr=>(h fz w vs hf (fun b o e=>hf b o (hg b o e)) hr).mono fun e w' ⟨v,he,hv,hw⟩=>⟨v,fz,he,hv,⟨hw.os,hw.tape,hw.output,hw.size,fun b hb _=>hw.block b hb⟩,fun _ _ h=>h,fun b o ho=>?_,fun b o ho=>.inl ho⟩⟩
 have h1:=hf b o ho
 have h2:b<w.heap.size:=by
  rcases Nat.lt_or_ge b w.heap.size with h | h
  ·exact h
  ·rw [Array.getElem?_eq_none h] at h1;cases h1
 rw [hw.block b h2,h1]
theorem zeh {P:Program} {f:FuncId} {fn:Func} (hf:P.funcs[f]?=some fn) (h1:fn.body.isSome=true) (h2:(fn.name == "runtime.NumGoroutine")=false):zcg P f:=⟨fn,hf,h1,h2⟩
theorem args_si {σ:Asg} {s:List UInt8} {k:IntKind} {c:Int} {vs:Array Value} (h:relL σ [.s s,.i k c] vs.toList):vs=#[.string ⟨s.toArray⟩,.int k c]:=by
 simp only [relL,rel] at h
 obtain ⟨v,r,e,rfl,v2,r2,rfl,rfl,rfl⟩:=h
 rw [←Array.toList_inj];exact e
theorem args_ss {σ:Asg} {s t:List UInt8} {vs:Array Value} (h:relL σ [.s s,.s t] vs.toList):vs=#[.string ⟨s.toArray⟩,.string ⟨t.toArray⟩]:=by
 simp only [relL,rel] at h
 obtain ⟨v,r,e,rfl,v2,r2,rfl,rfl,rfl⟩:=h
 rw [←Array.toList_inj];exact e
theorem zl8 {P:Program} {f:FuncId} {α:Type} {A:α→List SV} {p:α→Prop} {z:α→SV} (h:∀ i,p i→jl P f (A i) (z i)∨zm0 P f (A i) (z i)):PE1 P f (peR A p z):=by
 intro args q y hq hp
 unfold peR at hq
 split at hq
 ·rename_i hx
  simp only [Option.some.injEq,Prod.mk.injEq] at hq
  obtain ⟨rfl,rfl⟩:=hq
  have:=h _ hp
  rw [Classical.choose_spec hx] at this
  exact this
 ·cases hq
/-- strings.Repeat. -/
noncomputable def zxj:PE:=peR (fun (x:List UInt8×Int)=>[.s x.1,.i .i64 x.2]) (fun x=>0≤x.2∧x.2≤9223372036854775807∧(x.1.length:Int) * x.2≤140737488355328) (fun x=>.s (Lib.repeatL x.1 x.2.toNat))
theorem zxi {s:List UInt8} {c:Int}:zxj [.s s,.i .i64 c]=some (0≤c∧c≤9223372036854775807∧(s.length:Int) * c≤140737488355328,.s (Lib.repeatL s c.toNat)):=yh (by rintro ⟨a,b⟩ ⟨c,d⟩ h;simp_all) (s,c)
theorem zxh {P:Program} {f:FuncId} (hb:zcg P f) (h:∀ (s:ByteArray) (c:Nat) (w:World),c≤9223372036854775807→s.size * c≤140737488355328 →
  Calls P f #[.string s,.int .i64 c] w fun e w'=>e=.returned (.string ⟨(Lib.repeatL s.data.toList c).toArray⟩)∧Below w.heap.size w w'):PE1 P f zxj:=zl8 (by
 rintro ⟨s,c⟩ ⟨h0,h1,h2⟩
 refine .inl (jl.ofBelow hb rfl rfl fun fz w vs hr=>?_)
 simp only at h0 h1 h2 hr ⊢
 obtain ⟨n,rfl⟩:∃ n:Nat,c=n:=⟨c.toNat,by omega⟩
 rw [args_si hr]
 have h3:s.length * n≤140737488355328:=Int.ofNat_le.1 (by rw [Int.natCast_mul];exact h2)
 refine (h ⟨s.toArray⟩ n w (by omega) (by show s.toArray.size * n≤_;rw [List.size_toArray];exact h3)).mono fun e w' he=>⟨_,he.1, ?_,he.2⟩
 simp only [rel,Int.toNat_natCast])
/-- strings.Contains at a text of one byte. -/
theorem zd9 (c:UInt8):∀ s:List UInt8,decide (0≤Lib.indexByte s c)=decide (c∈s)
 | []=>by simp [Lib.indexByte]
 | b::l=>by
  have ih:=zd9 c l
  have hge:∀ l:List UInt8,-1≤Lib.indexByte l c:=by
   intro l
   induction l with
   | nil=>simp [Lib.indexByte]
   | cons b l ih=>unfold Lib.indexByte;split<;>(try split)<;>omega
  have hl:=hge l
  simp only [decide_eq_decide] at ih ⊢
  unfold Lib.indexByte
  by_cases h:b=c
  ·subst h;simp
  ·have h2:(b==c)=false:=by simp [h]
   rw [h2]
   simp only [Bool.false_eq_true,if_false]
   by_cases h3:Lib.indexByte l c = -1
   ·have:¬c∈l:=by rw [←ih];omega
    simp [h3,this];exact fun e=>h e.symm
   ·have h4:0≤Lib.indexByte l c:=by omega
    have:c∈l:=ih.1 h4
    have h5:(Lib.indexByte l c == -1)=false:=by simp [h3]
    rw [h5]
    simp [this];omega
noncomputable def zxv:PE:=peR (fun (x:List UInt8×UInt8)=>[.s x.1,.s [x.2]]) (fun _=>True) (fun x=>.b (decide (x.2∈x.1)))
theorem zxu {s:List UInt8} {c:UInt8}:zxv [.s s,.s [c]]=some (True,.b (decide (c∈s))):=yh (by rintro ⟨a,b⟩ ⟨c,d⟩ h;simp_all) (s,c)
theorem zxt {P:Program} {f:FuncId} (hb:zcg P f) (h:∀ (s:ByteArray) (c:UInt8) (w:World),
  Calls P f #[.string s,.string ⟨#[c]⟩] w fun e w'=>e=.returned (.bool (decide (0≤Lib.indexByte s.data.toList c)))∧w'=w):PE1 P f zxv:=zl8 (by
 rintro ⟨s,c⟩ _
 refine .inl (jl.ofBelow hb rfl rfl fun fz w vs hr=>?_)
 simp only at hr ⊢
 rw [args_ss hr]
 refine (h ⟨s.toArray⟩ c w).mono fun e w' he=>⟨_,he.1, ?_,he.2▸Below.refl _ _⟩
 simp only [rel,zd9])
end Go.Vg
end
section
set_option linter.unusedVariables false
set_option linter.unusedSimpArgs false
set_option linter.unusedSectionVars false
set_option linter.unnecessarySimpa false
namespace Go.Vg
variable [Go.Vg.Glob]
open Go.Proofs Go.RowKit
/-- A variable of an integer type among the blocks that stay. -/
class GlobInt (b:Nat):Prop where
 ex:∃ (o:Obj) (m:Int),Glob.g b=some o∧∀ w:World,w.heap[b]?=some o→w.cell? ⟨b,0,none⟩=some (.int .i64 m)
/-- A row of texts,as a function of the library finds it. -/
theorem zns {σ:Asg}:∀ {xs:List (List UInt8)} {vs:List Value},zqn σ 1 (xs.map zbi) vs→∀ (j:Nat) x,xs[j]?=some x→vs[j]?=some (.string ⟨x.toArray⟩)
 | [],_,_,j,x,h=>by simp at h
 | y::ys,vs,hr,j,x,h=>by
  simp only [List.map_cons,zqn,zbi] at hr
  obtain ⟨_,h1,h2⟩:=hr
  cases vs with
  | nil=>simp [relL] at h1
  | cons v vs=>
   simp only [List.take_succ_cons,List.take_zero,relL,rel,List.cons.injEq] at h1
   obtain ⟨v',r',⟨rfl,rfl⟩,rfl,_⟩:=h1
   cases j with
   | zero=>simp at h ⊢;rw [h]
   | succ j=>
    simp only [List.getElem?_cons_succ,List.drop_succ_cons,List.drop_zero] at h h2 ⊢
    exact zns h2 j x h
noncomputable def zqq:PE:=peR (fun (x:List (List UInt8)×List UInt8)=>[.fs 1 (x.1.map zbi),.s x.2]) (fun x=>x.1.length≤140737488355328∧(Lib.join x.1 x.2).length≤140737488355328) (fun x=>.s (Lib.join x.1 x.2))
theorem zuz {xs:List (List UInt8)} {t:List UInt8}:zqq [.fs 1 (xs.map zbi),.s t]=some (xs.length≤140737488355328∧(Lib.join xs t).length≤140737488355328,.s (Lib.join xs t)):=yh (by
 rintro ⟨a,b⟩ ⟨c,d⟩ h
 simp only [List.cons.injEq,SV.fs.injEq,SV.s.injEq,true_and,and_true] at h
 obtain ⟨h1,h2⟩:=h
 have:=List.map_inj_right (f:=zbi) (fun x y e=>by simpa [zbi] using e) |>.1 h1
 simp_all) (xs,t)
theorem zuy {P:Program} {f:FuncId} (hb:zcg P f) (h0:∀ (a:Option Addr) (c:Nat) (sep:ByteArray) (w:World),Calls P f #[.slice a 0 c,.string sep] w fun e w'=>e=.returned (.string ⟨#[]⟩)∧w'=w)
  (h:∀ (bk o c:Nat) (xs:List ByteArray) (sep:ByteArray) (w:World),(∀ (j:Nat) x,xs[j]?=some x→w.cell? ⟨bk,o+j,none⟩=some (.string x))→bk<w.heap.size→xs.length≤140737488355328→xs.length≤c→(Lib.join (xs.map (·.data.toList)) sep.data.toList).length≤140737488355328 →
  Calls P f #[.slice (some ⟨bk,o,none⟩) xs.length c,.string sep] w fun e w'=>e=.returned (.string ⟨(Lib.join (xs.map (·.data.toList)) sep.data.toList).toArray⟩)∧Below w.heap.size w w'):PE1 P f zqq:=zl8 (by
 rintro ⟨xs,t⟩ ⟨h1,h2⟩
 refine .inl (jl.ofGlob hb (by simp [plainL,SV.plain]) rfl fun fz w vs hf _ hr=>?_)
 simp only at h1 h2 hr ⊢
 simp only [relL,rel,List.length_map] at hr
 obtain ⟨v,r,e,⟨a,cap,rfl,hcap,hx⟩,v2,r2,rfl,rfl,rfl⟩:=hr
 have ev:vs=#[.slice a xs.length cap,.string ⟨t.toArray⟩]:=by rw [←Array.toList_inj];exact e
 subst ev
 rcases hx with hx | ⟨b,off,c,ty,fr,rfl,hb2,hrr⟩
 ·have:xs=[]:=by simpa using hx
  subst this
  exact (h0 a cap ⟨t.toArray⟩ w).mono fun e w' he=>⟨_,he.1,by simp [rel,Lib.join,List.intercalate],he.2▸Below.refl _ _⟩
 ·have hh:=hf b _ hb2
  have hlt:b<w.heap.size:=by
   rcases Nat.lt_or_ge b w.heap.size with h | h
   ·exact h
   ·rw [Array.getElem?_eq_none h] at hh;cases hh
  have em:(xs.map (fun l=>(⟨l.toArray⟩:ByteArray))).map (·.data.toList)=xs:=by simp [List.map_map,Function.comp_def]
  have el:(xs.map (fun l=>(⟨l.toArray⟩:ByteArray))).length=xs.length:=by simp
  have:=h b off cap (xs.map fun l=>⟨l.toArray⟩) ⟨t.toArray⟩ w (fun j x hj=>by
   simp only [List.getElem?_map,Option.map_eq_some_iff] at hj
   obtain ⟨y,hy,rfl⟩:=hj
   have h5:=zns hrr j y hy
   rw [List.getElem?_drop] at h5
   unfold World.cell?
   simp only [hh,←h5,Array.getElem?_toList]
   try rfl) hlt (by rw [el];exact h1) (by rw [el];exact hcap) (by rw [em];exact h2)
  rw [el] at this
  refine this.mono fun e w' he=>⟨_,he.1, ?_,he.2⟩
  simp only [rel,em])
end Go.Vg
end
section
set_option linter.unusedVariables false
set_option linter.unusedSimpArgs false
set_option linter.unusedSectionVars false
set_option linter.unnecessarySimpa false
namespace Go.Vg
variable [Go.Vg.Glob]
open Go.Proofs Go.RowKit
/-- The decoder's tables are among the blocks that stay. -/
class GlobTabs (a b:Nat):Prop where
 ex:∃ oa ob:Obj,Glob.g a=some oa∧Glob.g b=some ob∧∀ w:World,w.heap[a]?=some oa→w.heap[b]?=some ob→Lib.Utf8Tabs a b w
theorem args_s {σ:Asg} {s:List UInt8} {vs:Array Value} (h:relL σ [.s s] vs.toList):vs=#[.string ⟨s.toArray⟩]:=by
 simp only [relL,rel] at h
 obtain ⟨v,r,e,rfl,rfl⟩:=h
 rw [←Array.toList_inj];exact e
noncomputable def zxs:PE:=peR (fun (s:List UInt8)=>[.s s]) (fun _=>True) (fun s=>.tup [.i .i32 (Lib.decodeGo ⟨s.toArray⟩).1,.i .i64 (Lib.decodeGo ⟨s.toArray⟩).2])
theorem zxr {s:List UInt8}:zxs [.s s]=some (True,.tup [.i .i32 (Lib.decodeGo ⟨s.toArray⟩).1,.i .i64 (Lib.decodeGo ⟨s.toArray⟩).2]):=yh (by rintro a b h;simp_all) s
theorem zxq {P:Program} {f:FuncId} {a b:Nat} [GlobTabs a b] (hb:zcg P f) (h:∀ (s:ByteArray) (w:World),Lib.Utf8Tabs a b w →
  Calls P f #[.string s] w fun e w'=>e=.returned (.tuple #[.int .i32 (Lib.decodeGo s).1,.int .i64 (Lib.decodeGo s).2])∧Below w.heap.size w w'):PE1 P f zxs:=zl8 (by
 rintro s _
 refine .inl (jl.ofGlob hb rfl rfl fun fz w vs _ hg hr=>?_)
 obtain ⟨oa,ob,e1,e2,e3⟩:=GlobTabs.ex (a:=a) (b:=b)
 rw [args_s hr]
 refine (h ⟨s.toArray⟩ w (e3 w (hg a oa e1) (hg b ob e2))).mono fun e w' he=>⟨_,he.1, ?_,he.2⟩
 refine ⟨_,rfl, ?_⟩
 simp [relL,rel])
end Go.Vg
end
