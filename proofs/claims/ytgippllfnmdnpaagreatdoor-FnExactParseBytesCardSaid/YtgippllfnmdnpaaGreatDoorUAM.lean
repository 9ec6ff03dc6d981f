/- Where nodes end, in plain words. -/
import Derived.Test.YtgippllfnmdnpaaGreatDoorUAL
import Derived.Test.YtgippllfnmdnpaaGreatDoorUAK
import Derived.Shelf.Strings.Repeat
import Derived.Shelf.Strings.Search2
import Derived.Lib.Join
import Derived.Lib.Replace
import Derived.Lib.CountLaws
import Derived.Shelf.Unicode.DecodeSlow
set_option linter.all false
section
namespace Go.Pl
end Go.Pl
namespace Go.Pl
end Go.Pl
end
section
namespace Go.Pl
end Go.Pl
namespace Go.Pl
end Go.Pl
namespace Go.Pl
open Go.Pl
end Go.Pl
namespace Go.Pl
end Go.Pl
namespace Go.Pl
end Go.Pl
namespace Go.Pl
end Go.Pl
end
section
namespace Go.Pl
end Go.Pl
namespace Go.Pl
end Go.Pl
end
section
namespace Go.Vg
variable [Go.Vg.Glob]
open Go.Pl
theorem zi {μ:Nat→Nat} {l:List (List UInt8×Int)}:soLe μ (.mapS l) (.mapS l):=⟨id,rfl,rfl,Nat.le_refl _,rfl,fun i hi=>absurd hi (Nat.not_lt_zero _)⟩
end Go.Vg
namespace Go.Vg
variable [Go.Vg.Glob]
open Go.Pl
end Go.Vg
namespace Go.Vg
variable [Go.Vg.Glob]
open Go.RowKit
end Go.Vg
end
section
namespace Go.Vg
variable [Go.Vg.Glob]
open Go.Proofs Go.RowKit
set_option maxRecDepth 10000
theorem jv.ofBelow {P:Program} {f:FuncId} {args:List SV} {z:SV} (hb:zb4 P f) (ha:plainL args=true) (hz:z.plain=true)
  (h:∀ (fz:Nat→Option Obj) (w:World) (vs:Array Value),relL ⟨fun _=>none,fz⟩ args vs.toList→Calls P f vs w fun e w'=>∃ v,e=.returned v∧rel ⟨fun _=>none,fz⟩ z v∧Below w.heap.size w w'):jv P f args z:=by
 refine ⟨hb,ha,hz,fun fz w vs hf _ hr=>(h fz w vs hr).mono fun e w' ⟨v,he,hv,hw⟩=>⟨v,fz,he,hv,⟨hw.os,hw.tape,hw.output,hw.size,fun b hb _=>hw.block b hb⟩,fun _ _ h=>h,fun b o ho=>?_,fun b o ho=>.inl ho⟩⟩;have h1:=hf b o ho;have h2:b<w.heap.size:=by
  rcases Nat.lt_or_ge b w.heap.size with h | h
  ·exact h
  ·rw [Array.getElem?_eq_none h] at h1;cases h1
 rw [hw.block b h2,h1]
/-- .. where the world's blocks that stay are asked. -/
theorem jv.ofGlob {P:Program} {f:FuncId} {args:List SV} {z:SV} (hb:zb4 P f) (ha:plainL args=true) (hz:z.plain=true)
  (h:∀ (fz:Nat→Option Obj) (w:World) (vs:Array Value),(∀ b o,fz b=some o→w.heap[b]?=some o)→(∀ b o,Glob.g b=some o→w.heap[b]?=some o)→relL ⟨fun _=>none,fz⟩ args vs.toList→Calls P f vs w fun e w'=>∃ v,e=.returned v∧rel ⟨fun _=>none,fz⟩ z v∧Below w.heap.size w w'):jv P f args z:=by
 refine ⟨hb,ha,hz,fun fz w vs hf hg hr=>(h fz w vs hf (fun b o e=>hf b o (hg b o e)) hr).mono fun e w' ⟨v,he,hv,hw⟩=>⟨v,fz,he,hv,⟨hw.os,hw.tape,hw.output,hw.size,fun b hb _=>hw.block b hb⟩,fun _ _ h=>h,fun b o ho=>?_,fun b o ho=>.inl ho⟩⟩;have h1:=hf b o ho;have h2:b<w.heap.size:=by
  rcases Nat.lt_or_ge b w.heap.size with h | h
  ·exact h
  ·rw [Array.getElem?_eq_none h] at h1;cases h1
 rw [hw.block b h2,h1]
theorem zew {P:Program} {f:FuncId} {fn:Func} (hf:P.funcs[f]?=some fn) (h1:fn.body.isSome=true) (h2:(fn.name == "runtime.NumGoroutine")=false):zb4 P f:=⟨fn,hf,h1,h2⟩
theorem args_si {σ:Asg} {s:List UInt8} {k:IntKind} {c:Int} {vs:Array Value} (h:relL σ [.s s,.i k c] vs.toList):vs=#[.string ⟨s.toArray⟩,.int k c]:=by simp only [relL,rel] at h;obtain ⟨v,r,e,rfl,v2,r2,rfl,rfl,rfl⟩:=h;rw [←Array.toList_inj];exact e
theorem args_ss {σ:Asg} {s t:List UInt8} {vs:Array Value} (h:relL σ [.s s,.s t] vs.toList):vs=#[.string ⟨s.toArray⟩,.string ⟨t.toArray⟩]:=by simp only [relL,rel] at h;obtain ⟨v,r,e,rfl,v2,r2,rfl,rfl,rfl⟩:=h;rw [←Array.toList_inj];exact e
theorem znz {P:Program} {f:FuncId} {α:Type} {A:α→List SV} {p:α→Prop} {z:α→SV} (h:∀ i,p i→jv P f (A i) (z i)∨zom P f (A i) (z i)):PE1 P f (peR A p z):=by
 intro args q y hq hp;unfold peR at hq;split at hq
 ·rename_i hx;simp only [Option.some.injEq,Prod.mk.injEq] at hq;obtain ⟨rfl,rfl⟩:=hq;have:=h _ hp;rw [Classical.choose_spec hx] at this;exact this
 ·cases hq
/-- strings.Repeat. -/
noncomputable def z0a:PE:=peR (fun (x:List UInt8×Int)=>[.s x.1,.i .i64 x.2]) (fun x=>0≤x.2∧x.2≤9223372036854775807∧(x.1.length:Int) * x.2≤140737488355328) (fun x=>.s (Lib.repeatL x.1 x.2.toNat))
theorem zz8 {s:List UInt8} {c:Int}:z0a [.s s,.i .i64 c]=some (0≤c∧c≤9223372036854775807∧(s.length:Int) * c≤140737488355328,.s (Lib.repeatL s c.toNat)):=yg (by rintro ⟨a,b⟩ ⟨c,d⟩ h;simp_all) (s,c)
theorem zz7 {P:Program} {f:FuncId} (hb:zb4 P f) (h:∀ (s:ByteArray) (c:Nat) (w:World),c≤9223372036854775807→s.size * c≤140737488355328 →
  Calls P f #[.string s,.int .i64 c] w fun e w'=>e=.returned (.string ⟨(Lib.repeatL s.data.toList c).toArray⟩)∧Below w.heap.size w w'):PE1 P f z0a:=znz (by
 rintro ⟨s,c⟩ ⟨h0,h1,h2⟩;refine .inl (jv.ofBelow hb rfl rfl fun fz w vs hr=>?_);simp only at h0 h1 h2 hr ⊢;obtain ⟨n,rfl⟩:∃ n:Nat,c=n:=⟨c.toNat,by omega⟩
 rw [args_si hr];have h3:s.length * n≤140737488355328:=Int.ofNat_le.1 (by rw [Int.natCast_mul];exact h2);refine (h ⟨s.toArray⟩ n w (by omega) (by show s.toArray.size * n≤_;rw [List.size_toArray];exact h3)).mono fun e w' he=>⟨_,he.1, ?_,he.2⟩
 simp only [rel,Int.toNat_natCast])
/-- strings.Contains at a text of one byte. -/
theorem zeq (c:UInt8):∀ s:List UInt8,decide (0≤Lib.indexByte s c)=decide (c∈s)
 | []=>by simp [Lib.indexByte]
 | b::l=>by
  have ih:=zeq c l;have hge:∀ l:List UInt8,-1≤Lib.indexByte l c:=by
   intro l
   induction l with
   | nil=>simp [Lib.indexByte]
   | cons b l ih=>unfold Lib.indexByte;split<;>(try split)<;>omega
  have hl:=hge l;simp only [decide_eq_decide] at ih ⊢;unfold Lib.indexByte;by_cases h:b=c
  ·subst h;simp
  ·have h2:(b==c)=false:=by simp [h]
   rw [h2];simp only [Bool.false_eq_true,if_false];by_cases h3:Lib.indexByte l c = -1
   ·have:¬c∈l:=by rw [←ih];omega
    simp [h3,this];exact fun e=>h e.symm
   ·have h4:0≤Lib.indexByte l c:=by omega
    have:c∈l:=ih.1 h4;have h5:(Lib.indexByte l c == -1)=false:=by simp [h3]
    rw [h5];simp [this];omega
noncomputable def z0o:PE:=peR (fun (x:List UInt8×UInt8)=>[.s x.1,.s [x.2]]) (fun _=>True) (fun x=>.b (decide (x.2∈x.1)))
theorem z0m {s:List UInt8} {c:UInt8}:z0o [.s s,.s [c]]=some (True,.b (decide (c∈s))):=yg (by rintro ⟨a,b⟩ ⟨c,d⟩ h;simp_all) (s,c)
theorem z0l {P:Program} {f:FuncId} (hb:zb4 P f) (h:∀ (s:ByteArray) (c:UInt8) (w:World),
  Calls P f #[.string s,.string ⟨#[c]⟩] w fun e w'=>e=.returned (.bool (decide (0≤Lib.indexByte s.data.toList c)))∧w'=w):PE1 P f z0o:=znz (by
 rintro ⟨s,c⟩ _;refine .inl (jv.ofBelow hb rfl rfl fun fz w vs hr=>?_);simp only at hr ⊢;rw [args_ss hr];refine (h ⟨s.toArray⟩ c w).mono fun e w' he=>⟨_,he.1, ?_,he.2▸Below.refl _ _⟩
 simp only [rel,zeq])
end Go.Vg
end
section
namespace Go.Vg
variable [Go.Vg.Glob]
open Go.Proofs Go.RowKit
/-- A variable of an integer type among the blocks that stay. -/
class GlobInt (b:Nat):Prop where
 ex:∃ (o:Obj) (m:Int),Glob.g b=some o∧∀ w:World,w.heap[b]?=some o→w.cell? ⟨b,0,none⟩=some (.int .i64 m)
/-- A row of texts,as a function of the library finds it. -/
theorem zpd {σ:Asg}:∀ {xs:List (List UInt8)} {vs:List Value},zr9 σ 1 (xs.map j4) vs→∀ (j:Nat) x,xs[j]?=some x→vs[j]?=some (.string ⟨x.toArray⟩)
 | [],_,_,j,x,h=>by simp at h
 | y::ys,vs,hr,j,x,h=>by
  simp only [List.map_cons,zr9,j4] at hr;obtain ⟨_,h1,h2⟩:=hr;cases vs with
  | nil=>simp [relL] at h1
  | cons v vs=>
   simp only [List.take_succ_cons,List.take_zero,relL,rel,List.cons.injEq] at h1;obtain ⟨v',r',⟨rfl,rfl⟩,rfl,_⟩:=h1;cases j with
   | zero=>simp at h ⊢;rw [h]
   | succ j=>simp only [List.getElem?_cons_succ,List.drop_succ_cons,List.drop_zero] at h h2 ⊢;exact zpd h2 j x h
noncomputable def zsg:PE:=peR (fun (x:List (List UInt8)×List UInt8)=>[.fs 1 (x.1.map j4),.s x.2]) (fun x=>x.1.length≤140737488355328∧(Lib.join x.1 x.2).length≤140737488355328) (fun x=>.s (Lib.join x.1 x.2))
theorem zxf {xs:List (List UInt8)} {t:List UInt8}:zsg [.fs 1 (xs.map j4),.s t]=some (xs.length≤140737488355328∧(Lib.join xs t).length≤140737488355328,.s (Lib.join xs t)):=yg (by
 rintro ⟨a,b⟩ ⟨c,d⟩ h;simp only [List.cons.injEq,SV.fs.injEq,SV.s.injEq,true_and,and_true] at h;obtain ⟨h1,h2⟩:=h;have:=List.map_inj_right (f:=j4) (fun x y e=>by simpa [j4] using e) |>.1 h1
 simp_all) (xs,t)
theorem zxe {P:Program} {f:FuncId} (hb:zb4 P f) (h0:∀ (a:Option Addr) (c:Nat) (sep:ByteArray) (w:World),Calls P f #[.slice a 0 c,.string sep] w fun e w'=>e=.returned (.string ⟨#[]⟩)∧w'=w)
  (h:∀ (bk o c:Nat) (xs:List ByteArray) (sep:ByteArray) (w:World),(∀ (j:Nat) x,xs[j]?=some x→w.cell? ⟨bk,o+j,none⟩=some (.string x))→bk<w.heap.size→xs.length≤140737488355328→xs.length≤c→(Lib.join (xs.map (·.data.toList)) sep.data.toList).length≤140737488355328 →
  Calls P f #[.slice (some ⟨bk,o,none⟩) xs.length c,.string sep] w fun e w'=>e=.returned (.string ⟨(Lib.join (xs.map (·.data.toList)) sep.data.toList).toArray⟩)∧Below w.heap.size w w'):PE1 P f zsg:=znz (by
 rintro ⟨xs,t⟩ ⟨h1,h2⟩;refine .inl (jv.ofGlob hb (by simp [plainL,SV.plain]) rfl fun fz w vs hf _ hr=>?_);simp only at h1 h2 hr ⊢;simp only [relL,rel,List.length_map] at hr;obtain ⟨v,r,e,⟨a,cap,rfl,hcap,hx⟩,v2,r2,rfl,rfl,rfl⟩:=hr;have ev:vs=#[.slice a xs.length cap,.string ⟨t.toArray⟩]:=by rw [←Array.toList_inj];exact e
 subst ev;rcases hx with hx | ⟨b,off,c,ty,fr,rfl,hb2,hrr⟩
 ·have:xs=[]:=by simpa using hx
  subst this;exact (h0 a cap ⟨t.toArray⟩ w).mono fun e w' he=>⟨_,he.1,by simp [rel,Lib.join,List.intercalate],he.2▸Below.refl _ _⟩
 ·have hh:=hf b _ hb2;have hlt:b<w.heap.size:=by
   rcases Nat.lt_or_ge b w.heap.size with h | h
   ·exact h
   ·rw [Array.getElem?_eq_none h] at hh;cases hh
  have em:(xs.map (fun l=>(⟨l.toArray⟩:ByteArray))).map (·.data.toList)=xs:=by simp [List.map_map,Function.comp_def]
  have el:(xs.map (fun l=>(⟨l.toArray⟩:ByteArray))).length=xs.length:=by simp
  have:=h b off cap (xs.map fun l=>⟨l.toArray⟩) ⟨t.toArray⟩ w (fun j x hj=>by simp only [List.getElem?_map,Option.map_eq_some_iff] at hj;obtain ⟨y,hy,rfl⟩:=hj;have h5:=zpd hrr j y hy;rw [List.getElem?_drop] at h5;unfold World.cell?;simp only [hh,←h5,Array.getElem?_toList];try rfl) hlt (by rw [el];exact h1) (by rw [el];exact hcap) (by rw [em];exact h2)
  rw [el] at this;refine this.mono fun e w' he=>⟨_,he.1, ?_,he.2⟩
  simp only [rel,em])
/-- The decoder's tables are among the blocks that stay. -/
class GlobTabs (a b:Nat):Prop where
 ex:∃ oa ob:Obj,Glob.g a=some oa∧Glob.g b=some ob∧∀ w:World,w.heap[a]?=some oa→w.heap[b]?=some ob→Lib.Utf8Tabs a b w
theorem args_s {σ:Asg} {s:List UInt8} {vs:Array Value} (h:relL σ [.s s] vs.toList):vs=#[.string ⟨s.toArray⟩]:=by simp only [relL,rel] at h;obtain ⟨v,r,e,rfl,rfl⟩:=h;rw [←Array.toList_inj];exact e
noncomputable def z0k:PE:=peR (fun (s:List UInt8)=>[.s s]) (fun _=>True) (fun s=>.tup [.i .i32 (Lib.decodeGo ⟨s.toArray⟩).1,.i .i64 (Lib.decodeGo ⟨s.toArray⟩).2])
theorem z0i {s:List UInt8}:z0k [.s s]=some (True,.tup [.i .i32 (Lib.decodeGo ⟨s.toArray⟩).1,.i .i64 (Lib.decodeGo ⟨s.toArray⟩).2]):=yg (by rintro a b h;simp_all) s
theorem z0h {P:Program} {f:FuncId} {a b:Nat} [GlobTabs a b] (hb:zb4 P f) (h:∀ (s:ByteArray) (w:World),Lib.Utf8Tabs a b w →
  Calls P f #[.string s] w fun e w'=>e=.returned (.tuple #[.int .i32 (Lib.decodeGo s).1,.int .i64 (Lib.decodeGo s).2])∧Below w.heap.size w w'):PE1 P f z0k:=znz (by
 rintro s _;refine .inl (jv.ofGlob hb rfl rfl fun fz w vs _ hg hr=>?_);obtain ⟨oa,ob,e1,e2,e3⟩:=GlobTabs.ex (a:=a) (b:=b);rw [args_s hr];refine (h ⟨s.toArray⟩ w (e3 w (hg a oa e1) (hg b ob e2))).mono fun e w' he=>⟨_,he.1, ?_,he.2⟩
 refine ⟨_,rfl, ?_⟩;simp [relL,rel])
end Go.Vg
end
section
namespace Go.Vg
variable [Go.Vg.Glob]
open Go.Pl
def pcc (e:Pc):List SV:=[.s e.text,.b e.glue]
theorem z0q {l m:List Pc}:l.map pcc=m.map pcc↔l=m:=zbw fun a b h=>by cases a;cases b;simpa [pcc] using h
theorem zv2 (a:List Pc) (i:Nat):(a.map pcc).getD i [.s [],.b false]=[.s (a.getD i pcz).text,.b (a.getD i pcz).glue]:=uu pcc a i pcz
theorem zzl {a:List Pc} {i:Nat}:zu pcc pcz a i=[.s (a.getD i pcz).text,.b (a.getD i pcz).glue]:=id rfl
theorem zzh {μ:Nat→Nat} {r:Bool} {sz n:Nat} {a:List Pc}:SO.mapH μ (.row r sz n (zu pcc pcz a))=.row r sz n (zu pcc pcz a):=rowH fun _=>rfl
theorem pcEta (e:Pc):(⟨e.text,e.glue⟩:Pc)=e:=id rfl
theorem XRP:type_of% (ai (ai @zv2 @zzl) (ai @zzh @pcEta)):=ai (ai @zv2 @zzl) (ai @zzh @pcEta)
theorem z2t {l m:List UInt8}:l.map j7=m.map j7↔l=m:=zbw fun a b h=>by simp only [j7,List.cons.injEq,SV.i.injEq,and_true,true_and] at h;exact UInt8.toNat_inj.1 (by omega)
theorem zrc (l:List UInt8):ui (l.map j7)=l:=by
 unfold ui;rw [List.map_map]
 conv=>rhs;rw [←List.map_id l]
 apply List.map_congr_left;intro x _;simp [j7]
theorem zo8 {α:Type} {enc:α→List SV} {z:α} {xs:List α} {y:α} {sz:Nat} {f:Nat→List SV} (hf:∀ j,j<xs.length→f j=zu enc z xs j) (hl:(enc y).length=sz) :
  je (zfz xs.length f fun j=>q7 (enc y) sz j) 0 (xs.length+1)=(xs++[y]).map enc:=by
 rw [←yf (enc:=enc) (z:=z) (xs:=xs++[y]) (n:=xs.length+1) (by simp)];unfold je;apply List.map_congr_left;intro j hj;rw [Nat.zero_add];exact zbd rfl hf hl (by simpa using hj)
theorem jn {μ:Nat→Nat} {α:Type} {enc:α→List SV} {z:α} (xs:List α) (y:α) (sz:Nat) {f:Nat→List SV} {cs:List SV} (hp:∀ x,plainL (enc x)=true) (hf:∀ j,j<xs.length→f j=zu enc z xs j) (hy:cs=enc y) (hl:(enc y).length=sz) :
  soLe μ (.row false sz (xs.length+1) (zu enc z (xs++[y]))) (.row false sz (xs.length+1) (zfz xs.length f fun j=>q7 cs sz j)):=by
 subst hy;refine yi fun j hj=>?_;rw [zbd (z:=z) rfl hf hl hj];exact qx (hp _)
theorem zai {α:Type} {enc:α→List SV} (z:α) (xs:List α) (y:α) (sz:Nat) {f:Nat→List SV} {cs:List SV} (hf:∀ j,j<xs.length→f j=zu enc z xs j) (hy:cs=enc y) (hl:(enc y).length=sz) :
  je (zfz xs.length f fun j=>q7 cs sz j) 0 (xs.length+1)=(xs++[y]).map enc:=by
 subst hy;exact zo8 (z:=z) hf hl
theorem zfy {α:Type} {enc:α→List SV} (z:α) (xs:List α) (y:α) (sz:Nat) {f:Nat→List SV} {cs:List SV} (hp:∀ x,plainL (enc x)=true) (hf:∀ j,j<xs.length→f j=zu enc z xs j) (hy:cs=enc y) (hl:∀ x,(enc x).length=sz) :
  ∀ j,j<xs.length+1→(zfz xs.length f (fun j=>q7 cs sz j) j).length=sz∧plainL (zfz xs.length f (fun j=>q7 cs sz j) j)=true:=by
 intro j hj;subst hy;rw [zbd (z:=z) rfl hf (hl y) hj];exact ⟨hl _,hp _⟩
theorem xq (l:List UInt8):w9 (zu j7 0 l) 0 l.length=l:=by apply List.ext_getElem (by simp [w9]);intro j h1 h2;simp [w9,zu,j7,List.getD,h2]
theorem soLe_app {μ:Nat→Nat} {α:Type} {enc:α→List SV} {z:α} (xs ys:List α) (sz:Nat) {f g:Nat→List SV} (hp:∀ x,plainL (enc x)=true) (hf:∀ j,j<xs.length→f j=zu enc z xs j) (hg:∀ j,j<ys.length→g j=zu enc z ys j) :
  soLe μ (.row false sz (xs++ys).length (zu enc z (xs++ys))) (.row false sz (xs.length+ys.length) (zfz xs.length f g)):=by
 refine vi (by simp) fun j hj=>?_;rw [zup (z:=z) rfl rfl hf hg (by simpa using hj)];exact qx (hp _)
end Go.Vg
end
section
namespace Go.Pl
def sgl (s:Bs) (i:Nat) (L:List Pc) (cur:Bs):Bs×Nat×Int:=
 if h:i<s.length then
  if byt s i=10 then (if mkA s (i+1)=0 then sgl s (wh s (i+1)) (L++[⟨uq 0 cur,false⟩]) [] else ([],i+1,4))
  else if byt s i=39∧byt s (i+1)=39 then sgl s (i+2) L (cur++[39])
  else if byt s i=39 then (zb1 (L++[⟨cur,false⟩]),i+1,0)
  else sgl s (i+1) L (cur++[s.getD i 0])
 else ([],s.length,3)
termination_by s.length-i
decreasing_by
 ·have:=jh s (i+1);omega
 ·omega
 ·omega
theorem zzd {s:Bs} {i:Nat} {L:List Pc} {cur:Bs} (h:¬i<s.length):sgl s i L cur=([],s.length,3):=by rw [sgl,dif_neg h]
theorem sgl_nl {s:Bs} {i:Nat} {L:List Pc} {cur:Bs} (h:i<s.length) (hb:byt s i=10) (hm:mkA s (i+1)=0):sgl s i L cur=sgl s (wh s (i+1)) (L++[⟨uq 0 cur,false⟩]) []:=by rw [sgl,dif_pos h,if_pos hb,if_pos hm]
theorem sgl_mk {s:Bs} {i:Nat} {L:List Pc} {cur:Bs} (h:i<s.length) (hb:byt s i=10) (hm:¬mkA s (i+1)=0):sgl s i L cur=([],i+1,4):=by rw [sgl,dif_pos h,if_pos hb,if_neg hm]
theorem sgl_qq {s:Bs} {i:Nat} {L:List Pc} {cur:Bs} (h:i<s.length) (hb:byt s i=39) (h2:byt s (i+1)=39):sgl s i L cur=sgl s (i+2) L (cur++[39]):=by rw [sgl,dif_pos h,if_neg (by omega),if_pos ⟨hb,h2⟩]
theorem sgl_q {s:Bs} {i:Nat} {L:List Pc} {cur:Bs} (h:i<s.length) (hb:byt s i=39) (h2:¬byt s (i+1)=39):sgl s i L cur=(zb1 (L++[⟨cur,false⟩]),i+1,0):=by rw [sgl,dif_pos h,if_neg (by omega),if_neg (fun h=>h2 h.2),if_pos hb]
theorem sgl_c {s:Bs} {i:Nat} {L:List Pc} {cur:Bs} (h:i<s.length) (hb:¬byt s i=10) (h2:¬byt s i=39):sgl s i L cur=sgl s (i+1) L (cur++[s.getD i 0]):=by rw [sgl,dif_pos h,if_neg hb,if_neg (fun h=>h2 h.1),if_neg h2]
def sgA (s:Bs) (p:Nat):Bs×Nat×Int:=if byt s p=39 then sgl s (p+1) [] [] else ([],p,10)
def dbl (s:Bs) (i:Nat) (L:List Pc) (cur:Bs) (k:Nat):Bs×Nat×Int:=
 if h:i<s.length then
  if byt s i=10 then (if mkA s (i+1)=0 then dbl s (wh s (i+1)) (L++[⟨uq k cur,false⟩]) [] 0 else ([],i+1,4))
  else if byt s i=92∧byt s (i+1)=10 then (if mkA s (i+2)=0 then dbl s (wh s (i+2)) (L++[⟨cur,true⟩]) [] 0 else ([],i+2,4))
  else if byt s i=92 then (if h2:(esA s i).2≤i then ([],i,5) else dbl s (esA s i).2 L (cur++(esA s i).1) (cur++(esA s i).1).length)
  else if byt s i=34 then (zb1 (L++[⟨cur,false⟩]),i+1,0)
  else dbl s (i+1) L (cur++[s.getD i 0]) k
 else ([],s.length,3)
termination_by s.length-i
decreasing_by
 ·have:=jh s (i+1);omega
 ·have:=jh s (i+2);omega
 ·omega
 ·omega
theorem z2n {s:Bs} {i:Nat} {L:List Pc} {cur:Bs} {k:Nat} (h:¬i<s.length):dbl s i L cur k=([],s.length,3):=by rw [dbl,dif_neg h]
theorem dbl_nl {s:Bs} {i:Nat} {L:List Pc} {cur:Bs} {k:Nat} (h:i<s.length) (hb:byt s i=10) (hm:mkA s (i+1)=0):dbl s i L cur k=dbl s (wh s (i+1)) (L++[⟨uq k cur,false⟩]) [] 0:=by rw [dbl,dif_pos h,if_pos hb,if_pos hm]
theorem dbl_mk {s:Bs} {i:Nat} {L:List Pc} {cur:Bs} {k:Nat} (h:i<s.length) (hb:byt s i=10) (hm:¬mkA s (i+1)=0):dbl s i L cur k=([],i+1,4):=by rw [dbl,dif_pos h,if_pos hb,if_neg hm]
theorem dbl_gl {s:Bs} {i:Nat} {L:List Pc} {cur:Bs} {k:Nat} (h:i<s.length) (hb:byt s i=92) (h2:byt s (i+1)=10) (hm:mkA s (i+2)=0):dbl s i L cur k=dbl s (wh s (i+2)) (L++[⟨cur,true⟩]) [] 0:=by rw [dbl,dif_pos h,if_neg (by omega),if_pos ⟨hb,h2⟩,if_pos hm]
theorem dbl_gm {s:Bs} {i:Nat} {L:List Pc} {cur:Bs} {k:Nat} (h:i<s.length) (hb:byt s i=92) (h2:byt s (i+1)=10) (hm:¬mkA s (i+2)=0):dbl s i L cur k=([],i+2,4):=by rw [dbl,dif_pos h,if_neg (by omega),if_pos ⟨hb,h2⟩,if_neg hm]
theorem dbl_eb {s:Bs} {i:Nat} {L:List Pc} {cur:Bs} {k:Nat} (h:i<s.length) (hb:byt s i=92) (h2:¬byt s (i+1)=10) (he:(esA s i).2=0):dbl s i L cur k=([],i,5):=by rw [dbl,dif_pos h,if_neg (by omega),if_neg (fun h=>h2 h.2),if_pos hb,dif_pos (by omega)]
theorem dbl_es {s:Bs} {i:Nat} {L:List Pc} {cur:Bs} {k:Nat} (h:i<s.length) (hb:byt s i=92) (h2:¬byt s (i+1)=10) (he:¬(esA s i).2=0):dbl s i L cur k=dbl s (esA s i).2 L (cur++(esA s i).1) (cur++(esA s i).1).length:=by rw [dbl,dif_pos h,if_neg (by omega),if_neg (fun h=>h2 h.2),if_pos hb,dif_neg (by have:=z2c s i;omega)]
theorem dbl_q {s:Bs} {i:Nat} {L:List Pc} {cur:Bs} {k:Nat} (h:i<s.length) (hb:byt s i=34):dbl s i L cur k=(zb1 (L++[⟨cur,false⟩]),i+1,0):=by rw [dbl,dif_pos h,if_neg (by omega),if_neg (fun h=>by omega),if_neg (by omega),if_pos hb]
theorem dbl_c {s:Bs} {i:Nat} {L:List Pc} {cur:Bs} {k:Nat} (h:i<s.length) (hb:¬byt s i=10) (h2:¬byt s i=92) (h3:¬byt s i=34):dbl s i L cur k=dbl s (i+1) L (cur++[s.getD i 0]) k:=by rw [dbl,dif_pos h,if_neg hb,if_neg (fun h=>h2 h.1),if_neg h2,if_neg h3]
def dbA (s:Bs) (p:Nat):Bs×Nat×Int:=if byt s p=34 then dbl s (p+1) [] [] 0 else ([],p,10)
theorem zmz {k:Nat} {b:Bs} {w:UInt8} (hk:k≤b.length) (hw:w=32∨w=9):uq k (b++[w])=uq k b:=by
 rw [cutW_t]
 ·congr 1;simp
 ·have e:(b++[w]).getD ((b++[w]).length-1) 0=w:=by simp [List.getD]
  rw [e];exact ⟨by simp;omega,hw⟩
theorem zod {k:Nat} {b:Bs} {w:UInt8} (hw:¬(w=32∨w=9)):uq k (b++[w])=b++[w]:=by
 rw [zwb];have e:(b++[w]).getD ((b++[w]).length-1) 0=w:=by simp [List.getD]
 rw [e];exact fun h=>hw h.2
theorem zwc (b:Bs):uq b.length b=b:=by rw [zwb];rintro ⟨h,_⟩;omega
theorem zet (k:Nat):uq k []=[]:=by rw [zwb];rintro ⟨h,_⟩;simp at h
theorem zri (k:Nat):∀ (n:Nat) (b:Bs),b.take (cutK k n b).length=cutK k n b
 | 0,b=>by simp [cutK]
 | n+1,b=>by
  unfold cutK;split
  ·have h:=zri k n (b.take (b.length-1));rw [List.take_take] at h;have hl:=zoe k n (b.take (b.length-1));rw [List.length_take] at hl;rw [Nat.min_eq_left (by omega)] at h;exact h
  ·simp
theorem zrh (k:Nat) (b:Bs):b.take (uq k b).length=uq k b:=zri k _ b
theorem uf (e:Pc):pcW [e]=e.text.length+1:=by simp [pcW]
theorem zzc (s:Bs) (i:Nat) (L:List Pc) (cur:Bs) (h:i≤s.length):i≤(sgl s i L cur).2.1∧(sgl s i L cur).2.1≤s.length∧((sgl s i L cur).2.2=0→i<(sgl s i L cur).2.1):=by
 fun_induction sgl s i L cur with
 | case1 i L cur h1 hb hm ih=>have h2:=jh s (i+1);have h3:=jg s (i+1) h1;have:=ih h3;omega
 | case2 i L cur h1 hb hm=>simp only;omega
 | case3 i L cur h1 hb h2 ih=>
  have h3:i+1<s.length:=by
   rcases Nat.lt_or_ge (i+1) s.length with h4 | h4
   ·exact h4
   ·rw [qk h4] at h2;omega
  have:=ih (by omega);omega
 | case4 i L cur h1 hb h2 h3=>simp only;omega
 | case5 i L cur h1 hb h2 h3 ih=>have:=ih (by omega);omega
 | case6 i L cur h1=>simp only;omega
theorem z2m (s:Bs) (i:Nat) (L:List Pc) (cur:Bs) (k:Nat) (h:i≤s.length):i≤(dbl s i L cur k).2.1∧(dbl s i L cur k).2.1≤s.length∧((dbl s i L cur k).2.2=0→i<(dbl s i L cur k).2.1):=by
 fun_induction dbl s i L cur k with
 | case1 i L cur k h1 hb hm ih=>have h2:=jh s (i+1);have h3:=jg s (i+1) h1;have:=ih h3;omega
 | case2 i L cur k h1 hb hm=>simp only;omega
 | case3 i L cur k h1 hb h2 hm ih=>
  have h3:i+1<s.length:=by
   rcases Nat.lt_or_ge (i+1) s.length with h4 | h4
   ·exact h4
   ·rw [qk h4] at h2;omega
  have h4:=jh s (i+2);have h5:=jg s (i+2) h3;have:=ih h5;omega
 | case4 i L cur k h1 hb h2 hm=>
  have h3:i+1<s.length:=by
   rcases Nat.lt_or_ge (i+1) s.length with h4 | h4
   ·exact h4
   ·rw [qk h4] at h2;omega
  simp only;omega
 | case5 i L cur k h1 hb h2 hq he=>simp only;omega
 | case6 i L cur k h1 hb h2 hq he ih=>have h3:=zv8 s i;have:=ih h3;omega
 | case7 i L cur k h1 hb h2 hq hx=>simp only;omega
 | case8 i L cur k h1 hb h2 hq hx ih=>have:=ih (by omega);omega
 | case9 i L cur k h1=>simp only;omega
theorem zhx {s:Bs} {p:Nat} (h:p≤s.length):p≤(sgA s p).2.1∧(sgA s p).2.1≤s.length∧((sgA s p).2.2=0→p+1<(sgA s p).2.1):=by
 unfold sgA;split
 ·rename_i hb;have hl:p<s.length:=by
   rcases Nat.lt_or_ge p s.length with h1 | h1
   ·exact h1
   ·rw [qk h1] at hb;omega
  have:=zzc s (p+1) [] [] hl;omega
 ·simp only;omega
theorem zjp {s:Bs} {p:Nat} (h:p≤s.length):p≤(dbA s p).2.1∧(dbA s p).2.1≤s.length∧((dbA s p).2.2=0→p+1<(dbA s p).2.1):=by
 unfold dbA;split
 ·rename_i hb;have hl:p<s.length:=by
   rcases Nat.lt_or_ge p s.length with h1 | h1
   ·exact h1
   ·rw [qk h1] at hb;omega
  have:=z2m s (p+1) [] [] 0 hl;omega
 ·simp only;omega
theorem z04 {s:Bs} {p:Nat} (h:p≤s.length):0≤(nmA s p).2.1∧(nmA s p).2.1≤s.length∧((nmA s p).2.2=true→(p:Int)+2≤(nmA s p).2.1):=by
 unfold nmA;split
 ·rename_i hb;have hl:p<s.length:=by
   rcases Nat.lt_or_ge p s.length with h1 | h1
   ·exact h1
   ·rw [qk h1] at hb;omega
  have:=zhw s (p+1) hl;simp only;omega
 ·simp
/-- No break between two places. -/
def oneL (s:Bs) (p e:Nat):Bool:=decide (e≤en s p)
theorem mem_sub {s:Bs} {p e:Nat} (h1:p≤e) (h2:e≤s.length):decide ((10:UInt8)∈sub s p e)=!oneL s p e:=by
 unfold oneL sub;rw [Bool.eq_iff_iff];simp only [decide_eq_true_eq,Bool.not_eq_true',decide_eq_false_iff_not,Nat.not_le];have key:∀ q,q<s.length→(isB s q=true↔s.getD q 0=10):=by
  intro q hq;have h3:¬((s.getD q 0).toNat:Int)<0:=by omega
  simp only [isB,zw hq,Bool.or_eq_true,beq_iff_eq,decide_eq_true_eq,h3,or_false];have:=xp (c:=s.getD q 0) (n:=10) (by decide);simp only [Int.cast_ofNat_Int] at this;rw [this];rfl
 constructor
 ·intro hm;obtain ⟨j,hj,hx⟩:=List.mem_iff_getElem.1 hm;have hj2:p+j<e:=by simp only [List.length_drop,List.length_take] at hj;omega
  have hx2:s.getD (p+j) 0=10:=by simp only [List.getElem_drop,List.getElem_take] at hx;simp [List.getD,show p+j<s.length by omega,hx]
  rcases Nat.lt_or_ge (p+j) (en s p) with h3 | h3
  ·have:=en_lt (Nat.le_add_right p j) h3;rw [(key _ (by omega)).2 hx2] at this;cases this
  ·omega
 ·intro hl;have hB:=zv9 s p;have hx:=(key _ (by omega)).1 hB;have hg:=zck s p;refine List.mem_iff_getElem.2 ⟨en s p-p,by simp only [List.length_drop,List.length_take];omega, ?_⟩;simp only [List.getElem_drop,List.getElem_take,show p+(en s p-p)=en s p by omega];simpa [List.getD,show en s p<s.length by omega] using hx
/-- The end of a scalar of one line,as a key has it. -/
def keE (s:Bs) (p:Nat):Int×Bool:=
 if byt s p=42 then ((nmA s p).2.1,(nmA s p).2.2)
 else if byt s p=39 then ((sgA s p).2.1,decide ((sgA s p).2.2=0)&&oneL s p (sgA s p).2.1)
 else if byt s p=34 then ((dbA s p).2.1,decide ((dbA s p).2.2=0)&&oneL s p (dbA s p).2.1)
 else if pfA s p false=true then (plE s p false,decide (p<plE s p false))
 else (0,false)
theorem zja {s:Bs} {p:Nat} (h:p≤s.length):0≤(keE s p).1∧(keE s p).1≤s.length∧((keE s p).2=true→(p:Int)<(keE s p).1):=by
 unfold keE;have h1:=z04 h;have h2:=zhx h;have h3:=zjp h;have h4:=zf9 s p false h;split
 ·exact ⟨h1.1,h1.2.1,fun hk=>by have:=h1.2.2 hk;omega⟩
 split
 ·exact ⟨by simp only;omega,by simp only;omega,fun hk=>by simp only [Bool.and_eq_true,decide_eq_true_eq] at hk;have:=h2.2.2 hk.1;simp only;omega⟩
 split
 ·exact ⟨by simp only;omega,by simp only;omega,fun hk=>by simp only [Bool.and_eq_true,decide_eq_true_eq] at hk;have:=h3.2.2 hk.1;simp only;omega⟩
 split
 ·exact ⟨by simp only;omega,by simp only;omega,fun hk=>by simp only [decide_eq_true_eq] at hk;simp only;omega⟩
 ·simp
def kyA (s:Bs) (p:Nat):Int×Int×Bool:=
 if (keE s p).2=true∧(keE s p).1-p≤1000∧byt s (wh s (keE s p).1.toNat)=58∧gap s (wh s (keE s p).1.toNat+1)=true then ((keE s p).1,wh s (keE s p).1.toNat,true) else (0,0,false)
theorem kyA_t {s:Bs} {p:Nat} (h:(keE s p).2=true∧(keE s p).1-p≤1000∧byt s (wh s (keE s p).1.toNat)=58∧gap s (wh s (keE s p).1.toNat+1)=true):kyA s p=((keE s p).1,(wh s (keE s p).1.toNat:Int),true):=by unfold kyA;rw [if_pos h]
theorem z1r {s:Bs} {p:Nat} (h:¬((keE s p).2=true∧(keE s p).1-p≤1000∧byt s (wh s (keE s p).1.toNat)=58∧gap s (wh s (keE s p).1.toNat+1)=true)):kyA s p=(0,0,false):=by unfold kyA;rw [if_neg h]
theorem zm {s:Bs} {i:Nat} {b:Int} (h:byt s i=b) (hb:0≤b):i<s.length:=by
 rcases Nat.lt_or_ge i s.length with h1 | h1
 ·exact h1
 ·rw [qk h1] at h;omega
/-- Over blanks. -/
def bl (s:Bs) (i:Nat):Nat:=if h:byt s i=32 then bl s (i+1) else i
termination_by s.length-i
decreasing_by have:=zm h (by decide);omega
theorem bl_t {s:Bs} {i:Nat} (h:byt s i=32):bl s i=bl s (i+1):=by rw [bl,dif_pos h]
theorem bl_f {s:Bs} {i:Nat} (h:¬byt s i=32):bl s i=i:=by rw [bl,dif_neg h]
def inA (s:Bs) (p:Nat):Nat:=bl s (la s p)-la s p
/-- Over a gap. -/
def gpC (s:Bs) (p:Nat):Bool:=decide (byt s p=35)&&(decide (la s p=p)||isW s (p-1))
theorem z2f {s:Bs} {p:Nat} (h:isB s p=false):p<en s p:=by rw [en_t h];have:=zck s (p+1);omega
theorem isB_35 {s:Bs} {p:Nat} (h:byt s p=35):isB s p=false:=by unfold isB;rw [h];decide
def gpE (s:Bs) (p:Nat):Nat:=
 if h:p<s.length then (if isW s p=true∨byt s p=10 then gpE s (p+1) else if h2:gpC s p=true then gpE s (en s p) else p) else p
termination_by s.length-p
decreasing_by
 ·omega
 ·have:=z2f (isB_35 (by simp [gpC] at h2;exact h2.1));omega
theorem gpE_w {s:Bs} {p:Nat} (h:isW s p=true∨byt s p=10):gpE s p=gpE s (p+1):=by
 have hl:p<s.length:=by
  rcases h with h | h
  ·exact zqu h
  ·exact zm h (by decide)
 rw [gpE,dif_pos hl,if_pos h]
theorem gpE_c {s:Bs} {p:Nat} (h:gpC s p=true):gpE s p=gpE s (en s p):=by
 have hb:byt s p=35:=by simp [gpC] at h;exact h.1
 have hl:=zm hb (by decide);have hw:¬(isW s p=true∨byt s p=10):=by unfold isW;rw [hb];decide
 rw [gpE,dif_pos hl,if_neg hw,dif_pos h]
theorem gpE_f {s:Bs} {p:Nat} (h:¬(isW s p=true∨byt s p=10)) (h2:gpC s p=false):gpE s p=p:=by
 by_cases hl:p<s.length
 ·rw [gpE,dif_pos hl,if_neg h,dif_neg (by rw [h2];simp)]
 ·rw [gpE,dif_neg hl]
theorem zsz {s:Bs} {p:Nat} (h:¬p<s.length):gpE s p=p:=by rw [gpE,dif_neg h]
theorem q8 (s:Bs) (p:Nat):p≤gpE s p:=by
 fun_induction gpE s p with
 | case1 p h h1 ih=>omega
 | case2 p h h1 h2 ih=>have:=zck s p;omega
 | case3 p h h1 h2=>omega
 | case4 p h=>omega
theorem qr (s:Bs) (p:Nat) (h:p≤s.length):gpE s p≤s.length:=by
 fun_induction gpE s p with
 | case1 p h h1 ih=>exact ih (by omega)
 | case2 p h0 h1 h2 ih=>exact ih (uo s p h)
 | case3 p h h1 h2=>omega
 | case4 p h=>omega
theorem zv1 (s:Bs) (p:Nat):gpE s (wh s p)=gpE s p:=by
 fun_induction wh s p with
 | case1 i h ih=>rw [ih,←gpE_w (.inl h)]
 | case2 i h=>rfl
/-- A line of white alone. -/
def lnA (s:Bs) (p:Nat):Bool:=isB s (wh s (la s p))
/-- On to a '>',or a gap. -/
def cl (s:Bs) (i:Nat):Nat:=if h:gap s i=false∧¬byt s i=62 then cl s (i+1) else i
termination_by s.length-i
decreasing_by have:=wk h.1;omega
theorem cl_t {s:Bs} {i:Nat} (h:gap s i=false∧¬byt s i=62):cl s i=cl s (i+1):=by rw [cl,dif_pos h]
theorem cl_f {s:Bs} {i:Nat} (h:¬(gap s i=false∧¬byt s i=62)):cl s i=i:=by rw [cl,dif_neg h]
theorem cl_ge (s:Bs) (i:Nat):i≤cl s i:=by
 fun_induction cl s i with
 | case1 i h ih=>omega
 | case2 i h=>omega
/-- The end of a tag. -/
def tgE (s:Bs) (p:Nat):Nat:=if byt s (p+1)=60∧byt s (cl s (p+2))=62∧p+2<cl s (p+2) then cl s (p+2)+1 else stc s p
def tgA (s:Bs) (p:Nat):Bs×Int×Bool:=if byt s p=33∧tgE s p≤p+60 then (sub s p (tgE s p),tgE s p,true) else ([],0,false)
theorem zo2 {s:Bs} {p:Nat} (h:byt s p=33∧tgE s p≤p+60):tgA s p=(sub s p (tgE s p),(tgE s p:Int),true):=by unfold tgA;rw [if_pos h]
theorem zj3 {s:Bs} {p:Nat} (h:¬(byt s p=33∧tgE s p≤p+60)):tgA s p=([],0,false):=by unfold tgA;rw [if_neg h]
theorem zy8 {s:Bs} {p:Nat} (h:byt s p=33):p+1≤stc s p:=by have hl:=zm h (by decide);rw [stc_t ⟨by unfold gap isW isB;rw [h];decide,by rw [h];decide⟩];exact zy7 s (p+1)
theorem zhv {s:Bs} {p:Nat} (h:byt s p=33):p+1≤tgE s p∧tgE s p≤s.length:=by
 have hl:=zm h (by decide);unfold tgE;split
 ·rename_i h2;have:=zm h2.2.1 (by decide);have:=cl_ge s (p+2);omega
 ·exact ⟨zy8 h,zhw s p (by omega)⟩
/-- A handle. -/
structure Hd where
 name:Bs
 pre:Bs
deriving DecidableEq
def hdz:Hd:=⟨[],[]⟩
def zjb (b:UInt8):Bool:=(decide (97≤b.toNat)&&decide (b.toNat≤122))||(decide (65≤b.toNat)&&decide (b.toNat≤90))||(decide (48≤b.toNat)&&decide (b.toNat≤57))||decide (b.toNat=45)
def nmO (s:Bs):Bool:=decide (s.length≤60∧s≠[]∧s.getD 0 0=33∧s.getD (s.length-1) 0=33)&&(sub s 1 (s.length-1)).all zjb
def hdF (name:Bs) (rest:Bs):List Hd→Bs×Bool
 | []=>if name=[33,33] then ([116,97,103,58,121,97,109,108,46,111,114,103,44,50,48,48,50,58]++rest,true) else if name=[33] then ([33]++rest,true) else ([],false)
 | h::r=>if h.name=name then (if h.pre=[] then ([],false) else (h.pre++rest,true)) else hdF name rest r
def trA (raw:Bs) (l:List Hd):Bs×Bool:=
 if raw=[]∨raw.getD 0 0≠33 then ([],false)
 else if 3<raw.length∧raw.getD 1 0=60∧raw.getD (raw.length-1) 0=62 then (sub raw 2 (raw.length-1),true)
 else if raw=[33] then ([33],true)
 else if raw.drop (lix raw 33+1).toNat=[]∨nmO (raw.take (lix raw 33+1).toNat)=false then ([],false)
 else hdF (raw.take (lix raw 33+1).toNat) (raw.drop (lix raw 33+1).toNat) l
/-- Over lines of white alone: where the next one begins,and how many;false where the text ends so. -/
def lnS (s:Bs) (a:Nat) (many:Nat):Nat×Nat×Bool:=
 if h:lnA s a=true then (if h2:a≤en s a∧en s a<s.length then lnS s (en s a+1) (many+1) else (a,many,false)) else (a,many,true)
termination_by s.length-a
decreasing_by omega
theorem lnS_t {s:Bs} {a many:Nat} (h:lnA s a=true) (h2:en s a<s.length):lnS s a many=lnS s (en s a+1) (many+1):=by rw [lnS,dif_pos h,dif_pos ⟨zck s a,h2⟩]
theorem lnS_e {s:Bs} {a many:Nat} (h:lnA s a=true) (h2:¬en s a<s.length):lnS s a many=(a,many,false):=by rw [lnS,dif_pos h,dif_neg (fun h=>h2 h.2)]
theorem lnS_f {s:Bs} {a many:Nat} (h:lnA s a=false):lnS s a many=(a,many,true):=by rw [lnS,dif_neg (by rw [h];simp)]
theorem z1i (s:Bs) (a many:Nat) (h:a≤s.length):a≤(lnS s a many).1∧(lnS s a many).1≤s.length∧many≤(lnS s a many).2.1∧(lnS s a many).2.1+a≤many+(lnS s a many).1:=by
 fun_induction lnS s a many with
 | case1 a many h1 h2 ih=>have:=ih (by omega);omega
 | case2 a many h1 h2=>simp only;omega
 | case3 a many h1=>simp only;omega
/-- Where a plain scalar goes on. -/
def nxO (s:Bs) (a:Nat) (n:Int) (flow:Bool):Bool:=
 decide (mkA s a=0)&&(flow||decide (n<(inA s a:Int)))&&!decide (byt s (wh s a)=35)&&!decide (plE s (wh s a) flow=wh s a)
def nxA (s:Bs) (e:Nat) (n:Int) (flow:Bool):Nat×Nat×Bool:=
 if byt s (wh s e)=10∧(lnS s (wh s e+1) 0).2.2=true∧nxO s (lnS s (wh s e+1) 0).1 n flow=true then (wh s (lnS s (wh s e+1) 0).1,(lnS s (wh s e+1) 0).2.1,true) else (0,0,false)
theorem nxA_t {s:Bs} {e:Nat} {n:Int} {flow:Bool} (h:byt s (wh s e)=10∧(lnS s (wh s e+1) 0).2.2=true∧nxO s (lnS s (wh s e+1) 0).1 n flow=true):nxA s e n flow=(wh s (lnS s (wh s e+1) 0).1,(lnS s (wh s e+1) 0).2.1,true):=by unfold nxA;rw [if_pos h]
theorem zsl {s:Bs} {e:Nat} {n:Int} {flow:Bool} (h:¬(byt s (wh s e)=10∧(lnS s (wh s e+1) 0).2.2=true∧nxO s (lnS s (wh s e+1) 0).1 n flow=true)):nxA s e n flow=(0,0,false):=by unfold nxA;rw [if_neg h]
theorem zek {s:Bs} {e:Nat} {n:Int} {flow:Bool} (h:(nxA s e n flow).2.2=true):e+(nxA s e n flow).2.1+1≤(nxA s e n flow).1∧(nxA s e n flow).1≤s.length∧(nxA s e n flow).1<plE s (nxA s e n flow).1 flow:=by
 by_cases hc:byt s (wh s e)=10∧(lnS s (wh s e+1) 0).2.2=true∧nxO s (lnS s (wh s e+1) 0).1 n flow=true
 ·rw [nxA_t hc];have hl:=zm hc.1 (by decide);have h1:=z1i s (wh s e+1) 0 hl;have h2:=jh s e;have h3:=jh s (lnS s (wh s e+1) 0).1;have h4:=jg s (lnS s (wh s e+1) 0).1 h1.2.1;have h5:=zuz s (wh s (lnS s (wh s e+1) 0).1) flow;have h6:¬plE s (wh s (lnS s (wh s e+1) 0).1) flow=wh s (lnS s (wh s e+1) 0).1:=by have:=hc.2.2;simp only [nxO,Bool.and_eq_true,Bool.not_eq_true',decide_eq_false_iff_not] at this;exact this.2
  simp only;omega
 ·rw [zsl hc] at h;cases h
def plA (s:Bs) (e:Nat) (n:Int) (flow:Bool) (L:List Pc):Bs×Nat:=
 if h:(nxA s e n flow).2.2=true then plA s (plE s (nxA s e n flow).1 flow) n flow (L++List.replicate (nxA s e n flow).2.1 pcz++[⟨sub s (nxA s e n flow).1 (plE s (nxA s e n flow).1 flow),false⟩]) else (zb1 L,e)
termination_by s.length-e
decreasing_by
 have h1:=zek h;have h2:=zf9 s (nxA s e n flow).1 flow h1.2.1;omega
theorem plA_t {s:Bs} {e:Nat} {n:Int} {flow:Bool} {L:List Pc} (h:(nxA s e n flow).2.2=true):plA s e n flow L=plA s (plE s (nxA s e n flow).1 flow) n flow (L++List.replicate (nxA s e n flow).2.1 pcz++[⟨sub s (nxA s e n flow).1 (plE s (nxA s e n flow).1 flow),false⟩]):=by rw [plA,dif_pos h]
theorem plA_f {s:Bs} {e:Nat} {n:Int} {flow:Bool} {L:List Pc} (h:(nxA s e n flow).2.2=false):plA s e n flow L=(zb1 L,e):=by rw [plA,dif_neg (by rw [h];simp)]
def ptA (s:Bs) (p:Nat) (n:Int) (flow:Bool):Bs×Nat×Bool:=
 if pfA s p flow=true then ((plA s (plE s p flow) n flow [⟨sub s p (plE s p flow),false⟩]).1,(plA s (plE s p flow) n flow [⟨sub s p (plE s p flow),false⟩]).2,true) else ([],0,false)
end Go.Pl
namespace Go.Pl
/-- The prefix of a handle,[] where there is none. -/
def hdP (name:Bs):List Hd→Bs
 | []=>if name=[33,33] then [116,97,103,58,121,97,109,108,46,111,114,103,44,50,48,48,50,58] else if name=[33] then [33] else []
 | h::r=>if h.name=name then h.pre else hdP name r
theorem hdF_P (name rest:Bs):∀ l:List Hd,hdF name rest l=if hdP name l=[] then ([],false) else (hdP name l++rest,true)
 | []=>by
  unfold hdF hdP;by_cases h1:name=[33,33]
  ·rw [if_pos h1,if_pos h1,if_neg (by simp)]
  ·rw [if_neg h1,if_neg h1];by_cases h2:name=[33]
   ·rw [if_pos h2,if_pos h2,if_neg (by simp)]
   ·rw [if_neg h2,if_neg h2,if_pos rfl]
 | h::r=>by
  unfold hdF hdP;by_cases h1:h.name=name
  ·rw [if_pos h1,if_pos h1]
  ·rw [if_neg h1,if_neg h1];exact hdF_P name rest r
end Go.Pl
namespace Go.Pl
theorem zni {s:Bs} {a e:Nat} (p:UInt8→Bool) (he:e≤s.length):(sub s a e).all p=true↔∀ j,a≤j→j<e→p (s.getD j 0)=true:=by
 unfold sub;rw [List.all_eq_true];constructor
 ·intro h j h1 h2;refine h _ (List.mem_iff_getElem.2 ⟨j-a,by simp only [List.length_drop,List.length_take];omega, ?_⟩);simp only [List.getElem_drop,List.getElem_take,show a+(j-a)=j by omega];simp [List.getD,show j<s.length by omega]
 ·intro h x hx;obtain ⟨j,hj,rfl⟩:=List.mem_iff_getElem.1 hx;have hj2:a+j<e:=by simp only [List.length_drop,List.length_take] at hj;omega
  have:=h (a+j) (by omega) hj2;simp only [List.getElem_drop,List.getElem_take];simpa [List.getD,show a+j<s.length by omega] using this
theorem hdF_drop {name rest:Bs} {l:List Hd} {i:Nat} (h:i<l.length):hdF name rest (l.drop i)=if (l.getD i hdz).name=name then (if (l.getD i hdz).pre=[] then ([],false) else ((l.getD i hdz).pre++rest,true)) else hdF name rest (l.drop (i+1)):=by
 have e:l.getD i hdz=l[i]:=by simp [List.getD,h]
 rw [List.drop_eq_getElem_cons h,e,hdF]
theorem hdP_drop {name:Bs} {l:List Hd} {i:Nat} (h:i<l.length):hdP name (l.drop i)=if (l.getD i hdz).name=name then (l.getD i hdz).pre else hdP name (l.drop (i+1)):=by
 have e:l.getD i hdz=l[i]:=by simp [List.getD,h]
 rw [List.drop_eq_getElem_cons h,e,hdP]
theorem lix_bd (s:Bs) (c:Int) : -1≤lix s c∧lix s c<s.length:=⟨z1l s c _,z1k s c _⟩
theorem z1z {name:Bs}:∀ {l:List Hd} {N:Nat},18≤N→(∀ h∈l,h.pre.length≤N)→(hdP name l).length≤N
 | [],N,h,_=>by
  unfold hdP;split;simpa using h;split<;>simp;omega
 | h::r,N,hN,hl=>by unfold hdP;split;exact hl h (List.mem_cons_self ..);exact z1z hN fun x hx=>hl x (List.mem_cons_of_mem _ hx)
theorem lixU_hit {s:Bs} {c:Int} {i:Nat} (h:((s.getD i 0).toNat:Int)=c):lixU s c (i+1)=i:=by rw [lixU,if_pos h]
theorem z1j {s:Bs} {c:Int} {i:Nat} (h:¬((s.getD i 0).toNat:Int)=c):lixU s c (i+1)=lixU s c i:=by rw [lixU,if_neg h]
end Go.Pl
namespace Go.Pl
theorem trA_a {raw:Bs} {l:List Hd} (h:raw=[]∨raw.getD 0 0≠33):trA raw l=([],false):=by unfold trA;rw [if_pos h]
theorem trA_b {raw:Bs} {l:List Hd} (hA:¬(raw=[]∨raw.getD 0 0≠33)) (h:3<raw.length∧raw.getD 1 0=60∧raw.getD (raw.length-1) 0=62):trA raw l=(sub raw 2 (raw.length-1),true):=by unfold trA;rw [if_neg hA,if_pos h]
theorem trA_c {l:List Hd}:trA [33] l=([33],true):=by unfold trA;simp
theorem trA_d {raw:Bs} {l:List Hd} (hA:¬(raw=[]∨raw.getD 0 0≠33)) (hB:¬(3<raw.length∧raw.getD 1 0=60∧raw.getD (raw.length-1) 0=62)) (hC:¬raw=[33]):trA raw l=if raw.drop (lix raw 33+1).toNat=[]∨nmO (raw.take (lix raw 33+1).toNat)=false then ([],false) else hdF (raw.take (lix raw 33+1).toNat) (raw.drop (lix raw 33+1).toNat) l:=by unfold trA;rw [if_neg hA,if_neg hB,if_neg hC]
end Go.Pl
namespace Go.Pl
theorem zn0:∀ n:Nat,pcW (List.replicate n pcz)=n
 | 0=>rfl
 | n+1=>by have:=zn0 n;rw [List.replicate_succ];unfold pcW at this ⊢;rw [List.map_cons,List.sum_cons,this];show 0+1+n=n+1;omega
theorem la_nl {s:Bs} {i:Nat} (h:byt s i=10):la s (i+1)=i+1:=by unfold la;rw [if_pos h]
theorem en_10 {s:Bs} {a:Nat} (h:en s a<s.length):byt s (en s a)=10:=by
 have:=zv9 s a;unfold isB at this;simp only [Bool.or_eq_true,beq_iff_eq,decide_eq_true_eq] at this;rcases this with h1 | h1
 ·exact h1
 ·have:=z2u.1 h1;omega
theorem nxA_at {s:Bs} {e:Nat} {n:Int} {fl:Bool} {a k:Nat} (h10:byt s (wh s e)=10) (h4:lnS s a k=lnS s (wh s e+1) 0) (hex:¬(lnA s a=true∧en s a<s.length)) :
  nxA s e n fl=if lnA s a=false∧nxO s a n fl=true then (wh s a,k,true) else (0,0,false):=by
 by_cases hl:lnA s a=true
 ·rw [lnS_e hl (fun h=>hex ⟨hl,h⟩)] at h4;rw [zsl (by rintro ⟨_,h5,_⟩;rw [←h4] at h5;cases h5),if_neg (by rintro ⟨h5,_⟩;rw [h5] at hl;cases hl)]
 ·have hl:lnA s a=false:=by simpa using hl
  rw [lnS_f hl] at h4;by_cases hx:nxO s a n fl=true
  ·rw [nxA_t ⟨h10,by rw [←h4],by rw [←h4];exact hx⟩,←h4,if_pos ⟨hl,hx⟩]
  ·rw [zsl (by rintro ⟨_,_,h5⟩;rw [←h4] at h5;exact hx h5),if_neg (fun h=>hx h.2)]
end Go.Pl
end
section
namespace Go.Vg
variable [Go.Vg.Glob]
open Go.Pl
def hdc (e:Hd):List SV:=[.s e.name,.s e.pre]
theorem zsy {l m:List Hd}:l.map hdc=m.map hdc↔l=m:=zbw fun a b h=>by cases a;cases b;simpa [hdc] using h
theorem zv5 (a:List Hd) (i:Nat):(a.map hdc).getD i [.s [],.s []]=[.s (a.getD i hdz).name,.s (a.getD i hdz).pre]:=uu hdc a i hdz
theorem zzn {a:List Hd} {i:Nat}:zu hdc hdz a i=[.s (a.getD i hdz).name,.s (a.getD i hdz).pre]:=id rfl
theorem zzj {μ:Nat→Nat} {r:Bool} {sz n:Nat} {a:List Hd}:SO.mapH μ (.row r sz n (zu hdc hdz a))=.row r sz n (zu hdc hdz a):=rowH fun _=>rfl
theorem hdEta (e:Hd):(⟨e.name,e.pre⟩:Hd)=e:=id rfl
theorem XRH:type_of% (ai (ai @zv5 @zzn) (ai @zzj @hdEta)):=ai (ai @zv5 @zzn) (ai @zzj @hdEta)
end Go.Vg
namespace Go.Vg
variable [Go.Vg.Glob]
theorem yx {μ:Nat→Nat} {α:Type} {enc:α→List SV} {z:α} (xs:List α) (y:α) {ys:List α} {sz n m:Nat} {f:Nat→List SV} {cs:List SV} (hp:∀ x,plainL (enc x)=true) (hys:ys=xs++[y]) (hn:n=xs.length) (hm:m=n+1) (hf:∀ j,j<n→f j=zu enc z xs j) (hy:cs=enc y) (hl:(enc y).length=sz) :
  soLe μ (.row false sz m (zu enc z ys)) (.row false sz (n+1) (zfz n f fun j=>q7 cs sz j)):=by
 subst hy;subst hys;subst hn;subst hm;refine yi fun j hj=>?_;rw [zbd (z:=z) rfl hf hl hj];exact qx (hp _)
end Go.Vg
end
