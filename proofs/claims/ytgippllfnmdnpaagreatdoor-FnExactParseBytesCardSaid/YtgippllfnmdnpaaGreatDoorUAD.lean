/- Own text: part UAD. -/
import Derived.Test.YtgippllfnmdnpaaGreatDoorUAC
set_option linter.all false
section
namespace Go.Vg
variable [Go.Vg.Glob]
open Go.RowKit
theorem znd {P:Program} {te:TE} (hte:vh P te) {σ:Asg} {t:TypeId} {ti:TI} (hti:te t=some ti) (hz:ti.zero.length=ti.size) :
  ∃ z,(∀ w,(zeroValue t).run P w=.ok z w)∧relL σ ti.zero z.cells.toList∧z.cells.size=ti.size:=by
 obtain ⟨i,hi,_,_,z,hzv,hrz,_⟩:=(hte t ti hti).info;refine ⟨z,fun w=>by simp [zeroValue,zah hi,hzv],jz (leA.nil σ) hrz, ?_⟩;have:=y4 hrz;simp only [Array.length_toList] at this;omega
theorem z1o (l:List SV) (sz i k:Nat) (hk:k<sz):(q7 l sz i).getD k .u=l.getD (i * sz+k) .u:=by simp only [q7,List.getD_eq_getElem?_getD];rw [List.getElem?_take_of_lt hk,List.getElem?_drop]
theorem zha {P:Program} {te:TE} (hte:vh P te) {A:Amb} {σ:Asg} {st:St} {a:Act} {w:World} (hR:Rel A σ st a w) {t e:TypeId} {ti:TI} (ht:tdOf te t=.slice e) (hti:te e=some ti) (hz:ti.zero.length=ti.size) {len:Nat}
  (hlen:len * ti.size≤16777216) {ps:List (Nat×SV)} {vs:Array (Nat×Value)} {l:List SV} (hl:ps.length=vs.toList.length)
  (hv:∀ (j:Nat) (i:Nat) (x:SV),ps[j]?=some (i,x)→∃ v,vs.toList[j]?=some (i,v)∧ji x=true∧rel σ x v) (hf:fillP ti.size (zj0 ti.zero len) ps=some l) :
  ∃ v σ' w',(Instr.buildSlice t len vs).run P w=.ok v w'∧leA σ σ'∧rel σ' (.slc st.ctx.length 0 len) v∧Rel A σ' (st.addObj (.row false ti.size len (q7 l ti.size))) a w':=by
 obtain ⟨z,hzr,hzrel,hzs⟩:=znd hte (σ:=σ) hti hz;have base:∃ zero:Array Value,((len * ti.size=0→zero=#[])∧(len * ti.size≠0→zero=z.cells))∧relL σ (zj0 ti.zero len) ((Array.range (len * ti.size)).map fun i=>zero[i % zero.size]!).toList:=by
  by_cases h0:len * ti.size=0
  ·refine ⟨#[],⟨fun _=>rfl,fun h=>absurd h0 h⟩, ?_⟩;have:zj0 ti.zero len=[]:=List.length_eq_zero_iff.1 (by rw [vr,hz];exact h0);rw [this,h0];simp [relL]
  ·refine ⟨z.cells,⟨fun h=>absurd h h0,fun _=>rfl⟩, ?_⟩;have:=znl hzrel len;rw [hzs] at this;rw [hzs];exact this
 obtain ⟨zero,hz1,hz2⟩:=base;obtain ⟨out,ho,hro,hos⟩:=zjm ti.size ps vs.toList _ _ l hl hv hz2 hf;have hos':out.size=len * ti.size:=by rw [hos];simp
 obtain ⟨σ',w',h1,h2,h3,h4⟩:=znk (P:=P) hR (elem:=e) (cells:=out) (sz:=ti.size) (n:=len) (cap:=len) (f:=q7 l ti.size) hos' (Nat.le_refl _) (fun i k hi hk=>by
  have hll:=y4 hro;simp only [Array.length_toList] at hll;have hb:i * ti.size+k<l.length:=by
   have:i * ti.size+ti.size≤len * ti.size:=by rw [←Nat.succ_mul];exact Nat.mul_le_mul_right _ hi
   omega
  obtain ⟨v,g1,g2⟩:=ky hro (wv hb);exact ⟨v,by simpa using g1,by rw [z1o l _ _ _ hk];exact g2⟩)
 refine ⟨_,σ',w', ?_,h2,h3,h4⟩;unfold Instr.buildSlice;simp only [Sem.run_bind,qj (qz hte ht),Result.andThen_ok,kw hte hti];rw [Sem.run_ite,if_neg (by omega)];by_cases hc0:len * ti.size=0
 ·have:=hz1.1 hc0;subst this;simp only [hc0,if_true,Sem.run_bind,Sem.run_pure,Result.andThen_ok];rw [hc0] at ho;simp only [ho,Sem.run_bind,h1,Result.andThen_ok,Sem.run_pure]
 ·have:=hz1.2 hc0;subst this;rw [if_neg hc0];simp only [Sem.run_bind,Sem.run_pure,hzr,Result.andThen_ok,ho,h1]
theorem zow {n:Int} (h0:0≤n) (h1:n≤9223372036854775807):IntKind.i64.wrap n=n:=zas (k:=.i64) ⟨by omega,h1⟩
theorem zi6 {P:Program} {te:TE} (hte:vh P te) {A:Amb} {σ:Asg} {st:St} {a:Act} {w:World} (hR:Rel A σ st a w) {t e:TypeId} {ti:TI} (ht:tdOf te t=.slice e) (hti:te e=some ti) (hz:ti.zero.length=ti.size) {n m:Int}
  (h0:0≤n) (h1:n≤m) (h2:m * ti.bytes≤281474976710656) (h3:m≤281474976710656) :
  ∃ v σ' w',(Instr.makeSlice t (.int .i64 n) (.int .i64 m)).run P w=.ok v w'∧leA σ σ'∧rel σ' (.slc st.ctx.length 0 n.toNat) v∧Rel A σ' (st.addObj (.row false ti.size n.toNat (fun _=>ti.zero))) a w':=by
 obtain ⟨z,hzr,hzrel,hzs⟩:=znd hte (σ:=σ) hti hz;obtain ⟨i,hi,hisz,hib,_⟩:=(hte e ti hti).info;have hrel:=znl hzrel m.toNat;rw [hzs] at hrel;have base:∃ zero:Array Value,((m.toNat * ti.size=0→zero=#[])∧(m.toNat * ti.size≠0→zero=z.cells))∧relL σ (zj0 ti.zero m.toNat) ((Array.range (m.toNat * ti.size)).map fun i=>zero[i % zero.size]!).toList:=by
  by_cases h0:m.toNat * ti.size=0
  ·refine ⟨#[],⟨fun _=>rfl,fun h=>absurd h0 h⟩, ?_⟩;have:zj0 ti.zero m.toNat=[]:=List.length_eq_zero_iff.1 (by rw [vr,hz];exact h0);rw [this,h0];simp [relL]
  ·refine ⟨z.cells,⟨fun h=>absurd h h0,fun _=>rfl⟩, ?_⟩;rw [hzs];exact hrel
 obtain ⟨zero,hz1,hz2⟩:=base;obtain ⟨σ',w',g1,g2,g3,g4⟩:=znk (P:=P) hR (elem:=e) (cells:=(Array.range (m.toNat * ti.size)).map fun i=>zero[i % zero.size]!) (sz:=ti.size) (n:=n.toNat) (cap:=m.toNat) (f:=fun _=>ti.zero) (by simp) (by omega) (fun i k hi hk=>by
  have hb:i * ti.size+k<m.toNat * ti.size:=by
   have:i * ti.size+ti.size≤m.toNat * ti.size:=by rw [←Nat.succ_mul];exact Nat.mul_le_mul_right _ (by omega)
   omega
  obtain ⟨v,g1,g2⟩:=ky hz2 (j:=i * ti.size+k) (wv (by rw [vr,hz];exact hb));refine ⟨v,by rw [Array.getElem?_toList] at g1;exact g1, ?_⟩;have:(zj0 ti.zero m.toNat).getD (i * ti.size+k) .u=ti.zero.getD k .u:=by
   have hrep:∀ (q i:Nat),i<q→(zj0 ti.zero q).getD (i * ti.size+k) .u=ti.zero.getD k .u:=by
    intro q
    induction q with
    | zero=>intro i hi;omega
    | succ q ih=>
     intro i hi;simp only [zj0,List.getD_eq_getElem?_getD];cases i with
     | zero=>rw [List.getElem?_append_left (by rw [hz];omega)];simp
     | succ i=>rw [List.getElem?_append_right (by rw [hz,Nat.succ_mul];omega),hz,Nat.succ_mul,show i * ti.size+ti.size+k-ti.size=i * ti.size+k by omega];have:=ih i (by omega);simpa [List.getD_eq_getElem?_getD] using this
   exact hrep _ _ (by omega)
  rw [this] at g2;exact g2)
 refine ⟨.slice (some ⟨w.heap.size,0,none⟩) n.toNat m.toNat,σ',w', ?_,g2,g3,g4⟩;have e1:IntKind.i64.wrap n=n:=zow h0 (by omega);have e2:IntKind.i64.wrap m=m:=zow (by omega) (by omega);have e3:(i.bytes:Int) * m=m * ti.bytes:=by rw [hib,Int.mul_comm]
 unfold Instr.makeSlice;simp only [Sem.run_bind,qj (qz hte ht),Result.andThen_ok,asInt,asIntOf,Sem.run_pure,zah hi,e1,e2];have hc:¬(((decide (m<0)||decide ((i.bytes:Int) * m>2 ^ 48))||decide (n<0)||decide (n>m))=true):=by rw [e3];simp;omega
 rw [Sem.run_ite,if_neg (by simpa using hc)];simp only [Sem.run_bind,run_askRoom,Result.andThen_ok,kw hte hti];by_cases hc0:m.toNat * ti.size=0
 ·have:=hz1.1 hc0;subst this;rw [if_pos hc0];simp only [Sem.run_bind,Sem.run_pure,Result.andThen_ok,g1]
 ·have:=hz1.2 hc0;subst this;rw [if_neg hc0];simp only [Sem.run_bind,Sem.run_pure,hzr,Result.andThen_ok,g1]
/-- What an append takes in: 'm' elements of 'sz' cells. -/
structure SrcIs (P:Program) (σ:Asg) (w:World) (sz m:Nat) (g:Nat→List SV) (v:Value):Prop where
 len:(Builtin.lenOf v).run P w=.ok m w
 vals:∃ vs:List Value,vs.length=m * sz∧(∀ n',(Builtin.firstCells sz m v).run P { w with drawn:=n' }=.ok vs.toArray { w with drawn:=n' }) ∧
  (∀ x∈vs,x.oneCell'=true)∧∀ j k,j<m→k<sz→∃ y,vs[j * sz+k]?=some y∧rel σ ((g j).getD k .u) y
theorem zug {σ:Asg} {w:World} {L:Loc} {ro:Bool} {sz n:Nat} {f:Nat→List SV} {c:Array Value} {e:TypeId} {fr:Nat×Nat} (h:cellsAt σ w L (.row ro sz n f) c e fr) (lo:Nat) :
  ∀ (m:Nat),lo+m≤n→∃ vs:List Value,vs.length=m * sz∧(∀ (j:Nat) (v:Value),vs[j]?=some v→c[L.sh+lo * L.sz+j]?=some v) ∧
   ∀ j k,j<m→k<sz→∃ y,vs[j * sz+k]?=some y∧rel σ ((f (lo+j)).getD k .u) y:=by
 intro m
 induction m with
 | zero=>intro _;exact ⟨[],by simp,by simp,fun j k hj=>by omega⟩
 | succ m ih=>
  intro hm;obtain ⟨vs,h1,h2,h3⟩:=ih (by omega);obtain ⟨us,g1,g2,g3⟩:=zfw h (i:=lo+m) (k:=0) (n:=sz) (by simp only [SO.n];omega) (by simp [SO.sz]);refine ⟨vs++us,by simp [h1,g1,Nat.succ_mul],fun j v hj=>?_,fun j k hj hk=>?_⟩
  ·rw [List.getElem?_append] at hj;split at hj
   ·exact h2 j v hj
   ·have:=g2 _ v hj;rw [h1] at this;rename_i hge;rw [h1] at hge;have hsz:L.sz=sz:=h.lsz;rw [show L.sh+lo * L.sz+j=L.sh+(lo+m) * L.sz+0+(j-m * sz) by rw [hsz,Nat.add_mul];omega];exact this
  ·by_cases hjm:j<m
   ·obtain ⟨y,e1,e2⟩:=h3 j k hjm hk;have hb:j * sz+k<vs.length:=by
     rw [h1];have:j * sz+sz≤m * sz:=by rw [←Nat.succ_mul];exact Nat.mul_le_mul_right _ hjm
     omega
    exact ⟨y,by rw [List.getElem?_append_left hb];exact e1,e2⟩
   ·have hj':j=m:=by omega
    subst hj';have hb:us[k]?=some (us[k]'(by omega)):=List.getElem?_eq_getElem (by omega);refine ⟨_,by rw [List.getElem?_append_right (by omega),h1,show j * sz+k-j * sz=k by omega];exact hb, ?_⟩;have:=g3 k _ hb;simpa [SO.el] using this
theorem zkq {P:Program} {A:Amb} {σ:Asg} {st:St} {a:Act} {w:World} (hR:Rel A σ st a w) {sz:Nat} {u8:Bool} {dh:Nat} {x:SV} {v:Value} {K:Nat→(Nat→List SV)→Prop}
  (hv:rel σ x v) (h:xsrc st sz u8 dh x K):∃ m g,K m g∧SrcIs P σ w sz m g v:=by
 unfold xsrc at h;split at h
 ·refine ⟨0,_,h, ?_⟩;simp only [rel] at hv;subst hv;exact ⟨by simp [Builtin.lenOf],[],by simp,fun n'=>by simp [Builtin.firstCells],by simp,fun j k hj=>by omega⟩
 ·rename_i l;obtain ⟨hu,rfl,h⟩:=h;refine ⟨_,_,h, ?_⟩;simp only [rel] at hv;subst hv;refine ⟨by simp [Builtin.lenOf,z24],l.map fun b=>.int .u8 b.toNat,by simp,fun n'=>?_,by simp [Value.oneCell'],fun j k hj hk=>?_⟩
  ·simp only [Builtin.firstCells,zm4,Sem.run_pure];simp
  ·have hk0:k=0:=by omega
   subst hk0;refine ⟨.int .u8 (l.getD j 0).toNat, ?_,by simp [rel]⟩;simp [hj]
 ·rename_i h' lo m;split at h
  ·rename_i ro sz' n f hob;obtain ⟨rfl,_,hall,h⟩:=h;obtain ⟨hn,h⟩:=h.out;refine ⟨_,_,h, ?_⟩;simp only [rel] at hv;obtain ⟨ad,cap,rfl,hl,hv⟩:=hv;by_cases hm0:m=0
   ·subst hm0;refine ⟨by simp [Builtin.lenOf],[],by simp,fun n'=>?_,by simp,fun j k hj=>by omega⟩;cases ad<;>simp [Builtin.firstCells,loadCells,loadCellsFrom]
   ·rcases hv with hv | ⟨L,hL,rfl,hav⟩
    ·omega
    rcases live_cells hR.sat hob rfl with ⟨h0,h1⟩ | ⟨L',c,e,fr,hL',hc⟩
    ·rw [h1] at hL;cases hL
    rw [hL'] at hL;cases hL;obtain ⟨vs,h1,h2,h3⟩:=zug hc lo m hn;refine ⟨by simp [Builtin.lenOf],vs,h1,fun n'=>?_,fun y hy=>?_,h3⟩
    ·have:=kx (P:=P) (w:={ w with drawn:=n' }) (off:=L.sh+lo * L.sz+0) hc.heap vs h2;rw [h1] at this;simpa [Builtin.firstCells,vp] using this
    ·obtain ⟨q,hq⟩:=List.mem_iff_getElem?.1 hy;have hql:q<m * sz':=by
      rcases Nat.lt_or_ge q vs.length with h | h
      ·omega
      ·rw [List.getElem?_eq_none h] at hq;cases hq
     have hszp:0<sz':=by
      rcases Nat.eq_zero_or_pos sz' with h | h
      ·subst h;simp at hql
      ·exact h
     have hj:q / sz'<m:=(Nat.div_lt_iff_lt_mul hszp).2 hql;obtain ⟨y',e1,e2⟩:=h3 (q / sz') (q % sz') hj (Nat.mod_lt _ hszp);rw [Nat.mul_comm,Nat.div_add_mod] at e1;rw [hq] at e1;cases e1;obtain ⟨ha,hb⟩:=hall (q / sz') hj;refine zfn ?_ e2;exact List.all_eq_true.1 ha _ (List.mem_of_getElem? (wv (by rw [hb];exact Nat.mod_lt _ hszp)))
  ·exact h.elim
 ·rename_i sz' l;obtain ⟨rfl,hall,h⟩:=h;refine ⟨_,_,h, ?_⟩;simp only [rel] at hv;obtain ⟨ad,cap,rfl,hl,hv⟩:=hv;rcases hv with hv | ⟨b,off,c,e,fr,rfl,hfz,hrr⟩
  ·subst hv;refine ⟨by simp [Builtin.lenOf],[],by simp,fun n'=>?_,by simp,fun j k hj=>by simp at hj⟩;cases ad<;>simp [Builtin.firstCells,loadCells,loadCellsFrom]
  ·have hget:∀ j k,j<l.length→k<sz'→∃ y,((c.toList.drop off).take (l.length * sz'))[j * sz'+k]?=some y∧rel σ ((l.getD j []).getD k .u) y:=by
    intro j k hj hk;obtain ⟨g1,g2⟩:=zdu hrr (j:=j) (x:=l.getD j []) (by simp [List.getD,List.getElem?_eq_getElem hj]);obtain ⟨y,e1,e2⟩:=ky g2 (j:=k) (x:=(l.getD j []).getD k .u) (wv (by rw [g1];exact hk));rw [List.getElem?_take,if_pos hk,List.getElem?_drop] at e1;have hb:j * sz'+k<l.length * sz':=by
     have:j * sz'+sz'≤l.length * sz':=by rw [←Nat.succ_mul];exact Nat.mul_le_mul_right _ hj
     omega
    exact ⟨y,by rw [List.getElem?_take,if_pos hb];exact e1,jo (⟨fun _ _ h=>(by cases h),fun _ _ h=>h⟩:leA σ.bare σ) e2⟩
   have hlen:((c.toList.drop off).take (l.length * sz')).length=l.length * sz':=by
    rcases Nat.eq_zero_or_pos (l.length * sz') with h0 | h0
    ·rw [h0];simp
    ·have hszp:0<sz':=Nat.pos_of_mul_pos_left h0;have hlp:0<l.length:=Nat.pos_of_mul_pos_right h0;obtain ⟨y,e1,_⟩:=hget (l.length-1) (sz'-1) (by omega) (by omega);obtain ⟨q1,_⟩:=List.getElem?_eq_some_iff.1 e1;have:(l.length-1) * sz'+(sz'-1)=l.length * sz'-1:=by
      obtain ⟨p,hp⟩:∃ p,l.length=p+1:=⟨l.length-1,by omega⟩
      rw [hp,Nat.succ_mul];simp;omega
     have h9:((c.toList.drop off).take (l.length * sz')).length≤l.length * sz':=by rw [List.length_take];omega
     omega
   refine ⟨by simp [Builtin.lenOf],(c.toList.drop off).take (l.length * sz'),hlen,fun n'=>?_,fun y hy=>?_,hget⟩
   ·have:=kx (P:=P) (w:={ w with drawn:=n' }) (off:=off) (hR.sat.frz _ _ hfz) ((c.toList.drop off).take (l.length * sz')) (fun j v hj=>by
     rw [List.getElem?_take] at hj;by_cases hjl:j<l.length * sz'
     ·rw [if_pos hjl,List.getElem?_drop] at hj;simpa using hj
     ·rw [if_neg hjl] at hj;simp at hj)
    rw [hlen] at this;simpa [Builtin.firstCells] using this
   ·obtain ⟨q,hq⟩:=List.mem_iff_getElem?.1 hy;have hql:q<l.length * sz':=by rw [←hlen];exact (List.getElem?_eq_some_iff.1 hq).1
    have hszp:0<sz':=Nat.pos_of_mul_pos_left (Nat.lt_of_le_of_lt (Nat.zero_le _) hql);have hj:q / sz'<l.length:=(Nat.div_lt_iff_lt_mul hszp).2 hql;obtain ⟨y',e1,e2⟩:=hget (q / sz') (q % sz') hj (Nat.mod_lt _ hszp);rw [Nat.mul_comm (q / sz'),Nat.div_add_mod] at e1;rw [hq] at e1;cases e1;obtain ⟨g1,_⟩:=zdu hrr (j:=q / sz') (x:=l.getD (q / sz') []) (by simp [List.getD,List.getElem?_eq_getElem hj]);refine zfn ?_ e2;refine List.all_eq_true.1 (hall (l.getD (q / sz') []) ?_) _ (List.mem_of_getElem? (wv (by rw [g1];exact Nat.mod_lt _ hszp)));simp only [List.getD_eq_getElem?_getD,List.getElem?_eq_getElem hj,Option.getD_some];exact List.getElem_mem hj
 ·exact h.elim
theorem zwe (n:Nat) (f g:Nat→List SV) (j k:Nat):(zfz n f g j).getD k .u=if j<n then (f j).getD k .u else (g (j-n)).getD k .u:=by unfold zfz;split<;>rfl
theorem growCap {need cap bytes:Nat} (h:cap<need) (hb:need * bytes≤140737488355328):¬(Builtin.nextslicecap need cap * bytes>2 ^ 48):=by have:=growslice_fits h hb;omega
/-- The old objects at handles stand where one is taken out of use. -/
theorem Rel.drop {A:Amb} {σ:Asg} {st:St} {a:Act} {w:World} (hR:Rel A σ st a w) (h:Nat):Rel A σ (st.setObj h none) a w:=by
 by_cases hlt:h<st.ctx.length
 ·have hat:∀ x,Ctx.at (st.ctx.set h none) x=if x=h then none else st.ctx.at x:=fun x=>zm5 _ _ _ _ hlt;refine ⟨hR.defers,hR.size,hR.env,⟨fun h1 o1 e=>?_,fun h1 h2 o1 o2 L1 L2 hne e1 e2 r s1 s2=>?_,fun h1 hh=>hR.sat.beyond h1 (by simpa [St.setObj] using hh),hR.sat.inHeap,hR.sat.frz,fun h1 o1 M e r s=>?_,hR.sat.glb⟩,hR.fr,fun h1 o1 M e r s=>?_,hR.base,by simpa [St.setObj] using hR.klen⟩
  ·simp only [St.setObj,hat] at e;split at e
   ·cases e
   ·exact hR.sat.obj h1 o1 e
  ·simp only [St.setObj,hat] at e1 e2;split at e1
   ·cases e1
   ·split at e2
    ·cases e2
    ·exact hR.sat.apart h1 h2 o1 o2 L1 L2 hne e1 e2 r s1 s2
  ·simp only [St.setObj,hat] at e;split at e
   ·cases e
   ·exact hR.sat.frzA h1 o1 M e r s
  ·simp only [St.setObj,hat] at e;split at e
   ·cases e
   ·exact hR.own h1 o1 M e r s
 ·have:st.setObj h none=st:=by unfold St.setObj;rw [List.set_eq_of_length_le (by omega)]
  rw [this];exact hR
/-- A handle for nothing: an empty row that lies nowhere. -/
theorem Rel.ghost {A:Amb} {σ:Asg} {st:St} {a:Act} {w:World} (hR:Rel A σ st a w) (sz:Nat) (f:Nat→List SV):Rel A σ (st.addObj (.row false sz 0 f)) a w:=by
 have hq:σ st.ctx.length=none:=hR.sat.beyond _ (Nat.le_refl _);refine ⟨hR.defers,hR.size,hR.env,⟨fun h1 o1 e=>?_,fun h1 h2 o1 o2 L1 L2 hne e1 e2 r s1 s2=>?_,fun h1 hh=>hR.sat.beyond h1 (by simp [St.addObj] at hh;omega),hR.sat.inHeap,hR.sat.frz,fun h1 o1 M e r s=>?_,hR.sat.glb⟩,hR.fr,fun h1 o1 M e r s=>?_,hR.base,by simp [St.addObj];have:=hR.klen;omega⟩
 ·simp only [St.addObj,zex] at e;split at e
  ·rename_i hh;cases e;unfold qc;exact .inl ⟨rfl,by rw [hh];exact hq⟩
  ·exact hR.sat.obj h1 o1 e
 ·simp only [St.addObj,zex] at e1 e2;split at e1
  ·rename_i hh;rw [hh,hq] at s1;cases s1
  ·split at e2
   ·rename_i hh;rw [hh,hq] at s2;cases s2
   ·exact hR.sat.apart h1 h2 o1 o2 L1 L2 hne e1 e2 r s1 s2
 ·simp only [St.addObj,zex] at e;split at e
  ·rename_i hh;rw [hh,hq] at s;cases s
  ·exact hR.sat.frzA h1 o1 M e r s
 ·simp only [St.addObj,zex] at e;split at e
  ·rename_i hh;rw [hh,hq] at s;cases s
  ·exact hR.own h1 o1 M e r s
theorem z02 {P:Program} {te:TE} (hte:vh P te) {xt:TypeId} (h:match tdOf te xt with | .slice _=>True | .str=>True | _=>False):∃ d,P.underlying xt=some d∧∀ k,d≠.int k:=by
 split at h
 ·rename_i e he;exact ⟨_,qz hte he,by intro k hk;cases hk⟩
 ·rename_i he;exact ⟨_,jy hte he,by intro k hk;cases hk⟩
 ·exact h.elim
theorem ua {P:Program} {te:TE} (hte:vh P te) {w w':World} {t e xt:TypeId} {ti:TI} (ht:tdOf te t=.slice e) (hti:te e=some ti) (hxt:match tdOf te xt with | .slice _=>True | .str=>True | _=>False)
  {base:Option Addr} {len cap m:Nat} {x:Value} (hm:(Builtin.lenOf x).run P w=.ok m w) (ty:TypeId) {vs:List Value} (hvs:(Builtin.firstCells ti.size m x).run P w=.ok vs.toArray w) (hfit:len+m≤cap)
  (hst:match base with | none=>w'=w | some a=>(storeCells (a.add (len * ti.size)) vs).run P w=.ok () w') :
  (Builtin.append_ #[t,xt] ty #[.slice base len cap,x]).run P w=.ok (.slice base (len+m) cap) w':=by
 obtain ⟨d,hd,hni⟩:=z02 hte hxt;obtain ⟨i,hi,hisz,hib,_⟩:=(hte e ti hti).info;unfold Builtin.append_;simp only [List.getElem?_toArray,List.getElem?_cons_zero,List.getElem?_cons_succ,Sem.run_bind,qj (qz hte ht),Result.andThen_ok,kw hte hti,qj hd,Sem.run_pure];cases d
 case int k=>exact absurd rfl (hni k)
 all_goals
  simp only [Bool.false_eq_true,if_false,Sem.run_bind,hm,Result.andThen_ok,Bool.not_false,if_true,if_pos hfit,hvs];cases base with
  | none=>subst hst;simp
  | some ad=>simp [hst]
theorem zax {P:Program} {te:TE} (hte:vh P te) {w:World} {t e xt:TypeId} {ti:TI} (ht:tdOf te t=.slice e) (hti:te e=some ti) (hxt:match tdOf te xt with | .slice _=>True | .str=>True | _=>False)
  {base:Option Addr} {len cap m:Nat} {x:Value} (hm:(Builtin.lenOf x).run P w=.ok m w) (ty:TypeId) {vs us:List Value} {z:Value} (hvs:∀ n,(Builtin.firstCells ti.size m x).run P { w with drawn:=n }=.ok vs.toArray { w with drawn:=n })
  (hus:∀ n,(Builtin.firstCells ti.size len (.slice base len cap)).run P { w with drawn:=n }=.ok us.toArray { w with drawn:=n }) (hfit:¬(len+m≤cap)) (hb:ti.bytes≠0)
  (hroom:(len+m) * ti.bytes≤140737488355328) (hz:∀ w,(zeroValue e).run P w=.ok z w) :
  ∃ nc,len+m≤nc∧(Builtin.append_ #[t,xt] ty #[.slice base len cap,x]).run P w=.ok (.slice (some ⟨w.heap.size,0,none⟩) (len+m) nc)
   { w with drawn:=w.drawn+1,heap:=w.heap.push (.cells (us.toArray++vs.toArray++Builtin.zeroCells z.cells (nc-(len+m))) e) }:=by
 obtain ⟨d,hd,hni⟩:=z02 hte hxt;obtain ⟨i,hi,hisz,hib,_⟩:=(hte e ti hti).info;refine ⟨(Question.appendCap (len+m) cap e).cut (w.tape w.drawn (Question.appendCap (len+m) cap e)),by simp only [Question.cut];omega, ?_⟩;have hg:=growCap (bytes:=ti.bytes) (show cap<len+m by omega) hroom;unfold Builtin.append_;simp only [List.getElem?_toArray,List.getElem?_cons_zero,List.getElem?_cons_succ,Sem.run_bind,qj (qz hte ht),Result.andThen_ok,kw hte hti,qj hd,Sem.run_pure];cases d
 case int k=>exact absurd rfl (hni k)
 all_goals
  simp only [Bool.false_eq_true,if_false,Sem.run_bind,hm,Result.andThen_ok,Bool.not_false,if_true,if_neg hfit,zah hi,hib,false_or,Sem.run_ite,hb,and_false,Sem.run_pure,if_neg hg,run_choose,Question.forced,run_askRoom,hus,hvs,hz,newRow,run_newObj]
/-- A new row,with room to spare,behind a draw. -/
theorem zmk {A:Amb} {σ:Asg} {st:St} {a:Act} {w:World} (hR:Rel A σ st a w) {e:TypeId} {cells:Array Value} {sz n cap:Nat} {f:Nat→List SV} (nd:Nat)
  (hcs:cells.size=cap * sz) (hn:n≤cap) (hc:∀ i k,i<n→k<sz→∃ v,cells[i * sz+k]?=some v∧rel σ ((f i).getD k .u) v) :
  ∃ σ',leA σ σ'∧rel σ' (.slc st.ctx.length 0 n) (.slice (some ⟨w.heap.size,0,none⟩) n cap)∧Rel A σ' (st.addObj (.row false sz n f)) a { w with drawn:=nd,heap:=w.heap.push (.cells cells e) }:=by
 obtain ⟨σ',w',h1,h2,h3,h4⟩:=znk (P:=default) (hR.drawn nd) (elem:=e) hcs hn hc;simp only [newRow,Sem.run_bind,run_newObj,Result.andThen_ok,Sem.run_pure,Result.ok.injEq,true_and] at h1;subst h1;exact ⟨σ',h2,h3,h4⟩
theorem zjs {σ:Asg} {sz len m nc:Nat} {f g:Nat→List SV} {us vs:List Value} {z:Array Value} (hu:us.length=len * sz) (hv:vs.length=m * sz) (hz:z.size=sz) (hnc:len+m≤nc)
  (h1:∀ j k,j<len→k<sz→∃ y,us[j * sz+k]?=some y∧rel σ ((f j).getD k .u) y) (h2:∀ j k,j<m→k<sz→∃ y,vs[j * sz+k]?=some y∧rel σ ((g j).getD k .u) y) :
  (us.toArray++vs.toArray++Builtin.zeroCells z (nc-(len+m))).size=nc * sz ∧
  ∀ i k,i<len+m→k<sz→∃ v,(us.toArray++vs.toArray++Builtin.zeroCells z (nc-(len+m)))[i * sz+k]?=some v∧rel σ ((zfz len f g i).getD k .u) v:=by
 refine ⟨?_,fun i k hi hk=>?_⟩
 ·simp only [Array.size_append,List.size_toArray,hu,hv,Builtin.zeroCells,Array.size_map,Array.size_range,hz];rw [←Nat.add_mul,←Nat.add_mul];congr 1;omega
 ·rw [zwe];have hb:i * sz+k<(us.toArray++vs.toArray).size:=by
   simp only [Array.size_append,List.size_toArray,hu,hv,←Nat.add_mul];have:i * sz+sz≤(len+m) * sz:=by rw [←Nat.succ_mul];exact Nat.mul_le_mul_right _ hi
   omega
  rw [Array.getElem?_append_left hb];by_cases hil:i<len
  ·rw [if_pos hil];obtain ⟨y,e1,e2⟩:=h1 i k hil hk;have hbl:i * sz+k<us.length:=by
    rw [hu];have:i * sz+sz≤len * sz:=by rw [←Nat.succ_mul];exact Nat.mul_le_mul_right _ hil
    omega
   refine ⟨y, ?_,e2⟩;rw [Array.getElem?_append_left (by simpa using hbl)];simpa using e1
  ·rw [if_neg hil];obtain ⟨y,e1,e2⟩:=h2 (i-len) k (by omega) hk;refine ⟨y, ?_,e2⟩;have hge:us.length≤i * sz+k:=by rw [hu];have:len * sz≤i * sz:=Nat.mul_le_mul_right _ (by omega);omega
   rw [Array.getElem?_append_right (by simpa using hge)];simp only [List.size_toArray,List.getElem?_toArray,hu];rw [show i * sz+k-len * sz=(i-len) * sz+k by rw [Nat.sub_mul];have:len * sz≤i * sz:=Nat.mul_le_mul_right _ (by omega);omega];exact e1
/-- An append to nil. -/
theorem append_nil {P:Program} {te:TE} (hte:vh P te) {A:Amb} {σ:Asg} {st:St} {a:Act} {w:World} (hR:Rel A σ st a w) {t e xt:TypeId} {ti:TI} (ht:tdOf te t=.slice e) (hti:te e=some ti)
  (hxt:match tdOf te xt with | .slice _=>True | .str=>True | _=>False) (hz:ti.zero.length=ti.size) (hb:ti.bytes≠0) {m:Nat} {g:Nat→List SV} {x:Value} (hs:SrcIs P σ w ti.size m g x) (ty:TypeId)
  (hroom:m * ti.bytes≤140737488355328) :
  ∃ v σ' w',(Builtin.append_ #[t,xt] ty #[.slice none 0 0,x]).run P w=.ok v w'∧leA σ σ'∧rel σ' (.slc st.ctx.length 0 m) v∧Rel A σ' (st.addObj (.row false ti.size m g)) a w':=by
 obtain ⟨vs,h1,h2,h3,h4⟩:=hs.vals;by_cases hm:m=0
 ·subst hm;refine ⟨.slice none 0 0,σ,w, ?_,leA.refl σ, ?_,hR.ghost _ _⟩
  ·exact ua hte ht hti hxt hs.len ty (by have:=h2 w.drawn;exact this) (Nat.le_refl _) rfl
  ·simp only [rel];exact ⟨none,0,rfl,Nat.le_refl _,.inl rfl⟩
 ·obtain ⟨z,hzr,_,hzs⟩:=znd hte (σ:=σ) hti hz;obtain ⟨nc,hnc,hrun⟩:=zax hte (w:=w) ht hti hxt (base:=none) (len:=0) (cap:=0) hs.len ty (us:=[]) h2 (fun n=>by simp [Builtin.firstCells]) (by omega) hb (by simpa using hroom) hzr;obtain ⟨p1,p2⟩:=zjs (σ:=σ) (len:=0) (f:=g) (us:=[]) (by simp) h1 hzs hnc (fun j k hj=>by omega) h4;obtain ⟨σ',q1,q2,q3⟩:=zmk hR (e:=e) (n:=m) (f:=g) (w.drawn+1) p1 (by omega) (fun i k hi hk=>by obtain ⟨v,r1,r2⟩:=p2 i k (by omega) hk;exact ⟨v,r1,by simpa [zfz] using r2⟩)
  refine ⟨_,σ',_,hrun,q1, ?_,q3⟩;simpa using q2
/-- An append to a row of its own. -/
theorem zx3 {P:Program} {te:TE} (hte:vh P te) {A:Amb} {σ:Asg} {st:St} {a:Act} {w:World} (hR:Rel A σ st a w) {t e xt:TypeId} {ti:TI} (ht:tdOf te t=.slice e) (hti:te e=some ti)
  (hxt:match tdOf te xt with | .slice _=>True | .str=>True | _=>False) (hz:ti.zero.length=ti.size) (hb:ti.bytes≠0) {h lo len n:Nat} {f:Nat→List SV} (hob:st.ctx.at h=some (.row false ti.size n f)) (hin:lo+len≤n)
  {m:Nat} {g:Nat→List SV} {s x:Value} (hsv:rel σ (.slc h lo len) s) (hs:SrcIs P σ w ti.size m g x) (ty:TypeId) (hroom:(len+m) * ti.bytes≤140737488355328) :
  ∃ v σ' w',(Builtin.append_ #[t,xt] ty #[s,x]).run P w=.ok v w'∧leA σ σ'∧rel σ' (.slc st.ctx.length 0 (len+m)) v∧Rel A σ' ((st.setObj h none).addObj (.row false ti.size (len+m) (zfz len (fun j=>f (lo+j)) g))) a w':=by
 obtain ⟨vs,h1,h2,h3,h4⟩:=hs.vals;have hlt:=zrl hob;simp only [rel] at hsv;obtain ⟨ad,cap,rfl,hl,hsv⟩:=hsv;have hlen':(st.setObj h none).ctx.length=st.ctx.length:=by simp [St.setObj]
 obtain ⟨z,hzr,_,hzs⟩:=znd hte (σ:=σ) hti hz
 -- the old elements,as they lie
 have old:∃ us:List Value,us.length=len * ti.size∧(∀ n,(Builtin.firstCells ti.size len (.slice ad len cap)).run P { w with drawn:=n }=.ok us.toArray { w with drawn:=n }) ∧
   ∀ j k,j<len→k<ti.size→∃ y,us[j * ti.size+k]?=some y∧rel σ ((f (lo+j)).getD k .u) y:=by
  by_cases hl0:len=0
  ·subst hl0;refine ⟨[],by simp,fun n=>?_,fun j k hj=>by omega⟩;cases ad<;>simp [Builtin.firstCells,loadCells,loadCellsFrom]
  ·rcases hsv with hsv | ⟨L,hL,rfl,hav⟩
   ·omega
   rcases live_cells hR.sat hob rfl with ⟨_,h0⟩ | ⟨L',c,e',fr,hL',hc⟩
   ·rw [h0] at hL;cases hL
   rw [hL'] at hL;cases hL;obtain ⟨us,g1,g2,g3⟩:=zug hc lo len hin;refine ⟨us,g1,fun n'=>?_,g3⟩;have:=kx (P:=P) (w:={ w with drawn:=n' }) (off:=L.sh+lo * L.sz+0) hc.heap us g2;rw [g1] at this;simpa [Builtin.firstCells,vp] using this
 obtain ⟨us,hu1,hu2,hu3⟩:=old;by_cases hfit:len+m≤cap
 ·by_cases hcap:cap=0
  ·have hl0:len=0:=by omega
   have hm0:m=0:=by omega
   subst hl0 hm0;refine ⟨.slice ad 0 cap,σ,w, ?_,leA.refl σ, ?_, ?_⟩
   ·have hvs:vs=[]:=List.length_eq_zero_iff.1 (by simpa using h1);refine ua hte ht hti hxt hs.len ty (by have:=h2 w.drawn;exact this) hfit ?_;cases ad with
    | none=>rfl
    | some ad=>simp [hvs,storeCells]
   ·simp only [rel];exact ⟨ad,cap,rfl,by omega,.inl hcap⟩
   ·exact (hR.drop h).ghost _ _
  ·rcases hsv with hsv | ⟨L,hL,rfl,hav⟩
   ·omega
   rcases live_cells hR.sat hob rfl with ⟨_,h0⟩ | ⟨L',c,e',fr,hL',hc⟩
   ·rw [h0] at hL;cases hL
   rw [hL'] at hL;cases hL;have hsz:L.sz=ti.size:=hc.lsz;have hbL:=hR.sat.inHeap h L hL';have hmul:(lo+cap) * ti.size=lo * ti.size+cap * ti.size:=Nat.add_mul _ _ _;have hmul2:len * ti.size+m * ti.size≤cap * ti.size:=by rw [←Nat.add_mul];exact Nat.mul_le_mul_right _ hfit
   have hroomc:=hc.room;rw [hsz,hmul] at hav;have hst:=uv (P:=P) (off:=L.sh+lo * ti.size+len * ti.size) vs 0 w c hc.heap h3 (by rw [h1];omega) (fun y hy hh=>by rcases hc.free rfl with h | h<;>omega);simp only [Nat.add_zero] at hst;have hnew:Rel A (zdj σ st.ctx.length ⟨L.b,L.sh+lo * ti.size,L.av-lo * ti.size,ti.size⟩) ((st.setObj h none).addObj (.row false ti.size (len+m) (zfz len (fun j=>f (lo+j)) g))) a
     { w with heap:=w.heap.setIfInBounds L.b (.cells (u1 c (L.sh+lo * ti.size+len * ti.size) vs) e' fr) }:=by
    have hq:σ st.ctx.length=none:=hR.sat.beyond _ (Nat.le_refl _);have hle:=zi9 (L:=⟨L.b,L.sh+lo * ti.size,L.av-lo * ti.size,ti.size⟩) hq;have hat:∀ y,Ctx.at (((st.setObj h none).addObj (.row false ti.size (len+m) (zfz len (fun j=>f (lo+j)) g))).ctx) y=if y=st.ctx.length then some (.row false ti.size (len+m) (zfz len (fun j=>f (lo+j)) g)) else if y=h then none else st.ctx.at y:=by
     intro y;simp only [St.addObj,zex,hlen',St.setObj,List.length_set];by_cases hy:y=st.ctx.length
     ·simp [hy]
     ·rw [if_neg hy,if_neg hy,zm5 _ _ _ _ hlt]
    have hother:∀ y o M,y≠h→st.ctx.at y=some o→σ y=some M→M.b≠L.b:=fun y o M hy ho hM=>Ne.symm (hR.sat.apart h y _ o L M (Ne.symm hy) hob ho rfl hL' hM);refine ⟨hR.defers,hR.size,fun t=>jo hle (hR.env t),⟨fun y o ey=>?_,fun y1 y2 o1 o2 L1 L2 hne e1 e2 r s1 s2=>?_,fun y hy=>?_,fun y M ey=>?_,fun b1 o1 e1=>?_,fun y o M ey r s=>?_,hR.sat.glb⟩, ?_,fun y o M ey r s=>?_,⟨fun y hy=>?_,hR.base.fzb,hR.base.fzn⟩, ?_⟩
    ·rw [hat] at ey;split at ey
     ·rename_i hy;cases ey;unfold qc;refine .inr ⟨⟨L.b,L.sh+lo * ti.size,L.av-lo * ti.size,ti.size⟩,u1 c (L.sh+lo * ti.size+len * ti.size) vs,e',fr,by simp [zdj,hy],⟨?_,rfl, ?_, ?_,fun i k hi hk=>?_,fun _=>?_⟩⟩
      ·simp only [jk,if_true,if_pos hbL]
      ·rw [x9];simp only;omega
      ·simp only [SO.n,SO.sz];rw [Nat.add_mul];omega
      ·simp only [SO.n,SO.sz,SO.el] at *;rw [ze7 _ _ _ _ (by rw [h1];omega),h1,zwe];by_cases hil:i<len
       ·rw [if_pos hil];obtain ⟨v,r1,r2⟩:=hc.cell (lo+i) k (by simp only [SO.n];omega) hk;have:i * ti.size+ti.size≤len * ti.size:=by rw [←Nat.succ_mul];exact Nat.mul_le_mul_right _ hil
        rw [if_neg (by omega)];refine ⟨v, ?_,jo hle r2⟩;simp only [SO.sz] at r1;rw [show L.sh+lo * ti.size+i * ti.size+k=L.sh+(lo+i) * ti.size+k by rw [Nat.add_mul];omega];exact r1
       ·rw [if_neg hil];obtain ⟨v,r1,r2⟩:=h4 (i-len) k (by omega) hk;have hmi:(i-len) * ti.size+ti.size≤m * ti.size:=by rw [←Nat.succ_mul];exact Nat.mul_le_mul_right _ (by omega)
        have hsub:i * ti.size=len * ti.size+(i-len) * ti.size:=by rw [←Nat.add_mul];congr 1;omega
        rw [if_pos (by omega)];refine ⟨v, ?_,jo hle r2⟩;rw [show L.sh+lo * ti.size+i * ti.size+k-(L.sh+lo * ti.size+len * ti.size)=(i-len) * ti.size+k by omega];exact r1
      ·rw [x9];exact hc.free rfl
     ·rename_i hy;split at ey
      ·cases ey
      ·rename_i hyh;refine jj hle (by simp [zdj,hy]) (fun M hM=>?_) (hR.sat.obj y o ey);simp only [jk,if_neg (hother y o M hyh ey hM)]
    ·rw [hat] at e1 e2;simp only [zdj] at s1 s2;split at e1
     ·rename_i hy1;rw [if_pos hy1] at s1;cases s1;split at e2
      ·rename_i hy2;omega
      ·rename_i hy2;rw [if_neg hy2] at s2;split at e2
       ·cases e2
       ·rename_i hyh;exact Ne.symm (hother y2 o2 L2 hyh e2 s2)
     ·rename_i hy1;rw [if_neg hy1] at s1;split at e1
      ·cases e1
      ·rename_i hyh1;split at e2
       ·rename_i hy2;rw [if_pos hy2] at s2;cases s2;exact hother y1 o1 L1 hyh1 e1 s1
       ·rename_i hy2;rw [if_neg hy2] at s2;split at e2
        ·cases e2
        ·exact hR.sat.apart y1 y2 o1 o2 L1 L2 hne e1 e2 r s1 s2
    ·simp only [St.addObj,St.setObj,List.length_append,List.length_set,List.length_singleton] at hy;simp only [zdj,if_neg (show y≠st.ctx.length by omega)];exact hR.sat.beyond y (by omega)
    ·simp only [zdj] at ey;simp only [Array.size_setIfInBounds];split at ey
     ·cases ey;exact hbL
     ·exact hR.sat.inHeap y M ey
    ·have hne:b1≠L.b:=fun hh=>by rw [hh,zr2,hR.sat.frzA h _ L hob rfl hL'] at e1;cases e1
     simp only [jk,if_neg hne];exact hR.sat.frz b1 o1 e1
    ·rw [hat] at ey;rw [zr2];simp only [zdj] at s;split at ey
     ·rename_i hy;rw [if_pos hy] at s;cases s;exact hR.sat.frzA h _ L hob rfl hL'
     ·rename_i hy;rw [if_neg hy] at s;split at ey
      ·cases ey
      ·exact hR.sat.frzA y o M ey r s
    ·refine ⟨hR.fr.os,hR.fr.tape,hR.fr.output,by simpa using hR.fr.size,fun b hb' hd=>?_⟩;simp only [jk];rw [if_neg]
     ·exact hR.fr.block b hb' hd
     ·intro ee;subst ee;rcases hR.own h _ L hob rfl hL' with q | q
      ·exact hd q
      ·omega
    ·rw [hat] at ey;simp only [zdj] at s;split at ey
     ·rename_i hy;rw [if_pos hy] at s;cases s;exact hR.own h _ L hob rfl hL'
     ·rename_i hy;rw [if_neg hy] at s;split at ey
      ·cases ey
      ·exact hR.own y o M ey r s
    ·have:=hR.klen;simp only [zdj,if_neg (show y≠st.ctx.length by omega)];exact hR.base.loc y hy
    ·simp only [St.addObj,St.setObj,List.length_append,List.length_set];have:=hR.klen;omega
   refine ⟨_,_,_,ua hte ht hti hxt hs.len ty (by have:=h2 w.drawn;exact this) hfit ?_,zi9 (hR.sat.beyond _ (Nat.le_refl _)), ?_,hnew⟩
   ·simp only [vp,zez,hsz,Nat.add_zero];exact hst
   ·simp only [rel];refine ⟨_,_,rfl,hfit,.inr ⟨⟨L.b,L.sh+lo * ti.size,L.av-lo * ti.size,ti.size⟩,by simp [zdj], ?_, ?_⟩⟩
    ·simp [vp,hsz]
    ·simp only [Nat.zero_add];omega
 ·obtain ⟨nc,hnc,hrun⟩:=zax hte (w:=w) ht hti hxt (base:=ad) (len:=len) (cap:=cap) hs.len ty (us:=us) h2 hu2 hfit hb hroom hzr;obtain ⟨p1,p2⟩:=zjs (σ:=σ) (f:=fun j=>f (lo+j)) hu1 h1 hzs hnc hu3 h4;obtain ⟨σ',q1,q2,q3⟩:=zmk (hR.drop h) (e:=e) (n:=len+m) (f:=zfz len (fun j=>f (lo+j)) g) (w.drawn+1) p1 hnc p2;rw [hlen'] at q2;exact ⟨_,σ',_,hrun,q1,q2,q3⟩
/-- A row's block marked behind its end: no cell is touched. -/
theorem zxn {P:Program} {te:TE} (hte:vh P te) {A:Amb} {σ:Asg} {st:St} {a:Act} {w:World} (hR:Rel A σ st a w) {t e:TypeId} (ht:tdOf te t=.slice e) (hu:xl te e=true) {h lo len sz n:Nat} {f:Nat→List SV}
  (hob:st.ctx.at h=some (.row false sz n f)) (hlen:0<len) {v:Value} (hv:rel σ (.slc h lo len) v) :
  ∃ w',(convert t t v).run P w=.ok v w'∧Rel A σ st a w':=by
 simp only [rel] at hv;obtain ⟨ad,cap,rfl,hl,hv⟩:=hv;rcases hv with hv | ⟨L,hL,rfl,hav⟩
 ·omega
 rcases live_cells hR.sat hob rfl with ⟨_,h0⟩ | ⟨L',c,e',fr,hL',hc⟩
 ·rw [h0] at hL;cases hL
 rw [hL'] at hL;cases hL;have hb:=hR.sat.inHeap h L hL';have hshape:w.shape? L.b=some (e',c.size):=by simp [World.shape?,hc.heap]
 have hfz:w.freeze ⟨L.b,c.size,none⟩ 1={ w with heap:=w.heap.setIfInBounds L.b (.cells c e' (if fr.1==fr.2 then (c.size,c.size+1) else (min fr.1 c.size,max fr.2 (c.size+1)))) }:=by
  simp only [World.freeze,Nat.succ_ne_zero,if_false];congr 1;apply Array.ext_getElem?;intro j;rw [Array.getElem?_modify,jk];by_cases hj:L.b=j
  ·subst hj;rw [if_pos rfl,if_pos rfl,if_pos hb,hc.heap];obtain ⟨f1,f2⟩:=fr;simp
  ·rw [if_neg hj,if_neg (Ne.symm hj)]
 refine ⟨{ w with heap:=w.heap.setIfInBounds L.b (.cells c e' (if fr.1==fr.2 then (c.size,c.size+1) else (min fr.1 c.size,max fr.2 (c.size+1)))) }, ?_, ?_⟩
 ·have h1:P.underlying e=some (.int .u8):=vq hte (zhn hu);simp only [convert,Sem.run_bind,qj (qz hte ht),Result.andThen_ok,beq_self_eq_true,qj h1,markStringish,run_shape,vp,hshape,run_freeze,hfz,Sem.run_pure]
 ·have hset:(st.setObj h (some (.row false sz n f)))=st:=by
   unfold St.setObj;have hlt:=zrl hob;have:st.ctx.set h (some (.row false sz n f))=st.ctx:=by
    have h1:st.ctx[h]?=some (some (.row false sz n f)):=by unfold Ctx.at at hob;rw [List.getD_eq_getElem?_getD,List.getElem?_eq_getElem hlt] at hob;rw [List.getElem?_eq_getElem hlt];simpa using hob
    apply List.ext_getElem?;intro j;rw [List.getElem?_set];split
    ·rename_i hj;subst hj;rw [h1]
    ·rfl
   rw [this]
  have:=hR.write (o':=.row false sz n f) hob rfl rfl hL' (.cells c e' (if fr.1==fr.2 then (c.size,c.size+1) else (min fr.1 c.size,max fr.2 (c.size+1)))) (by
   unfold qc;refine .inr ⟨L,c,e',(if fr.1==fr.2 then (c.size,c.size+1) else (min fr.1 c.size,max fr.2 (c.size+1))),hL',⟨by simp only [jk,if_true,if_pos hb],hc.lsz,hc.room,hc.fits,hc.cell,fun _=>?_⟩⟩;right;rcases hc.free rfl with h1 | h1
   ·simp [h1]
   ·split
    ·exact Nat.le_refl _
    ·simp;omega)
  rw [hset] at this;exact this
theorem zdp {P:Program} {s:Sem Unit} {w w':World} (h:s.run P w=.ok () w'):((do s;pure .skip):Sem Next).run P w=.ok .skip w':=by simp [h]
theorem zng {P:Program} {te:TE} (hte:vh P te) {A:Amb} {σ:Asg} {st:St} {a:Act} {w:World} (hR:Rel A σ st a w) {t xt:TypeId} (hxt:match tdOf te xt with | .slice _=>True | .str=>True | _=>False)
  {s x:SV} {vs vx:Value} (hs:rel σ s vs) (hx:rel σ x vx) {K:SV→St→Prop} (ty:TypeId) (h:znh te st t s x K) :
  ∃ z st' v σ' w',K z st'∧(Builtin.append_ #[t,xt] ty #[vs,vx]).run P w=.ok v w'∧leA σ σ'∧rel σ' z v∧Rel A σ' st' a w':=by
 unfold znh at h;split at h
 ·rename_i e ht;split at h
  ·rename_i ti hti;obtain ⟨hz,hb,h⟩:=h;split at h
   ·obtain ⟨m,g,h,hsrc⟩:=zkq (P:=P) hR hx h;obtain ⟨hroom,h⟩:=h.out;simp only [rel] at hs;subst hs;obtain ⟨v,σ',w',h1,h2,h3,h4⟩:=append_nil hte hR ht hti hxt hz hb hsrc ty hroom;exact ⟨_,_,v,σ',w',h,h1,h2,h3,h4⟩
   ·rename_i hh lo len;split at h
    ·rename_i sz' n f hob;obtain ⟨rfl,h⟩:=h;obtain ⟨m,g,h,hsrc⟩:=zkq (P:=P) hR hx h;obtain ⟨⟨hin,hroom⟩,h⟩:=h.out;obtain ⟨v,σ',w',h1,h2,h3,h4⟩:=zx3 hte hR ht hti hxt hz hb hob hin hs hsrc ty hroom;exact ⟨_,_,v,σ',w',h,h1,h2,h3,h4⟩
    ·exact h.elim
   ·exact h.elim
  ·exact h.elim
 ·exact h.elim
theorem zwz {P:Program} {te:TE} (hte:vh P te) {A:Amb} {σ:Asg} {st:St} {a:Act} {w:World} (hR:Rel A σ st a w) {o:Oper} {K:SV→St→Prop}
  (h:zkr te st o.op K):OutM P A σ a w (execOp a.eval o) K:=by
 obtain ⟨dst,op,ty,pos,after,guard⟩:=o;simp only at h ⊢;unfold zkr at h;split at h
 case h_1 t=>
  split at h
  ·rename_i ti hti;obtain ⟨v,σ',w',h1,h2,h3,h4⟩:=ztb hte hR hti;exact ⟨_,_,v,σ',w',h,.inl (wg h1),h2,h3,h4⟩
  ·exact h.elim
 case h_2 t x=>
  obtain ⟨hok,h⟩:=h;obtain ⟨v,σ',w',h1,h2,h3,h4⟩:=z2v (P:=P) hR (t:=t) hok (hR.ev x);exact ⟨_,_,v,σ',w',h,.inl (wg h1),h2,h3,h4⟩
 case h_3 t x y=>
  split at h
  ·rename_i hh i k hx;split at h
   ·rename_i ob ti hob hti;obtain ⟨hm,hro,hok,hlen,hall,hel,hk,h⟩:=h;obtain ⟨hi,h⟩:=h.out;obtain ⟨w',h1,h2⟩:=zr5 hte hR hti hob hm hro hi hok hlen hall hel hk (by have:=hR.ev x;rw [hx] at this;exact this) (hR.ev y);exact ⟨_,_,undef,σ,w',h,.inr ⟨zdp h1,rfl⟩,leA.refl σ,by simp [rel],h2⟩
   ·exact h.elim
  ·exact h.elim
 case h_4 t r=>
  obtain ⟨hr,h⟩:=h;have hrun:∀ kt vt,tdOf te t=.map kt vt→(Instr.makeMap t (r.map a.eval)).run P w=.ok (.map (some w.heap.size)) { w with heap:=w.heap.push (.map #[] 0) }:=by
   intro kt vt ht;cases r with
   | none=>simp [Instr.makeMap]
   | some x=>
    simp only at hr;split at hr
    ·rename_i k n hx;have:=hR.ev x;rw [hx] at this;simp only [rel] at this;simp [Instr.makeMap,qj (zr3 hte ht),this,asInt,asIntOf]
    ·exact hr.elim
  split at h
  ·rename_i kt vt ht;split at h
   ·obtain ⟨σ',h1,h2,h3⟩:=zeo (P:=P) hR (.mapS []) rfl rfl rfl;exact ⟨_,_,_,σ',_,h,.inl (wg (hrun kt vt ht)),h1,h2,h3⟩
   ·obtain ⟨σ',h1,h2,h3⟩:=zeo (P:=P) hR (.mapI []) rfl rfl rfl;exact ⟨_,_,_,σ',_,h,.inl (wg (hrun kt vt ht)),h1,h2,h3⟩
   ·exact h.elim
  ·exact h.elim
 case h_5 t m k x=>
  split at h
  ·rename_i hh s v kt vt hm hk hx ht;split at h
   ·rename_i l hob;obtain ⟨hkt,h⟩:=h;have e1:=hR.ev m;have e2:=hR.ev k;have e3:=hR.ev x;rw [hm] at e1;rw [hk] at e2;rw [hx] at e3;simp only [rel] at e2 e3;obtain ⟨w',h1,h2⟩:=ur hte hR keyS ht (jy hte hkt) (o':=.mapS (zaw l s v)) (x:=v) hob rfl rfl rfl rfl rfl rfl e1;refine ⟨_,_,undef,σ,w',h,.inr ⟨zdp ?_,rfl⟩,leA.refl σ,by simp [rel],h2⟩;rw [e2,e3];exact h1
   ·exact h.elim
  ·rename_i hh s v kt vt hm hk hx ht;split at h
   ·rename_i l hob;obtain ⟨hkt,h⟩:=h;have e1:=hR.ev m;have e2:=hR.ev k;have e3:=hR.ev x;rw [hm] at e1;rw [hk] at e2;rw [hx] at e3;simp only [rel] at e2 e3;obtain ⟨w',h1,h2⟩:=ur hte hR keyI ht (vq hte hkt) (o':=.mapI (zaw l s v)) (x:=v) hob rfl rfl rfl rfl rfl rfl e1;refine ⟨_,_,undef,σ,w',h,.inr ⟨zdp ?_,rfl⟩,leA.refl σ,by simp [rel],h2⟩;rw [e2,e3];exact h1
   ·exact h.elim
  ·exact h.elim
 case h_6 t m k x=>
  split at h
  ·rename_i hh s v kt vt hm hk hx ht;split at h
   ·rename_i l hob;obtain ⟨hkt,h⟩:=h;have e1:=hR.ev m;have e2:=hR.ev k;have e3:=hR.ev x;rw [hm] at e1;rw [hk] at e2;rw [hx] at e3;simp only [rel] at e2 e3;obtain ⟨w',h1,h2⟩:=ur hte hR keyS ht (jy hte hkt) (o':=.mapS (zaw l s v)) (x:=v) hob rfl rfl rfl rfl rfl rfl e1;refine ⟨_,_,undef,σ,w',h,.inr ⟨zdp ?_,rfl⟩,leA.refl σ,by simp [rel],h2⟩;rw [e2,e3];exact h1
   ·exact h.elim
  ·rename_i hh s v kt vt hm hk hx ht;split at h
   ·rename_i l hob;obtain ⟨hkt,h⟩:=h;have e1:=hR.ev m;have e2:=hR.ev k;have e3:=hR.ev x;rw [hm] at e1;rw [hk] at e2;rw [hx] at e3;simp only [rel] at e2 e3;obtain ⟨w',h1,h2⟩:=ur hte hR keyI ht (vq hte hkt) (o':=.mapI (zaw l s v)) (x:=v) hob rfl rfl rfl rfl rfl rfl e1;refine ⟨_,_,undef,σ,w',h,.inr ⟨zdp ?_,rfl⟩,leA.refl σ,by simp [rel],h2⟩;rw [e2,e3];exact h1
   ·exact h.elim
  ·exact h.elim
 case h_7 t len parts=>
  split at h
  ·rename_i e ht;split at h
   ·rename_i ti hti;obtain ⟨hz,hlen,hall,h⟩:=h;split at h
    ·rename_i l hf;obtain ⟨v,σ',w',h1,h2,h3,h4⟩:=zha hte hR ht hti hz hlen (ps:=parts.toList.map fun p=>(p.1,st.ev p.2)) (vs:=parts.map fun p=>(p.1,a.eval p.2)) (by simp) (by intro j i x hj;simp only [List.getElem?_map,Option.map_eq_some_iff,Prod.mk.injEq] at hj;obtain ⟨p,hp,rfl,rfl⟩:=hj;refine ⟨a.eval p.2, ?_,List.all_eq_true.1 hall p (List.mem_of_getElem? hp),hR.ev p.2⟩;simp [hp]) hf
     exact ⟨_,_,v,σ',w',h,.inl (wg h1),h2,h3,h4⟩
    ·exact h.elim
   ·exact h.elim
  ·exact h.elim
 case h_8 t l c=>
  split at h
  ·rename_i e n m ht hl hc;split at h
   ·rename_i ti hti;obtain ⟨hz,h⟩:=h;obtain ⟨⟨b0,b1,b2,b3⟩,h⟩:=h.out;obtain ⟨v,σ',w',h1,h2,h3,h4⟩:=zi6 hte hR ht hti hz b0 b1 b2 b3;refine ⟨_,_,v,σ',w',h,.inl (wg ?_),h2,h3,h4⟩;have e1:=hR.ev l;have e2:=hR.ev c;rw [hl] at e1;rw [hc] at e2;simp only [rel] at e1 e2;rw [e1,e2];exact h1
   ·exact h.elim
  ·exact h.elim
 case h_9 s d x=>
  obtain ⟨rfl,h⟩:=h;split at h
  ·rename_i hh lo len e hx ht;obtain ⟨hu,hlen,hrow,h⟩:=h;split at hrow
   ·rename_i sz n f hob;have e1:=hR.ev x;rw [hx] at e1;obtain ⟨w',h1,h2⟩:=zxn hte hR ht hu hob hlen e1;exact ⟨_,_,_,σ,w',h,.inl (wg h1),leA.refl σ,e1,h2⟩
   ·exact hrow.elim
  ·exact h.elim
 case h_10 args ts=>
  split at h
  ·rename_i s x t xt ha hts;obtain ⟨hxt,h⟩:=h;have ha':args=#[s,x]:=by rw [←Array.toList_inj];simpa using ha
   have hts':ts=#[t,xt]:=by rw [←Array.toList_inj];simpa using hts
   subst ha' hts';obtain ⟨z,st',v,σ',w',hK,h1,h2,h3,h4⟩:=zng hte hR hxt (hR.ev s) (hR.ev x) ty h;refine ⟨z,st',v,σ',w',hK,.inl ?_,h2,h3,h4⟩;simp [execOp,resolve,invoke,builtin,h1]
  ·exact h.elim
 case h_11=>exact h.elim
end Go.Vg
end
