/-
  UR, US, UV, LTy, Dq, Dr, Ds, Du, Dsg, Dgl, Dgm, UW, US3, US4, UX, UX1, UXS, UX2, Bx, Bn, UYD (merged for the claim).
-/
import Derived.Test.YtjlkapdmgjocdaaGreatUQ
import Derived.ProofKit
import Derived.Attr
import Derived.Test.YtjlkapdmgjocdaaGreatProg
import Derived.Test.YtjlkapdmgjocdaaGreatUC
set_option linter.unusedSimpArgs false
set_option linter.unusedVariables false
namespace Go.Vl
open Go.RowKit
inductive TT where
 |bool
 |int (k:IntKind)
 |str
 |slc (e:TT)
 |agg (fs:List TT)
mutual
def TT.size:TT→Nat
 | .agg fs=>TT.sizes fs
 | .bool| .int _| .str| .slc _=>1
def TT.sizes:List TT→Nat
 | []=>0
 |f::fs=>f.size+TT.sizes fs
end
mutual
def TT.fits (P:Program):TT→TypeId→Bool
 | .bool,t=>match P.underlying t with
  |some .bool=>true
  |_=>false
 | .int k,t=>match P.underlying t with
  |some (.int k')=>decide (k'=k)
  |_=>false
 | .str,t=>match P.underlying t with
  |some .string=>true
  |_=>false
 | .slc e,t=>match P.underlying t with
  |some (.slice te)=>e.fits P te&&Nat.beq (P.cellsOf te) e.size&&Nat.ble 1 e.size
  |_=>false
 | .agg fs,t=>match P.underlying t with
  |some (.struct xs)=>TT.fitsL P fs xs.toList 0&&Nat.beq (P.cellsOf t) (TT.sizes fs)
  |_=>false
def TT.fitsL (P:Program):List TT→List Field→Nat→Bool
 | [],[],_=>true
 |f::fs,x::xs,off=>f.fits P x.type&&Nat.beq x.offset off&&Nat.beq (P.cellsOf x.type) f.size&&TT.fitsL P fs xs (off+f.size)
 |_,_,_=>false
end
def TT.mk:TT→List PV→PV
 | .agg _,cs=> .agg cs
 |_,cs=>cs.headD .undef
mutual
def Qbj:TT→List PV→Prop
 | .bool,cs=> ∃b,cs=[.bool b]
 | .int k,cs=> ∃n,cs=[.int k n]∧(Lit.int k n).wf=true
 | .str,cs=> ∃s:ByteArray,cs=[.str s]∧s.size≤maxLen
 | .slc e,cs=> ∃ess:List (List PV),cs=[.slc (ess.map e.mk)]∧ess.length≤maxLen∧ ∀c∈ess,Qbj e c
 | .agg fs,cs=>Qcq fs cs
def Qcq:List TT→List PV→Prop
 | [],cs=>cs=[]
 |f::fs,cs=> ∃a b,cs=a++b∧Qbj f a∧Qcq fs b
end
theorem Qog {e:TT} {c:List PV} (h:Qbj e c):(e.mk c).cells=c:=by
 cases e with
 |bool=>simp only [Qbj]at h;obtain⟨b,rfl⟩:=h;rfl
 |int k=>simp only [Qbj]at h;obtain⟨b,rfl,_⟩:=h;rfl
 |str=>simp only [Qbj]at h;obtain⟨b,rfl,_⟩:=h;rfl
 |slc e=>simp only [Qbj]at h;obtain⟨b,rfl,_⟩:=h;rfl
 |agg fs=>rfl
mutual
theorem Qbj.length: ∀{e:TT} {c:List PV},Qbj e c→c.length=e.size
 | .bool,c,h=>by simp only [Qbj]at h;obtain⟨b,rfl⟩:=h;simp [TT.size]
 | .int k,c,h=>by simp only [Qbj]at h;obtain⟨b,rfl,_⟩:=h;simp [TT.size]
 | .str,c,h=>by simp only [Qbj]at h;obtain⟨b,rfl,_⟩:=h;simp [TT.size]
 | .slc e,c,h=>by simp only [Qbj]at h;obtain⟨b,rfl,_⟩:=h;simp [TT.size]
 | .agg fs,c,h=>by simp only [Qbj]at h;simp only [TT.size];exact Qcq.length h
theorem Qcq.length: ∀{fs:List TT} {c:List PV},Qcq fs c→c.length=TT.sizes fs
 | [],c,h=>by simp only [Qcq]at h;subst h;simp [TT.sizes]
 |f::fs,c,h=>by
  simp only [Qcq]at h
  obtain⟨a,b,rfl,h1,h2⟩:=h
  simp only [TT.sizes,List.length_append,h1.length,h2.length]
end
def exIm (w:World):Im:=fun g j=> ∃u,w.cell? ⟨g,j,none⟩=some u
section
variable {H:Type} {enc:TypeId×Value→H} {P:Program} {w:World} {base:Nat} {held:Bool}
theorem Qni {im:Im} {A:Option Addr} {c:Nat} (hm:c≤maxLen):Rep w im (.slc []) (.slice A 0 c):=by
 cases A with
 |none=>exact .slcNil c hm
 |some p=>exact .slcE p c hm
mutual
theorem Qkx: ∀(tt:TT) (t:TypeId) (fuel:Nat) (cs:List Value) (x:DataW H×List MemPlace),tt.fits P t=true→DataW.trod enc P w base (fun _=>true) held fuel t cs=some x→
  ∃pvs,RepL w (exIm w) pvs cs∧Qbj tt pvs
 | .bool,t,fuel,cs,x,hf,h=>by
  simp only [TT.fits]at hf
  split at hf
  ·rename_i ht
   obtain⟨b,rfl,_⟩:=DataW.trod_bool ht h
   exact⟨[.bool b],.cons _ _ _ _ (.bool b) .nil,by simp [Qbj]⟩
  ·cases hf
 | .int k,t,fuel,cs,x,hf,h=>by
  simp only [TT.fits]at hf
  split at hf
  ·rename_i k' ht
   have hk:k'=k:=of_decide_eq_true hf
   subst hk
   obtain⟨n,rfl,_,hw⟩:=DataW.trod_int ht h
   exact⟨[.int k' n],.cons _ _ _ _ (.int _ n) .nil,by simp [Qbj,hw]⟩
  ·cases hf
 | .str,t,fuel,cs,x,hf,h=>by
  simp only [TT.fits]at hf
  split at hf
  ·rename_i ht
   obtain⟨s,rfl,_,hs⟩:=DataW.trod_string ht h
   exact⟨[.str s],.cons _ _ _ _ (.str s) .nil,by simp only [Qbj];exact⟨s,rfl,hs⟩⟩
  ·cases hf
 | .slc e,t,fuel,cs,x,hf,h=>by
  simp only [TT.fits]at hf
  split at hf
  ·rename_i te ht
   simp only [Bool.and_eq_true]at hf
   obtain⟨⟨hf1,hf2⟩,hf3⟩:=hf
   have hsz:=Nat.eq_of_beq_eq_true hf2
   have hpos:=Nat.le_of_ble_eq_true hf3
   rcases DataW.trod_slice ht h with⟨rfl,_⟩|⟨a,len,cap,elems,rest,n,_,rfl,_,_,hl,hm,hlen,hel,_,_⟩
   ·exact⟨[.slc []],.cons _ _ _ _ (.slcNil 0 (Nat.zero_le _)) .nil,by simp only [Qbj];exact⟨[],rfl,Nat.zero_le _,by simp⟩⟩
   ·rcases Nat.eq_zero_or_pos len with rfl|hpl
    ·exact⟨[.slc []],.cons _ _ _ _ (Qni hm) .nil,by simp only [Qbj];exact⟨[],rfl,Nat.zero_le _,by simp⟩⟩
    ·have each: ∀i,i<len→ ∃ci pi,w.cells? base (a.add (i*e.size)) e.size=some ci∧RepL w (exIm w) pi ci∧Qbj e pi:=by
      intro i hi
      have hi':=hel i hi
      rw [hsz]at hi'
      have hs:elems[i]? =some elems[i]:=List.getElem?_eq_getElem (by omega)
      rw [hs,Option.bind_eq_some_iff]at hi'
      obtain⟨ci,h1,h2⟩:=hi'
      obtain⟨pi,h3,h4⟩:=Qkx e te n ci _ hf1 h2
      exact⟨ci,pi,h1,h3,h4⟩
     obtain⟨g,off,rfl⟩: ∃g off,a=⟨g,off,none⟩:=by
      obtain⟨c0,p0,h1,h2,h3⟩:=each 0 hpl
      obtain⟨_,hl0,hc0⟩:=World.cells?_some h1
      have h00:=hc0 0 (by omega)
      have:c0[0]? =some c0[0]:=List.getElem?_eq_getElem (by omega)
      rw [this]at h00
      have hsp:=World.cell?_spot h00
      simp [Addr.add]at hsp
      obtain⟨g,off,sp⟩:=a
      simp at hsp
      subst hsp
      exact⟨g,off,rfl⟩
     have hadd: ∀j,(⟨g,off,none⟩:Addr).add j=⟨g,off+j,none⟩:=fun j=>by unfold Addr.add;split<;>simp_all
     have build: ∀k,k≤len→ ∃(ess:List (List PV)) (vs:List Value),ess.length=k∧vs.length=k*e.size∧RepL w (exIm w) ((ess.map e.mk).flatMap PV.cells) vs∧(∀j,j<vs.length→w.cell? ⟨g,off+j,none⟩=vs[j]?)∧ ∀c∈ess,Qbj e c:=by
      intro k
      induction k with
      |zero=>intro _;exact⟨[],[],rfl,by simp,.nil,by simp,by simp⟩
      |succ k ih=>
       intro hk
       obtain⟨ess,vs,e1,e2,e3,e4,e5⟩:=ih (by omega)
       obtain⟨ci,pi,h1,h2,h3⟩:=each k hk
       obtain⟨_,hl0,hc0⟩:=World.cells?_some h1
       refine⟨ess++[pi],vs++ci,by simp [e1],by simp [e2,hl0,Nat.succ_mul],?_,?_,?_⟩
       ·simp only [List.map_append,List.map_cons,List.map_nil,List.flatMap_append,List.flatMap_cons,List.flatMap_nil,List.append_nil,Qog h3]
        exact e3.append h2
       ·intro j hj
        by_cases hjv:j<vs.length
        ·rw [List.getElem?_append_left hjv];exact e4 j hjv
        ·rw [List.getElem?_append_right (by omega)]
         have hjc:j-vs.length<e.size:=by simp at hj;omega
         have:=hc0 (j-vs.length) hjc
         rw [hadd]at this
         have hadd2:(⟨g,off+k*e.size,none⟩:Addr).add (j-vs.length)=⟨g,off+k*e.size+(j-vs.length),none⟩:=by unfold Addr.add;split<;>simp_all
         rw [hadd2]at this
         rw [←this]
         congr 2
         omega
       ·intro c hc
        rcases List.mem_append.1 hc with hc|hc
        ·exact e5 c hc
        ·simp at hc;subst hc;exact h3
     obtain⟨ess,vs,e1,e2,e3,e4,e5⟩:=build len (Nat.le_refl _)
     refine⟨[.slc (ess.map e.mk)],.cons _ _ _ _ ?_ .nil,by simp only [Qbj];exact⟨ess,rfl,by omega,e5⟩⟩
     refine .slc _ g off len cap e.size vs (by simpa using e1) (by omega) ?_ ?_ e4 e3 hl
     ·intro x hx
      simp only [List.mem_map]at hx
      obtain⟨c,hc,rfl⟩:=hx
      rw [Qog (e5 c hc)]
      exact(e5 c hc).length
     ·intro j hj
      exact⟨vs[j],by rw [e4 j hj,List.getElem?_eq_getElem hj]⟩
  ·cases hf
 | .agg fs,t,fuel,cs,x,hf,h=>by
  simp only [TT.fits]at hf
  split at hf
  ·rename_i xs ht
   simp only [Bool.and_eq_true]at hf
   obtain⟨hf1,hf2⟩:=hf
   obtain⟨ys,n,rfl,_,hlen,hsz,hfl⟩:=DataW.trod_struct ht h
   have hall: ∀(i:Nat) (f:Field),xs.toList[i]? =some f→ ∃y,DataW.trod enc P w base (fun _=>true) held n f.type ((cs.drop f.offset).take (P.cellsOf f.type))=some y:=by
    intro i f hi
    have hi':xs[i]? =some f:=by simpa using hi
    have:=hfl i f hi'
    have hlt:i<ys.length:=by rw [hsz];exact(Array.getElem?_eq_some_iff.1 hi').1
    rw [List.getElem?_eq_getElem hlt]at this
    exact⟨_,this⟩
   obtain⟨pvs,h1,h2⟩:=Qmc fs xs.toList 0 n cs hf1 hall (by rw [hlen,Nat.eq_of_beq_eq_true hf2];simp)
   exact⟨pvs,by simpa using h1,by simp only [Qbj];exact h2⟩
  ·cases hf
theorem Qmc: ∀(fs:List TT) (xs:List Field) (off n:Nat) (cs:List Value),TT.fitsL P fs xs off=true→
  (∀(i:Nat) (f:Field),xs[i]? =some f→ ∃y,DataW.trod enc P w base (fun _=>true) held n f.type ((cs.drop f.offset).take (P.cellsOf f.type))=some y)→cs.length=off+TT.sizes fs→
  ∃pvs,RepL w (exIm w) pvs (cs.drop off)∧Qcq fs pvs
 | [],[],off,n,cs,hf,h,hl=>by
  simp only [TT.sizes]at hl
  refine⟨[],?_,by simp [Qcq]⟩
  rw [List.drop_of_length_le (by omega)]
  exact .nil
 | [],_::_,_,_,_,hf,_,_=>by simp [TT.fitsL]at hf
 |_::_,[],_,_,_,hf,_,_=>by simp [TT.fitsL]at hf
 |f::fs,x::xs,off,n,cs,hf,h,hl=>by
  simp only [TT.fitsL,Bool.and_eq_true]at hf
  obtain⟨⟨⟨hf1,hf2⟩,hf3⟩,hf4⟩:=hf
  have e2:=Nat.eq_of_beq_eq_true hf2
  have e3:=Nat.eq_of_beq_eq_true hf3
  simp only [TT.sizes]at hl
  obtain⟨y,hy⟩:=h 0 x (by simp)
  rw [e2,e3]at hy
  obtain⟨a,h1,h2⟩:=Qkx f x.type n _ y hf1 hy
  obtain⟨b,h3,h4⟩:=Qmc fs xs (off+f.size) n cs hf4 (fun i f hi=>h (i+1) f (by simpa using hi)) (by omega)
  refine⟨a++b,?_,by simp only [Qcq];exact⟨a,b,rfl,h2,h4⟩⟩
  have:cs.drop off=(cs.drop off).take f.size++cs.drop (off+f.size):=by
   rw [←List.drop_drop,List.take_append_drop]
  rw [this]
  exact h1.append h3
end
end
end Go.Vl

namespace Go.Vl
open Go.RowKit
section
variable {H:Type} {enc:TypeId×Value→H} {P:Program} {W W':World}
theorem Q1d {tt:TT} {t:TypeId} {v:Value} {d:DataW H} {ps:List MemPlace} {b:Nat} (hf:tt.fits P t=true) (hok:Value.okWide P W .any b t v) (h:DataW.Trod enc P W 0 (fun _=>true) true t v d ps):
  ∃cs,Qbj tt cs∧Rep W (exIm W) (tt.mk cs) v:=by
 obtain⟨fuel,h⟩:=h
 obtain⟨pvs,h1,h2⟩:=Qkx tt t fuel _ _ hf h
 refine⟨pvs,h2,?_⟩
 have single:v.cells= #[v]→(∀fs,tt≠ .agg fs)→Rep W (exIm W) (tt.mk pvs) v:=by
  intro hv hn
  rw [hv]at h1
  have hl:=h1.length
  match pvs,hl with
  | [p],_=>
   cases h1 with
   |cons _ _ _ _ h t=>
    cases tt with
    |agg fs=>exact absurd rfl (hn fs)
    |_=>exact h
 cases tt with
 |bool=>
  simp only [TT.fits]at hf
  split at hf
  ·rename_i ht;obtain⟨x,rfl⟩:=WideShapes.okWide_bool ht hok;exact single rfl (by simp)
  ·cases hf
 |int k=>
  simp only [TT.fits]at hf
  split at hf
  ·rename_i ht;obtain⟨x,rfl⟩:=WideShapes.okWide_int ht hok;exact single rfl (by simp)
  ·cases hf
 |str=>
  simp only [TT.fits]at hf
  split at hf
  ·rename_i ht;obtain⟨x,rfl⟩:=WideShapes.okWide_string ht hok;exact single rfl (by simp)
  ·cases hf
 |slc e=>
  simp only [TT.fits]at hf
  split at hf
  ·rename_i te ht;obtain⟨x,y,z,rfl⟩:=WideShapes.okWide_slice ht hok;exact single rfl (by simp)
  ·cases hf
 |agg fs=>
  simp only [TT.fits]at hf
  split at hf
  ·rename_i xs ht
   obtain⟨cs,rfl,_⟩:=WideShapes.okWide_struct ht hok
   have:=Rep.agg pvs _ h1
   simp only [Value.cells,Array.toArray_toList]at this
   exact this
  ·cases hf
def Qnj:List TT→List PV→Prop
 | [],vs=>vs=[]
 |t::ts,vs=> ∃c rest,vs=t.mk c::rest∧Qbj t c∧Qnj ts rest
def Qgf (P:Program):List TT→List TypeId→Bool
 | [],[]=>true
 |tt::tts,t::ts=>tt.fits P t&&Qgf P tts ts
 |_,_=>false
theorem Qoh {b:Nat}: ∀(tts:List TT) (ts:List TypeId) (vs:List Value) (ds:List (DataW H)) (ps:List MemPlace),Qgf P tts ts=true→(∀(j:Nat) t v,ts[j]? =some t→vs[j]? =some v→Value.okWide P W .any b t v)→
  DataW.TrodAll enc P W 0 (fun _=>true) true ts vs ds ps→ ∃pvs,Qnj tts pvs∧RepL W (exIm W) pvs vs∧ds.length=tts.length
 | [],[],[],[],_,_,_,_=>⟨[],rfl,.nil,rfl⟩
 |tt::tts,t::ts,v::vs,d::ds,ps,hf,hok,h=>by
  simp only [Qgf,Bool.and_eq_true]at hf
  obtain⟨p,q,h1,h2,_⟩:=h
  obtain⟨c,h3,h4⟩:=Q1d hf.1 (hok 0 t v rfl rfl) h1
  obtain⟨pvs,h5,h6,h7⟩:=Qoh tts ts vs ds q hf.2 (fun j t v e1 e2=>hok (j+1) t v (by simpa using e1) (by simpa using e2)) h2
  exact⟨tt.mk c::pvs,⟨c,pvs,rfl,h3,h5⟩,.cons _ _ _ _ h4 h6,by simp [h7]⟩
 | [],_::_,_,_,_,hf,_,_=>by simp [Qgf]at hf
 |_::_,[],_,_,_,hf,_,_=>by simp [Qgf]at hf
 | [],[],[],_::_,_,_,_,h=>h.elim
 | [],[],_::_,_,_,_,_,h=>h.elim
 |_::_,_::_,[],_,_,_,_,h=>h.elim
 |_::_,_::_,_::_,[],_,_,_,h=>h.elim
theorem Qfx {sp:Nat→Bool} (hl:laidOutB P=true) (hb:Below W.heap.size W W'): ∀(ts:List TypeId) (vs:List Value) (ds:List (DataW H)) (ps:List MemPlace),(∀t∈ts,P.readableRec t=true∧t<P.types.size)→
  DataW.TrodAll enc P W 0 (fun _=>true) true ts vs ds ps→(∀p∈ps,p.block<W.heap.size)→(∀p∈ps,sp p.block=true)→DataW.TrodAll enc P W' 0 sp true ts vs ds ps
 | [],[],[],_,_,h,_,_=>h
 |t::ts,v::vs,d::ds,ps,ht,⟨p,q,h1,h2,e⟩,hlt,hs=>by
  subst e
  refine⟨p,q,?_,Qfx hl hb ts vs ds q (fun t h=>ht t (List.mem_cons_of_mem _ h)) h2 (fun x hx=>hlt x (List.mem_append_right _ hx)) (fun x hx=>hs x (List.mem_append_right _ hx)),rfl⟩
  exact WideElems.Trod_stays hl (ht t (by simp)).1 (ht t (by simp)).2 h1 (fun x hx=>hb.same (hlt x (List.mem_append_left _ hx))) (fun x hx=>hs x (List.mem_append_left _ hx))
 | [],[],_::_,_,_,h,_,_=>h.elim
 | [],_::_,_,_,_,h,_,_=>h.elim
 |_::_,[],_,_,_,h,_,_=>h.elim
 |_::_,_::_,[],_,_,h,_,_=>h.elim
theorem Qnk {fn:Func} {s:ChangeSpec} {apart fresh handsOn again:Bool} {args:Array Value} {ds gs:List (DataW H)} {before:List MemPlace} {tb:TypeId} (hl:laidOutB P=true) (hvars:s.vars=[]) (hres:fn.resultTypes= #[tb])
  (hbool:P.underlying tb=some .bool) (hts: ∀t∈fn.params.toList,P.readableRec t=true∧t<P.types.size) (hW:DataW.Whole enc P fn.params.toList s.vars apart W args.toList ds gs before)
  (hs:s.fn H (ds++gs)={results:=[.lit (.bool true)],args:=ds}) (hb:Below W.heap.size W W'):s.post enc P fn apart fresh handsOn again W args (.bool true) W':=by
 have hlt:=hW.lt
 have hW':=hW
 obtain⟨p,q,hA,hV,rfl,hz,hn⟩:=hW
 rw [hvars]at hV
 obtain⟨rfl,rfl⟩:=ChangeShapes.trodVars_none hV
 have hargs: ∀sp:Nat→Bool,(∀x∈p,sp x.block=true)→DataW.TrodAll enc P W' 0 sp true fn.params.toList args.toList ds p:=fun sp hsp=>
  Qfx hl hb _ _ _ _ hts hA (fun x hx=>hlt x (by simpa using hx)) hsp
 have hres': ∀(b:Nat) (sp:Nat→Bool) (hd:Bool),DataW.TrodAll enc P W' b sp hd fn.resultTypes.toList ((Value.bool true).resultList fn.resultTypes.size) [.lit (.bool true)] []:=by
  intro b sp hd
  rw [hres]
  exact ChangeShapes.trodAll_mk1 (shut_bool hbool true)
 have hok: ∀(j:Nat) (t:TypeId) (r:Value),fn.resultTypes[j]? =some t→((Value.bool true).resultList fn.resultTypes.size)[j]? =some r→Value.okWide P W' .any 0 t r:=ok_one hres rfl (okWide_bool_mk hbool true)
 have hvs: ∀sp:Nat→Bool,DataW.TrodVars enc P W' sp s.vars [] []:=fun sp=>by rw [hvars];rfl
 refine⟨ds,[],p++[],[],p,[],hW',?_,?_,?_,?_,fun _=>⟨hok,[.lit (.bool true)]++ds,[],([]++p)++[],⟨[]++p,[],?_,hvs _,rfl,?_,?_⟩,?_⟩⟩
 ·rw [hs];exact hres' _ _ _
 ·rw [hs];exact hargs _ fun x hx=>by simpa using hlt x (by simpa using hx)
 ·rw [hs];exact hvs _
 ·exact World.keptBut_mono (fun _ f=>f.elim) (hb.frame fun _=>False)
 ·exact ChangeShapes.trodAll_append (hargs _ fun _ _=>rfl) (hres' _ _ _)
 ·intro b off hp
  have hp':MemPlace.cell b off∈p:=by simpa using hp
  have:=hz b off (by simpa using hp')
  have hlt':=hlt _ (show MemPlace.cell b off∈p++[]by simpa using hp')
  rw [←this]
  exact hb.frozen hlt'
 ·intro ha
  have:=hn ha
  simpa using this
 ·intro x hx _
  simpa using hx
theorem Qqa {a:Assume} {C:Checked} {os:Os} {f:FuncId} {fn:Func} {s:ChangeSpec} {conds:List PathCond} {apart fresh handsOn again:Bool} {tb:TypeId} (tts:List TT)
  (own:ownKnob C.prog.godebug=none) (started:os.Started) (noInit:C.prog.inits.idxOf? f=none) (hfn:C.prog.funcs[f]? =some fn)
  (witness: ∃(w:World) (tape:Tape) (i:Input),w.os=os∧(w.forCall tape i).Shaped C.prog∧i.vars=[]∧Input.okWide C.prog (w.forCall tape i) .any w.heap.size f i∧
   s.pre6 enc C.prog fn conds apart (w.forCall tape i).memory i.args∧a.holds C.prog (lone (Frame.enter C.prog f i.args .normal) [] (w.forCall tape i)))
  (hl:laidOutB C.prog=true) (hvars:s.vars=[]) (hres:fn.resultTypes= #[tb]) (hbool:C.prog.underlying tb=some .bool) (hts:(fn.params.toList.all fun t=>C.prog.readableRec t&&decide (t<C.prog.types.size))=true)
  (hfit:Qgf C.prog tts fn.params.toList=true) (hs: ∀ds:List (DataW H),ds.length=tts.length→s.fn H ds={results:=[.lit (.bool true)],args:=ds})
  (hcl:callable C.prog f=true) (hnv:C.prog.globalNamed Qmo=none∧C.prog.globalNamed Qr2=none) (law: ∀pvs,Qnj tts pvs→Qan C.prog f pvs (.bool true)):
  ReturnsInHanded a C os f .any (s.pre6 enc C.prog fn conds apart) (s.post enc C.prog fn apart fresh handsOn again):=by
 refine returnsInHanded_of_change own started noInit hfn witness ?_
 intro W base args ds gs before hval hW _ _
 have hW':=hW
 obtain⟨p,q,hA,hV,rfl,hz,hn⟩:=hW
 rw [hvars]at hV
 obtain⟨rfl,rfl⟩:=ChangeShapes.trodVars_none hV
 obtain⟨pvs,h1,h2,h3⟩:=Qoh tts fn.params.toList args.toList ds p hfit (fun j t v e1 e2=>hval j t v (by simpa using e1) (by simpa using e2)) hA
 have hts': ∀t∈fn.params.toList,C.prog.readableRec t=true∧t<C.prog.types.size:=by
  intro t ht
  have:=List.all_eq_true.1 hts t ht
  simpa using this
 have hlay:Laid C.prog W.heap.size W:=by
  rintro nm tab (⟨rfl,_⟩|⟨rfl,_⟩) g hg
  ·rw [hnv.1]at hg;cases hg
  ·rw [hnv.2]at hg;cases hg
 have hcall:=((law pvs h1).resolve_right (fun x=>by rw [hcl]at x;cases x.1)).2 W (exIm W) args.toList W.heap.size (Nat.le_refl _) hlay h2 (fun g j x=>x)
 refine(by simpa using hcall:Calls C.prog f args W _).mono ?_
 rintro e W' ⟨v,rfl,hb,hr⟩
 have hv:v= .bool true:=by cases hr;rfl
 subst hv
 exact⟨_,rfl,Qnk hl hvars hres hbool hts' hW' (by rw [List.append_nil];exact hs ds h3) hb⟩
end
end Go.Vl

namespace Go.Vl
theorem Q4o:List.range 1=[0]:=rfl
theorem Q4p:List.range 2=[0,1]:=rfl
theorem Q4q:List.range 3=[0,1,2]:=rfl
theorem Q4r:List.range 4=[0,1,2,3]:=rfl
theorem Q4s:List.range 5=[0,1,2,3,4]:=rfl
theorem Q4t:List.range 6=[0,1,2,3,4,5]:=rfl
theorem Q4u:List.range 7=[0,1,2,3,4,5,6]:=rfl
theorem Q4v:List.range 8=[0,1,2,3,4,5,6,7]:=rfl
section
variable (cs:List PV) (b:Bool) (k:IntKind) (n:Int) (s:ByteArray) (e i o l:Nat) (f:FuncId) (a c:List PV)
theorem Q4w:(PV.agg cs).cells=cs:=rfl
theorem Q23:(PV.bool b).cells=[.bool b]:=rfl
theorem Q4x:(PV.int k n).cells=[.int k n]:=rfl
theorem Q4y:(PV.str s).cells=[.str s]:=rfl
theorem Q24:PV.nilS.cells=[.nilS]:=rfl
theorem Q25:PV.nilF.cells=[.nilF]:=rfl
theorem Q26:PV.nilI.cells=[.nilI]:=rfl
theorem Q4z:(PV.slc cs).cells=[.slc cs]:=rfl
theorem Q40:(PV.tup cs).cells=[.tup cs]:=rfl
theorem c_rp:(PV.rp cs).cells=[.rp cs]:=rfl
theorem c_bp:(PV.bp e i o l).cells=[.bp e i o l]:=rfl
theorem c_bs:(PV.bs e i o l).cells=[.bs e i o l]:=rfl
theorem c_fn:(PV.fn f a c).cells=[.fn f a c]:=rfl
theorem Q41:(PV.agg cs).okCell=false:=rfl
theorem Q27:(PV.bool b).okCell=true:=rfl
theorem Q42:(PV.int k n).okCell=true:=rfl
theorem Q43:(PV.str s).okCell=true:=rfl
theorem Q28:PV.nilS.okCell=true:=rfl
theorem Q29:PV.nilF.okCell=true:=rfl
theorem Q3a:PV.nilI.okCell=true:=rfl
theorem Q44:(PV.slc cs).okCell=true:=rfl
theorem Q45:(PV.tup cs).okCell=false:=rfl
theorem k_rp:(PV.rp cs).okCell=true:=rfl
theorem k_bp:(PV.bp e i o l).okCell=true:=rfl
theorem k_bs:(PV.bs e i o l).okCell=true:=rfl
theorem k_fn:(PV.fn f a c).okCell=true:=rfl
end
attribute [go_sem] Q4w Q23 Q4x Q4y Q24 Q25 Q26 Q4z Q40 c_rp c_bp c_bs c_fn Q41 Q27 Q42 Q43 Q28 Q29 Q3a Q44 Q45 k_rp k_bp k_bs k_fn Int.toNat_natCast Int.toNat_zero Int.le_refl
theorem Q1e (P:Program) (id:Nat) (bx:Bx) (fo:Operand) (xs0:Array Operand) (ts:Array TypeId) (f:FuncId) (first cap args:List PV):Qao P [] id (.call ⟨.value fo,xs0,ts⟩) (.fn f first cap::args) bx=
  M.bind (Qdo first) (fun x=> .bind (Qdt args) fun y=> .bind (Qdo cap) fun z=> .pure (.call f (x.1++y.1++z.1) (x.2++y.2++z.2))) bx:=rfl
attribute [go_sem] Q1e
theorem Qky (P:Program) (id:Nat) (bx:Bx) (T n:Nat) (parts:Array (Nat×Operand)) (vs:List PV):Qao P [] id (.buildSlice T n parts) vs bx=
  M.bind (.ok (parts.toList.map (·.1)==List.range n&&n≤1000)) (fun _=> .bind (.ofOpt (Qa6 P T)) fun E=> .bind (.ofOpt (Qap P E)) fun q=>
   .bind (.ofOpt (Qaw P E)) fun z=> .bind (.hard id) fun b=> .bind (Qdt vs) fun ys=>
   .bind (.ok (b.isNone&&z.cells.length==q.1&&ys.1.length==n&&(ys.1.all fun e=>e.cells.length==q.1&&Qar e.cells)&&0<q.1&&q.1≤1000)) fun _=>
   .pure (.done (.bs id q.1 0 n) (ys.2++[.new id {els:=ys.1,esz:=q.1,ety:=E,fro:=0,live:=true,arr:=true}]))) bx:=rfl
theorem Qtf (P:Program) (id:Nat) (bx:Bx) (asx:Array Operand) (ts:Array TypeId) (s x:PV):Qao P [] id (.call ⟨.builtin .append,asx,ts⟩) [s,x] bx=
  M.bind (.ofOpt ts[0]?) (fun t=> .bind (.ofOpt ts[1]?) fun t2=> .bind (.ok (ts.size==2)) fun _=>Qb7 P id t t2 s x) bx:=rfl
attribute [go_sem] Qky Qtf Qkv Qs6 Qfi appendD
theorem Qqb:(none:Option Operand).toArray= #[]:=rfl
theorem Qqc (x:Operand):(some x).toArray= #[x]:=rfl
attribute [go_sem] Qqb Qqc List.range_zero Nat.le_refl Nat.zero_le
attribute [go_sem] Q4k Q4l Q09 Q20 Q1a Q4m Q1b Q21 Qs9 Qp4 Qne Qta
attribute [go_sem] Q4n Q22 Qp5 Qnf Qw8 Qw9 Qtb Qkw Qma Qp6 Qtc Qtd
attribute [go_sem] Qp7 Qju Qp8 Qng Qxa Qnh Qp9 Q2x Qwu Qks Qkt Qku
attribute [go_sem] Qwz Qw0 Q0z Q3w Q00 Ql9 Qs3 Qs4 Q01 Q3x Q3y Q3z
attribute [go_sem] Q2y Qp3 Qnb Qw1 Qw2 Qw3 Qw4 Qi3 Qi4 Q02 Qi5 Qi6
attribute [go_sem] Qi7 Qip Qnc Qnd Qs5 Q30 Qw5 Q31 Q32 Qxl Qxm Q2z
attribute [go_sem] Qsz Qwv Qna Qww Qp2 Ql8 Q0x Q0y Qwx Qwy Qs0 Qs1 Qs2 Qgl Qgm Qei Qgn Qgo Box.put Box.fill
attribute [go_sem] Q03 Q33 Q34 Q35 Q36 Q37 Q38 Q39 b_or Q4a Q4b Q4c
attribute [go_sem] Q4d Q4e Q4f Q4g Q4h Q04 Q4i Q4j Qpx Qbm Qfs St.evs
attribute [go_sem] St.ev Op.operands Call.operands M.bind M.pure M.ofOpt M.ok M.soft M.hard Q2s Qm7 Q2u
attribute [go_sem] Qjs Qsv Q07 Qef lkp Qc8 Qcm Qbi Qbu Qa5 Qal Eff.on
attribute [go_sem] Qbl Eff.id Eff.hard Qpz Qcu Qkr Qin esc0 escS Qr3 escE Qo9 escL escC Qdo esc1
attribute [go_sem] Qdt Qb2 Vl.newVar Qar    PV.putCells PV.one Qfr Qsj Qpr Box.soft
attribute [go_sem] List.toList_toArray List.getElem?_toArray List.getElem?_cons_zero List.getElem?_cons_succ Option.bind_some Option.map_some Option.bind_none Option.map_none List.map_cons List.map_nil List.append_nil List.nil_append
attribute [go_sem] List.cons_append decide_true decide_false if_true if_false true_and and_true Bool.and_true Bool.true_and Bool.and_self beq_self_eq_true List.all_cons
attribute [go_sem] List.all_nil List.length_cons List.length_nil Nat.zero_add Nat.add_zero Nat.zero_mul List.drop_zero List.contains_cons gt_iff_lt ge_iff_le Option.isNone_none Option.isNone_some
attribute [go_sem] Array.toList_empty Array.append_empty Array.empty_append List.size_toArray List.take_zero List.push_toArray List.append_toArray Option.isSome_some Option.isSome_none List.drop_succ_cons List.take_succ_cons List.take_nil
attribute [go_sem] List.drop_nil List.getElem_cons_zero List.getElem_cons_succ Nat.not_lt_zero Bool.false_eq_true Bool.true_eq_false not_true_eq_false not_false_eq_true if_neg Nat.lt_irrefl Bool.not_true Bool.not_false
attribute [go_sem] Bool.and_false Bool.false_and Bool.or_false Bool.or_true Bool.false_or Bool.true_or List.flatMap_cons List.flatMap_nil List.set_cons_zero List.set_cons_succ beq_true beq_false
attribute [go_sem] Bool.true_beq Bool.false_beq eq_self Bool.not_not ite_self ne_eq Q2t Q2v Q3v Qbo Qbr Qb7
attribute [go_sem] Qja Qgj Qeh Qeb Qj4 Qhz Qmp Qfj Qda Box.over Qaj Qc9 Qr4
attribute [go_sem] Qpb Qjb Qpc Qdw Qdv Qhx Qnt Qdu Qcs Qpd Qpe Qhy Qg6 rlk land Qc0 ren0 Qae ren1 Qpa ren2
attribute [go_sem] Qf2 flatr Qlb Qlc flatc Qcn Box.ext Box.idr Qpf LENT YID List.zip_cons_cons List.zip_nil_left List.zip_nil_right
attribute [go_sem] Qw6 Qw7 Q05 Q06 Qv9 Qfh List.isEmpty_cons List.isEmpty_map
attribute [go_sem] Q4o Q4p Q4q Q4r Q4s Q4t Q4u Q4v Option.getD_some Option.getD_none
section
variable {vs vs':List (Nat×PV)} {bs bs':List (Nat×Box)} {o:List (List PV)} {y:Yl}
theorem Q1f (t b esz:Nat) (ety:TypeId) (hbL:Nat.blt b LENT=true) (ht:lkp vs t=some .nilS) (hb:lkp bs b=none) (hz:0<esz):
  Le (St.ofG vs bs o y) (St.ofG ((t,.bs b esz 0 0)::vs) ((b,{els:=[],esz:=esz,ety:=ety,fro:=0,live:=true,arr:=true})::bs) o y):=Q2w hbL ht hb hz
theorem Q1g (t b esz:Nat) (ety:TypeId) (hbL:Nat.blt b LENT=true) (ht:lkp vs t=some .nilS) (hb:lkp bs b=none) (hz:0<esz) (θ:List (Nat×Nat)) (hθ:Qm8 θ bs'=true)
  (hv:Qad θ ((t,.bs b esz 0 0)::vs) vs') (hbx:Qdj θ ((b,{els:=[],esz:=esz,ety:=ety,fro:=0,live:=true,arr:=true})::bs) bs'):Le (St.ofG vs bs o y) (St.ofG vs' bs' o y):=
 (Q1f t b esz ety hbL ht hb hz).trans (Qaq hθ hv hbx)
end
end Go.Vl

namespace Go.Proofs.YtjlkapdmgjocdaaGreat
open Go.Vl
theorem mixed:Tryz.prog.follows .mixedOrders=true:=by kernel_rfl
theorem Q3q:tyOk Tryz.prog 3=true:=by kernel_rfl
theorem Q10:Qa3 Tryz.prog 3=false:=by kernel_rfl
theorem Qq3:(Tryz.prog.info? 3).isSome=true:=by kernel_rfl
theorem Qyb:Qap Tryz.prog 3=some (1,8):=by kernel_rfl
theorem Qty:Tryz.prog.cellsOf 3=1:=by kernel_rfl
theorem Qyc:Qaw Tryz.prog 3=some (PV.int IntKind.i64 0):=by kernel_rfl
theorem Q11:Tryz.prog.underlying 3=some (.int .i64):=by kernel_rfl
theorem Q3r:tyOk Tryz.prog 4=true:=by kernel_rfl
theorem Q12:Qa3 Tryz.prog 4=false:=by kernel_rfl
theorem Qq4:(Tryz.prog.info? 4).isSome=true:=by kernel_rfl
theorem Qyd:Qap Tryz.prog 4=some (1,1):=by kernel_rfl
theorem Qtz:Tryz.prog.cellsOf 4=1:=by kernel_rfl
theorem Qye:Qaw Tryz.prog 4=some (PV.bool Bool.false):=by kernel_rfl
theorem Qyf:Tryz.prog.underlying 4=some .bool:=by kernel_rfl
theorem Q3s:tyOk Tryz.prog 5=true:=by kernel_rfl
theorem Q13:Qa3 Tryz.prog 5=false:=by kernel_rfl
theorem Qq5:(Tryz.prog.info? 5).isSome=true:=by kernel_rfl
theorem Qyg:Qap Tryz.prog 5=some (1,1):=by kernel_rfl
theorem Qt0:Tryz.prog.cellsOf 5=1:=by kernel_rfl
theorem Qyh:Qaw Tryz.prog 5=some (PV.int IntKind.u8 0):=by kernel_rfl
theorem Q14:Tryz.prog.underlying 5=some (.int .u8):=by kernel_rfl
theorem Q3t:tyOk Tryz.prog 9=true:=by kernel_rfl
theorem Q15:Qa3 Tryz.prog 9=false:=by kernel_rfl
theorem Qq6:(Tryz.prog.info? 9).isSome=true:=by kernel_rfl
theorem Qyi:Qap Tryz.prog 9=some (1,16):=by kernel_rfl
theorem Qt1:Tryz.prog.cellsOf 9=1:=by kernel_rfl
theorem Qyj:Qaw Tryz.prog 9=some (PV.str {data:={toList:=[]}}):=by kernel_rfl
theorem Qxj:Tryz.prog.underlying 9=some .string:=by kernel_rfl
theorem Qyk (s:ByteArray):Qa0 Tryz.prog 9 (.str s)=some (.int .i64 s.size):=by simp only [Qa0,Qxj]
theorem Q16:tyOk Tryz.prog 22=true:=by kernel_rfl
theorem Qyl:Qa3 Tryz.prog 22=false:=by kernel_rfl
theorem Qom:(Tryz.prog.info? 22).isSome=true:=by kernel_rfl
theorem Qt2:Qap Tryz.prog 22=some (1,24):=by kernel_rfl
theorem Qq7:Tryz.prog.cellsOf 22=1:=by kernel_rfl
theorem Qt3:Qaw Tryz.prog 22=some PV.nilS:=by kernel_rfl
theorem Qt4:Qa6 Tryz.prog 22=some 9:=by kernel_rfl
theorem Qe8:Tryz.prog.underlying 22=some (.slice 9):=by kernel_rfl
theorem Qt5 (es:List PV):Qa0 Tryz.prog 22 (.slc es)=some (.int .i64 es.length):=by simp only [Qa0,Qe8]
theorem Qt6:Qa0 Tryz.prog 22 .nilS=some (.int .i64 0):=by simp only [Qa0,Qe8]
theorem Qt7 (b e o n:Nat):Qa0 Tryz.prog 22 (.bs b e o n)=some (.int .i64 n):=by simp only [Qa0,Qe8]
theorem Q17:tyOk Tryz.prog 23=true:=by kernel_rfl
theorem Qym:Qa3 Tryz.prog 23=false:=by kernel_rfl
theorem Qon:(Tryz.prog.info? 23).isSome=true:=by kernel_rfl
theorem Qt8:Qap Tryz.prog 23=some (1,24):=by kernel_rfl
theorem Qq8:Tryz.prog.cellsOf 23=1:=by kernel_rfl
theorem Qt9:Qaw Tryz.prog 23=some PV.nilS:=by kernel_rfl
theorem Qua:Qa6 Tryz.prog 23=some 54:=by kernel_rfl
theorem Qe9:Tryz.prog.underlying 23=some (.slice 54):=by kernel_rfl
theorem Qub (es:List PV):Qa0 Tryz.prog 23 (.slc es)=some (.int .i64 es.length):=by simp only [Qa0,Qe9]
theorem Quc:Qa0 Tryz.prog 23 .nilS=some (.int .i64 0):=by simp only [Qa0,Qe9]
theorem Qud (b e o n:Nat):Qa0 Tryz.prog 23 (.bs b e o n)=some (.int .i64 n):=by simp only [Qa0,Qe9]
theorem Q18:tyOk Tryz.prog 24=true:=by kernel_rfl
theorem Qyn:Qa3 Tryz.prog 24=false:=by kernel_rfl
theorem Qoo:(Tryz.prog.info? 24).isSome=true:=by kernel_rfl
theorem Que:Qap Tryz.prog 24=some (1,24):=by kernel_rfl
theorem Qq9:Tryz.prog.cellsOf 24=1:=by kernel_rfl
theorem Quf:Qaw Tryz.prog 24=some PV.nilS:=by kernel_rfl
theorem Qug:Qa6 Tryz.prog 24=some 76:=by kernel_rfl
theorem Qfa:Tryz.prog.underlying 24=some (.slice 76):=by kernel_rfl
theorem Quh (es:List PV):Qa0 Tryz.prog 24 (.slc es)=some (.int .i64 es.length):=by simp only [Qa0,Qfa]
theorem Qui:Qa0 Tryz.prog 24 .nilS=some (.int .i64 0):=by simp only [Qa0,Qfa]
theorem Quj (b e o n:Nat):Qa0 Tryz.prog 24 (.bs b e o n)=some (.int .i64 n):=by simp only [Qa0,Qfa]
theorem Q19:tyOk Tryz.prog 26=true:=by kernel_rfl
theorem Qyo:Qa3 Tryz.prog 26=true:=by kernel_rfl
theorem Qop:(Tryz.prog.info? 26).isSome=true:=by kernel_rfl
theorem Quk:Qap Tryz.prog 26=some (3,72):=by kernel_rfl
theorem Qra:Tryz.prog.cellsOf 26=3:=by kernel_rfl
theorem Qul:Qaw Tryz.prog 26=some (PV.agg [PV.nilS,PV.nilS,PV.nilS]):=by kernel_rfl
theorem Qrb:buildable Tryz.prog 26=true:=by kernel_rfl
theorem Qyp:Qav Tryz.prog 26 0=some (0,22,1):=by kernel_rfl
theorem Qyq:Qaz Tryz.prog 26 0=some (0,1):=by kernel_rfl
theorem Qyr:Qav Tryz.prog 26 1=some (1,23,1):=by kernel_rfl
theorem Qys:Qaz Tryz.prog 26 1=some (1,1):=by kernel_rfl
theorem Qyt:Qav Tryz.prog 26 2=some (2,24,1):=by kernel_rfl
theorem Qyu:Qaz Tryz.prog 26 2=some (2,1):=by kernel_rfl
theorem Q2a:tyOk Tryz.prog 28=true:=by kernel_rfl
theorem Qyv:Qa3 Tryz.prog 28=true:=by kernel_rfl
theorem Qoq:(Tryz.prog.info? 28).isSome=true:=by kernel_rfl
theorem Qum:Qap Tryz.prog 28=some (2,16):=by kernel_rfl
theorem Qrc:Tryz.prog.cellsOf 28=2:=by kernel_rfl
theorem Qun:Qaw Tryz.prog 28=some (PV.agg [PV.int IntKind.i64 0,PV.int IntKind.i64 0]):=by kernel_rfl
theorem Qrd:buildable Tryz.prog 28=true:=by kernel_rfl
theorem Qyw:Qav Tryz.prog 28 0=some (0,3,1):=by kernel_rfl
theorem Qyx:Qaz Tryz.prog 28 0=some (0,1):=by kernel_rfl
theorem Qyy:Qav Tryz.prog 28 1=some (1,3,1):=by kernel_rfl
theorem Qyz:Qaz Tryz.prog 28 1=some (1,1):=by kernel_rfl
theorem Qy0:Qb3 Tryz.prog 28=some [1,1]:=by kernel_rfl
theorem Q2b:tyOk Tryz.prog 30=true:=by kernel_rfl
theorem Qy1:Qa3 Tryz.prog 30=true:=by kernel_rfl
theorem Qor:(Tryz.prog.info? 30).isSome=true:=by kernel_rfl
theorem Quo:Qap Tryz.prog 30=some (2,16):=by kernel_rfl
theorem Qre:Tryz.prog.cellsOf 30=2:=by kernel_rfl
theorem Qup:Qaw Tryz.prog 30=some (PV.agg [PV.int IntKind.i64 0,PV.int IntKind.i64 0]):=by kernel_rfl
theorem Qrf:buildable Tryz.prog 30=true:=by kernel_rfl
theorem Qy2:Qav Tryz.prog 30 0=some (0,3,1):=by kernel_rfl
theorem Qy3:Qaz Tryz.prog 30 0=some (0,1):=by kernel_rfl
theorem Qy4:Qav Tryz.prog 30 1=some (1,3,1):=by kernel_rfl
theorem Qy5:Qaz Tryz.prog 30 1=some (1,1):=by kernel_rfl
theorem Qy6:Qb3 Tryz.prog 30=some [1,1]:=by kernel_rfl
theorem Q2c:tyOk Tryz.prog 33=true:=by kernel_rfl
theorem Qy7:Qa3 Tryz.prog 33=false:=by kernel_rfl
theorem Qos:(Tryz.prog.info? 33).isSome=true:=by kernel_rfl
theorem Quq:Qap Tryz.prog 33=some (1,8):=by kernel_rfl
theorem Qrg:Tryz.prog.cellsOf 33=1:=by kernel_rfl
theorem Qur:Qaw Tryz.prog 33=some (PV.int IntKind.i64 0):=by kernel_rfl
theorem Qy8:Tryz.prog.underlying 33=some (.int .i64):=by kernel_rfl
theorem Q2d:tyOk Tryz.prog 40=true:=by kernel_rfl
theorem Qy9:Qa3 Tryz.prog 40=false:=by kernel_rfl
theorem Qot:(Tryz.prog.info? 40).isSome=true:=by kernel_rfl
theorem Qus:Qap Tryz.prog 40=some (1,8):=by kernel_rfl
theorem Qrh:Tryz.prog.cellsOf 40=1:=by kernel_rfl
theorem Qut:Qaw Tryz.prog 40=some (PV.int IntKind.i64 0):=by kernel_rfl
theorem Qza:Tryz.prog.underlying 40=some (.int .i64):=by kernel_rfl
theorem Q2e:tyOk Tryz.prog 44=true:=by kernel_rfl
theorem Qzb:Qa3 Tryz.prog 44=false:=by kernel_rfl
theorem Qou:(Tryz.prog.info? 44).isSome=true:=by kernel_rfl
theorem Quu:Qap Tryz.prog 44=some (1,24):=by kernel_rfl
theorem Qri:Tryz.prog.cellsOf 44=1:=by kernel_rfl
theorem Quv:Qaw Tryz.prog 44=some PV.nilS:=by kernel_rfl
theorem Quw:Qa6 Tryz.prog 44=some 30:=by kernel_rfl
theorem Qfb:Tryz.prog.underlying 44=some (.slice 30):=by kernel_rfl
theorem Qux (es:List PV):Qa0 Tryz.prog 44 (.slc es)=some (.int .i64 es.length):=by simp only [Qa0,Qfb]
theorem Quy:Qa0 Tryz.prog 44 .nilS=some (.int .i64 0):=by simp only [Qa0,Qfb]
theorem Quz (b e o n:Nat):Qa0 Tryz.prog 44 (.bs b e o n)=some (.int .i64 n):=by simp only [Qa0,Qfb]
theorem Q2f:tyOk Tryz.prog 49=true:=by kernel_rfl
theorem Qzc:Qa3 Tryz.prog 49=false:=by kernel_rfl
theorem Qov:(Tryz.prog.info? 49).isSome=true:=by kernel_rfl
theorem Qu0:Qap Tryz.prog 49=some (1,8):=by kernel_rfl
theorem Qrj:Tryz.prog.cellsOf 49=1:=by kernel_rfl
theorem Qu1:Qaw Tryz.prog 49=some PV.nilF:=by kernel_rfl
theorem Q2g:tyOk Tryz.prog 54=true:=by kernel_rfl
theorem Qzd:Qa3 Tryz.prog 54=true:=by kernel_rfl
theorem Qow:(Tryz.prog.info? 54).isSome=true:=by kernel_rfl
theorem Qu2:Qap Tryz.prog 54=some (3,24):=by kernel_rfl
theorem Qrk:Tryz.prog.cellsOf 54=3:=by kernel_rfl
theorem Qu3:Qaw Tryz.prog 54=some (PV.agg [PV.int IntKind.i64 0,PV.int IntKind.i64 0,PV.int IntKind.i64 0]):=by kernel_rfl
theorem Qrl:buildable Tryz.prog 54=true:=by kernel_rfl
theorem Qze:Qav Tryz.prog 54 0=some (0,3,1):=by kernel_rfl
theorem Qzf:Qaz Tryz.prog 54 0=some (0,1):=by kernel_rfl
theorem Qzg:Qav Tryz.prog 54 1=some (1,3,1):=by kernel_rfl
theorem Qzh:Qaz Tryz.prog 54 1=some (1,1):=by kernel_rfl
theorem Qzi:Qav Tryz.prog 54 2=some (2,3,1):=by kernel_rfl
theorem Qzj:Qaz Tryz.prog 54 2=some (2,1):=by kernel_rfl
theorem Qzk:Qb3 Tryz.prog 54=some [1,1,1]:=by kernel_rfl
theorem Q2h:tyOk Tryz.prog 60=true:=by kernel_rfl
theorem Qzl:Qa3 Tryz.prog 60=false:=by kernel_rfl
theorem Qox:(Tryz.prog.info? 60).isSome=true:=by kernel_rfl
theorem Qu4:Qap Tryz.prog 60=some (1,24):=by kernel_rfl
theorem Qrm:Tryz.prog.cellsOf 60=1:=by kernel_rfl
theorem Qu5:Qaw Tryz.prog 60=some PV.nilS:=by kernel_rfl
theorem Qu6:Qa6 Tryz.prog 60=some 91:=by kernel_rfl
theorem Qfc:Tryz.prog.underlying 60=some (.slice 91):=by kernel_rfl
theorem Qu7 (es:List PV):Qa0 Tryz.prog 60 (.slc es)=some (.int .i64 es.length):=by simp only [Qa0,Qfc]
theorem Qu8:Qa0 Tryz.prog 60 .nilS=some (.int .i64 0):=by simp only [Qa0,Qfc]
theorem Qu9 (b e o n:Nat):Qa0 Tryz.prog 60 (.bs b e o n)=some (.int .i64 n):=by simp only [Qa0,Qfc]
theorem Q2i:tyOk Tryz.prog 66=true:=by kernel_rfl
theorem Qzm:Qa3 Tryz.prog 66=false:=by kernel_rfl
theorem Qoy:(Tryz.prog.info? 66).isSome=true:=by kernel_rfl
theorem Qva:Qap Tryz.prog 66=some (1,24):=by kernel_rfl
theorem Qrn:Tryz.prog.cellsOf 66=1:=by kernel_rfl
theorem Qvb:Qaw Tryz.prog 66=some PV.nilS:=by kernel_rfl
theorem Qvc:Qa6 Tryz.prog 66=some 60:=by kernel_rfl
theorem Qfd:Tryz.prog.underlying 66=some (.slice 60):=by kernel_rfl
theorem Qvd (es:List PV):Qa0 Tryz.prog 66 (.slc es)=some (.int .i64 es.length):=by simp only [Qa0,Qfd]
theorem Qve:Qa0 Tryz.prog 66 .nilS=some (.int .i64 0):=by simp only [Qa0,Qfd]
theorem Qvf (b e o n:Nat):Qa0 Tryz.prog 66 (.bs b e o n)=some (.int .i64 n):=by simp only [Qa0,Qfd]
theorem Q2j:tyOk Tryz.prog 74=true:=by kernel_rfl
theorem Qzn:Qa3 Tryz.prog 74=false:=by kernel_rfl
theorem Qoz:(Tryz.prog.info? 74).isSome=true:=by kernel_rfl
theorem Qvg:Qap Tryz.prog 74=some (1,24):=by kernel_rfl
theorem Qro:Tryz.prog.cellsOf 74=1:=by kernel_rfl
theorem Qvh:Qaw Tryz.prog 74=some PV.nilS:=by kernel_rfl
theorem Qvi:Qa6 Tryz.prog 74=some 87:=by kernel_rfl
theorem Qfe:Tryz.prog.underlying 74=some (.slice 87):=by kernel_rfl
theorem Qvj (es:List PV):Qa0 Tryz.prog 74 (.slc es)=some (.int .i64 es.length):=by simp only [Qa0,Qfe]
theorem Qvk:Qa0 Tryz.prog 74 .nilS=some (.int .i64 0):=by simp only [Qa0,Qfe]
theorem Qvl (b e o n:Nat):Qa0 Tryz.prog 74 (.bs b e o n)=some (.int .i64 n):=by simp only [Qa0,Qfe]
theorem Q2k:tyOk Tryz.prog 76=true:=by kernel_rfl
theorem Qzo:Qa3 Tryz.prog 76=true:=by kernel_rfl
theorem Qo0:(Tryz.prog.info? 76).isSome=true:=by kernel_rfl
theorem Qvm:Qap Tryz.prog 76=some (3,48):=by kernel_rfl
theorem Qrp:Tryz.prog.cellsOf 76=3:=by kernel_rfl
theorem Qvn:Qaw Tryz.prog 76=some (PV.agg [PV.str {data:={toList:=[]}},PV.int IntKind.i64 0,PV.nilS]):=by kernel_rfl
theorem Qrq:buildable Tryz.prog 76=true:=by kernel_rfl
theorem Qzp:Qav Tryz.prog 76 0=some (0,9,1):=by kernel_rfl
theorem Qzq:Qaz Tryz.prog 76 0=some (0,1):=by kernel_rfl
theorem Qzr:Qav Tryz.prog 76 1=some (1,3,1):=by kernel_rfl
theorem Qzs:Qaz Tryz.prog 76 1=some (1,1):=by kernel_rfl
theorem Qzt:Qav Tryz.prog 76 2=some (2,74,1):=by kernel_rfl
theorem Qzu:Qaz Tryz.prog 76 2=some (2,1):=by kernel_rfl
theorem Q2l:tyOk Tryz.prog 78=true:=by kernel_rfl
theorem Qzv:Qa3 Tryz.prog 78=false:=by kernel_rfl
theorem Qo1:(Tryz.prog.info? 78).isSome=true:=by kernel_rfl
theorem Qvo:Qap Tryz.prog 78=some (1,24):=by kernel_rfl
theorem Qrr:Tryz.prog.cellsOf 78=1:=by kernel_rfl
theorem Qvp:Qaw Tryz.prog 78=some PV.nilS:=by kernel_rfl
theorem Qvq:Qa6 Tryz.prog 78=some 3:=by kernel_rfl
theorem Qff:Tryz.prog.underlying 78=some (.slice 3):=by kernel_rfl
theorem Qvr (es:List PV):Qa0 Tryz.prog 78 (.slc es)=some (.int .i64 es.length):=by simp only [Qa0,Qff]
theorem Qvs:Qa0 Tryz.prog 78 .nilS=some (.int .i64 0):=by simp only [Qa0,Qff]
theorem Qvt (b e o n:Nat):Qa0 Tryz.prog 78 (.bs b e o n)=some (.int .i64 n):=by simp only [Qa0,Qff]
theorem Q2m:tyOk Tryz.prog 79=true:=by kernel_rfl
theorem Qzw:Qa3 Tryz.prog 79=false:=by kernel_rfl
theorem Qo2:(Tryz.prog.info? 79).isSome=true:=by kernel_rfl
theorem Qvu:Qap Tryz.prog 79=some (1,24):=by kernel_rfl
theorem Qrs:Tryz.prog.cellsOf 79=1:=by kernel_rfl
theorem Qvv:Qaw Tryz.prog 79=some PV.nilS:=by kernel_rfl
theorem Qvw:Qa6 Tryz.prog 79=some 40:=by kernel_rfl
theorem Qfg:Tryz.prog.underlying 79=some (.slice 40):=by kernel_rfl
theorem Qvx (es:List PV):Qa0 Tryz.prog 79 (.slc es)=some (.int .i64 es.length):=by simp only [Qa0,Qfg]
theorem Qvy:Qa0 Tryz.prog 79 .nilS=some (.int .i64 0):=by simp only [Qa0,Qfg]
theorem Qvz (b e o n:Nat):Qa0 Tryz.prog 79 (.bs b e o n)=some (.int .i64 n):=by simp only [Qa0,Qfg]
theorem Q2n:tyOk Tryz.prog 87=true:=by kernel_rfl
theorem Qzx:Qa3 Tryz.prog 87=true:=by kernel_rfl
theorem Qo3:(Tryz.prog.info? 87).isSome=true:=by kernel_rfl
theorem Qv0:Qap Tryz.prog 87=some (6,48):=by kernel_rfl
theorem Qrt:Tryz.prog.cellsOf 87=6:=by kernel_rfl
theorem Qv1:Qaw Tryz.prog 87=some (PV.agg [PV.int IntKind.i64 0,PV.int IntKind.i64 0,PV.int IntKind.i64 0,PV.int IntKind.i64 0,PV.int IntKind.i64 0,PV.int IntKind.i64 0]):=by kernel_rfl
theorem Qru:buildable Tryz.prog 87=true:=by kernel_rfl
theorem Qzy:Qav Tryz.prog 87 0=some (0,54,3):=by kernel_rfl
theorem Qzz:Qaz Tryz.prog 87 0=some (0,3):=by kernel_rfl
theorem Qz0:Qav Tryz.prog 87 1=some (3,3,1):=by kernel_rfl
theorem Qz1:Qaz Tryz.prog 87 1=some (3,1):=by kernel_rfl
theorem Qz2:Qav Tryz.prog 87 2=some (4,3,1):=by kernel_rfl
theorem Qz3:Qaz Tryz.prog 87 2=some (4,1):=by kernel_rfl
theorem Qz4:Qav Tryz.prog 87 3=some (5,3,1):=by kernel_rfl
theorem Qz5:Qaz Tryz.prog 87 3=some (5,1):=by kernel_rfl
theorem Qz6:Qb3 Tryz.prog 87=some [1,1,1,1,1,1]:=by kernel_rfl
theorem Q2o:tyOk Tryz.prog 91=true:=by kernel_rfl
theorem Qz7:Qa3 Tryz.prog 91=true:=by kernel_rfl
theorem Qo4:(Tryz.prog.info? 91).isSome=true:=by kernel_rfl
theorem Qv2:Qap Tryz.prog 91=some (6,96):=by kernel_rfl
theorem Qrv:Tryz.prog.cellsOf 91=6:=by kernel_rfl
theorem Qv3:Qaw Tryz.prog 91=some (PV.agg [PV.int IntKind.i64 0,PV.int IntKind.i64 0,PV.int IntKind.i64 0,PV.nilS,PV.nilS,PV.nilS]):=by kernel_rfl
theorem Qrw:buildable Tryz.prog 91=true:=by kernel_rfl
theorem Qz8:Qav Tryz.prog 91 0=some (0,3,1):=by kernel_rfl
theorem Qz9:Qaz Tryz.prog 91 0=some (0,1):=by kernel_rfl
theorem Q0a:Qav Tryz.prog 91 1=some (1,3,1):=by kernel_rfl
theorem Q0b:Qaz Tryz.prog 91 1=some (1,1):=by kernel_rfl
theorem Q0c:Qav Tryz.prog 91 2=some (2,3,1):=by kernel_rfl
theorem Q0d:Qaz Tryz.prog 91 2=some (2,1):=by kernel_rfl
theorem Q0e:Qav Tryz.prog 91 3=some (3,78,1):=by kernel_rfl
theorem Q0f:Qaz Tryz.prog 91 3=some (3,1):=by kernel_rfl
theorem Q0g:Qav Tryz.prog 91 4=some (4,78,1):=by kernel_rfl
theorem Q0h:Qaz Tryz.prog 91 4=some (4,1):=by kernel_rfl
theorem Q0i:Qav Tryz.prog 91 5=some (5,78,1):=by kernel_rfl
theorem Q0j:Qaz Tryz.prog 91 5=some (5,1):=by kernel_rfl
theorem Q0k:tyOk Tryz.prog 115=true:=by kernel_rfl
theorem Qv4:Qa3 Tryz.prog 115=false:=by kernel_rfl
theorem Qmk:(Tryz.prog.info? 115).isSome=true:=by kernel_rfl
theorem Qrx:Qap Tryz.prog 115=some (1,8):=by kernel_rfl
theorem Qo5:Tryz.prog.cellsOf 115=1:=by kernel_rfl
theorem Q0l:tyOk Tryz.prog 116=true:=by kernel_rfl
theorem Qv5:Qa3 Tryz.prog 116=false:=by kernel_rfl
theorem Qml:(Tryz.prog.info? 116).isSome=true:=by kernel_rfl
theorem Qry:Qap Tryz.prog 116=some (1,8):=by kernel_rfl
theorem Qo6:Tryz.prog.cellsOf 116=1:=by kernel_rfl
theorem Q0m:tyOk Tryz.prog 184=true:=by kernel_rfl
theorem Qv6:Qa3 Tryz.prog 184=false:=by kernel_rfl
theorem Qmm:(Tryz.prog.info? 184).isSome=true:=by kernel_rfl
theorem Qrz:Qap Tryz.prog 184=some (1,8):=by kernel_rfl
theorem Qo7:Tryz.prog.cellsOf 184=1:=by kernel_rfl
theorem Qr0:Qaw Tryz.prog 184=some (PV.int IntKind.i64 0):=by kernel_rfl
theorem Qv7:Tryz.prog.underlying 184=some (.int .i64):=by kernel_rfl
theorem Q0n:tyOk Tryz.prog 213=true:=by kernel_rfl
theorem Qv8:Qa3 Tryz.prog 213=false:=by kernel_rfl
theorem Qmn:(Tryz.prog.info? 213).isSome=true:=by kernel_rfl
theorem Qr1:Qap Tryz.prog 213=some (1,8):=by kernel_rfl
theorem Qo8:Tryz.prog.cellsOf 213=1:=by kernel_rfl
attribute [go_sem] Q3q Q10 Qq3 Qyb Qty Qyc Q11 Q3r Q12 Qq4 Qyd Qtz Qye Qyf Q3s Q13
attribute [go_sem] Qq5 Qyg Qt0 Qyh Q14 Q3t Q15 Qq6 Qyi Qt1 Qyj Qxj Qyk Q16 Qyl Qom
attribute [go_sem] Qt2 Qq7 Qt3 Qt4 Qe8 Qt5 Qt6 Qt7 Q17 Qym Qon Qt8 Qq8 Qt9 Qua Qe9
attribute [go_sem] Qub Quc Qud Q18 Qyn Qoo Que Qq9 Quf Qug Qfa Quh Qui Quj Q19 Qyo
attribute [go_sem] Qop Quk Qra Qul Qrb Qyp Qyq Qyr Qys Qyt Qyu Q2a Qyv Qoq Qum Qrc
attribute [go_sem] Qun Qrd Qyw Qyx Qyy Qyz Qy0 Q2b Qy1 Qor Quo Qre Qup Qrf Qy2 Qy3
attribute [go_sem] Qy4 Qy5 Qy6 Q2c Qy7 Qos Quq Qrg Qur Qy8 Q2d Qy9 Qot Qus Qrh Qut
attribute [go_sem] Qza Q2e Qzb Qou Quu Qri Quv Quw Qfb Qux Quy Quz Q2f Qzc Qov Qu0
attribute [go_sem] Qrj Qu1 Q2g Qzd Qow Qu2 Qrk Qu3 Qrl Qze Qzf Qzg Qzh Qzi Qzj Qzk
attribute [go_sem] Q2h Qzl Qox Qu4 Qrm Qu5 Qu6 Qfc Qu7 Qu8 Qu9 Q2i Qzm Qoy Qva Qrn
attribute [go_sem] Qvb Qvc Qfd Qvd Qve Qvf Q2j Qzn Qoz Qvg Qro Qvh Qvi Qfe Qvj Qvk
attribute [go_sem] Qvl Q2k Qzo Qo0 Qvm Qrp Qvn Qrq Qzp Qzq Qzr Qzs Qzt Qzu Q2l Qzv
attribute [go_sem] Qo1 Qvo Qrr Qvp Qvq Qff Qvr Qvs Qvt Q2m Qzw Qo2 Qvu Qrs Qvv Qvw
attribute [go_sem] Qfg Qvx Qvy Qvz Q2n Qzx Qo3 Qv0 Qrt Qv1 Qru Qzy Qzz Qz0 Qz1 Qz2
attribute [go_sem] Qz3 Qz4 Qz5 Qz6 Q2o Qz7 Qo4 Qv2 Qrv Qv3 Qrw Qz8 Qz9 Q0a Q0b Q0c
attribute [go_sem] Q0d Q0e Q0f Q0g Q0h Q0i Q0j
attribute [go_sem] Q0k Qv4 Qmk Qrx Qo5 Q0l Qv5 Qml Qry
attribute [go_sem] Qo6
attribute [go_sem] Q0m Qv6 Qmm Qrz Qo7 Qr0 Qv7
attribute [go_sem] Q0n Qv8 Qmn
attribute [go_sem] Qr1 Qo8
end Go.Proofs.YtjlkapdmgjocdaaGreat

namespace Go.Dg

/-! ### sums -/
/-- The sum of the first n values. -/
def sm (f:Nat→Int):Nat→Int
  |0=>0
  |n+1=>sm f n+f n
/-! ### binomials -/
/-- The number of ways to choose k of n elements. -/
def bin:Nat→Nat→Nat
  |_,0=>1
  |0,_+1=>0
  |n+1,k+1=>bin n k+bin n (k+1)
/-! ### polynomials by their values -/
/-- The list whose value at x,y is the sum of f i x^i (c x+y)^(n-i). -/
def trans (f:List Int) (c:Int) (n:Nat):List Int:=(List.range (n+1)).map fun j=>sm (fun i=>f.getD i 0*(c^(j-i)*(bin (n-i) (j-i):Int))) (j+1)
end Go.Dg

namespace Go.Dg
end Go.Dg

namespace Go.Dg
def ev:List Int→Int→Int
 | [],_=>0
 |c::r,u=>c+u*ev r u
def conv (p q:List Int):List Int:=(List.range (p.length+q.length-1)).map fun i=>sm (fun k=>p.getD k 0*q.getD (i-k) 0) (i+1)
def bd (B:Nat) (p:List Int):Prop:= ∀x∈p,x.natAbs<2^B
end Go.Dg

namespace Go.Dg
end Go.Dg

namespace Go.Dg

structure Sg where
  f:Int
  t:Int
  o:Int
  x:List Int
  y:List Int
  z:List Int

end Go.Dg

namespace Go.Dg
structure V3 where
 x:Int
 y:Int
 z:Int
deriving DecidableEq
def v0:V3:=⟨0,0,0⟩
def inB (n:Int):Bool:= !(decide (n< -1048576)||decide (1048576<n))
def ptB (v:V3):Bool:=inB v.x&&(inB v.y&&inB v.z)
theorem Qxp {n:Int}:inB n=true↔ -1048576≤n∧n≤1048576:=by
 unfold inB
 simp only [Bool.not_eq_true',Bool.or_eq_false_iff,decide_eq_false_iff_not]
 omega
theorem Qfy {v:V3}:ptB v=true↔(-1048576≤v.x∧v.x≤1048576)∧(-1048576≤v.y∧v.y≤1048576)∧(-1048576≤v.z∧v.z≤1048576):=by
 unfold ptB
 simp only [Bool.and_eq_true,Qxp]
def rowK (k:Int):List Int:=if k=1 then [1]else if k=2 then [0,0,10, -15,6]else []
def Qe0 (a b:Int) (row:List Int):List Int:=if a=b then [a]else a::row.map fun f=>f*(b-a)
def legS (a b:V3) (f t k:Int):Sg:=⟨f,t,1,Qe0 a.x b.x (rowK k),Qe0 a.y b.y (rowK k),Qe0 a.z b.z (rowK k)⟩
def tmB (f t:Int):Bool:=decide (0≤f)&&(decide (f<t)&&decide (t≤3600000))
def Qjw (a b:V3) (f t:Int):Bool:=ptB a&&(ptB b&&tmB f t)
def flyL (a b:V3) (f t k:Int):List Sg:=if Qjw a b f t=true then [legS a b f t k]else []
def flyE (a b:V3) (f t:Int):Int:=if Qjw a b f t=true then 0 else 2
def up (v:V3) (r:Int):V3:=⟨v.x,v.y,v.z+r⟩
def arc3 (a b:V3) (r f t:Int):List Sg:=[legS a (up a r) f (f+(t-f)/4) 2,legS (up a r) (up b r) (f+(t-f)/4) (t-(t-f)/4) 2,legS (up b r) b (t-(t-f)/4) t 2]
structure Mv where
 to:V3
 w:Int
 f:Int
 r:Int
def tB (n:Int):Bool:=decide (0≤n)&&decide (n≤3600000)
theorem Qdp {n:Int}:tB n=true↔0≤n∧n≤3600000:=by simp [tB]
def hiB (v:V3) (r:Int):Bool:=ptB (up v r)
def mvB (v:V3) (m:Mv) (len:Int):Bool:=
 ptB m.to&&(tB m.w&&(tB m.f&&(tB m.r&&(decide (m.w+m.f≤len)&&(if m.f=0 then decide (m.to=v)&&decide (m.r=0)else if 0<m.r then decide (m.f%4=0)&&(hiB v m.r&&hiB m.to m.r)else true)))))
def Qbx (v:V3) (f t:Int):List Sg:=flyL v v f t 0
def midL (v:V3) (m:Mv) (b e:Int):List Sg:=if 0<m.r then arc3 v m.to m.r b e else flyL v m.to b e 2
def mvL (v:V3) (m:Mv) (at_ len:Int):List Sg:=
 if m.f=0 then Qbx v at_ (at_+len)else Qbx v at_ (at_+m.w)++midL v m (at_+m.w) (at_+m.w+m.f)++Qbx m.to (at_+m.w+m.f) (at_+len)
def mvE (v:V3) (m:Mv) (at_ len:Int):Int:=
 if ptB v=true∧1≤len∧len≤3600000∧tB at_=true∧mvB v m len=true then(if at_+len≤3600000 then 0 else 3)else 2
def mvP (v:V3) (m:Mv) (at_ len:Int):List Sg:=if mvE v m at_ len=0 then mvL v m at_ len else []
theorem Qbf (a b:V3) (f t k:Int):(flyL a b f t k).length≤1:=by unfold flyL;split<;>simp
theorem Qol (v:V3) (m:Mv) (a l:Int):(mvL v m a l).length≤5:=by
 unfold mvL
 split
 ·exact Nat.le_trans (Qbf _ _ _ _ _) (by decide)
 ·simp only [List.length_append]
  have h1:=Qbf v v a (a+m.w) 0
  have h2:=Qbf m.to m.to (a+m.w+m.f) (a+l) 0
  have h3:(midL v m (a+m.w) (a+m.w+m.f)).length≤3:=by
   unfold midL
   split
   ·simp [arc3]
   ·exact Nat.le_trans (Qbf _ _ _ _ _) (by decide)
  unfold Qbx
  omega
theorem Qd8 (v:V3) (m:Mv) (a l:Int):(mvP v m a l).length≤5:=by
 unfold mvP
 split
 ·exact Qol _ _ _ _
 ·simp
structure Ac where
 nm:ByteArray
 ln:Int
 mv:List Mv
structure Pg where
 ns:List ByteArray
 hs:List V3
 as_:List Ac
def ac0:Ac:=⟨⟨#[]⟩,0,[]⟩
def mv0:Mv:=⟨v0,0,0,0⟩
def chB (i c:Nat):Bool:=(decide (97≤c)&&decide (c≤122))||((decide (65≤c)&&decide (c≤90))||(decide (0<i)&&((decide (48≤c)&&decide (c≤57))||(decide (c=45)||decide (c=95)))))
def bAt (s:ByteArray) (i:Nat):Nat:=(s.data.toList.getD i 0).toNat
def Qe1 (s:ByteArray) (k:Nat):Bool:=(List.range k).all fun i=>chB i (bAt s i)
def Qmf (s:ByteArray):Bool:=Qe1 s s.size&&(decide (1≤s.size)&&decide (s.size≤32))
theorem Qhk (s:ByteArray) (k:Nat):Qe1 s (k+1)=(Qe1 s k&&chB k (bAt s k)):=by simp [Qe1,List.range_succ]
theorem Qqi {s:ByteArray} {k:Nat} (h:Qe1 s k=false) {m:Nat} (hm:k≤m):Qe1 s m=false:=by
 induction m with
 |zero=>
    obtain rfl:k=0:=by omega
    exact h
 |succ m ih=>
  by_cases e:k=m+1
  ·subst e;exact h
  ·rw [Qhk,ih (by omega)];rfl
def nmAt (p:Pg) (i:Nat):ByteArray:=p.ns.getD i ⟨#[]⟩
def hmAt (p:Pg) (i:Nat):V3:=p.hs.getD i v0
def memN (s:ByteArray) (l:List ByteArray):Bool:=l.any fun x=>s==x
def memP (v:V3) (l:List V3):Bool:=l.any fun x=>decide (v=x)
def Qqj (p:Pg) (i:Nat):Bool:=Qmf (nmAt p i)&&(!memN (nmAt p i) (p.ns.take i)&&(ptB (hmAt p i)&& !memP (hmAt p i) (p.hs.take i)))
def Qe2 (p:Pg) (k:Nat):Bool:=(List.range k).all (Qqj p)
def Qk1 (p:Pg):Bool:=decide (1≤p.ns.length)&&(decide (p.ns.length≤64)&&(decide (p.hs.length=p.ns.length)&&Qe2 p p.ns.length))
theorem Qhl (p:Pg) (k:Nat):Qe2 p (k+1)=(Qe2 p k&&Qqj p k):=by simp [Qe2,List.range_succ]
theorem Qqk {p:Pg} {k:Nat} (h:Qe2 p k=false) {m:Nat} (hm:k≤m):Qe2 p m=false:=by
 induction m with
 |zero=>
    obtain rfl:k=0:=by omega
    exact h
 |succ m ih=>
  by_cases e:k=m+1
  ·subst e;exact h
  ·rw [Qhl,ih (by omega)];rfl
def Qb4 (from_:List V3) (ms:List Mv) (at_ ln:Int) (many:List Int) (i:Nat):Int:=many.getD i 0+((mvP (from_.getD i v0) (ms.getD i mv0) at_ ln).length:Int)
def okAt (from_:List V3) (ms:List Mv) (at_ ln:Int) (many:List Int) (i:Nat):Bool:=decide (mvE (from_.getD i v0) (ms.getD i mv0) at_ ln=0)&&decide (Qb4 from_ ms at_ ln many i≤256)
def okTo (from_:List V3) (ms:List Mv) (at_ ln:Int) (many:List Int) (k:Nat):Bool:=(List.range k).all (okAt from_ ms at_ ln many)
def Qau (from_:List V3) (ms:List Mv) (at_ ln:Int) (many:List Int) (k:Nat):List Int:=(List.range many.length).map fun i=>if i<k then Qb4 from_ ms at_ ln many i else many.getD i 0
def actB (n:Nat) (at_:Int) (a:Ac):Bool:=Qmf a.nm&&(decide (1≤a.ln)&&(decide (a.ln≤3600000-at_)&&decide (a.mv.length=n)))
def goB (n:Nat) (from_:List V3) (at_:Int) (many:List Int):List Ac→Bool
 | []=>true
 |a::l=>actB n at_ a&&(okTo from_ a.mv at_ a.ln many from_.length&&goB n (a.mv.map Mv.to) (at_+a.ln) (Qau from_ a.mv at_ a.ln many from_.length) l)
def Qbg (p:Pg):Bool:=Qk1 p&&(decide (p.as_.length≤60)&&goB p.ns.length p.hs 0 (List.replicate p.ns.length 0) p.as_)
def Qeg (p:Pg) (k:Nat):List V3:=if k=0 then p.hs else(p.as_.getD (k-1) ac0).mv.map Mv.to
def begT (p:Pg) (k:Nat):Int:=((p.as_.take k).map Ac.ln).sum
theorem Qql (fr:List V3) (ms:List Mv) (at_ ln:Int) (many:List Int) (k:Nat):okTo fr ms at_ ln many (k+1)=(okTo fr ms at_ ln many k&&okAt fr ms at_ ln many k):=by simp [okTo,List.range_succ]
theorem Qhm (fr:List V3) (ms:List Mv) (at_ ln:Int) (many:List Int):Qau fr ms at_ ln many 0=many:=by
 apply List.ext_getElem
 ·simp [Qau]
 ·intro i h1 h2;simp [Qau,List.getD_eq_getElem?_getD,List.getElem?_eq_getElem h2]
theorem Qbc (fr:List V3) (ms:List Mv) (at_ ln:Int) (many:List Int) (k:Nat):(Qau fr ms at_ ln many k).length=many.length:=by simp [Qau]
theorem Qbh {fr:List V3} {ms:List Mv} {at_ ln:Int} {many:List Int} {k i:Nat} (h:i<many.length):(Qau fr ms at_ ln many k)[i]? =some (if i<k then Qb4 fr ms at_ ln many i else many.getD i 0):=by
 simp [Qau,h]
theorem Qd9 {fr:List V3} {ms:List Mv} {at_ ln:Int} {many:List Int} {k:Nat} (h:k<many.length):(Qau fr ms at_ ln many k).set k (Qb4 fr ms at_ ln many k)=Qau fr ms at_ ln many (k+1):=by
 apply List.ext_getElem?
 intro i
 rw [List.getElem?_set]
 by_cases e:k=i
 ·subst e;simp [Qau,h]
 ·rw [if_neg e]
  by_cases hi:i<many.length
  ·rw [Qbh hi,Qbh hi]
   congr 1
   by_cases x:i<k
   ·rw [if_pos x,if_pos (by omega)]
   ·rw [if_neg x,if_neg (by omega)]
  ·rw [List.getElem?_eq_none (by rw [Qbc];omega),List.getElem?_eq_none (by rw [Qbc];omega)]
end Go.Dg

namespace Go.Vl
open Go.Dg
def v3PV (v:V3):PV:= .agg [.int .i64 v.x,.int .i64 v.y,.int .i64 v.z]
def Qe3 (l:List ByteArray):List (PV×PV):=l.map fun s=>(.str s,.bool true)
def Qb6 (l:List V3):List (PV×PV):=l.map fun v=>(.agg [.int .i64 v.x,.int .i64 v.y,.int .i64 v.z],.bool true)
theorem Qmg (l:List ByteArray) (s:ByteArray):Qe3 l++[(.str s,.bool true)]=Qe3 (l++[s]):=by simp [Qe3]
theorem Qhn (s:ByteArray): ∀l:List ByteArray,Qa8 [2] (.str s) (Qe3 l)=some (if memN s l=true then some (.bool true)else none)
 | []=>rfl
 |x::l=>by
  have ih:=Qhn s l
  have e:Qaj [2] [.str s] [.str x]=some (s==x):=by simp [Qaj]
  show(if(PV.str s).isAgg=(PV.str x).isAgg then match Qaj [2] [.str s] [.str x]with
   |some true=>some (some (PV.bool true))
   |some false=>Qa8 [2] (.str s) (Qe3 l)
   |none=>none else none)=_
  rw [if_pos (show(PV.str s).isAgg=(PV.str x).isAgg from rfl),e]
  unfold memN at ih ⊢
  rw [List.any_cons]
  cases h:s==x with
  |true=>simp
  |false=>simp only [Bool.false_or];exact ih
theorem Qfz (v:V3): ∀l:List V3,Qa8 [1,1,1] (.agg [.int .i64 v.x,.int .i64 v.y,.int .i64 v.z]) (Qb6 l)=some (if memP v l=true then some (.bool true)else none)
 | []=>rfl
 |x::l=>by
  have ih:=Qfz v l
  have e:Qaj [1,1,1] [.int .i64 v.x,.int .i64 v.y,.int .i64 v.z] [.int .i64 x.x,.int .i64 x.y,.int .i64 x.z]=some (decide (v=x)):=by
   cases v;cases x
   simp only [Qaj,if_true,Option.map_some,V3.mk.injEq,Option.some.injEq,Bool.and_true]
   simp only [Bool.decide_and]
   rfl
  show(if(PV.agg [.int .i64 v.x,.int .i64 v.y,.int .i64 v.z]).isAgg=(PV.agg [.int .i64 x.x,.int .i64 x.y,.int .i64 x.z]).isAgg then match Qaj [1,1,1] [.int .i64 v.x,.int .i64 v.y,.int .i64 v.z] [.int .i64 x.x,.int .i64 x.y,.int .i64 x.z]with
   |some true=>some (some (PV.bool true))
   |some false=>Qa8 [1,1,1] (.agg [.int .i64 v.x,.int .i64 v.y,.int .i64 v.z]) (Qb6 l)
   |none=>none else none)=_
  rw [if_pos (show(PV.agg [.int .i64 v.x,.int .i64 v.y,.int .i64 v.z]).isAgg=(PV.agg [.int .i64 x.x,.int .i64 x.y,.int .i64 x.z]).isAgg from rfl),e]
  unfold memP at ih ⊢
  rw [List.any_cons]
  cases h:decide (v=x)with
  |true=>simp
  |false=>simp only [Bool.false_or];exact ih
theorem Qk2 {s:ByteArray} {l:List ByteArray} (h:memN s l=false):Qa8 [2] (.str s) (Qe3 l)=some none:=by rw [Qhn,h];rfl
theorem Qjx {s:ByteArray} {l:List ByteArray} (h:memN s l=true):Qa8 [2] (.str s) (Qe3 l)=some (some (.bool true)):=by rw [Qhn,h];rfl
theorem Qjy {v:V3} {l:List V3} (h:memP v l=false):Qa8 [1,1,1] (.agg [.int .i64 v.x,.int .i64 v.y,.int .i64 v.z]) (Qb6 l)=some none:=by rw [Qfz,h];rfl
theorem Qit {v:V3} {l:List V3} (h:memP v l=true):Qa8 [1,1,1] (.agg [.int .i64 v.x,.int .i64 v.y,.int .i64 v.z]) (Qb6 l)=some (some (.bool true)):=by rw [Qfz,h];rfl
theorem Qjz (a:Int):Qa8 [1] (.int .i64 a) []=some none:=rfl
theorem Qhc (a b:Int) (v:PV) (es:List (PV×PV)):Qa8 [1] (.int .i64 a) ((.int .i64 b,v)::es)=if a=b then some (some v)else Qa8 [1] (.int .i64 a) es:=by
 have e:Qaj [1] [.int .i64 a] [.int .i64 b]=some (decide (a=b)):=by simp [Qaj];rfl
 show(if(PV.int .i64 a).isAgg=(PV.int .i64 b).isAgg then match Qaj [1] [.int .i64 a] [.int .i64 b]with
  |some true=>some (some v)
  |some false=>Qa8 [1] (.int .i64 a) es
  |none=>none else none)=_
 rw [if_pos (show(PV.int .i64 a).isAgg=(PV.int .i64 b).isAgg from rfl),e]
 by_cases h:a=b
 ·simp [h]
 ·simp [h]
theorem Qho {α:Type} (f:α→α) (a:α): ∀l:List α,(l++[a]).modify l.length f=l++[f a]
 | []=>rfl
 |x::l=>congrArg (x:: ·) (Qho f a l)
theorem Qk3 (l:List V3) (v:V3):(Qb6 l++[((.agg [.int .i64 v.x,.int .i64 v.y,.int .i64 v.z]:PV),(.bool false:PV))]).modify (Qb6 l).length (fun p=>(p.1,(.bool true:PV)))=Qb6 (l++[v]):=by
 rw [Qho]
 simp [Qb6]
end Go.Vl

namespace Go.Vl
open Go.RowKit
theorem Q3b (P:Program) (t:TypeId) (xs ys:List PV):Qa7 .eql t P (.agg xs) (.agg ys)=match Qb3 P t with
  |some sh=>match Qaj sh xs ys with
   |some b=>some (.bool b)
   |none=>none
  |none=>none:=by
 unfold Qa7
 cases Qb3 P t with
 |none=>rfl
 |some sh=>simp only;cases Qaj sh xs ys<;>rfl
theorem Q3c (P:Program) (t:TypeId) (xs ys:List PV):Qa7 .neq t P (.agg xs) (.agg ys)=match Qb3 P t with
  |some sh=>match Qaj sh xs ys with
   |some b=>some (.bool !b)
   |none=>none
  |none=>none:=by
 unfold Qa7
 cases Qb3 P t with
 |none=>rfl
 |some sh=>simp only;cases Qaj sh xs ys<;>rfl
attribute [go_sem] Q3b Q3c
end Go.Vl

namespace Go.Vl
open Go.RowKit
variable {P:Program} {tb:Tab} {nt:Nat} {ks:List Nat} {ops:Array Oper} {base i:Nat} {rest:List Oper} {accs:List Acc} {draw:Bool} {k:List It} {Q:Exit→St→Prop} {st:St}
theorem Qab {dst:Option Tmp} {f f':FuncId} {args args':List PV} {es:List Eff} {l:Acc} {r:PV} (hs:Qan P f' args' r) (hf:f'=f) (ha:args'=args)
  (h:gops P tb nt ks ops base (i+1) rest (l::accs) draw k Q ((Qaf (if Qfr r then []else es) st).put dst r)):gcall P tb nt ks f args es l ops base i dst rest accs draw k Q st:=by
 subst hf;subst ha;exact⟨r,hs,h⟩
end Go.Vl

namespace Go.Vl
open Go.RowKit
variable {P:Program} {tb:Tab} {nt:Nat} {ks:List Nat} {ops:Array Oper} {base i:Nat} {rest:List Oper} {accs:List Acc} {draw:Bool} {k:List It} {Q:Exit→St→Prop} {st:St}
theorem Qcc {dst:Option Tmp} {f f':FuncId} {args args':List PV} {bxs bxsA:List (Nat×Box)} {es:List Eff} {θ ν:List (Nat×Nat)} {l:Acc} {r:PV} {bxs':List (Nat×Box)} (hs:Qdl P f' args' bxsA r bxs') (hf:f'=f) (ha:args'=args) (hb:bxsA=bxs)
  (h:gland P tb nt ks (land θ ν bxs' r) (Qf2 r bxs') es l ops base i dst rest accs draw k Q st):Qte P tb nt ks f args bxs es θ ν l ops base i dst rest accs draw k Q st:=by
 subst hf;subst ha;subst hb;exact Qmb _ _ _ _ _ _ _ _ _ hs h
end Go.Vl

namespace Go.Vl
open Go.RowKit
section
variable {P:Program} {tb:Tab} {nt:Nat} {ks:List Nat} {Q:Exit→St→Prop}
end
end Go.Vl

namespace Go.Vl
open Go.RowKit
def Qqd (P:Program) (tb:Tab) (nt:Nat) (ks:List Nat) (c:Code) (k:List It) (Q:Exit→St→Prop):List Nat→St→Prop
 | [],_=>False
 |_::l,st=>go P tb nt ks (.code c:: .again (Qqd P tb nt ks c k Q l)::k) Q st
theorem Qqe (P:Program) (tb:Tab) (nt:Nat) (ks:List Nat) (c:Code) (k:List It) (Q:Exit→St→Prop) (i:Nat) (l:List Nat) (st:St):Qqd P tb nt ks c k Q (i::l) st=go P tb nt ks (.code c:: .again (Qqd P tb nt ks c k Q l)::k) Q st:=rfl
attribute [go_sem] Qqe
theorem Q1h {P:Program} {tb:Tab} {nt:Nat} {ks:List Nat} {k:List It} {Q:Exit→St→Prop} {st:St} (hm:P.follows .mixedOrders=true) {c:Code} (l:List Nat) (h:Qqd P tb nt ks c k Q l st):go P tb nt ks (.code (.loop c)::k) Q st:=by
 simp only [go,vx]
 refine Qkq (fun x:{x:List Nat×St // Qqd P tb nt ks c k Q x.1 x.2}=>x.1.2) (fun x=>x.1.1.length) ⟨(l,st),h⟩ (fun _ _ _ h=>h) ?_
 rintro⟨⟨l,s⟩,h⟩
 cases l with
 |nil=>exact h.elim
 |cons i l=>
  simp only [Qqd,go]at h
  refine Qfw (Qbv (tb:=tb) (ks:=ks) hm c _ _ h) ?_
  intro e s q
  cases e with
  |normal=>simp only [gleave]at q;exact⟨⟨(l,s),q⟩,by simp,fun _ _ _ h=>h⟩
  |_=>simpa only [gleave,vthen]using q
end Go.Vl

namespace Go.Vl
open Go.RowKit
section
variable {P:Program} {b:Frame} {a:Act} {k:List Item} {cs:List Frame} {w:World}
end
def Qjv (P:Program) (tb:Tab) (nt:Nat) (ks:List Nat) (k:List It) (Q:Exit→St→Prop) (e:Exit) (s:St):Prop:=(∀l,e≠ .goto l)∧gleave P tb nt ks k Q e s
section
variable (P:Program) (tb:Tab) (nt:Nat) (ks:List Nat) (k:List It) (Q:Exit→St→Prop) (s:St)
theorem Qkz:Qjv P tb nt ks k Q .normal s=go P tb nt ks k Q s:=by
 unfold Qjv;rw [Qbw];exact propext ⟨fun h=>h.2,fun h=>⟨fun l=>by simp,h⟩⟩
theorem Qnl (i:Nat):Qjv P tb nt ks k Q (.exit i) s=gleave P tb nt ks k Q (.exit i) s:=by
 unfold Qjv;exact propext ⟨fun h=>h.2,fun h=>⟨fun l=>by simp,h⟩⟩
theorem Qqh:Qjv P tb nt ks k Q .ret s=gleave P tb nt ks k Q .ret s:=by
 unfold Qjv;exact propext ⟨fun h=>h.2,fun h=>⟨fun l=>by simp,h⟩⟩
end
attribute [go_sem] Qkz Qnl Qqh List.append_eq
end Go.Vl

namespace Go.Vl
open Go.RowKit
def Qqf (P:Program) (tb:Tab) (nt:Nat) (ks:List Nat) (c:Code) (k:List It) (Q:Exit→St→Prop):List Nat→St→Prop
 | [],_=>False
 |_::l,st=>go P tb nt ks (.code c:: .again (fun s=> ∃s',Le s s'∧Qqf P tb nt ks c k Q l s')::k) Q st
theorem Qqg (P:Program) (tb:Tab) (nt:Nat) (ks:List Nat) (c:Code) (k:List It) (Q:Exit→St→Prop) (i:Nat) (l:List Nat) (st:St):Qqf P tb nt ks c k Q (i::l) st=go P tb nt ks (.code c:: .again (fun s=> ∃s',Le s s'∧Qqf P tb nt ks c k Q l s')::k) Q st:=rfl
attribute [go_sem] Qqg
theorem Qgg {P:Program} {tb:Tab} {nt:Nat} {ks:List Nat} {k:List It} {Q:Exit→St→Prop} {st:St} (hm:P.follows .mixedOrders=true) {c:Code} (l:List Nat) (s0:St) (h0:Le st s0) (h:Qqf P tb nt ks c k Q l s0):go P tb nt ks (.code (.loop c)::k) Q st:=by
 simp only [go,vx]
 refine Qkq (fun x:{x:List Nat×St // Qqf P tb nt ks c k Q x.1 x.2}=>x.1.2) (fun x=>x.1.1.length) ⟨(l,s0),h⟩ h0 ?_
 rintro⟨⟨l,s⟩,h⟩
 cases l with
 |nil=>exact h.elim
 |cons i l=>
  simp only [Qqf,go]at h
  refine Qfw (Qbv (tb:=tb) (ks:=ks) hm c _ _ h) ?_
  intro e s q
  cases e with
  |normal=>simp only [gleave]at q;obtain⟨s',h1,h2⟩:=q;exact⟨⟨(l,s'),h2⟩,by simp,h1⟩
  |_=>simpa only [gleave,vthen]using q
end Go.Vl

namespace Go.Vl
open Go.RowKit
theorem Qxo (P:Program) (p:Nat×List (Nat×Nat)×List (Nat×Nat)) (tb:Tab) (id:Nat) (bx:Bx) (fo:Operand) (as0:Array Operand) (ts:Array TypeId) (f:FuncId) (first cap args:List PV):Qao P (p::tb) id (.call ⟨.value fo,as0,ts⟩) (.fn f first cap::args) bx=
  (match lkp (p::tb) id with
   |none=>M.bind (Qdo first) (fun x=> .bind (Qdt args) fun y=> .bind (Qdo cap) fun z=> .pure (.call f (x.1++y.1++z.1) (x.2++y.2++z.2))) bx
   |some t=>Qc9 t.1 t.2 f (first++args++cap) bx):=by
 cases h:lkp (p::tb) id with
 |none=>rw [Qxl (h:=h)]
 |some t=>obtain⟨θ,ν⟩:=t;rw [Qxm (h:=h)]
theorem ble6:Nat.ble 1000000 1000000=true:=rfl
theorem Q3e:Nat.ble 1000000 1000001=true:=rfl
attribute [go_sem] Qxo ble6 Q3e
theorem Q3f (P:Program) (t:TypeId) (x y:ByteArray):Qa7 .eql t P (.str x) (.str y)=some (.bool (x.data.toList==y.data.toList)):=by
 rw [Q04,←Go.ByteArray.toList_eq x,←Go.ByteArray.toList_eq y];rfl
theorem Q3g (P:Program) (t:TypeId) (x y:ByteArray):Qa7 .neq t P (.str x) (.str y)=some (.bool !(x.data.toList==y.data.toList)):=by
 rw [Q04,←Go.ByteArray.toList_eq x,←Go.ByteArray.toList_eq y];rfl
attribute [go_sem high] Q3f Q3g
end Go.Vl

namespace Go.Vl
def Qgh:PV→PV
 | .nilS=> .slc []
 |v=>v
def Qxn:PV→PV
 | .agg cs=> .agg (cs.map Qgh)
 |v=>Qgh v
theorem Qhj (v:PV):(Qxn v).cells=v.cells.map Qgh:=by
 cases v<;>rfl
theorem Qi8 (l:List PV):(l.map Qxn).flatMap PV.cells=(l.flatMap PV.cells).map Qgh:=by
 induction l with
 |nil=>rfl
 |cons v l ih=>simp only [List.map_cons,List.flatMap_cons,List.map_append,Qhj,ih]
theorem Rep.up {w:World} {im:Im} {v:PV} {u:Value} (h:Rep w im v u):Rep w im (Qgh v) u:=by
 cases v with
 |nilS=>cases h;exact .slcNil 0 (Nat.zero_le _)
 |_=>exact h
theorem LR.up {w:World} {im:Im} {ρ:Rho} {v:PV} {u:Value} (h:LR w im ρ v u):LR w im ρ (Qgh v) u:=by
 cases v with
 |nilS=>rw [h.nilS_inv];exact .ext _ _ (.slcNil 0 (Nat.zero_le _))
 |_=>exact h
theorem RepL.up {w:World} {im:Im}: ∀{vs:List PV} {us:List Value},RepL w im vs us→RepL w im (vs.map Qgh) us
 |_,_,.nil=> .nil
 |_,_,.cons _ _ _ _ h t=> .cons _ _ _ _ h.up t.up
theorem LRL.up {w:World} {im:Im} {ρ:Rho}: ∀{vs:List PV} {us:List Value},LRL w im ρ vs us→LRL w im ρ (vs.map Qgh) us
 |_,_,.nil=> .nil
 |_,_,.cons _ _ _ _ h t=> .cons _ _ _ _ h.up t.up
theorem Qb1.up {own:Nat→Prop} {w:World} {im:Im} {ρ:Rho} {B:Box} {x:Option Nat} (h:Qb1 own w im ρ B x):Qb1 own w im ρ {B with els:=B.els.map Qxn} x:=by
 cases x with
 |none=>obtain⟨h1,h2,h3,h4⟩:=h;exact⟨by simp [h1],h2,h3,h4⟩
 |some g=>
  obtain⟨h1,h2,h3,h4,⟨hmn,cur,us,rest,h5,h6,h7,h8,h9,h10,h11⟩|hm⟩:=h
  case inr=>
   refine⟨h1,by simpa using h2,h3,?_,.inr ⟨by simp [hm.1],hm.2⟩⟩
   simp [hm.1]
  refine⟨h1,by simpa using h2,h3,?_,.inl ⟨hmn,cur,us,rest,h5,h6,?_,?_,h9,h10,h11⟩⟩
  ·intro e he
   obtain⟨v,hv,rfl⟩:=List.mem_map.1 he
   rw [Qhj,List.length_map];exact h4 v hv
  ·simp only [Qi8];exact h7.up
  ·intro ha;simp only [Qi8];exact(h8 ha).up
end Go.Vl

namespace Go.Vl
open Go.RowKit
end Go.Vl
