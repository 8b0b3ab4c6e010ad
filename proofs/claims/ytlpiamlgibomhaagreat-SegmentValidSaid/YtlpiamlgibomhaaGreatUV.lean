/-
  UR, US, UV (merged for the claim).
-/
import Derived.Test.YtlpiamlgibomhaaGreatUQ
import Derived.ProofKit
import Derived.Attr
set_option linter.unusedSimpArgs false
set_option linter.unusedVariables false
namespace Go.Vl
open Go.RowKit
inductive TT where
 |bool
 |int (k:IntKind)
 |str
 |slc (e:TT)
 |agg (fs:List TT)
mutual
def TT.size:TT→Nat
 | .agg fs=>TT.sizes fs
 | .bool| .int _| .str| .slc _=>1
def TT.sizes:List TT→Nat
 | []=>0
 |f::fs=>f.size+TT.sizes fs
end
mutual
def TT.fits (P:Program):TT→TypeId→Bool
 | .bool,t=>match P.underlying t with
  |some .bool=>true
  |_=>false
 | .int k,t=>match P.underlying t with
  |some (.int k')=>decide (k'=k)
  |_=>false
 | .str,t=>match P.underlying t with
  |some .string=>true
  |_=>false
 | .slc e,t=>match P.underlying t with
  |some (.slice te)=>e.fits P te&&Nat.beq (P.cellsOf te) e.size&&Nat.ble 1 e.size
  |_=>false
 | .agg fs,t=>match P.underlying t with
  |some (.struct xs)=>TT.fitsL P fs xs.toList 0&&Nat.beq (P.cellsOf t) (TT.sizes fs)
  |_=>false
def TT.fitsL (P:Program):List TT→List Field→Nat→Bool
 | [],[],_=>true
 |f::fs,x::xs,off=>f.fits P x.type&&Nat.beq x.offset off&&Nat.beq (P.cellsOf x.type) f.size&&TT.fitsL P fs xs (off+f.size)
 |_,_,_=>false
end
def TT.mk:TT→List PV→PV
 | .agg _,cs=> .agg cs
 |_,cs=>cs.headD .undef
mutual
def Qcm:TT→List PV→Prop
 | .bool,cs=> ∃b,cs=[.bool b]
 | .int k,cs=> ∃n,cs=[.int k n]∧(Lit.int k n).wf=true
 | .str,cs=> ∃s:ByteArray,cs=[.str s]∧s.size≤maxLen
 | .slc e,cs=> ∃ess:List (List PV),cs=[.slc (ess.map e.mk)]∧ess.length≤maxLen∧ ∀c∈ess,Qcm e c
 | .agg fs,cs=>Qgj fs cs
def Qgj:List TT→List PV→Prop
 | [],cs=>cs=[]
 |f::fs,cs=> ∃a b,cs=a++b∧Qcm f a∧Qgj fs b
end
theorem Qvr {e:TT} {c:List PV} (h:Qcm e c):(e.mk c).cells=c:=by
 cases e with
 |bool=>simp only [Qcm]at h;obtain⟨b,rfl⟩:=h;rfl
 |int k=>simp only [Qcm]at h;obtain⟨b,rfl,_⟩:=h;rfl
 |str=>simp only [Qcm]at h;obtain⟨b,rfl,_⟩:=h;rfl
 |slc e=>simp only [Qcm]at h;obtain⟨b,rfl,_⟩:=h;rfl
 |agg fs=>rfl
mutual
theorem Qcm.length: ∀{e:TT} {c:List PV},Qcm e c→c.length=e.size
 | .bool,c,h=>by simp only [Qcm]at h;obtain⟨b,rfl⟩:=h;simp [TT.size]
 | .int k,c,h=>by simp only [Qcm]at h;obtain⟨b,rfl,_⟩:=h;simp [TT.size]
 | .str,c,h=>by simp only [Qcm]at h;obtain⟨b,rfl,_⟩:=h;simp [TT.size]
 | .slc e,c,h=>by simp only [Qcm]at h;obtain⟨b,rfl,_⟩:=h;simp [TT.size]
 | .agg fs,c,h=>by simp only [Qcm]at h;simp only [TT.size];exact Qgj.length h
theorem Qgj.length: ∀{fs:List TT} {c:List PV},Qgj fs c→c.length=TT.sizes fs
 | [],c,h=>by simp only [Qgj]at h;subst h;simp [TT.sizes]
 |f::fs,c,h=>by
  simp only [Qgj]at h
  obtain⟨a,b,rfl,h1,h2⟩:=h
  simp only [TT.sizes,List.length_append,h1.length,h2.length]
end
def exIm (w:World):Im:=fun g j=> ∃u,w.cell? ⟨g,j,none⟩=some u
section
variable {H:Type} {enc:TypeId×Value→H} {P:Program} {w:World} {base:Nat} {held:Bool}
theorem Qt5 {im:Im} {A:Option Addr} {c:Nat} (hm:c≤maxLen):Rep w im (.slc []) (.slice A 0 c):=by
 cases A with
 |none=>exact .slcNil c hm
 |some p=>exact .slcE p c hm
mutual
theorem Qpk: ∀(tt:TT) (t:TypeId) (fuel:Nat) (cs:List Value) (x:DataW H×List MemPlace),tt.fits P t=true→DataW.trod enc P w base (fun _=>true) held fuel t cs=some x→
  ∃pvs,RepL w (exIm w) pvs cs∧Qcm tt pvs
 | .bool,t,fuel,cs,x,hf,h=>by
  simp only [TT.fits]at hf
  split at hf
  ·rename_i ht
   obtain⟨b,rfl,_⟩:=DataW.trod_bool ht h
   exact⟨[.bool b],.cons _ _ _ _ (.bool b) .nil,by simp [Qcm]⟩
  ·cases hf
 | .int k,t,fuel,cs,x,hf,h=>by
  simp only [TT.fits]at hf
  split at hf
  ·rename_i k' ht
   have hk:k'=k:=of_decide_eq_true hf
   subst hk
   obtain⟨n,rfl,_,hw⟩:=DataW.trod_int ht h
   exact⟨[.int k' n],.cons _ _ _ _ (.int _ n) .nil,by simp [Qcm,hw]⟩
  ·cases hf
 | .str,t,fuel,cs,x,hf,h=>by
  simp only [TT.fits]at hf
  split at hf
  ·rename_i ht
   obtain⟨s,rfl,_,hs⟩:=DataW.trod_string ht h
   exact⟨[.str s],.cons _ _ _ _ (.str s) .nil,by simp only [Qcm];exact⟨s,rfl,hs⟩⟩
  ·cases hf
 | .slc e,t,fuel,cs,x,hf,h=>by
  simp only [TT.fits]at hf
  split at hf
  ·rename_i te ht
   simp only [Bool.and_eq_true]at hf
   obtain⟨⟨hf1,hf2⟩,hf3⟩:=hf
   have hsz:=Nat.eq_of_beq_eq_true hf2
   have hpos:=Nat.le_of_ble_eq_true hf3
   rcases DataW.trod_slice ht h with⟨rfl,_⟩|⟨a,len,cap,elems,rest,n,_,rfl,_,_,hl,hm,hlen,hel,_,_⟩
   ·exact⟨[.slc []],.cons _ _ _ _ (.slcNil 0 (Nat.zero_le _)) .nil,by simp only [Qcm];exact⟨[],rfl,Nat.zero_le _,by simp⟩⟩
   ·rcases Nat.eq_zero_or_pos len with rfl|hpl
    ·exact⟨[.slc []],.cons _ _ _ _ (Qt5 hm) .nil,by simp only [Qcm];exact⟨[],rfl,Nat.zero_le _,by simp⟩⟩
    ·have each: ∀i,i<len→ ∃ci pi,w.cells? base (a.add (i*e.size)) e.size=some ci∧RepL w (exIm w) pi ci∧Qcm e pi:=by
      intro i hi
      have hi':=hel i hi
      rw [hsz]at hi'
      have hs:elems[i]? =some elems[i]:=List.getElem?_eq_getElem (by omega)
      rw [hs,Option.bind_eq_some_iff]at hi'
      obtain⟨ci,h1,h2⟩:=hi'
      obtain⟨pi,h3,h4⟩:=Qpk e te n ci _ hf1 h2
      exact⟨ci,pi,h1,h3,h4⟩
     obtain⟨g,off,rfl⟩: ∃g off,a=⟨g,off,none⟩:=by
      obtain⟨c0,p0,h1,h2,h3⟩:=each 0 hpl
      obtain⟨_,hl0,hc0⟩:=World.cells?_some h1
      have h00:=hc0 0 (by omega)
      have:c0[0]? =some c0[0]:=List.getElem?_eq_getElem (by omega)
      rw [this]at h00
      have hsp:=World.cell?_spot h00
      simp [Addr.add]at hsp
      obtain⟨g,off,sp⟩:=a
      simp at hsp
      subst hsp
      exact⟨g,off,rfl⟩
     have hadd: ∀j,(⟨g,off,none⟩:Addr).add j=⟨g,off+j,none⟩:=fun j=>by unfold Addr.add;split<;>simp_all
     have build: ∀k,k≤len→ ∃(ess:List (List PV)) (vs:List Value),ess.length=k∧vs.length=k*e.size∧RepL w (exIm w) ((ess.map e.mk).flatMap PV.cells) vs∧(∀j,j<vs.length→w.cell? ⟨g,off+j,none⟩=vs[j]?)∧ ∀c∈ess,Qcm e c:=by
      intro k
      induction k with
      |zero=>intro _;exact⟨[],[],rfl,by simp,.nil,by simp,by simp⟩
      |succ k ih=>
       intro hk
       obtain⟨ess,vs,e1,e2,e3,e4,e5⟩:=ih (by omega)
       obtain⟨ci,pi,h1,h2,h3⟩:=each k hk
       obtain⟨_,hl0,hc0⟩:=World.cells?_some h1
       refine⟨ess++[pi],vs++ci,by simp [e1],by simp [e2,hl0,Nat.succ_mul],?_,?_,?_⟩
       ·simp only [List.map_append,List.map_cons,List.map_nil,List.flatMap_append,List.flatMap_cons,List.flatMap_nil,List.append_nil,Qvr h3]
        exact e3.append h2
       ·intro j hj
        by_cases hjv:j<vs.length
        ·rw [List.getElem?_append_left hjv];exact e4 j hjv
        ·rw [List.getElem?_append_right (by omega)]
         have hjc:j-vs.length<e.size:=by simp at hj;omega
         have:=hc0 (j-vs.length) hjc
         rw [hadd]at this
         have hadd2:(⟨g,off+k*e.size,none⟩:Addr).add (j-vs.length)=⟨g,off+k*e.size+(j-vs.length),none⟩:=by unfold Addr.add;split<;>simp_all
         rw [hadd2]at this
         rw [←this]
         congr 2
         omega
       ·intro c hc
        rcases List.mem_append.1 hc with hc|hc
        ·exact e5 c hc
        ·simp at hc;subst hc;exact h3
     obtain⟨ess,vs,e1,e2,e3,e4,e5⟩:=build len (Nat.le_refl _)
     refine⟨[.slc (ess.map e.mk)],.cons _ _ _ _ ?_ .nil,by simp only [Qcm];exact⟨ess,rfl,by omega,e5⟩⟩
     refine .slc _ g off len cap e.size vs (by simpa using e1) (by omega) ?_ ?_ e4 e3 hl
     ·intro x hx
      simp only [List.mem_map]at hx
      obtain⟨c,hc,rfl⟩:=hx
      rw [Qvr (e5 c hc)]
      exact(e5 c hc).length
     ·intro j hj
      exact⟨vs[j],by rw [e4 j hj,List.getElem?_eq_getElem hj]⟩
  ·cases hf
 | .agg fs,t,fuel,cs,x,hf,h=>by
  simp only [TT.fits]at hf
  split at hf
  ·rename_i xs ht
   simp only [Bool.and_eq_true]at hf
   obtain⟨hf1,hf2⟩:=hf
   obtain⟨ys,n,rfl,_,hlen,hsz,hfl⟩:=DataW.trod_struct ht h
   have hall: ∀(i:Nat) (f:Field),xs.toList[i]? =some f→ ∃y,DataW.trod enc P w base (fun _=>true) held n f.type ((cs.drop f.offset).take (P.cellsOf f.type))=some y:=by
    intro i f hi
    have hi':xs[i]? =some f:=by simpa using hi
    have:=hfl i f hi'
    have hlt:i<ys.length:=by rw [hsz];exact(Array.getElem?_eq_some_iff.1 hi').1
    rw [List.getElem?_eq_getElem hlt]at this
    exact⟨_,this⟩
   obtain⟨pvs,h1,h2⟩:=Qrk fs xs.toList 0 n cs hf1 hall (by rw [hlen,Nat.eq_of_beq_eq_true hf2];simp)
   exact⟨pvs,by simpa using h1,by simp only [Qcm];exact h2⟩
  ·cases hf
theorem Qrk: ∀(fs:List TT) (xs:List Field) (off n:Nat) (cs:List Value),TT.fitsL P fs xs off=true→
  (∀(i:Nat) (f:Field),xs[i]? =some f→ ∃y,DataW.trod enc P w base (fun _=>true) held n f.type ((cs.drop f.offset).take (P.cellsOf f.type))=some y)→cs.length=off+TT.sizes fs→
  ∃pvs,RepL w (exIm w) pvs (cs.drop off)∧Qgj fs pvs
 | [],[],off,n,cs,hf,h,hl=>by
  simp only [TT.sizes]at hl
  refine⟨[],?_,by simp [Qgj]⟩
  rw [List.drop_of_length_le (by omega)]
  exact .nil
 | [],_::_,_,_,_,hf,_,_=>by simp [TT.fitsL]at hf
 |_::_,[],_,_,_,hf,_,_=>by simp [TT.fitsL]at hf
 |f::fs,x::xs,off,n,cs,hf,h,hl=>by
  simp only [TT.fitsL,Bool.and_eq_true]at hf
  obtain⟨⟨⟨hf1,hf2⟩,hf3⟩,hf4⟩:=hf
  have e2:=Nat.eq_of_beq_eq_true hf2
  have e3:=Nat.eq_of_beq_eq_true hf3
  simp only [TT.sizes]at hl
  obtain⟨y,hy⟩:=h 0 x (by simp)
  rw [e2,e3]at hy
  obtain⟨a,h1,h2⟩:=Qpk f x.type n _ y hf1 hy
  obtain⟨b,h3,h4⟩:=Qrk fs xs (off+f.size) n cs hf4 (fun i f hi=>h (i+1) f (by simpa using hi)) (by omega)
  refine⟨a++b,?_,by simp only [Qgj];exact⟨a,b,rfl,h2,h4⟩⟩
  have:cs.drop off=(cs.drop off).take f.size++cs.drop (off+f.size):=by
   rw [←List.drop_drop,List.take_append_drop]
  rw [this]
  exact h1.append h3
end
end
end Go.Vl

namespace Go.Vl
open Go.RowKit
section
variable {H:Type} {enc:TypeId×Value→H} {P:Program} {W W':World}
theorem Zkt {tt:TT} {t:TypeId} {v:Value} {d:DataW H} {ps:List MemPlace} {b:Nat} (hf:tt.fits P t=true) (hok:Value.okWide P W .any b t v) (h:DataW.Trod enc P W 0 (fun _=>true) true t v d ps):
  ∃cs,Qcm tt cs∧Rep W (exIm W) (tt.mk cs) v:=by
 obtain⟨fuel,h⟩:=h
 obtain⟨pvs,h1,h2⟩:=Qpk tt t fuel _ _ hf h
 refine⟨pvs,h2,?_⟩
 have single:v.cells= #[v]→(∀fs,tt≠ .agg fs)→Rep W (exIm W) (tt.mk pvs) v:=by
  intro hv hn
  rw [hv]at h1
  have hl:=h1.length
  match pvs,hl with
  | [p],_=>
   cases h1 with
   |cons _ _ _ _ h t=>
    cases tt with
    |agg fs=>exact absurd rfl (hn fs)
    |_=>exact h
 cases tt with
 |bool=>
  simp only [TT.fits]at hf
  split at hf
  ·rename_i ht;obtain⟨x,rfl⟩:=WideShapes.okWide_bool ht hok;exact single rfl (by simp)
  ·cases hf
 |int k=>
  simp only [TT.fits]at hf
  split at hf
  ·rename_i ht;obtain⟨x,rfl⟩:=WideShapes.okWide_int ht hok;exact single rfl (by simp)
  ·cases hf
 |str=>
  simp only [TT.fits]at hf
  split at hf
  ·rename_i ht;obtain⟨x,rfl⟩:=WideShapes.okWide_string ht hok;exact single rfl (by simp)
  ·cases hf
 |slc e=>
  simp only [TT.fits]at hf
  split at hf
  ·rename_i te ht;obtain⟨x,y,z,rfl⟩:=WideShapes.okWide_slice ht hok;exact single rfl (by simp)
  ·cases hf
 |agg fs=>
  simp only [TT.fits]at hf
  split at hf
  ·rename_i xs ht
   obtain⟨cs,rfl,_⟩:=WideShapes.okWide_struct ht hok
   have:=Rep.agg pvs _ h1
   simp only [Value.cells,Array.toArray_toList]at this
   exact this
  ·cases hf
def Qt6:List TT→List PV→Prop
 | [],vs=>vs=[]
 |t::ts,vs=> ∃c rest,vs=t.mk c::rest∧Qcm t c∧Qt6 ts rest
def Qjj (P:Program):List TT→List TypeId→Bool
 | [],[]=>true
 |tt::tts,t::ts=>tt.fits P t&&Qjj P tts ts
 |_,_=>false
theorem Qvs {b:Nat}: ∀(tts:List TT) (ts:List TypeId) (vs:List Value) (ds:List (DataW H)) (ps:List MemPlace),Qjj P tts ts=true→(∀(j:Nat) t v,ts[j]? =some t→vs[j]? =some v→Value.okWide P W .any b t v)→
  DataW.TrodAll enc P W 0 (fun _=>true) true ts vs ds ps→ ∃pvs,Qt6 tts pvs∧RepL W (exIm W) pvs vs∧ds.length=tts.length
 | [],[],[],[],_,_,_,_=>⟨[],rfl,.nil,rfl⟩
 |tt::tts,t::ts,v::vs,d::ds,ps,hf,hok,h=>by
  simp only [Qjj,Bool.and_eq_true]at hf
  obtain⟨p,q,h1,h2,_⟩:=h
  obtain⟨c,h3,h4⟩:=Zkt hf.1 (hok 0 t v rfl rfl) h1
  obtain⟨pvs,h5,h6,h7⟩:=Qvs tts ts vs ds q hf.2 (fun j t v e1 e2=>hok (j+1) t v (by simpa using e1) (by simpa using e2)) h2
  exact⟨tt.mk c::pvs,⟨c,pvs,rfl,h3,h5⟩,.cons _ _ _ _ h4 h6,by simp [h7]⟩
 | [],_::_,_,_,_,hf,_,_=>by simp [Qjj]at hf
 |_::_,[],_,_,_,hf,_,_=>by simp [Qjj]at hf
 | [],[],[],_::_,_,_,_,h=>h.elim
 | [],[],_::_,_,_,_,_,h=>h.elim
 |_::_,_::_,[],_,_,_,_,h=>h.elim
 |_::_,_::_,_::_,[],_,_,_,h=>h.elim
theorem Qiy {sp:Nat→Bool} (hl:laidOutB P=true) (hb:Below W.heap.size W W'): ∀(ts:List TypeId) (vs:List Value) (ds:List (DataW H)) (ps:List MemPlace),(∀t∈ts,P.readableRec t=true∧t<P.types.size)→
  DataW.TrodAll enc P W 0 (fun _=>true) true ts vs ds ps→(∀p∈ps,p.block<W.heap.size)→(∀p∈ps,sp p.block=true)→DataW.TrodAll enc P W' 0 sp true ts vs ds ps
 | [],[],[],_,_,h,_,_=>h
 |t::ts,v::vs,d::ds,ps,ht,⟨p,q,h1,h2,e⟩,hlt,hs=>by
  subst e
  refine⟨p,q,?_,Qiy hl hb ts vs ds q (fun t h=>ht t (List.mem_cons_of_mem _ h)) h2 (fun x hx=>hlt x (List.mem_append_right _ hx)) (fun x hx=>hs x (List.mem_append_right _ hx)),rfl⟩
  exact WideElems.Trod_stays hl (ht t (by simp)).1 (ht t (by simp)).2 h1 (fun x hx=>hb.same (hlt x (List.mem_append_left _ hx))) (fun x hx=>hs x (List.mem_append_left _ hx))
 | [],[],_::_,_,_,h,_,_=>h.elim
 | [],_::_,_,_,_,h,_,_=>h.elim
 |_::_,[],_,_,_,h,_,_=>h.elim
 |_::_,_::_,[],_,_,h,_,_=>h.elim
theorem Qt7 {fn:Func} {s:ChangeSpec} {apart fresh handsOn again:Bool} {args:Array Value} {ds gs:List (DataW H)} {before:List MemPlace} {tb:TypeId} (hl:laidOutB P=true) (hvars:s.vars=[]) (hres:fn.resultTypes= #[tb])
  (hbool:P.underlying tb=some .bool) (hts: ∀t∈fn.params.toList,P.readableRec t=true∧t<P.types.size) (hW:DataW.Whole enc P fn.params.toList s.vars apart W args.toList ds gs before)
  (hs:s.fn H (ds++gs)={results:=[.lit (.bool true)],args:=ds}) (hb:Below W.heap.size W W'):s.post enc P fn apart fresh handsOn again W args (.bool true) W':=by
 have hlt:=hW.lt
 have hW':=hW
 obtain⟨p,q,hA,hV,rfl,hz,hn⟩:=hW
 rw [hvars]at hV
 obtain⟨rfl,rfl⟩:=ChangeShapes.trodVars_none hV
 have hargs: ∀sp:Nat→Bool,(∀x∈p,sp x.block=true)→DataW.TrodAll enc P W' 0 sp true fn.params.toList args.toList ds p:=fun sp hsp=>
  Qiy hl hb _ _ _ _ hts hA (fun x hx=>hlt x (by simpa using hx)) hsp
 have hres': ∀(b:Nat) (sp:Nat→Bool) (hd:Bool),DataW.TrodAll enc P W' b sp hd fn.resultTypes.toList ((Value.bool true).resultList fn.resultTypes.size) [.lit (.bool true)] []:=by
  intro b sp hd
  rw [hres]
  exact ChangeShapes.trodAll_mk1 (shut_bool hbool true)
 have hok: ∀(j:Nat) (t:TypeId) (r:Value),fn.resultTypes[j]? =some t→((Value.bool true).resultList fn.resultTypes.size)[j]? =some r→Value.okWide P W' .any 0 t r:=ok_one hres rfl (okWide_bool_mk hbool true)
 have hvs: ∀sp:Nat→Bool,DataW.TrodVars enc P W' sp s.vars [] []:=fun sp=>by rw [hvars];rfl
 refine⟨ds,[],p++[],[],p,[],hW',?_,?_,?_,?_,fun _=>⟨hok,[.lit (.bool true)]++ds,[],([]++p)++[],⟨[]++p,[],?_,hvs _,rfl,?_,?_⟩,?_⟩⟩
 ·rw [hs];exact hres' _ _ _
 ·rw [hs];exact hargs _ fun x hx=>by simpa using hlt x (by simpa using hx)
 ·rw [hs];exact hvs _
 ·exact World.keptBut_mono (fun _ f=>f.elim) (hb.frame fun _=>False)
 ·exact ChangeShapes.trodAll_append (hargs _ fun _ _=>rfl) (hres' _ _ _)
 ·intro b off hp
  have hp':MemPlace.cell b off∈p:=by simpa using hp
  have:=hz b off (by simpa using hp')
  have hlt':=hlt _ (show MemPlace.cell b off∈p++[]by simpa using hp')
  rw [←this]
  exact hb.frozen hlt'
 ·intro ha
  have:=hn ha
  simpa using this
 ·intro x hx _
  simpa using hx
theorem Qyu {a:Assume} {C:Checked} {os:Os} {f:FuncId} {fn:Func} {s:ChangeSpec} {conds:List PathCond} {apart fresh handsOn again:Bool} {tb:TypeId} (tts:List TT)
  (own:ownKnob C.prog.godebug=none) (started:os.Started) (noInit:C.prog.inits.idxOf? f=none) (hfn:C.prog.funcs[f]? =some fn)
  (witness: ∃(w:World) (tape:Tape) (i:Input),w.os=os∧(w.forCall tape i).Shaped C.prog∧i.vars=[]∧Input.okWide C.prog (w.forCall tape i) .any w.heap.size f i∧
   s.pre6 enc C.prog fn conds apart (w.forCall tape i).memory i.args∧a.holds C.prog (lone (Frame.enter C.prog f i.args .normal) [] (w.forCall tape i)))
  (hl:laidOutB C.prog=true) (hvars:s.vars=[]) (hres:fn.resultTypes= #[tb]) (hbool:C.prog.underlying tb=some .bool) (hts:(fn.params.toList.all fun t=>C.prog.readableRec t&&decide (t<C.prog.types.size))=true)
  (hfit:Qjj C.prog tts fn.params.toList=true) (hs: ∀ds:List (DataW H),ds.length=tts.length→s.fn H ds={results:=[.lit (.bool true)],args:=ds})
  (hcl:callable C.prog f=true) (hnv:C.prog.globalNamed Qta=none) (law: ∀pvs,Qt6 tts pvs→Qag C.prog f pvs (.bool true)):
  ReturnsInHanded a C os f .any (s.pre6 enc C.prog fn conds apart) (s.post enc C.prog fn apart fresh handsOn again):=by
 refine returnsInHanded_of_change own started noInit hfn witness ?_
 intro W base args ds gs before hval hW _ _
 have hW':=hW
 obtain⟨p,q,hA,hV,rfl,hz,hn⟩:=hW
 rw [hvars]at hV
 obtain⟨rfl,rfl⟩:=ChangeShapes.trodVars_none hV
 obtain⟨pvs,h1,h2,h3⟩:=Qvs tts fn.params.toList args.toList ds p hfit (fun j t v e1 e2=>hval j t v (by simpa using e1) (by simpa using e2)) hA
 have hts': ∀t∈fn.params.toList,C.prog.readableRec t=true∧t<C.prog.types.size:=by
  intro t ht
  have:=List.all_eq_true.1 hts t ht
  simpa using this
 have hcall:=((law pvs h1).resolve_right (fun x=>by rw [hcl]at x;cases x.1)).2 W (exIm W) args.toList W.heap.size (Nat.le_refl _) (fun g hg=>by rw [hnv]at hg;cases hg) h2 (fun g j x=>x)
 refine(by simpa using hcall:Calls C.prog f args W _).mono ?_
 rintro e W' ⟨v,rfl,hb,hr⟩
 have hv:v= .bool true:=by cases hr;rfl
 subst hv
 exact⟨_,rfl,Qt7 hl hvars hres hbool hts' hW' (by rw [List.append_nil];exact hs ds h3) hb⟩
end
end Go.Vl

namespace Go.Vl
theorem Zps:List.range 1=[0]:=rfl
theorem Zpt:List.range 2=[0,1]:=rfl
theorem Zpu:List.range 3=[0,1,2]:=rfl
theorem Zpv:List.range 4=[0,1,2,3]:=rfl
theorem Zpw:List.range 5=[0,1,2,3,4]:=rfl
theorem Zpx:List.range 6=[0,1,2,3,4,5]:=rfl
theorem Zpy:List.range 7=[0,1,2,3,4,5,6]:=rfl
theorem Zpz:List.range 8=[0,1,2,3,4,5,6,7]:=rfl
section
variable (cs:List PV) (b:Bool) (k:IntKind) (n:Int) (s:ByteArray) (e i o l:Nat) (f:FuncId) (a c:List PV)
theorem Zp0:(PV.agg cs).cells=cs:=rfl
theorem Znq:(PV.bool b).cells=[.bool b]:=rfl
theorem Znr:(PV.int k n).cells=[.int k n]:=rfl
theorem Zp1:(PV.str s).cells=[.str s]:=rfl
theorem Zns:PV.nilS.cells=[.nilS]:=rfl
theorem Znt:PV.nilF.cells=[.nilF]:=rfl
theorem Znu:PV.nilI.cells=[.nilI]:=rfl
theorem Zp2:(PV.slc cs).cells=[.slc cs]:=rfl
theorem Zp3:(PV.tup cs).cells=[.tup cs]:=rfl
theorem c_rp:(PV.rp cs).cells=[.rp cs]:=rfl
theorem c_bp:(PV.bp e i o l).cells=[.bp e i o l]:=rfl
theorem c_bs:(PV.bs e i o l).cells=[.bs e i o l]:=rfl
theorem c_fn:(PV.fn f a c).cells=[.fn f a c]:=rfl
theorem Zp4:(PV.agg cs).okCell=false:=rfl
theorem Znv:(PV.bool b).okCell=true:=rfl
theorem Zp5:(PV.int k n).okCell=true:=rfl
theorem Zp6:(PV.str s).okCell=true:=rfl
theorem Znw:PV.nilS.okCell=true:=rfl
theorem Znx:PV.nilF.okCell=true:=rfl
theorem Zny:PV.nilI.okCell=true:=rfl
theorem Zp7:(PV.slc cs).okCell=true:=rfl
theorem Zp8:(PV.tup cs).okCell=false:=rfl
theorem k_rp:(PV.rp cs).okCell=true:=rfl
theorem k_bp:(PV.bp e i o l).okCell=true:=rfl
theorem k_bs:(PV.bs e i o l).okCell=true:=rfl
theorem k_fn:(PV.fn f a c).okCell=true:=rfl
end
attribute [go_sem] Zp0 Znq Znr Zp1 Zns Znt Znu Zp2 Zp3 c_rp c_bp c_bs c_fn Zp4 Znv Zp5 Zp6 Znw Znx Zny Zp7 Zp8 k_rp k_bp k_bs k_fn Int.toNat_natCast Int.toNat_zero Int.le_refl
theorem Q6d (P:Program) (id:Nat) (bx:Bx) (fo:Operand) (xs0:Array Operand) (ts:Array TypeId) (f:FuncId) (first cap args:List PV):Qa6 P [] id (.call ⟨.value fo,xs0,ts⟩) (.fn f first cap::args) bx=
  M.bind (Qe4 first) (fun x=> .bind (Qfw args) fun y=> .bind (Qe4 cap) fun z=> .pure (.call f (x.1++y.1++z.1) (x.2++y.2++z.2))) bx:=rfl
attribute [go_sem] Q6d
theorem Qyv:(none:Option Operand).toArray= #[]:=rfl
theorem Qyw (x:Operand):(some x).toArray= #[x]:=rfl
attribute [go_sem] Qyv Qyw List.range_zero Nat.le_refl Nat.zero_le
attribute [go_sem] Zpb Zpc Zke Zni Zkf Zpd Zkg Znj Q5p Qyl Qtu Q5q
attribute [go_sem] Zpe Znk Qym Qtv Zdb Zdc Q5r Qpe Qrg Qyn Q5s Q5t
attribute [go_sem] Qyo Qn1 Qyp Qtw Zdd Qtx Qyq Zne Zc1 Qpb Qpc Qpd
attribute [go_sem] Zc2 Zc3 Zj5 Zoo Zj6 Qrf Q5k Q5l Zj7 Zop Zoq Zor
attribute [go_sem] Znf Qyk Qtr Zc4 Zc5 Zc6 Zc7 Qmu Qmv Zj8 Qmw Qmx
attribute [go_sem] Qmy Ql9 Qts Qtt Q5m Zos Zc8 Zot Zou Zep Zeq Zng
attribute [go_sem] Zj9 Zov Zow Zox Zoy Zoz Zo0 Znh b_or Zo1 Zo2 Zo3
attribute [go_sem] Zo4 Zo5 Zo6 Zo7 Zo8 Zka Zo9 Zpa Qrd Qb4 Qiq St.evs
attribute [go_sem] St.ev Op.operands Call.operands M.bind M.pure M.ofOpt M.ok M.soft M.hard Znb Qtp Zeo
attribute [go_sem] Qgf Q5f Zkc Qg2 lkp Qdv Qei Qcb Qce Qcy Qa9 Eff.on
attribute [go_sem] Qb9 Eff.id Eff.hard Qpa Qev Qo9 Ql7 esc0 escL escC Qe4 esc1
attribute [go_sem] Qfw Qc7 Vl.newVar Qbn    PV.putCells PV.one Qfs Q46 Qtg Box.soft
attribute [go_sem] List.toList_toArray List.getElem?_toArray List.getElem?_cons_zero List.getElem?_cons_succ Option.bind_some Option.map_some Option.bind_none Option.map_none List.map_cons List.map_nil List.append_nil List.nil_append
attribute [go_sem] List.cons_append decide_true decide_false if_true if_false true_and and_true Bool.and_true Bool.true_and Bool.and_self beq_self_eq_true List.all_cons
attribute [go_sem] List.all_nil List.length_cons List.length_nil Nat.zero_add Nat.add_zero Nat.zero_mul List.drop_zero List.contains_cons gt_iff_lt ge_iff_le Option.isNone_none Option.isNone_some
attribute [go_sem] Array.toList_empty Array.append_empty Array.empty_append List.size_toArray List.take_zero List.push_toArray List.append_toArray Option.isSome_some Option.isSome_none List.drop_succ_cons List.take_succ_cons List.take_nil
attribute [go_sem] List.drop_nil List.getElem_cons_zero List.getElem_cons_succ Nat.not_lt_zero Bool.false_eq_true Bool.true_eq_false not_true_eq_false not_false_eq_true if_neg Nat.lt_irrefl Bool.not_true Bool.not_false
attribute [go_sem] Bool.and_false Bool.false_and Bool.or_false Bool.or_true Bool.false_or Bool.true_or List.flatMap_cons List.flatMap_nil List.set_cons_zero List.set_cons_succ beq_true beq_false
attribute [go_sem] Bool.true_beq Bool.false_beq eq_self Bool.not_not ite_self ne_eq Znc Q5g Zj4 Qch Qcp Qd4
attribute [go_sem] Qnm Qjq Qg7 Qgy Qoy Qln Qtc Qii Qfj Box.over Qbj Qfi Q4t
attribute [go_sem] Qx5 Qf9 Qlm Qe5 rlk land Qe6 ren0 Qap ren1 Qlk ren2
attribute [go_sem] Qj9 flatr Qqr Qqs flatc Qll Box.ext LENT YID List.zip_cons_cons List.zip_nil_left List.zip_nil_right
attribute [go_sem] Zc9 Zda Zkb Qih List.isEmpty_cons List.isEmpty_map
attribute [go_sem] Zps Zpt Zpu Zpv Zpw Zpx Zpy Zpz Option.getD_some Option.getD_none
section
variable {vs vs':List (Nat×PV)} {bs bs':List (Nat×Box)} {o:List (List PV)} {y:Yl}
theorem Zku (t b esz:Nat) (ety:TypeId) (hbL:Nat.blt b LENT=true) (ht:lkp vs t=some .nilS) (hb:lkp bs b=none) (hz:0<esz):
  Le (St.ofG vs bs o y) (St.ofG ((t,.bs b esz 0 0)::vs) ((b,{els:=[],esz:=esz,ety:=ety,fro:=0,live:=true,arr:=true})::bs) o y):=Znd hbL ht hb hz
theorem Qhs (t b esz:Nat) (ety:TypeId) (hbL:Nat.blt b LENT=true) (ht:lkp vs t=some .nilS) (hb:lkp bs b=none) (hz:0<esz) (θ:List (Nat×Nat)) (hθ:Qjh θ bs'=true)
  (hv:Qad θ ((t,.bs b esz 0 0)::vs) vs') (hbx:Qak θ ((b,{els:=[],esz:=esz,ety:=ety,fro:=0,live:=true,arr:=true})::bs) bs'):Le (St.ofG vs bs o y) (St.ofG vs' bs' o y):=
 (Zku t b esz ety hbL ht hb hz).trans (Qal hθ hv hbx)
end
end Go.Vl
