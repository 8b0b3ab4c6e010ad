/-
  US, UV, HTy, Dg, HA1, Dn, HA2 (merged for the claim).
-/
import Derived.Test.YtciddhkfbgkejaaGreatDoorUR
import Derived.Attr
import Derived.Test.YtciddhkfbgkejaaGreatDoorProg
set_option linter.unusedSimpArgs false
set_option linter.unusedVariables false
namespace Go.Vl
open Go.RowKit
section
variable {H:Type} {enc:TypeId×Value→H} {P:Program} {W W':World}
theorem Zlv {tt:TT} {t:TypeId} {v:Value} {d:DataW H} {ps:List MemPlace} {b:Nat} (hf:tt.fits P t=true) (hok:Value.okWide P W .any b t v) (h:DataW.Trod enc P W 0 (fun _=>true) true t v d ps):
  ∃cs,Qb4 tt cs∧Rep W (exIm W) (tt.mk cs) v:=by
 obtain⟨fuel,h⟩:=h
 obtain⟨pvs,h1,h2⟩:=Qq0 tt t fuel _ _ hf h
 refine⟨pvs,h2,?_⟩
 have single:v.cells= #[v]→(∀fs,tt≠ .agg fs)→Rep W (exIm W) (tt.mk pvs) v:=by
  intro hv hn
  rw [hv]at h1
  have hl:=h1.length
  match pvs,hl with
  | [p],_=>
   cases h1 with
   |cons _ _ _ _ h t=>
    cases tt with
    |agg fs=>exact absurd rfl (hn fs)
    |_=>exact h
 cases tt with
 |bool=>
  simp only [TT.fits]at hf
  split at hf
  ·rename_i ht;obtain⟨x,rfl⟩:=WideShapes.okWide_bool ht hok;exact single rfl (by simp)
  ·cases hf
 |int k=>
  simp only [TT.fits]at hf
  split at hf
  ·rename_i ht;obtain⟨x,rfl⟩:=WideShapes.okWide_int ht hok;exact single rfl (by simp)
  ·cases hf
 |str=>
  simp only [TT.fits]at hf
  split at hf
  ·rename_i ht;obtain⟨x,rfl⟩:=WideShapes.okWide_string ht hok;exact single rfl (by simp)
  ·cases hf
 |slc e=>
  simp only [TT.fits]at hf
  split at hf
  ·rename_i te ht;obtain⟨x,y,z,rfl⟩:=WideShapes.okWide_slice ht hok;exact single rfl (by simp)
  ·cases hf
 |agg fs=>
  simp only [TT.fits]at hf
  split at hf
  ·rename_i xs ht
   obtain⟨cs,rfl,_⟩:=WideShapes.okWide_struct ht hok
   have:=Rep.agg pvs _ h1
   simp only [Value.cells,Array.toArray_toList]at this
   exact this
  ·cases hf
def Qvp:List TT→List PV→Prop
 | [],vs=>vs=[]
 |t::ts,vs=> ∃c rest,vs=t.mk c::rest∧Qb4 t c∧Qvp ts rest
def Qj6 (P:Program):List TT→List TypeId→Bool
 | [],[]=>true
 |tt::tts,t::ts=>tt.fits P t&&Qj6 P tts ts
 |_,_=>false
theorem Qxs {b:Nat}: ∀(tts:List TT) (ts:List TypeId) (vs:List Value) (ds:List (DataW H)) (ps:List MemPlace),Qj6 P tts ts=true→(∀(j:Nat) t v,ts[j]? =some t→vs[j]? =some v→Value.okWide P W .any b t v)→
  DataW.TrodAll enc P W 0 (fun _=>true) true ts vs ds ps→ ∃pvs,Qvp tts pvs∧RepL W (exIm W) pvs vs∧ds.length=tts.length
 | [],[],[],[],_,_,_,_=>⟨[],rfl,.nil,rfl⟩
 |tt::tts,t::ts,v::vs,d::ds,ps,hf,hok,h=>by
  simp only [Qj6,Bool.and_eq_true]at hf
  obtain⟨p,q,h1,h2,_⟩:=h
  obtain⟨c,h3,h4⟩:=Zlv hf.1 (hok 0 t v rfl rfl) h1
  obtain⟨pvs,h5,h6,h7⟩:=Qxs tts ts vs ds q hf.2 (fun j t v e1 e2=>hok (j+1) t v (by simpa using e1) (by simpa using e2)) h2
  exact⟨tt.mk c::pvs,⟨c,pvs,rfl,h3,h5⟩,.cons _ _ _ _ h4 h6,by simp [h7]⟩
 | [],_::_,_,_,_,hf,_,_=>by simp [Qj6]at hf
 |_::_,[],_,_,_,hf,_,_=>by simp [Qj6]at hf
 | [],[],[],_::_,_,_,_,h=>h.elim
 | [],[],_::_,_,_,_,_,h=>h.elim
 |_::_,_::_,[],_,_,_,_,h=>h.elim
 |_::_,_::_,_::_,[],_,_,_,h=>h.elim
theorem Qji {sp:Nat→Bool} (hl:laidOutB P=true) (hb:Below W.heap.size W W'): ∀(ts:List TypeId) (vs:List Value) (ds:List (DataW H)) (ps:List MemPlace),(∀t∈ts,P.readableRec t=true∧t<P.types.size)→
  DataW.TrodAll enc P W 0 (fun _=>true) true ts vs ds ps→(∀p∈ps,p.block<W.heap.size)→(∀p∈ps,sp p.block=true)→DataW.TrodAll enc P W' 0 sp true ts vs ds ps
 | [],[],[],_,_,h,_,_=>h
 |t::ts,v::vs,d::ds,ps,ht,⟨p,q,h1,h2,e⟩,hlt,hs=>by
  subst e
  refine⟨p,q,?_,Qji hl hb ts vs ds q (fun t h=>ht t (List.mem_cons_of_mem _ h)) h2 (fun x hx=>hlt x (List.mem_append_right _ hx)) (fun x hx=>hs x (List.mem_append_right _ hx)),rfl⟩
  exact WideElems.Trod_stays hl (ht t (by simp)).1 (ht t (by simp)).2 h1 (fun x hx=>hb.same (hlt x (List.mem_append_left _ hx))) (fun x hx=>hs x (List.mem_append_left _ hx))
 | [],[],_::_,_,_,h,_,_=>h.elim
 | [],_::_,_,_,_,h,_,_=>h.elim
 |_::_,[],_,_,_,h,_,_=>h.elim
 |_::_,_::_,[],_,_,h,_,_=>h.elim
theorem Qvq {fn:Func} {s:ChangeSpec} {apart fresh handsOn again:Bool} {args:Array Value} {ds gs:List (DataW H)} {before:List MemPlace} {tb:TypeId} (hl:laidOutB P=true) (hvars:s.vars=[]) (hres:fn.resultTypes= #[tb])
  (hbool:P.underlying tb=some .bool) (hts: ∀t∈fn.params.toList,P.readableRec t=true∧t<P.types.size) (hW:DataW.Whole enc P fn.params.toList s.vars apart W args.toList ds gs before)
  (hs:s.fn H (ds++gs)={results:=[.lit (.bool true)],args:=ds}) (hb:Below W.heap.size W W'):s.post enc P fn apart fresh handsOn again W args (.bool true) W':=by
 have hlt:=hW.lt
 have hW':=hW
 obtain⟨p,q,hA,hV,rfl,hz,hn⟩:=hW
 rw [hvars]at hV
 obtain⟨rfl,rfl⟩:=ChangeShapes.trodVars_none hV
 have hargs: ∀sp:Nat→Bool,(∀x∈p,sp x.block=true)→DataW.TrodAll enc P W' 0 sp true fn.params.toList args.toList ds p:=fun sp hsp=>
  Qji hl hb _ _ _ _ hts hA (fun x hx=>hlt x (by simpa using hx)) hsp
 have hres': ∀(b:Nat) (sp:Nat→Bool) (hd:Bool),DataW.TrodAll enc P W' b sp hd fn.resultTypes.toList ((Value.bool true).resultList fn.resultTypes.size) [.lit (.bool true)] []:=by
  intro b sp hd
  rw [hres]
  exact ChangeShapes.trodAll_mk1 (shut_bool hbool true)
 have hok: ∀(j:Nat) (t:TypeId) (r:Value),fn.resultTypes[j]? =some t→((Value.bool true).resultList fn.resultTypes.size)[j]? =some r→Value.okWide P W' .any 0 t r:=ok_one hres rfl (okWide_bool_mk hbool true)
 have hvs: ∀sp:Nat→Bool,DataW.TrodVars enc P W' sp s.vars [] []:=fun sp=>by rw [hvars];rfl
 refine⟨ds,[],p++[],[],p,[],hW',?_,?_,?_,?_,fun _=>⟨hok,[.lit (.bool true)]++ds,[],([]++p)++[],⟨[]++p,[],?_,hvs _,rfl,?_,?_⟩,?_⟩⟩
 ·rw [hs];exact hres' _ _ _
 ·rw [hs];exact hargs _ fun x hx=>by simpa using hlt x (by simpa using hx)
 ·rw [hs];exact hvs _
 ·exact World.keptBut_mono (fun _ f=>f.elim) (hb.frame fun _=>False)
 ·exact ChangeShapes.trodAll_append (hargs _ fun _ _=>rfl) (hres' _ _ _)
 ·intro b off hp
  have hp':MemPlace.cell b off∈p:=by simpa using hp
  have:=hz b off (by simpa using hp')
  have hlt':=hlt _ (show MemPlace.cell b off∈p++[]by simpa using hp')
  rw [←this]
  exact hb.frozen hlt'
 ·intro ha
  have:=hn ha
  simpa using this
 ·intro x hx _
  simpa using hx
end
end Go.Vl

namespace Go.Vl
theorem Zqz:List.range 1=[0]:=rfl
theorem Zq0:List.range 2=[0,1]:=rfl
theorem Zq1:List.range 3=[0,1,2]:=rfl
theorem Zq2:List.range 4=[0,1,2,3]:=rfl
theorem Zq3:List.range 5=[0,1,2,3,4]:=rfl
theorem Zq4:List.range 6=[0,1,2,3,4,5]:=rfl
theorem Zq5:List.range 7=[0,1,2,3,4,5,6]:=rfl
theorem Zq6:List.range 8=[0,1,2,3,4,5,6,7]:=rfl
section
variable (cs:List PV) (b:Bool) (k:IntKind) (n:Int) (s:ByteArray) (e i o l:Nat) (f:FuncId) (a c:List PV)
theorem Zq7:(PV.agg cs).cells=cs:=rfl
theorem Zox:(PV.bool b).cells=[.bool b]:=rfl
theorem Zoy:(PV.int k n).cells=[.int k n]:=rfl
theorem Zq8:(PV.str s).cells=[.str s]:=rfl
theorem Zoz:PV.nilS.cells=[.nilS]:=rfl
theorem Zo0:PV.nilF.cells=[.nilF]:=rfl
theorem Zo1:PV.nilI.cells=[.nilI]:=rfl
theorem Zq9:(PV.slc cs).cells=[.slc cs]:=rfl
theorem Zra:(PV.tup cs).cells=[.tup cs]:=rfl
theorem c_rp:(PV.rp cs).cells=[.rp cs]:=rfl
theorem c_bp:(PV.bp e i o l).cells=[.bp e i o l]:=rfl
theorem c_bs:(PV.bs e i o l).cells=[.bs e i o l]:=rfl
theorem c_fn:(PV.fn f a c).cells=[.fn f a c]:=rfl
theorem Zrb:(PV.agg cs).okCell=false:=rfl
theorem Zo2:(PV.bool b).okCell=true:=rfl
theorem Zrc:(PV.int k n).okCell=true:=rfl
theorem Zrd:(PV.str s).okCell=true:=rfl
theorem Zo3:PV.nilS.okCell=true:=rfl
theorem Zo4:PV.nilF.okCell=true:=rfl
theorem Zo5:PV.nilI.okCell=true:=rfl
theorem Zre:(PV.slc cs).okCell=true:=rfl
theorem Zrf:(PV.tup cs).okCell=false:=rfl
theorem k_rp:(PV.rp cs).okCell=true:=rfl
theorem k_bp:(PV.bp e i o l).okCell=true:=rfl
theorem k_bs:(PV.bs e i o l).okCell=true:=rfl
theorem k_fn:(PV.fn f a c).okCell=true:=rfl
end
attribute [go_sem] Zq7 Zox Zoy Zq8 Zoz Zo0 Zo1 Zq9 Zra c_rp c_bp c_bs c_fn Zrb Zo2 Zrc Zrd Zo3 Zo4 Zo5 Zre Zrf k_rp k_bp k_bs k_fn Int.toNat_natCast Int.toNat_zero Int.le_refl
theorem Q8f (P:Program) (id:Nat) (bx:Bx) (fo:Operand) (xs0:Array Operand) (ts:Array TypeId) (f:FuncId) (first cap args:List PV):Qa3 P [] id (.call ⟨.value fo,xs0,ts⟩) (.fn f first cap::args) bx=
  M.bind (Qfj first) (fun x=> .bind (Qfx args) fun y=> .bind (Qfj cap) fun z=> .pure (.call f (x.1++y.1++z.1) (x.2++y.2++z.2))) bx:=rfl
attribute [go_sem] Q8f
theorem Qq1 (P:Program) (id:Nat) (bx:Bx) (T n:Nat) (parts:Array (Nat×Operand)) (vs:List PV):Qa3 P [] id (.buildSlice T n parts) vs bx=
  M.bind (.ok (parts.toList.map (·.1)==List.range n&&n≤1000)) (fun _=> .bind (.ofOpt (Qb2 P T)) fun E=> .bind (.ofOpt (Qaz P E)) fun q=>
   .bind (.ofOpt (Qa7 P E)) fun z=> .bind (.hard id) fun b=> .bind (Qfx vs) fun ys=>
   .bind (.ok (b.isNone&&z.cells.length==q.1&&ys.1.length==n&&(ys.1.all fun e=>e.cells.length==q.1&&Qa8 e.cells)&&0<q.1&&q.1≤1000)) fun _=>
   .pure (.done (.bs id q.1 0 n) (ys.2++[.new id {els:=ys.1,esz:=q.1,ety:=E,fro:=0,live:=true,arr:=true}]))) bx:=rfl
theorem Q8g (P:Program) (id:Nat) (bx:Bx) (asx:Array Operand) (ts:Array TypeId) (s x:PV):Qa3 P [] id (.call ⟨.builtin .append,asx,ts⟩) [s,x] bx=
  M.bind (.ofOpt ts[0]?) (fun t=> .bind (.ofOpt ts[1]?) fun t2=> .bind (.ok (ts.size==2)) fun _=>Qdn P id t t2 s x) bx:=rfl
attribute [go_sem] Qq1 Q8g Qqv Q7u Qi0 appendD
theorem Q0e:(none:Option Operand).toArray= #[]:=rfl
theorem Q0f (x:Operand):(some x).toArray= #[x]:=rfl
attribute [go_sem] Q0e Q0f List.range_zero Nat.le_refl Nat.zero_le
attribute [go_sem] Zqu Zqv Zll Zos Zlm Zqw Zln Zot Q7x Qz6 Qvh Q7y
attribute [go_sem] Zqx Zou Qz7 Qvi Zfk Zfl Q7z Qqw Qtc Qz8 Q70 Q71
attribute [go_sem] Qz9 Qou Q0a Qvj Zfm Qvk Q0b Zoo Zfa Qqs Qqt Qqu
attribute [go_sem] Zfb Zfc Zlc Zp7 Zld Qtb Q7r Q7s Zle Zp8 Zp9 Zqa
attribute [go_sem] Zop Qz5 Qve Zfd Zfe Zff Zfg Qnm Qnn Zlf Qno Qnp
attribute [go_sem] Qnq Qnd Qvf Qvg Q7t Zqb Zfh Zqc Zqd Zgk Zgl Zoq
attribute [go_sem] Zlg Zqe Zqf Zqg Zqh Zqi Zqj Zor b_or Zqk Zql Zqm
attribute [go_sem] Zqn Zqo Zqp Zqq Zqr Zlh Zqs Zqt Qs9 Qb6 Qjb St.evs
attribute [go_sem] St.ev Op.operands Call.operands M.bind M.pure M.ofOpt M.ok M.soft M.hard Zol Qvc Zgj
attribute [go_sem] Qex Q7m Zlj Qhi lkp Qd1 Qet Qcc Qbw Qck Qa2 Eff.on
attribute [go_sem] Qca Eff.id Eff.hard Qqq Qe5 Qqp Qnb esc0 escS Q60 escE Qzl escL escC Qfj esc1
attribute [go_sem] Qfx Qc9 Vl.newVar Qa8    PV.putCells PV.one Qgb Q7e Qu2 Box.soft
attribute [go_sem] List.toList_toArray List.getElem?_toArray List.getElem?_cons_zero List.getElem?_cons_succ Option.bind_some Option.map_some Option.bind_none Option.map_none List.map_cons List.map_nil List.append_nil List.nil_append
attribute [go_sem] List.cons_append decide_true decide_false if_true if_false true_and and_true Bool.and_true Bool.true_and Bool.and_self beq_self_eq_true List.all_cons
attribute [go_sem] List.all_nil List.length_cons List.length_nil Nat.zero_add Nat.add_zero Nat.zero_mul List.drop_zero List.contains_cons gt_iff_lt ge_iff_le Option.isNone_none Option.isNone_some
attribute [go_sem] Array.toList_empty Array.append_empty Array.empty_append List.size_toArray List.take_zero List.push_toArray List.append_toArray Option.isSome_some Option.isSome_none List.drop_succ_cons List.take_succ_cons List.take_nil
attribute [go_sem] List.drop_nil List.getElem_cons_zero List.getElem_cons_succ Nat.not_lt_zero Bool.false_eq_true Bool.true_eq_false not_true_eq_false not_false_eq_true if_neg Nat.lt_irrefl Bool.not_true Bool.not_false
attribute [go_sem] Bool.and_false Bool.false_and Bool.or_false Bool.or_true Bool.false_or Bool.true_or List.flatMap_cons List.flatMap_nil List.set_cons_zero List.set_cons_succ beq_true beq_false
attribute [go_sem] Bool.true_beq Bool.false_beq eq_self Bool.not_not ite_self ne_eq Zom Q7n Zlb Qcl Qcu Qdn
attribute [go_sem] Qoc Qkd Qhq Qhd Qp9 Qmr Quw Qi1 Qfy Box.over Qbi Qdl Q61
attribute [go_sem] Qzm Qod Qzn Qgq Qmq Qd8 rlk land Qfk ren0 Qal ren1 Qsh ren2
attribute [go_sem] Qkz flatr Qsi Qsj flatc Qh1 Box.ext Box.idr Qzo LENT YID List.zip_cons_cons List.zip_nil_left List.zip_nil_right
attribute [go_sem] Zfi Zfj Zli Qiz List.isEmpty_cons List.isEmpty_map
attribute [go_sem] Zqz Zq0 Zq1 Zq2 Zq3 Zq4 Zq5 Zq6 Option.getD_some Option.getD_none
section
variable {vs vs':List (Nat×PV)} {bs bs':List (Nat×Box)} {o:List (List PV)} {y:Yl}
theorem Zlw (t b esz:Nat) (ety:TypeId) (hbL:Nat.blt b LENT=true) (ht:lkp vs t=some .nilS) (hb:lkp bs b=none) (hz:0<esz):
  Le (St.ofG vs bs o y) (St.ofG ((t,.bs b esz 0 0)::vs) ((b,{els:=[],esz:=esz,ety:=ety,fro:=0,live:=true,arr:=true})::bs) o y):=Zon hbL ht hb hz
theorem Qf8 (t b esz:Nat) (ety:TypeId) (hbL:Nat.blt b LENT=true) (ht:lkp vs t=some .nilS) (hb:lkp bs b=none) (hz:0<esz) (θ:List (Nat×Nat)) (hθ:Qqo θ bs'=true)
  (hv:Qad θ ((t,.bs b esz 0 0)::vs) vs') (hbx:Qam θ ((b,{els:=[],esz:=esz,ety:=ety,fro:=0,live:=true,arr:=true})::bs) bs'):Le (St.ofG vs bs o y) (St.ofG vs' bs' o y):=
 (Zlw t b esz ety hbL ht hb hz).trans (Qaj hθ hv hbx)
end
end Go.Vl

namespace Go.Proofs.YtciddhkfbgkejaaGreatDoor
open Go.Vl
theorem mixed:Tryz.prog.follows .mixedOrders=true:=by kernel_rfl
theorem Zp2:tyOk Tryz.prog 3=true:=by kernel_rfl
theorem Zna:Qch Tryz.prog 3=false:=by kernel_rfl
theorem Q21:(Tryz.prog.info? 3).isSome=true:=by kernel_rfl
theorem Zhw:Qaz Tryz.prog 3=some (1,8):=by kernel_rfl
theorem Q97:Tryz.prog.cellsOf 3=1:=by kernel_rfl
theorem Zhx:Qa7 Tryz.prog 3=some (PV.int IntKind.i64 0):=by kernel_rfl
theorem Znb:Tryz.prog.underlying 3=some (.int .i64):=by kernel_rfl
theorem Zp3:tyOk Tryz.prog 4=true:=by kernel_rfl
theorem Znc:Qch Tryz.prog 4=false:=by kernel_rfl
theorem Q22:(Tryz.prog.info? 4).isSome=true:=by kernel_rfl
theorem Zhy:Qaz Tryz.prog 4=some (1,1):=by kernel_rfl
theorem Q98:Tryz.prog.cellsOf 4=1:=by kernel_rfl
theorem Zhz:Qa7 Tryz.prog 4=some (PV.bool Bool.false):=by kernel_rfl
theorem Zh0:Tryz.prog.underlying 4=some .bool:=by kernel_rfl
theorem Zp4:tyOk Tryz.prog 5=true:=by kernel_rfl
theorem Znd:Qch Tryz.prog 5=false:=by kernel_rfl
theorem Q23:(Tryz.prog.info? 5).isSome=true:=by kernel_rfl
theorem Zh1:Qaz Tryz.prog 5=some (1,1):=by kernel_rfl
theorem Q99:Tryz.prog.cellsOf 5=1:=by kernel_rfl
theorem Zh2:Qa7 Tryz.prog 5=some (PV.int IntKind.u8 0):=by kernel_rfl
theorem Zne:Tryz.prog.underlying 5=some (.int .u8):=by kernel_rfl
theorem Zp5:tyOk Tryz.prog 9=true:=by kernel_rfl
theorem Znf:Qch Tryz.prog 9=false:=by kernel_rfl
theorem Q24:(Tryz.prog.info? 9).isSome=true:=by kernel_rfl
theorem Zh3:Qaz Tryz.prog 9=some (1,16):=by kernel_rfl
theorem Zaa:Tryz.prog.cellsOf 9=1:=by kernel_rfl
theorem Zh4:Qa7 Tryz.prog 9=some (PV.str {data:={toList:=[]}}):=by kernel_rfl
theorem Zf9:Tryz.prog.underlying 9=some .string:=by kernel_rfl
theorem Zh5 (s:ByteArray):Qbq Tryz.prog 9 (.str s)=some (.int .i64 s.size):=by simp only [Qbq,Zf9]
theorem Zng:tyOk Tryz.prog 22=true:=by kernel_rfl
theorem Zh6:Qch Tryz.prog 22=false:=by kernel_rfl
theorem Qye:(Tryz.prog.info? 22).isSome=true:=by kernel_rfl
theorem Zab:Qaz Tryz.prog 22=some (1,24):=by kernel_rfl
theorem Q25:Tryz.prog.cellsOf 22=1:=by kernel_rfl
theorem Zac:Qa7 Tryz.prog 22=some PV.nilS:=by kernel_rfl
theorem Zad:Qb2 Tryz.prog 22=some 34:=by kernel_rfl
theorem Qio:Tryz.prog.underlying 22=some (.slice 34):=by kernel_rfl
theorem Zae (es:List PV):Qbq Tryz.prog 22 (.slc es)=some (.int .i64 es.length):=by simp only [Qbq,Qio]
theorem Zaf:Qbq Tryz.prog 22 .nilS=some (.int .i64 0):=by simp only [Qbq,Qio]
theorem Zag (b e o n:Nat):Qbq Tryz.prog 22 (.bs b e o n)=some (.int .i64 n):=by simp only [Qbq,Qio]
theorem Znh:tyOk Tryz.prog 26=true:=by kernel_rfl
theorem Zh7:Qch Tryz.prog 26=true:=by kernel_rfl
theorem Qyf:(Tryz.prog.info? 26).isSome=true:=by kernel_rfl
theorem Zah:Qaz Tryz.prog 26=some (3,24):=by kernel_rfl
theorem Q26:Tryz.prog.cellsOf 26=3:=by kernel_rfl
theorem Zai:Qa7 Tryz.prog 26=some (PV.agg [PV.int IntKind.i64 0,PV.int IntKind.i64 0,PV.int IntKind.i64 0]):=by kernel_rfl
theorem Q27:buildable Tryz.prog 26=true:=by kernel_rfl
theorem Zh8:Qa6 Tryz.prog 26 0=some (0,3,1):=by kernel_rfl
theorem Zh9:Qae Tryz.prog 26 0=some (0,1):=by kernel_rfl
theorem Zia:Qa6 Tryz.prog 26 1=some (1,3,1):=by kernel_rfl
theorem Zib:Qae Tryz.prog 26 1=some (1,1):=by kernel_rfl
theorem Zic:Qa6 Tryz.prog 26 2=some (2,3,1):=by kernel_rfl
theorem Zid:Qae Tryz.prog 26 2=some (2,1):=by kernel_rfl
theorem Zie:Qdm Tryz.prog 26=some [1,1,1]:=by kernel_rfl
theorem Zni:tyOk Tryz.prog 27=true:=by kernel_rfl
theorem Zif:Qch Tryz.prog 27=false:=by kernel_rfl
theorem Qyg:(Tryz.prog.info? 27).isSome=true:=by kernel_rfl
theorem Zaj:Qaz Tryz.prog 27=some (1,24):=by kernel_rfl
theorem Q28:Tryz.prog.cellsOf 27=1:=by kernel_rfl
theorem Zak:Qa7 Tryz.prog 27=some PV.nilS:=by kernel_rfl
theorem Zal:Qb2 Tryz.prog 27=some 3:=by kernel_rfl
theorem Qip:Tryz.prog.underlying 27=some (.slice 3):=by kernel_rfl
theorem Zam (es:List PV):Qbq Tryz.prog 27 (.slc es)=some (.int .i64 es.length):=by simp only [Qbq,Qip]
theorem Zan:Qbq Tryz.prog 27 .nilS=some (.int .i64 0):=by simp only [Qbq,Qip]
theorem Zao (b e o n:Nat):Qbq Tryz.prog 27 (.bs b e o n)=some (.int .i64 n):=by simp only [Qbq,Qip]
theorem Znj:tyOk Tryz.prog 28=true:=by kernel_rfl
theorem Zig:Qch Tryz.prog 28=false:=by kernel_rfl
theorem Qyh:(Tryz.prog.info? 28).isSome=true:=by kernel_rfl
theorem Zap:Qaz Tryz.prog 28=some (1,8):=by kernel_rfl
theorem Q29:Tryz.prog.cellsOf 28=1:=by kernel_rfl
theorem Zaq:Qa7 Tryz.prog 28=some (PV.int IntKind.i64 0):=by kernel_rfl
theorem Zih:Tryz.prog.underlying 28=some (.int .i64):=by kernel_rfl
theorem Znk:tyOk Tryz.prog 34=true:=by kernel_rfl
theorem Zii:Qch Tryz.prog 34=true:=by kernel_rfl
theorem Qyi:(Tryz.prog.info? 34).isSome=true:=by kernel_rfl
theorem Zar:Qaz Tryz.prog 34=some (11,88):=by kernel_rfl
theorem Q3a:Tryz.prog.cellsOf 34=11:=by kernel_rfl
theorem Zas:Qa7 Tryz.prog 34=some (PV.agg [PV.int IntKind.i64 0,PV.int IntKind.i64 0,PV.int IntKind.i64 0,PV.int IntKind.i64 0,PV.int IntKind.i64 0,PV.int IntKind.i64 0,PV.int IntKind.i64 0,PV.int IntKind.i64 0,PV.int IntKind.i64 0,PV.int IntKind.i64 0,PV.int IntKind.i64 0]):=by kernel_rfl
theorem Q3b:buildable Tryz.prog 34=true:=by kernel_rfl
theorem Zij:Qa6 Tryz.prog 34 0=some (0,26,3):=by kernel_rfl
theorem Zik:Qae Tryz.prog 34 0=some (0,3):=by kernel_rfl
theorem Zil:Qa6 Tryz.prog 34 1=some (3,26,3):=by kernel_rfl
theorem Zim:Qae Tryz.prog 34 1=some (3,3):=by kernel_rfl
theorem Zin:Qa6 Tryz.prog 34 2=some (6,3,1):=by kernel_rfl
theorem Zio:Qae Tryz.prog 34 2=some (6,1):=by kernel_rfl
theorem Zip:Qa6 Tryz.prog 34 3=some (7,3,1):=by kernel_rfl
theorem Ziq:Qae Tryz.prog 34 3=some (7,1):=by kernel_rfl
theorem Zir:Qa6 Tryz.prog 34 4=some (8,26,3):=by kernel_rfl
theorem Zis:Qae Tryz.prog 34 4=some (8,3):=by kernel_rfl
theorem Zit:Qdm Tryz.prog 34=some [1,1,1,1,1,1,1,1,1,1,1]:=by kernel_rfl
theorem Znl:tyOk Tryz.prog 44=true:=by kernel_rfl
theorem Ziu:Qch Tryz.prog 44=false:=by kernel_rfl
theorem Qyj:(Tryz.prog.info? 44).isSome=true:=by kernel_rfl
theorem Zat:Qaz Tryz.prog 44=some (1,24):=by kernel_rfl
theorem Q3c:Tryz.prog.cellsOf 44=1:=by kernel_rfl
theorem Zau:Qa7 Tryz.prog 44=some PV.nilS:=by kernel_rfl
theorem Zav:Qb2 Tryz.prog 44=some 56:=by kernel_rfl
theorem Qiq:Tryz.prog.underlying 44=some (.slice 56):=by kernel_rfl
theorem Zaw (es:List PV):Qbq Tryz.prog 44 (.slc es)=some (.int .i64 es.length):=by simp only [Qbq,Qiq]
theorem Zax:Qbq Tryz.prog 44 .nilS=some (.int .i64 0):=by simp only [Qbq,Qiq]
theorem Zay (b e o n:Nat):Qbq Tryz.prog 44 (.bs b e o n)=some (.int .i64 n):=by simp only [Qbq,Qiq]
theorem Znm:tyOk Tryz.prog 46=true:=by kernel_rfl
theorem Ziv:Qch Tryz.prog 46=false:=by kernel_rfl
theorem Qyk:(Tryz.prog.info? 46).isSome=true:=by kernel_rfl
theorem Zaz:Qaz Tryz.prog 46=some (1,24):=by kernel_rfl
theorem Q3d:Tryz.prog.cellsOf 46=1:=by kernel_rfl
theorem Za0:Qa7 Tryz.prog 46=some PV.nilS:=by kernel_rfl
theorem Za1:Qb2 Tryz.prog 46=some 26:=by kernel_rfl
theorem Qir:Tryz.prog.underlying 46=some (.slice 26):=by kernel_rfl
theorem Za2 (es:List PV):Qbq Tryz.prog 46 (.slc es)=some (.int .i64 es.length):=by simp only [Qbq,Qir]
theorem Za3:Qbq Tryz.prog 46 .nilS=some (.int .i64 0):=by simp only [Qbq,Qir]
theorem Za4 (b e o n:Nat):Qbq Tryz.prog 46 (.bs b e o n)=some (.int .i64 n):=by simp only [Qbq,Qir]
theorem Znn:tyOk Tryz.prog 56=true:=by kernel_rfl
theorem Ziw:Qch Tryz.prog 56=true:=by kernel_rfl
theorem Qyl:(Tryz.prog.info? 56).isSome=true:=by kernel_rfl
theorem Za5:Qaz Tryz.prog 56=some (6,96):=by kernel_rfl
theorem Q3e:Tryz.prog.cellsOf 56=6:=by kernel_rfl
theorem Za6:Qa7 Tryz.prog 56=some (PV.agg [PV.int IntKind.i64 0,PV.int IntKind.i64 0,PV.int IntKind.i64 0,PV.nilS,PV.nilS,PV.nilS]):=by kernel_rfl
theorem Q3f:buildable Tryz.prog 56=true:=by kernel_rfl
theorem Zix:Qa6 Tryz.prog 56 0=some (0,3,1):=by kernel_rfl
theorem Ziy:Qae Tryz.prog 56 0=some (0,1):=by kernel_rfl
theorem Ziz:Qa6 Tryz.prog 56 1=some (1,3,1):=by kernel_rfl
theorem Zi0:Qae Tryz.prog 56 1=some (1,1):=by kernel_rfl
theorem Zi1:Qa6 Tryz.prog 56 2=some (2,3,1):=by kernel_rfl
theorem Zi2:Qae Tryz.prog 56 2=some (2,1):=by kernel_rfl
theorem Zi3:Qa6 Tryz.prog 56 3=some (3,27,1):=by kernel_rfl
theorem Zi4:Qae Tryz.prog 56 3=some (3,1):=by kernel_rfl
theorem Zi5:Qa6 Tryz.prog 56 4=some (4,27,1):=by kernel_rfl
theorem Zi6:Qae Tryz.prog 56 4=some (4,1):=by kernel_rfl
theorem Zi7:Qa6 Tryz.prog 56 5=some (5,27,1):=by kernel_rfl
theorem Zi8:Qae Tryz.prog 56 5=some (5,1):=by kernel_rfl
theorem Zno:tyOk Tryz.prog 71=true:=by kernel_rfl
theorem Zi9:Qch Tryz.prog 71=true:=by kernel_rfl
theorem Qym:(Tryz.prog.info? 71).isSome=true:=by kernel_rfl
theorem Za7:Qaz Tryz.prog 71=some (2,24):=by kernel_rfl
theorem Q3g:Tryz.prog.cellsOf 71=2:=by kernel_rfl
theorem Za8:Qa7 Tryz.prog 71=some (PV.agg [PV.bool Bool.false,PV.str {data:={toList:=[]}}]):=by kernel_rfl
theorem Q3h:buildable Tryz.prog 71=true:=by kernel_rfl
theorem Zja:Qa6 Tryz.prog 71 0=some (0,4,1):=by kernel_rfl
theorem Zjb:Qae Tryz.prog 71 0=some (0,1):=by kernel_rfl
theorem Zjc:Qa6 Tryz.prog 71 1=some (1,9,1):=by kernel_rfl
theorem Zjd:Qae Tryz.prog 71 1=some (1,1):=by kernel_rfl
theorem Zje:Qdm Tryz.prog 71=some [0,2]:=by kernel_rfl
theorem Znp:tyOk Tryz.prog 73=true:=by kernel_rfl
theorem Zjf:Qch Tryz.prog 73=true:=by kernel_rfl
theorem Qyn:(Tryz.prog.info? 73).isSome=true:=by kernel_rfl
theorem Za9:Qaz Tryz.prog 73=some (8,96):=by kernel_rfl
theorem Q3i:Tryz.prog.cellsOf 73=8:=by kernel_rfl
theorem Zba:Qa7 Tryz.prog 73=some (PV.agg [PV.bool Bool.false,PV.str {data:={toList:=[]}},PV.bool Bool.false,PV.str {data:={toList:=[]}},PV.bool Bool.false,PV.str {data:={toList:=[]}},PV.bool Bool.false,PV.str {data:={toList:=[]}}]):=by kernel_rfl
theorem Q3j:buildable Tryz.prog 73=true:=by kernel_rfl
theorem Zjg:Qa6 Tryz.prog 73 0=some (0,71,2):=by kernel_rfl
theorem Zjh:Qae Tryz.prog 73 0=some (0,2):=by kernel_rfl
theorem Zji:Qa6 Tryz.prog 73 1=some (2,71,2):=by kernel_rfl
theorem Zjj:Qae Tryz.prog 73 1=some (2,2):=by kernel_rfl
theorem Zjk:Qa6 Tryz.prog 73 2=some (4,71,2):=by kernel_rfl
theorem Zjl:Qae Tryz.prog 73 2=some (4,2):=by kernel_rfl
theorem Zjm:Qa6 Tryz.prog 73 3=some (6,71,2):=by kernel_rfl
theorem Zjn:Qae Tryz.prog 73 3=some (6,2):=by kernel_rfl
theorem Zjo:Qdm Tryz.prog 73=some [0,2,0,2,0,2,0,2]:=by kernel_rfl
theorem Znq:tyOk Tryz.prog 74=true:=by kernel_rfl
theorem Zjp:Qch Tryz.prog 74=false:=by kernel_rfl
theorem Qyo:(Tryz.prog.info? 74).isSome=true:=by kernel_rfl
theorem Zbb:Qaz Tryz.prog 74=some (1,24):=by kernel_rfl
theorem Q3k:Tryz.prog.cellsOf 74=1:=by kernel_rfl
theorem Zbc:Qa7 Tryz.prog 74=some PV.nilS:=by kernel_rfl
theorem Zbd:Qb2 Tryz.prog 74=some 76:=by kernel_rfl
theorem Qis:Tryz.prog.underlying 74=some (.slice 76):=by kernel_rfl
theorem Zbe (es:List PV):Qbq Tryz.prog 74 (.slc es)=some (.int .i64 es.length):=by simp only [Qbq,Qis]
theorem Zbf:Qbq Tryz.prog 74 .nilS=some (.int .i64 0):=by simp only [Qbq,Qis]
theorem Zbg (b e o n:Nat):Qbq Tryz.prog 74 (.bs b e o n)=some (.int .i64 n):=by simp only [Qbq,Qis]
theorem Znr:tyOk Tryz.prog 76=true:=by kernel_rfl
theorem Zjq:Qch Tryz.prog 76=true:=by kernel_rfl
theorem Qyp:(Tryz.prog.info? 76).isSome=true:=by kernel_rfl
theorem Zbh:Qaz Tryz.prog 76=some (2,32):=by kernel_rfl
theorem Q3l:Tryz.prog.cellsOf 76=2:=by kernel_rfl
theorem Zbi:Qa7 Tryz.prog 76=some (PV.agg [PV.bool Bool.false,PV.nilS]):=by kernel_rfl
theorem Q3m:buildable Tryz.prog 76=true:=by kernel_rfl
theorem Zjr:Qa6 Tryz.prog 76 0=some (0,4,1):=by kernel_rfl
theorem Zjs:Qae Tryz.prog 76 0=some (0,1):=by kernel_rfl
theorem Zjt:Qa6 Tryz.prog 76 1=some (1,27,1):=by kernel_rfl
theorem Zju:Qae Tryz.prog 76 1=some (1,1):=by kernel_rfl
theorem Zns:tyOk Tryz.prog 78=true:=by kernel_rfl
theorem Zjv:Qch Tryz.prog 78=true:=by kernel_rfl
theorem Qyq:(Tryz.prog.info? 78).isSome=true:=by kernel_rfl
theorem Zbj:Qaz Tryz.prog 78=some (3,56):=by kernel_rfl
theorem Q3n:Tryz.prog.cellsOf 78=3:=by kernel_rfl
theorem Zbk:Qa7 Tryz.prog 78=some (PV.agg [PV.nilS,PV.bool Bool.false,PV.nilS]):=by kernel_rfl
theorem Q3o:buildable Tryz.prog 78=true:=by kernel_rfl
theorem Zjw:Qa6 Tryz.prog 78 0=some (0,74,1):=by kernel_rfl
theorem Zjx:Qae Tryz.prog 78 0=some (0,1):=by kernel_rfl
theorem Zjy:Qa6 Tryz.prog 78 1=some (1,76,2):=by kernel_rfl
theorem Zjz:Qae Tryz.prog 78 1=some (1,2):=by kernel_rfl
theorem Znt:tyOk Tryz.prog 87=true:=by kernel_rfl
theorem Zj0:Qch Tryz.prog 87=true:=by kernel_rfl
theorem Qyr:(Tryz.prog.info? 87).isSome=true:=by kernel_rfl
theorem Zbl:Qaz Tryz.prog 87=some (3,24):=by kernel_rfl
theorem Q3p:Tryz.prog.cellsOf 87=3:=by kernel_rfl
theorem Zbm:Qa7 Tryz.prog 87=some (PV.agg [PV.int IntKind.i64 0,PV.int IntKind.i64 0,PV.int IntKind.i64 0]):=by kernel_rfl
theorem Zj1:Qge Tryz.prog 87=some (3,3):=by kernel_rfl
theorem Q3q:buildable Tryz.prog 87=true:=by kernel_rfl
theorem Zj2:Qae Tryz.prog 87 0=some (0,1):=by kernel_rfl
theorem Zj3:Qae Tryz.prog 87 1=some (1,1):=by kernel_rfl
theorem Zj4:Qae Tryz.prog 87 2=some (2,1):=by kernel_rfl
theorem Zj5:Qae Tryz.prog 87 3=some (3,1):=by kernel_rfl
theorem Zj6:Qae Tryz.prog 87 4=some (4,1):=by kernel_rfl
theorem Zj7:Qae Tryz.prog 87 5=some (5,1):=by kernel_rfl
theorem Zj8:Qae Tryz.prog 87 6=some (6,1):=by kernel_rfl
theorem Zj9:Qae Tryz.prog 87 7=some (7,1):=by kernel_rfl
theorem Zka:Qae Tryz.prog 87 8=some (8,1):=by kernel_rfl
theorem Zkb:Qae Tryz.prog 87 9=some (9,1):=by kernel_rfl
theorem Zbn:Qae Tryz.prog 87 10=some (10,1):=by kernel_rfl
theorem Zbo:Qae Tryz.prog 87 11=some (11,1):=by kernel_rfl
theorem Zbp:Qae Tryz.prog 87 12=some (12,1):=by kernel_rfl
theorem Zbq:Qae Tryz.prog 87 13=some (13,1):=by kernel_rfl
theorem Zbr:Qae Tryz.prog 87 14=some (14,1):=by kernel_rfl
theorem Zbs:Qae Tryz.prog 87 15=some (15,1):=by kernel_rfl
theorem Zbt:Qae Tryz.prog 87 16=some (16,1):=by kernel_rfl
theorem Zbu:Qae Tryz.prog 87 17=some (17,1):=by kernel_rfl
theorem Zbv:Qae Tryz.prog 87 18=some (18,1):=by kernel_rfl
theorem Zbw:Qae Tryz.prog 87 19=some (19,1):=by kernel_rfl
theorem Znu:tyOk Tryz.prog 89=true:=by kernel_rfl
theorem Zkc:Qch Tryz.prog 89=false:=by kernel_rfl
theorem Qys:(Tryz.prog.info? 89).isSome=true:=by kernel_rfl
theorem Zbx:Qaz Tryz.prog 89=some (1,8):=by kernel_rfl
theorem Q3r:Tryz.prog.cellsOf 89=1:=by kernel_rfl
theorem Zby:Qa7 Tryz.prog 89=some PV.nilF:=by kernel_rfl
theorem Znv:tyOk Tryz.prog 92=true:=by kernel_rfl
theorem Zkd:Qch Tryz.prog 92=false:=by kernel_rfl
theorem Qyt:(Tryz.prog.info? 92).isSome=true:=by kernel_rfl
theorem Zbz:Qaz Tryz.prog 92=some (1,8):=by kernel_rfl
theorem Q3s:Tryz.prog.cellsOf 92=1:=by kernel_rfl
theorem Zb0:Qa7 Tryz.prog 92=some PV.nilF:=by kernel_rfl
theorem Znw:tyOk Tryz.prog 93=true:=by kernel_rfl
theorem Zke:Qch Tryz.prog 93=false:=by kernel_rfl
theorem Qyu:(Tryz.prog.info? 93).isSome=true:=by kernel_rfl
theorem Zb1:Qaz Tryz.prog 93=some (1,8):=by kernel_rfl
theorem Q3t:Tryz.prog.cellsOf 93=1:=by kernel_rfl
theorem Zb2:Qa7 Tryz.prog 93=some (PV.int IntKind.u64 0):=by kernel_rfl
theorem Zkf:Tryz.prog.underlying 93=some (.int .u64):=by kernel_rfl
theorem Znx:tyOk Tryz.prog 94=true:=by kernel_rfl
theorem Zkg:Qch Tryz.prog 94=false:=by kernel_rfl
theorem Qyv:(Tryz.prog.info? 94).isSome=true:=by kernel_rfl
theorem Zb3:Qaz Tryz.prog 94=some (1,8):=by kernel_rfl
theorem Q3u:Tryz.prog.cellsOf 94=1:=by kernel_rfl
theorem Zb4:Qa7 Tryz.prog 94=some (PV.int IntKind.u64 0):=by kernel_rfl
theorem Zkh:Tryz.prog.underlying 94=some (.int .u64):=by kernel_rfl
theorem Zki:tyOk Tryz.prog 109=true:=by kernel_rfl
theorem Zb5:Qch Tryz.prog 109=true:=by kernel_rfl
theorem Que:(Tryz.prog.info? 109).isSome=true:=by kernel_rfl
theorem Q3v:Qaz Tryz.prog 109=some (6,72):=by kernel_rfl
theorem Qyw:Tryz.prog.cellsOf 109=6:=by kernel_rfl
theorem Q3w:Qa7 Tryz.prog 109=some (PV.agg [PV.bool Bool.false,PV.str {data:={toList:=[]}},PV.bool Bool.false,PV.str {data:={toList:=[]}},PV.bool Bool.false,PV.str {data:={toList:=[]}}]):=by kernel_rfl
theorem Zb6:Qge Tryz.prog 109=some (3,71):=by kernel_rfl
theorem Qyx:buildable Tryz.prog 109=true:=by kernel_rfl
theorem Zb7:Qae Tryz.prog 109 0=some (0,2):=by kernel_rfl
theorem Zb8:Qae Tryz.prog 109 1=some (2,2):=by kernel_rfl
theorem Zb9:Qae Tryz.prog 109 2=some (4,2):=by kernel_rfl
theorem Zca:Qae Tryz.prog 109 3=some (6,2):=by kernel_rfl
theorem Zcb:Qae Tryz.prog 109 4=some (8,2):=by kernel_rfl
theorem Zcc:Qae Tryz.prog 109 5=some (10,2):=by kernel_rfl
theorem Zcd:Qae Tryz.prog 109 6=some (12,2):=by kernel_rfl
theorem Zce:Qae Tryz.prog 109 7=some (14,2):=by kernel_rfl
theorem Zcf:Qae Tryz.prog 109 8=some (16,2):=by kernel_rfl
theorem Zcg:Qae Tryz.prog 109 9=some (18,2):=by kernel_rfl
theorem Q3x:Qae Tryz.prog 109 10=some (20,2):=by kernel_rfl
theorem Q3y:Qae Tryz.prog 109 11=some (22,2):=by kernel_rfl
theorem Q3z:Qae Tryz.prog 109 12=some (24,2):=by kernel_rfl
theorem Q30:Qae Tryz.prog 109 13=some (26,2):=by kernel_rfl
theorem Q31:Qae Tryz.prog 109 14=some (28,2):=by kernel_rfl
theorem Q32:Qae Tryz.prog 109 15=some (30,2):=by kernel_rfl
theorem Q33:Qae Tryz.prog 109 16=some (32,2):=by kernel_rfl
theorem Q34:Qae Tryz.prog 109 17=some (34,2):=by kernel_rfl
theorem Q35:Qae Tryz.prog 109 18=some (36,2):=by kernel_rfl
theorem Q36:Qae Tryz.prog 109 19=some (38,2):=by kernel_rfl
theorem Zkj:tyOk Tryz.prog 124=true:=by kernel_rfl
theorem Zch:Qch Tryz.prog 124=false:=by kernel_rfl
theorem Quf:(Tryz.prog.info? 124).isSome=true:=by kernel_rfl
theorem Q37:Qaz Tryz.prog 124=some (1,24):=by kernel_rfl
theorem Qyy:Tryz.prog.cellsOf 124=1:=by kernel_rfl
theorem Q38:Qa7 Tryz.prog 124=some PV.nilS:=by kernel_rfl
theorem Q39:Qb2 Tryz.prog 124=some 27:=by kernel_rfl
theorem Qg8:Tryz.prog.underlying 124=some (.slice 27):=by kernel_rfl
theorem Q4a (es:List PV):Qbq Tryz.prog 124 (.slc es)=some (.int .i64 es.length):=by simp only [Qbq,Qg8]
theorem Q4b:Qbq Tryz.prog 124 .nilS=some (.int .i64 0):=by simp only [Qbq,Qg8]
theorem Q4c (b e o n:Nat):Qbq Tryz.prog 124 (.bs b e o n)=some (.int .i64 n):=by simp only [Qbq,Qg8]
theorem Zkk:tyOk Tryz.prog 145=true:=by kernel_rfl
theorem Zci:Qch Tryz.prog 145=true:=by kernel_rfl
theorem Qug:(Tryz.prog.info? 145).isSome=true:=by kernel_rfl
theorem Q4d:Qaz Tryz.prog 145=some (4,96):=by kernel_rfl
theorem Qyz:Tryz.prog.cellsOf 145=4:=by kernel_rfl
theorem Q4e:Qa7 Tryz.prog 145=some (PV.agg [PV.nilS,PV.nilS,PV.nilS,PV.nilS]):=by kernel_rfl
theorem Zcj:Qge Tryz.prog 145=some (4,27):=by kernel_rfl
theorem Qy0:buildable Tryz.prog 145=true:=by kernel_rfl
theorem Zck:Qae Tryz.prog 145 0=some (0,1):=by kernel_rfl
theorem Zcl:Qae Tryz.prog 145 1=some (1,1):=by kernel_rfl
theorem Zcm:Qae Tryz.prog 145 2=some (2,1):=by kernel_rfl
theorem Zcn:Qae Tryz.prog 145 3=some (3,1):=by kernel_rfl
theorem Zco:Qae Tryz.prog 145 4=some (4,1):=by kernel_rfl
theorem Zcp:Qae Tryz.prog 145 5=some (5,1):=by kernel_rfl
theorem Zcq:Qae Tryz.prog 145 6=some (6,1):=by kernel_rfl
theorem Zcr:Qae Tryz.prog 145 7=some (7,1):=by kernel_rfl
theorem Zcs:Qae Tryz.prog 145 8=some (8,1):=by kernel_rfl
theorem Zct:Qae Tryz.prog 145 9=some (9,1):=by kernel_rfl
theorem Q4f:Qae Tryz.prog 145 10=some (10,1):=by kernel_rfl
theorem Q4g:Qae Tryz.prog 145 11=some (11,1):=by kernel_rfl
theorem Q4h:Qae Tryz.prog 145 12=some (12,1):=by kernel_rfl
theorem Q4i:Qae Tryz.prog 145 13=some (13,1):=by kernel_rfl
theorem Q4j:Qae Tryz.prog 145 14=some (14,1):=by kernel_rfl
theorem Q4k:Qae Tryz.prog 145 15=some (15,1):=by kernel_rfl
theorem Q4l:Qae Tryz.prog 145 16=some (16,1):=by kernel_rfl
theorem Q4m:Qae Tryz.prog 145 17=some (17,1):=by kernel_rfl
theorem Q4n:Qae Tryz.prog 145 18=some (18,1):=by kernel_rfl
theorem Q4o:Qae Tryz.prog 145 19=some (19,1):=by kernel_rfl
theorem Zkl:tyOk Tryz.prog 158=true:=by kernel_rfl
theorem Zcu:Qch Tryz.prog 158=false:=by kernel_rfl
theorem Quh:(Tryz.prog.info? 158).isSome=true:=by kernel_rfl
theorem Q4p:Qaz Tryz.prog 158=some (1,24):=by kernel_rfl
theorem Qy1:Tryz.prog.cellsOf 158=1:=by kernel_rfl
theorem Q4q:Qa7 Tryz.prog 158=some PV.nilS:=by kernel_rfl
theorem Q4r:Qb2 Tryz.prog 158=some 162:=by kernel_rfl
theorem Qg9:Tryz.prog.underlying 158=some (.slice 162):=by kernel_rfl
theorem Q4s (es:List PV):Qbq Tryz.prog 158 (.slc es)=some (.int .i64 es.length):=by simp only [Qbq,Qg9]
theorem Q4t:Qbq Tryz.prog 158 .nilS=some (.int .i64 0):=by simp only [Qbq,Qg9]
theorem Q4u (b e o n:Nat):Qbq Tryz.prog 158 (.bs b e o n)=some (.int .i64 n):=by simp only [Qbq,Qg9]
theorem Zkm:tyOk Tryz.prog 160=true:=by kernel_rfl
theorem Zcv:Qch Tryz.prog 160=true:=by kernel_rfl
theorem Qui:(Tryz.prog.info? 160).isSome=true:=by kernel_rfl
theorem Q4v:Qaz Tryz.prog 160=some (2,32):=by kernel_rfl
theorem Qy2:Tryz.prog.cellsOf 160=2:=by kernel_rfl
theorem Q4w:Qa7 Tryz.prog 160=some (PV.agg [PV.bool Bool.false,PV.nilS]):=by kernel_rfl
theorem Qy3:buildable Tryz.prog 160=true:=by kernel_rfl
theorem Zcw:Qa6 Tryz.prog 160 0=some (0,4,1):=by kernel_rfl
theorem Zcx:Qae Tryz.prog 160 0=some (0,1):=by kernel_rfl
theorem Zcy:Qa6 Tryz.prog 160 1=some (1,158,1):=by kernel_rfl
theorem Zcz:Qae Tryz.prog 160 1=some (1,1):=by kernel_rfl
theorem Zkn:tyOk Tryz.prog 162=true:=by kernel_rfl
theorem Zc0:Qch Tryz.prog 162=false:=by kernel_rfl
theorem Quj:(Tryz.prog.info? 162).isSome=true:=by kernel_rfl
theorem Q4x:Qaz Tryz.prog 162=some (1,8):=by kernel_rfl
theorem Qy4:Tryz.prog.cellsOf 162=1:=by kernel_rfl
theorem Q4y:Qa7 Tryz.prog 162=some (PV.int IntKind.u64 0):=by kernel_rfl
theorem Zc1:Tryz.prog.underlying 162=some (.int .u64):=by kernel_rfl
theorem Zko:tyOk Tryz.prog 169=true:=by kernel_rfl
theorem Zc2:Qch Tryz.prog 169=true:=by kernel_rfl
theorem Quk:(Tryz.prog.info? 169).isSome=true:=by kernel_rfl
theorem Q4z:Qaz Tryz.prog 169=some (3,72):=by kernel_rfl
theorem Qy5:Tryz.prog.cellsOf 169=3:=by kernel_rfl
theorem Q40:Qa7 Tryz.prog 169=some (PV.agg [PV.nilS,PV.nilS,PV.nilS]):=by kernel_rfl
theorem Zc3:Qge Tryz.prog 169=some (3,27):=by kernel_rfl
theorem Qy6:buildable Tryz.prog 169=true:=by kernel_rfl
theorem Zc4:Qae Tryz.prog 169 0=some (0,1):=by kernel_rfl
theorem Zc5:Qae Tryz.prog 169 1=some (1,1):=by kernel_rfl
theorem Zc6:Qae Tryz.prog 169 2=some (2,1):=by kernel_rfl
theorem Zc7:Qae Tryz.prog 169 3=some (3,1):=by kernel_rfl
theorem Zc8:Qae Tryz.prog 169 4=some (4,1):=by kernel_rfl
theorem Zc9:Qae Tryz.prog 169 5=some (5,1):=by kernel_rfl
theorem Zda:Qae Tryz.prog 169 6=some (6,1):=by kernel_rfl
theorem Zdb:Qae Tryz.prog 169 7=some (7,1):=by kernel_rfl
theorem Zdc:Qae Tryz.prog 169 8=some (8,1):=by kernel_rfl
theorem Zdd:Qae Tryz.prog 169 9=some (9,1):=by kernel_rfl
theorem Q41:Qae Tryz.prog 169 10=some (10,1):=by kernel_rfl
theorem Q42:Qae Tryz.prog 169 11=some (11,1):=by kernel_rfl
theorem Q43:Qae Tryz.prog 169 12=some (12,1):=by kernel_rfl
theorem Q44:Qae Tryz.prog 169 13=some (13,1):=by kernel_rfl
theorem Q45:Qae Tryz.prog 169 14=some (14,1):=by kernel_rfl
theorem Q46:Qae Tryz.prog 169 15=some (15,1):=by kernel_rfl
theorem Q47:Qae Tryz.prog 169 16=some (16,1):=by kernel_rfl
theorem Q48:Qae Tryz.prog 169 17=some (17,1):=by kernel_rfl
theorem Q49:Qae Tryz.prog 169 18=some (18,1):=by kernel_rfl
theorem Q5a:Qae Tryz.prog 169 19=some (19,1):=by kernel_rfl
theorem Zkp:tyOk Tryz.prog 191=true:=by kernel_rfl
theorem Zde:Qch Tryz.prog 191=false:=by kernel_rfl
theorem Qul:(Tryz.prog.info? 191).isSome=true:=by kernel_rfl
theorem Q5b:Qaz Tryz.prog 191=some (1,24):=by kernel_rfl
theorem Qy7:Tryz.prog.cellsOf 191=1:=by kernel_rfl
theorem Q5c:Qa7 Tryz.prog 191=some PV.nilS:=by kernel_rfl
theorem Q5d:Qb2 Tryz.prog 191=some 5:=by kernel_rfl
theorem Qha:Tryz.prog.underlying 191=some (.slice 5):=by kernel_rfl
theorem Q5e (es:List PV):Qbq Tryz.prog 191 (.slc es)=some (.int .i64 es.length):=by simp only [Qbq,Qha]
theorem Q5f:Qbq Tryz.prog 191 .nilS=some (.int .i64 0):=by simp only [Qbq,Qha]
theorem Q5g (b e o n:Nat):Qbq Tryz.prog 191 (.bs b e o n)=some (.int .i64 n):=by simp only [Qbq,Qha]
theorem Zkq:tyOk Tryz.prog 204=true:=by kernel_rfl
theorem Zdf:Qch Tryz.prog 204=false:=by kernel_rfl
theorem Qum:(Tryz.prog.info? 204).isSome=true:=by kernel_rfl
theorem Q5h:Qaz Tryz.prog 204=some (1,4):=by kernel_rfl
theorem Qy8:Tryz.prog.cellsOf 204=1:=by kernel_rfl
theorem Q5i:Qa7 Tryz.prog 204=some (PV.int IntKind.u32 0):=by kernel_rfl
theorem Zdg:Tryz.prog.underlying 204=some (.int .u32):=by kernel_rfl
theorem Zkr:tyOk Tryz.prog 216=true:=by kernel_rfl
theorem Zdh:Qch Tryz.prog 216=true:=by kernel_rfl
theorem Qun:(Tryz.prog.info? 216).isSome=true:=by kernel_rfl
theorem Q5j:Qaz Tryz.prog 216=some (6,48):=by kernel_rfl
theorem Qy9:Tryz.prog.cellsOf 216=6:=by kernel_rfl
theorem Q5k:Qa7 Tryz.prog 216=some (PV.agg [PV.int IntKind.i64 0,PV.int IntKind.i64 0,PV.int IntKind.i64 0,PV.int IntKind.i64 0,PV.int IntKind.i64 0,PV.int IntKind.i64 0]):=by kernel_rfl
theorem Zdi:Qge Tryz.prog 216=some (6,3):=by kernel_rfl
theorem Qza:buildable Tryz.prog 216=true:=by kernel_rfl
theorem Zdj:Qae Tryz.prog 216 0=some (0,1):=by kernel_rfl
theorem Zdk:Qae Tryz.prog 216 1=some (1,1):=by kernel_rfl
theorem Zdl:Qae Tryz.prog 216 2=some (2,1):=by kernel_rfl
theorem Zdm:Qae Tryz.prog 216 3=some (3,1):=by kernel_rfl
theorem Zdn:Qae Tryz.prog 216 4=some (4,1):=by kernel_rfl
theorem Zdo:Qae Tryz.prog 216 5=some (5,1):=by kernel_rfl
theorem Zdp:Qae Tryz.prog 216 6=some (6,1):=by kernel_rfl
theorem Zdq:Qae Tryz.prog 216 7=some (7,1):=by kernel_rfl
theorem Zdr:Qae Tryz.prog 216 8=some (8,1):=by kernel_rfl
theorem Zds:Qae Tryz.prog 216 9=some (9,1):=by kernel_rfl
theorem Q5l:Qae Tryz.prog 216 10=some (10,1):=by kernel_rfl
theorem Q5m:Qae Tryz.prog 216 11=some (11,1):=by kernel_rfl
theorem Q5n:Qae Tryz.prog 216 12=some (12,1):=by kernel_rfl
theorem Q5o:Qae Tryz.prog 216 13=some (13,1):=by kernel_rfl
theorem Q5p:Qae Tryz.prog 216 14=some (14,1):=by kernel_rfl
theorem Q5q:Qae Tryz.prog 216 15=some (15,1):=by kernel_rfl
theorem Q5r:Qae Tryz.prog 216 16=some (16,1):=by kernel_rfl
theorem Q5s:Qae Tryz.prog 216 17=some (17,1):=by kernel_rfl
theorem Q5t:Qae Tryz.prog 216 18=some (18,1):=by kernel_rfl
theorem Q5u:Qae Tryz.prog 216 19=some (19,1):=by kernel_rfl
theorem Zks:tyOk Tryz.prog 217=true:=by kernel_rfl
theorem Zdt:Qch Tryz.prog 217=true:=by kernel_rfl
theorem Qup:(Tryz.prog.info? 217).isSome=true:=by kernel_rfl
theorem Q5v:Qaz Tryz.prog 217=some (36,288):=by kernel_rfl
theorem Qzb:Tryz.prog.cellsOf 217=36:=by kernel_rfl
theorem Q5w:Qa7 Tryz.prog 217=some (PV.agg [PV.int IntKind.i64 0,PV.int IntKind.i64 0,PV.int IntKind.i64 0,PV.int IntKind.i64 0,PV.int IntKind.i64 0,PV.int IntKind.i64 0,PV.int IntKind.i64 0,PV.int IntKind.i64 0,PV.int IntKind.i64 0,PV.int IntKind.i64 0,PV.int IntKind.i64 0,PV.int IntKind.i64 0,PV.int IntKind.i64 0,PV.int IntKind.i64 0,PV.int IntKind.i64 0,PV.int IntKind.i64 0,PV.int IntKind.i64 0,PV.int IntKind.i64 0,PV.int IntKind.i64 0,PV.int IntKind.i64 0,PV.int IntKind.i64 0,PV.int IntKind.i64 0,PV.int IntKind.i64 0,PV.int IntKind.i64 0,PV.int IntKind.i64 0,PV.int IntKind.i64 0,PV.int IntKind.i64 0,PV.int IntKind.i64 0,PV.int IntKind.i64 0,PV.int IntKind.i64 0,PV.int IntKind.i64 0,PV.int IntKind.i64 0,PV.int IntKind.i64 0,PV.int IntKind.i64 0,PV.int IntKind.i64 0,PV.int IntKind.i64 0]):=by kernel_rfl
theorem Zdu:Qge Tryz.prog 217=some (6,216):=by kernel_rfl
theorem Qzc:buildable Tryz.prog 217=true:=by kernel_rfl
theorem Zdv:Qae Tryz.prog 217 0=some (0,6):=by kernel_rfl
theorem Zdw:Qae Tryz.prog 217 1=some (6,6):=by kernel_rfl
theorem Zdx:Qae Tryz.prog 217 2=some (12,6):=by kernel_rfl
theorem Zdy:Qae Tryz.prog 217 3=some (18,6):=by kernel_rfl
theorem Zdz:Qae Tryz.prog 217 4=some (24,6):=by kernel_rfl
theorem Zd0:Qae Tryz.prog 217 5=some (30,6):=by kernel_rfl
theorem Zd1:Qae Tryz.prog 217 6=some (36,6):=by kernel_rfl
theorem Zd2:Qae Tryz.prog 217 7=some (42,6):=by kernel_rfl
theorem Zd3:Qae Tryz.prog 217 8=some (48,6):=by kernel_rfl
theorem Zd4:Qae Tryz.prog 217 9=some (54,6):=by kernel_rfl
theorem Q5x:Qae Tryz.prog 217 10=some (60,6):=by kernel_rfl
theorem Q5y:Qae Tryz.prog 217 11=some (66,6):=by kernel_rfl
theorem Q5z:Qae Tryz.prog 217 12=some (72,6):=by kernel_rfl
theorem Q50:Qae Tryz.prog 217 13=some (78,6):=by kernel_rfl
theorem Q51:Qae Tryz.prog 217 14=some (84,6):=by kernel_rfl
theorem Q52:Qae Tryz.prog 217 15=some (90,6):=by kernel_rfl
theorem Q53:Qae Tryz.prog 217 16=some (96,6):=by kernel_rfl
theorem Q54:Qae Tryz.prog 217 17=some (102,6):=by kernel_rfl
theorem Q55:Qae Tryz.prog 217 18=some (108,6):=by kernel_rfl
theorem Q56:Qae Tryz.prog 217 19=some (114,6):=by kernel_rfl
theorem Zkt:tyOk Tryz.prog 238=true:=by kernel_rfl
theorem Zd5:Qch Tryz.prog 238=true:=by kernel_rfl
theorem Quq:(Tryz.prog.info? 238).isSome=true:=by kernel_rfl
theorem Q57:Qaz Tryz.prog 238=some (64,64):=by kernel_rfl
theorem Qzd:Tryz.prog.cellsOf 238=64:=by kernel_rfl
theorem Q58:Qa7 Tryz.prog 238=some (PV.agg [PV.int IntKind.u8 0,PV.int IntKind.u8 0,PV.int IntKind.u8 0,PV.int IntKind.u8 0,PV.int IntKind.u8 0,PV.int IntKind.u8 0,PV.int IntKind.u8 0,PV.int IntKind.u8 0,PV.int IntKind.u8 0,PV.int IntKind.u8 0,PV.int IntKind.u8 0,PV.int IntKind.u8 0,PV.int IntKind.u8 0,PV.int IntKind.u8 0,PV.int IntKind.u8 0,PV.int IntKind.u8 0,PV.int IntKind.u8 0,PV.int IntKind.u8 0,PV.int IntKind.u8 0,PV.int IntKind.u8 0,PV.int IntKind.u8 0,PV.int IntKind.u8 0,PV.int IntKind.u8 0,PV.int IntKind.u8 0,PV.int IntKind.u8 0,PV.int IntKind.u8 0,PV.int IntKind.u8 0,PV.int IntKind.u8 0,PV.int IntKind.u8 0,PV.int IntKind.u8 0,PV.int IntKind.u8 0,PV.int IntKind.u8 0,PV.int IntKind.u8 0,PV.int IntKind.u8 0,PV.int IntKind.u8 0,PV.int IntKind.u8 0,PV.int IntKind.u8 0,PV.int IntKind.u8 0,PV.int IntKind.u8 0,PV.int IntKind.u8 0,PV.int IntKind.u8 0,PV.int IntKind.u8 0,PV.int IntKind.u8 0,PV.int IntKind.u8 0,PV.int IntKind.u8 0,PV.int IntKind.u8 0,PV.int IntKind.u8 0,PV.int IntKind.u8 0,PV.int IntKind.u8 0,PV.int IntKind.u8 0,PV.int IntKind.u8 0,PV.int IntKind.u8 0,PV.int IntKind.u8 0,PV.int IntKind.u8 0,PV.int IntKind.u8 0,PV.int IntKind.u8 0,PV.int IntKind.u8 0,PV.int IntKind.u8 0,PV.int IntKind.u8 0,PV.int IntKind.u8 0,PV.int IntKind.u8 0,PV.int IntKind.u8 0,PV.int IntKind.u8 0,PV.int IntKind.u8 0]):=by kernel_rfl
theorem Zd6:Qge Tryz.prog 238=some (64,5):=by kernel_rfl
theorem Qze:buildable Tryz.prog 238=true:=by kernel_rfl
theorem Zd7:Qae Tryz.prog 238 0=some (0,1):=by kernel_rfl
theorem Zd8:Qae Tryz.prog 238 1=some (1,1):=by kernel_rfl
theorem Zd9:Qae Tryz.prog 238 2=some (2,1):=by kernel_rfl
theorem Zea:Qae Tryz.prog 238 3=some (3,1):=by kernel_rfl
theorem Zeb:Qae Tryz.prog 238 4=some (4,1):=by kernel_rfl
theorem Zec:Qae Tryz.prog 238 5=some (5,1):=by kernel_rfl
theorem Zed:Qae Tryz.prog 238 6=some (6,1):=by kernel_rfl
theorem Zee:Qae Tryz.prog 238 7=some (7,1):=by kernel_rfl
theorem Zef:Qae Tryz.prog 238 8=some (8,1):=by kernel_rfl
theorem Zeg:Qae Tryz.prog 238 9=some (9,1):=by kernel_rfl
theorem Q59:Qae Tryz.prog 238 10=some (10,1):=by kernel_rfl
theorem Q6a:Qae Tryz.prog 238 11=some (11,1):=by kernel_rfl
theorem Q6b:Qae Tryz.prog 238 12=some (12,1):=by kernel_rfl
theorem Q6c:Qae Tryz.prog 238 13=some (13,1):=by kernel_rfl
theorem Q6d:Qae Tryz.prog 238 14=some (14,1):=by kernel_rfl
theorem Q6e:Qae Tryz.prog 238 15=some (15,1):=by kernel_rfl
theorem Q6f:Qae Tryz.prog 238 16=some (16,1):=by kernel_rfl
theorem Q6g:Qae Tryz.prog 238 17=some (17,1):=by kernel_rfl
theorem Q6h:Qae Tryz.prog 238 18=some (18,1):=by kernel_rfl
theorem Q6i:Qae Tryz.prog 238 19=some (19,1):=by kernel_rfl
theorem Zku:tyOk Tryz.prog 240=true:=by kernel_rfl
theorem Zeh:Qch Tryz.prog 240=false:=by kernel_rfl
theorem Qur:(Tryz.prog.info? 240).isSome=true:=by kernel_rfl
theorem Q6j:Qaz Tryz.prog 240=some (1,8):=by kernel_rfl
theorem Qzf:Tryz.prog.cellsOf 240=1:=by kernel_rfl
theorem Q6k:Qa7 Tryz.prog 240=some (PV.int IntKind.i64 0):=by kernel_rfl
theorem Zei:Tryz.prog.underlying 240=some (.int .i64):=by kernel_rfl
theorem Zkv:tyOk Tryz.prog 274=true:=by kernel_rfl
theorem Zej:Qch Tryz.prog 274=false:=by kernel_rfl
theorem Qus:(Tryz.prog.info? 274).isSome=true:=by kernel_rfl
theorem Q6l:Qaz Tryz.prog 274=some (1,16):=by kernel_rfl
theorem Qzg:Tryz.prog.cellsOf 274=1:=by kernel_rfl
theorem Q6m:Qa7 Tryz.prog 274=some PV.nilI:=by kernel_rfl
attribute [go_sem] Zp2 Zna Q21 Zhw Q97 Zhx Znb Zp3 Znc Q22 Zhy Q98 Zhz Zh0 Zp4 Znd
attribute [go_sem] Q23 Zh1 Q99 Zh2 Zne Zp5 Znf Q24 Zh3 Zaa Zh4 Zf9 Zh5 Zng Zh6 Qye
attribute [go_sem] Zab Q25 Zac Zad Qio Zae Zaf Zag Znh Zh7 Qyf Zah Q26 Zai Q27 Zh8
attribute [go_sem] Zh9 Zia Zib Zic Zid Zie Zni Zif Qyg Zaj Q28 Zak Zal Qip Zam Zan
attribute [go_sem] Zao Znj Zig Qyh Zap Q29 Zaq Zih Znk Zii Qyi Zar Q3a Zas Q3b Zij
attribute [go_sem] Zik Zil Zim Zin Zio Zip Ziq Zir Zis Zit Znl Ziu Qyj Zat Q3c Zau
attribute [go_sem] Zav Qiq Zaw Zax Zay Znm Ziv Qyk Zaz Q3d Za0 Za1 Qir Za2 Za3 Za4
attribute [go_sem] Znn Ziw Qyl Za5 Q3e Za6 Q3f Zix Ziy Ziz Zi0 Zi1 Zi2 Zi3 Zi4 Zi5
attribute [go_sem] Zi6 Zi7 Zi8
attribute [go_sem] Zno Zi9 Qym Za7 Q3g Za8 Q3h Zja Zjb Zjc Zjd
attribute [go_sem] Zje Znp Zjf Qyn Za9 Q3i Zba Q3j Zjg Zjh Zji Zjj Zjk Zjl Zjm Zjn
attribute [go_sem] Zjo Znq Zjp Qyo Zbb Q3k Zbc Zbd Qis Zbe Zbf Zbg Znr Zjq Qyp Zbh
attribute [go_sem] Q3l Zbi Q3m Zjr Zjs Zjt Zju Zns Zjv Qyq Zbj Q3n Zbk Q3o Zjw Zjx
attribute [go_sem] Zjy Zjz Znt Zj0 Qyr Zbl Q3p Zbm Zj1 Q3q Zj2 Zj3 Zj4 Zj5 Zj6 Zj7
attribute [go_sem] Zj8 Zj9 Zka Zkb Zbn Zbo Zbp Zbq Zbr Zbs Zbt Zbu Zbv Zbw Znu Zkc
attribute [go_sem] Qys Zbx Q3r Zby Znv Zkd Qyt Zbz Q3s Zb0 Znw Zke Qyu Zb1 Q3t Zb2
attribute [go_sem] Zkf Znx Zkg Qyv Zb3 Q3u Zb4 Zkh Zki Zb5 Que Q3v Qyw Q3w Zb6 Qyx
attribute [go_sem] Zb7 Zb8 Zb9 Zca Zcb Zcc Zcd Zce Zcf Zcg Q3x Q3y Q3z Q30 Q31 Q32
attribute [go_sem] Q33 Q34 Q35 Q36 Zkj
attribute [go_sem] Zch Quf Q37 Qyy Q38 Q39 Qg8 Q4a Q4b Q4c
attribute [go_sem] Zkk Zci Qug Q4d
attribute [go_sem] Qyz Q4e Zcj Qy0 Zck Zcl Zcm Zcn Zco Zcp Zcq Zcr Zcs Zct Q4f Q4g
attribute [go_sem] Q4h Q4i Q4j Q4k Q4l Q4m Q4n Q4o Zkl Zcu Quh Q4p Qy1 Q4q Q4r Qg9
attribute [go_sem] Q4s Q4t Q4u Zkm Zcv Qui Q4v Qy2 Q4w Qy3 Zcw Zcx Zcy Zcz Zkn Zc0
attribute [go_sem] Quj Q4x Qy4 Q4y Zc1 Zko Zc2 Quk Q4z Qy5 Q40 Zc3 Qy6 Zc4 Zc5 Zc6
attribute [go_sem] Zc7 Zc8 Zc9 Zda Zdb Zdc Zdd Q41 Q42 Q43 Q44 Q45 Q46 Q47 Q48 Q49
attribute [go_sem] Q5a
attribute [go_sem] Zkp Zde Qul Q5b Qy7 Q5c Q5d Qha Q5e Q5f Q5g
attribute [go_sem] Zkq
attribute [go_sem] Zdf Qum Q5h Qy8 Q5i Zdg Zkr Zdh Qun Q5j Qy9 Q5k Zdi Qza Zdj Zdk
attribute [go_sem] Zdl Zdm Zdn Zdo Zdp Zdq Zdr Zds Q5l Q5m Q5n Q5o Q5p Q5q Q5r Q5s
attribute [go_sem] Q5t Q5u Zks Zdt Qup Q5v Qzb Q5w Zdu Qzc Zdv Zdw Zdx Zdy Zdz Zd0
attribute [go_sem] Zd1 Zd2 Zd3 Zd4 Q5x Q5y Q5z Q50 Q51 Q52 Q53 Q54 Q55 Q56
attribute [go_sem] Zkt Zd5 Quq Q57 Qzd Q58 Zd6 Qze Zd7 Zd8 Zd9
attribute [go_sem] Zea Zeb Zec Zed Zee Zef Zeg Q59 Q6a Q6b Q6c Q6d Q6e Q6f Q6g Q6h
attribute [go_sem] Q6i Zku Zeh Qur Q6j Qzf Q6k Zei
attribute [go_sem] Zkv Zej Qus Q6l Qzg Q6m
end Go.Proofs.YtciddhkfbgkejaaGreatDoor

namespace Go.Dg
def digs (B n:Nat):List Nat:=if h:n=0∨B<2 then []else n%B::digs B (n/B)
termination_by n
decreasing_by
 simp only [not_or,Nat.not_lt]at h
 exact Nat.div_lt_self (Nat.pos_of_ne_zero h.1) h.2
def val (B:Nat):List Nat→Nat
 | []=>0
 |d::l=>d+B*val B l
section
variable {B:Nat}
theorem Qax:digs B 0=[]:=by unfold digs;simp
theorem Qfa (hB:2≤B) {n:Nat} (hn:n≠0):digs B n=n%B::digs B (n/B):=by
 conv=>lhs;unfold digs
 rw [dif_neg]
 simp only [not_or,Nat.not_lt]
 exact⟨hn,hB⟩
theorem Qoy (hB:2≤B) (n:Nat):val B (digs B n)=n:=by
 induction n using Nat.strongRecOn with
 |_ n ih=>
  by_cases hn:n=0
  ·subst hn;rw [Qax];rfl
  ·rw [Qfa hB hn]
   simp only [val]
   rw [ih _ (Nat.div_lt_self (Nat.pos_of_ne_zero hn) hB)]
   exact Nat.mod_add_div n B
theorem Qoz (hB:2≤B) (n k:Nat):(digs B n)[k]? =if n/B^k=0 then none else some (n/B^k%B):=by
 induction k generalizing n with
 |zero=>
  by_cases hn:n=0
  ·subst hn;simp [Qax]
  ·rw [Qfa hB hn];simp [hn]
 |succ k ih=>
  by_cases hn:n=0
  ·subst hn;simp [Qax]
  ·rw [Qfa hB hn,List.getElem?_cons_succ,ih]
   have:n/B/B^k=n/B^(k+1):=by rw [Nat.div_div_eq_div_mul,Nat.pow_succ,Nat.mul_comm]
   rw [this]
theorem Qcb (hB:2≤B) (n k:Nat):k<(digs B n).length↔n/B^k≠0:=by
 have:=Qoz hB n k
 constructor
 ·intro h hz
  rw [if_pos hz,List.getElem?_eq_none_iff]at this
  omega
 ·intro h
  rw [if_neg h]at this
  exact(List.getElem?_eq_some_iff.1 this).1
theorem Qan (hB:2≤B) (n k:Nat):(digs B n).length≤k↔n<B^k:=by
 have h:=Qcb hB n k
 have hp:0<B^k:=Nat.pow_pos (by omega)
 rw [←Nat.not_lt,h,Decidable.not_not,Nat.div_eq_zero_iff]
 omega
theorem Qaw (hB:2≤B) (n:Nat):n<B^(digs B n).length:=(Qan hB n _).1 (Nat.le_refl _)
theorem Qap (hB:2≤B) {n k:Nat} (h:k<(digs B n).length):(digs B n)[k]? =some (n/B^k%B):=by
 rw [Qoz hB,if_neg ((Qcb hB n k).1 h)]
theorem Qlu (hB:2≤B) {n d:Nat} (h:d∈digs B n):d<B:=by
 obtain⟨k,hk⟩:=List.mem_iff_getElem?.1 h
 rw [Qoz hB]at hk
 split at hk
 ·cases hk
 ·cases hk;exact Nat.mod_lt _ (by omega)
theorem Qa9 (hB:2≤B) {n k:Nat} (h:(digs B n).length≤k):n/B^k=0:=by
 have:=(Qan hB n k).1 h
 exact Nat.div_eq_of_lt this
theorem Qbg (hB:2≤B) {n:Nat}:digs B n=[]↔n=0:=by
 constructor
 ·intro h;have:=Qoy hB n;rw [h]at this;exact this.symm
 ·rintro rfl;exact Qax
def lows (B n i:Nat):List Nat:=(List.range i).map fun k=>n/B^k%B
theorem Qak (n i:Nat):(lows B n i).length=i:=by simp [lows]
theorem Qc3 (n i:Nat):lows B n (i+1)=lows B n i++[n/B^i%B]:=by simp [lows,List.range_succ]
theorem Qbt (n i k:Nat) (h:k<i):(lows B n i)[k]? =some (n/B^k%B):=by simp [lows,h]
theorem Qq9 (n i:Nat):lows B n (i+1)=n%B::lows B (n/B) i:=by
 simp only [lows,List.range_succ_eq_map,List.map_cons,Nat.pow_zero,Nat.div_one,List.map_map]
 congr 1
 apply List.map_congr_left
 intro k _
 simp only [Function.comp,Nat.succ_eq_add_one]
 rw [Nat.div_div_eq_div_mul,Nat.pow_succ,Nat.mul_comm]
theorem Q8v (hB:0<B) (n i:Nat):val B (lows B n i)=n%B^i:=by
 induction i generalizing n with
 |zero=>simp [lows,val,Nat.mod_one]
 |succ i ih=>
  rw [Qq9]
  simp only [val]
  rw [ih,Nat.pow_succ,Nat.mul_comm (B^i) B,Nat.mod_mul]
theorem Qgh (hB:2≤B) (n:Nat):lows B n (digs B n).length=digs B n:=by
 apply List.ext_getElem?
 intro k
 by_cases hk:k<(digs B n).length
 ·rw [Qbt _ _ _ hk,Qap hB hk]
 ·rw [List.getElem?_eq_none (by rw [Qak];omega),List.getElem?_eq_none (by omega)]
def Qdb (l:List Nat):List Nat:=(l.reverse.dropWhile (· ==0)).reverse
theorem Qcp (l:List Nat):Qdb (l++[0])=Qdb l:=by simp [Qdb]
theorem Qfb (l:List Nat) {d:Nat} (h:d≠0):Qdb (l++[d])=l++[d]:=by simp [Qdb,h]
theorem Q0t:Qdb []=[]:=rfl
theorem Qnx (l m:List Nat):val B (l++m)=val B l+B^l.length*val B m:=by
 induction l with
 |nil=>simp [val]
 |cons d l ih=>
  simp only [List.cons_append,val,ih,List.length_cons,Nat.pow_succ]
  rw [Nat.mul_add,Nat.add_assoc,←Nat.mul_assoc,Nat.mul_comm B (B^l.length)]
theorem Zl5 (hB:0<B) {l:List Nat} (h: ∀d∈l,d<B):val B l<B^l.length:=by
 induction l with
 |nil=>simp [val]
 |cons d l ih=>
  have h1:=ih fun x hx=>h x (by simp [hx])
  have h2:=h d (by simp)
  simp only [val,List.length_cons,Nat.pow_succ]
  have:B*val B l+B≤B*B^l.length:=by rw [←Nat.mul_succ];exact Nat.mul_le_mul_left _ h1
  rw [Nat.mul_comm (B^l.length)]
  omega
theorem Q8w (hB:2≤B) {l:List Nat} (h: ∀d∈l,d<B):lows B (val B l) l.length=l:=by
 induction l with
 |nil=>rfl
 |cons d l ih=>
  have h2:=h d (by simp)
  rw [List.length_cons,Qq9]
  simp only [val]
  rw [Nat.add_mul_mod_self_left,Nat.mod_eq_of_lt h2,Nat.add_mul_div_left _ _ (by omega),Nat.div_eq_of_lt h2,Nat.zero_add,ih fun x hx=>h x (by simp [hx])]
theorem Qo0 (hB:2≤B) (l:List Nat) (h: ∀d∈l,d<B):Qdb l=digs B (val B l):=by
 have key: ∀n,∀l:List Nat,l.length=n→(∀d∈l,d<B)→Qdb l=digs B (val B l):=by
  intro n
  induction n with
  |zero=>intro l hl _;rw [List.length_eq_zero_iff.1 hl];simp [Q0t,val,Qax]
  |succ n ih=>
   intro l hl h
   have hne:l≠ []:=by rintro rfl;simp at hl
   have hcut:=List.dropLast_concat_getLast hne
   generalize l.dropLast=m at hcut
   generalize l.getLast hne=d at hcut
   subst hcut
   have hm:m.length=n:=by simpa using hl
   have hmd: ∀x∈m,x<B:=fun x hx=>h x (by simp [hx])
   by_cases hd:d=0
   ·subst hd
    rw [Qcp,ih m hm hmd,Qnx]
    simp [val]
   ·rw [Qfb m hd]
    have hlen:(digs B (val B (m++[d]))).length=(m++[d]).length:=by
     apply Nat.le_antisymm
     ·exact(Qan hB _ _).2 (Zl5 (by omega) h)
     ·have:(m++[d]).length=m.length+1:=by simp
      rw [this]
      apply (Qcb hB _ _).2
      rw [Qnx]
      simp only [val,Nat.mul_zero,Nat.add_zero]
      rw [Nat.add_mul_div_left _ _ (Nat.pow_pos (by omega))]
      exact fun e=>hd (Nat.eq_zero_of_add_eq_zero_left e)
    have:=Qgh hB (val B (m++[d]))
    rw [hlen,Q8w hB h]at this
    exact this
 exact key l.length l rfl h
theorem Qbj (hB:2≤B) (n i:Nat):Qdb (lows B n i)=digs B (n%B^i):=by
 rw [Qo0 hB,Q8v (by omega)]
 intro d hd
 simp only [lows,List.mem_map]at hd
 obtain⟨k,_,rfl⟩:=hd
 exact Nat.mod_lt _ (by omega)
end
end Go.Dg

namespace Go.Proofs.YtciddhkfbgkejaaGreatDoor
open Go.Vl Go.RowKit Go.Dg
def di (l:List Nat):PV:= .slc (l.map fun d:Nat=>PV.int .i64 (d:Int))
theorem Qel (l:List Nat) (k:Nat):(l.map fun d:Nat=>PV.int .i64 (d:Int))[k]? =l[k]?.map fun d:Nat=>PV.int .i64 (d:Int):=List.getElem?_map
theorem Zme (l:List Nat):((l.map fun d:Nat=>PV.int .i64 (d:Int)).all fun x=>x.cells.length==1)=true:=by rw [List.all_map,List.all_eq_true];intro d _;rfl
theorem wrapn {n:Nat} (h:n<9223372036854775808):IntKind.i64.wrap (n:Int)=n:=Qah (by omega) (by omega)
theorem Qem {n:Nat} (h:n<9223372036854775808):IntKind.i64.wrap (((n+1:Nat):Int)-1)=(n:Int):=by
 rw [Qah (by omega) (by omega)];omega
theorem Qds:maxLen<9223372036854775808:=by simp [maxLen]
theorem Qjr (l:List Nat) (hl:l.length≤maxLen):Qag Tryz.prog 136 [di l] (di (Qdb l)):=by
 have hm:=Qds
 refine Qac (tb:=[]) 21 [.tmp 2] [0,2,14] mixed Tryz.func136 rfl (by kernel_rfl) (by kernel_rfl) (by kernel_rfl) (by kernel_rfl) ?_
 simp -implicitDefEqProofs only [go_sem,Nat.reduceMul,Nat.reduceEqDiff,Nat.reduceLT,Nat.reduceLeDiff,reduceCtorEq,di]
 refine Qar mixed (fun k:{k:Nat // k≤l.length∧Qdb (l.take k)=Qdb l}=>St.of [(0,di (l.take k.1)),(2,.nilS)] []) (fun k=>k.1) ⟨l.length,Nat.le_refl _,by rw [List.take_length]⟩ ?_ ?_
 ·exact Qay (by simp [Qad,lkp,ren1,ren0,di])
 ·rintro⟨k,hk,ht⟩
  have hlen:(l.take k).length=k:=by simp;omega
  cases k with
  |zero=>
   have h1:((0:Int)<((0:Nat):Int))=False:=by simp
   simp -implicitDefEqProofs only [go_sem,Nat.reduceAdd,Nat.reduceMul,Nat.reduceEqDiff,Nat.reduceLT,Nat.reduceLeDiff,reduceCtorEq,di,List.length_map,hlen,h1]
   rw [←ht];rfl
  |succ k=>
   have h1:((0:Int)<((k+1:Nat):Int))=True:=by simp
   have h2:(0≤(k:Int))=True:=by simp
   have hw:=Qem (n:=k) (by omega)
   have hlt:k<l.length:=by omega
   have hget:(l.take (k+1))[k]? =some l[k]:=by simp [hlt]
   have hcut:l.take (k+1)=l.take k++[l[k]]:=by rw [List.take_add_one];simp [hlt]
   cases hd:((l[k]:Int)==0)with
   |true=>
    have hd0:l[k]=0:=by simpa using hd
    have h3:((k:Int)≤((k+1:Nat):Int))=True:=by simp;omega
    simp -implicitDefEqProofs only [go_sem,Nat.reduceAdd,Nat.reduceMul,Nat.reduceEqDiff,Nat.reduceLT,Nat.reduceLeDiff,reduceCtorEq,di,List.length_map,hlen,h1,h2,h3,hw,Int.toNat_natCast,Qel,hget,hd,Zme]
    refine⟨⟨k,by omega,?_⟩,by simp,?_⟩
    ·rw [←ht,hcut,hd0,Qcp]
    ·refine Qay (by simp [Qad,lkp,ren1,ren0,di];rw [←List.map_take];simp [List.take_take])
   |false=>
    have hd0:l[k]≠0:=by simpa using hd
    simp -implicitDefEqProofs only [go_sem,Nat.reduceAdd,Nat.reduceMul,Nat.reduceEqDiff,Nat.reduceLT,Nat.reduceLeDiff,reduceCtorEq,di,List.length_map,hlen,h1,h2,hw,Int.toNat_natCast,Qel,hget,hd]
    rw [←ht,hcut,Qfb _ hd0]
end Go.Proofs.YtciddhkfbgkejaaGreatDoor

namespace Go.Dg
section
variable {B:Nat}
def carry (B a b i:Nat):Nat:=(a%B^i+b%B^i)/B^i
theorem Qjk (a b:Nat):carry B a b 0=0:=by simp [carry,Nat.mod_one]
theorem Qo6 (hB:0<B) (a b i:Nat):carry B a b i≤1:=by
 have hp:0<B^i:=Nat.pow_pos hB
 have h1:=Nat.mod_lt a hp
 have h2:=Nat.mod_lt b hp
 unfold carry
 rw [Nat.div_le_iff_le_mul hp]
 omega
theorem Qo7 (hB:0<B) (a b i:Nat):(a/B^i%B+b/B^i%B+carry B a b i)%B=(a+b)/B^i%B∧(a/B^i%B+b/B^i%B+carry B a b i)/B=carry B a b (i+1):=by
 have hp:0<B^i:=Nat.pow_pos hB
 unfold carry
 generalize hP:B^i=P at*
 have e1:(a+b)/P=a/P+b/P+(a%P+b%P)/P:=by
  conv=>lhs;rw [←Nat.div_add_mod a P,←Nat.div_add_mod b P]
  have:P*(a/P)+a%P+(P*(b/P)+b%P)=(a%P+b%P)+P*(a/P+b/P):=by rw [Nat.mul_add];omega
  rw [this,Nat.add_mul_div_left _ _ hp]
  omega
 constructor
 ·rw [e1]
  conv=>rhs;rw [Nat.add_mod,Nat.add_mod (a/P)]
  conv=>lhs;rw [Nat.add_mod,Nat.add_mod (a/P%B)]
  simp
 ·have hP1:B^(i+1)=P*B:=by rw [Nat.pow_succ,hP]
  rw [hP1,Nat.mod_mul,Nat.mod_mul]
  have:a%P+P*(a/P%B)+(b%P+P*(b/P%B))=(a%P+b%P)+P*(a/P%B+b/P%B):=by rw [Nat.mul_add];omega
  rw [this,←Nat.div_div_eq_div_mul,Nat.add_mul_div_left _ _ hp]
  congr 1
  omega
theorem Q0x (hB:0<B) (a b i:Nat):(carry B a b i+a/B^i%B+b/B^i%B)%B=(a+b)/B^i%B∧(carry B a b i+a/B^i%B+b/B^i%B)/B=carry B a b (i+1):=by
 have h:=Qo7 hB a b i
 have e:carry B a b i+a/B^i%B+b/B^i%B=a/B^i%B+b/B^i%B+carry B a b i:=by omega
 rw [e];exact h
theorem Qlz (hB:2≤B) {n i:Nat} (h1:n<B^i) (h2: ∀j,j<i→n/B^j≠0):lows B n i=digs B n:=by
 have hl:(digs B n).length=i:=by
  apply Nat.le_antisymm ((Qan hB n i).2 h1)
  rcases Nat.eq_zero_or_pos i with rfl|hi
  ·exact Nat.zero_le _
  ·have:=(Qcb hB n (i-1)).2 (h2 (i-1) (by omega))
   omega
 rw [←hl,Qgh hB]
theorem Q8y (hB:2≤B) {a b i:Nat} (ha:(digs B a).length≤i) (hb:(digs B b).length≤i) (hc:carry B a b i=0):a+b<B^i:=by
 have h1:=(Qan hB a i).1 ha
 have h2:=(Qan hB b i).1 hb
 unfold carry at hc
 rw [Nat.mod_eq_of_lt h1,Nat.mod_eq_of_lt h2,Nat.div_eq_zero_iff]at hc
 have:0<B^i:=Nat.pow_pos (by omega)
 omega
theorem Q8z (hB:2≤B) {a b i:Nat} (h:i<(digs B a).length∨i<(digs B b).length∨0<carry B a b i):(a+b)/B^i≠0:=by
 have hp:0<B^i:=Nat.pow_pos (by omega)
 have hle:B^i≤a+b:=by
  rcases h with h|h|h
  ·have:=(Qcb hB a i).1 h
   have:=Nat.div_eq_zero_iff (a:=a) (b:=B^i)
   omega
  ·have:=(Qcb hB b i).1 h
   have:=Nat.div_eq_zero_iff (a:=b) (b:=B^i)
   omega
  ·unfold carry at h
   have h1:=Nat.mod_le a (B^i)
   have h2:=Nat.mod_le b (B^i)
   have h3:=Nat.div_eq_zero_iff (a:=a%B^i+b%B^i) (b:=B^i)
   omega
 have:=Nat.div_eq_zero_iff (a:=a+b) (b:=B^i)
 omega
end
end Go.Dg

namespace Go.Proofs.YtciddhkfbgkejaaGreatDoor
open Go.Vl Go.RowKit Go.Dg
abbrev E9:Nat:=1000000000
theorem E9_2:2≤E9:=by decide
abbrev fI:Nat→PV:=fun d:Nat=>PV.int .i64 (d:Int)
theorem Qka (l:List Nat):(((l.map fun d:Nat=>PV.int .i64 (d:Int)).flatMap PV.cells).all PV.okCell)=true:=by
 rw [List.all_eq_true]
 intro x hx
 obtain⟨y,hy,hx⟩:=List.mem_flatMap.1 hx
 obtain⟨d,_,rfl⟩:=List.mem_map.1 hy
 simp only [Zoy,List.mem_singleton]at hx
 subst hx;rfl
theorem Qpe (n:Nat):Int.tmod (n:Int) 1000000000=((n%1000000000:Nat):Int):=by
 rw [Int.tmod_eq_emod_of_nonneg (by omega)];rfl
theorem Qpf (n:Nat):Int.tdiv (n:Int) 1000000000=((n/1000000000:Nat):Int):=by
 rw [Int.tdiv_eq_ediv_of_nonneg (by omega)];rfl
theorem Qcf {a b:Nat} (h:a+b<9223372036854775808):IntKind.i64.wrap ((a:Int)+(b:Int))=((a+b:Nat):Int):=by
 rw [Qah (by omega) (by omega)];omega
theorem Qai {a:Nat} (h:a+1<9223372036854775808):IntKind.i64.wrap ((a:Int)+1)=((a+1:Nat):Int):=by
 rw [Qah (by omega) (by omega)];omega
theorem Zg8 (a b:Nat) (hl:(digs E9 (a+b)).length≤1000000000):Qag Tryz.prog 137 [di (digs E9 a),di (digs E9 b)] (di (digs E9 (a+b))):=by
 have hm:=Qds
 refine Qac (tb:=[]) 52 [.tmp 4] [0,1,4,5,6,7,21,27,37] mixed Tryz.func137 rfl (by kernel_rfl) (by kernel_rfl) (by kernel_rfl) (by kernel_rfl) ?_
 simp -implicitDefEqProofs only [go_sem,Nat.reduceAdd,Nat.reduceMul,Nat.reduceEqDiff,Nat.reduceLT,Nat.reduceLeDiff,reduceCtorEq,di]
 refine Qar mixed (fun i:{i:Nat // i≤(digs E9 (a+b)).length∧ ∀j,j<i→(a+b)/E9^j≠0}=>St.of [(0,di (digs E9 a)),(1,di (digs E9 b)),(4,.nilS),(5,.bs 7 1 0 i.1),(6,.int .i64 (carry E9 a b i.1:Int)),(7,.int .i64 (i.1:Int))]
  [(7,{els:=(lows E9 (a+b) i.1).map fI,esz:=1,ety:=3,fro:=0,live:=true,arr:=true})]) (fun i=>(digs E9 (a+b)).length+1-i.1) ⟨0,Nat.zero_le _,by omega⟩ ?_ ?_
 ·refine Qf8 5 7 1 3 rfl rfl rfl (by decide) [(7,7)] rfl ?_ ?_
  ·simp [Qad,lkp,ren1,ren0,di,Qjk]
  ·simp [Qam,lkp,Box.renames,lows]
 ·rintro⟨i,hi,hmore⟩
  have h0:(0≤(i:Int))=True:=by simp
  have hll:=Qak (B:=E9) (a+b) i
  have hcle:=Qo6 (B:=E9) (by decide) a b i
  obtain⟨hs1,hs2⟩:(carry E9 a b i+a/E9^i%E9+b/E9^i%E9)%1000000000=(a+b)/E9^i%E9∧(carry E9 a b i+a/E9^i%E9+b/E9^i%E9)/1000000000=carry E9 a b (i+1):=Q0x (B:=E9) (by decide) a b i
  have hda:a/E9^i%E9<E9:=Nat.mod_lt _ (by decide)
  have hdb:b/E9^i%E9<E9:=Nat.mod_lt _ (by decide)
  have hb1:((i+1)*8≤140737488355328)=True:=by simp;omega
  have hb2:(i+1≤maxLen)=True:=by simp [maxLen];omega
  have hwi:=Qai (a:=i) (by omega)
  have next: ∀s,((i<(digs E9 a).length)∨(i<(digs E9 b).length)∨0<carry E9 a b i)→Le s (St.of [(0,di (digs E9 a)),(1,di (digs E9 b)),(4,.nilS),(5,.bs 7 1 0 (i+1)),(6,.int .i64 (carry E9 a b (i+1):Int)),(7,.int .i64 ((i+1:Nat):Int))]
    [(7,{els:=(lows E9 (a+b) (i+1)).map fI,esz:=1,ety:=3,fro:=0,live:=true,arr:=true})])→
    ∃y:{i:Nat // i≤(digs E9 (a+b)).length∧ ∀j,j<i→(a+b)/E9^j≠0},(digs E9 (a+b)).length+1-y.1<(digs E9 (a+b)).length+1-i∧
     Le s (St.of [(0,di (digs E9 a)),(1,di (digs E9 b)),(4,.nilS),(5,.bs 7 1 0 y.1),(6,.int .i64 (carry E9 a b y.1:Int)),(7,.int .i64 (y.1:Int))]
      [(7,{els:=(lows E9 (a+b) y.1).map fI,esz:=1,ety:=3,fro:=0,live:=true,arr:=true})]):=by
   intro s hc hle
   have hne:=Q8z E9_2 hc
   have hlt:=(Qcb E9_2 _ _).2 hne
   exact⟨⟨i+1,hlt,fun j hj=>(Nat.lt_succ_iff_lt_or_eq.1 hj).elim (hmore j) fun h=>h▸hne⟩,by simp only;omega,hle⟩
  by_cases hA:i<(digs E9 a).length
  ·have hA':((i:Int)<((digs E9 a).length:Int))=True:=by simp;omega
   have hga:=Qap E9_2 hA
   by_cases hB:i<(digs E9 b).length
   ·have hB':((i:Int)<((digs E9 b).length:Int))=True:=by simp;omega
    have hgb:=Qap E9_2 hB
    have w1:=Qcf (a:=carry E9 a b i) (b:=a/E9^i%E9) (by simp only [E9]at*;omega)
    have w2:=Qcf (a:=carry E9 a b i+a/E9^i%E9) (b:=b/E9^i%E9) (by simp only [E9]at*;omega)
    have w3:=wrapn (n:=(carry E9 a b i+a/E9^i%E9+b/E9^i%E9)/1000000000) (by simp only [E9]at*;omega)
    simp -implicitDefEqProofs only [go_sem,Nat.reduceAdd,Nat.reduceMul,Nat.reduceEqDiff,Nat.reduceLT,Nat.reduceLeDiff,reduceIte,reduceCtorEq,Int.reduceEq,Nat.reduceBneDiff,di,List.length_map,hA',hB',h0,Qel,hga,hgb,w1,w2,w3,Qpe,Qpf,hll,Qka,hb1,hb2,hwi]
    refine next _ (.inl hA) (Qaj (θ:=[(7,1004)]) rfl ?_ ?_)
    ·simp [Qad,lkp,ren1,ren0,di,hs2]
    ·simp [Qam,lkp,Box.renames,Qc3,hs1]
   ·have hB':((i:Int)<((digs E9 b).length:Int))=False:=by simp;omega
    have hb0:b/E9^i%E9=0:=by rw [Qa9 E9_2 (Nat.le_of_not_lt hB),Nat.zero_mod]
    rw [hb0,Nat.add_zero]at hs1 hs2
    have w1:=Qcf (a:=carry E9 a b i) (b:=a/E9^i%E9) (by simp only [E9]at*;omega)
    have w3:=wrapn (n:=(carry E9 a b i+a/E9^i%E9)/1000000000) (by simp only [E9]at*;omega)
    simp -implicitDefEqProofs only [go_sem,Nat.reduceAdd,Nat.reduceMul,Nat.reduceEqDiff,Nat.reduceLT,Nat.reduceLeDiff,reduceIte,reduceCtorEq,Int.reduceEq,Nat.reduceBneDiff,di,List.length_map,hA',hB',h0,Qel,hga,w1,w3,Qpe,Qpf,hll,Qka,hb1,hb2,hwi]
    refine next _ (.inl hA) (Qaj (θ:=[(7,1004)]) rfl ?_ ?_)
    ·simp [Qad,lkp,ren1,ren0,di,hs2]
    ·simp [Qam,lkp,Box.renames,Qc3,hs1]
  ·have hA':((i:Int)<((digs E9 a).length:Int))=False:=by simp;omega
   have ha0:a/E9^i%E9=0:=by rw [Qa9 E9_2 (Nat.le_of_not_lt hA),Nat.zero_mod]
   rw [ha0,Nat.add_zero]at hs1 hs2
   by_cases hB:i<(digs E9 b).length
   ·have hB':((i:Int)<((digs E9 b).length:Int))=True:=by simp;omega
    have hgb:=Qap E9_2 hB
    have w2:=Qcf (a:=carry E9 a b i) (b:=b/E9^i%E9) (by simp only [E9]at*;omega)
    have w3:=wrapn (n:=(carry E9 a b i+b/E9^i%E9)/1000000000) (by simp only [E9]at*;omega)
    simp -implicitDefEqProofs only [go_sem,Nat.reduceAdd,Nat.reduceMul,Nat.reduceEqDiff,Nat.reduceLT,Nat.reduceLeDiff,reduceIte,reduceCtorEq,Int.reduceEq,Nat.reduceBneDiff,di,List.length_map,hA',hB',h0,Qel,hgb,w2,w3,Qpe,Qpf,hll,Qka,hb1,hb2,hwi]
    refine next _ (.inr (.inl hB)) (Qaj (θ:=[(7,1004)]) rfl ?_ ?_)
    ·simp [Qad,lkp,ren1,ren0,di,hs2]
    ·simp [Qam,lkp,Box.renames,Qc3,hs1]
   ·have hB':((i:Int)<((digs E9 b).length:Int))=False:=by simp;omega
    have hb0:b/E9^i%E9=0:=by rw [Qa9 E9_2 (Nat.le_of_not_lt hB),Nat.zero_mod]
    rw [hb0,Nat.add_zero]at hs1 hs2
    by_cases hC:0<carry E9 a b i
    ·have hC':((0:Int)<(carry E9 a b i:Int))=True:=by simp;omega
     have w3:=wrapn (n:=carry E9 a b i/1000000000) (by simp only [E9]at*;omega)
     simp -implicitDefEqProofs only [go_sem,Nat.reduceAdd,Nat.reduceMul,Nat.reduceEqDiff,Nat.reduceLT,Nat.reduceLeDiff,reduceIte,reduceCtorEq,Int.reduceEq,Nat.reduceBneDiff,di,List.length_map,hA',hB',hC',h0,w3,Qpe,Qpf,hll,Qka,hb1,hb2,hwi]
     refine next _ (.inr (.inr hC)) (Qaj (θ:=[(7,1004)]) rfl ?_ ?_)
     ·simp [Qad,lkp,ren1,ren0,di,hs2]
     ·simp [Qam,lkp,Box.renames,Qc3,hs1]
    ·have hC':((0:Int)<(carry E9 a b i:Int))=False:=by simp;omega
     have hlt:=Q8y E9_2 (Nat.le_of_not_lt hA) (Nat.le_of_not_lt hB) (by omega)
     have hd:=Qlz E9_2 hlt hmore
     have htk:((lows E9 (a+b) i).map fI).take i=(lows E9 (a+b) i).map fI:=List.take_of_length_le (by simp [hll])
     simp -implicitDefEqProofs only [go_sem,Nat.reduceAdd,Nat.reduceMul,Nat.reduceEqDiff,Nat.reduceLT,Nat.reduceLeDiff,reduceIte,reduceCtorEq,di,List.length_map,hA',hB',hC',hll,htk]
     rw [hd]
end Go.Proofs.YtciddhkfbgkejaaGreatDoor
