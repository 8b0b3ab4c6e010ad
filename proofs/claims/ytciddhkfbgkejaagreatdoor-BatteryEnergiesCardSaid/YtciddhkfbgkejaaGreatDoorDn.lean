/-
  US, UV, HTy, Dg, HA1, Dn (merged for the claim).
-/
import Derived.Test.YtciddhkfbgkejaaGreatDoorUR
import Derived.Attr
import Derived.Test.YtciddhkfbgkejaaGreatDoorProg
set_option linter.unusedSimpArgs false
set_option linter.unusedVariables false
namespace Go.Vl
open Go.RowKit
section
variable {H:Type} {enc:TypeId×Value→H} {P:Program} {W W':World}
theorem Zoy {tt:TT} {t:TypeId} {v:Value} {d:DataW H} {ps:List MemPlace} {b:Nat} (hf:tt.fits P t=true) (hok:Value.okWide P W .any b t v) (h:DataW.Trod enc P W 0 (fun _=>true) true t v d ps):
  ∃cs,Qb4 tt cs∧Rep W (exIm W) (tt.mk cs) v:=by
 obtain⟨fuel,h⟩:=h
 obtain⟨pvs,h1,h2⟩:=Qra tt t fuel _ _ hf h
 refine⟨pvs,h2,?_⟩
 have single:v.cells= #[v]→(∀fs,tt≠ .agg fs)→Rep W (exIm W) (tt.mk pvs) v:=by
  intro hv hn
  rw [hv]at h1
  have hl:=h1.length
  match pvs,hl with
  | [p],_=>
   cases h1 with
   |cons _ _ _ _ h t=>
    cases tt with
    |agg fs=>exact absurd rfl (hn fs)
    |_=>exact h
 cases tt with
 |bool=>
  simp only [TT.fits]at hf
  split at hf
  ·rename_i ht;obtain⟨x,rfl⟩:=WideShapes.okWide_bool ht hok;exact single rfl (by simp)
  ·cases hf
 |int k=>
  simp only [TT.fits]at hf
  split at hf
  ·rename_i ht;obtain⟨x,rfl⟩:=WideShapes.okWide_int ht hok;exact single rfl (by simp)
  ·cases hf
 |str=>
  simp only [TT.fits]at hf
  split at hf
  ·rename_i ht;obtain⟨x,rfl⟩:=WideShapes.okWide_string ht hok;exact single rfl (by simp)
  ·cases hf
 |slc e=>
  simp only [TT.fits]at hf
  split at hf
  ·rename_i te ht;obtain⟨x,y,z,rfl⟩:=WideShapes.okWide_slice ht hok;exact single rfl (by simp)
  ·cases hf
 |agg fs=>
  simp only [TT.fits]at hf
  split at hf
  ·rename_i xs ht
   obtain⟨cs,rfl,_⟩:=WideShapes.okWide_struct ht hok
   have:=Rep.agg pvs _ h1
   simp only [Value.cells,Array.toArray_toList]at this
   exact this
  ·cases hf
def Qv1:List TT→List PV→Prop
 | [],vs=>vs=[]
 |t::ts,vs=> ∃c rest,vs=t.mk c::rest∧Qb4 t c∧Qv1 ts rest
def Qkj (P:Program):List TT→List TypeId→Bool
 | [],[]=>true
 |tt::tts,t::ts=>tt.fits P t&&Qkj P tts ts
 |_,_=>false
theorem Qx1 {b:Nat}: ∀(tts:List TT) (ts:List TypeId) (vs:List Value) (ds:List (DataW H)) (ps:List MemPlace),Qkj P tts ts=true→(∀(j:Nat) t v,ts[j]? =some t→vs[j]? =some v→Value.okWide P W .any b t v)→
  DataW.TrodAll enc P W 0 (fun _=>true) true ts vs ds ps→ ∃pvs,Qv1 tts pvs∧RepL W (exIm W) pvs vs∧ds.length=tts.length
 | [],[],[],[],_,_,_,_=>⟨[],rfl,.nil,rfl⟩
 |tt::tts,t::ts,v::vs,d::ds,ps,hf,hok,h=>by
  simp only [Qkj,Bool.and_eq_true]at hf
  obtain⟨p,q,h1,h2,_⟩:=h
  obtain⟨c,h3,h4⟩:=Zoy hf.1 (hok 0 t v rfl rfl) h1
  obtain⟨pvs,h5,h6,h7⟩:=Qx1 tts ts vs ds q hf.2 (fun j t v e1 e2=>hok (j+1) t v (by simpa using e1) (by simpa using e2)) h2
  exact⟨tt.mk c::pvs,⟨c,pvs,rfl,h3,h5⟩,.cons _ _ _ _ h4 h6,by simp [h7]⟩
 | [],_::_,_,_,_,hf,_,_=>by simp [Qkj]at hf
 |_::_,[],_,_,_,hf,_,_=>by simp [Qkj]at hf
 | [],[],[],_::_,_,_,_,h=>h.elim
 | [],[],_::_,_,_,_,_,h=>h.elim
 |_::_,_::_,[],_,_,_,_,h=>h.elim
 |_::_,_::_,_::_,[],_,_,_,h=>h.elim
theorem Qjr {sp:Nat→Bool} (hl:laidOutB P=true) (hb:Below W.heap.size W W'): ∀(ts:List TypeId) (vs:List Value) (ds:List (DataW H)) (ps:List MemPlace),(∀t∈ts,P.readableRec t=true∧t<P.types.size)→
  DataW.TrodAll enc P W 0 (fun _=>true) true ts vs ds ps→(∀p∈ps,p.block<W.heap.size)→(∀p∈ps,sp p.block=true)→DataW.TrodAll enc P W' 0 sp true ts vs ds ps
 | [],[],[],_,_,h,_,_=>h
 |t::ts,v::vs,d::ds,ps,ht,⟨p,q,h1,h2,e⟩,hlt,hs=>by
  subst e
  refine⟨p,q,?_,Qjr hl hb ts vs ds q (fun t h=>ht t (List.mem_cons_of_mem _ h)) h2 (fun x hx=>hlt x (List.mem_append_right _ hx)) (fun x hx=>hs x (List.mem_append_right _ hx)),rfl⟩
  exact WideElems.Trod_stays hl (ht t (by simp)).1 (ht t (by simp)).2 h1 (fun x hx=>hb.same (hlt x (List.mem_append_left _ hx))) (fun x hx=>hs x (List.mem_append_left _ hx))
 | [],[],_::_,_,_,h,_,_=>h.elim
 | [],_::_,_,_,_,h,_,_=>h.elim
 |_::_,[],_,_,_,h,_,_=>h.elim
 |_::_,_::_,[],_,_,h,_,_=>h.elim
theorem Qv2 {fn:Func} {s:ChangeSpec} {apart fresh handsOn again:Bool} {args:Array Value} {ds gs:List (DataW H)} {before:List MemPlace} {tb:TypeId} (hl:laidOutB P=true) (hvars:s.vars=[]) (hres:fn.resultTypes= #[tb])
  (hbool:P.underlying tb=some .bool) (hts: ∀t∈fn.params.toList,P.readableRec t=true∧t<P.types.size) (hW:DataW.Whole enc P fn.params.toList s.vars apart W args.toList ds gs before)
  (hs:s.fn H (ds++gs)={results:=[.lit (.bool true)],args:=ds}) (hb:Below W.heap.size W W'):s.post enc P fn apart fresh handsOn again W args (.bool true) W':=by
 have hlt:=hW.lt
 have hW':=hW
 obtain⟨p,q,hA,hV,rfl,hz,hn⟩:=hW
 rw [hvars]at hV
 obtain⟨rfl,rfl⟩:=ChangeShapes.trodVars_none hV
 have hargs: ∀sp:Nat→Bool,(∀x∈p,sp x.block=true)→DataW.TrodAll enc P W' 0 sp true fn.params.toList args.toList ds p:=fun sp hsp=>
  Qjr hl hb _ _ _ _ hts hA (fun x hx=>hlt x (by simpa using hx)) hsp
 have hres': ∀(b:Nat) (sp:Nat→Bool) (hd:Bool),DataW.TrodAll enc P W' b sp hd fn.resultTypes.toList ((Value.bool true).resultList fn.resultTypes.size) [.lit (.bool true)] []:=by
  intro b sp hd
  rw [hres]
  exact ChangeShapes.trodAll_mk1 (shut_bool hbool true)
 have hok: ∀(j:Nat) (t:TypeId) (r:Value),fn.resultTypes[j]? =some t→((Value.bool true).resultList fn.resultTypes.size)[j]? =some r→Value.okWide P W' .any 0 t r:=ok_one hres rfl (okWide_bool_mk hbool true)
 have hvs: ∀sp:Nat→Bool,DataW.TrodVars enc P W' sp s.vars [] []:=fun sp=>by rw [hvars];rfl
 refine⟨ds,[],p++[],[],p,[],hW',?_,?_,?_,?_,fun _=>⟨hok,[.lit (.bool true)]++ds,[],([]++p)++[],⟨[]++p,[],?_,hvs _,rfl,?_,?_⟩,?_⟩⟩
 ·rw [hs];exact hres' _ _ _
 ·rw [hs];exact hargs _ fun x hx=>by simpa using hlt x (by simpa using hx)
 ·rw [hs];exact hvs _
 ·exact World.keptBut_mono (fun _ f=>f.elim) (hb.frame fun _=>False)
 ·exact ChangeShapes.trodAll_append (hargs _ fun _ _=>rfl) (hres' _ _ _)
 ·intro b off hp
  have hp':MemPlace.cell b off∈p:=by simpa using hp
  have:=hz b off (by simpa using hp')
  have hlt':=hlt _ (show MemPlace.cell b off∈p++[]by simpa using hp')
  rw [←this]
  exact hb.frozen hlt'
 ·intro ha
  have:=hn ha
  simpa using this
 ·intro x hx _
  simpa using hx
end
end Go.Vl

namespace Go.Vl
theorem Zuf:List.range 1=[0]:=rfl
theorem Zug:List.range 2=[0,1]:=rfl
theorem Zuh:List.range 3=[0,1,2]:=rfl
theorem Zui:List.range 4=[0,1,2,3]:=rfl
theorem Zuj:List.range 5=[0,1,2,3,4]:=rfl
theorem Zuk:List.range 6=[0,1,2,3,4,5]:=rfl
theorem Zul:List.range 7=[0,1,2,3,4,5,6]:=rfl
theorem Zum:List.range 8=[0,1,2,3,4,5,6,7]:=rfl
section
variable (cs:List PV) (b:Bool) (k:IntKind) (n:Int) (s:ByteArray) (e i o l:Nat) (f:FuncId) (a c:List PV)
theorem Zun:(PV.agg cs).cells=cs:=rfl
theorem Zr3:(PV.bool b).cells=[.bool b]:=rfl
theorem Zr4:(PV.int k n).cells=[.int k n]:=rfl
theorem Zuo:(PV.str s).cells=[.str s]:=rfl
theorem Zr5:PV.nilS.cells=[.nilS]:=rfl
theorem Zr6:PV.nilF.cells=[.nilF]:=rfl
theorem Zr7:PV.nilI.cells=[.nilI]:=rfl
theorem Zup:(PV.slc cs).cells=[.slc cs]:=rfl
theorem Zuq:(PV.tup cs).cells=[.tup cs]:=rfl
theorem c_rp:(PV.rp cs).cells=[.rp cs]:=rfl
theorem c_bp:(PV.bp e i o l).cells=[.bp e i o l]:=rfl
theorem c_bs:(PV.bs e i o l).cells=[.bs e i o l]:=rfl
theorem c_fn:(PV.fn f a c).cells=[.fn f a c]:=rfl
theorem Zur:(PV.agg cs).okCell=false:=rfl
theorem Zr8:(PV.bool b).okCell=true:=rfl
theorem Zus:(PV.int k n).okCell=true:=rfl
theorem Zut:(PV.str s).okCell=true:=rfl
theorem Zr9:PV.nilS.okCell=true:=rfl
theorem Zsa:PV.nilF.okCell=true:=rfl
theorem Zsb:PV.nilI.okCell=true:=rfl
theorem Zuu:(PV.slc cs).okCell=true:=rfl
theorem Zuv:(PV.tup cs).okCell=false:=rfl
theorem k_rp:(PV.rp cs).okCell=true:=rfl
theorem k_bp:(PV.bp e i o l).okCell=true:=rfl
theorem k_bs:(PV.bs e i o l).okCell=true:=rfl
theorem k_fn:(PV.fn f a c).okCell=true:=rfl
end
attribute [go_sem] Zun Zr3 Zr4 Zuo Zr5 Zr6 Zr7 Zup Zuq c_rp c_bp c_bs c_fn Zur Zr8 Zus Zut Zr9 Zsa Zsb Zuu Zuv k_rp k_bp k_bs k_fn Int.toNat_natCast Int.toNat_zero Int.le_refl
theorem Q9g (P:Program) (id:Nat) (bx:Bx) (fo:Operand) (xs0:Array Operand) (ts:Array TypeId) (f:FuncId) (first cap args:List PV):Qa5 P [] id (.call ⟨.value fo,xs0,ts⟩) (.fn f first cap::args) bx=
  M.bind (Qgr first) (fun x=> .bind (Qf5 args) fun y=> .bind (Qgr cap) fun z=> .pure (.call f (x.1++y.1++z.1) (x.2++y.2++z.2))) bx:=rfl
attribute [go_sem] Q9g
theorem Qrb (P:Program) (id:Nat) (bx:Bx) (T n:Nat) (parts:Array (Nat×Operand)) (vs:List PV):Qa5 P [] id (.buildSlice T n parts) vs bx=
  M.bind (.ok (parts.toList.map (·.1)==List.range n&&n≤1000)) (fun _=> .bind (.ofOpt (Qb2 P T)) fun E=> .bind (.ofOpt (Qaz P E)) fun q=>
   .bind (.ofOpt (Qa7 P E)) fun z=> .bind (.hard id) fun b=> .bind (Qf5 vs) fun ys=>
   .bind (.ok (b.isNone&&z.cells.length==q.1&&ys.1.length==n&&(ys.1.all fun e=>e.cells.length==q.1&&Qbd e.cells)&&0<q.1&&q.1≤1000)) fun _=>
   .pure (.done (.bs id q.1 0 n) (ys.2++[.new id {els:=ys.1,esz:=q.1,ety:=E,fro:=0,live:=true,arr:=true}]))) bx:=rfl
theorem Q9h (P:Program) (id:Nat) (bx:Bx) (asx:Array Operand) (ts:Array TypeId) (s x:PV):Qa5 P [] id (.call ⟨.builtin .append,asx,ts⟩) [s,x] bx=
  M.bind (.ofOpt ts[0]?) (fun t=> .bind (.ofOpt ts[1]?) fun t2=> .bind (.ok (ts.size==2)) fun _=>Qdw P id t t2 s x) bx:=rfl
attribute [go_sem] Qrb Q9h Qq5 Q8u Qi9 appendD
theorem Q01:(none:Option Operand).toArray= #[]:=rfl
theorem Q02 (x:Operand):(some x).toArray= #[x]:=rfl
attribute [go_sem] Q01 Q02 List.range_zero Nat.le_refl Nat.zero_le
attribute [go_sem] Zua Zub Zoo Zry Zop Zuc Zoq Zrz Q8x Q0t Qvt Q8y
attribute [go_sem] Zud Zr0 Q0u Qvu Zhf Zhg Q8z Qq6 Qtj Q0v Q80 Q81
attribute [go_sem] Q0w Qo8 Q0x Qvv Zhh Qvw Q0y Zru Zg5 Qq2 Qq3 Qq4
attribute [go_sem] Zg6 Zg7 Zof Ztn Zog Qti Q8r Q8s Zoh Zto Ztp Ztq
attribute [go_sem] Zrv Q0s Qvq Zg8 Zg9 Zha Zhb Qnx Qny Zoi Qnz Qn0
attribute [go_sem] Qn1 Qnm Qvr Qvs Q8t Ztr Zhc Zts Ztt Zio Zip Zrw
attribute [go_sem] Zoj Ztu Ztv Ztw Ztx Zty Ztz Zrx b_or Zt0 Zt1 Zt2
attribute [go_sem] Zt3 Zt4 Zt5 Zt6 Zt7 Zok Zt8 Zt9 Qtg Qb8 Qjl St.evs
attribute [go_sem] St.ev Op.operands Call.operands M.bind M.pure M.ofOpt M.ok M.soft M.hard Zrq Qvo Zrs
attribute [go_sem] Qgk Q8m Zom Qht lkp Qd5 Qes Qch Qcf Qcr Qa4 Eff.on
attribute [go_sem] Qcd Eff.id Eff.hard Qq0 Qe5 Qqz Qnk esc0 escS Q7z escE Qz7 escL escC Qgr esc1
attribute [go_sem] Qf5 Qdi Vl.newVar Qbd    PV.putCells PV.one Qgi Q8e Qve Box.soft
attribute [go_sem] List.toList_toArray List.getElem?_toArray List.getElem?_cons_zero List.getElem?_cons_succ Option.bind_some Option.map_some Option.bind_none Option.map_none List.map_cons List.map_nil List.append_nil List.nil_append
attribute [go_sem] List.cons_append decide_true decide_false if_true if_false true_and and_true Bool.and_true Bool.true_and Bool.and_self beq_self_eq_true List.all_cons
attribute [go_sem] List.all_nil List.length_cons List.length_nil Nat.zero_add Nat.add_zero Nat.zero_mul List.drop_zero List.contains_cons gt_iff_lt ge_iff_le Option.isNone_none Option.isNone_some
attribute [go_sem] Array.toList_empty Array.append_empty Array.empty_append List.size_toArray List.take_zero List.push_toArray List.append_toArray Option.isSome_some Option.isSome_none List.drop_succ_cons List.take_succ_cons List.take_nil
attribute [go_sem] List.drop_nil List.getElem_cons_zero List.getElem_cons_succ Nat.not_lt_zero Bool.false_eq_true Bool.true_eq_false not_true_eq_false not_false_eq_true if_neg Nat.lt_irrefl Bool.not_true Bool.not_false
attribute [go_sem] Bool.and_false Bool.false_and Bool.or_false Bool.or_true Bool.false_or Bool.true_or List.flatMap_cons List.flatMap_nil List.set_cons_zero List.set_cons_succ beq_true beq_false
attribute [go_sem] Bool.true_beq Bool.false_beq eq_self Bool.not_not ite_self ne_eq Zrr Q8n Zoe Qcs Qc3 Qdw
attribute [go_sem] Qoq Qks Qh3 Qhp Qqk Qmz Qu8 Qja Qf6 Box.over Qbl Qdv Q70
attribute [go_sem] Qz9 Qor Q0a Qg1 Qmy Qfn rlk land Qfo ren0 Qap ren1 Qz8 ren2
attribute [go_sem] Qla flatr Qsp Qsq flatc Qii Box.ext Box.idr Q0b LENT YID List.zip_cons_cons List.zip_nil_left List.zip_nil_right
attribute [go_sem] Zhd Zhe Zol Qi8 List.isEmpty_cons List.isEmpty_map
attribute [go_sem] Zuf Zug Zuh Zui Zuj Zuk Zul Zum Option.getD_some Option.getD_none
section
variable {vs vs':List (Nat×PV)} {bs bs':List (Nat×Box)} {o:List (List PV)} {y:Yl}
theorem Zoz (t b esz:Nat) (ety:TypeId) (hbL:Nat.blt b LENT=true) (ht:lkp vs t=some .nilS) (hb:lkp bs b=none) (hz:0<esz):
  Le (St.ofG vs bs o y) (St.ofG ((t,.bs b esz 0 0)::vs) ((b,{els:=[],esz:=esz,ety:=ety,fro:=0,live:=true,arr:=true})::bs) o y):=Zrt hbL ht hb hz
theorem Qgf (t b esz:Nat) (ety:TypeId) (hbL:Nat.blt b LENT=true) (ht:lkp vs t=some .nilS) (hb:lkp bs b=none) (hz:0<esz) (θ:List (Nat×Nat)) (hθ:Qqy θ bs'=true)
  (hv:Qaf θ ((t,.bs b esz 0 0)::vs) vs') (hbx:Qam θ ((b,{els:=[],esz:=esz,ety:=ety,fro:=0,live:=true,arr:=true})::bs) bs'):Le (St.ofG vs bs o y) (St.ofG vs' bs' o y):=
 (Zoz t b esz ety hbL ht hb hz).trans (Qak hθ hv hbx)
end
end Go.Vl

namespace Go.Proofs.YtciddhkfbgkejaaGreatDoor
open Go.Vl
theorem mixed:Tryz.prog.follows .mixedOrders=true:=by kernel_rfl
theorem Zth:tyOk Tryz.prog 3=true:=by kernel_rfl
theorem Zql:Qb7 Tryz.prog 3=false:=by kernel_rfl
theorem Q3i:(Tryz.prog.info? 3).isSome=true:=by kernel_rfl
theorem Zkh:Qaz Tryz.prog 3=some (1,8):=by kernel_rfl
theorem Zbe:Tryz.prog.cellsOf 3=1:=by kernel_rfl
theorem Zki:Qa7 Tryz.prog 3=some (PV.int IntKind.i64 0):=by kernel_rfl
theorem Zqm:Tryz.prog.underlying 3=some (.int .i64):=by kernel_rfl
theorem Zti:tyOk Tryz.prog 4=true:=by kernel_rfl
theorem Zqn:Qb7 Tryz.prog 4=false:=by kernel_rfl
theorem Q3j:(Tryz.prog.info? 4).isSome=true:=by kernel_rfl
theorem Zkj:Qaz Tryz.prog 4=some (1,1):=by kernel_rfl
theorem Zbf:Tryz.prog.cellsOf 4=1:=by kernel_rfl
theorem Zkk:Qa7 Tryz.prog 4=some (PV.bool Bool.false):=by kernel_rfl
theorem Zkl:Tryz.prog.underlying 4=some .bool:=by kernel_rfl
theorem Ztj:tyOk Tryz.prog 5=true:=by kernel_rfl
theorem Zqo:Qb7 Tryz.prog 5=false:=by kernel_rfl
theorem Q3k:(Tryz.prog.info? 5).isSome=true:=by kernel_rfl
theorem Zkm:Qaz Tryz.prog 5=some (1,1):=by kernel_rfl
theorem Zbg:Tryz.prog.cellsOf 5=1:=by kernel_rfl
theorem Zkn:Qa7 Tryz.prog 5=some (PV.int IntKind.u8 0):=by kernel_rfl
theorem Zqp:Tryz.prog.underlying 5=some (.int .u8):=by kernel_rfl
theorem Ztk:tyOk Tryz.prog 9=true:=by kernel_rfl
theorem Zqq:Qb7 Tryz.prog 9=false:=by kernel_rfl
theorem Q3l:(Tryz.prog.info? 9).isSome=true:=by kernel_rfl
theorem Zko:Qaz Tryz.prog 9=some (1,16):=by kernel_rfl
theorem Zbh:Tryz.prog.cellsOf 9=1:=by kernel_rfl
theorem Zkp:Qa7 Tryz.prog 9=some (PV.str {data:={toList:=[]}}):=by kernel_rfl
theorem Zid:Tryz.prog.underlying 9=some .string:=by kernel_rfl
theorem Zkq (s:ByteArray):Qbp Tryz.prog 9 (.str s)=some (.int .i64 s.size):=by simp only [Qbp,Zid]
theorem Zqr:tyOk Tryz.prog 22=true:=by kernel_rfl
theorem Zkr:Qb7 Tryz.prog 22=false:=by kernel_rfl
theorem Qyp:(Tryz.prog.info? 22).isSome=true:=by kernel_rfl
theorem Zbi:Qaz Tryz.prog 22=some (1,24):=by kernel_rfl
theorem Q3m:Tryz.prog.cellsOf 22=1:=by kernel_rfl
theorem Zbj:Qa7 Tryz.prog 22=some PV.nilS:=by kernel_rfl
theorem Zbk:Qb2 Tryz.prog 22=some 34:=by kernel_rfl
theorem Qiz:Tryz.prog.underlying 22=some (.slice 34):=by kernel_rfl
theorem Zbl (es:List PV):Qbp Tryz.prog 22 (.slc es)=some (.int .i64 es.length):=by simp only [Qbp,Qiz]
theorem Zbm:Qbp Tryz.prog 22 .nilS=some (.int .i64 0):=by simp only [Qbp,Qiz]
theorem Zbn (b e o n:Nat):Qbp Tryz.prog 22 (.bs b e o n)=some (.int .i64 n):=by simp only [Qbp,Qiz]
theorem Zqs:tyOk Tryz.prog 26=true:=by kernel_rfl
theorem Zks:Qb7 Tryz.prog 26=true:=by kernel_rfl
theorem Qyq:(Tryz.prog.info? 26).isSome=true:=by kernel_rfl
theorem Zbo:Qaz Tryz.prog 26=some (3,24):=by kernel_rfl
theorem Q3n:Tryz.prog.cellsOf 26=3:=by kernel_rfl
theorem Zbp:Qa7 Tryz.prog 26=some (PV.agg [PV.int IntKind.i64 0,PV.int IntKind.i64 0,PV.int IntKind.i64 0]):=by kernel_rfl
theorem Q3o:buildable Tryz.prog 26=true:=by kernel_rfl
theorem Zkt:Qa0 Tryz.prog 26 0=some (0,3,1):=by kernel_rfl
theorem Zku:Qae Tryz.prog 26 0=some (0,1):=by kernel_rfl
theorem Zkv:Qa0 Tryz.prog 26 1=some (1,3,1):=by kernel_rfl
theorem Zkw:Qae Tryz.prog 26 1=some (1,1):=by kernel_rfl
theorem Zkx:Qa0 Tryz.prog 26 2=some (2,3,1):=by kernel_rfl
theorem Zky:Qae Tryz.prog 26 2=some (2,1):=by kernel_rfl
theorem Zkz:Qc2 Tryz.prog 26=some [1,1,1]:=by kernel_rfl
theorem Zqt:tyOk Tryz.prog 27=true:=by kernel_rfl
theorem Zk0:Qb7 Tryz.prog 27=false:=by kernel_rfl
theorem Qyr:(Tryz.prog.info? 27).isSome=true:=by kernel_rfl
theorem Zbq:Qaz Tryz.prog 27=some (1,24):=by kernel_rfl
theorem Q3p:Tryz.prog.cellsOf 27=1:=by kernel_rfl
theorem Zbr:Qa7 Tryz.prog 27=some PV.nilS:=by kernel_rfl
theorem Zbs:Qb2 Tryz.prog 27=some 3:=by kernel_rfl
theorem Qi0:Tryz.prog.underlying 27=some (.slice 3):=by kernel_rfl
theorem Zbt (es:List PV):Qbp Tryz.prog 27 (.slc es)=some (.int .i64 es.length):=by simp only [Qbp,Qi0]
theorem Zbu:Qbp Tryz.prog 27 .nilS=some (.int .i64 0):=by simp only [Qbp,Qi0]
theorem Zbv (b e o n:Nat):Qbp Tryz.prog 27 (.bs b e o n)=some (.int .i64 n):=by simp only [Qbp,Qi0]
theorem Zqu:tyOk Tryz.prog 28=true:=by kernel_rfl
theorem Zk1:Qb7 Tryz.prog 28=false:=by kernel_rfl
theorem Qys:(Tryz.prog.info? 28).isSome=true:=by kernel_rfl
theorem Zbw:Qaz Tryz.prog 28=some (1,8):=by kernel_rfl
theorem Q3q:Tryz.prog.cellsOf 28=1:=by kernel_rfl
theorem Zbx:Qa7 Tryz.prog 28=some (PV.int IntKind.i64 0):=by kernel_rfl
theorem Zk2:Tryz.prog.underlying 28=some (.int .i64):=by kernel_rfl
theorem Zqv:tyOk Tryz.prog 34=true:=by kernel_rfl
theorem Zk3:Qb7 Tryz.prog 34=true:=by kernel_rfl
theorem Qyt:(Tryz.prog.info? 34).isSome=true:=by kernel_rfl
theorem Zby:Qaz Tryz.prog 34=some (11,88):=by kernel_rfl
theorem Q3r:Tryz.prog.cellsOf 34=11:=by kernel_rfl
theorem Zbz:Qa7 Tryz.prog 34=some (PV.agg [PV.int IntKind.i64 0,PV.int IntKind.i64 0,PV.int IntKind.i64 0,PV.int IntKind.i64 0,PV.int IntKind.i64 0,PV.int IntKind.i64 0,PV.int IntKind.i64 0,PV.int IntKind.i64 0,PV.int IntKind.i64 0,PV.int IntKind.i64 0,PV.int IntKind.i64 0]):=by kernel_rfl
theorem Q3s:buildable Tryz.prog 34=true:=by kernel_rfl
theorem Zk4:Qa0 Tryz.prog 34 0=some (0,26,3):=by kernel_rfl
theorem Zk5:Qae Tryz.prog 34 0=some (0,3):=by kernel_rfl
theorem Zk6:Qa0 Tryz.prog 34 1=some (3,26,3):=by kernel_rfl
theorem Zk7:Qae Tryz.prog 34 1=some (3,3):=by kernel_rfl
theorem Zk8:Qa0 Tryz.prog 34 2=some (6,3,1):=by kernel_rfl
theorem Zk9:Qae Tryz.prog 34 2=some (6,1):=by kernel_rfl
theorem Zla:Qa0 Tryz.prog 34 3=some (7,3,1):=by kernel_rfl
theorem Zlb:Qae Tryz.prog 34 3=some (7,1):=by kernel_rfl
theorem Zlc:Qa0 Tryz.prog 34 4=some (8,26,3):=by kernel_rfl
theorem Zld:Qae Tryz.prog 34 4=some (8,3):=by kernel_rfl
theorem Zle:Qc2 Tryz.prog 34=some [1,1,1,1,1,1,1,1,1,1,1]:=by kernel_rfl
theorem Zqw:tyOk Tryz.prog 44=true:=by kernel_rfl
theorem Zlf:Qb7 Tryz.prog 44=false:=by kernel_rfl
theorem Qyu:(Tryz.prog.info? 44).isSome=true:=by kernel_rfl
theorem Zb0:Qaz Tryz.prog 44=some (1,24):=by kernel_rfl
theorem Q3t:Tryz.prog.cellsOf 44=1:=by kernel_rfl
theorem Zb1:Qa7 Tryz.prog 44=some PV.nilS:=by kernel_rfl
theorem Zb2:Qb2 Tryz.prog 44=some 56:=by kernel_rfl
theorem Qi1:Tryz.prog.underlying 44=some (.slice 56):=by kernel_rfl
theorem Zb3 (es:List PV):Qbp Tryz.prog 44 (.slc es)=some (.int .i64 es.length):=by simp only [Qbp,Qi1]
theorem Zb4:Qbp Tryz.prog 44 .nilS=some (.int .i64 0):=by simp only [Qbp,Qi1]
theorem Zb5 (b e o n:Nat):Qbp Tryz.prog 44 (.bs b e o n)=some (.int .i64 n):=by simp only [Qbp,Qi1]
theorem Zqx:tyOk Tryz.prog 46=true:=by kernel_rfl
theorem Zlg:Qb7 Tryz.prog 46=false:=by kernel_rfl
theorem Qyv:(Tryz.prog.info? 46).isSome=true:=by kernel_rfl
theorem Zb6:Qaz Tryz.prog 46=some (1,24):=by kernel_rfl
theorem Q3u:Tryz.prog.cellsOf 46=1:=by kernel_rfl
theorem Zb7:Qa7 Tryz.prog 46=some PV.nilS:=by kernel_rfl
theorem Zb8:Qb2 Tryz.prog 46=some 26:=by kernel_rfl
theorem Qi2:Tryz.prog.underlying 46=some (.slice 26):=by kernel_rfl
theorem Zb9 (es:List PV):Qbp Tryz.prog 46 (.slc es)=some (.int .i64 es.length):=by simp only [Qbp,Qi2]
theorem Zca:Qbp Tryz.prog 46 .nilS=some (.int .i64 0):=by simp only [Qbp,Qi2]
theorem Zcb (b e o n:Nat):Qbp Tryz.prog 46 (.bs b e o n)=some (.int .i64 n):=by simp only [Qbp,Qi2]
theorem Zqy:tyOk Tryz.prog 56=true:=by kernel_rfl
theorem Zlh:Qb7 Tryz.prog 56=true:=by kernel_rfl
theorem Qyw:(Tryz.prog.info? 56).isSome=true:=by kernel_rfl
theorem Zcc:Qaz Tryz.prog 56=some (6,96):=by kernel_rfl
theorem Q3v:Tryz.prog.cellsOf 56=6:=by kernel_rfl
theorem Zcd:Qa7 Tryz.prog 56=some (PV.agg [PV.int IntKind.i64 0,PV.int IntKind.i64 0,PV.int IntKind.i64 0,PV.nilS,PV.nilS,PV.nilS]):=by kernel_rfl
theorem Q3w:buildable Tryz.prog 56=true:=by kernel_rfl
theorem Zli:Qa0 Tryz.prog 56 0=some (0,3,1):=by kernel_rfl
theorem Zlj:Qae Tryz.prog 56 0=some (0,1):=by kernel_rfl
theorem Zlk:Qa0 Tryz.prog 56 1=some (1,3,1):=by kernel_rfl
theorem Zll:Qae Tryz.prog 56 1=some (1,1):=by kernel_rfl
theorem Zlm:Qa0 Tryz.prog 56 2=some (2,3,1):=by kernel_rfl
theorem Zln:Qae Tryz.prog 56 2=some (2,1):=by kernel_rfl
theorem Zlo:Qa0 Tryz.prog 56 3=some (3,27,1):=by kernel_rfl
theorem Zlp:Qae Tryz.prog 56 3=some (3,1):=by kernel_rfl
theorem Zlq:Qa0 Tryz.prog 56 4=some (4,27,1):=by kernel_rfl
theorem Zlr:Qae Tryz.prog 56 4=some (4,1):=by kernel_rfl
theorem Zls:Qa0 Tryz.prog 56 5=some (5,27,1):=by kernel_rfl
theorem Zlt:Qae Tryz.prog 56 5=some (5,1):=by kernel_rfl
theorem Zqz:tyOk Tryz.prog 59=true:=by kernel_rfl
theorem Zlu:Qb7 Tryz.prog 59=true:=by kernel_rfl
theorem Qyx:(Tryz.prog.info? 59).isSome=true:=by kernel_rfl
theorem Zce:Qaz Tryz.prog 59=some (5,40):=by kernel_rfl
theorem Q3x:Tryz.prog.cellsOf 59=5:=by kernel_rfl
theorem Zcf:Qa7 Tryz.prog 59=some (PV.agg [PV.int IntKind.i64 0,PV.int IntKind.i64 0,PV.int IntKind.i64 0,PV.int IntKind.i64 0,PV.int IntKind.i64 0]):=by kernel_rfl
theorem Q3y:buildable Tryz.prog 59=true:=by kernel_rfl
theorem Zlv:Qa0 Tryz.prog 59 0=some (0,3,1):=by kernel_rfl
theorem Zlw:Qae Tryz.prog 59 0=some (0,1):=by kernel_rfl
theorem Zlx:Qa0 Tryz.prog 59 1=some (1,3,1):=by kernel_rfl
theorem Zly:Qae Tryz.prog 59 1=some (1,1):=by kernel_rfl
theorem Zlz:Qa0 Tryz.prog 59 2=some (2,3,1):=by kernel_rfl
theorem Zl0:Qae Tryz.prog 59 2=some (2,1):=by kernel_rfl
theorem Zl1:Qa0 Tryz.prog 59 3=some (3,3,1):=by kernel_rfl
theorem Zl2:Qae Tryz.prog 59 3=some (3,1):=by kernel_rfl
theorem Zl3:Qa0 Tryz.prog 59 4=some (4,3,1):=by kernel_rfl
theorem Zl4:Qae Tryz.prog 59 4=some (4,1):=by kernel_rfl
theorem Zl5:Qc2 Tryz.prog 59=some [1,1,1,1,1]:=by kernel_rfl
theorem Zq0:tyOk Tryz.prog 71=true:=by kernel_rfl
theorem Zl6:Qb7 Tryz.prog 71=true:=by kernel_rfl
theorem Qyy:(Tryz.prog.info? 71).isSome=true:=by kernel_rfl
theorem Zcg:Qaz Tryz.prog 71=some (2,24):=by kernel_rfl
theorem Q3z:Tryz.prog.cellsOf 71=2:=by kernel_rfl
theorem Zch:Qa7 Tryz.prog 71=some (PV.agg [PV.bool Bool.false,PV.str {data:={toList:=[]}}]):=by kernel_rfl
theorem Q30:buildable Tryz.prog 71=true:=by kernel_rfl
theorem Zl7:Qa0 Tryz.prog 71 0=some (0,4,1):=by kernel_rfl
theorem Zl8:Qae Tryz.prog 71 0=some (0,1):=by kernel_rfl
theorem Zl9:Qa0 Tryz.prog 71 1=some (1,9,1):=by kernel_rfl
theorem Zma:Qae Tryz.prog 71 1=some (1,1):=by kernel_rfl
theorem Zmb:Qc2 Tryz.prog 71=some [0,2]:=by kernel_rfl
theorem Zq1:tyOk Tryz.prog 73=true:=by kernel_rfl
theorem Zmc:Qb7 Tryz.prog 73=true:=by kernel_rfl
theorem Qyz:(Tryz.prog.info? 73).isSome=true:=by kernel_rfl
theorem Zci:Qaz Tryz.prog 73=some (8,96):=by kernel_rfl
theorem Q31:Tryz.prog.cellsOf 73=8:=by kernel_rfl
theorem Zcj:Qa7 Tryz.prog 73=some (PV.agg [PV.bool Bool.false,PV.str {data:={toList:=[]}},PV.bool Bool.false,PV.str {data:={toList:=[]}},PV.bool Bool.false,PV.str {data:={toList:=[]}},PV.bool Bool.false,PV.str {data:={toList:=[]}}]):=by kernel_rfl
theorem Q32:buildable Tryz.prog 73=true:=by kernel_rfl
theorem Zmd:Qa0 Tryz.prog 73 0=some (0,71,2):=by kernel_rfl
theorem Zme:Qae Tryz.prog 73 0=some (0,2):=by kernel_rfl
theorem Zmf:Qa0 Tryz.prog 73 1=some (2,71,2):=by kernel_rfl
theorem Zmg:Qae Tryz.prog 73 1=some (2,2):=by kernel_rfl
theorem Zmh:Qa0 Tryz.prog 73 2=some (4,71,2):=by kernel_rfl
theorem Zmi:Qae Tryz.prog 73 2=some (4,2):=by kernel_rfl
theorem Zmj:Qa0 Tryz.prog 73 3=some (6,71,2):=by kernel_rfl
theorem Zmk:Qae Tryz.prog 73 3=some (6,2):=by kernel_rfl
theorem Zml:Qc2 Tryz.prog 73=some [0,2,0,2,0,2,0,2]:=by kernel_rfl
theorem Zq2:tyOk Tryz.prog 74=true:=by kernel_rfl
theorem Zmm:Qb7 Tryz.prog 74=false:=by kernel_rfl
theorem Qy0:(Tryz.prog.info? 74).isSome=true:=by kernel_rfl
theorem Zck:Qaz Tryz.prog 74=some (1,24):=by kernel_rfl
theorem Q33:Tryz.prog.cellsOf 74=1:=by kernel_rfl
theorem Zcl:Qa7 Tryz.prog 74=some PV.nilS:=by kernel_rfl
theorem Zcm:Qb2 Tryz.prog 74=some 76:=by kernel_rfl
theorem Qi3:Tryz.prog.underlying 74=some (.slice 76):=by kernel_rfl
theorem Zcn (es:List PV):Qbp Tryz.prog 74 (.slc es)=some (.int .i64 es.length):=by simp only [Qbp,Qi3]
theorem Zco:Qbp Tryz.prog 74 .nilS=some (.int .i64 0):=by simp only [Qbp,Qi3]
theorem Zcp (b e o n:Nat):Qbp Tryz.prog 74 (.bs b e o n)=some (.int .i64 n):=by simp only [Qbp,Qi3]
theorem Zq3:tyOk Tryz.prog 76=true:=by kernel_rfl
theorem Zmn:Qb7 Tryz.prog 76=true:=by kernel_rfl
theorem Qy1:(Tryz.prog.info? 76).isSome=true:=by kernel_rfl
theorem Zcq:Qaz Tryz.prog 76=some (2,32):=by kernel_rfl
theorem Q34:Tryz.prog.cellsOf 76=2:=by kernel_rfl
theorem Zcr:Qa7 Tryz.prog 76=some (PV.agg [PV.bool Bool.false,PV.nilS]):=by kernel_rfl
theorem Q35:buildable Tryz.prog 76=true:=by kernel_rfl
theorem Zmo:Qa0 Tryz.prog 76 0=some (0,4,1):=by kernel_rfl
theorem Zmp:Qae Tryz.prog 76 0=some (0,1):=by kernel_rfl
theorem Zmq:Qa0 Tryz.prog 76 1=some (1,27,1):=by kernel_rfl
theorem Zmr:Qae Tryz.prog 76 1=some (1,1):=by kernel_rfl
theorem Zq4:tyOk Tryz.prog 78=true:=by kernel_rfl
theorem Zms:Qb7 Tryz.prog 78=true:=by kernel_rfl
theorem Qy2:(Tryz.prog.info? 78).isSome=true:=by kernel_rfl
theorem Zcs:Qaz Tryz.prog 78=some (3,56):=by kernel_rfl
theorem Q36:Tryz.prog.cellsOf 78=3:=by kernel_rfl
theorem Zct:Qa7 Tryz.prog 78=some (PV.agg [PV.nilS,PV.bool Bool.false,PV.nilS]):=by kernel_rfl
theorem Q37:buildable Tryz.prog 78=true:=by kernel_rfl
theorem Zmt:Qa0 Tryz.prog 78 0=some (0,74,1):=by kernel_rfl
theorem Zmu:Qae Tryz.prog 78 0=some (0,1):=by kernel_rfl
theorem Zmv:Qa0 Tryz.prog 78 1=some (1,76,2):=by kernel_rfl
theorem Zmw:Qae Tryz.prog 78 1=some (1,2):=by kernel_rfl
theorem Zq5:tyOk Tryz.prog 87=true:=by kernel_rfl
theorem Zmx:Qb7 Tryz.prog 87=true:=by kernel_rfl
theorem Qy3:(Tryz.prog.info? 87).isSome=true:=by kernel_rfl
theorem Zcu:Qaz Tryz.prog 87=some (3,24):=by kernel_rfl
theorem Q38:Tryz.prog.cellsOf 87=3:=by kernel_rfl
theorem Zcv:Qa7 Tryz.prog 87=some (PV.agg [PV.int IntKind.i64 0,PV.int IntKind.i64 0,PV.int IntKind.i64 0]):=by kernel_rfl
theorem Zmy:Qgq Tryz.prog 87=some (3,3):=by kernel_rfl
theorem Q39:buildable Tryz.prog 87=true:=by kernel_rfl
theorem Zmz:Qae Tryz.prog 87 0=some (0,1):=by kernel_rfl
theorem Zm0:Qae Tryz.prog 87 1=some (1,1):=by kernel_rfl
theorem Zm1:Qae Tryz.prog 87 2=some (2,1):=by kernel_rfl
theorem Zm2:Qae Tryz.prog 87 3=some (3,1):=by kernel_rfl
theorem Zm3:Qae Tryz.prog 87 4=some (4,1):=by kernel_rfl
theorem Zm4:Qae Tryz.prog 87 5=some (5,1):=by kernel_rfl
theorem Zm5:Qae Tryz.prog 87 6=some (6,1):=by kernel_rfl
theorem Zm6:Qae Tryz.prog 87 7=some (7,1):=by kernel_rfl
theorem Zm7:Qae Tryz.prog 87 8=some (8,1):=by kernel_rfl
theorem Zm8:Qae Tryz.prog 87 9=some (9,1):=by kernel_rfl
theorem Zcw:Qae Tryz.prog 87 10=some (10,1):=by kernel_rfl
theorem Zcx:Qae Tryz.prog 87 11=some (11,1):=by kernel_rfl
theorem Zcy:Qae Tryz.prog 87 12=some (12,1):=by kernel_rfl
theorem Zcz:Qae Tryz.prog 87 13=some (13,1):=by kernel_rfl
theorem Zc0:Qae Tryz.prog 87 14=some (14,1):=by kernel_rfl
theorem Zc1:Qae Tryz.prog 87 15=some (15,1):=by kernel_rfl
theorem Zc2:Qae Tryz.prog 87 16=some (16,1):=by kernel_rfl
theorem Zc3:Qae Tryz.prog 87 17=some (17,1):=by kernel_rfl
theorem Zc4:Qae Tryz.prog 87 18=some (18,1):=by kernel_rfl
theorem Zc5:Qae Tryz.prog 87 19=some (19,1):=by kernel_rfl
theorem Zq6:tyOk Tryz.prog 89=true:=by kernel_rfl
theorem Zm9:Qb7 Tryz.prog 89=false:=by kernel_rfl
theorem Qy4:(Tryz.prog.info? 89).isSome=true:=by kernel_rfl
theorem Zc6:Qaz Tryz.prog 89=some (1,8):=by kernel_rfl
theorem Q4a:Tryz.prog.cellsOf 89=1:=by kernel_rfl
theorem Zc7:Qa7 Tryz.prog 89=some PV.nilF:=by kernel_rfl
theorem Zq7:tyOk Tryz.prog 92=true:=by kernel_rfl
theorem Zna:Qb7 Tryz.prog 92=false:=by kernel_rfl
theorem Qy5:(Tryz.prog.info? 92).isSome=true:=by kernel_rfl
theorem Zc8:Qaz Tryz.prog 92=some (1,8):=by kernel_rfl
theorem Q4b:Tryz.prog.cellsOf 92=1:=by kernel_rfl
theorem Zc9:Qa7 Tryz.prog 92=some PV.nilF:=by kernel_rfl
theorem Zq8:tyOk Tryz.prog 93=true:=by kernel_rfl
theorem Znb:Qb7 Tryz.prog 93=false:=by kernel_rfl
theorem Qy6:(Tryz.prog.info? 93).isSome=true:=by kernel_rfl
theorem Zda:Qaz Tryz.prog 93=some (1,8):=by kernel_rfl
theorem Q4c:Tryz.prog.cellsOf 93=1:=by kernel_rfl
theorem Zdb:Qa7 Tryz.prog 93=some (PV.int IntKind.u64 0):=by kernel_rfl
theorem Znc:Tryz.prog.underlying 93=some (.int .u64):=by kernel_rfl
theorem Zq9:tyOk Tryz.prog 94=true:=by kernel_rfl
theorem Znd:Qb7 Tryz.prog 94=false:=by kernel_rfl
theorem Qy7:(Tryz.prog.info? 94).isSome=true:=by kernel_rfl
theorem Zdc:Qaz Tryz.prog 94=some (1,8):=by kernel_rfl
theorem Q4d:Tryz.prog.cellsOf 94=1:=by kernel_rfl
theorem Zdd:Qa7 Tryz.prog 94=some (PV.int IntKind.u64 0):=by kernel_rfl
theorem Zne:Tryz.prog.underlying 94=some (.int .u64):=by kernel_rfl
theorem Znf:tyOk Tryz.prog 109=true:=by kernel_rfl
theorem Zde:Qb7 Tryz.prog 109=true:=by kernel_rfl
theorem Quj:(Tryz.prog.info? 109).isSome=true:=by kernel_rfl
theorem Q4e:Qaz Tryz.prog 109=some (6,72):=by kernel_rfl
theorem Qy8:Tryz.prog.cellsOf 109=6:=by kernel_rfl
theorem Q4f:Qa7 Tryz.prog 109=some (PV.agg [PV.bool Bool.false,PV.str {data:={toList:=[]}},PV.bool Bool.false,PV.str {data:={toList:=[]}},PV.bool Bool.false,PV.str {data:={toList:=[]}}]):=by kernel_rfl
theorem Zdf:Qgq Tryz.prog 109=some (3,71):=by kernel_rfl
theorem Qy9:buildable Tryz.prog 109=true:=by kernel_rfl
theorem Zdg:Qae Tryz.prog 109 0=some (0,2):=by kernel_rfl
theorem Zdh:Qae Tryz.prog 109 1=some (2,2):=by kernel_rfl
theorem Zdi:Qae Tryz.prog 109 2=some (4,2):=by kernel_rfl
theorem Zdj:Qae Tryz.prog 109 3=some (6,2):=by kernel_rfl
theorem Zdk:Qae Tryz.prog 109 4=some (8,2):=by kernel_rfl
theorem Zdl:Qae Tryz.prog 109 5=some (10,2):=by kernel_rfl
theorem Zdm:Qae Tryz.prog 109 6=some (12,2):=by kernel_rfl
theorem Zdn:Qae Tryz.prog 109 7=some (14,2):=by kernel_rfl
theorem Zdo:Qae Tryz.prog 109 8=some (16,2):=by kernel_rfl
theorem Zdp:Qae Tryz.prog 109 9=some (18,2):=by kernel_rfl
theorem Q4g:Qae Tryz.prog 109 10=some (20,2):=by kernel_rfl
theorem Q4h:Qae Tryz.prog 109 11=some (22,2):=by kernel_rfl
theorem Q4i:Qae Tryz.prog 109 12=some (24,2):=by kernel_rfl
theorem Q4j:Qae Tryz.prog 109 13=some (26,2):=by kernel_rfl
theorem Q4k:Qae Tryz.prog 109 14=some (28,2):=by kernel_rfl
theorem Q4l:Qae Tryz.prog 109 15=some (30,2):=by kernel_rfl
theorem Q4m:Qae Tryz.prog 109 16=some (32,2):=by kernel_rfl
theorem Q4n:Qae Tryz.prog 109 17=some (34,2):=by kernel_rfl
theorem Q4o:Qae Tryz.prog 109 18=some (36,2):=by kernel_rfl
theorem Q4p:Qae Tryz.prog 109 19=some (38,2):=by kernel_rfl
theorem Zng:tyOk Tryz.prog 118=true:=by kernel_rfl
theorem Zdq:Qb7 Tryz.prog 118=true:=by kernel_rfl
theorem Quk:(Tryz.prog.info? 118).isSome=true:=by kernel_rfl
theorem Q4q:Qaz Tryz.prog 118=some (4,64):=by kernel_rfl
theorem Qza:Tryz.prog.cellsOf 118=4:=by kernel_rfl
theorem Q4r:Qa7 Tryz.prog 118=some (PV.agg [PV.bool Bool.false,PV.nilS,PV.bool Bool.false,PV.nilS]):=by kernel_rfl
theorem Qzb:buildable Tryz.prog 118=true:=by kernel_rfl
theorem Zdr:Qa0 Tryz.prog 118 0=some (0,76,2):=by kernel_rfl
theorem Zds:Qae Tryz.prog 118 0=some (0,2):=by kernel_rfl
theorem Zdt:Qa0 Tryz.prog 118 1=some (2,76,2):=by kernel_rfl
theorem Zdu:Qae Tryz.prog 118 1=some (2,2):=by kernel_rfl
theorem Znh:tyOk Tryz.prog 124=true:=by kernel_rfl
theorem Zdv:Qb7 Tryz.prog 124=false:=by kernel_rfl
theorem Qul:(Tryz.prog.info? 124).isSome=true:=by kernel_rfl
theorem Q4s:Qaz Tryz.prog 124=some (1,24):=by kernel_rfl
theorem Qzc:Tryz.prog.cellsOf 124=1:=by kernel_rfl
theorem Q4t:Qa7 Tryz.prog 124=some PV.nilS:=by kernel_rfl
theorem Q4u:Qb2 Tryz.prog 124=some 27:=by kernel_rfl
theorem Qhk:Tryz.prog.underlying 124=some (.slice 27):=by kernel_rfl
theorem Q4v (es:List PV):Qbp Tryz.prog 124 (.slc es)=some (.int .i64 es.length):=by simp only [Qbp,Qhk]
theorem Q4w:Qbp Tryz.prog 124 .nilS=some (.int .i64 0):=by simp only [Qbp,Qhk]
theorem Q4x (b e o n:Nat):Qbp Tryz.prog 124 (.bs b e o n)=some (.int .i64 n):=by simp only [Qbp,Qhk]
theorem Zni:tyOk Tryz.prog 158=true:=by kernel_rfl
theorem Zdw:Qb7 Tryz.prog 158=false:=by kernel_rfl
theorem Qum:(Tryz.prog.info? 158).isSome=true:=by kernel_rfl
theorem Q4y:Qaz Tryz.prog 158=some (1,24):=by kernel_rfl
theorem Qzd:Tryz.prog.cellsOf 158=1:=by kernel_rfl
theorem Q4z:Qa7 Tryz.prog 158=some PV.nilS:=by kernel_rfl
theorem Q40:Qb2 Tryz.prog 158=some 162:=by kernel_rfl
theorem Qhl:Tryz.prog.underlying 158=some (.slice 162):=by kernel_rfl
theorem Q41 (es:List PV):Qbp Tryz.prog 158 (.slc es)=some (.int .i64 es.length):=by simp only [Qbp,Qhl]
theorem Q42:Qbp Tryz.prog 158 .nilS=some (.int .i64 0):=by simp only [Qbp,Qhl]
theorem Q43 (b e o n:Nat):Qbp Tryz.prog 158 (.bs b e o n)=some (.int .i64 n):=by simp only [Qbp,Qhl]
theorem Znj:tyOk Tryz.prog 160=true:=by kernel_rfl
theorem Zdx:Qb7 Tryz.prog 160=true:=by kernel_rfl
theorem Qun:(Tryz.prog.info? 160).isSome=true:=by kernel_rfl
theorem Q44:Qaz Tryz.prog 160=some (2,32):=by kernel_rfl
theorem Qze:Tryz.prog.cellsOf 160=2:=by kernel_rfl
theorem Q45:Qa7 Tryz.prog 160=some (PV.agg [PV.bool Bool.false,PV.nilS]):=by kernel_rfl
theorem Qzf:buildable Tryz.prog 160=true:=by kernel_rfl
theorem Zdy:Qa0 Tryz.prog 160 0=some (0,4,1):=by kernel_rfl
theorem Zdz:Qae Tryz.prog 160 0=some (0,1):=by kernel_rfl
theorem Zd0:Qa0 Tryz.prog 160 1=some (1,158,1):=by kernel_rfl
theorem Zd1:Qae Tryz.prog 160 1=some (1,1):=by kernel_rfl
theorem Znk:tyOk Tryz.prog 162=true:=by kernel_rfl
theorem Zd2:Qb7 Tryz.prog 162=false:=by kernel_rfl
theorem Qup:(Tryz.prog.info? 162).isSome=true:=by kernel_rfl
theorem Q46:Qaz Tryz.prog 162=some (1,8):=by kernel_rfl
theorem Qzg:Tryz.prog.cellsOf 162=1:=by kernel_rfl
theorem Q47:Qa7 Tryz.prog 162=some (PV.int IntKind.u64 0):=by kernel_rfl
theorem Zd3:Tryz.prog.underlying 162=some (.int .u64):=by kernel_rfl
theorem Znl:tyOk Tryz.prog 169=true:=by kernel_rfl
theorem Zd4:Qb7 Tryz.prog 169=true:=by kernel_rfl
theorem Quq:(Tryz.prog.info? 169).isSome=true:=by kernel_rfl
theorem Q48:Qaz Tryz.prog 169=some (3,72):=by kernel_rfl
theorem Qzh:Tryz.prog.cellsOf 169=3:=by kernel_rfl
theorem Q49:Qa7 Tryz.prog 169=some (PV.agg [PV.nilS,PV.nilS,PV.nilS]):=by kernel_rfl
theorem Zd5:Qgq Tryz.prog 169=some (3,27):=by kernel_rfl
theorem Qzi:buildable Tryz.prog 169=true:=by kernel_rfl
theorem Zd6:Qae Tryz.prog 169 0=some (0,1):=by kernel_rfl
theorem Zd7:Qae Tryz.prog 169 1=some (1,1):=by kernel_rfl
theorem Zd8:Qae Tryz.prog 169 2=some (2,1):=by kernel_rfl
theorem Zd9:Qae Tryz.prog 169 3=some (3,1):=by kernel_rfl
theorem Zea:Qae Tryz.prog 169 4=some (4,1):=by kernel_rfl
theorem Zeb:Qae Tryz.prog 169 5=some (5,1):=by kernel_rfl
theorem Zec:Qae Tryz.prog 169 6=some (6,1):=by kernel_rfl
theorem Zed:Qae Tryz.prog 169 7=some (7,1):=by kernel_rfl
theorem Zee:Qae Tryz.prog 169 8=some (8,1):=by kernel_rfl
theorem Zef:Qae Tryz.prog 169 9=some (9,1):=by kernel_rfl
theorem Q5a:Qae Tryz.prog 169 10=some (10,1):=by kernel_rfl
theorem Q5b:Qae Tryz.prog 169 11=some (11,1):=by kernel_rfl
theorem Q5c:Qae Tryz.prog 169 12=some (12,1):=by kernel_rfl
theorem Q5d:Qae Tryz.prog 169 13=some (13,1):=by kernel_rfl
theorem Q5e:Qae Tryz.prog 169 14=some (14,1):=by kernel_rfl
theorem Q5f:Qae Tryz.prog 169 15=some (15,1):=by kernel_rfl
theorem Q5g:Qae Tryz.prog 169 16=some (16,1):=by kernel_rfl
theorem Q5h:Qae Tryz.prog 169 17=some (17,1):=by kernel_rfl
theorem Q5i:Qae Tryz.prog 169 18=some (18,1):=by kernel_rfl
theorem Q5j:Qae Tryz.prog 169 19=some (19,1):=by kernel_rfl
theorem Znm:tyOk Tryz.prog 173=true:=by kernel_rfl
theorem Zeg:Qb7 Tryz.prog 173=true:=by kernel_rfl
theorem Qur:(Tryz.prog.info? 173).isSome=true:=by kernel_rfl
theorem Q5k:Qaz Tryz.prog 173=some (4,48):=by kernel_rfl
theorem Qzj:Tryz.prog.cellsOf 173=4:=by kernel_rfl
theorem Q5l:Qa7 Tryz.prog 173=some (PV.agg [PV.bool Bool.false,PV.str {data:={toList:=[]}},PV.bool Bool.false,PV.str {data:={toList:=[]}}]):=by kernel_rfl
theorem Qzk:buildable Tryz.prog 173=true:=by kernel_rfl
theorem Zeh:Qa0 Tryz.prog 173 0=some (0,71,2):=by kernel_rfl
theorem Zei:Qae Tryz.prog 173 0=some (0,2):=by kernel_rfl
theorem Zej:Qa0 Tryz.prog 173 1=some (2,71,2):=by kernel_rfl
theorem Zek:Qae Tryz.prog 173 1=some (2,2):=by kernel_rfl
theorem Zel:Qc2 Tryz.prog 173=some [0,2,0,2]:=by kernel_rfl
theorem Znn:tyOk Tryz.prog 178=true:=by kernel_rfl
theorem Zem:Qb7 Tryz.prog 178=true:=by kernel_rfl
theorem Qus:(Tryz.prog.info? 178).isSome=true:=by kernel_rfl
theorem Q5m:Qaz Tryz.prog 178=some (2,32):=by kernel_rfl
theorem Qzl:Tryz.prog.cellsOf 178=2:=by kernel_rfl
theorem Q5n:Qa7 Tryz.prog 178=some (PV.agg [PV.nilS,PV.int IntKind.i64 0]):=by kernel_rfl
theorem Qzm:buildable Tryz.prog 178=true:=by kernel_rfl
theorem Zen:Qa0 Tryz.prog 178 0=some (0,27,1):=by kernel_rfl
theorem Zeo:Qae Tryz.prog 178 0=some (0,1):=by kernel_rfl
theorem Zep:Qa0 Tryz.prog 178 1=some (1,3,1):=by kernel_rfl
theorem Zeq:Qae Tryz.prog 178 1=some (1,1):=by kernel_rfl
theorem Zno:tyOk Tryz.prog 179=true:=by kernel_rfl
theorem Zer:Qb7 Tryz.prog 179=true:=by kernel_rfl
theorem Qut:(Tryz.prog.info? 179).isSome=true:=by kernel_rfl
theorem Q5o:Qaz Tryz.prog 179=some (6,96):=by kernel_rfl
theorem Qzn:Tryz.prog.cellsOf 179=6:=by kernel_rfl
theorem Q5p:Qa7 Tryz.prog 179=some (PV.agg [PV.nilS,PV.int IntKind.i64 0,PV.nilS,PV.int IntKind.i64 0,PV.nilS,PV.int IntKind.i64 0]):=by kernel_rfl
theorem Zes:Qgq Tryz.prog 179=some (3,178):=by kernel_rfl
theorem Qzo:buildable Tryz.prog 179=true:=by kernel_rfl
theorem Zet:Qae Tryz.prog 179 0=some (0,2):=by kernel_rfl
theorem Zeu:Qae Tryz.prog 179 1=some (2,2):=by kernel_rfl
theorem Zev:Qae Tryz.prog 179 2=some (4,2):=by kernel_rfl
theorem Zew:Qae Tryz.prog 179 3=some (6,2):=by kernel_rfl
theorem Zex:Qae Tryz.prog 179 4=some (8,2):=by kernel_rfl
theorem Zey:Qae Tryz.prog 179 5=some (10,2):=by kernel_rfl
theorem Zez:Qae Tryz.prog 179 6=some (12,2):=by kernel_rfl
theorem Ze0:Qae Tryz.prog 179 7=some (14,2):=by kernel_rfl
theorem Ze1:Qae Tryz.prog 179 8=some (16,2):=by kernel_rfl
theorem Ze2:Qae Tryz.prog 179 9=some (18,2):=by kernel_rfl
theorem Q5q:Qae Tryz.prog 179 10=some (20,2):=by kernel_rfl
theorem Q5r:Qae Tryz.prog 179 11=some (22,2):=by kernel_rfl
theorem Q5s:Qae Tryz.prog 179 12=some (24,2):=by kernel_rfl
theorem Q5t:Qae Tryz.prog 179 13=some (26,2):=by kernel_rfl
theorem Q5u:Qae Tryz.prog 179 14=some (28,2):=by kernel_rfl
theorem Q5v:Qae Tryz.prog 179 15=some (30,2):=by kernel_rfl
theorem Q5w:Qae Tryz.prog 179 16=some (32,2):=by kernel_rfl
theorem Q5x:Qae Tryz.prog 179 17=some (34,2):=by kernel_rfl
theorem Q5y:Qae Tryz.prog 179 18=some (36,2):=by kernel_rfl
theorem Q5z:Qae Tryz.prog 179 19=some (38,2):=by kernel_rfl
theorem Znp:tyOk Tryz.prog 191=true:=by kernel_rfl
theorem Ze3:Qb7 Tryz.prog 191=false:=by kernel_rfl
theorem Quu:(Tryz.prog.info? 191).isSome=true:=by kernel_rfl
theorem Q50:Qaz Tryz.prog 191=some (1,24):=by kernel_rfl
theorem Qzp:Tryz.prog.cellsOf 191=1:=by kernel_rfl
theorem Q51:Qa7 Tryz.prog 191=some PV.nilS:=by kernel_rfl
theorem Q52:Qb2 Tryz.prog 191=some 5:=by kernel_rfl
theorem Qhm:Tryz.prog.underlying 191=some (.slice 5):=by kernel_rfl
theorem Q53 (es:List PV):Qbp Tryz.prog 191 (.slc es)=some (.int .i64 es.length):=by simp only [Qbp,Qhm]
theorem Q54:Qbp Tryz.prog 191 .nilS=some (.int .i64 0):=by simp only [Qbp,Qhm]
theorem Q55 (b e o n:Nat):Qbp Tryz.prog 191 (.bs b e o n)=some (.int .i64 n):=by simp only [Qbp,Qhm]
theorem Znq:tyOk Tryz.prog 204=true:=by kernel_rfl
theorem Ze4:Qb7 Tryz.prog 204=false:=by kernel_rfl
theorem Quv:(Tryz.prog.info? 204).isSome=true:=by kernel_rfl
theorem Q56:Qaz Tryz.prog 204=some (1,4):=by kernel_rfl
theorem Qzq:Tryz.prog.cellsOf 204=1:=by kernel_rfl
theorem Q57:Qa7 Tryz.prog 204=some (PV.int IntKind.u32 0):=by kernel_rfl
theorem Ze5:Tryz.prog.underlying 204=some (.int .u32):=by kernel_rfl
theorem Znr:tyOk Tryz.prog 216=true:=by kernel_rfl
theorem Ze6:Qb7 Tryz.prog 216=true:=by kernel_rfl
theorem Quw:(Tryz.prog.info? 216).isSome=true:=by kernel_rfl
theorem Q58:Qaz Tryz.prog 216=some (6,48):=by kernel_rfl
theorem Qzr:Tryz.prog.cellsOf 216=6:=by kernel_rfl
theorem Q59:Qa7 Tryz.prog 216=some (PV.agg [PV.int IntKind.i64 0,PV.int IntKind.i64 0,PV.int IntKind.i64 0,PV.int IntKind.i64 0,PV.int IntKind.i64 0,PV.int IntKind.i64 0]):=by kernel_rfl
theorem Ze7:Qgq Tryz.prog 216=some (6,3):=by kernel_rfl
theorem Qzs:buildable Tryz.prog 216=true:=by kernel_rfl
theorem Ze8:Qae Tryz.prog 216 0=some (0,1):=by kernel_rfl
theorem Ze9:Qae Tryz.prog 216 1=some (1,1):=by kernel_rfl
theorem Zfa:Qae Tryz.prog 216 2=some (2,1):=by kernel_rfl
theorem Zfb:Qae Tryz.prog 216 3=some (3,1):=by kernel_rfl
theorem Zfc:Qae Tryz.prog 216 4=some (4,1):=by kernel_rfl
theorem Zfd:Qae Tryz.prog 216 5=some (5,1):=by kernel_rfl
theorem Zfe:Qae Tryz.prog 216 6=some (6,1):=by kernel_rfl
theorem Zff:Qae Tryz.prog 216 7=some (7,1):=by kernel_rfl
theorem Zfg:Qae Tryz.prog 216 8=some (8,1):=by kernel_rfl
theorem Zfh:Qae Tryz.prog 216 9=some (9,1):=by kernel_rfl
theorem Q6a:Qae Tryz.prog 216 10=some (10,1):=by kernel_rfl
theorem Q6b:Qae Tryz.prog 216 11=some (11,1):=by kernel_rfl
theorem Q6c:Qae Tryz.prog 216 12=some (12,1):=by kernel_rfl
theorem Q6d:Qae Tryz.prog 216 13=some (13,1):=by kernel_rfl
theorem Q6e:Qae Tryz.prog 216 14=some (14,1):=by kernel_rfl
theorem Q6f:Qae Tryz.prog 216 15=some (15,1):=by kernel_rfl
theorem Q6g:Qae Tryz.prog 216 16=some (16,1):=by kernel_rfl
theorem Q6h:Qae Tryz.prog 216 17=some (17,1):=by kernel_rfl
theorem Q6i:Qae Tryz.prog 216 18=some (18,1):=by kernel_rfl
theorem Q6j:Qae Tryz.prog 216 19=some (19,1):=by kernel_rfl
theorem Zns:tyOk Tryz.prog 217=true:=by kernel_rfl
theorem Zfi:Qb7 Tryz.prog 217=true:=by kernel_rfl
theorem Qux:(Tryz.prog.info? 217).isSome=true:=by kernel_rfl
theorem Q6k:Qaz Tryz.prog 217=some (36,288):=by kernel_rfl
theorem Qzt:Tryz.prog.cellsOf 217=36:=by kernel_rfl
theorem Q6l:Qa7 Tryz.prog 217=some (PV.agg [PV.int IntKind.i64 0,PV.int IntKind.i64 0,PV.int IntKind.i64 0,PV.int IntKind.i64 0,PV.int IntKind.i64 0,PV.int IntKind.i64 0,PV.int IntKind.i64 0,PV.int IntKind.i64 0,PV.int IntKind.i64 0,PV.int IntKind.i64 0,PV.int IntKind.i64 0,PV.int IntKind.i64 0,PV.int IntKind.i64 0,PV.int IntKind.i64 0,PV.int IntKind.i64 0,PV.int IntKind.i64 0,PV.int IntKind.i64 0,PV.int IntKind.i64 0,PV.int IntKind.i64 0,PV.int IntKind.i64 0,PV.int IntKind.i64 0,PV.int IntKind.i64 0,PV.int IntKind.i64 0,PV.int IntKind.i64 0,PV.int IntKind.i64 0,PV.int IntKind.i64 0,PV.int IntKind.i64 0,PV.int IntKind.i64 0,PV.int IntKind.i64 0,PV.int IntKind.i64 0,PV.int IntKind.i64 0,PV.int IntKind.i64 0,PV.int IntKind.i64 0,PV.int IntKind.i64 0,PV.int IntKind.i64 0,PV.int IntKind.i64 0]):=by kernel_rfl
theorem Zfj:Qgq Tryz.prog 217=some (6,216):=by kernel_rfl
theorem Qzu:buildable Tryz.prog 217=true:=by kernel_rfl
theorem Zfk:Qae Tryz.prog 217 0=some (0,6):=by kernel_rfl
theorem Zfl:Qae Tryz.prog 217 1=some (6,6):=by kernel_rfl
theorem Zfm:Qae Tryz.prog 217 2=some (12,6):=by kernel_rfl
theorem Zfn:Qae Tryz.prog 217 3=some (18,6):=by kernel_rfl
theorem Zfo:Qae Tryz.prog 217 4=some (24,6):=by kernel_rfl
theorem Zfp:Qae Tryz.prog 217 5=some (30,6):=by kernel_rfl
theorem Zfq:Qae Tryz.prog 217 6=some (36,6):=by kernel_rfl
theorem Zfr:Qae Tryz.prog 217 7=some (42,6):=by kernel_rfl
theorem Zfs:Qae Tryz.prog 217 8=some (48,6):=by kernel_rfl
theorem Zft:Qae Tryz.prog 217 9=some (54,6):=by kernel_rfl
theorem Q6m:Qae Tryz.prog 217 10=some (60,6):=by kernel_rfl
theorem Q6n:Qae Tryz.prog 217 11=some (66,6):=by kernel_rfl
theorem Q6o:Qae Tryz.prog 217 12=some (72,6):=by kernel_rfl
theorem Q6p:Qae Tryz.prog 217 13=some (78,6):=by kernel_rfl
theorem Q6q:Qae Tryz.prog 217 14=some (84,6):=by kernel_rfl
theorem Q6r:Qae Tryz.prog 217 15=some (90,6):=by kernel_rfl
theorem Q6s:Qae Tryz.prog 217 16=some (96,6):=by kernel_rfl
theorem Q6t:Qae Tryz.prog 217 17=some (102,6):=by kernel_rfl
theorem Q6u:Qae Tryz.prog 217 18=some (108,6):=by kernel_rfl
theorem Q6v:Qae Tryz.prog 217 19=some (114,6):=by kernel_rfl
theorem Znt:tyOk Tryz.prog 219=true:=by kernel_rfl
theorem Zfu:Qb7 Tryz.prog 219=true:=by kernel_rfl
theorem Quy:(Tryz.prog.info? 219).isSome=true:=by kernel_rfl
theorem Q6w:Qaz Tryz.prog 219=some (4,48):=by kernel_rfl
theorem Qzv:Tryz.prog.cellsOf 219=4:=by kernel_rfl
theorem Q6x:Qa7 Tryz.prog 219=some (PV.agg [PV.bool Bool.false,PV.str {data:={toList:=[]}},PV.bool Bool.false,PV.str {data:={toList:=[]}}]):=by kernel_rfl
theorem Qzw:buildable Tryz.prog 219=true:=by kernel_rfl
theorem Zfv:Qa0 Tryz.prog 219 0=some (0,71,2):=by kernel_rfl
theorem Zfw:Qae Tryz.prog 219 0=some (0,2):=by kernel_rfl
theorem Zfx:Qa0 Tryz.prog 219 1=some (2,71,2):=by kernel_rfl
theorem Zfy:Qae Tryz.prog 219 1=some (2,2):=by kernel_rfl
theorem Zfz:Qc2 Tryz.prog 219=some [0,2,0,2]:=by kernel_rfl
theorem Znu:tyOk Tryz.prog 223=true:=by kernel_rfl
theorem Zf0:Qb7 Tryz.prog 223=false:=by kernel_rfl
theorem Quz:(Tryz.prog.info? 223).isSome=true:=by kernel_rfl
theorem Q6y:Qaz Tryz.prog 223=some (1,24):=by kernel_rfl
theorem Qzx:Tryz.prog.cellsOf 223=1:=by kernel_rfl
theorem Q6z:Qa7 Tryz.prog 223=some PV.nilS:=by kernel_rfl
theorem Q60:Qb2 Tryz.prog 223=some 173:=by kernel_rfl
theorem Qhn:Tryz.prog.underlying 223=some (.slice 173):=by kernel_rfl
theorem Q61 (es:List PV):Qbp Tryz.prog 223 (.slc es)=some (.int .i64 es.length):=by simp only [Qbp,Qhn]
theorem Q62:Qbp Tryz.prog 223 .nilS=some (.int .i64 0):=by simp only [Qbp,Qhn]
theorem Q63 (b e o n:Nat):Qbp Tryz.prog 223 (.bs b e o n)=some (.int .i64 n):=by simp only [Qbp,Qhn]
theorem Znv:tyOk Tryz.prog 238=true:=by kernel_rfl
theorem Zf1:Qb7 Tryz.prog 238=true:=by kernel_rfl
theorem Qu0:(Tryz.prog.info? 238).isSome=true:=by kernel_rfl
theorem Q64:Qaz Tryz.prog 238=some (64,64):=by kernel_rfl
theorem Qzy:Tryz.prog.cellsOf 238=64:=by kernel_rfl
theorem Q65:Qa7 Tryz.prog 238=some (PV.agg [PV.int IntKind.u8 0,PV.int IntKind.u8 0,PV.int IntKind.u8 0,PV.int IntKind.u8 0,PV.int IntKind.u8 0,PV.int IntKind.u8 0,PV.int IntKind.u8 0,PV.int IntKind.u8 0,PV.int IntKind.u8 0,PV.int IntKind.u8 0,PV.int IntKind.u8 0,PV.int IntKind.u8 0,PV.int IntKind.u8 0,PV.int IntKind.u8 0,PV.int IntKind.u8 0,PV.int IntKind.u8 0,PV.int IntKind.u8 0,PV.int IntKind.u8 0,PV.int IntKind.u8 0,PV.int IntKind.u8 0,PV.int IntKind.u8 0,PV.int IntKind.u8 0,PV.int IntKind.u8 0,PV.int IntKind.u8 0,PV.int IntKind.u8 0,PV.int IntKind.u8 0,PV.int IntKind.u8 0,PV.int IntKind.u8 0,PV.int IntKind.u8 0,PV.int IntKind.u8 0,PV.int IntKind.u8 0,PV.int IntKind.u8 0,PV.int IntKind.u8 0,PV.int IntKind.u8 0,PV.int IntKind.u8 0,PV.int IntKind.u8 0,PV.int IntKind.u8 0,PV.int IntKind.u8 0,PV.int IntKind.u8 0,PV.int IntKind.u8 0,PV.int IntKind.u8 0,PV.int IntKind.u8 0,PV.int IntKind.u8 0,PV.int IntKind.u8 0,PV.int IntKind.u8 0,PV.int IntKind.u8 0,PV.int IntKind.u8 0,PV.int IntKind.u8 0,PV.int IntKind.u8 0,PV.int IntKind.u8 0,PV.int IntKind.u8 0,PV.int IntKind.u8 0,PV.int IntKind.u8 0,PV.int IntKind.u8 0,PV.int IntKind.u8 0,PV.int IntKind.u8 0,PV.int IntKind.u8 0,PV.int IntKind.u8 0,PV.int IntKind.u8 0,PV.int IntKind.u8 0,PV.int IntKind.u8 0,PV.int IntKind.u8 0,PV.int IntKind.u8 0,PV.int IntKind.u8 0]):=by kernel_rfl
theorem Zf2:Qgq Tryz.prog 238=some (64,5):=by kernel_rfl
theorem Qzz:buildable Tryz.prog 238=true:=by kernel_rfl
theorem Zf3:Qae Tryz.prog 238 0=some (0,1):=by kernel_rfl
theorem Zf4:Qae Tryz.prog 238 1=some (1,1):=by kernel_rfl
theorem Zf5:Qae Tryz.prog 238 2=some (2,1):=by kernel_rfl
theorem Zf6:Qae Tryz.prog 238 3=some (3,1):=by kernel_rfl
theorem Zf7:Qae Tryz.prog 238 4=some (4,1):=by kernel_rfl
theorem Zf8:Qae Tryz.prog 238 5=some (5,1):=by kernel_rfl
theorem Zf9:Qae Tryz.prog 238 6=some (6,1):=by kernel_rfl
theorem Zga:Qae Tryz.prog 238 7=some (7,1):=by kernel_rfl
theorem Zgb:Qae Tryz.prog 238 8=some (8,1):=by kernel_rfl
theorem Zgc:Qae Tryz.prog 238 9=some (9,1):=by kernel_rfl
theorem Q66:Qae Tryz.prog 238 10=some (10,1):=by kernel_rfl
theorem Q67:Qae Tryz.prog 238 11=some (11,1):=by kernel_rfl
theorem Q68:Qae Tryz.prog 238 12=some (12,1):=by kernel_rfl
theorem Q69:Qae Tryz.prog 238 13=some (13,1):=by kernel_rfl
theorem Q7a:Qae Tryz.prog 238 14=some (14,1):=by kernel_rfl
theorem Q7b:Qae Tryz.prog 238 15=some (15,1):=by kernel_rfl
theorem Q7c:Qae Tryz.prog 238 16=some (16,1):=by kernel_rfl
theorem Q7d:Qae Tryz.prog 238 17=some (17,1):=by kernel_rfl
theorem Q7e:Qae Tryz.prog 238 18=some (18,1):=by kernel_rfl
theorem Q7f:Qae Tryz.prog 238 19=some (19,1):=by kernel_rfl
theorem Znw:tyOk Tryz.prog 274=true:=by kernel_rfl
theorem Zgd:Qb7 Tryz.prog 274=false:=by kernel_rfl
theorem Qu1:(Tryz.prog.info? 274).isSome=true:=by kernel_rfl
theorem Q7g:Qaz Tryz.prog 274=some (1,16):=by kernel_rfl
theorem Qz0:Tryz.prog.cellsOf 274=1:=by kernel_rfl
theorem Q7h:Qa7 Tryz.prog 274=some PV.nilI:=by kernel_rfl
attribute [go_sem] Zth Zql Q3i Zkh Zbe Zki Zqm Zti Zqn Q3j Zkj Zbf Zkk Zkl Ztj Zqo
attribute [go_sem] Q3k Zkm Zbg Zkn Zqp Ztk Zqq Q3l Zko Zbh Zkp Zid Zkq Zqr Zkr Qyp
attribute [go_sem] Zbi Q3m Zbj Zbk Qiz Zbl Zbm Zbn Zqs Zks Qyq Zbo Q3n Zbp Q3o Zkt
attribute [go_sem] Zku Zkv Zkw Zkx Zky Zkz Zqt Zk0 Qyr Zbq Q3p Zbr Zbs Qi0 Zbt Zbu
attribute [go_sem] Zbv Zqu Zk1 Qys Zbw Q3q Zbx Zk2 Zqv Zk3 Qyt Zby Q3r Zbz Q3s Zk4
attribute [go_sem] Zk5 Zk6 Zk7 Zk8 Zk9 Zla Zlb Zlc Zld Zle Zqw Zlf Qyu Zb0 Q3t Zb1
attribute [go_sem] Zb2 Qi1 Zb3 Zb4 Zb5 Zqx Zlg Qyv Zb6 Q3u Zb7 Zb8 Qi2 Zb9 Zca Zcb
attribute [go_sem] Zqy Zlh Qyw Zcc Q3v Zcd Q3w Zli Zlj Zlk Zll Zlm Zln Zlo Zlp Zlq
attribute [go_sem] Zlr Zls Zlt Zqz Zlu Qyx Zce Q3x Zcf Q3y Zlv Zlw Zlx Zly Zlz Zl0
attribute [go_sem] Zl1 Zl2 Zl3 Zl4 Zl5 Zq0 Zl6 Qyy Zcg Q3z Zch Q30 Zl7 Zl8 Zl9 Zma
attribute [go_sem] Zmb Zq1 Zmc Qyz Zci Q31 Zcj Q32 Zmd Zme Zmf Zmg Zmh Zmi Zmj Zmk
attribute [go_sem] Zml Zq2 Zmm Qy0 Zck Q33 Zcl Zcm Qi3 Zcn Zco Zcp Zq3 Zmn Qy1 Zcq
attribute [go_sem] Q34 Zcr Q35 Zmo Zmp Zmq Zmr Zq4 Zms Qy2 Zcs Q36 Zct Q37 Zmt Zmu
attribute [go_sem] Zmv Zmw Zq5 Zmx Qy3 Zcu Q38 Zcv Zmy Q39 Zmz Zm0 Zm1 Zm2 Zm3 Zm4
attribute [go_sem] Zm5 Zm6 Zm7 Zm8 Zcw Zcx Zcy Zcz Zc0 Zc1 Zc2 Zc3 Zc4 Zc5 Zq6 Zm9
attribute [go_sem] Qy4 Zc6 Q4a Zc7 Zq7 Zna Qy5 Zc8 Q4b Zc9 Zq8 Znb Qy6 Zda Q4c Zdb
attribute [go_sem] Znc Zq9 Znd Qy7 Zdc Q4d Zdd Zne Znf Zde Quj Q4e Qy8 Q4f Zdf Qy9
attribute [go_sem] Zdg Zdh Zdi Zdj Zdk Zdl Zdm Zdn Zdo Zdp Q4g Q4h Q4i Q4j Q4k Q4l
attribute [go_sem] Q4m Q4n Q4o Q4p Zng Zdq Quk Q4q Qza Q4r Qzb Zdr Zds Zdt Zdu Znh
attribute [go_sem] Zdv Qul Q4s Qzc Q4t Q4u Qhk Q4v Q4w Q4x
attribute [go_sem] Zni Zdw Qum Q4y Qzd Q4z Q40 Qhl
attribute [go_sem] Q41 Q42 Q43 Znj Zdx Qun Q44 Qze Q45 Qzf Zdy Zdz Zd0 Zd1 Znk Zd2
attribute [go_sem] Qup Q46 Qzg Q47 Zd3 Znl Zd4 Quq Q48 Qzh Q49 Zd5 Qzi Zd6 Zd7 Zd8
attribute [go_sem] Zd9 Zea Zeb Zec Zed Zee Zef Q5a Q5b Q5c Q5d Q5e Q5f Q5g Q5h Q5i
attribute [go_sem] Q5j Znm Zeg Qur Q5k Qzj Q5l Qzk Zeh Zei Zej Zek Zel Znn Zem Qus
attribute [go_sem] Q5m Qzl Q5n Qzm Zen Zeo Zep Zeq Zno Zer Qut Q5o Qzn Q5p Zes Qzo
attribute [go_sem] Zet Zeu Zev Zew Zex Zey Zez Ze0 Ze1 Ze2 Q5q Q5r Q5s Q5t Q5u Q5v
attribute [go_sem] Q5w Q5x Q5y Q5z Znp Ze3 Quu Q50 Qzp Q51 Q52 Qhm Q53 Q54 Q55
attribute [go_sem] Znq
attribute [go_sem] Ze4 Quv Q56 Qzq Q57 Ze5 Znr Ze6 Quw Q58 Qzr Q59 Ze7 Qzs Ze8 Ze9
attribute [go_sem] Zfa Zfb Zfc Zfd Zfe Zff Zfg Zfh Q6a Q6b Q6c Q6d Q6e Q6f Q6g Q6h
attribute [go_sem] Q6i Q6j Zns Zfi Qux Q6k Qzt Q6l Zfj Qzu Zfk Zfl Zfm Zfn Zfo Zfp
attribute [go_sem] Zfq Zfr Zfs Zft Q6m Q6n Q6o Q6p Q6q Q6r Q6s Q6t Q6u Q6v Znt Zfu
attribute [go_sem] Quy Q6w Qzv Q6x Qzw Zfv Zfw Zfx Zfy Zfz Znu Zf0 Quz Q6y Qzx Q6z
attribute [go_sem] Q60 Qhn Q61 Q62 Q63
attribute [go_sem] Znv Zf1 Qu0 Q64 Qzy Q65 Zf2 Qzz Zf3 Zf4 Zf5
attribute [go_sem] Zf6 Zf7 Zf8 Zf9 Zga Zgb Zgc Q66 Q67 Q68 Q69 Q7a Q7b Q7c Q7d Q7e
attribute [go_sem] Q7f
attribute [go_sem] Znw Zgd Qu1 Q7g Qz0 Q7h
end Go.Proofs.YtciddhkfbgkejaaGreatDoor

namespace Go.Dg
def digs (B n:Nat):List Nat:=if h:n=0∨B<2 then []else n%B::digs B (n/B)
termination_by n
decreasing_by
 simp only [not_or,Nat.not_lt]at h
 exact Nat.div_lt_self (Nat.pos_of_ne_zero h.1) h.2
def val (B:Nat):List Nat→Nat
 | []=>0
 |d::l=>d+B*val B l
section
variable {B:Nat}
theorem Qay:digs B 0=[]:=by unfold digs;simp
theorem Qfc (hB:2≤B) {n:Nat} (hn:n≠0):digs B n=n%B::digs B (n/B):=by
 conv=>lhs;unfold digs
 rw [dif_neg]
 simp only [not_or,Nat.not_lt]
 exact⟨hn,hB⟩
theorem Qpg (hB:2≤B) (n:Nat):val B (digs B n)=n:=by
 induction n using Nat.strongRecOn with
 |_ n ih=>
  by_cases hn:n=0
  ·subst hn;rw [Qay];rfl
  ·rw [Qfc hB hn]
   simp only [val]
   rw [ih _ (Nat.div_lt_self (Nat.pos_of_ne_zero hn) hB)]
   exact Nat.mod_add_div n B
theorem Qph (hB:2≤B) (n k:Nat):(digs B n)[k]? =if n/B^k=0 then none else some (n/B^k%B):=by
 induction k generalizing n with
 |zero=>
  by_cases hn:n=0
  ·subst hn;simp [Qay]
  ·rw [Qfc hB hn];simp [hn]
 |succ k ih=>
  by_cases hn:n=0
  ·subst hn;simp [Qay]
  ·rw [Qfc hB hn,List.getElem?_cons_succ,ih]
   have:n/B/B^k=n/B^(k+1):=by rw [Nat.div_div_eq_div_mul,Nat.pow_succ,Nat.mul_comm]
   rw [this]
theorem Qce (hB:2≤B) (n k:Nat):k<(digs B n).length↔n/B^k≠0:=by
 have:=Qph hB n k
 constructor
 ·intro h hz
  rw [if_pos hz,List.getElem?_eq_none_iff]at this
  omega
 ·intro h
  rw [if_neg h]at this
  exact(List.getElem?_eq_some_iff.1 this).1
theorem Qal (hB:2≤B) (n k:Nat):(digs B n).length≤k↔n<B^k:=by
 have h:=Qce hB n k
 have hp:0<B^k:=Nat.pow_pos (by omega)
 rw [←Nat.not_lt,h,Decidable.not_not,Nat.div_eq_zero_iff]
 omega
theorem Qav (hB:2≤B) (n:Nat):n<B^(digs B n).length:=(Qal hB n _).1 (Nat.le_refl _)
theorem Qao (hB:2≤B) {n k:Nat} (h:k<(digs B n).length):(digs B n)[k]? =some (n/B^k%B):=by
 rw [Qph hB,if_neg ((Qce hB n k).1 h)]
theorem Ql5 (hB:2≤B) {n d:Nat} (h:d∈digs B n):d<B:=by
 obtain⟨k,hk⟩:=List.mem_iff_getElem?.1 h
 rw [Qph hB]at hk
 split at hk
 ·cases hk
 ·cases hk;exact Nat.mod_lt _ (by omega)
theorem Qba (hB:2≤B) {n k:Nat} (h:(digs B n).length≤k):n/B^k=0:=by
 have:=(Qal hB n k).1 h
 exact Nat.div_eq_of_lt this
theorem Qbj (hB:2≤B) {n:Nat}:digs B n=[]↔n=0:=by
 constructor
 ·intro h;have:=Qpg hB n;rw [h]at this;exact this.symm
 ·rintro rfl;exact Qay
def lows (B n i:Nat):List Nat:=(List.range i).map fun k=>n/B^k%B
theorem Qai (n i:Nat):(lows B n i).length=i:=by simp [lows]
theorem Qdf (n i:Nat):lows B n (i+1)=lows B n i++[n/B^i%B]:=by simp [lows,List.range_succ]
theorem Qbu (n i k:Nat) (h:k<i):(lows B n i)[k]? =some (n/B^k%B):=by simp [lows,h]
theorem Qrk (n i:Nat):lows B n (i+1)=n%B::lows B (n/B) i:=by
 simp only [lows,List.range_succ_eq_map,List.map_cons,Nat.pow_zero,Nat.div_one,List.map_map]
 congr 1
 apply List.map_congr_left
 intro k _
 simp only [Function.comp,Nat.succ_eq_add_one]
 rw [Nat.div_div_eq_div_mul,Nat.pow_succ,Nat.mul_comm]
theorem Q90 (hB:0<B) (n i:Nat):val B (lows B n i)=n%B^i:=by
 induction i generalizing n with
 |zero=>simp [lows,val,Nat.mod_one]
 |succ i ih=>
  rw [Qrk]
  simp only [val]
  rw [ih,Nat.pow_succ,Nat.mul_comm (B^i) B,Nat.mod_mul]
theorem Qgv (hB:2≤B) (n:Nat):lows B n (digs B n).length=digs B n:=by
 apply List.ext_getElem?
 intro k
 by_cases hk:k<(digs B n).length
 ·rw [Qbu _ _ _ hk,Qao hB hk]
 ·rw [List.getElem?_eq_none (by rw [Qai];omega),List.getElem?_eq_none (by omega)]
def Qdj (l:List Nat):List Nat:=(l.reverse.dropWhile (· ==0)).reverse
theorem Qcv (l:List Nat):Qdj (l++[0])=Qdj l:=by simp [Qdj]
theorem Qfd (l:List Nat) {d:Nat} (h:d≠0):Qdj (l++[d])=l++[d]:=by simp [Qdj,h]
theorem Q1q:Qdj []=[]:=rfl
theorem Qoa (l m:List Nat):val B (l++m)=val B l+B^l.length*val B m:=by
 induction l with
 |nil=>simp [val]
 |cons d l ih=>
  simp only [List.cons_append,val,ih,List.length_cons,Nat.pow_succ]
  rw [Nat.mul_add,Nat.add_assoc,←Nat.mul_assoc,Nat.mul_comm B (B^l.length)]
theorem Zpl (hB:0<B) {l:List Nat} (h: ∀d∈l,d<B):val B l<B^l.length:=by
 induction l with
 |nil=>simp [val]
 |cons d l ih=>
  have h1:=ih fun x hx=>h x (by simp [hx])
  have h2:=h d (by simp)
  simp only [val,List.length_cons,Nat.pow_succ]
  have:B*val B l+B≤B*B^l.length:=by rw [←Nat.mul_succ];exact Nat.mul_le_mul_left _ h1
  rw [Nat.mul_comm (B^l.length)]
  omega
theorem Q91 (hB:2≤B) {l:List Nat} (h: ∀d∈l,d<B):lows B (val B l) l.length=l:=by
 induction l with
 |nil=>rfl
 |cons d l ih=>
  have h2:=h d (by simp)
  rw [List.length_cons,Qrk]
  simp only [val]
  rw [Nat.add_mul_mod_self_left,Nat.mod_eq_of_lt h2,Nat.add_mul_div_left _ _ (by omega),Nat.div_eq_of_lt h2,Nat.zero_add,ih fun x hx=>h x (by simp [hx])]
theorem Qpi (hB:2≤B) (l:List Nat) (h: ∀d∈l,d<B):Qdj l=digs B (val B l):=by
 have key: ∀n,∀l:List Nat,l.length=n→(∀d∈l,d<B)→Qdj l=digs B (val B l):=by
  intro n
  induction n with
  |zero=>intro l hl _;rw [List.length_eq_zero_iff.1 hl];simp [Q1q,val,Qay]
  |succ n ih=>
   intro l hl h
   have hne:l≠ []:=by rintro rfl;simp at hl
   have hcut:=List.dropLast_concat_getLast hne
   generalize l.dropLast=m at hcut
   generalize l.getLast hne=d at hcut
   subst hcut
   have hm:m.length=n:=by simpa using hl
   have hmd: ∀x∈m,x<B:=fun x hx=>h x (by simp [hx])
   by_cases hd:d=0
   ·subst hd
    rw [Qcv,ih m hm hmd,Qoa]
    simp [val]
   ·rw [Qfd m hd]
    have hlen:(digs B (val B (m++[d]))).length=(m++[d]).length:=by
     apply Nat.le_antisymm
     ·exact(Qal hB _ _).2 (Zpl (by omega) h)
     ·have:(m++[d]).length=m.length+1:=by simp
      rw [this]
      apply (Qce hB _ _).2
      rw [Qoa]
      simp only [val,Nat.mul_zero,Nat.add_zero]
      rw [Nat.add_mul_div_left _ _ (Nat.pow_pos (by omega))]
      exact fun e=>hd (Nat.eq_zero_of_add_eq_zero_left e)
    have:=Qgv hB (val B (m++[d]))
    rw [hlen,Q91 hB h]at this
    exact this
 exact key l.length l rfl h
theorem Qbm (hB:2≤B) (n i:Nat):Qdj (lows B n i)=digs B (n%B^i):=by
 rw [Qpi hB,Q90 (by omega)]
 intro d hd
 simp only [lows,List.mem_map]at hd
 obtain⟨k,_,rfl⟩:=hd
 exact Nat.mod_lt _ (by omega)
end
end Go.Dg

namespace Go.Proofs.YtciddhkfbgkejaaGreatDoor
open Go.Vl Go.RowKit Go.Dg
def di (l:List Nat):PV:= .slc (l.map fun d:Nat=>PV.int .i64 (d:Int))
theorem Qeo (l:List Nat) (k:Nat):(l.map fun d:Nat=>PV.int .i64 (d:Int))[k]? =l[k]?.map fun d:Nat=>PV.int .i64 (d:Int):=List.getElem?_map
theorem Zpp (l:List Nat):((l.map fun d:Nat=>PV.int .i64 (d:Int)).all fun x=>x.cells.length==1)=true:=by rw [List.all_map,List.all_eq_true];intro d _;rfl
theorem wrapn {n:Nat} (h:n<9223372036854775808):IntKind.i64.wrap (n:Int)=n:=Qah (by omega) (by omega)
theorem Qiu {n:Nat} (h:n<9223372036854775808):IntKind.i64.wrap (((n+1:Nat):Int)-1)=(n:Int):=by
 rw [Qah (by omega) (by omega)];omega
theorem Qdz:maxLen<9223372036854775808:=by simp [maxLen]
theorem Qj0 (l:List Nat) (hl:l.length≤maxLen):Qad Tryz.prog 136 [di l] (di (Qdj l)):=by
 have hm:=Qdz
 refine Qac (tb:=[]) 21 [.tmp 2] [0,2,14] mixed Tryz.func136 rfl (by kernel_rfl) (by kernel_rfl) (by kernel_rfl) (by kernel_rfl) ?_
 simp -implicitDefEqProofs only [go_sem,Nat.reduceMul,Nat.reduceEqDiff,Nat.reduceLT,Nat.reduceLeDiff,reduceCtorEq,di]
 refine Qar mixed (fun k:{k:Nat // k≤l.length∧Qdj (l.take k)=Qdj l}=>St.of [(0,di (l.take k.1)),(2,.nilS)] []) (fun k=>k.1) ⟨l.length,Nat.le_refl _,by rw [List.take_length]⟩ ?_ ?_
 ·exact Qa9 (by simp [Qaf,lkp,ren1,ren0,di])
 ·rintro⟨k,hk,ht⟩
  have hlen:(l.take k).length=k:=by simp;omega
  cases k with
  |zero=>
   have h1:((0:Int)<((0:Nat):Int))=False:=by simp
   simp -implicitDefEqProofs only [go_sem,Nat.reduceAdd,Nat.reduceMul,Nat.reduceEqDiff,Nat.reduceLT,Nat.reduceLeDiff,reduceCtorEq,di,List.length_map,hlen,h1]
   rw [←ht];rfl
  |succ k=>
   have h1:((0:Int)<((k+1:Nat):Int))=True:=by simp
   have h2:(0≤(k:Int))=True:=by simp
   have hw:=Qiu (n:=k) (by omega)
   have hlt:k<l.length:=by omega
   have hget:(l.take (k+1))[k]? =some l[k]:=by simp [hlt]
   have hcut:l.take (k+1)=l.take k++[l[k]]:=by rw [List.take_add_one];simp [hlt]
   cases hd:((l[k]:Int)==0)with
   |true=>
    have hd0:l[k]=0:=by simpa using hd
    have h3:((k:Int)≤((k+1:Nat):Int))=True:=by simp;omega
    simp -implicitDefEqProofs only [go_sem,Nat.reduceAdd,Nat.reduceMul,Nat.reduceEqDiff,Nat.reduceLT,Nat.reduceLeDiff,reduceCtorEq,di,List.length_map,hlen,h1,h2,h3,hw,Int.toNat_natCast,Qeo,hget,hd,Zpp]
    refine⟨⟨k,by omega,?_⟩,by simp,?_⟩
    ·rw [←ht,hcut,hd0,Qcv]
    ·refine Qa9 (by simp [Qaf,lkp,ren1,ren0,di];rw [←List.map_take];simp [List.take_take])
   |false=>
    have hd0:l[k]≠0:=by simpa using hd
    simp -implicitDefEqProofs only [go_sem,Nat.reduceAdd,Nat.reduceMul,Nat.reduceEqDiff,Nat.reduceLT,Nat.reduceLeDiff,reduceCtorEq,di,List.length_map,hlen,h1,h2,hw,Int.toNat_natCast,Qeo,hget,hd]
    rw [←ht,hcut,Qfd _ hd0]
end Go.Proofs.YtciddhkfbgkejaaGreatDoor

namespace Go.Dg
section
variable {B:Nat}
def carry (B a b i:Nat):Nat:=(a%B^i+b%B^i)/B^i
theorem Qju (a b:Nat):carry B a b 0=0:=by simp [carry,Nat.mod_one]
theorem Qpo (hB:0<B) (a b i:Nat):carry B a b i≤1:=by
 have hp:0<B^i:=Nat.pow_pos hB
 have h1:=Nat.mod_lt a hp
 have h2:=Nat.mod_lt b hp
 unfold carry
 rw [Nat.div_le_iff_le_mul hp]
 omega
theorem Qpp (hB:0<B) (a b i:Nat):(a/B^i%B+b/B^i%B+carry B a b i)%B=(a+b)/B^i%B∧(a/B^i%B+b/B^i%B+carry B a b i)/B=carry B a b (i+1):=by
 have hp:0<B^i:=Nat.pow_pos hB
 unfold carry
 generalize hP:B^i=P at*
 have e1:(a+b)/P=a/P+b/P+(a%P+b%P)/P:=by
  conv=>lhs;rw [←Nat.div_add_mod a P,←Nat.div_add_mod b P]
  have:P*(a/P)+a%P+(P*(b/P)+b%P)=(a%P+b%P)+P*(a/P+b/P):=by rw [Nat.mul_add];omega
  rw [this,Nat.add_mul_div_left _ _ hp]
  omega
 constructor
 ·rw [e1]
  conv=>rhs;rw [Nat.add_mod,Nat.add_mod (a/P)]
  conv=>lhs;rw [Nat.add_mod,Nat.add_mod (a/P%B)]
  simp
 ·have hP1:B^(i+1)=P*B:=by rw [Nat.pow_succ,hP]
  rw [hP1,Nat.mod_mul,Nat.mod_mul]
  have:a%P+P*(a/P%B)+(b%P+P*(b/P%B))=(a%P+b%P)+P*(a/P%B+b/P%B):=by rw [Nat.mul_add];omega
  rw [this,←Nat.div_div_eq_div_mul,Nat.add_mul_div_left _ _ hp]
  congr 1
  omega
theorem Q1u (hB:0<B) (a b i:Nat):(carry B a b i+a/B^i%B+b/B^i%B)%B=(a+b)/B^i%B∧(carry B a b i+a/B^i%B+b/B^i%B)/B=carry B a b (i+1):=by
 have h:=Qpp hB a b i
 have e:carry B a b i+a/B^i%B+b/B^i%B=a/B^i%B+b/B^i%B+carry B a b i:=by omega
 rw [e];exact h
theorem Qma (hB:2≤B) {n i:Nat} (h1:n<B^i) (h2: ∀j,j<i→n/B^j≠0):lows B n i=digs B n:=by
 have hl:(digs B n).length=i:=by
  apply Nat.le_antisymm ((Qal hB n i).2 h1)
  rcases Nat.eq_zero_or_pos i with rfl|hi
  ·exact Nat.zero_le _
  ·have:=(Qce hB n (i-1)).2 (h2 (i-1) (by omega))
   omega
 rw [←hl,Qgv hB]
theorem Q93 (hB:2≤B) {a b i:Nat} (ha:(digs B a).length≤i) (hb:(digs B b).length≤i) (hc:carry B a b i=0):a+b<B^i:=by
 have h1:=(Qal hB a i).1 ha
 have h2:=(Qal hB b i).1 hb
 unfold carry at hc
 rw [Nat.mod_eq_of_lt h1,Nat.mod_eq_of_lt h2,Nat.div_eq_zero_iff]at hc
 have:0<B^i:=Nat.pow_pos (by omega)
 omega
theorem Q94 (hB:2≤B) {a b i:Nat} (h:i<(digs B a).length∨i<(digs B b).length∨0<carry B a b i):(a+b)/B^i≠0:=by
 have hp:0<B^i:=Nat.pow_pos (by omega)
 have hle:B^i≤a+b:=by
  rcases h with h|h|h
  ·have:=(Qce hB a i).1 h
   have:=Nat.div_eq_zero_iff (a:=a) (b:=B^i)
   omega
  ·have:=(Qce hB b i).1 h
   have:=Nat.div_eq_zero_iff (a:=b) (b:=B^i)
   omega
  ·unfold carry at h
   have h1:=Nat.mod_le a (B^i)
   have h2:=Nat.mod_le b (B^i)
   have h3:=Nat.div_eq_zero_iff (a:=a%B^i+b%B^i) (b:=B^i)
   omega
 have:=Nat.div_eq_zero_iff (a:=a+b) (b:=B^i)
 omega
end
end Go.Dg
