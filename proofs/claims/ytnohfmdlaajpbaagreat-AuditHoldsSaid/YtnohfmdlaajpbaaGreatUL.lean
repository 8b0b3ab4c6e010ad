/-
  UJ, UK, UL (merged for the claim).
-/
import Derived.Test.YtnohfmdlaajpbaaGreatUB4
import Derived.Lib.AppendZerosOnto
set_option linter.unusedSimpArgs false
set_option linter.unusedVariables false
namespace Go.Vl
open Go.RowKit
theorem Rel'.append_nil {C:Ctx} {st:St} {a:Act} {w:World} {ρ:Rho} {im:Im} (h:Rel' C st a w ρ im) {id:Nat} (hidL:id<LENT) {T ty E:TypeId} {i:TypeInfo} {z:Value} {xs:List PV} {x:Value}
  (ht:C.P.underlying T=some (.slice E)) (hi:C.P.info? E=some i) (hz:i.zero=some z) (hs:0<i.size) (hzs:z.cells.size=i.size)
  (hx:Rep w im (.slc xs) x) (hxz: ∀e∈xs,e.cells.length=i.size) (hokx:(xs.flatMap PV.cells).all PV.okCell=true)
  (hid:st.box id=none) (hby:xs.length*i.bytes≤140737488355328) (h63:xs.length≤maxLen):
  ∃v' w' ρ' im',(Builtin.append_ #[T,T] ty #[.slice none 0 0,x]).run C.P w= .ok v' w'∧
   Rel' C (st.setBox id {els:=xs,esz:=i.size,ety:=E,fro:=0,live:=true,arr:=true}) a w' ρ' im'∧
   LR w' im' ρ' (.bs id i.size 0 xs.length) v':=by
 have hsmall:((xs.length:Nat):Int)≤9223372036854775807:=by simp only [maxLen]at h63;omega
 have same:xs=[]→ ∃ρ' im',Rel' C (st.setBox id {els:=xs,esz:=i.size,ety:=E,fro:=0,live:=true,arr:=true}) a w ρ' im'∧LR w im' ρ' (.bs id i.size 0 xs.length) (.slice none 0 0):=by
  rintro rfl;obtain⟨h3,h4⟩:=h.addBox ⟨.refl _ _ _,Keeps.refl _ _,fun _ x=> .inl x,fun _ _ x=>x,fun _ _ x=> .inl x⟩ h hidL hid {els:=[],esz:=i.size,ety:=E,fro:=0,live:=true,arr:=true} none (by intro g e;cases e) ⟨rfl,rfl,rfl,hs⟩ (by intro b' g B' e;cases e);exact⟨_,_,h3,.bsNil _ _ none (Qao _ _ _)⟩
 rcases hx.slc_cells with⟨rfl,cx,rfl⟩|⟨Ax,capx,vsx,szx,rfl,hmx,hzx,hcx,hrx,hcapx⟩
 ·obtain⟨ρ',im',e1,e2⟩:=same rfl;exact⟨_,w,ρ',im',Qd4 w T T ty E i ht hi E ht none 0 0 (Nat.le_refl _) cx,e1,e2⟩
 ·have hvl:vsx.length=xs.length*i.size:=by rw [←hrx.length,Qau hxz]
  by_cases hm0:xs.length=0
  ·obtain⟨ρ',im',e1,e2⟩:=same (List.length_eq_zero_iff.1 hm0);refine⟨_,w,ρ',im',?_,e1,e2⟩;rw [hm0];exact Qgg w T ty E i ht hi _ _ _
  ·have hrun:=run_append_nil w T ty E i z ht hi hz Ax xs.length capx vsx hvl hcx (by omega) (by omega) (by omega);have hcapg:=grownCap_ge w xs.length 0 E;have hcapm:=grownCap_le_maxLen w xs.length 0 E hmx;have hzc:(Builtin.zeroCells z.cells (grownCap w xs.length 0 E-xs.length)).size=(grownCap w xs.length 0 E-xs.length)*i.size:=by rw [size_zeroCells,hzs]
   generalize grownCap w xs.length 0 E=cap at*;generalize Builtin.zeroCells z.cells (cap-xs.length)=zc at*;have harr:vsx.toArray++zc=(vsx++zc.toList).toArray:=by apply Array.ext';simp
   rw [harr]at hrun;have hmul:cap*i.size=xs.length*i.size+(cap-xs.length)*i.size:=by rw [←Nat.add_mul];congr 1;omega
   obtain⟨ρ',im',e1,e2⟩:=h.append_new (els:=xs) (E:=E) (us:=vsx) (rest:=zc.toList) hidL hid hs hxz hrx hokx 0 cap (Nat.zero_le _) hcapg (by simp;omega) hcapm;exact⟨_,_,ρ',im',hrun,e1,e2⟩
section
variable {C:Ctx} {st:St} {a:Act} {w:World} {ρ:Rho} {im:Im} {o:Oper}
theorem Zcr {st:St} {b:Nat} {B:Box} (hB:st.box b=some B):(Eff.kill b).on st=st.setBox b {B with els:=[],fro:=0,live:=false}:=by simp [Eff.on,hB]
theorem Qta {id:Nat} (hidL:id<LENT) {T T2 ty:TypeId} {s x r:PV} {u ux:Value} {es:List Eff} {l:Acc} {sem:Sem Next} (h:Rel' C st a w ρ im) (hs:LR w im ρ s u) (hx:LR w im ρ x ux)
  (hrun: ∀v w',(Builtin.append_ #[T,T2] ty #[u,ux]).run C.P w= .ok v w'→sem.run C.P w= .ok (.value v) w') (he:Qgn C.P id T T2 s x st.box=some (.done r es,l)):Does C (Qan es st) a w sem r:=by
 unfold Qgn at he;obtain⟨_,_,_,e1,e2,_⟩:=M.bind_some he;obtain⟨c1,_⟩:=M.ok_some e1;obtain⟨E,_,_,e3,e4,_⟩:=M.bind_some e2;obtain⟨c2,_⟩:=M.ofOpt_some e3;obtain⟨q,_,_,e5,e6,_⟩:=M.bind_some e4;obtain⟨c3,_⟩:=M.ofOpt_some e5;obtain⟨z,_,_,e7,e8,_⟩:=M.bind_some e6;obtain⟨c4,_⟩:=M.ofOpt_some e7;obtain⟨_,_,_,e9,e10,_⟩:=M.bind_some e8;obtain⟨c5,_⟩:=M.ok_some e9;obtain⟨n,_,_,e11,e12,_⟩:=M.bind_some e10;obtain⟨rfl,_⟩:=M.hard_some e11;obtain⟨_,_,_,e13,e14,_⟩:=M.bind_some e12;obtain⟨c6,_⟩:=M.ok_some e13;obtain⟨⟨y,fs⟩,_,_,e15,e16,_⟩:=M.bind_some e14;simp only [beq_iff_eq,Bool.and_eq_true,decide_eq_true_eq,Option.isNone_iff_eq_none]at c1 c5 c6;subst c1;obtain⟨i,hi,hi1,hi2⟩:=Qbh c3;obtain⟨i',zv,hz1,hz2,hz3⟩:=Qcr c4;rw [hi]at hz1;cases hz1;have hT:=Qbq c2;have hzs:zv.cells.size=i.size:=by
  have hr:=Qco (w:=w) (im:=im) hz3;rw [hi1,←c5.1];have key: ∀zv z,Rep w im z zv→zv.cells.size=z.cells.length:=by
   intro zv z hr;cases hr with
   |agg cs vs h=>simp [Value.cells,PV.cells,h.length]
   |_=>rfl
  exact key _ _ hr
 obtain⟨im1,g1,r1⟩:=Qhh h (fun _=>rfl) hx e15;cases y with
 |slc xs=>
  obtain⟨_,_,_,e17,e18,_⟩:=M.bind_some e16;obtain⟨c7,_⟩:=M.ok_some e17;simp only [List.all_eq_true,Bool.and_eq_true,beq_iff_eq]at c7;have hokx:=Qdx fun e he=>(c7 e he).2;cases s with
  |nilS=>
   obtain⟨_,_,_,e19,e20,_⟩:=M.bind_some e18;obtain⟨c8,_⟩:=M.ok_some e19;obtain⟨e21,_⟩:=M.pure_some e20;cases e21;simp only [Bool.and_eq_true,decide_eq_true_eq]at c8;have hu:=hs.nilS_inv;subst hu;obtain⟨v',w',ρ',im',k1,k2,k3⟩:=g1.rel.append_nil hidL (ty:=ty) hT hi hz2 (by omega) hzs r1 (fun e he=>by rw [hi1];exact(c7 e he).1) hokx (g1.no id c6) (by rw [hi2];exact c8.1) c8.2;rw [hi1]at k2 k3;refine⟨v',w',ρ',im',.inl (hrun _ _ k1),?_,k3⟩;rw [Qav];simpa [Qay,Qbu,Eff.on]using k2
  |bs b esz off len=>
   obtain⟨Bo,_,_,e19,e20,_⟩:=M.bind_some e18;obtain⟨rfl,_⟩:=M.hard_some e19;obtain⟨B,_,_,e21,e22,_⟩:=M.bind_some e20;obtain⟨hB,_⟩:=M.ofOpt_some e21;obtain⟨_,_,_,e23,e24,_⟩:=M.bind_some e22;obtain⟨c8,_⟩:=M.ok_some e23;obtain⟨e25,_⟩:=M.pure_some e24;cases e25;simp only [Bool.and_eq_true,decide_eq_true_eq,beq_iff_eq,List.all_eq_true,bne_iff_ne]at c8;obtain⟨⟨⟨⟨⟨⟨⟨⟨⟨⟨d0,d1⟩,d2⟩,d3⟩,d4⟩,d5⟩,d6⟩,d7⟩,d8⟩,d9⟩,d10⟩:=c8;subst d3;subst d4;subst d7;have hB':(Qan fs st).box b=some B:=by rw [Qdy _ _ d0];exact hB
   have hs':LR w im1 ρ (.bs b B.esz 0 B.els.length) u:=by
    rw [d6,←d5];exact hs.mono (Keeps.refl _ _) g1.im fun _ _ x=>x
   obtain⟨v',w',ρ',im',k1,k2,k3⟩:=g1.rel.append (ty:=ty) hT hi hz2 (by omega) hzs hB' d1 d2 hs' r1 (fun e he=>by rw [d6];exact(c7 e he).1) d8 hokx hidL (g1.no id c6) (by rw [hi2];exact d9) d10;refine⟨v',w',ρ',im',.inl (hrun _ _ k1),?_,?_⟩
   ·rw [Qav,Qay,Qay,Qbu,Zcr hB'];simpa [Eff.on,d6]using k2
   ·rw [d6]at k3;exact k3
  |_=>cases e18
 |_=>cases e16
theorem Qtb {id:Nat} (hidL:id<LENT) {T T2 ty:TypeId} {k:IntKind} {n:Int} {r:PV} {u ux:Value} {es:List Eff} {l:Acc} {sem:Sem Next} (h:Rel' C st a w ρ im) (hs:LR w im ρ .nilS u) (hx:LR w im ρ (.int k n) ux)
  (hrun: ∀v w',(Builtin.append_ #[T,T2] ty #[u,ux]).run C.P w= .ok v w'→sem.run C.P w= .ok (.value v) w') (he:Qgm C.P id T T2 n st.box=some (.done r es,l)):Does C (Qan es st) a w sem r:=by
 unfold Qgm at he;obtain⟨E,_,_,e1,e2,_⟩:=M.bind_some he;obtain⟨c1,_⟩:=M.ofOpt_some e1;obtain⟨q,_,_,e3,e4,_⟩:=M.bind_some e2;obtain⟨c2,_⟩:=M.ofOpt_some e3;obtain⟨z,_,_,e5,e6,_⟩:=M.bind_some e4;obtain⟨c3,_⟩:=M.ofOpt_some e5;obtain⟨ut,_,_,e7,e8,_⟩:=M.bind_some e6;obtain⟨c4,_⟩:=M.ofOpt_some e7;obtain⟨b,_,_,e9,e10,_⟩:=M.bind_some e8;obtain⟨rfl,_⟩:=M.hard_some e9;obtain⟨_,_,_,e11,e12,_⟩:=M.bind_some e10;obtain⟨c5,_⟩:=M.ok_some e11;obtain⟨e13,_⟩:=M.pure_some e12;cases e13;simp only [Bool.and_eq_true,decide_eq_true_eq,Option.isNone_iff_eq_none,beq_iff_eq]at c5;obtain⟨⟨⟨⟨⟨⟨⟨d1,y1⟩,y2⟩,d2⟩,d3⟩,d4⟩,d5⟩,d6⟩:=c5;obtain⟨kn,hkn⟩: ∃kn,ut= .int kn:=by cases ut<;>first|exact⟨_,rfl⟩|cases d2
 subst hkn;obtain⟨i,hi,hi1,hi2⟩:=Qbh c2;obtain⟨i',zv,hz1,hz2,hz3⟩:=Qcr c3;rw [hi]at hz1;cases hz1;have hrep:=(Qco (w:=w) (im:=im) hz3).cells y2;have hzrl:=hrep.length;rw [y1]at hzrl;rw [hs.nilS_inv,hx.int_inv]at hrun;obtain⟨m,rfl⟩: ∃m:Nat,n=(m:Int):=⟨n.toNat,by omega⟩;simp only [Int.toNat_natCast]at d5 ⊢;have hfit:=growslice_fits (need:=0+m) (old:=0) (bytes:=i.bytes) (by omega) (by rw [Nat.zero_add,hi2];exact d5);have hr:=Lib.run_append_grow_zeros w T T2 ty E i zv k kn (Qbq c1) c4 hi hz2 none 0 0 [] (run_firstCells_none w.drew i.size 0 0 0) m (by omega) (by omega) (by omega) (by omega) (by rw [hi2];omega) hfit;have hcapg:=grownCap_ge w (0+m) 0 E;have hcapm:=grownCap_le_maxLen w (0+m) 0 E (by unfold maxLen;omega);generalize hcapd:grownCap w (0+m) 0 E=cap at*;have hzl:((Builtin.zeroCells zv.cells m).toList++(Builtin.zeroCells zv.cells (cap-(0+m))).toList).length=(m+(cap-(0+m)))*zv.cells.size:=by
  simp [size_zeroCells,Nat.add_mul]
 have hzs:zv.cells.size=i.size:=by rw [hi1];simpa using hzrl.symm
 have harr:(([]:List Value).toArray++Builtin.zeroCells zv.cells m++Builtin.zeroCells zv.cells (cap-(0+m)))=(([]:List Value)++((Builtin.zeroCells zv.cells m).toList++(Builtin.zeroCells zv.cells (cap-(0+m))).toList)).toArray:=by apply Array.ext';simp
 rw [harr]at hr;obtain⟨ρ',im',e1',e2'⟩:=h.append_new (els:=[]) (E:=E) (esz:=q.1) (us:=[]) (rest:=(Builtin.zeroCells zv.cells m).toList++(Builtin.zeroCells zv.cells (cap-(0+m))).toList) hidL d1 (by omega) (by simp) .nil (by simp) 0 cap (Nat.zero_le _) (Nat.zero_le _) (by
  rw [List.length_nil,Nat.zero_add,hzl,hzs,hi1,show m+(cap-(0+m))=cap by omega];exact Nat.le_refl _) hcapm
 refine⟨_,_,ρ',im',.inl (hrun _ _ hr),e1',?_⟩;rcases e2'.bs_inv with⟨q1,⟨x,q2⟩,q3,q4⟩|⟨g,cap',cur,e',hg,q1,q2,q3,q4,q5⟩
 ·injection q2 with _ _ z3;omega
 ·simp only [Value.slice.injEq,Option.some.injEq,Addr.mk.injEq]at q1;obtain⟨⟨rfl,z1,_⟩,_,rfl⟩:=q1;have e0:(0+m:Nat)=m:=Nat.zero_add m;have hl:LR _ im' ρ' (.bs id q.1 0 m) (.slice (some ⟨w.heap.size,0,none⟩) m cap):= .bs _ _ _ _ _ _ _ cur e' hg q2 (by omega) (by rw [←z1]at q3;exact q3) (by omega) q5;rw [←e0]at hl ⊢;simpa only [e0]using hl
theorem Qwm {id:Nat} (hidL:id<LENT) {T T2 ty:TypeId} {s x r:PV} {u ux:Value} {es:List Eff} {l:Acc} {sem:Sem Next} (h:Rel' C st a w ρ im) (hs:LR w im ρ s u) (hx:LR w im ρ x ux)
  (hrun: ∀v w',(Builtin.append_ #[T,T2] ty #[u,ux]).run C.P w= .ok v w'→sem.run C.P w= .ok (.value v) w') (he:Qdr C.P id T T2 s x st.box=some (.done r es,l)):Does C (Qan es st) a w sem r:=by
 unfold Qdr at he;split at he
 ·exact Qtb hidL h hs hx hrun he
 ·exact Qta hidL h hs hx hrun he
theorem Qtc {id:Nat} (hidL:id<LENT) {T T2 ty:TypeId} {s x r:PV} {u ux:Value} {es:List Eff} {l:Acc} {sem:Sem Next} (h:Rel' C st a w ρ im) (hs:LR w im ρ s u) (hx:LR w im ρ x ux)
  (hrun: ∀v w',(Builtin.append_ #[T,T2] ty #[u,ux]).run C.P w= .ok v w'→sem.run C.P w= .ok (.value v) w') (he:appendD C.P id T T2 s x st.box=some (.done r es,l)):Does C (Qan es st) a w sem r:=by
 unfold appendD at he;obtain⟨_,_,_,e1,e2,_⟩:=M.bind_some he;obtain⟨c1,_⟩:=M.ok_some e1;obtain⟨E,_,_,e3,e4,_⟩:=M.bind_some e2;obtain⟨c2,_⟩:=M.ofOpt_some e3;obtain⟨q,_,_,e5,e6,_⟩:=M.bind_some e4;obtain⟨c3,_⟩:=M.ofOpt_some e5;obtain⟨z,_,_,e7,e8,_⟩:=M.bind_some e6;obtain⟨c4,_⟩:=M.ofOpt_some e7;obtain⟨_,_,_,e9,e10,_⟩:=M.bind_some e8;obtain⟨c5,_⟩:=M.ok_some e9;obtain⟨n,_,_,e11,e12,_⟩:=M.bind_some e10;obtain⟨rfl,_⟩:=M.hard_some e11;obtain⟨_,_,_,e13,e14,_⟩:=M.bind_some e12;obtain⟨c6,_⟩:=M.ok_some e13;simp only [beq_iff_eq,Bool.and_eq_true,decide_eq_true_eq,Option.isNone_iff_eq_none]at c1 c5 c6;subst c1;obtain⟨i,hi,hi1,hi2⟩:=Qbh c3;obtain⟨i',zv,hz1,hz2,hz3⟩:=Qcr c4;rw [hi]at hz1;cases hz1;have hT:=Qbq c2;have hzs:zv.cells.size=i.size:=by
  have hr:=Qco (w:=w) (im:=im) hz3;rw [hi1,←c5.1];have key: ∀zv z,Rep w im z zv→zv.cells.size=z.cells.length:=by
   intro zv z hr;cases hr with
   |agg cs vs h=>simp [Value.cells,PV.cells,h.length]
   |_=>rfl
  exact key _ _ hr
 cases x with
 |bs b2 esz2 off2 len2=>
  obtain⟨S2,_,_,e15,e16,_⟩:=M.bind_some e14;obtain⟨B2,hb2,rfl,_⟩:=M.soft_some e15;obtain⟨_,_,_,e17,e18,_⟩:=M.bind_some e16;obtain⟨c7,_⟩:=M.ok_some e17;simp only [Box.soft,Bool.and_eq_true,beq_iff_eq,decide_eq_true_eq]at c7 e18;obtain⟨⟨⟨⟨p1,p2⟩,p3⟩,p4⟩,p5⟩:=c7;have p3:off2+len2≤B2.els.length:=of_decide_eq_true p3;have p5:((((B2.els.drop off2).take len2)).flatMap PV.cells).all PV.okCell=true:=p5;rcases hx.bs_inv with⟨_,_,_,e0⟩|⟨g2,cap2,cur2,ty2,hg2,rfl,ho2,hcp2,hl2,hm2⟩
  ·omega
  ·obtain⟨k1,k2,k3,k4,⟨hmn,cur',us2,rest2,k5,k6,k7, -⟩|hm⟩:=h.box b2 _ B2 hg2 hb2
   case inr=>exact(hm.not_cells ho2).elim
   rw [ho2]at k5;cases k5;subst p1;have hul:us2.length=B2.els.length*B2.esz:=by rw [←k7.length,Qau k4]
   have hmul:off2*B2.esz+len2*B2.esz≤B2.els.length*B2.esz:=by rw [←Nat.add_mul];exact Nat.mul_le_mul_right _ p3
   have hr:=(k7.drop (off2*B2.esz)).take (len2*B2.esz);rw [Qe6 off2 k4,Qen len2 (fun e he=>k4 e (List.mem_of_mem_drop he))]at hr;have hxz: ∀e∈(B2.els.drop off2).take len2,e.cells.length=B2.esz:=fun e he=>k4 e (List.mem_of_mem_drop (List.mem_of_mem_take he));have hxl:((B2.els.drop off2).take len2).length=len2:=by rw [List.length_take,List.length_drop];omega
   have hcx: ∀j v,((us2.drop (off2*B2.esz)).take (len2*B2.esz))[j]? =some v→w.cell? ((⟨g2,off2*B2.esz,none⟩:Addr).add j)=some v:=by
    intro j v hv;have ha:(⟨g2,off2*B2.esz,none⟩:Addr).add j=⟨g2,off2*B2.esz+j,none⟩:=by unfold Addr.add;split<;>simp_all
    rw [List.getElem?_take]at hv;split at hv
    ·rw [List.getElem?_drop]at hv;have hj:off2*B2.esz+j<us2.length:=(List.getElem?_eq_some_iff.1 hv).1;rw [ha,cell_of_row _ _ _ _ _ _ ho2,←Array.getElem?_toList,k6,List.getElem?_append_left hj,hv]
    ·cases hv
   generalize (us2.drop (off2*B2.esz)).take (len2*B2.esz)=vsx at*;generalize hXS:(B2.els.drop off2).take len2=xs at*;have hvl:vsx.length=xs.length*B2.esz:=by rw [←hr.length,Qau hxz]
   have hxne:xs≠ []:=by intro e;rw [e]at hxl;simp at hxl;omega
   subst hxl;cases s with
   |nilS=>
    obtain⟨_,_,_,e19,e20,_⟩:=M.bind_some e18;obtain⟨c8,_⟩:=M.ok_some e19;obtain⟨e21,_⟩:=M.pure_some e20;cases e21;simp only [Bool.and_eq_true,decide_eq_true_eq]at c8;have hu:=hs.nilS_inv;subst hu;have hby:xs.length*i.bytes≤140737488355328:=by rw [hi2];exact c8.1
    have hsmall:((xs.length:Nat):Int)≤9223372036854775807:=by have:=c8.2;simp only [maxLen]at this;omega
    have hrn:=run_append_nil w T ty E i zv hT hi hz2 ⟨g2,off2*B2.esz,none⟩ xs.length cap2 vsx (by rw [hvl,p2,hi1]) hcx (by omega) (by omega) (by omega);have hcapg:=grownCap_ge w xs.length 0 E;have hcapm:=grownCap_le_maxLen w xs.length 0 E c8.2;have hzc:(Builtin.zeroCells zv.cells (grownCap w xs.length 0 E-xs.length)).size=(grownCap w xs.length 0 E-xs.length)*i.size:=by rw [size_zeroCells,hzs]
    generalize grownCap w xs.length 0 E=cap at*;generalize Builtin.zeroCells zv.cells (cap-xs.length)=zc at*;have harr:vsx.toArray++zc=(vsx++zc.toList).toArray:=by apply Array.ext';simp
    rw [harr]at hrn;have hmul2:cap*q.1=xs.length*q.1+(cap-xs.length)*q.1:=by rw [←Nat.add_mul];congr 1;omega
    obtain⟨ρ',im',m1,m2⟩:=h.append_newD (els:=xs) (E:=E) (esz:=q.1) (us:=vsx) (rest:=zc.toList) hidL c6 (by omega) (fun e he=>by rw [hxz e he,p2]) hr p5 0 cap (Nat.zero_le _) hcapg (by simp;rw [hvl,p2];rw [hi1]at hzc;omega) hcapm;refine⟨_,_,ρ',im',.inl (hrun _ _ hrn),?_,m2⟩;simpa [Qay,Qbu,Eff.on]using m1
   |bs b esz off len=>
    obtain⟨Bo,_,_,e19,e20,_⟩:=M.bind_some e18;obtain⟨rfl,_⟩:=M.hard_some e19;obtain⟨B,_,_,e21,e22,_⟩:=M.bind_some e20;obtain⟨hB,_⟩:=M.ofOpt_some e21;obtain⟨_,_,_,e23,e24,_⟩:=M.bind_some e22;obtain⟨c8,_⟩:=M.ok_some e23;obtain⟨e25,_⟩:=M.pure_some e24;cases e25;simp only [Bool.and_eq_true,decide_eq_true_eq,beq_iff_eq,Bool.not_eq_true']at c8;obtain⟨⟨⟨⟨⟨⟨⟨⟨⟨⟨d1,d2⟩,d3⟩,d4⟩,d4'⟩,d5⟩,d6⟩,d7⟩,d8⟩,d9⟩,d10⟩:=c8;subst d3;subst d4;subst d7;have hs':LR w im ρ (.bs b B.esz 0 B.els.length) u:=by rw [d6,←d5];exact hs
    obtain⟨v',w',ρ',im',k1',k2',k3'⟩:=h.appendD (ty:=ty) hT hi hz2 (by omega) hzs hB d1 hs' hcx hr hxne (by intro e;rw [e]at d4';simp at d4') (fun e he=>by rw [hxz e he,p2,d6]) d8 p5 hidL c6 (by rw [hi2];exact d9) d10;refine⟨v',w',ρ',im',.inl (hrun _ _ k1'),?_,?_⟩
    ·rw [Qay,Qay,Qbu,Zcr hB];simpa [Eff.on,d6]using k2'
    ·rw [d6]at k3';exact k3'
   |_=>cases e18
 |_=>cases e14
theorem Zmv {x:Operand} {t:TypeId} {ts:Array TypeId} {v r:PV} (ho:o.op= .call ⟨.builtin .len, #[x],ts⟩) (ht:ts[0]? =some t) (hx:LR w im ρ v (a.eval x)) (hr:Qa3 C.P t v=some r):Calm C.P w im ρ a o r:=by
 have go: ∀n,(Builtin.len_ ts o.type #[a.eval x]).run C.P w= .ok (.int .i64 n) w→Calm C.P w im ρ a o (.int .i64 n):=by
  intro n hn;exact⟨_,by simp [execOp,ho,resolve,invoke,builtin,hn],.ext _ _ (.int _ _)⟩
 have arr: ∀(q:Option PV),(match C.P.underlying t with|some (.array n _)=>some (PV.int .i64 n)|_=>none)=some r→Calm C.P w im ρ a o r:=by
  intro _ hh;split at hh
  ·rename_i n e hT;cases hh;exact go n (by simp [Builtin.len_,ht,run_underlying hT,goInt])
  ·cases hh
 unfold Qa3 at hr;split at hr
 ·rename_i s;split at hr
  ·rename_i hT;cases hr;exact go _ (by simp [Builtin.len_,ht,run_underlying hT,goInt,hx.str_inv])
  ·cases hr
 ·split at hr
  ·rename_i e hT;cases hr;exact go _ (by simp [Builtin.len_,ht,run_underlying hT,goInt,hx.nilS_inv])
  ·cases hr
 ·rename_i es;split at hr
  ·rename_i e hT;cases hr;refine go _ ?_;have hs:=hx.slc_inv;generalize a.eval x=u at*;cases hs with
   |slcNil c hm=>simp [Builtin.len_,ht,run_underlying hT,goInt]
   |slcE p cap hm=>simp [Builtin.len_,ht,run_underlying hT,goInt]
   |slc _ g off len cap sz vs hn hm hz hii hc hrl hcap=>simp [Builtin.len_,ht,run_underlying hT,goInt,hn]
  ·cases hr
 ·rename_i b esz off len;split at hr
  ·rename_i e hT;cases hr;refine go _ ?_;rcases hx.bs_inv with⟨_,⟨x0,hu⟩,_,hl⟩|⟨g,cap,cur,e',hg,hu,_⟩<;>simp [Builtin.len_,ht,run_underlying hT,goInt,hu, *]
  ·cases hr
 ·exact arr none hr
theorem Qnd {mx:Bool} {args:Array Operand} {ts:Array TypeId} {x r:PV} {xs:List PV} (ho:o.op= .call ⟨.builtin (if mx then .max else .min),args,ts⟩)
  (hv:LRL w im ρ (x::xs) (args.toList.map a.eval)) (hr:Qhp mx x xs=some r):Calm C.P w im ρ a o r:=by
 obtain⟨u,us,hu,h1,h2⟩:=hv.cons_inv;obtain⟨u',k1,k2⟩:=Qo6 (P:=C.P) (w:=w) mx xs us x r u h2 h1 hr;refine⟨u',?_,k2⟩;cases mx
 ·simp only [Bool.false_eq_true,if_false]at ho k1;simp only [execOp,ho,resolve,invoke,builtin,Builtin.min_,Sem.run_bind,Sem.run_pure,Result.andThen_ok,Array.toList_map,hu];simp [k1]
 ·simp only [if_true]at ho k1;simp only [execOp,ho,resolve,invoke,builtin,Builtin.max_,Sem.run_bind,Sem.run_pure,Result.andThen_ok,Array.toList_map,hu];simp [k1]
theorem Zcs {len:Nat} {vl:PV} {hi:Option PV} {r:Nat×Nat} (hn: ∀k i,vl≠ .int k i):Qcv len (some vl) hi≠some r:=by
 intro e;simp only [Qcv]at e;cases vl<;>first|exact absurd rfl (hn _ _)|(split at e<;>first|cases e|(rename_i q;cases q))
theorem Zct {len:Nat} {vh:PV} {lo:Option PV} {r:Nat×Nat} (hn: ∀k i,vh≠ .int k i):Qcv len lo (some vh)≠some r:=by
 intro e;simp only [Qcv]at e;cases vh<;>first|exact absurd rfl (hn _ _)|(split at e<;>first|cases e|(rename_i q _;cases q))
theorem Qo9 {T:TypeId} {v:PV} {lo hi:Option PV} {x:Out×Acc} {bx:Bx} (hb: ∀len r,Qcv len lo hi≠some r) (he:Qcu C.P T v lo hi bx=some x):False:=by
 obtain⟨x,l⟩:=x;cases v with
 |str s=>
  obtain⟨_,_,_,e1,e2,_⟩:=M.bind_some he;obtain⟨q,_,_,e3,e4,_⟩:=M.bind_some e2;exact hb _ _ (M.ofOpt_some e3).1
 |nilS=>
  obtain⟨_,_,_,e1,e2,_⟩:=M.bind_some he;obtain⟨_,_,_,e3,e4,_⟩:=M.bind_some e2;obtain⟨q,_,_,e5,e6,_⟩:=M.bind_some e4;exact hb _ _ (M.ofOpt_some e5).1
 |slc es=>
  obtain⟨_,_,_,e1,e2,_⟩:=M.bind_some he;obtain⟨_,_,_,e3,e4,_⟩:=M.bind_some e2;obtain⟨q,_,_,e5,e6,_⟩:=M.bind_some e4;exact hb _ _ (M.ofOpt_some e5).1
 |bs b esz off len=>
  obtain⟨_,_,_,e1,e2,_⟩:=M.bind_some he;obtain⟨_,_,_,e3,e4,_⟩:=M.bind_some e2;obtain⟨_,_,_,e5,e6,_⟩:=M.bind_some e4;obtain⟨q,_,_,e7,e8,_⟩:=M.bind_some e6;exact hb _ _ (M.ofOpt_some e7).1
 |bp b esz i off=>
  cases lo with
  |none=>cases hi with
   |none=>exact hb 0 (0,0) (by simp [Qcv])
   |some _=>cases he
  |some _=>cases he
 |_=>cases he
theorem Qjg {T:TypeId} {v vl:PV} {hi:Option PV} {x:Out×Acc} {bx:Bx} (hn: ∀k i,vl≠ .int k i) (he:Qcu C.P T v (some vl) hi bx=some x):False:=Qo9 (fun _ _=>Zcs hn) he
theorem Qjh {T:TypeId} {v vh:PV} {lo:Option PV} {x:Out×Acc} {bx:Bx} (hn: ∀k i,vh≠ .int k i) (he:Qcu C.P T v lo (some vh) bx=some x):False:=Qo9 (fun _ _=>Zct hn) he
theorem Qqy {args:Array Operand} {us:List Value} {u:Value} (h:args.toList.map a.eval=[u]): ∃x,args= #[x]∧a.eval x=u:=by
 have hl:args.toList.length=1:=by simpa using congrArg List.length h
 match hL:args.toList,hl with
 | [x],_=>
  rw [hL]at h;exact⟨x,by apply Array.ext';simpa using hL,by simpa using h⟩
theorem Qy0 {args:Array Operand} {u u2:Value} (h:args.toList.map a.eval=[u,u2]): ∃x y,args= #[x,y]∧a.eval x=u∧a.eval y=u2:=by
 have hl:args.toList.length=2:=by simpa using congrArg List.length h
 match hL:args.toList,hl with
 | [x,y],_=>
  rw [hL]at h;simp at h;exact⟨x,y,by apply Array.ext';simpa using hL,h.1,h.2⟩
theorem Qbr {α:Type} {x:Option α} {f:α→PV} {r:PV} {es:List Eff} {l:Acc} {bx:Bx} (he:(M.ofOpt x).bind (fun v=>M.pure (Out.done (f v) [])) bx=some (.done r es,l)): ∃v,x=some v∧r=f v∧es=[]:=by
 obtain⟨v,_,_,e1,e2,_⟩:=M.bind_some he;obtain⟨c,_⟩:=M.ofOpt_some e1;obtain⟨e3,_⟩:=M.pure_some e2;cases e3;exact⟨v,c,rfl,rfl⟩
theorem Zmw {id:Nat} (hidL:id<LENT) {vs:List PV} {r:PV} {es:List Eff} {l:Acc} (h:Rel' C st a w ρ im) (hv:LRL w im ρ vs (o.op.operands.toList.map a.eval))
  (he:Qi9 C.P id o.op vs st.box=some (.done r es,l)):Does C (Qan es st) a w (execOp a.eval o) r:=by
 generalize hm:Qi9 C.P id o.op vs=m at he;unfold Qi9 at hm;split at hm<;>subst hm
 case h_1=>
  rename_i T ho;exact Qwt hidL ho h he
 case h_2=>
  rename_i T x y ok b k ho;rw [ho]at hv;obtain⟨u,u2,hu,h1,h2⟩:=LRL.two_inv hv;simp [Op.operands]at hu;obtain⟨rfl,rfl⟩:=hu;exact Qwu ho h h1 h2 he
 case h_3=>
  rename_i T x y z b k v ho;rw [ho]at hv;obtain⟨u,us,hu,h1,h2⟩:=hv.cons_inv;obtain⟨u2,u3,hu2,h3,h4⟩:=h2.two_inv;simp [Op.operands]at hu;obtain⟨rfl,rfl⟩:=hu;simp at hu2;obtain⟨rfl,rfl⟩:=hu2;exact Qnr (.inl ho) h h1 h3 h4 he
 case h_4=>
  rename_i T x y z b k v ho;rw [ho]at hv;obtain⟨u,us,hu,h1,h2⟩:=hv.cons_inv;obtain⟨u2,u3,hu2,h3,h4⟩:=h2.two_inv;simp [Op.operands]at hu;obtain⟨rfl,rfl⟩:=hu;simp at hu2;obtain⟨rfl,rfl⟩:=hu2;exact Qnr (.inr ho) h h1 h3 h4 he
 case h_5=>
  rename_i T x y b k ho;rw [ho]at hv;obtain⟨u,u2,hu,h1,h2⟩:=LRL.two_inv hv;simp [Op.operands]at hu;obtain⟨rfl,rfl⟩:=hu;exact Qwv ho h h1 h2 he
 case h_6=>
  rename_i T x y z b q n v ho;rw [ho]at hv;obtain⟨u,us,hu,h1,h2⟩:=hv.cons_inv;obtain⟨u2,u3,hu2,h3,h4⟩:=h2.two_inv;simp [Op.operands]at hu;obtain⟨rfl,rfl⟩:=hu;simp at hu2;obtain⟨rfl,rfl⟩:=hu2;exact Qww ho h h1 h3 h4 he
 case h_7=>
  rename_i T x lo hi mx b esz off len k1 l' k2 h' k3 m' ho;rw [ho]at hv;obtain⟨u,us,hu,h1,h2⟩:=hv.cons_inv;obtain⟨u2,us2,hu2,h3,h4⟩:=h2.cons_inv;obtain⟨u3,u4,hu3,h5,h6⟩:=h4.two_inv;simp [Op.operands]at hu;obtain⟨rfl,rfl⟩:=hu;simp at hu2;obtain⟨rfl,rfl⟩:=hu2;simp at hu3;obtain⟨rfl,rfl⟩:=hu3;exact Qwl (k1:=k1) (k2:=k2) (k3:=k3) h h1 (fun u hu=>by simp [execOp,ho,h3.int_inv,h5.int_inv,h6.int_inv,hu]) he
 case h_8=>
  rename_i T x hi mx els k2 h' k3 m' ho;rw [ho]at hv;obtain⟨u,us,hu,h1,h2⟩:=hv.cons_inv;obtain⟨u2,u3,hu2,h3,h4⟩:=h2.two_inv;simp [Op.operands]at hu;obtain⟨rfl,rfl⟩:=hu;simp at hu2;obtain⟨rfl,rfl⟩:=hu2;exact Qs9 (k2:=k2) (k3:=k3) h h1 (fun u hu=>by simp [execOp,ho,h3.int_inv,h4.int_inv,hu]) he
 case h_9=>
  rename_i args ts ho;rw [ho]at hv;obtain⟨u,hu,h1⟩:=LRL.one_inv hv;simp only [Op.operands,Call.operands,Array.empty_append]at hu;obtain⟨x,rfl,rfl⟩:=Qqy (us:=[]) hu;obtain⟨t,_,_,e1,e2,_⟩:=M.bind_some he;obtain⟨c1,_⟩:=M.ofOpt_some e1;obtain⟨v,c3,rfl,rfl⟩:=Qbr (f:=fun v=>v) e2;refine Qbf h ?_;unfold Zcf at c3;split at c3
  ·rename_i e hT;cases c3;exact⟨_,by simp [execOp,ho,resolve,invoke,builtin,Builtin.cap_,c1,run_underlying hT,goInt,h1.nilS_inv],.ext _ _ (.int _ _)⟩
  ·cases c3
 case h_10=>cases he
theorem Zvt {tb:Tab} {id:Nat} (hidL:id<LENT) {vs:List PV} {r:PV} {es:List Eff} {l:Acc} (h:Rel' C st a w ρ im) (hv:LRL w im ρ vs (o.op.operands.toList.map a.eval))
  (he:Qa6 C.P tb id o.op vs st.box=some (.done r es,l)):Does C (Qan es st) a w (execOp a.eval o) r:=by
 have he0:=he;generalize hm:Qa6 C.P tb id o.op vs=m at he;unfold Qa6 at hm;split at hm<;>subst hm
 case h_1=>
  rename_i x v ho;obtain⟨e,_⟩:=M.pure_some he;cases e;rw [ho]at hv;obtain⟨u,hu,h1⟩:=LRL.one_inv hv;simp [Op.operands]at hu;subst hu;exact Qbf h (Zcg ho h1)
 case h_2=>
  rename_i x v ho;obtain⟨e,_⟩:=M.pure_some he;cases e;rw [ho]at hv;obtain⟨u,hu,h1⟩:=LRL.one_inv hv;simp [Op.operands]at hu;subst hu;exact Qbf h (Qwh ho h1)
 case h_3=>
  rename_i x v ho;rw [ho]at hv;obtain⟨u,hu,h1⟩:=LRL.one_inv hv;simp [Op.operands]at hu;subst hu;cases v with
  |bp b e i off=>obtain⟨e,_⟩:=M.pure_some he;cases e;exact Qbf h (Qlb ho h1)
  |rp cs=>obtain⟨e,_⟩:=M.pure_some he;cases e;exact Qbf h (Qlc ho h1)
  |fn f p q=>obtain⟨e,_⟩:=M.pure_some he;cases e;exact Qbf h (Qld ho h1)
  |_=>cases he
 case h_4=>
  rename_i c x y b v v' ho;obtain⟨e,_⟩:=M.pure_some he;cases e;rw [ho]at hv;obtain⟨u,us,hu,h1,h2⟩:=hv.cons_inv;obtain⟨u2,u3,hu2,h3,h4⟩:=h2.two_inv;simp [Op.operands]at hu;obtain⟨rfl,rfl⟩:=hu;simp at hu2;obtain⟨rfl,rfl⟩:=hu2;exact Qbf h (Zch ho h1 h3 h4)
 case h_5=>
  rename_i T ho;obtain⟨z,_,_,e1,e2,_⟩:=M.bind_some he;obtain⟨c1,_⟩:=M.ofOpt_some e1;exact Q2q hidL ho h c1 e2
 case h_6=>
  rename_i T x v ho;rw [ho]at hv;obtain⟨u,hu,h1⟩:=LRL.one_inv hv;simp [Op.operands]at hu;subst hu;exact Zmu hidL ho h h1 he
 case h_7=>
  rename_i T parts ho;obtain⟨_,_,_,e1,e2,_⟩:=M.bind_some he;obtain⟨c1,_⟩:=M.ok_some e1;obtain⟨z,_,_,e3,e4,_⟩:=M.bind_some e2;obtain⟨c2,_⟩:=M.ofOpt_some e3;obtain⟨cs,c3,rfl,rfl⟩:=Qbr (f:=fun cs=> .agg cs) e4;exact Q2s ho h hv c1 c2 c3
 case h_8=>
  rename_i T n parts ho;cases hl:lkp tb id with
  |none=>exact Qnb hidL ho h hv hl he0
  |some p=>
   rw [ho]at he0;simp only [Qa6,hl]at he0;exact Qwj hidL ho h hv he0
 case h_9=>
  rename_i T x b esz i off ho;rw [ho]at hv;obtain⟨u,hu,h1⟩:=LRL.one_inv hv;simp [Op.operands]at hu;subst hu;obtain⟨S,_,_,e1,e2,_⟩:=M.bind_some he;obtain⟨B,hB,rfl,_⟩:=M.soft_some e1;obtain⟨_,_,_,e3,e4,_⟩:=M.bind_some e2;obtain⟨c1,_⟩:=M.ok_some e3;obtain⟨e,_,_,e5,e6,_⟩:=M.bind_some e4;obtain⟨c2,_⟩:=M.ofOpt_some e5;obtain⟨v,c3,rfl,rfl⟩:=Qbr (f:=fun v=>v) e6;exact Qs7 ho h h1 hB (by simpa [Box.soft]using c1) c2 c3
 case h_10=>
  rename_i T x cs ho;rw [ho]at hv;obtain⟨u,hu,h1⟩:=LRL.one_inv hv;simp [Op.operands]at hu;subst hu;obtain⟨v,c3,rfl,rfl⟩:=Qbr (f:=fun v=>v) he;exact Qs8 ho h h1 c3
 case h_11=>
  rename_i T x y b esz i off v ho;have hv':=hv;rw [ho]at hv';obtain⟨u,u2,hu,h1,h2⟩:=LRL.two_inv hv';simp [Op.operands]at hu;obtain⟨rfl,rfl⟩:=hu;exact Q2t ho h h1 h2 he0
 case h_12=>
  rename_i op t x y ty v v' ho;rw [ho]at hv;obtain⟨u,u2,hu,h1,h2⟩:=LRL.two_inv hv;simp [Op.operands]at hu;obtain⟨rfl,rfl⟩:=hu;obtain⟨v,c3,rfl,rfl⟩:=Qbr (f:=fun v=>v) he;exact Qbf h (Zmq ho h1 h2 c3)
 case h_13=>
  rename_i op t x v ho;rw [ho]at hv;obtain⟨u,hu,h1⟩:=LRL.one_inv hv;simp [Op.operands]at hu;subst hu;obtain⟨v,c3,rfl,rfl⟩:=Qbr (f:=fun v=>v) he;exact Qbf h (Zvs ho h1 c3)
 case h_14=>
  rename_i s d x v ho;rw [ho]at hv;obtain⟨u,hu,h1⟩:=LRL.one_inv hv;simp [Op.operands]at hu;subst hu;exact Zcq ho h h1 he
 case h_15=>
  rename_i f first cap ho
  obtain⟨e,_⟩:=M.pure_some he;cases e;rw [ho]at hv;exact Qbf h (Qqu ho hv)
 case h_16=>
  rename_i T x y k1 n k2 c ho;have hv':=hv;rw [ho]at hv';obtain⟨u,u2,hu,h1,h2⟩:=LRL.two_inv hv';simp [Op.operands]at hu;obtain⟨rfl,rfl⟩:=hu;exact Qob hidL ho h h1 h2 he0
 case h_17=>
  rename_i T x v ho;rw [ho]at hv;obtain⟨u,hu,h1⟩:=LRL.one_inv hv;simp [Op.operands]at hu;subst hu;exact Qhi (vl:=none) (vh:=none) h h1 (.inl ⟨rfl,rfl⟩) (.inl ⟨rfl,rfl⟩) (fun u hu=>by simp [execOp,ho,hu]) he
 case h_18=>
  rename_i T x lo v vl ho;rw [ho]at hv;obtain⟨u,u2,hu,h1,h2⟩:=LRL.two_inv hv;simp [Op.operands]at hu;obtain⟨rfl,rfl⟩:=hu;cases vl with
  |int k i=>exact Qhi (vl:=some (a.eval lo)) (vh:=none) h h1 (.inr ⟨k,i,rfl,by rw [h2.int_inv]⟩) (.inl ⟨rfl,rfl⟩) (fun u hu=>by simp [execOp,ho,hu]) he
  |_=>exact(Qjg (by intro k i e;cases e) he).elim
 case h_19=>
  rename_i T x hi v vh ho;rw [ho]at hv;obtain⟨u,u2,hu,h1,h2⟩:=LRL.two_inv hv;simp [Op.operands]at hu;obtain⟨rfl,rfl⟩:=hu;cases vh with
  |int k i=>exact Qhi (vl:=none) (vh:=some (a.eval hi)) h h1 (.inl ⟨rfl,rfl⟩) (.inr ⟨k,i,rfl,by rw [h2.int_inv]⟩) (fun u hu=>by simp [execOp,ho,hu]) he
  |_=>exact(Qjh (by intro k i e;cases e) he).elim
 case h_20=>
  rename_i T x lo hi v vl vh ho;rw [ho]at hv;obtain⟨u,us,hu,h1,h2⟩:=hv.cons_inv;obtain⟨u2,u3,hu2,h3,h4⟩:=h2.two_inv;simp [Op.operands]at hu;obtain⟨rfl,rfl⟩:=hu;simp at hu2;obtain⟨rfl,rfl⟩:=hu2;cases vh with
  |int k i=>
   cases vl with
   |int k' i'=>exact Qhi (vl:=some (a.eval lo)) (vh:=some (a.eval hi)) h h1 (.inr ⟨k',i',rfl,by rw [h3.int_inv]⟩) (.inr ⟨k,i,rfl,by rw [h4.int_inv]⟩) (fun u hu=>by simp [execOp,ho,hu]) he
   |_=>exact(Qjg (by intro k i e;cases e) he).elim
  |_=>exact(Qjh (by intro k i e;cases e) he).elim
 case h_21=>
  rename_i T x f b esz i off ho;rw [ho]at hv;obtain⟨u,hu,h1⟩:=LRL.one_inv hv;simp [Op.operands]at hu;subst hu;obtain⟨q,c3,rfl,rfl⟩:=Qbr (f:=fun q:Nat×TypeId×Nat=> .bp b esz i (off+q.1)) he;exact Qbf h (Qj6 ho h1 c3)
 case h_22=>
  rename_i T x f cs ho;rw [ho]at hv;obtain⟨u,hu,h1⟩:=LRL.one_inv hv;simp [Op.operands]at hu;subst hu;obtain⟨q,c3,rfl,rfl⟩:=Qbr (f:=fun q:Nat×TypeId×Nat=> .rp (cs.drop q.1)) he;exact Qbf h (Qj7 ho h1 c3)
 case h_23=>
  rename_i T x f cs ho;rw [ho]at hv;obtain⟨u,hu,h1⟩:=LRL.one_inv hv;simp [Op.operands]at hu;subst hu;obtain⟨q,_,_,e1,e2,_⟩:=M.bind_some he;obtain⟨c1,_⟩:=M.ofOpt_some e1;obtain⟨v,c3,rfl,rfl⟩:=Qbr (f:=fun v=>v) e2;exact Qbf h (Q2n ho h1 c1 c3)
 case h_24=>
  rename_i T x y v k i ho;rw [ho]at hv;obtain⟨u,u2,hu,h1,h2⟩:=LRL.two_inv hv;simp [Op.operands]at hu;obtain⟨rfl,rfl⟩:=hu;cases v with
  |bp b esz kk off=>
   obtain⟨q,_,_,e1,e2,_⟩:=M.bind_some he;obtain⟨c1,_⟩:=M.ofOpt_some e1;obtain⟨s,_,_,e3,e4,_⟩:=M.bind_some e2;obtain⟨c2,_⟩:=M.ofOpt_some e3;obtain⟨_,_,_,e5,e6,_⟩:=M.bind_some e4;obtain⟨c3,_⟩:=M.ok_some e5;obtain⟨e7,_⟩:=M.pure_some e6;cases e7;simp only [Bool.and_eq_true,decide_eq_true_eq]at c3;exact Qbf h (Qj8 ho h1 h2 c1 c2 c3.1.1 c3.1.2)
  |rp cs=>
   obtain⟨q,_,_,e1,e2,_⟩:=M.bind_some he;obtain⟨c1,_⟩:=M.ofOpt_some e1;obtain⟨s,_,_,e3,e4,_⟩:=M.bind_some e2;obtain⟨c2,_⟩:=M.ofOpt_some e3;obtain⟨_,_,_,e5,e6,_⟩:=M.bind_some e4;obtain⟨c3,_⟩:=M.ok_some e5;obtain⟨e7,_⟩:=M.pure_some e6;cases e7;simp only [Bool.and_eq_true,decide_eq_true_eq]at c3;exact Qbf h (Qj9 ho h1 h2 c1 c2 c3.1.1 c3.1.2)
  |bs b esz off len=>
   obtain⟨q,_,_,e1,e2,_⟩:=M.bind_some he;obtain⟨c1,_⟩:=M.ofOpt_some e1;obtain⟨s,_,_,e3,e4,_⟩:=M.bind_some e2;obtain⟨c2,_⟩:=M.ofOpt_some e3;obtain⟨_,_,_,e5,e6,_⟩:=M.bind_some e4;obtain⟨c3,_⟩:=M.ok_some e5;obtain⟨e7,_⟩:=M.pure_some e6;cases e7;simp only [Bool.and_eq_true,decide_eq_true_eq,beq_iff_eq]at c3;exact Qbf h (Qka ho h1 h2 c1 c2 c3.1.1 c3.1.2 c3.2)
  |slc es=>
   obtain⟨q,_,_,e1,e2,_⟩:=M.bind_some he;obtain⟨c1,_⟩:=M.ofOpt_some e1;obtain⟨s,_,_,e3,e4,_⟩:=M.bind_some e2;obtain⟨c2,_⟩:=M.ofOpt_some e3;obtain⟨_,_,_,e5,e6,_⟩:=M.bind_some e4;obtain⟨c3,_⟩:=M.ok_some e5;obtain⟨el,_,_,e7,e8,_⟩:=M.bind_some e6;obtain⟨c4,_⟩:=M.ofOpt_some e7;obtain⟨_,_,_,e9,e10,_⟩:=M.bind_some e8;obtain⟨c5,_⟩:=M.ok_some e9;obtain⟨e11,_⟩:=M.pure_some e10;cases e11;exact Qbf h (Qjc ho h1 h2 c1 c2 (of_decide_eq_true c3) c4 (by simpa using c5))
  |_=>cases he
 case h_25=>
  rename_i T x y v k i ho;rw [ho]at hv;obtain⟨u,u2,hu,h1,h2⟩:=LRL.two_inv hv;simp [Op.operands]at hu;obtain⟨rfl,rfl⟩:=hu;cases v with
  |agg cs=>
   obtain⟨q,_,_,e1,e2,_⟩:=M.bind_some he;obtain⟨c1,_⟩:=M.ofOpt_some e1;obtain⟨s,_,_,e3,e4,_⟩:=M.bind_some e2;obtain⟨c2,_⟩:=M.ofOpt_some e3;obtain⟨_,_,_,e5,e6,_⟩:=M.bind_some e4;obtain⟨c3,_⟩:=M.ok_some e5;obtain⟨v,c4,rfl,rfl⟩:=Qbr (f:=fun v=>v) e6;simp only [Bool.and_eq_true,decide_eq_true_eq]at c3;exact Qbf h (Qn9 ho h1 h2 c1 c2 c3.1 c3.2 c4)
  |str s=>
   obtain⟨_,_,_,e5,e6,_⟩:=M.bind_some he;obtain⟨c3,_⟩:=M.ok_some e5;obtain⟨c,c4,rfl,rfl⟩:=Qbr (f:=fun c:UInt8=> .int .u8 c.toNat) e6;split at c3
   ·rename_i hT;exact Qbf h (Qoa ho h1 h2 hT (of_decide_eq_true c3) c4)
   ·cases c3
  |_=>cases he
 case h_26=>
  rename_i x i vs ho;rw [ho]at hv;obtain⟨u,hu,h1⟩:=LRL.one_inv hv;simp [Op.operands]at hu;subst hu;obtain⟨v,c3,rfl,rfl⟩:=Qbr (f:=fun v=>v) he;exact Qbf h (Qs4 ho h1 c3)
 case h_27=>
  rename_i args ts v ho;rw [ho]at hv;obtain⟨u,hu,h1⟩:=LRL.one_inv hv;simp only [Op.operands,Call.operands,Array.empty_append]at hu;obtain⟨x,rfl,rfl⟩:=Qqy (us:=[]) hu;obtain⟨t,_,_,e1,e2,_⟩:=M.bind_some he;obtain⟨c1,_⟩:=M.ofOpt_some e1;obtain⟨v,c3,rfl,rfl⟩:=Qbr (f:=fun v=>v) e2;exact Qbf h (Zmv ho c1 h1 c3)
 case h_28=>
  rename_i args ts s x ho;rw [ho]at hv;obtain⟨u,u2,hu,h1,h2⟩:=LRL.two_inv hv;simp only [Op.operands,Call.operands,Array.empty_append]at hu;obtain⟨y,y2,rfl,rfl,rfl⟩:=Qy0 hu;obtain⟨t,_,_,e1,e2,_⟩:=M.bind_some he;obtain⟨c1,_⟩:=M.ofOpt_some e1;obtain⟨t2,_,_,e3,e4,_⟩:=M.bind_some e2;obtain⟨c2,_⟩:=M.ofOpt_some e3;obtain⟨_,_,_,e5,e6,_⟩:=M.bind_some e4;obtain⟨c3,_⟩:=M.ok_some e5;simp only [beq_iff_eq]at c3;have hts:ts= #[t,t2]:=by
   apply Array.ext_getElem?;intro k
   match k with
   |0=>simpa using c1
   |1=>simpa using c2
   |k+2=>rw [Array.getElem?_eq_none (by omega),Array.getElem?_eq_none (by simp)]
  subst hts;cases hl:lkp tb id with
  |none=>
   rw [hl]at e6;exact Qwm hidL (ty:=o.type) h h1 h2 (fun v w' hr=>by simp [execOp,ho,resolve,invoke,builtin,hr]) e6
  |some p=>
   rw [hl]at e6;exact Qtc hidL (ty:=o.type) h h1 h2 (fun v w' hr=>by simp [execOp,ho,resolve,invoke,builtin,hr]) e6
 case h_29=>
  rename_i args ts x xs ho;rw [ho]at hv;obtain⟨v,c3,rfl,rfl⟩:=Qbr (f:=fun v=>v) he;exact Qbf h (Qnd (mx:=true) ho (by simpa [Op.operands,Call.operands]using hv) c3)
 case h_30=>
  rename_i args ts x xs ho;rw [ho]at hv;obtain⟨v,c3,rfl,rfl⟩:=Qbr (f:=fun v=>v) he;exact Qbf h (Qnd (mx:=false) ho (by simpa [Op.operands,Call.operands]using hv) c3)
 case h_31=>
  clear he0;revert he;cases lkp tb id with
  |none=>
   intro he;obtain⟨_,_,_,e1,e2,_⟩:=M.bind_some he;obtain⟨_,_,_,e3,e4,_⟩:=M.bind_some e2;obtain⟨_,_,_,e5,e6,_⟩:=M.bind_some e4;obtain⟨e7,_⟩:=M.pure_some e6;cases e7
  |some p=>
   intro he;obtain⟨_,_,_,e1,e2,_⟩:=M.bind_some he;obtain⟨_,_,_,e3,e4,_⟩:=M.bind_some e2;obtain⟨_,_,_,e5,e6,_⟩:=M.bind_some e4;obtain⟨_,_,_,e7,e8,_⟩:=M.bind_some e6;obtain⟨e9,_⟩:=M.pure_some e8;cases e9
 case h_32=>
  obtain⟨_,_,_,e1,e2,_⟩:=M.bind_some he;obtain⟨_,_,_,e3,e4,_⟩:=M.bind_some e2;obtain⟨e7,_⟩:=M.pure_some e4;cases e7
 case h_33=>
  rename_i args ts d x ho;rw [ho]at hv;obtain⟨u,u2,hu,h1,h2⟩:=LRL.two_inv hv;simp only [Op.operands,Call.operands,Array.empty_append]at hu;obtain⟨y,y2,rfl,rfl,rfl⟩:=Qy0 hu;obtain⟨t,_,_,e1,e2,_⟩:=M.bind_some he;obtain⟨c1,_⟩:=M.ofOpt_some e1;exact Zcp (ty:=o.type) h h1 h2 c1 (fun v w' hr=>by simp [execOp,ho,resolve,invoke,builtin,hr]) e2
 case h_34=>
  rename_i args ts d ho;rw [ho]at hv;obtain⟨u,hu,h1⟩:=LRL.one_inv hv;simp only [Op.operands,Call.operands,Array.empty_append]at hu;obtain⟨x,rfl,rfl⟩:=Qqy (us:=[]) hu;obtain⟨t,_,_,e1,e2,_⟩:=M.bind_some he;obtain⟨c1,_⟩:=M.ofOpt_some e1;exact Q2u (ty:=o.type) h h1 c1 (fun w' hr=>by simp [execOp,ho,resolve,invoke,builtin,hr]) e2
 case h_35=>exact Zmw hidL h hv he
end
def callable (P:Program) (f:FuncId):Bool:=match P.funcs[f]? with
 |some fn=>fn.body.isSome&& !(fn.name== "runtime.NumGoroutine")
 |none=>false
def Zmx (im:Im) (w w':World):Im:=fun g j=>im g j∨(w.heap.size≤g∧ ∃u,w'.cell? ⟨g,j,none⟩=some u)
def Qwn:PV→Bool
 | .bool _| .int _ _| .str _| .nilS| .nilF| .nilI| .nilP=>true
 |_=>false
def Zcu:PV→Bool
 | .agg cs=>cs.all Qwn
 |v=>Qwn v
def Qhs:PV→Bool
 | .tup vs=>vs.all Zcu
 |v=>Zcu v
def Zcv (P:Program) (f:FuncId) (args:List PV) (r:PV):Prop:=
 callable P f=true∧ ∀(w:World) (im:Im) (us:List Value) (F:Nat),F≤w.heap.size→Laid P F w→RepL w im args us→(∀g j,im g j→ ∃u,w.cell? ⟨g,j,none⟩=some u)→
  Calls P f us.toArray w fun e w'=> ∃v,e= .returned v∧Below w.heap.size w w'∧Rep w' (Zmx im w w') r v
def Qaf (P:Program) (f:FuncId) (args:List PV) (r:PV):Prop:=
 Zcv P f args r∨(callable P f=false∧Qhs r=true∧ ∀(w:World) (im:Im) (us:List Value),RepL w im args us→ ∃v,(callFunc f us.toArray).run P w= .ok (.value v) w∧Rep w im r v)
structure Boxes (own:Nat→Prop) (w:World) (im:Im) (ρ:Rho) (bx:Bx):Prop where
 rho: ∀b,ρ b=none↔bx b=none
 box: ∀b x B,ρ b=some x→bx b=some B→Qda own w im ρ B x
 inj: ∀b b' g B B',ρ b=some (some g)→ρ b'=some (some g)→bx b=some B→bx b'=some B'→B.live=true→B'.live=true→b=b'
def Qbv (P:Program) (f:FuncId) (args:List PV) (bxs:List (Nat×Box)) (r:PV) (bxs':List (Nat×Box)):Prop:=
 callable P f=true∧ ∀(w:World) (im:Im) (ρ:Rho) (us:List Value) (F:Nat),F≤w.heap.size→Laid P F w→(∀g,Own ρ g→F≤g)→(∀g j,im g j→ ∃u,w.cell? ⟨g,j,none⟩=some u)→Boxes (Own ρ) w im ρ (lkp bxs)→LRL w im ρ args us→
  Calls P f us.toArray w fun e w'=> ∃v ρ' im',e= .returned v∧Step ρ im w ρ' im' w'∧(∀g j,im' g j→ ∃u,w'.cell? ⟨g,j,none⟩=some u)∧Boxes (Own ρ') w' im' ρ' (lkp bxs')∧
   (∀b x x',ρ b=some x→ρ' b=some x'→x'=x)∧LR w' im' ρ' r v
theorem Qtd {w:World} {im im':Im} {v:PV} {u:Value} (hf:Qwn v=true) (h:Rep w im v u):Rep w im' v u:=by
 cases h<;>first|(simp [Qwn]at hf;done)|constructor
theorem Qpa {w:World} {im im':Im}: ∀{vs:List PV} {us:List Value},RepL w im vs us→vs.all Qwn=true→RepL w im' vs us
 |_,_,.nil,_=> .nil
 |_,_,.cons v u vs us h t,hf=>by
  simp only [List.all_cons,Bool.and_eq_true]at hf;exact .cons _ _ _ _ (Qtd hf.1 h) (Qpa t hf.2)
theorem Qte {w:World} {im im':Im} {v:PV} {u:Value} (hf:Zcu v=true) (h:Rep w im v u):Rep w im' v u:=by
 cases v with
 |agg cs=>cases h with|agg _ vs h=>exact .agg _ _ (Qpa h hf)
 |_=>exact Qtd hf h
theorem Qpb {w:World} {im im':Im}: ∀{vs:List PV} {us:List Value},RepL w im vs us→vs.all Zcu=true→RepL w im' vs us
 |_,_,.nil,_=> .nil
 |_,_,.cons v u vs us h t,hf=>by
  simp only [List.all_cons,Bool.and_eq_true]at hf;exact .cons _ _ _ _ (Qte hf.1 h) (Qpb t hf.2)
theorem Qy1 {w:World} {im im':Im} {v:PV} {u:Value} (hf:Qhs v=true) (h:Rep w im v u):Rep w im' v u:=by
 cases v with
 |tup cs=>cases h with|tup _ vs h=>exact .tup _ _ (Qpb h hf)
 |_=>exact Qte hf h
def St.put (st:St) (dst:Option Tmp) (v:PV):St:=match dst with
 |some t=>st.setVar t v
 |none=>st
structure Rec where
 val:PV
 effs:List Eff
 acc:Acc
def Rec.on (r:Rec) (dst:Option Tmp) (st:St):St:=(Qan r.effs st).put dst r.val
def Qji (ops:Array Oper) (o:Oper):Option (Tmp×Bool):=match o.guard with
 |some (j,want)=>match(ops[j]?).bind (·.dst)with
  |some t=>some (t,want)
  |none=>none
 |none=>none
def Qcp (ops:Array Oper) (o:Oper) (st:St):Option Bool:=match o.guard with
 |none=>some true
 |some _=>match Qji ops o with
  |none=>none
  |some (t,want)=>match st.var t with
   |some (.bool b)=>some (b==want)
   |some (.tup [])=>some false
   |_=>none
def Qcm (es:List Eff):Acc:=es.map fun e=>(e.id,e.hard)
inductive OpRun (P:Program) (tb:Tab) (ops:Array Oper) (st:St) (id:Nat) (o:Oper):Rec→Prop
 |skip (h:Qcp ops o st=some false):OpRun P tb ops st id o ⟨.tup [],[],[]⟩
 |done (h:Qcp ops o st=some true) (vs:List PV) (hv:st.evs o.op.operands.toList=some vs) (v:PV) (es:List Eff) (l:Acc)
   (he:Qa6 P tb id o.op vs st.box=some (.done v es,l)):OpRun P tb ops st id o ⟨v,es,l++Qcm es⟩
 |call (h:Qcp ops o st=some true) (vs:List PV) (hv:st.evs o.op.operands.toList=some vs) (f:FuncId) (args:List PV) (es:List Eff) (l:Acc) (r:PV)
   (he:Qa6 P tb id o.op vs st.box=some (.call f args es,l)) (hs:Qaf P f args r):OpRun P tb ops st id o ⟨r,if Qhs r then []else es,l++Qcm es⟩
 |callB (h:Qcp ops o st=some true) (vs:List PV) (hv:st.evs o.op.operands.toList=some vs) (f:FuncId) (args:List PV) (bxs:List (Nat×Box)) (es:List Eff) (θ ν:List (Nat×Nat)) (l:Acc) (r:PV) (bxs':List (Nat×Box))
   (r':PV) (ef:List Eff) (he:Qa6 P tb id o.op vs st.box=some (.callB f args bxs es θ ν,l)) (hs:Qbv P f args bxs r bxs') (hl:land θ ν bxs' r=some (r',ef)):
   OpRun P tb ops st id o ⟨r',(if Qj3 r bxs' then []else es)++ef,l++Qcm es++Qcm ef⟩
 |yield (h:Qcp ops o st=some true) (vs:List PV) (hv:st.evs o.op.operands.toList=some vs) (n stop:Nat) (args:List PV) (es:List Eff) (l:Acc)
   (he:Qa6 P tb id o.op vs st.box=some (.yield n stop args es,l)) (hy:yOk st.yl n stop st.out args):OpRun P tb ops st id o ⟨.bool (decide (st.out.length<stop)),es++[.yld args],l++Qcm es++[(YID,true)]⟩
section
variable {C:Ctx} {st:St} {a:Act} {w:World} {o:Oper} {ops:Array Oper}
theorem Rel.put {ρ:Rho} {im:Im} (h:Rel' C st a w ρ im) {dst:Option Tmp} (hd: ∀t,dst=some t→t<C.nt) {v:PV} {u:Value} (hv:LR w im ρ v u):Rel C (st.put dst v) (a.put dst u) w:=by
 cases dst with
 |none=>exact⟨ρ,im,h⟩
 |some t=>exact⟨ρ,im,h.setVar (hd t rfl) hv⟩
theorem Qfb {ρ:Rho} {im:Im} (h:Rel' C st a w ρ im) {b:Bool} (hw:Qcp ops o st=some b):Region.wanted o (yielded ops a.tmps)=b:=by
 unfold Qcp at hw;unfold Region.wanted;cases hg:o.guard with
 |none=>rw [hg]at hw;cases hw;rfl
 |some p=>
  obtain⟨j,want⟩:=p;simp only [hg,Qji]at hw;cases hd:(ops[j]?).bind (·.dst)with
  |none=>rw [hd]at hw;cases hw
  |some t=>
   simp only [hd]at hw;have hget:a.tmps.getD t undef=(a.tmps[t]?).getD undef:=by simp
   split at hw
   ·rename_i b0 hv;cases hw;have:=(h.var t _ hv).bool_inv;rw [hget]at this;simp only [yielded,hd,Option.bind_some];cases ht:a.tmps[t]? with
    |none=>rw [ht]at this;cases this
    |some x=>rw [ht]at this;simp only [Option.getD_some]at this;subst this;cases b0<;>cases want<;>rfl
   ·rename_i hv;cases hw;obtain⟨us,hu,hr⟩:=(h.var t _ hv).tup_inv;cases hr.nil_inv;rw [hget]at hu;simp only [yielded,hd,Option.bind_some];cases ht:a.tmps[t]? with
    |none=>cases want<;>rfl
    |some x=>rw [ht]at hu;simp only [Option.getD_some]at hu;subst hu;cases want<;>rfl
   ·cases hw
def Plain (m:M Out):Prop:= ∀(bx:Bx) (x:Out) (l:Acc),m bx=some (x,l)→ ∃v es,x= .done v es
theorem Plain.done (v:PV) (es:List Eff):Plain (M.pure (.done v es)):=fun _ _ _ h=>⟨v,es,(M.pure_some h).1⟩
theorem Plain.fail:Plain M.fail:=fun _ _ _ h=>by cases h
theorem Plain.bind {α:Type} {m:M α} {f:α→M Out} (h: ∀a,Plain (f a)):Plain (M.bind m f):=fun bx x l e=>by
 obtain⟨a,_,_,_,e2,_⟩:=M.bind_some e;exact h a _ _ _ e2
theorem Qtf (id:Nat) (T:TypeId) (v:PV):Plain (newVar id T v):=by
 unfold newVar;repeat (first|exact Plain.done _ _|(refine Plain.bind fun _=> ?_))
theorem Qqz (P:Program) (t:TypeId) (x:PV) (lo hi:Option PV):Plain (Qcu P t x lo hi):=by
 unfold Qcu;split<;>repeat (first|exact Plain.done _ _|exact Plain.fail|(refine Plain.bind fun _=> ?_)|split|unfold Zce)
theorem Qq0 (P:Program) (id:Nat) (T T2:TypeId) (s x:PV):Plain (Qgn P id T T2 s x):=by
 unfold Qgn;repeat (first|exact Plain.done _ _|exact Plain.fail|(refine Plain.bind fun _=> ?_)|split)
theorem Qq1 (P:Program) (id:Nat) (T T2:TypeId) (n:Int):Plain (Qgm P id T T2 n):=by
 unfold Qgm;repeat (first|exact Plain.done _ _|exact Plain.fail|(refine Plain.bind fun _=> ?_))
theorem Qht (P:Program) (id:Nat) (T T2:TypeId) (s x:PV):Plain (Qdr P id T T2 s x):=by
 unfold Qdr;split
 ·exact Qq1 _ _ _ _ _
 ·exact Qq0 _ _ _ _ _ _
theorem Qtg (P:Program) (id T n:Nat) (parts:Array (Nat×Operand)) (vs:List PV):Plain (Qi7 P id T n parts vs):=by
 unfold Qi7;repeat (first|exact Plain.done _ _|exact Plain.fail|(refine Plain.bind fun _=> ?_))
theorem Qq2 (P:Program) (id:Nat) (T T2:TypeId) (s x:PV):Plain (appendD P id T T2 s x):=by
 unfold appendD;repeat (first|exact Plain.done _ _|exact Plain.fail|(refine Plain.bind fun _=> ?_)|split)
theorem Qwo (P:Program) (s d:TypeId) (x:PV):Plain (Qqs P s d x):=by
 unfold Qqs;cases Qm3 P s d x with
 |some v=>exact Plain.done _ _
 |none=>
  refine Plain.bind fun _=>Plain.bind fun y=> ?_;cases y.1<;>first|exact Plain.fail|(refine Plain.bind fun _=> ?_;exact Plain.done _ _)
theorem Qth (P:Program) (t:TypeId) (d x:PV):Plain (Qi8 P t d x):=by
 unfold Qi8;refine Plain.bind fun _=>Plain.bind fun _=>Plain.bind fun y=> ?_;cases y.1<;>first|exact Plain.fail|skip
 cases d<;>first|exact Plain.fail|skip
 refine Plain.bind fun _=>Plain.bind fun _=>Plain.bind fun _=>Plain.bind fun _=>Plain.done _ _
theorem Qti (P:Program) (id:Nat) (T:TypeId):Plain (Qkp P id T):=by
 unfold Qkp;repeat (first|exact Plain.done _ _|exact Plain.fail|(refine Plain.bind fun _=> ?_))
theorem Qtj (P:Program) (T:TypeId) (b:Nat) (k:PV) (ok:Bool):Plain (Qkq P T b k ok):=by
 unfold Qkq;repeat (first|exact Plain.done _ _|exact Plain.fail|(refine Plain.bind fun _=> ?_))
theorem Qtk (P:Program) (T:TypeId) (b:Nat) (k v:PV):Plain (Qhq P T b k v):=by
 unfold Qhq;repeat (first|exact Plain.done _ _|exact Plain.fail|(refine Plain.bind fun _=> ?_)|split)
theorem Qtl (P:Program) (T:TypeId) (b:Nat) (k:PV):Plain (Qkr P T b k):=by
 unfold Qkr;repeat (first|exact Plain.done _ _|exact Plain.fail|(refine Plain.bind fun _=> ?_)|split)
theorem Qtm (b:Nat) (n:Int) (v:PV):Plain (Qks b n v):=by
 unfold Qks;repeat (first|exact Plain.done _ _|exact Plain.fail|(refine Plain.bind fun _=> ?_))
theorem Qod (P:Program) (t:TypeId) (b esz off len:Nat) (l h m:Int):Plain (Qd7 P t b esz off len l h m):=by
 unfold Qd7;repeat (first|exact Plain.done _ _|exact Plain.fail|(refine Plain.bind fun _=> ?_))
theorem Qq3 (P:Program) (t:TypeId) (es:List PV) (h m:Int):Plain (Qfp P t es h m):=by
 unfold Qfp;repeat (first|exact Plain.done _ _|exact Plain.fail|(refine Plain.bind fun _=> ?_))
theorem Qwp (P:Program) (ts:Array TypeId):Plain (Qwg P ts):=by
 unfold Qwg;repeat (first|exact Plain.done _ _|exact Plain.fail|(refine Plain.bind fun _=> ?_))
theorem Qtn (P:Program) (id:Nat) (o:Op) (vs:List PV):Plain (Qi9 P id o vs):=by
 unfold Qi9;split<;>first|with_reducible exact Qod _ _ _ _ _ _ _ _ _|with_reducible exact Qq3 _ _ _ _ _|with_reducible exact Qwp _ _|with_reducible exact Qti _ _ _|with_reducible exact Qtj _ _ _ _ _|with_reducible exact Qtk _ _ _ _ _|with_reducible exact Qtl _ _ _ _|with_reducible exact Qtm _ _ _|with_reducible exact Plain.fail
theorem Qq4 (P:Program) (t:TypeId) (d:PV):Plain (Qfo P t d):=by
 unfold Qfo;refine Plain.bind fun _=>Plain.bind fun _=>Plain.bind fun y=> ?_;cases d<;>first|exact Plain.fail|skip
 refine Plain.bind fun _=>Plain.bind fun _=>Plain.bind fun _=>Plain.bind fun _=>Plain.done _ _
inductive CallOf (tb:Tab) (id:Nat) (op:Op) (vs:List PV) (bx:Bx):Out→Prop
 |call (fo:Operand) (asx:Array Operand) (ts:Array TypeId) (f:FuncId) (first cap vargs:List PV) (x y z:List PV×List Eff) (l1 l2 l3:Acc) (ho:op= .call ⟨.value fo,asx,ts⟩) (hv:vs= .fn f first cap::vargs)
   (h1:Qev first bx=some (x,l1)) (h2:Qgh vargs bx=some (y,l2)) (h3:Qev cap bx=some (z,l3)):CallOf tb id op vs bx (.call f (x.1++y.1++z.1) (x.2++y.2++z.2))
 |callB (fo:Operand) (asx:Array Operand) (ts:Array TypeId) (f:FuncId) (first cap vargs:List PV) (θ ν:List (Nat×Nat)) (x:Out) (l:Acc) (ho:op= .call ⟨.value fo,asx,ts⟩) (hv:vs= .fn f first cap::vargs)
   (hx:Qfn θ ν f (first++vargs++cap) bx=some (x,l)):CallOf tb id op vs bx x
 |yield (fo:Operand) (asx:Array Operand) (ts:Array TypeId) (n stop:Nat) (vargs:List PV) (y:List PV×List Eff) (l1:Acc) (ho:op= .call ⟨.value fo,asx,ts⟩) (hv:vs= .yld n stop::vargs)
   (h1:Qgh vargs bx=some (y,l1)):CallOf tb id op vs bx (.yield n stop y.1 y.2)
theorem Qkc {P:Program} {tb:Tab} {id:Nat} {op:Op} {vs:List PV} {bx:Bx} {x:Out} {l:Acc} (he:Qa6 P tb id op vs bx=some (x,l)) (hn: ∀v es,x≠ .done v es):CallOf tb id op vs bx x:=by
 generalize hm:Qa6 P tb id op vs=m at he;unfold Qa6 at hm;split at hm<;>subst hm
 case h_31=>
  revert he;cases lkp tb id with
  |none=>
   intro he;obtain⟨x,_,_,e1,e2,_⟩:=M.bind_some he;obtain⟨y,_,_,e3,e4,_⟩:=M.bind_some e2;obtain⟨z,_,_,e5,e6,_⟩:=M.bind_some e4;obtain⟨e7,_⟩:=M.pure_some e6;subst e7;exact .call _ _ _ _ _ _ _ x y z _ _ _ rfl rfl e1 e3 e5
  |some p=>
   intro he;exact .callB _ _ _ _ _ _ _ p.1 p.2 x _ rfl rfl he
 case h_32=>
  obtain⟨_,_,_,e1,e2,_⟩:=M.bind_some he;obtain⟨y,_,_,e3,e4,_⟩:=M.bind_some e2;obtain⟨e7,_⟩:=M.pure_some e4;subst e7;exact .yield _ _ _ _ _ _ y _ rfl rfl e3
 case h_8=>
  exfalso;refine(fun(h:Plain _)=>by obtain⟨v,es,e⟩:=h _ _ _ he;exact hn v es e) ?_;cases lkp tb id with
  |none=>repeat (first|exact Plain.done _ _|exact Plain.fail|(refine Plain.bind fun _=> ?_))
  |some p=>exact Qtg _ _ _ _ _ _
 case h_28=>
  exfalso;refine(fun(h:Plain _)=>by obtain⟨v,es,e⟩:=h _ _ _ he;exact hn v es e) ?_;refine Plain.bind fun _=>Plain.bind fun _=>Plain.bind fun _=> ?_;cases lkp tb id with
  |none=>exact Qht _ _ _ _ _ _
  |some p=>exact Qq2 _ _ _ _ _ _
 all_goals
  exfalso;refine(fun(h:Plain _)=>by obtain⟨v,es,e⟩:=h _ _ _ he;exact hn v es e) ?_;repeat (first|exact Plain.done _ _|exact Plain.fail|exact Qtf _ _ _|exact Qqz _ _ _ _ _|exact Qht _ _ _ _ _ _|exact Qwo _ _ _ _|exact Qth _ _ _ _|exact Qq4 _ _ _|exact Qtn _ _ _ _|(refine Plain.bind fun _=> ?_)|split)
end
end Go.Vl

namespace Go.Vl
def Qd8 (l:Acc) (bx bx':Bx):Prop:= ∀p∈l,if p.2 then bx p.1=bx' p.1 else(bx p.1).map Box.soft=(bx' p.1).map Box.soft
theorem Qd8.append {l l':Acc} {bx bx':Bx} (h:Qd8 (l++l') bx bx'):Qd8 l bx bx'∧Qd8 l' bx bx':=
 ⟨fun p hp=>h p (List.mem_append_left _ hp),fun p hp=>h p (List.mem_append_right _ hp)⟩
def Framed {α:Type} (m:M α):Prop:= ∀(bx bx':Bx) (x:α) (l:Acc),m bx=some (x,l)→Qd8 l bx bx'→m bx'=some (x,l)
theorem Framed.pure {α:Type} (a:α):Framed (M.pure a):=fun _ _ _ _ h _=>h
theorem Framed.fail {α:Type}:Framed (M.fail:M α):=fun _ _ _ _ h _=>by cases h
theorem Framed.ofOpt {α:Type} (x:Option α):Framed (M.ofOpt x):=fun _ _ _ _ h _=>h
theorem Framed.ok (c:Bool):Framed (M.ok c):=fun _ _ _ _ h _=>h
theorem Framed.soft (b:Nat):Framed (M.soft b):=by
 intro bx bx' x l h ha;obtain⟨B,hB,rfl,rfl⟩:=M.soft_some h;have:=ha (b,false) (by simp);simp only [Bool.false_eq_true,if_false,hB]at this;unfold M.soft;cases hb:bx' b with
 |none=>rw [hb]at this;cases this
 |some B'=>rw [hb]at this;simp at this;simp [this]
theorem Framed.hard (b:Nat):Framed (M.hard b):=by
 intro bx bx' x l h ha;obtain⟨rfl,rfl⟩:=M.hard_some h;have:=ha (b,true) (by simp);simp only [if_true]at this;simp [M.hard,this]
theorem Framed.bind {α β:Type} {m:M α} {f:α→M β} (h:Framed m) (k: ∀a,Framed (f a)):Framed (M.bind m f):=by
 intro bx bx' x l e ha;obtain⟨a,l1,l2,e1,e2,rfl⟩:=M.bind_some e;obtain⟨a1,a2⟩:=ha.append;simp [M.bind,h bx bx' a l1 e1 a1,k a bx bx' x l2 e2 a2]
theorem Qft (v:PV):Framed (escS v):=by
 unfold escS;split<;>repeat (first|exact Framed.pure _|exact Framed.fail|exact Framed.soft _|exact Framed.ok _|(refine Framed.bind ?_ fun _=> ?_))
theorem Qky: ∀vs:List PV,Framed (Zcc vs)
 | []=>Framed.pure _
 |v::vs=>Framed.bind (Qft v) fun _=>Framed.bind (Qky vs) fun _=>Framed.pure _
theorem Qwq (v:PV):Framed (escE v):=by
 unfold escE;split
 ·exact Framed.bind (Qky _) fun _=>Framed.pure _
 ·exact Qft _
theorem Qkz: ∀vs:List PV,Framed (Q2g vs)
 | []=>Framed.pure _
 |v::vs=>Framed.bind (Qwq v) fun _=>Framed.bind (Qkz vs) fun _=>Framed.pure _
theorem Qdn (v:PV):Framed (esc0 v):=by
 unfold esc0;split
 ·refine Framed.bind (Framed.soft _) fun B=> ?_;split
  ·exact Qft _
  ·exact Framed.bind (Framed.ok _) fun _=>Framed.bind (Qkz _) fun _=>Framed.pure _
 ·exact Qft _
theorem Qfu: ∀vs:List PV,Framed (escL vs)
 | []=>Framed.pure _
 |v::vs=>Framed.bind (Qdn v) fun _=>Framed.bind (Qfu vs) fun _=>Framed.pure _
theorem Qdo (v:PV):Framed (escC v):=by
 unfold escC;split<;>repeat (first|exact Framed.pure _|exact Framed.fail|exact Framed.soft _|exact Framed.ok _|exact Framed.ofOpt _|exact Qfu _|exact Qdn _|(refine Framed.bind ?_ fun _=> ?_))
theorem Qgs: ∀vs:List PV,Framed (Qev vs)
 | []=>Framed.pure _
 |v::vs=>Framed.bind (Qdo v) fun _=>Framed.bind (Qgs vs) fun _=>Framed.pure _
theorem Qer (v:PV):Framed (esc1 v):=by
 unfold esc1;split<;>repeat (first|exact Framed.pure _|exact Framed.fail|exact Qfu _|exact Qgs _|exact Qdo _|(refine Framed.bind ?_ fun _=> ?_))
theorem Qgt: ∀vs:List PV,Framed (Qgh vs)
 | []=>Framed.pure _
 |v::vs=>Framed.bind (Qer v) fun _=>Framed.bind (Qgt vs) fun _=>Framed.pure _
theorem Qto (P:Program) (s d:TypeId) (x:PV):Framed (Qqs P s d x):=by
 unfold Qqs;cases Qm3 P s d x with
 |some v=>exact Framed.pure _
 |none=>
  refine Framed.bind (Framed.ok _) fun _=>Framed.bind (Qdn _) fun y=> ?_;cases y.1<;>first|exact Framed.fail|(refine Framed.bind (Framed.ofOpt _) fun _=> ?_;exact Framed.pure _)
theorem Qq5 (P:Program) (t:TypeId) (d x:PV):Framed (Qi8 P t d x):=by
 unfold Qi8;refine Framed.bind (Framed.ofOpt _) fun _=>Framed.bind (Framed.ofOpt _) fun _=>Framed.bind (Qdn _) fun y=> ?_;cases y.1<;>first|exact Framed.fail|skip
 cases d<;>first|exact Framed.fail|skip
 refine Framed.bind (Framed.hard _) fun _=>Framed.bind (Framed.ofOpt _) fun _=>Framed.bind (Framed.ok _) fun _=>Framed.bind (Framed.ok _) fun _=>Framed.pure _
theorem Qoe (P:Program) (t:TypeId) (d:PV):Framed (Qfo P t d):=by
 unfold Qfo;refine Framed.bind (Framed.ofOpt _) fun _=>Framed.bind (Framed.ofOpt _) fun _=>Framed.bind (Framed.ofOpt _) fun y=> ?_;cases d<;>first|exact Framed.fail|skip
 refine Framed.bind (Framed.hard _) fun _=>Framed.bind (Framed.ofOpt _) fun _=>Framed.bind (Framed.ok _) fun _=>Framed.bind (Framed.ok _) fun _=>Framed.pure _
theorem Qtp (θ:List (Nat×Nat)) (v:PV):Framed (Q2h θ v):=by
 unfold Q2h;split
 ·split<;>first|exact Framed.pure _|exact Qdo _
 ·split<;>first|exact Framed.pure _|exact Qdo _
 ·exact Qdo _
theorem Qfv (θ:List (Nat×Nat)): ∀vs:List PV,Framed (Qo3 θ vs)
 | []=>Framed.pure _
 |v::vs=>Framed.bind (Qtp θ v) fun _=>Framed.bind (Qfv θ vs) fun _=>Framed.pure _
theorem Qtq (θ:List (Nat×Nat)) (v:PV):Framed (Q2i θ v):=by
 unfold Q2i;split
 ·split<;>first|exact Framed.pure _|exact Qer _
 ·split<;>first|exact Framed.pure _|exact Qer _
 ·exact Framed.bind (Qfv _ _) fun _=>Framed.bind (Qfv _ _) fun _=>Framed.pure _
 ·exact Framed.pure _
 ·exact Qer _
theorem Qk0 (θ:List (Nat×Nat)): ∀vs:List PV,Framed (Zcd θ vs)
 | []=>Framed.pure _
 |v::vs=>Framed.bind (Qtq θ v) fun _=>Framed.bind (Qk0 θ vs) fun _=>Framed.pure _
theorem Qf0 (θF:List (Nat×Nat)): ∀θ:List (Nat×Nat),Framed (Qgk θF θ)
 | []=>Framed.pure _
 |_::θ=>Framed.bind (Framed.hard _) fun _=>Framed.bind (Framed.ofOpt _) fun _=>Framed.bind (Framed.ok _) fun _=>Framed.bind (Framed.ofOpt _) fun _=>Framed.bind (Qf0 θF θ) fun _=>Framed.pure _
theorem Qhu: ∀ν:List (Nat×Nat),Framed (Qm0 ν)
 | []=>Framed.pure _
 |_::ν=>Framed.bind (Framed.hard _) fun _=>Framed.bind (Framed.ok _) fun _=>Qhu ν
theorem Qne (θ ν:List (Nat×Nat)) (f:FuncId) (args:List PV):Framed (Qfn θ ν f args):=
 Framed.bind (Qk0 _ _) fun _=>Framed.bind (Qf0 _ _) fun _=>Framed.bind (Qhu _) fun _=>Framed.bind (Framed.ok _) fun _=>Framed.pure _
theorem Qq6 (id:Nat) (T:TypeId) (v:PV):Framed (newVar id T v):=by
 unfold newVar;repeat (first|exact Framed.pure _|exact Framed.hard _|exact Framed.ok _|(refine Framed.bind ?_ fun _=> ?_))
theorem Qof (P:Program) (t:TypeId) (x:PV) (lo hi:Option PV):Framed (Qcu P t x lo hi):=by
 unfold Qcu;split<;>repeat (first|exact Framed.pure _|exact Framed.fail|exact Framed.soft _|exact Framed.ok _|exact Framed.ofOpt _|exact Qdo _|(refine Framed.bind ?_ fun _=> ?_)|split|unfold Zce)
theorem Qq7 (P:Program) (id T n:Nat) (parts:Array (Nat×Operand)) (vs:List PV):Framed (Qi7 P id T n parts vs):=by
 unfold Qi7;repeat (first|exact Framed.pure _|exact Framed.fail|exact Framed.soft _|exact Framed.hard _|exact Framed.ok _|exact Framed.ofOpt _|(refine Framed.bind ?_ fun _=> ?_))
theorem Qog (P:Program) (id:Nat) (T T2:TypeId) (s x:PV):Framed (appendD P id T T2 s x):=by
 unfold appendD;repeat (first|exact Framed.pure _|exact Framed.fail|exact Framed.soft _|exact Framed.hard _|exact Framed.ok _|exact Framed.ofOpt _|(refine Framed.bind ?_ fun _=> ?_)|split)
theorem Qoh (P:Program) (id:Nat) (T T2:TypeId) (s x:PV):Framed (Qgn P id T T2 s x):=by
 unfold Qgn;repeat (first|exact Framed.pure _|exact Framed.fail|exact Framed.soft _|exact Framed.hard _|exact Framed.ok _|exact Framed.ofOpt _|exact Qdn _|(refine Framed.bind ?_ fun _=> ?_)|split)
theorem Qoi (P:Program) (id:Nat) (T T2:TypeId) (n:Int):Framed (Qgm P id T T2 n):=by
 unfold Qgm;repeat (first|exact Framed.pure _|exact Framed.fail|exact Framed.hard _|exact Framed.ok _|exact Framed.ofOpt _|(refine Framed.bind ?_ fun _=> ?_))
theorem Qnf (P:Program) (id:Nat) (T T2:TypeId) (s x:PV):Framed (Qdr P id T T2 s x):=by
 unfold Qdr;split
 ·exact Qoi _ _ _ _ _
 ·exact Qoh _ _ _ _ _ _
theorem Qq8 (P:Program) (id:Nat) (T:TypeId):Framed (Qkp P id T):=by
 unfold Qkp;repeat (first|exact Framed.pure _|exact Framed.hard _|exact Framed.ok _|exact Framed.ofOpt _|(refine Framed.bind ?_ fun _=> ?_))
theorem Qq9 (P:Program) (T:TypeId) (b:Nat) (k:PV) (ok:Bool):Framed (Qkq P T b k ok):=by
 unfold Qkq;repeat (first|exact Framed.pure _|exact Framed.hard _|exact Framed.ok _|exact Framed.ofOpt _|(refine Framed.bind ?_ fun _=> ?_))
theorem Qra (P:Program) (T:TypeId) (b:Nat) (k v:PV):Framed (Qhq P T b k v):=by
 unfold Qhq;repeat (first|exact Framed.pure _|exact Framed.fail|exact Framed.hard _|exact Framed.ok _|exact Framed.ofOpt _|exact Qer _|(refine Framed.bind ?_ fun _=> ?_)|split)
theorem Qrb (P:Program) (T:TypeId) (b:Nat) (k:PV):Framed (Qkr P T b k):=by
 unfold Qkr;repeat (first|exact Framed.pure _|exact Framed.fail|exact Framed.hard _|exact Framed.ok _|exact Framed.ofOpt _|(refine Framed.bind ?_ fun _=> ?_)|split)
theorem Qrc (b:Nat) (n:Int) (v:PV):Framed (Qks b n v):=by
 unfold Qks;repeat (first|exact Framed.pure _|exact Framed.fail|exact Framed.hard _|exact Framed.ok _|exact Framed.ofOpt _|exact Qdn _|(refine Framed.bind ?_ fun _=> ?_))
theorem Qng (P:Program) (t:TypeId) (b esz off len:Nat) (l h m:Int):Framed (Qd7 P t b esz off len l h m):=by
 unfold Qd7;repeat (first|exact Framed.pure _|exact Framed.fail|exact Framed.hard _|exact Framed.ok _|exact Framed.ofOpt _|(refine Framed.bind ?_ fun _=> ?_))
theorem Qoj (P:Program) (t:TypeId) (es:List PV) (h m:Int):Framed (Qfp P t es h m):=by
 unfold Qfp;repeat (first|exact Framed.pure _|exact Framed.fail|exact Framed.hard _|exact Framed.ok _|exact Framed.ofOpt _|(refine Framed.bind ?_ fun _=> ?_))
theorem Qtr (P:Program) (ts:Array TypeId):Framed (Qwg P ts):=by
 unfold Qwg;repeat (first|exact Framed.pure _|exact Framed.fail|exact Framed.hard _|exact Framed.ok _|exact Framed.ofOpt _|(refine Framed.bind ?_ fun _=> ?_))
theorem Qrd (P:Program) (id:Nat) (o:Op) (vs:List PV):Framed (Qi9 P id o vs):=by
 unfold Qi9;split<;>first|with_reducible exact Qng _ _ _ _ _ _ _ _ _|with_reducible exact Qoj _ _ _ _ _|with_reducible exact Qtr _ _|with_reducible exact Qq8 _ _ _|with_reducible exact Qq9 _ _ _ _ _|with_reducible exact Qra _ _ _ _ _|with_reducible exact Qrb _ _ _ _|with_reducible exact Qrc _ _ _|with_reducible exact Framed.fail
theorem Qgu (P:Program) (tb:Tab) (id:Nat) (o:Op) (vs:List PV):Framed (Qa6 P tb id o vs):=by
 unfold Qa6;split
 case h_8=>
  cases lkp tb id with
  |none=>repeat (first|exact Framed.pure _|exact Framed.hard _|exact Framed.ok _|exact Framed.ofOpt _|exact Qgt _|(refine Framed.bind ?_ fun _=> ?_))
  |some p=>exact Qq7 _ _ _ _ _ _
 case h_28=>
  refine Framed.bind (Framed.ofOpt _) fun _=>Framed.bind (Framed.ofOpt _) fun _=>Framed.bind (Framed.ok _) fun _=> ?_;cases lkp tb id with
  |none=>exact Qnf _ _ _ _ _ _
  |some p=>exact Qog _ _ _ _ _ _
 all_goals repeat (first|exact Framed.pure _|exact Framed.fail|exact Framed.soft _|exact Framed.hard _|exact Framed.ok _|exact Framed.ofOpt _|exact Qfu _|exact Qgt _|exact Qgs _|exact Qq6 _ _ _|exact Qof _ _ _ _ _|exact Qne _ _ _ _|exact Qto _ _ _ _|exact Qq5 _ _ _ _|exact Qoe _ _ _|exact Qrd _ _ _ _|(refine Framed.bind ?_ fun _=> ?_)|split)
end Go.Vl
