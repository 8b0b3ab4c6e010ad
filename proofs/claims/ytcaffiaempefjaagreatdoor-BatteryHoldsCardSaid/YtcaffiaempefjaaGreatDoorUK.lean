/-
  UI2, UB4, UJ, UK (merged for the claim).
-/
import Derived.Test.YtcaffiaempefjaaGreatDoorUI
import Derived.Test.YtcaffiaempefjaaGreatDoorUB3
set_option linter.unusedSimpArgs false
set_option linter.unusedVariables false
namespace Go.Vl
open Go.RowKit
theorem Qjc {st:St} {b:Nat} {B:Box} (h:st.box b=some B):st.setBox b B=st:=by
 refine St.ext'' rfl ?_ rfl rfl;funext k;simp only [St.setBox,upd];split
 ·rename_i e;subst e;exact h.symm
 ·rfl
section
variable {C:Ctx} {st:St} {a:Act} {w:World} {ρ:Rho} {im:Im} {o:Oper}
theorem Qo8 {P:Program} {xs:List PV} {u:Value} {sz n:Nat} (h:Rep w im (.slc xs) u) (hz: ∀e∈xs,e.cells.length=sz) (hn:n≤xs.length):
  ∃vs,(Builtin.firstCells sz n u).run P w= .ok vs.toArray w∧RepL w im ((xs.take n).flatMap PV.cells) vs∧(Builtin.lenOf u).run P w= .ok xs.length w:=by
 rcases h.slc_cells with⟨rfl,c,rfl⟩|⟨A,cap,vs,sz',rfl,_,hz',hc,hr,_⟩
 ·refine⟨[],by simp [Builtin.firstCells],by simp;exact .nil,by simp [Builtin.lenOf]⟩
 ·have hvl:vs.length=xs.length*sz:=by rw [←hr.length,Qa1 hz]
  have hmul:n*sz≤xs.length*sz:=Nat.mul_le_mul_right _ hn;refine⟨vs.take (n*sz),?_,?_,by simp [Builtin.lenOf]⟩
  ·have:=run_loadCells_list (P:=P) w A (vs.take (n*sz)) (by
    intro j v hv;rw [List.getElem?_take]at hv;split at hv
    ·exact hc j v hv
    ·cases hv)
   have hl:(vs.take (n*sz)).length=n*sz:=by simp;omega
   rw [hl]at this;simp [Builtin.firstCells,this]
  ·have:=hr.take (n*sz)
   rwa [Qff n hz]at this
theorem Zc2 {t ty:TypeId} {d x r:PV} {ud ux:Value} {es:List Eff} {l:Acc} {sem:Sem Next} (h:Rel' C st a w ρ im) (hd:LR w im ρ d ud) (hx:LR w im ρ x ux) {ts:Array TypeId} (hts:ts[0]? =some t)
  (hrun: ∀v w',(Builtin.copy_ ts ty #[ud,ux]).run C.P w= .ok v w'→sem.run C.P w= .ok (.value v) w') (he:Qj9 C.P t d x st.box=some (.done r es,l)):Does C (Qao es st) a w sem r:=by
 unfold Qj9 at he;obtain⟨E,_,_,e1,e2,_⟩:=M.bind_some he;obtain⟨c1,_⟩:=M.ofOpt_some e1;obtain⟨q,_,_,e3,e4,_⟩:=M.bind_some e2;obtain⟨c2,_⟩:=M.ofOpt_some e3;obtain⟨⟨y,fs⟩,_,_,e5,e6,_⟩:=M.bind_some e4;obtain⟨im1,g1,r1⟩:=Qke h (fun _=>rfl) hx e5;have hT:=Qcg c1;obtain⟨i,hi,hi1,_⟩:=Qbz c2;cases y with
 |slc xs=>
  cases d with
  |bs b esz off len=>
   obtain⟨Bo,_,_,e7,e8,_⟩:=M.bind_some e6;obtain⟨rfl,_⟩:=M.hard_some e7;obtain⟨B,_,_,e9,e10,_⟩:=M.bind_some e8;obtain⟨hB,_⟩:=M.ofOpt_some e9;obtain⟨_,_,_,e11,e12,_⟩:=M.bind_some e10;obtain⟨c3,_⟩:=M.ok_some e11;obtain⟨_,_,_,e13,e14,_⟩:=M.bind_some e12;obtain⟨c4,_⟩:=M.ok_some e13;obtain⟨e15,_⟩:=M.pure_some e14;cases e15;simp only [List.all_eq_true,Bool.and_eq_true,beq_iff_eq]at c3 c4;obtain⟨⟨⟨⟨⟨d1,d2⟩,d3⟩,d4⟩,d5⟩,d6⟩:=c4;have d5:=Nat.le_of_ble_eq_true d5;have d6:=Nat.le_of_ble_eq_true d6;obtain⟨vs,k1,k2,k3⟩:=Qo8 (P:=C.P) (n:=min xs.length len) r1 (fun e he=>(c3 e he).1) (Nat.min_le_left _ _);have hfl:((xs.take (min xs.length len)).flatMap PV.cells).all flatc=true:=by
    rw [List.all_eq_true];intro v hv;obtain⟨e,he,hv⟩:=List.mem_flatMap.1 hv;exact(c3 e (List.mem_of_mem_take he)).2 v hv
   have hok:((xs.take (min xs.length len)).flatMap PV.cells).all PV.okCell=true:=by
    rw [List.all_eq_true]at hfl ⊢;exact fun v hv=>Q0d (hfl v hv)
   have k2':RepL w im ((xs.take (min xs.length len)).flatMap PV.cells) vs:=Qlq hfl k2;have hlen:(xs.take (min xs.length len)).length=min xs.length len:=by simp
   have hxz: ∀e∈xs.take (min xs.length len),e.cells.length=B.esz:=fun e he=>by rw [(c3 e (List.mem_of_mem_take he)).1,d4,d3]
   rcases hd.bs_inv with⟨eρ,⟨x0,rfl⟩,rfl,rfl⟩|⟨g,cap,cur,e',hg,rfl,hob,hcp,hlc,hmx⟩
   ·have hbox:=h.box b none B eρ hB;have hl0:vs=[]:=by
     have:=k2'.length;rw [Qa1 hxz]at this;simp at this;exact List.length_eq_zero_iff.1 this.symm
    subst hl0;refine⟨.int .i64 (min xs.length 0:Nat),w,ρ,im,.inl (hrun _ _ ?_),?_,.ext _ _ (.int _ _)⟩
    ·simp only [Builtin.copy_,List.getElem?_toArray,hts];cases x0 with
     |none=>simp [run_underlying hT,Qbg hi,hi1,k3,goInt];simp [hi1]at k1;simp [k1]
     |some p=>simp [run_underlying hT,Qbg hi,hi1,k3,goInt];simp [hi1]at k1;simp [k1,storeCells]
    ·have:B.over 0 (xs.take (min xs.length 0))=B:=by simp [Box.over]
     rw [this];simp only [Qao,List.foldl_cons,List.foldl_nil,Eff.on];have hs:st.setBox b B=st:=Qjc hB;rw [hs];exact h
   ·obtain⟨cur',m1,m2,m3⟩:=h.over (xs:=xs.take (min xs.length len)) hg hB d1 d5 (by rw [hlen];exact d6) hxz hok k2';rw [hob]at m1;cases m1;have hst:=run_storeCells_at C.P g (off*B.esz) B.ety vs 0 cur w hob (by simpa using m2) ((k2'.toLRL (ρ:=ρ)).oneCells hok);simp only [Nat.add_zero]at hst;refine⟨.int .i64 (min xs.length len:Nat),_,ρ,im,.inl (hrun _ _ ?_),m3,.ext _ _ (.int _ _)⟩;rw [←d3];simp only [Builtin.copy_,List.getElem?_toArray,hts];rw [←hi1]at k1;simp [run_underlying hT,Qbg hi,k3,goInt];rw [List.append_assoc]at hst;rw [show xs.length.min len=min xs.length len from rfl,k1];simp only [Result.andThen_ok,hst]
  |_=>cases e6
 |_=>cases e6
theorem Q3x {t ty:TypeId} {d r:PV} {ud:Value} {es:List Eff} {l:Acc} {sem:Sem Next} (h:Rel' C st a w ρ im) (hd:LR w im ρ d ud) {ts:Array TypeId} (hts:ts[0]? =some t)
  (hrun: ∀w',(Builtin.clear_ ts ty #[ud]).run C.P w= .ok (.tuple #[]) w'→sem.run C.P w= .ok (.value (.tuple #[])) w') (he:Qg1 C.P t d st.box=some (.done r es,l)):Does C (Qao es st) a w sem r:=by
 unfold Qg1 at he;obtain⟨E,_,_,e1,e2,_⟩:=M.bind_some he;obtain⟨c1,_⟩:=M.ofOpt_some e1;obtain⟨q,_,_,e3,e4,_⟩:=M.bind_some e2;obtain⟨c2,_⟩:=M.ofOpt_some e3;obtain⟨z,_,_,e5,e6,_⟩:=M.bind_some e4;obtain⟨cz,_⟩:=M.ofOpt_some e5;have hT:=Qcg c1;obtain⟨i,hi,hi1,_⟩:=Qbz c2;obtain⟨i',zv,hz1,hz2,hz3⟩:=Qdk cz;rw [hi]at hz1;cases hz1;cases d with
 |bs b esz off len=>
  obtain⟨Bo,_,_,e7,e8,_⟩:=M.bind_some e6;obtain⟨rfl,_⟩:=M.hard_some e7;obtain⟨B,_,_,e9,e10,_⟩:=M.bind_some e8;obtain⟨hB,_⟩:=M.ofOpt_some e9;obtain⟨_,_,_,e11,e12,_⟩:=M.bind_some e10;obtain⟨c3,_⟩:=M.ok_some e11;obtain⟨_,_,_,e13,e14,_⟩:=M.bind_some e12;obtain⟨c4,_⟩:=M.ok_some e13;obtain⟨e15,_⟩:=M.pure_some e14;cases e15;simp only [Bool.and_eq_true,beq_iff_eq]at c3 c4;obtain⟨⟨⟨⟨⟨d1,d2⟩,d3⟩,d4⟩,d5⟩,d6⟩:=c4;have d5:=Nat.le_of_ble_eq_true d5;have d6:=Nat.le_of_ble_eq_true d6;have hok1:Qbn z.cells=true:=by
   have:=c3.2;simp only [Qbn,List.all_eq_true]at this ⊢;exact fun v hv=>Q0d (this v hv)
  have hrep:=(Qdj (w:=w) (im:=im) hz3).cells hok1;have hzl:=hrep.length;rw [c3.1]at hzl;have hzs:zv.cells.size=q.1:=by simpa using hzl.symm
  have hrepl: ∀m,RepL w im ((List.replicate m z).flatMap PV.cells) (List.replicate m zv.cells.toList).flatten:=by
   intro m
   induction m with
   |zero=>exact .nil
   |succ m ih=>
    rw [List.replicate_succ,List.replicate_succ,List.flatMap_cons,List.flatten_cons];exact hrep.append ih
  have hxz: ∀e∈List.replicate len z,e.cells.length=B.esz:=fun e he=>by rw [List.eq_of_mem_replicate he,c3.1,d4,d3]
  have hok:=Qeo (vs:=List.replicate len z) fun e he=>by rw [List.eq_of_mem_replicate he];exact hok1
  have hzero: ∀m,(Builtin.zeroCells zv.cells m).toList=(List.replicate m zv.cells.toList).flatten:=by
   intro m;apply List.ext_getElem?;intro k;have hget: ∀m k,(List.replicate m zv.cells.toList).flatten[k]? =if k<m*q.1 then zv.cells[k%q.1]? else none:=by
    intro m
    induction m with
    |zero=>intro k;simp
    |succ m ih=>
     intro k;rw [List.replicate_succ,List.flatten_cons];by_cases hk:k<q.1
     ·rw [List.getElem?_append_left (by simp;omega),if_pos (by rw [Nat.succ_mul];omega),Nat.mod_eq_of_lt hk,Array.getElem?_toList]
     ·rw [List.getElem?_append_right (by simp;omega)];simp only [Array.length_toList,hzs];rw [ih,Nat.succ_mul];have:(k-q.1)%q.1=k%q.1:=by
       conv=>rhs;rw [←Nat.sub_add_cancel (Nat.le_of_not_lt hk),Nat.add_mod_right]
      rw [this];by_cases hk2:k-q.1<m*q.1
      ·rw [if_pos hk2,if_pos (by omega)]
      ·rw [if_neg hk2,if_neg (by omega)]
   rw [hget];simp only [Builtin.zeroCells,Array.toList_map,List.getElem?_map,Array.getElem?_toList,Array.getElem?_range];by_cases hk:k<m*q.1
   ·have hq:0<q.1:=Nat.pos_of_ne_zero fun e=>by rw [e,Nat.mul_zero]at hk;omega
    have hlt:k%q.1<zv.cells.size:=by rw [hzs];exact Nat.mod_lt _ hq
    simp [hk,hzs];rw [hzs]at hlt;simp [hzs,hlt]
   ·simp [hk,hzs]
  rcases hd.bs_inv with⟨eρ,⟨x0,rfl⟩,rfl,rfl⟩|⟨g,cap,cur,e',hg,rfl,hob,hcp,hlc,hmx⟩
  ·refine⟨.tuple #[],w,ρ,im,.inl (hrun _ ?_),?_,.ext _ _ (.tup [] [] .nil)⟩
   ·simp only [Builtin.clear_,List.getElem?_toArray,hts];cases x0 with
    |none=>simp [run_underlying hT]
    |some p=>simp [run_underlying hT]
   ·have:B.over 0 (List.replicate 0 z)=B:=by simp [Box.over]
    rw [this];simp only [Qao,List.foldl_cons,List.foldl_nil,Eff.on];have hs:st.setBox b B=st:=Qjc hB;rw [hs];exact h
  ·obtain⟨cur',m1,m2,m3⟩:=h.over (xs:=List.replicate len z) hg hB d1 d5 (by simpa using d6) hxz hok (hrepl len);rw [hob]at m1;cases m1;have hst:=run_storeCells_at C.P g (off*B.esz) B.ety _ 0 cur w hob (by simpa using m2) (((hrepl len).toLRL (ρ:=ρ)).oneCells hok);simp only [Nat.add_zero]at hst;by_cases hl0:len=0
   ·subst hl0;refine⟨.tuple #[],w,ρ,im,.inl (hrun _ ?_),?_,.ext _ _ (.tup [] [] .nil)⟩
    ·simp only [Builtin.clear_,List.getElem?_toArray,hts];simp [run_underlying hT]
    ·have:B.over off (List.replicate 0 z)=B:=by simp [Box.over]
     rw [this];simp only [Qao,List.foldl_cons,List.foldl_nil,Eff.on];have hs:st.setBox b B=st:=Qjc hB;rw [hs];exact h
   ·refine⟨.tuple #[],_,ρ,im,.inl (hrun _ ?_),m3,.ext _ _ (.tup [] [] .nil)⟩;rw [←d3];simp only [Builtin.clear_,List.getElem?_toArray,hts];cases len with
    |zero=>exact absurd rfl hl0
    |succ len=>
     rw [←hzero]at hst ⊢;simp only [List.getElem?_cons_zero];simp [run_underlying hT,Qit hi hz2];rw [List.append_assoc]at hst;rw [hst];simp
 |_=>cases e6
theorem Qom {P:Program} {f:Value→ByteArray→Sem (ForInStep ByteArray)} (hf: ∀n s,f (.int .u8 n) s=pure (.yield (s.push (UInt8.ofNat n.toNat)))): ∀(xs:List PV) (bs:List UInt8) (us:List Value) (s:ByteArray),Qes xs=some bs→RepL w im xs us→
  (forIn us s f).run P w= .ok ⟨s.data++bs.toArray⟩ w
 | [],bs,us,s,h,hr=>by
  simp [Qes]at h;subst h;cases hr;simp
 |x::xs,bs,us,s,h,hr=>by
  unfold Qes at h;split at h
  ·rename_i e;cases e
  ·rename_i n xs' e;cases e;split at h
   ·rename_i bs' hb;cases h;cases hr with
    |cons _ u _ us h1 t=>
     cases h1;have ih:=Qom (P:=P) hf xs bs' us (s.push (UInt8.ofNat n.toNat)) hb t;simp only [List.forIn_cons,Sem.run_bind,hf,Sem.run_pure,Result.andThen_ok];rw [ih];congr 2;simp [ByteArray.push]
   ·cases h
  ·cases h
theorem Zc3 {s d:TypeId} {x:Operand} {v r:PV} {es:List Eff} {l:Acc} (ho:o.op= .convert s d x) (h:Rel' C st a w ρ im) (hx:LR w im ρ v (a.eval x)) (he:Qsg C.P s d v st.box=some (.done r es,l)):Does C (Qao es st) a w (execOp a.eval o) r:=by
 unfold Qsg at he;revert he;cases hv:Qod C.P s d v with
 |some v'=>
  intro he;obtain⟨e,_⟩:=M.pure_some he;cases e;exact Qbl h (Zcw ho hx hv)
 |none=>
  intro he;obtain⟨_,_,_,e1,e2,_⟩:=M.bind_some he;obtain⟨c1,_⟩:=M.ok_some e1;obtain⟨⟨y,fs⟩,_,_,e3,e4,_⟩:=M.bind_some e2;obtain⟨im1,g1,r1⟩:=Qke h (fun _=>rfl) hx e3;cases y with
  |slc xs=>
   obtain⟨bs,_,_,e5,e6,_⟩:=M.bind_some e4;obtain⟨c2,_⟩:=M.ofOpt_some e5;obtain⟨e7,_⟩:=M.pure_some e6;cases e7;unfold Qxo at c1;split at c1
   ·rename_i e hd hs;split at c1
    ·rename_i he8;refine⟨.string ⟨bs.toArray⟩,w,ρ,im,.inl ?_,h,.ext _ _ (.str _)⟩;have hone: ∀e∈xs,e.cells.length=1:=by
      have: ∀(xs:List PV) (bs:List UInt8),Qes xs=some bs→ ∀e∈xs,e.cells.length=1:=by
       intro xs
       induction xs with
       |nil=>simp
       |cons x xs ih=>
        intro bs hb e he;unfold Qes at hb;split at hb
        ·rename_i q;cases q
        ·rename_i q;cases q;split at hb
         ·rename_i hb2;rcases List.mem_cons.1 he with rfl|he
          ·rfl
          ·exact ih _ hb2 e he
         ·cases hb
        ·cases hb
      exact this xs bs c2
     have hflat:xs.flatMap PV.cells=xs:=by
      have: ∀(xs:List PV) (bs:List UInt8),Qes xs=some bs→xs.flatMap PV.cells=xs:=by
       intro xs
       induction xs with
       |nil=>simp
       |cons x xs ih=>
        intro bs hb;unfold Qes at hb;split at hb
        ·rename_i q;cases q
        ·rename_i q;cases q;split at hb
         ·rename_i hb2;rw [List.flatMap_cons,ih _ hb2];rfl
         ·cases hb
        ·cases hb
      exact this xs bs c2
     rcases r1.slc_cells with⟨rfl,c,hu⟩|⟨A,cap,vs,sz',hu,_,hz',hc,hr,_⟩
     ·simp [Qes]at c2;subst c2;simp only [execOp,ho,hu];simp [convert,run_underlying hs,run_underlying hd,run_underlying he8,Conv.bytesToString];rfl
     ·rw [hflat]at hr;have hl:=run_loadCells_list (P:=C.P) w A vs hc;rw [←hr.length]at hl;simp only [execOp,ho,hu];simp [convert,run_underlying hs,run_underlying hd,run_underlying he8,Conv.bytesToString,hl];rw [Qom (fun _ _=>rfl) xs bs vs ByteArray.empty c2 hr];simp only [Result.andThen_ok];congr 4;exact Array.empty_append
    ·cases c1
   ·cases c1
  |_=>cases e4
end
theorem Qea.of_newL {own:Nat→Prop} {w:World} {im:Im} {ρ:Rho} {B:Box} {g:Nat} {us rest:List Value} (hb:own g) (hg:w.heap[g]? =some (Obj.cells (us++rest).toArray B.ety (0,0)))
  (hf:B.fro≤B.els.length) (hz:0<B.esz) (he: ∀e∈B.els,e.cells.length=B.esz) (hr:LRL w im ρ (B.els.flatMap PV.cells) us) (ha:B.arr=false) (ho: ∀u∈us,u.oneCell'=true)
  (hi: ∀j,j<B.fro*B.esz→im g j) (hl:B.live=true) (hni: ∀j,B.fro*B.esz≤j→ ¬im g j):Qea own w im ρ B (some g):=
 ⟨hb,hf,hz,he,(us++rest).toArray,us,rest,hg,by simp,hr,fun(e:B.arr=true)=>absurd (ha.symm.trans e) (by decide),ho,fun j _ hh=>hi j (hh.elim id fun x=>by rw [hl]at x;cases x),fun _=>hni⟩
theorem Rel'.append_newD {C:Ctx} {st:St} {a:Act} {w:World} {ρ:Rho} {im:Im} (h:Rel' C st a w ρ im) {id:Nat} {els:List PV} {esz E:Nat} {us rest:List Value}
  (hidL:id<LENT) (hid:st.box id=none) (hz:0<esz) (he: ∀e∈els,e.cells.length=esz) (hr:LRL w im ρ (els.flatMap PV.cells) us) (ho:(els.flatMap PV.cells).all PV.okCell=true)
  (n cap:Nat) (hn:n≤els.length) (hlen:els.length≤cap) (hcap:cap*esz≤us.length+rest.length) (hm:cap≤maxLen):
  ∃ρ' im',Rel' C (st.setBox id {els:=els,esz:=esz,ety:=E,fro:=n,live:=true,arr:=false}) a (w.drew.alloc (.cells (us++rest).toArray E)) ρ' im'∧
   LR (w.drew.alloc (.cells (us++rest).toArray E)) im' ρ' (.bs id esz 0 els.length) (.slice (some ⟨w.heap.size,0,none⟩) els.length cap):=by
 have hbl:Below w.heap.size w (w.drew.alloc (.cells (us++rest).toArray E)):=((Below.refl _ _).drew).alloc (Nat.le_refl _) _;have hg:(w.drew.alloc (.cells (us++rest).toArray E)).heap[w.heap.size]? =some (Obj.cells (us++rest).toArray E (0,0)):=heap_alloc_new w.drew _;generalize hw':w.drew.alloc (.cells (us++rest).toArray E)=w' at*;have h':=h.below_call hbl;have hk:Keeps im w w':=Keeps.of_below hbl h.imc;have hni: ∀j,¬im w.heap.size j:=fun j hj=>by
  obtain⟨u,hu⟩:=h.imc _ _ hj;have:=World.block_lt_of_cell? w _ hu;simp at this
 have hul:us.length=els.length*esz:=by rw [←hr.length,Qa1 he]
 have hnb:n*esz≤els.length*esz:=Nat.mul_le_mul_right _ hn;have h2:Rel' C st a w' ρ (fun g j=>im g j∨(g=w.heap.size∧j<n*esz)):=by
  refine h.grow (.of_below hbl) hk h' (fun _ _ x=> .inl x) ?_;rintro g j (x|⟨rfl,x⟩)
  ·exact .inl x
  ·refine .inr ⟨Nat.le_refl _,⟨us[j]'(by omega),?_⟩,fun b hb=> ?_⟩
   ·rw [cell_of_row _ _ _ _ _ _ hg,List.getElem?_toArray,List.getElem?_append_left (by omega)];simp
   ·have:=(h.block_lt hb).1;omega
 have hB:Qea C.own w' (fun g j=>im g j∨(g=w.heap.size∧j<n*esz)) ρ {els:=els,esz:=esz,ety:=E,fro:=n,live:=true,arr:=false} (some w.heap.size):=
  Qea.of_newL (us:=us) (rest:=rest) (.inl h.root.below.size) hg hn hz he (hr.mono hk (fun _ _ x=> .inl x) fun _ _ x=>x) rfl (hr.oneCells ho) (fun j hj=> .inr ⟨rfl,hj⟩) rfl
   (fun j hj x=>x.elim (hni j) fun y=>by have:=y.2;simp at hj;omega)
 obtain⟨h3,h4⟩:=h.addBox ⟨.of_below hbl,hk,fun _ x=> .inl x,fun _ _ x=> .inl x,fun g j x=>x.elim .inl fun y=> .inr (.inr (Nat.le_of_eq y.1.symm))⟩ h2 hidL hid _ _ (fun g e=> .inr (by cases e;exact Nat.le_refl _)) hB (fun b' g B' e1 e2 _=>by cases e1;have:=(h.block_lt e2).1;omega);refine⟨_,_,h3,?_⟩;exact .bs id esz 0 els.length w.heap.size 0 cap _ E (Qaw _ _ _) hg (by simp) (by simp;omega) hlen hm
theorem Rel'.appendD {C:Ctx} {st:St} {a:Act} {w:World} {ρ:Rho} {im:Im} (h:Rel' C st a w ρ im) {b id:Nat} {B:Box} {T ty:TypeId} {i:TypeInfo} {z:Value} {xs:List PV} {u:Value} {Ax:Addr} {capx:Nat} {vsx:List Value}
  (ht:C.P.underlying T=some (.slice B.ety)) (hi:C.P.info? B.ety=some i) (hz:i.zero=some z) (hsz:i.size=B.esz) (hzs:z.cells.size=i.size)
  (hB:st.box b=some B) (hl:B.live=true) (hu:LR w im ρ (.bs b B.esz 0 B.els.length) u) (hcx: ∀j v,vsx[j]? =some v→w.cell? (Ax.add j)=some v) (hrx:LRL w im ρ (xs.flatMap PV.cells) vsx) (hxs:xs≠ []) (hBs:B.els≠ [])
  (hxz: ∀e∈xs,e.cells.length=B.esz) (hok:(B.els.flatMap PV.cells).all PV.okCell=true) (hokx:(xs.flatMap PV.cells).all PV.okCell=true)
  (hidL:id<LENT) (hid:st.box id=none) (hby:(B.els.length+xs.length)*i.bytes≤140737488355328) (h63:B.els.length+xs.length≤maxLen):
  ∃v' w' ρ' im',(Builtin.append_ #[T,T] ty #[u,.slice (some Ax) xs.length capx]).run C.P w= .ok v' w'∧
   Rel' C ((st.setBox b {B with els:=[],fro:=0,live:=false}).setBox id {els:=B.els++xs,esz:=B.esz,ety:=B.ety,fro:=B.fro,live:=true,arr:=false}) a w' ρ' im'∧
   LR w' im' ρ' (.bs id B.esz 0 (B.els.length+xs.length)) v':=by
 have hsmall:((B.els.length+xs.length:Nat):Int)≤9223372036854775807:=by simp only [maxLen]at h63;omega
 have hbid:id≠b:=by rintro rfl;rw [hB]at hid;cases hid
 cases hr0:ρ b with
 |none=>rw [(h.rho b).1 hr0]at hB;cases hB
 |some loc=>
 have hbox:=h.box b loc B hr0 hB;have h1:=h.stale hr0 hB;generalize hst1:st.setBox b {B with els:=[],fro:=0,live:=false}=st1 at*;have hid1:st1.box id=none:=by rw [←hst1];simp [St.setBox,Qar _ _ _ _ hbid,hid]
 have hdead: ∀b' g B',loc=some g→ρ b'=some (some g)→st1.box b'=some B'→B'.live=false:=by
  intro b' g B' e1 e2 e3;by_cases y:b'=b
  ·subst y;rw [←hst1]at e3;simp only [St.setBox,Qaw,Option.some.injEq]at e3;rw [←e3]
  ·rw [←hst1]at e3;simp only [St.setBox,Qar _ _ _ _ y]at e3;cases hBl:B'.live with
   |false=>rfl
   |true=>exact absurd (h.inj b' b g B' B e2 (by rw [hr0,e1]) e3 hB hBl hl) y
 have hlenapp:(B.els++xs).length=B.els.length+xs.length:=by simp
 have heall:0<B.esz∧(∀e∈B.els,e.cells.length=B.esz):=by
  cases loc with
  |none=>obtain⟨z1,_,_,z4⟩:=hbox;exact⟨z4,by rw [z1];simp⟩
  |some g=>obtain⟨_,_,h3,h4,_⟩:=hbox;exact⟨h3,h4⟩
 have heapp: ∀e∈B.els++xs,e.cells.length=B.esz:=by
  intro e he;rcases List.mem_append.1 he with y|y
  ·exact heall.2 e y
  ·exact hxz e y
 have hokapp:((B.els++xs).flatMap PV.cells).all PV.okCell=true:=by rw [Qfg,List.all_append,hok,hokx];rfl
 have himp: ∀g j,im g j→im g j:=fun _ _ y=>y;have hvl:vsx.length=xs.length*B.esz:=by rw [←hrx.length,Qa1 hxz]
 have hox: ∀v∈vsx,v.oneCell'=true:=hrx.oneCells hokx;cases loc with
 |none=>exact absurd hbox.1 hBs
 |some g=>
  obtain⟨b1,b2,b3,b4,cur,us,rest,b5,b6,b7,b8,b9,b10,b11⟩:=hbox;obtain⟨cap,hu0,hcap1,hcap2,hcap3⟩: ∃cap,u= .slice (some ⟨g,0,none⟩) B.els.length cap∧cap*B.esz≤cur.size∧B.els.length≤cap∧cap≤maxLen:=by
   rcases hu.bs_inv with⟨hh,_⟩|⟨g',cap,cur',e,hh,e1,ho,hc,hl',hm⟩
   ·rw [hr0]at hh;cases hh
   ·rw [hr0]at hh;cases hh;rw [b5]at ho;cases ho;rw [Nat.zero_mul]at e1;exact⟨cap,e1,by simpa using hc,hl',hm⟩
  subst hu0;have hul:us.length=B.els.length*B.esz:=by rw [←b7.length,Qa1 b4]
  have hcs:cur.size=us.length+rest.length:=by rw [←Array.length_toList,b6];simp
  have hrepB:LRL w im ρ (B.els.flatMap PV.cells) us:=b7;have happ:LRL w im ρ ((B.els++xs).flatMap PV.cells) (us++vsx):=by
   rw [Qfg];exact hrepB.append hrx
  by_cases hroom:B.els.length+xs.length≤cap
  ·have hmulr:(B.els.length+xs.length)*B.esz≤cap*B.esz:=Nat.mul_le_mul_right _ hroom;have hsum:(B.els.length+xs.length)*B.esz=B.els.length*B.esz+xs.length*B.esz:=Nat.add_mul _ _ _;have hrun:=run_append_room (P:=C.P) w T ty B.ety i ht hi g B.els.length cap cur b5 Ax xs.length capx vsx (by rw [hsz];exact hvl) hcx hox hroom (by rw [hsz];omega);rw [hsz]at hrun;have hcur':(cur.toList.take (B.els.length*B.esz)++vsx++cur.toList.drop (B.els.length*B.esz+vsx.length))=(us++vsx)++cur.toList.drop (B.els.length*B.esz+vsx.length):=by
    congr 2;rw [b6,←hul];simp
   rw [hcur']at hrun;have hsz':((us++vsx)++cur.toList.drop (B.els.length*B.esz+vsx.length)).toArray.size=cur.size:=by simp;omega
   have hk:Keeps im w (w.setRow g ((us++vsx)++cur.toList.drop (B.els.length*B.esz+vsx.length)).toArray):=by
    refine Keeps.setRow b5 hsz' ?_;intro j hj;have hj':j<B.els.length*B.esz:=by
     rcases Nat.lt_or_ge j (B.fro*B.esz)with y|y
     ·have:B.fro*B.esz≤B.els.length*B.esz:=Nat.mul_le_mul_right _ b2;omega
     ·exact absurd hj (b11 hl j y)
    rw [←hcur',List.getElem?_toArray,Qge _ _ _ _ (by simp;omega) (.inl hj'),Array.getElem?_toList]
   have hg':=setRow_heap w g cur ((us++vsx)++cur.toList.drop (B.els.length*B.esz+vsx.length)).toArray B.ety _ b5;have hlr:=Lent.setRow (w:=w) (X:=Own ρ) ⟨b,hr0⟩ w.heap.size ((us++vsx)++cur.toList.drop (B.els.length*B.esz+vsx.length)).toArray;have h2:=h1.world (w':=w.setRow g ((us++vsx)++cur.toList.drop (B.els.length*B.esz+vsx.length)).toArray) hlr hk (by
    intro b' g' B' e1 e2 e3;by_cases y:g'=g
    ·subst y;rw [hdead b' g' B' rfl e1 e2]at e3;cases e3
    ·exact Qcr w g g' _ y)
   have hBA:Qea C.own (w.setRow g ((us++vsx)++cur.toList.drop (B.els.length*B.esz+vsx.length)).toArray) im ρ
     {els:=B.els++xs,esz:=B.esz,ety:=B.ety,fro:=B.fro,live:=true,arr:=false} (some g):=
    Qea.of_newL (B:={els:=B.els++xs,esz:=B.esz,ety:=B.ety,fro:=B.fro,live:=true,arr:=false}) (us:=us++vsx) (rest:=cur.toList.drop (B.els.length*B.esz+vsx.length)) b1 hg' (by simp;omega) b3 heapp (happ.mono hk (fun _ _ y=>y) fun _ _ y=>y) rfl
     (by
      intro v hv;rcases List.mem_append.1 hv with y|y
      ·exact b9 v y
      ·exact hox v y) (fun j hj=>b10 j (by
        have:B.fro*B.esz≤B.els.length*B.esz:=Nat.mul_le_mul_right _ b2;have hj':j<B.fro*B.esz:=hj;omega) (.inl hj)) rfl (by
      intro j hj y;exact b11 hl j hj y)
   obtain⟨h3,h4⟩:=h1.addBox ⟨hlr,hk,fun _ x=> .inl x,fun _ _ x=>x,fun _ _ x=> .inl x⟩ h2 hidL hid1 _ _ (fun g' e=> .inl ⟨b,by rw [hr0,e]⟩) hBA hdead;refine⟨_,_,_,_,hrun,h3,?_⟩;exact .bs id B.esz 0 (B.els.length+xs.length) g 0 cap _ B.ety (Qaw _ _ _) hg' (by simp) (by rw [hsz'];omega) hroom hcap3
  ·have holds: ∀j v,us[j]? =some v→w.cell? ((⟨g,0,none⟩:Addr).add j)=some v:=by
    intro j v hv;have hj:j<us.length:=(List.getElem?_eq_some_iff.1 hv).1;have:(⟨g,0,none⟩:Addr).add j=⟨g,j,none⟩:=by unfold Addr.add;split<;>simp_all
    rw [this,cell_of_row _ _ _ _ _ _ b5,←Array.getElem?_toList,b6,List.getElem?_append_left hj,hv]
   have hrun:=run_append_grow (P:=C.P) w T ty B.ety i z ht hi hz ⟨g,0,none⟩ B.els.length cap us (by rw [hsz];exact hul) holds Ax xs.length capx vsx (by rw [hsz];exact hvl) hcx
    (by omega) hsmall (growslice_fits (by omega) hby)
   have hcapg:=grownCap_ge w (B.els.length+xs.length) cap B.ety;have hcapm:=grownCap_le_maxLen w (B.els.length+xs.length) cap B.ety h63;have hzc:(Builtin.zeroCells z.cells (grownCap w (B.els.length+xs.length) cap B.ety-(B.els.length+xs.length))).size=(grownCap w (B.els.length+xs.length) cap B.ety-(B.els.length+xs.length))*B.esz:=by rw [size_zeroCells,hzs,hsz]
   generalize grownCap w (B.els.length+xs.length) cap B.ety=ncap at*;generalize Builtin.zeroCells z.cells (ncap-(B.els.length+xs.length))=zc at*;have harr:us.toArray++vsx.toArray++zc=((us++vsx)++zc.toList).toArray:=by apply Array.ext';simp
   rw [harr]at hrun;have hmul:ncap*B.esz=(B.els.length+xs.length)*B.esz+(ncap-(B.els.length+xs.length))*B.esz:=by rw [←Nat.add_mul];congr 1;omega
   have hsum:(B.els.length+xs.length)*B.esz=B.els.length*B.esz+xs.length*B.esz:=Nat.add_mul _ _ _;obtain⟨ρ',im',e1,e2⟩:=h1.append_newD (els:=B.els++xs) (E:=B.ety) (us:=us++vsx) (rest:=zc.toList) hidL hid1 b3 heapp happ hokapp B.fro ncap
    (by simp;omega) (by rw [hlenapp];omega) (by simp;omega) hcapm
   rw [hlenapp]at e2;exact⟨_,_,ρ',im',hrun,e1,e2⟩
theorem Rel'.append_nil {C:Ctx} {st:St} {a:Act} {w:World} {ρ:Rho} {im:Im} (h:Rel' C st a w ρ im) {id:Nat} (hidL:id<LENT) {T ty E:TypeId} {i:TypeInfo} {z:Value} {xs:List PV} {x:Value}
  (ht:C.P.underlying T=some (.slice E)) (hi:C.P.info? E=some i) (hz:i.zero=some z) (hs:0<i.size) (hzs:z.cells.size=i.size)
  (hx:Rep w im (.slc xs) x) (hxz: ∀e∈xs,e.cells.length=i.size) (hokx:(xs.flatMap PV.cells).all PV.okCell=true)
  (hid:st.box id=none) (hby:xs.length*i.bytes≤140737488355328) (h63:xs.length≤maxLen):
  ∃v' w' ρ' im',(Builtin.append_ #[T,T] ty #[.slice none 0 0,x]).run C.P w= .ok v' w'∧
   Rel' C (st.setBox id {els:=xs,esz:=i.size,ety:=E,fro:=0,live:=true,arr:=true}) a w' ρ' im'∧
   LR w' im' ρ' (.bs id i.size 0 xs.length) v':=by
 have hsmall:((xs.length:Nat):Int)≤9223372036854775807:=by simp only [maxLen]at h63;omega
 have same:xs=[]→ ∃ρ' im',Rel' C (st.setBox id {els:=xs,esz:=i.size,ety:=E,fro:=0,live:=true,arr:=true}) a w ρ' im'∧LR w im' ρ' (.bs id i.size 0 xs.length) (.slice none 0 0):=by
  rintro rfl;obtain⟨h3,h4⟩:=h.addBox ⟨.refl _ _ _,Keeps.refl _ _,fun _ x=> .inl x,fun _ _ x=>x,fun _ _ x=> .inl x⟩ h hidL hid {els:=[],esz:=i.size,ety:=E,fro:=0,live:=true,arr:=true} none (by intro g e;cases e) ⟨rfl,rfl,rfl,hs⟩ (by intro b' g B' e;cases e);exact⟨_,_,h3,.bsNil _ _ none (Qaw _ _ _)⟩
 rcases hx.slc_cells with⟨rfl,cx,rfl⟩|⟨Ax,capx,vsx,szx,rfl,hmx,hzx,hcx,hrx,hcapx⟩
 ·obtain⟨ρ',im',e1,e2⟩:=same rfl;exact⟨_,w,ρ',im',Qer w T T ty E i ht hi E ht none 0 0 (Nat.le_refl _) cx,e1,e2⟩
 ·have hvl:vsx.length=xs.length*i.size:=by rw [←hrx.length,Qa1 hxz]
  by_cases hm0:xs.length=0
  ·obtain⟨ρ',im',e1,e2⟩:=same (List.length_eq_zero_iff.1 hm0);refine⟨_,w,ρ',im',?_,e1,e2⟩;rw [hm0];exact Qhi w T ty E i ht hi _ _ _
  ·have hrun:=run_append_nil w T ty E i z ht hi hz Ax xs.length capx vsx hvl hcx (by omega) (by omega) (by omega);have hcapg:=grownCap_ge w xs.length 0 E;have hcapm:=grownCap_le_maxLen w xs.length 0 E hmx;have hzc:(Builtin.zeroCells z.cells (grownCap w xs.length 0 E-xs.length)).size=(grownCap w xs.length 0 E-xs.length)*i.size:=by rw [size_zeroCells,hzs]
   generalize grownCap w xs.length 0 E=cap at*;generalize Builtin.zeroCells z.cells (cap-xs.length)=zc at*;have harr:vsx.toArray++zc=(vsx++zc.toList).toArray:=by apply Array.ext';simp
   rw [harr]at hrun;have hmul:cap*i.size=xs.length*i.size+(cap-xs.length)*i.size:=by rw [←Nat.add_mul];congr 1;omega
   obtain⟨ρ',im',e1,e2⟩:=h.append_new (els:=xs) (E:=E) (us:=vsx) (rest:=zc.toList) hidL hid hs hxz hrx hokx 0 cap (Nat.zero_le _) hcapg (by simp;omega) hcapm;exact⟨_,_,ρ',im',hrun,e1,e2⟩
section
variable {C:Ctx} {st:St} {a:Act} {w:World} {ρ:Rho} {im:Im} {o:Oper}
theorem Zc4 {st:St} {b:Nat} {B:Box} (hB:st.box b=some B):(Eff.kill b).on st=st.setBox b {B with els:=[],fro:=0,live:=false}:=by simp [Eff.on,hB]
theorem Qxt {id:Nat} (hidL:id<LENT) {T T2 ty:TypeId} {s x r:PV} {u ux:Value} {es:List Eff} {l:Acc} {sem:Sem Next} (h:Rel' C st a w ρ im) (hs:LR w im ρ s u) (hx:LR w im ρ x ux)
  (hrun: ∀v w',(Builtin.append_ #[T,T2] ty #[u,ux]).run C.P w= .ok v w'→sem.run C.P w= .ok (.value v) w') (he:Qef C.P id T T2 s x st.box=some (.done r es,l)):Does C (Qao es st) a w sem r:=by
 unfold Qef at he;obtain⟨_,_,_,e1,e2,_⟩:=M.bind_some he;obtain⟨c1,_⟩:=M.ok_some e1;obtain⟨E,_,_,e3,e4,_⟩:=M.bind_some e2;obtain⟨c2,_⟩:=M.ofOpt_some e3;obtain⟨q,_,_,e5,e6,_⟩:=M.bind_some e4;obtain⟨c3,_⟩:=M.ofOpt_some e5;obtain⟨z,_,_,e7,e8,_⟩:=M.bind_some e6;obtain⟨c4,_⟩:=M.ofOpt_some e7;obtain⟨_,_,_,e9,e10,_⟩:=M.bind_some e8;obtain⟨c5,_⟩:=M.ok_some e9;obtain⟨n,_,_,e11,e12,_⟩:=M.bind_some e10;obtain⟨rfl,_⟩:=M.hard_some e11;obtain⟨_,_,_,e13,e14,_⟩:=M.bind_some e12;obtain⟨c6,_⟩:=M.ok_some e13;obtain⟨⟨y,fs⟩,_,_,e15,e16,_⟩:=M.bind_some e14;simp only [beq_iff_eq,Bool.and_eq_true,decide_eq_true_eq,Option.isNone_iff_eq_none]at c1 c5 c6;subst c1;obtain⟨i,hi,hi1,hi2⟩:=Qbz c3;obtain⟨i',zv,hz1,hz2,hz3⟩:=Qdk c4;rw [hi]at hz1;cases hz1;have hT:=Qcg c2;have hzs:zv.cells.size=i.size:=by
  have hr:=Qdj (w:=w) (im:=im) hz3;rw [hi1,←c5.1];have key: ∀zv z,Rep w im z zv→zv.cells.size=z.cells.length:=by
   intro zv z hr;cases hr with
   |agg cs vs h=>simp [Value.cells,PV.cells,h.length]
   |_=>rfl
  exact key _ _ hr
 obtain⟨im1,g1,r1⟩:=Qke h (fun _=>rfl) hx e15;cases y with
 |slc xs=>
  obtain⟨_,_,_,e17,e18,_⟩:=M.bind_some e16;obtain⟨c7,_⟩:=M.ok_some e17;simp only [List.all_eq_true,Bool.and_eq_true,beq_iff_eq]at c7;have hokx:=Qeo fun e he=>(c7 e he).2;cases s with
  |nilS=>
   obtain⟨_,_,_,e19,e20,_⟩:=M.bind_some e18;obtain⟨c8,_⟩:=M.ok_some e19;obtain⟨e21,_⟩:=M.pure_some e20;cases e21;simp only [Bool.and_eq_true,decide_eq_true_eq]at c8;have hu:=hs.nilS_inv;subst hu;obtain⟨v',w',ρ',im',k1,k2,k3⟩:=g1.rel.append_nil hidL (ty:=ty) hT hi hz2 (by omega) hzs r1 (fun e he=>by rw [hi1];exact(c7 e he).1) hokx (g1.no id c6) (by rw [hi2];exact c8.1) c8.2;rw [hi1]at k2 k3;refine⟨v',w',ρ',im',.inl (hrun _ _ k1),?_,k3⟩;rw [Qa6];simpa [Qbc,Qc1,Eff.on]using k2
  |bs b esz off len=>
   obtain⟨Bo,_,_,e19,e20,_⟩:=M.bind_some e18;obtain⟨rfl,_⟩:=M.hard_some e19;obtain⟨B,_,_,e21,e22,_⟩:=M.bind_some e20;obtain⟨hB,_⟩:=M.ofOpt_some e21;obtain⟨_,_,_,e23,e24,_⟩:=M.bind_some e22;obtain⟨c8,_⟩:=M.ok_some e23;obtain⟨e25,_⟩:=M.pure_some e24;cases e25;simp only [Bool.and_eq_true,decide_eq_true_eq,beq_iff_eq,List.all_eq_true,bne_iff_ne]at c8;obtain⟨⟨⟨⟨⟨⟨⟨⟨⟨⟨d0,d1⟩,d2⟩,d3⟩,d4⟩,d5⟩,d6⟩,d7⟩,d8⟩,d9⟩,d10⟩:=c8;subst d3;subst d4;subst d7;have hB':(Qao fs st).box b=some B:=by rw [Qdl _ _ d0];exact hB
   have hs':LR w im1 ρ (.bs b B.esz 0 B.els.length) u:=by
    rw [d6,←d5];exact hs.mono (Keeps.refl _ _) g1.im fun _ _ x=>x
   obtain⟨v',w',ρ',im',k1,k2,k3⟩:=g1.rel.append (ty:=ty) hT hi hz2 (by omega) hzs hB' d1 d2 hs' r1 (fun e he=>by rw [d6];exact(c7 e he).1) d8 hokx hidL (g1.no id c6) (by rw [hi2];exact d9) d10;refine⟨v',w',ρ',im',.inl (hrun _ _ k1),?_,?_⟩
   ·rw [Qa6,Qbc,Qbc,Qc1,Zc4 hB'];simpa [Eff.on,d6]using k2
   ·rw [d6]at k3;exact k3
  |_=>cases e18
 |_=>cases e16
theorem Qus {id:Nat} (hidL:id<LENT) {T T2 ty:TypeId} {s x r:PV} {u ux:Value} {es:List Eff} {l:Acc} {sem:Sem Next} (h:Rel' C st a w ρ im) (hs:LR w im ρ s u) (hx:LR w im ρ x ux)
  (hrun: ∀v w',(Builtin.append_ #[T,T2] ty #[u,ux]).run C.P w= .ok v w'→sem.run C.P w= .ok (.value v) w') (he:appendD C.P id T T2 s x st.box=some (.done r es,l)):Does C (Qao es st) a w sem r:=by
 unfold appendD at he;obtain⟨_,_,_,e1,e2,_⟩:=M.bind_some he;obtain⟨c1,_⟩:=M.ok_some e1;obtain⟨E,_,_,e3,e4,_⟩:=M.bind_some e2;obtain⟨c2,_⟩:=M.ofOpt_some e3;obtain⟨q,_,_,e5,e6,_⟩:=M.bind_some e4;obtain⟨c3,_⟩:=M.ofOpt_some e5;obtain⟨z,_,_,e7,e8,_⟩:=M.bind_some e6;obtain⟨c4,_⟩:=M.ofOpt_some e7;obtain⟨_,_,_,e9,e10,_⟩:=M.bind_some e8;obtain⟨c5,_⟩:=M.ok_some e9;obtain⟨n,_,_,e11,e12,_⟩:=M.bind_some e10;obtain⟨rfl,_⟩:=M.hard_some e11;obtain⟨_,_,_,e13,e14,_⟩:=M.bind_some e12;obtain⟨c6,_⟩:=M.ok_some e13;simp only [beq_iff_eq,Bool.and_eq_true,decide_eq_true_eq,Option.isNone_iff_eq_none]at c1 c5 c6;subst c1;obtain⟨i,hi,hi1,hi2⟩:=Qbz c3;obtain⟨i',zv,hz1,hz2,hz3⟩:=Qdk c4;rw [hi]at hz1;cases hz1;have hT:=Qcg c2;have hzs:zv.cells.size=i.size:=by
  have hr:=Qdj (w:=w) (im:=im) hz3;rw [hi1,←c5.1];have key: ∀zv z,Rep w im z zv→zv.cells.size=z.cells.length:=by
   intro zv z hr;cases hr with
   |agg cs vs h=>simp [Value.cells,PV.cells,h.length]
   |_=>rfl
  exact key _ _ hr
 cases x with
 |bs b2 esz2 off2 len2=>
  obtain⟨S2,_,_,e15,e16,_⟩:=M.bind_some e14;obtain⟨B2,hb2,rfl,_⟩:=M.soft_some e15;obtain⟨_,_,_,e17,e18,_⟩:=M.bind_some e16;obtain⟨c7,_⟩:=M.ok_some e17;simp only [Box.soft,Bool.and_eq_true,beq_iff_eq,decide_eq_true_eq]at c7 e18;obtain⟨⟨⟨⟨p1,p2⟩,p3⟩,p4⟩,p5⟩:=c7;have p3:off2+len2≤B2.els.length:=of_decide_eq_true p3;have p5:((((B2.els.drop off2).take len2)).flatMap PV.cells).all PV.okCell=true:=p5;rcases hx.bs_inv with⟨_,_,_,e0⟩|⟨g2,cap2,cur2,ty2,hg2,rfl,ho2,hcp2,hl2,hm2⟩
  ·omega
  ·obtain⟨k1,k2,k3,k4,cur',us2,rest2,k5,k6,k7, -⟩:=h.box b2 _ B2 hg2 hb2;rw [ho2]at k5;cases k5;subst p1;have hul:us2.length=B2.els.length*B2.esz:=by rw [←k7.length,Qa1 k4]
   have hmul:off2*B2.esz+len2*B2.esz≤B2.els.length*B2.esz:=by rw [←Nat.add_mul];exact Nat.mul_le_mul_right _ p3
   have hr:=(k7.drop (off2*B2.esz)).take (len2*B2.esz);rw [Qgd off2 k4,Qff len2 (fun e he=>k4 e (List.mem_of_mem_drop he))]at hr;have hxz: ∀e∈(B2.els.drop off2).take len2,e.cells.length=B2.esz:=fun e he=>k4 e (List.mem_of_mem_drop (List.mem_of_mem_take he));have hxl:((B2.els.drop off2).take len2).length=len2:=by rw [List.length_take,List.length_drop];omega
   have hcx: ∀j v,((us2.drop (off2*B2.esz)).take (len2*B2.esz))[j]? =some v→w.cell? ((⟨g2,off2*B2.esz,none⟩:Addr).add j)=some v:=by
    intro j v hv;have ha:(⟨g2,off2*B2.esz,none⟩:Addr).add j=⟨g2,off2*B2.esz+j,none⟩:=by unfold Addr.add;split<;>simp_all
    rw [List.getElem?_take]at hv;split at hv
    ·rw [List.getElem?_drop]at hv;have hj:off2*B2.esz+j<us2.length:=(List.getElem?_eq_some_iff.1 hv).1;rw [ha,cell_of_row _ _ _ _ _ _ ho2,←Array.getElem?_toList,k6,List.getElem?_append_left hj,hv]
    ·cases hv
   generalize (us2.drop (off2*B2.esz)).take (len2*B2.esz)=vsx at*;generalize hXS:(B2.els.drop off2).take len2=xs at*;have hvl:vsx.length=xs.length*B2.esz:=by rw [←hr.length,Qa1 hxz]
   have hxne:xs≠ []:=by intro e;rw [e]at hxl;simp at hxl;omega
   subst hxl;cases s with
   |nilS=>
    obtain⟨_,_,_,e19,e20,_⟩:=M.bind_some e18;obtain⟨c8,_⟩:=M.ok_some e19;obtain⟨e21,_⟩:=M.pure_some e20;cases e21;simp only [Bool.and_eq_true,decide_eq_true_eq]at c8;have hu:=hs.nilS_inv;subst hu;have hby:xs.length*i.bytes≤140737488355328:=by rw [hi2];exact c8.1
    have hsmall:((xs.length:Nat):Int)≤9223372036854775807:=by have:=c8.2;simp only [maxLen]at this;omega
    have hrn:=run_append_nil w T ty E i zv hT hi hz2 ⟨g2,off2*B2.esz,none⟩ xs.length cap2 vsx (by rw [hvl,p2,hi1]) hcx (by omega) (by omega) (by omega);have hcapg:=grownCap_ge w xs.length 0 E;have hcapm:=grownCap_le_maxLen w xs.length 0 E c8.2;have hzc:(Builtin.zeroCells zv.cells (grownCap w xs.length 0 E-xs.length)).size=(grownCap w xs.length 0 E-xs.length)*i.size:=by rw [size_zeroCells,hzs]
    generalize grownCap w xs.length 0 E=cap at*;generalize Builtin.zeroCells zv.cells (cap-xs.length)=zc at*;have harr:vsx.toArray++zc=(vsx++zc.toList).toArray:=by apply Array.ext';simp
    rw [harr]at hrn;have hmul2:cap*q.1=xs.length*q.1+(cap-xs.length)*q.1:=by rw [←Nat.add_mul];congr 1;omega
    obtain⟨ρ',im',m1,m2⟩:=h.append_newD (els:=xs) (E:=E) (esz:=q.1) (us:=vsx) (rest:=zc.toList) hidL c6 (by omega) (fun e he=>by rw [hxz e he,p2]) hr p5 0 cap (Nat.zero_le _) hcapg (by simp;rw [hvl,p2];rw [hi1]at hzc;omega) hcapm;refine⟨_,_,ρ',im',.inl (hrun _ _ hrn),?_,m2⟩;simpa [Qbc,Qc1,Eff.on]using m1
   |bs b esz off len=>
    obtain⟨Bo,_,_,e19,e20,_⟩:=M.bind_some e18;obtain⟨rfl,_⟩:=M.hard_some e19;obtain⟨B,_,_,e21,e22,_⟩:=M.bind_some e20;obtain⟨hB,_⟩:=M.ofOpt_some e21;obtain⟨_,_,_,e23,e24,_⟩:=M.bind_some e22;obtain⟨c8,_⟩:=M.ok_some e23;obtain⟨e25,_⟩:=M.pure_some e24;cases e25;simp only [Bool.and_eq_true,decide_eq_true_eq,beq_iff_eq,Bool.not_eq_true']at c8;obtain⟨⟨⟨⟨⟨⟨⟨⟨⟨⟨d1,d2⟩,d3⟩,d4⟩,d4'⟩,d5⟩,d6⟩,d7⟩,d8⟩,d9⟩,d10⟩:=c8;subst d3;subst d4;subst d7;have hs':LR w im ρ (.bs b B.esz 0 B.els.length) u:=by rw [d6,←d5];exact hs
    obtain⟨v',w',ρ',im',k1',k2',k3'⟩:=h.appendD (ty:=ty) hT hi hz2 (by omega) hzs hB d1 hs' hcx hr hxne (by intro e;rw [e]at d4';simp at d4') (fun e he=>by rw [hxz e he,p2,d6]) d8 p5 hidL c6 (by rw [hi2];exact d9) d10;refine⟨v',w',ρ',im',.inl (hrun _ _ k1'),?_,?_⟩
    ·rw [Qbc,Qbc,Qc1,Zc4 hB];simpa [Eff.on,d6]using k2'
    ·rw [d6]at k3';exact k3'
   |_=>cases e18
 |_=>cases e14
theorem Zm0 {x:Operand} {t:TypeId} {ts:Array TypeId} {v r:PV} (ho:o.op= .call ⟨.builtin .len, #[x],ts⟩) (ht:ts[0]? =some t) (hx:LR w im ρ v (a.eval x)) (hr:Qbi C.P t v=some r):Calm C.P w im ρ a o r:=by
 have go: ∀n,(Builtin.len_ ts o.type #[a.eval x]).run C.P w= .ok (.int .i64 n) w→Calm C.P w im ρ a o (.int .i64 n):=by
  intro n hn;exact⟨_,by simp [execOp,ho,resolve,invoke,builtin,hn],.ext _ _ (.int _ _)⟩
 have arr: ∀(q:Option PV),(match C.P.underlying t with|some (.array n _)=>some (PV.int .i64 n)|_=>none)=some r→Calm C.P w im ρ a o r:=by
  intro _ hh;split at hh
  ·rename_i n e hT;cases hh;exact go n (by simp [Builtin.len_,ht,run_underlying hT,goInt])
  ·cases hh
 unfold Qbi at hr;split at hr
 ·rename_i s;split at hr
  ·rename_i hT;cases hr;exact go _ (by simp [Builtin.len_,ht,run_underlying hT,goInt,hx.str_inv])
  ·cases hr
 ·split at hr
  ·rename_i e hT;cases hr;exact go _ (by simp [Builtin.len_,ht,run_underlying hT,goInt,hx.nilS_inv])
  ·cases hr
 ·rename_i es;split at hr
  ·rename_i e hT;cases hr;refine go _ ?_;have hs:=hx.slc_inv;generalize a.eval x=u at*;cases hs with
   |slcNil c hm=>simp [Builtin.len_,ht,run_underlying hT,goInt]
   |slcE p cap hm=>simp [Builtin.len_,ht,run_underlying hT,goInt]
   |slc _ g off len cap sz vs hn hm hz hii hc hrl hcap=>simp [Builtin.len_,ht,run_underlying hT,goInt,hn]
  ·cases hr
 ·rename_i b esz off len;split at hr
  ·rename_i e hT;cases hr;refine go _ ?_;rcases hx.bs_inv with⟨_,⟨x0,hu⟩,_,hl⟩|⟨g,cap,cur,e',hg,hu,_⟩<;>simp [Builtin.len_,ht,run_underlying hT,goInt,hu, *]
  ·cases hr
 ·exact arr none hr
theorem Qon {mx:Bool} {args:Array Operand} {ts:Array TypeId} {x r:PV} {xs:List PV} (ho:o.op= .call ⟨.builtin (if mx then .max else .min),args,ts⟩)
  (hv:LRL w im ρ (x::xs) (args.toList.map a.eval)) (hr:Qir mx x xs=some r):Calm C.P w im ρ a o r:=by
 obtain⟨u,us,hu,h1,h2⟩:=hv.cons_inv;obtain⟨u',k1,k2⟩:=Qqe (P:=C.P) (w:=w) mx xs us x r u h2 h1 hr;refine⟨u',?_,k2⟩;cases mx
 ·simp only [Bool.false_eq_true,if_false]at ho k1;simp only [execOp,ho,resolve,invoke,builtin,Builtin.min_,Sem.run_bind,Sem.run_pure,Result.andThen_ok,Array.toList_map,hu];simp [k1]
 ·simp only [if_true]at ho k1;simp only [execOp,ho,resolve,invoke,builtin,Builtin.max_,Sem.run_bind,Sem.run_pure,Result.andThen_ok,Array.toList_map,hu];simp [k1]
theorem Zc5 {len:Nat} {vl:PV} {hi:Option PV} {r:Nat×Nat} (hn: ∀k i,vl≠ .int k i):Qc9 len (some vl) hi≠some r:=by
 intro e;simp only [Qc9]at e;cases vl<;>first|exact absurd rfl (hn _ _)|(split at e<;>first|cases e|(rename_i q;cases q))
theorem Zc6 {len:Nat} {vh:PV} {lo:Option PV} {r:Nat×Nat} (hn: ∀k i,vh≠ .int k i):Qc9 len lo (some vh)≠some r:=by
 intro e;simp only [Qc9]at e;cases vh<;>first|exact absurd rfl (hn _ _)|(split at e<;>first|cases e|(rename_i q _;cases q))
theorem Qqi {T:TypeId} {v:PV} {lo hi:Option PV} {x:Out×Acc} {bx:Bx} (hb: ∀len r,Qc9 len lo hi≠some r) (he:Qc2 C.P T v lo hi bx=some x):False:=by
 obtain⟨x,l⟩:=x;cases v with
 |str s=>
  obtain⟨_,_,_,e1,e2,_⟩:=M.bind_some he;obtain⟨q,_,_,e3,e4,_⟩:=M.bind_some e2;exact hb _ _ (M.ofOpt_some e3).1
 |nilS=>
  obtain⟨_,_,_,e1,e2,_⟩:=M.bind_some he;obtain⟨_,_,_,e3,e4,_⟩:=M.bind_some e2;obtain⟨q,_,_,e5,e6,_⟩:=M.bind_some e4;exact hb _ _ (M.ofOpt_some e5).1
 |slc es=>
  obtain⟨_,_,_,e1,e2,_⟩:=M.bind_some he;obtain⟨_,_,_,e3,e4,_⟩:=M.bind_some e2;obtain⟨q,_,_,e5,e6,_⟩:=M.bind_some e4;exact hb _ _ (M.ofOpt_some e5).1
 |bs b esz off len=>
  obtain⟨_,_,_,e1,e2,_⟩:=M.bind_some he;obtain⟨_,_,_,e3,e4,_⟩:=M.bind_some e2;obtain⟨_,_,_,e5,e6,_⟩:=M.bind_some e4;obtain⟨q,_,_,e7,e8,_⟩:=M.bind_some e6;exact hb _ _ (M.ofOpt_some e7).1
 |_=>cases he
theorem Qkh {T:TypeId} {v vl:PV} {hi:Option PV} {x:Out×Acc} {bx:Bx} (hn: ∀k i,vl≠ .int k i) (he:Qc2 C.P T v (some vl) hi bx=some x):False:=Qqi (fun _ _=>Zc5 hn) he
theorem Qki {T:TypeId} {v vh:PV} {lo:Option PV} {x:Out×Acc} {bx:Bx} (hn: ∀k i,vh≠ .int k i) (he:Qc2 C.P T v lo (some vh) bx=some x):False:=Qqi (fun _ _=>Zc6 hn) he
theorem Q0f {args:Array Operand} {us:List Value} {u:Value} (h:args.toList.map a.eval=[u]): ∃x,args= #[x]∧a.eval x=u:=by
 have hl:args.toList.length=1:=by simpa using congrArg List.length h
 match hL:args.toList,hl with
 | [x],_=>
  rw [hL]at h;exact⟨x,by apply Array.ext';simpa using hL,by simpa using h⟩
theorem Q0g {args:Array Operand} {u u2:Value} (h:args.toList.map a.eval=[u,u2]): ∃x y,args= #[x,y]∧a.eval x=u∧a.eval y=u2:=by
 have hl:args.toList.length=2:=by simpa using congrArg List.length h
 match hL:args.toList,hl with
 | [x,y],_=>
  rw [hL]at h;simp at h;exact⟨x,y,by apply Array.ext';simpa using hL,h.1,h.2⟩
theorem Qb1 {α:Type} {x:Option α} {f:α→PV} {r:PV} {es:List Eff} {l:Acc} {bx:Bx} (he:(M.ofOpt x).bind (fun v=>M.pure (Out.done (f v) [])) bx=some (.done r es,l)): ∃v,x=some v∧r=f v∧es=[]:=by
 obtain⟨v,_,_,e1,e2,_⟩:=M.bind_some he;obtain⟨c,_⟩:=M.ofOpt_some e1;obtain⟨e3,_⟩:=M.pure_some e2;cases e3;exact⟨v,c,rfl,rfl⟩
theorem Zve {tb:Tab} {id:Nat} (hidL:id<LENT) {vs:List PV} {r:PV} {es:List Eff} {l:Acc} (h:Rel' C st a w ρ im) (hv:LRL w im ρ vs (o.op.operands.toList.map a.eval))
  (he:Qbb C.P tb id o.op vs st.box=some (.done r es,l)):Does C (Qao es st) a w (execOp a.eval o) r:=by
 have he0:=he;generalize hm:Qbb C.P tb id o.op vs=m at he;unfold Qbb at hm;split at hm<;>subst hm
 case h_1=>
  rename_i x v ho;obtain⟨e,_⟩:=M.pure_some he;cases e;rw [ho]at hv;obtain⟨u,hu,h1⟩:=LRL.one_inv hv;simp [Op.operands]at hu;subst hu;exact Qbl h (Zcu ho h1)
 case h_2=>
  rename_i x v ho;obtain⟨e,_⟩:=M.pure_some he;cases e;rw [ho]at hv;obtain⟨u,hu,h1⟩:=LRL.one_inv hv;simp [Op.operands]at hu;subst hu;exact Qbl h (Qxp ho h1)
 case h_3=>
  rename_i x v ho;rw [ho]at hv;obtain⟨u,hu,h1⟩:=LRL.one_inv hv;simp [Op.operands]at hu;subst hu;cases v with
  |bp b e i off=>obtain⟨e,_⟩:=M.pure_some he;cases e;exact Qbl h (Ql9 ho h1)
  |rp cs=>obtain⟨e,_⟩:=M.pure_some he;cases e;exact Qbl h (Qma ho h1)
  |fn f p q=>obtain⟨e,_⟩:=M.pure_some he;cases e;exact Qbl h (Qmb ho h1)
  |_=>cases he
 case h_4=>
  rename_i c x y b v v' ho;obtain⟨e,_⟩:=M.pure_some he;cases e;rw [ho]at hv;obtain⟨u,us,hu,h1,h2⟩:=hv.cons_inv;obtain⟨u2,u3,hu2,h3,h4⟩:=h2.two_inv;simp [Op.operands]at hu;obtain⟨rfl,rfl⟩:=hu;simp at hu2;obtain⟨rfl,rfl⟩:=hu2;exact Qbl h (Zcv ho h1 h3 h4)
 case h_5=>
  rename_i T ho;obtain⟨z,_,_,e1,e2,_⟩:=M.bind_some he;obtain⟨c1,_⟩:=M.ofOpt_some e1;exact Q3t hidL ho h c1 e2
 case h_6=>
  rename_i T x v ho;rw [ho]at hv;obtain⟨u,hu,h1⟩:=LRL.one_inv hv;simp [Op.operands]at hu;subst hu;exact Zmz hidL ho h h1 he
 case h_7=>
  rename_i T parts ho;obtain⟨_,_,_,e1,e2,_⟩:=M.bind_some he;obtain⟨c1,_⟩:=M.ok_some e1;obtain⟨z,_,_,e3,e4,_⟩:=M.bind_some e2;obtain⟨c2,_⟩:=M.ofOpt_some e3;obtain⟨cs,c3,rfl,rfl⟩:=Qb1 (f:=fun cs=> .agg cs) e4;exact Q3v ho h hv c1 c2 c3
 case h_8=>
  rename_i T n parts ho;cases hl:lkp tb id with
  |none=>exact Qol hidL ho h hv hl he0
  |some p=>
   rw [ho]at he0;simp only [Qbb,hl]at he0;exact Qxr hidL ho h hv he0
 case h_9=>
  rename_i T x b esz i off ho;rw [ho]at hv;obtain⟨u,hu,h1⟩:=LRL.one_inv hv;simp [Op.operands]at hu;subst hu;obtain⟨S,_,_,e1,e2,_⟩:=M.bind_some he;obtain⟨B,hB,rfl,_⟩:=M.soft_some e1;obtain⟨_,_,_,e3,e4,_⟩:=M.bind_some e2;obtain⟨c1,_⟩:=M.ok_some e3;obtain⟨e,_,_,e5,e6,_⟩:=M.bind_some e4;obtain⟨c2,_⟩:=M.ofOpt_some e5;obtain⟨v,c3,rfl,rfl⟩:=Qb1 (f:=fun v=>v) e6;exact Quq ho h h1 hB (by simpa [Box.soft]using c1) c2 c3
 case h_10=>
  rename_i T x cs ho;rw [ho]at hv;obtain⟨u,hu,h1⟩:=LRL.one_inv hv;simp [Op.operands]at hu;subst hu;obtain⟨v,c3,rfl,rfl⟩:=Qb1 (f:=fun v=>v) he;exact Qur ho h h1 c3
 case h_11=>
  rename_i T x y b esz i off v ho;have hv':=hv;rw [ho]at hv';obtain⟨u,u2,hu,h1,h2⟩:=LRL.two_inv hv';simp [Op.operands]at hu;obtain⟨rfl,rfl⟩:=hu;exact Q3w ho h h1 h2 he0
 case h_12=>
  rename_i op t x y ty v v' ho;rw [ho]at hv;obtain⟨u,u2,hu,h1,h2⟩:=LRL.two_inv hv;simp [Op.operands]at hu;obtain⟨rfl,rfl⟩:=hu;obtain⟨v,c3,rfl,rfl⟩:=Qb1 (f:=fun v=>v) he;exact Qbl h (Zmw ho h1 h2 c3)
 case h_13=>
  rename_i op t x v ho;rw [ho]at hv;obtain⟨u,hu,h1⟩:=LRL.one_inv hv;simp [Op.operands]at hu;subst hu;obtain⟨v,c3,rfl,rfl⟩:=Qb1 (f:=fun v=>v) he;exact Qbl h (Zvd ho h1 c3)
 case h_14=>
  rename_i s d x v ho;rw [ho]at hv;obtain⟨u,hu,h1⟩:=LRL.one_inv hv;simp [Op.operands]at hu;subst hu;exact Zc3 ho h h1 he
 case h_15=>
  rename_i f first cap ho
  obtain⟨e,_⟩:=M.pure_some he;cases e;rw [ho]at hv;exact Qbl h (Qsh ho hv)
 case h_16=>
  rename_i T x y k1 n k2 c ho;have hv':=hv;rw [ho]at hv';obtain⟨u,u2,hu,h1,h2⟩:=LRL.two_inv hv';simp [Op.operands]at hu;obtain⟨rfl,rfl⟩:=hu;exact Qo7 hidL ho h h1 h2 he0
 case h_17=>
  rename_i T x v ho;rw [ho]at hv;obtain⟨u,hu,h1⟩:=LRL.one_inv hv;simp [Op.operands]at hu;subst hu;exact Qib (vl:=none) (vh:=none) h h1 (.inl ⟨rfl,rfl⟩) (.inl ⟨rfl,rfl⟩) (fun u hu=>by simp [execOp,ho,hu]) he
 case h_18=>
  rename_i T x lo v vl ho;rw [ho]at hv;obtain⟨u,u2,hu,h1,h2⟩:=LRL.two_inv hv;simp [Op.operands]at hu;obtain⟨rfl,rfl⟩:=hu;cases vl with
  |int k i=>exact Qib (vl:=some (a.eval lo)) (vh:=none) h h1 (.inr ⟨k,i,rfl,by rw [h2.int_inv]⟩) (.inl ⟨rfl,rfl⟩) (fun u hu=>by simp [execOp,ho,hu]) he
  |_=>exact(Qkh (by intro k i e;cases e) he).elim
 case h_19=>
  rename_i T x hi v vh ho;rw [ho]at hv;obtain⟨u,u2,hu,h1,h2⟩:=LRL.two_inv hv;simp [Op.operands]at hu;obtain⟨rfl,rfl⟩:=hu;cases vh with
  |int k i=>exact Qib (vl:=none) (vh:=some (a.eval hi)) h h1 (.inl ⟨rfl,rfl⟩) (.inr ⟨k,i,rfl,by rw [h2.int_inv]⟩) (fun u hu=>by simp [execOp,ho,hu]) he
  |_=>exact(Qki (by intro k i e;cases e) he).elim
 case h_20=>
  rename_i T x lo hi v vl vh ho;rw [ho]at hv;obtain⟨u,us,hu,h1,h2⟩:=hv.cons_inv;obtain⟨u2,u3,hu2,h3,h4⟩:=h2.two_inv;simp [Op.operands]at hu;obtain⟨rfl,rfl⟩:=hu;simp at hu2;obtain⟨rfl,rfl⟩:=hu2;cases vh with
  |int k i=>
   cases vl with
   |int k' i'=>exact Qib (vl:=some (a.eval lo)) (vh:=some (a.eval hi)) h h1 (.inr ⟨k',i',rfl,by rw [h3.int_inv]⟩) (.inr ⟨k,i,rfl,by rw [h4.int_inv]⟩) (fun u hu=>by simp [execOp,ho,hu]) he
   |_=>exact(Qkh (by intro k i e;cases e) he).elim
  |_=>exact(Qki (by intro k i e;cases e) he).elim
 case h_21=>
  rename_i T x f b esz i off ho;rw [ho]at hv;obtain⟨u,hu,h1⟩:=LRL.one_inv hv;simp [Op.operands]at hu;subst hu;obtain⟨q,c3,rfl,rfl⟩:=Qb1 (f:=fun q:Nat×TypeId×Nat=> .bp b esz i (off+q.1)) he;exact Qbl h (Qk3 ho h1 c3)
 case h_22=>
  rename_i T x f cs ho;rw [ho]at hv;obtain⟨u,hu,h1⟩:=LRL.one_inv hv;simp [Op.operands]at hu;subst hu;obtain⟨q,c3,rfl,rfl⟩:=Qb1 (f:=fun q:Nat×TypeId×Nat=> .rp (cs.drop q.1)) he;exact Qbl h (Qk4 ho h1 c3)
 case h_23=>
  rename_i T x f cs ho;rw [ho]at hv;obtain⟨u,hu,h1⟩:=LRL.one_inv hv;simp [Op.operands]at hu;subst hu;obtain⟨q,_,_,e1,e2,_⟩:=M.bind_some he;obtain⟨c1,_⟩:=M.ofOpt_some e1;obtain⟨v,c3,rfl,rfl⟩:=Qb1 (f:=fun v=>v) e2;exact Qbl h (Q3q ho h1 c1 c3)
 case h_24=>
  rename_i T x y v k i ho;rw [ho]at hv;obtain⟨u,u2,hu,h1,h2⟩:=LRL.two_inv hv;simp [Op.operands]at hu;obtain⟨rfl,rfl⟩:=hu;cases v with
  |bp b esz kk off=>
   obtain⟨q,_,_,e1,e2,_⟩:=M.bind_some he;obtain⟨c1,_⟩:=M.ofOpt_some e1;obtain⟨s,_,_,e3,e4,_⟩:=M.bind_some e2;obtain⟨c2,_⟩:=M.ofOpt_some e3;obtain⟨_,_,_,e5,e6,_⟩:=M.bind_some e4;obtain⟨c3,_⟩:=M.ok_some e5;obtain⟨e7,_⟩:=M.pure_some e6;cases e7;simp only [Bool.and_eq_true,decide_eq_true_eq]at c3;exact Qbl h (Qk5 ho h1 h2 c1 c2 c3.1.1 c3.1.2)
  |rp cs=>
   obtain⟨q,_,_,e1,e2,_⟩:=M.bind_some he;obtain⟨c1,_⟩:=M.ofOpt_some e1;obtain⟨s,_,_,e3,e4,_⟩:=M.bind_some e2;obtain⟨c2,_⟩:=M.ofOpt_some e3;obtain⟨_,_,_,e5,e6,_⟩:=M.bind_some e4;obtain⟨c3,_⟩:=M.ok_some e5;obtain⟨e7,_⟩:=M.pure_some e6;cases e7;simp only [Bool.and_eq_true,decide_eq_true_eq]at c3;exact Qbl h (Qk6 ho h1 h2 c1 c2 c3.1.1 c3.1.2)
  |bs b esz off len=>
   obtain⟨q,_,_,e1,e2,_⟩:=M.bind_some he;obtain⟨c1,_⟩:=M.ofOpt_some e1;obtain⟨s,_,_,e3,e4,_⟩:=M.bind_some e2;obtain⟨c2,_⟩:=M.ofOpt_some e3;obtain⟨_,_,_,e5,e6,_⟩:=M.bind_some e4;obtain⟨c3,_⟩:=M.ok_some e5;obtain⟨e7,_⟩:=M.pure_some e6;cases e7;simp only [Bool.and_eq_true,decide_eq_true_eq,beq_iff_eq]at c3;exact Qbl h (Qk7 ho h1 h2 c1 c2 c3.1.1 c3.1.2 c3.2)
  |slc es=>
   obtain⟨q,_,_,e1,e2,_⟩:=M.bind_some he;obtain⟨c1,_⟩:=M.ofOpt_some e1;obtain⟨s,_,_,e3,e4,_⟩:=M.bind_some e2;obtain⟨c2,_⟩:=M.ofOpt_some e3;obtain⟨_,_,_,e5,e6,_⟩:=M.bind_some e4;obtain⟨c3,_⟩:=M.ok_some e5;obtain⟨el,_,_,e7,e8,_⟩:=M.bind_some e6;obtain⟨c4,_⟩:=M.ofOpt_some e7;obtain⟨_,_,_,e9,e10,_⟩:=M.bind_some e8;obtain⟨c5,_⟩:=M.ok_some e9;obtain⟨e11,_⟩:=M.pure_some e10;cases e11;exact Qbl h (Qkb ho h1 h2 c1 c2 (of_decide_eq_true c3) c4 (by simpa using c5))
  |_=>cases he
 case h_25=>
  rename_i T x y v k i ho;rw [ho]at hv;obtain⟨u,u2,hu,h1,h2⟩:=LRL.two_inv hv;simp [Op.operands]at hu;obtain⟨rfl,rfl⟩:=hu;cases v with
  |agg cs=>
   obtain⟨q,_,_,e1,e2,_⟩:=M.bind_some he;obtain⟨c1,_⟩:=M.ofOpt_some e1;obtain⟨s,_,_,e3,e4,_⟩:=M.bind_some e2;obtain⟨c2,_⟩:=M.ofOpt_some e3;obtain⟨_,_,_,e5,e6,_⟩:=M.bind_some e4;obtain⟨c3,_⟩:=M.ok_some e5;obtain⟨v,c4,rfl,rfl⟩:=Qb1 (f:=fun v=>v) e6;simp only [Bool.and_eq_true,decide_eq_true_eq]at c3;exact Qbl h (Qo5 ho h1 h2 c1 c2 c3.1 c3.2 c4)
  |str s=>
   obtain⟨_,_,_,e5,e6,_⟩:=M.bind_some he;obtain⟨c3,_⟩:=M.ok_some e5;obtain⟨c,c4,rfl,rfl⟩:=Qb1 (f:=fun c:UInt8=> .int .u8 c.toNat) e6;split at c3
   ·rename_i hT;exact Qbl h (Qo6 ho h1 h2 hT (of_decide_eq_true c3) c4)
   ·cases c3
  |_=>cases he
 case h_26=>
  rename_i x i vs ho;rw [ho]at hv;obtain⟨u,hu,h1⟩:=LRL.one_inv hv;simp [Op.operands]at hu;subst hu;obtain⟨v,c3,rfl,rfl⟩:=Qb1 (f:=fun v=>v) he;exact Qbl h (Qun ho h1 c3)
 case h_27=>
  rename_i args ts v ho;rw [ho]at hv;obtain⟨u,hu,h1⟩:=LRL.one_inv hv;simp only [Op.operands,Call.operands,Array.empty_append]at hu;obtain⟨x,rfl,rfl⟩:=Q0f (us:=[]) hu;obtain⟨t,_,_,e1,e2,_⟩:=M.bind_some he;obtain⟨c1,_⟩:=M.ofOpt_some e1;obtain⟨v,c3,rfl,rfl⟩:=Qb1 (f:=fun v=>v) e2;exact Qbl h (Zm0 ho c1 h1 c3)
 case h_28=>
  rename_i args ts s x ho;rw [ho]at hv;obtain⟨u,u2,hu,h1,h2⟩:=LRL.two_inv hv;simp only [Op.operands,Call.operands,Array.empty_append]at hu;obtain⟨y,y2,rfl,rfl,rfl⟩:=Q0g hu;obtain⟨t,_,_,e1,e2,_⟩:=M.bind_some he;obtain⟨c1,_⟩:=M.ofOpt_some e1;obtain⟨t2,_,_,e3,e4,_⟩:=M.bind_some e2;obtain⟨c2,_⟩:=M.ofOpt_some e3;obtain⟨_,_,_,e5,e6,_⟩:=M.bind_some e4;obtain⟨c3,_⟩:=M.ok_some e5;simp only [beq_iff_eq]at c3;have hts:ts= #[t,t2]:=by
   apply Array.ext_getElem?;intro k
   match k with
   |0=>simpa using c1
   |1=>simpa using c2
   |k+2=>rw [Array.getElem?_eq_none (by omega),Array.getElem?_eq_none (by simp)]
  subst hts;cases hl:lkp tb id with
  |none=>
   rw [hl]at e6;exact Qxt hidL (ty:=o.type) h h1 h2 (fun v w' hr=>by simp [execOp,ho,resolve,invoke,builtin,hr]) e6
  |some p=>
   rw [hl]at e6;exact Qus hidL (ty:=o.type) h h1 h2 (fun v w' hr=>by simp [execOp,ho,resolve,invoke,builtin,hr]) e6
 case h_29=>
  rename_i args ts x xs ho;rw [ho]at hv;obtain⟨v,c3,rfl,rfl⟩:=Qb1 (f:=fun v=>v) he;exact Qbl h (Qon (mx:=true) ho (by simpa [Op.operands,Call.operands]using hv) c3)
 case h_30=>
  rename_i args ts x xs ho;rw [ho]at hv;obtain⟨v,c3,rfl,rfl⟩:=Qb1 (f:=fun v=>v) he;exact Qbl h (Qon (mx:=false) ho (by simpa [Op.operands,Call.operands]using hv) c3)
 case h_31=>
  clear he0;revert he;cases lkp tb id with
  |none=>
   intro he;obtain⟨_,_,_,e1,e2,_⟩:=M.bind_some he;obtain⟨_,_,_,e3,e4,_⟩:=M.bind_some e2;obtain⟨_,_,_,e5,e6,_⟩:=M.bind_some e4;obtain⟨e7,_⟩:=M.pure_some e6;cases e7
  |some p=>
   intro he;obtain⟨_,_,_,e1,e2,_⟩:=M.bind_some he;obtain⟨_,_,_,e3,e4,_⟩:=M.bind_some e2;obtain⟨_,_,_,e5,e6,_⟩:=M.bind_some e4;obtain⟨_,_,_,e7,e8,_⟩:=M.bind_some e6;obtain⟨e9,_⟩:=M.pure_some e8;cases e9
 case h_32=>
  obtain⟨_,_,_,e1,e2,_⟩:=M.bind_some he;obtain⟨_,_,_,e3,e4,_⟩:=M.bind_some e2;obtain⟨e7,_⟩:=M.pure_some e4;cases e7
 case h_33=>
  rename_i args ts d x ho;rw [ho]at hv;obtain⟨u,u2,hu,h1,h2⟩:=LRL.two_inv hv;simp only [Op.operands,Call.operands,Array.empty_append]at hu;obtain⟨y,y2,rfl,rfl,rfl⟩:=Q0g hu;obtain⟨t,_,_,e1,e2,_⟩:=M.bind_some he;obtain⟨c1,_⟩:=M.ofOpt_some e1;exact Zc2 (ty:=o.type) h h1 h2 c1 (fun v w' hr=>by simp [execOp,ho,resolve,invoke,builtin,hr]) e2
 case h_34=>
  rename_i args ts d ho;rw [ho]at hv;obtain⟨u,hu,h1⟩:=LRL.one_inv hv;simp only [Op.operands,Call.operands,Array.empty_append]at hu;obtain⟨x,rfl,rfl⟩:=Q0f (us:=[]) hu;obtain⟨t,_,_,e1,e2,_⟩:=M.bind_some he;obtain⟨c1,_⟩:=M.ofOpt_some e1;exact Q3x (ty:=o.type) h h1 c1 (fun w' hr=>by simp [execOp,ho,resolve,invoke,builtin,hr]) e2
 case h_35=>cases he
end
def callable (P:Program) (f:FuncId):Bool:=match P.funcs[f]? with
 |some fn=>fn.body.isSome&& !(fn.name== "runtime.NumGoroutine")
 |none=>false
def Zm1 (im:Im) (w w':World):Im:=fun g j=>im g j∨(w.heap.size≤g∧ ∃u,w'.cell? ⟨g,j,none⟩=some u)
def Qxu:PV→Bool
 | .bool _| .int _ _| .str _| .nilS| .nilF| .nilI=>true
 |_=>false
def Zc7:PV→Bool
 | .agg cs=>cs.all Qxu
 |v=>Qxu v
def Qiu:PV→Bool
 | .tup vs=>vs.all Zc7
 |v=>Zc7 v
def Zc8 (P:Program) (f:FuncId) (args:List PV) (r:PV):Prop:=
 callable P f=true∧ ∀(w:World) (im:Im) (us:List Value) (F:Nat),F≤w.heap.size→Laid P F w→RepL w im args us→(∀g j,im g j→ ∃u,w.cell? ⟨g,j,none⟩=some u)→
  Calls P f us.toArray w fun e w'=> ∃v,e= .returned v∧Below w.heap.size w w'∧Rep w' (Zm1 im w w') r v
def Qaf (P:Program) (f:FuncId) (args:List PV) (r:PV):Prop:=
 Zc8 P f args r∨(callable P f=false∧Qiu r=true∧ ∀(w:World) (im:Im) (us:List Value),RepL w im args us→ ∃v,(callFunc f us.toArray).run P w= .ok (.value v) w∧Rep w im r v)
structure Boxes (own:Nat→Prop) (w:World) (im:Im) (ρ:Rho) (bx:Bx):Prop where
 rho: ∀b,ρ b=none↔bx b=none
 box: ∀b x B,ρ b=some x→bx b=some B→Qea own w im ρ B x
 inj: ∀b b' g B B',ρ b=some (some g)→ρ b'=some (some g)→bx b=some B→bx b'=some B'→B.live=true→B'.live=true→b=b'
def Qdz (P:Program) (f:FuncId) (args:List PV) (bxs:List (Nat×Box)) (r:PV) (bxs':List (Nat×Box)):Prop:=
 callable P f=true∧ ∀(w:World) (im:Im) (ρ:Rho) (us:List Value) (F:Nat),F≤w.heap.size→Laid P F w→(∀g,Own ρ g→F≤g)→(∀g j,im g j→ ∃u,w.cell? ⟨g,j,none⟩=some u)→Boxes (Own ρ) w im ρ (lkp bxs)→LRL w im ρ args us→
  Calls P f us.toArray w fun e w'=> ∃v ρ' im',e= .returned v∧Step ρ im w ρ' im' w'∧(∀g j,im' g j→ ∃u,w'.cell? ⟨g,j,none⟩=some u)∧Boxes (Own ρ') w' im' ρ' (lkp bxs')∧
   (∀b x x',ρ b=some x→ρ' b=some x'→x'=x)∧LR w' im' ρ' r v
theorem Qut {w:World} {im im':Im} {v:PV} {u:Value} (hf:Qxu v=true) (h:Rep w im v u):Rep w im' v u:=by
 cases h<;>first|(simp [Qxu]at hf;done)|constructor
theorem Qqj {w:World} {im im':Im}: ∀{vs:List PV} {us:List Value},RepL w im vs us→vs.all Qxu=true→RepL w im' vs us
 |_,_,.nil,_=> .nil
 |_,_,.cons v u vs us h t,hf=>by
  simp only [List.all_cons,Bool.and_eq_true]at hf;exact .cons _ _ _ _ (Qut hf.1 h) (Qqj t hf.2)
theorem Quu {w:World} {im im':Im} {v:PV} {u:Value} (hf:Zc7 v=true) (h:Rep w im v u):Rep w im' v u:=by
 cases v with
 |agg cs=>cases h with|agg _ vs h=>exact .agg _ _ (Qqj h hf)
 |_=>exact Qut hf h
theorem Qqk {w:World} {im im':Im}: ∀{vs:List PV} {us:List Value},RepL w im vs us→vs.all Zc7=true→RepL w im' vs us
 |_,_,.nil,_=> .nil
 |_,_,.cons v u vs us h t,hf=>by
  simp only [List.all_cons,Bool.and_eq_true]at hf;exact .cons _ _ _ _ (Quu hf.1 h) (Qqk t hf.2)
theorem Q0h {w:World} {im im':Im} {v:PV} {u:Value} (hf:Qiu v=true) (h:Rep w im v u):Rep w im' v u:=by
 cases v with
 |tup cs=>cases h with|tup _ vs h=>exact .tup _ _ (Qqk h hf)
 |_=>exact Quu hf h
def St.put (st:St) (dst:Option Tmp) (v:PV):St:=match dst with
 |some t=>st.setVar t v
 |none=>st
structure Rec where
 val:PV
 effs:List Eff
 acc:Acc
def Rec.on (r:Rec) (dst:Option Tmp) (st:St):St:=(Qao r.effs st).put dst r.val
def Qkj (ops:Array Oper) (o:Oper):Option (Tmp×Bool):=match o.guard with
 |some (j,want)=>match(ops[j]?).bind (·.dst)with
  |some t=>some (t,want)
  |none=>none
 |none=>none
def Qcx (ops:Array Oper) (o:Oper) (st:St):Option Bool:=match o.guard with
 |none=>some true
 |some _=>match Qkj ops o with
  |none=>none
  |some (t,want)=>match st.var t with
   |some (.bool b)=>some (b==want)
   |some (.tup [])=>some false
   |_=>none
def Qcs (es:List Eff):Acc:=es.map fun e=>(e.id,e.hard)
inductive OpRun (P:Program) (tb:Tab) (ops:Array Oper) (st:St) (id:Nat) (o:Oper):Rec→Prop
 |skip (h:Qcx ops o st=some false):OpRun P tb ops st id o ⟨.tup [],[],[]⟩
 |done (h:Qcx ops o st=some true) (vs:List PV) (hv:st.evs o.op.operands.toList=some vs) (v:PV) (es:List Eff) (l:Acc)
   (he:Qbb P tb id o.op vs st.box=some (.done v es,l)):OpRun P tb ops st id o ⟨v,es,l++Qcs es⟩
 |call (h:Qcx ops o st=some true) (vs:List PV) (hv:st.evs o.op.operands.toList=some vs) (f:FuncId) (args:List PV) (es:List Eff) (l:Acc) (r:PV)
   (he:Qbb P tb id o.op vs st.box=some (.call f args es,l)) (hs:Qaf P f args r):OpRun P tb ops st id o ⟨r,if Qiu r then []else es,l++Qcs es⟩
 |callB (h:Qcx ops o st=some true) (vs:List PV) (hv:st.evs o.op.operands.toList=some vs) (f:FuncId) (args:List PV) (bxs:List (Nat×Box)) (es:List Eff) (θ ν:List (Nat×Nat)) (l:Acc) (r:PV) (bxs':List (Nat×Box))
   (r':PV) (ef:List Eff) (he:Qbb P tb id o.op vs st.box=some (.callB f args bxs es θ ν,l)) (hs:Qdz P f args bxs r bxs') (hl:land θ ν bxs' r=some (r',ef)):
   OpRun P tb ops st id o ⟨r',(if Ql8 r bxs' then []else es)++ef,l++Qcs es++Qcs ef⟩
 |yield (h:Qcx ops o st=some true) (vs:List PV) (hv:st.evs o.op.operands.toList=some vs) (n stop:Nat) (args:List PV) (es:List Eff) (l:Acc)
   (he:Qbb P tb id o.op vs st.box=some (.yield n stop args es,l)) (hy:yOk st.yl n stop st.out args):OpRun P tb ops st id o ⟨.bool (decide (st.out.length<stop)),es++[.yld args],l++Qcs es++[(YID,true)]⟩
section
variable {C:Ctx} {st:St} {a:Act} {w:World} {o:Oper} {ops:Array Oper}
theorem Rel.put {ρ:Rho} {im:Im} (h:Rel' C st a w ρ im) {dst:Option Tmp} (hd: ∀t,dst=some t→t<C.nt) {v:PV} {u:Value} (hv:LR w im ρ v u):Rel C (st.put dst v) (a.put dst u) w:=by
 cases dst with
 |none=>exact⟨ρ,im,h⟩
 |some t=>exact⟨ρ,im,h.setVar (hd t rfl) hv⟩
theorem Qgj {ρ:Rho} {im:Im} (h:Rel' C st a w ρ im) {b:Bool} (hw:Qcx ops o st=some b):Region.wanted o (yielded ops a.tmps)=b:=by
 unfold Qcx at hw;unfold Region.wanted;cases hg:o.guard with
 |none=>rw [hg]at hw;cases hw;rfl
 |some p=>
  obtain⟨j,want⟩:=p;simp only [hg,Qkj]at hw;cases hd:(ops[j]?).bind (·.dst)with
  |none=>rw [hd]at hw;cases hw
  |some t=>
   simp only [hd]at hw;have hget:a.tmps.getD t undef=(a.tmps[t]?).getD undef:=by simp
   split at hw
   ·rename_i b0 hv;cases hw;have:=(h.var t _ hv).bool_inv;rw [hget]at this;simp only [yielded,hd,Option.bind_some];cases ht:a.tmps[t]? with
    |none=>rw [ht]at this;cases this
    |some x=>rw [ht]at this;simp only [Option.getD_some]at this;subst this;cases b0<;>cases want<;>rfl
   ·rename_i hv;cases hw;obtain⟨us,hu,hr⟩:=(h.var t _ hv).tup_inv;cases hr.nil_inv;rw [hget]at hu;simp only [yielded,hd,Option.bind_some];cases ht:a.tmps[t]? with
    |none=>cases want<;>rfl
    |some x=>rw [ht]at hu;simp only [Option.getD_some]at hu;subst hu;cases want<;>rfl
   ·cases hw
def Plain (m:M Out):Prop:= ∀(bx:Bx) (x:Out) (l:Acc),m bx=some (x,l)→ ∃v es,x= .done v es
theorem Plain.done (v:PV) (es:List Eff):Plain (M.pure (.done v es)):=fun _ _ _ h=>⟨v,es,(M.pure_some h).1⟩
theorem Plain.fail:Plain M.fail:=fun _ _ _ h=>by cases h
theorem Plain.bind {α:Type} {m:M α} {f:α→M Out} (h: ∀a,Plain (f a)):Plain (M.bind m f):=fun bx x l e=>by
 obtain⟨a,_,_,_,e2,_⟩:=M.bind_some e;exact h a _ _ _ e2
theorem Quv (id:Nat) (T:TypeId) (v:PV):Plain (newVar id T v):=by
 unfold newVar;repeat (first|exact Plain.done _ _|(refine Plain.bind fun _=> ?_))
theorem Qsl (P:Program) (t:TypeId) (x:PV) (lo hi:Option PV):Plain (Qc2 P t x lo hi):=by
 unfold Qc2;split<;>repeat (first|exact Plain.done _ _|exact Plain.fail|(refine Plain.bind fun _=> ?_)|split)
theorem Qiv (P:Program) (id:Nat) (T T2:TypeId) (s x:PV):Plain (Qef P id T T2 s x):=by
 unfold Qef;repeat (first|exact Plain.done _ _|exact Plain.fail|(refine Plain.bind fun _=> ?_)|split)
theorem Quw (P:Program) (id T n:Nat) (parts:Array (Nat×Operand)) (vs:List PV):Plain (Qj8 P id T n parts vs):=by
 unfold Qj8;repeat (first|exact Plain.done _ _|exact Plain.fail|(refine Plain.bind fun _=> ?_))
theorem Qsm (P:Program) (id:Nat) (T T2:TypeId) (s x:PV):Plain (appendD P id T T2 s x):=by
 unfold appendD;repeat (first|exact Plain.done _ _|exact Plain.fail|(refine Plain.bind fun _=> ?_)|split)
theorem Qxv (P:Program) (s d:TypeId) (x:PV):Plain (Qsg P s d x):=by
 unfold Qsg;cases Qod P s d x with
 |some v=>exact Plain.done _ _
 |none=>
  refine Plain.bind fun _=>Plain.bind fun y=> ?_;cases y.1<;>first|exact Plain.fail|(refine Plain.bind fun _=> ?_;exact Plain.done _ _)
theorem Qux (P:Program) (t:TypeId) (d x:PV):Plain (Qj9 P t d x):=by
 unfold Qj9;refine Plain.bind fun _=>Plain.bind fun _=>Plain.bind fun y=> ?_;cases y.1<;>first|exact Plain.fail|skip
 cases d<;>first|exact Plain.fail|skip
 refine Plain.bind fun _=>Plain.bind fun _=>Plain.bind fun _=>Plain.bind fun _=>Plain.done _ _
theorem Qsn (P:Program) (t:TypeId) (d:PV):Plain (Qg1 P t d):=by
 unfold Qg1;refine Plain.bind fun _=>Plain.bind fun _=>Plain.bind fun y=> ?_;cases d<;>first|exact Plain.fail|skip
 refine Plain.bind fun _=>Plain.bind fun _=>Plain.bind fun _=>Plain.bind fun _=>Plain.done _ _
inductive CallOf (tb:Tab) (id:Nat) (op:Op) (vs:List PV) (bx:Bx):Out→Prop
 |call (fo:Operand) (asx:Array Operand) (ts:Array TypeId) (f:FuncId) (first cap vargs:List PV) (x y z:List PV×List Eff) (l1 l2 l3:Acc) (ho:op= .call ⟨.value fo,asx,ts⟩) (hv:vs= .fn f first cap::vargs)
   (h1:Qgg first bx=some (x,l1)) (h2:Qg0 vargs bx=some (y,l2)) (h3:Qgg cap bx=some (z,l3)):CallOf tb id op vs bx (.call f (x.1++y.1++z.1) (x.2++y.2++z.2))
 |callB (fo:Operand) (asx:Array Operand) (ts:Array TypeId) (f:FuncId) (first cap vargs:List PV) (θ ν:List (Nat×Nat)) (x:Out) (l:Acc) (ho:op= .call ⟨.value fo,asx,ts⟩) (hv:vs= .fn f first cap::vargs)
   (hx:Qee θ ν f (first++vargs++cap) bx=some (x,l)):CallOf tb id op vs bx x
 |yield (fo:Operand) (asx:Array Operand) (ts:Array TypeId) (n stop:Nat) (vargs:List PV) (y:List PV×List Eff) (l1:Acc) (ho:op= .call ⟨.value fo,asx,ts⟩) (hv:vs= .yld n stop::vargs)
   (h1:Qg0 vargs bx=some (y,l1)):CallOf tb id op vs bx (.yield n stop y.1 y.2)
theorem Qk8 {P:Program} {tb:Tab} {id:Nat} {op:Op} {vs:List PV} {bx:Bx} {x:Out} {l:Acc} (he:Qbb P tb id op vs bx=some (x,l)) (hn: ∀v es,x≠ .done v es):CallOf tb id op vs bx x:=by
 generalize hm:Qbb P tb id op vs=m at he;unfold Qbb at hm;split at hm<;>subst hm
 case h_31=>
  revert he;cases lkp tb id with
  |none=>
   intro he;obtain⟨x,_,_,e1,e2,_⟩:=M.bind_some he;obtain⟨y,_,_,e3,e4,_⟩:=M.bind_some e2;obtain⟨z,_,_,e5,e6,_⟩:=M.bind_some e4;obtain⟨e7,_⟩:=M.pure_some e6;subst e7;exact .call _ _ _ _ _ _ _ x y z _ _ _ rfl rfl e1 e3 e5
  |some p=>
   intro he;exact .callB _ _ _ _ _ _ _ p.1 p.2 x _ rfl rfl he
 case h_32=>
  obtain⟨_,_,_,e1,e2,_⟩:=M.bind_some he;obtain⟨y,_,_,e3,e4,_⟩:=M.bind_some e2;obtain⟨e7,_⟩:=M.pure_some e4;subst e7;exact .yield _ _ _ _ _ _ y _ rfl rfl e3
 case h_8=>
  exfalso;refine(fun(h:Plain _)=>by obtain⟨v,es,e⟩:=h _ _ _ he;exact hn v es e) ?_;cases lkp tb id with
  |none=>repeat (first|exact Plain.done _ _|exact Plain.fail|(refine Plain.bind fun _=> ?_))
  |some p=>exact Quw _ _ _ _ _ _
 case h_28=>
  exfalso;refine(fun(h:Plain _)=>by obtain⟨v,es,e⟩:=h _ _ _ he;exact hn v es e) ?_;refine Plain.bind fun _=>Plain.bind fun _=>Plain.bind fun _=> ?_;cases lkp tb id with
  |none=>exact Qiv _ _ _ _ _ _
  |some p=>exact Qsm _ _ _ _ _ _
 all_goals
  exfalso;refine(fun(h:Plain _)=>by obtain⟨v,es,e⟩:=h _ _ _ he;exact hn v es e) ?_;repeat (first|exact Plain.done _ _|exact Plain.fail|exact Quv _ _ _|exact Qsl _ _ _ _ _|exact Qiv _ _ _ _ _ _|exact Qxv _ _ _ _|exact Qux _ _ _ _|exact Qsn _ _ _|(refine Plain.bind fun _=> ?_)|split)
end
end Go.Vl
