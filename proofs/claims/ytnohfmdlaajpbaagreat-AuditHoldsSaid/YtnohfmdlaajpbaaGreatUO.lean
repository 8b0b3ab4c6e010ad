/-
  UN, UO (merged for the claim).
-/
import Derived.Test.YtnohfmdlaajpbaaGreatUM
import Derived.RangeFuncLeaves
set_option linter.unusedSimpArgs false
set_option linter.unusedVariables false
namespace Go.Vl
open Go.RowKit
inductive RunL (P:Program) (tb:Tab) (ops:Array Oper) (base:Nat) (recs:Nat→Rec):List Nat→St→St→Prop
 |nil (s:St):RunL P tb ops base recs [] s s
 |cons (i:Nat) (l:List Nat) (s s':St) (o:Oper) (ho:ops[i]? =some o) (h:OpRun P tb ops s (base+i) o (recs i)) (t:RunL P tb ops base recs l ((recs i).on o.dst s) s'):RunL P tb ops base recs (i::l) s s'
section
variable {P:Program} {tb:Tab} {ops:Array Oper} {base:Nat} {recs:Nat→Rec}
def Qwx (ops:Array Oper) (recs:Nat→Rec) (k i:Nat):Prop:= ∀ok oi,ops[k]? =some ok→ops[i]? =some oi→Apart ops ok oi (recs k).acc (recs i).acc
theorem RunL.pull: ∀{pre:List Nat} {i:Nat} {post:List Nat} {s s':St},RunL P tb ops base recs (pre++i::post) s s'→(∀k∈pre,Qwx ops recs k i)→RunL P tb ops base recs (i::(pre++post)) s s'
 | [],_,_,_,_,h,_=>h
 |k::pre,i,post,s,s',h,ha=>by
  cases h with
  |cons _ _ _ _ ok hok hk t=>
   have ih:=RunL.pull t fun x hx=>ha x (by simp [hx]);cases ih with
   |cons _ _ _ _ oi hoi hi t'=>
    obtain⟨h1,h2,h3⟩:=swap hk hi (ha k (by simp) ok oi hok hoi);exact .cons i _ s s' oi hoi h1 (.cons k _ _ _ ok hok h2 (by rw [←h3];exact t'))
def Qns (ms:List Nat) (o:Oper):Nat:=o.after.toList.foldl (fun m e=>if Region.binds .any e then(m ||| 2^e.on) ||| ms.getD e.on 0 else m) 0
def cloL:List Oper→List Nat→List Nat
 | [],ms=>ms
 |o::rest,ms=>cloL rest (ms++[Qns ms o])
theorem Qkf: ∀(os:List Oper) (ms:List Nat) (j:Nat),j<ms.length→(cloL os ms)[j]? =ms[j]?
 | [],_,_,_=>rfl
 |o::os,ms,j,h=>by
  rw [cloL,Qkf os _ j (by simp;omega),List.getElem?_append_left h]
theorem Qy9: ∀(os:List Oper) (ms:List Nat) (j:Nat) (o:Oper),os[j]? =some o→ ∃ms',(cloL os ms)[ms.length+j]? =some (Qns ms' o)∧(∀k,k<ms.length+j→ms'[k]? =(cloL os ms)[k]?)∧ms'.length=ms.length+j
 | [],_,_,_,h=>by simp at h
 |o::os,ms,0,o',h=>by
  simp at h;subst h;refine⟨ms,?_,?_,rfl⟩
  ·rw [cloL,Qkf os _ _ (by simp)];simp
  ·intro k hk;rw [cloL,Qkf os _ _ (by simp;omega),List.getElem?_append_left hk]
 |o::os,ms,j+1,o',h=>by
  obtain⟨ms',h1,h2,h3⟩:=Qy9 os (ms++[Qns ms o]) j o' (by simpa using h);have e:(ms++[Qns ms o]).length+j=ms.length+(j+1):=by simp;omega
  rw [e]at h1 h2 h3;exact⟨ms',h1,h2,h3⟩
theorem Qwy {ms:List Nat} {o:Oper} {k:Nat} (h:(Qns ms o).testBit k=true): ∃e∈o.after.toList,Region.binds .any e=true∧(e.on=k∨(ms.getD e.on 0).testBit k=true):=by
 have key: ∀(l:List Edge) (m:Nat),(l.foldl (fun m e=>if Region.binds .any e then(m ||| 2^e.on) ||| ms.getD e.on 0 else m) m).testBit k=true→
   m.testBit k=true∨ ∃e∈l,Region.binds .any e=true∧(e.on=k∨(ms.getD e.on 0).testBit k=true):=by
  intro l
  induction l with
  |nil=>intro m h;exact .inl h
  |cons e l ih=>
   intro m h;rw [List.foldl_cons]at h;rcases ih _ h with h'|⟨e',he',h'⟩
   ·by_cases hb:Region.binds .any e=true
    ·rw [if_pos hb,Nat.testBit_or,Nat.testBit_or,Bool.or_eq_true,Bool.or_eq_true,Nat.testBit_two_pow]at h';rcases h' with(h'|h')|h'
     ·exact .inl h'
     ·exact .inr ⟨e,by simp,hb,.inl (by simpa using h')⟩
     ·exact .inr ⟨e,by simp,hb,.inr h'⟩
    ·rw [if_neg hb]at h';exact .inl h'
   ·exact .inr ⟨e',by simp [he'],h'⟩
 rcases key _ 0 h with h|h
 ·simp at h
 ·exact h
def Qpk (ops:Array Oper) (listed:Array Bool):Prop:= ∀i o,listed.getD i true=true→ops[i]? =some o→ ∀e∈o.after.toList,Region.binds .any e=true→listed.getD e.on false=true
theorem Q20 {listed:Array Bool} (hs:listed.size=ops.size) (hd:Qpk ops listed) (hlt: ∀i o,ops[i]? =some o→ ∀e∈o.after.toList,Region.binds .any e=true→e.on<i):
  ∀(i:Nat) (o:Oper),ops[i]? =some o→(∀e∈o.after.toList,Region.binds .any e=true→listed.getD e.on false=true)→ ∀k,((cloL ops.toList []).getD i 0).testBit k=true→listed.getD k false=true:=by
 intro i
 induction i using Nat.strongRecOn with
 |_ i ih=>
  intro o ho hdeps k hk;obtain⟨ms',h1,h2,h3⟩:=Qy9 ops.toList [] i o (by simpa using ho);simp only [List.length_nil,Nat.zero_add]at h1 h2 h3;rw [List.getD_eq_getElem?_getD,h1,Option.getD_some]at hk;obtain⟨e,he,hb,hk⟩:=Qwy hk;rcases hk with rfl|hk
  ·exact hdeps e he hb
  ·have hei:=hlt i o ho e he hb;rw [List.getD_eq_getElem?_getD,h2 _ hei,←List.getD_eq_getElem?_getD]at hk;have hin:i<ops.size:=(Array.getElem?_eq_some_iff.1 ho).1;have hoe:ops[e.on]? =some ops[e.on]:=Array.getElem?_eq_getElem (by omega);have hle:=hdeps e he hb;refine ih e.on hei ops[e.on] hoe (hd e.on _ ?_ hoe) k hk;have:e.on<listed.size:=by omega
   simp only [Array.getD,this,dif_pos]at hle ⊢;exact hle
def remaining (ops:Array Oper) (listed:Array Bool):List Nat:=(List.range ops.size).filter fun i=> !listed.getD i true
theorem Qrf (listed:Array Bool) (i k:Nat) (h:i<listed.size) (d:Bool):(listed.setIfInBounds i true).getD k d=if k=i then true else listed.getD k d:=by
 by_cases hk:k=i
 ·subst hk;simp [Array.getD,h]
 ·simp only [hk,if_false];have hne: ¬i=k:=fun e=>hk e.symm;by_cases hb:k<listed.size
  ·simp [Array.getD,hb,Array.getElem_setIfInBounds,hne]
  ·simp [Array.getD,hb]
theorem Qrg {listed:Array Bool} (hs:listed.size=ops.size) {i:Nat} {pre post:List Nat} (hi:i<ops.size) (hr:remaining ops listed=pre++i::post):
  remaining ops (listed.setIfInBounds i true)=pre++post∧(∀k∈pre,k<i):=by
 have hpw:(remaining ops listed).Pairwise (· < ·):=List.Pairwise.filter _ (List.pairwise_lt_range);rw [hr]at hpw;obtain⟨p1,p2,p3⟩:=List.pairwise_append.1 hpw;obtain⟨p4,p5⟩:=List.pairwise_cons.1 p2;have hpre: ∀k∈pre,k<i:=fun k hk=>p3 k hk i (by simp);refine⟨?_,hpre⟩;have e1:remaining ops (listed.setIfInBounds i true)=(remaining ops listed).filter fun k=> !(k==i):=by
  simp only [remaining,List.filter_filter];apply List.filter_congr;intro k _;rw [Qrf listed i k (by omega)];by_cases hk:k=i
  ·simp [hk]
  ·simp [hk]
 rw [e1,hr,List.filter_append,List.filter_cons];simp only [beq_self_eq_true,Bool.not_true,Bool.false_eq_true,if_false];congr 1
 ·exact List.filter_eq_self.2 fun k hk=>by have:=hpre k hk;simp;omega
 ·exact List.filter_eq_self.2 fun k hk=>by have:=p4 k hk;simp;omega
theorem Zc4 (hlt: ∀i o,ops[i]? =some o→ ∀e∈o.after.toList,Region.binds .any e=true→e.on<i)
  (hap: ∀k i,k<i→i<ops.size→((cloL ops.toList []).getD i 0).testBit k=false→Qwx ops recs k i):
  ∀(fuel t:Nat) (listed:Array Bool) (s s':St),listed.size=ops.size→Qpk ops listed→(remaining ops listed).length≤fuel→RunL P tb ops base recs (remaining ops listed) s s'→
   RunL P tb ops base recs (Region.linearise.go .any ops fuel t listed []) s s':=by
 intro fuel
 induction fuel with
 |zero=>
  intro t listed s s' _ _ hf h;have:remaining ops listed=[]:=List.length_eq_zero_iff.1 (by omega);rw [this]at h;simpa [Region.linearise.go]using h
 |succ fuel ih=>
  intro t listed s s' hs hd hf h;simp only [Region.linearise.go];change RunL P tb ops base recs (match(Region.ready .any ops listed)[t%(Region.ready .any ops listed).length]? with
   |some i=>Region.linearise.go .any ops fuel (t/(Region.ready .any ops listed).length) (listed.setIfInBounds i true) [i]
   |none=>[].reverse) s s'
  cases hi:(Region.ready .any ops listed)[t%(Region.ready .any ops listed).length]? with
  |none=>
   have hnil:Region.ready .any ops listed=[]:=by
    cases hr:Region.ready .any ops listed with
    |nil=>rfl
    |cons x xs=>
     rw [hr]at hi;have hlt':t%(x::xs).length<(x::xs).length:=Nat.mod_lt _ (by simp);rw [List.getElem?_eq_none_iff]at hi;omega
   -- then nothing remains
   cases hrem:remaining ops listed with
   |nil=>rw [hrem]at h;simpa using h
   |cons i0 rest=>
    exfalso;have hi0:i0∈remaining ops listed:=by rw [hrem];simp
    have hmem:=List.mem_filter.1 hi0;have hi0n:i0<ops.size:=List.mem_range.1 hmem.1;have:i0∈Region.ready .any ops listed:=by
     refine List.mem_filter.2 ⟨hmem.1,?_⟩;have hoi:ops[i0]? =some ops[i0]:=Array.getElem?_eq_getElem hi0n;simp only [Bool.and_eq_true,hoi,Option.map_some,Option.getD_some,hmem.2,true_and,Array.all_eq_true',Bool.or_eq_true,Bool.not_eq_true'];intro e he;by_cases hb:Region.binds .any e=true
     ·right;have hei:=hlt i0 _ hoi e (by simpa using he) hb;rcases hl:listed.getD e.on true with _|_
      ·-- e.on would remain,before i0
       exfalso;have hin:e.on∈remaining ops listed:=List.mem_filter.2 ⟨List.mem_range.2 (by omega),by simp [hl]⟩;have hpw:(remaining ops listed).Pairwise (· < ·):=List.Pairwise.filter _ (List.pairwise_lt_range);rw [hrem]at hpw hin;rcases List.mem_cons.1 hin with x|x
       ·omega
       ·have:=(List.pairwise_cons.1 hpw).1 _ x;omega
      ·have:e.on<listed.size:=by omega
       simp only [Array.getD,this,dif_pos]at hl ⊢;exact hl
     ·left;simpa using hb
    rw [hnil]at this;simp at this
  |some i=>
   simp only [];rw [linearise_go_acc,List.reverse_singleton,List.singleton_append];have himem:i∈Region.ready .any ops listed:=List.mem_of_getElem? hi;obtain⟨hir,hic⟩:=List.mem_filter.1 himem;have hin:i<ops.size:=List.mem_range.1 hir;have hoi:ops[i]? =some ops[i]:=Array.getElem?_eq_getElem hin;simp only [Bool.and_eq_true,hoi,Option.map_some,Option.getD_some,Array.all_eq_true',Bool.or_eq_true,Bool.not_eq_true']at hic;have hdeps: ∀e∈ops[i].after.toList,Region.binds .any e=true→listed.getD e.on false=true:=by
    intro e he hb;rcases hic.2 e (by simpa using he)with x|x
    ·rw [hb]at x;cases x
    ·exact x
   have hrem:i∈remaining ops listed:=List.mem_filter.2 ⟨hir,by simp [hic.1]⟩;obtain⟨pre,post,hsplit⟩:=List.append_of_mem hrem;obtain⟨e1,e2⟩:=Qrg hs hin hsplit;rw [hsplit]at h;have hpull:=h.pull fun k hk=>by
    refine hap k i (e2 k hk) hin ?_;cases hb:((cloL ops.toList []).getD i 0).testBit k with
    |false=>rfl
    |true=>
     have hl:=Q20 hs hd hlt i _ hoi hdeps k hb;have hkr:k∈remaining ops listed:=by rw [hsplit];simp [hk]
     have hkf:=(List.mem_filter.1 hkr).2;have hkn:k<ops.size:=List.mem_range.1 (List.mem_filter.1 hkr).1;have:k<listed.size:=by omega
     simp only [Array.getD,this,dif_pos,Bool.not_eq_true']at hl hkf;rw [hl]at hkf;cases hkf
   cases hpull with
   |cons _ _ _ _ o ho hrun ht=>
    refine .cons i _ s s' o ho hrun (ih _ _ _ _ (by simpa using hs) ?_ ?_ (by rw [e1];exact ht))
    ·intro j o' hj ho' e he hb;rw [Qrf listed i e.on (by omega)];rw [Qrf listed i j (by omega)]at hj;by_cases hji:j=i
     ·subst hji;rw [hoi]at ho';cases ho';rw [hdeps e he hb];simp
     ·simp only [hji,if_false]at hj;rw [hd j o' hj ho' e he hb];simp
    ·rw [e1];have:=congrArg List.length hsplit;simp at this ⊢;omega
end
section
variable {C:Ctx} {tb:Tab} {rd:Option Nat} {ops:Array Oper} {base:Nat} {recs:Nat→Rec} {Q:Exit→Act→World→Prop}
theorem Qwz (hL:base+ops.size≤LENT) (hd: ∀(i:Nat) (o:Oper),ops[i]? =some o→ ∀t,o.dst=some t→t<C.nt): ∀{l:List Nat} {s s':St} {a:Act} {w:World},RunL C.P tb ops base recs l s s'→Rel C s a w→(∀a' w',Rel C s' a' w'→Q .normal a' w')→
  wpOpsIn (FW rd) 0 C.P ops Q l a w
 | [],s,s',a,w,h,hr,hQ=>by cases h;exact hQ a w hr
 |i::l,s,s',a,w,h,hr,hQ=>by
  cases h with
  |cons _ _ _ _ o ho hrun t=>
   have hi:i<ops.size:=(Array.getElem?_eq_some_iff.1 ho).1;have:=Zm0 (rd:=rd) (K:=wpOpsIn (FW rd) 0 C.P ops Q l) (Q:=Q) hr hrun (by omega) (hd i o ho) fun a' w' hr'=>Qwz hL hd t hr' hQ;simp only [wpOpsIn,ho];exact this
theorem Rel.drew {s:St} {a:Act} {w:World} (h:Rel C s a w):Rel C s a {w with drawn:=w.drawn+1}:=by
 obtain⟨ρ,im,h⟩:=h;exact⟨ρ,im,h.world (w':=w.drew) (.of_below ((Below.refl _ _).drew)) ⟨fun _ _ _=>rfl,fun _ cur _ x=>⟨cur,x,rfl⟩,fun _ _ x _=>x⟩ fun _ _ _ _ _ _=>rfl⟩
def Qpl (ops:Array Oper) (accs:List Acc):Bool:=
 let clo:=cloL ops.toList []
 (ops.toList.zipIdx.all fun(o,i)=>o.after.toList.all fun e=> !Region.binds .any e||decide (e.on<i))&&
 (ops.toList.zipIdx.all fun(oi,i)=>(ops.toList.zipIdx.take i).all fun(ok,k)=>(clo.getD i 0).testBit k||Zc2 ops ok oi (accs.getD k []) (accs.getD i []))
theorem Qw0 {accs:List Acc} (h:Qpl ops accs=true) (hrec: ∀i,i<ops.size→(recs i).acc=accs.getD i []):
  (∀i o,ops[i]? =some o→ ∀e∈o.after.toList,Region.binds .any e=true→e.on<i)∧
  (∀k i,k<i→i<ops.size→((cloL ops.toList []).getD i 0).testBit k=false→Qwx ops recs k i):=by
 simp only [Qpl,Bool.and_eq_true,List.all_eq_true]at h;obtain⟨h1,h2⟩:=h;refine⟨?_,?_⟩
 ·intro i o ho e he hb;have:=h1 (o,i) (by rw [List.mem_zipIdx_iff_getElem?];simpa using ho) e he;simpa [hb]using this
 ·intro k i hki hi hbit ok oi hok hoi;have:=h2 (oi,i) (by rw [List.mem_zipIdx_iff_getElem?];simpa using hoi) (ok,k) (by
   rw [List.mem_iff_getElem?];refine⟨k,?_⟩;rw [List.getElem?_take_of_lt hki,List.getElem?_zipIdx];simp [hok])
  simp only [hbit,Bool.false_or]at this;rw [hrec k (by omega),hrec i hi];exact Qws this
theorem Qjm:remaining ops (Array.replicate ops.size false)=List.range ops.size:=by
 simp only [remaining];exact List.filter_eq_self.2 fun i hi=>by
  have:i<ops.size:=List.mem_range.1 hi;simp [Array.getD,this]
theorem Zc5 {id:Nat} {draw:Bool} {s s':St} {a:Act} {w:World} (hm:C.P.follows .mixedOrders=true) (hL:base+ops.size≤LENT) (hd: ∀(i:Nat) (o:Oper),ops[i]? =some o→ ∀t,o.dst=some t→t<C.nt)
  (h:RunL C.P tb ops base recs (List.range ops.size) s s') (hr:Rel C s a w) {accs:List Acc} (hacc: ∀i,i<ops.size→(recs i).acc=accs.getD i []) (hdraw:draw=true→Qpl ops accs=true)
  (hQ: ∀a' w',Rel C s' a' w'→Q .normal a' w'):(Code.region id ops draw).wpIn (FW rd) 0 C.P Q a w:=by
 cases draw with
 |false=>exact wpIn_region (Qwz hL hd h hr hQ)
 |true=>
  refine wpIn_region_draw fun t=> ?_;obtain⟨h1,h2⟩:=Qw0 (hdraw rfl) hacc;simp only [Region.schedule,hm,Bool.true_or,if_true];refine Qwz (tb:=tb) (base:=base) (recs:=recs) hL hd (Zc4 (base:=base) (recs:=recs) h1 h2 ops.size t _ s s' (by simp) ?_ ?_ ?_) hr.drew hQ
  ·intro i o hi ho;have hin:i<ops.size:=(Array.getElem?_eq_some_iff.1 ho).1;simp [Array.getD,hin]at hi
  ·rw [Qjm];simp
  ·rw [Qjm];exact h
end
def Le (st st':St):Prop:= ∀(C:Ctx) (a:Act) (w:World),Rel C st a w→Rel C st' a w
theorem Le.refl (st:St):Le st st:=fun _ _ _ h=>h
theorem Le.trans {s t u:St} (h:Le s t) (k:Le t u):Le s u:=fun C a w x=>k C a w (h C a w x)
structure RD (C:Ctx) where
 rd:Option Nat
 ok:C.yl=none→rd=none
def Vwp (P:Program) (nt:Nat) (c:Code) (Q:Exit→St→Prop) (st:St):Prop:=
 ∀(C:Ctx),C.P=P→C.nt=nt→ ∀(rd:RD C) (a:Act) (w:World),Rel C st a w→c.wpIn (FW rd.rd) 0 P (fun e a' w'=> ∃st',Q e st'∧Rel C st' a' w') a w
def vthen (K:St→Prop) (Q:Exit→St→Prop):Exit→St→Prop
 | .normal,s=>K s
 |e,s=>Q e s
def vblock (id:Nat) (Q:Exit→St→Prop):Exit→St→Prop
 | .exit i,s=>if i=id then Q .normal s else Q (.exit i) s
 |e,s=>Q e s
section
variable {P:Program} {nt:Nat} {Q:Exit→St→Prop} {st:St}
theorem Qdt {c:Code} {Q':Exit→St→Prop} (h:Vwp P nt c Q st) (hq: ∀e s,Q e s→Q' e s):Vwp P nt c Q' st:=
 fun C h1 h2 rd a w hr=>wpIn_mono (h C h1 h2 rd a w hr) fun _ _ _ ⟨s,q,r⟩=>⟨s,hq _ _ q,r⟩
theorem Zo5 {c:Code} {st':St} (h:Vwp P nt c Q st') (hl:Le st st'):Vwp P nt c Q st:=fun C h1 h2 rd a w hr=>h C h1 h2 rd a w (hl C a w hr)
theorem Zm5 (h:Q .normal st):Vwp P nt .skip Q st:=fun _ _ _ _ _ _ hr=>wpIn_skip ⟨st,h,hr⟩
theorem Zc6 {l:Nat} (h:Q .normal st):Vwp P nt (.label l) Q st:=fun _ _ _ _ _ _ hr=>wpIn_label ⟨st,h,hr⟩
theorem Zm6 {id:Nat} (h:Q (.exit id) st):Vwp P nt (.exit id) Q st:=fun _ _ _ _ _ _ hr=>wpIn_exit ⟨st,h,hr⟩
theorem Zvy (h:Q .ret st):Vwp P nt .ret Q st:=fun _ _ _ _ _ _ hr=>wpIn_ret ⟨st,h,hr⟩
theorem Zc7 {x y:Code} (h:Vwp P nt x (vthen (Vwp P nt y Q) Q) st):Vwp P nt (.seq x y) Q st:=fun C h1 h2 rd a w hr=>
 wpIn_seq (wpIn_mono (h C h1 h2 rd a w hr) fun e a' w' ⟨s,q,r⟩=>by
  cases e with
  |normal=>exact q C h1 h2 rd a' w' r
  |_=>exact⟨s,q,r⟩)
theorem Zc8 {id:Nat} {c:Code} (h:Vwp P nt c (vblock id Q) st):Vwp P nt (.block id c) Q st:=fun C h1 h2 rd a w hr=>
 wpIn_block (wpIn_mono (h C h1 h2 rd a w hr) fun e a' w' ⟨s,q,r⟩=>by
  cases e with
  |exit i=>
   simp only [vblock]at q;simp only [Exit.inBlock];split
   ·rename_i hi;rw [if_pos hi]at q;exact⟨s,q,r⟩
   ·rename_i hi;rw [if_neg hi]at q;exact⟨s,q,r⟩
  |_=>exact⟨s,q,r⟩)
theorem Qza {c:Operand} {x y:Code} {b:Bool} (hc:st.ev c=some (.bool b)) (h:Vwp P nt (if b then x else y) Q st):Vwp P nt (.cond c x y) Q st:=fun C h1 h2 rd a w hr=>by
 obtain⟨ρ,im,hr'⟩:=hr;exact wpIn_cond (Qs2 hr' hc).bool_inv (h C h1 h2 rd a w ⟨ρ,im,hr'⟩)
theorem LR.anyB_inv {w:World} {im:Im} {ρ:Rho} {u:Value} (h:LR w im ρ .anyB u): ∃b,u= .bool b:=by
 cases h with
 |ext _ _ h=>cases h with|anyB b=>exact⟨b,rfl⟩
theorem Qt2 {c:Operand} {x y:Code} (hc:st.ev c=some .anyB) (h1:Vwp P nt x Q st) (h2:Vwp P nt y Q st):Vwp P nt (.cond c x y) Q st:=fun C e1 e2 rd a w hr=>by
 obtain⟨ρ,im,hr'⟩:=hr;obtain⟨b,hb⟩:=(Qs2 hr' hc).anyB_inv;cases b with
 |true=>exact wpIn_cond hb (by simpa using h1 C e1 e2 rd a w ⟨ρ,im,hr'⟩)
 |false=>exact wpIn_cond hb (by simpa using h2 C e1 e2 rd a w ⟨ρ,im,hr'⟩)
theorem Qzb {α:Type} (I:α→St) (μ:α→Nat) {c:Code} (x0:α) (h0:Le st (I x0)) (round: ∀x,Vwp P nt c (vthen (fun s=> ∃y,μ y<μ x∧Le s (I y)) Q) (I x)):
  Vwp P nt (.loop c) Q st:=fun C h1 h2 rd a w hr=>by
 subst h1;subst h2;intro b k cs hro hb hroom;have key: ∀n x,μ x=n→ ∀a w,Rel C (I x) a w→ ∃e a' w',(∃st',Q e st'∧Rel C st' a' w')∧ArrivesIn (Machine.fenced C.P (FW rd.rd)) C.P (lone (b.atR a (.code c:: .inLoop c::k)) cs w) b k cs e a' w':=by
  intro n
  induction n using Nat.strongRecOn with
  |_ n ih=>
   intro x hx a w hr;obtain⟨e,a₁,w₁,⟨s,hq,hr1⟩,harr⟩:=round x C rfl rfl rd a w hr b (.inLoop c::k) cs hro hb hroom;cases e with
   |normal=>
    obtain⟨y,hlt,hle⟩:=hq;obtain⟨e₂,a₂,w₂,hq₂,harr₂⟩:=ih (μ y) (hx▸hlt) y rfl a₁ w₁ (hle C a₁ w₁ hr1);exact⟨e₂,a₂,w₂,hq₂,.of_steps (StepsIn.trans harr (.one (fenced_calm hb hroom rfl) stepR_inLoop)) harr₂⟩
   |exit id=>exact⟨_,a₁,w₁,⟨s,hq,hr1⟩,.pass (x:= .inLoop c) rfl (fun _ _=> .inl (by simp)) harr⟩
   |goto l=>exact⟨_,a₁,w₁,⟨s,hq,hr1⟩,.pass (x:= .inLoop c) rfl (fun _ _=> .inl (by simp)) harr⟩
   |ret=>exact⟨_,a₁,w₁,⟨s,hq,hr1⟩,.pass (x:= .inLoop c) rfl (fun _ _=> .inl (by simp)) harr⟩
   |panic ch=>exact⟨_,a₁,w₁,⟨s,hq,hr1⟩,.pass (x:= .inLoop c) rfl (fun _ _=> .inl (by simp)) harr⟩
   |outgrown=>exact⟨_,a₁,w₁,⟨s,hq,hr1⟩,.pass (x:= .inLoop c) rfl (fun _ _=> .inl (by simp)) harr⟩
 obtain⟨e,a',w',hq,harr⟩:=key _ x0 rfl a w (h0 C a w hr);exact⟨e,a',w',hq,.of_steps (.one (fenced_calm hb hroom rfl) stepR_loop) harr⟩
def Q21 (nt:Nat) (o:Oper):Bool:=match o.dst with
 |some t=>decide (t<nt)
 |none=>true
def vcall (P:Program) (f:FuncId) (args:List PV) (K:PV→Prop):Prop:= ∃r,Qaf P f args r∧K r
def Qlu (x:Option Bool) (no yes:Unit→Prop):Prop:=match x with
 |some false=>no ()
 |some true=>yes ()
 |none=>False
def Qt3 (x:Option (List PV)) (K:List PV→Prop):Prop:=match x with
 |some vs=>K vs
 |none=>False
def Zm7 (P:Program) (o:List (List PV)) (yl:Yl) (x:Option (Out×Acc)) (K:PV→List Eff→Acc→Prop):Prop:=match x with
 |some (.done v es,l)=>K v es (l++Qcm es)
 |some (.call f args es,l)=>vcall P f args fun r=>K r (if Qhs r then []else es) (l++Qcm es)
 |some (.callB f args bxs es θ ν,l)=> ∃r bxs' r' ef,Qbv P f args bxs r bxs'∧land θ ν bxs' r=some (r',ef)∧K r' ((if Qj3 r bxs' then []else es)++ef) (l++Qcm es++Qcm ef)
 |some (.yield n stop args es,l)=>yOk yl n stop o args∧K (.bool (decide (o.length<stop))) (es++[.yld args]) (l++Qcm es++[(YID,true)])
 |none=>False
def vops (P:Program) (tb:Tab) (ops:Array Oper) (nt base:Nat):Nat→List Oper→St→List Acc→(St→List Acc→Prop)→Prop
 |_,[],st,accs,K=>K st accs
 |i,o::rest,st,accs,K=>Q21 nt o=true∧Qlu (Qcp ops o st) (fun _=>vops P tb ops nt base (i+1) rest (st.put o.dst (.tup [])) ([]::accs) K)
   (fun _=>Qt3 (st.evs o.op.operands.toList) fun vs=>Zm7 P st.out st.yl (Qa6 P tb (base+i) o.op vs st.box) fun v es l=>vops P tb ops nt base (i+1) rest ((Qan es st).put o.dst v) (l::accs) K)
theorem Qfd {tb:Tab} {ops:Array Oper} {nt base:Nat} {K K':St→List Acc→Prop} (hK: ∀s l,K s l→K' s l): ∀(rest:List Oper) (i:Nat) (st:St) (accs:List Acc),
  vops P tb ops nt base i rest st accs K→vops P tb ops nt base i rest st accs K'
 | [],i,st,accs,h=>by simp only [vops]at h ⊢;exact hK _ _ h
 |o::rest,i,st,accs,h=>by
  simp only [vops]at h ⊢;refine⟨h.1,?_⟩;have h2:=h.2;cases hw:Qcp ops o st with
  |none=>rw [hw]at h2;exact h2.elim
  |some b=>
   rw [hw]at h2;cases b with
   |false=>exact Qfd hK rest _ _ _ h2
   |true=>
    simp only [Qlu]at h2 ⊢;cases hv:st.evs o.op.operands.toList with
    |none=>rw [hv]at h2;exact h2.elim
    |some vs=>
     rw [hv]at h2;simp only [Qt3]at h2 ⊢;cases ho:Qa6 P tb (base+i) o.op vs st.box with
     |none=>rw [ho]at h2;exact h2.elim
     |some p=>
      obtain⟨x,l⟩:=p;rw [ho]at h2;cases x with
      |done v es=>exact Qfd hK rest _ _ _ h2
      |call f args es=>obtain⟨r,h3,h4⟩:=h2;exact⟨r,h3,Qfd hK rest _ _ _ h4⟩
      |callB f args bxs es θ ν=>obtain⟨r,bxs',r',ef,h3,h4,h5⟩:=h2;exact⟨r,bxs',r',ef,h3,h4,Qfd hK rest _ _ _ h5⟩
      |yield n stop args es=>obtain⟨h3,h5⟩:=h2;exact⟨h3,Qfd hK rest _ _ _ h5⟩
theorem Qzc {tb:Tab} {ops:Array Oper} {nt base:Nat} {K:St→List Acc→Prop}: ∀(rest:List Oper) (i:Nat) (st:St) (accs:List Acc),(∀j:Nat,rest[j]? =ops[i+j]?)→vops P tb ops nt base i rest st accs K→
  ∃(recs:List Rec) (st':St),recs.length=rest.length∧(∀o∈rest,Q21 nt o=true)∧K st' ((recs.map Rec.acc).reverse++accs)∧
   ∀f:Nat→Rec,(∀j:Nat,j<recs.length→some (f (i+j))=recs[j]?)→RunL P tb ops base f (List.range' i rest.length) st st'
 | [],i,st,accs,_,h=>⟨[],st,rfl,by simp,by simpa [vops]using h,fun f _=> .nil st⟩
 |o::rest,i,st,accs,hg,h=>by
  obtain⟨hd,h⟩:=h;have ho:ops[i]? =some o:=by simpa using (hg 0).symm
  have hg': ∀j:Nat,rest[j]? =ops[i+1+j]? :=fun j=>by have:=hg (j+1);simpa [Nat.add_assoc,Nat.add_comm 1 j]using this
  have go: ∀(r:Rec),OpRun P tb ops st (base+i) o r→vops P tb ops nt base (i+1) rest (r.on o.dst st) (r.acc::accs) K→
    ∃(recs:List Rec) (st':St),recs.length=(o::rest).length∧(∀o'∈o::rest,Q21 nt o'=true)∧K st' ((recs.map Rec.acc).reverse++accs)∧
     ∀f:Nat→Rec,(∀j:Nat,j<recs.length→some (f (i+j))=recs[j]?)→RunL P tb ops base f (List.range' i (o::rest).length) st st':=by
   intro r hr hv;obtain⟨recs,st',k1,k2,k3,k4⟩:=Qzc rest (i+1) _ _ hg' hv;refine⟨r::recs,st',by simp [k1],?_,by simpa using k3,?_⟩
   ·intro o' ho';rcases List.mem_cons.1 ho' with rfl|ho'
    ·exact hd
    ·exact k2 o' ho'
   ·intro f hf;have f0:f i=r:=by have:=hf 0 (by simp);simpa using this
    rw [List.length_cons,List.range'_succ];refine .cons i _ st st' o ho (by rw [f0];exact hr) ?_;rw [f0];exact k4 f fun j hj=>by have:=hf (j+1) (by simp;omega);simpa [Nat.add_assoc,Nat.add_comm 1 j]using this
  cases hw:Qcp ops o st with
  |none=>rw [hw]at h;exact h.elim
  |some b=>
   rw [hw]at h;cases b with
   |false=>exact go ⟨.tup [],[],[]⟩ (.skip hw) h
   |true=>
    simp only [Qlu]at h;cases hvs:st.evs o.op.operands.toList with
    |none=>rw [hvs]at h;exact h.elim
    |some vs=>
     rw [hvs]at h;simp only [Qt3]at h;cases he:Qa6 P tb (base+i) o.op vs st.box with
     |none=>rw [he]at h;exact h.elim
     |some p=>
      obtain⟨x,l⟩:=p;rw [he]at h;cases x with
      |done v es=>exact go ⟨v,es,l++Qcm es⟩ (.done hw vs hvs v es l he) h
      |call f args es=>
       obtain⟨r,hs,h⟩:=h;exact go ⟨r,if Qhs r then []else es,l++Qcm es⟩ (.call hw vs hvs f args es l r he hs) h
      |callB f args bxs es θ ν=>
       obtain⟨r,bxs',r',ef,hs,hl,h⟩:=h;exact go ⟨r',(if Qj3 r bxs' then []else es)++ef,l++Qcm es++Qcm ef⟩ (.callB hw vs hvs f args bxs es θ ν l r bxs' r' ef he hs hl) h
      |yield n stop args es=>
       obtain⟨hy,h⟩:=h;exact go ⟨.bool (decide (st.out.length<stop)),es++[Eff.yld args],l++Qcm es++[(YID,true)]⟩ (.yield hw vs hvs n stop args es l he hy) h
theorem Q22 {tb:Tab} {id:Nat} {ops:Array Oper} {draw:Bool} (base:Nat) (hm:P.follows .mixedOrders=true) (hL:base+ops.size≤LENT)
  (h:vops P tb ops nt base 0 ops.toList st [] fun st' accs=>(draw=true→Qpl ops accs.reverse=true)∧Q .normal st'):Vwp P nt (.region id ops draw) Q st:=fun C h1 h2 rd a w hr=>by
 subst h1;subst h2;obtain⟨recs,st',k1,k2,⟨k3,k5⟩,k4⟩:=Qzc ops.toList 0 st [] (by simp) h;have hrun:=k4 (fun j=>recs.getD j ⟨.undef,[],[]⟩) (fun j hj=>by simp [hj]);have hr':List.range' 0 ops.toList.length=List.range ops.size:=by simp [List.range_eq_range']
 rw [hr']at hrun;refine Zc5 hm hL ?_ hrun hr (accs:=recs.map Rec.acc) ?_ (by simpa using k3) fun a' w' hr''=>⟨st',k5,hr''⟩
 ·intro i o ho t ht;have:=k2 o (by have:=List.mem_of_getElem? (show ops.toList[i]? =some o by simpa using ho);exact this);simpa [Q21,ht]using this
 ·intro i hi;have:i<recs.length:=by rw [k1];simpa using hi
  simp [this]
end
def St.ofG (vs:List (Nat×PV)) (bs:List (Nat×Box)) (o:List (List PV)) (y:Yl):St:=⟨lkp vs,lkp bs,o,y⟩
abbrev St.of (vs:List (Nat×PV)) (bs:List (Nat×Box)):St:=St.ofG vs bs [] none
section
variable (vs:List (Nat×PV)) (bs:List (Nat×Box)) (o:List (List PV)) (y:Yl)
theorem Z0g (t:Nat) (v:PV):(St.ofG vs bs o y).put (some t) v=St.ofG ((t,v)::vs) bs o y:=rfl
theorem Qw1 (v:PV):(St.ofG vs bs o y).put none v=St.ofG vs bs o y:=rfl
theorem Zc9 (b:Nat) (B:Box):(St.ofG vs bs o y).setBox b B=St.ofG vs ((b,B)::bs) o y:=rfl
theorem Z0h (args:List PV):(Eff.yld args).on (St.ofG vs bs o y)=St.ofG vs bs (o++[args]) y:=rfl
theorem Qzd:(St.ofG vs bs o y).var=lkp vs:=rfl
theorem Qhy:(St.ofG vs bs o y).box=lkp bs:=rfl
theorem Z0i:(St.ofG vs bs o y).out=o:=rfl
theorem Z2l:(St.ofG vs bs o y).yl=y:=rfl
end
def Box.renames (θ:List (Nat×Nat)) (B' B:Box):Prop:=
 B'.esz=B.esz∧B'.ety=B.ety∧B'.fro=B.fro∧B'.live=B.live∧(B'.arr,B'.mp)=(B.arr,B.mp)∧
  ((B'.arr=true∧B.els=B'.els)∨(B'.arr=false∧ ∃v v',B'.els=[v']∧B.els=[v]∧ren1 θ v'=some v∧Qa4 v'.cells=true))
def Qac (θ:List (Nat×Nat)) (vs:List (Nat×PV)):List (Nat×PV)→Prop
 | []=>True
 |(t,v)::rest=>(match lkp vs t with
  |some x=>ren1 θ v=some x
  |none=>False)∧Qac θ vs rest
def Qaz (θ:List (Nat×Nat)) (bs:List (Nat×Box)):List (Nat×Box)→Prop
 | []=>True
 |(b,B')::rest=>(match lkp θ b with
  |some b0=>match lkp bs b0 with
   |some B=>Box.renames θ B' B
   |none=>False
  |none=>False)∧Qaz θ bs rest
theorem Qfx {θ:List (Nat×Nat)} {vs vs':List (Nat×PV)} (h:Qac θ vs vs') {t:Nat} {v:PV} (hv:lkp vs' t=some v): ∃x,lkp vs t=some x∧ren1 θ v=some x:=by
 induction vs' with
 |nil=>cases hv
 |cons p rest ih=>
  obtain⟨k,x⟩:=p;unfold lkp at hv;split at hv
  ·rename_i e;cases hv;subst e;have h1:=h.1;cases e1:lkp vs t with
   |none=>rw [e1]at h1;exact h1.elim
   |some x=>rw [e1]at h1;exact⟨x,rfl,h1⟩
  ·exact ih h.2 hv
theorem Qt4 {θ:List (Nat×Nat)} {bs bs':List (Nat×Box)} (h:Qaz θ bs bs') {b:Nat} {B':Box} (hv:lkp bs' b=some B'): ∃b0 B,lkp θ b=some b0∧lkp bs b0=some B∧Box.renames θ B' B:=by
 induction bs' with
 |nil=>cases hv
 |cons p rest ih=>
  obtain⟨k,x⟩:=p;unfold lkp at hv;split at hv
  ·rename_i e;cases hv;subst e;have h1:=h.1;cases e1:lkp θ b with
   |none=>rw [e1]at h1;exact h1.elim
   |some b0=>
    rw [e1]at h1;cases e2:lkp bs b0 with
    |none=>simp only [e2]at h1
    |some B=>simp only [e2]at h1;exact⟨b0,B,rfl,e2,h1⟩
  ·exact ih h.2 hv
section
variable {w:World} {im:Im} {ρ ρ':Rho} {θ:List (Nat×Nat)}
theorem Qze (hρ: ∀b b0 x,lkp θ b=some b0→ρ b0=some x→ρ' b=some x) {v v':PV} {u:Value} (hr:ren0 θ v'=some v) (h:LR w im ρ v u):LR w im ρ' v' u:=by
 unfold ren0 at hr;split at hr
 ·rename_i b esz i off;split at hr
  ·rename_i b0 hb;cases hr;obtain⟨g,hg,rfl⟩:=h.bp_inv;exact .bp _ _ _ _ g _ (hρ _ _ _ hb hg) rfl
  ·cases hr
 ·rename_i b esz off len;split at hr
  ·rename_i b0 hb;cases hr;rcases h.bs_inv with⟨e,⟨x,rfl⟩,rfl,rfl⟩|⟨g,cap,cur,e,hg,rfl,ho,hc,hl,hm⟩
   ·exact .bsNil _ _ x (hρ _ _ _ hb e)
   ·exact .bs _ _ _ _ g _ cap cur e (hρ _ _ _ hb hg) ho rfl hc hl hm
  ·cases hr
 ·rename_i b;split at hr
  ·rename_i b0 hb;cases hr;obtain⟨g,hg,rfl⟩:=h.mp_inv;exact .mp _ g (hρ _ _ _ hb hg)
  ·cases hr
 ·cases hr;obtain⟨a,b,rfl,h1,h2⟩:=h.fn_inv;cases h1.nil_inv;cases h2.nil_inv;exact .ext _ _ (.fn _ [] [] [] [] .nil .nil)
 ·cases hr
 ·cases hr
 ·cases hr
 ·rename_i n1 n2 n3 n4 n5 n6 n7;cases hr;cases h with
  |ext _ _ h=>exact .ext _ _ h
  |undef u=>exact .undef u
  |bp=>exact absurd rfl (n1 _ _ _ _)
  |bsNil=>exact absurd rfl (n2 _ _ _ _)
  |bs=>exact absurd rfl (n2 _ _ _ _)
  |mp=>exact absurd rfl (n3 _)
  |agg=>exact absurd rfl (n6 _)
  |tup=>exact absurd rfl (n7 _)
  |fn=>exact absurd rfl (n5 _ _ _)
theorem Qgx (hρ: ∀b b0 x,lkp θ b=some b0→ρ b0=some x→ρ' b=some x): ∀{vs vs':List PV} {us:List Value},Qah θ vs'=some vs→LRL w im ρ vs us→LRL w im ρ' vs' us
 |vs,[],us,hr,h=>by simp [Qah]at hr;subst hr;cases h.nil_inv;exact .nil
 |vs,v'::vs',us,hr,h=>by
  unfold Qah at hr;split at hr
  ·cases hr
  ·rename_i x hx;split at hr
   ·cases hr
   ·rename_i xs hxs;cases hr;obtain⟨u,us',rfl,h1,h2⟩:=h.cons_inv;exact .cons _ _ _ _ (Qze hρ hx h1) (Qgx hρ hxs h2)
theorem Qhk (hρ: ∀b b0 x,lkp θ b=some b0→ρ b0=some x→ρ' b=some x) {v v':PV} {u:Value} (hr:ren1 θ v'=some v) (h:LR w im ρ v u):LR w im ρ' v' u:=by
 unfold ren1 at hr;split at hr
 ·split at hr
  ·rename_i xs hxs;cases hr;obtain⟨us,rfl,h1⟩:=h.agg_inv;exact .agg _ _ (Qgx hρ hxs h1)
  ·cases hr
 ·cases hr;obtain⟨us,rfl,h1⟩:=h.tup_inv;cases h1.nil_inv;exact .tup [] [] .nil
 ·split at hr
  ·cases hr
  ·rename_i x hx;split at hr
   ·cases hr
   ·rename_i y hy;cases hr;obtain⟨a,b,rfl,h1,h2⟩:=h.fn_inv;exact .fn _ _ _ _ _ (Qgx hρ hx h1) (Qgx hρ hy h2)
 ·exact Qze hρ hr h
theorem Qk6: ∀{vs' vs:List PV},Qah θ vs'=some vs→vs'.length=vs.length
 | [],vs,h=>by simp [Qah]at h;subst h;rfl
 |v'::vs',vs,h=>by
  unfold Qah at h;split at h
  ·cases h
  ·split at h
   ·cases h
   ·rename_i xs hxs;cases h;simp [Qk6 hxs]
theorem Qhl {v v':PV} (hr:ren1 θ v'=some v) (ho:Qa4 v'.cells=true):v'.cells.length=v.cells.length∧
  ∀(ρ ρ':Rho),(∀b b0 x,lkp θ b=some b0→ρ b0=some x→ρ' b=some x)→ ∀us,LRL w im ρ v.cells us→LRL w im ρ' v'.cells us:=by
 have one:v'.cells=[v']→v.cells=[v]→v'.cells.length=v.cells.length∧
   ∀(ρ ρ':Rho),(∀b b0 x,lkp θ b=some b0→ρ b0=some x→ρ' b=some x)→ ∀us,LRL w im ρ v.cells us→LRL w im ρ' v'.cells us:=by
  intro e1 e2;rw [e1,e2];refine⟨rfl,fun ρ ρ' hρ us h=> ?_⟩;obtain⟨u,rfl,h1⟩:=h.one_inv;exact .cons _ _ _ _ (Qhk hρ hr h1) .nil
 cases v' with
 |agg cs=>
  simp only [ren1]at hr;split at hr
  ·rename_i xs hxs;cases hr;exact⟨Qk6 hxs,fun ρ ρ' hρ us h=>Qgx hρ hxs h⟩
  ·cases hr
 |tup vs=>simp [PV.cells,Qa4,PV.okCell]at ho
 |undef=>simp [PV.cells,Qa4,PV.okCell]at ho
 |fn f a c=>
  refine one rfl ?_;cases ha:Qah θ a with
  |none=>simp [ren1,ha]at hr
  |some x=>
   cases hc:Qah θ c with
   |none=>simp [ren1,ha,hc]at hr
   |some y=>simp [ren1,ha,hc]at hr;subst hr;rfl
 |bp b e i o=>refine one rfl ?_;simp only [ren1,ren0]at hr;split at hr<;>cases hr;rfl
 |bs b e i o=>refine one rfl ?_;simp only [ren1,ren0]at hr;split at hr<;>cases hr;rfl
 |mp b=>refine one rfl ?_;simp only [ren1,ren0]at hr;split at hr<;>cases hr;rfl
 |_=>exact one rfl (by simp only [ren1,ren0,Option.some.injEq]at hr;subst hr;rfl)
end
def Qh4 (θ:List (Nat×Nat)) (bs':List (Nat×Box)):Bool:=Qi2 θ&&θ.all fun p=>(lkp bs' p.1).isSome&&(Nat.blt p.1 LENT||p.1==p.2)
theorem Qaj {θ:List (Nat×Nat)} {vs vs':List (Nat×PV)} {bs bs':List (Nat×Box)} {o:List (List PV)} {y:Yl} (hθ:Qh4 θ bs'=true) (hv:Qac θ vs vs') (hb:Qaz θ bs bs'):Le (St.ofG vs bs o y) (St.ofG vs' bs' o y):=by
 simp only [Qh4,Bool.and_eq_true]at hθ;obtain⟨hκ,hθ⟩:=hθ;have hinj: ∀b1 b2 b0,lkp θ b1=some b0→lkp θ b2=some b0→b1=b2:=by
  intro b1 b2 b0 e1 e2;have z1:=(Qbt hκ).1 e1;have z2:=(Qbt hκ).1 e2;rw [z1]at z2;exact Option.some.inj z2
 have hall: ∀b b0,lkp θ b=some b0→(lkp bs' b).isSome=true∧(LENT≤b→b0=b):=by
  intro b b0 e;have:=List.all_eq_true.1 hθ _ (Qce e);simp only [Bool.and_eq_true,Bool.or_eq_true,beq_iff_eq]at this;refine⟨this.1,fun hL=> ?_⟩;rcases this.2 with q|q
  ·have:=Nat.le_of_ble_eq_true q;omega
  ·exact q.symm
 have hkey: ∀b b0,lkp θ b=some b0→(lkp bs' b).isSome=true:=fun b b0 e=>(hall b b0 e).1;rintro C a w ⟨ρ,im,h⟩;have hthere: ∀b B',lkp bs' b=some B'→ ∃b0 B x,lkp θ b=some b0∧lkp bs b0=some B∧Box.renames θ B' B∧ρ b0=some x:=by
  intro b B' hB';obtain⟨b0,B,e1,e2,e3⟩:=Qt4 hb hB';cases hx:ρ b0 with
  |none=>
   have:=(h.rho b0).1 hx;simp only [Qhy]at this;rw [e2]at this;cases this
  |some x=>exact⟨b0,B,x,e1,e2,e3,hx⟩
 obtain⟨ρ',hρ'⟩: ∃ρ':Rho,∀b,ρ' b=(lkp θ b).bind ρ:=⟨fun b=>(lkp θ b).bind ρ,fun _=>rfl⟩;have hρ: ∀b b0 x,lkp θ b=some b0→ρ b0=some x→ρ' b=some x:=by
  intro b b0 x e1 e2;rw [hρ',e1];exact e2
 have hback: ∀b x,ρ' b=some x→ ∃b0,lkp θ b=some b0∧ρ b0=some x:=by
  intro b x e;rw [hρ']at e;cases hb0:lkp θ b with
  |none=>rw [hb0]at e;cases e
  |some b0=>rw [hb0]at e;exact⟨b0,rfl,e⟩
 refine⟨ρ',im,h.step ⟨.refl _ _ _,Keeps.refl _ _,?_,fun _ _ x=>x,fun _ _ x=> .inl x⟩ ?_,h.nt,h.dfr,h.imc,?_,?_,?_,?_⟩
 ·rintro g ⟨b,hb'⟩;obtain⟨b0,_,e⟩:=hback b _ hb';exact .inl ⟨b0,e⟩
 ·intro b x x' hL h0 hx';obtain⟨b0,e1,e2⟩:=hback b x' hx';rw [(hall b b0 e1).2 hL]at e2;exact h.root.rho0 b x x' hL h0 e2
 ·intro t v hvt;obtain⟨x,e1,e2⟩:=Qfx hv hvt;exact Qhk hρ e2 (h.var t x e1)
 ·intro b;constructor
  ·intro e;cases hB':lkp bs' b with
   |none=>exact hB'
   |some B'=>
    obtain⟨b0,B,x,e1,_,_,e4⟩:=hthere b B' hB';rw [hρ b b0 x e1 e4]at e;cases e
  ·intro e;rw [hρ'];cases hb0:lkp θ b with
   |none=>rfl
   |some b0=>have:=hkey b b0 hb0;simp only [Qhy]at e;rw [e]at this;cases this
 ·intro b x B' hx hB';obtain⟨b0,B,x0,e1,e2,⟨r1,r2,r3,r4,r5,r6⟩,e4⟩:=hthere b B' hB';obtain⟨r5,rm⟩:=Prod.mk.inj r5;rw [hρ b b0 x0 e1 e4]at hx;cases hx;have hbox:=h.box b0 x B e4 e2;cases x with
  |none=>
   obtain⟨z1,z2,z3,z4⟩:=hbox;rcases r6 with⟨_,r6⟩|⟨q1,v,v',q2,q3,_⟩
   ·exact⟨by rw [←r6];exact z1,by rw [r5];exact z2,by rw [r3];exact z3,by rw [r1];exact z4⟩
   ·rw [q3]at z1;cases z1
  |some g=>
   obtain⟨h1,h2,h3,h4,⟨hmn,cur,us,rest,h5,h6,h7,h8,h9,h10,h11⟩|hm⟩:=hbox
   case inr=>
    rcases r6 with⟨ra,r6⟩|⟨q1,v,v',q2,q3,q4,q5⟩
    ·obtain⟨m1,m2,m3,m4⟩:=hm;exact⟨h1,by rw [r3,←r6];exact h2,by rw [r1];exact h3,by rw [r1,←r6];exact h4,.inr ⟨by rw [←r6];exact m1,ra,by rw [r4];exact m3,by rw [rm];exact m4⟩⟩
    ·rw [hm.1]at q3;cases q3
   rcases r6 with⟨ra,r6⟩|⟨q1,v,v',q2,q3,q4,q5⟩
   ·refine⟨h1,by rw [r3,←r6];exact h2,by rw [r1];exact h3,by rw [r1,←r6];exact h4,.inl ⟨rm.trans hmn,cur,us,rest,by rw [r2];exact h5,h6,?_,by rw [r5,←r6];exact h8,h9,by rw [r3,r1,r4];exact h10,by rw [r3,r1,r4];exact h11⟩⟩;rw [←r6];exact(h8 (by rw [←r5];exact ra)).toLRL
   ·obtain⟨k1,k2⟩:=Qhl (w:=w) (im:=im) q4 q5;rw [q3]at h2 h4 h7 h8;simp only [List.flatMap_cons,List.flatMap_nil,List.append_nil]at h7 h8;refine⟨h1,by rw [r3,q2];exact h2,by rw [r1];exact h3,?_,.inl ⟨rm.trans hmn,cur,us,rest,by rw [r2];exact h5,h6,?_,?_,h9,by rw [r3,r1,r4];exact h10,by rw [r3,r1,r4];exact h11⟩⟩
    ·intro e he;rw [q2]at he;simp only [List.mem_singleton]at he;subst he;rw [k1,r1];exact h4 v (by simp)
    ·rw [q2];simpa using k2 ρ ρ' hρ us h7
    ·intro ha;rw [q1]at ha;cases ha
 ·intro b1 b2 g B1 B2 p1 p2 e1 e2 l1 l2;obtain⟨b01,t1,t2⟩:=hback b1 _ p1;obtain⟨b02,t3,t4⟩:=hback b2 _ p2;obtain⟨c01,D1,x1,u1,u2,⟨_,_,_,v1,_⟩,u4⟩:=hthere b1 B1 e1;obtain⟨c02,D2,x2,u5,u6,⟨_,_,_,v2,_⟩,u8⟩:=hthere b2 B2 e2;rw [t1]at u1;cases u1;rw [t3]at u5;cases u5;have:=h.inj b01 b02 g D1 D2 t2 t4 u2 u6 (by rw [←v1];exact l1) (by rw [←v2];exact l2);subst this;exact hinj b1 b2 b01 t1 t3
theorem Z0j {st:St} {t b esz:Nat} {ety:TypeId} (hbL:Nat.blt b LENT=true) (ht:st.var t=some .nilS) (hb:st.box b=none) (hz:0<esz):
  Le st ((st.setBox b {els:=[],esz:=esz,ety:=ety,fro:=0,live:=true,arr:=true}).setVar t (.bs b esz 0 0)):=by
 rintro C a w ⟨ρ,im,h⟩;have hv:=(h.var t _ ht).nilS_inv;obtain⟨h1,h2⟩:=h.addBox ⟨.refl _ _ _,Keeps.refl _ _,fun _ x=> .inl x,fun _ _ x=>x,fun _ _ x=> .inl x⟩ h (Nat.le_of_ble_eq_true hbL) hb {els:=[],esz:=esz,ety:=ety,fro:=0,live:=true,arr:=true} none (by intro g e;cases e) ⟨rfl,rfl,rfl,hz⟩ (by intro b' g B' e;cases e);refine⟨upd ρ b (some none),im,h1.root,h1.nt,h1.dfr,h1.imc,?_,h1.rho,h1.box,h1.inj⟩;intro t' v' hv';simp only [St.setVar,upd]at hv';split at hv'
 ·rename_i e;cases hv';subst e;rw [hv];exact .bsNil b esz none (Qao _ _ _)
 ·exact h1.var t' v' hv'
def Qrh (P:Program) (st:St):ResultVar→M PV
 | .tmp t=> .ofOpt (st.var t)
 | .cell p T=>match st.var p with
  |some (.bp b esz i off)=> .bind (.soft b) fun B=> .bind (.ok (B.esz==esz)) fun _=> .bind (.ofOpt B.els[i]?) fun e=> .ofOpt (Qdf P T e.cells off)
  |some (.rp cs)=> .ofOpt (Qdf P T cs 0)
  |_=> .fail
def Qe1 (P:Program) (st:St):List ResultVar→M (List PV)
 | []=> .pure []
 |r::rs=> .bind (Qrh P st r) fun v=> .bind (Qe1 P st rs) fun vs=> .pure (v::vs)
def Qnt:List PV→PV
 | [v]=>v
 |vs=> .tup vs
def Q23 (P:Program) (rs:List ResultVar) (st:St):Option PV:=match(M.bind (Qe1 P st rs) Qgh) st.box with
 |some ((vs,_),_)=>some (Qnt vs)
 |none=>none
def vret (P:Program) (rs:List ResultVar) (R:PV→Prop):Exit→St→Prop
 | .normal,s| .ret,s=>match Q23 P rs s with
  |some r=>R r
  |none=>False
 |_,_=>False
def Qcf:Nat→List PV→List (Nat×PV)
 |_,[]=>[]
 |i,v::vs=>(i,v)::Qcf (i+1) vs
theorem Qea: ∀(vs:List PV) (i t:Nat) (v:PV),lkp (Qcf i vs) t=some v→i≤t∧vs[t-i]? =some v
 | [],_,_,_,h=>by cases h
 |x::vs,i,t,v,h=>by
  unfold Qcf lkp at h;split at h
  ·rename_i e;cases h;subst e;simp
  ·obtain⟨h1,h2⟩:=Qea vs (i+1) t v h;refine⟨by omega,?_⟩;have:t-i=(t-(i+1))+1:=by omega
   rw [this,List.getElem?_cons_succ];exact h2
def Qt5 (tmps:Array Value):ResultVar→Sem Value
 | .tmp t=>pure (tmps.getD t undef)
 | .cell a t=>do loadVar t (←asAddr (tmps.getD a undef))
theorem Q24 (fn:Func) (tmps:Array Value):results fn tmps=(do let vs←fn.results.mapM (Qt5 tmps);pure (if h:vs.size=1 then vs[0]else .tuple vs)):=by
 unfold results;congr 1
section
variable {C:Ctx} {st:St} {a:Act} {w:World}
theorem Qw2 {ρ:Rho} {im:Im} (h:Rel' C st a w ρ im) {r:ResultVar} {v:PV} {l:Acc} (he:Qrh C.P st r st.box=some (v,l)):
  ∃u,(Qt5 a.tmps r).run C.P w= .ok u w∧LR w im ρ v u:=by
 cases r with
 |tmp t=>
  obtain⟨e,_⟩:=M.ofOpt_some (bx:=st.box) he;exact⟨_,rfl,h.var t v e⟩
 |cell p T=>
  simp only [Qrh]at he;cases hp:st.var p with
  |none=>rw [hp]at he;cases he
  |some x=>
   rw [hp]at he;have hx:=h.var p x hp;show∃u,(asAddr (a.tmps.getD p undef) >>= fun q=>loadVar T q).run C.P w= .ok u w∧LR w im ρ v u;generalize hval:a.tmps.getD p undef=val at hx ⊢;cases x with
   |bp b esz i off=>
    obtain⟨S,_,_,e1,e2,_⟩:=M.bind_some he;obtain⟨B,hB,rfl,_⟩:=M.soft_some e1;obtain⟨_,_,_,e3,e4,_⟩:=M.bind_some e2;obtain⟨c1,_⟩:=M.ok_some e3;obtain⟨e,_,_,e5,e6,_⟩:=M.bind_some e4;obtain⟨c2,_⟩:=M.ofOpt_some e5;obtain⟨c3,_⟩:=M.ofOpt_some e6;simp only [Box.soft,beq_iff_eq]at c1 c2;obtain⟨g,hg,ex⟩:=hx.bp_inv;obtain⟨hez,us,hr,_,hc⟩:=h.seen hg hB c2;have hul:=hr.length;obtain⟨u,h1,h2⟩:=Qls (P:=C.P) (g:=g) (p:=i*B.esz) hr (fun j hj=>hc j (by omega)) c3;rw [c1]at h1;exact⟨u,by simp [ex,asAddr,h1],h2⟩
   |rp cs=>
    obtain⟨c3,_⟩:=M.ofOpt_some he;have hr:=hx.rp_inv;cases hr with
    |rp _ g off vs hi hc hr=>
     obtain⟨u,h1,h2⟩:=Qls (P:=C.P) (w:=w) (g:=g) (p:=off) (off:=0) (ρ:=ρ) hr.toLRL (fun j hj=>hc j hj) c3;rw [Nat.add_zero]at h1;exact⟨u,by simp [asAddr,h1],h2⟩
   |_=>cases he
theorem Qgy {ρ:Rho} {im:Im} (h:Rel' C st a w ρ im): ∀{rs:List ResultVar} {vs:List PV} {l:Acc},Qe1 C.P st rs st.box=some (vs,l)→
  ∃us,(rs.mapM (Qt5 a.tmps)).run C.P w= .ok us w∧LRL w im ρ vs us
 | [],vs,l,he=>by obtain⟨e,_⟩:=M.pure_some he;subst e;exact⟨[],by simp,.nil⟩
 |r::rs,vs,l,he=>by
  obtain⟨v,_,_,e1,e2,_⟩:=M.bind_some he;obtain⟨vs',_,_,e3,e4,_⟩:=M.bind_some e2;obtain⟨e5,_⟩:=M.pure_some e4;subst e5;obtain⟨u,h1,h2⟩:=Qw2 h e1;obtain⟨us,h3,h4⟩:=Qgy h e3;refine⟨u::us,?_,.cons _ _ _ _ h2 h4⟩;rw [List.mapM_cons];simp [h1,h3]
end
theorem Qnu {C:Ctx} {st:St} {fn:Func} {R:Ending→World→Prop} {rd:Option Nat} (hJ: ∀own im o w,C.J own im o w) {ρ:Rho} {im:Im} {tmps:Array Value}
  (fin: ∀w2,Rel' C st {tmps:=tmps,defers:=[]} w2 ρ im→ ∃v,(results fn tmps).run C.P w2= .ok v w2∧R (.returned v) w2): ∀(Ds:List Nat) (w:World),
  Rel' C st {tmps:=tmps,defers:=Ds.map fun D=>{target:= .collected D,args:= #[]}} w ρ im→Ds.Nodup→(∀D∈Ds,C.base≤D∧w.heap[D]? =some (.deferred (some [])))→
  LeavesInM (FW rd) 0 C.P fn tmps R (Ds.map fun D=>{target:= .collected D,args:= #[]}) .returning w
 | [],w,h,_,_=>by
  obtain⟨v,h1,h2⟩:=fin w h;exact⟨v,h1,h2⟩
 |D::Ds,w,h,hn,hD=>by
  refine⟨by simp,.inl ⟨_,_,rfl,run_takeDeferred (hD D (by simp)).2,Qnu hJ fin Ds _ (h.unmark hJ hn hD) (List.nodup_cons.1 hn).2 ?_⟩⟩;intro E hE;refine⟨(hD E (by simp [hE])).1,?_⟩;rw [Qa9 _ _ _ _ (by rintro rfl;exact(List.nodup_cons.1 hn).1 hE)];exact(hD E (by simp [hE])).2
def Qf1 (P:Program) (nt:Nat) (w:World) (im:Im) (ρ:Rho) (F:Nat) (hF:F≤w.heap.size) (hlay:Laid P F w) (hXF: ∀g,Own ρ g→F≤g):Ctx where
 P:=P
 w0:=w
 F:=F
 hF:=hF
 lay:=hlay
 hXF:=hXF
 im0:=im
 nt:=nt
 ρ0:=ρ
 X:=Own ρ
 hX:=fun _ h=>h
 J:=fun _ _ _ _=>True
 hJ:=fun _ _ _=>trivial
 yl:=none
 hY:=fun h=>by cases h
theorem Q25 {P:Program} {nt:Nat} {w:World} {im:Im} {ρ:Rho} {F:Nat} (hF:F≤w.heap.size) (hlay:Laid P F w) (hXF: ∀g,Own ρ g→F≤g) {args:List PV} {us:List Value} {bxs:List (Nat×Box)} (hn:args.length≤nt) (hi: ∀g j,im g j→ ∃u,w.cell? ⟨g,j,none⟩=some u)
  (hb:Boxes (Own ρ) w im ρ (lkp bxs)) (hr:LRL w im ρ args us):Rel (Qf1 P nt w im ρ F hF hlay hXF) (St.of (Qcf 0 args) bxs) {tmps:=us.toArray++Array.replicate (nt-us.toArray.size) undef,defers:=[]} w:=by
 have hlen:=hr.length;refine⟨ρ,im,⟨.refl _ _ _,Keeps.refl _ _,fun _ _ x=>x,fun _ _ x=> .inl x,fun b x x' _ h0 hx=>by rw [show(Qf1 P nt w im ρ F hF hlay hXF).ρ0 b=ρ b from rfl]at h0;rw [h0]at hx;exact(Option.some.inj hx).symm,trivial,rfl⟩,?_,⟨fun _=>rfl,[],rfl,by simp,by simp⟩,hi,?_,hb.rho,?_,hb.inj⟩
 ·simp only [Array.size_append,List.size_toArray,Array.size_replicate,Qf1];omega
 ·intro t v hv;obtain⟨_,h2⟩:=Qea args 0 t v hv;simp only [Nat.sub_zero]at h2;obtain⟨u,hu,hrep⟩:=hr.get t v h2;have ht:t<us.length:=(List.getElem?_eq_some_iff.1 hu).1;have:(us.toArray++Array.replicate (nt-us.toArray.size) undef)[t]? =some u:=by
   rw [Array.getElem?_append_left (by simpa using ht)];simpa using hu
  simp only [Array.getD_eq_getD_getElem?,this,Option.getD_some];exact hrep
 ·intro b x B hx hB;have h:=hb.box b x B hx hB;cases x with
  |none=>exact h
  |some g=>
   obtain⟨h1,h2⟩:=h;exact⟨.inr h1,h2⟩
theorem Qk7 {P:Program} {f:FuncId} {fn:Func} {c:Code} {args:List PV} {bxs:List (Nat×Box)} {us:List Value} {w:World} {im:Im} {ρ:Rho} {F:Nat} (hF:F≤w.heap.size) (hlay:Laid P F w) (hXF: ∀g,Own ρ g→F≤g) {R:Ending→World→Prop} {Q:Exit→St→Prop}
  (hf:P.funcs[f]? =some fn) (hb:fn.body=some c) (hn:args.length≤fn.ntmps) (hi: ∀g j,im g j→ ∃u,w.cell? ⟨g,j,none⟩=some u)
  (hbx:Boxes (Own ρ) w im ρ (lkp bxs)) (hr:LRL w im ρ args us) (h:Vwp P fn.ntmps c Q (St.of (Qcf 0 args) bxs))
  (hQ: ∀e s,Q e s→(e= .normal∨e= .ret)∧ ∀tmps ρ' im' w',Rel' (Qf1 P fn.ntmps w im ρ F hF hlay hXF) s {tmps:=tmps,defers:=[]} w' ρ' im'→ ∃v,(results fn tmps).run P w'= .ok v w'∧R (.returned v) w'):Calls P f us.toArray w R:=by
 refine(callsIn_wide (n:=0)).1 (callsIn_of_wp_marks (F:=FW none) hf hb trivial (wpIn_mono (h (Qf1 P fn.ntmps w im ρ F hF hlay hXF) rfl rfl ⟨none,fun _=>rfl⟩ _ _ (Q25 hF hlay hXF hn hi hbx hr)) ?_));rintro e a' w' ⟨s,hq,ρ',im',h'⟩;obtain⟨he,fin⟩:=hQ e s hq;obtain⟨_,Ds,hd,hn,hD⟩:=h'.dfr;have ha:a'={tmps:=a'.tmps,defers:=Ds.map fun D=>{target:= .collected D,args:= #[]}}:=by cases a';simp_all
 have key:LeavesInM (FW none) 0 P fn a'.tmps R a'.defers .returning w':=by
  rw [hd];rw [ha]at h';exact Qnu (C:=Qf1 P fn.ntmps w im ρ F hF hlay hXF) (fun _ _ _ _=>trivial) (fun w2 h2=>fin a'.tmps ρ' im' w2 h2) Ds w' h' hn hD
 rcases he with rfl|rfl
 ·exact key
 ·exact key
theorem Zm8 (w:World) (im:Im):Boxes (Own fun _=>none) w im (fun _=>none) (lkp []):=
 ⟨fun b=>by simp [lkp],fun b x B h=>(by cases h),fun b b' g B B' h=>(by cases h)⟩
theorem Qfy {P:Program} {fn:Func} {tmps:Array Value} {w:World} {vals:List Value} (h1:(fn.results.toList.mapM (Qt5 tmps)).run P w= .ok vals w):
  (results fn tmps).run P w= .ok (if h:vals.length=1 then vals[0]else .tuple vals.toArray) w:=by
 rw [Q24,Array.mapM_eq_mapM_toList];have h1':(List.mapM (Qt5 tmps) fn.results.toList).run P w= .ok vals w:=h1;simp [h1']
theorem Zda {w:World} {im:Im} {ys:List PV} {vals:List Value} (r:RepL w im ys vals):Rep w im (Qnt ys) (if h:vals.length=1 then vals[0]else .tuple vals.toArray):=by
 have hyl:=r.length;split
 ·rename_i h1';obtain⟨u,rfl⟩:=List.length_eq_one_iff.1 h1';cases r with|cons y _ _ _ hh t=>cases t;exact hh
 ·rename_i h1';have:Qnt ys= .tup ys:=by
   match ys,hyl with
   | [],_=>rfl
   | [y],hyl=>simp at hyl;exact absurd hyl.symm h1'
   |_::_::_,_=>rfl
  rw [this];exact .tup _ _ r
theorem Zm9 {w:World} {im:Im} {ρ:Rho} {ys:List PV} {vals:List Value} (r:LRL w im ρ ys vals):LR w im ρ (Qnt ys) (if h:vals.length=1 then vals[0]else .tuple vals.toArray):=by
 have hyl:=r.length;split
 ·rename_i h1';obtain⟨u,rfl⟩:=List.length_eq_one_iff.1 h1';cases r with|cons y _ _ _ hh t=>cases t;exact hh
 ·rename_i h1';have:Qnt ys= .tup ys:=by
   match ys,hyl with
   | [],_=>rfl
   | [y],hyl=>simp at hyl;exact absurd hyl.symm h1'
   |_::_::_,_=>rfl
  rw [this];exact .tup _ _ r
theorem Qzf {P:Program} {f:FuncId} {fn:Func} {c:Code} {args:List PV} {r:PV} (nt:Nat) (rs:List ResultVar) (hf:P.funcs[f]? =some fn) (hb:fn.body=some c) (hc:callable P f=true)
  (hnt:fn.ntmps=nt) (hrs:fn.results.toList=rs) (hn:Nat.ble args.length nt=true)
  (h:Vwp P nt c (vret P rs (· =r)) (St.of (Qcf 0 args) [])):Qaf P f args r:=by
 subst hnt;subst hrs;refine .inl ⟨hc,fun w im us F hF hlay hr hi=>have hXF: ∀g,Own (fun _=>none:Rho) g→F≤g:=(fun g hg=>by obtain⟨b,e⟩:=hg;cases e);Qk7 hF hlay hXF hf hb (Nat.le_of_ble_eq_true hn) hi (Zm8 w im) hr.toLRL h ?_⟩;intro e s hq;have fin:(match Q23 P fn.results.toList s with|some r'=>r'=r|none=>False)→ ∀tmps ρ' im' w',Rel' (Qf1 P fn.ntmps w im (fun _=>none) F hF hlay hXF) s {tmps:=tmps,defers:=[]} w' ρ' im'→
   ∃v,(results fn tmps).run P w'= .ok v w'∧(∃v',Ending.returned v= .returned v'∧Below w.heap.size w w'∧Rep w' (Zmx im w w') r v'):=by
  intro hq tmps ρ' im' w' h';unfold Q23 at hq;cases hm:(M.bind (Qe1 P s fn.results.toList) Qgh) s.box with
  |none=>rw [hm]at hq;exact hq.elim
  |some p=>
   obtain⟨⟨ys,es⟩,l⟩:=p;rw [hm]at hq;simp only at hq;subst hq;obtain⟨vs,_,_,e1,e2,_⟩:=M.bind_some hm;obtain⟨vals,h1,h2⟩:=Qgy (C:=Qf1 P fn.ntmps w im (fun _=>none) F hF hlay hXF) h' e1;obtain⟨im2,g1,r1⟩:=Qje h' (fun _=>rfl) h2 e2;have hnone: ∀g,¬Own (fun _=>none:Rho) g:=by rintro g ⟨b,e⟩;cases e
   have hnew: ∀g j,im2 g j→Zmx im w w' g j:=by
    intro g j x;rcases g1.rel.root.im1 g j x with y|y|y
    ·exact .inl y
    ·exact .inr ⟨y,g1.rel.imc g j x⟩
    ·exact absurd y (hnone g)
   refine⟨_,Qfy h1,_,rfl,(h'.root.below.mono (Nat.le_refl _) fun k _ x=>(hnone k x).elim:Lent (fun _=>False) w.heap.size w w').below,?_⟩;exact Zda (r1.mono (fun _ _ _=>rfl) hnew)
 cases e with
 |normal=>exact⟨.inl rfl,fin hq⟩
 |ret=>exact⟨.inr rfl,fin hq⟩
 |_=>exact hq.elim
def Zdb (P:Program) (rs:List ResultVar) (r:PV) (bxs':List (Nat×Box)):Exit→St→Prop
 | .normal,s| .ret,s=> ∃vs l,Qe1 P s rs s.box=some (vs,l)∧Le {s with var:=lkp [(0,Qnt vs)]} (St.ofG [(0,r)] bxs' s.out s.yl)
 |_,_=>False
theorem Zdc {P:Program} {f:FuncId} {fn:Func} {c:Code} {args:List PV} {bxs bxs':List (Nat×Box)} {r:PV} (nt:Nat) (rs:List ResultVar) (hf:P.funcs[f]? =some fn) (hb:fn.body=some c) (hc:callable P f=true)
  (hnt:fn.ntmps=nt) (hrs:fn.results.toList=rs) (hn:Nat.ble args.length nt=true) (hL:(bxs.all fun p=>Nat.ble LENT p.1)=true)
  (h:Vwp P nt c (Zdb P rs r bxs') (St.of (Qcf 0 args) bxs)):Qbv P f args bxs r bxs':=by
 subst hnt;subst hrs;refine⟨hc,fun w im ρ us F hF hlay hXF hi hbx hr=>Qk7 hF hlay hXF hf hb (Nat.le_of_ble_eq_true hn) hi hbx hr h ?_⟩;intro e s hq;have fin:(∃vs l,Qe1 P s fn.results.toList s.box=some (vs,l)∧Le {s with var:=lkp [(0,Qnt vs)]} (St.ofG [(0,r)] bxs' s.out s.yl))→ ∀tmps ρ' im' w',Rel' (Qf1 P fn.ntmps w im ρ F hF hlay hXF) s {tmps:=tmps,defers:=[]} w' ρ' im'→
   ∃v,(results fn tmps).run P w'= .ok v w'∧(∃v' ρ' im',Ending.returned v= .returned v'∧Step ρ im w ρ' im' w'∧(∀g j,im' g j→ ∃u,w'.cell? ⟨g,j,none⟩=some u)∧Boxes (Own ρ') w' im' ρ' (lkp bxs')∧
    (∀b x x',ρ b=some x→ρ' b=some x'→x'=x)∧LR w' im' ρ' r v'):=by
  rintro⟨vs,l,e1,hle⟩ tmps ρ' im' w' h';obtain⟨vals,h1,h2⟩:=Qgy (C:=Qf1 P fn.ntmps w im ρ F hF hlay hXF) h' e1;refine⟨_,Qfy h1,?_⟩;have hv:=Zm9 h2;generalize (if h:vals.length=1 then vals[0]else Value.tuple vals.toArray)=v at*;have h0:Rel (Qf1 P (fn.ntmps+1) w im ρ F hF hlay hXF) {s with var:=lkp [(0,Qnt vs)]} {tmps:=Array.replicate (fn.ntmps+1) v,defers:=[]} w':=by
   refine⟨ρ',im',⟨h'.root.below,h'.root.keep,h'.root.im0,h'.root.im1,h'.root.rho0,trivial,h'.root.yl⟩,by simp [Qf1],⟨fun _=>rfl,[],rfl,by simp,by simp⟩,h'.imc,?_,h'.rho,h'.box,h'.inj⟩;intro t x hx;simp only [lkp]at hx;split at hx
   ·rename_i e;cases hx;subst e;simpa [Array.getD]using hv
   ·cases hx
  obtain⟨ρ2,im2,h2⟩:=hle _ _ _ h0;refine⟨v,ρ2,im2,rfl,⟨h2.root.below,h2.root.keep,fun g x=>(h2.ownB x).1.symm,h2.root.im0,fun g j x=>(h2.root.im1 g j x).imp id fun y=>y.symm⟩,h2.imc,⟨h2.rho,?_,h2.inj⟩,?_,?_⟩
  ·intro b x B hx hB;have hb:=h2.box b x B hx hB;cases x with
   |none=>exact hb
   |some g=>exact⟨⟨b,hx⟩,hb.2⟩
  ·intro b x x' hx hx';refine h2.root.rho0 b x x' ?_ hx hx';have hne:lkp bxs b≠none:=fun e=>by rw [(hbx.rho b).2 e]at hx;cases hx
   obtain⟨B,hB⟩:=Option.ne_none_iff_exists'.1 hne;exact Nat.le_of_ble_eq_true (List.all_eq_true.1 hL _ (Qce hB))
  ·have:=h2.var 0 r (by simp [St.ofG,lkp]);simpa [Array.getD]using this
 cases e with
 |normal=>exact⟨.inl rfl,fin hq⟩
 |ret=>exact⟨.inr rfl,fin hq⟩
 |_=>exact hq.elim
end Go.Vl
