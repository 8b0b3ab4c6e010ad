/-
  UFm, UYB, UYBG, UYC, PM50, PM24, PM25, PM51, PM26, PM27, PM8s, PM28, PY1, PY9, PM29, PM30 (merged for the claim).
-/
import Derived.Test.YtlghoaggenhheaaGreatULD
import Derived.Test.YtlghoaggenhheaaGreatPM4
import Derived.Test.YtlghoaggenhheaaGreatDsl
import Derived.Test.YtlghoaggenhheaaGreatUV
import Derived.Test.YtlghoaggenhheaaGreatPM23
import Derived.Test.YtlghoaggenhheaaGreatDsg
import Derived.Test.YtlghoaggenhheaaGreatRows
set_option linter.unusedSimpArgs false
set_option linter.unusedVariables false
namespace Go.Vl
open Go.RowKit
abbrev FB:Nat:=100000
def famB (e:TypeId) (l:List PV):Box:={els:=l,esz:=1,ety:=e,fro:=0,live:=true,arr:=true}
def famL (e:TypeId) (G:Nat→List PV) (m:Nat):List (Nat×Box):=(List.range m).map fun q=>(FB+q,famB e (G q))
def idL (m:Nat):List (Nat×Nat):=(List.range m).map fun q=>(FB+q,FB+q)
theorem Qbu {α:Type} (l1 l2:List (Nat×α)) (b:Nat):lkp (l1++l2) b=match lkp l1 b with
  |some x=>some x
  |none=>lkp l2 b:=by
 induction l1 with
 |nil=>rfl
 |cons p l1 ih=>
  obtain⟨k,v⟩:=p;simp only [List.cons_append,lkp];by_cases e:b=k
  ·rw [if_pos e,if_pos e]
  ·rw [if_neg e,if_neg e,ih]
theorem Qlq (l1 l2:List (Nat×Nat)) (b:Nat):rlk (l1++l2) b=match rlk l1 b with
  |some x=>some x
  |none=>rlk l2 b:=by
 induction l1 with
 |nil=>rfl
 |cons p l1 ih=>
  obtain⟨k,v⟩:=p;simp only [List.cons_append,rlk];by_cases e:b=v
  ·rw [if_pos e,if_pos e]
  ·rw [if_neg e,if_neg e,ih]
theorem Qnh (e:TypeId) (G:Nat→List PV) (m b:Nat):lkp (famL e G m) b=if FB≤b∧b<FB+m then some (famB e (G (b-FB)))else none:=by
 induction m with
 |zero=>rw [if_neg (by omega)];rfl
 |succ m ih=>
  have h:famL e G (m+1)=famL e G m++[(FB+m,famB e (G m))]:=by simp [famL,List.range_succ]
  rw [h,Qbu,ih];by_cases h1:FB≤b∧b<FB+m
  ·rw [if_pos h1,if_pos (by omega)]
  ·rw [if_neg h1];simp only [lkp];by_cases h2:b=FB+m
   ·rw [if_pos h2,if_pos (by omega),h2,Nat.add_sub_cancel_left]
   ·rw [if_neg h2,if_neg (by omega)]
theorem Qh2 (m b:Nat):lkp (idL m) b=if FB≤b∧b<FB+m then some b else none:=by
 induction m with
 |zero=>rw [if_neg (by omega)];rfl
 |succ m ih=>
  have h:idL (m+1)=idL m++[(FB+m,FB+m)]:=by simp [idL,List.range_succ]
  rw [h,Qbu,ih];by_cases h1:FB≤b∧b<FB+m
  ·rw [if_pos h1,if_pos (by omega)]
  ·rw [if_neg h1];simp only [lkp];by_cases h2:b=FB+m
   ·rw [if_pos h2,if_pos (by omega),h2]
   ·rw [if_neg h2,if_neg (by omega)]
theorem Za7 (m b:Nat):rlk (idL m) b=if FB≤b∧b<FB+m then some b else none:=by
 induction m with
 |zero=>rw [if_neg (by omega)];rfl
 |succ m ih=>
  have h:idL (m+1)=idL m++[(FB+m,FB+m)]:=by simp [idL,List.range_succ]
  rw [h,Qlq,ih];by_cases h1:FB≤b∧b<FB+m
  ·rw [if_pos h1,if_pos (by omega)]
  ·rw [if_neg h1];simp only [rlk];by_cases h2:b=FB+m
   ·rw [if_pos h2,if_pos (by omega),h2]
   ·rw [if_neg h2,if_neg (by omega)]
theorem Qct (e:TypeId) (G:Nat→List PV) {m q:Nat} (h:q<m):lkp (famL e G m) (FB+q)=some (famB e (G q)):=by
 rw [Qnh,if_pos (by omega),Nat.add_sub_cancel_left]
theorem Qkt (e:TypeId) (G:Nat→List PV) {m b:Nat} (h:b<FB):lkp (famL e G m) b=none:=by
 rw [Qnh,if_neg (by omega)]
def lowK (θ:List (Nat×Nat)):Bool:=θ.all fun p=>Nat.blt p.1 FB&&Nat.blt p.2 FB
theorem Qe9 {θ:List (Nat×Nat)} (h:lowK θ=true) {b:Nat} (hb:FB≤b):lkp θ b=none:=by
 induction θ with
 |nil=>rfl
 |cons p θ ih=>
  obtain⟨k,v⟩:=p;simp only [lowK,List.all_cons,Bool.and_eq_true]at h;have h1:=h.1.1;rw [Nat.blt_eq]at h1;simp only [lkp];rw [if_neg (by omega)];exact ih h.2
theorem Q0u {θ:List (Nat×Nat)} (h:lowK θ=true) {b:Nat} (hb:FB≤b):rlk θ b=none:=by
 induction θ with
 |nil=>rfl
 |cons p θ ih=>
  obtain⟨k,v⟩:=p;simp only [lowK,List.all_cons,Bool.and_eq_true]at h;have h1:=h.1.2;rw [Nat.blt_eq]at h1;simp only [rlk];rw [if_neg (by omega)];exact ih h.2
theorem Qvi {θ:List (Nat×Nat)} (m:Nat) (hl:lowK θ=true) (hk:Qd1 θ=true):Qd1 (θ++idL m)=true:=by
 unfold Qd1 at*;rw [List.all_eq_true]at*;intro p hp;rcases List.mem_append.1 hp with hp|hp
 ·have:=hk p hp;simp only [Bool.and_eq_true,beq_iff_eq]at this ⊢;rw [Qbu,Qlq,this.1,this.2];exact⟨rfl,rfl⟩
 ·obtain⟨q,hq,rfl⟩:=List.mem_map.1 hp;have hq:=List.mem_range.1 hq;simp only [Bool.and_eq_true,beq_iff_eq];rw [Qbu,Qlq,Qe9 hl (by omega),Q0u hl (by omega)];simp only;rw [Qh2,Za7,if_pos (by omega)];exact⟨rfl,rfl⟩
theorem Qyd {θ:List (Nat×Nat)} {bs:List (Nat×Box)} {e:TypeId} {G:Nat→List PV} (m:Nat) (hl:lowK θ=true) (hk:Qee θ bs=true):Qee (θ++idL m) (bs++famL e G m)=true:=by
 unfold Qee at*;rw [Bool.and_eq_true]at*;refine⟨Qvi m hl hk.1,?_⟩;have h2:=hk.2;rw [List.all_eq_true]at*;intro p hp;rcases List.mem_append.1 hp with hp|hp
 ·have:=h2 p hp;rw [Bool.and_eq_true]at*;refine⟨?_,this.2⟩;rw [Qbu];obtain⟨x,hx⟩:=Option.isSome_iff_exists.1 this.1;rw [hx];rfl
 ·obtain⟨q,hq,rfl⟩:=List.mem_map.1 hp;have hq:=List.mem_range.1 hq;simp only [Bool.and_eq_true];refine⟨?_,by simp⟩;rw [Qbu];cases lkp bs (FB+q)with
  |some x=>rfl
  |none=>simp only [Qct e G hq,Option.isSome_some]
theorem Qvj {A B:List (Nat×Nat)} (hA:Qd1 A=true) (hB:Qd1 B=true) (hd: ∀p∈B,lkp A p.1=none∧rlk A p.2=none):Qd1 (A++B)=true:=by
 unfold Qd1 at*;rw [List.all_eq_true]at*;intro p hp;rcases List.mem_append.1 hp with hp|hp
 ·have:=hA p hp;simp only [Bool.and_eq_true,beq_iff_eq]at this ⊢;rw [Qbu,Qlq,this.1,this.2];exact⟨rfl,rfl⟩
 ·have:=hB p hp;obtain⟨d1,d2⟩:=hd p hp;simp only [Bool.and_eq_true,beq_iff_eq]at this ⊢;rw [Qbu,Qlq,d1,d2];exact this
theorem Zju (m:Nat):Qd1 (idL m)=true:=by
 unfold Qd1;rw [List.all_eq_true];intro p hp;obtain⟨q,hq,rfl⟩:=List.mem_map.1 hp;have hq:=List.mem_range.1 hq;simp only [Bool.and_eq_true,beq_iff_eq];rw [Qh2,Za7,if_pos (by omega)];exact⟨rfl,rfl⟩
def new3 (m a b c:Nat):List (Nat×Nat):=[(FB+m,a),(FB+m+1,b),(FB+m+2,c)]
theorem Q3u {m a b c:Nat} (h1:a≠b) (h2:a≠c) (h3:b≠c):Qd1 (new3 m a b c)=true:=by
 have e1: ¬FB+m+1=FB+m:=by omega
 have e2: ¬FB+m+2=FB+m:=by omega
 have e3: ¬FB+m+2=FB+m+1:=by omega
 simp [Qd1,new3,lkp,rlk,Ne.symm h1,Ne.symm h2,Ne.symm h3]
theorem Qfz {θ:List (Nat×Nat)} {bs:List (Nat×Box)}: ∀{A B:List (Nat×Box)},Qcv θ bs A→Qcv θ bs B→Qcv θ bs (A++B)
 | [],_,_,h=>h
 |(_,_)::_,_,⟨h1,h2⟩,h=>⟨h1,Qfz h2 h⟩
theorem Qh3 {θ:List (Nat×Nat)} {bs:List (Nat×Box)} {e:TypeId} {G:Nat→List PV}: ∀{m:Nat},(∀q,q<m→ ∃b0,lkp θ (FB+q)=some b0∧lkp bs b0=some (famB e (G q)))→Qcv θ bs (famL e G m)
 |0,_=>trivial
 |m+1,h=>by
  have e:famL e G (m+1)=famL e G m++[(FB+m,famB e (G m))]:=by simp [famL,List.range_succ]
  rw [e];obtain⟨b0,h1,h2⟩:=h m (Nat.lt_succ_self m);refine Qfz (Qh3 fun q hq=>h q (by omega)) ⟨?_,trivial⟩;rw [h1];simp only;rw [h2];exact .inl ⟨rfl,rfl,rfl,rfl,rfl,.inl ⟨rfl,rfl⟩⟩
section
variable {vs vs':List (Nat×PV)} {bs low:List (Nat×Box)} {o:List (List PV)} {y:Yl} {θ:List (Nat×Nat)} {e:TypeId} {G:Nat→List PV} {m:Nat}
theorem Qmc (hl:lowK θ=true) (hk:Qee θ low=true) (hv:Qac (θ++idL m) vs vs') (hb:Qcv (θ++idL m) bs low) (hf: ∀q,q<m→lkp bs (FB+q)=some (famB e (G q))):
  Le (St.ofG vs bs o y) (St.ofG vs' (low++famL e G m) o y):=by
 refine Zlx (Qyd m hl hk) hv (Qfz hb (Qh3 fun q hq=>⟨FB+q,?_,hf q hq⟩));rw [Qbu,Qe9 hl (by omega)];simp only;rw [Qh2,if_pos (by omega)]
theorem Za8 {a b c:Nat} (hl:lowK θ=true) (hk:Qee θ low=true) (h1:a≠b) (h2:a≠c) (h3:b≠c) (r1:rlk θ a=none) (r2:rlk θ b=none) (r3:rlk θ c=none) (a1:a<FB) (a2:b<FB) (a3:c<FB)
  (hm:FB+m+3≤LENT) (hv:Qac (θ++new3 m a b c++idL m) vs vs') (hb:Qcv (θ++new3 m a b c++idL m) bs low) (hf: ∀q,q<m→lkp bs (FB+q)=some (famB e (G q)))
  (f1:lkp bs a=some (famB e (G m))) (f2:lkp bs b=some (famB e (G (m+1)))) (f3:lkp bs c=some (famB e (G (m+2)))):
  Le (St.ofG vs bs o y) (St.ofG vs' (low++famL e G (m+3)) o y):=by
 have hlk: ∀x,FB≤x→lkp (θ++new3 m a b c++idL m) x=lkp (new3 m a b c++idL m) x:=fun x hx=>by
  rw [List.append_assoc,Qbu,Qe9 hl hx]
 have k0: ∀q,q<m→lkp (θ++new3 m a b c++idL m) (FB+q)=some (FB+q):=fun q hq=>by
  rw [hlk _ (by omega),Qbu];simp only [new3,lkp];rw [if_neg (by omega),if_neg (by omega),if_neg (by omega)];simp only;rw [Qh2,if_pos (by omega)]
 have k1:lkp (θ++new3 m a b c++idL m) (FB+m)=some a:=by
  rw [hlk _ (by omega),Qbu];simp only [new3,lkp,if_true]
 have k2:lkp (θ++new3 m a b c++idL m) (FB+m+1)=some b:=by
  rw [hlk _ (by omega),Qbu];simp only [new3,lkp];rw [if_neg (by omega),if_pos trivial]
 have k3:lkp (θ++new3 m a b c++idL m) (FB+m+2)=some c:=by
  rw [hlk _ (by omega),Qbu];simp only [new3,lkp];rw [if_neg (by omega),if_neg (by omega),if_pos trivial]
 refine Zlx ?_ hv (Qfz hb (Qh3 fun q hq=> ?_))
 ·unfold Qee at hk ⊢;rw [Bool.and_eq_true]at*;obtain⟨hk1,hk2⟩:=hk;constructor
  ·refine Qvj (Qvj hk1 (Q3u h1 h2 h3) ?_) (Zju m) ?_
   ·intro p hp;simp only [new3,List.mem_cons,List.not_mem_nil,or_false]at hp;rcases hp with rfl|rfl|rfl
    ·exact⟨Qe9 hl (by simp only;omega),r1⟩
    ·exact⟨Qe9 hl (by simp only;omega),r2⟩
    ·exact⟨Qe9 hl (by simp only;omega),r3⟩
   ·intro p hp;obtain⟨q,hq,rfl⟩:=List.mem_map.1 hp;have hq:=List.mem_range.1 hq;simp only;rw [Qbu,Qlq,Qe9 hl (by omega),Q0u hl (by omega)];simp only [new3,lkp,rlk];rw [if_neg (by omega),if_neg (by omega),if_neg (by omega),if_neg (by omega),if_neg (by omega),if_neg (by omega)];exact⟨rfl,rfl⟩
  ·rw [List.all_eq_true]at*;have inF: ∀q,q<m+3→(lkp (low++famL e G (m+3)) (FB+q)).isSome=true:=fun q hq=>by
    rw [Qbu];cases lkp low (FB+q)with
    |some x=>rfl
    |none=>simp only [Qct e G hq,Option.isSome_some]
   intro p hp;rw [List.append_assoc]at hp;rcases List.mem_append.1 hp with hp|hp
   ·have:=hk2 p hp;rw [Bool.and_eq_true]at*;refine⟨?_,this.2⟩;rw [Qbu];obtain⟨x,hx⟩:=Option.isSome_iff_exists.1 this.1;rw [hx];rfl
   rw [Bool.and_eq_true];rcases List.mem_append.1 hp with hp|hp
   ·simp only [new3,List.mem_cons,List.not_mem_nil,or_false]at hp;rcases hp with rfl|rfl|rfl
    ·refine⟨inF m (by omega),?_⟩;rw [Bool.or_eq_true,Nat.blt_eq];simp only;omega
    ·refine⟨inF (m+1) (by omega),?_⟩;rw [Bool.or_eq_true,Nat.blt_eq];simp only;omega
    ·refine⟨inF (m+2) (by omega),?_⟩;rw [Bool.or_eq_true,Nat.blt_eq];simp only;omega
   ·obtain⟨q,hq,rfl⟩:=List.mem_map.1 hp;have hq:=List.mem_range.1 hq;exact⟨inF q (by omega),by simp⟩
 ·by_cases hq0:q<m
  ·exact⟨FB+q,k0 q hq0,hf q hq0⟩
  ·obtain rfl|rfl|rfl:q=m∨q=m+1∨q=m+2:=by omega
   ·exact⟨a,k1,f1⟩
   ·exact⟨b,k2,f2⟩
   ·exact⟨c,k3,f3⟩
end
theorem Qvk {θ:List (Nat×Nat)}: ∀{A A' B B':List PV},Qd2 θ A=some A'→Qd2 θ B=some B'→Qd2 θ (A++B)=some (A'++B')
 | [],_,_,_,hA,hB=>by cases hA;exact hB
 |v::A,A',B,B',hA,hB=>by
  simp only [Qd2]at hA;cases h1:ren1 θ v with
  |none=>rw [h1]at hA;cases hA
  |some x=>
   cases h2:Qd2 θ A with
   |none=>rw [h1,h2]at hA;cases hA
   |some xs=>
    rw [h1,h2]at hA;cases hA;have:=Qvk h2 hB;simp only [List.cons_append,Qd2,h1,this]
theorem Qrb {θ:List (Nat×Nat)}: ∀{A:List PV},(∀v∈A,ren1 θ v=some v)→Qd2 θ A=some A
 | [],_=>rfl
 |v::A,h=>by
  have h1:=h v List.mem_cons_self;have h2:=Qrb (fun x (hx:x∈A)=>h x (List.mem_cons_of_mem _ hx));simp only [Qd2,h1,h2]
theorem Qmd {θ:List (Nat×Nat)} (hl:lowK θ=true) {m q:Nat} (h:q<m):lkp (θ++idL m) (FB+q)=some (FB+q):=by
 rw [Qbu,Qe9 hl (by omega)];simp only;rw [Qh2,if_pos (by omega)]
theorem Za9 {θ:List (Nat×Nat)} (hl:lowK θ=true) {m a b c:Nat}:(∀q,q<m→lkp (θ++new3 m a b c++idL m) (FB+q)=some (FB+q))∧lkp (θ++new3 m a b c++idL m) (FB+m)=some a∧
  lkp (θ++new3 m a b c++idL m) (FB+(m+1))=some b∧lkp (θ++new3 m a b c++idL m) (FB+(m+2))=some c:=by
 have hlk: ∀x,FB≤x→lkp (θ++new3 m a b c++idL m) x=lkp (new3 m a b c++idL m) x:=fun x hx=>by
  rw [List.append_assoc,Qbu,Qe9 hl hx]
 refine⟨fun q hq=> ?_,?_,?_,?_⟩
 ·rw [hlk _ (by omega),Qbu];simp only [new3,lkp];rw [if_neg (by omega),if_neg (by omega),if_neg (by omega)];simp only;rw [Qh2,if_pos (by omega)]
 ·rw [hlk _ (by omega),Qbu];simp only [new3,lkp,if_true]
 ·rw [hlk _ (by omega),Qbu,←Nat.add_assoc];simp only [new3,lkp];rw [if_neg (by omega),if_pos trivial]
 ·rw [hlk _ (by omega),Qbu,←Nat.add_assoc];simp only [new3,lkp];rw [if_neg (by omega),if_neg (by omega),if_pos trivial]
theorem Boxes.world {w w':World} {im:Im} {ρ:Rho} {bx:Bx} (h:Boxes (Own ρ) w im ρ bx) (hk:Keeps im w w') (ho: ∀g,Own ρ g→w'.heap[g]? =w.heap[g]?):Boxes (Own ρ) w' im ρ bx:=
 ⟨h.rho,fun b x B hx hB=>(h.box b x B hx hB).mono hk (fun _ _ x=>x) (fun _ _ _ _ x=>x) (fun _ _ x=>x) (fun _ g hg=>ho g ⟨b,by rw [hx,hg]⟩),h.inj⟩
structure GoingB (nt:Nat) (w:World) (ρ:Rho) (im:Im) (Cn:Nat→Prop) (tm:Array Value) (st:St) (r:Loop) (own:Nat→Prop) (imc:Im) (W:World) (ρb:Rho) (imb:Im):Prop where
 step:Step ρ im w ρb imb W
 raw:Raw nt st tm W ρb imb
 sub: ∀g j,imc g j→imb g j∨ ¬Own ρb g
 imcn: ∀g j,imc g j→im g j∨Own ρ g∨w.heap.size≤g
 apart: ∀g,own g→(w.heap.size+2≤g∨Cn g)∧ ¬Own ρb g
 out: ∀g j,imb g j→imc g j∨ ¬own g
 recd:W.heap[w.heap.size+1]? =some (.loop r)
 mark:W.heap[w.heap.size]? =some (.deferred (some []))
 cn: ∀g,Cn g→Own ρ g∧g<w.heap.size
theorem GoingB.step' {nt:Nat} {w:World} {ρ:Rho} {im:Im} {Cn:Nat→Prop} {tm:Array Value} {st:St} {r:Loop} {ρc ρc':Rho} {imc imc':Im} {W W':World} {ρb:Rho} {imb:Im} (h:GoingB nt w ρ im Cn tm st r (Own ρc) imc W ρb imb) (s:Step ρc imc W ρc' imc' W'):
  GoingB nt w ρ im Cn tm st r (Own ρc') imc' W' ρb imb:=by
 have hsz:w.heap.size+1<W.heap.size:=(Array.getElem?_eq_some_iff.1 h.recd).1;have hown: ∀g,Own ρb g→W'.heap[g]? =W.heap[g]? :=fun g hg=>s.lent.block g (h.raw.lt hg) fun x=>(h.apart g x).2 hg;have hk:Keeps imb W W':=⟨fun g j hi=>by
  rcases h.out g j hi with x|x
  ·exact s.keep.cell g j x
  ·obtain⟨u,hu⟩:=h.raw.imc g j hi;have hlt:g<W.heap.size:=World.block_lt_of_cell? W _ hu;exact World.cell?_of_block (w:=W) (a:=⟨g,j,none⟩) (s.lent.block g hlt x),s.keep.obj,s.keep.oth⟩
 have hno: ∀k,w.heap.size≤k→k<w.heap.size+2→ ¬Own ρc k:=fun k hk1 hk x=>by
  rcases(h.apart k x).1 with q|q
  ·omega
  ·have:=(h.cn k q).2;omega
 refine⟨⟨h.step.lent.trans (s.lent.mono h.step.lent.size fun k hk x=> ?_),h.step.keep.trans hk h.step.mono,h.step.own,h.step.mono,h.step.imn⟩,h.raw.world hk hown,?_,?_,?_,?_,?_,?_,h.cn⟩
 ·rcases(h.apart k x).1 with q|q
  ·omega
  ·exact(h.cn k q).1
 ·intro g j x;rcases s.imn g j x with y|y|y
  ·exact h.sub g j y
  ·exact .inr (h.apart g y).2
  ·exact .inr fun z=>by have:=h.raw.lt z;omega
 ·intro g j x;rcases s.imn g j x with y|y|y
  ·exact h.imcn g j y
  ·rcases(h.apart g y).1 with q|q
   ·exact .inr (.inr (by omega))
   ·exact .inr (.inl (h.cn g q).1)
  ·exact .inr (.inr (by omega))
 ·intro g x;rcases s.own g x with y|y
  ·exact h.apart g y
  ·exact⟨.inl (by omega),fun z=>by have:=h.raw.lt z;omega⟩
 ·intro g j x;rcases h.out g j x with y|y
  ·exact .inl (s.mono g j y)
  ·refine .inr fun z=> ?_;rcases s.own g z with q|q
   ·exact y q
   ·obtain⟨u,hu⟩:=h.raw.imc g j x;have hlt:g<W.heap.size:=World.block_lt_of_cell? W _ hu;omega
 ·rw [s.lent.block _ hsz (hno _ (by omega) (by omega))];exact h.recd
 ·rw [s.lent.block _ (by omega) (hno _ (by omega) (by omega))];exact h.mark
end Go.Vl

namespace Go.Proofs.YtlghoaggenhheaaGreat
open Go.Vl Go.RowKit Go.Dg
theorem Qsq (l:List Int) (hl2:l.length≤100000):Qdb Tryz.prog 41 [Qan l] [] (.bs 7 1 0 l.length) [(7,famB 3 (l.map (PV.int .i64)))]:=by
 have h1:(l.length*8≤140737488355328)=True:=eq_true (by omega);have h2:(l.length≤maxLen)=True:=eq_true (by unfold maxLen;omega);have h3:(l.map (PV.int .i64)).take l.length=l.map (PV.int .i64):=List.take_of_length_le (by simp);have h4:=Qeu l;by_cases hl:l=[]
 ·subst hl;refine Qcn (tb:=[]) 8 [.tmp 2] [0,2,4] mixed Tryz.func41 rfl (by kernel_rfl) (by kernel_rfl) (by kernel_rfl) (by kernel_rfl) (by rfl) ?_;repeat simp -implicitDefEqProofs only [go_sem,seval,List.map_nil,List.isEmpty_nil]
  constructor
  ·refine Qbv (.inl rfl) ?_;simp -implicitDefEqProofs only [go_sem,seval];refine Qci 0 9 1 3 rfl rfl rfl (by decide) [(7,9)] rfl ?_ ?_
   ·simp [Qac,lkp,ren1,ren0,Qao]
   ·exact⟨⟨rfl,rfl,rfl,rfl,rfl,.inl ⟨rfl,rfl⟩⟩,trivial⟩
  ·refine Qbv (.inl rfl) ?_;simp -implicitDefEqProofs only [go_sem,seval];refine Qaj (θ:=[(7,302)]) rfl ?_ ?_
   ·simp [Qac,lkp,ren1,ren0,Qao]
   ·exact⟨⟨rfl,rfl,rfl,rfl,rfl,.inl ⟨rfl,rfl⟩⟩,trivial⟩
 have h0:(l.map (PV.int .i64)).isEmpty=false:=by cases l with|nil=>exact absurd rfl hl|cons=>rfl
 refine Qcn (tb:=[]) 8 [.tmp 2] [0,2,4] mixed Tryz.func41 rfl (by kernel_rfl) (by kernel_rfl) (by kernel_rfl) (by kernel_rfl) (by rfl) ?_;repeat simp -implicitDefEqProofs only [go_sem,seval,h0,List.length_map,h1,h2,Qsn]
 refine Qbv (.inl rfl) ?_;simp -implicitDefEqProofs only [go_sem,seval];refine Qaj (θ:=[(7,302)]) rfl ?_ ?_
 ·simp [Qac,lkp,ren1,ren0,Qao]
 ·exact⟨⟨rfl,rfl,rfl,rfl,rfl,.inl ⟨rfl,rfl⟩⟩,trivial⟩
def cl (p:List Sg) (q:Nat):List Int:=if q%3=0 then(p.getD (q/3) sg0).x else if q%3=1 then(p.getD (q/3) sg0).y else(p.getD (q/3) sg0).z
def cp (p:List Sg) (q:Nat):List PV:=(cl p q).map (PV.int .i64)
theorem cl_0 (p:List Sg) (k:Nat):cl p (3*k)=(p.getD k sg0).x:=by unfold cl;rw [if_pos (by omega),show 3*k/3=k by omega]
theorem cl_1 (p:List Sg) (k:Nat):cl p (3*k+1)=(p.getD k sg0).y:=by unfold cl;rw [if_neg (by omega),if_pos (by omega),show(3*k+1)/3=k by omega]
theorem cl_2 (p:List Sg) (k:Nat):cl p (3*k+2)=(p.getD k sg0).z:=by unfold cl;rw [if_neg (by omega),if_neg (by omega),show(3*k+2)/3=k by omega]
def celD (s:Sg) (k:Nat):PV:= .agg [.int .i64 s.f,.int .i64 s.t,.int .i64 s.o,.bs (FB+3*k) 1 0 s.x.length,.bs (FB+(3*k+1)) 1 0 s.y.length,.bs (FB+(3*k+2)) 1 0 s.z.length]
def outD (p:List Sg) (k:Nat):List PV:=(List.range k).map fun i=>celD (p.getD i sg0) i
theorem Quw (p:List Sg) (k:Nat):outD p (k+1)=outD p k++[celD (p.getD k sg0) k]:=by simp [outD,List.range_succ]
theorem Qds (p:List Sg) (k:Nat):(outD p k).length=k:=by simp [outD]
theorem Qf5 (p:List Sg) (k:Nat):((outD p k).all fun v=>Qa8 v.cells)=true:=by
 unfold outD;rw [List.all_map,List.all_eq_true];intro _ _;rfl
theorem Zds (p:List Sg) (k:Nat):((outD p k).flatMap PV.cells).all PV.okCell=true:=by
 unfold outD;rw [List.all_flatMap,List.all_map,List.all_eq_true];intro _ _;rfl
def bxD (p:List Sg) (k:Nat):Box:={els:=outD p k,esz:=6,ety:=28,fro:=0,live:=true,arr:=false}
def lwD (p:List Sg):Nat→List (Nat×Box)
 |0=>[]
 |k+1=>[(7,bxD p (k+1))]
def varD:Nat→PV
 |0=> .nilS
 |k+1=> .bs 7 6 0 (k+1)
theorem Qsr {θ:List (Nat×Nat)} (s:Sg) (k a b c:Nat) (h1:lkp θ (FB+3*k)=some a) (h2:lkp θ (FB+(3*k+1))=some b) (h3:lkp θ (FB+(3*k+2))=some c):
  ren1 θ (celD s k)=some (.agg [.int .i64 s.f,.int .i64 s.t,.int .i64 s.o,.bs a 1 0 s.x.length,.bs b 1 0 s.y.length,.bs c 1 0 s.z.length]):=by
 simp [celD,ren1,Qao,ren0,h1,h2,h3]
theorem Qe5 {θ:List (Nat×Nat)} (p:List Sg) (k m:Nat) (hm:3*k≤m) (h: ∀q,q<m→lkp θ (FB+q)=some (FB+q)):Qd2 θ (outD p k)=some (outD p k):=by
 refine Qrb fun v hv=> ?_;obtain⟨i,hi,rfl⟩:=List.mem_map.1 hv;have hi:=List.mem_range.1 hi;exact Qsr _ i _ _ _ (h _ (by omega)) (h _ (by omega)) (h _ (by omega))
abbrev TBD:Tab:=[(502,[],[(7,502)]),(505,[],[(7,505)]),(508,[],[(7,508)]),(602,[],[]),(603,[],[])]
set_option maxHeartbeats 4000000 in
theorem Qss (p:List Sg) (hl:p.length≤1000) (hne: ∀s∈p,∀c∈s.ax,c.length≤100000):Qdb Tryz.prog 15 [Qam p] [] (varD p.length) (lwD p p.length++famL 3 (cp p) (3*p.length)):=by

 refine Qcn (tb:=[(502,[],[(7,502)]),(505,[],[(7,505)]),(508,[],[(7,508)]),(602,[],[]),(603,[],[])]) 30 [.tmp 2] [0,2,3,5,6,7,8,9] mixed Tryz.func15 rfl (by kernel_rfl) (by kernel_rfl) (by kernel_rfl) (by kernel_rfl) (by rfl) ?_;repeat simp -implicitDefEqProofs only [go_sem,seval,Qam,List.length_map]
 refine Qaq mixed (fun i:{i:Nat // i≤p.length}=>St.of [(3,varD i.1),(6,Qam p),(7,.int .i64 (p.length:Int)),(8,.int .i64 (i.1:Int))]
  (lwD p i.1++famL 3 (cp p) (3*i.1))) (fun i=>p.length-i.1) ⟨0,Nat.zero_le _⟩ ?_ ?_
 ·refine Qaj (θ:=[]) rfl ?_ ?_
  ·simp [Qac,lkp,ren1,ren0,varD,Qam]
  ·exact trivial
 rintro⟨i,hi⟩;simp only;by_cases hA:i<p.length
 case neg=>
  have hA':=ltF hA;obtain rfl:i=p.length:=by omega
  repeat simp -implicitDefEqProofs only [go_sem,seval,hA']
  refine Qbv (.inl rfl) ?_;cases hn:p.length with
  |zero=>
   have v0:varD 0= .nilS:=rfl;simp -implicitDefEqProofs only [go_sem,seval,v0];exact Le.refl _
  |succ k=>
   have v0:varD (k+1)= .bs 7 6 0 (k+1):=rfl;simp -implicitDefEqProofs only [go_sem,seval,v0];exact Le.refl _
 have hA':=ltT hA;have n0:=nnT i;have hg:=Qbx p i hA;have hwk:=Qah (a:=i) (by omega);have hs:=hne _ (List.getElem_mem hA);have hsD:=sgD hA;have f1:=Qsq p[i].x (hs _ (by simp [Sg.ax]));have f2:=Qsq p[i].y (hs _ (by simp [Sg.ax]));have f3:=Qsq p[i].z (hs _ (by simp [Sg.ax]));have k1:((i+1)*96≤140737488355328)=True:=eq_true (by omega);have k2:(i+1≤maxLen)=True:=eq_true (by unfold maxLen;omega);have bl1:Nat.blt 502 1000000=true:=rfl;have bl2:Nat.blt 505 1000000=true:=rfl;have bl3:Nat.blt 508 1000000=true:=rfl;have e602: ∀T n ps vs bx,Qbb Tryz.prog TBD 602 (.buildSlice T n ps) vs bx=Qhf Tryz.prog 602 T n ps vs bx:=fun T n ps vs bx=>Qk2 _ _ _ _ T n ps vs ([],[]) rfl;have e603: ∀a t s x bx,Qbb Tryz.prog TBD 603 (.call ⟨.builtin .append,a,t⟩) [s,x] bx=_:=fun a t s x bx=>Qwj _ _ _ _ a t s x ([],[]) rfl;simp only [TBD]at e602 e603;have hfo: ∀b,b<100000→lkp (famL 3 (cp p) (3*i)) b=none:=fun b h=>Qkt _ _ h;generalize p[i]=s at*;rcases Nat.eq_zero_or_pos i with hi0|hi0
 ·have v0:varD i= .nilS:=by rw [hi0];rfl
  have l0:lwD p i=[]:=by rw [hi0];rfl
  have o0:outD p i=[]:=by rw [hi0];rfl
  have hlt:(i+1)=1:=by omega
  have hz0:=hi0;repeat (first|simp -implicitDefEqProofs only [go_sem,seval,v0,l0,famB,bl1,bl2,bl3,List.nil_append,hA',n0,hg,hwk,e602,e603,Qhf,appendD,hfo,Int.toNat_natCast]|(with_reducible refine Qbn f1 ?_ ?_ ?_ ?_);rfl;rfl;rfl|(with_reducible refine Qbn f2 ?_ ?_ ?_ ?_);rfl;rfl;rfl|(with_reducible refine Qbn f3 ?_ ?_ ?_ ?_);rfl;rfl;rfl|(with_reducible refine And.intro (Qad _ _ (by kernel_rfl)) ?_))
  refine⟨⟨i+1,hA⟩,by simp only;omega,?_⟩;have T3:=Za9 (θ:=[(7,603)]) rfl (m:=3*i) (a:=502) (b:=505) (c:=508);refine Za8 (θ:=[(7,603)]) (low:=[(7,bxD p (i+1))]) (m:=3*i) (a:=502) (b:=505) (c:=508) rfl rfl (by decide) (by decide) (by decide) rfl rfl rfl (by decide) (by decide) (by decide) (by simp only [FB,LENT];omega) ?_ ?_ ?_ ?_ ?_ ?_
  ·simp [Qac,lkp,ren1,ren0,varD,Qam,hz0]
  ·refine⟨?_,trivial⟩;refine .inr ⟨rfl,rfl,rfl,rfl,rfl,rfl,?_,Qf5 p (i+1)⟩;simp only [bxD];have tc:=Qsr (θ:=[(7,603)]++new3 (3*i) 502 505 508++idL (3*i)) s i 502 505 508 T3.2.1 T3.2.2.1 T3.2.2.2;rw [Quw,hsD]
   (rw [o0,List.nil_append];simp only [Qd2,tc])
  ·intro q hq;have hFB:FB=100000:=rfl;simp only [lkp];repeat (rw [if_neg (by omega)])
   exact Qct _ _ (by omega)
  ·rw [show cp p (3*i)=s.x.map (PV.int .i64)by unfold cp;rw [cl_0,hsD]];rfl
  ·rw [show cp p (3*i+1)=s.y.map (PV.int .i64)by unfold cp;rw [cl_1,hsD]];rfl
  ·rw [show cp p (3*i+2)=s.z.map (PV.int .i64)by unfold cp;rw [cl_2,hsD]];rfl
 ·obtain⟨j,rfl⟩: ∃j,i=j+1:=⟨i-1,by omega⟩;have hlt:=Qds p (j+1);have hok:=Zds p (j+1);have v1:varD (j+1)= .bs 7 6 0 (j+1):=rfl;have l1:lwD p (j+1)=[(7,bxD p (j+1))]:=rfl;have hpz:(0<j+1)=True:=eq_true (by omega);generalize hI:j+1=i at*;have hz0:(i=0)=False:=eq_false (by omega);repeat (first|simp -implicitDefEqProofs only [go_sem,seval,v1,l1,famB,bl1,bl2,bl3,bxD,hpz,hA',n0,hg,hwk,hlt,hok,k1,k2,e602,e603,Qhf,appendD,hfo,Int.toNat_natCast]|(with_reducible refine Qbn f1 ?_ ?_ ?_ ?_);rfl;rfl;rfl|(with_reducible refine Qbn f2 ?_ ?_ ?_ ?_);rfl;rfl;rfl|(with_reducible refine Qbn f3 ?_ ?_ ?_ ?_);rfl;rfl;rfl|(with_reducible refine And.intro (Qad _ _ (by kernel_rfl)) ?_))
  refine⟨⟨i+1,hA⟩,by simp only;omega,?_⟩;have T3:=Za9 (θ:=[(7,603)]) rfl (m:=3*i) (a:=502) (b:=505) (c:=508);refine Za8 (θ:=[(7,603)]) (low:=[(7,bxD p (i+1))]) (m:=3*i) (a:=502) (b:=505) (c:=508) rfl rfl (by decide) (by decide) (by decide) rfl rfl rfl (by decide) (by decide) (by decide) (by simp only [FB,LENT];omega) ?_ ?_ ?_ ?_ ?_ ?_
  ·simp [Qac,lkp,ren1,ren0,varD,Qam,hz0]
  ·refine⟨?_,trivial⟩;refine .inr ⟨rfl,rfl,rfl,rfl,rfl,rfl,?_,Qf5 p (i+1)⟩;simp only [bxD];have tc:=Qsr (θ:=[(7,603)]++new3 (3*i) 502 505 508++idL (3*i)) s i 502 505 508 T3.2.1 T3.2.2.1 T3.2.2.2;rw [Quw,hsD]
   (refine Qvk (Qe5 p i (3*i) (Nat.le_refl _) T3.1) ?_;simp only [Qd2,tc])
  ·intro q hq;have hFB:FB=100000:=rfl;simp only [lkp];repeat (rw [if_neg (by omega)])
   exact Qct _ _ (by omega)
  ·rw [show cp p (3*i)=s.x.map (PV.int .i64)by unfold cp;rw [cl_0,hsD]];rfl
  ·rw [show cp p (3*i+1)=s.y.map (PV.int .i64)by unfold cp;rw [cl_1,hsD]];rfl
  ·rw [show cp p (3*i+2)=s.z.map (PV.int .i64)by unfold cp;rw [cl_2,hsD]];rfl
theorem Zsx (l:List Sg):((l.map sgPV).all fun e=>e.cells.length==6&&e.cells.all PV.okCell)=true:=by
 rw [List.all_map,List.all_eq_true];intro _ _;rfl
theorem Qld {p:List Sg} (h:Qa7 p=true):okNe p:=by
 intro s hs c hc;obtain⟨l1,l6, -, -⟩:=Qca ((Qav (Qil h s hs)).2.1 c hc);exact⟨List.length_pos_iff.1 l1,by omega⟩
def Quq (a b:List Sg):Bool:=Qez (a.getD (a.length-1) sg0) (b.getD 0 sg0)
def Q11 (a b:List Sg):PV:=if Qa7 a=true∧Qa7 b=true then(if Quq a b=true then(if a.length+b.length≤256 then .tup [Qam (a++b),.int .i64 0]else .tup [Qam [],.int .i64 7])else .tup [Qam [],.int .i64 10])else .tup [Qam [],.int .i64 2]
set_option maxHeartbeats 2000000 in
theorem Qur (a b:List Sg) (ha: ∀s∈a,okSg s) (hb: ∀s∈b,okSg s) (hla:a.length≤100000) (hlb:b.length≤100000):Qae Tryz.prog 31 [Qam a,Qam b] (Q11 a b):=by
 have v1:=Qdk a ha (by omega);have v2:=Qdk b hb (by omega);unfold Q11;cases hA:Qa7 a with
 |false=>
  rw [hA]at v1;rw [if_neg (by simp)];unfold Qam at v1 ⊢;refine Qab (tb:=[]) 39 [.tmp 4,.tmp 5] [0,1,4,5,6,15,27] mixed Tryz.func31 rfl (by kernel_rfl) ?_;repeat (first|simp -implicitDefEqProofs only [go_sem,seval,Bool.not_false,List.map_nil]|(with_reducible refine Qaa v1 ?_ ?_ ?_);rfl;rfl)
 |true=>
  rw [hA]at v1;cases hB:Qa7 b with
  |false=>
   rw [hB]at v2;rw [if_neg (by simp)];unfold Qam at v1 v2 ⊢;refine Qab (tb:=[]) 39 [.tmp 4,.tmp 5] [0,1,4,5,6,15,27] mixed Tryz.func31 rfl (by kernel_rfl) ?_;repeat (first|simp -implicitDefEqProofs only [go_sem,seval,Bool.not_false,Bool.not_true,List.map_nil]|(with_reducible refine Qaa v1 ?_ ?_ ?_);rfl;rfl|(with_reducible refine Qaa v2 ?_ ?_ ?_);rfl;rfl)
  |true=>
   rw [hB]at v2;rw [if_pos ⟨rfl,rfl⟩];obtain⟨-,a1,a2⟩:=Qbp hA;obtain⟨-,b1,b2⟩:=Qbp hB;have hia:a.length-1<a.length:=by omega
   have hib:0<b.length:=by omega
   have ga:=Qbx a (a.length-1) hia;have gb:=Qbx b 0 hib;have hm:=Q0b a[a.length-1] b[0] (ha _ (List.getElem_mem hia)) (hb _ (List.getElem_mem hib)) (Qdp hA _ hia) (Qdp hB _ hib);have hML:Quq a b=Qez a[a.length-1] b[0]:=by unfold Quq;rw [sgD hia,sgD hib]
   have wl:=Qe6 (n:=a.length) (by omega) (by omega);have n0:=nnT (a.length-1);rw [hML];unfold Qam at v1 v2;unfold sgPV Qan at hm;cases hMM:Qez a[a.length-1] b[0]with
   |false=>
    rw [hMM]at hm;rw [if_neg (by simp)];unfold Qam;refine Qab (tb:=[]) 39 [.tmp 4,.tmp 5] [0,1,4,5,6,15,27] mixed Tryz.func31 rfl (by kernel_rfl) ?_;repeat (first|simp -implicitDefEqProofs only [go_sem,seval,ga,gb,wl,n0,Int.toNat_natCast,List.length_map,Bool.not_false,Bool.not_true,List.map_nil]|(with_reducible refine Qaa v1 ?_ ?_ ?_);rfl;rfl|(with_reducible refine Qaa v2 ?_ ?_ ?_);rfl;rfl|(with_reducible refine Qaa hm ?_ ?_ ?_);rfl;rfl|(with_reducible exact Qad _ _ (by kernel_rfl)))
   |true=>
    rw [hMM]at hm;rw [if_pos rfl];have wl2:IntKind.i64.wrap ((a.length:Int)+(b.length:Int))=(a.length:Int)+(b.length:Int):=Qai (by omega) (by omega);by_cases h256:a.length+b.length≤256
    ·have h':((256:Int)<(a.length:Int)+(b.length:Int))=False:=eq_false (by omega);rw [if_pos h256];have ca:=Qxe a hla (Qld hA);have cb:=Qxe b hlb (Qld hB);have e1:(a.map sgPV).take a.length=a.map sgPV:=List.take_of_length_le (by simp);have e2:(b.map sgPV).take b.length=b.map sgPV:=List.take_of_length_le (by simp);have e5:(a.map sgPV++b.map sgPV).take (a.length+b.length)=a.map sgPV++b.map sgPV:=List.take_of_length_le (by simp);have e6:(((a.map sgPV++b.map sgPV).flatMap PV.cells).all PV.okCell)=true:=by rw [←List.map_append];exact Qdr _
     have e7:(a.length+b.length≤(a.map sgPV++b.map sgPV).length)=True:=eq_true (by simp);have e3:=Qdr a;have e4:=Qdr b;have k1:((a.length+b.length)*96≤140737488355328)=True:=eq_true (by omega);have k2:(a.length+b.length≤maxLen)=True:=eq_true (by unfold maxLen;omega);unfold Qam at ca cb ⊢;rw [List.map_append];have bl1:Nat.blt 701 1000000=true:=rfl;have bl2:Nat.blt 703 1000000=true:=rfl

     refine Qab (tb:=[(701,[],[(7,701)]),(703,[],[(7,703)])]) 39 [.tmp 4,.tmp 5] [0,1,4,5,6,15,27] mixed Tryz.func31 rfl (by kernel_rfl) ?_;repeat (first|simp -implicitDefEqProofs only [go_sem,seval,bl1,bl2,Zsx,ga,gb,wl,wl2,h',n0,e2,e3,e5,e7,k1,k2,Int.toNat_natCast,List.length_map,Bool.not_true]|(with_reducible refine Qaa v1 ?_ ?_ ?_);rfl;rfl|(with_reducible refine Qaa v2 ?_ ?_ ?_);rfl;rfl|(with_reducible refine Qaa hm ?_ ?_ ?_);rfl;rfl|(with_reducible refine Qbn ca ?_ ?_ ?_ ?_);rfl;rfl;rfl|(with_reducible refine Qbn cb ?_ ?_ ?_ ?_);rfl;rfl;rfl|(with_reducible refine And.intro (Qad _ _ (by kernel_rfl)) ?_))
    ·have h':((256:Int)<(a.length:Int)+(b.length:Int))=True:=eq_true (by omega);rw [if_neg h256];unfold Qam;refine Qab (tb:=[]) 39 [.tmp 4,.tmp 5] [0,1,4,5,6,15,27] mixed Tryz.func31 rfl (by kernel_rfl) ?_;repeat (first|simp -implicitDefEqProofs only [go_sem,seval,ga,gb,wl,wl2,h',n0,Int.toNat_natCast,List.length_map,Bool.not_true,List.map_nil]|(with_reducible refine Qaa v1 ?_ ?_ ?_);rfl;rfl|(with_reducible refine Qaa v2 ?_ ?_ ?_);rfl;rfl|(with_reducible refine Qaa hm ?_ ?_ ?_);rfl;rfl|(with_reducible exact Qad _ _ (by kernel_rfl)))
def revL (s:Sg):Nat→List Int:=cmpL s 1 (-1) 1
def revS (W:Int) (s:Sg):Sg:=Qdm (W-s.t) (W-s.f) (revL s) s.o
def Qqy (s:Sg):Prop:= ∀i,i<3→ ∀x∈revL s i,(x/(mdG (revL s) s.o 3:Int)).natAbs≤4611686018427387904
def revK (p:List Sg) (k:Nat):List Sg:=(List.range k).map fun j=>revS (pBeg p+pEnd p) (p.getD (p.length-1-j) sg0)
def revP (p:List Sg):List Sg:=revK p p.length
theorem Qus (p:List Sg) (k:Nat):revK p (k+1)=revK p k++[revS (pBeg p+pEnd p) (p.getD (p.length-1-k) sg0)]:=by simp [revK,List.range_succ]
theorem Qj2 (p:List Sg) (k:Nat):(revK p k).length=k:=by simp [revK]
theorem Qzz {s:Sg} (hv:Qa1 s=true):Qi1 (revL s) s.o=true:=by
 obtain⟨⟨v1,v2,v3,v4,v5⟩, -, -⟩:=Qav hv;refine decide_eq_true ?_;unfold mdO;exact Int.le_trans (Int.ediv_le_self _ (by omega)) v5
theorem Q12:i64 1:=by unfold i64;omega
theorem Qz0:i64 (-1):=by unfold i64;omega
theorem Q6h {s:Sg} (hs:okSg s) (hv:Qa1 s=true): ∀i,i<3→bd 12000 (revL s i)∧(revL s i).length≤6:=by
 intro i hi;have hm:=Qho s i hi;obtain⟨l1,l6, -, -⟩:=Qca ((Qav hv).2.1 _ hm);exact⟨(Qun l6 (fun x hx=>Qay (hs.c _ hm x hx)) (Qay Q12) (Qay Qz0) (Qay Q12)).2,Qxc l6⟩
theorem Zsy (s:Sg) (W:Int) (hs:okSg s) (hv:Qa1 s=true) (hf:Qqy s):
  Qae Tryz.prog 44 [.int .i64 (W-s.t),.int .i64 (W-s.f),.agg [wL (revL s 0),wL (revL s 1),wL (revL s 2)],wPV s.o] (.tup [sgPV (revS W s),.bool true]):=by
 have hbd:=Q6h hs hv;obtain⟨⟨v1,v2,v3,v4,v5⟩, -, -⟩:=Qav hv;have h:=Q58 (W-s.t) (W-s.f) (revL s) s.o 12000 (by decide) (by omega) (Qd4 (C:=12000) (Qay hs.o) (by decide)) (fun i hi=>(hbd i hi).1) (fun i hi=>by have:=(hbd i hi).2;omega) (fun _=>hf);rw [if_pos (Qzz hv)]at h;exact h
def rvB (p:List Sg):Nat→List (Nat×Box)
 |0=>[(1000000,{els:=[.int .i64 (pBeg p)],esz:=1,ety:=3,fro:=0,live:=true,arr:=false}),(1000001,{els:=[.int .i64 (pEnd p)],esz:=1,ety:=3,fro:=0,live:=true,arr:=false}),(1000002,{els:=[.nilS],esz:=1,ety:=23,fro:=0,live:=true,arr:=false})]
 |k+1=>[(1000000,{els:=[.int .i64 (pBeg p)],esz:=1,ety:=3,fro:=0,live:=true,arr:=false}),(1000001,{els:=[.int .i64 (pEnd p)],esz:=1,ety:=3,fro:=0,live:=true,arr:=false}),(1000002,{els:=[.bs 7 6 0 (k+1)],esz:=1,ety:=23,fro:=0,live:=true,arr:=false}),(7,{els:=(revK p (k+1)).map sgPV,esz:=6,ety:=28,fro:=0,live:=true,arr:=true})]
theorem Zv9 (p:List Sg) (k:Nat): ∀b∈ [1000000,1000001,1000002],(lkp (rvB p k) b).isSome=true:=by
 cases k<;>simp [rvB,lkp]
def Qhs (p:List Sg):PV:=if Qa7 p=true then .tup [Qam (revP p),.int .i64 0]else .tup [Qam [],.int .i64 2]
theorem Qgw {p:List Sg} (hV:Qa7 p=true):0≤pBeg p∧pBeg p≤3600000∧0≤pEnd p∧pEnd p≤3600000:=by
 have h:=(Qbp hV).2.1;have h1:p.length-1<p.length:=by omega
 have h0:0<p.length:=by omega
 obtain⟨⟨a1,a2,a3, -, -⟩, -, -⟩:=Qav (Qdp hV _ h0);obtain⟨⟨b1,b2,b3, -, -⟩, -, -⟩:=Qav (Qdp hV _ h1);unfold pBeg pEnd;rw [sgD h0,sgD h1];omega
set_option maxHeartbeats 4000000 in
theorem Qqz (p:List Sg) (hp: ∀s∈p,okSg s) (hl:p.length≤100000) (hfit:Qa7 p=true→ ∀s∈p,Qqy s):Qae Tryz.prog 18 [Qam p] (Qhs p):=by
 have hs:=Qoi p hp (by omega);unfold Qhs;unfold Qam at hs;cases hV:Qa7 p with
 |false=>
  rw [hV]at hs;simp only [Bool.false_eq_true,if_false]at hs;unfold Qam;refine Qab (tb:=[]) 51 [.tmp 2,.tmp 3] [0,2,3,4,5,6,7,9,10,19,22,23,24] mixed Tryz.func18 rfl (by kernel_rfl) ?_;repeat (first|simp -implicitDefEqProofs only [go_sem,seval,Zd2,Bool.false_eq_true,if_false,List.map_nil]|(with_reducible refine Qaa hs ?_ ?_ ?_);rfl;rfl)
 |true=>
  rw [hV]at hs;simp only [if_true]at hs ⊢;have hv:=Qil hV;have hft:=hfit hV;obtain⟨e1,e2,e3,e4⟩:=Qgw hV;have h1:=Zv8 p;have hY:=Zsw p hl;unfold Qam at h1 hY ⊢;obtain⟨n,hn1⟩: ∃n,p.length=n+1:=⟨p.length-1,by have:=(Qbp hV).2.1;omega⟩;have hlo:(Qe4 p).length=n+1:=by simp [Qe4,hn1]
  have hmin:min (Qe4 p).length (n+1+1)=n+1:=by omega
  have wab:IntKind.i64.wrap (pBeg p+pEnd p)=pBeg p+pEnd p:=Qai (by omega) (by omega);refine Qab (tb:=[]) 51 [.tmp 2,.tmp 3] [0,2,3,4,5,6,7,9,10,19,22,23,24] mixed Tryz.func18 rfl (by kernel_rfl) ?_;repeat (first|simp -implicitDefEqProofs only [go_sem,seval,Qmv,Bool.false_eq_true,if_false]|(with_reducible refine Qaa hs ?_ ?_ ?_);rfl;rfl|(with_reducible refine Qaa h1 ?_ ?_ ?_);rfl;rfl)
  refine Qt5 mixed hY rfl rfl _ rfl [(1000000,106),(1000001,107),(1000002,400)] [1000000,1000001,1000002] rfl [(4,.bp 1000000 1 0 0),(5,.bp 1000001 1 0 0),(7,.bp 1000002 1 0 0)] (rvB p) rfl rfl ?_ ?_ ?_ (n+1) .normal (fun h=>by omega) (fun k _ _=>Zv9 p k) ?_ rfl ?_
   [(400,1000002),(7,7)] [(7,.bp 400 1 0 0)] [(400,{els:=[.bs 7 6 0 (n+1)],esz:=1,ety:=23,fro:=0,live:=true,arr:=false}),(7,{els:=(revP p).map sgPV,esz:=6,ety:=28,fro:=0,live:=true,arr:=true})] rfl rfl ?_ ?_ (fun _=> ?_) (fun h=>by omega)
  ·simp [Qac,lkp,ren1,ren0,Qao]
  ·exact⟨⟨rfl,rfl,rfl,rfl,rfl,.inr ⟨rfl,_,_,rfl,rfl,rfl,rfl⟩⟩,⟨rfl,rfl,rfl,rfl,rfl,.inr ⟨rfl,_,_,rfl,rfl,rfl,rfl⟩⟩,⟨rfl,rfl,rfl,rfl,rfl,.inr ⟨rfl,_,_,rfl,rfl,rfl,rfl⟩⟩,trivial⟩
  ·simp [Qac,lkp,ren1,ren0,Qao,Qt3]
  ·intro k args h;simp only [Qe4,List.getElem?_map,Option.map_eq_some_iff]at h;obtain⟨x, -,rfl⟩:=h;rfl
  ·rintro k args hka hk;have hkl:k<n+1:=by have:=(List.getElem?_eq_some_iff.1 hka).1;omega
   have hargs:args=bwdO p k:=by
    simp only [Qe4,List.getElem?_map,List.getElem?_range (show k<p.length by omega),Option.map_some,Option.some.injEq]at hka;exact hka.symm
   have hi:p.length-1-k<p.length:=by omega
   have hO:bwdO p k=[.int .i64 ((p.length-1-k:Nat):Int),sgPV p[p.length-1-k]]:=by unfold bwdO;rw [sgD hi]
   rw [hargs,hO];have hmem:=List.getElem_mem hi;have hsn:=Qus p k;rw [sgD hi]at hsn;have hok:=hp _ hmem;have hvs:=hv _ hmem;have f4:=Zsy p[p.length-1-k] (pBeg p+pEnd p) hok hvs (hft _ hmem);generalize p[p.length-1-k]=s at*;generalize ((p.length-1-k:Nat):Int)=ix at*;clear hO hargs hka hi hmem;obtain⟨⟨v1,v2,v3,v4,v5⟩,hax, -⟩:=Qav hvs;have w1:IntKind.i64.wrap (pBeg p+pEnd p-s.t)=pBeg p+pEnd p-s.t:=Qai (by omega) (by omega);have w2:IntKind.i64.wrap (pBeg p+pEnd p-s.f)=pBeg p+pEnd p-s.f:=Qai (by omega) (by omega);have f1:=Qqw s 1 (-1) 1 hok (fun c hc=>(Qca (hax c hc)).2.1) Q12 Qz0 Q12 (by omega);have eL:cmpL s 1 (-1) 1=revL s:=rfl;rw [eL]at f1;have f2:=Qfs s.o hok.o.1 hok.o.2;have hsn2:(revK p (k+1)).map sgPV=(revK p k).map sgPV++[.agg [.int .i64 (revS (pBeg p+pEnd p) s).f,.int .i64 (revS (pBeg p+pEnd p) s).t,.int .i64 (revS (pBeg p+pEnd p) s).o,.slc ((revS (pBeg p+pEnd p) s).x.map (PV.int .i64)),.slc ((revS (pBeg p+pEnd p) s).y.map (PV.int .i64)),.slc ((revS (pBeg p+pEnd p) s).z.map (PV.int .i64))]]:=by rw [hsn,List.map_append];rfl
   generalize revL s=L at*;generalize revS (pBeg p+pEnd p) s=R at*;unfold sgPV at f1 f4;unfold wL at f1 f4;have hlen:((revK p k).map sgPV).length=k:=by rw [List.length_map,Qj2]
   have hokf:=Qdr (revK p k);have c1:((k+1)*96≤140737488355328)=True:=eq_true (by omega);have c2:(k+1≤maxLen)=True:=eq_true (by unfold maxLen;omega);cases k with
   |zero=>
    simp only [rvB];have e0:(revK p 0).map sgPV=[]:=rfl;rw [e0,List.nil_append]at hsn2;repeat simp -implicitDefEqProofs only [go_sem,seval,pvars,List.toList_toArray,sgPV]
    refine⟨by simp [lkp],?_⟩;repeat (first|simp -implicitDefEqProofs only [go_sem,seval,wPV,wab,w1,w2]|(with_reducible refine Qaa f1 ?_ ?_ ?_);rfl;rfl|(with_reducible refine Qaa f2 ?_ ?_ ?_);rfl;rfl|(with_reducible refine Qaa f4 ?_ ?_ ?_);rfl;rfl|(with_reducible refine And.intro (Qad _ _ (by kernel_rfl)) ?_))
    refine⟨by omega,?_⟩;refine Qaj (θ:=[(1000000,1000000),(1000001,1000001),(1000002,1000002),(7,803)]) rfl ?_ ?_
    ·simp [Qac,lkp,ren1,ren0,Qao]
    ·simp only [rvB,hsn2];exact⟨⟨rfl,rfl,rfl,rfl,rfl,.inr ⟨rfl,_,_,rfl,rfl,rfl,rfl⟩⟩,⟨rfl,rfl,rfl,rfl,rfl,.inr ⟨rfl,_,_,rfl,rfl,rfl,rfl⟩⟩,⟨rfl,rfl,rfl,rfl,rfl,.inr ⟨rfl,_,_,rfl,rfl,rfl,rfl⟩⟩,⟨rfl,rfl,rfl,rfl,rfl,.inl ⟨rfl,rfl⟩⟩,trivial⟩
   |succ k=>
    simp only [rvB];generalize (revK p (k+1)).map sgPV=T at*;repeat simp -implicitDefEqProofs only [go_sem,seval,pvars,List.toList_toArray,sgPV]
    refine⟨by simp [lkp],?_⟩;repeat (first|simp -implicitDefEqProofs only [go_sem,seval,wPV,wab,w1,w2,hlen,hokf,c1,c2]|(with_reducible refine Qaa f1 ?_ ?_ ?_);rfl;rfl|(with_reducible refine Qaa f2 ?_ ?_ ?_);rfl;rfl|(with_reducible refine Qaa f4 ?_ ?_ ?_);rfl;rfl|(with_reducible refine And.intro (Qad _ _ (by kernel_rfl)) ?_))
    refine⟨by omega,?_⟩;refine Qaj (θ:=[(1000000,1000000),(1000001,1000001),(1000002,1000002),(7,803)]) rfl ?_ ?_
    ·simp [Qac,lkp,ren1,ren0,Qao]
    ·simp only [rvB,hsn2];exact⟨⟨rfl,rfl,rfl,rfl,rfl,.inr ⟨rfl,_,_,rfl,rfl,rfl,rfl⟩⟩,⟨rfl,rfl,rfl,rfl,rfl,.inr ⟨rfl,_,_,rfl,rfl,rfl,rfl⟩⟩,⟨rfl,rfl,rfl,rfl,rfl,.inr ⟨rfl,_,_,rfl,rfl,rfl,rfl⟩⟩,⟨rfl,rfl,rfl,rfl,rfl,.inl ⟨rfl,rfl⟩⟩,trivial⟩
  ·simp [Qac,lkp,ren1,ren0,Qao]
  ·rw [hmin];have e:revK p (n+1)=revP p:=by unfold revP;rw [hn1]
   simp only [rvB,e];exact⟨⟨rfl,rfl,rfl,rfl,rfl,.inr ⟨rfl,_,_,rfl,rfl,rfl,rfl⟩⟩,⟨rfl,rfl,rfl,rfl,rfl,.inl ⟨rfl,rfl⟩⟩,trivial⟩
  ·have b1:((revP p).map sgPV).length=n+1:=by rw [List.length_map,revP,Qj2,hn1]
   have b2:(((revP p).map sgPV).flatMap PV.cells).all PV.okCell=true:=Qdr _;have b3:((revP p).map sgPV).take (n+1)=(revP p).map sgPV:=List.take_of_length_le (by omega);generalize (revP p).map sgPV=T at*;repeat simp -implicitDefEqProofs only [go_sem,seval,b1,b3]
def shS (b:Int) (s:Sg):Sg:=⟨s.f+b,s.t+b,s.o,s.x,s.y,s.z⟩
def mixS (f:Sg→Sg) (p:List Sg) (i:Nat):List Sg:=(p.take i).map f++p.drop i
theorem Zld (f:Sg→Sg) (p:List Sg):mixS f p 0=p:=by simp [mixS]
theorem Zle (f:Sg→Sg) (p:List Sg):mixS f p p.length=p.map f:=by simp [mixS]
theorem Qz4 (f:Sg→Sg) (p:List Sg) (i:Nat) (hi:i≤p.length):(mixS f p i).length=p.length:=by simp [mixS];omega
theorem Qz5 (f:Sg→Sg) (p:List Sg) (i:Nat) (hi:i<p.length):(mixS f p i)[i]? =some p[i]:=by
 unfold mixS;rw [List.getElem?_append_right (by simp;omega)];simp only [List.length_map,List.length_take,List.getElem?_drop];rw [Nat.min_eq_left (by omega),Nat.sub_self,Nat.add_zero,List.getElem?_eq_getElem hi]
theorem Qz6 (f:Sg→Sg) (p:List Sg) (i:Nat) (hi:i<p.length):(mixS f p i).set i (f p[i])=mixS f p (i+1):=by
 have hl:((p.take i).map f).length=i:=by simp;omega
 unfold mixS;rw [List.set_append_right _ _ (by omega),hl,Nat.sub_self,List.drop_eq_getElem_cons hi,List.set_cons_zero,Qbe p i hi,List.map_append,List.append_assoc];rfl
def Qxk (p:List Sg) (b:Int):PV:=if Qa7 p=true then(if b< -pBeg p∨3600000-pEnd p<b then .tup [Qam [],.int .i64 3]else .tup [Qam (p.map (shS b)),.int .i64 0])else .tup [Qam [],.int .i64 2]
set_option maxHeartbeats 2000000 in
theorem Zdt (p:List Sg) (b:Int) (hl:p.length≤100000) (hw: ∀s∈p,IntKind.i64.wrap (s.f+b)=s.f+b∧IntKind.i64.wrap (s.t+b)=s.t+b):Qae Tryz.prog 20 [Qam p,.int .i64 b] (Qam (p.map (shS b))):=by
 unfold Qam;refine Qab (tb:=[]) 33 [.tmp 4] [0,1,4,5,6,7,11] mixed Tryz.func20 rfl (by kernel_rfl) ?_;repeat simp -implicitDefEqProofs only [go_sem,seval]
 refine Qaq mixed (fun i:{i:Nat // i≤p.length}=>St.of [(0,Qam p),(1,.int .i64 b),(5,.bs 7 6 0 i.1),(6,.int .i64 (i.1:Int))]
  [(7,{els:=((p.map (shS b)).take i.1).map sgPV,esz:=6,ety:=28,fro:=0,live:=true,arr:=true})]) (fun i=>p.length-i.1) ⟨0,Nat.zero_le _⟩ ?_ ?_
 ·refine Qci 5 7 6 28 rfl rfl rfl (by decide) [(7,7)] rfl ?_ ?_
  ·simp [Qac,lkp,ren1,ren0,Qao,Qam]
  ·exact⟨⟨rfl,rfl,rfl,rfl,rfl,.inl ⟨rfl,rfl⟩⟩,trivial⟩
 ·rintro⟨i,hi⟩;by_cases hA:i<p.length
  ·have hA':=ltT hA;have n0:=nnT i;have hg:=Qbx p i hA;have hwk:=Qah (a:=i) (by omega);obtain⟨w1,w2⟩:=hw _ (List.getElem_mem hA);have hlt:(((p.map (shS b)).take i).map sgPV).length=i:=by simp;omega
   have hok:=Qdr ((p.map (shS b)).take i);have k1:((i+1)*96≤140737488355328)=True:=eq_true (by omega);have k2:(i+1≤maxLen)=True:=eq_true (by unfold maxLen;omega);have hts:((p.map (shS b)).take (i+1)).map sgPV=((p.map (shS b)).take i).map sgPV++[sgPV (shS b p[i])]:=by rw [Qbe _ i (by simp;omega),List.map_append];simp
   generalize ((p.map (shS b)).take i).map sgPV=T at*;generalize p[i]=s at*;repeat simp -implicitDefEqProofs only [go_sem,seval,hA',n0,hg,hwk,w1,w2,hlt,hok,k1,k2,Int.toNat_natCast,List.length_map]
   refine⟨⟨i+1,hA⟩,by simp only;omega,Qaj (θ:=[(7,703)]) rfl ?_ ?_⟩
   ·simp [Qac,lkp,ren1,ren0,Qao,Qam]
   ·simp only [hts];exact⟨⟨rfl,rfl,rfl,rfl,rfl,.inl ⟨rfl,rfl⟩⟩,trivial⟩
  ·have hA':=ltF hA;obtain rfl:i=p.length:=by omega
   have ht:(p.map (shS b)).take p.length=p.map (shS b):=List.take_of_length_le (by simp);have e1:((p.map (shS b)).map sgPV).take p.length=(p.map (shS b)).map sgPV:=List.take_of_length_le (by simp);have e2:=Qdr (p.map (shS b));simp only [ht];repeat simp -implicitDefEqProofs only [go_sem,seval,hA',e1,List.length_map]
   done
set_option maxHeartbeats 4000000 in
theorem Zdu (p:List Sg) (b:Int) (hp: ∀s∈p,okSg s) (hl:p.length≤100000):Qae Tryz.prog 16 [Qam p,.int .i64 b] (Qxk p b):=by
 have hs:=Qoi p hp (by omega);unfold Qxk;unfold Qam at hs;cases hV:Qa7 p with
 |false=>
  rw [hV]at hs;simp only [Bool.false_eq_true,if_false]at hs;unfold Qam;refine Qab (tb:=[]) 59 [.tmp 4,.tmp 5] [0,1,4,5,6,7,8,9,10,17,21,35,36,37] mixed Tryz.func16 rfl (by kernel_rfl) ?_;repeat (first|simp -implicitDefEqProofs only [go_sem,seval,Zd2,Bool.false_eq_true,if_false,List.map_nil]|(with_reducible refine Qaa hs ?_ ?_ ?_);rfl;rfl)
 |true=>
  rw [hV]at hs;simp only [if_true]at hs ⊢;obtain⟨e1,e2,e3,e4⟩:=Qgw hV;have wn:IntKind.i64.wrap (0-pBeg p)= -pBeg p:=by rw [Qai (by omega) (by omega)];omega
  have wm:IntKind.i64.wrap (3600000-pEnd p)=3600000-pEnd p:=Qai (by omega) (by omega);by_cases h1:b< -pBeg p
  ·have h1':=eq_true h1;rw [if_pos (.inl h1)];unfold Qam;refine Qab (tb:=[]) 59 [.tmp 4,.tmp 5] [0,1,4,5,6,7,8,9,10,17,21,35,36,37] mixed Tryz.func16 rfl (by kernel_rfl) ?_;repeat (first|simp -implicitDefEqProofs only [go_sem,seval,Qmv,wn,h1',List.map_nil]|(with_reducible refine Qaa hs ?_ ?_ ?_);rfl;rfl)
  have h1':=eq_false h1;by_cases h2:3600000-pEnd p<b
  ·have h2':=eq_true h2;rw [if_pos (.inr h2)];unfold Qam;refine Qab (tb:=[]) 59 [.tmp 4,.tmp 5] [0,1,4,5,6,7,8,9,10,17,21,35,36,37] mixed Tryz.func16 rfl (by kernel_rfl) ?_;repeat (first|simp -implicitDefEqProofs only [go_sem,seval,Qmv,wn,wm,h1',h2',List.map_nil]|(with_reducible refine Qaa hs ?_ ?_ ?_);rfl;rfl)
  have h2':=eq_false h2;rw [if_neg (by omega)];have ca:=Qxe p hl (Qld hV);have bl1:Nat.blt 600 1000000=true:=rfl;unfold Qam at ca ⊢;have tp:(p.map sgPV).take p.length=p.map sgPV:=List.take_of_length_le (by simp)

  refine Qab (tb:=[(601,[],[(7,600)])]) 59 [.tmp 4,.tmp 5] [0,1,4,5,6,7,8,9,10,17,21,35,36,37] mixed Tryz.func16 rfl (by kernel_rfl) ?_;repeat (first|simp -implicitDefEqProofs only [go_sem,seval,Qmv,wn,wm,h1',h2',bl1]|(with_reducible refine Qaa hs ?_ ?_ ?_);rfl;rfl|(with_reducible refine Qbn ca ?_ ?_ ?_ ?_);rfl;rfl;rfl)
  refine Qaq mixed (fun i:{i:Nat // i≤p.length}=>St.of [(1,.int .i64 b),(9,.bs 7 6 0 p.length),(35,.int .i64 (p.length:Int)),(36,.int .i64 (i.1:Int))]
   [(7,{els:=(mixS (shS b) p i.1).map sgPV,esz:=6,ety:=28,fro:=0,live:=true,arr:=true})]) (fun i=>p.length-i.1) ⟨0,Nat.zero_le _⟩ ?_ ?_
  ·refine Qaj (θ:=[(7,600)]) rfl ?_ ?_
   ·simp [Qac,lkp,ren1,ren0,Qao]
   ·simp only [Zld];exact⟨⟨rfl,rfl,rfl,rfl,rfl,.inl ⟨rfl,rfl⟩⟩,trivial⟩
  rintro⟨i,hi⟩;have hml:=Qz4 (shS b) p i hi;by_cases hA:i<p.length
  ·have hA':=ltT hA;have n0:=nnT i;have hwk:=Qah (a:=i) (by omega);obtain⟨⟨v1,v2,v3, -, -⟩, -, -⟩:=Qav (Qdp hV _ hA);have hs1:=Qz6 (shS b) p i hA;have hs2:=congrArg (List.map sgPV) hs1;have hg:((mixS (shS b) p i).map sgPV)[i]? =some (.agg [.int .i64 p[i].f,.int .i64 p[i].t,.int .i64 p[i].o,.slc (p[i].x.map (PV.int .i64)),.slc (p[i].y.map (PV.int .i64)),.slc (p[i].z.map (PV.int .i64))]):=by
    rw [List.getElem?_map,Qz5 _ p i hA];rfl
   have hlm:((mixS (shS b) p i).map sgPV).length=p.length:=by rw [List.length_map,hml]
   rw [List.map_set]at hs2;have hgs: ∀v,(((mixS (shS b) p i).map sgPV).set i v)[i]? =some v:=fun v=>by rw [List.getElem?_set_self (by omega)]
   have hss: ∀v w,(((mixS (shS b) p i).map sgPV).set i v).set i w=((mixS (shS b) p i).map sgPV).set i w:=fun v w=>List.set_set ..;have w1:IntKind.i64.wrap (p[i].f+b)=p[i].f+b:=Qai (by omega) (by omega);have w2:IntKind.i64.wrap (p[i].t+b)=p[i].t+b:=Qai (by omega) (by omega);generalize p[i]=s at*;generalize (mixS (shS b) p i).map sgPV=T at*;repeat simp -implicitDefEqProofs only [go_sem,seval,hA',n0,hwk,hg,hgs,hss,w1,w2,Int.toNat_natCast]
   refine⟨⟨i+1,hA⟩,by simp only;omega,Qaj (θ:=[(7,7)]) rfl ?_ ?_⟩
   ·simp [Qac,lkp,ren1,ren0,Qao]
   ·simp only [←hs2];exact⟨⟨rfl,rfl,rfl,rfl,rfl,.inl ⟨rfl,rfl⟩⟩,trivial⟩
  ·have hA':=ltF hA;obtain rfl:i=p.length:=by omega
   have e1:((p.map (shS b)).map sgPV).take p.length=(p.map (shS b)).map sgPV:=List.take_of_length_le (by simp);have e2:=Qdr (p.map (shS b));simp only [Zle];repeat simp -implicitDefEqProofs only [go_sem,seval,hA',e1,List.length_map]
   done
instance (x:Int):Decidable (i64 x):=by unfold i64;infer_instance
def okB (s:Sg):Bool:=decide (i64 s.f)&&(decide (i64 s.t)&&(decide (i64 s.o)&&(s.ax.all fun c=>c.all (fun x=>decide (i64 x))&&decide (c.length≤1000))))
theorem Q6i {s:Sg} (h:okB s=true):okSg s:=by
 unfold okB at h;simp only [Bool.and_eq_true,decide_eq_true_eq,List.all_eq_true]at h;obtain⟨h1,h2,h3,h4⟩:=h;exact⟨h1,h2,h3,fun c hc=>(h4 c hc).1,fun c hc=>(h4 c hc).2⟩
theorem Zlb {p:List Sg} (h:p.all okB=true): ∀s∈p,okSg s:=fun s hs=>Q6i (List.all_eq_true.1 h s hs)
def ex0:List Sg:=[⟨1000,3000,1,[100,20],[0,0,8],[50]⟩]
def exS:List Sg:=[⟨3000,4000,1,[120],[8],[50]⟩]
theorem Qj3: ∀s∈ex0,okSg s:=Zlb (by decide+kernel)
theorem Zsz: ∀s∈exS,okSg s:=Zlb (by decide+kernel)
theorem Qc2:Qa7 ex0=true:=by decide+kernel
theorem Zs0 {n:Nat} (h0:0<n) (h:n<256):digs 256 n=[n]:=by
 rw [digs,dif_neg (by omega),Nat.mod_eq_of_lt h,Nat.div_eq_of_lt h,Qa3]
theorem mB_1 {n:Nat} (h0:0<n) (h:n<256):mB (n:Int)=⟨#[UInt8.ofNat n]⟩:=by
 unfold mB magL;rw [Int.natAbs_natCast,Zs0 h0 h];rfl
theorem at0:atPV ex0 2000= .tup [vPV 110 2 50,.int .i64 0]:=by
 have h1:lasts ex0 2000=true:=by decide+kernel
 have e1:rnd (exQ ex0 2000 0) (exO ex0 2000)=110:=by decide+kernel
 have e2:rnd (exQ ex0 2000 1) (exO ex0 2000)=2:=by decide+kernel
 have e3:rnd (exQ ex0 2000 2) (exO ex0 2000)=50:=by decide+kernel
 unfold atPV;rw [if_pos Qc2,if_pos h1,e1,e2,e3]
theorem at1:atPV ex0 1500= .tup [vPV 105 1 50,.int .i64 0]:=by
 have h1:lasts ex0 1500=true:=by decide+kernel
 have e1:rnd (exQ ex0 1500 0) (exO ex0 1500)=105:=by decide+kernel
 have e2:rnd (exQ ex0 1500 1) (exO ex0 1500)=1:=by decide+kernel
 have e3:rnd (exQ ex0 1500 2) (exO ex0 1500)=50:=by decide+kernel
 unfold atPV;rw [if_pos Qc2,if_pos h1,e1,e2,e3]
theorem at2:atPV ex0 1250= .tup [vPV 103 0 50,.int .i64 0]:=by
 have h1:lasts ex0 1250=true:=by decide+kernel
 have e1:rnd (exQ ex0 1250 0) (exO ex0 1250)=103:=by decide+kernel
 have e2:rnd (exQ ex0 1250 1) (exO ex0 1250)=0:=by decide+kernel
 have e3:rnd (exQ ex0 1250 2) (exO ex0 1250)=50:=by decide+kernel
 unfold atPV;rw [if_pos Qc2,if_pos h1,e1,e2,e3]
theorem ex_q:exQ ex0 1500 0=210∧exQ ex0 1500 1=1∧exQ ex0 1500 2=100∧exO ex0 1500=2∧lasts ex0 1500=true:=by decide+kernel
theorem Znb:Qqx ex0 2000 3000= .tup [Qam [⟨2000,3000,1,[110,10],[2,4,2],[50]⟩],.int .i64 0]:=by
 have h1:pBeg ex0≤2000∧(2000:Int)<3000∧3000≤pEnd ex0:=by decide+kernel
 have h2:(spans ex0 2000 3000).all spF=true:=by decide+kernel
 have h3:(spans ex0 2000 3000).map spS=[⟨2000,3000,1,[110,10],[2,4,2],[50]⟩]:=by kernel_rfl
 unfold Qqx Qsm;rw [if_pos Qc2,if_pos h1,if_pos h2,h3]
theorem Znc:Qqx ex0 1000 1500= .tup [Qam [⟨1000,1500,2,[200,10],[0,0,1],[100]⟩],.int .i64 0]:=by
 have h1:pBeg ex0≤1000∧(1000:Int)<1500∧1500≤pEnd ex0:=by decide+kernel
 have h2:(spans ex0 1000 1500).all spF=true:=by decide+kernel
 have h3:(spans ex0 1000 1500).map spS=[⟨1000,1500,2,[200,10],[0,0,1],[100]⟩]:=by kernel_rfl
 unfold Qqx Qsm;rw [if_pos Qc2,if_pos h1,if_pos h2,h3]
theorem Zs1:Qhs ex0= .tup [Qam [⟨1000,3000,1,[120, -20],[8, -16,8],[50]⟩],.int .i64 0]:=by
 have h3:revP ex0=[⟨1000,3000,1,[120, -20],[8, -16,8],[50]⟩]:=by kernel_rfl
 unfold Qhs;rw [if_pos Qc2,h3]
theorem Zs2: ∀s∈ex0,Qqy s:=by unfold Qqy;decide+kernel
theorem Znd:Q11 ex0 ex0= .tup [Qam [],.int .i64 10]:=by
 have h: ¬Quq ex0 ex0=true:=by decide+kernel
 unfold Q11;rw [if_pos ⟨Qc2,Qc2⟩,if_neg h]
theorem Zne:Q11 ex0 exS= .tup [Qam (ex0++exS),.int .i64 0]:=by
 have h:Quq ex0 exS=true:=by decide+kernel
 have h2:Qa7 exS=true:=by decide+kernel
 unfold Q11;rw [if_pos ⟨Qc2,h2⟩,if_pos h];rfl
theorem Q6j:Qae Tryz.prog 25 [] (Qam ex0):=by
 refine Qab (tb:=[]) 6 [.tmp 0] [0] mixed Tryz.func25 rfl (by kernel_rfl) ?_;repeat simp -implicitDefEqProofs only [go_sem,seval]
 rfl
theorem Zdq:Qdb Tryz.prog 25 [] [] (.bs 104 6 0 1) [(104,{els:=ex0.map sgPV,esz:=6,ety:=28,fro:=0,live:=true,arr:=true})]:=by
 refine Qcn (tb:=[]) 6 [.tmp 0] [0] mixed Tryz.func25 rfl (by kernel_rfl) (by kernel_rfl) (by kernel_rfl) (by kernel_rfl) (by rfl) ?_;repeat simp -implicitDefEqProofs only [go_sem,seval]
 refine Qbv (.inl rfl) ?_;simp -implicitDefEqProofs only [go_sem];refine Qaj (θ:=[(104,104)]) rfl ?_ ?_
 ·simp [Qac,lkp,ren1,ren0,Qao]
 ·exact⟨⟨rfl,rfl,rfl,rfl,rfl,.inl ⟨rfl,rfl⟩⟩,trivial⟩
theorem Znf (t x y z:Int) (ht:i64 t) (h:atPV ex0 t= .tup [vPV x y z,.int .i64 0]):Qae Tryz.prog 24 [.int .i64 t,.agg [.int .i64 x,.int .i64 y,.int .i64 z]] (.bool true):=by
 have h1:=Q6j;have h2:=Zv3 ex0 t Qj3 (by decide) ht;rw [h]at h2;unfold Qam at h1 h2;unfold vPV at h2;generalize ex0.map sgPV=E at*;refine Qab (tb:=[]) 20 [.tmp 4] [0,1,3,4,5,6] mixed Tryz.func24 rfl (by kernel_rfl) ?_;repeat (first|simp -implicitDefEqProofs only [go_sem,seval,beq_self_eq_true]|(with_reducible refine Qaa h1 ?_ ?_ ?_);rfl;rfl|(with_reducible refine Qaa h2 ?_ ?_ ?_);rfl;rfl)
theorem Zs3 (s w:Sg) (hs: ∀c∈s.ax,c.length≤1000000000) (hw: ∀c∈w.ax,c.length≤1000000000):Qae Tryz.prog 30 [.slc [sgPV s],.int .i64 0,sgPV w] (.bool (Qhj s w)):=by
 have h:=Qj4 s w hs hw;unfold sgPV Qan at h ⊢;generalize Qhj s w=b at*;have g0: ∀v:PV,[v][0]? =some v:=fun _=>rfl;refine Qab (tb:=[]) 21 [.tmp 6] [0,1,2,5,6] mixed Tryz.func30 rfl (by kernel_rfl) ?_;repeat (first|simp -implicitDefEqProofs only [go_sem,seval,Znq,g0,List.length_cons,List.length_nil]|(with_reducible refine Qaa h ?_ ?_ ?_);rfl;rfl|(with_reducible exact Qad _ _ (by kernel_rfl)))
theorem Qut (P:List PV) (e w:Int):Qae Tryz.prog 19 [.slc P,.int .i64 e,.int .i64 w] (.bool ((e==w)&&((P.length:Int)==0))):=by
 refine Qab (tb:=[]) 15 [.tmp 6] [0,1,2,6] mixed Tryz.func19 rfl (by kernel_rfl) ?_;cases h:(e==w)with
 |true=>repeat simp -implicitDefEqProofs only [go_sem,seval,h,Bool.true_and]
 |false=>repeat simp -implicitDefEqProofs only [go_sem,seval,h,Bool.false_and]
theorem Qd9 (a b:List Sg) (ha:lenP a) (hb:lenP b):Qae Tryz.prog 11 [Qam a,Qam b] (.bool (Qmt a b)):=by
 have la:=ha.1;have lb:=hb.1;by_cases hl:a.length=b.length
 case neg=>
  have n1:((a.length:Int) != (b.length:Int))=true:=by simp only [bne_iff_ne,ne_eq];omega
  unfold Qmt;rw [decide_eq_false hl,Bool.false_and];refine Qab (tb:=[]) 27 [.tmp 4] [0,1,4,5,10,14,26] mixed Tryz.func11 rfl (by kernel_rfl) ?_;repeat simp -implicitDefEqProofs only [go_sem,seval,List.length_map,n1]
 have n1:((a.length:Int) != (b.length:Int))=false:=by rw [hl];simp
 have e0:Qmt a b=Qfk a b a.length:=by unfold Qmt;rw [decide_eq_true hl,Bool.true_and]
 rw [e0];refine Qab (tb:=[]) 27 [.tmp 4] [0,1,4,5,10,14,26] mixed Tryz.func11 rfl (by kernel_rfl) ?_;repeat simp -implicitDefEqProofs only [go_sem,seval,List.length_map,n1]
 have z0:0≤a.length∧Qfk a b 0=true:=⟨Nat.zero_le _,rfl⟩;refine Qaq mixed (fun i:{i:Nat // i≤a.length∧Qfk a b i=true}=>St.of [(0,Qam a),(1,Qam b),(4,.bool false),(5,.int .i64 (i.1:Int))] []) (fun i=>a.length-i.1) ⟨0,z0⟩ ?_ ?_
 ·exact Qaz (by simp [Qac,lkp,ren1,ren0,Qam])
 ·rintro⟨i,hi,hall⟩;by_cases hA:i<a.length
  ·have hA':=ltT hA;have n0:=nnT i;have hB:i<b.length:=by omega
   have g1:=Qbx a i hA;have g2:=Qbx b i hB;have hwk:=Qah (a:=i) (by omega);have hs:=Qj4 a[i] b[i] (ha.2 _ (List.getElem_mem hA)) (hb.2 _ (List.getElem_mem hB));have es:Qhj (a.getD i sg0) (b.getD i sg0)=Qhj a[i] b[i]:=by rw [sgD hA,sgD hB]
   unfold sgPV Qan at hs;cases hx:Qhj a[i] b[i]with
   |true=>
    rw [hx]at hs;have hn:Qfk a b (i+1)=true:=by rw [Qn6,hall,es,hx];rfl
    repeat (first|simp -implicitDefEqProofs only [go_sem,seval,hA',n0,g1,g2,hwk,Int.toNat_natCast,List.length_map]|(with_reducible refine Qaa hs ?_ ?_ ?_);rfl;rfl|(with_reducible refine And.intro (Qad _ _ (by kernel_rfl)) ?_))
    refine⟨⟨i+1,hA,hn⟩,by simp only;omega,Qaz (by simp [Qac,lkp,ren1,ren0,Qam])⟩
   |false=>
    rw [hx]at hs;rw [Qqm (es.trans hx) hA];repeat (first|simp -implicitDefEqProofs only [go_sem,seval,hA',n0,g1,g2,Int.toNat_natCast,List.length_map]|(with_reducible refine Qaa hs ?_ ?_ ?_);rfl;rfl|(with_reducible exact Qad _ _ (by kernel_rfl)))
  ·have hA':=ltF hA;obtain rfl:i=a.length:=by omega
   repeat simp -implicitDefEqProofs only [go_sem,seval,hA',hall,List.length_map]
theorem Zx8 (b:ByteArray):(b != b)=false:=by show(!(b==b))=false;rw [Q65];rfl
theorem Qxf {s:Sg} (h:(s.ax.all fun c=>Nat.ble c.length 1000)=true): ∀c∈s.ax,c.length≤1000000000:=fun c hc=>by
 have:=Nat.le_of_ble_eq_true (List.all_eq_true.1 h c hc);omega
theorem b210:mB 210=⟨#[210]⟩:=mB_1 (n:=210) (by decide) (by decide)
theorem b1:mB 1=⟨#[1]⟩:=mB_1 (n:=1) (by decide) (by decide)
theorem b100:mB 100=⟨#[100]⟩:=mB_1 (n:=100) (by decide) (by decide)
theorem b2:mB 2=⟨#[2]⟩:=mB_1 (n:=2) (by decide) (by decide)
def exPl:PV:= .agg [.bool false,.str ⟨#[210]⟩,.bool false,.str ⟨#[1]⟩,.bool false,.str ⟨#[100]⟩,.bool false,.str ⟨#[2]⟩]
theorem Qz1:Qaf 210 1 100 2=exPl:=by unfold Qaf;rw [b210,b1,b100,b2];rfl
theorem kexact:Qae Tryz.prog 26 [Qam ex0,.int .i64 1500] (.tup [exPl,.int .i64 0]):=by
 have h:=Q0c ex0 1500 Qj3 (by decide) (by unfold i64;decide);obtain⟨q1,q2,q3,q4,q5⟩:=ex_q;unfold Qsx at h
 rwa [if_pos Qc2,if_pos q5,q1,q2,q3,q4,Qz1]at h
theorem krexact:Qae Tryz.prog 28 [Qam ex0,.int .i64 1500] (Qev [210,1,100] 2):=by
 obtain⟨q1,q2,q3,q4,q5⟩:=ex_q;have h:=Zd6 ex0 1500 Qj3 (by decide) (by unfold i64;decide) Qc2 q5
 rwa [q1,q2,q3,q4]at h
theorem kout:Qae Tryz.prog 29 [Qev [210,1,100] 2] exPl:=by
 have h:=Q61 210 1 100 2 10 (by decide) (by decide) (by decide) (by decide) (by decide)
 rwa [Qz1]at h
theorem Zwa:Qae Tryz.prog 27 [Qam ex0,.int .i64 2000,.int .i64 3000] (.tup [Qam [⟨2000,3000,1,[110,10],[2,4,2],[50]⟩],.int .i64 0]):=by
 have h:=Zla ex0 2000 3000 Qj3 (by decide)
 rwa [Znb]at h
theorem Zwb:Qae Tryz.prog 27 [Qam ex0,.int .i64 1000,.int .i64 1500] (.tup [Qam [⟨1000,1500,2,[200,10],[0,0,1],[100]⟩],.int .i64 0]):=by
 have h:=Zla ex0 1000 1500 Qj3 (by decide)
 rwa [Znc]at h
theorem krev:Qae Tryz.prog 18 [Qam ex0] (.tup [Qam [⟨1000,3000,1,[120, -20],[8, -16,8],[50]⟩],.int .i64 0]):=by
 have h:=Qqz ex0 Qj3 (by decide) (fun _=>Zs2)
 rwa [Zs1]at h
theorem Zwc:Qae Tryz.prog 31 [Qam ex0,Qam ex0] (.tup [Qam [],.int .i64 10]):=by
 have h:=Qur ex0 ex0 Qj3 Qj3 (by decide) (by decide)
 rwa [Znd]at h
theorem Zwd:Qae Tryz.prog 31 [Qam ex0,Qam exS] (.tup [Qam (ex0++exS),.int .i64 0]):=by
 have h:=Qur ex0 exS Qj3 Zsz (by decide) (by decide)
 rwa [Zne]at h
theorem kone (s:Sg) (h:(s.ax.all fun c=>Nat.ble c.length 1000)=true) (hs:Qhj s s=true):Qae Tryz.prog 30 [.slc [sgPV s],.int .i64 0,sgPV s] (.bool true):=by
 have:=Zs3 s s (Qxf h) (Qxf h)
 rwa [hs]at this
theorem Zlc (p:List Sg) (h:p=ex0∨p=exS):Qae Tryz.prog 11 [Qam p,Qam p] (.bool true):=by
 have hl:lenP p:=by rcases h with rfl|rfl<;>exact⟨by decide,fun s hs=>by rw [List.mem_singleton.1 hs];exact Qxf rfl⟩
 have h1:=Qd9 p p hl hl;have h2:Qmt p p=true:=by rcases h with rfl|rfl<;>decide+kernel
 rwa [h2]at h1
theorem kvalid (s:Sg) (b:Bool) (h:okB s=true) (h2:Qa1 s=b):Qae Tryz.prog 32 [sgPV s] (.bool b):=by
 have:=Qz2 s (Q6i h)
 rwa [h2]at this
set_option maxHeartbeats 8000000 in
set_option maxRecDepth 100000 in
theorem Qim:Qae Tryz.prog 6 [] (.bool true):=by
 have hpath:=Q6j;have hpathB:=Zdq;have a0:=Znf 2000 110 2 50 (by unfold i64;decide) at0;have a1:=Znf 1500 105 1 50 (by unfold i64;decide) at1;have a2:=Znf 1250 103 0 50 (by unfold i64;decide) at2;have ke:=kexact;have kr:=krexact;have ko:=kout;have c1:=Zwa;have c2:=Zwb;have r1:=krev;have o1:=kone ⟨2000,3000,1,[110,10],[2,4,2],[50]⟩ rfl (by decide+kernel);have o2:=kone ⟨1000,1500,2,[200,10],[0,0,1],[100]⟩ rfl (by decide+kernel);have o3:=kone ⟨1000,3000,1,[120, -20],[8, -16,8],[50]⟩ rfl (by decide+kernel);have p1:=Zwc;have p2:=Zwd;have f1:=Qut [] 10 10;have s1:=Zlc ex0 (.inl rfl);have s2:=Zlc exS (.inr rfl);have v1:=kvalid ⟨1000,3000,1,[100,20],[0,0,8],[50,0]⟩ false (by decide+kernel) (by decide+kernel);have v2:=kvalid ⟨1000,3000,2,[200],[2],[4]⟩ false (by decide+kernel) (by decide+kernel);have v3:=kvalid ⟨1000,3000,1,[100,20],[0,0,8],[50]⟩ true (by decide+kernel) (by decide+kernel);have fb:((10:Int)==10&&(([]:List PV).length:Int)==0)=true:=rfl;rw [fb]at f1;obtain⟨R1,R2,R3,hR⟩: ∃R1 R2 R3,Qev [210,1,100] 2= .agg [.slc R1,.bool R2,.slc R3]:=⟨_,_,_,rfl⟩;rw [hR]at kr ko;clear hR;unfold exPl at ke ko;simp only [Qam,ex0,exS,sgPV,Qan,List.map_cons,List.map_nil,List.cons_append,List.nil_append]at hpath hpathB ke kr c1 c2 r1 o1 o2 o3 p1 p2 s1 s2 v1 v2 v3;have g0: ∀v:PV,[v][0]? =some v:=fun _=>rfl;have bl1:Nat.blt 1700 1000000=true:=rfl;have bl2:Nat.blt 1701 1000000=true:=rfl

 refine Qab (tb:=[(1700,[],[(104,1700)]),(1701,[],[(104,1701)])]) 193 [.tmp 0] [0,1,2,3,4,5,6,7,8,9,10,11,12,13,14,27,81,109,153] mixed Tryz.func6 rfl (by kernel_rfl) ?_;repeat (first|simp -implicitDefEqProofs only [go_sem,seval,g0,Qmv,Bool.not_true]|(with_reducible refine Qaa a0 ?_ ?_ ?_);rfl;rfl|(with_reducible refine Qaa a1 ?_ ?_ ?_);rfl;rfl|(with_reducible refine Qaa a2 ?_ ?_ ?_);rfl;rfl|(with_reducible refine Qaa hpath ?_ ?_ ?_);rfl;rfl|(with_reducible refine Qaa ke ?_ ?_ ?_);rfl;rfl|(with_reducible refine Qaa c1 ?_ ?_ ?_);rfl;rfl|(with_reducible refine Qaa c2 ?_ ?_ ?_);rfl;rfl|(with_reducible refine Qaa r1 ?_ ?_ ?_);rfl;rfl)
 repeat (first|simp -implicitDefEqProofs only [go_sem,seval,g0,Q65,Bool.not_true,beq_self_eq_true]|(with_reducible refine Qaa kr ?_ ?_ ?_);rfl;rfl|(with_reducible refine Qaa ko ?_ ?_ ?_);rfl;rfl|(with_reducible refine And.intro (Qad _ _ (by kernel_rfl)) ?_))
 repeat (first|simp -implicitDefEqProofs only [go_sem,seval,Bool.not_true]|(with_reducible refine Qaa o1 ?_ ?_ ?_);rfl;rfl|(with_reducible refine Qaa o2 ?_ ?_ ?_);rfl;rfl|(with_reducible refine Qaa o3 ?_ ?_ ?_);rfl;rfl)
 repeat (first|simp -implicitDefEqProofs only [go_sem,seval,g0]|(with_reducible refine Qaa p1 ?_ ?_ ?_);rfl;rfl|(with_reducible refine Qaa p2 ?_ ?_ ?_);rfl;rfl)
 repeat (first|simp -implicitDefEqProofs only [go_sem,seval,g0,Bool.not_true,List.length_cons,List.length_nil,List.take_succ_cons,List.take_zero,List.drop_succ_cons,List.drop_zero,bl1,bl2,bne_self_eq_false]|(with_reducible refine Qaa f1 ?_ ?_ ?_);rfl;rfl|(with_reducible refine Qaa s1 ?_ ?_ ?_);rfl;rfl|(with_reducible refine Qaa s2 ?_ ?_ ?_);rfl;rfl|(with_reducible refine Qbn hpathB ?_ ?_ ?_ ?_);rfl;rfl;rfl)
 repeat (first|simp -implicitDefEqProofs only [go_sem,seval,g0,List.length_cons,List.length_nil,Bool.not_false]|(with_reducible refine Qaa v1 ?_ ?_ ?_);rfl;rfl|(with_reducible refine Qaa v2 ?_ ?_ ?_);rfl;rfl|(with_reducible refine Qaa v3 ?_ ?_ ?_);rfl;rfl)
 trace_state
end Go.Proofs.YtlghoaggenhheaaGreat

namespace Go.Proofs.YtlghoaggenhheaaGreat
open Go.Vl Go.RowKit
theorem own:ownKnob Tryz.prog.godebug=none:=by kernel_rfl
theorem Zas:laidOutB Tryz.prog=true:=by kernel_rfl
theorem Zjl {k:IntKind} {c:List PV} (h:Qco (.int k) c): ∃n:Int,TT.mk (.int k) c= .int k n∧(Lit.int k n).wf=true:=by
 simp only [Qco]at h;obtain⟨x,rfl,hx⟩:=h;exact⟨x,rfl,hx⟩
theorem Qq6 {n:Int} (h:(Lit.int .i64 n).wf=true): -9223372036854775808≤n∧n≤9223372036854775807:=by
 have:=h;simp [Lit.wf,IntKind.min,IntKind.max,IntKind.signed,IntKind.bits]at this;omega
theorem Qs8 {c:List PV} (h:Qco (.int .i64) c): ∃n:Int,TT.mk (.int .i64) c= .int .i64 n∧ -9223372036854775808≤n∧n≤9223372036854775807:=by
 obtain⟨n,e,w⟩:=Zjl h;exact⟨n,e,Qq6 w⟩
end Go.Proofs.YtlghoaggenhheaaGreat

namespace Go.Proofs.YtlghoaggenhheaaGreat
open Go.Vl Go.RowKit Go.Dg
def Qx8 (s:Sg):Prop:=i64 s.f∧i64 s.t∧i64 s.o∧ ∀c∈s.ax,(∀x∈c,i64 x)∧c.length≤maxLen
theorem Zat {s:Sg} (h:Qx8 s) (hl: ∀c∈s.ax,c.length≤1000):okSg s:=⟨h.1,h.2.1,h.2.2.1,fun c hc=>(h.2.2.2 c hc).1,hl⟩
def segT:TT:= .agg [.int .i64,.int .i64,.int .i64,.slc (.int .i64),.slc (.int .i64),.slc (.int .i64)]
theorem Zau {n:Int} (h:(Lit.int .i64 n).wf=true):i64 n:=Qq6 h
theorem Qki: ∀ess:List (List PV),(∀c∈ess,Qco (.int .i64) c)→ ∃l:List Int,ess.map (TT.mk (.int .i64))=l.map (PV.int .i64)∧l.length=ess.length∧ ∀x∈l,i64 x
 | [],_=>⟨[],rfl,rfl,fun _ h=>nomatch h⟩
 |c::cs,h=>by
  obtain⟨n,e,b⟩:=Qs8 (h c (by simp));obtain⟨l,hl,hn,hx⟩:=Qki cs (fun c hc=>h c (by simp [hc]));refine⟨n::l,by simp [e,hl],by simp [hn],fun x hx'=> ?_⟩;cases hx' with
  |head=>exact b
  |tail _ h=>exact hx x h
theorem Zjn {c:List PV} (h:Qco segT c): ∃s:Sg,segT.mk c=sgPV s∧Qx8 s:=by
 simp only [segT,Qco,Qhi]at h;obtain⟨_,_,rfl,⟨f,rfl,hf⟩,_,_,rfl,⟨t,rfl,ht⟩,_,_,rfl,⟨o,rfl,ho⟩,_,_,rfl,⟨ex,rfl,mx,hx⟩,_,_,rfl,⟨ey,rfl,my,hy⟩,_,_,rfl,⟨ez,rfl,mz,hz⟩,rfl⟩:=h;obtain⟨lx,e1,n1,b1⟩:=Qki ex (fun c hc=>by have:=hx c hc;simpa only [Qco]using this);obtain⟨ly,e2,n2,b2⟩:=Qki ey (fun c hc=>by have:=hy c hc;simpa only [Qco]using this);obtain⟨lz,e3,n3,b3⟩:=Qki ez (fun c hc=>by have:=hz c hc;simpa only [Qco]using this);refine⟨⟨f,t,o,lx,ly,lz⟩,?_,Zau hf,Zau ht,Zau ho,?_⟩
 ·show PV.agg [.int .i64 f,.int .i64 t,.int .i64 o,.slc (ex.map (TT.mk (.int .i64))),.slc (ey.map (TT.mk (.int .i64))),.slc (ez.map (TT.mk (.int .i64)))]=_;rw [e1,e2,e3];rfl
 ·intro c hc;simp only [Sg.ax,List.mem_cons,List.not_mem_nil,or_false]at hc;rcases hc with rfl|rfl|rfl
  ·exact⟨b1,by omega⟩
  ·exact⟨b2,by omega⟩
  ·exact⟨b3,by omega⟩
theorem Qot {c:List PV} (h:Qco (.slc segT) c): ∃p:List Sg,TT.mk (.slc segT) c= .slc (p.map sgPV)∧((∀s∈p,Qx8 s)∧p.length≤maxLen):=by
 simp only [Qco]at h;obtain⟨ess,rfl,hm,h⟩:=h;have key: ∀ess:List (List PV),(∀c∈ess,Qco segT c)→ ∃l:List Sg,ess.map segT.mk=l.map sgPV∧l.length=ess.length∧ ∀s∈l,Qx8 s:=by
  intro ess
  induction ess with
  |nil=>exact fun _=>⟨[],rfl,rfl,fun _ h=>nomatch h⟩
  |cons c cs ih=>
   intro h;obtain⟨s,e,b⟩:=Zjn (h c (by simp));obtain⟨l,hl,hn,hx⟩:=ih (fun c hc=>h c (by simp [hc]));refine⟨s::l,by simp [e,hl],by simp [hn],fun x hx'=> ?_⟩;cases hx' with
   |head=>exact b
   |tail _ h=>exact hx x h
 obtain⟨l,e,hn,hx⟩:=key ess h;exact⟨l,by simp only [TT.mk,List.headD_cons];rw [e],hx,by omega⟩
theorem Zwe (l:List Int):((l.map (PV.int .i64)).all fun e=>e.cells.length==1&&Qa8 e.cells)=true:=by
 rw [List.all_map,List.all_eq_true];intro _ _;rfl
set_option maxHeartbeats 1000000 in
theorem Zng (p:List Sg) (hl:p.length≤100000) (hc: ∀s∈p,∀c∈s.ax,c.length≤100000):Qae Tryz.prog 12 [Qam p] (Qam p):=by
 unfold Qam;refine Qab (tb:=[]) 33 [.tmp 2] [0,2,3,4,5,9] mixed Tryz.func12 rfl (by kernel_rfl) ?_;repeat simp -implicitDefEqProofs only [go_sem,seval]
 refine Qaq mixed (fun i:{i:Nat // i≤p.length}=>St.of [(0,Qam p),(3,.bs 7 6 0 i.1),(4,.int .i64 (i.1:Int))]
  [(7,{els:=(p.take i.1).map sgPV,esz:=6,ety:=28,fro:=0,live:=true,arr:=true})]) (fun i=>p.length-i.1) ⟨0,Nat.zero_le _⟩ ?_ ?_
 ·refine Qci 3 7 6 28 rfl rfl rfl (by decide) [(7,7)] rfl ?_ ?_
  ·simp [Qac,lkp,ren1,ren0,Qao,Qam]
  ·exact⟨⟨rfl,rfl,rfl,rfl,rfl,.inl ⟨rfl,rfl⟩⟩,trivial⟩
 ·rintro⟨i,hi⟩;by_cases hA:i<p.length
  ·have hA':=ltT hA;have n0:=nnT i;have hg:=Qbx p i hA;have hwk:=Qah (a:=i) (by omega);have hs:=hc _ (List.getElem_mem hA);have c1:=hs p[i].x (by simp [Sg.ax]);have c2:=hs p[i].y (by simp [Sg.ax]);have c3:=hs p[i].z (by simp [Sg.ax]);have hlt:((p.take i).map sgPV).length=i:=by simp;omega
   have hok:=Qdr (p.take i);have k1:((i+1)*96≤140737488355328)=True:=eq_true (by omega);have k2:(i+1≤maxLen)=True:=eq_true (by unfold maxLen;omega);have hts:(p.take (i+1)).map sgPV=(p.take i).map sgPV++[sgPV p[i]]:=by rw [Qbe p i hA,List.map_append];rfl
   generalize (p.take i).map sgPV=T at*;generalize p[i]=s at*;have x1:(s.x.length*8≤140737488355328)=True:=eq_true (by omega);have x2:(s.y.length*8≤140737488355328)=True:=eq_true (by omega);have x3:(s.z.length*8≤140737488355328)=True:=eq_true (by omega);have y1:(s.x.length≤maxLen)=True:=eq_true (by unfold maxLen;omega);have y2:(s.y.length≤maxLen)=True:=eq_true (by unfold maxLen;omega);have y3:(s.z.length≤maxLen)=True:=eq_true (by unfold maxLen;omega);have t1:(s.x.map (PV.int .i64)).take s.x.length=s.x.map (PV.int .i64):=List.take_of_length_le (by simp);have t2:(s.y.map (PV.int .i64)).take s.y.length=s.y.map (PV.int .i64):=List.take_of_length_le (by simp);have t3:(s.z.map (PV.int .i64)).take s.z.length=s.z.map (PV.int .i64):=List.take_of_length_le (by simp);have z1:=Qeu s.x;have z2:=Qeu s.y;have z3:=Qeu s.z;repeat (first|simp -implicitDefEqProofs only [go_sem,seval,hA',n0,hg,hwk,hlt,hok,k1,k2,x1,x2,x3,y1,y2,y3,t1,t2,t3,Qsn,Int.toNat_natCast,List.length_map]|(with_reducible refine And.intro (Qad _ _ (by kernel_rfl)) ?_))
   refine⟨⟨i+1,hA⟩,by simp only;omega,Qaj (θ:=[(7,703)]) rfl ?_ ?_⟩
   ·simp [Qac,lkp,ren1,ren0,Qao,Qam]
   ·simp only [hts];exact⟨⟨rfl,rfl,rfl,rfl,rfl,.inl ⟨rfl,rfl⟩⟩,trivial⟩
  ·have hA':=ltF hA;obtain rfl:i=p.length:=by omega
   have ht:p.take p.length=p:=List.take_length;have e1:(p.map sgPV).take p.length=p.map sgPV:=List.take_of_length_le (by simp);have e2:=Qdr p;simp only [ht];repeat simp -implicitDefEqProofs only [go_sem,seval,hA',e1,List.length_map]
end Go.Proofs.YtlghoaggenhheaaGreat
