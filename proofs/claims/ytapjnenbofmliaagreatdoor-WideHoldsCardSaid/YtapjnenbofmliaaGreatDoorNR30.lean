/-
  NT2, NW20, NT5, NT6, NT7, US2, NR30 (merged for the claim).
-/
import Derived.Test.YtapjnenbofmliaaGreatDoorNW4
import Derived.Test.YtapjnenbofmliaaGreatDoorDe3
import Derived.Test.YtapjnenbofmliaaGreatDoorNT4
import Derived.Test.YtapjnenbofmliaaGreatDoorNK1
import Derived.Test.YtapjnenbofmliaaGreatDoorUV
import Derived.LaidMore
import Derived.OpenShut
import Derived.Stop.Joined
import Derived.Test.YtapjnenbofmliaaGreatDoorRows
import Derived.Test.YtapjnenbofmliaaGreatDoorTie
import Derived.Test.YtapjnenbofmliaaGreatDoorCards
import Derived.SevenTiedAt
import Derived.LaidSub
import Derived.MakeChecks
import Derived.Lib.LaidTab
import Derived.Lib.ItoaNum
set_option linter.unusedSimpArgs false
set_option linter.unusedVariables false
namespace Go.Proofs.YtapjnenbofmliaaGreatDoor
open Go.Vl Go.RowKit Go.Dg Go.Lib
theorem Q2r (b r:Nat):padk b (r%10^b)=padk b r:=by
 have:=Qi9 b 0 r;rw [Nat.zero_add]at this;rw [this];rfl
theorem Qtw (i n:Nat):padk (i+1) n=[UInt8.ofNat (48+n/10^i%10)]++padk i n:=by
 rw [Nat.add_comm i 1,Qi9 i 1 n,Q2r];rfl
theorem Qw4: ∀d:Nat,d<10→(⟨#[48,49,50,51,52,53,54,55,56,57]⟩:ByteArray).extract d (d+1)=⟨[UInt8.ofNat (48+d)].toArray⟩
 |0,_=>rfl
 |1,_=>rfl
 |2,_=>rfl
 |3,_=>rfl
 |4,_=>rfl
 |5,_=>rfl
 |6,_=>rfl
 |7,_=>rfl
 |8,_=>rfl
 |9,_=>rfl
 |n+10,h=>absurd h (by omega)
theorem Q2s:(⟨#[48,49,50,51,52,53,54,55,56,57]⟩:ByteArray).size=10:=rfl
theorem Q83 (n:Nat) (hn:n<1000000000):Qaf Tryz.prog 41 [.int .i64 (n:Int)] (.str ⟨(padk 9 n).toArray⟩):=by
 refine Qac (tb:=[]) 20 [.tmp 2] [0,2,3,4,6] mixed Tryz.func41 rfl (by kernel_rfl) (by kernel_rfl) (by kernel_rfl) (by kernel_rfl) ?_;simp -implicitDefEqProofs only [go_sem,Nat.reduceAdd,Nat.reduceMul,Nat.reduceEqDiff,Nat.reduceLT,Nat.reduceLeDiff,reduceCtorEq];refine Qa7 mixed (fun i:{i:Nat // i≤9}=>St.of [(0,.int .i64 ((n/10^i.1:Nat):Int)),(3,.str ⟨(padk i.1 n).toArray⟩),(4,.int .i64 (i.1:Int))] []) (fun i=>9-i.1) ⟨0,Nat.zero_le _⟩ ?_ ?_
 ·exact Qbc (by simp [Qag,lkp,ren1,ren0,padk])
 ·rintro⟨i,hi⟩;simp only;by_cases hA:i<9
  ·have hA':((i:Int)<9)=True:=by simp;omega
   obtain⟨m,hm⟩: ∃m,m=n/10^i:=⟨_,rfl⟩;have hd:m%10<10:=Nat.mod_lt _ (by decide);have e1:(m:Int).tmod 10=((m%10:Nat):Int):=rfl;have e2:(m:Int).tdiv 10=((m/10:Nat):Int):=rfl;have hml:m≤n:=by rw [hm];exact Nat.div_le_self _ _
   have w1:IntKind.i64.wrap (((m%10:Nat):Int)+1)=((m%10+1:Nat):Int):=by rw [Qai (by omega) (by omega)];omega
   have w2:IntKind.i64.wrap ((m/10:Nat):Int)=((m/10:Nat):Int):=Qai (by omega) (by omega);have w3:=Qay (a:=i) (by omega);have b1:(0≤((m%10:Nat):Int)∧((m%10:Nat):Int)≤((m%10+1:Nat):Int)∧((m%10+1:Nat):Int)≤((10:Nat):Int))=True:=eq_true (by omega);have hs:=Qw4 _ hd;have hz:=Q2s;have ha:=Qk1 [UInt8.ofNat (48+m%10)] (padk i n) (by rw [Qdj];simp;omega);have hp: [UInt8.ofNat (48+m%10)]++padk i n=padk (i+1) n:=by rw [Qtw,hm]
   have hq:n/10^(i+1)=m/10:=by rw [hm,Nat.pow_succ,Nat.div_div_eq_div_mul]
   rw [hp]at ha;rw [←hm];simp -implicitDefEqProofs only [go_sem,Nat.reduceAdd,Nat.reduceMul,Nat.reduceEqDiff,Nat.reduceLT,Nat.reduceLeDiff,reduceCtorEq,Int.reduceEq,hA',e1,e2,w1,w2,w3,b1,hs,hz,ha,Int.toNat_natCast];refine⟨⟨i+1,hA⟩,by simp only;omega,Qbc ?_⟩;simp only [hq];simp [Qag,lkp,ren1,ren0]
  ·have hA':((i:Int)<9)=False:=by simp;omega
   obtain rfl:i=9:=by omega
   simp -implicitDefEqProofs only [go_sem,Nat.reduceAdd,Nat.reduceMul,Nat.reduceEqDiff,Nat.reduceLT,Nat.reduceLeDiff,Nat.reduceSub,reduceCtorEq,hA']
theorem Qtx (c:UInt8) (r:List UInt8) (h:c=48):(c::r).dropWhile (· ==48)=r.dropWhile (· ==48):=by rw [List.dropWhile_cons,if_pos (by rw [h];rfl)]
theorem Qty (c:UInt8) (r:List UInt8) (h:c≠48):(c::r).dropWhile (· ==48)=c::r:=by rw [List.dropWhile_cons,if_neg (by simpa using h)]
theorem Zci (k:Nat):E9^k=10^(9*k):=by rw [Nat.pow_mul]
theorem Qtz {m L j:Nat} (h:j<L):padk (9*(L-(j+1))) (m/E9^(j+1))++padk 9 (m/E9^j%E9)=padk (9*(L-j)) (m/E9^j):=by
 have e:9*(L-j)=9*(L-(j+1))+9:=by omega
 rw [e,Qi9 9 (9*(L-(j+1))) (m/E9^j),show(10:Nat)^9=E9 from rfl,Nat.pow_succ,Nat.div_div_eq_div_mul]
set_option maxHeartbeats 2000000 in
theorem Qm0 (n:Int) (hl:(digs E9 n.natAbs).length≤100000):Qaf Tryz.prog 10 [rI n] (.str ⟨(txt (decide (n<0)) n.natAbs).toArray⟩):=by
 have hlt:n.natAbs<E9^(digs E9 n.natAbs).length:=Qaw E9_2 n.natAbs;have hw:IntKind.i64.wrap (((digs E9 n.natAbs).length:Int)-1)=((digs E9 n.natAbs).length:Int)-1:=Qai (by omega) (by omega);have hneg:decide (n<0)=true→n.natAbs≠0:=fun h=>by have:=of_decide_eq_true h;omega
 unfold rI;generalize decide (n<0)=neg at*;generalize n.natAbs=m at*;refine Qac (tb:=[]) 39 [.tmp 2] [0,1,2,3,4,10,28,33,35] mixed Tryz.func10 rfl (by kernel_rfl) (by kernel_rfl) (by kernel_rfl) (by kernel_rfl) ?_;simp -implicitDefEqProofs only [go_sem,seval,di,List.length_map,hw];generalize hL:(digs E9 m).length=L at*;refine Qa7 mixed (fun j:{j:Nat // j≤L}=>St.of [(1,.bp 0 2 0 0),(3,.str ⟨(padk (9*(L-j.1)) (m/E9^j.1)).toArray⟩),(4,.int .i64 ((j.1:Int)-1))] [(0,{els:=[.agg [.bool neg,di (digs E9 m)]],esz:=2,ety:=32,fro:=0,live:=true,arr:=false})]) (fun j=>j.1) ⟨L,Nat.le_refl _⟩ ?_ ?_
 ·refine Qa0 (θ:=[(0,0)]) rfl ?_ ?_
  ·simp [Qag,lkp,ren1,ren0,padk]
  ·exact⟨⟨rfl,rfl,rfl,rfl,rfl,.inr ⟨rfl,_,_,rfl,rfl,rfl,rfl⟩⟩,trivial⟩
 rintro⟨j,hj⟩;simp only;cases j with
 |succ j=>
  have hs:(((j+1:Nat):Int)-1)=(j:Int):=by omega
  have h1:((0:Int)≤(j:Int))=True:=by simp
  have hg:=Qam E9_2 (show j<(digs E9 m).length by omega);have hlow:m/E9^j%E9<1000000000:=Nat.mod_lt _ (by decide);have hn:=Q83 _ hlow;have w4:IntKind.i64.wrap ((j:Int)-1)=(j:Int)-1:=Qai (by omega) (by omega);have hst:=Qtz (m:=m) (show j<L by omega);have ha:=Qk1 (padk (9*(L-(j+1))) (m/E9^(j+1))) (padk 9 (m/E9^j%E9)) (by rw [Qdj,Qdj];omega);rw [hst]at ha;generalize padk (9*(L-(j+1))) (m/E9^(j+1))=A at*;generalize hD:m/E9^j%E9=D at*;generalize padk 9 D=B at*;repeat (first|(simp -implicitDefEqProofs only [go_sem,seval,di,hs,h1,Qdk,hg,w4,ha,Int.toNat_natCast])|((with_reducible refine Qaa hn ?_ ?_ ?_);rfl;rfl))
  refine⟨⟨j,by omega⟩,by simp only;omega,Qa0 (θ:=[(0,0)]) rfl ?_ ?_⟩
  ·simp [Qag,lkp,ren1,ren0]
  ·exact⟨⟨rfl,rfl,rfl,rfl,rfl,.inr ⟨rfl,_,_,rfl,rfl,rfl,rfl⟩⟩,trivial⟩
 |zero=>
  have h0:((0:Int)≤((0:Nat):Int)-1)=False:=by simp
  have hsp:=Qjt (9*L) m (by rw [←Zci];exact hlt);have hA0:padk (9*(L-0)) (m/E9^0)=padk (9*L) m:=by rw [Nat.sub_zero,Nat.pow_zero,Nat.div_one]
  have hpl:=Qdj (9*L) m;rw [hA0];generalize hTT:(if m=0 then []else decDigits m)=TT at*;generalize padk (9*L) m=A at*;simp -implicitDefEqProofs only [go_sem,seval,h0];refine Qa7 mixed (fun l:{l:List UInt8 // l.dropWhile (· ==48)=TT∧l.length≤9*L}=>St.of [(1,.bp 0 2 0 0),(3,.str ⟨l.1.toArray⟩)] [(0,{els:=[.agg [.bool neg,di (digs E9 m)]],esz:=2,ety:=32,fro:=0,live:=true,arr:=false})]) (fun l=>l.1.length) ⟨A,hsp,by omega⟩ ?_ ?_
  ·refine Qa0 (θ:=[(0,0)]) rfl ?_ ?_
   ·simp [Qag,lkp,ren1,ren0]
   ·exact⟨⟨rfl,rfl,rfl,rfl,rfl,.inr ⟨rfl,_,_,rfl,rfl,rfl,rfl⟩⟩,trivial⟩
  rintro⟨l,hl1,hl2⟩;simp only
  -- what is left
  have fin: ∀l:List UInt8,l=TT→l.length≤9*L→(((l.length:Int)==0)=decide (m=0))∧(m≠0→l=decDigits m):=fun l h _=>by
   subst h;rw [←hTT];by_cases hm:m=0
   ·rw [if_pos hm,decide_eq_true hm];exact⟨rfl,fun h=>absurd hm h⟩
   ·rw [if_neg hm,decide_eq_false hm];refine⟨?_,fun _=>rfl⟩;have:=Qk3 m;simp only [beq_eq_false_iff_ne,ne_eq];omega
  cases l with
  |nil=>
   obtain⟨f1,f2⟩:=fin [] (by simpa using hl1) (by simp);have hm:m=0:=by
    by_cases hm:m=0
    ·exact hm
    ·have:=f2 hm;exact absurd this.symm (Qho m)
   have hz:(⟨#[]⟩:ByteArray).size=0:=rfl;have e1:txt neg m=[48]:=by rw [txt,if_pos hm]
   have z0:((0:Int)<((0:Nat):Int))=False:=by simp
   have z1:(((0:Nat):Int)==0)=true:=rfl;simp -implicitDefEqProofs only [go_sem,seval,hz,e1,z0,z1]
  |cons c r=>
   have hz:=Qbz (c::r);rw [List.length_cons]at hz;have hat:=Qqa (c::r) 0;rw [List.getElem?_cons_zero]at hat;have hpos:((0:Int)<((r.length+1:Nat):Int))=True:=eq_true (by omega);by_cases hc:c=48
   ·subst hc;have c48:(((48:UInt8).toNat:Int)==48)=true:=rfl;have hcut:=Qix (48::r) 1 (r.length+1);rw [show((48::r).take (r.length+1)).drop 1=r by rw [List.take_of_length_le (by simp)];rfl]at hcut;have b1:(0≤(1:Int)∧(1:Int)≤((r.length+1:Nat):Int)∧((r.length+1:Nat):Int)≤((r.length+1:Nat):Int))=True:=eq_true (by omega);have b2:((1:Int)≤((r.length+1:Nat):Int))=True:=eq_true (by omega);rw [Qtx _ _ rfl]at hl1;simp -implicitDefEqProofs only [go_sem,seval,hz,hat,hpos,c48,hcut,b2,Int.toNat_natCast];refine⟨⟨r,hl1,by rw [List.length_cons]at hl2;omega⟩,by simp,Qa0 (θ:=[(0,0)]) rfl ?_ ?_⟩
    ·simp [Qag,lkp,ren1,ren0]
    ·exact⟨⟨rfl,rfl,rfl,rfl,rfl,.inr ⟨rfl,_,_,rfl,rfl,rfl,rfl⟩⟩,trivial⟩
   ·have c48:(((c.toNat:Nat):Int)==48)=false:=by
     simp only [beq_eq_false_iff_ne,ne_eq];intro e;exact hc (UInt8.toNat_inj.1 (by have:(48:UInt8).toNat=48:=rfl;omega))
    rw [Qty _ _ hc]at hl1;obtain⟨f1,f2⟩:=fin _ hl1 hl2;rw [List.length_cons]at f1;have hm:m≠0:=by
     intro hm;rw [decide_eq_true hm]at f1;simp only [beq_iff_eq]at f1;omega
    rw [decide_eq_false hm]at f1;have f2:=f2 hm;have hT:txt neg m=if neg then 45::decDigits m else decDigits m:=by rw [txt,if_neg hm]
    have ha:=Qk1 [45] (c::r) (by rw [List.length_cons]at hl2 ⊢;simp;omega);rw [hT,←f2];cases neg with
    |true=>
     rw [if_pos rfl];simp -implicitDefEqProofs only [go_sem,seval,hz,hat,hpos,c48,f1,ha,List.singleton_append]
    |false=>
     rw [if_neg Bool.false_ne_true];simp -implicitDefEqProofs only [go_sem,seval,hz,hat,hpos,c48,f1]
end Go.Proofs.YtapjnenbofmliaaGreatDoor

namespace Go.Proofs.YtapjnenbofmliaaGreatDoor
open Go.Vl Go.RowKit Go.Dg
theorem Qd5 {d:Nat} (h:d<BW):Qcf [d]=digs BW d:=by
 rw [Qi7 BW_2 [d] (by simpa using h)];simp [val]
theorem Zau (neg:Bool) (s:ByteArray) (h:Qa2 neg s.data.toList=true) (hs:s.size≤100000):Qaf Tryz.prog 22 [.agg [.bool neg,.str s]] (.int .i64 (wnum neg s).sign):=by
 have hv:=Qg0 neg s;rw [h]at hv;have ho:=Qj0 neg s h (by omega);have hg:=Qz9 neg (bnum s.data.toList);refine Qac (tb:=[]) 9 [.tmp 2] [0,1,2,5] mixed Tryz.func22 rfl (by kernel_rfl) (by kernel_rfl) (by kernel_rfl) (by kernel_rfl) ?_;repeat (first|(simp -implicitDefEqProofs only [go_sem,seval,nP,dw])|((with_reducible refine Qaa hv ?_ ?_ ?_);rfl;rfl)|((with_reducible refine Qaa ho ?_ ?_ ?_);rfl;rfl)|((with_reducible refine Qaa hg ?_ ?_ ?_);rfl;rfl))
 rfl
theorem Qu1 (an bn:Bool) (a b:ByteArray) (h1:Qa2 an a.data.toList=true) (h2:Qa2 bn b.data.toList=true) (ha:a.size≤100000) (hb:b.size≤100000):
  Qaf Tryz.prog 24 [.agg [.bool an,.str a],.agg [.bool bn,.str b]] (.int .i64 (wnum an a-wnum bn b).sign):=by
 have hv:=Qox an bn a b;rw [h1,h2]at hv;have hL1:=Qf3 a ha;have hL2:=Qf3 b hb;have hoa:=Qj0 an a h1 (by omega);have hob:=Qj0 bn b h2 (by omega);have hn:=Q8k bn (bnum b.data.toList);obtain⟨n,m,hs,e,hm⟩:=Q0a an (!bn) (bnum a.data.toList) (bnum b.data.toList) (by omega) (by omega);have hg:=Qz9 n m;have e2:sv (!bn) (bnum b.data.toList)= -(sv bn (bnum b.data.toList)):=by cases bn<;>simp [sv]
 have e3:sv n m=wnum an a-wnum bn b:=by rw [e,e2,wnum,wnum,Int.sub_eq_add_neg]
 rw [e3]at hg;rw [Bool.true_and]at hv;refine Qac (tb:=[]) 16 [.tmp 4] [0,1,2,3,4,8] mixed Tryz.func24 rfl (by kernel_rfl) (by kernel_rfl) (by kernel_rfl) (by kernel_rfl) ?_;repeat (first|(simp -implicitDefEqProofs only [go_sem,seval,nP,dw])|((with_reducible refine Qaa hv ?_ ?_ ?_);rfl;rfl)|((with_reducible refine Qaa hoa ?_ ?_ ?_);rfl;rfl)|((with_reducible refine Qaa hob ?_ ?_ ?_);rfl;rfl)|((with_reducible refine Qaa hn ?_ ?_ ?_);rfl;rfl)|((with_reducible refine Qaa hs ?_ ?_ ?_);rfl;rfl)|((with_reducible refine Qaa hg ?_ ?_ ?_);rfl;rfl)|(with_reducible exact Qah _ _ (by kernel_rfl)))
end Go.Proofs.YtapjnenbofmliaaGreatDoor

namespace Go.Proofs.YtapjnenbofmliaaGreatDoor
open Go.Vl Go.RowKit Go.Dg Go.Lib
def pneg:List UInt8→Bool
 | []=>false
 |c::_=>decide (c=45)
def pdig (l:List UInt8):List UInt8:=if pneg l=true then l.tail else l
theorem Qm1 (l:List UInt8):(pdig l).length≤l.length:=by
 unfold pdig;split
 ·rw [List.length_tail];omega
 ·exact Nat.le_refl _
theorem nat1:((1:Nat):Int)=1:=rfl
theorem nat0:((0:Nat):Int)=0:=rfl
theorem Qxa:(⟨#[45]⟩:ByteArray).size=1:=rfl
theorem Zck:(⟨#[]⟩:ByteArray).size=0:=rfl
theorem Q2v (l:List UInt8) (hl:l.length≤1000000000):Qaf Tryz.prog 93 [.str ⟨l.toArray⟩,.str ⟨#[45]⟩] (.bool (pneg l)):=by
 cases l with
 |nil=>
  have z0:((1:Int)≤0)=False:=by simp
  have h0:=Zck;have h1:=Qxa;refine Qac (tb:=[]) 18 [.tmp 4] [0,1,4] mixed Tryz.func93 rfl (by kernel_rfl) (by kernel_rfl) (by kernel_rfl) (by kernel_rfl) ?_;repeat (first|(simp -implicitDefEqProofs only [go_sem,seval,h0,h1,nat1,nat0,z0,pneg]))
 |cons c r=>
  have h1:=Qxa;have hz:=Qbz (c::r);rw [List.length_cons]at hz;have z0:((1:Int)≤((r.length+1:Nat):Int))=True:=eq_true (by omega);have hcut:=Qix (c::r) 0 1;rw [show((c::r).take 1).drop 0=[c]from rfl]at hcut;have he:=Qk2 [c] [45];have hc:([c]== [45])=decide (c=45):=by
   by_cases h:c=45
   ·subst h;rfl
   ·rw [decide_eq_false h,beq_eq_false_iff_ne];simpa using h
  rw [hc]at he;refine Qac (tb:=[]) 18 [.tmp 4] [0,1,4] mixed Tryz.func93 rfl (by kernel_rfl) (by kernel_rfl) (by kernel_rfl) (by kernel_rfl) ?_;repeat (first|(simp -implicitDefEqProofs only [go_sem,seval,hz,h1,nat1,z0,hcut,hc,pneg]))
theorem Zcl (l:List UInt8) (hl:l.length≤1000000000):Qaf Tryz.prog 77 [.str ⟨l.toArray⟩,.str ⟨#[45]⟩] (.tup [.str ⟨(pdig l).toArray⟩,.bool (pneg l)]):=by
 have hp:=Q2v l hl;unfold pdig;cases l with
 |nil=>
  refine Qac (tb:=[]) 15 [.tmp 4,.tmp 5] [0,1,4,5,9] mixed Tryz.func77 rfl (by kernel_rfl) (by kernel_rfl) (by kernel_rfl) (by kernel_rfl) ?_;repeat (first|(simp -implicitDefEqProofs only [go_sem,seval,pneg,Bool.not_false,Bool.false_eq_true,if_false])|((with_reducible refine Qaa hp ?_ ?_ ?_);rfl;rfl))
 |cons c r=>
  by_cases h:c=45
  ·subst h;have e:pneg (45::r)=true:=rfl;have h1:=Qxa;have hz:=Qbz (45::r);rw [List.length_cons]at hz;have z0:((1:Int)≤((r.length+1:Nat):Int))=True:=eq_true (by omega);have hcut:=Qix (45::r) 1 (r.length+1);rw [show((45::r).take (r.length+1)).drop 1=r by rw [List.take_of_length_le (by simp)];rfl]at hcut;rw [e]at hp ⊢;rw [if_pos rfl,List.tail_cons];refine Qac (tb:=[]) 15 [.tmp 4,.tmp 5] [0,1,4,5,9] mixed Tryz.func77 rfl (by kernel_rfl) (by kernel_rfl) (by kernel_rfl) (by kernel_rfl) ?_;repeat (first|(simp -implicitDefEqProofs only [go_sem,seval,Bool.not_true,h1,hz,nat1,z0,hcut,Int.toNat_natCast])|((with_reducible refine Qaa hp ?_ ?_ ?_);rfl;rfl))
  ·have e:pneg (c::r)=false:=decide_eq_false h;rw [e]at hp ⊢;rw [if_neg Bool.false_ne_true];refine Qac (tb:=[]) 15 [.tmp 4,.tmp 5] [0,1,4,5,9] mixed Tryz.func77 rfl (by kernel_rfl) (by kernel_rfl) (by kernel_rfl) (by kernel_rfl) ?_;repeat (first|(simp -implicitDefEqProofs only [go_sem,seval,Bool.not_false])|((with_reducible refine Qaa hp ?_ ?_ ?_);rfl;rfl))
theorem Zcm (l:List UInt8) (hl:l.length≤1000000000):Qaf Tryz.prog 46 [.str ⟨l.toArray⟩,.str ⟨#[45]⟩] (.tup [.str ⟨(pdig l).toArray⟩,.bool (pneg l)]):=by
 have h:=Zcl l hl;refine Qac (tb:=[]) 11 [.tmp 4,.tmp 5] [0,1,4,5] mixed Tryz.func46 rfl (by kernel_rfl) (by kernel_rfl) (by kernel_rfl) (by kernel_rfl) ?_;repeat (first|(simp -implicitDefEqProofs only [go_sem,seval])|((with_reducible refine Qaa h ?_ ?_ ?_);rfl;rfl))
def okD (l:List UInt8):Bool:=(pdig l).all isD&& !badD (pneg l) (pdig l)
def Qge (l:List UInt8):PV:=if okD l=true then Qe6 (sv (pneg l) (dval (pdig l)))else .tup [wPV 0,.int .i64 6]
theorem Qsh:digs BW 1000000000000000000=[1000000000000000000]:=by
 rw [←Qd5 (d:=1000000000000000000) (by decide)];decide
theorem Qdu {l:List UInt8} (h:l.all isD=true):(digs BW (dval l)).length≤l.length:=
 (Qaj BW_2 _ _).2 (Nat.lt_of_lt_of_le (Qhp l h) (Nat.pow_le_pow_left (by decide) _))
theorem Qgr {a b:Nat} (h:a≤b):(digs BW a).length≤(digs BW b).length:=(Qaj BW_2 _ _).2 (Nat.lt_of_le_of_lt h (Qaw BW_2 b))
theorem Qjx {c:UInt8}:isD c=true↔48≤c.toNat∧c.toNat≤57:=by simp [isD]
theorem Qoo {c:UInt8} (h:isD c=false):c.toNat<48∨57<c.toNat:=by
 by_cases h1:c.toNat<48
 ·exact .inl h1
 ·refine .inr ?_;by_cases h2:57<c.toNat
  ·exact h2
  ·rw [Qjx.2 ⟨by omega,by omega⟩]at h;cases h
theorem Qop {D p q:List UInt8} (hpq:p++q=D) (hi:p=[]∨q.length%18=0) (hq:q≠ []):(p++q.take ((q.length-1)%18+1))++q.drop ((q.length-1)%18+1)=D∧(q.drop ((q.length-1)%18+1)).length%18=0∧
  dval p*1000000000000000000+dval (q.take ((q.length-1)%18+1))=dval (p++q.take ((q.length-1)%18+1))∧(q.take ((q.length-1)%18+1)).length=(q.length-1)%18+1∧(q.length-1)%18+1≤q.length:=by
 have hl:0<q.length:=List.length_pos_iff.2 hq;have hk:(q.length-1)%18+1≤q.length:=by omega
 have htl:(q.take ((q.length-1)%18+1)).length=(q.length-1)%18+1:=by rw [List.length_take];omega
 refine⟨by rw [List.append_assoc,List.take_append_drop,hpq],by rw [List.length_drop];omega,?_,htl,hk⟩;rw [Qqi,htl];rcases hi with rfl|hi
 ·simp [dval,Qd1]
 ·have e:(q.length-1)%18+1=18:=by omega
  rw [e]
set_option maxHeartbeats 4000000 in
theorem Qsi (l:List UInt8) (hl:l.length≤21845):Qaf Tryz.prog 12 [.str ⟨l.toArray⟩] (Qge l):=by
 have hcp:=Zcm l (by omega);have hDl:=Qm1 l;unfold Qge okD;generalize pneg l=neg at*;generalize pdig l=D at*;rw [Qmv];obtain⟨RES,hRES⟩: ∃RES,RES=(if(D.all isD&& !badD neg D)=true then Qe6 (sv neg (dval D))else PV.tup [.agg [.bool false,.str ⟨#[]⟩],.int .i64 6]):=⟨_,rfl⟩;rw [←hRES];cases D with
 |nil=>
  have he:=Qk2 [] [];have hz:(([]:List UInt8)== [])=true:=rfl;rw [hz]at he;rw [if_neg (by simp [badD])]at hRES;rw [hRES];refine Qac (tb:=[]) 84 [.cell 2 23,.tmp 3] [0,2,3,4,5,6,7,8,9,30,33,34,35,46,51,55] mixed Tryz.func12 rfl (by kernel_rfl) (by kernel_rfl) (by kernel_rfl) (by kernel_rfl) ?_;repeat (first|(simp -implicitDefEqProofs only [go_sem,seval,hz])|((with_reducible refine Qaa hcp ?_ ?_ ?_);rfl;rfl))
 |cons c r=>
  have he:=Qk2 (c::r) [];have hz:((c::r:List UInt8)== [])=false:=rfl;rw [hz]at he;have hat:=Qqa (c::r) 0;rw [List.getElem?_cons_zero]at hat;have hsz:=Qbz (c::r);rw [List.length_cons]at hsz hDl;cases hb:badD neg (c::r)with
  |true=>
   rw [hb,if_neg (by simp)]at hRES;rw [hRES];have hc:c=48:=by
    by_cases h:c=48
    ·exact h
    ·simp [badD,h]at hb
   subst hc;have c48:(((48:UInt8).toNat:Int)==48)=true:=rfl;cases neg with
   |true=>
    refine Qac (tb:=[]) 84 [.cell 2 23,.tmp 3] [0,2,3,4,5,6,7,8,9,30,33,34,35,46,51,55] mixed Tryz.func12 rfl (by kernel_rfl) (by kernel_rfl) (by kernel_rfl) (by kernel_rfl) ?_;repeat (first|(simp -implicitDefEqProofs only [go_sem,seval,hz,hat,c48])|((with_reducible refine Qaa hcp ?_ ?_ ?_);rfl;rfl))
   |false=>
    have hr:((1:Int)<((r.length+1:Nat):Int))=True:=by
     refine eq_true ?_;cases r with
     |nil=>simp [badD]at hb
     |cons=>rw [List.length_cons];omega
    refine Qac (tb:=[]) 84 [.cell 2 23,.tmp 3] [0,2,3,4,5,6,7,8,9,30,33,34,35,46,51,55] mixed Tryz.func12 rfl (by kernel_rfl) (by kernel_rfl) (by kernel_rfl) (by kernel_rfl) ?_;repeat (first|(simp -implicitDefEqProofs only [go_sem,seval,hz,hat,c48,hsz,hr])|((with_reducible refine Qaa hcp ?_ ?_ ?_);rfl;rfl))
  |false=>
   have hsp:(c=48∧neg=false∧r=[])∨c≠48:=by
    by_cases h:c=48
    ·refine .inl ⟨h,?_⟩;subst h;cases neg<;>cases r<;>simp [badD]at hb ⊢
    ·exact .inr h
   rcases hsp with⟨hc,rfl,hr0⟩|hc
   ·have c48:(((c.toNat:Nat):Int)==48)=true:=by subst hc;rfl
    have r1:((1:Int)<((r.length+1:Nat):Int))=False:=by rw [hr0];simp
    refine Qac (tb:=[]) 84 [.cell 2 23,.tmp 3] [0,2,3,4,5,6,7,8,9,30,33,34,35,46,51,55] mixed Tryz.func12 rfl (by kernel_rfl) (by kernel_rfl) (by kernel_rfl) (by kernel_rfl) ?_;repeat (first|(simp -implicitDefEqProofs only [go_sem,seval,hz,hat,c48,hsz,r1])|((with_reducible refine Qaa hcp ?_ ?_ ?_);rfl;rfl))
    clear hr0;have hDl2:(c::r).length≤21845:=by rw [List.length_cons];omega
    have hDn:(c::r)≠ []:=by simp
    rw [show((r.length+1:Nat):Int)=((c::r).length:Int)by rw [List.length_cons]];clear hcp he hz hat hsz hDl hc c48;generalize c::r=D at*;refine Qa7 mixed (fun i:{i:Nat // i≤D.length∧(D.take i).all isD=true}=>St.of [(2,.bp 0 2 0 0),(4,.str ⟨D.toArray⟩),(5,.bool false),(33,.int .i64 (D.length:Int)),(34,.int .i64 (i.1:Int))] [(0,{els:=[.agg [.bool false,.str ⟨#[]⟩]],esz:=2,ety:=23,fro:=0,live:=true,arr:=false})]) (fun i=>D.length-i.1) ⟨0,Nat.zero_le _,rfl⟩ ?_ ?_
    ·refine Qa0 (θ:=[(0,0)]) rfl ?_ ?_
     ·simp [Qag,lkp,ren1,ren0,Qbv]
     ·exact⟨⟨rfl,rfl,rfl,rfl,rfl,.inr ⟨rfl,_,_,rfl,rfl,rfl,rfl⟩⟩,trivial⟩
    rintro⟨i,hi,hall⟩;simp only;by_cases hA:i<D.length
    case pos=>
     have hA':((i:Int)<(D.length:Int))=True:=eq_true (by omega);have n0:((0:Int)≤(i:Int))=True:=eq_true (by omega);have hat:=Qqa D i;rw [List.getElem?_eq_getElem hA]at hat;have hwk:=Qay (a:=i) (by omega);have htk:D.take (i+1)=D.take i++[D[i]]:=by rw [List.take_add_one];simp [hA]
     cases hd:isD D[i]with
     |true=>
      obtain⟨d1,d2⟩:=Qjx.1 hd;have t1:((D[i].toNat:Int)<48)=False:=eq_false (by omega);have t2:(57<(D[i].toNat:Int))=False:=eq_false (by omega);repeat (first|(simp -implicitDefEqProofs only [go_sem,seval,hA',n0,hat,t1,t2,hwk,Int.toNat_natCast]))
      refine⟨⟨i+1,hA,by rw [htk,List.all_append,hall];simp [hd]⟩,by simp only;omega,?_⟩;refine Qa0 (θ:=[(0,0)]) rfl ?_ ?_
      ·simp [Qag,lkp,ren1,ren0,Qbv]
      ·exact⟨⟨rfl,rfl,rfl,rfl,rfl,.inr ⟨rfl,_,_,rfl,rfl,rfl,rfl⟩⟩,trivial⟩
     |false=>
      have hno:D.all isD=false:=by rw [List.all_eq_false];exact⟨D[i],List.getElem_mem hA,by simp [hd]⟩
      rw [if_neg (by rw [hno];simp)]at hRES;rw [hRES];by_cases h1:D[i].toNat<48
      ·have t1:((D[i].toNat:Int)<48)=True:=eq_true (by omega);repeat (first|(simp -implicitDefEqProofs only [go_sem,seval,hA',n0,hat,t1,Int.toNat_natCast]))
      ·have h2:=(Qoo hd).resolve_left h1;have t1:((D[i].toNat:Int)<48)=False:=eq_false (by omega);have t2:(57<(D[i].toNat:Int))=True:=eq_true (by omega);repeat (first|(simp -implicitDefEqProofs only [go_sem,seval,hA',n0,hat,t1,t2,Int.toNat_natCast]))
    have hA':((i:Int)<(D.length:Int))=False:=eq_false (by omega);rw [List.take_of_length_le (by omega)]at hall;have hmax:(21845<(D.length:Int))=False:=eq_false (by omega);have hsz:=Qbz D;rw [if_pos (by rw [hall,hb];rfl)]at hRES;repeat (first|(simp -implicitDefEqProofs only [go_sem,seval,hA',hmax,hsz]))
    refine Qa7 mixed (fun x:{x:List UInt8×List UInt8 // x.1++x.2=D∧(x.1=[]∨x.2.length%18=0)}=>St.of [(2,.bp 0 2 0 0),(4,.str ⟨x.1.2.toArray⟩),(5,.bool false),(7,dw (digs BW (dval x.1.1)))] [(0,{els:=[.agg [.bool false,.str ⟨#[]⟩]],esz:=2,ety:=23,fro:=0,live:=true,arr:=false})]) (fun x=>x.1.2.length) ⟨([],D),rfl,.inl rfl⟩ ?_ ?_
    ·refine Le.trans (Qfr 7 rfl) (Qa0 (θ:=[(0,0)]) rfl ?_ ?_)
     ·simp [Qag,lkp,ren1,ren0,dw,dval,Qd1,Qan]
     ·exact⟨⟨rfl,rfl,rfl,rfl,rfl,.inr ⟨rfl,_,_,rfl,rfl,rfl,rfl⟩⟩,trivial⟩
    rintro⟨⟨p,q⟩,hpq,hi⟩;simp only at hpq hi ⊢;have hlp:p.length+q.length=D.length:=by rw [←hpq,List.length_append]
    have hap:p.all isD=true∧q.all isD=true:=by rw [←hpq,List.all_append,Bool.and_eq_true]at hall;exact hall
    have hzq:=Qbz q;by_cases hq:q=[]
    case pos=>
     subst hq;have hp:p=D:=by rw [←hpq,List.append_nil]
     have hnw:=Qgf false (dval D) (Nat.le_trans (Qdu hall) (by omega));have z0:((0:Int)<((0:Nat):Int))=False:=by simp
     rw [Qeg]at hnw hRES;rw [hRES];rw [hp];unfold nP dw wPV at hnw;unfold wPV;rw [List.length_nil]at hzq;repeat (first|(simp -implicitDefEqProofs only [go_sem,seval,hzq,z0,dw])|((with_reducible refine Qaa hnw ?_ ?_ ?_);rfl;rfl))
    obtain⟨s1,s2,s3,s4,s5⟩:=Qop hpq hi hq;have hl:0<q.length:=List.length_pos_iff.2 hq;have p0:((0:Int)<(q.length:Int))=True:=eq_true (by omega);have w1:IntKind.i64.wrap ((q.length:Int)-1)=((q.length-1:Nat):Int):=by rw [Qai (by omega) (by omega)];omega
    have w2:((q.length-1:Nat):Int).tmod 18=(((q.length-1)%18:Nat):Int):=rfl;have w3:IntKind.i64.wrap ((((q.length-1)%18:Nat):Int)+1)=(((q.length-1)%18+1:Nat):Int):=by rw [Qai (by omega) (by omega)];omega
    have hk18:(q.length-1)%18+1≤18:=by omega
    have htd:(q.take ((q.length-1)%18+1)).all isD=true:=List.all_eq_true.2 fun x hx=>List.all_eq_true.1 hap.2 x (List.mem_of_mem_take hx);have hpu:=Qgd ⟨(q.take ((q.length-1)%18+1)).toArray⟩ (by rw [Qbz,s4];omega) (dval (q.take ((q.length-1)%18+1))) (by
     rw [show(⟨(q.take ((q.length-1)%18+1)).toArray⟩:ByteArray).data.toList=q.take ((q.length-1)%18+1)by simp];exact Qoh _ (by intro e;rw [e]at s4;simp at s4) htd (by omega))
    have hdl:=Qhp _ htd;rw [s4]at hdl;have hdB:dval (q.take ((q.length-1)%18+1))<BW:=Nat.lt_of_lt_of_le hdl (Nat.le_trans (Nat.pow_le_pow_right (show 0<10 by decide) hk18) (by decide));have hcut1:=Qix q 0 ((q.length-1)%18+1);rw [List.drop_zero]at hcut1;have hcut2:=Qix q ((q.length-1)%18+1) q.length;rw [List.take_length]at hcut2;have hLp:=Qdu hap.1;have hm:=Qot (dval p) 1000000000000000000 (by rw [Qsh];simp only [List.length_singleton];omega);have ht:=Qce [dval (q.take ((q.length-1)%18+1))] (by simp [maxLen]);rw [Qd5 hdB]at ht;rw [Qsh]at hm;have hap2:(p++q.take ((q.length-1)%18+1)).all isD=true:=by rw [List.all_append,hap.1,htd];rfl
    have hLn:=Qdu hap2;rw [List.length_append,s4]at hLn;have hLm:(digs BW (dval p*1000000000000000000)).length≤1000000:=by
     refine Nat.le_trans (Nat.le_trans (Qgr ?_) hLn) (by omega);rw [←s3];exact Nat.le_add_right _ _
    have hLd:(digs BW (dval (q.take ((q.length-1)%18+1)))).length≤1000000:=Nat.le_trans (Qdu htd) (by omega);have had:=Qso (dval p*1000000000000000000) (dval (q.take ((q.length-1)%18+1))) (by omega) (by omega);rw [s3]at had;have b1:(((0:Int)≤(((q.length-1)%18+1:Nat):Int))∧(((q.length-1)%18+1:Nat):Int)≤(q.length:Int))=True:=eq_true (by omega);have b2:((0:Int)≤(((q.length-1)%18+1:Nat):Int))=True:=eq_true (by omega);have b3:((((q.length-1)%18+1:Nat):Int)≤(q.length:Int))=True:=eq_true (by omega);have hdrop:(q.drop ((q.length-1)%18+1)).length=q.length-((q.length-1)%18+1):=List.length_drop ..;generalize hkk:(q.length-1)%18+1=k at*;generalize q.take k=T at*;generalize dval p*1000000000000000000=PM at*;unfold dw at hm ht had;simp only [List.map_cons,List.map_nil]at hm ht;repeat (first|(simp -implicitDefEqProofs only [go_sem,seval,dw,hzq,p0,w1,w2,w3,hcut1,hcut2,b2,b3,Int.toNat_natCast,List.map_cons,List.map_nil])|((with_reducible refine Qaa hpu ?_ ?_ ?_);rfl;rfl)|((with_reducible refine Qaa hm ?_ ?_ ?_);rfl;rfl)|((with_reducible refine Qaa ht ?_ ?_ ?_);rfl;rfl)|((with_reducible refine Qaa had ?_ ?_ ?_);rfl;rfl))
    refine⟨⟨(p++T,q.drop k),s1,.inr s2⟩,by simp only [hdrop];omega,?_⟩;refine Qa0 (θ:=[(0,0)]) rfl ?_ ?_
    ·simp [Qag,lkp,ren1,ren0,Qbv,dw]
    ·exact⟨⟨rfl,rfl,rfl,rfl,rfl,.inr ⟨rfl,_,_,rfl,rfl,rfl,rfl⟩⟩,trivial⟩
   ·have c48:(((c.toNat:Nat):Int)==48)=false:=by
     rw [beq_eq_false_iff_ne];intro e;exact hc (UInt8.toNat_inj.1 (by have:(48:UInt8).toNat=48:=rfl;omega))
    refine Qac (tb:=[]) 84 [.cell 2 23,.tmp 3] [0,2,3,4,5,6,7,8,9,30,33,34,35,46,51,55] mixed Tryz.func12 rfl (by kernel_rfl) (by kernel_rfl) (by kernel_rfl) (by kernel_rfl) ?_;repeat (first|(simp -implicitDefEqProofs only [go_sem,seval,hz,hat,c48,hsz])|((with_reducible refine Qaa hcp ?_ ?_ ?_);rfl;rfl))
    have hDl2:(c::r).length≤21845:=by rw [List.length_cons];omega
    have hDn:(c::r)≠ []:=by simp
    rw [show((r.length+1:Nat):Int)=((c::r).length:Int)by rw [List.length_cons]];clear hcp he hz hat hsz hDl hc c48;generalize c::r=D at*;refine Qa7 mixed (fun i:{i:Nat // i≤D.length∧(D.take i).all isD=true}=>St.of [(2,.bp 0 2 0 0),(4,.str ⟨D.toArray⟩),(5,.bool neg),(33,.int .i64 (D.length:Int)),(34,.int .i64 (i.1:Int))] [(0,{els:=[.agg [.bool false,.str ⟨#[]⟩]],esz:=2,ety:=23,fro:=0,live:=true,arr:=false})]) (fun i=>D.length-i.1) ⟨0,Nat.zero_le _,rfl⟩ ?_ ?_
    ·refine Qa0 (θ:=[(0,0)]) rfl ?_ ?_
     ·simp [Qag,lkp,ren1,ren0,Qbv]
     ·exact⟨⟨rfl,rfl,rfl,rfl,rfl,.inr ⟨rfl,_,_,rfl,rfl,rfl,rfl⟩⟩,trivial⟩
    rintro⟨i,hi,hall⟩;simp only;by_cases hA:i<D.length
    case pos=>
     have hA':((i:Int)<(D.length:Int))=True:=eq_true (by omega);have n0:((0:Int)≤(i:Int))=True:=eq_true (by omega);have hat:=Qqa D i;rw [List.getElem?_eq_getElem hA]at hat;have hwk:=Qay (a:=i) (by omega);have htk:D.take (i+1)=D.take i++[D[i]]:=by rw [List.take_add_one];simp [hA]
     cases hd:isD D[i]with
     |true=>
      obtain⟨d1,d2⟩:=Qjx.1 hd;have t1:((D[i].toNat:Int)<48)=False:=eq_false (by omega);have t2:(57<(D[i].toNat:Int))=False:=eq_false (by omega);repeat (first|(simp -implicitDefEqProofs only [go_sem,seval,hA',n0,hat,t1,t2,hwk,Int.toNat_natCast]))
      refine⟨⟨i+1,hA,by rw [htk,List.all_append,hall];simp [hd]⟩,by simp only;omega,?_⟩;refine Qa0 (θ:=[(0,0)]) rfl ?_ ?_
      ·simp [Qag,lkp,ren1,ren0,Qbv]
      ·exact⟨⟨rfl,rfl,rfl,rfl,rfl,.inr ⟨rfl,_,_,rfl,rfl,rfl,rfl⟩⟩,trivial⟩
     |false=>
      have hno:D.all isD=false:=by rw [List.all_eq_false];exact⟨D[i],List.getElem_mem hA,by simp [hd]⟩
      rw [if_neg (by rw [hno];simp)]at hRES;rw [hRES];by_cases h1:D[i].toNat<48
      ·have t1:((D[i].toNat:Int)<48)=True:=eq_true (by omega);repeat (first|(simp -implicitDefEqProofs only [go_sem,seval,hA',n0,hat,t1,Int.toNat_natCast]))
      ·have h2:=(Qoo hd).resolve_left h1;have t1:((D[i].toNat:Int)<48)=False:=eq_false (by omega);have t2:(57<(D[i].toNat:Int))=True:=eq_true (by omega);repeat (first|(simp -implicitDefEqProofs only [go_sem,seval,hA',n0,hat,t1,t2,Int.toNat_natCast]))
    have hA':((i:Int)<(D.length:Int))=False:=eq_false (by omega);rw [List.take_of_length_le (by omega)]at hall;have hmax:(21845<(D.length:Int))=False:=eq_false (by omega);have hsz:=Qbz D;rw [if_pos (by rw [hall,hb];rfl)]at hRES;repeat (first|(simp -implicitDefEqProofs only [go_sem,seval,hA',hmax,hsz]))
    refine Qa7 mixed (fun x:{x:List UInt8×List UInt8 // x.1++x.2=D∧(x.1=[]∨x.2.length%18=0)}=>St.of [(2,.bp 0 2 0 0),(4,.str ⟨x.1.2.toArray⟩),(5,.bool neg),(7,dw (digs BW (dval x.1.1)))] [(0,{els:=[.agg [.bool false,.str ⟨#[]⟩]],esz:=2,ety:=23,fro:=0,live:=true,arr:=false})]) (fun x=>x.1.2.length) ⟨([],D),rfl,.inl rfl⟩ ?_ ?_
    ·refine Le.trans (Qfr 7 rfl) (Qa0 (θ:=[(0,0)]) rfl ?_ ?_)
     ·simp [Qag,lkp,ren1,ren0,dw,dval,Qd1,Qan]
     ·exact⟨⟨rfl,rfl,rfl,rfl,rfl,.inr ⟨rfl,_,_,rfl,rfl,rfl,rfl⟩⟩,trivial⟩
    rintro⟨⟨p,q⟩,hpq,hi⟩;simp only at hpq hi ⊢;have hlp:p.length+q.length=D.length:=by rw [←hpq,List.length_append]
    have hap:p.all isD=true∧q.all isD=true:=by rw [←hpq,List.all_append,Bool.and_eq_true]at hall;exact hall
    have hzq:=Qbz q;by_cases hq:q=[]
    case pos=>
     subst hq;have hp:p=D:=by rw [←hpq,List.append_nil]
     have hnw:=Qgf neg (dval D) (Nat.le_trans (Qdu hall) (by omega));have z0:((0:Int)<((0:Nat):Int))=False:=by simp
     rw [Qeg]at hnw hRES;rw [hRES];rw [hp];unfold nP dw wPV at hnw;unfold wPV;rw [List.length_nil]at hzq;repeat (first|(simp -implicitDefEqProofs only [go_sem,seval,hzq,z0,dw])|((with_reducible refine Qaa hnw ?_ ?_ ?_);rfl;rfl))
    obtain⟨s1,s2,s3,s4,s5⟩:=Qop hpq hi hq;have hl:0<q.length:=List.length_pos_iff.2 hq;have p0:((0:Int)<(q.length:Int))=True:=eq_true (by omega);have w1:IntKind.i64.wrap ((q.length:Int)-1)=((q.length-1:Nat):Int):=by rw [Qai (by omega) (by omega)];omega
    have w2:((q.length-1:Nat):Int).tmod 18=(((q.length-1)%18:Nat):Int):=rfl;have w3:IntKind.i64.wrap ((((q.length-1)%18:Nat):Int)+1)=(((q.length-1)%18+1:Nat):Int):=by rw [Qai (by omega) (by omega)];omega
    have hk18:(q.length-1)%18+1≤18:=by omega
    have htd:(q.take ((q.length-1)%18+1)).all isD=true:=List.all_eq_true.2 fun x hx=>List.all_eq_true.1 hap.2 x (List.mem_of_mem_take hx);have hpu:=Qgd ⟨(q.take ((q.length-1)%18+1)).toArray⟩ (by rw [Qbz,s4];omega) (dval (q.take ((q.length-1)%18+1))) (by
     rw [show(⟨(q.take ((q.length-1)%18+1)).toArray⟩:ByteArray).data.toList=q.take ((q.length-1)%18+1)by simp];exact Qoh _ (by intro e;rw [e]at s4;simp at s4) htd (by omega))
    have hdl:=Qhp _ htd;rw [s4]at hdl;have hdB:dval (q.take ((q.length-1)%18+1))<BW:=Nat.lt_of_lt_of_le hdl (Nat.le_trans (Nat.pow_le_pow_right (show 0<10 by decide) hk18) (by decide));have hcut1:=Qix q 0 ((q.length-1)%18+1);rw [List.drop_zero]at hcut1;have hcut2:=Qix q ((q.length-1)%18+1) q.length;rw [List.take_length]at hcut2;have hLp:=Qdu hap.1;have hm:=Qot (dval p) 1000000000000000000 (by rw [Qsh];simp only [List.length_singleton];omega);have ht:=Qce [dval (q.take ((q.length-1)%18+1))] (by simp [maxLen]);rw [Qd5 hdB]at ht;rw [Qsh]at hm;have hap2:(p++q.take ((q.length-1)%18+1)).all isD=true:=by rw [List.all_append,hap.1,htd];rfl
    have hLn:=Qdu hap2;rw [List.length_append,s4]at hLn;have hLm:(digs BW (dval p*1000000000000000000)).length≤1000000:=by
     refine Nat.le_trans (Nat.le_trans (Qgr ?_) hLn) (by omega);rw [←s3];exact Nat.le_add_right _ _
    have hLd:(digs BW (dval (q.take ((q.length-1)%18+1)))).length≤1000000:=Nat.le_trans (Qdu htd) (by omega);have had:=Qso (dval p*1000000000000000000) (dval (q.take ((q.length-1)%18+1))) (by omega) (by omega);rw [s3]at had;have b1:(((0:Int)≤(((q.length-1)%18+1:Nat):Int))∧(((q.length-1)%18+1:Nat):Int)≤(q.length:Int))=True:=eq_true (by omega);have b2:((0:Int)≤(((q.length-1)%18+1:Nat):Int))=True:=eq_true (by omega);have b3:((((q.length-1)%18+1:Nat):Int)≤(q.length:Int))=True:=eq_true (by omega);have hdrop:(q.drop ((q.length-1)%18+1)).length=q.length-((q.length-1)%18+1):=List.length_drop ..;generalize hkk:(q.length-1)%18+1=k at*;generalize q.take k=T at*;generalize dval p*1000000000000000000=PM at*;unfold dw at hm ht had;simp only [List.map_cons,List.map_nil]at hm ht;repeat (first|(simp -implicitDefEqProofs only [go_sem,seval,dw,hzq,p0,w1,w2,w3,hcut1,hcut2,b2,b3,Int.toNat_natCast,List.map_cons,List.map_nil])|((with_reducible refine Qaa hpu ?_ ?_ ?_);rfl;rfl)|((with_reducible refine Qaa hm ?_ ?_ ?_);rfl;rfl)|((with_reducible refine Qaa ht ?_ ?_ ?_);rfl;rfl)|((with_reducible refine Qaa had ?_ ?_ ?_);rfl;rfl))
    refine⟨⟨(p++T,q.drop k),s1,.inr s2⟩,by simp only [hdrop];omega,?_⟩;refine Qa0 (θ:=[(0,0)]) rfl ?_ ?_
    ·simp [Qag,lkp,ren1,ren0,Qbv,dw]
    ·exact⟨⟨rfl,rfl,rfl,rfl,rfl,.inr ⟨rfl,_,_,rfl,rfl,rfl,rfl⟩⟩,trivial⟩
def Qft (l:List UInt8):PV:=if okD l=true then .tup [rI (sv (pneg l) (dval (pdig l))),.bool true]else if(pdig l).all isD=true then .tup [rI (sv (pneg l) (dval (pdig l))),.bool false]else .tup [.agg [.bool false,.slc []],.bool false]
theorem Qsj (neg:Bool) (m:Nat):txt (decide (sv neg m<0)) (sv neg m).natAbs=txt neg m:=by
 by_cases h0:m=0
 ·subst h0;cases neg<;>simp [sv,txt]
 ·cases neg with
  |true=>
   have e1:decide (sv true m<0)=true:=decide_eq_true (by simp [sv];omega);rw [e1];simp [sv]
  |false=>
   have e1:decide (sv false m<0)=false:=decide_eq_false (by simp [sv]);rw [e1];simp [sv]
theorem Zcn (l:List UInt8) (h:(pdig l).all isD=true):(txt (pneg l) (dval (pdig l))==l)= !badD (pneg l) (pdig l):=by
 rw [←Q2k _ _ h];congr 1;unfold pdig;cases l with
 |nil=>rfl
 |cons c r=>
  by_cases hc:c=45
  ·subst hc;rfl
  ·have e:pneg (c::r)=false:=decide_eq_false hc;rw [e];rfl
theorem Q84 {D:List UInt8} {i:Nat} (h:i<D.length):dval (D.take (i+1))=dval (D.take i)*10+(D[i].toNat-48):=by
 rw [List.take_add_one,List.getElem?_eq_getElem h,Option.toList_some,Qjs]
theorem Qgs {l:List UInt8} (h:l.all isD=true):(digs E9 (dval l)).length≤l.length:=
 (Qaj E9_2 _ _).2 (Nat.lt_of_lt_of_le (Qhp l h) (Nat.pow_le_pow_left (by decide) _))
set_option maxHeartbeats 4000000 in
theorem Q2w (l:List UInt8) (hl:l.length≤30000):Qaf Tryz.prog 13 [.str ⟨l.toArray⟩] (Qft l):=by
 have hDl:=Qm1 l;have htx:=Zcn l;unfold Qft okD;obtain⟨RES,hRES⟩: ∃RES,RES=(if((pdig l).all isD&& !badD (pneg l) (pdig l))=true then PV.tup [rI (sv (pneg l) (dval (pdig l))),.bool true]else if(pdig l).all isD=true then .tup [rI (sv (pneg l) (dval (pdig l))),.bool false]else .tup [.agg [.bool false,.slc []],.bool false]):=⟨_,rfl⟩;rw [←hRES];have hz:=Qbz l;have hcs:(pneg l=true∧l.length=(pdig l).length+1∧(⟨l.toArray⟩:ByteArray)[0]? =some 45∧(⟨l.toArray⟩:ByteArray).extract 1 l.length=⟨(pdig l).toArray⟩)∨(pneg l=false∧pdig l=l∧(l.length=0∨ ∃c,(⟨l.toArray⟩:ByteArray)[0]? =some c∧0<l.length∧((c.toNat:Int)==45)=false)):=by
  cases l with
  |nil=>exact .inr ⟨rfl,rfl,.inl rfl⟩
  |cons c r=>
   have hat:=Qqa (c::r) 0;rw [List.getElem?_cons_zero]at hat;by_cases hc:c=45
   ·subst hc;have hn:pneg (45::r)=true:=rfl;have hD:pdig (45::r)=r:=by unfold pdig;rw [if_pos hn];rfl
    have hcut:=Qix (45::r) 1 (45::r).length;rw [List.take_length,List.drop_one,List.tail_cons]at hcut;rw [hD];exact .inl ⟨hn,rfl,hat,hcut⟩
   ·have hn:pneg (c::r)=false:=decide_eq_false hc;have hD:pdig (c::r)=c::r:=by unfold pdig;rw [if_neg (by rw [hn];decide)]
    refine .inr ⟨hn,hD,.inr ⟨c,hat,by simp,?_⟩⟩;rw [beq_eq_false_iff_ne];intro e;exact hc (UInt8.toNat_inj.1 (by have:(45:UInt8).toNat=45:=rfl;omega))
 generalize pneg l=neg at*;generalize pdig l=D at*;rcases hcs with⟨rfl,hlen,hat0,hcut⟩|⟨rfl,rfl,h0|⟨c,hat0,hp0,c45⟩⟩
 ·have hpos:((0:Int)<(l.length:Int))=True:=eq_true (by omega);have c45:(((45:UInt8).toNat:Int)==45)=true:=rfl;have b1:((1:Int)≤(l.length:Int))=True:=eq_true (by omega);refine Qac (tb:=[]) 56 [.cell 2 32,.tmp 3] [0,2,3,4,5,6,7,8,18,24,36] mixed Tryz.func13 rfl (by kernel_rfl) (by kernel_rfl) (by kernel_rfl) (by kernel_rfl) ?_;repeat (first|(simp -implicitDefEqProofs only [go_sem,seval,hz,hat0,hpos,c45,hcut,b1,Int.toNat_natCast]))
  clear hcut hat0;refine Qa7 mixed (fun i:{i:Nat // i≤D.length∧(D.take i).all isD=true}=>St.of [(0,.str ⟨l.toArray⟩),(2,.bp 0 2 0 0),(4,.bool true),(5,.str ⟨D.toArray⟩),(6,di (digs E9 (dval (D.take i.1)))),(7,.int .i64 (i.1:Int))] [(0,{els:=[.agg [.bool false,.nilS]],esz:=2,ety:=32,fro:=0,live:=true,arr:=false})]) (fun i=>D.length-i.1) ⟨0,Nat.zero_le _,rfl⟩ ?_ ?_
  ·refine Le.trans (Qfr 6 rfl) (Qa0 (θ:=[(0,0)]) rfl ?_ ?_)
   ·simp [Qag,lkp,ren1,ren0,di,dval,Qd1,Qan]
   ·exact⟨⟨rfl,rfl,rfl,rfl,rfl,.inr ⟨rfl,_,_,rfl,rfl,rfl,rfl⟩⟩,trivial⟩
  rintro⟨i,hi,hall⟩;simp only;have hszD:=Qbz D;by_cases hA:i<D.length
  case pos=>
   have hA':((i:Int)<(D.length:Int))=True:=eq_true (by omega);have n0:((0:Int)≤(i:Int))=True:=eq_true (by omega);have hat:=Qqa D i;rw [List.getElem?_eq_getElem hA]at hat;have hwk:=Qay (a:=i) (by omega);have htk:D.take (i+1)=D.take i++[D[i]]:=by rw [List.take_add_one];simp [hA]
   have hdv:=Q84 hA;cases hd:isD D[i]with
   |true=>
    obtain⟨d1,d2⟩:=Qjx.1 hd;have t1:((D[i].toNat:Int)<48)=False:=eq_false (by omega);have t2:(57<(D[i].toNat:Int))=False:=eq_false (by omega);have w1:IntKind.u8.wrap ((D[i].toNat:Int)-48)=((D[i].toNat-48:Nat):Int):=by simp [IntKind.wrap,IntKind.bits,IntKind.signed];omega
    have w2:IntKind.i64.wrap ((D[i].toNat-48:Nat):Int)=((D[i].toNat-48:Nat):Int):=Qai (by omega) (by omega);have hLi:=Qgs hall;rw [List.length_take]at hLi;have hall2:(D.take (i+1)).all isD=true:=by rw [htk,List.all_append,hall];simp [hd]
    have hLs:=Qgs hall2;rw [List.length_take]at hLs;have hsm:=Qja (dval (D.take i)) 10 (by decide) (by omega);have htr:=Qe5 [D[i].toNat-48] (by simp [maxLen]);rw [Qjb (show D[i].toNat-48<E9 from Nat.lt_of_le_of_lt (show D[i].toNat-48≤9 by omega) (by decide))]at htr;have hpl:=Qjv (dval (D.take i)*10) (D[i].toNat-48) (by rw [←hdv];omega);rw [←hdv]at hpl;have n10:((10:Nat):Int)=10:=rfl;rw [n10]at hsm;unfold di at hsm htr hpl;simp only [List.map_cons,List.map_nil]at htr;generalize hV:dval (D.take (i+1))=V at*;generalize dval (D.take i)*10=V10 at*;repeat (first|(simp -implicitDefEqProofs only [go_sem,seval,di,hA',hszD,n0,hat,t1,t2,w1,w2,hwk,Int.toNat_natCast,List.map_cons,List.map_nil])|((with_reducible refine Qaa hsm ?_ ?_ ?_);rfl;rfl)|((with_reducible refine Qaa htr ?_ ?_ ?_);rfl;rfl)|((with_reducible refine Qaa hpl ?_ ?_ ?_);rfl;rfl)|(with_reducible refine And.intro (Qah _ _ (by kernel_rfl)) ?_))
    refine⟨⟨i+1,hA,hall2⟩,by simp only;omega,?_⟩;simp only [hV];refine Qa0 (θ:=[(0,0)]) rfl ?_ ?_
    ·simp [Qag,lkp,ren1,ren0,Qbv,di]
    ·exact⟨⟨rfl,rfl,rfl,rfl,rfl,.inr ⟨rfl,_,_,rfl,rfl,rfl,rfl⟩⟩,trivial⟩
   |false=>
    have hno:D.all isD=false:=by rw [List.all_eq_false];exact⟨D[i],List.getElem_mem hA,by simp [hd]⟩
    rw [if_neg (by rw [hno];simp),if_neg (by rw [hno];simp)]at hRES;rw [hRES];by_cases h1:D[i].toNat<48
    ·have t1:((D[i].toNat:Int)<48)=True:=eq_true (by omega);repeat (first|(simp -implicitDefEqProofs only [go_sem,seval,di,hA',hszD,n0,hat,t1,Int.toNat_natCast]))
    ·have h2:=(Qoo hd).resolve_left h1;have t1:((D[i].toNat:Int)<48)=False:=eq_false (by omega);have t2:(57<(D[i].toNat:Int))=True:=eq_true (by omega);repeat (first|(simp -implicitDefEqProofs only [go_sem,seval,di,hA',hszD,n0,hat,t1,t2,Int.toNat_natCast]))
  have hA':((i:Int)<(D.length:Int))=False:=eq_false (by omega);have htd:D.take i=D:=List.take_of_length_le (by omega);rw [htd]at hall ⊢;have htx:=htx hall;have hmd:=Qd2 true (dval D);rw [show(if true=true then -(dval D:Int)else(dval D:Int))=sv true (dval D)from rfl]at hmd;have htt:=Qm0 (sv true (dval D)) (by rw [show(sv true (dval D)).natAbs=dval D by simp [sv]];exact Nat.le_trans (Qgs hall) (by omega));rw [Qsj]at htt;have heq:=Qk2 (txt true (dval D)) l;rw [htx]at heq;have hr2:RES= .tup [rI (sv true (dval D)),.bool !badD true D]:=by
   rw [hRES];cases hb:badD true D with
   |true=>rw [if_neg (by simp),if_pos hall];rfl
   |false=>rw [if_pos (by rw [hall];rfl)];rfl
  rw [hr2];generalize badD true D=B at*;generalize sv true (dval D)=X at*;unfold rI di at hmd htt;unfold rI;repeat (first|(simp -implicitDefEqProofs only [go_sem,seval,di,hA',hszD,htx])|((with_reducible refine Qaa hmd ?_ ?_ ?_);rfl;rfl)|((with_reducible refine Qaa htt ?_ ?_ ?_);rfl;rfl)|(with_reducible exact Qah _ _ (by kernel_rfl)))
 ·have hpos:((0:Int)<(D.length:Int))=False:=eq_false (by omega);refine Qac (tb:=[]) 56 [.cell 2 32,.tmp 3] [0,2,3,4,5,6,7,8,18,24,36] mixed Tryz.func13 rfl (by kernel_rfl) (by kernel_rfl) (by kernel_rfl) (by kernel_rfl) ?_;repeat (first|(simp -implicitDefEqProofs only [go_sem,seval,hz,hpos]))
  refine Qa7 mixed (fun i:{i:Nat // i≤D.length∧(D.take i).all isD=true}=>St.of [(0,.str ⟨D.toArray⟩),(2,.bp 0 2 0 0),(4,.bool false),(5,.str ⟨D.toArray⟩),(6,di (digs E9 (dval (D.take i.1)))),(7,.int .i64 (i.1:Int))] [(0,{els:=[.agg [.bool false,.nilS]],esz:=2,ety:=32,fro:=0,live:=true,arr:=false})]) (fun i=>D.length-i.1) ⟨0,Nat.zero_le _,rfl⟩ ?_ ?_
  ·refine Le.trans (Qfr 6 rfl) (Qa0 (θ:=[(0,0)]) rfl ?_ ?_)
   ·simp [Qag,lkp,ren1,ren0,di,dval,Qd1,Qan]
   ·exact⟨⟨rfl,rfl,rfl,rfl,rfl,.inr ⟨rfl,_,_,rfl,rfl,rfl,rfl⟩⟩,trivial⟩
  rintro⟨i,hi,hall⟩;simp only;have hszD:=Qbz D;by_cases hA:i<D.length
  case pos=>
   have hA':((i:Int)<(D.length:Int))=True:=eq_true (by omega);have n0:((0:Int)≤(i:Int))=True:=eq_true (by omega);have hat:=Qqa D i;rw [List.getElem?_eq_getElem hA]at hat;have hwk:=Qay (a:=i) (by omega);have htk:D.take (i+1)=D.take i++[D[i]]:=by rw [List.take_add_one];simp [hA]
   have hdv:=Q84 hA;cases hd:isD D[i]with
   |true=>
    obtain⟨d1,d2⟩:=Qjx.1 hd;have t1:((D[i].toNat:Int)<48)=False:=eq_false (by omega);have t2:(57<(D[i].toNat:Int))=False:=eq_false (by omega);have w1:IntKind.u8.wrap ((D[i].toNat:Int)-48)=((D[i].toNat-48:Nat):Int):=by simp [IntKind.wrap,IntKind.bits,IntKind.signed];omega
    have w2:IntKind.i64.wrap ((D[i].toNat-48:Nat):Int)=((D[i].toNat-48:Nat):Int):=Qai (by omega) (by omega);have hLi:=Qgs hall;rw [List.length_take]at hLi;have hall2:(D.take (i+1)).all isD=true:=by rw [htk,List.all_append,hall];simp [hd]
    have hLs:=Qgs hall2;rw [List.length_take]at hLs;have hsm:=Qja (dval (D.take i)) 10 (by decide) (by omega);have htr:=Qe5 [D[i].toNat-48] (by simp [maxLen]);rw [Qjb (show D[i].toNat-48<E9 from Nat.lt_of_le_of_lt (show D[i].toNat-48≤9 by omega) (by decide))]at htr;have hpl:=Qjv (dval (D.take i)*10) (D[i].toNat-48) (by rw [←hdv];omega);rw [←hdv]at hpl;have n10:((10:Nat):Int)=10:=rfl;rw [n10]at hsm;unfold di at hsm htr hpl;simp only [List.map_cons,List.map_nil]at htr;generalize hV:dval (D.take (i+1))=V at*;generalize dval (D.take i)*10=V10 at*;repeat (first|(simp -implicitDefEqProofs only [go_sem,seval,di,hA',hszD,n0,hat,t1,t2,w1,w2,hwk,Int.toNat_natCast,List.map_cons,List.map_nil])|((with_reducible refine Qaa hsm ?_ ?_ ?_);rfl;rfl)|((with_reducible refine Qaa htr ?_ ?_ ?_);rfl;rfl)|((with_reducible refine Qaa hpl ?_ ?_ ?_);rfl;rfl)|(with_reducible refine And.intro (Qah _ _ (by kernel_rfl)) ?_))
    refine⟨⟨i+1,hA,hall2⟩,by simp only;omega,?_⟩;simp only [hV];refine Qa0 (θ:=[(0,0)]) rfl ?_ ?_
    ·simp [Qag,lkp,ren1,ren0,Qbv,di]
    ·exact⟨⟨rfl,rfl,rfl,rfl,rfl,.inr ⟨rfl,_,_,rfl,rfl,rfl,rfl⟩⟩,trivial⟩
   |false=>
    have hno:D.all isD=false:=by rw [List.all_eq_false];exact⟨D[i],List.getElem_mem hA,by simp [hd]⟩
    rw [if_neg (by rw [hno];simp),if_neg (by rw [hno];simp)]at hRES;rw [hRES];by_cases h1:D[i].toNat<48
    ·have t1:((D[i].toNat:Int)<48)=True:=eq_true (by omega);repeat (first|(simp -implicitDefEqProofs only [go_sem,seval,di,hA',hszD,n0,hat,t1,Int.toNat_natCast]))
    ·have h2:=(Qoo hd).resolve_left h1;have t1:((D[i].toNat:Int)<48)=False:=eq_false (by omega);have t2:(57<(D[i].toNat:Int))=True:=eq_true (by omega);repeat (first|(simp -implicitDefEqProofs only [go_sem,seval,di,hA',hszD,n0,hat,t1,t2,Int.toNat_natCast]))
  have hA':((i:Int)<(D.length:Int))=False:=eq_false (by omega);have htd:D.take i=D:=List.take_of_length_le (by omega);rw [htd]at hall ⊢;have htx:=htx hall;have hmd:=Qd2 false (dval D);rw [show(if false=true then -(dval D:Int)else(dval D:Int))=sv false (dval D)from rfl]at hmd;have htt:=Qm0 (sv false (dval D)) (by rw [show(sv false (dval D)).natAbs=dval D by simp [sv]];exact Nat.le_trans (Qgs hall) (by omega));rw [Qsj]at htt;have heq:=Qk2 (txt false (dval D)) D;rw [htx]at heq;have hr2:RES= .tup [rI (sv false (dval D)),.bool !badD false D]:=by
   rw [hRES];cases hb:badD false D with
   |true=>rw [if_neg (by simp),if_pos hall];rfl
   |false=>rw [if_pos (by rw [hall];rfl)];rfl
  rw [hr2];generalize badD false D=B at*;generalize sv false (dval D)=X at*;unfold rI di at hmd htt;unfold rI;repeat (first|(simp -implicitDefEqProofs only [go_sem,seval,di,hA',hszD,htx])|((with_reducible refine Qaa hmd ?_ ?_ ?_);rfl;rfl)|((with_reducible refine Qaa htt ?_ ?_ ?_);rfl;rfl)|(with_reducible exact Qah _ _ (by kernel_rfl)))
 ·have hpos:((0:Int)<(D.length:Int))=True:=eq_true (by omega);refine Qac (tb:=[]) 56 [.cell 2 32,.tmp 3] [0,2,3,4,5,6,7,8,18,24,36] mixed Tryz.func13 rfl (by kernel_rfl) (by kernel_rfl) (by kernel_rfl) (by kernel_rfl) ?_;repeat (first|(simp -implicitDefEqProofs only [go_sem,seval,hz,hat0,hpos,c45]))
  clear hat0;refine Qa7 mixed (fun i:{i:Nat // i≤D.length∧(D.take i).all isD=true}=>St.of [(0,.str ⟨D.toArray⟩),(2,.bp 0 2 0 0),(4,.bool false),(5,.str ⟨D.toArray⟩),(6,di (digs E9 (dval (D.take i.1)))),(7,.int .i64 (i.1:Int))] [(0,{els:=[.agg [.bool false,.nilS]],esz:=2,ety:=32,fro:=0,live:=true,arr:=false})]) (fun i=>D.length-i.1) ⟨0,Nat.zero_le _,rfl⟩ ?_ ?_
  ·refine Le.trans (Qfr 6 rfl) (Qa0 (θ:=[(0,0)]) rfl ?_ ?_)
   ·simp [Qag,lkp,ren1,ren0,di,dval,Qd1,Qan]
   ·exact⟨⟨rfl,rfl,rfl,rfl,rfl,.inr ⟨rfl,_,_,rfl,rfl,rfl,rfl⟩⟩,trivial⟩
  rintro⟨i,hi,hall⟩;simp only;have hszD:=Qbz D;by_cases hA:i<D.length
  case pos=>
   have hA':((i:Int)<(D.length:Int))=True:=eq_true (by omega);have n0:((0:Int)≤(i:Int))=True:=eq_true (by omega);have hat:=Qqa D i;rw [List.getElem?_eq_getElem hA]at hat;have hwk:=Qay (a:=i) (by omega);have htk:D.take (i+1)=D.take i++[D[i]]:=by rw [List.take_add_one];simp [hA]
   have hdv:=Q84 hA;cases hd:isD D[i]with
   |true=>
    obtain⟨d1,d2⟩:=Qjx.1 hd;have t1:((D[i].toNat:Int)<48)=False:=eq_false (by omega);have t2:(57<(D[i].toNat:Int))=False:=eq_false (by omega);have w1:IntKind.u8.wrap ((D[i].toNat:Int)-48)=((D[i].toNat-48:Nat):Int):=by simp [IntKind.wrap,IntKind.bits,IntKind.signed];omega
    have w2:IntKind.i64.wrap ((D[i].toNat-48:Nat):Int)=((D[i].toNat-48:Nat):Int):=Qai (by omega) (by omega);have hLi:=Qgs hall;rw [List.length_take]at hLi;have hall2:(D.take (i+1)).all isD=true:=by rw [htk,List.all_append,hall];simp [hd]
    have hLs:=Qgs hall2;rw [List.length_take]at hLs;have hsm:=Qja (dval (D.take i)) 10 (by decide) (by omega);have htr:=Qe5 [D[i].toNat-48] (by simp [maxLen]);rw [Qjb (show D[i].toNat-48<E9 from Nat.lt_of_le_of_lt (show D[i].toNat-48≤9 by omega) (by decide))]at htr;have hpl:=Qjv (dval (D.take i)*10) (D[i].toNat-48) (by rw [←hdv];omega);rw [←hdv]at hpl;have n10:((10:Nat):Int)=10:=rfl;rw [n10]at hsm;unfold di at hsm htr hpl;simp only [List.map_cons,List.map_nil]at htr;generalize hV:dval (D.take (i+1))=V at*;generalize dval (D.take i)*10=V10 at*;repeat (first|(simp -implicitDefEqProofs only [go_sem,seval,di,hA',hszD,n0,hat,t1,t2,w1,w2,hwk,Int.toNat_natCast,List.map_cons,List.map_nil])|((with_reducible refine Qaa hsm ?_ ?_ ?_);rfl;rfl)|((with_reducible refine Qaa htr ?_ ?_ ?_);rfl;rfl)|((with_reducible refine Qaa hpl ?_ ?_ ?_);rfl;rfl)|(with_reducible refine And.intro (Qah _ _ (by kernel_rfl)) ?_))
    refine⟨⟨i+1,hA,hall2⟩,by simp only;omega,?_⟩;simp only [hV];refine Qa0 (θ:=[(0,0)]) rfl ?_ ?_
    ·simp [Qag,lkp,ren1,ren0,Qbv,di]
    ·exact⟨⟨rfl,rfl,rfl,rfl,rfl,.inr ⟨rfl,_,_,rfl,rfl,rfl,rfl⟩⟩,trivial⟩
   |false=>
    have hno:D.all isD=false:=by rw [List.all_eq_false];exact⟨D[i],List.getElem_mem hA,by simp [hd]⟩
    rw [if_neg (by rw [hno];simp),if_neg (by rw [hno];simp)]at hRES;rw [hRES];by_cases h1:D[i].toNat<48
    ·have t1:((D[i].toNat:Int)<48)=True:=eq_true (by omega);repeat (first|(simp -implicitDefEqProofs only [go_sem,seval,di,hA',hszD,n0,hat,t1,Int.toNat_natCast]))
    ·have h2:=(Qoo hd).resolve_left h1;have t1:((D[i].toNat:Int)<48)=False:=eq_false (by omega);have t2:(57<(D[i].toNat:Int))=True:=eq_true (by omega);repeat (first|(simp -implicitDefEqProofs only [go_sem,seval,di,hA',hszD,n0,hat,t1,t2,Int.toNat_natCast]))
  have hA':((i:Int)<(D.length:Int))=False:=eq_false (by omega);have htd:D.take i=D:=List.take_of_length_le (by omega);rw [htd]at hall ⊢;have htx:=htx hall;have hmd:=Qd2 false (dval D);rw [show(if false=true then -(dval D:Int)else(dval D:Int))=sv false (dval D)from rfl]at hmd;have htt:=Qm0 (sv false (dval D)) (by rw [show(sv false (dval D)).natAbs=dval D by simp [sv]];exact Nat.le_trans (Qgs hall) (by omega));rw [Qsj]at htt;have heq:=Qk2 (txt false (dval D)) D;rw [htx]at heq;have hr2:RES= .tup [rI (sv false (dval D)),.bool !badD false D]:=by
   rw [hRES];cases hb:badD false D with
   |true=>rw [if_neg (by simp),if_pos hall];rfl
   |false=>rw [if_pos (by rw [hall];rfl)];rfl
  rw [hr2];generalize badD false D=B at*;generalize sv false (dval D)=X at*;unfold rI di at hmd htt;unfold rI;repeat (first|(simp -implicitDefEqProofs only [go_sem,seval,di,hA',hszD,htx])|((with_reducible refine Qaa hmd ?_ ?_ ?_);rfl;rfl)|((with_reducible refine Qaa htt ?_ ?_ ?_);rfl;rfl)|(with_reducible exact Qah _ _ (by kernel_rfl)))
theorem Qxb {m k:Nat} (h:m<256^k):blen m≤8*k:=Qcy (8*k) m (by rw [Nat.pow_mul];exact h)
theorem Q85 {n:Int} {k:Nat} (hk:k≤8192) (h:n.natAbs<256^k):outE n=0:=by
 have:=Qxb h;rw [outE,if_neg (by omega)]
theorem Q86 {n:Int} {k:Nat} (hk:k≤8192) (h:n.natAbs<256^k):outN n=n:=by
 have:=Qxb h;rw [outN,if_neg (by omega)]
theorem Qxc (neg:Bool) (m:Nat):(sv neg m).natAbs=m:=by cases neg<;>simp [sv]
theorem Qxd (l:List UInt8):(l==l)=true:=beq_self_eq_true l
set_option maxHeartbeats 4000000 in
theorem Qqk (an:Bool) (a:ByteArray) (s:ByteArray) (hsz:s.size≤maxLen):Qaf Tryz.prog 3 [.agg [.bool an,.str a],.str s] (.bool true):=by
 have hs:=Qww [(an,a)] (by simp);have hv:=Qwx [(an,a)] (by simp);simp only [List.map_cons,List.map_nil,wA,List.all_cons,List.all_nil,Bool.and_true]at hs hv;have hk:=Qwv;by_cases hA:a.size≤60
 case neg=>
  rw [decide_eq_false hA]at hs;refine Qac (tb:=[]) 78 [.tmp 4] [0,1,2,4,5,6,7,8,9,10,19,29,35,44,56] mixed Tryz.func3 rfl (by kernel_rfl) (by kernel_rfl) (by kernel_rfl) (by kernel_rfl) ?_;repeat (first|(simp -implicitDefEqProofs only [go_sem,seval,Bool.not_false])|((with_reducible refine Qaa hs ?_ ?_ ?_);rfl;rfl)|((with_reducible refine Qaa hk ?_ ?_ ?_);rfl;rfl))
 rw [decide_eq_true hA]at hs;by_cases hB:s.size≤200
 case neg=>
  have hb:(200<(s.size:Int))=True:=eq_true (by omega);refine Qac (tb:=[]) 78 [.tmp 4] [0,1,2,4,5,6,7,8,9,10,19,29,35,44,56] mixed Tryz.func3 rfl (by kernel_rfl) (by kernel_rfl) (by kernel_rfl) (by kernel_rfl) ?_;repeat (first|(simp -implicitDefEqProofs only [go_sem,seval,Bool.not_true,hb])|((with_reducible refine Qaa hs ?_ ?_ ?_);rfl;rfl)|((with_reducible refine Qaa hk ?_ ?_ ?_);rfl;rfl))
 have hb:(200<(s.size:Int))=False:=eq_false (by omega);obtain⟨l,rfl⟩: ∃l:List UInt8,s=⟨l.toArray⟩:=⟨_,Q8o s⟩;have hll:l.length≤200:=by rw [Qbz]at hB;exact hB
 have hb:(200<(l.length:Int))=False:=eq_false (by omega);have hp:=Qsi l (by omega);have hr:=Q2w l (by omega);have hDl:=Qm1 l;have z2:((2:Int)==2)=true:=rfl;have z6:((6:Int)==6)=true:=rfl;have z0:((0:Int)==0)=true:=rfl;have n0:((0:Int) != 0)=false:=rfl;have n2:((2:Int) != 2)=false:=rfl;have b1: ∀b:Bool,(b==b)=true:=fun b=>by cases b<;>rfl
 have b2: ∀b:ByteArray,(b==b)=true:=Qwy;have e0:=Q8p [] [];have e1:(([]:List UInt8)== [])=true:=rfl
 -- the second half
 have second:(Qge l= .tup [.agg [.bool false,.str ⟨#[]⟩],.int .i64 6]∧ ∃x,Qft l= .tup [x,.bool false]∧((∃n,x=rI n)∨x= .agg [.bool false,.slc []]))∨ ∃n:Int,Qge l= .tup [wPV n,.int .i64 0]∧Qft l= .tup [rI n,.bool true]∧Qaf Tryz.prog 14 [rI n] (wPV n):=by
  cases ho:okD l with
  |false=>
   refine .inl ⟨by unfold Qge;rw [if_neg (by rw [ho];decide),Qmv],?_⟩;unfold Qft;rw [if_neg (by rw [ho];decide)];split
   ·exact⟨_,rfl,.inl ⟨_,rfl⟩⟩
   ·exact⟨_,rfl,.inr rfl⟩
  |true=>
   have had:(pdig l).all isD=true:=by
    unfold okD at ho;rw [Bool.and_eq_true]at ho;exact ho.1
   have hlt:(sv (pneg l) (dval (pdig l))).natAbs<256^200:=by
    rw [Qxc];exact Nat.lt_of_lt_of_le (Qhp _ had) (Nat.le_trans (Nat.pow_le_pow_left (show 10≤256 by decide) _) (Nat.pow_le_pow_right (by decide) (by omega)))
   refine .inr ⟨sv (pneg l) (dval (pdig l)),?_,?_,?_⟩
   ·unfold Qge;rw [if_pos ho,Qeg,Q85 (by decide) hlt,Q86 (by decide) hlt]
   ·unfold Qft;rw [if_pos ho]
   ·exact Zcb _ (Nat.le_trans (Qsl _ 200 hlt).1 (by decide)) (Nat.le_trans (Qsl _ 200 hlt).2 (by decide))
 cases hV:Qa2 an a.data.toList with
 |false=>
  rw [hV]at hv;have ht:=Q2t an a hV;rcases second with⟨q1,x,q2,q3⟩|⟨n,q1,q2,q3⟩
  ·rw [q1]at hp;rw [q2]at hr;rcases q3 with⟨n,rfl⟩|rfl
   ·unfold rI di at hr;refine Qac (tb:=[]) 78 [.tmp 4] [0,1,2,4,5,6,7,8,9,10,19,29,35,44,56] mixed Tryz.func3 rfl (by kernel_rfl) (by kernel_rfl) (by kernel_rfl) (by kernel_rfl) ?_;repeat (first|(simp -implicitDefEqProofs only [go_sem,seval,Bool.not_true,Bool.not_false,hb,e1,z6,n2,b1,b2])|((with_reducible refine Qaa hs ?_ ?_ ?_);rfl;rfl)|((with_reducible refine Qaa hk ?_ ?_ ?_);rfl;rfl)|((with_reducible refine Qaa hv ?_ ?_ ?_);rfl;rfl)|((with_reducible refine Qaa ht ?_ ?_ ?_);rfl;rfl)|((with_reducible refine Qaa hp ?_ ?_ ?_);rfl;rfl)|((with_reducible refine Qaa hr ?_ ?_ ?_);rfl;rfl))
   ·refine Qac (tb:=[]) 78 [.tmp 4] [0,1,2,4,5,6,7,8,9,10,19,29,35,44,56] mixed Tryz.func3 rfl (by kernel_rfl) (by kernel_rfl) (by kernel_rfl) (by kernel_rfl) ?_;repeat (first|(simp -implicitDefEqProofs only [go_sem,seval,Bool.not_true,Bool.not_false,hb,e1,z6,n2,b1,b2])|((with_reducible refine Qaa hs ?_ ?_ ?_);rfl;rfl)|((with_reducible refine Qaa hk ?_ ?_ ?_);rfl;rfl)|((with_reducible refine Qaa hv ?_ ?_ ?_);rfl;rfl)|((with_reducible refine Qaa ht ?_ ?_ ?_);rfl;rfl)|((with_reducible refine Qaa hp ?_ ?_ ?_);rfl;rfl)|((with_reducible refine Qaa hr ?_ ?_ ?_);rfl;rfl))
  ·rw [q1]at hp;rw [q2]at hr;unfold wPV at hp q3;unfold rI di at hr q3;refine Qac (tb:=[]) 78 [.tmp 4] [0,1,2,4,5,6,7,8,9,10,19,29,35,44,56] mixed Tryz.func3 rfl (by kernel_rfl) (by kernel_rfl) (by kernel_rfl) (by kernel_rfl) ?_;repeat (first|(simp -implicitDefEqProofs only [go_sem,seval,Bool.not_true,Bool.not_false,hb,e1,z0,n2,b1,b2])|((with_reducible refine Qaa hs ?_ ?_ ?_);rfl;rfl)|((with_reducible refine Qaa hk ?_ ?_ ?_);rfl;rfl)|((with_reducible refine Qaa hv ?_ ?_ ?_);rfl;rfl)|((with_reducible refine Qaa ht ?_ ?_ ?_);rfl;rfl)|((with_reducible refine Qaa hp ?_ ?_ ?_);rfl;rfl)|((with_reducible refine Qaa hr ?_ ?_ ?_);rfl;rfl)|((with_reducible refine Qaa q3 ?_ ?_ ?_);rfl;rfl)|(with_reducible exact Qah _ _ (by kernel_rfl)))
 |true=>
  rw [hV]at hv;obtain⟨m,rfl⟩: ∃m:List UInt8,a=⟨m.toArray⟩:=⟨_,Q8o a⟩;have hml:m.length≤60:=by rw [Qbz]at hA;exact hA
  have hd:(⟨m.toArray⟩:ByteArray).data.toList=m:=by simp
  have ht:=Qw9 an m (by rw [hd]at hV;exact hV) (by omega);have hf:=Q8z an ⟨m.toArray⟩ (by rw [Qbz];omega);rw [show(if an=true then -(bnum (⟨m.toArray⟩:ByteArray).data.toList:Int)else(bnum (⟨m.toArray⟩:ByteArray).data.toList:Int))=sv an (bnum m)by rw [hd];rfl]at hf;have hbl:=Qez _ m rfl;have hrt:=Qm0 (sv an (bnum m)) (by rw [Qxc];exact Nat.le_trans ((Qaj E9_2 _ m.length).2 (Nat.lt_of_lt_of_le hbl (Nat.pow_le_pow_left (by decide) _))) (by omega));rw [Qsj]at hrt;have en:=Q8p (txt an (bnum m)) (txt an (bnum m));have es:=Qxd (txt an (bnum m));generalize sv an (bnum m)=X at*;generalize txt an (bnum m)=T at*;unfold rI di at hf hrt;rcases second with⟨q1,x,q2,q3⟩|⟨n,q1,q2,q3⟩
  ·rw [q1]at hp;rw [q2]at hr;rcases q3 with⟨n,rfl⟩|rfl
   ·unfold rI di at hr;refine Qac (tb:=[]) 78 [.tmp 4] [0,1,2,4,5,6,7,8,9,10,19,29,35,44,56] mixed Tryz.func3 rfl (by kernel_rfl) (by kernel_rfl) (by kernel_rfl) (by kernel_rfl) ?_;repeat (first|(simp -implicitDefEqProofs only [go_sem,seval,Bool.not_true,Bool.not_false,hb,es,z6,n0,b1,b2])|((with_reducible refine Qaa hs ?_ ?_ ?_);rfl;rfl)|((with_reducible refine Qaa hk ?_ ?_ ?_);rfl;rfl)|((with_reducible refine Qaa hv ?_ ?_ ?_);rfl;rfl)|((with_reducible refine Qaa ht ?_ ?_ ?_);rfl;rfl)|((with_reducible refine Qaa hf ?_ ?_ ?_);rfl;rfl)|((with_reducible refine Qaa hrt ?_ ?_ ?_);rfl;rfl)|((with_reducible refine Qaa hp ?_ ?_ ?_);rfl;rfl)|((with_reducible refine Qaa hr ?_ ?_ ?_);rfl;rfl))
   ·refine Qac (tb:=[]) 78 [.tmp 4] [0,1,2,4,5,6,7,8,9,10,19,29,35,44,56] mixed Tryz.func3 rfl (by kernel_rfl) (by kernel_rfl) (by kernel_rfl) (by kernel_rfl) ?_;repeat (first|(simp -implicitDefEqProofs only [go_sem,seval,Bool.not_true,Bool.not_false,hb,es,z6,n0,b1,b2])|((with_reducible refine Qaa hs ?_ ?_ ?_);rfl;rfl)|((with_reducible refine Qaa hk ?_ ?_ ?_);rfl;rfl)|((with_reducible refine Qaa hv ?_ ?_ ?_);rfl;rfl)|((with_reducible refine Qaa ht ?_ ?_ ?_);rfl;rfl)|((with_reducible refine Qaa hf ?_ ?_ ?_);rfl;rfl)|((with_reducible refine Qaa hrt ?_ ?_ ?_);rfl;rfl)|((with_reducible refine Qaa hp ?_ ?_ ?_);rfl;rfl)|((with_reducible refine Qaa hr ?_ ?_ ?_);rfl;rfl))
  ·rw [q1]at hp;rw [q2]at hr;unfold wPV at hp q3;unfold rI di at hr q3;refine Qac (tb:=[]) 78 [.tmp 4] [0,1,2,4,5,6,7,8,9,10,19,29,35,44,56] mixed Tryz.func3 rfl (by kernel_rfl) (by kernel_rfl) (by kernel_rfl) (by kernel_rfl) ?_;repeat (first|(simp -implicitDefEqProofs only [go_sem,seval,Bool.not_true,hb,es,z0,n0,b1,b2])|((with_reducible refine Qaa hs ?_ ?_ ?_);rfl;rfl)|((with_reducible refine Qaa hk ?_ ?_ ?_);rfl;rfl)|((with_reducible refine Qaa hv ?_ ?_ ?_);rfl;rfl)|((with_reducible refine Qaa ht ?_ ?_ ?_);rfl;rfl)|((with_reducible refine Qaa hf ?_ ?_ ?_);rfl;rfl)|((with_reducible refine Qaa hrt ?_ ?_ ?_);rfl;rfl)|((with_reducible refine Qaa hp ?_ ?_ ?_);rfl;rfl)|((with_reducible refine Qaa hr ?_ ?_ ?_);rfl;rfl)|((with_reducible refine Qaa q3 ?_ ?_ ?_);rfl;rfl)|(with_reducible exact Qah _ _ (by kernel_rfl)))
end Go.Proofs.YtapjnenbofmliaaGreatDoor

namespace Go.Vl
open Go.RowKit
section
variable {H:Type} {enc:TypeId×Value→H}
theorem Qfq {a:Assume} {C:Checked} {os:Os} {f:FuncId} {fn:Func} {s:ChangeSpec} {conds:List PathCond} {apart fresh handsOn again:Bool} {tb:TypeId} {L:List (String×DataW Unit)} (tts:List TT)
  (own:ownKnob C.prog.godebug=none) (started:os.Started) (noInit:C.prog.inits.idxOf? f=none) (hfn:C.prog.funcs[f]? =some fn)
  (witness: ∃(w:World) (tape:Tape) (i:Input),w.os=os∧(w.forCall tape i).Shaped C.prog∧i.vars=[]∧Input.okWide C.prog (w.forCall tape i) .any w.heap.size f i∧
   ((s.pre enc C.prog fn conds apart (w.forCall tape i).memory i.args∧laidMetH C.prog L (w.forCall tape i).memory)∧sizedMet enc C.prog fn (OpenSpec.ofChange s) apart (w.forCall tape i).memory i.args)∧a.holds C.prog (lone (Frame.enter C.prog f i.args .normal) [] (w.forCall tape i)))
  (hl:laidOutB C.prog=true) (hvars:s.vars=[]) (hres:fn.resultTypes= #[tb]) (hbool:C.prog.underlying tb=some .bool) (hts:(fn.params.toList.all fun t=>C.prog.readableRec t&&decide (t<C.prog.types.size))=true)
  (hfit:Qh4 C.prog tts fn.params.toList=true) (hs: ∀ds:List (DataW H),ds.length=tts.length→s.fn H ds={results:=[.lit (.bool true)],args:=ds})
  (hcl:callable C.prog f=true) (hlay: ∀W:World,laidMetH C.prog L W→Laid C.prog W.heap.size W) (law: ∀pvs,Qr0 tts pvs→Qaf C.prog f pvs (.bool true)):
  ReturnsInHanded a C os f .any (fun w args=>(s.pre enc C.prog fn conds apart w args∧laidMetH C.prog L w)∧sizedMet enc C.prog fn (OpenSpec.ofChange s) apart w args) (s.post enc C.prog fn apart fresh handsOn again):=by
 refine returnsInHanded_of_change_and (X:=fun w _=>laidMetH C.prog L w) (fun _ _ _ hh h=>h.of_heap hh) own started noInit hfn witness ?_;intro W base args ds gs before hval hW q1 q2 q3 q4;have hW':=hW;obtain⟨p,q,hA,hV,rfl,hz,hn⟩:=hW;rw [hvars]at hV;obtain⟨rfl,rfl⟩:=ChangeShapes.trodVars_none hV;obtain⟨pvs,h1,h2,h3⟩:=Qtl tts fn.params.toList args.toList ds p hfit (fun j t v e1 e2=>hval j t v (by simpa using e1) (by simpa using e2)) hA;have hts': ∀t∈fn.params.toList,C.prog.readableRec t=true∧t<C.prog.types.size:=by
  intro t ht;have:=List.all_eq_true.1 hts t ht;simpa using this
 have hcall:=((law pvs h1).resolve_right (fun x=>by rw [hcl]at x;cases x.1)).2 W (exIm W) args.toList W.heap.size (Nat.le_refl _) (hlay W (by first|exact q1|exact q2|exact q3|exact q4)) h2 (fun g j x=>x);refine(by simpa using hcall:Calls C.prog f args W _).mono ?_;rintro e W' ⟨v,rfl,hb,hr⟩;have hv:v= .bool true:=by cases hr;rfl
 subst hv;exact⟨_,rfl,Qr1 hl hvars hres hbool hts' hW' (by rw [List.append_nil];exact hs ds h3) hb⟩
end
end Go.Vl

namespace Go.Proofs.YtapjnenbofmliaaGreatDoor
open Go.Vl Go.RowKit
theorem own:ownKnob Tryz.prog.godebug=none:=by kernel_rfl
theorem Qw1:laidOutB Tryz.prog=true:=by kernel_rfl
def Qon:List (String×DataW Unit):=[("math/bits.deBruijn32tab",Rows.laid_math_bits_deBruijn32tab),("math/bits.deBruijn64tab",Rows.laid_math_bits_deBruijn64tab),("internal/strconv.uint64pow10",Rows.laid_internal_strconv_uint64pow10),("strconv.ErrRange",Rows.laid_strconv_ErrRange),("strconv.ErrSyntax",Rows.laid_strconv_ErrSyntax)]
theorem Qse (os:Os) (args:Array Value):laidMetH Tryz.prog Qon ((World.doorLaid Tryz.prog 62 os).forCall (fun _ _=>0) ⟨#[],args,[]⟩).memory:=
 laidMetH_of_parts3 (fuel:=8) (laidMet_of_run' 8 (by kernel_rfl) (by kernel_rfl)) (by kernel_rfl) (by kernel_rfl)
def Qw2:List Int:=Go.Lib.deBruijn64tab.map fun(z:Nat)=>(z:Int)
theorem hlay (W:World) (h:laidMetH Tryz.prog Qon W):Laid Tryz.prog W.heap.size W:=by
 rintro nm tab (⟨rfl,rfl⟩|⟨rfl,rfl⟩) g hg
 ·obtain rfl:g=2:=Option.some.inj (hg.symm.trans (by kernel_rfl));have hf:=h.filter (fun x=>x.1==Qhr);have e:Qon.filter (fun x=>x.1==Qhr)=[(Qhr,Lib.tabData .u64 Lib.pow10Tab)]:=by kernel_rfl
  rw [e,MakeChecks.laidMetH_plain _ _ _ (by kernel_rfl)]at hf;have ht:Lib.TabIs Tryz.prog W Qhr .u64 Lib.pow10Tab:=Lib.tabIs_of_head (g:=2) (t:=141) (e:=66) (n:=20) (by kernel_rfl) (by kernel_rfl) (by kernel_rfl) (by kernel_rfl) (by kernel_rfl) (by kernel_rfl) hf;have e2:(Lib.pow10Tab.map fun z=>Value.int .u64 z).toArray=Qsq:=by kernel_rfl
  unfold Lib.TabIs at ht;rw [e2]at ht;refine⟨?_,ht⟩;simp only [World.var?,hg,Option.bind_some]at ht;cases hh:W.heap[(2:Nat)]? with
  |none=>rw [hh]at ht;cases ht
  |some o=>exact(Array.getElem?_eq_some_iff.1 hh).1
 ·obtain rfl:g=7:=Option.some.inj (hg.symm.trans (by kernel_rfl));have hf:=h.filter (fun x=>x.1==Qoy);have e:Qon.filter (fun x=>x.1==Qoy)=[(Qoy,Lib.tabData .u8 Qw2)]:=by kernel_rfl
  rw [e,MakeChecks.laidMetH_plain _ _ _ (by kernel_rfl)]at hf;have ht:Lib.TabIs Tryz.prog W Qoy .u8 Qw2:=Lib.tabIs_of_head (g:=7) (t:=158) (e:=5) (n:=64) (by kernel_rfl) (by kernel_rfl) (by kernel_rfl) (by kernel_rfl) (by kernel_rfl) (by kernel_rfl) hf;have e2:(Qw2.map fun z=>Value.int .u8 z).toArray=Zdo:=by kernel_rfl
  unfold Lib.TabIs at ht;rw [e2]at ht;refine⟨?_,ht⟩;simp only [World.var?,hg,Option.bind_some]at ht;cases hh:W.heap[(7:Nat)]? with
  |none=>rw [hh]at ht;cases ht
  |some o=>exact(Array.getElem?_eq_some_iff.1 hh).1
def Qqj:TT:= .agg [.bool,.str]
theorem Qgq {c:List PV} (h:Qcg Qqj c): ∃(n:Bool) (s:ByteArray),Qqj.mk c= .agg [.bool n,.str s]∧s.size≤maxLen:=by
 simp only [Qqj,Qcg,Qfp]at h;obtain⟨_,_,rfl,⟨n,rfl⟩,_,_,rfl,⟨s,rfl,hs⟩,rfl⟩:=h;exact⟨n,s,rfl,hs⟩
theorem Q2q {c:List PV} (h:Qcg .str c): ∃s:ByteArray,TT.mk .str c= .str s∧s.size≤maxLen:=by
 simp only [Qcg]at h;obtain⟨s,rfl,hs⟩:=h;exact⟨s,rfl,hs⟩
def Qjc:Value:= .agg #[.bool false,.string ⟨#[]⟩]
end Go.Proofs.YtapjnenbofmliaaGreatDoor
