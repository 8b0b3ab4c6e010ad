/-
  Dby, KB15, KB16, US2, KR10 (merged for the claim).
-/
import Derived.Test.YtcaffiaempefjaaGreatDoorDbx
import Derived.Test.YtcaffiaempefjaaGreatDoorKM12
import Derived.Test.YtcaffiaempefjaaGreatDoorDsi
import Derived.Test.YtcaffiaempefjaaGreatDoorUV
import Derived.LaidMore
import Derived.OpenShut
import Derived.Stop.Joined
import Derived.Test.YtcaffiaempefjaaGreatDoorRows
import Derived.Test.YtcaffiaempefjaaGreatDoorTie
import Derived.Test.YtcaffiaempefjaaGreatDoorCards
import Derived.SevenTiedAt
import Derived.LaidSub
import Derived.MakeChecks
import Derived.Lib.LaidTab
set_option linter.unusedSimpArgs false
set_option linter.unusedVariables false
namespace Go.Dg
theorem Zwa {s:Sg} (h0:1≤s.o) (hz:plQ s 0 1 2=plQ s 1 1 2) (ho:plO s 0 1=plO s 1 1):plc s.z 0 1=plc s.z 1 1:=by
 obtain⟨a2,a1⟩:=Qv8 s 0 1;obtain⟨b2,b1⟩:=Qv8 s 1 1;have a1:=a1 2 (by decide);have b1:=b1 2 (by decide);have p0:plP s 0 1 2=plc s.z 0 1:=rfl;have p1:plP s 1 1 2=plc s.z 1 1:=rfl;unfold plQ at hz;unfold plO at ho;have e:s.o*1^5=s.o:=by rw [Int.one_pow,Int.mul_one]
 rw [e]at a2 b2 ho;have c1:=Int.ediv_mul_cancel a2;have c2:=Int.ediv_mul_cancel b2;have c3:=Int.ediv_mul_cancel a1;have c4:=Int.ediv_mul_cancel b1;generalize (plG s 0 1 3:Int)=G0 at*;generalize (plG s 1 1 3:Int)=G1 at*;rw [ho]at c1;have hq:s.o/G1≠0:=fun q=>by rw [q,Int.zero_mul]at c2;omega
 have hG:G0=G1:=Int.eq_of_mul_eq_mul_left hq (c1.trans c2.symm);rw [←p0,←p1,←c3,←c4,hz,hG]
theorem sum0 {o:Int}: ∀c:List Int,c.length≤6→plc c 0 1=plc c 1 1→wayQ c o=0
 | [],_,_=>by rfl
 | [a0],_,_=>by rfl
 | [a0,a1],_,h=>by
  have h:a1=0:=by simp [plc,sm,plcT]at h;omega
  subst h;simp [wayQ,wyS,qs,coQ];try grind
 | [a0,a1,a2],_,h=>by
  have h:a1+a2=0:=by simp [plc,sm,plcT]at h;omega
  have h':(a1:Rat)+(a2:Rat)=0:=by exact_mod_cast h
  simp [wayQ,wyS,qs,coQ]
  grind
 | [a0,a1,a2,a3],_,h=>by
  have h:a1+a2+a3=0:=by simp [plc,sm,plcT]at h;omega
  have h':(a1:Rat)+(a2:Rat)+(a3:Rat)=0:=by exact_mod_cast h
  simp [wayQ,wyS,qs,coQ]
  grind
 | [a0,a1,a2,a3,a4],_,h=>by
  have h:a1+a2+a3+a4=0:=by simp [plc,sm,plcT]at h;omega
  have h':(a1:Rat)+(a2:Rat)+(a3:Rat)+(a4:Rat)=0:=by exact_mod_cast h
  simp [wayQ,wyS,qs,coQ]
  grind
 | [a0,a1,a2,a3,a4,a5],_,h=>by
  have h:a1+a2+a3+a4+a5=0:=by simp [plc,sm,plcT]at h;omega
  have h':(a1:Rat)+(a2:Rat)+(a3:Rat)+(a4:Rat)+(a5:Rat)=0:=by exact_mod_cast h
  simp [wayQ,wyS,qs,coQ]
  grind
theorem Zpm {s:Sg} (hv:Qau s=true) (hz:plQ s 0 1 2=plQ s 1 1 2) (ho:plO s 0 1=plO s 1 1):wayQ s.z s.o=0:=by
 obtain⟨⟨-, -, -,h0, -⟩,hax, -⟩:=Qaq hv;exact sum0 s.z (Qa9 (hax s.z (by simp [Sg.ax]))).2.1 (Zwa h0 hz ho)
end Go.Dg

namespace Go.Proofs.YtcaffiaempefjaaGreatDoor
open Go.Vl Go.RowKit Go.Dg
theorem Q1n {s:Sg} (hv:Qau s=true):okSg s:=by
 obtain⟨⟨v1,v2,v3,v4,v5⟩,hax, -⟩:=Qaq hv;refine⟨by unfold i64;omega,by unfold i64;omega,by unfold i64;omega,fun c hc x hx=> ?_,fun c hc=>by have:=(Qa9 (hax c hc)).2.1;omega⟩;have:=Qm5 hv c hc x hx;unfold i64;omega
theorem Qtv {p:List Sg} (hV:Qa7 p=true): ∀s∈p,okSg s:=fun _ hs=>Q1n (Qtd hV hs)
theorem Qwf (p:List Sg) (hV:Qa7 p=true):Qaf Tryz.prog 12 [Qbx p] (.tup [Qbx (rvP p),.int .i64 0]):=by
 have h:=Q1s p (Qtv hV) (by have:=(Qbj hV).2.2;omega) (fun _ s hs i hi x hx=>Zwj (Qtd hV hs) i hi x hx);unfold Qnz at h;rw [if_pos hV]at h;exact h
theorem Qjo {p:List Sg}:Qbx p= .slc (p.map sgPV):=rfl
theorem Z16:((7:Int)==7)=true:=rfl
set_option maxHeartbeats 16000000 in
set_option maxRecDepth 100000 in
theorem Qnv (p:List Sg) (B:Bat) (l:List Wd) (first more:Int) (hp: ∀s∈p,okSg s) (l6:p.length≤6) (hl:l.length≤8) (hok:Qde p B l=true) (hF:fewB p 6=true) (hbig:mxE<totE l B p):
  Qaf Tryz.prog 3 [.slc (p.map sgPV),baPV B,wsPV l,.int .i64 first,.int .i64 more] (.bool true):=by
 have hk:=Qnu;have p8:(8:Nat)≤maxLen:=by decide
 have v1:=Q7e p 6 (by decide) (by omega);rw [hF,Qjo]at v1;have v2:=Qrs p B l hp (by omega) (by omega);rw [hok,Qjo]at v2;have h8:((8:Int)<(l.length:Int))=False:=eq_false (by omega);have g1:=Qfd p B l hp (by omega) (by omega);have g2:=Qzi p B l hp (by omega) (by omega);have g3:=Qjp p B l hp (by omega) (by omega);unfold enPV at g1;unfold rcPV at g2;unfold ehPV at g3;rw [if_pos hok,if_neg (by omega),Qjo]at g1;rw [if_pos hok,Qjo]at g2;rw [if_pos hok,if_neg (by omega),Qjo]at g3;have hr:=Zn8 hok;have hr2:=Znu (csL l B p) B;rw [Qi7]at hr2;have e1:((rcN (csL l B p) B:Int)==(p.length:Int))=false:=by
  rw [beq_eq_false_iff_ne];intro e;have:=(hr.1 (by omega)).1;omega
 generalize rcN (csL l B p) B=r at*;have n0:=nnT r;have e2:((p.length:Int)<(r:Int))=False:=eq_false (by omega);have r0:((r:Int)<0)=False:=eq_false (by omega);unfold baPV at v2 g1 g2 g3 ⊢;clear hr hbig;refine Qab (tb:=[]) 251 [.tmp 10] [0,1,2,3,4,6,10,11,12,13,14,15,16,17,18,19,20,21,22,23,24,25,26,27,28,29,30,31,45,92,94,107,138,147,169,173] mixed Tryz.func3 rfl (by kernel_rfl) ?_;repeat (first|simp -implicitDefEqProofs only [go_sem,seval,h8,r0,e1,e2,Zrg,decide_false,beq_self_eq_true,bne_self_eq_false,Bool.not_true,List.length_map]|(with_reducible refine Qaa v1 ?_ ?_ ?_);rfl;rfl|(with_reducible refine Qaa v2 ?_ ?_ ?_);rfl;rfl|(with_reducible refine Qaa g1 ?_ ?_ ?_);rfl;rfl|(with_reducible refine Qaa g2 ?_ ?_ ?_);rfl;rfl|(with_reducible refine Qaa g3 ?_ ?_ ?_);rfl;rfl|(with_reducible refine Qaa hk ?_ ?_ ?_);rfl;rfl)
theorem Qru {s:Sg} (hv:Qau s=true): ∀c∈s.ax,c.length≤6:=fun c hc=>(Qa9 ((Qaq hv).2.1 c hc)).2.1
def levS (s:Sg):Bool:=((decide (plQ s 0 1 2<0)==decide (plQ s 1 1 2<0))&&(mB (plQ s 0 1 2)==mB (plQ s 1 1 2)))&&((decide (plO s 0 1<0)==decide (plO s 1 1<0))&&(mB (plO s 0 1)==mB (plO s 1 1)))
def levP (p:List Sg) (i:Nat):Bool:=(p.take i).all levS
theorem Q6i {p:List Sg} {i:Nat} (h:i<p.length):levP p (i+1)=(levP p i&&levS p[i]):=by
 unfold levP;rw [List.take_add_one,List.getElem?_eq_getElem h,List.all_append];simp
theorem Qlj {x y:Int} (h:((decide (x<0)==decide (y<0))&&(mB x==mB y))=true):x=y:=by
 rw [Qk1]at h;exact of_decide_eq_true h
theorem Zfj {s:Sg} (hv:Qau s=true) (h:levS s=true):wayQ s.z s.o=0:=by
 unfold levS at h;rw [Bool.and_eq_true]at h;exact Zpm hv (Qlj h.1) (Qlj h.2)
theorem Zfk {p:List Sg} (h:levP p p.length=true): ∀s∈p,levS s=true:=fun s hs=>by
 unfold levP at h;rw [List.take_length,List.all_eq_true]at h;exact h s hs
theorem Q6j (B:Bat) (s:Sg):cstW [] B s=Qf6 s B 0 0 0:=rfl
theorem Qzg {a:List Int}: ∀n:Nat,n≤a.length→preI (a.reverse) n+preI a (a.length-n)=preI a a.length
 |0,_=>by rw [Nat.sub_zero];show(0:Int)+_=_;omega
 |n+1,h=>by
  have ih:=Qzg (a:=a) n (by omega);have e1:a.length-n=(a.length-(n+1))+1:=by omega
  rw [e1,Qe5]at ih;rw [Qe5];have e2:a.reverse.getD n 0=a.getD (a.length-(n+1)) 0:=by
   rw [List.getD_eq_getElem?_getD,List.getD_eq_getElem?_getD,List.getElem?_reverse (by omega),show a.length-1-n=a.length-(n+1)by omega]
  rw [e2];omega
theorem Zqv {p:List Sg} (hV:Qa7 p=true) (h:levP p p.length=true) (B:Bat):totE [] B (rvP p)=totE [] B p:=by
 have hl:(rvP p).length=p.length:=by simp [rvP]
 have e:csL [] B (rvP p)=(csL [] B p).reverse:=by
  unfold csL rvP;rw [List.map_map];refine List.ext_getElem (by simp) fun i h1 h2=> ?_;simp only [List.length_map,List.length_range]at h1;rw [List.getElem_map,List.getElem_range,List.getElem_reverse,List.getElem_map];simp only [List.length_map];have hi:p.length-1-i<p.length:=by omega
  have eg:p.getD (p.length-1-i) sg0=p[p.length-1-i]:=by rw [List.getD_eq_getElem?_getD,List.getElem?_eq_getElem hi];rfl
  show cstW [] B (rvS (pBeg p+pEnd p) (p.getD (p.length-1-i) sg0))=cstW [] B p[p.length-1-i];rw [eg,Q6j,Q6j];exact Zd7 (Qby hV _ hi) B (Zfj (Qby hV _ hi) (Zfk h _ (List.getElem_mem hi)))
 unfold totE;rw [hl,e];have:=Qzg (a:=csL [] B p) (csL [] B p).length (Nat.le_refl _);rw [Nat.sub_self,Qi7]at this;have z:preI (csL [] B p) 0=0:=rfl;rw [z]at this;omega
set_option maxHeartbeats 16000000 in
set_option maxRecDepth 100000 in
theorem Qnw (p:List Sg) (B:Bat) (l:List Wd) (first more:Int) (hp: ∀s∈p,okSg s) (l6:p.length≤6) (hl:l.length≤8) (hok:Qde p B l=true) (hF:fewB p 6=true) (hle:totE l B p≤mxE) (hfi:i64 first) (hmo:i64 more):
  Qaf Tryz.prog 3 [.slc (p.map sgPV),baPV B,wsPV l,.int .i64 first,.int .i64 more] (.bool true):=by
 have p8:(8:Nat)≤maxLen:=by decide
 have v1:=Q7e p 6 (by decide) (by omega);rw [hF,Qjo]at v1;have v2:=Qrs p B l hp (by omega) (by omega);rw [hok,Qjo]at v2;have h8:((8:Int)<(l.length:Int))=False:=eq_false (by omega);have g1:=Qfd p B l hp (by omega) (by omega);have g2:=Qzi p B l hp (by omega) (by omega);have g3:=Qjp p B l hp (by omega) (by omega);unfold enPV at g1;unfold rcPV at g2;unfold ehPV at g3;rw [if_pos hok,if_pos hle,Qjo]at g1;rw [if_pos hok,Qjo]at g2;rw [if_pos hok,if_pos hle,Qjo]at g3;obtain⟨hV,hB,hw⟩:=Qd4 hok;have hc:=Qp1 hV hB hw;have t0:0≤totE l B p:=Qm3 hc p.length;have hmx:mxE=1125899906842624:=rfl;have hbp:=Qck hB;refine Zo4 251 [.tmp 10] Tryz.func3 rfl (by kernel_rfl) (by kernel_rfl) (by kernel_rfl) (by kernel_rfl) ?_;refine Qo1 mixed [] [0,1,2,3,4,6,10,11,12,13,14,15,16,17,18,19,20,21,22,23,24,25,26,27,28,29,30,31,45,92,94,107,138,147,169,173] 7 rfl (St.of [(0,.slc (p.map sgPV)),(2,wsPV l),(3,.int .i64 first),(4,.int .i64 more),(6,.bp 0 5 0 0),(11,.int .i64 (totE l B p)),(15,.bool (decide (B.res≤B.cap-totE l B p)))] [(0,{els:=[baPV B],esz:=5,ety:=25,fro:=0,live:=true,arr:=false})]) ?_ ?_
 ·simp only [codes,Qij,List.take_succ_cons,List.take_zero,List.drop_succ_cons,List.drop_zero,List.foldr_cons,List.foldr_nil];have hr:=Zn8 hok;have hr2:=Znu (csL l B p) B;rw [Qi7]at hr2;have e1:((rcN (csL l B p) B:Int)==(p.length:Int))=decide (B.res≤B.cap-totE l B p):=by
   rw [Bool.eq_iff_iff,beq_iff_eq,decide_eq_true_eq];constructor
   ·intro e;exact(hr.1 (by omega)).2
   ·intro e;have:=hr.2 ⟨hle,e⟩;omega
  generalize rcN (csL l B p) B=r at*;generalize decide (B.res≤B.cap-totE l B p)=is at*;have n0:=nnT r;have e2:((p.length:Int)<(r:Int))=False:=eq_false (by omega);have r0:((r:Int)<0)=False:=eq_false (by omega);unfold baPV at v2 g1 g2 g3 ⊢;clear hr hle t0 hc;generalize totE l B p=E at*;repeat (first|simp -implicitDefEqProofs only [go_sem,seval,h8,r0,e1,e2,decide_false,beq_self_eq_true,bne_self_eq_false,Bool.not_true,List.length_map]|(with_reducible refine Qaa v1 ?_ ?_ ?_);rfl;rfl|(with_reducible refine Qaa v2 ?_ ?_ ?_);rfl;rfl|(with_reducible refine Qaa g1 ?_ ?_ ?_);rfl;rfl|(with_reducible refine Qaa g2 ?_ ?_ ?_);rfl;rfl|(with_reducible refine Qaa g3 ?_ ?_ ?_);rfl;rfl)
  refine Qak (θ:=[(0,0)]) rfl ?_ ?_
  ·simp [Qae,lkp,ren1,ren0,Qan]
  ·exact⟨⟨rfl,rfl,rfl,rfl,rfl,.inr ⟨rfl,_,_,rfl,rfl,rfl,rfl⟩⟩,trivial⟩
 clear v1 v2 g1 g2 g3 h8;refine Qo1 mixed [] [0,1,2,3,4,6,10,11,12,13,14,15,16,17,18,19,20,21,22,23,24,25,26,27,28,29,30,31,45,92,94,107,138,147,169,173] 1 rfl (St.of [(0,.slc (p.map sgPV)),(2,wsPV l),(4,.int .i64 more),(6,.bp 0 5 0 0),(15,.bool (decide (B.res≤B.cap-totE l B p)))] [(0,{els:=[baPV B],esz:=5,ety:=25,fro:=0,live:=true,arr:=false})]) ?_ ?_
 ·simp only [codes,Qij,List.take_succ_cons,List.take_zero,List.drop_succ_cons,List.drop_zero,List.foldr_cons,List.foldr_nil];generalize decide (B.res≤B.cap-totE l B p)=is at*;by_cases hf0:0<first
  ·have f0:((0:Int)<first)=True:=eq_true hf0;by_cases hf1:first<(p.length:Int)
   ·have f1:(first<(p.length:Int))=True:=eq_true hf1;obtain⟨k,rfl⟩: ∃k:Nat,first=k:=⟨first.toNat,by omega⟩
    have d1:=Zqt hok (k:=k) (by omega) (by omega);have o1:Qde (p.take k) B l=true:=by unfold Qde;rw [Qnt hV (by omega) (by omega),hB,hw];rfl
    have o2:Qde (p.drop k) B l=true:=by unfold Qde;rw [Qwe hV (by omega),hB,hw];rfl
    have b1:=Qfd (p.take k) B l (fun s hs=>hp s (List.mem_of_mem_take hs)) (by omega) (by simp;omega);have b2:=Qfd (p.drop k) B l (fun s hs=>hp s (List.mem_of_mem_drop hs)) (by omega) (by simp;omega);have s1:=Q6g l B p (k:=k) (by omega);have s2:=Q6h l B p (k:=k) (by omega);have q1:=Qm3 hc k;have q2:preI (csL l B p) k≤totE l B p:=Qje hc (show k≤p.length by omega);unfold enPV at b1 b2;rw [if_pos o1,s1,if_pos (by omega),Qjo,List.map_take]at b1;rw [if_pos o2,s2,if_pos (by omega),Qjo,List.map_drop]at b2;have w1:IntKind.i64.wrap (preI (csL l B p) k+(totE l B p-preI (csL l B p) k))=totE l B p:=by rw [Qah (by omega) (by omega)];omega
    have f2:((k:Int)≤(p.length:Int))=True:=eq_true (by omega);have f3:((0:Int)≤(k:Int))=True:=eq_true (by omega);have f4:(k≤p.length)=True:=eq_true (by omega);have f5:(p.map sgPV).take p.length=p.map sgPV:=List.take_of_length_le (by simp);have n0:=nnT k;have n6:=Q6y p;unfold baPV at b1 b2 ⊢;clear s1 s2 q1 q2 d1;generalize preI (csL l B p) k=E1 at*;generalize totE l B p=E at*;repeat (first|simp -implicitDefEqProofs only [go_sem,seval,f0,f1,f2,f3,f5,n6,w1,decide_true,bne_self_eq_false,Int.toNat_natCast,List.drop_zero,List.length_map]|(with_reducible refine Qaa b1 ?_ ?_ ?_);rfl;rfl|(with_reducible refine Qaa b2 ?_ ?_ ?_);rfl;rfl|(with_reducible refine And.intro (Qac _ _ (by kernel_rfl)) ?_))
    refine Qak (θ:=[(0,0)]) rfl ?_ ?_
    ·simp [Qae,lkp,ren1,ren0,Qan]
    ·exact⟨⟨rfl,rfl,rfl,rfl,rfl,.inr ⟨rfl,_,_,rfl,rfl,rfl,rfl⟩⟩,trivial⟩
   ·have f1:(first<(p.length:Int))=False:=eq_false hf1;unfold baPV;repeat simp -implicitDefEqProofs only [go_sem,seval,f0,f1,decide_true,decide_false,List.length_map]
    refine Qak (θ:=[(0,0)]) rfl ?_ ?_
    ·simp [Qae,lkp,ren1,ren0,Qan]
    ·exact⟨⟨rfl,rfl,rfl,rfl,rfl,.inr ⟨rfl,_,_,rfl,rfl,rfl,rfl⟩⟩,trivial⟩
  ·have f0:((0:Int)<first)=False:=eq_false hf0;unfold baPV;repeat simp -implicitDefEqProofs only [go_sem,seval,f0,decide_true,decide_false]
   refine Qak (θ:=[(0,0)]) rfl ?_ ?_
   ·simp [Qae,lkp,ren1,ren0,Qan]
   ·exact⟨⟨rfl,rfl,rfl,rfl,rfl,.inr ⟨rfl,_,_,rfl,rfl,rfl,rfl⟩⟩,trivial⟩
 refine Qo1 mixed [] [0,1,2,3,4,6,10,11,12,13,14,15,16,17,18,19,20,21,22,23,24,25,26,27,28,29,30,31,45,92,94,107,138,147,169,173] 1 rfl (St.of [(0,.slc (p.map sgPV)),(2,wsPV l),(6,.bp 0 5 0 0)] [(0,{els:=[baPV B],esz:=5,ety:=25,fro:=0,live:=true,arr:=false})]) ?_ ?_
 ·simp only [codes,Qij,List.take_succ_cons,List.take_zero,List.drop_succ_cons,List.drop_zero,List.foldr_cons,List.foldr_nil];have u1:IntKind.i64.wrap (1125899906842624-B.cap)=1125899906842624-B.cap:=Qah (by omega) (by omega);by_cases hm0:0≤more
  ·have m0:((0:Int)≤more)=True:=eq_true hm0;by_cases hm1:more≤1125899906842624-B.cap
   ·have m1:(more≤1125899906842624-B.cap)=True:=eq_true hm1;have u2:IntKind.i64.wrap (B.cap+more)=B.cap+more:=Qah (by omega) (by omega);have o1:Qde p (capB B (B.cap+more)) l=true:=by unfold Qde;rw [hV,Q1m hB (by omega) (by omega),hw];rfl
    have b1:=Qjp p (capB B (B.cap+more)) l hp (by omega) (by omega);unfold ehPV at b1;rw [if_pos o1,Zfi,if_pos hle,Qjo]at b1;have e0:baPV (capB B (B.cap+more))= .agg [.int .i64 B.base,.int .i64 B.climb,.int .i64 B.drag,.int .i64 (B.cap+more),.int .i64 B.res]:=rfl;have e1:decide ((capB B (B.cap+more)).res≤(capB B (B.cap+more)).cap-totE l B p)=decide (B.res≤B.cap+more-totE l B p):=rfl;rw [e0,e1]at b1;unfold baPV;by_cases hE:B.res≤B.cap-totE l B p
    ·have hE2:B.res≤B.cap+more-totE l B p:=by omega
     rw [decide_eq_true hE2]at b1;rw [decide_eq_true hE];repeat (first|simp -implicitDefEqProofs only [go_sem,seval,m0,m1,u1,u2,Qwp,decide_true,Bool.not_true]|(with_reducible refine Qaa b1 ?_ ?_ ?_);rfl;rfl)
     refine Qak (θ:=[(0,0)]) rfl ?_ ?_
     ·simp [Qae,lkp,ren1,ren0,Qan]
     ·exact⟨⟨rfl,rfl,rfl,rfl,rfl,.inr ⟨rfl,_,_,rfl,rfl,rfl,rfl⟩⟩,trivial⟩
    ·rw [decide_eq_false hE];generalize decide (B.res≤B.cap+more-totE l B p)=good at*;repeat (first|simp -implicitDefEqProofs only [go_sem,seval,m0,m1,u1,u2,Qwp,decide_true]|(with_reducible refine Qaa b1 ?_ ?_ ?_);rfl;rfl)
     refine Qak (θ:=[(0,0)]) rfl ?_ ?_
     ·simp [Qae,lkp,ren1,ren0,Qan]
     ·exact⟨⟨rfl,rfl,rfl,rfl,rfl,.inr ⟨rfl,_,_,rfl,rfl,rfl,rfl⟩⟩,trivial⟩
   ·have m1:(more≤1125899906842624-B.cap)=False:=eq_false hm1;unfold baPV;repeat simp -implicitDefEqProofs only [go_sem,seval,m0,m1,u1,decide_true,decide_false]
    refine Qak (θ:=[(0,0)]) rfl ?_ ?_
    ·simp [Qae,lkp,ren1,ren0,Qan]
    ·exact⟨⟨rfl,rfl,rfl,rfl,rfl,.inr ⟨rfl,_,_,rfl,rfl,rfl,rfl⟩⟩,trivial⟩
  ·have m0:((0:Int)≤more)=False:=eq_false hm0;unfold baPV;repeat simp -implicitDefEqProofs only [go_sem,seval,m0,decide_true,decide_false]
   refine Qak (θ:=[(0,0)]) rfl ?_ ?_
   ·simp [Qae,lkp,ren1,ren0,Qan]
   ·exact⟨⟨rfl,rfl,rfl,rfl,rfl,.inr ⟨rfl,_,_,rfl,rfl,rfl,rfl⟩⟩,trivial⟩
 refine Qo1 mixed [] [0,1,2,3,4,6,10,11,12,13,14,15,16,17,18,19,20,21,22,23,24,25,26,27,28,29,30,31,45,92,94,107,138,147,169,173] 2 rfl (St.of [(0,.slc (p.map sgPV)),(2,wsPV l),(6,.bp 0 5 0 0),(24,.bool (levP p p.length))] [(0,{els:=[baPV B],esz:=5,ety:=25,fro:=0,live:=true,arr:=false})]) ?_ ?_
 ·simp only [codes,Qij,List.take_succ_cons,List.take_zero,List.drop_succ_cons,List.drop_zero,List.foldr_cons,List.foldr_nil];unfold baPV;repeat simp -implicitDefEqProofs only [go_sem,seval]
  refine Qat mixed (fun i:{i:Nat // i≤p.length}=>St.of [(0,.slc (p.map sgPV)),(2,wsPV l),(6,.bp 0 5 0 0),(24,.bool (levP p i.1)),(25,.int .i64 (i.1:Int))] [(0,{els:=[.agg [.int .i64 B.base,.int .i64 B.climb,.int .i64 B.drag,.int .i64 B.cap,.int .i64 B.res]],esz:=5,ety:=25,fro:=0,live:=true,arr:=false})]) (fun i=>p.length-i.1) ⟨0,Nat.zero_le _⟩ ?_ ?_
  ·refine Qak (θ:=[(0,0)]) rfl ?_ ?_
   ·simp [Qae,lkp,ren1,ren0,Qan,levP]
   ·exact⟨⟨rfl,rfl,rfl,rfl,rfl,.inr ⟨rfl,_,_,rfl,rfl,rfl,rfl⟩⟩,trivial⟩
  rintro⟨i,hi⟩;simp only;by_cases hA:i<p.length
  ·have hA':=ltT hA;have n0:=nnT i;have hg:=Qd6 p i hA;have hwk:=Qai (a:=i) (by omega);have hv:=Qby hV i hA;have hs:=hp _ (List.getElem_mem hA);have r0:=Qmq p[i] 0 1 hs (fun c hc=>Qru hv c hc) (Qc7 hv) ⟨by decide,by decide⟩ ⟨by decide,by decide⟩ (by decide);have r1:=Qmq p[i] 1 1 hs (fun c hc=>Qru hv c hc) (Qc7 hv) ⟨by decide,by decide⟩ ⟨by decide,by decide⟩ (by decide);obtain⟨q1,q2⟩:=Qt9 (a:=0) (d:=1) hs (fun c hc=>Qru hv c hc) (Qc7 hv) ⟨by decide,by decide⟩ ⟨by decide,by decide⟩ (by decide);obtain⟨q3,q4⟩:=Qt9 (a:=1) (d:=1) hs (fun c hc=>Qru hv c hc) (Qc7 hv) ⟨by decide,by decide⟩ ⟨by decide,by decide⟩ (by decide);have o0:=Qzs (plQ p[i] 0 1 0) (plQ p[i] 0 1 1) (plQ p[i] 0 1 2) (plO p[i] 0 1) 2000 (by decide) (q1 0 (by decide)) (q1 1 (by decide)) (q1 2 (by decide)) q2;have o1:=Qzs (plQ p[i] 1 1 0) (plQ p[i] 1 1 1) (plQ p[i] 1 1 2) (plO p[i] 1 1) 2000 (by decide) (q3 0 (by decide)) (q3 1 (by decide)) (q3 2 (by decide)) q4;obtain⟨R1,R2,R3,hR⟩: ∃R1 R2 R3,Qfn [plQ p[i] 0 1 0,plQ p[i] 0 1 1,plQ p[i] 0 1 2] (plO p[i] 0 1)= .agg [.slc R1,.bool R2,.slc R3]:=⟨_,_,_,rfl⟩;obtain⟨S1,S2,S3,hS⟩: ∃S1 S2 S3,Qfn [plQ p[i] 1 1 0,plQ p[i] 1 1 1,plQ p[i] 1 1 2] (plO p[i] 1 1)= .agg [.slc S1,.bool S2,.slc S3]:=⟨_,_,_,rfl⟩;have r0:Qaf Tryz.prog 10 [sgPV p[i],.int .i64 0,.int .i64 1] (.agg [.slc R1,.bool R2,.slc R3]):=by rw [←hR];exact r0
   have r1:Qaf Tryz.prog 10 [sgPV p[i],.int .i64 1,.int .i64 1] (.agg [.slc S1,.bool S2,.slc S3]):=by rw [←hS];exact r1
   rw [hR]at o0;rw [hS]at o1;have hsu:=Q6i hA;unfold levS at hsu;unfold Qad at o0 o1;unfold sgPV at r0 r1;clear hR hS q1 q2 q3 q4 hv hs;generalize hE1:((decide (plQ p[i] 0 1 2<0)==decide (plQ p[i] 1 1 2<0))&&(mB (plQ p[i] 0 1 2)==mB (plQ p[i] 1 1 2)))=E1 at*;generalize hE2:((decide (plO p[i] 0 1<0)==decide (plO p[i] 1 1<0))&&(mB (plO p[i] 0 1)==mB (plO p[i] 1 1)))=E2 at*;generalize hLn:levP p (i+1)=Ln at*;generalize mB (plQ p[i] 0 1 2)=m0 at*;generalize mB (plQ p[i] 1 1 2)=m1 at*;generalize mB (plO p[i] 0 1)=m2 at*;generalize mB (plO p[i] 1 1)=m3 at*;generalize decide (plQ p[i] 0 1 2<0)=d0 at*;generalize decide (plQ p[i] 1 1 2<0)=d1 at*;generalize decide (plO p[i] 0 1<0)=d2 at*;generalize decide (plO p[i] 1 1<0)=d3 at*;cases hL:levP p i with
   |false=>
    rw [hL,Bool.false_and]at hsu;subst hsu;repeat (first|simp -implicitDefEqProofs only [go_sem,seval,hA',hwk,List.length_map]|(with_reducible refine And.intro (Qac _ _ (by kernel_rfl)) ?_))
    refine⟨⟨i+1,hA⟩,by simp only;omega,?_⟩;simp only [hLn];refine Qak (θ:=[(0,0)]) rfl ?_ ?_
    ·simp [Qae,lkp,ren1,ren0,Qan]
    ·exact⟨⟨rfl,rfl,rfl,rfl,rfl,.inr ⟨rfl,_,_,rfl,rfl,rfl,rfl⟩⟩,trivial⟩
   |true=>
   rw [hL,Bool.true_and]at hsu;cases E1 with
   |false=>
    rw [Bool.false_and]at hsu;subst hsu;repeat (first|simp -implicitDefEqProofs only [go_sem,seval,hA',n0,hg,hwk,hE1,Int.toNat_natCast,List.length_map]|(with_reducible refine Qaa r0 ?_ ?_ ?_);rfl;rfl|(with_reducible refine Qaa r1 ?_ ?_ ?_);rfl;rfl|(with_reducible refine Qaa o0 ?_ ?_ ?_);rfl;rfl|(with_reducible refine Qaa o1 ?_ ?_ ?_);rfl;rfl|(with_reducible refine And.intro (Qac _ _ (by kernel_rfl)) ?_))
    refine⟨⟨i+1,hA⟩,by simp only;omega,?_⟩;simp only [hLn];refine Qak (θ:=[(0,0)]) rfl ?_ ?_
    ·simp [Qae,lkp,ren1,ren0,Qan]
    ·exact⟨⟨rfl,rfl,rfl,rfl,rfl,.inr ⟨rfl,_,_,rfl,rfl,rfl,rfl⟩⟩,trivial⟩
   |true=>
    rw [Bool.true_and]at hsu;subst hsu;repeat (first|simp -implicitDefEqProofs only [go_sem,seval,hA',n0,hg,hwk,hE1,hE2,Int.toNat_natCast,List.length_map]|(with_reducible refine Qaa r0 ?_ ?_ ?_);rfl;rfl|(with_reducible refine Qaa r1 ?_ ?_ ?_);rfl;rfl|(with_reducible refine Qaa o0 ?_ ?_ ?_);rfl;rfl|(with_reducible refine Qaa o1 ?_ ?_ ?_);rfl;rfl|(with_reducible refine And.intro (Qac _ _ (by kernel_rfl)) ?_))
    refine⟨⟨i+1,hA⟩,by simp only;omega,?_⟩;simp only [hLn];refine Qak (θ:=[(0,0)]) rfl ?_ ?_
    ·simp [Qae,lkp,ren1,ren0,Qan]
    ·exact⟨⟨rfl,rfl,rfl,rfl,rfl,.inr ⟨rfl,_,_,rfl,rfl,rfl,rfl⟩⟩,trivial⟩
  ·have hA':=ltF hA;obtain rfl:i=p.length:=by omega
   repeat simp -implicitDefEqProofs only [go_sem,seval,hA',List.length_map]
   refine Qak (θ:=[(0,0)]) rfl ?_ ?_
   ·simp [Qae,lkp,ren1,ren0,Qan]
   ·exact⟨⟨rfl,rfl,rfl,rfl,rfl,.inr ⟨rfl,_,_,rfl,rfl,rfl,rfl⟩⟩,trivial⟩
 refine v_go (tb:=[]) (ks:=[0,1,2,3,4,6,10,11,12,13,14,15,16,17,18,19,20,21,22,23,24,25,26,27,28,29,30,31,45,92,94,107,138,147,169,173]) mixed ?_;simp only [codes,Qij,List.take_succ_cons,List.take_zero,List.drop_succ_cons,List.drop_zero,List.foldr_cons,List.foldr_nil];have hk:=Qnu;have hrev:=Qwf p hV;have hwv:=Qty l (by omega);rw [hw]at hwv;have hVr:Qa7 (rvP p)=true:=(Q43 hV).1;have x1:=Qfd p B [] hp (Nat.zero_le _) (by omega);have x2:=Qfd (rvP p) B [] (Qtv hVr) (Nat.zero_le _) (by have:=(Qbj hVr).2.2;omega);have ok1:Qde p B []=true:=by unfold Qde;rw [hV,hB];rfl
 have ok2:Qde (rvP p) B []=true:=by unfold Qde;rw [hVr,hB];rfl
 unfold enPV at x1 x2;rw [if_pos ok1]at x1;rw [if_pos ok2]at x2;have ew:wsPV []= .slc []:=rfl;rw [ew,Qjo]at x1 x2;unfold Qbx at hrev;unfold baPV at*;cases hL:levP p p.length with
 |false=>
  obtain⟨a,c,e1⟩: ∃a c,(if totE [] B p≤mxE then PV.tup [.int .i64 (totE [] B p),.int .i64 0]else .tup [.int .i64 0,.int .i64 7])= .tup [.int .i64 a,.int .i64 c]:=by split<;>exact⟨_,_,rfl⟩
  obtain⟨a2,c2,e2⟩: ∃a c,(if totE [] B (rvP p)≤mxE then PV.tup [.int .i64 (totE [] B (rvP p)),.int .i64 0]else .tup [.int .i64 0,.int .i64 7])= .tup [.int .i64 a,.int .i64 c]:=by split<;>exact⟨_,_,rfl⟩
  rw [e1]at x1;rw [e2]at x2;generalize (rvP p).map sgPV=RP at*;repeat (first|simp -implicitDefEqProofs only [go_sem,seval,Zrf,Bool.not_false,Bool.and_self,Bool.true_and]|(with_reducible refine Qaa hrev ?_ ?_ ?_);rfl;rfl|(with_reducible refine Qaa x1 ?_ ?_ ?_);rfl;rfl|(with_reducible refine Qaa x2 ?_ ?_ ?_);rfl;rfl|(with_reducible refine Qaa hwv ?_ ?_ ?_);rfl;rfl|(with_reducible refine Qaa hk ?_ ?_ ?_);rfl;rfl)
 |true=>
  rw [Zqv hV hL B]at x2;obtain⟨a,c,e1⟩: ∃a c,(if totE [] B p≤mxE then PV.tup [.int .i64 (totE [] B p),.int .i64 0]else .tup [.int .i64 0,.int .i64 7])= .tup [.int .i64 a,.int .i64 c]:=by split<;>exact⟨_,_,rfl⟩
  rw [e1]at x1 x2;generalize (rvP p).map sgPV=RP at*;repeat (first|simp -implicitDefEqProofs only [go_sem,seval,Bool.not_true,BEq.rfl,Bool.and_self,Bool.true_and]|(with_reducible refine Qaa hrev ?_ ?_ ?_);rfl;rfl|(with_reducible refine Qaa x1 ?_ ?_ ?_);rfl;rfl|(with_reducible refine Qaa x2 ?_ ?_ ?_);rfl;rfl|(with_reducible refine Qaa hwv ?_ ?_ ?_);rfl;rfl|(with_reducible refine Qaa hk ?_ ?_ ?_);rfl;rfl)
set_option maxHeartbeats 8000000 in
theorem Qo4 (p:List Sg) (B:Bat) (l:List Wd) (first more:Int) (hr:(∀s∈p,rawS s)∧p.length≤maxLen) (hl:l.length≤maxLen) (hfi:i64 first) (hmo:i64 more):
  Qaf Tryz.prog 3 [.slc (p.map sgPV),baPV B,wsPV l,.int .i64 first,.int .i64 more] (.bool true):=by
 have hk:=Qnu;have hf:=Q7e p 6 (by decide) hr.2;unfold Qbx at hf;cases hF:fewB p 6 with
 |false=>
  rw [hF]at hf;unfold baPV;refine Qab (tb:=[]) 251 [.tmp 10] [0,1,2,3,4,6,10,11,12,13,14,15,16,17,18,19,20,21,22,23,24,25,26,27,28,29,30,31,45,92,94,107,138,147,169,173] mixed Tryz.func3 rfl (by kernel_rfl) ?_;repeat (first|simp -implicitDefEqProofs only [go_sem,seval,Bool.not_false]|(with_reducible refine Qaa hf ?_ ?_ ?_);rfl;rfl|(with_reducible refine Qaa hk ?_ ?_ ?_);rfl;rfl)
 |true=>
 by_cases h8:8<l.length
 ·rw [hF]at hf;have h8':((8:Int)<(l.length:Int))=True:=eq_true (by omega);unfold baPV;refine Qab (tb:=[]) 251 [.tmp 10] [0,1,2,3,4,6,10,11,12,13,14,15,16,17,18,19,20,21,22,23,24,25,26,27,28,29,30,31,45,92,94,107,138,147,169,173] mixed Tryz.func3 rfl (by kernel_rfl) ?_;repeat (first|simp -implicitDefEqProofs only [go_sem,seval,Bool.not_true,h8',decide_true,List.length_map]|(with_reducible refine Qaa hf ?_ ?_ ?_);rfl;rfl|(with_reducible refine Qaa hk ?_ ?_ ?_);rfl;rfl)
 obtain⟨l6,l8⟩:=Q1e hF;have hp: ∀s∈p,okSg s:=fun s hs=>Zqu (hr.1 s hs) (fun c hc=>by have:=l8 s hs c hc;omega);cases hO:Qde p B l with
 |false=>
  rw [hF]at hf;have hw:=Qrs p B l hp hl (by omega);rw [hO]at hw;unfold Qbx baPV at hw;have h8':((8:Int)<(l.length:Int))=False:=eq_false (by omega);unfold baPV;refine Qab (tb:=[]) 251 [.tmp 10] [0,1,2,3,4,6,10,11,12,13,14,15,16,17,18,19,20,21,22,23,24,25,26,27,28,29,30,31,45,92,94,107,138,147,169,173] mixed Tryz.func3 rfl (by kernel_rfl) ?_;repeat (first|simp -implicitDefEqProofs only [go_sem,seval,Bool.not_true,Bool.not_false,h8',decide_false,List.length_map]|(with_reducible refine Qaa hf ?_ ?_ ?_);rfl;rfl|(with_reducible refine Qaa hw ?_ ?_ ?_);rfl;rfl|(with_reducible refine Qaa hk ?_ ?_ ?_);rfl;rfl)
 |true=>
  by_cases hT:mxE<totE l B p
  ·exact Qnv p B l first more hp l6 (by omega) hO hF hT
  ·exact Qnw p B l first more hp l6 (by omega) hO hF (by omega) hfi hmo
end Go.Proofs.YtcaffiaempefjaaGreatDoor

namespace Go.Vl
open Go.RowKit
section
variable {H:Type} {enc:TypeId×Value→H}
theorem Qo0 {a:Assume} {C:Checked} {os:Os} {f:FuncId} {fn:Func} {s:ChangeSpec} {conds:List PathCond} {apart fresh handsOn again:Bool} {tb:TypeId} {L:List (String×DataW Unit)} (tts:List TT)
  (own:ownKnob C.prog.godebug=none) (started:os.Started) (noInit:C.prog.inits.idxOf? f=none) (hfn:C.prog.funcs[f]? =some fn)
  (witness: ∃(w:World) (tape:Tape) (i:Input),w.os=os∧(w.forCall tape i).Shaped C.prog∧i.vars=[]∧Input.okWide C.prog (w.forCall tape i) .any w.heap.size f i∧
   ((s.pre enc C.prog fn conds apart (w.forCall tape i).memory i.args∧laidMetH C.prog L (w.forCall tape i).memory)∧sizedMet enc C.prog fn (OpenSpec.ofChange s) apart (w.forCall tape i).memory i.args)∧a.holds C.prog (lone (Frame.enter C.prog f i.args .normal) [] (w.forCall tape i)))
  (hl:laidOutB C.prog=true) (hvars:s.vars=[]) (hres:fn.resultTypes= #[tb]) (hbool:C.prog.underlying tb=some .bool) (hts:(fn.params.toList.all fun t=>C.prog.readableRec t&&decide (t<C.prog.types.size))=true)
  (hfit:Qlb C.prog tts fn.params.toList=true) (hs: ∀ds:List (DataW H),ds.length=tts.length→s.fn H ds={results:=[.lit (.bool true)],args:=ds})
  (hcl:callable C.prog f=true) (hlay: ∀W:World,laidMetH C.prog L W→Laid C.prog W.heap.size W) (law: ∀pvs,Qyd tts pvs→Qaf C.prog f pvs (.bool true)):
  ReturnsInHanded a C os f .any (fun w args=>(s.pre enc C.prog fn conds apart w args∧laidMetH C.prog L w)∧sizedMet enc C.prog fn (OpenSpec.ofChange s) apart w args) (s.post enc C.prog fn apart fresh handsOn again):=by
 refine returnsInHanded_of_change_and (X:=fun w _=>laidMetH C.prog L w) (fun _ _ _ hh h=>h.of_heap hh) own started noInit hfn witness ?_;intro W base args ds gs before hval hW q1 q2 q3 q4;have hW':=hW;obtain⟨p,q,hA,hV,rfl,hz,hn⟩:=hW;rw [hvars]at hV;obtain⟨rfl,rfl⟩:=ChangeShapes.trodVars_none hV;obtain⟨pvs,h1,h2,h3⟩:=Q0v tts fn.params.toList args.toList ds p hfit (fun j t v e1 e2=>hval j t v (by simpa using e1) (by simpa using e2)) hA;have hts': ∀t∈fn.params.toList,C.prog.readableRec t=true∧t<C.prog.types.size:=by
  intro t ht;have:=List.all_eq_true.1 hts t ht;simpa using this
 have hcall:=((law pvs h1).resolve_right (fun x=>by rw [hcl]at x;cases x.1)).2 W (exIm W) args.toList W.heap.size (Nat.le_refl _) (hlay W (by first|exact q1|exact q2|exact q3|exact q4)) h2 (fun g j x=>x);refine(by simpa using hcall:Calls C.prog f args W _).mono ?_;rintro e W' ⟨v,rfl,hb,hr⟩;have hv:v= .bool true:=by cases hr;rfl
 subst hv;exact⟨_,rfl,Qye hl hvars hres hbool hts' hW' (by rw [List.append_nil];exact hs ds h3) hb⟩
end
end Go.Vl

namespace Go.Proofs.YtcaffiaempefjaaGreatDoor
open Go.Vl Go.RowKit Go.Dg
theorem own:ownKnob Tryz.prog.godebug=none:=by kernel_rfl
theorem Zrj:laidOutB Tryz.prog=true:=by kernel_rfl
def Q7i:List (String×DataW Unit):=[("math/bits.deBruijn32tab",Rows.laid_math_bits_deBruijn32tab),("math/bits.deBruijn64tab",Rows.laid_math_bits_deBruijn64tab)]
theorem Zf3 (os:Os) (args:Array Value):laidMetH Tryz.prog Q7i ((World.doorLaid Tryz.prog 62 os).forCall (fun _ _=>0) ⟨#[],args,[]⟩).memory:=
 laidMetH_of_parts3 (fuel:=8) (laidMet_of_run' 8 (by kernel_rfl) (by kernel_rfl)) (by kernel_rfl) (by kernel_rfl)
def Q7j:List Int:=Go.Lib.deBruijn64tab.map fun(z:Nat)=>(z:Int)
theorem hlay (W:World) (h:laidMetH Tryz.prog Q7i W):Laid Tryz.prog W.heap.size W:=by
 rintro nm tab (⟨rfl,rfl⟩|⟨rfl,rfl⟩) g hg
 ·have e:Tryz.prog.globalNamed Zcp=none:=by kernel_rfl
  rw [e]at hg;cases hg
 obtain rfl:g=1:=Option.some.inj (hg.symm.trans (by kernel_rfl));have hf:=h.filter (fun x=>x.1==Qoa);have e:Q7i.filter (fun x=>x.1==Qoa)=[(Qoa,Lib.tabData .u8 Q7j)]:=by kernel_rfl
 rw [e,MakeChecks.laidMetH_plain _ _ _ (by kernel_rfl)]at hf;have ht:Lib.TabIs Tryz.prog W Qoa .u8 Q7j:=Lib.tabIs_of_head (g:=1) (t:=214) (e:=5) (n:=64) (by kernel_rfl) (by kernel_rfl) (by kernel_rfl) (by kernel_rfl) (by kernel_rfl) (by kernel_rfl) hf;have e2:(Q7j.map fun z=>Value.int .u8 z).toArray=Zcq:=by kernel_rfl
 unfold Lib.TabIs at ht;rw [e2]at ht;refine⟨?_,ht⟩;simp only [World.var?,hg,Option.bind_some]at ht;cases hh:W.heap[(1:Nat)]? with
 |none=>rw [hh]at ht;cases ht
 |some o=>exact(Array.getElem?_eq_some_iff.1 hh).1
theorem Zf4 {k:IntKind} {c:List PV} (h:Qcd (.int k) c): ∃n:Int,TT.mk (.int k) c= .int k n∧(Lit.int k n).wf=true:=by
 simp only [Qcd]at h;obtain⟨x,rfl,hx⟩:=h;exact⟨x,rfl,hx⟩
theorem Qc8 {n:Int} (h:(Lit.int .i64 n).wf=true): -9223372036854775808≤n∧n≤9223372036854775807:=by
 have:=h;simp [Lit.wf,IntKind.min,IntKind.max,IntKind.signed,IntKind.bits]at this;omega
theorem Qr5 {c:List PV} (h:Qcd (.int .i64) c): ∃n:Int,TT.mk (.int .i64) c= .int .i64 n∧i64 n:=by
 obtain⟨n,e,w⟩:=Zf4 h;exact⟨n,e,Qc8 w⟩
def vecT:TT:= .agg [.int .i64,.int .i64,.int .i64]
def batT:TT:= .agg [.int .i64,.int .i64,.int .i64,.int .i64,.int .i64]
theorem Zf5 {c:List PV} (h:Qcd batT c): ∃B:Bat,batT.mk c=baPV B∧okBat B:=by
 simp only [batT,Qcd,Qgm]at h;obtain⟨_,_,rfl,⟨a,rfl,ha⟩,_,_,rfl,⟨b,rfl,hb⟩,_,_,rfl,⟨d,rfl,hd⟩,_,_,rfl,⟨e,rfl,he⟩,_,_,rfl,⟨f,rfl,hf⟩,rfl⟩:=h;exact⟨⟨a,b,d,e,f⟩,rfl,Qc8 ha,Qc8 hb,Qc8 hd,Qc8 he,Qc8 hf⟩
def Quf:TT:= .agg [vecT,vecT,.int .i64,.int .i64,vecT]
theorem Q7k {c:List PV} (h:Qcd Quf c): ∃w:Wd,Quf.mk c=wdPV w:=by
 simp only [Quf,vecT,Qcd,Qgm]at h;obtain⟨_,_,rfl,⟨_,_,rfl,⟨a1,rfl,_⟩,_,_,rfl,⟨a2,rfl,_⟩,_,_,rfl,⟨a3,rfl,_⟩,rfl⟩,_,_,rfl,⟨_,_,rfl,⟨b1,rfl,_⟩,_,_,rfl,⟨b2,rfl,_⟩,_,_,rfl,⟨b3,rfl,_⟩,rfl⟩,_,_,rfl,⟨f,rfl,_⟩,_,_,rfl,⟨t,rfl,_⟩,
  _,_,rfl,⟨_,_,rfl,⟨u1,rfl,_⟩,_,_,rfl,⟨u2,rfl,_⟩,_,_,rfl,⟨u3,rfl,_⟩,rfl⟩,rfl⟩:=h
 exact⟨⟨a1,a2,a3,b1,b2,b3,f,t,u1,u2,u3⟩,rfl⟩
theorem Q1t {c:List PV} (h:Qcd (.slc Quf) c): ∃l:List Wd,TT.mk (.slc Quf) c=wsPV l∧l.length≤maxLen:=by
 simp only [Qcd]at h;obtain⟨ess,rfl,hm,h⟩:=h;have key: ∀ess:List (List PV),(∀c∈ess,Qcd Quf c)→ ∃l:List Wd,ess.map Quf.mk=l.map wdPV∧l.length=ess.length:=by
  intro ess
  induction ess with
  |nil=>exact fun _=>⟨[],rfl,rfl⟩
  |cons c cs ih=>
   intro h;obtain⟨s,e⟩:=Q7k (h c (by simp));obtain⟨l,hl,hn⟩:=ih (fun c hc=>h c (by simp [hc]));exact⟨s::l,by simp [e,hl],by simp [hn]⟩
 obtain⟨l,e,hn⟩:=key ess h;exact⟨l,by simp only [TT.mk,List.headD_cons];rw [e],by omega⟩
def segT:TT:= .agg [.int .i64,.int .i64,.int .i64,.slc (.int .i64),.slc (.int .i64),.slc (.int .i64)]
theorem Qjs: ∀ess:List (List PV),(∀c∈ess,Qcd (.int .i64) c)→ ∃l:List Int,ess.map (TT.mk (.int .i64))=l.map (PV.int .i64)∧l.length=ess.length∧ ∀x∈l,i64 x
 | [],_=>⟨[],rfl,rfl,fun _ h=>nomatch h⟩
 |c::cs,h=>by
  obtain⟨n,e,b⟩:=Qr5 (h c (by simp));obtain⟨l,hl,hn,hx⟩:=Qjs cs (fun c hc=>h c (by simp [hc]));refine⟨n::l,by simp [e,hl],by simp [hn],fun x hx'=> ?_⟩;cases hx' with
  |head=>exact b
  |tail _ h=>exact hx x h
theorem Zf6 {c:List PV} (h:Qcd segT c): ∃s:Sg,segT.mk c=sgPV s∧rawS s:=by
 simp only [segT,Qcd,Qgm]at h;obtain⟨_,_,rfl,⟨f,rfl,hf⟩,_,_,rfl,⟨t,rfl,ht⟩,_,_,rfl,⟨o,rfl,ho⟩,_,_,rfl,⟨ex,rfl,mx,hx⟩,_,_,rfl,⟨ey,rfl,my,hy⟩,_,_,rfl,⟨ez,rfl,mz,hz⟩,rfl⟩:=h;obtain⟨lx,e1,n1,b1⟩:=Qjs ex (fun c hc=>by have:=hx c hc;simpa only [Qcd]using this);obtain⟨ly,e2,n2,b2⟩:=Qjs ey (fun c hc=>by have:=hy c hc;simpa only [Qcd]using this);obtain⟨lz,e3,n3,b3⟩:=Qjs ez (fun c hc=>by have:=hz c hc;simpa only [Qcd]using this);refine⟨⟨f,t,o,lx,ly,lz⟩,?_,Qc8 hf,Qc8 ht,Qc8 ho,?_⟩
 ·show PV.agg [.int .i64 f,.int .i64 t,.int .i64 o,.slc (ex.map (TT.mk (.int .i64))),.slc (ey.map (TT.mk (.int .i64))),.slc (ez.map (TT.mk (.int .i64)))]=_;rw [e1,e2,e3];rfl
 ·intro c hc;simp only [Sg.ax,List.mem_cons,List.not_mem_nil,or_false]at hc;rcases hc with rfl|rfl|rfl
  ·exact⟨b1,by omega⟩
  ·exact⟨b2,by omega⟩
  ·exact⟨b3,by omega⟩
theorem Q7l {c:List PV} (h:Qcd (.slc segT) c): ∃p:List Sg,TT.mk (.slc segT) c= .slc (p.map sgPV)∧((∀s∈p,rawS s)∧p.length≤maxLen):=by
 simp only [Qcd]at h;obtain⟨ess,rfl,hm,h⟩:=h;have key: ∀ess:List (List PV),(∀c∈ess,Qcd segT c)→ ∃l:List Sg,ess.map segT.mk=l.map sgPV∧l.length=ess.length∧ ∀s∈l,rawS s:=by
  intro ess
  induction ess with
  |nil=>exact fun _=>⟨[],rfl,rfl,fun _ h=>nomatch h⟩
  |cons c cs ih=>
   intro h;obtain⟨s,e,b⟩:=Zf6 (h c (by simp));obtain⟨l,hl,hn,hx⟩:=ih (fun c hc=>h c (by simp [hc]));refine⟨s::l,by simp [e,hl],by simp [hn],fun x hx'=> ?_⟩;cases hx' with
   |head=>exact b
   |tail _ h=>exact hx x h
 obtain⟨l,e,hn,hx⟩:=key ess h;exact⟨l,by simp only [TT.mk,List.headD_cons];rw [e],hx,by omega⟩
def Zrk:Value:= .agg #[.int .i64 0,.int .i64 0,.int .i64 0,.int .i64 0,.int .i64 0]
end Go.Proofs.YtcaffiaempefjaaGreatDoor
