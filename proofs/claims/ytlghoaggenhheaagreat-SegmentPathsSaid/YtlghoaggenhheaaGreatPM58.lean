/-
  PM58 (merged for the claim).
-/
import Derived.Test.YtlghoaggenhheaaGreatPM57
import Derived.Test.YtlghoaggenhheaaGreatPM30
set_option linter.unusedSimpArgs false
set_option linter.unusedVariables false
namespace Go.Proofs.YtlghoaggenhheaaGreat
open Go.Vl Go.RowKit Go.Dg
set_option maxHeartbeats 4000000 in
set_option maxRecDepth 100000 in
theorem Qpq (p:List Sg) (hr:(∀s∈p,Qx8 s)∧p.length≤maxLen) (b:Int) (hb1: -9223372036854775808≤b) (hb2:b≤9223372036854775807) (x y z:Int):
  Qae Tryz.prog 4 [.slc (p.map sgPV),.int .i64 b,.agg [.int .i64 x,.int .i64 y,.int .i64 z]] (.bool true):=by
 have hk:=Qim;have hf:=Q62 p 6 (by decide) hr.2;unfold Qam at hf;cases hF:fewB p 6 with
 |false=>
  rw [hF]at hf;refine Qab (tb:=[]) 137 [.tmp 6] [0,1,2,5,6,7,8,9,10,11,12,15,36,72,76,86,102,106,111,115,125] mixed Tryz.func4 rfl (by kernel_rfl) ?_;repeat (first|simp -implicitDefEqProofs only [go_sem,seval,Bool.not_false]|(with_reducible refine Qaa hf ?_ ?_ ?_);rfl;rfl|(with_reducible refine Qaa hk ?_ ?_ ?_);rfl;rfl)
 |true=>
  rw [hF]at hf;obtain⟨l6,l8⟩:=Qk9 hF;have hp: ∀s∈p,okSg s:=fun s hs=>Zat (hr.1 s hs) (fun c hc=>by have:=l8 s hs c hc;omega);have hsh:=Zdu p b hp (by omega);have hmv:=Znj p x y z hp (by omega) Zlf (fun hV h=>Q6t hV hp h);have hrv:=Qqz p hp (by omega) (fun hV s hs i hi x hx=>Zky (Qf9 hV hs) i hi x hx);have hv:=Qht p hp (by omega);have r2:=refd 2;have r3:=refd 3;unfold Qxk at hsh;unfold Q6p at hmv;unfold Qhs at hrv;cases hV:Qa7 p with
  |false=>
   rw [hV]at hv;rw [if_neg (by simp [hV])]at hsh hmv hrv;unfold Qam at hsh hmv hrv hv;simp only [List.map_nil]at hsh hmv hrv;refine Qab (tb:=[]) 137 [.tmp 6] [0,1,2,5,6,7,8,9,10,11,12,15,36,72,76,86,102,106,111,115,125] mixed Tryz.func4 rfl (by kernel_rfl) ?_;repeat (first|simp -implicitDefEqProofs only [go_sem,seval,Bool.not_true,Bool.not_false]|(with_reducible refine Qaa hf ?_ ?_ ?_);rfl;rfl|(with_reducible refine Qaa hsh ?_ ?_ ?_);rfl;rfl|(with_reducible refine Qaa hmv ?_ ?_ ?_);rfl;rfl|(with_reducible refine Qaa hrv ?_ ?_ ?_);rfl;rfl|(with_reducible refine Qaa hv ?_ ?_ ?_);rfl;rfl|(with_reducible refine Qaa r2 ?_ ?_ ?_);rfl;rfl|(with_reducible refine Qaa hk ?_ ?_ ?_);rfl;rfl)
  |true=>
   rw [hV]at hv;rw [if_pos hV]at hsh hrv;obtain⟨e1,e2,e3,e4⟩:=Qgw hV;have hpos:=(Qbp hV).2.1;have g1:=Qsw p (by omega);have g2:=Q63 p (by omega) (by omega);have hrr:=Q13 p hV hp (fun s hs i hi x hx=>Zky (Qf9 hV hs) i hi x hx);have hrs:=Qd9 _ _ (Qz7 hV) (Qz7 hV);rw [Qij]at hrs;unfold Qam at hrv hv g1 g2 hrr hrs;obtain⟨A,e,hA1,hA2⟩: ∃(A:List PV) (e:Int),Qae Tryz.prog 16 [.slc (p.map sgPV),.int .i64 b] (.tup [.slc A,.int .i64 e])∧(((b< -pBeg p∨3600000-pEnd p<b)∧A=[]∧e=3)∨(¬(b< -pBeg p∨3600000-pEnd p<b)∧A=(p.map (shS b)).map sgPV∧e=0)):=by
    unfold Qam at hsh;by_cases hc:b< -pBeg p∨3600000-pEnd p<b
    ·rw [if_pos hc]at hsh;exact⟨_,_,hsh,.inl ⟨hc,rfl,rfl⟩⟩
    ·rw [if_neg hc]at hsh;exact⟨_,_,hsh,.inr ⟨hc,rfl,rfl⟩⟩
   obtain⟨B,f,hB1,hB2⟩: ∃(B:List PV) (f:Int),Qae Tryz.prog 17 [.slc (p.map sgPV),.agg [.int .i64 x,.int .i64 y,.int .i64 z]] (.tup [.slc B,.int .i64 f])∧
     ((vOK x y z=false∧B=[]∧f=2)∨(vOK x y z=true∧Qa7 (p.map (mvS x y z))=false∧B=[]∧f=3)∨(vOK x y z=true∧Qa7 (p.map (mvS x y z))=true∧B=(p.map (mvS x y z)).map sgPV∧f=0)):=by
    unfold Qam at hmv;cases hO:vOK x y z with
    |false=>
     rw [if_neg (by simp [hO])]at hmv;exact⟨_,_,hmv,.inl ⟨rfl,rfl,rfl⟩⟩
    |true=>
     rw [if_pos ⟨hV,hO⟩]at hmv;cases hW:Qa7 (p.map (mvS x y z))with
     |false=>
      rw [if_neg (by simp [hW])]at hmv;exact⟨_,_,hmv,.inr (.inl ⟨rfl,rfl,rfl,rfl⟩)⟩
     |true=>
      rw [if_pos hW]at hmv;exact⟨_,_,hmv,.inr (.inr ⟨rfl,rfl,rfl,rfl⟩)⟩
   clear hsh hmv;refine Zce 137 [.tmp 6] Tryz.func4 rfl (by kernel_rfl) (by kernel_rfl) (by kernel_rfl) (by kernel_rfl) ?_;refine Qid mixed [] [0,1,2,5,6,7,8,9,10,11,12,15,36,72,76,86,102,106,111,115,125] 6 rfl (St.of [(0,.slc (p.map sgPV)),(1,.int .i64 b),(5,.bp 0 3 0 0),(7,.slc A),(8,.int .i64 e),(9,.slc B),(10,.int .i64 f),(11,.slc ((revP p).map sgPV)),(12,.int .i64 0)] [(0,{els:=[.agg [.int .i64 x,.int .i64 y,.int .i64 z]],esz:=3,ety:=38,fro:=0,live:=true,arr:=false})]) ?_ ?_
   ·simp only [codes,Qft,List.take_succ_cons,List.take_zero,List.drop_succ_cons,List.drop_zero,List.foldr_cons,List.foldr_nil];repeat (first|simp -implicitDefEqProofs only [go_sem,seval,Bool.not_true]|(with_reducible refine Qaa hf ?_ ?_ ?_);rfl;rfl|(with_reducible refine Qaa hA1 ?_ ?_ ?_);rfl;rfl|(with_reducible refine Qaa hB1 ?_ ?_ ?_);rfl;rfl|(with_reducible refine Qaa hrv ?_ ?_ ?_);rfl;rfl|(with_reducible refine Qaa hv ?_ ?_ ?_);rfl;rfl)
    refine Qaj (θ:=[(0,0)]) rfl ?_ ?_
    ·simp [Qac,lkp,ren1,ren0,Qao]
    ·exact⟨⟨rfl,rfl,rfl,rfl,rfl,.inr ⟨rfl,_,_,rfl,rfl,rfl,rfl⟩⟩,trivial⟩
   refine Qid mixed [] [0,1,2,5,6,7,8,9,10,11,12,15,36,72,76,86,102,106,111,115,125] 1 rfl (St.of [(0,.slc (p.map sgPV)),(5,.bp 0 3 0 0),(9,.slc B),(10,.int .i64 f),(11,.slc ((revP p).map sgPV)),(12,.int .i64 0)] [(0,{els:=[.agg [.int .i64 x,.int .i64 y,.int .i64 z]],esz:=3,ety:=38,fro:=0,live:=true,arr:=false})]) ?_ ?_
   ·simp only [codes,Qft,List.take_succ_cons,List.take_zero,List.drop_succ_cons,List.drop_zero,List.foldr_cons,List.foldr_nil];by_cases c1:b< -3600000
    ·have c1':=eq_true c1;rcases hA2 with⟨-,rfl,rfl⟩|⟨hc, -, -⟩
     ·repeat (first|simp -implicitDefEqProofs only [go_sem,seval,c1',decide_true,Bool.not_true]|(with_reducible refine Qaa r3 ?_ ?_ ?_);rfl;rfl)
      refine Qaj (θ:=[(0,0)]) rfl ?_ ?_
      ·simp [Qac,lkp,ren1,ren0,Qao]
      ·exact⟨⟨rfl,rfl,rfl,rfl,rfl,.inr ⟨rfl,_,_,rfl,rfl,rfl,rfl⟩⟩,trivial⟩
     ·exact absurd hc (by omega)
    have c1':=eq_false c1;by_cases c2:3600000<b
    ·have c2':=eq_true c2;rcases hA2 with⟨-,rfl,rfl⟩|⟨hc, -, -⟩
     ·repeat (first|simp -implicitDefEqProofs only [go_sem,seval,c1',c2',decide_true,decide_false,Bool.not_true]|(with_reducible refine Qaa r3 ?_ ?_ ?_);rfl;rfl)
      refine Qaj (θ:=[(0,0)]) rfl ?_ ?_
      ·simp [Qac,lkp,ren1,ren0,Qao]
      ·exact⟨⟨rfl,rfl,rfl,rfl,rfl,.inr ⟨rfl,_,_,rfl,rfl,rfl,rfl⟩⟩,trivial⟩
     ·exact absurd hc (by omega)
    have c2':=eq_false c2;have w1:IntKind.i64.wrap (pBeg p+b)=pBeg p+b:=Qai (by omega) (by omega);have w2:IntKind.i64.wrap (pEnd p+b)=pEnd p+b:=Qai (by omega) (by omega);by_cases c3:pBeg p+b<0
    ·have c3':=eq_true c3;rcases hA2 with⟨-,rfl,rfl⟩|⟨hc, -, -⟩
     ·repeat (first|simp -implicitDefEqProofs only [go_sem,seval,c1',c2',c3',w1,decide_true,decide_false,Bool.not_true]|(with_reducible refine Qaa r3 ?_ ?_ ?_);rfl;rfl|(with_reducible refine Qaa g1 ?_ ?_ ?_);rfl;rfl)
      refine Qaj (θ:=[(0,0)]) rfl ?_ ?_
      ·simp [Qac,lkp,ren1,ren0,Qao]
      ·exact⟨⟨rfl,rfl,rfl,rfl,rfl,.inr ⟨rfl,_,_,rfl,rfl,rfl,rfl⟩⟩,trivial⟩
     ·exact absurd hc (by omega)
    have c3':=eq_false c3;by_cases c4:3600000<pEnd p+b
    ·have c4':=eq_true c4;rcases hA2 with⟨-,rfl,rfl⟩|⟨hc, -, -⟩
     ·repeat (first|simp -implicitDefEqProofs only [go_sem,seval,c1',c2',c3',c4',w1,w2,decide_true,decide_false,Bool.not_true]|(with_reducible refine Qaa r3 ?_ ?_ ?_);rfl;rfl|(with_reducible refine Qaa g1 ?_ ?_ ?_);rfl;rfl|(with_reducible refine Qaa g2 ?_ ?_ ?_);rfl;rfl)
      refine Qaj (θ:=[(0,0)]) rfl ?_ ?_
      ·simp [Qac,lkp,ren1,ren0,Qao]
      ·exact⟨⟨rfl,rfl,rfl,rfl,rfl,.inr ⟨rfl,_,_,rfl,rfl,rfl,rfl⟩⟩,trivial⟩
     ·exact absurd hc (by omega)
    have c4':=eq_false c4;rcases hA2 with⟨hc, -, -⟩|⟨-,rfl,rfl⟩
    ·exact absurd hc (by omega)
    have hS:=Zdt p b (by omega) (fun s hs=>by
     obtain⟨⟨v1,v2,v3, -, -⟩, -, -⟩:=Qav (Qf9 hV hs);exact⟨Qai (by omega) (by omega),Qai (by omega) (by omega)⟩)
    have hSS:=Qd9 _ _ (Q6u (b:=b) hp (by omega)) (Q6u (b:=b) hp (by omega));rw [Qij]at hSS;unfold Qam at hS hSS;repeat (first|simp -implicitDefEqProofs only [go_sem,seval,c1',c2',c3',c4',w1,w2,Qmv,decide_true,decide_false,Bool.not_true]|(with_reducible refine Qaa g1 ?_ ?_ ?_);rfl;rfl|(with_reducible refine Qaa g2 ?_ ?_ ?_);rfl;rfl|(with_reducible refine Qaa hS ?_ ?_ ?_);rfl;rfl|(with_reducible refine Qaa hSS ?_ ?_ ?_);rfl;rfl)
    refine Qaj (θ:=[(0,0)]) rfl ?_ ?_
    ·simp [Qac,lkp,ren1,ren0,Qao]
    ·exact⟨⟨rfl,rfl,rfl,rfl,rfl,.inr ⟨rfl,_,_,rfl,rfl,rfl,rfl⟩⟩,trivial⟩
   refine Qid mixed [] [0,1,2,5,6,7,8,9,10,11,12,15,36,72,76,86,102,106,111,115,125] 1 rfl (St.of [(0,.slc (p.map sgPV)),(11,.slc ((revP p).map sgPV)),(12,.int .i64 0)] []) ?_ ?_
   ·simp only [codes,Qft,List.take_succ_cons,List.take_zero,List.drop_succ_cons,List.drop_zero,List.foldr_cons,List.foldr_nil];have p1:=Q6v x;have p2:=Q6v y;have p3:=Q6v z;unfold vOK at hB2;by_cases c1: -16777216≤x∧x≤16777216
    case neg=>
     rw [decide_eq_false c1]at p1;rcases hB2 with⟨-,rfl,rfl⟩|⟨hc, -⟩|⟨hc, -⟩
     ·repeat (first|simp -implicitDefEqProofs only [go_sem,seval,Bool.not_true,Bool.not_false]|(with_reducible refine Qaa p1 ?_ ?_ ?_);rfl;rfl|(with_reducible refine Qaa r2 ?_ ?_ ?_);rfl;rfl)
      refine Qaj (θ:=[]) rfl ?_ trivial;simp [Qac,lkp,ren1,ren0,Qao]
     ·exact absurd (of_decide_eq_true hc).1 c1
     ·exact absurd (of_decide_eq_true hc).1 c1
    rw [decide_eq_true c1]at p1;by_cases c2: -16777216≤y∧y≤16777216
    case neg=>
     rw [decide_eq_false c2]at p2;rcases hB2 with⟨-,rfl,rfl⟩|⟨hc, -⟩|⟨hc, -⟩
     ·repeat (first|simp -implicitDefEqProofs only [go_sem,seval,Bool.not_true,Bool.not_false]|(with_reducible refine Qaa p1 ?_ ?_ ?_);rfl;rfl|(with_reducible refine Qaa p2 ?_ ?_ ?_);rfl;rfl|(with_reducible refine Qaa r2 ?_ ?_ ?_);rfl;rfl)
      refine Qaj (θ:=[]) rfl ?_ trivial;simp [Qac,lkp,ren1,ren0,Qao]
     ·exact absurd (of_decide_eq_true hc).2.1 c2
     ·exact absurd (of_decide_eq_true hc).2.1 c2
    rw [decide_eq_true c2]at p2;by_cases c3: -16777216≤z∧z≤16777216
    case neg=>
     rw [decide_eq_false c3]at p3;rcases hB2 with⟨-,rfl,rfl⟩|⟨hc, -⟩|⟨hc, -⟩
     ·repeat (first|simp -implicitDefEqProofs only [go_sem,seval,Bool.not_true,Bool.not_false]|(with_reducible refine Qaa p1 ?_ ?_ ?_);rfl;rfl|(with_reducible refine Qaa p2 ?_ ?_ ?_);rfl;rfl|(with_reducible refine Qaa p3 ?_ ?_ ?_);rfl;rfl|(with_reducible refine Qaa r2 ?_ ?_ ?_);rfl;rfl)
      refine Qaj (θ:=[]) rfl ?_ trivial;simp [Qac,lkp,ren1,ren0,Qao]
     ·exact absurd (of_decide_eq_true hc).2.2 c3
     ·exact absurd (of_decide_eq_true hc).2.2 c3
    rw [decide_eq_true c3]at p3;have hO:vOK x y z=true:=decide_eq_true ⟨c1,c2,c3⟩;have hM:=Znh p x y z (by omega) (Zlf hV hO);have hMo:=Q6t hV hp hO;have hMv:=Qht _ hMo (by simp;omega);have hMl:=Qxm hMo (by simp;omega);have hMS:=Qd9 _ _ hMl hMl;rw [Qij]at hMS;unfold Qam at hM hMv hMS;rcases hB2 with⟨hc, -⟩|⟨-,hW,rfl,rfl⟩|⟨-,hW,rfl,rfl⟩
    ·rw [decide_eq_true ⟨c1,c2,c3⟩]at hc;cases hc
    ·rw [hW]at hMv;repeat (first|simp -implicitDefEqProofs only [go_sem,seval,Bool.not_true,Bool.not_false]|(with_reducible refine Qaa p1 ?_ ?_ ?_);rfl;rfl|(with_reducible refine Qaa p2 ?_ ?_ ?_);rfl;rfl|(with_reducible refine Qaa p3 ?_ ?_ ?_);rfl;rfl|(with_reducible refine Qaa r3 ?_ ?_ ?_);rfl;rfl|(with_reducible refine Qaa hM ?_ ?_ ?_);rfl;rfl|(with_reducible refine Qaa hMv ?_ ?_ ?_);rfl;rfl)
     refine Qaj (θ:=[]) rfl ?_ trivial;simp [Qac,lkp,ren1,ren0,Qao]
    ·rw [hW]at hMv;repeat (first|simp -implicitDefEqProofs only [go_sem,seval,Qmv,Bool.not_true]|(with_reducible refine Qaa p1 ?_ ?_ ?_);rfl;rfl|(with_reducible refine Qaa p2 ?_ ?_ ?_);rfl;rfl|(with_reducible refine Qaa p3 ?_ ?_ ?_);rfl;rfl|(with_reducible refine Qaa hM ?_ ?_ ?_);rfl;rfl|(with_reducible refine Qaa hMv ?_ ?_ ?_);rfl;rfl|(with_reducible refine Qaa hMS ?_ ?_ ?_);rfl;rfl)
     refine Qaj (θ:=[]) rfl ?_ trivial;simp [Qac,lkp,ren1,ren0,Qao]
   ·refine v_go (tb:=[]) (ks:=[0,1,2,5,6,7,8,9,10,11,12,15,36,72,76,86,102,106,111,115,125]) mixed ?_;simp only [codes,Qft,List.take_succ_cons,List.take_zero,List.drop_succ_cons,List.drop_zero,List.foldr_cons,List.foldr_nil];repeat (first|simp -implicitDefEqProofs only [go_sem,seval,Znq]|(with_reducible refine Qaa hrr ?_ ?_ ?_);rfl;rfl|(with_reducible refine Qaa hrs ?_ ?_ ?_);rfl;rfl|(with_reducible refine Qaa hk ?_ ?_ ?_);rfl;rfl)
end Go.Proofs.YtlghoaggenhheaaGreat
