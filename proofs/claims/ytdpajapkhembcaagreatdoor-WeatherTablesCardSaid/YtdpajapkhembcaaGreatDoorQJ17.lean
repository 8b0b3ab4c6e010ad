/-
  QJ15, QJ16, US2, QJ17 (merged for the claim).
-/
import Derived.Test.YtdpajapkhembcaaGreatDoorQJ14
import Derived.Test.YtdpajapkhembcaaGreatDoorUV
import Derived.LaidMore
import Derived.OpenShut
import Derived.Stop.Joined
import Derived.Test.YtdpajapkhembcaaGreatDoorRows
import Derived.Test.YtdpajapkhembcaaGreatDoorTie
import Derived.Test.YtdpajapkhembcaaGreatDoorCards
import Derived.SevenTiedAt
import Derived.LaidSub
import Derived.MakeChecks
import Derived.Lib.LaidTab
set_option linter.unusedSimpArgs false
set_option linter.unusedVariables false
namespace Go.Proofs.YtdpajapkhembcaaGreatDoor
open Go.Vl Go.RowKit Go.Dg
theorem z00:((0:Int)==0)=true:=rfl
theorem z22:((2:Int)==2)=true:=rfl
theorem zn0:(((0:Nat):Int)==0)=true:=rfl
set_option maxHeartbeats 4000000 in
theorem Qo0 (l:List Wd) (s g h:Int) (hl:l.length≤maxLen):Qae Tryz.prog 4 [wsPV l,.int .i64 s,.agg [.int .i64 g,.int .i64 h]] (.bool true):=by
 have hk:=Qfz;have f1:=Qy5 l;by_cases h9:l.length≤9
 case neg=>
  rw [decide_eq_false h9]at f1;refine Qab (tb:=[]) 66 [.tmp 6] [0,1,2,5,6,7,8,9,12,32,43] mixed Tryz.func4 rfl (by kernel_rfl) (by kernel_rfl) (by kernel_rfl) (by kernel_rfl) ?_;repeat (first|(simp -implicitDefEqProofs only [go_sem,seval,Bool.not_false])|((with_reducible refine Qaa f1 ?_ ?_ ?_);rfl;rfl)|((with_reducible refine Qaa hk ?_ ?_ ?_);rfl;rfl))
 rw [decide_eq_true h9]at f1;have f2:=Qrs l s hl;have f3:=Qnc g h;have f4:=Ql4 g h;have f5:=Q66 l (by omega);have f6:=Qfk l hl;generalize rulB g h=b at*;have hb:(b != b)=false:=bne_self_eq_false b;unfold mvPV at f2;have h1:(l.length*88≤140737488355328)=True:=eq_true (by omega);have h2:(l.length≤maxLen)=True:=eq_true hl;have h3:(l.map wdPV).take l.length=l.map wdPV:=List.take_of_length_le (by simp);have h4:=Qt4 l;have h5:=Zoq l;cases hv:Qa9 l with
 |false=>
  rw [hv]at f6;rw [if_neg (fun q=>by rw [hv]at q;exact Bool.false_ne_true q.1)]at f2;by_cases hn:l=[]
  ·subst hn;cases hv
  ·have h0:(l.map wdPV).isEmpty=false:=by cases l with|nil=>exact absurd rfl hn|cons=>rfl
   have a0:=h0
   skip
   refine Qab (tb:=[]) 66 [.tmp 6] [0,1,2,5,6,7,8,9,12,32,43] mixed Tryz.func4 rfl (by kernel_rfl) (by kernel_rfl) (by kernel_rfl) (by kernel_rfl) ?_;repeat (first|(simp -implicitDefEqProofs only [go_sem,seval,h1,h2,h3,h5,z00,z22,decide_true,Bool.not_true,Bool.not_false,List.length_map,List.length_nil,Bool.and_self,Bool.true_and,Bool.and_true])|((with_reducible refine Qaa f1 ?_ ?_ ?_);rfl;rfl)|((with_reducible refine Qaa f2 ?_ ?_ ?_);rfl;rfl)|((with_reducible refine Qaa f3 ?_ ?_ ?_);rfl;rfl)|((with_reducible refine Qaa f4 ?_ ?_ ?_);rfl;rfl)|((with_reducible refine Qaa f5 ?_ ?_ ?_);rfl;rfl)|((with_reducible refine Qaa f6 ?_ ?_ ?_);rfl;rfl)|((with_reducible refine Qaa hk ?_ ?_ ?_);rfl;rfl)|(with_reducible refine And.intro (Qac _ _ (by kernel_rfl)) ?_))
 |true=>
 rw [hv]at f6;by_cases c1:0≤s
 case neg=>
  have a0:(s<0)=True:=eq_true (by omega);rw [if_neg (fun q=>c1 q.2.1)]at f2;by_cases hn:l=[]
  ·subst hn;have h0:=a0;simp only [wsPV,List.map_nil]at*;refine Qab (tb:=[]) 66 [.tmp 6] [0,1,2,5,6,7,8,9,12,32,43] mixed Tryz.func4 rfl (by kernel_rfl) (by kernel_rfl) (by kernel_rfl) (by kernel_rfl) ?_;repeat (first|(simp -implicitDefEqProofs only [go_sem,seval,a0,z00,z22,decide_true,Bool.not_true,List.length_nil,Bool.and_self,Bool.true_and])|((with_reducible refine Qaa f1 ?_ ?_ ?_);rfl;rfl)|((with_reducible refine Qaa f2 ?_ ?_ ?_);rfl;rfl)|((with_reducible refine Qaa f3 ?_ ?_ ?_);rfl;rfl)|((with_reducible refine Qaa f4 ?_ ?_ ?_);rfl;rfl)|((with_reducible refine Qaa f5 ?_ ?_ ?_);rfl;rfl)|((with_reducible refine Qaa f6 ?_ ?_ ?_);rfl;rfl)|((with_reducible refine Qaa hk ?_ ?_ ?_);rfl;rfl)|(with_reducible refine And.intro (Qac _ _ (by kernel_rfl)) ?_))
  ·have h0:(l.map wdPV).isEmpty=false:=by cases l with|nil=>exact absurd rfl hn|cons=>rfl
   skip
   refine Qab (tb:=[]) 66 [.tmp 6] [0,1,2,5,6,7,8,9,12,32,43] mixed Tryz.func4 rfl (by kernel_rfl) (by kernel_rfl) (by kernel_rfl) (by kernel_rfl) ?_;repeat (first|(simp -implicitDefEqProofs only [go_sem,seval,a0,h1,h2,h3,h5,z00,z22,decide_true,Bool.not_true,List.length_map,List.length_nil,Bool.and_self,Bool.true_and,Bool.and_true])|((with_reducible refine Qaa f1 ?_ ?_ ?_);rfl;rfl)|((with_reducible refine Qaa f2 ?_ ?_ ?_);rfl;rfl)|((with_reducible refine Qaa f3 ?_ ?_ ?_);rfl;rfl)|((with_reducible refine Qaa f4 ?_ ?_ ?_);rfl;rfl)|((with_reducible refine Qaa f5 ?_ ?_ ?_);rfl;rfl)|((with_reducible refine Qaa f6 ?_ ?_ ?_);rfl;rfl)|((with_reducible refine Qaa hk ?_ ?_ ?_);rfl;rfl)|(with_reducible refine And.intro (Qac _ _ (by kernel_rfl)) ?_))
 have a1:(s<0)=False:=eq_false (by omega);by_cases c2:s≤3600000
 case neg=>
  have a0:(3600000<s)=True:=eq_true (by omega);rw [if_neg (fun q=>c2 q.2.2)]at f2;by_cases hn:l=[]
  ·subst hn;simp only [wsPV,List.map_nil]at*;refine Qab (tb:=[]) 66 [.tmp 6] [0,1,2,5,6,7,8,9,12,32,43] mixed Tryz.func4 rfl (by kernel_rfl) (by kernel_rfl) (by kernel_rfl) (by kernel_rfl) ?_;repeat (first|(simp -implicitDefEqProofs only [go_sem,seval,a0,a1,z00,z22,decide_true,decide_false,Bool.not_true,List.length_nil,Bool.and_self,Bool.true_and])|((with_reducible refine Qaa f1 ?_ ?_ ?_);rfl;rfl)|((with_reducible refine Qaa f2 ?_ ?_ ?_);rfl;rfl)|((with_reducible refine Qaa f3 ?_ ?_ ?_);rfl;rfl)|((with_reducible refine Qaa f4 ?_ ?_ ?_);rfl;rfl)|((with_reducible refine Qaa f5 ?_ ?_ ?_);rfl;rfl)|((with_reducible refine Qaa f6 ?_ ?_ ?_);rfl;rfl)|((with_reducible refine Qaa hk ?_ ?_ ?_);rfl;rfl)|(with_reducible refine And.intro (Qac _ _ (by kernel_rfl)) ?_))
  ·have h0:(l.map wdPV).isEmpty=false:=by cases l with|nil=>exact absurd rfl hn|cons=>rfl
   skip
   refine Qab (tb:=[]) 66 [.tmp 6] [0,1,2,5,6,7,8,9,12,32,43] mixed Tryz.func4 rfl (by kernel_rfl) (by kernel_rfl) (by kernel_rfl) (by kernel_rfl) ?_;repeat (first|(simp -implicitDefEqProofs only [go_sem,seval,a0,a1,h1,h2,h3,h5,z00,z22,decide_true,decide_false,Bool.not_true,List.length_map,List.length_nil,Bool.and_self,Bool.true_and,Bool.and_true])|((with_reducible refine Qaa f1 ?_ ?_ ?_);rfl;rfl)|((with_reducible refine Qaa f2 ?_ ?_ ?_);rfl;rfl)|((with_reducible refine Qaa f3 ?_ ?_ ?_);rfl;rfl)|((with_reducible refine Qaa f4 ?_ ?_ ?_);rfl;rfl)|((with_reducible refine Qaa f5 ?_ ?_ ?_);rfl;rfl)|((with_reducible refine Qaa f6 ?_ ?_ ?_);rfl;rfl)|((with_reducible refine Qaa hk ?_ ?_ ?_);rfl;rfl)|(with_reducible refine And.intro (Qac _ _ (by kernel_rfl)) ?_))
 have a0:(3600000<s)=False:=eq_false (by omega);rw [if_pos ⟨hv,c1,c2⟩]at f2;have f7:=Qy9 l s hv c1 c2;have f8:=Q66 (Qbm s l) (Nat.le_trans (Qke s l) (by omega));generalize Qbm s l=M at*;by_cases hn:l=[]
 ·subst hn;simp only [wsPV,List.map_nil]at*;refine Qab (tb:=[]) 66 [.tmp 6] [0,1,2,5,6,7,8,9,12,32,43] mixed Tryz.func4 rfl (by kernel_rfl) (by kernel_rfl) (by kernel_rfl) (by kernel_rfl) ?_;repeat (first|(simp -implicitDefEqProofs only [go_sem,seval,a0,a1,z00,decide_false,Bool.not_true,List.length_nil,Bool.and_self,Bool.true_and])|((with_reducible refine Qaa f1 ?_ ?_ ?_);rfl;rfl)|((with_reducible refine Qaa f2 ?_ ?_ ?_);rfl;rfl)|((with_reducible refine Qaa f3 ?_ ?_ ?_);rfl;rfl)|((with_reducible refine Qaa f4 ?_ ?_ ?_);rfl;rfl)|((with_reducible refine Qaa f5 ?_ ?_ ?_);rfl;rfl)|((with_reducible refine Qaa f6 ?_ ?_ ?_);rfl;rfl)|((with_reducible refine Qaa f7 ?_ ?_ ?_);rfl;rfl)|((with_reducible refine Qaa f8 ?_ ?_ ?_);rfl;rfl)|((with_reducible refine Qaa hk ?_ ?_ ?_);rfl;rfl)|(with_reducible refine And.intro (Qac _ _ (by kernel_rfl)) ?_))
 ·have h0:(l.map wdPV).isEmpty=false:=by cases l with|nil=>exact absurd rfl hn|cons=>rfl
  refine Qab (tb:=[]) 66 [.tmp 6] [0,1,2,5,6,7,8,9,12,32,43] mixed Tryz.func4 rfl (by kernel_rfl) (by kernel_rfl) (by kernel_rfl) (by kernel_rfl) ?_;repeat (first|(simp -implicitDefEqProofs only [go_sem,seval,a0,a1,h1,h2,h3,h5,z00,decide_false,Bool.not_true,List.length_map,Bool.and_self,Bool.true_and])|((with_reducible refine Qaa f1 ?_ ?_ ?_);rfl;rfl)|((with_reducible refine Qaa f2 ?_ ?_ ?_);rfl;rfl)|((with_reducible refine Qaa f3 ?_ ?_ ?_);rfl;rfl)|((with_reducible refine Qaa f4 ?_ ?_ ?_);rfl;rfl)|((with_reducible refine Qaa f5 ?_ ?_ ?_);rfl;rfl)|((with_reducible refine Qaa f6 ?_ ?_ ?_);rfl;rfl)|((with_reducible refine Qaa f7 ?_ ?_ ?_);rfl;rfl)|((with_reducible refine Qaa f8 ?_ ?_ ?_);rfl;rfl)|((with_reducible refine Qaa hk ?_ ?_ ?_);rfl;rfl)|(with_reducible refine And.intro (Qac _ _ (by kernel_rfl)) ?_))
set_option maxHeartbeats 4000000 in
theorem Qlo (p:Pg) (B:Bat) (W:List Wd) (g h:Int) (hl:W.length≤maxLen):Qae Tryz.prog 6 [pgV p,baPV B,wsPV W,.agg [.int .i64 g,.int .i64 h]] (.bool true):=by
 skip
 have hk:=Qfz;have f1:=Q7e p;have f2:=Qy5 W;by_cases hq:FewQ p
 case neg=>
  rw [decide_eq_false hq]at f1;unfold pgV baPV at*;refine Qab (tb:=[]) 62 [.tmp 8] [0,1,2,3,4,5,7,8,9,10,11,19,35,37] mixed Tryz.func6 rfl (by kernel_rfl) (by kernel_rfl) (by kernel_rfl) (by kernel_rfl) ?_;repeat (first|(simp -implicitDefEqProofs only [go_sem,seval,Bool.not_false])|((with_reducible refine Qaa f1 ?_ ?_ ?_);rfl;rfl)|((with_reducible refine Qaa hk ?_ ?_ ?_);rfl;rfl))
 rw [decide_eq_true hq]at f1;by_cases h9:W.length≤9
 case neg=>
  rw [decide_eq_false h9]at f2;unfold pgV baPV at*;refine Qab (tb:=[]) 62 [.tmp 8] [0,1,2,3,4,5,7,8,9,10,11,19,35,37] mixed Tryz.func6 rfl (by kernel_rfl) (by kernel_rfl) (by kernel_rfl) (by kernel_rfl) ?_;repeat (first|(simp -implicitDefEqProofs only [go_sem,seval,Bool.not_false,Bool.not_true])|((with_reducible refine Qaa f1 ?_ ?_ ?_);rfl;rfl)|((with_reducible refine Qaa f2 ?_ ?_ ?_);rfl;rfl)|((with_reducible refine Qaa hk ?_ ?_ ?_);rfl;rfl))
 rw [decide_eq_true h9]at f2;have hf:=Qrn hq;have ok:=Qi5 hf;have f3:=Qrt p B W g h hf hl;have f4:=Qnj p B W ok hl;have f5:=Ql4 g h;unfold Q7m decE at f3;cases e0:rulB g h with
 |false=>
  rw [e0]at f3 f5;rw [if_neg Bool.false_ne_true,if_neg (by decide)]at f3;generalize Qck p B W=E at*;unfold pgV baPV at*;refine Qab (tb:=[]) 62 [.tmp 8] [0,1,2,3,4,5,7,8,9,10,11,19,35,37] mixed Tryz.func6 rfl (by kernel_rfl) (by kernel_rfl) (by kernel_rfl) (by kernel_rfl) ?_;repeat (first|(simp -implicitDefEqProofs only [go_sem,seval,z00,z22,n2_0,Bool.not_false,Bool.not_true,Bool.and_self,Bool.true_and])|((with_reducible refine Qaa f1 ?_ ?_ ?_);rfl;rfl)|((with_reducible refine Qaa f2 ?_ ?_ ?_);rfl;rfl)|((with_reducible refine Qaa f3 ?_ ?_ ?_);rfl;rfl)|((with_reducible refine Qaa f4 ?_ ?_ ?_);rfl;rfl)|((with_reducible refine Qaa f5 ?_ ?_ ?_);rfl;rfl)|((with_reducible refine Qaa hk ?_ ?_ ?_);rfl;rfl))
 |true=>
 rw [e0]at f5;rw [if_pos e0]at f3;by_cases e1:Qck p B W=0
 ·rw [e1,if_pos rfl]at f3;rw [e1]at f4;have f6:=Qt7 p B W g h hf e0 e1;generalize decI W B p g h=d at*;unfold pgV baPV at*;refine Qab (tb:=[]) 62 [.tmp 8] [0,1,2,3,4,5,7,8,9,10,11,19,35,37] mixed Tryz.func6 rfl (by kernel_rfl) (by kernel_rfl) (by kernel_rfl) (by kernel_rfl) ?_;repeat (first|(simp -implicitDefEqProofs only [go_sem,seval,n0_0,Bool.not_true,BEq.rfl,Bool.and_self,Bool.true_and])|((with_reducible refine Qaa f1 ?_ ?_ ?_);rfl;rfl)|((with_reducible refine Qaa f2 ?_ ?_ ?_);rfl;rfl)|((with_reducible refine Qaa f3 ?_ ?_ ?_);rfl;rfl)|((with_reducible refine Qaa f4 ?_ ?_ ?_);rfl;rfl)|((with_reducible refine Qaa f5 ?_ ?_ ?_);rfl;rfl)|((with_reducible refine Qaa f6 ?_ ?_ ?_);rfl;rfl)|((with_reducible refine Qaa hk ?_ ?_ ?_);rfl;rfl))
 ·rw [if_neg e1]at f3;have ne:(Qck p B W != 0)=true:=bne_iff_ne.2 e1;generalize Qck p B W=E at*;unfold pgV baPV at*;refine Qab (tb:=[]) 62 [.tmp 8] [0,1,2,3,4,5,7,8,9,10,11,19,35,37] mixed Tryz.func6 rfl (by kernel_rfl) (by kernel_rfl) (by kernel_rfl) (by kernel_rfl) ?_;repeat (first|(simp -implicitDefEqProofs only [go_sem,seval,ne,Bool.not_true,BEq.rfl,Bool.and_self,Bool.true_and])|((with_reducible refine Qaa f1 ?_ ?_ ?_);rfl;rfl)|((with_reducible refine Qaa f2 ?_ ?_ ?_);rfl;rfl)|((with_reducible refine Qaa f3 ?_ ?_ ?_);rfl;rfl)|((with_reducible refine Qaa f4 ?_ ?_ ?_);rfl;rfl)|((with_reducible refine Qaa f5 ?_ ?_ ?_);rfl;rfl)|((with_reducible refine Qaa hk ?_ ?_ ?_);rfl;rfl))
set_option maxHeartbeats 4000000 in
theorem Qo1 (p:Pg) (B:Bat) (W:List Wd) (hl:W.length≤maxLen):Qae Tryz.prog 5 [pgV p,baPV B,wsPV W] (.bool true):=by
 skip
 have hk:=Qfz;have f1:=Q7e p;have f2:=Qy5 W;by_cases hq:FewQ p
 case neg=>
  rw [decide_eq_false hq]at f1;unfold pgV baPV at*;refine Qab (tb:=[]) 105 [.tmp 6] [0,1,2,3,4,6,7,8,9,10,11,12,13,14,22,42,49,58,64,88,92,103] mixed Tryz.func5 rfl (by kernel_rfl) (by kernel_rfl) (by kernel_rfl) (by kernel_rfl) ?_;repeat (first|(simp -implicitDefEqProofs only [go_sem,seval,Bool.not_false])|((with_reducible refine Qaa f1 ?_ ?_ ?_);rfl;rfl)|((with_reducible refine Qaa hk ?_ ?_ ?_);rfl;rfl))
 rw [decide_eq_true hq]at f1;by_cases h9:W.length≤9
 case neg=>
  rw [decide_eq_false h9]at f2;unfold pgV baPV at*;refine Qab (tb:=[]) 105 [.tmp 6] [0,1,2,3,4,6,7,8,9,10,11,12,13,14,22,42,49,58,64,88,92,103] mixed Tryz.func5 rfl (by kernel_rfl) (by kernel_rfl) (by kernel_rfl) (by kernel_rfl) ?_;repeat (first|(simp -implicitDefEqProofs only [go_sem,seval,Bool.not_false,Bool.not_true])|((with_reducible refine Qaa f1 ?_ ?_ ?_);rfl;rfl)|((with_reducible refine Qaa f2 ?_ ?_ ?_);rfl;rfl)|((with_reducible refine Qaa hk ?_ ?_ ?_);rfl;rfl))
 rw [decide_eq_true h9]at f2;have hf:=Qrn hq;have ok:=Qi5 hf;have f3:=Qwf p W hf hl;have f4:=Q7l p B W hf hl;have f5:=Qnj p bat0 W ok hl;have f6:=Qnj p B W ok hl;have hb:baPV bat0= .agg [.int .i64 0,.int .i64 0,.int .i64 0,.int .i64 0,.int .i64 0]:=rfl;rw [hb]at f5;unfold Q7j at f3;unfold shPV at f4;by_cases e0:Qck p bat0 W=0
 case neg=>
  have e1:Qck p B W≠0:=fun q=>e0 (Qzj q);have ne0:(Qck p bat0 W != 0)=true:=bne_iff_ne.2 e0;have ne1:(Qck p B W != 0)=true:=bne_iff_ne.2 e1;rw [if_neg e0]at f3;rw [if_neg e1]at f4;generalize Qck p bat0 W=E0 at*;generalize Qck p B W=E1 at*;unfold pgV baPV at*;refine Qab (tb:=[]) 105 [.tmp 6] [0,1,2,3,4,6,7,8,9,10,11,12,13,14,22,42,49,58,64,88,92,103] mixed Tryz.func5 rfl (by kernel_rfl) (by kernel_rfl) (by kernel_rfl) (by kernel_rfl) ?_;repeat (first|(simp -implicitDefEqProofs only [go_sem,seval,ne0,ne1,bne_self_eq_false,Bool.not_true,BEq.rfl,List.map_nil,List.length_nil,Bool.and_self,Bool.true_and])|((with_reducible refine Qaa f1 ?_ ?_ ?_);rfl;rfl)|((with_reducible refine Qaa f2 ?_ ?_ ?_);rfl;rfl)|((with_reducible refine Qaa f3 ?_ ?_ ?_);rfl;rfl)|((with_reducible refine Qaa f4 ?_ ?_ ?_);rfl;rfl)|((with_reducible refine Qaa f5 ?_ ?_ ?_);rfl;rfl)|((with_reducible refine Qaa f6 ?_ ?_ ?_);rfl;rfl)|((with_reducible refine Qaa hk ?_ ?_ ?_);rfl;rfl))
 obtain⟨v,hw, -,hN⟩:=Qed e0;have f7:=Qzf p W hf v hw hN;rw [e0,if_pos rfl]at f3;rw [e0]at f5;by_cases e1:Qck p B W=0
 case neg=>
  have ne1:(Qck p B W != 0)=true:=bne_iff_ne.2 e1;rw [if_neg e1]at f4;generalize Qck p B W=E1 at*;generalize wstI W p=n at*;unfold pgV baPV at*;refine Qab (tb:=[]) 105 [.tmp 6] [0,1,2,3,4,6,7,8,9,10,11,12,13,14,22,42,49,58,64,88,92,103] mixed Tryz.func5 rfl (by kernel_rfl) (by kernel_rfl) (by kernel_rfl) (by kernel_rfl) ?_;repeat (first|(simp -implicitDefEqProofs only [go_sem,seval,ne1,bne_self_eq_false,Bool.not_true,BEq.rfl,List.map_nil,List.length_nil,Bool.and_self,Bool.true_and])|((with_reducible refine Qaa f1 ?_ ?_ ?_);rfl;rfl)|((with_reducible refine Qaa f2 ?_ ?_ ?_);rfl;rfl)|((with_reducible refine Qaa f3 ?_ ?_ ?_);rfl;rfl)|((with_reducible refine Qaa f4 ?_ ?_ ?_);rfl;rfl)|((with_reducible refine Qaa f5 ?_ ?_ ?_);rfl;rfl)|((with_reducible refine Qaa f6 ?_ ?_ ?_);rfl;rfl)|((with_reducible refine Qaa f7 ?_ ?_ ?_);rfl;rfl)|((with_reducible refine Qaa hk ?_ ?_ ?_);rfl;rfl))
 obtain⟨-, -,hB, -⟩:=Qed e1;have f8:=Qzi p B W hf v hw hB hN;have hle:=Q7k W B p p.ns.length;have hn3:=hq.1;rw [e1,if_pos rfl]at f4;rw [e1]at f6;generalize shL W B p p.ns.length=S at*;generalize wstI W p=n at*;unfold pgV baPV at*;refine Qab (tb:=[]) 105 [.tmp 6] [0,1,2,3,4,6,7,8,9,10,11,12,13,14,22,42,49,58,64,88,92,103] mixed Tryz.func5 rfl (by kernel_rfl) (by kernel_rfl) (by kernel_rfl) (by kernel_rfl) ?_;repeat (first|(simp -implicitDefEqProofs only [go_sem,seval,bne_self_eq_false,Bool.not_true,List.length_map,Bool.and_self,Bool.true_and])|((with_reducible refine Qaa f1 ?_ ?_ ?_);rfl;rfl)|((with_reducible refine Qaa f2 ?_ ?_ ?_);rfl;rfl)|((with_reducible refine Qaa f3 ?_ ?_ ?_);rfl;rfl)|((with_reducible refine Qaa f4 ?_ ?_ ?_);rfl;rfl)|((with_reducible refine Qaa f5 ?_ ?_ ?_);rfl;rfl)|((with_reducible refine Qaa f6 ?_ ?_ ?_);rfl;rfl)|((with_reducible refine Qaa f7 ?_ ?_ ?_);rfl;rfl)|((with_reducible refine Qaa f8 ?_ ?_ ?_);rfl;rfl))
 refine Qav mixed (fun k:{k:Nat // k≤S.length}=>St.of [(9,.slc (S.map (PV.int .i64))),(13,.slc (S.map (PV.int .i64))),(14,.int .i64 (k.1:Int))] []) (fun k=>S.length-k.1) ⟨0,Nat.zero_le _⟩ ?_ ?_
 ·refine Qa1 ?_;simp [Qaf,lkp,ren1,ren0,Qai]
 ·rintro⟨k,hk⟩;simp only;by_cases hA:k<S.length
  ·have hA':=ltT hA;have n0:=nnT k;have hg:=Zq7 S hA;have hwk:=Qam (a:=k) (by omega);generalize S.getD k 1=y at*;repeat (first|(simp -implicitDefEqProofs only [go_sem,seval,hA',n0,hg,hwk,bne_self_eq_false,Int.toNat_natCast,List.length_map])|(with_reducible refine And.intro (Qac _ _ (by kernel_rfl)) ?_))
   refine⟨⟨k+1,hA⟩,by simp only;omega,?_⟩;refine Qa1 ?_;simp [Qaf,lkp,ren1,ren0,Qai]
  ·have hA':=ltF hA;have hk:=Qfz;repeat (first|(simp -implicitDefEqProofs only [go_sem,seval,hA',List.length_map])|((with_reducible refine Qaa hk ?_ ?_ ?_);rfl;rfl))
set_option maxHeartbeats 8000000 in
theorem Qnd (p:Pg) (B:Bat) (W:List Wd) (g h st tr:Int) (hl:W.length≤maxLen):Qae Tryz.prog 7 [pgV p,baPV B,wsPV W,.agg [.int .i64 g,.int .i64 h],.int .i64 st,.int .i64 tr] (.bool true):=by
 skip
 have hk:=Qfz;have f1:=Q7e p;have f2:=Qy5 W;by_cases hq:FewQ p
 case neg=>
  rw [decide_eq_false hq]at f1;unfold pgV baPV at*;refine Qab (tb:=[]) 165 [.tmp 12] [0,1,2,3,4,5,6,7,9,12,13,14,15,16,17,18,19,20,36,87,89,117,121,138,140,143] mixed Tryz.func7 rfl (by kernel_rfl) (by kernel_rfl) (by kernel_rfl) (by kernel_rfl) ?_;repeat (first|(simp -implicitDefEqProofs only [go_sem,seval,Bool.not_false])|((with_reducible refine Qaa f1 ?_ ?_ ?_);rfl;rfl)|((with_reducible refine Qaa hk ?_ ?_ ?_);rfl;rfl))
 rw [decide_eq_true hq]at f1;by_cases h9:W.length≤9
 case neg=>
  rw [decide_eq_false h9]at f2;unfold pgV baPV at*;refine Qab (tb:=[]) 165 [.tmp 12] [0,1,2,3,4,5,6,7,9,12,13,14,15,16,17,18,19,20,36,87,89,117,121,138,140,143] mixed Tryz.func7 rfl (by kernel_rfl) (by kernel_rfl) (by kernel_rfl) (by kernel_rfl) ?_;repeat (first|(simp -implicitDefEqProofs only [go_sem,seval,Bool.not_false,Bool.not_true])|((with_reducible refine Qaa f1 ?_ ?_ ?_);rfl;rfl)|((with_reducible refine Qaa f2 ?_ ?_ ?_);rfl;rfl)|((with_reducible refine Qaa hk ?_ ?_ ?_);rfl;rfl))
 rw [decide_eq_true h9]at f2;have hf:=Qrn hq;have ok:=Qi5 hf;by_cases t6:6<tr
 ·by_cases t7:tr≤100
  ·have t6':=eq_true t6;have t7':=eq_true t7;unfold pgV baPV at*;refine Qab (tb:=[]) 165 [.tmp 12] [0,1,2,3,4,5,6,7,9,12,13,14,15,16,17,18,19,20,36,87,89,117,121,138,140,143] mixed Tryz.func7 rfl (by kernel_rfl) (by kernel_rfl) (by kernel_rfl) (by kernel_rfl) ?_;repeat (first|(simp -implicitDefEqProofs only [go_sem,seval,t6',t7',decide_true,Bool.not_true])|((with_reducible refine Qaa f1 ?_ ?_ ?_);rfl;rfl)|((with_reducible refine Qaa f2 ?_ ?_ ?_);rfl;rfl)|((with_reducible refine Qaa hk ?_ ?_ ?_);rfl;rfl))
  ·have t6':=eq_true t6;have t0:(tr≤100)=False:=eq_false t7;have f3:=Qrf p B W g h st tr hf hl;have f4:=Qrh p B W g h st tr hf hl;have f5:=Qnj p B W ok hl;have f6:=Ql4 g h;have es:staB st tr=false:=by
    unfold staB;rw [decide_eq_false t7];simp
   have eE:tabE W B p g h st tr=2:=by unfold tabE;rw [if_neg (fun q=>by rw [es]at q;exact Bool.false_ne_true q.2)]
   unfold Q1b at f3;unfold winV winE at f4;rw [eE,if_neg (by decide)]at f3;rw [eE,if_neg (by decide),if_neg (by decide)]at f4;have q1:(100<tr)=True:=eq_true (by omega);have q2:(tr<1)=False:=eq_false (by omega);generalize Qck p B W=E at*;by_cases a1:st<1
   ·have a1':=eq_true a1;cases e0:rulB g h with
    |false=>
     rw [e0]at f6
     skip
     unfold pgV baPV at*;refine Qab (tb:=[]) 165 [.tmp 12] [0,1,2,3,4,5,6,7,9,12,13,14,15,16,17,18,19,20,36,87,89,117,121,138,140,143] mixed Tryz.func7 rfl (by kernel_rfl) (by kernel_rfl) (by kernel_rfl) (by kernel_rfl) ?_;repeat (first|(simp -implicitDefEqProofs only [go_sem,seval,t6',t0,n2_0,decide_true,decide_false,Bool.not_false,Bool.not_true,BEq.rfl,List.map_nil,List.length_nil,Bool.and_self,Bool.true_and,Bool.and_true])|((with_reducible refine Qaa f1 ?_ ?_ ?_);rfl;rfl)|((with_reducible refine Qaa f2 ?_ ?_ ?_);rfl;rfl)|((with_reducible refine Qaa f3 ?_ ?_ ?_);rfl;rfl)|((with_reducible refine Qaa f4 ?_ ?_ ?_);rfl;rfl)|((with_reducible refine Qaa f5 ?_ ?_ ?_);rfl;rfl)|((with_reducible refine Qaa f6 ?_ ?_ ?_);rfl;rfl)|((with_reducible refine Qaa hk ?_ ?_ ?_);rfl;rfl))
    |true=>
     rw [e0]at f6
     skip
     unfold pgV baPV at*;refine Qab (tb:=[]) 165 [.tmp 12] [0,1,2,3,4,5,6,7,9,12,13,14,15,16,17,18,19,20,36,87,89,117,121,138,140,143] mixed Tryz.func7 rfl (by kernel_rfl) (by kernel_rfl) (by kernel_rfl) (by kernel_rfl) ?_;repeat (first|(simp -implicitDefEqProofs only [go_sem,seval,t6',a1',t0,n2_0,decide_true,decide_false,Bool.not_true,BEq.rfl,List.map_nil,List.length_nil,Bool.and_self,Bool.true_and,Bool.and_true])|((with_reducible refine Qaa f1 ?_ ?_ ?_);rfl;rfl)|((with_reducible refine Qaa f2 ?_ ?_ ?_);rfl;rfl)|((with_reducible refine Qaa f3 ?_ ?_ ?_);rfl;rfl)|((with_reducible refine Qaa f4 ?_ ?_ ?_);rfl;rfl)|((with_reducible refine Qaa f5 ?_ ?_ ?_);rfl;rfl)|((with_reducible refine Qaa f6 ?_ ?_ ?_);rfl;rfl)|((with_reducible refine Qaa hk ?_ ?_ ?_);rfl;rfl))
   have a1':=eq_false a1;by_cases a2:3600000<st
   ·have a2':=eq_true a2;cases e0:rulB g h with
    |false=>
     rw [e0]at f6
     skip
     unfold pgV baPV at*;refine Qab (tb:=[]) 165 [.tmp 12] [0,1,2,3,4,5,6,7,9,12,13,14,15,16,17,18,19,20,36,87,89,117,121,138,140,143] mixed Tryz.func7 rfl (by kernel_rfl) (by kernel_rfl) (by kernel_rfl) (by kernel_rfl) ?_;repeat (first|(simp -implicitDefEqProofs only [go_sem,seval,t6',t0,n2_0,decide_true,decide_false,Bool.not_false,Bool.not_true,BEq.rfl,List.map_nil,List.length_nil,Bool.and_self,Bool.true_and,Bool.and_true])|((with_reducible refine Qaa f1 ?_ ?_ ?_);rfl;rfl)|((with_reducible refine Qaa f2 ?_ ?_ ?_);rfl;rfl)|((with_reducible refine Qaa f3 ?_ ?_ ?_);rfl;rfl)|((with_reducible refine Qaa f4 ?_ ?_ ?_);rfl;rfl)|((with_reducible refine Qaa f5 ?_ ?_ ?_);rfl;rfl)|((with_reducible refine Qaa f6 ?_ ?_ ?_);rfl;rfl)|((with_reducible refine Qaa hk ?_ ?_ ?_);rfl;rfl))
    |true=>
     rw [e0]at f6
     skip
     unfold pgV baPV at*;refine Qab (tb:=[]) 165 [.tmp 12] [0,1,2,3,4,5,6,7,9,12,13,14,15,16,17,18,19,20,36,87,89,117,121,138,140,143] mixed Tryz.func7 rfl (by kernel_rfl) (by kernel_rfl) (by kernel_rfl) (by kernel_rfl) ?_;repeat (first|(simp -implicitDefEqProofs only [go_sem,seval,t6',a1',a2',t0,n2_0,decide_true,decide_false,Bool.not_true,BEq.rfl,List.map_nil,List.length_nil,Bool.and_self,Bool.true_and,Bool.and_true])|((with_reducible refine Qaa f1 ?_ ?_ ?_);rfl;rfl)|((with_reducible refine Qaa f2 ?_ ?_ ?_);rfl;rfl)|((with_reducible refine Qaa f3 ?_ ?_ ?_);rfl;rfl)|((with_reducible refine Qaa f4 ?_ ?_ ?_);rfl;rfl)|((with_reducible refine Qaa f5 ?_ ?_ ?_);rfl;rfl)|((with_reducible refine Qaa f6 ?_ ?_ ?_);rfl;rfl)|((with_reducible refine Qaa hk ?_ ?_ ?_);rfl;rfl))
   have a2':=eq_false a2;cases e0:rulB g h with
   |false=>
    rw [e0]at f6
    skip
    unfold pgV baPV at*;refine Qab (tb:=[]) 165 [.tmp 12] [0,1,2,3,4,5,6,7,9,12,13,14,15,16,17,18,19,20,36,87,89,117,121,138,140,143] mixed Tryz.func7 rfl (by kernel_rfl) (by kernel_rfl) (by kernel_rfl) (by kernel_rfl) ?_;repeat (first|(simp -implicitDefEqProofs only [go_sem,seval,t6',t0,n2_0,decide_true,decide_false,Bool.not_false,Bool.not_true,BEq.rfl,List.map_nil,List.length_nil,Bool.and_self,Bool.true_and,Bool.and_true])|((with_reducible refine Qaa f1 ?_ ?_ ?_);rfl;rfl)|((with_reducible refine Qaa f2 ?_ ?_ ?_);rfl;rfl)|((with_reducible refine Qaa f3 ?_ ?_ ?_);rfl;rfl)|((with_reducible refine Qaa f4 ?_ ?_ ?_);rfl;rfl)|((with_reducible refine Qaa f5 ?_ ?_ ?_);rfl;rfl)|((with_reducible refine Qaa f6 ?_ ?_ ?_);rfl;rfl)|((with_reducible refine Qaa hk ?_ ?_ ?_);rfl;rfl))
   |true=>
    rw [e0]at f6
    skip
    unfold pgV baPV at*;refine Qab (tb:=[]) 165 [.tmp 12] [0,1,2,3,4,5,6,7,9,12,13,14,15,16,17,18,19,20,36,87,89,117,121,138,140,143] mixed Tryz.func7 rfl (by kernel_rfl) (by kernel_rfl) (by kernel_rfl) (by kernel_rfl) ?_;repeat (first|(simp -implicitDefEqProofs only [go_sem,seval,t6',a1',a2',q1,q2,t0,n2_0,decide_true,decide_false,Bool.not_true,BEq.rfl,List.map_nil,List.length_nil,Bool.and_self,Bool.true_and,Bool.and_true])|((with_reducible refine Qaa f1 ?_ ?_ ?_);rfl;rfl)|((with_reducible refine Qaa f2 ?_ ?_ ?_);rfl;rfl)|((with_reducible refine Qaa f3 ?_ ?_ ?_);rfl;rfl)|((with_reducible refine Qaa f4 ?_ ?_ ?_);rfl;rfl)|((with_reducible refine Qaa f5 ?_ ?_ ?_);rfl;rfl)|((with_reducible refine Qaa f6 ?_ ?_ ?_);rfl;rfl)|((with_reducible refine Qaa hk ?_ ?_ ?_);rfl;rfl))
 have t0:(6<tr)=False:=eq_false t6;have f3:=Qrf p B W g h st tr hf hl;have f4:=Qrh p B W g h st tr hf hl;have f5:=Qnj p B W ok hl;have f6:=Ql4 g h;unfold Q1b at f3;unfold winV winE at f4;by_cases hrs:rulB g h=true∧staB st tr=true
 case neg=>
  have eE:tabE W B p g h st tr=2:=by unfold tabE;rw [if_neg hrs]
  rw [eE,if_neg (by decide)]at f3;rw [eE,if_neg (by decide),if_neg (by decide)]at f4;generalize Qck p B W=E at*;cases e0:rulB g h with
  |false=>
   rw [e0]at f6
   skip
   unfold pgV baPV at*;refine Qab (tb:=[]) 165 [.tmp 12] [0,1,2,3,4,5,6,7,9,12,13,14,15,16,17,18,19,20,36,87,89,117,121,138,140,143] mixed Tryz.func7 rfl (by kernel_rfl) (by kernel_rfl) (by kernel_rfl) (by kernel_rfl) ?_;repeat (first|(simp -implicitDefEqProofs only [go_sem,seval,t0,n2_0,decide_true,decide_false,Bool.not_false,Bool.not_true,BEq.rfl,List.map_nil,List.length_nil,Bool.and_self,Bool.true_and,Bool.and_true])|((with_reducible refine Qaa f1 ?_ ?_ ?_);rfl;rfl)|((with_reducible refine Qaa f2 ?_ ?_ ?_);rfl;rfl)|((with_reducible refine Qaa f3 ?_ ?_ ?_);rfl;rfl)|((with_reducible refine Qaa f4 ?_ ?_ ?_);rfl;rfl)|((with_reducible refine Qaa f5 ?_ ?_ ?_);rfl;rfl)|((with_reducible refine Qaa f6 ?_ ?_ ?_);rfl;rfl)|((with_reducible refine Qaa hk ?_ ?_ ?_);rfl;rfl))
  |true=>
  rw [e0]at f6;by_cases a1:st<1
  ·have a1':=eq_true a1
   skip
   unfold pgV baPV at*;refine Qab (tb:=[]) 165 [.tmp 12] [0,1,2,3,4,5,6,7,9,12,13,14,15,16,17,18,19,20,36,87,89,117,121,138,140,143] mixed Tryz.func7 rfl (by kernel_rfl) (by kernel_rfl) (by kernel_rfl) (by kernel_rfl) ?_;repeat (first|(simp -implicitDefEqProofs only [go_sem,seval,a1',t0,n2_0,decide_true,decide_false,Bool.not_true,BEq.rfl,List.map_nil,List.length_nil,Bool.and_self,Bool.true_and,Bool.and_true])|((with_reducible refine Qaa f1 ?_ ?_ ?_);rfl;rfl)|((with_reducible refine Qaa f2 ?_ ?_ ?_);rfl;rfl)|((with_reducible refine Qaa f3 ?_ ?_ ?_);rfl;rfl)|((with_reducible refine Qaa f4 ?_ ?_ ?_);rfl;rfl)|((with_reducible refine Qaa f5 ?_ ?_ ?_);rfl;rfl)|((with_reducible refine Qaa f6 ?_ ?_ ?_);rfl;rfl)|((with_reducible refine Qaa hk ?_ ?_ ?_);rfl;rfl))
  have a1':=eq_false a1;by_cases a2:3600000<st
  ·have a2':=eq_true a2
   skip
   unfold pgV baPV at*;refine Qab (tb:=[]) 165 [.tmp 12] [0,1,2,3,4,5,6,7,9,12,13,14,15,16,17,18,19,20,36,87,89,117,121,138,140,143] mixed Tryz.func7 rfl (by kernel_rfl) (by kernel_rfl) (by kernel_rfl) (by kernel_rfl) ?_;repeat (first|(simp -implicitDefEqProofs only [go_sem,seval,a1',a2',t0,n2_0,decide_true,decide_false,Bool.not_true,BEq.rfl,List.map_nil,List.length_nil,Bool.and_self,Bool.true_and,Bool.and_true])|((with_reducible refine Qaa f1 ?_ ?_ ?_);rfl;rfl)|((with_reducible refine Qaa f2 ?_ ?_ ?_);rfl;rfl)|((with_reducible refine Qaa f3 ?_ ?_ ?_);rfl;rfl)|((with_reducible refine Qaa f4 ?_ ?_ ?_);rfl;rfl)|((with_reducible refine Qaa f5 ?_ ?_ ?_);rfl;rfl)|((with_reducible refine Qaa f6 ?_ ?_ ?_);rfl;rfl)|((with_reducible refine Qaa hk ?_ ?_ ?_);rfl;rfl))
  have a2':=eq_false a2;by_cases a3:tr<1
  ·have a3':=eq_true a3
   skip
   unfold pgV baPV at*;refine Qab (tb:=[]) 165 [.tmp 12] [0,1,2,3,4,5,6,7,9,12,13,14,15,16,17,18,19,20,36,87,89,117,121,138,140,143] mixed Tryz.func7 rfl (by kernel_rfl) (by kernel_rfl) (by kernel_rfl) (by kernel_rfl) ?_;repeat (first|(simp -implicitDefEqProofs only [go_sem,seval,a1',a2',a3',t0,n2_0,decide_true,decide_false,Bool.not_true,BEq.rfl,List.map_nil,List.length_nil,Bool.and_self,Bool.true_and,Bool.and_true])|((with_reducible refine Qaa f1 ?_ ?_ ?_);rfl;rfl)|((with_reducible refine Qaa f2 ?_ ?_ ?_);rfl;rfl)|((with_reducible refine Qaa f3 ?_ ?_ ?_);rfl;rfl)|((with_reducible refine Qaa f4 ?_ ?_ ?_);rfl;rfl)|((with_reducible refine Qaa f5 ?_ ?_ ?_);rfl;rfl)|((with_reducible refine Qaa f6 ?_ ?_ ?_);rfl;rfl)|((with_reducible refine Qaa hk ?_ ?_ ?_);rfl;rfl))
  have a3':=eq_false a3;have a4':(100<tr)=False:=eq_false (by omega);obtain⟨w1,w2⟩:=Qy7 (st:=st) (tr:=tr) (by omega) (by omega) (by omega) (by omega);have a5:(3600000<(tr-1)*st)=True:=eq_true (by
   refine Int.not_le.1 fun q=>hrs ⟨e0,?_⟩;unfold staB;simp only [Bool.and_eq_true,decide_eq_true_eq];exact⟨by omega,by omega,by omega,by omega,q⟩)
  skip
  unfold pgV baPV at*;refine Qab (tb:=[]) 165 [.tmp 12] [0,1,2,3,4,5,6,7,9,12,13,14,15,16,17,18,19,20,36,87,89,117,121,138,140,143] mixed Tryz.func7 rfl (by kernel_rfl) (by kernel_rfl) (by kernel_rfl) (by kernel_rfl) ?_;repeat (first|(simp -implicitDefEqProofs only [go_sem,seval,a1',a2',a3',a4',a5,w1,w2,t0,n2_0,decide_true,decide_false,Bool.not_true,BEq.rfl,List.map_nil,List.length_nil,Bool.and_self,Bool.true_and,Bool.and_true])|((with_reducible refine Qaa f1 ?_ ?_ ?_);rfl;rfl)|((with_reducible refine Qaa f2 ?_ ?_ ?_);rfl;rfl)|((with_reducible refine Qaa f3 ?_ ?_ ?_);rfl;rfl)|((with_reducible refine Qaa f4 ?_ ?_ ?_);rfl;rfl)|((with_reducible refine Qaa f5 ?_ ?_ ?_);rfl;rfl)|((with_reducible refine Qaa f6 ?_ ?_ ?_);rfl;rfl)|((with_reducible refine Qaa hk ?_ ?_ ?_);rfl;rfl))
 obtain⟨e0,es⟩:=hrs;obtain⟨s1,s2,s3,s4,s5⟩:=Qgw es;obtain⟨w1,w2⟩:=Qy7 s1 s2 s3 s4;rw [e0]at f6;have a1':(st<1)=False:=eq_false (by omega);have a2':(3600000<st)=False:=eq_false (by omega);have a3':(tr<1)=False:=eq_false (by omega);have a4':(100<tr)=False:=eq_false (by omega);have a5:(3600000<(tr-1)*st)=False:=eq_false (by omega);have eE:tabE W B p g h st tr=Qck p B W:=by unfold tabE;rw [if_pos ⟨e0,es⟩]
 rw [eE]at f3 f4;by_cases e1:Qck p B W=0
 case neg=>
  have ne1:(Qck p B W != 0)=true:=bne_iff_ne.2 e1;rw [if_neg e1]at f3;rw [if_neg e1,if_neg e1]at f4;generalize Qck p B W=E at*
  skip
  unfold pgV baPV at*;refine Qab (tb:=[]) 165 [.tmp 12] [0,1,2,3,4,5,6,7,9,12,13,14,15,16,17,18,19,20,36,87,89,117,121,138,140,143] mixed Tryz.func7 rfl (by kernel_rfl) (by kernel_rfl) (by kernel_rfl) (by kernel_rfl) ?_;repeat (first|(simp -implicitDefEqProofs only [go_sem,seval,a1',a2',a3',a4',a5,w1,w2,ne1,t0,decide_true,decide_false,Bool.not_true,BEq.rfl,List.map_nil,List.length_nil,Bool.and_self,Bool.true_and,Bool.and_true])|((with_reducible refine Qaa f1 ?_ ?_ ?_);rfl;rfl)|((with_reducible refine Qaa f2 ?_ ?_ ?_);rfl;rfl)|((with_reducible refine Qaa f3 ?_ ?_ ?_);rfl;rfl)|((with_reducible refine Qaa f4 ?_ ?_ ?_);rfl;rfl)|((with_reducible refine Qaa f5 ?_ ?_ ?_);rfl;rfl)|((with_reducible refine Qaa f6 ?_ ?_ ?_);rfl;rfl)|((with_reducible refine Qaa hk ?_ ?_ ?_);rfl;rfl))
 obtain⟨v,hw,hB,hN⟩:=Qed e1;obtain⟨n,rfl⟩: ∃n:Nat,tr=(n:Int):=⟨tr.toNat,by omega⟩;rw [e1,if_pos rfl,Int.toNat_natCast]at f3;rw [e1,if_pos rfl,if_pos rfl,Int.toNat_natCast]at f4;rw [e1]at f5;have hT:=Qi8 W B p g h st n;have hget:=fun i hi=>Zff W B p g h st (k:=n) (i:=i) hi;have hM:=fun i hi=>Qy9 W ((i:Nat)*st) hw (Ql5 es (i:=i) hi).1 (Ql5 es (i:=i) hi).2;have hD:=fun i hi=>Qt7 p B (Qbm ((i:Nat)*st) W) g h hf e0 (Qy8 e1 (Ql5 es (i:=i) hi).1);have hw3:IntKind.i64.wrap ((n:Int)-1)=(n:Int)-1:=w1;have hc:=Qrg (tabL W B p g h st n) n (by omega);have hfs:=fun k hk=>Q65 (xs:=tabL W B p g h st n) (k:=k) hk;rw [hT]at hc hfs;unfold winI at f4;have bn:(((n:Nat):Int) != (n:Int))=false:=bne_self_eq_false _;have nm1:IntKind.i64.wrap (-1)= -1:=rfl;have hTl:((tabL W B p g h st n).map (PV.int .i64)).length=n:=by rw [List.length_map,hT]
 have hg1:=fun i hi=>Zq7 (tabL W B p g h st n) (i:=i) (by rw [hT];exact hi);generalize tabL W B p g h st n=T at*;generalize hV:(if fz T n<0 then(0:Int)else fz T n*st)=V at*;generalize hEv:(if fz T n<0 then(9:Int)else 0)=Ev at*;unfold pgV baPV at*;refine Qab (tb:=[]) 165 [.tmp 12] [0,1,2,3,4,5,6,7,9,12,13,14,15,16,17,18,19,20,36,87,89,117,121,138,140,143] mixed Tryz.func7 rfl (by kernel_rfl) (by kernel_rfl) (by kernel_rfl) (by kernel_rfl) ?_;repeat (first|(simp -implicitDefEqProofs only [go_sem,seval,t0,a1',a2',a3',a4',a5,w1,w2,n0_0,hTl,bn,decide_false,decide_true,Bool.not_true])|((with_reducible refine Qaa f1 ?_ ?_ ?_);rfl;rfl)|((with_reducible refine Qaa f2 ?_ ?_ ?_);rfl;rfl)|((with_reducible refine Qaa f3 ?_ ?_ ?_);rfl;rfl)|((with_reducible refine Qaa f4 ?_ ?_ ?_);rfl;rfl)|((with_reducible refine Qaa f5 ?_ ?_ ?_);rfl;rfl)|((with_reducible refine Qaa f6 ?_ ?_ ?_);rfl;rfl))
 refine Qav mixed (fun j:{j:Nat // j≤n}=>St.of [(2,wsPV W),(4,.int .i64 st),(6,.bp 0 3 0 0),(7,.bp 1 5 0 0),(9,.bp 2 2 0 0),(13,.slc (T.map (PV.int .i64))),(15,.int .i64 V),(16,.int .i64 Ev),(18,.int .i64 (fz T (n-j.1))),(19,.int .i64 ((j.1:Int)-1))] [(0,{els:=[.agg [.slc (p.ns.map PV.str),.slc (p.hs.map v3PV),.slc (p.as_.map acV)]],esz:=3,ety:=26,fro:=0,live:=true,arr:=false}),(1,{els:=[.agg [.int .i64 B.base,.int .i64 B.climb,.int .i64 B.drag,.int .i64 B.cap,.int .i64 B.res]],esz:=5,ety:=28,fro:=0,live:=true,arr:=false}),(2,{els:=[.agg [.int .i64 g,.int .i64 h]],esz:=2,ety:=31,fro:=0,live:=true,arr:=false})]) (fun j=>j.1) ⟨n,Nat.le_refl _⟩ ?_ ?_
 ·rw [Nat.sub_self,show fz T 0= -1 from rfl];refine Qan (θ:=[(0,0),(1,1),(2,2)]) rfl ?_ ?_
  ·simp [Qaf,lkp,ren1,ren0,Qai]
  ·exact⟨⟨rfl,rfl,rfl,rfl,rfl,.inr ⟨rfl,_,_,rfl,rfl,rfl,rfl⟩⟩,⟨rfl,rfl,rfl,rfl,rfl,.inr ⟨rfl,_,_,rfl,rfl,rfl,rfl⟩⟩,⟨rfl,rfl,rfl,rfl,rfl,.inr ⟨rfl,_,_,rfl,rfl,rfl,rfl⟩⟩,trivial⟩
 ·rintro⟨j,hj⟩;simp only;cases j with
  |zero=>
   have j0:((0:Int)≤((0:Nat):Int)-1)=False:=eq_false (by omega);rw [Nat.sub_zero];rcases hc with e|⟨k,hk,e⟩
   ·rw [e]at hV hEv ⊢;rw [if_pos (by decide)]at hV hEv;subst hV hEv;have z99:((9:Int)==9)=true:=rfl;have hk:=Qfz;repeat (first|(simp -implicitDefEqProofs only [go_sem,seval,z00,z99,decide_true,decide_false,Bool.true_and])|((with_reducible refine Qaa hk ?_ ?_ ?_);rfl;rfl))
   ·rw [e]at hV hEv ⊢;rw [if_neg (by omega)]at hV hEv;subst hV hEv;have k0:((k:Int)<0)=False:=eq_false (by omega);have wk:=Qre s1 s2 (i:=k) (by omega);have hk:=Qfz;repeat (first|(simp -implicitDefEqProofs only [go_sem,seval,k0,wk,BEq.rfl,decide_true,decide_false,Bool.true_and])|((with_reducible refine Qaa hk ?_ ?_ ?_);rfl;rfl))
  |succ i=>
   have ej:((i+1:Nat):Int)-1=(i:Int):=by omega
   rw [ej];have j1:((0:Int)≤(i:Int))=True:=eq_true (by omega);have hi:(i:Int)<(n:Int):=by omega
   have hA':=ltT (show i<n by omega);have hMi:=hM i hi;have hDi:=hD i hi;have hgi:=hg1 i (by omega);have hdi:=hget i (by omega);have hfi:=hfs i (by omega);have wi:=Qre s1 s2 (i:=i) (by omega);have wd:IntKind.i64.wrap ((i:Int)-1)=(i:Int)-1:=Qag (by omega) (by omega);have n0:=nnT i;rw [hdi]at hgi hfi;generalize decI (Qbm ((i:Int)*st) W) B p g h=d at*;generalize Qbm ((i:Int)*st) W=MW at*;by_cases hd:d=0
   ·subst hd;rw [if_pos rfl]at hfi;repeat (first|(simp -implicitDefEqProofs only [go_sem,seval,j1,hgi,wi,wd,z00,bne_self_eq_false,Int.toNat_natCast])|((with_reducible refine Qaa hMi ?_ ?_ ?_);rfl;rfl)|((with_reducible refine Qaa hDi ?_ ?_ ?_);rfl;rfl)|(with_reducible refine And.intro (Qac _ _ (by kernel_rfl)) ?_))
    refine⟨⟨i,by omega⟩,by simp only;omega,?_⟩;simp only [hfi];refine Qan (θ:=[(0,0),(1,1),(2,2)]) rfl ?_ ?_
    ·simp [Qaf,lkp,ren1,ren0,Qai]
    ·exact⟨⟨rfl,rfl,rfl,rfl,rfl,.inr ⟨rfl,_,_,rfl,rfl,rfl,rfl⟩⟩,⟨rfl,rfl,rfl,rfl,rfl,.inr ⟨rfl,_,_,rfl,rfl,rfl,rfl⟩⟩,⟨rfl,rfl,rfl,rfl,rfl,.inr ⟨rfl,_,_,rfl,rfl,rfl,rfl⟩⟩,trivial⟩
   ·have hd':(d==0)=false:=beq_eq_false_iff_ne.2 hd;rw [if_neg hd]at hfi;repeat (first|(simp -implicitDefEqProofs only [go_sem,seval,j1,hgi,wi,wd,hd',bne_self_eq_false,Int.toNat_natCast])|((with_reducible refine Qaa hMi ?_ ?_ ?_);rfl;rfl)|((with_reducible refine Qaa hDi ?_ ?_ ?_);rfl;rfl)|(with_reducible refine And.intro (Qac _ _ (by kernel_rfl)) ?_))
    refine⟨⟨i,by omega⟩,by simp only;omega,?_⟩;simp only [hfi];refine Qan (θ:=[(0,0),(1,1),(2,2)]) rfl ?_ ?_
    ·simp [Qaf,lkp,ren1,ren0,Qai]
    ·exact⟨⟨rfl,rfl,rfl,rfl,rfl,.inr ⟨rfl,_,_,rfl,rfl,rfl,rfl⟩⟩,⟨rfl,rfl,rfl,rfl,rfl,.inr ⟨rfl,_,_,rfl,rfl,rfl,rfl⟩⟩,⟨rfl,rfl,rfl,rfl,rfl,.inr ⟨rfl,_,_,rfl,rfl,rfl,rfl⟩⟩,trivial⟩
end Go.Proofs.YtdpajapkhembcaaGreatDoor

namespace Go.Vl
open Go.RowKit
section
variable {H:Type} {enc:TypeId×Value→H}
theorem Qdp {a:Assume} {C:Checked} {os:Os} {f:FuncId} {fn:Func} {s:ChangeSpec} {conds:List PathCond} {apart fresh handsOn again:Bool} {tb:TypeId} {L:List (String×DataW Unit)} (tts:List TT)
  (own:ownKnob C.prog.godebug=none) (started:os.Started) (noInit:C.prog.inits.idxOf? f=none) (hfn:C.prog.funcs[f]? =some fn)
  (witness: ∃(w:World) (tape:Tape) (i:Input),w.os=os∧(w.forCall tape i).Shaped C.prog∧i.vars=[]∧Input.okWide C.prog (w.forCall tape i) .any w.heap.size f i∧
   ((s.pre enc C.prog fn conds apart (w.forCall tape i).memory i.args∧laidMetH C.prog L (w.forCall tape i).memory)∧sizedMet enc C.prog fn (OpenSpec.ofChange s) apart (w.forCall tape i).memory i.args)∧a.holds C.prog (lone (Frame.enter C.prog f i.args .normal) [] (w.forCall tape i)))
  (hl:laidOutB C.prog=true) (hvars:s.vars=[]) (hres:fn.resultTypes= #[tb]) (hbool:C.prog.underlying tb=some .bool) (hts:(fn.params.toList.all fun t=>C.prog.readableRec t&&decide (t<C.prog.types.size))=true)
  (hfit:Qkt C.prog tts fn.params.toList=true) (hs: ∀ds:List (DataW H),ds.length=tts.length→s.fn H ds={results:=[.lit (.bool true)],args:=ds})
  (hcl:callable C.prog f=true) (hlay: ∀W:World,laidMetH C.prog L W→Laid C.prog W.heap.size W) (law: ∀pvs,Qx9 tts pvs→Qae C.prog f pvs (.bool true)):
  ReturnsInHanded a C os f .any (fun w args=>(s.pre enc C.prog fn conds apart w args∧laidMetH C.prog L w)∧sizedMet enc C.prog fn (OpenSpec.ofChange s) apart w args) (s.post enc C.prog fn apart fresh handsOn again):=by
 refine returnsInHanded_of_change_and (X:=fun w _=>laidMetH C.prog L w) (fun _ _ _ hh h=>h.of_heap hh) own started noInit hfn witness ?_;intro W base args ds gs before hval hW q1 q2 q3 q4;have hW':=hW;obtain⟨p,q,hA,hV,rfl,hz,hn⟩:=hW;rw [hvars]at hV;obtain⟨rfl,rfl⟩:=ChangeShapes.trodVars_none hV;obtain⟨pvs,h1,h2,h3⟩:=Q0o tts fn.params.toList args.toList ds p hfit (fun j t v e1 e2=>hval j t v (by simpa using e1) (by simpa using e2)) hA;have hts': ∀t∈fn.params.toList,C.prog.readableRec t=true∧t<C.prog.types.size:=by
  intro t ht;have:=List.all_eq_true.1 hts t ht;simpa using this
 have hcall:=((law pvs h1).resolve_right (fun x=>by rw [hcl]at x;cases x.1)).2 W (exIm W) args.toList W.heap.size (Nat.le_refl _) (hlay W (by first|exact q1|exact q2|exact q3|exact q4)) h2 (fun g j x=>x);refine(by simpa using hcall:Calls C.prog f args W _).mono ?_;rintro e W' ⟨v,rfl,hb,hr⟩;have hv:v= .bool true:=by cases hr;rfl
 subst hv;exact⟨_,rfl,Qya hl hvars hres hbool hts' hW' (by rw [List.append_nil];exact hs ds h3) hb⟩
end
end Go.Vl

namespace Go.Proofs.YtdpajapkhembcaaGreatDoor
open Go.Vl Go.RowKit Go.Dg
theorem own:ownKnob Tryz.prog.godebug=none:=by kernel_rfl
theorem Qrj:laidOutB Tryz.prog=true:=by kernel_rfl
def Qne:List (String×DataW Unit):=[("math/bits.deBruijn32tab",Rows.laid_math_bits_deBruijn32tab),("math/bits.deBruijn64tab",Rows.laid_math_bits_deBruijn64tab)]
theorem Ql7 (os:Os) (args:Array Value):laidMetH Tryz.prog Qne ((World.doorLaid Tryz.prog 62 os).forCall (fun _ _=>0) ⟨#[],args,[]⟩).memory:=
 laidMetH_of_parts3 (fuel:=8) (laidMet_of_run' 8 (by kernel_rfl) (by kernel_rfl)) (by kernel_rfl) (by kernel_rfl)
def Q69:List Int:=Go.Lib.deBruijn64tab.map fun(z:Nat)=>(z:Int)
theorem hlay (W:World) (h:laidMetH Tryz.prog Qne W):Laid Tryz.prog W.heap.size W:=by
 rintro nm tab (⟨rfl,rfl⟩|⟨rfl,rfl⟩) g hg
 ·have e:Tryz.prog.globalNamed Zcl=none:=by kernel_rfl
  rw [e]at hg;cases hg
 obtain rfl:g=1:=Option.some.inj (hg.symm.trans (by kernel_rfl));have hf:=h.filter (fun x=>x.1==Qnx);have e:Qne.filter (fun x=>x.1==Qnx)=[(Qnx,Lib.tabData .u8 Q69)]:=by kernel_rfl
 rw [e,MakeChecks.laidMetH_plain _ _ _ (by kernel_rfl)]at hf;have ht:Lib.TabIs Tryz.prog W Qnx .u8 Q69:=Lib.tabIs_of_head (g:=1) (t:=184) (e:=5) (n:=64) (by kernel_rfl) (by kernel_rfl) (by kernel_rfl) (by kernel_rfl) (by kernel_rfl) (by kernel_rfl) hf;have e2:(Q69.map fun z=>Value.int .u8 z).toArray=Zcm:=by kernel_rfl
 unfold Lib.TabIs at ht;rw [e2]at ht;refine⟨?_,ht⟩;simp only [World.var?,hg,Option.bind_some]at ht;cases hh:W.heap[(1:Nat)]? with
 |none=>rw [hh]at ht;cases ht
 |some o=>exact(Array.getElem?_eq_some_iff.1 hh).1
theorem Zfh {k:IntKind} {c:List PV} (h:Qb3 (.int k) c): ∃n:Int,TT.mk (.int k) c= .int k n∧(Lit.int k n).wf=true:=by
 simp only [Qb3]at h;obtain⟨x,rfl,hx⟩:=h;exact⟨x,rfl,hx⟩
theorem Qen {n:Int} (h:(Lit.int .i64 n).wf=true): -9223372036854775808≤n∧n≤9223372036854775807:=by
 have:=h;simp [Lit.wf,IntKind.min,IntKind.max,IntKind.signed,IntKind.bits]at this;omega
theorem Qrk {c:List PV} (h:Qb3 (.int .i64) c): ∃n:Int,TT.mk (.int .i64) c= .int .i64 n∧i64 n:=by
 obtain⟨n,e,w⟩:=Zfh h;exact⟨n,e,Qen w⟩
theorem Qnf {e:TT} {α:Type} {f:α→PV} (hf: ∀c,Qb3 e c→ ∃a,e.mk c=f a): ∀ess:List (List PV),(∀c∈ess,Qb3 e c)→ ∃l:List α,ess.map e.mk=l.map f∧l.length=ess.length
 | [],_=>⟨[],rfl,rfl⟩
 |c::cs,h=>by
  obtain⟨a,ha⟩:=hf c (h c (by simp));obtain⟨l,hl,hn⟩:=Qnf hf cs (fun c hc=>h c (by simp [hc]));exact⟨a::l,by simp [ha,hl],by simp [hn]⟩
def vecT:TT:= .agg [.int .i64,.int .i64,.int .i64]
def Q7a:TT:= .agg [vecT,.int .i64,.int .i64,.int .i64]
def actT:TT:= .agg [.str,.int .i64,.slc Q7a]
def Q1d:TT:= .agg [.slc .str,.slc vecT,.slc actT]
def Q1e:TT:= .agg [.int .i64,.int .i64]
theorem Zfi {c:List PV} (h:Qb3 .str c): ∃s:ByteArray,TT.mk .str c= .str s:=by
 simp only [Qb3]at h;obtain⟨s,rfl,hs⟩:=h;exact⟨s,rfl⟩
theorem Zfj {c:List PV} (h:Qb3 vecT c): ∃v:V3,vecT.mk c=v3PV v:=by
 simp only [vecT,Qb3,Qdq]at h;obtain⟨_,_,rfl,⟨x,rfl,_⟩,_,_,rfl,⟨y,rfl,_⟩,_,_,rfl,⟨z,rfl,_⟩,rfl⟩:=h;exact⟨⟨x,y,z⟩,rfl⟩
theorem Q7b {c:List PV} (h:Qb3 Q7a c): ∃m:Mv,Q7a.mk c=mvV m:=by
 simp only [Q7a,vecT,Qb3,Qdq]at h;obtain⟨_,_,rfl,⟨_,_,rfl,⟨x,rfl,_⟩,_,_,rfl,⟨y,rfl,_⟩,_,_,rfl,⟨z,rfl,_⟩,rfl⟩,_,_,rfl,⟨w,rfl,_⟩,_,_,rfl,⟨f,rfl,_⟩,_,_,rfl,⟨r,rfl,_⟩,rfl⟩:=h;exact⟨⟨⟨x,y,z⟩,w,f,r⟩,rfl⟩
theorem Zfk {c:List PV} (h:Qb3 actT c): ∃a:Ac,actT.mk c=acV a:=by
 simp only [actT,Qb3,Qdq]at h;obtain⟨_,_,rfl,⟨s,rfl,_⟩,_,_,rfl,⟨n,rfl,_⟩,_,_,rfl,⟨em,rfl,mm,hm⟩,rfl⟩:=h;obtain⟨l,e,_⟩:=Qnf (f:=mvV) (fun c h=>Q7b h) em hm;refine⟨⟨s,n,l⟩,?_⟩;show PV.agg [.str s,.int .i64 n,.slc (em.map Q7a.mk)]=_;rw [e];rfl
theorem Qng {c:List PV} (h:Qb3 Q1d c): ∃p:Pg,Q1d.mk c=pgV p:=by
 simp only [Q1d,Qdq]at h;rw [Qb3]at h;simp only [Qdq]at h;obtain⟨_,_,rfl,hn,_,_,rfl,hh,_,_,rfl,ha,rfl⟩:=h;rw [Qb3]at hn hh ha;obtain⟨en,rfl,mn,hn⟩:=hn;obtain⟨eh,rfl,mh,hh⟩:=hh;obtain⟨ea,rfl,ma,ha⟩:=ha;obtain⟨ns,e1,_⟩:=Qnf (f:=PV.str) (fun c h=>Zfi h) en hn;obtain⟨hs,e2,_⟩:=Qnf (f:=v3PV) (fun c h=>Zfj h) eh hh;obtain⟨as_,e3,_⟩:=Qnf (f:=acV) (fun c h=>Zfk h) ea ha;refine⟨⟨ns,hs,as_⟩,?_⟩;show PV.agg [.slc (en.map (TT.mk .str)),.slc (eh.map vecT.mk),.slc (ea.map actT.mk)]=_;rw [e1,e2,e3];rfl
theorem Qnh {c:List PV} (h:Qb3 Q1e c): ∃a b:Int,Q1e.mk c= .agg [.int .i64 a,.int .i64 b]:=by
 simp only [Q1e,Qb3,Qdq]at h;obtain⟨_,_,rfl,⟨x,rfl,_⟩,_,_,rfl,⟨y,rfl,_⟩,rfl⟩:=h;exact⟨x,y,rfl⟩
def batT:TT:= .agg [.int .i64,.int .i64,.int .i64,.int .i64,.int .i64]
theorem Qrl {c:List PV} (h:Qb3 batT c): ∃B:Bat,batT.mk c=baPV B∧okBat B:=by
 simp only [batT,Qb3,Qdq]at h;obtain⟨_,_,rfl,⟨a,rfl,ha⟩,_,_,rfl,⟨b,rfl,hb⟩,_,_,rfl,⟨d,rfl,hd⟩,_,_,rfl,⟨e,rfl,he⟩,_,_,rfl,⟨f,rfl,hf⟩,rfl⟩:=h;exact⟨⟨a,b,d,e,f⟩,rfl,Qen ha,Qen hb,Qen hd,Qen he,Qen hf⟩
def Qni:TT:= .agg [vecT,vecT,.int .i64,.int .i64,vecT]
theorem Q7c {c:List PV} (h:Qb3 Qni c): ∃w:Wd,Qni.mk c=wdPV w:=by
 simp only [Qni,vecT,Qb3,Qdq]at h;obtain⟨_,_,rfl,⟨_,_,rfl,⟨a1,rfl,_⟩,_,_,rfl,⟨a2,rfl,_⟩,_,_,rfl,⟨a3,rfl,_⟩,rfl⟩,_,_,rfl,⟨_,_,rfl,⟨b1,rfl,_⟩,_,_,rfl,⟨b2,rfl,_⟩,_,_,rfl,⟨b3,rfl,_⟩,rfl⟩,_,_,rfl,⟨f,rfl,_⟩,_,_,rfl,⟨t,rfl,_⟩,
  _,_,rfl,⟨_,_,rfl,⟨u1,rfl,_⟩,_,_,rfl,⟨u2,rfl,_⟩,_,_,rfl,⟨u3,rfl,_⟩,rfl⟩,rfl⟩:=h
 exact⟨⟨a1,a2,a3,b1,b2,b3,f,t,u1,u2,u3⟩,rfl⟩
theorem Qhr {c:List PV} (h:Qb3 (.slc Qni) c): ∃l:List Wd,TT.mk (.slc Qni) c=wsPV l∧l.length≤maxLen:=by
 simp only [Qb3]at h;obtain⟨ess,rfl,hm,h⟩:=h;have key: ∀ess:List (List PV),(∀c∈ess,Qb3 Qni c)→ ∃l:List Wd,ess.map Qni.mk=l.map wdPV∧l.length=ess.length:=by
  intro ess
  induction ess with
  |nil=>exact fun _=>⟨[],rfl,rfl⟩
  |cons c cs ih=>
   intro h;obtain⟨s,e⟩:=Q7c (h c (by simp));obtain⟨l,hl,hn⟩:=ih (fun c hc=>h c (by simp [hc]));exact⟨s::l,by simp [e,hl],by simp [hn]⟩
 obtain⟨l,e,hn⟩:=key ess h;exact⟨l,by simp only [TT.mk,List.headD_cons];rw [e],by omega⟩
def Q7d:Value:= .agg #[.slice none 0 0,.slice none 0 0,.slice none 0 0]
def Qrm:Value:= .agg #[.int .i64 0,.int .i64 0]
def Qwd:Value:= .agg #[.int .i64 0,.int .i64 0,.int .i64 0,.int .i64 0,.int .i64 0]
end Go.Proofs.YtdpajapkhembcaaGreatDoor
