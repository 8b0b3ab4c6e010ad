/-
  OE1, OE2, OE3, OE4, OE5, OE6, UZ, Bn, UYD, By, UZ2, UYB, UYBG, UYC, UFd (merged for the claim).
-/
import Derived.Test.YtnohfmdlaajpbaaGreatULD
import Derived.Test.YtnohfmdlaajpbaaGreatDgm
import Derived.Test.YtnohfmdlaajpbaaGreatUYG
import Derived.Test.YtnohfmdlaajpbaaGreatUV
set_option linter.unusedSimpArgs false
set_option linter.unusedVariables false
namespace Go.Proofs.YtnohfmdlaajpbaaGreat
open Go.Vl Go.RowKit Go.Dg
theorem Z3w:Qb4 Tryz.prog 52=some [1,1,1]:=by kernel_rfl
def rcV (r:Rc):PV:= .agg [.int .i64 r.t,.int .i64 r.a,.int .i64 r.k,.int .i64 r.v.x,.int .i64 r.v.y,.int .i64 r.v.z,.int .i64 r.s,.int .i64 r.fk,.int .i64 r.ff,.int .i64 r.ft,.int .i64 r.fs,.slc [],.int .u32 r.u]
def frV (k f t s:Int):PV:= .agg [.int .i64 k,.int .i64 f,.int .i64 t,.int .i64 s,.slc []]
theorem Q42 (n a b:Int):Qaf Tryz.prog 91 [.int .i64 n,.int .i64 a,.int .i64 b] (.bool (wiB n a b)):=by
 skip
 unfold wiB;by_cases h:a≤n
 ·have h':=eq_true h;rw [decide_eq_true h,Bool.true_and];refine Qab (tb:=[]) 15 [.tmp 6] [0,1,2,6] mixed Tryz.func91 rfl (by kernel_rfl) ?_;repeat simp -implicitDefEqProofs only [go_sem,seval,h',decide_true]
 ·have h':=eq_false h;rw [decide_eq_false h,Bool.false_and];refine Qab (tb:=[]) 15 [.tmp 6] [0,1,2,6] mixed Tryz.func91 rfl (by kernel_rfl) ?_;repeat simp -implicitDefEqProofs only [go_sem,seval,h',decide_false]
theorem Zek (n a b:Int):Qaf Tryz.prog 115 [.int .i64 n,.int .i64 a,.int .i64 b] (.bool (wiB n a b)):=by
 skip
 unfold wiB;by_cases h:a≤n
 ·have h':=eq_true h;rw [decide_eq_true h,Bool.true_and];refine Qab (tb:=[]) 15 [.tmp 6] [0,1,2,6] mixed Tryz.func115 rfl (by kernel_rfl) ?_;repeat simp -implicitDefEqProofs only [go_sem,seval,h',decide_true]
 ·have h':=eq_false h;rw [decide_eq_false h,Bool.false_and];refine Qab (tb:=[]) 15 [.tmp 6] [0,1,2,6] mixed Tryz.func115 rfl (by kernel_rfl) ?_;repeat simp -implicitDefEqProofs only [go_sem,seval,h',decide_false]
theorem Quv (n a b:Int):Qaf Tryz.prog 35 [.int .i64 n,.int .i64 a,.int .i64 b] (.bool (wiB n a b)):=by
 skip
 unfold wiB;by_cases h:a≤n
 ·have h':=eq_true h;rw [decide_eq_true h,Bool.true_and];refine Qab (tb:=[]) 15 [.tmp 6] [0,1,2,6] mixed Tryz.func35 rfl (by kernel_rfl) ?_;repeat simp -implicitDefEqProofs only [go_sem,seval,h',decide_true]
 ·have h':=eq_false h;rw [decide_eq_false h,Bool.false_and];refine Qab (tb:=[]) 15 [.tmp 6] [0,1,2,6] mixed Tryz.func35 rfl (by kernel_rfl) ?_;repeat simp -implicitDefEqProofs only [go_sem,seval,h',decide_false]
theorem Zel:Qaf Tryz.prog 90 [.slc []] (.slc []):=by
 have h1:(0*1≤140737488355328)=True:=eq_true (by omega);have h2:(0≤maxLen)=True:=eq_true (by unfold maxLen;omega);refine Qab (tb:=[]) 8 [.tmp 2] [0,2,4] mixed Tryz.func90 rfl (by kernel_rfl) ?_;repeat simp -implicitDefEqProofs only [go_sem,seval,List.isEmpty_nil,h1,h2]
theorem Zn9 (r:Rc):Qaf Tryz.prog 70 [rcV r] (rcV r):=by
 have h:=Zel;unfold rcV;refine Qab (tb:=[]) 10 [.cell 2 60] [0,1,2] mixed Tryz.func70 rfl (by kernel_rfl) ?_;repeat (first|simp -implicitDefEqProofs only [go_sem,seval]|(with_reducible refine Qaa h ?_ ?_ ?_);rfl;rfl)
theorem Z3x:Qo4 BinOp.eql {data:= #[]} {data:= #[]}=some (.bool true):=by simp [Qo4]
theorem Z1h:Qaf Tryz.prog 76 [.slc [],.slc []] (.bool true):=by
 refine Qab (tb:=[]) 10 [.tmp 4] [0,1,4] mixed Tryz.func76 rfl (by kernel_rfl) ?_;repeat simp -implicitDefEqProofs only [go_sem,seval,Qdm,Option.map_some]
theorem Zp5 (v:V3):(decide (max (max v.x v.y) v.z≤1048576)&&decide (-1048576≤min (min v.x v.y) v.z))=ptB v:=by
 have h:(max (max v.x v.y) v.z≤1048576∧ -1048576≤min (min v.x v.y) v.z)↔ptB v=true:=by
  simp only [ptB,inB,Bool.and_eq_true,Bool.not_eq_true',Bool.or_eq_false_iff,decide_eq_false_iff_not];omega
 cases e:ptB v with
 |true=>
  obtain⟨h1,h2⟩:=h.2 e;rw [decide_eq_true h1,decide_eq_true h2];rfl
 |false=>
  cases e1:(decide (max (max v.x v.y) v.z≤1048576)&&decide (-1048576≤min (min v.x v.y) v.z))with
  |false=>rfl
  |true=>
   simp only [Bool.and_eq_true,decide_eq_true_eq]at e1;rw [h.1 e1]at e;cases e
set_option maxRecDepth 100000 in
theorem Zem (v:V3):Qaf Tryz.prog 92 [.agg [.int .i64 v.x,.int .i64 v.y,.int .i64 v.z]] (.bool (ptB v)):=by
 rw [←Zp5 v];by_cases h:max (max v.x v.y) v.z≤1048576
 ·have h':=eq_true h;rw [decide_eq_true h,Bool.true_and];refine Qab (tb:=[]) 21 [.tmp 2] [0,1,2] mixed Tryz.func92 rfl (by kernel_rfl) ?_;repeat simp -implicitDefEqProofs only [go_sem,seval,Znt,Zdz,h',decide_true]
 ·have h':=eq_false h;rw [decide_eq_false h,Bool.false_and];refine Qab (tb:=[]) 21 [.tmp 2] [0,1,2] mixed Tryz.func92 rfl (by kernel_rfl) ?_;repeat simp -implicitDefEqProofs only [go_sem,seval,Znt,Zdz,h',decide_false]
theorem bq (a b:Int):decide (a=b)=(a==b):=by
 by_cases h:a=b
 ·rw [decide_eq_true h];exact(beq_iff_eq.2 h).symm
 ·rw [decide_eq_false h];exact(beq_eq_false_iff_ne.2 h).symm
def frQ (k f t s k' f' t' s':Int):Bool:=(k==k')&&((f==f')&&((t==t')&&(s==s')))
set_option maxRecDepth 100000 in
theorem Zp6 (k f t s k' f' t' s':Int):Qaf Tryz.prog 54 [frV k f t s,frV k' f' t' s'] (.bool (frQ k f t s k' f' t' s')):=by
 have hb:=Z1h;unfold frQ frV;cases h1:(k==k')with
 |false=>
  refine Qab (tb:=[]) 38 [.tmp 4] [0,1,2,3,4] mixed Tryz.func54 rfl (by kernel_rfl) ?_;repeat simp -implicitDefEqProofs only [go_sem,seval,h1,Bool.false_and]
 |true=>
 cases h2:(f==f')with
 |false=>
  refine Qab (tb:=[]) 38 [.tmp 4] [0,1,2,3,4] mixed Tryz.func54 rfl (by kernel_rfl) ?_;repeat simp -implicitDefEqProofs only [go_sem,seval,h1,h2,Bool.false_and,Bool.true_and]
 |true=>
 cases h3:(t==t')with
 |false=>
  refine Qab (tb:=[]) 38 [.tmp 4] [0,1,2,3,4] mixed Tryz.func54 rfl (by kernel_rfl) ?_;repeat simp -implicitDefEqProofs only [go_sem,seval,h1,h2,h3,Bool.false_and,Bool.true_and]
 |true=>
 cases h4:(s==s')with
 |false=>
  refine Qab (tb:=[]) 38 [.tmp 4] [0,1,2,3,4] mixed Tryz.func54 rfl (by kernel_rfl) ?_;repeat simp -implicitDefEqProofs only [go_sem,seval,h1,h2,h3,h4,Bool.true_and]
 |true=>
  refine Qab (tb:=[]) 38 [.tmp 4] [0,1,2,3,4] mixed Tryz.func54 rfl (by kernel_rfl) ?_;repeat (first|simp -implicitDefEqProofs only [go_sem,seval,h1,h2,h3,h4,Bool.true_and]|(with_reducible refine Qaa hb ?_ ?_ ?_);rfl;rfl)
set_option maxRecDepth 100000 in
theorem Qsh (k f t s:Int):Qaf Tryz.prog 93 [frV k f t s] (.bool (frB k f t s)):=by
 have w1:=Zek s 0 65535;have w2:=Zek f 1 64;have w3:=Zek t 1 64;have c0:((64:Int)<((0:Nat):Int))=False:=eq_false (by omega);unfold frB frV;cases hs:wiB s 0 65535 with
 |false=>
  rw [hs]at w1;refine Qab (tb:=[]) 42 [.tmp 2] [0,1,2,3,4,14,20,28,29] mixed Tryz.func93 rfl (by kernel_rfl) ?_;repeat (first|simp -implicitDefEqProofs only [go_sem,seval,Bool.not_false,Bool.not_true,Bool.false_and,Bool.true_and]|(with_reducible refine Qaa w1 ?_ ?_ ?_);rfl;rfl)
 |true=>
 rw [hs]at w1;cases h8:(k==8)with
 |true=>
  have e:=beq_iff_eq.1 h8;rw [if_pos (.inl e)];cases ht:(t==0)with
  |true=>
   rw [decide_eq_true (beq_iff_eq.1 ht)];refine Qab (tb:=[]) 42 [.tmp 2] [0,1,2,3,4,14,20,28,29] mixed Tryz.func93 rfl (by kernel_rfl) ?_;repeat (first|simp -implicitDefEqProofs only [go_sem,seval,h8,ht,List.length_nil,c0,Bool.not_true,Bool.true_and]|(with_reducible refine Qaa w1 ?_ ?_ ?_);rfl;rfl|(with_reducible refine Qaa w2 ?_ ?_ ?_);rfl;rfl|(with_reducible refine And.intro (Qad _ _ (by kernel_rfl)) ?_))
  |false=>
   rw [decide_eq_false (beq_eq_false_iff_ne.1 ht)];refine Qab (tb:=[]) 42 [.tmp 2] [0,1,2,3,4,14,20,28,29] mixed Tryz.func93 rfl (by kernel_rfl) ?_;repeat (first|simp -implicitDefEqProofs only [go_sem,seval,h8,ht,List.length_nil,c0,Bool.not_true,Bool.false_and,Bool.true_and]|(with_reducible refine Qaa w1 ?_ ?_ ?_);rfl;rfl|(with_reducible exact Qad _ _ (by kernel_rfl))|(with_reducible refine And.intro (Qad _ _ (by kernel_rfl)) ?_))
 |false=>
 cases h9:(k==9)with
 |true=>
  have e:=beq_iff_eq.1 h9;rw [if_pos (.inr e)];cases ht:(t==0)with
  |true=>
   rw [decide_eq_true (beq_iff_eq.1 ht)];refine Qab (tb:=[]) 42 [.tmp 2] [0,1,2,3,4,14,20,28,29] mixed Tryz.func93 rfl (by kernel_rfl) ?_;repeat (first|simp -implicitDefEqProofs only [go_sem,seval,h8,h9,ht,List.length_nil,c0,Bool.not_true,Bool.true_and]|(with_reducible refine Qaa w1 ?_ ?_ ?_);rfl;rfl|(with_reducible refine Qaa w2 ?_ ?_ ?_);rfl;rfl|(with_reducible refine And.intro (Qad _ _ (by kernel_rfl)) ?_))
  |false=>
   rw [decide_eq_false (beq_eq_false_iff_ne.1 ht)];refine Qab (tb:=[]) 42 [.tmp 2] [0,1,2,3,4,14,20,28,29] mixed Tryz.func93 rfl (by kernel_rfl) ?_;repeat (first|simp -implicitDefEqProofs only [go_sem,seval,h8,h9,ht,List.length_nil,c0,Bool.not_true,Bool.false_and,Bool.true_and]|(with_reducible refine Qaa w1 ?_ ?_ ?_);rfl;rfl|(with_reducible exact Qad _ _ (by kernel_rfl))|(with_reducible refine And.intro (Qad _ _ (by kernel_rfl)) ?_))
 |false=>
 rw [if_neg (by rintro(e|e);exact beq_eq_false_iff_ne.1 h8 e;exact beq_eq_false_iff_ne.1 h9 e)];by_cases h1:k<1
 ·have h1':=eq_true h1;rw [decide_eq_false (show¬1≤k by omega)];refine Qab (tb:=[]) 42 [.tmp 2] [0,1,2,3,4,14,20,28,29] mixed Tryz.func93 rfl (by kernel_rfl) ?_;repeat (first|simp -implicitDefEqProofs only [go_sem,seval,h8,h9,h1',decide_true,List.length_nil,c0,Bool.not_true,Bool.false_and,Bool.true_and]|(with_reducible refine Qaa w1 ?_ ?_ ?_);rfl;rfl|(with_reducible exact Qad _ _ (by kernel_rfl)))
 have h1':=eq_false h1;rw [decide_eq_true (show 1≤k by omega)];by_cases h7:7<k
 ·have h7':=eq_true h7;rw [decide_eq_false (show¬k≤7 by omega)];refine Qab (tb:=[]) 42 [.tmp 2] [0,1,2,3,4,14,20,28,29] mixed Tryz.func93 rfl (by kernel_rfl) ?_;repeat (first|simp -implicitDefEqProofs only [go_sem,seval,h8,h9,h1',h7',decide_true,decide_false,List.length_nil,c0,Bool.not_true,Bool.false_and,Bool.true_and]|(with_reducible refine Qaa w1 ?_ ?_ ?_);rfl;rfl|(with_reducible exact Qad _ _ (by kernel_rfl)))
 have h7':=eq_false h7;rw [decide_eq_true (show k≤7 by omega)];cases hf:(f==0)with
 |true=>
  rw [decide_eq_true (beq_iff_eq.1 hf)];refine Qab (tb:=[]) 42 [.tmp 2] [0,1,2,3,4,14,20,28,29] mixed Tryz.func93 rfl (by kernel_rfl) ?_;repeat (first|simp -implicitDefEqProofs only [go_sem,seval,h8,h9,h1',h7',hf,decide_true,decide_false,List.length_nil,c0,Bool.not_true,Bool.true_and]|(with_reducible refine Qaa w1 ?_ ?_ ?_);rfl;rfl|(with_reducible refine Qaa w3 ?_ ?_ ?_);rfl;rfl|(with_reducible refine And.intro (Qad _ _ (by kernel_rfl)) ?_))
 |false=>
  rw [decide_eq_false (beq_eq_false_iff_ne.1 hf)];refine Qab (tb:=[]) 42 [.tmp 2] [0,1,2,3,4,14,20,28,29] mixed Tryz.func93 rfl (by kernel_rfl) ?_;repeat (first|simp -implicitDefEqProofs only [go_sem,seval,h8,h9,h1',h7',hf,decide_true,decide_false,List.length_nil,c0,Bool.not_true,Bool.false_and,Bool.true_and]|(with_reducible refine Qaa w1 ?_ ?_ ?_);rfl;rfl|(with_reducible exact Qad _ _ (by kernel_rfl)))
theorem Z1o (k f t s:Int):frQ k f t s 0 0 0 0=silB k f t s:=by simp only [frQ,silB,bq]
theorem v0_q (v:V3):decide (v=v0)=(v.x==0&&(v.y==0&&v.z==0)):=by
 cases h:(v.x==0&&(v.y==0&&v.z==0))with
 |true=>
  simp only [Bool.and_eq_true,beq_iff_eq]at h;obtain⟨x,y,z⟩:=v;simp only at h;obtain⟨rfl,rfl,rfl⟩:=h;rfl
 |false=>
  refine decide_eq_false ?_;rintro rfl;cases h
set_option maxHeartbeats 4000000 in
set_option maxRecDepth 100000 in
theorem Zob (r:Rc):Qaf Tryz.prog 71 [rcV r] (.bool (recB r)):=by
 have wt:=Q42 r.t 0 3600000;have wa:=Q42 r.a 0 64;have ws:=Zp6 r.fk r.ff r.ft r.fs 0 0 0 0;have wp:=Zem r.v;have wf:=Qsh r.fk r.ff r.ft r.fs;have wl7:=Q42 r.s 0 7;have wl9:=Q42 r.s 0 9;rw [Z1o]at ws;unfold recB Rc.sil Rc.fr;rw [v0_q];obtain⟨t,a,k,v,s,fk,ff,ft,fs,u⟩:=r;unfold frV at ws wf;simp only at*;unfold rcV;simp only;generalize silB fk ff ft fs=SIL at*;generalize frB fk ff ft fs=FRB at*;generalize ptB v=PTB at*;obtain⟨x,y,z⟩:=v;simp only at*;generalize hV:(x==0&&(y==0&&z==0))=V0 at*;cases ht:wiB t 0 3600000 with
 |false=>
  rw [ht]at wt;refine Qab (tb:=[]) 90 [.tmp 2] [0,1,2,3,4,5,6,16,29,30,46,50,62] mixed Tryz.func71 rfl (by kernel_rfl) ?_;repeat (first|simp -implicitDefEqProofs only [go_sem,seval,Bool.not_false,Bool.not_true,Bool.false_and,Bool.true_and,Bool.and_true]|(with_reducible refine Qaa wt ?_ ?_ ?_);rfl;rfl)
 |true=>
 rw [ht]at wt;cases ha:wiB a 0 64 with
 |false=>
  rw [ha]at wa;refine Qab (tb:=[]) 90 [.tmp 2] [0,1,2,3,4,5,6,16,29,30,46,50,62] mixed Tryz.func71 rfl (by kernel_rfl) ?_;repeat (first|simp -implicitDefEqProofs only [go_sem,seval,Bool.not_false,Bool.not_true,Bool.false_and,Bool.true_and,Bool.and_true,Bool.and_false]|(with_reducible refine Qaa wt ?_ ?_ ?_);rfl;rfl|(with_reducible refine Qaa wa ?_ ?_ ?_);rfl;rfl)
 |true=>
 rw [ha]at wa;rw [bq s 0,bq ff a,bq ft a];simp only [Bool.true_and];cases k1:(k==1)with
 |true=>
  rw [if_pos (beq_iff_eq.1 k1)];by_cases h0:0<a
  case neg=>
   have h0':=eq_false h0;rw [decide_eq_false h0];refine Qab (tb:=[]) 90 [.tmp 2] [0,1,2,3,4,5,6,16,29,30,46,50,62] mixed Tryz.func71 rfl (by kernel_rfl) ?_;repeat (first|simp -implicitDefEqProofs only [go_sem,seval,hV,k1,h0',decide_false,Bool.not_true,Bool.false_and,Bool.true_and,Bool.and_true]|(with_reducible refine Qaa wt ?_ ?_ ?_);rfl;rfl|(with_reducible refine Qaa wa ?_ ?_ ?_);rfl;rfl|(with_reducible refine Qaa ws ?_ ?_ ?_);rfl;rfl|(with_reducible exact Qad _ _ (by kernel_rfl)))
  have h0':=eq_true h0;rw [decide_eq_true h0];cases PTB with
  |false=>
   refine Qab (tb:=[]) 90 [.tmp 2] [0,1,2,3,4,5,6,16,29,30,46,50,62] mixed Tryz.func71 rfl (by kernel_rfl) ?_;repeat (first|simp -implicitDefEqProofs only [go_sem,seval,hV,k1,h0',decide_true,Bool.not_true,Bool.false_and,Bool.true_and,Bool.and_true,Bool.and_false]|(with_reducible refine Qaa wt ?_ ?_ ?_);rfl;rfl|(with_reducible refine Qaa wa ?_ ?_ ?_);rfl;rfl|(with_reducible refine Qaa ws ?_ ?_ ?_);rfl;rfl|(with_reducible refine Qaa wp ?_ ?_ ?_);rfl;rfl|(with_reducible refine And.intro (Qad _ _ (by kernel_rfl)) ?_))
  |true=>
  cases hs0:(s==0)with
  |false=>
   refine Qab (tb:=[]) 90 [.tmp 2] [0,1,2,3,4,5,6,16,29,30,46,50,62] mixed Tryz.func71 rfl (by kernel_rfl) ?_;repeat (first|simp -implicitDefEqProofs only [go_sem,seval,hV,k1,h0',hs0,decide_true,Bool.not_true,Bool.false_and,Bool.true_and,Bool.and_true,Bool.and_false]|(with_reducible refine Qaa wt ?_ ?_ ?_);rfl;rfl|(with_reducible refine Qaa wa ?_ ?_ ?_);rfl;rfl|(with_reducible refine Qaa ws ?_ ?_ ?_);rfl;rfl|(with_reducible refine Qaa wp ?_ ?_ ?_);rfl;rfl|(with_reducible refine And.intro (Qad _ _ (by kernel_rfl)) ?_))
  |true=>
   refine Qab (tb:=[]) 90 [.tmp 2] [0,1,2,3,4,5,6,16,29,30,46,50,62] mixed Tryz.func71 rfl (by kernel_rfl) ?_;repeat (first|simp -implicitDefEqProofs only [go_sem,seval,hV,k1,h0',hs0,decide_true,Bool.not_true,Bool.true_and,Bool.and_true]|(with_reducible refine Qaa wt ?_ ?_ ?_);rfl;rfl|(with_reducible refine Qaa wa ?_ ?_ ?_);rfl;rfl|(with_reducible refine Qaa ws ?_ ?_ ?_);rfl;rfl|(with_reducible refine Qaa wp ?_ ?_ ?_);rfl;rfl|(with_reducible refine And.intro (Qad _ _ (by kernel_rfl)) ?_))
 |false=>
 rw [if_neg (beq_eq_false_iff_ne.1 k1)];cases k2:(k==2)with
 |true=>
  rw [if_pos (beq_iff_eq.1 k2)];cases a0:(a==0)with
  |true=>
   rw [if_pos (beq_iff_eq.1 a0)];cases h9:wiB s 0 9 with
   |false=>
    rw [h9]at wl9;refine Qab (tb:=[]) 90 [.tmp 2] [0,1,2,3,4,5,6,16,29,30,46,50,62] mixed Tryz.func71 rfl (by kernel_rfl) ?_;repeat (first|simp -implicitDefEqProofs only [go_sem,seval,hV,k1,k2,a0,Bool.not_true,Bool.false_and,Bool.true_and,Bool.and_true]|(with_reducible refine Qaa wt ?_ ?_ ?_);rfl;rfl|(with_reducible refine Qaa wa ?_ ?_ ?_);rfl;rfl|(with_reducible refine Qaa ws ?_ ?_ ?_);rfl;rfl|(with_reducible refine Qaa wl9 ?_ ?_ ?_);rfl;rfl|(with_reducible refine And.intro (Qad _ _ (by kernel_rfl)) ?_))
   |true=>
    rw [h9]at wl9;cases V0 with
    |false=>
     refine Qab (tb:=[]) 90 [.tmp 2] [0,1,2,3,4,5,6,16,29,30,46,50,62] mixed Tryz.func71 rfl (by kernel_rfl) ?_;repeat (first|simp -implicitDefEqProofs only [go_sem,seval,hV,k1,k2,a0,Bool.not_false,Bool.not_true,Bool.false_and,Bool.true_and,Bool.and_true,Bool.and_false]|(with_reducible refine Qaa wt ?_ ?_ ?_);rfl;rfl|(with_reducible refine Qaa wa ?_ ?_ ?_);rfl;rfl|(with_reducible refine Qaa ws ?_ ?_ ?_);rfl;rfl|(with_reducible refine Qaa wl9 ?_ ?_ ?_);rfl;rfl|(with_reducible refine And.intro (Qad _ _ (by kernel_rfl)) ?_))
    |true=>
     refine Qab (tb:=[]) 90 [.tmp 2] [0,1,2,3,4,5,6,16,29,30,46,50,62] mixed Tryz.func71 rfl (by kernel_rfl) ?_;repeat (first|simp -implicitDefEqProofs only [go_sem,seval,hV,k1,k2,a0,Bool.not_false,Bool.not_true,Bool.true_and,Bool.and_true]|(with_reducible refine Qaa wt ?_ ?_ ?_);rfl;rfl|(with_reducible refine Qaa wa ?_ ?_ ?_);rfl;rfl|(with_reducible refine Qaa ws ?_ ?_ ?_);rfl;rfl|(with_reducible refine Qaa wl9 ?_ ?_ ?_);rfl;rfl|(with_reducible refine And.intro (Qad _ _ (by kernel_rfl)) ?_))
  |false=>
   rw [if_neg (beq_eq_false_iff_ne.1 a0)];cases h7:wiB s 0 7 with
   |false=>
    rw [h7]at wl7;refine Qab (tb:=[]) 90 [.tmp 2] [0,1,2,3,4,5,6,16,29,30,46,50,62] mixed Tryz.func71 rfl (by kernel_rfl) ?_;repeat (first|simp -implicitDefEqProofs only [go_sem,seval,hV,k1,k2,a0,Bool.not_true,Bool.false_and,Bool.true_and,Bool.and_true]|(with_reducible refine Qaa wt ?_ ?_ ?_);rfl;rfl|(with_reducible refine Qaa wa ?_ ?_ ?_);rfl;rfl|(with_reducible refine Qaa ws ?_ ?_ ?_);rfl;rfl|(with_reducible refine Qaa wl7 ?_ ?_ ?_);rfl;rfl|(with_reducible refine And.intro (Qad _ _ (by kernel_rfl)) ?_))
   |true=>
    rw [h7]at wl7;cases V0 with
    |false=>
     refine Qab (tb:=[]) 90 [.tmp 2] [0,1,2,3,4,5,6,16,29,30,46,50,62] mixed Tryz.func71 rfl (by kernel_rfl) ?_;repeat (first|simp -implicitDefEqProofs only [go_sem,seval,hV,k1,k2,a0,Bool.not_false,Bool.not_true,Bool.false_and,Bool.true_and,Bool.and_true,Bool.and_false]|(with_reducible refine Qaa wt ?_ ?_ ?_);rfl;rfl|(with_reducible refine Qaa wa ?_ ?_ ?_);rfl;rfl|(with_reducible refine Qaa ws ?_ ?_ ?_);rfl;rfl|(with_reducible refine Qaa wl7 ?_ ?_ ?_);rfl;rfl|(with_reducible refine And.intro (Qad _ _ (by kernel_rfl)) ?_))
    |true=>
     refine Qab (tb:=[]) 90 [.tmp 2] [0,1,2,3,4,5,6,16,29,30,46,50,62] mixed Tryz.func71 rfl (by kernel_rfl) ?_;repeat (first|simp -implicitDefEqProofs only [go_sem,seval,hV,k1,k2,a0,Bool.not_false,Bool.not_true,Bool.true_and,Bool.and_true]|(with_reducible refine Qaa wt ?_ ?_ ?_);rfl;rfl|(with_reducible refine Qaa wa ?_ ?_ ?_);rfl;rfl|(with_reducible refine Qaa ws ?_ ?_ ?_);rfl;rfl|(with_reducible refine Qaa wl7 ?_ ?_ ?_);rfl;rfl|(with_reducible refine And.intro (Qad _ _ (by kernel_rfl)) ?_))
 |false=>
 rw [if_neg (beq_eq_false_iff_ne.1 k2)];cases k3:(k==3)with
 |false=>
  rw [if_neg (beq_eq_false_iff_ne.1 k3)];refine Qab (tb:=[]) 90 [.tmp 2] [0,1,2,3,4,5,6,16,29,30,46,50,62] mixed Tryz.func71 rfl (by kernel_rfl) ?_;repeat (first|simp -implicitDefEqProofs only [go_sem,seval,hV,k1,k2,k3,Bool.not_true,Bool.true_and,Bool.and_true]|(with_reducible refine Qaa wt ?_ ?_ ?_);rfl;rfl|(with_reducible refine Qaa wa ?_ ?_ ?_);rfl;rfl|(with_reducible refine Qaa ws ?_ ?_ ?_);rfl;rfl|(with_reducible exact Qad _ _ (by kernel_rfl)))
 |true=>
  rw [if_pos (beq_iff_eq.1 k3)];cases FRB with
  |false=>
   refine Qab (tb:=[]) 90 [.tmp 2] [0,1,2,3,4,5,6,16,29,30,46,50,62] mixed Tryz.func71 rfl (by kernel_rfl) ?_;repeat (first|simp -implicitDefEqProofs only [go_sem,seval,hV,k1,k2,k3,Bool.not_true,Bool.false_and,Bool.true_and,Bool.and_true]|(with_reducible refine Qaa wt ?_ ?_ ?_);rfl;rfl|(with_reducible refine Qaa wa ?_ ?_ ?_);rfl;rfl|(with_reducible refine Qaa ws ?_ ?_ ?_);rfl;rfl|(with_reducible refine Qaa wf ?_ ?_ ?_);rfl;rfl|(with_reducible refine And.intro (Qad _ _ (by kernel_rfl)) ?_))
  |true=>
  cases f1:(ff==a)with
  |true=>
   cases V0 with
   |false=>
    refine Qab (tb:=[]) 90 [.tmp 2] [0,1,2,3,4,5,6,16,29,30,46,50,62] mixed Tryz.func71 rfl (by kernel_rfl) ?_;repeat (first|simp -implicitDefEqProofs only [go_sem,seval,hV,k1,k2,k3,f1,Bool.true_or,Bool.not_false,Bool.not_true,Bool.false_and,Bool.true_and,Bool.and_true,Bool.and_false]|(with_reducible refine Qaa wt ?_ ?_ ?_);rfl;rfl|(with_reducible refine Qaa wa ?_ ?_ ?_);rfl;rfl|(with_reducible refine Qaa ws ?_ ?_ ?_);rfl;rfl|(with_reducible refine Qaa wf ?_ ?_ ?_);rfl;rfl|(with_reducible refine And.intro (Qad _ _ (by kernel_rfl)) ?_))
   |true=>
    refine Qab (tb:=[]) 90 [.tmp 2] [0,1,2,3,4,5,6,16,29,30,46,50,62] mixed Tryz.func71 rfl (by kernel_rfl) ?_;repeat (first|simp -implicitDefEqProofs only [go_sem,seval,hV,k1,k2,k3,f1,Bool.true_or,Bool.not_false,Bool.not_true,Bool.true_and,Bool.and_true]|(with_reducible refine Qaa wt ?_ ?_ ?_);rfl;rfl|(with_reducible refine Qaa wa ?_ ?_ ?_);rfl;rfl|(with_reducible refine Qaa ws ?_ ?_ ?_);rfl;rfl|(with_reducible refine Qaa wf ?_ ?_ ?_);rfl;rfl|(with_reducible refine And.intro (Qad _ _ (by kernel_rfl)) ?_))
  |false=>
   cases f2:(ft==a)with
   |false=>
    refine Qab (tb:=[]) 90 [.tmp 2] [0,1,2,3,4,5,6,16,29,30,46,50,62] mixed Tryz.func71 rfl (by kernel_rfl) ?_;repeat (first|simp -implicitDefEqProofs only [go_sem,seval,hV,k1,k2,k3,f1,f2,Bool.or_self,Bool.not_true,Bool.false_and,Bool.true_and,Bool.and_true,Bool.and_false]|(with_reducible refine Qaa wt ?_ ?_ ?_);rfl;rfl|(with_reducible refine Qaa wa ?_ ?_ ?_);rfl;rfl|(with_reducible refine Qaa ws ?_ ?_ ?_);rfl;rfl|(with_reducible refine Qaa wf ?_ ?_ ?_);rfl;rfl|(with_reducible refine And.intro (Qad _ _ (by kernel_rfl)) ?_))
   |true=>
    cases V0 with
    |false=>
     refine Qab (tb:=[]) 90 [.tmp 2] [0,1,2,3,4,5,6,16,29,30,46,50,62] mixed Tryz.func71 rfl (by kernel_rfl) ?_;repeat (first|simp -implicitDefEqProofs only [go_sem,seval,hV,k1,k2,k3,f1,f2,Bool.or_true,Bool.not_false,Bool.not_true,Bool.false_and,Bool.true_and,Bool.and_true,Bool.and_false]|(with_reducible refine Qaa wt ?_ ?_ ?_);rfl;rfl|(with_reducible refine Qaa wa ?_ ?_ ?_);rfl;rfl|(with_reducible refine Qaa ws ?_ ?_ ?_);rfl;rfl|(with_reducible refine Qaa wf ?_ ?_ ?_);rfl;rfl|(with_reducible refine And.intro (Qad _ _ (by kernel_rfl)) ?_))
    |true=>
     refine Qab (tb:=[]) 90 [.tmp 2] [0,1,2,3,4,5,6,16,29,30,46,50,62] mixed Tryz.func71 rfl (by kernel_rfl) ?_;repeat (first|simp -implicitDefEqProofs only [go_sem,seval,hV,k1,k2,k3,f1,f2,Bool.or_true,Bool.not_false,Bool.not_true,Bool.true_and,Bool.and_true]|(with_reducible refine Qaa wt ?_ ?_ ?_);rfl;rfl|(with_reducible refine Qaa wa ?_ ?_ ?_);rfl;rfl|(with_reducible refine Qaa ws ?_ ?_ ?_);rfl;rfl|(with_reducible refine Qaa wf ?_ ?_ ?_);rfl;rfl|(with_reducible refine And.intro (Qad _ _ (by kernel_rfl)) ?_))
theorem nnE (i:Nat):((0:Int)≤(i:Int))=True:=by simp
theorem ltE {i n:Nat} (h:i<n):((i:Int)<(n:Int))=True:=by simp only [eq_iff_iff,iff_true];omega
theorem ltE' {i n:Nat} (h: ¬i<n):((i:Int)<(n:Int))=False:=by simp only [eq_iff_iff,iff_false];omega
theorem wrE {n:Nat} (h:n<9223372036854775807):IntKind.i64.wrap ((n:Int)+1)=((n+1:Nat):Int):=by rw [Qag (by omega) (by omega)];omega
theorem ig_E (l:List Int) (i:Nat) (h:i<l.length):(l.map (PV.int .i64))[i]? =some (.int .i64 l[i]):=by rw [List.getElem?_map,List.getElem?_eq_getElem h];rfl
theorem ub_E (l:List Int) (i:Nat) (h:i<l.length):(l.map (PV.int .u8))[i]? =some (.int .u8 l[i]):=by rw [List.getElem?_map,List.getElem?_eq_getElem h];rfl
theorem Zod (l:List Int):(((l.map (PV.int .u8)).flatMap PV.cells).all PV.okCell)=true:=by
 rw [List.all_flatMap,List.all_map,List.all_eq_true];intro _ _;rfl
theorem Zxl (l:List Int):((l.map (PV.int .u8)).all fun e=>e.cells.length==1&&e.cells.all PV.okCell)=true:=by
 rw [List.all_map,List.all_eq_true];intro _ _;rfl
theorem Zqf (n:Int) (h:0≤n∧n≤4294967295):Qaf Tryz.prog 119 [.int .i64 n] (.bool false):=by
 have w:=Zek n 0 4294967295;rw [Qb7.2 h]at w;refine Qab (tb:=[]) 6 [.tmp 2] [0,2] mixed Tryz.func119 rfl (by kernel_rfl) ?_;repeat (first|simp -implicitDefEqProofs only [go_sem,seval,Bool.not_true]|(with_reducible refine Qaa w ?_ ?_ ?_);rfl;rfl)
theorem Zxm (l:List Int) (hl:l.length≤16) (h: ∀n∈l,0≤n∧n≤4294967295):Qaf Tryz.prog 139 [.slc (l.map (PV.int .i64)),.fn 119 [] []] (.int .i64 (-1)):=by
 refine Qab (tb:=[]) 19 [.tmp 4] [0,1,4,5,7,8,9,16] mixed Tryz.func139 rfl (by kernel_rfl) ?_;repeat simp -implicitDefEqProofs only [go_sem,seval,List.length_map]
 refine Qas mixed (fun k:{k:Nat // k≤l.length}=>St.of [(0,.slc (l.map (PV.int .i64))),(1,.fn 119 [] []),(7,.int .i64 (l.length:Int)),(8,.int .i64 (k.1:Int))] []) (fun k=>l.length-k.1) ⟨0,Nat.zero_le _⟩ ?_ ?_
 ·refine Qa0 ?_;simp [Qac,lkp,ren1,ren0,Qah]
 ·rintro⟨k,hk⟩;simp only;by_cases hA:k<l.length
  ·have hA':=ltE hA;have n0:=nnE k;have hg:=ig_E l k hA;have hw:=wrE (n:=k) (by omega);have hp:=Zqf l[k] (h _ (List.getElem_mem hA));repeat (first|simp -implicitDefEqProofs only [go_sem,seval,hA',n0,hg,hw,Int.toNat_natCast]|(with_reducible refine Qaa hp ?_ ?_ ?_);rfl;rfl)
   refine⟨⟨k+1,hA⟩,by simp only;omega,?_⟩;refine Qa0 ?_;simp [Qac,lkp,ren1,ren0,Qah]
  ·have hA':=ltE' hA;repeat simp -implicitDefEqProofs only [go_sem,seval,hA']
theorem Zxn (l:List Int) (hl:l.length≤16) (h: ∀n∈l,0≤n∧n≤4294967295):Qaf Tryz.prog 118 [.slc (l.map (PV.int .i64)),.fn 119 [] []] (.bool false):=by
 have w:=Zxm l hl h;refine Qab (tb:=[]) 9 [.tmp 4] [0,1,4] mixed Tryz.func118 rfl (by kernel_rfl) ?_;repeat (first|simp -implicitDefEqProofs only [go_sem,seval,decide_false]|(with_reducible refine Qaa w ?_ ?_ ?_);rfl;rfl)
def b4 (n:Int):List Int:=[IntKind.u8.wrap (n.fdiv (2^24)),IntKind.u8.wrap (n.fdiv (2^16)),IntKind.u8.wrap (n.fdiv (2^8)),IntKind.u8.wrap n]
theorem Q5l (l:List Int):(l.flatMap b4).length=4*l.length:=by
 induction l with
 |nil=>rfl
 |cons a l ih=>rw [List.flatMap_cons,List.length_append,ih];simp only [b4,List.length_cons,List.length_nil];omega
theorem m24:min 24 64=24:=rfl
theorem m16:min 16 64=16:=rfl
theorem m8:min 8 64=8:=rfl
theorem Zxo (l:List Int) (hl:l.length≤16) (h: ∀n∈l,0≤n∧n≤4294967295):Qaf Tryz.prog 95 [.slc (l.map (PV.int .i64))] (.tup [.slc ((l.flatMap b4).map (PV.int .u8)),.int .i64 0]):=by
 have w:=Zxn l hl h;have c1':=eq_false (show¬(16:Int)<(l.length:Int)by omega);refine Qab (tb:=[]) 36 [.tmp 2,.tmp 3] [0,2,3,4,6,13,14,15,16,17] mixed Tryz.func95 rfl (by kernel_rfl) ?_;repeat (first|simp -implicitDefEqProofs only [go_sem,seval,List.length_map,c1',decide_false]|(with_reducible refine Qaa w ?_ ?_ ?_);rfl;rfl)
 refine Qas mixed (fun k:{k:Nat // k≤l.length}=>St.of [(0,.slc (l.map (PV.int .i64))),(4,.bs 7 1 0 (4*k.1)),(14,.slc (l.map (PV.int .i64))),(15,.int .i64 (l.length:Int)),(16,.int .i64 (k.1:Int))]
  [(7,{els:=((l.take k.1).flatMap b4).map (PV.int .u8),esz:=1,ety:=5,fro:=0,live:=true,arr:=true})]) (fun k=>l.length-k.1) ⟨0,Nat.zero_le _⟩ ?_ ?_
 ·refine Qnw 4 7 1 5 rfl rfl rfl (by decide) [(7,7)] rfl ?_ ?_
  ·simp [Qac,lkp,ren1,ren0,Qah]
  ·exact⟨⟨rfl,rfl,rfl,rfl,rfl,.inl ⟨rfl,rfl⟩⟩,trivial⟩
 ·rintro⟨k,hk⟩;simp only;by_cases hA:k<l.length
  ·have hA':=ltE hA;have n0:=nnE k;have hg:=ig_E l k hA;have hw:=wrE (n:=k) (by omega);have hlt:(((l.take k).flatMap b4).map (PV.int .u8)).length=4*k:=by rw [List.length_map,Q5l,List.length_take];omega
   have hok:=Zod ((l.take k).flatMap b4);have k1:((4*k+4)*1≤140737488355328)=True:=eq_true (by omega);have k2:(4*k+4≤maxLen)=True:=eq_true (by unfold maxLen;omega);have hts:((l.take (k+1)).flatMap b4).map (PV.int .u8)=((l.take k).flatMap b4).map (PV.int .u8)++[.int .u8 (IntKind.u8.wrap (l[k].fdiv (2^24))),.int .u8 (IntKind.u8.wrap (l[k].fdiv (2^16))),.int .u8 (IntKind.u8.wrap (l[k].fdiv (2^8))),.int .u8 (IntKind.u8.wrap l[k])]:=by
    rw [List.take_add_one,List.getElem?_eq_getElem hA,List.flatMap_append,List.map_append];simp only [Option.toList_some,List.flatMap_cons,List.flatMap_nil,List.append_nil];rfl
   generalize ((l.take k).flatMap b4).map (PV.int .u8)=T at*;generalize l[k]=n at*;repeat simp -implicitDefEqProofs only [go_sem,seval,hA',n0,hg,hw,hlt,hok,k1,k2,m24,m16,m8,Int.toNat_natCast]
   refine⟨⟨k+1,hA⟩,by simp only;omega,?_⟩;simp only [hts,Nat.mul_succ];refine Qaj (θ:=[(7,713)]) rfl ?_ ?_
   ·simp [Qac,lkp,ren1,ren0,Qah]
   ·exact⟨⟨rfl,rfl,rfl,rfl,rfl,.inl ⟨rfl,rfl⟩⟩,trivial⟩
  ·have hA':=ltE' hA;obtain rfl:k=l.length:=by omega
   have ht:l.take l.length=l:=List.take_length;have hlt:((l.flatMap b4).map (PV.int .u8)).length=4*l.length:=by rw [List.length_map,Q5l]
   have htk:((l.flatMap b4).map (PV.int .u8)).take (4*l.length)=(l.flatMap b4).map (PV.int .u8):=List.take_of_length_le (by omega);simp only [ht];repeat simp -implicitDefEqProofs only [go_sem,seval,hA',hlt,htk]
abbrev byB (l:List Int):Box:={els:=l.map (PV.int .u8),esz:=1,ety:=5,fro:=0,live:=true,arr:=true}
theorem Zxp (n:Nat) (h0:0<n) (h1:n≤100000):Qbv Tryz.prog 120 [.nilS,.int .i64 (n:Int)] [] (.bs 7 1 0 0) [(7,byB [])]:=by
 have e1:=eq_false (show¬(n:Int)<0 by omega);have e2:=eq_true (show(0:Int)<(n:Int)by omega);have w0:IntKind.i64.wrap (n:Int)=(n:Int):=Qag (by omega) (by omega);have w00:IntKind.i64.wrap 0=0:=rfl;have w1:IntKind.i64.wrap ((n:Int)-0)=(n:Int):=by rw [Qag (by omega) (by omega)];omega
 have c1:(n*1≤140737488355328)=True:=eq_true (by omega);have c2:((n:Int)≤4611686018427387904)=True:=eq_true (by omega);have c3:=nnE n;have c4:=nnE 0;refine Qbc (tb:=[]) 27 [.tmp 4] [0,1,4,6,16] mixed Tryz.func120 rfl (by kernel_rfl) (by kernel_rfl) (by kernel_rfl) (by kernel_rfl) (by rfl) ?_;repeat simp -implicitDefEqProofs only [go_sem,seval,e1,e2,w00,c1,c2,c3,c4,Int.toNat_natCast,Int.sub_zero,w0]
 refine Qa2 (.inl rfl) ?_;simp -implicitDefEqProofs only [go_sem,seval];refine Qaj (θ:=[(7,505)]) rfl ?_ ?_
 ·simp [Qac,lkp,ren1,ren0,Qah]
 ·exact⟨⟨rfl,rfl,rfl,rfl,rfl,.inl ⟨rfl,rfl⟩⟩,trivial⟩
def slB (l:List Int):PV:= .slc (l.map (PV.int .u8))
theorem Zoe (L:List (List Int)) (k:Nat) (h:k<L.length):(L.map slB)[k]? =some (.slc (L[k].map (PV.int .u8))):=by rw [List.getElem?_map,List.getElem?_eq_getElem h];rfl
theorem Q5o (L:List (List Int)) (k:Nat) (h:k<L.length):(L.take (k+1)).flatten=(L.take k).flatten++L[k]:=by
 rw [List.take_add_one,List.getElem?_eq_getElem h,List.flatten_append];simp
theorem Zxq (L:List (List Int)) (k:Nat):(L.take k).flatten.length≤L.flatten.length:=by
 conv=>rhs;rw [←List.take_append_drop k L,List.flatten_append,List.length_append]
 omega
set_option maxHeartbeats 2000000 in
theorem Zer (L:List (List Int)) (hL:L.length≤1000) (h0:0<L.flatten.length) (h1:L.flatten.length≤100000):Qaf Tryz.prog 96 [.slc (L.map slB)] (.slc (L.flatten.map (PV.int .u8))):=by

 refine Qab (tb:=[(901,[],[(7,901)])]) 36 [.tmp 2] [0,2,3,5,6,8,9,10,11,12,20,25,26,27,28] mixed Tryz.func96 rfl (by kernel_rfl) ?_;repeat simp -implicitDefEqProofs only [go_sem,seval,List.length_map]
 refine Qas mixed (fun k:{k:Nat // k≤L.length}=>St.of [(0,.slc (L.map slB)),(3,.int .i64 (((L.take k.1).flatten.length:Nat):Int)),(9,.slc (L.map slB)),(10,.int .i64 (L.length:Int)),(11,.int .i64 (k.1:Int))] []) (fun k=>L.length-k.1) ⟨0,Nat.zero_le _⟩ ?_ ?_
 ·refine Qa0 ?_;simp [Qac,lkp,ren1,ren0,Qah]
 ·rintro⟨k,hk⟩;simp only;by_cases hA:k<L.length
  ·have hA':=ltE hA;have n0:=nnE k;have hg:=Zoe L k hA;have hw:=wrE (n:=k) (by omega);have hs:=Q5o L k hA;have hle:=Zxq L (k+1);rw [hs,List.length_append]at hle;have hw2:IntKind.i64.wrap (((L.take k).flatten.length:Int)+(L[k].length:Int))=(((L.take k).flatten.length+L[k].length:Nat):Int):=by rw [Qag (by omega) (by omega)];omega
   have hng:=eq_false (show¬(((L.take k).flatten.length+L[k].length:Nat):Int)<0 by omega);repeat simp -implicitDefEqProofs only [go_sem,seval,hA',n0,hg,hw,hw2,hng,Int.toNat_natCast,List.length_map]
   refine⟨⟨k+1,hA⟩,by simp only;omega,?_⟩;simp only [hs,List.length_append];refine Qa0 ?_;simp [Qac,lkp,ren1,ren0,Qah]
  ·have hA':=ltE' hA;obtain rfl:k=L.length:=by omega
   have ht:L.take L.length=L:=List.take_length;have hg:=Zxp L.flatten.length h0 h1;simp only [ht];have bl1:Nat.blt 901 1000000=true:=rfl;repeat (first|simp -implicitDefEqProofs only [go_sem,seval,hA',bl1]|(with_reducible refine Qai hg ?_ ?_ ?_ ?_);rfl;rfl;rfl)
   refine Qas mixed (fun k:{k:Nat // k≤L.length}=>St.of [(0,.slc (L.map slB)),(6,.bs 7 1 0 (L.take k.1).flatten.length),(25,.slc (L.map slB)),(26,.int .i64 (L.length:Int)),(27,.int .i64 (k.1:Int))] [(7,byB (L.take k.1).flatten)]) (fun k=>L.length-k.1) ⟨0,Nat.zero_le _⟩ ?_ ?_
   ·refine Qaj (θ:=[(7,901)]) rfl ?_ ?_
    ·simp [Qac,lkp,ren1,ren0,Qah]
    ·exact⟨⟨rfl,rfl,rfl,rfl,rfl,.inl ⟨rfl,rfl⟩⟩,trivial⟩
   ·rintro⟨k,hk⟩;simp only;by_cases hA:k<L.length
    ·have hA':=ltE hA;have n0:=nnE k;have hg:=Zoe L k hA;have hw:=wrE (n:=k) (by omega);have hs:=Q5o L k hA;have hle:=Zxq L (k+1);rw [hs,List.length_append]at hle;have hlt:((L.take k).flatten.map (PV.int .u8)).length=(L.take k).flatten.length:=List.length_map ..;have hok:=Zod (L.take k).flatten;have hok1:=Zxl L[k];have k1:(((L.take k).flatten.length+L[k].length)*1≤140737488355328)=True:=eq_true (by omega);have k2:((L.take k).flatten.length+L[k].length≤maxLen)=True:=eq_true (by unfold maxLen;omega);repeat simp -implicitDefEqProofs only [go_sem,seval,hA',n0,hg,hw,hlt,hok,hok1,k1,k2,Int.toNat_natCast,List.length_map]
     refine⟨⟨k+1,hA⟩,by simp only;omega,?_⟩;simp only [hs,List.length_append];refine Qaj (θ:=[(7,1302)]) rfl ?_ ?_
     ·simp [Qac,lkp,ren1,ren0,Qah]
     ·simp only [byB,List.map_append];exact⟨⟨rfl,rfl,rfl,rfl,rfl,.inl ⟨rfl,rfl⟩⟩,trivial⟩
    ·have hA':=ltE' hA;obtain rfl:k=L.length:=by omega
     have ht:L.take L.length=L:=List.take_length;have hlt:(L.flatten.map (PV.int .u8)).length=L.flatten.length:=List.length_map ..;have htk:(L.flatten.map (PV.int .u8)).take L.flatten.length=L.flatten.map (PV.int .u8):=List.take_of_length_le (by omega);simp only [ht];repeat simp -implicitDefEqProofs only [go_sem,seval,hA',hlt,htk]
def xr (k:IntKind) (x y:Int):Int:=k.wrap (BitVec.ofInt k.bits x ^^^ BitVec.ofInt k.bits y).toNat
theorem Z1r {P:Program} {t:TypeId} {k:IntKind} {a b:Int}:Qbp .xor t P (.int k a) (.int k b)=some (.int k (xr k a b)):=by simp [Qbp,Qdh,xr]
attribute [go_sem] Z1r
theorem m8u:min 8 16=8:=rfl
theorem m15u:min 15 16=15:=rfl
theorem m1u:min 1 16=1:=rfl
def crc1 (n:Int):Int:=if(n.fdiv (2^15)==1)=true then xr .u16 (IntKind.u16.wrap (n*2^1)) 4129 else IntKind.u16.wrap (n*2^1)
def crcJ (n:Int):Nat→Int
 |0=>n
 |j+1=>crc1 (crcJ n j)
def crcL (l:List Int):Nat→Int
 |0=>65535
 |k+1=>crcJ (xr .u16 (crcL l k) (IntKind.u16.wrap (IntKind.u16.wrap (l.getD k 0)*2^8))) 8
theorem Z1s (l:List Int) (hl:l.length≤1000):Qaf Tryz.prog 117 [.slc (l.map (PV.int .u8))] (.int .i64 (IntKind.i64.wrap (crcL l l.length))):=by
 refine Qab (tb:=[]) 32 [.tmp 2] [0,2,3,5,6,7,8,9,10,18,19,25] mixed Tryz.func117 rfl (by kernel_rfl) ?_;repeat simp -implicitDefEqProofs only [go_sem,Nat.reduceAdd,Nat.reduceMul,Nat.reduceEqDiff,Nat.reduceLT,Nat.reduceLeDiff,reduceCtorEq,List.length_map]
 refine Qas mixed (fun k:{k:Nat // k≤l.length}=>St.of [(7,.slc (l.map (PV.int .u8))),(3,.int .u16 (crcL l k.1)),(8,.int .i64 (l.length:Int)),(9,.int .i64 (k.1:Int))] []) (fun k=>l.length-k.1) ⟨0,Nat.zero_le _⟩ ?_ ?_
 ·refine Qa0 ?_;simp [Qac,lkp,ren1,ren0,Qah,crcL]
 ·rintro⟨k,hk⟩;simp only;by_cases hA:k<l.length
  ·have hA':=ltE hA;have n0:=nnE k;have hg:=ub_E l k hA;have hw:=wrE (n:=k) (by omega);have hd:l.getD k 0=l[k]:=by rw [List.getD_eq_getElem?_getD,List.getElem?_eq_getElem hA];rfl
   have hst:crcL l (k+1)=crcJ (xr .u16 (crcL l k) (IntKind.u16.wrap (IntKind.u16.wrap l[k]*2^8))) 8:=by rw [crcL,hd]
   repeat simp -implicitDefEqProofs only [go_sem,Nat.reduceAdd,Nat.reduceMul,Nat.reduceEqDiff,Nat.reduceLT,Nat.reduceLeDiff,reduceCtorEq,Int.reduceLT,Int.reduceToNat,hA',n0,hg,m8u,Int.toNat_natCast]
   generalize xr .u16 (crcL l k) (IntKind.u16.wrap (IntKind.u16.wrap l[k]*2^8))=n at*;refine Qas mixed (fun j:{j:Nat // j≤8}=>St.of [(7,.slc (l.map (PV.int .u8))),(3,.int .u16 (crcJ n j.1)),(8,.int .i64 (l.length:Int)),(9,.int .i64 (k:Int)),(18,.int .i64 (j.1:Int))] []) (fun j=>8-j.1) ⟨0,Nat.zero_le _⟩ ?_ ?_
   ·refine Qa0 ?_;simp [Qac,lkp,ren1,ren0,Qah,crcJ]
   ·rintro⟨j,hj⟩;simp only;have hwj:=wrE (n:=j) (by omega);have hw:=wrE (n:=k) (by omega);by_cases hB:j<8
    ·have hB':=eq_true (show(j:Int)<8 by omega);cases hc:((crcJ n j).fdiv (2^15)==1)with
     |true=>
      have hs1:crcJ n (j+1)=xr .u16 (IntKind.u16.wrap (crcJ n j*2^1)) 4129:=by rw [crcJ,crc1,if_pos hc]
      repeat simp -implicitDefEqProofs only [go_sem,Nat.reduceAdd,Nat.reduceMul,Nat.reduceEqDiff,Nat.reduceLT,Nat.reduceLeDiff,reduceCtorEq,Int.reduceLT,Int.reduceToNat,hB',hwj,hc,m15u,m1u]
      refine⟨⟨j+1,hB⟩,by simp only;omega,?_⟩;simp only [hs1];refine Qa0 ?_;simp [Qac,lkp,ren1,ren0,Qah]
     |false=>
      have hs1:crcJ n (j+1)=IntKind.u16.wrap (crcJ n j*2^1):=by rw [crcJ,crc1,if_neg (by rw [hc];decide)]
      repeat simp -implicitDefEqProofs only [go_sem,Nat.reduceAdd,Nat.reduceMul,Nat.reduceEqDiff,Nat.reduceLT,Nat.reduceLeDiff,reduceCtorEq,Int.reduceLT,Int.reduceToNat,hB',hwj,hc,m15u,m1u]
      refine⟨⟨j+1,hB⟩,by simp only;omega,?_⟩;simp only [hs1];refine Qa0 ?_;simp [Qac,lkp,ren1,ren0,Qah]
    ·have hB':=eq_false (show¬(j:Int)<8 by omega);obtain rfl:j=8:=by omega
     repeat simp -implicitDefEqProofs only [go_sem,Nat.reduceAdd,Nat.reduceMul,Nat.reduceEqDiff,Nat.reduceLT,Nat.reduceLeDiff,Nat.reduceSub,reduceCtorEq,hB',hw]
     refine⟨⟨k+1,hA⟩,by simp only;omega,?_⟩;simp only [hst];refine Qa0 ?_;simp [Qac,lkp,ren1,ren0,Qah]
  ·have hA':=ltE' hA;obtain rfl:k=l.length:=by omega
   repeat simp -implicitDefEqProofs only [go_sem,Nat.reduceAdd,Nat.reduceMul,Nat.reduceEqDiff,Nat.reduceLT,Nat.reduceLeDiff,reduceCtorEq,hA']
def l6 (k f t s:Int):List Int:=[IntKind.u8.wrap k,IntKind.u8.wrap f,IntKind.u8.wrap t,IntKind.u8.wrap (s.fdiv (2^8)),IntKind.u8.wrap s,0]
def encN (k f t s:Int):Int:=IntKind.i64.wrap (crcL (l6 k f t s) 6)
def encL (k f t s:Int):List Int:=213::76::(l6 k f t s++[IntKind.u8.wrap ((encN k f t s).fdiv (2^8)),IntKind.u8.wrap (encN k f t s)])
theorem Zqg:Qaf Tryz.prog 116 [] (.agg [.int .u8 213,.int .u8 76]):=by
 refine Qab (tb:=[]) 2 [.cell 0 206] [0] mixed Tryz.func116 rfl (by kernel_rfl) ?_;repeat simp -implicitDefEqProofs only [go_sem,seval]
theorem nb11:Nat.beq 1 1=true:=rfl
theorem nb22:Nat.beq 2 2=true:=rfl
theorem nb2k:Nat.ble 2 1000=true:=rfl
theorem mn1:min 2 10=2:=rfl
theorem mn2:min 6 8=6:=rfl
theorem mn3:min 0 2=0:=rfl
theorem le1:Nat.ble 0 0=true:=rfl
theorem le2:Nat.ble 2 10=true:=rfl
theorem le3:Nat.ble 0 2=true:=rfl
theorem le4:Nat.ble 8 10=true:=rfl
theorem le5:Nat.ble 0 8=true:=rfl
theorem kc0:((0:Nat):Int)=0:=rfl
theorem kc1:((1:Nat):Int)=1:=rfl
theorem kc2:((2:Nat):Int)=2:=rfl
theorem kc4:((4:Nat):Int)=4:=rfl
theorem kc6:((6:Nat):Int)=6:=rfl
theorem kc8:((8:Nat):Int)=8:=rfl
theorem kc10:((10:Nat):Int)=10:=rfl
theorem wk0:IntKind.i64.wrap 0=0:=rfl
theorem wk8:IntKind.i64.wrap 8=8:=rfl
theorem wk9:IntKind.i64.wrap 9=9:=rfl
theorem wk10:IntKind.i64.wrap 10=10:=rfl
theorem wku0:IntKind.u8.wrap 0=0:=rfl
theorem Z1t:List.replicate 10 (PV.int .u8 0)=[.int .u8 0,.int .u8 0,.int .u8 0,.int .u8 0,.int .u8 0,.int .u8 0,.int .u8 0,.int .u8 0,.int .u8 0,.int .u8 0]:=rfl
theorem m8i:min 8 64=8:=rfl
set_option maxRecDepth 100000 in
set_option maxHeartbeats 4000000 in
theorem Zes (k f t s:Int) (h:frB k f t s=true):Qaf Tryz.prog 94 [frV k f t s] (.tup [.slc ((encL k f t s).map (PV.int .u8)),.int .i64 0]):=by
 have v:=Qsh k f t s;rw [h]at v;have st:=Zqg;have cr:=Z1s (l6 k f t s) (by simp [l6]);have hl:(l6 k f t s).length=6:=rfl;rw [hl]at cr;have hn:IntKind.i64.wrap (crcL (l6 k f t s) 6)=encN k f t s:=rfl;rw [hn]at cr;unfold encL;generalize encN k f t s=n at*;unfold l6 at cr ⊢;unfold frV at v ⊢;have w0:IntKind.i64.wrap (10+((0:Nat):Int))=10:=rfl;have w1:IntKind.u8.wrap ((0:Nat):Int)=0:=rfl;have c10:(((1:Nat):Int)*10≤281474976710656)=True:=eq_true (by decide);have n0:=nnE 0;have n6:=nnE 6;have n10:=nnE 10;refine Qab (tb:=[]) 69 [.tmp 2,.tmp 3] [0,1,2,3,4,5,6,7,10] mixed Tryz.func94 rfl (by kernel_rfl) ?_;repeat (first|simp -implicitDefEqProofs only [go_sem,seval,Bool.not_true,wk8,wk9,wk10,wku0,kc0,kc1,kc2,kc6,kc10,mn1,mn2,mn3,le1,le2,le3,le4,le5,nb11,nb22,nb2k,Z1t,m8i,List.length_nil,List.length_cons,List.take_succ_cons,List.take_zero,List.drop_succ_cons,List.drop_zero,List.cons_append,List.nil_append,List.map_cons,List.map_nil,decide_true]|(with_reducible refine Qaa v ?_ ?_ ?_);rfl;rfl|(with_reducible refine Qaa st ?_ ?_ ?_);rfl;rfl|(with_reducible refine Qaa cr ?_ ?_ ?_);rfl;rfl|(with_reducible refine And.intro (Qad _ _ (by kernel_rfl)) ?_))
def Qn5 (r:Rc):List Int:=if r.k=1 then [r.t,r.a,r.v.x+1048576,r.v.y+1048576,r.v.z+1048576]else [r.t,r.a]
def Qz7 (r:Rc):List Int:=if r.k=1 then []else if r.k=2 then [IntKind.u8.wrap r.s]else encL r.fk r.ff r.ft r.fs
def cntL (r:Rc):List Int:=[[IntKind.u8.wrap r.k],(Qn5 r).flatMap b4,Qz7 r].flatten
theorem Qcq {r:Rc} (h:recB r=true):(0≤r.t∧r.t≤3600000)∧(0≤r.a∧r.a≤64)∧(r.k=1∧ptB r.v=true∧0<r.a∨r.k=2∨r.k=3∧r.fr=true):=by
 unfold recB at h;simp only [Bool.and_eq_true]at h;obtain⟨h1,h2,h3⟩:=h;refine⟨Qb7.1 h1,Qb7.1 h2,?_⟩;split at h3
 ·rename_i k1;simp only [Bool.and_eq_true,decide_eq_true_eq]at h3;exact .inl ⟨k1,h3.2.1,h3.1⟩
 ·split at h3
  ·rename_i k2;exact .inr (.inl k2)
  ·split at h3
   ·rename_i k3;simp only [Bool.and_eq_true]at h3;exact .inr (.inr ⟨k3,h3.1⟩)
   ·cases h3
theorem Qqa {v:V3} (h:ptB v=true):(-1048576≤v.x∧v.x≤1048576)∧(-1048576≤v.y∧v.y≤1048576)∧(-1048576≤v.z∧v.z≤1048576):=by
 simp only [ptB,inB,Bool.and_eq_true,Bool.not_eq_true',Bool.or_eq_false_iff,decide_eq_false_iff_not]at h;omega
theorem Zqo {r:Rc} (h:recB r=true):(Qn5 r).length≤16∧ ∀n∈Qn5 r,0≤n∧n≤4294967295:=by
 obtain⟨h1,h2,h3⟩:=Qcq h;unfold Qn5;by_cases k1:r.k=1
 ·rw [if_pos k1];have hp:ptB r.v=true:=by rcases h3 with h3|h3|h3<;>first|exact h3.2.1|omega
  have:=Qqa hp;refine⟨by simp,fun n hn=> ?_⟩;simp only [List.mem_cons,List.not_mem_nil,or_false]at hn;rcases hn with rfl|rfl|rfl|rfl|rfl<;>omega
 ·rw [if_neg k1];refine⟨by simp,fun n hn=> ?_⟩;simp only [List.mem_cons,List.not_mem_nil,or_false]at hn;rcases hn with rfl|rfl<;>omega
theorem Zqp (k f t s:Int):(encL k f t s).length=10:=rfl
theorem Q5u (r:Rc):1≤(cntL r).length∧(cntL r).length≤100:=by
 unfold cntL;simp only [List.flatten_cons,List.flatten_nil,List.append_nil,List.length_append,List.length_cons,List.length_nil,Q5l];have h1:(Qn5 r).length≤5:=by unfold Qn5;split<;>simp
 have h2:(Qz7 r).length≤10:=by
  unfold Qz7;split
  ·simp
  ·split
   ·simp
   ·rw [Zqp];exact Nat.le_refl _
 omega
theorem ml5:(5≤maxLen)=True:=eq_true (by unfold maxLen;omega)
theorem Zxv (l:List Int):(l.map (PV.int .u8)).take l.length=l.map (PV.int .u8):=List.take_of_length_le (by simp)
set_option maxHeartbeats 4000000 in
set_option maxRecDepth 100000 in
theorem Q5v (r:Rc) (h:recB r=true):Qaf Tryz.prog 72 [rcV r] (.slc ((cntL r).map (PV.int .u8))):=by
 obtain⟨h1,h2,h3⟩:=Qcq h;obtain⟨n1,n2⟩:=Zqo h;have pn:=Zxo (Qn5 r) n1 n2;have cl:=Q5u r;have cc:=Zer [[IntKind.u8.wrap r.k],(Qn5 r).flatMap b4,Qz7 r] (by simp) (by exact cl.1) (by have:=cl.2;unfold cntL at this;omega);have en:r.fr=true→Qaf Tryz.prog 94 [frV r.fk r.ff r.ft r.fs] (.tup [.slc ((encL r.fk r.ff r.ft r.fs).map (PV.int .u8)),.int .i64 0]):=Zes r.fk r.ff r.ft r.fs;rw [show [[IntKind.u8.wrap r.k],(Qn5 r).flatMap b4,Qz7 r].flatten=cntL r from rfl]at cc;simp only [List.map_cons,List.map_nil,slB]at cc;generalize cntL r=CN at*;unfold Qn5 Qz7 at*;obtain⟨t,a,k,v,s,fk,ff,ft,fs,u⟩:=r;unfold rcV frV at*;simp only [Rc.fr]at*;rcases h3 with⟨rfl,hp,h0⟩|rfl|⟨rfl,hf⟩
 ·simp only [if_true]at pn cc n1 n2;obtain⟨b1,b2,b3⟩:=Qqa hp;obtain⟨x,y,z⟩:=v;simp only at*;have w1:IntKind.i64.wrap (x+1048576)=x+1048576:=Qag (by omega) (by omega);have w2:IntKind.i64.wrap (y+1048576)=y+1048576:=Qag (by omega) (by omega);have w3:IntKind.i64.wrap (z+1048576)=z+1048576:=Qag (by omega) (by omega);simp only [List.map_cons,List.map_nil]at pn cc;generalize hB: [t,a,x+1048576,y+1048576,z+1048576].flatMap b4=BB at*;refine Qab (tb:=[]) 58 [.tmp 2] [0,1,2,3,4,5,13,14,31,37] mixed Tryz.func72 rfl (by kernel_rfl) ?_;repeat (first|simp -implicitDefEqProofs only [go_sem,seval,List.map_cons,List.map_nil,List.length_cons,List.length_nil,List.cons_append,List.nil_append,List.take_succ_cons,List.take_zero,List.drop_zero,ml5,w1,w2,w3]|(with_reducible refine Qaa pn ?_ ?_ ?_);rfl;rfl|(with_reducible refine Qaa cc ?_ ?_ ?_);rfl;rfl)
 ·simp only [show¬((2:Int)=1)by decide,if_true,if_false]at pn cc n1 n2;simp only [List.map_cons,List.map_nil]at pn cc;generalize hB: [t,a].flatMap b4=BB at*;refine Qab (tb:=[]) 58 [.tmp 2] [0,1,2,3,4,5,13,14,31,37] mixed Tryz.func72 rfl (by kernel_rfl) ?_;repeat (first|simp -implicitDefEqProofs only [go_sem,seval,List.map_cons,List.map_nil,List.length_cons,List.length_nil,List.cons_append,List.nil_append,List.take_succ_cons,List.take_zero,List.drop_zero,Int.reduceBEq]|(with_reducible refine Qaa pn ?_ ?_ ?_);rfl;rfl|(with_reducible refine Qaa cc ?_ ?_ ?_);rfl;rfl)
 ·simp only [show¬((3:Int)=1)by decide,show¬((3:Int)=2)by decide,if_false]at pn cc n1 n2;simp only [List.map_cons,List.map_nil]at pn
  replace en:=en hf
  generalize hB: [t,a].flatMap b4=BB at*;generalize (encL fk ff ft fs).map (PV.int .u8)=EE at*;try simp only [List.map_cons,List.map_nil]at cc
  refine Qab (tb:=[]) 58 [.tmp 2] [0,1,2,3,4,5,13,14,31,37] mixed Tryz.func72 rfl (by kernel_rfl) ?_;repeat (first|simp -implicitDefEqProofs only [go_sem,seval,List.map_cons,List.map_nil,List.length_cons,List.length_nil,List.cons_append,List.nil_append,List.take_succ_cons,List.take_zero,List.drop_zero,Int.reduceBEq]|(with_reducible refine Qaa pn ?_ ?_ ?_);rfl;rfl|(with_reducible refine Qaa cc ?_ ?_ ?_);rfl;rfl|(with_reducible refine Qaa en ?_ ?_ ?_);rfl;rfl)
def chkL (l:List Int) (h0:Int):Nat→Int
 |0=>h0
 |i+1=>IntKind.u32.wrap (xr .u32 (chkL l h0 i) (IntKind.u32.wrap (l.getD i 0))*16777619)
def sumU (b:Int) (r:Rc):Int:=chkL (cntL r) (xr .u32 b 2166136261) (cntL r).length
set_option maxRecDepth 100000 in
theorem Zew (b:Int) (r:Rc) (h:recB r=true):Qaf Tryz.prog 43 [.int .u32 b,rcV r] (.tup [.int .u32 (sumU b r),.int .i64 0]):=by
 have f:=Zob r;have c:=Q5v r h;have hl:=(Q5u r).2;rw [h]at f;unfold sumU;generalize cntL r=l at*;generalize hH:xr .u32 b 2166136261=h0;unfold rcV at f c ⊢;refine Qab (tb:=[]) 29 [.tmp 4,.tmp 5] [0,1,3,4,5,6,8,11,15,16,17,18] mixed Tryz.func43 rfl (by kernel_rfl) ?_;repeat (first|simp -implicitDefEqProofs only [go_sem,seval,Bool.not_true,List.length_map,hH]|(with_reducible refine Qaa f ?_ ?_ ?_);rfl;rfl|(with_reducible refine Qaa c ?_ ?_ ?_);rfl;rfl)
 refine Qas mixed (fun k:{k:Nat // k≤l.length}=>St.of [(6,.int .u32 (chkL l h0 k.1)),(15,.slc (l.map (PV.int .u8))),(16,.int .i64 (l.length:Int)),(17,.int .i64 (k.1:Int))] []) (fun k=>l.length-k.1) ⟨0,Nat.zero_le _⟩ ?_ ?_
 ·refine Qaj (θ:=[]) rfl ?_ trivial;simp [Qac,lkp,ren1,ren0,Qah,chkL]
 ·rintro⟨k,hk⟩;simp only;by_cases hA:k<l.length
  ·have hA':=ltE hA;have n0:=nnE k;have hg:=ub_E l k hA;have hw:=wrE (n:=k) (by omega);have hd:l.getD k 0=l[k]:=by rw [List.getD_eq_getElem?_getD,List.getElem?_eq_getElem hA];rfl
   have hst:chkL l h0 (k+1)=IntKind.u32.wrap (xr .u32 (chkL l h0 k) (IntKind.u32.wrap l[k])*16777619):=by rw [chkL,hd]
   repeat simp -implicitDefEqProofs only [go_sem,seval,hA',n0,hg,hw,Int.toNat_natCast]
   refine⟨⟨k+1,hA⟩,by simp only;omega,?_⟩;simp only [hst];refine Qa0 ?_;simp [Qac,lkp,ren1,ren0,Qah]
  ·have hA':=ltE' hA;obtain rfl:k=l.length:=by omega
   repeat simp -implicitDefEqProofs only [go_sem,seval,hA']
end Go.Proofs.YtnohfmdlaajpbaaGreat

namespace Go.Vl
open Go.RowKit
theorem Qud {w:World} {im:Im} {ρ ρ':Rho} {θ:List (Nat×Nat)} (hρ: ∀b b0 x,lkp θ b=some b0→ρ b0=some x→ρ' b=some x): ∀{vs vs':List PV} {us:List Value},Qhn θ vs'=some vs→LRL w im ρ vs us→LRL w im ρ' vs' us
 |vs,[],us,hr,h=>by simp [Qhn]at hr;subst hr;cases h.nil_inv;exact .nil
 |vs,v'::vs',us,hr,h=>by
  unfold Qhn at hr;split at hr
  ·cases hr
  ·rename_i x hx;split at hr
   ·cases hr
   ·rename_i xs hxs;cases hr;obtain⟨u,us',rfl,h1,h2⟩:=h.cons_inv;exact .cons _ _ _ _ (Qhk hρ hx h1) (Qud hρ hxs h2)
theorem Z08 {θ:List (Nat×Nat)} {xs rs:List PV} {bs bs':List (Nat×Box)} {o:List (List PV)} {y:Yl} (hθ:Qh4 θ bs'=true) (hv:Qhn θ rs=some xs) (hb:Qaz θ bs bs'):Le (St.ofG [(0,.tup xs)] bs o y) (St.ofG [(0,.tup rs)] bs' o y):=by
 simp only [Qh4,Bool.and_eq_true]at hθ;obtain⟨hκ,hθ⟩:=hθ;have hall:(θ.all fun p=>(lkp bs' p.1).isSome)=true:=by
  rw [List.all_eq_true]at hθ ⊢;intro p hp;have:=hθ p hp;simp only [Bool.and_eq_true]at this;exact this.1
 rintro C a w ⟨ρ,im,h⟩;have raw:=h.raw.ren (vs':=[]) (o':=o) (y':=y) hκ hall trivial hb.toD;have hρ: ∀b b0 x,lkp θ b=some b0→ρ b0=some x→rhoC θ ρ b=some x:=by
  intro b b0 x e1 e2;simp only [rhoC,e1];exact e2
 refine⟨rhoC θ ρ,im,h.step ⟨.refl _ _ _,Keeps.refl _ _,fun g x=> .inl (Qlw x),fun _ _ x=>x,fun _ _ x=> .inl x⟩ ?_,h.nt,h.dfr,h.imc,?_,raw.rho,fun b x B hx hB=>(raw.box b x B hx hB).own fun g e=> ?_,raw.inj⟩
 ·intro b x x' hL h0 hx';simp only [rhoC]at hx';cases hb0:lkp θ b with
  |none=>rw [hb0]at hx';cases hx'
  |some b0=>
   rw [hb0]at hx';have:=List.all_eq_true.1 hθ _ (Qce hb0);simp only [Bool.and_eq_true,Bool.or_eq_true,beq_iff_eq]at this;rcases this.2 with q|q
   ·have:=Nat.le_of_ble_eq_true q;omega
   ·subst q;exact h.root.rho0 b x x' hL h0 hx'
 ·intro t v hvt;simp only [Qzd,lkp]at hvt;split at hvt
  ·rename_i e;cases hvt;subst e;have h1:=h.var 0 (.tup xs) (by simp [St.ofG,lkp]);obtain⟨us,hu,hr⟩:=h1.tup_inv;rw [hu];exact .tup _ _ (Qud hρ hv hr)
  ·cases hvt
 ·have:Own (rhoC θ ρ) g:=⟨b,by rw [hx,e]⟩;exact(h.ownB (Qlw this)).1
theorem LRL.setAt {w:World} {im:Im} {ρ:Rho}: ∀{vs:List PV} {us:List Value} {j:Nat} {v v':PV},LRL w im ρ vs us→vs[j]? =some v→(∀u,LR w im ρ v u→LR w im ρ v' u)→LRL w im ρ (vs.set j v') us
 |_,_,0,_,_,.cons _ _ _ _ h t,hv,k=>by simp at hv;subst hv;exact .cons _ _ _ _ (k _ h) t
 |_,_,j+1,_,_,.cons _ _ _ _ h t,hv,k=> .cons _ _ _ _ h (t.setAt (by simpa using hv) k)
 |_,_,_,_,_,.nil,hv,_=>by simp at hv
theorem Zwm {st:St} {b j nb esz:Nat} {ety:TypeId} {B:Box} {cs:List PV} (hL:Nat.blt nb LENT=true) (hB:st.box b=some B) (ha:B.arr=false) (he:B.els=[.agg cs]) (hj:cs[j]? =some .nilS) (hn:st.box nb=none) (hz:0<esz):
  Le st ((st.setBox nb {els:=[],esz:=esz,ety:=ety,fro:=0,live:=true,arr:=true}).setBox b {B with els:=[.agg (cs.set j (.bs nb esz 0 0))]}):=by
 rintro C a w ⟨ρ,im,h⟩;have hbn:b≠nb:=by rintro rfl;rw [hB]at hn;cases hn
 obtain⟨h1,h2⟩:=h.addBox ⟨.refl _ _ _,Keeps.refl _ _,fun _ x=> .inl x,fun _ _ x=>x,fun _ _ x=> .inl x⟩ h (Nat.le_of_ble_eq_true hL) hn {els:=[],esz:=esz,ety:=ety,fro:=0,live:=true,arr:=true} none (by intro g e;cases e) ⟨rfl,rfl,rfl,hz⟩ (by intro b' g B' e;cases e);have hB1:(st.setBox nb {els:=[],esz:=esz,ety:=ety,fro:=0,live:=true,arr:=true}).box b=some B:=by simp [St.setBox,Qal _ _ _ _ hbn,hB]
 generalize hst:st.setBox nb {els:=[],esz:=esz,ety:=ety,fro:=0,live:=true,arr:=true}=st1 at*;refine⟨upd ρ nb (some none),im,h1.root,h1.nt,h1.dfr,h1.imc,h1.var,?_,?_,?_⟩
 ·intro b';by_cases e:b'=b
  ·subst e;simp [St.setBox,Qao,h1.rho b',hB1]
  ·simp [St.setBox,Qal _ _ _ _ e,h1.rho b']
 ·intro b' x B' hx hB';by_cases e:b'=b
  ·subst e;simp only [St.setBox,Qao,Option.some.injEq]at hB';subst hB';have hb:=h1.box b' x B hx hB1;cases x with
   |none=>obtain⟨z1,_⟩:=hb;rw [he]at z1;cases z1
   |some g=>
    obtain⟨k1,k2,k3,k4,⟨hmn,cur,us,rest,k5,k6,k7,k8,k9,k10,k11⟩|hm⟩:=hb
    case inr=>rw [hm.1]at he;cases he
    rw [he]at k2 k4 k7;simp only [List.flatMap_cons,List.flatMap_nil,List.append_nil]at k7;refine⟨k1,by simpa using k2,k3,?_,.inl ⟨hmn,cur,us,rest,k5,k6,?_,(by intro q;rw [ha]at q;cases q),k9,k10,k11⟩⟩
    ·intro e he';simp only [List.mem_singleton]at he';subst he';have:=k4 (.agg cs) (by simp);simpa [PV.cells]using this
    ·simp only [List.flatMap_cons,List.flatMap_nil,List.append_nil];refine LRL.setAt (vs:=cs) k7 hj fun u hu=> ?_;rw [hu.nilS_inv];exact .bsNil nb esz none (Qao _ _ _)
  ·simp only [St.setBox,Qal _ _ _ _ e]at hB';exact h1.box b' x B' hx hB'
 ·have key: ∀b' B',(st1.setBox b {B with els:=[.agg (cs.set j (.bs nb esz 0 0))]}).box b'=some B'→ ∃B0,st1.box b'=some B0∧B0.live=B'.live:=fun b' B' e=>by
   by_cases y:b'=b
   ·subst y;simp only [St.setBox,Qao,Option.some.injEq]at e;subst e;exact⟨B,hB1,rfl⟩
   ·exact⟨B',by simpa only [St.setBox,Qal _ _ _ _ y]using e,rfl⟩
  intro b1 b2 g B1 B2 g1 g2 e1 e2 l1 l2;obtain⟨C1,x1,y1⟩:=key _ _ e1;obtain⟨C2,x2,y2⟩:=key _ _ e2;exact h1.inj b1 b2 g C1 C2 g1 g2 x1 x2 (y1.trans l1) (y2.trans l2)
theorem Znx {vs:List (Nat×PV)} {bs:List (Nat×Box)} {o:List (List PV)} {y:Yl} (b j nb esz:Nat) (ety:TypeId) {B:Box} {cs:List PV} (hL:Nat.blt nb LENT=true) (hB:lkp bs b=some B) (ha:B.arr=false) (he:B.els=[.agg cs]) (hj:cs[j]? =some .nilS) (hn:lkp bs nb=none) (hz:0<esz):
  Le (St.ofG vs bs o y) (St.ofG vs ((b,{B with els:=[.agg (cs.set j (.bs nb esz 0 0))]})::(nb,{els:=[],esz:=esz,ety:=ety,fro:=0,live:=true,arr:=true})::bs) o y):=Zwm (st:=St.ofG vs bs o y) hL hB ha he hj hn hz
end Go.Vl

namespace Go.Vl
def Qkj:PV→PV
 | .nilS=> .slc []
 |v=>v
def Zo8:PV→PV
 | .agg cs=> .agg (cs.map Qkj)
 |v=>Qkj v
theorem Qlx (v:PV):(Zo8 v).cells=v.cells.map Qkj:=by
 cases v<;>rfl
theorem Qop (l:List PV):(l.map Zo8).flatMap PV.cells=(l.flatMap PV.cells).map Qkj:=by
 induction l with
 |nil=>rfl
 |cons v l ih=>simp only [List.map_cons,List.flatMap_cons,List.map_append,Qlx,ih]
theorem Rep.up {w:World} {im:Im} {v:PV} {u:Value} (h:Rep w im v u):Rep w im (Qkj v) u:=by
 cases v with
 |nilS=>cases h;exact .slcNil 0 (Nat.zero_le _)
 |_=>exact h
theorem LR.up {w:World} {im:Im} {ρ:Rho} {v:PV} {u:Value} (h:LR w im ρ v u):LR w im ρ (Qkj v) u:=by
 cases v with
 |nilS=>rw [h.nilS_inv];exact .ext _ _ (.slcNil 0 (Nat.zero_le _))
 |_=>exact h
theorem RepL.up {w:World} {im:Im}: ∀{vs:List PV} {us:List Value},RepL w im vs us→RepL w im (vs.map Qkj) us
 |_,_,.nil=> .nil
 |_,_,.cons _ _ _ _ h t=> .cons _ _ _ _ h.up t.up
theorem LRL.up {w:World} {im:Im} {ρ:Rho}: ∀{vs:List PV} {us:List Value},LRL w im ρ vs us→LRL w im ρ (vs.map Qkj) us
 |_,_,.nil=> .nil
 |_,_,.cons _ _ _ _ h t=> .cons _ _ _ _ h.up t.up
theorem Qda.up {own:Nat→Prop} {w:World} {im:Im} {ρ:Rho} {B:Box} {x:Option Nat} (h:Qda own w im ρ B x):Qda own w im ρ {B with els:=B.els.map Zo8} x:=by
 cases x with
 |none=>obtain⟨h1,h2,h3,h4⟩:=h;exact⟨by simp [h1],h2,h3,h4⟩
 |some g=>
  obtain⟨h1,h2,h3,h4,⟨hmn,cur,us,rest,h5,h6,h7,h8,h9,h10,h11⟩|hm⟩:=h
  case inr=>
   refine⟨h1,by simpa using h2,h3,?_,.inr ⟨by simp [hm.1],hm.2⟩⟩;simp [hm.1]
  refine⟨h1,by simpa using h2,h3,?_,.inl ⟨hmn,cur,us,rest,h5,h6,?_,?_,h9,h10,h11⟩⟩
  ·intro e he;obtain⟨v,hv,rfl⟩:=List.mem_map.1 he;rw [Qlx,List.length_map];exact h4 v hv
  ·simp only [Qop];exact h7.up
  ·intro ha;simp only [Qop];exact(h8 ha).up
end Go.Vl

namespace Go.Vl
open Go.RowKit
theorem Z09 {st:St} {b:Nat} {B B':Box} (hB:st.box b=some B) (hl:B.live=B'.live)
  (hbx: ∀(C:Ctx) (a:Act) (w:World) (ρ:Rho) (im:Im),Rel' C st a w ρ im→ ∀x,ρ b=some x→Qda C.own w im ρ B x→Qda C.own w im ρ B' x):Le st (st.setBox b B'):=by
 rintro C a w ⟨ρ,im,h⟩;refine⟨ρ,im,h.root,h.nt,h.dfr,h.imc,h.var,?_,?_,?_⟩
 ·intro b';by_cases e:b'=b
  ·subst e;simp [St.setBox,Qao,h.rho b',hB]
  ·simp [St.setBox,Qal _ _ _ _ e,h.rho b']
 ·intro b' x B1 hx hB1;by_cases e:b'=b
  ·subst e;simp only [St.setBox,Qao,Option.some.injEq]at hB1;subst hB1;exact hbx C a w ρ im h x hx (h.box b' x B hx hB)
  ·simp only [St.setBox,Qal _ _ _ _ e]at hB1;exact h.box b' x B1 hx hB1
 ·have key: ∀b' B1,(st.setBox b B').box b'=some B1→ ∃B0,st.box b'=some B0∧B0.live=B1.live:=fun b' B1 e=>by
   by_cases y:b'=b
   ·subst y;simp only [St.setBox,Qao,Option.some.injEq]at e;subst e;exact⟨B,hB,hl⟩
   ·exact⟨B1,by simpa only [St.setBox,Qal _ _ _ _ y]using e,rfl⟩
  intro b1 b2 g B1 B2 g1 g2 e1 e2 l1 l2;obtain⟨C1,x1,y1⟩:=key _ _ e1;obtain⟨C2,x2,y2⟩:=key _ _ e2;exact h.inj b1 b2 g C1 C2 g1 g2 x1 x2 (y1.trans l1) (y2.trans l2)
theorem Zwn {st:St} {b:Nat} {B:Box} (hB:st.box b=some B) (hne:B.els≠ []):Le st (st.setBox b {B with arr:=false}):=by
 refine Z09 hB rfl fun C a w ρ im h x hx hb=> ?_;cases x with
 |none=>exact absurd hb.1 hne
 |some g=>
  obtain⟨k1,k2,k3,k4,⟨hmn,cur,us,rest,k5,k6,k7,k8,k9,k10,k11⟩|hm⟩:=hb
  ·exact⟨k1,k2,k3,k4,.inl ⟨hmn,cur,us,rest,k5,k6,k7,(by intro q;cases q),k9,k10,k11⟩⟩
  ·exact absurd hm.1 hne
theorem Qzk {es:List PV} (h: ∀e∈es,e.cells=[e]):es.flatMap PV.cells=es:=by
 induction es with
 |nil=>rfl
 |cons e es ih=>
  simp only [List.flatMap_cons];rw [h e (by simp),ih fun e he=>h e (by simp [he])];rfl
theorem Zwo {st:St} {b j nb esz:Nat} {ety:TypeId} {B:Box} (hL:Nat.blt nb LENT=true) (hB:st.box b=some B) (ha:B.arr=false) (h1c: ∀e∈B.els,e.cells=[e]) (hj:B.els[j]? =some .nilS) (hn:st.box nb=none) (hz:0<esz):
  Le st ((st.setBox nb {els:=[],esz:=esz,ety:=ety,fro:=0,live:=true,arr:=true}).setBox b {B with els:=B.els.set j (.bs nb esz 0 0)}):=by
 have hbn:b≠nb:=by rintro rfl;rw [hB]at hn;cases hn
 rintro C a w ⟨ρ,im,h⟩;obtain⟨h1,h2⟩:=h.addBox ⟨.refl _ _ _,Keeps.refl _ _,fun _ x=> .inl x,fun _ _ x=>x,fun _ _ x=> .inl x⟩ h (Nat.le_of_ble_eq_true hL) hn {els:=[],esz:=esz,ety:=ety,fro:=0,live:=true,arr:=true} none (by intro g e;cases e) ⟨rfl,rfl,rfl,hz⟩ (by intro b' g B' e;cases e);have hB1:(st.setBox nb {els:=[],esz:=esz,ety:=ety,fro:=0,live:=true,arr:=true}).box b=some B:=by simp [St.setBox,Qal _ _ _ _ hbn,hB]
 generalize hst:st.setBox nb {els:=[],esz:=esz,ety:=ety,fro:=0,live:=true,arr:=true}=st1 at*;refine⟨upd ρ nb (some none),im,h1.root,h1.nt,h1.dfr,h1.imc,h1.var,?_,?_,?_⟩
 ·intro b';by_cases e:b'=b
  ·subst e;simp [St.setBox,Qao,h1.rho b',hB1]
  ·simp [St.setBox,Qal _ _ _ _ e,h1.rho b']
 ·intro b' x B' hx hB';by_cases e:b'=b
  ·subst e;simp only [St.setBox,Qao,Option.some.injEq]at hB';subst hB';have hb:=h1.box b' x B hx hB1;cases x with
   |none=>obtain⟨_,z1,_⟩:=hb;rw [ha]at z1;cases z1
   |some g=>
    obtain⟨k1,k2,k3,k4,⟨hmn,cur,us,rest,k5,k6,k7,k8,k9,k10,k11⟩|hm⟩:=hb
    case inr=>rw [hm.1]at hj;simp at hj
    have h1d: ∀e∈B.els.set j (.bs nb esz 0 0),e.cells=[e]:=by
     intro e he;rcases List.mem_or_eq_of_mem_set he with h|rfl
     ·exact h1c e h
     ·rfl
    rw [Qzk h1c]at k7;refine⟨k1,by simpa using k2,k3,?_,.inl ⟨hmn,cur,us,rest,k5,k6,?_,(by intro q;rw [ha]at q;cases q),k9,k10,k11⟩⟩
    ·intro e he;rcases List.mem_or_eq_of_mem_set he with h|rfl
     ·exact k4 e h
     ·have:=k4 .nilS (List.mem_of_getElem? hj);simpa [PV.cells]using this
    ·simp only;rw [Qzk h1d];refine LRL.setAt k7 hj fun u hu=> ?_;rw [hu.nilS_inv];exact .bsNil nb esz none (Qao _ _ _)
  ·simp only [St.setBox,Qal _ _ _ _ e]at hB';exact h1.box b' x B' hx hB'
 ·have key: ∀b' B',(st1.setBox b {B with els:=B.els.set j (.bs nb esz 0 0)}).box b'=some B'→ ∃B0,st1.box b'=some B0∧B0.live=B'.live:=fun b' B' e=>by
   by_cases y:b'=b
   ·subst y;simp only [St.setBox,Qao,Option.some.injEq]at e;subst e;exact⟨B,hB1,rfl⟩
   ·exact⟨B',by simpa only [St.setBox,Qal _ _ _ _ y]using e,rfl⟩
  intro b1 b2 g B1 B2 g1 g2 e1 e2 l1 l2;obtain⟨C1,x1,y1⟩:=key _ _ e1;obtain⟨C2,x2,y2⟩:=key _ _ e2;exact h1.inj b1 b2 g C1 C2 g1 g2 x1 x2 (y1.trans l1) (y2.trans l2)
section
variable {vs:List (Nat×PV)} {bs:List (Nat×Box)} {o:List (List PV)} {y:Yl}
theorem Zny (b:Nat) {B:Box} (hB:lkp bs b=some B) (hne:B.els≠ []):Le (St.ofG vs bs o y) (St.ofG vs ((b,{B with arr:=false})::bs) o y):=Zwn (st:=St.ofG vs bs o y) hB hne
theorem Qjp (b j nb esz:Nat) (ety:TypeId) {B:Box} (hL:Nat.blt nb LENT=true) (hB:lkp bs b=some B) (ha:B.arr=false) (h1c: ∀e∈B.els,e.cells=[e]) (hj:B.els[j]? =some .nilS) (hn:lkp bs nb=none) (hz:0<esz):
  Le (St.ofG vs bs o y) (St.ofG vs ((b,{B with els:=B.els.set j (.bs nb esz 0 0)})::(nb,{els:=[],esz:=esz,ety:=ety,fro:=0,live:=true,arr:=true})::bs) o y):=Zwo (st:=St.ofG vs bs o y) hL hB ha h1c hj hn hz
end
theorem Boxes.world {w w':World} {im:Im} {ρ:Rho} {bx:Bx} (h:Boxes (Own ρ) w im ρ bx) (hk:Keeps im w w') (ho: ∀g,Own ρ g→w'.heap[g]? =w.heap[g]?):Boxes (Own ρ) w' im ρ bx:=
 ⟨h.rho,fun b x B hx hB=>(h.box b x B hx hB).mono hk (fun _ _ x=>x) (fun _ _ _ _ x=>x) (fun _ _ x=>x) (fun _ g hg=>ho g ⟨b,by rw [hx,hg]⟩),h.inj⟩
structure GoingB (nt:Nat) (w:World) (ρ:Rho) (im:Im) (Cn:Nat→Prop) (tm:Array Value) (st:St) (r:Loop) (own:Nat→Prop) (imc:Im) (W:World) (ρb:Rho) (imb:Im):Prop where
 step:Step ρ im w ρb imb W
 raw:Raw nt st tm W ρb imb
 sub: ∀g j,imc g j→imb g j∨ ¬Own ρb g
 imcn: ∀g j,imc g j→im g j∨Own ρ g∨w.heap.size≤g
 apart: ∀g,own g→(w.heap.size+2≤g∨Cn g)∧ ¬Own ρb g
 out: ∀g j,imb g j→imc g j∨ ¬own g
 recd:W.heap[w.heap.size+1]? =some (.loop r)
 mark:W.heap[w.heap.size]? =some (.deferred (some []))
 cn: ∀g,Cn g→Own ρ g∧g<w.heap.size
theorem GoingB.step' {nt:Nat} {w:World} {ρ:Rho} {im:Im} {Cn:Nat→Prop} {tm:Array Value} {st:St} {r:Loop} {ρc ρc':Rho} {imc imc':Im} {W W':World} {ρb:Rho} {imb:Im} (h:GoingB nt w ρ im Cn tm st r (Own ρc) imc W ρb imb) (s:Step ρc imc W ρc' imc' W'):
  GoingB nt w ρ im Cn tm st r (Own ρc') imc' W' ρb imb:=by
 have hsz:w.heap.size+1<W.heap.size:=(Array.getElem?_eq_some_iff.1 h.recd).1;have hown: ∀g,Own ρb g→W'.heap[g]? =W.heap[g]? :=fun g hg=>s.lent.block g (h.raw.lt hg) fun x=>(h.apart g x).2 hg;have hk:Keeps imb W W':=⟨fun g j hi=>by
  rcases h.out g j hi with x|x
  ·exact s.keep.cell g j x
  ·obtain⟨u,hu⟩:=h.raw.imc g j hi;have hlt:g<W.heap.size:=World.block_lt_of_cell? W _ hu;exact World.cell?_of_block (w:=W) (a:=⟨g,j,none⟩) (s.lent.block g hlt x),s.keep.obj,s.keep.oth⟩
 have hno: ∀k,w.heap.size≤k→k<w.heap.size+2→ ¬Own ρc k:=fun k hk1 hk x=>by
  rcases(h.apart k x).1 with q|q
  ·omega
  ·have:=(h.cn k q).2;omega
 refine⟨⟨h.step.lent.trans (s.lent.mono h.step.lent.size fun k hk x=> ?_),h.step.keep.trans hk h.step.mono,h.step.own,h.step.mono,h.step.imn⟩,h.raw.world hk hown,?_,?_,?_,?_,?_,?_,h.cn⟩
 ·rcases(h.apart k x).1 with q|q
  ·omega
  ·exact(h.cn k q).1
 ·intro g j x;rcases s.imn g j x with y|y|y
  ·exact h.sub g j y
  ·exact .inr (h.apart g y).2
  ·exact .inr fun z=>by have:=h.raw.lt z;omega
 ·intro g j x;rcases s.imn g j x with y|y|y
  ·exact h.imcn g j y
  ·rcases(h.apart g y).1 with q|q
   ·exact .inr (.inr (by omega))
   ·exact .inr (.inl (h.cn g q).1)
  ·exact .inr (.inr (by omega))
 ·intro g x;rcases s.own g x with y|y
  ·exact h.apart g y
  ·exact⟨.inl (by omega),fun z=>by have:=h.raw.lt z;omega⟩
 ·intro g j x;rcases h.out g j x with y|y
  ·exact .inl (s.mono g j y)
  ·refine .inr fun z=> ?_;rcases s.own g z with q|q
   ·exact y q
   ·obtain⟨u,hu⟩:=h.raw.imc g j x;have hlt:g<W.heap.size:=World.block_lt_of_cell? W _ hu;omega
 ·rw [s.lent.block _ hsz (hno _ (by omega) (by omega))];exact h.recd
 ·rw [s.lent.block _ (by omega) (hno _ (by omega) (by omega))];exact h.mark
end Go.Vl
