/-
  HB11, HB12, US2, HR10 (merged for the claim).
-/
import Derived.Test.YtciddhkfbgkejaaGreatDoorHB10
import Derived.Test.YtciddhkfbgkejaaGreatDoorHM9
import Derived.Test.YtciddhkfbgkejaaGreatDoorUV
import Derived.LaidMore
import Derived.OpenShut
import Derived.Stop.Joined
import Derived.Test.YtciddhkfbgkejaaGreatDoorRows
import Derived.Test.YtciddhkfbgkejaaGreatDoorTie
import Derived.Test.YtciddhkfbgkejaaGreatDoorCards
import Derived.SevenTiedAt
import Derived.LaidSub
import Derived.MakeChecks
import Derived.Lib.LaidTab
set_option linter.unusedSimpArgs false
set_option linter.unusedVariables false
namespace Go.Proofs.YtciddhkfbgkejaaGreatDoor
open Go.Vl Go.RowKit Go.Dg
def trmL (a b:Int) (k:Int):List Int:=if b-a=0∨k=2 then [a]else if k=1 then [a,b-a]else [a,0,0,10*(b-a), -15*(b-a),6*(b-a)]
theorem Qpw (a b k:Int) (ha: -1048576≤a∧a≤1048576) (hb: -1048576≤b∧b≤1048576):Qad Tryz.prog 160 [.int .i64 a,.int .i64 b,.int .i64 k] (.slc ((trmL a b k).map (PV.int .i64))):=by
 have w0:IntKind.i64.wrap (b-a)=b-a:=Qah (by omega) (by omega)
 have w1:IntKind.i64.wrap (10*(b-a))=10*(b-a):=Qah (by omega) (by omega)
 have w2:IntKind.i64.wrap (-15*(b-a))= -15*(b-a):=Qah (by omega) (by omega)
 have w3:IntKind.i64.wrap (6*(b-a))=6*(b-a):=Qah (by omega) (by omega)
 unfold trmL
 by_cases c1:b-a=0
 ·rw [if_pos (.inl c1)]
  have c1':((b-a)==0)=true:=by rw [c1];rfl
  refine Qac (tb:=[]) 32 [.tmp 6] [0,1,2,6,7,16,20] mixed Tryz.func160 rfl (by kernel_rfl) (by kernel_rfl) (by kernel_rfl) (by kernel_rfl) ?_
  repeat (first|(simp -implicitDefEqProofs only [go_sem,Nat.reduceAdd,Nat.reduceMul,Nat.reduceEqDiff,Nat.reduceLT,Nat.reduceLeDiff,reduceIte,reduceCtorEq,Int.reduceNeg,w0,c1',List.map_cons,List.map_nil]))
 have c1':((b-a)==0)=false:=by simpa using c1
 by_cases c2:k=2
 ·rw [if_pos (.inr c2)]
  have c2':(k==2)=true:=by rw [c2];rfl
  refine Qac (tb:=[]) 32 [.tmp 6] [0,1,2,6,7,16,20] mixed Tryz.func160 rfl (by kernel_rfl) (by kernel_rfl) (by kernel_rfl) (by kernel_rfl) ?_
  repeat (first|(simp -implicitDefEqProofs only [go_sem,Nat.reduceAdd,Nat.reduceMul,Nat.reduceEqDiff,Nat.reduceLT,Nat.reduceLeDiff,reduceIte,reduceCtorEq,Int.reduceNeg,w0,c1',c2',List.map_cons,List.map_nil]))
 have c2':(k==2)=false:=by simpa using c2
 rw [if_neg (by omega)]
 by_cases c3:k=1
 ·rw [if_pos c3]
  have c3':(k==1)=true:=by rw [c3];rfl
  refine Qac (tb:=[]) 32 [.tmp 6] [0,1,2,6,7,16,20] mixed Tryz.func160 rfl (by kernel_rfl) (by kernel_rfl) (by kernel_rfl) (by kernel_rfl) ?_
  repeat (first|(simp -implicitDefEqProofs only [go_sem,Nat.reduceAdd,Nat.reduceMul,Nat.reduceEqDiff,Nat.reduceLT,Nat.reduceLeDiff,reduceIte,reduceCtorEq,Int.reduceNeg,w0,c1',c2',c3',List.map_cons,List.map_nil]))
 have c3':(k==1)=false:=by simpa using c3
 rw [if_neg c3]
 refine Qac (tb:=[]) 32 [.tmp 6] [0,1,2,6,7,16,20] mixed Tryz.func160 rfl (by kernel_rfl) (by kernel_rfl) (by kernel_rfl) (by kernel_rfl) ?_
 repeat (first|(simp -implicitDefEqProofs only [go_sem,Nat.reduceAdd,Nat.reduceMul,Nat.reduceEqDiff,Nat.reduceLT,Nat.reduceLeDiff,reduceIte,reduceCtorEq,Int.reduceNeg,w0,w1,w2,w3,c1',c2',c3',List.map_cons,List.map_nil]))
def legS (ax ay az bx byy bz f t k:Int):Sg:=⟨f,t,1,trmL ax bx k,trmL ay byy k,trmL az bz k⟩
theorem Zhj (ax ay az bx byy bz f t k:Int) (h1: -1048576≤ax∧ax≤1048576) (h2: -1048576≤ay∧ay≤1048576) (h3: -1048576≤az∧az≤1048576) (h4: -1048576≤bx∧bx≤1048576) (h5: -1048576≤byy∧byy≤1048576) (h6: -1048576≤bz∧bz≤1048576):
  Qad Tryz.prog 114 [.agg [.int .i64 ax,.int .i64 ay,.int .i64 az],.agg [.int .i64 bx,.int .i64 byy,.int .i64 bz],.int .i64 f,.int .i64 t,.int .i64 k] (sgPV (legS ax ay az bx byy bz f t k)):=by
 have f1:=Qpw ax bx k h1 h4
 have f2:=Qpw ay byy k h2 h5
 have f3:=Qpw az bz k h3 h6
 have e:sgPV (legS ax ay az bx byy bz f t k)= .agg [.int .i64 f,.int .i64 t,.int .i64 1,.slc ((trmL ax bx k).map (PV.int .i64)),.slc ((trmL ay byy k).map (PV.int .i64)),.slc ((trmL az bz k).map (PV.int .i64))]:=rfl
 rw [e]
 clear e
 generalize (trmL ax bx k).map (PV.int .i64)=L1 at*
 generalize (trmL ay byy k).map (PV.int .i64)=L2 at*
 generalize (trmL az bz k).map (PV.int .i64)=L3 at*
 refine Qac (tb:=[]) 32 [.cell 10 56] [0,1,2,3,4,5,6,10] mixed Tryz.func114 rfl (by kernel_rfl) (by kernel_rfl) (by kernel_rfl) (by kernel_rfl) ?_
 repeat (first|(simp -implicitDefEqProofs only [go_sem,Nat.reduceAdd,Nat.reduceMul,Nat.reduceEqDiff,Nat.reduceLT,Nat.reduceLeDiff,reduceCtorEq])|((with_reducible refine Qab (f1) ?_ ?_ ?_);(with_reducible rfl);rfl)|((with_reducible refine Qab (f2) ?_ ?_ ?_);(with_reducible rfl);rfl)|((with_reducible refine Qab (f3) ?_ ?_ ?_);(with_reducible rfl);rfl)|(with_reducible exact Qaa _ _ (by kernel_rfl))|(with_reducible refine And.intro (Qaa _ _ (by kernel_rfl)) ?_))
def gBat:Bat:=⟨100,50,200,10000,1000⟩
theorem Qrs:Qad Tryz.prog 115 [] (baPV gBat):=by
 unfold baPV gBat
 refine Qac (tb:=[]) 2 [.cell 0 59] [0] mixed Tryz.func115 rfl (by kernel_rfl) (by kernel_rfl) (by kernel_rfl) (by kernel_rfl) ?_
 repeat (first|(simp -implicitDefEqProofs only [go_sem,Nat.reduceAdd,Nat.reduceMul,Nat.reduceLT,Nat.reduceLeDiff,reduceCtorEq]))
theorem Qjw (x y z:Int):Qad Tryz.prog 69 [.int .i64 x,.int .i64 y,.int .i64 z] (.agg [.int .i64 x,.int .i64 y,.int .i64 z]):=by
 refine Qac (tb:=[]) 11 [.cell 6 26] [0,1,2,6] mixed Tryz.func69 rfl (by kernel_rfl) (by kernel_rfl) (by kernel_rfl) (by kernel_rfl) ?_
 repeat (first|(simp -implicitDefEqProofs only [go_sem,Nat.reduceAdd,Nat.reduceMul,Nat.reduceEqDiff,Nat.reduceLT,Nat.reduceLeDiff,reduceCtorEq]))
def sgB (s:Sg):Bool:=decide (-9223372036854775808≤s.f∧s.f≤9223372036854775807)&&(decide (-9223372036854775808≤s.t∧s.t≤9223372036854775807)&&(decide (-9223372036854775808≤s.o∧s.o≤9223372036854775807)&&(s.ax.all fun c=>c.all (fun x=>decide (-9223372036854775808≤x∧x≤9223372036854775807))&&decide (c.length≤1000))))
theorem Zhk {s:Sg} (h:sgB s=true):okSg s:=by
 unfold sgB at h
 simp only [Bool.and_eq_true,decide_eq_true_eq,List.all_eq_true]at h
 obtain⟨h1,h2,h3,h4⟩:=h
 exact⟨h1,h2,h3,fun c hc=>(h4 c hc).1,fun c hc=>(h4 c hc).2⟩
theorem Qea (ax ay az bx byy bz time kind wx wy wz want:Int) (hp:([ax,ay,az,bx,byy,bz].all fun x=>decide (-1048576≤x)&&decide (x≤1048576))=true) (hs:sgB (legS ax ay az bx byy bz 0 time kind)=true) (hv:Qa2 (legS ax ay az bx byy bz 0 time kind)=true)
  (hw:(blB wx&&(blB wy&&blB wz))=true) (hc:Qey (legS ax ay az bx byy bz 0 time kind) gBat wx wy wz=want) (hle:want≤mxE):
  Qad Tryz.prog 70 [.agg [.int .i64 ax,.int .i64 ay,.int .i64 az],.agg [.int .i64 bx,.int .i64 byy,.int .i64 bz],.int .i64 time,.int .i64 kind,.agg [.int .i64 wx,.int .i64 wy,.int .i64 wz],.int .i64 want] (.bool true):=by
 simp only [List.all_cons,List.all_nil,Bool.and_true,Bool.and_eq_true]at hp
 simp only [Bool.and_eq_true]at hw
 obtain⟨p1,p2,p3,p4,p5,p6⟩:=hp
 have f1:=Zhj ax ay az bx byy bz 0 time kind (by simpa using p1) (by simpa using p2) (by simpa using p3) (by simpa using p4) (by simpa using p5) (by simpa using p6)
 have f2:=Qrs
 have f3:=Q2i (legS ax ay az bx byy bz 0 time kind) gBat wx wy wz (Zhk hs)
 have hB:Qat gBat=true:=by decide+kernel
 rw [Qp0 hw.1 hw.2.1 hw.2.2 hv hB,hc,if_pos hle]at f3
 have eb:baPV gBat= .agg [.int .i64 100,.int .i64 50,.int .i64 200,.int .i64 10000,.int .i64 1000]:=rfl
 rw [eb]at f2 f3
 obtain⟨S1,S2,S3,S4,S5,S6,hS⟩: ∃S1 S2 S3 S4 S5 S6,sgPV (legS ax ay az bx byy bz 0 time kind)= .agg [.int .i64 S1,.int .i64 S2,.int .i64 S3,.slc S4,.slc S5,.slc S6]:=⟨_,_,_,_,_,_,rfl⟩
 rw [hS]at f1 f3
 refine Qac (tb:=[]) 33 [.tmp 12] [0,1,2,3,4,5,6,7,10,12,13,14] mixed Tryz.func70 rfl (by kernel_rfl) (by kernel_rfl) (by kernel_rfl) (by kernel_rfl) ?_
 repeat (first|(simp -implicitDefEqProofs only [go_sem,Nat.reduceAdd,Nat.reduceMul,Nat.reduceEqDiff,Nat.reduceLT,Nat.reduceLeDiff,reduceCtorEq,Zak,beq_self_eq_true])|((with_reducible refine Qab (f1) ?_ ?_ ?_);(with_reducible rfl);rfl)|((with_reducible refine Qab (f2) ?_ ?_ ?_);(with_reducible rfl);rfl)|((with_reducible refine Qab (f3) ?_ ?_ ?_);(with_reducible rfl);rfl)|(with_reducible exact Qaa _ _ (by kernel_rfl))|(with_reducible refine And.intro (Qaa _ _ (by kernel_rfl)) ?_))
theorem Qx8 {s:Sg} (h:Qa2 s=true) (B:Bat) (hB:Qat B=true):Qe9 [s] B []=true:=by
 unfold Qe9
 rw [Qmj h,hB];rfl
theorem Qrt (n:Int) (b:Bool) (h0:0≤n) (h1:n≤3600) (hs:sgB (legS 0 0 0 0 0 0 0 (1000*n) 2)=true) (hv:Qa2 (legS 0 0 0 0 0 0 0 (1000*n) 2)=true) (hc:totE [] gBat [legS 0 0 0 0 0 0 0 (1000*n) 2]≤mxE)
  (hb:decide (gBat.res≤gBat.cap-totE [] gBat [legS 0 0 0 0 0 0 0 (1000*n) 2])=b):Qad Tryz.prog 71 [.int .i64 n,.bool b] (.bool true):=by
 have g1:=Qjw 0 0 0
 have f1:=Zhj 0 0 0 0 0 0 0 (1000*n) 2 (by decide) (by decide) (by decide) (by decide) (by decide) (by decide)
 have f2:=Qrs
 have f3:=Q2n [legS 0 0 0 0 0 0 0 (1000*n) 2] gBat [] (fun s hs'=>by rw [List.mem_singleton.1 hs'];exact Zhk hs) (by decide) (by simp)
 have hB:Qat gBat=true:=by decide+kernel
 unfold ehPV at f3
 rw [if_pos (Qx8 hv gBat hB),if_pos hc,hb]at f3
 have eb:baPV gBat= .agg [.int .i64 100,.int .i64 50,.int .i64 200,.int .i64 10000,.int .i64 1000]:=rfl
 rw [eb]at f2 f3
 have hwn:IntKind.i64.wrap (1000*n)=1000*n:=Qah (by omega) (by omega)
 have ep:Qbs [legS 0 0 0 0 0 0 0 (1000*n) 2]= .slc [sgPV (legS 0 0 0 0 0 0 0 (1000*n) 2)]:=rfl
 rw [ep]at f3
 obtain⟨S1,S2,S3,S4,S5,S6,hS⟩: ∃S1 S2 S3 S4 S5 S6,sgPV (legS 0 0 0 0 0 0 0 (1000*n) 2)= .agg [.int .i64 S1,.int .i64 S2,.int .i64 S3,.slc S4,.slc S5,.slc S6]:=⟨_,_,_,_,_,_,rfl⟩
 rw [hS]at f1 f3
 unfold wsPV at f3
 rw [List.map_nil]at f3
 clear hS ep hb hc hv hs
 refine Qac (tb:=[]) 25 [.tmp 4] [0,1,4,5,6] mixed Tryz.func71 rfl (by kernel_rfl) (by kernel_rfl) (by kernel_rfl) (by kernel_rfl) ?_
 repeat (first|(simp -implicitDefEqProofs only [go_sem,Nat.reduceAdd,Nat.reduceMul,Nat.reduceEqDiff,Nat.reduceLT,Nat.reduceLeDiff,reduceIte,reduceCtorEq,Zak,hwn,beq_self_eq_true])|((with_reducible refine Qab (g1) ?_ ?_ ?_);(with_reducible rfl);rfl)|((with_reducible refine Qab (f1) ?_ ?_ ?_);(with_reducible rfl);rfl)|((with_reducible refine Qab (f2) ?_ ?_ ?_);(with_reducible rfl);rfl)|((with_reducible refine Qab (f3) ?_ ?_ ?_);(with_reducible rfl);rfl))
set_option maxHeartbeats 8000000 in
set_option maxRecDepth 100000 in
theorem Qru:Qad Tryz.prog 30 [] (.bool true):=by
 have v1:=Qjw 0 0 0
 have v2:=Qjw 1000 0 0
 have v3:=Qjw 0 0 1000
 have v4:=Qjw (-1000) 0 0
 have v5:=Qjw 700 0 0
 have c1:=Qea 0 0 0 0 0 0 1000 2 0 0 0 100 (by decide+kernel) (by decide+kernel) (by decide+kernel) (by decide+kernel) (by decide+kernel) (by decide+kernel)
 have c2:=Qea 0 0 0 0 0 0 1 2 0 0 0 1 (by decide+kernel) (by decide+kernel) (by decide+kernel) (by decide+kernel) (by decide+kernel) (by decide+kernel)
 have c3:=Qea 0 0 0 0 0 0 1000 2 1000 0 0 300 (by decide+kernel) (by decide+kernel) (by decide+kernel) (by decide+kernel) (by decide+kernel) (by decide+kernel)
 have c4:=Qea 0 0 0 1000 0 0 1000 1 0 0 0 300 (by decide+kernel) (by decide+kernel) (by decide+kernel) (by decide+kernel) (by decide+kernel) (by decide+kernel)
 have c5:=Qea 0 0 0 1000 0 0 1000 1 1000 0 0 100 (by decide+kernel) (by decide+kernel) (by decide+kernel) (by decide+kernel) (by decide+kernel) (by decide+kernel)
 have c6:=Qea 0 0 0 1000 0 0 1000 1 (-1000) 0 0 900 (by decide+kernel) (by decide+kernel) (by decide+kernel) (by decide+kernel) (by decide+kernel) (by decide+kernel)
 have c7:=Qea 0 0 0 0 0 1000 1000 1 0 0 0 800 (by decide+kernel) (by decide+kernel) (by decide+kernel) (by decide+kernel) (by decide+kernel) (by decide+kernel)
 have c8:=Qea 0 0 1000 0 0 0 1000 1 0 0 0 300 (by decide+kernel) (by decide+kernel) (by decide+kernel) (by decide+kernel) (by decide+kernel) (by decide+kernel)
 have c9:=Qea 0 0 0 700 0 0 1000 0 0 0 0 240 (by decide+kernel) (by decide+kernel) (by decide+kernel) (by decide+kernel) (by decide+kernel) (by decide+kernel)
 have e1:=Qrt 90 true (by decide) (by decide) (by decide+kernel) (by decide+kernel) (by decide+kernel) (by decide+kernel)
 have e2:=Qrt 91 false (by decide) (by decide) (by decide+kernel) (by decide+kernel) (by decide+kernel) (by decide+kernel)
 refine Qac (tb:=[]) 69 [.tmp 0] [0,1,2,3,25,58] mixed Tryz.func30 rfl (by kernel_rfl) (by kernel_rfl) (by kernel_rfl) (by kernel_rfl) ?_
 repeat (first|(simp -implicitDefEqProofs only [go_sem,Nat.reduceAdd,Nat.reduceMul,Nat.reduceEqDiff,Nat.reduceLT,Nat.reduceLeDiff,reduceCtorEq,Int.reduceNeg,Bool.not_true])|((with_reducible refine Qab (v1) ?_ ?_ ?_);(with_reducible rfl);rfl)|((with_reducible refine Qab (v2) ?_ ?_ ?_);(with_reducible rfl);rfl)|((with_reducible refine Qab (v3) ?_ ?_ ?_);(with_reducible rfl);rfl)|((with_reducible refine Qab (c1) ?_ ?_ ?_);(with_reducible rfl);rfl)|((with_reducible refine Qab (c2) ?_ ?_ ?_);(with_reducible rfl);rfl)|((with_reducible refine Qab (c3) ?_ ?_ ?_);(with_reducible rfl);rfl)|(with_reducible exact Qaa _ _ (by kernel_rfl))|(with_reducible refine And.intro (Qaa _ _ (by kernel_rfl)) ?_))
 repeat (first|(simp -implicitDefEqProofs only [go_sem,Nat.reduceAdd,Nat.reduceMul,Nat.reduceEqDiff,Nat.reduceLT,Nat.reduceLeDiff,reduceCtorEq,Int.reduceNeg,Bool.not_true])|((with_reducible refine Qab (c4) ?_ ?_ ?_);(with_reducible rfl);rfl)|((with_reducible refine Qab (c5) ?_ ?_ ?_);(with_reducible rfl);rfl)|((with_reducible refine Qab (v4) ?_ ?_ ?_);(with_reducible rfl);rfl)|((with_reducible refine Qab (c6) ?_ ?_ ?_);(with_reducible rfl);rfl)|((with_reducible refine Qab (c7) ?_ ?_ ?_);(with_reducible rfl);rfl)|((with_reducible refine Qab (c8) ?_ ?_ ?_);(with_reducible rfl);rfl)|(with_reducible exact Qaa _ _ (by kernel_rfl))|(with_reducible refine And.intro (Qaa _ _ (by kernel_rfl)) ?_))
 repeat (first|(simp -implicitDefEqProofs only [go_sem,Nat.reduceAdd,Nat.reduceEqDiff,Nat.reduceLT,reduceCtorEq,Bool.not_true])|((with_reducible refine Qab (v5) ?_ ?_ ?_);(with_reducible rfl);rfl)|((with_reducible refine Qab (c9) ?_ ?_ ?_);(with_reducible rfl);rfl)|((with_reducible refine Qab (e1) ?_ ?_ ?_);(with_reducible rfl);rfl)|((with_reducible refine Qab (e2) ?_ ?_ ?_);(with_reducible rfl);rfl)|(with_reducible exact Qaa _ _ (by kernel_rfl))|(with_reducible refine And.intro (Qaa _ _ (by kernel_rfl)) ?_))
end Go.Proofs.YtciddhkfbgkejaaGreatDoor

namespace Go.Proofs.YtciddhkfbgkejaaGreatDoor
open Go.Vl Go.RowKit Go.Dg
def rawS (s:Sg):Prop:=i64 s.f∧i64 s.t∧i64 s.o∧ ∀c∈s.ax,(∀x∈c,i64 x)∧c.length≤maxLen
theorem Q2f {s:Sg} (h:rawS s) (hl: ∀c∈s.ax,c.length≤1000):okSg s:=⟨h.1,h.2.1,h.2.2.1,fun c hc=>(h.2.2.2 c hc).1,hl⟩
theorem Zjj (s:Sg) (B:Bat) (x y z:Int): ∃n e,Qrv s B x y z= .tup [.int .i64 n,.int .i64 e]:=by
 unfold Qrv
 split
 ·split<;>exact⟨_,_,rfl⟩
 ·exact⟨_,_,rfl⟩
set_option maxHeartbeats 4000000 in
theorem Qnn (s:Sg) (B:Bat) (x y z:Int) (hr:rawS s):Qad Tryz.prog 8 [sgPV s,baPV B,.agg [.int .i64 x,.int .i64 y,.int .i64 z]] (.bool true):=by
 have hk:=Qru
 have hf:=Zhv [s] 1 (by decide) (by unfold maxLen;simp)
 have e:Qbs [s]= .slc [sgPV s]:=rfl
 rw [e]at hf
 have hsg:sgPV s= .agg [.int .i64 s.f,.int .i64 s.t,.int .i64 s.o,.slc (s.x.map (PV.int .i64)),.slc (s.y.map (PV.int .i64)),.slc (s.z.map (PV.int .i64))]:=rfl
 cases hF:fewB [s] 1 with
 |false=>
  rw [hF]at hf
  rw [hsg]at hf ⊢
  unfold baPV
  refine Qac (tb:=[]) 48 [.tmp 6] [0,1,2,3,4,5,6,7,8,9,10,14] mixed Tryz.func8 rfl (by kernel_rfl) (by kernel_rfl) (by kernel_rfl) (by kernel_rfl) ?_
  repeat (first|(simp -implicitDefEqProofs only [go_sem,Nat.reduceAdd,Nat.reduceMul,Nat.reduceEqDiff,Nat.reduceLT,Nat.reduceLeDiff,reduceIte,reduceCtorEq,Bool.not_false])|((with_reducible refine Qab (hf) ?_ ?_ ?_);(with_reducible rfl);rfl)|((with_reducible refine Qab (hk) ?_ ?_ ?_);(with_reducible rfl);rfl)|(with_reducible exact Qaa _ _ (by kernel_rfl))|(with_reducible refine And.intro (Qaa _ _ (by kernel_rfl)) ?_))
 |true=>
  rw [hF]at hf
  have hs:okSg s:=Q2f hr (fun c hc=>by have:=(Qoc hF).2 s (by simp) c hc;omega)
  have c1:=Q2i s B x y z hs
  have c2:=Q2j s B x y z hs
  have v1:=Qpx B
  have v2:=Qmh B
  obtain⟨n,e,hc⟩:=Zjj s B x y z
  rw [hc]at c1 c2
  rw [hsg]at hf c1 c2 ⊢
  unfold baPV at c1 c2 v1 v2 ⊢
  generalize Qat B=b at*
  clear hc hsg hF hs hr
  refine Qac (tb:=[]) 48 [.tmp 6] [0,1,2,3,4,5,6,7,8,9,10,14] mixed Tryz.func8 rfl (by kernel_rfl) (by kernel_rfl) (by kernel_rfl) (by kernel_rfl) ?_
  repeat (first|(simp -implicitDefEqProofs only [go_sem,Nat.reduceAdd,Nat.reduceMul,Nat.reduceEqDiff,Nat.reduceLT,Nat.reduceLeDiff,reduceIte,reduceCtorEq,Bool.not_true,beq_self_eq_true])|((with_reducible refine Qab (hf) ?_ ?_ ?_);(with_reducible rfl);rfl)|((with_reducible refine Qab (c1) ?_ ?_ ?_);(with_reducible rfl);rfl)|((with_reducible refine Qab (c2) ?_ ?_ ?_);(with_reducible rfl);rfl)|((with_reducible refine Qab (v1) ?_ ?_ ?_);(with_reducible rfl);rfl)|((with_reducible refine Qab (v2) ?_ ?_ ?_);(with_reducible rfl);rfl)|((with_reducible refine Qab (hk) ?_ ?_ ?_);(with_reducible rfl);rfl)|(with_reducible exact Qaa _ _ (by kernel_rfl))|(with_reducible refine And.intro (Qaa _ _ (by kernel_rfl)) ?_))
set_option maxHeartbeats 8000000 in
theorem Qkz (p:List Sg) (B:Bat) (l:List Wd) (hr:(∀s∈p,rawS s)∧p.length≤maxLen) (hl:l.length≤maxLen):Qad Tryz.prog 10 [.slc (p.map sgPV),baPV B,wsPV l] (.bool true):=by
 have hk:=Qru
 have hf:=Zhv p 6 (by decide) hr.2
 unfold Qbs at hf
 unfold baPV
 cases hF:fewB p 6 with
 |false=>
  rw [hF]at hf
  refine Qac (tb:=[]) 45 [.tmp 6] [0,1,2,4,6,7,8,9,10,18] mixed Tryz.func10 rfl (by kernel_rfl) (by kernel_rfl) (by kernel_rfl) (by kernel_rfl) ?_
  repeat (first|(simp -implicitDefEqProofs only [go_sem,Nat.reduceAdd,Nat.reduceMul,Nat.reduceEqDiff,Nat.reduceLT,Nat.reduceLeDiff,reduceCtorEq,Bool.not_false])|((with_reducible refine Qab (hf) ?_ ?_ ?_);(with_reducible rfl);rfl)|((with_reducible refine Qab (hk) ?_ ?_ ?_);(with_reducible rfl);rfl))
 |true=>
  rw [hF]at hf
  by_cases h12:12<l.length
  ·have h12':((12:Int)<(l.length:Int))=True:=eq_true (by omega)
   refine Qac (tb:=[]) 45 [.tmp 6] [0,1,2,4,6,7,8,9,10,18] mixed Tryz.func10 rfl (by kernel_rfl) (by kernel_rfl) (by kernel_rfl) (by kernel_rfl) ?_
   repeat (first|(simp -implicitDefEqProofs only [go_sem,Nat.reduceAdd,Nat.reduceMul,Nat.reduceEqDiff,Nat.reduceLT,Nat.reduceLeDiff,reduceCtorEq,Bool.not_true,h12',decide_true,List.length_map])|((with_reducible refine Qab (hf) ?_ ?_ ?_);(with_reducible rfl);rfl)|((with_reducible refine Qab (hk) ?_ ?_ ?_);(with_reducible rfl);rfl))
  have h12':((12:Int)<(l.length:Int))=False:=eq_false (by omega)
  obtain⟨l6,l8⟩:=Qoc hF
  have hp: ∀s∈p,okSg s:=fun s hs=>Q2f (hr.1 s hs) (fun c hc=>by have:=l8 s hs c hc;omega)
  have c1:=Q99 p B l hp hl (by omega)
  have c2:=Q96 p B l hp hl (by omega)
  unfold Qbs baPV at c1 c2
  obtain⟨n,e,hrc⟩: ∃n e,rcPV l B p= .tup [.int .i64 n,.int .i64 e]:=by unfold rcPV;split<;>exact⟨_,_,rfl⟩
  rw [hrc]at c1 c2
  clear hF hr hrc
  refine Qac (tb:=[]) 45 [.tmp 6] [0,1,2,4,6,7,8,9,10,18] mixed Tryz.func10 rfl (by kernel_rfl) (by kernel_rfl) (by kernel_rfl) (by kernel_rfl) ?_
  repeat (first|(simp -implicitDefEqProofs only [go_sem,Nat.reduceAdd,Nat.reduceMul,Nat.reduceEqDiff,Nat.reduceLT,Nat.reduceLeDiff,reduceCtorEq,Bool.not_true,h12',decide_false,beq_self_eq_true,List.length_map])|((with_reducible refine Qab (hf) ?_ ?_ ?_);(with_reducible rfl);rfl)|((with_reducible refine Qab (c1) ?_ ?_ ?_);(with_reducible rfl);rfl)|((with_reducible refine Qab (c2) ?_ ?_ ?_);(with_reducible rfl);rfl)|((with_reducible refine Qab (hk) ?_ ?_ ?_);(with_reducible rfl);rfl))
end Go.Proofs.YtciddhkfbgkejaaGreatDoor

namespace Go.Vl
open Go.RowKit
section
variable {H:Type} {enc:TypeId×Value→H}
theorem Qg7 {a:Assume} {C:Checked} {os:Os} {f:FuncId} {fn:Func} {s:ChangeSpec} {conds:List PathCond} {apart fresh handsOn again:Bool} {tb:TypeId} {L:List (String×DataW Unit)} (tts:List TT)
  (own:ownKnob C.prog.godebug=none) (started:os.Started) (noInit:C.prog.inits.idxOf? f=none) (hfn:C.prog.funcs[f]? =some fn)
  (witness: ∃(w:World) (tape:Tape) (i:Input),w.os=os∧(w.forCall tape i).Shaped C.prog∧i.vars=[]∧Input.okWide C.prog (w.forCall tape i) .any w.heap.size f i∧
   ((s.pre enc C.prog fn conds apart (w.forCall tape i).memory i.args∧laidMetH C.prog L (w.forCall tape i).memory)∧sizedMet enc C.prog fn (OpenSpec.ofChange s) apart (w.forCall tape i).memory i.args)∧a.holds C.prog (lone (Frame.enter C.prog f i.args .normal) [] (w.forCall tape i)))
  (hl:laidOutB C.prog=true) (hvars:s.vars=[]) (hres:fn.resultTypes= #[tb]) (hbool:C.prog.underlying tb=some .bool) (hts:(fn.params.toList.all fun t=>C.prog.readableRec t&&decide (t<C.prog.types.size))=true)
  (hfit:Qkc C.prog tts fn.params.toList=true) (hs: ∀ds:List (DataW H),ds.length=tts.length→s.fn H ds={results:=[.lit (.bool true)],args:=ds})
  (hcl:callable C.prog f=true) (hlay: ∀W:World,laidMetH C.prog L W→Laid C.prog W.heap.size W) (law: ∀pvs,Qvo tts pvs→Qad C.prog f pvs (.bool true)):
  ReturnsInHanded a C os f .any (fun w args=>(s.pre enc C.prog fn conds apart w args∧laidMetH C.prog L w)∧sizedMet enc C.prog fn (OpenSpec.ofChange s) apart w args) (s.post enc C.prog fn apart fresh handsOn again):=by
 refine returnsInHanded_of_change_and (X:=fun w _=>laidMetH C.prog L w) (fun _ _ _ hh h=>h.of_heap hh) own started noInit hfn witness ?_
 intro W base args ds gs before hval hW q1 q2 q3 q4
 have hW':=hW
 obtain⟨p,q,hA,hV,rfl,hz,hn⟩:=hW
 rw [hvars]at hV
 obtain⟨rfl,rfl⟩:=ChangeShapes.trodVars_none hV
 obtain⟨pvs,h1,h2,h3⟩:=Qxr tts fn.params.toList args.toList ds p hfit (fun j t v e1 e2=>hval j t v (by simpa using e1) (by simpa using e2)) hA
 have hts': ∀t∈fn.params.toList,C.prog.readableRec t=true∧t<C.prog.types.size:=by
  intro t ht
  have:=List.all_eq_true.1 hts t ht
  simpa using this
 have hcall:=((law pvs h1).resolve_right (fun x=>by rw [hcl]at x;cases x.1)).2 W (exIm W) args.toList W.heap.size (Nat.le_refl _) (hlay W (by first|exact q1|exact q2|exact q3|exact q4)) h2 (fun g j x=>x)
 refine(by simpa using hcall:Calls C.prog f args W _).mono ?_
 rintro e W' ⟨v,rfl,hb,hr⟩
 have hv:v= .bool true:=by cases hr;rfl
 subst hv
 exact⟨_,rfl,Qvp hl hvars hres hbool hts' hW' (by rw [List.append_nil];exact hs ds h3) hb⟩
end
end Go.Vl

namespace Go.Proofs.YtciddhkfbgkejaaGreatDoor
open Go.Vl Go.RowKit Go.Dg
theorem own:ownKnob Tryz.prog.godebug=none:=by kernel_rfl
theorem Q29:laidOutB Tryz.prog=true:=by kernel_rfl
def Qt8:List (String×DataW Unit):=[("math/bits.deBruijn32tab",Rows.laid_math_bits_deBruijn32tab),("math/bits.deBruijn64tab",Rows.laid_math_bits_deBruijn64tab)]
theorem Qws (os:Os) (args:Array Value):laidMetH Tryz.prog Qt8 ((World.doorLaid Tryz.prog 62 os).forCall (fun _ _=>0) ⟨#[],args,[]⟩).memory:=
 laidMetH_of_parts3 (fuel:=8) (laidMet_of_run' 8 (by kernel_rfl) (by kernel_rfl)) (by kernel_rfl) (by kernel_rfl)
def Q3a:List Int:=Go.Lib.deBruijn64tab.map fun(z:Nat)=>(z:Int)
theorem hlay (W:World) (h:laidMetH Tryz.prog Qt8 W):Laid Tryz.prog W.heap.size W:=by
 rintro nm tab (⟨rfl,rfl⟩|⟨rfl,rfl⟩) g hg
 ·have e:Tryz.prog.globalNamed Q7t=none:=by kernel_rfl
  rw [e]at hg;cases hg
 obtain rfl:g=1:=Option.some.inj (hg.symm.trans (by kernel_rfl))
 have hf:=h.filter (fun x=>x.1==Qmv)
 have e:Qt8.filter (fun x=>x.1==Qmv)=[(Qmv,Lib.tabData .u8 Q3a)]:=by kernel_rfl
 rw [e,MakeChecks.laidMetH_plain _ _ _ (by kernel_rfl)]at hf
 have ht:Lib.TabIs Tryz.prog W Qmv .u8 Q3a:=Lib.tabIs_of_head (g:=1) (t:=238) (e:=5) (n:=64) (by kernel_rfl) (by kernel_rfl) (by kernel_rfl) (by kernel_rfl) (by kernel_rfl) (by kernel_rfl) hf
 have e2:(Q3a.map fun z=>Value.int .u8 z).toArray=Q7u:=by kernel_rfl
 unfold Lib.TabIs at ht
 rw [e2]at ht
 refine⟨?_,ht⟩
 simp only [World.var?,hg,Option.bind_some]at ht
 cases hh:W.heap[(1:Nat)]? with
 |none=>rw [hh]at ht;cases ht
 |some o=>exact(Array.getElem?_eq_some_iff.1 hh).1
theorem Zav {k:IntKind} {c:List PV} (h:Qb4 (.int k) c): ∃n:Int,TT.mk (.int k) c= .int k n∧(Lit.int k n).wf=true:=by
 simp only [Qb4]at h
 obtain⟨x,rfl,hx⟩:=h
 exact⟨x,rfl,hx⟩
theorem Qc1 {n:Int} (h:(Lit.int .i64 n).wf=true): -9223372036854775808≤n∧n≤9223372036854775807:=by
 have:=h
 simp [Lit.wf,IntKind.min,IntKind.max,IntKind.signed,IntKind.bits]at this
 omega
theorem Zaw {c:List PV} (h:Qb4 (.int .i64) c): ∃n:Int,TT.mk (.int .i64) c= .int .i64 n∧i64 n:=by
 obtain⟨n,e,w⟩:=Zav h
 exact⟨n,e,Qc1 w⟩
def vecT:TT:= .agg [.int .i64,.int .i64,.int .i64]
theorem Zax {c:List PV} (h:Qb4 vecT c): ∃x y z:Int,vecT.mk c= .agg [.int .i64 x,.int .i64 y,.int .i64 z]:=by
 simp only [vecT,Qb4,Qe7]at h
 obtain⟨_,_,rfl,⟨x,rfl,_⟩,_,_,rfl,⟨y,rfl,_⟩,_,_,rfl,⟨z,rfl,_⟩,rfl⟩:=h
 exact⟨x,y,z,rfl⟩
def batT:TT:= .agg [.int .i64,.int .i64,.int .i64,.int .i64,.int .i64]
theorem Qwt {c:List PV} (h:Qb4 batT c): ∃B:Bat,batT.mk c=baPV B∧okBat B:=by
 simp only [batT,Qb4,Qe7]at h
 obtain⟨_,_,rfl,⟨a,rfl,ha⟩,_,_,rfl,⟨b,rfl,hb⟩,_,_,rfl,⟨d,rfl,hd⟩,_,_,rfl,⟨e,rfl,he⟩,_,_,rfl,⟨f,rfl,hf⟩,rfl⟩:=h
 exact⟨⟨a,b,d,e,f⟩,rfl,Qc1 ha,Qc1 hb,Qc1 hd,Qc1 he,Qc1 hf⟩
def Qsc:TT:= .agg [vecT,vecT,.int .i64,.int .i64,vecT]
theorem Q3b {c:List PV} (h:Qb4 Qsc c): ∃w:Wd,Qsc.mk c=wdPV w:=by
 simp only [Qsc,vecT,Qb4,Qe7]at h
 obtain⟨_,_,rfl,⟨_,_,rfl,⟨a1,rfl,_⟩,_,_,rfl,⟨a2,rfl,_⟩,_,_,rfl,⟨a3,rfl,_⟩,rfl⟩,_,_,rfl,⟨_,_,rfl,⟨b1,rfl,_⟩,_,_,rfl,⟨b2,rfl,_⟩,_,_,rfl,⟨b3,rfl,_⟩,rfl⟩,_,_,rfl,⟨f,rfl,_⟩,_,_,rfl,⟨t,rfl,_⟩,
  _,_,rfl,⟨_,_,rfl,⟨u1,rfl,_⟩,_,_,rfl,⟨u2,rfl,_⟩,_,_,rfl,⟨u3,rfl,_⟩,rfl⟩,rfl⟩:=h
 exact⟨⟨a1,a2,a3,b1,b2,b3,f,t,u1,u2,u3⟩,rfl⟩
theorem Qyc {c:List PV} (h:Qb4 (.slc Qsc) c): ∃l:List Wd,TT.mk (.slc Qsc) c=wsPV l∧l.length≤maxLen:=by
 simp only [Qb4]at h
 obtain⟨ess,rfl,hm,h⟩:=h
 have key: ∀ess:List (List PV),(∀c∈ess,Qb4 Qsc c)→ ∃l:List Wd,ess.map Qsc.mk=l.map wdPV∧l.length=ess.length:=by
  intro ess
  induction ess with
  |nil=>exact fun _=>⟨[],rfl,rfl⟩
  |cons c cs ih=>
   intro h
   obtain⟨s,e⟩:=Q3b (h c (by simp))
   obtain⟨l,hl,hn⟩:=ih (fun c hc=>h c (by simp [hc]))
   exact⟨s::l,by simp [e,hl],by simp [hn]⟩
 obtain⟨l,e,hn⟩:=key ess h
 exact⟨l,by simp only [TT.mk,List.headD_cons];rw [e],by omega⟩
def segT:TT:= .agg [.int .i64,.int .i64,.int .i64,.slc (.int .i64),.slc (.int .i64),.slc (.int .i64)]
theorem Qit: ∀ess:List (List PV),(∀c∈ess,Qb4 (.int .i64) c)→ ∃l:List Int,ess.map (TT.mk (.int .i64))=l.map (PV.int .i64)∧l.length=ess.length∧ ∀x∈l,i64 x
 | [],_=>⟨[],rfl,rfl,fun _ h=>nomatch h⟩
 |c::cs,h=>by
  obtain⟨n,e,b⟩:=Zaw (h c (by simp))
  obtain⟨l,hl,hn,hx⟩:=Qit cs (fun c hc=>h c (by simp [hc]))
  refine⟨n::l,by simp [e,hl],by simp [hn],fun x hx'=> ?_⟩
  cases hx' with
  |head=>exact b
  |tail _ h=>exact hx x h
theorem Qwu {c:List PV} (h:Qb4 segT c): ∃s:Sg,segT.mk c=sgPV s∧rawS s:=by
 simp only [segT,Qb4,Qe7]at h
 obtain⟨_,_,rfl,⟨f,rfl,hf⟩,_,_,rfl,⟨t,rfl,ht⟩,_,_,rfl,⟨o,rfl,ho⟩,_,_,rfl,⟨ex,rfl,mx,hx⟩,_,_,rfl,⟨ey,rfl,my,hy⟩,_,_,rfl,⟨ez,rfl,mz,hz⟩,rfl⟩:=h
 obtain⟨lx,e1,n1,b1⟩:=Qit ex (fun c hc=>by have:=hx c hc;simpa only [Qb4]using this)
 obtain⟨ly,e2,n2,b2⟩:=Qit ey (fun c hc=>by have:=hy c hc;simpa only [Qb4]using this)
 obtain⟨lz,e3,n3,b3⟩:=Qit ez (fun c hc=>by have:=hz c hc;simpa only [Qb4]using this)
 refine⟨⟨f,t,o,lx,ly,lz⟩,?_,Qc1 hf,Qc1 ht,Qc1 ho,?_⟩
 ·show PV.agg [.int .i64 f,.int .i64 t,.int .i64 o,.slc (ex.map (TT.mk (.int .i64))),.slc (ey.map (TT.mk (.int .i64))),.slc (ez.map (TT.mk (.int .i64)))]=_
  rw [e1,e2,e3];rfl
 ·intro c hc
  simp only [Sg.ax,List.mem_cons,List.not_mem_nil,or_false]at hc
  rcases hc with rfl|rfl|rfl
  ·exact⟨b1,by omega⟩
  ·exact⟨b2,by omega⟩
  ·exact⟨b3,by omega⟩
theorem Q3c {c:List PV} (h:Qb4 (.slc segT) c): ∃p:List Sg,TT.mk (.slc segT) c= .slc (p.map sgPV)∧((∀s∈p,rawS s)∧p.length≤maxLen):=by
 simp only [Qb4]at h
 obtain⟨ess,rfl,hm,h⟩:=h
 have key: ∀ess:List (List PV),(∀c∈ess,Qb4 segT c)→ ∃l:List Sg,ess.map segT.mk=l.map sgPV∧l.length=ess.length∧ ∀s∈l,rawS s:=by
  intro ess
  induction ess with
  |nil=>exact fun _=>⟨[],rfl,rfl,fun _ h=>nomatch h⟩
  |cons c cs ih=>
   intro h
   obtain⟨s,e,b⟩:=Qwu (h c (by simp))
   obtain⟨l,hl,hn,hx⟩:=ih (fun c hc=>h c (by simp [hc]))
   refine⟨s::l,by simp [e,hl],by simp [hn],fun x hx'=> ?_⟩
   cases hx' with
   |head=>exact b
   |tail _ h=>exact hx x h
 obtain⟨l,e,hn,hx⟩:=key ess h
 exact⟨l,by simp only [TT.mk,List.headD_cons];rw [e],hx,by omega⟩
def Zj2:Value:= .agg #[.int .i64 0,.int .i64 0,.int .i64 0]
def Q3d:Value:= .agg #[.int .i64 0,.int .i64 0,.int .i64 0,.int .i64 0,.int .i64 0]
def Zj3:Value:= .agg #[.int .i64 0,.int .i64 0,.int .i64 0,.slice none 0 0,.slice none 0 0,.slice none 0 0]
end Go.Proofs.YtciddhkfbgkejaaGreatDoor
