/-
  SM1, SM2, SM3, SM4 (merged for the claim).
-/
import Derived.Test.YtlpiamlgibomhaaGreatDsg
set_option linter.unusedSimpArgs false
set_option linter.unusedVariables false
namespace Go.Proofs.YtlpiamlgibomhaaGreat
open Go.Vl Go.RowKit Go.Dg
theorem Qgb {x y:Int} (hx:x.natAbs<2^65536) (hy:y.natAbs<2^65536) (h:(x+y).natAbs<2^65536):Qag Tryz.prog 63 [wPV x,wPV y] (wPV (x+y)):=by
 have h1:=Zfd hx hy
 rw [Qie h]at h1
 generalize x+y=S at*
 refine Qac (tb:=[]) 14 [.cell 4 31] [0,1,2,3,4,5] mixed Tryz.func63 rfl (by kernel_rfl) (by kernel_rfl) (by kernel_rfl) (by kernel_rfl) ?_
 repeat (first|(simp -implicitDefEqProofs only [go_sem,Nat.reduceAdd,Nat.reduceMul,Nat.reduceEqDiff,Nat.reduceLT,Nat.reduceLeDiff,reduceCtorEq,wPV])|((with_reducible refine Qab (h1) ?_ ?_ ?_);(with_reducible rfl);rfl))
theorem Qgc {x y:Int} (hx:x.natAbs<2^65536) (hy:y.natAbs<2^65536) (h:(x*y).natAbs<2^65536):Qag Tryz.prog 88 [wPV x,wPV y] (wPV (x*y)):=by
 have h1:=Zfc hx hy
 rw [Qie h]at h1
 generalize x*y=S at*
 refine Qac (tb:=[]) 14 [.cell 4 31] [0,1,2,3,4,5] mixed Tryz.func88 rfl (by kernel_rfl) (by kernel_rfl) (by kernel_rfl) (by kernel_rfl) ?_
 repeat (first|(simp -implicitDefEqProofs only [go_sem,Nat.reduceAdd,Nat.reduceMul,Nat.reduceEqDiff,Nat.reduceLT,Nat.reduceLeDiff,reduceCtorEq,wPV])|((with_reducible refine Qab (h1) ?_ ?_ ?_);(with_reducible rfl);rfl))
theorem Zg0 {a b K:Nat} (ha:a<K) (hb:b<K):Nat.gcd a b<K:=by
 rcases Nat.eq_zero_or_pos a with h|h
 ·subst h;rw [Nat.gcd_zero_left];exact hb
 ·exact Nat.lt_of_le_of_lt (Nat.le_of_dvd h (Nat.gcd_dvd_left _ _)) ha
theorem Qnt {x y:Int} (hx:x.natAbs<2^65536) (hy:y.natAbs<2^65536):Qag Tryz.prog 50 [wPV x,wPV y] (wPV ((Nat.gcd x.natAbs y.natAbs:Nat):Int)):=by
 have h1:=Zmw hx hy
 rw [Qie (by rw [Int.natAbs_natCast];exact Zg0 hx hy)]at h1
 generalize ((Nat.gcd x.natAbs y.natAbs:Nat):Int)=S at*
 refine Qac (tb:=[]) 14 [.cell 4 31] [0,1,2,3,4,5] mixed Tryz.func50 rfl (by kernel_rfl) (by kernel_rfl) (by kernel_rfl) (by kernel_rfl) ?_
 repeat (first|(simp -implicitDefEqProofs only [go_sem,Nat.reduceAdd,Nat.reduceMul,Nat.reduceEqDiff,Nat.reduceLT,Nat.reduceLeDiff,reduceCtorEq,wPV])|((with_reducible refine Qab (h1) ?_ ?_ ?_);(with_reducible rfl);rfl))
theorem Q0v {n:Int} (h:n.natAbs<2^65536):outN n=n:=by rw [outN,if_neg (Nat.not_lt.2 (Qdh 65536 _ h))]
theorem Qvh {x y:Int} {B:Nat} (hx:x.natAbs<2^B) (hy:0<y):(x/y).natAbs<2^B∨(x/y).natAbs≤2^B:=by
 right
 obtain⟨m,rfl⟩: ∃m:Nat,y=(m+1:Nat):=⟨y.toNat-1,by omega⟩
 have:=Int.natAbs_ediv_le_natAbs x ((m+1:Nat):Int)
 omega
theorem Qh9 {x y:Int} {B:Nat} (hx:x.natAbs<2^B) (hB:B≤65000) (hy:y.natAbs<2^65000) (h0:0<y):Qag Tryz.prog 62 [wPV x,wPV y] (wPV (x/y)):=by
 have h1:=Zmz (Qas hx (by omega)) (Qas hy (by omega)) (show y≠0 by omega)
 have hq:(x/y).natAbs<2^(B+1):=by
  rw [Nat.pow_succ]
  have h2:0<2^B:=Nat.two_pow_pos B
  rcases Qvh hx h0 with h|h<;>omega
 have hr:(x%y).natAbs<2^65000:=by
  have h2:=Int.emod_nonneg x (show y≠0 by omega)
  have h3:=Int.emod_lt_of_pos x h0
  generalize 2^65000=K at*
  omega
 unfold Zdm at h1
 rw [Q0v (Qas hq (by omega)),Q0v (Qas hr (by omega))]at h1
 generalize x/y=S at*
 generalize x%y=R at*
 refine Qac (tb:=[]) 16 [.cell 4 31] [0,1,2,3,4,5] mixed Tryz.func62 rfl (by kernel_rfl) (by kernel_rfl) (by kernel_rfl) (by kernel_rfl) ?_
 repeat (first|(simp -implicitDefEqProofs only [go_sem,Nat.reduceAdd,Nat.reduceMul,Nat.reduceEqDiff,Nat.reduceLT,Nat.reduceLeDiff,reduceCtorEq,wPV])|((with_reducible refine Qab (h1) ?_ ?_ ?_);(with_reducible rfl);rfl))
theorem Qls {n:Int} {B:Nat} (h:n.natAbs<2^B) (k:Nat):(n^k).natAbs<2^(B*k+1):=Qb3 h k
theorem Qc6 (n:Int) (k B:Nat) (hn: -9223372036854775808≤n) (hn2:n≤9223372036854775807) (hk:k≤100) (hB:B≤600) (hb:n.natAbs<2^B):Qag Tryz.prog 99 [.int .i64 n,.int .i64 (k:Int)] (wPV (n^k)):=by
 have h1:=Qeu 1 (by decide) (by decide)
 have h2:=Qeu n hn hn2
 refine Qac (tb:=[]) 16 [.cell 4 31] [0,1,4,5,7,8,9] mixed Tryz.func99 rfl (by kernel_rfl) (by kernel_rfl) (by kernel_rfl) (by kernel_rfl) ?_
 repeat (first|(simp -implicitDefEqProofs only [go_sem,Nat.reduceAdd,Nat.reduceMul,Nat.reduceEqDiff,Nat.reduceLT,Nat.reduceLeDiff,reduceCtorEq,Int.reduceLT,wPV])|((with_reducible refine Qab (h1) ?_ ?_ ?_);(with_reducible rfl);rfl)|(with_reducible exact Qaa _ _ (by kernel_rfl))|(with_reducible refine And.intro (Qaa _ _ (by kernel_rfl)) ?_))
 refine Qat mixed (fun i:{i:Nat // i≤k}=>St.of [(0,.int .i64 n),(4,.bp 0 2 0 0),(5,.bp 101 2 0 0),(7,.int .i64 (k:Int)),(8,.int .i64 (i.1:Int))]
  [(0,{els:=[.agg [.bool false,.str ⟨#[]⟩]],esz:=2,ety:=31,fro:=0,live:=true,arr:=false}),(101,{els:=[wPV (n^i.1)],esz:=2,ety:=31,fro:=0,live:=true,arr:=false})]) (fun i=>k-i.1) ⟨0,Nat.zero_le _⟩ ?_ ?_
 ·refine Qal (θ:=[(0,0),(101,101)]) rfl ?_ ?_
  ·simp [Qad,lkp,ren1,ren0,Qao]
  ·refine⟨⟨rfl,rfl,rfl,rfl,rfl,.inr ⟨rfl,_,_,rfl,rfl,rfl,rfl⟩⟩,⟨rfl,rfl,rfl,rfl,rfl,.inr ⟨rfl,_,_,rfl,rfl,?_,rfl⟩⟩,trivial⟩
   simp only [Int.pow_zero];rfl
 ·rintro⟨i,hi⟩
  by_cases hA:i<k
  ·have hA':=ltT hA
   have hwk:=Qai (a:=i) (by omega)
   have hp:=Qls hb i
   have hp1:=Qls hb (i+1)
   have hBk:B*(i+1)≤600*100:=Nat.mul_le_mul hB (by omega)
   have hBi:B*i≤B*(i+1):=Nat.mul_le_mul_left _ (by omega)
   have e:n^(i+1)=n^i*n:=Int.pow_succ n i
   rw [e]at hp1
   have hm:=Qgc (Qas hp (by omega)) (Qas hb (by omega)) (Qas hp1 (by omega))
   rw [←e]at hm
   generalize hX:n^(i+1)=Y at*
   generalize n^i=Z at*
   repeat (first|(simp -implicitDefEqProofs only [go_sem,Nat.reduceAdd,Nat.reduceMul,Nat.reduceEqDiff,Nat.reduceLT,Nat.reduceLeDiff,reduceCtorEq,wPV,hA',hwk])|((with_reducible refine Qab (h2) ?_ ?_ ?_);(with_reducible rfl);rfl)|((with_reducible refine Qab (hm) ?_ ?_ ?_);(with_reducible rfl);rfl)|(with_reducible exact Qaa _ _ (by kernel_rfl))|(with_reducible refine And.intro (Qaa _ _ (by kernel_rfl)) ?_))
   refine⟨⟨i+1,hA⟩,by simp only;omega,Qal (θ:=[(0,0),(101,101)]) rfl ?_ ?_⟩
   ·simp [Qad,lkp,ren1,ren0,Qao]
   ·simp only [hX]
    exact⟨⟨rfl,rfl,rfl,rfl,rfl,.inr ⟨rfl,_,_,rfl,rfl,rfl,rfl⟩⟩,⟨rfl,rfl,rfl,rfl,rfl,.inr ⟨rfl,_,_,rfl,rfl,rfl,rfl⟩⟩,trivial⟩
  ·have hA':=ltF hA
   obtain rfl:i=k:=by omega
   generalize n^i=Z at*
   repeat (first|(simp -implicitDefEqProofs only [go_sem,Nat.reduceAdd,Nat.reduceMul,Nat.reduceEqDiff,Nat.reduceLT,Nat.reduceLeDiff,reduceCtorEq,wPV,hA'])|(with_reducible exact Qaa _ _ (by kernel_rfl))|(with_reducible refine And.intro (Qaa _ _ (by kernel_rfl)) ?_))
end Go.Proofs.YtlpiamlgibomhaaGreat

namespace Go.Proofs.YtlpiamlgibomhaaGreat
open Go.Vl Go.RowKit Go.Dg
def Qq0:List PV:=(List.range 36).map fun i=> .int .i64 (bin (i/6) (i%6):Int)
theorem Q01:Qag Tryz.prog 87 [] (.agg Qq0):=Q7c mixed 200 5 (by kernel_rfl)
theorem Qq1 (n k:Nat) (hn:n<6) (hk:k<6):Qq0[n*6+k*1]? =some (.int .i64 (bin n k:Int)):=by
 unfold Qq0
 rw [List.getElem?_map,List.getElem?_range (by omega)]
 have h1:(n*6+k*1)/6=n:=by omega
 have h2:(n*6+k*1)%6=k:=by omega
 show some (PV.int .i64 (bin ((n*6+k*1)/6) ((n*6+k*1)%6):Int))=_
 rw [h1,h2]
theorem Qxe:Qq0.all Qt5=true:=by kernel_rfl
theorem Q8d:Qq0.all PV.okCell=true:=by kernel_rfl
theorem Q02:Qq0.length=36:=by kernel_rfl
theorem Zmg:wPV 0= .agg [.bool false,.str ⟨#[]⟩]:=by unfold wPV;rw [(Qpn 0).2 rfl];rfl
theorem Q03 (c:List Int) (o:Int) (h1:1≤c.length) (h6:c.length≤6) (hc: ∀x∈c, -9223372036854775808≤x∧x≤9223372036854775807) (ho:1≤o) (ho2:o≤4294967296):
  Qag Tryz.prog 49 [Qan c,.int .i64 o] (.bool (Qcx c o c.length)):=by
 have hch:=Q01
 have w1:=Qeu 62914560 (by decide) (by decide)
 have w2:=Qeu o (by omega) (by omega)
 have p64:(2:Nat)^64=18446744073709551616:=rfl
 have b1:(62914560:Int).natAbs<2^64:=by decide
 have b2:o.natAbs<2^64:=by omega
 have b3:(62914560*o).natAbs<2^128:=Qgg b1 b2
 have m1:=Qgc (Qas b1 (by decide)) (Qas b2 (by decide)) (Qas b3 (by decide))
 have hcb:bd 64 c:=fun x hx=>by have:=hc x hx;omega
 have wl:=Qe0 (n:=c.length) (by omega) (by omega)
 generalize hM:62914560*o=M at*
 refine Qac (tb:=[]) 57 [.tmp 4] [0,1,4,5,6,7,8,9,10,20,21,22,25,26,27,55] mixed Tryz.func49 rfl (by kernel_rfl) (by kernel_rfl) (by kernel_rfl) (by kernel_rfl) ?_
 repeat (first|(simp -implicitDefEqProofs only [go_sem,Nat.reduceAdd,Nat.reduceMul,Nat.reduceEqDiff,Nat.reduceLT,Nat.reduceLeDiff,reduceCtorEq,Int.reduceLT,wPV,Qan,List.length_map,wl,Q02,Qxe,Q8d])|((with_reducible refine Qab (hch) ?_ ?_ ?_);(with_reducible rfl);rfl)|((with_reducible refine Qab (w1) ?_ ?_ ?_);(with_reducible rfl);rfl)|((with_reducible refine Qab (w2) ?_ ?_ ?_);(with_reducible rfl);rfl)|((with_reducible refine Qab (m1) ?_ ?_ ?_);(with_reducible rfl);rfl)|(with_reducible exact Qaa _ _ (by kernel_rfl))|(with_reducible refine And.intro (Qaa _ _ (by kernel_rfl)) ?_))
 refine Qat mixed (fun j:{j:Nat // j≤c.length∧Qcx c o j=true}=>St.of [(0,Qan c),(4,.bool false),(5,.bp 101 36 0 0),(6,.bp 204 2 0 0),(7,.int .i64 ((c.length-1:Nat):Int)),(20,.int .i64 (c.length:Int)),(21,.int .i64 (j.1:Int))]
  [(101,{els:=[.agg Qq0],esz:=36,ety:=131,fro:=0,live:=true,arr:=false}),(204,{els:=[wPV M],esz:=2,ety:=31,fro:=0,live:=true,arr:=false})]) (fun j=>c.length-j.1) ⟨0,Nat.zero_le _,rfl⟩ ?_ ?_
 ·refine Qal (θ:=[(101,101),(204,204)]) rfl ?_ ?_
  ·simp [Qad,lkp,ren1,ren0,Qao,Qan]
  ·exact⟨⟨rfl,rfl,rfl,rfl,rfl,.inr ⟨rfl,_,_,rfl,rfl,rfl,rfl⟩⟩,⟨rfl,rfl,rfl,rfl,rfl,.inr ⟨rfl,_,_,rfl,rfl,rfl,rfl⟩⟩,trivial⟩
 ·rintro⟨j,hj,hall⟩
  by_cases hA:j<c.length
  ·have hA':=ltT hA
   have hwk:=Qai (a:=j) (by omega)
   repeat (first|(simp -implicitDefEqProofs only [go_sem,Nat.reduceAdd,Nat.reduceMul,Nat.reduceEqDiff,Nat.reduceLT,Nat.reduceLeDiff,reduceCtorEq,hA',hwk])|(with_reducible exact Qaa _ _ (by kernel_rfl))|(with_reducible refine And.intro (Qaa _ _ (by kernel_rfl)) ?_))
   refine Qat mixed (fun k:{k:Nat // k≤j+1}=>St.of [(0,Qan c),(4,.bool false),(5,.bp 101 36 0 0),(6,.bp 204 2 0 0),(7,.int .i64 ((c.length-1:Nat):Int)),(20,.int .i64 (c.length:Int)),(21,.int .i64 (j:Int)),(8,.int .i64 (j:Int)),(9,.bp 700 2 0 0),(25,.int .i64 ((j+1:Nat):Int)),(26,.int .i64 (k.1:Int))]
    [(101,{els:=[.agg Qq0],esz:=36,ety:=131,fro:=0,live:=true,arr:=false}),(204,{els:=[wPV M],esz:=2,ety:=31,fro:=0,live:=true,arr:=false}),(700,{els:=[wPV (sm (fun k=>c.getD k 0*(cw (c.length-1) j k:Int)) k.1)],esz:=2,ety:=31,fro:=0,live:=true,arr:=false})]) (fun k=>j+1-k.1) ⟨0,Nat.zero_le _⟩ ?_ ?_
   ·refine Qal (θ:=[(101,101),(204,204),(700,700)]) rfl ?_ ?_
    ·simp [Qad,lkp,ren1,ren0,Qao,Qan]
    ·refine⟨⟨rfl,rfl,rfl,rfl,rfl,.inr ⟨rfl,_,_,rfl,rfl,rfl,rfl⟩⟩,⟨rfl,rfl,rfl,rfl,rfl,.inr ⟨rfl,_,_,rfl,rfl,rfl,rfl⟩⟩,⟨rfl,rfl,rfl,rfl,rfl,.inr ⟨rfl,_,_,rfl,rfl,?_,rfl⟩⟩,trivial⟩
     simp only [sm];rw [Zmg];rfl
   ·rintro⟨k,hk⟩
    by_cases hB:k<j+1
    ·have hB':=ltT hB
     have hkc:k<c.length:=by omega
     have h0:=nnT k
     have hg:=Qb4 c k hkc
     have hwk2:=Qai (a:=k) (by omega)
     have g1:=Qq1 (c.length-1) k (by omega) (by omega)
     have g2:=Qq1 j k (by omega) (by omega)
     have hb0:((bin (c.length-1) k:Int)=0)=False:=eq_false (by have:=Qsl (n:=c.length-1) (k:=k) (by omega);omega)
     have t1:Int.tdiv 60 (bin (c.length-1) k:Int)=((60/bin (c.length-1) k:Nat):Int):=Qpj 60 _
     have d60:60/bin (c.length-1) k≤60:=Nat.div_le_self _ _
     have wk1:IntKind.i64.wrap ((60/bin (c.length-1) k:Nat):Int)=((60/bin (c.length-1) k:Nat):Int):=wrapn (by omega)
     have hcw:=Zf7 (c.length-1) j k (by omega)
     have ecw:((60/bin (c.length-1) k:Nat):Int)*(bin j k:Int)=(cw (c.length-1) j k:Int):=by rw [cw,Int.natCast_mul]
     have wk2:IntKind.i64.wrap (cw (c.length-1) j k:Int)=(cw (c.length-1) j k:Int):=wrapn (by omega)
     obtain⟨k1,k2⟩:=hc _ (List.getElem_mem hkc)
     have o1:=Qeu c[k] k1 k2
     have o2:=Qeu (cw (c.length-1) j k:Int) (by omega) (by omega)
     have x1:(c[k]).natAbs<2^64:=hcb _ (List.getElem_mem hkc)
     have x2:(cw (c.length-1) j k:Int).natAbs<2^11:=by rw [Int.natAbs_natCast];omega
     have m2:=Qgc (Qas x1 (by decide)) (Qas x2 (by decide)) (Qas (Qgg x1 x2) (by decide))
     have y1:=Qgx (n:=c.length-1) (j:=j) hcb (by omega) k (by omega)
     have y2:=Qgx (n:=c.length-1) (j:=j) hcb (by omega) (k+1) (by omega)
     have es:sm (fun k=>c.getD k 0*(cw (c.length-1) j k:Int)) (k+1)=sm (fun k=>c.getD k 0*(cw (c.length-1) j k:Int)) k+c[k]*(cw (c.length-1) j k:Int):=by simp only [sm];rw [Qb8 hkc]
     rw [es]at y2
     have a1:=Qgb (Qas y1 (by decide)) (Qas (Qgg x1 x2) (by decide)) (Qas y2 (by decide))
     rw [←es]at a1
     generalize hX:sm (fun k=>c.getD k 0*(cw (c.length-1) j k:Int)) (k+1)=X at*
     generalize sm (fun k=>c.getD k 0*(cw (c.length-1) j k:Int)) k=Y at*
     generalize c[k]*(cw (c.length-1) j k:Int)=Z at*
     generalize (cw (c.length-1) j k:Int)=V at*
     have l1:=ltT (show c.length-1<6 by omega)
     have l2:=ltT (show k<6 by omega)
     have l3:=ltT (show j<6 by omega)
     have n1:=nnT (c.length-1)
     have n2:=nnT j
     repeat (first|(simp -implicitDefEqProofs only [go_sem,Nat.reduceAdd,Nat.reduceMul,Nat.reduceEqDiff,Nat.reduceLT,Nat.reduceLeDiff,reduceCtorEq,Qan,wPV,hB',h0,l1,l2,l3,n1,n2,hg,hwk2,g1,g2,hb0,t1,wk1,ecw,wk2,Int.toNat_natCast,List.length_map])|((with_reducible refine Qab (o1) ?_ ?_ ?_);(with_reducible rfl);rfl)|((with_reducible refine Qab (o2) ?_ ?_ ?_);(with_reducible rfl);rfl)|((with_reducible refine Qab (m2) ?_ ?_ ?_);(with_reducible rfl);rfl)|((with_reducible refine Qab (a1) ?_ ?_ ?_);(with_reducible rfl);rfl)|(with_reducible exact Qaa _ _ (by kernel_rfl))|(with_reducible refine And.intro (Qaa _ _ (by kernel_rfl)) ?_))
     refine⟨⟨k+1,hB⟩,by simp only;omega,Qal (θ:=[(101,101),(204,204),(700,700)]) rfl ?_ ?_⟩
     ·simp [Qad,lkp,ren1,ren0,Qao,Qan]
     ·simp only [hX]
      exact⟨⟨rfl,rfl,rfl,rfl,rfl,.inr ⟨rfl,_,_,rfl,rfl,rfl,rfl⟩⟩,⟨rfl,rfl,rfl,rfl,rfl,.inr ⟨rfl,_,_,rfl,rfl,rfl,rfl⟩⟩,⟨rfl,rfl,rfl,rfl,rfl,.inr ⟨rfl,_,_,rfl,rfl,rfl,rfl⟩⟩,trivial⟩
    ·have hB':=ltF hB
     obtain rfl:k=j+1:=by omega
     have ec:sm (fun k=>c.getD k 0*(cw (c.length-1) j k:Int)) (j+1)=ctl c j:=rfl
     simp only [ec]
     have y3:=Qgx (n:=c.length-1) (j:=j) hcb (by omega) (j+1) (by omega)
     rw [ec]at y3
     have y4:(((ctl c j).natAbs:Nat):Int).natAbs<2^(64+11+7):=by rw [Int.natAbs_natCast];exact y3
     have hcm:=Qnz (Qas y4 (by decide)) (Qas b3 (by decide))
     have ea:wPV (((ctl c j).natAbs:Nat):Int)= .agg [.bool false,.str ⟨(magL (ctl c j).natAbs).toArray⟩]:=by
      unfold wPV
      have:decide ((((ctl c j).natAbs:Nat):Int)<0)=false:=by simp
      rw [this,Int.natAbs_natCast]
     rw [ea]at hcm
     by_cases hle:((ctl c j).natAbs:Int)≤M
     ·have hs:((0:Int)<((((ctl c j).natAbs:Nat):Int)-M).sign)=False:=eq_false (by have:=Int.sign_nonpos_iff.2 (show(((ctl c j).natAbs:Nat):Int)-M≤0 by omega);omega)
      have hn:Qcx c o (j+1)=true:=by rw [Qe9,hall,hM];simp [hle]
      generalize ctl c j=X at*
      repeat (first|(simp -implicitDefEqProofs only [go_sem,Nat.reduceAdd,Nat.reduceMul,Nat.reduceEqDiff,Nat.reduceLT,Nat.reduceLeDiff,reduceCtorEq,wPV,hB',hs,hwk])|((with_reducible refine Qab (hcm) ?_ ?_ ?_);(with_reducible rfl);rfl)|(with_reducible exact Qaa _ _ (by kernel_rfl))|(with_reducible refine And.intro (Qaa _ _ (by kernel_rfl)) ?_))
      refine⟨⟨j+1,hA,hn⟩,by simp only;omega,Qal (θ:=[(101,101),(204,204)]) rfl ?_ ?_⟩
      ·simp [Qad,lkp,ren1,ren0,Qao,Qan]
      ·exact⟨⟨rfl,rfl,rfl,rfl,rfl,.inr ⟨rfl,_,_,rfl,rfl,rfl,rfl⟩⟩,⟨rfl,rfl,rfl,rfl,rfl,.inr ⟨rfl,_,_,rfl,rfl,rfl,rfl⟩⟩,trivial⟩
     ·have hs:((0:Int)<((((ctl c j).natAbs:Nat):Int)-M).sign)=True:=eq_true (Int.sign_pos_iff.2 (by omega))
      have hn:Qcx c o c.length=false:=Qow (j:=j+1) (by rw [Qe9,hall,hM];simp;omega) hA
      generalize ctl c j=X at*
      repeat (first|(simp -implicitDefEqProofs only [go_sem,Nat.reduceAdd,Nat.reduceMul,Nat.reduceEqDiff,Nat.reduceLT,Nat.reduceLeDiff,reduceCtorEq,wPV,hB',hs,hn])|((with_reducible refine Qab (hcm) ?_ ?_ ?_);(with_reducible rfl);rfl)|(with_reducible exact Qaa _ _ (by kernel_rfl))|(with_reducible refine And.intro (Qaa _ _ (by kernel_rfl)) ?_))
  ·have hA':=ltF hA
   obtain rfl:j=c.length:=by omega
   repeat (first|(simp -implicitDefEqProofs only [go_sem,Nat.reduceAdd,Nat.reduceMul,Nat.reduceEqDiff,Nat.reduceLT,Nat.reduceLeDiff,reduceCtorEq,hA',hall])|(with_reducible exact Qaa _ _ (by kernel_rfl))|(with_reducible refine And.intro (Qaa _ _ (by kernel_rfl)) ?_))
end Go.Proofs.YtlpiamlgibomhaaGreat

namespace Go.Proofs.YtlpiamlgibomhaaGreat
open Go.Vl Go.RowKit Go.Dg
def i64 (x:Int):Prop:= -9223372036854775808≤x∧x≤9223372036854775807
def sgPV (s:Sg):PV:= .agg [.int .i64 s.f,.int .i64 s.t,.int .i64 s.o,Qan s.x,Qan s.y,Qan s.z]
attribute [go_sem] Qan sgPV
structure okSg (s:Sg):Prop where
 f:i64 s.f
 t:i64 s.t
 o:i64 s.o
 c: ∀c∈s.ax,∀x∈c,i64 x
 l: ∀c∈s.ax,c.length≤1000
theorem Qav {x:Int} (h:i64 x):x.natAbs<2^64:=by unfold i64 at h;have p64:(2:Nat)^64=18446744073709551616:=rfl;omega
theorem Q1d (s:Sg):Qag Tryz.prog 48 [sgPV s] (.agg [Qan s.x,Qan s.y,Qan s.z]):=by
 unfold sgPV
 refine Qac (tb:=[]) 10 [.cell 2 79] [0,1,2] mixed Tryz.func48 rfl (by kernel_rfl) (by kernel_rfl) (by kernel_rfl) (by kernel_rfl) ?_
 repeat (first|(simp -implicitDefEqProofs only [go_sem,Nat.reduceAdd,Nat.reduceMul,Nat.reduceEqDiff,Nat.reduceLT,Nat.reduceLeDiff,reduceCtorEq,Qan,List.map_cons,List.map_nil]))
theorem Q1e (s:Sg):Qag Tryz.prog 53 [sgPV s] (.slc [Qan s.x,Qan s.y,Qan s.z]):=by
 unfold sgPV
 refine Qac (tb:=[]) 10 [.tmp 2] [0,1,2] mixed Tryz.func53 rfl (by kernel_rfl) (by kernel_rfl) (by kernel_rfl) (by kernel_rfl) ?_
 repeat (first|(simp -implicitDefEqProofs only [go_sem,Nat.reduceAdd,Nat.reduceMul,Nat.reduceEqDiff,Nat.reduceLT,Nat.reduceLeDiff,reduceCtorEq,Qan,List.map_cons,List.map_nil]))
theorem Q1f (s:Sg) (i:Nat) (h:i<s.ax.length):([.slc (s.x.map (PV.int .i64)),.slc (s.y.map (PV.int .i64)),.slc (s.z.map (PV.int .i64))]:List PV)[i]? =some (.slc ((s.ax[i]).map (PV.int .i64))):=by
 show(s.ax.map Qan)[i]? =_
 rw [List.getElem?_map,List.getElem?_eq_getElem h];rfl
theorem Qs4 (s:Sg) (i:Nat) (h:i<s.ax.length):([.slc (s.x.map (PV.int .i64)),.slc (s.y.map (PV.int .i64)),.slc (s.z.map (PV.int .i64))]:List PV)[i*1]? =some (.slc ((s.ax[i]).map (PV.int .i64))):=by rw [Nat.mul_one,Q1f s i h]
theorem Zmp (x y:Int):(mB x==mB y)=decide (x.natAbs=y.natAbs):=by
 rw [Zfg,Bool.eq_iff_iff,beq_iff_eq,decide_eq_true_eq]
 constructor
 ·intro h
  rw [←Qly x,←Qly y,h]
 ·intro h;unfold mB;rw [h]
theorem Qlu (x y:Int):((decide (x<0)==decide (y<0))&&(mB x==mB y))=decide (x=y):=by
 rw [Zmp,Bool.eq_iff_iff,Bool.and_eq_true,beq_iff_eq,decide_eq_decide,decide_eq_true_eq,decide_eq_true_eq]
 omega
set_option maxHeartbeats 1000000 in
theorem Qvm (s:Sg) (hs:okSg s):Qag Tryz.prog 13 [sgPV s] (.bool (Qa3 s)):=by
 obtain⟨⟨a1,a2⟩,⟨a3,a4⟩,⟨a5,a6⟩,hc,hl⟩:=hs
 by_cases g1:s.f<0
 ·have g1':=eq_true g1
  have e:Qa3 s=false:=by unfold Qa3 rngS;rw [decide_eq_false (by omega)];rfl
  unfold sgPV
  refine Qac (tb:=[]) 85 [.tmp 2] [0,1,2,3,5,7,32,37,38,39,69,70,71,72,73] mixed Tryz.func13 rfl (by kernel_rfl) (by kernel_rfl) (by kernel_rfl) (by kernel_rfl) ?_
  repeat (first|(simp -implicitDefEqProofs only [go_sem,Nat.reduceAdd,Nat.reduceMul,Nat.reduceEqDiff,Nat.reduceLT,Nat.reduceLeDiff,reduceCtorEq,g1',e])|(with_reducible exact Qaa _ _ (by kernel_rfl))|(with_reducible refine And.intro (Qaa _ _ (by kernel_rfl)) ?_))
 have g1':=eq_false g1
 by_cases g2:s.t≤s.f
 ·have g2':=eq_true g2
  have e:Qa3 s=false:=by unfold Qa3 rngS;rw [decide_eq_true (show 0≤s.f by omega),decide_eq_false (show¬s.f<s.t by omega)];rfl
  unfold sgPV
  refine Qac (tb:=[]) 85 [.tmp 2] [0,1,2,3,5,7,32,37,38,39,69,70,71,72,73] mixed Tryz.func13 rfl (by kernel_rfl) (by kernel_rfl) (by kernel_rfl) (by kernel_rfl) ?_
  repeat (first|(simp -implicitDefEqProofs only [go_sem,Nat.reduceAdd,Nat.reduceMul,Nat.reduceEqDiff,Nat.reduceLT,Nat.reduceLeDiff,reduceCtorEq,g1',g2',e])|(with_reducible exact Qaa _ _ (by kernel_rfl))|(with_reducible refine And.intro (Qaa _ _ (by kernel_rfl)) ?_))
 have g2':=eq_false g2
 by_cases g3:3600000<s.t
 ·have g3':=eq_true g3
  have e:Qa3 s=false:=by unfold Qa3 rngS;rw [decide_eq_true (show 0≤s.f by omega),decide_eq_true (show s.f<s.t by omega),decide_eq_false (show¬s.t≤3600000 by omega)];rfl
  unfold sgPV
  refine Qac (tb:=[]) 85 [.tmp 2] [0,1,2,3,5,7,32,37,38,39,69,70,71,72,73] mixed Tryz.func13 rfl (by kernel_rfl) (by kernel_rfl) (by kernel_rfl) (by kernel_rfl) ?_
  repeat (first|(simp -implicitDefEqProofs only [go_sem,Nat.reduceAdd,Nat.reduceMul,Nat.reduceEqDiff,Nat.reduceLT,Nat.reduceLeDiff,reduceCtorEq,g1',g2',g3',e])|(with_reducible exact Qaa _ _ (by kernel_rfl))|(with_reducible refine And.intro (Qaa _ _ (by kernel_rfl)) ?_))
 have g3':=eq_false g3
 by_cases g4:s.o<1
 ·have g4':=eq_true g4
  have e:Qa3 s=false:=by unfold Qa3 rngS;rw [decide_eq_true (show 0≤s.f by omega),decide_eq_true (show s.f<s.t by omega),decide_eq_true (show s.t≤3600000 by omega),decide_eq_false (show¬1≤s.o by omega)];rfl
  unfold sgPV
  refine Qac (tb:=[]) 85 [.tmp 2] [0,1,2,3,5,7,32,37,38,39,69,70,71,72,73] mixed Tryz.func13 rfl (by kernel_rfl) (by kernel_rfl) (by kernel_rfl) (by kernel_rfl) ?_
  repeat (first|(simp -implicitDefEqProofs only [go_sem,Nat.reduceAdd,Nat.reduceMul,Nat.reduceEqDiff,Nat.reduceLT,Nat.reduceLeDiff,reduceCtorEq,g1',g2',g3',g4',e])|(with_reducible exact Qaa _ _ (by kernel_rfl))|(with_reducible refine And.intro (Qaa _ _ (by kernel_rfl)) ?_))
 have g4':=eq_false g4
 by_cases g5:4294967296<s.o
 ·have g5':=eq_true g5
  have e:Qa3 s=false:=by unfold Qa3 rngS;rw [decide_eq_true (show 0≤s.f by omega),decide_eq_true (show s.f<s.t by omega),decide_eq_true (show s.t≤3600000 by omega),decide_eq_true (show 1≤s.o by omega),decide_eq_false (show¬s.o≤4294967296 by omega)];rfl
  unfold sgPV
  refine Qac (tb:=[]) 85 [.tmp 2] [0,1,2,3,5,7,32,37,38,39,69,70,71,72,73] mixed Tryz.func13 rfl (by kernel_rfl) (by kernel_rfl) (by kernel_rfl) (by kernel_rfl) ?_
  repeat (first|(simp -implicitDefEqProofs only [go_sem,Nat.reduceAdd,Nat.reduceMul,Nat.reduceEqDiff,Nat.reduceLT,Nat.reduceLeDiff,reduceCtorEq,g1',g2',g3',g4',g5',e])|(with_reducible exact Qaa _ _ (by kernel_rfl))|(with_reducible refine And.intro (Qaa _ _ (by kernel_rfl)) ?_))
 have g5':=eq_false g5
 have er:rngS s=true:=by unfold rngS;rw [decide_eq_true (show 0≤s.f by omega),decide_eq_true (show s.f<s.t by omega),decide_eq_true (show s.t≤3600000 by omega),decide_eq_true (show 1≤s.o by omega),decide_eq_true (show s.o≤4294967296 by omega)];rfl
 have w1:=Qeu s.o a5 a6
 have hax:=Q1d s
 have hsg:sgPV s= .agg [.int .i64 s.f,.int .i64 s.t,.int .i64 s.o,.slc (s.x.map (PV.int .i64)),.slc (s.y.map (PV.int .i64)),.slc (s.z.map (PV.int .i64))]:=rfl
 rw [hsg]at hax ⊢
 have wone:=Qeu 1 (by decide) (by decide)
 have hG: ∀i,((s.ax.take i).foldl gcdL s.o.natAbs)<2^64:=by
  intro i
  have: ∀(L:List (List Int)) (g:Nat),g<2^64→(∀c∈L,∀x∈c,x.natAbs<2^64)→L.foldl gcdL g<2^64:=by
   intro L
   induction L with
   |nil=>intro g hg _;exact hg
   |cons c L ih=>intro g hg h;exact ih _ (Qe5 c hg (h c (by simp))) fun c' hc'=>h c' (by simp [hc'])
  exact this _ _ (Qav ⟨a5,a6⟩) fun c hc' x hx=>Qav (hc c (List.mem_of_mem_take hc') x hx)
 refine Qac (tb:=[]) 85 [.tmp 2] [0,1,2,3,5,7,32,37,38,39,69,70,71,72,73] mixed Tryz.func13 rfl (by kernel_rfl) (by kernel_rfl) (by kernel_rfl) (by kernel_rfl) ?_
 repeat (first|(simp -implicitDefEqProofs only [go_sem,Nat.reduceAdd,Nat.reduceMul,Nat.reduceEqDiff,Nat.reduceLT,Nat.reduceLeDiff,reduceCtorEq,wPV,g1',g2',g3',g4',g5'])|((with_reducible refine Qab (w1) ?_ ?_ ?_);(with_reducible rfl);rfl)|((with_reducible refine Qab (hax) ?_ ?_ ?_);(with_reducible rfl);rfl)|(with_reducible exact Qaa _ _ (by kernel_rfl))|(with_reducible refine And.intro (Qaa _ _ (by kernel_rfl)) ?_))
 have z0:0≤3∧((s.ax.take 0).all fun c=>axOK c s.o)=true:=⟨Nat.zero_le _,rfl⟩
 refine Qat mixed (fun i:{i:Nat // i≤3∧((s.ax.take i).all fun c=>axOK c s.o)=true}=>St.of [(1,.bp 0 6 0 0),(2,.bool false),(3,.bp 303 2 0 0),(37,.agg [Qan s.x,Qan s.y,Qan s.z]),(38,.int .i64 (i.1:Int))]
  [(0,{els:=[sgPV s],esz:=6,ety:=24,fro:=0,live:=true,arr:=false}),(303,{els:=[wPV (((s.ax.take i.1).foldl gcdL s.o.natAbs:Nat):Int)],esz:=2,ety:=31,fro:=0,live:=true,arr:=false})]) (fun i=>3-i.1) ⟨0,z0⟩ ?_ ?_
 ·refine Qal (θ:=[(0,0),(303,303)]) rfl ?_ ?_
  ·simp [Qad,lkp,ren1,ren0,Qao,Qan]
  ·refine⟨⟨rfl,rfl,rfl,rfl,rfl,.inr ⟨rfl,_,_,rfl,rfl,rfl,rfl⟩⟩,⟨rfl,rfl,rfl,rfl,rfl,.inr ⟨rfl,_,_,rfl,rfl,?_,rfl⟩⟩,trivial⟩
   have:((((s.ax.take 0).foldl gcdL s.o.natAbs:Nat):Nat):Int)=s.o:=by simp;omega
   rw [this];rfl
 ·rintro⟨i,hi,hall⟩
  have hGi:=hG i
  by_cases hA:i<3
  ·have hA':((i:Int)<3)=True:=eq_true (by omega)
   have hA2:=ltT hA
   have h0:=nnT i
   have hx:=Qs4 s i hA
   have hwk:=Qai (a:=i) (by omega)
   have hcx:=hc (s.ax[i]) (List.getElem_mem hA)
   have hlx:=hl (s.ax[i]) (List.getElem_mem hA)
   have htk:(s.ax.take (i+1)).all (fun c=>axOK c s.o)=axOK s.ax[i] s.o:=by rw [Qbk s.ax i hA,List.all_append,hall];simp
   have hbad:axOK s.ax[i] s.o=false→Qa3 s=false:=fun h=>by
    unfold Qa3;rw [Qs8 (p:=fun c=>axOK c s.o) (l:=s.ax) (i:=i) hA h];simp
   have hfd:(s.ax.take (i+1)).foldl gcdL s.o.natAbs=gcdL ((s.ax.take i).foldl gcdL s.o.natAbs) s.ax[i]:=by rw [Qbk s.ax i hA,List.foldl_append];rfl
   generalize hC:s.ax[i]=c at*
   generalize (s.ax.take i).foldl gcdL s.o.natAbs=G at*
   by_cases q1:c.length<1
   ·have q1':((c.length:Int)<1)=True:=eq_true (by omega)
    have e:=hbad (by unfold axOK Qkk;rw [decide_eq_false (show¬1≤c.length by omega)];rfl)
    repeat (first|(simp -implicitDefEqProofs only [go_sem,Nat.reduceAdd,Nat.reduceMul,Nat.reduceEqDiff,Nat.reduceLT,Nat.reduceLeDiff,reduceCtorEq,hA',hA2,h0,hx,hwk,Int.toNat_natCast,List.length_map,q1',e])|(with_reducible exact Qaa _ _ (by kernel_rfl))|(with_reducible refine And.intro (Qaa _ _ (by kernel_rfl)) ?_))
   have q1':((c.length:Int)<1)=False:=eq_false (by omega)
   by_cases q2:6<c.length
   ·have q2':((6:Int)<(c.length:Int))=True:=eq_true (by omega)
    have e:=hbad (by unfold axOK Qkk;rw [decide_eq_false (show¬c.length≤6 by omega)];simp)
    repeat (first|(simp -implicitDefEqProofs only [go_sem,Nat.reduceAdd,Nat.reduceMul,Nat.reduceEqDiff,Nat.reduceLT,Nat.reduceLeDiff,reduceCtorEq,hA',hA2,h0,hx,hwk,Int.toNat_natCast,List.length_map,q1',q2',e])|(with_reducible exact Qaa _ _ (by kernel_rfl))|(with_reducible refine And.intro (Qaa _ _ (by kernel_rfl)) ?_))
   have q2':((6:Int)<(c.length:Int))=False:=eq_false (by omega)
   have hbv:=Q03 c s.o (by omega) (by omega) hcx (by omega) (by omega)
   have hlt:c.length-1<c.length:=by omega
   have wl:=Qe0 (n:=c.length) (by omega) (by omega)
   have hgl:=Qb4 c (c.length-1) hlt
   have n1:=nnT (c.length-1)
   have hl0:=Qb8 hlt
   -- the rest, behind the test of the last coefficient
   have rest:axOK c s.o=Qcx c s.o c.length→ ∀(t:Bool),Qcx c s.o c.length=t→True:=fun _ _ _=>trivial
   by_cases q3:1<c.length
   ·have q3':((1:Int)<(c.length:Int))=True:=eq_true (by omega)
    by_cases q4:c[c.length-1]=0
    ·have q4':(c[c.length-1]==0)=true:=by rw [q4];rfl
     have e:=hbad (by unfold axOK Qkk;rw [hl0,q4',decide_eq_false (show¬c.length≤1 by omega)];simp)
     repeat (first|(simp -implicitDefEqProofs only [go_sem,Nat.reduceAdd,Nat.reduceMul,Nat.reduceEqDiff,Nat.reduceLT,Nat.reduceLeDiff,reduceCtorEq,hA',hA2,h0,hx,hwk,Int.toNat_natCast,List.length_map,q1',q2',q3',q4',wl,n1,hgl,e])|(with_reducible exact Qaa _ _ (by kernel_rfl))|(with_reducible refine And.intro (Qaa _ _ (by kernel_rfl)) ?_))
    have q4':(c[c.length-1]==0)=false:=by simp only [beq_eq_false_iff_ne,ne_eq];exact q4
    have e1:axOK c s.o=Qcx c s.o c.length:=by unfold axOK Qkk;rw [hl0,q4',decide_eq_true (show 1≤c.length by omega),decide_eq_true (show c.length≤6 by omega)];simp
    cases hb:Qcx c s.o c.length with
    |false=>
     rw [hb]at hbv e1
     have e:=hbad e1
     repeat (first|(simp -implicitDefEqProofs only [go_sem,Nat.reduceAdd,Nat.reduceMul,Nat.reduceEqDiff,Nat.reduceLT,Nat.reduceLeDiff,reduceCtorEq,hA',hA2,h0,hx,hwk,Int.toNat_natCast,List.length_map,q1',q2',q3',q4',wl,n1,hgl,e])|((with_reducible refine Qab (hbv) ?_ ?_ ?_);(with_reducible rfl);rfl)|(with_reducible exact Qaa _ _ (by kernel_rfl))|(with_reducible refine And.intro (Qaa _ _ (by kernel_rfl)) ?_))
    |true=>
     rw [hb]at hbv e1
     repeat (first|(simp -implicitDefEqProofs only [go_sem,Nat.reduceAdd,Nat.reduceMul,Nat.reduceEqDiff,Nat.reduceLT,Nat.reduceLeDiff,reduceCtorEq,hA',hA2,h0,hx,hwk,Int.toNat_natCast,List.length_map,q1',q2',q3',q4',wl,n1,hgl])|((with_reducible refine Qab (hbv) ?_ ?_ ?_);(with_reducible rfl);rfl)|(with_reducible exact Qaa _ _ (by kernel_rfl))|(with_reducible refine And.intro (Qaa _ _ (by kernel_rfl)) ?_))
     refine Qat mixed (fun k:{k:Nat // k≤c.length}=>St.of [(1,.bp 0 6 0 0),(2,.bool false),(3,.bp 303 2 0 0),(37,.agg [Qan s.x,Qan s.y,Qan s.z]),(38,.int .i64 (i:Int)),(70,Qan c),(71,.int .i64 (c.length:Int)),(72,.int .i64 (k.1:Int))]
      [(0,{els:=[sgPV s],esz:=6,ety:=24,fro:=0,live:=true,arr:=false}),(303,{els:=[wPV ((gcdL G (c.take k.1):Nat):Int)],esz:=2,ety:=31,fro:=0,live:=true,arr:=false})]) (fun k=>c.length-k.1) ⟨0,Nat.zero_le _⟩ ?_ ?_
     ·refine Qal (θ:=[(0,0),(303,303)]) rfl ?_ ?_
      ·simp [Qad,lkp,ren1,ren0,Qao,Qan]
      ·exact⟨⟨rfl,rfl,rfl,rfl,rfl,.inr ⟨rfl,_,_,rfl,rfl,rfl,rfl⟩⟩,⟨rfl,rfl,rfl,rfl,rfl,.inr ⟨rfl,_,_,rfl,rfl,rfl,rfl⟩⟩,trivial⟩
     ·rintro⟨k,hk⟩
      by_cases hB:k<c.length
      ·have hB':=ltT hB
       have n0:=nnT k
       have hgk:=Qb4 c k hB
       have hwk2:=Qai (a:=k) (by omega)
       obtain⟨k1,k2⟩:=hcx _ (List.getElem_mem hB)
       have o1:=Qeu c[k] k1 k2
       have x1:=Qav (hcx _ (List.getElem_mem hB))
       have x2:((gcdL G (c.take k):Nat):Int).natAbs<2^64:=by rw [Int.natAbs_natCast];exact Qe5 _ hGi fun x hx=>Qav (hcx x (List.mem_of_mem_take hx))
       have m:=Qnt (Qas x2 (by decide)) (Qas x1 (by decide))
       rw [Int.natAbs_natCast,←Qeo,←Qbk c k hB]at m
       generalize hX:gcdL G (c.take (k+1))=X at*
       generalize gcdL G (c.take k)=Y at*
       repeat (first|(simp -implicitDefEqProofs only [go_sem,Nat.reduceAdd,Nat.reduceMul,Nat.reduceEqDiff,Nat.reduceLT,Nat.reduceLeDiff,reduceCtorEq,hB',n0,hgk,hwk2,wPV,Int.toNat_natCast])|((with_reducible refine Qab (o1) ?_ ?_ ?_);(with_reducible rfl);rfl)|((with_reducible refine Qab (m) ?_ ?_ ?_);(with_reducible rfl);rfl)|(with_reducible exact Qaa _ _ (by kernel_rfl))|(with_reducible refine And.intro (Qaa _ _ (by kernel_rfl)) ?_))
       refine⟨⟨k+1,hB⟩,by simp only;omega,Qal (θ:=[(0,0),(303,303)]) rfl ?_ ?_⟩
       ·simp [Qad,lkp,ren1,ren0,Qao,Qan]
       ·simp only [hX]
        exact⟨⟨rfl,rfl,rfl,rfl,rfl,.inr ⟨rfl,_,_,rfl,rfl,rfl,rfl⟩⟩,⟨rfl,rfl,rfl,rfl,rfl,.inr ⟨rfl,_,_,rfl,rfl,rfl,rfl⟩⟩,trivial⟩
      ·have hB':=ltF hB
       obtain rfl:k=c.length:=by omega
       repeat (first|(simp -implicitDefEqProofs only [go_sem,Nat.reduceAdd,Nat.reduceMul,Nat.reduceEqDiff,Nat.reduceLT,Nat.reduceLeDiff,reduceCtorEq,hB',hwk])|(with_reducible exact Qaa _ _ (by kernel_rfl))|(with_reducible refine And.intro (Qaa _ _ (by kernel_rfl)) ?_))
       refine⟨⟨i+1,hA,by rw [htk];exact e1⟩,by simp only;omega,Qal (θ:=[(0,0),(303,303)]) rfl ?_ ?_⟩
       ·simp [Qad,lkp,ren1,ren0,Qao,Qan]
       ·simp only [hfd]
        rw [List.take_length]
        exact⟨⟨rfl,rfl,rfl,rfl,rfl,.inr ⟨rfl,_,_,rfl,rfl,rfl,rfl⟩⟩,⟨rfl,rfl,rfl,rfl,rfl,.inr ⟨rfl,_,_,rfl,rfl,rfl,rfl⟩⟩,trivial⟩
   ·have q3':((1:Int)<(c.length:Int))=False:=eq_false (by omega)
    have e1:axOK c s.o=Qcx c s.o c.length:=by unfold axOK Qkk;rw [decide_eq_true (show 1≤c.length by omega),decide_eq_true (show c.length≤6 by omega),decide_eq_true (show c.length≤1 by omega)];simp
    cases hb:Qcx c s.o c.length with
    |false=>
     rw [hb]at hbv e1
     have e:=hbad e1
     repeat (first|(simp -implicitDefEqProofs only [go_sem,Nat.reduceAdd,Nat.reduceMul,Nat.reduceEqDiff,Nat.reduceLT,Nat.reduceLeDiff,reduceCtorEq,hA',hA2,h0,hx,hwk,Int.toNat_natCast,List.length_map,q1',q2',q3',wl,n1,hgl,e])|((with_reducible refine Qab (hbv) ?_ ?_ ?_);(with_reducible rfl);rfl)|(with_reducible exact Qaa _ _ (by kernel_rfl))|(with_reducible refine And.intro (Qaa _ _ (by kernel_rfl)) ?_))
    |true=>
     rw [hb]at hbv e1
     repeat (first|(simp -implicitDefEqProofs only [go_sem,Nat.reduceAdd,Nat.reduceMul,Nat.reduceEqDiff,Nat.reduceLT,Nat.reduceLeDiff,reduceCtorEq,hA',hA2,h0,hx,hwk,Int.toNat_natCast,List.length_map,q1',q2',q3',wl,n1,hgl])|((with_reducible refine Qab (hbv) ?_ ?_ ?_);(with_reducible rfl);rfl)|(with_reducible exact Qaa _ _ (by kernel_rfl))|(with_reducible refine And.intro (Qaa _ _ (by kernel_rfl)) ?_))
     refine Qat mixed (fun k:{k:Nat // k≤c.length}=>St.of [(1,.bp 0 6 0 0),(2,.bool false),(3,.bp 303 2 0 0),(37,.agg [Qan s.x,Qan s.y,Qan s.z]),(38,.int .i64 (i:Int)),(70,Qan c),(71,.int .i64 (c.length:Int)),(72,.int .i64 (k.1:Int))]
      [(0,{els:=[sgPV s],esz:=6,ety:=24,fro:=0,live:=true,arr:=false}),(303,{els:=[wPV ((gcdL G (c.take k.1):Nat):Int)],esz:=2,ety:=31,fro:=0,live:=true,arr:=false})]) (fun k=>c.length-k.1) ⟨0,Nat.zero_le _⟩ ?_ ?_
     ·refine Qal (θ:=[(0,0),(303,303)]) rfl ?_ ?_
      ·simp [Qad,lkp,ren1,ren0,Qao,Qan]
      ·exact⟨⟨rfl,rfl,rfl,rfl,rfl,.inr ⟨rfl,_,_,rfl,rfl,rfl,rfl⟩⟩,⟨rfl,rfl,rfl,rfl,rfl,.inr ⟨rfl,_,_,rfl,rfl,rfl,rfl⟩⟩,trivial⟩
     ·rintro⟨k,hk⟩
      by_cases hB:k<c.length
      ·have hB':=ltT hB
       have n0:=nnT k
       have hgk:=Qb4 c k hB
       have hwk2:=Qai (a:=k) (by omega)
       obtain⟨k1,k2⟩:=hcx _ (List.getElem_mem hB)
       have o1:=Qeu c[k] k1 k2
       have x1:=Qav (hcx _ (List.getElem_mem hB))
       have x2:((gcdL G (c.take k):Nat):Int).natAbs<2^64:=by rw [Int.natAbs_natCast];exact Qe5 _ hGi fun x hx=>Qav (hcx x (List.mem_of_mem_take hx))
       have m:=Qnt (Qas x2 (by decide)) (Qas x1 (by decide))
       rw [Int.natAbs_natCast,←Qeo,←Qbk c k hB]at m
       generalize hX:gcdL G (c.take (k+1))=X at*
       generalize gcdL G (c.take k)=Y at*
       repeat (first|(simp -implicitDefEqProofs only [go_sem,Nat.reduceAdd,Nat.reduceMul,Nat.reduceEqDiff,Nat.reduceLT,Nat.reduceLeDiff,reduceCtorEq,hB',n0,hgk,hwk2,wPV,Int.toNat_natCast])|((with_reducible refine Qab (o1) ?_ ?_ ?_);(with_reducible rfl);rfl)|((with_reducible refine Qab (m) ?_ ?_ ?_);(with_reducible rfl);rfl)|(with_reducible exact Qaa _ _ (by kernel_rfl))|(with_reducible refine And.intro (Qaa _ _ (by kernel_rfl)) ?_))
       refine⟨⟨k+1,hB⟩,by simp only;omega,Qal (θ:=[(0,0),(303,303)]) rfl ?_ ?_⟩
       ·simp [Qad,lkp,ren1,ren0,Qao,Qan]
       ·simp only [hX]
        exact⟨⟨rfl,rfl,rfl,rfl,rfl,.inr ⟨rfl,_,_,rfl,rfl,rfl,rfl⟩⟩,⟨rfl,rfl,rfl,rfl,rfl,.inr ⟨rfl,_,_,rfl,rfl,rfl,rfl⟩⟩,trivial⟩
      ·have hB':=ltF hB
       obtain rfl:k=c.length:=by omega
       repeat (first|(simp -implicitDefEqProofs only [go_sem,Nat.reduceAdd,Nat.reduceMul,Nat.reduceEqDiff,Nat.reduceLT,Nat.reduceLeDiff,reduceCtorEq,hB',hwk])|(with_reducible exact Qaa _ _ (by kernel_rfl))|(with_reducible refine And.intro (Qaa _ _ (by kernel_rfl)) ?_))
       refine⟨⟨i+1,hA,by rw [htk];exact e1⟩,by simp only;omega,Qal (θ:=[(0,0),(303,303)]) rfl ?_ ?_⟩
       ·simp [Qad,lkp,ren1,ren0,Qao,Qan]
       ·simp only [hfd]
        rw [List.take_length]
        exact⟨⟨rfl,rfl,rfl,rfl,rfl,.inr ⟨rfl,_,_,rfl,rfl,rfl,rfl⟩⟩,⟨rfl,rfl,rfl,rfl,rfl,.inr ⟨rfl,_,_,rfl,rfl,rfl,rfl⟩⟩,trivial⟩
  ·have hA':((i:Int)<3)=False:=eq_false (by omega)
   obtain rfl:i=3:=by omega
   have et:s.ax.take 3=s.ax:=rfl
   have e:Qa3 s=((s.ax.take 3).foldl gcdL s.o.natAbs==1):=by rw [et]at hall ⊢;unfold Qa3;rw [er,hall];simp
   rw [e]
   simp only
   generalize (s.ax.take 3).foldl gcdL s.o.natAbs=G at*
   repeat (first|(simp -implicitDefEqProofs only [go_sem,Nat.reduceAdd,Nat.reduceMul,Nat.reduceEqDiff,Nat.reduceLT,Nat.reduceLeDiff,Nat.reduceSub,reduceCtorEq,Int.reduceLT,hA',wPV])|((with_reducible refine Qab (wone) ?_ ?_ ?_);(with_reducible rfl);rfl)|(with_reducible exact Qaa _ _ (by kernel_rfl))|(with_reducible refine And.intro (Qaa _ _ (by kernel_rfl)) ?_))
   have h1:=Qlu (G:Int) 1
   have h2:decide ((1:Int)<0)=false:=rfl
   rw [h2]at h1
   have h3:(decide ((G:Int)<0)==false)= !decide ((G:Int)<0):=by cases decide ((G:Int)<0)<;>rfl
   rw [h3]at h1
   rw [h1]
   congr 1
   rw [Bool.eq_iff_iff,decide_eq_true_eq,beq_iff_eq]
   omega
end Go.Proofs.YtlpiamlgibomhaaGreat

namespace Go.Proofs.YtlpiamlgibomhaaGreat
open Go.Vl Go.RowKit Go.Dg
theorem Qq5 (n k:Nat) (hk:k≤n) (hn:n≤50):Qag Tryz.prog 96 [.int .i64 (n:Int),.int .i64 (k:Int)] (.int .i64 (bin n k:Int)):=by
 refine Qac (tb:=[]) 21 [.tmp 4] [0,1,4,5,6,9] mixed Tryz.func96 rfl (by kernel_rfl) (by kernel_rfl) (by kernel_rfl) (by kernel_rfl) ?_
 simp -implicitDefEqProofs only [go_sem,Nat.reduceAdd,Nat.reduceMul,Nat.reduceEqDiff,Nat.reduceLT,Nat.reduceLeDiff,reduceCtorEq]
 refine Qat mixed (fun i:{i:Nat // i≤k}=>St.of [(0,.int .i64 (n:Int)),(1,.int .i64 (k:Int)),(5,.int .i64 (bin n i.1:Int)),(6,.int .i64 (i.1:Int))] []) (fun i=>k-i.1) ⟨0,Nat.zero_le _⟩ ?_ ?_
 ·exact Qa1 (by simp [Qad,lkp,ren1,ren0,Qfk])
 ·rintro⟨i,hi⟩
  by_cases hA:i<k
  ·have hA':=ltT hA
   have hwk:=Qai (a:=i) (by omega)
   have w1:=Q8q (a:=n) (b:=i) (by omega) (by omega)
   have hb:=Qra (n:=n) (i:=i) (m:=n-i) hn (by omega)
   have w2:IntKind.i64.wrap ((bin n i:Int)*((n-i:Nat):Int))=((bin n i*(n-i):Nat):Int):=by rw [←Int.natCast_mul];exact wrapn hb
   have e:bin n i*(n-i)/(i+1)=bin n (i+1):=by rw [Qz6 (by omega),Nat.mul_div_cancel _ (Nat.succ_pos i)]
   have t:=Qpj (bin n i*(n-i)) (i+1)
   rw [e]at t
   have hz:=ne0 i
   have w3:IntKind.i64.wrap (bin n (i+1):Int)=(bin n (i+1):Int):=wrapn (by have:=Qra (n:=n) (i:=i+1) (m:=1) hn (by decide);omega)
   simp -implicitDefEqProofs only [go_sem,Nat.reduceAdd,Nat.reduceMul,Nat.reduceEqDiff,Nat.reduceLT,Nat.reduceLeDiff,reduceCtorEq,hA',hwk,w1,w2,hz,t,w3]
   exact⟨⟨i+1,hA⟩,by simp only;omega,Qa1 (by simp [Qad,lkp,ren1,ren0])⟩
  ·have hA':=ltF hA
   obtain rfl:i=k:=by omega
   simp -implicitDefEqProofs only [go_sem,Nat.reduceAdd,Nat.reduceMul,Nat.reduceEqDiff,Nat.reduceLT,Nat.reduceLeDiff,reduceCtorEq,hA']
def ctls (c:List Int) (j:Nat):List Int:=(List.range j).map (ctl c)
theorem Q1h (c:List Int) (j:Nat):ctls c (j+1)=ctls c j++[ctl c j]:=by simp [ctls,List.range_succ]
theorem Qpc (c:List Int) (j:Nat):(ctls c j).length=j:=by simp [ctls]
theorem Qvq (c:List Int) (j i:Nat) (h:i<(ctls c j).length):(ctls c j)[i]=ctl c i:=by simp [ctls]
theorem Qs5 (c:List Int) (h1:1≤c.length) (h6:c.length≤6) (hc: ∀x∈c,i64 x):Qag Tryz.prog 54 [Qan c] (rL (ctls c c.length)):=by
 have hcb:bd 64 c:=fun x hx=>Qav (hc x hx)
 have wl:=Qe0 (n:=c.length) (by omega) (by omega)
 refine Qac (tb:=[]) 44 [.tmp 2] [0,2,3,4,5,6,7,13,19] mixed Tryz.func54 rfl (by kernel_rfl) (by kernel_rfl) (by kernel_rfl) (by kernel_rfl) ?_
 repeat (first|(simp -implicitDefEqProofs only [go_sem,Nat.reduceAdd,Nat.reduceMul,Nat.reduceEqDiff,Nat.reduceLT,Nat.reduceLeDiff,reduceCtorEq,List.length_map,wl])|(with_reducible exact Qaa _ _ (by kernel_rfl))|(with_reducible refine And.intro (Qaa _ _ (by kernel_rfl)) ?_))
 refine Qat mixed (fun j:{j:Nat // j≤c.length}=>St.of [(0,Qan c),(3,.int .i64 ((c.length-1:Nat):Int)),(4,.bs 7 2 0 j.1),(5,.int .i64 (j.1:Int))]
  [(7,{els:=(ctls c j.1).map rI,esz:=2,ety:=44,fro:=0,live:=true,arr:=true})]) (fun j=>c.length-j.1) ⟨0,Nat.zero_le _⟩ ?_ ?_
 ·refine Qfz 4 7 2 44 rfl rfl rfl (by decide) [(7,7)] rfl ?_ ?_
  ·simp [Qad,lkp,ren1,ren0,Qao,Qan]
  ·simp [Qak,lkp,Box.renames,ctls]
 ·rintro⟨j,hj⟩
  have hlen:((ctls c j).map rI).length=j:=by rw [List.length_map,Qpc]
  by_cases hA:j<c.length
  ·have hA':=leT (show j≤c.length-1 by omega)
   have hwk:=Qai (a:=j) (by omega)
   repeat (first|(simp -implicitDefEqProofs only [go_sem,Nat.reduceAdd,Nat.reduceMul,Nat.reduceEqDiff,Nat.reduceLT,Nat.reduceLeDiff,reduceCtorEq,hA',hwk])|(with_reducible exact Qaa _ _ (by kernel_rfl))|(with_reducible refine And.intro (Qaa _ _ (by kernel_rfl)) ?_))
   refine Qat mixed (fun k:{k:Nat // k≤j+1}=>St.of [(0,Qan c),(3,.int .i64 ((c.length-1:Nat):Int)),(4,.bs 7 2 0 j),(5,.int .i64 (j:Int)),(6,.bp 601 2 0 0),(7,.int .i64 (k.1:Int))]
    [(7,{els:=(ctls c j).map rI,esz:=2,ety:=44,fro:=0,live:=true,arr:=true}),(601,{els:=[rI (sm (fun k=>c.getD k 0*(cw (c.length-1) j k:Int)) k.1)],esz:=2,ety:=44,fro:=0,live:=true,arr:=false})]) (fun k=>j+1-k.1) ⟨0,Nat.zero_le _⟩ ?_ ?_
   ·refine Le.trans (Quv 601 rfl) (Qal (θ:=[(7,7),(601,601)]) rfl ?_ ?_)
    ·simp [Qad,lkp,ren1,ren0,Qao,Qan]
    ·refine⟨⟨rfl,rfl,rfl,rfl,rfl,.inl ⟨rfl,rfl⟩⟩,⟨rfl,rfl,rfl,rfl,rfl,.inr ⟨rfl,_,_,rfl,rfl,?_,rfl⟩⟩,trivial⟩
     simp only [sm,rI_z];rfl
   ·rintro⟨k,hk⟩
    by_cases hB:k<j+1
    ·have hB':=leT (show k≤j by omega)
     have hkc:k<c.length:=by omega
     have h0:=nnT k
     have hg:=Qb4 c k hkc
     have hwk2:=Qai (a:=k) (by omega)
     have g1:=Qq5 (c.length-1) k (by omega) (by omega)
     have g2:=Qq5 j k (by omega) (by omega)
     have hb0:((bin (c.length-1) k:Int)=0)=False:=eq_false (by have:=Qsl (n:=c.length-1) (k:=k) (by omega);omega)
     have t1:Int.tdiv 60 (bin (c.length-1) k:Int)=((60/bin (c.length-1) k:Nat):Int):=Qpj 60 _
     have d60:60/bin (c.length-1) k≤60:=Nat.div_le_self _ _
     have wk1:IntKind.i64.wrap ((60/bin (c.length-1) k:Nat):Int)=((60/bin (c.length-1) k:Nat):Int):=wrapn (by omega)
     have hcw:=Zf7 (c.length-1) j k (by omega)
     have ecw:((60/bin (c.length-1) k:Nat):Int)*(bin j k:Int)=(cw (c.length-1) j k:Int):=by rw [cw,Int.natCast_mul]
     have wk2:IntKind.i64.wrap (cw (c.length-1) j k:Int)=(cw (c.length-1) j k:Int):=wrapn (by omega)
     obtain⟨k1,k2⟩:=hc _ (List.getElem_mem hkc)
     have o1:=Qey c[k] k1 k2
     have o2:=Qey (cw (c.length-1) j k:Int) (by omega) (by omega)
     have x1:(c[k]).natAbs<2^64:=hcb _ (List.getElem_mem hkc)
     have x2:(cw (c.length-1) j k:Int).natAbs<2^11:=by rw [Int.natAbs_natCast];omega
     have m2:=Qhg (Qbv x1 (by decide)) (Qbv x2 (by decide))
     have y1:=Qgx (n:=c.length-1) (j:=j) hcb (by omega) k (by omega)
     have es:sm (fun k=>c.getD k 0*(cw (c.length-1) j k:Int)) (k+1)=sm (fun k=>c.getD k 0*(cw (c.length-1) j k:Int)) k+c[k]*(cw (c.length-1) j k:Int):=by simp only [sm];rw [Qb8 hkc]
     have a1:=Qvt (Qbv y1 (by decide)) (Qbv (Qgg x1 x2) (by decide))
     rw [←es]at a1
     generalize hX:sm (fun k=>c.getD k 0*(cw (c.length-1) j k:Int)) (k+1)=X at*
     generalize sm (fun k=>c.getD k 0*(cw (c.length-1) j k:Int)) k=Y at*
     generalize c[k]*(cw (c.length-1) j k:Int)=Z at*
     generalize (cw (c.length-1) j k:Int)=V at*
     repeat (first|(simp -implicitDefEqProofs only [go_sem,Nat.reduceAdd,Nat.reduceMul,Nat.reduceEqDiff,Nat.reduceLT,Nat.reduceLeDiff,reduceCtorEq,rI,di,hB',h0,hg,hwk2,hb0,t1,wk1,ecw,wk2,Int.toNat_natCast,List.length_map])|((with_reducible refine Qab (o1) ?_ ?_ ?_);(with_reducible rfl);rfl)|((with_reducible refine Qab (g1) ?_ ?_ ?_);(with_reducible rfl);rfl)|((with_reducible refine Qab (g2) ?_ ?_ ?_);(with_reducible rfl);rfl)|((with_reducible refine Qab (o2) ?_ ?_ ?_);(with_reducible rfl);rfl)|((with_reducible refine Qab (m2) ?_ ?_ ?_);(with_reducible rfl);rfl)|((with_reducible refine Qab (a1) ?_ ?_ ?_);(with_reducible rfl);rfl)|(with_reducible exact Qaa _ _ (by kernel_rfl))|(with_reducible refine And.intro (Qaa _ _ (by kernel_rfl)) ?_))
     refine⟨⟨k+1,hB⟩,by simp only;omega,Qal (θ:=[(7,7),(601,601)]) rfl ?_ ?_⟩
     ·simp [Qad,lkp,ren1,ren0,Qao,Qan]
     ·simp only [hX]
      exact⟨⟨rfl,rfl,rfl,rfl,rfl,.inl ⟨rfl,rfl⟩⟩,⟨rfl,rfl,rfl,rfl,rfl,.inr ⟨rfl,_,_,rfl,rfl,rfl,rfl⟩⟩,trivial⟩
    ·have hB':=leF (show¬k≤j by omega)
     obtain rfl:k=j+1:=by omega
     have ec:sm (fun k=>c.getD k 0*(cw (c.length-1) j k:Int)) (j+1)=ctl c j:=rfl
     simp only [ec]
     have q1:(j==j)=true:=beq_self_eq_true j
     have q2:((j+1)*32≤140737488355328)=True:=eq_true (by omega)
     have q3:(j+1≤maxLen)=True:=eq_true (by unfold maxLen;omega)
     have htk:(ctls c (j+1)).map rI=(ctls c j).map rI++[rI (ctl c j)]:=by rw [Q1h,List.map_append];rfl
     generalize ctl c j=X at*
     repeat (first|(simp -implicitDefEqProofs only [go_sem,Nat.reduceAdd,Nat.reduceMul,Nat.reduceEqDiff,Nat.reduceLT,Nat.reduceLeDiff,reduceCtorEq,Nat.reduceBneDiff,rI,di,hB',hlen,q1,q2,q3,Zm0,hwk])|(with_reducible exact Qaa _ _ (by kernel_rfl))|(with_reducible refine And.intro (Qaa _ _ (by kernel_rfl)) ?_))
     refine⟨⟨j+1,hA⟩,by simp only;omega,Qal (θ:=[(7,1103)]) rfl ?_ ?_⟩
     ·simp [Qad,lkp,ren1,ren0,Qao,Qan]
     ·simp only [htk]
      simp [Qak,lkp,Box.renames,rI,di]
  ·have hA':=leF (show¬j≤c.length-1 by omega)
   obtain rfl:j=c.length:=by omega
   have e1:((ctls c c.length).map rI).take c.length=(ctls c c.length).map rI:=List.take_of_length_le (by omega)
   repeat (first|(simp -implicitDefEqProofs only [go_sem,Nat.reduceAdd,Nat.reduceMul,Nat.reduceEqDiff,Nat.reduceLT,Nat.reduceLeDiff,reduceCtorEq,hA',hlen,e1,rL])|(with_reducible exact Qaa _ _ (by kernel_rfl))|(with_reducible refine And.intro (Qaa _ _ (by kernel_rfl)) ?_))
theorem Qq6 {v M:Int}:(((v.natAbs:Nat):Int)≤M)↔ ¬(M<v)∧ ¬(v< -M):=by omega
set_option maxHeartbeats 1000000 in
theorem Q1i (s:Sg) (hs:okSg s):Qag Tryz.prog 14 [sgPV s] (.bool (Qa3 s)):=by
 obtain⟨⟨a1,a2⟩,⟨a3,a4⟩,⟨a5,a6⟩,hc,hl⟩:=hs
 by_cases g1:s.f<0
 ·have g1':=eq_true g1
  have e:Qa3 s=false:=by unfold Qa3 rngS;rw [decide_eq_false (by omega)];rfl
  unfold sgPV
  refine Qac (tb:=[]) 111 [.tmp 2] [0,1,2,3,4,5,6,7,8,9,34,46,74,80,106] mixed Tryz.func14 rfl (by kernel_rfl) (by kernel_rfl) (by kernel_rfl) (by kernel_rfl) ?_
  repeat (first|(simp -implicitDefEqProofs only [go_sem,Nat.reduceAdd,Nat.reduceMul,Nat.reduceEqDiff,Nat.reduceLT,Nat.reduceLeDiff,reduceCtorEq,g1',e])|(with_reducible exact Qaa _ _ (by kernel_rfl))|(with_reducible refine And.intro (Qaa _ _ (by kernel_rfl)) ?_))
 have g1':=eq_false g1
 by_cases g2:s.t≤s.f
 ·have g2':=eq_true g2
  have e:Qa3 s=false:=by unfold Qa3 rngS;rw [decide_eq_true (show 0≤s.f by omega),decide_eq_false (show¬s.f<s.t by omega)];rfl
  unfold sgPV
  refine Qac (tb:=[]) 111 [.tmp 2] [0,1,2,3,4,5,6,7,8,9,34,46,74,80,106] mixed Tryz.func14 rfl (by kernel_rfl) (by kernel_rfl) (by kernel_rfl) (by kernel_rfl) ?_
  repeat (first|(simp -implicitDefEqProofs only [go_sem,Nat.reduceAdd,Nat.reduceMul,Nat.reduceEqDiff,Nat.reduceLT,Nat.reduceLeDiff,reduceCtorEq,g1',g2',e])|(with_reducible exact Qaa _ _ (by kernel_rfl))|(with_reducible refine And.intro (Qaa _ _ (by kernel_rfl)) ?_))
 have g2':=eq_false g2
 by_cases g3:3600000<s.t
 ·have g3':=eq_true g3
  have e:Qa3 s=false:=by unfold Qa3 rngS;rw [decide_eq_true (show 0≤s.f by omega),decide_eq_true (show s.f<s.t by omega),decide_eq_false (show¬s.t≤3600000 by omega)];rfl
  unfold sgPV
  refine Qac (tb:=[]) 111 [.tmp 2] [0,1,2,3,4,5,6,7,8,9,34,46,74,80,106] mixed Tryz.func14 rfl (by kernel_rfl) (by kernel_rfl) (by kernel_rfl) (by kernel_rfl) ?_
  repeat (first|(simp -implicitDefEqProofs only [go_sem,Nat.reduceAdd,Nat.reduceMul,Nat.reduceEqDiff,Nat.reduceLT,Nat.reduceLeDiff,reduceCtorEq,g1',g2',g3',e])|(with_reducible exact Qaa _ _ (by kernel_rfl))|(with_reducible refine And.intro (Qaa _ _ (by kernel_rfl)) ?_))
 have g3':=eq_false g3
 by_cases g4:s.o<1
 ·have g4':=eq_true g4
  have e:Qa3 s=false:=by unfold Qa3 rngS;rw [decide_eq_true (show 0≤s.f by omega),decide_eq_true (show s.f<s.t by omega),decide_eq_true (show s.t≤3600000 by omega),decide_eq_false (show¬1≤s.o by omega)];rfl
  unfold sgPV
  refine Qac (tb:=[]) 111 [.tmp 2] [0,1,2,3,4,5,6,7,8,9,34,46,74,80,106] mixed Tryz.func14 rfl (by kernel_rfl) (by kernel_rfl) (by kernel_rfl) (by kernel_rfl) ?_
  repeat (first|(simp -implicitDefEqProofs only [go_sem,Nat.reduceAdd,Nat.reduceMul,Nat.reduceEqDiff,Nat.reduceLT,Nat.reduceLeDiff,reduceCtorEq,g1',g2',g3',g4',e])|(with_reducible exact Qaa _ _ (by kernel_rfl))|(with_reducible refine And.intro (Qaa _ _ (by kernel_rfl)) ?_))
 have g4':=eq_false g4
 by_cases g5:4294967296<s.o
 ·have g5':=eq_true g5
  have e:Qa3 s=false:=by unfold Qa3 rngS;rw [decide_eq_true (show 0≤s.f by omega),decide_eq_true (show s.f<s.t by omega),decide_eq_true (show s.t≤3600000 by omega),decide_eq_true (show 1≤s.o by omega),decide_eq_false (show¬s.o≤4294967296 by omega)];rfl
  unfold sgPV
  refine Qac (tb:=[]) 111 [.tmp 2] [0,1,2,3,4,5,6,7,8,9,34,46,74,80,106] mixed Tryz.func14 rfl (by kernel_rfl) (by kernel_rfl) (by kernel_rfl) (by kernel_rfl) ?_
  repeat (first|(simp -implicitDefEqProofs only [go_sem,Nat.reduceAdd,Nat.reduceMul,Nat.reduceEqDiff,Nat.reduceLT,Nat.reduceLeDiff,reduceCtorEq,g1',g2',g3',g4',g5',e])|(with_reducible exact Qaa _ _ (by kernel_rfl))|(with_reducible refine And.intro (Qaa _ _ (by kernel_rfl)) ?_))
 have g5':=eq_false g5
 have er:rngS s=true:=by unfold rngS;rw [decide_eq_true (show 0≤s.f by omega),decide_eq_true (show s.f<s.t by omega),decide_eq_true (show s.t≤3600000 by omega),decide_eq_true (show 1≤s.o by omega),decide_eq_true (show s.o≤4294967296 by omega)];rfl
 have w1:=Qey s.o a5 a6
 have w2:=Qey 62914560 (by decide) (by decide)
 have hax:=Q1e s
 have hsg:sgPV s= .agg [.int .i64 s.f,.int .i64 s.t,.int .i64 s.o,.slc (s.x.map (PV.int .i64)),.slc (s.y.map (PV.int .i64)),.slc (s.z.map (PV.int .i64))]:=rfl
 rw [hsg]at hax ⊢
 have wone:=Qey 1 (by decide) (by decide)
 have hG: ∀i,((s.ax.take i).foldl gcdL s.o.natAbs)<2^64:=by
  intro i
  have: ∀(L:List (List Int)) (g:Nat),g<2^64→(∀c∈L,∀x∈c,x.natAbs<2^64)→L.foldl gcdL g<2^64:=by
   intro L
   induction L with
   |nil=>intro g hg _;exact hg
   |cons c L ih=>intro g hg h;exact ih _ (Qe5 c hg (h c (by simp))) fun c' hc'=>h c' (by simp [hc'])
  exact this _ _ (Qav ⟨a5,a6⟩) fun c hc' x hx=>Qav (hc c (List.mem_of_mem_take hc') x hx)
 have bm:(62914560*s.o).natAbs<2^(64+64):=Qgg (show(62914560:Int).natAbs<2^64 by decide) (Qav ⟨a5,a6⟩)
 have m1:=Qhg (Qbv (show(62914560:Int).natAbs<2^64 by decide) (by decide)) (Qbv (Qav ⟨a5,a6⟩) (by decide))
 have ng:=Zew (62914560*s.o)
 have hbt: ∀c j,Qcx c s.o (j+1)=(Qcx c s.o j&&decide (((ctl c j).natAbs:Int)≤62914560*s.o)):=fun c j=>Qe9 c s.o j
 generalize hM:62914560*s.o=M at*
 refine Qac (tb:=[]) 111 [.tmp 2] [0,1,2,3,4,5,6,7,8,9,34,46,74,80,106] mixed Tryz.func14 rfl (by kernel_rfl) (by kernel_rfl) (by kernel_rfl) (by kernel_rfl) ?_
 repeat (first|(simp -implicitDefEqProofs only [go_sem,Nat.reduceAdd,Nat.reduceMul,Nat.reduceEqDiff,Nat.reduceLT,Nat.reduceLeDiff,reduceCtorEq,Int.reduceLT,rI,di,g1',g2',g3',g4',g5'])|((with_reducible refine Qab (w1) ?_ ?_ ?_);(with_reducible rfl);rfl)|((with_reducible refine Qab (w2) ?_ ?_ ?_);(with_reducible rfl);rfl)|((with_reducible refine Qab (m1) ?_ ?_ ?_);(with_reducible rfl);rfl)|((with_reducible refine Qab (hax) ?_ ?_ ?_);(with_reducible rfl);rfl)|(with_reducible exact Qaa _ _ (by kernel_rfl))|(with_reducible refine And.intro (Qaa _ _ (by kernel_rfl)) ?_))
 have z0:0≤3∧((s.ax.take 0).all fun c=>axOK c s.o)=true:=⟨Nat.zero_le _,rfl⟩
 refine Qat mixed (fun i:{i:Nat // i≤3∧((s.ax.take i).all fun c=>axOK c s.o)=true}=>St.of [(1,.bp 0 6 0 0),(2,.bool false),(3,.bp 303 2 0 0),(4,.bp 405 2 0 0),(5,.slc [Qan s.x,Qan s.y,Qan s.z]),(6,.int .i64 (i.1:Int))]
  [(0,{els:=[sgPV s],esz:=6,ety:=24,fro:=0,live:=true,arr:=false}),(303,{els:=[rI (((s.ax.take i.1).foldl gcdL s.o.natAbs:Nat):Int)],esz:=2,ety:=44,fro:=0,live:=true,arr:=false}),(405,{els:=[rI M],esz:=2,ety:=44,fro:=0,live:=true,arr:=false})]) (fun i=>3-i.1) ⟨0,z0⟩ ?_ ?_
 ·refine Qal (θ:=[(0,0),(303,303),(405,405)]) rfl ?_ ?_
  ·simp [Qad,lkp,ren1,ren0,Qao,Qan]
  ·refine⟨⟨rfl,rfl,rfl,rfl,rfl,.inr ⟨rfl,_,_,rfl,rfl,rfl,rfl⟩⟩,⟨rfl,rfl,rfl,rfl,rfl,.inr ⟨rfl,_,_,rfl,rfl,?_,rfl⟩⟩,⟨rfl,rfl,rfl,rfl,rfl,.inr ⟨rfl,_,_,rfl,rfl,rfl,rfl⟩⟩,trivial⟩
   have:((((s.ax.take 0).foldl gcdL s.o.natAbs:Nat):Nat):Int)=s.o:=by simp;omega
   rw [this];rfl
 ·rintro⟨i,hi,hall⟩
  have hGi:=hG i
  by_cases hA:i<3
  ·have hA':((i:Int)<3)=True:=eq_true (by omega)
   have h0:=nnT i
   have hx:=Q1f s i hA
   have hwk:=Qai (a:=i) (by omega)
   have hcx:=hc (s.ax[i]) (List.getElem_mem hA)
   have hlx:=hl (s.ax[i]) (List.getElem_mem hA)
   have htk:(s.ax.take (i+1)).all (fun c=>axOK c s.o)=axOK s.ax[i] s.o:=by rw [Qbk s.ax i hA,List.all_append,hall];simp
   have hbad:axOK s.ax[i] s.o=false→Qa3 s=false:=fun h=>by
    unfold Qa3;rw [Qs8 (p:=fun c=>axOK c s.o) (l:=s.ax) (i:=i) hA h];simp
   have hfd:(s.ax.take (i+1)).foldl gcdL s.o.natAbs=gcdL ((s.ax.take i).foldl gcdL s.o.natAbs) s.ax[i]:=by rw [Qbk s.ax i hA,List.foldl_append];rfl
   generalize hC:s.ax[i]=c at*
   generalize (s.ax.take i).foldl gcdL s.o.natAbs=G at*
   have hcb:bd 64 c:=fun x hx=>Qav (hcx x hx)
   by_cases q1:c.length<1
   ·have q1':((c.length:Int)<1)=True:=eq_true (by omega)
    have e:=hbad (by unfold axOK Qkk;rw [decide_eq_false (show¬1≤c.length by omega)];rfl)
    repeat (first|(simp -implicitDefEqProofs only [go_sem,Nat.reduceAdd,Nat.reduceMul,Nat.reduceEqDiff,Nat.reduceLT,Nat.reduceLeDiff,reduceCtorEq,hA',h0,hx,hwk,Int.toNat_natCast,List.length_map,q1',e])|(with_reducible exact Qaa _ _ (by kernel_rfl))|(with_reducible refine And.intro (Qaa _ _ (by kernel_rfl)) ?_))
   have q1':((c.length:Int)<1)=False:=eq_false (by omega)
   by_cases q2:6<c.length
   ·have q2':((6:Int)<(c.length:Int))=True:=eq_true (by omega)
    have e:=hbad (by unfold axOK Qkk;rw [decide_eq_false (show¬c.length≤6 by omega)];simp)
    repeat (first|(simp -implicitDefEqProofs only [go_sem,Nat.reduceAdd,Nat.reduceMul,Nat.reduceEqDiff,Nat.reduceLT,Nat.reduceLeDiff,reduceCtorEq,hA',h0,hx,hwk,Int.toNat_natCast,List.length_map,q1',q2',e])|(with_reducible exact Qaa _ _ (by kernel_rfl))|(with_reducible refine And.intro (Qaa _ _ (by kernel_rfl)) ?_))
   have q2':((6:Int)<(c.length:Int))=False:=eq_false (by omega)
   have hct:=Qs5 c (by omega) (by omega) hcx
   unfold rL at hct
   have hlt:c.length-1<c.length:=by omega
   have wl:=Qe0 (n:=c.length) (by omega) (by omega)
   have hgl:=Qb4 c (c.length-1) hlt
   have n1:=nnT (c.length-1)
   have hl0:=Qb8 hlt
   by_cases q3:1<c.length
   ·have q3':((1:Int)<(c.length:Int))=True:=eq_true (by omega)
    by_cases q4:c[c.length-1]=0
    ·have q4':(c[c.length-1]==0)=true:=by rw [q4];rfl
     have e:=hbad (by unfold axOK Qkk;rw [hl0,q4',decide_eq_false (show¬c.length≤1 by omega)];simp)
     repeat (first|(simp -implicitDefEqProofs only [go_sem,Nat.reduceAdd,Nat.reduceMul,Nat.reduceEqDiff,Nat.reduceLT,Nat.reduceLeDiff,reduceCtorEq,hA',h0,hx,hwk,Int.toNat_natCast,List.length_map,q1',q2',q3',q4',wl,n1,hgl,e])|(with_reducible exact Qaa _ _ (by kernel_rfl))|(with_reducible refine And.intro (Qaa _ _ (by kernel_rfl)) ?_))
    have q4':(c[c.length-1]==0)=false:=by simp only [beq_eq_false_iff_ne,ne_eq];exact q4
    have e1:axOK c s.o=Qcx c s.o c.length:=by unfold axOK Qkk;rw [hl0,q4',decide_eq_true (show 1≤c.length by omega),decide_eq_true (show c.length≤6 by omega)];simp
    repeat (first|(simp -implicitDefEqProofs only [go_sem,Nat.reduceAdd,Nat.reduceMul,Nat.reduceEqDiff,Nat.reduceLT,Nat.reduceLeDiff,reduceCtorEq,hA',h0,hx,hwk,Int.toNat_natCast,List.length_map,q1',q2',q3',q4',wl,n1,hgl])|((with_reducible refine Qab (hct) ?_ ?_ ?_);(with_reducible rfl);rfl)|(with_reducible exact Qaa _ _ (by kernel_rfl))|(with_reducible refine And.intro (Qaa _ _ (by kernel_rfl)) ?_))
    have z1:0≤c.length∧Qcx c s.o 0=true:=⟨Nat.zero_le _,rfl⟩
    refine Qat mixed (fun k:{k:Nat // k≤c.length∧Qcx c s.o k=true}=>St.of [(1,.bp 0 6 0 0),(2,.bool false),(3,.bp 303 2 0 0),(4,.bp 405 2 0 0),(5,.slc [Qan s.x,Qan s.y,Qan s.z]),(6,.int .i64 (i:Int)),(7,Qan c),(8,.slc ((ctls c c.length).map rI)),(9,.int .i64 (k.1:Int))]
     [(0,{els:=[sgPV s],esz:=6,ety:=24,fro:=0,live:=true,arr:=false}),(303,{els:=[rI ((gcdL G (c.take k.1):Nat):Int)],esz:=2,ety:=44,fro:=0,live:=true,arr:=false}),(405,{els:=[rI M],esz:=2,ety:=44,fro:=0,live:=true,arr:=false})]) (fun k=>c.length-k.1) ⟨0,z1⟩ ?_ ?_
    ·refine Qal (θ:=[(0,0),(303,303),(405,405)]) rfl ?_ ?_
     ·simp [Qad,lkp,ren1,ren0,Qao,Qan]
     ·exact⟨⟨rfl,rfl,rfl,rfl,rfl,.inr ⟨rfl,_,_,rfl,rfl,rfl,rfl⟩⟩,⟨rfl,rfl,rfl,rfl,rfl,.inr ⟨rfl,_,_,rfl,rfl,rfl,rfl⟩⟩,⟨rfl,rfl,rfl,rfl,rfl,.inr ⟨rfl,_,_,rfl,rfl,rfl,rfl⟩⟩,trivial⟩
    ·rintro⟨k,hk,hbk⟩
     by_cases hB:k<c.length
     ·have hB':=ltT hB
      have n0:=nnT k
      have hgk:=Qb4 c k hB
      have hwk2:=Qai (a:=k) (by omega)
      obtain⟨k1,k2⟩:=hcx _ (List.getElem_mem hB)
      have o1:=Qey c[k] k1 k2
      have x1:=Qav (hcx _ (List.getElem_mem hB))
      have x2:((gcdL G (c.take k):Nat):Int).natAbs<2^64:=by rw [Int.natAbs_natCast];exact Qe5 _ hGi fun x hx=>Qav (hcx x (List.mem_of_mem_take hx))
      have m:=Q1p (Qbv x2 (by decide)) (Qbv x1 (by decide))
      rw [Int.natAbs_natCast,←Qeo,←Qbk c k hB]at m
      have hgv:=Zfh (ctls c c.length) k (by rw [Qpc];exact hB)
      rw [Qvq]at hgv
      have y3:(ctl c k).natAbs<2^(64+11+7):=Qgx (n:=c.length-1) (j:=k) hcb (by omega) (k+1) (by omega)
      have cm1:=Qfc (Qbv y3 (by decide)) (Qbv bm (by decide))
      have cm2:=Qfc (Qbv y3 (by decide)) (Qbv (Zfa bm) (by decide))
      have hbk1:=hbt c k
      rw [hbk,Bool.true_and]at hbk1
      have hsp:=Qq6 (v:=ctl c k) (M:=M)
      have eb:Qcx c s.o (k+1)=false→Qa3 s=false:=fun h=>hbad (e1.trans (Qow h hB))
      generalize hX:gcdL G (c.take (k+1))=X at*
      generalize gcdL G (c.take k)=Y at*
      generalize ctl c k=V at*
      by_cases p1:M<V
      ·have p1':((0:Int)<(V-M).sign)=True:=eq_true (Int.sign_pos_iff.2 (by omega))
       have e:=eb (by rw [hbk1];exact decide_eq_false fun h=>(hsp.1 h).1 p1)
       repeat (first|(simp -implicitDefEqProofs only [go_sem,Nat.reduceAdd,Nat.reduceMul,Nat.reduceEqDiff,Nat.reduceLT,Nat.reduceLeDiff,reduceCtorEq,List.length_map,hB',n0,hgk,hgv,rI,di,Int.toNat_natCast,p1',e])|((with_reducible refine Qab (o1) ?_ ?_ ?_);(with_reducible rfl);rfl)|((with_reducible refine Qab (m) ?_ ?_ ?_);(with_reducible rfl);rfl)|((with_reducible refine Qab (cm1) ?_ ?_ ?_);(with_reducible rfl);rfl)|(with_reducible exact Qaa _ _ (by kernel_rfl))|(with_reducible refine And.intro (Qaa _ _ (by kernel_rfl)) ?_))
      ·have p1':((0:Int)<(V-M).sign)=False:=eq_false (by have:=Int.sign_nonpos_iff.2 (show V-M≤0 by omega);omega)
       by_cases p2:V< -M
       ·have p2':((V- -M).sign<0)=True:=eq_true (Int.sign_neg_iff.2 (by omega))
        have e:=eb (by rw [hbk1];exact decide_eq_false fun h=>(hsp.1 h).2 p2)
        repeat (first|(simp -implicitDefEqProofs only [go_sem,Nat.reduceAdd,Nat.reduceMul,Nat.reduceEqDiff,Nat.reduceLT,Nat.reduceLeDiff,reduceCtorEq,List.length_map,hB',n0,hgk,hgv,rI,di,Int.toNat_natCast,p1',p2',e])|((with_reducible refine Qab (o1) ?_ ?_ ?_);(with_reducible rfl);rfl)|((with_reducible refine Qab (m) ?_ ?_ ?_);(with_reducible rfl);rfl)|((with_reducible refine Qab (cm1) ?_ ?_ ?_);(with_reducible rfl);rfl)|((with_reducible refine Qab (ng) ?_ ?_ ?_);(with_reducible rfl);rfl)|((with_reducible refine Qab (cm2) ?_ ?_ ?_);(with_reducible rfl);rfl)|(with_reducible exact Qaa _ _ (by kernel_rfl))|(with_reducible refine And.intro (Qaa _ _ (by kernel_rfl)) ?_))
       ·have p2':((V- -M).sign<0)=False:=eq_false (by have:=Int.sign_nonneg_iff.2 (show 0≤V- -M by omega);omega)
        have hbn:Qcx c s.o (k+1)=true:=by rw [hbk1];exact decide_eq_true (hsp.2 ⟨p1,p2⟩)
        repeat (first|(simp -implicitDefEqProofs only [go_sem,Nat.reduceAdd,Nat.reduceMul,Nat.reduceEqDiff,Nat.reduceLT,Nat.reduceLeDiff,reduceCtorEq,List.length_map,hB',n0,hgk,hgv,hwk2,rI,di,Int.toNat_natCast,p1',p2'])|((with_reducible refine Qab (o1) ?_ ?_ ?_);(with_reducible rfl);rfl)|((with_reducible refine Qab (m) ?_ ?_ ?_);(with_reducible rfl);rfl)|((with_reducible refine Qab (cm1) ?_ ?_ ?_);(with_reducible rfl);rfl)|((with_reducible refine Qab (ng) ?_ ?_ ?_);(with_reducible rfl);rfl)|((with_reducible refine Qab (cm2) ?_ ?_ ?_);(with_reducible rfl);rfl)|(with_reducible exact Qaa _ _ (by kernel_rfl))|(with_reducible refine And.intro (Qaa _ _ (by kernel_rfl)) ?_))
        refine⟨⟨k+1,hB,hbn⟩,by simp only;omega,Qal (θ:=[(0,0),(303,303),(405,405)]) rfl ?_ ?_⟩
        ·simp [Qad,lkp,ren1,ren0,Qao,Qan]
        ·simp only [hX]
         exact⟨⟨rfl,rfl,rfl,rfl,rfl,.inr ⟨rfl,_,_,rfl,rfl,rfl,rfl⟩⟩,⟨rfl,rfl,rfl,rfl,rfl,.inr ⟨rfl,_,_,rfl,rfl,rfl,rfl⟩⟩,⟨rfl,rfl,rfl,rfl,rfl,.inr ⟨rfl,_,_,rfl,rfl,rfl,rfl⟩⟩,trivial⟩
     ·have hB':=ltF hB
      obtain rfl:k=c.length:=by omega
      repeat (first|(simp -implicitDefEqProofs only [go_sem,Nat.reduceAdd,Nat.reduceMul,Nat.reduceEqDiff,Nat.reduceLT,Nat.reduceLeDiff,reduceCtorEq,List.length_map,hB',hwk])|(with_reducible exact Qaa _ _ (by kernel_rfl))|(with_reducible refine And.intro (Qaa _ _ (by kernel_rfl)) ?_))
      refine⟨⟨i+1,hA,by rw [htk];exact e1.trans hbk⟩,by simp only;omega,Qal (θ:=[(0,0),(303,303),(405,405)]) rfl ?_ ?_⟩
      ·simp [Qad,lkp,ren1,ren0,Qao,Qan]
      ·simp only [hfd]
       rw [List.take_length]
       exact⟨⟨rfl,rfl,rfl,rfl,rfl,.inr ⟨rfl,_,_,rfl,rfl,rfl,rfl⟩⟩,⟨rfl,rfl,rfl,rfl,rfl,.inr ⟨rfl,_,_,rfl,rfl,rfl,rfl⟩⟩,⟨rfl,rfl,rfl,rfl,rfl,.inr ⟨rfl,_,_,rfl,rfl,rfl,rfl⟩⟩,trivial⟩
   ·have q3':((1:Int)<(c.length:Int))=False:=eq_false (by omega)
    have e1:axOK c s.o=Qcx c s.o c.length:=by unfold axOK Qkk;rw [decide_eq_true (show 1≤c.length by omega),decide_eq_true (show c.length≤6 by omega),decide_eq_true (show c.length≤1 by omega)];simp
    repeat (first|(simp -implicitDefEqProofs only [go_sem,Nat.reduceAdd,Nat.reduceMul,Nat.reduceEqDiff,Nat.reduceLT,Nat.reduceLeDiff,reduceCtorEq,hA',h0,hx,hwk,Int.toNat_natCast,List.length_map,q1',q2',q3',wl,n1,hgl])|((with_reducible refine Qab (hct) ?_ ?_ ?_);(with_reducible rfl);rfl)|(with_reducible exact Qaa _ _ (by kernel_rfl))|(with_reducible refine And.intro (Qaa _ _ (by kernel_rfl)) ?_))
    have z1:0≤c.length∧Qcx c s.o 0=true:=⟨Nat.zero_le _,rfl⟩
    refine Qat mixed (fun k:{k:Nat // k≤c.length∧Qcx c s.o k=true}=>St.of [(1,.bp 0 6 0 0),(2,.bool false),(3,.bp 303 2 0 0),(4,.bp 405 2 0 0),(5,.slc [Qan s.x,Qan s.y,Qan s.z]),(6,.int .i64 (i:Int)),(7,Qan c),(8,.slc ((ctls c c.length).map rI)),(9,.int .i64 (k.1:Int))]
     [(0,{els:=[sgPV s],esz:=6,ety:=24,fro:=0,live:=true,arr:=false}),(303,{els:=[rI ((gcdL G (c.take k.1):Nat):Int)],esz:=2,ety:=44,fro:=0,live:=true,arr:=false}),(405,{els:=[rI M],esz:=2,ety:=44,fro:=0,live:=true,arr:=false})]) (fun k=>c.length-k.1) ⟨0,z1⟩ ?_ ?_
    ·refine Qal (θ:=[(0,0),(303,303),(405,405)]) rfl ?_ ?_
     ·simp [Qad,lkp,ren1,ren0,Qao,Qan]
     ·exact⟨⟨rfl,rfl,rfl,rfl,rfl,.inr ⟨rfl,_,_,rfl,rfl,rfl,rfl⟩⟩,⟨rfl,rfl,rfl,rfl,rfl,.inr ⟨rfl,_,_,rfl,rfl,rfl,rfl⟩⟩,⟨rfl,rfl,rfl,rfl,rfl,.inr ⟨rfl,_,_,rfl,rfl,rfl,rfl⟩⟩,trivial⟩
    ·rintro⟨k,hk,hbk⟩
     by_cases hB:k<c.length
     ·have hB':=ltT hB
      have n0:=nnT k
      have hgk:=Qb4 c k hB
      have hwk2:=Qai (a:=k) (by omega)
      obtain⟨k1,k2⟩:=hcx _ (List.getElem_mem hB)
      have o1:=Qey c[k] k1 k2
      have x1:=Qav (hcx _ (List.getElem_mem hB))
      have x2:((gcdL G (c.take k):Nat):Int).natAbs<2^64:=by rw [Int.natAbs_natCast];exact Qe5 _ hGi fun x hx=>Qav (hcx x (List.mem_of_mem_take hx))
      have m:=Q1p (Qbv x2 (by decide)) (Qbv x1 (by decide))
      rw [Int.natAbs_natCast,←Qeo,←Qbk c k hB]at m
      have hgv:=Zfh (ctls c c.length) k (by rw [Qpc];exact hB)
      rw [Qvq]at hgv
      have y3:(ctl c k).natAbs<2^(64+11+7):=Qgx (n:=c.length-1) (j:=k) hcb (by omega) (k+1) (by omega)
      have cm1:=Qfc (Qbv y3 (by decide)) (Qbv bm (by decide))
      have cm2:=Qfc (Qbv y3 (by decide)) (Qbv (Zfa bm) (by decide))
      have hbk1:=hbt c k
      rw [hbk,Bool.true_and]at hbk1
      have hsp:=Qq6 (v:=ctl c k) (M:=M)
      have eb:Qcx c s.o (k+1)=false→Qa3 s=false:=fun h=>hbad (e1.trans (Qow h hB))
      generalize hX:gcdL G (c.take (k+1))=X at*
      generalize gcdL G (c.take k)=Y at*
      generalize ctl c k=V at*
      by_cases p1:M<V
      ·have p1':((0:Int)<(V-M).sign)=True:=eq_true (Int.sign_pos_iff.2 (by omega))
       have e:=eb (by rw [hbk1];exact decide_eq_false fun h=>(hsp.1 h).1 p1)
       repeat (first|(simp -implicitDefEqProofs only [go_sem,Nat.reduceAdd,Nat.reduceMul,Nat.reduceEqDiff,Nat.reduceLT,Nat.reduceLeDiff,reduceCtorEq,List.length_map,hB',n0,hgk,hgv,rI,di,Int.toNat_natCast,p1',e])|((with_reducible refine Qab (o1) ?_ ?_ ?_);(with_reducible rfl);rfl)|((with_reducible refine Qab (m) ?_ ?_ ?_);(with_reducible rfl);rfl)|((with_reducible refine Qab (cm1) ?_ ?_ ?_);(with_reducible rfl);rfl)|(with_reducible exact Qaa _ _ (by kernel_rfl))|(with_reducible refine And.intro (Qaa _ _ (by kernel_rfl)) ?_))
      ·have p1':((0:Int)<(V-M).sign)=False:=eq_false (by have:=Int.sign_nonpos_iff.2 (show V-M≤0 by omega);omega)
       by_cases p2:V< -M
       ·have p2':((V- -M).sign<0)=True:=eq_true (Int.sign_neg_iff.2 (by omega))
        have e:=eb (by rw [hbk1];exact decide_eq_false fun h=>(hsp.1 h).2 p2)
        repeat (first|(simp -implicitDefEqProofs only [go_sem,Nat.reduceAdd,Nat.reduceMul,Nat.reduceEqDiff,Nat.reduceLT,Nat.reduceLeDiff,reduceCtorEq,List.length_map,hB',n0,hgk,hgv,rI,di,Int.toNat_natCast,p1',p2',e])|((with_reducible refine Qab (o1) ?_ ?_ ?_);(with_reducible rfl);rfl)|((with_reducible refine Qab (m) ?_ ?_ ?_);(with_reducible rfl);rfl)|((with_reducible refine Qab (cm1) ?_ ?_ ?_);(with_reducible rfl);rfl)|((with_reducible refine Qab (ng) ?_ ?_ ?_);(with_reducible rfl);rfl)|((with_reducible refine Qab (cm2) ?_ ?_ ?_);(with_reducible rfl);rfl)|(with_reducible exact Qaa _ _ (by kernel_rfl))|(with_reducible refine And.intro (Qaa _ _ (by kernel_rfl)) ?_))
       ·have p2':((V- -M).sign<0)=False:=eq_false (by have:=Int.sign_nonneg_iff.2 (show 0≤V- -M by omega);omega)
        have hbn:Qcx c s.o (k+1)=true:=by rw [hbk1];exact decide_eq_true (hsp.2 ⟨p1,p2⟩)
        repeat (first|(simp -implicitDefEqProofs only [go_sem,Nat.reduceAdd,Nat.reduceMul,Nat.reduceEqDiff,Nat.reduceLT,Nat.reduceLeDiff,reduceCtorEq,List.length_map,hB',n0,hgk,hgv,hwk2,rI,di,Int.toNat_natCast,p1',p2'])|((with_reducible refine Qab (o1) ?_ ?_ ?_);(with_reducible rfl);rfl)|((with_reducible refine Qab (m) ?_ ?_ ?_);(with_reducible rfl);rfl)|((with_reducible refine Qab (cm1) ?_ ?_ ?_);(with_reducible rfl);rfl)|((with_reducible refine Qab (ng) ?_ ?_ ?_);(with_reducible rfl);rfl)|((with_reducible refine Qab (cm2) ?_ ?_ ?_);(with_reducible rfl);rfl)|(with_reducible exact Qaa _ _ (by kernel_rfl))|(with_reducible refine And.intro (Qaa _ _ (by kernel_rfl)) ?_))
        refine⟨⟨k+1,hB,hbn⟩,by simp only;omega,Qal (θ:=[(0,0),(303,303),(405,405)]) rfl ?_ ?_⟩
        ·simp [Qad,lkp,ren1,ren0,Qao,Qan]
        ·simp only [hX]
         exact⟨⟨rfl,rfl,rfl,rfl,rfl,.inr ⟨rfl,_,_,rfl,rfl,rfl,rfl⟩⟩,⟨rfl,rfl,rfl,rfl,rfl,.inr ⟨rfl,_,_,rfl,rfl,rfl,rfl⟩⟩,⟨rfl,rfl,rfl,rfl,rfl,.inr ⟨rfl,_,_,rfl,rfl,rfl,rfl⟩⟩,trivial⟩
     ·have hB':=ltF hB
      obtain rfl:k=c.length:=by omega
      repeat (first|(simp -implicitDefEqProofs only [go_sem,Nat.reduceAdd,Nat.reduceMul,Nat.reduceEqDiff,Nat.reduceLT,Nat.reduceLeDiff,reduceCtorEq,List.length_map,hB',hwk])|(with_reducible exact Qaa _ _ (by kernel_rfl))|(with_reducible refine And.intro (Qaa _ _ (by kernel_rfl)) ?_))
      refine⟨⟨i+1,hA,by rw [htk];exact e1.trans hbk⟩,by simp only;omega,Qal (θ:=[(0,0),(303,303),(405,405)]) rfl ?_ ?_⟩
      ·simp [Qad,lkp,ren1,ren0,Qao,Qan]
      ·simp only [hfd]
       rw [List.take_length]
       exact⟨⟨rfl,rfl,rfl,rfl,rfl,.inr ⟨rfl,_,_,rfl,rfl,rfl,rfl⟩⟩,⟨rfl,rfl,rfl,rfl,rfl,.inr ⟨rfl,_,_,rfl,rfl,rfl,rfl⟩⟩,⟨rfl,rfl,rfl,rfl,rfl,.inr ⟨rfl,_,_,rfl,rfl,rfl,rfl⟩⟩,trivial⟩
  ·have hA':((i:Int)<3)=False:=eq_false (by omega)
   obtain rfl:i=3:=by omega
   have et:s.ax.take 3=s.ax:=rfl
   have e:Qa3 s=((s.ax.take 3).foldl gcdL s.o.natAbs==1):=by rw [et]at hall ⊢;unfold Qa3;rw [er,hall];simp
   rw [e]
   simp only
   generalize (s.ax.take 3).foldl gcdL s.o.natAbs=G at*
   have x2:((G:Nat):Int).natAbs<2^64:=by rw [Int.natAbs_natCast];exact hGi
   have hcm:=Qfc (Qbv x2 (by decide)) (Qbv (show(1:Int).natAbs<2^64 by decide) (by decide))
   have hsn:(((G:Int)-1).sign==0)=(G==1):=by
    rw [Bool.eq_iff_iff,beq_iff_eq,beq_iff_eq,Int.sign_eq_zero_iff_zero];omega
   repeat (first|(simp -implicitDefEqProofs only [go_sem,Nat.reduceAdd,Nat.reduceMul,Nat.reduceEqDiff,Nat.reduceLT,Nat.reduceLeDiff,Nat.reduceSub,reduceCtorEq,Int.reduceLT,hA',rI,di,hsn])|((with_reducible refine Qab (wone) ?_ ?_ ?_);(with_reducible rfl);rfl)|((with_reducible refine Qab (hcm) ?_ ?_ ?_);(with_reducible rfl);rfl)|(with_reducible exact Qaa _ _ (by kernel_rfl))|(with_reducible refine And.intro (Qaa _ _ (by kernel_rfl)) ?_))
end Go.Proofs.YtlpiamlgibomhaaGreat
