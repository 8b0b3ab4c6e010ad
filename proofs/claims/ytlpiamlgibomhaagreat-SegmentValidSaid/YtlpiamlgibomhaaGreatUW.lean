/-
  SA2, Dm, SA3, SA4, SA5, UW (merged for the claim).
-/
import Derived.Test.YtlpiamlgibomhaaGreatDn
import Derived.Test.YtlpiamlgibomhaaGreatUV
set_option linter.unusedSimpArgs false
set_option linter.unusedVariables false
namespace Go.Proofs.YtlpiamlgibomhaaGreat
open Go.Vl Go.RowKit Go.Dg
abbrev E9:Nat:=1000000000
theorem E9_2:2≤E9:=by decide
abbrev fI:Nat→PV:=fun d:Nat=>PV.int .i64 (d:Int)
theorem Qj6 (l:List Nat):(((l.map fun d:Nat=>PV.int .i64 (d:Int)).flatMap PV.cells).all PV.okCell)=true:=by
 rw [List.all_eq_true]
 intro x hx
 obtain⟨y,hy,hx⟩:=List.mem_flatMap.1 hx
 obtain⟨d,_,rfl⟩:=List.mem_map.1 hy
 simp only [Znr,List.mem_singleton]at hx
 subst hx;rfl
theorem Qpl (n:Nat):Int.tmod (n:Int) 1000000000=((n%1000000000:Nat):Int):=by
 rw [Int.tmod_eq_emod_of_nonneg (by omega)];rfl
theorem Qpm (n:Nat):Int.tdiv (n:Int) 1000000000=((n/1000000000:Nat):Int):=by
 rw [Int.tdiv_eq_ediv_of_nonneg (by omega)];rfl
theorem Qcf {a b:Nat} (h:a+b<9223372036854775808):IntKind.i64.wrap ((a:Int)+(b:Int))=((a+b:Nat):Int):=by
 rw [Qah (by omega) (by omega)];omega
theorem Qaj {a:Nat} (h:a+1<9223372036854775808):IntKind.i64.wrap ((a:Int)+1)=((a+1:Nat):Int):=by
 rw [Qah (by omega) (by omega)];omega
theorem Zkv (a b:Nat) (hl:(digs E9 (a+b)).length≤1000000000):Qag Tryz.prog 133 [di (digs E9 a),di (digs E9 b)] (di (digs E9 (a+b))):=by
 have hm:=Qe1
 refine Qac (tb:=[]) 52 [.tmp 4] [0,1,4,5,6,7,21,27,37] mixed Tryz.func133 rfl (by kernel_rfl) (by kernel_rfl) (by kernel_rfl) (by kernel_rfl) ?_
 simp -implicitDefEqProofs only [go_sem,Nat.reduceAdd,Nat.reduceMul,Nat.reduceEqDiff,Nat.reduceLT,Nat.reduceLeDiff,reduceCtorEq,di]
 refine Qas mixed (fun i:{i:Nat // i≤(digs E9 (a+b)).length∧ ∀j,j<i→(a+b)/E9^j≠0}=>St.of [(0,di (digs E9 a)),(1,di (digs E9 b)),(4,.nilS),(5,.bs 7 1 0 i.1),(6,.int .i64 (carry E9 a b i.1:Int)),(7,.int .i64 (i.1:Int))]
  [(7,{els:=(lows E9 (a+b) i.1).map fI,esz:=1,ety:=3,fro:=0,live:=true,arr:=true})]) (fun i=>(digs E9 (a+b)).length+1-i.1) ⟨0,Nat.zero_le _,by omega⟩ ?_ ?_
 ·refine Qhs 5 7 1 3 rfl rfl rfl (by decide) [(7,7)] rfl ?_ ?_
  ·simp [Qad,lkp,ren1,ren0,di,Qi3]
  ·simp [Qak,lkp,Box.renames,lows]
 ·rintro⟨i,hi,hmore⟩
  have h0:(0≤(i:Int))=True:=by simp
  have hll:=Qai (B:=E9) (a+b) i
  have hcle:=Qod (B:=E9) (by decide) a b i
  obtain⟨hs1,hs2⟩:(carry E9 a b i+a/E9^i%E9+b/E9^i%E9)%1000000000=(a+b)/E9^i%E9∧(carry E9 a b i+a/E9^i%E9+b/E9^i%E9)/1000000000=carry E9 a b (i+1):=Q22 (B:=E9) (by decide) a b i
  have hda:a/E9^i%E9<E9:=Nat.mod_lt _ (by decide)
  have hdb:b/E9^i%E9<E9:=Nat.mod_lt _ (by decide)
  have hb1:((i+1)*8≤140737488355328)=True:=by simp;omega
  have hb2:(i+1≤maxLen)=True:=by simp [maxLen];omega
  have hwi:=Qaj (a:=i) (by omega)
  have next: ∀s,((i<(digs E9 a).length)∨(i<(digs E9 b).length)∨0<carry E9 a b i)→Le s (St.of [(0,di (digs E9 a)),(1,di (digs E9 b)),(4,.nilS),(5,.bs 7 1 0 (i+1)),(6,.int .i64 (carry E9 a b (i+1):Int)),(7,.int .i64 ((i+1:Nat):Int))]
    [(7,{els:=(lows E9 (a+b) (i+1)).map fI,esz:=1,ety:=3,fro:=0,live:=true,arr:=true})])→
    ∃y:{i:Nat // i≤(digs E9 (a+b)).length∧ ∀j,j<i→(a+b)/E9^j≠0},(digs E9 (a+b)).length+1-y.1<(digs E9 (a+b)).length+1-i∧
     Le s (St.of [(0,di (digs E9 a)),(1,di (digs E9 b)),(4,.nilS),(5,.bs 7 1 0 y.1),(6,.int .i64 (carry E9 a b y.1:Int)),(7,.int .i64 (y.1:Int))]
      [(7,{els:=(lows E9 (a+b) y.1).map fI,esz:=1,ety:=3,fro:=0,live:=true,arr:=true})]):=by
   intro s hc hle
   have hne:=Zbh E9_2 hc
   have hlt:=(Qca E9_2 _ _).2 hne
   exact⟨⟨i+1,hlt,fun j hj=>(Nat.lt_succ_iff_lt_or_eq.1 hj).elim (hmore j) fun h=>h▸hne⟩,by simp only;omega,hle⟩
  by_cases hA:i<(digs E9 a).length
  ·have hA':((i:Int)<((digs E9 a).length:Int))=True:=by simp;omega
   have hga:=Qao E9_2 hA
   by_cases hB:i<(digs E9 b).length
   ·have hB':((i:Int)<((digs E9 b).length:Int))=True:=by simp;omega
    have hgb:=Qao E9_2 hB
    have w1:=Qcf (a:=carry E9 a b i) (b:=a/E9^i%E9) (by simp only [E9]at*;omega)
    have w2:=Qcf (a:=carry E9 a b i+a/E9^i%E9) (b:=b/E9^i%E9) (by simp only [E9]at*;omega)
    have w3:=wrapn (n:=(carry E9 a b i+a/E9^i%E9+b/E9^i%E9)/1000000000) (by simp only [E9]at*;omega)
    simp -implicitDefEqProofs only [go_sem,Nat.reduceAdd,Nat.reduceMul,Nat.reduceEqDiff,Nat.reduceLT,Nat.reduceLeDiff,reduceCtorEq,Int.reduceEq,Nat.reduceBneDiff,di,List.length_map,hA',hB',h0,Qed,hga,hgb,w1,w2,w3,Qpl,Qpm,hll,Qj6,hb1,hb2,hwi]
    refine next _ (.inl hA) (Qal (θ:=[(7,1004)]) rfl ?_ ?_)
    ·simp [Qad,lkp,ren1,ren0,di,hs2]
    ·simp [Qak,lkp,Box.renames,Qc1,hs1]
   ·have hB':((i:Int)<((digs E9 b).length:Int))=False:=by simp;omega
    have hb0:b/E9^i%E9=0:=by rw [Qa7 E9_2 (Nat.le_of_not_lt hB),Nat.zero_mod]
    rw [hb0,Nat.add_zero]at hs1 hs2
    have w1:=Qcf (a:=carry E9 a b i) (b:=a/E9^i%E9) (by simp only [E9]at*;omega)
    have w3:=wrapn (n:=(carry E9 a b i+a/E9^i%E9)/1000000000) (by simp only [E9]at*;omega)
    simp -implicitDefEqProofs only [go_sem,Nat.reduceAdd,Nat.reduceMul,Nat.reduceEqDiff,Nat.reduceLT,Nat.reduceLeDiff,reduceCtorEq,Int.reduceEq,Nat.reduceBneDiff,di,List.length_map,hA',hB',h0,Qed,hga,w1,w3,Qpl,Qpm,hll,Qj6,hb1,hb2,hwi]
    refine next _ (.inl hA) (Qal (θ:=[(7,1004)]) rfl ?_ ?_)
    ·simp [Qad,lkp,ren1,ren0,di,hs2]
    ·simp [Qak,lkp,Box.renames,Qc1,hs1]
  ·have hA':((i:Int)<((digs E9 a).length:Int))=False:=by simp;omega
   have ha0:a/E9^i%E9=0:=by rw [Qa7 E9_2 (Nat.le_of_not_lt hA),Nat.zero_mod]
   rw [ha0,Nat.add_zero]at hs1 hs2
   by_cases hB:i<(digs E9 b).length
   ·have hB':((i:Int)<((digs E9 b).length:Int))=True:=by simp;omega
    have hgb:=Qao E9_2 hB
    have w2:=Qcf (a:=carry E9 a b i) (b:=b/E9^i%E9) (by simp only [E9]at*;omega)
    have w3:=wrapn (n:=(carry E9 a b i+b/E9^i%E9)/1000000000) (by simp only [E9]at*;omega)
    simp -implicitDefEqProofs only [go_sem,Nat.reduceAdd,Nat.reduceMul,Nat.reduceEqDiff,Nat.reduceLT,Nat.reduceLeDiff,reduceCtorEq,Int.reduceEq,Nat.reduceBneDiff,di,List.length_map,hA',hB',h0,Qed,hgb,w2,w3,Qpl,Qpm,hll,Qj6,hb1,hb2,hwi]
    refine next _ (.inr (.inl hB)) (Qal (θ:=[(7,1004)]) rfl ?_ ?_)
    ·simp [Qad,lkp,ren1,ren0,di,hs2]
    ·simp [Qak,lkp,Box.renames,Qc1,hs1]
   ·have hB':((i:Int)<((digs E9 b).length:Int))=False:=by simp;omega
    have hb0:b/E9^i%E9=0:=by rw [Qa7 E9_2 (Nat.le_of_not_lt hB),Nat.zero_mod]
    rw [hb0,Nat.add_zero]at hs1 hs2
    by_cases hC:0<carry E9 a b i
    ·have hC':((0:Int)<(carry E9 a b i:Int))=True:=by simp;omega
     have w3:=wrapn (n:=carry E9 a b i/1000000000) (by simp only [E9]at*;omega)
     simp -implicitDefEqProofs only [go_sem,Nat.reduceAdd,Nat.reduceMul,Nat.reduceEqDiff,Nat.reduceLT,Nat.reduceLeDiff,reduceCtorEq,Int.reduceEq,Nat.reduceBneDiff,di,List.length_map,hA',hB',hC',h0,w3,Qpl,Qpm,hll,Qj6,hb1,hb2,hwi]
     refine next _ (.inr (.inr hC)) (Qal (θ:=[(7,1004)]) rfl ?_ ?_)
     ·simp [Qad,lkp,ren1,ren0,di,hs2]
     ·simp [Qak,lkp,Box.renames,Qc1,hs1]
    ·have hC':((0:Int)<(carry E9 a b i:Int))=False:=by simp;omega
     have hlt:=Zbg E9_2 (Nat.le_of_not_lt hA) (Nat.le_of_not_lt hB) (by omega)
     have hd:=Qkz E9_2 hlt hmore
     have htk:((lows E9 (a+b) i).map fI).take i=(lows E9 (a+b) i).map fI:=List.take_of_length_le (by simp [hll])
     simp -implicitDefEqProofs only [go_sem,Nat.reduceAdd,Nat.reduceMul,Nat.reduceEqDiff,Nat.reduceLT,Nat.reduceLeDiff,reduceCtorEq,di,List.length_map,hA',hB',hC',hll,htk]
     rw [hd]
end Go.Proofs.YtlpiamlgibomhaaGreat

namespace Go.Dg
section
variable {B:Nat}
def cmpN (a b:Nat):Int:=if a<b then -1 else if b<a then 1 else 0
theorem Qpn {a b:Nat} (h:a<b):cmpN a b= -1:=by simp [cmpN,h]
theorem Qt8 {a b:Nat} (h:b<a):cmpN a b=1:=by simp [cmpN,h];omega
theorem Q6e (a:Nat):cmpN a a=0:=by simp [cmpN]
theorem Qvt (hB:2≤B) {a b:Nat} (h:(digs B a).length<(digs B b).length):a<b:=by
 have h1:=Qaz hB a
 have h2:=(Qca hB b _).1 h
 have h3:=Nat.div_eq_zero_iff (a:=b) (b:=B^(digs B a).length)
 have:0<B^(digs B a).length:=Nat.pow_pos (by omega)
 omega
theorem Qhd (hB:0<B) (a i:Nat):a/B^i=B*(a/B^(i+1))+a/B^i%B:=by
 rw [Nat.pow_succ,←Nat.div_div_eq_div_mul]
 exact(Nat.div_add_mod _ _).symm
theorem Qiz (hB:0<B) {a b i:Nat} (h:a/B^(i+1)=b/B^(i+1)) (hd:a/B^i%B<b/B^i%B):a<b:=by
 have h1:=Qhd hB a i
 have h2:=Qhd hB b i
 rw [h]at h1
 apply Nat.lt_of_not_le
 intro hle
 have:=Nat.div_le_div_right (c:=B^i) hle
 omega
theorem Qn2 (hB:0<B) {a b i:Nat} (h:a/B^(i+1)=b/B^(i+1)) (hd:a/B^i%B=b/B^i%B):a/B^i=b/B^i:=by
 rw [Qhd hB a i,Qhd hB b i,h,hd]
def bor (B a b i:Nat):Nat:=if a%B^i<b%B^i then 1 else 0
theorem Qpo (a b:Nat):bor B a b 0=0:=by simp [bor,Nat.mod_one]
theorem Qn3 (a b i:Nat):bor B a b i≤1:=by unfold bor;split<;>omega
theorem Q6f (hB:0<B) {a b:Nat} (h:b≤a) (i:Nat):(a-b)/B^i+b/B^i+bor B a b i=a/B^i:=by
 have hp:0<B^i:=Nat.pow_pos hB
 unfold bor
 generalize B^i=P at*
 have ha:=Nat.div_add_mod a P
 have hb:=Nat.div_add_mod b P
 have hm1:=Nat.mod_lt a hp
 have hm2:=Nat.mod_lt b hp
 have hle:b/P≤a/P:=Nat.div_le_div_right h
 generalize a/P=x at*
 generalize b/P=y at*
 generalize a%P=r at*
 generalize b%P=s at*
 obtain⟨z,rfl⟩:=Nat.exists_eq_add_of_le hle
 rw [Nat.mul_add]at ha
 split
 ·rename_i hlt
  have hz:z≠0:=by rintro rfl;rw [Nat.mul_zero]at ha;omega
  obtain⟨z',rfl⟩:=Nat.exists_eq_succ_of_ne_zero hz
  have e:a-b=(P+r-s)+P*z':=by rw [Nat.mul_succ]at ha;omega
  rw [e,Nat.add_mul_div_left _ _ hp,Nat.div_eq_of_lt (by omega)]
  omega
 ·rename_i hlt
  have e:a-b=(r-s)+P*z:=by omega
  rw [e,Nat.add_mul_div_left _ _ hp,Nat.div_eq_of_lt (by omega)]
  omega
theorem Qpp (hB:2≤B) {a b:Nat} (h:b≤a) (i:Nat):
  (a-b)/B^i%B+b/B^i%B+bor B a b i=a/B^i%B+B*bor B a b (i+1):=by
 have hB0:0<B:=by omega
 have h1:=Q6f hB0 h i
 have h2:=Q6f hB0 h (i+1)
 have e1:=Qhd hB0 (a-b) i
 have e2:=Qhd hB0 b i
 have e3:=Qhd hB0 a i
 have hm:=Nat.mul_add B ((a-b)/B^(i+1)+b/B^(i+1)) (bor B a b (i+1))
 have hm2:=Nat.mul_add B ((a-b)/B^(i+1)) (b/B^(i+1))
 rw [h2]at hm
 omega
def mix (B V S n m:Nat):List Nat:=(List.range n).map fun j=>if j<m then V/B^j%B else S/B^j%B
theorem Qbf (V S n m:Nat):(mix B V S n m).length=n:=by simp [mix]
theorem Qcn (V S n m j:Nat) (h:j<n):(mix B V S n m)[j]? =some (if j<m then V/B^j%B else S/B^j%B):=by simp [mix,h]
theorem Qme (hB:0<B) {V W m j:Nat} (h:V%B^m=W%B^m) (hj:j<m):V/B^j%B=W/B^j%B:=by
 have key: ∀n,n/B^j%B=(n%B^m)/B^j%B:=by
  intro n
  have e:B^m=B^j*(B*B^(m-j-1)):=by
   rw [←Nat.mul_assoc,←Nat.pow_succ,←Nat.pow_add];congr 1;omega
  rw [e,Nat.mod_mul_right_div_self,Nat.mod_mul_right_mod]
 rw [key V,key W,h]
theorem Qdx (hB:0<B) {V W S n m d:Nat} (hm:m<n) (h:V%B^m=W%B^m) (hd:W/B^m%B=d):(mix B V S n m).set m d=mix B W S n (m+1):=by
 apply List.ext_getElem?
 intro j
 rw [List.getElem?_set]
 by_cases hj:j<n
 ·rw [Qcn _ _ _ _ _ hj,Qcn _ _ _ _ _ hj,Qbf]
  by_cases e:m=j
  ·subst e;simp [hj,hd]
  ·simp only [e,if_false]
   by_cases hlt:j<m
   ·rw [if_pos hlt,if_pos (by omega),Qme hB h hlt]
   ·rw [if_neg hlt,if_neg (by omega)]
 ·rw [List.getElem?_eq_none (by rw [Qbf];omega),List.getElem?_eq_none (by rw [Qbf];omega),Qbf]
  simp;omega
theorem Qem {V S n m:Nat} (hB:0<B) (h:V/B^m=S/B^m):mix B V S n m=lows B V n:=by
 apply List.map_congr_left
 intro j _
 split
 ·rfl
 ·rename_i hj
  obtain⟨k,rfl⟩:=Nat.exists_eq_add_of_le (Nat.le_of_not_lt hj)
  rw [Nat.pow_add,←Nat.div_div_eq_div_mul,←Nat.div_div_eq_div_mul,h]
theorem Qg3 (V S n:Nat):mix B V S n 0=lows B S n:=by simp [mix,lows]
def mulV (B S x i b k:Nat):Nat:=S+x*B^i*(b%B^k)
theorem Qmf (S x i b:Nat):mulV B S x i b 0=S:=by simp [mulV,Nat.mod_one]
theorem Qrl (S x i b k:Nat):mulV B S x i b (k+1)=mulV B S x i b k+x*(b/B^k%B)*B^(i+k):=by
 unfold mulV
 rw [Nat.pow_succ,Nat.mod_mul,Nat.mul_add,Nat.pow_add]
 have:x*B^i*(B^k*(b/B^k%B))=x*(b/B^k%B)*(B^i*B^k):=by
  simp only [Nat.mul_assoc,Nat.mul_comm,Nat.mul_left_comm]
 rw [this];omega
def mulC (B S x i b k:Nat):Nat:=mulV B S x i b k/B^(i+k)-S/B^(i+k)
theorem Zkw (S x i b k:Nat):S≤mulV B S x i b k:=Nat.le_add_right _ _
theorem Qkr (S x i b k:Nat):mulC B S x i b k+S/B^(i+k)=mulV B S x i b k/B^(i+k):=by
 have:=Nat.div_le_div_right (c:=B^(i+k)) (Zkw (B:=B) S x i b k)
 unfold mulC
 omega
theorem Qmg (S x i b:Nat):mulC B S x i b 0=0:=by simp [mulC,Qmf]
theorem Qpq (hB:0<B) (S x i b k:Nat):
  (S/B^(i+k)%B+mulC B S x i b k+x*(b/B^k%B))%B=mulV B S x i b (k+1)/B^(i+k)%B∧
  (S/B^(i+k)%B+mulC B S x i b k+x*(b/B^k%B))/B=mulC B S x i b (k+1):=by
 have hp:0<B^(i+k):=Nat.pow_pos hB
 have h1:=Qkr (B:=B) S x i b k
 have e1:mulV B S x i b (k+1)/B^(i+k)=(S/B^(i+k)%B+mulC B S x i b k+x*(b/B^k%B))+B*(S/B^(i+k+1)):=by
  rw [Qrl,Nat.add_mul_div_right _ _ hp,←h1]
  have:=Qhd hB S (i+k)
  omega
 constructor
 ·rw [e1,Nat.add_mul_mod_self_left]
 ·have h2:=Qkr (B:=B) S x i b (k+1)
  have e2:mulV B S x i b (k+1)/B^(i+(k+1))=mulV B S x i b (k+1)/B^(i+k)/B:=by
   rw [Nat.div_div_eq_div_mul,←Nat.pow_succ];rfl
  rw [e1,Nat.add_mul_div_left _ _ hB]at e2
  have e3:S/B^(i+(k+1))=S/B^(i+k+1):=rfl
  omega
theorem Qvu (S x i b k:Nat):mulV B S x i b k%B^(i+k)=mulV B S x i b (k+1)%B^(i+k):=by
 rw [Qrl,Nat.add_mul_mod_self_right]
theorem Qmh (a i b k:Nat) (hk:b<B^k):mulV B (a%B^i*b) (a/B^i%B) i b k=a%B^(i+1)*b:=by
 unfold mulV
 rw [Nat.mod_eq_of_lt hk,Nat.pow_succ,Nat.mod_mul,Nat.add_mul]
 congr 1
 rw [Nat.mul_comm (a/B^i%B)]
theorem Q6g (hB:0<B) {S x i b k:Nat} (hx:x<B):mulC B S x i b k<B:=by
 induction k with
 |zero=>rw [Qmg];exact hB
 |succ k ih=>
  rw [←(Qpq hB S x i b k).2,Nat.div_lt_iff_lt_mul hB]
  have h1:S/B^(i+k)%B<B:=Nat.mod_lt _ hB
  have h2:b/B^k%B<B:=Nat.mod_lt _ hB
  have h3:x*(b/B^k%B)≤(B-1)*(B-1):=Nat.mul_le_mul (by omega) (by omega)
  have h4:B*B=(B-1)*(B-1)+2*(B-1)+1:=by
   obtain⟨c,rfl⟩: ∃c,B=c+1:=⟨B-1,by omega⟩
   simp only [Nat.add_sub_cancel,Nat.add_mul,Nat.mul_add]
   omega
  omega
theorem Zdn (hB:0<B) {a i b k:Nat} (hk:b<B^k):mulC B (a%B^i*b) (a/B^i%B) i b (k+1)=0:=by
 unfold mulC
 rw [Qmh a i b (k+1) (Nat.lt_of_lt_of_le hk (Nat.pow_le_pow_right hB (Nat.le_succ k)))]
 have:a%B^(i+1)*b<B^(i+(k+1)):=by
  have h1:=Nat.mod_lt a (Nat.pow_pos (n:=i+1) hB)
  have e:B^(i+(k+1))=B^(i+1)*B^k:=by rw [←Nat.pow_add];congr 1;omega
  rw [e]
  rcases Nat.eq_zero_or_pos b with rfl|hb
  ·rw [Nat.mul_zero];exact Nat.mul_pos (Nat.pow_pos hB) (Nat.pow_pos hB)
  ·exact Nat.lt_of_lt_of_le (Nat.mul_lt_mul_of_pos_right h1 hb) (Nat.mul_le_mul_left _ (Nat.le_of_lt hk))
 rw [Nat.div_eq_of_lt this,Nat.zero_sub]
end
end Go.Dg

namespace Go.Proofs.YtlpiamlgibomhaaGreat
open Go.Vl Go.RowKit Go.Dg
theorem Qpr (a b:Nat) (ha:(digs E9 a).length≤1000000000):Qag Tryz.prog 134 [di (digs E9 a),di (digs E9 b)] (.int .i64 (cmpN a b)):=by
 refine Qac (tb:=[]) 41 [.tmp 4] [0,1,4,5,10,15,20,31,40] mixed Tryz.func134 rfl (by kernel_rfl) (by kernel_rfl) (by kernel_rfl) (by kernel_rfl) ?_
 by_cases hl:(digs E9 a).length=(digs E9 b).length
 ·have hl':(((digs E9 a).length:Int) != ((digs E9 b).length:Int))=false:=by simp [hl]
  have hw:IntKind.i64.wrap (((digs E9 a).length:Int)-1)=((digs E9 a).length:Int)-1:=Qah (by omega) (by omega)
  simp -implicitDefEqProofs only [go_sem,Nat.reduceAdd,Nat.reduceMul,Nat.reduceEqDiff,Nat.reduceLT,Nat.reduceLeDiff,reduceCtorEq,Int.reduceNeg,di,List.length_map,hl',hw]
  refine Qas mixed (fun i:{i:Nat // i≤(digs E9 a).length∧a/E9^i=b/E9^i}=>St.of [(0,di (digs E9 a)),(1,di (digs E9 b)),(4,.int .i64 0),(5,.int .i64 ((i.1:Int)-1))] []) (fun i=>i.1)
   ⟨(digs E9 a).length,Nat.le_refl _,by rw [Qa7 E9_2 (Nat.le_refl _),hl,Qa7 E9_2 (Nat.le_refl _)]⟩ ?_ ?_
  ·exact Qa1 (by simp [Qad,lkp,ren1,ren0,di])
  ·rintro⟨i,hi,he⟩
   cases i with
   |zero=>
    have h1:((0:Int)≤((0:Nat):Int)-1)=False:=by simp
    have hab:a=b:=by simpa using he
    subst hab
    simp -implicitDefEqProofs only [go_sem,Nat.reduceAdd,Nat.reduceMul,Nat.reduceEqDiff,Nat.reduceLT,Nat.reduceLeDiff,reduceCtorEq,Int.reduceNeg,di,h1,Q6e]
   |succ i=>
    have hs:(((i+1:Nat):Int)-1)=(i:Int):=by omega
    have h1:((0:Int)≤(i:Int))=True:=by simp
    have hga:=Qao E9_2 (show i<(digs E9 a).length by omega)
    have hgb:=Qao E9_2 (show i<(digs E9 b).length by omega)
    by_cases hlt:a/E9^i%E9<b/E9^i%E9
    ·have h2:(((a/E9^i%E9:Nat):Int)<((b/E9^i%E9:Nat):Int))=True:=by simp only [eq_iff_iff,iff_true];omega
     have hc:=Qpn (Qiz (by decide) he hlt)
     simp -implicitDefEqProofs only [go_sem,Nat.reduceAdd,Nat.reduceMul,Nat.reduceEqDiff,Nat.reduceLT,Nat.reduceLeDiff,reduceCtorEq,Int.reduceNeg,di,hs,h1,Qed,hga,hgb,h2,hc]
     exact Qaa _ _ (by kernel_rfl)
    ·have h2:(((a/E9^i%E9:Nat):Int)<((b/E9^i%E9:Nat):Int))=False:=by simp only [eq_iff_iff,iff_false];omega
     by_cases hgt:b/E9^i%E9<a/E9^i%E9
     ·have h3:(((b/E9^i%E9:Nat):Int)<((a/E9^i%E9:Nat):Int))=True:=by simp only [eq_iff_iff,iff_true];omega
      have hc:=Qt8 (Qiz (by decide) he.symm hgt)
      simp -implicitDefEqProofs only [go_sem,Nat.reduceAdd,Nat.reduceMul,Nat.reduceEqDiff,Nat.reduceLT,Nat.reduceLeDiff,reduceCtorEq,Int.reduceNeg,di,hs,h1,Qed,hga,hgb,h2,h3,hc]
      exact⟨Qaa _ _ (by kernel_rfl),Qaa _ _ (by kernel_rfl)⟩
     ·have h3:(((b/E9^i%E9:Nat):Int)<((a/E9^i%E9:Nat):Int))=False:=by simp only [eq_iff_iff,iff_false];omega
      have hw2:IntKind.i64.wrap ((i:Int)-1)=(i:Int)-1:=Qah (by omega) (by omega)
      simp -implicitDefEqProofs only [go_sem,Nat.reduceAdd,Nat.reduceMul,Nat.reduceEqDiff,Nat.reduceLT,Nat.reduceLeDiff,reduceCtorEq,Int.reduceNeg,di,hs,h1,Qed,hga,hgb,h2,h3,hw2]
      refine⟨Qaa _ _ (by kernel_rfl),Qaa _ _ (by kernel_rfl),⟨i,by omega,Qn2 (by decide) he (by omega)⟩,by simp,?_⟩
      exact Qa1 (by simp [Qad,lkp,ren1,ren0,di])
 ·have hl':(((digs E9 a).length:Int) != ((digs E9 b).length:Int))=true:=by simp;omega
  by_cases hlt:(digs E9 a).length<(digs E9 b).length
  ·have h2:(((digs E9 a).length:Int)<((digs E9 b).length:Int))=True:=by simp;omega
   have hc:=Qpn (Qvt E9_2 hlt)
   simp -implicitDefEqProofs only [go_sem,Nat.reduceAdd,Nat.reduceMul,Nat.reduceEqDiff,Nat.reduceLT,Nat.reduceLeDiff,reduceCtorEq,Int.reduceNeg,di,List.length_map,hl',h2,hc]
  ·have h2:(((digs E9 a).length:Int)<((digs E9 b).length:Int))=False:=by simp;omega
   have hc:=Qt8 (Qvt E9_2 (show(digs E9 b).length<(digs E9 a).length by omega))
   simp -implicitDefEqProofs only [go_sem,Nat.reduceAdd,Nat.reduceMul,Nat.reduceEqDiff,Nat.reduceLT,Nat.reduceLeDiff,reduceCtorEq,Int.reduceNeg,di,List.length_map,hl',h2,hc]
def rI (n:Int):PV:= .agg [.bool (decide (n<0)),di (digs E9 n.natAbs)]
theorem Qfq (neg:Bool) (m:Nat):Qag Tryz.prog 91 [.bool neg,di (digs E9 m)] (rI (if neg then -(m:Int)else m)):=by
 refine Qac (tb:=[]) 13 [.cell 4 44] [0,1,4] mixed Tryz.func91 rfl (by kernel_rfl) (by kernel_rfl) (by kernel_rfl) (by kernel_rfl) ?_
 by_cases hm:m=0
 ·subst hm
  cases neg
  ·simp -implicitDefEqProofs only [go_sem,Nat.reduceAdd,Nat.reduceMul,Nat.reduceEqDiff,Nat.reduceLT,Nat.reduceLeDiff,reduceCtorEq,di,rI,Qax,Int.natAbs_zero,Int.lt_irrefl]
   simp [Qax]
  ·simp -implicitDefEqProofs only [go_sem,Nat.reduceAdd,Nat.reduceMul,Nat.reduceEqDiff,Nat.reduceLT,Nat.reduceLeDiff,reduceCtorEq,di,rI,Qax]
   simp [Qax]
 ·have h1:((0:Int)<((digs E9 m).length:Int))=True:=by
   have:=mt (Qbh E9_2).1 hm
   simp only [eq_iff_iff,iff_true]
   have:=List.length_pos_iff.2 this
   omega
  cases neg
  ·simp -implicitDefEqProofs only [go_sem,Nat.reduceAdd,Nat.reduceMul,Nat.reduceEqDiff,Nat.reduceLT,Nat.reduceLeDiff,reduceCtorEq,di,rI,List.length_map,h1]
   have: ¬((m:Int)<0):=by omega
   simp [this]
  ·simp -implicitDefEqProofs only [go_sem,Nat.reduceAdd,Nat.reduceMul,Nat.reduceEqDiff,Nat.reduceLT,Nat.reduceLeDiff,reduceCtorEq,di,rI,List.length_map,h1]
   have: -(m:Int)<0:=by omega
   simp only [this,decide_true,Int.natAbs_neg,Int.natAbs_natCast]
end Go.Proofs.YtlpiamlgibomhaaGreat

namespace Go.Proofs.YtlpiamlgibomhaaGreat
open Go.Vl Go.RowKit Go.Dg
theorem Qps (a b:Nat) (hba:b≤a) (ha:(digs E9 a).length≤1000000000):Qag Tryz.prog 135 [di (digs E9 a),di (digs E9 b)] (di (digs E9 (a-b))):=by
 refine Qac (tb:=[]) 41 [.tmp 4] [0,1,4,5,6,7,8,12,24,32] mixed Tryz.func135 rfl (by kernel_rfl) (by kernel_rfl) (by kernel_rfl) (by kernel_rfl) ?_
 simp -implicitDefEqProofs only [go_sem,Nat.reduceAdd,Nat.reduceMul,Nat.reduceEqDiff,Nat.reduceLT,Nat.reduceLeDiff,reduceCtorEq,di]
 refine Qas mixed (fun i:{i:Nat // i≤(digs E9 a).length}=>St.of [(0,di (digs E9 a)),(1,di (digs E9 b)),(4,.nilS),(5,.bs 7 1 0 i.1),(6,.int .i64 (bor E9 a b i.1:Int)),(7,.int .i64 (i.1:Int))]
  [(7,{els:=(lows E9 (a-b) i.1).map fI,esz:=1,ety:=3,fro:=0,live:=true,arr:=true})]) (fun i=>(digs E9 a).length-i.1) ⟨0,Nat.zero_le _⟩ ?_ ?_
 ·refine Qhs 5 7 1 3 rfl rfl rfl (by decide) [(7,7)] rfl ?_ ?_
  ·simp [Qad,lkp,ren1,ren0,di,Qpo]
  ·simp [Qak,lkp,Box.renames,lows]
 ·rintro⟨i,hi⟩
  have h0:(0≤(i:Int))=True:=by simp
  have hll:=Qai (B:=E9) (a-b) i
  have hbl:=Qn3 (B:=E9) a b i
  have hbl2:=Qn3 (B:=E9) a b (i+1)
  have hst:=Qpp E9_2 hba i
  have hda:a/E9^i%E9<E9:=Nat.mod_lt _ (by decide)
  have hdb:b/E9^i%E9<E9:=Nat.mod_lt _ (by decide)
  have hdc:(a-b)/E9^i%E9<E9:=Nat.mod_lt _ (by decide)
  have hb1:((i+1)*8≤140737488355328)=True:=by simp;omega
  have hb2:(i+1≤maxLen)=True:=by simp [maxLen];omega
  have hwi:=Qaj (a:=i) (by omega)
  by_cases hA:i<(digs E9 a).length
  ·have hA':((i:Int)<((digs E9 a).length:Int))=True:=by simp;omega
   have hga:=Qao E9_2 hA
   have next: ∀s,Le s (St.of [(0,di (digs E9 a)),(1,di (digs E9 b)),(4,.nilS),(5,.bs 7 1 0 (i+1)),(6,.int .i64 (bor E9 a b (i+1):Int)),(7,.int .i64 ((i+1:Nat):Int))]
     [(7,{els:=(lows E9 (a-b) (i+1)).map fI,esz:=1,ety:=3,fro:=0,live:=true,arr:=true})])→
     ∃y:{i:Nat // i≤(digs E9 a).length},(digs E9 a).length-y.1<(digs E9 a).length-i∧
      Le s (St.of [(0,di (digs E9 a)),(1,di (digs E9 b)),(4,.nilS),(5,.bs 7 1 0 y.1),(6,.int .i64 (bor E9 a b y.1:Int)),(7,.int .i64 (y.1:Int))]
       [(7,{els:=(lows E9 (a-b) y.1).map fI,esz:=1,ety:=3,fro:=0,live:=true,arr:=true})]):=
    fun s hle=>⟨⟨i+1,hA⟩,by simp only;omega,hle⟩
   generalize hx:a/E9^i%E9=x at*
   generalize hy:b/E9^i%E9=y at*
   have hz:(a-b)/E9^i%E9+y+bor E9 a b i=x+E9*bor E9 a b (i+1):=hst
   have w1:IntKind.i64.wrap ((x:Int)-(bor E9 a b i:Int))=(x:Int)-(bor E9 a b i:Int):=Qah (by simp only [E9]at*;omega) (by simp only [E9]at*;omega)
   have w2:IntKind.i64.wrap ((x:Int)-(bor E9 a b i:Int)-(y:Int))=(x:Int)-(bor E9 a b i:Int)-(y:Int):=Qah (by simp only [E9]at*;omega) (by simp only [E9]at*;omega)
   have fin: ∀t:Int,t=(x:Int)-(bor E9 a b i:Int)-(y:Int)→(t<0→bor E9 a b (i+1)=1∧t+1000000000=(((a-b)/E9^i%E9:Nat):Int))∧(¬t<0→bor E9 a b (i+1)=0∧t=(((a-b)/E9^i%E9:Nat):Int)):=by
    intro t ht
    simp only [E9]at*
    constructor
    ·intro h;constructor<;>omega
    ·intro h;constructor<;>omega
   by_cases hB:i<(digs E9 b).length
   ·have hB':((i:Int)<((digs E9 b).length:Int))=True:=by simp;omega
    have hgb:=Qao E9_2 hB
    rw [hy]at hgb
    obtain⟨f1,f2⟩:=fin _ rfl
    by_cases hn:(x:Int)-(bor E9 a b i:Int)-(y:Int)<0
    ·have hn':((x:Int)-(bor E9 a b i:Int)-(y:Int)<0)=True:=by simp only [eq_iff_iff,iff_true];exact hn
     obtain⟨k1,k2⟩:=f1 hn
     have w3:IntKind.i64.wrap ((x:Int)-(bor E9 a b i:Int)-(y:Int)+1000000000)=(((a-b)/E9^i%E9:Nat):Int):=by rw [k2];exact wrapn (by simp only [E9]at*;omega)
     simp -implicitDefEqProofs only [go_sem,Nat.reduceAdd,Nat.reduceMul,Nat.reduceEqDiff,Nat.reduceLT,Nat.reduceLeDiff,reduceCtorEq,Nat.reduceBneDiff,di,List.length_map,hA',hB',h0,Qed,hga,hgb,w1,w2,w3,hn',hll,Qj6,hb1,hb2,hwi]
     refine next _ (Qal (θ:=[(7,1203)]) rfl ?_ ?_)
     ·simp [Qad,lkp,ren1,ren0,di,k1]
     ·simp [Qak,lkp,Box.renames,Qc1]
    ·have hn':((x:Int)-(bor E9 a b i:Int)-(y:Int)<0)=False:=by simp only [eq_iff_iff,iff_false];exact hn
     obtain⟨k1,k2⟩:=f2 hn
     simp -implicitDefEqProofs only [go_sem,Nat.reduceAdd,Nat.reduceMul,Nat.reduceEqDiff,Nat.reduceLT,Nat.reduceLeDiff,reduceCtorEq,Nat.reduceBneDiff,di,List.length_map,hA',hB',h0,Qed,hga,hgb,w1,w2,hn',hll,Qj6,hb1,hb2,hwi]
     refine next _ (Qal (θ:=[(7,1203)]) rfl ?_ ?_)
     ·simp [Qad,lkp,ren1,ren0,di,k1]
     ·simp [Qak,lkp,Box.renames,Qc1,k2]
   ·have hB':((i:Int)<((digs E9 b).length:Int))=False:=by simp;omega
    have hy0:y=0:=by rw [←hy,Qa7 E9_2 (Nat.le_of_not_lt hB),Nat.zero_mod]
    obtain⟨f1,f2⟩:=fin ((x:Int)-(bor E9 a b i:Int)) (by omega)
    by_cases hn:(x:Int)-(bor E9 a b i:Int)<0
    ·have hn':((x:Int)-(bor E9 a b i:Int)<0)=True:=by simp only [eq_iff_iff,iff_true];exact hn
     obtain⟨k1,k2⟩:=f1 hn
     have w3:IntKind.i64.wrap ((x:Int)-(bor E9 a b i:Int)+1000000000)=(((a-b)/E9^i%E9:Nat):Int):=by rw [k2];exact wrapn (by simp only [E9]at*;omega)
     simp -implicitDefEqProofs only [go_sem,Nat.reduceAdd,Nat.reduceMul,Nat.reduceEqDiff,Nat.reduceLT,Nat.reduceLeDiff,reduceCtorEq,Nat.reduceBneDiff,di,List.length_map,hA',hB',h0,Qed,hga,w1,w3,hn',hll,Qj6,hb1,hb2,hwi]
     refine next _ (Qal (θ:=[(7,1203)]) rfl ?_ ?_)
     ·simp [Qad,lkp,ren1,ren0,di,k1]
     ·simp [Qak,lkp,Box.renames,Qc1]
    ·have hn':((x:Int)-(bor E9 a b i:Int)<0)=False:=by simp only [eq_iff_iff,iff_false];exact hn
     obtain⟨k1,k2⟩:=f2 hn
     simp -implicitDefEqProofs only [go_sem,Nat.reduceAdd,Nat.reduceMul,Nat.reduceEqDiff,Nat.reduceLT,Nat.reduceLeDiff,reduceCtorEq,Nat.reduceBneDiff,di,List.length_map,hA',hB',h0,Qed,hga,w1,hn',hll,Qj6,hb1,hb2,hwi]
     refine next _ (Qal (θ:=[(7,1203)]) rfl ?_ ?_)
     ·simp [Qad,lkp,ren1,ren0,di,k1]
     ·simp [Qak,lkp,Box.renames,Qc1,k2]
  ·have hA':((i:Int)<((digs E9 a).length:Int))=False:=by simp;omega
   have htk:((lows E9 (a-b) i).map fI).take i=(lows E9 (a-b) i).map fI:=List.take_of_length_le (by simp [hll])
   have hlt:a-b<E9^i:=Nat.lt_of_le_of_lt (Nat.sub_le _ _) ((Qam E9_2 a i).1 (by omega))
   simp -implicitDefEqProofs only [go_sem,Nat.reduceAdd,Nat.reduceMul,Nat.reduceEqDiff,Nat.reduceLT,Nat.reduceLeDiff,reduceCtorEq,di,List.length_map,hA',hll,htk]
   refine Qaf _ _ _ _ _ _ _ _ _ (Qi2 (lows E9 (a-b) i) (by rw [hll];simp [maxLen];omega)) ?_
   simp -implicitDefEqProofs only [go_sem,Nat.reduceAdd,Nat.reduceEqDiff,Nat.reduceLT,reduceCtorEq,di,List.length_map]
   rw [Qbk E9_2,Nat.mod_eq_of_lt hlt]
end Go.Proofs.YtlpiamlgibomhaaGreat

namespace Go.Proofs.YtlpiamlgibomhaaGreat
open Go.Vl Go.RowKit Go.Dg
theorem Qrm (n:Nat):lows E9 0 n=List.replicate n 0:=by
 apply List.ext_getElem?
 intro k
 by_cases h:k<n
 ·rw [Qbp _ _ _ h];simp [h]
 ·rw [List.getElem?_eq_none (by rw [Qai];omega),List.getElem?_eq_none (by simp;omega)]
theorem Qvv (l:List Nat) (i:Nat) (d:Nat):(l.map fI).set i (PV.int .i64 (d:Int))=(l.set i d).map fI:=(List.map_set (f:=fI)).symm
theorem Zer (l:List Nat) (k:Nat):(l.map fI)[k]? =l[k]?.map fun d:Nat=>PV.int .i64 (d:Int):=List.getElem?_map
theorem Qvw (a b:Nat) (hab:(digs E9 a).length+(digs E9 b).length≤1000000000):Qag Tryz.prog 94 [di (digs E9 a),di (digs E9 b)] (di (digs E9 (a*b))):=by
 refine Qac (tb:=[]) 66 [.tmp 4] [0,1,4,5,6,7,8,9,19,29,43] mixed Tryz.func94 rfl (by kernel_rfl) (by kernel_rfl) (by kernel_rfl) (by kernel_rfl) ?_
 have hw0:=Qcf (a:=(digs E9 a).length) (b:=(digs E9 b).length) (by omega)
 have hn0:((0:Int)≤(((digs E9 a).length+(digs E9 b).length:Nat):Int))=True:=by simp only [eq_iff_iff,iff_true];omega
 have hn1:((8:Nat):Int)*(((digs E9 a).length+(digs E9 b).length:Nat):Int)≤281474976710656:=by omega
 have hn2:(((digs E9 a).length+(digs E9 b).length:Nat):Int)≤9223372036854775807:=by omega
 simp -implicitDefEqProofs only [go_sem,Nat.reduceAdd,Nat.reduceMul,Nat.reduceEqDiff,Nat.reduceLT,Nat.reduceLeDiff,reduceCtorEq,di,List.length_map,hw0,hn0,hn1,hn2]
 have hrep:List.replicate ((digs E9 a).length+(digs E9 b).length) (PV.int .i64 0)=(lows E9 0 ((digs E9 a).length+(digs E9 b).length)).map fI:=by rw [Qrm];simp
 rw [hrep]
 generalize hla:(digs E9 a).length=la at*
 generalize hlb:(digs E9 b).length=lb at*
 refine Qas mixed (fun i:{i:Nat // i≤la}=>St.of [(0,di (digs E9 a)),(1,di (digs E9 b)),(4,.nilS),(5,.bs 105 1 0 (la+lb)),(6,.int .i64 (i.1:Int))]
  [(105,{els:=(lows E9 (a%E9^i.1*b) (la+lb)).map fI,esz:=1,ety:=3,fro:=0,live:=true,arr:=true})]) (fun i=>la-i.1) ⟨0,Nat.zero_le _⟩ ?_ ?_
 ·refine Qal (θ:=[(105,105)]) rfl ?_ ?_
  ·simp [Qad,lkp,ren1,ren0,di]
  ·simp [Qak,lkp,Box.renames,Nat.mod_one]
 ·rintro⟨i,hi⟩
  by_cases hA:i<la
  ·have hA':((i:Int)<(la:Int))=True:=by simp;omega
   have h0:(0≤(i:Int))=True:=by simp
   have hga:=Qao E9_2 (show i<(digs E9 a).length by omega)
   have hblt:b<E9^lb:=by rw [←hlb];exact Qaz E9_2 b
   simp -implicitDefEqProofs only [go_sem,Nat.reduceAdd,Nat.reduceMul,Nat.reduceEqDiff,Nat.reduceLT,Nat.reduceLeDiff,reduceCtorEq,di,List.length_map,hla,hA']
   generalize hS:a%E9^i*b=S at*
   generalize hx:a/E9^i%E9=x at*
   have hxl:x<E9:=by rw [←hx];exact Nat.mod_lt _ (by decide)
   refine Qas mixed (fun k:{k:Nat // k≤lb+1}=>St.of [(0,di (digs E9 a)),(1,di (digs E9 b)),(4,.nilS),(5,.bs 105 1 0 (la+lb)),(6,.int .i64 (i:Int)),(7,.int .i64 (mulC E9 S x i b k.1:Int)),(8,.int .i64 (k.1:Int))]
    [(105,{els:=(mix E9 (mulV E9 S x i b k.1) S (la+lb) (i+k.1)).map fI,esz:=1,ety:=3,fro:=0,live:=true,arr:=true})]) (fun k=>lb+1-k.1) ⟨0,Nat.zero_le _⟩ ?_ ?_
   ·refine Qal (θ:=[(105,105)]) rfl ?_ ?_
    ·simp [Qad,lkp,ren1,ren0,di,Qmg]
    ·simp only [Qak,lkp,Box.renames,Qmf,Nat.add_zero,and_self,and_true,true_and,if_true]
     rw [Qem (by decide) rfl]
     exact .inl rfl
   ·rintro⟨k,hk⟩
    have hcl:=Q6g (B:=E9) (S:=S) (i:=i) (b:=b) (k:=k) (by decide) hxl
    obtain⟨hs1,hs2⟩:(S/E9^(i+k)%E9+mulC E9 S x i b k+x*(b/E9^k%E9))%1000000000=mulV E9 S x i b (k+1)/E9^(i+k)%E9∧(S/E9^(i+k)%E9+mulC E9 S x i b k+x*(b/E9^k%E9))/1000000000=mulC E9 S x i b (k+1):=Qpq (B:=E9) (by decide) S x i b k
    have hk0:(0≤(k:Int))=True:=by simp
    have hd1:S/E9^(i+k)%E9<E9:=Nat.mod_lt _ (by decide)
    have hd2:b/E9^k%E9<E9:=Nat.mod_lt _ (by decide)
    have hend:k=lb+1→mulC E9 S x i b k=0:=by
     rintro rfl;rw [←hS,←hx];exact Zdn (by decide) hblt
    have hwik:=Qcf (a:=i) (b:=k) (by omega)
    have hik0:((0:Int)≤((i+k:Nat):Int))=True:=by simp only [eq_iff_iff,iff_true];omega
    have hwk:=Qaj (a:=k) (by omega)
    have hmul:x*(b/E9^k%E9)≤999999999*999999999:=Nat.mul_le_mul (by simp only [E9]at*;omega) (by simp only [E9]at*;omega)
    have hml:=Qbf (B:=E9) (mulV E9 S x i b k) S (la+lb) (i+k)
    by_cases hmore:k<lb∨0<mulC E9 S x i b k
    ·have hklb:k≤lb:=by
      rcases hmore with h|h
      ·omega
      ·rcases Nat.lt_or_ge lb k with h'|h'
       ·have:=hend (by omega);omega
       ·exact h'
     have hin:i+k<la+lb:=by omega
     have hin':(((i+k:Nat):Int)<((la+lb:Nat):Int))=True:=by simp only [eq_iff_iff,iff_true];omega
     have hget:(mix E9 (mulV E9 S x i b k) S (la+lb) (i+k))[i+k]? =some (S/E9^(i+k)%E9):=by rw [Qcn _ _ _ _ _ hin,if_neg (Nat.lt_irrefl _)]
     have hset:=Qdx (B:=E9) (S:=S) (by decide) hin (Qvu (B:=E9) S x i b k) rfl
     have next: ∀s,Le s (St.of [(0,di (digs E9 a)),(1,di (digs E9 b)),(4,.nilS),(5,.bs 105 1 0 (la+lb)),(6,.int .i64 (i:Int)),(7,.int .i64 (mulC E9 S x i b (k+1):Int)),(8,.int .i64 ((k+1:Nat):Int))]
       [(105,{els:=(mix E9 (mulV E9 S x i b (k+1)) S (la+lb) (i+k+1)).map fI,esz:=1,ety:=3,fro:=0,live:=true,arr:=true})])→
       ∃y:{k:Nat // k≤lb+1},lb+1-y.1<lb+1-k∧Le s (St.of [(0,di (digs E9 a)),(1,di (digs E9 b)),(4,.nilS),(5,.bs 105 1 0 (la+lb)),(6,.int .i64 (i:Int)),(7,.int .i64 (mulC E9 S x i b y.1:Int)),(8,.int .i64 (y.1:Int))]
        [(105,{els:=(mix E9 (mulV E9 S x i b y.1) S (la+lb) (i+y.1)).map fI,esz:=1,ety:=3,fro:=0,live:=true,arr:=true})]):=
      fun s h=>⟨⟨k+1,by omega⟩,by simp only;omega,h⟩
     have w1:=Qcf (a:=S/E9^(i+k)%E9) (b:=mulC E9 S x i b k) (by simp only [E9]at*;omega)
     by_cases hB:k<lb
     ·have hB':((k:Int)<(lb:Int))=True:=by simp;omega
      have hgb:=Qao E9_2 (show k<(digs E9 b).length by omega)
      have w2:IntKind.i64.wrap ((x:Int)*((b/E9^k%E9:Nat):Int))=((x*(b/E9^k%E9):Nat):Int):=by
       rw [←Int.natCast_mul];exact wrapn (by omega)
      have w3:=Qcf (a:=S/E9^(i+k)%E9+mulC E9 S x i b k) (b:=x*(b/E9^k%E9)) (by simp only [E9]at*;omega)
      have w4:=wrapn (n:=(S/E9^(i+k)%E9+mulC E9 S x i b k+x*(b/E9^k%E9))/1000000000) (by simp only [E9]at*;omega)
      simp -implicitDefEqProofs only [go_sem,Nat.reduceAdd,Nat.reduceMul,Nat.reduceEqDiff,Nat.reduceLT,Nat.reduceLeDiff,reduceIte,reduceCtorEq,Int.reduceEq,di,List.length_map,hla,hlb,hA',hB',h0,hk0,Qed,Zer,hga,hgb,hget,w1,w2,w3,w4,Qpl,Qpm,hwik,hik0,hin',hwk,hml,Qvv,hs1,hset]
      refine⟨Qaa _ _ (by kernel_rfl),next _ (Qal (θ:=[(105,105)]) rfl ?_ ?_)⟩
      ·simp [Qad,lkp,ren1,ren0,di,hs2]
      ·simp [Qak,lkp,Box.renames]
     ·have hB':((k:Int)<(lb:Int))=False:=by simp;omega
      have hC:=hmore.resolve_left hB
      have hC':((0:Int)<(mulC E9 S x i b k:Int))=True:=by simp;omega
      have hb0:b/E9^k%E9=0:=by rw [Qa7 E9_2 (by omega),Nat.zero_mod]
      rw [hb0,Nat.mul_zero,Nat.add_zero]at hs1 hs2
      have w4:=wrapn (n:=(S/E9^(i+k)%E9+mulC E9 S x i b k)/1000000000) (by simp only [E9]at*;omega)
      simp -implicitDefEqProofs only [go_sem,Nat.reduceAdd,Nat.reduceMul,Nat.reduceEqDiff,Nat.reduceLT,Nat.reduceLeDiff,reduceIte,reduceCtorEq,Int.reduceEq,di,List.length_map,hla,hlb,hA',hB',hC',h0,hk0,Qed,Zer,hga,hget,w1,w4,Qpl,Qpm,hwik,hik0,hin',hwk,hml,Qvv,hs1,hset]
      refine next _ (Qal (θ:=[(105,105)]) rfl ?_ ?_)
      ·simp [Qad,lkp,ren1,ren0,di,hs2]
      ·simp [Qak,lkp,Box.renames]
    ·have hB':((k:Int)<(lb:Int))=False:=by simp;omega
     have hC0:mulC E9 S x i b k=0:=by omega
     have hC':((0:Int)<(mulC E9 S x i b k:Int))=False:=by simp;omega
     have hwi:=Qaj (a:=i) (by omega)
     have hV:mulV E9 S x i b k=a%E9^(i+1)*b:=by
      rw [←hS,←hx];exact Qmh a i b k (Nat.lt_of_lt_of_le hblt (Nat.pow_le_pow_right (by decide) (by omega)))
     have hmx:=Qem (B:=E9) (V:=mulV E9 S x i b k) (S:=S) (n:=la+lb) (m:=i+k) (by decide) (by have:=Qkr (B:=E9) S x i b k;omega)
     rw [hV]at hmx
     simp -implicitDefEqProofs only [go_sem,Nat.reduceAdd,Nat.reduceMul,Nat.reduceEqDiff,Nat.reduceLT,Nat.reduceLeDiff,reduceCtorEq,di,List.length_map,hla,hlb,hA',hB',hC',hwi]
     refine⟨⟨i+1,hA⟩,by simp only;omega,Qal (θ:=[(105,105)]) rfl ?_ ?_⟩
     ·simp [Qad,lkp,ren1,ren0,di]
     ·simp [Qak,lkp,Box.renames,hmx,hV]
  ·have hA':((i:Int)<(la:Int))=False:=by simp;omega
   have hlt:a<E9^i:=(Qam E9_2 a i).1 (by omega)
   have hblt:b<E9^lb:=by rw [←hlb];exact Qaz E9_2 b
   have hil:i=la:=by omega
   have hll:=Qai (B:=E9) (a%E9^i*b) (la+lb)
   have htk:((lows E9 (a%E9^i*b) (la+lb)).map fI).take (la+lb)=(lows E9 (a%E9^i*b) (la+lb)).map fI:=List.take_of_length_le (by simp [hll])
   simp -implicitDefEqProofs only [go_sem,Nat.reduceAdd,Nat.reduceMul,Nat.reduceEqDiff,Nat.reduceLT,Nat.reduceLeDiff,reduceCtorEq,di,List.length_map,hla,hA',hll,htk]
   refine Qaf _ _ _ _ _ _ _ _ _ (Qi2 (lows E9 (a%E9^i*b) (la+lb)) (by rw [hll];simp [maxLen];omega)) ?_
   simp -implicitDefEqProofs only [go_sem,Nat.reduceAdd,Nat.reduceEqDiff,Nat.reduceLT,reduceCtorEq,di,List.length_map]
   rw [Qbk E9_2,Nat.mod_eq_of_lt hlt,Nat.mod_eq_of_lt]
   rw [Nat.pow_add,←hil]
   rcases Nat.eq_zero_or_pos b with rfl|hb
   ·rw [Nat.mul_zero];exact Nat.mul_pos (Nat.pow_pos (by decide)) (Nat.pow_pos (by decide))
   ·exact Nat.lt_of_lt_of_le (Nat.mul_lt_mul_of_pos_right hlt hb) (Nat.mul_le_mul_left _ (Nat.le_of_lt hblt))
theorem Qvx {n:Nat} (h0:n≠0) (h:n<E9):digs E9 n=[n]:=by
 rw [Qe0 E9_2 h0,Nat.mod_eq_of_lt h,Nat.div_eq_of_lt h,Qax]
theorem Qvy (a n:Nat) (hn:n<E9) (ha:(digs E9 a).length≤100000000):Qag Tryz.prog 136 [di (digs E9 a),.int .i64 (n:Int)] (di (digs E9 (a*n))):=by
 refine Qac (tb:=[]) 11 [.tmp 4] [0,1,4,6] mixed Tryz.func136 rfl (by kernel_rfl) (by kernel_rfl) (by kernel_rfl) (by kernel_rfl) ?_
 by_cases h0:n=0
 ·subst h0
  have h1:(((0:Nat):Int)==0)=true:=rfl
  simp -implicitDefEqProofs only [go_sem,Nat.reduceAdd,Nat.reduceMul,Nat.reduceEqDiff,Nat.reduceLT,Nat.reduceLeDiff,reduceCtorEq,di,h1]
  simp [Qax]
 ·have h1:((n:Int)==0)=false:=by simp;omega
  simp -implicitDefEqProofs only [go_sem,Nat.reduceAdd,Nat.reduceMul,Nat.reduceEqDiff,Nat.reduceLT,Nat.reduceLeDiff,reduceCtorEq,di,h1]
  have:=Qvw a n (by rw [Qvx h0 hn];simp;omega)
  rw [Qvx h0 hn]at this
  refine Qaf _ _ _ _ _ _ _ _ _ this ?_
  simp -implicitDefEqProofs only [go_sem,Nat.reduceAdd,Nat.reduceEqDiff,Nat.reduceLT,reduceCtorEq,di]
end Go.Proofs.YtlpiamlgibomhaaGreat

namespace Go.Vl
open Go.RowKit
theorem Znz (P:Program) (t:TypeId) (xs ys:List PV):Qbu .eql t P (.agg xs) (.agg ys)=match Qc8 P t with
  |some sh=>match Qbj sh xs ys with
   |some b=>some (.bool b)
   |none=>none
  |none=>none:=by
 unfold Qbu
 cases Qc8 P t with
 |none=>rfl
 |some sh=>simp only;cases Qbj sh xs ys<;>rfl
theorem Zn0 (P:Program) (t:TypeId) (xs ys:List PV):Qbu .neq t P (.agg xs) (.agg ys)=match Qc8 P t with
  |some sh=>match Qbj sh xs ys with
   |some b=>some (.bool !b)
   |none=>none
  |none=>none:=by
 unfold Qbu
 cases Qc8 P t with
 |none=>rfl
 |some sh=>simp only;cases Qbj sh xs ys<;>rfl
attribute [go_sem] Znz Zn0
end Go.Vl
