/-
  Dm, HA3, HA4, HA5, UW, HA6, Bx, HA7, HA8, Dt, HA9, Db, HA10, Bw, HW1 (merged for the claim).
-/
import Derived.Test.YtciddhkfbgkejaaGreatDoorHA2
import Derived.Shelf.Spec.BitsCarry
set_option linter.unusedSimpArgs false
set_option linter.unusedVariables false
namespace Go.Dg
section
variable {B:Nat}
def cmpN (a b:Nat):Int:=if a<b then -1 else if b<a then 1 else 0
theorem Qo2 {a b:Nat} (h:a<b):cmpN a b= -1:=by simp [cmpN,h]
theorem Qtp {a b:Nat} (h:b<a):cmpN a b=1:=by simp [cmpN,h];omega
theorem Q0u (a:Nat):cmpN a a=0:=by simp [cmpN]
theorem Qvy (hB:2≤B) {a b:Nat} (h:(digs B a).length<(digs B b).length):a<b:=by
 have h1:=Qaw hB a
 have h2:=(Qcb hB b _).1 h
 have h3:=Nat.div_eq_zero_iff (a:=b) (b:=B^(digs B a).length)
 have:0<B^(digs B a).length:=Nat.pow_pos (by omega)
 omega
theorem Qhn (hB:0<B) (a i:Nat):a/B^i=B*(a/B^(i+1))+a/B^i%B:=by
 rw [Nat.pow_succ,←Nat.div_div_eq_div_mul]
 exact(Nat.div_add_mod _ _).symm
theorem Qh8 (hB:0<B) {a b i:Nat} (h:a/B^(i+1)=b/B^(i+1)) (hd:a/B^i%B<b/B^i%B):a<b:=by
 have h1:=Qhn hB a i
 have h2:=Qhn hB b i
 rw [h]at h1
 apply Nat.lt_of_not_le
 intro hle
 have:=Nat.div_le_div_right (c:=B^i) hle
 omega
theorem Qnz (hB:0<B) {a b i:Nat} (h:a/B^(i+1)=b/B^(i+1)) (hd:a/B^i%B=b/B^i%B):a/B^i=b/B^i:=by
 rw [Qhn hB a i,Qhn hB b i,h,hd]
def bor (B a b i:Nat):Nat:=if a%B^i<b%B^i then 1 else 0
theorem Qo3 (a b:Nat):bor B a b 0=0:=by simp [bor,Nat.mod_one]
theorem Qn0 (a b i:Nat):bor B a b i≤1:=by unfold bor;split<;>omega
theorem Q0v (hB:0<B) {a b:Nat} (h:b≤a) (i:Nat):(a-b)/B^i+b/B^i+bor B a b i=a/B^i:=by
 have hp:0<B^i:=Nat.pow_pos hB
 unfold bor
 generalize B^i=P at*
 have ha:=Nat.div_add_mod a P
 have hb:=Nat.div_add_mod b P
 have hm1:=Nat.mod_lt a hp
 have hm2:=Nat.mod_lt b hp
 have hle:b/P≤a/P:=Nat.div_le_div_right h
 generalize a/P=x at*
 generalize b/P=y at*
 generalize a%P=r at*
 generalize b%P=s at*
 obtain⟨z,rfl⟩:=Nat.exists_eq_add_of_le hle
 rw [Nat.mul_add]at ha
 split
 ·rename_i hlt
  have hz:z≠0:=by rintro rfl;rw [Nat.mul_zero]at ha;omega
  obtain⟨z',rfl⟩:=Nat.exists_eq_succ_of_ne_zero hz
  have e:a-b=(P+r-s)+P*z':=by rw [Nat.mul_succ]at ha;omega
  rw [e,Nat.add_mul_div_left _ _ hp,Nat.div_eq_of_lt (by omega)]
  omega
 ·rename_i hlt
  have e:a-b=(r-s)+P*z:=by omega
  rw [e,Nat.add_mul_div_left _ _ hp,Nat.div_eq_of_lt (by omega)]
  omega
theorem Qo4 (hB:2≤B) {a b:Nat} (h:b≤a) (i:Nat):
  (a-b)/B^i%B+b/B^i%B+bor B a b i=a/B^i%B+B*bor B a b (i+1):=by
 have hB0:0<B:=by omega
 have h1:=Q0v hB0 h i
 have h2:=Q0v hB0 h (i+1)
 have e1:=Qhn hB0 (a-b) i
 have e2:=Qhn hB0 b i
 have e3:=Qhn hB0 a i
 have hm:=Nat.mul_add B ((a-b)/B^(i+1)+b/B^(i+1)) (bor B a b (i+1))
 have hm2:=Nat.mul_add B ((a-b)/B^(i+1)) (b/B^(i+1))
 rw [h2]at hm
 omega
def mix (B V S n m:Nat):List Nat:=(List.range n).map fun j=>if j<m then V/B^j%B else S/B^j%B
theorem Qbe (V S n m:Nat):(mix B V S n m).length=n:=by simp [mix]
theorem Qcq (V S n m j:Nat) (h:j<n):(mix B V S n m)[j]? =some (if j<m then V/B^j%B else S/B^j%B):=by simp [mix,h]
theorem Qlv (hB:0<B) {V W m j:Nat} (h:V%B^m=W%B^m) (hj:j<m):V/B^j%B=W/B^j%B:=by
 have key: ∀n,n/B^j%B=(n%B^m)/B^j%B:=by
  intro n
  have e:B^m=B^j*(B*B^(m-j-1)):=by
   rw [←Nat.mul_assoc,←Nat.pow_succ,←Nat.pow_add];congr 1;omega
  rw [e,Nat.mod_mul_right_div_self,Nat.mod_mul_right_mod]
 rw [key V,key W,h]
theorem Qdy (hB:0<B) {V W S n m d:Nat} (hm:m<n) (h:V%B^m=W%B^m) (hd:W/B^m%B=d):(mix B V S n m).set m d=mix B W S n (m+1):=by
 apply List.ext_getElem?
 intro j
 rw [List.getElem?_set]
 by_cases hj:j<n
 ·rw [Qcq _ _ _ _ _ hj,Qcq _ _ _ _ _ hj,Qbe]
  by_cases e:m=j
  ·subst e;simp [hj,hd]
  ·simp only [e,if_false]
   by_cases hlt:j<m
   ·rw [if_pos hlt,if_pos (by omega),Qlv hB h hlt]
   ·rw [if_neg hlt,if_neg (by omega)]
 ·rw [List.getElem?_eq_none (by rw [Qbe];omega),List.getElem?_eq_none (by rw [Qbe];omega),Qbe]
  simp;omega
theorem Qeg {V S n m:Nat} (hB:0<B) (h:V/B^m=S/B^m):mix B V S n m=lows B V n:=by
 apply List.map_congr_left
 intro j _
 split
 ·rfl
 ·rename_i hj
  obtain⟨k,rfl⟩:=Nat.exists_eq_add_of_le (Nat.le_of_not_lt hj)
  rw [Nat.pow_add,←Nat.div_div_eq_div_mul,←Nat.div_div_eq_div_mul,h]
theorem Qg2 (V S n:Nat):mix B V S n 0=lows B S n:=by simp [mix,lows]
def mulV (B S x i b k:Nat):Nat:=S+x*B^i*(b%B^k)
theorem Qlw (S x i b:Nat):mulV B S x i b 0=S:=by simp [mulV,Nat.mod_one]
theorem Qra (S x i b k:Nat):mulV B S x i b (k+1)=mulV B S x i b k+x*(b/B^k%B)*B^(i+k):=by
 unfold mulV
 rw [Nat.pow_succ,Nat.mod_mul,Nat.mul_add,Nat.pow_add]
 have:x*B^i*(B^k*(b/B^k%B))=x*(b/B^k%B)*(B^i*B^k):=by
  simp only [Nat.mul_assoc,Nat.mul_comm,Nat.mul_left_comm]
 rw [this];omega
def mulC (B S x i b k:Nat):Nat:=mulV B S x i b k/B^(i+k)-S/B^(i+k)
theorem Zgs (S x i b k:Nat):S≤mulV B S x i b k:=Nat.le_add_right _ _
theorem Qk8 (S x i b k:Nat):mulC B S x i b k+S/B^(i+k)=mulV B S x i b k/B^(i+k):=by
 have:=Nat.div_le_div_right (c:=B^(i+k)) (Zgs (B:=B) S x i b k)
 unfold mulC
 omega
theorem Qlx (S x i b:Nat):mulC B S x i b 0=0:=by simp [mulC,Qlw]
theorem Qo5 (hB:0<B) (S x i b k:Nat):
  (S/B^(i+k)%B+mulC B S x i b k+x*(b/B^k%B))%B=mulV B S x i b (k+1)/B^(i+k)%B∧
  (S/B^(i+k)%B+mulC B S x i b k+x*(b/B^k%B))/B=mulC B S x i b (k+1):=by
 have hp:0<B^(i+k):=Nat.pow_pos hB
 have h1:=Qk8 (B:=B) S x i b k
 have e1:mulV B S x i b (k+1)/B^(i+k)=(S/B^(i+k)%B+mulC B S x i b k+x*(b/B^k%B))+B*(S/B^(i+k+1)):=by
  rw [Qra,Nat.add_mul_div_right _ _ hp,←h1]
  have:=Qhn hB S (i+k)
  omega
 constructor
 ·rw [e1,Nat.add_mul_mod_self_left]
 ·have h2:=Qk8 (B:=B) S x i b (k+1)
  have e2:mulV B S x i b (k+1)/B^(i+(k+1))=mulV B S x i b (k+1)/B^(i+k)/B:=by
   rw [Nat.div_div_eq_div_mul,←Nat.pow_succ];rfl
  rw [e1,Nat.add_mul_div_left _ _ hB]at e2
  have e3:S/B^(i+(k+1))=S/B^(i+k+1):=rfl
  omega
theorem Qvz (S x i b k:Nat):mulV B S x i b k%B^(i+k)=mulV B S x i b (k+1)%B^(i+k):=by
 rw [Qra,Nat.add_mul_mod_self_right]
theorem Qly (a i b k:Nat) (hk:b<B^k):mulV B (a%B^i*b) (a/B^i%B) i b k=a%B^(i+1)*b:=by
 unfold mulV
 rw [Nat.mod_eq_of_lt hk,Nat.pow_succ,Nat.mod_mul,Nat.add_mul]
 congr 1
 rw [Nat.mul_comm (a/B^i%B)]
theorem Q0w (hB:0<B) {S x i b k:Nat} (hx:x<B):mulC B S x i b k<B:=by
 induction k with
 |zero=>rw [Qlx];exact hB
 |succ k ih=>
  rw [←(Qo5 hB S x i b k).2,Nat.div_lt_iff_lt_mul hB]
  have h1:S/B^(i+k)%B<B:=Nat.mod_lt _ hB
  have h2:b/B^k%B<B:=Nat.mod_lt _ hB
  have h3:x*(b/B^k%B)≤(B-1)*(B-1):=Nat.mul_le_mul (by omega) (by omega)
  have h4:B*B=(B-1)*(B-1)+2*(B-1)+1:=by
   obtain⟨c,rfl⟩: ∃c,B=c+1:=⟨B-1,by omega⟩
   simp only [Nat.add_sub_cancel,Nat.add_mul,Nat.mul_add]
   omega
  omega
theorem Q8x (hB:0<B) {a i b k:Nat} (hk:b<B^k):mulC B (a%B^i*b) (a/B^i%B) i b (k+1)=0:=by
 unfold mulC
 rw [Qly a i b (k+1) (Nat.lt_of_lt_of_le hk (Nat.pow_le_pow_right hB (Nat.le_succ k)))]
 have:a%B^(i+1)*b<B^(i+(k+1)):=by
  have h1:=Nat.mod_lt a (Nat.pow_pos (n:=i+1) hB)
  have e:B^(i+(k+1))=B^(i+1)*B^k:=by rw [←Nat.pow_add];congr 1;omega
  rw [e]
  rcases Nat.eq_zero_or_pos b with rfl|hb
  ·rw [Nat.mul_zero];exact Nat.mul_pos (Nat.pow_pos hB) (Nat.pow_pos hB)
  ·exact Nat.lt_of_lt_of_le (Nat.mul_lt_mul_of_pos_right h1 hb) (Nat.mul_le_mul_left _ (Nat.le_of_lt hk))
 rw [Nat.div_eq_of_lt this,Nat.zero_sub]
end
end Go.Dg

namespace Go.Proofs.YtciddhkfbgkejaaGreatDoor
open Go.Vl Go.RowKit Go.Dg
theorem Qpg (a b:Nat) (ha:(digs E9 a).length≤1000000000):Qag Tryz.prog 138 [di (digs E9 a),di (digs E9 b)] (.int .i64 (cmpN a b)):=by
 refine Qac (tb:=[]) 41 [.tmp 4] [0,1,4,5,10,15,20,31,40] mixed Tryz.func138 rfl (by kernel_rfl) (by kernel_rfl) (by kernel_rfl) (by kernel_rfl) ?_
 by_cases hl:(digs E9 a).length=(digs E9 b).length
 ·have hl':(((digs E9 a).length:Int) != ((digs E9 b).length:Int))=false:=by simp [hl]
  have hw:IntKind.i64.wrap (((digs E9 a).length:Int)-1)=((digs E9 a).length:Int)-1:=Qah (by omega) (by omega)
  simp -implicitDefEqProofs only [go_sem,Nat.reduceAdd,Nat.reduceMul,Nat.reduceEqDiff,Nat.reduceLT,Nat.reduceLeDiff,reduceCtorEq,Int.reduceNeg,di,List.length_map,hl',hw]
  refine Qar mixed (fun i:{i:Nat // i≤(digs E9 a).length∧a/E9^i=b/E9^i}=>St.of [(0,di (digs E9 a)),(1,di (digs E9 b)),(4,.int .i64 0),(5,.int .i64 ((i.1:Int)-1))] []) (fun i=>i.1)
   ⟨(digs E9 a).length,Nat.le_refl _,by rw [Qa9 E9_2 (Nat.le_refl _),hl,Qa9 E9_2 (Nat.le_refl _)]⟩ ?_ ?_
  ·exact Qay (by simp [Qad,lkp,ren1,ren0,di])
  ·rintro⟨i,hi,he⟩
   cases i with
   |zero=>
    have h1:((0:Int)≤((0:Nat):Int)-1)=False:=by simp
    have hab:a=b:=by simpa using he
    subst hab
    simp -implicitDefEqProofs only [go_sem,Nat.reduceAdd,Nat.reduceMul,Nat.reduceEqDiff,Nat.reduceLT,Nat.reduceLeDiff,reduceCtorEq,Int.reduceNeg,di,h1,Q0u]
   |succ i=>
    have hs:(((i+1:Nat):Int)-1)=(i:Int):=by omega
    have h1:((0:Int)≤(i:Int))=True:=by simp
    have hga:=Qap E9_2 (show i<(digs E9 a).length by omega)
    have hgb:=Qap E9_2 (show i<(digs E9 b).length by omega)
    by_cases hlt:a/E9^i%E9<b/E9^i%E9
    ·have h2:(((a/E9^i%E9:Nat):Int)<((b/E9^i%E9:Nat):Int))=True:=by simp only [eq_iff_iff,iff_true];omega
     have hc:=Qo2 (Qh8 (by decide) he hlt)
     simp -implicitDefEqProofs only [go_sem,Nat.reduceAdd,Nat.reduceMul,Nat.reduceEqDiff,Nat.reduceLT,Nat.reduceLeDiff,reduceCtorEq,Int.reduceNeg,di,hs,h1,Qel,hga,hgb,h2,hc]
     exact Qaa _ _ (by kernel_rfl)
    ·have h2:(((a/E9^i%E9:Nat):Int)<((b/E9^i%E9:Nat):Int))=False:=by simp only [eq_iff_iff,iff_false];omega
     by_cases hgt:b/E9^i%E9<a/E9^i%E9
     ·have h3:(((b/E9^i%E9:Nat):Int)<((a/E9^i%E9:Nat):Int))=True:=by simp only [eq_iff_iff,iff_true];omega
      have hc:=Qtp (Qh8 (by decide) he.symm hgt)
      simp -implicitDefEqProofs only [go_sem,Nat.reduceAdd,Nat.reduceMul,Nat.reduceEqDiff,Nat.reduceLT,Nat.reduceLeDiff,reduceCtorEq,Int.reduceNeg,di,hs,h1,Qel,hga,hgb,h2,h3,hc]
      exact⟨Qaa _ _ (by kernel_rfl),Qaa _ _ (by kernel_rfl)⟩
     ·have h3:(((b/E9^i%E9:Nat):Int)<((a/E9^i%E9:Nat):Int))=False:=by simp only [eq_iff_iff,iff_false];omega
      have hw2:IntKind.i64.wrap ((i:Int)-1)=(i:Int)-1:=Qah (by omega) (by omega)
      simp -implicitDefEqProofs only [go_sem,Nat.reduceAdd,Nat.reduceMul,Nat.reduceEqDiff,Nat.reduceLT,Nat.reduceLeDiff,reduceCtorEq,Int.reduceNeg,di,hs,h1,Qel,hga,hgb,h2,h3,hw2]
      refine⟨Qaa _ _ (by kernel_rfl),Qaa _ _ (by kernel_rfl),⟨i,by omega,Qnz (by decide) he (by omega)⟩,by simp,?_⟩
      exact Qay (by simp [Qad,lkp,ren1,ren0,di])
 ·have hl':(((digs E9 a).length:Int) != ((digs E9 b).length:Int))=true:=by simp;omega
  by_cases hlt:(digs E9 a).length<(digs E9 b).length
  ·have h2:(((digs E9 a).length:Int)<((digs E9 b).length:Int))=True:=by simp;omega
   have hc:=Qo2 (Qvy E9_2 hlt)
   simp -implicitDefEqProofs only [go_sem,Nat.reduceAdd,Nat.reduceMul,Nat.reduceEqDiff,Nat.reduceLT,Nat.reduceLeDiff,reduceCtorEq,Int.reduceNeg,di,List.length_map,hl',h2,hc]
  ·have h2:(((digs E9 a).length:Int)<((digs E9 b).length:Int))=False:=by simp;omega
   have hc:=Qtp (Qvy E9_2 (show(digs E9 b).length<(digs E9 a).length by omega))
   simp -implicitDefEqProofs only [go_sem,Nat.reduceAdd,Nat.reduceMul,Nat.reduceEqDiff,Nat.reduceLT,Nat.reduceLeDiff,reduceCtorEq,Int.reduceNeg,di,List.length_map,hl',h2,hc]
def rI (n:Int):PV:= .agg [.bool (decide (n<0)),di (digs E9 n.natAbs)]
theorem Qfs (neg:Bool) (m:Nat):Qag Tryz.prog 135 [.bool neg,di (digs E9 m)] (rI (if neg then -(m:Int)else m)):=by
 refine Qac (tb:=[]) 13 [.cell 4 76] [0,1,4] mixed Tryz.func135 rfl (by kernel_rfl) (by kernel_rfl) (by kernel_rfl) (by kernel_rfl) ?_
 by_cases hm:m=0
 ·subst hm
  cases neg
  ·simp -implicitDefEqProofs only [go_sem,Nat.reduceAdd,Nat.reduceMul,Nat.reduceEqDiff,Nat.reduceLT,Nat.reduceLeDiff,reduceCtorEq,di,rI,Qax,Int.natAbs_zero,Int.lt_irrefl]
   simp [Qax]
  ·simp -implicitDefEqProofs only [go_sem,Nat.reduceAdd,Nat.reduceMul,Nat.reduceEqDiff,Nat.reduceLT,Nat.reduceLeDiff,reduceCtorEq,di,rI,Qax]
   simp [Qax]
 ·have h1:((0:Int)<((digs E9 m).length:Int))=True:=by
   have:=mt (Qbg E9_2).1 hm
   simp only [eq_iff_iff,iff_true]
   have:=List.length_pos_iff.2 this
   omega
  cases neg
  ·simp -implicitDefEqProofs only [go_sem,Nat.reduceAdd,Nat.reduceMul,Nat.reduceEqDiff,Nat.reduceLT,Nat.reduceLeDiff,reduceCtorEq,di,rI,List.length_map,h1]
   have: ¬((m:Int)<0):=by omega
   simp [this]
  ·simp -implicitDefEqProofs only [go_sem,Nat.reduceAdd,Nat.reduceMul,Nat.reduceEqDiff,Nat.reduceLT,Nat.reduceLeDiff,reduceCtorEq,di,rI,List.length_map,h1]
   have: -(m:Int)<0:=by omega
   simp only [this,decide_true,Int.natAbs_neg,Int.natAbs_natCast]
end Go.Proofs.YtciddhkfbgkejaaGreatDoor

namespace Go.Proofs.YtciddhkfbgkejaaGreatDoor
open Go.Vl Go.RowKit Go.Dg
theorem Qph (a b:Nat) (hba:b≤a) (ha:(digs E9 a).length≤1000000000):Qag Tryz.prog 139 [di (digs E9 a),di (digs E9 b)] (di (digs E9 (a-b))):=by
 refine Qac (tb:=[]) 41 [.tmp 4] [0,1,4,5,6,7,8,12,24,32] mixed Tryz.func139 rfl (by kernel_rfl) (by kernel_rfl) (by kernel_rfl) (by kernel_rfl) ?_
 simp -implicitDefEqProofs only [go_sem,Nat.reduceAdd,Nat.reduceMul,Nat.reduceEqDiff,Nat.reduceLT,Nat.reduceLeDiff,reduceCtorEq,di]
 refine Qar mixed (fun i:{i:Nat // i≤(digs E9 a).length}=>St.of [(0,di (digs E9 a)),(1,di (digs E9 b)),(4,.nilS),(5,.bs 7 1 0 i.1),(6,.int .i64 (bor E9 a b i.1:Int)),(7,.int .i64 (i.1:Int))]
  [(7,{els:=(lows E9 (a-b) i.1).map fI,esz:=1,ety:=3,fro:=0,live:=true,arr:=true})]) (fun i=>(digs E9 a).length-i.1) ⟨0,Nat.zero_le _⟩ ?_ ?_
 ·refine Qf8 5 7 1 3 rfl rfl rfl (by decide) [(7,7)] rfl ?_ ?_
  ·simp [Qad,lkp,ren1,ren0,di,Qo3]
  ·simp [Qam,lkp,Box.renames,lows]
 ·rintro⟨i,hi⟩
  have h0:(0≤(i:Int))=True:=by simp
  have hll:=Qak (B:=E9) (a-b) i
  have hbl:=Qn0 (B:=E9) a b i
  have hbl2:=Qn0 (B:=E9) a b (i+1)
  have hst:=Qo4 E9_2 hba i
  have hda:a/E9^i%E9<E9:=Nat.mod_lt _ (by decide)
  have hdb:b/E9^i%E9<E9:=Nat.mod_lt _ (by decide)
  have hdc:(a-b)/E9^i%E9<E9:=Nat.mod_lt _ (by decide)
  have hb1:((i+1)*8≤140737488355328)=True:=by simp;omega
  have hb2:(i+1≤maxLen)=True:=by simp [maxLen];omega
  have hwi:=Qai (a:=i) (by omega)
  by_cases hA:i<(digs E9 a).length
  ·have hA':((i:Int)<((digs E9 a).length:Int))=True:=by simp;omega
   have hga:=Qap E9_2 hA
   have next: ∀s,Le s (St.of [(0,di (digs E9 a)),(1,di (digs E9 b)),(4,.nilS),(5,.bs 7 1 0 (i+1)),(6,.int .i64 (bor E9 a b (i+1):Int)),(7,.int .i64 ((i+1:Nat):Int))]
     [(7,{els:=(lows E9 (a-b) (i+1)).map fI,esz:=1,ety:=3,fro:=0,live:=true,arr:=true})])→
     ∃y:{i:Nat // i≤(digs E9 a).length},(digs E9 a).length-y.1<(digs E9 a).length-i∧
      Le s (St.of [(0,di (digs E9 a)),(1,di (digs E9 b)),(4,.nilS),(5,.bs 7 1 0 y.1),(6,.int .i64 (bor E9 a b y.1:Int)),(7,.int .i64 (y.1:Int))]
       [(7,{els:=(lows E9 (a-b) y.1).map fI,esz:=1,ety:=3,fro:=0,live:=true,arr:=true})]):=
    fun s hle=>⟨⟨i+1,hA⟩,by simp only;omega,hle⟩
   generalize hx:a/E9^i%E9=x at*
   generalize hy:b/E9^i%E9=y at*
   have hz:(a-b)/E9^i%E9+y+bor E9 a b i=x+E9*bor E9 a b (i+1):=hst
   have w1:IntKind.i64.wrap ((x:Int)-(bor E9 a b i:Int))=(x:Int)-(bor E9 a b i:Int):=Qah (by simp only [E9]at*;omega) (by simp only [E9]at*;omega)
   have w2:IntKind.i64.wrap ((x:Int)-(bor E9 a b i:Int)-(y:Int))=(x:Int)-(bor E9 a b i:Int)-(y:Int):=Qah (by simp only [E9]at*;omega) (by simp only [E9]at*;omega)
   have fin: ∀t:Int,t=(x:Int)-(bor E9 a b i:Int)-(y:Int)→(t<0→bor E9 a b (i+1)=1∧t+1000000000=(((a-b)/E9^i%E9:Nat):Int))∧(¬t<0→bor E9 a b (i+1)=0∧t=(((a-b)/E9^i%E9:Nat):Int)):=by
    intro t ht
    simp only [E9]at*
    constructor
    ·intro h;constructor<;>omega
    ·intro h;constructor<;>omega
   by_cases hB:i<(digs E9 b).length
   ·have hB':((i:Int)<((digs E9 b).length:Int))=True:=by simp;omega
    have hgb:=Qap E9_2 hB
    rw [hy]at hgb
    obtain⟨f1,f2⟩:=fin _ rfl
    by_cases hn:(x:Int)-(bor E9 a b i:Int)-(y:Int)<0
    ·have hn':((x:Int)-(bor E9 a b i:Int)-(y:Int)<0)=True:=by simp only [eq_iff_iff,iff_true];exact hn
     obtain⟨k1,k2⟩:=f1 hn
     have w3:IntKind.i64.wrap ((x:Int)-(bor E9 a b i:Int)-(y:Int)+1000000000)=(((a-b)/E9^i%E9:Nat):Int):=by rw [k2];exact wrapn (by simp only [E9]at*;omega)
     simp -implicitDefEqProofs only [go_sem,Nat.reduceAdd,Nat.reduceMul,Nat.reduceEqDiff,Nat.reduceLT,Nat.reduceLeDiff,reduceIte,reduceCtorEq,Nat.reduceBneDiff,di,List.length_map,hA',hB',h0,Qel,hga,hgb,w1,w2,w3,hn',hll,Qka,hb1,hb2,hwi]
     refine next _ (Qaj (θ:=[(7,1203)]) rfl ?_ ?_)
     ·simp [Qad,lkp,ren1,ren0,di,k1]
     ·simp [Qam,lkp,Box.renames,Qc3]
    ·have hn':((x:Int)-(bor E9 a b i:Int)-(y:Int)<0)=False:=by simp only [eq_iff_iff,iff_false];exact hn
     obtain⟨k1,k2⟩:=f2 hn
     simp -implicitDefEqProofs only [go_sem,Nat.reduceAdd,Nat.reduceMul,Nat.reduceEqDiff,Nat.reduceLT,Nat.reduceLeDiff,reduceIte,reduceCtorEq,Nat.reduceBneDiff,di,List.length_map,hA',hB',h0,Qel,hga,hgb,w1,w2,hn',hll,Qka,hb1,hb2,hwi]
     refine next _ (Qaj (θ:=[(7,1203)]) rfl ?_ ?_)
     ·simp [Qad,lkp,ren1,ren0,di,k1]
     ·simp [Qam,lkp,Box.renames,Qc3,k2]
   ·have hB':((i:Int)<((digs E9 b).length:Int))=False:=by simp;omega
    have hy0:y=0:=by rw [←hy,Qa9 E9_2 (Nat.le_of_not_lt hB),Nat.zero_mod]
    obtain⟨f1,f2⟩:=fin ((x:Int)-(bor E9 a b i:Int)) (by omega)
    by_cases hn:(x:Int)-(bor E9 a b i:Int)<0
    ·have hn':((x:Int)-(bor E9 a b i:Int)<0)=True:=by simp only [eq_iff_iff,iff_true];exact hn
     obtain⟨k1,k2⟩:=f1 hn
     have w3:IntKind.i64.wrap ((x:Int)-(bor E9 a b i:Int)+1000000000)=(((a-b)/E9^i%E9:Nat):Int):=by rw [k2];exact wrapn (by simp only [E9]at*;omega)
     simp -implicitDefEqProofs only [go_sem,Nat.reduceAdd,Nat.reduceMul,Nat.reduceEqDiff,Nat.reduceLT,Nat.reduceLeDiff,reduceIte,reduceCtorEq,Nat.reduceBneDiff,di,List.length_map,hA',hB',h0,Qel,hga,w1,w3,hn',hll,Qka,hb1,hb2,hwi]
     refine next _ (Qaj (θ:=[(7,1203)]) rfl ?_ ?_)
     ·simp [Qad,lkp,ren1,ren0,di,k1]
     ·simp [Qam,lkp,Box.renames,Qc3]
    ·have hn':((x:Int)-(bor E9 a b i:Int)<0)=False:=by simp only [eq_iff_iff,iff_false];exact hn
     obtain⟨k1,k2⟩:=f2 hn
     simp -implicitDefEqProofs only [go_sem,Nat.reduceAdd,Nat.reduceMul,Nat.reduceEqDiff,Nat.reduceLT,Nat.reduceLeDiff,reduceIte,reduceCtorEq,Nat.reduceBneDiff,di,List.length_map,hA',hB',h0,Qel,hga,w1,hn',hll,Qka,hb1,hb2,hwi]
     refine next _ (Qaj (θ:=[(7,1203)]) rfl ?_ ?_)
     ·simp [Qad,lkp,ren1,ren0,di,k1]
     ·simp [Qam,lkp,Box.renames,Qc3,k2]
  ·have hA':((i:Int)<((digs E9 a).length:Int))=False:=by simp;omega
   have htk:((lows E9 (a-b) i).map fI).take i=(lows E9 (a-b) i).map fI:=List.take_of_length_le (by simp [hll])
   have hlt:a-b<E9^i:=Nat.lt_of_le_of_lt (Nat.sub_le _ _) ((Qan E9_2 a i).1 (by omega))
   simp -implicitDefEqProofs only [go_sem,Nat.reduceAdd,Nat.reduceMul,Nat.reduceEqDiff,Nat.reduceLT,Nat.reduceLeDiff,reduceIte,reduceCtorEq,di,List.length_map,hA',hll,htk]
   refine Qaf _ _ _ _ _ _ _ _ _ (Qjr (lows E9 (a-b) i) (by rw [hll];simp [maxLen];omega)) ?_
   simp -implicitDefEqProofs only [go_sem,Nat.reduceAdd,Nat.reduceEqDiff,Nat.reduceLT,reduceCtorEq,di,List.length_map]
   rw [Qbj E9_2,Nat.mod_eq_of_lt hlt]
end Go.Proofs.YtciddhkfbgkejaaGreatDoor

namespace Go.Proofs.YtciddhkfbgkejaaGreatDoor
open Go.Vl Go.RowKit Go.Dg
theorem Qro (n:Nat):lows E9 0 n=List.replicate n 0:=by
 apply List.ext_getElem?
 intro k
 by_cases h:k<n
 ·rw [Qbt _ _ _ h];simp [h]
 ·rw [List.getElem?_eq_none (by rw [Qak];omega),List.getElem?_eq_none (by simp;omega)]
theorem Qwf (l:List Nat) (i:Nat) (d:Nat):(l.map fI).set i (PV.int .i64 (d:Int))=(l.set i d).map fI:=(List.map_set (f:=fI)).symm
theorem Zfy (l:List Nat) (k:Nat):(l.map fI)[k]? =l[k]?.map fun d:Nat=>PV.int .i64 (d:Int):=List.getElem?_map
theorem Qwg (a b:Nat) (hab:(digs E9 a).length+(digs E9 b).length≤1000000000):Qag Tryz.prog 140 [di (digs E9 a),di (digs E9 b)] (di (digs E9 (a*b))):=by
 refine Qac (tb:=[]) 66 [.tmp 4] [0,1,4,5,6,7,8,9,19,29,43] mixed Tryz.func140 rfl (by kernel_rfl) (by kernel_rfl) (by kernel_rfl) (by kernel_rfl) ?_
 have hw0:=Qcf (a:=(digs E9 a).length) (b:=(digs E9 b).length) (by omega)
 have hn0:((0:Int)≤(((digs E9 a).length+(digs E9 b).length:Nat):Int))=True:=by simp only [eq_iff_iff,iff_true];omega
 have hn1:((8:Nat):Int)*(((digs E9 a).length+(digs E9 b).length:Nat):Int)≤281474976710656:=by omega
 have hn2:(((digs E9 a).length+(digs E9 b).length:Nat):Int)≤9223372036854775807:=by omega
 simp -implicitDefEqProofs only [go_sem,Nat.reduceAdd,Nat.reduceMul,Nat.reduceEqDiff,Nat.reduceLT,Nat.reduceLeDiff,reduceCtorEq,di,List.length_map,hw0,hn0,hn1,hn2]
 have hrep:List.replicate ((digs E9 a).length+(digs E9 b).length) (PV.int .i64 0)=(lows E9 0 ((digs E9 a).length+(digs E9 b).length)).map fI:=by rw [Qro];simp
 rw [hrep]
 generalize hla:(digs E9 a).length=la at*
 generalize hlb:(digs E9 b).length=lb at*
 refine Qar mixed (fun i:{i:Nat // i≤la}=>St.of [(0,di (digs E9 a)),(1,di (digs E9 b)),(4,.nilS),(5,.bs 105 1 0 (la+lb)),(6,.int .i64 (i.1:Int))]
  [(105,{els:=(lows E9 (a%E9^i.1*b) (la+lb)).map fI,esz:=1,ety:=3,fro:=0,live:=true,arr:=true})]) (fun i=>la-i.1) ⟨0,Nat.zero_le _⟩ ?_ ?_
 ·refine Qaj (θ:=[(105,105)]) rfl ?_ ?_
  ·simp [Qad,lkp,ren1,ren0,di]
  ·simp [Qam,lkp,Box.renames,Nat.mod_one]
 ·rintro⟨i,hi⟩
  by_cases hA:i<la
  ·have hA':((i:Int)<(la:Int))=True:=by simp;omega
   have h0:(0≤(i:Int))=True:=by simp
   have hga:=Qap E9_2 (show i<(digs E9 a).length by omega)
   have hblt:b<E9^lb:=by rw [←hlb];exact Qaw E9_2 b
   simp -implicitDefEqProofs only [go_sem,Nat.reduceAdd,Nat.reduceMul,Nat.reduceEqDiff,Nat.reduceLT,Nat.reduceLeDiff,reduceCtorEq,di,List.length_map,hla,hA']
   generalize hS:a%E9^i*b=S at*
   generalize hx:a/E9^i%E9=x at*
   have hxl:x<E9:=by rw [←hx];exact Nat.mod_lt _ (by decide)
   refine Qar mixed (fun k:{k:Nat // k≤lb+1}=>St.of [(0,di (digs E9 a)),(1,di (digs E9 b)),(4,.nilS),(5,.bs 105 1 0 (la+lb)),(6,.int .i64 (i:Int)),(7,.int .i64 (mulC E9 S x i b k.1:Int)),(8,.int .i64 (k.1:Int))]
    [(105,{els:=(mix E9 (mulV E9 S x i b k.1) S (la+lb) (i+k.1)).map fI,esz:=1,ety:=3,fro:=0,live:=true,arr:=true})]) (fun k=>lb+1-k.1) ⟨0,Nat.zero_le _⟩ ?_ ?_
   ·refine Qaj (θ:=[(105,105)]) rfl ?_ ?_
    ·simp [Qad,lkp,ren1,ren0,di,Qlx]
    ·simp only [Qam,lkp,Box.renames,Qlw,Nat.add_zero,and_self,and_true,true_and,if_true]
     rw [Qeg (by decide) rfl]
     exact .inl rfl
   ·rintro⟨k,hk⟩
    have hcl:=Q0w (B:=E9) (S:=S) (i:=i) (b:=b) (k:=k) (by decide) hxl
    obtain⟨hs1,hs2⟩:(S/E9^(i+k)%E9+mulC E9 S x i b k+x*(b/E9^k%E9))%1000000000=mulV E9 S x i b (k+1)/E9^(i+k)%E9∧(S/E9^(i+k)%E9+mulC E9 S x i b k+x*(b/E9^k%E9))/1000000000=mulC E9 S x i b (k+1):=Qo5 (B:=E9) (by decide) S x i b k
    have hk0:(0≤(k:Int))=True:=by simp
    have hd1:S/E9^(i+k)%E9<E9:=Nat.mod_lt _ (by decide)
    have hd2:b/E9^k%E9<E9:=Nat.mod_lt _ (by decide)
    have hend:k=lb+1→mulC E9 S x i b k=0:=by
     rintro rfl;rw [←hS,←hx];exact Q8x (by decide) hblt
    have hwik:=Qcf (a:=i) (b:=k) (by omega)
    have hik0:((0:Int)≤((i+k:Nat):Int))=True:=by simp only [eq_iff_iff,iff_true];omega
    have hwk:=Qai (a:=k) (by omega)
    have hmul:x*(b/E9^k%E9)≤999999999*999999999:=Nat.mul_le_mul (by simp only [E9]at*;omega) (by simp only [E9]at*;omega)
    have hml:=Qbe (B:=E9) (mulV E9 S x i b k) S (la+lb) (i+k)
    by_cases hmore:k<lb∨0<mulC E9 S x i b k
    ·have hklb:k≤lb:=by
      rcases hmore with h|h
      ·omega
      ·rcases Nat.lt_or_ge lb k with h'|h'
       ·have:=hend (by omega);omega
       ·exact h'
     have hin:i+k<la+lb:=by omega
     have hin':(((i+k:Nat):Int)<((la+lb:Nat):Int))=True:=by simp only [eq_iff_iff,iff_true];omega
     have hget:(mix E9 (mulV E9 S x i b k) S (la+lb) (i+k))[i+k]? =some (S/E9^(i+k)%E9):=by rw [Qcq _ _ _ _ _ hin,if_neg (Nat.lt_irrefl _)]
     have hset:=Qdy (B:=E9) (S:=S) (by decide) hin (Qvz (B:=E9) S x i b k) rfl
     have next: ∀s,Le s (St.of [(0,di (digs E9 a)),(1,di (digs E9 b)),(4,.nilS),(5,.bs 105 1 0 (la+lb)),(6,.int .i64 (i:Int)),(7,.int .i64 (mulC E9 S x i b (k+1):Int)),(8,.int .i64 ((k+1:Nat):Int))]
       [(105,{els:=(mix E9 (mulV E9 S x i b (k+1)) S (la+lb) (i+k+1)).map fI,esz:=1,ety:=3,fro:=0,live:=true,arr:=true})])→
       ∃y:{k:Nat // k≤lb+1},lb+1-y.1<lb+1-k∧Le s (St.of [(0,di (digs E9 a)),(1,di (digs E9 b)),(4,.nilS),(5,.bs 105 1 0 (la+lb)),(6,.int .i64 (i:Int)),(7,.int .i64 (mulC E9 S x i b y.1:Int)),(8,.int .i64 (y.1:Int))]
        [(105,{els:=(mix E9 (mulV E9 S x i b y.1) S (la+lb) (i+y.1)).map fI,esz:=1,ety:=3,fro:=0,live:=true,arr:=true})]):=
      fun s h=>⟨⟨k+1,by omega⟩,by simp only;omega,h⟩
     have w1:=Qcf (a:=S/E9^(i+k)%E9) (b:=mulC E9 S x i b k) (by simp only [E9]at*;omega)
     by_cases hB:k<lb
     ·have hB':((k:Int)<(lb:Int))=True:=by simp;omega
      have hgb:=Qap E9_2 (show k<(digs E9 b).length by omega)
      have w2:IntKind.i64.wrap ((x:Int)*((b/E9^k%E9:Nat):Int))=((x*(b/E9^k%E9):Nat):Int):=by
       rw [←Int.natCast_mul];exact wrapn (by omega)
      have w3:=Qcf (a:=S/E9^(i+k)%E9+mulC E9 S x i b k) (b:=x*(b/E9^k%E9)) (by simp only [E9]at*;omega)
      have w4:=wrapn (n:=(S/E9^(i+k)%E9+mulC E9 S x i b k+x*(b/E9^k%E9))/1000000000) (by simp only [E9]at*;omega)
      simp -implicitDefEqProofs only [go_sem,Nat.reduceAdd,Nat.reduceMul,Nat.reduceEqDiff,Nat.reduceLT,Nat.reduceLeDiff,reduceIte,reduceCtorEq,Int.reduceEq,di,List.length_map,hla,hlb,hA',hB',h0,hk0,Qel,Zfy,hga,hgb,hget,w1,w2,w3,w4,Qpe,Qpf,hwik,hik0,hin',hwk,hml,Qwf,hs1,hset]
      refine⟨Qaa _ _ (by kernel_rfl),next _ (Qaj (θ:=[(105,105)]) rfl ?_ ?_)⟩
      ·simp [Qad,lkp,ren1,ren0,di,hs2]
      ·simp [Qam,lkp,Box.renames]
     ·have hB':((k:Int)<(lb:Int))=False:=by simp;omega
      have hC:=hmore.resolve_left hB
      have hC':((0:Int)<(mulC E9 S x i b k:Int))=True:=by simp;omega
      have hb0:b/E9^k%E9=0:=by rw [Qa9 E9_2 (by omega),Nat.zero_mod]
      rw [hb0,Nat.mul_zero,Nat.add_zero]at hs1 hs2
      have w4:=wrapn (n:=(S/E9^(i+k)%E9+mulC E9 S x i b k)/1000000000) (by simp only [E9]at*;omega)
      simp -implicitDefEqProofs only [go_sem,Nat.reduceAdd,Nat.reduceMul,Nat.reduceEqDiff,Nat.reduceLT,Nat.reduceLeDiff,reduceIte,reduceCtorEq,Int.reduceEq,di,List.length_map,hla,hlb,hA',hB',hC',h0,hk0,Qel,Zfy,hga,hget,w1,w4,Qpe,Qpf,hwik,hik0,hin',hwk,hml,Qwf,hs1,hset]
      refine next _ (Qaj (θ:=[(105,105)]) rfl ?_ ?_)
      ·simp [Qad,lkp,ren1,ren0,di,hs2]
      ·simp [Qam,lkp,Box.renames]
    ·have hB':((k:Int)<(lb:Int))=False:=by simp;omega
     have hC0:mulC E9 S x i b k=0:=by omega
     have hC':((0:Int)<(mulC E9 S x i b k:Int))=False:=by simp;omega
     have hwi:=Qai (a:=i) (by omega)
     have hV:mulV E9 S x i b k=a%E9^(i+1)*b:=by
      rw [←hS,←hx];exact Qly a i b k (Nat.lt_of_lt_of_le hblt (Nat.pow_le_pow_right (by decide) (by omega)))
     have hmx:=Qeg (B:=E9) (V:=mulV E9 S x i b k) (S:=S) (n:=la+lb) (m:=i+k) (by decide) (by have:=Qk8 (B:=E9) S x i b k;omega)
     rw [hV]at hmx
     simp -implicitDefEqProofs only [go_sem,Nat.reduceAdd,Nat.reduceMul,Nat.reduceEqDiff,Nat.reduceLT,Nat.reduceLeDiff,reduceIte,reduceCtorEq,di,List.length_map,hla,hlb,hA',hB',hC',hwi]
     refine⟨⟨i+1,hA⟩,by simp only;omega,Qaj (θ:=[(105,105)]) rfl ?_ ?_⟩
     ·simp [Qad,lkp,ren1,ren0,di]
     ·simp [Qam,lkp,Box.renames,hmx,hV]
  ·have hA':((i:Int)<(la:Int))=False:=by simp;omega
   have hlt:a<E9^i:=(Qan E9_2 a i).1 (by omega)
   have hblt:b<E9^lb:=by rw [←hlb];exact Qaw E9_2 b
   have hil:i=la:=by omega
   have hll:=Qak (B:=E9) (a%E9^i*b) (la+lb)
   have htk:((lows E9 (a%E9^i*b) (la+lb)).map fI).take (la+lb)=(lows E9 (a%E9^i*b) (la+lb)).map fI:=List.take_of_length_le (by simp [hll])
   simp -implicitDefEqProofs only [go_sem,Nat.reduceAdd,Nat.reduceMul,Nat.reduceEqDiff,Nat.reduceLT,Nat.reduceLeDiff,reduceIte,reduceCtorEq,di,List.length_map,hla,hA',hll,htk]
   refine Qaf _ _ _ _ _ _ _ _ _ (Qjr (lows E9 (a%E9^i*b) (la+lb)) (by rw [hll];simp [maxLen];omega)) ?_
   simp -implicitDefEqProofs only [go_sem,Nat.reduceAdd,Nat.reduceEqDiff,Nat.reduceLT,reduceCtorEq,di,List.length_map]
   rw [Qbj E9_2,Nat.mod_eq_of_lt hlt,Nat.mod_eq_of_lt]
   rw [Nat.pow_add,←hil]
   rcases Nat.eq_zero_or_pos b with rfl|hb
   ·rw [Nat.mul_zero];exact Nat.mul_pos (Nat.pow_pos (by decide)) (Nat.pow_pos (by decide))
   ·exact Nat.lt_of_lt_of_le (Nat.mul_lt_mul_of_pos_right hlt hb) (Nat.mul_le_mul_left _ (Nat.le_of_lt hblt))
theorem Qwh {n:Nat} (h0:n≠0) (h:n<E9):digs E9 n=[n]:=by
 rw [Qfa E9_2 h0,Nat.mod_eq_of_lt h,Nat.div_eq_of_lt h,Qax]
theorem Qwi (a n:Nat) (hn:n<E9) (ha:(digs E9 a).length≤100000000):Qag Tryz.prog 189 [di (digs E9 a),.int .i64 (n:Int)] (di (digs E9 (a*n))):=by
 refine Qac (tb:=[]) 11 [.tmp 4] [0,1,4,6] mixed Tryz.func189 rfl (by kernel_rfl) (by kernel_rfl) (by kernel_rfl) (by kernel_rfl) ?_
 by_cases h0:n=0
 ·subst h0
  have h1:(((0:Nat):Int)==0)=true:=rfl
  simp -implicitDefEqProofs only [go_sem,Nat.reduceAdd,Nat.reduceMul,Nat.reduceEqDiff,Nat.reduceLT,Nat.reduceLeDiff,reduceCtorEq,di,h1]
  simp [Qax]
 ·have h1:((n:Int)==0)=false:=by simp;omega
  simp -implicitDefEqProofs only [go_sem,Nat.reduceAdd,Nat.reduceMul,Nat.reduceEqDiff,Nat.reduceLT,Nat.reduceLeDiff,reduceIte,reduceCtorEq,di,h1]
  have:=Qwg a n (by rw [Qwh h0 hn];simp;omega)
  rw [Qwh h0 hn]at this
  refine Qaf _ _ _ _ _ _ _ _ _ this ?_
  simp -implicitDefEqProofs only [go_sem,Nat.reduceAdd,Nat.reduceEqDiff,Nat.reduceLT,reduceCtorEq,di]
end Go.Proofs.YtciddhkfbgkejaaGreatDoor

namespace Go.Vl
open Go.RowKit
theorem Zo6 (P:Program) (t:TypeId) (xs ys:List PV):Qbz .eql t P (.agg xs) (.agg ys)=match Qdm P t with
  |some sh=>match Qbi sh xs ys with
   |some b=>some (.bool b)
   |none=>none
  |none=>none:=by
 unfold Qbz
 cases Qdm P t with
 |none=>rfl
 |some sh=>simp only;cases Qbi sh xs ys<;>rfl
theorem Zo7 (P:Program) (t:TypeId) (xs ys:List PV):Qbz .neq t P (.agg xs) (.agg ys)=match Qdm P t with
  |some sh=>match Qbi sh xs ys with
   |some b=>some (.bool !b)
   |none=>none
  |none=>none:=by
 unfold Qbz
 cases Qdm P t with
 |none=>rfl
 |some sh=>simp only;cases Qbi sh xs ys<;>rfl
attribute [go_sem] Zo6 Zo7
end Go.Vl

namespace Go.Proofs.YtciddhkfbgkejaaGreatDoor
open Go.Vl Go.RowKit Go.Dg
theorem Qn7 {a b:Nat} (h:a≤b):(digs E9 a).length≤(digs E9 b).length:=
 (Qan E9_2 a _).2 (Nat.lt_of_le_of_lt h (Qaw E9_2 b))
theorem Q9e {m:Nat} (h:m≠0):0<(digs E9 m).length:=List.length_pos_iff.2 (mt (Qbg E9_2).1 h)
theorem Zfz (n:Int):Qag Tryz.prog 104 [rI n] (rI (-n)):=by
 refine Qac (tb:=[]) 9 [.cell 2 76] [0,1,2] mixed Tryz.func104 rfl (by kernel_rfl) (by kernel_rfl) (by kernel_rfl) (by kernel_rfl) ?_
 simp -implicitDefEqProofs only [go_sem,Nat.reduceAdd,Nat.reduceMul,Nat.reduceEqDiff,Nat.reduceLT,Nat.reduceLeDiff,reduceCtorEq,rI,di]
 refine Qaf _ _ _ _ _ _ _ _ _ (Qfs _ n.natAbs) ?_
 have e:(if(!decide (n<0))=true then -(n.natAbs:Int)else(n.natAbs:Int))= -n:=by
  by_cases h:n<0
  ·simp [h];omega
  ·simp [h];omega
 rw [e]
 simp -implicitDefEqProofs only [go_sem,Nat.reduceAdd,Nat.reduceEqDiff,reduceCtorEq,rI,di]
theorem Qty (n:Int):Qag Tryz.prog 128 [rI n] (.int .i64 n.sign):=by
 refine Qac (tb:=[]) 9 [.tmp 2] [0,1,2,6,8] mixed Tryz.func128 rfl (by kernel_rfl) (by kernel_rfl) (by kernel_rfl) (by kernel_rfl) ?_
 by_cases h0:n=0
 ·subst h0
  have hz:(((0:Nat):Int)==0)=true:=rfl
  simp -implicitDefEqProofs only [go_sem,Nat.reduceAdd,Nat.reduceMul,Nat.reduceEqDiff,Nat.reduceLT,Nat.reduceLeDiff,reduceCtorEq,Int.reduceLT,Int.reduceNeg,rI,di,Int.natAbs_zero,Qax,List.map_nil,List.length_nil,hz]
  rfl
 ·have h1:(((digs E9 n.natAbs).length:Int)==0)=false:=by
   have:=Q9e (show n.natAbs≠0 by omega)
   simp only [beq_eq_false_iff_ne,ne_eq];omega
  by_cases h:n<0
  ·have hd:decide (n<0)=true:=by simp [h]
   simp -implicitDefEqProofs only [go_sem,Nat.reduceAdd,Nat.reduceMul,Nat.reduceEqDiff,Nat.reduceLT,Nat.reduceLeDiff,reduceCtorEq,Int.reduceNeg,rI,di,List.length_map,h1,hd]
   rw [Int.sign_eq_neg_one_of_neg h]
  ·have hd:decide (n<0)=false:=by simp [h]
   simp -implicitDefEqProofs only [go_sem,Nat.reduceAdd,Nat.reduceMul,Nat.reduceEqDiff,Nat.reduceLT,Nat.reduceLeDiff,reduceCtorEq,Int.reduceNeg,rI,di,List.length_map,h1,hd]
   rw [Int.sign_eq_one_of_pos (by omega)]
theorem Q1t (x y:Int) (hl:(digs E9 (x.natAbs+y.natAbs)).length≤1000000000):Qag Tryz.prog 83 [rI x,rI y] (rI (x+y)):=by
 have hx:(digs E9 x.natAbs).length≤1000000000:=Nat.le_trans (Qn7 (Nat.le_add_right _ _)) hl
 have hy:(digs E9 y.natAbs).length≤1000000000:=Nat.le_trans (Qn7 (Nat.le_add_left _ _)) hl
 refine Qac (tb:=[]) 40 [.cell 4 76] [0,1,2,3,4,9,23] mixed Tryz.func83 rfl (by kernel_rfl) (by kernel_rfl) (by kernel_rfl) (by kernel_rfl) ?_
 cases hs:(decide (x<0)==decide (y<0))with
 |true=>
  simp -implicitDefEqProofs only [go_sem,Nat.reduceAdd,Nat.reduceMul,Nat.reduceEqDiff,Nat.reduceLT,Nat.reduceLeDiff,reduceCtorEq,rI,di,hs]
  refine Qaf _ _ _ _ _ _ _ _ _ (Zg8 _ _ hl) ?_
  simp -implicitDefEqProofs only [go_sem,Nat.reduceAdd,Nat.reduceEqDiff,Nat.reduceLT,reduceCtorEq,rI,di]
  refine Qaf _ _ _ _ _ _ _ _ _ (Qfs _ _) ?_
  have e:(if decide (x<0)=true then -((x.natAbs+y.natAbs:Nat):Int)else((x.natAbs+y.natAbs:Nat):Int))=x+y:=by
   by_cases h:x<0<;>by_cases h':y<0<;>simp [h,h']at hs ⊢ <;>omega
  rw [e]
  simp -implicitDefEqProofs only [go_sem,Nat.reduceAdd,Nat.reduceEqDiff,reduceCtorEq,rI,di]
  exact Qaa _ _ (by kernel_rfl)
 |false=>
  simp -implicitDefEqProofs only [go_sem,Nat.reduceAdd,Nat.reduceMul,Nat.reduceEqDiff,Nat.reduceLT,Nat.reduceLeDiff,reduceCtorEq,rI,di,hs]
  refine Qaf _ _ _ _ _ _ _ _ _ (Qpg _ _ hx) ?_
  by_cases hc:y.natAbs≤x.natAbs
  ·have hc':(0≤cmpN x.natAbs y.natAbs)=True:=by simp [cmpN];omega
   simp -implicitDefEqProofs only [go_sem,Nat.reduceAdd,Nat.reduceMul,Nat.reduceEqDiff,Nat.reduceLT,Nat.reduceLeDiff,reduceCtorEq,hc']
   refine Qaf _ _ _ _ _ _ _ _ _ (Qph _ _ hc hx) ?_
   simp -implicitDefEqProofs only [go_sem,Nat.reduceAdd,Nat.reduceEqDiff,Nat.reduceLT,reduceCtorEq,di]
   refine Qaf _ _ _ _ _ _ _ _ _ (Qfs _ _) ?_
   have e:(if decide (x<0)=true then -((x.natAbs-y.natAbs:Nat):Int)else((x.natAbs-y.natAbs:Nat):Int))=x+y:=by
    by_cases h:x<0<;>by_cases h':y<0<;>simp [h,h']at hs ⊢ <;>omega
   rw [e]
   simp -implicitDefEqProofs only [go_sem,Nat.reduceAdd,Nat.reduceEqDiff,reduceCtorEq,rI,di]
   exact Qaa _ _ (by kernel_rfl)
  ·have hc':(0≤cmpN x.natAbs y.natAbs)=False:=by simp [cmpN];omega
   simp -implicitDefEqProofs only [go_sem,Nat.reduceAdd,Nat.reduceMul,Nat.reduceEqDiff,Nat.reduceLT,Nat.reduceLeDiff,reduceCtorEq,hc']
   refine Qaf _ _ _ _ _ _ _ _ _ (Qph _ _ (Nat.le_of_lt (Nat.lt_of_not_le hc)) hy) ?_
   simp -implicitDefEqProofs only [go_sem,Nat.reduceAdd,Nat.reduceEqDiff,Nat.reduceLT,reduceCtorEq,di]
   refine Qaf _ _ _ _ _ _ _ _ _ (Qfs _ _) ?_
   have e:(if decide (y<0)=true then -((y.natAbs-x.natAbs:Nat):Int)else((y.natAbs-x.natAbs:Nat):Int))=x+y:=by
    by_cases h:x<0<;>by_cases h':y<0<;>simp [h,h']at hs ⊢ <;>omega
   rw [e]
   simp -implicitDefEqProofs only [go_sem,Nat.reduceAdd,Nat.reduceEqDiff,reduceCtorEq,rI,di]
   exact Qaa _ _ (by kernel_rfl)
theorem Qn8 (x y:Int) (hl:(digs E9 (x.natAbs+y.natAbs)).length≤1000000000):Qag Tryz.prog 134 [rI x,rI y] (rI (x-y)):=by
 refine Qac (tb:=[]) 9 [.cell 4 76] [0,1,2,3,4] mixed Tryz.func134 rfl (by kernel_rfl) (by kernel_rfl) (by kernel_rfl) (by kernel_rfl) ?_
 simp -implicitDefEqProofs only [go_sem,Nat.reduceAdd,Nat.reduceMul,Nat.reduceEqDiff,Nat.reduceLT,Nat.reduceLeDiff,reduceCtorEq,rI,di]
 refine Qaf _ _ _ _ _ _ _ _ _ (Zfz y) ?_
 simp -implicitDefEqProofs only [go_sem,Nat.reduceAdd,Nat.reduceEqDiff,Nat.reduceLT,reduceCtorEq,rI,di]
 refine Qaf _ _ _ _ _ _ _ _ _ (Q1t x (-y) (by rw [Int.natAbs_neg];exact hl)) ?_
 simp -implicitDefEqProofs only [go_sem,Nat.reduceAdd,Nat.reduceEqDiff,reduceCtorEq,rI,di,Int.sub_eq_add_neg]
 exact Qaa _ _ (by kernel_rfl)
theorem Qwj (x y:Int) (hl:(digs E9 x.natAbs).length+(digs E9 y.natAbs).length≤1000000000):Qag Tryz.prog 84 [rI x,rI y] (rI (x*y)):=by
 refine Qac (tb:=[]) 16 [.cell 4 76] [0,1,2,3,4] mixed Tryz.func84 rfl (by kernel_rfl) (by kernel_rfl) (by kernel_rfl) (by kernel_rfl) ?_
 simp -implicitDefEqProofs only [go_sem,Nat.reduceAdd,Nat.reduceMul,Nat.reduceEqDiff,Nat.reduceLT,Nat.reduceLeDiff,reduceCtorEq,rI,di]
 refine Qaf _ _ _ _ _ _ _ _ _ (Qwg _ _ hl) ?_
 simp -implicitDefEqProofs only [go_sem,Nat.reduceAdd,Nat.reduceEqDiff,Nat.reduceLT,reduceCtorEq,di]
 refine Qaf _ _ _ _ _ _ _ _ _ (Qfs _ _) ?_
 have e:(if(!decide (x<0)==decide (y<0))=true then -((x.natAbs*y.natAbs:Nat):Int)else((x.natAbs*y.natAbs:Nat):Int))=x*y:=by
  rw [Int.natCast_mul]
  by_cases h:x<0<;>by_cases h':y<0
  ·simp [h,h',Int.neg_mul,Int.mul_neg,Int.ofNat_natAbs_of_nonpos (Int.le_of_lt h),Int.ofNat_natAbs_of_nonpos (Int.le_of_lt h')]
  ·simp [h,h',Int.neg_mul,Int.mul_neg,Int.ofNat_natAbs_of_nonpos (Int.le_of_lt h),Int.natAbs_of_nonneg (Int.not_lt.1 h')]
  ·simp [h,h',Int.neg_mul,Int.mul_neg,Int.natAbs_of_nonneg (Int.not_lt.1 h),Int.ofNat_natAbs_of_nonpos (Int.le_of_lt h')]
  ·simp [h,h',Int.natAbs_of_nonneg (Int.not_lt.1 h),Int.natAbs_of_nonneg (Int.not_lt.1 h')]
 rw [e]
 simp -implicitDefEqProofs only [go_sem,Nat.reduceAdd,Nat.reduceEqDiff,reduceCtorEq,rI,di]
 exact Qaa _ _ (by kernel_rfl)
theorem Qx7 (x y:Int) (hl:(digs E9 (x.natAbs+y.natAbs)).length≤1000000000):Qag Tryz.prog 77 [rI x,rI y] (.int .i64 (x-y).sign):=by
 refine Qac (tb:=[]) 9 [.tmp 4] [0,1,2,3,4] mixed Tryz.func77 rfl (by kernel_rfl) (by kernel_rfl) (by kernel_rfl) (by kernel_rfl) ?_
 simp -implicitDefEqProofs only [go_sem,Nat.reduceAdd,Nat.reduceMul,Nat.reduceEqDiff,Nat.reduceLT,Nat.reduceLeDiff,reduceCtorEq,rI,di]
 refine Qaf _ _ _ _ _ _ _ _ _ (Qn8 x y hl) ?_
 simp -implicitDefEqProofs only [go_sem,Nat.reduceAdd,Nat.reduceEqDiff,Nat.reduceLT,reduceCtorEq,rI,di]
 refine Qaf _ _ _ _ _ _ _ _ _ (Qty (x-y)) ?_
 simp -implicitDefEqProofs only [go_sem,Nat.reduceAdd,Nat.reduceEqDiff,Nat.reduceLT,reduceCtorEq]
theorem Zmh (n:Nat) (h:n<9223372036854775809):Qdb [n%E9,n/E9%E9,n/E9/E9]=digs E9 n:=by
 have e: [n%E9,n/E9%E9,n/E9/E9]=lows E9 n 3:=by
  have h3:n/E9/E9=n/E9^2%E9:=by
   rw [Nat.div_div_eq_div_mul,show E9*E9=E9^2 from rfl]
   exact(Nat.mod_eq_of_lt (Nat.div_lt_of_lt_mul (Nat.lt_trans h (by decide)))).symm
  rw [h3]
  simp [lows,List.range_succ]
 rw [e,Qbj E9_2,Nat.mod_eq_of_lt (Nat.lt_trans h (by decide))]
theorem Q1u {n:Nat} (h:n<9223372036854775809):(digs E9 n).length≤3:=(Qan E9_2 n 3).2 (Nat.lt_trans h (by decide))
theorem Zg9:rI 0= .agg [.bool false,.slc []]:=by simp [rI,di,Qax]
theorem Qe2 (n:Int) (h1: -9223372036854775808≤n) (h2:n≤9223372036854775807):Qag Tryz.prog 78 [.int .i64 n] (rI n):=by
 refine Qac (tb:=[]) 32 [.cell 2 76] [0,2,4] mixed Tryz.func78 rfl (by kernel_rfl) (by kernel_rfl) (by kernel_rfl) (by kernel_rfl) ?_
 by_cases hn:0≤n
 ·obtain⟨m,rfl⟩: ∃m:Nat,n=m:=⟨n.toNat,by omega⟩
  have h0:((m:Int)≥0)=True:=by simp
  have e1:=wrapn (n:=m/1000000000) (by omega)
  have e2:=wrapn (n:=m/1000000000/1000000000) (by omega)
  simp -implicitDefEqProofs only [go_sem,Nat.reduceAdd,Nat.reduceMul,Nat.reduceEqDiff,Nat.reduceLT,Nat.reduceLeDiff,reduceIte,reduceCtorEq,Int.reduceEq,h0,Qpe,Qpf,e1,e2]
  refine Qaf _ _ _ _ _ _ _ _ _ (Qjr [m%E9,m/E9%E9,m/E9/E9] (by simp [maxLen])) ?_
  rw [Zmh m (by omega)]
  simp -implicitDefEqProofs only [go_sem,Nat.reduceAdd,Nat.reduceEqDiff,Nat.reduceLT,reduceCtorEq,di]
  refine Qaf _ _ _ _ _ _ _ _ _ (Qfs _ m) ?_
  simp -implicitDefEqProofs only [go_sem,Nat.reduceAdd,Nat.reduceEqDiff,reduceCtorEq,rI,di]
 ·obtain⟨m,rfl⟩: ∃m:Nat,n= -m:=⟨n.natAbs,by omega⟩
  have h0:(0≤ -(m:Int))=False:=by simp;omega
  have q1:Int.tmod (-(m:Int)) 1000000000= -((m%1000000000:Nat):Int):=by rw [Int.neg_tmod,Qpe]
  have q2:Int.tdiv (-(m:Int)) 1000000000= -((m/1000000000:Nat):Int):=by rw [Int.neg_tdiv,Qpf]
  have q3:Int.tmod (-((m/1000000000:Nat):Int)) 1000000000= -((m/1000000000%1000000000:Nat):Int):=by rw [Int.neg_tmod,Qpe]
  have q4:Int.tdiv (-((m/1000000000:Nat):Int)) 1000000000= -((m/1000000000/1000000000:Nat):Int):=by rw [Int.neg_tdiv,Qpf]
  have e1:IntKind.i64.wrap (-((m/1000000000:Nat):Int))= -((m/1000000000:Nat):Int):=Qah (by omega) (by omega)
  have e2:IntKind.i64.wrap (-((m/1000000000/1000000000:Nat):Int))= -((m/1000000000/1000000000:Nat):Int):=Qah (by omega) (by omega)
  have n1:IntKind.i64.wrap (0- -((m%1000000000:Nat):Int))=((m%1000000000:Nat):Int):=by rw [Qah (by omega) (by omega)];omega
  have n2:IntKind.i64.wrap (0- -((m/1000000000%1000000000:Nat):Int))=((m/1000000000%1000000000:Nat):Int):=by rw [Qah (by omega) (by omega)];omega
  have n3:IntKind.i64.wrap (0- -((m/1000000000/1000000000:Nat):Int))=((m/1000000000/1000000000:Nat):Int):=by rw [Qah (by omega) (by omega)];omega
  simp -implicitDefEqProofs only [go_sem,Nat.reduceAdd,Nat.reduceMul,Nat.reduceEqDiff,Nat.reduceLT,Nat.reduceLeDiff,reduceIte,reduceCtorEq,Int.reduceEq,h0,q1,q2,e1,q3,q4,e2,n1,n2,n3]
  refine Qaf _ _ _ _ _ _ _ _ _ (Qjr [m%E9,m/E9%E9,m/E9/E9] (by simp [maxLen])) ?_
  rw [Zmh m (by omega)]
  simp -implicitDefEqProofs only [go_sem,Nat.reduceAdd,Nat.reduceEqDiff,Nat.reduceLT,reduceCtorEq,di]
  refine Qaf _ _ _ _ _ _ _ _ _ (Qfs _ m) ?_
  simp -implicitDefEqProofs only [go_sem,Nat.reduceAdd,Nat.reduceEqDiff,Nat.reduceLT,reduceCtorEq,rI,di]
  have hsub:=Qn8 (-(m:Int)) 0 (by simp;exact Nat.le_trans (Q1u (by omega)) (by decide))
  rw [Int.sub_zero,Zg9]at hsub
  refine Qaf _ _ _ _ _ _ _ _ _ hsub ?_
  simp -implicitDefEqProofs only [go_sem,Nat.reduceAdd,Nat.reduceEqDiff,reduceCtorEq,rI,di]
end Go.Proofs.YtciddhkfbgkejaaGreatDoor

namespace Go.Vl
open Go.RowKit
theorem Zgn {st:St} {t:Nat} (ht:st.var t=some .nilS):Le st (st.setVar t (.slc [])):=by
 rintro C a w ⟨ρ,im,h⟩
 have hv:=(h.var t _ ht).nilS_inv
 refine⟨ρ,im,h.root,h.nt,h.dfr,h.imc,?_,h.rho,h.box,h.inj⟩
 intro t' v' hv'
 simp only [St.setVar,upd]at hv'
 split at hv'
 ·rename_i e
  cases hv'
  subst e
  rw [hv]
  exact .ext _ _ (.slcNil 0 (Nat.zero_le _))
 ·exact h.var t' v' hv'
theorem Q8p {vs:List (Nat×PV)} {bs:List (Nat×Box)} {o:List (List PV)} {y:Yl} (t:Nat) (ht:lkp vs t=some .nilS):
  Le (St.ofG vs bs o y) (St.ofG ((t,.slc [])::vs) bs o y):=Zgn (st:=St.ofG vs bs o y) ht
theorem Zgo (P:Program) (p:Nat×List (Nat×Nat)×List (Nat×Nat)) (tb:Tab) (id:Nat) (bx:Bx) (fo:Operand) (as0:Array Operand) (ts:Array TypeId) (f:FuncId) (first cap args:List PV):Qa3 P (p::tb) id (.call ⟨.value fo,as0,ts⟩) (.fn f first cap::args) bx=
  (match lkp (p::tb) id with
   |none=>M.bind (Qfj first) (fun x=> .bind (Qfx args) fun y=> .bind (Qfj cap) fun z=> .pure (.call f (x.1++y.1++z.1) (x.2++y.2++z.2))) bx
   |some t=>Qdl t.1 t.2 f (first++args++cap) bx):=by
 cases h:lkp (p::tb) id with
 |none=>rw [Zgk (h:=h)]
 |some t=>obtain⟨θ,ν⟩:=t;rw [Zgl (h:=h)]
theorem ble6:Nat.ble 1000000 1000000=true:=rfl
theorem Zpe:Nat.ble 1000000 1000001=true:=rfl
attribute [go_sem] Zgo ble6 Zpe
theorem Zpf (P:Program) (t:TypeId) (x y:ByteArray):Qbz .eql t P (.str x) (.str y)=some (.bool (x.data.toList==y.data.toList)):=by
 rw [Zlh,←Go.ByteArray.toList_eq x,←Go.ByteArray.toList_eq y];rfl
theorem Zpg (P:Program) (t:TypeId) (x y:ByteArray):Qbz .neq t P (.str x) (.str y)=some (.bool !(x.data.toList==y.data.toList)):=by
 rw [Zlh,←Go.ByteArray.toList_eq x,←Go.ByteArray.toList_eq y];rfl
attribute [go_sem high] Zpf Zpg
def bnum (l:List UInt8):Nat:=l.foldl (fun n b=>n*256+b.toNat) 0
theorem Qlp (l:List UInt8) (b:UInt8):bnum (l++[b])=bnum l*256+b.toNat:=by simp [bnum]
theorem Qtk: ∀(n:Nat) (l:List UInt8),l.length=n→bnum l<256^n
 |0,l,h=>by obtain rfl:=List.length_eq_zero_iff.1 h;simp [bnum]
 |n+1,l,h=>by
  have hne:l≠ []:=by intro e;rw [e]at h;simp at h
  have e:=List.dropLast_concat_getLast hne
  have ih:=Qtk n l.dropLast (by simp [h])
  rw [←e,Qlp,Nat.pow_succ]
  have:=(l.getLast hne).toNat_lt
  omega
theorem Qlq (s:ByteArray):s.size=s.data.toList.length:=rfl
theorem Qq6 (s:ByteArray) (k:Nat) (h:k<s.data.toList.length):s[k]? =some s.data.toList[k]:=by
 have h':k<s.size:=h
 rw [getElem?_pos s k h']
 rfl
end Go.Vl

namespace Go.Proofs.YtciddhkfbgkejaaGreatDoor
open Go.Vl Go.RowKit Go.Dg
end Go.Proofs.YtciddhkfbgkejaaGreatDoor

namespace Go.Proofs.YtciddhkfbgkejaaGreatDoor
open Go.Vl Go.RowKit Go.Dg
abbrev rB (E:List Nat):Box:={els:=E.map fI,esz:=1,ety:=3,fro:=0,live:=true,arr:=true}
theorem Q9f (E:List Nat) (n:Nat) (hn:n≤E.length) (hE:E.length≤maxLen):
  Qco Tryz.prog 136 [.bs 1000000 1 0 n] [(1000000,rB E)] (.bs 1000000 1 0 (Qdb (E.take n)).length) [(1000000,rB E)]:=by
 have hm:=Qds
 refine Qb7 (tb:=[]) 21 [.tmp 2] [0,2,14] mixed Tryz.func136 rfl (by kernel_rfl) (by kernel_rfl) (by kernel_rfl) (by kernel_rfl) (by rfl) ?_
 simp -implicitDefEqProofs only [go_sem,Nat.reduceMul,Nat.reduceEqDiff,Nat.reduceLT,Nat.reduceLeDiff,reduceCtorEq]
 refine Qar mixed (fun k:{k:Nat // k≤n∧Qdb (E.take k)=Qdb (E.take n)}=>St.of [(0,.bs 1000000 1 0 k.1),(2,.nilS)] [(1000000,rB E)]) (fun k=>k.1) ⟨n,Nat.le_refl _,rfl⟩ ?_ ?_
 ·refine Qaj (θ:=[(1000000,1000000)]) rfl ?_ ?_
  ·simp [Qad,lkp,ren1,ren0]
  ·simp [Qam,lkp,Box.renames]
 ·rintro⟨k,hk,ht⟩
  cases k with
  |zero=>
   have h1:((0:Int)<((0:Nat):Int))=False:=by simp
   simp -implicitDefEqProofs only [go_sem,Nat.reduceAdd,Nat.reduceMul,Nat.reduceEqDiff,Nat.reduceLT,Nat.reduceLeDiff,reduceCtorEq,h1]
   rw [←ht]
   refine Qbl (.inl rfl) ?_
   simp -implicitDefEqProofs only [go_sem,Nat.reduceEqDiff,reduceCtorEq]
   refine Qaj (θ:=[(1000000,1000000)]) rfl ?_ ?_
   ·simp [Qad,lkp,ren1,ren0,Qdb]
   ·simp [Qam,lkp,Box.renames]
  |succ k=>
   have h1:((0:Int)<((k+1:Nat):Int))=True:=by simp
   have h2:(0≤(k:Int))=True:=by simp
   have hw:=Qem (n:=k) (by omega)
   have hlt:k<E.length:=by omega
   have hget:(E.map fI)[k]? =some (.int .i64 (E[k]:Int)):=by simp [hlt]
   have hcut:E.take (k+1)=E.take k++[E[k]]:=by rw [List.take_add_one];simp [hlt]
   have h4:((k:Int)<((k+1:Nat):Int))=True:=by simp;omega
   cases hd:((E[k]:Int)==0)with
   |true=>
    have hd0:E[k]=0:=by simpa using hd
    have h3:((k:Int)≤((k+1:Nat):Int))=True:=by simp;omega
    simp -implicitDefEqProofs only [go_sem,Nat.reduceAdd,Nat.reduceMul,Nat.reduceEqDiff,Nat.reduceLT,Nat.reduceLeDiff,reduceCtorEq,h1,h2,hw,hget,hd,Int.toNat_natCast,h3,h4,rB]
    refine⟨⟨k,by omega,?_⟩,by simp,?_⟩
    ·rw [←ht,hcut,hd0,Qcp]
    ·refine Qaj (θ:=[(1000000,1000000)]) rfl ?_ ?_
     ·simp [Qad,lkp,ren1,ren0]
     ·simp [Qam,lkp,Box.renames]
   |false=>
    have hd0:E[k]≠0:=by simpa using hd
    simp -implicitDefEqProofs only [go_sem,Nat.reduceAdd,Nat.reduceMul,Nat.reduceEqDiff,Nat.reduceLT,Nat.reduceLeDiff,reduceCtorEq,h1,h2,hw,hget,hd,Int.toNat_natCast,h4,rB]
    rw [←ht,hcut,Qfb _ hd0]
    refine Qbl (.inl rfl) ?_
    simp -implicitDefEqProofs only [go_sem,Nat.reduceEqDiff,reduceCtorEq]
    refine Qaj (θ:=[(1000000,1000000)]) rfl ?_ ?_
    ·simp [Qad,lkp,ren1,ren0];omega
    ·simp [Qam,lkp,Box.renames]
end Go.Proofs.YtciddhkfbgkejaaGreatDoor

namespace Go.Dg
variable {B:Nat}
theorem Q1h (v A x:Nat) (b:Nat) (hx:x<b) (h:v=A*b+x):(A%256*b+x)/256=v/256%b∧(A%256*b+x)%256=v%256:=by
 subst h
 have e:A*b+x=(A/256*b)*256+(A%256*b+x):=by
  have:A=A/256*256+A%256:=by omega
  conv=>lhs;rw [this]
  rw [Nat.add_mul,Nat.mul_right_comm]
  omega
 have hr:A%256*b+x<256*b:=by
  have h1:A%256≤255:=by omega
  have:=Nat.mul_le_mul_right b h1
  omega
 rw [e]
 generalize hR:A%256*b+x=R at*
 constructor
 ·rw [Nat.add_comm,Nat.add_mul_div_right _ _ (by decide),Nat.add_comm,Nat.mul_comm (A/256) b,Nat.mul_add_mod]
  exact(Nat.mod_eq_of_lt (Nat.div_lt_of_lt_mul hr)).symm
 ·omega
theorem Qv5 (v i:Nat):v/256/B^i=v/B^i/256:=by rw [Nat.div_div_eq_div_mul,Nat.mul_comm,←Nat.div_div_eq_div_mul]
theorem Qib {V S N i d:Nat} (hi:i<N) (hd:S/B^i%B=d):(mix B V S N (i+1)).set i d=mix B V S N i:=by
 apply List.ext_getElem?
 intro j
 rw [List.getElem?_set]
 by_cases hj:j<N
 ·rw [Qcq _ _ _ _ _ hj,Qcq _ _ _ _ _ hj,Qbe]
  by_cases e:i=j
  ·subst e;simp [hj,hd]
  ·simp only [e,if_false]
   by_cases hlt:j<i
   ·rw [if_pos (by omega),if_pos hlt]
   ·rw [if_neg (by omega),if_neg hlt]
 ·rw [List.getElem?_eq_none (by rw [Qbe];omega),List.getElem?_eq_none (by rw [Qbe];omega),Qbe]
  simp;omega
theorem Qri (v N n:Nat) (h:n≤N):(lows B v N).take n=lows B v n:=by
 apply List.ext_getElem?
 intro j
 by_cases hj:j<n
 ·rw [List.getElem?_take_of_lt hj,Qbt _ _ _ (by omega),Qbt _ _ _ hj]
 ·rw [List.getElem?_eq_none (by rw [List.length_take,Qak];omega),List.getElem?_eq_none (by rw [Qak];omega)]
end Go.Dg

namespace Go.Proofs.YtciddhkfbgkejaaGreatDoor
open Go.Vl Go.RowKit Go.Dg
abbrev f8:Nat→PV:=fun d:Nat=>PV.int .u8 (d:Int)
def magL (n:Nat):List UInt8:=(digs 256 n).reverse.map fun d=>UInt8.ofNat d
def wPV (n:Int):PV:= .agg [.bool (decide (n<0)),.str ⟨(magL n.natAbs).toArray⟩]
theorem Qn9 (l:List Nat):Qd2 (l.map f8)=some (l.map fun d=>UInt8.ofNat d):=by
 induction l with
 |nil=>rfl
 |cons d l ih=>simp only [List.map_cons,Qd2,ih];rfl
theorem Qft {n:Nat} (h:n<256):IntKind.u8.wrap (n:Int)=(n:Int):=by
 simp [IntKind.wrap,IntKind.signed,IntKind.bits];omega
theorem Zha (n:Nat):Int.tmod (n:Int) 256=((n%256:Nat):Int):=by
 rw [Int.tmod_eq_emod_of_nonneg (by omega)];rfl
theorem Zhb (n:Nat):Int.tdiv (n:Int) 256=((n/256:Nat):Int):=by
 rw [Int.tdiv_eq_ediv_of_nonneg (by omega)];rfl
theorem Zf0 (l:List Nat):(((l.map f8).flatMap PV.cells).all PV.okCell)=true:=by
 rw [List.all_flatMap,List.all_map,List.all_eq_true];intro _ _;rfl
theorem Q9g (B n:Nat):lows B n 0=[]:=rfl
theorem Zpj (n:Int) (hl:(digs E9 n.natAbs).length≤1000000) (hl2:(digs 256 n.natAbs).length≤100000000):Qag Tryz.prog 87 [rI n] (wPV n):=by
 have hm:=Qds

 refine Qac (tb:=[(1201,[(1000000,202)],[])]) 62 [.cell 2 71] [0,1,2,3,4,5,6,7,8,14,19,47] mixed Tryz.func87 rfl (by kernel_rfl) (by kernel_rfl) (by kernel_rfl) (by kernel_rfl) ?_
 have hs1:((digs E9 n.natAbs).length*8≤140737488355328)=True:=by simp only [eq_iff_iff,iff_true];omega
 have hs2:((digs E9 n.natAbs).length≤maxLen)=True:=by simp only [eq_iff_iff,iff_true];unfold maxLen;omega
 have hok:((digs E9 n.natAbs).map fI).all (fun e=>e.cells.length==1&&e.cells.all PV.okCell)=true:=by rw [List.all_map,List.all_eq_true];intro _ _;rfl
 simp -implicitDefEqProofs only [go_sem,Nat.reduceAdd,Nat.reduceMul,Nat.reduceEqDiff,Nat.reduceLT,Nat.reduceLeDiff,reduceCtorEq,rI,di,List.length_map,hs1,hs2,hok]
 generalize hX:n.natAbs=X at*
 generalize hN:(digs E9 X).length=N at*
 have hXN:lows E9 X N=digs E9 X:=by rw [←hN];exact Qgh E9_2 X
 refine Qar mixed (fun k:{k:Nat // k≤(digs 256 X).length∧ ∀j,j<k→X/256^j≠0}=>St.of [(1,.bp 0 2 0 0),(2,.bp 1 2 0 0),(3,.bs 7 1 0 k.1),(4,.bs 202 1 0 (digs E9 (X/256^k.1)).length)]
   [(0,{els:=[.agg [.bool (decide (n<0)),di (digs E9 X)]],esz:=2,ety:=76,fro:=0,live:=true,arr:=false}),(1,{els:=[.agg [.bool false,.str ⟨#[]⟩]],esz:=2,ety:=71,fro:=0,live:=true,arr:=false}),
    (7,{els:=(lows 256 X k.1).map f8,esz:=1,ety:=5,fro:=0,live:=true,arr:=true}),(202,rB (lows E9 (X/256^k.1) N))]) (fun k=>X/256^k.1) ⟨0,Nat.zero_le _,by omega⟩ ?_ ?_
 ·refine Qf8 3 7 1 5 rfl rfl rfl (by decide) [(0,0),(1,1),(7,7),(202,202)] rfl ?_ ?_
  ·simp [Qad,lkp,ren1,ren0,hN]
  ·simp only [Nat.pow_zero,Nat.div_one,hXN,Q9g]
   simp [Qam,lkp,Box.renames,di]
   exact⟨⟨rfl,rfl⟩,rfl,rfl⟩
 ·rintro⟨k,hk,hmore⟩
  generalize hv:X/256^k=v at*
  by_cases hz:v=0
  ·subst hz
   have hlt:X<256^k:=by
    rcases Nat.lt_or_ge X (256^k)with h|h
    ·exact h
    ·have:=Nat.div_pos h (Nat.pow_pos (by decide))
     omega
   have hD:lows 256 X k=digs 256 X:=Qlz (by decide) hlt hmore
   have hkD:(digs 256 X).length=k:=by rw [←hD,Qak]
   have hp:(0<((digs E9 0).length:Int))=False:=by rw [Qax];simp
   have hw:IntKind.i64.wrap ((k:Int)-1)=(k:Int)-1:=Qah (by omega) (by omega)
   rw [hD]
   have hW:wPV n= .agg [.bool (decide (n<0)),.str ⟨((digs 256 X).reverse.map fun d=>UInt8.ofNat d).toArray⟩]:=by rw [wPV,magL,hX]
   rw [hW]
   generalize digs 256 X=D at*
   simp -implicitDefEqProofs only [go_sem,Nat.reduceAdd,Nat.reduceMul,Nat.reduceEqDiff,Nat.reduceLT,Nat.reduceLeDiff,reduceCtorEq,hp,rB,hw]
   refine Qar mixed (fun i:{i:Nat // i≤k}=>St.of [(1,.bp 0 2 0 0),(2,.bp 1 2 0 0),(3,.bs 7 1 0 k),(7,.bs 8 1 0 (k-i.1)),(8,.int .i64 ((i.1:Int)-1))]
     [(0,{els:=[.agg [.bool (decide (n<0)),di (digs E9 X)]],esz:=2,ety:=76,fro:=0,live:=true,arr:=false}),(1,{els:=[.agg [.bool false,.str ⟨#[]⟩]],esz:=2,ety:=71,fro:=0,live:=true,arr:=false}),
      (7,{els:=D.map f8,esz:=1,ety:=5,fro:=0,live:=true,arr:=true}),(8,{els:=(D.drop i.1).reverse.map f8,esz:=1,ety:=5,fro:=0,live:=true,arr:=true})]) (fun i=>i.1) ⟨k,Nat.le_refl _⟩ ?_ ?_
   ·refine Qf8 7 8 1 5 rfl rfl rfl (by decide) [(0,0),(1,1),(7,7),(8,8)] rfl ?_ ?_
    ·simp [Qad,lkp,ren1,ren0]
    ·simp [Qam,lkp,Box.renames,di,←hkD]
     exact⟨⟨rfl,rfl⟩,rfl,rfl⟩
   ·rintro⟨i,hi⟩
    cases i with
    |zero=>
     have h1:((0:Int)≤((0:Nat):Int)-1)=False:=by simp
     have htk:(D.reverse.map f8).take k=D.reverse.map f8:=List.take_of_length_le (by simp;omega)
     simp -implicitDefEqProofs only [go_sem,Nat.reduceAdd,Nat.reduceMul,Nat.reduceEqDiff,Nat.reduceLT,Nat.reduceLeDiff,reduceIte,reduceCtorEq,h1,Nat.sub_zero,List.drop_zero,List.length_map,List.length_reverse,hkD,htk,Qn9,di]
    |succ i=>
     have hs:(((i+1:Nat):Int)-1)=(i:Int):=by omega
     have h1:((0:Int)≤(i:Int))=True:=by simp
     have h2:((i:Int)<(k:Int))=True:=by simp;omega
     have w4:IntKind.i64.wrap ((i:Int)-1)=(i:Int)-1:=Qah (by omega) (by omega)
     have hget:(D.map f8)[i]? =some (.int .u8 ((D[i]'(by omega):Nat):Int)):=by rw [List.getElem?_map,List.getElem?_eq_getElem (by omega)];rfl
     have hdl:(D.drop (i+1)).length=k-(i+1):=by simp;omega
     have hdr:D.drop i=D[i]'(by omega)::D.drop (i+1):=List.drop_eq_getElem_cons (by omega)
     have q1:(k-(i+1)==k-(i+1))=true:=beq_self_eq_true _
     have q2:(k-(i+1)+1≤140737488355328)=True:=by simp only [eq_iff_iff,iff_true];omega
     have q3:(k-(i+1)+1≤maxLen)=True:=by simp only [eq_iff_iff,iff_true];unfold maxLen;omega
     simp -implicitDefEqProofs only [go_sem,Nat.reduceAdd,Nat.reduceMul,Nat.reduceEqDiff,Nat.reduceLT,Nat.reduceLeDiff,reduceIte,reduceCtorEq,Nat.reduceBneDiff,hs,h1,h2,w4,hget,Int.toNat_natCast,List.length_map,List.length_reverse,hdl,q1,q2,q3,Zf0,Nat.mul_one]
     have q5:k-i=k-(i+1)+1:=by omega
     have q6:k-i-1=k-(i+1):=by omega
     have q7:(D.drop i).reverse.map f8=(D.drop (i+1)).reverse.map f8++[f8 (D[i]'(by omega))]:=by rw [hdr,List.reverse_cons,List.map_append];rfl
     refine⟨⟨i,by omega⟩,by simp only;omega,?_⟩
     simp only [q6,q7]
     rw [q5]
     refine Qaj (θ:=[(0,0),(1,1),(7,7),(8,1706)]) rfl ?_ ?_
     ·simp [Qad,lkp,ren1,ren0]
     ·simp [Qam,lkp,Box.renames,di]
      exact⟨⟨rfl,rfl⟩,rfl,rfl⟩
  ·have hp:(0<((digs E9 v).length:Int))=True:=by have:=Q9e hz;simp;omega
   have hvX:v≤X:=by rw [←hv];exact Nat.div_le_self _ _
   have hnN:(digs E9 v).length≤N:=by rw [←hN];exact Qn7 hvX
   have hnp:=Q9e hz
   have hend:v/E9^(digs E9 v).length=0:=Qa9 E9_2 (Nat.le_refl _)
   have hvlt:=Qaw E9_2 v
   generalize hnn:(digs E9 v).length=nn at*
   have hw:IntKind.i64.wrap ((nn:Int)-1)=(nn:Int)-1:=Qah (by omega) (by omega)
   simp -implicitDefEqProofs only [go_sem,Nat.reduceAdd,Nat.reduceMul,Nat.reduceEqDiff,Nat.reduceLT,Nat.reduceLeDiff,reduceCtorEq,hp,rB,hw]
   refine Qar mixed (fun i:{i:Nat // i≤nn}=>St.of [(1,.bp 0 2 0 0),(2,.bp 1 2 0 0),(3,.bs 7 1 0 k),(4,.bs 202 1 0 nn),(5,.int .i64 ((v/E9^i.1%256:Nat):Int)),(6,.int .i64 ((i.1:Int)-1))]
     [(0,{els:=[.agg [.bool (decide (n<0)),di (digs E9 X)]],esz:=2,ety:=76,fro:=0,live:=true,arr:=false}),(1,{els:=[.agg [.bool false,.str ⟨#[]⟩]],esz:=2,ety:=71,fro:=0,live:=true,arr:=false}),
      (7,{els:=(lows 256 X k).map f8,esz:=1,ety:=5,fro:=0,live:=true,arr:=true}),(202,{els:=(mix E9 v (v/256) N i.1).map fI,esz:=1,ety:=3,fro:=0,live:=true,arr:=true})]) (fun i=>i.1) ⟨nn,Nat.le_refl _⟩ ?_ ?_
   ·refine Qaj (θ:=[(0,0),(1,1),(7,7),(202,202)]) rfl ?_ ?_
    ·simp [Qad,lkp,ren1,ren0,hend]
    ·have e:mix E9 v (v/256) N nn=lows E9 v N:=Qeg (by decide) (by rw [Qv5,hend])
     simp only [e]
     simp [Qam,lkp,Box.renames,di]
     exact⟨⟨rfl,rfl⟩,rfl,rfl⟩
   ·rintro⟨i,hi⟩
    cases i with
    |zero=>
     have h1:((0:Int)≤((0:Nat):Int)-1)=False:=by simp
     have hks:=Qak (B:=256) X k
     have q1:(k==k)=true:=beq_self_eq_true k
     have q2:(k+1≤140737488355328)=True:=by simp only [eq_iff_iff,iff_true];omega
     have q3:(k+1≤maxLen)=True:=by simp only [eq_iff_iff,iff_true];unfold maxLen;omega
     have q4:IntKind.u8.wrap ((v/E9^0%256:Nat):Int)=((v/E9^0%256:Nat):Int):=Qft (Nat.mod_lt _ (by decide))
     simp -implicitDefEqProofs only [go_sem,Nat.reduceAdd,Nat.reduceMul,Nat.reduceEqDiff,Nat.reduceLT,Nat.reduceLeDiff,reduceIte,reduceCtorEq,Nat.reduceBneDiff,h1,List.length_map,hks,q1,q2,q3,q4,Zf0,Nat.mul_one]
     have e0:mix E9 v (v/256) N 0=lows E9 (v/256) N:=Qg2 _ _ _
     rw [e0]
     have hlN:=Qak (B:=E9) (v/256) N
     refine Qby _ _ _ _ _ _ _ _ _ (Q9f (lows E9 (v/256) N) nn (by omega) (by unfold maxLen;omega)) ?_
     have hq:Qdb ((lows E9 (v/256) N).take nn)=digs E9 (v/256):=by
      rw [Qri _ _ _ hnN,Qbj E9_2,Nat.mod_eq_of_lt (Nat.lt_of_le_of_lt (Nat.div_le_self _ _) hvlt)]
     have hv1:X/256^(k+1)=v/256:=by rw [Nat.pow_succ,←Nat.div_div_eq_div_mul,hv]
     rw [hq]
     simp -implicitDefEqProofs only [go_sem,Nat.reduceAdd,Nat.reduceEqDiff,Nat.reduceLT,reduceCtorEq]
     refine⟨⟨k+1,(Qcb (by decide) X k).2 (by rw [hv];exact hz),?_⟩,?_,?_⟩
     ·intro j hj
      by_cases hjk:j<k
      ·exact hmore j hjk
      ·have:j=k:=by omega
       subst this
       rw [hv];exact hz
     ·simp only [hv1];omega
     ·simp only [hv1,Qc3,hv]
      refine Qaj (θ:=[(0,0),(1,1),(7,1104),(202,202)]) rfl ?_ ?_
      ·simp [Qad,lkp,ren1,ren0]
      ·simp [Qam,lkp,Box.renames,di]
       exact⟨⟨rfl,rfl⟩,rfl,rfl⟩
    |succ i=>
     have hs:(((i+1:Nat):Int)-1)=(i:Int):=by omega
     have h1:((0:Int)≤(i:Int))=True:=by simp
     have h2:((i:Int)<(nn:Int))=True:=by simp;omega
     have hx:v/E9^i%E9<E9:=Nat.mod_lt _ (by decide)
     have hr:v/E9^(i+1)%256<256:=Nat.mod_lt _ (by decide)
     obtain⟨b1,b2⟩:=Q1h (v/E9^i) (v/E9^(i+1)) (v/E9^i%E9) E9 hx (by rw [Nat.mul_comm];exact Qhn (by decide) v i)
     have hget:((mix E9 v (v/256) N (i+1)).map fI)[i]? =some (.int .i64 ((v/E9^i%E9:Nat):Int)):=by
      rw [List.getElem?_map,Qcq _ _ _ _ _ (by omega),if_pos (by omega)];rfl
     have hset:=Qib (B:=E9) (V:=v) (S:=v/256) (N:=N) (i:=i) (d:=v/E9^i/256%E9) (by omega) (by rw [Qv5])
     generalize v/E9^i%E9=x at*
     generalize v/E9^(i+1)%256=r at*
     have w1:IntKind.i64.wrap ((r:Int)*1000000000)=(r:Int)*1000000000:=Qah (by omega) (by omega)
     have w2:IntKind.i64.wrap ((r:Int)*1000000000+(x:Int))=((r*E9+x:Nat):Int):=by
      simp only [E9]at*
      rw [Qah (by omega) (by omega)];omega
     have w3:IntKind.i64.wrap (((r*E9+x)/256:Nat):Int)=(((r*E9+x)/256:Nat):Int):=wrapn (by simp only [E9]at*;omega)
     have w4:IntKind.i64.wrap ((i:Int)-1)=(i:Int)-1:=Qah (by omega) (by omega)
     have w5:IntKind.i64.wrap ((v/E9^i/256%E9:Nat):Int)=((v/E9^i/256%E9:Nat):Int):=by rw [←b1];exact w3
     simp -implicitDefEqProofs only [go_sem,Nat.reduceAdd,Nat.reduceMul,Nat.reduceEqDiff,Nat.reduceLT,Nat.reduceLeDiff,reduceIte,reduceCtorEq,Int.reduceEq,hs,h1,h2,hget,w1,w2,w3,w4,Zhb,Zha,Int.toNat_natCast,b1,b2]
     refine⟨⟨i,by omega⟩,by simp only;omega,?_⟩
     refine Qaj (θ:=[(0,0),(1,1),(7,7),(202,202)]) rfl ?_ ?_
     ·simp [Qad,lkp,ren1,ren0]
     ·rw [w5,Qwf,hset]
      simp [Qam,lkp,Box.renames,di]
      exact⟨⟨rfl,rfl⟩,rfl,rfl⟩
end Go.Proofs.YtciddhkfbgkejaaGreatDoor

namespace Go.Dg
variable {B:Nat}

def blen (m:Nat):Nat:=if h:m=0 then 0 else blen (m/2)+1
termination_by m
decreasing_by exact Nat.div_lt_self (Nat.pos_of_ne_zero h) (by decide)
theorem Qgf:blen 0=0:=by unfold blen;simp
theorem Qgg {m:Nat} (h:m≠0):blen m=blen (m/2)+1:=by
  conv=>lhs;unfold blen
  simp [h]
theorem Qd4: ∀(k m:Nat),m/2^k≠0→blen m=blen (m/2^k)+k
  |0,m,_=>by simp
  |k+1,m,h=>by
    have e:m/2^(k+1)=m/2/2^k:=by rw [Nat.div_div_eq_div_mul,Nat.pow_succ,Nat.mul_comm]
    have hm:m≠0:=by intro h0;rw [h0]at h;simp at h
    rw [Qgg hm,e,Qd4 k (m/2) (by rw [←e];exact h)]
    omega
theorem Qdx: ∀(k m:Nat),m<2^k→blen m≤k
  |0,m,h=>by
        obtain rfl:m=0:=by simpa using h
        rw [Qgf];exact Nat.le_refl _
  |k+1,m,h=>by
    by_cases h0:m=0
    · rw [h0,Qgf];omega
    · rw [Qgg h0]
      have:=Qdx k (m/2) (by rw [Nat.pow_succ]at h;omega)
      omega
theorem Qlr: ∀(k m:Nat),2^k≤m→k<blen m
  |0,m,h=>by
    have h0:m≠0:=by intro e;rw [e]at h;simp at h
    rw [Qgg h0];omega
  |k+1,m,h=>by
    have h0:m≠0:=by intro e;rw [e]at h;have:=Nat.pow_pos (n:=k+1) (show 0<2 by decide);omega
    rw [Qgg h0]
    have:=Qlr k (m/2) (by rw [Nat.pow_succ]at h;omega)
    omega
/-- The highest digit. -/
theorem Qdp (hB:2≤B) {m:Nat} (h:m≠0):m/B^((digs B m).length-1)≠0∧m/B^((digs B m).length-1)<B:=by
  have hp:0<(digs B m).length:=List.length_pos_iff.2 (mt (Qbg hB).1 h)
  refine⟨(Qcb hB m _).1 (by omega),?_⟩
  have:=Qaw hB m
  have e:B^(digs B m).length=B^((digs B m).length-1)*B:=by rw [←Nat.pow_succ];congr 1;omega
  rw [e]at this
  exact Nat.div_lt_of_lt_mul this
theorem Qvv {m:Nat} (h:m≠0) (c:Nat) (hc:0<c):blen m=blen (m/(2^c)^((digs (2^c) m).length-1))+c*((digs (2^c) m).length-1):=by
  have hB:2≤2^c:=by
    have:=Nat.pow_le_pow_right (show 0<2 by decide) hc
    simpa using this
  have:=Qdp hB h
  rw [←Nat.pow_mul]at this ⊢
  exact Qd4 _ _ this.1
end Go.Dg

namespace Go.Proofs.YtciddhkfbgkejaaGreatDoor
open Go.Vl Go.RowKit Go.Dg
theorem Qdf (m:Nat):(magL m).length=(digs 256 m).length:=by simp [magL]
theorem Q1q (m:Nat):(⟨(magL m).toArray⟩:ByteArray).size=(digs 256 m).length:=by rw [Qlq,←Qdf]
theorem Q9b {m:Nat} (h:m≠0): ∃d:UInt8,(⟨(magL m).toArray⟩:ByteArray)[0]? =some d∧d.toNat=m/256^((digs 256 m).length-1):=by
 have hp:0<(digs 256 m).length:=List.length_pos_iff.2 (mt (Qbg (by decide)).1 h)
 have ht:=Qdp (B:=256) (by decide) h
 have hg:=Qap (B:=256) (n:=m) (k:=(digs 256 m).length-1) (by decide) (by omega)
 rw [Nat.mod_eq_of_lt ht.2]at hg
 have hl:0<(⟨(magL m).toArray⟩:ByteArray).data.toList.length:=by show 0<(magL m).length;rw [Qdf];exact hp
 refine⟨_,Qq6 _ 0 hl,?_⟩
 have e:(⟨(magL m).toArray⟩:ByteArray).data.toList[0]=UInt8.ofNat (m/256^((digs 256 m).length-1)):=by
  show(magL m)[0]'(by rw [Qdf];exact hp)=_
  have:(magL m)[0]? =some (UInt8.ofNat (m/256^((digs 256 m).length-1))):=by
   rw [magL,List.getElem?_map,List.getElem?_reverse (by omega),Nat.sub_zero,hg];rfl
  exact Option.some.inj (by rw [←this,List.getElem?_eq_getElem])
 rw [e,UInt8.toNat_ofNat_of_lt' ht.2]
def Qhy (n:Int):PV:=if 65536<blen n.natAbs then .tup [wPV 0,.int .i64 7]else .tup [wPV n,.int .i64 0]
theorem Q9c:wPV 0= .agg [.bool false,.str ⟨#[]⟩]:=by simp [wPV,magL,Qax]
end Go.Proofs.YtciddhkfbgkejaaGreatDoor

namespace Go.Vl
open Go.RowKit
theorem Qdi (n:Nat):IntKind.u64.wrap (n:Int)=((n%18446744073709551616:Nat):Int):=by
 simp [IntKind.wrap,IntKind.signed,IntKind.bits]
theorem Qh6 (n:Nat):(n:Int).fdiv (2^min 32 64)=((n/4294967296:Nat):Int):=by
 rw [Int.fdiv_eq_ediv_of_nonneg _ (by decide)]
 rfl
theorem Zl2 (n:Nat):IntKind.u64.wrap ((BitVec.ofInt 64 (n:Int) &&& BitVec.ofInt 64 4294967295).toNat:Int)=((n%4294967296:Nat):Int):=by
 rw [Qdi]
 congr 1
 rw [BitVec.toNat_and]
 have h1:(BitVec.ofInt 64 (n:Int)).toNat=n%18446744073709551616:=by simp
 have h2:(BitVec.ofInt 64 4294967295).toNat=2^32-1:=by decide
 rw [h1,h2,Nat.and_two_pow_sub_one_eq_mod]
 omega
theorem Zft {P:Program} {t:TypeId} (n:Nat):Qbz .and t P (.int .u64 (n:Int)) (.int .u64 4294967295)=some (.int .u64 ((n%4294967296:Nat):Int)):=by
 rw [Zor]
 exact congrArg (fun z=>some (PV.int .u64 z)) (Zl2 n)
attribute [go_sem high] Zft
theorem Zpd {x y:Nat} (hx:x<18446744073709551616) (hy:y<18446744073709551616):
  ((x/4294967296*(y/4294967296)%18446744073709551616+(x/4294967296*(y%4294967296)%18446744073709551616+(x%4294967296*(y%4294967296)%18446744073709551616)/4294967296)%18446744073709551616/4294967296)%18446744073709551616+
   ((x/4294967296*(y%4294967296)%18446744073709551616+(x%4294967296*(y%4294967296)%18446744073709551616)/4294967296)%18446744073709551616%4294967296+x%4294967296*(y/4294967296)%18446744073709551616)%18446744073709551616/4294967296)%18446744073709551616=x*y/18446744073709551616:=by
 have a1:x/4294967296≤4294967295:=by omega
 have a0:x%4294967296≤4294967295:=by omega
 have b1:y/4294967296≤4294967295:=by omega
 have b0:y%4294967296≤4294967295:=by omega
 have ex:x=x/4294967296*4294967296+x%4294967296:=by omega
 have ey:y=y/4294967296*4294967296+y%4294967296:=by omega
 have hxy:x*y=x/4294967296*(y/4294967296)*18446744073709551616+(x/4294967296*(y%4294967296)+x%4294967296*(y/4294967296))*4294967296+x%4294967296*(y%4294967296):=by
  generalize x/4294967296=p at*
  generalize x%4294967296=q at*
  generalize y/4294967296=r at*
  generalize y%4294967296=s at*
  subst ex ey
  simp only [Nat.add_mul,Nat.mul_add]
  rw [show p*4294967296*(r*4294967296)=p*r*18446744073709551616 by rw [Nat.mul_mul_mul_comm]]
  rw [show p*4294967296*s=p*s*4294967296 by rw [Nat.mul_right_comm],show q*(r*4294967296)=q*r*4294967296 by rw [Nat.mul_assoc]]
  omega
 have hlt:x*y≤18446744073709551615*18446744073709551615:=Nat.mul_le_mul (by omega) (by omega)
 have h11:=Nat.mul_le_mul a1 b1
 have h10:=Nat.mul_le_mul a1 b0
 have h01:=Nat.mul_le_mul a0 b1
 have h00:=Nat.mul_le_mul a0 b0
 rw [hxy]at hlt ⊢
 generalize x/4294967296*(y/4294967296)=P at*
 generalize x/4294967296*(y%4294967296)=Q at*
 generalize x%4294967296*(y/4294967296)=R at*
 generalize x%4294967296*(y%4294967296)=W at*
 clear hxy ex ey a1 a0 b1 b0
 omega
end Go.Vl

namespace Go.Proofs.YtciddhkfbgkejaaGreatDoor
open Go.Vl Go.RowKit
theorem Qr9 {w:World} {im:Im} {k1 k2 k3:IntKind} {x y z:Int} {us:List Value} (h:RepL w im [.int k1 x,.int k2 y,.int k3 z] us):us=[.int k1 x,.int k2 y,.int k3 z]:=by
 cases h with
 |cons _ u _ us h t=>
 cases h
 cases t with
 |cons _ u _ us h t=>
 cases h
 cases t with
 |cons _ u _ us h t=>
 cases h
 cases t
 rfl
theorem Qp0 (x y c:Nat) (hc:c≤1):Qag Tryz.prog 216 [.int .u64 (x:Int),.int .u64 (y:Int),.int .u64 (c:Int)] (.tup [.int .u64 (((x+y+c)%18446744073709551616:Nat):Int),.int .u64 (((x+y+c)/18446744073709551616:Nat):Int)]):=by
 refine .inr ⟨by kernel_rfl,rfl,fun w im us hr=> ?_⟩
 rw [Qr9 hr]
 refine⟨.tuple #[.int .u64 (((x+y+c)%18446744073709551616:Nat):Int),.int .u64 (((x+y+c)/18446744073709551616:Nat):Int)],?_,.tup _ [_,_] (.cons _ _ _ _ (.int _ _) (.cons _ _ _ _ (.int _ _) .nil))⟩
 rw [run_callFunc_extern Tryz.func216 (by kernel_rfl) (by kernel_rfl) (by kernel_rfl) (e:=add64Entry) (by kernel_rfl),run_add64 x y c (by omega) (by omega) (by omega) (by omega)]
 simp only [Result.andThen]
 congr 5<;>omega
theorem Q6n (x y b:Nat) (hb:b≤1):Qag Tryz.prog 217 [.int .u64 (x:Int),.int .u64 (y:Int),.int .u64 (b:Int)] (.tup [.int .u64 (((x+18446744073709551616-y-b)%18446744073709551616:Nat):Int),.int .u64 ((if x<y+b then 1 else 0:Nat):Int)]):=by
 refine .inr ⟨by kernel_rfl,rfl,fun w im us hr=> ?_⟩
 rw [Qr9 hr]
 refine⟨.tuple #[.int .u64 (((x+18446744073709551616-y-b)%18446744073709551616:Nat):Int),.int .u64 ((if x<y+b then 1 else 0:Nat):Int)],?_,.tup _ [_,_] (.cons _ _ _ _ (.int _ _) (.cons _ _ _ _ (.int _ _) .nil))⟩
 rw [run_callFunc_extern Tryz.func217 (by kernel_rfl) (by kernel_rfl) (by kernel_rfl) (e:=sub64Entry) (by kernel_rfl),run_sub64 x y b hb]
 rfl
end Go.Proofs.YtciddhkfbgkejaaGreatDoor
