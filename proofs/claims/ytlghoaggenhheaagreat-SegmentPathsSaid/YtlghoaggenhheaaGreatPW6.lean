/-
  PA6, Bx, PA7, PA8, Dt, PA9, Db, PA10, Bw, PW1, PW2, PW3, PW4, PW5, PW6 (merged for the claim).
-/
import Derived.Test.YtlghoaggenhheaaGreatUW
import Derived.Shelf.Spec.BitsCarry
set_option linter.unusedSimpArgs false
set_option linter.unusedVariables false
namespace Go.Proofs.YtlghoaggenhheaaGreat
open Go.Vl Go.RowKit Go.Dg
theorem Qqs {a b:Nat} (h:a≤b):(digs E9 a).length≤(digs E9 b).length:=
 (Qar E9_2 a _).2 (Nat.lt_of_le_of_lt h (Qa2 E9_2 b))
theorem Zdh {m:Nat} (h:m≠0):0<(digs E9 m).length:=List.length_pos_iff.2 (mt (Qbo E9_2).1 h)
theorem Zk4 (n:Int):Qae Tryz.prog 65 [rI n] (rI (-n)):=by
 refine Qab (tb:=[]) 9 [.cell 2 59] [0,1,2] mixed Tryz.func65 rfl (by kernel_rfl) ?_;simp -implicitDefEqProofs only [go_sem,seval,rI,di];refine Qag _ _ _ _ _ _ _ _ _ (Qgu _ n.natAbs) ?_;have e:(if(!decide (n<0))=true then -(n.natAbs:Int)else(n.natAbs:Int))= -n:=by
  by_cases h:n<0
  ·simp [h];omega
  ·simp [h];omega
 rw [e];simp -implicitDefEqProofs only [go_sem,seval,rI,di]
theorem Qsj (n:Int):Qae Tryz.prog 101 [rI n] (.int .i64 n.sign):=by
 refine Qab (tb:=[]) 9 [.tmp 2] [0,1,2,6,8] mixed Tryz.func101 rfl (by kernel_rfl) ?_;by_cases h0:n=0
 ·subst h0;have hz:(((0:Nat):Int)==0)=true:=rfl;simp -implicitDefEqProofs only [go_sem,seval,rI,di,Int.natAbs_zero,Qa3,List.map_nil,List.length_nil,hz];rfl
 ·have h1:(((digs E9 n.natAbs).length:Int)==0)=false:=by
   have:=Zdh (show n.natAbs≠0 by omega);simp only [beq_eq_false_iff_ne,ne_eq];omega
  by_cases h:n<0
  ·have hd:decide (n<0)=true:=by simp [h]
   simp -implicitDefEqProofs only [go_sem,seval,rI,di,List.length_map,h1,hd];rw [Int.sign_eq_neg_one_of_neg h]
  ·have hd:decide (n<0)=false:=by simp [h]
   simp -implicitDefEqProofs only [go_sem,seval,rI,di,List.length_map,h1,hd];rw [Int.sign_eq_one_of_pos (by omega)]
theorem Q51 (x y:Int) (hl:(digs E9 (x.natAbs+y.natAbs)).length≤1000000000):Qae Tryz.prog 66 [rI x,rI y] (rI (x+y)):=by
 have hx:(digs E9 x.natAbs).length≤1000000000:=Nat.le_trans (Qqs (Nat.le_add_right _ _)) hl;have hy:(digs E9 y.natAbs).length≤1000000000:=Nat.le_trans (Qqs (Nat.le_add_left _ _)) hl;refine Qab (tb:=[]) 40 [.cell 4 59] [0,1,2,3,4,9,23] mixed Tryz.func66 rfl (by kernel_rfl) ?_;cases hs:(decide (x<0)==decide (y<0))with
 |true=>
  simp -implicitDefEqProofs only [go_sem,seval,rI,di,hs];refine Qag _ _ _ _ _ _ _ _ _ (Zmy _ _ hl) ?_;simp -implicitDefEqProofs only [go_sem,seval,di];refine Qag _ _ _ _ _ _ _ _ _ (Qgu _ _) ?_;have e:(if decide (x<0)=true then -((x.natAbs+y.natAbs:Nat):Int)else((x.natAbs+y.natAbs:Nat):Int))=x+y:=by
   by_cases h:x<0<;>by_cases h':y<0<;>simp [h,h']at hs ⊢ <;>omega
  rw [e];simp -implicitDefEqProofs only [go_sem,seval,rI,di];exact Qad _ _ (by kernel_rfl)
 |false=>
  simp -implicitDefEqProofs only [go_sem,seval,rI,di,hs];refine Qag _ _ _ _ _ _ _ _ _ (Qsh _ _ hx) ?_;by_cases hc:y.natAbs≤x.natAbs
  ·have hc':(0≤cmpN x.natAbs y.natAbs)=True:=by simp [cmpN];omega
   simp -implicitDefEqProofs only [go_sem,seval,hc'];refine Qag _ _ _ _ _ _ _ _ _ (Qsi _ _ hc hx) ?_;simp -implicitDefEqProofs only [go_sem,seval,di];refine Qag _ _ _ _ _ _ _ _ _ (Qgu _ _) ?_;have e:(if decide (x<0)=true then -((x.natAbs-y.natAbs:Nat):Int)else((x.natAbs-y.natAbs:Nat):Int))=x+y:=by
    by_cases h:x<0<;>by_cases h':y<0<;>simp [h,h']at hs ⊢ <;>omega
   rw [e];simp -implicitDefEqProofs only [go_sem,seval,rI,di];exact Qad _ _ (by kernel_rfl)
  ·have hc':(0≤cmpN x.natAbs y.natAbs)=False:=by simp [cmpN];omega
   simp -implicitDefEqProofs only [go_sem,seval,hc'];refine Qag _ _ _ _ _ _ _ _ _ (Qsi _ _ (Nat.le_of_lt (Nat.lt_of_not_le hc)) hy) ?_;simp -implicitDefEqProofs only [go_sem,seval,di];refine Qag _ _ _ _ _ _ _ _ _ (Qgu _ _) ?_;have e:(if decide (y<0)=true then -((y.natAbs-x.natAbs:Nat):Int)else((y.natAbs-x.natAbs:Nat):Int))=x+y:=by
    by_cases h:x<0<;>by_cases h':y<0<;>simp [h,h']at hs ⊢ <;>omega
   rw [e];simp -implicitDefEqProofs only [go_sem,seval,rI,di];exact Qad _ _ (by kernel_rfl)
theorem Qqt (x y:Int) (hl:(digs E9 (x.natAbs+y.natAbs)).length≤1000000000):Qae Tryz.prog 89 [rI x,rI y] (rI (x-y)):=by
 refine Qab (tb:=[]) 9 [.cell 4 59] [0,1,2,3,4] mixed Tryz.func89 rfl (by kernel_rfl) ?_;simp -implicitDefEqProofs only [go_sem,seval,rI,di];refine Qag _ _ _ _ _ _ _ _ _ (Zk4 y) ?_;simp -implicitDefEqProofs only [go_sem,seval,rI,di];refine Qag _ _ _ _ _ _ _ _ _ (Q51 x (-y) (by rw [Int.natAbs_neg];exact hl)) ?_;simp -implicitDefEqProofs only [go_sem,seval,rI,di,Int.sub_eq_add_neg];exact Qad _ _ (by kernel_rfl)
theorem Qzx (x y:Int) (hl:(digs E9 x.natAbs).length+(digs E9 y.natAbs).length≤1000000000):Qae Tryz.prog 61 [rI x,rI y] (rI (x*y)):=by
 refine Qab (tb:=[]) 16 [.cell 4 59] [0,1,2,3,4] mixed Tryz.func61 rfl (by kernel_rfl) ?_;simp -implicitDefEqProofs only [go_sem,seval,rI,di];refine Qag _ _ _ _ _ _ _ _ _ (Qzu _ _ hl) ?_;simp -implicitDefEqProofs only [go_sem,seval,di];refine Qag _ _ _ _ _ _ _ _ _ (Qgu _ _) ?_;have e:(if(!decide (x<0)==decide (y<0))=true then -((x.natAbs*y.natAbs:Nat):Int)else((x.natAbs*y.natAbs:Nat):Int))=x*y:=by
  rw [Int.natCast_mul];by_cases h:x<0<;>by_cases h':y<0
  ·simp [h,h',Int.neg_mul,Int.mul_neg,Int.ofNat_natAbs_of_nonpos (Int.le_of_lt h),Int.ofNat_natAbs_of_nonpos (Int.le_of_lt h')]
  ·simp [h,h',Int.neg_mul,Int.mul_neg,Int.ofNat_natAbs_of_nonpos (Int.le_of_lt h),Int.natAbs_of_nonneg (Int.not_lt.1 h')]
  ·simp [h,h',Int.neg_mul,Int.mul_neg,Int.natAbs_of_nonneg (Int.not_lt.1 h),Int.ofNat_natAbs_of_nonpos (Int.le_of_lt h')]
  ·simp [h,h',Int.natAbs_of_nonneg (Int.not_lt.1 h),Int.natAbs_of_nonneg (Int.not_lt.1 h')]
 rw [e];simp -implicitDefEqProofs only [go_sem,seval,rI,di];exact Qad _ _ (by kernel_rfl)
theorem Q1v (x y:Int) (hl:(digs E9 (x.natAbs+y.natAbs)).length≤1000000000):Qae Tryz.prog 64 [rI x,rI y] (.int .i64 (x-y).sign):=by
 refine Qab (tb:=[]) 9 [.tmp 4] [0,1,2,3,4] mixed Tryz.func64 rfl (by kernel_rfl) ?_;simp -implicitDefEqProofs only [go_sem,seval,rI,di];refine Qag _ _ _ _ _ _ _ _ _ (Qqt x y hl) ?_;simp -implicitDefEqProofs only [go_sem,seval,rI,di];refine Qag _ _ _ _ _ _ _ _ _ (Qsj (x-y)) ?_;simp -implicitDefEqProofs only [go_sem,seval]
theorem Zso (n:Nat) (h:n<9223372036854775809):Qdl [n%E9,n/E9%E9,n/E9/E9]=digs E9 n:=by
 have e: [n%E9,n/E9%E9,n/E9/E9]=lows E9 n 3:=by
  have h3:n/E9/E9=n/E9^2%E9:=by
   rw [Nat.div_div_eq_div_mul,show E9*E9=E9^2 from rfl];exact(Nat.mod_eq_of_lt (Nat.div_lt_of_lt_mul (Nat.lt_trans h (by decide)))).symm
  rw [h3];simp [lows,List.range_succ]
 rw [e,Qbt E9_2,Nat.mod_eq_of_lt (Nat.lt_trans h (by decide))]
theorem Q52 {n:Nat} (h:n<9223372036854775809):(digs E9 n).length≤3:=(Qar E9_2 n 3).2 (Nat.lt_trans h (by decide))
theorem Zmz:rI 0= .agg [.bool false,.slc []]:=by simp [rI,di,Qa3]
theorem Qdg (n:Int) (h1: -9223372036854775808≤n) (h2:n≤9223372036854775807):Qae Tryz.prog 50 [.int .i64 n] (rI n):=by
 refine Qab (tb:=[]) 32 [.cell 2 59] [0,2,4] mixed Tryz.func50 rfl (by kernel_rfl) ?_;by_cases hn:0≤n
 ·obtain⟨m,rfl⟩: ∃m:Nat,n=m:=⟨n.toNat,by omega⟩;have h0:((m:Int)≥0)=True:=by simp
  have e1:=wrapn (n:=m/1000000000) (by omega);have e2:=wrapn (n:=m/1000000000/1000000000) (by omega);simp -implicitDefEqProofs only [go_sem,seval,h0,Qsf,Qsg,e1,e2];refine Qag _ _ _ _ _ _ _ _ _ (Qlb [m%E9,m/E9%E9,m/E9/E9] (by simp [maxLen])) ?_;rw [Zso m (by omega)];simp -implicitDefEqProofs only [go_sem,seval,di];refine Qag _ _ _ _ _ _ _ _ _ (Qgu _ m) ?_;simp -implicitDefEqProofs only [go_sem,seval,rI,di]
 ·obtain⟨m,rfl⟩: ∃m:Nat,n= -m:=⟨n.natAbs,by omega⟩;have h0:(0≤ -(m:Int))=False:=by simp;omega
  have q1:Int.tmod (-(m:Int)) 1000000000= -((m%1000000000:Nat):Int):=by rw [Int.neg_tmod,Qsf]
  have q2:Int.tdiv (-(m:Int)) 1000000000= -((m/1000000000:Nat):Int):=by rw [Int.neg_tdiv,Qsg]
  have q3:Int.tmod (-((m/1000000000:Nat):Int)) 1000000000= -((m/1000000000%1000000000:Nat):Int):=by rw [Int.neg_tmod,Qsf]
  have q4:Int.tdiv (-((m/1000000000:Nat):Int)) 1000000000= -((m/1000000000/1000000000:Nat):Int):=by rw [Int.neg_tdiv,Qsg]
  have e1:IntKind.i64.wrap (-((m/1000000000:Nat):Int))= -((m/1000000000:Nat):Int):=Qai (by omega) (by omega);have e2:IntKind.i64.wrap (-((m/1000000000/1000000000:Nat):Int))= -((m/1000000000/1000000000:Nat):Int):=Qai (by omega) (by omega);have n1:IntKind.i64.wrap (0- -((m%1000000000:Nat):Int))=((m%1000000000:Nat):Int):=by rw [Qai (by omega) (by omega)];omega
  have n2:IntKind.i64.wrap (0- -((m/1000000000%1000000000:Nat):Int))=((m/1000000000%1000000000:Nat):Int):=by rw [Qai (by omega) (by omega)];omega
  have n3:IntKind.i64.wrap (0- -((m/1000000000/1000000000:Nat):Int))=((m/1000000000/1000000000:Nat):Int):=by rw [Qai (by omega) (by omega)];omega
  simp -implicitDefEqProofs only [go_sem,seval,h0,q1,q2,e1,q3,q4,e2,n1,n2,n3];refine Qag _ _ _ _ _ _ _ _ _ (Qlb [m%E9,m/E9%E9,m/E9/E9] (by simp [maxLen])) ?_;rw [Zso m (by omega)];simp -implicitDefEqProofs only [go_sem,seval,di];refine Qag _ _ _ _ _ _ _ _ _ (Qgu _ m) ?_;simp -implicitDefEqProofs only [go_sem,seval,rI,di];have hsub:=Qqt (-(m:Int)) 0 (by simp;exact Nat.le_trans (Q52 (by omega)) (by decide));rw [Int.sub_zero,Zmz]at hsub;refine Qag _ _ _ _ _ _ _ _ _ hsub ?_;simp -implicitDefEqProofs only [go_sem,seval,rI,di]
end Go.Proofs.YtlghoaggenhheaaGreat

namespace Go.Vl
open Go.RowKit
theorem Zl1 {st:St} {t:Nat} (ht:st.var t=some .nilS):Le st (st.setVar t (.slc [])):=by
 rintro C a w ⟨ρ,im,h⟩;have hv:=(h.var t _ ht).nilS_inv;refine⟨ρ,im,h.root,h.nt,h.dfr,h.imc,?_,h.rho,h.box,h.inj⟩;intro t' v' hv';simp only [St.setVar,upd]at hv';split at hv'
 ·rename_i e;cases hv';subst e;rw [hv];exact .ext _ _ (.slcNil 0 (Nat.zero_le _))
 ·exact h.var t' v' hv'
theorem Qy9 {vs:List (Nat×PV)} {bs:List (Nat×Box)} {o:List (List PV)} {y:Yl} (t:Nat) (ht:lkp vs t=some .nilS):
  Le (St.ofG vs bs o y) (St.ofG ((t,.slc [])::vs) bs o y):=Zl1 (st:=St.ofG vs bs o y) ht
theorem Zl2 (P:Program) (p:Nat×List (Nat×Nat)×List (Nat×Nat)) (tb:Tab) (id:Nat) (bx:Bx) (fo:Operand) (as0:Array Operand) (ts:Array TypeId) (f:FuncId) (first cap args:List PV):Qbb P (p::tb) id (.call ⟨.value fo,as0,ts⟩) (.fn f first cap::args) bx=
  (match lkp (p::tb) id with
   |none=>M.bind (Qf6 first) (fun x=> .bind (Qg1 args) fun y=> .bind (Qf6 cap) fun z=> .pure (.call f (x.1++y.1++z.1) (x.2++y.2++z.2))) bx
   |some t=>Qg2 t.1 t.2 f (first++args++cap) bx):=by
 cases h:lkp (p::tb) id with
 |none=>rw [Zlz (h:=h)]
 |some t=>obtain⟨θ,ν⟩:=t;rw [Zl0 (h:=h)]
theorem ble6:Nat.ble 1000000 1000000=true:=rfl
theorem Zvt:Nat.ble 1000000 1000001=true:=rfl
attribute [go_sem] Zl2 ble6 Zvt
theorem Zvu (P:Program) (t:TypeId) (x y:ByteArray):Qb1 .eql t P (.str x) (.str y)=some (.bool (x.data.toList==y.data.toList)):=by
 rw [Zrn,←Go.ByteArray.toList_eq x,←Go.ByteArray.toList_eq y];rfl
theorem Zvv (P:Program) (t:TypeId) (x y:ByteArray):Qb1 .neq t P (.str x) (.str y)=some (.bool !(x.data.toList==y.data.toList)):=by
 rw [Zrn,←Go.ByteArray.toList_eq x,←Go.ByteArray.toList_eq y];rfl
attribute [go_sem high] Zvu Zvv
def bnum (l:List UInt8):Nat:=l.foldl (fun n b=>n*256+b.toNat) 0
theorem Qnm (l:List UInt8) (b:UInt8):bnum (l++[b])=bnum l*256+b.toNat:=by simp [bnum]
theorem Qwq: ∀(n:Nat) (l:List UInt8),l.length=n→bnum l<256^n
 |0,l,h=>by obtain rfl:=List.length_eq_zero_iff.1 h;simp [bnum]
 |n+1,l,h=>by
  have hne:l≠ []:=by intro e;rw [e]at h;simp at h
  have e:=List.dropLast_concat_getLast hne;have ih:=Qwq n l.dropLast (by simp [h]);rw [←e,Qnm,Nat.pow_succ];have:=(l.getLast hne).toNat_lt;omega
theorem Qjg (s:ByteArray):s.size=s.data.toList.length:=rfl
theorem Qt8 (s:ByteArray) (k:Nat) (h:k<s.data.toList.length):s[k]? =some s.data.toList[k]:=by
 have h':k<s.size:=h;rw [getElem?_pos s k h'];rfl
end Go.Vl

namespace Go.Proofs.YtlghoaggenhheaaGreat
open Go.Vl Go.RowKit Go.Dg
abbrev rB (E:List Nat):Box:={els:=E.map fI,esz:=1,ety:=3,fro:=0,live:=true,arr:=true}
theorem Zdi (E:List Nat) (n:Nat) (hn:n≤E.length) (hE:E.length≤maxLen):
  Qdb Tryz.prog 88 [.bs 1000000 1 0 n] [(1000000,rB E)] (.bs 1000000 1 0 (Qdl (E.take n)).length) [(1000000,rB E)]:=by
 have hm:=Qgf;refine Qcn (tb:=[]) 21 [.tmp 2] [0,2,14] mixed Tryz.func88 rfl (by kernel_rfl) (by kernel_rfl) (by kernel_rfl) (by kernel_rfl) (by rfl) ?_;simp -implicitDefEqProofs only [go_sem,seval];refine Qaq mixed (fun k:{k:Nat // k≤n∧Qdl (E.take k)=Qdl (E.take n)}=>St.of [(0,.bs 1000000 1 0 k.1),(2,.nilS)] [(1000000,rB E)]) (fun k=>k.1) ⟨n,Nat.le_refl _,rfl⟩ ?_ ?_
 ·refine Qaj (θ:=[(1000000,1000000)]) rfl ?_ ?_
  ·simp [Qac,lkp,ren1,ren0]
  ·simp [Qal,lkp,Box.renames]
 ·rintro⟨k,hk,ht⟩;cases k with
  |zero=>
   have h1:((0:Int)<((0:Nat):Int))=False:=by simp
   simp -implicitDefEqProofs only [go_sem,seval,h1];rw [←ht];refine Qbv (.inl rfl) ?_;simp -implicitDefEqProofs only [go_sem,seval];refine Qaj (θ:=[(1000000,1000000)]) rfl ?_ ?_
   ·simp [Qac,lkp,ren1,ren0,Qdl]
   ·simp [Qal,lkp,Box.renames]
  |succ k=>
   have h1:((0:Int)<((k+1:Nat):Int))=True:=by simp
   have h2:(0≤(k:Int))=True:=by simp
   have hw:=Qj0 (n:=k) (by omega);have hlt:k<E.length:=by omega
   have hget:(E.map fI)[k]? =some (.int .i64 (E[k]:Int)):=by simp [hlt]
   have hcut:E.take (k+1)=E.take k++[E[k]]:=by rw [List.take_add_one];simp [hlt]
   have h4:((k:Int)<((k+1:Nat):Int))=True:=by simp;omega
   cases hd:((E[k]:Int)==0)with
   |true=>
    have hd0:E[k]=0:=by simpa using hd
    have h3:((k:Int)≤((k+1:Nat):Int))=True:=by simp;omega
    simp -implicitDefEqProofs only [go_sem,seval,h1,h2,hw,hget,hd,Int.toNat_natCast,h3,h4,rB];refine⟨⟨k,by omega,?_⟩,by simp,?_⟩
    ·rw [←ht,hcut,hd0,Qc0]
    ·refine Qaj (θ:=[(1000000,1000000)]) rfl ?_ ?_
     ·simp [Qac,lkp,ren1,ren0]
     ·simp [Qal,lkp,Box.renames]
   |false=>
    have hd0:E[k]≠0:=by simpa using hd
    simp -implicitDefEqProofs only [go_sem,seval,h1,h2,hw,hget,hd,Int.toNat_natCast,h4,rB];rw [←ht,hcut,Qfd _ hd0];refine Qbv (.inl rfl) ?_;simp -implicitDefEqProofs only [go_sem,seval];refine Qaj (θ:=[(1000000,1000000)]) rfl ?_ ?_
    ·simp [Qac,lkp,ren1,ren0];omega
    ·simp [Qal,lkp,Box.renames]
end Go.Proofs.YtlghoaggenhheaaGreat

namespace Go.Dg
variable {B:Nat}
theorem Q5v (v A x:Nat) (b:Nat) (hx:x<b) (h:v=A*b+x):(A%256*b+x)/256=v/256%b∧(A%256*b+x)%256=v%256:=by
 subst h;have e:A*b+x=(A/256*b)*256+(A%256*b+x):=by
  have:A=A/256*256+A%256:=by omega
  conv=>lhs;rw [this]
  rw [Nat.add_mul,Nat.mul_right_comm];omega
 have hr:A%256*b+x<256*b:=by
  have h1:A%256≤255:=by omega
  have:=Nat.mul_le_mul_right b h1;omega
 rw [e];generalize hR:A%256*b+x=R at*;constructor
 ·rw [Nat.add_comm,Nat.add_mul_div_right _ _ (by decide),Nat.add_comm,Nat.mul_comm (A/256) b,Nat.mul_add_mod];exact(Nat.mod_eq_of_lt (Nat.div_lt_of_lt_mul hr)).symm
 ·omega
theorem Qzp (v i:Nat):v/256/B^i=v/B^i/256:=by rw [Nat.div_div_eq_div_mul,Nat.mul_comm,←Nat.div_div_eq_div_mul]
theorem Qjz {V S N i d:Nat} (hi:i<N) (hd:S/B^i%B=d):(mix B V S N (i+1)).set i d=mix B V S N i:=by
 apply List.ext_getElem?;intro j;rw [List.getElem?_set];by_cases hj:j<N
 ·rw [Qc1 _ _ _ _ _ hj,Qc1 _ _ _ _ _ hj,Qbl];by_cases e:i=j
  ·subst e;simp [hj,hd]
  ·simp only [e,if_false];by_cases hlt:j<i
   ·rw [if_pos (by omega),if_pos hlt]
   ·rw [if_neg (by omega),if_neg hlt]
 ·rw [List.getElem?_eq_none (by rw [Qbl];omega),List.getElem?_eq_none (by rw [Qbl];omega),Qbl];simp;omega
theorem Quj (v N n:Nat) (h:n≤N):(lows B v N).take n=lows B v n:=by
 apply List.ext_getElem?;intro j;by_cases hj:j<n
 ·rw [List.getElem?_take_of_lt hj,Qb2 _ _ _ (by omega),Qb2 _ _ _ hj]
 ·rw [List.getElem?_eq_none (by rw [List.length_take,Qak];omega),List.getElem?_eq_none (by rw [Qak];omega)]
end Go.Dg

namespace Go.Proofs.YtlghoaggenhheaaGreat
open Go.Vl Go.RowKit Go.Dg
abbrev f8:Nat→PV:=fun d:Nat=>PV.int .u8 (d:Int)
def magL (n:Nat):List UInt8:=(digs 256 n).reverse.map fun d=>UInt8.ofNat d
def wPV (n:Int):PV:= .agg [.bool (decide (n<0)),.str ⟨(magL n.natAbs).toArray⟩]
theorem Qqu (l:List Nat):Qey (l.map f8)=some (l.map fun d=>UInt8.ofNat d):=by
 induction l with
 |nil=>rfl
 |cons d l ih=>simp only [List.map_cons,Qey,ih];rfl
theorem Qgv {n:Nat} (h:n<256):IntKind.u8.wrap (n:Int)=(n:Int):=by
 simp [IntKind.wrap,IntKind.signed,IntKind.bits];omega
theorem Zm0 (n:Nat):Int.tmod (n:Int) 256=((n%256:Nat):Int):=by
 rw [Int.tmod_eq_emod_of_nonneg (by omega)];rfl
theorem Zm1 (n:Nat):Int.tdiv (n:Int) 256=((n/256:Nat):Int):=by
 rw [Int.tdiv_eq_ediv_of_nonneg (by omega)];rfl
theorem Zk5 (l:List Nat):(((l.map f8).flatMap PV.cells).all PV.okCell)=true:=by
 rw [List.all_flatMap,List.all_map,List.all_eq_true];intro _ _;rfl
theorem Zdj (B n:Nat):lows B n 0=[]:=rfl
theorem Zv1 (n:Int) (hl:(digs E9 n.natAbs).length≤1000000) (hl2:(digs 256 n.natAbs).length≤100000000):Qae Tryz.prog 57 [rI n] (wPV n):=by
 have hm:=Qgf

 refine Qab (tb:=[(1201,[(1000000,202)],[])]) 62 [.cell 2 51] [0,1,2,3,4,5,6,7,8,14,19,47] mixed Tryz.func57 rfl (by kernel_rfl) ?_;have hs1:((digs E9 n.natAbs).length*8≤140737488355328)=True:=by simp only [eq_iff_iff,iff_true];omega
 have hs2:((digs E9 n.natAbs).length≤maxLen)=True:=by simp only [eq_iff_iff,iff_true];unfold maxLen;omega
 have hok:((digs E9 n.natAbs).map fI).all (fun e=>e.cells.length==1&&e.cells.all PV.okCell)=true:=by rw [List.all_map,List.all_eq_true];intro _ _;rfl
 simp -implicitDefEqProofs only [go_sem,seval,rI,di,List.length_map,hs1,hs2,hok];generalize hX:n.natAbs=X at*;generalize hN:(digs E9 X).length=N at*;have hXN:lows E9 X N=digs E9 X:=by rw [←hN];exact Qhm E9_2 X
 refine Qaq mixed (fun k:{k:Nat // k≤(digs 256 X).length∧ ∀j,j<k→X/256^j≠0}=>St.of [(1,.bp 0 2 0 0),(2,.bp 1 2 0 0),(3,.bs 7 1 0 k.1),(4,.bs 202 1 0 (digs E9 (X/256^k.1)).length)]
   [(0,{els:=[.agg [.bool (decide (n<0)),di (digs E9 X)]],esz:=2,ety:=59,fro:=0,live:=true,arr:=false}),(1,{els:=[.agg [.bool false,.str ⟨#[]⟩]],esz:=2,ety:=51,fro:=0,live:=true,arr:=false}),
    (7,{els:=(lows 256 X k.1).map f8,esz:=1,ety:=5,fro:=0,live:=true,arr:=true}),(202,rB (lows E9 (X/256^k.1) N))]) (fun k=>X/256^k.1) ⟨0,Nat.zero_le _,by omega⟩ ?_ ?_
 ·refine Qci 3 7 1 5 rfl rfl rfl (by decide) [(0,0),(1,1),(7,7),(202,202)] rfl ?_ ?_
  ·simp [Qac,lkp,ren1,ren0,hN]
  ·simp only [Nat.pow_zero,Nat.div_one,hXN,Zdj];simp [Qal,lkp,Box.renames,di];exact⟨⟨rfl,rfl⟩,rfl,rfl⟩
 ·rintro⟨k,hk,hmore⟩;generalize hv:X/256^k=v at*;by_cases hz:v=0
  ·subst hz;have hlt:X<256^k:=by
    rcases Nat.lt_or_ge X (256^k)with h|h
    ·exact h
    ·have:=Nat.div_pos h (Nat.pow_pos (by decide));omega
   have hD:lows 256 X k=digs 256 X:=Qnx (by decide) hlt hmore;have hkD:(digs 256 X).length=k:=by rw [←hD,Qak]
   have hp:(0<((digs E9 0).length:Int))=False:=by rw [Qa3];simp
   have hw:IntKind.i64.wrap ((k:Int)-1)=(k:Int)-1:=Qai (by omega) (by omega);rw [hD];have hW:wPV n= .agg [.bool (decide (n<0)),.str ⟨((digs 256 X).reverse.map fun d=>UInt8.ofNat d).toArray⟩]:=by rw [wPV,magL,hX]
   rw [hW];generalize digs 256 X=D at*;simp -implicitDefEqProofs only [go_sem,seval,hp,rB,hw];refine Qaq mixed (fun i:{i:Nat // i≤k}=>St.of [(1,.bp 0 2 0 0),(2,.bp 1 2 0 0),(3,.bs 7 1 0 k),(7,.bs 8 1 0 (k-i.1)),(8,.int .i64 ((i.1:Int)-1))]
     [(0,{els:=[.agg [.bool (decide (n<0)),di (digs E9 X)]],esz:=2,ety:=59,fro:=0,live:=true,arr:=false}),(1,{els:=[.agg [.bool false,.str ⟨#[]⟩]],esz:=2,ety:=51,fro:=0,live:=true,arr:=false}),
      (7,{els:=D.map f8,esz:=1,ety:=5,fro:=0,live:=true,arr:=true}),(8,{els:=(D.drop i.1).reverse.map f8,esz:=1,ety:=5,fro:=0,live:=true,arr:=true})]) (fun i=>i.1) ⟨k,Nat.le_refl _⟩ ?_ ?_
   ·refine Qci 7 8 1 5 rfl rfl rfl (by decide) [(0,0),(1,1),(7,7),(8,8)] rfl ?_ ?_
    ·simp [Qac,lkp,ren1,ren0]
    ·simp [Qal,lkp,Box.renames,di,←hkD];exact⟨⟨rfl,rfl⟩,rfl,rfl⟩
   ·rintro⟨i,hi⟩;cases i with
    |zero=>
     have h1:((0:Int)≤((0:Nat):Int)-1)=False:=by simp
     have htk:(D.reverse.map f8).take k=D.reverse.map f8:=List.take_of_length_le (by simp;omega);simp -implicitDefEqProofs only [go_sem,seval,h1,Nat.sub_zero,List.drop_zero,List.length_map,List.length_reverse,hkD,htk,Qqu,di]
    |succ i=>
     have hs:(((i+1:Nat):Int)-1)=(i:Int):=by omega
     have h1:((0:Int)≤(i:Int))=True:=by simp
     have h2:((i:Int)<(k:Int))=True:=by simp;omega
     have w4:IntKind.i64.wrap ((i:Int)-1)=(i:Int)-1:=Qai (by omega) (by omega);have hget:(D.map f8)[i]? =some (.int .u8 ((D[i]'(by omega):Nat):Int)):=by rw [List.getElem?_map,List.getElem?_eq_getElem (by omega)];rfl
     have hdl:(D.drop (i+1)).length=k-(i+1):=by simp;omega
     have hdr:D.drop i=D[i]'(by omega)::D.drop (i+1):=List.drop_eq_getElem_cons (by omega);have q1:(k-(i+1)==k-(i+1))=true:=beq_self_eq_true _;have q2:(k-(i+1)+1≤140737488355328)=True:=by simp only [eq_iff_iff,iff_true];omega
     have q3:(k-(i+1)+1≤maxLen)=True:=by simp only [eq_iff_iff,iff_true];unfold maxLen;omega
     simp -implicitDefEqProofs only [go_sem,seval,hs,h1,h2,w4,hget,Int.toNat_natCast,List.length_map,List.length_reverse,hdl,q1,q2,q3,Zk5,Nat.mul_one];have q5:k-i=k-(i+1)+1:=by omega
     have q6:k-i-1=k-(i+1):=by omega
     have q7:(D.drop i).reverse.map f8=(D.drop (i+1)).reverse.map f8++[f8 (D[i]'(by omega))]:=by rw [hdr,List.reverse_cons,List.map_append];rfl
     refine⟨⟨i,by omega⟩,by simp only;omega,?_⟩;simp only [q6,q7];rw [q5];refine Qaj (θ:=[(0,0),(1,1),(7,7),(8,1706)]) rfl ?_ ?_
     ·simp [Qac,lkp,ren1,ren0]
     ·simp [Qal,lkp,Box.renames,di];exact⟨⟨rfl,rfl⟩,rfl,rfl⟩
  ·have hp:(0<((digs E9 v).length:Int))=True:=by have:=Zdh hz;simp;omega
   have hvX:v≤X:=by rw [←hv];exact Nat.div_le_self _ _
   have hnN:(digs E9 v).length≤N:=by rw [←hN];exact Qqs hvX
   have hnp:=Zdh hz;have hend:v/E9^(digs E9 v).length=0:=Qbf E9_2 (Nat.le_refl _);have hvlt:=Qa2 E9_2 v;generalize hnn:(digs E9 v).length=nn at*;have hw:IntKind.i64.wrap ((nn:Int)-1)=(nn:Int)-1:=Qai (by omega) (by omega);simp -implicitDefEqProofs only [go_sem,seval,hp,rB,hw];refine Qaq mixed (fun i:{i:Nat // i≤nn}=>St.of [(1,.bp 0 2 0 0),(2,.bp 1 2 0 0),(3,.bs 7 1 0 k),(4,.bs 202 1 0 nn),(5,.int .i64 ((v/E9^i.1%256:Nat):Int)),(6,.int .i64 ((i.1:Int)-1))]
     [(0,{els:=[.agg [.bool (decide (n<0)),di (digs E9 X)]],esz:=2,ety:=59,fro:=0,live:=true,arr:=false}),(1,{els:=[.agg [.bool false,.str ⟨#[]⟩]],esz:=2,ety:=51,fro:=0,live:=true,arr:=false}),
      (7,{els:=(lows 256 X k).map f8,esz:=1,ety:=5,fro:=0,live:=true,arr:=true}),(202,{els:=(mix E9 v (v/256) N i.1).map fI,esz:=1,ety:=3,fro:=0,live:=true,arr:=true})]) (fun i=>i.1) ⟨nn,Nat.le_refl _⟩ ?_ ?_
   ·refine Qaj (θ:=[(0,0),(1,1),(7,7),(202,202)]) rfl ?_ ?_
    ·simp [Qac,lkp,ren1,ren0,hend]
    ·have e:mix E9 v (v/256) N nn=lows E9 v N:=Qfj (by decide) (by rw [Qzp,hend]);simp only [e];simp [Qal,lkp,Box.renames,di];exact⟨⟨rfl,rfl⟩,rfl,rfl⟩
   ·rintro⟨i,hi⟩;cases i with
    |zero=>
     have h1:((0:Int)≤((0:Nat):Int)-1)=False:=by simp
     have hks:=Qak (B:=256) X k;have q1:(k==k)=true:=beq_self_eq_true k;have q2:(k+1≤140737488355328)=True:=by simp only [eq_iff_iff,iff_true];omega
     have q3:(k+1≤maxLen)=True:=by simp only [eq_iff_iff,iff_true];unfold maxLen;omega
     have q4:IntKind.u8.wrap ((v/E9^0%256:Nat):Int)=((v/E9^0%256:Nat):Int):=Qgv (Nat.mod_lt _ (by decide));simp -implicitDefEqProofs only [go_sem,seval,h1,List.length_map,hks,q1,q2,q3,q4,Zk5,Nat.mul_one];have e0:mix E9 v (v/256) N 0=lows E9 (v/256) N:=Qif _ _ _;rw [e0];have hlN:=Qak (B:=E9) (v/256) N;refine Qb8 _ _ _ _ _ _ _ _ _ (Zdi (lows E9 (v/256) N) nn (by omega) (by unfold maxLen;omega)) ?_;have hq:Qdl ((lows E9 (v/256) N).take nn)=digs E9 (v/256):=by
      rw [Quj _ _ _ hnN,Qbt E9_2,Nat.mod_eq_of_lt (Nat.lt_of_le_of_lt (Nat.div_le_self _ _) hvlt)]
     have hv1:X/256^(k+1)=v/256:=by rw [Nat.pow_succ,←Nat.div_div_eq_div_mul,hv]
     rw [hq];simp -implicitDefEqProofs only [go_sem,seval];refine⟨⟨k+1,(Qck (by decide) X k).2 (by rw [hv];exact hz),?_⟩,?_,?_⟩
     ·intro j hj;by_cases hjk:j<k
      ·exact hmore j hjk
      ·have:j=k:=by omega
       subst this;rw [hv];exact hz
     ·simp only [hv1];omega
     ·simp only [hv1,Qdn,hv];refine Qaj (θ:=[(0,0),(1,1),(7,1104),(202,202)]) rfl ?_ ?_
      ·simp [Qac,lkp,ren1,ren0]
      ·simp [Qal,lkp,Box.renames,di];exact⟨⟨rfl,rfl⟩,rfl,rfl⟩
    |succ i=>
     have hs:(((i+1:Nat):Int)-1)=(i:Int):=by omega
     have h1:((0:Int)≤(i:Int))=True:=by simp
     have h2:((i:Int)<(nn:Int))=True:=by simp;omega
     have hx:v/E9^i%E9<E9:=Nat.mod_lt _ (by decide);have hr:v/E9^(i+1)%256<256:=Nat.mod_lt _ (by decide);obtain⟨b1,b2⟩:=Q5v (v/E9^i) (v/E9^(i+1)) (v/E9^i%E9) E9 hx (by rw [Nat.mul_comm];exact Qi3 (by decide) v i);have hget:((mix E9 v (v/256) N (i+1)).map fI)[i]? =some (.int .i64 ((v/E9^i%E9:Nat):Int)):=by
      rw [List.getElem?_map,Qc1 _ _ _ _ _ (by omega),if_pos (by omega)];rfl
     have hset:=Qjz (B:=E9) (V:=v) (S:=v/256) (N:=N) (i:=i) (d:=v/E9^i/256%E9) (by omega) (by rw [Qzp]);generalize v/E9^i%E9=x at*;generalize v/E9^(i+1)%256=r at*;have w1:IntKind.i64.wrap ((r:Int)*1000000000)=(r:Int)*1000000000:=Qai (by omega) (by omega);have w2:IntKind.i64.wrap ((r:Int)*1000000000+(x:Int))=((r*E9+x:Nat):Int):=by
      simp only [E9]at*;rw [Qai (by omega) (by omega)];omega
     have w3:IntKind.i64.wrap (((r*E9+x)/256:Nat):Int)=(((r*E9+x)/256:Nat):Int):=wrapn (by simp only [E9]at*;omega);have w4:IntKind.i64.wrap ((i:Int)-1)=(i:Int)-1:=Qai (by omega) (by omega);have w5:IntKind.i64.wrap ((v/E9^i/256%E9:Nat):Int)=((v/E9^i/256%E9:Nat):Int):=by rw [←b1];exact w3
     simp -implicitDefEqProofs only [go_sem,seval,hs,h1,h2,hget,w1,w2,w4,Zm1,Zm0,Int.toNat_natCast,b1,b2];refine⟨⟨i,by omega⟩,by simp only;omega,?_⟩;refine Qaj (θ:=[(0,0),(1,1),(7,7),(202,202)]) rfl ?_ ?_
     ·simp [Qac,lkp,ren1,ren0]
     ·rw [w5,Qzt,hset];simp [Qal,lkp,Box.renames,di];exact⟨⟨rfl,rfl⟩,rfl,rfl⟩
end Go.Proofs.YtlghoaggenhheaaGreat

namespace Go.Dg
variable {B:Nat}

def blen (m:Nat):Nat:=if h:m=0 then 0 else blen (m/2)+1
termination_by m
decreasing_by exact Nat.div_lt_self (Nat.pos_of_ne_zero h) (by decide)
theorem Qhk:blen 0=0:=by unfold blen;simp
theorem Qhl {m:Nat} (h:m≠0):blen m=blen (m/2)+1:=by
  conv=>lhs;unfold blen
  simp [h]
theorem Qe1: ∀(k m:Nat),m/2^k≠0→blen m=blen (m/2^k)+k
  |0,m,_=>by simp
  |k+1,m,h=>by
    have e:m/2^(k+1)=m/2/2^k:=by rw [Nat.div_div_eq_div_mul,Nat.pow_succ,Nat.mul_comm]
    have hm:m≠0:=by intro h0;rw [h0]at h;simp at h
    rw [Qhl hm,e,Qe1 k (m/2) (by rw [←e];exact h)];omega
theorem Qd3: ∀(k m:Nat),m<2^k→blen m≤k
  |0,m,h=>by
        obtain rfl:m=0:=by simpa using h
        rw [Qhk];exact Nat.le_refl _
  |k+1,m,h=>by
    by_cases h0:m=0
    · rw [h0,Qhk];omega
    · rw [Qhl h0];have:=Qd3 k (m/2) (by rw [Nat.pow_succ]at h;omega);omega
theorem Qnn: ∀(k m:Nat),2^k≤m→k<blen m
  |0,m,h=>by
    have h0:m≠0:=by intro e;rw [e]at h;simp at h
    rw [Qhl h0];omega
  |k+1,m,h=>by
    have h0:m≠0:=by intro e;rw [e]at h;have:=Nat.pow_pos (n:=k+1) (show 0<2 by decide);omega
    rw [Qhl h0];have:=Qnn k (m/2) (by rw [Nat.pow_succ]at h;omega);omega
/-- The highest digit. -/
theorem Qel (hB:2≤B) {m:Nat} (h:m≠0):m/B^((digs B m).length-1)≠0∧m/B^((digs B m).length-1)<B:=by
  have hp:0<(digs B m).length:=List.length_pos_iff.2 (mt (Qbo hB).1 h);refine⟨(Qck hB m _).1 (by omega),?_⟩;have:=Qa2 hB m;have e:B^(digs B m).length=B^((digs B m).length-1)*B:=by rw [←Nat.pow_succ];congr 1;omega
  rw [e]at this;exact Nat.div_lt_of_lt_mul this
theorem Qza {m:Nat} (h:m≠0) (c:Nat) (hc:0<c):blen m=blen (m/(2^c)^((digs (2^c) m).length-1))+c*((digs (2^c) m).length-1):=by
  have hB:2≤2^c:=by
    have:=Nat.pow_le_pow_right (show 0<2 by decide) hc;simpa using this
  have:=Qel hB h;rw [←Nat.pow_mul]at this ⊢;exact Qe1 _ _ this.1
end Go.Dg

namespace Go.Proofs.YtlghoaggenhheaaGreat
open Go.Vl Go.RowKit Go.Dg
theorem Qd6 (m:Nat):(magL m).length=(digs 256 m).length:=by simp [magL]
theorem Q5y (m:Nat):(⟨(magL m).toArray⟩:ByteArray).size=(digs 256 m).length:=by rw [Qjg,←Qd6]
theorem Zde {m:Nat} (h:m≠0): ∃d:UInt8,(⟨(magL m).toArray⟩:ByteArray)[0]? =some d∧d.toNat=m/256^((digs 256 m).length-1):=by
 have hp:0<(digs 256 m).length:=List.length_pos_iff.2 (mt (Qbo (by decide)).1 h);have ht:=Qel (B:=256) (by decide) h;have hg:=Qat (B:=256) (n:=m) (k:=(digs 256 m).length-1) (by decide) (by omega);rw [Nat.mod_eq_of_lt ht.2]at hg;have hl:0<(⟨(magL m).toArray⟩:ByteArray).data.toList.length:=by show 0<(magL m).length;rw [Qd6];exact hp
 refine⟨_,Qt8 _ 0 hl,?_⟩;have e:(⟨(magL m).toArray⟩:ByteArray).data.toList[0]=UInt8.ofNat (m/256^((digs 256 m).length-1)):=by
  show(magL m)[0]'(by rw [Qd6];exact hp)=_;have:(magL m)[0]? =some (UInt8.ofNat (m/256^((digs 256 m).length-1))):=by
   rw [magL,List.getElem?_map,List.getElem?_reverse (by omega),Nat.sub_zero,hg];rfl
  exact Option.some.inj (by rw [←this,List.getElem?_eq_getElem])
 rw [e,UInt8.toNat_ofNat_of_lt' ht.2]
def Qjj (n:Int):PV:=if 65536<blen n.natAbs then .tup [wPV 0,.int .i64 7]else .tup [wPV n,.int .i64 0]
theorem Qzs:wPV 0= .agg [.bool false,.str ⟨#[]⟩]:=by simp [wPV,magL,Qa3]
end Go.Proofs.YtlghoaggenhheaaGreat

namespace Go.Vl
open Go.RowKit
theorem Qef (n:Nat):IntKind.u64.wrap (n:Int)=((n%18446744073709551616:Nat):Int):=by
 simp [IntKind.wrap,IntKind.signed,IntKind.bits]
theorem Qt7 (n:Nat):(n:Int).fdiv (2^min 32 64)=((n/4294967296:Nat):Int):=by
 rw [Int.fdiv_eq_ediv_of_nonneg _ (by decide)];rfl
theorem Zr1 (n:Nat):IntKind.u64.wrap ((BitVec.ofInt 64 (n:Int) &&& BitVec.ofInt 64 4294967295).toNat:Int)=((n%4294967296:Nat):Int):=by
 rw [Qef];congr 1;rw [BitVec.toNat_and];have h1:(BitVec.ofInt 64 (n:Int)).toNat=n%18446744073709551616:=by simp
 have h2:(BitVec.ofInt 64 4294967295).toNat=2^32-1:=by decide
 rw [h1,h2,Nat.and_two_pow_sub_one_eq_mod];omega
theorem Zkw {P:Program} {t:TypeId} (n:Nat):Qb1 .and t P (.int .u64 (n:Int)) (.int .u64 4294967295)=some (.int .u64 ((n%4294967296:Nat):Int)):=by
 rw [Zu4];exact congrArg (fun z=>some (PV.int .u64 z)) (Zr1 n)
attribute [go_sem high] Zkw
theorem Zvs {x y:Nat} (hx:x<18446744073709551616) (hy:y<18446744073709551616):
  ((x/4294967296*(y/4294967296)%18446744073709551616+(x/4294967296*(y%4294967296)%18446744073709551616+(x%4294967296*(y%4294967296)%18446744073709551616)/4294967296)%18446744073709551616/4294967296)%18446744073709551616+
   ((x/4294967296*(y%4294967296)%18446744073709551616+(x%4294967296*(y%4294967296)%18446744073709551616)/4294967296)%18446744073709551616%4294967296+x%4294967296*(y/4294967296)%18446744073709551616)%18446744073709551616/4294967296)%18446744073709551616=x*y/18446744073709551616:=by
 have a1:x/4294967296≤4294967295:=by omega
 have a0:x%4294967296≤4294967295:=by omega
 have b1:y/4294967296≤4294967295:=by omega
 have b0:y%4294967296≤4294967295:=by omega
 have ex:x=x/4294967296*4294967296+x%4294967296:=by omega
 have ey:y=y/4294967296*4294967296+y%4294967296:=by omega
 have hxy:x*y=x/4294967296*(y/4294967296)*18446744073709551616+(x/4294967296*(y%4294967296)+x%4294967296*(y/4294967296))*4294967296+x%4294967296*(y%4294967296):=by
  generalize x/4294967296=p at*;generalize x%4294967296=q at*;generalize y/4294967296=r at*;generalize y%4294967296=s at*;subst ex ey;simp only [Nat.add_mul,Nat.mul_add];rw [show p*4294967296*(r*4294967296)=p*r*18446744073709551616 by rw [Nat.mul_mul_mul_comm]];rw [show p*4294967296*s=p*s*4294967296 by rw [Nat.mul_right_comm],show q*(r*4294967296)=q*r*4294967296 by rw [Nat.mul_assoc]];omega
 have hlt:x*y≤18446744073709551615*18446744073709551615:=Nat.mul_le_mul (by omega) (by omega);have h11:=Nat.mul_le_mul a1 b1;have h10:=Nat.mul_le_mul a1 b0;have h01:=Nat.mul_le_mul a0 b1;have h00:=Nat.mul_le_mul a0 b0;rw [hxy]at hlt ⊢;generalize x/4294967296*(y/4294967296)=P at*;generalize x/4294967296*(y%4294967296)=Q at*;generalize x%4294967296*(y/4294967296)=R at*;generalize x%4294967296*(y%4294967296)=W at*;clear hxy ex ey a1 a0 b1 b0;omega
end Go.Vl

namespace Go.Proofs.YtlghoaggenhheaaGreat
open Go.Vl Go.RowKit
theorem Qu6 {w:World} {im:Im} {k1 k2 k3:IntKind} {x y z:Int} {us:List Value} (h:RepL w im [.int k1 x,.int k2 y,.int k3 z] us):us=[.int k1 x,.int k2 y,.int k3 z]:=by
 cases h with
 |cons _ u _ us h t=>
 cases h;cases t with
 |cons _ u _ us h t=>
 cases h;cases t with
 |cons _ u _ us h t=>
 cases h;cases t;rfl
theorem Qs0 (x y c:Nat) (hc:c≤1):Qae Tryz.prog 137 [.int .u64 (x:Int),.int .u64 (y:Int),.int .u64 (c:Int)] (.tup [.int .u64 (((x+y+c)%18446744073709551616:Nat):Int),.int .u64 (((x+y+c)/18446744073709551616:Nat):Int)]):=by
 refine .inr ⟨by kernel_rfl,rfl,fun w im us hr=> ?_⟩;rw [Qu6 hr];refine⟨.tuple #[.int .u64 (((x+y+c)%18446744073709551616:Nat):Int),.int .u64 (((x+y+c)/18446744073709551616:Nat):Int)],?_,.tup _ [_,_] (.cons _ _ _ _ (.int _ _) (.cons _ _ _ _ (.int _ _) .nil))⟩;rw [run_callFunc_extern Tryz.func137 (by kernel_rfl) (by kernel_rfl) (by kernel_rfl) (e:=add64Entry) (by kernel_rfl),run_add64 x y c (by omega) (by omega) (by omega) (by omega)];simp only [Result.andThen];congr 5<;>omega
theorem Zag (x y b:Nat) (hb:b≤1):Qae Tryz.prog 138 [.int .u64 (x:Int),.int .u64 (y:Int),.int .u64 (b:Int)] (.tup [.int .u64 (((x+18446744073709551616-y-b)%18446744073709551616:Nat):Int),.int .u64 ((if x<y+b then 1 else 0:Nat):Int)]):=by
 refine .inr ⟨by kernel_rfl,rfl,fun w im us hr=> ?_⟩;rw [Qu6 hr];refine⟨.tuple #[.int .u64 (((x+18446744073709551616-y-b)%18446744073709551616:Nat):Int),.int .u64 ((if x<y+b then 1 else 0:Nat):Int)],?_,.tup _ [_,_] (.cons _ _ _ _ (.int _ _) (.cons _ _ _ _ (.int _ _) .nil))⟩;rw [run_callFunc_extern Tryz.func138 (by kernel_rfl) (by kernel_rfl) (by kernel_rfl) (e:=sub64Entry) (by kernel_rfl),run_sub64 x y b hb];rfl
end Go.Proofs.YtlghoaggenhheaaGreat

namespace Go.Proofs.YtlghoaggenhheaaGreat
open Go.Vl Go.RowKit Go.Dg
abbrev BW:Nat:=18446744073709551616
theorem BW_2:2≤BW:=by decide
abbrev fW:Nat→PV:=fun d:Nat=>PV.int .u64 (d:Int)
def dw (l:List Nat):PV:= .slc (l.map fun d:Nat=>PV.int .u64 (d:Int))
theorem Qcl (l:List Nat) (k:Nat):(l.map fun d:Nat=>PV.int .u64 (d:Int))[k]? =l[k]?.map fun d:Nat=>PV.int .u64 (d:Int):=List.getElem?_map
theorem Zls (l:List Nat):((l.map fun d:Nat=>PV.int .u64 (d:Int)).all fun x=>x.cells.length==1)=true:=by rw [List.all_map,List.all_eq_true];intro d _;rfl
theorem Qdv (l:List Nat) (hl:l.length≤maxLen):Qae Tryz.prog 79 [dw l] (dw (Qdl l)):=by
 have hm:=Qgf;refine Qab (tb:=[]) 21 [.tmp 2] [0,2,14] mixed Tryz.func79 rfl (by kernel_rfl) ?_;simp -implicitDefEqProofs only [go_sem,seval,dw];refine Qaq mixed (fun k:{k:Nat // k≤l.length∧Qdl (l.take k)=Qdl l}=>St.of [(0,dw (l.take k.1)),(2,.nilS)] []) (fun k=>k.1) ⟨l.length,Nat.le_refl _,by rw [List.take_length]⟩ ?_ ?_
 ·exact Qaz (by simp [Qac,lkp,ren1,ren0,dw])
 ·rintro⟨k,hk,ht⟩;have hlen:(l.take k).length=k:=by simp;omega
  cases k with
  |zero=>
   have h1:((0:Int)<((0:Nat):Int))=False:=by simp
   simp -implicitDefEqProofs only [go_sem,seval,dw,h1];rw [←ht];rfl
  |succ k=>
   have h1:((0:Int)<((k+1:Nat):Int))=True:=by simp
   have h2:(0≤(k:Int))=True:=by simp
   have hw:=Qj0 (n:=k) (by omega);have hlt:k<l.length:=by omega
   have hget:(l.take (k+1))[k]? =some l[k]:=by simp [hlt]
   have hcut:l.take (k+1)=l.take k++[l[k]]:=by rw [List.take_add_one];simp [hlt]
   cases hd:((l[k]:Int)==0)with
   |true=>
    have hd0:l[k]=0:=by simpa using hd
    have h3:((k:Int)≤((k+1:Nat):Int))=True:=by simp;omega
    simp -implicitDefEqProofs only [go_sem,seval,dw,List.length_map,hlen,h1,h2,hw,Qcl,hget,hd,h3,Int.toNat_natCast,Zls];refine⟨⟨k,by omega,?_⟩,by simp,?_⟩
    ·rw [←ht,hcut,hd0,Qc0]
    ·refine Qaz (by simp [Qac,lkp,ren1,ren0,dw];rw [←List.map_take];simp [List.take_take])
   |false=>
    have hd0:l[k]≠0:=by simpa using hd
    simp -implicitDefEqProofs only [go_sem,seval,dw,List.length_map,hlen,h1,h2,hw,Qcl,hget,hd,Int.toNat_natCast];rw [←ht,hcut,Qfd _ hd0]
def cmpW (a b:Nat):Int:=if(digs BW a).length=(digs BW b).length then cmpN a b else((digs BW a).length:Int)-((digs BW b).length:Int)
theorem Qe7 (a b:Nat):(cmpW a b<0)↔a<b:=by
 unfold cmpW;split
 ·unfold cmpN;split
  ·simp;assumption
  ·split<;>simp<;>omega
 ·rename_i h;constructor
  ·intro h2;exact Qzi BW_2 (by omega)
  ·intro h2;rcases Nat.lt_trichotomy (digs BW a).length (digs BW b).length with h3|h3|h3
   ·omega
   ·exact absurd h3 h
   ·have:=Qzi BW_2 h3;omega
theorem Qea (a b:Nat) (ha:(digs BW a).length≤1000000000) (hb:(digs BW b).length≤1000000000):Qae Tryz.prog 130 [dw (digs BW a),dw (digs BW b)] (.int .i64 (cmpW a b)):=by
 refine Qab (tb:=[]) 43 [.tmp 4] [0,1,4,5,10,20,23,33] mixed Tryz.func130 rfl (by kernel_rfl) ?_;by_cases hl:(digs BW a).length=(digs BW b).length
 ·have hl':(((digs BW a).length:Int) != ((digs BW b).length:Int))=false:=by simp [hl]
  have hw:IntKind.i64.wrap (((digs BW a).length:Int)-1)=((digs BW a).length:Int)-1:=Qai (by omega) (by omega);rw [cmpW,if_pos hl];simp -implicitDefEqProofs only [go_sem,seval,dw,List.length_map,hl',hw];refine Qaq mixed (fun i:{i:Nat // i≤(digs BW a).length∧a/BW^i=b/BW^i}=>St.of [(0,dw (digs BW a)),(1,dw (digs BW b)),(4,.int .i64 0),(5,.int .i64 ((i.1:Int)-1))] []) (fun i=>i.1)
   ⟨(digs BW a).length,Nat.le_refl _,by rw [Qbf BW_2 (Nat.le_refl _),hl,Qbf BW_2 (Nat.le_refl _)]⟩ ?_ ?_
  ·exact Qaz (by simp [Qac,lkp,ren1,ren0,dw])
  ·rintro⟨i,hi,he⟩;cases i with
   |zero=>
    have h1:((0:Int)≤((0:Nat):Int)-1)=False:=by simp
    have hab:a=b:=by simpa using he
    subst hab;simp -implicitDefEqProofs only [go_sem,seval,dw,h1,Q40]
   |succ i=>
    have hs:(((i+1:Nat):Int)-1)=(i:Int):=by omega
    have h1:((0:Int)≤(i:Int))=True:=by simp
    have hga:=Qat BW_2 (show i<(digs BW a).length by omega);have hgb:=Qat BW_2 (show i<(digs BW b).length by omega);by_cases hlt:a/BW^i%BW<b/BW^i%BW
    ·have h2:(((a/BW^i%BW:Nat):Int)<((b/BW^i%BW:Nat):Int))=True:=by simp only [eq_iff_iff,iff_true];omega
     have hc:=Qr0 (Qju (by decide) he hlt);simp -implicitDefEqProofs only [go_sem,seval,dw,hs,h1,Qcl,hga,hgb,h2,hc];exact Qad _ _ (by kernel_rfl)
    ·have h2:(((a/BW^i%BW:Nat):Int)<((b/BW^i%BW:Nat):Int))=False:=by simp only [eq_iff_iff,iff_false];omega
     by_cases hgt:b/BW^i%BW<a/BW^i%BW
     ·have h3:(((b/BW^i%BW:Nat):Int)<((a/BW^i%BW:Nat):Int))=True:=by simp only [eq_iff_iff,iff_true];omega
      have hc:=Qwz (Qju (by decide) he.symm hgt);simp -implicitDefEqProofs only [go_sem,seval,dw,hs,h1,Qcl,hga,hgb,h2,h3,hc];exact⟨Qad _ _ (by kernel_rfl),Qad _ _ (by kernel_rfl)⟩
     ·have h3:(((b/BW^i%BW:Nat):Int)<((a/BW^i%BW:Nat):Int))=False:=by simp only [eq_iff_iff,iff_false];omega
      have hw2:IntKind.i64.wrap ((i:Int)-1)=(i:Int)-1:=Qai (by omega) (by omega);simp -implicitDefEqProofs only [go_sem,seval,dw,hs,h1,Qcl,hga,hgb,h2,h3,hw2];refine⟨Qad _ _ (by kernel_rfl),Qad _ _ (by kernel_rfl),⟨i,by omega,Qqk (by decide) he (by omega)⟩,by simp,?_⟩;exact Qaz (by simp [Qac,lkp,ren1,ren0,dw])
 ·have hl':(((digs BW a).length:Int) != ((digs BW b).length:Int))=true:=by simp;omega
  have hw:IntKind.i64.wrap (((digs BW a).length:Int)-((digs BW b).length:Int))=((digs BW a).length:Int)-((digs BW b).length:Int):=Qai (by omega) (by omega);rw [cmpW,if_neg hl];simp -implicitDefEqProofs only [go_sem,seval,dw,List.length_map,hl',hw]
theorem Qda (l:List Nat) (i:Nat) (d:Nat):(l.map fW).set i (PV.int .u64 (d:Int))=(l.set i d).map fW:=(List.map_set (f:=fW)).symm
theorem Qfh (B n:Nat):lows B 0 n=List.replicate n 0:=by
 apply List.ext_getElem?;intro k;by_cases h:k<n
 ·rw [Qb2 _ _ _ h];simp [h]
 ·rw [List.getElem?_eq_none (by rw [Qak];omega),List.getElem?_eq_none (by simp;omega)]
theorem Qkg (V n:Nat):List.replicate n (PV.int .u64 0)=(mix BW V 0 n 0).map fW:=by
 rw [Qif,Qfh];simp
theorem Qu8 (a b:Nat) (hba:b≤a) (ha:(digs BW a).length≤1000000000):Qae Tryz.prog 131 [dw (digs BW a),dw (digs BW b)] (dw (digs BW (a-b))):=by
 refine Qab (tb:=[]) 41 [.tmp 4] [0,1,4,5,6,7,8,13,14,15,20] mixed Tryz.func131 rfl (by kernel_rfl) ?_;have hn0:((0:Int)≤((digs BW a).length:Int))=True:=by simp
 have hn1:((8:Nat):Int)*((digs BW a).length:Int)≤281474976710656:=by omega
 have hn2:((digs BW a).length:Int)≤9223372036854775807:=by omega
 simp -implicitDefEqProofs only [go_sem,Nat.reduceAdd,Nat.reduceMul,Nat.reduceEqDiff,Nat.reduceLT,Nat.reduceLeDiff,reduceCtorEq,dw,List.length_map,hn0,hn1,hn2,Int.toNat_natCast];generalize hN:(digs BW a).length=N at*;rw [Qkg (a-b) N];refine Qaq mixed (fun i:{i:Nat // i≤N}=>St.of [(0,dw (digs BW a)),(1,dw (digs BW b)),(4,.nilS),(5,.bs 102 1 0 N),(6,.int .u64 (bor BW a b i.1:Int)),(13,.int .i64 (N:Int)),(14,.int .i64 (i.1:Int))]
  [(102,{els:=(mix BW (a-b) 0 N i.1).map fW,esz:=1,ety:=120,fro:=0,live:=true,arr:=true})]) (fun i=>N-i.1) ⟨0,Nat.zero_le _⟩ ?_ ?_
 ·refine Qaj (θ:=[(102,102)]) rfl ?_ ?_
  ·simp [Qac,lkp,ren1,ren0,dw,Qr1]
  ·simp [Qal,lkp,Box.renames]
 ·rintro⟨i,hi⟩;have hml:=Qbl (B:=BW) (a-b) 0 N i;by_cases hA:i<N
  ·have hA':((i:Int)<(N:Int))=True:=by simp;omega
   have h0:(0≤(i:Int))=True:=by simp
   have hga:=Qat BW_2 (show i<(digs BW a).length by omega);have hwk:=Qah (a:=i) (by omega);have hbl:=Qql (B:=BW) a b i;have hbl2:=Qql (B:=BW) a b (i+1);have hst:=Qr2 BW_2 hba i;have hx:a/BW^i%BW<BW:=Nat.mod_lt _ (by decide);have hy:b/BW^i%BW<BW:=Nat.mod_lt _ (by decide);have hz:(a-b)/BW^i%BW<BW:=Nat.mod_lt _ (by decide);have hset:=Qer (B:=BW) (V:=a-b) (W:=a-b) (S:=0) (n:=N) (m:=i) (d:=(a-b)/BW^i%BW) (by decide) hA rfl rfl;have hy0: ¬i<(digs BW b).length→b/BW^i%BW=0:=fun h=>by rw [Qbf BW_2 (Nat.le_of_not_lt h),Nat.zero_mod]
   have hgb:i<(digs BW b).length→(digs BW b)[i]? =some (b/BW^i%BW):=fun h=>Qat BW_2 h;obtain⟨e,hgo⟩: ∃e:Nat,((mix BW (a-b) 0 N i).map fW)[i]? =some (PV.int .u64 (e:Int)):=⟨_,by rw [List.getElem?_map,Qc1 _ _ _ _ _ hA];rfl⟩;generalize a/BW^i%BW=x at*;generalize b/BW^i%BW=y at*;generalize (a-b)/BW^i%BW=z at*;have s1:(x+18446744073709551616-y-bor BW a b i)%18446744073709551616=z:=by simp only [BW]at*;omega
   have s2:(if x<y+bor BW a b i then 1 else 0)=bor BW a b (i+1):=by
    simp only [BW]at*;split<;>omega
   have hc:=Zag x y (bor BW a b i) hbl;rw [s1,s2]at hc;by_cases hB:i<(digs BW b).length
   ·have hB':((i:Int)<((digs BW b).length:Int))=True:=by simp;omega
    have hgb:=hgb hB;simp -implicitDefEqProofs only [go_sem,Nat.reduceAdd,Nat.reduceMul,Nat.reduceEqDiff,Nat.reduceLT,Nat.reduceLeDiff,reduceCtorEq,dw,List.length_map,hA',hB',h0,Qcl,hga,hgb,Int.toNat_natCast];refine Qag _ _ _ _ _ _ _ _ _ hc ?_;simp -implicitDefEqProofs only [go_sem,Nat.reduceAdd,Nat.reduceMul,Nat.reduceEqDiff,Nat.reduceLT,Nat.reduceLeDiff,reduceIte,reduceCtorEq,hA',h0,Int.toNat_natCast,hwk,hgo];refine⟨⟨i+1,hA⟩,by simp only;omega,?_⟩;refine Qaj (θ:=[(102,102)]) rfl ?_ ?_
    ·simp [Qac,lkp,ren1,ren0,dw]
    ·rw [Qda,hset];simp [Qal,lkp,Box.renames]
   ·have hB':((i:Int)<((digs BW b).length:Int))=False:=by simp;omega
    obtain rfl:=hy0 hB;simp -implicitDefEqProofs only [go_sem,Nat.reduceAdd,Nat.reduceMul,Nat.reduceEqDiff,Nat.reduceLT,Nat.reduceLeDiff,reduceCtorEq,dw,List.length_map,hA',hB',h0,Qcl,hga,Int.toNat_natCast];refine Qag _ _ _ _ _ _ _ _ _ hc ?_;simp -implicitDefEqProofs only [go_sem,Nat.reduceAdd,Nat.reduceMul,Nat.reduceEqDiff,Nat.reduceLT,Nat.reduceLeDiff,reduceIte,reduceCtorEq,hA',h0,Int.toNat_natCast,hwk,hgo];refine⟨⟨i+1,hA⟩,by simp only;omega,?_⟩;refine Qaj (θ:=[(102,102)]) rfl ?_ ?_
    ·simp [Qac,lkp,ren1,ren0,dw]
    ·rw [Qda,hset];simp [Qal,lkp,Box.renames]
  ·have hA':((i:Int)<(N:Int))=False:=by simp;omega
   obtain rfl:i=N:=by omega
   have htk:((lows BW (a-b) i).map fW).take i=(lows BW (a-b) i).map fW:=List.take_of_length_le (by simp [Qak]);have hll:=Qak (B:=BW) (a-b) i;have hlt:a<BW^i:=by rw [←hN];exact Qa2 BW_2 a
   have hm:mix BW (a-b) 0 i i=lows BW (a-b) i:=Qfj (by decide) (by rw [Nat.div_eq_of_lt (Nat.lt_of_le_of_lt (Nat.sub_le _ _) hlt),Nat.zero_div]);simp -implicitDefEqProofs only [go_sem,Nat.reduceAdd,Nat.reduceMul,Nat.reduceEqDiff,Nat.reduceLT,Nat.reduceLeDiff,reduceIte,reduceCtorEq,hA',List.length_map,hll,htk,hm];refine Qag _ _ _ _ _ _ _ _ _ (Qdv (lows BW (a-b) i) (by rw [Qak];simp [maxLen];omega)) ?_;simp -implicitDefEqProofs only [go_sem,Nat.reduceAdd,Nat.reduceEqDiff,Nat.reduceLT,reduceCtorEq,dw];rw [Qbt BW_2,Nat.mod_eq_of_lt (Nat.lt_of_le_of_lt (Nat.sub_le _ _) hlt)]
theorem Zlu (a b:Nat) (ha:(digs BW a).length≤1000000000) (hb:(digs BW b).length≤1000000000):Qae Tryz.prog 129 [dw (digs BW a),dw (digs BW b)] (dw (digs BW (a+b))):=by
 refine Qab (tb:=[]) 54 [.tmp 4] [0,1,4,5,6,7,8,13,21,22,23,28] mixed Tryz.func129 rfl (by kernel_rfl) ?_;by_cases hab:(digs BW a).length<(digs BW b).length
 ·have hab':(((digs BW a).length:Int)<((digs BW b).length:Int))=True:=by simp;omega
  have hPQ:(digs BW a).length≤(digs BW b).length:=by omega
  rw [Nat.add_comm a b];have hn0:((0:Int)≤(((digs BW b).length+1:Nat):Int))=True:=by simp only [eq_iff_iff,iff_true];omega
  have hn1:((8:Nat):Int)*(((digs BW b).length+1:Nat):Int)≤281474976710656:=by omega
  have hn2:(((digs BW b).length+1:Nat):Int)≤9223372036854775807:=by omega
  have hw1:=Qah (a:=(digs BW b).length) (by omega);simp -implicitDefEqProofs only [go_sem,Nat.reduceAdd,Nat.reduceMul,Nat.reduceEqDiff,Nat.reduceLT,Nat.reduceLeDiff,reduceCtorEq,dw,List.length_map,hab',hw1,hn0,hn1,hn2,Int.toNat_natCast];have hlt:b<BW^(digs BW b).length:=Qa2 BW_2 b;have hlt2:a<BW^(digs BW b).length:=(Qar BW_2 a _).1 hPQ;generalize hN:(digs BW b).length=N at*;rw [Qkg (b+a) (N+1)];refine Qaq mixed (fun i:{i:Nat // i≤N}=>St.of [(0,dw (digs BW b)),(1,dw (digs BW a)),(4,.nilS),(5,.bs 303 1 0 (N+1)),(6,.int .u64 (carry BW b a i.1:Int)),(21,.int .i64 (N:Int)),(22,.int .i64 (i.1:Int))]
   [(303,{els:=(mix BW (b+a) 0 (N+1) i.1).map fW,esz:=1,ety:=120,fro:=0,live:=true,arr:=true})]) (fun i=>N-i.1) ⟨0,Nat.zero_le _⟩ ?_ ?_
  ·refine Qaj (θ:=[(303,303)]) rfl ?_ ?_
   ·simp [Qac,lkp,ren1,ren0,dw,Qk5]
   ·simp [Qal,lkp,Box.renames]
  ·rintro⟨i,hi⟩;have hml:=Qbl (B:=BW) (b+a) 0 (N+1) i;have hset:=Qer (B:=BW) (V:=b+a) (W:=b+a) (S:=0) (n:=N+1) (m:=i) (d:=(b+a)/BW^i%BW) (by decide) (by omega) rfl rfl;obtain⟨e,hgo⟩: ∃e:Nat,((mix BW (b+a) 0 (N+1) i).map fW)[i]? =some (PV.int .u64 (e:Int)):=⟨_,by rw [List.getElem?_map,Qc1 _ _ _ _ _ (by omega)];rfl⟩;have h0:(0≤(i:Int))=True:=by simp
   have hiN:((i:Int)<((N+1:Nat):Int))=True:=by simp only [eq_iff_iff,iff_true];omega
   by_cases hA:i<N
   ·have hA':((i:Int)<(N:Int))=True:=by simp;omega
    have hga:=Qat BW_2 (show i<(digs BW b).length by omega);have hwk:=Qah (a:=i) (by omega);have hcl:=Qr4 (B:=BW) (by decide) b a i;obtain⟨s1,s2⟩:(b/BW^i%BW+a/BW^i%BW+carry BW b a i)%18446744073709551616=(b+a)/BW^i%BW∧(b/BW^i%BW+a/BW^i%BW+carry BW b a i)/18446744073709551616=carry BW b a (i+1):=Qr5 (B:=BW) (by decide) b a i;have hy0: ¬i<(digs BW a).length→a/BW^i%BW=0:=fun h=>by rw [Qbf BW_2 (Nat.le_of_not_lt h),Nat.zero_mod]
    have hgb:i<(digs BW a).length→(digs BW a)[i]? =some (a/BW^i%BW):=fun h=>Qat BW_2 h;have hc:=Qs0 (b/BW^i%BW) (a/BW^i%BW) (carry BW b a i) hcl;rw [s1,s2]at hc;generalize b/BW^i%BW=x at*;generalize a/BW^i%BW=y at*;generalize (b+a)/BW^i%BW=z at*;by_cases hB:i<(digs BW a).length
    ·have hB':((i:Int)<((digs BW a).length:Int))=True:=by simp;omega
     have hgb:=hgb hB;simp -implicitDefEqProofs only [go_sem,Nat.reduceAdd,Nat.reduceMul,Nat.reduceEqDiff,Nat.reduceLT,Nat.reduceLeDiff,reduceCtorEq,dw,List.length_map,hA',hB',h0,Qcl,hga,hgb,Int.toNat_natCast];refine Qag _ _ _ _ _ _ _ _ _ hc ?_;simp -implicitDefEqProofs only [go_sem,Nat.reduceAdd,Nat.reduceMul,Nat.reduceEqDiff,Nat.reduceLT,Nat.reduceLeDiff,reduceIte,reduceCtorEq,h0,hiN,Int.toNat_natCast,hwk,hgo];refine⟨⟨i+1,hA⟩,by simp only;omega,?_⟩;refine Qaj (θ:=[(303,303)]) rfl ?_ ?_
     ·simp [Qac,lkp,ren1,ren0,dw]
     ·rw [Qda,hset];simp [Qal,lkp,Box.renames]
    ·have hB':((i:Int)<((digs BW a).length:Int))=False:=by simp;omega
     obtain rfl:=hy0 hB;simp -implicitDefEqProofs only [go_sem,Nat.reduceAdd,Nat.reduceMul,Nat.reduceEqDiff,Nat.reduceLT,Nat.reduceLeDiff,reduceCtorEq,dw,List.length_map,hA',hB',h0,Qcl,hga,Int.toNat_natCast];refine Qag _ _ _ _ _ _ _ _ _ hc ?_;simp -implicitDefEqProofs only [go_sem,Nat.reduceAdd,Nat.reduceMul,Nat.reduceEqDiff,Nat.reduceLT,Nat.reduceLeDiff,reduceIte,reduceCtorEq,h0,hiN,Int.toNat_natCast,hwk,hgo];refine⟨⟨i+1,hA⟩,by simp only;omega,?_⟩;refine Qaj (θ:=[(303,303)]) rfl ?_ ?_
     ·simp [Qac,lkp,ren1,ren0,dw]
     ·rw [Qda,hset];simp [Qal,lkp,Box.renames]
   ·have hA':((i:Int)<(N:Int))=False:=by simp;omega
    obtain rfl:i=N:=by omega
    have hsum:(b+a)/BW^i<2:=Nat.div_lt_of_lt_mul (by omega);have hcN:carry BW b a i=(b+a)/BW^i%BW:=by
     rw [carry,Nat.mod_eq_of_lt hlt,Nat.mod_eq_of_lt hlt2,Nat.mod_eq_of_lt (Nat.lt_trans hsum (by decide))]
    have hm:mix BW (b+a) 0 (i+1) (i+1)=lows BW (b+a) (i+1):=Qfj (by decide) (by rw [Nat.pow_succ,←Nat.div_div_eq_div_mul,Nat.div_eq_of_lt (Nat.lt_trans hsum (by decide)),Nat.zero_div]);rw [hm]at hset;have htk:((lows BW (b+a) (i+1)).map fW).take (i+1)=(lows BW (b+a) (i+1)).map fW:=List.take_of_length_le (by simp [Qak]);have hll:=Qak (B:=BW) (b+a) (i+1);have hbig:b+a<BW^(i+1):=by
     rw [Nat.pow_succ];have:BW^i*2≤BW^i*BW:=Nat.mul_le_mul_left _ (by decide);omega
    rw [hcN];simp -implicitDefEqProofs only [go_sem,Nat.reduceAdd,Nat.reduceMul,Nat.reduceEqDiff,Nat.reduceLT,Nat.reduceLeDiff,reduceIte,reduceCtorEq,dw,hA',h0,hiN,hN,Int.toNat_natCast,hgo,List.length_map,Qda,hset,hll,htk];refine Qag _ _ _ _ _ _ _ _ _ (Qdv (lows BW (b+a) (i+1)) (by rw [Qak];simp [maxLen];omega)) ?_;simp -implicitDefEqProofs only [go_sem,Nat.reduceAdd,Nat.reduceEqDiff,Nat.reduceLT,reduceCtorEq,dw];rw [Qbt BW_2,Nat.mod_eq_of_lt hbig]
 ·have hab':(((digs BW a).length:Int)<((digs BW b).length:Int))=False:=by simp;omega
  have hPQ:(digs BW b).length≤(digs BW a).length:=by omega
  have hn0:((0:Int)≤(((digs BW a).length+1:Nat):Int))=True:=by simp only [eq_iff_iff,iff_true];omega
  have hn1:((8:Nat):Int)*(((digs BW a).length+1:Nat):Int)≤281474976710656:=by omega
  have hn2:(((digs BW a).length+1:Nat):Int)≤9223372036854775807:=by omega
  have hw1:=Qah (a:=(digs BW a).length) (by omega);simp -implicitDefEqProofs only [go_sem,Nat.reduceAdd,Nat.reduceMul,Nat.reduceEqDiff,Nat.reduceLT,Nat.reduceLeDiff,reduceCtorEq,dw,List.length_map,hab',hw1,hn0,hn1,hn2,Int.toNat_natCast];have hlt:a<BW^(digs BW a).length:=Qa2 BW_2 a;have hlt2:b<BW^(digs BW a).length:=(Qar BW_2 b _).1 hPQ;generalize hN:(digs BW a).length=N at*;rw [Qkg (a+b) (N+1)];refine Qaq mixed (fun i:{i:Nat // i≤N}=>St.of [(0,dw (digs BW a)),(1,dw (digs BW b)),(4,.nilS),(5,.bs 303 1 0 (N+1)),(6,.int .u64 (carry BW a b i.1:Int)),(21,.int .i64 (N:Int)),(22,.int .i64 (i.1:Int))]
   [(303,{els:=(mix BW (a+b) 0 (N+1) i.1).map fW,esz:=1,ety:=120,fro:=0,live:=true,arr:=true})]) (fun i=>N-i.1) ⟨0,Nat.zero_le _⟩ ?_ ?_
  ·refine Qaj (θ:=[(303,303)]) rfl ?_ ?_
   ·simp [Qac,lkp,ren1,ren0,dw,Qk5]
   ·simp [Qal,lkp,Box.renames]
  ·rintro⟨i,hi⟩;have hml:=Qbl (B:=BW) (a+b) 0 (N+1) i;have hset:=Qer (B:=BW) (V:=a+b) (W:=a+b) (S:=0) (n:=N+1) (m:=i) (d:=(a+b)/BW^i%BW) (by decide) (by omega) rfl rfl;obtain⟨e,hgo⟩: ∃e:Nat,((mix BW (a+b) 0 (N+1) i).map fW)[i]? =some (PV.int .u64 (e:Int)):=⟨_,by rw [List.getElem?_map,Qc1 _ _ _ _ _ (by omega)];rfl⟩;have h0:(0≤(i:Int))=True:=by simp
   have hiN:((i:Int)<((N+1:Nat):Int))=True:=by simp only [eq_iff_iff,iff_true];omega
   by_cases hA:i<N
   ·have hA':((i:Int)<(N:Int))=True:=by simp;omega
    have hga:=Qat BW_2 (show i<(digs BW a).length by omega);have hwk:=Qah (a:=i) (by omega);have hcl:=Qr4 (B:=BW) (by decide) a b i;obtain⟨s1,s2⟩:(a/BW^i%BW+b/BW^i%BW+carry BW a b i)%18446744073709551616=(a+b)/BW^i%BW∧(a/BW^i%BW+b/BW^i%BW+carry BW a b i)/18446744073709551616=carry BW a b (i+1):=Qr5 (B:=BW) (by decide) a b i;have hy0: ¬i<(digs BW b).length→b/BW^i%BW=0:=fun h=>by rw [Qbf BW_2 (Nat.le_of_not_lt h),Nat.zero_mod]
    have hgb:i<(digs BW b).length→(digs BW b)[i]? =some (b/BW^i%BW):=fun h=>Qat BW_2 h;have hc:=Qs0 (a/BW^i%BW) (b/BW^i%BW) (carry BW a b i) hcl;rw [s1,s2]at hc;generalize a/BW^i%BW=x at*;generalize b/BW^i%BW=y at*;generalize (a+b)/BW^i%BW=z at*;by_cases hB:i<(digs BW b).length
    ·have hB':((i:Int)<((digs BW b).length:Int))=True:=by simp;omega
     have hgb:=hgb hB;simp -implicitDefEqProofs only [go_sem,Nat.reduceAdd,Nat.reduceMul,Nat.reduceEqDiff,Nat.reduceLT,Nat.reduceLeDiff,reduceCtorEq,dw,List.length_map,hA',hB',h0,Qcl,hga,hgb,Int.toNat_natCast];refine Qag _ _ _ _ _ _ _ _ _ hc ?_;simp -implicitDefEqProofs only [go_sem,Nat.reduceAdd,Nat.reduceMul,Nat.reduceEqDiff,Nat.reduceLT,Nat.reduceLeDiff,reduceIte,reduceCtorEq,h0,hiN,Int.toNat_natCast,hwk,hgo];refine⟨⟨i+1,hA⟩,by simp only;omega,?_⟩;refine Qaj (θ:=[(303,303)]) rfl ?_ ?_
     ·simp [Qac,lkp,ren1,ren0,dw]
     ·rw [Qda,hset];simp [Qal,lkp,Box.renames]
    ·have hB':((i:Int)<((digs BW b).length:Int))=False:=by simp;omega
     obtain rfl:=hy0 hB;simp -implicitDefEqProofs only [go_sem,Nat.reduceAdd,Nat.reduceMul,Nat.reduceEqDiff,Nat.reduceLT,Nat.reduceLeDiff,reduceCtorEq,dw,List.length_map,hA',hB',h0,Qcl,hga,Int.toNat_natCast];refine Qag _ _ _ _ _ _ _ _ _ hc ?_;simp -implicitDefEqProofs only [go_sem,Nat.reduceAdd,Nat.reduceMul,Nat.reduceEqDiff,Nat.reduceLT,Nat.reduceLeDiff,reduceIte,reduceCtorEq,h0,hiN,Int.toNat_natCast,hwk,hgo];refine⟨⟨i+1,hA⟩,by simp only;omega,?_⟩;refine Qaj (θ:=[(303,303)]) rfl ?_ ?_
     ·simp [Qac,lkp,ren1,ren0,dw]
     ·rw [Qda,hset];simp [Qal,lkp,Box.renames]
   ·have hA':((i:Int)<(N:Int))=False:=by simp;omega
    obtain rfl:i=N:=by omega
    have hsum:(a+b)/BW^i<2:=Nat.div_lt_of_lt_mul (by omega);have hcN:carry BW a b i=(a+b)/BW^i%BW:=by
     rw [carry,Nat.mod_eq_of_lt hlt,Nat.mod_eq_of_lt hlt2,Nat.mod_eq_of_lt (Nat.lt_trans hsum (by decide))]
    have hm:mix BW (a+b) 0 (i+1) (i+1)=lows BW (a+b) (i+1):=Qfj (by decide) (by rw [Nat.pow_succ,←Nat.div_div_eq_div_mul,Nat.div_eq_of_lt (Nat.lt_trans hsum (by decide)),Nat.zero_div]);rw [hm]at hset;have htk:((lows BW (a+b) (i+1)).map fW).take (i+1)=(lows BW (a+b) (i+1)).map fW:=List.take_of_length_le (by simp [Qak]);have hll:=Qak (B:=BW) (a+b) (i+1);have hbig:a+b<BW^(i+1):=by
     rw [Nat.pow_succ];have:BW^i*2≤BW^i*BW:=Nat.mul_le_mul_left _ (by decide);omega
    rw [hcN];simp -implicitDefEqProofs only [go_sem,Nat.reduceAdd,Nat.reduceMul,Nat.reduceEqDiff,Nat.reduceLT,Nat.reduceLeDiff,reduceIte,reduceCtorEq,dw,hA',h0,hiN,hN,Int.toNat_natCast,hgo,List.length_map,Qda,hset,hll,htk];refine Qag _ _ _ _ _ _ _ _ _ (Qdv (lows BW (a+b) (i+1)) (by rw [Qak];simp [maxLen];omega)) ?_;simp -implicitDefEqProofs only [go_sem,Nat.reduceAdd,Nat.reduceEqDiff,Nat.reduceLT,reduceCtorEq,dw];rw [Qbt BW_2,Nat.mod_eq_of_lt hbig]
def nP (neg:Bool) (m:Nat):PV:= .agg [.bool neg,dw (digs BW m)]
def sv (neg:Bool) (m:Nat):Int:=if neg then -(m:Int)else m
theorem Zup (neg:Bool) (m:Nat):Qae Tryz.prog 109 [nP neg m] (nP (!neg) m):=by
 refine Qab (tb:=[]) 9 [.cell 2 126] [0,1,2] mixed Tryz.func109 rfl (by kernel_rfl) ?_;simp -implicitDefEqProofs only [go_sem,seval,nP,dw]
theorem Zaq (neg:Bool) (m:Nat):Qae Tryz.prog 110 [nP neg m] (.int .i64 (sv neg m).sign):=by
 refine Qab (tb:=[]) 11 [.tmp 2] [0,1,2,3,8] mixed Tryz.func110 rfl (by kernel_rfl) ?_;by_cases h0:m=0
 ·subst h0;have h1:(((0:Nat):Int)==0)=true:=rfl;have e:(sv neg 0).sign=0:=by cases neg<;>rfl
  rw [e];simp -implicitDefEqProofs only [go_sem,seval,nP,dw,Qa3,List.map_nil,List.length_nil,h1]
 ·have h1:(((digs BW m).length:Int)==0)=false:=by
   have:=List.length_pos_iff.2 (mt (Qbo BW_2).1 h0);simp only [beq_eq_false_iff_ne,ne_eq];omega
  cases neg with
  |true=>
   have e:(sv true m).sign= -1:=Int.sign_eq_neg_one_of_neg (by simp [sv];omega);rw [e];simp -implicitDefEqProofs only [go_sem,seval,nP,dw,List.length_map,h1]
  |false=>
   have e:(sv false m).sign=1:=Int.sign_eq_one_of_pos (by simp [sv];omega);rw [e];simp -implicitDefEqProofs only [go_sem,seval,nP,dw,List.length_map,h1]
theorem Zlv (xn yn:Bool) (x y:Nat) (hx:(digs BW x).length≤1000000000) (hy:(digs BW y).length≤1000000000):
  ∃(n:Bool) (m:Nat),Qae Tryz.prog 108 [nP xn x,nP yn y] (nP n m)∧sv n m=sv xn x+sv yn y∧m≤x+y:=by
 cases hs:(xn==yn)with
 |true=>
  obtain rfl:xn=yn:=by simpa using hs
  refine⟨xn,x+y,?_,by cases xn<;>simp [sv]<;>omega,Nat.le_refl _⟩;refine Qab (tb:=[]) 42 [.cell 4 126] [0,1,2,3,4,5,19] mixed Tryz.func108 rfl (by kernel_rfl) ?_;simp -implicitDefEqProofs only [go_sem,seval,nP,dw,hs];refine Qag _ _ _ _ _ _ _ _ _ (Zlu x y hx hy) ?_;simp -implicitDefEqProofs only [go_sem,seval,dw];exact Qad _ _ (by kernel_rfl)
 |false=>
  have hne:yn= !xn:=by cases xn<;>cases yn<;>simp at hs ⊢
  by_cases hc:y≤x
  ·refine⟨xn,x-y,?_,by subst hne;cases xn<;>simp [sv]<;>omega,by omega⟩;have h1:(0≤cmpW x y)=True:=by simp only [eq_iff_iff,iff_true];have:=Qe7 x y;omega
   refine Qab (tb:=[]) 42 [.cell 4 126] [0,1,2,3,4,5,19] mixed Tryz.func108 rfl (by kernel_rfl) ?_;simp -implicitDefEqProofs only [go_sem,seval,nP,dw,hs];refine Qag _ _ _ _ _ _ _ _ _ (Qea x y hx hy) ?_;simp -implicitDefEqProofs only [go_sem,seval,h1];refine Qag _ _ _ _ _ _ _ _ _ (Qu8 x y hc hx) ?_;simp -implicitDefEqProofs only [go_sem,seval,dw];exact Qad _ _ (by kernel_rfl)
  ·refine⟨yn,y-x,?_,by subst hne;cases xn<;>simp [sv]<;>omega,by omega⟩;have h1:(0≤cmpW x y)=False:=by simp only [eq_iff_iff,iff_false];have:=Qe7 x y;omega
   refine Qab (tb:=[]) 42 [.cell 4 126] [0,1,2,3,4,5,19] mixed Tryz.func108 rfl (by kernel_rfl) ?_;simp -implicitDefEqProofs only [go_sem,seval,nP,dw,hs];refine Qag _ _ _ _ _ _ _ _ _ (Qea x y hx hy) ?_;simp -implicitDefEqProofs only [go_sem,seval,h1];refine Qag _ _ _ _ _ _ _ _ _ (Qu8 y x (by omega) hy) ?_;simp -implicitDefEqProofs only [go_sem,seval,dw];exact Qad _ _ (by kernel_rfl)
def Qbm (neg:Bool) (l:List UInt8):Bool:=match l with
 | []=> !neg
 |b::_=>decide (l.length≤8192)&&b != 0
theorem Zq3 {s:ByteArray} {b:UInt8} {r:List UInt8} (h:s.data.toList=b::r):s[0]? =some b:=by
 rw [Qt8 s 0 (by rw [h];simp)];simp only [h,List.getElem_cons_zero]
theorem Qx6 (b:UInt8):((b.toNat:Int) != 0)=(b != 0):=by
 by_cases h:b=0
 ·subst h;rfl
 ·have:b.toNat≠0:=fun e=>h (UInt8.toNat_inj.1 (by simpa using e));have h1:((b.toNat:Int) != 0)=true:=by simp;omega
  have h2:(b != 0)=true:=by simp [h]
  rw [h1,h2]
theorem Qgy (neg:Bool) (s:ByteArray):Qae Tryz.prog 111 [.agg [.bool neg,.str s]] (.bool (Qbm neg s.data.toList)):=by
 have hz:=Qjg s;cases h:s.data.toList with
 |nil=>
  have h1:(([]:List UInt8)== [])=true:=rfl;refine Qab (tb:=[]) 19 [.tmp 2] [0,1,2,5] mixed Tryz.func111 rfl (by kernel_rfl) ?_;simp -implicitDefEqProofs only [go_sem,seval,Qbm,h,h1]
 |cons b r=>
  have h0:=Zq3 h;have hne:(b::r== [])=false:=rfl;rw [h]at hz;refine Qab (tb:=[]) 19 [.tmp 2] [0,1,2,5] mixed Tryz.func111 rfl (by kernel_rfl) ?_;by_cases hb:(b != 0)=true
  ·by_cases h2:(b::r).length≤8192
   ·have h2':((s.size:Int)≤8192)=True:=by rw [hz];simp only [eq_iff_iff,iff_true];omega
    have e:Qbm neg (b::r)=true:=by simp only [Qbm,h2,decide_true,Bool.true_and,hb]
    rw [e];simp -implicitDefEqProofs only [go_sem,seval,h,hne,h2',h0,Qx6,hb]
   ·have h2':((s.size:Int)≤8192)=False:=by rw [hz];simp only [eq_iff_iff,iff_false];omega
    have e:Qbm neg (b::r)=false:=by simp only [Qbm,h2,decide_false,Bool.false_and]
    rw [e];simp -implicitDefEqProofs only [go_sem,seval,h,hne,h2',h0,Qx6,hb]
  ·have hb':(b != 0)=false:=by simpa using hb
   have e:Qbm neg (b::r)=false:=by simp only [Qbm,hb',Bool.and_false]
   rw [e];simp -implicitDefEqProofs only [go_sem,seval,h,hne,h0,Qx6,hb']
theorem Qu9 (an bn:Bool) (a b:ByteArray):Qae Tryz.prog 106 [.agg [.bool an,.str a],.agg [.bool bn,.str b]] (.bool (Qbm an a.data.toList&&Qbm bn b.data.toList)):=by
 refine Qab (tb:=[]) 11 [.tmp 4] [0,1,2,3,4] mixed Tryz.func106 rfl (by kernel_rfl) ?_;simp -implicitDefEqProofs only [go_sem,seval];refine Qag _ _ _ _ _ _ _ _ _ (Qgy an a) ?_;cases h:Qbm an a.data.toList with
 |true=>
  simp -implicitDefEqProofs only [go_sem,seval,Bool.true_and];refine Qag _ _ _ _ _ _ _ _ _ (Qgy bn b) ?_;simp -implicitDefEqProofs only [go_sem,seval]
 |false=>
  simp -implicitDefEqProofs only [go_sem,seval,Bool.false_and]
end Go.Proofs.YtlghoaggenhheaaGreat
