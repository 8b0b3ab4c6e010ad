/-
  SP3, Du, SP4, Dsg, SM1, SM2 (merged for the claim).
-/
import Derived.Test.YtlpiamlgibomhaaGreatDs
set_option linter.unusedSimpArgs false
set_option linter.unusedVariables false
namespace Go.Proofs.YtlpiamlgibomhaaGreat
open Go.Vl Go.RowKit Go.Dg
theorem Qdh {n:Nat} (h:0<n) (hn:n<9223372036854775808):IntKind.i64.wrap ((n:Int)-1)=((n-1:Nat):Int):=by rw [Qai (by omega) (by omega)];omega
theorem Qhb (xs:List Int) (hl:xs.length≤1000000):Qaf Tryz.prog 120 [rL xs] (rL (Qas xs)):=by
 refine Qac (tb:=[]) 22 [.tmp 2] [0,2,15] mixed Tryz.func120 rfl (by kernel_rfl) (by kernel_rfl) (by kernel_rfl) (by kernel_rfl) ?_
 simp -implicitDefEqProofs only [go_sem,Nat.reduceMul,Nat.reduceEqDiff,Nat.reduceLT,Nat.reduceLeDiff,reduceCtorEq,rL]
 refine Qao mixed (fun m:{m:Nat // m≤xs.length∧Qas (xs.take m)=Qas xs}=>St.of [(0,rL (xs.take m.1))] []) (fun m=>m.1) ⟨xs.length,Nat.le_refl _,by rw [List.take_length]⟩ ?_ ?_
 ·exact Qaz (by simp [Qad,lkp,ren1,ren0,rL])
 ·rintro⟨m,hm,ht⟩
  have hlen:(xs.take m).length=m:=by rw [List.length_take];omega
  simp only
  cases m with
  |zero=>
   have g1:((0:Int)<((0:Nat):Int))=False:=by simp
   have e:Qas xs=[]:=by rw [←ht];rfl
   repeat (first|(simp -implicitDefEqProofs only [go_sem,Nat.reduceAdd,Nat.reduceMul,Nat.reduceEqDiff,Nat.reduceLT,Nat.reduceLeDiff,reduceCtorEq,rL,List.length_map,hlen,g1,e,List.take_zero,List.map_nil,List.length_nil]))
  |succ m=>
   have g1:((0:Int)<((m+1:Nat):Int))=True:=by simp only [eq_iff_iff,iff_true];omega
   have hlt:m<(xs.take (m+1)).length:=by omega
   have w1:IntKind.i64.wrap (((m+1:Nat):Int)-1)=(m:Int):=by rw [Qai (by omega) (by omega)];omega
   have h0:=nnT m
   have hg:=Qkj (xs.take (m+1)) m hlt
   have hgm:(xs.take (m+1))[m]=xs[m]'(by omega):=List.getElem_take
   have htk:xs.take (m+1)=xs.take m++[xs[m]'(by omega)]:=Qbb xs m (by omega)
   have hrs:=Qpx ((xs.take (m+1))[m])
   by_cases hz:xs[m]'(by omega)=0
   ·have g2:(((xs.take (m+1))[m]).sign==0)=true:=by rw [hgm,hz];rfl
    have e1:((xs.take (m+1)).map rI).take m=(xs.take m).map rI:=by rw [←List.map_take,List.take_take,Nat.min_eq_left (by omega)]
    have g3:((m:Int)≤((m+1:Nat):Int))=True:=by simp only [eq_iff_iff,iff_true];omega
    have hcl:(((xs.take (m+1)).map rI).all fun x=>x.cells.length==2)=true:=by rw [List.all_map,List.all_eq_true];intro _ _;rfl
    repeat (first|(simp -implicitDefEqProofs only [go_sem,Nat.reduceAdd,Nat.reduceMul,Nat.reduceEqDiff,Nat.reduceLT,Nat.reduceLeDiff,reduceCtorEq,rL,rI,di,List.length_map,hlen,g1,g2,g3,w1,h0,hg,Int.toNat_natCast,hcl,e1])|((with_reducible refine Qab (hrs) ?_ ?_ ?_);(with_reducible rfl);rfl))
    refine⟨⟨m,by omega,?_⟩,by simp only;omega,Qaz (by simp [Qad,lkp,ren1,ren0,rL])⟩
    rw [←ht,htk,hz,Qfu]
   ·have g2:(((xs.take (m+1))[m]).sign==0)=false:=by rw [hgm];simp only [beq_eq_false_iff_ne,ne_eq,Int.sign_eq_zero_iff_zero];exact hz
    have e:Qas xs=xs.take (m+1):=by rw [←ht,htk,Qg7 _ _ hz]
    repeat (first|(simp -implicitDefEqProofs only [go_sem,Nat.reduceAdd,Nat.reduceMul,Nat.reduceEqDiff,Nat.reduceLT,Nat.reduceLeDiff,reduceCtorEq,rL,rI,di,List.length_map,hlen,g1,g2,w1,h0,hg,Int.toNat_natCast])|((with_reducible refine Qab (hrs) ?_ ?_ ?_);(with_reducible rfl);rfl))
    rw [e]
def Qan (l:List Int):PV:= .slc (l.map (PV.int .i64))
theorem Qbx (l:List Int) (i:Nat) (h:i<l.length):(l.map (PV.int .i64))[i]? =some (.int .i64 l[i]):=by rw [List.getElem?_map,List.getElem?_eq_getElem h];rfl
theorem map_take {α β:Type} (f:α→β) (l:List α) (i:Nat) (hi:i<l.length):(l.take (i+1)).map f=(l.take i).map f++[f l[i]]:=by rw [Qbb l i hi,List.map_append];rfl
theorem Zi8 (l:List Int) (hl:l.length≤1000) (hb: ∀x∈l, -9223372036854775808≤x∧x≤9223372036854775807):Qaf Tryz.prog 116 [Qan l] (rL (Qas l)):=by
 refine Qac (tb:=[]) 21 [.tmp 2] [0,2,3,4,8] mixed Tryz.func116 rfl (by kernel_rfl) (by kernel_rfl) (by kernel_rfl) (by kernel_rfl) ?_
 simp -implicitDefEqProofs only [go_sem,Nat.reduceAdd,Nat.reduceMul,Nat.reduceEqDiff,Nat.reduceLT,Nat.reduceLeDiff,reduceCtorEq,Qan]
 refine Qao mixed (fun i:{i:Nat // i≤l.length}=>St.of [(0,Qan l),(3,.bs 7 2 0 i.1),(4,.int .i64 (i.1:Int))]
  [(7,{els:=(l.take i.1).map rI,esz:=2,ety:=44,fro:=0,live:=true,arr:=true})]) (fun i=>l.length-i.1) ⟨0,Nat.zero_le _⟩ ?_ ?_
 ·refine Qco 3 7 2 44 rfl rfl rfl (by decide) [(7,7)] rfl ?_ ?_
  ·simp [Qad,lkp,ren1,ren0,Qan]
  ·simp [Qal,lkp,Box.renames]
 ·rintro⟨i,hi⟩
  have hlen:((l.take i).map rI).length=i:=by simp;omega
  by_cases hA:i<l.length
  ·have hA':=ltT hA
   have h0:=nnT i
   have hg:=Qbx l i hA
   have hwk:=Qah (a:=i) (by omega)
   have q1:(i==i)=true:=beq_self_eq_true i
   have q2:((i+1)*32≤140737488355328)=True:=by simp only [eq_iff_iff,iff_true];omega
   have q3:(i+1≤maxLen)=True:=by simp only [eq_iff_iff,iff_true];unfold maxLen;omega
   obtain⟨b1,b2⟩:=hb _ (List.getElem_mem hA)
   have hf:=Qc1 l[i] b1 b2
   have htk:=map_take rI l i hA
   repeat (first|(simp -implicitDefEqProofs only [go_sem,Nat.reduceAdd,Nat.reduceMul,Nat.reduceEqDiff,Nat.reduceLT,Nat.reduceLeDiff,reduceCtorEq,Nat.reduceBneDiff,Qan,rI,di,hA',h0,hg,Int.toNat_natCast,List.length_map,hlen,q1,q2,q3,Qmh,hwk])|((with_reducible refine Qab (hf) ?_ ?_ ?_);(with_reducible rfl);rfl))
   refine⟨⟨i+1,hA⟩,by simp only;omega,Qaj (θ:=[(7,507)]) rfl ?_ ?_⟩
   ·simp [Qad,lkp,ren1,ren0,Qan]
   ·simp only [htk]
    simp [Qal,lkp,Box.renames,rI,di]
  ·have hA':=ltF hA
   have e1:((l.take i).map rI).take i=l.map rI:=by rw [List.take_of_length_le (by omega),List.take_of_length_le (show l.length≤i by omega)]
   have ht:=Qhb l (by omega)
   unfold rL at ht ⊢
   repeat (first|(simp -implicitDefEqProofs only [go_sem,Nat.reduceAdd,Nat.reduceMul,Nat.reduceEqDiff,Nat.reduceLT,Nat.reduceLeDiff,reduceCtorEq,Qan,hA',hlen,e1,List.length_map])|((with_reducible refine Qab (ht) ?_ ?_ ?_);(with_reducible rfl);rfl))
theorem Zaa (xs:List Int) (i:Nat) (hi:i≤1000000):Qaf Tryz.prog 146 [rL xs,.int .i64 (i:Int)] (rI (xs.getD i 0)):=by
 have g1:((i:Int)<0)=False:=by simp only [eq_iff_iff,iff_false];omega
 by_cases h:i<xs.length
 ·have g2:((xs.length:Int)≤(i:Int))=False:=by simp only [eq_iff_iff,iff_false];omega
  have h0:=nnT i
  have hg:=Qkj xs i h
  rw [Qb1 h]
  refine Qac (tb:=[]) 18 [.cell 4 44] [0,1,4,12] mixed Tryz.func146 rfl (by kernel_rfl) (by kernel_rfl) (by kernel_rfl) (by kernel_rfl) ?_
  repeat (first|(simp -implicitDefEqProofs only [go_sem,Nat.reduceAdd,Nat.reduceMul,Nat.reduceEqDiff,Nat.reduceLT,Nat.reduceLeDiff,reduceCtorEq,rL,rI,di,g1,g2,h0,hg,List.length_map,Int.toNat_natCast]))
 ·have g2:((xs.length:Int)≤(i:Int))=True:=by simp only [eq_iff_iff,iff_true];omega
  rw [Zi6 h,rI_z]
  refine Qac (tb:=[]) 18 [.cell 4 44] [0,1,4,12] mixed Tryz.func146 rfl (by kernel_rfl) (by kernel_rfl) (by kernel_rfl) (by kernel_rfl) ?_
  repeat (first|(simp -implicitDefEqProofs only [go_sem,Nat.reduceAdd,Nat.reduceMul,Nat.reduceEqDiff,Nat.reduceLT,Nat.reduceLeDiff,reduceCtorEq,rL,g1,g2,List.length_map]))
theorem Zi9 (p q:List Int) (B:Nat) (hB:B≤6000000) (hp:bd B p) (hq:bd B q) (hl:p.length≤1000) (hl2:q.length≤1000):Qaf Tryz.prog 117 [rL p,rL q] (rL (pAdd p q)):=by
 have hz:=Qlz p q
 refine Qac (tb:=[]) 31 [.tmp 4] [0,1,4,5,6,16] mixed Tryz.func117 rfl (by kernel_rfl) (by kernel_rfl) (by kernel_rfl) (by kernel_rfl) ?_
 simp -implicitDefEqProofs only [go_sem,Nat.reduceAdd,Nat.reduceMul,Nat.reduceEqDiff,Nat.reduceLT,Nat.reduceLeDiff,reduceCtorEq]
 refine Qao mixed (fun i:{i:Nat // i≤max p.length q.length}=>St.of [(0,rL p),(1,rL q),(5,.bs 7 2 0 i.1),(6,.int .i64 (i.1:Int))]
  [(7,{els:=((zipA p q).take i.1).map rI,esz:=2,ety:=44,fro:=0,live:=true,arr:=true})]) (fun i=>max p.length q.length-i.1) ⟨0,Nat.zero_le _⟩ ?_ ?_
 ·refine Qco 5 7 2 44 rfl rfl rfl (by decide) [(7,7)] rfl ?_ ?_
  ·simp [Qad,lkp,ren1,ren0,rL]
  ·simp [Qal,lkp,Box.renames]
 ·rintro⟨i,hi⟩
  have hlen:(((zipA p q).take i).map rI).length=i:=by rw [List.length_map,List.length_take];omega
  by_cases hA:i<max p.length q.length
  ·have hAz:i<(zipA p q).length:=by omega
   have hwk:=Qah (a:=i) (by omega)
   have q1:(i==i)=true:=beq_self_eq_true i
   have q2:((i+1)*32≤140737488355328)=True:=by simp only [eq_iff_iff,iff_true];omega
   have q3:(i+1≤maxLen)=True:=by simp only [eq_iff_iff,iff_true];unfold maxLen;omega
   have a1:=Zaa p i (by omega)
   have a2:=Zaa q i (by omega)
   have ad:=Qol (Qbc (Qc5 hp i) (by omega)) (Qbc (Qc5 hq i) (by omega))
   have htk:=map_take rI (zipA p q) i hAz
   have hgz:(zipA p q)[i]=p.getD i 0+q.getD i 0:=by simp [zipA]
   rw [hgz]at htk
   unfold rL at*
   by_cases c1:i<p.length
   ·have c1':=ltT c1
    generalize p.getD i 0+q.getD i 0=S at*
    generalize p.getD i 0=x at*
    generalize q.getD i 0=y at*
    repeat (first|(simp -implicitDefEqProofs only [go_sem,Nat.reduceAdd,Nat.reduceMul,Nat.reduceEqDiff,Nat.reduceLT,Nat.reduceLeDiff,reduceCtorEq,Nat.reduceBneDiff,rI,di,c1',Int.toNat_natCast,List.length_map,hlen,q1,q2,q3,Qmh,hwk])|((with_reducible refine Qab (a1) ?_ ?_ ?_);(with_reducible rfl);rfl)|((with_reducible refine Qab (a2) ?_ ?_ ?_);(with_reducible rfl);rfl)|((with_reducible refine Qab (ad) ?_ ?_ ?_);(with_reducible rfl);rfl))
    refine⟨⟨i+1,hA⟩,by simp only;omega,Qaj (θ:=[(7,509)]) rfl ?_ ?_⟩
    ·simp [Qad,lkp,ren1,ren0]
    ·simp only [htk]
     simp [Qal,lkp,Box.renames,rI,di]
   ·have c1':=ltF c1
    have c2':=ltT (show i<q.length by omega)
    generalize p.getD i 0+q.getD i 0=S at*
    generalize p.getD i 0=x at*
    generalize q.getD i 0=y at*
    repeat (first|(simp -implicitDefEqProofs only [go_sem,Nat.reduceAdd,Nat.reduceMul,Nat.reduceEqDiff,Nat.reduceLT,Nat.reduceLeDiff,reduceCtorEq,Nat.reduceBneDiff,rI,di,c1',c2',Int.toNat_natCast,List.length_map,hlen,q1,q2,q3,Qmh,hwk])|((with_reducible refine Qab (a1) ?_ ?_ ?_);(with_reducible rfl);rfl)|((with_reducible refine Qab (a2) ?_ ?_ ?_);(with_reducible rfl);rfl)|((with_reducible refine Qab (ad) ?_ ?_ ?_);(with_reducible rfl);rfl))
    refine⟨⟨i+1,hA⟩,by simp only;omega,Qaj (θ:=[(7,509)]) rfl ?_ ?_⟩
    ·simp [Qad,lkp,ren1,ren0]
    ·simp only [htk]
     simp [Qal,lkp,Box.renames,rI,di]
  ·have c1':=ltF (show¬i<p.length by omega)
   have c2':=ltF (show¬i<q.length by omega)
   have e1:(((zipA p q).take i).map rI).take i=(zipA p q).map rI:=by rw [List.take_of_length_le (by omega),List.take_of_length_le (show(zipA p q).length≤i by omega)]
   have ht:=Qhb (zipA p q) (by omega)
   unfold rL pAdd at*
   repeat (first|(simp -implicitDefEqProofs only [go_sem,Nat.reduceAdd,Nat.reduceMul,Nat.reduceEqDiff,Nat.reduceLT,Nat.reduceLeDiff,reduceCtorEq,c1',c2',hlen,e1,List.length_map])|((with_reducible refine Qab (ht) ?_ ?_ ?_);(with_reducible rfl);rfl))
theorem Qry (p:List Int) (c:Int) (B:Nat) (hB:B≤6000000) (hp:bd B p) (hc:c.natAbs<2^B) (hl:p.length≤1000):Qaf Tryz.prog 110 [rL p,rI c] (rL (Qc4 p c)):=by
 refine Qac (tb:=[]) 24 [.tmp 4] [0,1,3,4,5,6,10] mixed Tryz.func110 rfl (by kernel_rfl) (by kernel_rfl) (by kernel_rfl) (by kernel_rfl) ?_
 simp -implicitDefEqProofs only [go_sem,Nat.reduceAdd,Nat.reduceMul,Nat.reduceEqDiff,Nat.reduceLT,Nat.reduceLeDiff,reduceCtorEq,rI,di]
 refine Qao mixed (fun i:{i:Nat // i≤p.length}=>St.of [(0,rL p),(3,.bp 0 2 0 0),(5,.bs 7 2 0 i.1),(6,.int .i64 (i.1:Int))]
  [(0,{els:=[rI c],esz:=2,ety:=44,fro:=0,live:=true,arr:=false}),(7,{els:=((p.map (· *c)).take i.1).map rI,esz:=2,ety:=44,fro:=0,live:=true,arr:=true})]) (fun i=>p.length-i.1) ⟨0,Nat.zero_le _⟩ ?_ ?_
 ·refine Qco 5 7 2 44 rfl rfl rfl (by decide) [(0,0),(7,7)] rfl ?_ ?_
  ·simp [Qad,lkp,ren1,ren0,rL]
  ·exact⟨⟨rfl,rfl,rfl,rfl,rfl,.inr ⟨rfl,_,_,rfl,rfl,rfl,rfl⟩⟩,⟨rfl,rfl,rfl,rfl,rfl,.inl ⟨rfl,rfl⟩⟩,trivial⟩
 ·rintro⟨i,hi⟩
  have hlen:(((p.map (· *c)).take i).map rI).length=i:=by rw [List.length_map,List.length_take,List.length_map];omega
  by_cases hA:i<p.length
  ·have hA':=ltT hA
   have h0:=nnT i
   have hg:=Qkj p i hA
   have hwk:=Qah (a:=i) (by omega)
   have q1:(i==i)=true:=beq_self_eq_true i
   have q2:((i+1)*32≤140737488355328)=True:=by simp only [eq_iff_iff,iff_true];omega
   have q3:(i+1≤maxLen)=True:=by simp only [eq_iff_iff,iff_true];unfold maxLen;omega
   have hm:=Qe3 (Qbc (hp _ (List.getElem_mem hA)) (by omega)) (Qbc hc (by omega))
   have htk:=map_take rI (p.map (· *c)) i (by rw [List.length_map];exact hA)
   rw [List.getElem_map]at htk
   generalize p[i]*c=M at*
   repeat (first|(simp -implicitDefEqProofs only [go_sem,Nat.reduceAdd,Nat.reduceMul,Nat.reduceEqDiff,Nat.reduceLT,Nat.reduceLeDiff,reduceCtorEq,Nat.reduceBneDiff,rL,rI,di,hA',h0,hg,Int.toNat_natCast,List.length_map,hlen,q1,q2,q3,Qmh,hwk])|((with_reducible refine Qab (hm) ?_ ?_ ?_);(with_reducible rfl);rfl)|(with_reducible exact Qaa _ _ (by kernel_rfl))|(with_reducible refine And.intro (Qaa _ _ (by kernel_rfl)) ?_))
   refine⟨⟨i+1,hA⟩,by simp only;omega,Qaj (θ:=[(0,0),(7,508)]) rfl ?_ ?_⟩
   ·simp [Qad,lkp,ren1,ren0,rL]
   ·exact⟨⟨rfl,rfl,rfl,rfl,rfl,.inr ⟨rfl,_,_,rfl,rfl,rfl,rfl⟩⟩,⟨rfl,rfl,rfl,rfl,rfl,.inl ⟨rfl,htk.symm⟩⟩,trivial⟩
  ·have hA':=ltF hA
   have e1:(((p.map (· *c)).take i).map rI).take i=(p.map (· *c)).map rI:=by rw [List.take_of_length_le (by omega),List.take_of_length_le (by rw [List.length_map];omega)]
   have ht:=Qhb (p.map (· *c)) (by rw [List.length_map];omega)
   unfold rL Qc4 at*
   repeat (first|(simp -implicitDefEqProofs only [go_sem,Nat.reduceAdd,Nat.reduceMul,Nat.reduceEqDiff,Nat.reduceLT,Nat.reduceLeDiff,reduceCtorEq,hA',hlen,e1,List.length_map])|((with_reducible refine Qab (ht) ?_ ?_ ?_);(with_reducible rfl);rfl)|(with_reducible exact Qaa _ _ (by kernel_rfl))|(with_reducible refine And.intro (Qaa _ _ (by kernel_rfl)) ?_))
end Go.Proofs.YtlpiamlgibomhaaGreat

namespace Go.Dg
theorem Qv6 {p q:List Int} (h:p=[]∨q=[]):pMul p q=[]:=by
 rw [pMul]
 refine Qpl _ fun u _=> ?_
 rw [←Qek]
 show ev (pMul p q) u=0
 rw [Q1a]
 rcases h with rfl|rfl<;>simp [ev]
def Qcg (p:List Int) (a b d:Int):Nat→List Int
 |0=>[]
 |i+1=>pAdd (Qcg p a b d i) (Qc4 (pPow (Qas [a,b]) i) (p.getD i 0*d^(p.length-1-i)))
theorem Qfe (a b:Int):(Qas [a,b]).length≤1+1:=Qbe _
theorem Zh9 (a b u:Int):ev (Qas [a,b]) u=a+b*u:=by rw [Qek];simp [ev,Int.mul_comm]
theorem Qv7 (p:List Int) (a b d u:Int): ∀i,ev (Qcg p a b d i) u=sm (fun k=>p.getD k 0*((a+b*u)^k*d^(p.length-1-k))) i
 |0=>rfl
 |i+1=>by
  rw [Qcg,Q09,Qv7 p a b d u i,Qq9,Q1b,Zh9,sm]
  congr 1
  simp only [Int.mul_comm,Int.mul_left_comm,Int.mul_assoc]
theorem Zia (p:List Int) (a b d u:Int):ev (Qcg p a b d p.length) u=hev p (a+b*u) d:=by rw [Qv7,Qkb]
theorem Qg9 (p:List Int) (a b d:Int): ∀i,Qas (Qcg p a b d i)=Qcg p a b d i
 |0=>rfl
 |i+1=>by rw [Qcg,pAdd,Qjo]
theorem Qcr (p:List Int) (a b d:Int): ∀i,(Qcg p a b d i).length≤i
 |0=>Nat.le_refl _
 |i+1=>by
  rw [Qcg]
  have h1:=Qtc (Qcg p a b d i) (Qc4 (pPow (Qas [a,b]) i) (p.getD i 0*d^(p.length-1-i)))
  have h2:=Qcr p a b d i
  have h3:=Qfv (pPow (Qas [a,b]) i) (p.getD i 0*d^(p.length-1-i))
  have h4:=Qfw (m:=1) (Qfe a b) i
  omega
theorem Q1u {B:Nat} {a b:Int} (ha:a.natAbs<2^B) (hb:b.natAbs<2^B):bd B (Qas [a,b]):=Qel fun x hx=>by
 rcases List.mem_cons.1 hx with rfl|hx
 ·exact ha
 ·rw [List.mem_singleton]at hx;subst hx;exact hb
theorem Qbu {d:Int} {D:Nat} (h:d.natAbs<2^D) (k:Nat):(d^k).natAbs<2^(D*k+1):=by
 rw [Int.natAbs_pow]
 have h1:d.natAbs^k≤(2^D)^k:=Nat.pow_le_pow_left (Nat.le_of_lt h) k
 rw [←Nat.pow_mul]at h1
 rw [Nat.pow_succ]
 have:=Nat.pow_pos (n:=D*k) (show 0<2 by decide)
 omega
theorem Qps {B C D:Nat} {p:List Int} {a b d:Int} (hp:bd B p) (ha:a.natAbs<2^C) (hb:b.natAbs<2^C) (hd:d.natAbs<2^D) (hl:p.length≤30):
  ∀i,i≤p.length→bd ((C+7)*30+1+(B+(D*30+1))+i) (Qcg p a b d i)
 |0,_=>fun x hx=>by cases hx
 |i+1,h=>by
  have ih:=Qps hp ha hb hd hl i (by omega)
  have h1:=Qtf (m:=1) (Q1u ha hb) (Qfe a b) i (by omega)
  have h2:(C+7)*i≤(C+7)*30:=Nat.mul_le_mul_left _ (by omega)
  have h3:=Qbu hd (p.length-1-i)
  have h4:D*(p.length-1-i)≤D*30:=Nat.mul_le_mul_left _ (by omega)
  have h5:(p.getD i 0*d^(p.length-1-i)).natAbs<2^(B+(D*30+1)):=by
   rw [Int.natAbs_mul,Nat.pow_add]
   exact Nat.mul_lt_mul'' (Qc5 hp i) (Nat.lt_of_lt_of_le h3 (Nat.pow_le_pow_right (by decide) (by omega)))
  have h6:=Ql1 (Qfx h1 (show(C+7)*i+1≤(C+7)*30+1 by omega)) h5
  exact Zho ih (Qfx h6 (Nat.le_add_right _ i))
end Go.Dg

namespace Go.Proofs.YtlpiamlgibomhaaGreat
open Go.Vl Go.RowKit Go.Dg
theorem Zja (p q:List Int) (B:Nat) (hB:B≤1000000) (hp:bd B p) (hq:bd B q) (hl:p.length+q.length≤64):Qaf Tryz.prog 119 [rL p,rL q] (rL (pMul p q)):=by
 have hcl:=Ql0 p q
 have w1:IntKind.i64.wrap ((p.length:Int)+(q.length:Int))=((p.length+q.length:Nat):Int):=by rw [Qai (by omega) (by omega)];omega
 have w2:IntKind.i64.wrap (((p.length+q.length:Nat):Int)-1)=((p.length+q.length:Nat):Int)-1:=Qai (by omega) (by omega)
 refine Qac (tb:=[]) 50 [.tmp 4] [0,1,4,5,6,7,8,16,22,47] mixed Tryz.func119 rfl (by kernel_rfl) (by kernel_rfl) (by kernel_rfl) (by kernel_rfl) ?_
 simp -implicitDefEqProofs only [go_sem,Nat.reduceAdd,Nat.reduceMul,Nat.reduceEqDiff,Nat.reduceLT,Nat.reduceLeDiff,reduceCtorEq]
 refine Qao mixed (fun i:{i:Nat // i≤p.length+q.length-1}=>St.of [(0,rL p),(1,rL q),(5,.bs 7 2 0 i.1),(6,.int .i64 (i.1:Int))]
  [(7,{els:=((conv p q).take i.1).map rI,esz:=2,ety:=44,fro:=0,live:=true,arr:=true})]) (fun i=>p.length+q.length-1-i.1) ⟨0,Nat.zero_le _⟩ ?_ ?_
 ·refine Qco 5 7 2 44 rfl rfl rfl (by decide) [(7,7)] rfl ?_ ?_
  ·simp [Qad,lkp,ren1,ren0,rL]
  ·simp [Qal,lkp,Box.renames]
 ·rintro⟨i,hi⟩
  have hlen:(((conv p q).take i).map rI).length=i:=by rw [List.length_map,List.length_take];omega
  by_cases hA:i<p.length+q.length-1
  ·have hA':((i:Int)<((p.length+q.length:Nat):Int)-1)=True:=by simp only [eq_iff_iff,iff_true];omega
   have hAz:i<(conv p q).length:=by omega
   have hwi:=Qah (a:=i) (by omega)
   repeat (first|(simp -implicitDefEqProofs only [go_sem,Nat.reduceAdd,Nat.reduceMul,Nat.reduceEqDiff,Nat.reduceLT,Nat.reduceLeDiff,reduceCtorEq,rL,List.length_map,w1,w2,hA'])|(with_reducible exact Qaa _ _ (by kernel_rfl))|(with_reducible refine And.intro (Qaa _ _ (by kernel_rfl)) ?_))
   refine Qao mixed (fun k:{k:Nat // k≤i+1}=>St.of [(0,rL p),(1,rL q),(5,.bs 7 2 0 i),(6,.int .i64 (i:Int)),(7,.bp 501 2 0 0),(8,.int .i64 (k.1:Int))]
    [(7,{els:=((conv p q).take i).map rI,esz:=2,ety:=44,fro:=0,live:=true,arr:=true}),(501,{els:=[rI (sm (fun k=>p.getD k 0*q.getD (i-k) 0) k.1)],esz:=2,ety:=44,fro:=0,live:=true,arr:=false})]) (fun k=>i+1-k.1) ⟨0,Nat.zero_le _⟩ ?_ ?_
   ·refine Le.trans (Qnw 501 rfl) (Qaj (θ:=[(7,7),(501,501)]) rfl ?_ ?_)
    ·simp [Qad,lkp,ren1,ren0,rL]
    ·refine⟨⟨rfl,rfl,rfl,rfl,rfl,.inl ⟨rfl,rfl⟩⟩,⟨rfl,rfl,rfl,rfl,rfl,.inr ⟨rfl,_,_,rfl,rfl,?_,rfl⟩⟩,trivial⟩
     simp only [sm,rI_z];rfl
   ·rintro⟨k,hk⟩
    by_cases hK:k<i+1
    ·have hK':=leT (show k≤i by omega)
     have hwk:=Qah (a:=k) (by omega)
     have w3:=Qp4 (a:=i) (b:=k) (by omega) (by omega)
     have a1:=Zaa p k (by omega)
     have a2:=Zaa q (i-k) (by omega)
     have hS:=Q1c hp hq hl i k (by omega) hA
     have hT:(p.getD k 0*q.getD (i-k) 0).natAbs<2^(B+B):=by rw [Int.natAbs_mul,Nat.pow_add];exact Nat.mul_lt_mul'' (Qc5 hp k) (Qc5 hq (i-k))
     have mu:=Qe3 (Qbc (Qc5 hp k) (by omega)) (Qbc (Qc5 hq (i-k)) (by omega))
     have ad:=Qol (Qbc hS (by omega)) (Qbc hT (by omega))
     have e1:sm (fun k=>p.getD k 0*q.getD (i-k) 0) k+p.getD k 0*q.getD (i-k) 0=sm (fun k=>p.getD k 0*q.getD (i-k) 0) (k+1):=rfl
     rw [e1]at ad
     generalize hS1:sm (fun k=>p.getD k 0*q.getD (i-k) 0) (k+1)=S1 at*
     generalize sm (fun k=>p.getD k 0*q.getD (i-k) 0) k=S at*
     generalize p.getD k 0*q.getD (i-k) 0=T at*
     generalize p.getD k 0=x at*
     generalize q.getD (i-k) 0=y at*
     unfold rL at*
     repeat (first|(simp -implicitDefEqProofs only [go_sem,Nat.reduceAdd,Nat.reduceMul,Nat.reduceEqDiff,Nat.reduceLT,Nat.reduceLeDiff,reduceCtorEq,rI,di,hK',hwk,w3,Int.toNat_natCast])|((with_reducible refine Qab (a1) ?_ ?_ ?_);(with_reducible rfl);rfl)|((with_reducible refine Qab (a2) ?_ ?_ ?_);(with_reducible rfl);rfl)|((with_reducible refine Qab (mu) ?_ ?_ ?_);(with_reducible rfl);rfl)|((with_reducible refine Qab (ad) ?_ ?_ ?_);(with_reducible rfl);rfl)|(with_reducible exact Qaa _ _ (by kernel_rfl))|(with_reducible refine And.intro (Qaa _ _ (by kernel_rfl)) ?_))
     refine⟨⟨k+1,by omega⟩,by simp only;omega,Qaj (θ:=[(7,7),(501,501)]) rfl ?_ ?_⟩
     ·simp [Qad,lkp,ren1,ren0]
     ·simp only [hS1]
      exact⟨⟨rfl,rfl,rfl,rfl,rfl,.inl ⟨rfl,rfl⟩⟩,⟨rfl,rfl,rfl,rfl,rfl,.inr ⟨rfl,_,_,rfl,rfl,rfl,rfl⟩⟩,trivial⟩
    ·have hK':=leF (show¬k≤i by omega)
     obtain rfl:k=i+1:=by omega
     have q1:(i==i)=true:=beq_self_eq_true i
     have q2:((i+1)*32≤140737488355328)=True:=by simp only [eq_iff_iff,iff_true];omega
     have q3:(i+1≤maxLen)=True:=by simp only [eq_iff_iff,iff_true];unfold maxLen;omega
     have htk:=map_take rI (conv p q) i hAz
     have hgz:(conv p q)[i]=sm (fun k=>p.getD k 0*q.getD (i-k) 0) (i+1):=by simp [conv]
     rw [hgz]at htk
     generalize sm (fun k=>p.getD k 0*q.getD (i-k) 0) (i+1)=S at*
     repeat (first|(simp -implicitDefEqProofs only [go_sem,Nat.reduceAdd,Nat.reduceMul,Nat.reduceEqDiff,Nat.reduceLT,Nat.reduceLeDiff,reduceCtorEq,Nat.reduceBneDiff,rL,rI,di,hK',Int.toNat_natCast,hlen,q1,q2,q3,Qmh,hwi])|(with_reducible exact Qaa _ _ (by kernel_rfl))|(with_reducible refine And.intro (Qaa _ _ (by kernel_rfl)) ?_))
     refine⟨⟨i+1,by omega⟩,by simp only;omega,Qaj (θ:=[(7,1003)]) rfl ?_ ?_⟩
     ·simp [Qad,lkp,ren1,ren0,rL]
     ·exact⟨⟨rfl,rfl,rfl,rfl,rfl,.inl ⟨rfl,htk.symm⟩⟩,trivial⟩
  ·have hA':((i:Int)<((p.length+q.length:Nat):Int)-1)=False:=by simp only [eq_iff_iff,iff_false];omega
   have e1:(((conv p q).take i).map rI).take i=(conv p q).map rI:=by rw [List.take_of_length_le (by omega),List.take_of_length_le (show(conv p q).length≤i by omega)]
   have ht:=Qhb (conv p q) (by omega)
   by_cases hz:p.length=0
   ·have hz':((p.length:Int)==0)=true:=by rw [hz];rfl
    have e2:=Qv6 (q:=q) (.inl (List.length_eq_zero_iff.1 hz))
    rw [e2]
    repeat (first|(simp -implicitDefEqProofs only [go_sem,Nat.reduceAdd,Nat.reduceMul,Nat.reduceEqDiff,Nat.reduceLT,Nat.reduceLeDiff,reduceCtorEq,rL,List.length_map,w1,w2,hA',hz',List.map_nil])|(with_reducible exact Qaa _ _ (by kernel_rfl))|(with_reducible refine And.intro (Qaa _ _ (by kernel_rfl)) ?_))
   ·have hz':((p.length:Int)==0)=false:=by simp only [beq_eq_false_iff_ne,ne_eq];omega
    by_cases hy:q.length=0
    ·have hy':((q.length:Int)==0)=true:=by rw [hy];rfl
     have e2:=Qv6 (p:=p) (.inr (List.length_eq_zero_iff.1 hy))
     rw [e2]
     repeat (first|(simp -implicitDefEqProofs only [go_sem,Nat.reduceAdd,Nat.reduceMul,Nat.reduceEqDiff,Nat.reduceLT,Nat.reduceLeDiff,reduceCtorEq,rL,List.length_map,w1,w2,hA',hz',hy',List.map_nil])|(with_reducible exact Qaa _ _ (by kernel_rfl))|(with_reducible refine And.intro (Qaa _ _ (by kernel_rfl)) ?_))
    ·have hy':((q.length:Int)==0)=false:=by simp only [beq_eq_false_iff_ne,ne_eq];omega
     unfold rL pMul at*
     repeat (first|(simp -implicitDefEqProofs only [go_sem,Nat.reduceAdd,Nat.reduceMul,Nat.reduceEqDiff,Nat.reduceLT,Nat.reduceLeDiff,reduceCtorEq,List.length_map,w1,w2,hA',hz',hy',hlen,e1])|((with_reducible refine Qab (ht) ?_ ?_ ?_);(with_reducible rfl);rfl)|(with_reducible exact Qaa _ _ (by kernel_rfl))|(with_reducible refine And.intro (Qaa _ _ (by kernel_rfl)) ?_))
theorem Zjb (x:Int) (n B:Nat) (hn:n≤100) (hB:B≤10000) (hx:x.natAbs<2^B):Qaf Tryz.prog 118 [rI x,.int .i64 (n:Int)] (rI (x^n)):=by
 have h1:=Qc1 1 (by decide) (by decide)
 refine Qac (tb:=[]) 17 [.cell 4 44] [0,1,2,4,5,6,10] mixed Tryz.func118 rfl (by kernel_rfl) (by kernel_rfl) (by kernel_rfl) (by kernel_rfl) ?_
 repeat (first|(simp -implicitDefEqProofs only [go_sem,Nat.reduceAdd,Nat.reduceMul,Nat.reduceEqDiff,Nat.reduceLT,Nat.reduceLeDiff,reduceCtorEq,Int.reduceLT,rI,di])|((with_reducible refine Qab (h1) ?_ ?_ ?_);(with_reducible rfl);rfl))
 refine Qao mixed (fun i:{i:Nat // i≤n}=>St.of [(1,.int .i64 (n:Int)),(2,.bp 0 2 0 0),(4,.bp 1 2 0 0),(5,.bp 101 2 0 0),(6,.int .i64 (i.1:Int))]
  [(0,{els:=[rI x],esz:=2,ety:=44,fro:=0,live:=true,arr:=false}),(1,{els:=[.agg [.bool false,.nilS]],esz:=2,ety:=44,fro:=0,live:=true,arr:=false}),(101,{els:=[rI (x^i.1)],esz:=2,ety:=44,fro:=0,live:=true,arr:=false})]) (fun i=>n-i.1) ⟨0,Nat.zero_le _⟩ ?_ ?_
 ·refine Qaj (θ:=[(0,0),(1,1),(101,101)]) rfl ?_ ?_
  ·simp [Qad,lkp,ren1,ren0]
  ·refine⟨⟨rfl,rfl,rfl,rfl,rfl,.inr ⟨rfl,_,_,rfl,rfl,rfl,rfl⟩⟩,⟨rfl,rfl,rfl,rfl,rfl,.inr ⟨rfl,_,_,rfl,rfl,rfl,rfl⟩⟩,⟨rfl,rfl,rfl,rfl,rfl,.inr ⟨rfl,_,_,rfl,rfl,?_,rfl⟩⟩,trivial⟩
   simp only [Int.pow_zero];rfl
 ·rintro⟨i,hi⟩
  by_cases hA:i<n
  ·have hA':=ltT hA
   have hwk:=Qah (a:=i) (by omega)
   have hb:B*i≤10000*100:=Nat.mul_le_mul hB (by omega)
   have hm:=Qe3 (Qbc (Qbu hx i) (by omega)) (Qbc hx (by omega))
   have e:x^i*x=x^(i+1):=(Int.pow_succ x i).symm
   rw [e]at hm
   generalize hX:x^(i+1)=Y at*
   generalize x^i=Z at*
   repeat (first|(simp -implicitDefEqProofs only [go_sem,Nat.reduceAdd,Nat.reduceMul,Nat.reduceEqDiff,Nat.reduceLT,Nat.reduceLeDiff,reduceCtorEq,rI,di,hA',hwk])|((with_reducible refine Qab (hm) ?_ ?_ ?_);(with_reducible rfl);rfl))
   refine⟨⟨i+1,hA⟩,by simp only;omega,Qaj (θ:=[(0,0),(1,1),(101,101)]) rfl ?_ ?_⟩
   ·simp [Qad,lkp,ren1,ren0]
   ·simp only [hX]
    exact⟨⟨rfl,rfl,rfl,rfl,rfl,.inr ⟨rfl,_,_,rfl,rfl,rfl,rfl⟩⟩,⟨rfl,rfl,rfl,rfl,rfl,.inr ⟨rfl,_,_,rfl,rfl,rfl,rfl⟩⟩,⟨rfl,rfl,rfl,rfl,rfl,.inr ⟨rfl,_,_,rfl,rfl,rfl,rfl⟩⟩,trivial⟩
  ·have hA':=ltF hA
   obtain rfl:i=n:=by omega
   generalize x^i=Z at*
   repeat (first|(simp -implicitDefEqProofs only [go_sem,Nat.reduceAdd,Nat.reduceMul,Nat.reduceEqDiff,Nat.reduceLT,Nat.reduceLeDiff,reduceCtorEq,rI,di,hA']))
theorem Zou: ∀x∈([1]:List Int), -9223372036854775808≤x∧x≤9223372036854775807:=by simp
theorem Qyi (p:List Int) (a b d:Int) (B:Nat) (hB:B≤5000) (hp:bd B p) (ha:a.natAbs<2^B) (hb:b.natAbs<2^B) (hd:d.natAbs<2^B) (hl:p.length≤30):
  Qaf Tryz.prog 80 [rL p,rI a,rI b,rI d] (rL (Qcg p a b d p.length)):=by
 have h1:=Zi8 [1] (by decide) Zou
 unfold Qan at h1
 have hpl:=Qfe a b
 have hpb:=Q1u ha hb
 have htr:=Qhb [a,b] (by simp)
 have ht1:Qas [1]=pPow (Qas [a,b]) 0:=rfl
 refine Qac (tb:=[]) 43 [.tmp 8] [0,1,2,3,5,6,7,8,9,10,11,17] mixed Tryz.func80 rfl (by kernel_rfl) (by kernel_rfl) (by kernel_rfl) (by kernel_rfl) ?_
 repeat (first|(simp -implicitDefEqProofs only [go_sem,Nat.reduceAdd,Nat.reduceMul,Nat.reduceEqDiff,Nat.reduceLT,Nat.reduceLeDiff,reduceCtorEq,rL,rI,di,List.map_cons,List.map_nil])|((with_reducible refine Qab (h1) ?_ ?_ ?_);(with_reducible rfl);rfl)|(with_reducible exact Qaa _ _ (by kernel_rfl))|(with_reducible refine And.intro (Qaa _ _ (by kernel_rfl)) ?_))
 refine Qao mixed (fun i:{i:Nat // i≤p.length}=>St.of [(0,rL p),(5,.bp 0 2 0 0),(6,.bp 1 2 0 0),(7,.bp 2 2 0 0),(9,rL (Qcg p a b d i.1)),(10,rL (pPow (Qas [a,b]) i.1)),(11,.int .i64 (i.1:Int))]
  [(0,{els:=[rI a],esz:=2,ety:=44,fro:=0,live:=true,arr:=false}),(1,{els:=[rI b],esz:=2,ety:=44,fro:=0,live:=true,arr:=false}),(2,{els:=[rI d],esz:=2,ety:=44,fro:=0,live:=true,arr:=false})]) (fun i=>p.length-i.1) ⟨0,Nat.zero_le _⟩ ?_ ?_
 ·refine Le.trans (Qvo 9 rfl) (Qaj (θ:=[(0,0),(1,1),(2,2)]) rfl ?_ ?_)
  ·simp [Qad,lkp,ren1,ren0,rL,Qcg,pPow]
  ·exact⟨⟨rfl,rfl,rfl,rfl,rfl,.inr ⟨rfl,_,_,rfl,rfl,rfl,rfl⟩⟩,⟨rfl,rfl,rfl,rfl,rfl,.inr ⟨rfl,_,_,rfl,rfl,rfl,rfl⟩⟩,⟨rfl,rfl,rfl,rfl,rfl,.inr ⟨rfl,_,_,rfl,rfl,rfl,rfl⟩⟩,trivial⟩
 ·rintro⟨i,hi⟩
  by_cases hA:i<p.length
  ·have hA':=ltT hA
   have h0:=nnT i
   have hg:=Qkj p i hA
   have hwk:=Qah (a:=i) (by omega)
   have w1:=Qdh (n:=p.length) (by omega) (by omega)
   have w2:=Qp4 (a:=p.length-1) (b:=i) (by omega) (by omega)
   have hpw:=Zjb d (p.length-1-i) B (by omega) (by omega) hd
   have h2:(B+7)*i≤(B+7)*30:=Nat.mul_le_mul_left _ (by omega)
   have h4:B*(p.length-1-i)≤B*30:=Nat.mul_le_mul_left _ (by omega)
   have hD:=Qbu hd (p.length-1-i)
   have hmu:=Qe3 (Qbc (hp _ (List.getElem_mem hA)) (by omega)) (Qbc hD (by omega))
   have hM:(p[i]*d^(p.length-1-i)).natAbs<2^(B+(B*30+1)):=by
    rw [Int.natAbs_mul,Nat.pow_add]
    exact Nat.mul_lt_mul'' (hp _ (List.getElem_mem hA)) (Nat.lt_of_lt_of_le hD (Nat.pow_le_pow_right (by decide) (by omega)))
   have hT:=Qtf (m:=1) hpb hpl i (by omega)
   have hTl:=Qfw (m:=1) hpl i
   have hsc:=Qry (pPow (Qas [a,b]) i) (p[i]*d^(p.length-1-i)) ((B+7)*30+1+(B+(B*30+1))) (by omega) (Qfx hT (by omega)) (Qdp hM (by omega)) (by omega)
   have hSb:=Qps hp ha hb hd hl i (by omega)
   have hSl:=Qcr p a b d i
   have hscb:=Ql1 hT hM
   have hscl:=Qfv (pPow (Qas [a,b]) i) (p[i]*d^(p.length-1-i))
   have had:=Zi9 (Qcg p a b d i) (Qc4 (pPow (Qas [a,b]) i) (p[i]*d^(p.length-1-i))) ((B+7)*30+1+(B+(B*30+1))+i) (by omega) hSb (Qfx hscb (by omega)) (by omega) (by omega)
   have e1:pAdd (Qcg p a b d i) (Qc4 (pPow (Qas [a,b]) i) (p[i]*d^(p.length-1-i)))=Qcg p a b d (i+1):=by rw [Qcg,Qb1 hA]
   rw [e1]at had
   have hml:=Zja (pPow (Qas [a,b]) i) (Qas [a,b]) ((B+7)*30+1) (by omega) (Qfx hT (by omega)) (Qfx hpb (by omega)) (by omega)
   have e2:pMul (pPow (Qas [a,b]) i) (Qas [a,b])=pPow (Qas [a,b]) (i+1):=rfl
   rw [e2]at hml
   generalize hY1:Qcg p a b d (i+1)=S1 at*
   generalize Qcg p a b d i=S at*
   generalize hT1:pPow (Qas [a,b]) (i+1)=T1 at*
   generalize Qc4 (pPow (Qas [a,b]) i) (p[i]*d^(p.length-1-i))=Q at*
   generalize pPow (Qas [a,b]) i=T at*
   generalize p[i]*d^(p.length-1-i)=M at*
   generalize d^(p.length-1-i)=D at*
   generalize Qas [a,b]=ab at*
   unfold rL at*
   repeat (first|(simp -implicitDefEqProofs only [go_sem,Nat.reduceAdd,Nat.reduceMul,Nat.reduceEqDiff,Nat.reduceLT,Nat.reduceLeDiff,reduceCtorEq,rI,di,List.map_cons,List.map_nil,List.length_map,hA',h0,hg,hwk,w1,w2,Int.toNat_natCast])|((with_reducible refine Qab (hpw) ?_ ?_ ?_);(with_reducible rfl);rfl)|((with_reducible refine Qab (hmu) ?_ ?_ ?_);(with_reducible rfl);rfl)|((with_reducible refine Qab (hsc) ?_ ?_ ?_);(with_reducible rfl);rfl)|((with_reducible refine Qab (had) ?_ ?_ ?_);(with_reducible rfl);rfl)|((with_reducible refine Qab (htr) ?_ ?_ ?_);(with_reducible rfl);rfl)|((with_reducible refine Qab (hml) ?_ ?_ ?_);(with_reducible rfl);rfl)|(with_reducible exact Qaa _ _ (by kernel_rfl))|(with_reducible refine And.intro (Qaa _ _ (by kernel_rfl)) ?_))
   refine⟨⟨i+1,hA⟩,by simp only;omega,Qaj (θ:=[(0,0),(1,1),(2,2)]) rfl ?_ ?_⟩
   ·simp only [hY1,hT1]
    simp [Qad,lkp,ren1,ren0]
   ·exact⟨⟨rfl,rfl,rfl,rfl,rfl,.inr ⟨rfl,_,_,rfl,rfl,rfl,rfl⟩⟩,⟨rfl,rfl,rfl,rfl,rfl,.inr ⟨rfl,_,_,rfl,rfl,rfl,rfl⟩⟩,⟨rfl,rfl,rfl,rfl,rfl,.inr ⟨rfl,_,_,rfl,rfl,rfl,rfl⟩⟩,trivial⟩
  ·have hA':=ltF hA
   obtain rfl:i=p.length:=by omega
   repeat (first|(simp -implicitDefEqProofs only [go_sem,Nat.reduceAdd,Nat.reduceMul,Nat.reduceEqDiff,Nat.reduceLT,Nat.reduceLeDiff,reduceCtorEq,rL,List.length_map,hA'])|(with_reducible exact Qaa _ _ (by kernel_rfl))|(with_reducible refine And.intro (Qaa _ _ (by kernel_rfl)) ?_))
end Go.Proofs.YtlpiamlgibomhaaGreat

namespace Go.Dg

structure Sg where
  f:Int
  t:Int
  o:Int
  x:List Int
  y:List Int
  z:List Int

/-- The weight of a coefficient in a control value,times 60. -/
def cw (n j k:Nat):Nat:=60/bin n k*bin j k
def ctl (c:List Int) (j:Nat):Int:=sm (fun k=>c.getD k 0*(cw (c.length-1) j k:Int)) (j+1)
/-- The first j control values are within the bounds. -/
def Qc6 (c:List Int) (o:Int) (j:Nat):Bool:=(List.range j).all fun j=>decide (((ctl c j).natAbs:Int)≤62914560*o)
def Qk0 (c:List Int):Bool:=decide (1≤c.length)&&(decide (c.length≤6)&&(decide (c.length≤1)|| !(c.getD (c.length-1) 0==0)))
def axOK (c:List Int) (o:Int):Bool:=Qk0 c&&Qc6 c o c.length
def gcdL (g:Nat) (c:List Int):Nat:=c.foldl (fun g x=>Nat.gcd g x.natAbs) g
def Sg.ax (s:Sg):List (List Int):=[s.x,s.y,s.z]
def rngS (s:Sg):Bool:=decide (0≤s.f)&&(decide (s.f<s.t)&&(decide (s.t≤3600000)&&(decide (1≤s.o)&&decide (s.o≤4294967296))))
def Qa2 (s:Sg):Bool:=rngS s&&((s.ax.all fun c=>axOK c s.o)&&(s.ax.foldl gcdL s.o.natAbs==1))

theorem Qd2 (g:Nat) (c:List Int) (x:Int):gcdL g (c++[x])=Nat.gcd (gcdL g c) x.natAbs:=by simp [gcdL]
theorem Qea {g:Nat} (c:List Int) {K:Nat} (hg:g<K) (hc: ∀x∈c,x.natAbs<K):gcdL g c<K:=by
  induction c generalizing g with
  |nil=>exact hg
  |cons x c ih=>
    refine ih (g:=Nat.gcd g x.natAbs) ?_ fun y hy=>hc y (by simp [hy])
    rcases Nat.eq_zero_or_pos g with h|h
    · subst h;rw [Nat.gcd_zero_left];exact hc x (by simp)
    · exact Nat.lt_of_le_of_lt (Nat.le_of_dvd h (Nat.gcd_dvd_left _ _)) hg
theorem Qfi (c:List Int) (o:Int) (j:Nat):Qc6 c o (j+1)=(Qc6 c o j&&decide (((ctl c j).natAbs:Int)≤62914560*o)):=by
  simp [Qc6,List.range_succ]
theorem Qpm {c:List Int} {o:Int} {j m:Nat} (h:Qc6 c o j=false) (hm:j≤m):Qc6 c o m=false:=by
  induction m with
  |zero=>obtain rfl:j=0:=by omega
         exact h
  |succ m ih=>
    rw [Qfi]
    by_cases e:j=m+1
    · subst e;rw [Qfi]at h;exact h
    · rw [ih (by omega)];rfl
theorem Zhq (n j k:Nat) (hj:j≤5):cw n j k≤1920:=by
  unfold cw
  have h1:60/bin n k≤60:=Nat.div_le_self _ _
  have h2:=Qg6 j k
  have h3:2^j≤2^5:=Nat.pow_le_pow_right (by decide) hj
  have h4:=Nat.mul_le_mul h1 (Nat.le_trans h2 h3)
  omega
theorem Qg8 {c:List Int} {B n j:Nat} (hc:bd B c) (hj:j≤5) (m:Nat) (hm:m≤6):(sm (fun k=>c.getD k 0*(cw n j k:Int)) m).natAbs<2^(B+11+7):=by
  refine Qte (by omega) fun i hi=> ?_
  rw [Int.natAbs_mul,Nat.pow_add]
  refine Nat.mul_lt_mul'' (Qc5 hc i) ?_
  rw [Int.natAbs_natCast]
  have:=Zhq n j i hj
  omega
/-- A coordinate at a/d,times the denominator to the power of 5. -/
def plcT (c:List Int) (a d:Int) (k:Nat):Int:=c.getD k 0*(a^k*d^(5-k))
def plc (c:List Int) (a d:Int):Int:=sm (plcT c a d) c.length
def plP (s:Sg) (a d:Int) (i:Nat):Int:=plc (s.ax.getD i []) a d
def plG (s:Sg) (a d:Int) (i:Nat):Nat:=gcdL (s.o*d^5).natAbs ((List.range i).map (plP s a d))
def at3 (P:Nat→Int) (i m:Nat):Int:=if m<i then P m else 0
theorem Qfy (s:Sg) (a d:Int) (i:Nat):plG s a d (i+1)=Nat.gcd (plG s a d i) (plP s a d i).natAbs:=by
  unfold plG;rw [List.range_succ,List.map_append];exact Qd2 _ _ _
theorem Qh1 {c:List Int} {a d:Int} {B:Nat} (hc:bd B c) (ha:a.natAbs<2^B) (hd:d.natAbs<2^B) (k:Nat) (hk:k≤5):
    (a^k).natAbs<2^(B*5+1)∧(d^(5-k)).natAbs<2^(B*5+1)∧(a^k*d^(5-k)).natAbs<2^(B*5+1+(B*5+1))∧(plcT c a d k).natAbs<2^(B+(B*5+1+(B*5+1))):=by
  have h1:(a^k).natAbs<2^(B*5+1):=Nat.lt_of_lt_of_le (Qbu ha k) (Nat.pow_le_pow_right (by decide) (by have:=Nat.mul_le_mul_left B hk;omega))
  have h2:(d^(5-k)).natAbs<2^(B*5+1):=Nat.lt_of_lt_of_le (Qbu hd (5-k)) (Nat.pow_le_pow_right (by decide) (by have:=Nat.mul_le_mul_left B (show 5-k≤5 by omega);omega))
  have h3:(a^k*d^(5-k)).natAbs<2^(B*5+1+(B*5+1)):=by rw [Int.natAbs_mul,Nat.pow_add];exact Nat.mul_lt_mul'' h1 h2
  refine⟨h1,h2,h3,?_⟩
  unfold plcT
  rw [Int.natAbs_mul,Nat.pow_add _ B]
  exact Nat.mul_lt_mul'' (Qc5 hc k) h3
theorem Qdx {c:List Int} {a d:Int} {B:Nat} (hc:bd B c) (ha:a.natAbs<2^B) (hd:d.natAbs<2^B) (m:Nat) (hm:m≤6):(sm (plcT c a d) m).natAbs<2^(B+(B*5+1+(B*5+1))+7):=
  Qte (by omega) fun i hi=>(Qh1 hc ha hd i (by omega)).2.2.2
theorem Qtg {s:Sg} {a d:Int} (ho:1≤s.o) (hd:1≤d) (i:Nat):0<plG s a d i:=by
  induction i with
  |zero=>
    show 0<(s.o*d^5).natAbs
    have h:0<s.o*d^5:=Int.mul_pos (by omega) (Int.pow_pos (by omega))
    omega
  |succ i ih=>rw [Qfy];exact Nat.gcd_pos_of_pos_left _ ih
theorem Q86 {s:Sg} {d:Int} {B:Nat} (ho:s.o.natAbs<2^B) (hd:d.natAbs<2^B):(s.o*d^5).natAbs<2^(B+(B*5+1)):=by
  rw [Int.natAbs_mul,Nat.pow_add _ B]
  exact Nat.mul_lt_mul'' ho (Qbu hd 5)
theorem Qv1 {s:Sg} {a d:Int} {B:Nat} (hc: ∀c∈s.ax,bd B c) (h6: ∀c∈s.ax,c.length≤6) (ha:a.natAbs<2^B) (hd:d.natAbs<2^B) (i:Nat) (hi:i<3):
    (plP s a d i).natAbs<2^(B+(B*5+1+(B*5+1))+7):=by
  have hi':i<s.ax.length:=hi
  have hm:s.ax.getD i []=s.ax[i]:=by rw [List.getD_eq_getElem?_getD,List.getElem?_eq_getElem hi'];rfl
  unfold plP plc
  rw [hm]
  exact Qdx (hc _ (List.getElem_mem hi')) ha hd _ (h6 _ (List.getElem_mem hi'))
theorem Zny {s:Sg} {a d:Int} {B:Nat} (hc: ∀c∈s.ax,bd B c) (h6: ∀c∈s.ax,c.length≤6) (ho:s.o.natAbs<2^B) (ha:a.natAbs<2^B) (hd:d.natAbs<2^B) (i:Nat) (hi:i≤3):
    ((plG s a d i:Nat):Int).natAbs<2^(B+(B*5+1+(B*5+1))+7):=by
  rw [Int.natAbs_natCast]
  refine Qea _ (Nat.lt_of_lt_of_le (Q86 ho hd) (Nat.pow_le_pow_right (by decide) (by omega))) ?_
  intro x hx
  simp only [List.mem_map,List.mem_range]at hx
  obtain⟨m,hm,rfl⟩:=hx
  exact Qv1 hc h6 ha hd m (by omega)
end Go.Dg

namespace Go.Proofs.YtlpiamlgibomhaaGreat
open Go.Vl Go.RowKit Go.Dg
theorem Qgo {x y:Int} (hx:x.natAbs<2^65536) (hy:y.natAbs<2^65536) (h:(x+y).natAbs<2^65536):Qaf Tryz.prog 63 [wPV x,wPV y] (wPV (x+y)):=by
 have h1:=Zgy hx hy
 rw [Qio h]at h1
 generalize x+y=S at*
 refine Qac (tb:=[]) 14 [.cell 4 31] [0,1,2,3,4,5] mixed Tryz.func63 rfl (by kernel_rfl) (by kernel_rfl) (by kernel_rfl) (by kernel_rfl) ?_
 repeat (first|(simp -implicitDefEqProofs only [go_sem,Nat.reduceAdd,Nat.reduceMul,Nat.reduceEqDiff,Nat.reduceLT,Nat.reduceLeDiff,reduceCtorEq,wPV])|((with_reducible refine Qab (h1) ?_ ?_ ?_);(with_reducible rfl);rfl))
theorem Qgp {x y:Int} (hx:x.natAbs<2^65536) (hy:y.natAbs<2^65536) (h:(x*y).natAbs<2^65536):Qaf Tryz.prog 88 [wPV x,wPV y] (wPV (x*y)):=by
 have h1:=Zgx hx hy
 rw [Qio h]at h1
 generalize x*y=S at*
 refine Qac (tb:=[]) 14 [.cell 4 31] [0,1,2,3,4,5] mixed Tryz.func88 rfl (by kernel_rfl) (by kernel_rfl) (by kernel_rfl) (by kernel_rfl) ?_
 repeat (first|(simp -implicitDefEqProofs only [go_sem,Nat.reduceAdd,Nat.reduceMul,Nat.reduceEqDiff,Nat.reduceLT,Nat.reduceLeDiff,reduceCtorEq,wPV])|((with_reducible refine Qab (h1) ?_ ?_ ?_);(with_reducible rfl);rfl))
theorem Zik {a b K:Nat} (ha:a<K) (hb:b<K):Nat.gcd a b<K:=by
 rcases Nat.eq_zero_or_pos a with h|h
 ·subst h;rw [Nat.gcd_zero_left];exact hb
 ·exact Nat.lt_of_le_of_lt (Nat.le_of_dvd h (Nat.gcd_dvd_left _ _)) ha
theorem Qod {x y:Int} (hx:x.natAbs<2^65536) (hy:y.natAbs<2^65536):Qaf Tryz.prog 50 [wPV x,wPV y] (wPV ((Nat.gcd x.natAbs y.natAbs:Nat):Int)):=by
 have h1:=Zoq hx hy
 rw [Qio (by rw [Int.natAbs_natCast];exact Zik hx hy)]at h1
 generalize ((Nat.gcd x.natAbs y.natAbs:Nat):Int)=S at*
 refine Qac (tb:=[]) 14 [.cell 4 31] [0,1,2,3,4,5] mixed Tryz.func50 rfl (by kernel_rfl) (by kernel_rfl) (by kernel_rfl) (by kernel_rfl) ?_
 repeat (first|(simp -implicitDefEqProofs only [go_sem,Nat.reduceAdd,Nat.reduceMul,Nat.reduceEqDiff,Nat.reduceLT,Nat.reduceLeDiff,reduceCtorEq,wPV])|((with_reducible refine Qab (h1) ?_ ?_ ?_);(with_reducible rfl);rfl))
theorem Q10 {n:Int} (h:n.natAbs<2^65536):outN n=n:=by rw [outN,if_neg (Nat.not_lt.2 (Qdo 65536 _ h))]
theorem Qwe {x y:Int} {B:Nat} (hx:x.natAbs<2^B) (hy:0<y):(x/y).natAbs<2^B∨(x/y).natAbs≤2^B:=by
 right
 obtain⟨m,rfl⟩: ∃m:Nat,y=(m+1:Nat):=⟨y.toNat-1,by omega⟩
 have:=Int.natAbs_ediv_le_natAbs x ((m+1:Nat):Int)
 omega
theorem Qij {x y:Int} {B:Nat} (hx:x.natAbs<2^B) (hB:B≤65000) (hy:y.natAbs<2^65000) (h0:0<y):Qaf Tryz.prog 62 [wPV x,wPV y] (wPV (x/y)):=by
 have h1:=Zot (Qau hx (by omega)) (Qau hy (by omega)) (show y≠0 by omega)
 have hq:(x/y).natAbs<2^(B+1):=by
  rw [Nat.pow_succ]
  have h2:0<2^B:=Nat.two_pow_pos B
  rcases Qwe hx h0 with h|h<;>omega
 have hr:(x%y).natAbs<2^65000:=by
  have h2:=Int.emod_nonneg x (show y≠0 by omega)
  have h3:=Int.emod_lt_of_pos x h0
  generalize 2^65000=K at*
  omega
 unfold Ze4 at h1
 rw [Q10 (Qau hq (by omega)),Q10 (Qau hr (by omega))]at h1
 generalize x/y=S at*
 generalize x%y=R at*
 refine Qac (tb:=[]) 16 [.cell 4 31] [0,1,2,3,4,5] mixed Tryz.func62 rfl (by kernel_rfl) (by kernel_rfl) (by kernel_rfl) (by kernel_rfl) ?_
 repeat (first|(simp -implicitDefEqProofs only [go_sem,Nat.reduceAdd,Nat.reduceMul,Nat.reduceEqDiff,Nat.reduceLT,Nat.reduceLeDiff,reduceCtorEq,wPV])|((with_reducible refine Qab (h1) ?_ ?_ ?_);(with_reducible rfl);rfl))
theorem Qik {n:Int} {B:Nat} (h:n.natAbs<2^B) (k:Nat):(n^k).natAbs<2^(B*k+1):=Qbu h k
theorem Qdd (n:Int) (k B:Nat) (hn: -9223372036854775808≤n) (hn2:n≤9223372036854775807) (hk:k≤100) (hB:B≤600) (hb:n.natAbs<2^B):Qaf Tryz.prog 99 [.int .i64 n,.int .i64 (k:Int)] (wPV (n^k)):=by
 have h1:=Qe7 1 (by decide) (by decide)
 have h2:=Qe7 n hn hn2
 refine Qac (tb:=[]) 16 [.cell 4 31] [0,1,4,5,7,8,9] mixed Tryz.func99 rfl (by kernel_rfl) (by kernel_rfl) (by kernel_rfl) (by kernel_rfl) ?_
 repeat (first|(simp -implicitDefEqProofs only [go_sem,Nat.reduceAdd,Nat.reduceMul,Nat.reduceEqDiff,Nat.reduceLT,Nat.reduceLeDiff,reduceCtorEq,Int.reduceLT,wPV])|((with_reducible refine Qab (h1) ?_ ?_ ?_);(with_reducible rfl);rfl)|(with_reducible exact Qaa _ _ (by kernel_rfl))|(with_reducible refine And.intro (Qaa _ _ (by kernel_rfl)) ?_))
 refine Qao mixed (fun i:{i:Nat // i≤k}=>St.of [(0,.int .i64 n),(4,.bp 0 2 0 0),(5,.bp 101 2 0 0),(7,.int .i64 (k:Int)),(8,.int .i64 (i.1:Int))]
  [(0,{els:=[.agg [.bool false,.str ⟨#[]⟩]],esz:=2,ety:=31,fro:=0,live:=true,arr:=false}),(101,{els:=[wPV (n^i.1)],esz:=2,ety:=31,fro:=0,live:=true,arr:=false})]) (fun i=>k-i.1) ⟨0,Nat.zero_le _⟩ ?_ ?_
 ·refine Qaj (θ:=[(0,0),(101,101)]) rfl ?_ ?_
  ·simp [Qad,lkp,ren1,ren0,Qam]
  ·refine⟨⟨rfl,rfl,rfl,rfl,rfl,.inr ⟨rfl,_,_,rfl,rfl,rfl,rfl⟩⟩,⟨rfl,rfl,rfl,rfl,rfl,.inr ⟨rfl,_,_,rfl,rfl,?_,rfl⟩⟩,trivial⟩
   simp only [Int.pow_zero];rfl
 ·rintro⟨i,hi⟩
  by_cases hA:i<k
  ·have hA':=ltT hA
   have hwk:=Qah (a:=i) (by omega)
   have hp:=Qik hb i
   have hp1:=Qik hb (i+1)
   have hBk:B*(i+1)≤600*100:=Nat.mul_le_mul hB (by omega)
   have hBi:B*i≤B*(i+1):=Nat.mul_le_mul_left _ (by omega)
   have e:n^(i+1)=n^i*n:=Int.pow_succ n i
   rw [e]at hp1
   have hm:=Qgp (Qau hp (by omega)) (Qau hb (by omega)) (Qau hp1 (by omega))
   rw [←e]at hm
   generalize hX:n^(i+1)=Y at*
   generalize n^i=Z at*
   repeat (first|(simp -implicitDefEqProofs only [go_sem,Nat.reduceAdd,Nat.reduceMul,Nat.reduceEqDiff,Nat.reduceLT,Nat.reduceLeDiff,reduceCtorEq,wPV,hA',hwk])|((with_reducible refine Qab (h2) ?_ ?_ ?_);(with_reducible rfl);rfl)|((with_reducible refine Qab (hm) ?_ ?_ ?_);(with_reducible rfl);rfl)|(with_reducible exact Qaa _ _ (by kernel_rfl))|(with_reducible refine And.intro (Qaa _ _ (by kernel_rfl)) ?_))
   refine⟨⟨i+1,hA⟩,by simp only;omega,Qaj (θ:=[(0,0),(101,101)]) rfl ?_ ?_⟩
   ·simp [Qad,lkp,ren1,ren0,Qam]
   ·simp only [hX]
    exact⟨⟨rfl,rfl,rfl,rfl,rfl,.inr ⟨rfl,_,_,rfl,rfl,rfl,rfl⟩⟩,⟨rfl,rfl,rfl,rfl,rfl,.inr ⟨rfl,_,_,rfl,rfl,rfl,rfl⟩⟩,trivial⟩
  ·have hA':=ltF hA
   obtain rfl:i=k:=by omega
   generalize n^i=Z at*
   repeat (first|(simp -implicitDefEqProofs only [go_sem,Nat.reduceAdd,Nat.reduceMul,Nat.reduceEqDiff,Nat.reduceLT,Nat.reduceLeDiff,reduceCtorEq,wPV,hA'])|(with_reducible exact Qaa _ _ (by kernel_rfl))|(with_reducible refine And.intro (Qaa _ _ (by kernel_rfl)) ?_))
end Go.Proofs.YtlpiamlgibomhaaGreat

namespace Go.Proofs.YtlpiamlgibomhaaGreat
open Go.Vl Go.RowKit Go.Dg
def Qrl:List PV:=(List.range 36).map fun i=> .int .i64 (bin (i/6) (i%6):Int)
theorem Q2a:Qaf Tryz.prog 87 [] (.agg Qrl):=Q8k mixed 200 5 (by kernel_rfl)
theorem Qrm (n k:Nat) (hn:n<6) (hk:k<6):Qrl[n*6+k*1]? =some (.int .i64 (bin n k:Int)):=by
 unfold Qrl
 rw [List.getElem?_map,List.getElem?_range (by omega)]
 have h1:(n*6+k*1)/6=n:=by omega
 have h2:(n*6+k*1)%6=k:=by omega
 show some (PV.int .i64 (bin ((n*6+k*1)/6) ((n*6+k*1)%6):Int))=_
 rw [h1,h2]
theorem Qyb:Qrl.all Qux=true:=by kernel_rfl
theorem Q9u:Qrl.all PV.okCell=true:=by kernel_rfl
theorem Q2b:Qrl.length=36:=by kernel_rfl
theorem Zob:wPV 0= .agg [.bool false,.str ⟨#[]⟩]:=by unfold wPV;rw [(Qqa 0).2 rfl];rfl
theorem Q2c (c:List Int) (o:Int) (h1:1≤c.length) (h6:c.length≤6) (hc: ∀x∈c, -9223372036854775808≤x∧x≤9223372036854775807) (ho:1≤o) (ho2:o≤4294967296):
  Qaf Tryz.prog 49 [Qan c,.int .i64 o] (.bool (Qc6 c o c.length)):=by
 have hch:=Q2a
 have w1:=Qe7 62914560 (by decide) (by decide)
 have w2:=Qe7 o (by omega) (by omega)
 have p64:(2:Nat)^64=18446744073709551616:=rfl
 have b1:(62914560:Int).natAbs<2^64:=by decide
 have b2:o.natAbs<2^64:=by omega
 have b3:(62914560*o).natAbs<2^128:=Qgq b1 b2
 have m1:=Qgp (Qau b1 (by decide)) (Qau b2 (by decide)) (Qau b3 (by decide))
 have hcb:bd 64 c:=fun x hx=>by have:=hc x hx;omega
 have wl:=Qdh (n:=c.length) (by omega) (by omega)
 generalize hM:62914560*o=M at*
 refine Qac (tb:=[]) 57 [.tmp 4] [0,1,4,5,6,7,8,9,10,20,21,22,25,26,27,55] mixed Tryz.func49 rfl (by kernel_rfl) (by kernel_rfl) (by kernel_rfl) (by kernel_rfl) ?_
 repeat (first|(simp -implicitDefEqProofs only [go_sem,Nat.reduceAdd,Nat.reduceMul,Nat.reduceEqDiff,Nat.reduceLT,Nat.reduceLeDiff,reduceCtorEq,Int.reduceLT,wPV,Qan,List.length_map,wl,Q2b,Qyb,Q9u])|((with_reducible refine Qab (hch) ?_ ?_ ?_);(with_reducible rfl);rfl)|((with_reducible refine Qab (w1) ?_ ?_ ?_);(with_reducible rfl);rfl)|((with_reducible refine Qab (w2) ?_ ?_ ?_);(with_reducible rfl);rfl)|((with_reducible refine Qab (m1) ?_ ?_ ?_);(with_reducible rfl);rfl)|(with_reducible exact Qaa _ _ (by kernel_rfl))|(with_reducible refine And.intro (Qaa _ _ (by kernel_rfl)) ?_))
 refine Qao mixed (fun j:{j:Nat // j≤c.length∧Qc6 c o j=true}=>St.of [(0,Qan c),(4,.bool false),(5,.bp 101 36 0 0),(6,.bp 204 2 0 0),(7,.int .i64 ((c.length-1:Nat):Int)),(20,.int .i64 (c.length:Int)),(21,.int .i64 (j.1:Int))]
  [(101,{els:=[.agg Qrl],esz:=36,ety:=131,fro:=0,live:=true,arr:=false}),(204,{els:=[wPV M],esz:=2,ety:=31,fro:=0,live:=true,arr:=false})]) (fun j=>c.length-j.1) ⟨0,Nat.zero_le _,rfl⟩ ?_ ?_
 ·refine Qaj (θ:=[(101,101),(204,204)]) rfl ?_ ?_
  ·simp [Qad,lkp,ren1,ren0,Qam,Qan]
  ·exact⟨⟨rfl,rfl,rfl,rfl,rfl,.inr ⟨rfl,_,_,rfl,rfl,rfl,rfl⟩⟩,⟨rfl,rfl,rfl,rfl,rfl,.inr ⟨rfl,_,_,rfl,rfl,rfl,rfl⟩⟩,trivial⟩
 ·rintro⟨j,hj,hall⟩
  by_cases hA:j<c.length
  ·have hA':=ltT hA
   have hwk:=Qah (a:=j) (by omega)
   repeat (first|(simp -implicitDefEqProofs only [go_sem,Nat.reduceAdd,Nat.reduceMul,Nat.reduceEqDiff,Nat.reduceLT,Nat.reduceLeDiff,reduceCtorEq,hA',hwk])|(with_reducible exact Qaa _ _ (by kernel_rfl))|(with_reducible refine And.intro (Qaa _ _ (by kernel_rfl)) ?_))
   refine Qao mixed (fun k:{k:Nat // k≤j+1}=>St.of [(0,Qan c),(4,.bool false),(5,.bp 101 36 0 0),(6,.bp 204 2 0 0),(7,.int .i64 ((c.length-1:Nat):Int)),(20,.int .i64 (c.length:Int)),(21,.int .i64 (j:Int)),(8,.int .i64 (j:Int)),(9,.bp 700 2 0 0),(25,.int .i64 ((j+1:Nat):Int)),(26,.int .i64 (k.1:Int))]
    [(101,{els:=[.agg Qrl],esz:=36,ety:=131,fro:=0,live:=true,arr:=false}),(204,{els:=[wPV M],esz:=2,ety:=31,fro:=0,live:=true,arr:=false}),(700,{els:=[wPV (sm (fun k=>c.getD k 0*(cw (c.length-1) j k:Int)) k.1)],esz:=2,ety:=31,fro:=0,live:=true,arr:=false})]) (fun k=>j+1-k.1) ⟨0,Nat.zero_le _⟩ ?_ ?_
   ·refine Qaj (θ:=[(101,101),(204,204),(700,700)]) rfl ?_ ?_
    ·simp [Qad,lkp,ren1,ren0,Qam,Qan]
    ·refine⟨⟨rfl,rfl,rfl,rfl,rfl,.inr ⟨rfl,_,_,rfl,rfl,rfl,rfl⟩⟩,⟨rfl,rfl,rfl,rfl,rfl,.inr ⟨rfl,_,_,rfl,rfl,rfl,rfl⟩⟩,⟨rfl,rfl,rfl,rfl,rfl,.inr ⟨rfl,_,_,rfl,rfl,?_,rfl⟩⟩,trivial⟩
     simp only [sm];rw [Zob];rfl
   ·rintro⟨k,hk⟩
    by_cases hB:k<j+1
    ·have hB':=ltT hB
     have hkc:k<c.length:=by omega
     have h0:=nnT k
     have hg:=Qbx c k hkc
     have hwk2:=Qah (a:=k) (by omega)
     have g1:=Qrm (c.length-1) k (by omega) (by omega)
     have g2:=Qrm j k (by omega) (by omega)
     have hb0:((bin (c.length-1) k:Int)=0)=False:=eq_false (by have:=Qta (n:=c.length-1) (k:=k) (by omega);omega)
     have t1:Int.tdiv 60 (bin (c.length-1) k:Int)=((60/bin (c.length-1) k:Nat):Int):=Qp6 60 _
     have d60:60/bin (c.length-1) k≤60:=Nat.div_le_self _ _
     have wk1:IntKind.i64.wrap ((60/bin (c.length-1) k:Nat):Int)=((60/bin (c.length-1) k:Nat):Int):=wrapn (by omega)
     have hcw:=Zhq (c.length-1) j k (by omega)
     have ecw:((60/bin (c.length-1) k:Nat):Int)*(bin j k:Int)=(cw (c.length-1) j k:Int):=by rw [cw,Int.natCast_mul]
     have wk2:IntKind.i64.wrap (cw (c.length-1) j k:Int)=(cw (c.length-1) j k:Int):=wrapn (by omega)
     obtain⟨k1,k2⟩:=hc _ (List.getElem_mem hkc)
     have o1:=Qe7 c[k] k1 k2
     have o2:=Qe7 (cw (c.length-1) j k:Int) (by omega) (by omega)
     have x1:(c[k]).natAbs<2^64:=hcb _ (List.getElem_mem hkc)
     have x2:(cw (c.length-1) j k:Int).natAbs<2^11:=by rw [Int.natAbs_natCast];omega
     have m2:=Qgp (Qau x1 (by decide)) (Qau x2 (by decide)) (Qau (Qgq x1 x2) (by decide))
     have y1:=Qg8 (n:=c.length-1) (j:=j) hcb (by omega) k (by omega)
     have y2:=Qg8 (n:=c.length-1) (j:=j) hcb (by omega) (k+1) (by omega)
     have es:sm (fun k=>c.getD k 0*(cw (c.length-1) j k:Int)) (k+1)=sm (fun k=>c.getD k 0*(cw (c.length-1) j k:Int)) k+c[k]*(cw (c.length-1) j k:Int):=by simp only [sm];rw [Qb1 hkc]
     rw [es]at y2
     have a1:=Qgo (Qau y1 (by decide)) (Qau (Qgq x1 x2) (by decide)) (Qau y2 (by decide))
     rw [←es]at a1
     generalize hX:sm (fun k=>c.getD k 0*(cw (c.length-1) j k:Int)) (k+1)=X at*
     generalize sm (fun k=>c.getD k 0*(cw (c.length-1) j k:Int)) k=Y at*
     generalize c[k]*(cw (c.length-1) j k:Int)=Z at*
     generalize (cw (c.length-1) j k:Int)=V at*
     have l1:=ltT (show c.length-1<6 by omega)
     have l2:=ltT (show k<6 by omega)
     have l3:=ltT (show j<6 by omega)
     have n1:=nnT (c.length-1)
     have n2:=nnT j
     repeat (first|(simp -implicitDefEqProofs only [go_sem,Nat.reduceAdd,Nat.reduceMul,Nat.reduceEqDiff,Nat.reduceLT,Nat.reduceLeDiff,reduceCtorEq,Qan,wPV,hB',h0,l1,l2,l3,n1,n2,hg,hwk2,g1,g2,hb0,t1,wk1,ecw,wk2,Int.toNat_natCast,List.length_map])|((with_reducible refine Qab (o1) ?_ ?_ ?_);(with_reducible rfl);rfl)|((with_reducible refine Qab (o2) ?_ ?_ ?_);(with_reducible rfl);rfl)|((with_reducible refine Qab (m2) ?_ ?_ ?_);(with_reducible rfl);rfl)|((with_reducible refine Qab (a1) ?_ ?_ ?_);(with_reducible rfl);rfl)|(with_reducible exact Qaa _ _ (by kernel_rfl))|(with_reducible refine And.intro (Qaa _ _ (by kernel_rfl)) ?_))
     refine⟨⟨k+1,hB⟩,by simp only;omega,Qaj (θ:=[(101,101),(204,204),(700,700)]) rfl ?_ ?_⟩
     ·simp [Qad,lkp,ren1,ren0,Qam,Qan]
     ·simp only [hX]
      exact⟨⟨rfl,rfl,rfl,rfl,rfl,.inr ⟨rfl,_,_,rfl,rfl,rfl,rfl⟩⟩,⟨rfl,rfl,rfl,rfl,rfl,.inr ⟨rfl,_,_,rfl,rfl,rfl,rfl⟩⟩,⟨rfl,rfl,rfl,rfl,rfl,.inr ⟨rfl,_,_,rfl,rfl,rfl,rfl⟩⟩,trivial⟩
    ·have hB':=ltF hB
     obtain rfl:k=j+1:=by omega
     have ec:sm (fun k=>c.getD k 0*(cw (c.length-1) j k:Int)) (j+1)=ctl c j:=rfl
     simp only [ec]
     have y3:=Qg8 (n:=c.length-1) (j:=j) hcb (by omega) (j+1) (by omega)
     rw [ec]at y3
     have y4:(((ctl c j).natAbs:Nat):Int).natAbs<2^(64+11+7):=by rw [Int.natAbs_natCast];exact y3
     have hcm:=Qok (Qau y4 (by decide)) (Qau b3 (by decide))
     have ea:wPV (((ctl c j).natAbs:Nat):Int)= .agg [.bool false,.str ⟨(magL (ctl c j).natAbs).toArray⟩]:=by
      unfold wPV
      have:decide ((((ctl c j).natAbs:Nat):Int)<0)=false:=by simp
      rw [this,Int.natAbs_natCast]
     rw [ea]at hcm
     by_cases hle:((ctl c j).natAbs:Int)≤M
     ·have hs:((0:Int)<((((ctl c j).natAbs:Nat):Int)-M).sign)=False:=eq_false (by have:=Int.sign_nonpos_iff.2 (show(((ctl c j).natAbs:Nat):Int)-M≤0 by omega);omega)
      have hn:Qc6 c o (j+1)=true:=by rw [Qfi,hall,hM];simp [hle]
      generalize ctl c j=X at*
      repeat (first|(simp -implicitDefEqProofs only [go_sem,Nat.reduceAdd,Nat.reduceMul,Nat.reduceEqDiff,Nat.reduceLT,Nat.reduceLeDiff,reduceCtorEq,wPV,hB',hs,hwk])|((with_reducible refine Qab (hcm) ?_ ?_ ?_);(with_reducible rfl);rfl)|(with_reducible exact Qaa _ _ (by kernel_rfl))|(with_reducible refine And.intro (Qaa _ _ (by kernel_rfl)) ?_))
      refine⟨⟨j+1,hA,hn⟩,by simp only;omega,Qaj (θ:=[(101,101),(204,204)]) rfl ?_ ?_⟩
      ·simp [Qad,lkp,ren1,ren0,Qam,Qan]
      ·exact⟨⟨rfl,rfl,rfl,rfl,rfl,.inr ⟨rfl,_,_,rfl,rfl,rfl,rfl⟩⟩,⟨rfl,rfl,rfl,rfl,rfl,.inr ⟨rfl,_,_,rfl,rfl,rfl,rfl⟩⟩,trivial⟩
     ·have hs:((0:Int)<((((ctl c j).natAbs:Nat):Int)-M).sign)=True:=eq_true (Int.sign_pos_iff.2 (by omega))
      have hn:Qc6 c o c.length=false:=Qpm (j:=j+1) (by rw [Qfi,hall,hM];simp;omega) hA
      generalize ctl c j=X at*
      repeat (first|(simp -implicitDefEqProofs only [go_sem,Nat.reduceAdd,Nat.reduceMul,Nat.reduceEqDiff,Nat.reduceLT,Nat.reduceLeDiff,reduceCtorEq,wPV,hB',hs,hn])|((with_reducible refine Qab (hcm) ?_ ?_ ?_);(with_reducible rfl);rfl)|(with_reducible exact Qaa _ _ (by kernel_rfl))|(with_reducible refine And.intro (Qaa _ _ (by kernel_rfl)) ?_))
  ·have hA':=ltF hA
   obtain rfl:j=c.length:=by omega
   repeat (first|(simp -implicitDefEqProofs only [go_sem,Nat.reduceAdd,Nat.reduceMul,Nat.reduceEqDiff,Nat.reduceLT,Nat.reduceLeDiff,reduceCtorEq,hA',hall])|(with_reducible exact Qaa _ _ (by kernel_rfl))|(with_reducible refine And.intro (Qaa _ _ (by kernel_rfl)) ?_))
end Go.Proofs.YtlpiamlgibomhaaGreat
