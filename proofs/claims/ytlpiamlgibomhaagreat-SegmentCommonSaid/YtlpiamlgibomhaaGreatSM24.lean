/-
  Dso, SM18, SM19, SM20, SM21, SM22, SM23, SM24 (merged for the claim).
-/
import Derived.Test.YtlpiamlgibomhaaGreatUYG
set_option linter.unusedSimpArgs false
set_option linter.unusedVariables false
namespace Go.Dg
theorem Qtn {s:Sg} (hv:Qa2 s=true):0<ptO s:=by
 obtain⟨⟨v1,v2,v3,v4,v5⟩, -, -⟩:=Qa3 hv
 exact Int.mul_pos (by omega) (Int.pow_pos (by omega))
theorem Zge {s:Sg} {a b:Int} (hv:Qa2 s=true) (h1:s.f≤a) (h2:a≤b) (h3:b≤s.t) (hf:Qh3 (ptL s a b) (ptO s)=true):
  ∀i,i<3→ ∀x∈ptL s a b i,(x/(mdG (ptL s a b) (ptO s) 3:Int)).natAbs≤4611686018427387904:=by
 intro i hi x hx
 have h:=Zn2 hv h1 h2 h3 i hi
 have h4:=Zhz hx
 have h5:=Zn1 (Qtn hv) hf hi hx (K:=254803968) (by omega) (by decide)
 omega
theorem Q9i {c:List Int} {o:Int} (h:axOK c o=true):(5:Int)-max 0 (((Qas c).length:Int)-1)=((6-c.length:Nat):Int):=by
 obtain⟨l1,l6,l3, -⟩:=Qb7 h
 rcases Qx7 l3 l1 with e|e
 ·rw [e];omega
 ·subst e;decide
def ptS (s:Sg) (a b:Int):Sg:=Qrd a b (ptL s a b) (ptO s)
def ptF (s:Sg) (a b:Int):Bool:=Qh3 (ptL s a b) (ptO s)
def spans:List Sg→Int→Int→List (Sg×Int×Int)
 | [],_,_=>[]
 |s::r,f,t=>if max f s.f≥min t s.t then spans r f t else(s,max f s.f,min t s.t)::spans r f t
def spF (x:Sg×Int×Int):Bool:=ptF x.1 x.2.1 x.2.2
def spS (x:Sg×Int×Int):Sg:=ptS x.1 x.2.1 x.2.2
theorem Qe9 (p q:List Sg) (f t:Int):spans (p++q) f t=spans p f t++spans q f t:=by
 induction p with
 |nil=>rfl
 |cons x p ih=>simp only [List.cons_append,spans,ih];split<;>rfl
theorem Qn7 (p:List Sg) (s:Sg) (f t:Int):spans (p++[s]) f t=spans p f t++(if max f s.f≥min t s.t then []else [(s,max f s.f,min t s.t)]):=by
 rw [Qe9];simp only [spans]
theorem Q1m {p:List Sg} {f t:Int} (i:Nat) (h:(spans (p.take i) f t).all spF=false):(spans p f t).all spF=false:=by
 have:=Qe9 (p.take i) (p.drop i) f t
 rw [List.take_append_drop]at this
 rw [this,List.all_append,h,Bool.false_and]
theorem Qb8 (p:List Sg) (f t:Int):(spans p f t).length≤p.length:=by
 induction p with
 |nil=>exact Nat.le_refl _
 |cons x p ih=>
  simp only [spans];split
  ·simp only [List.length_cons];omega
  ·simp only [List.length_cons];omega
theorem Q1n {p:List Sg} {f t:Int} {x:Sg×Int×Int} (h:x∈spans p f t):x.1∈p∧x.2.1=max f x.1.f∧x.2.2=min t x.1.t∧x.2.1<x.2.2:=by
 induction p with
 |nil=>cases h
 |cons s p ih=>
  simp only [spans]at h
  split at h
  ·obtain⟨h1,h2⟩:=ih h
   exact⟨List.mem_cons_of_mem _ h1,h2⟩
  ·cases h with
   |head=>exact⟨List.mem_cons_self,rfl,rfl,by simp only;omega⟩
   |tail _ h=>
    obtain⟨h1,h2⟩:=ih h
    exact⟨List.mem_cons_of_mem _ h1,h2⟩
end Go.Dg

namespace Go.Proofs.YtlpiamlgibomhaaGreat
open Go.Vl Go.RowKit Go.Dg
attribute [go_sem] Q8o Qvm
theorem Zip (l:List Int) (hl:l.length≤1000) (hb: ∀x∈l,i64 x):Qaf Tryz.prog 81 [Qan l] (rL (Qas l)):=by
 refine Qac (tb:=[]) 21 [.tmp 2] [0,2,3,4,8] mixed Tryz.func81 rfl (by kernel_rfl) (by kernel_rfl) (by kernel_rfl) (by kernel_rfl) ?_
 simp -implicitDefEqProofs only [go_sem,Nat.reduceAdd,Nat.reduceMul,Nat.reduceEqDiff,Nat.reduceLT,Nat.reduceLeDiff,reduceCtorEq,Qan]
 refine Qao mixed (fun i:{i:Nat // i≤l.length}=>St.of [(0,Qan l),(3,.bs 7 2 0 i.1),(4,.int .i64 (i.1:Int))]
  [(7,{els:=(l.take i.1).map rI,esz:=2,ety:=44,fro:=0,live:=true,arr:=true})]) (fun i=>l.length-i.1) ⟨0,Nat.zero_le _⟩ ?_ ?_
 ·refine Qco 3 7 2 44 rfl rfl rfl (by decide) [(7,7)] rfl ?_ ?_
  ·simp [Qad,lkp,ren1,ren0,Qan]
  ·simp [Qal,lkp,Box.renames]
 ·rintro⟨i,hi⟩
  have hlen:((l.take i).map rI).length=i:=by simp;omega
  by_cases hA:i<l.length
  ·have hA':=ltT hA
   have h0:=nnT i
   have hg:=Qbx l i hA
   have hwk:=Qah (a:=i) (by omega)
   have q1:(i==i)=true:=beq_self_eq_true i
   have q2:((i+1)*32≤140737488355328)=True:=by simp only [eq_iff_iff,iff_true];omega
   have q3:(i+1≤maxLen)=True:=by simp only [eq_iff_iff,iff_true];unfold maxLen;omega
   obtain⟨b1,b2⟩:=hb _ (List.getElem_mem hA)
   have hf:=Qc1 l[i] b1 b2
   have htk:=map_take rI l i hA
   repeat (first|(simp -implicitDefEqProofs only [go_sem,Nat.reduceAdd,Nat.reduceMul,Nat.reduceEqDiff,Nat.reduceLT,Nat.reduceLeDiff,reduceCtorEq,Nat.reduceBneDiff,Qan,rI,di,hA',h0,hg,Int.toNat_natCast,List.length_map,hlen,q1,q2,q3,Qmh,hwk])|((with_reducible refine Qab (hf) ?_ ?_ ?_);(with_reducible rfl);rfl))
   refine⟨⟨i+1,hA⟩,by simp only;omega,Qaj (θ:=[(7,507)]) rfl ?_ ?_⟩
   ·simp [Qad,lkp,ren1,ren0,Qan]
   ·simp only [htk]
    simp [Qal,lkp,Box.renames,rI,di]
  ·have hA':=ltF hA
   have e1:((l.take i).map rI).take i=l.map rI:=by rw [List.take_of_length_le (by omega),List.take_of_length_le (show l.length≤i by omega)]
   have ht:=Qhb l (by omega)
   unfold rL at ht ⊢
   repeat (first|(simp -implicitDefEqProofs only [go_sem,Nat.reduceAdd,Nat.reduceMul,Nat.reduceEqDiff,Nat.reduceLT,Nat.reduceLeDiff,reduceCtorEq,Qan,hA',hlen,e1,List.length_map])|((with_reducible refine Qab (ht) ?_ ?_ ?_);(with_reducible rfl);rfl))
def Q16 (s:Sg) (a b:Int):PV:=if ptF s a b=true then .tup [sgPV (ptS s a b),.bool true]else .tup [sgPV ⟨0,0,0,[],[],[]⟩,.bool false]
theorem Zq4 (s:Sg) (i:Nat) (h:i<3):([.slc (s.x.map (PV.int .i64)),.slc (s.y.map (PV.int .i64)),.slc (s.z.map (PV.int .i64))]:List PV)[i]? =some (.slc ((s.ax.getD i []).map (PV.int .i64))):=by
 rcases(show i=0∨i=1∨i=2 by omega)with rfl|rfl|rfl<;>rfl
def rpA (L:Nat→List Int) (i:Nat):List PV:=(List.range i).map fun m=>rL (L m)
theorem Q9t (L:Nat→List Int) (i:Nat):rpA L (i+1)=rpA L i++[.slc ((L i).map rI)]:=by simp [rpA,List.range_succ,rL]
theorem Q17 (L:Nat→List Int) (i:Nat):(rpA L i).length=i:=by simp [rpA]
theorem Zoa (L:Nat→List Int) (i:Nat):((rpA L i).flatMap PV.cells).all PV.okCell=true:=by
 unfold rpA;rw [List.all_flatMap,List.all_map,List.all_eq_true];intro _ _;rfl
theorem Zq5 (L:Nat→List Int):(rpA L 3).take 3=[.slc ((L 0).map rI),.slc ((L 1).map rI),.slc ((L 2).map rI)]:=rfl
theorem Q18 {s:Sg} (hs:okSg s) (hd:i64 (s.t-s.f)):(ptO s).natAbs<2^12000:=by
 exact Qdp (C:=12000) (Qgq (Qav hs.o) (Qik (Qav hd) 5)) (by decide)
theorem Zgm {s:Sg} {a b:Int} (hs:okSg s) (hv:Qa2 s=true) (h1:i64 (a-s.f)) (h2:i64 (b-a)) (h3:i64 (s.t-s.f)): ∀i,i<3→bd 12000 (ptL s a b i)∧(ptL s a b i).length≤6:=by
 intro i hi
 have hm:=Ql6 s i hi
 obtain⟨l1,l6, -, -⟩:=Qb7 ((Qa3 hv).2.1 _ hm)
 exact⟨(Qoe l6 (fun x hx=>Qav (hs.c _ hm x hx)) (Qav h1) (Qav h2) (Qav h3)).2,Qtr l6⟩
set_option maxHeartbeats 4000000 in
theorem Ziq (s:Sg) (a b:Int) (hs:okSg s) (hv:Qa2 s=true) (h1:s.f≤a) (h2:a<b) (h3:b≤s.t):Qaf Tryz.prog 70 [sgPV s,.int .i64 a,.int .i64 b] (Q16 s a b):=by
 obtain⟨⟨v1,v2,v3,v4,v5⟩,hax, -⟩:=Qa3 hv
 have d1:i64 (a-s.f):=by unfold i64;omega
 have d2:i64 (b-a):=by unfold i64;omega
 have d3:i64 (s.t-s.f):=by unfold i64;omega
 have w1:=Qai d1.1 d1.2
 have w2:=Qai d2.1 d2.2
 have w3:=Qai d3.1 d3.2
 have n1:=Qc1 _ d1.1 d1.2
 have n2:=Qc1 _ d2.1 d2.2
 have n3:=Qc1 _ d3.1 d3.2
 have n4:=Qc1 s.o hs.o.1 hs.o.2
 have hra:=Qtu s
 have hbd:=Zgm hs hv d1 d2 d3
 have hO:=Q18 hs d3
 have hmk:=Q9s a b (ptL s a b) (ptO s) 12000 (by decide) (Qtn hv) hO (fun i hi=>(hbd i hi).1) (fun i hi=>by have:=(hbd i hi).2;omega) (Zge hv h1 (by omega) h3)
 have hpw:=Qen (s.t-s.f) 5 64 d3 (by decide) (by decide) (Qav d3)
 have hmo:=Qe3 (Qbc (Qav hs.o) (by decide)) (Qbc (Qik (Qav d3) 5) (by decide))
 have eO:s.o*(s.t-s.f)^5=ptO s:=rfl
 rw [eO]at hmo
 have hL: ∀i,ptL s a b i=cmpC (s.ax.getD i []) (a-s.f) (b-a) (s.t-s.f):=fun _=>rfl
 have hF:Q16 s a b=if Qh3 (ptL s a b) (ptO s)=true then .tup [sgPV (Qrd a b (ptL s a b) (ptO s)),.bool true]else .tup [sgPV ⟨0,0,0,[],[],[]⟩,.bool false]:=rfl
 rw [←hF]at hmk
 have hFF: ∃X y,Q16 s a b= .tup [sgPV X,.bool y]:=by rw [hF];split<;>exact⟨_,_,rfl⟩
 clear hF
 generalize Q16 s a b=R at*
 generalize ptL s a b=L at*
 generalize ptO s=O at*
 have hb5:bd 64 [a-s.f,b-a,s.t-s.f]:=fun x hx=>by
  simp only [List.mem_cons,List.not_mem_nil,or_false]at hx
  rcases hx with rfl|rfl|rfl
  ·exact Qav d1
  ·exact Qav d2
  ·exact Qav d3
 obtain⟨r1,r2,rfl⟩:=hFF
 have hsc:=hs.c
 generalize hda:a-s.f=A at*
 generalize hdb:b-a=Bb at*
 generalize hdd:s.t-s.f=D at*
 have get3:=Zq4 s
 unfold sgPV at hra ⊢
 refine Qac (tb:=[]) 69 [.cell 6 24,.tmp 7] [0,1,2,3,6,7,8,9,10,11,12,21] mixed Tryz.func70 rfl (by kernel_rfl) (by kernel_rfl) (by kernel_rfl) (by kernel_rfl) ?_
 repeat (first|(simp -implicitDefEqProofs only [go_sem,Nat.reduceAdd,Nat.reduceMul,Nat.reduceEqDiff,Nat.reduceLT,Nat.reduceLeDiff,reduceCtorEq,hdd,w3])|((with_reducible refine Qab (hra) ?_ ?_ ?_);(with_reducible rfl);rfl)|(with_reducible exact Qaa _ _ (by kernel_rfl))|(with_reducible refine And.intro (Qaa _ _ (by kernel_rfl)) ?_))
 refine Qao mixed (fun i:{i:Nat // i≤3}=>St.of [(1,.int .i64 a),(2,.int .i64 b),(3,.bp 0 6 0 0),(6,.bp 1 6 0 0),(8,.int .i64 D),(9,.bs 7 1 0 i.1),(10,.slc [Qan s.x,Qan s.y,Qan s.z]),(11,.int .i64 (i.1:Int))]
  [(0,{els:=[sgPV s],esz:=6,ety:=24,fro:=0,live:=true,arr:=false}),(1,{els:=[noSg],esz:=6,ety:=24,fro:=0,live:=true,arr:=false}),(7,{els:=rpA L i.1,esz:=1,ety:=116,fro:=0,live:=true,arr:=true})]) (fun i=>3-i.1) ⟨0,Nat.zero_le _⟩ ?_ ?_
 ·refine Qco 9 7 1 116 rfl rfl rfl (by decide) [(0,0),(1,1),(7,7)] rfl ?_ ?_
  ·simp [Qad,lkp,ren1,ren0,Qam,Qan]
  ·exact⟨⟨rfl,rfl,rfl,rfl,rfl,.inr ⟨rfl,_,_,rfl,rfl,rfl,rfl⟩⟩,⟨rfl,rfl,rfl,rfl,rfl,.inr ⟨rfl,_,_,rfl,rfl,rfl,rfl⟩⟩,⟨rfl,rfl,rfl,rfl,rfl,.inl ⟨rfl,rfl⟩⟩,trivial⟩
 ·rintro⟨i,hi⟩
  by_cases hA:i<3
  ·have hA':((i:Int)<3)=True:=eq_true (by omega)
   have n0:=nnT i
   have hx:=get3 i hA
   have hwk:=Qah (a:=i) (by omega)
   have a1:=Q17 L i
   have a2:=Zoa L i
   have a3:=Q9t L i
   have a4:((i+1)*24≤140737488355328)=True:=eq_true (by omega)
   have a5:(i+1≤maxLen)=True:=eq_true (by unfold maxLen;omega)
   have hm:=Ql6 s i hA
   have hao:=hax _ hm
   obtain⟨l1,l6, -, -⟩:=Qb7 hao
   have hcx:=hsc _ hm
   have hLi:=hL i
   generalize s.ax.getD i []=c at*
   have hcb:bd 64 c:=fun x hx=>Qav (hcx x hx)
   have tl:=Q9i hao
   have f1:=Zip c (by omega) hcx
   have lt:=Qbe c
   have bA:A.natAbs<2^64:=hb5 _ (by simp)
   have bB:Bb.natAbs<2^64:=hb5 _ (by simp)
   have bD:D.natAbs<2^64:=hb5 _ (by simp)
   have f2:=Qyi (Qas c) A Bb D 64 (by decide) (Qel hcb) bA bB bD (by omega)
   have f3:=Qen D (6-c.length) 64 d3 (by omega) (by decide) bD
   have k1:=(Qoe l6 hcb bA bB bD).1
   have hpw2:(D^(6-c.length)).natAbs<2^6000:=Qdp (C:=6000) (Qik bD (6-c.length)) (by have:=Nat.mul_le_mul_left 64 (show 6-c.length≤6 by omega);omega)
   have f4:=Qry _ (D^(6-c.length)) 6000 (by decide) k1 hpw2 (Nat.le_trans (Qcr _ _ _ _ _) (by omega))
   have eC:Qc4 (Qcg (Qas c) A Bb D (Qas c).length) (D^(6-c.length))=cmpC c A Bb D:=rfl
   rw [eC,←hLi]at f4
   have wl:IntKind.i64.wrap (((Qas c).length:Int)-1)=((Qas c).length:Int)-1:=Qai (by omega) (by omega)
   have w5:IntKind.i64.wrap ((5:Int)-max 0 (((Qas c).length:Int)-1))=((6-c.length:Nat):Int):=by rw [tl];exact wrapn (by omega)
   clear eC k1 hpw2 tl hLi hL hao hmk hmo hO hbd hpw
   generalize Qcg (Qas c) A Bb D (Qas c).length=X1 at*
   generalize Qas c=X2 at*
   generalize D^(6-c.length)=X3 at*
   generalize hL2:L i=Li at*
   repeat (first|(simp -implicitDefEqProofs only [go_sem,Nat.reduceAdd,Nat.reduceMul,Nat.reduceEqDiff,Nat.reduceLT,Nat.reduceLeDiff,reduceCtorEq,Nat.reduceBneDiff,Qan,rL,rI,di,hA',n0,hx,hwk,a1,a2,a4,a5,hda,hdb,w1,w2,wl,w5,Int.toNat_natCast,List.length_map])|((with_reducible refine Qab (f1) ?_ ?_ ?_);(with_reducible rfl);rfl)|((with_reducible refine Qab (n1) ?_ ?_ ?_);(with_reducible rfl);rfl)|((with_reducible refine Qab (n2) ?_ ?_ ?_);(with_reducible rfl);rfl)|((with_reducible refine Qab (n3) ?_ ?_ ?_);(with_reducible rfl);rfl)|((with_reducible refine Qab (f2) ?_ ?_ ?_);(with_reducible rfl);rfl)|((with_reducible refine Qab (f3) ?_ ?_ ?_);(with_reducible rfl);rfl)|((with_reducible refine Qab (f4) ?_ ?_ ?_);(with_reducible rfl);rfl)|(with_reducible exact Qaa _ _ (by kernel_rfl))|(with_reducible refine And.intro (Qaa _ _ (by kernel_rfl)) ?_))
   refine⟨⟨i+1,hA⟩,by simp only;omega,Qaj (θ:=[(0,0),(1,1),(7,815)]) rfl ?_ ?_⟩
   ·simp [Qad,lkp,ren1,ren0,Qam]
   ·simp only [a3]
    exact⟨⟨rfl,rfl,rfl,rfl,rfl,.inr ⟨rfl,_,_,rfl,rfl,rfl,rfl⟩⟩,⟨rfl,rfl,rfl,rfl,rfl,.inr ⟨rfl,_,_,rfl,rfl,rfl,rfl⟩⟩,⟨rfl,rfl,rfl,rfl,rfl,.inl ⟨rfl,rfl⟩⟩,trivial⟩
  ·have hA':((i:Int)<3)=False:=eq_false (by omega)
   obtain rfl:i=3:=by omega
   have hl3:=Q17 L 3
   repeat (first|(simp -implicitDefEqProofs only [go_sem,Nat.reduceAdd,Nat.reduceMul,Nat.reduceEqDiff,Nat.reduceLT,Nat.reduceLeDiff,Nat.reduceSub,reduceCtorEq,Int.reduceLT,rI,di,hA',Zq5,hl3,rL])|((with_reducible refine Qab (n4) ?_ ?_ ?_);(with_reducible rfl);rfl)|((with_reducible refine Qab (hpw) ?_ ?_ ?_);(with_reducible rfl);rfl)|((with_reducible refine Qab (hmo) ?_ ?_ ?_);(with_reducible rfl);rfl)|((with_reducible refine Qab (hmk) ?_ ?_ ?_);(with_reducible rfl);rfl)|(with_reducible exact Qaa _ _ (by kernel_rfl))|(with_reducible refine And.intro (Qaa _ _ (by kernel_rfl)) ?_))
end Go.Proofs.YtlpiamlgibomhaaGreat

namespace Go.Proofs.YtlpiamlgibomhaaGreat
open Go.Vl Go.RowKit Go.Dg
theorem Qde (l:List Sg):(((l.map sgPV).flatMap PV.cells).all PV.okCell)=true:=by
 rw [List.all_flatMap,List.all_map,List.all_eq_true];intro _ _;rfl
def cutR (p:List Sg) (f t:Int):PV:=if(spans p f t).all spF=true then .tup [Qap ((spans p f t).map spS),.bool true]else .tup [Qap [],.bool false]
def spL (p:List Sg) (f t:Int):List PV:=((spans p f t).map spS).map sgPV
theorem Q19 (p:List Sg) (f t:Int):(spL p f t).length=(spans p f t).length:=by simp [spL]
set_option maxHeartbeats 2000000 in
theorem Zgn (p:List Sg) (f t:Int) (hp: ∀s∈p,okSg s) (hv: ∀s∈p,Qa2 s=true) (hl:p.length≤100000):Qaf Tryz.prog 26 [Qap p,.int .i64 f,.int .i64 t] (cutR p f t):=by
 refine Qac (tb:=[]) 54 [.tmp 6,.tmp 7] [0,1,2,6,7,8,9,10,11,12,13,17,36,48] mixed Tryz.func26 rfl (by kernel_rfl) (by kernel_rfl) (by kernel_rfl) (by kernel_rfl) ?_
 repeat (first|(simp -implicitDefEqProofs only [go_sem,Nat.reduceAdd,Nat.reduceMul,Nat.reduceEqDiff,Nat.reduceLT,Nat.reduceLeDiff,reduceCtorEq,Qap])|(with_reducible exact Qaa _ _ (by kernel_rfl))|(with_reducible refine And.intro (Qaa _ _ (by kernel_rfl)) ?_))
 refine Qao mixed (fun i:{i:Nat // i≤p.length∧(spans (p.take i) f t).all spF=true}=>St.of [(0,Qap p),(1,.int .i64 f),(2,.int .i64 t),(8,.bs 7 6 0 (spans (p.take i.1) f t).length),(9,.int .i64 (i.1:Int))]
  [(7,{els:=spL (p.take i.1) f t,esz:=6,ety:=24,fro:=0,live:=true,arr:=true})]) (fun i=>p.length-i.1) ⟨0,Nat.zero_le _,rfl⟩ ?_ ?_
 ·refine Qco 8 7 6 24 rfl rfl rfl (by decide) [(7,7)] rfl ?_ ?_
  ·simp [Qad,lkp,ren1,ren0,Qam,Qap,spans]
  ·exact⟨⟨rfl,rfl,rfl,rfl,rfl,.inl ⟨rfl,rfl⟩⟩,trivial⟩
 ·rintro⟨i,hi,hall⟩
  by_cases hA:i<p.length
  ·have hA':=ltT hA
   have n0:=nnT i
   have hg:=Qcb p i hA
   have hwk:=Qah (a:=i) (by omega)
   have hs:=hp _ (List.getElem_mem hA)
   have hvs:=hv _ (List.getElem_mem hA)
   have hsn:spans (p.take (i+1)) f t=spans (p.take i) f t++(if max f p[i].f≥min t p[i].t then []else [(p[i],max f p[i].f,min t p[i].t)]):=by rw [Qbb p i hA,Qn7]
   have hsl:(spans (p.take i) f t).length≤i:=Nat.le_trans (Qb8 _ _ _) (by rw [List.length_take];omega)
   have b1:=Q19 (p.take i) f t
   have b2:(((spL (p.take i) f t).flatMap PV.cells).all PV.okCell)=true:=Qde _
   have hsb:=Q1m (p:=p) (f:=f) (t:=t) (i+1)
   have hL2:spL (p.take (i+1)) f t=spL (p.take i) f t++(if max f p[i].f≥min t p[i].t then []else [sgPV (ptS p[i] (max f p[i].f) (min t p[i].t))]):=by
    unfold spL;rw [hsn];split
    ·simp
    ·simp [spS]
   have hpt:=Ziq p[i] (max f p[i].f) (min t p[i].t) hs hvs (by omega)
   have hpF: ∀b,ptF p[i] (max f p[i].f) (min t p[i].t)=b→spF (p[i],max f p[i].f,min t p[i].t)=b:=fun _ h=>h
   have hcut: ∀b,(spans p f t).all spF=b→cutR p f t=if b=true then .tup [Qap ((spans p f t).map spS),.bool true]else .tup [Qap [],.bool false]:=by rintro b rfl;rfl
   generalize hn:(spans (p.take i) f t).length=n at*
   generalize spL (p.take i) f t=SL at*
   have hnext:(spans (p.take (i+1)) f t).length=n+(if max f p[i].f≥min t p[i].t then []else [(p[i],max f p[i].f,min t p[i].t)]).length:=by rw [hsn,List.length_append,hn]
   generalize p[i]=s at*
   by_cases hc:max f s.f≥min t s.t
   ·have hc':(min t s.t≤max f s.f)=True:=eq_true hc
    rw [if_pos hc]at hsn hL2 hnext
    repeat (first|(simp -implicitDefEqProofs only [go_sem,Nat.reduceAdd,Nat.reduceMul,Nat.reduceEqDiff,Nat.reduceLT,Nat.reduceLeDiff,reduceCtorEq,hA',n0,hg,hwk,hc',Int.toNat_natCast,List.length_map])|(with_reducible exact Qaa _ _ (by kernel_rfl))|(with_reducible refine And.intro (Qaa _ _ (by kernel_rfl)) ?_))
    refine⟨⟨i+1,hA,by rw [hsn,List.append_nil];exact hall⟩,by simp only;omega,Qaj (θ:=[(7,7)]) rfl ?_ ?_⟩
    ·simp only [hnext]
     simp [Qad,lkp,ren1,ren0,Qam,Qap]
    ·simp only [hL2,List.append_nil]
     exact⟨⟨rfl,rfl,rfl,rfl,rfl,.inl ⟨rfl,rfl⟩⟩,trivial⟩
   ·have hc':(min t s.t≤max f s.f)=False:=eq_false hc
    rw [if_neg hc]at hsn hL2 hnext
    have hpt:=hpt (by omega) (by omega)
    unfold Q16 at hpt
    have hg0:sgPV s= .agg [.int .i64 s.f,.int .i64 s.t,.int .i64 s.o,.slc (s.x.map (PV.int .i64)),.slc (s.y.map (PV.int .i64)),.slc (s.z.map (PV.int .i64))]:=rfl
    rw [hg0]at hpt
    generalize hm1:max f s.f=a at*
    generalize hm2:min t s.t=b at*
    by_cases hF:ptF s a b=true
    ·rw [if_pos hF]at hpt
     have c1:((n+1)*96≤140737488355328)=True:=eq_true (by omega)
     have c2:(n+1≤maxLen)=True:=eq_true (by unfold maxLen;omega)
     repeat (first|(simp -implicitDefEqProofs only [go_sem,Nat.reduceAdd,Nat.reduceMul,Nat.reduceEqDiff,Nat.reduceLT,Nat.reduceLeDiff,reduceCtorEq,Nat.reduceBneDiff,hA',n0,hg,hwk,hm1,hm2,hc',b1,b2,c1,c2,Int.toNat_natCast,List.length_map])|((with_reducible refine Qab (hpt) ?_ ?_ ?_);(with_reducible rfl);rfl)|(with_reducible exact Qaa _ _ (by kernel_rfl))|(with_reducible refine And.intro (Qaa _ _ (by kernel_rfl)) ?_))
     refine⟨⟨i+1,hA,by rw [hsn,List.all_append,hall,List.all_cons,hpF true hF];rfl⟩,by simp only;omega,Qaj (θ:=[(7,1003)]) rfl ?_ ?_⟩
     ·simp only [hnext]
      simp [Qad,lkp,ren1,ren0,Qam,Qap]
     ·simp only [hL2]
      exact⟨⟨rfl,rfl,rfl,rfl,rfl,.inl ⟨rfl,rfl⟩⟩,trivial⟩
    ·have hF':ptF s a b=false:=by simpa using hF
     rw [if_neg hF]at hpt
     have hbad:=hsb (by rw [hsn,List.all_append,List.all_cons,hpF false hF'];simp)
     rw [hcut false hbad]
     repeat (first|(simp -implicitDefEqProofs only [go_sem,Nat.reduceAdd,Nat.reduceMul,Nat.reduceEqDiff,Nat.reduceLT,Nat.reduceLeDiff,reduceCtorEq,hA',n0,hg,hwk,hm1,hm2,hc',Bool.false_eq_true,if_false,Qap,List.map_nil,Int.toNat_natCast,List.length_map])|((with_reducible refine Qab (hpt) ?_ ?_ ?_);(with_reducible rfl);rfl)|(with_reducible exact Qaa _ _ (by kernel_rfl))|(with_reducible refine And.intro (Qaa _ _ (by kernel_rfl)) ?_))
  ·have hA':=ltF hA
   rw [List.take_of_length_le (show p.length≤i by omega)]at hall
   simp only [List.take_of_length_le (show p.length≤i by omega)]
   have b1:=Q19 p f t
   have b2:(((spL p f t).flatMap PV.cells).all PV.okCell)=true:=Qde _
   unfold cutR
   rw [if_pos hall]
   have e:spL p f t=((spans p f t).map spS).map sgPV:=rfl
   have ht:(spL p f t).take (spans p f t).length=spL p f t:=List.take_of_length_le (by rw [b1];omega)
   unfold Qap
   rw [←e]
   generalize spL p f t=SL at*
   repeat (first|(simp -implicitDefEqProofs only [go_sem,Nat.reduceAdd,Nat.reduceMul,Nat.reduceEqDiff,Nat.reduceLT,Nat.reduceLeDiff,reduceCtorEq,hA',b1,b2,ht,List.length_map])|(with_reducible exact Qaa _ _ (by kernel_rfl))|(with_reducible refine And.intro (Qaa _ _ (by kernel_rfl)) ?_))
end Go.Proofs.YtlpiamlgibomhaaGreat

namespace Go.Proofs.YtlpiamlgibomhaaGreat
open Go.Vl Go.RowKit Go.Dg
def ptSS (s:Sg) (a b:Int):Sg:=if ptF s a b=true then ptS s a b else⟨a,b,0,[],[],[]⟩
def spO (x:Sg×Int×Int):List PV:=[sgPV (ptSS x.1 x.2.1 x.2.2),.bool (spF x)]
def Qdn (p:List Sg) (f t:Int):List (List PV):=(spans p f t).map spO
theorem Q9v (p:List Sg) (f t:Int):Qaf Tryz.prog 108 [Qap p,.int .i64 f,.int .i64 t] (.fn 138 [] [.rp [Qap p],.rp [.int .i64 f],.rp [.int .i64 t]]):=by
 refine Qac (tb:=[]) 8 [.tmp 6] [0,1,2,3,4,5,6] mixed Tryz.func108 rfl (by kernel_rfl) (by kernel_rfl) (by kernel_rfl) (by kernel_rfl) ?_
 repeat (first|(simp -implicitDefEqProofs only [go_sem,Nat.reduceAdd,Nat.reduceMul,Nat.reduceEqDiff,Nat.reduceLT,Nat.reduceLeDiff,reduceCtorEq,Qap]))
theorem Qyc {p:List Sg} {f t:Int} {i:Nat} (hi:i<p.length):Qdn (p.take (i+1)) f t=Qdn (p.take i) f t++(if max f p[i].f≥min t p[i].t then []else [[sgPV (ptSS p[i] (max f p[i].f) (min t p[i].t)),.bool (ptF p[i] (max f p[i].f) (min t p[i].t))]]):=by
 unfold Qdn
 rw [Qbb p i hi,Qn7,List.map_append]
 congr 1
 split<;>rfl
theorem Q2d {p:List Sg} {f t:Int} {i:Nat} (hi:i<p.length) (h: ¬max f p[i].f≥min t p[i].t):(Qdn p f t)[(Qdn (p.take i) f t).length]? =some [sgPV (ptSS p[i] (max f p[i].f) (min t p[i].t)),.bool (ptF p[i] (max f p[i].f) (min t p[i].t))]:=by
 have e:Qdn p f t=Qdn (p.take i) f t++Qdn (p.drop i) f t:=by
  unfold Qdn
  rw [←List.map_append,←Qe9,List.take_append_drop]
 rw [e,List.getElem?_append_right (Nat.le_refl _),Nat.sub_self,List.drop_eq_getElem_cons hi]
 unfold Qdn
 simp only [spans]
 rw [if_neg h]
 rfl
theorem Qyd {p:List Sg} {f t:Int} {i:Nat}:Qdn (p.take i) f t=(Qdn p f t).take (Qdn (p.take i) f t).length:=by
 have e:Qdn p f t=Qdn (p.take i) f t++Qdn (p.drop i) f t:=by
  unfold Qdn
  rw [←List.map_append,←Qe9,List.take_append_drop]
 conv=>rhs;rw [e]
 rw [List.take_left']
 rfl
theorem Zir (s:Sg) (a b:Int) (hs:okSg s) (hv:Qa2 s=true) (h1:s.f≤a) (h2:a<b) (h3:b≤s.t):
  Qaf Tryz.prog 78 [.int .i64 a,.int .i64 b,.agg [wL (ptL s a b 0),wL (ptL s a b 1),wL (ptL s a b 2)],wPV (ptO s)] (.tup [sgPV (ptSS s a b),.bool (ptF s a b)]):=by
 obtain⟨⟨v1,v2,v3,v4,v5⟩,hax, -⟩:=Qa3 hv
 have d1:i64 (a-s.f):=by unfold i64;omega
 have d2:i64 (b-a):=by unfold i64;omega
 have d3:i64 (s.t-s.f):=by unfold i64;omega
 have hbd:=Zgm hs hv d1 d2 d3
 have h:=Q15 a b (ptL s a b) (ptO s) 12000 (by decide) (Qtn hv) (Q18 hs d3) (fun i hi=>(hbd i hi).1) (fun i hi=>by have:=(hbd i hi).2;omega) (Zge hv h1 (by omega) h3)
 have e:(.tup [sgPV (ptSS s a b),.bool (ptF s a b)]:PV)=if Qh3 (ptL s a b) (ptO s)=true then .tup [sgPV (Qrd a b (ptL s a b) (ptO s)),.bool true]else .tup [sgPV ⟨a,b,0,[],[],[]⟩,.bool false]:=by
  unfold ptSS ptF ptS
  cases Qh3 (ptL s a b) (ptO s)<;>rfl
 rw [e];exact h
set_option maxHeartbeats 4000000 in
theorem Qmb (p:List Sg) (f t:Int) (hp: ∀s∈p,okSg s) (hv: ∀s∈p,Qa2 s=true) (hl:p.length≤100000):Qnd Tryz.prog 138 [.rp [Qap p],.rp [.int .i64 f],.rp [.int .i64 t]] (Qdn p f t):=by
 refine Qs0 (tb:=[]) 62 [0,1,2,3,6,7,8,9,10,11,12,13,14,15,28,60] mixed Tryz.func138 rfl (by kernel_rfl) (by kernel_rfl) (by kernel_rfl) (by kernel_rfl) fun l stop=> ?_
 repeat (first|(simp -implicitDefEqProofs only [go_sem,Nat.reduceAdd,Nat.reduceMul,Nat.reduceEqDiff,Nat.reduceLT,Nat.reduceLeDiff,reduceCtorEq,Qap])|(with_reducible exact Qaa _ _ (by kernel_rfl))|(with_reducible refine And.intro (Qaa _ _ (by kernel_rfl)) ?_))
 refine Qao mixed (fun i:{i:Nat // i≤p.length∧(Qdn (p.take i) f t).length≤stop}=>St.ofG [(0,.yld l stop),(1,.rp [Qap p]),(2,.rp [.int .i64 f]),(3,.rp [.int .i64 t]),(12,Qap p),(13,.int .i64 (p.length:Int)),(14,.int .i64 (i.1:Int))] [] (Qdn (p.take i.1) f t) (some (l,stop,Qdn p f t))) (fun i=>p.length-i.1) ⟨0,Nat.zero_le _,Nat.zero_le _⟩ ?_ ?_
 ·refine Qaz ?_
  simp [Qad,lkp,ren1,ren0,Qam,Qap]
 ·rintro⟨i,hi,hst⟩
  simp only
  by_cases hA:i<p.length
  ·have hA':=ltT hA
   have n0:=nnT i
   have hg:=Qcb p i hA
   have hwk:=Qah (a:=i) (by omega)
   have hs:=hp _ (List.getElem_mem hA)
   have hvs:=hv _ (List.getElem_mem hA)
   have hsn:=Qyc (f:=f) (t:=t) hA
   have hgt:=Q2d (f:=f) (t:=t) hA
   have htk:=Qyd (p:=p) (f:=f) (t:=t) (i:=i+1)
   generalize hO:Qdn (p.take i) f t=O at*
   generalize hOO:Qdn p f t=OO at*
   generalize p[i]=s at*
   by_cases hc:max f s.f≥min t s.t
   ·have hc':(min t s.t≤max f s.f)=True:=eq_true hc
    rw [if_pos hc,List.append_nil]at hsn
    repeat (first|(simp -implicitDefEqProofs only [go_sem,Nat.reduceAdd,Nat.reduceMul,Nat.reduceEqDiff,Nat.reduceLT,Nat.reduceLeDiff,reduceCtorEq,hA',n0,hg,hwk,hc',Int.toNat_natCast,List.length_map])|(with_reducible exact Qaa _ _ (by kernel_rfl))|(with_reducible refine And.intro (Qaa _ _ (by kernel_rfl)) ?_))
    refine⟨⟨i+1,hA,by rw [hsn];exact hst⟩,by simp only;omega,?_⟩
    simp only [hsn]
    refine Qaz ?_
    simp [Qad,lkp,ren1,ren0,Qam,Qap]
   ·have hc':(min t s.t≤max f s.f)=False:=eq_false hc
    rw [if_neg hc]at hsn
    have hgt:=hgt hc
    have hmk:=Zir s (max f s.f) (min t s.t) hs hvs (by omega) (by omega) (by omega)
    obtain⟨⟨v1,v2,v3,v4,v5⟩,hax, -⟩:=Qa3 hvs
    generalize hm1:max f s.f=a at*
    generalize hm2:min t s.t=b at*
    have d1:i64 (a-s.f):=by unfold i64;omega
    have d2:i64 (b-a):=by unfold i64;omega
    have d3:i64 (s.t-s.f):=by unfold i64;omega
    have w1:=Qai d1.1 d1.2
    have w2:=Qai d2.1 d2.2
    have w3:=Qai d3.1 d3.2
    have f1:=Qof s (a-s.f) (b-a) (s.t-s.f) hs (fun c hc=>(Qb7 (hax c hc)).2.1) d1 d2 d3 (by omega)
    have eL:cmpL s (a-s.f) (b-a) (s.t-s.f)=ptL s a b:=rfl
    rw [eL]at f1
    have f2:=Qe7 s.o hs.o.1 hs.o.2
    have f3:=Qdd (s.t-s.f) 5 64 d3.1 d3.2 (by decide) (by decide) (Qav d3)
    have hOl:=Q18 hs d3
    have eO:s.o*(s.t-s.f)^5=ptO s:=rfl
    have f4:=Qgp (Qau (Qav hs.o) (by decide)) (Qau (Qik (Qav d3) 5) (by decide)) (Qau (show(s.o*(s.t-s.f)^5).natAbs<2^12000 from hOl) (by decide))
    rw [eO]at f4
    generalize ptL s a b=L at*
    generalize ptO s=PO at*
    generalize ptSS s a b=X at*
    generalize ptF s a b=F at*
    unfold sgPV at f1 hgt hsn hmk
    unfold wL at f1 hmk
    clear eL eO hOl
    have hst':(O.length≤stop)=True:=eq_true hst
    by_cases hlt:O.length<stop
    case neg=>
     have hlt':(O.length<stop)=False:=eq_false hlt
     have htk2:OO.take (stop+1)=O++[[.agg [.int .i64 X.f,.int .i64 X.t,.int .i64 X.o,.slc (X.x.map (PV.int .i64)),.slc (X.y.map (PV.int .i64)),.slc (X.z.map (PV.int .i64))],.bool F]]:=by
      have e:O.length=stop:=by omega
      have:=htk
      rw [hsn,List.length_append,e]at this
      exact this.symm
     repeat (first|(simp -implicitDefEqProofs only [go_sem,Nat.reduceAdd,Nat.reduceMul,Nat.reduceEqDiff,Nat.reduceLT,Nat.reduceLeDiff,reduceCtorEq,wPV,hA',n0,hg,hwk,hm1,hm2,hc',w1,w2,w3,hgt,hst',hlt',Qnu,htk2,Int.toNat_natCast,List.length_map])|((with_reducible refine Qab (f1) ?_ ?_ ?_);(with_reducible rfl);rfl)|((with_reducible refine Qab (f2) ?_ ?_ ?_);(with_reducible rfl);rfl)|((with_reducible refine Qab (f3) ?_ ?_ ?_);(with_reducible rfl);rfl)|((with_reducible refine Qab (f4) ?_ ?_ ?_);(with_reducible rfl);rfl)|((with_reducible refine Qab (hmk) ?_ ?_ ?_);(with_reducible rfl);rfl)|(with_reducible exact Qaa _ _ (by kernel_rfl))|(with_reducible refine And.intro (Qaa _ _ (by kernel_rfl)) ?_))
    have hlt':(O.length<stop)=True:=eq_true hlt
    repeat (first|(simp -implicitDefEqProofs only [go_sem,Nat.reduceAdd,Nat.reduceMul,Nat.reduceEqDiff,Nat.reduceLT,Nat.reduceLeDiff,reduceCtorEq,hst',hlt',wPV,hA',n0,hg,hwk,hm1,hm2,hc',w1,w2,w3,hgt,Int.toNat_natCast,List.length_map])|((with_reducible refine Qab (f1) ?_ ?_ ?_);(with_reducible rfl);rfl)|((with_reducible refine Qab (f2) ?_ ?_ ?_);(with_reducible rfl);rfl)|((with_reducible refine Qab (f3) ?_ ?_ ?_);(with_reducible rfl);rfl)|((with_reducible refine Qab (f4) ?_ ?_ ?_);(with_reducible rfl);rfl)|((with_reducible refine Qab (hmk) ?_ ?_ ?_);(with_reducible rfl);rfl)|(with_reducible exact Qaa _ _ (by kernel_rfl))|(with_reducible refine And.intro (Qaa _ _ (by kernel_rfl)) ?_))
    refine⟨⟨i+1,hA,by rw [hsn,List.length_append];exact hlt⟩,by simp only;omega,?_⟩
    simp only [hsn]
    refine Qaz ?_
    simp [Qad,lkp,ren1,ren0,Qam,Qap]
  ·have hA':=ltF hA
   have hO:Qdn (p.take i) f t=Qdn p f t:=by rw [List.take_of_length_le (by omega)]
   rw [hO]at hst ⊢
   have ht:(Qdn p f t).take (stop+1)=Qdn p f t:=List.take_of_length_le (by omega)
   generalize Qdn p f t=OO at*
   repeat (first|(simp -implicitDefEqProofs only [go_sem,Nat.reduceAdd,Nat.reduceMul,Nat.reduceEqDiff,Nat.reduceLT,Nat.reduceLeDiff,reduceCtorEq,hA',Qnu,ht,List.length_map])|(with_reducible exact Qaa _ _ (by kernel_rfl))|(with_reducible refine And.intro (Qaa _ _ (by kernel_rfl)) ?_))
end Go.Proofs.YtlpiamlgibomhaaGreat

namespace Go.Proofs.YtlpiamlgibomhaaGreat
open Go.Vl Go.RowKit Go.Dg
def Qnf (S:List (Sg×Int×Int)):PV:=if S.all spF=true then .tup [Qap (S.map spS),.int .i64 0]else .tup [Qap [],.int .i64 7]
theorem Qlf {x:Sg×Int×Int} (h:spF x=true):spO x=[sgPV (spS x),.bool true]:=by
 unfold spO ptSS
 have h':ptF x.1 x.2.1 x.2.2=true:=h
 rw [if_pos h',h];rfl
theorem Zis {x:Sg×Int×Int} (h:spF x=false):spO x=[sgPV ⟨x.2.1,x.2.2,0,[],[],[]⟩,.bool false]:=by
 unfold spO ptSS
 have h': ¬ptF x.1 x.2.1 x.2.2=true:=by intro e;have:spF x=true:=e;rw [h]at this;cases this
 rw [if_neg h',h]
def cuB (S:List (Sg×Int×Int)):Nat→List (Nat×Box)
 |0=>[(1000000,{els:=[.nilS],esz:=1,ety:=27,fro:=0,live:=true,arr:=false}),(1000001,{els:=[.int .i64 0],esz:=1,ety:=34,fro:=0,live:=true,arr:=false})]
 |k+1=>[(1000000,{els:=[.bs 7 6 0 (k+1)],esz:=1,ety:=27,fro:=0,live:=true,arr:=false}),(1000001,{els:=[.int .i64 0],esz:=1,ety:=34,fro:=0,live:=true,arr:=false}),(7,{els:=((S.take (k+1)).map spS).map sgPV,esz:=6,ety:=24,fro:=0,live:=true,arr:=true})]
theorem Zit (S:List (Sg×Int×Int)) (k:Nat): ∀b∈ [1000000,1000001],(lkp (cuB S k) b).isSome=true:=by
 cases k<;>simp [cuB,lkp]
theorem Q2e {S:List (Sg×Int×Int)} {k:Nat} {x:Sg×Int×Int} (hx:S[k]? =some x):((S.take (k+1)).map spS).map sgPV=((S.take k).map spS).map sgPV++[.agg [.int .i64 (spS x).f,.int .i64 (spS x).t,.int .i64 (spS x).o,.slc ((spS x).x.map (PV.int .i64)),.slc ((spS x).y.map (PV.int .i64)),.slc ((spS x).z.map (PV.int .i64))]]:=by
 obtain⟨hk,rfl⟩:=List.getElem?_eq_some_iff.1 hx
 rw [Qbb S k hk,List.map_append,List.map_append];rfl
theorem Q2f {S:List (Sg×Int×Int)} {k:Nat} (h:k≤S.length):(((S.take k).map spS).map sgPV).length=k:=by simp;omega
def cuC (S:List (Sg×Int×Int)) (m k:Nat):List (Nat×Box):=if k=m+1 then [(1000000,{els:=[.nilS],esz:=1,ety:=27,fro:=0,live:=true,arr:=false}),(1000001,{els:=[.int .i64 7],esz:=1,ety:=34,fro:=0,live:=true,arr:=false})]else cuB S k
set_option maxHeartbeats 2000000 in
theorem Q2g (p:List Sg) (f t:Int) (S:List (Sg×Int×Int)) (hS:S.length≤100000) (hY:Qnd Tryz.prog 138 [.rp [Qap p],.rp [.int .i64 f],.rp [.int .i64 t]] (S.map spO)):
  Qaf Tryz.prog 68 [Qap p,.int .i64 f,.int .i64 t] (Qnf S):=by
 have h1:=Q9v p f t
 unfold Qap at h1 hY
 by_cases hn:S=[]
 ·subst hn
  unfold Qnf Qap
  refine Qac (tb:=[]) 23 [.cell 6 27,.cell 7 34] [0,1,2,6,7,8,9,13,14,15,17] mixed Tryz.func68 rfl (by kernel_rfl) (by kernel_rfl) (by kernel_rfl) (by kernel_rfl) ?_
  repeat (first|(simp -implicitDefEqProofs only [go_sem,Nat.reduceAdd,Nat.reduceMul,Nat.reduceEqDiff,Nat.reduceLT,Nat.reduceLeDiff,reduceCtorEq])|((with_reducible refine Qab (h1) ?_ ?_ ?_);(with_reducible rfl);rfl))
  refine Qqz mixed hY rfl rfl _ rfl [(1000000,0),(1000001,1)] [1000000,1000001] rfl [(6,.bp 1000000 1 0 0),(7,.bp 1000001 1 0 0)] (cuB []) rfl rfl ?_ ?_ ?_ 0 .normal (fun h=>by simp at h) (fun k _ _=>Zit [] k) (fun k args h=>by simp at h) rfl (fun k args h=>by simp at h)
   [(0,1000000),(1,1000001)] [(6,.bp 0 1 0 0),(7,.bp 1 1 0 0)] [(0,{els:=[.nilS],esz:=1,ety:=27,fro:=0,live:=true,arr:=false}),(1,{els:=[.int .i64 0],esz:=1,ety:=34,fro:=0,live:=true,arr:=false})] rfl rfl ?_ ?_ (fun _=> ?_) (fun h=>by simp at h)
  ·simp [Qad,lkp,ren1,ren0,Qam]
  ·exact⟨⟨rfl,rfl,rfl,rfl,rfl,.inr ⟨rfl,_,_,rfl,rfl,rfl,rfl⟩⟩,⟨rfl,rfl,rfl,rfl,rfl,.inr ⟨rfl,_,_,rfl,rfl,rfl,rfl⟩⟩,trivial⟩
  ·simp [Qad,lkp,ren1,ren0,Qam,Qsz]
  ·simp [Qad,lkp,ren1,ren0,Qam]
  ·exact⟨⟨rfl,rfl,rfl,rfl,rfl,.inr ⟨rfl,_,_,rfl,rfl,rfl,rfl⟩⟩,⟨rfl,rfl,rfl,rfl,rfl,.inr ⟨rfl,_,_,rfl,rfl,rfl,rfl⟩⟩,trivial⟩
  ·repeat (first|(simp -implicitDefEqProofs only [go_sem,Nat.reduceAdd,Nat.reduceMul,Nat.reduceEqDiff,Nat.reduceLT,Nat.reduceLeDiff,reduceCtorEq,List.map_nil,List.all_nil,if_true]))
 by_cases hall:S.all spF=true
 ·have hfine: ∀(k:Nat) (x:Sg×Int×Int),S[k]? =some x→spF x=true:=fun k x h=>List.all_eq_true.1 hall x (List.mem_of_getElem? h)
  unfold Qnf Qap
  rw [if_pos hall]
  obtain⟨n,hn1⟩: ∃n,S.length=n+1:=⟨S.length-1,by have:=List.length_pos_iff.2 hn;omega⟩
  have hmin:min (S.map spO).length (n+1+1)=n+1:=by rw [List.length_map];omega
  have htk:S.take (n+1)=S:=List.take_of_length_le (by omega)
  refine Qac (tb:=[]) 23 [.cell 6 27,.cell 7 34] [0,1,2,6,7,8,9,13,14,15,17] mixed Tryz.func68 rfl (by kernel_rfl) (by kernel_rfl) (by kernel_rfl) (by kernel_rfl) ?_
  repeat (first|(simp -implicitDefEqProofs only [go_sem,Nat.reduceAdd,Nat.reduceMul,Nat.reduceEqDiff,Nat.reduceLT,Nat.reduceLeDiff,reduceCtorEq])|((with_reducible refine Qab (h1) ?_ ?_ ?_);(with_reducible rfl);rfl))
  refine Qqz mixed hY rfl rfl _ rfl [(1000000,0),(1000001,1)] [1000000,1000001] rfl [(6,.bp 1000000 1 0 0),(7,.bp 1000001 1 0 0)] (cuB S) rfl rfl ?_ ?_ ?_ (n+1) .normal (fun h=>by simp [hn1]at h) (fun k _ _=>Zit S k) ?_ rfl ?_
   [(0,1000000),(1,1000001),(7,7)] [(6,.bp 0 1 0 0),(7,.bp 1 1 0 0)] [(0,{els:=[.bs 7 6 0 (n+1)],esz:=1,ety:=27,fro:=0,live:=true,arr:=false}),(1,{els:=[.int .i64 0],esz:=1,ety:=34,fro:=0,live:=true,arr:=false}),(7,{els:=(S.map spS).map sgPV,esz:=6,ety:=24,fro:=0,live:=true,arr:=true})] rfl rfl ?_ ?_ (fun _=> ?_) (fun h=>by simp [hn1]at h)
  ·simp [Qad,lkp,ren1,ren0,Qam]
  ·exact⟨⟨rfl,rfl,rfl,rfl,rfl,.inr ⟨rfl,_,_,rfl,rfl,rfl,rfl⟩⟩,⟨rfl,rfl,rfl,rfl,rfl,.inr ⟨rfl,_,_,rfl,rfl,rfl,rfl⟩⟩,trivial⟩
  ·simp [Qad,lkp,ren1,ren0,Qam,Qsz]
  ·intro k args h
   simp only [List.getElem?_map,Option.map_eq_some_iff]at h
   obtain⟨x, -,rfl⟩:=h
   rfl
  ·rintro k args hka hk
   simp only [List.getElem?_map,Option.map_eq_some_iff]at hka
   obtain⟨x,hx,rfl⟩:=hka
   have hkl:k<S.length:=(List.getElem?_eq_some_iff.1 hx).1
   have hlx:=Q2e hx
   cases k with
   |zero=>
    rw [Qlf (hfine _ _ hx)]
    skip
    simp only [cuB]
    have e0:((S.take 0).map spS).map sgPV=[]:=rfl
    rw [e0,List.nil_append]at hlx
    repeat (first|(simp -implicitDefEqProofs only [go_sem,Nat.reduceAdd,Nat.reduceMul,Nat.reduceEqDiff,Nat.reduceLT,Nat.reduceLeDiff,reduceCtorEq,pvars,List.toList_toArray,sgPV]))
    refine⟨by simp [lkp],?_⟩
    repeat (first|(simp -implicitDefEqProofs only [go_sem,Nat.reduceAdd,Nat.reduceMul,Nat.reduceEqDiff,Nat.reduceLT,Nat.reduceLeDiff,Nat.reduceSub,Nat.reduceBEq,reduceIte,reduceCtorEq,Int.reduceEq,Int.reduceNe,Nat.reduceBneDiff,Int.reduceLE,Int.reduceLT,Int.reduceToNat,Int.reduceAdd,Int.reduceSub,Int.reduceMul,Int.reduceNeg]))
    refine⟨by omega,?_⟩
    skip
    refine Qaj (θ:=[(1000000,1000000),(1000001,1000001),(7,603)]) rfl ?_ ?_
    ·simp [Qad,lkp,ren1,ren0,Qam]
    ·simp only [cuB,hlx]
     exact⟨⟨rfl,rfl,rfl,rfl,rfl,.inr ⟨rfl,_,_,rfl,rfl,rfl,rfl⟩⟩,⟨rfl,rfl,rfl,rfl,rfl,.inr ⟨rfl,_,_,rfl,rfl,rfl,rfl⟩⟩,⟨rfl,rfl,rfl,rfl,rfl,.inl ⟨rfl,rfl⟩⟩,trivial⟩
   |succ k=>
    rw [Qlf (hfine _ _ hx)]
    skip
    simp only [cuB]
    have b1:=Q2f (S:=S) (k:=k+1) (by omega)
    have b2:((((S.take (k+1)).map spS).map sgPV).flatMap PV.cells).all PV.okCell=true:=Qde _
    have c1:((k+1+1)*96≤140737488355328)=True:=eq_true (by omega)
    have c2:(k+1+1≤maxLen)=True:=eq_true (by unfold maxLen;omega)
    generalize hT:((S.take (k+1)).map spS).map sgPV=T at*
    repeat (first|(simp -implicitDefEqProofs only [go_sem,Nat.reduceAdd,Nat.reduceMul,Nat.reduceEqDiff,Nat.reduceLT,Nat.reduceLeDiff,reduceCtorEq,Nat.reduceBneDiff,pvars,List.toList_toArray,sgPV]))
    refine⟨by simp [lkp],?_⟩
    repeat (first|(simp -implicitDefEqProofs only [go_sem,Nat.reduceAdd,Nat.reduceEqDiff,reduceCtorEq,b1,b2,c1,c2]))
    refine⟨by omega,?_⟩
    skip
    refine Qaj (θ:=[(1000000,1000000),(1000001,1000001),(7,603)]) rfl ?_ ?_
    ·simp [Qad,lkp,ren1,ren0,Qam]
    ·simp only [cuB,hlx]
     exact⟨⟨rfl,rfl,rfl,rfl,rfl,.inr ⟨rfl,_,_,rfl,rfl,rfl,rfl⟩⟩,⟨rfl,rfl,rfl,rfl,rfl,.inr ⟨rfl,_,_,rfl,rfl,rfl,rfl⟩⟩,⟨rfl,rfl,rfl,rfl,rfl,.inl ⟨rfl,rfl⟩⟩,trivial⟩
  ·simp [Qad,lkp,ren1,ren0,Qam]
  ·rw [hmin]
   simp only [cuB]
   rw [htk]
   exact⟨⟨rfl,rfl,rfl,rfl,rfl,.inr ⟨rfl,_,_,rfl,rfl,rfl,rfl⟩⟩,⟨rfl,rfl,rfl,rfl,rfl,.inr ⟨rfl,_,_,rfl,rfl,rfl,rfl⟩⟩,⟨rfl,rfl,rfl,rfl,rfl,.inl ⟨rfl,rfl⟩⟩,trivial⟩
  ·have b1:((S.map spS).map sgPV).length=n+1:=by simp [hn1]
   have b2:(((S.map spS).map sgPV).flatMap PV.cells).all PV.okCell=true:=Qde _
   have b3:((S.map spS).map sgPV).take (n+1)=(S.map spS).map sgPV:=List.take_of_length_le (by omega)
   generalize (S.map spS).map sgPV=T at*
   repeat (first|(simp -implicitDefEqProofs only [go_sem,Nat.reduceAdd,Nat.reduceMul,Nat.reduceEqDiff,Nat.reduceLT,Nat.reduceLeDiff,reduceCtorEq,b1,b2,b3]))
 ·obtain⟨m,hm,hbad,hf⟩: ∃m,∃h:m<S.length,spF S[m]=false∧ ∀k,k<m→ ∀x,S[k]? =some x→spF x=true:=by
   have hex: ∃x∈S,(!spF x)=true:=Classical.byContradiction fun h=>hall (List.all_eq_true.2 fun x hx=>by
    cases e:spF x with
    |true=>rfl
    |false=>exact(h ⟨x,hx,by rw [e];rfl⟩).elim)
   have hlt:=List.findIdx_lt_length_of_exists hex
   refine⟨S.findIdx fun x=> !spF x,hlt,?_,fun k hk x hx=> ?_⟩
   ·have:=List.findIdx_getElem (w:=hlt);simpa using this
   ·obtain⟨hk2,rfl⟩:=List.getElem?_eq_some_iff.1 hx
    have:=List.not_of_lt_findIdx hk;simpa using this
  have hB1: ∀k,k≤m→cuC S m k=cuB S k:=fun k h=>if_neg (by omega)
  have hB2:cuC S m (m+1)=[(1000000,{els:=[.nilS],esz:=1,ety:=27,fro:=0,live:=true,arr:=false}),(1000001,{els:=[.int .i64 7],esz:=1,ety:=34,fro:=0,live:=true,arr:=false})]:=if_pos rfl
  have hN: ∀k,∀b∈ [1000000,1000001],(lkp (cuC S m k) b).isSome=true:=by
   intro k
   by_cases h:k=m+1
   ·rw [h,hB2];simp [lkp]
   ·rw [show cuC S m k=cuB S k from if_neg h];exact Zit S k
  have hmin:min (S.map spO).length (m+1)=m+1:=by rw [List.length_map];omega
  have hC0:cuC S m 0=[(1000000,{els:=[.nilS],esz:=1,ety:=27,fro:=0,live:=true,arr:=false}),(1000001,{els:=[.int .i64 0],esz:=1,ety:=34,fro:=0,live:=true,arr:=false})]:=hB1 0 (Nat.zero_le _)
  unfold Qnf Qap
  rw [if_neg hall]
  refine Qac (tb:=[]) 23 [.cell 6 27,.cell 7 34] [0,1,2,6,7,8,9,13,14,15,17] mixed Tryz.func68 rfl (by kernel_rfl) (by kernel_rfl) (by kernel_rfl) (by kernel_rfl) ?_
  repeat (first|(simp -implicitDefEqProofs only [go_sem,Nat.reduceAdd,Nat.reduceMul,Nat.reduceEqDiff,Nat.reduceLT,Nat.reduceLeDiff,reduceCtorEq])|((with_reducible refine Qab (h1) ?_ ?_ ?_);(with_reducible rfl);rfl))
  refine Qqz mixed hY rfl rfl _ rfl [(1000000,0),(1000001,1)] [1000000,1000001] rfl [(6,.bp 1000000 1 0 0),(7,.bp 1000001 1 0 0)] (cuC S m) rfl (by rw [hC0];rfl) ?_ ?_ ?_ m .ret (fun _=>rfl) (fun k _ _=>hN k) ?_ rfl ?_
   [(0,1000000),(1,1000001)] [(6,.bp 0 1 0 0),(7,.bp 1 1 0 0)] [(0,{els:=[.nilS],esz:=1,ety:=27,fro:=0,live:=true,arr:=false}),(1,{els:=[.int .i64 7],esz:=1,ety:=34,fro:=0,live:=true,arr:=false})] rfl rfl ?_ ?_ (fun h=>by rw [List.length_map]at h;omega) (fun _=> ?_)
  ·simp [Qad,lkp,ren1,ren0,Qam]
  ·rw [hC0]
   exact⟨⟨rfl,rfl,rfl,rfl,rfl,.inr ⟨rfl,_,_,rfl,rfl,rfl,rfl⟩⟩,⟨rfl,rfl,rfl,rfl,rfl,.inr ⟨rfl,_,_,rfl,rfl,rfl,rfl⟩⟩,trivial⟩
  ·simp [Qad,lkp,ren1,ren0,Qam,Qsz]
  ·intro k args h
   simp only [List.getElem?_map,Option.map_eq_some_iff]at h
   obtain⟨x, -,rfl⟩:=h
   rfl
  ·rintro k args hka hk
   simp only [List.getElem?_map,Option.map_eq_some_iff]at hka
   obtain⟨x,hx,rfl⟩:=hka
   by_cases hkm:k<m
   ·skip
    have hkl:k<S.length:=(List.getElem?_eq_some_iff.1 hx).1
    have hlx:=Q2e hx
    cases k with
    |zero=>
     rw [Qlf (hf _ hkm x hx)]
     rw [hB1 _ (Nat.le_of_lt hkm)]
     simp only [cuB]
     have e0:((S.take 0).map spS).map sgPV=[]:=rfl
     rw [e0,List.nil_append]at hlx
     repeat (first|(simp -implicitDefEqProofs only [go_sem,Nat.reduceAdd,Nat.reduceMul,Nat.reduceEqDiff,Nat.reduceLT,Nat.reduceLeDiff,reduceCtorEq,pvars,List.toList_toArray,sgPV]))
     refine⟨by simp [lkp],?_⟩
     repeat (first|(simp -implicitDefEqProofs only [go_sem,Nat.reduceAdd,Nat.reduceMul,Nat.reduceEqDiff,Nat.reduceLT,Nat.reduceLeDiff,Nat.reduceSub,Nat.reduceBEq,reduceIte,reduceCtorEq,Int.reduceEq,Int.reduceNe,Nat.reduceBneDiff,Int.reduceLE,Int.reduceLT,Int.reduceToNat,Int.reduceAdd,Int.reduceSub,Int.reduceMul,Int.reduceNeg]))
     refine⟨hkm,?_⟩
     rw [hB1 _ (by omega)]
     refine Qaj (θ:=[(1000000,1000000),(1000001,1000001),(7,603)]) rfl ?_ ?_
     ·simp [Qad,lkp,ren1,ren0,Qam]
     ·simp only [cuB,hlx]
      exact⟨⟨rfl,rfl,rfl,rfl,rfl,.inr ⟨rfl,_,_,rfl,rfl,rfl,rfl⟩⟩,⟨rfl,rfl,rfl,rfl,rfl,.inr ⟨rfl,_,_,rfl,rfl,rfl,rfl⟩⟩,⟨rfl,rfl,rfl,rfl,rfl,.inl ⟨rfl,rfl⟩⟩,trivial⟩
    |succ k=>
     rw [Qlf (hf _ hkm x hx)]
     rw [hB1 _ (Nat.le_of_lt hkm)]
     simp only [cuB]
     have b1:=Q2f (S:=S) (k:=k+1) (by omega)
     have b2:((((S.take (k+1)).map spS).map sgPV).flatMap PV.cells).all PV.okCell=true:=Qde _
     have c1:((k+1+1)*96≤140737488355328)=True:=eq_true (by omega)
     have c2:(k+1+1≤maxLen)=True:=eq_true (by unfold maxLen;omega)
     generalize hT:((S.take (k+1)).map spS).map sgPV=T at*
     repeat (first|(simp -implicitDefEqProofs only [go_sem,Nat.reduceAdd,Nat.reduceMul,Nat.reduceEqDiff,Nat.reduceLT,Nat.reduceLeDiff,reduceCtorEq,Nat.reduceBneDiff,pvars,List.toList_toArray,sgPV]))
     refine⟨by simp [lkp],?_⟩
     repeat (first|(simp -implicitDefEqProofs only [go_sem,Nat.reduceAdd,Nat.reduceEqDiff,reduceCtorEq,b1,b2,c1,c2]))
     refine⟨hkm,?_⟩
     rw [hB1 _ (by omega)]
     refine Qaj (θ:=[(1000000,1000000),(1000001,1000001),(7,603)]) rfl ?_ ?_
     ·simp [Qad,lkp,ren1,ren0,Qam]
     ·simp only [cuB,hlx]
      exact⟨⟨rfl,rfl,rfl,rfl,rfl,.inr ⟨rfl,_,_,rfl,rfl,rfl,rfl⟩⟩,⟨rfl,rfl,rfl,rfl,rfl,.inr ⟨rfl,_,_,rfl,rfl,rfl,rfl⟩⟩,⟨rfl,rfl,rfl,rfl,rfl,.inl ⟨rfl,rfl⟩⟩,trivial⟩
   ·obtain rfl:k=m:=by omega
    have hxb:spF x=false:=by
     obtain⟨_,rfl⟩:=List.getElem?_eq_some_iff.1 hx
     exact hbad
    rw [Zis hxb,hB1 _ (Nat.le_refl _)]
    cases k with
    |zero=>
     simp only [cuB]
     repeat (first|(simp -implicitDefEqProofs only [go_sem,Nat.reduceAdd,Nat.reduceMul,Nat.reduceEqDiff,Nat.reduceLT,Nat.reduceLeDiff,reduceCtorEq,pvars,List.toList_toArray,sgPV]))
     refine⟨by simp [lkp],?_⟩
     repeat (first|(simp -implicitDefEqProofs only [go_sem,Nat.reduceAdd,Nat.reduceMul,Nat.reduceEqDiff,Nat.reduceLT,Nat.reduceLeDiff,Nat.reduceSub,Nat.reduceBEq,reduceIte,reduceCtorEq,Int.reduceEq,Int.reduceNe,Nat.reduceBneDiff,Int.reduceLE,Int.reduceLT,Int.reduceToNat,Int.reduceAdd,Int.reduceSub,Int.reduceMul,Int.reduceNeg]))
     refine⟨rfl,rfl,?_⟩
     rw [hB2]
     refine Qaj (θ:=[(1000000,1000000),(1000001,1000001)]) rfl ?_ ?_
     ·simp [Qad,lkp,ren1,ren0,Qam]
     ·exact⟨⟨rfl,rfl,rfl,rfl,rfl,.inr ⟨rfl,_,_,rfl,rfl,rfl,rfl⟩⟩,⟨rfl,rfl,rfl,rfl,rfl,.inr ⟨rfl,_,_,rfl,rfl,rfl,rfl⟩⟩,trivial⟩
    |succ k=>
     simp only [cuB]
     generalize hT:((S.take (k+1)).map spS).map sgPV=T at*
     repeat (first|(simp -implicitDefEqProofs only [go_sem,Nat.reduceAdd,Nat.reduceMul,Nat.reduceEqDiff,Nat.reduceLT,Nat.reduceLeDiff,reduceCtorEq,pvars,List.toList_toArray,sgPV]))
     refine⟨by simp [lkp],?_⟩
     repeat (first|(simp -implicitDefEqProofs only [go_sem,Nat.reduceAdd,Nat.reduceMul,Nat.reduceEqDiff,Nat.reduceLT,Nat.reduceLeDiff,Nat.reduceSub,Nat.reduceBEq,reduceIte,reduceCtorEq,Int.reduceEq,Int.reduceNe,Nat.reduceBneDiff,Int.reduceLE,Int.reduceLT,Int.reduceToNat,Int.reduceAdd,Int.reduceSub,Int.reduceMul,Int.reduceNeg]))
     refine⟨rfl,rfl,?_⟩
     rw [hB2]
     refine Qaj (θ:=[(1000000,1000000),(1000001,1000001)]) rfl ?_ ?_
     ·simp [Qad,lkp,ren1,ren0,Qam]
     ·exact⟨⟨rfl,rfl,rfl,rfl,rfl,.inr ⟨rfl,_,_,rfl,rfl,rfl,rfl⟩⟩,⟨rfl,rfl,rfl,rfl,rfl,.inr ⟨rfl,_,_,rfl,rfl,rfl,rfl⟩⟩,trivial⟩
  ·simp [Qad,lkp,ren1,ren0,Qam]
  ·rw [hmin,hB2]
   exact⟨⟨rfl,rfl,rfl,rfl,rfl,.inr ⟨rfl,_,_,rfl,rfl,rfl,rfl⟩⟩,⟨rfl,rfl,rfl,rfl,rfl,.inr ⟨rfl,_,_,rfl,rfl,rfl,rfl⟩⟩,trivial⟩
  ·rw [Zqr]
   repeat (first|(simp -implicitDefEqProofs only [go_sem,Nat.reduceEqDiff,reduceCtorEq,List.map_nil]))
end Go.Proofs.YtlpiamlgibomhaaGreat

namespace Go.Proofs.YtlpiamlgibomhaaGreat
open Go.Vl Go.RowKit Go.Dg
def Qog (p:List Sg) (f t:Int):PV:=if Qa5 p=true then(if pBeg p≤f∧f<t∧t≤pEnd p then Qnf (spans p f t)else .tup [Qap [],.int .i64 3])else .tup [Qap [],.int .i64 2]
theorem Q9w (S:List (Sg×Int×Int)): ∃X n,Qnf S= .tup [Qap X,.int .i64 n]:=by
 unfold Qnf;split<;>exact⟨_,_,rfl⟩
theorem Qcw {p:List Sg} (h:Qa5 p=true): ∀s∈p,Qa2 s=true:=by
 intro s hs
 obtain⟨i,hi,rfl⟩:=List.getElem_of_mem hs
 exact Qe0 h i hi
theorem Zgo (p:List Sg) (f t:Int) (hp: ∀s∈p,okSg s) (hl:p.length≤100000):Qaf Tryz.prog 23 [Qap p,.int .i64 f,.int .i64 t] (Qog p f t):=by
 have hs:=Qtx p hp (by omega)
 unfold Qog
 unfold Qap at hs
 cases hV:Qa5 p with
 |false=>
  rw [hV]at hs
  simp only [Bool.false_eq_true,if_false]at hs
  unfold Qap
  refine Qac (tb:=[]) 41 [.tmp 6,.tmp 7] [0,1,2,6,7,8,9,10,17,21] mixed Tryz.func23 rfl (by kernel_rfl) (by kernel_rfl) (by kernel_rfl) (by kernel_rfl) ?_
  repeat (first|(simp -implicitDefEqProofs only [go_sem,Nat.reduceAdd,Nat.reduceMul,Nat.reduceEqDiff,Nat.reduceLT,Nat.reduceLeDiff,reduceCtorEq,Zi4,Bool.false_eq_true,if_false,List.map_nil])|((with_reducible refine Qab (hs) ?_ ?_ ?_);(with_reducible rfl);rfl))
 |true=>
  rw [hV]at hs
  simp only [if_true]at hs ⊢
  have hv:=Qcw hV
  have hc:=Q2g p f t (spans p f t) (Nat.le_trans (Qb8 _ _ _) hl) (Qmb p f t hp hv hl)
  obtain⟨X,n,hX⟩:=Q9w (spans p f t)
  rw [hX]at hc ⊢
  unfold Qap at hc ⊢
  generalize pBeg p=A at*
  generalize pEnd p=B at*
  by_cases h1:A≤f
  ·have h1':(f<A)=False:=eq_false (by omega)
   by_cases h2:f<t
   ·have h2':(t≤f)=False:=eq_false (by omega)
    by_cases h3:t≤B
    ·have h3':(B<t)=False:=eq_false (by omega)
     rw [if_pos ⟨h1,h2,h3⟩]
     refine Qac (tb:=[]) 41 [.tmp 6,.tmp 7] [0,1,2,6,7,8,9,10,17,21] mixed Tryz.func23 rfl (by kernel_rfl) (by kernel_rfl) (by kernel_rfl) (by kernel_rfl) ?_
     repeat (first|(simp -implicitDefEqProofs only [go_sem,Nat.reduceAdd,Nat.reduceMul,Nat.reduceEqDiff,Nat.reduceLT,Nat.reduceLeDiff,reduceCtorEq,Qju,h1',h2',h3',decide_false])|((with_reducible refine Qab (hs) ?_ ?_ ?_);(with_reducible rfl);rfl)|((with_reducible refine Qab (hc) ?_ ?_ ?_);(with_reducible rfl);rfl))
    ·have h3':(B<t)=True:=eq_true (by omega)
     rw [if_neg (by omega)]
     refine Qac (tb:=[]) 41 [.tmp 6,.tmp 7] [0,1,2,6,7,8,9,10,17,21] mixed Tryz.func23 rfl (by kernel_rfl) (by kernel_rfl) (by kernel_rfl) (by kernel_rfl) ?_
     repeat (first|(simp -implicitDefEqProofs only [go_sem,Nat.reduceAdd,Nat.reduceMul,Nat.reduceEqDiff,Nat.reduceLT,Nat.reduceLeDiff,reduceCtorEq,Qju,h1',h2',h3',decide_false,decide_true,List.map_nil])|((with_reducible refine Qab (hs) ?_ ?_ ?_);(with_reducible rfl);rfl))
   ·have h2':(t≤f)=True:=eq_true (by omega)
    rw [if_neg (by omega)]
    refine Qac (tb:=[]) 41 [.tmp 6,.tmp 7] [0,1,2,6,7,8,9,10,17,21] mixed Tryz.func23 rfl (by kernel_rfl) (by kernel_rfl) (by kernel_rfl) (by kernel_rfl) ?_
    repeat (first|(simp -implicitDefEqProofs only [go_sem,Nat.reduceAdd,Nat.reduceMul,Nat.reduceEqDiff,Nat.reduceLT,Nat.reduceLeDiff,reduceCtorEq,Qju,h1',h2',decide_false,decide_true,List.map_nil])|((with_reducible refine Qab (hs) ?_ ?_ ?_);(with_reducible rfl);rfl))
  ·have h1':(f<A)=True:=eq_true (by omega)
   rw [if_neg (by omega)]
   refine Qac (tb:=[]) 41 [.tmp 6,.tmp 7] [0,1,2,6,7,8,9,10,17,21] mixed Tryz.func23 rfl (by kernel_rfl) (by kernel_rfl) (by kernel_rfl) (by kernel_rfl) ?_
   repeat (first|(simp -implicitDefEqProofs only [go_sem,Nat.reduceAdd,Nat.reduceMul,Nat.reduceEqDiff,Nat.reduceLT,Nat.reduceLeDiff,reduceCtorEq,Qju,h1',decide_false,decide_true,List.map_nil])|((with_reducible refine Qab (hs) ?_ ?_ ?_);(with_reducible rfl);rfl))
theorem Zq6 (p:List Sg):Qaf Tryz.prog 77 [Qap p] (.fn 112 [] [.rp [Qap p]]):=by
 refine Qac (tb:=[]) 4 [.tmp 2] [0,1,2] mixed Tryz.func77 rfl (by kernel_rfl) (by kernel_rfl) (by kernel_rfl) (by kernel_rfl) ?_
 repeat (first|(simp -implicitDefEqProofs only [go_sem,Nat.reduceAdd,Nat.reduceMul,Nat.reduceEqDiff,Nat.reduceLT,Nat.reduceLeDiff,reduceCtorEq,Qap]))
def bwdO (p:List Sg) (j:Nat):List PV:=[.int .i64 ((p.length-1-j:Nat):Int),sgPV (p.getD (p.length-1-j) sg0)]
def Qem (p:List Sg):List (List PV):=(List.range p.length).map (bwdO p)
theorem Qye {p:List Sg} {k:Nat} (h:k<p.length):(Qem p).take (k+1)=(Qem p).take k++[bwdO p k]:=by
 have hk:k<(Qem p).length:=by simp [Qem,h]
 rw [Qbb _ k hk];simp [Qem]
set_option maxHeartbeats 1000000 in
theorem Zoc (p:List Sg) (hl:p.length≤100000):Qnd Tryz.prog 112 [.rp [Qap p]] (Qem p):=by
 have w0:IntKind.i64.wrap ((p.length:Int)-1)=(p.length:Int)-1:=Qai (by omega) (by omega)
 refine Qs0 (tb:=[]) 19 [0,1,3,8,18] mixed Tryz.func112 rfl (by kernel_rfl) (by kernel_rfl) (by kernel_rfl) (by kernel_rfl) fun l stop=> ?_
 repeat (first|(simp -implicitDefEqProofs only [go_sem,Nat.reduceAdd,Nat.reduceMul,Nat.reduceEqDiff,Nat.reduceLT,Nat.reduceLeDiff,reduceCtorEq,Qap,w0,List.length_map]))
 refine Qao mixed (fun k:{k:Nat // k≤p.length∧k≤stop}=>St.ofG [(0,.yld l stop),(1,.rp [Qap p]),(3,.int .i64 ((p.length:Int)-1-(k.1:Int)))] [] ((Qem p).take k.1) (some (l,stop,Qem p))) (fun k=>p.length-k.1) ⟨0,Nat.zero_le _,Nat.zero_le _⟩ ?_ ?_
 ·refine Qaz ?_
  simp [Qad,lkp,ren1,ren0,Qam,Qap]
 ·rintro⟨k,hk,hst⟩
  simp only
  by_cases hA:k<p.length
  ·have e1:(p.length:Int)-1-(k:Int)=((p.length-1-k:Nat):Int):=by omega
   have n0:=nnT (p.length-1-k)
   have hi:p.length-1-k<p.length:=by omega
   have hg:=Qcb p (p.length-1-k) hi
   have hgt:(Qem p)[((Qem p).take k).length]? =some (bwdO p k):=by
    have:((Qem p).take k).length=k:=by rw [List.length_take];simp [Qem];omega
    rw [this];simp [Qem,hA]
   have hlen:((Qem p).take k).length=k:=by rw [List.length_take];simp [Qem];omega
   have hst':(k≤stop)=True:=eq_true hst
   have htk:=Qye hA
   have hO:bwdO p k=[.int .i64 ((p.length-1-k:Nat):Int),sgPV p[p.length-1-k]]:=by unfold bwdO;rw [sgD hi]
   rw [hO]at hgt htk
   unfold sgPV Qan at hgt htk
   have w1:IntKind.i64.wrap (((p.length-1-k:Nat):Int)-1)=(p.length:Int)-1-((k+1:Nat):Int):=by rw [Qai (by omega) (by omega)];omega
   rw [hlen]at hgt
   generalize p[p.length-1-k]=s at*
   rw [e1]
   by_cases hlt:k<stop
   ·have hlt':(k<stop)=True:=eq_true hlt
    repeat (first|(simp -implicitDefEqProofs only [go_sem,Nat.reduceAdd,Nat.reduceMul,Nat.reduceEqDiff,Nat.reduceLT,Nat.reduceLeDiff,reduceCtorEq,n0,hg,hlen,hgt,hst',hlt',w1,Int.toNat_natCast,List.length_map]))
    refine⟨⟨k+1,hA,hlt⟩,by simp only;omega,?_⟩
    simp only [htk]
    refine Qaz ?_
    simp [Qad,lkp,ren1,ren0,Qam,Qap]
   ·have hlt':(k<stop)=False:=eq_false hlt
    have e:k=stop:=by omega
    subst e
    repeat (first|(simp -implicitDefEqProofs only [go_sem,Nat.reduceAdd,Nat.reduceMul,Nat.reduceEqDiff,Nat.reduceLT,Nat.reduceLeDiff,reduceCtorEq,n0,hg,hlen,hgt,hst',hlt',w1,Qnu,htk,Int.toNat_natCast,List.length_map]))
  ·have e1:(p.length:Int)-1-(k:Int)= -1:=by omega
   have ht:(Qem p).take (stop+1)=(Qem p).take k:=by
    rw [List.take_of_length_le (by simp [Qem];omega),List.take_of_length_le (by simp [Qem];omega)]
   rw [e1]
   repeat (first|(simp -implicitDefEqProofs only [go_sem,Nat.reduceAdd,Nat.reduceMul,Nat.reduceEqDiff,Nat.reduceLT,Nat.reduceLeDiff,reduceCtorEq,Int.reduceLE,Int.reduceNeg,Qnu,ht,List.length_map]))
end Go.Proofs.YtlpiamlgibomhaaGreat

namespace Go.Proofs.YtlpiamlgibomhaaGreat
open Go.Vl Go.RowKit Go.Dg
theorem Ziu (l:List Int):((l.map (PV.int .i64)).all fun e=>e.cells.length==1&&e.cells.all PV.okCell)=true:=by
 rw [List.all_map,List.all_eq_true];intro _ _;rfl
theorem Qts (l:List Int) (hl:l≠ []) (hl2:l.length≤100000):Qaf Tryz.prog 75 [Qan l] (Qan l):=by
 have h0:(l.map (PV.int .i64)).isEmpty=false:=by cases l with|nil=>exact absurd rfl hl|cons=>rfl
 have h1:(l.length*8≤140737488355328)=True:=eq_true (by omega)
 have h2:(l.length≤maxLen)=True:=eq_true (by unfold maxLen;omega)
 have h3:(l.map (PV.int .i64)).take l.length=l.map (PV.int .i64):=List.take_of_length_le (by simp)
 have h4:=Qf1 l
 refine Qac (tb:=[]) 8 [.tmp 2] [0,2,4] mixed Tryz.func75 rfl (by kernel_rfl) (by kernel_rfl) (by kernel_rfl) (by kernel_rfl) ?_
 repeat (first|(simp -implicitDefEqProofs only [go_sem,Nat.reduceAdd,Nat.reduceMul,Nat.reduceEqDiff,Nat.reduceLT,Nat.reduceLeDiff,reduceCtorEq,h0,List.length_map,h1,h2,h3,h4,Ziu]))
def okNe (p:List Sg):Prop:= ∀s∈p,∀c∈s.ax,c≠ []∧c.length≤100000
set_option maxHeartbeats 1000000 in
theorem Q2h (p:List Sg) (hl:p.length≤100000) (hne:okNe p):Qcv Tryz.prog 34 [Qap p] [] (.bs 7 6 0 p.length) [(7,{els:=p.map sgPV,esz:=6,ety:=24,fro:=0,live:=true,arr:=true})]:=by
 refine Qb3 (tb:=[]) 30 [.tmp 2] [0,2,3,5,6,7,8,9] mixed Tryz.func34 rfl (by kernel_rfl) (by kernel_rfl) (by kernel_rfl) (by kernel_rfl) (by rfl) ?_
 repeat (first|(simp -implicitDefEqProofs only [go_sem,Nat.reduceAdd,Nat.reduceMul,Nat.reduceEqDiff,Nat.reduceLT,Nat.reduceLeDiff,reduceCtorEq,Qap,List.length_map])|(with_reducible exact Qaa _ _ (by kernel_rfl))|(with_reducible refine And.intro (Qaa _ _ (by kernel_rfl)) ?_))
 refine Qao mixed (fun i:{i:Nat // i≤p.length}=>St.of [(3,.bs 7 6 0 i.1),(6,Qap p),(7,.int .i64 (p.length:Int)),(8,.int .i64 (i.1:Int))]
  [(7,{els:=(p.take i.1).map sgPV,esz:=6,ety:=24,fro:=0,live:=true,arr:=true})]) (fun i=>p.length-i.1) ⟨0,Nat.zero_le _⟩ ?_ ?_
 ·refine Qco 3 7 6 24 rfl rfl rfl (by decide) [(7,7)] rfl ?_ ?_
  ·simp [Qad,lkp,ren1,ren0,Qam,Qap]
  ·exact⟨⟨rfl,rfl,rfl,rfl,rfl,.inl ⟨rfl,rfl⟩⟩,trivial⟩
 ·rintro⟨i,hi⟩
  by_cases hA:i<p.length
  ·have hA':=ltT hA
   have n0:=nnT i
   have hg:=Qcb p i hA
   have hwk:=Qah (a:=i) (by omega)
   have hs:=hne _ (List.getElem_mem hA)
   have c1:=hs p[i].x (by simp [Sg.ax])
   have c2:=hs p[i].y (by simp [Sg.ax])
   have c3:=hs p[i].z (by simp [Sg.ax])
   have f1:=Qts _ c1.1 c1.2
   have f2:=Qts _ c2.1 c2.2
   have f3:=Qts _ c3.1 c3.2
   have hlt:((p.take i).map sgPV).length=i:=by simp;omega
   have hok:=Qde (p.take i)
   have k1:((i+1)*96≤140737488355328)=True:=eq_true (by omega)
   have k2:(i+1≤maxLen)=True:=eq_true (by unfold maxLen;omega)
   have hts:(p.take (i+1)).map sgPV=(p.take i).map sgPV++[sgPV p[i]]:=by rw [Qbb p i hA,List.map_append];rfl
   generalize (p.take i).map sgPV=T at*
   generalize p[i]=s at*
   repeat (first|(simp -implicitDefEqProofs only [go_sem,Nat.reduceAdd,Nat.reduceMul,Nat.reduceEqDiff,Nat.reduceLT,Nat.reduceLeDiff,reduceCtorEq,Nat.reduceBneDiff,hA',n0,hg,hwk,hlt,hok,k1,k2,Int.toNat_natCast,List.length_map])|((with_reducible refine Qab (f1) ?_ ?_ ?_);(with_reducible rfl);rfl)|((with_reducible refine Qab (f2) ?_ ?_ ?_);(with_reducible rfl);rfl)|((with_reducible refine Qab (f3) ?_ ?_ ?_);(with_reducible rfl);rfl)|(with_reducible exact Qaa _ _ (by kernel_rfl))|(with_reducible refine And.intro (Qaa _ _ (by kernel_rfl)) ?_))
   refine⟨⟨i+1,hA⟩,by simp only;omega,Qaj (θ:=[(7,603)]) rfl ?_ ?_⟩
   ·simp [Qad,lkp,ren1,ren0,Qam,Qap]
   ·simp only [hts]
    exact⟨⟨rfl,rfl,rfl,rfl,rfl,.inl ⟨rfl,rfl⟩⟩,trivial⟩
  ·have hA':=ltF hA
   obtain rfl:i=p.length:=by omega
   have ht:p.take p.length=p:=List.take_length
   simp only [ht]
   repeat (first|(simp -implicitDefEqProofs only [go_sem,Nat.reduceAdd,Nat.reduceMul,Nat.reduceEqDiff,Nat.reduceLT,Nat.reduceLeDiff,reduceCtorEq,hA'])|(with_reducible exact Qaa _ _ (by kernel_rfl))|(with_reducible refine And.intro (Qaa _ _ (by kernel_rfl)) ?_))
   refine Qbm (.inl rfl) ?_
   simp -implicitDefEqProofs only [go_sem,Nat.reduceEqDiff]
   refine Qaj (θ:=[(7,7)]) rfl ?_ ?_
   ·simp [Qad,lkp,ren1,ren0,Qam]
   ·exact⟨⟨rfl,rfl,rfl,rfl,rfl,.inl ⟨rfl,rfl⟩⟩,trivial⟩
end Go.Proofs.YtlpiamlgibomhaaGreat

namespace Go.Proofs.YtlpiamlgibomhaaGreat
open Go.Vl Go.RowKit Go.Dg
theorem Qrn (l:List Sg):((l.map sgPV).all fun e=>e.cells.length==6&&e.cells.all PV.okCell)=true:=by
 rw [List.all_map,List.all_eq_true];intro _ _;rfl
theorem Qoh {p:List Sg} (h:Qa5 p=true):okNe p:=by
 intro s hs c hc
 obtain⟨l1,l6, -, -⟩:=Qb7 ((Qa3 (Qcw h s hs)).2.1 c hc)
 exact⟨List.length_pos_iff.1 l1,by omega⟩
def Qro (a b:List Sg):Bool:=Qeh (a.getD (a.length-1) sg0) (b.getD 0 sg0)
def Qyf (a b:List Sg):PV:=if Qa5 a=true∧Qa5 b=true then(if Qro a b=true then(if a.length+b.length≤256 then .tup [Qap (a++b),.int .i64 0]else .tup [Qap [],.int .i64 7])else .tup [Qap [],.int .i64 10])else .tup [Qap [],.int .i64 2]
set_option maxHeartbeats 2000000 in
theorem Qrp (a b:List Sg) (ha: ∀s∈a,okSg s) (hb: ∀s∈b,okSg s) (hla:a.length≤100000) (hlb:b.length≤100000):Qaf Tryz.prog 27 [Qap a,Qap b] (Qyf a b):=by
 have v1:=Qd4 a ha (by omega)
 have v2:=Qd4 b hb (by omega)
 unfold Qyf
 cases hA:Qa5 a with
 |false=>
  rw [hA]at v1
  rw [if_neg (by simp)]
  unfold Qap at v1 ⊢
  refine Qac (tb:=[]) 39 [.tmp 4,.tmp 5] [0,1,4,5,6,15,27] mixed Tryz.func27 rfl (by kernel_rfl) (by kernel_rfl) (by kernel_rfl) (by kernel_rfl) ?_
  repeat (first|(simp -implicitDefEqProofs only [go_sem,Nat.reduceAdd,Nat.reduceMul,Nat.reduceEqDiff,Nat.reduceLT,Nat.reduceLeDiff,reduceCtorEq,Bool.not_false,List.map_nil])|((with_reducible refine Qab (v1) ?_ ?_ ?_);(with_reducible rfl);rfl)|(with_reducible exact Qaa _ _ (by kernel_rfl))|(with_reducible refine And.intro (Qaa _ _ (by kernel_rfl)) ?_))
 |true=>
  rw [hA]at v1
  cases hB:Qa5 b with
  |false=>
   rw [hB]at v2
   rw [if_neg (by simp)]
   unfold Qap at v1 v2 ⊢
   refine Qac (tb:=[]) 39 [.tmp 4,.tmp 5] [0,1,4,5,6,15,27] mixed Tryz.func27 rfl (by kernel_rfl) (by kernel_rfl) (by kernel_rfl) (by kernel_rfl) ?_
   repeat (first|(simp -implicitDefEqProofs only [go_sem,Nat.reduceAdd,Nat.reduceMul,Nat.reduceEqDiff,Nat.reduceLT,Nat.reduceLeDiff,reduceCtorEq,Bool.not_false,Bool.not_true,List.map_nil])|((with_reducible refine Qab (v1) ?_ ?_ ?_);(with_reducible rfl);rfl)|((with_reducible refine Qab (v2) ?_ ?_ ?_);(with_reducible rfl);rfl)|(with_reducible exact Qaa _ _ (by kernel_rfl))|(with_reducible refine And.intro (Qaa _ _ (by kernel_rfl)) ?_))
  |true=>
   rw [hB]at v2
   rw [if_pos ⟨rfl,rfl⟩]
   obtain⟨-,a1,a2⟩:=Qbr hA
   obtain⟨-,b1,b2⟩:=Qbr hB
   have hia:a.length-1<a.length:=by omega
   have hib:0<b.length:=by omega
   have ga:=Qcb a (a.length-1) hia
   have gb:=Qcb b 0 hib
   have hm:=Qwn a[a.length-1] b[0] (ha _ (List.getElem_mem hia)) (hb _ (List.getElem_mem hib)) (Qe0 hA _ hia) (Qe0 hB _ hib)
   have hML:Qro a b=Qeh a[a.length-1] b[0]:=by unfold Qro;rw [sgD hia,sgD hib]
   have wl:=Qdh (n:=a.length) (by omega) (by omega)
   have n0:=nnT (a.length-1)
   rw [hML]
   unfold Qap at v1 v2
   unfold sgPV Qan at hm
   cases hMM:Qeh a[a.length-1] b[0]with
   |false=>
    rw [hMM]at hm
    rw [if_neg (by simp)]
    unfold Qap
    refine Qac (tb:=[]) 39 [.tmp 4,.tmp 5] [0,1,4,5,6,15,27] mixed Tryz.func27 rfl (by kernel_rfl) (by kernel_rfl) (by kernel_rfl) (by kernel_rfl) ?_
    repeat (first|(simp -implicitDefEqProofs only [go_sem,Nat.reduceAdd,Nat.reduceMul,Nat.reduceEqDiff,Nat.reduceLT,Nat.reduceLeDiff,reduceCtorEq,ga,gb,wl,n0,Int.toNat_natCast,List.length_map,Bool.not_false,Bool.not_true,List.map_nil])|((with_reducible refine Qab (v1) ?_ ?_ ?_);(with_reducible rfl);rfl)|((with_reducible refine Qab (v2) ?_ ?_ ?_);(with_reducible rfl);rfl)|((with_reducible refine Qab (hm) ?_ ?_ ?_);(with_reducible rfl);rfl)|(with_reducible exact Qaa _ _ (by kernel_rfl))|(with_reducible refine And.intro (Qaa _ _ (by kernel_rfl)) ?_))
   |true=>
    rw [hMM]at hm
    rw [if_pos rfl]
    have wl2:IntKind.i64.wrap ((a.length:Int)+(b.length:Int))=(a.length:Int)+(b.length:Int):=Qai (by omega) (by omega)
    by_cases h256:a.length+b.length≤256
    ·have h':((256:Int)<(a.length:Int)+(b.length:Int))=False:=eq_false (by omega)
     rw [if_pos h256]
     have ca:=Q2h a hla (Qoh hA)
     have cb:=Q2h b hlb (Qoh hB)
     have e1:(a.map sgPV).take a.length=a.map sgPV:=List.take_of_length_le (by simp)
     have e2:(b.map sgPV).take b.length=b.map sgPV:=List.take_of_length_le (by simp)
     have e5:(a.map sgPV++b.map sgPV).take (a.length+b.length)=a.map sgPV++b.map sgPV:=List.take_of_length_le (by simp)
     have e6:(((a.map sgPV++b.map sgPV).flatMap PV.cells).all PV.okCell)=true:=by rw [←List.map_append];exact Qde _
     have e7:(a.length+b.length≤(a.map sgPV++b.map sgPV).length)=True:=eq_true (by simp)
     have e3:=Qde a
     have e4:=Qde b
     have k1:((a.length+b.length)*96≤140737488355328)=True:=eq_true (by omega)
     have k2:(a.length+b.length≤maxLen)=True:=eq_true (by unfold maxLen;omega)
     unfold Qap at ca cb ⊢
     rw [List.map_append]
     have bl1:Nat.blt 701 1000000=true:=rfl
     have bl2:Nat.blt 703 1000000=true:=rfl

     refine Qac (tb:=[(701,[],[(7,701)]),(703,[],[(7,703)])]) 39 [.tmp 4,.tmp 5] [0,1,4,5,6,15,27] mixed Tryz.func27 rfl (by kernel_rfl) (by kernel_rfl) (by kernel_rfl) (by kernel_rfl) ?_
     repeat (first|(simp -implicitDefEqProofs only [go_sem,Nat.reduceAdd,Nat.reduceMul,Nat.reduceEqDiff,Nat.reduceLT,Nat.reduceLeDiff,reduceCtorEq,Nat.reduceBneDiff,bl1,bl2,Qrn,ga,gb,wl,wl2,h',n0,e1,e2,e3,e4,e5,e6,e7,k1,k2,Int.toNat_natCast,List.length_map,Bool.not_false,Bool.not_true])|((with_reducible refine Qab (v1) ?_ ?_ ?_);(with_reducible rfl);rfl)|((with_reducible refine Qab (v2) ?_ ?_ ?_);(with_reducible rfl);rfl)|((with_reducible refine Qab (hm) ?_ ?_ ?_);(with_reducible rfl);rfl)|((with_reducible refine Qbs (ca) ?_ ?_ ?_ ?_);(with_reducible rfl);rfl;rfl)|((with_reducible refine Qbs (cb) ?_ ?_ ?_ ?_);(with_reducible rfl);rfl;rfl)|(with_reducible exact Qaa _ _ (by kernel_rfl))|(with_reducible refine And.intro (Qaa _ _ (by kernel_rfl)) ?_))
    ·have h':((256:Int)<(a.length:Int)+(b.length:Int))=True:=eq_true (by omega)
     rw [if_neg h256]
     unfold Qap
     refine Qac (tb:=[]) 39 [.tmp 4,.tmp 5] [0,1,4,5,6,15,27] mixed Tryz.func27 rfl (by kernel_rfl) (by kernel_rfl) (by kernel_rfl) (by kernel_rfl) ?_
     repeat (first|(simp -implicitDefEqProofs only [go_sem,Nat.reduceAdd,Nat.reduceMul,Nat.reduceEqDiff,Nat.reduceLT,Nat.reduceLeDiff,reduceCtorEq,ga,gb,wl,wl2,h',n0,Int.toNat_natCast,List.length_map,Bool.not_false,Bool.not_true,List.map_nil])|((with_reducible refine Qab (v1) ?_ ?_ ?_);(with_reducible rfl);rfl)|((with_reducible refine Qab (v2) ?_ ?_ ?_);(with_reducible rfl);rfl)|((with_reducible refine Qab (hm) ?_ ?_ ?_);(with_reducible rfl);rfl)|(with_reducible exact Qaa _ _ (by kernel_rfl))|(with_reducible refine And.intro (Qaa _ _ (by kernel_rfl)) ?_))
end Go.Proofs.YtlpiamlgibomhaaGreat
