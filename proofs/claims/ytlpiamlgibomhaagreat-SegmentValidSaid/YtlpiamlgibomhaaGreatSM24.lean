/-
  SM20, SM21, SM22, SM23, SM24 (merged for the claim).
-/
import Derived.Test.YtlpiamlgibomhaaGreatSM19
set_option linter.unusedSimpArgs false
set_option linter.unusedVariables false
namespace Go.Proofs.YtlpiamlgibomhaaGreat
open Go.Vl Go.RowKit Go.Dg
def ptSS (s:Sg) (a b:Int):Sg:=if ptF s a b=true then ptS s a b else⟨a,b,0,[],[],[]⟩
def spO (x:Sg×Int×Int):List PV:=[sgPV (ptSS x.1 x.2.1 x.2.2),.bool (spF x)]
def Qdc (p:List Sg) (f t:Int):List (List PV):=(spans p f t).map spO
theorem Zbs (p:List Sg) (f t:Int):Qag Tryz.prog 108 [Qaw p,.int .i64 f,.int .i64 t] (.fn 138 [] [.rp [Qaw p],.rp [.int .i64 f],.rp [.int .i64 t]]):=by
 refine Qac (tb:=[]) 8 [.tmp 6] [0,1,2,3,4,5,6] mixed Tryz.func108 rfl (by kernel_rfl) (by kernel_rfl) (by kernel_rfl) (by kernel_rfl) ?_
 repeat (first|(simp -implicitDefEqProofs only [go_sem,Nat.reduceAdd,Nat.reduceMul,Nat.reduceEqDiff,Nat.reduceLT,Nat.reduceLeDiff,reduceCtorEq,Qaw]))
theorem Qxo {p:List Sg} {f t:Int} {i:Nat} (hi:i<p.length):Qdc (p.take (i+1)) f t=Qdc (p.take i) f t++(if max f p[i].f≥min t p[i].t then []else [[sgPV (ptSS p[i] (max f p[i].f) (min t p[i].t)),.bool (ptF p[i] (max f p[i].f) (min t p[i].t))]]):=by
 unfold Qdc
 rw [Qbl p i hi,Qxm,List.map_append]
 congr 1
 split<;>rfl
theorem Q3p {p:List Sg} {f t:Int} {i:Nat} (hi:i<p.length) (h: ¬max f p[i].f≥min t p[i].t):(Qdc p f t)[(Qdc (p.take i) f t).length]? =some [sgPV (ptSS p[i] (max f p[i].f) (min t p[i].t)),.bool (ptF p[i] (max f p[i].f) (min t p[i].t))]:=by
 have e:Qdc p f t=Qdc (p.take i) f t++Qdc (p.drop i) f t:=by
  unfold Qdc
  rw [←List.map_append,←Qf1,List.take_append_drop]
 rw [e,List.getElem?_append_right (Nat.le_refl _),Nat.sub_self,List.drop_eq_getElem_cons hi]
 unfold Qdc
 simp only [spans]
 rw [if_neg h]
 rfl
theorem Qxp {p:List Sg} {f t:Int} {i:Nat}:Qdc (p.take i) f t=(Qdc p f t).take (Qdc (p.take i) f t).length:=by
 have e:Qdc p f t=Qdc (p.take i) f t++Qdc (p.drop i) f t:=by
  unfold Qdc
  rw [←List.map_append,←Qf1,List.take_append_drop]
 conv=>rhs;rw [e]
 rw [List.take_left']
 rfl
theorem Zi2 (s:Sg) (a b:Int) (hs:okSg s) (hv:Qa2 s=true) (h1:s.f≤a) (h2:a<b) (h3:b≤s.t):
  Qag Tryz.prog 78 [.int .i64 a,.int .i64 b,.agg [wL (ptL s a b 0),wL (ptL s a b 1),wL (ptL s a b 2)],wPV (ptO s)] (.tup [sgPV (ptSS s a b),.bool (ptF s a b)]):=by
 obtain⟨⟨v1,v2,v3,v4,v5⟩,hax, -⟩:=Qa4 hv
 have d1:i64 (a-s.f):=by unfold i64;omega
 have d2:i64 (b-a):=by unfold i64;omega
 have d3:i64 (s.t-s.f):=by unfold i64;omega
 have hbd:=Zl4 hs hv d1 d2 d3
 have h:=Q3c a b (ptL s a b) (ptO s) 12000 (by decide) (Q3e hv) (Zd1 hs d3) (fun i hi=>(hbd i hi).1) (fun i hi=>by have:=(hbd i hi).2;omega) (Zl3 hv h1 (by omega) h3)
 have e:(.tup [sgPV (ptSS s a b),.bool (ptF s a b)]:PV)=if Qml (ptL s a b) (ptO s)=true then .tup [sgPV (Q3a a b (ptL s a b) (ptO s)),.bool true]else .tup [sgPV ⟨a,b,0,[],[],[]⟩,.bool false]:=by
  unfold ptSS ptF ptS
  cases Qml (ptL s a b) (ptO s)<;>rfl
 rw [e];exact h
set_option maxHeartbeats 4000000 in
theorem Q3q (p:List Sg) (f t:Int) (hp: ∀s∈p,okSg s) (hv: ∀s∈p,Qa2 s=true) (hl:p.length≤100000):Qmi Tryz.prog 138 [.rp [Qaw p],.rp [.int .i64 f],.rp [.int .i64 t]] (Qdc p f t):=by
 refine Qp8 (tb:=[]) 62 [0,1,2,3,6,7,8,9,10,11,12,13,14,15,28,60] mixed Tryz.func138 rfl (by kernel_rfl) (by kernel_rfl) (by kernel_rfl) (by kernel_rfl) fun l stop=> ?_
 repeat (first|(simp -implicitDefEqProofs only [go_sem,Nat.reduceAdd,Nat.reduceMul,Nat.reduceEqDiff,Nat.reduceLT,Nat.reduceLeDiff,reduceCtorEq,Qaw])|(with_reducible exact Qaa _ _ (by kernel_rfl))|(with_reducible refine And.intro (Qaa _ _ (by kernel_rfl)) ?_))
 refine Qas mixed (fun i:{i:Nat // i≤p.length∧(Qdc (p.take i) f t).length≤stop}=>St.ofG [(0,.yld l stop),(1,.rp [Qaw p]),(2,.rp [.int .i64 f]),(3,.rp [.int .i64 t]),(12,Qaw p),(13,.int .i64 (p.length:Int)),(14,.int .i64 (i.1:Int))] [] (Qdc (p.take i.1) f t) (some (l,stop,Qdc p f t))) (fun i=>p.length-i.1) ⟨0,Nat.zero_le _,Nat.zero_le _⟩ ?_ ?_
 ·refine Qa1 ?_
  simp [Qad,lkp,ren1,ren0,Qap,Qaw]
 ·rintro⟨i,hi,hst⟩
  simp only
  by_cases hA:i<p.length
  ·have hA':=ltT hA
   have n0:=nnT i
   have hg:=Qct p i hA
   have hwk:=Qaj (a:=i) (by omega)
   have hs:=hp _ (List.getElem_mem hA)
   have hvs:=hv _ (List.getElem_mem hA)
   have hsn:=Qxo (f:=f) (t:=t) hA
   have hgt:=Q3p (f:=f) (t:=t) hA
   have htk:=Qxp (p:=p) (f:=f) (t:=t) (i:=i+1)
   generalize hO:Qdc (p.take i) f t=O at*
   generalize hOO:Qdc p f t=OO at*
   generalize p[i]=s at*
   by_cases hc:max f s.f≥min t s.t
   ·have hc':(min t s.t≤max f s.f)=True:=eq_true hc
    rw [if_pos hc,List.append_nil]at hsn
    repeat (first|(simp -implicitDefEqProofs only [go_sem,Nat.reduceAdd,Nat.reduceMul,Nat.reduceEqDiff,Nat.reduceLT,Nat.reduceLeDiff,reduceCtorEq,hA',n0,hg,hwk,hc',Int.toNat_natCast,List.length_map])|(with_reducible exact Qaa _ _ (by kernel_rfl))|(with_reducible refine And.intro (Qaa _ _ (by kernel_rfl)) ?_))
    refine⟨⟨i+1,hA,by rw [hsn];exact hst⟩,by simp only;omega,?_⟩
    simp only [hsn]
    refine Qa1 ?_
    simp [Qad,lkp,ren1,ren0,Qap,Qaw]
   ·have hc':(min t s.t≤max f s.f)=False:=eq_false hc
    rw [if_neg hc]at hsn
    have hgt:=hgt hc
    have hmk:=Zi2 s (max f s.f) (min t s.t) hs hvs (by omega) (by omega) (by omega)
    obtain⟨⟨v1,v2,v3,v4,v5⟩,hax, -⟩:=Qa4 hvs
    generalize hm1:max f s.f=a at*
    generalize hm2:min t s.t=b at*
    have d1:i64 (a-s.f):=by unfold i64;omega
    have d2:i64 (b-a):=by unfold i64;omega
    have d3:i64 (s.t-s.f):=by unfold i64;omega
    have w1:=Qah d1.1 d1.2
    have w2:=Qah d2.1 d2.2
    have w3:=Qah d3.1 d3.2
    have f1:=Qm6 s (a-s.f) (b-a) (s.t-s.f) hs (fun c hc=>(Qco (hax c hc)).2.1) d1 d2 d3 (by omega)
    have eL:cmpL s (a-s.f) (b-a) (s.t-s.f)=ptL s a b:=rfl
    rw [eL]at f1
    have f2:=Qen s.o hs.o.1 hs.o.2
    have f3:=Qc2 (s.t-s.f) 5 64 d3.1 d3.2 (by decide) (by decide) (Qau d3)
    have hOl:=Zd1 hs d3
    have eO:s.o*(s.t-s.f)^5=ptO s:=rfl
    have f4:=Qf3 (Qar (Qau hs.o) (by decide)) (Qar (Qk8 (Qau d3) 5) (by decide)) (Qar (show(s.o*(s.t-s.f)^5).natAbs<2^12000 from hOl) (by decide))
    rw [eO]at f4
    generalize ptL s a b=L at*
    generalize ptO s=PO at*
    generalize ptSS s a b=X at*
    generalize ptF s a b=F at*
    unfold sgPV at f1 hgt hsn hmk
    unfold wL at f1 hmk
    clear eL eO hOl
    have hst':(O.length≤stop)=True:=eq_true hst
    by_cases hlt:O.length<stop
    case neg=>
     have hlt':(O.length<stop)=False:=eq_false hlt
     have htk2:OO.take (stop+1)=O++[[.agg [.int .i64 X.f,.int .i64 X.t,.int .i64 X.o,.slc (X.x.map (PV.int .i64)),.slc (X.y.map (PV.int .i64)),.slc (X.z.map (PV.int .i64))],.bool F]]:=by
      have e:O.length=stop:=by omega
      have:=htk
      rw [hsn,List.length_append,e]at this
      exact this.symm
     repeat (first|(simp -implicitDefEqProofs only [go_sem,Nat.reduceAdd,Nat.reduceMul,Nat.reduceEqDiff,Nat.reduceLT,Nat.reduceLeDiff,reduceCtorEq,wPV,hA',n0,hg,hwk,hm1,hm2,hc',w1,w2,w3,hgt,hst',hlt',Qmz,htk2,Int.toNat_natCast,List.length_map])|((with_reducible refine Qab (f1) ?_ ?_ ?_);(with_reducible rfl);rfl)|((with_reducible refine Qab (f2) ?_ ?_ ?_);(with_reducible rfl);rfl)|((with_reducible refine Qab (f3) ?_ ?_ ?_);(with_reducible rfl);rfl)|((with_reducible refine Qab (f4) ?_ ?_ ?_);(with_reducible rfl);rfl)|((with_reducible refine Qab (hmk) ?_ ?_ ?_);(with_reducible rfl);rfl)|(with_reducible exact Qaa _ _ (by kernel_rfl))|(with_reducible refine And.intro (Qaa _ _ (by kernel_rfl)) ?_))
    have hlt':(O.length<stop)=True:=eq_true hlt
    repeat (first|(simp -implicitDefEqProofs only [go_sem,Nat.reduceAdd,Nat.reduceMul,Nat.reduceEqDiff,Nat.reduceLT,Nat.reduceLeDiff,reduceCtorEq,hst',hlt',wPV,hA',n0,hg,hwk,hm1,hm2,hc',w1,w2,w3,hgt,Int.toNat_natCast,List.length_map])|((with_reducible refine Qab (f1) ?_ ?_ ?_);(with_reducible rfl);rfl)|((with_reducible refine Qab (f2) ?_ ?_ ?_);(with_reducible rfl);rfl)|((with_reducible refine Qab (f3) ?_ ?_ ?_);(with_reducible rfl);rfl)|((with_reducible refine Qab (f4) ?_ ?_ ?_);(with_reducible rfl);rfl)|((with_reducible refine Qab (hmk) ?_ ?_ ?_);(with_reducible rfl);rfl)|(with_reducible exact Qaa _ _ (by kernel_rfl))|(with_reducible refine And.intro (Qaa _ _ (by kernel_rfl)) ?_))
    refine⟨⟨i+1,hA,by rw [hsn,List.length_append];exact hlt⟩,by simp only;omega,?_⟩
    simp only [hsn]
    refine Qa1 ?_
    simp [Qad,lkp,ren1,ren0,Qap,Qaw]
  ·have hA':=ltF hA
   have hO:Qdc (p.take i) f t=Qdc p f t:=by rw [List.take_of_length_le (by omega)]
   rw [hO]at hst ⊢
   have ht:(Qdc p f t).take (stop+1)=Qdc p f t:=List.take_of_length_le (by omega)
   generalize Qdc p f t=OO at*
   repeat (first|(simp -implicitDefEqProofs only [go_sem,Nat.reduceAdd,Nat.reduceMul,Nat.reduceEqDiff,Nat.reduceLT,Nat.reduceLeDiff,reduceCtorEq,hA',Qmz,ht,List.length_map])|(with_reducible exact Qaa _ _ (by kernel_rfl))|(with_reducible refine And.intro (Qaa _ _ (by kernel_rfl)) ?_))
end Go.Proofs.YtlpiamlgibomhaaGreat

namespace Go.Proofs.YtlpiamlgibomhaaGreat
open Go.Vl Go.RowKit Go.Dg
def Qom (S:List (Sg×Int×Int)):PV:=if S.all spF=true then .tup [Qaw (S.map spS),.int .i64 0]else .tup [Qaw [],.int .i64 7]
theorem Qkj {x:Sg×Int×Int} (h:spF x=true):spO x=[sgPV (spS x),.bool true]:=by
 unfold spO ptSS
 have h':ptF x.1 x.2.1 x.2.2=true:=h
 rw [if_pos h',h];rfl
theorem Zi3 {x:Sg×Int×Int} (h:spF x=false):spO x=[sgPV ⟨x.2.1,x.2.2,0,[],[],[]⟩,.bool false]:=by
 unfold spO ptSS
 have h': ¬ptF x.1 x.2.1 x.2.2=true:=by intro e;have:spF x=true:=e;rw [h]at this;cases this
 rw [if_neg h',h]
def cuB (S:List (Sg×Int×Int)):Nat→List (Nat×Box)
 |0=>[(1000000,{els:=[.nilS],esz:=1,ety:=27,fro:=0,live:=true,arr:=false}),(1000001,{els:=[.int .i64 0],esz:=1,ety:=34,fro:=0,live:=true,arr:=false})]
 |k+1=>[(1000000,{els:=[.bs 7 6 0 (k+1)],esz:=1,ety:=27,fro:=0,live:=true,arr:=false}),(1000001,{els:=[.int .i64 0],esz:=1,ety:=34,fro:=0,live:=true,arr:=false}),(7,{els:=((S.take (k+1)).map spS).map sgPV,esz:=6,ety:=24,fro:=0,live:=true,arr:=true})]
theorem Zi4 (S:List (Sg×Int×Int)) (k:Nat): ∀b∈ [1000000,1000001],(lkp (cuB S k) b).isSome=true:=by
 cases k<;>simp [cuB,lkp]
theorem Q3r {S:List (Sg×Int×Int)} {k:Nat} {x:Sg×Int×Int} (hx:S[k]? =some x):((S.take (k+1)).map spS).map sgPV=((S.take k).map spS).map sgPV++[.agg [.int .i64 (spS x).f,.int .i64 (spS x).t,.int .i64 (spS x).o,.slc ((spS x).x.map (PV.int .i64)),.slc ((spS x).y.map (PV.int .i64)),.slc ((spS x).z.map (PV.int .i64))]]:=by
 obtain⟨hk,rfl⟩:=List.getElem?_eq_some_iff.1 hx
 rw [Qbl S k hk,List.map_append,List.map_append];rfl
theorem Q3s {S:List (Sg×Int×Int)} {k:Nat} (h:k≤S.length):(((S.take k).map spS).map sgPV).length=k:=by simp;omega
def cuC (S:List (Sg×Int×Int)) (m k:Nat):List (Nat×Box):=if k=m+1 then [(1000000,{els:=[.nilS],esz:=1,ety:=27,fro:=0,live:=true,arr:=false}),(1000001,{els:=[.int .i64 7],esz:=1,ety:=34,fro:=0,live:=true,arr:=false})]else cuB S k
set_option maxHeartbeats 2000000 in
theorem Zl8 (p:List Sg) (f t:Int) (S:List (Sg×Int×Int)) (hS:S.length≤100000) (hY:Qmi Tryz.prog 138 [.rp [Qaw p],.rp [.int .i64 f],.rp [.int .i64 t]] (S.map spO)):
  Qag Tryz.prog 68 [Qaw p,.int .i64 f,.int .i64 t] (Qom S):=by
 have h1:=Zbs p f t
 unfold Qaw at h1 hY
 by_cases hn:S=[]
 ·subst hn
  unfold Qom Qaw
  refine Qac (tb:=[]) 23 [.cell 6 27,.cell 7 34] [0,1,2,6,7,8,9,13,14,15,17] mixed Tryz.func68 rfl (by kernel_rfl) (by kernel_rfl) (by kernel_rfl) (by kernel_rfl) ?_
  repeat (first|(simp -implicitDefEqProofs only [go_sem,Nat.reduceAdd,Nat.reduceMul,Nat.reduceEqDiff,Nat.reduceLT,Nat.reduceLeDiff,reduceCtorEq])|((with_reducible refine Qab (h1) ?_ ?_ ?_);(with_reducible rfl);rfl))
  refine Qok mixed hY rfl rfl _ rfl [(1000000,0),(1000001,1)] [1000000,1000001] rfl [(6,.bp 1000000 1 0 0),(7,.bp 1000001 1 0 0)] (cuB []) rfl rfl ?_ ?_ ?_ 0 .normal (fun h=>by simp at h) (fun k _ _=>Zi4 [] k) (fun k args h=>by simp at h) rfl (fun k args h=>by simp at h)
   [(0,1000000),(1,1000001)] [(6,.bp 0 1 0 0),(7,.bp 1 1 0 0)] [(0,{els:=[.nilS],esz:=1,ety:=27,fro:=0,live:=true,arr:=false}),(1,{els:=[.int .i64 0],esz:=1,ety:=34,fro:=0,live:=true,arr:=false})] rfl rfl ?_ ?_ (fun _=> ?_) (fun h=>by simp at h)
  ·simp [Qad,lkp,ren1,ren0,Qap]
  ·exact⟨⟨rfl,rfl,rfl,rfl,rfl,.inr ⟨rfl,_,_,rfl,rfl,rfl,rfl⟩⟩,⟨rfl,rfl,rfl,rfl,rfl,.inr ⟨rfl,_,_,rfl,rfl,rfl,rfl⟩⟩,trivial⟩
  ·simp [Qad,lkp,ren1,ren0,Qap,Qrp]
  ·simp [Qad,lkp,ren1,ren0,Qap]
  ·exact⟨⟨rfl,rfl,rfl,rfl,rfl,.inr ⟨rfl,_,_,rfl,rfl,rfl,rfl⟩⟩,⟨rfl,rfl,rfl,rfl,rfl,.inr ⟨rfl,_,_,rfl,rfl,rfl,rfl⟩⟩,trivial⟩
  ·repeat (first|(simp -implicitDefEqProofs only [go_sem,Nat.reduceAdd,Nat.reduceMul,Nat.reduceEqDiff,Nat.reduceLT,Nat.reduceLeDiff,reduceCtorEq,List.map_nil,List.all_nil,if_true]))
 by_cases hall:S.all spF=true
 ·have hfine: ∀(k:Nat) (x:Sg×Int×Int),S[k]? =some x→spF x=true:=fun k x h=>List.all_eq_true.1 hall x (List.mem_of_getElem? h)
  unfold Qom Qaw
  rw [if_pos hall]
  obtain⟨n,hn1⟩: ∃n,S.length=n+1:=⟨S.length-1,by have:=List.length_pos_iff.2 hn;omega⟩
  have hmin:min (S.map spO).length (n+1+1)=n+1:=by rw [List.length_map];omega
  have htk:S.take (n+1)=S:=List.take_of_length_le (by omega)
  refine Qac (tb:=[]) 23 [.cell 6 27,.cell 7 34] [0,1,2,6,7,8,9,13,14,15,17] mixed Tryz.func68 rfl (by kernel_rfl) (by kernel_rfl) (by kernel_rfl) (by kernel_rfl) ?_
  repeat (first|(simp -implicitDefEqProofs only [go_sem,Nat.reduceAdd,Nat.reduceMul,Nat.reduceEqDiff,Nat.reduceLT,Nat.reduceLeDiff,reduceCtorEq])|((with_reducible refine Qab (h1) ?_ ?_ ?_);(with_reducible rfl);rfl))
  refine Qok mixed hY rfl rfl _ rfl [(1000000,0),(1000001,1)] [1000000,1000001] rfl [(6,.bp 1000000 1 0 0),(7,.bp 1000001 1 0 0)] (cuB S) rfl rfl ?_ ?_ ?_ (n+1) .normal (fun h=>by simp [hn1]at h) (fun k _ _=>Zi4 S k) ?_ rfl ?_
   [(0,1000000),(1,1000001),(7,7)] [(6,.bp 0 1 0 0),(7,.bp 1 1 0 0)] [(0,{els:=[.bs 7 6 0 (n+1)],esz:=1,ety:=27,fro:=0,live:=true,arr:=false}),(1,{els:=[.int .i64 0],esz:=1,ety:=34,fro:=0,live:=true,arr:=false}),(7,{els:=(S.map spS).map sgPV,esz:=6,ety:=24,fro:=0,live:=true,arr:=true})] rfl rfl ?_ ?_ (fun _=> ?_) (fun h=>by simp [hn1]at h)
  ·simp [Qad,lkp,ren1,ren0,Qap]
  ·exact⟨⟨rfl,rfl,rfl,rfl,rfl,.inr ⟨rfl,_,_,rfl,rfl,rfl,rfl⟩⟩,⟨rfl,rfl,rfl,rfl,rfl,.inr ⟨rfl,_,_,rfl,rfl,rfl,rfl⟩⟩,trivial⟩
  ·simp [Qad,lkp,ren1,ren0,Qap,Qrp]
  ·intro k args h
   simp only [List.getElem?_map,Option.map_eq_some_iff]at h
   obtain⟨x, -,rfl⟩:=h
   rfl
  ·rintro k args hka hk
   simp only [List.getElem?_map,Option.map_eq_some_iff]at hka
   obtain⟨x,hx,rfl⟩:=hka
   have hkl:k<S.length:=(List.getElem?_eq_some_iff.1 hx).1
   have hlx:=Q3r hx
   cases k with
   |zero=>
    rw [Qkj (hfine _ _ hx)]
    skip
    simp only [cuB]
    have e0:((S.take 0).map spS).map sgPV=[]:=rfl
    rw [e0,List.nil_append]at hlx
    repeat (first|(simp -implicitDefEqProofs only [go_sem,Nat.reduceAdd,Nat.reduceMul,Nat.reduceEqDiff,Nat.reduceLT,Nat.reduceLeDiff,reduceCtorEq,pvars,List.toList_toArray,sgPV]))
    refine⟨by simp [lkp],?_⟩
    repeat (first|(simp -implicitDefEqProofs only [go_sem,Nat.reduceAdd,Nat.reduceMul,Nat.reduceEqDiff,Nat.reduceLT,Nat.reduceLeDiff,Nat.reduceSub,Nat.reduceBEq,reduceIte,reduceCtorEq,Int.reduceEq,Int.reduceNe,Nat.reduceBneDiff,Int.reduceLE,Int.reduceLT,Int.reduceToNat,Int.reduceAdd,Int.reduceSub,Int.reduceMul,Int.reduceNeg]))
    refine⟨by omega,?_⟩
    skip
    refine Qal (θ:=[(1000000,1000000),(1000001,1000001),(7,603)]) rfl ?_ ?_
    ·simp [Qad,lkp,ren1,ren0,Qap]
    ·simp only [cuB,hlx]
     exact⟨⟨rfl,rfl,rfl,rfl,rfl,.inr ⟨rfl,_,_,rfl,rfl,rfl,rfl⟩⟩,⟨rfl,rfl,rfl,rfl,rfl,.inr ⟨rfl,_,_,rfl,rfl,rfl,rfl⟩⟩,⟨rfl,rfl,rfl,rfl,rfl,.inl ⟨rfl,rfl⟩⟩,trivial⟩
   |succ k=>
    rw [Qkj (hfine _ _ hx)]
    skip
    simp only [cuB]
    have b1:=Q3s (S:=S) (k:=k+1) (by omega)
    have b2:((((S.take (k+1)).map spS).map sgPV).flatMap PV.cells).all PV.okCell=true:=Qh2 _
    have c1:((k+1+1)*96≤140737488355328)=True:=eq_true (by omega)
    have c2:(k+1+1≤maxLen)=True:=eq_true (by unfold maxLen;omega)
    generalize hT:((S.take (k+1)).map spS).map sgPV=T at*
    repeat (first|(simp -implicitDefEqProofs only [go_sem,Nat.reduceAdd,Nat.reduceMul,Nat.reduceEqDiff,Nat.reduceLT,Nat.reduceLeDiff,reduceCtorEq,Nat.reduceBneDiff,pvars,List.toList_toArray,sgPV]))
    refine⟨by simp [lkp],?_⟩
    repeat (first|(simp -implicitDefEqProofs only [go_sem,Nat.reduceAdd,Nat.reduceEqDiff,reduceCtorEq,b1,b2,c1,c2]))
    refine⟨by omega,?_⟩
    skip
    refine Qal (θ:=[(1000000,1000000),(1000001,1000001),(7,603)]) rfl ?_ ?_
    ·simp [Qad,lkp,ren1,ren0,Qap]
    ·simp only [cuB,hlx]
     exact⟨⟨rfl,rfl,rfl,rfl,rfl,.inr ⟨rfl,_,_,rfl,rfl,rfl,rfl⟩⟩,⟨rfl,rfl,rfl,rfl,rfl,.inr ⟨rfl,_,_,rfl,rfl,rfl,rfl⟩⟩,⟨rfl,rfl,rfl,rfl,rfl,.inl ⟨rfl,rfl⟩⟩,trivial⟩
  ·simp [Qad,lkp,ren1,ren0,Qap]
  ·rw [hmin]
   simp only [cuB]
   rw [htk]
   exact⟨⟨rfl,rfl,rfl,rfl,rfl,.inr ⟨rfl,_,_,rfl,rfl,rfl,rfl⟩⟩,⟨rfl,rfl,rfl,rfl,rfl,.inr ⟨rfl,_,_,rfl,rfl,rfl,rfl⟩⟩,⟨rfl,rfl,rfl,rfl,rfl,.inl ⟨rfl,rfl⟩⟩,trivial⟩
  ·have b1:((S.map spS).map sgPV).length=n+1:=by simp [hn1]
   have b2:(((S.map spS).map sgPV).flatMap PV.cells).all PV.okCell=true:=Qh2 _
   have b3:((S.map spS).map sgPV).take (n+1)=(S.map spS).map sgPV:=List.take_of_length_le (by omega)
   generalize (S.map spS).map sgPV=T at*
   repeat (first|(simp -implicitDefEqProofs only [go_sem,Nat.reduceAdd,Nat.reduceMul,Nat.reduceEqDiff,Nat.reduceLT,Nat.reduceLeDiff,reduceCtorEq,b1,b2,b3]))
 ·obtain⟨m,hm,hbad,hf⟩: ∃m,∃h:m<S.length,spF S[m]=false∧ ∀k,k<m→ ∀x,S[k]? =some x→spF x=true:=by
   have hex: ∃x∈S,(!spF x)=true:=Classical.byContradiction fun h=>hall (List.all_eq_true.2 fun x hx=>by
    cases e:spF x with
    |true=>rfl
    |false=>exact(h ⟨x,hx,by rw [e];rfl⟩).elim)
   have hlt:=List.findIdx_lt_length_of_exists hex
   refine⟨S.findIdx fun x=> !spF x,hlt,?_,fun k hk x hx=> ?_⟩
   ·have:=List.findIdx_getElem (w:=hlt);simpa using this
   ·obtain⟨hk2,rfl⟩:=List.getElem?_eq_some_iff.1 hx
    have:=List.not_of_lt_findIdx hk;simpa using this
  have hB1: ∀k,k≤m→cuC S m k=cuB S k:=fun k h=>if_neg (by omega)
  have hB2:cuC S m (m+1)=[(1000000,{els:=[.nilS],esz:=1,ety:=27,fro:=0,live:=true,arr:=false}),(1000001,{els:=[.int .i64 7],esz:=1,ety:=34,fro:=0,live:=true,arr:=false})]:=if_pos rfl
  have hN: ∀k,∀b∈ [1000000,1000001],(lkp (cuC S m k) b).isSome=true:=by
   intro k
   by_cases h:k=m+1
   ·rw [h,hB2];simp [lkp]
   ·rw [show cuC S m k=cuB S k from if_neg h];exact Zi4 S k
  have hmin:min (S.map spO).length (m+1)=m+1:=by rw [List.length_map];omega
  have hC0:cuC S m 0=[(1000000,{els:=[.nilS],esz:=1,ety:=27,fro:=0,live:=true,arr:=false}),(1000001,{els:=[.int .i64 0],esz:=1,ety:=34,fro:=0,live:=true,arr:=false})]:=hB1 0 (Nat.zero_le _)
  unfold Qom Qaw
  rw [if_neg hall]
  refine Qac (tb:=[]) 23 [.cell 6 27,.cell 7 34] [0,1,2,6,7,8,9,13,14,15,17] mixed Tryz.func68 rfl (by kernel_rfl) (by kernel_rfl) (by kernel_rfl) (by kernel_rfl) ?_
  repeat (first|(simp -implicitDefEqProofs only [go_sem,Nat.reduceAdd,Nat.reduceMul,Nat.reduceEqDiff,Nat.reduceLT,Nat.reduceLeDiff,reduceCtorEq])|((with_reducible refine Qab (h1) ?_ ?_ ?_);(with_reducible rfl);rfl))
  refine Qok mixed hY rfl rfl _ rfl [(1000000,0),(1000001,1)] [1000000,1000001] rfl [(6,.bp 1000000 1 0 0),(7,.bp 1000001 1 0 0)] (cuC S m) rfl (by rw [hC0];rfl) ?_ ?_ ?_ m .ret (fun _=>rfl) (fun k _ _=>hN k) ?_ rfl ?_
   [(0,1000000),(1,1000001)] [(6,.bp 0 1 0 0),(7,.bp 1 1 0 0)] [(0,{els:=[.nilS],esz:=1,ety:=27,fro:=0,live:=true,arr:=false}),(1,{els:=[.int .i64 7],esz:=1,ety:=34,fro:=0,live:=true,arr:=false})] rfl rfl ?_ ?_ (fun h=>by rw [List.length_map]at h;omega) (fun _=> ?_)
  ·simp [Qad,lkp,ren1,ren0,Qap]
  ·rw [hC0]
   exact⟨⟨rfl,rfl,rfl,rfl,rfl,.inr ⟨rfl,_,_,rfl,rfl,rfl,rfl⟩⟩,⟨rfl,rfl,rfl,rfl,rfl,.inr ⟨rfl,_,_,rfl,rfl,rfl,rfl⟩⟩,trivial⟩
  ·simp [Qad,lkp,ren1,ren0,Qap,Qrp]
  ·intro k args h
   simp only [List.getElem?_map,Option.map_eq_some_iff]at h
   obtain⟨x, -,rfl⟩:=h
   rfl
  ·rintro k args hka hk
   simp only [List.getElem?_map,Option.map_eq_some_iff]at hka
   obtain⟨x,hx,rfl⟩:=hka
   by_cases hkm:k<m
   ·skip
    have hkl:k<S.length:=(List.getElem?_eq_some_iff.1 hx).1
    have hlx:=Q3r hx
    cases k with
    |zero=>
     rw [Qkj (hf _ hkm x hx)]
     rw [hB1 _ (Nat.le_of_lt hkm)]
     simp only [cuB]
     have e0:((S.take 0).map spS).map sgPV=[]:=rfl
     rw [e0,List.nil_append]at hlx
     repeat (first|(simp -implicitDefEqProofs only [go_sem,Nat.reduceAdd,Nat.reduceMul,Nat.reduceEqDiff,Nat.reduceLT,Nat.reduceLeDiff,reduceCtorEq,pvars,List.toList_toArray,sgPV]))
     refine⟨by simp [lkp],?_⟩
     repeat (first|(simp -implicitDefEqProofs only [go_sem,Nat.reduceAdd,Nat.reduceMul,Nat.reduceEqDiff,Nat.reduceLT,Nat.reduceLeDiff,Nat.reduceSub,Nat.reduceBEq,reduceIte,reduceCtorEq,Int.reduceEq,Int.reduceNe,Nat.reduceBneDiff,Int.reduceLE,Int.reduceLT,Int.reduceToNat,Int.reduceAdd,Int.reduceSub,Int.reduceMul,Int.reduceNeg]))
     refine⟨hkm,?_⟩
     rw [hB1 _ (by omega)]
     refine Qal (θ:=[(1000000,1000000),(1000001,1000001),(7,603)]) rfl ?_ ?_
     ·simp [Qad,lkp,ren1,ren0,Qap]
     ·simp only [cuB,hlx]
      exact⟨⟨rfl,rfl,rfl,rfl,rfl,.inr ⟨rfl,_,_,rfl,rfl,rfl,rfl⟩⟩,⟨rfl,rfl,rfl,rfl,rfl,.inr ⟨rfl,_,_,rfl,rfl,rfl,rfl⟩⟩,⟨rfl,rfl,rfl,rfl,rfl,.inl ⟨rfl,rfl⟩⟩,trivial⟩
    |succ k=>
     rw [Qkj (hf _ hkm x hx)]
     rw [hB1 _ (Nat.le_of_lt hkm)]
     simp only [cuB]
     have b1:=Q3s (S:=S) (k:=k+1) (by omega)
     have b2:((((S.take (k+1)).map spS).map sgPV).flatMap PV.cells).all PV.okCell=true:=Qh2 _
     have c1:((k+1+1)*96≤140737488355328)=True:=eq_true (by omega)
     have c2:(k+1+1≤maxLen)=True:=eq_true (by unfold maxLen;omega)
     generalize hT:((S.take (k+1)).map spS).map sgPV=T at*
     repeat (first|(simp -implicitDefEqProofs only [go_sem,Nat.reduceAdd,Nat.reduceMul,Nat.reduceEqDiff,Nat.reduceLT,Nat.reduceLeDiff,reduceCtorEq,Nat.reduceBneDiff,pvars,List.toList_toArray,sgPV]))
     refine⟨by simp [lkp],?_⟩
     repeat (first|(simp -implicitDefEqProofs only [go_sem,Nat.reduceAdd,Nat.reduceEqDiff,reduceCtorEq,b1,b2,c1,c2]))
     refine⟨hkm,?_⟩
     rw [hB1 _ (by omega)]
     refine Qal (θ:=[(1000000,1000000),(1000001,1000001),(7,603)]) rfl ?_ ?_
     ·simp [Qad,lkp,ren1,ren0,Qap]
     ·simp only [cuB,hlx]
      exact⟨⟨rfl,rfl,rfl,rfl,rfl,.inr ⟨rfl,_,_,rfl,rfl,rfl,rfl⟩⟩,⟨rfl,rfl,rfl,rfl,rfl,.inr ⟨rfl,_,_,rfl,rfl,rfl,rfl⟩⟩,⟨rfl,rfl,rfl,rfl,rfl,.inl ⟨rfl,rfl⟩⟩,trivial⟩
   ·obtain rfl:k=m:=by omega
    have hxb:spF x=false:=by
     obtain⟨_,rfl⟩:=List.getElem?_eq_some_iff.1 hx
     exact hbad
    rw [Zi3 hxb,hB1 _ (Nat.le_refl _)]
    cases k with
    |zero=>
     simp only [cuB]
     repeat (first|(simp -implicitDefEqProofs only [go_sem,Nat.reduceAdd,Nat.reduceMul,Nat.reduceEqDiff,Nat.reduceLT,Nat.reduceLeDiff,reduceCtorEq,pvars,List.toList_toArray,sgPV]))
     refine⟨by simp [lkp],?_⟩
     repeat (first|(simp -implicitDefEqProofs only [go_sem,Nat.reduceAdd,Nat.reduceMul,Nat.reduceEqDiff,Nat.reduceLT,Nat.reduceLeDiff,Nat.reduceSub,Nat.reduceBEq,reduceIte,reduceCtorEq,Int.reduceEq,Int.reduceNe,Nat.reduceBneDiff,Int.reduceLE,Int.reduceLT,Int.reduceToNat,Int.reduceAdd,Int.reduceSub,Int.reduceMul,Int.reduceNeg]))
     refine⟨rfl,rfl,?_⟩
     rw [hB2]
     refine Qal (θ:=[(1000000,1000000),(1000001,1000001)]) rfl ?_ ?_
     ·simp [Qad,lkp,ren1,ren0,Qap]
     ·exact⟨⟨rfl,rfl,rfl,rfl,rfl,.inr ⟨rfl,_,_,rfl,rfl,rfl,rfl⟩⟩,⟨rfl,rfl,rfl,rfl,rfl,.inr ⟨rfl,_,_,rfl,rfl,rfl,rfl⟩⟩,trivial⟩
    |succ k=>
     simp only [cuB]
     generalize hT:((S.take (k+1)).map spS).map sgPV=T at*
     repeat (first|(simp -implicitDefEqProofs only [go_sem,Nat.reduceAdd,Nat.reduceMul,Nat.reduceEqDiff,Nat.reduceLT,Nat.reduceLeDiff,reduceCtorEq,pvars,List.toList_toArray,sgPV]))
     refine⟨by simp [lkp],?_⟩
     repeat (first|(simp -implicitDefEqProofs only [go_sem,Nat.reduceAdd,Nat.reduceMul,Nat.reduceEqDiff,Nat.reduceLT,Nat.reduceLeDiff,Nat.reduceSub,Nat.reduceBEq,reduceIte,reduceCtorEq,Int.reduceEq,Int.reduceNe,Nat.reduceBneDiff,Int.reduceLE,Int.reduceLT,Int.reduceToNat,Int.reduceAdd,Int.reduceSub,Int.reduceMul,Int.reduceNeg]))
     refine⟨rfl,rfl,?_⟩
     rw [hB2]
     refine Qal (θ:=[(1000000,1000000),(1000001,1000001)]) rfl ?_ ?_
     ·simp [Qad,lkp,ren1,ren0,Qap]
     ·exact⟨⟨rfl,rfl,rfl,rfl,rfl,.inr ⟨rfl,_,_,rfl,rfl,rfl,rfl⟩⟩,⟨rfl,rfl,rfl,rfl,rfl,.inr ⟨rfl,_,_,rfl,rfl,rfl,rfl⟩⟩,trivial⟩
  ·simp [Qad,lkp,ren1,ren0,Qap]
  ·rw [hmin,hB2]
   exact⟨⟨rfl,rfl,rfl,rfl,rfl,.inr ⟨rfl,_,_,rfl,rfl,rfl,rfl⟩⟩,⟨rfl,rfl,rfl,rfl,rfl,.inr ⟨rfl,_,_,rfl,rfl,rfl,rfl⟩⟩,trivial⟩
  ·rw [Zl2]
   repeat (first|(simp -implicitDefEqProofs only [go_sem,Nat.reduceEqDiff,reduceCtorEq,List.map_nil]))
end Go.Proofs.YtlpiamlgibomhaaGreat

namespace Go.Proofs.YtlpiamlgibomhaaGreat
open Go.Vl Go.RowKit Go.Dg
def Qna (p:List Sg) (f t:Int):PV:=if Qbo p=true then(if pBeg p≤f∧f<t∧t≤pEnd p then Qom (spans p f t)else .tup [Qaw [],.int .i64 3])else .tup [Qaw [],.int .i64 2]
theorem Zbt (S:List (Sg×Int×Int)): ∃X n,Qom S= .tup [Qaw X,.int .i64 n]:=by
 unfold Qom;split<;>exact⟨_,_,rfl⟩
theorem Qi6 {p:List Sg} (h:Qbo p=true): ∀s∈p,Qa2 s=true:=by
 intro s hs
 obtain⟨i,hi,rfl⟩:=List.getElem_of_mem hs
 exact Qel h i hi
theorem Zd3 (p:List Sg) (f t:Int) (hp: ∀s∈p,okSg s) (hl:p.length≤100000):Qag Tryz.prog 23 [Qaw p,.int .i64 f,.int .i64 t] (Qna p f t):=by
 have hs:=Qt3 p hp (by omega)
 unfold Qna
 unfold Qaw at hs
 cases hV:Qbo p with
 |false=>
  rw [hV]at hs
  simp only [Bool.false_eq_true,if_false]at hs
  unfold Qaw
  refine Qac (tb:=[]) 41 [.tmp 6,.tmp 7] [0,1,2,6,7,8,9,10,17,21] mixed Tryz.func23 rfl (by kernel_rfl) (by kernel_rfl) (by kernel_rfl) (by kernel_rfl) ?_
  repeat (first|(simp -implicitDefEqProofs only [go_sem,Nat.reduceAdd,Nat.reduceMul,Nat.reduceEqDiff,Nat.reduceLT,Nat.reduceLeDiff,reduceCtorEq,Zks,Bool.false_eq_true,if_false,List.map_nil])|((with_reducible refine Qab (hs) ?_ ?_ ?_);(with_reducible rfl);rfl))
 |true=>
  rw [hV]at hs
  simp only [if_true]at hs ⊢
  have hv:=Qi6 hV
  have hc:=Zl8 p f t (spans p f t) (Nat.le_trans (Qp9 _ _ _) hl) (Q3q p f t hp hv hl)
  obtain⟨X,n,hX⟩:=Zbt (spans p f t)
  rw [hX]at hc ⊢
  unfold Qaw at hc ⊢
  generalize pBeg p=A at*
  generalize pEnd p=B at*
  by_cases h1:A≤f
  ·have h1':(f<A)=False:=eq_false (by omega)
   by_cases h2:f<t
   ·have h2':(t≤f)=False:=eq_false (by omega)
    by_cases h3:t≤B
    ·have h3':(B<t)=False:=eq_false (by omega)
     rw [if_pos ⟨h1,h2,h3⟩]
     refine Qac (tb:=[]) 41 [.tmp 6,.tmp 7] [0,1,2,6,7,8,9,10,17,21] mixed Tryz.func23 rfl (by kernel_rfl) (by kernel_rfl) (by kernel_rfl) (by kernel_rfl) ?_
     repeat (first|(simp -implicitDefEqProofs only [go_sem,Nat.reduceAdd,Nat.reduceMul,Nat.reduceEqDiff,Nat.reduceLT,Nat.reduceLeDiff,reduceCtorEq,Qmc,h1',h2',h3',decide_false])|((with_reducible refine Qab (hs) ?_ ?_ ?_);(with_reducible rfl);rfl)|((with_reducible refine Qab (hc) ?_ ?_ ?_);(with_reducible rfl);rfl))
    ·have h3':(B<t)=True:=eq_true (by omega)
     rw [if_neg (by omega)]
     refine Qac (tb:=[]) 41 [.tmp 6,.tmp 7] [0,1,2,6,7,8,9,10,17,21] mixed Tryz.func23 rfl (by kernel_rfl) (by kernel_rfl) (by kernel_rfl) (by kernel_rfl) ?_
     repeat (first|(simp -implicitDefEqProofs only [go_sem,Nat.reduceAdd,Nat.reduceMul,Nat.reduceEqDiff,Nat.reduceLT,Nat.reduceLeDiff,reduceCtorEq,Qmc,h1',h2',h3',decide_false,decide_true,List.map_nil])|((with_reducible refine Qab (hs) ?_ ?_ ?_);(with_reducible rfl);rfl))
   ·have h2':(t≤f)=True:=eq_true (by omega)
    rw [if_neg (by omega)]
    refine Qac (tb:=[]) 41 [.tmp 6,.tmp 7] [0,1,2,6,7,8,9,10,17,21] mixed Tryz.func23 rfl (by kernel_rfl) (by kernel_rfl) (by kernel_rfl) (by kernel_rfl) ?_
    repeat (first|(simp -implicitDefEqProofs only [go_sem,Nat.reduceAdd,Nat.reduceMul,Nat.reduceEqDiff,Nat.reduceLT,Nat.reduceLeDiff,reduceCtorEq,Qmc,h1',h2',decide_false,decide_true,List.map_nil])|((with_reducible refine Qab (hs) ?_ ?_ ?_);(with_reducible rfl);rfl))
  ·have h1':(f<A)=True:=eq_true (by omega)
   rw [if_neg (by omega)]
   refine Qac (tb:=[]) 41 [.tmp 6,.tmp 7] [0,1,2,6,7,8,9,10,17,21] mixed Tryz.func23 rfl (by kernel_rfl) (by kernel_rfl) (by kernel_rfl) (by kernel_rfl) ?_
   repeat (first|(simp -implicitDefEqProofs only [go_sem,Nat.reduceAdd,Nat.reduceMul,Nat.reduceEqDiff,Nat.reduceLT,Nat.reduceLeDiff,reduceCtorEq,Qmc,h1',decide_false,decide_true,List.map_nil])|((with_reducible refine Qab (hs) ?_ ?_ ?_);(with_reducible rfl);rfl))
theorem Zn9 (p:List Sg):Qag Tryz.prog 77 [Qaw p] (.fn 112 [] [.rp [Qaw p]]):=by
 refine Qac (tb:=[]) 4 [.tmp 2] [0,1,2] mixed Tryz.func77 rfl (by kernel_rfl) (by kernel_rfl) (by kernel_rfl) (by kernel_rfl) ?_
 repeat (first|(simp -implicitDefEqProofs only [go_sem,Nat.reduceAdd,Nat.reduceMul,Nat.reduceEqDiff,Nat.reduceLT,Nat.reduceLeDiff,reduceCtorEq,Qaw]))
def bwdO (p:List Sg) (j:Nat):List PV:=[.int .i64 ((p.length-1-j:Nat):Int),sgPV (p.getD (p.length-1-j) sg0)]
def Qd1 (p:List Sg):List (List PV):=(List.range p.length).map (bwdO p)
theorem Qxq {p:List Sg} {k:Nat} (h:k<p.length):(Qd1 p).take (k+1)=(Qd1 p).take k++[bwdO p k]:=by
 have hk:k<(Qd1 p).length:=by simp [Qd1,h]
 rw [Qbl _ k hk];simp [Qd1]
set_option maxHeartbeats 1000000 in
theorem Zl9 (p:List Sg) (hl:p.length≤100000):Qmi Tryz.prog 112 [.rp [Qaw p]] (Qd1 p):=by
 have w0:IntKind.i64.wrap ((p.length:Int)-1)=(p.length:Int)-1:=Qah (by omega) (by omega)
 refine Qp8 (tb:=[]) 19 [0,1,3,8,18] mixed Tryz.func112 rfl (by kernel_rfl) (by kernel_rfl) (by kernel_rfl) (by kernel_rfl) fun l stop=> ?_
 repeat (first|(simp -implicitDefEqProofs only [go_sem,Nat.reduceAdd,Nat.reduceMul,Nat.reduceEqDiff,Nat.reduceLT,Nat.reduceLeDiff,reduceCtorEq,Qaw,w0,List.length_map]))
 refine Qas mixed (fun k:{k:Nat // k≤p.length∧k≤stop}=>St.ofG [(0,.yld l stop),(1,.rp [Qaw p]),(3,.int .i64 ((p.length:Int)-1-(k.1:Int)))] [] ((Qd1 p).take k.1) (some (l,stop,Qd1 p))) (fun k=>p.length-k.1) ⟨0,Nat.zero_le _,Nat.zero_le _⟩ ?_ ?_
 ·refine Qa1 ?_
  simp [Qad,lkp,ren1,ren0,Qap,Qaw]
 ·rintro⟨k,hk,hst⟩
  simp only
  by_cases hA:k<p.length
  ·have e1:(p.length:Int)-1-(k:Int)=((p.length-1-k:Nat):Int):=by omega
   have n0:=nnT (p.length-1-k)
   have hi:p.length-1-k<p.length:=by omega
   have hg:=Qct p (p.length-1-k) hi
   have hgt:(Qd1 p)[((Qd1 p).take k).length]? =some (bwdO p k):=by
    have:((Qd1 p).take k).length=k:=by rw [List.length_take];simp [Qd1];omega
    rw [this];simp [Qd1,hA]
   have hlen:((Qd1 p).take k).length=k:=by rw [List.length_take];simp [Qd1];omega
   have hst':(k≤stop)=True:=eq_true hst
   have htk:=Qxq hA
   have hO:bwdO p k=[.int .i64 ((p.length-1-k:Nat):Int),sgPV p[p.length-1-k]]:=by unfold bwdO;rw [sgD hi]
   rw [hO]at hgt htk
   unfold sgPV Qan at hgt htk
   have w1:IntKind.i64.wrap (((p.length-1-k:Nat):Int)-1)=(p.length:Int)-1-((k+1:Nat):Int):=by rw [Qah (by omega) (by omega)];omega
   rw [hlen]at hgt
   generalize p[p.length-1-k]=s at*
   rw [e1]
   by_cases hlt:k<stop
   ·have hlt':(k<stop)=True:=eq_true hlt
    repeat (first|(simp -implicitDefEqProofs only [go_sem,Nat.reduceAdd,Nat.reduceMul,Nat.reduceEqDiff,Nat.reduceLT,Nat.reduceLeDiff,reduceCtorEq,n0,hg,hlen,hgt,hst',hlt',w1,Int.toNat_natCast,List.length_map]))
    refine⟨⟨k+1,hA,hlt⟩,by simp only;omega,?_⟩
    simp only [htk]
    refine Qa1 ?_
    simp [Qad,lkp,ren1,ren0,Qap,Qaw]
   ·have hlt':(k<stop)=False:=eq_false hlt
    have e:k=stop:=by omega
    subst e
    repeat (first|(simp -implicitDefEqProofs only [go_sem,Nat.reduceAdd,Nat.reduceMul,Nat.reduceEqDiff,Nat.reduceLT,Nat.reduceLeDiff,reduceCtorEq,n0,hg,hlen,hgt,hst',hlt',w1,Qmz,htk,Int.toNat_natCast,List.length_map]))
  ·have e1:(p.length:Int)-1-(k:Int)= -1:=by omega
   have ht:(Qd1 p).take (stop+1)=(Qd1 p).take k:=by
    rw [List.take_of_length_le (by simp [Qd1];omega),List.take_of_length_le (by simp [Qd1];omega)]
   rw [e1]
   repeat (first|(simp -implicitDefEqProofs only [go_sem,Nat.reduceAdd,Nat.reduceMul,Nat.reduceEqDiff,Nat.reduceLT,Nat.reduceLeDiff,reduceCtorEq,Int.reduceLE,Int.reduceNeg,Qmz,ht,List.length_map]))
end Go.Proofs.YtlpiamlgibomhaaGreat

namespace Go.Proofs.YtlpiamlgibomhaaGreat
open Go.Vl Go.RowKit Go.Dg
theorem Zi5 (l:List Int):((l.map (PV.int .i64)).all fun e=>e.cells.length==1&&e.cells.all PV.okCell)=true:=by
 rw [List.all_map,List.all_eq_true];intro _ _;rfl
theorem Qsw (l:List Int) (hl:l≠ []) (hl2:l.length≤100000):Qag Tryz.prog 75 [Qan l] (Qan l):=by
 have h0:(l.map (PV.int .i64)).isEmpty=false:=by cases l with|nil=>exact absurd rfl hl|cons=>rfl
 have h1:(l.length*8≤140737488355328)=True:=eq_true (by omega)
 have h2:(l.length≤maxLen)=True:=eq_true (by unfold maxLen;omega)
 have h3:(l.map (PV.int .i64)).take l.length=l.map (PV.int .i64):=List.take_of_length_le (by simp)
 have h4:=Qk3 l
 refine Qac (tb:=[]) 8 [.tmp 2] [0,2,4] mixed Tryz.func75 rfl (by kernel_rfl) (by kernel_rfl) (by kernel_rfl) (by kernel_rfl) ?_
 repeat (first|(simp -implicitDefEqProofs only [go_sem,Nat.reduceAdd,Nat.reduceMul,Nat.reduceEqDiff,Nat.reduceLT,Nat.reduceLeDiff,reduceCtorEq,h0,List.length_map,h1,h2,h3,h4,Zi5]))
def okNe (p:List Sg):Prop:= ∀s∈p,∀c∈s.ax,c≠ []∧c.length≤100000
set_option maxHeartbeats 1000000 in
theorem Q3t (p:List Sg) (hl:p.length≤100000) (hne:okNe p):Qc9 Tryz.prog 34 [Qaw p] [] (.bs 7 6 0 p.length) [(7,{els:=p.map sgPV,esz:=6,ety:=24,fro:=0,live:=true,arr:=true})]:=by
 refine Qcx (tb:=[]) 30 [.tmp 2] [0,2,3,5,6,7,8,9] mixed Tryz.func34 rfl (by kernel_rfl) (by kernel_rfl) (by kernel_rfl) (by kernel_rfl) (by rfl) ?_
 repeat (first|(simp -implicitDefEqProofs only [go_sem,Nat.reduceAdd,Nat.reduceMul,Nat.reduceEqDiff,Nat.reduceLT,Nat.reduceLeDiff,reduceCtorEq,Qaw,List.length_map])|(with_reducible exact Qaa _ _ (by kernel_rfl))|(with_reducible refine And.intro (Qaa _ _ (by kernel_rfl)) ?_))
 refine Qas mixed (fun i:{i:Nat // i≤p.length}=>St.of [(3,.bs 7 6 0 i.1),(6,Qaw p),(7,.int .i64 (p.length:Int)),(8,.int .i64 (i.1:Int))]
  [(7,{els:=(p.take i.1).map sgPV,esz:=6,ety:=24,fro:=0,live:=true,arr:=true})]) (fun i=>p.length-i.1) ⟨0,Nat.zero_le _⟩ ?_ ?_
 ·refine Qhs 3 7 6 24 rfl rfl rfl (by decide) [(7,7)] rfl ?_ ?_
  ·simp [Qad,lkp,ren1,ren0,Qap,Qaw]
  ·exact⟨⟨rfl,rfl,rfl,rfl,rfl,.inl ⟨rfl,rfl⟩⟩,trivial⟩
 ·rintro⟨i,hi⟩
  by_cases hA:i<p.length
  ·have hA':=ltT hA
   have n0:=nnT i
   have hg:=Qct p i hA
   have hwk:=Qaj (a:=i) (by omega)
   have hs:=hne _ (List.getElem_mem hA)
   have c1:=hs p[i].x (by simp [Sg.ax])
   have c2:=hs p[i].y (by simp [Sg.ax])
   have c3:=hs p[i].z (by simp [Sg.ax])
   have f1:=Qsw _ c1.1 c1.2
   have f2:=Qsw _ c2.1 c2.2
   have f3:=Qsw _ c3.1 c3.2
   have hlt:((p.take i).map sgPV).length=i:=by simp;omega
   have hok:=Qh2 (p.take i)
   have k1:((i+1)*96≤140737488355328)=True:=eq_true (by omega)
   have k2:(i+1≤maxLen)=True:=eq_true (by unfold maxLen;omega)
   have hts:(p.take (i+1)).map sgPV=(p.take i).map sgPV++[sgPV p[i]]:=by rw [Qbl p i hA,List.map_append];rfl
   generalize (p.take i).map sgPV=T at*
   generalize p[i]=s at*
   repeat (first|(simp -implicitDefEqProofs only [go_sem,Nat.reduceAdd,Nat.reduceMul,Nat.reduceEqDiff,Nat.reduceLT,Nat.reduceLeDiff,reduceCtorEq,Nat.reduceBneDiff,hA',n0,hg,hwk,hlt,hok,k1,k2,Int.toNat_natCast,List.length_map])|((with_reducible refine Qab (f1) ?_ ?_ ?_);(with_reducible rfl);rfl)|((with_reducible refine Qab (f2) ?_ ?_ ?_);(with_reducible rfl);rfl)|((with_reducible refine Qab (f3) ?_ ?_ ?_);(with_reducible rfl);rfl)|(with_reducible exact Qaa _ _ (by kernel_rfl))|(with_reducible refine And.intro (Qaa _ _ (by kernel_rfl)) ?_))
   refine⟨⟨i+1,hA⟩,by simp only;omega,Qal (θ:=[(7,603)]) rfl ?_ ?_⟩
   ·simp [Qad,lkp,ren1,ren0,Qap,Qaw]
   ·simp only [hts]
    exact⟨⟨rfl,rfl,rfl,rfl,rfl,.inl ⟨rfl,rfl⟩⟩,trivial⟩
  ·have hA':=ltF hA
   obtain rfl:i=p.length:=by omega
   have ht:p.take p.length=p:=List.take_length
   simp only [ht]
   repeat (first|(simp -implicitDefEqProofs only [go_sem,Nat.reduceAdd,Nat.reduceMul,Nat.reduceEqDiff,Nat.reduceLT,Nat.reduceLeDiff,reduceCtorEq,hA'])|(with_reducible exact Qaa _ _ (by kernel_rfl))|(with_reducible refine And.intro (Qaa _ _ (by kernel_rfl)) ?_))
   refine Qb1 (.inl rfl) ?_
   simp -implicitDefEqProofs only [go_sem,Nat.reduceEqDiff]
   refine Qal (θ:=[(7,7)]) rfl ?_ ?_
   ·simp [Qad,lkp,ren1,ren0,Qap]
   ·exact⟨⟨rfl,rfl,rfl,rfl,rfl,.inl ⟨rfl,rfl⟩⟩,trivial⟩
end Go.Proofs.YtlpiamlgibomhaaGreat

namespace Go.Proofs.YtlpiamlgibomhaaGreat
open Go.Vl Go.RowKit Go.Dg
theorem Zma (l:List Sg):((l.map sgPV).all fun e=>e.cells.length==6&&e.cells.all PV.okCell)=true:=by
 rw [List.all_map,List.all_eq_true];intro _ _;rfl
theorem Qnb {p:List Sg} (h:Qbo p=true):okNe p:=by
 intro s hs c hc
 obtain⟨l1,l6, -, -⟩:=Qco ((Qa4 (Qi6 h s hs)).2.1 c hc)
 exact⟨List.length_pos_iff.1 l1,by omega⟩
def Qqf (a b:List Sg):Bool:=Qfy (a.getD (a.length-1) sg0) (b.getD 0 sg0)
def Qxr (a b:List Sg):PV:=if Qbo a=true∧Qbo b=true then(if Qqf a b=true then(if a.length+b.length≤256 then .tup [Qaw (a++b),.int .i64 0]else .tup [Qaw [],.int .i64 7])else .tup [Qaw [],.int .i64 10])else .tup [Qaw [],.int .i64 2]
set_option maxHeartbeats 2000000 in
theorem Qqg (a b:List Sg) (ha: ∀s∈a,okSg s) (hb: ∀s∈b,okSg s) (hla:a.length≤100000) (hlb:b.length≤100000):Qag Tryz.prog 27 [Qaw a,Qaw b] (Qxr a b):=by
 have v1:=Qf0 a ha (by omega)
 have v2:=Qf0 b hb (by omega)
 unfold Qxr
 cases hA:Qbo a with
 |false=>
  rw [hA]at v1
  rw [if_neg (by simp)]
  unfold Qaw at v1 ⊢
  refine Qac (tb:=[]) 39 [.tmp 4,.tmp 5] [0,1,4,5,6,15,27] mixed Tryz.func27 rfl (by kernel_rfl) (by kernel_rfl) (by kernel_rfl) (by kernel_rfl) ?_
  repeat (first|(simp -implicitDefEqProofs only [go_sem,Nat.reduceAdd,Nat.reduceMul,Nat.reduceEqDiff,Nat.reduceLT,Nat.reduceLeDiff,reduceCtorEq,Bool.not_false,List.map_nil])|((with_reducible refine Qab (v1) ?_ ?_ ?_);(with_reducible rfl);rfl)|(with_reducible exact Qaa _ _ (by kernel_rfl))|(with_reducible refine And.intro (Qaa _ _ (by kernel_rfl)) ?_))
 |true=>
  rw [hA]at v1
  cases hB:Qbo b with
  |false=>
   rw [hB]at v2
   rw [if_neg (by simp)]
   unfold Qaw at v1 v2 ⊢
   refine Qac (tb:=[]) 39 [.tmp 4,.tmp 5] [0,1,4,5,6,15,27] mixed Tryz.func27 rfl (by kernel_rfl) (by kernel_rfl) (by kernel_rfl) (by kernel_rfl) ?_
   repeat (first|(simp -implicitDefEqProofs only [go_sem,Nat.reduceAdd,Nat.reduceMul,Nat.reduceEqDiff,Nat.reduceLT,Nat.reduceLeDiff,reduceCtorEq,Bool.not_false,Bool.not_true,List.map_nil])|((with_reducible refine Qab (v1) ?_ ?_ ?_);(with_reducible rfl);rfl)|((with_reducible refine Qab (v2) ?_ ?_ ?_);(with_reducible rfl);rfl)|(with_reducible exact Qaa _ _ (by kernel_rfl))|(with_reducible refine And.intro (Qaa _ _ (by kernel_rfl)) ?_))
  |true=>
   rw [hB]at v2
   rw [if_pos ⟨rfl,rfl⟩]
   obtain⟨-,a1,a2⟩:=Qcc hA
   obtain⟨-,b1,b2⟩:=Qcc hB
   have hia:a.length-1<a.length:=by omega
   have hib:0<b.length:=by omega
   have ga:=Qct a (a.length-1) hia
   have gb:=Qct b 0 hib
   have hm:=Qud a[a.length-1] b[0] (ha _ (List.getElem_mem hia)) (hb _ (List.getElem_mem hib)) (Qel hA _ hia) (Qel hB _ hib)
   have hML:Qqf a b=Qfy a[a.length-1] b[0]:=by unfold Qqf;rw [sgD hia,sgD hib]
   have wl:=Qfd (n:=a.length) (by omega) (by omega)
   have n0:=nnT (a.length-1)
   rw [hML]
   unfold Qaw at v1 v2
   unfold sgPV Qan at hm
   cases hMM:Qfy a[a.length-1] b[0]with
   |false=>
    rw [hMM]at hm
    rw [if_neg (by simp)]
    unfold Qaw
    refine Qac (tb:=[]) 39 [.tmp 4,.tmp 5] [0,1,4,5,6,15,27] mixed Tryz.func27 rfl (by kernel_rfl) (by kernel_rfl) (by kernel_rfl) (by kernel_rfl) ?_
    repeat (first|(simp -implicitDefEqProofs only [go_sem,Nat.reduceAdd,Nat.reduceMul,Nat.reduceEqDiff,Nat.reduceLT,Nat.reduceLeDiff,reduceCtorEq,ga,gb,wl,n0,Int.toNat_natCast,List.length_map,Bool.not_false,Bool.not_true,List.map_nil])|((with_reducible refine Qab (v1) ?_ ?_ ?_);(with_reducible rfl);rfl)|((with_reducible refine Qab (v2) ?_ ?_ ?_);(with_reducible rfl);rfl)|((with_reducible refine Qab (hm) ?_ ?_ ?_);(with_reducible rfl);rfl)|(with_reducible exact Qaa _ _ (by kernel_rfl))|(with_reducible refine And.intro (Qaa _ _ (by kernel_rfl)) ?_))
   |true=>
    rw [hMM]at hm
    rw [if_pos rfl]
    have wl2:IntKind.i64.wrap ((a.length:Int)+(b.length:Int))=(a.length:Int)+(b.length:Int):=Qah (by omega) (by omega)
    by_cases h256:a.length+b.length≤256
    ·have h':((256:Int)<(a.length:Int)+(b.length:Int))=False:=eq_false (by omega)
     rw [if_pos h256]
     have ca:=Q3t a hla (Qnb hA)
     have cb:=Q3t b hlb (Qnb hB)
     have e1:(a.map sgPV).take a.length=a.map sgPV:=List.take_of_length_le (by simp)
     have e2:(b.map sgPV).take b.length=b.map sgPV:=List.take_of_length_le (by simp)
     have e5:(a.map sgPV++b.map sgPV).take (a.length+b.length)=a.map sgPV++b.map sgPV:=List.take_of_length_le (by simp)
     have e6:(((a.map sgPV++b.map sgPV).flatMap PV.cells).all PV.okCell)=true:=by rw [←List.map_append];exact Qh2 _
     have e7:(a.length+b.length≤(a.map sgPV++b.map sgPV).length)=True:=eq_true (by simp)
     have e3:=Qh2 a
     have e4:=Qh2 b
     have k1:((a.length+b.length)*96≤140737488355328)=True:=eq_true (by omega)
     have k2:(a.length+b.length≤maxLen)=True:=eq_true (by unfold maxLen;omega)
     unfold Qaw at ca cb ⊢
     rw [List.map_append]
     have bl1:Nat.blt 701 1000000=true:=rfl
     have bl2:Nat.blt 703 1000000=true:=rfl

     refine Qac (tb:=[(701,[],[(7,701)]),(703,[],[(7,703)])]) 39 [.tmp 4,.tmp 5] [0,1,4,5,6,15,27] mixed Tryz.func27 rfl (by kernel_rfl) (by kernel_rfl) (by kernel_rfl) (by kernel_rfl) ?_
     repeat (first|(simp -implicitDefEqProofs only [go_sem,Nat.reduceAdd,Nat.reduceMul,Nat.reduceEqDiff,Nat.reduceLT,Nat.reduceLeDiff,reduceCtorEq,Nat.reduceBneDiff,bl1,bl2,Zma,ga,gb,wl,wl2,h',n0,e1,e2,e3,e4,e5,e6,e7,k1,k2,Int.toNat_natCast,List.length_map,Bool.not_false,Bool.not_true])|((with_reducible refine Qab (v1) ?_ ?_ ?_);(with_reducible rfl);rfl)|((with_reducible refine Qab (v2) ?_ ?_ ?_);(with_reducible rfl);rfl)|((with_reducible refine Qab (hm) ?_ ?_ ?_);(with_reducible rfl);rfl)|((with_reducible refine Qb5 (ca) ?_ ?_ ?_ ?_);(with_reducible rfl);rfl;rfl)|((with_reducible refine Qb5 (cb) ?_ ?_ ?_ ?_);(with_reducible rfl);rfl;rfl)|(with_reducible exact Qaa _ _ (by kernel_rfl))|(with_reducible refine And.intro (Qaa _ _ (by kernel_rfl)) ?_))
    ·have h':((256:Int)<(a.length:Int)+(b.length:Int))=True:=eq_true (by omega)
     rw [if_neg h256]
     unfold Qaw
     refine Qac (tb:=[]) 39 [.tmp 4,.tmp 5] [0,1,4,5,6,15,27] mixed Tryz.func27 rfl (by kernel_rfl) (by kernel_rfl) (by kernel_rfl) (by kernel_rfl) ?_
     repeat (first|(simp -implicitDefEqProofs only [go_sem,Nat.reduceAdd,Nat.reduceMul,Nat.reduceEqDiff,Nat.reduceLT,Nat.reduceLeDiff,reduceCtorEq,ga,gb,wl,wl2,h',n0,Int.toNat_natCast,List.length_map,Bool.not_false,Bool.not_true,List.map_nil])|((with_reducible refine Qab (v1) ?_ ?_ ?_);(with_reducible rfl);rfl)|((with_reducible refine Qab (v2) ?_ ?_ ?_);(with_reducible rfl);rfl)|((with_reducible refine Qab (hm) ?_ ?_ ?_);(with_reducible rfl);rfl)|(with_reducible exact Qaa _ _ (by kernel_rfl))|(with_reducible refine And.intro (Qaa _ _ (by kernel_rfl)) ?_))
end Go.Proofs.YtlpiamlgibomhaaGreat
