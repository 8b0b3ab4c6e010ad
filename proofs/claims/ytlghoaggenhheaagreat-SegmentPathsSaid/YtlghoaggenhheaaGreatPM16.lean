/-
  PM13, Dsm, PM14, PM15, PM16 (merged for the claim).
-/
import Derived.Test.YtlghoaggenhheaaGreatDsl
set_option linter.unusedSimpArgs false
set_option linter.unusedVariables false
namespace Go.Proofs.YtlghoaggenhheaaGreat
open Go.Vl Go.RowKit Go.Dg
theorem Qm9 (xs:List Int) (i:Nat) (x:Int):(xs.map wPV).set i (.agg [.bool (decide (x<0)),.str (mB x)])=(xs.set i x).map wPV:=by rw [List.map_set];rfl
theorem Zsp (n:Nat):(List.replicate n (0:Int)).map wPV=List.replicate n (.agg [.bool false,.str ⟨#[]⟩]):=by rw [List.map_replicate,Zsu]
set_option maxHeartbeats 1000000 in
theorem Qof (xs:List Int) (c:Int) (B:Nat) (hB:B≤30000) (hx:okPoly xs) (hb:bd B xs) (hc:c.natAbs<2^B):Qae Tryz.prog 77 [wL xs,wPV c] (.tup [wL (Qc8 xs c),.int .i64 0]):=by
 have hv:=Qum hx;have hv2:=Qnb (Qaw hc (by omega));have hl:=hx.l;have h0l:((0:Int)≤(xs.length:Int))=True:=nnT _;have hll:((xs.length:Int)≤(xs.length:Int))=True:=by simp
 have hm1:(((24:Nat):Int)*(xs.length:Int)≤281474976710656)=True:=eq_true (by omega);have hm2:((xs.length:Int)≤9223372036854775807)=True:=eq_true (by omega);unfold wL at hv

 refine Qab (tb:=[(804,[(1000000,300)],[]),(1001,[(1000000,300)],[])]) 39 [.tmp 4,.tmp 5] [0,1,3,4,5,6,7,8,9,17,21,22,23,24] mixed Tryz.func77 rfl (by kernel_rfl) ?_;repeat (first|simp -implicitDefEqProofs only [go_sem,Nat.reduceAdd,Nat.reduceMul,Nat.reduceEqDiff,Nat.reduceLT,Nat.reduceLeDiff,reduceCtorEq,wL,wPV,h0l,hll,hm1,hm2,List.length_map,Int.toNat_natCast]|(with_reducible refine Qaa hv ?_ ?_ ?_);rfl;rfl|(with_reducible refine Qaa hv2 ?_ ?_ ?_);rfl;rfl)
 obtain⟨F,hF⟩: ∃F:Nat→Int,F=fun m=>xs.getD m 0*c:=⟨_,rfl⟩;refine Qaq mixed (fun i:{i:Nat // i≤xs.length}=>St.of [(3,.bp 0 2 0 0),(6,.bp 300 1 0 0),(7,.bs 402 2 0 xs.length),(21,wL xs),(22,.int .i64 (xs.length:Int)),(23,.int .i64 (i.1:Int))]
  [(0,{els:=[wPV c],esz:=2,ety:=51,fro:=0,live:=true,arr:=false}),(300,dkB dkT),(402,{els:=(upto F xs.length i.1).map wPV,esz:=2,ety:=51,fro:=0,live:=true,arr:=true})]) (fun i=>xs.length-i.1) ⟨0,Nat.zero_le _⟩ ?_ ?_
 ·refine Qaj (θ:=[(0,0),(300,300),(402,402)]) rfl ?_ ?_
  ·simp [Qac,lkp,ren1,ren0,Qao,wL]
  ·simp only [Q5a,Zsp];exact⟨⟨rfl,rfl,rfl,rfl,rfl,.inr ⟨rfl,_,_,rfl,rfl,rfl,rfl⟩⟩,⟨rfl,rfl,rfl,rfl,rfl,.inr ⟨rfl,_,_,rfl,rfl,rfl,rfl⟩⟩,⟨rfl,rfl,rfl,rfl,rfl,.inl ⟨rfl,rfl⟩⟩,trivial⟩
 ·rintro⟨i,hi⟩;by_cases hA:i<xs.length
  ·have hA':=ltT hA;have n0:=nnT i;have hg:=Qdu xs i hA;have hwk:=Qah (a:=i) (by omega);have x1:=hb _ (List.getElem_mem hA);have m:=Qul (Qaw x1 (by omega)) (Qaw hc (by omega)) (Qaw (Qhu x1 hc) (by omega));have hul:i<(upto F xs.length i).length:=by rw [Qgo];exact hA
   have hgu:=Qdu (upto F xs.length i) i hul;have hset:(upto F xs.length i).set i (xs[i]*c)=upto F xs.length (i+1):=by
    have h:=Zcz F xs.length i hA;have e:F i=xs[i]*c:=by rw [hF];simp only;rw [Qby hA]
    rwa [e]at h
   have hset2:=Qm9 (upto F xs.length i) i (xs[i]*c);rw [hset]at hset2;generalize (upto F xs.length i)[i]=U0 at*;clear hF;generalize xs[i]*c=M at*;repeat (first|simp -implicitDefEqProofs only [go_sem,Nat.reduceAdd,Nat.reduceMul,Nat.reduceEqDiff,Nat.reduceLT,Nat.reduceLeDiff,reduceCtorEq,wL,wPV,hA',n0,hg,hwk,hgu,hset2,Int.toNat_natCast]|(with_reducible refine Qbn m ?_ ?_ ?_ ?_);rfl;rfl;rfl)
   refine⟨⟨i+1,hA⟩,by simp only;omega,Qaj (θ:=[(0,0),(300,300),(402,402)]) rfl ?_ ?_⟩
   ·simp [Qac,lkp,ren1,ren0,Qao,wL]
   ·exact⟨⟨rfl,rfl,rfl,rfl,rfl,.inr ⟨rfl,_,_,rfl,rfl,rfl,rfl⟩⟩,⟨rfl,rfl,rfl,rfl,rfl,.inr ⟨rfl,_,_,rfl,rfl,rfl,rfl⟩⟩,⟨rfl,rfl,rfl,rfl,rfl,.inl ⟨rfl,rfl⟩⟩,trivial⟩
  ·have hA':=ltF hA;obtain rfl:i=xs.length:=by omega
   have e1:upto F xs.length xs.length=xs.map (· *c):=by rw [Q5b _ _ _ (Nat.le_refl _),hF];exact Qpp xs (· *c)
   have hd:=Q55 (xs.map (· *c)) (by rw [List.length_map];omega) (by
    intro x hx;simp only [List.mem_map]at hx;obtain⟨y,hy,rfl⟩:=hx;exact Qaw (Qhu (hb y hy) hc) (by omega))
   have e2:((xs.map (· *c)).map wPV).take xs.length=(xs.map (· *c)).map wPV:=List.take_of_length_le (by simp);have e3:(xs.length≤((xs.map (· *c)).map wPV).length)=True:=eq_true (by simp);simp only [e1];unfold wL at hd;generalize hY:xs.map (· *c)=Y at*;unfold Qc8 wL;rw [hY];repeat (first|simp -implicitDefEqProofs only [go_sem,Nat.reduceAdd,Nat.reduceMul,Nat.reduceEqDiff,Nat.reduceLT,Nat.reduceLeDiff,reduceIte,reduceCtorEq,hA',e2,e3]|(with_reducible refine Qbn hd ?_ ?_ ?_ ?_);rfl;rfl;rfl)
theorem Qsk {x:Int} (h:x.natAbs<2^64):blen x.natAbs≤64:=Qd3 64 _ h
set_option maxHeartbeats 4000000 in
theorem Qlc (p:List Int) (a b d:Int) (hp:okPoly p) (h6:p.length≤6) (hb:bd 64 p) (ha:a.natAbs<2^64) (hbb:b.natAbs<2^64) (hd:d.natAbs<2^64) (hd1:0<d):
  Qae Tryz.prog 76 [wL p,wPV a,wPV b,wPV d] (.tup [wL (Qce p a b d p.length),.int .i64 0]):=by
 have hv:=Qum hp;have va:=Qnb (Qaw ha (by decide));have vb:=Qnb (Qaw hbb (by decide));have vd:=Qnb (Qaw hd (by decide));have sd:=Q64 (Qaw hd (by decide));rw [Int.sign_eq_one_of_pos hd1]at sd;unfold wL at hv;by_cases hz:p.length=0
 ·have hp0:p=[]:=List.length_eq_zero_iff.1 hz;subst hp0;refine Qab (tb:=[]) 121 [.tmp 8,.tmp 9] [0,1,2,3,5,6,7,8,9,10,11,12,13,14,15,16,34,37,40,55,68,78,79,80,81] mixed Tryz.func76 rfl (by kernel_rfl) ?_;repeat (first|simp -implicitDefEqProofs only [go_sem,Nat.reduceAdd,Nat.reduceMul,Nat.reduceEqDiff,Nat.reduceLT,Nat.reduceLeDiff,reduceCtorEq,Int.reduceLE,wL,wPV,List.map_nil,List.length_nil]|(with_reducible refine Qaa hv ?_ ?_ ?_);rfl;rfl|(with_reducible refine Qaa va ?_ ?_ ?_);rfl;rfl|(with_reducible refine Qaa vb ?_ ?_ ?_);rfl;rfl|(with_reducible refine Qaa vd ?_ ?_ ?_);rfl;rfl|(with_reducible refine Qaa sd ?_ ?_ ?_);rfl;rfl)
  rfl
 have hz':((p.length:Int)==0)=false:=beq_eq_false_iff_ne.2 (by omega);have s1:=Q56 p (by omega) hp.b;have s2:=Q56 [a,b,d] (by simp) (by
  intro x hx;simp only [List.mem_cons,List.not_mem_nil,or_false]at hx;rcases hx with rfl|rfl|rfl
  ·exact Qaw ha (by decide)
  ·exact Qaw hbb (by decide)
  ·exact Qaw hd (by decide))
 have b1:Qdo blen p≤64:=Qzl fun x hx=>Qsk (hb x hx);have b2:Qdo blen [a,b,d]≤64:=Qzl fun x hx=>by
  simp only [List.mem_cons,List.not_mem_nil,or_false]at hx;rcases hx with rfl|rfl|rfl
  ·exact Qsk ha
  ·exact Qsk hbb
  ·exact Qsk hd
 have wl:=Qe6 (n:=p.length) (by omega) (by omega);have ww1:=Qah (a:=Qdo blen [a,b,d]) (by omega);have hmul:(p.length-1)*(Qdo blen [a,b,d]+1)≤5*65:=Nat.mul_le_mul (by omega) (by omega);have ww2:IntKind.i64.wrap (((p.length-1:Nat):Int)*((Qdo blen [a,b,d]+1:Nat):Int))=(((p.length-1)*(Qdo blen [a,b,d]+1):Nat):Int):=by rw [←Int.natCast_mul];exact wrapn (by omega)
 have ww3:IntKind.i64.wrap ((Qdo blen p:Int)+(((p.length-1)*(Qdo blen [a,b,d]+1):Nat):Int))=((Qdo blen p+(p.length-1)*(Qdo blen [a,b,d]+1):Nat):Int):=by rw [←Int.natCast_add];exact wrapn (by omega)
 have ww4:IntKind.i64.wrap (((Qdo blen p+(p.length-1)*(Qdo blen [a,b,d]+1):Nat):Int)+8)=((Qdo blen p+(p.length-1)*(Qdo blen [a,b,d]+1)+8:Nat):Int):=by
  have e:(((Qdo blen p+(p.length-1)*(Qdo blen [a,b,d]+1):Nat):Int)+8)=((Qdo blen p+(p.length-1)*(Qdo blen [a,b,d]+1)+8:Nat):Int):=by omega
  rw [e];exact wrapn (by omega)
 have ww5:((65536:Int)<((Qdo blen p+(p.length-1)*(Qdo blen [a,b,d]+1)+8:Nat):Int))=False:=eq_false (by omega);have n1:=nnT (p.length-1);have hlt:p.length-1<p.length:=by omega
 have hgl:=Qdu p (p.length-1) hlt;have w1:=Qfs 1 (by decide) (by decide);have wl2:IntKind.i64.wrap ((p.length:Int)-2)=(p.length:Int)-2:=Qai (by omega) (by omega);unfold wL at s1 s2

 refine Qab (tb:=[(1402,[(1000000,900)],[]),(1908,[(1000000,900)],[]),(1909,[(1000000,900)],[]),(2005,[(1000000,900)],[]),(2209,[(1000000,900)],[]),(2210,[(1000000,900)],[]),(2401,[(1000000,900)],[])]) 121 [.tmp 8,.tmp 9] [0,1,2,3,5,6,7,8,9,10,11,12,13,14,15,16,34,37,40,55,68,78,79,80,81] mixed Tryz.func76 rfl (by kernel_rfl) ?_;repeat (first|simp -implicitDefEqProofs only [go_sem,Nat.reduceAdd,Nat.reduceMul,Nat.reduceEqDiff,Nat.reduceLT,Nat.reduceLeDiff,reduceIte,reduceCtorEq,Int.reduceLE,Int.reduceLT,wL,wPV,hz',wl,ww1,ww2,ww3,ww4,ww5,n1,hgl,wl2,List.length_map,Int.toNat_natCast]|(with_reducible refine Qaa hv ?_ ?_ ?_);rfl;rfl|(with_reducible refine Qaa va ?_ ?_ ?_);rfl;rfl|(with_reducible refine Qaa vb ?_ ?_ ?_);rfl;rfl|(with_reducible refine Qaa vd ?_ ?_ ?_);rfl;rfl|(with_reducible refine Qaa sd ?_ ?_ ?_);rfl;rfl|(with_reducible refine Qaa s1 ?_ ?_ ?_);rfl;rfl|(with_reducible refine Qaa s2 ?_ ?_ ?_);rfl;rfl|(with_reducible refine Qaa w1 ?_ ?_ ?_);rfl;rfl|(with_reducible refine And.intro (Qad _ _ (by kernel_rfl)) ?_))
 refine Qaq mixed (fun m:{m:Nat // m<p.length}=>St.of [(0,wL p),(5,.bp 0 2 0 0),(6,.bp 1 2 0 0),(7,.bp 2 2 0 0),(10,.bp 900 1 0 0),(11,.bs 7 2 0 (m.1+1)),(12,.bp 1008 2 0 0),(13,.int .i64 ((p.length:Int)-2-(m.1:Int)))]
  [(0,{els:=[wPV a],esz:=2,ety:=51,fro:=0,live:=true,arr:=false}),(1,{els:=[wPV b],esz:=2,ety:=51,fro:=0,live:=true,arr:=false}),(2,{els:=[wPV d],esz:=2,ety:=51,fro:=0,live:=true,arr:=false}),(900,dkB dkT),(7,{els:=(Qet p a b d m.1).map wPV,esz:=2,ety:=51,fro:=0,live:=true,arr:=true}),(1008,{els:=[wPV (d^m.1)],esz:=2,ety:=51,fro:=0,live:=true,arr:=false})]) (fun m=>p.length-m.1) ⟨0,by omega⟩ ?_ ?_
 ·refine Qaj (θ:=[(0,0),(1,1),(2,2),(900,900),(7,1006),(1008,1008)]) rfl ?_ ?_
  ·simp [Qac,lkp,ren1,ren0,Qao,wL]
  ·refine⟨⟨rfl,rfl,rfl,rfl,rfl,.inr ⟨rfl,_,_,rfl,rfl,rfl,rfl⟩⟩,⟨rfl,rfl,rfl,rfl,rfl,.inr ⟨rfl,_,_,rfl,rfl,rfl,rfl⟩⟩,⟨rfl,rfl,rfl,rfl,rfl,.inr ⟨rfl,_,_,rfl,rfl,rfl,rfl⟩⟩,⟨rfl,rfl,rfl,rfl,rfl,.inr ⟨rfl,_,_,rfl,rfl,rfl,rfl⟩⟩,⟨rfl,rfl,rfl,rfl,rfl,.inl ⟨rfl,?_⟩⟩,⟨rfl,rfl,rfl,rfl,rfl,.inr ⟨rfl,_,_,rfl,rfl,?_,rfl⟩⟩,trivial⟩
   ·simp only [Qet,Qby hlt];rfl
   ·simp only [Int.pow_zero];rfl
 ·rintro⟨m,hm⟩;have hol:=Ql1 p a b d m;have hbo:=Qsb hb ha hbb hd m;have hpd:=Qb3 hd m;by_cases hA:m+1<p.length
  ·have hA':((0:Int)≤(p.length:Int)-2-(m:Int))=True:=eq_true (by omega);have e:d^(m+1)=d^m*d:=Int.pow_succ d m;have hpd1:=Qb3 hd (m+1);rw [e]at hpd1;have mp:=Qul (Qaw hpd (by omega)) (Qaw hd (by decide)) (Qaw hpd1 (by omega));rw [←e]at mp hpd1;have wm:=Qah (a:=m+1) (by omega);have h0l:((0:Int)≤((m+1+1:Nat):Int))=True:=nnT _;have hll:(((m+1+1:Nat):Int)≤((m+1+1:Nat):Int))=True:=by simp
   have hm1:(((24:Nat):Int)*((m+1+1:Nat):Int)≤281474976710656)=True:=eq_true (by omega);have hm2:(((m+1+1:Nat):Int)≤9223372036854775807)=True:=eq_true (by omega);obtain⟨out,hout⟩: ∃out,Qet p a b d m=out:=⟨_,rfl⟩;have hstepE:Qet p a b d (m+1)=hstep out a b (p.getD (p.length-1-(m+1)) 0*d^(m+1)):=by rw [Qet,hout]
   rw [hout]at hol hbo;simp only [hout];clear ww1 ww2 ww3 ww4 ww5 s1 s2 b1 b2 hmul;repeat (first|simp -implicitDefEqProofs only [go_sem,Nat.reduceAdd,Nat.reduceMul,Nat.reduceEqDiff,Nat.reduceLT,Nat.reduceLeDiff,reduceCtorEq,wL,wPV,hA',wm,h0l,hll,hm1,hm2,Int.toNat_natCast]|(with_reducible refine Qbn mp ?_ ?_ ?_ ?_);rfl;rfl;rfl)
   have hM0:m<25:=by omega
   have key: ∀k j,(nxE out a b k j).natAbs<2^65536:=fun k j=>Qaw (Zk1 hbo ha hbb k j) (by omega);have hka: ∀k,(out.getD k 0*a).natAbs<2^65536:=fun k=>Qaw (Qhu (Qde hbo k) ha) (by omega);have hkb: ∀k,(out.getD k 0*b).natAbs<2^65536:=fun k=>Qaw (Qhu (Qde hbo k) hbb) (by omega);refine Qaq mixed (fun k:{k:Nat // k≤m+1}=>St.of [(0,wL p),(5,.bp 0 2 0 0),(6,.bp 1 2 0 0),(7,.bp 2 2 0 0),(10,.bp 900 1 0 0),(11,.bs 7 2 0 (m+1)),(12,.bp 1008 2 0 0),(13,.int .i64 ((p.length:Int)-2-(m:Int))),(14,.bs 1503 2 0 (m+1+1)),(78,.bs 7 2 0 (m+1)),(79,.int .i64 ((m+1:Nat):Int)),(80,.int .i64 (k.1:Int))]
    [(0,{els:=[wPV a],esz:=2,ety:=51,fro:=0,live:=true,arr:=false}),(1,{els:=[wPV b],esz:=2,ety:=51,fro:=0,live:=true,arr:=false}),(2,{els:=[wPV d],esz:=2,ety:=51,fro:=0,live:=true,arr:=false}),(900,dkB dkT),(7,{els:=out.map wPV,esz:=2,ety:=51,fro:=0,live:=true,arr:=true}),(1008,{els:=[wPV (d^(m+1))],esz:=2,ety:=51,fro:=0,live:=true,arr:=false}),(1503,{els:=(nxL out a b k.1).map wPV,esz:=2,ety:=51,fro:=0,live:=true,arr:=true})]) (fun k=>m+1-k.1) ⟨0,Nat.zero_le _⟩ ?_ ?_
   ·refine Qaj (θ:=[(0,0),(1,1),(2,2),(900,900),(7,7),(1008,1008),(1503,1503)]) rfl ?_ ?_
    ·simp [Qac,lkp,ren1,ren0,Qao,wL]
    ·simp only [Zc3,Zsp,hol];exact⟨⟨rfl,rfl,rfl,rfl,rfl,.inr ⟨rfl,_,_,rfl,rfl,rfl,rfl⟩⟩,⟨rfl,rfl,rfl,rfl,rfl,.inr ⟨rfl,_,_,rfl,rfl,rfl,rfl⟩⟩,⟨rfl,rfl,rfl,rfl,rfl,.inr ⟨rfl,_,_,rfl,rfl,rfl,rfl⟩⟩,⟨rfl,rfl,rfl,rfl,rfl,.inr ⟨rfl,_,_,rfl,rfl,rfl,rfl⟩⟩,⟨rfl,rfl,rfl,rfl,rfl,.inl ⟨rfl,rfl⟩⟩,⟨rfl,rfl,rfl,rfl,rfl,.inr ⟨rfl,_,_,rfl,rfl,rfl,rfl⟩⟩,⟨rfl,rfl,rfl,rfl,rfl,.inl ⟨rfl,rfl⟩⟩,trivial⟩
   ·rintro⟨k,hk⟩;by_cases hB:k<m+1
    ·have hB':=ltT hB;have n0:=nnT k;have hko:k<out.length:=by omega
     have hgo:=Qdu out k hko;have hwk:=Qah (a:=k) (by omega);have hkn:k<(nxL out a b k).length:=by rw [Qd5];omega
     have hkn1:k+1<((nxL out a b k).set k ((if 0<k then out.getD (k-1) 0*b else 0)+out.getD k 0*a)).length:=by rw [List.length_set,Qd5];omega
     have hgn:=Qdu (nxL out a b k) k hkn;have eN:=Zmj out a b k hkn;have egd:out.getD k 0=out[k]:=Qby hko;have x1:=Qaw (hbo _ (List.getElem_mem hko)) (by omega);have ha1:=hka k;have hb1:=hkb k;rw [egd]at ha1 hb1;have m1:=Qul x1 (Qaw ha (by decide)) ha1;have m2:=Qul x1 (Qaw hbb (by decide)) hb1;have kN:((nxL out a b k)[k]).natAbs<2^65536:=Qaw (Zk2 hbo ha hbb k _ (List.getElem_mem hkn)) (by omega);have kS:((nxL out a b k)[k]+out[k]*a).natAbs<2^65536:=by
      have h:=key (k+1) k;unfold nxE at h;rw [if_pos (Nat.lt_succ_self k),egd]at h;rw [eN];by_cases e0:0<k
      ·rw [if_pos ⟨e0,by omega⟩]at h;rw [if_pos e0,Int.add_comm];exact h
      ·rw [if_neg (fun q=>e0 q.1)]at h;rw [if_neg e0,Int.add_comm];exact h
     have m3:=Zk8 kN ha1 kS;have hs1:=Qm9 (nxL out a b k) k ((nxL out a b k)[k]+out[k]*a);have hgn1:=Qdu ((nxL out a b k).set k ((nxL out a b k)[k]+out[k]*a)) (k+1) (by rw [List.length_set,Qd5];omega);have hs2:=Qm9 ((nxL out a b k).set k ((nxL out a b k)[k]+out[k]*a)) (k+1) (out[k]*b);have hfin:((nxL out a b k).set k ((nxL out a b k)[k]+out[k]*a)).set (k+1) (out[k]*b)=nxL out a b (k+1):=by
      have h:=Zc4 out a b k hko;rw [egd]at h;rw [eN];exact h
     rw [hfin]at hs2;clear eN hfin kN kS;generalize (nxL out a b k)[k]=N0 at*;generalize N0+out[k]*a=N1 at*;generalize out[k]*a=OA at*;generalize out[k]*b=OB at*;have h0m:(0:Int)<((m+1+1:Nat):Int):=by omega
     have t1:=ltT (show k<m+1+1 by omega);have t2:=ltT (show k+1<m+1+1 by omega);have n2:=nnT (k+1);generalize ((nxL out a b k).set k N1)[k+1]'(by rw [List.length_set,Qd5];omega)=N2 at*;repeat (first|simp -implicitDefEqProofs only [go_sem,Nat.reduceAdd,Nat.reduceMul,Nat.reduceEqDiff,Nat.reduceLT,Nat.reduceLeDiff,reduceCtorEq,wL,wPV,hB',n0,n2,t1,t2,hgo,hwk,hgn,hs1,hgn1,hs2,Int.toNat_natCast]|(with_reducible refine Qbn m1 ?_ ?_ ?_ ?_);rfl;rfl;rfl|(with_reducible refine Qbn m3 ?_ ?_ ?_ ?_);rfl;rfl;rfl|(with_reducible refine Qbn m2 ?_ ?_ ?_ ?_);rfl;rfl;rfl|(with_reducible refine And.intro (Qad _ _ (by kernel_rfl)) ?_))
     refine⟨⟨k+1,hB⟩,by simp only;omega,Qaj (θ:=[(0,0),(1,1),(2,2),(900,900),(7,7),(1008,1008),(1503,1503)]) rfl ?_ ?_⟩
     ·simp [Qac,lkp,ren1,ren0,Qao,wL]
     ·exact⟨⟨rfl,rfl,rfl,rfl,rfl,.inr ⟨rfl,_,_,rfl,rfl,rfl,rfl⟩⟩,⟨rfl,rfl,rfl,rfl,rfl,.inr ⟨rfl,_,_,rfl,rfl,rfl,rfl⟩⟩,⟨rfl,rfl,rfl,rfl,rfl,.inr ⟨rfl,_,_,rfl,rfl,rfl,rfl⟩⟩,⟨rfl,rfl,rfl,rfl,rfl,.inr ⟨rfl,_,_,rfl,rfl,rfl,rfl⟩⟩,⟨rfl,rfl,rfl,rfl,rfl,.inl ⟨rfl,rfl⟩⟩,⟨rfl,rfl,rfl,rfl,rfl,.inr ⟨rfl,_,_,rfl,rfl,rfl,rfl⟩⟩,⟨rfl,rfl,rfl,rfl,rfl,.inl ⟨rfl,rfl⟩⟩,trivial⟩
    ·have hB':=ltF hB;obtain rfl:k=m+1:=by omega
     have hi:p.length-1-(m+1)<p.length:=by omega
     have egp:p.getD (p.length-1-(m+1)) 0=p[p.length-1-(m+1)]:=Qby hi;have hgp:=Qdu p (p.length-1-(m+1)) hi;have eix:(p.length:Int)-2-(m:Int)=((p.length-1-(m+1):Nat):Int):=by omega
     have ni:=nnT (p.length-1-(m+1));have x1:=hb _ (List.getElem_mem hi);have hc:(p[p.length-1-(m+1)]*d^(m+1)).natAbs<2^(64+(64*(m+1)+1)):=Qhu x1 hpd1;have m1:=Qul (Qaw x1 (by decide)) (Qaw hpd1 (by omega)) (Qaw hc (by omega));have h0n:0<(nxL out a b (m+1)).length:=by rw [Qd5];omega
     have hgn:=Qdu (nxL out a b (m+1)) 0 h0n;have eg0:(nxL out a b (m+1)).getD 0 0=(nxL out a b (m+1))[0]:=Qby h0n;have kN:((nxL out a b (m+1))[0]).natAbs<2^65536:=Qaw (Zk2 hbo ha hbb (m+1) _ (List.getElem_mem h0n)) (by omega);have hsE:Qet p a b d (m+1)=(nxL out a b (m+1)).set 0 ((nxL out a b (m+1))[0]+p[p.length-1-(m+1)]*d^(m+1)):=by
      rw [hstepE,hstep,hol,eg0,egp]
     have kS:((nxL out a b (m+1))[0]+p[p.length-1-(m+1)]*d^(m+1)).natAbs<2^65536:=by
      have hmem:(nxL out a b (m+1))[0]+p[p.length-1-(m+1)]*d^(m+1)∈Qet p a b d (m+1):=by
       rw [hsE];exact List.mem_of_getElem? (i:=0) (by rw [List.getElem?_set_self h0n])
      have h:=Qsb hb ha hbb hd (m+1) _ hmem;exact Qaw h (by omega)
     have m2:=Zk8 kN (Qaw hc (by omega)) kS;have hs1:=Qm9 (nxL out a b (m+1)) 0 ((nxL out a b (m+1))[0]+p[p.length-1-(m+1)]*d^(m+1));rw [←hsE]at hs1;clear hsE kS kN hstepE eg0;generalize (nxL out a b (m+1))[0]+p[p.length-1-(m+1)]*d^(m+1)=N1 at*;generalize (nxL out a b (m+1))[0]=N0 at*;generalize p[p.length-1-(m+1)]*d^(m+1)=C0 at*;have h00:((0:Int)<((m+1+1:Nat):Int))=True:=eq_true (by omega);have wlast:IntKind.i64.wrap (((p.length-1-(m+1):Nat):Int)-1)=((p.length-1-(m+1):Nat):Int)-1:=Qai (by omega) (by omega);simp only [eix];generalize hXX:d^(m+1)=DM at*;repeat (first|simp -implicitDefEqProofs only [go_sem,Nat.reduceAdd,Nat.reduceMul,Nat.reduceEqDiff,Nat.reduceLT,Nat.reduceLeDiff,reduceIte,reduceCtorEq,wL,wPV,hB',ni,h00,hgp,hgn,hs1,wlast,Int.toNat_natCast]|(with_reducible refine Qbn m1 ?_ ?_ ?_ ?_);rfl;rfl;rfl|(with_reducible refine Qbn m2 ?_ ?_ ?_ ?_);rfl;rfl;rfl|(with_reducible refine And.intro (Qad _ _ (by kernel_rfl)) ?_))
     refine⟨⟨m+1,hA⟩,by simp only;omega,Qaj (θ:=[(0,0),(1,1),(2,2),(900,900),(7,1503),(1008,1008)]) rfl ?_ ?_⟩
     ·have:((p.length-1-(m+1):Nat):Int)-1=(p.length:Int)-2-((m+1:Nat):Int):=by omega
      simp [Qac,lkp,ren1,ren0,Qao,wL,this]
     ·simp only [hXX];exact⟨⟨rfl,rfl,rfl,rfl,rfl,.inr ⟨rfl,_,_,rfl,rfl,rfl,rfl⟩⟩,⟨rfl,rfl,rfl,rfl,rfl,.inr ⟨rfl,_,_,rfl,rfl,rfl,rfl⟩⟩,⟨rfl,rfl,rfl,rfl,rfl,.inr ⟨rfl,_,_,rfl,rfl,rfl,rfl⟩⟩,⟨rfl,rfl,rfl,rfl,rfl,.inr ⟨rfl,_,_,rfl,rfl,rfl,rfl⟩⟩,⟨rfl,rfl,rfl,rfl,rfl,.inl ⟨rfl,rfl⟩⟩,⟨rfl,rfl,rfl,rfl,rfl,.inr ⟨rfl,_,_,rfl,rfl,rfl,rfl⟩⟩,trivial⟩
  ·have hA':((0:Int)≤(p.length:Int)-2-(m:Int))=False:=eq_false (by omega);obtain rfl:m=p.length-1:=by omega
   have hdn:=Q55 (Qet p a b d (p.length-1)) (by omega) fun x hx=>Qaw (hbo x hx) (by omega);rw [Qqp p a b d (by omega)]at hdn;have e2:((Qet p a b d (p.length-1)).map wPV).take (p.length-1+1)=(Qet p a b d (p.length-1)).map wPV:=List.take_of_length_le (by rw [List.length_map];omega);have e3:(p.length-1+1≤((Qet p a b d (p.length-1)).map wPV).length)=True:=eq_true (by rw [List.length_map];omega);have e4:(p.length-1+1≤(Qet p a b d (p.length-1)).length)=True:=eq_true (by omega);unfold wL at hdn ⊢;generalize Qet p a b d (p.length-1)=out at*;generalize Qce p a b d p.length=CC at*;repeat (first|simp -implicitDefEqProofs only [go_sem,Nat.reduceAdd,Nat.reduceMul,Nat.reduceEqDiff,Nat.reduceLT,Nat.reduceLeDiff,reduceIte,reduceCtorEq,hA',e2,e4,List.length_map]|(with_reducible refine Qbn hdn ?_ ?_ ?_ ?_);rfl;rfl;rfl)
end Go.Proofs.YtlghoaggenhheaaGreat

namespace Go.Dg
theorem Zc7 (g:Nat) (c:List Int): ∀h,gcdL (Nat.gcd g h) c=Nat.gcd g (gcdL h c):=by
 induction c with
 |nil=>intro h;rfl
 |cons x c ih=>intro h;show gcdL (Nat.gcd (Nat.gcd g h) x.natAbs) c=Nat.gcd g (gcdL (Nat.gcd h x.natAbs) c);rw [Nat.gcd_assoc,ih]
theorem Qug (g:Nat) (c:List Int):Nat.gcd g (gcdL 0 c)=gcdL g c:=by rw [←Zc7,Nat.gcd_zero_right]
theorem Zc8 {g:Nat} (c:List Int) (h:0<g):0<gcdL g c:=by
 induction c generalizing g with
 |nil=>exact h
 |cons x c ih=>exact ih (g:=Nat.gcd g x.natAbs) (Nat.gcd_pos_of_pos_left _ h)
def mdG (L:Nat→List Int) (o:Int):Nat→Nat
 |0=>o.natAbs
 |i+1=>gcdL (mdG L o i) (L i)
theorem Qla {L:Nat→List Int} {o:Int} (h:0<o): ∀i,0<mdG L o i
 |0=>by show 0<o.natAbs;omega
 |i+1=>Zc8 _ (Qla h i)
def mkC (G:Int) (p:List Int):List Int:=if p=[]then [0]else p.map (· /G)
def mdC (L:Nat→List Int) (o:Int) (i:Nat):List Int:=mkC (mdG L o 3:Int) (L i)
def mdO (L:Nat→List Int) (o:Int):Int:=o/(mdG L o 3:Int)
def Qi1 (L:Nat→List Int) (o:Int):Bool:=decide (mdO L o≤4294967296)
def Qdm (f t:Int) (L:Nat→List Int) (o:Int):Sg:=⟨f,t,mdO L o,mdC L o 0,mdC L o 1,mdC L o 2⟩
def cmpC (c:List Int) (a b d:Int):List Int:=Qc8 (Qce (Qas c) a b d (Qas c).length) (d^(6-c.length))
def cmpL (s:Sg) (a b d:Int) (i:Nat):List Int:=cmpC (s.ax.getD i []) a b d
theorem Qqq {c:List Int} (h:1<c.length→c.getD (c.length-1) 0≠0) (h1:1≤c.length):Qas c=c∨c=[0]:=by
 obtain⟨n,hn⟩: ∃n,c.length=n+1:=⟨c.length-1,by omega⟩;have hlt:c.length-1<c.length:=by omega
 have hs:c=c.take (c.length-1)++[c[c.length-1]]:=by
  have:=List.take_append_getElem hlt;rw [show c.length-1+1=c.length by omega,List.take_length]at this;exact this.symm
 by_cases hz:c[c.length-1]=0
 ·by_cases h2:1<c.length
  ·exfalso;refine h h2 ?_;rw [List.getD_eq_getElem?_getD,List.getElem?_eq_getElem hlt];exact hz
  ·right;have e:c.length-1=0:=by omega
   rw [hz,e]at hs;simpa using hs
 ·left;rw [hs];exact Qih _ _ hz
end Go.Dg

namespace Go.Proofs.YtlghoaggenhheaaGreat
open Go.Vl Go.RowKit Go.Dg
theorem Q1w (p:List Int) (B:Nat) (hB:B≤6000000) (hb:bd B p) (hl:p.length≤1000):Qae Tryz.prog 90 [rL p] (rI ((gcdL 0 p:Nat):Int)):=by
 refine Qab (tb:=[]) 19 [.cell 2 59] [0,2,3,4,9] mixed Tryz.func90 rfl (by kernel_rfl) ?_;repeat simp -implicitDefEqProofs only [go_sem,seval,rL]
 refine Qaq mixed (fun i:{i:Nat // i≤p.length}=>St.of [(0,rL p),(2,.bp 0 2 0 0),(3,.bp 101 2 0 0),(4,.int .i64 (i.1:Int))]
  [(0,{els:=[.agg [.bool false,.nilS]],esz:=2,ety:=59,fro:=0,live:=true,arr:=false}),(101,{els:=[rI ((gcdL 0 (p.take i.1):Nat):Int)],esz:=2,ety:=59,fro:=0,live:=true,arr:=false})]) (fun i=>p.length-i.1) ⟨0,Nat.zero_le _⟩ ?_ ?_
 ·refine Le.trans (Qqb 101 rfl) (Qaj (θ:=[(0,0),(101,101)]) rfl ?_ ?_)
  ·simp [Qac,lkp,ren1,ren0,Qao,rL]
  ·refine⟨⟨rfl,rfl,rfl,rfl,rfl,.inr ⟨rfl,_,_,rfl,rfl,rfl,rfl⟩⟩,⟨rfl,rfl,rfl,rfl,rfl,.inr ⟨rfl,_,_,rfl,rfl,?_,rfl⟩⟩,trivial⟩;show ren1 _ (rI 0)=_;rw [rI_z];rfl
 ·rintro⟨i,hi⟩;by_cases hA:i<p.length
  ·have hA':=ltT hA;have n0:=nnT i;have hg:=Ql3 p i hA;have hwk:=Qah (a:=i) (by omega);have x1:=hb _ (List.getElem_mem hA);have x2:((gcdL 0 (p.take i):Nat):Int).natAbs<2^B:=by rw [Int.natAbs_natCast];exact Qes _ (Nat.two_pow_pos B) fun x hx=>hb x (List.mem_of_mem_take hx)
   have m:=Qu4 (Qbk x2 (by omega)) (Qbk x1 (by omega));rw [Int.natAbs_natCast,←Qem,←Qbe p i hA]at m;generalize hX:gcdL 0 (p.take (i+1))=X at*;generalize gcdL 0 (p.take i)=Y at*;repeat (first|simp -implicitDefEqProofs only [go_sem,seval,rL,rI,di,hA',n0,hg,hwk,Int.toNat_natCast,List.length_map]|(with_reducible refine Qaa m ?_ ?_ ?_);rfl;rfl|(with_reducible refine And.intro (Qad _ _ (by kernel_rfl)) ?_))
   refine⟨⟨i+1,hA⟩,by simp only;omega,Qaj (θ:=[(0,0),(101,101)]) rfl ?_ ?_⟩
   ·simp [Qac,lkp,ren1,ren0,Qao,rL]
   ·simp only [hX];exact⟨⟨rfl,rfl,rfl,rfl,rfl,.inr ⟨rfl,_,_,rfl,rfl,rfl,rfl⟩⟩,⟨rfl,rfl,rfl,rfl,rfl,.inr ⟨rfl,_,_,rfl,rfl,rfl,rfl⟩⟩,trivial⟩
  ·have hA':=ltF hA;rw [List.take_of_length_le (show p.length≤i by omega)];repeat simp -implicitDefEqProofs only [go_sem,seval,rL,rI,di,hA',List.length_map]
theorem Qxc {c:List Int} {a b d:Int} (hc:c.length≤6):(cmpC c a b d).length≤6:=by
 unfold cmpC;exact Nat.le_trans (Qgq _ _) (Nat.le_trans (Qdj _ _ _ _ _) (Nat.le_trans (Qbh c) hc))
theorem Qun {c:List Int} {a b d:Int} (hc:c.length≤6) (hb:bd 64 c) (ha:a.natAbs<2^64) (hbb:b.natAbs<2^64) (hd:d.natAbs<2^64):
  bd (6000) (Qce (Qas c) a b d (Qas c).length)∧bd 12000 (cmpC c a b d):=by
 have hl:=Qbh c;have h1:=Qse (Qe3 hb) ha hbb hd (show(Qas c).length≤30 by omega) (Qas c).length (Nat.le_refl _);have h2:bd 6000 (Qce (Qas c) a b d (Qas c).length):=Qgs h1 (by omega);refine⟨h2,Qgs (Qn5 h2 (Qb3 hd (6-c.length))) (by have:=Nat.mul_le_mul_left 64 (show 6-c.length≤6 by omega);omega)⟩
def cmV (C:Nat→List Int) (i m:Nat):PV:=if m<i then .slc ((C m).map wPV)else .nilS
set_option maxHeartbeats 2000000 in
theorem Qqw (s:Sg) (a b d:Int) (hs:okSg s) (h6: ∀c∈s.ax,c.length≤6) (ha:i64 a) (hb:i64 b) (hd:i64 d) (hd1:0<d):
  Qae Tryz.prog 45 [sgPV s,.int .i64 a,.int .i64 b,.int .i64 d] (.agg [wL (cmpL s a b d 0),wL (cmpL s a b d 1),wL (cmpL s a b d 2)]):=by
 have hc:=hs.c;have ba:=Qay ha;have bb:=Qay hb;have bdd:=Qay hd;have o1:=Qfs a ha.1 ha.2;have o2:=Qfs b hb.1 hb.2;have o3:=Qfs d hd.1 hd.2;have hax:=Q6k s;have hsg:sgPV s= .agg [.int .i64 s.f,.int .i64 s.t,.int .i64 s.o,.slc (s.x.map (PV.int .i64)),.slc (s.y.map (PV.int .i64)),.slc (s.z.map (PV.int .i64))]:=rfl;rw [hsg]at hax ⊢;unfold wL;refine Qab (tb:=[]) 49 [.cell 8 82] [0,1,2,3,4,8,9,10,11,14,15,16] mixed Tryz.func45 rfl (by kernel_rfl) ?_;repeat (first|simp -implicitDefEqProofs only [go_sem,seval,if_true]|(with_reducible refine Qaa hax ?_ ?_ ?_);rfl;rfl)
 refine Qaq mixed (fun i:{i:Nat // i≤3}=>St.of [(1,.int .i64 a),(2,.int .i64 b),(3,.int .i64 d),(4,.bp 0 6 0 0),(8,.bp 1 3 0 0),(14,.agg [Qan s.x,Qan s.y,Qan s.z]),(15,.int .i64 (i.1:Int))]
  [(0,{els:=[sgPV s],esz:=6,ety:=28,fro:=0,live:=true,arr:=false}),(1,{els:=[.agg [cmV (cmpL s a b d) i.1 0,cmV (cmpL s a b d) i.1 1,cmV (cmpL s a b d) i.1 2]],esz:=3,ety:=82,fro:=0,live:=true,arr:=false})]) (fun i=>3-i.1) ⟨0,Nat.zero_le _⟩ ?_ ?_
 ·refine Qaj (θ:=[(0,0),(1,1)]) rfl ?_ ?_
  ·simp [Qac,lkp,ren1,ren0,Qao,Qan]
  ·exact⟨⟨rfl,rfl,rfl,rfl,rfl,.inr ⟨rfl,_,_,rfl,rfl,rfl,rfl⟩⟩,⟨rfl,rfl,rfl,rfl,rfl,.inr ⟨rfl,_,_,rfl,rfl,rfl,rfl⟩⟩,trivial⟩
 ·rintro⟨i,hi⟩;by_cases hA:i<3
  ·have hA':((i:Int)<3)=True:=eq_true (by omega);have hx:=Qxh s i hA;rcases(show i=0∨i=1∨i=2 by omega)with hi0|hi0|hi0
   ·skip
    obtain rfl:i=0:=hi0;have hcx:=hc (s.ax[0]) (List.getElem_mem hA);have hlx:=h6 (s.ax[0]) (List.getElem_mem hA);have hCC:cmpL s a b d 0=cmpC (s.ax[0]'hA) a b d:=rfl;generalize s.ax[0]'hA=c at*;have hcb:bd 64 c:=fun x hx=>Qay (hcx x hx);have f1:=Zm4 c (by omega) hcx;have okp:=Qd7 (l:=c) (fun x hx=>Qaw (hcb x hx) (by decide)) (by omega);have hlt:=Qbh c;have f2:=Qlc (Qas c) a b d okp (by omega) (Qe3 hcb) ba bb bdd hd1;have w6:IntKind.i64.wrap (6-(c.length:Int))=((6-c.length:Nat):Int):=by rw [Qai (by omega) (by omega)];omega
    have f3:=Qdq d (6-c.length) 64 hd.1 hd.2 (by omega) (by decide) bdd;obtain⟨k1,k2⟩:=Qun hlx hcb ba bb bdd;have okc:okPoly (Qce (Qas c) a b d (Qas c).length):=by
     have h:=Qd7 (l:=Qce (Qas c) a b d (Qas c).length) (fun x hx=>Qaw (k1 x hx) (by decide)) (by have:=Qdj (Qas c) a b d (Qas c).length;omega)
     rwa [Qfe]at h
    have hpw:(d^(6-c.length)).natAbs<2^6000:=Qd4 (C:=6000) (Qb3 bdd (6-c.length)) (by have:=Nat.mul_le_mul_left 64 (show 6-c.length≤6 by omega);omega);have f4:=Qof _ (d^(6-c.length)) 6000 (by decide) okc k1 hpw;have eC:Qc8 (Qce (Qas c) a b d (Qas c).length) (d^(6-c.length))=cmpC c a b d:=rfl;rw [eC,←hCC]at f4;clear eC hCC okc okp k1 k2 hpw;unfold wL at f1 f2 f4;unfold Qan at f1;generalize Qce (Qas c) a b d (Qas c).length=X1 at*;generalize Qas c=X2 at*;generalize d^(6-c.length)=X3 at*;repeat (first|simp -implicitDefEqProofs only [go_sem,seval,hx,wPV,w6,cmV,List.length_map]|(with_reducible refine Qaa f1 ?_ ?_ ?_);rfl;rfl|(with_reducible refine Qaa o1 ?_ ?_ ?_);rfl;rfl|(with_reducible refine Qaa o2 ?_ ?_ ?_);rfl;rfl|(with_reducible refine Qaa o3 ?_ ?_ ?_);rfl;rfl|(with_reducible refine Qaa f2 ?_ ?_ ?_);rfl;rfl|(with_reducible refine Qaa f3 ?_ ?_ ?_);rfl;rfl|(with_reducible refine Qaa f4 ?_ ?_ ?_);rfl;rfl)
    refine⟨⟨0+1,hA⟩,by simp only;omega,Qaj (θ:=[(0,0),(1,1)]) rfl ?_ ?_⟩
    ·simp [Qac,lkp,ren1,ren0,Qao,Qan]
    ·exact⟨⟨rfl,rfl,rfl,rfl,rfl,.inr ⟨rfl,_,_,rfl,rfl,rfl,rfl⟩⟩,⟨rfl,rfl,rfl,rfl,rfl,.inr ⟨rfl,_,_,rfl,rfl,rfl,rfl⟩⟩,trivial⟩
   ·skip
    obtain rfl:i=1:=hi0;have hcx:=hc (s.ax[1]) (List.getElem_mem hA);have hlx:=h6 (s.ax[1]) (List.getElem_mem hA);have hCC:cmpL s a b d 1=cmpC (s.ax[1]'hA) a b d:=rfl;generalize s.ax[1]'hA=c at*;have hcb:bd 64 c:=fun x hx=>Qay (hcx x hx);have f1:=Zm4 c (by omega) hcx;have okp:=Qd7 (l:=c) (fun x hx=>Qaw (hcb x hx) (by decide)) (by omega);have hlt:=Qbh c;have f2:=Qlc (Qas c) a b d okp (by omega) (Qe3 hcb) ba bb bdd hd1;have w6:IntKind.i64.wrap (6-(c.length:Int))=((6-c.length:Nat):Int):=by rw [Qai (by omega) (by omega)];omega
    have f3:=Qdq d (6-c.length) 64 hd.1 hd.2 (by omega) (by decide) bdd;obtain⟨k1,k2⟩:=Qun hlx hcb ba bb bdd;have okc:okPoly (Qce (Qas c) a b d (Qas c).length):=by
     have h:=Qd7 (l:=Qce (Qas c) a b d (Qas c).length) (fun x hx=>Qaw (k1 x hx) (by decide)) (by have:=Qdj (Qas c) a b d (Qas c).length;omega)
     rwa [Qfe]at h
    have hpw:(d^(6-c.length)).natAbs<2^6000:=Qd4 (C:=6000) (Qb3 bdd (6-c.length)) (by have:=Nat.mul_le_mul_left 64 (show 6-c.length≤6 by omega);omega);have f4:=Qof _ (d^(6-c.length)) 6000 (by decide) okc k1 hpw;have eC:Qc8 (Qce (Qas c) a b d (Qas c).length) (d^(6-c.length))=cmpC c a b d:=rfl;rw [eC,←hCC]at f4;clear eC hCC okc okp k1 k2 hpw;unfold wL at f1 f2 f4;unfold Qan at f1;generalize Qce (Qas c) a b d (Qas c).length=X1 at*;generalize Qas c=X2 at*;generalize d^(6-c.length)=X3 at*;repeat (first|simp -implicitDefEqProofs only [go_sem,seval,hx,wPV,w6,cmV,List.length_map]|(with_reducible refine Qaa f1 ?_ ?_ ?_);rfl;rfl|(with_reducible refine Qaa o1 ?_ ?_ ?_);rfl;rfl|(with_reducible refine Qaa o2 ?_ ?_ ?_);rfl;rfl|(with_reducible refine Qaa o3 ?_ ?_ ?_);rfl;rfl|(with_reducible refine Qaa f2 ?_ ?_ ?_);rfl;rfl|(with_reducible refine Qaa f3 ?_ ?_ ?_);rfl;rfl|(with_reducible refine Qaa f4 ?_ ?_ ?_);rfl;rfl)
    refine⟨⟨1+1,hA⟩,by simp only;omega,Qaj (θ:=[(0,0),(1,1)]) rfl ?_ ?_⟩
    ·simp [Qac,lkp,ren1,ren0,Qao,Qan]
    ·exact⟨⟨rfl,rfl,rfl,rfl,rfl,.inr ⟨rfl,_,_,rfl,rfl,rfl,rfl⟩⟩,⟨rfl,rfl,rfl,rfl,rfl,.inr ⟨rfl,_,_,rfl,rfl,rfl,rfl⟩⟩,trivial⟩
   ·skip
    obtain rfl:i=2:=hi0;have hcx:=hc (s.ax[2]) (List.getElem_mem hA);have hlx:=h6 (s.ax[2]) (List.getElem_mem hA);have hCC:cmpL s a b d 2=cmpC (s.ax[2]'hA) a b d:=rfl;generalize s.ax[2]'hA=c at*;have hcb:bd 64 c:=fun x hx=>Qay (hcx x hx);have f1:=Zm4 c (by omega) hcx;have okp:=Qd7 (l:=c) (fun x hx=>Qaw (hcb x hx) (by decide)) (by omega);have hlt:=Qbh c;have f2:=Qlc (Qas c) a b d okp (by omega) (Qe3 hcb) ba bb bdd hd1;have w6:IntKind.i64.wrap (6-(c.length:Int))=((6-c.length:Nat):Int):=by rw [Qai (by omega) (by omega)];omega
    have f3:=Qdq d (6-c.length) 64 hd.1 hd.2 (by omega) (by decide) bdd;obtain⟨k1,k2⟩:=Qun hlx hcb ba bb bdd;have okc:okPoly (Qce (Qas c) a b d (Qas c).length):=by
     have h:=Qd7 (l:=Qce (Qas c) a b d (Qas c).length) (fun x hx=>Qaw (k1 x hx) (by decide)) (by have:=Qdj (Qas c) a b d (Qas c).length;omega)
     rwa [Qfe]at h
    have hpw:(d^(6-c.length)).natAbs<2^6000:=Qd4 (C:=6000) (Qb3 bdd (6-c.length)) (by have:=Nat.mul_le_mul_left 64 (show 6-c.length≤6 by omega);omega);have f4:=Qof _ (d^(6-c.length)) 6000 (by decide) okc k1 hpw;have eC:Qc8 (Qce (Qas c) a b d (Qas c).length) (d^(6-c.length))=cmpC c a b d:=rfl;rw [eC,←hCC]at f4;clear eC hCC okc okp k1 k2 hpw;unfold wL at f1 f2 f4;unfold Qan at f1;generalize Qce (Qas c) a b d (Qas c).length=X1 at*;generalize Qas c=X2 at*;generalize d^(6-c.length)=X3 at*;repeat (first|simp -implicitDefEqProofs only [go_sem,seval,hx,wPV,w6,cmV,List.length_map]|(with_reducible refine Qaa f1 ?_ ?_ ?_);rfl;rfl|(with_reducible refine Qaa o1 ?_ ?_ ?_);rfl;rfl|(with_reducible refine Qaa o2 ?_ ?_ ?_);rfl;rfl|(with_reducible refine Qaa o3 ?_ ?_ ?_);rfl;rfl|(with_reducible refine Qaa f2 ?_ ?_ ?_);rfl;rfl|(with_reducible refine Qaa f3 ?_ ?_ ?_);rfl;rfl|(with_reducible refine Qaa f4 ?_ ?_ ?_);rfl;rfl)
    refine⟨⟨2+1,hA⟩,by simp only;omega,Qaj (θ:=[(0,0),(1,1)]) rfl ?_ ?_⟩
    ·simp [Qac,lkp,ren1,ren0,Qao,Qan]
    ·exact⟨⟨rfl,rfl,rfl,rfl,rfl,.inr ⟨rfl,_,_,rfl,rfl,rfl,rfl⟩⟩,⟨rfl,rfl,rfl,rfl,rfl,.inr ⟨rfl,_,_,rfl,rfl,rfl,rfl⟩⟩,trivial⟩
  ·have hA':((i:Int)<3)=False:=eq_false (by omega);obtain rfl:i=3:=by omega
   have z0:cmV (cmpL s a b d) 3 0= .slc ((cmpL s a b d 0).map wPV):=rfl;have z1:cmV (cmpL s a b d) 3 1= .slc ((cmpL s a b d 1).map wPV):=rfl;have z2:cmV (cmpL s a b d) 3 2= .slc ((cmpL s a b d 2).map wPV):=rfl;simp only [z0,z1,z2];repeat simp -implicitDefEqProofs only [go_sem,seval]
theorem T_zp:Qbd Tryz.prog 114=some (.agg [.nilP,.nilP,.nilP]):=by kernel_rfl
theorem T_zu:Zaw Tryz.prog 114=some (.agg [.undef,.undef,.undef]):=by kernel_rfl
theorem Zv4 (L:Nat→List Int) (i:Nat) (h:i<3):([.slc ((L 0).map wPV),.slc ((L 1).map wPV),.slc ((L 2).map wPV)]:List PV)[i*1]? =some (.slc ((L i).map wPV)):=by
 rcases(show i=0∨i=1∨i=2 by omega)with rfl|rfl|rfl<;>rfl
theorem Q57 {L:Nat→List Int} {o:Int} {B:Nat} (ho:o.natAbs<2^B) (hL: ∀i,i<3→bd B (L i)): ∀i,i≤3→mdG L o i<2^B
 |0,_=>ho
 |i+1,h=>Qes _ (Q57 ho hL i (by omega)) (hL i (by omega))
def mdV (C:Nat→List Int) (i m:Nat):PV:=if m<i then .bs (8+m) 1 0 (C m).length else .nilS
def mdB (ety:Nat) (C:Nat→List Int):Nat→List (Nat×Box)
 |0=>[]
 |1=>[(8,{els:=(C 0).map (PV.int .i64),esz:=1,ety:=ety,fro:=0,live:=true,arr:=true})]
 |2=>[(8,{els:=(C 0).map (PV.int .i64),esz:=1,ety:=ety,fro:=0,live:=true,arr:=true}),(9,{els:=(C 1).map (PV.int .i64),esz:=1,ety:=ety,fro:=0,live:=true,arr:=true})]
 |_=>[(8,{els:=(C 0).map (PV.int .i64),esz:=1,ety:=ety,fro:=0,live:=true,arr:=true}),(9,{els:=(C 1).map (PV.int .i64),esz:=1,ety:=ety,fro:=0,live:=true,arr:=true}),(10,{els:=(C 2).map (PV.int .i64),esz:=1,ety:=ety,fro:=0,live:=true,arr:=true})]
theorem Qeu (l:List Int):(((l.map (PV.int .i64)).flatMap PV.cells).all PV.okCell)=true:=by
 rw [List.all_flatMap,List.all_map,List.all_eq_true];intro _ _;rfl
theorem Zm5 (G:Int) (p:List Int):(mkC G p).length=if p=[]then 1 else p.length:=by unfold mkC;split<;>simp
abbrev iT:Nat:=3
def mdW (C:Nat→List Int) (i:Nat) (X:PV) (m:Nat):PV:=if m=i then X else mdV C i m
set_option maxHeartbeats 4000000 in
theorem Q58 (f t:Int) (L:Nat→List Int) (o:Int) (B:Nat) (hB:B≤60000) (ho:0<o) (hob:o.natAbs<2^B) (hL: ∀i,i<3→bd B (L i)) (hl: ∀i,i<3→(L i).length≤100)
  (hq:Qi1 L o=true→ ∀i,i<3→ ∀x∈L i,(x/(mdG L o 3:Int)).natAbs≤4611686018427387904):
  Qae Tryz.prog 44 [.int .i64 f,.int .i64 t,.agg [wL (L 0),wL (L 1),wL (L 2)],wPV o]
   (if Qi1 L o=true then .tup [sgPV (Qdm f t L o),.bool true]else .tup [sgPV ⟨f,t,0,[],[],[]⟩,.bool false]):=by
 have hG:=Q57 hob hL;have hGp:=Qla (L:=L) ho;have hO0:((mdG L o 0:Nat):Int)=o:=by show((o.natAbs:Nat):Int)=o;omega
 have o3:=Qfs 4294967296 (by decide) (by decide);have hg3:((mdG L o 3:Nat):Int).natAbs<2^B:=by rw [Int.natAbs_natCast];exact hG 3 (by decide)
 have qO:=Qj1 hob (by omega) (Qq0 hg3 (by omega)) (show(0:Int)<((mdG L o 3:Nat):Int)by have:=hGp 3;omega);have hOe:o/((mdG L o 3:Nat):Int)=mdO L o:=rfl;rw [hOe]at qO;have hOb:(mdO L o).natAbs<2^(B+1):=Q0a hob (by have:=hGp 3;omega);have cmO:=Qq4 (Qaw hOb (by omega)) (Qaw (show(4294967296:Int).natAbs<2^64 by decide) (by decide));unfold wL;refine Qab (tb:=[]) 98 [.cell 8 28,.tmp 9] [0,1,2,3,6,7,8,9,10,12,14,15,16,17,18,20,21,24,25,26,28,29,30,31,48,59,60,61,66,67,68,69,92] mixed Tryz.func44 rfl (by kernel_rfl) ?_;repeat simp -implicitDefEqProofs only [go_sem,seval,wPV,if_true,Qdm]
 refine Qaq mixed (fun i:{i:Nat // i≤3}=>St.of [(0,.int .i64 f),(1,.int .i64 t),(6,.bp 0 3 0 0),(7,.bp 1 2 0 0),(8,.bp 2 6 0 0),(10,.bp 101 2 0 0),(24,.agg [wL (L 0),wL (L 1),wL (L 2)]),(25,.int .i64 (i.1:Int))]
  [(0,{els:=[.agg [wL (L 0),wL (L 1),wL (L 2)]],esz:=3,ety:=82,fro:=0,live:=true,arr:=false}),(1,{els:=[wPV o],esz:=2,ety:=51,fro:=0,live:=true,arr:=false}),(2,{els:=[.agg [.int .i64 0,.int .i64 0,.int .i64 0,.nilS,.nilS,.nilS]],esz:=6,ety:=28,fro:=0,live:=true,arr:=false}),(101,{els:=[wPV ((mdG L o i.1:Nat):Int)],esz:=2,ety:=51,fro:=0,live:=true,arr:=false})]) (fun i=>3-i.1) ⟨0,Nat.zero_le _⟩ ?_ ?_
 ·refine Qaj (θ:=[(0,0),(1,1),(2,2),(101,101)]) rfl ?_ ?_
  ·simp [Qac,lkp,ren1,ren0,Qao,wL]
  ·refine⟨⟨rfl,rfl,rfl,rfl,rfl,.inr ⟨rfl,_,_,rfl,rfl,rfl,rfl⟩⟩,⟨rfl,rfl,rfl,rfl,rfl,.inr ⟨rfl,_,_,rfl,rfl,rfl,rfl⟩⟩,⟨rfl,rfl,rfl,rfl,rfl,.inr ⟨rfl,_,_,rfl,rfl,rfl,rfl⟩⟩,⟨rfl,rfl,rfl,rfl,rfl,.inr ⟨rfl,_,_,rfl,rfl,?_,rfl⟩⟩,trivial⟩;simp only [hO0];rfl
 ·rintro⟨i,hi⟩;by_cases hA:i<3
  ·have hA':((i:Int)<3)=True:=eq_true (by omega);have hA2:=ltT hA;have n0:=nnT i;have hx:=Zv4 L i hA;have hwk:=Qah (a:=i) (by omega);have hLi:=hL i hA;have hli:=hl i hA;have hGi:=hG i (by omega);have hGs:mdG L o (i+1)=gcdL (mdG L o i) (L i):=rfl;generalize hC:L i=c at*;generalize mdG L o i=Y0 at*;repeat simp -implicitDefEqProofs only [go_sem,seval,wL,hA',n0,hx,Int.toNat_natCast,List.length_map]
   refine Qaq mixed (fun k:{k:Nat // k≤c.length}=>St.of [(0,.int .i64 f),(1,.int .i64 t),(6,.bp 0 3 0 0),(7,.bp 1 2 0 0),(8,.bp 2 6 0 0),(10,.bp 101 2 0 0),(24,.agg [wL (L 0),wL (L 1),wL (L 2)]),(25,.int .i64 (i:Int)),(28,wL c),(29,.int .i64 (c.length:Int)),(30,.int .i64 (k.1:Int))]
    [(0,{els:=[.agg [wL (L 0),wL (L 1),wL (L 2)]],esz:=3,ety:=82,fro:=0,live:=true,arr:=false}),(1,{els:=[wPV o],esz:=2,ety:=51,fro:=0,live:=true,arr:=false}),(2,{els:=[.agg [.int .i64 0,.int .i64 0,.int .i64 0,.nilS,.nilS,.nilS]],esz:=6,ety:=28,fro:=0,live:=true,arr:=false}),(101,{els:=[wPV ((gcdL Y0 (c.take k.1):Nat):Int)],esz:=2,ety:=51,fro:=0,live:=true,arr:=false})]) (fun k=>c.length-k.1) ⟨0,Nat.zero_le _⟩ ?_ ?_
   ·refine Qaj (θ:=[(0,0),(1,1),(2,2),(101,101)]) rfl ?_ ?_
    ·simp [Qac,lkp,ren1,ren0,Qao,wL]
    ·exact⟨⟨rfl,rfl,rfl,rfl,rfl,.inr ⟨rfl,_,_,rfl,rfl,rfl,rfl⟩⟩,⟨rfl,rfl,rfl,rfl,rfl,.inr ⟨rfl,_,_,rfl,rfl,rfl,rfl⟩⟩,⟨rfl,rfl,rfl,rfl,rfl,.inr ⟨rfl,_,_,rfl,rfl,rfl,rfl⟩⟩,⟨rfl,rfl,rfl,rfl,rfl,.inr ⟨rfl,_,_,rfl,rfl,rfl,rfl⟩⟩,trivial⟩
   ·rintro⟨k,hk⟩;by_cases hB':k<c.length
    ·have hB2:=ltT hB';have n1:=nnT k;have hgk:=Qdu c k hB';have hwk2:=Qah (a:=k) (by omega);have x1:=hLi _ (List.getElem_mem hB');have x2:((gcdL Y0 (c.take k):Nat):Int).natAbs<2^B:=by rw [Int.natAbs_natCast];exact Qes _ hGi fun x hx=>hLi x (List.mem_of_mem_take hx)
     have m:=Qqv (Qaw x2 (by omega)) (Qaw x1 (by omega));rw [Int.natAbs_natCast,←Qem,←Qbe c k hB']at m;generalize hX:gcdL Y0 (c.take (k+1))=X at*;generalize gcdL Y0 (c.take k)=Y at*;repeat (first|simp -implicitDefEqProofs only [go_sem,seval,wL,wPV,hB2,n1,hgk,hwk2,Int.toNat_natCast]|(with_reducible refine Qaa m ?_ ?_ ?_);rfl;rfl)
     refine⟨⟨k+1,hB'⟩,by simp only;omega,Qaj (θ:=[(0,0),(1,1),(2,2),(101,101)]) rfl ?_ ?_⟩
     ·simp [Qac,lkp,ren1,ren0,Qao,wL]
     ·simp only [hX];exact⟨⟨rfl,rfl,rfl,rfl,rfl,.inr ⟨rfl,_,_,rfl,rfl,rfl,rfl⟩⟩,⟨rfl,rfl,rfl,rfl,rfl,.inr ⟨rfl,_,_,rfl,rfl,rfl,rfl⟩⟩,⟨rfl,rfl,rfl,rfl,rfl,.inr ⟨rfl,_,_,rfl,rfl,rfl,rfl⟩⟩,⟨rfl,rfl,rfl,rfl,rfl,.inr ⟨rfl,_,_,rfl,rfl,rfl,rfl⟩⟩,trivial⟩
    ·have hB2:=ltF hB';obtain rfl:k=c.length:=by omega
     repeat simp -implicitDefEqProofs only [go_sem,seval,hB2,hwk]
     refine⟨⟨i+1,hA⟩,by simp only;omega,Qaj (θ:=[(0,0),(1,1),(2,2),(101,101)]) rfl ?_ ?_⟩
     ·simp [Qac,lkp,ren1,ren0,Qao,wL]
     ·simp only [hGs];rw [List.take_length];exact⟨⟨rfl,rfl,rfl,rfl,rfl,.inr ⟨rfl,_,_,rfl,rfl,rfl,rfl⟩⟩,⟨rfl,rfl,rfl,rfl,rfl,.inr ⟨rfl,_,_,rfl,rfl,rfl,rfl⟩⟩,⟨rfl,rfl,rfl,rfl,rfl,.inr ⟨rfl,_,_,rfl,rfl,rfl,rfl⟩⟩,⟨rfl,rfl,rfl,rfl,rfl,.inr ⟨rfl,_,_,rfl,rfl,rfl,rfl⟩⟩,trivial⟩
  ·have hA':((i:Int)<3)=False:=eq_false (by omega);obtain rfl:i=3:=by omega
   simp only;by_cases hf:mdO L o≤4294967296
   case neg=>
    have hF:Qi1 L o=false:=decide_eq_false hf;have hs:((0:Int)<(mdO L o-4294967296).sign)=True:=eq_true (Int.sign_pos_iff.2 (by omega));rw [hF];generalize mdO L o=OO at*;generalize ((mdG L o 3:Nat):Int)=G at*;repeat (first|simp -implicitDefEqProofs only [go_sem,seval,wL,wPV,hs,Bool.false_eq_true,List.map_nil]|(with_reducible refine Qaa qO ?_ ?_ ?_);rfl;rfl|(with_reducible refine Qaa o3 ?_ ?_ ?_);rfl;rfl|(with_reducible refine Qaa cmO ?_ ?_ ?_);rfl;rfl|(with_reducible exact Qad _ _ (by kernel_rfl)))
   have hF:Qi1 L o=true:=decide_eq_true hf;have hs:((0:Int)<(mdO L o-4294967296).sign)=False:=eq_false (by have:=Int.sign_nonpos_iff.2 (show mdO L o-4294967296≤0 by omega);omega);have hO1:0≤mdO L o:=Int.ediv_nonneg (by omega) (by omega);have ii:Qeb (mdO L o)= .tup [.int .i64 (mdO L o),.int .i64 0]:=by unfold Qeb;rw [if_pos (by omega)]
   have wi:=Qol (Qaw hOb (by omega));rw [ii]at wi;rw [hF];have hqq:=hq hF;have hqs: ∀i,i<3→ ∀x∈L i,Qae Tryz.prog 72 [wPV x,wPV ((mdG L o 3:Nat):Int)] (wPV (x/((mdG L o 3:Nat):Int))):=fun i h x hx=>Qj1 (hL i h x hx) (by omega) (Qq0 hg3 (by omega)) (by have:=hGp 3;omega);have hCd: ∀i,mdC L o i=mkC ((mdG L o 3:Nat):Int) (L i):=fun _=>rfl;rw [if_pos rfl];generalize mdO L o=OO at*;generalize mdC L o=C at*;generalize ((mdG L o 3:Nat):Int)=G at*;have hs':=hs;clear hO0 hOe hGp hG ho hob hO1 hOb ii hs hF hf hq;repeat (first|simp -implicitDefEqProofs only [go_sem,seval,T_zp,wL,wPV,hs',List.map_nil]|(with_reducible refine Qaa qO ?_ ?_ ?_);rfl;rfl|(with_reducible refine Qaa o3 ?_ ?_ ?_);rfl;rfl|(with_reducible refine Qaa cmO ?_ ?_ ?_);rfl;rfl|(with_reducible refine Qaa wi ?_ ?_ ?_);rfl;rfl|(with_reducible refine And.intro (Qad _ _ (by kernel_rfl)) ?_))
   refine Qaq mixed (fun i:{i:Nat // i≤3}=>St.of [(6,.bp 0 3 0 0),(8,.bp 2 6 0 0),(10,.bp 101 2 0 0),(15,.bp 1103 6 0 0),(59,.agg [.bp 1103 6 0 3,.bp 1103 6 0 4,.bp 1103 6 0 5]),(60,.int .i64 (i.1:Int))]
    ((0,{els:=[.agg [wL (L 0),wL (L 1),wL (L 2)]],esz:=3,ety:=82,fro:=0,live:=true,arr:=false})::(2,{els:=[.agg [.int .i64 0,.int .i64 0,.int .i64 0,.nilS,.nilS,.nilS]],esz:=6,ety:=28,fro:=0,live:=true,arr:=false})::(101,{els:=[wPV G],esz:=2,ety:=51,fro:=0,live:=true,arr:=false})::(1103,{els:=[.agg [.int .i64 f,.int .i64 t,.int .i64 OO,mdV C i.1 0,mdV C i.1 1,mdV C i.1 2]],esz:=6,ety:=28,fro:=0,live:=true,arr:=false})::mdB iT C i.1)) (fun i=>3-i.1) ⟨0,Nat.zero_le _⟩ ?_ ?_
   ·refine Qaj (θ:=[(0,0),(2,2),(101,101),(1103,1103)]) rfl ?_ ?_
    ·simp [Qac,lkp,ren1,ren0,Qao]
    ·exact⟨⟨rfl,rfl,rfl,rfl,rfl,.inr ⟨rfl,_,_,rfl,rfl,rfl,rfl⟩⟩,⟨rfl,rfl,rfl,rfl,rfl,.inr ⟨rfl,_,_,rfl,rfl,rfl,rfl⟩⟩,⟨rfl,rfl,rfl,rfl,rfl,.inr ⟨rfl,_,_,rfl,rfl,rfl,rfl⟩⟩,⟨rfl,rfl,rfl,rfl,rfl,.inr ⟨rfl,_,_,rfl,rfl,rfl,rfl⟩⟩,trivial⟩
   ·rintro⟨i,hi⟩;by_cases hA:i<3
    ·have hA':((i:Int)<3)=True:=eq_true (by omega);have hli:=hl i hA;have hqi:=hqq i hA;have hqsi:=hqs i hA;have hCi:=hCd i;rcases(show i=0∨i=1∨i=2 by omega)with hi0|hi0|hi0
     ·skip
      obtain rfl:i=0:=hi0;generalize hLc:L 0=c at*;repeat simp -implicitDefEqProofs only [go_sem,seval,wL,mdV,mdB,List.length_map]
      refine Qaq mixed (fun k:{k:Nat // k≤c.length}=>St.of [(6,.bp 0 3 0 0),(8,.bp 2 6 0 0),(10,.bp 101 2 0 0),(15,.bp 1103 6 0 0),(59,.agg [.bp 1103 6 0 3,.bp 1103 6 0 4,.bp 1103 6 0 5]),(60,.int .i64 0),(17,.int .i64 0),(18,.bp 1103 6 0 3),(66,wL c),(67,.int .i64 (c.length:Int)),(68,.int .i64 (k.1:Int))]
       ((0,{els:=[.agg [wL (L 0),wL (L 1),wL (L 2)]],esz:=3,ety:=82,fro:=0,live:=true,arr:=false})::(2,{els:=[.agg [.int .i64 0,.int .i64 0,.int .i64 0,.nilS,.nilS,.nilS]],esz:=6,ety:=28,fro:=0,live:=true,arr:=false})::(101,{els:=[wPV G],esz:=2,ety:=51,fro:=0,live:=true,arr:=false})::(1103,{els:=[.agg [.int .i64 f,.int .i64 t,.int .i64 OO,mdW C 0 (.bs 8 1 0 k.1) 0,mdW C 0 (.bs 8 1 0 k.1) 1,mdW C 0 (.bs 8 1 0 k.1) 2]],esz:=6,ety:=28,fro:=0,live:=true,arr:=false})::(8,{els:=(c.take k.1).map (fun x=>PV.int .i64 (x/G)),esz:=1,ety:=3,fro:=0,live:=true,arr:=true})::mdB iT C 0)) (fun k=>c.length-k.1) ⟨0,Nat.zero_le _⟩ ?_ ?_
      ·refine Le.trans (Qt6 1103 3 8 1 iT rfl rfl rfl rfl rfl rfl (by decide)) (Qaj (θ:=[(0,0),(2,2),(101,101),(1103,1103),(8,8)]) rfl ?_ ?_)
       ·simp [Qac,lkp,ren1,ren0,Qao,wL]
       ·simp only [mdB,hLc];exact⟨⟨rfl,rfl,rfl,rfl,rfl,.inr ⟨rfl,_,_,rfl,rfl,rfl,rfl⟩⟩,⟨rfl,rfl,rfl,rfl,rfl,.inr ⟨rfl,_,_,rfl,rfl,rfl,rfl⟩⟩,⟨rfl,rfl,rfl,rfl,rfl,.inr ⟨rfl,_,_,rfl,rfl,rfl,rfl⟩⟩,⟨rfl,rfl,rfl,rfl,rfl,.inr ⟨rfl,_,_,rfl,rfl,rfl,rfl⟩⟩,⟨rfl,rfl,rfl,rfl,rfl,.inl ⟨rfl,rfl⟩⟩,trivial⟩
      ·rintro⟨k,hk⟩;by_cases hB':k<c.length
       ·have hB2:=ltT hB';have n1:=nnT k;have hgk:=Qdu c k hB';have hwk2:=Qah (a:=k) (by omega);have q1:=hqsi _ (List.getElem_mem hB');have q2:=hqi _ (List.getElem_mem hB');have i1:Qeb (c[k]/G)= .tup [.int .i64 (c[k]/G),.int .i64 0]:=by unfold Qeb;rw [if_pos (by omega)]
        have q3:=Qol (Qaw (show(c[k]/G).natAbs<2^64 by omega) (by decide));rw [i1]at q3;have hts:(c.take (k+1)).map (fun x=>PV.int .i64 (x/G))=(c.take k).map (fun x=>PV.int .i64 (x/G))++[PV.int .i64 (c[k]/G)]:=by rw [Qbe c k hB',List.map_append];rfl
        have hlt:((c.take k).map (fun x=>PV.int .i64 (x/G))).length=k:=by rw [List.length_map,List.length_take];omega
        have hok:(((c.take k).map (fun x=>PV.int .i64 (x/G))).flatMap PV.cells).all PV.okCell=true:=by have:=Qeu ((c.take k).map (· /G));rwa [List.map_map]at this
        have k8:((k+1)*8≤140737488355328)=True:=eq_true (by omega);have kM:(k+1≤maxLen)=True:=eq_true (by unfold maxLen;omega);generalize hX:c[k]/G=X at*;generalize hT:(c.take k).map (fun x=>PV.int .i64 (x/G))=T at*;repeat (first|simp -implicitDefEqProofs only [go_sem,seval,wL,wPV,mdW,mdV,mdB,if_true,if_false,hB2,n1,hgk,hwk2,hlt,hok,k8,kM,Int.toNat_natCast]|(with_reducible refine Qaa q1 ?_ ?_ ?_);rfl;rfl|(with_reducible refine Qaa q3 ?_ ?_ ?_);rfl;rfl)
        refine⟨⟨k+1,hB'⟩,by simp only;omega,Qaj (θ:=[(0,0),(2,2),(101,101),(1103,1103),(8,2306)]) rfl ?_ ?_⟩
        ·simp [Qac,lkp,ren1,ren0,Qao,wL]
        ·simp only [hts,mdB,hLc];exact⟨⟨rfl,rfl,rfl,rfl,rfl,.inr ⟨rfl,_,_,rfl,rfl,rfl,rfl⟩⟩,⟨rfl,rfl,rfl,rfl,rfl,.inr ⟨rfl,_,_,rfl,rfl,rfl,rfl⟩⟩,⟨rfl,rfl,rfl,rfl,rfl,.inr ⟨rfl,_,_,rfl,rfl,rfl,rfl⟩⟩,⟨rfl,rfl,rfl,rfl,rfl,.inr ⟨rfl,_,_,rfl,rfl,rfl,rfl⟩⟩,⟨rfl,rfl,rfl,rfl,rfl,.inl ⟨rfl,rfl⟩⟩,trivial⟩
       ·have hB2:=ltF hB';obtain rfl:k=c.length:=by omega
        have hwk3:=Qah (a:=0) (by omega);by_cases hc0:c=[]
        ·subst hc0;have hC0:C 0=[0]:=by rw [hCi];rfl
         repeat simp -implicitDefEqProofs only [go_sem,seval,wL,wPV,mdW,mdV,mdB,if_true,if_false,List.length_nil,List.map_nil,List.take_nil]
         refine⟨⟨0+1,hA⟩,by simp only;omega,Qaj (θ:=[(0,0),(2,2),(101,101),(1103,1103),(8,2601)]) rfl ?_ ?_⟩
         ·simp [Qac,lkp,ren1,ren0,Qao]
         ·simp only [mdV,mdB,Nat.reduceLT,if_true,if_false,hC0,hLc,Nat.reduceAdd];exact⟨⟨rfl,rfl,rfl,rfl,rfl,.inr ⟨rfl,_,_,rfl,rfl,rfl,rfl⟩⟩,⟨rfl,rfl,rfl,rfl,rfl,.inr ⟨rfl,_,_,rfl,rfl,rfl,rfl⟩⟩,⟨rfl,rfl,rfl,rfl,rfl,.inr ⟨rfl,_,_,rfl,rfl,rfl,rfl⟩⟩,⟨rfl,rfl,rfl,rfl,rfl,.inr ⟨rfl,_,_,rfl,rfl,rfl,rfl⟩⟩,⟨rfl,rfl,rfl,rfl,rfl,.inl ⟨rfl,rfl⟩⟩,trivial⟩
        ·have hC1:C 0=c.map (· /G):=by rw [hCi];exact if_neg hc0
         have hz:((c.length:Int)==0)=false:=by have:=List.length_pos_iff.2 hc0;simp;omega
         have hC2:(c.take c.length).map (fun x=>PV.int .i64 (x/G))=(C 0).map (PV.int .i64):=by rw [hC1,List.map_map,List.take_length];rfl
         have hC3:(C 0).length=c.length:=by rw [hC1,List.length_map]
         rw [hC2];repeat simp -implicitDefEqProofs only [go_sem,seval,wL,wPV,mdW,mdV,mdB,if_true,if_false,hB2,hz]
         refine⟨⟨0+1,hA⟩,by simp only;omega,Qaj (θ:=[(0,0),(2,2),(101,101),(1103,1103),(8,8)]) rfl ?_ ?_⟩
         ·simp [Qac,lkp,ren1,ren0,Qao]
         ·simp only [mdV,mdB,Nat.reduceLT,if_true,if_false,hC3,hLc,Nat.reduceAdd];exact⟨⟨rfl,rfl,rfl,rfl,rfl,.inr ⟨rfl,_,_,rfl,rfl,rfl,rfl⟩⟩,⟨rfl,rfl,rfl,rfl,rfl,.inr ⟨rfl,_,_,rfl,rfl,rfl,rfl⟩⟩,⟨rfl,rfl,rfl,rfl,rfl,.inr ⟨rfl,_,_,rfl,rfl,rfl,rfl⟩⟩,⟨rfl,rfl,rfl,rfl,rfl,.inr ⟨rfl,_,_,rfl,rfl,rfl,rfl⟩⟩,⟨rfl,rfl,rfl,rfl,rfl,.inl ⟨rfl,rfl⟩⟩,trivial⟩
     ·skip
      obtain rfl:i=1:=hi0;generalize hLc:L 1=c at*;repeat simp -implicitDefEqProofs only [go_sem,seval,wL,mdV,mdB,List.length_map]
      refine Qaq mixed (fun k:{k:Nat // k≤c.length}=>St.of [(6,.bp 0 3 0 0),(8,.bp 2 6 0 0),(10,.bp 101 2 0 0),(15,.bp 1103 6 0 0),(59,.agg [.bp 1103 6 0 3,.bp 1103 6 0 4,.bp 1103 6 0 5]),(60,.int .i64 1),(17,.int .i64 1),(18,.bp 1103 6 0 4),(66,wL c),(67,.int .i64 (c.length:Int)),(68,.int .i64 (k.1:Int))]
       ((0,{els:=[.agg [wL (L 0),wL (L 1),wL (L 2)]],esz:=3,ety:=82,fro:=0,live:=true,arr:=false})::(2,{els:=[.agg [.int .i64 0,.int .i64 0,.int .i64 0,.nilS,.nilS,.nilS]],esz:=6,ety:=28,fro:=0,live:=true,arr:=false})::(101,{els:=[wPV G],esz:=2,ety:=51,fro:=0,live:=true,arr:=false})::(1103,{els:=[.agg [.int .i64 f,.int .i64 t,.int .i64 OO,mdW C 1 (.bs 9 1 0 k.1) 0,mdW C 1 (.bs 9 1 0 k.1) 1,mdW C 1 (.bs 9 1 0 k.1) 2]],esz:=6,ety:=28,fro:=0,live:=true,arr:=false})::(9,{els:=(c.take k.1).map (fun x=>PV.int .i64 (x/G)),esz:=1,ety:=3,fro:=0,live:=true,arr:=true})::mdB iT C 1)) (fun k=>c.length-k.1) ⟨0,Nat.zero_le _⟩ ?_ ?_
      ·refine Le.trans (Qt6 1103 4 9 1 iT rfl rfl rfl rfl rfl rfl (by decide)) (Qaj (θ:=[(0,0),(2,2),(101,101),(1103,1103),(9,9),(8,8)]) rfl ?_ ?_)
       ·simp [Qac,lkp,ren1,ren0,Qao,wL]
       ·simp only [mdB,hLc];exact⟨⟨rfl,rfl,rfl,rfl,rfl,.inr ⟨rfl,_,_,rfl,rfl,rfl,rfl⟩⟩,⟨rfl,rfl,rfl,rfl,rfl,.inr ⟨rfl,_,_,rfl,rfl,rfl,rfl⟩⟩,⟨rfl,rfl,rfl,rfl,rfl,.inr ⟨rfl,_,_,rfl,rfl,rfl,rfl⟩⟩,⟨rfl,rfl,rfl,rfl,rfl,.inr ⟨rfl,_,_,rfl,rfl,rfl,rfl⟩⟩,⟨rfl,rfl,rfl,rfl,rfl,.inl ⟨rfl,rfl⟩⟩,⟨rfl,rfl,rfl,rfl,rfl,.inl ⟨rfl,rfl⟩⟩,trivial⟩
      ·rintro⟨k,hk⟩;by_cases hB':k<c.length
       ·have hB2:=ltT hB';have n1:=nnT k;have hgk:=Qdu c k hB';have hwk2:=Qah (a:=k) (by omega);have q1:=hqsi _ (List.getElem_mem hB');have q2:=hqi _ (List.getElem_mem hB');have i1:Qeb (c[k]/G)= .tup [.int .i64 (c[k]/G),.int .i64 0]:=by unfold Qeb;rw [if_pos (by omega)]
        have q3:=Qol (Qaw (show(c[k]/G).natAbs<2^64 by omega) (by decide));rw [i1]at q3;have hts:(c.take (k+1)).map (fun x=>PV.int .i64 (x/G))=(c.take k).map (fun x=>PV.int .i64 (x/G))++[PV.int .i64 (c[k]/G)]:=by rw [Qbe c k hB',List.map_append];rfl
        have hlt:((c.take k).map (fun x=>PV.int .i64 (x/G))).length=k:=by rw [List.length_map,List.length_take];omega
        have hok:(((c.take k).map (fun x=>PV.int .i64 (x/G))).flatMap PV.cells).all PV.okCell=true:=by have:=Qeu ((c.take k).map (· /G));rwa [List.map_map]at this
        have k8:((k+1)*8≤140737488355328)=True:=eq_true (by omega);have kM:(k+1≤maxLen)=True:=eq_true (by unfold maxLen;omega);generalize hX:c[k]/G=X at*;generalize hT:(c.take k).map (fun x=>PV.int .i64 (x/G))=T at*;repeat (first|simp -implicitDefEqProofs only [go_sem,seval,wL,wPV,mdW,mdV,mdB,if_true,if_false,hB2,n1,hgk,hwk2,hlt,hok,k8,kM,Int.toNat_natCast]|(with_reducible refine Qaa q1 ?_ ?_ ?_);rfl;rfl|(with_reducible refine Qaa q3 ?_ ?_ ?_);rfl;rfl)
        refine⟨⟨k+1,hB'⟩,by simp only;omega,Qaj (θ:=[(0,0),(2,2),(101,101),(1103,1103),(9,2306),(8,8)]) rfl ?_ ?_⟩
        ·simp [Qac,lkp,ren1,ren0,Qao,wL]
        ·simp only [hts,mdB,hLc];exact⟨⟨rfl,rfl,rfl,rfl,rfl,.inr ⟨rfl,_,_,rfl,rfl,rfl,rfl⟩⟩,⟨rfl,rfl,rfl,rfl,rfl,.inr ⟨rfl,_,_,rfl,rfl,rfl,rfl⟩⟩,⟨rfl,rfl,rfl,rfl,rfl,.inr ⟨rfl,_,_,rfl,rfl,rfl,rfl⟩⟩,⟨rfl,rfl,rfl,rfl,rfl,.inr ⟨rfl,_,_,rfl,rfl,rfl,rfl⟩⟩,⟨rfl,rfl,rfl,rfl,rfl,.inl ⟨rfl,rfl⟩⟩,⟨rfl,rfl,rfl,rfl,rfl,.inl ⟨rfl,rfl⟩⟩,trivial⟩
       ·have hB2:=ltF hB';obtain rfl:k=c.length:=by omega
        have hwk3:=Qah (a:=1) (by omega);by_cases hc0:c=[]
        ·subst hc0;have hC0:C 1=[0]:=by rw [hCi];rfl
         repeat simp -implicitDefEqProofs only [go_sem,seval,wL,wPV,mdW,mdV,mdB,if_true,if_false,List.length_nil,List.map_nil,List.take_nil]
         refine⟨⟨1+1,hA⟩,by simp only;omega,Qaj (θ:=[(0,0),(2,2),(101,101),(1103,1103),(9,2601),(8,8)]) rfl ?_ ?_⟩
         ·simp [Qac,lkp,ren1,ren0,Qao]
         ·simp only [mdV,mdB,Nat.reduceLT,if_true,if_false,hC0,hLc,Nat.reduceAdd];exact⟨⟨rfl,rfl,rfl,rfl,rfl,.inr ⟨rfl,_,_,rfl,rfl,rfl,rfl⟩⟩,⟨rfl,rfl,rfl,rfl,rfl,.inr ⟨rfl,_,_,rfl,rfl,rfl,rfl⟩⟩,⟨rfl,rfl,rfl,rfl,rfl,.inr ⟨rfl,_,_,rfl,rfl,rfl,rfl⟩⟩,⟨rfl,rfl,rfl,rfl,rfl,.inr ⟨rfl,_,_,rfl,rfl,rfl,rfl⟩⟩,⟨rfl,rfl,rfl,rfl,rfl,.inl ⟨rfl,rfl⟩⟩,⟨rfl,rfl,rfl,rfl,rfl,.inl ⟨rfl,rfl⟩⟩,trivial⟩
        ·have hC1:C 1=c.map (· /G):=by rw [hCi];exact if_neg hc0
         have hz:((c.length:Int)==0)=false:=by have:=List.length_pos_iff.2 hc0;simp;omega
         have hC2:(c.take c.length).map (fun x=>PV.int .i64 (x/G))=(C 1).map (PV.int .i64):=by rw [hC1,List.map_map,List.take_length];rfl
         have hC3:(C 1).length=c.length:=by rw [hC1,List.length_map]
         rw [hC2];repeat simp -implicitDefEqProofs only [go_sem,seval,wL,wPV,mdW,mdV,mdB,if_true,if_false,hB2,hz]
         refine⟨⟨1+1,hA⟩,by simp only;omega,Qaj (θ:=[(0,0),(2,2),(101,101),(1103,1103),(9,9),(8,8)]) rfl ?_ ?_⟩
         ·simp [Qac,lkp,ren1,ren0,Qao]
         ·simp only [mdV,mdB,Nat.reduceLT,if_true,if_false,hC3,hLc,Nat.reduceAdd];exact⟨⟨rfl,rfl,rfl,rfl,rfl,.inr ⟨rfl,_,_,rfl,rfl,rfl,rfl⟩⟩,⟨rfl,rfl,rfl,rfl,rfl,.inr ⟨rfl,_,_,rfl,rfl,rfl,rfl⟩⟩,⟨rfl,rfl,rfl,rfl,rfl,.inr ⟨rfl,_,_,rfl,rfl,rfl,rfl⟩⟩,⟨rfl,rfl,rfl,rfl,rfl,.inr ⟨rfl,_,_,rfl,rfl,rfl,rfl⟩⟩,⟨rfl,rfl,rfl,rfl,rfl,.inl ⟨rfl,rfl⟩⟩,⟨rfl,rfl,rfl,rfl,rfl,.inl ⟨rfl,rfl⟩⟩,trivial⟩
     ·skip
      obtain rfl:i=2:=hi0;generalize hLc:L 2=c at*;repeat simp -implicitDefEqProofs only [go_sem,seval,wL,mdV,mdB,List.length_map]
      refine Qaq mixed (fun k:{k:Nat // k≤c.length}=>St.of [(6,.bp 0 3 0 0),(8,.bp 2 6 0 0),(10,.bp 101 2 0 0),(15,.bp 1103 6 0 0),(59,.agg [.bp 1103 6 0 3,.bp 1103 6 0 4,.bp 1103 6 0 5]),(60,.int .i64 2),(17,.int .i64 2),(18,.bp 1103 6 0 5),(66,wL c),(67,.int .i64 (c.length:Int)),(68,.int .i64 (k.1:Int))]
       ((0,{els:=[.agg [wL (L 0),wL (L 1),wL (L 2)]],esz:=3,ety:=82,fro:=0,live:=true,arr:=false})::(2,{els:=[.agg [.int .i64 0,.int .i64 0,.int .i64 0,.nilS,.nilS,.nilS]],esz:=6,ety:=28,fro:=0,live:=true,arr:=false})::(101,{els:=[wPV G],esz:=2,ety:=51,fro:=0,live:=true,arr:=false})::(1103,{els:=[.agg [.int .i64 f,.int .i64 t,.int .i64 OO,mdW C 2 (.bs 10 1 0 k.1) 0,mdW C 2 (.bs 10 1 0 k.1) 1,mdW C 2 (.bs 10 1 0 k.1) 2]],esz:=6,ety:=28,fro:=0,live:=true,arr:=false})::(10,{els:=(c.take k.1).map (fun x=>PV.int .i64 (x/G)),esz:=1,ety:=3,fro:=0,live:=true,arr:=true})::mdB iT C 2)) (fun k=>c.length-k.1) ⟨0,Nat.zero_le _⟩ ?_ ?_
      ·refine Le.trans (Qt6 1103 5 10 1 iT rfl rfl rfl rfl rfl rfl (by decide)) (Qaj (θ:=[(0,0),(2,2),(101,101),(1103,1103),(10,10),(8,8),(9,9)]) rfl ?_ ?_)
       ·simp [Qac,lkp,ren1,ren0,Qao,wL]
       ·simp only [mdB,hLc];exact⟨⟨rfl,rfl,rfl,rfl,rfl,.inr ⟨rfl,_,_,rfl,rfl,rfl,rfl⟩⟩,⟨rfl,rfl,rfl,rfl,rfl,.inr ⟨rfl,_,_,rfl,rfl,rfl,rfl⟩⟩,⟨rfl,rfl,rfl,rfl,rfl,.inr ⟨rfl,_,_,rfl,rfl,rfl,rfl⟩⟩,⟨rfl,rfl,rfl,rfl,rfl,.inr ⟨rfl,_,_,rfl,rfl,rfl,rfl⟩⟩,⟨rfl,rfl,rfl,rfl,rfl,.inl ⟨rfl,rfl⟩⟩,⟨rfl,rfl,rfl,rfl,rfl,.inl ⟨rfl,rfl⟩⟩,⟨rfl,rfl,rfl,rfl,rfl,.inl ⟨rfl,rfl⟩⟩,trivial⟩
      ·rintro⟨k,hk⟩;by_cases hB':k<c.length
       ·have hB2:=ltT hB';have n1:=nnT k;have hgk:=Qdu c k hB';have hwk2:=Qah (a:=k) (by omega);have q1:=hqsi _ (List.getElem_mem hB');have q2:=hqi _ (List.getElem_mem hB');have i1:Qeb (c[k]/G)= .tup [.int .i64 (c[k]/G),.int .i64 0]:=by unfold Qeb;rw [if_pos (by omega)]
        have q3:=Qol (Qaw (show(c[k]/G).natAbs<2^64 by omega) (by decide));rw [i1]at q3;have hts:(c.take (k+1)).map (fun x=>PV.int .i64 (x/G))=(c.take k).map (fun x=>PV.int .i64 (x/G))++[PV.int .i64 (c[k]/G)]:=by rw [Qbe c k hB',List.map_append];rfl
        have hlt:((c.take k).map (fun x=>PV.int .i64 (x/G))).length=k:=by rw [List.length_map,List.length_take];omega
        have hok:(((c.take k).map (fun x=>PV.int .i64 (x/G))).flatMap PV.cells).all PV.okCell=true:=by have:=Qeu ((c.take k).map (· /G));rwa [List.map_map]at this
        have k8:((k+1)*8≤140737488355328)=True:=eq_true (by omega);have kM:(k+1≤maxLen)=True:=eq_true (by unfold maxLen;omega);generalize hX:c[k]/G=X at*;generalize hT:(c.take k).map (fun x=>PV.int .i64 (x/G))=T at*;repeat (first|simp -implicitDefEqProofs only [go_sem,seval,wL,wPV,mdW,mdV,mdB,if_true,if_false,hB2,n1,hgk,hwk2,hlt,hok,k8,kM,Int.toNat_natCast]|(with_reducible refine Qaa q1 ?_ ?_ ?_);rfl;rfl|(with_reducible refine Qaa q3 ?_ ?_ ?_);rfl;rfl)
        refine⟨⟨k+1,hB'⟩,by simp only;omega,Qaj (θ:=[(0,0),(2,2),(101,101),(1103,1103),(10,2306),(8,8),(9,9)]) rfl ?_ ?_⟩
        ·simp [Qac,lkp,ren1,ren0,Qao,wL]
        ·simp only [hts,mdB,hLc];exact⟨⟨rfl,rfl,rfl,rfl,rfl,.inr ⟨rfl,_,_,rfl,rfl,rfl,rfl⟩⟩,⟨rfl,rfl,rfl,rfl,rfl,.inr ⟨rfl,_,_,rfl,rfl,rfl,rfl⟩⟩,⟨rfl,rfl,rfl,rfl,rfl,.inr ⟨rfl,_,_,rfl,rfl,rfl,rfl⟩⟩,⟨rfl,rfl,rfl,rfl,rfl,.inr ⟨rfl,_,_,rfl,rfl,rfl,rfl⟩⟩,⟨rfl,rfl,rfl,rfl,rfl,.inl ⟨rfl,rfl⟩⟩,⟨rfl,rfl,rfl,rfl,rfl,.inl ⟨rfl,rfl⟩⟩,⟨rfl,rfl,rfl,rfl,rfl,.inl ⟨rfl,rfl⟩⟩,trivial⟩
       ·have hB2:=ltF hB';obtain rfl:k=c.length:=by omega
        have hwk3:=Qah (a:=2) (by omega);by_cases hc0:c=[]
        ·subst hc0;have hC0:C 2=[0]:=by rw [hCi];rfl
         repeat simp -implicitDefEqProofs only [go_sem,seval,wL,wPV,mdW,mdV,mdB,if_true,if_false,List.length_nil,List.map_nil,List.take_nil]
         refine⟨⟨2+1,hA⟩,by simp only;omega,Qaj (θ:=[(0,0),(2,2),(101,101),(1103,1103),(10,2601),(8,8),(9,9)]) rfl ?_ ?_⟩
         ·simp [Qac,lkp,ren1,ren0,Qao]
         ·simp only [mdV,mdB,Nat.reduceLT,if_true,if_false,hC0,hLc,Nat.reduceAdd];exact⟨⟨rfl,rfl,rfl,rfl,rfl,.inr ⟨rfl,_,_,rfl,rfl,rfl,rfl⟩⟩,⟨rfl,rfl,rfl,rfl,rfl,.inr ⟨rfl,_,_,rfl,rfl,rfl,rfl⟩⟩,⟨rfl,rfl,rfl,rfl,rfl,.inr ⟨rfl,_,_,rfl,rfl,rfl,rfl⟩⟩,⟨rfl,rfl,rfl,rfl,rfl,.inr ⟨rfl,_,_,rfl,rfl,rfl,rfl⟩⟩,⟨rfl,rfl,rfl,rfl,rfl,.inl ⟨rfl,rfl⟩⟩,⟨rfl,rfl,rfl,rfl,rfl,.inl ⟨rfl,rfl⟩⟩,⟨rfl,rfl,rfl,rfl,rfl,.inl ⟨rfl,rfl⟩⟩,trivial⟩
        ·have hC1:C 2=c.map (· /G):=by rw [hCi];exact if_neg hc0
         have hz:((c.length:Int)==0)=false:=by have:=List.length_pos_iff.2 hc0;simp;omega
         have hC2:(c.take c.length).map (fun x=>PV.int .i64 (x/G))=(C 2).map (PV.int .i64):=by rw [hC1,List.map_map,List.take_length];rfl
         have hC3:(C 2).length=c.length:=by rw [hC1,List.length_map]
         rw [hC2];repeat simp -implicitDefEqProofs only [go_sem,seval,wL,wPV,mdW,mdV,mdB,if_true,if_false,hB2,hz]
         refine⟨⟨2+1,hA⟩,by simp only;omega,Qaj (θ:=[(0,0),(2,2),(101,101),(1103,1103),(10,10),(8,8),(9,9)]) rfl ?_ ?_⟩
         ·simp [Qac,lkp,ren1,ren0,Qao]
         ·simp only [mdV,mdB,Nat.reduceLT,if_true,if_false,hC3,hLc,Nat.reduceAdd];exact⟨⟨rfl,rfl,rfl,rfl,rfl,.inr ⟨rfl,_,_,rfl,rfl,rfl,rfl⟩⟩,⟨rfl,rfl,rfl,rfl,rfl,.inr ⟨rfl,_,_,rfl,rfl,rfl,rfl⟩⟩,⟨rfl,rfl,rfl,rfl,rfl,.inr ⟨rfl,_,_,rfl,rfl,rfl,rfl⟩⟩,⟨rfl,rfl,rfl,rfl,rfl,.inr ⟨rfl,_,_,rfl,rfl,rfl,rfl⟩⟩,⟨rfl,rfl,rfl,rfl,rfl,.inl ⟨rfl,rfl⟩⟩,⟨rfl,rfl,rfl,rfl,rfl,.inl ⟨rfl,rfl⟩⟩,⟨rfl,rfl,rfl,rfl,rfl,.inl ⟨rfl,rfl⟩⟩,trivial⟩
    ·have hA':((i:Int)<3)=False:=eq_false (by omega);obtain rfl:i=3:=by omega
     have hok: ∀m,((((C m).map (PV.int .i64)).flatMap PV.cells).all PV.okCell)=true:=fun m=>Qeu (C m);repeat simp -implicitDefEqProofs only [go_sem,seval,mdV,mdB,if_true,List.length_map]
     have ht: ∀m,((C m).map (PV.int .i64)).take (C m).length=(C m).map (PV.int .i64):=fun m=>List.take_of_length_le (by rw [List.length_map];omega);simp only [ht]
end Go.Proofs.YtlghoaggenhheaaGreat
