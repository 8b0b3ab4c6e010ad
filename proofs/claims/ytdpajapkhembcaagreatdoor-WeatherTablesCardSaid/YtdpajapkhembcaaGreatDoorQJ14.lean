/-
  QJ7, QJ8, QJ9, QJ10, QJ11, QJ12, QJ13, QJ14 (merged for the claim).
-/
import Derived.Test.YtdpajapkhembcaaGreatDoorQJ6
import Derived.Test.YtdpajapkhembcaaGreatDoorQP4
set_option linter.unusedSimpArgs false
set_option linter.unusedVariables false
namespace Go.Proofs.YtdpajapkhembcaaGreatDoor
open Go.Vl Go.RowKit Go.Dg
theorem T_zb:Qau Tryz.prog 28=some (.agg [.int .i64 0,.int .i64 0,.int .i64 0,.int .i64 0,.int .i64 0]):=by kernel_rfl
theorem T_sq:tyFn Tryz.prog 76=true:=by kernel_rfl
theorem Qnk (p:Pg) (B:Bat) (W:List Wd):Qck p B W=0∨Qck p B W=2∨Qck p B W=9:=by
 unfold Qck;split
 ·split
  ·exact .inr (.inr rfl)
  ·exact .inl rfl
 ·exact .inr (.inl rfl)
def wstI (W:List Wd) (p:Pg):Int:=Qgm (sqA W p).flatten
def Q7j (W:List Wd) (p:Pg):PV:= .tup [.int .i64 (if Qck p bat0 W=0 then wstI W p else 0),.int .i64 (Qck p bat0 W)]
theorem n2_0:((2:Int) != 0)=true:=rfl
theorem n9_0:((9:Int) != 0)=true:=rfl
theorem n0_0:((0:Int) != 0)=false:=rfl
set_option maxHeartbeats 4000000 in
theorem Qwf (p:Pg) (W:List Wd) (hf:FewP p) (hl:W.length≤maxLen):Qae Tryz.prog 14 [pgV p,wsPV W] (Q7j W p):=by
 have hg:=Qwe p bat0 W (Qi5 hf) hl;have ha:=Zfr p W;have hb:baPV bat0= .agg [.int .i64 0,.int .i64 0,.int .i64 0,.int .i64 0,.int .i64 0]:=rfl;rw [hb]at hg;unfold Q7j;rcases Qnk p bat0 W with e|e|e
 case inr.inl=>
  rw [e]at hg ⊢;unfold pgV at hg ⊢;rw [if_neg (by decide)];refine Qab (tb:=[]) 24 [.tmp 4,.tmp 5] [0,1,2,4,5,6,7,8,14,18,19] mixed Tryz.func14 rfl (by kernel_rfl) (by kernel_rfl) (by kernel_rfl) (by kernel_rfl) ?_;repeat (first|(simp -implicitDefEqProofs only [go_sem,seval,T_zb,n2_0])|((with_reducible refine Qaa hg ?_ ?_ ?_);rfl;rfl))
 case inr.inr=>
  rw [e]at hg ⊢;unfold pgV at hg ⊢;rw [if_neg (by decide)];refine Qab (tb:=[]) 24 [.tmp 4,.tmp 5] [0,1,2,4,5,6,7,8,14,18,19] mixed Tryz.func14 rfl (by kernel_rfl) (by kernel_rfl) (by kernel_rfl) (by kernel_rfl) ?_;repeat (first|(simp -implicitDefEqProofs only [go_sem,seval,T_zb,n9_0])|((with_reducible refine Qaa hg ?_ ?_ ?_);rfl;rfl))
 rw [e]at hg ⊢;rw [if_pos rfl];obtain⟨v,hw, -,hN⟩:=Qed e;have hY:=Zfq p W hf v hw hN;unfold wstI sqO at*;generalize (sqA W p).flatten=xs at*;unfold pgV at hg ha hY ⊢;simp only [PV.cells]at ha hY;have hlO:(xs.map fun n=>[PV.int .i64 n]).length=xs.length:=List.length_map ..;have hmin:min (xs.map fun n=>[PV.int .i64 n]).length (xs.length+1)=xs.length:=by rw [hlO];omega
 have htk:Qgm (xs.take xs.length)=Qgm xs:=Qtt (Nat.le_refl _);refine Qab (tb:=[]) 24 [.tmp 4,.tmp 5] [0,1,2,4,5,6,7,8,14,18,19] mixed Tryz.func14 rfl (by kernel_rfl) (by kernel_rfl) (by kernel_rfl) (by kernel_rfl) ?_;repeat (first|(simp -implicitDefEqProofs only [go_sem,seval,T_zb,n0_0])|((with_reducible refine Qaa hg ?_ ?_ ?_);rfl;rfl)|((with_reducible refine Qaa ha ?_ ?_ ?_);rfl;rfl))
 refine Qs2 mixed hY rfl rfl _ rfl [(1000000,400)] [1000000] rfl [(7,.bp 1000000 1 0 0)] (fun j=>[(1000000,{els:=[.int .i64 (Qgm (xs.take j))],esz:=1,ety:=3,fro:=0,live:=true,arr:=false})]) rfl rfl ?_ ?_ ?_ xs.length .normal (fun h=>by rw [hlO]at h;omega) (fun j _ _=>by simp [lkp]) ?_ rfl ?_
  [(400,1000000)] [(7,.bp 400 1 0 0)] [(400,{els:=[.int .i64 (Qgm xs)],esz:=1,ety:=3,fro:=0,live:=true,arr:=false})] rfl rfl ?_ ?_ (fun _=> ?_) (fun h=>by rw [hlO]at h;omega)
 ·simp [Qaf,lkp,ren1,ren0,Qai]
 ·simp only [List.take_zero,show Qgm ([]:List Int)=0 from rfl];exact⟨⟨rfl,rfl,rfl,rfl,rfl,.inr ⟨rfl,_,_,rfl,rfl,rfl,rfl⟩⟩,trivial⟩
 ·simp [Qaf,lkp,ren1,ren0,Qai,Qku]
 ·intro k args h;simp only [List.getElem?_map,Option.map_eq_some_iff]at h;obtain⟨x, -,rfl⟩:=h;rfl
 ·intro k args h hk;simp only [List.getElem?_map,Option.map_eq_some_iff]at h;obtain⟨x,hx,rfl⟩:=h;have hm:=Qps hx;have hkl:k<xs.length:=(List.getElem?_eq_some_iff.1 hx).1;repeat (first|(simp -implicitDefEqProofs only [go_sem,seval,pvars,List.toList_toArray]))
  refine⟨by simp [lkp],?_⟩;generalize Qgm (xs.take k)=M at*;repeat (first|(simp -implicitDefEqProofs only [go_sem,Zvu]))
  refine⟨by omega,?_⟩;simp only [hm];refine Qan (θ:=[(1000000,1000000)]) rfl ?_ ?_
  ·simp [Qaf,lkp,ren1,ren0,Qai]
  ·exact⟨⟨rfl,rfl,rfl,rfl,rfl,.inr ⟨rfl,_,_,rfl,rfl,rfl,rfl⟩⟩,trivial⟩
 ·simp [Qaf,lkp,ren1,ren0,Qai]
 ·rw [hmin,htk];exact⟨⟨rfl,rfl,rfl,rfl,rfl,.inr ⟨rfl,_,_,rfl,rfl,rfl,rfl⟩⟩,trivial⟩
 ·repeat (first|(simp -implicitDefEqProofs only [go_sem,seval]))
set_option maxHeartbeats 8000000 in
theorem Qzf (p:Pg) (W:List Wd) (hf:FewP p) (v:Qby p=true) (hw:Qa9 W=true) (hN:p.as_.length≠0):Qae Tryz.prog 24 [pgV p,wsPV W] (.int .i64 (wstI W p)):=by
 have hn5:=hf.1;have hP:=fun i h=>Qzc hf v hN (i:=i) h;have hone:=fun i h=>Qt6 v hw hN (i:=i) h;have hget:=fun i k h hk=>Q7h (W:=W) (p:=p) (i:=i) (k:=k) h hk;have hsuc:=fun i h=>Qzd W p (i:=i) h;have hOl:=Q7i W p;unfold wstI;unfold sqO at hget hOl;rw [List.length_map]at hOl;generalize (sqA W p).flatten=xs at*;generalize hbe:befL (sqA W p)=be at*;have be0:be 0=0:=by rw [←hbe];exact Qtr _
 unfold pgV at hP ⊢;unfold pV at hP;unfold Qdl at hone;refine Qab (tb:=[]) 75 [.tmp 4] [0,1,2,4,5,6,7,9,11,16,34] mixed Tryz.func24 rfl (by kernel_rfl) (by kernel_rfl) (by kernel_rfl) (by kernel_rfl) ?_;repeat (first|(simp -implicitDefEqProofs only [go_sem,seval]))
 refine Qav mixed (fun i:{i:Nat // i≤p.ns.length}=>St.of [(1,wsPV W),(2,.bp 0 3 0 0),(5,.int .i64 (Qgm (xs.take (be i.1)))),(6,.int .i64 (i.1:Int))] [(0,{els:=[.agg [.slc (p.ns.map PV.str),.slc (p.hs.map v3PV),.slc (p.as_.map acV)]],esz:=3,ety:=26,fro:=0,live:=true,arr:=false})]) (fun i=>p.ns.length-i.1) ⟨0,Nat.zero_le _⟩ ?_ ?_
 ·simp only [be0,List.take_zero,show Qgm ([]:List Int)=0 from rfl];refine Qan (θ:=[(0,0)]) rfl ?_ ?_
  ·simp [Qaf,lkp,ren1,ren0,Qai]
  ·exact⟨⟨rfl,rfl,rfl,rfl,rfl,.inr ⟨rfl,_,_,rfl,rfl,rfl,rfl⟩⟩,trivial⟩
 ·rintro⟨i,hi⟩;simp only;by_cases hA:i<p.ns.length
  ·have hA':=ltT hA;have hPi:=hP i hA;obtain⟨hAl,h256⟩:=hone i hA;have hwi:=Qam (a:=i) (by omega);repeat (first|(simp -implicitDefEqProofs only [go_sem,seval,hA',List.length_map])|((with_reducible refine Qaa hPi ?_ ?_ ?_);rfl;rfl)|((with_reducible refine Qaa hAl ?_ ?_ ?_);rfl;rfl))
   refine Qav mixed (fun k:{k:Nat // k≤(Qaj p i p.as_.length).length}=>St.of [(1,wsPV W),(2,.bp 0 3 0 0),(5,.int .i64 (Qgm (xs.take (be i+k.1)))),(6,.int .i64 (i:Int)),(9,.slc ((Qaj p i p.as_.length).map (alV W))),(11,.int .i64 (k.1:Int))] [(0,{els:=[.agg [.slc (p.ns.map PV.str),.slc (p.hs.map v3PV),.slc (p.as_.map acV)]],esz:=3,ety:=26,fro:=0,live:=true,arr:=false})]) (fun k=>(Qaj p i p.as_.length).length-k.1) ⟨0,Nat.zero_le _⟩ ?_ ?_
   ·simp only [Nat.add_zero];refine Qan (θ:=[(0,0)]) rfl ?_ ?_
    ·simp [Qaf,lkp,ren1,ren0,Qai]
    ·exact⟨⟨rfl,rfl,rfl,rfl,rfl,.inr ⟨rfl,_,_,rfl,rfl,rfl,rfl⟩⟩,trivial⟩
   ·rintro⟨k,hk⟩;simp only;by_cases hB:k<(Qaj p i p.as_.length).length
    ·skip
     have b1:=Qgi (.inl rfl) hw (posS (Qaj p i p.as_.length)[k] 0) (posS (Qaj p i p.as_.length)[k] 1) (posS (Qaj p i p.as_.length)[k] 2) (Qaj p i p.as_.length)[k].f;have b2:=Qgi (.inr (.inl rfl)) hw (posS (Qaj p i p.as_.length)[k] 0) (posS (Qaj p i p.as_.length)[k] 1) (posS (Qaj p i p.as_.length)[k] 2) (Qaj p i p.as_.length)[k].f;have b3:=Qgi (.inr (.inr rfl)) hw (posS (Qaj p i p.as_.length)[k] 0) (posS (Qaj p i p.as_.length)[k] 1) (posS (Qaj p i p.as_.length)[k] 2) (Qaj p i p.as_.length)[k].f;obtain⟨w1,w2,w3,w4,w5,q1,q2⟩:=Qze b1 b2 b3;have hg:=Q6c W (Qaj p i p.as_.length) hB;have n1:=nnT k;have hwk:=Qam (a:=k) (by omega);have hB':=ltT hB;have hgt:=hget i k hA hB;simp only [List.getElem?_map,Option.map_eq_some_iff]at hgt;obtain⟨q,hq,hq2⟩:=hgt;have hm:=Qps hq;rw [List.cons.injEq,PV.int.injEq]at hq2;rw [hq2.1.2]at hm;have hal2:((Qaj p i p.as_.length).map (alV W)).length=(Qaj p i p.as_.length).length:=List.length_map ..;unfold sqW at hm;rw [Nat.add_assoc]at hm;clear hq hq2;generalize (Qaj p i p.as_.length).map (alV W)=BL at*;generalize atW Wd.ux W (posS (Qaj p i p.as_.length)[k] 0) (posS (Qaj p i p.as_.length)[k] 1) (posS (Qaj p i p.as_.length)[k] 2) (Qaj p i p.as_.length)[k].f=x at*;generalize atW Wd.uy W (posS (Qaj p i p.as_.length)[k] 0) (posS (Qaj p i p.as_.length)[k] 1) (posS (Qaj p i p.as_.length)[k] 2) (Qaj p i p.as_.length)[k].f=y at*
     generalize atW Wd.uz W (posS (Qaj p i p.as_.length)[k] 0) (posS (Qaj p i p.as_.length)[k] 1) (posS (Qaj p i p.as_.length)[k] 2) (Qaj p i p.as_.length)[k].f=z at*;generalize Qgm (xs.take (be i+k))=M at*;generalize (Qaj p i p.as_.length).length=m at*;repeat (first|(simp -implicitDefEqProofs only [go_sem,seval,hB',n1,hg,hwk,w1,w2,w3,w4,w5,hal2,Zvu,Int.toNat_natCast])|(with_reducible refine And.intro (Qac _ _ (by kernel_rfl)) ?_))
     refine⟨⟨k+1,hB⟩,by simp only;omega,?_⟩;simp only [hm];refine Qan (θ:=[(0,0)]) rfl ?_ ?_
     ·simp [Qaf,lkp,ren1,ren0,Qai]
     ·exact⟨⟨rfl,rfl,rfl,rfl,rfl,.inr ⟨rfl,_,_,rfl,rfl,rfl,rfl⟩⟩,trivial⟩
    ·have hB':=ltF hB;have e1:=hsuc i hA;have hal2:((Qaj p i p.as_.length).map (alV W)).length=(Qaj p i p.as_.length).length:=List.length_map ..;repeat (first|(simp -implicitDefEqProofs only [go_sem,seval,hB',hwi,hal2]))
     refine⟨⟨i+1,hA⟩,by simp only;omega,?_⟩;simp only [show be (i+1)=be i+k by omega];refine Qan (θ:=[(0,0)]) rfl ?_ ?_
     ·simp [Qaf,lkp,ren1,ren0,Qai]
     ·exact⟨⟨rfl,rfl,rfl,rfl,rfl,.inr ⟨rfl,_,_,rfl,rfl,rfl,rfl⟩⟩,trivial⟩
  ·have hA':=ltF hA;obtain rfl:i=p.ns.length:=by omega
   rw [Qtt (show xs.length≤be p.ns.length by omega)];repeat (first|(simp -implicitDefEqProofs only [go_sem,seval,hA',List.length_map]))
def shB (W:List Wd) (B:Bat) (p:Pg) (i:Nat):Bool:= !(decide (totE W B (Qaj p i p.as_.length)≤mxE)&&decide (B.res≤B.cap-totE W B (Qaj p i p.as_.length)))
def shL (W:List Wd) (B:Bat) (p:Pg) (k:Nat):List Int:=((List.range k).filter (shB W B p)).map fun(i:Nat)=>(i:Int)
theorem Qzg (W:List Wd) (B:Bat) (p:Pg):shL W B p 0=[]:=rfl
theorem Qzh (W:List Wd) (B:Bat) (p:Pg) (k:Nat):shL W B p (k+1)=shL W B p k++(if shB W B p k=true then [(k:Int)]else []):=by
 unfold shL;rw [List.range_succ,List.filter_append,List.map_append];congr 1;cases h:shB W B p k<;>simp [h]
theorem Q7k (W:List Wd) (B:Bat) (p:Pg) (k:Nat):(shL W B p k).length≤k:=by
 unfold shL;rw [List.length_map];exact Nat.le_trans (List.length_filter_le _ _) (by simp)
theorem Qpx {p:Pg} {W:List Wd} {B:Bat} (v:Qby p=true) (hw:Qa9 W=true) (hB:Qa5 B=true) (hN:p.as_.length≠0) {i:Nat} (hi:i<p.ns.length):
  ∃is:Bool,∃c:Int,Qae Tryz.prog 41 [Qdl (Qaj p i p.as_.length),baPV B,wsPV W] (.tup [.bool is,.int .i64 c])∧((c=0∧shB W B p i= !is)∨(c=7∧shB W B p i=true)):=by
 have hV:=Qzb v hN hi;have hl:=(Qcv hV).2.2;have h8:=(Qb9 hw).2;have h:=Q6e (Qaj p i p.as_.length) B W (Qpv hV) (Nat.le_trans h8 (by decide)) (by omega);unfold ehPV at h;rw [if_pos (by unfold Qm5;rw [hV,hB,hw];rfl)]at h;unfold shB;by_cases hT:totE W B (Qaj p i p.as_.length)≤mxE
 ·rw [if_pos hT]at h;refine⟨_,_,h,.inl ⟨rfl,?_⟩⟩;rw [decide_eq_true hT,Bool.true_and]
 ·rw [if_neg hT]at h;refine⟨_,_,h,.inr ⟨rfl,?_⟩⟩;rw [decide_eq_false hT];rfl
def shPV (W:List Wd) (B:Bat) (p:Pg):PV:= .tup [.slc ((if Qck p B W=0 then shL W B p p.ns.length else []).map (PV.int .i64)),.int .i64 (Qck p B W)]
theorem n7_0:((7:Int) != 0)=true:=rfl
set_option maxHeartbeats 8000000 in
theorem Q7l (p:Pg) (B:Bat) (W:List Wd) (hf:FewP p) (hl:W.length≤maxLen):Qae Tryz.prog 22 [pgV p,baPV B,wsPV W] (shPV W B p):=by
 have hg:=Qwe p B W (Qi5 hf) hl;have hP:=Q7f p hf;have hn5:=hf.1;unfold shPV;rcases Qnk p B W with e|e|e
 case inr.inl=>
  rw [e]at hg ⊢;unfold pgV baPV at hg ⊢;rw [if_neg (by decide)];refine Qab (tb:=[]) 54 [.tmp 6,.tmp 7] [0,1,2,3,4,6,7,8,9,11,12,13,14,15,21,28,29,30,31,47] mixed Tryz.func22 rfl (by kernel_rfl) (by kernel_rfl) (by kernel_rfl) (by kernel_rfl) ?_;repeat (first|(simp -implicitDefEqProofs only [go_sem,seval,n2_0,List.map_nil])|((with_reducible refine Qaa hg ?_ ?_ ?_);rfl;rfl))
 case inr.inr=>
  rw [e]at hg ⊢;unfold pgV baPV at hg ⊢;rw [if_neg (by decide)];refine Qab (tb:=[]) 54 [.tmp 6,.tmp 7] [0,1,2,3,4,6,7,8,9,11,12,13,14,15,21,28,29,30,31,47] mixed Tryz.func22 rfl (by kernel_rfl) (by kernel_rfl) (by kernel_rfl) (by kernel_rfl) ?_;repeat (first|(simp -implicitDefEqProofs only [go_sem,seval,n9_0,List.map_nil])|((with_reducible refine Qaa hg ?_ ?_ ?_);rfl;rfl))
 rw [e]at hg ⊢;rw [if_pos rfl];obtain⟨v,hw,hB,hN⟩:=Qed e;unfold Qro at hP;rw [if_pos v,if_neg hN]at hP;have hal:=Qrb p;have hgA: ∀i,i<p.ns.length→(allL p)[i]? =some (pV (Qaj p i p.as_.length)):=fun i h=>Qrc h;generalize allL p=AL at*;unfold pV at hgA;unfold pgV baPV at hg ⊢;unfold pgV at hP;refine Qab (tb:=[]) 54 [.tmp 6,.tmp 7] [0,1,2,3,4,6,7,8,9,11,12,13,14,15,21,28,29,30,31,47] mixed Tryz.func22 rfl (by kernel_rfl) (by kernel_rfl) (by kernel_rfl) (by kernel_rfl) ?_;repeat (first|(simp -implicitDefEqProofs only [go_sem,seval,n0_0,hal])|((with_reducible refine Qaa hg ?_ ?_ ?_);rfl;rfl)|((with_reducible refine Qaa hP ?_ ?_ ?_);rfl;rfl))
 refine Qav mixed (fun i:{i:Nat // i≤p.ns.length}=>St.of [(2,wsPV W),(4,.bp 1 5 0 0),(11,.bs 7 1 0 (shL W B p i.1).length),(28,.slc AL),(29,.int .i64 (p.ns.length:Int)),(30,.int .i64 (i.1:Int))] [(1,{els:=[.agg [.int .i64 B.base,.int .i64 B.climb,.int .i64 B.drag,.int .i64 B.cap,.int .i64 B.res]],esz:=5,ety:=28,fro:=0,live:=true,arr:=false}),(7,iB1 (shL W B p i.1))]) (fun i=>p.ns.length-i.1) ⟨0,Nat.zero_le _⟩ ?_ ?_
 ·simp only [Qzg,List.length_nil];refine Qiu 11 7 1 3 rfl rfl rfl (by decide) [(1,1),(7,7)] rfl ?_ ?_
  ·simp [Qaf,lkp,ren1,ren0,Qai]
  ·exact⟨⟨rfl,rfl,rfl,rfl,rfl,.inr ⟨rfl,_,_,rfl,rfl,rfl,rfl⟩⟩,⟨rfl,rfl,rfl,rfl,rfl,.inl ⟨rfl,rfl⟩⟩,trivial⟩
 ·rintro⟨i,hi⟩;simp only;by_cases hA:i<p.ns.length
  ·skip
   have hwi:=Qam (a:=i) (by omega);have hle:=Q7k W B p i;have hsu:=Qzh W B p i;have hA':=ltT hA;have n0:=nnT i;have hk1:=Qfd (shL W B p i);have hk2:(((shL W B p i).length+1)*8≤140737488355328)=True:=eq_true (by omega);have hk3:((shL W B p i).length+1≤maxLen)=True:=eq_true (by unfold maxLen;omega);obtain⟨is,c,hE,hc⟩:=Qpx v hw hB hN hA;unfold Qdl at hE;have hgi:=hgA i hA;unfold baPV at hE;cases hs:shB W B p i with
   |false=>
    rw [hs]at hc hsu;rw [if_neg Bool.false_ne_true,List.append_nil]at hsu;obtain⟨rfl,hc⟩|⟨-,hc⟩:=hc
    ·obtain rfl:is=true:=by cases is<;>first|rfl|exact absurd hc (by decide)
     repeat (first|(simp -implicitDefEqProofs only [go_sem,seval,hA',n0,hgi,hwi,n0_0,Bool.not_true,Int.toNat_natCast])|((with_reducible refine Qaa hE ?_ ?_ ?_);rfl;rfl))
     refine⟨⟨i+1,hA⟩,by simp only;omega,?_⟩;simp only [hsu];refine Qan (θ:=[(1,1),(7,7)]) rfl ?_ ?_
     ·simp [Qaf,lkp,ren1,ren0,Qai]
     ·exact⟨⟨rfl,rfl,rfl,rfl,rfl,.inr ⟨rfl,_,_,rfl,rfl,rfl,rfl⟩⟩,⟨rfl,rfl,rfl,rfl,rfl,.inl ⟨rfl,rfl⟩⟩,trivial⟩
    ·cases hc
   |true=>
    rw [hs]at hc;rw [hs,if_pos rfl]at hsu;have hq:(shL W B p (i+1)).length=(shL W B p i).length+1:=by rw [hsu,List.length_append];rfl
    generalize hQ:shL W B p (i+1)=Q at*;generalize shL W B p i=S at*;obtain⟨rfl,hc⟩|⟨rfl,hc⟩:=hc
    ·obtain rfl:is=false:=by cases is<;>first|rfl|exact absurd hc (by decide)
     repeat (first|(simp -implicitDefEqProofs only [go_sem,seval,hA',n0,hgi,hwi,n0_0,hk1,hk2,hk3,Bool.not_false,Int.toNat_natCast,List.length_map])|((with_reducible refine Qaa hE ?_ ?_ ?_);rfl;rfl))
     refine⟨⟨i+1,hA⟩,by simp only;omega,?_⟩;refine Qan (θ:=[(1,1),(7,1103)]) rfl ?_ ?_
     ·simp only [hQ,hq];simp [Qaf,lkp,ren1,ren0,Qai]
     ·simp only [hQ];subst hsu;refine⟨⟨rfl,rfl,rfl,rfl,rfl,.inr ⟨rfl,_,_,rfl,rfl,rfl,rfl⟩⟩,⟨rfl,rfl,rfl,rfl,rfl,.inl ⟨rfl,?_⟩⟩,trivial⟩;simp
    ·repeat (first|(simp -implicitDefEqProofs only [go_sem,seval,hA',n0,hgi,hwi,n7_0,hk1,hk2,hk3,Int.toNat_natCast,List.length_map])|((with_reducible refine Qaa hE ?_ ?_ ?_);rfl;rfl))
     refine⟨⟨i+1,hA⟩,by simp only;omega,?_⟩;refine Qan (θ:=[(1,1),(7,1103)]) rfl ?_ ?_
     ·simp only [hQ,hq];simp [Qaf,lkp,ren1,ren0,Qai]
     ·simp only [hQ];subst hsu;refine⟨⟨rfl,rfl,rfl,rfl,rfl,.inr ⟨rfl,_,_,rfl,rfl,rfl,rfl⟩⟩,⟨rfl,rfl,rfl,rfl,rfl,.inl ⟨rfl,?_⟩⟩,trivial⟩;simp
  ·have hA':=ltF hA;obtain rfl:i=p.ns.length:=by omega
   have ht:((shL W B p p.ns.length).map (PV.int .i64)).take (shL W B p p.ns.length).length=(shL W B p p.ns.length).map (PV.int .i64):=List.take_of_length_le (by simp);have hk1:=Qfd (shL W B p p.ns.length);generalize shL W B p p.ns.length=S at*;repeat (first|(simp -implicitDefEqProofs only [go_sem,seval,hA',ht,List.length_map,Nat.le_refl,decide_true]))
set_option maxHeartbeats 8000000 in
theorem Qzi (p:Pg) (B:Bat) (W:List Wd) (hf:FewP p) (v:Qby p=true) (hw:Qa9 W=true) (hB:Qa5 B=true) (hN:p.as_.length≠0):Qae Tryz.prog 25 [pgV p,baPV B,wsPV W] (.slc ((shL W B p p.ns.length).map (PV.int .i64))):=by
 have hn5:=hf.1;have hP:=fun i h=>Qzc hf v hN (i:=i) h;unfold pgV at hP ⊢;unfold baPV;unfold pV at hP;refine Qab (tb:=[]) 44 [.tmp 6] [0,1,2,3,4,6,7,8,9,11,12,17,38] mixed Tryz.func25 rfl (by kernel_rfl) (by kernel_rfl) (by kernel_rfl) (by kernel_rfl) ?_;repeat (first|(simp -implicitDefEqProofs only [go_sem,seval]))
 refine Qav mixed (fun i:{i:Nat // i≤p.ns.length}=>St.of [(2,wsPV W),(3,.bp 0 3 0 0),(4,.bp 1 5 0 0),(7,.bs 7 1 0 (shL W B p i.1).length),(8,.int .i64 (i.1:Int))] [(0,{els:=[.agg [.slc (p.ns.map PV.str),.slc (p.hs.map v3PV),.slc (p.as_.map acV)]],esz:=3,ety:=26,fro:=0,live:=true,arr:=false}),(1,{els:=[.agg [.int .i64 B.base,.int .i64 B.climb,.int .i64 B.drag,.int .i64 B.cap,.int .i64 B.res]],esz:=5,ety:=28,fro:=0,live:=true,arr:=false}),(7,iB1 (shL W B p i.1))]) (fun i=>p.ns.length-i.1) ⟨0,Nat.zero_le _⟩ ?_ ?_
 ·simp only [Qzg,List.length_nil];refine Qiu 7 7 1 3 rfl rfl rfl (by decide) [(0,0),(1,1),(7,7)] rfl ?_ ?_
  ·simp [Qaf,lkp,ren1,ren0,Qai]
  ·exact⟨⟨rfl,rfl,rfl,rfl,rfl,.inr ⟨rfl,_,_,rfl,rfl,rfl,rfl⟩⟩,⟨rfl,rfl,rfl,rfl,rfl,.inr ⟨rfl,_,_,rfl,rfl,rfl,rfl⟩⟩,⟨rfl,rfl,rfl,rfl,rfl,.inl ⟨rfl,rfl⟩⟩,trivial⟩
 ·rintro⟨i,hi⟩;simp only;by_cases hA:i<p.ns.length
  ·skip
   have hwi:=Qam (a:=i) (by omega);have hle:=Q7k W B p i;have hsu:=Qzh W B p i;have hA':=ltT hA;have n0:=nnT i;have hk1:=Qfd (shL W B p i);have hk2:(((shL W B p i).length+1)*8≤140737488355328)=True:=eq_true (by omega);have hk3:((shL W B p i).length+1≤maxLen)=True:=eq_true (by unfold maxLen;omega);obtain⟨is,c,hE,hc⟩:=Qpx v hw hB hN hA;unfold Qdl at hE;have hPi:=hP i hA;unfold baPV at hE;cases hs:shB W B p i with
   |false=>
    rw [hs]at hc hsu;rw [if_neg Bool.false_ne_true,List.append_nil]at hsu;obtain⟨rfl,hc⟩|⟨-,hc⟩:=hc
    ·obtain rfl:is=true:=by cases is<;>first|rfl|exact absurd hc (by decide)
     repeat (first|(simp -implicitDefEqProofs only [go_sem,seval,hA',hwi,n0_0,Bool.not_true,List.length_map])|((with_reducible refine Qaa hPi ?_ ?_ ?_);rfl;rfl)|((with_reducible refine Qaa hE ?_ ?_ ?_);rfl;rfl))
     refine⟨⟨i+1,hA⟩,by simp only;omega,?_⟩;simp only [hsu];refine Qan (θ:=[(0,0),(1,1),(7,7)]) rfl ?_ ?_
     ·simp [Qaf,lkp,ren1,ren0,Qai]
     ·exact⟨⟨rfl,rfl,rfl,rfl,rfl,.inr ⟨rfl,_,_,rfl,rfl,rfl,rfl⟩⟩,⟨rfl,rfl,rfl,rfl,rfl,.inr ⟨rfl,_,_,rfl,rfl,rfl,rfl⟩⟩,⟨rfl,rfl,rfl,rfl,rfl,.inl ⟨rfl,rfl⟩⟩,trivial⟩
    ·cases hc
   |true=>
    rw [hs]at hc;rw [hs,if_pos rfl]at hsu;have hq:(shL W B p (i+1)).length=(shL W B p i).length+1:=by rw [hsu,List.length_append];rfl
    generalize hQ:shL W B p (i+1)=Q at*;generalize shL W B p i=S at*;obtain⟨rfl,hc⟩|⟨rfl,hc⟩:=hc
    ·obtain rfl:is=false:=by cases is<;>first|rfl|exact absurd hc (by decide)
     repeat (first|(simp -implicitDefEqProofs only [go_sem,seval,hA',hwi,n0_0,hk1,hk2,hk3,Bool.not_false,List.length_map])|((with_reducible refine Qaa hPi ?_ ?_ ?_);rfl;rfl)|((with_reducible refine Qaa hE ?_ ?_ ?_);rfl;rfl))
     refine⟨⟨i+1,hA⟩,by simp only;omega,?_⟩;refine Qan (θ:=[(0,0),(1,1),(7,803)]) rfl ?_ ?_
     ·simp only [hQ,hq];simp [Qaf,lkp,ren1,ren0,Qai]
     ·simp only [hQ];subst hsu;refine⟨⟨rfl,rfl,rfl,rfl,rfl,.inr ⟨rfl,_,_,rfl,rfl,rfl,rfl⟩⟩,⟨rfl,rfl,rfl,rfl,rfl,.inr ⟨rfl,_,_,rfl,rfl,rfl,rfl⟩⟩,⟨rfl,rfl,rfl,rfl,rfl,.inl ⟨rfl,?_⟩⟩,trivial⟩;simp
    ·repeat (first|(simp -implicitDefEqProofs only [go_sem,seval,hA',hwi,n7_0,hk1,hk2,hk3,List.length_map])|((with_reducible refine Qaa hPi ?_ ?_ ?_);rfl;rfl)|((with_reducible refine Qaa hE ?_ ?_ ?_);rfl;rfl))
     refine⟨⟨i+1,hA⟩,by simp only;omega,?_⟩;refine Qan (θ:=[(0,0),(1,1),(7,803)]) rfl ?_ ?_
     ·simp only [hQ,hq];simp [Qaf,lkp,ren1,ren0,Qai]
     ·simp only [hQ];subst hsu;refine⟨⟨rfl,rfl,rfl,rfl,rfl,.inr ⟨rfl,_,_,rfl,rfl,rfl,rfl⟩⟩,⟨rfl,rfl,rfl,rfl,rfl,.inr ⟨rfl,_,_,rfl,rfl,rfl,rfl⟩⟩,⟨rfl,rfl,rfl,rfl,rfl,.inl ⟨rfl,?_⟩⟩,trivial⟩;simp
  ·have hA':=ltF hA;obtain rfl:i=p.ns.length:=by omega
   have ht:((shL W B p p.ns.length).map (PV.int .i64)).take (shL W B p p.ns.length).length=(shL W B p p.ns.length).map (PV.int .i64):=List.take_of_length_le (by simp);have hk1:=Qfd (shL W B p p.ns.length);generalize shL W B p p.ns.length=S at*;repeat (first|(simp -implicitDefEqProofs only [go_sem,seval,hA',ht,List.length_map,Nat.le_refl,decide_true]))
def decN (n:Int) (s:Nat) (g h:Int):Int:=if 0<s∨h*h<n then 2 else if g*g<n then 1 else 0
def decI (W:List Wd) (B:Bat) (p:Pg) (g h:Int):Int:=decN (wstI W p) (shL W B p p.ns.length).length g h
def decE (W:List Wd) (B:Bat) (p:Pg) (g h:Int):Int:=if rulB g h=true then Qck p B W else 2
def Q7m (W:List Wd) (B:Bat) (p:Pg) (g h:Int):PV:= .tup [.int .i64 (if decE W B p g h=0 then decI W B p g h else 0),.int .i64 (decE W B p g h)]
theorem Q7n {g h:Int} (e:rulB g h=true):0≤g∧g≤h∧h≤100000:=by
 unfold rulB at e;simpa only [Bool.and_eq_true,decide_eq_true_eq]using e
theorem Zor {g h:Int} (e:rulB g h=true):IntKind.i64.wrap (h*h)=h*h∧IntKind.i64.wrap (g*g)=g*g:=by
 obtain⟨h0,h1,h2⟩:=Q7n e;have q: ∀a:Int,0≤a∧a≤100000→0≤a*a∧a*a≤10000000000:=fun a h=>by
  refine⟨Int.mul_nonneg h.1 h.1,?_⟩;have:=Int.mul_le_mul h.2 h.2 h.1 (by omega:(0:Int)≤100000);omega
 have a1:=q h ⟨by omega,h2⟩;have a2:=q g ⟨h0,by omega⟩;exact⟨Qag (by omega) (by omega),Qag (by omega) (by omega)⟩
theorem Qzj {p:Pg} {B:Bat} {W:List Wd} (e:Qck p B W=0):Qck p bat0 W=0:=by
 obtain⟨v,hw, -,hN⟩:=Qed e;exact Qpw v hw Zrc hN
set_option maxHeartbeats 4000000 in
theorem Qrt (p:Pg) (B:Bat) (W:List Wd) (g h:Int) (hf:FewP p) (hl:W.length≤maxLen):Qae Tryz.prog 13 [pgV p,baPV B,wsPV W,.agg [.int .i64 g,.int .i64 h]] (Q7m W B p g h):=by
 have f1:=Qnc g h;have f2:=Q7l p B W hf hl;have f3:=Qwf p W hf hl;unfold shPV at f2;unfold Q7j at f3;unfold Q7m decE;unfold pgV baPV at*;cases e0:rulB g h with
 |false=>
  rw [e0]at f1;rw [if_neg Bool.false_ne_true,if_neg (by decide)];refine Qab (tb:=[]) 53 [.tmp 8,.tmp 9] [0,1,2,3,4,5,7,8,9,10,11,12,16,25,33,37,45] mixed Tryz.func13 rfl (by kernel_rfl) (by kernel_rfl) (by kernel_rfl) (by kernel_rfl) ?_;repeat (first|(simp -implicitDefEqProofs only [go_sem,seval,Bool.not_false])|((with_reducible refine Qaa f1 ?_ ?_ ?_);rfl;rfl))
 |true=>
 rw [e0]at f1;obtain⟨w1,w2⟩:=Zor e0;rw [if_pos rfl];rcases Qnk p B W with e|e|e
 case inr.inl=>
  rw [e]at f2 ⊢;rw [if_neg (by decide)];refine Qab (tb:=[]) 53 [.tmp 8,.tmp 9] [0,1,2,3,4,5,7,8,9,10,11,12,16,25,33,37,45] mixed Tryz.func13 rfl (by kernel_rfl) (by kernel_rfl) (by kernel_rfl) (by kernel_rfl) ?_;repeat (first|(simp -implicitDefEqProofs only [go_sem,seval,n2_0,Bool.not_true])|((with_reducible refine Qaa f1 ?_ ?_ ?_);rfl;rfl)|((with_reducible refine Qaa f2 ?_ ?_ ?_);rfl;rfl))
 case inr.inr=>
  rw [e]at f2 ⊢;rw [if_neg (by decide)];refine Qab (tb:=[]) 53 [.tmp 8,.tmp 9] [0,1,2,3,4,5,7,8,9,10,11,12,16,25,33,37,45] mixed Tryz.func13 rfl (by kernel_rfl) (by kernel_rfl) (by kernel_rfl) (by kernel_rfl) ?_;repeat (first|(simp -implicitDefEqProofs only [go_sem,seval,n9_0,Bool.not_true])|((with_reducible refine Qaa f1 ?_ ?_ ?_);rfl;rfl)|((with_reducible refine Qaa f2 ?_ ?_ ?_);rfl;rfl))
 rw [e,if_pos rfl]at f2;rw [Qzj e,if_pos rfl]at f3;rw [e,if_pos rfl];unfold decI decN;generalize hS:shL W B p p.ns.length=S at*;have hs:(S.map (PV.int .i64)).length=S.length:=List.length_map ..;generalize S.map (PV.int .i64)=SM at*;generalize S.length=s at*;generalize wstI W p=n at*;by_cases c1:0<s
 ·have c1':((0:Int)<(s:Int))=True:=eq_true (by omega);rw [if_pos (.inl c1)];refine Qab (tb:=[]) 53 [.tmp 8,.tmp 9] [0,1,2,3,4,5,7,8,9,10,11,12,16,25,33,37,45] mixed Tryz.func13 rfl (by kernel_rfl) (by kernel_rfl) (by kernel_rfl) (by kernel_rfl) ?_;repeat (first|(simp -implicitDefEqProofs only [go_sem,seval,n0_0,hs,c1',decide_true,Bool.not_true])|((with_reducible refine Qaa f1 ?_ ?_ ?_);rfl;rfl)|((with_reducible refine Qaa f2 ?_ ?_ ?_);rfl;rfl)|((with_reducible refine Qaa f3 ?_ ?_ ?_);rfl;rfl))
 have c1':((0:Int)<(s:Int))=False:=eq_false (by omega);by_cases c2:h*h<n
 ·have c2':=eq_true c2;rw [if_pos (.inr c2)];refine Qab (tb:=[]) 53 [.tmp 8,.tmp 9] [0,1,2,3,4,5,7,8,9,10,11,12,16,25,33,37,45] mixed Tryz.func13 rfl (by kernel_rfl) (by kernel_rfl) (by kernel_rfl) (by kernel_rfl) ?_;repeat (first|(simp -implicitDefEqProofs only [go_sem,seval,n0_0,w1,hs,c1',c2',decide_true,decide_false,Bool.not_true])|((with_reducible refine Qaa f1 ?_ ?_ ?_);rfl;rfl)|((with_reducible refine Qaa f2 ?_ ?_ ?_);rfl;rfl)|((with_reducible refine Qaa f3 ?_ ?_ ?_);rfl;rfl))
 have c2':=eq_false c2;rw [if_neg (fun q=>q.elim c1 c2)];by_cases c3:g*g<n
 ·have c3':=eq_true c3;rw [if_pos c3];refine Qab (tb:=[]) 53 [.tmp 8,.tmp 9] [0,1,2,3,4,5,7,8,9,10,11,12,16,25,33,37,45] mixed Tryz.func13 rfl (by kernel_rfl) (by kernel_rfl) (by kernel_rfl) (by kernel_rfl) ?_;repeat (first|(simp -implicitDefEqProofs only [go_sem,seval,n0_0,w1,w2,hs,c1',c2',c3',decide_true,decide_false,Bool.not_true])|((with_reducible refine Qaa f1 ?_ ?_ ?_);rfl;rfl)|((with_reducible refine Qaa f2 ?_ ?_ ?_);rfl;rfl)|((with_reducible refine Qaa f3 ?_ ?_ ?_);rfl;rfl))
 have c3':=eq_false c3;rw [if_neg c3];refine Qab (tb:=[]) 53 [.tmp 8,.tmp 9] [0,1,2,3,4,5,7,8,9,10,11,12,16,25,33,37,45] mixed Tryz.func13 rfl (by kernel_rfl) (by kernel_rfl) (by kernel_rfl) (by kernel_rfl) ?_;repeat (first|(simp -implicitDefEqProofs only [go_sem,seval,n0_0,w1,w2,hs,c1',c2',c3',decide_true,decide_false,Bool.not_true])|((with_reducible refine Qaa f1 ?_ ?_ ?_);rfl;rfl)|((with_reducible refine Qaa f2 ?_ ?_ ?_);rfl;rfl)|((with_reducible refine Qaa f3 ?_ ?_ ?_);rfl;rfl))
set_option maxHeartbeats 4000000 in
theorem Qt7 (p:Pg) (B:Bat) (W:List Wd) (g h:Int) (hf:FewP p) (e0:rulB g h=true) (e:Qck p B W=0):Qae Tryz.prog 26 [pgV p,baPV B,wsPV W,.agg [.int .i64 g,.int .i64 h]] (.int .i64 (decI W B p g h)):=by
 obtain⟨v,hw,hB,hN⟩:=Qed e;obtain⟨w1,w2⟩:=Zor e0;have f2:=Qzi p B W hf v hw hB hN;have f3:=Qzf p W hf v hw hN;unfold decI decN;unfold pgV baPV at*;generalize hS:shL W B p p.ns.length=S at*;have hs:(S.map (PV.int .i64)).length=S.length:=List.length_map ..;generalize S.map (PV.int .i64)=SM at*;generalize S.length=s at*;generalize wstI W p=n at*;by_cases c1:0<s
 ·have c1':((0:Int)<(s:Int))=True:=eq_true (by omega);rw [if_pos (.inl c1)];refine Qab (tb:=[]) 35 [.tmp 8] [0,1,2,3,4,5,7,8,9,27,34] mixed Tryz.func26 rfl (by kernel_rfl) (by kernel_rfl) (by kernel_rfl) (by kernel_rfl) ?_;repeat (first|(simp -implicitDefEqProofs only [go_sem,seval,hs,c1',decide_true])|((with_reducible refine Qaa f2 ?_ ?_ ?_);rfl;rfl)|((with_reducible refine Qaa f3 ?_ ?_ ?_);rfl;rfl))
 have c1':((0:Int)<(s:Int))=False:=eq_false (by omega);by_cases c2:h*h<n
 ·have c2':=eq_true c2;rw [if_pos (.inr c2)];refine Qab (tb:=[]) 35 [.tmp 8] [0,1,2,3,4,5,7,8,9,27,34] mixed Tryz.func26 rfl (by kernel_rfl) (by kernel_rfl) (by kernel_rfl) (by kernel_rfl) ?_;repeat (first|(simp -implicitDefEqProofs only [go_sem,seval,w1,hs,c1',c2',decide_true,decide_false])|((with_reducible refine Qaa f2 ?_ ?_ ?_);rfl;rfl)|((with_reducible refine Qaa f3 ?_ ?_ ?_);rfl;rfl))
 have c2':=eq_false c2;rw [if_neg (fun q=>q.elim c1 c2)];by_cases c3:g*g<n
 ·have c3':=eq_true c3;rw [if_pos c3];refine Qab (tb:=[]) 35 [.tmp 8] [0,1,2,3,4,5,7,8,9,27,34] mixed Tryz.func26 rfl (by kernel_rfl) (by kernel_rfl) (by kernel_rfl) (by kernel_rfl) ?_;repeat (first|(simp -implicitDefEqProofs only [go_sem,seval,w1,w2,hs,c1',c2',c3',decide_true,decide_false])|((with_reducible refine Qaa f2 ?_ ?_ ?_);rfl;rfl)|((with_reducible refine Qaa f3 ?_ ?_ ?_);rfl;rfl))
 have c3':=eq_false c3;rw [if_neg c3];refine Qab (tb:=[]) 35 [.tmp 8] [0,1,2,3,4,5,7,8,9,27,34] mixed Tryz.func26 rfl (by kernel_rfl) (by kernel_rfl) (by kernel_rfl) (by kernel_rfl) ?_;repeat (first|(simp -implicitDefEqProofs only [go_sem,seval,w1,w2,hs,c1',c2',c3',decide_true,decide_false])|((with_reducible refine Qaa f2 ?_ ?_ ?_);rfl;rfl)|((with_reducible refine Qaa f3 ?_ ?_ ?_);rfl;rfl))
def staB (st tr:Int):Bool:=decide (1≤st)&&(decide (st≤3600000)&&(decide (1≤tr)&&(decide (tr≤100)&&decide ((tr-1)*st≤3600000))))
def stpE (st:Int) (i:Nat):List Int:=(List.range i).map (fun(k:Nat)=>(k:Int)*st)++List.replicate (100-i) 0
theorem Qi7 (st:Int) {i:Nat} (h:i≤100):(stpE st i).length=100:=by
 unfold stpE;rw [List.length_append,List.length_map,List.length_range,List.length_replicate];omega
theorem Zfd (st:Int) {i:Nat} (h:i<100):(stpE st i).set i ((i:Int)*st)=stpE st (i+1):=by
 unfold stpE;have hl:((List.range i).map (fun(k:Nat)=>(k:Int)*st)).length=i:=by simp
 rw [List.set_append_right _ _ (by omega),hl,Nat.sub_self,show 100-i=(100-(i+1))+1 by omega,List.replicate_succ,List.set_cons_zero,List.range_succ,List.map_append];simp
theorem Zfe (st:Int) {i:Nat} (h:i<100):(stpE st 100)[i]? =some ((i:Int)*st):=by
 unfold stpE;rw [List.getElem?_append_left (by simpa using h)];simp [h]
theorem Qy6 (st:Int) {i:Nat} (h:i<100):((stpE st 100).map (PV.int .i64))[i]? =some (.int .i64 ((i:Int)*st)):=by rw [List.getElem?_map,Zfe st h];rfl
theorem Q62 (st:Int):(stpE st 0).map (PV.int .i64)=List.replicate 100 (.int .i64 0):=by
 unfold stpE;rw [List.range_zero,List.map_nil,List.nil_append,List.map_replicate]
theorem Qgw {st tr:Int} (e:staB st tr=true):1≤st∧st≤3600000∧1≤tr∧tr≤100∧(tr-1)*st≤3600000:=by
 unfold staB at e;simpa only [Bool.and_eq_true,decide_eq_true_eq]using e
theorem Ql5 {st tr:Int} (e:staB st tr=true) {i:Nat} (h:(i:Int)<tr):0≤(i:Int)*st∧(i:Int)*st≤3600000:=by
 obtain⟨h1,h2,h3,h4,h5⟩:=Qgw e;refine⟨Int.mul_nonneg (by omega) (by omega),Int.le_trans (Int.mul_le_mul_of_nonneg_right (by omega) (by omega)) h5⟩
theorem Qre {st:Int} (h1:1≤st) (h2:st≤3600000) {i:Nat} (h:i<100):IntKind.i64.wrap ((i:Int)*st)=(i:Int)*st:=by
 have a:0≤(i:Int)*st:=Int.mul_nonneg (by omega) (by omega);have b:(i:Int)*st≤100*3600000:=Int.mul_le_mul (by omega) h2 (by omega) (by omega);exact Qag (by omega) (by omega)
theorem Qy7 {st tr:Int} (h1:1≤st) (h2:st≤3600000) (h3:1≤tr) (h4:tr≤100):IntKind.i64.wrap (tr-1)=tr-1∧IntKind.i64.wrap ((tr-1)*st)=(tr-1)*st:=by
 have a:0≤(tr-1)*st:=Int.mul_nonneg (by omega) (by omega);have b:(tr-1)*st≤100*3600000:=Int.mul_le_mul (by omega) h2 (by omega) (by omega);exact⟨Qag (by omega) (by omega),Qag (by omega) (by omega)⟩
theorem Z1h (xs:List Int) (i:Nat) (h:i<xs.length):(xs.map (PV.int .i64))[i]? =some (.int .i64 xs[i]):=by rw [List.getElem?_map,List.getElem?_eq_getElem h];rfl
theorem Q63 (st tr:Int) (e:staB st tr=false):Qdb Tryz.prog 36 [.int .i64 st,.int .i64 tr] [] .nilS []:=by
 by_cases h1:1≤st
 case neg=>
  have q1:(st<1)=True:=eq_true (by omega);refine Qbx (tb:=[]) 45 [.tmp 4] [0,1,4,5,6,27,30,31,32] mixed Tryz.func36 rfl (by kernel_rfl) (by kernel_rfl) (by kernel_rfl) (by kernel_rfl) (by rfl) ?_;repeat (first|(simp -implicitDefEqProofs only [go_sem,seval,q1,decide_true]))
  refine Qbg (.inl rfl) ?_;simp -implicitDefEqProofs only [go_sem,seval];refine Qan (θ:=[]) rfl ?_ ?_
  ·simp [Qaf,lkp,ren1,ren0,Qai]
  ·exact trivial
 have q1:(st<1)=False:=eq_false (by omega);by_cases h2:st≤3600000
 case neg=>
  have q2:(3600000<st)=True:=eq_true (by omega);refine Qbx (tb:=[]) 45 [.tmp 4] [0,1,4,5,6,27,30,31,32] mixed Tryz.func36 rfl (by kernel_rfl) (by kernel_rfl) (by kernel_rfl) (by kernel_rfl) (by rfl) ?_;repeat (first|(simp -implicitDefEqProofs only [go_sem,seval,q1,q2,decide_true,decide_false]))
  refine Qbg (.inl rfl) ?_;simp -implicitDefEqProofs only [go_sem,seval];refine Qan (θ:=[]) rfl ?_ ?_
  ·simp [Qaf,lkp,ren1,ren0,Qai]
  ·exact trivial
 have q2:(3600000<st)=False:=eq_false (by omega);by_cases h3:1≤tr
 case neg=>
  have q3:(tr<1)=True:=eq_true (by omega);refine Qbx (tb:=[]) 45 [.tmp 4] [0,1,4,5,6,27,30,31,32] mixed Tryz.func36 rfl (by kernel_rfl) (by kernel_rfl) (by kernel_rfl) (by kernel_rfl) (by rfl) ?_;repeat (first|(simp -implicitDefEqProofs only [go_sem,seval,q1,q2,q3,decide_true,decide_false]))
  refine Qbg (.inl rfl) ?_;simp -implicitDefEqProofs only [go_sem,seval];refine Qan (θ:=[]) rfl ?_ ?_
  ·simp [Qaf,lkp,ren1,ren0,Qai]
  ·exact trivial
 have q3:(tr<1)=False:=eq_false (by omega);by_cases h4:tr≤100
 case neg=>
  have q4:(100<tr)=True:=eq_true (by omega);refine Qbx (tb:=[]) 45 [.tmp 4] [0,1,4,5,6,27,30,31,32] mixed Tryz.func36 rfl (by kernel_rfl) (by kernel_rfl) (by kernel_rfl) (by kernel_rfl) (by rfl) ?_;repeat (first|(simp -implicitDefEqProofs only [go_sem,seval,q1,q2,q3,q4,decide_true,decide_false]))
  refine Qbg (.inl rfl) ?_;simp -implicitDefEqProofs only [go_sem,seval];refine Qan (θ:=[]) rfl ?_ ?_
  ·simp [Qaf,lkp,ren1,ren0,Qai]
  ·exact trivial
 have q4:(100<tr)=False:=eq_false (by omega);obtain⟨w1,w2⟩:=Qy7 h1 h2 h3 h4;have h5: ¬(tr-1)*st≤3600000:=fun h5=>by
  unfold staB at e;rw [decide_eq_true h1,decide_eq_true h2,decide_eq_true h3,decide_eq_true h4,decide_eq_true h5]at e;cases e
 have q5:(3600000<(tr-1)*st)=True:=eq_true (by omega);refine Qbx (tb:=[]) 45 [.tmp 4] [0,1,4,5,6,27,30,31,32] mixed Tryz.func36 rfl (by kernel_rfl) (by kernel_rfl) (by kernel_rfl) (by kernel_rfl) (by rfl) ?_;repeat (first|(simp -implicitDefEqProofs only [go_sem,seval,q1,q2,q3,q4,q5,w1,w2,decide_true,decide_false]))
 refine Qbg (.inl rfl) ?_;simp -implicitDefEqProofs only [go_sem,seval];refine Qan (θ:=[]) rfl ?_ ?_
 ·simp [Qaf,lkp,ren1,ren0,Qai]
 ·exact trivial
set_option maxRecDepth 100000 in
set_option maxHeartbeats 4000000 in
theorem Qt5 (st:Int) (n:Nat) (e:staB st (n:Int)=true):Qdb Tryz.prog 36 [.int .i64 st,.int .i64 (n:Int)] [] (.bs 7 1 0 n) [(7,iB1 (stpE st 100))]:=by
 obtain⟨h1,h2,h3,h4,h5⟩:=Qgw e;obtain⟨w1,w2⟩:=Qy7 h1 h2 h3 h4;have q1:(st<1)=False:=eq_false (by omega);have q2:(3600000<st)=False:=eq_false (by omega);have q3:((n:Int)<1)=False:=eq_false (by omega);have q4:((100:Int)<(n:Int))=False:=eq_false (by omega);have q5:(3600000<((n:Int)-1)*st)=False:=eq_false (by omega);have c100:((100:Nat):Int)=100:=rfl;have hz:=Q62 st;have mk:(((8:Nat):Int)*100≤281474976710656)=True:=eq_true (by decide);refine Qbx (tb:=[]) 45 [.tmp 4] [0,1,4,5,6,27,30,31,32] mixed Tryz.func36 rfl (by kernel_rfl) (by kernel_rfl) (by kernel_rfl) (by kernel_rfl) (by rfl) ?_;repeat (first|(simp -implicitDefEqProofs only [go_sem,seval,q1,q2,q3,q4,q5,w1,w2,mk,decide_true,decide_false]))
 refine Qav mixed (fun i:{i:Nat // i≤100}=>St.of [(0,.int .i64 st),(1,.int .i64 (n:Int)),(5,.bs 300 1 0 100),(30,.int .i64 100),(31,.int .i64 (i.1:Int))] [(300,iB1 (stpE st i.1))]) (fun i=>100-i.1) ⟨0,Nat.zero_le _⟩ ?_ ?_
 ·refine Qan (θ:=[(300,300)]) rfl ?_ ?_
  ·simp [Qaf,lkp,ren1,ren0,Qai]
  ·exact⟨⟨rfl,rfl,rfl,rfl,rfl,.inl ⟨rfl,rfl⟩⟩,trivial⟩
 ·rintro⟨i,hi⟩;simp only;by_cases hA:i<100
  ·have hA':((i:Int)<100)=True:=eq_true (by omega);have n0:=nnT i;have hwi:=Qam (a:=i) (by omega);have wi:=Qre h1 h2 hA;have hs:((stpE st i).map (PV.int .i64)).set i (.int .i64 ((i:Int)*st))=(stpE st (i+1)).map (PV.int .i64):=by rw [←List.map_set,Zfd st hA]
   obtain⟨y,hy⟩: ∃y,((stpE st i).map (PV.int .i64))[i]? =some (.int .i64 y):=⟨_,Z1h _ _ (by rw [Qi7 st hi];exact hA)⟩;have hl:=Qi7 st hi;generalize hD:stpE st (i+1)=D at*;generalize stpE st i=E at*;repeat (first|(simp -implicitDefEqProofs only [go_sem,seval,hA',n0,hwi,wi,hs,hy,c100,decide_true,Int.toNat_natCast]))
   refine⟨⟨i+1,hA⟩,by simp only;omega,?_⟩;simp only [hD];refine Qan (θ:=[(300,300)]) rfl ?_ ?_
   ·simp [Qaf,lkp,ren1,ren0,Qai]
   ·exact⟨⟨rfl,rfl,rfl,rfl,rfl,.inl ⟨rfl,rfl⟩⟩,trivial⟩
  ·obtain rfl:i=100:=by omega
   have n0:=nnT n;have hl:=Qi7 st (Nat.le_refl 100);have r1:((n:Int)≤100)=True:=eq_true h4;have r0:((0:Int)<(n:Int))=True:=eq_true (by omega);have r2:(n≤100)=True:=eq_true (by omega);generalize stpE st 100=E at*;repeat (first|(simp -implicitDefEqProofs only [go_sem,seval,c100,r0,r1,decide_true,Int.lt_irrefl,Int.toNat_natCast]))
   refine Qbg (.inl rfl) ?_;simp -implicitDefEqProofs only [go_sem,seval];refine Qan (θ:=[(7,300)]) rfl ?_ ?_
   ·simp [Qaf,lkp,ren1,ren0,Qai]
   ·exact⟨⟨rfl,rfl,rfl,rfl,rfl,.inl ⟨rfl,rfl⟩⟩,trivial⟩
def tabE (W:List Wd) (B:Bat) (p:Pg) (g h st tr:Int):Int:=if rulB g h=true∧staB st tr=true then Qck p B W else 2
def tabL (W:List Wd) (B:Bat) (p:Pg) (g h st:Int) (k:Nat):List Int:=(List.range k).map fun(i:Nat)=>decI (Qbm ((i:Int)*st) W) B p g h
theorem Qi8 (W:List Wd) (B:Bat) (p:Pg) (g h st:Int) (k:Nat):(tabL W B p g h st k).length=k:=by simp [tabL]
theorem Q64 (W:List Wd) (B:Bat) (p:Pg) (g h st:Int) (k:Nat):tabL W B p g h st (k+1)=tabL W B p g h st k++[decI (Qbm ((k:Int)*st) W) B p g h]:=by
 unfold tabL;rw [List.range_succ,List.map_append];rfl
theorem Zff (W:List Wd) (B:Bat) (p:Pg) (g h st:Int) {k i:Nat} (hi:i<k):(tabL W B p g h st k).getD i 1=decI (Qbm ((i:Int)*st) W) B p g h:=by
 unfold tabL;simp [hi]
def Q1b (W:List Wd) (B:Bat) (p:Pg) (g h st tr:Int):PV:= .tup [.slc ((if tabE W B p g h st tr=0 then tabL W B p g h st tr.toNat else []).map (PV.int .i64)),.int .i64 (tabE W B p g h st tr)]
abbrev weB (xs:List Int):Box:={els:=xs.map (PV.int .i64),esz:=1,ety:=39,fro:=0,live:=true,arr:=true}
theorem Qy8 {p:Pg} {B:Bat} {W:List Wd} (e:Qck p B W=0) {s:Int} (h:0≤s):Qck p B (Qbm s W)=0:=by
 obtain⟨v,hw,hB,hN⟩:=Qed e;exact Qpw v (Qtq hw h) hB hN
theorem Qke (s:Int) (l:List Wd):(Qbm s l).length≤l.length:=by
 unfold Qbm;rw [List.length_map];exact Qhk s l
set_option maxHeartbeats 8000000 in
theorem Qrf (p:Pg) (B:Bat) (W:List Wd) (g h st tr:Int) (hf:FewP p) (hl:W.length≤maxLen):Qae Tryz.prog 16 [pgV p,baPV B,wsPV W,.agg [.int .i64 g,.int .i64 h],.int .i64 st,.int .i64 tr] (Q1b W B p g h st tr):=by
 have f1:=Qnc g h;have f2:=Qwe p B W (Qi5 hf) hl;unfold Q1b;cases e1:staB st tr with
 |false=>
  have f0:=Q63 st tr e1;have eE:tabE W B p g h st tr=2:=by unfold tabE;rw [if_neg (fun q=>by rw [e1]at q;exact Bool.false_ne_true q.2)]
  rw [eE,if_neg (by decide)];cases e0:rulB g h with
  |false=>
   rw [e0]at f1;unfold pgV baPV

   refine Qab (tb:=[(102,[],[])]) 69 [.tmp 12,.tmp 13] [0,1,2,3,4,5,6,7,9,12,13,14,15,16,18,19,21,22,32,38,40,41,42,43,61] mixed Tryz.func16 rfl (by kernel_rfl) (by kernel_rfl) (by kernel_rfl) (by kernel_rfl) ?_;repeat (first|(simp -implicitDefEqProofs only [go_sem,seval,Bool.not_false,List.map_nil])|((with_reducible refine Qbo f0 ?_ ?_ ?_ ?_);rfl;rfl;rfl)|((with_reducible refine Qaa f1 ?_ ?_ ?_);rfl;rfl))
  |true=>
   rw [e0]at f1;unfold pgV baPV

   refine Qab (tb:=[(102,[],[])]) 69 [.tmp 12,.tmp 13] [0,1,2,3,4,5,6,7,9,12,13,14,15,16,18,19,21,22,32,38,40,41,42,43,61] mixed Tryz.func16 rfl (by kernel_rfl) (by kernel_rfl) (by kernel_rfl) (by kernel_rfl) ?_;repeat (first|(simp -implicitDefEqProofs only [go_sem,seval,Bool.not_true,List.map_nil])|((with_reducible refine Qbo f0 ?_ ?_ ?_ ?_);rfl;rfl;rfl)|((with_reducible refine Qaa f1 ?_ ?_ ?_);rfl;rfl))
 |true=>
 obtain⟨s1,s2,s3,s4,s5⟩:=Qgw e1;obtain⟨n,rfl⟩: ∃n:Nat,tr=(n:Int):=⟨tr.toNat,by omega⟩;have f0:=Qt5 st n e1;have nb:Nat.beq n 0=false:=(fun h0:n≠0=>match n,h0 with|0,q=>absurd rfl q|_+1,_=>rfl) (by omega);have bl7:Nat.blt 1700 1000000=true:=rfl;cases e0:rulB g h with
 |false=>
  rw [e0]at f1;have eE:tabE W B p g h st (n:Int)=2:=by unfold tabE;rw [if_neg (fun q=>by rw [e0]at q;exact Bool.false_ne_true q.1)]
  rw [eE,if_neg (by decide)];unfold pgV baPV

  refine Qab (tb:=[(102,[],[(7,1700)])]) 69 [.tmp 12,.tmp 13] [0,1,2,3,4,5,6,7,9,12,13,14,15,16,18,19,21,22,32,38,40,41,42,43,61] mixed Tryz.func16 rfl (by kernel_rfl) (by kernel_rfl) (by kernel_rfl) (by kernel_rfl) ?_;repeat (first|(simp -implicitDefEqProofs only [go_sem,seval,Bool.not_false,bl7,List.map_nil])|((with_reducible refine Qbo f0 ?_ ?_ ?_ ?_);rfl;rfl;rfl)|((with_reducible refine Qaa f1 ?_ ?_ ?_);rfl;rfl))
 |true=>
 rw [e0]at f1;have eE:tabE W B p g h st (n:Int)=Qck p B W:=by unfold tabE;rw [if_pos ⟨e0,e1⟩]
 rw [eE];rcases Qnk p B W with e|e|e
 case inr.inl=>
  rw [e]at f2 ⊢;rw [if_neg (by decide)];unfold pgV baPV at*

  refine Qab (tb:=[(102,[],[(7,1700)])]) 69 [.tmp 12,.tmp 13] [0,1,2,3,4,5,6,7,9,12,13,14,15,16,18,19,21,22,32,38,40,41,42,43,61] mixed Tryz.func16 rfl (by kernel_rfl) (by kernel_rfl) (by kernel_rfl) (by kernel_rfl) ?_;repeat (first|(simp -implicitDefEqProofs only [go_sem,seval,Bool.not_true,bl7,nb,n2_0,List.map_nil])|((with_reducible refine Qbo f0 ?_ ?_ ?_ ?_);rfl;rfl;rfl)|((with_reducible refine Qaa f1 ?_ ?_ ?_);rfl;rfl)|((with_reducible refine Qaa f2 ?_ ?_ ?_);rfl;rfl))
 case inr.inr=>
  rw [e]at f2 ⊢;rw [if_neg (by decide)];unfold pgV baPV at*

  refine Qab (tb:=[(102,[],[(7,1700)])]) 69 [.tmp 12,.tmp 13] [0,1,2,3,4,5,6,7,9,12,13,14,15,16,18,19,21,22,32,38,40,41,42,43,61] mixed Tryz.func16 rfl (by kernel_rfl) (by kernel_rfl) (by kernel_rfl) (by kernel_rfl) ?_;repeat (first|(simp -implicitDefEqProofs only [go_sem,seval,Bool.not_true,bl7,nb,n9_0,List.map_nil])|((with_reducible refine Qbo f0 ?_ ?_ ?_ ?_);rfl;rfl;rfl)|((with_reducible refine Qaa f1 ?_ ?_ ?_);rfl;rfl)|((with_reducible refine Qaa f2 ?_ ?_ ?_);rfl;rfl))
 rw [e]at f2 ⊢;rw [if_pos rfl,Int.toNat_natCast];have hMv:=fun s=>Qrs W s hl;have hDc:=fun s=>Qrt p B (Qbm s W) g h hf (Nat.le_trans (Qke s W) hl);obtain⟨v,hw,hB,hN⟩:=Qed e;unfold pgV baPV at*

 refine Qab (tb:=[(102,[],[(7,1700)])]) 69 [.tmp 12,.tmp 13] [0,1,2,3,4,5,6,7,9,12,13,14,15,16,18,19,21,22,32,38,40,41,42,43,61] mixed Tryz.func16 rfl (by kernel_rfl) (by kernel_rfl) (by kernel_rfl) (by kernel_rfl) ?_;repeat (first|(simp -implicitDefEqProofs only [go_sem,seval,Bool.not_true,bl7,nb,n0_0])|((with_reducible refine Qbo f0 ?_ ?_ ?_ ?_);rfl;rfl;rfl)|((with_reducible refine Qaa f1 ?_ ?_ ?_);rfl;rfl)|((with_reducible refine Qaa f2 ?_ ?_ ?_);rfl;rfl))
 refine Qav mixed (fun i:{i:Nat // i≤n}=>St.of [(2,wsPV W),(6,.bp 0 3 0 0),(7,.bp 1 5 0 0),(9,.bp 2 2 0 0),(16,.bs 7 1 0 i.1),(40,.bs 1700 1 0 n),(41,.int .i64 (n:Int)),(42,.int .i64 (i.1:Int))] [(0,{els:=[.agg [.slc (p.ns.map PV.str),.slc (p.hs.map v3PV),.slc (p.as_.map acV)]],esz:=3,ety:=26,fro:=0,live:=true,arr:=false}),(1,{els:=[.agg [.int .i64 B.base,.int .i64 B.climb,.int .i64 B.drag,.int .i64 B.cap,.int .i64 B.res]],esz:=5,ety:=28,fro:=0,live:=true,arr:=false}),(2,{els:=[.agg [.int .i64 g,.int .i64 h]],esz:=2,ety:=31,fro:=0,live:=true,arr:=false}),(1700,iB1 (stpE st 100)),(7,weB (tabL W B p g h st i.1))]) (fun i=>n-i.1) ⟨0,Nat.zero_le _⟩ ?_ ?_
 ·refine Qiu 16 7 1 39 rfl rfl rfl (by decide) [(0,0),(1,1),(2,2),(1700,1700),(7,7)] rfl ?_ ?_
  ·simp [Qaf,lkp,ren1,ren0,Qai]
  ·exact⟨⟨rfl,rfl,rfl,rfl,rfl,.inr ⟨rfl,_,_,rfl,rfl,rfl,rfl⟩⟩,⟨rfl,rfl,rfl,rfl,rfl,.inr ⟨rfl,_,_,rfl,rfl,rfl,rfl⟩⟩,⟨rfl,rfl,rfl,rfl,rfl,.inr ⟨rfl,_,_,rfl,rfl,rfl,rfl⟩⟩,⟨rfl,rfl,rfl,rfl,rfl,.inl ⟨rfl,rfl⟩⟩,⟨rfl,rfl,rfl,rfl,rfl,.inl ⟨rfl,rfl⟩⟩,trivial⟩
 ·rintro⟨i,hi⟩;simp only;by_cases hA:i<n
  ·have hA':=ltT hA;have n0:=nnT i;have hwi:=Qam (a:=i) (by omega);obtain⟨r1,r2⟩:=Ql5 e1 (i:=i) (by omega);have hM:=hMv ((i:Int)*st);have hD:=hDc ((i:Int)*st);unfold mvPV at hM;rw [if_pos ⟨hw,r1,r2⟩]at hM;unfold Q7m decE at hD;rw [if_pos e0,Qy8 e r1,if_pos rfl]at hD;have hge:=Qy6 st (i:=i) (by omega);have hse:=Qi7 st (Nat.le_refl 100);have hts:=Q64 W B p g h st i;have htl:=Qi8 W B p g h st i;have hk1:=Qfd (tabL W B p g h st i);have hk2:((i+1)*8≤140737488355328)=True:=eq_true (by omega);have hk3:(i+1≤maxLen)=True:=eq_true (by unfold maxLen;omega);generalize decI (Qbm ((i:Int)*st) W) B p g h=d at*;generalize Qbm ((i:Int)*st) W=MW at*;generalize (i:Int)*st=s at*;generalize stpE st 100=SE at*;generalize hQ:tabL W B p g h st (i+1)=Q at*;generalize tabL W B p g h st i=T at*;repeat (first|(simp -implicitDefEqProofs only [go_sem,seval,hA',n0,hwi,hge,n0_0,htl,hk1,hk2,hk3,Int.toNat_natCast,List.length_map])|((with_reducible refine Qaa hM ?_ ?_ ?_);rfl;rfl)|((with_reducible refine Qaa hD ?_ ?_ ?_);rfl;rfl))
   refine⟨⟨i+1,hA⟩,by simp only;omega,?_⟩;refine Qan (θ:=[(0,0),(1,1),(2,2),(1700,1700),(7,1503)]) rfl ?_ ?_
   ·simp [Qaf,lkp,ren1,ren0,Qai]
   ·simp only [hQ,hts];refine⟨⟨rfl,rfl,rfl,rfl,rfl,.inr ⟨rfl,_,_,rfl,rfl,rfl,rfl⟩⟩,⟨rfl,rfl,rfl,rfl,rfl,.inr ⟨rfl,_,_,rfl,rfl,rfl,rfl⟩⟩,⟨rfl,rfl,rfl,rfl,rfl,.inr ⟨rfl,_,_,rfl,rfl,rfl,rfl⟩⟩,⟨rfl,rfl,rfl,rfl,rfl,.inl ⟨rfl,rfl⟩⟩,⟨rfl,rfl,rfl,rfl,rfl,.inl ⟨rfl,?_⟩⟩,trivial⟩;simp
  ·have hA':=ltF hA;obtain rfl:i=n:=by omega
   have ht:((tabL W B p g h st i).map (PV.int .i64)).take i=(tabL W B p g h st i).map (PV.int .i64):=List.take_of_length_le (by rw [List.length_map,Qi8];exact Nat.le_refl _);have hk1:=Qfd (tabL W B p g h st i);have htl:=Qi8 W B p g h st i;generalize tabL W B p g h st i=T at*;repeat (first|(simp -implicitDefEqProofs only [go_sem,seval,hA',ht,htl,List.length_map,Nat.le_refl,decide_true]))
def fz (xs:List Int):Nat→Int
 |0=> -1
 |d+1=>if xs.getD (xs.length-(d+1)) 1=0 then((xs.length-(d+1):Nat):Int)else fz xs d
theorem Q65 {xs:List Int} {k:Nat} (h:k<xs.length):fz xs (xs.length-k)=if xs.getD k 1=0 then(k:Int)else fz xs (xs.length-(k+1)):=by
 obtain⟨d,hd⟩: ∃d,xs.length-k=d+1:=⟨xs.length-k-1,by omega⟩;rw [hd,fz,show xs.length-(d+1)=k by omega,show xs.length-(k+1)=d by omega]
theorem Qrg (xs:List Int): ∀d,d≤xs.length→fz xs d= -1∨ ∃k:Nat,k<xs.length∧fz xs d=(k:Int)
 |0,_=> .inl rfl
 |d+1,h=>by
  unfold fz;split
  ·exact .inr ⟨_,by omega,rfl⟩
  ·exact Qrg xs d (by omega)
theorem Zq7 (xs:List Int) {i:Nat} (h:i<xs.length):(xs.map (PV.int .i64))[i]? =some (.int .i64 (xs.getD i 1)):=by
 rw [List.getElem?_map,List.getElem?_eq_getElem h,List.getD_eq_getElem?_getD,List.getElem?_eq_getElem h];rfl
set_option maxHeartbeats 4000000 in
theorem Zfg (xs:List Int) (hl:xs.length≤100000):Qae Tryz.prog 37 [.slc (xs.map (PV.int .i64)),.int .i64 0] (.int .i64 (fz xs xs.length)):=by
 refine Qab (tb:=[]) 19 [.tmp 4] [0,1,4,5,7,8,9,16] mixed Tryz.func37 rfl (by kernel_rfl) (by kernel_rfl) (by kernel_rfl) (by kernel_rfl) ?_;repeat (first|(simp -implicitDefEqProofs only [go_sem,seval,List.length_map]))
 refine Qav mixed (fun k:{k:Nat // k≤xs.length∧fz xs (xs.length-k)=fz xs xs.length}=>St.of [(0,.slc (xs.map (PV.int .i64))),(1,.int .i64 0),(7,.int .i64 (xs.length:Int)),(8,.int .i64 (k.1:Int))] []) (fun k=>xs.length-k.1) ⟨0,Nat.zero_le _,rfl⟩ ?_ ?_
 ·refine Qa1 ?_;simp [Qaf,lkp,ren1,ren0,Qai]
 ·rintro⟨k,hk,hz⟩;simp only;by_cases hA:k<xs.length
  ·have hA':=ltT hA;have n0:=nnT k;have hg:=Zq7 xs hA;have hwk:=Qam (a:=k) (by omega);have hs:=Q65 hA;by_cases h0:xs.getD k 1=0
   ·rw [if_pos h0]at hs;have h0':((0:Int)==xs.getD k 1)=true:=by rw [h0];rfl
    rw [←hz,hs];generalize xs.getD k 1=y at*;repeat (first|(simp -implicitDefEqProofs only [go_sem,seval,hA',n0,hg,h0',Int.toNat_natCast]))
   ·rw [if_neg h0]at hs;have h0':((0:Int)==xs.getD k 1)=false:=beq_eq_false_iff_ne.2 (fun q=>h0 q.symm);generalize xs.getD k 1=y at*;repeat (first|(simp -implicitDefEqProofs only [go_sem,seval,hA',n0,hg,h0',hwk,Int.toNat_natCast]))
    refine⟨⟨k+1,hA,by rw [←hs];exact hz⟩,by simp only;omega,?_⟩;refine Qa1 ?_;simp [Qaf,lkp,ren1,ren0,Qai]
  ·have hA':=ltF hA;obtain rfl:k=xs.length:=by omega
   rw [Nat.sub_self]at hz;rw [←hz,show fz xs 0= -1 from rfl];repeat (first|(simp -implicitDefEqProofs only [go_sem,seval,hA']))
def winI (W:List Wd) (B:Bat) (p:Pg) (g h st:Int) (n:Nat):Int:=fz (tabL W B p g h st n) n
def winE (W:List Wd) (B:Bat) (p:Pg) (g h st tr:Int):Int:=if tabE W B p g h st tr=0 then(if winI W B p g h st tr.toNat<0 then 9 else 0)else tabE W B p g h st tr
def winV (W:List Wd) (B:Bat) (p:Pg) (g h st tr:Int):Int:=if tabE W B p g h st tr=0 then(if winI W B p g h st tr.toNat<0 then 0 else winI W B p g h st tr.toNat*st)else 0
theorem Zxu (W:List Wd) (B:Bat) (p:Pg) (g h st tr:Int):tabE W B p g h st tr=0∨tabE W B p g h st tr=2∨tabE W B p g h st tr=9:=by
 unfold tabE;split
 ·exact Qnk p B W
 ·exact .inr (.inl rfl)
set_option maxHeartbeats 8000000 in
theorem Qrh (p:Pg) (B:Bat) (W:List Wd) (g h st tr:Int) (hf:FewP p) (hl:W.length≤maxLen):Qae Tryz.prog 17 [pgV p,baPV B,wsPV W,.agg [.int .i64 g,.int .i64 h],.int .i64 st,.int .i64 tr] (.tup [.int .i64 (winV W B p g h st tr),.int .i64 (winE W B p g h st tr)]):=by
 have f1:=Qrf p B W g h st tr hf hl;unfold Q1b at f1;unfold winV winE;rcases Zxu W B p g h st tr with e|e|e
 case inr.inl=>
  rw [e,if_neg (by decide)]at f1;rw [e,if_neg (by decide),if_neg (by decide)];unfold pgV baPV at*;refine Qab (tb:=[]) 40 [.tmp 12,.tmp 13] [0,1,2,3,4,5,6,7,9,12,13,14,15,16,28,33] mixed Tryz.func17 rfl (by kernel_rfl) (by kernel_rfl) (by kernel_rfl) (by kernel_rfl) ?_;repeat (first|(simp -implicitDefEqProofs only [go_sem,seval,n2_0])|((with_reducible refine Qaa f1 ?_ ?_ ?_);rfl;rfl))
 case inr.inr=>
  rw [e,if_neg (by decide)]at f1;rw [e,if_neg (by decide),if_neg (by decide)];unfold pgV baPV at*;refine Qab (tb:=[]) 40 [.tmp 12,.tmp 13] [0,1,2,3,4,5,6,7,9,12,13,14,15,16,28,33] mixed Tryz.func17 rfl (by kernel_rfl) (by kernel_rfl) (by kernel_rfl) (by kernel_rfl) ?_;repeat (first|(simp -implicitDefEqProofs only [go_sem,seval,n9_0])|((with_reducible refine Qaa f1 ?_ ?_ ?_);rfl;rfl))
 rw [e,if_pos rfl]at f1;rw [e,if_pos rfl,if_pos rfl];have hst:staB st tr=true:=by
  cases q:staB st tr with
  |true=>rfl
  |false=>
   exfalso;unfold tabE at e;rw [if_neg (fun w=>by rw [q]at w;exact Bool.false_ne_true w.2)]at e;exact absurd e (by decide)
 obtain⟨s1,s2,s3,s4,s5⟩:=Qgw hst;obtain⟨n,rfl⟩: ∃n:Nat,tr=(n:Int):=⟨tr.toNat,by omega⟩;rw [Int.toNat_natCast]at f1 ⊢;have hlen:=Qi8 W B p g h st n;have f2:=Zfg (tabL W B p g h st n) (by omega);have f3:=Qt5 st n hst;have hc:=Qrg (tabL W B p g h st n) n (by omega);rw [hlen]at f2 hc;unfold winI;generalize fz (tabL W B p g h st n) n=i at*;generalize tabL W B p g h st n=T at*;unfold pgV baPV at*;rcases hc with rfl|⟨k,hk,rfl⟩
 ·rw [if_pos (by decide),if_pos (by decide)];refine Qab (tb:=[]) 40 [.tmp 12,.tmp 13] [0,1,2,3,4,5,6,7,9,12,13,14,15,16,28,33] mixed Tryz.func17 rfl (by kernel_rfl) (by kernel_rfl) (by kernel_rfl) (by kernel_rfl) ?_;repeat (first|(simp -implicitDefEqProofs only [go_sem,seval,n0_0])|((with_reducible refine Qaa f1 ?_ ?_ ?_);rfl;rfl)|((with_reducible refine Qaa f2 ?_ ?_ ?_);rfl;rfl))
 ·rw [if_neg (by omega),if_neg (by omega)];have hlt:((k:Int)<0)=False:=eq_false (by omega);have hA':=ltT hk;have n0:=nnT k;have hge:=Qy6 st (i:=k) (by omega);have hse:=Qi7 st (Nat.le_refl 100);have hr1:(n≤100)=True:=eq_true (by omega);have bl7:Nat.blt 1700 1000000=true:=rfl;generalize stpE st 100=SE at*

  refine Qab (tb:=[(702,[],[(7,1700)])]) 40 [.tmp 12,.tmp 13] [0,1,2,3,4,5,6,7,9,12,13,14,15,16,28,33] mixed Tryz.func17 rfl (by kernel_rfl) (by kernel_rfl) (by kernel_rfl) (by kernel_rfl) ?_;repeat (first|(simp -implicitDefEqProofs only [go_sem,seval,n0_0,hlt,hA',n0,hge,bl7,Int.toNat_natCast])|((with_reducible refine Qaa f1 ?_ ?_ ?_);rfl;rfl)|((with_reducible refine Qaa f2 ?_ ?_ ?_);rfl;rfl)|((with_reducible refine Qbo f3 ?_ ?_ ?_ ?_);rfl;rfl;rfl))
theorem Z1i:Qcl Tryz.prog 71=some [1,1,1,1,1,1,1,1,1,1,1]:=by kernel_rfl
set_option maxHeartbeats 4000000 in
theorem Q66 (l:List Wd) (hl:l.length≤100000):Qae Tryz.prog 12 [wsPV l,wsPV l] (.bool true):=by
 refine Qab (tb:=[]) 26 [.tmp 4] [0,1,4,5,10,14,25] mixed Tryz.func12 rfl (by kernel_rfl) (by kernel_rfl) (by kernel_rfl) (by kernel_rfl) ?_;repeat (first|(simp -implicitDefEqProofs only [go_sem,seval,List.length_map,bne_self_eq_false]))
 refine Qav mixed (fun k:{k:Nat // k≤l.length}=>St.of [(0,wsPV l),(1,wsPV l),(5,.int .i64 (k.1:Int))] []) (fun k=>l.length-k.1) ⟨0,Nat.zero_le _⟩ ?_ ?_
 ·refine Qa1 ?_;simp [Qaf,lkp,ren1,ren0,Qai]
 ·rintro⟨k,hk⟩;simp only;by_cases hA:k<l.length
  ·have hA':=ltT hA;have n0:=nnT k;have hg:=Qk0 l k hA;have hwk:=Qam (a:=k) (by omega);generalize l[k]=w at*;repeat (first|(simp -implicitDefEqProofs only [go_sem,seval,Z1i,hA',n0,hg,hwk,Qat,BEq.rfl,Bool.not_true,Int.toNat_natCast,List.length_map])|(with_reducible refine And.intro (Qac _ _ (by kernel_rfl)) ?_))
   refine⟨⟨k+1,hA⟩,by simp only;omega,?_⟩;refine Qa1 ?_;simp [Qaf,lkp,ren1,ren0,Qai]
  ·have hA':=ltF hA;repeat (first|(simp -implicitDefEqProofs only [go_sem,seval,hA',List.length_map]))
theorem max0 (x:Int) (h:x<0):max 0 x=0:=by omega
theorem max1 (x:Int) (h: ¬x<0):max 0 x=x:=by omega
set_option maxHeartbeats 8000000 in
theorem Qy9 (l:List Wd) (s:Int) (hv:Qa9 l=true) (h0:0≤s) (h1:s≤3600000):Qae Tryz.prog 21 [wsPV l,.int .i64 s] (wsPV (Qbm s l)):=by
 obtain⟨hvw,h8⟩:=Qb9 hv;refine Qab (tb:=[]) 41 [.tmp 4] [0,1,4,5,6,7,11,21,34] mixed Tryz.func21 rfl (by kernel_rfl) (by kernel_rfl) (by kernel_rfl) (by kernel_rfl) ?_;repeat (first|(simp -implicitDefEqProofs only [go_sem,seval]))
 refine Qav mixed (fun j:{j:Nat // j≤l.length}=>St.of [(0,wsPV l),(1,.int .i64 s),(5,.bs 7 11 0 (Qbm s (l.take j.1)).length),(6,.int .i64 (j.1:Int))] [(7,wdB (Qbm s (l.take j.1)))]) (fun j=>l.length-j.1) ⟨0,Nat.zero_le _⟩ ?_ ?_
 ·rw [List.take_zero,show Qbm s []=[]from rfl];refine Qiu 5 7 11 71 rfl rfl rfl (by decide) [(7,7)] rfl ?_ ?_
  ·simp [Qaf,lkp,ren1,ren0,Qai]
  ·exact⟨⟨rfl,rfl,rfl,rfl,rfl,.inl ⟨rfl,rfl⟩⟩,trivial⟩
 ·rintro⟨j,hj⟩;simp only;by_cases hA:j<l.length
  ·have hA':=ltT hA;have n0:=nnT j;have hg:=Qk0 l j hA;have hw:=Qfj (hvw _ (List.getElem_mem hA));have hwj:=Qam (a:=j) (by omega);have hsn:=Qv6 (s:=s) hA;have hle:(Qbm s (l.take j)).length≤8:=Nat.le_trans (Qke s _) (by rw [List.length_take];omega);have w1:IntKind.i64.wrap (l[j].f-s)=l[j].f-s:=Qag (by omega) (by omega);have w2:IntKind.i64.wrap (l[j].t-s)=l[j].t-s:=Qag (by omega) (by omega);have hk1:=Qt4 (Qbm s (l.take j));have hk2:(((Qbm s (l.take j)).length+1)*88≤140737488355328)=True:=eq_true (by omega);have hk3:((Qbm s (l.take j)).length+1≤maxLen)=True:=eq_true (by unfold maxLen;omega);by_cases hq:s<l[j].t
   ·have hq':(l[j].t≤s)=False:=eq_false (by omega);rw [if_pos hq]at hsn;have hq2:(Qbm s (l.take (j+1))).length=(Qbm s (l.take j)).length+1:=by rw [hsn,List.length_append];rfl
    unfold mvW at hsn;generalize hQ:Qbm s (l.take (j+1))=Q at*;generalize Qbm s (l.take j)=T at*;generalize l[j]=w at*;by_cases hz:w.f-s<0
    ·have hz':=eq_true hz;rw [max0 _ hz]at hsn;repeat (first|(simp -implicitDefEqProofs only [go_sem,seval,hA',n0,hg,hq',hz',w1,w2,hwj,hk1,hk2,hk3,Int.toNat_natCast,List.length_map]))
     refine⟨⟨j+1,hA⟩,by simp only;omega,?_⟩;refine Qan (θ:=[(7,1103)]) rfl ?_ ?_
     ·simp only [hQ,hq2];simp [Qaf,lkp,ren1,ren0,Qai]
     ·simp only [hQ];subst hsn;refine⟨⟨rfl,rfl,rfl,rfl,rfl,.inl ⟨rfl,?_⟩⟩,trivial⟩;simp [wdPV]
    ·have hz':=eq_false hz;rw [max1 _ hz]at hsn;repeat (first|(simp -implicitDefEqProofs only [go_sem,seval,hA',n0,hg,hq',hz',w1,w2,hwj,hk1,hk2,hk3,Int.toNat_natCast,List.length_map]))
     refine⟨⟨j+1,hA⟩,by simp only;omega,?_⟩;refine Qan (θ:=[(7,1103)]) rfl ?_ ?_
     ·simp only [hQ,hq2];simp [Qaf,lkp,ren1,ren0,Qai]
     ·simp only [hQ];subst hsn;refine⟨⟨rfl,rfl,rfl,rfl,rfl,.inl ⟨rfl,?_⟩⟩,trivial⟩;simp [wdPV]
   ·have hq':(l[j].t≤s)=True:=eq_true (by omega);rw [if_neg hq,List.append_nil]at hsn;generalize hQ:Qbm s (l.take (j+1))=Q at*;generalize Qbm s (l.take j)=T at*;generalize l[j]=w at*;repeat (first|(simp -implicitDefEqProofs only [go_sem,seval,hA',n0,hg,hq',hwj,Int.toNat_natCast,List.length_map]))
    refine⟨⟨j+1,hA⟩,by simp only;omega,?_⟩;simp only [hQ,hsn];refine Qan (θ:=[(7,7)]) rfl ?_ ?_
    ·simp [Qaf,lkp,ren1,ren0,Qai]
    ·exact⟨⟨rfl,rfl,rfl,rfl,rfl,.inl ⟨rfl,rfl⟩⟩,trivial⟩
  ·have hA':=ltF hA;obtain rfl:j=l.length:=by omega
   rw [List.take_length];have ht:((Qbm s l).map wdPV).take (Qbm s l).length=(Qbm s l).map wdPV:=List.take_of_length_le (by simp);have hk1:=Qt4 (Qbm s l);generalize Qbm s l=T at*;repeat (first|(simp -implicitDefEqProofs only [go_sem,seval,hA',ht,List.length_map,Nat.le_refl,decide_true]))
def exW:Pg:=⟨[⟨#[97]⟩],[⟨0,0,0⟩],[⟨⟨#[117,112]⟩,2000,[⟨⟨0,0,500⟩,0,1000,0⟩]⟩]⟩
def exL:List Wd:=[⟨-1048576, -1048576, -1048576,1048576,1048576,1048576,0,5000,300,400,0⟩]
theorem Zq8:FewQ exW:=by decide+kernel
theorem Qri:Qck exW bat0 exL=0:=by decide+kernel
theorem Zxv:Qbm 4000 exL=[⟨-1048576, -1048576, -1048576,1048576,1048576,1048576,0,1000,300,400,0⟩]:=by decide+kernel
theorem Zxw:Qbm 5000 exL=[]:=by decide+kernel
theorem Q67:wstI exL exW=250000:=by decide+kernel
theorem Zxx:decI exL bat0 exW 400 500=1:=by decide+kernel
theorem Zxy:decI exL bat0 exW 500 500=0:=by decide+kernel
theorem Zxz:decI exL bat0 exW 400 499=2:=by decide+kernel
theorem Zx0:tabL exL bat0 exW 400 500 2500 3=[1,1,0]:=by decide+kernel
theorem Q1c:Qae Tryz.prog 27 [] (.tup [pgV exW,wsPV exL]):=by
 refine Qab (tb:=[]) 28 [.cell 0 26,.tmp 1] [0,1,2,3] mixed Tryz.func27 rfl (by kernel_rfl) (by kernel_rfl) (by kernel_rfl) (by kernel_rfl) ?_;repeat (first|(simp -implicitDefEqProofs only [go_sem,seval]))
 rfl
theorem T_zr:Qau Tryz.prog 31=some (.agg [.int .i64 0,.int .i64 0]):=by kernel_rfl
theorem Z1j:Qau Tryz.prog 28=some (.agg [.int .i64 0,.int .i64 0,.int .i64 0,.int .i64 0,.int .i64 0]):=by kernel_rfl
theorem Ql6:FewP exW:=Qrn Zq8
theorem Qkf:exL.length≤maxLen:=by decide
theorem Zx1:Qae Tryz.prog 11 [wsPV exL,.int .i64 4000] (.tup [.slc [.agg [.int .i64 (-1048576),.int .i64 (-1048576),.int .i64 (-1048576),.int .i64 1048576,.int .i64 1048576,.int .i64 1048576,.int .i64 0,.int .i64 1000,.int .i64 300,.int .i64 400,.int .i64 0]],.int .i64 0]):=by
 have h:=Qrs exL 4000 Qkf;unfold mvPV at h;rw [if_pos (by decide+kernel),Zxv]at h;exact h
theorem Zx2:Qae Tryz.prog 11 [wsPV exL,.int .i64 5000] (.tup [.slc [],.int .i64 0]):=by
 have h:=Qrs exL 5000 Qkf;unfold mvPV at h;rw [if_pos (by decide+kernel),Zxw]at h;exact h
theorem Zx3:Qae Tryz.prog 14 [pgV exW,wsPV exL] (.tup [.int .i64 250000,.int .i64 0]):=by
 have h:=Qwf exW exL Ql6 Qkf;unfold Q7j at h;rw [Qri,if_pos rfl,Q67]at h;exact h
theorem Q68 {g h v:Int} (e0:rulB g h=true) (e:decI exL bat0 exW g h=v):Qae Tryz.prog 13 [pgV exW,.agg [.int .i64 0,.int .i64 0,.int .i64 0,.int .i64 0,.int .i64 0],wsPV exL,.agg [.int .i64 g,.int .i64 h]] (.tup [.int .i64 v,.int .i64 0]):=by
 have h1:=Qrt exW bat0 exL g h Ql6 Qkf;unfold Q7m decE at h1;rw [if_pos e0,Qri,if_pos rfl,e]at h1;exact h1
theorem Qza:tabE exL bat0 exW 400 500 2500 3=0:=by
 unfold tabE;rw [if_pos (by decide+kernel),Qri]
theorem Zx4:Qae Tryz.prog 16 [pgV exW,.agg [.int .i64 0,.int .i64 0,.int .i64 0,.int .i64 0,.int .i64 0],wsPV exL,.agg [.int .i64 400,.int .i64 500],.int .i64 2500,.int .i64 3] (.tup [.slc [.int .i64 1,.int .i64 1,.int .i64 0],.int .i64 0]):=by
 have h:=Qrf exW bat0 exL 400 500 2500 3 Ql6 Qkf;unfold Q1b at h;rw [Qza,if_pos rfl,show Int.toNat 3=3 from rfl,Zx0]at h;exact h
theorem Zx5:Qae Tryz.prog 17 [pgV exW,.agg [.int .i64 0,.int .i64 0,.int .i64 0,.int .i64 0,.int .i64 0],wsPV exL,.agg [.int .i64 400,.int .i64 500],.int .i64 2500,.int .i64 3] (.tup [.int .i64 5000,.int .i64 0]):=by
 have h:=Qrh exW bat0 exL 400 500 2500 3 Ql6 Qkf;unfold winV winE winI at h;rw [Qza,if_pos rfl,if_pos rfl,show Int.toNat 3=3 from rfl,Zx0]at h;exact h
set_option maxRecDepth 100000 in
set_option maxHeartbeats 4000000 in
theorem Qfz:Qae Tryz.prog 10 [] (.bool true):=by
 have hx:=Q1c;have k1:=Zx1;have k2:=Zx2;have k3:=Zx3;have k4:=Q68 (g:=400) (h:=500) (by decide) Zxx;have k5:=Q68 (g:=500) (h:=500) (by decide) Zxy;have k6:=Q68 (g:=400) (h:=499) (by decide) Zxz;have k7:=Zx4;have k8:=Zx5;unfold pgV at*;generalize exW.ns.map PV.str=A at*;generalize exW.hs.map v3PV=B at*;generalize exW.as_.map acV=C at*;generalize exL.map wdPV=L at*;have c0:((0:Nat):Int)=0:=rfl;have c1:((1:Nat):Int)=1:=rfl;have c3:((3:Nat):Int)=3:=rfl;refine Qab (tb:=[]) 173 [.tmp 0] [0,1,2,3,4,5,6,7,8,9,10,11,12,13,14,15,16,74] mixed Tryz.func10 rfl (by kernel_rfl) (by kernel_rfl) (by kernel_rfl) (by kernel_rfl) ?_;repeat (first|(simp -implicitDefEqProofs only [go_sem,seval,T_zr,Z1j,c0,c1,c3,decide_true,bne_self_eq_false,BEq.rfl,Bool.and_self,Bool.true_and,Bool.and_true,List.length_cons,List.length_nil])|((with_reducible refine Qaa hx ?_ ?_ ?_);rfl;rfl)|((with_reducible refine Qaa k1 ?_ ?_ ?_);rfl;rfl)|((with_reducible refine Qaa k2 ?_ ?_ ?_);rfl;rfl)|((with_reducible refine Qaa k3 ?_ ?_ ?_);rfl;rfl)|((with_reducible refine Qaa k4 ?_ ?_ ?_);rfl;rfl)|((with_reducible refine Qaa k5 ?_ ?_ ?_);rfl;rfl)|((with_reducible refine Qaa k6 ?_ ?_ ?_);rfl;rfl)|((with_reducible refine Qaa k7 ?_ ?_ ?_);rfl;rfl)|((with_reducible refine Qaa k8 ?_ ?_ ?_);rfl;rfl))
end Go.Proofs.YtdpajapkhembcaaGreatDoor
