/-
  OE17, OE18, OE19, OE20, OE21, OE22, Day, OE24 (merged for the claim).
-/
import Derived.Test.YtnohfmdlaajpbaaGreatDax
import Derived.Test.YtnohfmdlaajpbaaGreatRows
import Derived.Test.YtnohfmdlaajpbaaGreatUV
import Derived.Test.YtnohfmdlaajpbaaGreatDgm
set_option linter.unusedSimpArgs false
set_option linter.unusedVariables false
namespace Go.Proofs.YtnohfmdlaajpbaaGreat
open Go.Vl Go.RowKit Go.Dg
theorem Q39 (p:Pg) (s:Int) (hs:0≤s∧s≤3600000) (L:List Rc) (hL: ∀k,k<L.length→recB (L.getD k rc0)=true): ∀i,i≤L.length→okD (dvs p s L i)
 |0,_,d,hd=>by cases hd
 |i+1,hi,d,hd=>by
  have hf:=hL i (by omega);have hd':d∈dvs p s L i++dv1 p.ns.length s (sqR p s) i (L.getD i rc0):=hd;rcases List.mem_append.1 hd' with h|h
  ·exact Q39 p s hs L hL i (by omega) d h
  ·unfold dv1 at h;split at h
   ·rename_i hp;simp only [List.mem_singleton]at h;subst h;have ht:=Qcy hf;simp only [isP,Bool.and_eq_true,decide_eq_true_eq]at hp;have hpt:ptB (L.getD i rc0).v=true:=by rcases ht.2.2 with q|q|q<;>first|exact q.2.1|omega
    have hq:=Zv7 (Qxh (Qbc p ((L.getD i rc0).a-1).toNat p.as_.length) (min (max ((L.getD i rc0).t-s) 0) (begT p p.as_.length))) hpt;simp only;refine⟨by omega,?_⟩;unfold sqR;exact hq
   ·cases h
theorem Qon (D:List Dv) (i:Nat) (h:i<D.length):(D.map dvV)[i]? =some (.agg [.int .i64 (D.getD i dv0).i,.int .i64 (D.getD i dv0).a,.int .i64 (D.getD i dv0).t,.int .i64 (D.getD i dv0).q]):=by
 rw [List.getElem?_map,List.getElem?_eq_getElem h,List.getD_eq_getElem?_getD,List.getElem?_eq_getElem h];rfl
abbrev prP (p:Pg):PV:= .rp [.slc (p.ns.map PV.str),.slc (p.hs.map v3PV),.slc (p.as_.map acV)]
abbrev fnL (F:List Go.Dg.Fd):List (Nat×Box):=[(800,ouB 7 F.length),(901,adB 800),(7,fdB F)]
theorem Qun (F:List Go.Dg.Fd) (k a i t:Int) (hl:F.length≤1000000):Qbq Tryz.prog 48 [.int .i64 k,.int .i64 a,.int .i64 i,.int .i64 t,.bp 1000000 1 0 0] [(1000000,ouB 1000001 F.length),(1000001,fdB F)] (.tup []) [(1000000,ouB 9 (F++[(⟨k,a,i,t⟩:Go.Dg.Fd)]).length),(1000001,fdD),(9,fdB (F++[(⟨k,a,i,t⟩:Go.Dg.Fd)]))]:=by
 rw [show(F++[(⟨k,a,i,t⟩:Go.Dg.Fd)]).length=F.length+1 by simp];exact Zm3 F k a i t hl
noncomputable def fndC:Code:=(Tryz.f23.body).getD .skip
abbrev fnV (p:Pg) (L:List Rc) (s tol gap len:Int) (D:List Dv) (n:Int):List (Nat×PV):=[(1,lgR L),(6,.rp [.int .i64 s]),(7,.rp [.int .i64 tol,.int .i64 gap]),(11,.bp 800 1 0 0),(12,.bp 901 1 0 0),(15,.int .i64 len),(17,.slc (D.map dvV)),(74,.int .i64 (p.ns.length:Int)),(75,.int .i64 n)]
abbrev fnT:Tab:=[(2606,[(1000000,800),(1000001,7)],[(9,9)]),(3002,[(1000000,800),(1000001,7)],[(9,9)]),(3204,[(1000000,800),(1000001,7)],[(9,9)]),(3706,[(1000000,800),(1000001,7)],[(9,9)]),(3903,[(1000000,901),(1000001,800),(1000002,7)],[(9,9)])]
set_option maxHeartbeats 16000000 in
set_option maxRecDepth 100000 in
theorem Qp1 (p:Pg) (hf:FewP p) (v:Qbd p=true) (hN:p.as_.length≠0) (s:Int) (hs:0≤s∧s≤3600000) (tol gap:Int) (ht:0≤tol∧tol≤1000000) (hg:1≤gap∧gap≤3600000) (L:List Rc) (hl:L.length≤1000) (hL: ∀k,k<L.length→recB (L.getD k rc0)=true) (U:List Go.Dg.Fd) (hU:U.length≤L.length):
  Vgo Tryz.prog 164 (codes ((Qk3 fndC).drop 6) []) (vret Tryz.prog [.tmp 8,.tmp 9] (· = .tup [.slc ((U++ofTo gap tol s (begT p p.as_.length) (dvs p s L L.length) L p.ns.length).map fdV),.int .i64 0])) (St.of [(1,lgR L),(4,prP p),(6,.rp [.int .i64 s]),(7,.rp [.int .i64 tol,.int .i64 gap]),(11,.bp 800 1 0 0),(12,.bp 901 1 0 0)] (fnL U)):=by
 skip
 have hPr:=Qlf p (Qia hf) v;have hDv:=Q38 p hf v hN s hs L (by omega) hL;have hbt:=Qej v (k:=p.as_.length) (Nat.le_refl _);have hDl:(dvs p s L L.length).length≤L.length:=Qfa p.ns.length s (sqR p s) L L.length;have hDo:=Q39 p s hs L hL L.length (Nat.le_refl _);have hSt:=fun(n:Nat) (hn:n<p.ns.length) (F:List Go.Dg.Fd) (hF:F.length≤100000)=>Qxg L (n:Int) s F (by omega) hL (by have:=hf.1;omega) hs hF;have hN5:=hf.1;generalize hDD:dvs p s L L.length=D at*;have hol:=Qpf gap tol s (begT p p.as_.length) D L;have bl9':Nat.blt 9 1000000=true:=rfl;have ble7:Nat.ble 1000000 1000002=true:=rfl;unfold pgV at hPr hDv;have hll:=Qrn;have htq:IntKind.i64.wrap (tol*tol)=tol*tol:=by
  have h1:0≤tol*tol:=Int.mul_nonneg ht.1 ht.1;have h2:tol*tol≤1000000*1000000:=Int.mul_le_mul ht.2 ht.2 ht.1 (by decide);exact Qag (by omega) (by omega)
 generalize begT p p.as_.length=len at*;refine v_go (tb:=fnT) (ks:=[0,1,2,3,4,6,7,8,9,10,11,12,13,14,15,17,18,19,20,21,23,25,31,33,37,44,45,46,52,74,75,76,78,79,80,81,94,101,115,124,130,131,132,133,149]) mixed ?_;dsimp only [fndC,Tryz.f23,Option.getD_some];simp only [codes,Qk3,List.take_succ_cons,List.take_zero,List.drop_succ_cons,List.drop_zero,List.foldr_cons,List.foldr_nil];repeat (first|simp -implicitDefEqProofs only [go_sem,seval,lgR,List.length_map]|(with_reducible refine Qaa hPr ?_ ?_ ?_);rfl;rfl|(with_reducible refine Qaa hDv ?_ ?_ ?_);rfl;rfl)
 refine Qav mixed (fun n:{n:Nat // n≤p.ns.length}=>St.of (fnV p L s tol gap len D (n.1:Int)) (fnL (U++ofTo gap tol s len D L n.1))) (fun n=>p.ns.length-n.1) ⟨0,Nat.zero_le _⟩ ?_ ?_
 ·have e0:ofTo gap tol s len D L 0=[]:=rfl;simp only [e0,List.append_nil];refine Qaj (θ:=[(800,800),(901,901),(7,7)]) rfl ?_ ?_
  ·simp [Qac,lkp,ren1,ren0,Qah]
  ·exact⟨⟨rfl,rfl,rfl,rfl,rfl,.inr ⟨rfl,_,_,rfl,rfl,rfl,rfl⟩⟩,⟨rfl,rfl,rfl,rfl,rfl,.inr ⟨rfl,_,_,rfl,rfl,rfl,rfl⟩⟩,⟨rfl,rfl,rfl,rfl,rfl,.inl ⟨rfl,rfl⟩⟩,trivial⟩
 ·rintro⟨n,hn⟩;simp only;by_cases hA:n<p.ns.length
  ·have hA':=ltE hA;have n0:=nnE n;have hwn:=wrE (n:=n) (by omega);have hGl:(U++ofTo gap tol s len D L n).length≤20000:=by
    have:=hol n;rw [List.length_append];have h5:n*(2*D.length+L.length+1)≤5*(2*D.length+L.length+1):=Nat.mul_le_mul_right _ (by omega);generalize n*(2*D.length+L.length+1)=X at*;omega
   have hst:U++ofTo gap tol s len D L (n+1)=U++ofTo gap tol s len D L n++ofN gap tol s len D L (n:Int):=by rw [List.append_assoc];rfl
   unfold ofN at hst;generalize U++ofTo gap tol s len D L n=G at*;repeat simp -implicitDefEqProofs only [go_sem,seval,hA',List.length_map]
   refine Qav mixed (fun i:{i:Nat // i≤D.length}=>St.of ([(18,.bp 1901 1 0 0),(19,.int .i64 (gapA gap (n:Int) len D i.1).last),(20,.int .i64 (gapA gap (n:Int) len D i.1).rec_),(21,.bool (gapA gap (n:Int) len D i.1).found),(78,.slc (D.map dvV)),(79,.int .i64 (D.length:Int)),(80,.int .i64 (i.1:Int))]++fnV p L s tol gap len D (n:Int)) ([(1901,stB (n:Int))]++fnL (G++(gapA gap (n:Int) len D i.1).out))) (fun i=>D.length-i.1) ⟨0,Nat.zero_le _⟩ ?_ ?_
   ·have e0:gapA gap (n:Int) len D 0=⟨0,0,false,[]⟩:=rfl;simp only [e0,List.append_nil];refine Qaj (θ:=[(1901,1901),(800,800),(901,901),(7,7)]) rfl ?_ ?_
    ·simp [Qac,lkp,ren1,ren0,Qah]
    ·exact⟨⟨rfl,rfl,rfl,rfl,rfl,.inr ⟨rfl,_,_,rfl,rfl,rfl,rfl⟩⟩,⟨rfl,rfl,rfl,rfl,rfl,.inr ⟨rfl,_,_,rfl,rfl,rfl,rfl⟩⟩,⟨rfl,rfl,rfl,rfl,rfl,.inr ⟨rfl,_,_,rfl,rfl,rfl,rfl⟩⟩,⟨rfl,rfl,rfl,rfl,rfl,.inl ⟨rfl,rfl⟩⟩,trivial⟩
   ·rintro⟨i,hi⟩;simp only;have hln:=Qpe gap (n:Int) len D i;have hla:=hll gap (n:Int) len D (by omega) i;by_cases hB:i<D.length
    ·have hB':=ltE hB;have i0:=nnE i;have hwi:=wrE (n:=i) (by omega);have hgd:=Qon D i hB;have hdo:=Zny hDo hB;have hsg:gapA gap (n:Int) len D (i+1)=if inD (n:Int) len (D.getD i dv0)=true then⟨(D.getD i dv0).t,(D.getD i dv0).i,true,if gap<(D.getD i dv0).t-(gapA gap (n:Int) len D i).last then(gapA gap (n:Int) len D i).out++[⟨3,(n:Int),(D.getD i dv0).i,(D.getD i dv0).t⟩]else(gapA gap (n:Int) len D i).out⟩else gapA gap (n:Int) len D i:=rfl;unfold inD at hsg;have hwb:=Q32 (D.getD i dv0).t 0 len;generalize D.getD i dv0=d at*;generalize gapA gap (n:Int) len D i=g at*;have htw:IntKind.i64.wrap (d.t-g.last)=d.t-g.last:=Qag (by omega) (by omega);cases hda:(d.a==(n:Int))with
     |false=>
      have hda':(d.a != (n:Int))=true:=by simp [bne,hda]
      rw [bq,hda,Bool.false_and,if_neg (by decide)]at hsg;repeat simp -implicitDefEqProofs only [go_sem,seval,hB',i0,hgd,hda',hwi,Int.toNat_natCast,List.length_map]
      refine⟨⟨i+1,hB⟩,by simp only;omega,?_⟩;simp only [hsg];refine Qaj (θ:=[(1901,1901),(800,800),(901,901),(7,7)]) rfl ?_ ?_
      ·simp [Qac,lkp,ren1,ren0,Qah]
      ·exact⟨⟨rfl,rfl,rfl,rfl,rfl,.inr ⟨rfl,_,_,rfl,rfl,rfl,rfl⟩⟩,⟨rfl,rfl,rfl,rfl,rfl,.inr ⟨rfl,_,_,rfl,rfl,rfl,rfl⟩⟩,⟨rfl,rfl,rfl,rfl,rfl,.inr ⟨rfl,_,_,rfl,rfl,rfl,rfl⟩⟩,⟨rfl,rfl,rfl,rfl,rfl,.inl ⟨rfl,rfl⟩⟩,trivial⟩
     |true=>
     have hda':(d.a != (n:Int))=false:=by simp [bne,hda]
     rw [bq,hda,Bool.true_and]at hsg;cases hwt:wiB d.t 0 len with
     |false=>
      rw [hwt]at hwb;rw [hwt,if_neg (by decide)]at hsg;repeat (first|simp -implicitDefEqProofs only [go_sem,seval,hB',i0,hgd,hda',hwi,Bool.not_false,Int.toNat_natCast,List.length_map]|(with_reducible refine Qaa hwb ?_ ?_ ?_);rfl;rfl)
      refine⟨⟨i+1,hB⟩,by simp only;omega,?_⟩;simp only [hsg];refine Qaj (θ:=[(1901,1901),(800,800),(901,901),(7,7)]) rfl ?_ ?_
      ·simp [Qac,lkp,ren1,ren0,Qah]
      ·exact⟨⟨rfl,rfl,rfl,rfl,rfl,.inr ⟨rfl,_,_,rfl,rfl,rfl,rfl⟩⟩,⟨rfl,rfl,rfl,rfl,rfl,.inr ⟨rfl,_,_,rfl,rfl,rfl,rfl⟩⟩,⟨rfl,rfl,rfl,rfl,rfl,.inr ⟨rfl,_,_,rfl,rfl,rfl,rfl⟩⟩,⟨rfl,rfl,rfl,rfl,rfl,.inl ⟨rfl,rfl⟩⟩,trivial⟩
     |true=>
     rw [hwt]at hwb;rw [hwt,if_pos rfl]at hsg;by_cases hgp:gap<d.t-g.last
     ·have hgp':=eq_true hgp;rw [if_pos hgp]at hsg;have hadd:=Qun (G++g.out) 3 (n:Int) d.i d.t (by rw [List.length_append];omega);rw [List.append_assoc]at hadd;generalize g.out++[(⟨3,(n:Int),d.i,d.t⟩:Go.Dg.Fd)]=go2 at*;repeat (first|simp -implicitDefEqProofs only [go_sem,seval,hB',i0,hgd,hda',hwi,htw,hgp',bl13,bl14,bl9',Bool.not_true,Int.toNat_natCast]|(with_reducible refine Qaa hwb ?_ ?_ ?_);rfl;rfl|(with_reducible refine Qan hadd ?_ ?_ ?_ ?_);rfl;rfl;rfl|(with_reducible refine And.intro (Qae _ _ (by kernel_rfl)) ?_))
      refine⟨⟨i+1,hB⟩,by simp only;omega,?_⟩;simp only [hsg];refine Qaj (θ:=[(1901,1901),(800,800),(901,901),(7,9)]) rfl ?_ ?_
      ·simp [Qac,lkp,ren1,ren0,Qah]
      ·exact⟨⟨rfl,rfl,rfl,rfl,rfl,.inr ⟨rfl,_,_,rfl,rfl,rfl,rfl⟩⟩,⟨rfl,rfl,rfl,rfl,rfl,.inr ⟨rfl,_,_,rfl,rfl,rfl,rfl⟩⟩,⟨rfl,rfl,rfl,rfl,rfl,.inr ⟨rfl,_,_,rfl,rfl,rfl,rfl⟩⟩,⟨rfl,rfl,rfl,rfl,rfl,.inl ⟨rfl,rfl⟩⟩,trivial⟩
     ·have hgp':=eq_false hgp;rw [if_neg hgp]at hsg;repeat (first|simp -implicitDefEqProofs only [go_sem,seval,hB',i0,hgd,hda',hwi,htw,hgp',Bool.not_true,Int.toNat_natCast]|(with_reducible refine Qaa hwb ?_ ?_ ?_);rfl;rfl|(with_reducible refine And.intro (Qae _ _ (by kernel_rfl)) ?_))
      refine⟨⟨i+1,hB⟩,by simp only;omega,?_⟩;simp only [hsg];refine Qaj (θ:=[(1901,1901),(800,800),(901,901),(7,7)]) rfl ?_ ?_
      ·simp [Qac,lkp,ren1,ren0,Qah]
      ·exact⟨⟨rfl,rfl,rfl,rfl,rfl,.inr ⟨rfl,_,_,rfl,rfl,rfl,rfl⟩⟩,⟨rfl,rfl,rfl,rfl,rfl,.inr ⟨rfl,_,_,rfl,rfl,rfl,rfl⟩⟩,⟨rfl,rfl,rfl,rfl,rfl,.inr ⟨rfl,_,_,rfl,rfl,rfl,rfl⟩⟩,⟨rfl,rfl,rfl,rfl,rfl,.inl ⟨rfl,rfl⟩⟩,trivial⟩
    ·have hB':=ltE' hB;obtain rfl:i=D.length:=by omega
     unfold Q2p at hst;generalize gapA gap (n:Int) len D D.length=g at*;have htw:IntKind.i64.wrap (len-g.last)=len-g.last:=Qag (by omega) (by omega);cases hfo:g.found with
     |false=>
      rw [hfo,if_neg (by decide)]at hst;have hadd:=Qun (G++g.out) 2 (n:Int) 0 0 (by rw [List.length_append];omega);have hG2:(G++g.out++[(⟨2,(n:Int),0,0⟩:Go.Dg.Fd)]).length≤30000:=by simp only [List.length_append,List.length_cons,List.length_nil];omega
      have hst2:U++ofTo gap tol s len D L (n+1)=G++g.out++[(⟨2,(n:Int),0,0⟩:Go.Dg.Fd)]++offs tol (n:Int) D D.length++(stA s (n:Int) L L.length).out:=by rw [hst];simp only [List.append_assoc]
      generalize G++g.out++[(⟨2,(n:Int),0,0⟩:Go.Dg.Fd)]=G2 at*;repeat (first|simp -implicitDefEqProofs only [go_sem,seval,hB',bl13,bl14,bl9',Bool.not_false,List.length_map]|(with_reducible refine Qan hadd ?_ ?_ ?_ ?_);rfl;rfl;rfl)
      refine Qav mixed (fun i:{i:Nat // i≤D.length}=>St.of ([(18,.bp 1901 1 0 0),(130,.slc (D.map dvV)),(131,.int .i64 (D.length:Int)),(132,.int .i64 (i.1:Int))]++fnV p L s tol gap len D (n:Int)) ([(1901,stB (n:Int))]++fnL (G2++offs tol (n:Int) D i.1))) (fun i=>D.length-i.1) ⟨0,Nat.zero_le _⟩ ?_ ?_
      ·have e0:offs tol (n:Int) D 0=[]:=rfl;simp only [e0,List.append_nil];refine Qaj (θ:=[(1901,1901),(800,800),(901,901),(7,9)]) rfl ?_ ?_
       ·simp [Qac,lkp,ren1,ren0,Qah]
       ·exact⟨⟨rfl,rfl,rfl,rfl,rfl,.inr ⟨rfl,_,_,rfl,rfl,rfl,rfl⟩⟩,⟨rfl,rfl,rfl,rfl,rfl,.inr ⟨rfl,_,_,rfl,rfl,rfl,rfl⟩⟩,⟨rfl,rfl,rfl,rfl,rfl,.inr ⟨rfl,_,_,rfl,rfl,rfl,rfl⟩⟩,⟨rfl,rfl,rfl,rfl,rfl,.inl ⟨rfl,rfl⟩⟩,trivial⟩
      ·rintro⟨i,hi⟩;simp only;have hlo:=Qh0 tol (n:Int) D i;by_cases hB:i<D.length
       ·have hB':=ltE hB;have i0:=nnE i;have hwi:=wrE (n:=i) (by omega);have hgd:=Qon D i hB;have hsg:offs tol (n:Int) D (i+1)=offs tol (n:Int) D i++off1 tol (n:Int) (D.getD i dv0):=rfl;unfold off1 at hsg;generalize D.getD i dv0=d at*;generalize offs tol (n:Int) D i=ofs at*;cases hda:(d.a==(n:Int))with
        |false=>
         rw [bq,hda,Bool.false_and,if_neg (by decide),List.append_nil]at hsg;repeat simp -implicitDefEqProofs only [go_sem,seval,hB',i0,hgd,hda,hwi,Int.toNat_natCast]
         refine⟨⟨i+1,hB⟩,by simp only;omega,?_⟩;simp only [hsg];refine Qaj (θ:=[(1901,1901),(800,800),(901,901),(7,7)]) rfl ?_ ?_
         ·simp [Qac,lkp,ren1,ren0,Qah]
         ·exact⟨⟨rfl,rfl,rfl,rfl,rfl,.inr ⟨rfl,_,_,rfl,rfl,rfl,rfl⟩⟩,⟨rfl,rfl,rfl,rfl,rfl,.inr ⟨rfl,_,_,rfl,rfl,rfl,rfl⟩⟩,⟨rfl,rfl,rfl,rfl,rfl,.inr ⟨rfl,_,_,rfl,rfl,rfl,rfl⟩⟩,⟨rfl,rfl,rfl,rfl,rfl,.inl ⟨rfl,rfl⟩⟩,trivial⟩
        |true=>
        rw [bq,hda,Bool.true_and]at hsg;by_cases hgq:tol*tol<d.q
        ·have hgq':=eq_true hgq;rw [decide_eq_true hgq,if_pos rfl]at hsg;have hadd:=Qun (G2++ofs) 4 (n:Int) d.i d.t (by rw [List.length_append];omega);rw [List.append_assoc]at hadd;generalize ofs++[(⟨4,(n:Int),d.i,d.t⟩:Go.Dg.Fd)]=go3 at*;repeat (first|simp -implicitDefEqProofs only [go_sem,seval,hB',i0,hgd,hda,hwi,htq,hgq',decide_true,bl13,bl14,bl9',Int.toNat_natCast]|(with_reducible refine Qan hadd ?_ ?_ ?_ ?_);rfl;rfl;rfl)
         refine⟨⟨i+1,hB⟩,by simp only;omega,?_⟩;simp only [hsg];refine Qaj (θ:=[(1901,1901),(800,800),(901,901),(7,9)]) rfl ?_ ?_
         ·simp [Qac,lkp,ren1,ren0,Qah]
         ·exact⟨⟨rfl,rfl,rfl,rfl,rfl,.inr ⟨rfl,_,_,rfl,rfl,rfl,rfl⟩⟩,⟨rfl,rfl,rfl,rfl,rfl,.inr ⟨rfl,_,_,rfl,rfl,rfl,rfl⟩⟩,⟨rfl,rfl,rfl,rfl,rfl,.inr ⟨rfl,_,_,rfl,rfl,rfl,rfl⟩⟩,⟨rfl,rfl,rfl,rfl,rfl,.inl ⟨rfl,rfl⟩⟩,trivial⟩
        ·have hgq':=eq_false hgq;rw [decide_eq_false hgq,if_neg (by decide),List.append_nil]at hsg;repeat simp -implicitDefEqProofs only [go_sem,seval,hB',i0,hgd,hda,hwi,htq,hgq',decide_false,Int.toNat_natCast]
         refine⟨⟨i+1,hB⟩,by simp only;omega,?_⟩;simp only [hsg];refine Qaj (θ:=[(1901,1901),(800,800),(901,901),(7,7)]) rfl ?_ ?_
         ·simp [Qac,lkp,ren1,ren0,Qah]
         ·exact⟨⟨rfl,rfl,rfl,rfl,rfl,.inr ⟨rfl,_,_,rfl,rfl,rfl,rfl⟩⟩,⟨rfl,rfl,rfl,rfl,rfl,.inr ⟨rfl,_,_,rfl,rfl,rfl,rfl⟩⟩,⟨rfl,rfl,rfl,rfl,rfl,.inr ⟨rfl,_,_,rfl,rfl,rfl,rfl⟩⟩,⟨rfl,rfl,rfl,rfl,rfl,.inl ⟨rfl,rfl⟩⟩,trivial⟩
       ·have hB':=ltE' hB;obtain rfl:i=D.length:=by omega
        have hS:=hSt n hA (G2++offs tol (n:Int) D D.length) (by rw [List.length_append];omega);rw [←hst2]at hS;repeat (first|simp -implicitDefEqProofs only [go_sem,seval,hB',hwn,bl13,bl14,ble7,bl9']|(with_reducible refine Qan hS ?_ ?_ ?_ ?_);rfl;rfl;rfl)
        refine⟨⟨n+1,hA⟩,by simp only;omega,?_⟩;refine Qaj (θ:=[(800,800),(901,901),(7,9)]) rfl ?_ ?_
        ·simp [Qac,lkp,ren1,ren0,Qah]
        ·exact⟨⟨rfl,rfl,rfl,rfl,rfl,.inr ⟨rfl,_,_,rfl,rfl,rfl,rfl⟩⟩,⟨rfl,rfl,rfl,rfl,rfl,.inr ⟨rfl,_,_,rfl,rfl,rfl,rfl⟩⟩,⟨rfl,rfl,rfl,rfl,rfl,.inl ⟨rfl,rfl⟩⟩,trivial⟩
     |true=>
     rw [hfo,if_pos rfl]at hst;by_cases hgp:gap<len-g.last
     ·have hgp':=eq_true hgp;rw [if_pos hgp]at hst;have hadd:=Qun (G++g.out) 3 (n:Int) g.rec_ len (by rw [List.length_append];omega);have hG2:(G++g.out++[(⟨3,(n:Int),g.rec_,len⟩:Go.Dg.Fd)]).length≤30000:=by simp only [List.length_append,List.length_cons,List.length_nil];omega
      have hst2:U++ofTo gap tol s len D L (n+1)=G++g.out++[(⟨3,(n:Int),g.rec_,len⟩:Go.Dg.Fd)]++offs tol (n:Int) D D.length++(stA s (n:Int) L L.length).out:=by rw [hst];simp only [List.append_assoc]
      generalize G++g.out++[(⟨3,(n:Int),g.rec_,len⟩:Go.Dg.Fd)]=G2 at*;repeat (first|simp -implicitDefEqProofs only [go_sem,seval,hB',htw,hgp',bl13,bl14,bl9',Bool.not_true,List.length_map]|(with_reducible refine Qan hadd ?_ ?_ ?_ ?_);rfl;rfl;rfl)
      refine Qav mixed (fun i:{i:Nat // i≤D.length}=>St.of ([(18,.bp 1901 1 0 0),(130,.slc (D.map dvV)),(131,.int .i64 (D.length:Int)),(132,.int .i64 (i.1:Int))]++fnV p L s tol gap len D (n:Int)) ([(1901,stB (n:Int))]++fnL (G2++offs tol (n:Int) D i.1))) (fun i=>D.length-i.1) ⟨0,Nat.zero_le _⟩ ?_ ?_
      ·have e0:offs tol (n:Int) D 0=[]:=rfl;simp only [e0,List.append_nil];refine Qaj (θ:=[(1901,1901),(800,800),(901,901),(7,9)]) rfl ?_ ?_
       ·simp [Qac,lkp,ren1,ren0,Qah]
       ·exact⟨⟨rfl,rfl,rfl,rfl,rfl,.inr ⟨rfl,_,_,rfl,rfl,rfl,rfl⟩⟩,⟨rfl,rfl,rfl,rfl,rfl,.inr ⟨rfl,_,_,rfl,rfl,rfl,rfl⟩⟩,⟨rfl,rfl,rfl,rfl,rfl,.inr ⟨rfl,_,_,rfl,rfl,rfl,rfl⟩⟩,⟨rfl,rfl,rfl,rfl,rfl,.inl ⟨rfl,rfl⟩⟩,trivial⟩
      ·rintro⟨i,hi⟩;simp only;have hlo:=Qh0 tol (n:Int) D i;by_cases hB:i<D.length
       ·have hB':=ltE hB;have i0:=nnE i;have hwi:=wrE (n:=i) (by omega);have hgd:=Qon D i hB;have hsg:offs tol (n:Int) D (i+1)=offs tol (n:Int) D i++off1 tol (n:Int) (D.getD i dv0):=rfl;unfold off1 at hsg;generalize D.getD i dv0=d at*;generalize offs tol (n:Int) D i=ofs at*;cases hda:(d.a==(n:Int))with
        |false=>
         rw [bq,hda,Bool.false_and,if_neg (by decide),List.append_nil]at hsg;repeat simp -implicitDefEqProofs only [go_sem,seval,hB',i0,hgd,hda,hwi,Int.toNat_natCast]
         refine⟨⟨i+1,hB⟩,by simp only;omega,?_⟩;simp only [hsg];refine Qaj (θ:=[(1901,1901),(800,800),(901,901),(7,7)]) rfl ?_ ?_
         ·simp [Qac,lkp,ren1,ren0,Qah]
         ·exact⟨⟨rfl,rfl,rfl,rfl,rfl,.inr ⟨rfl,_,_,rfl,rfl,rfl,rfl⟩⟩,⟨rfl,rfl,rfl,rfl,rfl,.inr ⟨rfl,_,_,rfl,rfl,rfl,rfl⟩⟩,⟨rfl,rfl,rfl,rfl,rfl,.inr ⟨rfl,_,_,rfl,rfl,rfl,rfl⟩⟩,⟨rfl,rfl,rfl,rfl,rfl,.inl ⟨rfl,rfl⟩⟩,trivial⟩
        |true=>
        rw [bq,hda,Bool.true_and]at hsg;by_cases hgq:tol*tol<d.q
        ·have hgq':=eq_true hgq;rw [decide_eq_true hgq,if_pos rfl]at hsg;have hadd:=Qun (G2++ofs) 4 (n:Int) d.i d.t (by rw [List.length_append];omega);rw [List.append_assoc]at hadd;generalize ofs++[(⟨4,(n:Int),d.i,d.t⟩:Go.Dg.Fd)]=go3 at*;repeat (first|simp -implicitDefEqProofs only [go_sem,seval,hB',i0,hgd,hda,hwi,htq,hgq',decide_true,bl13,bl14,bl9',Int.toNat_natCast]|(with_reducible refine Qan hadd ?_ ?_ ?_ ?_);rfl;rfl;rfl)
         refine⟨⟨i+1,hB⟩,by simp only;omega,?_⟩;simp only [hsg];refine Qaj (θ:=[(1901,1901),(800,800),(901,901),(7,9)]) rfl ?_ ?_
         ·simp [Qac,lkp,ren1,ren0,Qah]
         ·exact⟨⟨rfl,rfl,rfl,rfl,rfl,.inr ⟨rfl,_,_,rfl,rfl,rfl,rfl⟩⟩,⟨rfl,rfl,rfl,rfl,rfl,.inr ⟨rfl,_,_,rfl,rfl,rfl,rfl⟩⟩,⟨rfl,rfl,rfl,rfl,rfl,.inr ⟨rfl,_,_,rfl,rfl,rfl,rfl⟩⟩,⟨rfl,rfl,rfl,rfl,rfl,.inl ⟨rfl,rfl⟩⟩,trivial⟩
        ·have hgq':=eq_false hgq;rw [decide_eq_false hgq,if_neg (by decide),List.append_nil]at hsg;repeat simp -implicitDefEqProofs only [go_sem,seval,hB',i0,hgd,hda,hwi,htq,hgq',decide_false,Int.toNat_natCast]
         refine⟨⟨i+1,hB⟩,by simp only;omega,?_⟩;simp only [hsg];refine Qaj (θ:=[(1901,1901),(800,800),(901,901),(7,7)]) rfl ?_ ?_
         ·simp [Qac,lkp,ren1,ren0,Qah]
         ·exact⟨⟨rfl,rfl,rfl,rfl,rfl,.inr ⟨rfl,_,_,rfl,rfl,rfl,rfl⟩⟩,⟨rfl,rfl,rfl,rfl,rfl,.inr ⟨rfl,_,_,rfl,rfl,rfl,rfl⟩⟩,⟨rfl,rfl,rfl,rfl,rfl,.inr ⟨rfl,_,_,rfl,rfl,rfl,rfl⟩⟩,⟨rfl,rfl,rfl,rfl,rfl,.inl ⟨rfl,rfl⟩⟩,trivial⟩
       ·have hB':=ltE' hB;obtain rfl:i=D.length:=by omega
        have hS:=hSt n hA (G2++offs tol (n:Int) D D.length) (by rw [List.length_append];omega);rw [←hst2]at hS;repeat (first|simp -implicitDefEqProofs only [go_sem,seval,hB',hwn,bl13,bl14,ble7,bl9']|(with_reducible refine Qan hS ?_ ?_ ?_ ?_);rfl;rfl;rfl)
        refine⟨⟨n+1,hA⟩,by simp only;omega,?_⟩;refine Qaj (θ:=[(800,800),(901,901),(7,9)]) rfl ?_ ?_
        ·simp [Qac,lkp,ren1,ren0,Qah]
        ·exact⟨⟨rfl,rfl,rfl,rfl,rfl,.inr ⟨rfl,_,_,rfl,rfl,rfl,rfl⟩⟩,⟨rfl,rfl,rfl,rfl,rfl,.inr ⟨rfl,_,_,rfl,rfl,rfl,rfl⟩⟩,⟨rfl,rfl,rfl,rfl,rfl,.inl ⟨rfl,rfl⟩⟩,trivial⟩
     ·have hgp':=eq_false hgp;rw [if_neg hgp]at hst;have hG2:(G++g.out).length≤30000:=by simp only [List.length_append];omega
      have hst2:U++ofTo gap tol s len D L (n+1)=G++g.out++offs tol (n:Int) D D.length++(stA s (n:Int) L L.length).out:=by rw [hst];simp only [List.append_assoc,List.nil_append]
      generalize G++g.out=G2 at*;repeat simp -implicitDefEqProofs only [go_sem,seval,hB',htw,hgp',Bool.not_true,List.length_map]
      refine Qav mixed (fun i:{i:Nat // i≤D.length}=>St.of ([(18,.bp 1901 1 0 0),(130,.slc (D.map dvV)),(131,.int .i64 (D.length:Int)),(132,.int .i64 (i.1:Int))]++fnV p L s tol gap len D (n:Int)) ([(1901,stB (n:Int))]++fnL (G2++offs tol (n:Int) D i.1))) (fun i=>D.length-i.1) ⟨0,Nat.zero_le _⟩ ?_ ?_
      ·have e0:offs tol (n:Int) D 0=[]:=rfl;simp only [e0,List.append_nil];refine Qaj (θ:=[(1901,1901),(800,800),(901,901),(7,7)]) rfl ?_ ?_
       ·simp [Qac,lkp,ren1,ren0,Qah]
       ·exact⟨⟨rfl,rfl,rfl,rfl,rfl,.inr ⟨rfl,_,_,rfl,rfl,rfl,rfl⟩⟩,⟨rfl,rfl,rfl,rfl,rfl,.inr ⟨rfl,_,_,rfl,rfl,rfl,rfl⟩⟩,⟨rfl,rfl,rfl,rfl,rfl,.inr ⟨rfl,_,_,rfl,rfl,rfl,rfl⟩⟩,⟨rfl,rfl,rfl,rfl,rfl,.inl ⟨rfl,rfl⟩⟩,trivial⟩
      ·rintro⟨i,hi⟩;simp only;have hlo:=Qh0 tol (n:Int) D i;by_cases hB:i<D.length
       ·have hB':=ltE hB;have i0:=nnE i;have hwi:=wrE (n:=i) (by omega);have hgd:=Qon D i hB;have hsg:offs tol (n:Int) D (i+1)=offs tol (n:Int) D i++off1 tol (n:Int) (D.getD i dv0):=rfl;unfold off1 at hsg;generalize D.getD i dv0=d at*;generalize offs tol (n:Int) D i=ofs at*;cases hda:(d.a==(n:Int))with
        |false=>
         rw [bq,hda,Bool.false_and,if_neg (by decide),List.append_nil]at hsg;repeat simp -implicitDefEqProofs only [go_sem,seval,hB',i0,hgd,hda,hwi,Int.toNat_natCast]
         refine⟨⟨i+1,hB⟩,by simp only;omega,?_⟩;simp only [hsg];refine Qaj (θ:=[(1901,1901),(800,800),(901,901),(7,7)]) rfl ?_ ?_
         ·simp [Qac,lkp,ren1,ren0,Qah]
         ·exact⟨⟨rfl,rfl,rfl,rfl,rfl,.inr ⟨rfl,_,_,rfl,rfl,rfl,rfl⟩⟩,⟨rfl,rfl,rfl,rfl,rfl,.inr ⟨rfl,_,_,rfl,rfl,rfl,rfl⟩⟩,⟨rfl,rfl,rfl,rfl,rfl,.inr ⟨rfl,_,_,rfl,rfl,rfl,rfl⟩⟩,⟨rfl,rfl,rfl,rfl,rfl,.inl ⟨rfl,rfl⟩⟩,trivial⟩
        |true=>
        rw [bq,hda,Bool.true_and]at hsg;by_cases hgq:tol*tol<d.q
        ·have hgq':=eq_true hgq;rw [decide_eq_true hgq,if_pos rfl]at hsg;have hadd:=Qun (G2++ofs) 4 (n:Int) d.i d.t (by rw [List.length_append];omega);rw [List.append_assoc]at hadd;generalize ofs++[(⟨4,(n:Int),d.i,d.t⟩:Go.Dg.Fd)]=go3 at*;repeat (first|simp -implicitDefEqProofs only [go_sem,seval,hB',i0,hgd,hda,hwi,htq,hgq',decide_true,bl13,bl14,bl9',Int.toNat_natCast]|(with_reducible refine Qan hadd ?_ ?_ ?_ ?_);rfl;rfl;rfl)
         refine⟨⟨i+1,hB⟩,by simp only;omega,?_⟩;simp only [hsg];refine Qaj (θ:=[(1901,1901),(800,800),(901,901),(7,9)]) rfl ?_ ?_
         ·simp [Qac,lkp,ren1,ren0,Qah]
         ·exact⟨⟨rfl,rfl,rfl,rfl,rfl,.inr ⟨rfl,_,_,rfl,rfl,rfl,rfl⟩⟩,⟨rfl,rfl,rfl,rfl,rfl,.inr ⟨rfl,_,_,rfl,rfl,rfl,rfl⟩⟩,⟨rfl,rfl,rfl,rfl,rfl,.inr ⟨rfl,_,_,rfl,rfl,rfl,rfl⟩⟩,⟨rfl,rfl,rfl,rfl,rfl,.inl ⟨rfl,rfl⟩⟩,trivial⟩
        ·have hgq':=eq_false hgq;rw [decide_eq_false hgq,if_neg (by decide),List.append_nil]at hsg;repeat simp -implicitDefEqProofs only [go_sem,seval,hB',i0,hgd,hda,hwi,htq,hgq',decide_false,Int.toNat_natCast]
         refine⟨⟨i+1,hB⟩,by simp only;omega,?_⟩;simp only [hsg];refine Qaj (θ:=[(1901,1901),(800,800),(901,901),(7,7)]) rfl ?_ ?_
         ·simp [Qac,lkp,ren1,ren0,Qah]
         ·exact⟨⟨rfl,rfl,rfl,rfl,rfl,.inr ⟨rfl,_,_,rfl,rfl,rfl,rfl⟩⟩,⟨rfl,rfl,rfl,rfl,rfl,.inr ⟨rfl,_,_,rfl,rfl,rfl,rfl⟩⟩,⟨rfl,rfl,rfl,rfl,rfl,.inr ⟨rfl,_,_,rfl,rfl,rfl,rfl⟩⟩,⟨rfl,rfl,rfl,rfl,rfl,.inl ⟨rfl,rfl⟩⟩,trivial⟩
       ·have hB':=ltE' hB;obtain rfl:i=D.length:=by omega
        have hS:=hSt n hA (G2++offs tol (n:Int) D D.length) (by rw [List.length_append];omega);rw [←hst2]at hS;repeat (first|simp -implicitDefEqProofs only [go_sem,seval,hB',hwn,bl13,bl14,ble7,bl9']|(with_reducible refine Qan hS ?_ ?_ ?_ ?_);rfl;rfl;rfl)
        refine⟨⟨n+1,hA⟩,by simp only;omega,?_⟩;refine Qaj (θ:=[(800,800),(901,901),(7,9)]) rfl ?_ ?_
        ·simp [Qac,lkp,ren1,ren0,Qah]
        ·exact⟨⟨rfl,rfl,rfl,rfl,rfl,.inr ⟨rfl,_,_,rfl,rfl,rfl,rfl⟩⟩,⟨rfl,rfl,rfl,rfl,rfl,.inr ⟨rfl,_,_,rfl,rfl,rfl,rfl⟩⟩,⟨rfl,rfl,rfl,rfl,rfl,.inl ⟨rfl,rfl⟩⟩,trivial⟩
  ·have hA':=ltE' hA;obtain rfl:n=p.ns.length:=by omega
   have hlt:((U++ofTo gap tol s len D L p.ns.length).map fdV).length=(U++ofTo gap tol s len D L p.ns.length).length:=List.length_map ..;have htk:((U++ofTo gap tol s len D L p.ns.length).map fdV).take (U++ofTo gap tol s len D L p.ns.length).length=(U++ofTo gap tol s len D L p.ns.length).map fdV:=List.take_of_length_le (by omega);generalize U++ofTo gap tol s len D L p.ns.length=F at*;repeat simp -implicitDefEqProofs only [go_sem,seval,hA',hlt,htk]
def Q4a (p:Pg) (s tol gap:Int) (L:List Rc):List Go.Dg.Fd:=finds p.ns.length gap tol s (begT p p.as_.length) (sqR p s) L
set_option maxHeartbeats 16000000 in
set_option maxRecDepth 100000 in
theorem Qup (p:Pg) (hf:FewP p) (v:Qbd p=true) (hN:p.as_.length≠0) (s:Int) (hs:0≤s∧s≤3600000) (tol gap:Int) (ht:0≤tol∧tol≤1000000) (hg:1≤gap∧gap≤3600000) (L:List Rc) (hl:L.length≤1000) (hL: ∀k,k<L.length→recB (L.getD k rc0)=true):
  Qaf Tryz.prog 23 [pgV p,lgR L,.int .i64 s,.agg [.int .i64 tol,.int .i64 gap]] (.tup [.slc ((Q4a p s tol gap L).map fdV),.int .i64 0]):=by
 have hG:=Qp0 p hf L s;rw [show Qum p s=0 by unfold Qum;rw [v,Qdd.2 hs];rfl]at hG;have hV:=Qxj tol gap;rw [show(wiB tol 0 1000000&&wiB gap 1 3600000)=true by rw [Qdd.2 ht,Qdd.2 hg];rfl]at hV;have hN':((p.as_.length:Int)==0)=false:=beq_eq_false_iff_ne.2 (by omega);have ha:=Qr9 L;have hY:=Qsa L (by omega);have hlO:=Qgy L;have hgO:=fun i h=>Qgz L i h;generalize allO L=OO at*;unfold Q4a finds;have hPr:=Qlf p (Qia hf) v;have hDv:=Q38 p hf v hN s hs L (by omega) hL;have hbt:=Qej v (k:=p.as_.length) (Nat.le_refl _);have hDl:(dvs p s L L.length).length≤L.length:=Qfa p.ns.length s (sqR p s) L L.length;have hDo:=Q39 p s hs L hL L.length (Nat.le_refl _);have hSt:=fun(n:Nat) (hn:n<p.ns.length) (F:List Go.Dg.Fd) (hF:F.length≤100000)=>Qxg L (n:Int) s F (by omega) hL (by have:=hf.1;omega) hs hF;have hN5:=hf.1;generalize hDD:dvs p s L L.length=D at*;have hul:=Qw0 p.ns.length s L;have hol:=Qpf gap tol s (begT p p.as_.length) D L;have bl9':Nat.blt 9 1000000=true:=rfl;have ble7:Nat.ble 1000000 1000002=true:=rfl;unfold pgV at hG hPr hDv ⊢;refine Zz2 164 [.tmp 8,.tmp 9] Tryz.func23 rfl (by kernel_rfl) (by kernel_rfl) (by kernel_rfl) (by kernel_rfl) ?_
 refine Zva mixed [(1409,[(1000000,1000001),(1000001,7)],[(9,9)])] [0,1,2,3,4,6,7,8,9,10,11,12,13,14,15,17,18,19,20,21,23,25,31,33,37,44,45,46,52,74,75,76,78,79,80,81,94,101,115,124,130,131,132,133,149] 6 rfl (St.of [(1,lgR L),(4,prP p),(6,.rp [.int .i64 s]),(7,.rp [.int .i64 tol,.int .i64 gap]),(11,.bp 800 1 0 0),(12,.bp 901 1 0 0)] (fnL (unks p.ns.length s L L.length))) ?_ ?_
 ·simp only [codes,Qk3,List.take_succ_cons,List.take_zero,List.drop_succ_cons,List.drop_zero,List.foldr_cons,List.foldr_nil];repeat (first|simp -implicitDefEqProofs only [go_sem,seval,lgR,hN',bne_self_eq_false,Bool.not_true,List.length_map]|(with_reducible refine Qaa hG ?_ ?_ ?_);rfl;rfl|(with_reducible refine Qaa hV ?_ ?_ ?_);rfl;rfl|(with_reducible refine Qaa ha ?_ ?_ ?_);rfl;rfl)
  refine Qf8 (Le.trans (Qlh 800 7 4 77 rfl rfl rfl rfl rfl (by decide)) (Le.trans (Qyq 4 0 rfl rfl rfl) (Le.trans (Qyq 6 1 rfl rfl rfl) (Qyq 7 2 rfl rfl rfl)))) ?_;refine Qgs mixed hY rfl rfl _ rfl [(1000000,901),(1000001,800),(7,7)] [1000000,1000001] rfl [(1,lgR L),(4,prP p),(6,.rp [.int .i64 s]),(7,.rp [.int .i64 tol,.int .i64 gap]),(12,.bp 1000000 1 0 0),(11,.bp 1000001 1 0 0)]
   (fun j:Nat=>[(1000000,adB 1000001),(1000001,ouB 7 (unks p.ns.length s L j).length),(7,fdB (unks p.ns.length s L j))]) rfl rfl ?_ ?_ ?_ L.length .normal (fun h=>by omega) (fun j _ _=>by simp [lkp]) ?_ rfl ?_
   [(901,1000000),(800,1000001),(7,7)] [(1,lgR L),(4,prP p),(6,.rp [.int .i64 s]),(7,.rp [.int .i64 tol,.int .i64 gap]),(11,.bp 800 1 0 0),(12,.bp 901 1 0 0)] (fnL (unks p.ns.length s L L.length)) rfl rfl ?_ ?_ (fun _=> ?_) (fun h=>by omega)
  ·simp [Qac,lkp,ren1,ren0,Qah]
  ·exact⟨⟨rfl,rfl,rfl,rfl,rfl,.inr ⟨rfl,_,_,rfl,rfl,rfl,rfl⟩⟩,⟨rfl,rfl,rfl,rfl,rfl,.inr ⟨rfl,_,_,rfl,rfl,rfl,rfl⟩⟩,⟨rfl,rfl,rfl,rfl,rfl,.inl ⟨rfl,rfl⟩⟩,trivial⟩
  ·simp [Qac,lkp,ren1,ren0,Qah,Qjd]
  ·intro j args h;rw [hgO j (by rw [←hlO];exact(List.getElem?_eq_some_iff.1 h).1)]at h;cases h;rfl
  ·rintro j args hja hjs;have hj:j<L.length:=by rw [←hlO];exact(List.getElem?_eq_some_iff.1 hja).1
   rw [hgO j hj]at hja;cases hja;have hfi:=Qcy (hL j hj);have hln:=hul j;have hst:unks p.ns.length s L (j+1)=unks p.ns.length s L j++unk1 p.ns.length s j (L.getD j rc0):=rfl;unfold unk1 at hst;generalize L.getD j rc0=r at*;simp only [Qnu r];by_cases haN:(p.ns.length:Int)<r.a
   ·have haN':=eq_true haN;rw [if_pos haN]at hst;have haw:IntKind.i64.wrap (r.a-1)=r.a-1:=Qag (by omega) (by omega);have htw:IntKind.i64.wrap (r.t-s)=r.t-s:=Qag (by omega) (by omega);have hadd:=Qun (unks p.ns.length s L j) 1 (r.a-1) (j:Int) (r.t-s) (by omega);rw [←hst]at hadd;repeat simp -implicitDefEqProofs only [go_sem,seval,pvars,List.toList_toArray]
    refine⟨by simp [lkp],?_⟩;repeat (first|simp -implicitDefEqProofs only [go_sem,seval,haN',haw,htw,bl13,bl14,bl9',List.length_map]|(with_reducible refine Qan hadd ?_ ?_ ?_ ?_);rfl;rfl;rfl)
    refine⟨hj,?_⟩;refine Qaj (θ:=[(1000000,1000000),(1000001,1000001),(7,9)]) rfl ?_ ?_
    ·simp [Qac,lkp,ren1,ren0,Qah]
    ·exact⟨⟨rfl,rfl,rfl,rfl,rfl,.inr ⟨rfl,_,_,rfl,rfl,rfl,rfl⟩⟩,⟨rfl,rfl,rfl,rfl,rfl,.inr ⟨rfl,_,_,rfl,rfl,rfl,rfl⟩⟩,⟨rfl,rfl,rfl,rfl,rfl,.inl ⟨rfl,rfl⟩⟩,trivial⟩
   ·have haN':=eq_false haN;rw [if_neg haN,List.append_nil]at hst;repeat simp -implicitDefEqProofs only [go_sem,seval,pvars,List.toList_toArray]
    refine⟨by simp [lkp],?_⟩;repeat simp -implicitDefEqProofs only [go_sem,haN',List.length_map]
    refine⟨hj,?_⟩;simp only [hst];refine Qaj (θ:=[(1000000,1000000),(1000001,1000001),(7,7)]) rfl ?_ ?_
    ·simp [Qac,lkp,ren1,ren0,Qah]
    ·exact⟨⟨rfl,rfl,rfl,rfl,rfl,.inr ⟨rfl,_,_,rfl,rfl,rfl,rfl⟩⟩,⟨rfl,rfl,rfl,rfl,rfl,.inr ⟨rfl,_,_,rfl,rfl,rfl,rfl⟩⟩,⟨rfl,rfl,rfl,rfl,rfl,.inl ⟨rfl,rfl⟩⟩,trivial⟩
  ·simp [Qac,lkp,ren1,ren0,Qah]
  ·have hm:min OO.length (L.length+1)=L.length:=by omega
   rw [hm];exact⟨⟨rfl,rfl,rfl,rfl,rfl,.inr ⟨rfl,_,_,rfl,rfl,rfl,rfl⟩⟩,⟨rfl,rfl,rfl,rfl,rfl,.inr ⟨rfl,_,_,rfl,rfl,rfl,rfl⟩⟩,⟨rfl,rfl,rfl,rfl,rfl,.inl ⟨rfl,rfl⟩⟩,trivial⟩
  ·repeat simp -implicitDefEqProofs only [go_sem]
   refine Qaj (θ:=[(800,800),(901,901),(7,7)]) rfl ?_ ?_
   ·simp [Qac,lkp,ren1,ren0,Qah]
   ·exact⟨⟨rfl,rfl,rfl,rfl,rfl,.inr ⟨rfl,_,_,rfl,rfl,rfl,rfl⟩⟩,⟨rfl,rfl,rfl,rfl,rfl,.inr ⟨rfl,_,_,rfl,rfl,rfl,rfl⟩⟩,⟨rfl,rfl,rfl,rfl,rfl,.inl ⟨rfl,rfl⟩⟩,trivial⟩
 ·subst hDD;exact Qp1 p hf v hN s hs tol gap ht hg L hl hL _ (hul L.length)
def devE (p:Pg) (s:Int):Int:=if(Qbd p&&wiB s 0 3600000)=true then(if p.as_.length=0 then 9 else 0)else 2
theorem Qp2 {p:Pg} {s:Int} (h:(Qbd p&&wiB s 0 3600000)=true):Qbd p=true∧0≤s∧s≤3600000:=by
 rw [Bool.and_eq_true]at h;exact⟨h.1,Qdd.1 h.2⟩
def devL (p:Pg) (s:Int) (L:List Rc):List Dv:=if devE p s=0 then dvs p s L L.length else []
theorem Qr7 (p:Pg) (hf:FewP p) (s:Int) (L:List Rc) (hl:L.length≤100000) (hL: ∀k,k<L.length→recB (L.getD k rc0)=true):
  Qaf Tryz.prog 15 [pgV p,lgR L,.int .i64 s] (.tup [.slc ((devL p s L).map dvV),.int .i64 (devE p s)]):=by
 have hG:=Qp0 p hf L s;unfold devL devE;unfold Qum at hG;cases hg:(Qbd p&&wiB s 0 3600000)with
 |false=>
  rw [hg,if_neg (by decide)]at hG;simp only [Bool.false_eq_true,ite_false,show¬(2:Int)=0 by decide];unfold pgV at hG ⊢;refine Qab (tb:=[]) 24 [.tmp 6,.tmp 7] [0,1,2,3,6,7,8,14,19] mixed Tryz.func15 rfl (by kernel_rfl) ?_;repeat (first|simp -implicitDefEqProofs only [go_sem,seval,lgR]|(with_reducible refine Qaa hG ?_ ?_ ?_);rfl;rfl)
 |true=>
  rw [hg,if_pos rfl]at hG;rw [if_pos rfl];by_cases h0:p.as_.length=0
  ·rw [if_pos h0,if_neg (by decide)];have h0':((p.as_.length:Int)==0)=true:=by rw [h0];rfl
   unfold pgV at hG ⊢;refine Qab (tb:=[]) 24 [.tmp 6,.tmp 7] [0,1,2,3,6,7,8,14,19] mixed Tryz.func15 rfl (by kernel_rfl) ?_;repeat (first|simp -implicitDefEqProofs only [go_sem,seval,lgR,h0',List.length_map]|(with_reducible refine Qaa hG ?_ ?_ ?_);rfl;rfl)
  ·rw [if_neg h0,if_pos rfl];have h0':((p.as_.length:Int)==0)=false:=beq_eq_false_iff_ne.2 (by omega);obtain⟨v,hs⟩:=Qp2 hg;have hD:=Q38 p hf v h0 s hs L hl hL;generalize (dvs p s L L.length).map dvV=D at*;unfold pgV at hG hD ⊢;refine Qab (tb:=[]) 24 [.tmp 6,.tmp 7] [0,1,2,3,6,7,8,14,19] mixed Tryz.func15 rfl (by kernel_rfl) ?_;repeat (first|simp -implicitDefEqProofs only [go_sem,seval,lgR,h0',List.length_map]|(with_reducible refine Qaa hG ?_ ?_ ?_);rfl;rfl|(with_reducible refine Qaa hD ?_ ?_ ?_);rfl;rfl)
def fndE (p:Pg) (s tol gap:Int):Int:=if(Qbd p&&wiB s 0 3600000)=true then(if(wiB tol 0 1000000&&wiB gap 1 3600000)=true then(if p.as_.length=0 then 9 else 0)else 2)else 2
def fndL (p:Pg) (s tol gap:Int) (L:List Rc):List Go.Dg.Fd:=if fndE p s tol gap=0 then Q4a p s tol gap L else []
theorem Qoo (p:Pg) (hf:FewP p) (s tol gap:Int) (L:List Rc) (hl:L.length≤1000) (hL: ∀k,k<L.length→recB (L.getD k rc0)=true):
  Qaf Tryz.prog 23 [pgV p,lgR L,.int .i64 s,.agg [.int .i64 tol,.int .i64 gap]] (.tup [.slc ((fndL p s tol gap L).map fdV),.int .i64 (fndE p s tol gap)]):=by
 have hG:=Qp0 p hf L s;have hV:=Qxj tol gap;unfold fndL fndE;unfold Qum at hG;cases hg:(Qbd p&&wiB s 0 3600000)with
 |false=>
  rw [hg,if_neg (by decide)]at hG;simp only [Bool.false_eq_true,ite_false,show¬(2:Int)=0 by decide];unfold pgV at hG ⊢;refine Qab (tb:=[]) 164 [.tmp 8,.tmp 9] [0,1,2,3,4,6,7,8,9,10,11,12,13,14,15,17,18,19,20,21,23,25,31,33,37,44,45,46,52,74,75,76,78,79,80,81,94,101,115,124,130,131,132,133,149] mixed Tryz.func23 rfl (by kernel_rfl) ?_;repeat (first|simp -implicitDefEqProofs only [go_sem,seval,lgR]|(with_reducible refine Qaa hG ?_ ?_ ?_);rfl;rfl)
 |true=>
  rw [hg,if_pos rfl]at hG;rw [if_pos rfl];cases hv:(wiB tol 0 1000000&&wiB gap 1 3600000)with
  |false=>
   rw [hv]at hV;simp only [Bool.false_eq_true,ite_false,show¬(2:Int)=0 by decide];unfold pgV at hG ⊢;refine Qab (tb:=[]) 164 [.tmp 8,.tmp 9] [0,1,2,3,4,6,7,8,9,10,11,12,13,14,15,17,18,19,20,21,23,25,31,33,37,44,45,46,52,74,75,76,78,79,80,81,94,101,115,124,130,131,132,133,149] mixed Tryz.func23 rfl (by kernel_rfl) ?_;repeat (first|simp -implicitDefEqProofs only [go_sem,seval,lgR,bne_self_eq_false,Bool.not_false]|(with_reducible refine Qaa hG ?_ ?_ ?_);rfl;rfl|(with_reducible refine Qaa hV ?_ ?_ ?_);rfl;rfl)
  |true=>
   rw [hv]at hV;rw [if_pos rfl];by_cases h0:p.as_.length=0
   ·rw [if_pos h0,if_neg (by decide)];have h0':((p.as_.length:Int)==0)=true:=by rw [h0];rfl
    unfold pgV at hG ⊢;refine Qab (tb:=[]) 164 [.tmp 8,.tmp 9] [0,1,2,3,4,6,7,8,9,10,11,12,13,14,15,17,18,19,20,21,23,25,31,33,37,44,45,46,52,74,75,76,78,79,80,81,94,101,115,124,130,131,132,133,149] mixed Tryz.func23 rfl (by kernel_rfl) ?_;repeat (first|simp -implicitDefEqProofs only [go_sem,seval,lgR,bne_self_eq_false,h0',Bool.not_true,List.length_map]|(with_reducible refine Qaa hG ?_ ?_ ?_);rfl;rfl|(with_reducible refine Qaa hV ?_ ?_ ?_);rfl;rfl)
   ·rw [if_neg h0,if_pos rfl];obtain⟨v,hs⟩:=Qp2 hg;rw [Bool.and_eq_true]at hv;exact Qup p hf v h0 s hs tol gap (Qdd.1 hv.1) (Qdd.1 hv.2) L hl hL
theorem Z0j:Qb4 Tryz.prog 77=some [1,1,1,1]:=by kernel_rfl
theorem Z2y:Qb4 Tryz.prog 33=some [1,1,1,1]:=by kernel_rfl
theorem Zv9 (F:List Go.Dg.Fd) (i:Nat) (h:i<F.length):(F.map fdV)[i]? =some (.agg [.int .i64 (F.getD i fd0).k,.int .i64 (F.getD i fd0).a,.int .i64 (F.getD i fd0).i,.int .i64 (F.getD i fd0).t]):=by
 rw [List.getElem?_map,List.getElem?_eq_getElem h,List.getD_eq_getElem?_getD,List.getElem?_eq_getElem h];rfl
theorem Q4b (F:List Go.Dg.Fd) (hl:F.length≤100000):Qaf Tryz.prog 20 [.slc (F.map fdV),.slc (F.map fdV)] (.bool true):=by
 refine Qab (tb:=[]) 26 [.tmp 4] [0,1,4,5,10,14,25] mixed Tryz.func20 rfl (by kernel_rfl) ?_;repeat simp -implicitDefEqProofs only [go_sem,seval,List.length_map,bne_self_eq_false]
 refine Qav mixed (fun k:{k:Nat // k≤F.length}=>St.of [(0,.slc (F.map fdV)),(1,.slc (F.map fdV)),(5,.int .i64 (k.1:Int))] []) (fun k=>F.length-k.1) ⟨0,Nat.zero_le _⟩ ?_ ?_
 ·refine Qa1 ?_;simp [Qac,lkp,ren1,ren0,Qah]
 ·rintro⟨k,hk⟩;simp only;by_cases hA:k<F.length
  ·have hA':=ltE hA;have n0:=nnE k;have hg:=Zv9 F k hA;have hwk:=wrE (n:=k) (by omega);generalize F.getD k fd0=w at*;repeat (first|simp -implicitDefEqProofs only [go_sem,seval,Z0j,hA',n0,hg,hwk,Qar,BEq.rfl,Bool.not_true,Int.toNat_natCast,List.length_map]|(with_reducible refine And.intro (Qae _ _ (by kernel_rfl)) ?_))
   refine⟨⟨k+1,hA⟩,by simp only;omega,?_⟩;refine Qa1 ?_;simp [Qac,lkp,ren1,ren0,Qah]
  ·have hA':=ltE' hA;repeat simp -implicitDefEqProofs only [go_sem,seval,hA',List.length_map]
def Q4c (p:Pg) (s:Int):Int:=if(Qbd p&&wiB s 0 3600000)=true then 0 else 2
theorem Zoz (p:Pg) (hf:FewP p) (s:Int):Qaf Tryz.prog 12 [pgV p,.int .i64 s] (.int .i64 (Q4c p s)):=by
 have hV:=Qmc p (Qia hf);unfold Q4c wiB;cases e:Qbd p with
 |false=>
  rw [e]at hV;unfold pgV at hV ⊢;rw [Bool.false_and,if_neg (by decide)];refine Qab (tb:=[]) 16 [.tmp 4] [0,1,2,4,15] mixed Tryz.func12 rfl (by kernel_rfl) ?_;repeat (first|simp -implicitDefEqProofs only [go_sem,seval,Bool.not_false,Bool.not_true]|(with_reducible refine Qaa hV ?_ ?_ ?_);rfl;rfl)
 |true=>
  rw [e]at hV;unfold pgV at hV ⊢;rw [Bool.true_and];by_cases h0:0≤s
  case neg=>
   have h0':=eq_true (show s<0 by omega);rw [decide_eq_false h0,Bool.false_and,if_neg (by decide)];refine Qab (tb:=[]) 16 [.tmp 4] [0,1,2,4,15] mixed Tryz.func12 rfl (by kernel_rfl) ?_;repeat (first|simp -implicitDefEqProofs only [go_sem,seval,h0',decide_true,Bool.not_true]|(with_reducible refine Qaa hV ?_ ?_ ?_);rfl;rfl)
  have h0':=eq_false (show¬s<0 by omega);rw [decide_eq_true h0,Bool.true_and];by_cases h1:s≤3600000
  ·have h1':=eq_false (show¬3600000<s by omega);rw [decide_eq_true h1,if_pos rfl];refine Qab (tb:=[]) 16 [.tmp 4] [0,1,2,4,15] mixed Tryz.func12 rfl (by kernel_rfl) ?_;repeat (first|simp -implicitDefEqProofs only [go_sem,seval,h0',h1',decide_false,Bool.not_true]|(with_reducible refine Qaa hV ?_ ?_ ?_);rfl;rfl)
  ·have h1':=eq_true (show 3600000<s by omega);rw [decide_eq_false h1,if_neg (by decide)];refine Qab (tb:=[]) 16 [.tmp 4] [0,1,2,4,15] mixed Tryz.func12 rfl (by kernel_rfl) ?_;repeat (first|simp -implicitDefEqProofs only [go_sem,seval,h0',h1',decide_false,decide_true,Bool.not_true]|(with_reducible refine Qaa hV ?_ ?_ ?_);rfl;rfl)
theorem Qjm {L:List Rc} (r:Rc) (hL: ∀k,k<L.length→recB (L.getD k rc0)=true): ∀k,k<(addL sumU L r).length→recB ((addL sumU L r).getD k rc0)=true:=by
 intro k h;unfold addL at*;split at h
 ·rename_i hm;rw [if_pos hm];rw [List.length_append]at h;by_cases hk:k<L.length
  ·rw [List.getD_eq_getElem?_getD,List.getElem?_append_left hk,←List.getD_eq_getElem?_getD];exact hL k hk
  ·have:k=L.length:=by simp at h;omega
   subst this;rw [List.getD_eq_getElem?_getD,List.getElem?_append_right (Nat.le_refl _),Nat.sub_self];have hb:recB r=true:=by
    have:=hm.1;unfold mayE at this;split at this
    ·assumption
    ·cases this
   exact hb
 ·rename_i hm;rw [if_neg hm];exact hL k h
theorem Q4d (l:List Ax): ∀i k,k<(logS l i).length→recB ((logS l i).getD k rc0)=true
 |0,k,h=>by cases h
 |i+1,k,h=>Qjm _ (Q4d l i) k h
theorem Qle (L:List Rc) (r:Rc):(addL sumU L r).length≤L.length+1:=by unfold addL;split<;>simp
def pE:Pg:=⟨[⟨#[97]⟩],[v0],[⟨⟨#[117,112]⟩,2000,[⟨⟨0,0,500⟩,0,1000,0⟩]⟩]⟩
def eR1:List Rc:=addL sumU [] (staR 0 1 1)
def eR2:List Rc:=addL sumU eR1 (posR 100 1 v0)
def eR3:List Rc:=addL sumU eR2 (posR 600 1 ⟨0,0,260⟩)
def eR4:List Rc:=addL sumU eR3 (staR 700 1 4)
def eR5:List Rc:=addL sumU eR4 (posR 1500 1 ⟨0,0,500⟩)
theorem Q4e: ∀k,k<eR5.length→recB (eR5.getD k rc0)=true:=Qjm _ (Qjm _ (Qjm _ (Qjm _ (Qjm _ fun k h=>absurd h (Nat.not_lt_zero k)))))
theorem Zwa:devE pE 100=0:=by decide+kernel
theorem Zwb:devL pE 100 eR5=[⟨1,0,0,0⟩,⟨2,0,500,100⟩,⟨4,0,1400,0⟩]:=by decide+kernel
theorem Z0l:fndE pE 100 9 600=0:=by decide+kernel
theorem Zwc:fndE pE 100 10 1000=0:=by decide+kernel
theorem Z0m:fndL pE 100 9 600 eR5=[⟨3,0,4,1400⟩,⟨4,0,2,500⟩,⟨5,0,3,600⟩]:=by decide+kernel
theorem Zwd:fndL pE 100 10 1000 eR5=[⟨5,0,3,600⟩]:=by decide+kernel
abbrev exB:List (Nat×Box):=[(7,lgB 8 eR5.length),(8,rcB eR5),(10,{els:=[.str ⟨#[97]⟩],esz:=1,ety:=9,fro:=0,live:=true,arr:=true}),(11,{els:=[.agg [.int .i64 0,.int .i64 0,.int .i64 0]],esz:=3,ety:=52,fro:=0,live:=true,arr:=true}),(12,{els:=[.agg [.str ⟨#[117,112]⟩,.int .i64 2000,.slc [.agg [.int .i64 0,.int .i64 0,.int .i64 500,.int .i64 0,.int .i64 1000,.int .i64 0]]]],esz:=3,ety:=89,fro:=0,live:=true,arr:=true})]
theorem Qy8:Qbq Tryz.prog 31 [] [] (.tup [.agg [.bs 10 1 0 1,.bs 11 3 0 1,.bs 12 3 0 1],.bp 7 1 0 0]) exB:=by
 have hn:=Zwq;have bl7:Nat.blt 7 1000000=true:=rfl;have bl8:Nat.blt 8 1000000=true:=rfl;have l1:eR1.length≤1:=Qle [] _;have l2:eR2.length≤2:=Nat.le_trans (Qle eR1 _) (by omega);have l3:eR3.length≤3:=Nat.le_trans (Qle eR2 _) (by omega);have l4:eR4.length≤4:=Nat.le_trans (Qle eR3 _) (by omega);have h1:=Zpe [] 0 1 1 (by decide);have h2:=Zdr eR1 100 1 v0 (by omega);have h3:=Zdr eR2 600 1 ⟨0,0,260⟩ (by omega);have h4:=Zpe eR3 700 1 4 (by omega);have h5:=Zdr eR4 1500 1 ⟨0,0,500⟩ (by omega);rw [show addL sumU [] (staR 0 1 1)=eR1 from rfl]at h1;rw [show addL sumU eR1 (posR 100 1 v0)=eR2 from rfl]at h2;rw [show addL sumU eR2 (posR 600 1 ⟨0,0,260⟩)=eR3 from rfl]at h3;rw [show addL sumU eR3 (staR 700 1 4)=eR4 from rfl]at h4;rw [show addL sumU eR4 (posR 1500 1 ⟨0,0,500⟩)=eR5 from rfl]at h5;unfold v0 at h2;unfold exB;unfold lgL lgG at h1 h2 h3 h4 h5;generalize addE [] (staR 0 1 1)=e1 at*;generalize addE eR1 (posR 100 1 ⟨0,0,0⟩)=e2 at*;generalize addE eR2 (posR 600 1 ⟨0,0,260⟩)=e3 at*;generalize addE eR3 (staR 700 1 4)=e4 at*;generalize addE eR4 (posR 1500 1 ⟨0,0,500⟩)=e5 at*;generalize eR1=r1 at*;generalize eR2=r2 at*;generalize eR3=r3 at*;generalize eR4=r4 at*;generalize eR5=r5 at*

 refine Qa6 (tb:=[(200,[],[(7,7),(8,8)]),(401,[(1000000,7),(1000001,8)],[(9,9)]),(502,[(1000000,7),(1000001,9)],[(9,10)]),(602,[(1000000,7),(1000001,10)],[(9,11)]),(701,[(1000000,7),(1000001,11)],[(9,12)]),(802,[(1000000,7),(1000001,12)],[(9,13)])]) 31 [.cell 0 26,.tmp 1] [0,1,2,3,15] mixed Tryz.func31 rfl (by kernel_rfl) (by kernel_rfl) (by kernel_rfl) (by kernel_rfl) (by rfl) ?_;have b10:Nat.blt 10 1000000=true:=rfl;have b11:Nat.blt 11 1000000=true:=rfl;have b12:Nat.blt 12 1000000=true:=rfl;have b13:Nat.blt 13 1000000=true:=rfl;repeat (first|simp -implicitDefEqProofs only [go_sem,seval,bl7,bl8,bl13,bl14,bl9,b10,b11,b12,b13]|(with_reducible refine Qan hn ?_ ?_ ?_ ?_);rfl;rfl;rfl|(with_reducible refine Qan h1 ?_ ?_ ?_ ?_);rfl;rfl;rfl|(with_reducible refine Qan h2 ?_ ?_ ?_ ?_);rfl;rfl;rfl|(with_reducible refine Qan h3 ?_ ?_ ?_ ?_);rfl;rfl;rfl|(with_reducible refine Qan h4 ?_ ?_ ?_ ?_);rfl;rfl;rfl|(with_reducible refine Qan h5 ?_ ?_ ?_ ?_);rfl;rfl;rfl)
 refine Qat (.inl rfl) ?_;simp -implicitDefEqProofs only [go_sem,seval];refine Zz4 (θ:=[(7,7),(8,13),(10,100),(11,102),(12,107)]) rfl ?_ ?_
 ·rfl
 ·exact⟨⟨rfl,rfl,rfl,rfl,rfl,.inr ⟨rfl,_,_,rfl,rfl,rfl,rfl⟩⟩,⟨rfl,rfl,rfl,rfl,rfl,.inl ⟨rfl,rfl⟩⟩,⟨rfl,rfl,rfl,rfl,rfl,.inl ⟨rfl,rfl⟩⟩,⟨rfl,rfl,rfl,rfl,rfl,.inl ⟨rfl,rfl⟩⟩,⟨rfl,rfl,rfl,rfl,rfl,.inl ⟨rfl,rfl⟩⟩,trivial⟩
set_option maxHeartbeats 1000000 in
theorem Zdi:Qaf Tryz.prog 9 [] (.bool true):=by
 have hx:=Qy8;have hf:FewP pE:=by decide+kernel
 have hl:eR5.length≤1000:=by decide+kernel
 have h1:=Qr7 pE hf 100 eR5 (by omega) Q4e;have h2:=Qoo pE hf 100 9 600 eR5 hl Q4e;have h3:=Qoo pE hf 100 10 1000 eR5 hl Q4e;rw [Zwb,Zwa]at h1;rw [Z0m,Z0l]at h2;rw [Zwd,Zwc]at h3;have s1:=Q4b [⟨3,0,4,1400⟩,⟨4,0,2,500⟩,⟨5,0,3,600⟩] (by decide);have s2:=Q4b [⟨5,0,3,600⟩] (by decide);unfold exB lgB rcB at hx;have ht:(eR5.map rcV).take eR5.length=eR5.map rcV:=List.take_of_length_le (by rw [List.length_map];omega);have hlt:(eR5.map rcV).length=eR5.length:=List.length_map ..;rw [show pgV pE= .agg [.slc [.str ⟨#[97]⟩],.slc [.agg [.int .i64 0,.int .i64 0,.int .i64 0]],.slc [.agg [.str ⟨#[117,112]⟩,.int .i64 2000,.slc [.agg [.int .i64 0,.int .i64 0,.int .i64 500,.int .i64 0,.int .i64 1000,.int .i64 0]]]]]from rfl]at h1 h2 h3;unfold lgR at h1 h2 h3;simp only [List.map_cons,List.map_nil,dvV,fdV]at h1 h2 h3 s1 s2;generalize eR5.map rcV=T at*;generalize eR5.length=n at*;have bl7:Nat.blt 7 1000000=true:=rfl;have bl8:Nat.blt 8 1000000=true:=rfl;have bl10:Nat.blt 10 1000000=true:=rfl;have bl11:Nat.blt 11 1000000=true:=rfl;have bl12:Nat.blt 12 1000000=true:=rfl

 refine Qab (tb:=[(100,[],[(7,7),(8,8),(10,10),(11,11),(12,12)])]) 85 [.tmp 0] [0,1,2,3,4,5,6,7,8,9,15,71] mixed Tryz.func9 rfl (by kernel_rfl) ?_;repeat (first|simp -implicitDefEqProofs only [go_sem,seval,bl7,bl8,bl10,bl11,bl12,ht,hlt,Nat.le_refl,decide_true,Qar,bne_self_eq_false,beq_self_eq_true,Bool.not_true,Bool.and_self,Bool.and_true,Bool.true_and,List.getElem?_cons_zero,List.getElem?_cons_succ]|(with_reducible refine Qan hx ?_ ?_ ?_ ?_);rfl;rfl;rfl|(with_reducible refine Qaa h1 ?_ ?_ ?_);rfl;rfl|(with_reducible refine Qaa h2 ?_ ?_ ?_);rfl;rfl|(with_reducible refine Qaa h3 ?_ ?_ ?_);rfl;rfl|(with_reducible refine Qaa s1 ?_ ?_ ?_);rfl;rfl|(with_reducible refine Qaa s2 ?_ ?_ ?_);rfl;rfl)
theorem Z0n {p:Pg} (h:decide (FewQ p)=true):FewP p:=Zor (of_decide_eq_true h)
theorem Zm5 (p:Pg) (s:Int) (L:List Rc) (i:Nat):(dvs p s L i).length≤i:=Qfa p.ns.length s (sqR p s) L i
theorem own:ownKnob Tryz.prog.godebug=none:=by kernel_rfl
theorem Zo0:laidOutB Tryz.prog=true:=by kernel_rfl
theorem Z0o:Tryz.prog.globalNamed Qvw=none∧Tryz.prog.globalNamed Za5=none:=⟨by kernel_rfl,by kernel_rfl⟩
theorem Qxk {c:List PV} (h:Qb7 (.int .i64) c): ∃n:Int,TT.mk (.int .i64) c= .int .i64 n:=by
 simp only [Qb7]at h;obtain⟨x,rfl,hx⟩:=h;exact⟨x,rfl⟩
theorem Qjn {e:TT} {α:Type} {f:α→PV} (hf: ∀c,Qb7 e c→ ∃a,e.mk c=f a): ∀ess:List (List PV),(∀c∈ess,Qb7 e c)→ ∃l:List α,ess.map e.mk=l.map f∧l.length=ess.length
 | [],_=>⟨[],rfl,rfl⟩
 |c::cs,h=>by
  obtain⟨a,ha⟩:=hf c (h c (by simp));obtain⟨l,hl,hn⟩:=Qjn hf cs (fun c hc=>h c (by simp [hc]));exact⟨a::l,by simp [ha,hl],by simp [hn]⟩
def vecT:TT:= .agg [.int .i64,.int .i64,.int .i64]
def Q4f:TT:= .agg [vecT,.int .i64,.int .i64,.int .i64]
def Q4g:TT:= .agg [.str,.int .i64,.slc Q4f]
def Zdj:TT:= .agg [.slc .str,.slc vecT,.slc Q4g]
theorem Zdk {c:List PV} (h:Qb7 .str c): ∃s:ByteArray,TT.mk .str c= .str s:=by
 simp only [Qb7]at h;obtain⟨s,rfl,hs⟩:=h;exact⟨s,rfl⟩
theorem Zdl {c:List PV} (h:Qb7 vecT c): ∃v:V3,vecT.mk c=v3PV v:=by
 simp only [vecT,Qb7,Qd0]at h;obtain⟨_,_,rfl,⟨x,rfl,_⟩,_,_,rfl,⟨y,rfl,_⟩,_,_,rfl,⟨z,rfl,_⟩,rfl⟩:=h;exact⟨⟨x,y,z⟩,rfl⟩
theorem Q4h {c:List PV} (h:Qb7 Q4f c): ∃m:Mv,Q4f.mk c=mvV m:=by
 simp only [Q4f,vecT,Qb7,Qd0]at h;obtain⟨_,_,rfl,⟨_,_,rfl,⟨x,rfl,_⟩,_,_,rfl,⟨y,rfl,_⟩,_,_,rfl,⟨z,rfl,_⟩,rfl⟩,_,_,rfl,⟨w,rfl,_⟩,_,_,rfl,⟨f,rfl,_⟩,_,_,rfl,⟨r,rfl,_⟩,rfl⟩:=h;exact⟨⟨⟨x,y,z⟩,w,f,r⟩,rfl⟩
theorem Q4i {c:List PV} (h:Qb7 Q4g c): ∃a:Ac,Q4g.mk c=acV a:=by
 simp only [Q4g,Qb7,Qd0]at h;obtain⟨_,_,rfl,⟨s,rfl,_⟩,_,_,rfl,⟨n,rfl,_⟩,_,_,rfl,⟨em,rfl,mm,hm⟩,rfl⟩:=h;obtain⟨l,e,_⟩:=Qjn (f:=mvV) (fun c h=>Q4h h) em hm;refine⟨⟨s,n,l⟩,?_⟩;show PV.agg [.str s,.int .i64 n,.slc (em.map Q4f.mk)]=_;rw [e];rfl
theorem Q4j {c:List PV} (h:Qb7 Zdj c): ∃p:Pg,Zdj.mk c=pgV p:=by
 simp only [Zdj,Qd0]at h;rw [Qb7]at h;simp only [Qd0]at h;obtain⟨_,_,rfl,hn,_,_,rfl,hh,_,_,rfl,ha,rfl⟩:=h;rw [Qb7]at hn hh ha;obtain⟨en,rfl,mn,hn⟩:=hn;obtain⟨eh,rfl,mh,hh⟩:=hh;obtain⟨ea,rfl,ma,ha⟩:=ha;obtain⟨ns,e1,_⟩:=Qjn (f:=PV.str) (fun c h=>Zdk h) en hn;obtain⟨hs,e2,_⟩:=Qjn (f:=v3PV) (fun c h=>Zdl h) eh hh;obtain⟨as_,e3,_⟩:=Qjn (f:=acV) (fun c h=>Q4i h) ea ha;refine⟨⟨ns,hs,as_⟩,?_⟩;show PV.agg [.slc (en.map (TT.mk .str)),.slc (eh.map vecT.mk),.slc (ea.map Q4g.mk)]=_;rw [e1,e2,e3];rfl
def axT:TT:= .agg [.int .i64,.int .i64,.int .i64,vecT,.int .i64]
def axsT:TT:= .slc axT
theorem Zo1 {c:List PV} (h:Qb7 axT c): ∃x:Ax,axT.mk c=axV x:=by
 simp only [axT,vecT,Qb7,Qd0]at h;obtain⟨_,_,rfl,⟨w,rfl,_⟩,_,_,rfl,⟨t,rfl,_⟩,_,_,rfl,⟨a,rfl,_⟩,_,_,rfl,⟨_,_,rfl,⟨x,rfl,_⟩,_,_,rfl,⟨y,rfl,_⟩,_,_,rfl,⟨z,rfl,_⟩,rfl⟩,_,_,rfl,⟨s,rfl,_⟩,rfl⟩:=h;exact⟨⟨w,t,a,⟨x,y,z⟩,s⟩,rfl⟩
theorem Zdm {c:List PV} (h:Qb7 axsT c): ∃l:List Ax,axsT.mk c= .slc (l.map axV)∧l.length≤maxLen:=by
 unfold axsT at h;rw [Qb7]at h;obtain⟨es,rfl,hm,hl⟩:=h;obtain⟨l,e,hn⟩:=Qjn (f:=axV) (fun c h=>Zo1 h) es hl;refine⟨l,?_,by omega⟩;show PV.slc (es.map axT.mk)=_;rw [e]
def Zwe:Value:= .agg #[.slice none 0 0,.slice none 0 0,.slice none 0 0]
end Go.Proofs.YtnohfmdlaajpbaaGreat

namespace Go.Dg
def Qbk (s:Int) (l:List Dv):List Dv:=l.filter fun w=>decide (w.a=s)
def delD (s:Int) (l:List Dv) (j:Nat):List Dv:=Qbk s (l.take j)++l.drop (Qbk s (l.take j)).length
theorem Qk4 (s:Int) (l:List Dv):(Qbk s l).length≤l.length:=List.length_filter_le _ _
theorem Qjg (s:Int) (l:List Dv) (j:Nat):(Qbk s (l.take j)).length≤j:=Nat.le_trans (Qk4 _ _) (by rw [List.length_take];omega)
theorem Qd9 {s:Int} {l:List Dv} {j:Nat} (h:j<l.length):Qbk s (l.take (j+1))=Qbk s (l.take j)++(if l[j].a=s then [l[j]]else []):=by
 unfold Qbk;rw [List.take_add_one,List.getElem?_eq_getElem h,List.filter_append];congr 1;simp only [Option.toList_some,List.filter_cons,List.filter_nil,decide_eq_true_eq]
theorem Qk5 (s:Int) (l:List Dv) (j:Nat) (h:j≤l.length):(delD s l j).length=l.length:=by
 unfold delD;have:=Qjg s l j;rw [List.length_append,List.length_drop];omega
theorem Zcw {s:Int} {l:List Dv} {j i:Nat} (h:(Qbk s (l.take j)).length≤i):(delD s l j)[i]? =l[i]? :=by
 unfold delD;rw [List.getElem?_append_right h,List.getElem?_drop];congr 1;omega
theorem Qw1 {s:Int} {l:List Dv} {j:Nat} (h:j<l.length) (hd: ¬l[j].a=s):delD s l (j+1)=delD s l j:=by
 unfold delD;rw [Qd9 h,if_neg hd,List.append_nil]
theorem Znz {s:Int} {l:List Dv} {j:Nat} (h:j<l.length) (hd:l[j].a=s):delD s l (j+1)=(delD s l j).set (Qbk s (l.take j)).length l[j]:=by
 unfold delD;have hk:=Qjg s l j;rw [Qd9 h,if_pos hd,List.set_append_right _ _ (Nat.le_refl _),Nat.sub_self,List.append_assoc];congr 1;have hd2:l.drop (Qbk s (l.take j)).length=l[(Qbk s (l.take j)).length]::l.drop ((Qbk s (l.take j)).length+1):=List.drop_eq_getElem_cons (by omega);rw [hd2,List.set_cons_zero,List.length_append];rfl
theorem Qro {s:Int} {l:List Dv} (h: ∀w∈l,w.a=s):Qbk s l=l:=List.filter_eq_self.2 fun w hw=>decide_eq_true (h w hw)
theorem Zcx {s:Int} {l:List Dv} {i:Nat} (h:i<l.length) (hd: ¬l[i].a=s):(Qbk s l).length<l.length:=by
 rcases Nat.lt_or_ge (Qbk s l).length l.length with q|q
 ·exact q
 ·exfalso;have e:(Qbk s l).length=l.length:=Nat.le_antisymm (Qk4 _ _) q;have:=List.length_filter_eq_length_iff.1 e l[i] (List.getElem_mem h);exact hd (of_decide_eq_true this)
theorem Zvh (s:Int) (l:List Dv):(∀w∈l,w.a=s)∨ ∃i,∃h:i<l.length,¬l[i].a=s∧ ∀(j:Nat) (hj:j<i),(l[j]'(by omega)).a=s:=by
 induction l with
 |nil=>exact .inl fun w hw=>by cases hw
 |cons w l ih=>
  by_cases hw:w.a=s
  ·rcases ih with h|⟨i,h,h1,h2⟩
   ·refine .inl fun x hx=> ?_;rcases List.mem_cons.1 hx with rfl|hx
    ·exact hw
    ·exact h x hx
   ·refine .inr ⟨i+1,by simpa using h,by simpa using h1,fun j hj=> ?_⟩;cases j with
    |zero=>exact hw
    |succ j=>simpa using h2 j (by omega)
  ·exact .inr ⟨0,by simp,hw,fun j hj=>by omega⟩
theorem Qyt {s:Int} {l:List Dv} {i:Nat} (hi:i≤l.length) (h: ∀(j:Nat) (hj:j<i),(l[j]'(by omega)).a=s):Qbk s (l.take i)=l.take i∧delD s l i=l:=by
 have e:Qbk s (l.take i)=l.take i:=Qro fun w hw=>by
  obtain⟨j,hj,rfl⟩:=List.getElem_of_mem hw;rw [List.length_take]at hj;rw [List.getElem_take];exact h j (by omega)
 refine⟨e,?_⟩;unfold delD;rw [e,List.length_take,Nat.min_eq_left hi,List.take_append_drop]
def Qdq (d:Dv):List Dv→Dv
 | []=>d
 |w::l=>Qdq (if d.q<w.q then w else d) l
theorem Qht (w:Dv): ∀(l:List Dv) (d:Dv),Qdq d (l++[w])=if(Qdq d l).q<w.q then w else Qdq d l
 | [],d=>rfl
 |x::l,d=>Qht w l _
def wstA (s:Int) (D:List Dv):Nat→Bool×Dv
 |0=>(false,dv0)
 |i+1=>if(decide ((D.getD i dv0).a=s)&&(!(wstA s D i).1||decide ((wstA s D i).2.q<(D.getD i dv0).q)))=true then(true,D.getD i dv0)else wstA s D i
def wstK:List Dv→Bool×Dv
 | []=>(false,dv0)
 |d::l=>(true,Qdq d l)
theorem Q2s (l:List Dv) (w:Dv):wstK (l++[w])=if(!(wstK l).1||decide ((wstK l).2.q<w.q))=true then(true,w)else wstK l:=by
 cases l with
 |nil=>rfl
 |cons d l=>
  show(true,Qdq d (l++[w]))=_;rw [Qht];show _=if(false||decide ((Qdq d l).q<w.q))=true then _ else(true,Qdq d l);rw [Bool.false_or];by_cases h:(Qdq d l).q<w.q
  ·rw [if_pos h,if_pos (decide_eq_true h)]
  ·rw [if_neg h,if_neg (by simpa using h)]
theorem Zmu (s:Int) (D:List Dv): ∀i,i≤D.length→wstA s D i=wstK (Qbk s (D.take i))
 |0,_=>rfl
 |i+1,h=>by
  have hi:i<D.length:=by omega
  have hg:D.getD i dv0=D[i]:=by rw [List.getD_eq_getElem?_getD,List.getElem?_eq_getElem hi];rfl
  rw [wstA,Zmu s D i (by omega),Qd9 hi,hg];by_cases ha:D[i].a=s
  ·rw [if_pos ha,Q2s,decide_eq_true ha,Bool.true_and]
  ·rw [if_neg ha,List.append_nil,decide_eq_false ha,Bool.false_and,if_neg (by decide)]
end Go.Dg

namespace Go.Proofs.YtnohfmdlaajpbaaGreat
open Go.Vl Go.RowKit Go.Dg
theorem Zo2:Qas Tryz.prog 33=some (.agg [.int .i64 0,.int .i64 0,.int .i64 0,.int .i64 0]):=by kernel_rfl
abbrev wF (s:Int):PV:= .fn 38 [] [.rp [.int .i64 s]]
theorem Qp3 (d:Dv) (s:Int):Qaf Tryz.prog 38 [dvV d,.rp [.int .i64 s]] (.bool (d.a != s)):=by
 unfold dvV;refine Qab (tb:=[]) 8 [.tmp 3] [0,1,2,3] mixed Tryz.func38 rfl (by kernel_rfl) ?_;repeat simp -implicitDefEqProofs only [go_sem,seval]
theorem Q4k (l:List Dv) (k:Nat) (h:k<l.length):(l.map dvV)[k]? =some (dvV l[k]):=by rw [List.getElem?_map,List.getElem?_eq_getElem h];rfl
def delL (s:Int) (l:List Dv):List Dv:=Qbk s l++List.replicate (l.length-(Qbk s l).length) dv0
theorem dvset (l:List Dv) (i:Nat) (w:Dv):(l.map dvV).set i (.agg [.int .i64 w.i,.int .i64 w.a,.int .i64 w.t,.int .i64 w.q])=(l.set i w).map dvV:=by rw [List.map_set];rfl
theorem Q4l {a b:Int} (h:a=b):(a != b)=false:=by rw [h,bne_self_eq_false]
theorem Zm6 {a b:Int} (h: ¬a=b):(a != b)=true:=bne_iff_ne.2 h
theorem Zdn (s:Int) (l:List Dv) (hl:l.length≤100000) (h: ∀w∈l,w.a=s):Qbq Tryz.prog 60 [.bs 1000000 4 0 l.length,wF s] [(1000000,dvB l)] (.int .i64 (-1)) [(1000000,dvB l)]:=by
 skip
 refine Qa6 (tb:=[]) 19 [.tmp 4] [0,1,4,5,7,8,9,16] mixed Tryz.func60 rfl (by kernel_rfl) (by kernel_rfl) (by kernel_rfl) (by kernel_rfl) (by rfl) ?_;repeat simp -implicitDefEqProofs only [go_sem,seval]
 refine Qav mixed (fun k:{k:Nat // k≤l.length}=>St.of [(0,.bs 1000000 4 0 l.length),(1,wF s),(7,.int .i64 (l.length:Int)),(8,.int .i64 (k.1:Int))] [(1000000,dvB l)]) (fun k=>l.length-k.1) ⟨0,Nat.zero_le _⟩ ?_ ?_
 ·refine Qaj (θ:=[(1000000,1000000)]) rfl ?_ ?_
  ·simp [Qac,lkp,ren1,ren0,Qah,wF]
  ·exact⟨⟨rfl,rfl,rfl,rfl,rfl,.inl ⟨rfl,rfl⟩⟩,trivial⟩
 ·rintro⟨k,hk⟩;simp only;by_cases hA:k<l.length
  ·skip
   have hA':=ltE hA;have n0:=nnE k;have hg:=Q4k l k hA;have hd:=Qp3 l[k] s;have hwk:=wrE (n:=k) (by omega);unfold dvV at hd;have hlt:=h _ (List.getElem_mem hA);rw [Q4l hlt]at hd;generalize l[k]=w at*;repeat (first|simp -implicitDefEqProofs only [go_sem,seval,hA',n0,hg,dvV,hwk,Int.toNat_natCast]|(with_reducible refine Qaa hd ?_ ?_ ?_);rfl;rfl)
   refine⟨⟨k+1,hA⟩,by simp only;omega,Qaj (θ:=[(1000000,1000000)]) rfl ?_ ?_⟩
   ·simp [Qac,lkp,ren1,ren0,Qah,wF]
   ·exact⟨⟨rfl,rfl,rfl,rfl,rfl,.inl ⟨rfl,rfl⟩⟩,trivial⟩
  ·have hA':=ltE' hA;repeat simp -implicitDefEqProofs only [go_sem,seval,hA']
   refine Qat (.inl rfl) ?_;simp -implicitDefEqProofs only [go_sem,seval];refine Qaj (θ:=[(1000000,1000000)]) rfl ?_ ?_
   ·simp [Qac,lkp,ren1,ren0,Qah,wF]
   ·exact⟨⟨rfl,rfl,rfl,rfl,rfl,.inl ⟨rfl,rfl⟩⟩,trivial⟩
theorem Zdo (s:Int) (l:List Dv) (hl:l.length≤100000) (i:Nat) (hi:i<l.length) (h0: ¬l[i].a=s) (h1: ∀(j:Nat) (hj:j<i),(l[j]'(by omega)).a=s):
  Qbq Tryz.prog 60 [.bs 1000000 4 0 l.length,wF s] [(1000000,dvB l)] (.int .i64 (i:Int)) [(1000000,dvB l)]:=by
 skip
 refine Qa6 (tb:=[]) 19 [.tmp 4] [0,1,4,5,7,8,9,16] mixed Tryz.func60 rfl (by kernel_rfl) (by kernel_rfl) (by kernel_rfl) (by kernel_rfl) (by rfl) ?_;repeat simp -implicitDefEqProofs only [go_sem,seval]
 refine Qav mixed (fun k:{k:Nat // k≤i}=>St.of [(0,.bs 1000000 4 0 l.length),(1,wF s),(7,.int .i64 (l.length:Int)),(8,.int .i64 (k.1:Int))] [(1000000,dvB l)]) (fun k=>i-k.1) ⟨0,Nat.zero_le _⟩ ?_ ?_
 ·refine Qaj (θ:=[(1000000,1000000)]) rfl ?_ ?_
  ·simp [Qac,lkp,ren1,ren0,Qah,wF]
  ·exact⟨⟨rfl,rfl,rfl,rfl,rfl,.inl ⟨rfl,rfl⟩⟩,trivial⟩
 ·rintro⟨k,hk⟩;simp only;have hA:k<l.length:=by omega
  have hA':=ltE hA;have n0:=nnE k;have hg:=Q4k l k hA;have hd:=Qp3 l[k] s;have hwk:=wrE (n:=k) (by omega);unfold dvV at hd;by_cases hq:k<i
  ·have hlt:=h1 k hq;rw [Q4l hlt]at hd;generalize l[k]=w at*;repeat (first|simp -implicitDefEqProofs only [go_sem,seval,hA',n0,hg,dvV,hwk,Int.toNat_natCast]|(with_reducible refine Qaa hd ?_ ?_ ?_);rfl;rfl)
   refine⟨⟨k+1,hq⟩,by simp only;omega,Qaj (θ:=[(1000000,1000000)]) rfl ?_ ?_⟩
   ·simp [Qac,lkp,ren1,ren0,Qah,wF]
   ·exact⟨⟨rfl,rfl,rfl,rfl,rfl,.inl ⟨rfl,rfl⟩⟩,trivial⟩
  ·obtain rfl:k=i:=by omega
   rw [Zm6 h0]at hd;generalize l[k]=w at*;repeat (first|simp -implicitDefEqProofs only [go_sem,seval,hA',n0,hg,dvV,Int.toNat_natCast]|(with_reducible refine Qaa hd ?_ ?_ ?_);rfl;rfl)
   refine Qat (.inl rfl) ?_;simp -implicitDefEqProofs only [go_sem,seval];refine Qaj (θ:=[(1000000,1000000)]) rfl ?_ ?_
   ·simp [Qac,lkp,ren1,ren0,Qah,wF]
   ·exact⟨⟨rfl,rfl,rfl,rfl,rfl,.inl ⟨rfl,rfl⟩⟩,trivial⟩
set_option maxHeartbeats 4000000 in
theorem Zo3 (s:Int) (l:List Dv) (hl:l.length≤100000):Qbq Tryz.prog 36 [.bs 1000000 4 0 l.length,wF s] [(1000000,dvB l)] (.bs 1000000 4 0 (Qbk s l).length) [(1000000,dvB (if(Qbk s l).length=l.length then l else delL s l))]:=by
 rcases Zvh s l with h|⟨i,hi,h0,h1⟩
 ·have hk:=Qro h;have hx:=Zdn s l hl h;rw [hk,if_pos rfl]

  refine Qa6 (tb:=[(102,[(1000000,1000000)],[])]) 42 [.tmp 4] [0,1,4,5,6,7,12,19,29] mixed Tryz.func36 rfl (by kernel_rfl) (by kernel_rfl) (by kernel_rfl) (by kernel_rfl) (by rfl) ?_;repeat (first|simp -implicitDefEqProofs only [go_sem,seval]|(with_reducible refine Qan hx ?_ ?_ ?_ ?_);rfl;rfl;rfl)
  refine Qat (.inl rfl) ?_;simp -implicitDefEqProofs only [go_sem,seval];refine Qaj (θ:=[(1000000,1000000)]) rfl ?_ ?_
  ·simp [Qac,lkp,ren1,ren0,Qah,wF]
  ·exact⟨⟨rfl,rfl,rfl,rfl,rfl,.inl ⟨rfl,rfl⟩⟩,trivial⟩
 ·have hx:=Zdo s l hl i hi h0 h1;have hkl:=Zcx hi h0;rw [if_neg (by omega)];obtain⟨e1,e2⟩:=Qyt (s:=s) (l:=l) (i:=i) (by omega) h1;have e3:delD s l (i+1)=l:=by rw [Qw1 hi h0,e2]
  have e4:(Qbk s (l.take (i+1))).length=i:=by rw [Qd9 hi,if_neg h0,List.append_nil,e1,List.length_take];omega
  have hwi:=wrE (n:=i) (by omega);have nm1:((i:Int)== -1)=false:=beq_eq_false_iff_ne.2 (by omega)

  refine Qa6 (tb:=[(102,[(1000000,1000000)],[])]) 42 [.tmp 4] [0,1,4,5,6,7,12,19,29] mixed Tryz.func36 rfl (by kernel_rfl) (by kernel_rfl) (by kernel_rfl) (by kernel_rfl) (by rfl) ?_;repeat (first|simp -implicitDefEqProofs only [go_sem,seval,nm1,hwi]|(with_reducible refine Qan hx ?_ ?_ ?_ ?_);rfl;rfl;rfl)
  refine Qav mixed (fun j:{j:Nat // i+1≤j∧j≤l.length∧(Qbk s (l.take j)).length<j}=>St.of [(0,.bs 1000000 4 0 l.length),(1,wF s),(5,.int .i64 ((Qbk s (l.take j.1)).length:Int)),(6,.int .i64 (j.1:Int))] [(1000000,dvB (delD s l j.1))]) (fun j=>l.length-j.1) ⟨i+1,Nat.le_refl _,hi,by omega⟩ ?_ ?_
  ·simp only [e3,e4];refine Qaj (θ:=[(1000000,1000000)]) rfl ?_ ?_
   ·simp [Qac,lkp,ren1,ren0,Qah,wF]
   ·exact⟨⟨rfl,rfl,rfl,rfl,rfl,.inl ⟨rfl,rfl⟩⟩,trivial⟩
  ·rintro⟨j,hj0,hj,hK⟩;simp only;have hkt:=Qjg s l j;by_cases hA:j<l.length
   ·have hA':=ltE hA;have n0:=nnE j;have hg:((delD s l j).map dvV)[j]? =some (dvV l[j]):=by rw [List.getElem?_map,Zcw hkt,List.getElem?_eq_getElem hA];rfl
    have hd:=Qp3 l[j] s;have hwj:=wrE (n:=j) (by omega);have hlen:((delD s l j).map dvV).length=l.length:=by rw [List.length_map,Qk5 s l j hj]
    unfold dvV at hd;by_cases hq:l[j].a=s
    ·rw [Q4l hq]at hd;have s1:=Znz hA hq;have s2:(Qbk s (l.take (j+1))).length=(Qbk s (l.take j)).length+1:=by rw [Qd9 hA,if_pos hq,List.length_append];rfl
     have hst:=dvset (delD s l j) (Qbk s (l.take j)).length l[j];rw [←s1]at hst;have hKl:(Qbk s (l.take j)).length<(delD s l j).length:=by rw [Qk5 s l j hj];omega
     obtain⟨w',hw'⟩: ∃w',((delD s l j).map dvV)[(Qbk s (l.take j)).length]? =some (dvV w'):=⟨_,Q4k _ _ hKl⟩;clear s1 hKl;generalize (Qbk s (l.take j)).length=K at*;generalize hD:delD s l (j+1)=D at*;generalize l[j]=w at*;have wK:=wrE (n:=K) (by omega);have nK:=nnE K;have lK:=ltE (show K<l.length by omega);repeat (first|simp -implicitDefEqProofs only [go_sem,seval,Zo2,hA',n0,hg,dvV,hwj,wK,nK,lK,hst,hw',Int.toNat_natCast]|(with_reducible refine Qaa hd ?_ ?_ ?_);rfl;rfl)
     refine⟨⟨j+1,by omega,hA,by rw [s2];omega⟩,by simp only;omega,Qaj (θ:=[(1000000,1000000)]) rfl ?_ ?_⟩
     ·simp only [s2];simp [Qac,lkp,ren1,ren0,Qah,wF]
     ·simp only [hD];exact⟨⟨rfl,rfl,rfl,rfl,rfl,.inl ⟨rfl,rfl⟩⟩,trivial⟩
    ·rw [Zm6 hq]at hd;have s1:=Qw1 hA hq;have s2:(Qbk s (l.take (j+1))).length=(Qbk s (l.take j)).length:=by rw [Qd9 hA,if_neg hq,List.append_nil]
     generalize (Qbk s (l.take j)).length=K at*;generalize l[j]=w at*;generalize hD:delD s l j=D at*;repeat (first|simp -implicitDefEqProofs only [go_sem,seval,Zo2,hA',n0,hg,dvV,hwj,Int.toNat_natCast]|(with_reducible refine Qaa hd ?_ ?_ ?_);rfl;rfl)
     refine⟨⟨j+1,by omega,hA,by rw [s2];omega⟩,by simp only;omega,Qaj (θ:=[(1000000,1000000)]) rfl ?_ ?_⟩
     ·simp only [s2];simp [Qac,lkp,ren1,ren0,Qah,wF]
     ·simp only [s1];exact⟨⟨rfl,rfl,rfl,rfl,rfl,.inl ⟨rfl,rfl⟩⟩,trivial⟩
   ·have hA':=ltE' hA;obtain rfl:j=l.length:=by omega
    have hKl:(Qbk s (l.take l.length)).length=(Qbk s l).length:=by rw [List.take_length]
    have c1:(((Qbk s l).length:Int)≤(l.length:Int))=True:=eq_true (by omega);have c2:((Qbk s l).length<l.length)=True:=eq_true hkl;have nk:=nnE (Qbk s l).length;have f1:(Nat.ble 0 (Qbk s l).length&&((Qbk s l).length+(l.length-(Qbk s l).length)).ble ((delD s l l.length).map dvV).length)=true:=by
     rw [List.length_map,Qk5 s l l.length (Nat.le_refl _),Bool.and_eq_true];exact⟨Nat.ble_eq_true_of_le (Nat.zero_le _),Nat.ble_eq_true_of_le (by omega)⟩
    have f2:((delD s l l.length).map dvV).take (Qbk s l).length++List.replicate (l.length-(Qbk s l).length) (PV.agg [.int .i64 0,.int .i64 0,.int .i64 0,.int .i64 0])++
      ((delD s l l.length).map dvV).drop ((Qbk s l).length+(List.replicate (l.length-(Qbk s l).length) (PV.agg [.int .i64 0,.int .i64 0,.int .i64 0,.int .i64 0])).length)=(delL s l).map dvV:=by
     have g1:(delD s l l.length).take (Qbk s l).length=Qbk s l:=by
      unfold delD;rw [List.take_length];exact List.take_left' rfl
     have g2:((delD s l l.length).map dvV).drop ((Qbk s l).length+(List.replicate (l.length-(Qbk s l).length) (PV.agg [.int .i64 0,.int .i64 0,.int .i64 0,.int .i64 0])).length)=[]:=List.drop_eq_nil_of_le (by rw [List.length_map,Qk5 s l l.length (Nat.le_refl _),List.length_replicate];omega);rw [g2,←List.map_take,g1,List.append_nil];unfold delL;rw [List.map_append,List.map_replicate];rfl
    simp only [hKl];repeat simp -implicitDefEqProofs only [go_sem,seval,Zo2,hA',c1,c2,nk,f1,f2,Int.toNat_natCast]
    refine Qat (.inl rfl) ?_;simp -implicitDefEqProofs only [go_sem,seval];refine Qaj (θ:=[(1000000,1000000)]) rfl ?_ ?_
    ·simp [Qac,lkp,ren1,ren0,Qah,wF]
    ·exact⟨⟨rfl,rfl,rfl,rfl,rfl,.inl ⟨rfl,rfl⟩⟩,trivial⟩
end Go.Proofs.YtnohfmdlaajpbaaGreat
