/-
  OE17, OE18, OE19, OE20, OE21, OE22, OE30, Daz, OE31 (merged for the claim).
-/
import Derived.Test.YtnohfmdlaajpbaaGreatDax
import Derived.Test.YtnohfmdlaajpbaaGreatRows
import Derived.Test.YtnohfmdlaajpbaaGreatUV
set_option linter.unusedSimpArgs false
set_option linter.unusedVariables false
namespace Go.Proofs.YtnohfmdlaajpbaaGreat
open Go.Vl Go.RowKit Go.Dg
theorem Qx4 (p:Pg) (s:Int) (hs:0≤s∧s≤3600000) (L:List Rc) (hL: ∀k,k<L.length→recB (L.getD k rc0)=true): ∀i,i≤L.length→okD (dvs p s L i)
 |0,_,d,hd=>by cases hd
 |i+1,hi,d,hd=>by
  have hf:=hL i (by omega);have hd':d∈dvs p s L i++dv1 p.ns.length s (sqR p s) i (L.getD i rc0):=hd;rcases List.mem_append.1 hd' with h|h
  ·exact Qx4 p s hs L hL i (by omega) d h
  ·unfold dv1 at h;split at h
   ·rename_i hp;simp only [List.mem_singleton]at h;subst h;have ht:=Qcq hf;simp only [isP,Bool.and_eq_true,decide_eq_true_eq]at hp;have hpt:ptB (L.getD i rc0).v=true:=by rcases ht.2.2 with q|q|q<;>first|exact q.2.1|omega
    have hq:=Zxd (Qx2 (Qba p ((L.getD i rc0).a-1).toNat p.as_.length) (min (max ((L.getD i rc0).t-s) 0) (begT p p.as_.length))) hpt;simp only;refine⟨by omega,?_⟩;unfold sqR;exact hq
   ·cases h
theorem Qkm (D:List Dv) (i:Nat) (h:i<D.length):(D.map dvV)[i]? =some (.agg [.int .i64 (D.getD i dv0).i,.int .i64 (D.getD i dv0).a,.int .i64 (D.getD i dv0).t,.int .i64 (D.getD i dv0).q]):=by
 rw [List.getElem?_map,List.getElem?_eq_getElem h,List.getD_eq_getElem?_getD,List.getElem?_eq_getElem h];rfl
abbrev prP (p:Pg):PV:= .rp [.slc (p.ns.map PV.str),.slc (p.hs.map v3PV),.slc (p.as_.map acV)]
abbrev fnL (F:List Go.Dg.Fd):List (Nat×Box):=[(800,ouB 7 F.length),(901,adB 800),(7,fdB F)]
theorem Qu1 (F:List Go.Dg.Fd) (k a i t:Int) (hl:F.length≤1000000):Qbv Tryz.prog 48 [.int .i64 k,.int .i64 a,.int .i64 i,.int .i64 t,.bp 1000000 1 0 0] [(1000000,ouB 1000001 F.length),(1000001,fdB F)] (.tup []) [(1000000,ouB 9 (F++[(⟨k,a,i,t⟩:Go.Dg.Fd)]).length),(1000001,fdD),(9,fdB (F++[(⟨k,a,i,t⟩:Go.Dg.Fd)]))]:=by
 rw [show(F++[(⟨k,a,i,t⟩:Go.Dg.Fd)]).length=F.length+1 by simp];exact Zoa F k a i t hl
noncomputable def fndC:Code:=(Tryz.f23.body).getD .skip
abbrev fnV (p:Pg) (L:List Rc) (s tol gap len:Int) (D:List Dv) (n:Int):List (Nat×PV):=[(1,lgR L),(6,.rp [.int .i64 s]),(7,.rp [.int .i64 tol,.int .i64 gap]),(11,.bp 800 1 0 0),(12,.bp 901 1 0 0),(15,.int .i64 len),(17,.slc (D.map dvV)),(74,.int .i64 (p.ns.length:Int)),(75,.int .i64 n)]
abbrev fnT:Tab:=[(2606,[(1000000,800),(1000001,7)],[(9,9)]),(3002,[(1000000,800),(1000001,7)],[(9,9)]),(3204,[(1000000,800),(1000001,7)],[(9,9)]),(3706,[(1000000,800),(1000001,7)],[(9,9)]),(3903,[(1000000,901),(1000001,800),(1000002,7)],[(9,9)])]
set_option maxHeartbeats 16000000 in
set_option maxRecDepth 100000 in
theorem Qp8 (p:Pg) (hf:FewP p) (v:Qbd p=true) (hN:p.as_.length≠0) (s:Int) (hs:0≤s∧s≤3600000) (tol gap:Int) (ht:0≤tol∧tol≤1000000) (hg:1≤gap∧gap≤3600000) (L:List Rc) (hl:L.length≤1000) (hL: ∀k,k<L.length→recB (L.getD k rc0)=true) (U:List Go.Dg.Fd) (hU:U.length≤L.length):
  Vgo Tryz.prog 164 (codes ((Qcj fndC).drop 6) []) (vret Tryz.prog [.tmp 8,.tmp 9] (· = .tup [.slc ((U++ofTo gap tol s (begT p p.as_.length) (dvs p s L L.length) L p.ns.length).map fdV),.int .i64 0])) (St.of [(1,lgR L),(4,prP p),(6,.rp [.int .i64 s]),(7,.rp [.int .i64 tol,.int .i64 gap]),(11,.bp 800 1 0 0),(12,.bp 901 1 0 0)] (fnL U)):=by
 skip
 have hPr:=Qqd p (Qgb hf) v;have hDv:=Q49 p hf v hN s hs L (by omega) hL;have hbt:=Qd3 v (k:=p.as_.length) (Nat.le_refl _);have hDl:(dvs p s L L.length).length≤L.length:=Qew p.ns.length s (sqR p s) L L.length;have hDo:=Qx4 p s hs L hL L.length (Nat.le_refl _);have hSt:=fun(n:Nat) (hn:n<p.ns.length) (F:List Go.Dg.Fd) (hF:F.length≤100000)=>Qx1 L (n:Int) s F (by omega) hL (by have:=hf.1;omega) hs hF;have hN5:=hf.1;generalize hDD:dvs p s L L.length=D at*;have hol:=Qg0 gap tol s (begT p p.as_.length) D L;have bl9':Nat.blt 9 1000000=true:=rfl;have ble7:Nat.ble 1000000 1000002=true:=rfl;unfold pgV at hPr hDv;have hll:=Qrw;have htq:IntKind.i64.wrap (tol*tol)=tol*tol:=by
  have h1:0≤tol*tol:=Int.mul_nonneg ht.1 ht.1;have h2:tol*tol≤1000000*1000000:=Int.mul_le_mul ht.2 ht.2 ht.1 (by decide);exact Qag (by omega) (by omega)
 generalize begT p p.as_.length=len at*;refine v_go (tb:=fnT) (ks:=[0,1,2,3,4,6,7,8,9,10,11,12,13,14,15,17,18,19,20,21,23,25,31,33,37,44,45,46,52,74,75,76,78,79,80,81,94,101,115,124,130,131,132,133,149]) mixed ?_;dsimp only [fndC,Tryz.f23,Option.getD_some];simp only [codes,Qcj,List.take_succ_cons,List.take_zero,List.drop_succ_cons,List.drop_zero,List.foldr_cons,List.foldr_nil];repeat (first|simp -implicitDefEqProofs only [go_sem,seval,lgR,List.length_map]|(with_reducible refine Qaa hPr ?_ ?_ ?_);rfl;rfl|(with_reducible refine Qaa hDv ?_ ?_ ?_);rfl;rfl)
 refine Qas mixed (fun n:{n:Nat // n≤p.ns.length}=>St.of (fnV p L s tol gap len D (n.1:Int)) (fnL (U++ofTo gap tol s len D L n.1))) (fun n=>p.ns.length-n.1) ⟨0,Nat.zero_le _⟩ ?_ ?_
 ·have e0:ofTo gap tol s len D L 0=[]:=rfl;simp only [e0,List.append_nil];refine Qaj (θ:=[(800,800),(901,901),(7,7)]) rfl ?_ ?_
  ·simp [Qac,lkp,ren1,ren0,Qah]
  ·exact⟨⟨rfl,rfl,rfl,rfl,rfl,.inr ⟨rfl,_,_,rfl,rfl,rfl,rfl⟩⟩,⟨rfl,rfl,rfl,rfl,rfl,.inr ⟨rfl,_,_,rfl,rfl,rfl,rfl⟩⟩,⟨rfl,rfl,rfl,rfl,rfl,.inl ⟨rfl,rfl⟩⟩,trivial⟩
 ·rintro⟨n,hn⟩;simp only;by_cases hA:n<p.ns.length
  ·have hA':=ltE hA;have n0:=nnE n;have hwn:=wrE (n:=n) (by omega);have hGl:(U++ofTo gap tol s len D L n).length≤20000:=by
    have:=hol n;rw [List.length_append];have h5:n*(2*D.length+L.length+1)≤5*(2*D.length+L.length+1):=Nat.mul_le_mul_right _ (by omega);generalize n*(2*D.length+L.length+1)=X at*;omega
   have hst:U++ofTo gap tol s len D L (n+1)=U++ofTo gap tol s len D L n++ofN gap tol s len D L (n:Int):=by rw [List.append_assoc];rfl
   unfold ofN at hst;generalize U++ofTo gap tol s len D L n=G at*;repeat simp -implicitDefEqProofs only [go_sem,seval,hA',List.length_map]
   refine Qas mixed (fun i:{i:Nat // i≤D.length}=>St.of ([(18,.bp 1901 1 0 0),(19,.int .i64 (gapA gap (n:Int) len D i.1).last),(20,.int .i64 (gapA gap (n:Int) len D i.1).rec_),(21,.bool (gapA gap (n:Int) len D i.1).found),(78,.slc (D.map dvV)),(79,.int .i64 (D.length:Int)),(80,.int .i64 (i.1:Int))]++fnV p L s tol gap len D (n:Int)) ([(1901,stB (n:Int))]++fnL (G++(gapA gap (n:Int) len D i.1).out))) (fun i=>D.length-i.1) ⟨0,Nat.zero_le _⟩ ?_ ?_
   ·have e0:gapA gap (n:Int) len D 0=⟨0,0,false,[]⟩:=rfl;simp only [e0,List.append_nil];refine Qaj (θ:=[(1901,1901),(800,800),(901,901),(7,7)]) rfl ?_ ?_
    ·simp [Qac,lkp,ren1,ren0,Qah]
    ·exact⟨⟨rfl,rfl,rfl,rfl,rfl,.inr ⟨rfl,_,_,rfl,rfl,rfl,rfl⟩⟩,⟨rfl,rfl,rfl,rfl,rfl,.inr ⟨rfl,_,_,rfl,rfl,rfl,rfl⟩⟩,⟨rfl,rfl,rfl,rfl,rfl,.inr ⟨rfl,_,_,rfl,rfl,rfl,rfl⟩⟩,⟨rfl,rfl,rfl,rfl,rfl,.inl ⟨rfl,rfl⟩⟩,trivial⟩
   ·rintro⟨i,hi⟩;simp only;have hln:=Qpp gap (n:Int) len D i;have hla:=hll gap (n:Int) len D (by omega) i;by_cases hB:i<D.length
    ·have hB':=ltE hB;have i0:=nnE i;have hwi:=wrE (n:=i) (by omega);have hgd:=Qkm D i hB;have hdo:=Zpa hDo hB;have hsg:gapA gap (n:Int) len D (i+1)=if inD (n:Int) len (D.getD i dv0)=true then⟨(D.getD i dv0).t,(D.getD i dv0).i,true,if gap<(D.getD i dv0).t-(gapA gap (n:Int) len D i).last then(gapA gap (n:Int) len D i).out++[⟨3,(n:Int),(D.getD i dv0).i,(D.getD i dv0).t⟩]else(gapA gap (n:Int) len D i).out⟩else gapA gap (n:Int) len D i:=rfl;unfold inD at hsg;have hwb:=Quv (D.getD i dv0).t 0 len;generalize D.getD i dv0=d at*;generalize gapA gap (n:Int) len D i=g at*;have htw:IntKind.i64.wrap (d.t-g.last)=d.t-g.last:=Qag (by omega) (by omega);cases hda:(d.a==(n:Int))with
     |false=>
      have hda':(d.a != (n:Int))=true:=by simp [bne,hda]
      rw [bq,hda,Bool.false_and,if_neg (by decide)]at hsg;repeat simp -implicitDefEqProofs only [go_sem,seval,hB',i0,hgd,hda',hwi,Int.toNat_natCast,List.length_map]
      refine⟨⟨i+1,hB⟩,by simp only;omega,?_⟩;simp only [hsg];refine Qaj (θ:=[(1901,1901),(800,800),(901,901),(7,7)]) rfl ?_ ?_
      ·simp [Qac,lkp,ren1,ren0,Qah]
      ·exact⟨⟨rfl,rfl,rfl,rfl,rfl,.inr ⟨rfl,_,_,rfl,rfl,rfl,rfl⟩⟩,⟨rfl,rfl,rfl,rfl,rfl,.inr ⟨rfl,_,_,rfl,rfl,rfl,rfl⟩⟩,⟨rfl,rfl,rfl,rfl,rfl,.inr ⟨rfl,_,_,rfl,rfl,rfl,rfl⟩⟩,⟨rfl,rfl,rfl,rfl,rfl,.inl ⟨rfl,rfl⟩⟩,trivial⟩
     |true=>
     have hda':(d.a != (n:Int))=false:=by simp [bne,hda]
     rw [bq,hda,Bool.true_and]at hsg;cases hwt:wiB d.t 0 len with
     |false=>
      rw [hwt]at hwb;rw [hwt,if_neg (by decide)]at hsg;repeat (first|simp -implicitDefEqProofs only [go_sem,seval,hB',i0,hgd,hda',hwi,Bool.not_false,Int.toNat_natCast,List.length_map]|(with_reducible refine Qaa hwb ?_ ?_ ?_);rfl;rfl)
      refine⟨⟨i+1,hB⟩,by simp only;omega,?_⟩;simp only [hsg];refine Qaj (θ:=[(1901,1901),(800,800),(901,901),(7,7)]) rfl ?_ ?_
      ·simp [Qac,lkp,ren1,ren0,Qah]
      ·exact⟨⟨rfl,rfl,rfl,rfl,rfl,.inr ⟨rfl,_,_,rfl,rfl,rfl,rfl⟩⟩,⟨rfl,rfl,rfl,rfl,rfl,.inr ⟨rfl,_,_,rfl,rfl,rfl,rfl⟩⟩,⟨rfl,rfl,rfl,rfl,rfl,.inr ⟨rfl,_,_,rfl,rfl,rfl,rfl⟩⟩,⟨rfl,rfl,rfl,rfl,rfl,.inl ⟨rfl,rfl⟩⟩,trivial⟩
     |true=>
     rw [hwt]at hwb;rw [hwt,if_pos rfl]at hsg;by_cases hgp:gap<d.t-g.last
     ·have hgp':=eq_true hgp;rw [if_pos hgp]at hsg;have hadd:=Qu1 (G++g.out) 3 (n:Int) d.i d.t (by rw [List.length_append];omega);rw [List.append_assoc]at hadd;generalize g.out++[(⟨3,(n:Int),d.i,d.t⟩:Go.Dg.Fd)]=go2 at*;repeat (first|simp -implicitDefEqProofs only [go_sem,seval,hB',i0,hgd,hda',hwi,htw,hgp',bl13,bl14,bl9',Bool.not_true,Int.toNat_natCast]|(with_reducible refine Qaa hwb ?_ ?_ ?_);rfl;rfl|(with_reducible refine Qai hadd ?_ ?_ ?_ ?_);rfl;rfl;rfl|(with_reducible refine And.intro (Qad _ _ (by kernel_rfl)) ?_))
      refine⟨⟨i+1,hB⟩,by simp only;omega,?_⟩;simp only [hsg];refine Qaj (θ:=[(1901,1901),(800,800),(901,901),(7,9)]) rfl ?_ ?_
      ·simp [Qac,lkp,ren1,ren0,Qah]
      ·exact⟨⟨rfl,rfl,rfl,rfl,rfl,.inr ⟨rfl,_,_,rfl,rfl,rfl,rfl⟩⟩,⟨rfl,rfl,rfl,rfl,rfl,.inr ⟨rfl,_,_,rfl,rfl,rfl,rfl⟩⟩,⟨rfl,rfl,rfl,rfl,rfl,.inr ⟨rfl,_,_,rfl,rfl,rfl,rfl⟩⟩,⟨rfl,rfl,rfl,rfl,rfl,.inl ⟨rfl,rfl⟩⟩,trivial⟩
     ·have hgp':=eq_false hgp;rw [if_neg hgp]at hsg;repeat (first|simp -implicitDefEqProofs only [go_sem,seval,hB',i0,hgd,hda',hwi,htw,hgp',Bool.not_true,Int.toNat_natCast]|(with_reducible refine Qaa hwb ?_ ?_ ?_);rfl;rfl|(with_reducible refine And.intro (Qad _ _ (by kernel_rfl)) ?_))
      refine⟨⟨i+1,hB⟩,by simp only;omega,?_⟩;simp only [hsg];refine Qaj (θ:=[(1901,1901),(800,800),(901,901),(7,7)]) rfl ?_ ?_
      ·simp [Qac,lkp,ren1,ren0,Qah]
      ·exact⟨⟨rfl,rfl,rfl,rfl,rfl,.inr ⟨rfl,_,_,rfl,rfl,rfl,rfl⟩⟩,⟨rfl,rfl,rfl,rfl,rfl,.inr ⟨rfl,_,_,rfl,rfl,rfl,rfl⟩⟩,⟨rfl,rfl,rfl,rfl,rfl,.inr ⟨rfl,_,_,rfl,rfl,rfl,rfl⟩⟩,⟨rfl,rfl,rfl,rfl,rfl,.inl ⟨rfl,rfl⟩⟩,trivial⟩
    ·have hB':=ltE' hB;obtain rfl:i=D.length:=by omega
     unfold Qk9 at hst;generalize gapA gap (n:Int) len D D.length=g at*;have htw:IntKind.i64.wrap (len-g.last)=len-g.last:=Qag (by omega) (by omega);cases hfo:g.found with
     |false=>
      rw [hfo,if_neg (by decide)]at hst;have hadd:=Qu1 (G++g.out) 2 (n:Int) 0 0 (by rw [List.length_append];omega);have hG2:(G++g.out++[(⟨2,(n:Int),0,0⟩:Go.Dg.Fd)]).length≤30000:=by simp only [List.length_append,List.length_cons,List.length_nil];omega
      have hst2:U++ofTo gap tol s len D L (n+1)=G++g.out++[(⟨2,(n:Int),0,0⟩:Go.Dg.Fd)]++offs tol (n:Int) D D.length++(stA s (n:Int) L L.length).out:=by rw [hst];simp only [List.append_assoc]
      generalize G++g.out++[(⟨2,(n:Int),0,0⟩:Go.Dg.Fd)]=G2 at*;repeat (first|simp -implicitDefEqProofs only [go_sem,seval,hB',bl13,bl14,bl9',Bool.not_false,List.length_map]|(with_reducible refine Qai hadd ?_ ?_ ?_ ?_);rfl;rfl;rfl)
      refine Qas mixed (fun i:{i:Nat // i≤D.length}=>St.of ([(18,.bp 1901 1 0 0),(130,.slc (D.map dvV)),(131,.int .i64 (D.length:Int)),(132,.int .i64 (i.1:Int))]++fnV p L s tol gap len D (n:Int)) ([(1901,stB (n:Int))]++fnL (G2++offs tol (n:Int) D i.1))) (fun i=>D.length-i.1) ⟨0,Nat.zero_le _⟩ ?_ ?_
      ·have e0:offs tol (n:Int) D 0=[]:=rfl;simp only [e0,List.append_nil];refine Qaj (θ:=[(1901,1901),(800,800),(901,901),(7,9)]) rfl ?_ ?_
       ·simp [Qac,lkp,ren1,ren0,Qah]
       ·exact⟨⟨rfl,rfl,rfl,rfl,rfl,.inr ⟨rfl,_,_,rfl,rfl,rfl,rfl⟩⟩,⟨rfl,rfl,rfl,rfl,rfl,.inr ⟨rfl,_,_,rfl,rfl,rfl,rfl⟩⟩,⟨rfl,rfl,rfl,rfl,rfl,.inr ⟨rfl,_,_,rfl,rfl,rfl,rfl⟩⟩,⟨rfl,rfl,rfl,rfl,rfl,.inl ⟨rfl,rfl⟩⟩,trivial⟩
      ·rintro⟨i,hi⟩;simp only;have hlo:=Qgz tol (n:Int) D i;by_cases hB:i<D.length
       ·have hB':=ltE hB;have i0:=nnE i;have hwi:=wrE (n:=i) (by omega);have hgd:=Qkm D i hB;have hsg:offs tol (n:Int) D (i+1)=offs tol (n:Int) D i++off1 tol (n:Int) (D.getD i dv0):=rfl;unfold off1 at hsg;generalize D.getD i dv0=d at*;generalize offs tol (n:Int) D i=ofs at*;cases hda:(d.a==(n:Int))with
        |false=>
         rw [bq,hda,Bool.false_and,if_neg (by decide),List.append_nil]at hsg;repeat simp -implicitDefEqProofs only [go_sem,seval,hB',i0,hgd,hda,hwi,Int.toNat_natCast]
         refine⟨⟨i+1,hB⟩,by simp only;omega,?_⟩;simp only [hsg];refine Qaj (θ:=[(1901,1901),(800,800),(901,901),(7,7)]) rfl ?_ ?_
         ·simp [Qac,lkp,ren1,ren0,Qah]
         ·exact⟨⟨rfl,rfl,rfl,rfl,rfl,.inr ⟨rfl,_,_,rfl,rfl,rfl,rfl⟩⟩,⟨rfl,rfl,rfl,rfl,rfl,.inr ⟨rfl,_,_,rfl,rfl,rfl,rfl⟩⟩,⟨rfl,rfl,rfl,rfl,rfl,.inr ⟨rfl,_,_,rfl,rfl,rfl,rfl⟩⟩,⟨rfl,rfl,rfl,rfl,rfl,.inl ⟨rfl,rfl⟩⟩,trivial⟩
        |true=>
        rw [bq,hda,Bool.true_and]at hsg;by_cases hgq:tol*tol<d.q
        ·have hgq':=eq_true hgq;rw [decide_eq_true hgq,if_pos rfl]at hsg;have hadd:=Qu1 (G2++ofs) 4 (n:Int) d.i d.t (by rw [List.length_append];omega);rw [List.append_assoc]at hadd;generalize ofs++[(⟨4,(n:Int),d.i,d.t⟩:Go.Dg.Fd)]=go3 at*;repeat (first|simp -implicitDefEqProofs only [go_sem,seval,hB',i0,hgd,hda,hwi,htq,hgq',decide_true,bl13,bl14,bl9',Int.toNat_natCast]|(with_reducible refine Qai hadd ?_ ?_ ?_ ?_);rfl;rfl;rfl)
         refine⟨⟨i+1,hB⟩,by simp only;omega,?_⟩;simp only [hsg];refine Qaj (θ:=[(1901,1901),(800,800),(901,901),(7,9)]) rfl ?_ ?_
         ·simp [Qac,lkp,ren1,ren0,Qah]
         ·exact⟨⟨rfl,rfl,rfl,rfl,rfl,.inr ⟨rfl,_,_,rfl,rfl,rfl,rfl⟩⟩,⟨rfl,rfl,rfl,rfl,rfl,.inr ⟨rfl,_,_,rfl,rfl,rfl,rfl⟩⟩,⟨rfl,rfl,rfl,rfl,rfl,.inr ⟨rfl,_,_,rfl,rfl,rfl,rfl⟩⟩,⟨rfl,rfl,rfl,rfl,rfl,.inl ⟨rfl,rfl⟩⟩,trivial⟩
        ·have hgq':=eq_false hgq;rw [decide_eq_false hgq,if_neg (by decide),List.append_nil]at hsg;repeat simp -implicitDefEqProofs only [go_sem,seval,hB',i0,hgd,hda,hwi,htq,hgq',decide_false,Int.toNat_natCast]
         refine⟨⟨i+1,hB⟩,by simp only;omega,?_⟩;simp only [hsg];refine Qaj (θ:=[(1901,1901),(800,800),(901,901),(7,7)]) rfl ?_ ?_
         ·simp [Qac,lkp,ren1,ren0,Qah]
         ·exact⟨⟨rfl,rfl,rfl,rfl,rfl,.inr ⟨rfl,_,_,rfl,rfl,rfl,rfl⟩⟩,⟨rfl,rfl,rfl,rfl,rfl,.inr ⟨rfl,_,_,rfl,rfl,rfl,rfl⟩⟩,⟨rfl,rfl,rfl,rfl,rfl,.inr ⟨rfl,_,_,rfl,rfl,rfl,rfl⟩⟩,⟨rfl,rfl,rfl,rfl,rfl,.inl ⟨rfl,rfl⟩⟩,trivial⟩
       ·have hB':=ltE' hB;obtain rfl:i=D.length:=by omega
        have hS:=hSt n hA (G2++offs tol (n:Int) D D.length) (by rw [List.length_append];omega);rw [←hst2]at hS;repeat (first|simp -implicitDefEqProofs only [go_sem,seval,hB',hwn,bl13,bl14,ble7,bl9']|(with_reducible refine Qai hS ?_ ?_ ?_ ?_);rfl;rfl;rfl)
        refine⟨⟨n+1,hA⟩,by simp only;omega,?_⟩;refine Qaj (θ:=[(800,800),(901,901),(7,9)]) rfl ?_ ?_
        ·simp [Qac,lkp,ren1,ren0,Qah]
        ·exact⟨⟨rfl,rfl,rfl,rfl,rfl,.inr ⟨rfl,_,_,rfl,rfl,rfl,rfl⟩⟩,⟨rfl,rfl,rfl,rfl,rfl,.inr ⟨rfl,_,_,rfl,rfl,rfl,rfl⟩⟩,⟨rfl,rfl,rfl,rfl,rfl,.inl ⟨rfl,rfl⟩⟩,trivial⟩
     |true=>
     rw [hfo,if_pos rfl]at hst;by_cases hgp:gap<len-g.last
     ·have hgp':=eq_true hgp;rw [if_pos hgp]at hst;have hadd:=Qu1 (G++g.out) 3 (n:Int) g.rec_ len (by rw [List.length_append];omega);have hG2:(G++g.out++[(⟨3,(n:Int),g.rec_,len⟩:Go.Dg.Fd)]).length≤30000:=by simp only [List.length_append,List.length_cons,List.length_nil];omega
      have hst2:U++ofTo gap tol s len D L (n+1)=G++g.out++[(⟨3,(n:Int),g.rec_,len⟩:Go.Dg.Fd)]++offs tol (n:Int) D D.length++(stA s (n:Int) L L.length).out:=by rw [hst];simp only [List.append_assoc]
      generalize G++g.out++[(⟨3,(n:Int),g.rec_,len⟩:Go.Dg.Fd)]=G2 at*;repeat (first|simp -implicitDefEqProofs only [go_sem,seval,hB',htw,hgp',bl13,bl14,bl9',Bool.not_true,List.length_map]|(with_reducible refine Qai hadd ?_ ?_ ?_ ?_);rfl;rfl;rfl)
      refine Qas mixed (fun i:{i:Nat // i≤D.length}=>St.of ([(18,.bp 1901 1 0 0),(130,.slc (D.map dvV)),(131,.int .i64 (D.length:Int)),(132,.int .i64 (i.1:Int))]++fnV p L s tol gap len D (n:Int)) ([(1901,stB (n:Int))]++fnL (G2++offs tol (n:Int) D i.1))) (fun i=>D.length-i.1) ⟨0,Nat.zero_le _⟩ ?_ ?_
      ·have e0:offs tol (n:Int) D 0=[]:=rfl;simp only [e0,List.append_nil];refine Qaj (θ:=[(1901,1901),(800,800),(901,901),(7,9)]) rfl ?_ ?_
       ·simp [Qac,lkp,ren1,ren0,Qah]
       ·exact⟨⟨rfl,rfl,rfl,rfl,rfl,.inr ⟨rfl,_,_,rfl,rfl,rfl,rfl⟩⟩,⟨rfl,rfl,rfl,rfl,rfl,.inr ⟨rfl,_,_,rfl,rfl,rfl,rfl⟩⟩,⟨rfl,rfl,rfl,rfl,rfl,.inr ⟨rfl,_,_,rfl,rfl,rfl,rfl⟩⟩,⟨rfl,rfl,rfl,rfl,rfl,.inl ⟨rfl,rfl⟩⟩,trivial⟩
      ·rintro⟨i,hi⟩;simp only;have hlo:=Qgz tol (n:Int) D i;by_cases hB:i<D.length
       ·have hB':=ltE hB;have i0:=nnE i;have hwi:=wrE (n:=i) (by omega);have hgd:=Qkm D i hB;have hsg:offs tol (n:Int) D (i+1)=offs tol (n:Int) D i++off1 tol (n:Int) (D.getD i dv0):=rfl;unfold off1 at hsg;generalize D.getD i dv0=d at*;generalize offs tol (n:Int) D i=ofs at*;cases hda:(d.a==(n:Int))with
        |false=>
         rw [bq,hda,Bool.false_and,if_neg (by decide),List.append_nil]at hsg;repeat simp -implicitDefEqProofs only [go_sem,seval,hB',i0,hgd,hda,hwi,Int.toNat_natCast]
         refine⟨⟨i+1,hB⟩,by simp only;omega,?_⟩;simp only [hsg];refine Qaj (θ:=[(1901,1901),(800,800),(901,901),(7,7)]) rfl ?_ ?_
         ·simp [Qac,lkp,ren1,ren0,Qah]
         ·exact⟨⟨rfl,rfl,rfl,rfl,rfl,.inr ⟨rfl,_,_,rfl,rfl,rfl,rfl⟩⟩,⟨rfl,rfl,rfl,rfl,rfl,.inr ⟨rfl,_,_,rfl,rfl,rfl,rfl⟩⟩,⟨rfl,rfl,rfl,rfl,rfl,.inr ⟨rfl,_,_,rfl,rfl,rfl,rfl⟩⟩,⟨rfl,rfl,rfl,rfl,rfl,.inl ⟨rfl,rfl⟩⟩,trivial⟩
        |true=>
        rw [bq,hda,Bool.true_and]at hsg;by_cases hgq:tol*tol<d.q
        ·have hgq':=eq_true hgq;rw [decide_eq_true hgq,if_pos rfl]at hsg;have hadd:=Qu1 (G2++ofs) 4 (n:Int) d.i d.t (by rw [List.length_append];omega);rw [List.append_assoc]at hadd;generalize ofs++[(⟨4,(n:Int),d.i,d.t⟩:Go.Dg.Fd)]=go3 at*;repeat (first|simp -implicitDefEqProofs only [go_sem,seval,hB',i0,hgd,hda,hwi,htq,hgq',decide_true,bl13,bl14,bl9',Int.toNat_natCast]|(with_reducible refine Qai hadd ?_ ?_ ?_ ?_);rfl;rfl;rfl)
         refine⟨⟨i+1,hB⟩,by simp only;omega,?_⟩;simp only [hsg];refine Qaj (θ:=[(1901,1901),(800,800),(901,901),(7,9)]) rfl ?_ ?_
         ·simp [Qac,lkp,ren1,ren0,Qah]
         ·exact⟨⟨rfl,rfl,rfl,rfl,rfl,.inr ⟨rfl,_,_,rfl,rfl,rfl,rfl⟩⟩,⟨rfl,rfl,rfl,rfl,rfl,.inr ⟨rfl,_,_,rfl,rfl,rfl,rfl⟩⟩,⟨rfl,rfl,rfl,rfl,rfl,.inr ⟨rfl,_,_,rfl,rfl,rfl,rfl⟩⟩,⟨rfl,rfl,rfl,rfl,rfl,.inl ⟨rfl,rfl⟩⟩,trivial⟩
        ·have hgq':=eq_false hgq;rw [decide_eq_false hgq,if_neg (by decide),List.append_nil]at hsg;repeat simp -implicitDefEqProofs only [go_sem,seval,hB',i0,hgd,hda,hwi,htq,hgq',decide_false,Int.toNat_natCast]
         refine⟨⟨i+1,hB⟩,by simp only;omega,?_⟩;simp only [hsg];refine Qaj (θ:=[(1901,1901),(800,800),(901,901),(7,7)]) rfl ?_ ?_
         ·simp [Qac,lkp,ren1,ren0,Qah]
         ·exact⟨⟨rfl,rfl,rfl,rfl,rfl,.inr ⟨rfl,_,_,rfl,rfl,rfl,rfl⟩⟩,⟨rfl,rfl,rfl,rfl,rfl,.inr ⟨rfl,_,_,rfl,rfl,rfl,rfl⟩⟩,⟨rfl,rfl,rfl,rfl,rfl,.inr ⟨rfl,_,_,rfl,rfl,rfl,rfl⟩⟩,⟨rfl,rfl,rfl,rfl,rfl,.inl ⟨rfl,rfl⟩⟩,trivial⟩
       ·have hB':=ltE' hB;obtain rfl:i=D.length:=by omega
        have hS:=hSt n hA (G2++offs tol (n:Int) D D.length) (by rw [List.length_append];omega);rw [←hst2]at hS;repeat (first|simp -implicitDefEqProofs only [go_sem,seval,hB',hwn,bl13,bl14,ble7,bl9']|(with_reducible refine Qai hS ?_ ?_ ?_ ?_);rfl;rfl;rfl)
        refine⟨⟨n+1,hA⟩,by simp only;omega,?_⟩;refine Qaj (θ:=[(800,800),(901,901),(7,9)]) rfl ?_ ?_
        ·simp [Qac,lkp,ren1,ren0,Qah]
        ·exact⟨⟨rfl,rfl,rfl,rfl,rfl,.inr ⟨rfl,_,_,rfl,rfl,rfl,rfl⟩⟩,⟨rfl,rfl,rfl,rfl,rfl,.inr ⟨rfl,_,_,rfl,rfl,rfl,rfl⟩⟩,⟨rfl,rfl,rfl,rfl,rfl,.inl ⟨rfl,rfl⟩⟩,trivial⟩
     ·have hgp':=eq_false hgp;rw [if_neg hgp]at hst;have hG2:(G++g.out).length≤30000:=by simp only [List.length_append];omega
      have hst2:U++ofTo gap tol s len D L (n+1)=G++g.out++offs tol (n:Int) D D.length++(stA s (n:Int) L L.length).out:=by rw [hst];simp only [List.append_assoc,List.nil_append]
      generalize G++g.out=G2 at*;repeat simp -implicitDefEqProofs only [go_sem,seval,hB',htw,hgp',Bool.not_true,List.length_map]
      refine Qas mixed (fun i:{i:Nat // i≤D.length}=>St.of ([(18,.bp 1901 1 0 0),(130,.slc (D.map dvV)),(131,.int .i64 (D.length:Int)),(132,.int .i64 (i.1:Int))]++fnV p L s tol gap len D (n:Int)) ([(1901,stB (n:Int))]++fnL (G2++offs tol (n:Int) D i.1))) (fun i=>D.length-i.1) ⟨0,Nat.zero_le _⟩ ?_ ?_
      ·have e0:offs tol (n:Int) D 0=[]:=rfl;simp only [e0,List.append_nil];refine Qaj (θ:=[(1901,1901),(800,800),(901,901),(7,7)]) rfl ?_ ?_
       ·simp [Qac,lkp,ren1,ren0,Qah]
       ·exact⟨⟨rfl,rfl,rfl,rfl,rfl,.inr ⟨rfl,_,_,rfl,rfl,rfl,rfl⟩⟩,⟨rfl,rfl,rfl,rfl,rfl,.inr ⟨rfl,_,_,rfl,rfl,rfl,rfl⟩⟩,⟨rfl,rfl,rfl,rfl,rfl,.inr ⟨rfl,_,_,rfl,rfl,rfl,rfl⟩⟩,⟨rfl,rfl,rfl,rfl,rfl,.inl ⟨rfl,rfl⟩⟩,trivial⟩
      ·rintro⟨i,hi⟩;simp only;have hlo:=Qgz tol (n:Int) D i;by_cases hB:i<D.length
       ·have hB':=ltE hB;have i0:=nnE i;have hwi:=wrE (n:=i) (by omega);have hgd:=Qkm D i hB;have hsg:offs tol (n:Int) D (i+1)=offs tol (n:Int) D i++off1 tol (n:Int) (D.getD i dv0):=rfl;unfold off1 at hsg;generalize D.getD i dv0=d at*;generalize offs tol (n:Int) D i=ofs at*;cases hda:(d.a==(n:Int))with
        |false=>
         rw [bq,hda,Bool.false_and,if_neg (by decide),List.append_nil]at hsg;repeat simp -implicitDefEqProofs only [go_sem,seval,hB',i0,hgd,hda,hwi,Int.toNat_natCast]
         refine⟨⟨i+1,hB⟩,by simp only;omega,?_⟩;simp only [hsg];refine Qaj (θ:=[(1901,1901),(800,800),(901,901),(7,7)]) rfl ?_ ?_
         ·simp [Qac,lkp,ren1,ren0,Qah]
         ·exact⟨⟨rfl,rfl,rfl,rfl,rfl,.inr ⟨rfl,_,_,rfl,rfl,rfl,rfl⟩⟩,⟨rfl,rfl,rfl,rfl,rfl,.inr ⟨rfl,_,_,rfl,rfl,rfl,rfl⟩⟩,⟨rfl,rfl,rfl,rfl,rfl,.inr ⟨rfl,_,_,rfl,rfl,rfl,rfl⟩⟩,⟨rfl,rfl,rfl,rfl,rfl,.inl ⟨rfl,rfl⟩⟩,trivial⟩
        |true=>
        rw [bq,hda,Bool.true_and]at hsg;by_cases hgq:tol*tol<d.q
        ·have hgq':=eq_true hgq;rw [decide_eq_true hgq,if_pos rfl]at hsg;have hadd:=Qu1 (G2++ofs) 4 (n:Int) d.i d.t (by rw [List.length_append];omega);rw [List.append_assoc]at hadd;generalize ofs++[(⟨4,(n:Int),d.i,d.t⟩:Go.Dg.Fd)]=go3 at*;repeat (first|simp -implicitDefEqProofs only [go_sem,seval,hB',i0,hgd,hda,hwi,htq,hgq',decide_true,bl13,bl14,bl9',Int.toNat_natCast]|(with_reducible refine Qai hadd ?_ ?_ ?_ ?_);rfl;rfl;rfl)
         refine⟨⟨i+1,hB⟩,by simp only;omega,?_⟩;simp only [hsg];refine Qaj (θ:=[(1901,1901),(800,800),(901,901),(7,9)]) rfl ?_ ?_
         ·simp [Qac,lkp,ren1,ren0,Qah]
         ·exact⟨⟨rfl,rfl,rfl,rfl,rfl,.inr ⟨rfl,_,_,rfl,rfl,rfl,rfl⟩⟩,⟨rfl,rfl,rfl,rfl,rfl,.inr ⟨rfl,_,_,rfl,rfl,rfl,rfl⟩⟩,⟨rfl,rfl,rfl,rfl,rfl,.inr ⟨rfl,_,_,rfl,rfl,rfl,rfl⟩⟩,⟨rfl,rfl,rfl,rfl,rfl,.inl ⟨rfl,rfl⟩⟩,trivial⟩
        ·have hgq':=eq_false hgq;rw [decide_eq_false hgq,if_neg (by decide),List.append_nil]at hsg;repeat simp -implicitDefEqProofs only [go_sem,seval,hB',i0,hgd,hda,hwi,htq,hgq',decide_false,Int.toNat_natCast]
         refine⟨⟨i+1,hB⟩,by simp only;omega,?_⟩;simp only [hsg];refine Qaj (θ:=[(1901,1901),(800,800),(901,901),(7,7)]) rfl ?_ ?_
         ·simp [Qac,lkp,ren1,ren0,Qah]
         ·exact⟨⟨rfl,rfl,rfl,rfl,rfl,.inr ⟨rfl,_,_,rfl,rfl,rfl,rfl⟩⟩,⟨rfl,rfl,rfl,rfl,rfl,.inr ⟨rfl,_,_,rfl,rfl,rfl,rfl⟩⟩,⟨rfl,rfl,rfl,rfl,rfl,.inr ⟨rfl,_,_,rfl,rfl,rfl,rfl⟩⟩,⟨rfl,rfl,rfl,rfl,rfl,.inl ⟨rfl,rfl⟩⟩,trivial⟩
       ·have hB':=ltE' hB;obtain rfl:i=D.length:=by omega
        have hS:=hSt n hA (G2++offs tol (n:Int) D D.length) (by rw [List.length_append];omega);rw [←hst2]at hS;repeat (first|simp -implicitDefEqProofs only [go_sem,seval,hB',hwn,bl13,bl14,ble7,bl9']|(with_reducible refine Qai hS ?_ ?_ ?_ ?_);rfl;rfl;rfl)
        refine⟨⟨n+1,hA⟩,by simp only;omega,?_⟩;refine Qaj (θ:=[(800,800),(901,901),(7,9)]) rfl ?_ ?_
        ·simp [Qac,lkp,ren1,ren0,Qah]
        ·exact⟨⟨rfl,rfl,rfl,rfl,rfl,.inr ⟨rfl,_,_,rfl,rfl,rfl,rfl⟩⟩,⟨rfl,rfl,rfl,rfl,rfl,.inr ⟨rfl,_,_,rfl,rfl,rfl,rfl⟩⟩,⟨rfl,rfl,rfl,rfl,rfl,.inl ⟨rfl,rfl⟩⟩,trivial⟩
  ·have hA':=ltE' hA;obtain rfl:n=p.ns.length:=by omega
   have hlt:((U++ofTo gap tol s len D L p.ns.length).map fdV).length=(U++ofTo gap tol s len D L p.ns.length).length:=List.length_map ..;have htk:((U++ofTo gap tol s len D L p.ns.length).map fdV).take (U++ofTo gap tol s len D L p.ns.length).length=(U++ofTo gap tol s len D L p.ns.length).map fdV:=List.take_of_length_le (by omega);generalize U++ofTo gap tol s len D L p.ns.length=F at*;repeat simp -implicitDefEqProofs only [go_sem,seval,hA',hlt,htk]
def Qdg (p:Pg) (s tol gap:Int) (L:List Rc):List Go.Dg.Fd:=finds p.ns.length gap tol s (begT p p.as_.length) (sqR p s) L
set_option maxHeartbeats 16000000 in
set_option maxRecDepth 100000 in
theorem Qu2 (p:Pg) (hf:FewP p) (v:Qbd p=true) (hN:p.as_.length≠0) (s:Int) (hs:0≤s∧s≤3600000) (tol gap:Int) (ht:0≤tol∧tol≤1000000) (hg:1≤gap∧gap≤3600000) (L:List Rc) (hl:L.length≤1000) (hL: ∀k,k<L.length→recB (L.getD k rc0)=true):
  Qaf Tryz.prog 23 [pgV p,lgR L,.int .i64 s,.agg [.int .i64 tol,.int .i64 gap]] (.tup [.slc ((Qdg p s tol gap L).map fdV),.int .i64 0]):=by
 have hG:=Qu0 p hf L s;rw [show Qz1 p s=0 by unfold Qz1;rw [v,Qb7.2 hs];rfl]at hG;have hV:=Qii tol gap;rw [show(wiB tol 0 1000000&&wiB gap 1 3600000)=true by rw [Qb7.2 ht,Qb7.2 hg];rfl]at hV;have hN':((p.as_.length:Int)==0)=false:=beq_eq_false_iff_ne.2 (by omega);have ha:=Qyb L;have hY:=Qyc L (by omega);have hlO:=Qij L;have hgO:=fun i h=>Qik L i h;generalize allO L=OO at*;unfold Qdg finds;have hPr:=Qqd p (Qgb hf) v;have hDv:=Q49 p hf v hN s hs L (by omega) hL;have hbt:=Qd3 v (k:=p.as_.length) (Nat.le_refl _);have hDl:(dvs p s L L.length).length≤L.length:=Qew p.ns.length s (sqR p s) L L.length;have hDo:=Qx4 p s hs L hL L.length (Nat.le_refl _);have hSt:=fun(n:Nat) (hn:n<p.ns.length) (F:List Go.Dg.Fd) (hF:F.length≤100000)=>Qx1 L (n:Int) s F (by omega) hL (by have:=hf.1;omega) hs hF;have hN5:=hf.1;generalize hDD:dvs p s L L.length=D at*;have hul:=Qh7 p.ns.length s L;have hol:=Qg0 gap tol s (begT p p.as_.length) D L;have bl9':Nat.blt 9 1000000=true:=rfl;have ble7:Nat.ble 1000000 1000002=true:=rfl;unfold pgV at hG hPr hDv ⊢;refine Qf2 164 [.tmp 8,.tmp 9] Tryz.func23 rfl (by kernel_rfl) (by kernel_rfl) (by kernel_rfl) (by kernel_rfl) ?_
 refine Qcy mixed [(1409,[(1000000,1000001),(1000001,7)],[(9,9)])] [0,1,2,3,4,6,7,8,9,10,11,12,13,14,15,17,18,19,20,21,23,25,31,33,37,44,45,46,52,74,75,76,78,79,80,81,94,101,115,124,130,131,132,133,149] 6 rfl (St.of [(1,lgR L),(4,prP p),(6,.rp [.int .i64 s]),(7,.rp [.int .i64 tol,.int .i64 gap]),(11,.bp 800 1 0 0),(12,.bp 901 1 0 0)] (fnL (unks p.ns.length s L L.length))) ?_ ?_
 ·simp only [codes,Qcj,List.take_succ_cons,List.take_zero,List.drop_succ_cons,List.drop_zero,List.foldr_cons,List.foldr_nil];repeat (first|simp -implicitDefEqProofs only [go_sem,seval,lgR,hN',bne_self_eq_false,Bool.not_true,List.length_map]|(with_reducible refine Qaa hG ?_ ?_ ?_);rfl;rfl|(with_reducible refine Qaa hV ?_ ?_ ?_);rfl;rfl|(with_reducible refine Qaa ha ?_ ?_ ?_);rfl;rfl)
  refine Qi1 (Le.trans (Qqr 800 7 4 77 rfl rfl rfl rfl rfl (by decide)) (Le.trans (Qzj 4 0 rfl rfl rfl) (Le.trans (Qzj 6 1 rfl rfl rfl) (Qzj 7 2 rfl rfl rfl)))) ?_;refine Qh6 mixed hY rfl rfl _ rfl [(1000000,901),(1000001,800),(7,7)] [1000000,1000001] rfl [(1,lgR L),(4,prP p),(6,.rp [.int .i64 s]),(7,.rp [.int .i64 tol,.int .i64 gap]),(12,.bp 1000000 1 0 0),(11,.bp 1000001 1 0 0)]
   (fun j:Nat=>[(1000000,adB 1000001),(1000001,ouB 7 (unks p.ns.length s L j).length),(7,fdB (unks p.ns.length s L j))]) rfl rfl ?_ ?_ ?_ L.length .normal (fun h=>by omega) (fun j _ _=>by simp [lkp]) ?_ rfl ?_
   [(901,1000000),(800,1000001),(7,7)] [(1,lgR L),(4,prP p),(6,.rp [.int .i64 s]),(7,.rp [.int .i64 tol,.int .i64 gap]),(11,.bp 800 1 0 0),(12,.bp 901 1 0 0)] (fnL (unks p.ns.length s L L.length)) rfl rfl ?_ ?_ (fun _=> ?_) (fun h=>by omega)
  ·simp [Qac,lkp,ren1,ren0,Qah]
  ·exact⟨⟨rfl,rfl,rfl,rfl,rfl,.inr ⟨rfl,_,_,rfl,rfl,rfl,rfl⟩⟩,⟨rfl,rfl,rfl,rfl,rfl,.inr ⟨rfl,_,_,rfl,rfl,rfl,rfl⟩⟩,⟨rfl,rfl,rfl,rfl,rfl,.inl ⟨rfl,rfl⟩⟩,trivial⟩
  ·simp [Qac,lkp,ren1,ren0,Qah,Qki]
  ·intro j args h;rw [hgO j (by rw [←hlO];exact(List.getElem?_eq_some_iff.1 h).1)]at h;cases h;rfl
  ·rintro j args hja hjs;have hj:j<L.length:=by rw [←hlO];exact(List.getElem?_eq_some_iff.1 hja).1
   rw [hgO j hj]at hja;cases hja;have hfi:=Qcq (hL j hj);have hln:=hul j;have hst:unks p.ns.length s L (j+1)=unks p.ns.length s L j++unk1 p.ns.length s j (L.getD j rc0):=rfl;unfold unk1 at hst;generalize L.getD j rc0=r at*;simp only [Qqb r];by_cases haN:(p.ns.length:Int)<r.a
   ·have haN':=eq_true haN;rw [if_pos haN]at hst;have haw:IntKind.i64.wrap (r.a-1)=r.a-1:=Qag (by omega) (by omega);have htw:IntKind.i64.wrap (r.t-s)=r.t-s:=Qag (by omega) (by omega);have hadd:=Qu1 (unks p.ns.length s L j) 1 (r.a-1) (j:Int) (r.t-s) (by omega);rw [←hst]at hadd;repeat simp -implicitDefEqProofs only [go_sem,seval,pvars,List.toList_toArray]
    refine⟨by simp [lkp],?_⟩;repeat (first|simp -implicitDefEqProofs only [go_sem,seval,haN',haw,htw,bl13,bl14,bl9',List.length_map]|(with_reducible refine Qai hadd ?_ ?_ ?_ ?_);rfl;rfl;rfl)
    refine⟨hj,?_⟩;refine Qaj (θ:=[(1000000,1000000),(1000001,1000001),(7,9)]) rfl ?_ ?_
    ·simp [Qac,lkp,ren1,ren0,Qah]
    ·exact⟨⟨rfl,rfl,rfl,rfl,rfl,.inr ⟨rfl,_,_,rfl,rfl,rfl,rfl⟩⟩,⟨rfl,rfl,rfl,rfl,rfl,.inr ⟨rfl,_,_,rfl,rfl,rfl,rfl⟩⟩,⟨rfl,rfl,rfl,rfl,rfl,.inl ⟨rfl,rfl⟩⟩,trivial⟩
   ·have haN':=eq_false haN;rw [if_neg haN,List.append_nil]at hst;repeat simp -implicitDefEqProofs only [go_sem,seval,pvars,List.toList_toArray]
    refine⟨by simp [lkp],?_⟩;repeat simp -implicitDefEqProofs only [go_sem,haN',List.length_map]
    refine⟨hj,?_⟩;simp only [hst];refine Qaj (θ:=[(1000000,1000000),(1000001,1000001),(7,7)]) rfl ?_ ?_
    ·simp [Qac,lkp,ren1,ren0,Qah]
    ·exact⟨⟨rfl,rfl,rfl,rfl,rfl,.inr ⟨rfl,_,_,rfl,rfl,rfl,rfl⟩⟩,⟨rfl,rfl,rfl,rfl,rfl,.inr ⟨rfl,_,_,rfl,rfl,rfl,rfl⟩⟩,⟨rfl,rfl,rfl,rfl,rfl,.inl ⟨rfl,rfl⟩⟩,trivial⟩
  ·simp [Qac,lkp,ren1,ren0,Qah]
  ·have hm:min OO.length (L.length+1)=L.length:=by omega
   rw [hm];exact⟨⟨rfl,rfl,rfl,rfl,rfl,.inr ⟨rfl,_,_,rfl,rfl,rfl,rfl⟩⟩,⟨rfl,rfl,rfl,rfl,rfl,.inr ⟨rfl,_,_,rfl,rfl,rfl,rfl⟩⟩,⟨rfl,rfl,rfl,rfl,rfl,.inl ⟨rfl,rfl⟩⟩,trivial⟩
  ·repeat simp -implicitDefEqProofs only [go_sem]
   refine Qaj (θ:=[(800,800),(901,901),(7,7)]) rfl ?_ ?_
   ·simp [Qac,lkp,ren1,ren0,Qah]
   ·exact⟨⟨rfl,rfl,rfl,rfl,rfl,.inr ⟨rfl,_,_,rfl,rfl,rfl,rfl⟩⟩,⟨rfl,rfl,rfl,rfl,rfl,.inr ⟨rfl,_,_,rfl,rfl,rfl,rfl⟩⟩,⟨rfl,rfl,rfl,rfl,rfl,.inl ⟨rfl,rfl⟩⟩,trivial⟩
 ·subst hDD;exact Qp8 p hf v hN s hs tol gap ht hg L hl hL _ (hul L.length)
def devE (p:Pg) (s:Int):Int:=if(Qbd p&&wiB s 0 3600000)=true then(if p.as_.length=0 then 9 else 0)else 2
theorem Qu3 {p:Pg} {s:Int} (h:(Qbd p&&wiB s 0 3600000)=true):Qbd p=true∧0≤s∧s≤3600000:=by
 rw [Bool.and_eq_true]at h;exact⟨h.1,Qb7.1 h.2⟩
def devL (p:Pg) (s:Int) (L:List Rc):List Dv:=if devE p s=0 then dvs p s L L.length else []
theorem Qsg (p:Pg) (hf:FewP p) (s:Int) (L:List Rc) (hl:L.length≤100000) (hL: ∀k,k<L.length→recB (L.getD k rc0)=true):
  Qaf Tryz.prog 15 [pgV p,lgR L,.int .i64 s] (.tup [.slc ((devL p s L).map dvV),.int .i64 (devE p s)]):=by
 have hG:=Qu0 p hf L s;unfold devL devE;unfold Qz1 at hG;cases hg:(Qbd p&&wiB s 0 3600000)with
 |false=>
  rw [hg,if_neg (by decide)]at hG;simp only [Bool.false_eq_true,ite_false,show¬(2:Int)=0 by decide];unfold pgV at hG ⊢;refine Qab (tb:=[]) 24 [.tmp 6,.tmp 7] [0,1,2,3,6,7,8,14,19] mixed Tryz.func15 rfl (by kernel_rfl) ?_;repeat (first|simp -implicitDefEqProofs only [go_sem,seval,lgR]|(with_reducible refine Qaa hG ?_ ?_ ?_);rfl;rfl)
 |true=>
  rw [hg,if_pos rfl]at hG;rw [if_pos rfl];by_cases h0:p.as_.length=0
  ·rw [if_pos h0,if_neg (by decide)];have h0':((p.as_.length:Int)==0)=true:=by rw [h0];rfl
   unfold pgV at hG ⊢;refine Qab (tb:=[]) 24 [.tmp 6,.tmp 7] [0,1,2,3,6,7,8,14,19] mixed Tryz.func15 rfl (by kernel_rfl) ?_;repeat (first|simp -implicitDefEqProofs only [go_sem,seval,lgR,h0',List.length_map]|(with_reducible refine Qaa hG ?_ ?_ ?_);rfl;rfl)
  ·rw [if_neg h0,if_pos rfl];have h0':((p.as_.length:Int)==0)=false:=beq_eq_false_iff_ne.2 (by omega);obtain⟨v,hs⟩:=Qu3 hg;have hD:=Q49 p hf v h0 s hs L hl hL;generalize (dvs p s L L.length).map dvV=D at*;unfold pgV at hG hD ⊢;refine Qab (tb:=[]) 24 [.tmp 6,.tmp 7] [0,1,2,3,6,7,8,14,19] mixed Tryz.func15 rfl (by kernel_rfl) ?_;repeat (first|simp -implicitDefEqProofs only [go_sem,seval,lgR,h0',List.length_map]|(with_reducible refine Qaa hG ?_ ?_ ?_);rfl;rfl|(with_reducible refine Qaa hD ?_ ?_ ?_);rfl;rfl)
def fndE (p:Pg) (s tol gap:Int):Int:=if(Qbd p&&wiB s 0 3600000)=true then(if(wiB tol 0 1000000&&wiB gap 1 3600000)=true then(if p.as_.length=0 then 9 else 0)else 2)else 2
def fndL (p:Pg) (s tol gap:Int) (L:List Rc):List Go.Dg.Fd:=if fndE p s tol gap=0 then Qdg p s tol gap L else []
theorem Qee (p:Pg) (hf:FewP p) (s tol gap:Int) (L:List Rc) (hl:L.length≤1000) (hL: ∀k,k<L.length→recB (L.getD k rc0)=true):
  Qaf Tryz.prog 23 [pgV p,lgR L,.int .i64 s,.agg [.int .i64 tol,.int .i64 gap]] (.tup [.slc ((fndL p s tol gap L).map fdV),.int .i64 (fndE p s tol gap)]):=by
 have hG:=Qu0 p hf L s;have hV:=Qii tol gap;unfold fndL fndE;unfold Qz1 at hG;cases hg:(Qbd p&&wiB s 0 3600000)with
 |false=>
  rw [hg,if_neg (by decide)]at hG;simp only [Bool.false_eq_true,ite_false,show¬(2:Int)=0 by decide];unfold pgV at hG ⊢;refine Qab (tb:=[]) 164 [.tmp 8,.tmp 9] [0,1,2,3,4,6,7,8,9,10,11,12,13,14,15,17,18,19,20,21,23,25,31,33,37,44,45,46,52,74,75,76,78,79,80,81,94,101,115,124,130,131,132,133,149] mixed Tryz.func23 rfl (by kernel_rfl) ?_;repeat (first|simp -implicitDefEqProofs only [go_sem,seval,lgR]|(with_reducible refine Qaa hG ?_ ?_ ?_);rfl;rfl)
 |true=>
  rw [hg,if_pos rfl]at hG;rw [if_pos rfl];cases hv:(wiB tol 0 1000000&&wiB gap 1 3600000)with
  |false=>
   rw [hv]at hV;simp only [Bool.false_eq_true,ite_false,show¬(2:Int)=0 by decide];unfold pgV at hG ⊢;refine Qab (tb:=[]) 164 [.tmp 8,.tmp 9] [0,1,2,3,4,6,7,8,9,10,11,12,13,14,15,17,18,19,20,21,23,25,31,33,37,44,45,46,52,74,75,76,78,79,80,81,94,101,115,124,130,131,132,133,149] mixed Tryz.func23 rfl (by kernel_rfl) ?_;repeat (first|simp -implicitDefEqProofs only [go_sem,seval,lgR,bne_self_eq_false,Bool.not_false]|(with_reducible refine Qaa hG ?_ ?_ ?_);rfl;rfl|(with_reducible refine Qaa hV ?_ ?_ ?_);rfl;rfl)
  |true=>
   rw [hv]at hV;rw [if_pos rfl];by_cases h0:p.as_.length=0
   ·rw [if_pos h0,if_neg (by decide)];have h0':((p.as_.length:Int)==0)=true:=by rw [h0];rfl
    unfold pgV at hG ⊢;refine Qab (tb:=[]) 164 [.tmp 8,.tmp 9] [0,1,2,3,4,6,7,8,9,10,11,12,13,14,15,17,18,19,20,21,23,25,31,33,37,44,45,46,52,74,75,76,78,79,80,81,94,101,115,124,130,131,132,133,149] mixed Tryz.func23 rfl (by kernel_rfl) ?_;repeat (first|simp -implicitDefEqProofs only [go_sem,seval,lgR,bne_self_eq_false,h0',Bool.not_true,List.length_map]|(with_reducible refine Qaa hG ?_ ?_ ?_);rfl;rfl|(with_reducible refine Qaa hV ?_ ?_ ?_);rfl;rfl)
   ·rw [if_neg h0,if_pos rfl];obtain⟨v,hs⟩:=Qu3 hg;rw [Bool.and_eq_true]at hv;exact Qu2 p hf v h0 s hs tol gap (Qb7.1 hv.1) (Qb7.1 hv.2) L hl hL
theorem Zqc (p:Pg) (hf:FewP p) (s tol gap:Int) (L:List Rc) (hl:L.length≤1000) (hL: ∀k,k<L.length→recB (L.getD k rc0)=true):
  Qaf Tryz.prog 24 [pgV p,lgR L,.int .i64 s,.agg [.int .i64 tol,.int .i64 gap]] (.tup [.bool (fndE p s tol gap==0&&(fndL p s tol gap L).length==0),.int .i64 (fndE p s tol gap)]):=by
 have hF:=Qee p hf s tol gap L hl hL;generalize fndE p s tol gap=e at*;generalize fndL p s tol gap L=F at*;have hb:(((F.map fdV).length:Int)==0)=(F.length==0):=by rw [List.length_map];cases h:(F.length==0)<;>simp_all
 unfold pgV at hF ⊢;cases he:(e==0)with
 |false=>
  rw [Bool.false_and];refine Qab (tb:=[]) 28 [.tmp 8,.tmp 9] [0,1,2,3,4,7,8,9,10,11] mixed Tryz.func24 rfl (by kernel_rfl) ?_;repeat (first|simp -implicitDefEqProofs only [go_sem,seval,lgR,he]|(with_reducible refine Qaa hF ?_ ?_ ?_);rfl;rfl)
 |true=>
  rw [Bool.true_and];refine Qab (tb:=[]) 28 [.tmp 8,.tmp 9] [0,1,2,3,4,7,8,9,10,11] mixed Tryz.func24 rfl (by kernel_rfl) ?_;repeat (first|simp -implicitDefEqProofs only [go_sem,seval,lgR,he,hb]|(with_reducible refine Qaa hF ?_ ?_ ?_);rfl;rfl)
theorem Z1n:Qb4 Tryz.prog 77=some [1,1,1,1]:=by kernel_rfl
theorem Z3y:Qb4 Tryz.prog 33=some [1,1,1,1]:=by kernel_rfl
theorem Q5a (F:List Go.Dg.Fd) (i:Nat) (h:i<F.length):(F.map fdV)[i]? =some (.agg [.int .i64 (F.getD i fd0).k,.int .i64 (F.getD i fd0).a,.int .i64 (F.getD i fd0).i,.int .i64 (F.getD i fd0).t]):=by
 rw [List.getElem?_map,List.getElem?_eq_getElem h,List.getD_eq_getElem?_getD,List.getElem?_eq_getElem h];rfl
theorem Qu4 (F:List Go.Dg.Fd) (hl:F.length≤100000):Qaf Tryz.prog 20 [.slc (F.map fdV),.slc (F.map fdV)] (.bool true):=by
 refine Qab (tb:=[]) 26 [.tmp 4] [0,1,4,5,10,14,25] mixed Tryz.func20 rfl (by kernel_rfl) ?_;repeat simp -implicitDefEqProofs only [go_sem,seval,List.length_map,bne_self_eq_false]
 refine Qas mixed (fun k:{k:Nat // k≤F.length}=>St.of [(0,.slc (F.map fdV)),(1,.slc (F.map fdV)),(5,.int .i64 (k.1:Int))] []) (fun k=>F.length-k.1) ⟨0,Nat.zero_le _⟩ ?_ ?_
 ·refine Qa0 ?_;simp [Qac,lkp,ren1,ren0,Qah]
 ·rintro⟨k,hk⟩;simp only;by_cases hA:k<F.length
  ·have hA':=ltE hA;have n0:=nnE k;have hg:=Q5a F k hA;have hwk:=wrE (n:=k) (by omega);generalize F.getD k fd0=w at*;repeat (first|simp -implicitDefEqProofs only [go_sem,seval,Z1n,hA',n0,hg,hwk,Qat,BEq.rfl,Bool.not_true,Int.toNat_natCast,List.length_map]|(with_reducible refine And.intro (Qad _ _ (by kernel_rfl)) ?_))
   refine⟨⟨k+1,hA⟩,by simp only;omega,?_⟩;refine Qa0 ?_;simp [Qac,lkp,ren1,ren0,Qah]
  ·have hA':=ltE' hA;repeat simp -implicitDefEqProofs only [go_sem,seval,hA',List.length_map]
theorem Q5b (t g:Int):Qaf Tryz.prog 17 [.agg [.int .i64 t,.int .i64 g]] (.bool (wiB t 0 1000000&&wiB g 1 3600000)):=by
 unfold wiB;by_cases h1:0≤t
 case neg=>
  have h1':=eq_false h1;rw [decide_eq_false h1];refine Qab (tb:=[]) 21 [.tmp 2] [0,1,2] mixed Tryz.func17 rfl (by kernel_rfl) ?_;repeat simp -implicitDefEqProofs only [go_sem,seval,h1',decide_false,Bool.false_and]
 have h1':=eq_true h1;rw [decide_eq_true h1];by_cases h2:t≤1000000
 case neg=>
  have h2':=eq_false h2;rw [decide_eq_false h2];refine Qab (tb:=[]) 21 [.tmp 2] [0,1,2] mixed Tryz.func17 rfl (by kernel_rfl) ?_;repeat simp -implicitDefEqProofs only [go_sem,seval,h1',h2',decide_false,decide_true,Bool.false_and,Bool.true_and]
 have h2':=eq_true h2;rw [decide_eq_true h2];by_cases h3:1≤g
 case neg=>
  have h3':=eq_false h3;rw [decide_eq_false h3];refine Qab (tb:=[]) 21 [.tmp 2] [0,1,2] mixed Tryz.func17 rfl (by kernel_rfl) ?_;repeat simp -implicitDefEqProofs only [go_sem,seval,h1',h2',h3',decide_false,decide_true,Bool.false_and,Bool.true_and]
 have h3':=eq_true h3;rw [decide_eq_true h3];refine Qab (tb:=[]) 21 [.tmp 2] [0,1,2] mixed Tryz.func17 rfl (by kernel_rfl) ?_;repeat simp -implicitDefEqProofs only [go_sem,seval,h1',h2',h3',decide_true,Bool.true_and]
def Q5c (p:Pg) (s:Int):Int:=if(Qbd p&&wiB s 0 3600000)=true then 0 else 2
theorem Zqd (p:Pg) (hf:FewP p) (s:Int):Qaf Tryz.prog 12 [pgV p,.int .i64 s] (.int .i64 (Q5c p s)):=by
 have hV:=Qgc p (Qgb hf);unfold Q5c wiB;cases e:Qbd p with
 |false=>
  rw [e]at hV;unfold pgV at hV ⊢;rw [Bool.false_and,if_neg (by decide)];refine Qab (tb:=[]) 16 [.tmp 4] [0,1,2,4,15] mixed Tryz.func12 rfl (by kernel_rfl) ?_;repeat (first|simp -implicitDefEqProofs only [go_sem,seval,Bool.not_false,Bool.not_true]|(with_reducible refine Qaa hV ?_ ?_ ?_);rfl;rfl)
 |true=>
  rw [e]at hV;unfold pgV at hV ⊢;rw [Bool.true_and];by_cases h0:0≤s
  case neg=>
   have h0':=eq_true (show s<0 by omega);rw [decide_eq_false h0,Bool.false_and,if_neg (by decide)];refine Qab (tb:=[]) 16 [.tmp 4] [0,1,2,4,15] mixed Tryz.func12 rfl (by kernel_rfl) ?_;repeat (first|simp -implicitDefEqProofs only [go_sem,seval,h0',decide_true,Bool.not_true]|(with_reducible refine Qaa hV ?_ ?_ ?_);rfl;rfl)
  have h0':=eq_false (show¬s<0 by omega);rw [decide_eq_true h0,Bool.true_and];by_cases h1:s≤3600000
  ·have h1':=eq_false (show¬3600000<s by omega);rw [decide_eq_true h1,if_pos rfl];refine Qab (tb:=[]) 16 [.tmp 4] [0,1,2,4,15] mixed Tryz.func12 rfl (by kernel_rfl) ?_;repeat (first|simp -implicitDefEqProofs only [go_sem,seval,h0',h1',decide_false,Bool.not_true]|(with_reducible refine Qaa hV ?_ ?_ ?_);rfl;rfl)
  ·have h1':=eq_true (show 3600000<s by omega);rw [decide_eq_false h1,if_neg (by decide)];refine Qab (tb:=[]) 16 [.tmp 4] [0,1,2,4,15] mixed Tryz.func12 rfl (by kernel_rfl) ?_;repeat (first|simp -implicitDefEqProofs only [go_sem,seval,h0',h1',decide_false,decide_true,Bool.not_true]|(with_reducible refine Qaa hV ?_ ?_ ?_);rfl;rfl)
theorem Qjv {L:List Rc} (r:Rc) (hL: ∀k,k<L.length→recB (L.getD k rc0)=true): ∀k,k<(addL sumU L r).length→recB ((addL sumU L r).getD k rc0)=true:=by
 intro k h;unfold addL at*;split at h
 ·rename_i hm;rw [if_pos hm];rw [List.length_append]at h;by_cases hk:k<L.length
  ·rw [List.getD_eq_getElem?_getD,List.getElem?_append_left hk,←List.getD_eq_getElem?_getD];exact hL k hk
  ·have:k=L.length:=by simp at h;omega
   subst this;rw [List.getD_eq_getElem?_getD,List.getElem?_append_right (Nat.le_refl _),Nat.sub_self];have hb:recB r=true:=by
    have:=hm.1;unfold mayE at this;split at this
    ·assumption
    ·cases this
   exact hb
 ·rename_i hm;rw [if_neg hm];exact hL k h
theorem Qu5 (l:List Ax): ∀i k,k<(logS l i).length→recB ((logS l i).getD k rc0)=true
 |0,k,h=>by cases h
 |i+1,k,h=>Qjv _ (Qu5 l i) k h
theorem Qln (L:List Rc) (r:Rc):(addL sumU L r).length≤L.length+1:=by unfold addL;split<;>simp
def pE:Pg:=⟨[⟨#[97]⟩],[v0],[⟨⟨#[117,112]⟩,2000,[⟨⟨0,0,500⟩,0,1000,0⟩]⟩]⟩
def eR1:List Rc:=addL sumU [] (staR 0 1 1)
def eR2:List Rc:=addL sumU eR1 (posR 100 1 v0)
def eR3:List Rc:=addL sumU eR2 (posR 600 1 ⟨0,0,260⟩)
def eR4:List Rc:=addL sumU eR3 (staR 700 1 4)
def eR5:List Rc:=addL sumU eR4 (posR 1500 1 ⟨0,0,500⟩)
theorem Q5d: ∀k,k<eR5.length→recB (eR5.getD k rc0)=true:=Qjv _ (Qjv _ (Qjv _ (Qjv _ (Qjv _ fun k h=>absurd h (Nat.not_lt_zero k)))))
theorem Zxf:devE pE 100=0:=by decide+kernel
theorem Zxg:devL pE 100 eR5=[⟨1,0,0,0⟩,⟨2,0,500,100⟩,⟨4,0,1400,0⟩]:=by decide+kernel
theorem Z1p:fndE pE 100 9 600=0:=by decide+kernel
theorem Zxh:fndE pE 100 10 1000=0:=by decide+kernel
theorem Z1q:fndL pE 100 9 600 eR5=[⟨3,0,4,1400⟩,⟨4,0,2,500⟩,⟨5,0,3,600⟩]:=by decide+kernel
theorem Zxi:fndL pE 100 10 1000 eR5=[⟨5,0,3,600⟩]:=by decide+kernel
abbrev exB:List (Nat×Box):=[(7,lgB 8 eR5.length),(8,rcB eR5),(10,{els:=[.str ⟨#[97]⟩],esz:=1,ety:=9,fro:=0,live:=true,arr:=true}),(11,{els:=[.agg [.int .i64 0,.int .i64 0,.int .i64 0]],esz:=3,ety:=52,fro:=0,live:=true,arr:=true}),(12,{els:=[.agg [.str ⟨#[117,112]⟩,.int .i64 2000,.slc [.agg [.int .i64 0,.int .i64 0,.int .i64 500,.int .i64 0,.int .i64 1000,.int .i64 0]]]],esz:=3,ety:=89,fro:=0,live:=true,arr:=true})]
theorem Qz2:Qbv Tryz.prog 31 [] [] (.tup [.agg [.bs 10 1 0 1,.bs 11 3 0 1,.bs 12 3 0 1],.bp 7 1 0 0]) exB:=by
 have hn:=Qz8;have bl7:Nat.blt 7 1000000=true:=rfl;have bl8:Nat.blt 8 1000000=true:=rfl;have l1:eR1.length≤1:=Qln [] _;have l2:eR2.length≤2:=Nat.le_trans (Qln eR1 _) (by omega);have l3:eR3.length≤3:=Nat.le_trans (Qln eR2 _) (by omega);have l4:eR4.length≤4:=Nat.le_trans (Qln eR3 _) (by omega);have h1:=Zex [] 0 1 1 (by decide);have h2:=Qz9 eR1 100 1 v0 (by omega);have h3:=Qz9 eR2 600 1 ⟨0,0,260⟩ (by omega);have h4:=Zex eR3 700 1 4 (by omega);have h5:=Qz9 eR4 1500 1 ⟨0,0,500⟩ (by omega);rw [show addL sumU [] (staR 0 1 1)=eR1 from rfl]at h1;rw [show addL sumU eR1 (posR 100 1 v0)=eR2 from rfl]at h2;rw [show addL sumU eR2 (posR 600 1 ⟨0,0,260⟩)=eR3 from rfl]at h3;rw [show addL sumU eR3 (staR 700 1 4)=eR4 from rfl]at h4;rw [show addL sumU eR4 (posR 1500 1 ⟨0,0,500⟩)=eR5 from rfl]at h5;unfold v0 at h2;unfold exB;unfold lgL lgG at h1 h2 h3 h4 h5;generalize addE [] (staR 0 1 1)=e1 at*;generalize addE eR1 (posR 100 1 ⟨0,0,0⟩)=e2 at*;generalize addE eR2 (posR 600 1 ⟨0,0,260⟩)=e3 at*;generalize addE eR3 (staR 700 1 4)=e4 at*;generalize addE eR4 (posR 1500 1 ⟨0,0,500⟩)=e5 at*;generalize eR1=r1 at*;generalize eR2=r2 at*;generalize eR3=r3 at*;generalize eR4=r4 at*;generalize eR5=r5 at*

 refine Qbc (tb:=[(200,[],[(7,7),(8,8)]),(401,[(1000000,7),(1000001,8)],[(9,9)]),(502,[(1000000,7),(1000001,9)],[(9,10)]),(602,[(1000000,7),(1000001,10)],[(9,11)]),(701,[(1000000,7),(1000001,11)],[(9,12)]),(802,[(1000000,7),(1000001,12)],[(9,13)])]) 31 [.cell 0 26,.tmp 1] [0,1,2,3,15] mixed Tryz.func31 rfl (by kernel_rfl) (by kernel_rfl) (by kernel_rfl) (by kernel_rfl) (by rfl) ?_;have b10:Nat.blt 10 1000000=true:=rfl;have b11:Nat.blt 11 1000000=true:=rfl;have b12:Nat.blt 12 1000000=true:=rfl;have b13:Nat.blt 13 1000000=true:=rfl;repeat (first|simp -implicitDefEqProofs only [go_sem,seval,bl7,bl8,bl13,bl14,bl9,b10,b11,b12,b13]|(with_reducible refine Qai hn ?_ ?_ ?_ ?_);rfl;rfl;rfl|(with_reducible refine Qai h1 ?_ ?_ ?_ ?_);rfl;rfl;rfl|(with_reducible refine Qai h2 ?_ ?_ ?_ ?_);rfl;rfl;rfl|(with_reducible refine Qai h3 ?_ ?_ ?_ ?_);rfl;rfl;rfl|(with_reducible refine Qai h4 ?_ ?_ ?_ ?_);rfl;rfl;rfl|(with_reducible refine Qai h5 ?_ ?_ ?_ ?_);rfl;rfl;rfl)
 refine Qa2 (.inl rfl) ?_;simp -implicitDefEqProofs only [go_sem,seval];refine Z08 (θ:=[(7,7),(8,13),(10,100),(11,102),(12,107)]) rfl ?_ ?_
 ·rfl
 ·exact⟨⟨rfl,rfl,rfl,rfl,rfl,.inr ⟨rfl,_,_,rfl,rfl,rfl,rfl⟩⟩,⟨rfl,rfl,rfl,rfl,rfl,.inl ⟨rfl,rfl⟩⟩,⟨rfl,rfl,rfl,rfl,rfl,.inl ⟨rfl,rfl⟩⟩,⟨rfl,rfl,rfl,rfl,rfl,.inl ⟨rfl,rfl⟩⟩,⟨rfl,rfl,rfl,rfl,rfl,.inl ⟨rfl,rfl⟩⟩,trivial⟩
set_option maxHeartbeats 1000000 in
theorem Qlo:Qaf Tryz.prog 9 [] (.bool true):=by
 have hx:=Qz2;have hf:FewP pE:=by decide+kernel
 have hl:eR5.length≤1000:=by decide+kernel
 have h1:=Qsg pE hf 100 eR5 (by omega) Q5d;have h2:=Qee pE hf 100 9 600 eR5 hl Q5d;have h3:=Qee pE hf 100 10 1000 eR5 hl Q5d;rw [Zxg,Zxf]at h1;rw [Z1q,Z1p]at h2;rw [Zxi,Zxh]at h3;have s1:=Qu4 [⟨3,0,4,1400⟩,⟨4,0,2,500⟩,⟨5,0,3,600⟩] (by decide);have s2:=Qu4 [⟨5,0,3,600⟩] (by decide);unfold exB lgB rcB at hx;have ht:(eR5.map rcV).take eR5.length=eR5.map rcV:=List.take_of_length_le (by rw [List.length_map];omega);have hlt:(eR5.map rcV).length=eR5.length:=List.length_map ..;rw [show pgV pE= .agg [.slc [.str ⟨#[97]⟩],.slc [.agg [.int .i64 0,.int .i64 0,.int .i64 0]],.slc [.agg [.str ⟨#[117,112]⟩,.int .i64 2000,.slc [.agg [.int .i64 0,.int .i64 0,.int .i64 500,.int .i64 0,.int .i64 1000,.int .i64 0]]]]]from rfl]at h1 h2 h3;unfold lgR at h1 h2 h3;simp only [List.map_cons,List.map_nil,dvV,fdV]at h1 h2 h3 s1 s2;generalize eR5.map rcV=T at*;generalize eR5.length=n at*;have bl7:Nat.blt 7 1000000=true:=rfl;have bl8:Nat.blt 8 1000000=true:=rfl;have bl10:Nat.blt 10 1000000=true:=rfl;have bl11:Nat.blt 11 1000000=true:=rfl;have bl12:Nat.blt 12 1000000=true:=rfl

 refine Qab (tb:=[(100,[],[(7,7),(8,8),(10,10),(11,11),(12,12)])]) 85 [.tmp 0] [0,1,2,3,4,5,6,7,8,9,15,71] mixed Tryz.func9 rfl (by kernel_rfl) ?_;repeat (first|simp -implicitDefEqProofs only [go_sem,seval,bl7,bl8,bl10,bl11,bl12,ht,hlt,Nat.le_refl,decide_true,Qat,bne_self_eq_false,beq_self_eq_true,Bool.not_true,Bool.and_self,Bool.and_true,Bool.true_and,List.getElem?_cons_zero,List.getElem?_cons_succ]|(with_reducible refine Qai hx ?_ ?_ ?_ ?_);rfl;rfl;rfl|(with_reducible refine Qaa h1 ?_ ?_ ?_);rfl;rfl|(with_reducible refine Qaa h2 ?_ ?_ ?_);rfl;rfl|(with_reducible refine Qaa h3 ?_ ?_ ?_);rfl;rfl|(with_reducible refine Qaa s1 ?_ ?_ ?_);rfl;rfl|(with_reducible refine Qaa s2 ?_ ?_ ?_);rfl;rfl)
theorem Zxj {p:Pg} (h:decide (FewQ p)=true):FewP p:=Zp3 (of_decide_eq_true h)
theorem own:ownKnob Tryz.prog.godebug=none:=by kernel_rfl
theorem Q5e:laidOutB Tryz.prog=true:=by kernel_rfl
theorem Zxk:Tryz.prog.globalNamed Qwd=none∧Tryz.prog.globalNamed Zcb=none:=⟨by kernel_rfl,by kernel_rfl⟩
theorem Qlp {c:List PV} (h:Qbz (.int .i64) c): ∃n:Int,TT.mk (.int .i64) c= .int .i64 n:=by
 simp only [Qbz]at h;obtain⟨x,rfl,hx⟩:=h;exact⟨x,rfl⟩
theorem Qjw {e:TT} {α:Type} {f:α→PV} (hf: ∀c,Qbz e c→ ∃a,e.mk c=f a): ∀ess:List (List PV),(∀c∈ess,Qbz e c)→ ∃l:List α,ess.map e.mk=l.map f∧l.length=ess.length
 | [],_=>⟨[],rfl,rfl⟩
 |c::cs,h=>by
  obtain⟨a,ha⟩:=hf c (h c (by simp));obtain⟨l,hl,hn⟩:=Qjw hf cs (fun c hc=>h c (by simp [hc]));exact⟨a::l,by simp [ha,hl],by simp [hn]⟩
def vecT:TT:= .agg [.int .i64,.int .i64,.int .i64]
def Q5f:TT:= .agg [vecT,.int .i64,.int .i64,.int .i64]
def Q5g:TT:= .agg [.str,.int .i64,.slc Q5f]
def Q5h:TT:= .agg [.slc .str,.slc vecT,.slc Q5g]
def Q5i:TT:= .agg [.int .i64,.int .i64]
theorem Zeo {c:List PV} (h:Qbz .str c): ∃s:ByteArray,TT.mk .str c= .str s:=by
 simp only [Qbz]at h;obtain⟨s,rfl,hs⟩:=h;exact⟨s,rfl⟩
theorem Zep {c:List PV} (h:Qbz vecT c): ∃v:V3,vecT.mk c=v3PV v:=by
 simp only [vecT,Qbz,Qd0]at h;obtain⟨_,_,rfl,⟨x,rfl,_⟩,_,_,rfl,⟨y,rfl,_⟩,_,_,rfl,⟨z,rfl,_⟩,rfl⟩:=h;exact⟨⟨x,y,z⟩,rfl⟩
theorem Q5j {c:List PV} (h:Qbz Q5f c): ∃m:Mv,Q5f.mk c=mvV m:=by
 simp only [Q5f,vecT,Qbz,Qd0]at h;obtain⟨_,_,rfl,⟨_,_,rfl,⟨x,rfl,_⟩,_,_,rfl,⟨y,rfl,_⟩,_,_,rfl,⟨z,rfl,_⟩,rfl⟩,_,_,rfl,⟨w,rfl,_⟩,_,_,rfl,⟨f,rfl,_⟩,_,_,rfl,⟨r,rfl,_⟩,rfl⟩:=h;exact⟨⟨⟨x,y,z⟩,w,f,r⟩,rfl⟩
theorem Q5k {c:List PV} (h:Qbz Q5g c): ∃a:Ac,Q5g.mk c=acV a:=by
 simp only [Q5g,Qbz,Qd0]at h;obtain⟨_,_,rfl,⟨s,rfl,_⟩,_,_,rfl,⟨n,rfl,_⟩,_,_,rfl,⟨em,rfl,mm,hm⟩,rfl⟩:=h;obtain⟨l,e,_⟩:=Qjw (f:=mvV) (fun c h=>Q5j h) em hm;refine⟨⟨s,n,l⟩,?_⟩;show PV.agg [.str s,.int .i64 n,.slc (em.map Q5f.mk)]=_;rw [e];rfl
theorem Qsi {c:List PV} (h:Qbz Q5h c): ∃p:Pg,Q5h.mk c=pgV p:=by
 simp only [Q5h,Qd0]at h;rw [Qbz]at h;simp only [Qd0]at h;obtain⟨_,_,rfl,hn,_,_,rfl,hh,_,_,rfl,ha,rfl⟩:=h;rw [Qbz]at hn hh ha;obtain⟨en,rfl,mn,hn⟩:=hn;obtain⟨eh,rfl,mh,hh⟩:=hh;obtain⟨ea,rfl,ma,ha⟩:=ha;obtain⟨ns,e1,_⟩:=Qjw (f:=PV.str) (fun c h=>Zeo h) en hn;obtain⟨hs,e2,_⟩:=Qjw (f:=v3PV) (fun c h=>Zep h) eh hh;obtain⟨as_,e3,_⟩:=Qjw (f:=acV) (fun c h=>Q5k h) ea ha;refine⟨⟨ns,hs,as_⟩,?_⟩;show PV.agg [.slc (en.map (TT.mk .str)),.slc (eh.map vecT.mk),.slc (ea.map Q5g.mk)]=_;rw [e1,e2,e3];rfl
theorem Qsj {c:List PV} (h:Qbz Q5i c): ∃a b:Int,Q5i.mk c= .agg [.int .i64 a,.int .i64 b]:=by
 simp only [Q5i,Qbz,Qd0]at h;obtain⟨_,_,rfl,⟨x,rfl,_⟩,_,_,rfl,⟨y,rfl,_⟩,rfl⟩:=h;exact⟨x,y,rfl⟩
def axT:TT:= .agg [.int .i64,.int .i64,.int .i64,vecT,.int .i64]
def axsT:TT:= .slc axT
theorem Zqe {c:List PV} (h:Qbz axT c): ∃x:Ax,axT.mk c=axV x:=by
 simp only [axT,vecT,Qbz,Qd0]at h;obtain⟨_,_,rfl,⟨w,rfl,_⟩,_,_,rfl,⟨t,rfl,_⟩,_,_,rfl,⟨a,rfl,_⟩,_,_,rfl,⟨_,_,rfl,⟨x,rfl,_⟩,_,_,rfl,⟨y,rfl,_⟩,_,_,rfl,⟨z,rfl,_⟩,rfl⟩,_,_,rfl,⟨s,rfl,_⟩,rfl⟩:=h;exact⟨⟨w,t,a,⟨x,y,z⟩,s⟩,rfl⟩
theorem Qx5 {c:List PV} (h:Qbz axsT c): ∃l:List Ax,axsT.mk c= .slc (l.map axV)∧l.length≤maxLen:=by
 unfold axsT at h;rw [Qbz]at h;obtain⟨es,rfl,hm,hl⟩:=h;obtain⟨l,e,hn⟩:=Qjw (f:=axV) (fun c h=>Zqe h) es hl;refine⟨l,?_,by omega⟩;show PV.slc (es.map axT.mk)=_;rw [e]
theorem Qu6 {c:List PV} (h:Qbz (.int .u8) c): ∃n:Int,TT.mk (.int .u8) c= .int .u8 n∧0≤n∧n<256:=by
 simp only [Qbz]at h;obtain⟨x,rfl,hx⟩:=h;have h1:0≤x∧x≤255:=by simpa [Lit.wf,IntKind.min,IntKind.max,IntKind.signed,IntKind.bits]using hx
 exact⟨x,rfl,h1.1,by omega⟩
def Zoc:Value:= .agg #[.slice none 0 0,.slice none 0 0,.slice none 0 0]
def Qx6:Value:= .agg #[.int .i64 0,.int .i64 0]
end Go.Proofs.YtnohfmdlaajpbaaGreat

namespace Go.Dg
def insD (n len:Int) (D:List Dv):Nat→List Dv
 |0=>[]
 |i+1=>insD n len D i++(if inD n len (D.getD i dv0)=true then [D.getD i dv0]else [])
theorem Qxk (n len:Int) (D:List Dv): ∀i,(insD n len D i).length≤i
 |0=>Nat.le_refl _
 |i+1=>by
  have:=Qxk n len D i;unfold insD;split<;>simp<;>omega
theorem Q3r (n len:Int) (D:List Dv): ∀i,i≤D.length→ ∀d∈insD n len D i,d∈D∧inD n len d=true
 |0,_,d,h=>by cases h
 |i+1,hi,d,h=>by
  unfold insD at h;rcases List.mem_append.1 h with h|h
  ·exact Q3r n len D i (by omega) d h
  ·split at h
   ·rename_i hd;rw [List.mem_singleton]at h;subst h;refine⟨?_,hd⟩;rw [List.getD_eq_getElem?_getD,List.getElem?_eq_getElem (by omega)];exact List.getElem_mem _
   ·cases h
def gapS (gap n:Int) (g:Gp) (d:Dv):Gp:=⟨d.t,d.i,true,if gap<d.t-g.last then g.out++[⟨3,n,d.i,d.t⟩]else g.out⟩
def gapF (gap n:Int) (K:List Dv):Gp:=K.foldl (gapS gap n) ⟨0,0,false,[]⟩
theorem Qrx (gap n:Int) (K:List Dv) (d:Dv):gapF gap n (K++[d])=gapS gap n (gapF gap n K) d:=by
 unfold gapF;rw [List.foldl_append];rfl
theorem Zn0 (gap n len:Int) (D:List Dv): ∀i,gapA gap n len D i=gapF gap n (insD n len D i)
 |0=>rfl
 |i+1=>by
  unfold gapA insD;simp only;rw [Zn0 gap n len D i];split
  ·rw [Qrx];rfl
  ·rw [List.append_nil]
theorem Qh8 {gap n:Int} {K:List Dv} {i:Nat} (h:i<K.length):gapF gap n (K.take (i+1))=gapS gap n (gapF gap n (K.take i)) (K.getD i dv0):=by
 rw [List.take_add_one,List.getElem?_eq_getElem h,List.getD_eq_getElem?_getD,List.getElem?_eq_getElem h];exact Qrx gap n _ _
theorem Q3s {gap n:Int} {K:List Dv} {i:Nat} (h:i<K.length):(gapF gap n (K.take (i+1))).last=(K.getD i dv0).t:=by
 rw [Qh8 h];rfl
theorem Qxl (gap n:Int) (K:List Dv): ∀i,(gapF gap n (K.take i)).out.length≤i
 |0=>by rw [List.take_zero];exact Nat.le_refl _
 |i+1=>by
  have:=Qxl gap n K i;by_cases h:i<K.length
  ·rw [Qh8 h];unfold gapS;simp only;split
   ·rw [List.length_append];simp;omega
   ·omega
  ·rw [List.take_of_length_le (show K.length≤i+1 by omega),←List.take_of_length_le (show K.length≤i by omega)];omega
def gapT (gap n len:Int) (K:List Dv) (i:Nat):List Fd:=(gapF gap n (K.take i)).out++(if i=K.length∧0<i then Qk9 gap n len (gapF gap n K)else [])
def Zd2 (gap n len:Int) (K:List Dv) (i:Nat):List Fd:=if i+1=K.length∧gap<len-(K.getD i dv0).t then [⟨3,n,(K.getD i dv0).i,len⟩]else []
theorem Q3t (gap n len:Int) (K:List Dv):gapT gap n len K 0=[]:=by
 unfold gapT;rw [if_neg (by omega),List.take_zero];rfl
theorem Q3u {gap n len:Int} {K:List Dv} {i:Nat} (h:i<K.length):gapT gap n len K (i+1)=
  gapT gap n len K i++(if gap<(K.getD i dv0).t-(gapF gap n (K.take i)).last then [⟨3,n,(K.getD i dv0).i,(K.getD i dv0).t⟩]else [])++Zd2 gap n len K i:=by
 unfold gapT;rw [if_neg (show¬(i=K.length∧0<i)by omega),List.append_nil];have e1:(gapF gap n (K.take (i+1))).out=(gapF gap n (K.take i)).out++(if gap<(K.getD i dv0).t-(gapF gap n (K.take i)).last then [⟨3,n,(K.getD i dv0).i,(K.getD i dv0).t⟩]else []):=by
  rw [Qh8 h];unfold gapS;simp only;split
  ·rfl
  ·rw [List.append_nil]
 rw [e1];congr 1;unfold Zd2;by_cases hl:i+1=K.length
 ·rw [if_pos ⟨hl,by omega⟩];have ht:K.take (i+1)=K:=List.take_of_length_le (by omega);have e2:=Qh8 (gap:=gap) (n:=n) h;rw [ht]at e2;rw [e2];unfold Qk9 gapS;simp only [if_true];by_cases hg:gap<len-(K.getD i dv0).t
  ·rw [if_pos hg,if_pos ⟨hl,hg⟩]
  ·rw [if_neg hg,if_neg (fun x=>hg x.2)]
 ·rw [if_neg (fun x=>hl x.1),if_neg (fun x=>hl x.1)]
theorem Zpb (gap n len:Int) (D:List Dv):(gapA gap n len D D.length).out++Qk9 gap n len (gapA gap n len D D.length)=
  (if(insD n len D D.length).length=0 then [⟨2,n,0,0⟩]else [])++gapT gap n len (insD n len D D.length) (insD n len D D.length).length:=by
 rw [Zn0];generalize insD n len D D.length=K;unfold gapT;cases K with
 |nil=>rfl
 |cons d K=>
  rw [if_neg (by simp),List.nil_append,List.take_length,if_pos ⟨rfl,by simp⟩]
theorem Zd3 (gap n len:Int) (K:List Dv) (i:Nat):(gapT gap n len K i).length≤i+1:=by
 unfold gapT;have:=Qxl gap n K i;rw [List.length_append];have:(if i=K.length∧0<i then Qk9 gap n len (gapF gap n K)else []).length≤1:=by
  split
  ·unfold Qk9;split
   ·split<;>simp
   ·simp
  ·simp
 omega
end Go.Dg

namespace Go.Proofs.YtnohfmdlaajpbaaGreat
open Go.Vl Go.RowKit Go.Dg
theorem Qz3 (a b:Int):Qaf Tryz.prog 46 [.int .i64 a,.int .i64 b] (.bool (Qd1 a b)):=by
 by_cases h0:a=0
 ·subst h0;rw [show Qd1 0 b=(b==1)from(by unfold Qd1;simp;rw [bq])];refine Qab (tb:=[]) 53 [.tmp 4] [0,1,4,5,6,11,15,23,35,43] mixed Tryz.func46 rfl (by kernel_rfl) ?_;repeat simp -implicitDefEqProofs only [go_sem,seval]
 by_cases h7:a=7
 ·subst h7;rw [show Qd1 7 b=(b==1)from(by unfold Qd1;simp;rw [bq])];refine Qab (tb:=[]) 53 [.tmp 4] [0,1,4,5,6,11,15,23,35,43] mixed Tryz.func46 rfl (by kernel_rfl) ?_;repeat simp -implicitDefEqProofs only [go_sem,seval]
 by_cases h1:a=1
 ·subst h1;rw [show Qd1 1 b=(b==2)from(by unfold Qd1;simp;rw [bq])];refine Qab (tb:=[]) 53 [.tmp 4] [0,1,4,5,6,11,15,23,35,43] mixed Tryz.func46 rfl (by kernel_rfl) ?_;repeat simp -implicitDefEqProofs only [go_sem,seval,Int.reduceBEq]
 by_cases h2:a=2
 ·subst h2;rw [show Qd1 2 b=(b==1||b==3)from(by unfold Qd1;simp;rw [bq,bq])];cases h1:(b==1)with
  |false=>
   refine Qab (tb:=[]) 53 [.tmp 4] [0,1,4,5,6,11,15,23,35,43] mixed Tryz.func46 rfl (by kernel_rfl) ?_;repeat simp -implicitDefEqProofs only [go_sem,seval,Int.reduceBEq,h1,Bool.false_or]
  |true=>
   refine Qab (tb:=[]) 53 [.tmp 4] [0,1,4,5,6,11,15,23,35,43] mixed Tryz.func46 rfl (by kernel_rfl) ?_;repeat simp -implicitDefEqProofs only [go_sem,seval,Int.reduceBEq,h1,Bool.true_or]
 by_cases h3:a=3
 ·subst h3;rw [show Qd1 3 b=(b==1||(b==2||b==4))from(by unfold Qd1;simp;rw [bq,bq,bq])];cases h1:(b==1)with
  |true=>
   refine Qab (tb:=[]) 53 [.tmp 4] [0,1,4,5,6,11,15,23,35,43] mixed Tryz.func46 rfl (by kernel_rfl) ?_;repeat simp -implicitDefEqProofs only [go_sem,seval,Int.reduceBEq,h1,Bool.true_or]
  |false=>
   cases h2:(b==2)with
   |true=>
    refine Qab (tb:=[]) 53 [.tmp 4] [0,1,4,5,6,11,15,23,35,43] mixed Tryz.func46 rfl (by kernel_rfl) ?_;repeat simp -implicitDefEqProofs only [go_sem,seval,Int.reduceBEq,h1,h2,Bool.true_or,Bool.false_or]
   |false=>
    refine Qab (tb:=[]) 53 [.tmp 4] [0,1,4,5,6,11,15,23,35,43] mixed Tryz.func46 rfl (by kernel_rfl) ?_;repeat simp -implicitDefEqProofs only [go_sem,seval,Int.reduceBEq,h1,h2,Bool.false_or]
 by_cases h4:a=4
 ·subst h4;rw [show Qd1 4 b=(b==5||b==6)from(by unfold Qd1;simp;rw [bq,bq])];cases h1:(b==5)with
  |false=>
   refine Qab (tb:=[]) 53 [.tmp 4] [0,1,4,5,6,11,15,23,35,43] mixed Tryz.func46 rfl (by kernel_rfl) ?_;repeat simp -implicitDefEqProofs only [go_sem,seval,Int.reduceBEq,h1,Bool.false_or]
  |true=>
   refine Qab (tb:=[]) 53 [.tmp 4] [0,1,4,5,6,11,15,23,35,43] mixed Tryz.func46 rfl (by kernel_rfl) ?_;repeat simp -implicitDefEqProofs only [go_sem,seval,Int.reduceBEq,h1,Bool.true_or]
 by_cases h5:a=5
 ·subst h5;rw [show Qd1 5 b=(b==4||b==6)from(by unfold Qd1;simp;rw [bq,bq])];cases h1:(b==4)with
  |false=>
   refine Qab (tb:=[]) 53 [.tmp 4] [0,1,4,5,6,11,15,23,35,43] mixed Tryz.func46 rfl (by kernel_rfl) ?_;repeat simp -implicitDefEqProofs only [go_sem,seval,Int.reduceBEq,h1,Bool.false_or]
  |true=>
   refine Qab (tb:=[]) 53 [.tmp 4] [0,1,4,5,6,11,15,23,35,43] mixed Tryz.func46 rfl (by kernel_rfl) ?_;repeat simp -implicitDefEqProofs only [go_sem,seval,Int.reduceBEq,h1,Bool.true_or]
 rw [show Qd1 a b=(b==7)from(by unfold Qd1;rw [if_neg (by omega),if_neg h1,if_neg h2,if_neg h3,if_neg h4,if_neg h5,bq])];have e0:(a==0)=false:=beq_eq_false_iff_ne.2 h0;have e7:(a==7)=false:=beq_eq_false_iff_ne.2 h7;have e1:(a==1)=false:=beq_eq_false_iff_ne.2 h1;have e2:(a==2)=false:=beq_eq_false_iff_ne.2 h2;have e3:(a==3)=false:=beq_eq_false_iff_ne.2 h3;have e4:(a==4)=false:=beq_eq_false_iff_ne.2 h4;have e5:(a==5)=false:=beq_eq_false_iff_ne.2 h5;refine Qab (tb:=[]) 53 [.tmp 4] [0,1,4,5,6,11,15,23,35,43] mixed Tryz.func46 rfl (by kernel_rfl) ?_;repeat simp -implicitDefEqProofs only [go_sem,seval,e0,e7,e1,e2,e3,e4,e5]
end Go.Proofs.YtnohfmdlaajpbaaGreat
