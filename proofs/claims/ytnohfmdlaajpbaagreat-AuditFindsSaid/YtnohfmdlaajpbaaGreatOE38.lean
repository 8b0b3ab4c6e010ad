/-
  OE32, OE38 (merged for the claim).
-/
import Derived.Test.YtnohfmdlaajpbaaGreatOE31
set_option linter.unusedSimpArgs false
set_option linter.unusedVariables false
namespace Go.Proofs.YtnohfmdlaajpbaaGreat
open Go.Vl Go.RowKit Go.Dg
abbrev rlX (tol gap:Int):Box:={els:=[.agg [.int .i64 tol,.int .i64 gap]],esz:=2,ety:=44,fro:=0,live:=true,arr:=false}
abbrev pgX (p:Pg):Box:={els:=[.agg [.slc (p.ns.map PV.str),.slc (p.hs.map v3PV),.slc (p.as_.map acV)]],esz:=3,ety:=26,fro:=0,live:=true,arr:=false}
abbrev lfV (L:List Rc) (s:Int):List (Nat×PV):=[(1,.slc (L.map rcV)),(2,.int .i64 s),(4,.bp 0 3 0 0),(7,.bp 1 2 0 0)]
abbrev lfB (p:Pg) (tol gap:Int) (F:List Go.Dg.Fd):List (Nat×Box):=[(0,pgX p),(1,rlX tol gap),(7,fdB F)]
theorem Q4j (F:List Go.Dg.Fd) (x:PV):(F.map fdV++[x]).length=F.length+1:=by simp
theorem Q4k (F:List Go.Dg.Fd) (k a i t:Int):(((F.map fdV++[PV.agg [.int .i64 k,.int .i64 a,.int .i64 i,.int .i64 t]]).flatMap PV.cells).all PV.okCell)=true:=by
 have:=Ql5 (F++[⟨k,a,i,t⟩]);rw [List.map_append]at this;exact this
set_option maxHeartbeats 16000000 in
set_option maxRecDepth 100000 in
theorem Zdq (p:Pg) (hf:FewP p) (v:Qbf p=true) (hN:p.as_.length≠0) (s:Int) (hs:0≤s∧s≤3600000) (tol gap:Int) (ht:0≤tol∧tol≤1000000) (hg:1≤gap∧gap≤3600000) (L:List Rc) (hl:L.length≤1000) (hL: ∀k,k<L.length→recB (L.getD k rc0)=true):
  Qaf Tryz.prog 21 [pgV p,.slc (L.map rcV),.int .i64 s,.agg [.int .i64 tol,.int .i64 gap]] (.slc ((Qh7 p s tol gap L).map fdV)):=by
 have hDv:=Zv7 p hf v hN s hs L (by omega) hL;have hend:=Znh p v p.as_.length (Nat.le_refl _) ((p.as_.length:Int)-1) rfl;have hbt:=Qeh v (k:=p.as_.length) (Nat.le_refl _);have hpa:=(Qdl v).2.1;have hw1:IntKind.i64.wrap ((p.as_.length:Int)-1)=(p.as_.length:Int)-1:=Qag (by omega) (by omega);have hDl:(dvs p s L L.length).length≤L.length:=Qe8 p.ns.length s (sqR p s) L L.length;have hDo:=Qxe p s hs L hL L.length (Nat.le_refl _);have hN5:=hf.1;have hul:=Qk5 p.ns.length s L;have hol:=Qhw gap tol s (begT p p.as_.length) (dvs p s L L.length) L;unfold Qh7 finds;rw [show devs p.ns.length s (sqR p s) L L.length=dvs p s L L.length from rfl];generalize dvs p s L L.length=D at*;have htq:IntKind.i64.wrap (tol*tol)=tol*tol:=by
  have h1:0≤tol*tol:=Int.mul_nonneg ht.1 ht.1;have h2:tol*tol≤1000000*1000000:=Int.mul_le_mul ht.2 ht.2 ht.1 (by decide);exact Qag (by omega) (by omega)
 generalize begT p p.as_.length=len at*;unfold pgV at hDv hend ⊢;refine Qab (tb:=[]) 282 [.tmp 8] [0,1,2,3,4,7,8,9,10,11,12,13,14,15,16,17,18,19,20,24,35,68,74,100,110,119,123,139,171,186,208,227,254,262] mixed Tryz.func21 rfl (by kernel_rfl) ?_;repeat simp -implicitDefEqProofs only [go_sem,seval]
 refine Qau mixed (fun i:{i:Nat // i≤L.length}=>St.of ([(9,.bs 7 4 0 (unks p.ns.length s L i.1).length),(10,.int .i64 (i.1:Int))]++lfV L s) (lfB p tol gap (unks p.ns.length s L i.1))) (fun i=>L.length-i.1) ⟨0,Nat.zero_le _⟩ ?_ ?_
 ·have e0:unks p.ns.length s L 0=[]:=rfl;refine Qnm 9 7 4 77 rfl rfl rfl (by decide) [(7,7),(0,0),(1,1)] rfl ?_ ?_
  ·simp [Qac,lkp,ren1,ren0,Qah,e0]
  ·simp only [e0];exact⟨⟨rfl,rfl,rfl,rfl,rfl,.inr ⟨rfl,_,_,rfl,rfl,rfl,rfl⟩⟩,⟨rfl,rfl,rfl,rfl,rfl,.inr ⟨rfl,_,_,rfl,rfl,rfl,rfl⟩⟩,⟨rfl,rfl,rfl,rfl,rfl,.inl ⟨rfl,rfl⟩⟩,trivial⟩
 ·rintro⟨i,hi⟩;simp only;by_cases hA:i<L.length
  ·have hA':=ltE hA;have n0:=nnE i;have hgt:=Ql6 L i hA;have hwi:=wrE (n:=i) (by omega);have hfi:=Qco (hL i hA);have hln:=hul i;have hst:unks p.ns.length s L (i+1)=unks p.ns.length s L i++unk1 p.ns.length s i (L.getD i rc0):=rfl;unfold unk1 at hst;generalize unks p.ns.length s L i=F at*;generalize L.getD i rc0=r at*;by_cases haN:(p.ns.length:Int)<r.a
   ·have haN':=eq_true haN;rw [if_pos haN]at hst;have haw:IntKind.i64.wrap (r.a-1)=r.a-1:=Qag (by omega) (by omega);have htw:IntKind.i64.wrap (r.t-s)=r.t-s:=Qag (by omega) (by omega);have hlt:(F.map fdV).length=F.length:=List.length_map ..;have hok:=Ql5 F;have k1:((F.length+1)*32≤140737488355328)=True:=eq_true (by omega);have k2:(F.length+1≤maxLen)=True:=eq_true (by unfold maxLen;omega);repeat (first|simp -implicitDefEqProofs only [go_sem,seval,hA',n0,hgt,hwi,haN',haw,htw,hlt,hok,k1,k2,decide_true,Int.toNat_natCast,List.length_map]|(with_reducible refine And.intro (Qad _ _ (by kernel_rfl)) ?_))
    refine⟨⟨i+1, ‹_›⟩,by simp only;omega,?_⟩;simp only [hst,lfB,fdB,List.map_append,List.length_append];refine Qaj (θ:=[(0,0),(1,1),(7,617)]) rfl ?_ ?_
    ·simp [Qac,lkp,ren1,ren0,Qah]
    ·exact⟨⟨rfl,rfl,rfl,rfl,rfl,.inr ⟨rfl,_,_,rfl,rfl,rfl,rfl⟩⟩,⟨rfl,rfl,rfl,rfl,rfl,.inr ⟨rfl,_,_,rfl,rfl,rfl,rfl⟩⟩,⟨rfl,rfl,rfl,rfl,rfl,.inl ⟨rfl,rfl⟩⟩,trivial⟩
   ·have haN':=eq_false haN;rw [if_neg haN,List.append_nil]at hst;repeat (first|simp -implicitDefEqProofs only [go_sem,seval,hA',n0,hgt,hwi,haN',decide_false,Int.toNat_natCast,List.length_map]|(with_reducible refine And.intro (Qad _ _ (by kernel_rfl)) ?_))
    refine⟨⟨i+1, ‹_›⟩,by simp only;omega,?_⟩;simp only [hst,lfB,fdB,List.map_append,List.length_append];refine Qaj (θ:=[(0,0),(1,1),(7,7)]) rfl ?_ ?_
    ·simp [Qac,lkp,ren1,ren0,Qah]
    ·exact⟨⟨rfl,rfl,rfl,rfl,rfl,.inr ⟨rfl,_,_,rfl,rfl,rfl,rfl⟩⟩,⟨rfl,rfl,rfl,rfl,rfl,.inr ⟨rfl,_,_,rfl,rfl,rfl,rfl⟩⟩,⟨rfl,rfl,rfl,rfl,rfl,.inl ⟨rfl,rfl⟩⟩,trivial⟩
  ·have hA':=ltE' hA;obtain rfl:i=L.length:=by omega
   repeat (first|simp -implicitDefEqProofs only [go_sem,seval,hA',hw1,List.length_map]|(with_reducible refine Qaa hDv ?_ ?_ ?_);rfl;rfl|(with_reducible refine Qaa hend ?_ ?_ ?_);rfl;rfl|(with_reducible refine And.intro (Qad _ _ (by kernel_rfl)) ?_))
   have hU:=hul L.length;generalize unks p.ns.length s L L.length=U at*;refine Qau mixed (fun n:{n:Nat // n≤p.ns.length}=>St.of ([(9,.bs 7 4 0 (U++ofTo gap tol s len D L n.1).length),(11,.slc (D.map dvV)),(12,.int .i64 len),(13,.int .i64 (n.1:Int))]++lfV L s) (lfB p tol gap (U++ofTo gap tol s len D L n.1))) (fun n=>p.ns.length-n.1) ⟨0,Nat.zero_le _⟩ ?_ ?_
   ·have e0:ofTo gap tol s len D L 0=[]:=rfl;simp only [e0,List.append_nil];refine Qaj (θ:=[(0,0),(1,1),(7,7)]) rfl ?_ ?_
    ·simp [Qac,lkp,ren1,ren0,Qah]
    ·exact⟨⟨rfl,rfl,rfl,rfl,rfl,.inr ⟨rfl,_,_,rfl,rfl,rfl,rfl⟩⟩,⟨rfl,rfl,rfl,rfl,rfl,.inr ⟨rfl,_,_,rfl,rfl,rfl,rfl⟩⟩,⟨rfl,rfl,rfl,rfl,rfl,.inl ⟨rfl,rfl⟩⟩,trivial⟩
   ·rintro⟨n,hn⟩;simp only;by_cases hC:n<p.ns.length
    ·have hC':=ltE hC;have m0:=nnE n;have hwn:=wrE (n:=n) (by omega);have hGl:(U++ofTo gap tol s len D L n).length≤20000:=by
      have:=hol n;rw [List.length_append];have h5:n*(2*D.length+L.length+1)≤5*(2*D.length+L.length+1):=Nat.mul_le_mul_right _ (by omega);generalize n*(2*D.length+L.length+1)=X at*;omega
     have hst:U++ofTo gap tol s len D L (n+1)=U++ofTo gap tol s len D L n++ofN gap tol s len D L (n:Int):=by rw [List.append_assoc];rfl
     unfold ofN at hst;rw [Zn1]at hst;generalize U++ofTo gap tol s len D L n=G at*;repeat simp -implicitDefEqProofs only [go_sem,seval,hC',List.length_map]
     refine Qau mixed (fun i:{i:Nat // i≤D.length}=>St.of ([(14,.bs 8 4 0 (insD (n:Int) len D i.1).length),(15,.int .i64 (i.1:Int)),(9,.bs 7 4 0 G.length),(11,.slc (D.map dvV)),(12,.int .i64 len),(13,.int .i64 (n:Int))]++lfV L s) (lfB p tol gap G++[(8,dvB (insD (n:Int) len D i.1))])) (fun i=>D.length-i.1) ⟨0,Nat.zero_le _⟩ ?_ ?_
     ·have e0:insD (n:Int) len D 0=[]:=rfl;refine Qnm 14 8 4 33 rfl rfl rfl (by decide) [(7,7),(0,0),(1,1),(8,8)] rfl ?_ ?_
      ·simp [Qac,lkp,ren1,ren0,Qah,e0]
      ·simp only [e0];exact⟨⟨rfl,rfl,rfl,rfl,rfl,.inr ⟨rfl,_,_,rfl,rfl,rfl,rfl⟩⟩,⟨rfl,rfl,rfl,rfl,rfl,.inr ⟨rfl,_,_,rfl,rfl,rfl,rfl⟩⟩,⟨rfl,rfl,rfl,rfl,rfl,.inl ⟨rfl,rfl⟩⟩,⟨rfl,rfl,rfl,rfl,rfl,.inl ⟨rfl,rfl⟩⟩,trivial⟩
     ·rintro⟨i,hi⟩;simp only;have hKl:=Qwu (n:Int) len D i;by_cases hB:i<D.length
      ·have hB':=ltE hB;have i0:=nnE i;have hwi:=wrE (n:=i) (by omega);have hgd:=Qka D i hB;have hsg:insD (n:Int) len D (i+1)=insD (n:Int) len D i++(if inD (n:Int) len (D.getD i dv0)=true then [D.getD i dv0]else []):=rfl;unfold inD wiB at hsg;generalize D.getD i dv0=d at*;generalize insD (n:Int) len D i=K at*;cases hda:(d.a==(n:Int))with
       |false=>
        rw [bq,hda,Bool.false_and,if_neg (by decide),List.append_nil]at hsg;repeat simp -implicitDefEqProofs only [go_sem,seval,hB',i0,hgd,hda,hwi,Int.toNat_natCast,List.length_map]
        refine⟨⟨i+1, ‹_›⟩,by simp only;omega,?_⟩;simp only [hsg,lfB,dvB,List.map_append,List.length_append];refine Qaj (θ:=[(0,0),(1,1),(7,7),(8,8)]) rfl ?_ ?_
        ·simp [Qac,lkp,ren1,ren0,Qah]
        ·exact⟨⟨rfl,rfl,rfl,rfl,rfl,.inr ⟨rfl,_,_,rfl,rfl,rfl,rfl⟩⟩,⟨rfl,rfl,rfl,rfl,rfl,.inr ⟨rfl,_,_,rfl,rfl,rfl,rfl⟩⟩,⟨rfl,rfl,rfl,rfl,rfl,.inl ⟨rfl,rfl⟩⟩,⟨rfl,rfl,rfl,rfl,rfl,.inl ⟨rfl,rfl⟩⟩,trivial⟩
       |true=>
       rw [bq,hda,Bool.true_and]at hsg;by_cases hd0:0≤d.t
       case neg=>
        have hd0':=eq_false hd0;rw [decide_eq_false hd0,Bool.false_and,if_neg (by decide),List.append_nil]at hsg;repeat simp -implicitDefEqProofs only [go_sem,seval,hB',i0,hgd,hda,hd0',hwi,decide_false,Bool.true_and,Int.toNat_natCast,List.length_map]
        refine⟨⟨i+1, ‹_›⟩,by simp only;omega,?_⟩;simp only [hsg,lfB,dvB,List.map_append,List.length_append];refine Qaj (θ:=[(0,0),(1,1),(7,7),(8,8)]) rfl ?_ ?_
        ·simp [Qac,lkp,ren1,ren0,Qah]
        ·exact⟨⟨rfl,rfl,rfl,rfl,rfl,.inr ⟨rfl,_,_,rfl,rfl,rfl,rfl⟩⟩,⟨rfl,rfl,rfl,rfl,rfl,.inr ⟨rfl,_,_,rfl,rfl,rfl,rfl⟩⟩,⟨rfl,rfl,rfl,rfl,rfl,.inl ⟨rfl,rfl⟩⟩,⟨rfl,rfl,rfl,rfl,rfl,.inl ⟨rfl,rfl⟩⟩,trivial⟩
       have hd0':=eq_true hd0;by_cases hd1:d.t≤len
       case neg=>
        have hd1':=eq_false hd1;rw [decide_eq_false hd1,Bool.and_false,if_neg (by decide),List.append_nil]at hsg;repeat simp -implicitDefEqProofs only [go_sem,seval,hB',i0,hgd,hda,hd0',hd1',hwi,decide_false,decide_true,Bool.true_and,Int.toNat_natCast,List.length_map]
        refine⟨⟨i+1, ‹_›⟩,by simp only;omega,?_⟩;simp only [hsg,lfB,dvB,List.map_append,List.length_append];refine Qaj (θ:=[(0,0),(1,1),(7,7),(8,8)]) rfl ?_ ?_
        ·simp [Qac,lkp,ren1,ren0,Qah]
        ·exact⟨⟨rfl,rfl,rfl,rfl,rfl,.inr ⟨rfl,_,_,rfl,rfl,rfl,rfl⟩⟩,⟨rfl,rfl,rfl,rfl,rfl,.inr ⟨rfl,_,_,rfl,rfl,rfl,rfl⟩⟩,⟨rfl,rfl,rfl,rfl,rfl,.inl ⟨rfl,rfl⟩⟩,⟨rfl,rfl,rfl,rfl,rfl,.inl ⟨rfl,rfl⟩⟩,trivial⟩
       have hd1':=eq_true hd1;rw [decide_eq_true hd0,decide_eq_true hd1,Bool.true_and,if_pos rfl]at hsg;have hlt:(K.map dvV).length=K.length:=List.length_map ..;have hok:=Q37 K;have k1:((K.length+1)*32≤140737488355328)=True:=eq_true (by omega);have k2:(K.length+1≤maxLen)=True:=eq_true (by unfold maxLen;omega);repeat simp -implicitDefEqProofs only [go_sem,seval,hB',i0,hgd,hda,hd0',hd1',hwi,hlt,hok,k1,k2,decide_true,Bool.true_and,Int.toNat_natCast,List.length_map]
       refine⟨⟨i+1, ‹_›⟩,by simp only;omega,?_⟩;simp only [hsg,lfB,dvB,List.map_append,List.length_append];refine Qaj (θ:=[(0,0),(1,1),(7,7),(8,1606)]) rfl ?_ ?_
       ·simp [Qac,lkp,ren1,ren0,Qah]
       ·exact⟨⟨rfl,rfl,rfl,rfl,rfl,.inr ⟨rfl,_,_,rfl,rfl,rfl,rfl⟩⟩,⟨rfl,rfl,rfl,rfl,rfl,.inr ⟨rfl,_,_,rfl,rfl,rfl,rfl⟩⟩,⟨rfl,rfl,rfl,rfl,rfl,.inl ⟨rfl,rfl⟩⟩,⟨rfl,rfl,rfl,rfl,rfl,.inl ⟨rfl,rfl⟩⟩,trivial⟩
      ·have hB':=ltE' hB;obtain rfl:i=D.length:=by omega
       repeat simp -implicitDefEqProofs only [go_sem,seval,hB',List.length_map]
       generalize hKK:insD (n:Int) len D D.length=K at*;have hKd: ∀k,k<K.length→(0≤(K.getD k dv0).t∧(K.getD k dv0).t≤3600000):=by
        intro k hk;have hm:K.getD k dv0∈K:=by rw [List.getD_eq_getElem?_getD,List.getElem?_eq_getElem hk];exact List.getElem_mem _
        have h2:=(Q2o (n:Int) len D D.length (Nat.le_refl _) (K.getD k dv0) (by rw [hKK];exact hm)).2;unfold inD at h2;rw [Bool.and_eq_true]at h2;have:=Qc6.1 h2.2;omega
       clear hKK;obtain⟨G1,hG1⟩: ∃G1,G1=G++(if K.length=0 then [(⟨2,(n:Int),0,0⟩:Go.Dg.Fd)]else []):=⟨_,rfl⟩;have hG1l:G1.length≤21000:=by rw [hG1,List.length_append];split<;>simp<;>omega
       rw [←List.append_assoc,←List.append_assoc,←List.append_assoc,←hG1]at hst;have hlt:(G.map fdV).length=G.length:=List.length_map ..;have hok:=Ql5 G;have k1:((G.length+1)*32≤140737488355328)=True:=eq_true (by omega);have k2:(G.length+1≤maxLen)=True:=eq_true (by unfold maxLen;omega);by_cases hK0:K.length=0
       case' pos=>
        have hc0:((K.length:Int)==0)=true:=by rw [hK0];rfl
        rw [if_pos hK0]at hG1
       case' neg=>
        have hc0:((K.length:Int)==0)=false:=beq_eq_false_iff_ne.2 (by omega);rw [if_neg hK0,List.append_nil]at hG1
       all_goals
        repeat simp -implicitDefEqProofs only [go_sem,seval,hc0,hlt,hok,k1,k2]
        refine Qau mixed (fun i:{i:Nat // i≤K.length}=>St.of ([(14,.bs 8 4 0 K.length),(16,.int .i64 (i.1:Int)),(9,.bs 7 4 0 (G1++gapT gap (n:Int) len K i.1).length),(11,.slc (D.map dvV)),(12,.int .i64 len),(13,.int .i64 (n:Int))]++lfV L s) (lfB p tol gap (G1++gapT gap (n:Int) len K i.1)++[(8,dvB K)])) (fun i=>K.length-i.1) ⟨0,Nat.zero_le _⟩ ?_ ?_
        ·simp only [Q2q,List.append_nil];rw [hG1];simp only [lfB,fdB,List.map_append,List.length_append]
         first
          |exact Qaj (θ:=[(0,0),(1,1),(7,1804),(8,8)]) rfl (by simp [Qac,lkp,ren1,ren0,Qah]) (by exact⟨⟨rfl,rfl,rfl,rfl,rfl,.inr ⟨rfl,_,_,rfl,rfl,rfl,rfl⟩⟩,⟨rfl,rfl,rfl,rfl,rfl,.inr ⟨rfl,_,_,rfl,rfl,rfl,rfl⟩⟩,⟨rfl,rfl,rfl,rfl,rfl,.inl ⟨rfl,rfl⟩⟩,⟨rfl,rfl,rfl,rfl,rfl,.inl ⟨rfl,rfl⟩⟩,trivial⟩)
          |exact Qaj (θ:=[(0,0),(1,1),(7,7),(8,8)]) rfl (by simp [Qac,lkp,ren1,ren0,Qah]) (by exact⟨⟨rfl,rfl,rfl,rfl,rfl,.inr ⟨rfl,_,_,rfl,rfl,rfl,rfl⟩⟩,⟨rfl,rfl,rfl,rfl,rfl,.inr ⟨rfl,_,_,rfl,rfl,rfl,rfl⟩⟩,⟨rfl,rfl,rfl,rfl,rfl,.inl ⟨rfl,rfl⟩⟩,⟨rfl,rfl,rfl,rfl,rfl,.inl ⟨rfl,rfl⟩⟩,trivial⟩)
        ·rintro⟨i,hi⟩;simp only;have hgl:=Zcv gap (n:Int) len K i;have hKl2:K.length≤1000:=by omega
         by_cases hE:i<K.length
         ·rcases Nat.eq_zero_or_pos K.length with hKz|hKz
          ·exfalso;omega
          have hE':=ltE hE;have i0:=nnE i;have hwi:=wrE (n:=i) (by omega);have hgd:=Qka K i hE;have hkd:=hKd i hE;have hsg:G1++gapT gap (n:Int) len K (i+1)=G1++gapT gap (n:Int) len K i++(if gap<(K.getD i dv0).t-(gapF gap n (K.take i)).last then [(⟨3,(n:Int),(K.getD i dv0).i,(K.getD i dv0).t⟩:Go.Dg.Fd)]else [])++Zcu gap (n:Int) len K i:=by
           rw [Q2r hE];simp only [List.append_assoc]
          unfold Zcu at hsg;have hAl:(G1++gapT gap (n:Int) len K i).length≤30000:=by rw [List.length_append];omega
          generalize G1++gapT gap (n:Int) len K i=A at*;have hkw:IntKind.i64.wrap ((K.length:Int)-1)=(K.length:Int)-1:=Qag (by omega) (by omega);have hlw:IntKind.i64.wrap (len-(K.getD i dv0).t)=len-(K.getD i dv0).t:=Qag (by omega) (by omega);have hAlt:(A.map fdV).length=A.length:=List.length_map ..;have hAok:=Ql5 A;have j1:((A.length+1)*32≤140737488355328)=True:=eq_true (by omega);have j2:(A.length+1≤maxLen)=True:=eq_true (by unfold maxLen;omega);have j3:((A.length+1+1)*32≤140737488355328)=True:=eq_true (by omega);have j4:(A.length+1+1≤maxLen)=True:=eq_true (by unfold maxLen;omega);by_cases hp:0<i
          ·have c0:((0:Int)<(i:Int))=True:=eq_true (by omega);have hwm:IntKind.i64.wrap ((i:Int)-1)=((i-1:Nat):Int):=by rw [Qag (by omega) (by omega)];omega
           have nm:=nnE (i-1);have lm:=ltE (show i-1<K.length by omega);have hgm:=Qka K (i-1) (by omega);have hkm:=hKd (i-1) (by omega);have hpv:=Q2p (gap:=gap) (n:=(n:Int)) (show i-1<K.length by omega);rw [show i-1+1=i by omega]at hpv;rw [hpv]at hsg;clear hpv;generalize K.getD i dv0=d at*;generalize K.getD (i-1) dv0=e at*;have htw:IntKind.i64.wrap (d.t-e.t)=d.t-e.t:=Qag (by omega) (by omega);by_cases hz:i+1=K.length
           ·have he:((i:Int)==(K.length:Int)-1)=true:=beq_iff_eq.2 (by omega);by_cases hq2:gap<len-d.t
            ·have hq2':=eq_true hq2;rw [if_pos (show i+1=K.length∧gap<len-d.t from⟨hz,hq2⟩)]at hsg;by_cases hq:gap<d.t-e.t
             ·have hq':=eq_true hq;rw [if_pos hq]at hsg;repeat (first|simp -implicitDefEqProofs only [go_sem,seval,hE',i0,hgd,hwi,c0,hwm,nm,lm,hgm,htw,hkw,hlw,hq',he,hq2',hAlt,hAok,j1,j2,j3,j4,Q4j,Q4k,decide_true,Bool.true_and,Int.toNat_natCast]|(with_reducible refine And.intro (Qad _ _ (by kernel_rfl)) ?_))
              refine⟨⟨i+1, ‹_›⟩,by simp only;omega,?_⟩;simp only [hsg,lfB,fdB,List.map_append,List.length_append];refine Qaj (θ:=[(0,0),(1,1),(7,2810),(8,8)]) rfl ?_ ?_
              ·simp [Qac,lkp,ren1,ren0,Qah]
              ·exact⟨⟨rfl,rfl,rfl,rfl,rfl,.inr ⟨rfl,_,_,rfl,rfl,rfl,rfl⟩⟩,⟨rfl,rfl,rfl,rfl,rfl,.inr ⟨rfl,_,_,rfl,rfl,rfl,rfl⟩⟩,⟨rfl,rfl,rfl,rfl,rfl,.inl ⟨rfl,rfl⟩⟩,⟨rfl,rfl,rfl,rfl,rfl,.inl ⟨rfl,rfl⟩⟩,trivial⟩
             ·have hq':=eq_false hq;rw [if_neg hq,List.append_nil]at hsg;repeat (first|simp -implicitDefEqProofs only [go_sem,seval,hE',i0,hgd,hwi,c0,hwm,nm,lm,hgm,htw,hkw,hlw,hq',he,hq2',hAlt,hAok,j1,j2,decide_true,decide_false,Bool.true_and,Int.toNat_natCast]|(with_reducible refine And.intro (Qad _ _ (by kernel_rfl)) ?_))
              refine⟨⟨i+1, ‹_›⟩,by simp only;omega,?_⟩;simp only [hsg,lfB,fdB,List.map_append,List.length_append];refine Qaj (θ:=[(0,0),(1,1),(7,2810),(8,8)]) rfl ?_ ?_
              ·simp [Qac,lkp,ren1,ren0,Qah]
              ·exact⟨⟨rfl,rfl,rfl,rfl,rfl,.inr ⟨rfl,_,_,rfl,rfl,rfl,rfl⟩⟩,⟨rfl,rfl,rfl,rfl,rfl,.inr ⟨rfl,_,_,rfl,rfl,rfl,rfl⟩⟩,⟨rfl,rfl,rfl,rfl,rfl,.inl ⟨rfl,rfl⟩⟩,⟨rfl,rfl,rfl,rfl,rfl,.inl ⟨rfl,rfl⟩⟩,trivial⟩
            ·have hq2':=eq_false hq2;rw [if_neg (show¬(i+1=K.length∧gap<len-d.t)from fun x=>hq2 x.2),List.append_nil]at hsg;by_cases hq:gap<d.t-e.t
             ·have hq':=eq_true hq;rw [if_pos hq]at hsg;repeat (first|simp -implicitDefEqProofs only [go_sem,seval,hE',i0,hgd,hwi,c0,hwm,nm,lm,hgm,htw,hkw,hlw,hq',he,hq2',hAlt,hAok,j1,j2,decide_true,decide_false,Bool.true_and,Int.toNat_natCast]|(with_reducible refine And.intro (Qad _ _ (by kernel_rfl)) ?_))
              refine⟨⟨i+1, ‹_›⟩,by simp only;omega,?_⟩;simp only [hsg,lfB,fdB,List.map_append,List.length_append];refine Qaj (θ:=[(0,0),(1,1),(7,2614),(8,8)]) rfl ?_ ?_
              ·simp [Qac,lkp,ren1,ren0,Qah]
              ·exact⟨⟨rfl,rfl,rfl,rfl,rfl,.inr ⟨rfl,_,_,rfl,rfl,rfl,rfl⟩⟩,⟨rfl,rfl,rfl,rfl,rfl,.inr ⟨rfl,_,_,rfl,rfl,rfl,rfl⟩⟩,⟨rfl,rfl,rfl,rfl,rfl,.inl ⟨rfl,rfl⟩⟩,⟨rfl,rfl,rfl,rfl,rfl,.inl ⟨rfl,rfl⟩⟩,trivial⟩
             ·have hq':=eq_false hq;rw [if_neg hq,List.append_nil]at hsg;repeat (first|simp -implicitDefEqProofs only [go_sem,seval,hE',i0,hgd,hwi,c0,hwm,nm,lm,hgm,htw,hkw,hlw,hq',he,hq2',decide_true,decide_false,Bool.true_and,Int.toNat_natCast]|(with_reducible refine And.intro (Qad _ _ (by kernel_rfl)) ?_))
              refine⟨⟨i+1, ‹_›⟩,by simp only;omega,?_⟩;simp only [hsg,lfB,fdB,List.map_append,List.length_append];refine Qaj (θ:=[(0,0),(1,1),(7,7),(8,8)]) rfl ?_ ?_
              ·simp [Qac,lkp,ren1,ren0,Qah]
              ·exact⟨⟨rfl,rfl,rfl,rfl,rfl,.inr ⟨rfl,_,_,rfl,rfl,rfl,rfl⟩⟩,⟨rfl,rfl,rfl,rfl,rfl,.inr ⟨rfl,_,_,rfl,rfl,rfl,rfl⟩⟩,⟨rfl,rfl,rfl,rfl,rfl,.inl ⟨rfl,rfl⟩⟩,⟨rfl,rfl,rfl,rfl,rfl,.inl ⟨rfl,rfl⟩⟩,trivial⟩
           ·have he:((i:Int)==(K.length:Int)-1)=false:=beq_eq_false_iff_ne.2 (by omega);have hq2':True:=trivial;rw [if_neg (show¬(i+1=K.length∧gap<len-d.t)from fun x=>hz x.1),List.append_nil]at hsg;by_cases hq:gap<d.t-e.t
            ·have hq':=eq_true hq;rw [if_pos hq]at hsg;repeat (first|simp -implicitDefEqProofs only [go_sem,seval,hE',i0,hgd,hwi,c0,hwm,nm,lm,hgm,htw,hkw,hq',he,hAlt,hAok,j1,j2,decide_true,Bool.true_and,Int.toNat_natCast]|(with_reducible refine And.intro (Qad _ _ (by kernel_rfl)) ?_))
             refine⟨⟨i+1, ‹_›⟩,by simp only;omega,?_⟩;simp only [hsg,lfB,fdB,List.map_append,List.length_append];refine Qaj (θ:=[(0,0),(1,1),(7,2614),(8,8)]) rfl ?_ ?_
             ·simp [Qac,lkp,ren1,ren0,Qah]
             ·exact⟨⟨rfl,rfl,rfl,rfl,rfl,.inr ⟨rfl,_,_,rfl,rfl,rfl,rfl⟩⟩,⟨rfl,rfl,rfl,rfl,rfl,.inr ⟨rfl,_,_,rfl,rfl,rfl,rfl⟩⟩,⟨rfl,rfl,rfl,rfl,rfl,.inl ⟨rfl,rfl⟩⟩,⟨rfl,rfl,rfl,rfl,rfl,.inl ⟨rfl,rfl⟩⟩,trivial⟩
            ·have hq':=eq_false hq;rw [if_neg hq,List.append_nil]at hsg;repeat (first|simp -implicitDefEqProofs only [go_sem,seval,hE',i0,hgd,hwi,c0,hwm,nm,lm,hgm,htw,hkw,hq',he,decide_true,decide_false,Bool.true_and,Int.toNat_natCast]|(with_reducible refine And.intro (Qad _ _ (by kernel_rfl)) ?_))
             refine⟨⟨i+1, ‹_›⟩,by simp only;omega,?_⟩;simp only [hsg,lfB,fdB,List.map_append,List.length_append];refine Qaj (θ:=[(0,0),(1,1),(7,7),(8,8)]) rfl ?_ ?_
             ·simp [Qac,lkp,ren1,ren0,Qah]
             ·exact⟨⟨rfl,rfl,rfl,rfl,rfl,.inr ⟨rfl,_,_,rfl,rfl,rfl,rfl⟩⟩,⟨rfl,rfl,rfl,rfl,rfl,.inr ⟨rfl,_,_,rfl,rfl,rfl,rfl⟩⟩,⟨rfl,rfl,rfl,rfl,rfl,.inl ⟨rfl,rfl⟩⟩,⟨rfl,rfl,rfl,rfl,rfl,.inl ⟨rfl,rfl⟩⟩,trivial⟩
          ·have c0:((0:Int)<(i:Int))=False:=eq_false (by omega);rw [show K.take i=[]by rw [show i=0 by omega];rfl,show(gapF gap (n:Int) []).last=0 from rfl]at hsg;generalize K.getD i dv0=d at*;have htw:IntKind.i64.wrap (d.t-0)=d.t-0:=Qag (by omega) (by omega);by_cases hz:i+1=K.length
           ·have he:((i:Int)==(K.length:Int)-1)=true:=beq_iff_eq.2 (by omega);by_cases hq2:gap<len-d.t
            ·have hq2':=eq_true hq2;rw [if_pos (show i+1=K.length∧gap<len-d.t from⟨hz,hq2⟩)]at hsg;by_cases hq:gap<d.t-0
             ·have hq':=eq_true hq;rw [if_pos hq]at hsg;repeat (first|simp -implicitDefEqProofs only [go_sem,seval,hE',i0,hgd,hwi,c0,htw,hkw,hlw,hq',he,hq2',hAlt,hAok,j1,j2,j3,j4,Q4j,Q4k,decide_true,decide_false,Bool.true_and,Int.toNat_natCast]|(with_reducible refine And.intro (Qad _ _ (by kernel_rfl)) ?_))
              refine⟨⟨i+1, ‹_›⟩,by simp only;omega,?_⟩;simp only [hsg,lfB,fdB,List.map_append,List.length_append];refine Qaj (θ:=[(0,0),(1,1),(7,2810),(8,8)]) rfl ?_ ?_
              ·simp [Qac,lkp,ren1,ren0,Qah]
              ·exact⟨⟨rfl,rfl,rfl,rfl,rfl,.inr ⟨rfl,_,_,rfl,rfl,rfl,rfl⟩⟩,⟨rfl,rfl,rfl,rfl,rfl,.inr ⟨rfl,_,_,rfl,rfl,rfl,rfl⟩⟩,⟨rfl,rfl,rfl,rfl,rfl,.inl ⟨rfl,rfl⟩⟩,⟨rfl,rfl,rfl,rfl,rfl,.inl ⟨rfl,rfl⟩⟩,trivial⟩
             ·have hq':=eq_false hq;rw [if_neg hq,List.append_nil]at hsg;repeat (first|simp -implicitDefEqProofs only [go_sem,seval,hE',i0,hgd,hwi,c0,htw,hkw,hlw,hq',he,hq2',hAlt,hAok,j1,j2,decide_true,decide_false,Bool.true_and,Int.toNat_natCast]|(with_reducible refine And.intro (Qad _ _ (by kernel_rfl)) ?_))
              refine⟨⟨i+1, ‹_›⟩,by simp only;omega,?_⟩;simp only [hsg,lfB,fdB,List.map_append,List.length_append];refine Qaj (θ:=[(0,0),(1,1),(7,2810),(8,8)]) rfl ?_ ?_
              ·simp [Qac,lkp,ren1,ren0,Qah]
              ·exact⟨⟨rfl,rfl,rfl,rfl,rfl,.inr ⟨rfl,_,_,rfl,rfl,rfl,rfl⟩⟩,⟨rfl,rfl,rfl,rfl,rfl,.inr ⟨rfl,_,_,rfl,rfl,rfl,rfl⟩⟩,⟨rfl,rfl,rfl,rfl,rfl,.inl ⟨rfl,rfl⟩⟩,⟨rfl,rfl,rfl,rfl,rfl,.inl ⟨rfl,rfl⟩⟩,trivial⟩
            ·have hq2':=eq_false hq2;rw [if_neg (show¬(i+1=K.length∧gap<len-d.t)from fun x=>hq2 x.2),List.append_nil]at hsg;by_cases hq:gap<d.t-0
             ·have hq':=eq_true hq;rw [if_pos hq]at hsg;repeat (first|simp -implicitDefEqProofs only [go_sem,seval,hE',i0,hgd,hwi,c0,htw,hkw,hlw,hq',he,hq2',hAlt,hAok,j1,j2,decide_true,decide_false,Bool.true_and,Int.toNat_natCast]|(with_reducible refine And.intro (Qad _ _ (by kernel_rfl)) ?_))
              refine⟨⟨i+1, ‹_›⟩,by simp only;omega,?_⟩;simp only [hsg,lfB,fdB,List.map_append,List.length_append];refine Qaj (θ:=[(0,0),(1,1),(7,2614),(8,8)]) rfl ?_ ?_
              ·simp [Qac,lkp,ren1,ren0,Qah]
              ·exact⟨⟨rfl,rfl,rfl,rfl,rfl,.inr ⟨rfl,_,_,rfl,rfl,rfl,rfl⟩⟩,⟨rfl,rfl,rfl,rfl,rfl,.inr ⟨rfl,_,_,rfl,rfl,rfl,rfl⟩⟩,⟨rfl,rfl,rfl,rfl,rfl,.inl ⟨rfl,rfl⟩⟩,⟨rfl,rfl,rfl,rfl,rfl,.inl ⟨rfl,rfl⟩⟩,trivial⟩
             ·have hq':=eq_false hq;rw [if_neg hq,List.append_nil]at hsg;repeat (first|simp -implicitDefEqProofs only [go_sem,seval,hE',i0,hgd,hwi,c0,htw,hkw,hlw,hq',he,hq2',decide_true,decide_false,Bool.true_and,Int.toNat_natCast]|(with_reducible refine And.intro (Qad _ _ (by kernel_rfl)) ?_))
              refine⟨⟨i+1, ‹_›⟩,by simp only;omega,?_⟩;simp only [hsg,lfB,fdB,List.map_append,List.length_append];refine Qaj (θ:=[(0,0),(1,1),(7,7),(8,8)]) rfl ?_ ?_
              ·simp [Qac,lkp,ren1,ren0,Qah]
              ·exact⟨⟨rfl,rfl,rfl,rfl,rfl,.inr ⟨rfl,_,_,rfl,rfl,rfl,rfl⟩⟩,⟨rfl,rfl,rfl,rfl,rfl,.inr ⟨rfl,_,_,rfl,rfl,rfl,rfl⟩⟩,⟨rfl,rfl,rfl,rfl,rfl,.inl ⟨rfl,rfl⟩⟩,⟨rfl,rfl,rfl,rfl,rfl,.inl ⟨rfl,rfl⟩⟩,trivial⟩
           ·have he:((i:Int)==(K.length:Int)-1)=false:=beq_eq_false_iff_ne.2 (by omega);have hq2':True:=trivial;rw [if_neg (show¬(i+1=K.length∧gap<len-d.t)from fun x=>hz x.1),List.append_nil]at hsg;by_cases hq:gap<d.t-0
            ·have hq':=eq_true hq;rw [if_pos hq]at hsg;repeat (first|simp -implicitDefEqProofs only [go_sem,seval,hE',i0,hgd,hwi,c0,htw,hkw,hq',he,hAlt,hAok,j1,j2,decide_true,decide_false,Bool.true_and,Int.toNat_natCast]|(with_reducible refine And.intro (Qad _ _ (by kernel_rfl)) ?_))
             refine⟨⟨i+1, ‹_›⟩,by simp only;omega,?_⟩;simp only [hsg,lfB,fdB,List.map_append,List.length_append];refine Qaj (θ:=[(0,0),(1,1),(7,2614),(8,8)]) rfl ?_ ?_
             ·simp [Qac,lkp,ren1,ren0,Qah]
             ·exact⟨⟨rfl,rfl,rfl,rfl,rfl,.inr ⟨rfl,_,_,rfl,rfl,rfl,rfl⟩⟩,⟨rfl,rfl,rfl,rfl,rfl,.inr ⟨rfl,_,_,rfl,rfl,rfl,rfl⟩⟩,⟨rfl,rfl,rfl,rfl,rfl,.inl ⟨rfl,rfl⟩⟩,⟨rfl,rfl,rfl,rfl,rfl,.inl ⟨rfl,rfl⟩⟩,trivial⟩
            ·have hq':=eq_false hq;rw [if_neg hq,List.append_nil]at hsg;repeat (first|simp -implicitDefEqProofs only [go_sem,seval,hE',i0,hgd,hwi,c0,htw,hkw,hq',he,decide_true,decide_false,Bool.true_and,Int.toNat_natCast]|(with_reducible refine And.intro (Qad _ _ (by kernel_rfl)) ?_))
             refine⟨⟨i+1, ‹_›⟩,by simp only;omega,?_⟩;simp only [hsg,lfB,fdB,List.map_append,List.length_append];refine Qaj (θ:=[(0,0),(1,1),(7,7),(8,8)]) rfl ?_ ?_
             ·simp [Qac,lkp,ren1,ren0,Qah]
             ·exact⟨⟨rfl,rfl,rfl,rfl,rfl,.inr ⟨rfl,_,_,rfl,rfl,rfl,rfl⟩⟩,⟨rfl,rfl,rfl,rfl,rfl,.inr ⟨rfl,_,_,rfl,rfl,rfl,rfl⟩⟩,⟨rfl,rfl,rfl,rfl,rfl,.inl ⟨rfl,rfl⟩⟩,⟨rfl,rfl,rfl,rfl,rfl,.inl ⟨rfl,rfl⟩⟩,trivial⟩
         ·have hE':=ltE' hE;obtain rfl:i=K.length:=by omega
          repeat simp -implicitDefEqProofs only [go_sem,seval,hE',List.length_map]
          generalize hG2:G1++gapT gap (n:Int) len K K.length=G2 at*;have hG2l:G2.length≤25000:=by rw [←hG2,List.length_append];omega
          clear hG2;refine Qau mixed (fun i:{i:Nat // i≤D.length}=>St.of ([(18,.int .i64 (i.1:Int)),(9,.bs 7 4 0 (G2++offs tol (n:Int) D i.1).length),(11,.slc (D.map dvV)),(12,.int .i64 len),(13,.int .i64 (n:Int))]++lfV L s) (lfB p tol gap (G2++offs tol (n:Int) D i.1))) (fun i=>D.length-i.1) ⟨0,Nat.zero_le _⟩ ?_ ?_
          ·have e0:offs tol (n:Int) D 0=[]:=rfl;simp only [e0,List.append_nil];refine Qaj (θ:=[(0,0),(1,1),(7,7)]) rfl ?_ ?_
           ·simp [Qac,lkp,ren1,ren0,Qah]
           ·exact⟨⟨rfl,rfl,rfl,rfl,rfl,.inr ⟨rfl,_,_,rfl,rfl,rfl,rfl⟩⟩,⟨rfl,rfl,rfl,rfl,rfl,.inr ⟨rfl,_,_,rfl,rfl,rfl,rfl⟩⟩,⟨rfl,rfl,rfl,rfl,rfl,.inl ⟨rfl,rfl⟩⟩,trivial⟩
          ·rintro⟨i,hi⟩;simp only;have hlo:=Qgp tol (n:Int) D i;by_cases hE:i<D.length
           ·have hE':=ltE hE;have i0:=nnE i;have hwi:=wrE (n:=i) (by omega);have hgd:=Qka D i hE;have hsg:G2++offs tol (n:Int) D (i+1)=G2++offs tol (n:Int) D i++off1 tol (n:Int) (D.getD i dv0):=by rw [List.append_assoc];rfl
            unfold off1 at hsg;have hAl:(G2++offs tol (n:Int) D i).length≤30000:=by rw [List.length_append];omega
            generalize G2++offs tol (n:Int) D i=A at*;generalize D.getD i dv0=d at*;have hAlt:(A.map fdV).length=A.length:=List.length_map ..;have hAok:=Ql5 A;have j1:((A.length+1)*32≤140737488355328)=True:=eq_true (by omega);have j2:(A.length+1≤maxLen)=True:=eq_true (by unfold maxLen;omega);cases hda:(d.a==(n:Int))with
            |false=>
             rw [bq,hda,Bool.false_and,if_neg (by decide),List.append_nil]at hsg;repeat (first|simp -implicitDefEqProofs only [go_sem,seval,hE',i0,hgd,hda,hwi,Int.toNat_natCast,List.length_map]|(with_reducible refine And.intro (Qad _ _ (by kernel_rfl)) ?_))
             refine⟨⟨i+1, ‹_›⟩,by simp only;omega,?_⟩;simp only [hsg,lfB,fdB,List.map_append,List.length_append];refine Qaj (θ:=[(0,0),(1,1),(7,7)]) rfl ?_ ?_
             ·simp [Qac,lkp,ren1,ren0,Qah]
             ·exact⟨⟨rfl,rfl,rfl,rfl,rfl,.inr ⟨rfl,_,_,rfl,rfl,rfl,rfl⟩⟩,⟨rfl,rfl,rfl,rfl,rfl,.inr ⟨rfl,_,_,rfl,rfl,rfl,rfl⟩⟩,⟨rfl,rfl,rfl,rfl,rfl,.inl ⟨rfl,rfl⟩⟩,trivial⟩
            |true=>
            rw [bq,hda,Bool.true_and]at hsg;by_cases hgq:tol*tol<d.q
            ·have hgq':=eq_true hgq;rw [decide_eq_true hgq,if_pos rfl]at hsg;repeat (first|simp -implicitDefEqProofs only [go_sem,seval,hE',i0,hgd,hda,hwi,htq,hgq',hAlt,hAok,j1,j2,decide_true,Bool.true_and,Int.toNat_natCast,List.length_map]|(with_reducible refine And.intro (Qad _ _ (by kernel_rfl)) ?_))
             refine⟨⟨i+1, ‹_›⟩,by simp only;omega,?_⟩;simp only [hsg,lfB,fdB,List.map_append,List.length_append];refine Qaj (θ:=[(0,0),(1,1),(7,3314)]) rfl ?_ ?_
             ·simp [Qac,lkp,ren1,ren0,Qah]
             ·exact⟨⟨rfl,rfl,rfl,rfl,rfl,.inr ⟨rfl,_,_,rfl,rfl,rfl,rfl⟩⟩,⟨rfl,rfl,rfl,rfl,rfl,.inr ⟨rfl,_,_,rfl,rfl,rfl,rfl⟩⟩,⟨rfl,rfl,rfl,rfl,rfl,.inl ⟨rfl,rfl⟩⟩,trivial⟩
            ·have hgq':=eq_false hgq;rw [decide_eq_false hgq,if_neg (by decide),List.append_nil]at hsg;repeat (first|simp -implicitDefEqProofs only [go_sem,seval,hE',i0,hgd,hda,hwi,htq,hgq',decide_false,Bool.true_and,Int.toNat_natCast,List.length_map]|(with_reducible refine And.intro (Qad _ _ (by kernel_rfl)) ?_))
             refine⟨⟨i+1, ‹_›⟩,by simp only;omega,?_⟩;simp only [hsg,lfB,fdB,List.map_append,List.length_append];refine Qaj (θ:=[(0,0),(1,1),(7,7)]) rfl ?_ ?_
             ·simp [Qac,lkp,ren1,ren0,Qah]
             ·exact⟨⟨rfl,rfl,rfl,rfl,rfl,.inr ⟨rfl,_,_,rfl,rfl,rfl,rfl⟩⟩,⟨rfl,rfl,rfl,rfl,rfl,.inr ⟨rfl,_,_,rfl,rfl,rfl,rfl⟩⟩,⟨rfl,rfl,rfl,rfl,rfl,.inl ⟨rfl,rfl⟩⟩,trivial⟩
           ·have hE':=ltE' hE;obtain rfl:i=D.length:=by omega
            repeat simp -implicitDefEqProofs only [go_sem,seval,hE',List.length_map]
            generalize hG3:G2++offs tol (n:Int) D D.length=G3 at*;have hG3l:G3.length≤27000:=by rw [←hG3,List.length_append];omega
            clear hG3;refine Qau mixed (fun i:{i:Nat // i≤L.length}=>St.of ([(19,.int .i64 (stA s (n:Int) L i.1).bef),(20,.int .i64 (i.1:Int)),(9,.bs 7 4 0 (G3++(stA s (n:Int) L i.1).out).length),(11,.slc (D.map dvV)),(12,.int .i64 len),(13,.int .i64 (n:Int))]++lfV L s) (lfB p tol gap (G3++(stA s (n:Int) L i.1).out))) (fun i=>L.length-i.1) ⟨0,Nat.zero_le _⟩ ?_ ?_
            ·have e0:stA s (n:Int) L 0=⟨0,[]⟩:=rfl;simp only [e0,List.append_nil];refine Qaj (θ:=[(0,0),(1,1),(7,7)]) rfl ?_ ?_
             ·simp [Qac,lkp,ren1,ren0,Qah]
             ·exact⟨⟨rfl,rfl,rfl,rfl,rfl,.inr ⟨rfl,_,_,rfl,rfl,rfl,rfl⟩⟩,⟨rfl,rfl,rfl,rfl,rfl,.inr ⟨rfl,_,_,rfl,rfl,rfl,rfl⟩⟩,⟨rfl,rfl,rfl,rfl,rfl,.inl ⟨rfl,rfl⟩⟩,trivial⟩
            ·rintro⟨i,hi⟩;simp only;have hls:=Qtw s (n:Int) L i;by_cases hF:i<L.length
             ·have hF':=ltE hF;have i0:=nnE i;have hwi:=wrE (n:=i) (by omega);have hgr:=Ql6 L i hF;have hfi:=Qco (hL i hF);have hsg:stA s (n:Int) L (i+1)=if isS (n:Int) (stA s (n:Int) L i).bef (L.getD i rc0)=true then⟨(L.getD i rc0).s,if Qdy (stA s (n:Int) L i).bef (L.getD i rc0).s=true then(stA s (n:Int) L i).out else(stA s (n:Int) L i).out++[⟨5,(n:Int),i,(L.getD i rc0).t-s⟩]⟩else stA s (n:Int) L i:=rfl;unfold isS at hsg;rw [show(n:Int)+1=((n+1:Nat):Int)by omega]at hsg;generalize L.getD i rc0=r at*;generalize stA s (n:Int) L i=q at*;cases hk:(r.k==2)with
              |false=>
               have hk':(r.k != 2)=true:=by simp [bne,hk]
               rw [bq,hk,Bool.false_and,if_neg (by decide)]at hsg;repeat simp -implicitDefEqProofs only [go_sem,seval,hF',i0,hgr,hk',hwi,hwn,Int.toNat_natCast,List.length_map]
               refine⟨⟨i+1, ‹_›⟩,by simp only;omega,?_⟩;simp only [hsg,lfB,fdB,List.map_append,List.length_append];refine Qaj (θ:=[(0,0),(1,1),(7,7)]) rfl ?_ ?_
               ·simp [Qac,lkp,ren1,ren0,Qah]
               ·exact⟨⟨rfl,rfl,rfl,rfl,rfl,.inr ⟨rfl,_,_,rfl,rfl,rfl,rfl⟩⟩,⟨rfl,rfl,rfl,rfl,rfl,.inr ⟨rfl,_,_,rfl,rfl,rfl,rfl⟩⟩,⟨rfl,rfl,rfl,rfl,rfl,.inl ⟨rfl,rfl⟩⟩,trivial⟩
              |true=>
              have hk':(r.k != 2)=false:=by simp [bne,hk]
              cases ha:(r.a==((n+1:Nat):Int))with
              |false=>
               have ha':(r.a != ((n+1:Nat):Int))=true:=by rw [bne,ha];rfl
               rw [bq,hk,bq,ha,Bool.false_and,Bool.and_false,if_neg (by decide)]at hsg;repeat simp -implicitDefEqProofs only [go_sem,seval,hF',i0,hgr,hk',ha',hwi,hwn,Int.toNat_natCast,List.length_map]
               refine⟨⟨i+1, ‹_›⟩,by simp only;omega,?_⟩;simp only [hsg,lfB,fdB,List.map_append,List.length_append];refine Qaj (θ:=[(0,0),(1,1),(7,7)]) rfl ?_ ?_
               ·simp [Qac,lkp,ren1,ren0,Qah]
               ·exact⟨⟨rfl,rfl,rfl,rfl,rfl,.inr ⟨rfl,_,_,rfl,rfl,rfl,rfl⟩⟩,⟨rfl,rfl,rfl,rfl,rfl,.inr ⟨rfl,_,_,rfl,rfl,rfl,rfl⟩⟩,⟨rfl,rfl,rfl,rfl,rfl,.inl ⟨rfl,rfl⟩⟩,trivial⟩
              |true=>
              have ha':(r.a != ((n+1:Nat):Int))=false:=by rw [bne,ha];rfl
              cases hb:(r.s==q.bef)with
              |true=>
               rw [bq,hk,bq,ha,bq,hb,Bool.not_true,Bool.and_false,Bool.and_false,if_neg (by decide)]at hsg;repeat simp -implicitDefEqProofs only [go_sem,seval,hF',i0,hgr,hk',ha',hb,hwi,hwn,Int.toNat_natCast,List.length_map]
               refine⟨⟨i+1, ‹_›⟩,by simp only;omega,?_⟩;simp only [hsg,lfB,fdB,List.map_append,List.length_append];refine Qaj (θ:=[(0,0),(1,1),(7,7)]) rfl ?_ ?_
               ·simp [Qac,lkp,ren1,ren0,Qah]
               ·exact⟨⟨rfl,rfl,rfl,rfl,rfl,.inr ⟨rfl,_,_,rfl,rfl,rfl,rfl⟩⟩,⟨rfl,rfl,rfl,rfl,rfl,.inr ⟨rfl,_,_,rfl,rfl,rfl,rfl⟩⟩,⟨rfl,rfl,rfl,rfl,rfl,.inl ⟨rfl,rfl⟩⟩,trivial⟩
              |false=>
              rw [bq,hk,bq,ha,bq,hb,Bool.not_false,Bool.and_true,Bool.and_true,if_pos rfl]at hsg;have hfo:=Qy5 q.bef r.s;have htw:IntKind.i64.wrap (r.t-s)=r.t-s:=Qag (by omega) (by omega);have hAl:(G3++q.out).length≤30000:=by rw [List.length_append];omega
              have hAlt:((G3++q.out).map fdV).length=(G3++q.out).length:=List.length_map ..;have hAok:=Ql5 (G3++q.out);have j1:(((G3++q.out).length+1)*32≤140737488355328)=True:=eq_true (by omega);have j2:((G3++q.out).length+1≤maxLen)=True:=eq_true (by unfold maxLen;omega);cases hff:Qdy q.bef r.s with
              |true=>
               rw [hff]at hfo hsg;simp only [ite_true]at hsg;repeat (first|simp -implicitDefEqProofs only [go_sem,seval,hF',i0,hgr,hk',ha',hb,hwi,hwn,Bool.not_true,Int.toNat_natCast,List.length_map]|(with_reducible refine Qaa hfo ?_ ?_ ?_);rfl;rfl)
               refine⟨⟨i+1, ‹_›⟩,by simp only;omega,?_⟩;simp only [hsg,lfB,fdB,List.map_append,List.length_append];refine Qaj (θ:=[(0,0),(1,1),(7,7)]) rfl ?_ ?_
               ·simp [Qac,lkp,ren1,ren0,Qah]
               ·exact⟨⟨rfl,rfl,rfl,rfl,rfl,.inr ⟨rfl,_,_,rfl,rfl,rfl,rfl⟩⟩,⟨rfl,rfl,rfl,rfl,rfl,.inr ⟨rfl,_,_,rfl,rfl,rfl,rfl⟩⟩,⟨rfl,rfl,rfl,rfl,rfl,.inl ⟨rfl,rfl⟩⟩,trivial⟩
              |false=>
               rw [hff]at hfo hsg;simp only [Bool.false_eq_true,ite_false]at hsg;repeat (first|simp -implicitDefEqProofs only [go_sem,seval,hF',i0,hgr,hk',ha',hb,hwi,hwn,htw,hAlt,hAok,j1,j2,Bool.not_false,Int.toNat_natCast,List.length_map]|(with_reducible refine Qaa hfo ?_ ?_ ?_);rfl;rfl)
               refine⟨⟨i+1, ‹_›⟩,by simp only;omega,?_⟩;simp only [hsg,←List.append_assoc];simp only [hsg,lfB,fdB,List.map_append,List.length_append];refine Qaj (θ:=[(0,0),(1,1),(7,4012)]) rfl ?_ ?_
               ·simp [Qac,lkp,ren1,ren0,Qah]
               ·exact⟨⟨rfl,rfl,rfl,rfl,rfl,.inr ⟨rfl,_,_,rfl,rfl,rfl,rfl⟩⟩,⟨rfl,rfl,rfl,rfl,rfl,.inr ⟨rfl,_,_,rfl,rfl,rfl,rfl⟩⟩,⟨rfl,rfl,rfl,rfl,rfl,.inl ⟨rfl,rfl⟩⟩,trivial⟩
             ·have hF':=ltE' hF;obtain rfl:i=L.length:=by omega
              repeat simp -implicitDefEqProofs only [go_sem,seval,hF',hwn,List.length_map]
              refine⟨⟨n+1,hC⟩,by simp only;omega,?_⟩;simp only [hst,lfB,fdB,List.map_append,List.length_append];refine Qaj (θ:=[(0,0),(1,1),(7,7)]) rfl ?_ ?_
              ·simp [Qac,lkp,ren1,ren0,Qah]
              ·exact⟨⟨rfl,rfl,rfl,rfl,rfl,.inr ⟨rfl,_,_,rfl,rfl,rfl,rfl⟩⟩,⟨rfl,rfl,rfl,rfl,rfl,.inr ⟨rfl,_,_,rfl,rfl,rfl,rfl⟩⟩,⟨rfl,rfl,rfl,rfl,rfl,.inl ⟨rfl,rfl⟩⟩,trivial⟩
    ·have hC':=ltE' hC;obtain rfl:n=p.ns.length:=by omega
     have hlt:((U++ofTo gap tol s len D L p.ns.length).map fdV).length=(U++ofTo gap tol s len D L p.ns.length).length:=List.length_map ..;have htk:((U++ofTo gap tol s len D L p.ns.length).map fdV).take (U++ofTo gap tol s len D L p.ns.length).length=(U++ofTo gap tol s len D L p.ns.length).map fdV:=List.take_of_length_le (by omega);generalize U++ofTo gap tol s len D L p.ns.length=F at*;repeat simp -implicitDefEqProofs only [go_sem,seval,hC',hlt,htk,List.length_map]
theorem Q4l (p:Pg) (hf:FewP p) (s tol gap:Int) (L:List Rc) (hl:L.length≤1000):(Qh7 p s tol gap L).length≤100000:=by
 have h1:=Qk5 p.ns.length s L L.length;have h2:=Qe8 p.ns.length s (sqR p s) L L.length;have h3:=Qhw gap tol s (begT p p.as_.length) (devs p.ns.length s (sqR p s) L L.length) L p.ns.length;have h4:=hf.1;unfold Qh7 finds;generalize devs p.ns.length s (sqR p s) L L.length=D at*;rw [List.length_append];have h5:p.ns.length*(2*D.length+L.length+1)≤5*(2*D.length+L.length+1):=Nat.mul_le_mul_right _ (by omega);generalize p.ns.length*(2*D.length+L.length+1)=X at*;omega
set_option maxHeartbeats 8000000 in
set_option maxRecDepth 100000 in
theorem Qy6 (p:Pg) (l:List Ax) (hm:l.length≤maxLen) (s tol gap:Int):Qaf Tryz.prog 6 [pgV p,.slc (l.map axV),.int .i64 s,.agg [.int .i64 tol,.int .i64 gap]] (.bool true):=by
 have hk:=Zdh;have hF:=Zvy p;have bl7:Nat.blt 7 1000000=true:=rfl;have bl8:Nat.blt 8 1000000=true:=rfl;have bl10:Nat.blt 10 1000000=true:=rfl;cases hq:decide (FewQ p)with
 |false=>
  rw [hq]at hF;unfold pgV at hF ⊢;refine Qab (tb:=[]) 115 [.tmp 8] [0,1,2,3,4,7,8,9,10,11,12,13,14,15,16,24,29,51,57,65,67] mixed Tryz.func6 rfl (by kernel_rfl) ?_;repeat (first|simp -implicitDefEqProofs only [go_sem,seval,Bool.not_false]|(with_reducible refine Qaa hF ?_ ?_ ?_);rfl;rfl|(with_reducible refine Qaa hk ?_ ?_ ?_);rfl;rfl)
 |true=>
 rw [hq]at hF;by_cases h20:l.length≤20
 case neg=>
  have h20':=eq_true (show(20:Int)<(l.length:Int)by omega);unfold pgV at hF ⊢;refine Qab (tb:=[]) 115 [.tmp 8] [0,1,2,3,4,7,8,9,10,11,12,13,14,15,16,24,29,51,57,65,67] mixed Tryz.func6 rfl (by kernel_rfl) ?_;repeat (first|simp -implicitDefEqProofs only [go_sem,seval,Bool.not_true,h20',decide_true,List.length_map]|(with_reducible refine Qaa hF ?_ ?_ ?_);rfl;rfl|(with_reducible refine Qaa hk ?_ ?_ ?_);rfl;rfl)
 have h20':=eq_false (show¬(20:Int)<(l.length:Int)by omega);have hf:=Z0l hq;have hr:=Zo2 tol gap;have hw:=Zo3 p hf s;have hlg:=Zwt l (by omega);have hL:=Q4a l l.length;have hll:=Qpy l l.length;generalize logS l l.length=L at*;have hlt:(L.map rcV).length=L.length:=List.length_map ..;have htk:(L.map rcV).take L.length=L.map rcV:=List.take_of_length_le (by omega);have hcp:=Zo8 L (by omega);have hSm:=Zpa L (by omega);have hFi:=Qgv p hf s tol gap L (by omega) hL;have hCl:=Zo1 p hf s tol gap L (by omega) hL;unfold lgR at hcp hSm hFi hCl;unfold Q39 at hw;unfold fndL fndE at hFi hCl;cases hg:(Qbf p&&wiB s 0 3600000)with
 |false=>
  rw [hg]at hw hFi hCl;simp only [Bool.false_eq_true,ite_false,show¬(2:Int)=0 by decide,List.map_nil,show((2:Int)==0)=false from rfl,Bool.false_and]at hw hFi hCl;cases hrv:(wiB tol 0 1000000&&wiB gap 1 3600000)with
  |false=>
   rw [hrv]at hr;unfold pgV at*;unfold lgB rcB at hlg;generalize L.map rcV=T at*;generalize L.length=n at*

   refine Qab (tb:=[(301,[],[(7,7),(8,8)]),(1802,[],[(7,10)])]) 115 [.tmp 8] [0,1,2,3,4,7,8,9,10,11,12,13,14,15,16,24,29,51,57,65,67] mixed Tryz.func6 rfl (by kernel_rfl) ?_;repeat (first|simp -implicitDefEqProofs only [go_sem,seval,Bool.not_true,Bool.not_false,h20',decide_true,bl7,bl8,htk,hlt,Nat.le_refl,decide_false,beq_self_eq_true,Bool.and_self,Bool.false_and,Bool.true_and,List.length_map,List.length_nil]|(with_reducible refine Qaa hF ?_ ?_ ?_);rfl;rfl|(with_reducible refine Qap hlg ?_ ?_ ?_ ?_);rfl;rfl;rfl|(with_reducible refine Qaa hcp ?_ ?_ ?_);rfl;rfl|(with_reducible refine Qaa hFi ?_ ?_ ?_);rfl;rfl|(with_reducible refine Qaa hCl ?_ ?_ ?_);rfl;rfl|(with_reducible refine Qaa hSm ?_ ?_ ?_);rfl;rfl|(with_reducible refine Qaa hw ?_ ?_ ?_);rfl;rfl|(with_reducible refine Qaa hr ?_ ?_ ?_);rfl;rfl|(with_reducible refine Qaa hk ?_ ?_ ?_);rfl;rfl)
  |true=>
   rw [hrv]at hr;unfold pgV at*;unfold lgB rcB at hlg;generalize L.map rcV=T at*;generalize L.length=n at*

   refine Qab (tb:=[(301,[],[(7,7),(8,8)]),(1802,[],[(7,10)])]) 115 [.tmp 8] [0,1,2,3,4,7,8,9,10,11,12,13,14,15,16,24,29,51,57,65,67] mixed Tryz.func6 rfl (by kernel_rfl) ?_;repeat (first|simp -implicitDefEqProofs only [go_sem,seval,Bool.not_true,Bool.not_false,h20',decide_true,bl7,bl8,htk,hlt,Nat.le_refl,decide_false,beq_self_eq_true,Bool.and_self,Bool.false_and,Bool.true_and,List.length_map,List.length_nil]|(with_reducible refine Qaa hF ?_ ?_ ?_);rfl;rfl|(with_reducible refine Qap hlg ?_ ?_ ?_ ?_);rfl;rfl;rfl|(with_reducible refine Qaa hcp ?_ ?_ ?_);rfl;rfl|(with_reducible refine Qaa hFi ?_ ?_ ?_);rfl;rfl|(with_reducible refine Qaa hCl ?_ ?_ ?_);rfl;rfl|(with_reducible refine Qaa hSm ?_ ?_ ?_);rfl;rfl|(with_reducible refine Qaa hw ?_ ?_ ?_);rfl;rfl|(with_reducible refine Qaa hr ?_ ?_ ?_);rfl;rfl|(with_reducible refine Qaa hk ?_ ?_ ?_);rfl;rfl)
 |true=>
 rw [hg]at hw hFi hCl;simp only [ite_true]at hw hFi hCl;obtain⟨v,hs⟩:=Qui hg;cases hrv:(wiB tol 0 1000000&&wiB gap 1 3600000)with
 |false=>
  rw [hrv]at hr hFi hCl;simp only [Bool.false_eq_true,ite_false,show¬(2:Int)=0 by decide,List.map_nil,show((2:Int)==0)=false from rfl,Bool.false_and]at hFi hCl;unfold pgV at*;unfold lgB rcB at hlg;generalize L.map rcV=T at*;generalize L.length=n at*

  refine Qab (tb:=[(301,[],[(7,7),(8,8)]),(1802,[],[(7,10)])]) 115 [.tmp 8] [0,1,2,3,4,7,8,9,10,11,12,13,14,15,16,24,29,51,57,65,67] mixed Tryz.func6 rfl (by kernel_rfl) ?_;repeat (first|simp -implicitDefEqProofs only [go_sem,seval,Bool.not_true,Bool.not_false,h20',decide_true,bl7,bl8,htk,hlt,Nat.le_refl,decide_false,beq_self_eq_true,Bool.and_self,Bool.false_and,Bool.true_and,List.length_map,List.length_nil]|(with_reducible refine Qaa hF ?_ ?_ ?_);rfl;rfl|(with_reducible refine Qap hlg ?_ ?_ ?_ ?_);rfl;rfl;rfl|(with_reducible refine Qaa hcp ?_ ?_ ?_);rfl;rfl|(with_reducible refine Qaa hFi ?_ ?_ ?_);rfl;rfl|(with_reducible refine Qaa hCl ?_ ?_ ?_);rfl;rfl|(with_reducible refine Qaa hSm ?_ ?_ ?_);rfl;rfl|(with_reducible refine Qaa hw ?_ ?_ ?_);rfl;rfl|(with_reducible refine Qaa hr ?_ ?_ ?_);rfl;rfl|(with_reducible refine Qaa hk ?_ ?_ ?_);rfl;rfl)
 |true=>
 rw [hrv]at hr hFi hCl;simp only [ite_true]at hFi hCl;by_cases h0:p.as_.length=0
 ·have h0':((p.as_.length:Int)==0)=true:=by rw [h0];rfl
  rw [if_pos h0]at hFi hCl;simp only [ite_false,show¬(9:Int)=0 by decide,List.map_nil,show((9:Int)==0)=false from rfl,Bool.false_and]at hFi hCl;unfold pgV at*;unfold lgB rcB at hlg;generalize L.map rcV=T at*;generalize L.length=n at*

  refine Qab (tb:=[(301,[],[(7,7),(8,8)]),(1802,[],[(7,10)])]) 115 [.tmp 8] [0,1,2,3,4,7,8,9,10,11,12,13,14,15,16,24,29,51,57,65,67] mixed Tryz.func6 rfl (by kernel_rfl) ?_;repeat (first|simp -implicitDefEqProofs only [go_sem,seval,Bool.not_true,Bool.not_false,h20',h0',bl7,bl8,htk,hlt,Nat.le_refl,decide_true,decide_false,beq_self_eq_true,Bool.and_self,Bool.false_and,Bool.true_and,List.length_map,List.length_nil]|(with_reducible refine Qaa hF ?_ ?_ ?_);rfl;rfl|(with_reducible refine Qap hlg ?_ ?_ ?_ ?_);rfl;rfl;rfl|(with_reducible refine Qaa hcp ?_ ?_ ?_);rfl;rfl|(with_reducible refine Qaa hFi ?_ ?_ ?_);rfl;rfl|(with_reducible refine Qaa hCl ?_ ?_ ?_);rfl;rfl|(with_reducible refine Qaa hSm ?_ ?_ ?_);rfl;rfl|(with_reducible refine Qaa hw ?_ ?_ ?_);rfl;rfl|(with_reducible refine Qaa hr ?_ ?_ ?_);rfl;rfl|(with_reducible refine Qaa hk ?_ ?_ ?_);rfl;rfl)
 have h0':((p.as_.length:Int)==0)=false:=beq_eq_false_iff_ne.2 (by omega);rw [if_neg h0]at hFi hCl;simp only [ite_true,show((0:Int)==0)=true from rfl,Bool.true_and]at hFi hCl;rw [Bool.and_eq_true]at hrv;have hR:=Q4q L (by omega);have hX:=Zdq p hf v h0 s hs tol gap (Qc6.1 hrv.1) (Qc6.1 hrv.2) L (by omega) hL;have hXl:(Qh7 p s tol gap L).length≤100000:=Q4l p hf s tol gap L (by omega);generalize Qh7 p s tol gap L=X at*;have hsm:=Quj X hXl;have hb:(((X.map fdV).length:Int)==0)=(X.length==0):=by rw [List.length_map];cases h:(X.length==0)<;>simp_all
 rw [List.length_map]at hb;generalize (X.length==0)=xb at*;unfold lgR at hR;unfold rcB at hR;unfold pgV at*;unfold lgB rcB at hlg;generalize L.map rcV=T at*;generalize L.length=n at*;cases hfl:(List.flatMap PV.cells T).all flatc with
 |false=>
  skip

  refine Qab (tb:=[(301,[],[(7,7),(8,8)]),(1802,[],[(7,10)])]) 115 [.tmp 8] [0,1,2,3,4,7,8,9,10,11,12,13,14,15,16,24,29,51,57,65,67] mixed Tryz.func6 rfl (by kernel_rfl) ?_;repeat (first|simp -implicitDefEqProofs only [go_sem,seval,Bool.not_true,Bool.not_false,h20',h0',hfl,hb,bl7,bl8,bl10,htk,hlt,Nat.le_refl,decide_true,decide_false,bne_self_eq_false,beq_self_eq_true,Bool.and_self,Bool.false_and,Bool.true_and,List.length_map,List.length_nil]|(with_reducible refine Qaa hF ?_ ?_ ?_);rfl;rfl|(with_reducible refine Qap hlg ?_ ?_ ?_ ?_);rfl;rfl;rfl|(with_reducible refine Qaa hcp ?_ ?_ ?_);rfl;rfl|(with_reducible refine Qaa hFi ?_ ?_ ?_);rfl;rfl|(with_reducible refine Qaa hCl ?_ ?_ ?_);rfl;rfl|(with_reducible refine Qaa hSm ?_ ?_ ?_);rfl;rfl|(with_reducible refine Qaa hw ?_ ?_ ?_);rfl;rfl|(with_reducible refine Qaa hr ?_ ?_ ?_);rfl;rfl|(with_reducible refine Qap hR ?_ ?_ ?_ ?_);rfl;rfl;rfl|(with_reducible refine Qaa hX ?_ ?_ ?_);rfl;rfl|(with_reducible refine Qaa hsm ?_ ?_ ?_);rfl;rfl|(with_reducible refine Qaa hk ?_ ?_ ?_);rfl;rfl|(with_reducible refine And.intro (Qad _ _ (by kernel_rfl)) ?_))
  skip
 |true=>
  skip

  refine Qab (tb:=[(301,[],[(7,7),(8,8)]),(1802,[],[(7,10)])]) 115 [.tmp 8] [0,1,2,3,4,7,8,9,10,11,12,13,14,15,16,24,29,51,57,65,67] mixed Tryz.func6 rfl (by kernel_rfl) ?_;repeat (first|simp -implicitDefEqProofs only [go_sem,seval,Bool.not_true,Bool.not_false,h20',h0',hfl,hb,bl7,bl8,bl10,htk,hlt,Nat.le_refl,decide_true,decide_false,bne_self_eq_false,beq_self_eq_true,Bool.and_self,Bool.false_and,Bool.true_and,List.length_map,List.length_nil]|(with_reducible refine Qaa hF ?_ ?_ ?_);rfl;rfl|(with_reducible refine Qap hlg ?_ ?_ ?_ ?_);rfl;rfl;rfl|(with_reducible refine Qaa hcp ?_ ?_ ?_);rfl;rfl|(with_reducible refine Qaa hFi ?_ ?_ ?_);rfl;rfl|(with_reducible refine Qaa hCl ?_ ?_ ?_);rfl;rfl|(with_reducible refine Qaa hSm ?_ ?_ ?_);rfl;rfl|(with_reducible refine Qaa hw ?_ ?_ ?_);rfl;rfl|(with_reducible refine Qaa hr ?_ ?_ ?_);rfl;rfl|(with_reducible refine Qap hR ?_ ?_ ?_ ?_);rfl;rfl;rfl|(with_reducible refine Qaa hX ?_ ?_ ?_);rfl;rfl|(with_reducible refine Qaa hsm ?_ ?_ ?_);rfl;rfl|(with_reducible refine Qaa hk ?_ ?_ ?_);rfl;rfl|(with_reducible refine And.intro (Qad _ _ (by kernel_rfl)) ?_))
  skip
end Go.Proofs.YtnohfmdlaajpbaaGreat
