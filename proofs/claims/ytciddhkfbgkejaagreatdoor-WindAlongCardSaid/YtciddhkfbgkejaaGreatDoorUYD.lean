/-
  HI8, HI9, By, HI6, UYD (merged for the claim).
-/
import Derived.Test.YtciddhkfbgkejaaGreatDoorHM3
import Derived.Test.YtciddhkfbgkejaaGreatDoorUX2
import Derived.Test.YtciddhkfbgkejaaGreatDoorUXS
import Derived.Test.YtciddhkfbgkejaaGreatDoorDsr
set_option linter.unusedSimpArgs false
set_option linter.unusedVariables false
namespace Go.Proofs.YtciddhkfbgkejaaGreatDoor
open Go.Vl Go.RowKit Go.Dg
theorem Qld (xs:List Int):((ddB xs).map (PV.int .i64)).take (dd xs).length=(dd xs).map (PV.int .i64):=by
 unfold ddB
 rw [List.map_append,List.take_append_of_le_length (by simp)]
 exact List.take_of_length_le (by simp)
theorem Qle (xs:List Int):(dd xs).length≤((ddB xs).map (PV.int .i64)).length:=by
 unfold ddB;simp
def aB (a:Nat) (l:List Wd):Box:=iB1 (allE a l)
attribute [go_sem] aB
theorem Qrv (xs:List Int):((xs.map (PV.int .i64)).flatMap PV.cells).all PV.okCell=true:=Qen xs
theorem Qws (a:Nat) {l:List Wd} {i:Nat} (h:i≤l.length):(allE a (l.take i)).length=2*i:=by rw [Qe1];simp;omega
theorem Qpn (a:Nat) {l:List Wd} {i:Nat} (h:i<l.length):allE a (l.take (i+1))=allE a (l.take i)++Qc5 a l[i]:=by rw [Qa1 l i h,Qrm]
set_option maxHeartbeats 16000000 in
set_option maxRecDepth 100000 in
theorem Zhn (l:List Wd) (hv:Qau l=true) (h6:l.length≤6):
  Qag Tryz.prog 58 [wsPV l] (.fn 99 [] [.rp [.slc ((numE 0 l).map (PV.int .i64)),.slc ((numE 1 l).map (PV.int .i64)),.slc ((numE 2 l).map (PV.int .i64)),.slc ((numE 3 l).map (PV.int .i64))]]):=by
 have hvw:=(Qba hv).1

 refine Qac (tb:=[(1603,[(1000000,7)],[]),(1704,[(1000000,7)],[])]) 65 [.tmp 2] [0,2,3,5,6,7,8,9,10,11,12,13,22,23,50,51] mixed Tryz.func58 rfl (by kernel_rfl) (by kernel_rfl) (by kernel_rfl) (by kernel_rfl) ?_
 repeat (first|(simp -implicitDefEqProofs only [go_sem,Nat.reduceAdd,Nat.reduceMul,Nat.reduceEqDiff,Nat.reduceLT,Nat.reduceLeDiff,reduceCtorEq,List.length_map])|(with_reducible exact Qaa _ _ (by kernel_rfl))|(with_reducible refine And.intro (Qaa _ _ (by kernel_rfl)) ?_))
 refine Qar mixed (fun i:{i:Nat // i≤l.length}=>St.of [(3,.bp 100 4 0 0),(10,wsPV l),(11,.int .i64 (l.length:Int)),(12,.int .i64 (i.1:Int))]
  [(100,{els:=[.agg [.bs 10 1 0 (2*i.1),.bs 11 1 0 (2*i.1),.bs 12 1 0 (2*i.1),.bs 13 1 0 (2*i.1)]],esz:=4,ety:=145,fro:=0,live:=true,arr:=false}),(10,aB 0 (l.take i.1)),(11,aB 1 (l.take i.1)),(12,aB 2 (l.take i.1)),(13,aB 3 (l.take i.1))]) (fun i=>l.length-i.1) ⟨0,Nat.zero_le _⟩ ?_ ?_
 ·refine Le.trans (Qln 100 0 10 1 3 rfl rfl rfl rfl rfl rfl (by decide)) (Le.trans (Qln 100 1 11 1 3 rfl rfl rfl rfl rfl rfl (by decide)) (Le.trans (Qln 100 2 12 1 3 rfl rfl rfl rfl rfl rfl (by decide)) (Le.trans (Qln 100 3 13 1 3 rfl rfl rfl rfl rfl rfl (by decide)) (Qaj (θ:=[(100,100),(10,10),(11,11),(12,12),(13,13)]) rfl ?_ ?_))))
  ·simp [Qad,lkp,ren1,ren0,Qal,wsPV]
  ·exact⟨⟨rfl,rfl,rfl,rfl,rfl,.inr ⟨rfl,_,_,rfl,rfl,rfl,rfl⟩⟩,⟨rfl,rfl,rfl,rfl,rfl,.inl ⟨rfl,rfl⟩⟩,⟨rfl,rfl,rfl,rfl,rfl,.inl ⟨rfl,rfl⟩⟩,⟨rfl,rfl,rfl,rfl,rfl,.inl ⟨rfl,rfl⟩⟩,⟨rfl,rfl,rfl,rfl,rfl,.inl ⟨rfl,rfl⟩⟩,trivial⟩
 ·rintro⟨i,hi⟩
  simp only
  by_cases hA:i<l.length
  case pos=>
   have hA':=ltT hA
   have n0:=nnT i
   have hg:=Qie l i hA
   have hwk:=Qai (a:=i) (by omega)
   have hw:=Qgj (hvw _ (List.getElem_mem hA))
   have s0:=Qpn 0 hA
   have s1:=Qpn 1 hA
   have s2:=Qpn 2 hA
   have s3:=Qpn 3 hA
   have m0:=Qws 0 (l:=l) (i:=i) hi
   have m1:=Qws 1 (l:=l) (i:=i) hi
   have m2:=Qws 2 (l:=l) (i:=i) hi
   have m3:=Qws 3 (l:=l) (i:=i) hi
   unfold aB
   generalize hN0:allE 0 (l.take (i+1))=N0 at*
   generalize hN1:allE 1 (l.take (i+1))=N1 at*
   generalize hN2:allE 2 (l.take (i+1))=N2 at*
   generalize hN3:allE 3 (l.take (i+1))=N3 at*
   generalize allE 0 (l.take i)=L0 at*
   generalize allE 1 (l.take i)=L1 at*
   generalize allE 2 (l.take i)=L2 at*
   generalize allE 3 (l.take i)=L3 at*
   generalize l[i]=w at*
   have o0:=Qrv L0
   have o1:=Qrv L1
   have o2:=Qrv L2
   have o3:=Qrv L3
   have x0:IntKind.i64.wrap (w.hx+1)=w.hx+1:=Qah (by omega) (by omega)
   have x1:IntKind.i64.wrap (w.hy+1)=w.hy+1:=Qah (by omega) (by omega)
   have x2:IntKind.i64.wrap (w.hz+1)=w.hz+1:=Qah (by omega) (by omega)
   have k1:((2*i+2)*8≤140737488355328)=True:=eq_true (by omega)
   have k2:(2*i+2≤maxLen)=True:=eq_true (by unfold maxLen;omega)
   have eM:2*i+2=2*(i+1):=by omega
   have h0:=Qgk w.lx w.ly w.lz
   have h1:=Qgk w.hx w.hy w.hz
   repeat (first|(simp -implicitDefEqProofs only [go_sem,Nat.reduceAdd,Nat.reduceMul,Nat.reduceEqDiff,Nat.reduceLT,Nat.reduceLeDiff,reduceCtorEq,hA',n0,hg,Int.toNat_natCast,List.length_map])|((with_reducible refine Qab (h0) ?_ ?_ ?_);(with_reducible rfl);rfl)|((with_reducible refine Qab (h1) ?_ ?_ ?_);(with_reducible rfl);rfl)|(with_reducible exact Qaa _ _ (by kernel_rfl))|(with_reducible refine And.intro (Qaa _ _ (by kernel_rfl)) ?_))
   refine Q8j mixed [0,1,2,3] (St.of [(3,.bp 100 4 0 0),(5,.bp 402 11 0 0),(6,.bp 506 3 0 0),(7,.bp 507 3 0 0),(10,wsPV l),(11,.int .i64 (l.length:Int)),(12,.int .i64 (i:Int)),(22,.int .i64 0)] [(100,{els:=[.agg [.bs 10 1 0 (2*i),.bs 11 1 0 (2*i),.bs 12 1 0 (2*i),.bs 13 1 0 (2*i)]],esz:=4,ety:=145,fro:=0,live:=true,arr:=false}),(10,iB1 (L0)),(11,iB1 (L1)),(12,iB1 (L2)),(13,iB1 (L3)),(402,{els:=[wdPV w],esz:=11,ety:=34,fro:=0,live:=true,arr:=false}),(506,{els:=[.agg [.int .i64 w.lx,.int .i64 w.ly,.int .i64 w.lz]],esz:=3,ety:=87,fro:=0,live:=true,arr:=false}),(507,{els:=[.agg [.int .i64 w.hx,.int .i64 w.hy,.int .i64 w.hz]],esz:=3,ety:=87,fro:=0,live:=true,arr:=false})]) (Qaj (θ:=[(100,100),(10,10),(11,11),(12,12),(13,13),(402,402),(506,506),(507,507)]) rfl ?_ ?_) ?_
   ·simp [Qad,lkp,ren1,ren0,Qal,wsPV]
   ·exact⟨⟨rfl,rfl,rfl,rfl,rfl,.inr ⟨rfl,_,_,rfl,rfl,rfl,rfl⟩⟩,⟨rfl,rfl,rfl,rfl,rfl,.inl ⟨rfl,rfl⟩⟩,⟨rfl,rfl,rfl,rfl,rfl,.inl ⟨rfl,rfl⟩⟩,⟨rfl,rfl,rfl,rfl,rfl,.inl ⟨rfl,rfl⟩⟩,⟨rfl,rfl,rfl,rfl,rfl,.inl ⟨rfl,rfl⟩⟩,⟨rfl,rfl,rfl,rfl,rfl,.inr ⟨rfl,_,_,rfl,rfl,rfl,rfl⟩⟩,⟨rfl,rfl,rfl,rfl,rfl,.inr ⟨rfl,_,_,rfl,rfl,rfl,rfl⟩⟩,⟨rfl,rfl,rfl,rfl,rfl,.inr ⟨rfl,_,_,rfl,rfl,rfl,rfl⟩⟩,trivial⟩
   repeat (first|(simp -implicitDefEqProofs only [go_sem,Nat.reduceAdd,Nat.reduceMul,Nat.reduceEqDiff,Nat.reduceLT,Nat.reduceLeDiff,reduceIte,reduceCtorEq,Nat.reduceBneDiff,Int.reduceLT,Int.reduceAdd,nc_2,nc_3,nc_4,wr_1,wr_2,wr_3,x0,x1,x2,k1,k2,o0,o1,o2,o3,m0,m1,m2,m3,List.length_map,Int.toNat_natCast])|(with_reducible exact Qaa _ _ (by kernel_rfl))|(with_reducible refine And.intro (Qaa _ _ (by kernel_rfl)) ?_))
   refine⟨St.of [(3,.bp 100 4 0 0),(5,.bp 402 11 0 0),(6,.bp 506 3 0 0),(7,.bp 507 3 0 0),(10,wsPV l),(11,.int .i64 (l.length:Int)),(12,.int .i64 (i:Int)),(22,.int .i64 1)] [(100,{els:=[.agg [.bs 20 1 0 (2*i+2),.bs 11 1 0 (2*i),.bs 12 1 0 (2*i),.bs 13 1 0 (2*i)]],esz:=4,ety:=145,fro:=0,live:=true,arr:=false}),(20,iB1 (L0++Qc5 0 w)),(11,iB1 (L1)),(12,iB1 (L2)),(13,iB1 (L3)),(402,{els:=[wdPV w],esz:=11,ety:=34,fro:=0,live:=true,arr:=false}),(506,{els:=[.agg [.int .i64 w.lx,.int .i64 w.ly,.int .i64 w.lz]],esz:=3,ety:=87,fro:=0,live:=true,arr:=false}),(507,{els:=[.agg [.int .i64 w.hx,.int .i64 w.hy,.int .i64 w.hz]],esz:=3,ety:=87,fro:=0,live:=true,arr:=false})],Qaj (θ:=[(100,100),(20,912),(11,11),(12,12),(13,13),(402,402),(506,506),(507,507)]) rfl ?_ ?_,?_⟩
   ·simp [Qad,lkp,ren1,ren0,Qal,wsPV]
   ·refine⟨⟨rfl,rfl,rfl,rfl,rfl,.inr ⟨rfl,_,_,rfl,rfl,rfl,rfl⟩⟩,⟨rfl,rfl,rfl,rfl,rfl,.inl ⟨rfl,?_⟩⟩,⟨rfl,rfl,rfl,rfl,rfl,.inl ⟨rfl,rfl⟩⟩,⟨rfl,rfl,rfl,rfl,rfl,.inl ⟨rfl,rfl⟩⟩,⟨rfl,rfl,rfl,rfl,rfl,.inl ⟨rfl,rfl⟩⟩,⟨rfl,rfl,rfl,rfl,rfl,.inr ⟨rfl,_,_,rfl,rfl,rfl,rfl⟩⟩,⟨rfl,rfl,rfl,rfl,rfl,.inr ⟨rfl,_,_,rfl,rfl,rfl,rfl⟩⟩,⟨rfl,rfl,rfl,rfl,rfl,.inr ⟨rfl,_,_,rfl,rfl,rfl,rfl⟩⟩,trivial⟩
    simp [Qc5]
   repeat (first|(simp -implicitDefEqProofs only [go_sem,Nat.reduceAdd,Nat.reduceMul,Nat.reduceEqDiff,Nat.reduceLT,Nat.reduceLeDiff,reduceIte,reduceCtorEq,Nat.reduceBneDiff,Int.reduceLE,Int.reduceLT,Int.reduceToNat,Int.reduceAdd,nc_2,nc_3,nc_4,wr_1,wr_2,wr_3,x0,x1,x2,k1,k2,o0,o1,o2,o3,m0,m1,m2,m3,List.length_map,Int.toNat_natCast])|(with_reducible exact Qaa _ _ (by kernel_rfl))|(with_reducible refine And.intro (Qaa _ _ (by kernel_rfl)) ?_))
   refine⟨St.of [(3,.bp 100 4 0 0),(5,.bp 402 11 0 0),(6,.bp 506 3 0 0),(7,.bp 507 3 0 0),(10,wsPV l),(11,.int .i64 (l.length:Int)),(12,.int .i64 (i:Int)),(22,.int .i64 2)] [(100,{els:=[.agg [.bs 20 1 0 (2*i+2),.bs 21 1 0 (2*i+2),.bs 12 1 0 (2*i),.bs 13 1 0 (2*i)]],esz:=4,ety:=145,fro:=0,live:=true,arr:=false}),(20,iB1 (L0++Qc5 0 w)),(21,iB1 (L1++Qc5 1 w)),(12,iB1 (L2)),(13,iB1 (L3)),(402,{els:=[wdPV w],esz:=11,ety:=34,fro:=0,live:=true,arr:=false}),(506,{els:=[.agg [.int .i64 w.lx,.int .i64 w.ly,.int .i64 w.lz]],esz:=3,ety:=87,fro:=0,live:=true,arr:=false}),(507,{els:=[.agg [.int .i64 w.hx,.int .i64 w.hy,.int .i64 w.hz]],esz:=3,ety:=87,fro:=0,live:=true,arr:=false})],Qaj (θ:=[(100,100),(20,20),(21,912),(12,12),(13,13),(402,402),(506,506),(507,507)]) rfl ?_ ?_,?_⟩
   ·simp [Qad,lkp,ren1,ren0,Qal,wsPV]
   ·refine⟨⟨rfl,rfl,rfl,rfl,rfl,.inr ⟨rfl,_,_,rfl,rfl,rfl,rfl⟩⟩,⟨rfl,rfl,rfl,rfl,rfl,.inl ⟨rfl,rfl⟩⟩,⟨rfl,rfl,rfl,rfl,rfl,.inl ⟨rfl,?_⟩⟩,⟨rfl,rfl,rfl,rfl,rfl,.inl ⟨rfl,rfl⟩⟩,⟨rfl,rfl,rfl,rfl,rfl,.inl ⟨rfl,rfl⟩⟩,⟨rfl,rfl,rfl,rfl,rfl,.inr ⟨rfl,_,_,rfl,rfl,rfl,rfl⟩⟩,⟨rfl,rfl,rfl,rfl,rfl,.inr ⟨rfl,_,_,rfl,rfl,rfl,rfl⟩⟩,⟨rfl,rfl,rfl,rfl,rfl,.inr ⟨rfl,_,_,rfl,rfl,rfl,rfl⟩⟩,trivial⟩
    simp [Qc5]
   repeat (first|(simp -implicitDefEqProofs only [go_sem,Nat.reduceAdd,Nat.reduceMul,Nat.reduceEqDiff,Nat.reduceLT,Nat.reduceLeDiff,reduceIte,reduceCtorEq,Nat.reduceBneDiff,Int.reduceLE,Int.reduceLT,Int.reduceToNat,Int.reduceAdd,nc_2,nc_3,nc_4,wr_1,wr_2,wr_3,x0,x1,x2,k1,k2,o0,o1,o2,o3,m0,m1,m2,m3,List.length_map,Int.toNat_natCast])|(with_reducible exact Qaa _ _ (by kernel_rfl))|(with_reducible refine And.intro (Qaa _ _ (by kernel_rfl)) ?_))
   refine⟨St.of [(3,.bp 100 4 0 0),(5,.bp 402 11 0 0),(6,.bp 506 3 0 0),(7,.bp 507 3 0 0),(10,wsPV l),(11,.int .i64 (l.length:Int)),(12,.int .i64 (i:Int)),(22,.int .i64 3)] [(100,{els:=[.agg [.bs 20 1 0 (2*i+2),.bs 21 1 0 (2*i+2),.bs 22 1 0 (2*i+2),.bs 13 1 0 (2*i)]],esz:=4,ety:=145,fro:=0,live:=true,arr:=false}),(20,iB1 (L0++Qc5 0 w)),(21,iB1 (L1++Qc5 1 w)),(22,iB1 (L2++Qc5 2 w)),(13,iB1 (L3)),(402,{els:=[wdPV w],esz:=11,ety:=34,fro:=0,live:=true,arr:=false}),(506,{els:=[.agg [.int .i64 w.lx,.int .i64 w.ly,.int .i64 w.lz]],esz:=3,ety:=87,fro:=0,live:=true,arr:=false}),(507,{els:=[.agg [.int .i64 w.hx,.int .i64 w.hy,.int .i64 w.hz]],esz:=3,ety:=87,fro:=0,live:=true,arr:=false})],Qaj (θ:=[(100,100),(20,20),(21,21),(22,912),(13,13),(402,402),(506,506),(507,507)]) rfl ?_ ?_,?_⟩
   ·simp [Qad,lkp,ren1,ren0,Qal,wsPV]
   ·refine⟨⟨rfl,rfl,rfl,rfl,rfl,.inr ⟨rfl,_,_,rfl,rfl,rfl,rfl⟩⟩,⟨rfl,rfl,rfl,rfl,rfl,.inl ⟨rfl,rfl⟩⟩,⟨rfl,rfl,rfl,rfl,rfl,.inl ⟨rfl,rfl⟩⟩,⟨rfl,rfl,rfl,rfl,rfl,.inl ⟨rfl,?_⟩⟩,⟨rfl,rfl,rfl,rfl,rfl,.inl ⟨rfl,rfl⟩⟩,⟨rfl,rfl,rfl,rfl,rfl,.inr ⟨rfl,_,_,rfl,rfl,rfl,rfl⟩⟩,⟨rfl,rfl,rfl,rfl,rfl,.inr ⟨rfl,_,_,rfl,rfl,rfl,rfl⟩⟩,⟨rfl,rfl,rfl,rfl,rfl,.inr ⟨rfl,_,_,rfl,rfl,rfl,rfl⟩⟩,trivial⟩
    simp [Qc5]
   repeat (first|(simp -implicitDefEqProofs only [go_sem,Nat.reduceAdd,Nat.reduceMul,Nat.reduceEqDiff,Nat.reduceLT,Nat.reduceLeDiff,reduceIte,reduceCtorEq,Nat.reduceBneDiff,Int.reduceLE,Int.reduceLT,Int.reduceToNat,nc_2,nc_3,nc_4,wr_1,wr_2,wr_3,x0,x1,x2,k1,k2,o0,o1,o2,o3,m0,m1,m2,m3,List.length_map,Int.toNat_natCast,hwk])|(with_reducible exact Qaa _ _ (by kernel_rfl))|(with_reducible refine And.intro (Qaa _ _ (by kernel_rfl)) ?_))
   refine⟨⟨i+1,hA⟩,by simp only;omega,Qaj (θ:=[(100,100),(10,20),(11,21),(12,22),(13,1107)]) rfl ?_ ?_⟩
   ·simp [Qad,lkp,ren1,ren0,Qal,wsPV]
   ·simp only [hN0,hN1,hN2,hN3,s0,s1,s2,s3,eM.symm]
    refine⟨⟨rfl,rfl,rfl,rfl,rfl,.inr ⟨rfl,_,_,rfl,rfl,rfl,rfl⟩⟩,⟨rfl,rfl,rfl,rfl,rfl,.inl ⟨rfl,rfl⟩⟩,⟨rfl,rfl,rfl,rfl,rfl,.inl ⟨rfl,rfl⟩⟩,⟨rfl,rfl,rfl,rfl,rfl,.inl ⟨rfl,rfl⟩⟩,⟨rfl,rfl,rfl,rfl,rfl,.inl ⟨rfl,?_⟩⟩,trivial⟩
    simp [Qc5]
  case neg=>
   have hA':=ltF hA
   obtain rfl:i=l.length:=by omega
   have et:l.take l.length=l:=List.take_length
   rw [et]
   unfold aB
   have q0:=Qe1 0 l
   have q1:=Qe1 1 l
   have q2:=Qe1 2 l
   have q3:=Qe1 3 l
   have e0:numE 0 l=dd (Qbr (allE 0 l)):=rfl
   have e1:numE 1 l=dd (Qbr (allE 1 l)):=rfl
   have e2:numE 2 l=dd (Qbr (allE 2 l)):=rfl
   have e3:numE 3 l=dd (Qbr (allE 3 l)):=rfl
   rw [e0,e1,e2,e3]
   clear e0 e1 e2 e3
   have hS: ∀xs:List Int,xs.length=2*l.length→Qco Tryz.prog 97 [.bs 1000000 1 0 (2*l.length)] [(1000000,iB1 xs)] (.tup []) [(1000000,iB1 (Qbr xs))]:=fun xs h=>by
    have:=Zm3 xs (by omega)
    rw [h]at this;exact this
   have hC: ∀xs:List Int,xs.length=2*l.length→Qco Tryz.prog 98 [.bs 1000000 1 0 (2*l.length)] [(1000000,iB1 (Qbr xs))] (.bs 1000000 1 0 (dd (Qbr xs)).length) [(1000000,iB1 (ddB (Qbr xs)))]:=fun xs h=>by
    have:=Q2t (Qbr xs) (by rw [Ql2];omega)
    rw [Ql2,h]at this;exact this
   have S0:=hS _ q0
   have S1:=hS _ q1
   have S2:=hS _ q2
   have S3:=hS _ q3
   have C0:=hC _ q0
   have C1:=hC _ q1
   have C2:=hC _ q2
   have C3:=hC _ q3
   have t0:=Qld (Qbr (allE 0 l))
   have t1:=Qld (Qbr (allE 1 l))
   have t2:=Qld (Qbr (allE 2 l))
   have t3:=Qld (Qbr (allE 3 l))
   have u0:=Qrv (ddB (Qbr (allE 0 l)))
   have u1:=Qrv (ddB (Qbr (allE 1 l)))
   have u2:=Qrv (ddB (Qbr (allE 2 l)))
   have u3:=Qrv (ddB (Qbr (allE 3 l)))
   have v0:((dd (Qbr (allE 0 l))).length≤((ddB (Qbr (allE 0 l))).length))=True:=eq_true (by have:=Qle (Qbr (allE 0 l));rwa [List.length_map]at this)
   have v1:((dd (Qbr (allE 1 l))).length≤((ddB (Qbr (allE 1 l))).length))=True:=eq_true (by have:=Qle (Qbr (allE 1 l));rwa [List.length_map]at this)
   have v2:((dd (Qbr (allE 2 l))).length≤((ddB (Qbr (allE 2 l))).length))=True:=eq_true (by have:=Qle (Qbr (allE 2 l));rwa [List.length_map]at this)
   have v3:((dd (Qbr (allE 3 l))).length≤((ddB (Qbr (allE 3 l))).length))=True:=eq_true (by have:=Qle (Qbr (allE 3 l));rwa [List.length_map]at this)
   clear hS hC
   generalize dd (Qbr (allE 0 l))=D0 at*
   generalize ddB (Qbr (allE 0 l))=E0 at*
   generalize Qbr (allE 0 l)=F0 at*
   generalize allE 0 l=G0 at*
   generalize dd (Qbr (allE 1 l))=D1 at*
   generalize ddB (Qbr (allE 1 l))=E1 at*
   generalize Qbr (allE 1 l)=F1 at*
   generalize allE 1 l=G1 at*
   generalize dd (Qbr (allE 2 l))=D2 at*
   generalize ddB (Qbr (allE 2 l))=E2 at*
   generalize Qbr (allE 2 l)=F2 at*
   generalize allE 2 l=G2 at*
   generalize dd (Qbr (allE 3 l))=D3 at*
   generalize ddB (Qbr (allE 3 l))=E3 at*
   generalize Qbr (allE 3 l)=F3 at*
   generalize allE 3 l=G3 at*
   repeat (first|(simp -implicitDefEqProofs only [go_sem,Nat.reduceAdd,Nat.reduceMul,Nat.reduceEqDiff,Nat.reduceLT,Nat.reduceLeDiff,reduceCtorEq,hA',List.length_map])|(with_reducible exact Qaa _ _ (by kernel_rfl))|(with_reducible refine And.intro (Qaa _ _ (by kernel_rfl)) ?_))
   have bl7:Nat.ble 1000000 7=false:=rfl
   refine Q8j mixed [0,1,2,3,4] (St.of [(3,.bp 100 4 0 0),(50,.int .i64 0)] [(100,{els:=[.agg [.bs 7 1 0 (2*l.length),.bs 11 1 0 (2*l.length),.bs 12 1 0 (2*l.length),.bs 13 1 0 (2*l.length)]],esz:=4,ety:=145,fro:=0,live:=true,arr:=false}),(7,iB1 G0),(11,iB1 G1),(12,iB1 G2),(13,iB1 G3)]) (Qaj (θ:=[(100,100),(7,10),(11,11),(12,12),(13,13)]) rfl ?_ ?_) ?_
   ·simp [Qad,lkp,ren1,ren0,Qal]
   ·exact⟨⟨rfl,rfl,rfl,rfl,rfl,.inr ⟨rfl,_,_,rfl,rfl,rfl,rfl⟩⟩,⟨rfl,rfl,rfl,rfl,rfl,.inl ⟨rfl,rfl⟩⟩,⟨rfl,rfl,rfl,rfl,rfl,.inl ⟨rfl,rfl⟩⟩,⟨rfl,rfl,rfl,rfl,rfl,.inl ⟨rfl,rfl⟩⟩,⟨rfl,rfl,rfl,rfl,rfl,.inl ⟨rfl,rfl⟩⟩,trivial⟩
   repeat (first|(simp -implicitDefEqProofs only [go_sem,Nat.reduceAdd,Nat.reduceMul,Nat.reduceEqDiff,Nat.reduceLT,Nat.reduceLeDiff,reduceCtorEq,Int.reduceLT,Int.reduceAdd,nc_2,nc_3,nc_4,wr_1,wr_2,wr_3,wr_4,bl7,List.length_map,Int.toNat_natCast])|((with_reducible refine Qbs (S0) ?_ ?_ ?_ ?_);(with_reducible rfl);rfl;rfl)|((with_reducible refine Qbs (C0) ?_ ?_ ?_ ?_);(with_reducible rfl);rfl;rfl)|(with_reducible exact Qaa _ _ (by kernel_rfl))|(with_reducible refine And.intro (Qaa _ _ (by kernel_rfl)) ?_))
   refine⟨St.of [(3,.bp 100 4 0 0),(50,.int .i64 1)] [(100,{els:=[.agg [.bs 20 1 0 D0.length,.bs 7 1 0 (2*l.length),.bs 12 1 0 (2*l.length),.bs 13 1 0 (2*l.length)]],esz:=4,ety:=145,fro:=0,live:=true,arr:=false}),(20,iB1 E0),(7,iB1 G1),(12,iB1 G2),(13,iB1 G3)],Qaj (θ:=[(100,100),(20,7),(7,11),(12,12),(13,13)]) rfl ?_ ?_,?_⟩
   ·simp [Qad,lkp,ren1,ren0,Qal]
   ·exact⟨⟨rfl,rfl,rfl,rfl,rfl,.inr ⟨rfl,_,_,rfl,rfl,rfl,rfl⟩⟩,⟨rfl,rfl,rfl,rfl,rfl,.inl ⟨rfl,rfl⟩⟩,⟨rfl,rfl,rfl,rfl,rfl,.inl ⟨rfl,rfl⟩⟩,⟨rfl,rfl,rfl,rfl,rfl,.inl ⟨rfl,rfl⟩⟩,⟨rfl,rfl,rfl,rfl,rfl,.inl ⟨rfl,rfl⟩⟩,trivial⟩
   repeat (first|(simp -implicitDefEqProofs only [go_sem,Nat.reduceAdd,Nat.reduceMul,Nat.reduceEqDiff,Nat.reduceLT,Nat.reduceLeDiff,reduceCtorEq,Int.reduceLE,Int.reduceLT,Int.reduceToNat,Int.reduceAdd,nc_2,nc_3,nc_4,wr_1,wr_2,wr_3,wr_4,bl7,List.length_map,Int.toNat_natCast])|((with_reducible refine Qbs (S1) ?_ ?_ ?_ ?_);(with_reducible rfl);rfl;rfl)|((with_reducible refine Qbs (C1) ?_ ?_ ?_ ?_);(with_reducible rfl);rfl;rfl)|(with_reducible exact Qaa _ _ (by kernel_rfl))|(with_reducible refine And.intro (Qaa _ _ (by kernel_rfl)) ?_))
   refine⟨St.of [(3,.bp 100 4 0 0),(50,.int .i64 2)] [(100,{els:=[.agg [.bs 20 1 0 D0.length,.bs 21 1 0 D1.length,.bs 7 1 0 (2*l.length),.bs 13 1 0 (2*l.length)]],esz:=4,ety:=145,fro:=0,live:=true,arr:=false}),(20,iB1 E0),(21,iB1 E1),(7,iB1 G2),(13,iB1 G3)],Qaj (θ:=[(100,100),(20,20),(21,7),(7,12),(13,13)]) rfl ?_ ?_,?_⟩
   ·simp [Qad,lkp,ren1,ren0,Qal]
   ·exact⟨⟨rfl,rfl,rfl,rfl,rfl,.inr ⟨rfl,_,_,rfl,rfl,rfl,rfl⟩⟩,⟨rfl,rfl,rfl,rfl,rfl,.inl ⟨rfl,rfl⟩⟩,⟨rfl,rfl,rfl,rfl,rfl,.inl ⟨rfl,rfl⟩⟩,⟨rfl,rfl,rfl,rfl,rfl,.inl ⟨rfl,rfl⟩⟩,⟨rfl,rfl,rfl,rfl,rfl,.inl ⟨rfl,rfl⟩⟩,trivial⟩
   repeat (first|(simp -implicitDefEqProofs only [go_sem,Nat.reduceAdd,Nat.reduceMul,Nat.reduceEqDiff,Nat.reduceLT,Nat.reduceLeDiff,reduceCtorEq,Int.reduceLE,Int.reduceLT,Int.reduceToNat,Int.reduceAdd,nc_2,nc_3,nc_4,wr_1,wr_2,wr_3,wr_4,bl7,List.length_map,Int.toNat_natCast])|((with_reducible refine Qbs (S2) ?_ ?_ ?_ ?_);(with_reducible rfl);rfl;rfl)|((with_reducible refine Qbs (C2) ?_ ?_ ?_ ?_);(with_reducible rfl);rfl;rfl)|(with_reducible exact Qaa _ _ (by kernel_rfl))|(with_reducible refine And.intro (Qaa _ _ (by kernel_rfl)) ?_))
   refine⟨St.of [(3,.bp 100 4 0 0),(50,.int .i64 3)] [(100,{els:=[.agg [.bs 20 1 0 D0.length,.bs 21 1 0 D1.length,.bs 22 1 0 D2.length,.bs 7 1 0 (2*l.length)]],esz:=4,ety:=145,fro:=0,live:=true,arr:=false}),(20,iB1 E0),(21,iB1 E1),(22,iB1 E2),(7,iB1 G3)],Qaj (θ:=[(100,100),(20,20),(21,21),(22,7),(7,13)]) rfl ?_ ?_,?_⟩
   ·simp [Qad,lkp,ren1,ren0,Qal]
   ·exact⟨⟨rfl,rfl,rfl,rfl,rfl,.inr ⟨rfl,_,_,rfl,rfl,rfl,rfl⟩⟩,⟨rfl,rfl,rfl,rfl,rfl,.inl ⟨rfl,rfl⟩⟩,⟨rfl,rfl,rfl,rfl,rfl,.inl ⟨rfl,rfl⟩⟩,⟨rfl,rfl,rfl,rfl,rfl,.inl ⟨rfl,rfl⟩⟩,⟨rfl,rfl,rfl,rfl,rfl,.inl ⟨rfl,rfl⟩⟩,trivial⟩
   repeat (first|(simp -implicitDefEqProofs only [go_sem,Nat.reduceAdd,Nat.reduceMul,Nat.reduceEqDiff,Nat.reduceLT,Nat.reduceLeDiff,reduceCtorEq,Int.reduceLE,Int.reduceLT,Int.reduceToNat,Int.reduceAdd,nc_2,nc_3,nc_4,wr_1,wr_2,wr_3,wr_4,bl7,List.length_map,Int.toNat_natCast])|((with_reducible refine Qbs (S3) ?_ ?_ ?_ ?_);(with_reducible rfl);rfl;rfl)|((with_reducible refine Qbs (C3) ?_ ?_ ?_ ?_);(with_reducible rfl);rfl;rfl)|(with_reducible exact Qaa _ _ (by kernel_rfl))|(with_reducible refine And.intro (Qaa _ _ (by kernel_rfl)) ?_))
   refine⟨St.of [(3,.bp 100 4 0 0),(50,.int .i64 4)] [(100,{els:=[.agg [.bs 20 1 0 D0.length,.bs 21 1 0 D1.length,.bs 22 1 0 D2.length,.bs 23 1 0 D3.length]],esz:=4,ety:=145,fro:=0,live:=true,arr:=false}),(20,iB1 E0),(21,iB1 E1),(22,iB1 E2),(23,iB1 E3)],Qaj (θ:=[(100,100),(20,20),(21,21),(22,22),(23,7)]) rfl ?_ ?_,?_⟩
   ·simp [Qad,lkp,ren1,ren0,Qal]
   ·exact⟨⟨rfl,rfl,rfl,rfl,rfl,.inr ⟨rfl,_,_,rfl,rfl,rfl,rfl⟩⟩,⟨rfl,rfl,rfl,rfl,rfl,.inl ⟨rfl,rfl⟩⟩,⟨rfl,rfl,rfl,rfl,rfl,.inl ⟨rfl,rfl⟩⟩,⟨rfl,rfl,rfl,rfl,rfl,.inl ⟨rfl,rfl⟩⟩,⟨rfl,rfl,rfl,rfl,rfl,.inl ⟨rfl,rfl⟩⟩,trivial⟩
   repeat (first|(simp -implicitDefEqProofs only [go_sem,Nat.reduceAdd,Nat.reduceMul,Nat.reduceEqDiff,Nat.reduceLT,Nat.reduceLeDiff,reduceIte,reduceCtorEq,Int.reduceLT,nc_2,nc_3,nc_4,wr_1,wr_2,wr_3,wr_4,bl7,List.length_map,Int.toNat_natCast,t0,t1,t2,t3,u0,u1,u2,u3,v0,v1,v2,v3])|(with_reducible exact Qaa _ _ (by kernel_rfl))|(with_reducible refine And.intro (Qaa _ _ (by kernel_rfl)) ?_))
end Go.Proofs.YtciddhkfbgkejaaGreatDoor

namespace Go.Proofs.YtciddhkfbgkejaaGreatDoor
open Go.Vl Go.RowKit Go.Dg
theorem Q2g (l:List Wd) (Q:List (Int×Int×Int×Int)) (k:Nat) (h:k<Q.length):Qdc l 0 (Q.take (k+1))=max (Qdc l 0 (Q.take k)) (sqL l Q[k]):=by
 rw [Qa1 Q k h,Ql9];rfl
def stB (l:List Wd) (Q:List (Int×Int×Int×Int)) (k:Nat):List (Nat×Box):=[(1000000,{els:=[wsPV l],esz:=1,ety:=22,fro:=0,live:=true,arr:=false}),(1000001,{els:=[.int .i64 (Qdc l 0 (Q.take k))],esz:=1,ety:=3,fro:=0,live:=true,arr:=false})]
theorem Zpm (l:List Wd) (Q:List (Int×Int×Int×Int)) (k:Nat): ∀b∈ [1000000,1000001],(lkp (stB l Q k) b).isSome=true:=by simp [stB,lkp]
theorem Qlf (k:Nat) {l:List Wd} (h:l.length≤8):(numE k l).length≤100000:=by
 have h1:=Q1e (Qbr (allE k l))
 have h2:=Ql2 (allE k l)
 have h3:=Qe1 k l
 unfold numE;omega
set_option maxHeartbeats 8000000 in
set_option maxRecDepth 100000 in
theorem Qeo (l:List Wd) (hl:l.length≤maxLen) (h6:Qau l=true→l.length≤6):Qag Tryz.prog 21 [wsPV l] (if Qau l=true then .tup [.int .i64 (Qek l),.int .i64 0]else .tup [.int .i64 0,.int .i64 2]):=by
 have v1:=Qih l hl
 cases hv:Qau l with
 |false=>
  rw [hv]at v1
  refine Qac (tb:=[]) 41 [.tmp 2,.tmp 3] [0,1,2,3,4,5,6,7,10,12,13,14] mixed Tryz.func21 rfl (by kernel_rfl) (by kernel_rfl) (by kernel_rfl) (by kernel_rfl) ?_
  repeat (first|(simp -implicitDefEqProofs only [go_sem,Nat.reduceAdd,Nat.reduceMul,Nat.reduceEqDiff,Nat.reduceLT,Nat.reduceLeDiff,reduceCtorEq,Bool.not_false,Bool.false_eq_true])|((with_reducible refine Qab (v1) ?_ ?_ ?_);(with_reducible rfl);rfl)|(with_reducible exact Qaa _ _ (by kernel_rfl))|(with_reducible refine And.intro (Qaa _ _ (by kernel_rfl)) ?_))
 |true=>
 rw [hv]at v1
 simp only [if_true]
 have hc:=Zhn l hv (h6 hv)
 have h8:=(Qba hv).2
 have hY:=Q9r (numE 0 l) (numE 1 l) (numE 2 l) (numE 3 l) (Qlf 0 h8) (Qlf 1 h8) (Qlf 2 h8) (Qlf 3 h8)
 have eQ:c0 (numE 0 l) (numE 1 l) (numE 2 l) (numE 3 l)=Qid l:=rfl
 rw [eQ]at hY
 unfold Qek
 generalize Qid l=Q at*
 have hlen:(Q.map oP).length=Q.length:=List.length_map _
 have hmin:min (Q.map oP).length (Q.length+1)=Q.length:=by rw [hlen];omega
 generalize (numE 0 l).map (PV.int .i64)=E0 at*
 generalize (numE 1 l).map (PV.int .i64)=E1 at*
 generalize (numE 2 l).map (PV.int .i64)=E2 at*
 generalize (numE 3 l).map (PV.int .i64)=E3 at*
 refine Qac (tb:=[]) 41 [.tmp 2,.tmp 3] [0,1,2,3,4,5,6,7,10,12,13,14] mixed Tryz.func21 rfl (by kernel_rfl) (by kernel_rfl) (by kernel_rfl) (by kernel_rfl) ?_
 repeat (first|(simp -implicitDefEqProofs only [go_sem,Nat.reduceAdd,Nat.reduceMul,Nat.reduceEqDiff,Nat.reduceLT,Nat.reduceLeDiff,reduceCtorEq,Bool.not_true])|((with_reducible refine Qab (v1) ?_ ?_ ?_);(with_reducible rfl);rfl)|((with_reducible refine Qab (hc) ?_ ?_ ?_);(with_reducible rfl);rfl)|(with_reducible exact Qaa _ _ (by kernel_rfl))|(with_reducible refine And.intro (Qaa _ _ (by kernel_rfl)) ?_))
 refine Zl0 mixed hY rfl rfl _ rfl [(1000000,0),(1000001,300)] [1000000,1000001] rfl [(1,.bp 1000000 1 0 0),(4,.bp 1000001 1 0 0)] (stB l Q) rfl rfl ?_ ?_ ?_ Q.length .normal (fun h=>by rw [hlen]at h;omega) (fun k _ _=>Zpm l Q k) (fun k args h=> ?_) rfl (fun k args h hk=> ?_)
  [(0,1000000),(300,1000001)] [(1,.bp 0 1 0 0),(4,.bp 300 1 0 0)] [(0,{els:=[wsPV l],esz:=1,ety:=22,fro:=0,live:=true,arr:=false}),(300,{els:=[.int .i64 (Qdc l 0 Q)],esz:=1,ety:=3,fro:=0,live:=true,arr:=false})] rfl rfl ?_ ?_ (fun _=> ?_) (fun h=>by rw [hlen]at h;omega)
 ·simp [Qad,lkp,ren1,ren0,Qal]
 ·simp only [stB,List.take_zero,Qdc]
  exact⟨⟨rfl,rfl,rfl,rfl,rfl,.inr ⟨rfl,_,_,rfl,rfl,rfl,rfl⟩⟩,⟨rfl,rfl,rfl,rfl,rfl,.inr ⟨rfl,_,_,rfl,rfl,rfl,rfl⟩⟩,trivial⟩
 ·simp [Qad,lkp,ren1,ren0,Qal,Qnr]
 ·simp only [List.getElem?_map,Option.map_eq_some_iff]at h
  obtain⟨x, -,rfl⟩:=h
  rfl
 ·simp only [List.getElem?_map,Option.map_eq_some_iff]at h
  obtain⟨q,hx,rfl⟩:=h
  obtain⟨hk2,e⟩:=List.getElem?_eq_some_iff.1 hx
  have hsn:=Q2g l Q k hk2
  rw [e]at hsn
  obtain⟨x,y,z,t⟩:=q
  have f1:=Qgl l x y z t h8
  have f2:=Qt5 l x y z t hv
  have a0:=Qf9 (g:=Wd.ux) (.inl rfl) hv x y z t
  have a1:=Qf9 (g:=Wd.uy) (.inr (.inl rfl)) hv x y z t
  have a2:=Qf9 (g:=Wd.uz) (.inr (.inr rfl)) hv x y z t
  have b0:=Qga a0
  have b1:=Qga a1
  have b2:=Qga a2
  have es:sqL l (x,y,z,t)=atW Wd.ux l x y z t*atW Wd.ux l x y z t+atW Wd.uy l x y z t*atW Wd.uy l x y z t+atW Wd.uz l x y z t*atW Wd.uz l x y z t:=rfl
  have eo:oP (x,y,z,t)=[.agg [.int .i64 x,.int .i64 y,.int .i64 z],.int .i64 t]:=rfl
  rw [es]at hsn
  rw [eo]
  unfold Qh0 at f2
  clear es eo e hx
  generalize mask (blW x y z t) l=m at*
  generalize atW Wd.ux l x y z t=u0 at*
  generalize atW Wd.uy l x y z t=u1 at*
  generalize atW Wd.uz l x y z t=u2 at*
  have w0:IntKind.i64.wrap (u0*u0)=u0*u0:=Qah (by omega) (by omega)
  have w1:IntKind.i64.wrap (u1*u1)=u1*u1:=Qah (by omega) (by omega)
  have w2:IntKind.i64.wrap (u2*u2)=u2*u2:=Qah (by omega) (by omega)
  have w3:IntKind.i64.wrap (u0*u0+u1*u1)=u0*u0+u1*u1:=Qah (by omega) (by omega)
  have w4:IntKind.i64.wrap (u0*u0+u1*u1+u2*u2)=u0*u0+u1*u1+u2*u2:=Qah (by omega) (by omega)
  simp only [stB]
  generalize hM2:Qdc l 0 (Q.take (k+1))=M2 at*
  generalize Qdc l 0 (Q.take k)=M at*
  repeat (first|(simp -implicitDefEqProofs only [go_sem,Nat.reduceAdd,Nat.reduceMul,Nat.reduceEqDiff,Nat.reduceLT,Nat.reduceLeDiff,reduceCtorEq,pvars,List.toList_toArray])|(with_reducible exact Qaa _ _ (by kernel_rfl))|(with_reducible refine And.intro (Qaa _ _ (by kernel_rfl)) ?_))
  refine⟨by simp [lkp],?_⟩
  repeat (first|(simp -implicitDefEqProofs only [go_sem,Nat.reduceAdd,Nat.reduceMul,Nat.reduceEqDiff,Nat.reduceLT,Nat.reduceLeDiff,reduceCtorEq,w0,w1,w2,w3,w4,Zpb])|((with_reducible refine Qab (f1) ?_ ?_ ?_);(with_reducible rfl);rfl)|((with_reducible refine Qab (f2) ?_ ?_ ?_);(with_reducible rfl);rfl)|(with_reducible exact Qaa _ _ (by kernel_rfl))|(with_reducible refine And.intro (Qaa _ _ (by kernel_rfl)) ?_))
  refine⟨by omega,?_⟩
  refine Qaj (θ:=[(1000000,1000000),(1000001,1000001)]) rfl ?_ ?_
  ·simp [Qad,lkp,ren1,ren0,Qal]
  ·simp only [stB,hM2,hsn]
   exact⟨⟨rfl,rfl,rfl,rfl,rfl,.inr ⟨rfl,_,_,rfl,rfl,rfl,rfl⟩⟩,⟨rfl,rfl,rfl,rfl,rfl,.inr ⟨rfl,_,_,rfl,rfl,rfl,rfl⟩⟩,trivial⟩
 ·simp [Qad,lkp,ren1,ren0,Qal]
 ·rw [hmin]
  simp only [stB,List.take_length]
  exact⟨⟨rfl,rfl,rfl,rfl,rfl,.inr ⟨rfl,_,_,rfl,rfl,rfl,rfl⟩⟩,⟨rfl,rfl,rfl,rfl,rfl,.inr ⟨rfl,_,_,rfl,rfl,rfl,rfl⟩⟩,trivial⟩
 ·repeat (first|(simp -implicitDefEqProofs only [go_sem,Nat.reduceAdd,Nat.reduceMul,Nat.reduceEqDiff,Nat.reduceLT,Nat.reduceLeDiff,reduceCtorEq])|(with_reducible exact Qaa _ _ (by kernel_rfl))|(with_reducible refine And.intro (Qaa _ _ (by kernel_rfl)) ?_))
end Go.Proofs.YtciddhkfbgkejaaGreatDoor

namespace Go.Vl
open Go.RowKit
theorem Zl3 {st:St} {t b esz off len:Nat} {B:Box} (ht:st.var t=some (.bs b esz off len)) (hB:st.box b=some B) (ha:B.arr=true) (he:B.esz=esz) (hn:off+len≤B.els.length):
  Le st ((st.setBox b {B with fro:=max B.fro (off+len),live:=B.live&&true}).setVar t (.slc ((B.els.drop off).take len))):=by
 rintro C a w ⟨ρ,im,h⟩
 obtain⟨x,hx,hr⟩:=Qsm h (h.var t _ ht) hB ha he hn
 have h1:=h.hold hx hB hn true (.inl rfl)
 refine⟨ρ,_,h1.root,h1.nt,h1.dfr,h1.imc,?_,h1.rho,h1.box,h1.inj⟩
 intro t' v' hv'
 simp only [St.setVar,upd]at hv'
 split at hv'
 ·rename_i e
  cases hv'
  subst e
  exact .ext _ _ hr
 ·exact h1.var t' v' hv'
theorem Qfq {vs:List (Nat×PV)} {bs:List (Nat×Box)} {o:List (List PV)} {y:Yl} (t:Nat) {b esz off len:Nat} {B:Box} (ht:lkp vs t=some (.bs b esz off len)) (hB:lkp bs b=some B)
  (ha:B.arr=true) (he:B.esz=esz) (hn:off+len≤B.els.length):
  Le (St.ofG vs bs o y) (St.ofG ((t,.slc ((B.els.drop off).take len))::vs) ((b,{B with fro:=max B.fro (off+len),live:=B.live&&true})::bs) o y):=Zl3 (st:=St.ofG vs bs o y) ht hB ha he hn
end Go.Vl

namespace Go.Proofs.YtciddhkfbgkejaaGreatDoor
open Go.Vl Go.RowKit Go.Dg
theorem Zhk (p:Wd→Bool) {l:List Wd} (h:l.length≤8) {k:Nat} (hk:k<(onL p l).length):((onL p l).map (PV.int .i64))[k]? =some (.int .i64 (((Qbm (mask p l)).getD k 0:Nat):Int)):=by
 have e:onL p l=(Qbm (mask p l)).map fun(i:Nat)=>(i:Int):=by unfold onL;rw [Go.Dg.bits_mask p l h]
 rw [e]at hk ⊢
 rw [List.length_map]at hk
 rw [List.getElem?_map,List.getElem?_map,List.getElem?_eq_getElem hk,List.getD_eq_getElem?_getD,List.getElem?_eq_getElem hk];rfl
theorem Q9p (p:Wd→Bool) {l:List Wd} (h:l.length≤8):(onL p l).length=(Qbm (mask p l)).length:=by unfold onL;rw [Go.Dg.bits_mask p l h,List.length_map]
set_option maxHeartbeats 4000000 in
theorem Qt6 (l:List Wd) (x y z t:Int) (hv:Qau l=true):Qag Tryz.prog 20 [wsPV l,.agg [.int .i64 x,.int .i64 y,.int .i64 z],.int .i64 t] (Qh0 l x y z t):=by
 have h8:=(Qba hv).2
 have ha:=Qrt l x y z t (by omega)
 have hb:=Q2a (blW x y z t) h8
 have b1:=Qx9 (g:=Wd.ux) (.inl rfl) hv hb
 have b2:=Qx9 (g:=Wd.uy) (.inr (.inl rfl)) hv hb
 have b3:=Qx9 (g:=Wd.uz) (.inr (.inr rfl)) hv hb
 have hlen:=Q9p (blW x y z t) h8
 have hget:=fun k h=>Zhk (blW x y z t) h8 (k:=k) h
 have eS: ∀g:Wd→Int,SW g l (mask (blW x y z t) l) (Qbm (mask (blW x y z t) l)).length=atW g l x y z t:=fun g=>by
  unfold SW atW;rw [List.take_length,Go.Dg.bits_mask _ _ h8,Q1o]
 have hle:(onL (blW x y z t) l).length≤8:=by
  rw [hlen];exact List.length_filter_le _ _
 unfold Qh0
 rw [←eS Wd.ux,←eS Wd.uy,←eS Wd.uz,←hlen]
 clear eS
 generalize onL (blW x y z t) l=O at*
 generalize mask (blW x y z t) l=m at*
 refine Qac (tb:=[]) 48 [.cell 6 26] [0,1,2,4,6,7,8,9,10,18] mixed Tryz.func20 rfl (by kernel_rfl) (by kernel_rfl) (by kernel_rfl) (by kernel_rfl) ?_
 repeat (first|(simp -implicitDefEqProofs only [go_sem,Nat.reduceAdd,Nat.reduceMul,Nat.reduceEqDiff,Nat.reduceLT,Nat.reduceLeDiff,reduceCtorEq])|((with_reducible refine Qab (ha) ?_ ?_ ?_);(with_reducible rfl);rfl)|(with_reducible exact Qaa _ _ (by kernel_rfl))|(with_reducible refine And.intro (Qaa _ _ (by kernel_rfl)) ?_))
 refine Qar mixed (fun k:{k:Nat // k≤O.length}=>St.of [(0,wsPV l),(6,.bp 1 3 0 0),(7,.bp 100 3 0 0),(8,.slc (O.map (PV.int .i64))),(9,.int .i64 (k.1:Int))]
  [(1,{els:=[.agg [.int .i64 0,.int .i64 0,.int .i64 0]],esz:=3,ety:=26,fro:=0,live:=true,arr:=false}),(100,{els:=[.agg [.int .i64 (SW Wd.ux l m k.1),.int .i64 (SW Wd.uy l m k.1),.int .i64 (SW Wd.uz l m k.1)]],esz:=3,ety:=26,fro:=0,live:=true,arr:=false})]) (fun k=>O.length-k.1) ⟨0,Nat.zero_le _⟩ ?_ ?_
 ·refine Qaj (θ:=[(1,1),(100,100)]) rfl ?_ ?_
  ·simp [Qad,lkp,ren1,ren0,Qal,wsPV]
  ·exact⟨⟨rfl,rfl,rfl,rfl,rfl,.inr ⟨rfl,_,_,rfl,rfl,rfl,rfl⟩⟩,⟨rfl,rfl,rfl,rfl,rfl,.inr ⟨rfl,_,_,rfl,rfl,rfl,rfl⟩⟩,trivial⟩
 ·rintro⟨k,hk⟩
  simp only
  by_cases hA:k<O.length
  ·have hA':=ltT hA
   have n0:=nnT k
   have hwk:=Qai (a:=k) (by omega)
   have hg:=hget k hA
   have hk2:k<(Qbm m).length:=by omega
   have hil:(Qbm m).getD k 0<l.length:=hb _ (by rw [List.getD_eq_getElem?_getD,List.getElem?_eq_getElem hk2];exact List.getElem_mem _)
   have s1:=Qjs Wd.ux l hk2
   have s2:=Qjs Wd.uy l hk2
   have s3:=Qjs Wd.uz l hk2
   generalize (Qbm m).getD k 0=i at*
   have hwi:l.getD i wd0=l[i]:=by rw [List.getD_eq_getElem?_getD,List.getElem?_eq_getElem hil];rfl
   rw [hwi]at s1 s2 s3
   have hgw:=Qie l i hil
   have n1:=nnT i
   have w1:IntKind.i64.wrap (SW Wd.ux l m k+l[i].ux)=SW Wd.ux l m (k+1):=by rw [←s1];have:=b1 (k+1);exact Qah (by omega) (by omega)
   have w2:IntKind.i64.wrap (SW Wd.uy l m k+l[i].uy)=SW Wd.uy l m (k+1):=by rw [←s2];have:=b2 (k+1);exact Qah (by omega) (by omega)
   have w3:IntKind.i64.wrap (SW Wd.uz l m k+l[i].uz)=SW Wd.uz l m (k+1):=by rw [←s3];have:=b3 (k+1);exact Qah (by omega) (by omega)
   clear s1 s2 s3 hwi
   generalize l[i]=w at*
   repeat (first|(simp -implicitDefEqProofs only [go_sem,Nat.reduceAdd,Nat.reduceMul,Nat.reduceEqDiff,Nat.reduceLT,Nat.reduceLeDiff,reduceCtorEq,hA',n0,n1,hwk,hg,hgw,w1,w2,w3,Int.toNat_natCast,List.length_map])|(with_reducible exact Qaa _ _ (by kernel_rfl))|(with_reducible refine And.intro (Qaa _ _ (by kernel_rfl)) ?_))
   refine⟨⟨k+1,hA⟩,by simp only;omega,Qaj (θ:=[(1,1),(100,100)]) rfl ?_ ?_⟩
   ·simp [Qad,lkp,ren1,ren0,Qal,wsPV]
   ·exact⟨⟨rfl,rfl,rfl,rfl,rfl,.inr ⟨rfl,_,_,rfl,rfl,rfl,rfl⟩⟩,⟨rfl,rfl,rfl,rfl,rfl,.inr ⟨rfl,_,_,rfl,rfl,rfl,rfl⟩⟩,trivial⟩
  ·have hA':=ltF hA
   obtain rfl:k=O.length:=by omega
   repeat (first|(simp -implicitDefEqProofs only [go_sem,Nat.reduceAdd,Nat.reduceMul,Nat.reduceEqDiff,Nat.reduceLT,Nat.reduceLeDiff,reduceCtorEq,hA',List.length_map])|(with_reducible exact Qaa _ _ (by kernel_rfl))|(with_reducible refine And.intro (Qaa _ _ (by kernel_rfl)) ?_))
def posS (s:Sg) (i:Nat):Int:=rnd (exQ [s] s.f i) (exO [s] s.f)
def alV (l:List Wd) (s:Sg):PV:=Qh0 l (posS s 0) (posS s 1) (posS s 2) s.f
theorem Qij {s:Sg} (h:Qa4 s=true):Qbh [s]=true:=by
 unfold Qbh vpTo
 simp [vpAt,h,List.range_succ]
theorem Qmf {s:Sg} (h:Qa4 s=true):lasts [s] s.f=true:=by
 have:=(Qbk h).1
 simp only [lasts,pBeg,pEnd,Bool.and_eq_true,decide_eq_true_eq]
 simp
 omega
theorem Zmu {s:Sg} (hs:okSg s) (h:Qa4 s=true):Qag Tryz.prog 29 [.slc [sgPV s],.int .i64 s.f] (.tup [.agg [.int .i64 (posS s 0),.int .i64 (posS s 1),.int .i64 (posS s 2)],.int .i64 0]):=by
 have h1:=Zmw [s] s.f (fun x hx=>by rw [List.mem_singleton.1 hx];exact hs) (by simp) hs.f
 unfold atPV at h1
 rw [if_pos (Qij h),if_pos (Qmf h)]at h1
 exact h1
theorem Zhl {s:Sg} (hs:okSg s) (h:Qa4 s=true):Qag Tryz.prog 64 [.slc [sgPV s],.int .i64 s.f] (.agg [.int .i64 (posS s 0),.int .i64 (posS s 1),.int .i64 (posS s 2)]):=
 Zhr [s] s.f (fun x hx=>by rw [List.mem_singleton.1 hx];exact hs) (by simp) hs.f (Qij h) (Qmf h)
theorem Qwp (p:List Sg) (i:Nat) (h:i<p.length):((p.map sgPV).take (i+1)).drop i=[sgPV p[i]]:=by
 rw [Qa1 _ i (by simpa using h),List.drop_append_of_le_length (by simp;omega),List.drop_eq_nil_of_le (by simp;omega)];simp
theorem Q2f (p:List Sg):((p.map sgPV).all fun x=>x.cells.length==6)=true:=by rw [List.all_map,List.all_eq_true];intro _ _;rfl
theorem Qwq (l:List Wd) (T:List Sg):((T.map (alV l)).flatMap PV.cells).all PV.okCell=true:=by
 rw [List.all_eq_true];intro c hc
 simp only [List.mem_flatMap,List.mem_map]at hc
 obtain⟨_,⟨s,_,rfl⟩,h⟩:=hc
 simp only [alV,Qh0,PV.cells,List.mem_cons,List.not_mem_nil,or_false]at h
 rcases h with rfl|rfl|rfl<;>rfl
set_option maxHeartbeats 4000000 in
theorem Qt7 (l:List Wd) (p:List Sg) (hp: ∀s∈p,okSg s) (hl:l.length≤maxLen) (hpl:p.length≤1000000):Qag Tryz.prog 24 [wsPV l,Qcg p] (if Qau l=true∧Qbh p=true then .tup [.slc (p.map (alV l)),.int .i64 0]else .tup [.slc [],.int .i64 2]):=by
 have v1:=Qih l hl
 have v2:=Qkb p hp hpl
 unfold Qcg at v2 ⊢
 cases hv:Qau l with
 |false=>
  rw [hv]at v1
  refine Qac (tb:=[]) 49 [.tmp 4,.tmp 5] [0,1,4,5,6,7,8,9,18,19,20,21,22] mixed Tryz.func24 rfl (by kernel_rfl) (by kernel_rfl) (by kernel_rfl) (by kernel_rfl) ?_
  repeat (first|(simp -implicitDefEqProofs only [go_sem,Nat.reduceAdd,Nat.reduceMul,Nat.reduceEqDiff,Nat.reduceLT,Nat.reduceLeDiff,reduceCtorEq,Bool.not_false,Bool.false_eq_true,false_and])|((with_reducible refine Qab (v1) ?_ ?_ ?_);(with_reducible rfl);rfl)|(with_reducible exact Qaa _ _ (by kernel_rfl))|(with_reducible refine And.intro (Qaa _ _ (by kernel_rfl)) ?_))
 |true=>
 cases hV:Qbh p with
 |false=>
  rw [hv]at v1
  rw [hV]at v2
  refine Qac (tb:=[]) 49 [.tmp 4,.tmp 5] [0,1,4,5,6,7,8,9,18,19,20,21,22] mixed Tryz.func24 rfl (by kernel_rfl) (by kernel_rfl) (by kernel_rfl) (by kernel_rfl) ?_
  repeat (first|(simp -implicitDefEqProofs only [go_sem,Nat.reduceAdd,Nat.reduceMul,Nat.reduceEqDiff,Nat.reduceLT,Nat.reduceLeDiff,reduceCtorEq,Bool.not_false,Bool.not_true,Bool.false_eq_true,and_false])|((with_reducible refine Qab (v1) ?_ ?_ ?_);(with_reducible rfl);rfl)|((with_reducible refine Qab (v2) ?_ ?_ ?_);(with_reducible rfl);rfl)|(with_reducible exact Qaa _ _ (by kernel_rfl))|(with_reducible refine And.intro (Qaa _ _ (by kernel_rfl)) ?_))
 |true=>
  rw [hv]at v1
  rw [hV]at v2
  rw [if_pos ⟨rfl,rfl⟩]
  have h8:=(Qba hv).2
  refine Qac (tb:=[]) 49 [.tmp 4,.tmp 5] [0,1,4,5,6,7,8,9,18,19,20,21,22] mixed Tryz.func24 rfl (by kernel_rfl) (by kernel_rfl) (by kernel_rfl) (by kernel_rfl) ?_
  repeat (first|(simp -implicitDefEqProofs only [go_sem,Nat.reduceAdd,Nat.reduceMul,Nat.reduceEqDiff,Nat.reduceLT,Nat.reduceLeDiff,reduceCtorEq,Bool.not_true,List.length_map])|((with_reducible refine Qab (v1) ?_ ?_ ?_);(with_reducible rfl);rfl)|((with_reducible refine Qab (v2) ?_ ?_ ?_);(with_reducible rfl);rfl)|(with_reducible exact Qaa _ _ (by kernel_rfl))|(with_reducible refine And.intro (Qaa _ _ (by kernel_rfl)) ?_))
  refine Qar mixed (fun i:{i:Nat // i≤p.length}=>St.of [(0,wsPV l),(1,.slc (p.map sgPV)),(6,.bs 7 3 0 i.1),(19,.slc (p.map sgPV)),(20,.int .i64 (p.length:Int)),(21,.int .i64 (i.1:Int))] [(7,{els:=(p.take i.1).map (alV l),esz:=3,ety:=26,fro:=0,live:=true,arr:=true})]) (fun i=>p.length-i.1) ⟨0,Nat.zero_le _⟩ ?_ ?_
  ·refine Qf8 6 7 3 26 rfl rfl rfl (by decide) [(7,7)] rfl ?_ ?_
   ·simp [Qad,lkp,ren1,ren0,Qal,wsPV]
   ·exact⟨⟨rfl,rfl,rfl,rfl,rfl,.inl ⟨rfl,rfl⟩⟩,trivial⟩
  ·rintro⟨i,hi⟩
   simp only
   by_cases hA:i<p.length
   ·skip
    have hA':=ltT hA
    have n0:=nnT i
    have hg:=Qc6 p i hA
    have hsl:((p.map sgPV).take (i+1)).drop i=[.agg [.int .i64 p[i].f,.int .i64 p[i].t,.int .i64 p[i].o,.slc (p[i].x.map (PV.int .i64)),.slc (p[i].y.map (PV.int .i64)),.slc (p[i].z.map (PV.int .i64))]]:=Qwp p i hA
    have hs:=hp _ (List.getElem_mem hA)
    have hvs:=Qcr hV _ hA
    have f1:=Zmu hs hvs
    have f2:=Qgl l (posS p[i] 0) (posS p[i] 1) (posS p[i] 2) p[i].f h8
    have f3:=Qt5 l (posS p[i] 0) (posS p[i] 1) (posS p[i] 2) p[i].f hv
    have hwk:=Qai (a:=i) (by omega)
    have hsn:(p.take (i+1)).map (alV l)=(p.take i).map (alV l)++[Qh0 l (posS p[i] 0) (posS p[i] 1) (posS p[i] 2) p[i].f]:=by rw [Qa1 p i hA,List.map_append];rfl
    have hln:((p.take i).map (alV l)).length=i:=by simp;omega
    have hok:=Qwq l (p.take i)
    have k1:((i+1)*24≤140737488355328)=True:=eq_true (by omega)
    have k2:(i+1≤maxLen)=True:=eq_true (by unfold maxLen;omega)
    have k3:((i:Int)≤((i+1:Nat):Int))=True:=eq_true (by omega)
    have k4:(((i+1:Nat):Int)≤(p.length:Int))=True:=eq_true (by omega)
    have hall:=Q2f p
    generalize hT2:(p.take (i+1)).map (alV l)=T2 at*
    generalize (p.take i).map (alV l)=T at*
    generalize p[i]=s at*
    generalize mask (blW (posS s 0) (posS s 1) (posS s 2) s.f) l=m at*
    unfold Qh0 at f3 hsn
    generalize atW Wd.ux l (posS s 0) (posS s 1) (posS s 2) s.f=u0 at*
    generalize atW Wd.uy l (posS s 0) (posS s 1) (posS s 2) s.f=u1 at*
    generalize atW Wd.uz l (posS s 0) (posS s 1) (posS s 2) s.f=u2 at*
    generalize posS s 0=x0 at*
    generalize posS s 1=x1 at*
    generalize posS s 2=x2 at*
    unfold sgPV Qat at f1
    repeat (first|(simp -implicitDefEqProofs only [go_sem,Nat.reduceAdd,Nat.reduceMul,Nat.reduceEqDiff,Nat.reduceLT,Nat.reduceLeDiff,reduceCtorEq,hA',n0,hg,hsl,hwk,k3,k4,hall,Int.toNat_natCast,List.length_map])|((with_reducible refine Qab (f1) ?_ ?_ ?_);(with_reducible rfl);rfl)|(with_reducible exact Qaa _ _ (by kernel_rfl))|(with_reducible refine And.intro (Qaa _ _ (by kernel_rfl)) ?_))
    repeat (first|(simp -implicitDefEqProofs only [go_sem,Nat.reduceAdd,Nat.reduceMul,Nat.reduceEqDiff,Nat.reduceLT,Nat.reduceLeDiff,reduceIte,reduceCtorEq,Nat.reduceBneDiff,hln,hok,hwk,k1,k2,Int.toNat_natCast,List.length_map])|((with_reducible refine Qab (f2) ?_ ?_ ?_);(with_reducible rfl);rfl)|((with_reducible refine Qab (f3) ?_ ?_ ?_);(with_reducible rfl);rfl)|(with_reducible exact Qaa _ _ (by kernel_rfl))|(with_reducible refine And.intro (Qaa _ _ (by kernel_rfl)) ?_))
    refine⟨⟨i+1,hA⟩,by simp only;omega,Qaj (θ:=[(7,809)]) rfl ?_ ?_⟩
    ·simp [Qad,lkp,ren1,ren0,Qal,wsPV]
    ·simp only [hT2,hsn]
     exact⟨⟨rfl,rfl,rfl,rfl,rfl,.inl ⟨rfl,rfl⟩⟩,trivial⟩
   ·have hA':=ltF hA
    obtain rfl:i=p.length:=by omega
    have ht:p.take p.length=p:=List.take_length
    have ht2:(p.map (alV l)).take p.length=p.map (alV l):=List.take_of_length_le (by simp)
    have hok:=Qwq l p
    rw [ht]
    have hln:(p.map (alV l)).length=p.length:=by simp
    generalize p.map (alV l)=T at*
    repeat (first|(simp -implicitDefEqProofs only [go_sem,Nat.reduceAdd,Nat.reduceMul,Nat.reduceEqDiff,Nat.reduceLT,Nat.reduceLeDiff,reduceIte,reduceCtorEq,hA',ht2,hok,hln,List.length_map])|(with_reducible exact Qaa _ _ (by kernel_rfl))|(with_reducible refine And.intro (Qaa _ _ (by kernel_rfl)) ?_))
set_option maxHeartbeats 4000000 in
theorem Q9q (l:List Wd) (p:List Sg) (hp: ∀s∈p,okSg s) (hpl:p.length≤1000000) (hv:Qau l=true) (hV:Qbh p=true):Qag Tryz.prog 27 [wsPV l,Qcg p] (.slc (p.map (alV l))):=by
 have h8:=(Qba hv).2
 unfold Qcg
 refine Qac (tb:=[]) 35 [.tmp 4] [0,1,4,5,6,10] mixed Tryz.func27 rfl (by kernel_rfl) (by kernel_rfl) (by kernel_rfl) (by kernel_rfl) ?_
 repeat (first|(simp -implicitDefEqProofs only [go_sem,Nat.reduceAdd,Nat.reduceMul,Nat.reduceEqDiff,Nat.reduceLT,Nat.reduceLeDiff,reduceCtorEq])|(with_reducible exact Qaa _ _ (by kernel_rfl))|(with_reducible refine And.intro (Qaa _ _ (by kernel_rfl)) ?_))
 refine Qar mixed (fun i:{i:Nat // i≤p.length}=>St.of [(0,wsPV l),(1,.slc (p.map sgPV)),(5,.bs 7 3 0 i.1),(6,.int .i64 (i.1:Int))] [(7,{els:=(p.take i.1).map (alV l),esz:=3,ety:=26,fro:=0,live:=true,arr:=true})]) (fun i=>p.length-i.1) ⟨0,Nat.zero_le _⟩ ?_ ?_
 ·refine Qf8 5 7 3 26 rfl rfl rfl (by decide) [(7,7)] rfl ?_ ?_
  ·simp [Qad,lkp,ren1,ren0,Qal,wsPV]
  ·exact⟨⟨rfl,rfl,rfl,rfl,rfl,.inl ⟨rfl,rfl⟩⟩,trivial⟩
 ·rintro⟨i,hi⟩
  simp only
  by_cases hA:i<p.length
  ·skip
   have hA':=ltT hA
   have n0:=nnT i
   have hg:=Qc6 p i hA
   have hsl:((p.map sgPV).take (i+1)).drop i=[.agg [.int .i64 p[i].f,.int .i64 p[i].t,.int .i64 p[i].o,.slc (p[i].x.map (PV.int .i64)),.slc (p[i].y.map (PV.int .i64)),.slc (p[i].z.map (PV.int .i64))]]:=Qwp p i hA
   have hs:=hp _ (List.getElem_mem hA)
   have hvs:=Qcr hV _ hA
   have f1:=Zhl hs hvs
   have f2:=Qgl l (posS p[i] 0) (posS p[i] 1) (posS p[i] 2) p[i].f h8
   have f3:=Qt6 l (posS p[i] 0) (posS p[i] 1) (posS p[i] 2) p[i].f hv
   have hwk:=Qai (a:=i) (by omega)
   have hsn:(p.take (i+1)).map (alV l)=(p.take i).map (alV l)++[Qh0 l (posS p[i] 0) (posS p[i] 1) (posS p[i] 2) p[i].f]:=by rw [Qa1 p i hA,List.map_append];rfl
   have hln:((p.take i).map (alV l)).length=i:=by simp;omega
   have hok:=Qwq l (p.take i)
   have k1:((i+1)*24≤140737488355328)=True:=eq_true (by omega)
   have k2:(i+1≤maxLen)=True:=eq_true (by unfold maxLen;omega)
   have k3:((i:Int)≤((i+1:Nat):Int))=True:=eq_true (by omega)
   have k4:(((i+1:Nat):Int)≤(p.length:Int))=True:=eq_true (by omega)
   have hall:=Q2f p
   generalize hT2:(p.take (i+1)).map (alV l)=T2 at*
   generalize (p.take i).map (alV l)=T at*
   generalize p[i]=s at*
   generalize mask (blW (posS s 0) (posS s 1) (posS s 2) s.f) l=m at*
   unfold Qh0 at f3 hsn
   generalize atW Wd.ux l (posS s 0) (posS s 1) (posS s 2) s.f=u0 at*
   generalize atW Wd.uy l (posS s 0) (posS s 1) (posS s 2) s.f=u1 at*
   generalize atW Wd.uz l (posS s 0) (posS s 1) (posS s 2) s.f=u2 at*
   generalize posS s 0=x0 at*
   generalize posS s 1=x1 at*
   generalize posS s 2=x2 at*
   unfold sgPV Qat at f1
   repeat (first|(simp -implicitDefEqProofs only [go_sem,Nat.reduceAdd,Nat.reduceMul,Nat.reduceEqDiff,Nat.reduceLT,Nat.reduceLeDiff,reduceIte,reduceCtorEq,Nat.reduceBneDiff,hA',n0,hg,hsl,hwk,k3,k4,hall,hln,hok,k1,k2,Int.toNat_natCast,List.length_map])|((with_reducible refine Qab (f1) ?_ ?_ ?_);(with_reducible rfl);rfl)|((with_reducible refine Qab (f3) ?_ ?_ ?_);(with_reducible rfl);rfl)|(with_reducible exact Qaa _ _ (by kernel_rfl))|(with_reducible refine And.intro (Qaa _ _ (by kernel_rfl)) ?_))
   refine⟨⟨i+1,hA⟩,by simp only;omega,Qaj (θ:=[(7,520)]) rfl ?_ ?_⟩
   ·simp [Qad,lkp,ren1,ren0,Qal,wsPV]
   ·simp only [hT2,hsn]
    exact⟨⟨rfl,rfl,rfl,rfl,rfl,.inl ⟨rfl,rfl⟩⟩,trivial⟩
  ·have hA':=ltF hA
   obtain rfl:i=p.length:=by omega
   have ht:p.take p.length=p:=List.take_length
   have ht2:(p.map (alV l)).take p.length=p.map (alV l):=List.take_of_length_le (by simp)
   have hok:=Qwq l p
   rw [ht]
   have hln:(p.map (alV l)).length=p.length:=by simp
   generalize p.map (alV l)=T at*
   repeat (first|(simp -implicitDefEqProofs only [go_sem,Nat.reduceAdd,Nat.reduceMul,Nat.reduceEqDiff,Nat.reduceLT,Nat.reduceLeDiff,reduceIte,reduceCtorEq,hA',ht2,hok,hln,List.length_map])|(with_reducible exact Qaa _ _ (by kernel_rfl))|(with_reducible refine And.intro (Qaa _ _ (by kernel_rfl)) ?_))
end Go.Proofs.YtciddhkfbgkejaaGreatDoor

namespace Go.Vl
open Go.RowKit
theorem Zlz {vs:List (Nat×PV)} {bs:List (Nat×Box)} {o:List (List PV)} {y:Yl} (t:Nat) (ht:lkp vs t=some .nilS):Le (St.ofG vs bs o y) (St.ofG ((t,.slc [])::vs) bs o y):=by
 rintro C a w ⟨ρ,im,h⟩
 refine⟨ρ,im,h.root,h.nt,h.dfr,h.imc,?_,h.rho,h.box,h.inj⟩
 intro t' v' hv'
 simp only [Zgj,lkp]at hv'
 split at hv'
 ·rename_i e
  cases hv'
  rw [e]
  exact(h.var t .nilS (by simpa [St.ofG]using ht)).up
 ·exact h.var t' v' (by simpa [St.ofG]using hv')
end Go.Vl
