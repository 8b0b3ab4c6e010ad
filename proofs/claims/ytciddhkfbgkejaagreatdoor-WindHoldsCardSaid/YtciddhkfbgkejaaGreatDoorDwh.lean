/-
  HI8, HI9, By, HI6, UYD, HI10, HI11, HI12, Dsk, Dsl, Dsm, Dsn, Dso, Dsp, Dwh (merged for the claim).
-/
import Derived.Test.YtciddhkfbgkejaaGreatDoorHM1
import Derived.Test.YtciddhkfbgkejaaGreatDoorUX2
import Derived.Test.YtciddhkfbgkejaaGreatDoorDwi
import Derived.Test.YtciddhkfbgkejaaGreatDoorHI3
import Derived.Test.YtciddhkfbgkejaaGreatDoorHM8
set_option linter.unusedSimpArgs false
set_option linter.unusedVariables false
namespace Go.Proofs.YtciddhkfbgkejaaGreatDoor
open Go.Vl Go.RowKit Go.Dg
theorem Qjk (xs:List Int):((ddB xs).map (PV.int .i64)).take (dd xs).length=(dd xs).map (PV.int .i64):=by
 unfold ddB
 rw [List.map_append,List.take_append_of_le_length (by simp)]
 exact List.take_of_length_le (by simp)
theorem Qjl (xs:List Int):(dd xs).length≤((ddB xs).map (PV.int .i64)).length:=by
 unfold ddB;simp
def aB (a:Nat) (l:List Wd):Box:=iB1 (allE a l)
attribute [go_sem] aB
theorem Qo7 (xs:List Int):((xs.map (PV.int .i64)).flatMap PV.cells).all PV.okCell=true:=Qqx xs
theorem Qs1 (a:Nat) {l:List Wd} {i:Nat} (h:i≤l.length):(allE a (l.take i)).length=2*i:=by rw [Qep];simp;omega
theorem Qm7 (a:Nat) {l:List Wd} {i:Nat} (h:i<l.length):allE a (l.take (i+1))=allE a (l.take i)++Qcz a l[i]:=by rw [Qbo l i h,Qxy]
set_option maxHeartbeats 16000000 in
set_option maxRecDepth 100000 in
theorem Zb8 (l:List Wd) (hv:Qat l=true) (h6:l.length≤6):
  Qag Tryz.prog 58 [wsPV l] (.fn 99 [] [.rp [.slc ((numE 0 l).map (PV.int .i64)),.slc ((numE 1 l).map (PV.int .i64)),.slc ((numE 2 l).map (PV.int .i64)),.slc ((numE 3 l).map (PV.int .i64))]]):=by
 have hvw:=(Qbi hv).1

 refine Qad (tb:=[(1603,[(1000000,7)],[]),(1704,[(1000000,7)],[])]) 65 [.tmp 2] [0,2,3,5,6,7,8,9,10,11,12,13,22,23,50,51] mixed Tryz.func58 rfl (by kernel_rfl) (by kernel_rfl) (by kernel_rfl) (by kernel_rfl) ?_
 repeat (first|(simp -implicitDefEqProofs only [go_sem,Nat.reduceAdd,Nat.reduceMul,Nat.reduceEqDiff,Nat.reduceLT,Nat.reduceLeDiff,reduceCtorEq,List.length_map])|(with_reducible exact Qaa _ _ (by kernel_rfl))|(with_reducible refine And.intro (Qaa _ _ (by kernel_rfl)) ?_))
 refine Qa0 mixed (fun i:{i:Nat // i≤l.length}=>St.of [(3,.bp 100 4 0 0),(10,wsPV l),(11,.int .i64 (l.length:Int)),(12,.int .i64 (i.1:Int))]
  [(100,{els:=[.agg [.bs 10 1 0 (2*i.1),.bs 11 1 0 (2*i.1),.bs 12 1 0 (2*i.1),.bs 13 1 0 (2*i.1)]],esz:=4,ety:=145,fro:=0,live:=true,arr:=false}),(10,aB 0 (l.take i.1)),(11,aB 1 (l.take i.1)),(12,aB 2 (l.take i.1)),(13,aB 3 (l.take i.1))]) (fun i=>l.length-i.1) ⟨0,Nat.zero_le _⟩ ?_ ?_
 ·refine Le.trans (Qju 100 0 10 1 3 rfl rfl rfl rfl rfl rfl (by decide)) (Le.trans (Qju 100 1 11 1 3 rfl rfl rfl rfl rfl rfl (by decide)) (Le.trans (Qju 100 2 12 1 3 rfl rfl rfl rfl rfl rfl (by decide)) (Le.trans (Qju 100 3 13 1 3 rfl rfl rfl rfl rfl rfl (by decide)) (Qan (θ:=[(100,100),(10,10),(11,11),(12,12),(13,13)]) rfl ?_ ?_))))
  ·simp [Qae,lkp,ren1,ren0,Qam,wsPV]
  ·exact⟨⟨rfl,rfl,rfl,rfl,rfl,.inr ⟨rfl,_,_,rfl,rfl,rfl,rfl⟩⟩,⟨rfl,rfl,rfl,rfl,rfl,.inl ⟨rfl,rfl⟩⟩,⟨rfl,rfl,rfl,rfl,rfl,.inl ⟨rfl,rfl⟩⟩,⟨rfl,rfl,rfl,rfl,rfl,.inl ⟨rfl,rfl⟩⟩,⟨rfl,rfl,rfl,rfl,rfl,.inl ⟨rfl,rfl⟩⟩,trivial⟩
 ·rintro⟨i,hi⟩
  simp only
  by_cases hA:i<l.length
  case pos=>
   have hA':=ltT hA
   have n0:=nnT i
   have hg:=Qoz l i hA
   have hwk:=Qak (a:=i) (by omega)
   have hw:=Qg1 (hvw _ (List.getElem_mem hA))
   have s0:=Qm7 0 hA
   have s1:=Qm7 1 hA
   have s2:=Qm7 2 hA
   have s3:=Qm7 3 hA
   have m0:=Qs1 0 (l:=l) (i:=i) hi
   have m1:=Qs1 1 (l:=l) (i:=i) hi
   have m2:=Qs1 2 (l:=l) (i:=i) hi
   have m3:=Qs1 3 (l:=l) (i:=i) hi
   unfold aB
   generalize hN0:allE 0 (l.take (i+1))=N0 at*
   generalize hN1:allE 1 (l.take (i+1))=N1 at*
   generalize hN2:allE 2 (l.take (i+1))=N2 at*
   generalize hN3:allE 3 (l.take (i+1))=N3 at*
   generalize allE 0 (l.take i)=L0 at*
   generalize allE 1 (l.take i)=L1 at*
   generalize allE 2 (l.take i)=L2 at*
   generalize allE 3 (l.take i)=L3 at*
   generalize l[i]=w at*
   have o0:=Qo7 L0
   have o1:=Qo7 L1
   have o2:=Qo7 L2
   have o3:=Qo7 L3
   have x0:IntKind.i64.wrap (w.hx+1)=w.hx+1:=Qai (by omega) (by omega)
   have x1:IntKind.i64.wrap (w.hy+1)=w.hy+1:=Qai (by omega) (by omega)
   have x2:IntKind.i64.wrap (w.hz+1)=w.hz+1:=Qai (by omega) (by omega)
   have k1:((2*i+2)*8≤140737488355328)=True:=eq_true (by omega)
   have k2:(2*i+2≤maxLen)=True:=eq_true (by unfold maxLen;omega)
   have eM:2*i+2=2*(i+1):=by omega
   have h0:=Qfh w.lx w.ly w.lz
   have h1:=Qfh w.hx w.hy w.hz
   repeat (first|(simp -implicitDefEqProofs only [go_sem,Nat.reduceAdd,Nat.reduceMul,Nat.reduceEqDiff,Nat.reduceLT,Nat.reduceLeDiff,reduceCtorEq,hA',n0,hg,Int.toNat_natCast,List.length_map])|((with_reducible refine Qab (h0) ?_ ?_ ?_);(with_reducible rfl);rfl)|((with_reducible refine Qab (h1) ?_ ?_ ?_);(with_reducible rfl);rfl)|(with_reducible exact Qaa _ _ (by kernel_rfl))|(with_reducible refine And.intro (Qaa _ _ (by kernel_rfl)) ?_))
   refine Q3s mixed [0,1,2,3] (St.of [(3,.bp 100 4 0 0),(5,.bp 402 11 0 0),(6,.bp 506 3 0 0),(7,.bp 507 3 0 0),(10,wsPV l),(11,.int .i64 (l.length:Int)),(12,.int .i64 (i:Int)),(22,.int .i64 0)] [(100,{els:=[.agg [.bs 10 1 0 (2*i),.bs 11 1 0 (2*i),.bs 12 1 0 (2*i),.bs 13 1 0 (2*i)]],esz:=4,ety:=145,fro:=0,live:=true,arr:=false}),(10,iB1 (L0)),(11,iB1 (L1)),(12,iB1 (L2)),(13,iB1 (L3)),(402,{els:=[wdPV w],esz:=11,ety:=34,fro:=0,live:=true,arr:=false}),(506,{els:=[.agg [.int .i64 w.lx,.int .i64 w.ly,.int .i64 w.lz]],esz:=3,ety:=87,fro:=0,live:=true,arr:=false}),(507,{els:=[.agg [.int .i64 w.hx,.int .i64 w.hy,.int .i64 w.hz]],esz:=3,ety:=87,fro:=0,live:=true,arr:=false})]) (Qan (θ:=[(100,100),(10,10),(11,11),(12,12),(13,13),(402,402),(506,506),(507,507)]) rfl ?_ ?_) ?_
   ·simp [Qae,lkp,ren1,ren0,Qam,wsPV]
   ·exact⟨⟨rfl,rfl,rfl,rfl,rfl,.inr ⟨rfl,_,_,rfl,rfl,rfl,rfl⟩⟩,⟨rfl,rfl,rfl,rfl,rfl,.inl ⟨rfl,rfl⟩⟩,⟨rfl,rfl,rfl,rfl,rfl,.inl ⟨rfl,rfl⟩⟩,⟨rfl,rfl,rfl,rfl,rfl,.inl ⟨rfl,rfl⟩⟩,⟨rfl,rfl,rfl,rfl,rfl,.inl ⟨rfl,rfl⟩⟩,⟨rfl,rfl,rfl,rfl,rfl,.inr ⟨rfl,_,_,rfl,rfl,rfl,rfl⟩⟩,⟨rfl,rfl,rfl,rfl,rfl,.inr ⟨rfl,_,_,rfl,rfl,rfl,rfl⟩⟩,⟨rfl,rfl,rfl,rfl,rfl,.inr ⟨rfl,_,_,rfl,rfl,rfl,rfl⟩⟩,trivial⟩
   repeat (first|(simp -implicitDefEqProofs only [go_sem,Nat.reduceAdd,Nat.reduceMul,Nat.reduceEqDiff,Nat.reduceLT,Nat.reduceLeDiff,reduceIte,reduceCtorEq,Nat.reduceBneDiff,Int.reduceLT,Int.reduceAdd,nc_2,nc_3,nc_4,wr_1,wr_2,wr_3,x0,x1,x2,k1,k2,o0,o1,o2,o3,m0,m1,m2,m3,List.length_map,Int.toNat_natCast])|(with_reducible exact Qaa _ _ (by kernel_rfl))|(with_reducible refine And.intro (Qaa _ _ (by kernel_rfl)) ?_))
   refine⟨St.of [(3,.bp 100 4 0 0),(5,.bp 402 11 0 0),(6,.bp 506 3 0 0),(7,.bp 507 3 0 0),(10,wsPV l),(11,.int .i64 (l.length:Int)),(12,.int .i64 (i:Int)),(22,.int .i64 1)] [(100,{els:=[.agg [.bs 20 1 0 (2*i+2),.bs 11 1 0 (2*i),.bs 12 1 0 (2*i),.bs 13 1 0 (2*i)]],esz:=4,ety:=145,fro:=0,live:=true,arr:=false}),(20,iB1 (L0++Qcz 0 w)),(11,iB1 (L1)),(12,iB1 (L2)),(13,iB1 (L3)),(402,{els:=[wdPV w],esz:=11,ety:=34,fro:=0,live:=true,arr:=false}),(506,{els:=[.agg [.int .i64 w.lx,.int .i64 w.ly,.int .i64 w.lz]],esz:=3,ety:=87,fro:=0,live:=true,arr:=false}),(507,{els:=[.agg [.int .i64 w.hx,.int .i64 w.hy,.int .i64 w.hz]],esz:=3,ety:=87,fro:=0,live:=true,arr:=false})],Qan (θ:=[(100,100),(20,912),(11,11),(12,12),(13,13),(402,402),(506,506),(507,507)]) rfl ?_ ?_,?_⟩
   ·simp [Qae,lkp,ren1,ren0,Qam,wsPV]
   ·refine⟨⟨rfl,rfl,rfl,rfl,rfl,.inr ⟨rfl,_,_,rfl,rfl,rfl,rfl⟩⟩,⟨rfl,rfl,rfl,rfl,rfl,.inl ⟨rfl,?_⟩⟩,⟨rfl,rfl,rfl,rfl,rfl,.inl ⟨rfl,rfl⟩⟩,⟨rfl,rfl,rfl,rfl,rfl,.inl ⟨rfl,rfl⟩⟩,⟨rfl,rfl,rfl,rfl,rfl,.inl ⟨rfl,rfl⟩⟩,⟨rfl,rfl,rfl,rfl,rfl,.inr ⟨rfl,_,_,rfl,rfl,rfl,rfl⟩⟩,⟨rfl,rfl,rfl,rfl,rfl,.inr ⟨rfl,_,_,rfl,rfl,rfl,rfl⟩⟩,⟨rfl,rfl,rfl,rfl,rfl,.inr ⟨rfl,_,_,rfl,rfl,rfl,rfl⟩⟩,trivial⟩
    simp [Qcz]
   repeat (first|(simp -implicitDefEqProofs only [go_sem,Nat.reduceAdd,Nat.reduceMul,Nat.reduceEqDiff,Nat.reduceLT,Nat.reduceLeDiff,reduceIte,reduceCtorEq,Nat.reduceBneDiff,Int.reduceLE,Int.reduceLT,Int.reduceToNat,Int.reduceAdd,nc_2,nc_3,nc_4,wr_1,wr_2,wr_3,x0,x1,x2,k1,k2,o0,o1,o2,o3,m0,m1,m2,m3,List.length_map,Int.toNat_natCast])|(with_reducible exact Qaa _ _ (by kernel_rfl))|(with_reducible refine And.intro (Qaa _ _ (by kernel_rfl)) ?_))
   refine⟨St.of [(3,.bp 100 4 0 0),(5,.bp 402 11 0 0),(6,.bp 506 3 0 0),(7,.bp 507 3 0 0),(10,wsPV l),(11,.int .i64 (l.length:Int)),(12,.int .i64 (i:Int)),(22,.int .i64 2)] [(100,{els:=[.agg [.bs 20 1 0 (2*i+2),.bs 21 1 0 (2*i+2),.bs 12 1 0 (2*i),.bs 13 1 0 (2*i)]],esz:=4,ety:=145,fro:=0,live:=true,arr:=false}),(20,iB1 (L0++Qcz 0 w)),(21,iB1 (L1++Qcz 1 w)),(12,iB1 (L2)),(13,iB1 (L3)),(402,{els:=[wdPV w],esz:=11,ety:=34,fro:=0,live:=true,arr:=false}),(506,{els:=[.agg [.int .i64 w.lx,.int .i64 w.ly,.int .i64 w.lz]],esz:=3,ety:=87,fro:=0,live:=true,arr:=false}),(507,{els:=[.agg [.int .i64 w.hx,.int .i64 w.hy,.int .i64 w.hz]],esz:=3,ety:=87,fro:=0,live:=true,arr:=false})],Qan (θ:=[(100,100),(20,20),(21,912),(12,12),(13,13),(402,402),(506,506),(507,507)]) rfl ?_ ?_,?_⟩
   ·simp [Qae,lkp,ren1,ren0,Qam,wsPV]
   ·refine⟨⟨rfl,rfl,rfl,rfl,rfl,.inr ⟨rfl,_,_,rfl,rfl,rfl,rfl⟩⟩,⟨rfl,rfl,rfl,rfl,rfl,.inl ⟨rfl,rfl⟩⟩,⟨rfl,rfl,rfl,rfl,rfl,.inl ⟨rfl,?_⟩⟩,⟨rfl,rfl,rfl,rfl,rfl,.inl ⟨rfl,rfl⟩⟩,⟨rfl,rfl,rfl,rfl,rfl,.inl ⟨rfl,rfl⟩⟩,⟨rfl,rfl,rfl,rfl,rfl,.inr ⟨rfl,_,_,rfl,rfl,rfl,rfl⟩⟩,⟨rfl,rfl,rfl,rfl,rfl,.inr ⟨rfl,_,_,rfl,rfl,rfl,rfl⟩⟩,⟨rfl,rfl,rfl,rfl,rfl,.inr ⟨rfl,_,_,rfl,rfl,rfl,rfl⟩⟩,trivial⟩
    simp [Qcz]
   repeat (first|(simp -implicitDefEqProofs only [go_sem,Nat.reduceAdd,Nat.reduceMul,Nat.reduceEqDiff,Nat.reduceLT,Nat.reduceLeDiff,reduceIte,reduceCtorEq,Nat.reduceBneDiff,Int.reduceLE,Int.reduceLT,Int.reduceToNat,Int.reduceAdd,nc_2,nc_3,nc_4,wr_1,wr_2,wr_3,x0,x1,x2,k1,k2,o0,o1,o2,o3,m0,m1,m2,m3,List.length_map,Int.toNat_natCast])|(with_reducible exact Qaa _ _ (by kernel_rfl))|(with_reducible refine And.intro (Qaa _ _ (by kernel_rfl)) ?_))
   refine⟨St.of [(3,.bp 100 4 0 0),(5,.bp 402 11 0 0),(6,.bp 506 3 0 0),(7,.bp 507 3 0 0),(10,wsPV l),(11,.int .i64 (l.length:Int)),(12,.int .i64 (i:Int)),(22,.int .i64 3)] [(100,{els:=[.agg [.bs 20 1 0 (2*i+2),.bs 21 1 0 (2*i+2),.bs 22 1 0 (2*i+2),.bs 13 1 0 (2*i)]],esz:=4,ety:=145,fro:=0,live:=true,arr:=false}),(20,iB1 (L0++Qcz 0 w)),(21,iB1 (L1++Qcz 1 w)),(22,iB1 (L2++Qcz 2 w)),(13,iB1 (L3)),(402,{els:=[wdPV w],esz:=11,ety:=34,fro:=0,live:=true,arr:=false}),(506,{els:=[.agg [.int .i64 w.lx,.int .i64 w.ly,.int .i64 w.lz]],esz:=3,ety:=87,fro:=0,live:=true,arr:=false}),(507,{els:=[.agg [.int .i64 w.hx,.int .i64 w.hy,.int .i64 w.hz]],esz:=3,ety:=87,fro:=0,live:=true,arr:=false})],Qan (θ:=[(100,100),(20,20),(21,21),(22,912),(13,13),(402,402),(506,506),(507,507)]) rfl ?_ ?_,?_⟩
   ·simp [Qae,lkp,ren1,ren0,Qam,wsPV]
   ·refine⟨⟨rfl,rfl,rfl,rfl,rfl,.inr ⟨rfl,_,_,rfl,rfl,rfl,rfl⟩⟩,⟨rfl,rfl,rfl,rfl,rfl,.inl ⟨rfl,rfl⟩⟩,⟨rfl,rfl,rfl,rfl,rfl,.inl ⟨rfl,rfl⟩⟩,⟨rfl,rfl,rfl,rfl,rfl,.inl ⟨rfl,?_⟩⟩,⟨rfl,rfl,rfl,rfl,rfl,.inl ⟨rfl,rfl⟩⟩,⟨rfl,rfl,rfl,rfl,rfl,.inr ⟨rfl,_,_,rfl,rfl,rfl,rfl⟩⟩,⟨rfl,rfl,rfl,rfl,rfl,.inr ⟨rfl,_,_,rfl,rfl,rfl,rfl⟩⟩,⟨rfl,rfl,rfl,rfl,rfl,.inr ⟨rfl,_,_,rfl,rfl,rfl,rfl⟩⟩,trivial⟩
    simp [Qcz]
   repeat (first|(simp -implicitDefEqProofs only [go_sem,Nat.reduceAdd,Nat.reduceMul,Nat.reduceEqDiff,Nat.reduceLT,Nat.reduceLeDiff,reduceIte,reduceCtorEq,Nat.reduceBneDiff,Int.reduceLE,Int.reduceLT,Int.reduceToNat,nc_2,nc_3,nc_4,wr_1,wr_2,wr_3,x0,x1,x2,k1,k2,o0,o1,o2,o3,m0,m1,m2,m3,List.length_map,Int.toNat_natCast,hwk])|(with_reducible exact Qaa _ _ (by kernel_rfl))|(with_reducible refine And.intro (Qaa _ _ (by kernel_rfl)) ?_))
   refine⟨⟨i+1,hA⟩,by simp only;omega,Qan (θ:=[(100,100),(10,20),(11,21),(12,22),(13,1107)]) rfl ?_ ?_⟩
   ·simp [Qae,lkp,ren1,ren0,Qam,wsPV]
   ·simp only [hN0,hN1,hN2,hN3,s0,s1,s2,s3,eM.symm]
    refine⟨⟨rfl,rfl,rfl,rfl,rfl,.inr ⟨rfl,_,_,rfl,rfl,rfl,rfl⟩⟩,⟨rfl,rfl,rfl,rfl,rfl,.inl ⟨rfl,rfl⟩⟩,⟨rfl,rfl,rfl,rfl,rfl,.inl ⟨rfl,rfl⟩⟩,⟨rfl,rfl,rfl,rfl,rfl,.inl ⟨rfl,rfl⟩⟩,⟨rfl,rfl,rfl,rfl,rfl,.inl ⟨rfl,?_⟩⟩,trivial⟩
    simp [Qcz]
  case neg=>
   have hA':=ltF hA
   obtain rfl:i=l.length:=by omega
   have et:l.take l.length=l:=List.take_length
   rw [et]
   unfold aB
   have q0:=Qep 0 l
   have q1:=Qep 1 l
   have q2:=Qep 2 l
   have q3:=Qep 3 l
   have e0:numE 0 l=dd (Qbk (allE 0 l)):=rfl
   have e1:numE 1 l=dd (Qbk (allE 1 l)):=rfl
   have e2:numE 2 l=dd (Qbk (allE 2 l)):=rfl
   have e3:numE 3 l=dd (Qbk (allE 3 l)):=rfl
   rw [e0,e1,e2,e3]
   clear e0 e1 e2 e3
   have hS: ∀xs:List Int,xs.length=2*l.length→Qck Tryz.prog 97 [.bs 1000000 1 0 (2*l.length)] [(1000000,iB1 xs)] (.tup []) [(1000000,iB1 (Qbk xs))]:=fun xs h=>by
    have:=Zhf xs (by omega)
    rw [h]at this;exact this
   have hC: ∀xs:List Int,xs.length=2*l.length→Qck Tryz.prog 98 [.bs 1000000 1 0 (2*l.length)] [(1000000,iB1 (Qbk xs))] (.bs 1000000 1 0 (dd (Qbk xs)).length) [(1000000,iB1 (ddB (Qbk xs)))]:=fun xs h=>by
    have:=Qyk (Qbk xs) (by rw [Qj4];omega)
    rw [Qj4,h]at this;exact this
   have S0:=hS _ q0
   have S1:=hS _ q1
   have S2:=hS _ q2
   have S3:=hS _ q3
   have C0:=hC _ q0
   have C1:=hC _ q1
   have C2:=hC _ q2
   have C3:=hC _ q3
   have t0:=Qjk (Qbk (allE 0 l))
   have t1:=Qjk (Qbk (allE 1 l))
   have t2:=Qjk (Qbk (allE 2 l))
   have t3:=Qjk (Qbk (allE 3 l))
   have u0:=Qo7 (ddB (Qbk (allE 0 l)))
   have u1:=Qo7 (ddB (Qbk (allE 1 l)))
   have u2:=Qo7 (ddB (Qbk (allE 2 l)))
   have u3:=Qo7 (ddB (Qbk (allE 3 l)))
   have v0:((dd (Qbk (allE 0 l))).length≤((ddB (Qbk (allE 0 l))).length))=True:=eq_true (by have:=Qjl (Qbk (allE 0 l));rwa [List.length_map]at this)
   have v1:((dd (Qbk (allE 1 l))).length≤((ddB (Qbk (allE 1 l))).length))=True:=eq_true (by have:=Qjl (Qbk (allE 1 l));rwa [List.length_map]at this)
   have v2:((dd (Qbk (allE 2 l))).length≤((ddB (Qbk (allE 2 l))).length))=True:=eq_true (by have:=Qjl (Qbk (allE 2 l));rwa [List.length_map]at this)
   have v3:((dd (Qbk (allE 3 l))).length≤((ddB (Qbk (allE 3 l))).length))=True:=eq_true (by have:=Qjl (Qbk (allE 3 l));rwa [List.length_map]at this)
   clear hS hC
   generalize dd (Qbk (allE 0 l))=D0 at*
   generalize ddB (Qbk (allE 0 l))=E0 at*
   generalize Qbk (allE 0 l)=F0 at*
   generalize allE 0 l=G0 at*
   generalize dd (Qbk (allE 1 l))=D1 at*
   generalize ddB (Qbk (allE 1 l))=E1 at*
   generalize Qbk (allE 1 l)=F1 at*
   generalize allE 1 l=G1 at*
   generalize dd (Qbk (allE 2 l))=D2 at*
   generalize ddB (Qbk (allE 2 l))=E2 at*
   generalize Qbk (allE 2 l)=F2 at*
   generalize allE 2 l=G2 at*
   generalize dd (Qbk (allE 3 l))=D3 at*
   generalize ddB (Qbk (allE 3 l))=E3 at*
   generalize Qbk (allE 3 l)=F3 at*
   generalize allE 3 l=G3 at*
   repeat (first|(simp -implicitDefEqProofs only [go_sem,Nat.reduceAdd,Nat.reduceMul,Nat.reduceEqDiff,Nat.reduceLT,Nat.reduceLeDiff,reduceCtorEq,hA',List.length_map])|(with_reducible exact Qaa _ _ (by kernel_rfl))|(with_reducible refine And.intro (Qaa _ _ (by kernel_rfl)) ?_))
   have bl7:Nat.ble 1000000 7=false:=rfl
   refine Q3s mixed [0,1,2,3,4] (St.of [(3,.bp 100 4 0 0),(50,.int .i64 0)] [(100,{els:=[.agg [.bs 7 1 0 (2*l.length),.bs 11 1 0 (2*l.length),.bs 12 1 0 (2*l.length),.bs 13 1 0 (2*l.length)]],esz:=4,ety:=145,fro:=0,live:=true,arr:=false}),(7,iB1 G0),(11,iB1 G1),(12,iB1 G2),(13,iB1 G3)]) (Qan (θ:=[(100,100),(7,10),(11,11),(12,12),(13,13)]) rfl ?_ ?_) ?_
   ·simp [Qae,lkp,ren1,ren0,Qam]
   ·exact⟨⟨rfl,rfl,rfl,rfl,rfl,.inr ⟨rfl,_,_,rfl,rfl,rfl,rfl⟩⟩,⟨rfl,rfl,rfl,rfl,rfl,.inl ⟨rfl,rfl⟩⟩,⟨rfl,rfl,rfl,rfl,rfl,.inl ⟨rfl,rfl⟩⟩,⟨rfl,rfl,rfl,rfl,rfl,.inl ⟨rfl,rfl⟩⟩,⟨rfl,rfl,rfl,rfl,rfl,.inl ⟨rfl,rfl⟩⟩,trivial⟩
   repeat (first|(simp -implicitDefEqProofs only [go_sem,Nat.reduceAdd,Nat.reduceMul,Nat.reduceEqDiff,Nat.reduceLT,Nat.reduceLeDiff,reduceCtorEq,Int.reduceLT,Int.reduceAdd,nc_2,nc_3,nc_4,wr_1,wr_2,wr_3,wr_4,bl7,List.length_map,Int.toNat_natCast])|((with_reducible refine Qbj (S0) ?_ ?_ ?_ ?_);(with_reducible rfl);rfl;rfl)|((with_reducible refine Qbj (C0) ?_ ?_ ?_ ?_);(with_reducible rfl);rfl;rfl)|(with_reducible exact Qaa _ _ (by kernel_rfl))|(with_reducible refine And.intro (Qaa _ _ (by kernel_rfl)) ?_))
   refine⟨St.of [(3,.bp 100 4 0 0),(50,.int .i64 1)] [(100,{els:=[.agg [.bs 20 1 0 D0.length,.bs 7 1 0 (2*l.length),.bs 12 1 0 (2*l.length),.bs 13 1 0 (2*l.length)]],esz:=4,ety:=145,fro:=0,live:=true,arr:=false}),(20,iB1 E0),(7,iB1 G1),(12,iB1 G2),(13,iB1 G3)],Qan (θ:=[(100,100),(20,7),(7,11),(12,12),(13,13)]) rfl ?_ ?_,?_⟩
   ·simp [Qae,lkp,ren1,ren0,Qam]
   ·exact⟨⟨rfl,rfl,rfl,rfl,rfl,.inr ⟨rfl,_,_,rfl,rfl,rfl,rfl⟩⟩,⟨rfl,rfl,rfl,rfl,rfl,.inl ⟨rfl,rfl⟩⟩,⟨rfl,rfl,rfl,rfl,rfl,.inl ⟨rfl,rfl⟩⟩,⟨rfl,rfl,rfl,rfl,rfl,.inl ⟨rfl,rfl⟩⟩,⟨rfl,rfl,rfl,rfl,rfl,.inl ⟨rfl,rfl⟩⟩,trivial⟩
   repeat (first|(simp -implicitDefEqProofs only [go_sem,Nat.reduceAdd,Nat.reduceMul,Nat.reduceEqDiff,Nat.reduceLT,Nat.reduceLeDiff,reduceCtorEq,Int.reduceLE,Int.reduceLT,Int.reduceToNat,Int.reduceAdd,nc_2,nc_3,nc_4,wr_1,wr_2,wr_3,wr_4,bl7,List.length_map,Int.toNat_natCast])|((with_reducible refine Qbj (S1) ?_ ?_ ?_ ?_);(with_reducible rfl);rfl;rfl)|((with_reducible refine Qbj (C1) ?_ ?_ ?_ ?_);(with_reducible rfl);rfl;rfl)|(with_reducible exact Qaa _ _ (by kernel_rfl))|(with_reducible refine And.intro (Qaa _ _ (by kernel_rfl)) ?_))
   refine⟨St.of [(3,.bp 100 4 0 0),(50,.int .i64 2)] [(100,{els:=[.agg [.bs 20 1 0 D0.length,.bs 21 1 0 D1.length,.bs 7 1 0 (2*l.length),.bs 13 1 0 (2*l.length)]],esz:=4,ety:=145,fro:=0,live:=true,arr:=false}),(20,iB1 E0),(21,iB1 E1),(7,iB1 G2),(13,iB1 G3)],Qan (θ:=[(100,100),(20,20),(21,7),(7,12),(13,13)]) rfl ?_ ?_,?_⟩
   ·simp [Qae,lkp,ren1,ren0,Qam]
   ·exact⟨⟨rfl,rfl,rfl,rfl,rfl,.inr ⟨rfl,_,_,rfl,rfl,rfl,rfl⟩⟩,⟨rfl,rfl,rfl,rfl,rfl,.inl ⟨rfl,rfl⟩⟩,⟨rfl,rfl,rfl,rfl,rfl,.inl ⟨rfl,rfl⟩⟩,⟨rfl,rfl,rfl,rfl,rfl,.inl ⟨rfl,rfl⟩⟩,⟨rfl,rfl,rfl,rfl,rfl,.inl ⟨rfl,rfl⟩⟩,trivial⟩
   repeat (first|(simp -implicitDefEqProofs only [go_sem,Nat.reduceAdd,Nat.reduceMul,Nat.reduceEqDiff,Nat.reduceLT,Nat.reduceLeDiff,reduceCtorEq,Int.reduceLE,Int.reduceLT,Int.reduceToNat,Int.reduceAdd,nc_2,nc_3,nc_4,wr_1,wr_2,wr_3,wr_4,bl7,List.length_map,Int.toNat_natCast])|((with_reducible refine Qbj (S2) ?_ ?_ ?_ ?_);(with_reducible rfl);rfl;rfl)|((with_reducible refine Qbj (C2) ?_ ?_ ?_ ?_);(with_reducible rfl);rfl;rfl)|(with_reducible exact Qaa _ _ (by kernel_rfl))|(with_reducible refine And.intro (Qaa _ _ (by kernel_rfl)) ?_))
   refine⟨St.of [(3,.bp 100 4 0 0),(50,.int .i64 3)] [(100,{els:=[.agg [.bs 20 1 0 D0.length,.bs 21 1 0 D1.length,.bs 22 1 0 D2.length,.bs 7 1 0 (2*l.length)]],esz:=4,ety:=145,fro:=0,live:=true,arr:=false}),(20,iB1 E0),(21,iB1 E1),(22,iB1 E2),(7,iB1 G3)],Qan (θ:=[(100,100),(20,20),(21,21),(22,7),(7,13)]) rfl ?_ ?_,?_⟩
   ·simp [Qae,lkp,ren1,ren0,Qam]
   ·exact⟨⟨rfl,rfl,rfl,rfl,rfl,.inr ⟨rfl,_,_,rfl,rfl,rfl,rfl⟩⟩,⟨rfl,rfl,rfl,rfl,rfl,.inl ⟨rfl,rfl⟩⟩,⟨rfl,rfl,rfl,rfl,rfl,.inl ⟨rfl,rfl⟩⟩,⟨rfl,rfl,rfl,rfl,rfl,.inl ⟨rfl,rfl⟩⟩,⟨rfl,rfl,rfl,rfl,rfl,.inl ⟨rfl,rfl⟩⟩,trivial⟩
   repeat (first|(simp -implicitDefEqProofs only [go_sem,Nat.reduceAdd,Nat.reduceMul,Nat.reduceEqDiff,Nat.reduceLT,Nat.reduceLeDiff,reduceCtorEq,Int.reduceLE,Int.reduceLT,Int.reduceToNat,Int.reduceAdd,nc_2,nc_3,nc_4,wr_1,wr_2,wr_3,wr_4,bl7,List.length_map,Int.toNat_natCast])|((with_reducible refine Qbj (S3) ?_ ?_ ?_ ?_);(with_reducible rfl);rfl;rfl)|((with_reducible refine Qbj (C3) ?_ ?_ ?_ ?_);(with_reducible rfl);rfl;rfl)|(with_reducible exact Qaa _ _ (by kernel_rfl))|(with_reducible refine And.intro (Qaa _ _ (by kernel_rfl)) ?_))
   refine⟨St.of [(3,.bp 100 4 0 0),(50,.int .i64 4)] [(100,{els:=[.agg [.bs 20 1 0 D0.length,.bs 21 1 0 D1.length,.bs 22 1 0 D2.length,.bs 23 1 0 D3.length]],esz:=4,ety:=145,fro:=0,live:=true,arr:=false}),(20,iB1 E0),(21,iB1 E1),(22,iB1 E2),(23,iB1 E3)],Qan (θ:=[(100,100),(20,20),(21,21),(22,22),(23,7)]) rfl ?_ ?_,?_⟩
   ·simp [Qae,lkp,ren1,ren0,Qam]
   ·exact⟨⟨rfl,rfl,rfl,rfl,rfl,.inr ⟨rfl,_,_,rfl,rfl,rfl,rfl⟩⟩,⟨rfl,rfl,rfl,rfl,rfl,.inl ⟨rfl,rfl⟩⟩,⟨rfl,rfl,rfl,rfl,rfl,.inl ⟨rfl,rfl⟩⟩,⟨rfl,rfl,rfl,rfl,rfl,.inl ⟨rfl,rfl⟩⟩,⟨rfl,rfl,rfl,rfl,rfl,.inl ⟨rfl,rfl⟩⟩,trivial⟩
   repeat (first|(simp -implicitDefEqProofs only [go_sem,Nat.reduceAdd,Nat.reduceMul,Nat.reduceEqDiff,Nat.reduceLT,Nat.reduceLeDiff,reduceIte,reduceCtorEq,Int.reduceLT,nc_2,nc_3,nc_4,wr_1,wr_2,wr_3,wr_4,bl7,List.length_map,Int.toNat_natCast,t0,t1,t2,t3,u0,u1,u2,u3,v0,v1,v2,v3])|(with_reducible exact Qaa _ _ (by kernel_rfl))|(with_reducible refine And.intro (Qaa _ _ (by kernel_rfl)) ?_))
end Go.Proofs.YtciddhkfbgkejaaGreatDoor

namespace Go.Proofs.YtciddhkfbgkejaaGreatDoor
open Go.Vl Go.RowKit Go.Dg
theorem Qyc (l:List Wd) (Q:List (Int×Int×Int×Int)) (k:Nat) (h:k<Q.length):Qfd l 0 (Q.take (k+1))=max (Qfd l 0 (Q.take k)) (sqL l Q[k]):=by
 rw [Qbo Q k h,Qox];rfl
def stB (l:List Wd) (Q:List (Int×Int×Int×Int)) (k:Nat):List (Nat×Box):=[(1000000,{els:=[wsPV l],esz:=1,ety:=22,fro:=0,live:=true,arr:=false}),(1000001,{els:=[.int .i64 (Qfd l 0 (Q.take k))],esz:=1,ety:=3,fro:=0,live:=true,arr:=false})]
theorem Zju (l:List Wd) (Q:List (Int×Int×Int×Int)) (k:Nat): ∀b∈ [1000000,1000001],(lkp (stB l Q k) b).isSome=true:=by simp [stB,lkp]
theorem Qjm (k:Nat) {l:List Wd} (h:l.length≤8):(numE k l).length≤100000:=by
 have h1:=Qxm (Qbk (allE k l))
 have h2:=Qj4 (allE k l)
 have h3:=Qep k l
 unfold numE;omega
set_option maxHeartbeats 8000000 in
set_option maxRecDepth 100000 in
theorem Qgo (l:List Wd) (hl:l.length≤maxLen) (h6:Qat l=true→l.length≤6):Qag Tryz.prog 21 [wsPV l] (if Qat l=true then .tup [.int .i64 (Qfe l),.int .i64 0]else .tup [.int .i64 0,.int .i64 2]):=by
 have v1:=Qka l hl
 cases hv:Qat l with
 |false=>
  rw [hv]at v1
  refine Qad (tb:=[]) 41 [.tmp 2,.tmp 3] [0,1,2,3,4,5,6,7,10,12,13,14] mixed Tryz.func21 rfl (by kernel_rfl) (by kernel_rfl) (by kernel_rfl) (by kernel_rfl) ?_
  repeat (first|(simp -implicitDefEqProofs only [go_sem,Nat.reduceAdd,Nat.reduceMul,Nat.reduceEqDiff,Nat.reduceLT,Nat.reduceLeDiff,reduceCtorEq,Bool.not_false,Bool.false_eq_true])|((with_reducible refine Qab (v1) ?_ ?_ ?_);(with_reducible rfl);rfl)|(with_reducible exact Qaa _ _ (by kernel_rfl))|(with_reducible refine And.intro (Qaa _ _ (by kernel_rfl)) ?_))
 |true=>
 rw [hv]at v1
 simp only [if_true]
 have hc:=Zb8 l hv (h6 hv)
 have h8:=(Qbi hv).2
 have hY:=Q4n (numE 0 l) (numE 1 l) (numE 2 l) (numE 3 l) (Qjm 0 h8) (Qjm 1 h8) (Qjm 2 h8) (Qjm 3 h8)
 have eQ:c0 (numE 0 l) (numE 1 l) (numE 2 l) (numE 3 l)=Qin l:=rfl
 rw [eQ]at hY
 unfold Qfe
 generalize Qin l=Q at*
 have hlen:(Q.map oP).length=Q.length:=List.length_map _
 have hmin:min (Q.map oP).length (Q.length+1)=Q.length:=by rw [hlen];omega
 generalize (numE 0 l).map (PV.int .i64)=E0 at*
 generalize (numE 1 l).map (PV.int .i64)=E1 at*
 generalize (numE 2 l).map (PV.int .i64)=E2 at*
 generalize (numE 3 l).map (PV.int .i64)=E3 at*
 refine Qad (tb:=[]) 41 [.tmp 2,.tmp 3] [0,1,2,3,4,5,6,7,10,12,13,14] mixed Tryz.func21 rfl (by kernel_rfl) (by kernel_rfl) (by kernel_rfl) (by kernel_rfl) ?_
 repeat (first|(simp -implicitDefEqProofs only [go_sem,Nat.reduceAdd,Nat.reduceMul,Nat.reduceEqDiff,Nat.reduceLT,Nat.reduceLeDiff,reduceCtorEq,Bool.not_true])|((with_reducible refine Qab (v1) ?_ ?_ ?_);(with_reducible rfl);rfl)|((with_reducible refine Qab (hc) ?_ ?_ ?_);(with_reducible rfl);rfl)|(with_reducible exact Qaa _ _ (by kernel_rfl))|(with_reducible refine And.intro (Qaa _ _ (by kernel_rfl)) ?_))
 refine Zgd mixed hY rfl rfl _ rfl [(1000000,0),(1000001,300)] [1000000,1000001] rfl [(1,.bp 1000000 1 0 0),(4,.bp 1000001 1 0 0)] (stB l Q) rfl rfl ?_ ?_ ?_ Q.length .normal (fun h=>by rw [hlen]at h;omega) (fun k _ _=>Zju l Q k) (fun k args h=> ?_) rfl (fun k args h hk=> ?_)
  [(0,1000000),(300,1000001)] [(1,.bp 0 1 0 0),(4,.bp 300 1 0 0)] [(0,{els:=[wsPV l],esz:=1,ety:=22,fro:=0,live:=true,arr:=false}),(300,{els:=[.int .i64 (Qfd l 0 Q)],esz:=1,ety:=3,fro:=0,live:=true,arr:=false})] rfl rfl ?_ ?_ (fun _=> ?_) (fun h=>by rw [hlen]at h;omega)
 ·simp [Qae,lkp,ren1,ren0,Qam]
 ·simp only [stB,List.take_zero,Qfd]
  exact⟨⟨rfl,rfl,rfl,rfl,rfl,.inr ⟨rfl,_,_,rfl,rfl,rfl,rfl⟩⟩,⟨rfl,rfl,rfl,rfl,rfl,.inr ⟨rfl,_,_,rfl,rfl,rfl,rfl⟩⟩,trivial⟩
 ·simp [Qae,lkp,ren1,ren0,Qam,Qln]
 ·simp only [List.getElem?_map,Option.map_eq_some_iff]at h
  obtain⟨x, -,rfl⟩:=h
  rfl
 ·simp only [List.getElem?_map,Option.map_eq_some_iff]at h
  obtain⟨q,hx,rfl⟩:=h
  obtain⟨hk2,e⟩:=List.getElem?_eq_some_iff.1 hx
  have hsn:=Qyc l Q k hk2
  rw [e]at hsn
  obtain⟨x,y,z,t⟩:=q
  have f1:=Qg5 l x y z t h8
  have f2:=Qqz l x y z t hv
  have a0:=Ql1 (g:=Wd.ux) (.inl rfl) hv x y z t
  have a1:=Ql1 (g:=Wd.uy) (.inr (.inl rfl)) hv x y z t
  have a2:=Ql1 (g:=Wd.uz) (.inr (.inr rfl)) hv x y z t
  have b0:=Ql2 a0
  have b1:=Ql2 a1
  have b2:=Ql2 a2
  have es:sqL l (x,y,z,t)=atW Wd.ux l x y z t*atW Wd.ux l x y z t+atW Wd.uy l x y z t*atW Wd.uy l x y z t+atW Wd.uz l x y z t*atW Wd.uz l x y z t:=rfl
  have eo:oP (x,y,z,t)=[.agg [.int .i64 x,.int .i64 y,.int .i64 z],.int .i64 t]:=rfl
  rw [es]at hsn
  rw [eo]
  unfold Qm5 at f2
  clear es eo e hx
  generalize mask (blW x y z t) l=m at*
  generalize atW Wd.ux l x y z t=u0 at*
  generalize atW Wd.uy l x y z t=u1 at*
  generalize atW Wd.uz l x y z t=u2 at*
  have w0:IntKind.i64.wrap (u0*u0)=u0*u0:=Qai (by omega) (by omega)
  have w1:IntKind.i64.wrap (u1*u1)=u1*u1:=Qai (by omega) (by omega)
  have w2:IntKind.i64.wrap (u2*u2)=u2*u2:=Qai (by omega) (by omega)
  have w3:IntKind.i64.wrap (u0*u0+u1*u1)=u0*u0+u1*u1:=Qai (by omega) (by omega)
  have w4:IntKind.i64.wrap (u0*u0+u1*u1+u2*u2)=u0*u0+u1*u1+u2*u2:=Qai (by omega) (by omega)
  simp only [stB]
  generalize hM2:Qfd l 0 (Q.take (k+1))=M2 at*
  generalize Qfd l 0 (Q.take k)=M at*
  repeat (first|(simp -implicitDefEqProofs only [go_sem,Nat.reduceAdd,Nat.reduceMul,Nat.reduceEqDiff,Nat.reduceLT,Nat.reduceLeDiff,reduceCtorEq,pvars,List.toList_toArray])|(with_reducible exact Qaa _ _ (by kernel_rfl))|(with_reducible refine And.intro (Qaa _ _ (by kernel_rfl)) ?_))
  refine⟨by simp [lkp],?_⟩
  repeat (first|(simp -implicitDefEqProofs only [go_sem,Nat.reduceAdd,Nat.reduceMul,Nat.reduceEqDiff,Nat.reduceLT,Nat.reduceLeDiff,reduceCtorEq,w0,w1,w2,w3,w4,Zlo])|((with_reducible refine Qab (f1) ?_ ?_ ?_);(with_reducible rfl);rfl)|((with_reducible refine Qab (f2) ?_ ?_ ?_);(with_reducible rfl);rfl)|(with_reducible exact Qaa _ _ (by kernel_rfl))|(with_reducible refine And.intro (Qaa _ _ (by kernel_rfl)) ?_))
  refine⟨by omega,?_⟩
  refine Qan (θ:=[(1000000,1000000),(1000001,1000001)]) rfl ?_ ?_
  ·simp [Qae,lkp,ren1,ren0,Qam]
  ·simp only [stB,hM2,hsn]
   exact⟨⟨rfl,rfl,rfl,rfl,rfl,.inr ⟨rfl,_,_,rfl,rfl,rfl,rfl⟩⟩,⟨rfl,rfl,rfl,rfl,rfl,.inr ⟨rfl,_,_,rfl,rfl,rfl,rfl⟩⟩,trivial⟩
 ·simp [Qae,lkp,ren1,ren0,Qam]
 ·rw [hmin]
  simp only [stB,List.take_length]
  exact⟨⟨rfl,rfl,rfl,rfl,rfl,.inr ⟨rfl,_,_,rfl,rfl,rfl,rfl⟩⟩,⟨rfl,rfl,rfl,rfl,rfl,.inr ⟨rfl,_,_,rfl,rfl,rfl,rfl⟩⟩,trivial⟩
 ·repeat (first|(simp -implicitDefEqProofs only [go_sem,Nat.reduceAdd,Nat.reduceMul,Nat.reduceEqDiff,Nat.reduceLT,Nat.reduceLeDiff,reduceCtorEq])|(with_reducible exact Qaa _ _ (by kernel_rfl))|(with_reducible refine And.intro (Qaa _ _ (by kernel_rfl)) ?_))
end Go.Proofs.YtciddhkfbgkejaaGreatDoor

namespace Go.Vl
open Go.RowKit
theorem Zgg {st:St} {t b esz off len:Nat} {B:Box} (ht:st.var t=some (.bs b esz off len)) (hB:st.box b=some B) (ha:B.arr=true) (he:B.esz=esz) (hn:off+len≤B.els.length):
  Le st ((st.setBox b {B with fro:=max B.fro (off+len),live:=B.live&&true}).setVar t (.slc ((B.els.drop off).take len))):=by
 rintro C a w ⟨ρ,im,h⟩
 obtain⟨x,hx,hr⟩:=Qpn h (h.var t _ ht) hB ha he hn
 have h1:=h.hold hx hB hn true (.inl rfl)
 refine⟨ρ,_,h1.root,h1.nt,h1.dfr,h1.imc,?_,h1.rho,h1.box,h1.inj⟩
 intro t' v' hv'
 simp only [St.setVar,upd]at hv'
 split at hv'
 ·rename_i e
  cases hv'
  subst e
  exact .ext _ _ hr
 ·exact h1.var t' v' hv'
theorem Qe8 {vs:List (Nat×PV)} {bs:List (Nat×Box)} {o:List (List PV)} {y:Yl} (t:Nat) {b esz off len:Nat} {B:Box} (ht:lkp vs t=some (.bs b esz off len)) (hB:lkp bs b=some B)
  (ha:B.arr=true) (he:B.esz=esz) (hn:off+len≤B.els.length):
  Le (St.ofG vs bs o y) (St.ofG ((t,.slc ((B.els.drop off).take len))::vs) ((b,{B with fro:=max B.fro (off+len),live:=B.live&&true})::bs) o y):=Zgg (st:=St.ofG vs bs o y) ht hB ha he hn
end Go.Vl

namespace Go.Proofs.YtciddhkfbgkejaaGreatDoor
open Go.Vl Go.RowKit Go.Dg
def posS (s:Sg) (i:Nat):Int:=rnd (exQ [s] s.f i) (exO [s] s.f)
def alV (l:List Wd) (s:Sg):PV:=Qm5 l (posS s 0) (posS s 1) (posS s 2) s.f
theorem Qkc {s:Sg} (h:Qbh s=true):Qbn [s]=true:=by
 unfold Qbn vpTo
 simp [vpAt,h,List.range_succ]
theorem Qo6 {s:Sg} (h:Qbh s=true):lasts [s] s.f=true:=by
 have:=(Qbb h).1
 simp only [lasts,pBeg,pEnd,Bool.and_eq_true,decide_eq_true_eq]
 simp
 omega
theorem Zg4 {s:Sg} (hs:okSg s) (h:Qbh s=true):Qag Tryz.prog 29 [.slc [sgPV s],.int .i64 s.f] (.tup [.agg [.int .i64 (posS s 0),.int .i64 (posS s 1),.int .i64 (posS s 2)],.int .i64 0]):=by
 have h1:=Zg6 [s] s.f (fun x hx=>by rw [List.mem_singleton.1 hx];exact hs) (by simp) hs.f
 unfold atPV at h1
 rw [if_pos (Qkc h),if_pos (Qo6 h)]at h1
 exact h1
theorem Q4m (p:List Sg) (i:Nat) (h:i<p.length):((p.map sgPV).take (i+1)).drop i=[sgPV p[i]]:=by
 rw [Qbo _ i (by simpa using h),List.drop_append_of_le_length (by simp;omega),List.drop_eq_nil_of_le (by simp;omega)];simp
theorem Zb6 (p:List Sg):((p.map sgPV).all fun x=>x.cells.length==6)=true:=by rw [List.all_map,List.all_eq_true];intro _ _;rfl
theorem Zas (l:List Wd) (T:List Sg):((T.map (alV l)).flatMap PV.cells).all PV.okCell=true:=by
 rw [List.all_eq_true];intro c hc
 simp only [List.mem_flatMap,List.mem_map]at hc
 obtain⟨_,⟨s,_,rfl⟩,h⟩:=hc
 simp only [alV,Qm5,PV.cells,List.mem_cons,List.not_mem_nil,or_false]at h
 rcases h with rfl|rfl|rfl<;>rfl
set_option maxHeartbeats 4000000 in
theorem Qyb (l:List Wd) (p:List Sg) (hp: ∀s∈p,okSg s) (hl:l.length≤maxLen) (hpl:p.length≤1000000):Qag Tryz.prog 24 [wsPV l,Qdz p] (if Qat l=true∧Qbn p=true then .tup [.slc (p.map (alV l)),.int .i64 0]else .tup [.slc [],.int .i64 2]):=by
 have v1:=Qka l hl
 have v2:=Qio p hp hpl
 unfold Qdz at v2 ⊢
 cases hv:Qat l with
 |false=>
  rw [hv]at v1
  refine Qad (tb:=[]) 49 [.tmp 4,.tmp 5] [0,1,4,5,6,7,8,9,18,19,20,21,22] mixed Tryz.func24 rfl (by kernel_rfl) (by kernel_rfl) (by kernel_rfl) (by kernel_rfl) ?_
  repeat (first|(simp -implicitDefEqProofs only [go_sem,Nat.reduceAdd,Nat.reduceMul,Nat.reduceEqDiff,Nat.reduceLT,Nat.reduceLeDiff,reduceCtorEq,Bool.not_false,Bool.false_eq_true,false_and])|((with_reducible refine Qab (v1) ?_ ?_ ?_);(with_reducible rfl);rfl)|(with_reducible exact Qaa _ _ (by kernel_rfl))|(with_reducible refine And.intro (Qaa _ _ (by kernel_rfl)) ?_))
 |true=>
 cases hV:Qbn p with
 |false=>
  rw [hv]at v1
  rw [hV]at v2
  refine Qad (tb:=[]) 49 [.tmp 4,.tmp 5] [0,1,4,5,6,7,8,9,18,19,20,21,22] mixed Tryz.func24 rfl (by kernel_rfl) (by kernel_rfl) (by kernel_rfl) (by kernel_rfl) ?_
  repeat (first|(simp -implicitDefEqProofs only [go_sem,Nat.reduceAdd,Nat.reduceMul,Nat.reduceEqDiff,Nat.reduceLT,Nat.reduceLeDiff,reduceCtorEq,Bool.not_false,Bool.not_true,Bool.false_eq_true,and_false])|((with_reducible refine Qab (v1) ?_ ?_ ?_);(with_reducible rfl);rfl)|((with_reducible refine Qab (v2) ?_ ?_ ?_);(with_reducible rfl);rfl)|(with_reducible exact Qaa _ _ (by kernel_rfl))|(with_reducible refine And.intro (Qaa _ _ (by kernel_rfl)) ?_))
 |true=>
  rw [hv]at v1
  rw [hV]at v2
  rw [if_pos ⟨rfl,rfl⟩]
  have h8:=(Qbi hv).2
  refine Qad (tb:=[]) 49 [.tmp 4,.tmp 5] [0,1,4,5,6,7,8,9,18,19,20,21,22] mixed Tryz.func24 rfl (by kernel_rfl) (by kernel_rfl) (by kernel_rfl) (by kernel_rfl) ?_
  repeat (first|(simp -implicitDefEqProofs only [go_sem,Nat.reduceAdd,Nat.reduceMul,Nat.reduceEqDiff,Nat.reduceLT,Nat.reduceLeDiff,reduceCtorEq,Bool.not_true,List.length_map])|((with_reducible refine Qab (v1) ?_ ?_ ?_);(with_reducible rfl);rfl)|((with_reducible refine Qab (v2) ?_ ?_ ?_);(with_reducible rfl);rfl)|(with_reducible exact Qaa _ _ (by kernel_rfl))|(with_reducible refine And.intro (Qaa _ _ (by kernel_rfl)) ?_))
  refine Qa0 mixed (fun i:{i:Nat // i≤p.length}=>St.of [(0,wsPV l),(1,.slc (p.map sgPV)),(6,.bs 7 3 0 i.1),(19,.slc (p.map sgPV)),(20,.int .i64 (p.length:Int)),(21,.int .i64 (i.1:Int))] [(7,{els:=(p.take i.1).map (alV l),esz:=3,ety:=26,fro:=0,live:=true,arr:=true})]) (fun i=>p.length-i.1) ⟨0,Nat.zero_le _⟩ ?_ ?_
  ·refine Zga 6 7 3 26 rfl rfl rfl (by decide) [(7,7)] rfl ?_ ?_
   ·simp [Qae,lkp,ren1,ren0,Qam,wsPV]
   ·exact⟨⟨rfl,rfl,rfl,rfl,rfl,.inl ⟨rfl,rfl⟩⟩,trivial⟩
  ·rintro⟨i,hi⟩
   simp only
   by_cases hA:i<p.length
   ·skip
    have hA':=ltT hA
    have n0:=nnT i
    have hg:=Qer p i hA
    have hsl:((p.map sgPV).take (i+1)).drop i=[.agg [.int .i64 p[i].f,.int .i64 p[i].t,.int .i64 p[i].o,.slc (p[i].x.map (PV.int .i64)),.slc (p[i].y.map (PV.int .i64)),.slc (p[i].z.map (PV.int .i64))]]:=Q4m p i hA
    have hs:=hp _ (List.getElem_mem hA)
    have hvs:=Qcp hV _ hA
    have f1:=Zg4 hs hvs
    have f2:=Qg5 l (posS p[i] 0) (posS p[i] 1) (posS p[i] 2) p[i].f h8
    have f3:=Qqz l (posS p[i] 0) (posS p[i] 1) (posS p[i] 2) p[i].f hv
    have hwk:=Qak (a:=i) (by omega)
    have hsn:(p.take (i+1)).map (alV l)=(p.take i).map (alV l)++[Qm5 l (posS p[i] 0) (posS p[i] 1) (posS p[i] 2) p[i].f]:=by rw [Qbo p i hA,List.map_append];rfl
    have hln:((p.take i).map (alV l)).length=i:=by simp;omega
    have hok:=Zas l (p.take i)
    have k1:((i+1)*24≤140737488355328)=True:=eq_true (by omega)
    have k2:(i+1≤maxLen)=True:=eq_true (by unfold maxLen;omega)
    have k3:((i:Int)≤((i+1:Nat):Int))=True:=eq_true (by omega)
    have k4:(((i+1:Nat):Int)≤(p.length:Int))=True:=eq_true (by omega)
    have hall:=Zb6 p
    generalize hT2:(p.take (i+1)).map (alV l)=T2 at*
    generalize (p.take i).map (alV l)=T at*
    generalize p[i]=s at*
    generalize mask (blW (posS s 0) (posS s 1) (posS s 2) s.f) l=m at*
    unfold Qm5 at f3 hsn
    generalize atW Wd.ux l (posS s 0) (posS s 1) (posS s 2) s.f=u0 at*
    generalize atW Wd.uy l (posS s 0) (posS s 1) (posS s 2) s.f=u1 at*
    generalize atW Wd.uz l (posS s 0) (posS s 1) (posS s 2) s.f=u2 at*
    generalize posS s 0=x0 at*
    generalize posS s 1=x1 at*
    generalize posS s 2=x2 at*
    unfold sgPV Qa9 at f1
    repeat (first|(simp -implicitDefEqProofs only [go_sem,Nat.reduceAdd,Nat.reduceMul,Nat.reduceEqDiff,Nat.reduceLT,Nat.reduceLeDiff,reduceCtorEq,hA',n0,hg,hsl,hwk,k3,k4,hall,Int.toNat_natCast,List.length_map])|((with_reducible refine Qab (f1) ?_ ?_ ?_);(with_reducible rfl);rfl)|(with_reducible exact Qaa _ _ (by kernel_rfl))|(with_reducible refine And.intro (Qaa _ _ (by kernel_rfl)) ?_))
    repeat (first|(simp -implicitDefEqProofs only [go_sem,Nat.reduceAdd,Nat.reduceMul,Nat.reduceEqDiff,Nat.reduceLT,Nat.reduceLeDiff,reduceIte,reduceCtorEq,Nat.reduceBneDiff,hln,hok,hwk,k1,k2,Int.toNat_natCast,List.length_map])|((with_reducible refine Qab (f2) ?_ ?_ ?_);(with_reducible rfl);rfl)|((with_reducible refine Qab (f3) ?_ ?_ ?_);(with_reducible rfl);rfl)|(with_reducible exact Qaa _ _ (by kernel_rfl))|(with_reducible refine And.intro (Qaa _ _ (by kernel_rfl)) ?_))
    refine⟨⟨i+1,hA⟩,by simp only;omega,Qan (θ:=[(7,809)]) rfl ?_ ?_⟩
    ·simp [Qae,lkp,ren1,ren0,Qam,wsPV]
    ·simp only [hT2,hsn]
     exact⟨⟨rfl,rfl,rfl,rfl,rfl,.inl ⟨rfl,rfl⟩⟩,trivial⟩
   ·have hA':=ltF hA
    obtain rfl:i=p.length:=by omega
    have ht:p.take p.length=p:=List.take_length
    have ht2:(p.map (alV l)).take p.length=p.map (alV l):=List.take_of_length_le (by simp)
    have hok:=Zas l p
    rw [ht]
    have hln:(p.map (alV l)).length=p.length:=by simp
    generalize p.map (alV l)=T at*
    repeat (first|(simp -implicitDefEqProofs only [go_sem,Nat.reduceAdd,Nat.reduceMul,Nat.reduceEqDiff,Nat.reduceLT,Nat.reduceLeDiff,reduceIte,reduceCtorEq,hA',ht2,hok,hln,List.length_map])|(with_reducible exact Qaa _ _ (by kernel_rfl))|(with_reducible refine And.intro (Qaa _ _ (by kernel_rfl)) ?_))
end Go.Proofs.YtciddhkfbgkejaaGreatDoor

namespace Go.Vl
open Go.RowKit
end Go.Vl

namespace Go.Proofs.YtciddhkfbgkejaaGreatDoor
open Go.Vl Go.RowKit Go.Dg
theorem Qx2 (L:List Int) (i:Nat) (h:i<L.length):(L.map (PV.int .i64))[i]? =some (.int .i64 L[i]):=by rw [List.getElem?_map,List.getElem?_eq_getElem h];rfl
structure InsI (n:Int) (l:List Int) (i:Nat) (b:Bool):Prop where
 hi:i≤l.length
 no: ∀x∈l.take i,x≠n
 low:b=false→ ∀x∈l.take i,x<n
 put:b=true→putI n l=putI n (l.take i)++l.drop i
 up:b=true→ ∀x∈l.drop i,n<x
end Go.Proofs.YtciddhkfbgkejaaGreatDoor

namespace Go.Proofs.YtciddhkfbgkejaaGreatDoor
open Go.Vl Go.RowKit Go.Dg
theorem Zbu (a b:List Int) (ha:a.length≤1000):Qag Tryz.prog 18 [.slc (a.map (PV.int .i64)),.slc (b.map (PV.int .i64))] (.bool (decide (a=b))):=by
 by_cases hl:a.length=b.length
 ·have hl':((a.length:Int) != (b.length:Int))=false:=by rw [hl];exact bne_self_eq_false _
  refine Qad (tb:=[]) 26 [.tmp 4] [0,1,4,5,10,14,25] mixed Tryz.func18 rfl (by kernel_rfl) (by kernel_rfl) (by kernel_rfl) (by kernel_rfl) ?_
  repeat (first|(simp -implicitDefEqProofs only [go_sem,Nat.reduceAdd,Nat.reduceMul,Nat.reduceEqDiff,Nat.reduceLT,Nat.reduceLeDiff,reduceCtorEq,hl',List.length_map])|(with_reducible exact Qaa _ _ (by kernel_rfl))|(with_reducible refine And.intro (Qaa _ _ (by kernel_rfl)) ?_))
  refine Qa0 mixed (fun i:{i:Nat // i≤a.length∧a.take i=b.take i}=>St.of [(0,.slc (a.map (PV.int .i64))),(1,.slc (b.map (PV.int .i64))),(5,.int .i64 (i.1:Int))] []) (fun i=>a.length-i.1) ⟨0,Nat.zero_le _,rfl⟩ ?_ ?_
  ·refine Qax ?_
   simp [Qae,lkp,ren1,ren0,Qam]
  rintro⟨i,hi,he⟩
  simp only
  by_cases hA:i<a.length
  ·have hA':=ltT hA
   have n0:=nnT i
   have g1:=Qx2 a i hA
   have g2:=Qx2 b i (by omega)
   have hwk:=Qak (a:=i) (by omega)
   by_cases hx:a[i]=b[i]'(by omega)
   ·have hx':(a[i] != b[i]'(by omega))=false:=by rw [hx];exact bne_self_eq_false _
    have he2:a.take (i+1)=b.take (i+1):=by rw [Qbo a i hA,Qbo b i (by omega),he,hx]
    generalize a[i]=x at*
    generalize b[i]'(by omega)=y at*
    repeat (first|(simp -implicitDefEqProofs only [go_sem,Nat.reduceAdd,Nat.reduceMul,Nat.reduceEqDiff,Nat.reduceLT,Nat.reduceLeDiff,reduceCtorEq,hA',n0,g1,g2,hwk,hx',Int.toNat_natCast,List.length_map])|(with_reducible exact Qaa _ _ (by kernel_rfl))|(with_reducible refine And.intro (Qaa _ _ (by kernel_rfl)) ?_))
    refine⟨⟨i+1,hA,he2⟩,by simp only;omega,Qax ?_⟩
    simp [Qae,lkp,ren1,ren0,Qam]
   ·have hx':(a[i] != b[i]'(by omega))=true:=by simpa using hx
    have e:decide (a=b)=false:=decide_eq_false (by rintro rfl;exact hx rfl)
    rw [e]
    generalize a[i]=x at*
    generalize b[i]'(by omega)=y at*
    repeat (first|(simp -implicitDefEqProofs only [go_sem,Nat.reduceAdd,Nat.reduceMul,Nat.reduceEqDiff,Nat.reduceLT,Nat.reduceLeDiff,reduceCtorEq,hA',n0,g1,g2,hx',Int.toNat_natCast,List.length_map])|(with_reducible exact Qaa _ _ (by kernel_rfl))|(with_reducible refine And.intro (Qaa _ _ (by kernel_rfl)) ?_))
  ·have hA':=ltF hA
   rw [List.take_of_length_le (by omega),List.take_of_length_le (by omega)]at he
   rw [decide_eq_true he]
   repeat (first|(simp -implicitDefEqProofs only [go_sem,Nat.reduceAdd,Nat.reduceMul,Nat.reduceEqDiff,Nat.reduceLT,Nat.reduceLeDiff,reduceCtorEq,hA',List.length_map])|(with_reducible exact Qaa _ _ (by kernel_rfl))|(with_reducible refine And.intro (Qaa _ _ (by kernel_rfl)) ?_))
 ·have hl':((a.length:Int) != (b.length:Int))=true:=by simp only [bne_iff_ne,ne_eq];omega
  have e:decide (a=b)=false:=decide_eq_false (by rintro rfl;exact hl rfl)
  rw [e]
  refine Qad (tb:=[]) 26 [.tmp 4] [0,1,4,5,10,14,25] mixed Tryz.func18 rfl (by kernel_rfl) (by kernel_rfl) (by kernel_rfl) (by kernel_rfl) ?_
  repeat (first|(simp -implicitDefEqProofs only [go_sem,Nat.reduceAdd,Nat.reduceMul,Nat.reduceEqDiff,Nat.reduceLT,Nat.reduceLeDiff,reduceCtorEq,hl',List.length_map])|(with_reducible exact Qaa _ _ (by kernel_rfl))|(with_reducible refine And.intro (Qaa _ _ (by kernel_rfl)) ?_))
theorem Zbv (l:List (Int×Int×Int)) (hl:l.length≤1000):Qag Tryz.prog 26 [.slc (l.map fun v=> .agg [.int .i64 v.1,.int .i64 v.2.1,.int .i64 v.2.2]),.slc (l.map fun v=> .agg [.int .i64 v.1,.int .i64 v.2.1,.int .i64 v.2.2])] (.bool true):=by
 have hl':((l.length:Int) != (l.length:Int))=false:=bne_self_eq_false _
 refine Qad (tb:=[]) 26 [.tmp 4] [0,1,4,5,10,14,25] mixed Tryz.func26 rfl (by kernel_rfl) (by kernel_rfl) (by kernel_rfl) (by kernel_rfl) ?_
 repeat (first|(simp -implicitDefEqProofs only [go_sem,Nat.reduceAdd,Nat.reduceMul,Nat.reduceEqDiff,Nat.reduceLT,Nat.reduceLeDiff,reduceCtorEq,hl',List.length_map])|(with_reducible exact Qaa _ _ (by kernel_rfl))|(with_reducible refine And.intro (Qaa _ _ (by kernel_rfl)) ?_))
 refine Qa0 mixed (fun i:{i:Nat // i≤l.length}=>St.of [(0,.slc (l.map fun v=> .agg [.int .i64 v.1,.int .i64 v.2.1,.int .i64 v.2.2])),(1,.slc (l.map fun v=> .agg [.int .i64 v.1,.int .i64 v.2.1,.int .i64 v.2.2])),(5,.int .i64 (i.1:Int))] []) (fun i=>l.length-i.1) ⟨0,Nat.zero_le _⟩ ?_ ?_
 ·refine Qax ?_
  simp [Qae,lkp,ren1,ren0,Qam]
 rintro⟨i,hi⟩
 simp only
 by_cases hA:i<l.length
 ·have hA':=ltT hA
  have n0:=nnT i
  have g1:(l.map fun v=>PV.agg [.int .i64 v.1,.int .i64 v.2.1,.int .i64 v.2.2])[i]? =some (.agg [.int .i64 l[i].1,.int .i64 l[i].2.1,.int .i64 l[i].2.2]):=by rw [List.getElem?_map,List.getElem?_eq_getElem hA];rfl
  have hwk:=Qak (a:=i) (by omega)
  generalize l[i].1=x at*
  generalize l[i].2.1=y at*
  generalize l[i].2.2=z at*
  repeat (first|(simp -implicitDefEqProofs only [go_sem,Nat.reduceAdd,Nat.reduceMul,Nat.reduceEqDiff,Nat.reduceLT,Nat.reduceLeDiff,reduceCtorEq,hA',n0,g1,hwk,bne_self_eq_false,beq_self_eq_true,Bool.and_self,Bool.not_true,Int.toNat_natCast,List.length_map])|(with_reducible exact Qaa _ _ (by kernel_rfl))|(with_reducible refine And.intro (Qaa _ _ (by kernel_rfl)) ?_))
  refine⟨⟨i+1,hA⟩,by simp only;omega,Qax ?_⟩
  simp [Qae,lkp,ren1,ren0,Qam]
 ·have hA':=ltF hA
  repeat (first|(simp -implicitDefEqProofs only [go_sem,Nat.reduceAdd,Nat.reduceMul,Nat.reduceEqDiff,Nat.reduceLT,Nat.reduceLeDiff,reduceCtorEq,hA',List.length_map])|(with_reducible exact Qaa _ _ (by kernel_rfl))|(with_reducible refine And.intro (Qaa _ _ (by kernel_rfl)) ?_))
theorem Zbw (l:List Wd) (p:List Sg):p.map (alV l)=(p.map fun s=>(atW Wd.ux l (posS s 0) (posS s 1) (posS s 2) s.f,atW Wd.uy l (posS s 0) (posS s 1) (posS s 2) s.f,atW Wd.uz l (posS s 0) (posS s 1) (posS s 2) s.f)).map fun v=>PV.agg [.int .i64 v.1,.int .i64 v.2.1,.int .i64 v.2.2]:=by
 rw [List.map_map];rfl
def gW1:Wd:=⟨0,0,0,100,100,100,0,1000,300,0,0⟩
def gW2:Wd:=⟨100,0,0,200,100,100,500,2000,0,400,0⟩
theorem Qdi (x y z:Int):Qag Tryz.prog 28 [.int .i64 x,.int .i64 y,.int .i64 z] (.agg [.int .i64 x,.int .i64 y,.int .i64 z]):=by
 refine Qad (tb:=[]) 11 [.cell 6 26] [0,1,2,6] mixed Tryz.func28 rfl (by kernel_rfl) (by kernel_rfl) (by kernel_rfl) (by kernel_rfl) ?_
 repeat (first|(simp -implicitDefEqProofs only [go_sem,Nat.reduceAdd,Nat.reduceMul,Nat.reduceEqDiff,Nat.reduceLT,Nat.reduceLeDiff,reduceCtorEq]))
theorem Qo0:Qag Tryz.prog 45 [] (wsPV [gW1,gW2]):=by
 have a1:=Qdi 0 0 0
 have a2:=Qdi 100 100 100
 have a3:=Qdi 300 0 0
 have a4:=Qdi 100 0 0
 have a5:=Qdi 200 100 100
 have a6:=Qdi 0 400 0
 unfold wsPV gW1 gW2
 rw [List.map_cons,List.map_cons,List.map_nil]
 refine Qad (tb:=[]) 10 [.tmp 0] [0] mixed Tryz.func45 rfl (by kernel_rfl) (by kernel_rfl) (by kernel_rfl) (by kernel_rfl) ?_
 repeat (first|(simp -implicitDefEqProofs only [go_sem,Nat.reduceAdd,Nat.reduceMul,Nat.reduceEqDiff,Nat.reduceLT,Nat.reduceLeDiff,reduceIte,reduceCtorEq])|((with_reducible refine Qab (a1) ?_ ?_ ?_);(with_reducible rfl);rfl)|((with_reducible refine Qab (a2) ?_ ?_ ?_);(with_reducible rfl);rfl)|((with_reducible refine Qab (a3) ?_ ?_ ?_);(with_reducible rfl);rfl)|((with_reducible refine Qab (a4) ?_ ?_ ?_);(with_reducible rfl);rfl)|((with_reducible refine Qab (a5) ?_ ?_ ?_);(with_reducible rfl);rfl)|((with_reducible refine Qab (a6) ?_ ?_ ?_);(with_reducible rfl);rfl))
theorem Zbx (x y z t a b c:Int) (h:(Qat [gW1,gW2]&&(ptB x y z&&(decide (0≤t)&&decide (t≤3600000))))=true) (h1:atW Wd.ux [gW1,gW2] x y z t=a) (h2:atW Wd.uy [gW1,gW2] x y z t=b) (h3:atW Wd.uz [gW1,gW2] x y z t=c):
  Qag Tryz.prog 46 [.agg [.int .i64 x,.int .i64 y,.int .i64 z],.int .i64 t,.agg [.int .i64 a,.int .i64 b,.int .i64 c]] (.bool true):=by
 have f1:=Qo0
 have f2:=Zar [gW1,gW2] x y z t (by decide)
 rw [if_pos h]at f2
 unfold Qm5 at f2
 rw [h1,h2,h3]at f2
 generalize hL:wsPV [gW1,gW2]=L at*
 obtain⟨L',rfl⟩: ∃L',L= .slc L':=⟨_,hL.symm⟩
 clear hL h h1 h2 h3
 refine Qad (tb:=[]) 23 [.tmp 6] [0,1,2,3,5,6,7,8] mixed Tryz.func46 rfl (by kernel_rfl) (by kernel_rfl) (by kernel_rfl) (by kernel_rfl) ?_
 repeat (first|(simp -implicitDefEqProofs only [go_sem,Nat.reduceAdd,Nat.reduceMul,Nat.reduceEqDiff,Nat.reduceLT,Nat.reduceLeDiff,reduceCtorEq,Qui,beq_self_eq_true,Bool.and_self])|((with_reducible refine Qab (f1) ?_ ?_ ?_);(with_reducible rfl);rfl)|((with_reducible refine Qab (f2) ?_ ?_ ?_);(with_reducible rfl);rfl)|(with_reducible exact Qaa _ _ (by kernel_rfl))|(with_reducible refine And.intro (Qaa _ _ (by kernel_rfl)) ?_))
theorem Qkb (l:List Wd) (n:Int) (hl:l.length≤6) (hv:Qat l=true) (h:Qfe l=n):Qag Tryz.prog 47 [wsPV l,.int .i64 n] (.bool true):=by
 have f1:=Qgo l (by unfold maxLen;omega) (fun _=>hl)
 rw [if_pos hv,h]at f1
 refine Qad (tb:=[]) 19 [.tmp 4] [0,1,4,5,6] mixed Tryz.func47 rfl (by kernel_rfl) (by kernel_rfl) (by kernel_rfl) (by kernel_rfl) ?_
 repeat (first|(simp -implicitDefEqProofs only [go_sem,Nat.reduceAdd,Nat.reduceMul,Nat.reduceEqDiff,Nat.reduceLT,Nat.reduceLeDiff,reduceCtorEq,Qui,beq_self_eq_true])|((with_reducible refine Qab (f1) ?_ ?_ ?_);(with_reducible rfl);rfl))
def kP:List Sg:=[⟨0,500,1,[150],[0],[0]⟩,⟨500,1000,1,[150],[0],[0]⟩]
set_option maxHeartbeats 8000000 in
set_option maxRecDepth 100000 in
theorem Qo1:Qag Tryz.prog 12 [] (.bool true):=by
 have f1:=Qo0
 have v1:=Qdi 100 50 0
 have v2:=Qdi 300 400 0
 have v3:=Qdi 0 400 0
 have v4:=Qdi 99 50 0
 have v5:=Qdi 300 0 0
 have c1:=Qug [gW1,gW2] 100 50 0 600 (by decide)
 rw [if_pos (by decide+kernel)]at c1
 have e1:onL (blW 100 50 0 600) [gW1,gW2]=[0,1]:=by decide+kernel
 rw [e1,List.map_cons,List.map_cons,List.map_nil]at c1
 have c2:=Zbu [0,1] [0,1] (by decide)
 rw [decide_eq_true rfl,List.map_cons,List.map_cons,List.map_nil]at c2
 have k1:=Zbx 100 50 0 600 300 400 0 (by decide+kernel) (by decide+kernel) (by decide+kernel) (by decide+kernel)
 have k2:=Zbx 100 50 0 1000 0 400 0 (by decide+kernel) (by decide+kernel) (by decide+kernel) (by decide+kernel)
 have k3:=Zbx 99 50 0 600 300 0 0 (by decide+kernel) (by decide+kernel) (by decide+kernel) (by decide+kernel)
 have s1:=Qkb [gW1,gW2] 250000 (by decide) (by decide+kernel) (by decide+kernel)
 have s2:=Qkb [gW2] 160000 (by decide) (by decide+kernel) (by decide+kernel)
 have s3:=Qkb [] 0 (by decide) (by decide+kernel) (by decide+kernel)
 have a1:=Qyb [gW1,gW2] kP (fun s hs=>by
  simp only [kP,List.mem_cons,List.not_mem_nil,or_false]at hs
  rcases hs with rfl|rfl
  ·exact⟨by unfold i64;decide,by unfold i64;decide,by unfold i64;decide,by unfold i64;decide,by decide⟩
  ·exact⟨by unfold i64;decide,by unfold i64;decide,by unfold i64;decide,by unfold i64;decide,by decide⟩) (by decide) (by decide)
 rw [if_pos ⟨by decide+kernel,by decide+kernel⟩,Zbw]at a1
 have e2:(kP.map fun s=>(atW Wd.ux [gW1,gW2] (posS s 0) (posS s 1) (posS s 2) s.f,atW Wd.uy [gW1,gW2] (posS s 0) (posS s 1) (posS s 2) s.f,atW Wd.uz [gW1,gW2] (posS s 0) (posS s 1) (posS s 2) s.f))=[(0,0,0),(0,400,0)]:=by decide+kernel
 rw [e2]at a1
 have a2:=Zbv [(0,0,0),(0,400,0)] (by decide)
 simp only [List.map_cons,List.map_nil]at a1 a2
 unfold Qdz kP at a1
 simp only [List.map_cons,List.map_nil]at a1
 unfold sgPV Qa9 at a1
 simp only [List.map_cons,List.map_nil]at a1
 have g0:(wsPV [gW1,gW2])= .slc [wdPV gW1,wdPV gW2]:=rfl
 have g2:(wsPV [gW2])= .slc [wdPV gW2]:=rfl
 have g3:(wsPV [])= .slc []:=rfl
 rw [g0]at f1 c1 s1 a1
 rw [g2]at s2
 rw [g3]at s3
 unfold wdPV gW1 gW2 at*
 refine Qad (tb:=[]) 75 [.tmp 0] [0,1,2,3,4,5,37,50] mixed Tryz.func12 rfl (by kernel_rfl) (by kernel_rfl) (by kernel_rfl) (by kernel_rfl) ?_
 repeat (first|(simp -implicitDefEqProofs only [go_sem,Nat.reduceAdd,Nat.reduceMul,Nat.reduceEqDiff,Nat.reduceLT,Nat.reduceLeDiff,reduceIte,reduceCtorEq,Qq2,Bool.not_true])|((with_reducible refine Qab (f1) ?_ ?_ ?_);(with_reducible rfl);rfl)|((with_reducible refine Qab (v1) ?_ ?_ ?_);(with_reducible rfl);rfl)|((with_reducible refine Qab (c1) ?_ ?_ ?_);(with_reducible rfl);rfl)|((with_reducible refine Qab (c2) ?_ ?_ ?_);(with_reducible rfl);rfl)|((with_reducible refine Qab (v2) ?_ ?_ ?_);(with_reducible rfl);rfl)|((with_reducible refine Qab (k1) ?_ ?_ ?_);(with_reducible rfl);rfl))
 repeat (first|(simp -implicitDefEqProofs only [go_sem,Nat.reduceAdd,Nat.reduceMul,Nat.reduceEqDiff,Nat.reduceLT,Nat.reduceLeDiff,reduceCtorEq,Qq2,Bool.not_true])|((with_reducible refine Qab (f1) ?_ ?_ ?_);(with_reducible rfl);rfl)|((with_reducible refine Qab (v1) ?_ ?_ ?_);(with_reducible rfl);rfl)|((with_reducible refine Qab (v3) ?_ ?_ ?_);(with_reducible rfl);rfl)|((with_reducible refine Qab (k2) ?_ ?_ ?_);(with_reducible rfl);rfl)|((with_reducible refine Qab (v4) ?_ ?_ ?_);(with_reducible rfl);rfl)|((with_reducible refine Qab (v5) ?_ ?_ ?_);(with_reducible rfl);rfl)|((with_reducible refine Qab (k3) ?_ ?_ ?_);(with_reducible rfl);rfl))
 repeat (first|(simp -implicitDefEqProofs only [go_sem,Nat.reduceAdd,Nat.reduceMul,Nat.reduceEqDiff,Nat.reduceLT,Nat.reduceLeDiff,reduceIte,reduceCtorEq,Int.reduceLE,Int.reduceToNat,Qq2,Bool.not_true,nc_2,List.length_cons,List.length_nil])|((with_reducible refine Qab (f1) ?_ ?_ ?_);(with_reducible rfl);rfl)|((with_reducible refine Qab (s1) ?_ ?_ ?_);(with_reducible rfl);rfl)|((with_reducible refine Qab (s2) ?_ ?_ ?_);(with_reducible rfl);rfl)|((with_reducible refine Qab (s3) ?_ ?_ ?_);(with_reducible rfl);rfl))
 repeat (first|(simp -implicitDefEqProofs only [go_sem,Nat.reduceAdd,Nat.reduceMul,Nat.reduceEqDiff,Nat.reduceLT,Nat.reduceLeDiff,reduceIte,reduceCtorEq,Qui,Bool.not_true])|((with_reducible refine Qab (f1) ?_ ?_ ?_);(with_reducible rfl);rfl)|((with_reducible refine Qab (a1) ?_ ?_ ?_);(with_reducible rfl);rfl)|((with_reducible refine Qab (v3) ?_ ?_ ?_);(with_reducible rfl);rfl)|((with_reducible refine Qab (a2) ?_ ?_ ?_);(with_reducible rfl);rfl))
end Go.Proofs.YtciddhkfbgkejaaGreatDoor

namespace Go.Proofs.YtciddhkfbgkejaaGreatDoor
open Go.Vl Go.RowKit Go.Dg
def rawW (s:Sg):Prop:=i64 s.f∧i64 s.t∧i64 s.o∧ ∀c∈s.ax,(∀x∈c,i64 x)∧c.length≤maxLen
theorem Zby {s:Sg} (h:rawW s) (hl: ∀c∈s.ax,c.length≤1000):okSg s:=⟨h.1,h.2.1,h.2.2.1,fun c hc=>(h.2.2.2 c hc).1,hl⟩
theorem Zap (l:List Wd):((l.map wdPV).all fun e=>e.cells.length==11&&e.cells.all PV.okCell)=true:=by
 rw [List.all_map,List.all_eq_true];intro _ _;rfl
theorem Zaq (l:List Wd):((l.map wdPV).flatMap PV.cells).all PV.okCell=true:=by
 rw [List.all_eq_true];intro c hc
 simp only [List.mem_flatMap,List.mem_map]at hc
 obtain⟨_,⟨s,_,rfl⟩,h⟩:=hc
 simp only [wdPV,PV.cells,List.mem_cons,List.not_mem_nil,or_false]at h
 rcases h with rfl|rfl|rfl|rfl|rfl|rfl|rfl|rfl|rfl|rfl|rfl<;>rfl
end Go.Proofs.YtciddhkfbgkejaaGreatDoor

namespace Go.Dg
def nxE (out:List Int) (a b:Int) (k j:Nat):Int:=(if j<k then out.getD j 0*a else 0)+(if 0<j∧j≤k then out.getD (j-1) 0*b else 0)
def nxL (out:List Int) (a b:Int) (k:Nat):List Int:=(List.range (out.length+1)).map (nxE out a b k)
def hstep (out:List Int) (a b c:Int):List Int:=(nxL out a b out.length).set 0 ((nxL out a b out.length).getD 0 0+c)
end Go.Dg

namespace Go.Dg
end Go.Dg

namespace Go.Dg
end Go.Dg

namespace Go.Dg
theorem Qxi (s:Sg) (i:Nat) (h:i<3):s.ax.getD i []∈s.ax:=by
 rcases(show i=0∨i=1∨i=2 by omega)with rfl|rfl|rfl<;>simp [Sg.ax]
end Go.Dg

namespace Go.Dg
end Go.Dg

namespace Go.Dg
theorem Quc (c:List Int) (m a d:Int) (k:Nat) (h:k≤5):plcT c (m*a) (m*d) k=m^5*plcT c a d k:=by
 unfold plcT
 have e:m^5=m^k*m^(5-k):=by rw [←Int.pow_add];congr 1;omega
 rw [Int.mul_pow,Int.mul_pow,e]
 simp only [Int.mul_comm,Int.mul_left_comm,Int.mul_assoc]
theorem Qoq (c:List Int) (m a d:Int) (h:c.length≤6):plc c (m*a) (m*d)=m^5*plc c a d:=by
 unfold plc
 have key: ∀n,n≤6→sm (plcT c (m*a) (m*d)) n=m^5*sm (plcT c a d) n:=by
  intro n
  induction n with
  |zero=>intro _;simp [sm]
  |succ n ih=>intro hn;simp only [sm];rw [ih (by omega),Quc c m a d n (by omega),Int.mul_add]
 exact key _ h
theorem Qor (s:Sg) (m:Nat) (a d:Int) (h: ∀c∈s.ax,c.length≤6): ∀i,i≤3→plG s (m*a) (m*d) i=m^5*plG s a d i:=by
 intro i hi
 induction i with
 |zero=>
  show(s.o*((m:Int)*d)^5).natAbs=m^5*(s.o*d^5).natAbs
  rw [Int.mul_pow,Int.mul_left_comm,Int.natAbs_mul,Int.natAbs_pow,Int.natAbs_natCast]
 |succ i ih=>
  rw [Qdn,Qdn,ih (by omega)]
  have e:plP s (m*a) (m*d) i=(m:Int)^5*plP s a d i:=Qoq _ _ _ _ (h _ (Qxi s i (by omega)))
  rw [e,Int.natAbs_mul,Int.natAbs_pow,Int.natAbs_natCast,Nat.gcd_mul_left]
theorem Qos (s:Sg) (m:Nat) (a d:Int) (hm:0<m) (h: ∀c∈s.ax,c.length≤6) (i:Nat) (hi:i<3):plQ s (m*a) (m*d) i=plQ s a d i:=by
 have e:plP s (m*a) (m*d) i=(m:Int)^5*plP s a d i:=Qoq _ _ _ _ (h _ (Qxi s i hi))
 unfold plQ
 rw [e,Qor s m a d h 3 (by decide),Int.natCast_mul,Int.natCast_pow]
 exact Int.mul_ediv_mul_of_pos _ _ (Int.pow_pos (by omega))
theorem Qot (s:Sg) (m:Nat) (a d:Int) (hm:0<m) (h: ∀c∈s.ax,c.length≤6):plO s (m*a) (m*d)=plO s a d:=by
 unfold plO
 rw [Qor s m a d h 3 (by decide),Int.natCast_mul,Int.natCast_pow,Int.mul_pow,Int.mul_left_comm]
 exact Int.mul_ediv_mul_of_pos _ _ (Int.pow_pos (by omega))
theorem Qsr {p:List Sg} (hV:Qbn p=true):atIx p (pBeg p)=0:=by
 have h0:0<p.length:=by have:=(Qdc hV).2.1;omega
 rcases Nat.eq_zero_or_pos (atIx p (pBeg p))with e|e
 ·exact e
 ·have h:=Qeo e h0
  obtain⟨⟨a1,a2, -⟩, -, -⟩:=Qbb (Qcp hV _ h0)
  have e2:pBeg p=p[0].f:=by unfold pBeg;rw [sgD h0]
  omega
end Go.Dg

namespace Go.Dg
theorem Qou: ∀(E:List Int) (c:Int),(∃e∈E,e≤c)→ ∃r∈E,r≤c∧ ∀e∈E,e≤c→e≤r
 | [],_,h=>by obtain⟨_,h,_⟩:=h;simp at h
 |x::E,c,h=>by
  by_cases h1: ∃e∈E,e≤c
  ·obtain⟨r,hr,hc,hg⟩:=Qou E c h1
   by_cases h2:x≤c∧r<x
   ·refine⟨x,by simp,h2.1,fun e he hec=> ?_⟩
    simp only [List.mem_cons]at he
    rcases he with rfl|he
    ·exact Int.le_refl _
    ·have:=hg e he hec;omega
   ·refine⟨r,by simp [hr],hc,fun e he hec=> ?_⟩
    simp only [List.mem_cons]at he
    rcases he with rfl|he
    ·omega
    ·exact hg e he hec
  ·obtain⟨e,he,hec⟩:=h
   simp only [List.mem_cons]at he
   rcases he with rfl|he
   ·refine⟨e,by simp,hec,fun y hy hyc=> ?_⟩
    simp only [List.mem_cons]at hy
    rcases hy with rfl|hy
    ·exact Int.le_refl _
    ·exact absurd ⟨y,hy,hyc⟩ h1
   ·exact absurd ⟨e,he,hec⟩ h1
theorem Qci (k:Nat) (l:List Wd) (y:Int):y∈numE k l↔ ∃w∈l,y∈Qcz k w:=by
 unfold numE allE
 rw [Qxk,(Qh4 _).2,List.mem_flatMap]
theorem Zgn (x y z:Int) (T:List Int) (q:Int×Int×Int×Int):q∈c3 x y z T↔q.1=x∧q.2.1=y∧q.2.2.1=z∧q.2.2.2∈T:=by
 obtain⟨a,b,c,d⟩:=q
 simp only [c3,List.mem_map,Prod.mk.injEq]
 constructor
 ·rintro⟨t,h,rfl,rfl,rfl,rfl⟩;exact⟨rfl,rfl,rfl,h⟩
 ·rintro⟨rfl,rfl,rfl,h⟩;exact⟨_,h,rfl,rfl,rfl,rfl⟩
theorem Qxq {l:List Wd} {x y z t:Int} (h0:x∈numE 0 l) (h1:y∈numE 1 l) (h2:z∈numE 2 l) (h3:t∈numE 3 l):(x,y,z,t)∈Qin l:=by
 simp only [Qin,c0,c1,c2,List.mem_flatMap]
 exact⟨x,h0,y,h1,z,h2,(Zgn _ _ _ _ _).2 ⟨rfl,rfl,rfl,h3⟩⟩
theorem Zgo (l:List Wd) (x y z t:Int):sqL l (x,y,z,t)≤Qfe l:=by
 by_cases hb: ∃w∈l,blW x y z t w=true
 ·obtain⟨w,hw,hbw⟩:=hb
  simp only [blW,decide_eq_true_eq]at hbw
  obtain⟨rx,mx,lx,gx⟩:=Qou (numE 0 l) x ⟨w.lx,(Qci _ _ _).2 ⟨w,hw,by simp [Qcz]⟩,by omega⟩
  obtain⟨ry,my,ly,gy⟩:=Qou (numE 1 l) y ⟨w.ly,(Qci _ _ _).2 ⟨w,hw,by simp [Qcz]⟩,by omega⟩
  obtain⟨rz,mz,lz,gz⟩:=Qou (numE 2 l) z ⟨w.lz,(Qci _ _ _).2 ⟨w,hw,by simp [Qcz]⟩,by omega⟩
  obtain⟨rt,mt,lt,gt⟩:=Qou (numE 3 l) t ⟨w.f,(Qci _ _ _).2 ⟨w,hw,by simp [Qcz]⟩,by omega⟩
  have key:l.filter (blW x y z t)=l.filter (blW rx ry rz rt):=by
   refine List.filter_congr fun v hv=> ?_
   have a1:=gx v.lx ((Qci _ _ _).2 ⟨v,hv,by simp [Qcz]⟩)
   have a2:=gx (v.hx+1) ((Qci _ _ _).2 ⟨v,hv,by simp [Qcz]⟩)
   have b1:=gy v.ly ((Qci _ _ _).2 ⟨v,hv,by simp [Qcz]⟩)
   have b2:=gy (v.hy+1) ((Qci _ _ _).2 ⟨v,hv,by simp [Qcz]⟩)
   have d1:=gz v.lz ((Qci _ _ _).2 ⟨v,hv,by simp [Qcz]⟩)
   have d2:=gz (v.hz+1) ((Qci _ _ _).2 ⟨v,hv,by simp [Qcz]⟩)
   have t1:=gt v.f ((Qci _ _ _).2 ⟨v,hv,by simp [Qcz]⟩)
   have t2:=gt v.t ((Qci _ _ _).2 ⟨v,hv,by simp [Qcz]⟩)
   unfold blW
   rw [decide_eq_decide]
   omega
  have e:sqL l (x,y,z,t)=sqL l (rx,ry,rz,rt):=by
   simp only [sqL,atW,key]
  rw [e]
  exact Qoy l _ 0 _ (Qxq mx my mz mt)
 ·have e:l.filter (blW x y z t)=[]:=by
   rw [List.filter_eq_nil_iff]
   intro w hw h
   exact hb ⟨w,hw,h⟩
  have:sqL l (x,y,z,t)=0:=by
   simp only [sqL,atW,e,smW];rfl
  rw [this]
  exact Qm0 l _ 0
theorem Qg0 (k:Nat) (a b:List Wd):numE k (a++b)=numE k (b++a):=by
 refine Qxx _ _ (Qj5 _ (Qh4 _).1) (Qj5 _ (Qh4 _).1) fun y=> ?_
 have h1:=Qci k (a++b) y
 have h2:=Qci k (b++a) y
 show y∈numE k (a++b)↔y∈numE k (b++a)
 rw [h1,h2]
 simp only [List.mem_append]
 constructor<;>rintro⟨w,h|h,e⟩
 ·exact⟨w,.inr h,e⟩
 ·exact⟨w,.inl h,e⟩
 ·exact⟨w,.inr h,e⟩
 ·exact⟨w,.inl h,e⟩
theorem Qjh (g:Wd→Int) (a b:List Wd) (x y z t:Int):atW g (a++b) x y z t=atW g (b++a) x y z t:=by
 rw [Qj9,Qj9,Int.add_comm]
theorem Qj8 {l l':List Wd} (h: ∀q,sqL l q=sqL l' q): ∀(qs:List (Int×Int×Int×Int)) (m:Int),Qfd l m qs=Qfd l' m qs
 | [],_=>rfl
 |q::qs,m=>by
  simp only [Qfd]
  rw [h q];exact Qj8 h qs _
theorem Qqt (a b:List Wd):Qfe (a++b)=Qfe (b++a):=by
 have e:Qin (a++b)=Qin (b++a):=by unfold Qin;rw [Qg0 0,Qg0 1,Qg0 2,Qg0 3]
 unfold Qfe
 rw [e]
 exact Qj8 (fun q=>by simp only [sqL,Qjh _ a b]) _ _
theorem Qly {a b:List Wd} (ha:Qat a=true) (hb:Qat b=true) (h3:a.length≤3) (h4:b.length≤3):Qat (a++b)=true:=by
 have h1:=(Qbi ha).1
 have h2:=(Qbi hb).1
 simp only [Qat,Bool.and_eq_true,decide_eq_true_eq,List.all_eq_true,List.mem_append,List.length_append]
 refine⟨fun w h=> ?_,by omega⟩
 rcases h with h|h
 ·exact h1 w h
 ·exact h2 w h
theorem Qsu {s:Sg} (hv:Qbh s=true): ∀c∈s.ax,c.length≤6:=fun c hc=>(Qh3 ((Qbb hv).2.1 c hc)).2.1
theorem Qxr {s:Sg} (hv:Qbh s=true) {d:Int} (hd:1≤d):(∀i,i<3→plQ s d d i=plQ s 1 1 i)∧plO s d d=plO s 1 1:=by
 obtain⟨m,rfl⟩: ∃m:Nat,d=m:=⟨d.toNat,by omega⟩
 have h1:=fun i hi=>Qos s m 1 1 (by omega) (Qsu hv) i hi
 have h2:=Qot s m 1 1 (by omega) (Qsu hv)
 rw [Int.mul_one]at h2
 exact⟨fun i hi=>by have:=h1 i hi;rwa [Int.mul_one]at this,h2⟩
theorem Qxs {s:Sg} (hv:Qbh s=true) {d:Int} (hd:1≤d):(∀i,i<3→plQ s 0 d i=plQ s 0 1 i)∧plO s 0 d=plO s 0 1:=by
 obtain⟨m,rfl⟩: ∃m:Nat,d=m:=⟨d.toNat,by omega⟩
 have h1:=fun i hi=>Qos s m 0 1 (by omega) (Qsu hv) i hi
 have h2:=Qot s m 0 1 (by omega) (Qsu hv)
 rw [Int.mul_one,Int.mul_zero]at h2
 exact⟨fun i hi=>by have:=h1 i hi;rwa [Int.mul_one,Int.mul_zero]at this,h2⟩
theorem Zgp {p:List Sg} (hV:Qbn p=true) {q:Nat} (hq:q+1<p.length):atIx p p[q+1].f=q:=by
 have hm:=Qdy (Qdd hV q hq)
 have hl:p.length-1<p.length:=by omega
 have hi:=Qxg hV (t:=p[q+1].f) (by unfold pEnd;rw [sgD hl,←hm];exact Qc2 hV (p.length-1) q hl (by omega))
 have ha:=Qqr hi
 rcases Nat.lt_trichotomy (atIx p p[q+1].f) q with h|h|h
 ·exfalso
  have s1:=Qj3 hV (atIx p p[q+1].f) (by omega)
  have s2:=Qc2 hV q (atIx p p[q+1].f+1) (by omega) (by omega)
  omega
 ·exact h
 ·have:=Qeo h (by omega:q<p.length)
  omega
theorem Zgq {p:List Sg} (hV:Qbn p=true) {q:Nat} (hq:q<p.length):
  (∀i,i<3→plQ (p.getD (atIx p p[q].f) sg0) (p[q].f-(p.getD (atIx p p[q].f) sg0).f) ((p.getD (atIx p p[q].f) sg0).t-(p.getD (atIx p p[q].f) sg0).f) i=plQ p[q] 0 (p[q].t-p[q].f) i)∧
  plO (p.getD (atIx p p[q].f) sg0) (p[q].f-(p.getD (atIx p p[q].f) sg0).f) ((p.getD (atIx p p[q].f) sg0).t-(p.getD (atIx p p[q].f) sg0).f)=plO p[q] 0 (p[q].t-p[q].f):=by
 cases q with
 |zero=>
  have e:=Qsr hV
  unfold pBeg at e
  rw [sgD hq]at e
  rw [e,sgD hq,Int.sub_self]
  exact⟨fun _ _=>rfl,rfl⟩
 |succ q=>
  have hq0:q<p.length:=by omega
  have hm:=Qdd hV q hq
  have ht:=Qdy hm
  have v0:=Qcp hV q hq0
  have v1:=Qcp hV (q+1) hq
  have d0:=(Qbb v0).1
  have d1:=(Qbb v1).1
  rw [Zgp hV hq,sgD hq0,←ht]
  unfold Qgx Qxa at hm
  simp only [Bool.and_eq_true,decide_eq_true_eq]at hm
  obtain⟨a1,a2⟩:=Qxr v0 (d:=p[q].t-p[q].f) (by omega)
  obtain⟨b1,b2⟩:=Qxs v1 (d:=p[q+1].t-p[q].t) (by omega)
  refine⟨fun i hi=> ?_,?_⟩
  ·rw [a1 i hi,b1 i hi]
   rcases(show i=0∨i=1∨i=2 by omega)with rfl|rfl|rfl
   ·exact hm.2.1
   ·exact hm.2.2.1
   ·exact hm.2.2.2.1
  ·rw [a2,b2];exact hm.2.2.2.2
end Go.Dg
