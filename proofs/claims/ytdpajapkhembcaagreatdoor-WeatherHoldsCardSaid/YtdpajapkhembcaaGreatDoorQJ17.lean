/-
  QI8, QI9, QJ23, US2, QJ17 (merged for the claim).
-/
import Derived.Test.YtdpajapkhembcaaGreatDoorQO3
import Derived.Test.YtdpajapkhembcaaGreatDoorQF3
import Derived.Test.YtdpajapkhembcaaGreatDoorUV
import Derived.LaidMore
import Derived.OpenShut
import Derived.Stop.Joined
import Derived.Test.YtdpajapkhembcaaGreatDoorRows
import Derived.Test.YtdpajapkhembcaaGreatDoorTie
import Derived.Test.YtdpajapkhembcaaGreatDoorCards
import Derived.SevenTiedAt
import Derived.LaidSub
import Derived.MakeChecks
import Derived.Lib.LaidTab
set_option linter.unusedSimpArgs false
set_option linter.unusedVariables false
namespace Go.Proofs.YtdpajapkhembcaaGreatDoor
open Go.Vl Go.RowKit Go.Dg
theorem Ql8 (xs:List Int):((ddB xs).map (PV.int .i64)).take (dd xs).length=(dd xs).map (PV.int .i64):=by
 unfold ddB;rw [List.map_append,List.take_append_of_le_length (by simp)];exact List.take_of_length_le (by simp)
theorem Ql9 (xs:List Int):(dd xs).length≤((ddB xs).map (PV.int .i64)).length:=by
 unfold ddB;simp
def aB (a:Nat) (l:List Wd):Box:=iB1 (allE a l)
attribute [go_sem] aB
theorem Qts (xs:List Int):((xs.map (PV.int .i64)).flatMap PV.cells).all PV.okCell=true:=Qfy xs
theorem Qy6 (a:Nat) {l:List Wd} {i:Nat} (h:i≤l.length):(allE a (l.take i)).length=2*i:=by rw [Qfw];simp;omega
theorem Qrc (a:Nat) {l:List Wd} {i:Nat} (h:i<l.length):allE a (l.take (i+1))=allE a (l.take i)++Qdq a l[i]:=by rw [Qcp l i h,Q6f]
set_option maxHeartbeats 16000000 in
set_option maxRecDepth 100000 in
theorem Zs1 (l:List Wd) (hv:Qba l=true) (h6:l.length≤8):
  Qaf Tryz.prog 33 [wsPV l] (.fn 50 [] [.rp [.slc ((numE 0 l).map (PV.int .i64)),.slc ((numE 1 l).map (PV.int .i64)),.slc ((numE 2 l).map (PV.int .i64)),.slc ((numE 3 l).map (PV.int .i64))]]):=by
 have hvw:=(Qbo hv).1

 refine Qab (tb:=[(1603,[(1000000,7)],[]),(1704,[(1000000,7)],[])]) 65 [.tmp 2] [0,2,3,5,6,7,8,9,10,11,12,13,22,23,50,51] mixed Tryz.func33 rfl (by kernel_rfl) ?_;repeat simp only [go_sem,seval,List.length_map]
 refine Qau mixed (fun i:{i:Nat // i≤l.length}=>St.of [(3,.bp 100 4 0 0),(10,wsPV l),(11,.int .i64 (l.length:Int)),(12,.int .i64 (i.1:Int))]
  [(100,{els:=[.agg [.bs 10 1 0 (2*i.1),.bs 11 1 0 (2*i.1),.bs 12 1 0 (2*i.1),.bs 13 1 0 (2*i.1)]],esz:=4,ety:=107,fro:=0,live:=true,arr:=false}),(10,aB 0 (l.take i.1)),(11,aB 1 (l.take i.1)),(12,aB 2 (l.take i.1)),(13,aB 3 (l.take i.1))]) (fun i=>l.length-i.1) ⟨0,Nat.zero_le _⟩ ?_ ?_
 ·refine Le.trans (Qmo 100 0 10 1 3 rfl rfl rfl rfl rfl rfl (by decide)) (Le.trans (Qmo 100 1 11 1 3 rfl rfl rfl rfl rfl rfl (by decide)) (Le.trans (Qmo 100 2 12 1 3 rfl rfl rfl rfl rfl rfl (by decide)) (Le.trans (Qmo 100 3 13 1 3 rfl rfl rfl rfl rfl rfl (by decide)) (Qaj (θ:=[(100,100),(10,10),(11,11),(12,12),(13,13)]) rfl ?_ ?_))))
  ·simp [Qae,lkp,ren1,ren0,Qai,wsPV]
  ·exact⟨⟨rfl,rfl,rfl,rfl,rfl,.inr ⟨rfl,_,_,rfl,rfl,rfl,rfl⟩⟩,⟨rfl,rfl,rfl,rfl,rfl,.inl ⟨rfl,rfl⟩⟩,⟨rfl,rfl,rfl,rfl,rfl,.inl ⟨rfl,rfl⟩⟩,⟨rfl,rfl,rfl,rfl,rfl,.inl ⟨rfl,rfl⟩⟩,⟨rfl,rfl,rfl,rfl,rfl,.inl ⟨rfl,rfl⟩⟩,trivial⟩
 ·rintro⟨i,hi⟩;simp only;by_cases hA:i<l.length
  case pos=>
   have hA':=ltT hA;have n0:=nnT i;have hg:=Qk5 l i hA;have hwk:=Qak (a:=i) (by omega);have hw:=Qfi (hvw _ (List.getElem_mem hA));have s0:=Qrc 0 hA;have s1:=Qrc 1 hA;have s2:=Qrc 2 hA;have s3:=Qrc 3 hA;have m0:=Qy6 0 (l:=l) (i:=i) hi;have m1:=Qy6 1 (l:=l) (i:=i) hi;have m2:=Qy6 2 (l:=l) (i:=i) hi;have m3:=Qy6 3 (l:=l) (i:=i) hi;unfold aB;generalize hN0:allE 0 (l.take (i+1))=N0 at*;generalize hN1:allE 1 (l.take (i+1))=N1 at*;generalize hN2:allE 2 (l.take (i+1))=N2 at*;generalize hN3:allE 3 (l.take (i+1))=N3 at*;generalize allE 0 (l.take i)=L0 at*;generalize allE 1 (l.take i)=L1 at*;generalize allE 2 (l.take i)=L2 at*;generalize allE 3 (l.take i)=L3 at*;generalize l[i]=w at*;have o0:=Qts L0;have o1:=Qts L1;have o2:=Qts L2;have o3:=Qts L3;have x0:IntKind.i64.wrap (w.hx+1)=w.hx+1:=Qag (by omega) (by omega);have x1:IntKind.i64.wrap (w.hy+1)=w.hy+1:=Qag (by omega) (by omega);have x2:IntKind.i64.wrap (w.hz+1)=w.hz+1:=Qag (by omega) (by omega);have k1:((2*i+2)*8≤140737488355328)=True:=eq_true (by omega);have k2:(2*i+2≤maxLen)=True:=eq_true (by unfold maxLen;omega);have eM:2*i+2=2*(i+1):=by omega
   have h0:=Qgv w.lx w.ly w.lz;have h1:=Qgv w.hx w.hy w.hz;repeat (first|simp only [go_sem,seval,hA',n0,hg,Int.toNat_natCast]|(with_reducible refine Qaa h0 ?_ ?_ ?_);rfl;rfl|(with_reducible refine Qaa h1 ?_ ?_ ?_);rfl;rfl|(with_reducible refine And.intro (Qac _ _ (by kernel_rfl)) ?_))
   refine Zex mixed [0,1,2,3] (St.of [(3,.bp 100 4 0 0),(5,.bp 402 11 0 0),(6,.bp 506 3 0 0),(7,.bp 507 3 0 0),(10,wsPV l),(11,.int .i64 (l.length:Int)),(12,.int .i64 (i:Int)),(22,.int .i64 0)] [(100,{els:=[.agg [.bs 10 1 0 (2*i),.bs 11 1 0 (2*i),.bs 12 1 0 (2*i),.bs 13 1 0 (2*i)]],esz:=4,ety:=107,fro:=0,live:=true,arr:=false}),(10,iB1 (L0)),(11,iB1 (L1)),(12,iB1 (L2)),(13,iB1 (L3)),(402,{els:=[wdPV w],esz:=11,ety:=71,fro:=0,live:=true,arr:=false}),(506,{els:=[.agg [.int .i64 w.lx,.int .i64 w.ly,.int .i64 w.lz]],esz:=3,ety:=88,fro:=0,live:=true,arr:=false}),(507,{els:=[.agg [.int .i64 w.hx,.int .i64 w.hy,.int .i64 w.hz]],esz:=3,ety:=88,fro:=0,live:=true,arr:=false})]) (Qaj (θ:=[(100,100),(10,10),(11,11),(12,12),(13,13),(402,402),(506,506),(507,507)]) rfl ?_ ?_) ?_
   ·simp [Qae,lkp,ren1,ren0,Qai,wsPV]
   ·exact⟨⟨rfl,rfl,rfl,rfl,rfl,.inr ⟨rfl,_,_,rfl,rfl,rfl,rfl⟩⟩,⟨rfl,rfl,rfl,rfl,rfl,.inl ⟨rfl,rfl⟩⟩,⟨rfl,rfl,rfl,rfl,rfl,.inl ⟨rfl,rfl⟩⟩,⟨rfl,rfl,rfl,rfl,rfl,.inl ⟨rfl,rfl⟩⟩,⟨rfl,rfl,rfl,rfl,rfl,.inl ⟨rfl,rfl⟩⟩,⟨rfl,rfl,rfl,rfl,rfl,.inr ⟨rfl,_,_,rfl,rfl,rfl,rfl⟩⟩,⟨rfl,rfl,rfl,rfl,rfl,.inr ⟨rfl,_,_,rfl,rfl,rfl,rfl⟩⟩,⟨rfl,rfl,rfl,rfl,rfl,.inr ⟨rfl,_,_,rfl,rfl,rfl,rfl⟩⟩,trivial⟩
   repeat (first|simp only [go_sem,seval,nc_3,nc_4,wo_1,x0,k1,k2,o0,m0,List.length_map]|(with_reducible refine And.intro (Qac _ _ (by kernel_rfl)) ?_))
   refine⟨St.of [(3,.bp 100 4 0 0),(5,.bp 402 11 0 0),(6,.bp 506 3 0 0),(7,.bp 507 3 0 0),(10,wsPV l),(11,.int .i64 (l.length:Int)),(12,.int .i64 (i:Int)),(22,.int .i64 1)] [(100,{els:=[.agg [.bs 20 1 0 (2*i+2),.bs 11 1 0 (2*i),.bs 12 1 0 (2*i),.bs 13 1 0 (2*i)]],esz:=4,ety:=107,fro:=0,live:=true,arr:=false}),(20,iB1 (L0++Qdq 0 w)),(11,iB1 (L1)),(12,iB1 (L2)),(13,iB1 (L3)),(402,{els:=[wdPV w],esz:=11,ety:=71,fro:=0,live:=true,arr:=false}),(506,{els:=[.agg [.int .i64 w.lx,.int .i64 w.ly,.int .i64 w.lz]],esz:=3,ety:=88,fro:=0,live:=true,arr:=false}),(507,{els:=[.agg [.int .i64 w.hx,.int .i64 w.hy,.int .i64 w.hz]],esz:=3,ety:=88,fro:=0,live:=true,arr:=false})],Qaj (θ:=[(100,100),(20,912),(11,11),(12,12),(13,13),(402,402),(506,506),(507,507)]) rfl ?_ ?_,?_⟩
   ·simp [Qae,lkp,ren1,ren0,Qai,wsPV]
   ·refine⟨⟨rfl,rfl,rfl,rfl,rfl,.inr ⟨rfl,_,_,rfl,rfl,rfl,rfl⟩⟩,⟨rfl,rfl,rfl,rfl,rfl,.inl ⟨rfl,?_⟩⟩,⟨rfl,rfl,rfl,rfl,rfl,.inl ⟨rfl,rfl⟩⟩,⟨rfl,rfl,rfl,rfl,rfl,.inl ⟨rfl,rfl⟩⟩,⟨rfl,rfl,rfl,rfl,rfl,.inl ⟨rfl,rfl⟩⟩,⟨rfl,rfl,rfl,rfl,rfl,.inr ⟨rfl,_,_,rfl,rfl,rfl,rfl⟩⟩,⟨rfl,rfl,rfl,rfl,rfl,.inr ⟨rfl,_,_,rfl,rfl,rfl,rfl⟩⟩,⟨rfl,rfl,rfl,rfl,rfl,.inr ⟨rfl,_,_,rfl,rfl,rfl,rfl⟩⟩,trivial⟩;simp [Qdq]
   repeat (first|simp only [go_sem,seval,nc_3,nc_4,wr_2,x1,k1,k2,o1,m1,List.length_map]|(with_reducible refine And.intro (Qac _ _ (by kernel_rfl)) ?_))
   refine⟨St.of [(3,.bp 100 4 0 0),(5,.bp 402 11 0 0),(6,.bp 506 3 0 0),(7,.bp 507 3 0 0),(10,wsPV l),(11,.int .i64 (l.length:Int)),(12,.int .i64 (i:Int)),(22,.int .i64 2)] [(100,{els:=[.agg [.bs 20 1 0 (2*i+2),.bs 21 1 0 (2*i+2),.bs 12 1 0 (2*i),.bs 13 1 0 (2*i)]],esz:=4,ety:=107,fro:=0,live:=true,arr:=false}),(20,iB1 (L0++Qdq 0 w)),(21,iB1 (L1++Qdq 1 w)),(12,iB1 (L2)),(13,iB1 (L3)),(402,{els:=[wdPV w],esz:=11,ety:=71,fro:=0,live:=true,arr:=false}),(506,{els:=[.agg [.int .i64 w.lx,.int .i64 w.ly,.int .i64 w.lz]],esz:=3,ety:=88,fro:=0,live:=true,arr:=false}),(507,{els:=[.agg [.int .i64 w.hx,.int .i64 w.hy,.int .i64 w.hz]],esz:=3,ety:=88,fro:=0,live:=true,arr:=false})],Qaj (θ:=[(100,100),(20,20),(21,912),(12,12),(13,13),(402,402),(506,506),(507,507)]) rfl ?_ ?_,?_⟩
   ·simp [Qae,lkp,ren1,ren0,Qai,wsPV]
   ·refine⟨⟨rfl,rfl,rfl,rfl,rfl,.inr ⟨rfl,_,_,rfl,rfl,rfl,rfl⟩⟩,⟨rfl,rfl,rfl,rfl,rfl,.inl ⟨rfl,rfl⟩⟩,⟨rfl,rfl,rfl,rfl,rfl,.inl ⟨rfl,?_⟩⟩,⟨rfl,rfl,rfl,rfl,rfl,.inl ⟨rfl,rfl⟩⟩,⟨rfl,rfl,rfl,rfl,rfl,.inl ⟨rfl,rfl⟩⟩,⟨rfl,rfl,rfl,rfl,rfl,.inr ⟨rfl,_,_,rfl,rfl,rfl,rfl⟩⟩,⟨rfl,rfl,rfl,rfl,rfl,.inr ⟨rfl,_,_,rfl,rfl,rfl,rfl⟩⟩,⟨rfl,rfl,rfl,rfl,rfl,.inr ⟨rfl,_,_,rfl,rfl,rfl,rfl⟩⟩,trivial⟩;simp [Qdq]
   repeat (first|simp only [go_sem,seval,nc_3,nc_4,wr_3,x2,k1,k2,o2,m2,List.length_map]|(with_reducible refine And.intro (Qac _ _ (by kernel_rfl)) ?_))
   refine⟨St.of [(3,.bp 100 4 0 0),(5,.bp 402 11 0 0),(6,.bp 506 3 0 0),(7,.bp 507 3 0 0),(10,wsPV l),(11,.int .i64 (l.length:Int)),(12,.int .i64 (i:Int)),(22,.int .i64 3)] [(100,{els:=[.agg [.bs 20 1 0 (2*i+2),.bs 21 1 0 (2*i+2),.bs 22 1 0 (2*i+2),.bs 13 1 0 (2*i)]],esz:=4,ety:=107,fro:=0,live:=true,arr:=false}),(20,iB1 (L0++Qdq 0 w)),(21,iB1 (L1++Qdq 1 w)),(22,iB1 (L2++Qdq 2 w)),(13,iB1 (L3)),(402,{els:=[wdPV w],esz:=11,ety:=71,fro:=0,live:=true,arr:=false}),(506,{els:=[.agg [.int .i64 w.lx,.int .i64 w.ly,.int .i64 w.lz]],esz:=3,ety:=88,fro:=0,live:=true,arr:=false}),(507,{els:=[.agg [.int .i64 w.hx,.int .i64 w.hy,.int .i64 w.hz]],esz:=3,ety:=88,fro:=0,live:=true,arr:=false})],Qaj (θ:=[(100,100),(20,20),(21,21),(22,912),(13,13),(402,402),(506,506),(507,507)]) rfl ?_ ?_,?_⟩
   ·simp [Qae,lkp,ren1,ren0,Qai,wsPV]
   ·refine⟨⟨rfl,rfl,rfl,rfl,rfl,.inr ⟨rfl,_,_,rfl,rfl,rfl,rfl⟩⟩,⟨rfl,rfl,rfl,rfl,rfl,.inl ⟨rfl,rfl⟩⟩,⟨rfl,rfl,rfl,rfl,rfl,.inl ⟨rfl,rfl⟩⟩,⟨rfl,rfl,rfl,rfl,rfl,.inl ⟨rfl,?_⟩⟩,⟨rfl,rfl,rfl,rfl,rfl,.inl ⟨rfl,rfl⟩⟩,⟨rfl,rfl,rfl,rfl,rfl,.inr ⟨rfl,_,_,rfl,rfl,rfl,rfl⟩⟩,⟨rfl,rfl,rfl,rfl,rfl,.inr ⟨rfl,_,_,rfl,rfl,rfl,rfl⟩⟩,⟨rfl,rfl,rfl,rfl,rfl,.inr ⟨rfl,_,_,rfl,rfl,rfl,rfl⟩⟩,trivial⟩;simp [Qdq]
   repeat simp only [go_sem,seval,nc_4,k1,k2,o3,m3,List.length_map,hwk]
   refine⟨⟨i+1,hA⟩,by simp only;omega,Qaj (θ:=[(100,100),(10,20),(11,21),(12,22),(13,1107)]) rfl ?_ ?_⟩
   ·simp [Qae,lkp,ren1,ren0,Qai,wsPV]
   ·simp only [hN0,hN1,hN2,hN3,s0,s1,s2,s3,eM.symm];refine⟨⟨rfl,rfl,rfl,rfl,rfl,.inr ⟨rfl,_,_,rfl,rfl,rfl,rfl⟩⟩,⟨rfl,rfl,rfl,rfl,rfl,.inl ⟨rfl,rfl⟩⟩,⟨rfl,rfl,rfl,rfl,rfl,.inl ⟨rfl,rfl⟩⟩,⟨rfl,rfl,rfl,rfl,rfl,.inl ⟨rfl,rfl⟩⟩,⟨rfl,rfl,rfl,rfl,rfl,.inl ⟨rfl,?_⟩⟩,trivial⟩;simp [Qdq]
  case neg=>
   have hA':=ltF hA;obtain rfl:i=l.length:=by omega
   have et:l.take l.length=l:=List.take_length;rw [et];unfold aB;have q0:=Qfw 0 l;have q1:=Qfw 1 l;have q2:=Qfw 2 l;have q3:=Qfw 3 l;have e0:numE 0 l=dd (srtI (allE 0 l)):=rfl;have e1:numE 1 l=dd (srtI (allE 1 l)):=rfl;have e2:numE 2 l=dd (srtI (allE 2 l)):=rfl;have e3:numE 3 l=dd (srtI (allE 3 l)):=rfl;rw [e0,e1,e2,e3];clear e0 e1 e2 e3;have hS: ∀xs:List Int,xs.length=2*l.length→Qct Tryz.prog 48 [.bs 1000000 1 0 (2*l.length)] [(1000000,iB1 xs)] (.tup []) [(1000000,iB1 (srtI xs))]:=fun xs h=>by
    have:=Zth xs (by omega);rw [h]at this;exact this
   have hC: ∀xs:List Int,xs.length=2*l.length→Qct Tryz.prog 49 [.bs 1000000 1 0 (2*l.length)] [(1000000,iB1 (srtI xs))] (.bs 1000000 1 0 (dd (srtI xs)).length) [(1000000,iB1 (ddB (srtI xs)))]:=fun xs h=>by
    have:=Q77 (srtI xs) (by rw [Ql5];omega);rw [Ql5,h]at this;exact this
   have S0:=hS _ q0;have S1:=hS _ q1;have S2:=hS _ q2;have S3:=hS _ q3;have C0:=hC _ q0;have C1:=hC _ q1;have C2:=hC _ q2;have C3:=hC _ q3;have t0:=Ql8 (srtI (allE 0 l));have t1:=Ql8 (srtI (allE 1 l));have t2:=Ql8 (srtI (allE 2 l));have t3:=Ql8 (srtI (allE 3 l));have u0:=Qts (ddB (srtI (allE 0 l)));have u1:=Qts (ddB (srtI (allE 1 l)));have u2:=Qts (ddB (srtI (allE 2 l)));have u3:=Qts (ddB (srtI (allE 3 l)));have v0:((dd (srtI (allE 0 l))).length≤((ddB (srtI (allE 0 l))).length))=True:=eq_true (by have:=Ql9 (srtI (allE 0 l));rwa [List.length_map]at this);have v1:((dd (srtI (allE 1 l))).length≤((ddB (srtI (allE 1 l))).length))=True:=eq_true (by have:=Ql9 (srtI (allE 1 l));rwa [List.length_map]at this);have v2:((dd (srtI (allE 2 l))).length≤((ddB (srtI (allE 2 l))).length))=True:=eq_true (by have:=Ql9 (srtI (allE 2 l));rwa [List.length_map]at this);have v3:((dd (srtI (allE 3 l))).length≤((ddB (srtI (allE 3 l))).length))=True:=eq_true (by have:=Ql9 (srtI (allE 3 l));rwa [List.length_map]at this);clear hS hC;generalize dd (srtI (allE 0 l))=D0 at*;generalize ddB (srtI (allE 0 l))=E0 at*;generalize srtI (allE 0 l)=F0 at*;generalize allE 0 l=G0 at*;generalize dd (srtI (allE 1 l))=D1 at*;generalize ddB (srtI (allE 1 l))=E1 at*;generalize srtI (allE 1 l)=F1 at*;generalize allE 1 l=G1 at*;generalize dd (srtI (allE 2 l))=D2 at*;generalize ddB (srtI (allE 2 l))=E2 at*;generalize srtI (allE 2 l)=F2 at*;generalize allE 2 l=G2 at*;generalize dd (srtI (allE 3 l))=D3 at*
   generalize ddB (srtI (allE 3 l))=E3 at*;generalize srtI (allE 3 l)=F3 at*;generalize allE 3 l=G3 at*;repeat simp only [go_sem,seval,hA']
   have bl7:Nat.ble 1000000 7=false:=rfl;refine Zex mixed [0,1,2,3,4] (St.of [(3,.bp 100 4 0 0),(50,.int .i64 0)] [(100,{els:=[.agg [.bs 7 1 0 (2*l.length),.bs 11 1 0 (2*l.length),.bs 12 1 0 (2*l.length),.bs 13 1 0 (2*l.length)]],esz:=4,ety:=107,fro:=0,live:=true,arr:=false}),(7,iB1 G0),(11,iB1 G1),(12,iB1 G2),(13,iB1 G3)]) (Qaj (θ:=[(100,100),(7,10),(11,11),(12,12),(13,13)]) rfl ?_ ?_) ?_
   ·simp [Qae,lkp,ren1,ren0,Qai]
   ·exact⟨⟨rfl,rfl,rfl,rfl,rfl,.inr ⟨rfl,_,_,rfl,rfl,rfl,rfl⟩⟩,⟨rfl,rfl,rfl,rfl,rfl,.inl ⟨rfl,rfl⟩⟩,⟨rfl,rfl,rfl,rfl,rfl,.inl ⟨rfl,rfl⟩⟩,⟨rfl,rfl,rfl,rfl,rfl,.inl ⟨rfl,rfl⟩⟩,⟨rfl,rfl,rfl,rfl,rfl,.inl ⟨rfl,rfl⟩⟩,trivial⟩
   repeat (first|simp only [go_sem,seval,nc_4,wo_1]|(with_reducible refine Qa4 S0 ?_ ?_ ?_ ?_);rfl;rfl;rfl|(with_reducible refine Qa4 C0 ?_ ?_ ?_ ?_);rfl;rfl;rfl)
   refine⟨St.of [(3,.bp 100 4 0 0),(50,.int .i64 1)] [(100,{els:=[.agg [.bs 20 1 0 D0.length,.bs 7 1 0 (2*l.length),.bs 12 1 0 (2*l.length),.bs 13 1 0 (2*l.length)]],esz:=4,ety:=107,fro:=0,live:=true,arr:=false}),(20,iB1 E0),(7,iB1 G1),(12,iB1 G2),(13,iB1 G3)],Qaj (θ:=[(100,100),(20,7),(7,11),(12,12),(13,13)]) rfl ?_ ?_,?_⟩
   ·simp [Qae,lkp,ren1,ren0,Qai]
   ·exact⟨⟨rfl,rfl,rfl,rfl,rfl,.inr ⟨rfl,_,_,rfl,rfl,rfl,rfl⟩⟩,⟨rfl,rfl,rfl,rfl,rfl,.inl ⟨rfl,rfl⟩⟩,⟨rfl,rfl,rfl,rfl,rfl,.inl ⟨rfl,rfl⟩⟩,⟨rfl,rfl,rfl,rfl,rfl,.inl ⟨rfl,rfl⟩⟩,⟨rfl,rfl,rfl,rfl,rfl,.inl ⟨rfl,rfl⟩⟩,trivial⟩
   repeat (first|simp only [go_sem,seval,nc_4,wr_2]|(with_reducible refine Qa4 S1 ?_ ?_ ?_ ?_);rfl;rfl;rfl|(with_reducible refine Qa4 C1 ?_ ?_ ?_ ?_);rfl;rfl;rfl)
   refine⟨St.of [(3,.bp 100 4 0 0),(50,.int .i64 2)] [(100,{els:=[.agg [.bs 20 1 0 D0.length,.bs 21 1 0 D1.length,.bs 7 1 0 (2*l.length),.bs 13 1 0 (2*l.length)]],esz:=4,ety:=107,fro:=0,live:=true,arr:=false}),(20,iB1 E0),(21,iB1 E1),(7,iB1 G2),(13,iB1 G3)],Qaj (θ:=[(100,100),(20,20),(21,7),(7,12),(13,13)]) rfl ?_ ?_,?_⟩
   ·simp [Qae,lkp,ren1,ren0,Qai]
   ·exact⟨⟨rfl,rfl,rfl,rfl,rfl,.inr ⟨rfl,_,_,rfl,rfl,rfl,rfl⟩⟩,⟨rfl,rfl,rfl,rfl,rfl,.inl ⟨rfl,rfl⟩⟩,⟨rfl,rfl,rfl,rfl,rfl,.inl ⟨rfl,rfl⟩⟩,⟨rfl,rfl,rfl,rfl,rfl,.inl ⟨rfl,rfl⟩⟩,⟨rfl,rfl,rfl,rfl,rfl,.inl ⟨rfl,rfl⟩⟩,trivial⟩
   repeat (first|simp only [go_sem,seval,nc_4,wr_3]|(with_reducible refine Qa4 S2 ?_ ?_ ?_ ?_);rfl;rfl;rfl|(with_reducible refine Qa4 C2 ?_ ?_ ?_ ?_);rfl;rfl;rfl)
   refine⟨St.of [(3,.bp 100 4 0 0),(50,.int .i64 3)] [(100,{els:=[.agg [.bs 20 1 0 D0.length,.bs 21 1 0 D1.length,.bs 22 1 0 D2.length,.bs 7 1 0 (2*l.length)]],esz:=4,ety:=107,fro:=0,live:=true,arr:=false}),(20,iB1 E0),(21,iB1 E1),(22,iB1 E2),(7,iB1 G3)],Qaj (θ:=[(100,100),(20,20),(21,21),(22,7),(7,13)]) rfl ?_ ?_,?_⟩
   ·simp [Qae,lkp,ren1,ren0,Qai]
   ·exact⟨⟨rfl,rfl,rfl,rfl,rfl,.inr ⟨rfl,_,_,rfl,rfl,rfl,rfl⟩⟩,⟨rfl,rfl,rfl,rfl,rfl,.inl ⟨rfl,rfl⟩⟩,⟨rfl,rfl,rfl,rfl,rfl,.inl ⟨rfl,rfl⟩⟩,⟨rfl,rfl,rfl,rfl,rfl,.inl ⟨rfl,rfl⟩⟩,⟨rfl,rfl,rfl,rfl,rfl,.inl ⟨rfl,rfl⟩⟩,trivial⟩
   repeat (first|simp only [go_sem,seval,nc_4,wr_4]|(with_reducible refine Qa4 S3 ?_ ?_ ?_ ?_);rfl;rfl;rfl|(with_reducible refine Qa4 C3 ?_ ?_ ?_ ?_);rfl;rfl;rfl)
   refine⟨St.of [(3,.bp 100 4 0 0),(50,.int .i64 4)] [(100,{els:=[.agg [.bs 20 1 0 D0.length,.bs 21 1 0 D1.length,.bs 22 1 0 D2.length,.bs 23 1 0 D3.length]],esz:=4,ety:=107,fro:=0,live:=true,arr:=false}),(20,iB1 E0),(21,iB1 E1),(22,iB1 E2),(23,iB1 E3)],Qaj (θ:=[(100,100),(20,20),(21,21),(22,22),(23,7)]) rfl ?_ ?_,?_⟩
   ·simp [Qae,lkp,ren1,ren0,Qai]
   ·exact⟨⟨rfl,rfl,rfl,rfl,rfl,.inr ⟨rfl,_,_,rfl,rfl,rfl,rfl⟩⟩,⟨rfl,rfl,rfl,rfl,rfl,.inl ⟨rfl,rfl⟩⟩,⟨rfl,rfl,rfl,rfl,rfl,.inl ⟨rfl,rfl⟩⟩,⟨rfl,rfl,rfl,rfl,rfl,.inl ⟨rfl,rfl⟩⟩,⟨rfl,rfl,rfl,rfl,rfl,.inl ⟨rfl,rfl⟩⟩,trivial⟩
   repeat simp only [go_sem,seval,List.length_map,t0,t1,t2,t3,v0,v1,v2,v3]
theorem Q7b (l:List Wd) (Q:List (Int×Int×Int×Int)) (k:Nat) (h:k<Q.length):Qi4 l 0 (Q.take (k+1))=max (Qi4 l 0 (Q.take k)) (sqL l Q[k]):=by
 rw [Qcp Q k h,Qtg];rfl
def stB (l:List Wd) (Q:List (Int×Int×Int×Int)) (k:Nat):List (Nat×Box):=[(1000000,{els:=[wsPV l],esz:=1,ety:=29,fro:=0,live:=true,arr:=false}),(1000001,{els:=[.int .i64 (Qi4 l 0 (Q.take k))],esz:=1,ety:=3,fro:=0,live:=true,arr:=false})]
theorem Z3x (l:List Wd) (Q:List (Int×Int×Int×Int)) (k:Nat): ∀b∈ [1000000,1000001],(lkp (stB l Q k) b).isSome=true:=by simp [stB,lkp]
theorem Qma (k:Nat) {l:List Wd} (h:l.length≤8):(numE k l).length≤100000:=by
 have h1:=Q51 (srtI (allE k l));have h2:=Ql5 (allE k l);have h3:=Qfw k l;unfold numE;omega
set_option maxHeartbeats 8000000 in
set_option maxRecDepth 100000 in
theorem Qv3 (l:List Wd) (hl:l.length≤maxLen) (h6:Qba l=true→l.length≤8):Qaf Tryz.prog 15 [wsPV l] (if Qba l=true then .tup [.int .i64 (Qkg l),.int .i64 0]else .tup [.int .i64 0,.int .i64 2]):=by
 have v1:=Qgw l hl;cases hv:Qba l with
 |false=>
  rw [hv]at v1;refine Qab (tb:=[]) 41 [.tmp 2,.tmp 3] [0,1,2,3,4,5,6,7,10,12,13,14] mixed Tryz.func15 rfl (by kernel_rfl) ?_;repeat (first|simp -implicitDefEqProofs only [go_sem,seval,Bool.not_false,Bool.false_eq_true]|(with_reducible refine Qaa v1 ?_ ?_ ?_);rfl;rfl)
 |true=>
 rw [hv]at v1;simp only [if_true];have hc:=Zs1 l hv (h6 hv);have h8:=(Qbo hv).2;have hY:=Zf9 (numE 0 l) (numE 1 l) (numE 2 l) (numE 3 l) (Qma 0 h8) (Qma 1 h8) (Qma 2 h8) (Qma 3 h8);have eQ:c0 (numE 0 l) (numE 1 l) (numE 2 l) (numE 3 l)=Qpt l:=rfl;rw [eQ]at hY;unfold Qkg;generalize Qpt l=Q at*;have hlen:(Q.map oP).length=Q.length:=List.length_map _;have hmin:min (Q.map oP).length (Q.length+1)=Q.length:=by rw [hlen];omega
 generalize (numE 0 l).map (PV.int .i64)=E0 at*;generalize (numE 1 l).map (PV.int .i64)=E1 at*;generalize (numE 2 l).map (PV.int .i64)=E2 at*;generalize (numE 3 l).map (PV.int .i64)=E3 at*;refine Qab (tb:=[]) 41 [.tmp 2,.tmp 3] [0,1,2,3,4,5,6,7,10,12,13,14] mixed Tryz.func15 rfl (by kernel_rfl) ?_;repeat (first|simp -implicitDefEqProofs only [go_sem,seval,Bool.not_true]|(with_reducible refine Qaa v1 ?_ ?_ ?_);rfl;rfl|(with_reducible refine Qaa hc ?_ ?_ ?_);rfl;rfl)
 refine Qoy mixed hY rfl rfl _ rfl [(1000000,0),(1000001,300)] [1000000,1000001] rfl [(1,.bp 1000000 1 0 0),(4,.bp 1000001 1 0 0)] (stB l Q) rfl rfl ?_ ?_ ?_ Q.length .normal (fun h=>by rw [hlen]at h;omega) (fun k _ _=>Z3x l Q k) (fun k args h=> ?_) rfl (fun k args h hk=> ?_)
  [(0,1000000),(300,1000001)] [(1,.bp 0 1 0 0),(4,.bp 300 1 0 0)] [(0,{els:=[wsPV l],esz:=1,ety:=29,fro:=0,live:=true,arr:=false}),(300,{els:=[.int .i64 (Qi4 l 0 Q)],esz:=1,ety:=3,fro:=0,live:=true,arr:=false})] rfl rfl ?_ ?_ (fun _=> ?_) (fun h=>by rw [hlen]at h;omega)
 ·simp [Qae,lkp,ren1,ren0,Qai]
 ·simp only [stB,List.take_zero,Qi4];exact⟨⟨rfl,rfl,rfl,rfl,rfl,.inr ⟨rfl,_,_,rfl,rfl,rfl,rfl⟩⟩,⟨rfl,rfl,rfl,rfl,rfl,.inr ⟨rfl,_,_,rfl,rfl,rfl,rfl⟩⟩,trivial⟩
 ·simp [Qae,lkp,ren1,ren0,Qai,Qj4]
 ·simp only [List.getElem?_map,Option.map_eq_some_iff]at h;obtain⟨x, -,rfl⟩:=h;rfl
 ·simp only [List.getElem?_map,Option.map_eq_some_iff]at h;obtain⟨q,hx,rfl⟩:=h;obtain⟨hk2,e⟩:=List.getElem?_eq_some_iff.1 hx;have hsn:=Q7b l Q k hk2;rw [e]at hsn;obtain⟨x,y,z,t⟩:=q;have f1:=Qtr l x y z t h8;have f2:=Q67 l x y z t hv;have a0:=Qgj (g:=Wd.ux) (.inl rfl) hv x y z t;have a1:=Qgj (g:=Wd.uy) (.inr (.inl rfl)) hv x y z t;have a2:=Qgj (g:=Wd.uz) (.inr (.inr rfl)) hv x y z t;have b0:=Q6g a0;have b1:=Q6g a1;have b2:=Q6g a2;have es:sqL l (x,y,z,t)=atW Wd.ux l x y z t*atW Wd.ux l x y z t+atW Wd.uy l x y z t*atW Wd.uy l x y z t+atW Wd.uz l x y z t*atW Wd.uz l x y z t:=rfl;have eo:oP (x,y,z,t)=[.agg [.int .i64 x,.int .i64 y,.int .i64 z],.int .i64 t]:=rfl;rw [es]at hsn;rw [eo];unfold Q06 at f2;clear es eo e hx;generalize mask (blW x y z t) l=m at*;generalize atW Wd.ux l x y z t=u0 at*;generalize atW Wd.uy l x y z t=u1 at*;generalize atW Wd.uz l x y z t=u2 at*;have w0:IntKind.i64.wrap (u0*u0)=u0*u0:=Qag (by omega) (by omega);have w1:IntKind.i64.wrap (u1*u1)=u1*u1:=Qag (by omega) (by omega);have w2:IntKind.i64.wrap (u2*u2)=u2*u2:=Qag (by omega) (by omega);have w3:IntKind.i64.wrap (u0*u0+u1*u1)=u0*u0+u1*u1:=Qag (by omega) (by omega);have w4:IntKind.i64.wrap (u0*u0+u1*u1+u2*u2)=u0*u0+u1*u1+u2*u2:=Qag (by omega) (by omega);simp only [stB];generalize hM2:Qi4 l 0 (Q.take (k+1))=M2 at*;generalize Qi4 l 0 (Q.take k)=M at*;repeat simp -implicitDefEqProofs only [go_sem,seval,pvars,List.toList_toArray]
  refine⟨by simp [lkp],?_⟩;repeat (first|simp -implicitDefEqProofs only [go_sem,seval,w0,w1,w2,w3,w4,Zxy]|(with_reducible refine Qaa f1 ?_ ?_ ?_);rfl;rfl|(with_reducible refine Qaa f2 ?_ ?_ ?_);rfl;rfl|(with_reducible refine And.intro (Qac _ _ (by kernel_rfl)) ?_))
  refine⟨by omega,?_⟩;refine Qaj (θ:=[(1000000,1000000),(1000001,1000001)]) rfl ?_ ?_
  ·simp [Qae,lkp,ren1,ren0,Qai]
  ·simp only [stB,hM2,hsn];exact⟨⟨rfl,rfl,rfl,rfl,rfl,.inr ⟨rfl,_,_,rfl,rfl,rfl,rfl⟩⟩,⟨rfl,rfl,rfl,rfl,rfl,.inr ⟨rfl,_,_,rfl,rfl,rfl,rfl⟩⟩,trivial⟩
 ·simp [Qae,lkp,ren1,ren0,Qai]
 ·rw [hmin];simp only [stB,List.take_length];exact⟨⟨rfl,rfl,rfl,rfl,rfl,.inr ⟨rfl,_,_,rfl,rfl,rfl,rfl⟩⟩,⟨rfl,rfl,rfl,rfl,rfl,.inr ⟨rfl,_,_,rfl,rfl,rfl,rfl⟩⟩,trivial⟩
 ·repeat simp -implicitDefEqProofs only [go_sem,seval]
set_option maxRecDepth 100000 in
set_option maxHeartbeats 16000000 in
theorem Qo2 (p:Pg) (B:Bat) (W:List Wd) (g h one two more tr:Int) (hl:W.length≤maxLen) (i5:i64 one) (i6:i64 two) (i7:i64 more) (i8:i64 tr):
  Qaf Tryz.prog 3 [pgV p,baPV B,wsPV W,.agg [.int .i64 g,.int .i64 h],.int .i64 one,.int .i64 two,.int .i64 more,.int .i64 tr] (.bool true):=by
 skip
 have hk:=Zgg;have f1:=Z0i p;have f2:=Zzz W;by_cases hq:FewQ p
 case neg=>
  rw [decide_eq_false hq]at f1;unfold pgV baPV at*;refine Qab (tb:=[]) 254 [.tmp 16] [0,1,2,3,4,5,6,7,8,9,11,16,17,18,19,20,21,22,23,24,25,26,27,28,29,30,31,32,33,34,35,36,37,38,39,63,80,117,127,154,180,201,227,230,237] mixed Tryz.func3 rfl (by kernel_rfl) ?_;repeat (first|simp -implicitDefEqProofs only [go_sem,seval,Bool.not_false]|(with_reducible refine Qaa f1 ?_ ?_ ?_);rfl;rfl|(with_reducible refine Qaa hk ?_ ?_ ?_);rfl;rfl)
 rw [decide_eq_true hq]at f1;by_cases h9:W.length≤9
 case neg=>
  rw [decide_eq_false h9]at f2;unfold pgV baPV at*;refine Qab (tb:=[]) 254 [.tmp 16] [0,1,2,3,4,5,6,7,8,9,11,16,17,18,19,20,21,22,23,24,25,26,27,28,29,30,31,32,33,34,35,36,37,38,39,63,80,117,127,154,180,201,227,230,237] mixed Tryz.func3 rfl (by kernel_rfl) ?_;repeat (first|simp -implicitDefEqProofs only [go_sem,seval,Bool.not_false,Bool.not_true]|(with_reducible refine Qaa f1 ?_ ?_ ?_);rfl;rfl|(with_reducible refine Qaa f2 ?_ ?_ ?_);rfl;rfl|(with_reducible refine Qaa hk ?_ ?_ ?_);rfl;rfl)
 rw [decide_eq_true h9]at f2;have hf:=Q7v hq;have ok:=Qpu hf;by_cases m0:0≤more
 case neg=>
  have m0':(more<0)=True:=eq_true (by omega);unfold pgV baPV at*;refine Qab (tb:=[]) 254 [.tmp 16] [0,1,2,3,4,5,6,7,8,9,11,16,17,18,19,20,21,22,23,24,25,26,27,28,29,30,31,32,33,34,35,36,37,38,39,63,80,117,127,154,180,201,227,230,237] mixed Tryz.func3 rfl (by kernel_rfl) ?_;repeat (first|simp -implicitDefEqProofs only [go_sem,seval,m0',decide_true,Bool.not_true]|(with_reducible refine Qaa f1 ?_ ?_ ?_);rfl;rfl|(with_reducible refine Qaa f2 ?_ ?_ ?_);rfl;rfl|(with_reducible refine Qaa hk ?_ ?_ ?_);rfl;rfl)
 have m0':(more<0)=False:=eq_false (by omega);by_cases m1:more≤1000
 case neg=>
  have m1':(1000<more)=True:=eq_true (by omega);unfold pgV baPV at*;refine Qab (tb:=[]) 254 [.tmp 16] [0,1,2,3,4,5,6,7,8,9,11,16,17,18,19,20,21,22,23,24,25,26,27,28,29,30,31,32,33,34,35,36,37,38,39,63,80,117,127,154,180,201,227,230,237] mixed Tryz.func3 rfl (by kernel_rfl) ?_;repeat (first|simp -implicitDefEqProofs only [go_sem,seval,m0',m1',decide_true,decide_false,Bool.not_true]|(with_reducible refine Qaa f1 ?_ ?_ ?_);rfl;rfl|(with_reducible refine Qaa f2 ?_ ?_ ?_);rfl;rfl|(with_reducible refine Qaa hk ?_ ?_ ?_);rfl;rfl)
 have m1':(1000<more)=False:=eq_false (by omega);by_cases t0:1≤tr
 case neg=>
  have t0':(tr<1)=True:=eq_true (by omega);unfold pgV baPV at*;refine Qab (tb:=[]) 254 [.tmp 16] [0,1,2,3,4,5,6,7,8,9,11,16,17,18,19,20,21,22,23,24,25,26,27,28,29,30,31,32,33,34,35,36,37,38,39,63,80,117,127,154,180,201,227,230,237] mixed Tryz.func3 rfl (by kernel_rfl) ?_;repeat (first|simp -implicitDefEqProofs only [go_sem,seval,m0',m1',t0',decide_true,decide_false,Bool.not_true]|(with_reducible refine Qaa f1 ?_ ?_ ?_);rfl;rfl|(with_reducible refine Qaa f2 ?_ ?_ ?_);rfl;rfl|(with_reducible refine Qaa hk ?_ ?_ ?_);rfl;rfl)
 have t0':(tr<1)=False:=eq_false (by omega);by_cases t1:tr≤4
 case neg=>
  have t1':(4<tr)=True:=eq_true (by omega);unfold pgV baPV at*;refine Qab (tb:=[]) 254 [.tmp 16] [0,1,2,3,4,5,6,7,8,9,11,16,17,18,19,20,21,22,23,24,25,26,27,28,29,30,31,32,33,34,35,36,37,38,39,63,80,117,127,154,180,201,227,230,237] mixed Tryz.func3 rfl (by kernel_rfl) ?_;repeat (first|simp -implicitDefEqProofs only [go_sem,seval,m0',m1',t0',t1',decide_true,decide_false,Bool.not_true]|(with_reducible refine Qaa f1 ?_ ?_ ?_);rfl;rfl|(with_reducible refine Qaa f2 ?_ ?_ ?_);rfl;rfl|(with_reducible refine Qaa hk ?_ ?_ ?_);rfl;rfl)
 have t1':(4<tr)=False:=eq_false (by omega);obtain⟨n,rfl⟩: ∃n:Nat,tr=(n:Int):=⟨tr.toNat,by omega⟩;refine Zq1 254 [.tmp 16] Tryz.func3 rfl (by kernel_rfl) (by kernel_rfl) (by kernel_rfl) (by kernel_rfl) ?_;refine Qit mixed [] [0,1,2,3,4,5,6,7,8,9,11,16,17,18,19,20,21,22,23,24,25,26,27,28,29,30,31,32,33,34,35,36,37,38,39,63,80,117,127,154,180,201,227,230,237] 2 rfl (St.of [(2,wsPV W),(4,.int .i64 one),(5,.int .i64 two),(6,.int .i64 more),(7,.int .i64 (n:Int)),(8,.bp 0 3 0 0),(9,.bp 1 5 0 0),(11,.bp 2 2 0 0)] [(0,{els:=[pgV p],esz:=3,ety:=26,fro:=0,live:=true,arr:=false}),(1,{els:=[baPV B],esz:=5,ety:=28,fro:=0,live:=true,arr:=false}),(2,{els:=[.agg [.int .i64 g,.int .i64 h]],esz:=2,ety:=31,fro:=0,live:=true,arr:=false})]) ?_ ?_
 ·simp only [codes,Qgi,List.take_succ_cons,List.take_zero,List.drop_succ_cons,List.drop_zero,List.foldr_cons,List.foldr_nil];unfold pgV baPV at*;repeat (first|simp -implicitDefEqProofs only [go_sem,seval,m0',m1',t0',t1',decide_true,decide_false,Bool.not_true]|(with_reducible refine Qaa f1 ?_ ?_ ?_);rfl;rfl|(with_reducible refine Qaa f2 ?_ ?_ ?_);rfl;rfl)
  refine Qaj (θ:=[(0,0),(1,1),(2,2)]) rfl ?_ ?_
  ·simp [Qae,lkp,ren1,ren0,Qai]
  ·exact⟨⟨rfl,rfl,rfl,rfl,rfl,.inr ⟨rfl,_,_,rfl,rfl,rfl,rfl⟩⟩,⟨rfl,rfl,rfl,rfl,rfl,.inr ⟨rfl,_,_,rfl,rfl,rfl,rfl⟩⟩,⟨rfl,rfl,rfl,rfl,rfl,.inr ⟨rfl,_,_,rfl,rfl,rfl,rfl⟩⟩,trivial⟩
 refine Qit mixed [] [0,1,2,3,4,5,6,7,8,9,11,16,17,18,19,20,21,22,23,24,25,26,27,28,29,30,31,32,33,34,35,36,37,38,39,63,80,117,127,154,180,201,227,230,237] 1 rfl (St.of [(2,wsPV W),(6,.int .i64 more),(7,.int .i64 (n:Int)),(8,.bp 0 3 0 0),(9,.bp 1 5 0 0),(11,.bp 2 2 0 0)] [(0,{els:=[pgV p],esz:=3,ety:=26,fro:=0,live:=true,arr:=false}),(1,{els:=[baPV B],esz:=5,ety:=28,fro:=0,live:=true,arr:=false}),(2,{els:=[.agg [.int .i64 g,.int .i64 h]],esz:=2,ety:=31,fro:=0,live:=true,arr:=false})]) ?_ ?_
 ·simp only [codes,Qgi,List.take_succ_cons,List.take_zero,List.drop_succ_cons,List.drop_zero,List.foldr_cons,List.foldr_nil];unfold pgV baPV;clear f1 f2 hk;by_cases a0:0≤one
  case neg=>
   have a0':=eq_false a0;repeat simp -implicitDefEqProofs only [go_sem,seval,a0',decide_false]
   refine Qaj (θ:=[(0,0),(1,1),(2,2)]) rfl ?_ ?_
   ·simp [Qae,lkp,ren1,ren0,Qai]
   ·exact⟨⟨rfl,rfl,rfl,rfl,rfl,.inr ⟨rfl,_,_,rfl,rfl,rfl,rfl⟩⟩,⟨rfl,rfl,rfl,rfl,rfl,.inr ⟨rfl,_,_,rfl,rfl,rfl,rfl⟩⟩,⟨rfl,rfl,rfl,rfl,rfl,.inr ⟨rfl,_,_,rfl,rfl,rfl,rfl⟩⟩,trivial⟩
  have a0':=eq_true a0;by_cases b0:0≤two
  case neg=>
   have b0':=eq_false b0;repeat simp -implicitDefEqProofs only [go_sem,seval,a0',b0',decide_true,decide_false]
   refine Qaj (θ:=[(0,0),(1,1),(2,2)]) rfl ?_ ?_
   ·simp [Qae,lkp,ren1,ren0,Qai]
   ·exact⟨⟨rfl,rfl,rfl,rfl,rfl,.inr ⟨rfl,_,_,rfl,rfl,rfl,rfl⟩⟩,⟨rfl,rfl,rfl,rfl,rfl,.inr ⟨rfl,_,_,rfl,rfl,rfl,rfl⟩⟩,⟨rfl,rfl,rfl,rfl,rfl,.inr ⟨rfl,_,_,rfl,rfl,rfl,rfl⟩⟩,trivial⟩
  have b0':=eq_true b0;by_cases a1:one≤3600000
  case neg=>
   have a1':=eq_false a1;repeat simp -implicitDefEqProofs only [go_sem,seval,a0',b0',a1',decide_true,decide_false]
   refine Qaj (θ:=[(0,0),(1,1),(2,2)]) rfl ?_ ?_
   ·simp [Qae,lkp,ren1,ren0,Qai]
   ·exact⟨⟨rfl,rfl,rfl,rfl,rfl,.inr ⟨rfl,_,_,rfl,rfl,rfl,rfl⟩⟩,⟨rfl,rfl,rfl,rfl,rfl,.inr ⟨rfl,_,_,rfl,rfl,rfl,rfl⟩⟩,⟨rfl,rfl,rfl,rfl,rfl,.inr ⟨rfl,_,_,rfl,rfl,rfl,rfl⟩⟩,trivial⟩
  have a1':=eq_true a1;have w1:IntKind.i64.wrap (3600000-one)=3600000-one:=Qag (by omega) (by omega);by_cases b1:two≤3600000-one
  case neg=>
   have b1':=eq_false b1;repeat simp -implicitDefEqProofs only [go_sem,seval,a0',b0',a1',b1',w1,decide_true,decide_false]
   refine Qaj (θ:=[(0,0),(1,1),(2,2)]) rfl ?_ ?_
   ·simp [Qae,lkp,ren1,ren0,Qai]
   ·exact⟨⟨rfl,rfl,rfl,rfl,rfl,.inr ⟨rfl,_,_,rfl,rfl,rfl,rfl⟩⟩,⟨rfl,rfl,rfl,rfl,rfl,.inr ⟨rfl,_,_,rfl,rfl,rfl,rfl⟩⟩,⟨rfl,rfl,rfl,rfl,rfl,.inr ⟨rfl,_,_,rfl,rfl,rfl,rfl⟩⟩,trivial⟩
  have b1':=eq_true b1;have w2:IntKind.i64.wrap (one+two)=one+two:=Qag (by omega) (by omega);have g1:=Qil W one hl;have g3:=Qil W (one+two) hl;unfold mvPV at g1 g3;cases hv:Qba W with
  |false=>
   rw [if_neg (fun q=>by rw [hv]at q;exact Bool.false_ne_true q.1)]at g1 g3;have g2:=Qil [] two (Nat.zero_le _);unfold mvPV at g2;rw [if_pos ⟨rfl,b0,by omega⟩,show Qcw two []=[]from rfl]at g2;unfold wsPV at g2;rw [List.map_nil]at g2;have z20:((2:Int)==0)=false:=rfl;repeat (first|simp -implicitDefEqProofs only [go_sem,seval,a0',b0',a1',b1',w1,w2,z20,decide_true,bne_self_eq_false,Bool.false_and]|(with_reducible refine Qaa g1 ?_ ?_ ?_);rfl;rfl|(with_reducible refine Qaa g2 ?_ ?_ ?_);rfl;rfl|(with_reducible refine Qaa g3 ?_ ?_ ?_);rfl;rfl)
   refine Qaj (θ:=[(0,0),(1,1),(2,2)]) rfl ?_ ?_
   ·simp [Qae,lkp,ren1,ren0,Qai]
   ·exact⟨⟨rfl,rfl,rfl,rfl,rfl,.inr ⟨rfl,_,_,rfl,rfl,rfl,rfl⟩⟩,⟨rfl,rfl,rfl,rfl,rfl,.inr ⟨rfl,_,_,rfl,rfl,rfl,rfl⟩⟩,⟨rfl,rfl,rfl,rfl,rfl,.inr ⟨rfl,_,_,rfl,rfl,rfl,rfl⟩⟩,trivial⟩
  |true=>
   rw [if_pos ⟨hv,a0,a1⟩]at g1;rw [if_pos ⟨hv,by omega,by omega⟩]at g3;have g2:=Qil (Qcw one W) two (Nat.le_trans (Qki one W) hl);unfold mvPV at g2;rw [if_pos ⟨Qk4 hv a0,b0,by omega⟩,Qkk a0 b0]at g2;have g4:=Zs2 (Qcw (one+two) W) (Nat.le_trans (Qki _ W) (by have:=(Qbo hv).2;omega));generalize Qcw (one+two) W=M2 at*;generalize Qcw one W=M1 at*;repeat (first|simp -implicitDefEqProofs only [go_sem,seval,a0',b0',a1',b1',w1,w2,z00,decide_true,bne_self_eq_false,Bool.and_self,Bool.not_true]|(with_reducible refine Qaa g1 ?_ ?_ ?_);rfl;rfl|(with_reducible refine Qaa g2 ?_ ?_ ?_);rfl;rfl|(with_reducible refine Qaa g3 ?_ ?_ ?_);rfl;rfl|(with_reducible refine Qaa g4 ?_ ?_ ?_);rfl;rfl)
   refine Qaj (θ:=[(0,0),(1,1),(2,2)]) rfl ?_ ?_
   ·simp [Qae,lkp,ren1,ren0,Qai]
   ·exact⟨⟨rfl,rfl,rfl,rfl,rfl,.inr ⟨rfl,_,_,rfl,rfl,rfl,rfl⟩⟩,⟨rfl,rfl,rfl,rfl,rfl,.inr ⟨rfl,_,_,rfl,rfl,rfl,rfl⟩⟩,⟨rfl,rfl,rfl,rfl,rfl,.inr ⟨rfl,_,_,rfl,rfl,rfl,rfl⟩⟩,trivial⟩
 clear f1 f2;have f1:=Qja p B W g h hf hl;unfold Qv7 at f1;by_cases e0:decE W B p g h=0
 case neg=>
  rw [if_neg e0]at f1;have ne:(decE W B p g h != 0)=true:=bne_iff_ne.2 e0;generalize decE W B p g h=E at*;refine v_go (tb:=[]) (ks:=[0,1,2,3,4,5,6,7,8,9,11,16,17,18,19,20,21,22,23,24,25,26,27,28,29,30,31,32,33,34,35,36,37,38,39,63,80,117,127,154,180,201,227,230,237]) mixed ?_;simp only [codes,Qgi,List.take_succ_cons,List.take_zero,List.drop_succ_cons,List.drop_zero,List.foldr_cons,List.foldr_nil];unfold pgV baPV at*;repeat (first|simp -implicitDefEqProofs only [go_sem,seval,ne,z00,Bool.and_self,Bool.true_and]|(with_reducible refine Qaa f1 ?_ ?_ ?_);rfl;rfl|(with_reducible refine Qaa hk ?_ ?_ ?_);rfl;rfl)
 rw [e0,if_pos rfl]at f1;have eR:rulB g h=true:=by
  cases q:rulB g h with
  |true=>rfl
  |false=>unfold decE at e0;rw [if_neg (by rw [q];exact Bool.false_ne_true)]at e0;exact absurd e0 (by decide)
 have eG:Qd6 p B W=0:=by unfold decE at e0;rwa [if_pos eR]at e0
 obtain⟨r0,r1,r2⟩:=Qtw eR;obtain⟨v,hw,hB,hN⟩:=Qhq eG;have hbp:=Qdc hB;refine Qit mixed [] [0,1,2,3,4,5,6,7,8,9,11,16,17,18,19,20,21,22,23,24,25,26,27,28,29,30,31,32,33,34,35,36,37,38,39,63,80,117,127,154,180,201,227,230,237] 2 rfl (St.of [(2,wsPV W),(6,.int .i64 more),(7,.int .i64 (n:Int)),(8,.bp 0 3 0 0),(9,.bp 1 5 0 0),(11,.bp 2 2 0 0),(23,.int .i64 (decI W B p g h))] [(0,{els:=[pgV p],esz:=3,ety:=26,fro:=0,live:=true,arr:=false}),(1,{els:=[baPV B],esz:=5,ety:=28,fro:=0,live:=true,arr:=false}),(2,{els:=[.agg [.int .i64 g,.int .i64 h]],esz:=2,ety:=31,fro:=0,live:=true,arr:=false})]) ?_ ?_
 ·simp only [codes,Qgi,List.take_succ_cons,List.take_zero,List.drop_succ_cons,List.drop_zero,List.foldr_cons,List.foldr_nil];clear hk;generalize decI W B p g h=D at*;unfold pgV baPV at*;repeat (first|simp -implicitDefEqProofs only [go_sem,seval,n0_0]|(with_reducible refine Qaa f1 ?_ ?_ ?_);rfl;rfl)
  refine Qaj (θ:=[(0,0),(1,1),(2,2)]) rfl ?_ ?_
  ·simp [Qae,lkp,ren1,ren0,Qai]
  ·exact⟨⟨rfl,rfl,rfl,rfl,rfl,.inr ⟨rfl,_,_,rfl,rfl,rfl,rfl⟩⟩,⟨rfl,rfl,rfl,rfl,rfl,.inr ⟨rfl,_,_,rfl,rfl,rfl,rfl⟩⟩,⟨rfl,rfl,rfl,rfl,rfl,.inr ⟨rfl,_,_,rfl,rfl,rfl,rfl⟩⟩,trivial⟩
 clear f1;refine Qit mixed [] [0,1,2,3,4,5,6,7,8,9,11,16,17,18,19,20,21,22,23,24,25,26,27,28,29,30,31,32,33,34,35,36,37,38,39,63,80,117,127,154,180,201,227,230,237] 3 rfl (St.of [(2,wsPV W),(6,.int .i64 more),(7,.int .i64 (n:Int)),(8,.bp 0 3 0 0),(9,.bp 1 5 0 0),(11,.bp 2 2 0 0),(23,.int .i64 (decI W B p g h))] [(0,{els:=[pgV p],esz:=3,ety:=26,fro:=0,live:=true,arr:=false}),(1,{els:=[baPV B],esz:=5,ety:=28,fro:=0,live:=true,arr:=false}),(2,{els:=[.agg [.int .i64 g,.int .i64 h]],esz:=2,ety:=31,fro:=0,live:=true,arr:=false})]) ?_ ?_
 ·simp only [codes,Qgi,List.take_succ_cons,List.take_zero,List.drop_succ_cons,List.drop_zero,List.foldr_cons,List.foldr_nil];clear hk;have g1:=Qv6 p W hf hl;have g2:=Qv3 W hl (fun _=>(Qbo hw).2);unfold Q7z at g1;rw [Qzd eG,if_pos rfl]at g1;rw [if_pos hw]at g2;have hle:=Z0g W p;have c1:(Qkg W<wstI W p)=False:=eq_false (by omega);generalize decI W B p g h=D at*;generalize Qkg W=M at*;generalize wstI W p=N at*;unfold pgV baPV at*;repeat (first|simp -implicitDefEqProofs only [go_sem,seval,n0_0,c1,decide_false]|(with_reducible refine Qaa g1 ?_ ?_ ?_);rfl;rfl|(with_reducible refine Qaa g2 ?_ ?_ ?_);rfl;rfl)
  refine Qaj (θ:=[(0,0),(1,1),(2,2)]) rfl ?_ ?_
  ·simp [Qae,lkp,ren1,ren0,Qai]
  ·exact⟨⟨rfl,rfl,rfl,rfl,rfl,.inr ⟨rfl,_,_,rfl,rfl,rfl,rfl⟩⟩,⟨rfl,rfl,rfl,rfl,rfl,.inr ⟨rfl,_,_,rfl,rfl,rfl,rfl⟩⟩,⟨rfl,rfl,rfl,rfl,rfl,.inr ⟨rfl,_,_,rfl,rfl,rfl,rfl⟩⟩,trivial⟩
 refine Qit mixed [] [0,1,2,3,4,5,6,7,8,9,11,16,17,18,19,20,21,22,23,24,25,26,27,28,29,30,31,32,33,34,35,36,37,38,39,63,80,117,127,154,180,201,227,230,237] 3 rfl (St.of [(2,wsPV W),(6,.int .i64 more),(7,.int .i64 (n:Int)),(8,.bp 0 3 0 0),(9,.bp 1 5 0 0),(11,.bp 2 2 0 0),(23,.int .i64 (decI W B p g h))] [(0,{els:=[pgV p],esz:=3,ety:=26,fro:=0,live:=true,arr:=false}),(1,{els:=[baPV B],esz:=5,ety:=28,fro:=0,live:=true,arr:=false}),(2,{els:=[.agg [.int .i64 g,.int .i64 h]],esz:=2,ety:=31,fro:=0,live:=true,arr:=false})]) ?_ ?_
 ·simp only [codes,Qgi,List.take_succ_cons,List.take_zero,List.drop_succ_cons,List.drop_zero,List.foldr_cons,List.foldr_nil];clear hk;have g1:=Qja p B W (g+more) (h+more) hf hl;have w1:IntKind.i64.wrap (g+more)=g+more:=Qag (by omega) (by omega);have w2:IntKind.i64.wrap (h+more)=h+more:=Qag (by omega) (by omega);unfold Qv7 decE at g1;cases eR2:rulB (g+more) (h+more)with
  |false=>
   rw [eR2,if_neg Bool.false_ne_true,if_neg (by decide)]at g1;have z20:((2:Int)==0)=false:=rfl;generalize decI W B p g h=D at*;unfold pgV baPV at*;repeat (first|simp -implicitDefEqProofs only [go_sem,seval,w1,w2,z20]|(with_reducible refine Qaa g1 ?_ ?_ ?_);rfl;rfl|(with_reducible refine And.intro (Qac _ _ (by kernel_rfl)) ?_))
   refine Qaj (θ:=[(0,0),(1,1),(2,2)]) rfl ?_ ?_
   ·simp [Qae,lkp,ren1,ren0,Qai]
   ·exact⟨⟨rfl,rfl,rfl,rfl,rfl,.inr ⟨rfl,_,_,rfl,rfl,rfl,rfl⟩⟩,⟨rfl,rfl,rfl,rfl,rfl,.inr ⟨rfl,_,_,rfl,rfl,rfl,rfl⟩⟩,⟨rfl,rfl,rfl,rfl,rfl,.inr ⟨rfl,_,_,rfl,rfl,rfl,rfl⟩⟩,trivial⟩
  |true=>
   rw [if_pos eR2,eG,if_pos rfl]at g1;have hle:decI W B p (g+more) (h+more)≤decI W B p g h:=Q7t r0 r1 m0;have c1:(decI W B p g h<decI W B p (g+more) (h+more))=False:=eq_false (by omega);generalize decI W B p g h=D at*;generalize decI W B p (g+more) (h+more)=D2 at*;unfold pgV baPV at*;repeat (first|simp -implicitDefEqProofs only [go_sem,seval,w1,w2,z00,c1,decide_false]|(with_reducible refine Qaa g1 ?_ ?_ ?_);rfl;rfl|(with_reducible refine And.intro (Qac _ _ (by kernel_rfl)) ?_))
   refine Qaj (θ:=[(0,0),(1,1),(2,2)]) rfl ?_ ?_
   ·simp [Qae,lkp,ren1,ren0,Qai]
   ·exact⟨⟨rfl,rfl,rfl,rfl,rfl,.inr ⟨rfl,_,_,rfl,rfl,rfl,rfl⟩⟩,⟨rfl,rfl,rfl,rfl,rfl,.inr ⟨rfl,_,_,rfl,rfl,rfl,rfl⟩⟩,⟨rfl,rfl,rfl,rfl,rfl,.inr ⟨rfl,_,_,rfl,rfl,rfl,rfl⟩⟩,trivial⟩
 refine Qit mixed [] [0,1,2,3,4,5,6,7,8,9,11,16,17,18,19,20,21,22,23,24,25,26,27,28,29,30,31,32,33,34,35,36,37,38,39,63,80,117,127,154,180,201,227,230,237] 3 rfl (St.of [(2,wsPV W),(7,.int .i64 (n:Int)),(8,.bp 0 3 0 0),(9,.bp 1 5 0 0),(11,.bp 2 2 0 0)] [(0,{els:=[pgV p],esz:=3,ety:=26,fro:=0,live:=true,arr:=false}),(1,{els:=[baPV B],esz:=5,ety:=28,fro:=0,live:=true,arr:=false}),(2,{els:=[.agg [.int .i64 g,.int .i64 h]],esz:=2,ety:=31,fro:=0,live:=true,arr:=false})]) ?_ ?_
 ·simp only [codes,Qgi,List.take_succ_cons,List.take_zero,List.drop_succ_cons,List.drop_zero,List.foldr_cons,List.foldr_nil];clear hk;have g1:=Qja p (capW B more) W g h hf hl;have w1:IntKind.i64.wrap (B.cap+more)=B.cap+more:=Qag (by omega) (by omega);unfold Qv7 decE at g1;rw [if_pos eR]at g1;have eb:baPV (capW B more)= .agg [.int .i64 B.base,.int .i64 B.climb,.int .i64 B.drag,.int .i64 (B.cap+more),.int .i64 B.res]:=rfl;rw [eb]at g1;by_cases e2:Qd6 p (capW B more) W=0
  case neg=>
   rw [if_neg e2]at g1;have z0:(Qd6 p (capW B more) W==0)=false:=beq_eq_false_iff_ne.2 e2;generalize Qd6 p (capW B more) W=E at*;generalize decI W B p g h=D at*;unfold pgV baPV at*;repeat (first|simp -implicitDefEqProofs only [go_sem,seval,w1,z0]|(with_reducible refine Qaa g1 ?_ ?_ ?_);rfl;rfl)
   refine Qaj (θ:=[(0,0),(1,1),(2,2)]) rfl ?_ ?_
   ·simp [Qae,lkp,ren1,ren0,Qai]
   ·exact⟨⟨rfl,rfl,rfl,rfl,rfl,.inr ⟨rfl,_,_,rfl,rfl,rfl,rfl⟩⟩,⟨rfl,rfl,rfl,rfl,rfl,.inr ⟨rfl,_,_,rfl,rfl,rfl,rfl⟩⟩,⟨rfl,rfl,rfl,rfl,rfl,.inr ⟨rfl,_,_,rfl,rfl,rfl,rfl⟩⟩,trivial⟩
  rw [e2,if_pos rfl]at g1;have hle:decI W (capW B more) p g h≤decI W B p g h:=Zgs m0 g h;have c1:(decI W B p g h<decI W (capW B more) p g h)=False:=eq_false (by omega);generalize decI W B p g h=D at*;generalize decI W (capW B more) p g h=D2 at*;unfold pgV baPV at*;repeat (first|simp -implicitDefEqProofs only [go_sem,seval,w1,z00,c1,decide_false]|(with_reducible refine Qaa g1 ?_ ?_ ?_);rfl;rfl)
  refine Qaj (θ:=[(0,0),(1,1),(2,2)]) rfl ?_ ?_
  ·simp [Qae,lkp,ren1,ren0,Qai]
  ·exact⟨⟨rfl,rfl,rfl,rfl,rfl,.inr ⟨rfl,_,_,rfl,rfl,rfl,rfl⟩⟩,⟨rfl,rfl,rfl,rfl,rfl,.inr ⟨rfl,_,_,rfl,rfl,rfl,rfl⟩⟩,⟨rfl,rfl,rfl,rfl,rfl,.inr ⟨rfl,_,_,rfl,rfl,rfl,rfl⟩⟩,trivial⟩
 refine v_go (tb:=[]) (ks:=[0,1,2,3,4,5,6,7,8,9,11,16,17,18,19,20,21,22,23,24,25,26,27,28,29,30,31,32,33,34,35,36,37,38,39,63,80,117,127,154,180,201,227,230,237]) mixed ?_;simp only [codes,Qgi,List.take_succ_cons,List.take_zero,List.drop_succ_cons,List.drop_zero,List.foldr_cons,List.foldr_nil];have es:=Z0h (n:=n) (by omega) (by omega);have g1:=Qv4 p B W g h 700 (n:Int) hf hl;have g2:=Qy9 p B W g h 700 (n:Int) hf hl;have eT:tabE W B p g h 700 (n:Int)=0:=by unfold tabE;rw [if_pos ⟨eR,es⟩];exact eG
 unfold Q7h at g1;unfold winV winE winI at g2;rw [eT,if_pos rfl,Int.toNat_natCast]at g1;rw [eT,if_pos rfl,if_pos rfl,Int.toNat_natCast]at g2;have hT:=Qi9 W B p g h 700 n;have hfs:=fun k hk=>Q7i (xs:=tabL W B p g h 700 n) (k:=k) hk;rw [hT]at hfs;have hTl:((tabL W B p g h 700 n).map (PV.int .i64)).length=n:=by rw [List.length_map,hT]
 have hg1:=fun i hi=>Zz1 (tabL W B p g h 700 n) (i:=i) (by rw [hT];exact hi);have bn:(((n:Nat):Int) != (n:Int))=false:=bne_self_eq_false _;generalize tabL W B p g h 700 n=T at*;generalize hV:(if fz T n<0 then(0:Int)else fz T n*700)=V at*;generalize hEv:(if fz T n<0 then(9:Int)else 0)=Ev at*;unfold pgV baPV at*;repeat (first|simp -implicitDefEqProofs only [go_sem,seval,n0_0,hTl,bn]|(with_reducible refine Qaa g1 ?_ ?_ ?_);rfl;rfl|(with_reducible refine Qaa g2 ?_ ?_ ?_);rfl;rfl)
 refine Qau mixed (fun k:{k:Nat // k≤n∧fz T (n-k)=fz T n}=>St.of [(7,.int .i64 (n:Int)),(35,.slc (T.map (PV.int .i64))),(37,.int .i64 V),(38,.int .i64 Ev),(39,.int .i64 (k.1:Int))] []) (fun k=>n-k.1) ⟨0,Nat.zero_le _,rfl⟩ ?_ ?_
 ·refine Qax ?_;simp [Qae,lkp,ren1,ren0,Qai]
 rintro⟨k,hkn,hz⟩;simp only;by_cases hA:k<n
 ·have hA':=ltT hA;have n0:=nnT k;have hgk:=hg1 k hA;have hwk:=Qak (a:=k) (by omega);have hfk:=hfs k hA;by_cases h0:T.getD k 1=0
  ·rw [if_pos h0]at hfk;rw [←hz,hfk]at hV hEv;rw [if_neg (by omega)]at hV hEv;subst hV hEv;have h0':(T.getD k 1==0)=true:=beq_iff_eq.2 h0;have w7:IntKind.i64.wrap (700*(k:Int))=(k:Int)*700:=by rw [Int.mul_comm];exact Qag (by omega) (by omega)
   generalize T.getD k 1=y at*;repeat (first|simp -implicitDefEqProofs only [go_sem,seval,hA',n0,hgk,h0',w7,BEq.rfl,Bool.true_and,Int.toNat_natCast]|(with_reducible refine Qaa hk ?_ ?_ ?_);rfl;rfl)
  ·rw [if_neg h0]at hfk;have h0':(T.getD k 1==0)=false:=beq_eq_false_iff_ne.2 h0;generalize T.getD k 1=y at*;repeat simp -implicitDefEqProofs only [go_sem,seval,hA',n0,hgk,h0',hwk,Int.toNat_natCast]
   refine⟨⟨k+1,hA,by rw [←hfk];exact hz⟩,by simp only;omega,?_⟩;refine Qax ?_;simp [Qae,lkp,ren1,ren0,Qai]
 ·have hA':=ltF hA;obtain rfl:k=n:=by omega
  rw [Nat.sub_self,show fz T 0= -1 from rfl]at hz;rw [←hz,if_pos (by decide)]at hEv;subst hEv;have z99:((9:Int)==9)=true:=rfl;repeat (first|simp -implicitDefEqProofs only [go_sem,seval,hA',z99,Bool.true_and]|(with_reducible refine Qaa hk ?_ ?_ ?_);rfl;rfl)
end Go.Proofs.YtdpajapkhembcaaGreatDoor

namespace Go.Vl
open Go.RowKit
section
variable {H:Type} {enc:TypeId×Value→H}
theorem Qov {a:Assume} {C:Checked} {os:Os} {f:FuncId} {fn:Func} {s:ChangeSpec} {conds:List PathCond} {apart fresh handsOn again:Bool} {tb:TypeId} {L:List (String×DataW Unit)} (tts:List TT)
  (own:ownKnob C.prog.godebug=none) (started:os.Started) (noInit:C.prog.inits.idxOf? f=none) (hfn:C.prog.funcs[f]? =some fn)
  (witness: ∃(w:World) (tape:Tape) (i:Input),w.os=os∧(w.forCall tape i).Shaped C.prog∧i.vars=[]∧Input.okWide C.prog (w.forCall tape i) .any w.heap.size f i∧
   ((s.pre enc C.prog fn conds apart (w.forCall tape i).memory i.args∧laidMetH C.prog L (w.forCall tape i).memory)∧sizedMet enc C.prog fn (OpenSpec.ofChange s) apart (w.forCall tape i).memory i.args)∧a.holds C.prog (lone (Frame.enter C.prog f i.args .normal) [] (w.forCall tape i)))
  (hl:laidOutB C.prog=true) (hvars:s.vars=[]) (hres:fn.resultTypes= #[tb]) (hbool:C.prog.underlying tb=some .bool) (hts:(fn.params.toList.all fun t=>C.prog.readableRec t&&decide (t<C.prog.types.size))=true)
  (hfit:Qkx C.prog tts fn.params.toList=true) (hs: ∀ds:List (DataW H),ds.length=tts.length→s.fn H ds={results:=[.lit (.bool true)],args:=ds})
  (hcl:callable C.prog f=true) (hlay: ∀W:World,laidMetH C.prog L W→Laid C.prog W.heap.size W) (law: ∀pvs,Qx5 tts pvs→Qaf C.prog f pvs (.bool true)):
  ReturnsInHanded a C os f .any (fun w args=>(s.pre enc C.prog fn conds apart w args∧laidMetH C.prog L w)∧sizedMet enc C.prog fn (OpenSpec.ofChange s) apart w args) (s.post enc C.prog fn apart fresh handsOn again):=by
 refine returnsInHanded_of_change_and (X:=fun w _=>laidMetH C.prog L w) (fun _ _ _ hh h=>h.of_heap hh) own started noInit hfn witness ?_;intro W base args ds gs before hval hW q1 q2 q3 q4;have hW':=hW;obtain⟨p,q,hA,hV,rfl,hz,hn⟩:=hW;rw [hvars]at hV;obtain⟨rfl,rfl⟩:=ChangeShapes.trodVars_none hV;obtain⟨pvs,h1,h2,h3⟩:=Q0h tts fn.params.toList args.toList ds p hfit (fun j t v e1 e2=>hval j t v (by simpa using e1) (by simpa using e2)) hA;have hts': ∀t∈fn.params.toList,C.prog.readableRec t=true∧t<C.prog.types.size:=by
  intro t ht;have:=List.all_eq_true.1 hts t ht;simpa using this
 have hcall:=((law pvs h1).resolve_right (fun x=>by rw [hcl]at x;cases x.1)).2 W (exIm W) args.toList W.heap.size (Nat.le_refl _) (hlay W (by first|exact q1|exact q2|exact q3|exact q4)) h2 (fun g j x=>x);refine(by simpa using hcall:Calls C.prog f args W _).mono ?_;rintro e W' ⟨v,rfl,hb,hr⟩;have hv:v= .bool true:=by cases hr;rfl
 subst hv;exact⟨_,rfl,Qx6 hl hvars hres hbool hts' hW' (by rw [List.append_nil];exact hs ds h3) hb⟩
end
end Go.Vl

namespace Go.Proofs.YtdpajapkhembcaaGreatDoor
open Go.Vl Go.RowKit Go.Dg
theorem own:ownKnob Tryz.prog.godebug=none:=by kernel_rfl
theorem Zs4:laidOutB Tryz.prog=true:=by kernel_rfl
def Q7l:List (String×DataW Unit):=[("math/bits.deBruijn32tab",Rows.laid_math_bits_deBruijn32tab),("math/bits.deBruijn64tab",Rows.laid_math_bits_deBruijn64tab)]
theorem Zgh (os:Os) (args:Array Value):laidMetH Tryz.prog Q7l ((World.doorLaid Tryz.prog 62 os).forCall (fun _ _=>0) ⟨#[],args,[]⟩).memory:=
 laidMetH_of_parts3 (fuel:=8) (laidMet_of_run' 8 (by kernel_rfl) (by kernel_rfl)) (by kernel_rfl) (by kernel_rfl)
def Q7m:List Int:=Go.Lib.deBruijn64tab.map fun(z:Nat)=>(z:Int)
theorem hlay (W:World) (h:laidMetH Tryz.prog Q7l W):Laid Tryz.prog W.heap.size W:=by
 rintro nm tab (⟨rfl,rfl⟩|⟨rfl,rfl⟩) g hg
 ·have e:Tryz.prog.globalNamed Zdf=none:=by kernel_rfl
  rw [e]at hg;cases hg
 obtain rfl:g=1:=Option.some.inj (hg.symm.trans (by kernel_rfl));have hf:=h.filter (fun x=>x.1==Qny);have e:Q7l.filter (fun x=>x.1==Qny)=[(Qny,Lib.tabData .u8 Q7m)]:=by kernel_rfl
 rw [e,MakeChecks.laidMetH_plain _ _ _ (by kernel_rfl)]at hf;have ht:Lib.TabIs Tryz.prog W Qny .u8 Q7m:=Lib.tabIs_of_head (g:=1) (t:=184) (e:=5) (n:=64) (by kernel_rfl) (by kernel_rfl) (by kernel_rfl) (by kernel_rfl) (by kernel_rfl) (by kernel_rfl) hf;have e2:(Q7m.map fun z=>Value.int .u8 z).toArray=Zdg:=by kernel_rfl
 unfold Lib.TabIs at ht;rw [e2]at ht;refine⟨?_,ht⟩;simp only [World.var?,hg,Option.bind_some]at ht;cases hh:W.heap[(1:Nat)]? with
 |none=>rw [hh]at ht;cases ht
 |some o=>exact(Array.getElem?_eq_some_iff.1 hh).1
theorem Zgi {k:IntKind} {c:List PV} (h:Qb3 (.int k) c): ∃n:Int,TT.mk (.int k) c= .int k n∧(Lit.int k n).wf=true:=by
 simp only [Qb3]at h;obtain⟨x,rfl,hx⟩:=h;exact⟨x,rfl,hx⟩
theorem Qem {n:Int} (h:(Lit.int .i64 n).wf=true): -9223372036854775808≤n∧n≤9223372036854775807:=by
 have:=h;simp [Lit.wf,IntKind.min,IntKind.max,IntKind.signed,IntKind.bits]at this;omega
theorem Qmc {c:List PV} (h:Qb3 (.int .i64) c): ∃n:Int,TT.mk (.int .i64) c= .int .i64 n∧i64 n:=by
 obtain⟨n,e,w⟩:=Zgi h;exact⟨n,e,Qem w⟩
theorem Qnk {e:TT} {α:Type} {f:α→PV} (hf: ∀c,Qb3 e c→ ∃a,e.mk c=f a): ∀ess:List (List PV),(∀c∈ess,Qb3 e c)→ ∃l:List α,ess.map e.mk=l.map f∧l.length=ess.length
 | [],_=>⟨[],rfl,rfl⟩
 |c::cs,h=>by
  obtain⟨a,ha⟩:=hf c (h c (by simp));obtain⟨l,hl,hn⟩:=Qnk hf cs (fun c hc=>h c (by simp [hc]));exact⟨a::l,by simp [ha,hl],by simp [hn]⟩
def vecT:TT:= .agg [.int .i64,.int .i64,.int .i64]
def Q7n:TT:= .agg [vecT,.int .i64,.int .i64,.int .i64]
def actT:TT:= .agg [.str,.int .i64,.slc Q7n]
def Zgj:TT:= .agg [.slc .str,.slc vecT,.slc actT]
def Zgk:TT:= .agg [.int .i64,.int .i64]
theorem Zgl {c:List PV} (h:Qb3 .str c): ∃s:ByteArray,TT.mk .str c= .str s:=by
 simp only [Qb3]at h;obtain⟨s,rfl,hs⟩:=h;exact⟨s,rfl⟩
theorem Zgm {c:List PV} (h:Qb3 vecT c): ∃v:V3,vecT.mk c=v3PV v:=by
 simp only [vecT,Qb3,Qdr]at h;obtain⟨_,_,rfl,⟨x,rfl,_⟩,_,_,rfl,⟨y,rfl,_⟩,_,_,rfl,⟨z,rfl,_⟩,rfl⟩:=h;exact⟨⟨x,y,z⟩,rfl⟩
theorem Q7o {c:List PV} (h:Qb3 Q7n c): ∃m:Mv,Q7n.mk c=mvV m:=by
 simp only [Q7n,vecT,Qb3,Qdr]at h;obtain⟨_,_,rfl,⟨_,_,rfl,⟨x,rfl,_⟩,_,_,rfl,⟨y,rfl,_⟩,_,_,rfl,⟨z,rfl,_⟩,rfl⟩,_,_,rfl,⟨w,rfl,_⟩,_,_,rfl,⟨f,rfl,_⟩,_,_,rfl,⟨r,rfl,_⟩,rfl⟩:=h;exact⟨⟨⟨x,y,z⟩,w,f,r⟩,rfl⟩
theorem Zgn {c:List PV} (h:Qb3 actT c): ∃a:Ac,actT.mk c=acV a:=by
 simp only [actT,Qb3,Qdr]at h;obtain⟨_,_,rfl,⟨s,rfl,_⟩,_,_,rfl,⟨n,rfl,_⟩,_,_,rfl,⟨em,rfl,mm,hm⟩,rfl⟩:=h;obtain⟨l,e,_⟩:=Qnk (f:=mvV) (fun c h=>Q7o h) em hm;refine⟨⟨s,n,l⟩,?_⟩;show PV.agg [.str s,.int .i64 n,.slc (em.map Q7n.mk)]=_;rw [e];rfl
theorem Q7p {c:List PV} (h:Qb3 Zgj c): ∃p:Pg,Zgj.mk c=pgV p:=by
 simp only [Zgj,Qdr]at h;rw [Qb3]at h;simp only [Qdr]at h;obtain⟨_,_,rfl,hn,_,_,rfl,hh,_,_,rfl,ha,rfl⟩:=h;rw [Qb3]at hn hh ha;obtain⟨en,rfl,mn,hn⟩:=hn;obtain⟨eh,rfl,mh,hh⟩:=hh;obtain⟨ea,rfl,ma,ha⟩:=ha;obtain⟨ns,e1,_⟩:=Qnk (f:=PV.str) (fun c h=>Zgl h) en hn;obtain⟨hs,e2,_⟩:=Qnk (f:=v3PV) (fun c h=>Zgm h) eh hh;obtain⟨as_,e3,_⟩:=Qnk (f:=acV) (fun c h=>Zgn h) ea ha;refine⟨⟨ns,hs,as_⟩,?_⟩;show PV.agg [.slc (en.map (TT.mk .str)),.slc (eh.map vecT.mk),.slc (ea.map actT.mk)]=_;rw [e1,e2,e3];rfl
theorem Q7q {c:List PV} (h:Qb3 Zgk c): ∃a b:Int,Zgk.mk c= .agg [.int .i64 a,.int .i64 b]:=by
 simp only [Zgk,Qb3,Qdr]at h;obtain⟨_,_,rfl,⟨x,rfl,_⟩,_,_,rfl,⟨y,rfl,_⟩,rfl⟩:=h;exact⟨x,y,rfl⟩
def batT:TT:= .agg [.int .i64,.int .i64,.int .i64,.int .i64,.int .i64]
theorem Zgo {c:List PV} (h:Qb3 batT c): ∃B:Bat,batT.mk c=baPV B∧okBat B:=by
 simp only [batT,Qb3,Qdr]at h;obtain⟨_,_,rfl,⟨a,rfl,ha⟩,_,_,rfl,⟨b,rfl,hb⟩,_,_,rfl,⟨d,rfl,hd⟩,_,_,rfl,⟨e,rfl,he⟩,_,_,rfl,⟨f,rfl,hf⟩,rfl⟩:=h;exact⟨⟨a,b,d,e,f⟩,rfl,Qem ha,Qem hb,Qem hd,Qem he,Qem hf⟩
def Qtv:TT:= .agg [vecT,vecT,.int .i64,.int .i64,vecT]
theorem Q7r {c:List PV} (h:Qb3 Qtv c): ∃w:Wd,Qtv.mk c=wdPV w:=by
 simp only [Qtv,vecT,Qb3,Qdr]at h;obtain⟨_,_,rfl,⟨_,_,rfl,⟨a1,rfl,_⟩,_,_,rfl,⟨a2,rfl,_⟩,_,_,rfl,⟨a3,rfl,_⟩,rfl⟩,_,_,rfl,⟨_,_,rfl,⟨b1,rfl,_⟩,_,_,rfl,⟨b2,rfl,_⟩,_,_,rfl,⟨b3,rfl,_⟩,rfl⟩,_,_,rfl,⟨f,rfl,_⟩,_,_,rfl,⟨t,rfl,_⟩,
  _,_,rfl,⟨_,_,rfl,⟨u1,rfl,_⟩,_,_,rfl,⟨u2,rfl,_⟩,_,_,rfl,⟨u3,rfl,_⟩,rfl⟩,rfl⟩:=h
 exact⟨⟨a1,a2,a3,b1,b2,b3,f,t,u1,u2,u3⟩,rfl⟩
theorem Q09 {c:List PV} (h:Qb3 (.slc Qtv) c): ∃l:List Wd,TT.mk (.slc Qtv) c=wsPV l∧l.length≤maxLen:=by
 simp only [Qb3]at h;obtain⟨ess,rfl,hm,h⟩:=h;have key: ∀ess:List (List PV),(∀c∈ess,Qb3 Qtv c)→ ∃l:List Wd,ess.map Qtv.mk=l.map wdPV∧l.length=ess.length:=by
  intro ess
  induction ess with
  |nil=>exact fun _=>⟨[],rfl,rfl⟩
  |cons c cs ih=>
   intro h;obtain⟨s,e⟩:=Q7r (h c (by simp));obtain⟨l,hl,hn⟩:=ih (fun c hc=>h c (by simp [hc]));exact⟨s::l,by simp [e,hl],by simp [hn]⟩
 obtain⟨l,e,hn⟩:=key ess h;exact⟨l,by simp only [TT.mk,List.headD_cons];rw [e],by omega⟩
def Z0e:Value:= .agg #[.slice none 0 0,.slice none 0 0,.slice none 0 0]
def Zgp:Value:= .agg #[.int .i64 0,.int .i64 0]
def Zs5:Value:= .agg #[.int .i64 0,.int .i64 0,.int .i64 0,.int .i64 0,.int .i64 0]
end Go.Proofs.YtdpajapkhembcaaGreatDoor
