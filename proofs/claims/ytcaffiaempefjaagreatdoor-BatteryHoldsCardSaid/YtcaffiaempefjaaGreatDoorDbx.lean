/-
  KM25, Dv, Dy, Dcv, Dsp, Dcw, Dcx, Dcy, Dsr, Dcm, Dcz, Dda, Dbx (merged for the claim).
-/
import Derived.Test.YtcaffiaempefjaaGreatDoorKM24
import Derived.Test.YtcaffiaempefjaaGreatDoorDsi
import Derived.Test.YtcaffiaempefjaaGreatDoorKB2
set_option linter.unusedSimpArgs false
set_option linter.unusedVariables false
namespace Go.Proofs.YtcaffiaempefjaaGreatDoor
open Go.Vl Go.RowKit Go.Dg
def revL (s:Sg):Nat→List Int:=cmpL s 1 (-1) 1
def revS (W:Int) (s:Sg):Sg:=Qds (W-s.t) (W-s.f) (revL s) s.o
def Zoh (s:Sg):Prop:= ∀i,i<3→ ∀x∈revL s i,(x/(mdG (revL s) s.o 3:Int)).natAbs≤4611686018427387904
def revK (p:List Sg) (k:Nat):List Sg:=(List.range k).map fun j=>revS (pBeg p+pEnd p) (p.getD (p.length-1-j) sg0)
def revP (p:List Sg):List Sg:=revK p p.length
theorem Q66 (p:List Sg) (k:Nat):revK p (k+1)=revK p k++[revS (pBeg p+pEnd p) (p.getD (p.length-1-k) sg0)]:=by simp [revK,List.range_succ]
theorem Qzp (p:List Sg) (k:Nat):(revK p k).length=k:=by simp [revK]
theorem Zfq {s:Sg} (hv:Qau s=true):Qtl (revL s) s.o=true:=by
 obtain⟨⟨v1,v2,v3,v4,v5⟩, -, -⟩:=Qaq hv;refine decide_eq_true ?_;unfold mdO;exact Int.le_trans (Int.ediv_le_self _ (by omega)) v5
theorem Zfr:i64 1:=by unfold i64;omega
theorem Zoi:i64 (-1):=by unfold i64;omega
theorem Zrc {s:Sg} (hs:okSg s) (hv:Qau s=true): ∀i,i<3→bd 12000 (revL s i)∧(revL s i).length≤6:=by
 intro i hi;have hm:=Qkt s i hi;obtain⟨l1,l6, -, -⟩:=Qa9 ((Qaq hv).2.1 _ hm);exact⟨(Qzo l6 (fun x hx=>Qa2 (hs.c _ hm x hx)) (Qa2 Zfr) (Qa2 Zoi) (Qa2 Zfr)).2,Zra l6⟩
theorem Zxe (s:Sg) (W:Int) (hs:okSg s) (hv:Qau s=true) (hf:Zoh s):
  Qaf Tryz.prog 30 [.int .i64 (W-s.t),.int .i64 (W-s.f),.agg [wL (revL s 0),wL (revL s 1),wL (revL s 2)],wPV s.o] (.tup [sgPV (revS W s),.bool true]):=by
 have hbd:=Zrc hs hv;obtain⟨⟨v1,v2,v3,v4,v5⟩, -, -⟩:=Qaq hv;have h:=Zrb (W-s.t) (W-s.f) (revL s) s.o 12000 (by decide) (by omega) (Qfz (C:=12000) (Qa2 hs.o) (by decide)) (fun i hi=>(hbd i hi).1) (fun i hi=>by have:=(hbd i hi).2;omega) (fun _=>hf);rw [if_pos (Zfq hv)]at h;exact h
def rvB (p:List Sg):Nat→List (Nat×Box)
 |0=>[(1000000,{els:=[.int .i64 (pBeg p)],esz:=1,ety:=3,fro:=0,live:=true,arr:=false}),(1000001,{els:=[.int .i64 (pEnd p)],esz:=1,ety:=3,fro:=0,live:=true,arr:=false}),(1000002,{els:=[.nilS],esz:=1,ety:=23,fro:=0,live:=true,arr:=false})]
 |k+1=>[(1000000,{els:=[.int .i64 (pBeg p)],esz:=1,ety:=3,fro:=0,live:=true,arr:=false}),(1000001,{els:=[.int .i64 (pEnd p)],esz:=1,ety:=3,fro:=0,live:=true,arr:=false}),(1000002,{els:=[.bs 7 6 0 (k+1)],esz:=1,ety:=23,fro:=0,live:=true,arr:=false}),(7,{els:=(revK p (k+1)).map sgPV,esz:=6,ety:=47,fro:=0,live:=true,arr:=true})]
theorem Z0g (p:List Sg) (k:Nat): ∀b∈ [1000000,1000001,1000002],(lkp (rvB p k) b).isSome=true:=by
 cases k<;>simp [rvB,lkp]
def Qnz (p:List Sg):PV:=if Qa7 p=true then .tup [Qbx (revP p),.int .i64 0]else .tup [Qbx [],.int .i64 2]
theorem Qwm {p:List Sg} (hV:Qa7 p=true):0≤pBeg p∧pBeg p≤3600000∧0≤pEnd p∧pEnd p≤3600000:=by
 have h:=(Qbj hV).2.1;have h1:p.length-1<p.length:=by omega
 have h0:0<p.length:=by omega
 obtain⟨⟨a1,a2,a3, -, -⟩, -, -⟩:=Qaq (Qby hV _ h0);obtain⟨⟨b1,b2,b3, -, -⟩, -, -⟩:=Qaq (Qby hV _ h1);unfold pBeg pEnd;rw [sgD h0,sgD h1];omega
set_option maxHeartbeats 4000000 in
theorem Q1s (p:List Sg) (hp: ∀s∈p,okSg s) (hl:p.length≤100000) (hfit:Qa7 p=true→ ∀s∈p,Zoh s):Qaf Tryz.prog 12 [Qbx p] (Qnz p):=by
 have hs:=Q7f p hp (by omega);unfold Qnz;unfold Qbx at hs;cases hV:Qa7 p with
 |false=>
  rw [hV]at hs;simp only [Bool.false_eq_true,if_false]at hs;unfold Qbx;refine Qab (tb:=[]) 51 [.tmp 2,.tmp 3] [0,2,3,4,5,6,7,9,10,19,22,23,24] mixed Tryz.func12 rfl (by kernel_rfl) ?_;repeat (first|simp -implicitDefEqProofs only [go_sem,seval,Zfv,Bool.false_eq_true,if_false,List.map_nil]|(with_reducible refine Qaa hs ?_ ?_ ?_);rfl;rfl)
 |true=>
  rw [hV]at hs;simp only [if_true]at hs ⊢;have hv:=Q1q hV;have hft:=hfit hV;obtain⟨e1,e2,e3,e4⟩:=Qwm hV;have h1:=Z0f p;have hY:=Zxd p hl;unfold Qbx at h1 hY ⊢;obtain⟨n,hn1⟩: ∃n,p.length=n+1:=⟨p.length-1,by have:=(Qbj hV).2.1;omega⟩;have hlo:(Qex p).length=n+1:=by simp [Qex,hn1]
  have hmin:min (Qex p).length (n+1+1)=n+1:=by omega
  have wab:IntKind.i64.wrap (pBeg p+pEnd p)=pBeg p+pEnd p:=Qah (by omega) (by omega);refine Qab (tb:=[]) 51 [.tmp 2,.tmp 3] [0,2,3,4,5,6,7,9,10,19,22,23,24] mixed Tryz.func12 rfl (by kernel_rfl) ?_;repeat (first|simp -implicitDefEqProofs only [go_sem,seval,Qwp,Bool.false_eq_true,if_false]|(with_reducible refine Qaa hs ?_ ?_ ?_);rfl;rfl|(with_reducible refine Qaa h1 ?_ ?_ ?_);rfl;rfl)
  refine Zv0 mixed hY rfl rfl _ rfl [(1000000,106),(1000001,107),(1000002,400)] [1000000,1000001,1000002] rfl [(4,.bp 1000000 1 0 0),(5,.bp 1000001 1 0 0),(7,.bp 1000002 1 0 0)] (rvB p) rfl rfl ?_ ?_ ?_ (n+1) .normal (fun h=>by omega) (fun k _ _=>Z0g p k) ?_ rfl ?_
   [(400,1000002),(7,7)] [(7,.bp 400 1 0 0)] [(400,{els:=[.bs 7 6 0 (n+1)],esz:=1,ety:=23,fro:=0,live:=true,arr:=false}),(7,{els:=(revP p).map sgPV,esz:=6,ety:=47,fro:=0,live:=true,arr:=true})] rfl rfl ?_ ?_ (fun _=> ?_) (fun h=>by omega)
  ·simp [Qae,lkp,ren1,ren0,Qan]
  ·exact⟨⟨rfl,rfl,rfl,rfl,rfl,.inr ⟨rfl,_,_,rfl,rfl,rfl,rfl⟩⟩,⟨rfl,rfl,rfl,rfl,rfl,.inr ⟨rfl,_,_,rfl,rfl,rfl,rfl⟩⟩,⟨rfl,rfl,rfl,rfl,rfl,.inr ⟨rfl,_,_,rfl,rfl,rfl,rfl⟩⟩,trivial⟩
  ·simp [Qae,lkp,ren1,ren0,Qan,Qvg]
  ·intro k args h;simp only [Qex,List.getElem?_map,Option.map_eq_some_iff]at h;obtain⟨x, -,rfl⟩:=h;rfl
  ·rintro k args hka hk;have hkl:k<n+1:=by have:=(List.getElem?_eq_some_iff.1 hka).1;omega
   have hargs:args=bwdO p k:=by
    simp only [Qex,List.getElem?_map,List.getElem?_range (show k<p.length by omega),Option.map_some,Option.some.injEq]at hka;exact hka.symm
   have hi:p.length-1-k<p.length:=by omega
   have hO:bwdO p k=[.int .i64 ((p.length-1-k:Nat):Int),sgPV p[p.length-1-k]]:=by unfold bwdO;rw [sgD hi]
   rw [hargs,hO];have hmem:=List.getElem_mem hi;have hsn:=Q66 p k;rw [sgD hi]at hsn;have hok:=hp _ hmem;have hvs:=hv _ hmem;have f4:=Zxe p[p.length-1-k] (pBeg p+pEnd p) hok hvs (hft _ hmem);generalize p[p.length-1-k]=s at*;generalize ((p.length-1-k:Nat):Int)=ix at*;clear hO hargs hka hi hmem;obtain⟨⟨v1,v2,v3,v4,v5⟩,hax, -⟩:=Qaq hvs;have w1:IntKind.i64.wrap (pBeg p+pEnd p-s.t)=pBeg p+pEnd p-s.t:=Qah (by omega) (by omega);have w2:IntKind.i64.wrap (pBeg p+pEnd p-s.f)=pBeg p+pEnd p-s.f:=Qah (by omega) (by omega);have f1:=Q1o s 1 (-1) 1 hok (fun c hc=>(Qa9 (hax c hc)).2.1) Zfr Zoi Zfr (by omega);have eL:cmpL s 1 (-1) 1=revL s:=rfl;rw [eL]at f1;have f2:=Qfe s.o hok.o.1 hok.o.2;have hsn2:(revK p (k+1)).map sgPV=(revK p k).map sgPV++[.agg [.int .i64 (revS (pBeg p+pEnd p) s).f,.int .i64 (revS (pBeg p+pEnd p) s).t,.int .i64 (revS (pBeg p+pEnd p) s).o,.slc ((revS (pBeg p+pEnd p) s).x.map (PV.int .i64)),.slc ((revS (pBeg p+pEnd p) s).y.map (PV.int .i64)),.slc ((revS (pBeg p+pEnd p) s).z.map (PV.int .i64))]]:=by rw [hsn,List.map_append];rfl
   generalize revL s=L at*;generalize revS (pBeg p+pEnd p) s=R at*;unfold sgPV at f1 f4;unfold wL at f1 f4;have hlen:((revK p k).map sgPV).length=k:=by rw [List.length_map,Qzp]
   have hokf:=Zog (revK p k);have c1:((k+1)*96≤140737488355328)=True:=eq_true (by omega);have c2:(k+1≤maxLen)=True:=eq_true (by unfold maxLen;omega);cases k with
   |zero=>
    simp only [rvB];have e0:(revK p 0).map sgPV=[]:=rfl;rw [e0,List.nil_append]at hsn2;repeat simp -implicitDefEqProofs only [go_sem,seval,pvars,List.toList_toArray,sgPV]
    refine⟨by simp [lkp],?_⟩;repeat (first|simp -implicitDefEqProofs only [go_sem,seval,wPV,wab,w1,w2]|(with_reducible refine Qaa f1 ?_ ?_ ?_);rfl;rfl|(with_reducible refine Qaa f2 ?_ ?_ ?_);rfl;rfl|(with_reducible refine Qaa f4 ?_ ?_ ?_);rfl;rfl|(with_reducible refine And.intro (Qac _ _ (by kernel_rfl)) ?_))
    refine⟨by omega,?_⟩;refine Qak (θ:=[(1000000,1000000),(1000001,1000001),(1000002,1000002),(7,803)]) rfl ?_ ?_
    ·simp [Qae,lkp,ren1,ren0,Qan]
    ·simp only [rvB,hsn2];exact⟨⟨rfl,rfl,rfl,rfl,rfl,.inr ⟨rfl,_,_,rfl,rfl,rfl,rfl⟩⟩,⟨rfl,rfl,rfl,rfl,rfl,.inr ⟨rfl,_,_,rfl,rfl,rfl,rfl⟩⟩,⟨rfl,rfl,rfl,rfl,rfl,.inr ⟨rfl,_,_,rfl,rfl,rfl,rfl⟩⟩,⟨rfl,rfl,rfl,rfl,rfl,.inl ⟨rfl,rfl⟩⟩,trivial⟩
   |succ k=>
    simp only [rvB];generalize (revK p (k+1)).map sgPV=T at*;repeat simp -implicitDefEqProofs only [go_sem,seval,pvars,List.toList_toArray,sgPV]
    refine⟨by simp [lkp],?_⟩;repeat (first|simp -implicitDefEqProofs only [go_sem,seval,wPV,wab,w1,w2,hlen,hokf,c1,c2]|(with_reducible refine Qaa f1 ?_ ?_ ?_);rfl;rfl|(with_reducible refine Qaa f2 ?_ ?_ ?_);rfl;rfl|(with_reducible refine Qaa f4 ?_ ?_ ?_);rfl;rfl|(with_reducible refine And.intro (Qac _ _ (by kernel_rfl)) ?_))
    refine⟨by omega,?_⟩;refine Qak (θ:=[(1000000,1000000),(1000001,1000001),(1000002,1000002),(7,803)]) rfl ?_ ?_
    ·simp [Qae,lkp,ren1,ren0,Qan]
    ·simp only [rvB,hsn2];exact⟨⟨rfl,rfl,rfl,rfl,rfl,.inr ⟨rfl,_,_,rfl,rfl,rfl,rfl⟩⟩,⟨rfl,rfl,rfl,rfl,rfl,.inr ⟨rfl,_,_,rfl,rfl,rfl,rfl⟩⟩,⟨rfl,rfl,rfl,rfl,rfl,.inr ⟨rfl,_,_,rfl,rfl,rfl,rfl⟩⟩,⟨rfl,rfl,rfl,rfl,rfl,.inl ⟨rfl,rfl⟩⟩,trivial⟩
  ·simp [Qae,lkp,ren1,ren0,Qan]
  ·rw [hmin];have e:revK p (n+1)=revP p:=by unfold revP;rw [hn1]
   simp only [rvB,e];exact⟨⟨rfl,rfl,rfl,rfl,rfl,.inr ⟨rfl,_,_,rfl,rfl,rfl,rfl⟩⟩,⟨rfl,rfl,rfl,rfl,rfl,.inl ⟨rfl,rfl⟩⟩,trivial⟩
  ·have b1:((revP p).map sgPV).length=n+1:=by rw [List.length_map,revP,Qzp,hn1]
   have b2:(((revP p).map sgPV).flatMap PV.cells).all PV.okCell=true:=Zog _;have b3:((revP p).map sgPV).take (n+1)=(revP p).map sgPV:=List.take_of_length_le (by omega);generalize (revP p).map sgPV=T at*;repeat simp -implicitDefEqProofs only [go_sem,seval,b1,b3]
end Go.Proofs.YtcaffiaempefjaaGreatDoor

namespace Go.Dg
theorem Qf1 (F:Nat→Int) (n j:Nat) (h:j<n):((List.range n).map F).getD j 0=F j:=by simp [List.getD_eq_getElem?_getD,h]
def binL (n:Nat):List Int:=(List.range (n+1)).map fun j=>(bin n j:Int)
theorem Qwc (n:Nat):(binL n).length=n+1:=by simp [binL]
theorem Ze9 (n:Nat) (x y:Int):hev (binL n) x y=(x+y)^n:=by rw [binL,Qmn,Qnh]
def pieces (n:Nat):Nat→List Int→List (List Int)
 |0,f=>[f]
 |d+1,f=>pieces n d (Zwp f n)++pieces n d (Zwq f n)
def linA (α β:Int):List Int→Int→List Int
 | [],k=>[k]
 |c::q,k=>(k+β*c)::linA α β q (α*c)
theorem Qq0 (α β:Int): ∀(l:List Int) (k:Int),(linA α β l k).length=l.length+1
 | [],_=>rfl
 |c::q,k=>by simp [linA,Qq0 α β q]
theorem Qyr (α β x y:Int): ∀(l:List Int) (k:Int),hev (linA α β l k) x y=k*y^l.length+(α*x+β*y)*hev l x y
 | [],k=>by simp [linA,hev]
 |c::q,k=>by
  rw [linA,hev,Qq0,Qyr α β x y q,hev,List.length_cons];have e:y^(q.length+1)=y*y^q.length:=Ql5 y _;rw [e];generalize y^q.length=Y;generalize hev q x y=V;simp only [Int.add_mul,Int.mul_add];have h1:β*c*(y*Y)=β*y*(c*Y):=by simp only [Int.mul_comm,Int.mul_left_comm,Int.mul_assoc]
  have h2:x*(α*c*Y)=α*x*(c*Y):=by simp only [Int.mul_comm,Int.mul_left_comm,Int.mul_assoc]
  have h3:x*(α*x*V)=α*x*(x*V):=by simp only [Int.mul_comm,Int.mul_left_comm,Int.mul_assoc]
  have h4:x*(β*y*V)=β*y*(x*V):=by simp only [Int.mul_comm,Int.mul_left_comm,Int.mul_assoc]
  rw [h1,h2,h3,h4];omega
theorem Q4v {α β:Int} (ha:0≤α) (hb:0≤β): ∀(l:List Int) (k:Int),(∀c∈l,0≤c)→0≤k→ ∀c∈linA α β l k,0≤c
 | [],k,_,hk=>by intro c hc;simp [linA]at hc;omega
 |c::q,k,hl,hk=>by
  intro z hz;have hc:=hl c (by simp);rcases List.mem_cons.1 hz with rfl|hz
  ·have:=Int.mul_nonneg hb hc;omega
  ·exact Q4v ha hb q (α*c) (fun c hc=>hl c (by simp [hc])) (Int.mul_nonneg ha hc) z hz
def pwL (α β:Int) (l:List Int):Nat→List Int
 |0=>l
 |m+1=>linA α β (pwL α β l m) 0
theorem Qvp (α β:Int) (l:List Int): ∀m,(pwL α β l m).length=l.length+m
 |0=>rfl
 |m+1=>by rw [pwL,Qq0,Qvp α β l m];omega
theorem Qvq (α β:Int) (l:List Int) (x y:Int): ∀m,hev (pwL α β l m) x y=(α*x+β*y)^m*hev l x y
 |0=>by simp [pwL]
 |m+1=>by rw [pwL,Qyr,Qvq α β l x y m,Int.zero_mul,Int.zero_add,Ql5,Int.mul_assoc]
theorem Q4w {α β:Int} (ha:0≤α) (hb:0≤β) {l:List Int} (hl: ∀c∈l,0≤c): ∀m,∀c∈pwL α β l m,0≤c
 |0=>hl
 |m+1=>Q4v ha hb _ _ (Q4w ha hb hl m) (Int.le_refl 0)
def gL (e1 e0 g1 g0:Int) (n j:Nat):List Int:=pwL e1 e0 (pwL g1 g0 [1] (n-j)) j
theorem Zwb (e1 e0 g1 g0:Int) {n j:Nat} (h:j≤n):(gL e1 e0 g1 g0 n j).length=n+1:=by
 unfold gL;rw [Qvp,Qvp];simp;omega
theorem Zwc (e1 e0 g1 g0 x y:Int) (n j:Nat):hev (gL e1 e0 g1 g0 n j) x y=(e1*x+e0*y)^j*(g1*x+g0*y)^(n-j):=by
 unfold gL;rw [Qvq,Qvq];simp [hev]
theorem Zzw {e1 e0 g1 g0:Int} (h1:0≤e1) (h2:0≤e0) (h3:0≤g1) (h4:0≤g0) (n j i:Nat):0≤(gL e1 e0 g1 g0 n j).getD i 0:=by
 have h: ∀c∈gL e1 e0 g1 g0 n j,0≤c:=Q4w h1 h2 (Q4w h3 h4 (by simp) _) _;rw [List.getD_eq_getElem?_getD];cases e:(gL e1 e0 g1 g0 n j)[i]? with
 |none=>exact Int.le_refl 0
 |some c=>exact h c (List.mem_of_getElem? e)
def subH (H:List Int) (e1 e0 g1 g0:Int) (n:Nat):List Int:=(List.range (n+1)).map fun i=>sm (fun j=>H.getD j 0*(gL e1 e0 g1 g0 n j).getD i 0) (n+1)
theorem Zd8 (H:List Int) (e1 e0 g1 g0:Int) (n:Nat):(subH H e1 e0 g1 g0 n).length=n+1:=by simp [subH]
theorem Qys {H:List Int} {n:Nat} (hH:H.length=n+1) (e1 e0 g1 g0 x y:Int):hev (subH H e1 e0 g1 g0 n) x y=hev H (e1*x+e0*y) (g1*x+g0*y):=by
 rw [subH,Qmn,Qim H,hH];have e1': ∀i,i<n+1→sm (fun j=>H.getD j 0*(gL e1 e0 g1 g0 n j).getD i 0) (n+1)*(x^i*y^(n-i))=sm (fun j=>H.getD j 0*((gL e1 e0 g1 g0 n j).getD i 0*(x^i*y^(n-i)))) (n+1):=by
  intro i _;rw [←Qi0];exact Qbd _ fun j _=>by rw [Int.mul_assoc]
 rw [Qbd _ e1',Q5h];refine Qbd _ fun j hj=> ?_;rw [Qdf];congr 1;have h:=Qim (gL e1 e0 g1 g0 n j) x y;rw [Zwc,Zwb e1 e0 g1 g0 (show j≤n by omega)]at h;simp only [Nat.add_sub_cancel]at h ⊢;exact h.symm
theorem Qyt (H:List Int) (e1 e0 g1 g0:Int) (n i:Nat) (h:i≤n):(subH H e1 e0 g1 g0 n).getD i 0=sm (fun j=>H.getD j 0*(gL e1 e0 g1 g0 n j).getD i 0) (n+1):=Qf1 _ _ _ (by omega)
theorem Zd9 (a b:Int): ∀n:Nat,(a*b)^n=a^n*b^n:=Qrh a b
theorem Zwd {e1 e0 g1 g0 d:Int} (h1:e1+g1=d) (h0:e0+g0=d) (n i:Nat) (hi:i≤n):sm (fun j=>(bin n j:Int)*(gL e1 e0 g1 g0 n j).getD i 0) (n+1)=d^n*(bin n i:Int):=by
 have key:subH (binL n) e1 e0 g1 g0 n=(List.range (n+1)).map fun i=>d^n*(bin n i:Int):=by
  refine Qdo (by simp [subH]) fun x _=> ?_;rw [Qys (Qwc n),Ze9,Qmn];have e:e1*x+e0*1+(g1*x+g0*1)=d*(x+1):=by
   rw [←h1,Int.add_mul,Int.mul_add,Int.mul_add];omega
  rw [e,Zd9,←Qnh x 1 n,←Qdf];exact Qbd _ fun j _=>by rw [Int.mul_assoc]
 have h2:(subH (binL n) e1 e0 g1 g0 n).getD i 0=((List.range (n+1)).map fun i=>d^n*(bin n i:Int)).getD i 0:=by rw [key]
 rw [Qyt _ _ _ _ _ _ _ hi,Qf1 _ _ _ (by omega)]at h2;rw [←h2];refine Qbd _ fun j hj=> ?_;rw [binL,Qf1 _ _ _ hj]
theorem Q4x {H:List Int} {e1 e0 g1 g0 d M:Int} (h1:0≤e1) (h2:0≤e0) (h3:0≤g1) (h4:0≤g0) (k1:e1+g1=d) (k0:e0+g0=d) {n:Nat}
  (hb: ∀j,j≤n→ -(M*(bin n j:Int))≤60*H.getD j 0∧60*H.getD j 0≤M*(bin n j:Int)) (i:Nat) (hi:i≤n):
  -(M*d^n*(bin n i:Int))≤60*(subH H e1 e0 g1 g0 n).getD i 0∧60*(subH H e1 e0 g1 g0 n).getD i 0≤M*d^n*(bin n i:Int):=by
 rw [Qyt _ _ _ _ _ _ _ hi,Int.mul_assoc,←Zwd k1 k0 n i hi,←Qdf,←Qdf];have hw:=Zzw h1 h2 h3 h4 n;constructor
 ·have e: -(sm (fun j=>M*((bin n j:Int)*(gL e1 e0 g1 g0 n j).getD i 0)) (n+1))=sm (fun j=> -1*(M*((bin n j:Int)*(gL e1 e0 g1 g0 n j).getD i 0))) (n+1):=by rw [Qdf (-1)];omega
  rw [e];refine Q5i _ fun j hj=> ?_;have:=Int.mul_le_mul_of_nonneg_right (hb j (by omega)).1 (hw j i);rw [Int.neg_mul,Int.mul_assoc,Int.mul_assoc]at this;omega
 ·refine Q5i _ fun j hj=> ?_;have:=Int.mul_le_mul_of_nonneg_right (hb j (by omega)).2 (hw j i);rw [Int.mul_assoc,Int.mul_assoc]at this;exact this
theorem Q1h (c:List Int) (m a d:Int) (k:Nat) (h:k≤5):plcT c (m*a) (m*d) k=m^5*plcT c a d k:=by
 unfold plcT;have e:m^5=m^k*m^(5-k):=by rw [←Int.pow_add];congr 1;omega
 rw [Int.mul_pow,Int.mul_pow,e];simp only [Int.mul_comm,Int.mul_left_comm,Int.mul_assoc]
theorem Qtm (c:List Int) (m a d:Int) (h:c.length≤6):plc c (m*a) (m*d)=m^5*plc c a d:=by
 unfold plc;have key: ∀n,n≤6→sm (plcT c (m*a) (m*d)) n=m^5*sm (plcT c a d) n:=by
  intro n
  induction n with
  |zero=>intro _;simp [sm]
  |succ n ih=>intro hn;simp only [sm];rw [ih (by omega),Q1h c m a d n (by omega),Int.mul_add]
 exact key _ h
theorem Qtn (s:Sg) (m:Nat) (a d:Int) (h: ∀c∈s.ax,c.length≤6): ∀i,i≤3→plG s (m*a) (m*d) i=m^5*plG s a d i:=by
 intro i hi
 induction i with
 |zero=>
  show(s.o*((m:Int)*d)^5).natAbs=m^5*(s.o*d^5).natAbs;rw [Int.mul_pow,Int.mul_left_comm,Int.natAbs_mul,Int.natAbs_pow,Int.natAbs_natCast]
 |succ i ih=>
  rw [Qdq,Qdq,ih (by omega)];have e:plP s (m*a) (m*d) i=(m:Int)^5*plP s a d i:=Qtm _ _ _ _ (h _ (Qkt s i (by omega)));rw [e,Int.natAbs_mul,Int.natAbs_pow,Int.natAbs_natCast,Nat.gcd_mul_left]
theorem Q51 (s:Sg) (m:Nat) (a d:Int) (hm:0<m) (h: ∀c∈s.ax,c.length≤6) (i:Nat) (hi:i<3):plQ s (m*a) (m*d) i=plQ s a d i:=by
 have e:plP s (m*a) (m*d) i=(m:Int)^5*plP s a d i:=Qtm _ _ _ _ (h _ (Qkt s i hi));unfold plQ;rw [e,Qtn s m a d h 3 (by decide),Int.natCast_mul,Int.natCast_pow];exact Int.mul_ediv_mul_of_pos _ _ (Int.pow_pos (by omega))
theorem Q52 (s:Sg) (m:Nat) (a d:Int) (hm:0<m) (h: ∀c∈s.ax,c.length≤6):plO s (m*a) (m*d)=plO s a d:=by
 unfold plO;rw [Qtn s m a d h 3 (by decide),Int.natCast_mul,Int.natCast_pow,Int.mul_pow,Int.mul_left_comm];exact Int.mul_ediv_mul_of_pos _ _ (Int.pow_pos (by omega))
theorem Qvr: ∀(p:List Int) (n:Nat) (x:Int),p.length=n+1→hev p x 0=p.getD n 0*x^n
 | [],_,_,h=>by simp at h
 | [c],n,x,h=>by
  have:n=0:=by simpa using h.symm
  subst this;simp [hev]
 |c::d::q,n,x,h=>by
  obtain⟨m,rfl⟩: ∃m,n=m+1:=⟨n-1,by simp at h;omega⟩;have ih:=Qvr (d::q) m x (by simpa using h);rw [hev,ih,List.length_cons,List.getD_cons_succ,Ql5 x m,Ql5 0];rw [Int.zero_mul,Int.mul_zero,Int.zero_add,Int.mul_left_comm]
theorem Qmd: ∀(p:List Int) (k x y:Int),hev (p.map (· *k)) x y=k*hev p x y
 | [],k,x,y=>by simp [hev]
 |c::q,k,x,y=>by
  rw [List.map_cons,hev,Qmd q k,List.length_map,hev,Int.mul_add];congr 1
  ·rw [Int.mul_comm c k,Int.mul_assoc]
  ·rw [Int.mul_left_comm]
theorem Qjf (p:List Int) (k:Int) (i:Nat):(p.map (· *k)).getD i 0=p.getD i 0*k:=by
 rw [List.getD_eq_getElem?_getD,List.getD_eq_getElem?_getD,List.getElem?_map];cases p[i]? <;>simp
def Kq (c:List Int) (a b d:Int):List Int:=(subH (trans c 1 (c.length-1)) (a+b) a (d-a-b) (d-a) (c.length-1)).map (· *d^(6-c.length))
def cq (c:List Int) (a b d:Int):List Int:=trans (Kq c a b d) (-1) (c.length-1)
section
variable {c:List Int} {n:Nat} (hc:c.length=n+1) (a b d:Int)
include hc
theorem Q4y:(Kq c a b d).length=n+1:=by
 unfold Kq;rw [List.length_map,Zd8];omega
theorem Qej:(cq c a b d).length=n+1:=by
 unfold cq;rw [Qfq];omega
theorem Zwe (x z:Int):hev (Kq c a b d) x z=d^(5-n)*hev c ((a+b)*x+a*z) (d*(x+z)):=by
 have hn:c.length-1=n:=by omega
 unfold Kq;rw [Qmd,hn,Qys (Qfq c 1 n),Qf9 hc];have e:6-c.length=5-n:=by omega
 rw [e];congr 2;simp only [Int.one_mul,Int.sub_mul,Int.add_mul,Int.mul_add];omega
theorem Qf7 (x y:Int):hev (cq c a b d) x y=d^(5-n)*hev c (a*y+b*x) (d*y):=by
 have hn:c.length-1=n:=by omega
 unfold cq;rw [hn,Qf9 (Q4y hc a b d),Zwe hc];have e1:(a+b)*x+a*(-1*x+y)=a*y+b*x:=by
  simp only [Int.add_mul,Int.mul_add,Int.neg_mul,Int.one_mul,Int.mul_neg];omega
 have e2:x+(-1*x+y)=y:=by omega
 rw [e1,e2]
theorem Znx:(cq c a b d).getD n 0=d^(5-n)*(c.getD n 0*b^n):=by
 have h:=Qvr (cq c a b d) n 1 (Qej hc a b d);rw [Qf7 hc,Int.mul_zero,Int.mul_zero,Int.zero_add,Int.mul_one,Qvr c n b hc,Int.one_pow,Int.mul_one]at h;exact h.symm
theorem Zea:trans (cq c a b d) 1 n=Kq c a b d:=by
 have hn:c.length-1=n:=by omega
 refine Qdo (by rw [Qfq,Q4y hc]) fun x _=> ?_;rw [Qf9 (Qej hc a b d)];unfold cq;rw [hn,Qf9 (Q4y hc a b d)];congr 1;omega
theorem Zwf (hn:n≤5) (u w:Int):plc (cq c a b d) u w=plc c (a*w+b*u) (d*w):=by
 rw [Qv7 (Qej hc a b d) hn,Qf7 hc,Qv7 hc hn,Int.mul_pow,←Int.mul_assoc,Int.mul_comm (w^(5-n))]
theorem Zwg (hn:n≤5) (h0:0≤a) (h1:a≤d) (h2:0≤a+b) (h3:a+b≤d) {M:Int} (hM: ∀j,j≤n→ -M≤ctl c j∧ctl c j≤M) (j:Nat) (hj:j≤n):
  -(M*d^5)≤ctl (cq c a b d) j∧ctl (cq c a b d) j≤M*d^5:=by
 have hn1:c.length-1=n:=by omega
 have hd:0≤d:=by omega
 have hH: ∀j,j≤n→ -(M*(bin n j:Int))≤60*(trans c 1 n).getD j 0∧60*(trans c 1 n).getD j 0≤M*(bin n j:Int):=by
  intro j hj;have hp:(0:Int)≤(bin n j:Int):=Int.natCast_nonneg _;have:=hM j hj;rw [←Qnm hc hn hj,Int.mul_comm (bin n j:Int),←Int.neg_mul];exact⟨Int.mul_le_mul_of_nonneg_right this.1 hp,Int.mul_le_mul_of_nonneg_right this.2 hp⟩
 have hs:=Q4x (d:=d) (M:=M) h2 h0 (show 0≤d-a-b by omega) (show 0≤d-a by omega) (by omega) (by omega) hH j hj;have hk:(Kq c a b d).getD j 0=(subH (trans c 1 n) (a+b) a (d-a-b) (d-a) n).getD j 0*d^(5-n):=by
  unfold Kq;have e:6-c.length=5-n:=by omega
  rw [Qjf,hn1,e]
 have ht:=Qnm (Qej hc a b d) hn hj;rw [Zea hc,hk]at ht;have hb:(0:Int)<(bin n j:Int):=by have:=Qrg hj;omega
 have hD:0≤d^(5-n):=Int.pow_nonneg hd;have hdd:d^5=d^n*d^(5-n):=by rw [←Int.pow_add];congr 1;omega
 rw [hdd];generalize (subH (trans c 1 n) (a+b) a (d-a-b) (d-a) n).getD j 0=S at*;generalize d^(5-n)=D at*;generalize d^n=E at*;generalize ctl (cq c a b d) j=X at*;generalize (bin n j:Int)=Bn at*;have u1:=Int.mul_le_mul_of_nonneg_right hs.1 hD;have u2:=Int.mul_le_mul_of_nonneg_right hs.2 hD;rw [Int.mul_assoc 60 S D,←ht]at u1 u2;constructor
 ·refine Int.le_of_mul_le_mul_left (a:=Bn) ?_ hb;have e:Bn* -(M*(E*D))= -(M*E*Bn)*D:=by
   rw [Int.mul_neg,Int.neg_mul];congr 1;simp only [Int.mul_comm,Int.mul_left_comm,Int.mul_assoc]
  rw [e];exact u1
 ·refine Int.le_of_mul_le_mul_left (a:=Bn) ?_ hb;have e:Bn*(M*(E*D))=M*E*Bn*D:=by simp only [Int.mul_comm,Int.mul_left_comm,Int.mul_assoc]
  rw [e];exact u2
theorem Zeb {l:List Int} {n:Nat} (hl:l.length=n+1) (h:l.getD n 0≠0):Qay l=l:=by
 have _hc:=hc;rcases Qpt (c:=l) (fun _=>by rw [hl];exact h) (by omega)with e|e
 ·exact e
 ·subst e;have:n=0:=by simpa using hl.symm
  subst this;simp at h
theorem Qyu (hn:n≤5) (hl:1<c.length→c.getD (c.length-1) 0≠0):cmpC c a b d=Qay (cq c a b d):=by
 have e1:cmpC c a b d=Qay (cmpC c a b d):=by unfold cmpC Qe9;rw [Qhx]
 rw [e1];refine Qvz _ _ fun u _=> ?_;unfold cmpC;rw [Qnj,Q54,Q5o,Qf7 hc,Int.mul_one,Int.mul_one];have e:6-c.length=5-n:=by omega
 rw [e,Int.mul_comm];congr 1;rcases Qpt hl (by omega)with h|h
 ·rw [h]
 ·rw [h];simp [Qay,hev]
theorem Zzx (hn:n≤5) (hl:1<c.length→c.getD (c.length-1) 0≠0) (hb:b≠0) (hd:d≠0) (G:Int):mkC G (cmpC c a b d)=(cq c a b d).map (· /G):=by
 rw [Qyu hc a b d hn hl];have hq:=Qej hc a b d;by_cases ht:(cq c a b d).getD n 0=0
 ·have hn0:n=0:=by
   rcases Nat.eq_zero_or_pos n with h|h
   ·exact h
   ·exfalso;rw [Znx hc]at ht;have h1:=hl (by omega);have e:c.length-1=n:=by omega
    rw [e]at h1;rcases Int.mul_eq_zero.1 ht with h2|h2
    ·exact Int.pow_ne_zero hd h2
    ·rcases Int.mul_eq_zero.1 h2 with h3|h3
     ·exact h1 h3
     ·exact Int.pow_ne_zero hb h3
  subst hn0
  match hcq:cq c a b d,hq with
  | [x],_=>
   rw [hcq]at ht;have hx:x=0:=by simpa using ht
   subst hx;simp [Qay,mkC]
 ·rw [Zeb hc hq ht];unfold mkC;rw [if_neg (by intro e;rw [e]at hq;simp at hq)]
end
theorem Qpk {x:Int}: ∀{l:List Int},x∈l→x=0∨x∈Qay l
 | [],h=>nomatch h
 |c::r,h=>by
  rw [Qce];rcases List.mem_cons.1 h with rfl|h
  ·split
   ·split
    ·rename_i h0;exact .inl h0
    ·exact .inr (by simp)
   ·exact .inr (by simp)
  ·rcases Qpk h with h0|h0
   ·exact .inl h0
   ·right;split
    ·rename_i e;rw [e]at h0;exact nomatch h0
    ·exact List.mem_cons_of_mem _ h0
theorem Q4z (c:List Int) (k u w:Int) (i:Nat):plcT (c.map (· *k)) u w i=plcT c u w i*k:=by
 unfold plcT;rw [Qjf];simp only [Int.mul_comm,Int.mul_left_comm,Int.mul_assoc]
theorem Zec (c:List Int) (k u w:Int):plc (c.map (· *k)) u w=plc c u w*k:=by
 unfold plc;rw [List.length_map,←Qi0];exact Qbd _ fun i _=>Q4z c k u w i
theorem Zed (c:List Int) (k:Int) (j:Nat):ctl (c.map (· *k)) j=ctl c j*k:=by
 unfold ctl;rw [List.length_map,←Qi0];exact Qbd _ fun i _=>by rw [Qjf];simp only [Int.mul_comm,Int.mul_left_comm,Int.mul_assoc]
theorem Qq1 {l:List Int} {G:Int} (h: ∀x∈l,G∣x):(l.map (· /G)).map (· *G)=l:=by
 rw [List.map_map]
 conv=>rhs;rw [←List.map_id l]
 exact List.map_congr_left fun x hx=>Int.ediv_mul_cancel (h x hx)
theorem Qct {k:Nat}: ∀{c:List Int} {g:Nat},k∣g→(∀x∈c,k∣x.natAbs)→k∣gcdL g c
 | [],_,hg,_=>hg
 |x::c,g,hg,h=>Qct (c:=c) (g:=Nat.gcd g x.natAbs) (Nat.dvd_gcd hg (h x (by simp))) fun y hy=>h y (by simp [hy])
theorem Zwh {s s':Sg} {a d a' d':Int} {k:Nat} (h: ∀i,i<3→plP s a d i=(k:Int)*plP s' a' d' i) (ho:s.o*d^5=(k:Int)*(s'.o*d'^5)): ∀i,i≤3→plG s a d i=k*plG s' a' d' i:=by
 intro i hi
 induction i with
 |zero=>
  show(s.o*d^5).natAbs=k*(s'.o*d'^5).natAbs;rw [ho,Int.natAbs_mul,Int.natAbs_natCast]
 |succ i ih=>
  rw [Qdq,Qdq,ih (by omega),h i (by omega),Int.natAbs_mul,Int.natAbs_natCast,Nat.gcd_mul_left]
theorem Zzy {s s':Sg} {a d a' d':Int} {k:Nat} (hk:0<k) (h: ∀i,i<3→plP s a d i=(k:Int)*plP s' a' d' i) (ho:s.o*d^5=(k:Int)*(s'.o*d'^5)):
  (∀i,i<3→plQ s a d i=plQ s' a' d' i)∧plO s a d=plO s' a' d':=by
 have hg:=Zwh h ho 3 (by decide);constructor
 ·intro i hi;unfold plQ;rw [hg,h i hi,Int.natCast_mul];exact Int.mul_ediv_mul_of_pos _ _ (by omega)
 ·unfold plO;rw [hg,ho,Int.natCast_mul];exact Int.mul_ediv_mul_of_pos _ _ (by omega)
structure turnOK (a b d:Int):Prop where
 a0:0≤a
 a1:a≤d
 b0:0≤a+b
 b1:a+b≤d
 b:b≠0
 d:1≤d
theorem Q40 {c:List Int} {o:Int} (h:axOK c o=true) (j:Nat) (hj:j≤c.length-1): -(62914560*o)≤ctl c j∧ctl c j≤62914560*o:=by
 obtain⟨l1,l6, -,hb⟩:=Qa9 h;have:=Qwa hb j (by omega);exact Qbs this
theorem Qm4 {s:Sg} (hv:Qau s=true) (i:Nat) (hi:i<3): ∃n,(s.ax.getD i []).length=n+1∧n≤5∧(1<(s.ax.getD i []).length→(s.ax.getD i []).getD ((s.ax.getD i []).length-1) 0≠0):=by
 obtain⟨l1,l6,l3, -⟩:=Qa9 ((Qaq hv).2.1 _ (Qkt s i hi));exact⟨(s.ax.getD i []).length-1,by omega,by omega,l3⟩
section
variable {s:Sg} (hv:Qau s=true) {a b d:Int} (ht:turnOK a b d) {f t O:Int} (hO:O=s.o*d^5)
include hv ht hO
theorem Zny:0<O:=by
 obtain⟨⟨-, -, -,v4, -⟩, -, -⟩:=Qaq hv;rw [hO];exact Int.mul_pos (by omega) (Int.pow_pos (by have:=ht.d;omega))
theorem Qyv (i:Nat) (hi:i<3): ∀x∈cq (s.ax.getD i []) a b d,(mdG (cmpL s a b d) O 3:Int)∣x:=by
 have _ht:=ht;have _hO:=hO;obtain⟨n,hn,hn5,hl⟩:=Qm4 hv i hi;intro x hx;rcases Qpk hx with rfl|h
 ·exact Int.dvd_zero _
 ·have e:cmpL s a b d i=Qay (cq (s.ax.getD i []) a b d):=Qyu hn a b d hn5 hl;exact(Qrl (cmpL s a b d) O).2 i hi x (by rw [e];exact h)
theorem Zee (i:Nat) (hi:i<3):(Qds f t (cmpL s a b d) O).ax.getD i []=(cq (s.ax.getD i []) a b d).map (· /(mdG (cmpL s a b d) O 3:Int)):=by
 have _hO:=hO;obtain⟨n,hn,hn5,hl⟩:=Qm4 hv i hi;have e:mdC (cmpL s a b d) O i=(cq (s.ax.getD i []) a b d).map (· /(mdG (cmpL s a b d) O 3:Int)):=Zzx hn a b d hn5 hl ht.b (by have:=ht.d;omega) _;rw [←e];rcases(show i=0∨i=1∨i=2 by omega)with rfl|rfl|rfl<;>rfl
theorem Zef (u w:Int):(∀i,i<3→plQ (Qds f t (cmpL s a b d) O) u w i=plQ s (a*w+b*u) (d*w) i)∧plO (Qds f t (cmpL s a b d) O) u w=plO s (a*w+b*u) (d*w):=by
 have hp:=Zny hv ht hO;have hG:=Qnp (L:=cmpL s a b d) hp 3;have hdO:=(Qrl (cmpL s a b d) O).1;have h:=Zzy (s:=s) (s':=Qds f t (cmpL s a b d) O) (a:=a*w+b*u) (d:=d*w) (a':=u) (d':=w) hG ?_ ?_
 ·exact⟨fun i hi=>(h.1 i hi).symm,h.2.symm⟩
 ·intro i hi;obtain⟨n,hn,hn5,hl⟩:=Qm4 hv i hi;unfold plP;rw [Zee hv ht hO i hi,Int.mul_comm (mdG (cmpL s a b d) O 3:Int),←Zec,Qq1 (Qyv hv ht hO i hi),Zwf hn a b d hn5]
 ·show s.o*(d*w)^5=(mdG (cmpL s a b d) O 3:Int)*(O/(mdG (cmpL s a b d) O 3:Int)*w^5);rw [←Int.mul_assoc,Int.mul_ediv_cancel' hdO,hO,Int.mul_pow,Int.mul_assoc]
theorem Zeg (h0:0≤f) (h1:f<t) (h2:t≤3600000) (hf:Qtl (cmpL s a b d) O=true):Qau (Qds f t (cmpL s a b d) O)=true:=by
 have hp:=Zny hv ht hO;have hG:=Qnp (L:=cmpL s a b d) hp 3;have hdO:=(Qrl (cmpL s a b d) O).1;have hO2:O/(mdG (cmpL s a b d) O 3:Int)*(mdG (cmpL s a b d) O 3:Int)=O:=Int.ediv_mul_cancel hdO;have hf':O/(mdG (cmpL s a b d) O 3:Int)≤4294967296:=of_decide_eq_true hf;have ho1:1≤O/(mdG (cmpL s a b d) O 3:Int):=by
  rcases Int.lt_or_le (O/(mdG (cmpL s a b d) O 3:Int)) 1 with q|q
  ·exfalso;have:O/(mdG (cmpL s a b d) O 3:Int)*(mdG (cmpL s a b d) O 3:Int)≤0:=Int.mul_nonpos_of_nonpos_of_nonneg (by omega) (by omega);omega
  ·exact q
 have hrng:rngS (Qds f t (cmpL s a b d) O)=true:=by
  show(decide (0≤f)&&(decide (f<t)&&(decide (t≤3600000)&&(decide (1≤O/(mdG (cmpL s a b d) O 3:Int))&&decide (O/(mdG (cmpL s a b d) O 3:Int)≤4294967296)))))=true;rw [decide_eq_true h0,decide_eq_true h1,decide_eq_true h2,decide_eq_true ho1,decide_eq_true hf'];rfl
 have hax: ∀i,i<3→axOK ((Qds f t (cmpL s a b d) O).ax.getD i []) (O/(mdG (cmpL s a b d) O 3:Int))=true:=by
  intro i hi;obtain⟨n,hn,hn5,hl⟩:=Qm4 hv i hi;have hok:=(Qaq hv).2.1 _ (Qkt s i hi);have hdv:=Qyv hv ht hO i hi;have hm:=Qq1 hdv;rw [Zee hv ht hO i hi];have hlen:((cq (s.ax.getD i []) a b d).map (· /(mdG (cmpL s a b d) O 3:Int))).length=n+1:=by rw [List.length_map,Qej hn]
  have htop:1<n+1→((cq (s.ax.getD i []) a b d).map (· /(mdG (cmpL s a b d) O 3:Int))).getD n 0≠0:=by
   intro h1 e;have h3:=Qjf ((cq (s.ax.getD i []) a b d).map (· /(mdG (cmpL s a b d) O 3:Int))) (mdG (cmpL s a b d) O 3:Int) n;rw [hm,e,Int.zero_mul,Znx hn]at h3;have h4:=hl (by omega);have e2:(s.ax.getD i []).length-1=n:=by omega
   rw [e2]at h4;rcases Int.mul_eq_zero.1 h3 with h5|h5
   ·exact Int.pow_ne_zero (by have:=ht.d;omega) h5
   ·rcases Int.mul_eq_zero.1 h5 with h6|h6
    ·exact h4 h6
    ·exact Int.pow_ne_zero ht.b h6
  have hctl: ∀j,j<n+1→((ctl ((cq (s.ax.getD i []) a b d).map (· /(mdG (cmpL s a b d) O 3:Int))) j).natAbs:Int)≤62914560*(O/(mdG (cmpL s a b d) O 3:Int)):=by
   intro j hj;have h3:=Zed ((cq (s.ax.getD i []) a b d).map (· /(mdG (cmpL s a b d) O 3:Int))) (mdG (cmpL s a b d) O 3:Int) j;rw [hm]at h3;have h4:=Zwg hn a b d hn5 ht.a0 ht.a1 ht.b0 ht.b1 (M:=62914560*s.o) (fun j hj=>Q40 hok j (by omega)) j (by omega);rw [h3,Int.mul_assoc 62914560,←hO,←hO2,←Int.mul_assoc]at h4;rw [hO2]at h4;generalize ctl ((cq (s.ax.getD i []) a b d).map (· /(mdG (cmpL s a b d) O 3:Int))) j=X at*;have hG':(0:Int)<(mdG (cmpL s a b d) O 3:Int):=by omega
   rw [←Int.neg_mul]at h4;have h5:=Int.le_of_mul_le_mul_right h4.1 hG';have h6:=Int.le_of_mul_le_mul_right h4.2 hG';omega
  unfold axOK Qi3 Qdd;rw [hlen,Bool.and_eq_true,Bool.and_eq_true,Bool.and_eq_true,List.all_eq_true];refine⟨⟨decide_eq_true (by omega),decide_eq_true (by omega),?_⟩,fun j hj=>decide_eq_true (hctl j (List.mem_range.1 hj))⟩;rcases Nat.eq_zero_or_pos n with h|h
  ·subst h;rfl
  ·have:=htop (by omega);rw [Bool.or_eq_true];right;simp only [Nat.add_sub_cancel,Bool.not_eq_true',beq_eq_false_iff_ne,ne_eq];exact this
 have hgcd:(Qds f t (cmpL s a b d) O).ax.foldl gcdL (O/(mdG (cmpL s a b d) O 3:Int)).natAbs=1:=by
  generalize he:(Qds f t (cmpL s a b d) O).ax.foldl gcdL (O/(mdG (cmpL s a b d) O 3:Int)).natAbs=e;have hfold:(Qds f t (cmpL s a b d) O).ax.foldl gcdL (O/(mdG (cmpL s a b d) O 3:Int)).natAbs=gcdL (gcdL (gcdL (O/(mdG (cmpL s a b d) O 3:Int)).natAbs ((Qds f t (cmpL s a b d) O).ax.getD 0 [])) ((Qds f t (cmpL s a b d) O).ax.getD 1 [])) ((Qds f t (cmpL s a b d) O).ax.getD 2 []):=rfl;rw [hfold]at he;have d3:=Qhz (gcdL (gcdL (O/(mdG (cmpL s a b d) O 3:Int)).natAbs ((Qds f t (cmpL s a b d) O).ax.getD 0 [])) ((Qds f t (cmpL s a b d) O).ax.getD 1 [])) ((Qds f t (cmpL s a b d) O).ax.getD 2 []);have d2:=Qhz (gcdL (O/(mdG (cmpL s a b d) O 3:Int)).natAbs ((Qds f t (cmpL s a b d) O).ax.getD 0 [])) ((Qds f t (cmpL s a b d) O).ax.getD 1 []);have d1:=Qhz (O/(mdG (cmpL s a b d) O 3:Int)).natAbs ((Qds f t (cmpL s a b d) O).ax.getD 0 []);rw [he]at d3;have q2:=Nat.dvd_trans d3.1 d2.1;have hall: ∀i,i<3→ ∀x∈(Qds f t (cmpL s a b d) O).ax.getD i [],e∣x.natAbs:=by
   intro i hi x hx;rcases(show i=0∨i=1∨i=2 by omega)with rfl|rfl|rfl
   ·exact Nat.dvd_trans q2 (d1.2 x hx)
   ·exact Nat.dvd_trans d3.1 (d2.2 x hx)
   ·exact d3.2 x hx
  have hbase:e∣(O/(mdG (cmpL s a b d) O 3:Int)).natAbs:=Nat.dvd_trans q2 d1.1;have hk0:e*mdG (cmpL s a b d) O 3∣O.natAbs:=by
   have:O.natAbs=(O/(mdG (cmpL s a b d) O 3:Int)).natAbs*mdG (cmpL s a b d) O 3:=by
    have:=congrArg Int.natAbs hO2;rw [Int.natAbs_mul,Int.natAbs_natCast]at this;exact this.symm
   rw [this];exact Nat.mul_dvd_mul_right hbase _
  have hki: ∀i,i<3→ ∀x∈cmpL s a b d i,e*mdG (cmpL s a b d) O 3∣x.natAbs:=by
   intro i hi x hx;obtain⟨n,hn,hn5,hl⟩:=Qm4 hv i hi;have e1:cmpL s a b d i=Qay (cq (s.ax.getD i []) a b d):=Qyu hn a b d hn5 hl;rw [e1]at hx;have hx:=Qjj hx;have hdx:=Qyv hv ht hO i hi x hx;have hm:x/(mdG (cmpL s a b d) O 3:Int)∈(Qds f t (cmpL s a b d) O).ax.getD i []:=by
    rw [Zee hv ht hO i hi];exact List.mem_map.2 ⟨x,hx,rfl⟩
   have hq:=hall i hi _ hm;have:x.natAbs=(x/(mdG (cmpL s a b d) O 3:Int)).natAbs*mdG (cmpL s a b d) O 3:=by
    have:=congrArg Int.natAbs (Int.ediv_mul_cancel hdx);rw [Int.natAbs_mul,Int.natAbs_natCast]at this;exact this.symm
   rw [this];exact Nat.mul_dvd_mul_right hq _
  have hdiv:e*mdG (cmpL s a b d) O 3∣mdG (cmpL s a b d) O 3:=
   Qct (Qct (Qct hk0 (hki 0 (by decide))) (hki 1 (by decide))) (hki 2 (by decide))
  have hle:=Nat.le_of_dvd hG hdiv;have he0:0<e:=by
   rcases Nat.eq_zero_or_pos e with h|h
   ·exfalso;rw [h]at hbase;have:=Nat.eq_zero_of_zero_dvd hbase;omega
   ·exact h
  have he2: ¬2≤e:=by
   intro h;have:=Nat.mul_le_mul_right (mdG (cmpL s a b d) O 3) h;omega
  omega
 unfold Qau;rw [hrng,Bool.true_and,Bool.and_eq_true];refine⟨?_,by rw [beq_iff_eq];exact hgcd⟩;rw [List.all_eq_true];intro c hc;have h3:(Qds f t (cmpL s a b d) O).ax=[(Qds f t (cmpL s a b d) O).ax.getD 0 [],(Qds f t (cmpL s a b d) O).ax.getD 1 [],(Qds f t (cmpL s a b d) O).ax.getD 2 []]:=rfl;rw [h3]at hc;simp only [List.mem_cons,List.not_mem_nil,or_false]at hc;rcases hc with rfl|rfl|rfl
 ·exact hax 0 (by decide)
 ·exact hax 1 (by decide)
 ·exact hax 2 (by decide)
end
theorem Qme:turnOK 1 (-1) 1:=⟨by decide,by decide,by decide,by decide,by decide,by decide⟩
theorem Qpl {s:Sg} (hv:Qau s=true) {m x y:Int} (hm:0<m):(∀i,i<3→plQ s (m*x) (m*y) i=plQ s x y i)∧plO s (m*x) (m*y)=plO s x y:=by
 obtain⟨k,rfl⟩: ∃k:Nat,m=(k:Int):=⟨m.toNat,by omega⟩;exact⟨fun i hi=>Q51 s k x y (by omega) (Qdg hv) i hi,Q52 s k x y (by omega) (Qdg hv)⟩
def rvS (W:Int) (s:Sg):Sg:=Qds (W-s.t) (W-s.f) (cmpL s 1 (-1) 1) s.o
theorem rv_O (s:Sg):s.o=s.o*1^5:=by rw [Int.one_pow,Int.mul_one]
theorem Zpn {s:Sg} (hv:Qau s=true):Qtl (cmpL s 1 (-1) 1) s.o=true:=by
 obtain⟨⟨v1,v2,v3,v4,v5⟩, -, -⟩:=Qaq hv;refine decide_eq_true ?_;unfold mdO;exact Int.le_trans (Int.ediv_le_self _ (by omega)) v5
theorem Qmf {s:Sg} {W:Int} (hv:Qau s=true) (h1:s.t≤W) (h2:W≤3600000+s.f):Qau (rvS W s)=true:=by
 obtain⟨⟨v1,v2,v3, -, -⟩, -, -⟩:=Qaq hv;exact Zeg hv Qme (rv_O s) (by omega) (by omega) (by omega) (Zpn hv)
theorem Qyw {s:Sg} {W:Int} (hv:Qau s=true) (t:Int):
  (∀i,i<3→plQ (rvS W s) (s.t-t) (s.t-s.f) i=plQ s (t-s.f) (s.t-s.f) i)∧plO (rvS W s) (s.t-t) (s.t-s.f)=plO s (t-s.f) (s.t-s.f):=by
 have h:=Zef (f:=W-s.t) (t:=W-s.f) hv Qme (rv_O s) (s.t-t) (s.t-s.f);have e1:1*(s.t-s.f)+ -1*(s.t-t)=t-s.f:=by omega
 have e2:1*(s.t-s.f)=s.t-s.f:=by omega
 rw [e1,e2]at h;exact h
theorem Zzz {c:List Int} {n:Nat} (hc:c.length=n+1):cq (cq c 1 (-1) 1) 1 (-1) 1=c:=by
 have h1:=Qej hc 1 (-1) 1;refine Qdo (by rw [Qej h1,hc]) fun x _=> ?_;rw [Qf7 h1,Qf7 hc,Int.one_pow,Int.one_mul,Int.one_mul];congr 1
 ·omega
theorem Zpo {c:List Int} {n:Nat} (hc:c.length=n+1) (a b d k:Int):cq (c.map (· *k)) a b d=(cq c a b d).map (· *k):=by
 have hk:(c.map (· *k)).length=n+1:=by rw [List.length_map,hc]
 refine Qdo (by rw [Qej hk,List.length_map,Qej hc]) fun x _=> ?_;rw [Qf7 hk,Qmd,Qmd,Qf7 hc,Int.mul_left_comm]
theorem Zwi {c:List Int} {n:Nat} (hc:c.length=n+1) {G:Int} (h: ∀x∈c,G∣x): ∀x∈cq c 1 (-1) 1,G∣x:=by
 have e:=Qq1 h;have h1:(c.map (· /G)).length=n+1:=by rw [List.length_map,hc]
 rw [←e,Zpo h1];intro x hx;obtain⟨y,_,rfl⟩:=List.mem_map.1 hx;exact Int.dvd_mul_left y G
theorem rv_G {s:Sg} (hv:Qau s=true):mdG (cmpL s 1 (-1) 1) s.o 3=1:=by
 obtain⟨⟨v1,v2,v3,v4,v5⟩, -,hg⟩:=Qaq hv;have hd:=Qyv (O:=s.o) hv Qme (rv_O s);have ho:=(Qrl (cmpL s 1 (-1) 1) s.o).1;have hp:=Qnp (L:=cmpL s 1 (-1) 1) (show 0<s.o by omega) 3;generalize mdG (cmpL s 1 (-1) 1) s.o 3=G at*;have hall: ∀i,i<3→ ∀x∈s.ax.getD i [],G∣x.natAbs:=by
  intro i hi x hx;obtain⟨n,hn, -, -⟩:=Qm4 hv i hi;have h2:=Zwi (Qej hn 1 (-1) 1) (hd i hi);rw [Zzz hn]at h2;exact Int.natCast_dvd_natCast.1 (Int.dvd_natAbs.2 (h2 x hx))
 have h1:G∣s.ax.foldl gcdL s.o.natAbs:=by
  have e:s.ax.foldl gcdL s.o.natAbs=gcdL (gcdL (gcdL s.o.natAbs (s.ax.getD 0 [])) (s.ax.getD 1 [])) (s.ax.getD 2 []):=rfl;rw [e];exact Qct (Qct (Qct (Int.natCast_dvd_natCast.1 (Int.dvd_natAbs.2 ho)) (hall 0 (by decide))) (hall 1 (by decide))) (hall 2 (by decide))
 rw [hg]at h1;exact Nat.eq_one_of_dvd_one h1
theorem Qvs (l:List Int):l.map (· /((1:Nat):Int))=l:=by
 conv=>rhs;rw [←List.map_id l]
 exact List.map_congr_left fun x _=>Int.ediv_one x
theorem Zeh {s:Sg} (hv:Qau s=true) (W:Int) (i:Nat) (hi:i<3):(rvS W s).ax.getD i []=cq (s.ax.getD i []) 1 (-1) 1:=by
 have h:=Zee (f:=W-s.t) (t:=W-s.f) (O:=s.o) hv Qme (rv_O s) i hi;rw [rv_G hv,Qvs]at h;exact h
theorem rv_o {s:Sg} (hv:Qau s=true) (W:Int):(rvS W s).o=s.o:=by
 show s.o/(mdG (cmpL s 1 (-1) 1) s.o 3:Int)=s.o;rw [rv_G hv];exact Int.ediv_one _
theorem Qm5 {s:Sg} (hv:Qau s=true): ∀c∈s.ax,∀x∈c,x.natAbs≤1094374710063759360:=by
 obtain⟨⟨v1,v2,v3,v4,v5⟩,hax, -⟩:=Qaq hv;intro c hc x hx;have h1:=Zws (hax c hc) (by omega);have h2:=Zp7 hx;omega
theorem Zwj {s:Sg} (hv:Qau s=true) (i:Nat) (hi:i<3): ∀x∈cmpL s 1 (-1) 1 i,(x/(mdG (cmpL s 1 (-1) 1) s.o 3:Int)).natAbs≤4611686018427387904:=by
 intro x hx;rw [rv_G hv];obtain⟨⟨v1,v2,v3,v4,v5⟩, -, -⟩:=Qaq hv;have hv2:=Qmf (W:=s.t) hv (Int.le_refl _) (by omega);obtain⟨n,hn,hn5,hl⟩:=Qm4 hv i hi;have e1:cmpL s 1 (-1) 1 i=Qay (cq (s.ax.getD i []) 1 (-1) 1):=Qyu hn 1 (-1) 1 hn5 hl;rw [e1]at hx;have hx:=Qjj hx;rw [←Zeh hv s.t i hi]at hx;have:=Qm5 hv2 _ (Qkt _ i hi) x hx;have e:x/((1:Nat):Int)=x:=Int.ediv_one x;rw [e];omega
theorem Qyx {a b:Sg} (h:Qdr a b=true):a.t=b.f∧(∀i,i<3→plQ a 1 1 i=plQ b 0 1 i)∧plO a 1 1=plO b 0 1:=by
 unfold Qdr Qnl at h;simp only [Bool.and_eq_true,decide_eq_true_eq]at h;obtain⟨h1,h2,h3,h4,h5⟩:=h;refine⟨h1,fun i hi=> ?_,h5⟩;rcases(show i=0∨i=1∨i=2 by omega)with rfl|rfl|rfl<;>assumption
theorem Qq2 {s:Sg} (hv:Qau s=true) {m:Int} (hm:0<m):((∀i,i<3→plQ s m m i=plQ s 1 1 i)∧plO s m m=plO s 1 1)∧((∀i,i<3→plQ s 0 m i=plQ s 0 1 i)∧plO s 0 m=plO s 0 1):=by
 have h1:=Qpl (x:=1) (y:=1) hv hm;have h2:=Qpl (x:=0) (y:=1) hv hm;rw [Int.mul_one]at h1;rw [Int.mul_one,Int.mul_zero]at h2;exact⟨h1,h2⟩
def dd:List Int→List Int
 | []=>[]
 | [a]=>[a]
 |a::b::L=>if a=b then dd (b::L)else a::dd (b::L)
def sc (p:List Sg):List (Sg×Int×Int)→Int→Int→Prop
 | [],u,v=>u=v
 |x::r,u,v=>x.1∈p∧x.2.1=u∧x.1.f≤x.2.1∧x.2.1<x.2.2∧x.2.2≤x.1.t∧sc p r x.2.2 v
theorem Qtd {p:List Sg} (hV:Qa7 p=true) {s:Sg} (h:s∈p):Qau s=true:=by
 obtain⟨i,hi,rfl⟩:=List.getElem_of_mem h;exact Qby hV i hi
theorem Zpp {q:List Sg} (h1: ∀(i:Nat) (hi:i<q.length),Qau q[i]=true) (h2: ∀(i:Nat) (hi:i+1<q.length),Qdr q[i] q[i+1]=true):vpTo q q.length=true:=by
 unfold vpTo;rw [List.all_eq_true];intro j hj;have hj:=List.mem_range.1 hj;unfold vpAt;rw [sgD hj,h1 j hj,Bool.true_and];rcases Nat.eq_zero_or_pos j with r|r
 ·subst r;rfl
 ·obtain⟨i,rfl⟩: ∃i,j=i+1:=⟨j-1,by omega⟩;rw [Nat.add_sub_cancel,sgD (show i<q.length by omega),h2 i hj,Bool.or_true]
theorem Q41 {q:List Sg} (h1: ∀(i:Nat) (hi:i<q.length),Qau q[i]=true) (h2: ∀(i:Nat) (hi:i+1<q.length),Qdr q[i] q[i+1]=true) (h3:1≤q.length) (h4:q.length≤256):Qa7 q=true:=by
 unfold Qa7;rw [Zpp h1 h2,decide_eq_true h3,decide_eq_true h4];rfl
theorem Zei {a b:Sg} (h:a.t=b.f) (h1: ∀i,i<3→plQ a 1 1 i=plQ b 0 1 i) (h2:plO a 1 1=plO b 0 1):Qdr a b=true:=by
 unfold Qdr Qnl;rw [decide_eq_true h,decide_eq_true (h1 0 (by decide)),decide_eq_true (h1 1 (by decide)),decide_eq_true (h1 2 (by decide)),decide_eq_true h2];rfl
section
variable {p:List Sg} (hV:Qa7 p=true) {S:List (Sg×Int×Int)} {u v:Int} (h:sc p S u v) (hf:S.all spF=true)
include hV h hf
end
def rvP (p:List Sg):List Sg:=(List.range p.length).map fun j=>rvS (pBeg p+pEnd p) (p.getD (p.length-1-j) sg0)
theorem Qq3 (p:List Sg):(rvP p).length=p.length:=by simp [rvP]
theorem Qm6 (p:List Sg) (j:Nat) (h:j<(rvP p).length):(rvP p)[j]=rvS (pBeg p+pEnd p) (p[p.length-1-j]'(by rw [Qq3]at h;omega)):=by
 have hj:p.length-1-j<p.length:=by rw [Qq3]at h;omega
 have e:(rvP p)[j]? =some (rvS (pBeg p+pEnd p) p[p.length-1-j]):=by
  have hj2:j<p.length:=by rw [Qq3]at h;exact h
  unfold rvP;rw [List.getElem?_map,List.getElem?_range hj2,Option.map_some,sgD hj]
 rw [List.getElem?_eq_getElem h]at e;exact Option.some.inj e
section
variable {p:List Sg} (hV:Qa7 p=true)
include hV
theorem Zpq (i:Nat) (hi:i<p.length):pBeg p≤p[i].f∧p[i].t≤pEnd p:=by
 have h1:p.length-1<p.length:=by omega
 have hb:pBeg p=p[0].f:=by unfold pBeg;rw [sgD (show 0<p.length by omega)]
 have he:pEnd p=p[p.length-1].t:=by unfold pEnd;rw [sgD h1]
 refine⟨?_,by rw [he];exact Qgp hV (p.length-1) i h1 (by omega)⟩;rcases Nat.eq_zero_or_pos i with r|r
 ·subst r;omega
 ·obtain⟨k,rfl⟩: ∃k,i=k+1:=⟨i-1,by omega⟩;have m1:=(Qyx (Qft hV k hi)).1;have m2:=Qgp hV k 0 (by omega) (by omega);have m3:=(Qaq (Qby hV 0 (by omega))).1.2.1;omega
theorem Q42 (i:Nat) (hi:i<p.length):p[i].t≤pBeg p+pEnd p∧pBeg p+pEnd p≤3600000+p[i].f:=by
 obtain⟨a,b⟩:=Zpq hV i hi;have h0:0<p.length:=by omega
 have h1:p.length-1<p.length:=by omega
 have v0:=(Qaq (Qby hV 0 h0)).1;have v1:=(Qaq (Qby hV _ h1)).1;have hb:pBeg p=p[0].f:=by unfold pBeg;rw [sgD h0]
 have he:pEnd p=p[p.length-1].t:=by unfold pEnd;rw [sgD h1]
 omega
theorem Q43:Qa7 (rvP p)=true∧pBeg (rvP p)=pBeg p∧pEnd (rvP p)=pEnd p:=by
 obtain⟨-,l1,l2⟩:=Qbj hV;have hlen:=Qq3 p;refine⟨Q41 (fun i hi=> ?_) (fun i hi=> ?_) (by omega) (by omega),?_,?_⟩
 ·rw [Qm6];obtain⟨a,b⟩:=Q42 hV (p.length-1-i) (by omega);exact Qmf (Qby hV _ (by omega)) a b
 ·rw [Qm6 _ _ (by omega),Qm6];have hm:=Qft hV (p.length-1-(i+1)) (by omega);have hidx: ∀(j:Nat) (hj:j<p.length),j=p.length-1-i→p[p.length-1-(i+1)].t=p[j].f∧(∀k,k<3→plQ p[p.length-1-(i+1)] 1 1 k=plQ p[j] 0 1 k)∧plO p[p.length-1-(i+1)] 1 1=plO p[j] 0 1:=by
   intro j hj e;have e2:j=p.length-1-(i+1)+1:=by omega
   subst e2;exact Qyx hm
  obtain⟨m1,m2,m3⟩:=hidx (p.length-1-i) (by omega) rfl;have va:=Qby hV (p.length-1-i) (by omega);have vb:=Qby hV (p.length-1-(i+1)) (by omega);obtain⟨ra1,ra2⟩:=Q42 hV (p.length-1-i) (by omega);obtain⟨rb1,rb2⟩:=Q42 hV (p.length-1-(i+1)) (by omega);generalize p[p.length-1-i]=a at*;generalize p[p.length-1-(i+1)]=b at*;generalize pBeg p+pEnd p=W at*;have hra:=Qmf va ra1 ra2;have hrb:=Qmf vb rb1 rb2;have ta:=(Qaq va).1.2.1;have tb:=(Qaq vb).1.2.1;obtain⟨p1,p2⟩:=Qyw (W:=W) va a.f;obtain⟨q1,q2⟩:=Qyw (W:=W) vb b.t;obtain⟨⟨x1,x2⟩, -⟩:=Qq2 hra (m:=a.t-a.f) (by omega);obtain⟨-,y1,y2⟩:=Qq2 hrb (m:=b.t-b.f) (by omega);obtain⟨-,z1,z2⟩:=Qq2 va (m:=a.t-a.f) (by omega);obtain⟨⟨w1,w2⟩, -⟩:=Qq2 vb (m:=b.t-b.f) (by omega);have e1:a.f-a.f=0:=by omega
  have e2:b.t-b.t=0:=by omega
  rw [e1]at p1 p2;rw [e2]at q1 q2;refine Zei (show W-a.f=W-b.t by omega) (fun k hk=> ?_) ?_
  ·rw [←x1 k hk,p1 k hk,z1 k hk,←m2 k hk,←w1 k hk,←q1 k hk,y1 k hk]
  ·rw [←x2,p2,z2,←m3,←w2,←q2,y2]
 ·have h0:0<(rvP p).length:=by omega
  unfold pBeg;rw [sgD h0,Qm6];show pBeg p+pEnd p-p[p.length-1-0].t=_;have:pEnd p=p[p.length-1].t:=by unfold pEnd;rw [sgD (show p.length-1<p.length by omega)]
  have e:p[p.length-1-0].t=p[p.length-1].t:=rfl;have h2:pBeg p=(p.getD 0 sg0).f:=rfl;omega
 ·have h0:(rvP p).length-1<(rvP p).length:=by omega
  unfold pEnd;rw [sgD h0,Qm6];show pBeg p+pEnd p-(p[p.length-1-((rvP p).length-1)]'(by omega)).f=_;have hx: ∀(j:Nat) (hj:j<p.length),j=0→p[j].f=pBeg p:=by
   rintro j hj rfl;unfold pBeg;rw [sgD hj]
  rw [hx _ (by omega) (by omega)];have h2:pEnd p=(p.getD (p.length-1) sg0).t:=rfl;omega
end
section
variable {p:List Sg} (hV:Qa7 p=true) {T:List Int} (hT:T.Pairwise (· < ·)) (h0:pBeg p≤T.getD 0 0) (h1:T.getD (T.length-1) 0≤pEnd p)
include hV hT h0 h1
end
theorem cqr0 (a0:Int):cq [a0] 1 (-1) 1=[a0*1]:=by
 refine Qdo (Qej (n:=0) rfl _ _ _) fun x _=> ?_;rw [Qf7 (n:=0) rfl];simp only [hev,List.length_cons,List.length_nil]
 grind
theorem cqr1 (a0 a1:Int):cq [a0,a1] 1 (-1) 1=[a0*1+a1*1,a1*(-1)]:=by
 refine Qdo (Qej (n:=1) rfl _ _ _) fun x _=> ?_;rw [Qf7 (n:=1) rfl];simp only [hev,List.length_cons,List.length_nil]
 grind
theorem Zzr (a0 a1:Int) {o:Int}:sqQ (cq [a0,a1] 1 (-1) 1) o=sqQ [a0,a1] o∧wayQ (cq [a0,a1] 1 (-1) 1) o= -wayQ [a0,a1] o:=by
 rw [cqr1];have x1:coQ [a0,a1] o 1=(a1:Rat)/(o:Rat):=Qcc _ _ _ _ rfl;have y1:coQ [a0*1+a1*1,a1*(-1)] o 1=(a1:Rat)/(o:Rat)*(-1):=by
  rw [Qcc _ _ _ (a1*(-1)) rfl];simp only [Rat.intCast_add,Rat.intCast_mul,Rat.intCast_neg,Rat.intCast_ofNat]
  grind
 have ps:sqQ [a0,a1] o=((a1:Rat)/(o:Rat))*((a1:Rat)/(o:Rat))*1:=by
  show qs (fun j=>qs (fun m=>sqT [a0,a1] o (j+1) (m+1)) 1) 1=_;simp only [qs,sqT,Nat.zero_add,Nat.reduceAdd,x1,Qiz,Rat.zero_add]
 have pw:wayQ [a0,a1] o=((a1:Rat)/(o:Rat)):=by
  show wyS [a0,a1] o 1=_;simp only [wyS,qs,Nat.zero_add,Nat.reduceAdd,x1,Rat.zero_add]
 have qss:sqQ [a0*1+a1*1,a1*(-1)] o=((a1:Rat)/(o:Rat)*(-1))*((a1:Rat)/(o:Rat)*(-1))*1:=by
  show qs (fun j=>qs (fun m=>sqT [a0*1+a1*1,a1*(-1)] o (j+1) (m+1)) 1) 1=_;simp only [qs,sqT,Nat.zero_add,Nat.reduceAdd,y1,Qiz,Rat.zero_add]
 have qw:wayQ [a0*1+a1*1,a1*(-1)] o=((a1:Rat)/(o:Rat)*(-1)):=by
  show wyS [a0*1+a1*1,a1*(-1)] o 1=_;simp only [wyS,qs,Nat.zero_add,Nat.reduceAdd,y1,Rat.zero_add]
 rw [ps,qss,pw,qw];clear ps pw qss qw x1 y1;generalize (a1:Rat)/(o:Rat)=r1;refine⟨by grind,by grind⟩
theorem cqr2 (a0 a1 a2:Int):cq [a0,a1,a2] 1 (-1) 1=[a0*1+a1*1+a2*1,a1*(-1)+a2*(-2),a2*1]:=by
 refine Qdo (Qej (n:=2) rfl _ _ _) fun x _=> ?_;rw [Qf7 (n:=2) rfl];simp only [hev,List.length_cons,List.length_nil]
 grind
theorem Zzs (a0 a1 a2:Int) {o:Int}:sqQ (cq [a0,a1,a2] 1 (-1) 1) o=sqQ [a0,a1,a2] o∧wayQ (cq [a0,a1,a2] 1 (-1) 1) o= -wayQ [a0,a1,a2] o:=by
 rw [cqr2];have x1:coQ [a0,a1,a2] o 1=(a1:Rat)/(o:Rat):=Qcc _ _ _ _ rfl;have y1:coQ [a0*1+a1*1+a2*1,a1*(-1)+a2*(-2),a2*1] o 1=(a1:Rat)/(o:Rat)*(-1)+(a2:Rat)/(o:Rat)*(-2):=by
  rw [Qcc _ _ _ (a1*(-1)+a2*(-2)) rfl];simp only [Rat.intCast_add,Rat.intCast_mul,Rat.intCast_neg,Rat.intCast_ofNat]
  grind
 have x2:coQ [a0,a1,a2] o 2=(a2:Rat)/(o:Rat):=Qcc _ _ _ _ rfl;have y2:coQ [a0*1+a1*1+a2*1,a1*(-1)+a2*(-2),a2*1] o 2=(a2:Rat)/(o:Rat)*1:=by
  rw [Qcc _ _ _ (a2*1) rfl];simp only [Rat.intCast_add,Rat.intCast_mul,Rat.intCast_neg,Rat.intCast_ofNat]
  grind
 have ps:sqQ [a0,a1,a2] o=((a1:Rat)/(o:Rat))*((a1:Rat)/(o:Rat))*1+((a1:Rat)/(o:Rat))*((a2:Rat)/(o:Rat))*1+((a2:Rat)/(o:Rat))*((a1:Rat)/(o:Rat))*1+((a2:Rat)/(o:Rat))*((a2:Rat)/(o:Rat))*(4/3):=by
  show qs (fun j=>qs (fun m=>sqT [a0,a1,a2] o (j+1) (m+1)) 2) 2=_;simp only [qs,sqT,Nat.zero_add,Nat.reduceAdd,x1,x2,Qiz,Ql2,Ql3,Ql4,Rat.zero_add]
  grind
 have pw:wayQ [a0,a1,a2] o=((a1:Rat)/(o:Rat))+((a2:Rat)/(o:Rat)):=by
  show wyS [a0,a1,a2] o 2=_;simp only [wyS,qs,Nat.zero_add,Nat.reduceAdd,x1,x2,Rat.zero_add]
 have qss:sqQ [a0*1+a1*1+a2*1,a1*(-1)+a2*(-2),a2*1] o=((a1:Rat)/(o:Rat)*(-1)+(a2:Rat)/(o:Rat)*(-2))*((a1:Rat)/(o:Rat)*(-1)+(a2:Rat)/(o:Rat)*(-2))*1+((a1:Rat)/(o:Rat)*(-1)+(a2:Rat)/(o:Rat)*(-2))*((a2:Rat)/(o:Rat)*1)*1+((a2:Rat)/(o:Rat)*1)*((a1:Rat)/(o:Rat)*(-1)+(a2:Rat)/(o:Rat)*(-2))*1+((a2:Rat)/(o:Rat)*1)*((a2:Rat)/(o:Rat)*1)*(4/3):=by
  show qs (fun j=>qs (fun m=>sqT [a0*1+a1*1+a2*1,a1*(-1)+a2*(-2),a2*1] o (j+1) (m+1)) 2) 2=_;simp only [qs,sqT,Nat.zero_add,Nat.reduceAdd,y1,y2,Qiz,Ql2,Ql3,Ql4,Rat.zero_add]
  grind
 have qw:wayQ [a0*1+a1*1+a2*1,a1*(-1)+a2*(-2),a2*1] o=((a1:Rat)/(o:Rat)*(-1)+(a2:Rat)/(o:Rat)*(-2))+((a2:Rat)/(o:Rat)*1):=by
  show wyS [a0*1+a1*1+a2*1,a1*(-1)+a2*(-2),a2*1] o 2=_;simp only [wyS,qs,Nat.zero_add,Nat.reduceAdd,y1,y2,Rat.zero_add]
 rw [ps,qss,pw,qw];clear ps pw qss qw x1 y1 x2 y2;generalize (a1:Rat)/(o:Rat)=r1;generalize (a2:Rat)/(o:Rat)=r2;refine⟨by grind,by grind⟩
theorem cqr3 (a0 a1 a2 a3:Int):cq [a0,a1,a2,a3] 1 (-1) 1=[a0*1+a1*1+a2*1+a3*1,a1*(-1)+a2*(-2)+a3*(-3),a2*1+a3*3,a3*(-1)]:=by
 refine Qdo (Qej (n:=3) rfl _ _ _) fun x _=> ?_;rw [Qf7 (n:=3) rfl];simp only [hev,List.length_cons,List.length_nil]
 grind
theorem Zzt (a0 a1 a2 a3:Int) {o:Int}:sqQ (cq [a0,a1,a2,a3] 1 (-1) 1) o=sqQ [a0,a1,a2,a3] o∧wayQ (cq [a0,a1,a2,a3] 1 (-1) 1) o= -wayQ [a0,a1,a2,a3] o:=by
 rw [cqr3];have x1:coQ [a0,a1,a2,a3] o 1=(a1:Rat)/(o:Rat):=Qcc _ _ _ _ rfl;have y1:coQ [a0*1+a1*1+a2*1+a3*1,a1*(-1)+a2*(-2)+a3*(-3),a2*1+a3*3,a3*(-1)] o 1=(a1:Rat)/(o:Rat)*(-1)+(a2:Rat)/(o:Rat)*(-2)+(a3:Rat)/(o:Rat)*(-3):=by
  rw [Qcc _ _ _ (a1*(-1)+a2*(-2)+a3*(-3)) rfl];simp only [Rat.intCast_add,Rat.intCast_mul,Rat.intCast_neg,Rat.intCast_ofNat]
  grind
 have x2:coQ [a0,a1,a2,a3] o 2=(a2:Rat)/(o:Rat):=Qcc _ _ _ _ rfl;have y2:coQ [a0*1+a1*1+a2*1+a3*1,a1*(-1)+a2*(-2)+a3*(-3),a2*1+a3*3,a3*(-1)] o 2=(a2:Rat)/(o:Rat)*1+(a3:Rat)/(o:Rat)*3:=by
  rw [Qcc _ _ _ (a2*1+a3*3) rfl];simp only [Rat.intCast_add,Rat.intCast_mul,Rat.intCast_neg,Rat.intCast_ofNat]
  grind
 have x3:coQ [a0,a1,a2,a3] o 3=(a3:Rat)/(o:Rat):=Qcc _ _ _ _ rfl;have y3:coQ [a0*1+a1*1+a2*1+a3*1,a1*(-1)+a2*(-2)+a3*(-3),a2*1+a3*3,a3*(-1)] o 3=(a3:Rat)/(o:Rat)*(-1):=by
  rw [Qcc _ _ _ (a3*(-1)) rfl];simp only [Rat.intCast_add,Rat.intCast_mul,Rat.intCast_neg,Rat.intCast_ofNat]
  grind
 have ps:sqQ [a0,a1,a2,a3] o=((a1:Rat)/(o:Rat))*((a1:Rat)/(o:Rat))*1+((a1:Rat)/(o:Rat))*((a2:Rat)/(o:Rat))*1+((a1:Rat)/(o:Rat))*((a3:Rat)/(o:Rat))*1+((a2:Rat)/(o:Rat))*((a1:Rat)/(o:Rat))*1+((a2:Rat)/(o:Rat))*((a2:Rat)/(o:Rat))*(4/3)+((a2:Rat)/(o:Rat))*((a3:Rat)/(o:Rat))*(3/2)+((a3:Rat)/(o:Rat))*((a1:Rat)/(o:Rat))*1+((a3:Rat)/(o:Rat))*((a2:Rat)/(o:Rat))*(3/2)+((a3:Rat)/(o:Rat))*((a3:Rat)/(o:Rat))*(9/5):=by
  show qs (fun j=>qs (fun m=>sqT [a0,a1,a2,a3] o (j+1) (m+1)) 3) 3=_;simp only [qs,sqT,Nat.zero_add,Nat.reduceAdd,x1,x2,x3,Qiz,Ql2,Qqv,Ql3,Ql4,Qqw,Qqx,Qqy,Qqz,Rat.zero_add]
  grind
 have pw:wayQ [a0,a1,a2,a3] o=((a1:Rat)/(o:Rat))+((a2:Rat)/(o:Rat))+((a3:Rat)/(o:Rat)):=by
  show wyS [a0,a1,a2,a3] o 3=_;simp only [wyS,qs,Nat.zero_add,Nat.reduceAdd,x1,x2,x3,Rat.zero_add]
 have qss:sqQ [a0*1+a1*1+a2*1+a3*1,a1*(-1)+a2*(-2)+a3*(-3),a2*1+a3*3,a3*(-1)] o=((a1:Rat)/(o:Rat)*(-1)+(a2:Rat)/(o:Rat)*(-2)+(a3:Rat)/(o:Rat)*(-3))*((a1:Rat)/(o:Rat)*(-1)+(a2:Rat)/(o:Rat)*(-2)+(a3:Rat)/(o:Rat)*(-3))*1+((a1:Rat)/(o:Rat)*(-1)+(a2:Rat)/(o:Rat)*(-2)+(a3:Rat)/(o:Rat)*(-3))*((a2:Rat)/(o:Rat)*1+(a3:Rat)/(o:Rat)*3)*1+((a1:Rat)/(o:Rat)*(-1)+(a2:Rat)/(o:Rat)*(-2)+(a3:Rat)/(o:Rat)*(-3))*((a3:Rat)/(o:Rat)*(-1))*1+((a2:Rat)/(o:Rat)*1+(a3:Rat)/(o:Rat)*3)*((a1:Rat)/(o:Rat)*(-1)+(a2:Rat)/(o:Rat)*(-2)+(a3:Rat)/(o:Rat)*(-3))*1+((a2:Rat)/(o:Rat)*1+(a3:Rat)/(o:Rat)*3)*((a2:Rat)/(o:Rat)*1+(a3:Rat)/(o:Rat)*3)*(4/3)+((a2:Rat)/(o:Rat)*1+(a3:Rat)/(o:Rat)*3)*((a3:Rat)/(o:Rat)*(-1))*(3/2)+((a3:Rat)/(o:Rat)*(-1))*((a1:Rat)/(o:Rat)*(-1)+(a2:Rat)/(o:Rat)*(-2)+(a3:Rat)/(o:Rat)*(-3))*1+((a3:Rat)/(o:Rat)*(-1))*((a2:Rat)/(o:Rat)*1+(a3:Rat)/(o:Rat)*3)*(3/2)+((a3:Rat)/(o:Rat)*(-1))*((a3:Rat)/(o:Rat)*(-1))*(9/5):=by
  show qs (fun j=>qs (fun m=>sqT [a0*1+a1*1+a2*1+a3*1,a1*(-1)+a2*(-2)+a3*(-3),a2*1+a3*3,a3*(-1)] o (j+1) (m+1)) 3) 3=_;simp only [qs,sqT,Nat.zero_add,Nat.reduceAdd,y1,y2,y3,Qiz,Ql2,Qqv,Ql3,Ql4,Qqw,Qqx,Qqy,Qqz,Rat.zero_add]
  grind
 have qw:wayQ [a0*1+a1*1+a2*1+a3*1,a1*(-1)+a2*(-2)+a3*(-3),a2*1+a3*3,a3*(-1)] o=((a1:Rat)/(o:Rat)*(-1)+(a2:Rat)/(o:Rat)*(-2)+(a3:Rat)/(o:Rat)*(-3))+((a2:Rat)/(o:Rat)*1+(a3:Rat)/(o:Rat)*3)+((a3:Rat)/(o:Rat)*(-1)):=by
  show wyS [a0*1+a1*1+a2*1+a3*1,a1*(-1)+a2*(-2)+a3*(-3),a2*1+a3*3,a3*(-1)] o 3=_;simp only [wyS,qs,Nat.zero_add,Nat.reduceAdd,y1,y2,y3,Rat.zero_add]
 rw [ps,qss,pw,qw];clear ps pw qss qw x1 y1 x2 y2 x3 y3;generalize (a1:Rat)/(o:Rat)=r1;generalize (a2:Rat)/(o:Rat)=r2;generalize (a3:Rat)/(o:Rat)=r3;refine⟨by grind,by grind⟩
theorem cqr4 (a0 a1 a2 a3 a4:Int):cq [a0,a1,a2,a3,a4] 1 (-1) 1=[a0*1+a1*1+a2*1+a3*1+a4*1,a1*(-1)+a2*(-2)+a3*(-3)+a4*(-4),a2*1+a3*3+a4*6,a3*(-1)+a4*(-4),a4*1]:=by
 refine Qdo (Qej (n:=4) rfl _ _ _) fun x _=> ?_;rw [Qf7 (n:=4) rfl];simp only [hev,List.length_cons,List.length_nil]
 grind
theorem Zzu (a0 a1 a2 a3 a4:Int) {o:Int}:sqQ (cq [a0,a1,a2,a3,a4] 1 (-1) 1) o=sqQ [a0,a1,a2,a3,a4] o∧wayQ (cq [a0,a1,a2,a3,a4] 1 (-1) 1) o= -wayQ [a0,a1,a2,a3,a4] o:=by
 rw [cqr4];have x1:coQ [a0,a1,a2,a3,a4] o 1=(a1:Rat)/(o:Rat):=Qcc _ _ _ _ rfl;have y1:coQ [a0*1+a1*1+a2*1+a3*1+a4*1,a1*(-1)+a2*(-2)+a3*(-3)+a4*(-4),a2*1+a3*3+a4*6,a3*(-1)+a4*(-4),a4*1] o 1=(a1:Rat)/(o:Rat)*(-1)+(a2:Rat)/(o:Rat)*(-2)+(a3:Rat)/(o:Rat)*(-3)+(a4:Rat)/(o:Rat)*(-4):=by
  rw [Qcc _ _ _ (a1*(-1)+a2*(-2)+a3*(-3)+a4*(-4)) rfl];simp only [Rat.intCast_add,Rat.intCast_mul,Rat.intCast_neg,Rat.intCast_ofNat]
  grind
 have x2:coQ [a0,a1,a2,a3,a4] o 2=(a2:Rat)/(o:Rat):=Qcc _ _ _ _ rfl;have y2:coQ [a0*1+a1*1+a2*1+a3*1+a4*1,a1*(-1)+a2*(-2)+a3*(-3)+a4*(-4),a2*1+a3*3+a4*6,a3*(-1)+a4*(-4),a4*1] o 2=(a2:Rat)/(o:Rat)*1+(a3:Rat)/(o:Rat)*3+(a4:Rat)/(o:Rat)*6:=by
  rw [Qcc _ _ _ (a2*1+a3*3+a4*6) rfl];simp only [Rat.intCast_add,Rat.intCast_mul,Rat.intCast_neg,Rat.intCast_ofNat]
  grind
 have x3:coQ [a0,a1,a2,a3,a4] o 3=(a3:Rat)/(o:Rat):=Qcc _ _ _ _ rfl;have y3:coQ [a0*1+a1*1+a2*1+a3*1+a4*1,a1*(-1)+a2*(-2)+a3*(-3)+a4*(-4),a2*1+a3*3+a4*6,a3*(-1)+a4*(-4),a4*1] o 3=(a3:Rat)/(o:Rat)*(-1)+(a4:Rat)/(o:Rat)*(-4):=by
  rw [Qcc _ _ _ (a3*(-1)+a4*(-4)) rfl];simp only [Rat.intCast_add,Rat.intCast_mul,Rat.intCast_neg,Rat.intCast_ofNat]
  grind
 have x4:coQ [a0,a1,a2,a3,a4] o 4=(a4:Rat)/(o:Rat):=Qcc _ _ _ _ rfl;have y4:coQ [a0*1+a1*1+a2*1+a3*1+a4*1,a1*(-1)+a2*(-2)+a3*(-3)+a4*(-4),a2*1+a3*3+a4*6,a3*(-1)+a4*(-4),a4*1] o 4=(a4:Rat)/(o:Rat)*1:=by
  rw [Qcc _ _ _ (a4*1) rfl];simp only [Rat.intCast_add,Rat.intCast_mul,Rat.intCast_neg,Rat.intCast_ofNat]
  grind
 have ps:sqQ [a0,a1,a2,a3,a4] o=((a1:Rat)/(o:Rat))*((a1:Rat)/(o:Rat))*1+((a1:Rat)/(o:Rat))*((a2:Rat)/(o:Rat))*1+((a1:Rat)/(o:Rat))*((a3:Rat)/(o:Rat))*1+((a1:Rat)/(o:Rat))*((a4:Rat)/(o:Rat))*1+((a2:Rat)/(o:Rat))*((a1:Rat)/(o:Rat))*1+((a2:Rat)/(o:Rat))*((a2:Rat)/(o:Rat))*(4/3)+((a2:Rat)/(o:Rat))*((a3:Rat)/(o:Rat))*(3/2)+((a2:Rat)/(o:Rat))*((a4:Rat)/(o:Rat))*(8/5)+((a3:Rat)/(o:Rat))*((a1:Rat)/(o:Rat))*1+((a3:Rat)/(o:Rat))*((a2:Rat)/(o:Rat))*(3/2)+((a3:Rat)/(o:Rat))*((a3:Rat)/(o:Rat))*(9/5)+((a3:Rat)/(o:Rat))*((a4:Rat)/(o:Rat))*2+((a4:Rat)/(o:Rat))*((a1:Rat)/(o:Rat))*1+((a4:Rat)/(o:Rat))*((a2:Rat)/(o:Rat))*(8/5)+((a4:Rat)/(o:Rat))*((a3:Rat)/(o:Rat))*2+((a4:Rat)/(o:Rat))*((a4:Rat)/(o:Rat))*(16/7):=by
  show qs (fun j=>qs (fun m=>sqT [a0,a1,a2,a3,a4] o (j+1) (m+1)) 4) 4=_;simp only [qs,sqT,Nat.zero_add,Nat.reduceAdd,x1,x2,x3,x4,Qiz,Ql2,Qqv,Q0y,Ql3,Ql4,Qqw,Q0z,Qqx,Qqy,Qqz,Q00,Q01,Q02,Q03,Q04,Rat.zero_add]
  grind
 have pw:wayQ [a0,a1,a2,a3,a4] o=((a1:Rat)/(o:Rat))+((a2:Rat)/(o:Rat))+((a3:Rat)/(o:Rat))+((a4:Rat)/(o:Rat)):=by
  show wyS [a0,a1,a2,a3,a4] o 4=_;simp only [wyS,qs,Nat.zero_add,Nat.reduceAdd,x1,x2,x3,x4,Rat.zero_add]
 have qss:sqQ [a0*1+a1*1+a2*1+a3*1+a4*1,a1*(-1)+a2*(-2)+a3*(-3)+a4*(-4),a2*1+a3*3+a4*6,a3*(-1)+a4*(-4),a4*1] o=((a1:Rat)/(o:Rat)*(-1)+(a2:Rat)/(o:Rat)*(-2)+(a3:Rat)/(o:Rat)*(-3)+(a4:Rat)/(o:Rat)*(-4))*((a1:Rat)/(o:Rat)*(-1)+(a2:Rat)/(o:Rat)*(-2)+(a3:Rat)/(o:Rat)*(-3)+(a4:Rat)/(o:Rat)*(-4))*1+((a1:Rat)/(o:Rat)*(-1)+(a2:Rat)/(o:Rat)*(-2)+(a3:Rat)/(o:Rat)*(-3)+(a4:Rat)/(o:Rat)*(-4))*((a2:Rat)/(o:Rat)*1+(a3:Rat)/(o:Rat)*3+(a4:Rat)/(o:Rat)*6)*1+((a1:Rat)/(o:Rat)*(-1)+(a2:Rat)/(o:Rat)*(-2)+(a3:Rat)/(o:Rat)*(-3)+(a4:Rat)/(o:Rat)*(-4))*((a3:Rat)/(o:Rat)*(-1)+(a4:Rat)/(o:Rat)*(-4))*1+((a1:Rat)/(o:Rat)*(-1)+(a2:Rat)/(o:Rat)*(-2)+(a3:Rat)/(o:Rat)*(-3)+(a4:Rat)/(o:Rat)*(-4))*((a4:Rat)/(o:Rat)*1)*1+((a2:Rat)/(o:Rat)*1+(a3:Rat)/(o:Rat)*3+(a4:Rat)/(o:Rat)*6)*((a1:Rat)/(o:Rat)*(-1)+(a2:Rat)/(o:Rat)*(-2)+(a3:Rat)/(o:Rat)*(-3)+(a4:Rat)/(o:Rat)*(-4))*1+((a2:Rat)/(o:Rat)*1+(a3:Rat)/(o:Rat)*3+(a4:Rat)/(o:Rat)*6)*((a2:Rat)/(o:Rat)*1+(a3:Rat)/(o:Rat)*3+(a4:Rat)/(o:Rat)*6)*(4/3)+((a2:Rat)/(o:Rat)*1+(a3:Rat)/(o:Rat)*3+(a4:Rat)/(o:Rat)*6)*((a3:Rat)/(o:Rat)*(-1)+(a4:Rat)/(o:Rat)*(-4))*(3/2)+((a2:Rat)/(o:Rat)*1+(a3:Rat)/(o:Rat)*3+(a4:Rat)/(o:Rat)*6)*((a4:Rat)/(o:Rat)*1)*(8/5)+((a3:Rat)/(o:Rat)*(-1)+(a4:Rat)/(o:Rat)*(-4))*((a1:Rat)/(o:Rat)*(-1)+(a2:Rat)/(o:Rat)*(-2)+(a3:Rat)/(o:Rat)*(-3)+(a4:Rat)/(o:Rat)*(-4))*1+((a3:Rat)/(o:Rat)*(-1)+(a4:Rat)/(o:Rat)*(-4))*((a2:Rat)/(o:Rat)*1+(a3:Rat)/(o:Rat)*3+(a4:Rat)/(o:Rat)*6)*(3/2)+((a3:Rat)/(o:Rat)*(-1)+(a4:Rat)/(o:Rat)*(-4))*((a3:Rat)/(o:Rat)*(-1)+(a4:Rat)/(o:Rat)*(-4))*(9/5)+((a3:Rat)/(o:Rat)*(-1)+(a4:Rat)/(o:Rat)*(-4))*((a4:Rat)/(o:Rat)*1)*2+((a4:Rat)/(o:Rat)*1)*((a1:Rat)/(o:Rat)*(-1)+(a2:Rat)/(o:Rat)*(-2)+(a3:Rat)/(o:Rat)*(-3)+(a4:Rat)/(o:Rat)*(-4))*1+((a4:Rat)/(o:Rat)*1)*((a2:Rat)/(o:Rat)*1+(a3:Rat)/(o:Rat)*3+(a4:Rat)/(o:Rat)*6)*(8/5)+((a4:Rat)/(o:Rat)*1)*((a3:Rat)/(o:Rat)*(-1)+(a4:Rat)/(o:Rat)*(-4))*2+((a4:Rat)/(o:Rat)*1)*((a4:Rat)/(o:Rat)*1)*(16/7):=by
  show qs (fun j=>qs (fun m=>sqT [a0*1+a1*1+a2*1+a3*1+a4*1,a1*(-1)+a2*(-2)+a3*(-3)+a4*(-4),a2*1+a3*3+a4*6,a3*(-1)+a4*(-4),a4*1] o (j+1) (m+1)) 4) 4=_;simp only [qs,sqT,Nat.zero_add,Nat.reduceAdd,y1,y2,y3,y4,Qiz,Ql2,Qqv,Q0y,Ql3,Ql4,Qqw,Q0z,Qqx,Qqy,Qqz,Q00,Q01,Q02,Q03,Q04,Rat.zero_add]
  grind
 have qw:wayQ [a0*1+a1*1+a2*1+a3*1+a4*1,a1*(-1)+a2*(-2)+a3*(-3)+a4*(-4),a2*1+a3*3+a4*6,a3*(-1)+a4*(-4),a4*1] o=((a1:Rat)/(o:Rat)*(-1)+(a2:Rat)/(o:Rat)*(-2)+(a3:Rat)/(o:Rat)*(-3)+(a4:Rat)/(o:Rat)*(-4))+((a2:Rat)/(o:Rat)*1+(a3:Rat)/(o:Rat)*3+(a4:Rat)/(o:Rat)*6)+((a3:Rat)/(o:Rat)*(-1)+(a4:Rat)/(o:Rat)*(-4))+((a4:Rat)/(o:Rat)*1):=by
  show wyS [a0*1+a1*1+a2*1+a3*1+a4*1,a1*(-1)+a2*(-2)+a3*(-3)+a4*(-4),a2*1+a3*3+a4*6,a3*(-1)+a4*(-4),a4*1] o 4=_;simp only [wyS,qs,Nat.zero_add,Nat.reduceAdd,y1,y2,y3,y4,Rat.zero_add]
 rw [ps,qss,pw,qw];clear ps pw qss qw x1 y1 x2 y2 x3 y3 x4 y4;generalize (a1:Rat)/(o:Rat)=r1;generalize (a2:Rat)/(o:Rat)=r2;generalize (a3:Rat)/(o:Rat)=r3;generalize (a4:Rat)/(o:Rat)=r4;refine⟨by grind,by grind⟩
theorem cqr5 (a0 a1 a2 a3 a4 a5:Int):cq [a0,a1,a2,a3,a4,a5] 1 (-1) 1=[a0*1+a1*1+a2*1+a3*1+a4*1+a5*1,a1*(-1)+a2*(-2)+a3*(-3)+a4*(-4)+a5*(-5),a2*1+a3*3+a4*6+a5*10,a3*(-1)+a4*(-4)+a5*(-10),a4*1+a5*5,a5*(-1)]:=by
 refine Qdo (Qej (n:=5) rfl _ _ _) fun x _=> ?_;rw [Qf7 (n:=5) rfl];simp only [hev,List.length_cons,List.length_nil]
 grind
theorem Zzv (a0 a1 a2 a3 a4 a5:Int) {o:Int}:sqQ (cq [a0,a1,a2,a3,a4,a5] 1 (-1) 1) o=sqQ [a0,a1,a2,a3,a4,a5] o∧wayQ (cq [a0,a1,a2,a3,a4,a5] 1 (-1) 1) o= -wayQ [a0,a1,a2,a3,a4,a5] o:=by
 rw [cqr5];have x1:coQ [a0,a1,a2,a3,a4,a5] o 1=(a1:Rat)/(o:Rat):=Qcc _ _ _ _ rfl;have y1:coQ [a0*1+a1*1+a2*1+a3*1+a4*1+a5*1,a1*(-1)+a2*(-2)+a3*(-3)+a4*(-4)+a5*(-5),a2*1+a3*3+a4*6+a5*10,a3*(-1)+a4*(-4)+a5*(-10),a4*1+a5*5,a5*(-1)] o 1=(a1:Rat)/(o:Rat)*(-1)+(a2:Rat)/(o:Rat)*(-2)+(a3:Rat)/(o:Rat)*(-3)+(a4:Rat)/(o:Rat)*(-4)+(a5:Rat)/(o:Rat)*(-5):=by
  rw [Qcc _ _ _ (a1*(-1)+a2*(-2)+a3*(-3)+a4*(-4)+a5*(-5)) rfl];simp only [Rat.intCast_add,Rat.intCast_mul,Rat.intCast_neg,Rat.intCast_ofNat]
  grind
 have x2:coQ [a0,a1,a2,a3,a4,a5] o 2=(a2:Rat)/(o:Rat):=Qcc _ _ _ _ rfl;have y2:coQ [a0*1+a1*1+a2*1+a3*1+a4*1+a5*1,a1*(-1)+a2*(-2)+a3*(-3)+a4*(-4)+a5*(-5),a2*1+a3*3+a4*6+a5*10,a3*(-1)+a4*(-4)+a5*(-10),a4*1+a5*5,a5*(-1)] o 2=(a2:Rat)/(o:Rat)*1+(a3:Rat)/(o:Rat)*3+(a4:Rat)/(o:Rat)*6+(a5:Rat)/(o:Rat)*10:=by
  rw [Qcc _ _ _ (a2*1+a3*3+a4*6+a5*10) rfl];simp only [Rat.intCast_add,Rat.intCast_mul,Rat.intCast_neg,Rat.intCast_ofNat]
  grind
 have x3:coQ [a0,a1,a2,a3,a4,a5] o 3=(a3:Rat)/(o:Rat):=Qcc _ _ _ _ rfl;have y3:coQ [a0*1+a1*1+a2*1+a3*1+a4*1+a5*1,a1*(-1)+a2*(-2)+a3*(-3)+a4*(-4)+a5*(-5),a2*1+a3*3+a4*6+a5*10,a3*(-1)+a4*(-4)+a5*(-10),a4*1+a5*5,a5*(-1)] o 3=(a3:Rat)/(o:Rat)*(-1)+(a4:Rat)/(o:Rat)*(-4)+(a5:Rat)/(o:Rat)*(-10):=by
  rw [Qcc _ _ _ (a3*(-1)+a4*(-4)+a5*(-10)) rfl];simp only [Rat.intCast_add,Rat.intCast_mul,Rat.intCast_neg,Rat.intCast_ofNat]
  grind
 have x4:coQ [a0,a1,a2,a3,a4,a5] o 4=(a4:Rat)/(o:Rat):=Qcc _ _ _ _ rfl;have y4:coQ [a0*1+a1*1+a2*1+a3*1+a4*1+a5*1,a1*(-1)+a2*(-2)+a3*(-3)+a4*(-4)+a5*(-5),a2*1+a3*3+a4*6+a5*10,a3*(-1)+a4*(-4)+a5*(-10),a4*1+a5*5,a5*(-1)] o 4=(a4:Rat)/(o:Rat)*1+(a5:Rat)/(o:Rat)*5:=by
  rw [Qcc _ _ _ (a4*1+a5*5) rfl];simp only [Rat.intCast_add,Rat.intCast_mul,Rat.intCast_neg,Rat.intCast_ofNat]
  grind
 have x5:coQ [a0,a1,a2,a3,a4,a5] o 5=(a5:Rat)/(o:Rat):=Qcc _ _ _ _ rfl;have y5:coQ [a0*1+a1*1+a2*1+a3*1+a4*1+a5*1,a1*(-1)+a2*(-2)+a3*(-3)+a4*(-4)+a5*(-5),a2*1+a3*3+a4*6+a5*10,a3*(-1)+a4*(-4)+a5*(-10),a4*1+a5*5,a5*(-1)] o 5=(a5:Rat)/(o:Rat)*(-1):=by
  rw [Qcc _ _ _ (a5*(-1)) rfl];simp only [Rat.intCast_add,Rat.intCast_mul,Rat.intCast_neg,Rat.intCast_ofNat]
  grind
 have ps:sqQ [a0,a1,a2,a3,a4,a5] o=((a1:Rat)/(o:Rat))*((a1:Rat)/(o:Rat))*1+((a1:Rat)/(o:Rat))*((a2:Rat)/(o:Rat))*1+((a1:Rat)/(o:Rat))*((a3:Rat)/(o:Rat))*1+((a1:Rat)/(o:Rat))*((a4:Rat)/(o:Rat))*1+((a1:Rat)/(o:Rat))*((a5:Rat)/(o:Rat))*1+((a2:Rat)/(o:Rat))*((a1:Rat)/(o:Rat))*1+((a2:Rat)/(o:Rat))*((a2:Rat)/(o:Rat))*(4/3)+((a2:Rat)/(o:Rat))*((a3:Rat)/(o:Rat))*(3/2)+((a2:Rat)/(o:Rat))*((a4:Rat)/(o:Rat))*(8/5)+((a2:Rat)/(o:Rat))*((a5:Rat)/(o:Rat))*(5/3)+((a3:Rat)/(o:Rat))*((a1:Rat)/(o:Rat))*1+((a3:Rat)/(o:Rat))*((a2:Rat)/(o:Rat))*(3/2)+((a3:Rat)/(o:Rat))*((a3:Rat)/(o:Rat))*(9/5)+((a3:Rat)/(o:Rat))*((a4:Rat)/(o:Rat))*2+((a3:Rat)/(o:Rat))*((a5:Rat)/(o:Rat))*(15/7)+((a4:Rat)/(o:Rat))*((a1:Rat)/(o:Rat))*1+((a4:Rat)/(o:Rat))*((a2:Rat)/(o:Rat))*(8/5)+((a4:Rat)/(o:Rat))*((a3:Rat)/(o:Rat))*2+((a4:Rat)/(o:Rat))*((a4:Rat)/(o:Rat))*(16/7)+((a4:Rat)/(o:Rat))*((a5:Rat)/(o:Rat))*(5/2)+((a5:Rat)/(o:Rat))*((a1:Rat)/(o:Rat))*1+((a5:Rat)/(o:Rat))*((a2:Rat)/(o:Rat))*(5/3)+((a5:Rat)/(o:Rat))*((a3:Rat)/(o:Rat))*(15/7)+((a5:Rat)/(o:Rat))*((a4:Rat)/(o:Rat))*(5/2)+((a5:Rat)/(o:Rat))*((a5:Rat)/(o:Rat))*(25/9):=by
  show qs (fun j=>qs (fun m=>sqT [a0,a1,a2,a3,a4,a5] o (j+1) (m+1)) 5) 5=_;simp only [qs,sqT,Nat.zero_add,Nat.reduceAdd,x1,x2,x3,x4,x5,Qiz,Ql2,Qqv,Q0y,Zpd,Ql3,Ql4,Qqw,Q0z,Zpe,Qqx,Qqy,Qqz,Q00,Zpf,Q01,Q02,Q03,Q04,Zpg,Zph,Zpi,Zpj,Zpk,Zpl,Rat.zero_add]
  grind
 have pw:wayQ [a0,a1,a2,a3,a4,a5] o=((a1:Rat)/(o:Rat))+((a2:Rat)/(o:Rat))+((a3:Rat)/(o:Rat))+((a4:Rat)/(o:Rat))+((a5:Rat)/(o:Rat)):=by
  show wyS [a0,a1,a2,a3,a4,a5] o 5=_;simp only [wyS,qs,Nat.zero_add,Nat.reduceAdd,x1,x2,x3,x4,x5,Rat.zero_add]
 have qss:sqQ [a0*1+a1*1+a2*1+a3*1+a4*1+a5*1,a1*(-1)+a2*(-2)+a3*(-3)+a4*(-4)+a5*(-5),a2*1+a3*3+a4*6+a5*10,a3*(-1)+a4*(-4)+a5*(-10),a4*1+a5*5,a5*(-1)] o=((a1:Rat)/(o:Rat)*(-1)+(a2:Rat)/(o:Rat)*(-2)+(a3:Rat)/(o:Rat)*(-3)+(a4:Rat)/(o:Rat)*(-4)+(a5:Rat)/(o:Rat)*(-5))*((a1:Rat)/(o:Rat)*(-1)+(a2:Rat)/(o:Rat)*(-2)+(a3:Rat)/(o:Rat)*(-3)+(a4:Rat)/(o:Rat)*(-4)+(a5:Rat)/(o:Rat)*(-5))*1+((a1:Rat)/(o:Rat)*(-1)+(a2:Rat)/(o:Rat)*(-2)+(a3:Rat)/(o:Rat)*(-3)+(a4:Rat)/(o:Rat)*(-4)+(a5:Rat)/(o:Rat)*(-5))*((a2:Rat)/(o:Rat)*1+(a3:Rat)/(o:Rat)*3+(a4:Rat)/(o:Rat)*6+(a5:Rat)/(o:Rat)*10)*1+((a1:Rat)/(o:Rat)*(-1)+(a2:Rat)/(o:Rat)*(-2)+(a3:Rat)/(o:Rat)*(-3)+(a4:Rat)/(o:Rat)*(-4)+(a5:Rat)/(o:Rat)*(-5))*((a3:Rat)/(o:Rat)*(-1)+(a4:Rat)/(o:Rat)*(-4)+(a5:Rat)/(o:Rat)*(-10))*1+((a1:Rat)/(o:Rat)*(-1)+(a2:Rat)/(o:Rat)*(-2)+(a3:Rat)/(o:Rat)*(-3)+(a4:Rat)/(o:Rat)*(-4)+(a5:Rat)/(o:Rat)*(-5))*((a4:Rat)/(o:Rat)*1+(a5:Rat)/(o:Rat)*5)*1+((a1:Rat)/(o:Rat)*(-1)+(a2:Rat)/(o:Rat)*(-2)+(a3:Rat)/(o:Rat)*(-3)+(a4:Rat)/(o:Rat)*(-4)+(a5:Rat)/(o:Rat)*(-5))*((a5:Rat)/(o:Rat)*(-1))*1+((a2:Rat)/(o:Rat)*1+(a3:Rat)/(o:Rat)*3+(a4:Rat)/(o:Rat)*6+(a5:Rat)/(o:Rat)*10)*((a1:Rat)/(o:Rat)*(-1)+(a2:Rat)/(o:Rat)*(-2)+(a3:Rat)/(o:Rat)*(-3)+(a4:Rat)/(o:Rat)*(-4)+(a5:Rat)/(o:Rat)*(-5))*1+((a2:Rat)/(o:Rat)*1+(a3:Rat)/(o:Rat)*3+(a4:Rat)/(o:Rat)*6+(a5:Rat)/(o:Rat)*10)*((a2:Rat)/(o:Rat)*1+(a3:Rat)/(o:Rat)*3+(a4:Rat)/(o:Rat)*6+(a5:Rat)/(o:Rat)*10)*(4/3)+((a2:Rat)/(o:Rat)*1+(a3:Rat)/(o:Rat)*3+(a4:Rat)/(o:Rat)*6+(a5:Rat)/(o:Rat)*10)*((a3:Rat)/(o:Rat)*(-1)+(a4:Rat)/(o:Rat)*(-4)+(a5:Rat)/(o:Rat)*(-10))*(3/2)+((a2:Rat)/(o:Rat)*1+(a3:Rat)/(o:Rat)*3+(a4:Rat)/(o:Rat)*6+(a5:Rat)/(o:Rat)*10)*((a4:Rat)/(o:Rat)*1+(a5:Rat)/(o:Rat)*5)*(8/5)+((a2:Rat)/(o:Rat)*1+(a3:Rat)/(o:Rat)*3+(a4:Rat)/(o:Rat)*6+(a5:Rat)/(o:Rat)*10)*((a5:Rat)/(o:Rat)*(-1))*(5/3)+((a3:Rat)/(o:Rat)*(-1)+(a4:Rat)/(o:Rat)*(-4)+(a5:Rat)/(o:Rat)*(-10))*((a1:Rat)/(o:Rat)*(-1)+(a2:Rat)/(o:Rat)*(-2)+(a3:Rat)/(o:Rat)*(-3)+(a4:Rat)/(o:Rat)*(-4)+(a5:Rat)/(o:Rat)*(-5))*1+((a3:Rat)/(o:Rat)*(-1)+(a4:Rat)/(o:Rat)*(-4)+(a5:Rat)/(o:Rat)*(-10))*((a2:Rat)/(o:Rat)*1+(a3:Rat)/(o:Rat)*3+(a4:Rat)/(o:Rat)*6+(a5:Rat)/(o:Rat)*10)*(3/2)+((a3:Rat)/(o:Rat)*(-1)+(a4:Rat)/(o:Rat)*(-4)+(a5:Rat)/(o:Rat)*(-10))*((a3:Rat)/(o:Rat)*(-1)+(a4:Rat)/(o:Rat)*(-4)+(a5:Rat)/(o:Rat)*(-10))*(9/5)+((a3:Rat)/(o:Rat)*(-1)+(a4:Rat)/(o:Rat)*(-4)+(a5:Rat)/(o:Rat)*(-10))*((a4:Rat)/(o:Rat)*1+(a5:Rat)/(o:Rat)*5)*2+((a3:Rat)/(o:Rat)*(-1)+(a4:Rat)/(o:Rat)*(-4)+(a5:Rat)/(o:Rat)*(-10))*((a5:Rat)/(o:Rat)*(-1))*(15/7)+((a4:Rat)/(o:Rat)*1+(a5:Rat)/(o:Rat)*5)*((a1:Rat)/(o:Rat)*(-1)+(a2:Rat)/(o:Rat)*(-2)+(a3:Rat)/(o:Rat)*(-3)+(a4:Rat)/(o:Rat)*(-4)+(a5:Rat)/(o:Rat)*(-5))*1+((a4:Rat)/(o:Rat)*1+(a5:Rat)/(o:Rat)*5)*((a2:Rat)/(o:Rat)*1+(a3:Rat)/(o:Rat)*3+(a4:Rat)/(o:Rat)*6+(a5:Rat)/(o:Rat)*10)*(8/5)+((a4:Rat)/(o:Rat)*1+(a5:Rat)/(o:Rat)*5)*((a3:Rat)/(o:Rat)*(-1)+(a4:Rat)/(o:Rat)*(-4)+(a5:Rat)/(o:Rat)*(-10))*2+((a4:Rat)/(o:Rat)*1+(a5:Rat)/(o:Rat)*5)*((a4:Rat)/(o:Rat)*1+(a5:Rat)/(o:Rat)*5)*(16/7)+((a4:Rat)/(o:Rat)*1+(a5:Rat)/(o:Rat)*5)*((a5:Rat)/(o:Rat)*(-1))*(5/2)+((a5:Rat)/(o:Rat)*(-1))*((a1:Rat)/(o:Rat)*(-1)+(a2:Rat)/(o:Rat)*(-2)+(a3:Rat)/(o:Rat)*(-3)+(a4:Rat)/(o:Rat)*(-4)+(a5:Rat)/(o:Rat)*(-5))*1+((a5:Rat)/(o:Rat)*(-1))*((a2:Rat)/(o:Rat)*1+(a3:Rat)/(o:Rat)*3+(a4:Rat)/(o:Rat)*6+(a5:Rat)/(o:Rat)*10)*(5/3)+((a5:Rat)/(o:Rat)*(-1))*((a3:Rat)/(o:Rat)*(-1)+(a4:Rat)/(o:Rat)*(-4)+(a5:Rat)/(o:Rat)*(-10))*(15/7)+((a5:Rat)/(o:Rat)*(-1))*((a4:Rat)/(o:Rat)*1+(a5:Rat)/(o:Rat)*5)*(5/2)+((a5:Rat)/(o:Rat)*(-1))*((a5:Rat)/(o:Rat)*(-1))*(25/9):=by
  show qs (fun j=>qs (fun m=>sqT [a0*1+a1*1+a2*1+a3*1+a4*1+a5*1,a1*(-1)+a2*(-2)+a3*(-3)+a4*(-4)+a5*(-5),a2*1+a3*3+a4*6+a5*10,a3*(-1)+a4*(-4)+a5*(-10),a4*1+a5*5,a5*(-1)] o (j+1) (m+1)) 5) 5=_;simp only [qs,sqT,Nat.zero_add,Nat.reduceAdd,y1,y2,y3,y4,y5,Qiz,Ql2,Qqv,Q0y,Zpd,Ql3,Ql4,Qqw,Q0z,Zpe,Qqx,Qqy,Qqz,Q00,Zpf,Q01,Q02,Q03,Q04,Zpg,Zph,Zpi,Zpj,Zpk,Zpl,Rat.zero_add]
  grind
 have qw:wayQ [a0*1+a1*1+a2*1+a3*1+a4*1+a5*1,a1*(-1)+a2*(-2)+a3*(-3)+a4*(-4)+a5*(-5),a2*1+a3*3+a4*6+a5*10,a3*(-1)+a4*(-4)+a5*(-10),a4*1+a5*5,a5*(-1)] o=((a1:Rat)/(o:Rat)*(-1)+(a2:Rat)/(o:Rat)*(-2)+(a3:Rat)/(o:Rat)*(-3)+(a4:Rat)/(o:Rat)*(-4)+(a5:Rat)/(o:Rat)*(-5))+((a2:Rat)/(o:Rat)*1+(a3:Rat)/(o:Rat)*3+(a4:Rat)/(o:Rat)*6+(a5:Rat)/(o:Rat)*10)+((a3:Rat)/(o:Rat)*(-1)+(a4:Rat)/(o:Rat)*(-4)+(a5:Rat)/(o:Rat)*(-10))+((a4:Rat)/(o:Rat)*1+(a5:Rat)/(o:Rat)*5)+((a5:Rat)/(o:Rat)*(-1)):=by
  show wyS [a0*1+a1*1+a2*1+a3*1+a4*1+a5*1,a1*(-1)+a2*(-2)+a3*(-3)+a4*(-4)+a5*(-5),a2*1+a3*3+a4*6+a5*10,a3*(-1)+a4*(-4)+a5*(-10),a4*1+a5*5,a5*(-1)] o 5=_;simp only [wyS,qs,Nat.zero_add,Nat.reduceAdd,y1,y2,y3,y4,y5,Rat.zero_add]
 rw [ps,qss,pw,qw];clear ps pw qss qw x1 y1 x2 y2 x3 y3 x4 y4 x5 y5;generalize (a1:Rat)/(o:Rat)=r1;generalize (a2:Rat)/(o:Rat)=r2;generalize (a3:Rat)/(o:Rat)=r3;generalize (a4:Rat)/(o:Rat)=r4;generalize (a5:Rat)/(o:Rat)=r5;refine⟨by grind,by grind⟩
theorem Q4t {c:List Int} {o:Int} (h:axOK c o=true):sqQ (cq c 1 (-1) 1) o=sqQ c o∧wayQ (cq c 1 (-1) 1) o= -wayQ c o:=by
 simp only [axOK,Qi3,Bool.and_eq_true,decide_eq_true_eq]at h;obtain⟨⟨h1,h2, -⟩, -⟩:=h
 match c,h1,h2 with
 | [a0],_,_=>rw [cqr0];exact⟨rfl,rfl⟩
 | [a0,a1],_,_=>exact Zzr _ _
 | [a0,a1,a2],_,_=>exact Zzs _ _ _
 | [a0,a1,a2,a3],_,_=>exact Zzt _ _ _ _
 | [a0,a1,a2,a3,a4],_,_=>exact Zzu _ _ _ _ _
 | [a0,a1,a2,a3,a4,a5],_,_=>exact Zzv _ _ _ _ _ _
theorem Q4u (q:Rat) (c:List Int) (o t:Int):axQ q c o t 0=q+sqQ c o*fr 1000 t:=by
 unfold axQ;have e1:fr (-2*0) 1=0:=by rw [Qtc];rfl
 have e2:fr (0*0) 1=0:=by rw [Qtc];rfl
 rw [e1,e2];grind
theorem Zd7 {s:Sg} {W:Int} (hv:Qau s=true) (B:Bat) (hw:wayQ s.z s.o=0):Qf6 (rvS W s) B 0 0 0=Qf6 s B 0 0 0:=by
 have h0:=Zeh hv W 0 (by decide);have h1:=Zeh hv W 1 (by decide);have h2:=Zeh hv W 2 (by decide);have ho:=rv_o hv W;have ht:(rvS W s).t-(rvS W s).f=s.t-s.f:=by show(W-s.f)-(W-s.t)=_;omega
 obtain⟨_,hax, -⟩:=Qaq hv;have a0:=Q4t (hax s.x (by simp [Sg.ax]));have a1:=Q4t (hax s.y (by simp [Sg.ax]));have a2:=Q4t (hax s.z (by simp [Sg.ax]));have h0:(rvS W s).x=cq s.x 1 (-1) 1:=h0;have h1:(rvS W s).y=cq s.y 1 (-1) 1:=h1;have h2:(rvS W s).z=cq s.z 1 (-1) 1:=h2;unfold Qf6 Qvl baQ drQ;rw [h0,h1,h2,ho,ht];simp only [Q4u];rw [a0.1,a1.1,a2.1,a2.2,hw];have: -(0:Rat)=0:=rfl;rw [this]
end Go.Dg
