/-
  OE13, UXS, UX2, OF1, OF2, OF3, OF4 (merged for the claim).
-/
import Derived.Test.YtnohfmdlaajpbaaGreatOE12
import Derived.Test.YtnohfmdlaajpbaaGreatULD
import Derived.Test.YtnohfmdlaajpbaaGreatDgm
import Derived.Test.YtnohfmdlaajpbaaGreatUFd
import Derived.Test.YtnohfmdlaajpbaaGreatUYG
set_option linter.unusedSimpArgs false
set_option linter.unusedVariables false
namespace Go.Proofs.YtnohfmdlaajpbaaGreat
open Go.Vl Go.RowKit Go.Dg
def ixs (L:List Rc) (a:Int):Nat→List Nat
 |0=>[]
 |i+1=>ixs L a i++(if((L.getD i rc0).a==a)=true then [i]else [])
theorem Q44 (L:List Rc) (a:Int): ∀i,ofO L a i=(ixs L a i).map fun k:Nat=>[.int .i64 (k:Int),rcV (L.getD k rc0)]
 |0=>rfl
 |i+1=>by
  simp only [ofO,ixs,Q44 L a i,List.map_append,of1];congr 1;split<;>rfl
theorem Quy (L:List Rc) (a:Int): ∀i,∀k∈ixs L a i,k<i∧(L.getD k rc0).a=a
 |0,k,h=>by cases h
 |i+1,k,h=>by
  simp only [ixs,List.mem_append]at h;rcases h with h|h
  ·have:=Quy L a i k h;exact⟨by omega,this.2⟩
  ·split at h
   ·rename_i e;simp only [List.mem_singleton]at h;subst h;exact⟨by omega,beq_iff_eq.1 e⟩
   ·cases h
def stP (s n:Int) (L:List Rc) (p:Sp) (k:Nat):Sp:=
 if((L.getD k rc0).k==2&& !((L.getD k rc0).s==p.bef))=true then⟨(L.getD k rc0).s,if Qd1 p.bef (L.getD k rc0).s=true then p.out else p.out++[⟨5,n,k,(L.getD k rc0).t-s⟩]⟩else p
def stF (s n:Int) (L:List Rc) (l:List Nat):Sp:=l.foldl (stP s n L) ⟨0,[]⟩
theorem Qlm (s n:Int) (L:List Rc) (l:List Nat) (k:Nat):stF s n L (l++[k])=stP s n L (stF s n L l) k:=by simp [stF]
theorem Q45 (s n:Int) (L:List Rc): ∀i,stA s n L i=stF s n L (ixs L (n+1) i)
 |0=>rfl
 |i+1=>by
  have ih:=Q45 s n L i;by_cases ha:(L.getD i rc0).a=n+1
  ·have hx:ixs L (n+1) (i+1)=ixs L (n+1) i++[i]:=by rw [ixs,if_pos (beq_iff_eq.2 ha)]
   rw [hx,Qlm];simp only [stA,ih];generalize stF s n L (ixs L (n+1) i)=p;unfold stP;have e:isS n p.bef (L.getD i rc0)=((L.getD i rc0).k==2&& !((L.getD i rc0).s==p.bef)):=by
    unfold isS;rw [decide_eq_true ha,Bool.true_and,bq,bq]
   rw [e]
  ·have hx:ixs L (n+1) (i+1)=ixs L (n+1) i:=by rw [ixs,if_neg (fun q=>ha (beq_iff_eq.1 q)),List.append_nil]
   rw [hx];simp only [stA,ih];have e:isS n (stF s n L (ixs L (n+1) i)).bef (L.getD i rc0)=false:=by
    unfold isS;rw [decide_eq_false ha,Bool.false_and,Bool.and_false]
   rw [if_neg (by rw [e];decide)]
theorem Zp9 (s n:Int) (L:List Rc) (p:Sp) (k:Nat):p.out.length≤(stP s n L p k).out.length∧(stP s n L p k).out.length≤p.out.length+1:=by
 unfold stP;split
 ·simp only;split
  ·exact⟨Nat.le_refl _,by omega⟩
  ·simp
 ·exact⟨Nat.le_refl _,by omega⟩
theorem Q46 (s n:Int) (L:List Rc) (l:List Nat): ∀j,(stF s n L (l.take j)).out.length≤j
 |0=>by simp [stF]
 |j+1=>by
  have ih:=Q46 s n L l j;by_cases h:j<l.length
  ·rw [List.take_add_one,List.getElem?_eq_getElem h];have:=Qlm s n L (l.take j) l[j];simp only [Option.toList_some];rw [this];have:=(Zp9 s n L (stF s n L (l.take j)) l[j]).2;omega
  ·rw [List.take_of_length_le (by omega)]at ih ⊢;omega
abbrev foB (n s:Int) (nm:Nat):Box:={els:=[.fn 51 [] [.bp nm 1 0 0,.rp [.int .i64 n],.rp [.int .i64 s]]],esz:=1,ety:=118,fro:=0,live:=true,arr:=false}
abbrev iB3 (n:Int):Box:={els:=[.int .i64 n],esz:=1,ety:=53,fro:=0,live:=true,arr:=false}
theorem Zw9 {r:Rc} {n:Int} (h:recB r=true) (hn:0≤n) (ha:r.a=n+1) (hk:r.k=2):0≤r.s∧r.s≤7:=by
 unfold recB at h;simp only [Bool.and_eq_true]at h;obtain⟨_,_,h⟩:=h;rw [if_neg (by omega),if_pos hk,if_neg (by omega)]at h;simp only [Bool.and_eq_true]at h;exact Qb7.1 h.1
theorem Zqa (s n:Int) (L:List Rc) (hf: ∀k,k<L.length→recB (L.getD k rc0)=true) (hn:0≤n) (j:Nat):0≤(stF s n L ((ixs L (n+1) L.length).take j)).bef∧(stF s n L ((ixs L (n+1) L.length).take j)).bef≤7:=by
 have hm:=Quy L (n+1) L.length;generalize ixs L (n+1) L.length=l at*
 induction j with
 |zero=>simp [stF]
 |succ j ih=>
  by_cases h:j<l.length
  ·rw [List.take_add_one,List.getElem?_eq_getElem h];have e:=Qlm s n L (l.take j) l[j];simp only [Option.toList_some];rw [e];obtain⟨q1,q2⟩:=hm l[j] (List.getElem_mem h);unfold stP;split
   ·rename_i q3;simp only [Bool.and_eq_true,beq_iff_eq]at q3;exact Zw9 (hf _ q1) hn q2 q3.1
   ·exact ih
  ·rw [List.take_of_length_le (by omega)]at ih ⊢;exact ih
set_option maxHeartbeats 8000000 in
set_option maxRecDepth 100000 in
theorem Qx1 (L:List Rc) (n s:Int) (F:List Go.Dg.Fd) (hl:L.length≤100000) (hf: ∀k,k<L.length→recB (L.getD k rc0)=true) (hn:0≤n∧n≤63) (hs:0≤s∧s≤3600000) (hF:F.length≤100000):
  Qbv Tryz.prog 50 [lgR L,.int .i64 n,.fn 51 [] [.bp 1000000 1 0 0,.rp [.int .i64 n],.rp [.int .i64 s]]] [(1000000,adB 1000001),(1000001,ouB 1000002 F.length),(1000002,fdB F)] (.tup [])
   [(1000000,adB 1000001),(1000001,ouB 9 (F++(stA s n L L.length).out).length),(1000002,fdD),(9,fdB (F++(stA s n L L.length).out))]:=by
 have hO:=Z1l L (n+1) (by omega);have hY:=Z1i L (n+1) hl;have hw:IntKind.i64.wrap (n+1)=n+1:=Qag (by omega) (by omega);rw [Q45];rw [Q44]at hY;have hmem:=Quy L (n+1) L.length;have hbef:=Zqa s n L hf hn.1;have hlen:=Q46 s n L (ixs L (n+1) L.length);generalize hlI:ixs L (n+1) L.length=I at*;have hIL:I.length≤L.length:=by
  have: ∀i,(ixs L (n+1) i).length≤i:=fun i=>by
   induction i with
   |zero=>exact Nat.le_refl _
   |succ i ih=>simp only [ixs,List.length_append];split<;>simp<;>omega
  have:=this L.length;rw [hlI]at this;exact this
 have hgO: ∀j (h:j<I.length),(I.map fun k:Nat=>[PV.int .i64 (k:Int),rcV (L.getD k rc0)])[j]? =some [.int .i64 (I[j]:Int),rcV (L.getD I[j] rc0)]:=fun j h=>by simp [h]
 have hlO:(I.map fun k:Nat=>[PV.int .i64 (k:Int),rcV (L.getD k rc0)]).length=I.length:=List.length_map ..;generalize (I.map fun k:Nat=>[PV.int .i64 (k:Int),rcV (L.getD k rc0)])=OO at*;have ble7:Nat.ble 1000000 1000002=true:=rfl

 refine Qbc (tb:=[(904,[(1000000,1000000),(1000001,1000001),(1000002,7)],[(9,9)])]) 44 [] [0,1,2,5,6,7,8,9,10,19,20,21,22,31,36] mixed Tryz.func50 rfl (by kernel_rfl) (by kernel_rfl) (by kernel_rfl) (by kernel_rfl) (by rfl) ?_;repeat (first|simp -implicitDefEqProofs only [go_sem,seval,lgR,hw,bne_self_eq_false]|(with_reducible refine Qaa hO ?_ ?_ ?_);rfl;rfl)
 refine Qi1 (Zb9 1000002 7 1000001 rfl rfl rfl rfl rfl rfl rfl rfl (by decide)) ?_;refine Qh6 mixed hY rfl rfl _ rfl [(1000000,1000000),(1000001,1000001),(1000002,1000002),(1000003,0),(1000004,300),(7,7)] [1000000,1000001,1000002,1000003,1000004] rfl [(5,.bp 1000003 1 0 0),(8,.bp 1000004 1 0 0)]
  (fun j:Nat=>[(1000000,adB 1000001),(1000001,ouB 7 (F++(stF s n L (I.take j)).out).length),(1000002,fdD),(1000003,foB n s 1000000),(1000004,iB3 (stF s n L (I.take j)).bef),(7,fdB (F++(stF s n L (I.take j)).out))]) rfl rfl ?_ ?_ ?_ I.length .normal (fun h=>by omega) (fun j _ _=>by simp [lkp]) ?_ rfl ?_
  [(1000000,1000000),(1000001,1000001),(1000002,1000002),(7,7)] [] [(1000000,adB 1000001),(1000001,ouB 7 (F++(stF s n L I).out).length),(1000002,fdD),(7,fdB (F++(stF s n L I).out))] rfl rfl ?_ ?_ (fun _=> ?_) (fun h=>by omega)
 ·simp [Qac,lkp,ren1,ren0,Qah]
 ·have e0:stF s n L (I.take 0)=⟨0,[]⟩:=rfl;simp only [e0,List.append_nil];exact⟨⟨rfl,rfl,rfl,rfl,rfl,.inr ⟨rfl,_,_,rfl,rfl,rfl,rfl⟩⟩,⟨rfl,rfl,rfl,rfl,rfl,.inr ⟨rfl,_,_,rfl,rfl,rfl,rfl⟩⟩,⟨rfl,rfl,rfl,rfl,rfl,.inl ⟨rfl,rfl⟩⟩,⟨rfl,rfl,rfl,rfl,rfl,.inr ⟨rfl,_,_,rfl,rfl,rfl,rfl⟩⟩,⟨rfl,rfl,rfl,rfl,rfl,.inr ⟨rfl,_,_,rfl,rfl,rfl,rfl⟩⟩,⟨rfl,rfl,rfl,rfl,rfl,.inl ⟨rfl,rfl⟩⟩,trivial⟩
 ·simp [Qac,lkp,ren1,ren0,Qah,Qki]
 ·intro j args h;rw [hgO j (by rw [←hlO];exact(List.getElem?_eq_some_iff.1 h).1)]at h;have h':=Option.some.inj h;rw [←h'];rfl
 ·rintro j args hja hjs;have hj:j<I.length:=by rw [←hlO];exact(List.getElem?_eq_some_iff.1 hja).1
  rw [hgO j hj]at hja;obtain rfl:=Option.some.inj hja;have hI:=hmem I[j] (List.getElem_mem hj);have hst:stF s n L (I.take (j+1))=stP s n L (stF s n L (I.take j)) I[j]:=by
   rw [List.take_add_one,List.getElem?_eq_getElem hj];exact Qlm s n L (I.take j) I[j]
  have hb:=hbef j;have hln:=hlen j;have hfr:=hf I[j] hI.1;unfold stP at hst;generalize hP:stF s n L (I.take j)=p at*;have hfol:=fun b h=>Zp8 p.bef b h;generalize hij:I[j]=ij at*;generalize L.getD ij rc0=r at*;simp only [Qqb r];cases hk:(r.k==2)with
  |false=>
   have hk':(r.k != 2)=true:=by simp [bne,hk]
   rw [hk,Bool.false_and,if_neg (by decide)]at hst;repeat simp -implicitDefEqProofs only [go_sem,seval,pvars,List.toList_toArray]
   refine⟨by simp [lkp],?_⟩;repeat simp -implicitDefEqProofs only [go_sem,seval,hk']
   refine⟨hj,?_⟩;simp only [hst,List.append_assoc,List.length_append];refine Qaj (θ:=[(1000000,1000000),(1000001,1000001),(1000002,1000002),(1000003,1000003),(1000004,1000004),(7,7)]) rfl ?_ ?_
   ·simp [Qac,lkp,ren1,ren0,Qah]
   ·exact⟨⟨rfl,rfl,rfl,rfl,rfl,.inr ⟨rfl,_,_,rfl,rfl,rfl,rfl⟩⟩,⟨rfl,rfl,rfl,rfl,rfl,.inr ⟨rfl,_,_,rfl,rfl,rfl,rfl⟩⟩,⟨rfl,rfl,rfl,rfl,rfl,.inl ⟨rfl,rfl⟩⟩,⟨rfl,rfl,rfl,rfl,rfl,.inr ⟨rfl,_,_,rfl,rfl,rfl,rfl⟩⟩,⟨rfl,rfl,rfl,rfl,rfl,.inr ⟨rfl,_,_,rfl,rfl,rfl,rfl⟩⟩,⟨rfl,rfl,rfl,rfl,rfl,.inl ⟨rfl,rfl⟩⟩,trivial⟩
  |true=>
  have hk':(r.k != 2)=false:=by simp [bne,hk]
  cases hs2:(r.s==p.bef)with
  |true=>
   rw [hs2,Bool.not_true,Bool.and_false,if_neg (by decide)]at hst;repeat simp -implicitDefEqProofs only [go_sem,seval,pvars,List.toList_toArray]
   refine⟨by simp [lkp],?_⟩;repeat simp -implicitDefEqProofs only [go_sem,seval,hk',hs2]
   refine⟨hj,?_⟩;simp only [hst,List.append_assoc,List.length_append];refine Qaj (θ:=[(1000000,1000000),(1000001,1000001),(1000002,1000002),(1000003,1000003),(1000004,1000004),(7,7)]) rfl ?_ ?_
   ·simp [Qac,lkp,ren1,ren0,Qah]
   ·exact⟨⟨rfl,rfl,rfl,rfl,rfl,.inr ⟨rfl,_,_,rfl,rfl,rfl,rfl⟩⟩,⟨rfl,rfl,rfl,rfl,rfl,.inr ⟨rfl,_,_,rfl,rfl,rfl,rfl⟩⟩,⟨rfl,rfl,rfl,rfl,rfl,.inl ⟨rfl,rfl⟩⟩,⟨rfl,rfl,rfl,rfl,rfl,.inr ⟨rfl,_,_,rfl,rfl,rfl,rfl⟩⟩,⟨rfl,rfl,rfl,rfl,rfl,.inr ⟨rfl,_,_,rfl,rfl,rfl,rfl⟩⟩,⟨rfl,rfl,rfl,rfl,rfl,.inl ⟨rfl,rfl⟩⟩,trivial⟩
  |false=>
  have hfo:=hfol r.s hb;rw [hk,hs2,Bool.not_false,Bool.and_true,if_pos rfl]at hst;cases hff:Qd1 p.bef r.s with
  |true=>
   rw [hff,if_pos rfl]at hst;rw [hff]at hfo;repeat simp -implicitDefEqProofs only [go_sem,seval,pvars,List.toList_toArray]
   refine⟨by simp [lkp],?_⟩;repeat (first|simp -implicitDefEqProofs only [go_sem,seval,hk',hs2,Bool.not_true]|(with_reducible refine Qaa hfo ?_ ?_ ?_);rfl;rfl)
   refine⟨hj,?_⟩;simp only [hst,List.append_assoc,List.length_append];refine Qaj (θ:=[(1000000,1000000),(1000001,1000001),(1000002,1000002),(1000003,1000003),(1000004,1000004),(7,7)]) rfl ?_ ?_
   ·simp [Qac,lkp,ren1,ren0,Qah]
   ·exact⟨⟨rfl,rfl,rfl,rfl,rfl,.inr ⟨rfl,_,_,rfl,rfl,rfl,rfl⟩⟩,⟨rfl,rfl,rfl,rfl,rfl,.inr ⟨rfl,_,_,rfl,rfl,rfl,rfl⟩⟩,⟨rfl,rfl,rfl,rfl,rfl,.inl ⟨rfl,rfl⟩⟩,⟨rfl,rfl,rfl,rfl,rfl,.inr ⟨rfl,_,_,rfl,rfl,rfl,rfl⟩⟩,⟨rfl,rfl,rfl,rfl,rfl,.inr ⟨rfl,_,_,rfl,rfl,rfl,rfl⟩⟩,⟨rfl,rfl,rfl,rfl,rfl,.inl ⟨rfl,rfl⟩⟩,trivial⟩
  |false=>
   rw [hff,if_neg (by decide)]at hst;rw [hff]at hfo;have htw:IntKind.i64.wrap (r.t-s)=r.t-s:=Qag (by have:=(Qcq hfr).1;omega) (by have:=(Qcq hfr).1;omega);have hadd:=Zw8 (F++p.out) (ij:Int) r.t n s (r.t-s) htw (by rw [List.length_append];omega);rw [show(F++p.out).length+1=(F++(p.out++[({k:=5,a:=n,i:=(ij:Int),t:=r.t-s}:Go.Dg.Fd)])).length by simp [Nat.add_assoc],List.append_assoc]at hadd;generalize p.out++[({k:=5,a:=n,i:=(ij:Int),t:=r.t-s}:Go.Dg.Fd)]=G at*;repeat simp -implicitDefEqProofs only [go_sem,seval,pvars,List.toList_toArray]
   refine⟨by simp [lkp],?_⟩;repeat (first|simp -implicitDefEqProofs only [go_sem,seval,hk',hs2,Bool.not_false,bl13,bl14,ble7,bl9]|(with_reducible refine Qaa hfo ?_ ?_ ?_);rfl;rfl|(with_reducible refine Qai hadd ?_ ?_ ?_ ?_);rfl;rfl;rfl)
   refine⟨hj,?_⟩;simp only [hst,List.append_assoc,List.length_append];refine Qaj (θ:=[(1000000,1000000),(1000001,1000001),(1000002,1000002),(1000003,1000003),(1000004,1000004),(7,9)]) rfl ?_ ?_
   ·simp [Qac,lkp,ren1,ren0,Qah]
   ·exact⟨⟨rfl,rfl,rfl,rfl,rfl,.inr ⟨rfl,_,_,rfl,rfl,rfl,rfl⟩⟩,⟨rfl,rfl,rfl,rfl,rfl,.inr ⟨rfl,_,_,rfl,rfl,rfl,rfl⟩⟩,⟨rfl,rfl,rfl,rfl,rfl,.inl ⟨rfl,rfl⟩⟩,⟨rfl,rfl,rfl,rfl,rfl,.inr ⟨rfl,_,_,rfl,rfl,rfl,rfl⟩⟩,⟨rfl,rfl,rfl,rfl,rfl,.inr ⟨rfl,_,_,rfl,rfl,rfl,rfl⟩⟩,⟨rfl,rfl,rfl,rfl,rfl,.inl ⟨rfl,rfl⟩⟩,trivial⟩
 ·simp [Qac,lkp,ren1,ren0,Qah]
 ·have hm:min OO.length (I.length+1)=I.length:=by omega
  have ht:I.take I.length=I:=List.take_length;rw [hm];simp only [ht];exact⟨⟨rfl,rfl,rfl,rfl,rfl,.inr ⟨rfl,_,_,rfl,rfl,rfl,rfl⟩⟩,⟨rfl,rfl,rfl,rfl,rfl,.inr ⟨rfl,_,_,rfl,rfl,rfl,rfl⟩⟩,⟨rfl,rfl,rfl,rfl,rfl,.inl ⟨rfl,rfl⟩⟩,⟨rfl,rfl,rfl,rfl,rfl,.inl ⟨rfl,rfl⟩⟩,trivial⟩
 ·repeat simp -implicitDefEqProofs only [go_sem]
  refine Qa2 (.inr rfl) ?_;simp -implicitDefEqProofs only [go_sem];refine Qaj (θ:=[(1000000,1000000),(1000001,1000001),(1000002,1000002),(9,7)]) rfl ?_ ?_
  ·simp [Qac,lkp,ren1,ren0,Qah]
  ·exact⟨⟨rfl,rfl,rfl,rfl,rfl,.inr ⟨rfl,_,_,rfl,rfl,rfl,rfl⟩⟩,⟨rfl,rfl,rfl,rfl,rfl,.inr ⟨rfl,_,_,rfl,rfl,rfl,rfl⟩⟩,⟨rfl,rfl,rfl,rfl,rfl,.inl ⟨rfl,rfl⟩⟩,⟨rfl,rfl,rfl,rfl,rfl,.inl ⟨rfl,rfl⟩⟩,trivial⟩
end Go.Proofs.YtnohfmdlaajpbaaGreat

namespace Go.Vl
open Go.RowKit
section
variable {P:Program} {b:Frame} {a:Act} {k:List Item} {cs:List Frame} {w:World}
end
def Qpo (P:Program) (tb:Tab) (nt:Nat) (ks:List Nat) (k:List It) (Q:Exit→St→Prop) (e:Exit) (s:St):Prop:=(∀l,e≠ .goto l)∧gleave P tb nt ks k Q e s
section
variable (P:Program) (tb:Tab) (nt:Nat) (ks:List Nat) (k:List It) (Q:Exit→St→Prop) (s:St)
theorem Qrp:Qpo P tb nt ks k Q .normal s=go P tb nt ks k Q s:=by
 unfold Qpo;rw [Qc2];exact propext ⟨fun h=>h.2,fun h=>⟨fun l=>by simp,h⟩⟩
theorem Qxe (i:Nat):Qpo P tb nt ks k Q (.exit i) s=gleave P tb nt ks k Q (.exit i) s:=by
 unfold Qpo;exact propext ⟨fun h=>h.2,fun h=>⟨fun l=>by simp,h⟩⟩
theorem Q3j:Qpo P tb nt ks k Q .ret s=gleave P tb nt ks k Q .ret s:=by
 unfold Qpo;exact propext ⟨fun h=>h.2,fun h=>⟨fun l=>by simp,h⟩⟩
end
attribute [go_sem] Qrp Qxe Q3j List.append_eq
def Zwk (P:Program) (tb:Tab) (nt:Nat) (ks:List Nat) (c:Code) (k:List It) (Q:Exit→St→Prop):List Nat→St→Prop
 | [],_=>False
 |_::l,st=>go P tb nt ks (.code c:: .again (fun s=> ∃s',Le s s'∧Zwk P tb nt ks c k Q l s')::k) Q st
theorem Q3i (P:Program) (tb:Tab) (nt:Nat) (ks:List Nat) (c:Code) (k:List It) (Q:Exit→St→Prop) (i:Nat) (l:List Nat) (st:St):Zwk P tb nt ks c k Q (i::l) st=go P tb nt ks (.code c:: .again (fun s=> ∃s',Le s s'∧Zwk P tb nt ks c k Q l s')::k) Q st:=rfl
attribute [go_sem] Q3i
end Go.Vl

namespace Go.Proofs.YtnohfmdlaajpbaaGreat
open Go.Vl Go.RowKit Go.Dg
def sgV (s:Sg):PV:= .agg [.int .i64 s.f,.int .i64 s.t,.int .i64 s.o,.slc (s.x.map (PV.int .i64)),.slc (s.y.map (PV.int .i64)),.slc (s.z.map (PV.int .i64))]
def pV (p:List Sg):PV:= .slc (p.map sgV)
theorem lt_T {i n:Nat} (h:i<n):((i:Int)<(n:Int))=True:=by simp only [eq_iff_iff,iff_true];omega
theorem lt_F {i n:Nat} (h: ¬i<n):((i:Int)<(n:Int))=False:=by simp only [eq_iff_iff,iff_false];omega
theorem nn_T (i:Nat):((0:Int)≤(i:Int))=True:=by simp
theorem wr_1 {n:Nat} (h:n<9223372036854775807):IntKind.i64.wrap ((n:Int)+1)=((n+1:Nat):Int):=by rw [Qag (by omega) (by omega)];omega
theorem Qjz {α:Type} (l:List α) (i:Nat) (hi:i<l.length):l.take (i+1)=l.take i++[l[i]]:=by rw [List.take_add_one];simp [hi]
theorem Zx1 {α:Type} {p:α→Bool} {l:List α} {i:Nat} (hi:i<l.length) (h:(l.take i).all p=true) (hp:p l[i]=true):(l.take (i+1)).all p=true:=by
 rw [List.take_add_one,List.all_append,h];simp [hi,hp]
theorem Zx2 {α:Type} {p:α→Bool} {l:List α} {i:Nat} (hi:i<l.length) (hp:p l[i]=false):l.all p=false:=by
 rw [List.all_eq_false];exact⟨l[i],List.getElem_mem hi,by simp [hp]⟩
theorem T_m1:Qn7 Tryz.prog 252=some (237,139):=by kernel_rfl
theorem T_m2:Qwf Tryz.prog 237=some [1]:=by kernel_rfl
theorem T_m3:Qa8 Tryz.prog 237=false:=by kernel_rfl
theorem Zez (xs:List Int) (hx:xs.length≤1000):Qaf Tryz.prog 89 [.int .i64 1048576,.slc (xs.map (PV.int .i64))] (.bool (xs.all inB)):=by
 have hwm:IntKind.i64.wrap (0-1048576)= -1048576:=by rw [Qag (by decide) (by decide)];rfl
 have hwn:IntKind.i64.wrap (-1048576)= -1048576:=Qag (by decide) (by decide);refine Qab (tb:=[]) 23 [.tmp 4] [0,1,4,6,7,8,9,10,21] mixed Tryz.func89 rfl (by kernel_rfl) ?_;repeat simp -implicitDefEqProofs only [go_sem,seval,List.length_map]
 refine Qas mixed (fun k:{k:Nat // k≤xs.length∧(xs.take k).all inB=true}=>St.of [(0,.int .i64 1048576),(1,.slc (xs.map (PV.int .i64))),(4,.bool false),(7,.slc (xs.map (PV.int .i64))),(8,.int .i64 (xs.length:Int)),(9,.int .i64 k.1)] []) (fun k=>xs.length-k.1) ⟨0,Nat.zero_le _,rfl⟩ ?_ ?_
 ·exact Qa0 (by simp [Qac,lkp,ren1,ren0,Qah])
 ·rintro⟨k,hk,hall⟩;by_cases hlt:k<xs.length
  ·have h1:=lt_T hlt;have h0:=nn_T k;have ea:(xs.map (PV.int .i64))[k]? =some (.int .i64 xs[k]):=by simp [hlt]
   have hwk:=wr_1 (n:=k) (by omega);have hn:=fun h=>Zx2 (p:=inB) hlt h;have hs:=fun h=>Zx1 (p:=inB) hlt hall h;generalize xs[k]=x at*;by_cases ha:x< -1048576
   ·have ha':(x< -1048576)=True:=eq_true ha;rw [hn (by simp [inB,ha])];repeat simp -implicitDefEqProofs only [go_sem,seval,h1,h0,Int.toNat_natCast,ea,hwn,ha',decide_true]
   ·have ha':(x< -1048576)=False:=eq_false ha;by_cases hb:1048576<x
    ·have hb':(1048576<x)=True:=eq_true hb;rw [hn (by simp [inB,hb])];repeat simp -implicitDefEqProofs only [go_sem,seval,h1,h0,Int.toNat_natCast,ea,hwn,ha',hb',decide_true,decide_false]
    ·have hb':(1048576<x)=False:=eq_false hb;repeat simp -implicitDefEqProofs only [go_sem,seval,h1,h0,Int.toNat_natCast,ea,hwn,ha',hb',hwk,decide_false]
     refine⟨⟨k+1,hlt,hs (by simp [inB,ha,hb])⟩,by simp only;omega,?_⟩;exact Qa0 (by simp [Qac,lkp,ren1,ren0,Qah])
  ·have h1:=lt_F hlt;rw [List.take_of_length_le (by omega)]at hall;rw [hall];repeat simp -implicitDefEqProofs only [go_sem,seval,h1]
theorem Qfh (v:V3):Qaf Tryz.prog 85 [v3PV v] (.bool (ptB v)):=by
 have h:=Zez [v.x,v.y,v.z] (by simp);have e:([v.x,v.y,v.z].all inB)=ptB v:=by simp [ptB]
 rw [e]at h;simp only [List.map_cons,List.map_nil]at h;unfold v3PV;refine Qab (tb:=[]) 11 [.tmp 2] [0,1,2] mixed Tryz.func85 rfl (by kernel_rfl) ?_;repeat (first|simp -implicitDefEqProofs only [go_sem,seval]|(with_reducible refine Qaa h ?_ ?_ ?_);rfl;rfl)
def Zx3:List (PV×PV):=[(.int .i64 0,.slc []),(.int .i64 1,.slc [.int .i64 1]),(.int .i64 2,.slc [.int .i64 0,.int .i64 0,.int .i64 10,.int .i64 (-15),.int .i64 6])]
theorem Zx4:Qbv Tryz.prog 163 [] [] (.mp 100) [(100,{els:=[],esz:=1,ety:=252,fro:=0,live:=true,arr:=true,mp:=some Zx3})]:=by
 refine Qbc (tb:=[]) 5 [.tmp 0] [0] mixed Tryz.func163 rfl (by kernel_rfl) (by kernel_rfl) (by kernel_rfl) (by kernel_rfl) (by rfl) ?_;repeat simp -implicitDefEqProofs only [go_sem,seval,T_m1,T_m2,T_m3,Qpx,Qli]
 refine Qa2 (.inl rfl) ?_;simp -implicitDefEqProofs only [go_sem,seval];refine Qaj (θ:=[(100,100)]) rfl ?_ ?_
 ·simp [Qac,lkp,ren1,ren0,Qah]
 ·exact⟨⟨rfl,rfl,rfl,rfl,rfl,.inl ⟨rfl,rfl⟩⟩,trivial⟩
def okC (n:Int):Prop:= -4194304≤n∧n≤4194304
def tmL (a b:Int) (row:List Int) (k:Nat):List PV:= .int .i64 a::(row.take k).map fun f=> .int .i64 (f*(b-a))
theorem Zom {a b:Int} {row:List Int} {k:Nat} (h:k≤row.length):(tmL a b row k).length=k+1:=by simp [tmL];omega
theorem Z1v (a b:Int) (row:List Int) (k:Nat):((tmL a b row k).flatMap PV.cells).all PV.okCell=true:=by
 rw [List.all_flatMap,List.all_eq_true];intro e he;unfold tmL at he;rcases List.mem_cons.1 he with rfl|he
 ·rfl
 ·obtain⟨f,_,rfl⟩:=List.mem_map.1 he;rfl
theorem Zqq {a b:Int} {row:List Int} {k:Nat} (h:k<row.length):tmL a b row (k+1)=tmL a b row k++[.int .i64 (row[k]*(b-a))]:=by
 unfold tmL;rw [Qjz _ _ h];simp only [List.map_append,List.map_cons,List.map_nil,List.cons_append]
theorem Zx5 {a b:Int} {row:List Int}:tmL a b row row.length=(a::row.map fun f=>f*(b-a)).map (PV.int .i64):=by
 unfold tmL;rw [List.take_length];simp
theorem Qu8 (a b:Int) (row:List Int) (hr:row.length≤16) (hrow: ∀f∈row, -100≤f∧f≤100) (ha:okC a) (hb:okC b):Qaf Tryz.prog 164 [.int .i64 a,.int .i64 b,.slc (row.map (PV.int .i64))] (.slc ((Qdc a b row).map (PV.int .i64))):=by
 unfold okC at ha hb;have wd:IntKind.i64.wrap (b-a)=b-a:=Qag (by omega) (by omega);by_cases hab:a=b
 ·have h1:(a != b)=false:=by simp [hab]
  have e:Qdc a b row=[a]:=if_pos hab;rw [e];refine Qab (tb:=[]) 31 [.tmp 6] [0,1,2,6,7,9,14,15,16,17,18] mixed Tryz.func164 rfl (by kernel_rfl) ?_;repeat simp -implicitDefEqProofs only [go_sem,seval,h1,List.map_cons,List.map_nil]
 ·have h1:(a != b)=true:=by simp [hab]
  have e:Qdc a b row=a::row.map fun f=>f*(b-a):=if_neg hab;rw [e,←Zx5];refine Qab (tb:=[]) 31 [.tmp 6] [0,1,2,6,7,9,14,15,16,17,18] mixed Tryz.func164 rfl (by kernel_rfl) ?_;repeat simp -implicitDefEqProofs only [go_sem,seval,h1,List.length_map]
  refine Qas mixed (fun k:{k:Nat // k≤row.length}=>St.of [(0,.int .i64 a),(1,.int .i64 b),(7,.bs 7 1 0 (k.1+1)),(15,.slc (row.map (PV.int .i64))),(16,.int .i64 (row.length:Int)),(17,.int .i64 (k.1:Int))]
   [(7,{els:=tmL a b row k.1,esz:=1,ety:=3,fro:=0,live:=true,arr:=true})]) (fun k=>row.length-k.1) ⟨0,Nat.zero_le _⟩ ?_ ?_
  ·refine Qaj (θ:=[(7,101)]) rfl ?_ ?_
   ·simp [Qac,lkp,ren1,ren0,Qah]
   ·exact⟨⟨rfl,rfl,rfl,rfl,rfl,.inl ⟨rfl,rfl⟩⟩,trivial⟩
  ·rintro⟨k,hk⟩;simp only;by_cases hA:k<row.length
   ·have hA':=lt_T hA;have n0:=nn_T k;have hg:(row.map (PV.int .i64))[k]? =some (.int .i64 row[k]):=by simp [hA]
    have hwk:=wr_1 (n:=k) (by omega);obtain⟨f1,f2⟩:=hrow _ (List.getElem_mem hA);have hm:IntKind.i64.wrap (row[k]*(b-a))=row[k]*(b-a):=by
     have b1: -8388608≤b-a∧b-a≤8388608:=by omega
     have l1:row[k].natAbs*(b-a).natAbs≤100*8388608:=Nat.mul_le_mul (by omega) (by omega);have l2:(row[k]*(b-a)).natAbs=row[k].natAbs*(b-a).natAbs:=Int.natAbs_mul _ _;exact Qag (by omega) (by omega)
    have hlen:=Zom (a:=a) (b:=b) hk;have hok:=Z1v a b row k;have hsn:=Zqq (a:=a) (b:=b) hA;have k1:((k+1+1)*8≤140737488355328)=True:=eq_true (by omega);have k2:(k+1+1≤maxLen)=True:=eq_true (by unfold maxLen;omega);generalize tmL a b row k=T at*;generalize row[k]=f at*;repeat simp -implicitDefEqProofs only [go_sem,seval,hA',n0,hg,hwk,wd,hm,hlen,hok,k1,k2,Int.toNat_natCast]
    refine⟨⟨k+1,hA⟩,by simp only;omega,?_⟩;refine Qaj (θ:=[(7,607)]) rfl ?_ ?_
    ·simp [Qac,lkp,ren1,ren0,Qah]
    ·exact⟨⟨rfl,rfl,rfl,rfl,rfl,.inl ⟨rfl,hsn.symm⟩⟩,trivial⟩
   ·have hA':=lt_F hA;obtain rfl:k=row.length:=by omega
    have hlen:=Zom (a:=a) (b:=b) hk;have htk:(tmL a b row row.length).take (row.length+1)=tmL a b row row.length:=List.take_of_length_le (by omega);generalize tmL a b row row.length=T at*;repeat simp -implicitDefEqProofs only [go_sem,seval,hA',hlen,htk]
theorem Qqc (k:Int):(rowK k).length≤16:=by
 unfold rowK;split
 ·simp
 ·split<;>simp
theorem Qu9 (k:Int): ∀f∈rowK k, -100≤f∧f≤100:=by
 intro f hf;unfold rowK at hf;split at hf
 ·simp at hf;omega
 ·split at hf
  ·simp at hf;omega
  ·simp at hf
def okV (v:V3):Prop:=okC v.x∧okC v.y∧okC v.z
theorem Qyd {v:V3} (h:ptB v=true):okV v:=by
 have:=Qjs.1 h;unfold okV okC;omega
set_option maxRecDepth 100000 in
theorem Zx6 (a b:V3) (f t k:Int) (hk:k=0∨k=1∨k=2) (ha:okV a) (hb:okV b):Qaf Tryz.prog 159 [v3PV a,v3PV b,.int .i64 f,.int .i64 t,.int .i64 k] (sgV (legS a b f t k)):=by
 have bl:Nat.blt 100 1000000=true:=rfl;have h1:=Qu8 a.x b.x (rowK k) (Qqc k) (Qu9 k) ha.1 hb.1;have h2:=Qu8 a.y b.y (rowK k) (Qqc k) (Qu9 k) ha.2.1 hb.2.1;have h3:=Qu8 a.z b.z (rowK k) (Qqc k) (Qu9 k) ha.2.2 hb.2.2;have h0:=Zx4;unfold Zx3 at h0;unfold sgV legS v3PV;simp only;generalize Qdc a.x b.x (rowK k)=L1 at*;generalize Qdc a.y b.y (rowK k)=L2 at*;generalize Qdc a.z b.z (rowK k)=L3 at*;rcases hk with rfl|rfl|rfl
 ·have e:(rowK 0).map (PV.int .i64)=[]:=rfl;rw [e]at h1 h2 h3

  refine Qab (tb:=[(100,[],[(100,100)])]) 36 [.cell 10 159] [0,1,2,3,4,5,6,10,11] mixed Tryz.func159 rfl (by kernel_rfl) ?_;repeat (first|simp -implicitDefEqProofs only [go_sem,seval,T_m1,T_m2,T_m3,bl,Qpx,Qli]|(with_reducible refine Qai h0 ?_ ?_ ?_ ?_);rfl;rfl;rfl|(with_reducible refine Qaa h1 ?_ ?_ ?_);rfl;rfl|(with_reducible refine Qaa h2 ?_ ?_ ?_);rfl;rfl|(with_reducible refine Qaa h3 ?_ ?_ ?_);rfl;rfl|(with_reducible exact Qad _ _ (by kernel_rfl)))
 ·have e:(rowK 1).map (PV.int .i64)=[.int .i64 1]:=rfl;rw [e]at h1 h2 h3

  refine Qab (tb:=[(100,[],[(100,100)])]) 36 [.cell 10 159] [0,1,2,3,4,5,6,10,11] mixed Tryz.func159 rfl (by kernel_rfl) ?_;repeat (first|simp -implicitDefEqProofs only [go_sem,seval,T_m1,T_m2,T_m3,bl,Qpx,Qli]|(with_reducible refine Qai h0 ?_ ?_ ?_ ?_);rfl;rfl;rfl|(with_reducible refine Qaa h1 ?_ ?_ ?_);rfl;rfl|(with_reducible refine Qaa h2 ?_ ?_ ?_);rfl;rfl|(with_reducible refine Qaa h3 ?_ ?_ ?_);rfl;rfl|(with_reducible exact Qad _ _ (by kernel_rfl)))
 ·have e:(rowK 2).map (PV.int .i64)=[.int .i64 0,.int .i64 0,.int .i64 10,.int .i64 (-15),.int .i64 6]:=rfl;rw [e]at h1 h2 h3

  refine Qab (tb:=[(100,[],[(100,100)])]) 36 [.cell 10 159] [0,1,2,3,4,5,6,10,11] mixed Tryz.func159 rfl (by kernel_rfl) ?_;repeat (first|simp -implicitDefEqProofs only [go_sem,seval,T_m1,T_m2,T_m3,bl,Qpx,Qli]|(with_reducible refine Qai h0 ?_ ?_ ?_ ?_);rfl;rfl;rfl|(with_reducible refine Qaa h1 ?_ ?_ ?_);rfl;rfl|(with_reducible refine Qaa h2 ?_ ?_ ?_);rfl;rfl|(with_reducible refine Qaa h3 ?_ ?_ ?_);rfl;rfl|(with_reducible exact Qad _ _ (by kernel_rfl)))
theorem Qye (a b:V3) (f t:Int):Qaf Tryz.prog 152 [v3PV a,v3PV b,.int .i64 f,.int .i64 t] (.bool (Qn1 a b f t)):=by
 have h1:=Qfh a;have h2:=Qfh b;unfold v3PV at h1 h2 ⊢;unfold Qn1 tmB;cases e1:ptB a with
 |false=>
  rw [e1]at h1;refine Qab (tb:=[]) 28 [.tmp 8] [0,1,2,3,4,5,8] mixed Tryz.func152 rfl (by kernel_rfl) ?_;repeat (first|simp -implicitDefEqProofs only [go_sem,seval,Bool.false_and]|(with_reducible refine Qaa h1 ?_ ?_ ?_);rfl;rfl)
 |true=>
  rw [e1]at h1;cases e2:ptB b with
  |false=>
   rw [e2]at h2;refine Qab (tb:=[]) 28 [.tmp 8] [0,1,2,3,4,5,8] mixed Tryz.func152 rfl (by kernel_rfl) ?_;repeat (first|simp -implicitDefEqProofs only [go_sem,seval,Bool.false_and,Bool.true_and]|(with_reducible refine Qaa h1 ?_ ?_ ?_);rfl;rfl|(with_reducible refine Qaa h2 ?_ ?_ ?_);rfl;rfl)
  |true=>
   rw [e2]at h2;by_cases e3:0≤f
   ·have e3':(0≤f)=True:=eq_true e3;by_cases e4:f<t
    ·have e4':(f<t)=True:=eq_true e4;refine Qab (tb:=[]) 28 [.tmp 8] [0,1,2,3,4,5,8] mixed Tryz.func152 rfl (by kernel_rfl) ?_;repeat (first|simp -implicitDefEqProofs only [go_sem,seval,Bool.true_and,e3',e4',decide_true]|(with_reducible refine Qaa h1 ?_ ?_ ?_);rfl;rfl|(with_reducible refine Qaa h2 ?_ ?_ ?_);rfl;rfl)
    ·have e4':(f<t)=False:=eq_false e4;refine Qab (tb:=[]) 28 [.tmp 8] [0,1,2,3,4,5,8] mixed Tryz.func152 rfl (by kernel_rfl) ?_;repeat (first|simp -implicitDefEqProofs only [go_sem,seval,Bool.false_and,Bool.true_and,e3',e4',decide_true,decide_false]|(with_reducible refine Qaa h1 ?_ ?_ ?_);rfl;rfl|(with_reducible refine Qaa h2 ?_ ?_ ?_);rfl;rfl)
   ·have e3':(0≤f)=False:=eq_false e3;refine Qab (tb:=[]) 28 [.tmp 8] [0,1,2,3,4,5,8] mixed Tryz.func152 rfl (by kernel_rfl) ?_;repeat (first|simp -implicitDefEqProofs only [go_sem,seval,Bool.false_and,Bool.true_and,e3',decide_false]|(with_reducible refine Qaa h1 ?_ ?_ ?_);rfl;rfl|(with_reducible refine Qaa h2 ?_ ?_ ?_);rfl;rfl)
theorem Qmi {a b:V3} {f t:Int} (h:Qn1 a b f t=true):ptB a=true∧ptB b=true∧0≤f∧f<t∧t≤3600000:=by
 unfold Qn1 tmB at h;simp only [Bool.and_eq_true,decide_eq_true_eq]at h;exact h
theorem Zx7 (a b:V3) (f t k:Int) (hk:k=0∨k=1∨k=2):Qaf Tryz.prog 151 [v3PV a,v3PV b,.int .i64 f,.int .i64 t,.int .i64 k] (.tup [pV (flyL a b f t k),.int .i64 (flyE a b f t)]):=by
 have h1:=Qye a b f t;unfold flyL flyE;cases e1:Qn1 a b f t with
 |false=>
  rw [e1]at h1;simp only [Bool.false_eq_true,if_false,pV,List.map_nil];unfold v3PV at h1 ⊢;refine Qab (tb:=[]) 25 [.tmp 10,.tmp 11] [0,1,2,3,4,5,6,10,11,17] mixed Tryz.func151 rfl (by kernel_rfl) ?_;repeat (first|simp -implicitDefEqProofs only [go_sem,seval,Bool.not_false]|(with_reducible refine Qaa h1 ?_ ?_ ?_);rfl;rfl)
 |true=>
  rw [e1]at h1;obtain⟨p1,p2, -⟩:=Qmi e1;have h2:=Zx6 a b f t k hk (Qyd p1) (Qyd p2);simp only [if_true,pV,List.map_cons,List.map_nil];unfold v3PV at h1 h2 ⊢;unfold sgV at h2 ⊢;refine Qab (tb:=[]) 25 [.tmp 10,.tmp 11] [0,1,2,3,4,5,6,10,11,17] mixed Tryz.func151 rfl (by kernel_rfl) ?_;repeat (first|simp -implicitDefEqProofs only [go_sem,seval,Bool.not_true]|(with_reducible refine Qaa h1 ?_ ?_ ?_);rfl;rfl|(with_reducible refine Qaa h2 ?_ ?_ ?_);rfl;rfl)
theorem Zqr (a b:V3) (f t:Int):Qaf Tryz.prog 137 [v3PV a,v3PV b,.int .i64 f,.int .i64 t] (.tup [pV (flyL a b f t 2),.int .i64 (flyE a b f t)]):=by
 have h1:=Zx7 a b f t 2 (by simp);unfold v3PV pV at h1 ⊢;refine Qab (tb:=[]) 17 [.tmp 8,.tmp 9] [0,1,2,3,4,5,8,9] mixed Tryz.func137 rfl (by kernel_rfl) ?_;repeat (first|simp -implicitDefEqProofs only [go_sem,seval]|(with_reducible refine Qaa h1 ?_ ?_ ?_);rfl;rfl)
theorem Q5y (a:V3) (f t:Int):Qaf Tryz.prog 136 [v3PV a,.int .i64 f,.int .i64 t] (.tup [pV (flyL a a f t 0),.int .i64 (flyE a a f t)]):=by
 have h1:=Zx7 a a f t 0 (by simp);unfold v3PV pV at h1 ⊢;refine Qab (tb:=[]) 15 [.tmp 6,.tmp 7] [0,1,2,3,6,7] mixed Tryz.func136 rfl (by kernel_rfl) ?_;repeat (first|simp -implicitDefEqProofs only [go_sem,seval]|(with_reducible refine Qaa h1 ?_ ?_ ?_);rfl;rfl)
def psV (l:List V3):PV:= .slc (l.map v3PV)
def Q5z (P:List V3) (T:List Int) (i:Nat):Sg:=legS (P.getD i v0) (P.getD (i+1) v0) (T.getD i 0) (T.getD (i+1) 0) 2
def Qsm (P:List V3) (T:List Int):List Sg:=(List.range (P.length-1)).map (Q5z P T)
def legO (P:List V3) (T:List Int):List (List PV):=(Qsm P T).map fun s=>[sgV s]
theorem Zx8 (P:List V3) (T:List Int):Qaf Tryz.prog 160 [psV P,.slc (T.map (PV.int .i64))] (.fn 165 [] [.rp [psV P],.rp [.slc (T.map (PV.int .i64))]]):=by
 refine Qab (tb:=[]) 6 [.tmp 4] [0,1,2,3,4] mixed Tryz.func160 rfl (by kernel_rfl) ?_;repeat simp -implicitDefEqProofs only [go_sem,seval,psV]
theorem Qsn (l:List V3) (i:Nat) (h:i<l.length):(l.map v3PV)[i]? =some (.agg [.int .i64 (l.getD i v0).x,.int .i64 (l.getD i v0).y,.int .i64 (l.getD i v0).z]):=by
 rw [List.getElem?_map,List.getElem?_eq_getElem h,List.getD_eq_getElem?_getD,List.getElem?_eq_getElem h];rfl
theorem Q50 (l:List Int) (i:Nat) (h:i<l.length):(l.map (PV.int .i64))[i]? =some (.int .i64 (l.getD i 0)):=by
 rw [List.getElem?_map,List.getElem?_eq_getElem h,List.getD_eq_getElem?_getD,List.getElem?_eq_getElem h];rfl
theorem Ze0 (P:List V3) (T:List Int):(legO P T).length=P.length-1:=by simp [legO,Qsm]
theorem Ze1 (P:List V3) (T:List Int) {i:Nat} (h:i<P.length-1):(legO P T)[i]? =some [sgV (Q5z P T i)]:=by
 simp [legO,Qsm,h]
set_option maxRecDepth 100000 in
set_option maxHeartbeats 1000000 in
theorem Zqs (P:List V3) (T:List Int) (hl:P.length≤1000) (hT:T.length=P.length) (hp: ∀i,okV (P.getD i v0)):Qf3 Tryz.prog 165 [.rp [psV P],.rp [.slc (T.map (PV.int .i64))]] (legO P T):=by
 have hlO:=Ze0 P T;have w0:IntKind.i64.wrap 1=1:=Qag (by decide) (by decide);refine Qnx (tb:=[]) 33 [0,1,2,4,8,32] mixed Tryz.func165 rfl (by kernel_rfl) (by kernel_rfl) (by kernel_rfl) (by kernel_rfl) fun l stop=> ?_;repeat simp -implicitDefEqProofs only [go_sem,seval,psV]
 refine Qas mixed (fun k:{k:Nat // k≤P.length-1∧k≤stop}=>St.ofG [(0,.yld l stop),(1,.rp [psV P]),(2,.rp [.slc (T.map (PV.int .i64))]),(4,.int .i64 ((k.1+1:Nat):Int))] [] ((legO P T).take k.1) (some (l,stop,legO P T))) (fun k=>P.length-k.1) ⟨0,Nat.zero_le _,Nat.zero_le _⟩ ?_ ?_
 ·refine Qa0 ?_;simp [Qac,lkp,ren1,ren0,Qah,psV]
 ·rintro⟨k,hk,hst⟩;simp only;have hlen:((legO P T).take k).length=k:=by rw [List.length_take];omega
  by_cases hA:k+1<P.length
  ·have hA':=lt_T hA;have n0:=nn_T k;have n1:=nn_T (k+1);have g1:=Qsn P k (by omega);have g2:=Qsn P (k+1) hA;have g3:=Q50 T k (by omega);have g4:=Q50 T (k+1) (by omega);have hwk:=wr_1 (n:=k+1) (by omega);have hwm:IntKind.i64.wrap (((k+1:Nat):Int)-1)=(k:Int):=by rw [Qag (by omega) (by omega)];omega
   have hleg:=Zx6 (P.getD k v0) (P.getD (k+1) v0) (T.getD k 0) (T.getD (k+1) 0) 2 (by simp) (hp k) (hp (k+1));have hgt:=Ze1 P T (i:=k) (by omega);have htk:(legO P T).take (k+1)=(legO P T).take k++[[sgV (Q5z P T k)]]:=by
    rw [List.take_add_one,hgt];rfl
   have ee:sgV (legS (P.getD k v0) (P.getD (k+1) v0) (T.getD k 0) (T.getD (k+1) 0) 2)=sgV (Q5z P T k):=rfl;rw [ee]at hleg;generalize Q5z P T k=S at*;generalize legO P T=OO at*;generalize P.getD k v0=va at*;generalize P.getD (k+1) v0=vb at*;generalize T.getD k 0=ta at*;generalize T.getD (k+1) 0=tb at*;unfold v3PV at hleg;unfold sgV at hleg hgt htk;have hst':(k≤stop)=True:=eq_true hst;by_cases hlt:k<stop
   ·have hlt':(k<stop)=True:=eq_true hlt;repeat (first|simp -implicitDefEqProofs only [go_sem,seval,psV,hA',n0,n1,g1,g2,g3,g4,hwk,hwm,hlen,hgt,hst',hlt',Int.toNat_natCast,List.length_map]|(with_reducible refine Qaa hleg ?_ ?_ ?_);rfl;rfl|(with_reducible refine And.intro (Qad _ _ (by kernel_rfl)) ?_))
    refine⟨⟨k+1,by omega,hlt⟩,by simp only;omega,?_⟩;simp only [htk];refine Qa0 ?_;simp [Qac,lkp,ren1,ren0,Qah,psV]
   ·have hlt':(k<stop)=False:=eq_false hlt;obtain rfl:k=stop:=by omega
    repeat (first|simp -implicitDefEqProofs only [go_sem,seval,psV,hA',n0,n1,g1,g2,g3,g4,hwm,hlen,hgt,hst',hlt',Qh5,htk,Int.toNat_natCast,List.length_map]|(with_reducible refine Qaa hleg ?_ ?_ ?_);rfl;rfl|(with_reducible exact Qad _ _ (by kernel_rfl)))
  ·have hA':=lt_F hA;have e1:((legO P T).take k)=legO P T:=List.take_of_length_le (by omega);have e2:((legO P T).take (stop+1))=legO P T:=List.take_of_length_le (by omega);rw [e1];generalize legO P T=OO at*;repeat simp -implicitDefEqProofs only [go_sem,seval,psV,hA',Qh5,e2,List.length_map]
theorem Qso (l:List Sg):(((l.map sgV).flatMap PV.cells).all PV.okCell)=true:=by
 rw [List.all_flatMap,List.all_map,List.all_eq_true];intro _ _;rfl
theorem Q53 (l:List Sg):((l.map sgV).all fun e=>e.cells.length==6&&e.cells.all PV.okCell)=true:=by
 rw [List.all_map,List.all_eq_true];intro _ _;rfl
def tuB (S:List Sg):Nat→List (Nat×Box)
 |0=>[(1000000,{els:=[.nilS],esz:=1,ety:=80,fro:=0,live:=true,arr:=false})]
 |k+1=>[(1000000,{els:=[.bs 7 6 0 (k+1)],esz:=1,ety:=80,fro:=0,live:=true,arr:=false}),(7,{els:=(S.take (k+1)).map sgV,esz:=6,ety:=159,fro:=0,live:=true,arr:=true})]
theorem Z1w (S:List Sg) (k:Nat): ∀b∈ [1000000],(lkp (tuB S k) b).isSome=true:=by
 cases k<;>simp [tuB,lkp]
theorem Zqv {S:List Sg} {k:Nat} {x:Sg} (hx:S[k]? =some x):(S.take (k+1)).map sgV=(S.take k).map sgV++[.agg [.int .i64 x.f,.int .i64 x.t,.int .i64 x.o,.slc (x.x.map (PV.int .i64)),.slc (x.y.map (PV.int .i64)),.slc (x.z.map (PV.int .i64))]]:=by
 obtain⟨hk,rfl⟩:=List.getElem?_eq_some_iff.1 hx;rw [Qjz S k hk,List.map_append];rfl
theorem Zqw {S:List Sg} {k:Nat} (h:k≤S.length):((S.take k).map sgV).length=k:=by simp;omega
theorem Zqx:(1≤maxLen)=True:=eq_true (by decide)
def lastT (T:List Int) (k:Nat):Int:=if k=0 then -1 else T.getD (k-1) 0
theorem T_zs:Qar Tryz.prog 159=some (.agg [.int .i64 0,.int .i64 0,.int .i64 0,.nilS,.nilS,.nilS]):=by kernel_rfl
set_option maxRecDepth 100000 in
set_option maxHeartbeats 2000000 in
theorem Zyc (P:List V3) (T:List Int) (hl2:2≤P.length) (hl:P.length≤257) (hT:T.length=P.length) (hp: ∀i,i<P.length→ptB (P.getD i v0)=true) (ht: ∀i,i<P.length→lastT T i<T.getD i 0∧T.getD i 0≤3600000):
  Qaf Tryz.prog 153 [psV P,.slc (T.map (PV.int .i64))] (.tup [pV (Qsm P T),.int .i64 0]):=by
 have l1:((P.length:Int)<2)=False:=eq_false (by omega);have l2:((P.length:Int) != (P.length:Int))=false:=by simp
 have l3:((257:Int)<(P.length:Int))=False:=eq_false (by omega);have wm:IntKind.i64.wrap (-1)= -1:=Qag (by decide) (by decide);have hY:=Zqs P T (by omega) hT (fun i=>by
  by_cases h:i<P.length
  ·exact Qyd (hp i h)
  ·rw [List.getD_eq_getElem?_getD,List.getElem?_eq_none (by omega)];exact Qyd rfl)
 have hL:=Zx8 P T;unfold psV at hL hY;unfold legO at hY;have hSl:(Qsm P T).length=P.length-1:=by simp [Qsm]
 unfold pV;refine Qab (tb:=[]) 57 [.tmp 4,.tmp 5] [0,1,4,5,6,7,8,9,10,20,21,22,23,24,42,47,50,51] mixed Tryz.func153 rfl (by kernel_rfl) ?_;repeat simp -implicitDefEqProofs only [go_sem,seval,psV,l1,l2,hT,List.length_map]
 refine Qas mixed (fun k:{k:Nat // k≤P.length}=>St.of [(0,.slc (P.map v3PV)),(1,.slc (T.map (PV.int .i64))),(6,.int .i64 (lastT T k.1)),(21,.slc (T.map (PV.int .i64))),(22,.int .i64 (P.length:Int)),(23,.int .i64 (k.1:Int))] []) (fun k=>P.length-k.1) ⟨0,Nat.zero_le _⟩ ?_ ?_
 ·exact Qa0 (by simp [Qac,lkp,ren1,ren0,Qah,psV,lastT])
 ·rintro⟨k,hk⟩;simp only;by_cases hA:k<P.length
  ·have hA':=lt_T hA;have n0:=nn_T k;have g1:=Qsn P k hA;have g2:=Q50 T k (by omega);have hwk:=wr_1 (n:=k) (by omega);have hpk:=Qfh (P.getD k v0);rw [hp k hA]at hpk;obtain⟨t1,t2⟩:=ht k hA;have hnx:lastT T (k+1)=T.getD k 0:=by simp [lastT]
   have t1':(T.getD k 0≤lastT T k)=False:=eq_false (by omega);have t2':(3600000<T.getD k 0)=False:=eq_false (by omega);generalize lastT T k=L at*;generalize P.getD k v0=va at*;generalize T.getD k 0=ta at*;unfold v3PV at hpk;repeat (first|simp -implicitDefEqProofs only [go_sem,seval,hA',n0,g1,g2,hwk,t1',t2',Int.toNat_natCast,Bool.not_true,decide_false]|(with_reducible refine Qaa hpk ?_ ?_ ?_);rfl;rfl)
   refine⟨⟨k+1,hA⟩,by simp only;omega,?_⟩;simp only [hnx];exact Qa0 (by simp [Qac,lkp,ren1,ren0,Qah])
  ·have hA':=lt_F hA;obtain rfl:k=P.length:=by omega
   repeat (first|simp -implicitDefEqProofs only [go_sem,seval,hA',l3,List.length_map]|(with_reducible refine Qaa hL ?_ ?_ ?_);rfl;rfl)
   obtain⟨n,hn1⟩: ∃n,P.length-1=n+1:=⟨P.length-2,by omega⟩;generalize Qsm P T=S at*;have hSn:S.length=n+1:=by omega
   have hmin:min (S.map fun s=>[sgV s]).length (n+1+1)=n+1:=by rw [List.length_map];omega
   have htk:S.take (n+1)=S:=List.take_of_length_le (by omega);refine Qh6 mixed hY rfl rfl _ rfl [(1000000,1300)] [1000000] rfl [(9,.bp 1000000 1 0 0)] (tuB S) rfl rfl ?_ ?_ ?_ (n+1) .normal (fun h=>by simp [hSn]at h) (fun k _ _=>Z1w S k) ?_ rfl ?_
    [(0,1000000),(7,7)] [(9,.bp 0 1 0 0)] [(0,{els:=[.bs 7 6 0 (n+1)],esz:=1,ety:=80,fro:=0,live:=true,arr:=false}),(7,{els:=S.map sgV,esz:=6,ety:=159,fro:=0,live:=true,arr:=true})] rfl rfl ?_ ?_ (fun _=> ?_) (fun h=>by simp [hSn]at h)
   ·simp [Qac,lkp,ren1,ren0,Qah]
   ·exact⟨⟨rfl,rfl,rfl,rfl,rfl,.inr ⟨rfl,_,_,rfl,rfl,rfl,rfl⟩⟩,trivial⟩
   ·simp [Qac,lkp,ren1,ren0,Qah,Qki]
   ·intro k args h;simp only [List.getElem?_map,Option.map_eq_some_iff]at h;obtain⟨x, -,rfl⟩:=h;rfl
   ·rintro k args hka hk;simp only [List.getElem?_map,Option.map_eq_some_iff]at hka;obtain⟨x,hx,rfl⟩:=hka;have hkl:k<S.length:=(List.getElem?_eq_some_iff.1 hx).1;have hlx:=Zqv hx;unfold sgV;cases k with
    |zero=>
     simp only [tuB];have e0:(S.take 0).map sgV=[]:=rfl;rw [e0,List.nil_append]at hlx;repeat simp -implicitDefEqProofs only [go_sem,seval,T_zs,pvars,List.toList_toArray]
     refine⟨by simp [lkp],?_⟩;repeat simp -implicitDefEqProofs only [go_sem,seval,Zqx]
     refine⟨by omega,?_⟩;refine Qaj (θ:=[(1000000,1000000),(7,1603)]) rfl ?_ ?_
     ·simp [Qac,lkp,ren1,ren0,Qah]
     ·simp only [tuB,hlx];exact⟨⟨rfl,rfl,rfl,rfl,rfl,.inr ⟨rfl,_,_,rfl,rfl,rfl,rfl⟩⟩,⟨rfl,rfl,rfl,rfl,rfl,.inl ⟨rfl,rfl⟩⟩,trivial⟩
    |succ k=>
     simp only [tuB];have b1:=Zqw (S:=S) (k:=k+1) (by omega);have b2:((((S.take (k+1)).map sgV).flatMap PV.cells).all PV.okCell)=true:=Qso _;have c1:((k+1+1)*96≤140737488355328)=True:=eq_true (by omega);have c2:(k+1+1≤maxLen)=True:=eq_true (by unfold maxLen;omega);generalize hTT:(S.take (k+1)).map sgV=TT at*;repeat simp -implicitDefEqProofs only [go_sem,seval,T_zs,pvars,List.toList_toArray]
     refine⟨by simp [lkp],?_⟩;repeat simp -implicitDefEqProofs only [go_sem,seval,b1,b2,c1,c2]
     refine⟨by omega,?_⟩;refine Qaj (θ:=[(1000000,1000000),(7,1603)]) rfl ?_ ?_
     ·simp [Qac,lkp,ren1,ren0,Qah]
     ·simp only [tuB,hlx];exact⟨⟨rfl,rfl,rfl,rfl,rfl,.inr ⟨rfl,_,_,rfl,rfl,rfl,rfl⟩⟩,⟨rfl,rfl,rfl,rfl,rfl,.inl ⟨rfl,rfl⟩⟩,trivial⟩
   ·simp [Qac,lkp,ren1,ren0,Qah]
   ·rw [hmin];simp only [tuB];rw [htk];exact⟨⟨rfl,rfl,rfl,rfl,rfl,.inr ⟨rfl,_,_,rfl,rfl,rfl,rfl⟩⟩,⟨rfl,rfl,rfl,rfl,rfl,.inl ⟨rfl,rfl⟩⟩,trivial⟩
   ·have b1:(S.map sgV).length=n+1:=by simp [hSn]
    have b2:(((S.map sgV).flatMap PV.cells).all PV.okCell)=true:=Qso _;have b3:(S.map sgV).take (n+1)=S.map sgV:=List.take_of_length_le (by omega);generalize S.map sgV=TT at*;repeat simp -implicitDefEqProofs only [go_sem,seval,b1,b3]
theorem Q54 (a b:V3) (r f t:Int):Qsm [a,up a r,up b r,b] [f,f+(t-f)/4,t-(t-f)/4,t]=arc3 a b r f t:=rfl
set_option maxRecDepth 100000 in
theorem Z1x (a b:V3) (r f t:Int) (hg:Qn1 a b f t=true) (h4:(t-f)%4=0) (hr:0≤r∧r≤3600000) (ha:ptB (up a r)=true) (hb:ptB (up b r)=true):
  Qaf Tryz.prog 138 [v3PV a,v3PV b,.int .i64 r,.int .i64 f,.int .i64 t] (.tup [pV (arc3 a b r f t),.int .i64 0]):=by
 obtain⟨p1,p2,g1,g2,g3⟩:=Qmi hg;have h1:=Qye a b f t;rw [hg]at h1;have h2:=Qfh (up a r);have h3:=Qfh (up b r);rw [ha]at h2;rw [hb]at h3;obtain⟨q,hq⟩: ∃q,(t-f)/4=q:=⟨_,rfl⟩;have hq4:t-f=4*q:=by omega
 have i1:=Qjs.1 p1;have i2:=Qjs.1 p2;have i3:=Qjs.1 ha;have i4:=Qjs.1 hb;simp only [up]at i3 i4;have hT:=Zyc [a,up a r,up b r,b] [f,f+q,t-q,t] (by simp) (by simp) rfl (by
  intro i hi;have:i=0∨i=1∨i=2∨i=3:=by simp at hi;omega
  rcases this with rfl|rfl|rfl|rfl
  ·exact p1
  ·exact ha
  ·exact hb
  ·exact p2) (by
  intro i hi;have:i=0∨i=1∨i=2∨i=3:=by simp at hi;omega
  rcases this with rfl|rfl|rfl|rfl<;>simp [lastT]<;>omega)
 rw [←hq,Q54]at hT;rw [hq]at hT;have w1:IntKind.i64.wrap (t-f)=t-f:=Qag (by omega) (by omega);have w2:IntKind.i64.wrap ((t-f).tdiv 4)=q:=by
  rw [Int.tdiv_eq_ediv_of_nonneg (by omega),hq];exact Qag (by omega) (by omega)
 have w3:IntKind.i64.wrap (4*q)=t-f:=by rw [←hq4];exact w1
 have w4:IntKind.i64.wrap (a.z+r)=a.z+r:=Qag (by omega) (by omega);have w5:IntKind.i64.wrap (b.z+r)=b.z+r:=Qag (by omega) (by omega);have w6:IntKind.i64.wrap (f+q)=f+q:=Qag (by omega) (by omega);have w7:IntKind.i64.wrap (t-q)=t-q:=Qag (by omega) (by omega);have wn:IntKind.i64.wrap (-2097152)= -2097152:=Qag (by decide) (by decide);have c1:((t-f) != (t-f))=false:=by simp
 have c2:(r< -2097152)=False:=eq_false (by omega);have c3:(2097152<r)=False:=eq_false (by omega);generalize arc3 a b r f t=S at*;unfold pV;unfold psV pV at hT;unfold v3PV up at h2 h3;unfold v3PV at h1 ⊢;simp only [List.map_cons,List.map_nil,v3PV,up]at hT;refine Qab (tb:=[]) 76 [.tmp 10,.tmp 11] [0,1,2,3,4,5,6,10,11,12,13,14,20,38,58] mixed Tryz.func138 rfl (by kernel_rfl) ?_;repeat (first|simp -implicitDefEqProofs only [go_sem,seval,w1,w2,w3,w4,w5,w6,w7,c1,c2,c3,Bool.not_true,decide_false]|(with_reducible refine Qaa h1 ?_ ?_ ?_);rfl;rfl|(with_reducible refine Qaa h2 ?_ ?_ ?_);rfl;rfl|(with_reducible refine Qaa h3 ?_ ?_ ?_);rfl;rfl|(with_reducible refine Qaa hT ?_ ?_ ?_);rfl;rfl|(with_reducible refine And.intro (Qad _ _ (by kernel_rfl)) ?_))
def mvV (m:Mv):PV:= .agg [.int .i64 m.to.x,.int .i64 m.to.y,.int .i64 m.to.z,.int .i64 m.w,.int .i64 m.f,.int .i64 m.r]
theorem Zyd:Qb4 Tryz.prog 52=some [1,1,1]:=by kernel_rfl
theorem Z1y (n m:Int):Qaf Tryz.prog 133 [.int .i64 n,.int .i64 m] (.bool (decide (0≤n)&&decide (n≤m))):=by
 by_cases h:0≤n
 ·have h':(0≤n)=True:=eq_true h;refine Qab (tb:=[]) 12 [.tmp 4] [0,1,4] mixed Tryz.func133 rfl (by kernel_rfl) ?_;repeat simp -implicitDefEqProofs only [go_sem,seval,h',decide_true,Bool.true_and]
 ·have h':(0≤n)=False:=eq_false h;refine Qab (tb:=[]) 12 [.tmp 4] [0,1,4] mixed Tryz.func133 rfl (by kernel_rfl) ?_;repeat simp -implicitDefEqProofs only [go_sem,seval,h',decide_false,Bool.false_and]
theorem Qo0 (n:Int):Qaf Tryz.prog 112 [.int .i64 n] (.bool (tB n)):=by
 have h:=Z1y n 3600000;unfold tB;refine Qab (tb:=[]) 5 [.tmp 2] [0,2] mixed Tryz.func112 rfl (by kernel_rfl) ?_;repeat (first|simp -implicitDefEqProofs only [go_sem,seval]|(with_reducible refine Qaa h ?_ ?_ ?_);rfl;rfl)
theorem Qyh (v:V3) (r:Int) (hv:ptB v=true) (hr:tB r=true):Qaf Tryz.prog 134 [v3PV v,.int .i64 r] (.bool (hiB v r)):=by
 have i:=Qjs.1 hv;have j:=Qey.1 hr;have h:=Qfh (up v r);have w:IntKind.i64.wrap (v.z+r)=v.z+r:=Qag (by omega) (by omega);unfold hiB up;unfold v3PV up at h;unfold v3PV;refine Qab (tb:=[]) 12 [.tmp 4] [0,1,2,4] mixed Tryz.func134 rfl (by kernel_rfl) ?_;repeat (first|simp -implicitDefEqProofs only [go_sem,seval,w]|(with_reducible refine Qaa h ?_ ?_ ?_);rfl;rfl)
theorem Z1z {a b:V3} (h:a≠b):(a.x==b.x&&(a.y==b.y&&a.z==b.z))=false:=by
 cases e:(a.x==b.x&&(a.y==b.y&&a.z==b.z))with
 |false=>rfl
 |true=>
  simp only [Bool.and_eq_true,beq_iff_eq]at e;exact absurd (by cases a;cases b;simp_all) h
set_option maxRecDepth 100000 in
set_option maxHeartbeats 4000000 in
theorem Ze2 (v:V3) (m:Mv) (len:Int) (hv:ptB v=true):Qaf Tryz.prog 113 [v3PV v,mvV m,.int .i64 len] (.bool (mvB v m len)):=by
 have h1:=Qfh m.to;have h2:=Qo0 m.w;have h3:=Qo0 m.f;have h4:=Qo0 m.r;unfold mvB;unfold v3PV at h1 ⊢;unfold mvV;cases e1:ptB m.to with
 |false=>
  rw [e1]at h1;refine Qab (tb:=[]) 72 [.tmp 6] [0,1,2,3,4,6,37,38,51] mixed Tryz.func113 rfl (by kernel_rfl) ?_;repeat (first|simp -implicitDefEqProofs only [go_sem,seval,Bool.not_false,Bool.false_and]|(with_reducible refine Qaa h1 ?_ ?_ ?_);rfl;rfl)
 |true=>
 rw [e1]at h1;cases e2:tB m.w with
 |false=>
  rw [e2]at h2;refine Qab (tb:=[]) 72 [.tmp 6] [0,1,2,3,4,6,37,38,51] mixed Tryz.func113 rfl (by kernel_rfl) ?_;repeat (first|simp -implicitDefEqProofs only [go_sem,seval,Bool.not_false,Bool.not_true,Bool.false_and,Bool.true_and]|(with_reducible refine Qaa h1 ?_ ?_ ?_);rfl;rfl|(with_reducible refine Qaa h2 ?_ ?_ ?_);rfl;rfl)
 |true=>
 rw [e2]at h2;cases e3:tB m.f with
 |false=>
  rw [e3]at h3;refine Qab (tb:=[]) 72 [.tmp 6] [0,1,2,3,4,6,37,38,51] mixed Tryz.func113 rfl (by kernel_rfl) ?_;repeat (first|simp -implicitDefEqProofs only [go_sem,seval,Bool.not_false,Bool.not_true,Bool.false_and,Bool.true_and]|(with_reducible refine Qaa h1 ?_ ?_ ?_);rfl;rfl|(with_reducible refine Qaa h2 ?_ ?_ ?_);rfl;rfl|(with_reducible refine Qaa h3 ?_ ?_ ?_);rfl;rfl)
 |true=>
 rw [e3]at h3;cases e4:tB m.r with
 |false=>
  rw [e4]at h4;refine Qab (tb:=[]) 72 [.tmp 6] [0,1,2,3,4,6,37,38,51] mixed Tryz.func113 rfl (by kernel_rfl) ?_;repeat (first|simp -implicitDefEqProofs only [go_sem,seval,Bool.not_false,Bool.not_true,Bool.false_and,Bool.true_and]|(with_reducible refine Qaa h1 ?_ ?_ ?_);rfl;rfl|(with_reducible refine Qaa h2 ?_ ?_ ?_);rfl;rfl|(with_reducible refine Qaa h3 ?_ ?_ ?_);rfl;rfl|(with_reducible refine Qaa h4 ?_ ?_ ?_);rfl;rfl)
 |true=>
 rw [e4]at h4;have t2:=Qey.1 e2;have t3:=Qey.1 e3;have w:IntKind.i64.wrap (m.w+m.f)=m.w+m.f:=Qag (by omega) (by omega);by_cases e5:m.w+m.f≤len
 case neg=>
  have e5':(len<m.w+m.f)=True:=eq_true (by omega);rw [decide_eq_false e5];refine Qab (tb:=[]) 72 [.tmp 6] [0,1,2,3,4,6,37,38,51] mixed Tryz.func113 rfl (by kernel_rfl) ?_;repeat (first|simp -implicitDefEqProofs only [go_sem,seval,w,e5',decide_true,Bool.not_true,Bool.false_and,Bool.true_and]|(with_reducible refine Qaa h1 ?_ ?_ ?_);rfl;rfl|(with_reducible refine Qaa h2 ?_ ?_ ?_);rfl;rfl|(with_reducible refine Qaa h3 ?_ ?_ ?_);rfl;rfl|(with_reducible refine Qaa h4 ?_ ?_ ?_);rfl;rfl)
 have e5':(len<m.w+m.f)=False:=eq_false (by omega);rw [decide_eq_true e5];by_cases e6:m.f=0
 ·have e6':(m.f==0)=true:=by simp [e6]
  rw [if_pos e6];by_cases e7:m.to=v
  ·rw [decide_eq_true e7];rw [←e7];have e8:(m.r==0)=decide (m.r=0):=rfl;refine Qab (tb:=[]) 72 [.tmp 6] [0,1,2,3,4,6,37,38,51] mixed Tryz.func113 rfl (by kernel_rfl) ?_;repeat (first|simp -implicitDefEqProofs only [go_sem,seval,Zyd,w,e5',e6',e8,decide_false,Bool.not_true,Bool.true_and,beq_self_eq_true]|(with_reducible refine Qaa h1 ?_ ?_ ?_);rfl;rfl|(with_reducible refine Qaa h2 ?_ ?_ ?_);rfl;rfl|(with_reducible refine Qaa h3 ?_ ?_ ?_);rfl;rfl|(with_reducible refine Qaa h4 ?_ ?_ ?_);rfl;rfl)
  ·rw [decide_eq_false e7];have e8:=Z1z e7;refine Qab (tb:=[]) 72 [.tmp 6] [0,1,2,3,4,6,37,38,51] mixed Tryz.func113 rfl (by kernel_rfl) ?_;repeat (first|simp -implicitDefEqProofs only [go_sem,seval,Zyd,w,e5',e6',e8,decide_false,Bool.not_true,Bool.true_and,Bool.false_and]|(with_reducible refine Qaa h1 ?_ ?_ ?_);rfl;rfl|(with_reducible refine Qaa h2 ?_ ?_ ?_);rfl;rfl|(with_reducible refine Qaa h3 ?_ ?_ ?_);rfl;rfl|(with_reducible refine Qaa h4 ?_ ?_ ?_);rfl;rfl)
 ·have e6':(m.f==0)=false:=by simp [e6]
  rw [if_neg e6];by_cases e7:0<m.r
  ·have e7':(0<m.r)=True:=eq_true e7;rw [if_pos e7];have hm:m.f.tmod 4=m.f%4:=Int.tmod_eq_emod_of_nonneg (by omega);have h5:=Qyh v m.r hv e4;have h6:=Qyh m.to m.r e1 e4;unfold v3PV at h5 h6;by_cases e8:m.f%4=0
   ·have e8':(m.f%4==0)=true:=by simp [e8]
    rw [decide_eq_true e8];cases e9:hiB v m.r with
    |false=>
     rw [e9]at h5;refine Qab (tb:=[]) 72 [.tmp 6] [0,1,2,3,4,6,37,38,51] mixed Tryz.func113 rfl (by kernel_rfl) ?_;repeat (first|simp -implicitDefEqProofs only [go_sem,seval,w,e5',e6',e7',hm,e8',decide_false,decide_true,Bool.not_true,Bool.true_and,Bool.false_and]|(with_reducible refine Qaa h1 ?_ ?_ ?_);rfl;rfl|(with_reducible refine Qaa h2 ?_ ?_ ?_);rfl;rfl|(with_reducible refine Qaa h3 ?_ ?_ ?_);rfl;rfl|(with_reducible refine Qaa h4 ?_ ?_ ?_);rfl;rfl|(with_reducible refine Qaa h5 ?_ ?_ ?_);rfl;rfl)
    |true=>
     rw [e9]at h5;refine Qab (tb:=[]) 72 [.tmp 6] [0,1,2,3,4,6,37,38,51] mixed Tryz.func113 rfl (by kernel_rfl) ?_;repeat (first|simp -implicitDefEqProofs only [go_sem,seval,w,e5',e6',e7',hm,e8',decide_false,decide_true,Bool.not_true,Bool.true_and]|(with_reducible refine Qaa h1 ?_ ?_ ?_);rfl;rfl|(with_reducible refine Qaa h2 ?_ ?_ ?_);rfl;rfl|(with_reducible refine Qaa h3 ?_ ?_ ?_);rfl;rfl|(with_reducible refine Qaa h4 ?_ ?_ ?_);rfl;rfl|(with_reducible refine Qaa h5 ?_ ?_ ?_);rfl;rfl|(with_reducible refine Qaa h6 ?_ ?_ ?_);rfl;rfl)
   ·have e8':(m.f%4==0)=false:=by simp [e8]
    rw [decide_eq_false e8];refine Qab (tb:=[]) 72 [.tmp 6] [0,1,2,3,4,6,37,38,51] mixed Tryz.func113 rfl (by kernel_rfl) ?_;repeat (first|simp -implicitDefEqProofs only [go_sem,seval,w,e5',e6',e7',hm,e8',decide_false,decide_true,Bool.not_true,Bool.true_and,Bool.false_and]|(with_reducible refine Qaa h1 ?_ ?_ ?_);rfl;rfl|(with_reducible refine Qaa h2 ?_ ?_ ?_);rfl;rfl|(with_reducible refine Qaa h3 ?_ ?_ ?_);rfl;rfl|(with_reducible refine Qaa h4 ?_ ?_ ?_);rfl;rfl)
  ·have e7':(0<m.r)=False:=eq_false e7;rw [if_neg e7];refine Qab (tb:=[]) 72 [.tmp 6] [0,1,2,3,4,6,37,38,51] mixed Tryz.func113 rfl (by kernel_rfl) ?_;repeat (first|simp -implicitDefEqProofs only [go_sem,seval,w,e5',e6',e7',decide_false,Bool.not_true,Bool.true_and]|(with_reducible refine Qaa h1 ?_ ?_ ?_);rfl;rfl|(with_reducible refine Qaa h2 ?_ ?_ ?_);rfl;rfl|(with_reducible refine Qaa h3 ?_ ?_ ?_);rfl;rfl|(with_reducible refine Qaa h4 ?_ ?_ ?_);rfl;rfl)
theorem Q55 (v:V3) (f t:Int):Qbv Tryz.prog 135 [v3PV v,.int .i64 f,.int .i64 t,.bp 1000000 1 0 0] [(1000000,{els:=[.nilS],esz:=1,ety:=80,fro:=0,live:=true,arr:=false})] (.tup [])
  [(1000000,{els:=[.bs 7 6 0 (Qc0 v f t).length],esz:=1,ety:=80,fro:=0,live:=true,arr:=false}),(7,{els:=(Qc0 v f t).map sgV,esz:=6,ety:=159,fro:=0,live:=true,arr:=true})]:=by
 have h:=Q5y v f t;have hl:=Qcd v v f t 0;have k1:((Qc0 v f t).length*96≤140737488355328)=True:=eq_true (by unfold Qc0;omega);have k2:((Qc0 v f t).length≤maxLen)=True:=eq_true (by unfold Qc0 maxLen;omega);have k3:=Q53 (Qc0 v f t);have e:flyL v v f t 0=Qc0 v f t:=rfl;rw [e]at h;unfold pV v3PV at h;unfold v3PV;generalize Qc0 v f t=S at*;refine Qbc (tb:=[]) 19 [] [0,1,2,3,4,7] mixed Tryz.func135 rfl (by kernel_rfl) (by kernel_rfl) (by kernel_rfl) (by kernel_rfl) (by rfl) ?_;repeat (first|simp -implicitDefEqProofs only [go_sem,seval,k1,k2,k3,List.length_map]|(with_reducible refine Qaa h ?_ ?_ ?_);rfl;rfl)
 refine Qa2 (.inr rfl) ?_;simp -implicitDefEqProofs only [go_sem];refine Qaj (θ:=[(1000000,1000000),(7,202)]) rfl ?_ ?_
 ·simp [Qac,lkp,ren1,ren0,Qah]
 ·exact⟨⟨rfl,rfl,rfl,rfl,rfl,.inr ⟨rfl,_,_,rfl,rfl,rfl,rfl⟩⟩,⟨rfl,rfl,rfl,rfl,rfl,.inl ⟨rfl,rfl⟩⟩,trivial⟩
theorem Zye (v:V3) (f t:Int) (L:List Sg) (hL:L.length≤1000):Qbv Tryz.prog 135 [v3PV v,.int .i64 f,.int .i64 t,.bp 1000000 1 0 0] [(1000000,{els:=[.bs 1000001 6 0 L.length],esz:=1,ety:=80,fro:=0,live:=true,arr:=false}),(1000001,{els:=L.map sgV,esz:=6,ety:=159,fro:=0,live:=true,arr:=true})] (.tup [])
  [(1000000,{els:=[.bs 8 6 0 (L++Qc0 v f t).length],esz:=1,ety:=80,fro:=0,live:=true,arr:=false}),(1000001,{els:=[],esz:=6,ety:=159,fro:=0,live:=false,arr:=true}),(8,{els:=(L++Qc0 v f t).map sgV,esz:=6,ety:=159,fro:=0,live:=true,arr:=true})]:=by
 have h:=Q5y v f t;have hl:=Qcd v v f t 0;have k1:((L.length+(Qc0 v f t).length)*96≤140737488355328)=True:=eq_true (by unfold Qc0;omega);have k2:(L.length+(Qc0 v f t).length≤maxLen)=True:=eq_true (by unfold Qc0 maxLen;omega);have k3:=Q53 (Qc0 v f t);have k4:=Qso L;have e:flyL v v f t 0=Qc0 v f t:=rfl;rw [e]at h;unfold pV v3PV at h;unfold v3PV;rw [List.length_append,List.map_append];generalize Qc0 v f t=S at*;refine Qbc (tb:=[]) 19 [] [0,1,2,3,4,7] mixed Tryz.func135 rfl (by kernel_rfl) (by kernel_rfl) (by kernel_rfl) (by kernel_rfl) (by rfl) ?_;repeat (first|simp -implicitDefEqProofs only [go_sem,seval,k1,k2,k3,k4,List.length_map]|(with_reducible refine Qaa h ?_ ?_ ?_);rfl;rfl)
 refine Qa2 (.inr rfl) ?_;simp -implicitDefEqProofs only [go_sem];refine Qaj (θ:=[(1000000,1000000),(1000001,1000001),(8,202)]) rfl ?_ ?_
 ·simp [Qac,lkp,ren1,ren0,Qah]
 ·exact⟨⟨rfl,rfl,rfl,rfl,rfl,.inr ⟨rfl,_,_,rfl,rfl,rfl,rfl⟩⟩,⟨rfl,rfl,rfl,rfl,rfl,.inl ⟨rfl,rfl⟩⟩,⟨rfl,rfl,rfl,rfl,rfl,.inl ⟨rfl,rfl⟩⟩,trivial⟩
theorem Q56 {v:V3} {m:Mv} {len:Int} (h:mvB v m len=true):ptB m.to=true∧tB m.w=true∧tB m.f=true∧tB m.r=true∧m.w+m.f≤len∧(m.f=0→m.to=v∧m.r=0)∧(m.f≠0→0<m.r→m.f%4=0∧hiB v m.r=true∧hiB m.to m.r=true):=by
 unfold mvB at h;simp only [Bool.and_eq_true,decide_eq_true_eq]at h;obtain⟨h1,h2,h3,h4,h5,h6⟩:=h;refine⟨h1,h2,h3,h4,h5,fun e=> ?_,fun e e2=> ?_⟩
 ·rw [if_pos e]at h6;simpa using h6
 ·rw [if_neg e,if_pos e2]at h6;simpa using h6
set_option maxRecDepth 100000 in
set_option maxHeartbeats 4000000 in
theorem Zyf (v:V3) (m:Mv) (at_ len:Int) (hv:ptB v=true) (hm:mvB v m len=true) (h0:0≤at_) (h1:at_+len≤3600000):Qaf Tryz.prog 114 [v3PV v,mvV m,.int .i64 at_,.int .i64 len] (pV (mvL v m at_ len)):=by
 obtain⟨p1,p2,p3,p4,p5,p6,p7⟩:=Q56 hm;have t2:=Qey.1 p2;have t3:=Qey.1 p3;have t4:=Qey.1 p4;have w1:IntKind.i64.wrap (at_+m.w)=at_+m.w:=Qag (by omega) (by omega);have w2:IntKind.i64.wrap (at_+m.w+m.f)=at_+m.w+m.f:=Qag (by omega) (by omega);have w3:IntKind.i64.wrap (at_+len)=at_+len:=Qag (by omega) (by omega);have bl7:Nat.blt 7 1000000=true:=rfl;have bl8:Nat.blt 8 1000000=true:=rfl;have okl: ∀L:List Sg,(((L.map sgV).flatMap PV.cells).all PV.okCell)=true:=Qso;unfold pV mvL;by_cases e0:m.f=0
 ·have e0':(m.f==0)=true:=by simp [e0]
  rw [if_pos e0];have s1:=Q55 v at_ (at_+len);have hl:=Qcd v v at_ (at_+len) 0;have htk:((Qc0 v at_ (at_+len)).map sgV).take (Qc0 v at_ (at_+len)).length=(Qc0 v at_ (at_+len)).map sgV:=List.take_of_length_le (by simp);have hlm:((Qc0 v at_ (at_+len)).map sgV).length=(Qc0 v at_ (at_+len)).length:=List.length_map _;generalize Qc0 v at_ (at_+len)=S at*;unfold v3PV at s1 ⊢;unfold mvV;have hle:(S.length≤(S.map sgV).length)=True:=eq_true (by simp)

  refine Qab (tb:=[(506,[(1000000,2)],[(7,7)]),(704,[(1000000,2)],[(7,7)]),(1207,[(1000000,2),(1000001,1102)],[(8,8)])]) 74 [.cell 8 80] [0,1,2,3,4,5,8,9,10,11,12,25,50] mixed Tryz.func114 rfl (by kernel_rfl) ?_;repeat (first|simp -implicitDefEqProofs only [go_sem,seval,w1,w2,w3,e0',bl7,htk,hle]|(with_reducible refine Qai s1 ?_ ?_ ?_ ?_);rfl;rfl;rfl)
 ·have e0':(m.f==0)=false:=by simp [e0]
  rw [if_neg e0];have s1:=Q55 v at_ (at_+m.w);have g1:=Zqr v m.to (at_+m.w) (at_+m.w+m.f);have hl1:(Qc0 v at_ (at_+m.w)).length≤1:=Qcd _ _ _ _ _;have hl2:(midL v m (at_+m.w) (at_+m.w+m.f)).length≤3:=by
   unfold midL;split
   ·simp [arc3]
   ·exact Nat.le_trans (Qcd _ _ _ _ _) (by decide)
  have s3:=Zye m.to (at_+m.w+m.f) (at_+len) (Qc0 v at_ (at_+m.w)++midL v m (at_+m.w) (at_+m.w+m.f)) (by rw [List.length_append];omega);have hl3:(Qc0 m.to (at_+m.w+m.f) (at_+len)).length≤1:=Qcd _ _ _ _ _;have hA:0<m.r→Qaf Tryz.prog 138 [v3PV v,v3PV m.to,.int .i64 m.r,.int .i64 (at_+m.w),.int .i64 (at_+m.w+m.f)] (.tup [pV (midL v m (at_+m.w) (at_+m.w+m.f)),.int .i64 0]):=by
   intro hr;obtain⟨q1,q2,q3⟩:=p7 e0 hr;have e:midL v m (at_+m.w) (at_+m.w+m.f)=arc3 v m.to m.r (at_+m.w) (at_+m.w+m.f):=if_pos hr;rw [e];refine Z1x v m.to m.r _ _ ?_ (by omega) t4 q2 q3;unfold Qn1 tmB;rw [hv,p1];simp only [Bool.true_and,Bool.and_eq_true,decide_eq_true_eq];omega
  have hG: ¬0<m.r→flyL v m.to (at_+m.w) (at_+m.w+m.f) 2=midL v m (at_+m.w) (at_+m.w+m.f):=fun hr=>(if_neg hr).symm;generalize flyL v m.to (at_+m.w) (at_+m.w+m.f) 2=G0 at*;generalize flyE v m.to (at_+m.w) (at_+m.w+m.f)=E0 at*;generalize Qc0 v at_ (at_+m.w)=S at*;generalize midL v m (at_+m.w) (at_+m.w+m.f)=M at*;generalize Qc0 m.to (at_+m.w+m.f) (at_+len)=Z at*;simp only [List.length_append,List.map_append]at s3;have k1:((S.length+M.length)*96≤140737488355328)=True:=eq_true (by omega);have k2:(S.length+M.length≤maxLen)=True:=eq_true (by unfold maxLen;omega);have k3:=Q53 M;have k4:=Qso S;have k5:(S.length+M.length+Z.length≤(S.map sgV++M.map sgV++Z.map sgV).length)=True:=eq_true (by simp;omega);have k6:(S.map sgV++M.map sgV++Z.map sgV).take (S.length+M.length+Z.length)=S.map sgV++M.map sgV++Z.map sgV:=List.take_of_length_le (by simp;omega);have k7:(S.map sgV).length=S.length:=List.length_map _;have k8:(M.map sgV).length=M.length:=List.length_map _;unfold pV at g1 hA;unfold v3PV at s1 s3 g1 hA ⊢;unfold mvV;rw [List.map_append,List.map_append];by_cases hr:0<m.r
  ·have hr':(0<m.r)=True:=eq_true hr;have a1:=hA hr;generalize S.map sgV=SV at*;generalize M.map sgV=MV at*;generalize Z.map sgV=ZV at*

   refine Qab (tb:=[(506,[(1000000,2)],[(7,7)]),(704,[(1000000,2)],[(7,7)]),(1207,[(1000000,2),(1000001,1102)],[(8,8)])]) 74 [.cell 8 80] [0,1,2,3,4,5,8,9,10,11,12,25,50] mixed Tryz.func114 rfl (by kernel_rfl) ?_;repeat (first|simp -implicitDefEqProofs only [go_sem,seval,w1,w2,w3,e0',hr',bl7,bl8,k1,k2,k3,k4,k5,k6,k7,k8]|(with_reducible refine Qai s1 ?_ ?_ ?_ ?_);rfl;rfl;rfl|(with_reducible refine Qaa g1 ?_ ?_ ?_);rfl;rfl|(with_reducible refine Qaa a1 ?_ ?_ ?_);rfl;rfl|(with_reducible refine Qai s3 ?_ ?_ ?_ ?_);rfl;rfl;rfl)
  ·have hr':(0<m.r)=False:=eq_false hr;rw [hG hr]at g1;generalize S.map sgV=SV at*;generalize M.map sgV=MV at*;generalize Z.map sgV=ZV at*

   refine Qab (tb:=[(506,[(1000000,2)],[(7,7)]),(704,[(1000000,2)],[(7,7)]),(1207,[(1000000,2),(1000001,1102)],[(8,8)])]) 74 [.cell 8 80] [0,1,2,3,4,5,8,9,10,11,12,25,50] mixed Tryz.func114 rfl (by kernel_rfl) ?_;repeat (first|simp -implicitDefEqProofs only [go_sem,seval,w1,w2,w3,e0',hr',bl7,bl8,k1,k2,k3,k4,k5,k6,k7,k8]|(with_reducible refine Qai s1 ?_ ?_ ?_ ?_);rfl;rfl;rfl|(with_reducible refine Qaa g1 ?_ ?_ ?_);rfl;rfl|(with_reducible refine Qai s3 ?_ ?_ ?_ ?_);rfl;rfl;rfl)
end Go.Proofs.YtnohfmdlaajpbaaGreat
