/-
  NT4, NW20, NT5, NW21, NW22, NW19, NW24, De5, NW25 (merged for the claim).
-/
import Derived.Test.YtapjnenbofmliaaGreatDoorNT3
import Derived.Test.YtapjnenbofmliaaGreatDoorNT1
import Derived.Test.YtapjnenbofmliaaGreatDoorNW6
set_option linter.unusedSimpArgs false
set_option linter.unusedVariables false
namespace Go.Proofs.YtapjnenbofmliaaGreatDoor
open Go.Vl Go.RowKit Go.Dg Go.Lib
theorem Qsg (l:List (List UInt8)):((l.map bs_).flatMap PV.cells).all PV.okCell=true:=by
 rw [List.all_flatMap,List.all_map,List.all_eq_true];intro _ _;rfl
theorem Qtx {m k:Nat} (h:m<256^k):(grps m).length≤k:=Qsc k m (Nat.lt_of_lt_of_le h (Nat.pow_le_pow_left (by decide) k))
theorem Qw1 {m k:Nat} (h:m<256^k):(decDigits m).length≤3*k+1:=by
 refine Qc6 (3*k) m (Nat.lt_of_lt_of_le h ?_);refine Nat.le_trans (Nat.pow_le_pow_left (show 256≤10^3 by decide) k) ?_;rw [←Nat.pow_mul];exact Nat.pow_le_pow_right (by decide) (by omega)
theorem Q2s (neg:Bool) {m:Nat} (h0:0<m):(grps m++if neg then [[45]]else []).reverse.flatten=txt neg m:=by
 have:=Qwm m h0;have e:txt neg m=if neg then 45::decDigits m else decDigits m:=by unfold txt;rw [if_neg (show¬m=0 by omega)]
 rw [e];cases neg<;>simp [this]
set_option maxHeartbeats 4000000 in
theorem Q9a (neg:Bool) (l:List UInt8) (h:Qa2 neg l=true) (hs:l.length≤100000):Qag Tryz.prog 8 [.agg [.bool neg,.str ⟨l.toArray⟩]] (.tup [.str ⟨(txt neg (bnum l)).toArray⟩,.int .i64 0]):=by
 have hv:=Qeg neg ⟨l.toArray⟩;have hl:=Qjx ⟨l.toArray⟩ (by rw [Qc4];omega);have hd:(⟨l.toArray⟩:ByteArray).data.toList=l:=by simp
 rw [hd]at hv hl;rw [h]at hv;rw [Qe5 h]at hl;have hn0:=Qtl l [];cases l with
 |nil=>
  have e:txt neg (bnum [])=[48]:=by simp [txt,bnum]
  have hz:(([]:List UInt8)== [])=true:=rfl;rw [hz]at hn0;rw [e];refine Qae (tb:=[]) 49 [.tmp 2,.tmp 3] [0,1,2,3,4,5,6,7,10,13,19,29,41] mixed Tryz.func8 rfl (by kernel_rfl) (by kernel_rfl) (by kernel_rfl) (by kernel_rfl) ?_;repeat (first|(simp -implicitDefEqProofs only [go_sem,seval,Bool.not_true])|((with_reducible refine Qaa hv ?_ ?_ ?_);rfl;rfl))
 |cons c r=>
  have hz:((c::r:List UInt8)== [])=false:=rfl;rw [hz]at hn0;have hc:c.toNat≠0:=fun e=>by
   have:c=0:=UInt8.toNat_inj.1 (by simpa using e);subst this;simp [Qa2]at h
  have hm0:0<bnum (c::r):=by
   rw [Qgt];have:=Nat.mul_pos (Nat.pos_of_ne_zero hc) (Nat.pow_pos (n:=r.length) (show 0<256 by decide));omega
  have hmb:bnum (c::r)<256^(c::r).length:=Ql9 _ _ rfl;have hgb:=Qtx hmb;have hdb:=Qw1 hmb;have hfl:=Q2s neg hm0;generalize c::r=l at*;generalize bnum l=m at*;cases neg with
  |false=>

   refine Qae (tb:=[(1601,[(1000000,7)],[])]) 49 [.tmp 2,.tmp 3] [0,1,2,3,4,5,6,7,10,13,19,29,41] mixed Tryz.func8 rfl (by kernel_rfl) (by kernel_rfl) (by kernel_rfl) (by kernel_rfl) ?_;generalize hK:(grps m).length=K at*;repeat (first|(simp -implicitDefEqProofs only [go_sem,seval,Bool.not_true,hz,dw])|((with_reducible refine Qaa hv ?_ ?_ ?_);rfl;rfl)|((with_reducible refine Qaa hl ?_ ?_ ?_);rfl;rfl))
   refine Qba mixed (fun p:{p:Nat×List (List UInt8) // p.2++grps p.1=grps m∧p.1≤m}=>St.of [(1,.bp 0 2 0 0),(4,.bs 7 1 0 p.1.2.length),(5,dw (digs BW p.1.1))] [(0,{els:=[.agg [.bool false,.str ⟨l.toArray⟩]],esz:=2,ety:=23,fro:=0,live:=true,arr:=false}),(7,{els:=p.1.2.map bs_,esz:=1,ety:=9,fro:=0,live:=true,arr:=true})]) (fun p=>p.1.1) ⟨(m,[]),by simp,Nat.le_refl _⟩ ?_ ?_
   ·refine Qh5 4 7 1 9 rfl rfl rfl (by decide) [(0,0),(7,7)] rfl ?_ ?_
    ·simp [Qah,lkp,ren1,ren0,Qbp,dw]
    ·exact⟨⟨rfl,rfl,rfl,rfl,rfl,.inr ⟨rfl,_,_,rfl,rfl,rfl,rfl⟩⟩,⟨rfl,rfl,rfl,rfl,rfl,.inl ⟨rfl,rfl⟩⟩,trivial⟩
   rintro⟨⟨n,g⟩,hg,hnm⟩;simp only at hg hnm ⊢;have hLn:(digs BW n).length≤100000:=by
    refine Nat.le_trans ((Qak BW_2 n l.length).2 ?_) hs;exact Nat.lt_of_le_of_lt hnm (Nat.lt_of_lt_of_le hmb (Nat.pow_le_pow_left (by decide) _))
   have hgl:g.length≤K:=by rw [←hK,←hg,List.length_append];omega
   by_cases h0:n=0
   case neg=>
    have hpos:0<(digs BW n).length:=List.length_pos_iff.2 (mt (Qa1 BW_2).1 h0);have p1:((0:Int)<((digs BW n).length:Int))=True:=eq_true (by omega);have hsm:=Qmr n 1000000000000000000 (by decide) (by decide) (by omega);have hrl:n%1000000000000000000<1000000000000000000:=Nat.mod_lt _ (by decide);have hfm:=Zcu (n%1000000000000000000) (by omega);have hst:=Qjn (n:=n) (by omega);have hok:=Qsg g;have hgm:(g.map bs_).length=g.length:=List.length_map ..;have k1:((g.length+1)*16≤140737488355328)=True:=eq_true (by omega);have k2:(g.length+1≤maxLen)=True:=eq_true (by unfold maxLen;omega);have hlt:n/1000000000000000000<n:=Nat.div_lt_self (by omega) (by decide);have hinv:(g++[grpS n])++grps (n/1000000000000000000)=grps m:=by rw [←hg,hst,List.append_assoc];rfl
    have hmp:(g++[grpS n]).map bs_=g.map bs_++[.str ⟨(grpS n).toArray⟩]:=by rw [List.map_append];rfl
    have hln:(g++[grpS n]).length=g.length+1:=by simp
    unfold dw at hsm;by_cases hq:n/1000000000000000000=0
    ·have z1:(((digs BW (n/1000000000000000000)).length:Int))=0:=by rw [hq,Qap];rfl
     have hgS:=Qn9 hq;rw [←hgS]at hfm;generalize n%1000000000000000000=R at*;generalize n/1000000000000000000=Q at*;generalize grpS n=S at*;repeat (first|(simp -implicitDefEqProofs only [go_sem,seval,dw,List.length_map,p1,z1,hgm,hok,k1,k2])|((with_reducible refine Qaa hsm ?_ ?_ ?_);rfl;rfl)|((with_reducible refine Qaa hfm ?_ ?_ ?_);rfl;rfl))
     refine⟨⟨(Q,g++[S]),hinv,by omega⟩,by simp only;omega,?_⟩;simp only [hmp,hln];refine Qa0 (θ:=[(0,0),(7,1303)]) rfl ?_ ?_
     ·simp [Qah,lkp,ren1,ren0,Qbp,dw]
     ·exact⟨⟨rfl,rfl,rfl,rfl,rfl,.inr ⟨rfl,_,_,rfl,rfl,rfl,rfl⟩⟩,⟨rfl,rfl,rfl,rfl,rfl,.inl ⟨rfl,rfl⟩⟩,trivial⟩
    ·obtain⟨hgS,hd18⟩:=Qoa hq;have hposQ:0<(digs BW (n/1000000000000000000)).length:=List.length_pos_iff.2 (mt (Qa1 BW_2).1 hq);have p2:((0:Int)<((digs BW (n/1000000000000000000)).length:Int))=True:=eq_true (by omega);have hrp:=Qse (18-(decDigits (n%1000000000000000000)).length) (by omega);have w1:IntKind.i64.wrap (18-((decDigits (n%1000000000000000000)).length:Int))=((18-(decDigits (n%1000000000000000000)).length:Nat):Int):=by rw [Qaj (by omega) (by omega)];omega
     have ha:=Qr1 (List.replicate (18-(decDigits (n%1000000000000000000)).length) 48) (decDigits (n%1000000000000000000)) (by rw [List.length_replicate];omega);rw [←hgS]at ha;have hbl:=Qc4 (decDigits (n%1000000000000000000));generalize decDigits (n%1000000000000000000)=D at*;generalize n%1000000000000000000=R at*;generalize n/1000000000000000000=Q at*;generalize grpS n=S at*;repeat (first|(simp -implicitDefEqProofs only [go_sem,seval,dw,List.length_map,p1,p2,w1,ha,hbl,hgm,hok,k1,k2])|((with_reducible refine Qaa hsm ?_ ?_ ?_);rfl;rfl)|((with_reducible refine Qaa hfm ?_ ?_ ?_);rfl;rfl)|((with_reducible refine Qaa hrp ?_ ?_ ?_);rfl;rfl))
     refine⟨⟨(Q,g++[S]),hinv,by omega⟩,by simp only;omega,?_⟩;simp only [hmp,hln];refine Qa0 (θ:=[(0,0),(7,1303)]) rfl ?_ ?_
     ·simp [Qah,lkp,ren1,ren0,Qbp,dw]
     ·exact⟨⟨rfl,rfl,rfl,rfl,rfl,.inr ⟨rfl,_,_,rfl,rfl,rfl,rfl⟩⟩,⟨rfl,rfl,rfl,rfl,rfl,.inl ⟨rfl,rfl⟩⟩,trivial⟩
   subst h0;have hge:g=grps m:=by rw [←hg,Qe4,List.append_nil]
   have p1:((0:Int)<(0:Int))=False:=by simp
   have hgm:(g.map bs_).length=g.length:=List.length_map ..;have hok:=Qsg g;have k1:((g.length+1)*16≤140737488355328)=True:=eq_true (by omega);have k2:(g.length+1≤maxLen)=True:=eq_true (by unfold maxLen;omega);have hrv:=Qlm g (by omega);have hjn:=Q76 g.reverse (by rw [Ne,List.reverse_eq_nil_iff,hge,Qjn hm0];simp) (by rw [List.length_reverse];omega) (by
    rw [hge];simp only [Bool.false_eq_true,if_false,List.append_nil]at hfl;rw [hfl,txt,if_neg (by omega),if_neg (by decide)];omega)
   have hfl2:g.reverse.flatten=txt false m:=by rw [hge];simpa using hfl
   rw [hfl2]at hjn;have htk:(g.reverse.map bs_).take g.length=g.reverse.map bs_:=List.take_of_length_le (by simp);have hlr:(g.reverse.map bs_).length=g.length:=by simp
   change Qag Tryz.prog 39 [.slc (g.reverse.map bs_),.str ⟨#[]⟩] _ at hjn;generalize g.reverse.map bs_=GR at*;repeat (first|(simp -implicitDefEqProofs only [go_sem,seval,dw,Qap,List.map_nil,List.length_nil,p1,htk,hlr,Int.natCast_zero,Nat.le_refl,decide_true])|((with_reducible refine Qpw hrv ?_ ?_ ?_ ?_);rfl;rfl;rfl)|((with_reducible refine Qaa hjn ?_ ?_ ?_);rfl;rfl))
  |true=>

   refine Qae (tb:=[(1601,[(1000000,1502)],[])]) 49 [.tmp 2,.tmp 3] [0,1,2,3,4,5,6,7,10,13,19,29,41] mixed Tryz.func8 rfl (by kernel_rfl) (by kernel_rfl) (by kernel_rfl) (by kernel_rfl) ?_;generalize hK:(grps m).length=K at*;repeat (first|(simp -implicitDefEqProofs only [go_sem,seval,Bool.not_true,hz,dw])|((with_reducible refine Qaa hv ?_ ?_ ?_);rfl;rfl)|((with_reducible refine Qaa hl ?_ ?_ ?_);rfl;rfl))
   refine Qba mixed (fun p:{p:Nat×List (List UInt8) // p.2++grps p.1=grps m∧p.1≤m}=>St.of [(1,.bp 0 2 0 0),(4,.bs 7 1 0 p.1.2.length),(5,dw (digs BW p.1.1))] [(0,{els:=[.agg [.bool true,.str ⟨l.toArray⟩]],esz:=2,ety:=23,fro:=0,live:=true,arr:=false}),(7,{els:=p.1.2.map bs_,esz:=1,ety:=9,fro:=0,live:=true,arr:=true})]) (fun p=>p.1.1) ⟨(m,[]),by simp,Nat.le_refl _⟩ ?_ ?_
   ·refine Qh5 4 7 1 9 rfl rfl rfl (by decide) [(0,0),(7,7)] rfl ?_ ?_
    ·simp [Qah,lkp,ren1,ren0,Qbp,dw]
    ·exact⟨⟨rfl,rfl,rfl,rfl,rfl,.inr ⟨rfl,_,_,rfl,rfl,rfl,rfl⟩⟩,⟨rfl,rfl,rfl,rfl,rfl,.inl ⟨rfl,rfl⟩⟩,trivial⟩
   rintro⟨⟨n,g⟩,hg,hnm⟩;simp only at hg hnm ⊢;have hLn:(digs BW n).length≤100000:=by
    refine Nat.le_trans ((Qak BW_2 n l.length).2 ?_) hs;exact Nat.lt_of_le_of_lt hnm (Nat.lt_of_lt_of_le hmb (Nat.pow_le_pow_left (by decide) _))
   have hgl:g.length≤K:=by rw [←hK,←hg,List.length_append];omega
   by_cases h0:n=0
   case neg=>
    have hpos:0<(digs BW n).length:=List.length_pos_iff.2 (mt (Qa1 BW_2).1 h0);have p1:((0:Int)<((digs BW n).length:Int))=True:=eq_true (by omega);have hsm:=Qmr n 1000000000000000000 (by decide) (by decide) (by omega);have hrl:n%1000000000000000000<1000000000000000000:=Nat.mod_lt _ (by decide);have hfm:=Zcu (n%1000000000000000000) (by omega);have hst:=Qjn (n:=n) (by omega);have hok:=Qsg g;have hgm:(g.map bs_).length=g.length:=List.length_map ..;have k1:((g.length+1)*16≤140737488355328)=True:=eq_true (by omega);have k2:(g.length+1≤maxLen)=True:=eq_true (by unfold maxLen;omega);have hlt:n/1000000000000000000<n:=Nat.div_lt_self (by omega) (by decide);have hinv:(g++[grpS n])++grps (n/1000000000000000000)=grps m:=by rw [←hg,hst,List.append_assoc];rfl
    have hmp:(g++[grpS n]).map bs_=g.map bs_++[.str ⟨(grpS n).toArray⟩]:=by rw [List.map_append];rfl
    have hln:(g++[grpS n]).length=g.length+1:=by simp
    unfold dw at hsm;by_cases hq:n/1000000000000000000=0
    ·have z1:(((digs BW (n/1000000000000000000)).length:Int))=0:=by rw [hq,Qap];rfl
     have hgS:=Qn9 hq;rw [←hgS]at hfm;generalize n%1000000000000000000=R at*;generalize n/1000000000000000000=Q at*;generalize grpS n=S at*;repeat (first|(simp -implicitDefEqProofs only [go_sem,seval,dw,List.length_map,p1,z1,hgm,hok,k1,k2])|((with_reducible refine Qaa hsm ?_ ?_ ?_);rfl;rfl)|((with_reducible refine Qaa hfm ?_ ?_ ?_);rfl;rfl))
     refine⟨⟨(Q,g++[S]),hinv,by omega⟩,by simp only;omega,?_⟩;simp only [hmp,hln];refine Qa0 (θ:=[(0,0),(7,1303)]) rfl ?_ ?_
     ·simp [Qah,lkp,ren1,ren0,Qbp,dw]
     ·exact⟨⟨rfl,rfl,rfl,rfl,rfl,.inr ⟨rfl,_,_,rfl,rfl,rfl,rfl⟩⟩,⟨rfl,rfl,rfl,rfl,rfl,.inl ⟨rfl,rfl⟩⟩,trivial⟩
    ·obtain⟨hgS,hd18⟩:=Qoa hq;have hposQ:0<(digs BW (n/1000000000000000000)).length:=List.length_pos_iff.2 (mt (Qa1 BW_2).1 hq);have p2:((0:Int)<((digs BW (n/1000000000000000000)).length:Int))=True:=eq_true (by omega);have hrp:=Qse (18-(decDigits (n%1000000000000000000)).length) (by omega);have w1:IntKind.i64.wrap (18-((decDigits (n%1000000000000000000)).length:Int))=((18-(decDigits (n%1000000000000000000)).length:Nat):Int):=by rw [Qaj (by omega) (by omega)];omega
     have ha:=Qr1 (List.replicate (18-(decDigits (n%1000000000000000000)).length) 48) (decDigits (n%1000000000000000000)) (by rw [List.length_replicate];omega);rw [←hgS]at ha;have hbl:=Qc4 (decDigits (n%1000000000000000000));generalize decDigits (n%1000000000000000000)=D at*;generalize n%1000000000000000000=R at*;generalize n/1000000000000000000=Q at*;generalize grpS n=S at*;repeat (first|(simp -implicitDefEqProofs only [go_sem,seval,dw,List.length_map,p1,p2,w1,ha,hbl,hgm,hok,k1,k2])|((with_reducible refine Qaa hsm ?_ ?_ ?_);rfl;rfl)|((with_reducible refine Qaa hfm ?_ ?_ ?_);rfl;rfl)|((with_reducible refine Qaa hrp ?_ ?_ ?_);rfl;rfl))
     refine⟨⟨(Q,g++[S]),hinv,by omega⟩,by simp only;omega,?_⟩;simp only [hmp,hln];refine Qa0 (θ:=[(0,0),(7,1303)]) rfl ?_ ?_
     ·simp [Qah,lkp,ren1,ren0,Qbp,dw]
     ·exact⟨⟨rfl,rfl,rfl,rfl,rfl,.inr ⟨rfl,_,_,rfl,rfl,rfl,rfl⟩⟩,⟨rfl,rfl,rfl,rfl,rfl,.inl ⟨rfl,rfl⟩⟩,trivial⟩
   subst h0;have hge:g=grps m:=by rw [←hg,Qe4,List.append_nil]
   have p1:((0:Int)<(0:Int))=False:=by simp
   have hgm:(g.map bs_).length=g.length:=List.length_map ..;have hok:=Qsg g;have k1:((g.length+1)*16≤140737488355328)=True:=eq_true (by omega);have k2:(g.length+1≤maxLen)=True:=eq_true (by unfold maxLen;omega);have hmp:(g++[[45]]).map bs_=g.map bs_++[.str ⟨#[45]⟩]:=by rw [List.map_append];rfl
   have hln:(g++[[45]]).length=g.length+1:=by simp
   have hrv:=Qlm (g++[[45]]) (by rw [hln];omega);rw [hmp,hln]at hrv;have hfl2:(g++[[45]]).reverse.flatten=txt true m:=by rw [hge];simpa using hfl
   have hjn:=Q76 (g++[[45]]).reverse (by simp) (by rw [List.length_reverse,hln];omega) (by
    rw [hfl2,txt,if_neg (by omega),if_pos rfl,List.length_cons];omega)
   rw [hfl2]at hjn;have htk:((g++[[45]]).reverse.map bs_).take (g.length+1)=(g++[[45]]).reverse.map bs_:=List.take_of_length_le (by simp);have hlr:((g++[[45]]).reverse.map bs_).length=g.length+1:=by simp
   change Qag Tryz.prog 39 [.slc ((g++[[45]]).reverse.map bs_),.str ⟨#[]⟩] _ at hjn;generalize (g++[[45]]).reverse.map bs_=GR at*;repeat (first|(simp -implicitDefEqProofs only [go_sem,seval,dw,Qap,List.map_nil,List.length_nil,p1,hgm,htk,hlr,hok,k1,k2,Int.natCast_zero,Nat.le_refl,decide_true])|((with_reducible refine Qpw hrv ?_ ?_ ?_ ?_);rfl;rfl;rfl)|((with_reducible refine Qaa hjn ?_ ?_ ?_);rfl;rfl))
end Go.Proofs.YtapjnenbofmliaaGreatDoor

namespace Go.Proofs.YtapjnenbofmliaaGreatDoor
open Go.Vl Go.RowKit Go.Dg
theorem Qd5 {d:Nat} (h:d<BW):Qch [d]=digs BW d:=by
 rw [Qmf BW_2 [d] (by simpa using h)];simp [val]
theorem Qzw (neg:Bool) (s:ByteArray) (h:Qa2 neg s.data.toList=true) (hs:s.size≤100000):Qag Tryz.prog 22 [.agg [.bool neg,.str s]] (.int .i64 (wnum neg s).sign):=by
 have hv:=Qeg neg s;rw [h]at hv;have ho:=Qhq neg s h (by omega);have hg:=Za5 neg (bnum s.data.toList);refine Qae (tb:=[]) 9 [.tmp 2] [0,1,2,5] mixed Tryz.func22 rfl (by kernel_rfl) (by kernel_rfl) (by kernel_rfl) (by kernel_rfl) ?_;repeat (first|(simp -implicitDefEqProofs only [go_sem,seval,nP,dw])|((with_reducible refine Qaa hv ?_ ?_ ?_);rfl;rfl)|((with_reducible refine Qaa ho ?_ ?_ ?_);rfl;rfl)|((with_reducible refine Qaa hg ?_ ?_ ?_);rfl;rfl))
 rfl
theorem Zds (neg:Bool) (s:ByteArray) (h:Qa2 neg s.data.toList=true) (hs:s.size≤100000):Qag Tryz.prog 16 [.agg [.bool neg,.str s]] (.int .i64 (blen (bnum s.data.toList):Int)):=by
 have hv:=Qeg neg s;rw [h]at hv;have ho:=Qjx s (by omega);rw [Qe5 h]at ho;have hg:=Qqz (bnum s.data.toList) (Nat.le_trans (Qdk s hs) (by decide));refine Qae (tb:=[]) 10 [.tmp 2] [0,1,2,5] mixed Tryz.func16 rfl (by kernel_rfl) (by kernel_rfl) (by kernel_rfl) (by kernel_rfl) ?_;repeat (first|(simp -implicitDefEqProofs only [go_sem,seval,dw])|((with_reducible refine Qaa hv ?_ ?_ ?_);rfl;rfl)|((with_reducible refine Qaa ho ?_ ?_ ?_);rfl;rfl)|((with_reducible refine Qaa hg ?_ ?_ ?_);rfl;rfl))
end Go.Proofs.YtapjnenbofmliaaGreatDoor

namespace Go.Proofs.YtapjnenbofmliaaGreatDoor
open Go.Vl Go.RowKit Go.Dg Go.Lib
def pneg:List UInt8→Bool
 | []=>false
 |c::_=>decide (c=45)
def pdig (l:List UInt8):List UInt8:=if pneg l=true then l.tail else l
theorem Q2t (l:List UInt8):(pdig l).length≤l.length:=by
 unfold pdig;split
 ·rw [List.length_tail];omega
 ·exact Nat.le_refl _
theorem nat1:((1:Nat):Int)=1:=rfl
theorem nat0:((0:Nat):Int)=0:=rfl
theorem Qw2:(⟨#[45]⟩:ByteArray).size=1:=rfl
theorem Zc1:(⟨#[]⟩:ByteArray).size=0:=rfl
theorem Q2u (l:List UInt8) (hl:l.length≤1000000000):Qag Tryz.prog 93 [.str ⟨l.toArray⟩,.str ⟨#[45]⟩] (.bool (pneg l)):=by
 cases l with
 |nil=>
  have z0:((1:Int)≤0)=False:=by simp
  have h0:=Zc1;have h1:=Qw2;refine Qae (tb:=[]) 18 [.tmp 4] [0,1,4] mixed Tryz.func93 rfl (by kernel_rfl) (by kernel_rfl) (by kernel_rfl) (by kernel_rfl) ?_;repeat (first|(simp -implicitDefEqProofs only [go_sem,seval,h0,h1,nat1,nat0,z0,pneg]))
 |cons c r=>
  have h1:=Qw2;have hz:=Qc4 (c::r);rw [List.length_cons]at hz;have z0:((1:Int)≤((r.length+1:Nat):Int))=True:=eq_true (by omega);have hcut:=Ql8 (c::r) 0 1;rw [show((c::r).take 1).drop 0=[c]from rfl]at hcut;have he:=Qtl [c] [45];have hc:([c]== [45])=decide (c=45):=by
   by_cases h:c=45
   ·subst h;rfl
   ·rw [decide_eq_false h,beq_eq_false_iff_ne];simpa using h
  rw [hc]at he;refine Qae (tb:=[]) 18 [.tmp 4] [0,1,4] mixed Tryz.func93 rfl (by kernel_rfl) (by kernel_rfl) (by kernel_rfl) (by kernel_rfl) ?_;repeat (first|(simp -implicitDefEqProofs only [go_sem,seval,hz,h1,nat1,z0,hcut,hc,pneg]))
theorem Zc2 (l:List UInt8) (hl:l.length≤1000000000):Qag Tryz.prog 77 [.str ⟨l.toArray⟩,.str ⟨#[45]⟩] (.tup [.str ⟨(pdig l).toArray⟩,.bool (pneg l)]):=by
 have hp:=Q2u l hl;unfold pdig;cases l with
 |nil=>
  refine Qae (tb:=[]) 15 [.tmp 4,.tmp 5] [0,1,4,5,9] mixed Tryz.func77 rfl (by kernel_rfl) (by kernel_rfl) (by kernel_rfl) (by kernel_rfl) ?_;repeat (first|(simp -implicitDefEqProofs only [go_sem,seval,pneg,Bool.not_false,Bool.false_eq_true,if_false])|((with_reducible refine Qaa hp ?_ ?_ ?_);rfl;rfl))
 |cons c r=>
  by_cases h:c=45
  ·subst h;have e:pneg (45::r)=true:=rfl;have h1:=Qw2;have hz:=Qc4 (45::r);rw [List.length_cons]at hz;have z0:((1:Int)≤((r.length+1:Nat):Int))=True:=eq_true (by omega);have hcut:=Ql8 (45::r) 1 (r.length+1);rw [show((45::r).take (r.length+1)).drop 1=r by rw [List.take_of_length_le (by simp)];rfl]at hcut;rw [e]at hp ⊢;rw [if_pos rfl,List.tail_cons];refine Qae (tb:=[]) 15 [.tmp 4,.tmp 5] [0,1,4,5,9] mixed Tryz.func77 rfl (by kernel_rfl) (by kernel_rfl) (by kernel_rfl) (by kernel_rfl) ?_;repeat (first|(simp -implicitDefEqProofs only [go_sem,seval,Bool.not_true,h1,hz,nat1,z0,hcut,Int.toNat_natCast])|((with_reducible refine Qaa hp ?_ ?_ ?_);rfl;rfl))
  ·have e:pneg (c::r)=false:=decide_eq_false h;rw [e]at hp ⊢;rw [if_neg Bool.false_ne_true];refine Qae (tb:=[]) 15 [.tmp 4,.tmp 5] [0,1,4,5,9] mixed Tryz.func77 rfl (by kernel_rfl) (by kernel_rfl) (by kernel_rfl) (by kernel_rfl) ?_;repeat (first|(simp -implicitDefEqProofs only [go_sem,seval,Bool.not_false])|((with_reducible refine Qaa hp ?_ ?_ ?_);rfl;rfl))
theorem Zc3 (l:List UInt8) (hl:l.length≤1000000000):Qag Tryz.prog 46 [.str ⟨l.toArray⟩,.str ⟨#[45]⟩] (.tup [.str ⟨(pdig l).toArray⟩,.bool (pneg l)]):=by
 have h:=Zc2 l hl;refine Qae (tb:=[]) 11 [.tmp 4,.tmp 5] [0,1,4,5] mixed Tryz.func46 rfl (by kernel_rfl) (by kernel_rfl) (by kernel_rfl) (by kernel_rfl) ?_;repeat (first|(simp -implicitDefEqProofs only [go_sem,seval])|((with_reducible refine Qaa h ?_ ?_ ?_);rfl;rfl))
def okD (l:List UInt8):Bool:=(pdig l).all isD&& !badD (pneg l) (pdig l)
def Qqe (l:List UInt8):PV:=if okD l=true then Qc7 (sv (pneg l) (dval (pdig l)))else .tup [wPV 0,.int .i64 6]
theorem Qsh:digs BW 1000000000000000000=[1000000000000000000]:=by
 rw [←Qd5 (d:=1000000000000000000) (by decide)];decide
theorem Qdt {l:List UInt8} (h:l.all isD=true):(digs BW (dval l)).length≤l.length:=
 (Qak BW_2 _ _).2 (Nat.lt_of_lt_of_le (Qp7 l h) (Nat.pow_le_pow_left (by decide) _))
theorem Qgo {a b:Nat} (h:a≤b):(digs BW a).length≤(digs BW b).length:=(Qak BW_2 _ _).2 (Nat.lt_of_le_of_lt h (Qay BW_2 b))
theorem Qsi {c:UInt8}:isD c=true↔48≤c.toNat∧c.toNat≤57:=by simp [isD]
theorem Q8b {c:UInt8} (h:isD c=false):c.toNat<48∨57<c.toNat:=by
 by_cases h1:c.toNat<48
 ·exact .inl h1
 ·refine .inr ?_;by_cases h2:57<c.toNat
  ·exact h2
  ·rw [Qsi.2 ⟨by omega,by omega⟩]at h;cases h
theorem Qof {D p q:List UInt8} (hpq:p++q=D) (hi:p=[]∨q.length%18=0) (hq:q≠ []):(p++q.take ((q.length-1)%18+1))++q.drop ((q.length-1)%18+1)=D∧(q.drop ((q.length-1)%18+1)).length%18=0∧
  dval p*1000000000000000000+dval (q.take ((q.length-1)%18+1))=dval (p++q.take ((q.length-1)%18+1))∧(q.take ((q.length-1)%18+1)).length=(q.length-1)%18+1∧(q.length-1)%18+1≤q.length:=by
 have hl:0<q.length:=List.length_pos_iff.2 hq;have hk:(q.length-1)%18+1≤q.length:=by omega
 have htl:(q.take ((q.length-1)%18+1)).length=(q.length-1)%18+1:=by rw [List.length_take];omega
 refine⟨by rw [List.append_assoc,List.take_append_drop,hpq],by rw [List.length_drop];omega,?_,htl,hk⟩;rw [Qp6,htl];rcases hi with rfl|hi
 ·simp [dval,Qfy]
 ·have e:(q.length-1)%18+1=18:=by omega
  rw [e]
set_option maxHeartbeats 4000000 in
theorem Q2v (l:List UInt8) (hl:l.length≤21845):Qag Tryz.prog 12 [.str ⟨l.toArray⟩] (Qqe l):=by
 have hcp:=Zc3 l (by omega);have hDl:=Q2t l;unfold Qqe okD;generalize pneg l=neg at*;generalize pdig l=D at*;rw [Qi6];obtain⟨RES,hRES⟩: ∃RES,RES=(if(D.all isD&& !badD neg D)=true then Qc7 (sv neg (dval D))else PV.tup [.agg [.bool false,.str ⟨#[]⟩],.int .i64 6]):=⟨_,rfl⟩;rw [←hRES];cases D with
 |nil=>
  have he:=Qtl [] [];have hz:(([]:List UInt8)== [])=true:=rfl;rw [hz]at he;rw [if_neg (by simp [badD])]at hRES;rw [hRES];refine Qae (tb:=[]) 84 [.cell 2 23,.tmp 3] [0,2,3,4,5,6,7,8,9,30,33,34,35,46,51,55] mixed Tryz.func12 rfl (by kernel_rfl) (by kernel_rfl) (by kernel_rfl) (by kernel_rfl) ?_;repeat (first|(simp -implicitDefEqProofs only [go_sem,seval,hz])|((with_reducible refine Qaa hcp ?_ ?_ ?_);rfl;rfl))
 |cons c r=>
  have he:=Qtl (c::r) [];have hz:((c::r:List UInt8)== [])=false:=rfl;rw [hz]at he;have hat:=Zb6 (c::r) 0;rw [List.getElem?_cons_zero]at hat;have hsz:=Qc4 (c::r);rw [List.length_cons]at hsz hDl;cases hb:badD neg (c::r)with
  |true=>
   rw [hb,if_neg (by simp)]at hRES;rw [hRES];have hc:c=48:=by
    by_cases h:c=48
    ·exact h
    ·simp [badD,h]at hb
   subst hc;have c48:(((48:UInt8).toNat:Int)==48)=true:=rfl;cases neg with
   |true=>
    refine Qae (tb:=[]) 84 [.cell 2 23,.tmp 3] [0,2,3,4,5,6,7,8,9,30,33,34,35,46,51,55] mixed Tryz.func12 rfl (by kernel_rfl) (by kernel_rfl) (by kernel_rfl) (by kernel_rfl) ?_;repeat (first|(simp -implicitDefEqProofs only [go_sem,seval,hz,hat,c48])|((with_reducible refine Qaa hcp ?_ ?_ ?_);rfl;rfl))
   |false=>
    have hr:((1:Int)<((r.length+1:Nat):Int))=True:=by
     refine eq_true ?_;cases r with
     |nil=>simp [badD]at hb
     |cons=>rw [List.length_cons];omega
    refine Qae (tb:=[]) 84 [.cell 2 23,.tmp 3] [0,2,3,4,5,6,7,8,9,30,33,34,35,46,51,55] mixed Tryz.func12 rfl (by kernel_rfl) (by kernel_rfl) (by kernel_rfl) (by kernel_rfl) ?_;repeat (first|(simp -implicitDefEqProofs only [go_sem,seval,hz,hat,c48,hsz,hr])|((with_reducible refine Qaa hcp ?_ ?_ ?_);rfl;rfl))
  |false=>
   have hsp:(c=48∧neg=false∧r=[])∨c≠48:=by
    by_cases h:c=48
    ·refine .inl ⟨h,?_⟩;subst h;cases neg<;>cases r<;>simp [badD]at hb ⊢
    ·exact .inr h
   rcases hsp with⟨hc,rfl,hr0⟩|hc
   ·have c48:(((c.toNat:Nat):Int)==48)=true:=by subst hc;rfl
    have r1:((1:Int)<((r.length+1:Nat):Int))=False:=by rw [hr0];simp
    refine Qae (tb:=[]) 84 [.cell 2 23,.tmp 3] [0,2,3,4,5,6,7,8,9,30,33,34,35,46,51,55] mixed Tryz.func12 rfl (by kernel_rfl) (by kernel_rfl) (by kernel_rfl) (by kernel_rfl) ?_;repeat (first|(simp -implicitDefEqProofs only [go_sem,seval,hz,hat,c48,hsz,r1])|((with_reducible refine Qaa hcp ?_ ?_ ?_);rfl;rfl))
    clear hr0;have hDl2:(c::r).length≤21845:=by rw [List.length_cons];omega
    have hDn:(c::r)≠ []:=by simp
    rw [show((r.length+1:Nat):Int)=((c::r).length:Int)by rw [List.length_cons]];clear hcp he hz hat hsz hDl hc c48;generalize c::r=D at*;refine Qba mixed (fun i:{i:Nat // i≤D.length∧(D.take i).all isD=true}=>St.of [(2,.bp 0 2 0 0),(4,.str ⟨D.toArray⟩),(5,.bool false),(33,.int .i64 (D.length:Int)),(34,.int .i64 (i.1:Int))] [(0,{els:=[.agg [.bool false,.str ⟨#[]⟩]],esz:=2,ety:=23,fro:=0,live:=true,arr:=false})]) (fun i=>D.length-i.1) ⟨0,Nat.zero_le _,rfl⟩ ?_ ?_
    ·refine Qa0 (θ:=[(0,0)]) rfl ?_ ?_
     ·simp [Qah,lkp,ren1,ren0,Qbp]
     ·exact⟨⟨rfl,rfl,rfl,rfl,rfl,.inr ⟨rfl,_,_,rfl,rfl,rfl,rfl⟩⟩,trivial⟩
    rintro⟨i,hi,hall⟩;simp only;by_cases hA:i<D.length
    case pos=>
     have hA':((i:Int)<(D.length:Int))=True:=eq_true (by omega);have n0:((0:Int)≤(i:Int))=True:=eq_true (by omega);have hat:=Zb6 D i;rw [List.getElem?_eq_getElem hA]at hat;have hwk:=Qa5 (a:=i) (by omega);have htk:D.take (i+1)=D.take i++[D[i]]:=by rw [List.take_add_one];simp [hA]
     cases hd:isD D[i]with
     |true=>
      obtain⟨d1,d2⟩:=Qsi.1 hd;have t1:((D[i].toNat:Int)<48)=False:=eq_false (by omega);have t2:(57<(D[i].toNat:Int))=False:=eq_false (by omega);repeat (first|(simp -implicitDefEqProofs only [go_sem,seval,hA',n0,hat,t1,t2,hwk,Int.toNat_natCast]))
      refine⟨⟨i+1,hA,by rw [htk,List.all_append,hall];simp [hd]⟩,by simp only;omega,?_⟩;refine Qa0 (θ:=[(0,0)]) rfl ?_ ?_
      ·simp [Qah,lkp,ren1,ren0,Qbp]
      ·exact⟨⟨rfl,rfl,rfl,rfl,rfl,.inr ⟨rfl,_,_,rfl,rfl,rfl,rfl⟩⟩,trivial⟩
     |false=>
      have hno:D.all isD=false:=by rw [List.all_eq_false];exact⟨D[i],List.getElem_mem hA,by simp [hd]⟩
      rw [if_neg (by rw [hno];simp)]at hRES;rw [hRES];by_cases h1:D[i].toNat<48
      ·have t1:((D[i].toNat:Int)<48)=True:=eq_true (by omega);repeat (first|(simp -implicitDefEqProofs only [go_sem,seval,hA',n0,hat,t1,Int.toNat_natCast]))
      ·have h2:=(Q8b hd).resolve_left h1;have t1:((D[i].toNat:Int)<48)=False:=eq_false (by omega);have t2:(57<(D[i].toNat:Int))=True:=eq_true (by omega);repeat (first|(simp -implicitDefEqProofs only [go_sem,seval,hA',n0,hat,t1,t2,Int.toNat_natCast]))
    have hA':((i:Int)<(D.length:Int))=False:=eq_false (by omega);rw [List.take_of_length_le (by omega)]at hall;have hmax:(21845<(D.length:Int))=False:=eq_false (by omega);have hsz:=Qc4 D;rw [if_pos (by rw [hall,hb];rfl)]at hRES;repeat (first|(simp -implicitDefEqProofs only [go_sem,seval,hA',hmax,hsz]))
    refine Qba mixed (fun x:{x:List UInt8×List UInt8 // x.1++x.2=D∧(x.1=[]∨x.2.length%18=0)}=>St.of [(2,.bp 0 2 0 0),(4,.str ⟨x.1.2.toArray⟩),(5,.bool false),(7,dw (digs BW (dval x.1.1)))] [(0,{els:=[.agg [.bool false,.str ⟨#[]⟩]],esz:=2,ety:=23,fro:=0,live:=true,arr:=false})]) (fun x=>x.1.2.length) ⟨([],D),rfl,.inl rfl⟩ ?_ ?_
    ·refine Le.trans (Qr2 7 rfl) (Qa0 (θ:=[(0,0)]) rfl ?_ ?_)
     ·simp [Qah,lkp,ren1,ren0,dw,dval,Qfy,Qap]
     ·exact⟨⟨rfl,rfl,rfl,rfl,rfl,.inr ⟨rfl,_,_,rfl,rfl,rfl,rfl⟩⟩,trivial⟩
    rintro⟨⟨p,q⟩,hpq,hi⟩;simp only at hpq hi ⊢;have hlp:p.length+q.length=D.length:=by rw [←hpq,List.length_append]
    have hap:p.all isD=true∧q.all isD=true:=by rw [←hpq,List.all_append,Bool.and_eq_true]at hall;exact hall
    have hzq:=Qc4 q;by_cases hq:q=[]
    case pos=>
     subst hq;have hp:p=D:=by rw [←hpq,List.append_nil]
     have hnw:=Qd0 false (dval D) (Nat.le_trans (Qdt hall) (by omega));have z0:((0:Int)<((0:Nat):Int))=False:=by simp
     rw [Qdu]at hnw hRES;rw [hRES];rw [hp];unfold nP dw wPV at hnw;unfold wPV;rw [List.length_nil]at hzq;repeat (first|(simp -implicitDefEqProofs only [go_sem,seval,hzq,z0,dw])|((with_reducible refine Qaa hnw ?_ ?_ ?_);rfl;rfl))
    obtain⟨s1,s2,s3,s4,s5⟩:=Qof hpq hi hq;have hl:0<q.length:=List.length_pos_iff.2 hq;have p0:((0:Int)<(q.length:Int))=True:=eq_true (by omega);have w1:IntKind.i64.wrap ((q.length:Int)-1)=((q.length-1:Nat):Int):=by rw [Qaj (by omega) (by omega)];omega
    have w2:((q.length-1:Nat):Int).tmod 18=(((q.length-1)%18:Nat):Int):=rfl;have w3:IntKind.i64.wrap ((((q.length-1)%18:Nat):Int)+1)=(((q.length-1)%18+1:Nat):Int):=by rw [Qaj (by omega) (by omega)];omega
    have hk18:(q.length-1)%18+1≤18:=by omega
    have htd:(q.take ((q.length-1)%18+1)).all isD=true:=List.all_eq_true.2 fun x hx=>List.all_eq_true.1 hap.2 x (List.mem_of_mem_take hx);have hpu:=Qga ⟨(q.take ((q.length-1)%18+1)).toArray⟩ (by rw [Qc4,s4];omega) (dval (q.take ((q.length-1)%18+1))) (by
     rw [show(⟨(q.take ((q.length-1)%18+1)).toArray⟩:ByteArray).data.toList=q.take ((q.length-1)%18+1)by simp];exact Qn8 _ (by intro e;rw [e]at s4;simp at s4) htd (by omega))
    have hdl:=Qp7 _ htd;rw [s4]at hdl;have hdB:dval (q.take ((q.length-1)%18+1))<BW:=Nat.lt_of_lt_of_le hdl (Nat.le_trans (Nat.pow_le_pow_right (show 0<10 by decide) hk18) (by decide));have hcut1:=Ql8 q 0 ((q.length-1)%18+1);rw [List.drop_zero]at hcut1;have hcut2:=Ql8 q ((q.length-1)%18+1) q.length;rw [List.take_length]at hcut2;have hLp:=Qdt hap.1;have hm:=Qoi (dval p) 1000000000000000000 (by rw [Qsh];simp only [List.length_singleton];omega);have ht:=Qcc [dval (q.take ((q.length-1)%18+1))] (by simp [maxLen]);rw [Qd5 hdB]at ht;rw [Qsh]at hm;have hap2:(p++q.take ((q.length-1)%18+1)).all isD=true:=by rw [List.all_append,hap.1,htd];rfl
    have hLn:=Qdt hap2;rw [List.length_append,s4]at hLn;have hLm:(digs BW (dval p*1000000000000000000)).length≤1000000:=by
     refine Nat.le_trans (Nat.le_trans (Qgo ?_) hLn) (by omega);rw [←s3];exact Nat.le_add_right _ _
    have hLd:(digs BW (dval (q.take ((q.length-1)%18+1)))).length≤1000000:=Nat.le_trans (Qdt htd) (by omega);have had:=Qso (dval p*1000000000000000000) (dval (q.take ((q.length-1)%18+1))) (by omega) (by omega);rw [s3]at had;have b1:(((0:Int)≤(((q.length-1)%18+1:Nat):Int))∧(((q.length-1)%18+1:Nat):Int)≤(q.length:Int))=True:=eq_true (by omega);have b2:((0:Int)≤(((q.length-1)%18+1:Nat):Int))=True:=eq_true (by omega);have b3:((((q.length-1)%18+1:Nat):Int)≤(q.length:Int))=True:=eq_true (by omega);have hdrop:(q.drop ((q.length-1)%18+1)).length=q.length-((q.length-1)%18+1):=List.length_drop ..;generalize hkk:(q.length-1)%18+1=k at*;generalize q.take k=T at*;generalize dval p*1000000000000000000=PM at*;unfold dw at hm ht had;simp only [List.map_cons,List.map_nil]at hm ht;repeat (first|(simp -implicitDefEqProofs only [go_sem,seval,dw,hzq,p0,w1,w2,w3,hcut1,hcut2,b2,b3,Int.toNat_natCast,List.map_cons,List.map_nil])|((with_reducible refine Qaa hpu ?_ ?_ ?_);rfl;rfl)|((with_reducible refine Qaa hm ?_ ?_ ?_);rfl;rfl)|((with_reducible refine Qaa ht ?_ ?_ ?_);rfl;rfl)|((with_reducible refine Qaa had ?_ ?_ ?_);rfl;rfl))
    refine⟨⟨(p++T,q.drop k),s1,.inr s2⟩,by simp only [hdrop];omega,?_⟩;refine Qa0 (θ:=[(0,0)]) rfl ?_ ?_
    ·simp [Qah,lkp,ren1,ren0,Qbp,dw]
    ·exact⟨⟨rfl,rfl,rfl,rfl,rfl,.inr ⟨rfl,_,_,rfl,rfl,rfl,rfl⟩⟩,trivial⟩
   ·have c48:(((c.toNat:Nat):Int)==48)=false:=by
     rw [beq_eq_false_iff_ne];intro e;exact hc (UInt8.toNat_inj.1 (by have:(48:UInt8).toNat=48:=rfl;omega))
    refine Qae (tb:=[]) 84 [.cell 2 23,.tmp 3] [0,2,3,4,5,6,7,8,9,30,33,34,35,46,51,55] mixed Tryz.func12 rfl (by kernel_rfl) (by kernel_rfl) (by kernel_rfl) (by kernel_rfl) ?_;repeat (first|(simp -implicitDefEqProofs only [go_sem,seval,hz,hat,c48,hsz])|((with_reducible refine Qaa hcp ?_ ?_ ?_);rfl;rfl))
    have hDl2:(c::r).length≤21845:=by rw [List.length_cons];omega
    have hDn:(c::r)≠ []:=by simp
    rw [show((r.length+1:Nat):Int)=((c::r).length:Int)by rw [List.length_cons]];clear hcp he hz hat hsz hDl hc c48;generalize c::r=D at*;refine Qba mixed (fun i:{i:Nat // i≤D.length∧(D.take i).all isD=true}=>St.of [(2,.bp 0 2 0 0),(4,.str ⟨D.toArray⟩),(5,.bool neg),(33,.int .i64 (D.length:Int)),(34,.int .i64 (i.1:Int))] [(0,{els:=[.agg [.bool false,.str ⟨#[]⟩]],esz:=2,ety:=23,fro:=0,live:=true,arr:=false})]) (fun i=>D.length-i.1) ⟨0,Nat.zero_le _,rfl⟩ ?_ ?_
    ·refine Qa0 (θ:=[(0,0)]) rfl ?_ ?_
     ·simp [Qah,lkp,ren1,ren0,Qbp]
     ·exact⟨⟨rfl,rfl,rfl,rfl,rfl,.inr ⟨rfl,_,_,rfl,rfl,rfl,rfl⟩⟩,trivial⟩
    rintro⟨i,hi,hall⟩;simp only;by_cases hA:i<D.length
    case pos=>
     have hA':((i:Int)<(D.length:Int))=True:=eq_true (by omega);have n0:((0:Int)≤(i:Int))=True:=eq_true (by omega);have hat:=Zb6 D i;rw [List.getElem?_eq_getElem hA]at hat;have hwk:=Qa5 (a:=i) (by omega);have htk:D.take (i+1)=D.take i++[D[i]]:=by rw [List.take_add_one];simp [hA]
     cases hd:isD D[i]with
     |true=>
      obtain⟨d1,d2⟩:=Qsi.1 hd;have t1:((D[i].toNat:Int)<48)=False:=eq_false (by omega);have t2:(57<(D[i].toNat:Int))=False:=eq_false (by omega);repeat (first|(simp -implicitDefEqProofs only [go_sem,seval,hA',n0,hat,t1,t2,hwk,Int.toNat_natCast]))
      refine⟨⟨i+1,hA,by rw [htk,List.all_append,hall];simp [hd]⟩,by simp only;omega,?_⟩;refine Qa0 (θ:=[(0,0)]) rfl ?_ ?_
      ·simp [Qah,lkp,ren1,ren0,Qbp]
      ·exact⟨⟨rfl,rfl,rfl,rfl,rfl,.inr ⟨rfl,_,_,rfl,rfl,rfl,rfl⟩⟩,trivial⟩
     |false=>
      have hno:D.all isD=false:=by rw [List.all_eq_false];exact⟨D[i],List.getElem_mem hA,by simp [hd]⟩
      rw [if_neg (by rw [hno];simp)]at hRES;rw [hRES];by_cases h1:D[i].toNat<48
      ·have t1:((D[i].toNat:Int)<48)=True:=eq_true (by omega);repeat (first|(simp -implicitDefEqProofs only [go_sem,seval,hA',n0,hat,t1,Int.toNat_natCast]))
      ·have h2:=(Q8b hd).resolve_left h1;have t1:((D[i].toNat:Int)<48)=False:=eq_false (by omega);have t2:(57<(D[i].toNat:Int))=True:=eq_true (by omega);repeat (first|(simp -implicitDefEqProofs only [go_sem,seval,hA',n0,hat,t1,t2,Int.toNat_natCast]))
    have hA':((i:Int)<(D.length:Int))=False:=eq_false (by omega);rw [List.take_of_length_le (by omega)]at hall;have hmax:(21845<(D.length:Int))=False:=eq_false (by omega);have hsz:=Qc4 D;rw [if_pos (by rw [hall,hb];rfl)]at hRES;repeat (first|(simp -implicitDefEqProofs only [go_sem,seval,hA',hmax,hsz]))
    refine Qba mixed (fun x:{x:List UInt8×List UInt8 // x.1++x.2=D∧(x.1=[]∨x.2.length%18=0)}=>St.of [(2,.bp 0 2 0 0),(4,.str ⟨x.1.2.toArray⟩),(5,.bool neg),(7,dw (digs BW (dval x.1.1)))] [(0,{els:=[.agg [.bool false,.str ⟨#[]⟩]],esz:=2,ety:=23,fro:=0,live:=true,arr:=false})]) (fun x=>x.1.2.length) ⟨([],D),rfl,.inl rfl⟩ ?_ ?_
    ·refine Le.trans (Qr2 7 rfl) (Qa0 (θ:=[(0,0)]) rfl ?_ ?_)
     ·simp [Qah,lkp,ren1,ren0,dw,dval,Qfy,Qap]
     ·exact⟨⟨rfl,rfl,rfl,rfl,rfl,.inr ⟨rfl,_,_,rfl,rfl,rfl,rfl⟩⟩,trivial⟩
    rintro⟨⟨p,q⟩,hpq,hi⟩;simp only at hpq hi ⊢;have hlp:p.length+q.length=D.length:=by rw [←hpq,List.length_append]
    have hap:p.all isD=true∧q.all isD=true:=by rw [←hpq,List.all_append,Bool.and_eq_true]at hall;exact hall
    have hzq:=Qc4 q;by_cases hq:q=[]
    case pos=>
     subst hq;have hp:p=D:=by rw [←hpq,List.append_nil]
     have hnw:=Qd0 neg (dval D) (Nat.le_trans (Qdt hall) (by omega));have z0:((0:Int)<((0:Nat):Int))=False:=by simp
     rw [Qdu]at hnw hRES;rw [hRES];rw [hp];unfold nP dw wPV at hnw;unfold wPV;rw [List.length_nil]at hzq;repeat (first|(simp -implicitDefEqProofs only [go_sem,seval,hzq,z0,dw])|((with_reducible refine Qaa hnw ?_ ?_ ?_);rfl;rfl))
    obtain⟨s1,s2,s3,s4,s5⟩:=Qof hpq hi hq;have hl:0<q.length:=List.length_pos_iff.2 hq;have p0:((0:Int)<(q.length:Int))=True:=eq_true (by omega);have w1:IntKind.i64.wrap ((q.length:Int)-1)=((q.length-1:Nat):Int):=by rw [Qaj (by omega) (by omega)];omega
    have w2:((q.length-1:Nat):Int).tmod 18=(((q.length-1)%18:Nat):Int):=rfl;have w3:IntKind.i64.wrap ((((q.length-1)%18:Nat):Int)+1)=(((q.length-1)%18+1:Nat):Int):=by rw [Qaj (by omega) (by omega)];omega
    have hk18:(q.length-1)%18+1≤18:=by omega
    have htd:(q.take ((q.length-1)%18+1)).all isD=true:=List.all_eq_true.2 fun x hx=>List.all_eq_true.1 hap.2 x (List.mem_of_mem_take hx);have hpu:=Qga ⟨(q.take ((q.length-1)%18+1)).toArray⟩ (by rw [Qc4,s4];omega) (dval (q.take ((q.length-1)%18+1))) (by
     rw [show(⟨(q.take ((q.length-1)%18+1)).toArray⟩:ByteArray).data.toList=q.take ((q.length-1)%18+1)by simp];exact Qn8 _ (by intro e;rw [e]at s4;simp at s4) htd (by omega))
    have hdl:=Qp7 _ htd;rw [s4]at hdl;have hdB:dval (q.take ((q.length-1)%18+1))<BW:=Nat.lt_of_lt_of_le hdl (Nat.le_trans (Nat.pow_le_pow_right (show 0<10 by decide) hk18) (by decide));have hcut1:=Ql8 q 0 ((q.length-1)%18+1);rw [List.drop_zero]at hcut1;have hcut2:=Ql8 q ((q.length-1)%18+1) q.length;rw [List.take_length]at hcut2;have hLp:=Qdt hap.1;have hm:=Qoi (dval p) 1000000000000000000 (by rw [Qsh];simp only [List.length_singleton];omega);have ht:=Qcc [dval (q.take ((q.length-1)%18+1))] (by simp [maxLen]);rw [Qd5 hdB]at ht;rw [Qsh]at hm;have hap2:(p++q.take ((q.length-1)%18+1)).all isD=true:=by rw [List.all_append,hap.1,htd];rfl
    have hLn:=Qdt hap2;rw [List.length_append,s4]at hLn;have hLm:(digs BW (dval p*1000000000000000000)).length≤1000000:=by
     refine Nat.le_trans (Nat.le_trans (Qgo ?_) hLn) (by omega);rw [←s3];exact Nat.le_add_right _ _
    have hLd:(digs BW (dval (q.take ((q.length-1)%18+1)))).length≤1000000:=Nat.le_trans (Qdt htd) (by omega);have had:=Qso (dval p*1000000000000000000) (dval (q.take ((q.length-1)%18+1))) (by omega) (by omega);rw [s3]at had;have b1:(((0:Int)≤(((q.length-1)%18+1:Nat):Int))∧(((q.length-1)%18+1:Nat):Int)≤(q.length:Int))=True:=eq_true (by omega);have b2:((0:Int)≤(((q.length-1)%18+1:Nat):Int))=True:=eq_true (by omega);have b3:((((q.length-1)%18+1:Nat):Int)≤(q.length:Int))=True:=eq_true (by omega);have hdrop:(q.drop ((q.length-1)%18+1)).length=q.length-((q.length-1)%18+1):=List.length_drop ..;generalize hkk:(q.length-1)%18+1=k at*;generalize q.take k=T at*;generalize dval p*1000000000000000000=PM at*;unfold dw at hm ht had;simp only [List.map_cons,List.map_nil]at hm ht;repeat (first|(simp -implicitDefEqProofs only [go_sem,seval,dw,hzq,p0,w1,w2,w3,hcut1,hcut2,b2,b3,Int.toNat_natCast,List.map_cons,List.map_nil])|((with_reducible refine Qaa hpu ?_ ?_ ?_);rfl;rfl)|((with_reducible refine Qaa hm ?_ ?_ ?_);rfl;rfl)|((with_reducible refine Qaa ht ?_ ?_ ?_);rfl;rfl)|((with_reducible refine Qaa had ?_ ?_ ?_);rfl;rfl))
    refine⟨⟨(p++T,q.drop k),s1,.inr s2⟩,by simp only [hdrop];omega,?_⟩;refine Qa0 (θ:=[(0,0)]) rfl ?_ ?_
    ·simp [Qah,lkp,ren1,ren0,Qbp,dw]
    ·exact⟨⟨rfl,rfl,rfl,rfl,rfl,.inr ⟨rfl,_,_,rfl,rfl,rfl,rfl⟩⟩,trivial⟩
end Go.Proofs.YtapjnenbofmliaaGreatDoor

namespace Go.Proofs.YtapjnenbofmliaaGreatDoor
open Go.Vl Go.RowKit Go.Dg
abbrev wB (E:List Nat):Box:={els:=E.map fW,esz:=1,ety:=66,fro:=0,live:=true,arr:=true}
theorem Qsm (E:List Nat) (off n:Nat) (hn:off+n≤E.length) (hE:E.length≤maxLen):
  Qdx Tryz.prog 50 [.bs 1000000 1 off n] [(1000000,wB E)] (.bs 1000000 1 off (Qch ((E.drop off).take n)).length) [(1000000,wB E)]:=by
 have hm:=Qd4;refine Qfn (tb:=[]) 21 [.tmp 2] [0,2,14] mixed Tryz.func50 rfl (by kernel_rfl) (by kernel_rfl) (by kernel_rfl) (by kernel_rfl) (by rfl) ?_;simp -implicitDefEqProofs only [go_sem,seval];refine Qba mixed (fun k:{k:Nat // k≤n∧Qch ((E.drop off).take k)=Qch ((E.drop off).take n)}=>St.of [(0,.bs 1000000 1 off k.1),(2,.nilS)] [(1000000,wB E)]) (fun k=>k.1) ⟨n,Nat.le_refl _,rfl⟩ ?_ ?_
 ·refine Qa0 (θ:=[(1000000,1000000)]) rfl ?_ ?_
  ·simp [Qah,lkp,ren1,ren0]
  ·simp [Qal,lkp,Box.renames]
 ·rintro⟨k,hk,ht⟩;cases k with
  |zero=>
   have h1:((0:Int)<((0:Nat):Int))=False:=by simp
   simp -implicitDefEqProofs only [go_sem,seval,h1];rw [←ht];refine Qcq (.inl rfl) ?_;simp -implicitDefEqProofs only [go_sem,seval];refine Qa0 (θ:=[(1000000,1000000)]) rfl ?_ ?_
   ·simp [Qah,lkp,ren1,ren0,Qch]
   ·simp [Qal,lkp,Box.renames]
  |succ k=>
   have h1:((0:Int)<((k+1:Nat):Int))=True:=by simp
   have h2:(0≤(k:Int))=True:=by simp
   have hw:=Qgm (n:=k) (by omega);have hlt:off+k<E.length:=by omega
   have hget:(E.map fW)[off+k]? =some (.int .u64 (E[off+k]:Int)):=by simp [hlt]
   have hcut:(E.drop off).take (k+1)=(E.drop off).take k++[E[off+k]]:=by
    rw [List.take_add_one,List.getElem?_drop,List.getElem?_eq_getElem hlt];rfl
   have h4:((k:Int)<((k+1:Nat):Int))=True:=by simp;omega
   cases hd:((E[off+k]:Int)==0)with
   |true=>
    have hd0:E[off+k]=0:=by simpa using hd
    have h3:((k:Int)≤((k+1:Nat):Int))=True:=by simp;omega
    simp -implicitDefEqProofs only [go_sem,seval,h1,h2,hw,hget,hd,Int.toNat_natCast,h3,h4,wB];refine⟨⟨k,by omega,?_⟩,by simp,?_⟩
    ·rw [←ht,hcut,hd0,Qb1]
    ·refine Qa0 (θ:=[(1000000,1000000)]) rfl ?_ ?_
     ·simp [Qah,lkp,ren1,ren0]
     ·simp [Qal,lkp,Box.renames]
   |false=>
    have hd0:E[off+k]≠0:=by simpa using hd
    simp -implicitDefEqProofs only [go_sem,seval,h1,h2,hw,hget,hd,Int.toNat_natCast,h4,wB];rw [←ht,hcut,Qde _ hd0];refine Qcq (.inl rfl) ?_;simp -implicitDefEqProofs only [go_sem,seval];refine Qa0 (θ:=[(1000000,1000000)]) rfl ?_ ?_
    ·simp [Qah,lkp,ren1,ren0];omega
    ·simp [Qal,lkp,Box.renames]
theorem Za2 (E:List Nat) (off a b:Nat) (hba:b≤a) (hE:(E.drop off).take (digs BW a).length=digs BW a) (hEl:off+(digs BW a).length≤E.length) (ha:(digs BW a).length≤1000000000):
  Qdx Tryz.prog 85 [.bs 1000000 1 off (digs BW a).length,dw (digs BW b)] [(1000000,wB E)] (.bs 102 1 0 (digs BW (a-b)).length) [(1000000,wB E),(102,wB (lows BW (a-b) (digs BW a).length))]:=by

 refine Qfn (tb:=[(1101,[(1000000,102)],[])]) 41 [.tmp 4] [0,1,4,5,6,7,8,13,14,15,20] mixed Tryz.func85 rfl (by kernel_rfl) (by kernel_rfl) (by kernel_rfl) (by kernel_rfl) (by rfl) ?_;have hn0:((0:Int)≤((digs BW a).length:Int))=True:=by simp
 have hn1:((8:Nat):Int)*((digs BW a).length:Int)≤281474976710656:=by omega
 have hn2:((digs BW a).length:Int)≤9223372036854775807:=by omega
 simp -implicitDefEqProofs only [go_sem,Nat.reduceAdd,Nat.reduceMul,Nat.reduceEqDiff,Nat.reduceLT,Nat.reduceLeDiff,reduceCtorEq,dw,wB,hn0,hn1,hn2,Int.toNat_natCast];generalize hN:(digs BW a).length=N at*;rw [Qgu (a-b) N];refine Qba mixed (fun i:{i:Nat // i≤N}=>St.of [(0,.bs 1000000 1 off N),(1,dw (digs BW b)),(4,.nilS),(5,.bs 102 1 0 N),(6,.int .u64 (bor BW a b i.1:Int)),(13,.int .i64 (N:Int)),(14,.int .i64 (i.1:Int))]
  [(1000000,wB E),(102,{els:=(mix BW (a-b) 0 N i.1).map fW,esz:=1,ety:=66,fro:=0,live:=true,arr:=true})]) (fun i=>N-i.1) ⟨0,Nat.zero_le _⟩ ?_ ?_
 ·refine Qa0 (θ:=[(1000000,1000000),(102,102)]) rfl ?_ ?_
  ·simp [Qah,lkp,ren1,ren0,dw,Qmh]
  ·simp [Qal,lkp,Box.renames]
 ·rintro⟨i,hi⟩;have hml:=Qa9 (B:=BW) (a-b) 0 N i;by_cases hA:i<N
  ·have hA':((i:Int)<(N:Int))=True:=by simp;omega
   have h0:(0≤(i:Int))=True:=by simp
   have hga:=Qam BW_2 (show i<(digs BW a).length by omega);have hgE:(E.map fW)[off+i]? =some (PV.int .u64 ((a/BW^i%BW:Nat):Int)):=by
    rw [List.getElem?_map,←List.getElem?_drop,←List.getElem?_take_of_lt (show i<N by omega),hE,hga];rfl
   have hwk:=Qa5 (a:=i) (by omega);have hbl:=Qlk (B:=BW) a b i;have hbl2:=Qlk (B:=BW) a b (i+1);have hst:=Qmi BW_2 hba i;have hx:a/BW^i%BW<BW:=Nat.mod_lt _ (by decide);have hy:b/BW^i%BW<BW:=Nat.mod_lt _ (by decide);have hz:(a-b)/BW^i%BW<BW:=Nat.mod_lt _ (by decide);have hset:=Qdi (B:=BW) (V:=a-b) (W:=a-b) (S:=0) (n:=N) (m:=i) (d:=(a-b)/BW^i%BW) (by decide) hA rfl rfl;have hy0: ¬i<(digs BW b).length→b/BW^i%BW=0:=fun h=>by rw [Qa4 BW_2 (Nat.le_of_not_lt h),Nat.zero_mod]
   have hgb:i<(digs BW b).length→(digs BW b)[i]? =some (b/BW^i%BW):=fun h=>Qam BW_2 h;obtain⟨e,hgo⟩: ∃e:Nat,((mix BW (a-b) 0 N i).map fW)[i]? =some (PV.int .u64 (e:Int)):=⟨_,by rw [List.getElem?_map,Qci _ _ _ _ _ hA];rfl⟩;generalize a/BW^i%BW=x at*;generalize b/BW^i%BW=y at*;generalize (a-b)/BW^i%BW=z at*;have s1:(x+18446744073709551616-y-bor BW a b i)%18446744073709551616=z:=by simp only [BW]at*;omega
   have s2:(if x<y+bor BW a b i then 1 else 0)=bor BW a b (i+1):=by
    simp only [BW]at*;split<;>omega
   have hc:=Qqs x y (bor BW a b i) hbl;rw [s1,s2]at hc;by_cases hB:i<(digs BW b).length
   ·have hB':((i:Int)<((digs BW b).length:Int))=True:=by simp;omega
    have hgb:=hgb hB;simp -implicitDefEqProofs only [go_sem,Nat.reduceAdd,Nat.reduceMul,Nat.reduceEqDiff,Nat.reduceLT,Nat.reduceLeDiff,reduceCtorEq,dw,List.length_map,hA',hB',h0,Qb3,hgE,wB,hgb,Int.toNat_natCast];refine Qab _ _ _ _ _ _ _ _ _ hc ?_;simp -implicitDefEqProofs only [go_sem,Nat.reduceAdd,Nat.reduceMul,Nat.reduceEqDiff,Nat.reduceLT,Nat.reduceLeDiff,reduceIte,reduceCtorEq,hA',h0,Int.toNat_natCast,hwk,hgo];refine⟨⟨i+1,hA⟩,by simp only;omega,?_⟩;refine Qa0 (θ:=[(1000000,1000000),(102,102)]) rfl ?_ ?_
    ·simp [Qah,lkp,ren1,ren0,dw]
    ·rw [Qb9,hset];simp [Qal,lkp,Box.renames]
   ·have hB':((i:Int)<((digs BW b).length:Int))=False:=by simp;omega
    obtain rfl:=hy0 hB;simp -implicitDefEqProofs only [go_sem,Nat.reduceAdd,Nat.reduceMul,Nat.reduceEqDiff,Nat.reduceLT,Nat.reduceLeDiff,reduceCtorEq,dw,List.length_map,hA',hB',h0,hgE,wB,Int.toNat_natCast];refine Qab _ _ _ _ _ _ _ _ _ hc ?_;simp -implicitDefEqProofs only [go_sem,Nat.reduceAdd,Nat.reduceMul,Nat.reduceEqDiff,Nat.reduceLT,Nat.reduceLeDiff,reduceIte,reduceCtorEq,hA',h0,Int.toNat_natCast,hwk,hgo];refine⟨⟨i+1,hA⟩,by simp only;omega,?_⟩;refine Qa0 (θ:=[(1000000,1000000),(102,102)]) rfl ?_ ?_
    ·simp [Qah,lkp,ren1,ren0,dw]
    ·rw [Qb9,hset];simp [Qal,lkp,Box.renames]
  ·have hA':((i:Int)<(N:Int))=False:=by simp;omega
   obtain rfl:i=N:=by omega
   have hll:=Qaf (B:=BW) (a-b) i;have hlt:a<BW^i:=by rw [←hN];exact Qay BW_2 a
   have hm:mix BW (a-b) 0 i i=lows BW (a-b) i:=Qed (by decide) (by rw [Nat.div_eq_of_lt (Nat.lt_of_le_of_lt (Nat.sub_le _ _) hlt),Nat.zero_div]);have hq:Qch (((lows BW (a-b) i).drop 0).take i)=digs BW (a-b):=by
    rw [List.drop_zero,List.take_of_length_le (by rw [hll];exact Nat.le_refl _),Qbb BW_2,Nat.mod_eq_of_lt (Nat.lt_of_le_of_lt (Nat.sub_le _ _) hlt)]
   have hc:=Qsm (lows BW (a-b) i) 0 i (by rw [hll];omega) (by rw [hll];simp [maxLen];omega);rw [hq]at hc;simp -implicitDefEqProofs only [go_sem,Nat.reduceAdd,Nat.reduceMul,Nat.reduceEqDiff,Nat.reduceLT,Nat.reduceLeDiff,reduceCtorEq,hA',wB,hm];refine Qbj _ _ _ _ _ _ _ _ _ hc ?_;simp -implicitDefEqProofs only [go_sem,Nat.reduceAdd,Nat.reduceEqDiff,Nat.reduceLT,reduceCtorEq,wB];refine Qcq (.inl rfl) ?_;simp -implicitDefEqProofs only [go_sem,Nat.reduceEqDiff,reduceCtorEq];refine Qa0 (θ:=[(1000000,1000000),(102,102)]) rfl ?_ ?_
   ·simp [Qah,lkp,ren1,ren0]
   ·simp [Qal,lkp,Box.renames]
attribute [local go_sem high] Q6s
theorem Q8f (n:Nat):Int.tdiv (n:Int) 64=((n/64:Nat):Int):=Qux n 64
theorem Q8g (n:Nat):Int.tmod (n:Int) 64=((n%64:Nat):Int):=Zdr n 64
theorem Q8h (a k:Nat) (ha:(digs BW a).length≤1000000000) (hk:k≤1000000000):Qag Tryz.prog 64 [dw (digs BW a),.int .i64 (k:Int)] (dw (digs BW (a*2^k))):=by
 refine Qae (tb:=[]) 56 [.tmp 4] [0,1,4,5,6,7,8,9,12,23,24,25,26,42] mixed Tryz.func64 rfl (by kernel_rfl) (by kernel_rfl) (by kernel_rfl) (by kernel_rfl) ?_;by_cases h0:a=0
 ·subst h0;have h1:(((0:Nat):Int)==0)=true:=rfl;rw [Nat.zero_mul,Qap];simp -implicitDefEqProofs only [go_sem,Nat.reduceAdd,Nat.reduceMul,Nat.reduceEqDiff,Nat.reduceLT,Nat.reduceLeDiff,reduceCtorEq,dw,List.map_nil,List.length_nil,h1]
 have hp:0<(digs BW a).length:=List.length_pos_iff.2 (mt (Qa1 BW_2).1 h0);have h1:(((digs BW a).length:Int)==0)=false:=by simp only [beq_eq_false_iff_ne,ne_eq];omega
 have hlt:a<BW^(digs BW a).length:=Qay BW_2 a;obtain⟨W,hW⟩: ∃W,W=k/64:=⟨_,rfl⟩;obtain⟨r,hr⟩: ∃r,r=k%64:=⟨_,rfl⟩;have hr64:r<64:=by rw [hr];exact Nat.mod_lt _ (by decide)
 have hkr:k=64*W+r:=by omega
 have d1:Int.tdiv (k:Int) 64=(W:Int):=by rw [Q8f,hW]
 have d2:Int.tmod (k:Int) 64=(r:Int):=by rw [Q8g,hr]
 have hWl:W≤1000000000:=by omega
 clear hW hr;generalize hN:(digs BW a).length=N at*;have q1:=wrapn (n:=W) (by omega);have q2:=Qcs (a:=N) (b:=W) (by omega);have q3:=Qa5 (a:=N+W) (by omega);have hn0:((0:Int)≤((N+W+1:Nat):Int))=True:=by simp only [eq_iff_iff,iff_true];omega
 have hn1:((8:Nat):Int)*((N+W+1:Nat):Int)≤281474976710656:=by omega
 have hn2:((N+W+1:Nat):Int)≤9223372036854775807:=by omega
 simp -implicitDefEqProofs only [go_sem,Nat.reduceAdd,Nat.reduceMul,Nat.reduceEqDiff,Nat.reduceLT,Nat.reduceLeDiff,reduceCtorEq,Int.reduceEq,dw,List.length_map,hN,h1,d1,d2,q1,q2,q3,hn0,hn1,hn2,Int.toNat_natCast];have hrep:List.replicate (N+W+1) (PV.int .u64 0)=(lows BW (shlV a W r 0) (N+W+1)).map fW:=by rw [Qv6,Qdg];simp
 rw [hrep];have k1:(((r:Nat):Int)<0)=False:=by simp only [eq_iff_iff,iff_false];omega
 have k2:min r 64=r:=by omega
 have k3:IntKind.i64.wrap (64-((r:Nat):Int))=((64-r:Nat):Int):=by rw [Qaj (by omega) (by omega)];omega
 have k4:((((64-r:Nat):Nat):Int)<0)=False:=by simp only [eq_iff_iff,iff_false];omega
 have k5:min (64-r) 64=64-r:=by omega
 refine Qba mixed (fun i:{i:Nat // i≤N}=>St.of [(4,.nilS),(5,.int .i64 (W:Int)),(6,.int .i64 (r:Int)),(7,.bs 405 1 0 (N+W+1)),(23,dw (digs BW a)),(24,.int .i64 (N:Int)),(25,.int .i64 (i.1:Int))]
  [(405,{els:=(lows BW (shlV a W r i.1) (N+W+1)).map fW,esz:=1,ety:=66,fro:=0,live:=true,arr:=true})]) (fun i=>N-i.1) ⟨0,Nat.zero_le _⟩ ?_ ?_
 ·refine Qa0 (θ:=[(405,405)]) rfl ?_ ?_
  ·simp [Qah,lkp,ren1,ren0,dw]
  ·simp [Qal,lkp,Box.renames]
 ·rintro⟨i,hi⟩;have hll:=Qaf (B:=BW) (shlV a W r i) (N+W+1);by_cases hA:i<N
  ·have hA':((i:Int)<(N:Int))=True:=by simp;omega
   have hi0:(0≤(i:Int))=True:=by simp
   have hga:=Qam BW_2 (show i<(digs BW a).length by omega);have hwk:=Qa5 (a:=i) (by omega);have w1:=Qcs (a:=i) (b:=W) (by omega);have w2:=Qa5 (a:=i+W) (by omega);have b1:(0≤((i+W:Nat):Int))=True:=by simp only [eq_iff_iff,iff_true];omega
   have b2:(((i+W:Nat):Int)<((N+W+1:Nat):Int))=True:=by simp only [eq_iff_iff,iff_true];omega
   have b3:(0≤((i+W+1:Nat):Int))=True:=by simp only [eq_iff_iff,iff_true];omega
   have b4:(((i+W+1:Nat):Int)<((N+W+1:Nat):Int))=True:=by simp only [eq_iff_iff,iff_true];omega
   have hgo:((lows BW (shlV a W r i) (N+W+1)).map fW)[i+W]? =some (PV.int .u64 ((shlC a r i:Nat):Int)):=by
    rw [List.getElem?_map,Qbh _ _ _ (by omega),Qtr a W r i (by omega)];rfl
   have hc2:shlC a r i%18446744073709551616=shlC a r i:=Nat.mod_eq_of_lt (Nat.lt_of_lt_of_le (Qji a r i) (show 2^r≤18446744073709551616 from Nat.pow_le_pow_right (n:=2) (by decide) (show r≤64 by omega)));by_cases hr0:r=0
   ·subst hr0;have g0:((0:Int)<(((0:Nat):Nat):Int))=False:=by simp
    have hset:=Q12 a W i (N+W+1) (by omega);have hc0:shlC a 0 i=0:=by have:=Qji a 0 i;simp at this;exact this
    have hval:(0 ||| a/BW^i%BW*2^0%18446744073709551616)=a/BW^i%BW:=by
     rw [Nat.zero_or,Nat.pow_zero,Nat.mul_one,show(18446744073709551616:Nat)=BW from rfl,Nat.mod_mod]
    simp -implicitDefEqProofs only [go_sem,Nat.reduceAdd,Nat.reduceMul,Nat.reduceEqDiff,Nat.reduceLT,Nat.reduceLeDiff,reduceIte,reduceCtorEq,dw,hA',hi0,Qb3,hga,Int.toNat_natCast,w1,b1,b2,hgo,k1,k2,g0,hc0,Qjw,hwk,Nat.mod_mod,Nat.zero_mod];refine⟨Qad _ _ (by kernel_rfl),⟨i+1,hA⟩,by simp only;omega,Qa0 (θ:=[(405,405)]) rfl ?_ ?_⟩
    ·simp [Qah,lkp,ren1,ren0,dw]
    ·rw [hval,Qb9,hset];simp [Qal,lkp,Box.renames]
   ·have g0:((0:Int)<((r:Nat):Int))=True:=by simp only [eq_iff_iff,iff_true];omega
    have hset:=Q13 a W r i (N+W+1) (by omega) (by omega);obtain⟨e,hgo2⟩: ∃e:Nat,(((lows BW (shlV a W r i) (N+W+1)).map fW).set (i+W) (.int .u64 ((shlC a r i ||| (a/BW^i%BW*2^r%18446744073709551616):Nat):Int)))[i+W+1]? =some (PV.int .u64 (e:Int)):=by
     rw [Qb9,List.getElem?_map];refine⟨_,by rw [List.getElem?_set_ne (by omega),Qbh _ _ _ (by omega)];rfl⟩
    simp -implicitDefEqProofs only [go_sem,Nat.reduceAdd,Nat.reduceMul,Nat.reduceEqDiff,Nat.reduceLT,Nat.reduceLeDiff,reduceIte,reduceCtorEq,dw,hA',hi0,Qb3,hga,Int.toNat_natCast,w1,w2,b1,b2,b3,b4,hgo,k1,k2,k3,k4,k5,g0,hc2,Qjw,Qgw,hwk,hgo2,Nat.mod_mod];refine⟨Qad _ _ (by kernel_rfl),⟨i+1,hA⟩,by simp only;omega,Qa0 (θ:=[(405,405)]) rfl ?_ ?_⟩
    ·simp [Qah,lkp,ren1,ren0,dw]
    ·rw [Qb9,Qb9,hset];simp [Qal,lkp,Box.renames]
  ·have hA':((i:Int)<(N:Int))=False:=by simp;omega
   obtain rfl:i=N:=by omega
   have hV:=Qv7 a W r i hlt;rw [←hkr]at hV;rw [hV]at hll;have htk:((lows BW (a*2^k) (i+W+1)).map fW).take (i+W+1)=(lows BW (a*2^k) (i+W+1)).map fW:=List.take_of_length_le (by simp [hll]);simp -implicitDefEqProofs only [go_sem,Nat.reduceAdd,Nat.reduceMul,Nat.reduceEqDiff,Nat.reduceLT,Nat.reduceLeDiff,reduceIte,reduceCtorEq,hA',hV,List.length_map,hll,htk];refine Qab _ _ _ _ _ _ _ _ _ (Qcc (lows BW (a*2^k) (i+W+1)) (by rw [hll];simp [maxLen];omega)) ?_;simp -implicitDefEqProofs only [go_sem,Nat.reduceAdd,Nat.reduceEqDiff,Nat.reduceLT,reduceCtorEq,dw];rw [Qbb BW_2,Nat.mod_eq_of_lt];rw [Nat.add_assoc,Nat.pow_add];have h2:2^k<BW^(W+1):=by
    rw [show BW=2^64 from rfl,←Nat.pow_mul];exact Nat.pow_lt_pow_right (by decide) (by omega)
   exact Nat.lt_of_lt_of_le (Nat.mul_lt_mul_of_pos_right hlt (Nat.pow_pos (by decide))) (Nat.mul_le_mul_left _ (Nat.le_of_lt h2))
end Go.Proofs.YtapjnenbofmliaaGreatDoor

namespace Go.Proofs.YtapjnenbofmliaaGreatDoor
open Go.Vl Go.RowKit Go.Dg
theorem Zfb (l:List Nat):((l.map fW).all fun e=>e.cells.length==1&&e.cells.all PV.okCell)=true:=by
 rw [List.all_map,List.all_eq_true];intro _ _;rfl
theorem Q6n (l:List Nat) (hl:0<l.length) (hl2:l.length≤1000000000):Qdx Tryz.prog 116 [dw l] [] (.bs 302 1 0 l.length) [(302,wB l)]:=by
 have h0:l.isEmpty=false:=by cases l with|nil=>simp at hl|cons=>rfl
 have h1:(l.length*8≤140737488355328)=True:=by simp only [eq_iff_iff,iff_true];omega
 have h2:(l.length≤maxLen)=True:=by simp only [eq_iff_iff,iff_true];unfold maxLen;omega
 refine Qfn (tb:=[]) 8 [.tmp 2] [0,2,4] mixed Tryz.func116 rfl (by kernel_rfl) (by kernel_rfl) (by kernel_rfl) (by kernel_rfl) (by rfl) ?_;simp -implicitDefEqProofs only [go_sem,seval,dw,h0,List.length_map,h1,h2,Zfb];refine Qcq (.inl rfl) ?_;simp -implicitDefEqProofs only [go_sem,seval];refine Qa0 (θ:=[(302,302)]) rfl ?_ ?_
 ·simp [Qah,lkp,ren1,ren0]
 ·simp [Qal,lkp,Box.renames]
attribute [local go_sem high] Q6s
theorem Zdt (a k:Nat) (ha:(digs BW a).length≤1000000000) (hk:k≤1000000000):Qag Tryz.prog 104 [dw (digs BW a),.int .i64 (k:Int)] (dw (digs BW (a/2^k))):=by
 have hlt:a<BW^(digs BW a).length:=Qay BW_2 a;obtain⟨W,hW⟩: ∃W,W=k/64:=⟨_,rfl⟩;obtain⟨r,hr⟩: ∃r,r=k%64:=⟨_,rfl⟩;have hr64:r<64:=by rw [hr];exact Nat.mod_lt _ (by decide)
 have hkr:k=64*W+r:=by omega
 have d1:Int.tdiv (k:Int) 64=(W:Int):=by rw [Q8f,hW]
 have d2:Int.tmod (k:Int) 64=(r:Int):=by rw [Q8g,hr]
 have hWl:W≤1000000000:=by omega
 clear hW hr;have q1:=wrapn (n:=W) (by omega);have hpk:2^k=BW^W*2^r:=by rw [hkr,Nat.pow_add,Nat.pow_mul]
 have hq:a/2^k=a/BW^W/2^r:=by rw [hpk,Nat.div_div_eq_div_mul]

 refine Qae (tb:=[(403,[],[(302,403)])]) 59 [.tmp 4] [0,1,4,5,6,7,8,16,22,24,25,26,39] mixed Tryz.func104 rfl (by kernel_rfl) (by kernel_rfl) (by kernel_rfl) (by kernel_rfl) ?_;by_cases hN:(digs BW a).length≤W
 ·have g1:(((digs BW a).length:Int)≤(W:Int))=True:=by simp only [eq_iff_iff,iff_true];omega
  have e:digs BW (a/2^k)=[]:=by
   rw [hq,Qa4 BW_2 hN,Nat.zero_div,Qap]
  rw [e];simp -implicitDefEqProofs only [go_sem,seval,dw,List.length_map,d1,d2,q1,g1,List.map_nil]
 have g1:(((digs BW a).length:Int)≤(W:Int))=False:=by simp only [eq_iff_iff,iff_false];omega
 have hA0: ∀j,a/BW^(W+j)=a/BW^W/BW^j:=fun j=>by rw [Nat.pow_add,Nat.div_div_eq_div_mul]
 have hn0:(0≤(W:Int))=True:=by simp
 have hn1:((W:Int)≤((digs BW a).length:Int))=True:=by simp only [eq_iff_iff,iff_true];omega
 have hsl:(((digs BW a).map fW).take (digs BW a).length).drop W=(lows BW (a/BW^W) ((digs BW a).length-W)).map fW:=by
  rw [List.take_of_length_le (by simp),←List.map_drop];congr 1;apply List.ext_getElem?;intro j;rw [List.getElem?_drop];by_cases hj:W+j<(digs BW a).length
  ·rw [Qam BW_2 hj,Qbh _ _ _ (by omega),hA0]
  ·rw [List.getElem?_eq_none (by omega),List.getElem?_eq_none (by rw [Qaf];omega)]
 have hcell:=Q8i (digs BW a);have hAlt:a/BW^W<BW^((digs BW a).length-W):=by
  refine Nat.div_lt_of_lt_mul ?_;rw [←Nat.pow_add,show W+((digs BW a).length-W)=(digs BW a).length by omega];exact hlt
 have hll:=Qaf (B:=BW) (a/BW^W) ((digs BW a).length-W);simp -implicitDefEqProofs only [go_sem,seval,dw,List.length_map,d1,d2,q1,g1,hn0,hn1,Int.toNat_natCast,hsl,hcell];refine Qbj _ _ _ _ _ _ _ _ _ (Q6n (lows BW (a/BW^W) ((digs BW a).length-W)) (by rw [hll];omega) (by rw [hll];omega)) ?_;rw [hll];by_cases hr0:r=0
 ·subst hr0;have g0:((0:Int)<(((0:Nat):Nat):Int))=False:=by simp
  have htk:((lows BW (a/BW^W) ((digs BW a).length-W)).map fW).take ((digs BW a).length-W)=(lows BW (a/BW^W) ((digs BW a).length-W)).map fW:=List.take_of_length_le (by simp [hll]);simp -implicitDefEqProofs only [go_sem,seval,wB,g0,List.length_map,hll,htk];refine Qab _ _ _ _ _ _ _ _ _ (Qcc (lows BW (a/BW^W) ((digs BW a).length-W)) (by rw [hll];simp [maxLen];omega)) ?_;simp -implicitDefEqProofs only [go_sem,seval,dw];rw [Qbb BW_2,Nat.mod_eq_of_lt hAlt,hq,Nat.pow_zero,Nat.div_one]
 ·have g0:((0:Int)<((r:Nat):Int))=True:=by simp only [eq_iff_iff,iff_true];omega
  simp -implicitDefEqProofs only [go_sem,seval,wB,g0];have hdig:=fun(j:Nat) (h:W+j<(digs BW a).length)=>Qam (n:=a) BW_2 h;generalize hn:(digs BW a).length-W=n at*;have hNn:(digs BW a).length=W+n:=by omega
  have k1:(((r:Nat):Int)<0)=False:=by simp only [eq_iff_iff,iff_false];omega
  have k2:min r 64=r:=by omega
  have k3:IntKind.i64.wrap (64-((r:Nat):Int))=((64-r:Nat):Int):=by rw [Qaj (by omega) (by omega)];omega
  have k4:((((64-r:Nat):Nat):Int)<0)=False:=by simp only [eq_iff_iff,iff_false];omega
  have k5:min (64-r) 64=64-r:=by omega
  rw [hq];generalize hAA:a/BW^W=A at*;refine Qba mixed (fun i:{i:Nat // i≤n}=>St.of [(0,dw (digs BW a)),(4,.nilS),(5,.int .i64 (W:Int)),(6,.int .i64 (r:Int)),(7,.bs 403 1 0 n),(24,.int .i64 (n:Int)),(25,.int .i64 (i.1:Int))]
   [(403,wB (mix BW (A/2^r) A n i.1))]) (fun i=>n-i.1) ⟨0,Nat.zero_le _⟩ ?_ ?_
  ·refine Qa0 (θ:=[(403,403)]) rfl ?_ ?_
   ·simp [Qah,lkp,ren1,ren0,dw]
   ·simp [Qal,lkp,Box.renames,Qgl]
  ·rintro⟨i,hi⟩;have hml:=Qa9 (B:=BW) (A/2^r) A n i;by_cases hA:i<n
   ·have hA':((i:Int)<(n:Int))=True:=by simp;omega
    have hi0:(0≤(i:Int))=True:=by simp
    have hwk:=Qa5 (a:=i) (by omega);have hgo:((mix BW (A/2^r) A n i).map fW)[i]? =some (PV.int .u64 ((A/BW^i%BW:Nat):Int)):=by
     rw [List.getElem?_map,Qci _ _ _ _ _ hA,if_neg (Nat.lt_irrefl _)];rfl
    by_cases hB:i+1<n
    ·have hB':(((i+1:Nat):Int)<(n:Int))=True:=by simp only [eq_iff_iff,iff_true];omega
     have hsd:=Qwa A i r (by omega) hr64;have hset:=Qdi (B:=BW) (V:=A/2^r) (W:=A/2^r) (S:=A) (n:=n) (m:=i) (by decide) hA rfl rfl;have hga:(digs BW a)[W+i+1]? =some (A/BW^(i+1)%BW):=by
      have h:=hdig (i+1) (by omega);rw [hA0 (i+1)]at h;exact h
     have w1:=Qcs (a:=W) (b:=i) (by omega);have w2:=Qa5 (a:=W+i) (by omega);have b1:(0≤((W+i+1:Nat):Int))=True:=by simp only [eq_iff_iff,iff_true];omega
     have hgo2:(((mix BW (A/2^r) A n i).map fW).set i (.int .u64 ((A/BW^i%BW/2^r:Nat):Int)))[i]? =some (PV.int .u64 ((A/BW^i%BW/2^r:Nat):Int)):=by
      rw [List.getElem?_set_self (by rw [List.length_map,hml];exact hA)]
     have e1:A/BW^i%BW/2^r%18446744073709551616=A/BW^i%BW/2^r:=Nat.mod_eq_of_lt (Nat.lt_of_le_of_lt (Nat.div_le_self _ _) (Nat.mod_lt _ (by decide)));simp -implicitDefEqProofs only [go_sem,seval,wB,dw,hA',hi0,Int.toNat_natCast,hgo,k1,k2,Qgw,hwk,hB',hgo2,w1,w2,b1,Qb3,hga,k3,k4,k5,Qjw,Nat.mod_mod,e1,List.set_set];refine⟨Qad _ _ (by kernel_rfl),⟨i+1,hA⟩,by simp only;omega,Qa0 (θ:=[(403,403)]) rfl ?_ ?_⟩
     ·simp [Qah,lkp,ren1,ren0,dw]
     ·simp only [WB]at hsd;rw [Qb9,hsd,hset];simp [Qal,lkp,Box.renames]
    ·have hB':(((i+1:Nat):Int)<(n:Int))=False:=by simp only [eq_iff_iff,iff_false];omega
     have hsd:=Q8s A i r (by rw [show i+1=n by omega];exact Nat.div_eq_of_lt hAlt);have hset:=Qdi (B:=BW) (V:=A/2^r) (W:=A/2^r) (S:=A) (n:=n) (m:=i) (by decide) hA rfl rfl;simp -implicitDefEqProofs only [go_sem,seval,wB,dw,hA',hi0,Int.toNat_natCast,hgo,k1,k2,Qgw,hwk,hB'];refine⟨⟨i+1,hA⟩,by simp only;omega,Qa0 (θ:=[(403,403)]) rfl ?_ ?_⟩
     ·simp [Qah,lkp,ren1,ren0,dw]
     ·simp only [WB]at hsd;rw [Qb9,hsd,hset];simp [Qal,lkp,Box.renames]
   ·have hA':((i:Int)<(n:Int))=False:=by simp;omega
    obtain rfl:i=n:=by omega
    have hm:mix BW (A/2^r) A i i=lows BW (A/2^r) i:=Qmd _ _ _ _;have hl2:=Qaf (B:=BW) (A/2^r) i;have htk:((lows BW (A/2^r) i).map fW).take i=(lows BW (A/2^r) i).map fW:=List.take_of_length_le (by simp [hl2]);simp -implicitDefEqProofs only [go_sem,seval,wB,hA',hm,List.length_map,hl2,htk];refine Qab _ _ _ _ _ _ _ _ _ (Qcc (lows BW (A/2^r) i) (by rw [hl2];simp [maxLen];omega)) ?_;simp -implicitDefEqProofs only [go_sem,seval,dw];rw [Qbb BW_2,Nat.mod_eq_of_lt (Nat.lt_of_le_of_lt (Nat.div_le_self _ _) hAlt)]
end Go.Proofs.YtapjnenbofmliaaGreatDoor

namespace Go.Dg
theorem Qts {α:Type} (E L:List α) (i n:Nat) (z:α) (hL:L.length≤n) (hi:i+n≤E.length):
  (E.take i++List.replicate n z++E.drop (i+n)).take i++L++(E.take i++List.replicate n z++E.drop (i+n)).drop (i+L.length)=E.take i++(L++List.replicate (n-L.length) z)++E.drop (i+n):=by
 have hl:(E.take i).length=i:=by simp;omega
 rw [List.append_assoc (E.take i) (List.replicate n z)];generalize hT:E.take i=T at*;generalize E.drop (i+n)=D;have e1:(T++(List.replicate n z++D)).take i=T:=by rw [←hl];exact List.take_left
 have e2:(T++(List.replicate n z++D)).drop (i+L.length)=List.replicate (n-L.length) z++D:=by
  rw [←List.drop_drop,←hl,List.drop_left,List.drop_append];simp only [List.drop_replicate,List.length_replicate];rw [show L.length-n=0 by omega,List.drop_zero]
 rw [e1,e2];simp only [List.append_assoc]
theorem Zcb {b:Nat} (hb:b≠0):
  (digs WB (b*2^(64-blen (b/WB^((digs WB b).length-1))))).length=(digs WB b).length:=by
 have hp:0<(digs WB b).length:=List.length_pos_iff.2 (mt (Qa1 (by decide)).1 hb);have ht:=Qcv (B:=WB) (by decide) hb;obtain⟨K,hK⟩: ∃K,(digs WB b).length=K+1:=⟨(digs WB b).length-1,by omega⟩;rw [hK,Nat.add_sub_cancel]at ht ⊢;have h64:=Qcf 64 _ ht.2;have hlt:b/WB^K<2^blen (b/WB^K):=by
  rcases Nat.lt_or_ge (b/WB^K) (2^blen (b/WB^K))with h|h
  ·exact h
  ·have:=Qe2 _ _ h;omega
 apply Nat.le_antisymm
 ·refine(Qak (by decide) _ _).2 ?_;have h1:b<2^blen (b/WB^K)*WB^K:=(Nat.div_lt_iff_lt_mul (WBp K)).1 hlt;have h2:=Nat.mul_lt_mul_of_pos_right h1 (show 0<2^(64-blen (b/WB^K))from Nat.pow_pos (by decide));rw [Nat.mul_right_comm,←Nat.pow_add,show blen (b/WB^K)+(64-blen (b/WB^K))=64 by omega]at h2;rw [Nat.pow_succ,Nat.mul_comm (WB^K)];exact h2
 ·have h3:K<(digs WB b).length:=by omega
  have h4:=(Qbt (by decide) b K).1 h3;refine(Qbt (by decide) _ K).2 ?_;have h5:b/WB^K≤b*2^(64-blen (b/WB^K))/WB^K:=Nat.div_le_div_right (Nat.le_mul_of_pos_right b (Nat.pow_pos (by decide)));exact Nat.ne_of_gt (Nat.lt_of_lt_of_le (Nat.pos_of_ne_zero h4) h5)
end Go.Dg

namespace Go.Proofs.YtapjnenbofmliaaGreatDoor
open Go.Vl Go.RowKit Go.Dg
theorem Za3 (a b:Nat) (h:a<b) (ha:(digs BW a).length≤100000000) (hbl:(digs BW b).length≤100000000):Qag Tryz.prog 86 [dw (digs BW a),dw (digs BW b)] (.tup [dw (digs BW (a/b)),dw (digs BW (a%b))]):=by
 have hc:=Qcn a b (by omega) (by omega);have g1:(cmpW a b<0)=True:=by simp only [eq_iff_iff,iff_true];exact(Qc8 a b).2 h
 rw [Nat.div_eq_of_lt h,Nat.mod_eq_of_lt h,Qap];refine Qae (tb:=[]) 145 [.tmp 4,.tmp 5] [0,1,4,5,6,7,8,9,10,11,12,13,14,15,16,17,21,25,68,82,121] mixed Tryz.func86 rfl (by kernel_rfl) (by kernel_rfl) (by kernel_rfl) (by kernel_rfl) ?_;repeat (first|(simp -implicitDefEqProofs only [go_sem,seval,dw,g1,List.map_nil])|((with_reducible refine Qaa hc ?_ ?_ ?_);rfl;rfl))
theorem Q6o (a b:Nat) (h:b≤a) (hb:0<b) (h1:b<18446744073709551616) (ha:(digs BW a).length≤100000000):Qag Tryz.prog 86 [dw (digs BW a),dw (digs BW b)] (.tup [dw (digs BW (a/b)),dw (digs BW (a%b))]):=by
 have hd:digs BW b=[b]:=by rw [Qd2 BW_2 (by omega),Nat.mod_eq_of_lt h1,Nat.div_eq_of_lt h1,Qap]
 have hc:=Qcn a b (by omega) (by rw [hd];simp);have g1:(cmpW a b<0)=False:=by simp only [eq_iff_iff,iff_false];rw [Qc8];omega
 have hs:=Qmr a b hb h1 (by omega);have hr:a%b<BW:=Nat.lt_trans (Nat.mod_lt _ hb) h1;have ht:=Qcc [a%b] (by simp [maxLen]);rw [Qd5 hr]at ht;rw [hd]at hc ⊢;have z1:(((0+1:Nat):Int)==1)=true:=rfl;have z2:(((1:Nat):Int)==1)=true:=rfl;refine Qae (tb:=[]) 145 [.tmp 4,.tmp 5] [0,1,4,5,6,7,8,9,10,11,12,13,14,15,16,17,21,25,68,82,121] mixed Tryz.func86 rfl (by kernel_rfl) (by kernel_rfl) (by kernel_rfl) (by kernel_rfl) ?_;repeat (first|(simp -implicitDefEqProofs only [go_sem,seval,dw,g1,List.map_nil,List.map_cons,z1])|((with_reducible refine Qaa hc ?_ ?_ ?_);rfl;rfl)|((with_reducible refine Qaa hs ?_ ?_ ?_);rfl;rfl)|((with_reducible refine Qaa ht ?_ ?_ ?_);rfl;rfl))
end Go.Proofs.YtapjnenbofmliaaGreatDoor
