/-
  HW29, Dp, HW30, HW31, HW32, HA11, HA12, HA13, Dq, HP1, HP2, Dr, HN1, Bn, HN2, Ds, HP3, US4, UX, UX1, UXS (merged for the claim).
-/
import Derived.Test.YtciddhkfbgkejaaGreatDoorHW28
import Derived.Test.YtciddhkfbgkejaaGreatDoorHW1
import Derived.Test.YtciddhkfbgkejaaGreatDoorHW22
import Derived.Test.YtciddhkfbgkejaaGreatDoorHA2
set_option linter.unusedSimpArgs false
set_option linter.unusedVariables false
namespace Go.Proofs.YtciddhkfbgkejaaGreatDoor
open Go.Vl Go.RowKit Go.Dg
def Zes (x y:Int):PV:= .tup [wPV (outN (x/y)),wPV (outN (x%y)),.int .i64 0]
theorem Zob (xn:Bool) (a b:Nat):nqn xn a b≤a+1:=by
 have:=Nat.div_le_self a b
 unfold nqn;split<;>omega
theorem Zoc (xn:Bool) (a b:Nat) (hb:0<b):nrn xn a b≤b:=by
 have:=Nat.mod_lt a hb
 unfold nrn;split<;>omega
theorem Zk2 (a:Nat):(digs BW (a+1)).length≤(digs BW a).length+1:=by
 refine(Qan BW_2 _ _).2 ?_
 have h:=Qaw BW_2 a
 rw [Nat.pow_succ]
 generalize BW^(digs BW a).length=M at*
 simp only [BW]
 omega
theorem Zet {l:List UInt8} (h:l≠ []):(l== [])=false:=by cases l with|nil=>exact absurd rfl h|cons=>rfl
theorem Zod (an bn:Bool) (a b:ByteArray) (h1:Qbx an a.data.toList=true) (h2:Qbx bn b.data.toList=true) (h0:b.data.toList≠ []) (ha:a.size≤100000) (hb:b.size≤100000):
  Qag Tryz.prog 112 [.agg [.bool an,.str a],.agg [.bool bn,.str b]] (Zes (wnum an a) (wnum bn b)):=by
 have hv:=Qse an bn a b
 rw [h1,h2,Bool.true_and]at hv
 have hL1:=Qgo a ha
 have hL2:=Qgo b hb
 have hoa:=Qp1 an a h1 (by omega)
 have hob:=Qp1 bn b h2 (by omega)
 have hbp:0<bnum b.data.toList:=by
  cases hl:b.data.toList with
  |nil=>exact absurd hl h0
  |cons c r=>
   rw [hl]at h2
   simp only [Qbx,Bool.and_eq_true]at h2
   have hc:c.toNat≠0:=fun e=>by
    have:c≠0:=by simpa using h2.2
    exact this (UInt8.toNat_inj.1 (by simpa using e))
   rw [Qsb]
   have hp:0<c.toNat*256^r.length:=Nat.mul_pos (Nat.pos_of_ne_zero hc) (Nat.pow_pos (by decide))
   omega
 have he:=Zet h0
 have hd:=Zn8 an bn (bnum a.data.toList) (bnum b.data.toList) hbp (by omega) (by omega)
 obtain⟨d1,d2⟩:=Zn7 an bn (bnum a.data.toList) (bnum b.data.toList) hbp
 have hq:=Qjw (!(an==bn)) (nqn an (bnum a.data.toList) (bnum b.data.toList)) (Nat.le_trans (Qmn (Zob _ _ _)) (Nat.le_trans (Zk2 _) (by omega)))
 have hr:=Qjw false (nrn an (bnum a.data.toList) (bnum b.data.toList)) (Nat.le_trans (Qmn (Zoc _ _ _ hbp)) (by omega))
 have e2:sv false (nrn an (bnum a.data.toList) (bnum b.data.toList))=((nrn an (bnum a.data.toList) (bnum b.data.toList):Nat):Int):=rfl
 rw [d1,Qhb]at hq
 rw [e2,d2,Qhb]at hr
 unfold Zes wnum
 refine Qac (tb:=[]) 40 [.cell 4 71,.cell 5 71,.tmp 6] [0,1,2,3,4,5,6,7,8,12,17] mixed Tryz.func112 rfl (by kernel_rfl) (by kernel_rfl) (by kernel_rfl) (by kernel_rfl) ?_
 repeat (first|(simp -implicitDefEqProofs only [go_sem,Nat.reduceAdd,Nat.reduceMul,Nat.reduceEqDiff,Nat.reduceLT,Nat.reduceLeDiff,reduceCtorEq,he,nP,dw,wPV])|((with_reducible refine Qab (hv) ?_ ?_ ?_);(with_reducible rfl);rfl)|((with_reducible refine Qab (hoa) ?_ ?_ ?_);(with_reducible rfl);rfl)|((with_reducible refine Qab (hob) ?_ ?_ ?_);(with_reducible rfl);rfl)|((with_reducible refine Qab (hd) ?_ ?_ ?_);(with_reducible rfl);rfl)|((with_reducible refine Qab (hq) ?_ ?_ ?_);(with_reducible rfl);rfl)|((with_reducible refine Qab (hr) ?_ ?_ ?_);(with_reducible rfl);rfl)|(with_reducible exact Qaa _ _ (by kernel_rfl))|(with_reducible refine And.intro (Qaa _ _ (by kernel_rfl)) ?_))
end Go.Proofs.YtciddhkfbgkejaaGreatDoor

namespace Go.Dg
theorem p256 (k:Nat):(256:Nat)^k=2^(8*k):=by rw [show(256:Nat)=2^8 from rfl,←Nat.pow_mul]
theorem Ql0 {m B k:Nat} (h:m<2^B) (hk:B≤8*k):m<256^k:=by
 rw [p256];exact Nat.lt_of_lt_of_le h (Nat.pow_le_pow_right (by decide) hk)
theorem Qjl {m B C:Nat} (h:m<2^B) (hk:B≤C):m<2^C:=Nat.lt_of_lt_of_le h (Nat.pow_le_pow_right (by decide) hk)
theorem Qa5 {m B:Nat} (h:m<2^B) (hk:B≤65536):m<2^65536:=Qjl (C:=65536) h hk
theorem Qbo {m B:Nat} (h:m<2^B) (hk:B≤7000000):m<2^7000000:=Qjl (C:=7000000) h hk
theorem Q80 {m B:Nat} (h:m<2^B) (hk:B≤8000000):m<2^8000000:=Qjl (C:=8000000) h hk
end Go.Dg

namespace Go.Proofs.YtciddhkfbgkejaaGreatDoor
open Go.Vl Go.RowKit Go.Dg
end Go.Proofs.YtciddhkfbgkejaaGreatDoor

namespace Go.Proofs.YtciddhkfbgkejaaGreatDoor
open Go.Vl Go.RowKit Go.Dg
def big (x y:Int):Bool:=decide (65536<blen x.natAbs)||decide (65536<blen y.natAbs)
theorem Zoe (n:Bool) (m:Nat):(sv n m).natAbs=m:=by cases n<;>simp [sv]
end Go.Proofs.YtciddhkfbgkejaaGreatDoor

namespace Go.Proofs.YtciddhkfbgkejaaGreatDoor
open Go.Vl Go.RowKit Go.Dg
theorem Qp6 (n:Int):(magL n.natAbs=[])↔n=0:=by
 have h:=Qdf n.natAbs
 constructor
 ·intro e
  rw [e]at h
  have:=(Qbg (B:=256) (by decide)).1 (List.length_eq_zero_iff.1 h.symm)
  omega
 ·rintro rfl;simp [magL,Qax]
end Go.Proofs.YtciddhkfbgkejaaGreatDoor

namespace Go.Proofs.YtciddhkfbgkejaaGreatDoor
open Go.Vl Go.RowKit Go.Dg
theorem Zg4 (r d:Nat) (hd:d<E9):Qdb (d::digs E9 r)=digs E9 (r*E9+d):=by
 rw [Qo0 E9_2 (d::digs E9 r) (by
  intro x hx
  rcases List.mem_cons.1 hx with rfl|hx
  ·exact hd
  ·exact Qlu E9_2 hx)]
 congr 1
 simp only [val,Qoy E9_2]
 rw [Nat.mul_comm,Nat.add_comm]
theorem Q9d (V N i:Nat) (hi:i<N) (h:V/E9^i%E9=0):mix E9 0 V N (i+1)=mix E9 0 V N i:=by
 have h1:=Qib (B:=E9) (V:=0) (S:=V) (N:=N) (i:=i) (d:=0) hi h
 rw [←h1]
 apply List.ext_getElem?
 intro j
 rw [List.getElem?_set]
 by_cases e:i=j
 ·subst e
  simp only [if_true]
  rw [if_pos (by rw [Qbe];exact hi),Qcq _ _ _ _ _ hi,if_pos (by omega)]
  simp
 ·simp [e]
theorem app1 (d:Nat) (D:List PV) (bx:Bx) (hb:bx 606=none) (h4:bx 604=some {els:=[.int .i64 (d:Int)],esz:=1,ety:=3,fro:=0,live:=true,arr:=true}) (hD:D.length≤1000000000) (hok:D.all (fun e=>e.cells.length==1&&e.cells.all PV.okCell)=true):
  Qa3 Tryz.prog [] 606 (.call ⟨.builtin .append, #[.tmp 26,.tmp 27], #[27,27]⟩) [.bs 604 1 0 1,.slc D] bx=
   some (.done (.bs 606 1 0 (1+D.length)) [.kill 604,.new 606 {els:= .int .i64 (d:Int)::D,esz:=1,ety:=3,fro:=0,live:=true,arr:=true}],[(606,true),(604,true)]):=by
 have c1:((1+D.length)*8≤140737488355328)=True:=by simp only [eq_iff_iff,iff_true];omega
 have c2:(1+D.length≤maxLen)=True:=by simp only [eq_iff_iff,iff_true];unfold maxLen;omega
 skip
 simp -implicitDefEqProofs only [go_sem,Nat.reduceAdd,Nat.reduceLT,hok,c1,c2,hb,h4]
theorem Zg5 {P:Program} (id:Nat) (bx:Bx) (fo:Operand) (as0:Array Operand) (ts:Array TypeId) (f b esz len:Nat) (B:Box) (xs:List PV) (hB:bx b=some B) (ha:B.arr=true) (he:B.esz=esz) (hx:B.els=xs) (hl:len=xs.length):
  Qa3 P [] id (.call ⟨.value fo,as0,ts⟩) [.fn f [] [],.bs b esz 0 len] bx=some (.call f [.slc xs] [.fro b len],[(b,false),(b,false)]):=by
 subst hx;subst hl;subst he
 rw [Q8f]
 have e1:(true&&B.soft.esz==B.esz&&decide (B.els.length≤B.soft.els.length))=true:=by simp [Box.soft,ha]
 have hs:B.soft.arr=true:=by simp [Box.soft,ha]
 have e2:(List.drop 0 B.soft.els).take B.els.length=B.els:=by rw [List.drop_zero];exact List.take_of_length_le (Nat.le_refl _)
 have h0:esc0 (.bs b B.esz 0 B.els.length) bx=some ((.slc B.els,[.fro b B.els.length]),[(b,false),(b,false)]):=by
  simp only [esc0,escS,M.bind,M.soft,hB,hs,M.ok,Nat.zero_add,e1,if_true,M.pure,List.nil_append,List.append_nil,e2,List.cons_append]
 have h1:Qfx [.bs b B.esz 0 B.els.length] bx=some (([.slc B.els],[.fro b B.els.length]),[(b,false),(b,false)]):=by
  simp only [Qfx,esc1,escC,M.bind,h0,M.pure,List.nil_append,List.append_nil]
 simp only [M.bind,Qfj,M.pure,h1,List.nil_append,List.append_nil]
set_option maxHeartbeats 1000000 in
theorem Q1r (a b:Nat) (hb:0<b) (ha:(digs E9 a).length≤10000000) (hbl:(digs E9 b).length≤10000000):Qag Tryz.prog 154 [di (digs E9 a),di (digs E9 b)] (.tup [di (digs E9 (a/b)),di (digs E9 (a%b))]):=by
 refine Qac (tb:=[]) 63 [.tmp 4,.tmp 5] [0,1,4,5,6,7,8,9,10,11,19,33,36,47] mixed Tryz.func154 rfl (by kernel_rfl) (by kernel_rfl) (by kernel_rfl) (by kernel_rfl) ?_
 have hn0:((0:Int)≤((digs E9 a).length:Int))=True:=by simp
 have hn1:((8:Nat):Int)*((digs E9 a).length:Int)≤281474976710656:=by omega
 have hn2:((digs E9 a).length:Int)≤9223372036854775807:=by omega
 have hlt:a<E9^(digs E9 a).length:=Qaw E9_2 a
 have hw:IntKind.i64.wrap (((digs E9 a).length:Int)-1)=((digs E9 a).length:Int)-1:=Qah (by omega) (by omega)
 simp -implicitDefEqProofs only [go_sem,Nat.reduceAdd,Nat.reduceMul,Nat.reduceEqDiff,Nat.reduceLT,Nat.reduceLeDiff,reduceCtorEq,di,List.length_map,hn0,hn1,hn2,Int.toNat_natCast,hw]
 generalize hN:(digs E9 a).length=N at*
 have hrep:List.replicate N (PV.int .i64 0)=(mix E9 0 (a/b) N N).map fI:=by rw [Qk7,Qro];simp
 rw [hrep]
 refine Qar mixed (fun i:{i:Nat // i≤N}=>St.of [(0,di (digs E9 a)),(1,di (digs E9 b)),(6,.bs 102 1 0 N),(7,di (digs E9 (a/E9^i.1%b))),(8,.int .i64 ((i.1:Int)-1))]
  [(102,{els:=(mix E9 0 (a/b) N i.1).map fI,esz:=1,ety:=3,fro:=0,live:=true,arr:=true})]) (fun i=>i.1) ⟨N,Nat.le_refl _⟩ ?_ ?_
 ·refine Le.trans (Q8p 7 rfl) (Qaj (θ:=[(102,102)]) rfl ?_ ?_)
  ·simp [Qad,lkp,ren1,ren0,di,Nat.div_eq_of_lt hlt,Qax]
  ·simp [Qam,lkp,Box.renames]
 ·rintro⟨i,hi⟩
  cases i with
  |zero=>
   have h1:((0:Int)≤((0:Nat):Int)-1)=False:=by simp
   have hll:=Qak (B:=E9) (a/b) N
   have htk:((lows E9 (a/b) N).map fI).take N=(lows E9 (a/b) N).map fI:=List.take_of_length_le (by simp [hll])
   have e0:a/E9^0%b=a%b:=by rw [Nat.pow_zero,Nat.div_one]
   simp -implicitDefEqProofs only [go_sem,Nat.reduceAdd,Nat.reduceMul,Nat.reduceEqDiff,Nat.reduceLT,Nat.reduceLeDiff,reduceIte,reduceCtorEq,h1,Qg2,List.length_map,hll,htk]
   refine Qaf _ _ _ _ _ _ _ _ _ (Qjr (lows E9 (a/b) N) (by rw [hll];simp [maxLen];omega)) ?_
   simp -implicitDefEqProofs only [go_sem,Nat.reduceAdd,Nat.reduceEqDiff,Nat.reduceLT,reduceCtorEq,di,e0]
   rw [Qbj E9_2,Nat.mod_eq_of_lt (Nat.lt_of_le_of_lt (Nat.div_le_self _ _) hlt)]
  |succ i=>
   have hs:(((i+1:Nat):Int)-1)=(i:Int):=by omega
   have h1:((0:Int)≤(i:Int))=True:=by simp
   have h2:((i:Int)<(N:Int))=True:=by simp;omega
   have hga:=Qap E9_2 (show i<(digs E9 a).length by omega)
   have e0:a/E9^(i+1)=a/E9^i/E9:=by rw [Nat.pow_succ,Nat.div_div_eq_div_mul]
   obtain⟨s1,s2⟩:=Qnw (a/E9^i) b E9 (by decide) hb
   have e1:a/E9^i/b=a/b/E9^i:=by rw [Nat.div_div_eq_div_mul,Nat.div_div_eq_div_mul,Nat.mul_comm]
   rw [←e0]at s1 s2
   rw [e1]at s1
   have hset:=Qib (B:=E9) (V:=0) (S:=a/b) (N:=N) (i:=i) (d:=a/b/E9^i%E9) (by omega) rfl
   have hsame:=Q9d (a/b) N i (by omega)
   have hml:=Qbe (B:=E9) 0 (a/b) N (i+1)
   obtain⟨e,hgo⟩: ∃e:Nat,((mix E9 0 (a/b) N (i+1)).map fI)[i]? =some (PV.int .i64 (e:Int)):=⟨_,by rw [List.getElem?_map,Qcq _ _ _ _ _ (by omega)];rfl⟩
   have hdl:a/E9^i%E9<E9:=Nat.mod_lt _ (by decide)
   have hrl:a/E9^(i+1)%b<b:=Nat.mod_lt _ hb
   have hup:=Zg4 (a/E9^(i+1)%b) (a/E9^i%E9) hdl
   have hL1:(digs E9 (a/E9^(i+1)%b)).length≤10000000:=Nat.le_trans (Qn7 (Nat.le_of_lt hrl)) hbl
   have w4:IntKind.i64.wrap ((i:Int)-1)=(i:Int)-1:=Qah (by omega) (by omega)
   generalize a/E9^i%E9=d at*
   generalize a/E9^(i+1)%b=ρ at*
   have ht:=Qjr (d::digs E9 ρ) (by rw [List.length_cons];unfold maxLen;omega)
   rw [hup,di,List.map_cons]at ht
   have hL2:(digs E9 (ρ*E9+d)).length≤10000001:=by
    refine Nat.le_trans ((Qan E9_2 _ ((digs E9 b).length+1)).2 ?_) (Nat.succ_le_succ hbl)
    have h5:=Nat.mul_le_mul_right E9 (show ρ+1≤b from hrl)
    have h6:=Nat.mul_lt_mul_of_pos_right (Qaw E9_2 b) (show 0<E9 by decide)
    rw [Nat.add_mul,Nat.one_mul]at h5
    rw [Nat.pow_succ]
    exact Nat.lt_trans (Nat.lt_of_lt_of_le (Nat.add_lt_add_left hdl _) h5) h6
   have c1:((1+(digs E9 ρ).length)*8≤140737488355328)=True:=by simp only [eq_iff_iff,iff_true];omega
   have c2:(1+(digs E9 ρ).length≤maxLen)=True:=by simp only [eq_iff_iff,iff_true];unfold maxLen;omega
   have hok:((digs E9 ρ).map fI).all (fun e=>e.cells.length==1&&e.cells.all PV.okCell)=true:=by rw [List.all_map,List.all_eq_true];intro _ _;rfl
   have hor:=Qpg (ρ*E9+d) b (by omega)
   have c3:(1+(digs E9 ρ).length≤(digs E9 ρ).length+1)=True:=by simp only [eq_iff_iff,iff_true];omega
   have c4:List.take (1+(digs E9 ρ).length) (PV.int .i64 (d:Int)::(digs E9 ρ).map fI)=PV.int .i64 (d:Int)::(digs E9 ρ).map fI:=List.take_of_length_le (by rw [List.length_cons,List.length_map,Nat.add_comm];exact Nat.le_refl _)
   generalize hR:ρ*E9+d=R at*
   generalize digs E9 ρ=D at*
   have hap:=fun(bx:Bx) h1 h2=>app1 d (D.map fI) bx h1 h2 (by rw [List.length_map];omega) hok
   rw [List.length_map]at hap
   have hca:=fun(bx:Bx) hB=>Zg5 (P:=Tryz.prog) 607 bx (.func 136) #[.tmp 28] #[27] 136 606 1 (1+D.length) {els:= .int .i64 (d:Int)::D.map fI,esz:=1,ety:=3,fro:=0,live:=true,arr:=true} (.int .i64 (d:Int)::D.map fI) hB rfl rfl rfl (by rw [List.length_cons,List.length_map,Nat.add_comm])
   simp -implicitDefEqProofs only [go_sem,Nat.reduceAdd,Nat.reduceMul,Nat.reduceEqDiff,Nat.reduceLT,Nat.reduceLeDiff,reduceCtorEq,di,hs,h1,h2,Qel,hga,Int.toNat_natCast,List.length_map,hap,hca]
   refine Qaf _ _ _ _ _ _ _ _ _ ht ?_
   simp -implicitDefEqProofs only [go_sem,Nat.reduceAdd,Nat.reduceMul,Nat.reduceEqDiff,Nat.reduceLT,Nat.reduceLeDiff,reduceCtorEq,di]
   refine Qaf _ _ _ _ _ _ _ _ _ hor ?_
   by_cases hc:R<b
   ·have hc':(cmpN R b<0)=True:=by rw [Qo2 hc];simp
    have hq0:R/b=0:=Nat.div_eq_of_lt hc
    rw [hq0]at s1
    rw [Nat.mod_eq_of_lt hc]at s2
    simp -implicitDefEqProofs only [go_sem,Nat.reduceAdd,Nat.reduceMul,Nat.reduceEqDiff,Nat.reduceLT,Nat.reduceLeDiff,reduceIte,reduceCtorEq,hc',w4]
    refine⟨⟨i,by omega⟩,by simp only;omega,Qaj (θ:=[(102,102)]) rfl ?_ ?_⟩
    ·simp [Qad,lkp,ren1,ren0,di,←s2]
    ·simp [Qam,lkp,Box.renames,hsame s1.symm]
   ·have hc':(cmpN R b<0)=False:=by simp [cmpN];omega
    have hQ:R/b<E9:=by
     rw [Nat.div_lt_iff_lt_mul hb,←hR,Nat.mul_comm E9]
     have:=Nat.mul_le_mul_right E9 (show ρ+1≤b from hrl)
     rw [Nat.add_mul]at this
     omega
    simp -implicitDefEqProofs only [go_sem,Nat.reduceAdd,Nat.reduceMul,Nat.reduceEqDiff,Nat.reduceLT,Nat.reduceLeDiff,reduceCtorEq,hc']
    refine Qar mixed (fun p:{p:Nat×Nat // p.1≤R/b∧R/b≤p.2∧p.2<E9}=>St.of [(0,di (digs E9 a)),(1,di (digs E9 b)),(6,.bs 102 1 0 N),(7,di (digs E9 R)),(8,.int .i64 (i:Int)),(9,.int .i64 (p.1.1:Int)),(10,.int .i64 (p.1.2:Int))]
     [(102,{els:=(mix E9 0 (a/b) N (i+1)).map fI,esz:=1,ety:=3,fro:=0,live:=true,arr:=true})]) (fun p=>p.1.2-p.1.1) ⟨(0,999999999),Nat.zero_le _,by simp only [E9]at hQ;omega,by decide⟩ ?_ ?_
    ·refine Qaj (θ:=[(102,102)]) rfl ?_ ?_
     ·simp [Qad,lkp,ren1,ren0,di]
     ·simp [Qam,lkp,Box.renames]
    ·rintro⟨⟨lo,hi⟩,p1,p2,p3⟩
     simp only at p1 p2 p3 ⊢
     simp only [E9]at p3
     by_cases hlh:lo<hi
     ·have g1:((lo:Int)<(hi:Int))=True:=by simp;omega
      have w1:=Qcf (a:=lo) (b:=hi) (by omega)
      have w2:=Qai (a:=lo+hi) (by omega)
      have t2:Int.tdiv ((lo+hi+1:Nat):Int) 2=(((lo+hi+1)/2:Nat):Int):=rfl
      have w3:=wrapn (n:=(lo+hi+1)/2) (by omega)
      generalize hmid:(lo+hi+1)/2=mid at*
      have hsm:=Qwi b mid (by simp only [E9];omega) (by omega)
      have hLb:(digs E9 (b*mid)).length≤1000000000:=by
       refine Nat.le_trans ((Qan E9_2 _ ((digs E9 b).length+1)).2 ?_) (show(digs E9 b).length+1≤1000000000 by omega)
       rw [Nat.pow_succ]
       exact Nat.mul_lt_mul_of_lt_of_le (Qaw E9_2 b) (show mid≤E9 by simp only [E9];omega) (by decide)
      have ho:=Qpg (b*mid) R hLb
      have hiff:b*mid≤R↔mid≤R/b:=by rw [Nat.le_div_iff_mul_le hb,Nat.mul_comm]
      simp -implicitDefEqProofs only [go_sem,Nat.reduceAdd,Nat.reduceMul,Nat.reduceEqDiff,Nat.reduceLT,Nat.reduceLeDiff,reduceCtorEq,Int.reduceEq,di,g1,w1,w2,t2,w3]
      refine Qaf _ _ _ _ _ _ _ _ _ hsm ?_
      simp -implicitDefEqProofs only [go_sem,Nat.reduceAdd,Nat.reduceEqDiff,Nat.reduceLT,reduceCtorEq,di]
      refine Qaf _ _ _ _ _ _ _ _ _ ho ?_
      by_cases hm:b*mid≤R
      ·have g2:(cmpN (b*mid) R≤0)=True:=by simp [cmpN];omega
       have hm2:=hiff.1 hm
       simp -implicitDefEqProofs only [go_sem,Nat.reduceAdd,Nat.reduceMul,Nat.reduceEqDiff,Nat.reduceLT,Nat.reduceLeDiff,reduceCtorEq,g2]
       refine⟨⟨(mid,hi),hm2,p2,by simp only [E9];omega⟩,by simp only;omega,Qaj (θ:=[(102,102)]) rfl ?_ ?_⟩
       ·simp [Qad,lkp,ren1,ren0,di]
       ·simp [Qam,lkp,Box.renames]
      ·have g2:(cmpN (b*mid) R≤0)=False:=by simp [cmpN];omega
       have hm2:=mt hiff.2 hm
       have w5:IntKind.i64.wrap ((mid:Int)-1)=((mid-1:Nat):Int):=by rw [Qah (by omega) (by omega)];omega
       simp -implicitDefEqProofs only [go_sem,Nat.reduceAdd,Nat.reduceMul,Nat.reduceEqDiff,Nat.reduceLT,Nat.reduceLeDiff,reduceCtorEq,g2,w5]
       refine⟨⟨(lo,mid-1),p1,by simp only;omega,by simp only [E9];omega⟩,by simp only;omega,Qaj (θ:=[(102,102)]) rfl ?_ ?_⟩
       ·simp [Qad,lkp,ren1,ren0,di]
       ·simp [Qam,lkp,Box.renames]
     ·have g1:((lo:Int)<(hi:Int))=False:=by simp;omega
      obtain rfl:lo=R/b:=by omega
      have hsm:=Qwi b (R/b) hQ (by omega)
      have hle:b*(R/b)≤R:=Nat.mul_div_le R b
      have hmi:=Qph R (b*(R/b)) hle (by omega)
      have e3:R-b*(R/b)=R%b:=by have:=Nat.div_add_mod R b;omega
      rw [e3,s2]at hmi
      rw [←s1]at hset
      simp -implicitDefEqProofs only [go_sem,Nat.reduceAdd,Nat.reduceMul,Nat.reduceEqDiff,Nat.reduceLT,Nat.reduceLeDiff,reduceIte,reduceCtorEq,g1,di,hs,h1,h2,Int.toNat_natCast,List.length_map,hml,hgo]
      refine Qaf _ _ _ _ _ _ _ _ _ hsm ?_
      simp -implicitDefEqProofs only [go_sem,Nat.reduceAdd,Nat.reduceEqDiff,Nat.reduceLT,reduceCtorEq,di]
      refine Qaf _ _ _ _ _ _ _ _ _ hmi ?_
      simp -implicitDefEqProofs only [go_sem,Nat.reduceAdd,Nat.reduceMul,Nat.reduceEqDiff,Nat.reduceLT,Nat.reduceLeDiff,reduceCtorEq,di,w4]
      refine⟨⟨i,by omega⟩,by simp only;omega,Qaj (θ:=[(102,102)]) rfl ?_ ?_⟩
      ·simp [Qad,lkp,ren1,ren0,di]
      ·rw [Qwf,hset]
       simp [Qam,lkp,Box.renames]
end Go.Proofs.YtciddhkfbgkejaaGreatDoor

namespace Go.Proofs.YtciddhkfbgkejaaGreatDoor
open Go.Vl Go.RowKit Go.Dg
theorem Q1s (a b:Nat):(digs E9 (a*b)).length≤(digs E9 a).length+(digs E9 b).length:=by
 refine(Qan E9_2 _ _).2 ?_
 rw [Nat.pow_add]
 exact Nat.mul_lt_mul'' (Qaw E9_2 _) (Qaw E9_2 _)
theorem Qma (a b k:Nat) (h1:(digs E9 a).length≤k) (h2:(digs E9 b).length≤k):(digs E9 (a+b)).length≤k+1:=by
 rw [Qan E9_2]at h1 h2 ⊢
 rw [Nat.pow_succ]
 generalize E9^k=K at*
 simp only [E9]
 omega
theorem Zg6 (x y:Int) (hy:y≠0):(0≤x-Int.tdiv x y*y→Int.tdiv x y=x/y∧x-Int.tdiv x y*y=x%y)∧
  (x-Int.tdiv x y*y<0→(if 0<y then Int.tdiv x y-1 else Int.tdiv x y+1)=x/y∧x-(if 0<y then Int.tdiv x y-1 else Int.tdiv x y+1)*y=x%y):=by
 have h1:y*Int.tdiv x y+Int.tmod x y=x:=Int.mul_tdiv_add_tmod x y
 have h2:=Int.natAbs_tmod x y
 have h3:=Nat.mod_lt x.natAbs (show 0<y.natAbs by omega)
 rw [←h2]at h3
 generalize Int.tdiv x y=q at*
 generalize Int.tmod x y=r at*
 have e:q*y=y*q:=Int.mul_comm _ _
 have key: ∀q' r':Int,r'+y*q'=x→0≤r'→r'<y.natAbs→q'=x/y∧r'=x%y:=by
  intro q' r' a1 a2 a3
  rcases Int.lt_or_gt_of_ne hy with hn|hp
  ·have:=(Int.ediv_emod_unique' (a:=x) (b:=y) (r:=r') (q:=q') hn).2 ⟨a1,a2,by omega⟩
   exact⟨this.1.symm,this.2.symm⟩
  ·have:=(Int.ediv_emod_unique (a:=x) (b:=y) (r:=r') (q:=q') hp).2 ⟨a1,a2,by omega⟩
   exact⟨this.1.symm,this.2.symm⟩
 rw [e]
 constructor
 ·intro h0
  exact key q (x-y*q) (by omega) h0 (by omega)
 ·intro h0
  by_cases hp:0<y
  ·rw [if_pos hp]
   have e2:(q-1)*y=y*q-y:=by rw [Int.sub_mul,Int.one_mul,e]
   have e3:y*(q-1)=y*q-y:=by rw [Int.mul_comm,e2]
   exact key (q-1) (x-(q-1)*y) (by omega) (by omega) (by omega)
  ·rw [if_neg hp]
   have e2:(q+1)*y=y*q+y:=by rw [Int.add_mul,Int.one_mul,e]
   have e3:y*(q+1)=y*q+y:=by rw [Int.mul_comm,e2]
   exact key (q+1) (x-(q+1)*y) (by omega) (by omega) (by omega)
theorem Zg7 {a b:Nat} (h:a≤b):(digs E9 a).length≤(digs E9 b).length:=Qn7 h
theorem Qx6 (x y:Int):(if(!(decide (x<0)==decide (y<0)))=true then -((x.natAbs/y.natAbs:Nat):Int)else((x.natAbs/y.natAbs:Nat):Int))=Int.tdiv x y:=by
 cases x with
 |ofNat m=>cases y with
  |ofNat n=>
   have h1: ¬Int.ofNat m<0:=by simp
   have h2: ¬Int.ofNat n<0:=by simp
   simp only [h1,h2,decide_false,beq_self_eq_true,Bool.not_true,Bool.false_eq_true,if_false];rfl
  |negSucc n=>
   have h1: ¬Int.ofNat m<0:=by simp
   have h2:Int.negSucc n<0:=Int.negSucc_lt_zero n
   simp only [h1,h2,decide_false,decide_true,Bool.false_beq,Bool.not_true,Bool.not_false,if_true];rfl
 |negSucc m=>cases y with
  |ofNat n=>
   have h1:Int.negSucc m<0:=Int.negSucc_lt_zero m
   have h2: ¬Int.ofNat n<0:=by simp
   simp only [h1,h2,decide_false,decide_true,Bool.true_beq,Bool.not_false,if_true];rfl
  |negSucc n=>
   have h1:Int.negSucc m<0:=Int.negSucc_lt_zero m
   have h2:Int.negSucc n<0:=Int.negSucc_lt_zero n
   simp only [h1,h2,decide_true,beq_self_eq_true,Bool.not_true,Bool.false_eq_true,if_false];rfl
set_option maxHeartbeats 1000000 in
theorem Zmf (x y:Int) (hy:y≠0) (hx:(digs E9 x.natAbs).length≤1000000) (hyl:(digs E9 y.natAbs).length≤1000000):Qag Tryz.prog 125 [rI x,rI y] (.tup [rI (x/y),rI (x%y)]):=by
 have ho:=Q1r x.natAbs y.natAbs (by omega) (by omega) (by omega)
 have hm:=Qfs (!(decide (x<0)==decide (y<0))) (x.natAbs/y.natAbs)
 rw [Qx6]at hm
 have hql:(digs E9 (Int.tdiv x y).natAbs).length≤1000000:=by
  rw [Int.natAbs_tdiv];exact Nat.le_trans (Zg7 (Nat.div_le_self _ _)) hx
 have h1l:(digs E9 1).length≤1000000:=Nat.le_trans (Q1u (by decide)) (by decide)
 obtain⟨f1,f2⟩:=Zg6 x y hy
 have hnum:=Qe2 1 (by decide) (by decide)
 generalize hq:Int.tdiv x y=q at*
 have hmq:(digs E9 (q*y).natAbs).length≤2000000:=by rw [Int.natAbs_mul];have:=Q1s q.natAbs y.natAbs;omega
 have m1:=Qwj q y (by omega)
 have s1:=Qn8 x (q*y) (Nat.le_trans (Qma _ _ 2000000 (by omega) hmq) (by decide))
 have g1:=Qty (x-q*y)
 have g2:=Qty y
 by_cases h0:x-q*y<0
 ·have c1:((x-q*y).sign<0)=True:=by simp only [eq_iff_iff,iff_true];rw [Int.sign_eq_neg_one_of_neg h0];decide
  obtain⟨e1,e2⟩:=f2 h0
  by_cases hp:0<y
  ·have c2:(0<y.sign)=True:=by simp only [eq_iff_iff,iff_true];rw [Int.sign_eq_one_of_pos hp];decide
   rw [if_pos hp]at e1 e2
   have s2:=Qn8 q 1 (Nat.le_trans (Qma _ _ 1000000 hql h1l) (by decide))
   have hq2:(digs E9 (q-1).natAbs).length≤1000001:=Nat.le_trans (Zg7 (show(q-1).natAbs≤q.natAbs+1 by omega)) (Qma _ _ 1000000 hql h1l)
   have m2:=Qwj (q-1) y (by omega)
   have hmq2:(digs E9 ((q-1)*y).natAbs).length≤2000001:=by rw [Int.natAbs_mul];have:=Q1s (q-1).natAbs y.natAbs;omega
   have s3:=Qn8 x ((q-1)*y) (Nat.le_trans (Qma _ _ 2000001 (by omega) hmq2) (by decide))
   rw [e1]at s2 m2 s3
   rw [e1]at e2
   rw [e2]at s3
   generalize x-q*y=r at*
   generalize q*y=p at*
   generalize x/y*y=p2 at*
   generalize x/y=Q at*
   generalize x%y=R at*
   generalize x.natAbs/y.natAbs=n1 at*
   generalize x.natAbs%y.natAbs=n2 at*
   refine Qac (tb:=[]) 50 [.cell 4 76,.cell 5 76] [0,1,2,3,4,5,6,7,8,9,32,35] mixed Tryz.func125 rfl (by kernel_rfl) (by kernel_rfl) (by kernel_rfl) (by kernel_rfl) ?_
   repeat (first|(simp -implicitDefEqProofs only [go_sem,Nat.reduceAdd,Nat.reduceMul,Nat.reduceEqDiff,Nat.reduceLT,Nat.reduceLeDiff,reduceCtorEq,Int.reduceLT,rI,di,c1,c2])|((with_reducible refine Qab (ho) ?_ ?_ ?_);(with_reducible rfl);rfl)|((with_reducible refine Qab (hm) ?_ ?_ ?_);(with_reducible rfl);rfl)|((with_reducible refine Qab (m1) ?_ ?_ ?_);(with_reducible rfl);rfl)|((with_reducible refine Qab (s1) ?_ ?_ ?_);(with_reducible rfl);rfl)|((with_reducible refine Qab (g1) ?_ ?_ ?_);(with_reducible rfl);rfl)|((with_reducible refine Qab (g2) ?_ ?_ ?_);(with_reducible rfl);rfl)|((with_reducible refine Qab (hnum) ?_ ?_ ?_);(with_reducible rfl);rfl)|((with_reducible refine Qab (s2) ?_ ?_ ?_);(with_reducible rfl);rfl)|((with_reducible refine Qab (m2) ?_ ?_ ?_);(with_reducible rfl);rfl)|((with_reducible refine Qab (s3) ?_ ?_ ?_);(with_reducible rfl);rfl)|(with_reducible exact Qaa _ _ (by kernel_rfl))|(with_reducible refine And.intro (Qaa _ _ (by kernel_rfl)) ?_))
  ·have c2:(0<y.sign)=False:=by simp only [eq_iff_iff,iff_false];rw [Int.sign_eq_neg_one_of_neg (by omega)];decide
   rw [if_neg hp]at e1 e2
   have s2:=Q1t q 1 (Nat.le_trans (Qma _ _ 1000000 hql h1l) (by decide))
   have hq2:(digs E9 (q+1).natAbs).length≤1000001:=Nat.le_trans (Zg7 (show(q+1).natAbs≤q.natAbs+1 by omega)) (Qma _ _ 1000000 hql h1l)
   have m2:=Qwj (q+1) y (by omega)
   have hmq2:(digs E9 ((q+1)*y).natAbs).length≤2000001:=by rw [Int.natAbs_mul];have:=Q1s (q+1).natAbs y.natAbs;omega
   have s3:=Qn8 x ((q+1)*y) (Nat.le_trans (Qma _ _ 2000001 (by omega) hmq2) (by decide))
   rw [e1]at s2 m2 s3
   rw [e1]at e2
   rw [e2]at s3
   generalize x-q*y=r at*
   generalize q*y=p at*
   generalize x/y*y=p2 at*
   generalize x/y=Q at*
   generalize x%y=R at*
   generalize x.natAbs/y.natAbs=n1 at*
   generalize x.natAbs%y.natAbs=n2 at*
   refine Qac (tb:=[]) 50 [.cell 4 76,.cell 5 76] [0,1,2,3,4,5,6,7,8,9,32,35] mixed Tryz.func125 rfl (by kernel_rfl) (by kernel_rfl) (by kernel_rfl) (by kernel_rfl) ?_
   repeat (first|(simp -implicitDefEqProofs only [go_sem,Nat.reduceAdd,Nat.reduceMul,Nat.reduceEqDiff,Nat.reduceLT,Nat.reduceLeDiff,reduceCtorEq,Int.reduceLT,rI,di,c1,c2])|((with_reducible refine Qab (ho) ?_ ?_ ?_);(with_reducible rfl);rfl)|((with_reducible refine Qab (hm) ?_ ?_ ?_);(with_reducible rfl);rfl)|((with_reducible refine Qab (m1) ?_ ?_ ?_);(with_reducible rfl);rfl)|((with_reducible refine Qab (s1) ?_ ?_ ?_);(with_reducible rfl);rfl)|((with_reducible refine Qab (g1) ?_ ?_ ?_);(with_reducible rfl);rfl)|((with_reducible refine Qab (g2) ?_ ?_ ?_);(with_reducible rfl);rfl)|((with_reducible refine Qab (hnum) ?_ ?_ ?_);(with_reducible rfl);rfl)|((with_reducible refine Qab (s2) ?_ ?_ ?_);(with_reducible rfl);rfl)|((with_reducible refine Qab (m2) ?_ ?_ ?_);(with_reducible rfl);rfl)|((with_reducible refine Qab (s3) ?_ ?_ ?_);(with_reducible rfl);rfl)|(with_reducible exact Qaa _ _ (by kernel_rfl))|(with_reducible refine And.intro (Qaa _ _ (by kernel_rfl)) ?_))
 ·have c1:((x-q*y).sign<0)=False:=by simp only [eq_iff_iff,iff_false];have:=Int.sign_nonneg_iff.2 (show 0≤x-q*y by omega);omega
  obtain⟨e1,e2⟩:=f1 (by omega)
  rw [e2]at s1 g1 c1
  rw [e1]at hm m1 s1
  generalize q*y=p at*
  generalize x/y*y=p2 at*
  generalize x/y=Q at*
  generalize x%y=R at*
  generalize x.natAbs/y.natAbs=n1 at*
  generalize x.natAbs%y.natAbs=n2 at*
  refine Qac (tb:=[]) 50 [.cell 4 76,.cell 5 76] [0,1,2,3,4,5,6,7,8,9,32,35] mixed Tryz.func125 rfl (by kernel_rfl) (by kernel_rfl) (by kernel_rfl) (by kernel_rfl) ?_
  repeat (first|(simp -implicitDefEqProofs only [go_sem,Nat.reduceAdd,Nat.reduceMul,Nat.reduceEqDiff,Nat.reduceLT,Nat.reduceLeDiff,reduceCtorEq,rI,di,c1])|((with_reducible refine Qab (ho) ?_ ?_ ?_);(with_reducible rfl);rfl)|((with_reducible refine Qab (hm) ?_ ?_ ?_);(with_reducible rfl);rfl)|((with_reducible refine Qab (m1) ?_ ?_ ?_);(with_reducible rfl);rfl)|((with_reducible refine Qab (s1) ?_ ?_ ?_);(with_reducible rfl);rfl)|((with_reducible refine Qab (g1) ?_ ?_ ?_);(with_reducible rfl);rfl)|(with_reducible exact Qaa _ _ (by kernel_rfl))|(with_reducible refine And.intro (Qaa _ _ (by kernel_rfl)) ?_))
theorem Zmg (x y:Int) (hx:(digs E9 x.natAbs).length≤1000000) (hyl:(digs E9 y.natAbs).length≤1000000):Qag Tryz.prog 103 [rI x,rI y] (rI ((Nat.gcd x.natAbs y.natAbs:Nat):Int)):=by
 have hm:=Qfs false (Nat.gcd x.natAbs y.natAbs)
 simp only [Bool.false_eq_true,if_false]at hm
 refine Qac (tb:=[]) 26 [.cell 4 76] [0,1,2,3,4,5,6,8,15] mixed Tryz.func103 rfl (by kernel_rfl) (by kernel_rfl) (by kernel_rfl) (by kernel_rfl) ?_
 repeat (first|(simp -implicitDefEqProofs only [go_sem,Nat.reduceAdd,Nat.reduceMul,Nat.reduceEqDiff,Nat.reduceLT,Nat.reduceLeDiff,reduceCtorEq,rI,di])|((with_reducible refine Qab (hm) ?_ ?_ ?_);(with_reducible rfl);rfl)|(with_reducible exact Qaa _ _ (by kernel_rfl))|(with_reducible refine And.intro (Qaa _ _ (by kernel_rfl)) ?_))
 refine Qar mixed (fun p:{p:Nat×Nat // Nat.gcd p.1 p.2=Nat.gcd x.natAbs y.natAbs∧(digs E9 p.1).length≤1000000∧(digs E9 p.2).length≤1000000}=>St.of [(4,.bp 2 2 0 0),(5,di (digs E9 p.1.1)),(6,di (digs E9 p.1.2))]
  [(2,{els:=[.agg [.bool false,.nilS]],esz:=2,ety:=76,fro:=0,live:=true,arr:=false})]) (fun p=>p.1.2) ⟨(x.natAbs,y.natAbs),rfl,hx,hyl⟩ ?_ ?_
 ·refine Qaj (θ:=[(2,2)]) rfl ?_ ?_
  ·simp [Qad,lkp,ren1,ren0,di]
  ·refine⟨⟨rfl,rfl,rfl,rfl,rfl,.inr ⟨rfl,_,_,rfl,rfl,rfl,rfl⟩⟩,trivial⟩
 ·rintro⟨⟨u,v⟩,h1,h2,h3⟩
  simp only at h1 h2 h3 ⊢
  by_cases hv:v=0
  ·subst hv
   have g1:((0:Int)<((0:Nat):Int))=False:=by simp
   rw [Nat.gcd_zero_right]at h1
   subst h1
   repeat (first|(simp -implicitDefEqProofs only [go_sem,Nat.reduceAdd,Nat.reduceMul,Nat.reduceEqDiff,Nat.reduceLT,Nat.reduceLeDiff,reduceCtorEq,rI,di,Qax,List.map_nil,List.length_nil,g1])|((with_reducible refine Qab (hm) ?_ ?_ ?_);(with_reducible rfl);rfl)|(with_reducible exact Qaa _ _ (by kernel_rfl))|(with_reducible refine And.intro (Qaa _ _ (by kernel_rfl)) ?_))
  ·have hp:0<(digs E9 v).length:=Q9e hv
   have g1:((0:Int)<((digs E9 v).length:Int))=True:=by simp only [eq_iff_iff,iff_true];omega
   have hd:=Q1r u v (Nat.pos_of_ne_zero hv) (by omega) (by omega)
   have hr:=Nat.mod_lt u (Nat.pos_of_ne_zero hv)
   repeat (first|(simp -implicitDefEqProofs only [go_sem,Nat.reduceAdd,Nat.reduceMul,Nat.reduceEqDiff,Nat.reduceLT,Nat.reduceLeDiff,reduceCtorEq,di,List.length_map,g1])|((with_reducible refine Qab (hd) ?_ ?_ ?_);(with_reducible rfl);rfl)|(with_reducible exact Qaa _ _ (by kernel_rfl))|(with_reducible refine And.intro (Qaa _ _ (by kernel_rfl)) ?_))
   refine⟨⟨(v,u%v),by rw [←h1,Nat.gcd_comm u v,Nat.gcd_rec v u,Nat.gcd_comm],h3,Nat.le_trans (Qn7 (Nat.le_of_lt hr)) h3⟩,by simp only;exact hr,Qaj (θ:=[(2,2)]) rfl ?_ ?_⟩
   ·simp [Qad,lkp,ren1,ren0,di]
   ·refine⟨⟨rfl,rfl,rfl,rfl,rfl,.inr ⟨rfl,_,_,rfl,rfl,rfl,rfl⟩⟩,trivial⟩
end Go.Proofs.YtciddhkfbgkejaaGreatDoor

namespace Go.Proofs.YtciddhkfbgkejaaGreatDoor
open Go.Vl Go.RowKit Go.Dg
theorem mod_lt {y:Int} {k:Nat} (x:Int) (h0:y≠0) (hy:y.natAbs<256^k):(x%y).natAbs<256^k:=by
 have h1:=Int.emod_nonneg x h0
 have h2:=Int.emod_lt x h0
 omega
section
variable (a b c d:Int) (k:Nat) (hk:k≤10000) (ha:a.natAbs<256^k) (hb:b.natAbs<256^k) (hc:c.natAbs<256^k) (hd:d.natAbs<256^k)
include hk ha hb hc hd
end
end Go.Proofs.YtciddhkfbgkejaaGreatDoor

namespace Go.Dg

/-! ### sums -/
/-- The sum of the first n values. -/
def sm (f:Nat→Int):Nat→Int
  |0=>0
  |n+1=>sm f n+f n
theorem Qce {f g:Nat→Int}: ∀(n:Nat),(∀i,i<n→f i=g i)→sm f n=sm g n
  |0,_=>rfl
  |n+1,h=>by rw [sm,sm,Qce n (fun i hi=>h i (Nat.lt_succ_of_lt hi)),h n (Nat.lt_succ_self n)]
theorem Q0y (f g:Nat→Int): ∀n,sm (fun i=>f i+g i) n=sm f n+sm g n
  |0=>rfl
  |n+1=>by simp only [sm,Q0y f g n];omega
theorem Qeh (c:Int) (f:Nat→Int): ∀n,sm (fun i=>c*f i) n=c*sm f n
  |0=>by simp [sm]
  |n+1=>by simp only [sm,Qeh c f n,Int.mul_add]
theorem Qk9 (f:Nat→Int): ∀n,sm f (n+1)=f 0+sm (fun i=>f (i+1)) n
  |0=>by simp [sm]
  |n+1=>by rw [sm,Qk9 f n,sm];omega
theorem Zgt (f:Nat→Int) {n m:Nat} (h:n≤m) (hz: ∀i,n≤i→i<m→f i=0):sm f m=sm f n:=by
  induction m with
  |zero=>
        obtain rfl:n=0:=by omega
        rfl
  |succ m ih=>
    rcases Nat.lt_or_eq_of_le h with h1|h1
    · rw [sm,ih (by omega) (fun i a b=>hz i a (by omega)),hz m (by omega) (by omega),Int.add_zero]
    · rw [h1]
theorem Zfu (g:Nat→Nat→Int): ∀n,sm (fun j=>sm (fun i=>g i j) (j+1)) n=sm (fun i=>sm (fun k=>g i (i+k)) (n-i)) n
  |0=>rfl
  |n+1=>by
    rw [sm,Zfu g n]
    have h1:sm (fun i=>sm (fun k=>g i (i+k)) (n+1-i)) n=sm (fun i=>sm (fun k=>g i (i+k)) (n-i)+g i n) n:=
      Qce n fun i hi=>by
        have e:n+1-i=(n-i)+1:=by omega
        have e2:i+(n-i)=n:=by omega
        rw [e,sm,e2]
    have e3:n+1-n=1:=by omega
    rw [sm,sm,h1,Q0y,e3]
    simp only [sm,Nat.add_zero,Int.zero_add]
    omega
theorem Zgu {f g:Nat→Int}: ∀(n:Nat),(∀i,i<n→f i≤g i)→sm f n≤sm g n
  |0,_=>Int.le_refl 0
  |n+1,h=>Int.add_le_add (Zgu n fun i hi=>h i (Nat.lt_succ_of_lt hi)) (h n (Nat.lt_succ_self n))

/-! ### binomials -/
/-- The number of ways to choose k of n elements. -/
def bin:Nat→Nat→Nat
  |_,0=>1
  |0,_+1=>0
  |n+1,k+1=>bin n k+bin n (k+1)
theorem Qfr (n:Nat):bin n 0=1:=by cases n<;>rfl
theorem Q0z: ∀{n k:Nat},n<k→bin n k=0
  |0,0,h=>absurd h (Nat.lt_irrefl 0)
  |0,_+1,_=>rfl
  |n+1,0,h=>absurd h (Nat.not_lt_zero _)
  |n+1,k+1,h=>by rw [bin,Q0z (by omega),Q0z (by omega)]
/-- The next one of a row. -/
theorem Qla: ∀(n k:Nat),(bin n (k+1):Int)*((k:Int)+1)=(bin n k:Int)*((n:Int)-(k:Int))
  |0,0=>by simp [bin]
  |0,k+1=>by simp [bin]
  |n+1,0=>by
    have h:=Qla n 0
    rw [Qfr]at h ⊢
    rw [bin,Qfr]
    simp only [Int.natCast_add,Int.natCast_zero,Int.zero_add,Int.mul_one,Int.sub_zero,Int.one_mul]at h ⊢
    omega
  |n+1,k+1=>by
    have h1:=Qla n k
    have h2:=Qla n (k+1)
    rw [bin,bin]
    simp only [Int.natCast_add]at h1 h2 ⊢
    generalize (bin n k:Int)=a at*
    generalize (bin n (k+1):Int)=b at*
    generalize (bin n (k+1+1):Int)=c at*
    generalize (n:Int)=N at*
    generalize (k:Int)=K at*
    simp only [Int.mul_add,Int.add_mul,Int.mul_sub,Int.sub_mul]at h1 h2 ⊢
    simp only [Int.mul_one]at h1 h2 ⊢
    omega
theorem Qtq: ∀{n k:Nat},k≤n→0<bin n k
  |_,0,_=>by rw [Qfr];decide
  |0,k+1,h=>absurd h (by omega)
  |n+1,k+1,h=>by rw [bin];have:=Qtq (n:=n) (k:=k) (by omega);omega
theorem Qg3: ∀(n k:Nat),bin n k≤2^n
  |0,0=>by decide
  |0,_+1=>by simp [bin]
  |n+1,0=>by rw [Qfr];exact Nat.pow_pos (by decide)
  |n+1,k+1=>by rw [bin,Nat.pow_succ];have:=Qg3 n k;have:=Qg3 n (k+1);omega
theorem Qrb (x:Int) (n:Nat):x^(n+1)=x*x^n:=by rw [Int.pow_succ,Int.mul_comm]
/-- The power of a sum. -/
theorem Qtr (a b:Int): ∀n,sm (fun k=>(bin n k:Int)*(a^k*b^(n-k))) (n+1)=(a+b)^n
  |0=>by simp [sm,bin]
  |n+1=>by
    have ih:=Qtr a b n
    rw [Qk9]
    have h1:sm (fun k=>(bin (n+1) (k+1):Int)*(a^(k+1)*b^(n+1-(k+1)))) (n+1)
        =sm (fun k=>a*((bin n k:Int)*(a^k*b^(n-k)))+(bin n (k+1):Int)*(a^(k+1)*b^(n-k))) (n+1):=
      Qce _ fun k _=>by
        have e:n+1-(k+1)=n-k:=by omega
        rw [e,bin,Int.natCast_add,Int.add_mul,Qrb]
        congr 1
        rw [Int.mul_assoc,Int.mul_left_comm]
    rw [h1,Q0y,Qeh,ih]
    have h2:sm (fun k=>(bin n (k+1):Int)*(a^(k+1)*b^(n-k))) (n+1)=sm (fun k=>b*((bin n (k+1):Int)*(a^(k+1)*b^(n-(k+1))))) n:=by
      rw [sm,Q0z (Nat.lt_succ_self n),Int.natCast_zero,Int.zero_mul,Int.add_zero]
      refine Qce _ fun k hk=> ?_
      have e:n-k=(n-(k+1))+1:=by omega
      rw [e,Qrb b]
      simp only [Int.mul_comm,Int.mul_left_comm,Int.mul_assoc]
    have h3:=Qk9 (fun k=>(bin n k:Int)*(a^k*b^(n-k))) n
    rw [ih]at h3
    rw [h2,Qeh,Qfr]
    rw [Qfr]at h3
    simp only [Int.pow_zero,Int.one_mul,Nat.sub_zero,Int.natCast_one]at h3 ⊢
    rw [Qrb,Qrb,Int.add_mul,h3]
    simp only [Int.mul_add]
    omega

/-! ### polynomials by their values -/
/-- A polynomial at x/y,times y to the power of its degree. -/
def hev:List Int→Int→Int→Int
  | [],_,_=>0
  |c::r,x,y=>c*y^r.length+x*hev r x y
theorem Qrc: ∀(p:List Int) (x y:Int),hev p x y=sm (fun i=>p.getD i 0*(x^i*y^(p.length-1-i))) p.length
  | [],_,_=>rfl
  |c::r,x,y=>by
    rw [hev,List.length_cons,Qk9,Qrc r x y,←Qeh]
    congr 1
    · simp
    · refine Qce _ fun i hi=> ?_
      have e:r.length+1-1-(i+1)=r.length-1-i:=by omega
      rw [e,Qrb,List.getD_cons_succ]
      simp only [Int.mul_comm,Int.mul_left_comm,Int.mul_assoc]
/-- A list of sums of products,at two values. -/
theorem Q81 (F:Nat→Int) (n:Nat) (x y:Int):hev ((List.range (n+1)).map F) x y=sm (fun j=>F j*(x^j*y^(n-j))) (n+1):=by
  rw [Qrc]
  simp only [List.length_map,List.length_range]
  refine Qce _ fun j hj=> ?_
  rw [List.getD_eq_getElem?_getD]
  simp [hj]

/-- The list whose value at x,y is the sum of f i x^i (c x+y)^(n-i). -/
def trans (f:List Int) (c:Int) (n:Nat):List Int:=(List.range (n+1)).map fun j=>sm (fun i=>f.getD i 0*(c^(j-i)*(bin (n-i) (j-i):Int))) (j+1)
theorem Qrd (f:List Int) (c:Int) (n:Nat):(trans f c n).length=n+1:=by simp [trans]
theorem Qv0 (a b:Int): ∀n:Nat,(a*b)^n=a^n*b^n
  |0=>by simp
  |n+1=>by rw [Qrb,Qrb,Qrb,Qv0 a b n];simp only [Int.mul_comm,Int.mul_left_comm,Int.mul_assoc]
theorem Zgv (c:Int) (f:Nat→Int) (n:Nat):sm (fun i=>f i*c) n=sm f n*c:=by
  rw [Int.mul_comm,←Qeh];exact Qce n fun i _=>Int.mul_comm _ _
theorem Q00 (f:List Int) (c:Int) (n:Nat) (x y:Int):hev (trans f c n) x y=sm (fun i=>f.getD i 0*(x^i*(c*x+y)^(n-i))) (n+1):=by
  rw [trans,Q81]
  have h1:sm (fun j=>sm (fun i=>f.getD i 0*(c^(j-i)*(bin (n-i) (j-i):Int))) (j+1)*(x^j*y^(n-j))) (n+1)
      =sm (fun j=>sm (fun i=>f.getD i 0*(c^(j-i)*(bin (n-i) (j-i):Int))*(x^j*y^(n-j))) (j+1)) (n+1):=
    Qce _ fun j _=>(Zgv _ _ _).symm
  rw [h1,Zfu (fun i j=>f.getD i 0*(c^(j-i)*(bin (n-i) (j-i):Int))*(x^j*y^(n-j)))]
  refine Qce _ fun i hi=> ?_
  have e:n+1-i=(n-i)+1:=by omega
  rw [←Qtr (c*x) y (n-i),e,←Qeh,←Qeh]
  refine Qce _ fun k hk=> ?_
  have e1:i+k-i=k:=by omega
  have e2:n-(i+k)=n-i-k:=by omega
  rw [e1,e2,Qv0,Int.pow_add]
  simp only [Int.mul_comm,Int.mul_left_comm,Int.mul_assoc]
theorem Zgw {f:List Int} {n:Nat} (h:f.length≤n+1) (x s:Int):sm (fun i=>f.getD i 0*(x^i*s^(n-i))) (n+1)=s^(n+1-f.length)*hev f x s:=by
  rw [Zgt _ h (fun i h1 _=>by rw [List.getD_eq_getElem?_getD,List.getElem?_eq_none h1];simp),Qrc,←Qeh]
  refine Qce _ fun i hi=> ?_
  have e:n-i=(n+1-f.length)+(f.length-1-i):=by omega
  rw [e,Int.pow_add]
  simp only [Int.mul_comm,Int.mul_left_comm,Int.mul_assoc]
theorem Qx1 {f:List Int} {n:Nat} (h:f.length≤n+1) (c x y:Int):hev (trans f c n) x y=(c*x+y)^(n+1-f.length)*hev f x (c*x+y):=by
  rw [Q00,Zgw h]
theorem Qx2 {f:List Int} {n:Nat} (h:f.length=n+1) (c x y:Int):hev (trans f c n) x y=hev f x (c*x+y):=by
  rw [Qx1 (by omega),h,Nat.sub_self,Int.pow_zero,Int.one_mul]
end Go.Dg

namespace Go.Proofs.YtciddhkfbgkejaaGreatDoor
open Go.Vl Go.RowKit Go.Dg
theorem Qik {x y:Int} {B:Nat} (hx:x.natAbs<2^B) (hy:y.natAbs<2^B):(x+y).natAbs<2^(B+1):=by
 rw [Nat.pow_succ];generalize 2^B=K at*;omega
theorem Qr7 {x y:Int} {B C:Nat} (hx:x.natAbs<2^B) (hy:y.natAbs<2^C):(x*y).natAbs<2^(B+C):=by
 rw [Int.natAbs_mul,Nat.pow_add];exact Nat.mul_lt_mul'' hx hy
theorem Zf6 {x:Int} {B:Nat} (hx:x.natAbs<2^B):(-x).natAbs<2^B:=by rw [Int.natAbs_neg];exact hx
theorem Zf7 {x:Int} (h:x.natAbs<2^65536):(digs 256 x.natAbs).length≤8192:=(Qan (by decide) x.natAbs 8192).2 (Ql0 (k:=8192) h (by decide))
theorem Qpt {n:Int} (h:n.natAbs<2^65536):Qhy n= .tup [wPV n,.int .i64 0]:=by
 rw [Qhy,if_neg (Nat.not_lt.2 (Qdx 65536 _ h))]
abbrev mB (x:Int):ByteArray:=⟨(magL x.natAbs).toArray⟩
theorem Qeq {x:Int} (h:x.natAbs<2^65536):(mB x).size≤100000:=by rw [Q1q];have:=Zf7 h;omega
theorem Qc7 {x:Int} (h:x.natAbs<2^65536):Qbx (decide (x<0)) (mB x).data.toList=true:=Qut x (Zf7 h)
theorem Qpu (x:Int):(bnum (mB x).data.toList)=x.natAbs:=by
 have h:=Qcy x
 unfold wnum at h
 have h2:=congrArg Int.natAbs h
 rwa [Zoe]at h2
theorem Zm4 {x y:Int} (hx:x.natAbs<2^65536) (hy:y.natAbs<2^65536):Qag Tryz.prog 190 [wPV x,wPV y] (Qhy (x*y)):=by
 have h:=Zn9 (decide (x<0)) (decide (y<0)) (mB x) (mB y) (Qc7 hx) (Qc7 hy) (Qeq hx) (Qeq hy)
 rwa [Qcy,Qcy]at h
theorem Zm5 {x y:Int} (hx:x.natAbs<2^65536) (hy:y.natAbs<2^65536):Qag Tryz.prog 113 [wPV x,wPV y] (Qhy (x+y)):=by
 have h:=Zn0 (decide (x<0)) (decide (y<0)) (mB x) (mB y) (Qc7 hx) (Qc7 hy) (Qeq hx) (Qeq hy)
 rwa [Qcy,Qcy]at h
theorem Zm6 {x y:Int} (hx:x.natAbs<2^65536) (hy:y.natAbs<2^65536):Qag Tryz.prog 162 [wPV x,wPV y] (Qhy ((Nat.gcd x.natAbs y.natAbs:Nat):Int)):=by
 have h:=Zoa (decide (x<0)) (decide (y<0)) (mB x) (mB y) (Qc7 hx) (Qc7 hy) (Qeq hx) (Qeq hy)
 rwa [Qpu,Qpu]at h
theorem Q2u {x:Int} (hx:x.natAbs<2^65536):Qag Tryz.prog 66 [wPV x] (Qfw x):=by
 have h:=Zn2 (decide (x<0)) (mB x) (Qc7 hx) (Qeq hx)
 rwa [Qcy]at h
theorem Qyc {x y:Int} (hx:x.natAbs<2^65536) (hy:y.natAbs<2^65536):Qag Tryz.prog 142 [wPV x,wPV y] (.int .i64 (x-y).sign):=by
 have h:=Qzi (decide (x<0)) (decide (y<0)) (mB x) (mB y) (Qc7 hx) (Qc7 hy) (Qeq hx) (Qeq hy)
 rwa [Qcy,Qcy]at h
theorem Zp0 {x:Int} (h:x≠0):(mB x).data.toList≠ []:=fun e=>h ((Qp6 x).1 e)
theorem Zm7 {x y:Int} (hx:x.natAbs<2^65536) (hy:y.natAbs<2^65536) (h0:y≠0):Qag Tryz.prog 112 [wPV x,wPV y] (Zes x y):=by
 have h:=Zod (decide (x<0)) (decide (y<0)) (mB x) (mB y) (Qc7 hx) (Qc7 hy) (Zp0 h0) (Qeq hx) (Qeq hy)
 rwa [Qcy,Qcy]at h
theorem Qud {x:Int} {B k:Nat} (h:x.natAbs<2^B) (hk:B≤8*k):(digs E9 x.natAbs).length≤k:=(Qwy x k (Ql0 h hk)).1
theorem Zp1 {x:Int} {B k:Nat} (h:x.natAbs<2^B) (hk:B≤8*k):(digs 256 x.natAbs).length≤k:=(Qwy x k (Ql0 h hk)).2
theorem Q93 {x:Int} (h:x.natAbs<2^8000000):Qag Tryz.prog 87 [rI x] (wPV x):=Zpj x (Qud h (by decide)) (Nat.le_trans (Zp1 h (k:=1000000) (by decide)) (by decide))
theorem Qmj {x y:Int} (hx:x.natAbs<2^7000000) (hy:y.natAbs<2^7000000):Qag Tryz.prog 83 [rI x,rI y] (rI (x+y)):=
 Q1t x y (Zga (k:=1000000) (by decide) (Ql0 (k:=1000000) hx (by decide)) (Ql0 (k:=1000000) hy (by decide)))
theorem Qhp {x y:Int} (hx:x.natAbs<2^7000000) (hy:y.natAbs<2^7000000):Qag Tryz.prog 84 [rI x,rI y] (rI (x*y)):=
 Qwj x y (by have:=Qud hx (k:=1000000) (by decide);have:=Qud hy (k:=1000000) (by decide);omega)
theorem Q2v {x y:Int} (hx:x.natAbs<2^7000000) (hy:y.natAbs<2^7000000) (h0:y≠0):Qag Tryz.prog 125 [rI x,rI y] (.tup [rI (x/y),rI (x%y)]):=
 Zmf x y h0 (Qud hx (by decide)) (Qud hy (by decide))
theorem Q2w {x y:Int} (hx:x.natAbs<2^7000000) (hy:y.natAbs<2^7000000):Qag Tryz.prog 103 [rI x,rI y] (rI ((Nat.gcd x.natAbs y.natAbs:Nat):Int)):=
 Zmg x y (Qud hx (by decide)) (Qud hy (by decide))
theorem Qfg {x y:Int} (hx:x.natAbs<2^7000000) (hy:y.natAbs<2^7000000):Qag Tryz.prog 77 [rI x,rI y] (.int .i64 (x-y).sign):=
 Qx7 x y (Zga (k:=1000000) (by decide) (Ql0 (k:=1000000) hx (by decide)) (Ql0 (k:=1000000) hy (by decide)))
end Go.Proofs.YtciddhkfbgkejaaGreatDoor

namespace Go.Proofs.YtciddhkfbgkejaaGreatDoor
open Go.Vl Go.RowKit Go.Dg
theorem Zm8 (a b:ByteArray):(a==b)=(a.data==b.data):=rfl
def rL (xs:List Int):PV:= .slc (xs.map rI)
theorem Zf8 (xs:List Int) (i:Nat) (h:i<xs.length):(xs.map rI)[i]? =some (.agg [.bool (decide (xs[i]<0)),di (digs E9 xs[i].natAbs)]):=by
 rw [List.getElem?_map,List.getElem?_eq_getElem h];rfl
theorem Zm9 (xs:List Int):(((xs.map rI).flatMap PV.cells).all PV.okCell)=true:=by
 rw [List.all_flatMap,List.all_map,List.all_eq_true];intro _ _;rfl
theorem Q94 {α:Type} {p:α→Bool} {l:List α} {i:Nat} (hi:i<l.length) (h:(l.take i).all p=true) (hp:p l[i]=true):(l.take (i+1)).all p=true:=by
 rw [List.take_add_one,List.all_append,h];simp [hi,hp]
theorem Q2x {α:Type} {p:α→Bool} {l:List α} {i:Nat} (hi:i<l.length) (hp:p l[i]=false):l.all p=false:=by
 rw [List.all_eq_false];exact⟨l[i],List.getElem_mem hi,by simp [hp]⟩
theorem Qa1 {α:Type} (l:List α) (i:Nat) (hi:i<l.length):l.take (i+1)=l.take i++[l[i]]:=by rw [List.take_add_one];simp [hi]
theorem ltT {i n:Nat} (h:i<n):((i:Int)<(n:Int))=True:=by simp only [eq_iff_iff,iff_true];omega
theorem ltF {i n:Nat} (h: ¬i<n):((i:Int)<(n:Int))=False:=by simp only [eq_iff_iff,iff_false];omega
theorem leT {i n:Nat} (h:i≤n):((i:Int)≤(n:Int))=True:=by simp only [eq_iff_iff,iff_true];omega
theorem leF {i n:Nat} (h: ¬i≤n):((i:Int)≤(n:Int))=False:=by simp only [eq_iff_iff,iff_false];omega
theorem nnT (i:Nat):((0:Int)≤(i:Int))=True:=by simp
end Go.Proofs.YtciddhkfbgkejaaGreatDoor

namespace Go.Dg
theorem Zfv {f:Nat→Int} {C:Nat}: ∀(m:Nat),(∀i,i<m→(f i).natAbs≤C)→(sm f m).natAbs≤m*C
 |0,_=>by simp [sm]
 |m+1,h=>by
  have h1:=Zfv m (fun i hi=>h i (by omega))
  have h2:=h m (Nat.lt_succ_self m)
  rw [sm,Nat.succ_mul]
  omega
theorem Q82 {xs:List Int} {B:Nat} (h: ∀x∈xs,x.natAbs<2^B) (i:Nat):(xs.getD i 0).natAbs<2^B:=by
 rw [List.getD_eq_getElem?_getD]
 cases e:xs[i]? with
 |none=>exact Nat.pow_pos (by decide)
 |some x=>exact h x (List.mem_of_getElem? e)
theorem Q01 {n k:Nat} (h:k≤n):bin n k*(n-k)=bin n (k+1)*(k+1):=by
 have h1:=Qla n k
 have e:((n-k:Nat):Int)=(n:Int)-(k:Int):=by omega
 rw [←e]at h1
 have h2:((bin n (k+1)*(k+1):Nat):Int)=((bin n k*(n-k):Nat):Int):=by rw [Int.natCast_mul,Int.natCast_mul,←h1];rfl
 omega
end Go.Dg

namespace Go.Proofs.YtciddhkfbgkejaaGreatDoor
open Go.Vl Go.RowKit Go.Dg
theorem Q92 {a b:Nat} (h:b≤a) (ha:a<9223372036854775808):IntKind.i64.wrap ((a:Int)-(b:Int))=((a-b:Nat):Int):=by rw [Qah (by omega) (by omega)];omega
theorem ne0 (a:Nat):(((a+1:Nat):Int)=0)=False:=by simp only [eq_iff_iff,iff_false];omega
theorem Qr6 {n i m:Nat} (hn:n≤50) (hm:m≤50):bin n i*m<9223372036854775808:=by
 have h1:=Qg3 n i
 have h2:2^n≤2^50:=Nat.pow_le_pow_right (by decide) hn
 have h3:bin n i*m≤2^50*50:=Nat.mul_le_mul (Nat.le_trans h1 h2) hm
 have e:(2:Nat)^50*50=56294995342131200:=rfl
 omega
end Go.Proofs.YtciddhkfbgkejaaGreatDoor

namespace Go.Vl
def Qj7:PV→PV
 | .nilS=> .slc []
 |v=>v
def Qxu:PV→PV
 | .agg cs=> .agg (cs.map Qj7)
 |v=>Qj7 v
theorem Qlo (v:PV):(Qxu v).cells=v.cells.map Qj7:=by
 cases v<;>rfl
theorem Qnt (l:List PV):(l.map Qxu).flatMap PV.cells=(l.flatMap PV.cells).map Qj7:=by
 induction l with
 |nil=>rfl
 |cons v l ih=>simp only [List.map_cons,List.flatMap_cons,List.map_append,Qlo,ih]
theorem Rep.up {w:World} {im:Im} {v:PV} {u:Value} (h:Rep w im v u):Rep w im (Qj7 v) u:=by
 cases v with
 |nilS=>cases h;exact .slcNil 0 (Nat.zero_le _)
 |_=>exact h
theorem LR.up {w:World} {im:Im} {ρ:Rho} {v:PV} {u:Value} (h:LR w im ρ v u):LR w im ρ (Qj7 v) u:=by
 cases v with
 |nilS=>rw [h.nilS_inv];exact .ext _ _ (.slcNil 0 (Nat.zero_le _))
 |_=>exact h
theorem RepL.up {w:World} {im:Im}: ∀{vs:List PV} {us:List Value},RepL w im vs us→RepL w im (vs.map Qj7) us
 |_,_,.nil=> .nil
 |_,_,.cons _ _ _ _ h t=> .cons _ _ _ _ h.up t.up
theorem LRL.up {w:World} {im:Im} {ρ:Rho}: ∀{vs:List PV} {us:List Value},LRL w im ρ vs us→LRL w im ρ (vs.map Qj7) us
 |_,_,.nil=> .nil
 |_,_,.cons _ _ _ _ h t=> .cons _ _ _ _ h.up t.up
theorem Qdh.up {own:Nat→Prop} {w:World} {im:Im} {ρ:Rho} {B:Box} {x:Option Nat} (h:Qdh own w im ρ B x):Qdh own w im ρ {B with els:=B.els.map Qxu} x:=by
 cases x with
 |none=>obtain⟨h1,h2,h3,h4⟩:=h;exact⟨by simp [h1],h2,h3,h4⟩
 |some g=>
  obtain⟨h1,h2,h3,h4,cur,us,rest,h5,h6,h7,h8,h9,h10,h11⟩:=h
  refine⟨h1,by simpa using h2,h3,?_,cur,us,rest,h5,h6,?_,?_,h9,h10,h11⟩
  ·intro e he
   obtain⟨v,hv,rfl⟩:=List.mem_map.1 he
   rw [Qlo,List.length_map];exact h4 v hv
  ·simp only [Qnt];exact h7.up
  ·intro ha;simp only [Qnt];exact(h8 ha).up
theorem Zpc {st:St} {b:Nat} {B:Box} (hB:st.box b=some B):Le st (st.setBox b {B with els:=B.els.map Qxu}):=by
 rintro C a w ⟨ρ,im,h⟩
 refine⟨ρ,im,h.root,h.nt,h.dfr,h.imc,h.var,?_,?_,?_⟩
 ·intro b'
  by_cases e:b'=b
  ·subst e;simp [St.setBox,Qas,h.rho b',hB]
  ·simp [St.setBox,Qaq _ _ _ _ e,h.rho b']
 ·intro b' x B' hx hB'
  by_cases e:b'=b
  ·subst e
   simp only [St.setBox,Qas,Option.some.injEq]at hB'
   subst hB'
   exact(h.box b' x B hx hB).up
  ·simp only [St.setBox,Qaq _ _ _ _ e]at hB'
   exact h.box b' x B' hx hB'
 ·have key: ∀b' B',(st.setBox b {B with els:=B.els.map Qxu}).box b'=some B'→ ∃B0,st.box b'=some B0∧B0.live=B'.live:=fun b' B' e=>by
   by_cases y:b'=b
   ·subst y
    simp only [St.setBox,Qas,Option.some.injEq]at e
    subst e;exact⟨B,hB,rfl⟩
   ·exact⟨B',by simpa only [St.setBox,Qaq _ _ _ _ y]using e,rfl⟩
  intro b1 b2 g B1 B2 g1 g2 e1 e2 l1 l2
  obtain⟨C1,x1,y1⟩:=key _ _ e1
  obtain⟨C2,x2,y2⟩:=key _ _ e2
  exact h.inj b1 b2 g C1 C2 g1 g2 x1 x2 (y1.trans l1) (y2.trans l2)
theorem Qvu {vs:List (Nat×PV)} {bs:List (Nat×Box)} {o:List (List PV)} {y:Yl} (b:Nat) {B:Box} (hB:lkp bs b=some B):
  Le (St.ofG vs bs o y) (St.ofG vs ((b,{B with els:=B.els.map Qxu})::bs) o y):=Zpc (st:=St.ofG vs bs o y) hB
end Go.Vl

namespace Go.Proofs.YtciddhkfbgkejaaGreatDoor
open Go.Vl Go.RowKit Go.Dg
theorem rI_z:rI 0= .agg [.bool false,.slc []]:=by simp [rI,di,Qax]
theorem Qe6 {xs:List Int} {i:Nat} (h:i<xs.length):xs.getD i 0=xs[i]:=by rw [List.getD_eq_getElem?_getD,List.getElem?_eq_getElem h];rfl
end Go.Proofs.YtciddhkfbgkejaaGreatDoor

namespace Go.Dg
def ev:List Int→Int→Int
 | [],_=>0
 |c::r,u=>c+u*ev r u
theorem Q02 (F:Nat→Int) (N i:Nat):((List.range N).map F).getD i 0=if i<N then F i else 0:=by
 rw [List.getD_eq_getElem?_getD,List.getElem?_map]
 by_cases h:i<N
 ·simp [h]
 ·rw [List.getElem?_eq_none (by simpa using h),if_neg h];rfl
def conv (p q:List Int):List Int:=(List.range (p.length+q.length-1)).map fun i=>sm (fun k=>p.getD k 0*q.getD (i-k) 0) (i+1)
def bd (B:Nat) (p:List Int):Prop:= ∀x∈p,x.natAbs<2^B
theorem Zfw {B:Nat} {p:List Int} (h:bd B p) (i:Nat):(p.getD i 0).natAbs<2^B:=Q82 h i
theorem Q03 {f:Nat→Int} {B m:Nat} (hm:m≤64) (h: ∀i,i<m→(f i).natAbs<2^B):(sm f m).natAbs<2^(B+7):=by
 have h1:=Zfv m (fun i hi=>Nat.le_of_lt (h i hi))
 have h2:m*2^B≤64*2^B:=Nat.mul_le_mul_right _ hm
 have hp:0<2^B:=Nat.pow_pos (by decide)
 rw [Nat.pow_add,show(2:Nat)^7=128 from rfl]
 omega
end Go.Dg

namespace Go.Proofs.YtciddhkfbgkejaaGreatDoor
open Go.Vl Go.RowKit Go.Dg
theorem Qil {n:Nat} (h:0<n) (hn:n<9223372036854775808):IntKind.i64.wrap ((n:Int)-1)=((n-1:Nat):Int):=by rw [Qah (by omega) (by omega)];omega
def Qat (l:List Int):PV:= .slc (l.map (PV.int .i64))
theorem Qcn (l:List Int) (i:Nat) (h:i<l.length):(l.map (PV.int .i64))[i]? =some (.int .i64 l[i]):=by rw [List.getElem?_map,List.getElem?_eq_getElem h];rfl
theorem map_take {α β:Type} (f:α→β) (l:List α) (i:Nat) (hi:i<l.length):(l.take (i+1)).map f=(l.take i).map f++[f l[i]]:=by rw [Qa1 l i hi,List.map_append];rfl
end Go.Proofs.YtciddhkfbgkejaaGreatDoor

namespace Go.Vl
open Go.RowKit
variable {P:Program} {tb:Tab} {nt:Nat} {ks:List Nat} {ops:Array Oper} {base i:Nat} {rest:List Oper} {accs:List Acc} {draw:Bool} {k:List It} {Q:Exit→St→Prop} {st:St}
theorem Qbs {dst:Option Tmp} {f f':FuncId} {args args':List PV} {bxs bxsA:List (Nat×Box)} {es:List Eff} {θ ν:List (Nat×Nat)} {l:Acc} {r:PV} {bxs':List (Nat×Box)} (hs:Qco P f' args' bxsA r bxs') (hf:f'=f) (ha:args'=args) (hb:bxsA=bxs)
  (h:gland P tb nt ks (land θ ν bxs' r) (Qkz r bxs') es l ops base i dst rest accs draw k Q st):Q72 P tb nt ks f args bxs es θ ν l ops base i dst rest accs draw k Q st:=by
 subst hf;subst ha;subst hb;exact Qby _ _ _ _ _ _ _ _ _ hs h
end Go.Vl

namespace Go.Vl
open Go.RowKit
mutual
def Vgo (P:Program) (nt:Nat):List It→(Exit→St→Prop)→St→Prop
 | [],Q,st=>Q .normal st
 | .blk _::k,Q,st=>Vgo P nt k Q st
 | .again J::_,_,st=>J st
 | .code c::k,Q,st=>Vwp P nt c (fun e s=>Vleave P nt k Q e s) st
def Vleave (P:Program) (nt:Nat):List It→(Exit→St→Prop)→Exit→St→Prop
 | [],Q,e,st=>Q e st
 | .blk j::k,Q,e,st=>match e with
  | .exit i=>if i=j then Vgo P nt k Q st else Vleave P nt k Q (.exit i) st
  | .normal=>Vgo P nt k Q st
  |e=>Vleave P nt k Q e st
 | .again J::k,Q,e,st=>match e with
  | .normal=>J st
  |e=>Vleave P nt k Q e st
 | .code c::k,Q,e,st=>match e with
  | .normal=>Vwp P nt c (fun e s=>Vleave P nt k Q e s) st
  |e=>Vleave P nt k Q e st
end
section
variable {P:Program} {tb:Tab} {nt:Nat} {ks:List Nat} {Q:Exit→St→Prop}
theorem Qll (hm:P.follows .mixedOrders=true): ∀(k:List It),(∀st,go P tb nt ks k Q st→Vgo P nt k Q st)∧ ∀e st,gleave P tb nt ks k Q e st→Vleave P nt k Q e st
 | []=>⟨fun st h=>by simpa only [go,Vgo]using h,fun e st h=>by simpa only [gleave,Vleave]using h⟩
 | .blk j::k=>by
  obtain⟨h1,h2⟩:=Qll hm k
  refine⟨fun st h=> ?_,fun e st h=> ?_⟩
  ·simp only [go]at h;simp only [Vgo];exact h1 st h
  ·cases e with
   |exit i=>
    simp only [gleave]at h;simp only [Vleave]
    split at h
    ·rename_i e;rw [if_pos e];exact h1 st h
    ·rename_i e;rw [if_neg e];exact h2 _ st h
   |normal=>simp only [gleave]at h;simp only [Vleave];exact h1 st h
   |_=>simp only [gleave]at h;simp only [Vleave];exact h2 _ st h
 | .again J::k=>by
  obtain⟨h1,h2⟩:=Qll hm k
  refine⟨fun st h=>by simpa only [go,Vgo]using h,fun e st h=> ?_⟩
  cases e with
  |normal=>simpa only [gleave,Vleave]using h
  |_=>simp only [gleave]at h;simp only [Vleave];exact h2 _ st h
 | .code c::k=>by
  obtain⟨h1,h2⟩:=Qll hm k
  have key: ∀st,vx P tb nt ks c (fun e s=>gleave P tb nt ks k Q e s) st→Vwp P nt c (fun e s=>Vleave P nt k Q e s) st:=fun st h=>Qda (Qb1 hm c _ _ h) fun e s q=>h2 e s q
  refine⟨fun st h=> ?_,fun e st h=> ?_⟩
  ·simp only [go]at h;simp only [Vgo];exact key st h
  ·cases e with
   |normal=>simp only [gleave]at h;simp only [Vleave];exact key st h
   |_=>simp only [gleave]at h;simp only [Vleave];exact h2 _ st h
theorem v_go (hm:P.follows .mixedOrders=true) {k:List It} {st:St} (h:go P tb nt ks k Q st):Vgo P nt k Q st:=(Qll hm k).1 st h
def codes (L:List Code) (k:List It):List It:=L.foldr (fun c k=> .code c::k) k
theorem Q8h {st1:St} {c:Code} {k:List It} (h2:Vgo P nt (.code c::k) Q st1): ∀(L:List Code),(∀st,Vgo P nt (codes L (.again (fun s=>Le s st1):: .code c::k)) Q st→Vgo P nt (codes L (.code c::k)) Q st)∧
  ∀e st,Vleave P nt (codes L (.again (fun s=>Le s st1):: .code c::k)) Q e st→Vleave P nt (codes L (.code c::k)) Q e st
 | []=>by
  have base: ∀st,Le st st1→Vgo P nt (.code c::k) Q st:=fun st h=>by
   simp only [Vgo]at h2 ⊢;exact Zok h2 h
  refine⟨fun st h=>base st (by simpa only [codes,List.foldr,Vgo]using h),fun e st h=> ?_⟩
  cases e with
  |normal=>
   have:=base st (by simpa only [codes,List.foldr,Vleave]using h)
   simp only [codes,List.foldr,Vleave];simpa only [Vgo]using this
  |_=>simpa only [codes,List.foldr,Vleave]using h
 |d::L=>by
  obtain⟨h3,h4⟩:=Q8h h2 L
  refine⟨fun st h=> ?_,fun e st h=> ?_⟩
  ·simp only [codes,List.foldr,Vgo]at h ⊢
   exact Qda h fun e s q=>h4 e s q
  ·cases e with
   |normal=>
    simp only [codes,List.foldr,Vleave]at h ⊢
    exact Qda h fun e s q=>h4 e s q
   |_=>simp only [codes,List.foldr,Vleave]at h ⊢;exact h4 _ _ h
theorem Zo8 (hm:P.follows .mixedOrders=true) (tb:Tab) (ks:List Nat) {st st1:St} (L:List Code) {c:Code} {k:List It} (h1:go P tb nt ks (codes L (.again (fun s=>Le s st1):: .code c::k)) Q st) (h2:Vgo P nt (.code c::k) Q st1):
  Vgo P nt (codes L (.code c::k)) Q st:=(Q8h h2 L).1 st (v_go hm h1)
def Qh5:Code→List Code
 | .seq a b=>a::Qh5 b
 |c=>[c]
theorem Q8i {k:List It}: ∀(c:Code),(∀st,Vgo P nt (codes (Qh5 c) k) Q st→Vgo P nt (.code c::k) Q st)∧ ∀e st,Vleave P nt (codes (Qh5 c) k) Q e st→Vleave P nt (.code c::k) Q e st
 | .seq a b=>by
  obtain⟨h1,h2⟩:=Q8i (k:=k) b
  have key: ∀st,Vwp P nt a (fun e s=>Vleave P nt (codes (Qh5 b) k) Q e s) st→Vwp P nt (.seq a b) (fun e s=>Vleave P nt k Q e s) st:=fun st h=>Qvb (Qda h fun e s q=>by
   have q:=h2 e s q
   cases e with
   |normal=>simpa only [Vleave,vthen]using q
   |_=>simpa only [Vleave,vthen]using q)
  refine⟨fun st h=> ?_,fun e st h=> ?_⟩
  ·simp only [Qh5,codes,List.foldr,Vgo]at h ⊢;exact key st h
  ·cases e with
   |normal=>simp only [Qh5,codes,List.foldr,Vleave]at h ⊢;exact key st h
   |_=>
    simp only [Qh5,codes,List.foldr,Vleave]at h ⊢
    have:=h2 _ _ h
    simpa only [Vleave]using this
 | .skip| .label _| .exit _| .ret| .region _ _ _| .cond _ _ _| .block _ _| .loop _| .rangeFunc _ _ _ _| .scope _| .goto _| .refuse _=>⟨fun _ h=>h,fun _ _ h=>h⟩
theorem Zo9 {k:List It} {c:Code} {st:St} (h:Vgo P nt (codes (Qh5 c) k) Q st):Vgo P nt (.code c::k) Q st:=(Q8i c).1 st h
theorem Qtg (k:List It): ∀(A B:List Code),codes (A++B) k=codes A (codes B k)
 | [],_=>rfl
 |a::A,B=>by simp only [List.cons_append,codes,List.foldr];rw [←codes,Qtg k A B];rfl
theorem Qvr (hm:P.follows .mixedOrders=true) (tb:Tab) (ks:List Nat) {C:List Code} (n:Nat) (hn:Nat.blt n C.length=true) {st:St} (st1:St)
  (h1:go P tb nt ks (codes (C.take n) (.again (fun s=>Le s st1)::codes (C.drop n) [])) Q st) (h2:Vgo P nt (codes (C.drop n) []) Q st1):Vgo P nt (codes C []) Q st:=by
 have hn:n<C.length:=by rw [Nat.blt_eq]at hn;exact hn
 have e:C.drop n=C[n]::C.drop (n+1):=List.drop_eq_getElem_cons hn
 have e2:codes C []=codes (C.take n) (.code C[n]::codes (C.drop (n+1)) []):=by
  have:=Qtg [] (C.take n) (C.drop n)
  rw [List.take_append_drop]at this
  rw [this,e];rfl
 rw [e2]
 have e3:codes (C.drop n) []= .code C[n]::codes (C.drop (n+1)) []:=by rw [e];rfl
 rw [e3]at h1 h2
 exact Zo8 hm tb ks _ h1 h2
theorem Zgm {f:FuncId} {fn:Func} {c:Code} {args:List PV} {r:PV} (nt:Nat) (rs:List ResultVar) (hf:P.funcs[f]? =some fn) (hb:fn.body=some c)
  (hc:callable P f=true) (hnt:fn.ntmps=nt) (hrs:fn.results.toList=rs) (hn:Nat.ble args.length nt=true)
  (h:Vgo P nt (codes (Qh5 c) []) (vret P rs (· =r)) (St.of (Qbw 0 args) [])):Qag P f args r:=
 Qqr nt rs hf hb hc hnt hrs hn (by
  have h:=Zo9 h
  simp only [Vgo,Vleave]at h
  exact h)
end
end Go.Vl

namespace Go.Vl
open Go.RowKit
def Q0g (P:Program) (tb:Tab) (nt:Nat) (ks:List Nat) (c:Code) (k:List It) (Q:Exit→St→Prop):List Nat→St→Prop
 | [],_=>False
 |_::l,st=>go P tb nt ks (.code c:: .again (Q0g P tb nt ks c k Q l)::k) Q st
theorem Q0h (P:Program) (tb:Tab) (nt:Nat) (ks:List Nat) (c:Code) (k:List It) (Q:Exit→St→Prop) (i:Nat) (l:List Nat) (st:St):Q0g P tb nt ks c k Q (i::l) st=go P tb nt ks (.code c:: .again (Q0g P tb nt ks c k Q l)::k) Q st:=rfl
attribute [go_sem] Q0h
theorem Qe9 {P:Program} {tb:Tab} {nt:Nat} {ks:List Nat} {k:List It} {Q:Exit→St→Prop} {st:St} (hm:P.follows .mixedOrders=true) {c:Code} (l:List Nat) (h:Q0g P tb nt ks c k Q l st):go P tb nt ks (.code (.loop c)::k) Q st:=by
 simp only [go,vx]
 refine Qqn (fun x:{x:List Nat×St // Q0g P tb nt ks c k Q x.1 x.2}=>x.1.2) (fun x=>x.1.1.length) ⟨(l,st),h⟩ (fun _ _ _ h=>h) ?_
 rintro⟨⟨l,s⟩,h⟩
 cases l with
 |nil=>exact h.elim
 |cons i l=>
  simp only [Q0g,go]at h
  refine Qda (Qb1 (tb:=tb) (ks:=ks) hm c _ _ h) ?_
  intro e s q
  cases e with
  |normal=>simp only [gleave]at q;exact⟨⟨(l,s),q⟩,by simp,fun _ _ _ h=>h⟩
  |_=>simpa only [gleave,vthen]using q
end Go.Vl

namespace Go.Vl
open Go.RowKit
section
variable {P:Program} {b:Frame} {a:Act} {k:List Item} {cs:List Frame} {w:World}
theorem Qey {c:Code}:step P (lone (b.atR a (.code (.scope c)::k)) cs w)= .next (lone (b.atR a (.code c:: .inScope c::k)) cs w):=
 step_lone_go (by simp [stepG,stepG.exec,Frame.atR])
theorem Qq2 {c:Code}:step P (lone (b.atR a (.inScope c::k)) cs w)= .next (lone (b.atR a k) cs w):=
 step_lone_go (by simp [stepG,stepG.exec,Frame.atR])
end
theorem Q8k {P:Program} {nt:Nat} {Q:Exit→St→Prop} {st:St} {c:Code} (h:Vwp P nt c (fun e s=>(∀l,e≠ .goto l)∧Q e s) st):Vwp P nt (.scope c) Q st:=fun C h1 h2 rd a w hr=>by
 subst h1;subst h2
 intro b k cs hro hb hroom
 obtain⟨e,a₁,w₁,⟨s,hq,hr1⟩,harr⟩:=h C rfl rfl rd a w hr b (.inScope c::k) cs hro hb hroom
 cases e with
 |normal=>exact⟨_,a₁,w₁,⟨s,hq.2,hr1⟩,.of_steps (.one (fenced_calm hb hroom rfl) Qey) (StepsIn.trans harr (.one (fenced_calm hb hroom rfl) Qq2))⟩
 |exit id=>exact⟨_,a₁,w₁,⟨s,hq.2,hr1⟩,.of_steps (.one (fenced_calm hb hroom rfl) Qey) ⟨fun k' hk=>harr.1 k' (by simp [exitTo,hk]),fun hr hk=>harr.2 hr (by simp [exitTo,hk])⟩⟩
 |goto l=>exact(hq.1 l rfl).elim
 |ret=>exact⟨_,a₁,w₁,⟨s,hq.2,hr1⟩,.of_steps (.one (fenced_calm hb hroom rfl) Qey) harr⟩
 |panic ch=>exact⟨_,a₁,w₁,⟨s,hq.2,hr1⟩,.of_steps (.one (fenced_calm hb hroom rfl) Qey) harr⟩
 |outgrown=>exact⟨_,a₁,w₁,⟨s,hq.2,hr1⟩,.of_steps (.one (fenced_calm hb hroom rfl) Qey) harr⟩
def Qks (P:Program) (tb:Tab) (nt:Nat) (ks:List Nat) (k:List It) (Q:Exit→St→Prop) (e:Exit) (s:St):Prop:=(∀l,e≠ .goto l)∧gleave P tb nt ks k Q e s
section
variable (P:Program) (tb:Tab) (nt:Nat) (ks:List Nat) (k:List It) (Q:Exit→St→Prop) (s:St)
theorem Qq3:Qks P tb nt ks k Q .normal s=go P tb nt ks k Q s:=by
 unfold Qks;rw [Qci];exact propext ⟨fun h=>h.2,fun h=>⟨fun l=>by simp,h⟩⟩
theorem Qvs (i:Nat):Qks P tb nt ks k Q (.exit i) s=gleave P tb nt ks k Q (.exit i) s:=by
 unfold Qks;exact propext ⟨fun h=>h.2,fun h=>⟨fun l=>by simp,h⟩⟩
theorem Q0k:Qks P tb nt ks k Q .ret s=gleave P tb nt ks k Q .ret s:=by
 unfold Qks;exact propext ⟨fun h=>h.2,fun h=>⟨fun l=>by simp,h⟩⟩
end
attribute [go_sem] Qq3 Qvs Q0k List.append_eq
theorem Zlx {P:Program} {tb:Tab} {nt:Nat} {ks:List Nat} {k:List It} {Q:Exit→St→Prop} {st:St} (hm:P.follows .mixedOrders=true) {c:Code} (h:go P tb nt ks [.code c] (Qks P tb nt ks k Q) st):go P tb nt ks (.code (.scope c)::k) Q st:=by
 simp only [go,vx]at h ⊢
 refine Q8k (Qda (Qb1 (tb:=tb) (ks:=ks) hm c _ _ h) ?_)
 intro e s q
 have q:gleave P tb nt ks [] (Qks P tb nt ks k Q) e s:=q
 simp only [gleave]at q
 exact q
end Go.Vl
