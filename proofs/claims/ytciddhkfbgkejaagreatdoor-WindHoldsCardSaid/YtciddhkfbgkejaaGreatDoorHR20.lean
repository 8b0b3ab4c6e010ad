/-
  HI13, US2, HR20 (merged for the claim).
-/
import Derived.Test.YtciddhkfbgkejaaGreatDoorDwh
import Derived.Test.YtciddhkfbgkejaaGreatDoorUV
import Derived.LaidMore
import Derived.OpenShut
import Derived.Stop.Joined
import Derived.Test.YtciddhkfbgkejaaGreatDoorRows
import Derived.Test.YtciddhkfbgkejaaGreatDoorTie
import Derived.Test.YtciddhkfbgkejaaGreatDoorCards
import Derived.SevenTiedAt
import Derived.LaidSub
import Derived.MakeChecks
import Derived.Lib.LaidTab
set_option linter.unusedSimpArgs false
set_option linter.unusedVariables false
namespace Go.Proofs.YtciddhkfbgkejaaGreatDoor
open Go.Vl Go.RowKit Go.Dg
theorem Zgs (l:List Wd) (p:List Sg) {i:Nat} (h:i<p.length):(p.map (alV l))[i]? =some (.agg [.int .i64 (atW Wd.ux l (posS p[i] 0) (posS p[i] 1) (posS p[i] 2) p[i].f),.int .i64 (atW Wd.uy l (posS p[i] 0) (posS p[i] 1) (posS p[i] 2) p[i].f),.int .i64 (atW Wd.uz l (posS p[i] 0) (posS p[i] 1) (posS p[i] 2) p[i].f)]):=by
 rw [List.getElem?_map,List.getElem?_eq_getElem h];rfl
theorem Qx3 {p:List Sg} (hV:Qbn p=true) {i:Nat} (h:i<p.length):lasts p p[i].f=true:=by
 have hl:p.length-1<p.length:=by omega
 have h0:0<p.length:=by omega
 have d:=(Qbb (Qcp hV i h)).1
 have m:=Qc2 hV (p.length-1) i hl (by omega)
 have eb:pBeg p=p[0].f:=by unfold pBeg;rw [sgD h0]
 have ee:pEnd p=p[p.length-1].t:=by unfold pEnd;rw [sgD hl]
 unfold lasts
 rw [Bool.and_eq_true,decide_eq_true_eq,decide_eq_true_eq,eb,ee]
 refine⟨?_,by omega⟩
 cases i with
 |zero=>exact Int.le_refl _
 |succ i=>
  have d0:=(Qbb (Qcp hV 0 h0)).1
  have m0:=Qc2 hV i 0 (by omega) (by omega)
  have mt:=Qdy (Qdd hV i h)
  omega
theorem Zgt {s:Sg} (h:Qbh s=true):atIx [s] s.f=0:=Qsr (p:=[s]) (Qkc h)
theorem Zgu {p:List Sg} (hp: ∀s∈p,okSg s) (hV:Qbn p=true) (hl:p.length≤1000000) {i:Nat} (h:i<p.length):Qag Tryz.prog 29 [.slc (p.map sgPV),.int .i64 p[i].f] (.tup [.agg [.int .i64 (posS p[i] 0),.int .i64 (posS p[i] 1),.int .i64 (posS p[i] 2)],.int .i64 0]):=by
 have h1:=Zg6 p p[i].f hp hl (hp p[i] (List.getElem_mem h)).f
 unfold atPV at h1
 rw [if_pos hV,if_pos (Qx3 hV h)]at h1
 obtain⟨e1,e2⟩:=Zgq hV h
 have hv:=Qcp hV i h
 have eq: ∀k,k<3→rnd (exQ p p[i].f k) (exO p p[i].f)=posS p[i] k:=by
  intro k hk
  unfold posS exQ exO exA exD
  rw [e1 k hk,e2,Zgt hv]
  show _=rnd (plQ p[i] (p[i].f-p[i].f) (p[i].t-p[i].f) k) (plO p[i] (p[i].f-p[i].f) (p[i].t-p[i].f))
  rw [Int.sub_self]
 rw [eq 0 (by decide),eq 1 (by decide),eq 2 (by decide)]at h1
 exact h1
theorem Zgv {s:Sg} (hs:okSg s) (hv:Qbh s=true):ptB (posS s 0) (posS s 1) (posS s 2)=true:=by
 obtain⟨b1, -, -⟩:=Zg5 (p:=[s]) (t:=s.f) (fun x hx=>by rw [List.mem_singleton.1 hx];exact hs) (Qkc hv) (Qo6 hv)
 have h0:=(b1 0 (by decide)).2
 have h1:=(b1 1 (by decide)).2
 have h2:=(b1 2 (by decide)).2
 simp only [ptB,decide_eq_true_eq]
 exact⟨h0,h1,h2⟩
theorem Qo2 {l:List Wd} (hv:Qat l=true) (hl:l.length≤maxLen) {x y z t:Int} (hp:ptB x y z=true) (ht:0≤t∧t≤3600000):Qag Tryz.prog 16 [wsPV l,.agg [.int .i64 x,.int .i64 y,.int .i64 z],.int .i64 t] (.tup [.agg [.int .i64 (atW Wd.ux l x y z t),.int .i64 (atW Wd.uy l x y z t),.int .i64 (atW Wd.uz l x y z t)],.int .i64 0]):=by
 have h:=Zar l x y z t hl
 rw [hv,hp,decide_eq_true ht.1,decide_eq_true ht.2]at h
 exact h
set_option maxHeartbeats 16000000 in
set_option maxRecDepth 100000 in
theorem Qo3 (a b:List Wd) (x y z t:Int) (p:List Sg) (hal:a.length≤3) (hbl:b.length≤3) (va:Qat a=true) (vb:Qat b=true) (hpt:ptB x y z=true) (ht:0≤t∧t≤3600000) (hF:fewB p 6=true) (hr:(∀s∈p,rawW s)∧p.length≤maxLen):
  Qag Tryz.prog 7 [wsPV a,wsPV b,.agg [.int .i64 x,.int .i64 y,.int .i64 z],.int .i64 t,.slc (p.map sgPV)] (.bool true):=by
 have hk:=Qo1
 have p3:(6:Nat)≤maxLen:=by decide
 have a3:((3:Int)<(a.length:Int))=False:=eq_false (by omega)
 have b3:((3:Int)<(b.length:Int))=False:=eq_false (by omega)
 have v1:=Qg4 a (by omega)
 have v2:=Qg4 b (by omega)
 have v3:=Qjj x y z
 have v4:=Zaw p 6 (by decide) hr.2
 rw [va]at v1
 rw [vb]at v2
 rw [hpt]at v3
 rw [hF]at v4
 unfold Qdz at v4
 have t1:(t<0)=False:=eq_false (by omega)
 have t2:(3600000<t)=False:=eq_false (by omega)
 have k1:(a.length*88≤140737488355328)=True:=eq_true (by omega)
 have k1':(b.length*88≤140737488355328)=True:=eq_true (by omega)
 have k2:(a.length≤maxLen)=True:=eq_true (by omega)
 have k2':(b.length≤maxLen)=True:=eq_true (by omega)
 have k3:=Zap a
 have k3':=Zap b
 have k4:=Zaq a
 have k4':=Zaq b
 have k5:(a.map wdPV).take a.length=a.map wdPV:=List.take_of_length_le (by simp)
 have k5':(b.map wdPV).take b.length=b.map wdPV:=List.take_of_length_le (by simp)
 have k6:((a.length+b.length)*88≤140737488355328)=True:=eq_true (by omega)
 have k6':((b.length+a.length)*88≤140737488355328)=True:=eq_true (by omega)
 have k7:(a.length+b.length≤maxLen)=True:=eq_true (by omega)
 have k7':(b.length+a.length≤maxLen)=True:=eq_true (by omega)
 refine Zjk 248 [.tmp 10] Tryz.func7 rfl (by kernel_rfl) (by kernel_rfl) (by kernel_rfl) (by kernel_rfl) ?_
 refine Q3r mixed [] [0,1,2,3,4,7,10,11,12,13,14,15,16,17,18,19,20,21,22,23,24,25,26,27,28,29,30,66,186,194,205,209,246] 4 rfl (St.of [(0,wsPV a),(1,wsPV b),(3,.int .i64 t),(4,.slc (p.map sgPV)),(7,.bp 0 3 0 0),(11,wsPV (a++b)),(12,wsPV (b++a))] [(0,{els:=[.agg [.int .i64 x,.int .i64 y,.int .i64 z]],esz:=3,ety:=26,fro:=0,live:=true,arr:=false})]) ?_ ?_
 ·simp only [codes,Qij,List.take_succ_cons,List.take_zero,List.drop_succ_cons,List.drop_zero,List.foldr_cons,List.foldr_nil]
  clear hk
  by_cases hna:a=[]
  ·subst hna
   have z0:((3:Int)<((0:Nat):Int))=False:=eq_false (by decide)
   rw [List.nil_append,List.append_nil]
   by_cases hnb:b=[]
   ·subst hnb
    unfold wsPV at v1 v2 ⊢
    rw [List.map_nil]at v1 v2 ⊢
    repeat (first|(simp -implicitDefEqProofs only [go_sem,Nat.reduceAdd,Nat.reduceMul,Nat.reduceEqDiff,Nat.reduceLT,Nat.reduceLeDiff,reduceCtorEq,Int.reduceLT,z0,t1,t2,Bool.not_true,decide_false])|((with_reducible refine Qab (v1) ?_ ?_ ?_);(with_reducible rfl);rfl)|((with_reducible refine Qab (v2) ?_ ?_ ?_);(with_reducible rfl);rfl)|((with_reducible refine Qab (v3) ?_ ?_ ?_);(with_reducible rfl);rfl)|((with_reducible refine Qab (v4) ?_ ?_ ?_);(with_reducible rfl);rfl)|(with_reducible exact Qaa _ _ (by kernel_rfl))|(with_reducible refine And.intro (Qaa _ _ (by kernel_rfl)) ?_))
    refine Le.trans (Qe8 11 rfl rfl rfl rfl (by simp)) (Le.trans (Qe8 12 rfl rfl rfl rfl (by simp)) (Qan (θ:=[(0,0)]) rfl ?_ ?_))
    ·simp [Qae,lkp,ren1,ren0,Qam,List.drop_zero,List.take_zero]
    ·exact⟨⟨rfl,rfl,rfl,rfl,rfl,.inr ⟨rfl,_,_,rfl,rfl,rfl,rfl⟩⟩,trivial⟩
   have h0':(b.map wdPV).isEmpty=false:=by cases b with|nil=>exact absurd rfl hnb|cons=>rfl
   have e0:wsPV []= .slc []:=rfl
   rw [e0]at v1 ⊢
   repeat (first|(simp -implicitDefEqProofs only [go_sem,Nat.reduceAdd,Nat.reduceMul,Nat.reduceEqDiff,Nat.reduceLT,Nat.reduceLeDiff,reduceCtorEq,Int.reduceLT,z0,b3,t1,t2,Bool.not_true,decide_false,h0',k1',k2',k3',k4',k5',List.length_map])|((with_reducible refine Qab (v1) ?_ ?_ ?_);(with_reducible rfl);rfl)|((with_reducible refine Qab (v2) ?_ ?_ ?_);(with_reducible rfl);rfl)|((with_reducible refine Qab (v3) ?_ ?_ ?_);(with_reducible rfl);rfl)|((with_reducible refine Qab (v4) ?_ ?_ ?_);(with_reducible rfl);rfl)|(with_reducible exact Qaa _ _ (by kernel_rfl))|(with_reducible refine And.intro (Qaa _ _ (by kernel_rfl)) ?_))
   refine Le.trans (Qe8 11 rfl rfl rfl rfl (by simp)) (Le.trans (Qe8 12 rfl rfl rfl rfl (by simp)) (Qan (θ:=[(0,0)]) rfl ?_ ?_))
   ·simp [Qae,lkp,ren1,ren0,Qam,wsPV,List.drop_zero,k5']
   ·exact⟨⟨rfl,rfl,rfl,rfl,rfl,.inr ⟨rfl,_,_,rfl,rfl,rfl,rfl⟩⟩,trivial⟩
  have h0:(a.map wdPV).isEmpty=false:=by cases a with|nil=>exact absurd rfl hna|cons=>rfl
  by_cases hnb:b=[]
  ·subst hnb
   have z0:((3:Int)<((0:Nat):Int))=False:=eq_false (by decide)
   rw [List.nil_append,List.append_nil]
   have e0:wsPV []= .slc []:=rfl
   rw [e0]at v2 ⊢
   repeat (first|(simp -implicitDefEqProofs only [go_sem,Nat.reduceAdd,Nat.reduceMul,Nat.reduceEqDiff,Nat.reduceLT,Nat.reduceLeDiff,reduceCtorEq,Int.reduceLT,z0,a3,t1,t2,Bool.not_true,decide_false,h0,k1,k2,k3,k4,k5,List.length_map])|((with_reducible refine Qab (v1) ?_ ?_ ?_);(with_reducible rfl);rfl)|((with_reducible refine Qab (v2) ?_ ?_ ?_);(with_reducible rfl);rfl)|((with_reducible refine Qab (v3) ?_ ?_ ?_);(with_reducible rfl);rfl)|((with_reducible refine Qab (v4) ?_ ?_ ?_);(with_reducible rfl);rfl)|(with_reducible exact Qaa _ _ (by kernel_rfl))|(with_reducible refine And.intro (Qaa _ _ (by kernel_rfl)) ?_))
   refine Le.trans (Qe8 11 rfl rfl rfl rfl (by simp)) (Le.trans (Qe8 12 rfl rfl rfl rfl (by simp)) (Qan (θ:=[(0,0)]) rfl ?_ ?_))
   ·simp [Qae,lkp,ren1,ren0,Qam,wsPV,List.drop_zero,k5]
   ·exact⟨⟨rfl,rfl,rfl,rfl,rfl,.inr ⟨rfl,_,_,rfl,rfl,rfl,rfl⟩⟩,trivial⟩
  have h0':(b.map wdPV).isEmpty=false:=by cases b with|nil=>exact absurd rfl hnb|cons=>rfl
  repeat (first|(simp -implicitDefEqProofs only [go_sem,Nat.reduceAdd,Nat.reduceMul,Nat.reduceEqDiff,Nat.reduceLT,Nat.reduceLeDiff,reduceCtorEq,a3,b3,t1,t2,Bool.not_true,decide_false,h0,h0',k6,k6',k7,k7',k1,k1',k2,k2',k3,k3',k4,k4',k5,k5',List.length_map])|((with_reducible refine Qab (v1) ?_ ?_ ?_);(with_reducible rfl);rfl)|((with_reducible refine Qab (v2) ?_ ?_ ?_);(with_reducible rfl);rfl)|((with_reducible refine Qab (v3) ?_ ?_ ?_);(with_reducible rfl);rfl)|((with_reducible refine Qab (v4) ?_ ?_ ?_);(with_reducible rfl);rfl)|(with_reducible exact Qaa _ _ (by kernel_rfl))|(with_reducible refine And.intro (Qaa _ _ (by kernel_rfl)) ?_))
  have k8:(a.map wdPV++b.map wdPV).take (a.length+b.length)=a.map wdPV++b.map wdPV:=List.take_of_length_le (by simp)
  have k8':(b.map wdPV++a.map wdPV).take (b.length+a.length)=b.map wdPV++a.map wdPV:=List.take_of_length_le (by simp)
  refine Le.trans (Qe8 11 rfl rfl rfl rfl (by simp)) (Le.trans (Qe8 12 rfl rfl rfl rfl (by simp)) (Qan (θ:=[(0,0)]) rfl ?_ ?_))
  ·simp [Qae,lkp,ren1,ren0,Qam,wsPV,List.drop_zero,List.map_append,k8,k8']
  ·exact⟨⟨rfl,rfl,rfl,rfl,rfl,.inr ⟨rfl,_,_,rfl,rfl,rfl,rfl⟩⟩,trivial⟩
 ·clear v1 v2 v3 v4 k1 k1' k2 k2' k3 k3' k4 k4' k5 k5' k6 k6' k7 k7' a3 b3 t1 t2
  obtain⟨l6,l8⟩:=Qua hF
  have hp: ∀s∈p,okSg s:=fun s hs=>Zby (hr.1 s hs) (fun c hc=>by have:=l8 s hs c hc;omega)
  have vab:=Qly va vb hal hbl
  have vba:=Qly vb va hbl hal
  have lab:(a++b).length≤6:=by rw [List.length_append];omega
  have lba:(b++a).length≤6:=by rw [List.length_append];omega
  have f1:=Qo2 va (by omega) hpt ht
  have f2:=Qo2 vb (by omega) hpt ht
  have f3:=Qo2 vab (by omega) hpt ht
  have f4:=Qo2 vba (by omega) hpt ht
  have s1:=Qgo (a++b) (by omega) (fun _=>lab)
  have s2:=Qgo (b++a) (by omega) (fun _=>lba)
  rw [if_pos vab]at s1
  rw [if_pos vba,Qqt b a]at s2
  have g1:=Qyb (a++b) p hp (by omega) (by omega)
  unfold Qdz at g1
  have q:=Zgo (a++b) x y z t
  simp only [sqL]at q
  rw [Qjh _ b a,Qjh _ b a,Qjh _ b a]at f4
  have w1:=Ql1 (.inl rfl:Wd.ux=Wd.ux∨_) vab x y z t
  have w2:=Ql1 (.inr (.inl rfl):Wd.uy=Wd.ux∨Wd.uy=Wd.uy∨_) vab x y z t
  have w3:=Ql1 (.inr (.inr rfl):Wd.uz=Wd.ux∨Wd.uz=Wd.uy∨Wd.uz=Wd.uz) vab x y z t
  have e1:=Qj9 Wd.ux a b x y z t
  have e2:=Qj9 Wd.uy a b x y z t
  have e3:=Qj9 Wd.uz a b x y z t
  have c1:IntKind.i64.wrap (atW Wd.ux a x y z t+atW Wd.ux b x y z t)=atW Wd.ux (a++b) x y z t:=by rw [←e1];exact Qai (by omega) (by omega)
  have c2:IntKind.i64.wrap (atW Wd.uy a x y z t+atW Wd.uy b x y z t)=atW Wd.uy (a++b) x y z t:=by rw [←e2];exact Qai (by omega) (by omega)
  have c3:IntKind.i64.wrap (atW Wd.uz a x y z t+atW Wd.uz b x y z t)=atW Wd.uz (a++b) x y z t:=by rw [←e3];exact Qai (by omega) (by omega)
  clear e1 e2 e3
  generalize atW Wd.ux (a++b) x y z t=u0 at*
  generalize atW Wd.uy (a++b) x y z t=u1 at*
  generalize atW Wd.uz (a++b) x y z t=u2 at*
  generalize Qfe (a++b)=S at*
  generalize atW Wd.ux a x y z t=a0 at*
  generalize atW Wd.uy a x y z t=a1 at*
  generalize atW Wd.uz a x y z t=a2 at*
  generalize atW Wd.ux b x y z t=b0 at*
  generalize atW Wd.uy b x y z t=b1 at*
  generalize atW Wd.uz b x y z t=b2 at*
  have q1:=Ql2 w1
  have q2:=Ql2 w2
  have q3:=Ql2 w3
  have m1:IntKind.i64.wrap (u0*u0)=u0*u0:=Qai (by omega) (by omega)
  have m2:IntKind.i64.wrap (u1*u1)=u1*u1:=Qai (by omega) (by omega)
  have m3:IntKind.i64.wrap (u2*u2)=u2*u2:=Qai (by omega) (by omega)
  have m4:IntKind.i64.wrap (u0*u0+u1*u1)=u0*u0+u1*u1:=Qai (by omega) (by omega)
  have m5:IntKind.i64.wrap (u0*u0+u1*u1+u2*u2)=u0*u0+u1*u1+u2*u2:=Qai (by omega) (by omega)
  have m6:(S<u0*u0+u1*u1+u2*u2)=False:=eq_false (by omega)
  have vc:=Qdi u0 u1 u2
  cases hV:Qbn p with
  |false=>
   rw [hV]at g1
   simp only [Bool.false_eq_true,and_false,if_false]at g1
   refine v_go (tb:=[]) (ks:=[0,1,2,3,4,7,10,11,12,13,14,15,16,17,18,19,20,21,22,23,24,25,26,27,28,29,30,66,186,194,205,209,246]) mixed ?_
   simp only [codes,Qij,List.take_succ_cons,List.take_zero,List.drop_succ_cons,List.drop_zero,List.foldr_cons,List.foldr_nil]
   repeat (first|(simp -implicitDefEqProofs only [go_sem,Nat.reduceAdd,Nat.reduceMul,Nat.reduceEqDiff,Nat.reduceLT,Nat.reduceLeDiff,reduceCtorEq,c1,c2,c3,m1,m2,m3,m4,m5,m6,Qq2,Zca,Qui,decide_false,beq_self_eq_true,bne_self_eq_false,Bool.and_self,Bool.not_true,Bool.not_false,List.length_map,List.length_nil])|((with_reducible refine Qab (f1) ?_ ?_ ?_);(with_reducible rfl);rfl)|((with_reducible refine Qab (f2) ?_ ?_ ?_);(with_reducible rfl);rfl)|((with_reducible refine Qab (f3) ?_ ?_ ?_);(with_reducible rfl);rfl)|((with_reducible refine Qab (f4) ?_ ?_ ?_);(with_reducible rfl);rfl)|((with_reducible refine Qab (s1) ?_ ?_ ?_);(with_reducible rfl);rfl)|((with_reducible refine Qab (s2) ?_ ?_ ?_);(with_reducible rfl);rfl)|((with_reducible refine Qab (g1) ?_ ?_ ?_);(with_reducible rfl);rfl)|((with_reducible refine Qab (vc) ?_ ?_ ?_);(with_reducible rfl);rfl)|((with_reducible refine Qab (hk) ?_ ?_ ?_);(with_reducible rfl);rfl)|(with_reducible exact Qaa _ _ (by kernel_rfl))|(with_reducible refine And.intro (Qaa _ _ (by kernel_rfl)) ?_))
  |true=>
  rw [hV,vab]at g1
  simp only [and_self,if_true]at g1
  refine Q3r mixed [] [0,1,2,3,4,7,10,11,12,13,14,15,16,17,18,19,20,21,22,23,24,25,26,27,28,29,30,66,186,194,205,209,246] 10 rfl (St.of [(4,.slc (p.map sgPV)),(11,wsPV (a++b)),(25,.slc (p.map (alV (a++b))))] []) ?_ ?_
  ·simp only [codes,Qij,List.take_succ_cons,List.take_zero,List.drop_succ_cons,List.drop_zero,List.foldr_cons,List.foldr_nil]
   clear hk
   repeat (first|(simp -implicitDefEqProofs only [go_sem,Nat.reduceAdd,Nat.reduceMul,Nat.reduceEqDiff,Nat.reduceLT,Nat.reduceLeDiff,reduceCtorEq,c1,c2,c3,m1,m2,m3,m4,m5,m6,Qq2,Zca,Qui,decide_false,beq_self_eq_true,bne_self_eq_false,Bool.and_self,Bool.not_true,Bool.not_false,List.length_map,List.length_nil])|((with_reducible refine Qab (f1) ?_ ?_ ?_);(with_reducible rfl);rfl)|((with_reducible refine Qab (f2) ?_ ?_ ?_);(with_reducible rfl);rfl)|((with_reducible refine Qab (f3) ?_ ?_ ?_);(with_reducible rfl);rfl)|((with_reducible refine Qab (f4) ?_ ?_ ?_);(with_reducible rfl);rfl)|((with_reducible refine Qab (s1) ?_ ?_ ?_);(with_reducible rfl);rfl)|((with_reducible refine Qab (s2) ?_ ?_ ?_);(with_reducible rfl);rfl)|((with_reducible refine Qab (g1) ?_ ?_ ?_);(with_reducible rfl);rfl)|((with_reducible refine Qab (vc) ?_ ?_ ?_);(with_reducible rfl);rfl)|(with_reducible exact Qaa _ _ (by kernel_rfl))|(with_reducible refine And.intro (Qaa _ _ (by kernel_rfl)) ?_))
   refine Qan (θ:=[]) rfl ?_ trivial
   simp [Qae,lkp,ren1,ren0,Qam]
  ·refine v_go (tb:=[]) (ks:=[0,1,2,3,4,7,10,11,12,13,14,15,16,17,18,19,20,21,22,23,24,25,26,27,28,29,30,66,186,194,205,209,246]) mixed ?_
   simp only [codes,Qij,List.take_succ_cons,List.take_zero,List.drop_succ_cons,List.drop_zero,List.foldr_cons,List.foldr_nil]
   clear f1 f2 f3 f4 s1 s2 g1 vc m1 m2 m3 m4 m5 m6 q q1 q2 q3 w1 w2 w3 c1 c2 c3
   have hall:=fun(i:Nat) (h:i<p.length)=>Qer p i h
   have hlen:p.length≤6:=l6
   repeat (first|(simp -implicitDefEqProofs only [go_sem,Nat.reduceAdd,Nat.reduceMul,Nat.reduceEqDiff,Nat.reduceLT,Nat.reduceLeDiff,reduceCtorEq])|(with_reducible exact Qaa _ _ (by kernel_rfl))|(with_reducible refine And.intro (Qaa _ _ (by kernel_rfl)) ?_))
   refine Qa0 mixed (fun i:{i:Nat // i≤p.length}=>St.of [(4,.slc (p.map sgPV)),(11,wsPV (a++b)),(25,.slc (p.map (alV (a++b)))),(26,.int .i64 (i.1:Int))] []) (fun i=>p.length-i.1) ⟨0,Nat.zero_le _⟩ ?_ ?_
   ·refine Qan (θ:=[]) rfl ?_ trivial
    simp [Qae,lkp,ren1,ren0,Qam]
   rintro⟨i,hi⟩
   simp only
   by_cases hA:i<p.length
   ·have hA':=ltT hA
    have n0:=nnT i
    have hg:=hall i hA
    have hwk:=Qak (a:=i) (by omega)
    have h1:=Zgu hp hV (by omega) hA
    have hv:=Qcp hV i hA
    have d:=(Qbb hv).1
    have h2:=Qo2 vab (by omega) (Zgv (hp _ (List.getElem_mem hA)) hv) (t:=p[i].f) (by omega)
    have h3:=Zgs (a++b) p hA
    generalize p.map (alV (a++b))=AL at*
    generalize atW Wd.ux (a++b) (posS p[i] 0) (posS p[i] 1) (posS p[i] 2) p[i].f=u0 at*
    generalize atW Wd.uy (a++b) (posS p[i] 0) (posS p[i] 1) (posS p[i] 2) p[i].f=u1 at*
    generalize atW Wd.uz (a++b) (posS p[i] 0) (posS p[i] 1) (posS p[i] 2) p[i].f=u2 at*
    repeat (first|(simp -implicitDefEqProofs only [go_sem,Nat.reduceAdd,Nat.reduceMul,Nat.reduceEqDiff,Nat.reduceLT,Nat.reduceLeDiff,reduceCtorEq,hA',n0,hg,h3,hwk,Qq2,bne_self_eq_false,beq_self_eq_true,Bool.and_self,Bool.not_true,Int.toNat_natCast,List.length_map])|((with_reducible refine Qab (h1) ?_ ?_ ?_);(with_reducible rfl);rfl)|((with_reducible refine Qab (h2) ?_ ?_ ?_);(with_reducible rfl);rfl)|(with_reducible exact Qaa _ _ (by kernel_rfl))|(with_reducible refine And.intro (Qaa _ _ (by kernel_rfl)) ?_))
    refine⟨⟨i+1,hA⟩,by simp only;omega,Qan (θ:=[]) rfl ?_ trivial⟩
    simp [Qae,lkp,ren1,ren0,Qam]
   ·have hA':=ltF hA
    repeat (first|(simp -implicitDefEqProofs only [go_sem,Nat.reduceAdd,Nat.reduceMul,Nat.reduceEqDiff,Nat.reduceLT,Nat.reduceLeDiff,reduceCtorEq,hA',List.length_map])|((with_reducible refine Qab (hk) ?_ ?_ ?_);(with_reducible rfl);rfl)|(with_reducible exact Qaa _ _ (by kernel_rfl))|(with_reducible refine And.intro (Qaa _ _ (by kernel_rfl)) ?_))
set_option maxHeartbeats 4000000 in
theorem Qqw (a b:List Wd) (x y z t:Int) (p:List Sg) (ha:a.length≤maxLen) (hb:b.length≤maxLen) (hr:(∀s∈p,rawW s)∧p.length≤maxLen):
  Qag Tryz.prog 7 [wsPV a,wsPV b,.agg [.int .i64 x,.int .i64 y,.int .i64 z],.int .i64 t,.slc (p.map sgPV)] (.bool true):=by
 have hk:=Qo1
 by_cases hA:3<a.length
 ·have a3:((3:Int)<(a.length:Int))=True:=eq_true (by omega)
  refine Qad (tb:=[]) 248 [.tmp 10] [0,1,2,3,4,7,10,11,12,13,14,15,16,17,18,19,20,21,22,23,24,25,26,27,28,29,30,66,186,194,205,209,246] mixed Tryz.func7 rfl (by kernel_rfl) (by kernel_rfl) (by kernel_rfl) (by kernel_rfl) ?_
  repeat (first|(simp -implicitDefEqProofs only [go_sem,Nat.reduceAdd,Nat.reduceMul,Nat.reduceEqDiff,Nat.reduceLT,Nat.reduceLeDiff,reduceCtorEq,a3,decide_true,List.length_map])|((with_reducible refine Qab (hk) ?_ ?_ ?_);(with_reducible rfl);rfl)|(with_reducible exact Qaa _ _ (by kernel_rfl))|(with_reducible refine And.intro (Qaa _ _ (by kernel_rfl)) ?_))
 have a3:((3:Int)<(a.length:Int))=False:=eq_false (by omega)
 by_cases hB:3<b.length
 ·have b3:((3:Int)<(b.length:Int))=True:=eq_true (by omega)
  refine Qad (tb:=[]) 248 [.tmp 10] [0,1,2,3,4,7,10,11,12,13,14,15,16,17,18,19,20,21,22,23,24,25,26,27,28,29,30,66,186,194,205,209,246] mixed Tryz.func7 rfl (by kernel_rfl) (by kernel_rfl) (by kernel_rfl) (by kernel_rfl) ?_
  repeat (first|(simp -implicitDefEqProofs only [go_sem,Nat.reduceAdd,Nat.reduceMul,Nat.reduceEqDiff,Nat.reduceLT,Nat.reduceLeDiff,reduceCtorEq,a3,b3,decide_true,decide_false,List.length_map])|((with_reducible refine Qab (hk) ?_ ?_ ?_);(with_reducible rfl);rfl)|(with_reducible exact Qaa _ _ (by kernel_rfl))|(with_reducible refine And.intro (Qaa _ _ (by kernel_rfl)) ?_))
 have b3:((3:Int)<(b.length:Int))=False:=eq_false (by omega)
 have v1:=Qg4 a ha
 have v2:=Qg4 b hb
 have v3:=Qjj x y z
 have v4:=Zaw p 6 (by decide) hr.2
 unfold Qdz at v4
 cases va:Qat a with
 |false=>
  rw [va]at v1
  refine Qad (tb:=[]) 248 [.tmp 10] [0,1,2,3,4,7,10,11,12,13,14,15,16,17,18,19,20,21,22,23,24,25,26,27,28,29,30,66,186,194,205,209,246] mixed Tryz.func7 rfl (by kernel_rfl) (by kernel_rfl) (by kernel_rfl) (by kernel_rfl) ?_
  repeat (first|(simp -implicitDefEqProofs only [go_sem,Nat.reduceAdd,Nat.reduceMul,Nat.reduceEqDiff,Nat.reduceLT,Nat.reduceLeDiff,reduceCtorEq,a3,b3,decide_true,decide_false,Bool.not_true,Bool.not_false,List.length_map])|((with_reducible refine Qab (v1) ?_ ?_ ?_);(with_reducible rfl);rfl)|((with_reducible refine Qab (hk) ?_ ?_ ?_);(with_reducible rfl);rfl)|(with_reducible exact Qaa _ _ (by kernel_rfl))|(with_reducible refine And.intro (Qaa _ _ (by kernel_rfl)) ?_))
 |true=>
 have va':=va
 rw [va]at v1
 cases vb:Qat b with
 |false=>
  rw [vb]at v2
  refine Qad (tb:=[]) 248 [.tmp 10] [0,1,2,3,4,7,10,11,12,13,14,15,16,17,18,19,20,21,22,23,24,25,26,27,28,29,30,66,186,194,205,209,246] mixed Tryz.func7 rfl (by kernel_rfl) (by kernel_rfl) (by kernel_rfl) (by kernel_rfl) ?_
  repeat (first|(simp -implicitDefEqProofs only [go_sem,Nat.reduceAdd,Nat.reduceMul,Nat.reduceEqDiff,Nat.reduceLT,Nat.reduceLeDiff,reduceCtorEq,a3,b3,decide_true,decide_false,Bool.not_true,Bool.not_false,List.length_map])|((with_reducible refine Qab (v1) ?_ ?_ ?_);(with_reducible rfl);rfl)|((with_reducible refine Qab (v2) ?_ ?_ ?_);(with_reducible rfl);rfl)|((with_reducible refine Qab (hk) ?_ ?_ ?_);(with_reducible rfl);rfl)|(with_reducible exact Qaa _ _ (by kernel_rfl))|(with_reducible refine And.intro (Qaa _ _ (by kernel_rfl)) ?_))
 |true=>
 rw [vb]at v2
 cases hpt:ptB x y z with
 |false=>
  rw [hpt]at v3
  refine Qad (tb:=[]) 248 [.tmp 10] [0,1,2,3,4,7,10,11,12,13,14,15,16,17,18,19,20,21,22,23,24,25,26,27,28,29,30,66,186,194,205,209,246] mixed Tryz.func7 rfl (by kernel_rfl) (by kernel_rfl) (by kernel_rfl) (by kernel_rfl) ?_
  repeat (first|(simp -implicitDefEqProofs only [go_sem,Nat.reduceAdd,Nat.reduceMul,Nat.reduceEqDiff,Nat.reduceLT,Nat.reduceLeDiff,reduceCtorEq,a3,b3,decide_true,decide_false,Bool.not_true,Bool.not_false,List.length_map])|((with_reducible refine Qab (v1) ?_ ?_ ?_);(with_reducible rfl);rfl)|((with_reducible refine Qab (v2) ?_ ?_ ?_);(with_reducible rfl);rfl)|((with_reducible refine Qab (v3) ?_ ?_ ?_);(with_reducible rfl);rfl)|((with_reducible refine Qab (hk) ?_ ?_ ?_);(with_reducible rfl);rfl)|(with_reducible exact Qaa _ _ (by kernel_rfl))|(with_reducible refine And.intro (Qaa _ _ (by kernel_rfl)) ?_))
 |true=>
 rw [hpt]at v3
 by_cases h0:t<0
 ·have h0':=eq_true h0
  refine Qad (tb:=[]) 248 [.tmp 10] [0,1,2,3,4,7,10,11,12,13,14,15,16,17,18,19,20,21,22,23,24,25,26,27,28,29,30,66,186,194,205,209,246] mixed Tryz.func7 rfl (by kernel_rfl) (by kernel_rfl) (by kernel_rfl) (by kernel_rfl) ?_
  repeat (first|(simp -implicitDefEqProofs only [go_sem,Nat.reduceAdd,Nat.reduceMul,Nat.reduceEqDiff,Nat.reduceLT,Nat.reduceLeDiff,reduceCtorEq,a3,b3,h0',decide_true,decide_false,Bool.not_true,Bool.not_false,List.length_map])|((with_reducible refine Qab (v1) ?_ ?_ ?_);(with_reducible rfl);rfl)|((with_reducible refine Qab (v2) ?_ ?_ ?_);(with_reducible rfl);rfl)|((with_reducible refine Qab (v3) ?_ ?_ ?_);(with_reducible rfl);rfl)|((with_reducible refine Qab (hk) ?_ ?_ ?_);(with_reducible rfl);rfl)|(with_reducible exact Qaa _ _ (by kernel_rfl))|(with_reducible refine And.intro (Qaa _ _ (by kernel_rfl)) ?_))
 have h0':=eq_false h0
 by_cases hM:3600000<t
 ·have hM':=eq_true hM
  refine Qad (tb:=[]) 248 [.tmp 10] [0,1,2,3,4,7,10,11,12,13,14,15,16,17,18,19,20,21,22,23,24,25,26,27,28,29,30,66,186,194,205,209,246] mixed Tryz.func7 rfl (by kernel_rfl) (by kernel_rfl) (by kernel_rfl) (by kernel_rfl) ?_
  repeat (first|(simp -implicitDefEqProofs only [go_sem,Nat.reduceAdd,Nat.reduceMul,Nat.reduceEqDiff,Nat.reduceLT,Nat.reduceLeDiff,reduceCtorEq,a3,b3,h0',hM',decide_true,decide_false,Bool.not_true,Bool.not_false,List.length_map])|((with_reducible refine Qab (v1) ?_ ?_ ?_);(with_reducible rfl);rfl)|((with_reducible refine Qab (v2) ?_ ?_ ?_);(with_reducible rfl);rfl)|((with_reducible refine Qab (v3) ?_ ?_ ?_);(with_reducible rfl);rfl)|((with_reducible refine Qab (hk) ?_ ?_ ?_);(with_reducible rfl);rfl)|(with_reducible exact Qaa _ _ (by kernel_rfl))|(with_reducible refine And.intro (Qaa _ _ (by kernel_rfl)) ?_))
 have hM':=eq_false hM
 cases hF:fewB p 6 with
 |false=>
  rw [hF]at v4
  refine Qad (tb:=[]) 248 [.tmp 10] [0,1,2,3,4,7,10,11,12,13,14,15,16,17,18,19,20,21,22,23,24,25,26,27,28,29,30,66,186,194,205,209,246] mixed Tryz.func7 rfl (by kernel_rfl) (by kernel_rfl) (by kernel_rfl) (by kernel_rfl) ?_
  repeat (first|(simp -implicitDefEqProofs only [go_sem,Nat.reduceAdd,Nat.reduceMul,Nat.reduceEqDiff,Nat.reduceLT,Nat.reduceLeDiff,reduceCtorEq,a3,b3,h0',hM',decide_true,decide_false,Bool.not_true,Bool.not_false,List.length_map])|((with_reducible refine Qab (v1) ?_ ?_ ?_);(with_reducible rfl);rfl)|((with_reducible refine Qab (v2) ?_ ?_ ?_);(with_reducible rfl);rfl)|((with_reducible refine Qab (v3) ?_ ?_ ?_);(with_reducible rfl);rfl)|((with_reducible refine Qab (v4) ?_ ?_ ?_);(with_reducible rfl);rfl)|((with_reducible refine Qab (hk) ?_ ?_ ?_);(with_reducible rfl);rfl)|(with_reducible exact Qaa _ _ (by kernel_rfl))|(with_reducible refine And.intro (Qaa _ _ (by kernel_rfl)) ?_))
 |true=>exact Qo3 a b x y z t p (by omega) (by omega) va vb hpt ⟨by omega,by omega⟩ hF hr
end Go.Proofs.YtciddhkfbgkejaaGreatDoor

namespace Go.Vl
open Go.RowKit
section
variable {H:Type} {enc:TypeId×Value→H}
theorem Qk9 {a:Assume} {C:Checked} {os:Os} {f:FuncId} {fn:Func} {s:ChangeSpec} {conds:List PathCond} {apart fresh handsOn again:Bool} {tb:TypeId} {L:List (String×DataW Unit)} (tts:List TT)
  (own:ownKnob C.prog.godebug=none) (started:os.Started) (noInit:C.prog.inits.idxOf? f=none) (hfn:C.prog.funcs[f]? =some fn)
  (witness: ∃(w:World) (tape:Tape) (i:Input),w.os=os∧(w.forCall tape i).Shaped C.prog∧i.vars=[]∧Input.okWide C.prog (w.forCall tape i) .any w.heap.size f i∧
   ((s.pre enc C.prog fn conds apart (w.forCall tape i).memory i.args∧laidMetH C.prog L (w.forCall tape i).memory)∧sizedMet enc C.prog fn (OpenSpec.ofChange s) apart (w.forCall tape i).memory i.args)∧a.holds C.prog (lone (Frame.enter C.prog f i.args .normal) [] (w.forCall tape i)))
  (hl:laidOutB C.prog=true) (hvars:s.vars=[]) (hres:fn.resultTypes= #[tb]) (hbool:C.prog.underlying tb=some .bool) (hts:(fn.params.toList.all fun t=>C.prog.readableRec t&&decide (t<C.prog.types.size))=true)
  (hfit:Qii C.prog tts fn.params.toList=true) (hs: ∀ds:List (DataW H),ds.length=tts.length→s.fn H ds={results:=[.lit (.bool true)],args:=ds})
  (hcl:callable C.prog f=true) (hlay: ∀W:World,laidMetH C.prog L W→Laid C.prog W.heap.size W) (law: ∀pvs,Qsb tts pvs→Qag C.prog f pvs (.bool true)):
  ReturnsInHanded a C os f .any (fun w args=>(s.pre enc C.prog fn conds apart w args∧laidMetH C.prog L w)∧sizedMet enc C.prog fn (OpenSpec.ofChange s) apart w args) (s.post enc C.prog fn apart fresh handsOn again):=by
 refine returnsInHanded_of_change_and (X:=fun w _=>laidMetH C.prog L w) (fun _ _ _ hh h=>h.of_heap hh) own started noInit hfn witness ?_
 intro W base args ds gs before hval hW q1 q2 q3 q4
 have hW':=hW
 obtain⟨p,q,hA,hV,rfl,hz,hn⟩:=hW
 rw [hvars]at hV
 obtain⟨rfl,rfl⟩:=ChangeShapes.trodVars_none hV
 obtain⟨pvs,h1,h2,h3⟩:=Qty tts fn.params.toList args.toList ds p hfit (fun j t v e1 e2=>hval j t v (by simpa using e1) (by simpa using e2)) hA
 have hts': ∀t∈fn.params.toList,C.prog.readableRec t=true∧t<C.prog.types.size:=by
  intro t ht
  have:=List.all_eq_true.1 hts t ht
  simpa using this
 have hcall:=((law pvs h1).resolve_right (fun x=>by rw [hcl]at x;cases x.1)).2 W (exIm W) args.toList W.heap.size (Nat.le_refl _) (hlay W (by first|exact q1|exact q2|exact q3|exact q4)) h2 (fun g j x=>x)
 refine(by simpa using hcall:Calls C.prog f args W _).mono ?_
 rintro e W' ⟨v,rfl,hb,hr⟩
 have hv:v= .bool true:=by cases hr;rfl
 subst hv
 exact⟨_,rfl,Qsc hl hvars hres hbool hts' hW' (by rw [List.append_nil];exact hs ds h3) hb⟩
end
end Go.Vl

namespace Go.Proofs.YtciddhkfbgkejaaGreatDoor
open Go.Vl Go.RowKit Go.Dg
theorem own:ownKnob Tryz.prog.godebug=none:=by kernel_rfl
theorem Zcd:laidOutB Tryz.prog=true:=by kernel_rfl
def Qyn:List (String×DataW Unit):=[("math/bits.deBruijn32tab",Rows.laid_math_bits_deBruijn32tab),("math/bits.deBruijn64tab",Rows.laid_math_bits_deBruijn64tab)]
theorem Q4v (os:Os) (args:Array Value):laidMetH Tryz.prog Qyn ((World.doorLaid Tryz.prog 62 os).forCall (fun _ _=>0) ⟨#[],args,[]⟩).memory:=
 laidMetH_of_parts3 (fuel:=8) (laidMet_of_run' 8 (by kernel_rfl) (by kernel_rfl)) (by kernel_rfl) (by kernel_rfl)
def Qyo:List Int:=Go.Lib.deBruijn64tab.map fun(z:Nat)=>(z:Int)
theorem hlay (W:World) (h:laidMetH Tryz.prog Qyn W):Laid Tryz.prog W.heap.size W:=by
 rintro nm tab (⟨rfl,rfl⟩|⟨rfl,rfl⟩) g hg
 ·have e:Tryz.prog.globalNamed Q2i=none:=by kernel_rfl
  rw [e]at hg;cases hg
 obtain rfl:g=1:=Option.some.inj (hg.symm.trans (by kernel_rfl))
 have hf:=h.filter (fun x=>x.1==Qkl)
 have e:Qyn.filter (fun x=>x.1==Qkl)=[(Qkl,Lib.tabData .u8 Qyo)]:=by kernel_rfl
 rw [e,MakeChecks.laidMetH_plain _ _ _ (by kernel_rfl)]at hf
 have ht:Lib.TabIs Tryz.prog W Qkl .u8 Qyo:=Lib.tabIs_of_head (g:=1) (t:=238) (e:=5) (n:=64) (by kernel_rfl) (by kernel_rfl) (by kernel_rfl) (by kernel_rfl) (by kernel_rfl) (by kernel_rfl) hf
 have e2:(Qyo.map fun z=>Value.int .u8 z).toArray=Q2j:=by kernel_rfl
 unfold Lib.TabIs at ht
 rw [e2]at ht
 refine⟨?_,ht⟩
 simp only [World.var?,hg,Option.bind_some]at ht
 cases hh:W.heap[(1:Nat)]? with
 |none=>rw [hh]at ht;cases ht
 |some o=>exact(Array.getElem?_eq_some_iff.1 hh).1
theorem Q4w {k:IntKind} {c:List PV} (h:Qbx (.int k) c): ∃n:Int,TT.mk (.int k) c= .int k n∧(Lit.int k n).wf=true:=by
 simp only [Qbx]at h
 obtain⟨x,rfl,hx⟩:=h
 exact⟨x,rfl,hx⟩
theorem Qf0 {n:Int} (h:(Lit.int .i64 n).wf=true): -9223372036854775808≤n∧n≤9223372036854775807:=by
 have:=h
 simp [Lit.wf,IntKind.min,IntKind.max,IntKind.signed,IntKind.bits]at this
 omega
theorem Qs5 {c:List PV} (h:Qbx (.int .i64) c): ∃n:Int,TT.mk (.int .i64) c= .int .i64 n∧i64 n:=by
 obtain⟨n,e,w⟩:=Q4w h
 exact⟨n,e,Qf0 w⟩
def vecT:TT:= .agg [.int .i64,.int .i64,.int .i64]
theorem Q4x {c:List PV} (h:Qbx vecT c): ∃x y z:Int,vecT.mk c= .agg [.int .i64 x,.int .i64 y,.int .i64 z]:=by
 simp only [vecT,Qbx,Qem]at h
 obtain⟨_,_,rfl,⟨x,rfl,_⟩,_,_,rfl,⟨y,rfl,_⟩,_,_,rfl,⟨z,rfl,_⟩,rfl⟩:=h
 exact⟨x,y,z,rfl⟩
def Qnd:TT:= .agg [vecT,vecT,.int .i64,.int .i64,vecT]
theorem Qyp {c:List PV} (h:Qbx Qnd c): ∃w:Wd,Qnd.mk c=wdPV w:=by
 simp only [Qnd,vecT,Qbx,Qem]at h
 obtain⟨_,_,rfl,⟨_,_,rfl,⟨a1,rfl,_⟩,_,_,rfl,⟨a2,rfl,_⟩,_,_,rfl,⟨a3,rfl,_⟩,rfl⟩,_,_,rfl,⟨_,_,rfl,⟨b1,rfl,_⟩,_,_,rfl,⟨b2,rfl,_⟩,_,_,rfl,⟨b3,rfl,_⟩,rfl⟩,_,_,rfl,⟨f,rfl,_⟩,_,_,rfl,⟨t,rfl,_⟩,
  _,_,rfl,⟨_,_,rfl,⟨u1,rfl,_⟩,_,_,rfl,⟨u2,rfl,_⟩,_,_,rfl,⟨u3,rfl,_⟩,rfl⟩,rfl⟩:=h
 exact⟨⟨a1,a2,a3,b1,b2,b3,f,t,u1,u2,u3⟩,rfl⟩
theorem Ql5 {c:List PV} (h:Qbx (.slc Qnd) c): ∃l:List Wd,TT.mk (.slc Qnd) c=wsPV l∧l.length≤maxLen:=by
 simp only [Qbx]at h
 obtain⟨ess,rfl,hm,h⟩:=h
 have key: ∀ess:List (List PV),(∀c∈ess,Qbx Qnd c)→ ∃l:List Wd,ess.map Qnd.mk=l.map wdPV∧l.length=ess.length:=by
  intro ess
  induction ess with
  |nil=>exact fun _=>⟨[],rfl,rfl⟩
  |cons c cs ih=>
   intro h
   obtain⟨s,e⟩:=Qyp (h c (by simp))
   obtain⟨l,hl,hn⟩:=ih (fun c hc=>h c (by simp [hc]))
   exact⟨s::l,by simp [e,hl],by simp [hn]⟩
 obtain⟨l,e,hn⟩:=key ess h
 exact⟨l,by simp only [TT.mk,List.headD_cons];rw [e],by omega⟩
def segT:TT:= .agg [.int .i64,.int .i64,.int .i64,.slc (.int .i64),.slc (.int .i64),.slc (.int .i64)]
theorem Qg6: ∀ess:List (List PV),(∀c∈ess,Qbx (.int .i64) c)→ ∃l:List Int,ess.map (TT.mk (.int .i64))=l.map (PV.int .i64)∧l.length=ess.length∧ ∀x∈l,i64 x
 | [],_=>⟨[],rfl,rfl,fun _ h=>nomatch h⟩
 |c::cs,h=>by
  obtain⟨n,e,b⟩:=Qs5 (h c (by simp))
  obtain⟨l,hl,hn,hx⟩:=Qg6 cs (fun c hc=>h c (by simp [hc]))
  refine⟨n::l,by simp [e,hl],by simp [hn],fun x hx'=> ?_⟩
  cases hx' with
  |head=>exact b
  |tail _ h=>exact hx x h
theorem Q4y {c:List PV} (h:Qbx segT c): ∃s:Sg,segT.mk c=sgPV s∧rawW s:=by
 simp only [segT,Qbx,Qem]at h
 obtain⟨_,_,rfl,⟨f,rfl,hf⟩,_,_,rfl,⟨t,rfl,ht⟩,_,_,rfl,⟨o,rfl,ho⟩,_,_,rfl,⟨ex,rfl,mx,hx⟩,_,_,rfl,⟨ey,rfl,my,hy⟩,_,_,rfl,⟨ez,rfl,mz,hz⟩,rfl⟩:=h
 obtain⟨lx,e1,n1,b1⟩:=Qg6 ex (fun c hc=>by have:=hx c hc;simpa only [Qbx]using this)
 obtain⟨ly,e2,n2,b2⟩:=Qg6 ey (fun c hc=>by have:=hy c hc;simpa only [Qbx]using this)
 obtain⟨lz,e3,n3,b3⟩:=Qg6 ez (fun c hc=>by have:=hz c hc;simpa only [Qbx]using this)
 refine⟨⟨f,t,o,lx,ly,lz⟩,?_,Qf0 hf,Qf0 ht,Qf0 ho,?_⟩
 ·show PV.agg [.int .i64 f,.int .i64 t,.int .i64 o,.slc (ex.map (TT.mk (.int .i64))),.slc (ey.map (TT.mk (.int .i64))),.slc (ez.map (TT.mk (.int .i64)))]=_
  rw [e1,e2,e3];rfl
 ·intro c hc
  simp only [Sg.ax,List.mem_cons,List.not_mem_nil,or_false]at hc
  rcases hc with rfl|rfl|rfl
  ·exact⟨b1,by omega⟩
  ·exact⟨b2,by omega⟩
  ·exact⟨b3,by omega⟩
theorem Qyq {c:List PV} (h:Qbx (.slc segT) c): ∃p:List Sg,TT.mk (.slc segT) c= .slc (p.map sgPV)∧((∀s∈p,rawW s)∧p.length≤maxLen):=by
 simp only [Qbx]at h
 obtain⟨ess,rfl,hm,h⟩:=h
 have key: ∀ess:List (List PV),(∀c∈ess,Qbx segT c)→ ∃l:List Sg,ess.map segT.mk=l.map sgPV∧l.length=ess.length∧ ∀s∈l,rawW s:=by
  intro ess
  induction ess with
  |nil=>exact fun _=>⟨[],rfl,rfl,fun _ h=>nomatch h⟩
  |cons c cs ih=>
   intro h
   obtain⟨s,e,b⟩:=Q4y (h c (by simp))
   obtain⟨l,hl,hn,hx⟩:=ih (fun c hc=>h c (by simp [hc]))
   refine⟨s::l,by simp [e,hl],by simp [hn],fun x hx'=> ?_⟩
   cases hx' with
   |head=>exact b
   |tail _ h=>exact hx x h
 obtain⟨l,e,hn,hx⟩:=key ess h
 exact⟨l,by simp only [TT.mk,List.headD_cons];rw [e],hx,by omega⟩
def Zce:Value:= .agg #[.int .i64 0,.int .i64 0,.int .i64 0]
end Go.Proofs.YtciddhkfbgkejaaGreatDoor
