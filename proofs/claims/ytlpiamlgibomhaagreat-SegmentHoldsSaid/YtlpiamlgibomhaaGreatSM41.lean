/-
  Dcz, Dda, UX, SM39, SM40, SM41 (merged for the claim).
-/
import Derived.Test.YtlpiamlgibomhaaGreatDcy
import Derived.Test.YtlpiamlgibomhaaGreatDsk
set_option linter.unusedSimpArgs false
set_option linter.unusedVariables false
namespace Go.Dg
def sc (p:List Sg):List (Sg×Int×Int)→Int→Int→Prop
 | [],u,v=>u=v
 |x::r,u,v=>x.1∈p∧x.2.1=u∧x.1.f≤x.2.1∧x.2.1<x.2.2∧x.2.2≤x.1.t∧sc p r x.2.2 v
theorem Qml {p:List Sg}: ∀{S S':List (Sg×Int×Int)} {u v w:Int},sc p S u v→sc p S' v w→sc p (S++S') u w
 | [],_,_,_,_,h,k=>by have h:_=_:=h;subst h;exact k
 |_::_,_,_,_,_,⟨a,b,c,d,e,f⟩,k=>⟨a,b,c,d,e,Qml f k⟩
theorem Zpv {p:List Sg}: ∀{S:List (Sg×Int×Int)} {u v:Int},sc p S u v→u≤v
 | [],_,_,h=>by have h:_=_:=h;omega
 |_::_,_,_,⟨_,b,_,d,_,f⟩=>by have:=Zpv f;omega
theorem Qo6 {p:List Sg}: ∀{S:List (Sg×Int×Int)} {u v:Int},sc p S u v→ ∀(i:Nat) (hi:i<S.length),S[i].1∈p∧S[i].1.f≤S[i].2.1∧S[i].2.1<S[i].2.2∧S[i].2.2≤S[i].1.t∧u≤S[i].2.1∧S[i].2.2≤v
 | [],_,_,_,i,hi=>by simp at hi
 |x::r,u,v,⟨a,b,c,d,e,f⟩,0,_=>⟨a,c,d,e,by simp only [List.getElem_cons_zero];omega,by have:=Zpv f;simpa using this⟩
 |x::r,u,v,⟨a,b,c,d,e,f⟩,i+1,hi=>by
  obtain⟨h1,h2,h3,h4,h5,h6⟩:=Qo6 f i (by simpa using hi)
  simp only [List.getElem_cons_succ]
  exact⟨h1,h2,h3,h4,by omega,h6⟩
theorem Qud {p:List Sg}: ∀{S:List (Sg×Int×Int)} {u v:Int},sc p S u v→ ∀(i:Nat) (hi:i+1<S.length),S[i].2.2=S[i+1].2.1
 | [],_,_,_,i,hi=>by simp at hi
 | [_],_,_,_,i,hi=>by simp at hi
 |x::y::r,u,v,⟨_,_,_,_,_,f⟩,0,_=>by
  obtain⟨_,b,_⟩:=f
  simpa using b.symm
 |x::y::r,u,v,⟨_,_,_,_,_,f⟩,i+1,hi=>by
  have:=Qud f i (by simpa using hi)
  simpa using this
theorem Qw7 {p:List Sg} {S:List (Sg×Int×Int)} {u v:Int} (h:sc p S u v) (h0:0<S.length):S[0].2.1=u:=by
 match S,h with
 |x::r,⟨_,b,_⟩=>exact b
theorem Q17 {p:List Sg}: ∀{S:List (Sg×Int×Int)} {u v:Int},sc p S u v→ ∀(h0:0<S.length),(S[S.length-1]'(by omega)).2.2=v
 | [],_,_,_,h0=>by simp at h0
 | [x],_,_,⟨_,_,_,_,_,f⟩,_=>f
 |x::y::r,_,_,⟨_,_,_,_,_,f⟩,_=>by
  have:=Q17 f (by simp)
  simpa using this
theorem Que {p:List Sg} (hV:Qa4 p=true) {x:Sg×Int×Int} (hx:x.1∈p) (h1:x.1.f≤x.2.1) (h2:x.2.1<x.2.2) (h3:x.2.2≤x.1.t) {t:Int} (t1:x.2.1≤t) (t2:t≤x.2.2):
  (∀k,k<3→plQ (spS x) (t-x.2.1) (x.2.2-x.2.1) k=plT p t k)∧plO (spS x) (t-x.2.1) (x.2.2-x.2.1)=poT p t:=by
 obtain⟨i,hi,e⟩:=List.getElem_of_mem hx
 have hv:=Qbp hV i hi
 obtain⟨a1,a2⟩:=Zar hV hi (t:=t) (by rw [e];omega) (by rw [e];omega)
 rw [e]at a1 a2 hv
 obtain⟨b1,b2⟩:=Qy6 hv h1 h2 h3 t
 exact⟨fun k hk=>by rw [a1 k hk];exact b1 k hk,by rw [a2];exact b2⟩
theorem Qgp {p:List Sg} (hV:Qa4 p=true) {s:Sg} (h:s∈p):Qav s=true:=by
 obtain⟨i,hi,rfl⟩:=List.getElem_of_mem h
 exact Qbp hV i hi
theorem Zjj {q:List Sg} (h1: ∀(i:Nat) (hi:i<q.length),Qav q[i]=true) (h2: ∀(i:Nat) (hi:i+1<q.length),Qc1 q[i] q[i+1]=true):vpTo q q.length=true:=by
 unfold vpTo
 rw [List.all_eq_true]
 intro j hj
 have hj:=List.mem_range.1 hj
 unfold vpAt
 rw [sgD hj,h1 j hj,Bool.true_and]
 rcases Nat.eq_zero_or_pos j with r|r
 ·subst r;rfl
 ·obtain⟨i,rfl⟩: ∃i,j=i+1:=⟨j-1,by omega⟩
  rw [Nat.add_sub_cancel,sgD (show i<q.length by omega),h2 i hj,Bool.or_true]
theorem Qsa {q:List Sg} (h1: ∀(i:Nat) (hi:i<q.length),Qav q[i]=true) (h2: ∀(i:Nat) (hi:i+1<q.length),Qc1 q[i] q[i+1]=true) (h3:1≤q.length) (h4:q.length≤256):Qa4 q=true:=by
 unfold Qa4
 rw [Zjj h1 h2,decide_eq_true h3,decide_eq_true h4];rfl
theorem Qw8 {a b:Sg} (h:a.t=b.f) (h1: ∀i,i<3→plQ a 1 1 i=plQ b 0 1 i) (h2:plO a 1 1=plO b 0 1):Qc1 a b=true:=by
 unfold Qc1 Qm1
 rw [decide_eq_true h,decide_eq_true (h1 0 (by decide)),decide_eq_true (h1 1 (by decide)),decide_eq_true (h1 2 (by decide)),decide_eq_true h2];rfl
section
variable {p:List Sg} (hV:Qa4 p=true) {S:List (Sg×Int×Int)} {u v:Int} (h:sc p S u v) (hf:S.all spF=true)
include hV h hf
theorem Qsb (i:Nat) (hi:i<S.length):Qav (spS S[i])=true:=by
 obtain⟨a,b,c,d, -, -⟩:=Qo6 h i hi
 exact Qy5 (Qgp hV a) b c d (List.all_eq_true.1 hf _ (List.getElem_mem hi))
theorem Qw9 (i:Nat) (hi:i<S.length):((∀k,k<3→plQ (spS S[i]) 1 1 k=plT p S[i].2.2 k)∧plO (spS S[i]) 1 1=poT p S[i].2.2)∧((∀k,k<3→plQ (spS S[i]) 0 1 k=plT p S[i].2.1 k)∧plO (spS S[i]) 0 1=poT p S[i].2.1):=by
 obtain⟨a,b,c,d, -, -⟩:=Qo6 h i hi
 have hv:=Qsb hV h hf i hi
 obtain⟨⟨x1,x2⟩,y1,y2⟩:=Qid hv (m:=S[i].2.2-S[i].2.1) (by omega)
 obtain⟨z1,z2⟩:=Que hV a b c d (t:=S[i].2.2) (by omega) (Int.le_refl _)
 obtain⟨w1,w2⟩:=Que hV a b c d (t:=S[i].2.1) (Int.le_refl _) (by omega)
 have e:S[i].2.1-S[i].2.1=0:=by omega
 rw [e]at w1 w2
 exact⟨⟨fun k hk=>by rw [←x1 k hk,z1 k hk],by rw [←x2,z2]⟩,fun k hk=>by rw [←y1 k hk,w1 k hk],by rw [←y2,w2]⟩
theorem Qfx (h1:1≤S.length) (h2:S.length≤256):Qa4 (S.map spS)=true∧pBeg (S.map spS)=u∧pEnd (S.map spS)=v:=by
 refine⟨Qsa (fun i hi=> ?_) (fun i hi=> ?_) (by simpa using h1) (by simpa using h2),?_,?_⟩
 ·rw [List.length_map]at hi
  rw [List.getElem_map];exact Qsb hV h hf i hi
 ·rw [List.length_map]at hi
  rw [List.getElem_map,List.getElem_map]
  have hn:=Qud h i hi
  obtain⟨⟨x1,x2⟩, -⟩:=Qw9 hV h hf i (by omega)
  obtain⟨-,y1,y2⟩:=Qw9 hV h hf (i+1) hi
  exact Qw8 hn (fun k hk=>by rw [x1 k hk,y1 k hk,hn]) (by rw [x2,y2,hn])
 ·unfold pBeg
  rw [sgD (show 0<(S.map spS).length by rw [List.length_map];omega),List.getElem_map]
  exact Qw7 h (by omega)
 ·unfold pEnd
  rw [sgD (show(S.map spS).length-1<(S.map spS).length by rw [List.length_map];omega),List.getElem_map]
  have:=Q17 h (by omega)
  simp only [List.length_map]
  exact this
theorem Qlx (h1:1≤S.length) (h2:S.length≤256) {t:Int} (t1:u≤t) (t2:t≤v):(∀k,k<3→plT (S.map spS) t k=plT p t k)∧poT (S.map spS) t=poT p t:=by
 obtain⟨hq,e1,e2⟩:=Qfx hV h hf h1 h2
 have hi:=Quy hq (t:=t) (by omega)
 have ha:=Qkc hi
 have hb:=Qm5 hq (t:=t) (by omega) hi
 obtain⟨z1,z2⟩:=Zar hq hi hb ha
 have hi':atIx (S.map spS) t<S.length:=by simpa using hi
 rw [List.getElem_map]at z1 z2 ha hb
 obtain⟨a,b,c,d, -, -⟩:=Qo6 h _ hi'
 obtain⟨w1,w2⟩:=Que hV a b c d (t:=t) hb ha
 exact⟨fun k hk=>by rw [z1 k hk];exact w1 k hk,by rw [z2];exact w2⟩
end
def tch:List Sg→Int→Prop
 | [],_=>True
 |s::r,u=>s.f=u∧s.f<s.t∧tch r s.t
def endT:List Sg→Int→Int
 | [],u=>u
 |s::r,_=>endT r s.t
theorem Q18: ∀{q:List Sg} {u:Int},tch q u→u≤endT q u
 | [],_,_=>Int.le_refl _
 |s::r,u,⟨a,b,c⟩=>by have:=Q18 c;simp only [endT];omega
theorem Qxa {p:List Sg} (f t:Int): ∀(q:List Sg) (u:Int),tch q u→(∀s∈q,s∈p)→(max f u<min t (endT q u)→sc p (spans q f t) (max f u) (min t (endT q u)))∧(min t (endT q u)≤max f u→spans q f t=[])
 | [],u,_,_=>⟨fun h=>by simp only [endT]at h;omega,fun _=>rfl⟩
 |s::r,u,⟨a,b,c⟩,hm=>by
  obtain⟨k1,k2⟩:=Qxa f t r s.t c (fun x hx=>hm x (by simp [hx]))
  have hge:=Q18 c
  have e:endT (s::r) u=endT r s.t:=rfl
  rw [e]
  generalize endT r s.t=Z at*
  unfold spans
  by_cases hov:max f s.f≥min t s.t
  ·rw [if_pos hov]
   refine⟨fun h=> ?_,fun h=> ?_⟩
   ·have:max f s.t=max f u:=by omega
    rw [←this];exact k1 (by omega)
   ·exact k2 (by omega)
  ·rw [if_neg hov]
   refine⟨fun h=> ?_,fun h=>by omega⟩
   refine⟨hm s (by simp),by simp only;omega,by simp only;omega,by simp only;omega,by simp only;omega,?_⟩
   simp only
   by_cases h3:s.t<min t Z
   ·have e1:min t s.t=max f s.t:=by omega
    rw [e1];exact k1 (by omega)
   ·rw [k2 (by omega)]
    show min t s.t=min t Z
    omega
theorem Zpw {q:List Sg} (h1: ∀(i:Nat) (hi:i<q.length),q[i].f<q[i].t) (h2: ∀(i:Nat) (hi:i+1<q.length),q[i].t=q[i+1].f):(∀h:0<q.length,tch q q[0].f)∧ ∀(u:Int) (h:0<q.length),endT q u=(q[q.length-1]'(by omega)).t:=by
 induction q with
 |nil=>exact⟨fun h=>by simp at h,fun _ h=>by simp at h⟩
 |cons s r ih=>
  obtain⟨k1,k2⟩:=ih (fun i hi=>by have:=h1 (i+1) (by simpa using hi);simpa using this) (fun i hi=>by have:=h2 (i+1) (by simpa using hi);simpa using this)
  refine⟨fun _=>⟨rfl,by have:=h1 0 (by simp);simpa using this,?_⟩,fun u _=> ?_⟩
  ·cases r with
   |nil=>trivial
   |cons x r=>
    have:=h2 0 (by simp)
    simp only [List.getElem_cons_zero,List.getElem_cons_succ]at this
    rw [this];exact k1 (by simp)
  ·cases r with
   |nil=>rfl
   |cons x r=>
    have:=k2 s.t (by simp)
    simpa [endT]using this
theorem Qfh {p:List Sg} (hV:Qa4 p=true) {f t:Int} (h1:pBeg p≤f) (h2:f<t) (h3:t≤pEnd p):sc p (spans p f t) f t∧1≤(spans p f t).length:=by
 have hl:=(Qba hV).2.1
 obtain⟨c1,c2⟩:=Zpw (q:=p) (fun i hi=>(Qao (Qbp hV i hi)).1.2.1) (fun i hi=>(Qlw (Qcs hV i hi)).1)
 have hb:pBeg p=p[0].f:=by unfold pBeg;rw [sgD (show 0<p.length by omega)]
 have he:pEnd p=(p[p.length-1]'(by omega)).t:=by unfold pEnd;rw [sgD (show p.length-1<p.length by omega)]
 have hs:=Qxa (p:=p) f t p _ (c1 (by omega)) (fun _ h=>h)
 rw [c2 _ (by omega),←he,←hb]at hs
 have e1:max f (pBeg p)=f:=by omega
 have e2:min t (pEnd p)=t:=by omega
 rw [e1,e2]at hs
 have h4:=hs.1 h2
 refine⟨h4,?_⟩
 cases hS:spans p f t with
 |nil=>rw [hS]at h4;have h4:f=t:=h4;omega
 |cons x r=>simp
def rvP (p:List Sg):List Sg:=(List.range p.length).map fun j=>rvS (pBeg p+pEnd p) (p.getD (p.length-1-j) sg0)
theorem Qgq (p:List Sg):(rvP p).length=p.length:=by simp [rvP]
theorem Qgr (p:List Sg) (j:Nat) (h:j<(rvP p).length):(rvP p)[j]=rvS (pBeg p+pEnd p) (p[p.length-1-j]'(by rw [Qgq]at h;omega)):=by
 have hj:p.length-1-j<p.length:=by rw [Qgq]at h;omega
 have e:(rvP p)[j]? =some (rvS (pBeg p+pEnd p) p[p.length-1-j]):=by
  have hj2:j<p.length:=by rw [Qgq]at h;exact h
  unfold rvP
  rw [List.getElem?_map,List.getElem?_range hj2,Option.map_some,sgD hj]
 rw [List.getElem?_eq_getElem h]at e
 exact Option.some.inj e
section
variable {p:List Sg} (hV:Qa4 p=true)
include hV
theorem Zjk (i:Nat) (hi:i<p.length):pBeg p≤p[i].f∧p[i].t≤pEnd p:=by
 have h1:p.length-1<p.length:=by omega
 have hb:pBeg p=p[0].f:=by unfold pBeg;rw [sgD (show 0<p.length by omega)]
 have he:pEnd p=p[p.length-1].t:=by unfold pEnd;rw [sgD h1]
 refine⟨?_,by rw [he];exact Qdo hV (p.length-1) i h1 (by omega)⟩
 rcases Nat.eq_zero_or_pos i with r|r
 ·subst r;omega
 ·obtain⟨k,rfl⟩: ∃k,i=k+1:=⟨i-1,by omega⟩
  have m1:=(Qlw (Qcs hV k hi)).1
  have m2:=Qdo hV k 0 (by omega) (by omega)
  have m3:=(Qao (Qbp hV 0 (by omega))).1.2.1
  omega
theorem Qxb (i:Nat) (hi:i<p.length):p[i].t≤pBeg p+pEnd p∧pBeg p+pEnd p≤3600000+p[i].f:=by
 obtain⟨a,b⟩:=Zjk hV i hi
 have h0:0<p.length:=by omega
 have h1:p.length-1<p.length:=by omega
 have v0:=(Qao (Qbp hV 0 h0)).1
 have v1:=(Qao (Qbp hV _ h1)).1
 have hb:pBeg p=p[0].f:=by unfold pBeg;rw [sgD h0]
 have he:pEnd p=p[p.length-1].t:=by unfold pEnd;rw [sgD h1]
 omega
theorem Qmm:Qa4 (rvP p)=true∧pBeg (rvP p)=pBeg p∧pEnd (rvP p)=pEnd p:=by
 obtain⟨-,l1,l2⟩:=Qba hV
 have hlen:=Qgq p
 refine⟨Qsa (fun i hi=> ?_) (fun i hi=> ?_) (by omega) (by omega),?_,?_⟩
 ·rw [Qgr]
  obtain⟨a,b⟩:=Qxb hV (p.length-1-i) (by omega)
  exact Qit (Qbp hV _ (by omega)) a b
 ·rw [Qgr _ _ (by omega),Qgr]
  have hm:=Qcs hV (p.length-1-(i+1)) (by omega)
  have hidx: ∀(j:Nat) (hj:j<p.length),j=p.length-1-i→p[p.length-1-(i+1)].t=p[j].f∧(∀k,k<3→plQ p[p.length-1-(i+1)] 1 1 k=plQ p[j] 0 1 k)∧plO p[p.length-1-(i+1)] 1 1=plO p[j] 0 1:=by
   intro j hj e
   have e2:j=p.length-1-(i+1)+1:=by omega
   subst e2
   exact Qlw hm
  obtain⟨m1,m2,m3⟩:=hidx (p.length-1-i) (by omega) rfl
  have va:=Qbp hV (p.length-1-i) (by omega)
  have vb:=Qbp hV (p.length-1-(i+1)) (by omega)
  obtain⟨ra1,ra2⟩:=Qxb hV (p.length-1-i) (by omega)
  obtain⟨rb1,rb2⟩:=Qxb hV (p.length-1-(i+1)) (by omega)
  generalize p[p.length-1-i]=a at*
  generalize p[p.length-1-(i+1)]=b at*
  generalize pBeg p+pEnd p=W at*
  have hra:=Qit va ra1 ra2
  have hrb:=Qit vb rb1 rb2
  have ta:=(Qao va).1.2.1
  have tb:=(Qao vb).1.2.1
  obtain⟨p1,p2⟩:=Qqi (W:=W) va a.f
  obtain⟨q1,q2⟩:=Qqi (W:=W) vb b.t
  obtain⟨⟨x1,x2⟩, -⟩:=Qid hra (m:=a.t-a.f) (by omega)
  obtain⟨-,y1,y2⟩:=Qid hrb (m:=b.t-b.f) (by omega)
  obtain⟨-,z1,z2⟩:=Qid va (m:=a.t-a.f) (by omega)
  obtain⟨⟨w1,w2⟩, -⟩:=Qid vb (m:=b.t-b.f) (by omega)
  have e1:a.f-a.f=0:=by omega
  have e2:b.t-b.t=0:=by omega
  rw [e1]at p1 p2
  rw [e2]at q1 q2
  refine Qw8 (show W-a.f=W-b.t by omega) (fun k hk=> ?_) ?_
  ·rw [←x1 k hk,p1 k hk,z1 k hk,←m2 k hk,←w1 k hk,←q1 k hk,y1 k hk]
  ·rw [←x2,p2,z2,←m3,←w2,←q2,y2]
 ·have h0:0<(rvP p).length:=by omega
  unfold pBeg
  rw [sgD h0,Qgr]
  show pBeg p+pEnd p-p[p.length-1-0].t=_
  have:pEnd p=p[p.length-1].t:=by unfold pEnd;rw [sgD (show p.length-1<p.length by omega)]
  have e:p[p.length-1-0].t=p[p.length-1].t:=rfl
  have h2:pBeg p=(p.getD 0 sg0).f:=rfl
  omega
 ·have h0:(rvP p).length-1<(rvP p).length:=by omega
  unfold pEnd
  rw [sgD h0,Qgr]
  show pBeg p+pEnd p-(p[p.length-1-((rvP p).length-1)]'(by omega)).f=_
  have hx: ∀(j:Nat) (hj:j<p.length),j=0→p[j].f=pBeg p:=by
   rintro j hj rfl
   unfold pBeg;rw [sgD hj]
  rw [hx _ (by omega) (by omega)]
  have h2:pEnd p=(p.getD (p.length-1) sg0).t:=rfl
  omega
theorem Q19 {t:Int} (t1:pBeg p≤t) (t2:t≤pEnd p):(∀k,k<3→plT (rvP p) (pBeg p+pEnd p-t) k=plT p t k)∧poT (rvP p) (pBeg p+pEnd p-t)=poT p t:=by
 obtain⟨hq, -, -⟩:=Qmm hV
 have hi:=Quy hV (t:=t) t2
 have ha:=Qkc hi
 have hb:=Qm5 hV t1 hi
 obtain⟨z1,z2⟩:=Zar hV hi hb ha
 have hj:p.length-1-atIx p t<(rvP p).length:=by rw [Qgq];omega
 have hg:=Qgr p _ hj
 have hidx: ∀(j:Nat) (hj:j<p.length),j=atIx p t→p[j]=p[atIx p t]:=by
  rintro j hj rfl;rfl
 rw [hidx (p.length-1-(p.length-1-atIx p t)) (by omega) (by omega)]at hg
 have hv:=Qbp hV _ hi
 obtain⟨w1,w2⟩:=Zar hq hj (t:=pBeg p+pEnd p-t) (by rw [hg];show pBeg p+pEnd p-p[atIx p t].t≤_;omega) (by rw [hg];show _≤pBeg p+pEnd p-p[atIx p t].f;omega)
 rw [hg]at w1 w2
 obtain⟨x1,x2⟩:=Qqi (W:=pBeg p+pEnd p) hv t
 have e1:pBeg p+pEnd p-t-(rvS (pBeg p+pEnd p) p[atIx p t]).f=p[atIx p t].t-t:=by
  show pBeg p+pEnd p-t-(pBeg p+pEnd p-p[atIx p t].t)=_;omega
 have e2:(rvS (pBeg p+pEnd p) p[atIx p t]).t-(rvS (pBeg p+pEnd p) p[atIx p t]).f=p[atIx p t].t-p[atIx p t].f:=by
  show pBeg p+pEnd p-p[atIx p t].f-(pBeg p+pEnd p-p[atIx p t].t)=_;omega
 rw [e1,e2]at w1 w2
 exact⟨fun k hk=>by rw [w1 k hk,x1 k hk,z1 k hk],by rw [w2,x2,z2]⟩
theorem Zjl:rvP (rvP p)=p:=by
 obtain⟨hq,e1,e2⟩:=Qmm hV
 have hl:=Qgq p
 have hl2:=Qgq (rvP p)
 refine List.ext_getElem (by omega) fun i h1 h2=> ?_
 have hj:(rvP p).length-1-i<(rvP p).length:=by omega
 rw [Qgr (rvP p) i h1,Qgr p _ hj,e1,e2]
 have hidx: ∀(j:Nat) (hj:j<p.length),j=i→p[j]=p[i]:=by
  rintro j hj rfl;rfl
 rw [hidx _ (by omega) (by omega)]
 obtain⟨a,b⟩:=Qxb hV i h2
 exact Zte (Qbp hV i h2) a b
end
end Go.Dg

namespace Go.Dg
theorem Ztf {p:List Sg} (hV:Qa4 p=true) {f t:Int} (h1:pBeg p≤f) (h2:f<t) (h3:t≤pEnd p) (hno: ∀s∈p,f<s.f→t≤s.f):(spans p f t).length=1:=by
 obtain⟨hs,hl⟩:=Qfh hV h1 h2 h3
 rcases Nat.lt_or_ge (spans p f t).length 2 with q|q
 ·omega
 ·exfalso
  have n1:=Qud hs 0 (by omega)
  have f1:=Qw7 hs (by omega)
  obtain⟨-, -,a3, -, -, -⟩:=Qo6 hs 0 (by omega)
  obtain⟨b1, -,b3, -, -,b6⟩:=Qo6 hs 1 (by omega)
  have m:=Q3a (List.getElem_mem (show 1<(spans p f t).length by omega))
  have:=hno _ b1
  simp only [Nat.zero_add]at n1
  omega
section
variable {p:List Sg} (hV:Qa4 p=true) {T:List Int} (hT:T.Pairwise (· < ·)) (h0:pBeg p≤T.getD 0 0) (h1:T.getD (T.length-1) 0≤pEnd p)
include hV hT h0 h1
theorem T_in (i:Nat) (hi:i<T.length):pBeg p≤T.getD i 0∧T.getD i 0≤pEnd p:=by
 have _hV:=hV
 constructor
 ·rcases Nat.eq_zero_or_pos i with r|r
  ·subst r;exact h0
  ·have:=Qh0 hT r hi;omega
 ·rcases Nat.lt_or_ge i (T.length-1)with r|r
  ·have:=Qh0 hT r (by omega);omega
  ·have:i=T.length-1:=by omega
   subst this;exact h1
theorem Zpx (k:Nat) (hk:k<T.length):sc p (cmS p T k) (T.getD 0 0) (T.getD k 0):=by
 induction k with
 |zero=>rfl
 |succ k ih=>
  rw [Qhe]
  obtain⟨a, -⟩:=T_in hV hT h0 h1 k (by omega)
  obtain⟨-,b⟩:=T_in hV hT h0 h1 (k+1) hk
  exact Qml (ih (by omega)) (Qfh hV a (Qh0 hT (by omega) hk) b).1
theorem Zh7 (hno: ∀s∈p,∀i,i+1<T.length→T.getD i 0<s.f→T.getD (i+1) 0≤s.f) (k:Nat) (hk:k<T.length):(cmS p T k).length=k:=by
 induction k with
 |zero=>rfl
 |succ k ih=>
  obtain⟨a, -⟩:=T_in hV hT h0 h1 k (by omega)
  obtain⟨-,b⟩:=T_in hV hT h0 h1 (k+1) hk
  rw [Qhe,List.length_append,ih (by omega),Ztf hV a (Qh0 hT (by omega) hk) b fun s hs hlt=>hno s hs k hk hlt]
end
theorem Zpy (a b:List Sg) (f t:Int) (hft:f<t): ∀s∈a++b,∀i,i+1<(brk a b f t).length→(brk a b f t).getD i 0<s.f→(brk a b f t).getD (i+1) 0≤s.f:=by
 intro s hs i hi hlt
 have hst:=Qj4 a b f t
 obtain⟨-,e0,e1⟩:=Qqf a b f t hft
 have hm:=Qqe a b f t
 generalize brk a b f t=T at*
 have h0:f≤T.getD i 0:=by
  rcases Nat.eq_zero_or_pos i with r|r
  ·subst r;omega
  ·have:=Qh0 hst r (by omega);omega
 have h1:T.getD (i+1) 0≤t:=by
  rcases Nat.lt_or_ge (i+1) (T.length-1)with r|r
  ·have:=Qh0 hst r (by omega);omega
  ·have:i+1=T.length-1:=by omega
   rw [this,e1];exact Int.le_refl _
 rcases Int.lt_or_le s.f t with r|r
 ·exact Zaj hst hi ((hm _).2 (.inr (.inr ⟨s,hs,rfl,by omega,r⟩))) hlt
 ·omega
end Go.Dg

namespace Go.Vl
open Go.RowKit
mutual
def Vgo (P:Program) (nt:Nat):List It→(Exit→St→Prop)→St→Prop
 | [],Q,st=>Q .normal st
 | .blk _::k,Q,st=>Vgo P nt k Q st
 | .again J::_,_,st=>J st
 | .code c::k,Q,st=>Vwp P nt c (fun e s=>Vleave P nt k Q e s) st
def Vleave (P:Program) (nt:Nat):List It→(Exit→St→Prop)→Exit→St→Prop
 | [],Q,e,st=>Q e st
 | .blk j::k,Q,e,st=>match e with
  | .exit i=>if i=j then Vgo P nt k Q st else Vleave P nt k Q (.exit i) st
  | .normal=>Vgo P nt k Q st
  |e=>Vleave P nt k Q e st
 | .again J::k,Q,e,st=>match e with
  | .normal=>J st
  |e=>Vleave P nt k Q e st
 | .code c::k,Q,e,st=>match e with
  | .normal=>Vwp P nt c (fun e s=>Vleave P nt k Q e s) st
  |e=>Vleave P nt k Q e st
end
section
variable {P:Program} {tb:Tab} {nt:Nat} {ks:List Nat} {Q:Exit→St→Prop}
theorem Qme (hm:P.follows .mixedOrders=true): ∀(k:List It),(∀st,go P tb nt ks k Q st→Vgo P nt k Q st)∧ ∀e st,gleave P tb nt ks k Q e st→Vleave P nt k Q e st
 | []=>⟨fun st h=>by simpa only [go,Vgo]using h,fun e st h=>by simpa only [gleave,Vleave]using h⟩
 | .blk j::k=>by
  obtain⟨h1,h2⟩:=Qme hm k
  refine⟨fun st h=> ?_,fun e st h=> ?_⟩
  ·simp only [go]at h;simp only [Vgo];exact h1 st h
  ·cases e with
   |exit i=>
    simp only [gleave]at h;simp only [Vleave]
    split at h
    ·rename_i e;rw [if_pos e];exact h1 st h
    ·rename_i e;rw [if_neg e];exact h2 _ st h
   |normal=>simp only [gleave]at h;simp only [Vleave];exact h1 st h
   |_=>simp only [gleave]at h;simp only [Vleave];exact h2 _ st h
 | .again J::k=>by
  obtain⟨h1,h2⟩:=Qme hm k
  refine⟨fun st h=>by simpa only [go,Vgo]using h,fun e st h=> ?_⟩
  cases e with
  |normal=>simpa only [gleave,Vleave]using h
  |_=>simp only [gleave]at h;simp only [Vleave];exact h2 _ st h
 | .code c::k=>by
  obtain⟨h1,h2⟩:=Qme hm k
  have key: ∀st,vx P tb nt ks c (fun e s=>gleave P tb nt ks k Q e s) st→Vwp P nt c (fun e s=>Vleave P nt k Q e s) st:=fun st h=>Qgb (Qc7 hm c _ _ h) fun e s q=>h2 e s q
  refine⟨fun st h=> ?_,fun e st h=> ?_⟩
  ·simp only [go]at h;simp only [Vgo];exact key st h
  ·cases e with
   |normal=>simp only [gleave]at h;simp only [Vleave];exact key st h
   |_=>simp only [gleave]at h;simp only [Vleave];exact h2 _ st h
theorem v_go (hm:P.follows .mixedOrders=true) {k:List It} {st:St} (h:go P tb nt ks k Q st):Vgo P nt k Q st:=(Qme hm k).1 st h
def codes (L:List Code) (k:List It):List It:=L.foldr (fun c k=> .code c::k) k
theorem Zac {st1:St} {c:Code} {k:List It} (h2:Vgo P nt (.code c::k) Q st1): ∀(L:List Code),(∀st,Vgo P nt (codes L (.again (fun s=>Le s st1):: .code c::k)) Q st→Vgo P nt (codes L (.code c::k)) Q st)∧
  ∀e st,Vleave P nt (codes L (.again (fun s=>Le s st1):: .code c::k)) Q e st→Vleave P nt (codes L (.code c::k)) Q e st
 | []=>by
  have base: ∀st,Le st st1→Vgo P nt (.code c::k) Q st:=fun st h=>by
   simp only [Vgo]at h2 ⊢;exact Zsd h2 h
  refine⟨fun st h=>base st (by simpa only [codes,List.foldr,Vgo]using h),fun e st h=> ?_⟩
  cases e with
  |normal=>
   have:=base st (by simpa only [codes,List.foldr,Vleave]using h)
   simp only [codes,List.foldr,Vleave];simpa only [Vgo]using this
  |_=>simpa only [codes,List.foldr,Vleave]using h
 |d::L=>by
  obtain⟨h3,h4⟩:=Zac h2 L
  refine⟨fun st h=> ?_,fun e st h=> ?_⟩
  ·simp only [codes,List.foldr,Vgo]at h ⊢
   exact Qgb h fun e s q=>h4 e s q
  ·cases e with
   |normal=>
    simp only [codes,List.foldr,Vleave]at h ⊢
    exact Qgb h fun e s q=>h4 e s q
   |_=>simp only [codes,List.foldr,Vleave]at h ⊢;exact h4 _ _ h
theorem Zs1 (hm:P.follows .mixedOrders=true) (tb:Tab) (ks:List Nat) {st st1:St} (L:List Code) {c:Code} {k:List It} (h1:go P tb nt ks (codes L (.again (fun s=>Le s st1):: .code c::k)) Q st) (h2:Vgo P nt (.code c::k) Q st1):
  Vgo P nt (codes L (.code c::k)) Q st:=(Zac h2 L).1 st (v_go hm h1)
def Qlt:Code→List Code
 | .seq a b=>a::Qlt b
 |c=>[c]
theorem Zad {k:List It}: ∀(c:Code),(∀st,Vgo P nt (codes (Qlt c) k) Q st→Vgo P nt (.code c::k) Q st)∧ ∀e st,Vleave P nt (codes (Qlt c) k) Q e st→Vleave P nt (.code c::k) Q e st
 | .seq a b=>by
  obtain⟨h1,h2⟩:=Zad (k:=k) b
  have key: ∀st,Vwp P nt a (fun e s=>Vleave P nt (codes (Qlt b) k) Q e s) st→Vwp P nt (.seq a b) (fun e s=>Vleave P nt k Q e s) st:=fun st h=>Qwg (Qgb h fun e s q=>by
   have q:=h2 e s q
   cases e with
   |normal=>simpa only [Vleave,vthen]using q
   |_=>simpa only [Vleave,vthen]using q)
  refine⟨fun st h=> ?_,fun e st h=> ?_⟩
  ·simp only [Qlt,codes,List.foldr,Vgo]at h ⊢;exact key st h
  ·cases e with
   |normal=>simp only [Qlt,codes,List.foldr,Vleave]at h ⊢;exact key st h
   |_=>
    simp only [Qlt,codes,List.foldr,Vleave]at h ⊢
    have:=h2 _ _ h
    simpa only [Vleave]using this
 | .skip| .label _| .exit _| .ret| .region _ _ _| .cond _ _ _| .block _ _| .loop _| .rangeFunc _ _ _ _| .scope _| .goto _| .refuse _=>⟨fun _ h=>h,fun _ _ h=>h⟩
theorem Zs2 {k:List It} {c:Code} {st:St} (h:Vgo P nt (codes (Qlt c) k) Q st):Vgo P nt (.code c::k) Q st:=(Zad c).1 st h
theorem Qt2 (k:List It): ∀(A B:List Code),codes (A++B) k=codes A (codes B k)
 | [],_=>rfl
 |a::A,B=>by simp only [List.cons_append,codes,List.foldr];rw [←codes,Qt2 k A B];rfl
theorem Zae (hm:P.follows .mixedOrders=true) (tb:Tab) (ks:List Nat) {C:List Code} (n:Nat) (hn:Nat.blt n C.length=true) {st:St} (st1:St)
  (h1:go P tb nt ks (codes (C.take n) (.again (fun s=>Le s st1)::codes (C.drop n) [])) Q st) (h2:Vgo P nt (codes (C.drop n) []) Q st1):Vgo P nt (codes C []) Q st:=by
 have hn:n<C.length:=by rw [Nat.blt_eq]at hn;exact hn
 have e:C.drop n=C[n]::C.drop (n+1):=List.drop_eq_getElem_cons hn
 have e2:codes C []=codes (C.take n) (.code C[n]::codes (C.drop (n+1)) []):=by
  have:=Qt2 [] (C.take n) (C.drop n)
  rw [List.take_append_drop]at this
  rw [this,e];rfl
 rw [e2]
 have e3:codes (C.drop n) []= .code C[n]::codes (C.drop (n+1)) []:=by rw [e];rfl
 rw [e3]at h1 h2
 exact Zs1 hm tb ks _ h1 h2
theorem Zs3 {f:FuncId} {fn:Func} {c:Code} {args:List PV} {r:PV} (nt:Nat) (rs:List ResultVar) (hf:P.funcs[f]? =some fn) (hb:fn.body=some c)
  (hc:callable P f=true) (hnt:fn.ntmps=nt) (hrs:fn.results.toList=rs) (hn:Nat.ble args.length nt=true)
  (h:Vgo P nt (codes (Qlt c) []) (vret P rs (· =r)) (St.of (Qcg 0 args) [])):Qaf P f args r:=
 Qrw nt rs hf hb hc hnt hrs hn (by
  have h:=Zs2 h
  simp only [Vgo,Vleave]at h
  exact h)
end
end Go.Vl

namespace Go.Proofs.YtlpiamlgibomhaaGreat
open Go.Vl Go.RowKit Go.Dg
theorem Qzt {s:Sg} (hv:Qav s=true):okSg s:=by
 obtain⟨⟨v1,v2,v3,v4,v5⟩,hax, -⟩:=Qao hv
 refine⟨by unfold i64;omega,by unfold i64;omega,by unfold i64;omega,fun c hc x hx=> ?_,fun c hc=>by have:=(Qb5 (hax c hc)).2.1;omega⟩
 have:=Qmk hv c hc x hx
 unfold i64;omega
theorem Qd5 {p:List Sg} (hV:Qa4 p=true): ∀s∈p,okSg s:=fun _ hs=>Qzt (Qgp hV hs)
theorem Qnk (p:List Sg) (hV:Qa4 p=true):Qaf Tryz.prog 37 [Qan p] (.tup [Qan (rvP p),.int .i64 0]):=by
 have h:=Qpq p (Qd5 hV) (by have:=(Qba hV).2.2;omega) (fun _ s hs i hi x hx=>Zpu (Qgp hV hs) i hi x hx)
 unfold Qgy at h
 rw [if_pos hV]at h
 exact h
theorem Qi4 (p:List Sg) (hV:Qa4 p=true) (t:Int) (h1:pBeg p≤t) (h2:t≤pEnd p):Qaf Tryz.prog 15 [Qan p,.int .i64 t] (.tup [Qae (plT p t 0) (plT p t 1) (plT p t 2) (poT p t),.int .i64 0]):=by
 obtain⟨e1,e2,e3,e4⟩:=Qds hV
 have h:=Qrb p t (Qd5 hV) (by have:=(Qba hV).2.2;omega) (by unfold i64;omega)
 unfold Qno at h
 rw [if_pos hV,if_pos (by unfold lasts;simp [h1,h2])]at h
 exact h
theorem Qi5 {p q:List Sg} (hV:Qa4 q=true) (t u:Int) (h1:pBeg q≤u) (h2:u≤pEnd q) (hq: ∀k,k<3→plT q u k=plT p t k) (ho:poT q u=poT p t):Qaf Tryz.prog 15 [Qan q,.int .i64 u] (.tup [Qae (plT p t 0) (plT p t 1) (plT p t 2) (poT p t),.int .i64 0]):=by
 have h:=Qi4 q hV u h1 h2
 rw [hq 0 (by decide),hq 1 (by decide),hq 2 (by decide),ho]at h
 exact h
end Go.Proofs.YtlpiamlgibomhaaGreat

namespace Go.Proofs.YtlpiamlgibomhaaGreat
open Go.Vl Go.RowKit Go.Dg
theorem Qf3 (a b c o:Int): ∃b1 s1 b2 s2 b3 s3 b4 s4,Qae a b c o= .agg [.bool b1,.str s1,.bool b2,.str s2,.bool b3,.str s3,.bool b4,.str s4]:=⟨_,_,_,_,_,_,_,_,rfl⟩
set_option maxHeartbeats 16000000 in
set_option maxRecDepth 100000 in
theorem Qnl (p q:List Sg) (hp6:p.length≤6) (hq6:q.length≤6) (hq: ∀s∈q,okSg s) (hV:Qa4 p=true) (f mid t:Int) (hf:i64 f) (hm:i64 mid) (ht:i64 t)
  (w1:Qaf Tryz.prog 11 [.slc (p.map sgPV),.int .i64 6] (.bool true)) (w2:Qaf Tryz.prog 11 [.slc (q.map sgPV),.int .i64 6] (.bool true)):
  Qaf Tryz.prog 10 [.slc (p.map sgPV),.slc (q.map sgPV),.int .i64 f,.int .i64 mid,.int .i64 t] (.bool true):=by
 have hk:=Qpr
 have hp:=Qd5 hV
 obtain⟨hR,rb,re⟩:=Qmm hV
 obtain⟨e1,e2,e3,e4⟩:=Qds hV
 have hl1:=(Qba hV).2.1
 have w3:=Qk3 p hp (by omega)
 rw [hV]at w3
 have k1:=Qnk p hV
 have k2:=Qnk (rvP p) hR
 rw [Zjl hV]at k2
 have k3:=Qnm p p ⟨by omega,fun s hs c hc=>by have:=Qch (Qgp hV hs) c hc;omega⟩ ⟨by omega,fun s hs c hc=>by have:=Qch (Qgp hV hs) c hc;omega⟩
 rw [Qzh]at k3
 have k4:=Qcu (rvP p) (Qd5 hR) (by rw [Qgq];omega)
 rw [hR]at k4
 have hL:=Qx3 p mid (by omega) (by omega)
 unfold Qan at w3 k1 k2 k3 k4 hL
 refine Zs3 350 [.tmp 10] Tryz.func10 rfl (by kernel_rfl) (by kernel_rfl) (by kernel_rfl) (by kernel_rfl) ?_
 refine Zae mixed [] [0,1,2,3,4,10,11,12,13,14,15,16,17,18,19,20,21,22,23,24,25,26,27,28,29,30,31,32,33,34,35,36,37,38,39,40,41,42,43,44,45,46,59,87,90,159,178,198,251,269,290] 6 rfl (St.of [(0,.slc (p.map sgPV)),(1,.slc (q.map sgPV)),(2,.int .i64 f),(3,.int .i64 mid),(4,.int .i64 t)] []) ?_ ?_
 ·simp only [codes,Qlt,List.take_succ_cons,List.take_zero,List.drop_succ_cons,List.drop_zero,List.foldr_cons,List.foldr_nil]
  cases hLL:lasts p mid with
  |false=>
   rw [hLL]at hL
   repeat (first|(simp -implicitDefEqProofs only [go_sem,Nat.reduceAdd,Nat.reduceMul,Nat.reduceEqDiff,Nat.reduceLT,Nat.reduceLeDiff,reduceCtorEq,Int.reduceNeg,Qf5,Bool.not_true,Bool.not_false])|((with_reducible refine Qab (w1) ?_ ?_ ?_);(with_reducible rfl);rfl)|((with_reducible refine Qab (w2) ?_ ?_ ?_);(with_reducible rfl);rfl)|((with_reducible refine Qab (w3) ?_ ?_ ?_);(with_reducible rfl);rfl)|((with_reducible refine Qab (k1) ?_ ?_ ?_);(with_reducible rfl);rfl)|((with_reducible refine Qab (k2) ?_ ?_ ?_);(with_reducible rfl);rfl)|((with_reducible refine Qab (k3) ?_ ?_ ?_);(with_reducible rfl);rfl)|((with_reducible refine Qab (k4) ?_ ?_ ?_);(with_reducible rfl);rfl)|((with_reducible refine Qab (hL) ?_ ?_ ?_);(with_reducible rfl);rfl))
   refine Qak (θ:=[]) rfl ?_ trivial
   simp [Qad,lkp,ren1,ren0,Qam]
  |true=>
   rw [hLL]at hL
   have hLL2:=hLL
   unfold lasts at hLL2
   simp only [Bool.and_eq_true,decide_eq_true_eq]at hLL2
   obtain⟨m1,m2⟩:=hLL2
   obtain⟨r1,r2⟩:=Q19 hV m1 m2
   have g1:=Qx2 p (by omega)
   have g2:=Zir p (by omega) (by omega)
   have x1:=Qi4 p hV mid m1 m2
   have x2:=Qi5 (p:=p) hR mid (pBeg p+pEnd p-mid) (by omega) (by omega) r1 r2
   have x3:=Zqf p mid hp (by omega) hm
   unfold atPV at x3
   rw [if_pos hV,if_pos hLL]at x3
   obtain⟨b1, -, -⟩:=Zqe hp hV hLL
   obtain⟨-,c1,c2⟩:=b1 0 (by decide)
   obtain⟨-,c3,c4⟩:=b1 1 (by decide)
   obtain⟨-,c5,c6⟩:=b1 2 (by decide)
   obtain⟨B1,S1,B2,S2,B3,S3,B4,S4,hpl⟩:=Qf3 (plT p mid 0) (plT p mid 1) (plT p mid 2) (poT p mid)
   rw [hpl]at x1 x2
   clear hpl b1 r1 r2
   generalize rnd (exQ p mid 0) (exO p mid)=vx at*
   generalize rnd (exQ p mid 1) (exO p mid)=vy at*
   generalize rnd (exQ p mid 2) (exO p mid)=vz at*
   have d1:(vx< -1048576)=False:=eq_false (by omega)
   have d2:(1048576<vx)=False:=eq_false (by omega)
   have d3:(vy< -1048576)=False:=eq_false (by omega)
   have d4:(1048576<vy)=False:=eq_false (by omega)
   have d5:(vz< -1048576)=False:=eq_false (by omega)
   have d6:(1048576<vz)=False:=eq_false (by omega)
   have y1:IntKind.i64.wrap (pBeg p+pEnd p)=pBeg p+pEnd p:=Qai (by omega) (by omega)
   have y2:IntKind.i64.wrap (pBeg p+pEnd p-mid)=pBeg p+pEnd p-mid:=Qai (by omega) (by omega)
   unfold Qan at g1 g2 x1 x2 x3
   repeat (first|(simp -implicitDefEqProofs only [go_sem,Nat.reduceAdd,Nat.reduceMul,Nat.reduceEqDiff,Nat.reduceLT,Nat.reduceLeDiff,reduceCtorEq,Int.reduceNeg,Qf5,y1,y2,d1,d2,d3,d4,d5,d6,decide_false,Qnr,Zbv,bne_self_eq_false,beq_self_eq_true,Bool.not_true,Bool.not_false])|((with_reducible refine Qab (w1) ?_ ?_ ?_);(with_reducible rfl);rfl)|((with_reducible refine Qab (w2) ?_ ?_ ?_);(with_reducible rfl);rfl)|((with_reducible refine Qab (w3) ?_ ?_ ?_);(with_reducible rfl);rfl)|((with_reducible refine Qab (k1) ?_ ?_ ?_);(with_reducible rfl);rfl)|((with_reducible refine Qab (k2) ?_ ?_ ?_);(with_reducible rfl);rfl)|((with_reducible refine Qab (k3) ?_ ?_ ?_);(with_reducible rfl);rfl)|((with_reducible refine Qab (k4) ?_ ?_ ?_);(with_reducible rfl);rfl)|((with_reducible refine Qab (hL) ?_ ?_ ?_);(with_reducible rfl);rfl)|((with_reducible refine Qab (g1) ?_ ?_ ?_);(with_reducible rfl);rfl)|((with_reducible refine Qab (g2) ?_ ?_ ?_);(with_reducible rfl);rfl)|((with_reducible refine Qab (x1) ?_ ?_ ?_);(with_reducible rfl);rfl)|((with_reducible refine Qab (x2) ?_ ?_ ?_);(with_reducible rfl);rfl)|((with_reducible refine Qab (x3) ?_ ?_ ?_);(with_reducible rfl);rfl))
   refine Qak (θ:=[]) rfl ?_ trivial
   simp [Qad,lkp,ren1,ren0,Qam]
 ·refine Zae mixed [] [0,1,2,3,4,10,11,12,13,14,15,16,17,18,19,20,21,22,23,24,25,26,27,28,29,30,31,32,33,34,35,36,37,38,39,40,41,42,43,44,45,46,59,87,90,159,178,198,251,269,290] 2 rfl (St.of [(0,.slc (p.map sgPV)),(1,.slc (q.map sgPV)),(3,.int .i64 mid)] []) ?_ ?_
  ·simp only [codes,Qlt,List.take_succ_cons,List.take_zero,List.drop_succ_cons,List.drop_zero,List.foldr_cons,List.foldr_nil]
   have hcu:=Qsu p f t hp (by omega)
   unfold Qk2 at hcu
   rw [if_pos hV]at hcu
   by_cases hft:pBeg p≤f∧f<t∧t≤pEnd p
   ·rw [if_pos hft]at hcu
    obtain⟨f1,f2,f3⟩:=hft
    unfold Qlm at hcu
    by_cases hall:(spans p f t).all spF=true
    ·rw [if_pos hall]at hcu
     by_cases hfm:f<mid
     ·have hfm':(f<mid)=True:=eq_true hfm
      by_cases hmt:mid<t
      ·have hmt':(mid<t)=True:=eq_true hmt
       have ca:=Qsu p f mid hp (by omega)
       have cb:=Qsu p mid t hp (by omega)
       unfold Qk2 at ca cb
       rw [if_pos hV,if_pos ⟨f1,hfm,by omega⟩]at ca
       rw [if_pos hV,if_pos ⟨by omega,hmt,f3⟩]at cb
       unfold Qlm at ca cb
       cases fa:(spans p f mid).all spF with
       |false=>
        rw [if_neg (by rw [fa];simp)]at ca
        obtain⟨XB,nB,hcbx⟩: ∃XB nB,(if(spans p mid t).all spF=true then PV.tup [Qan ((spans p mid t).map spS),.int .i64 0]else PV.tup [Qan [],.int .i64 7])= .tup [.slc XB,.int .i64 nB]:=by
         split<;>exact⟨_,_,rfl⟩
        rw [hcbx]at cb
        unfold Qan at hcu ca cb
        repeat (first|(simp -implicitDefEqProofs only [go_sem,Nat.reduceAdd,Nat.reduceMul,Nat.reduceEqDiff,Nat.reduceLT,Nat.reduceLeDiff,reduceCtorEq,hfm',hmt',Qi7,Zb0,decide_true])|((with_reducible refine Qab (hcu) ?_ ?_ ?_);(with_reducible rfl);rfl)|((with_reducible refine Qab (ca) ?_ ?_ ?_);(with_reducible rfl);rfl)|((with_reducible refine Qab (cb) ?_ ?_ ?_);(with_reducible rfl);rfl))
        refine Qak (θ:=[]) rfl ?_ trivial
        simp [Qad,lkp,ren1,ren0,Qam]
       |true=>
        rw [if_pos fa]at ca
        cases fb:(spans p mid t).all spF with
        |false=>
         rw [if_neg (by rw [fb];simp)]at cb
         unfold Qan at hcu ca cb
         repeat (first|(simp -implicitDefEqProofs only [go_sem,Nat.reduceAdd,Nat.reduceMul,Nat.reduceEqDiff,Nat.reduceLT,Nat.reduceLeDiff,reduceCtorEq,hfm',hmt',Qi7,Zb0,decide_true])|((with_reducible refine Qab (hcu) ?_ ?_ ?_);(with_reducible rfl);rfl)|((with_reducible refine Qab (ca) ?_ ?_ ?_);(with_reducible rfl);rfl)|((with_reducible refine Qab (cb) ?_ ?_ ?_);(with_reducible rfl);rfl))
         refine Qak (θ:=[]) rfl ?_ trivial
         simp [Qad,lkp,ren1,ren0,Qam]
        |true=>
         rw [if_pos fb]at cb
         obtain⟨sa,na⟩:=Qfh hV f1 hfm (show mid≤pEnd p by omega)
         obtain⟨sb,nb⟩:=Qfh hV (show pBeg p≤mid by omega) hmt f3
         obtain⟨scc,nc⟩:=Qfh hV f1 (show f<t by omega) f3
         have la:=Qb7 p f mid
         have lb:=Qb7 p mid t
         have lc:=Qb7 p f t
         obtain⟨va,va1,va2⟩:=Qfx hV sa fa na (by omega)
         obtain⟨vb,vb1,vb2⟩:=Qfx hV sb fb nb (by omega)
         obtain⟨vc,vc1,vc2⟩:=Qfx hV scc hall nc (by omega)
         have sab:=Qml sa sb
         have fab:(spans p f mid++spans p mid t).all spF=true:=by rw [List.all_append,fa,fb];rfl
         obtain⟨vab,vab1,vab2⟩:=Qfx hV sab fab (by rw [List.length_append];omega) (by rw [List.length_append];omega)
         have hmm:Qng ((spans p f mid).map spS) ((spans p mid t).map spS)=true:=by
          have h1:=Qcs vab ((spans p f mid).length-1) (by simp;omega)
          unfold Qng
          have i1:((spans p f mid).map spS).length-1<((spans p f mid).map spS).length:=by rw [List.length_map];omega
          have i2:0<((spans p mid t).map spS).length:=by rw [List.length_map];omega
          rw [sgD i1,sgD i2]
          have j1:((spans p f mid++spans p mid t).map spS)[(spans p f mid).length-1]'(by simp;omega)=((spans p f mid).map spS)[((spans p f mid).map spS).length-1]:=by
           simp only [List.map_append,List.length_map]
           rw [List.getElem_append_left]
          have j2:((spans p f mid++spans p mid t).map spS)[(spans p f mid).length-1+1]'(by simp;omega)=((spans p mid t).map spS)[0]:=by
           simp only [List.map_append]
           rw [List.getElem_append_right (by rw [List.length_map];omega)]
           congr 1
           rw [List.length_map];omega
          rw [←j1,←j2];exact h1
         have hap:=Qnh _ _ (Qd5 va) (Qd5 vb) (by rw [List.length_map];omega) (by rw [List.length_map];omega)
         unfold Qu5 at hap
         rw [if_pos ⟨va,vb⟩,if_pos hmm,if_pos (by rw [List.length_map,List.length_map];omega),←List.map_append]at hap
         have x1:=Qi4 p hV mid (by omega) (by omega)
         obtain⟨y1,y2⟩:=Qlx hV scc hall nc (by omega) (t:=mid) (by omega) (by omega)
         obtain⟨z1,z2⟩:=Qlx hV sb fb nb (by omega) (t:=mid) (by omega) (by omega)
         have x2:=Qi5 (p:=p) vc mid mid (by omega) (by omega) y1 y2
         have x3:=Qi5 (p:=p) vb mid mid (by omega) (by omega) z1 z2
         have x4:=Qcu _ (Qd5 vc) (by rw [List.length_map];omega)
         rw [vc]at x4
         have x5:=Qq9 _ (Qd5 vab) (by rw [List.length_map,List.length_append];omega)
         rw [if_pos vab,vab1,vab2]at x5
         obtain⟨B1,S1,B2,S2,B3,S3,B4,S4,hpl⟩:=Qf3 (plT p mid 0) (plT p mid 1) (plT p mid 2) (poT p mid)
         rw [hpl]at x1 x2 x3
         clear hpl y1 y2 z1 z2
         unfold Qan at hcu ca cb hap x1 x2 x3 x4 x5
         generalize ((spans p f mid).map spS).map sgPV=PA at*
         generalize ((spans p mid t).map spS).map sgPV=PB at*
         generalize ((spans p f t).map spS).map sgPV=PC at*
         generalize ((spans p f mid++spans p mid t).map spS).map sgPV=PAB at*
         repeat (first|(simp -implicitDefEqProofs only [go_sem,Nat.reduceAdd,Nat.reduceMul,Nat.reduceEqDiff,Nat.reduceLT,Nat.reduceLeDiff,reduceCtorEq,hfm',hmt',Qi7,Qf5,decide_true,Qnr,Zbv,bne_self_eq_false,beq_self_eq_true,Bool.not_true,Bool.not_false])|((with_reducible refine Qab (hcu) ?_ ?_ ?_);(with_reducible rfl);rfl)|((with_reducible refine Qab (ca) ?_ ?_ ?_);(with_reducible rfl);rfl)|((with_reducible refine Qab (cb) ?_ ?_ ?_);(with_reducible rfl);rfl)|((with_reducible refine Qab (hap) ?_ ?_ ?_);(with_reducible rfl);rfl)|((with_reducible refine Qab (x1) ?_ ?_ ?_);(with_reducible rfl);rfl)|((with_reducible refine Qab (x2) ?_ ?_ ?_);(with_reducible rfl);rfl)|((with_reducible refine Qab (x3) ?_ ?_ ?_);(with_reducible rfl);rfl)|((with_reducible refine Qab (x4) ?_ ?_ ?_);(with_reducible rfl);rfl)|((with_reducible refine Qab (x5) ?_ ?_ ?_);(with_reducible rfl);rfl))
         refine Qak (θ:=[]) rfl ?_ trivial
         simp [Qad,lkp,ren1,ren0,Qam]
      ·have hmt':(mid<t)=False:=eq_false hmt
       unfold Qan at hcu
       repeat (first|(simp -implicitDefEqProofs only [go_sem,Nat.reduceAdd,Nat.reduceMul,Nat.reduceEqDiff,Nat.reduceLT,Nat.reduceLeDiff,reduceCtorEq,hfm',hmt',Qi7,decide_true,decide_false])|((with_reducible refine Qab (hcu) ?_ ?_ ?_);(with_reducible rfl);rfl))
       refine Qak (θ:=[]) rfl ?_ trivial
       simp [Qad,lkp,ren1,ren0,Qam]
     ·have hfm':(f<mid)=False:=eq_false hfm
      unfold Qan at hcu
      repeat (first|(simp -implicitDefEqProofs only [go_sem,Nat.reduceAdd,Nat.reduceMul,Nat.reduceEqDiff,Nat.reduceLT,Nat.reduceLeDiff,reduceCtorEq,hfm',Qi7,decide_false])|((with_reducible refine Qab (hcu) ?_ ?_ ?_);(with_reducible rfl);rfl))
      refine Qak (θ:=[]) rfl ?_ trivial
      simp [Qad,lkp,ren1,ren0,Qam]
    ·rw [if_neg hall]at hcu
     unfold Qan at hcu
     repeat (first|(simp -implicitDefEqProofs only [go_sem,Nat.reduceAdd,Nat.reduceMul,Nat.reduceEqDiff,Nat.reduceLT,Nat.reduceLeDiff,reduceCtorEq,Zb0])|((with_reducible refine Qab (hcu) ?_ ?_ ?_);(with_reducible rfl);rfl))
     refine Qak (θ:=[]) rfl ?_ trivial
     simp [Qad,lkp,ren1,ren0,Qam]
   ·rw [if_neg hft]at hcu
    unfold Qan at hcu
    repeat (first|(simp -implicitDefEqProofs only [go_sem,Nat.reduceAdd,Nat.reduceMul,Nat.reduceEqDiff,Nat.reduceLT,Nat.reduceLeDiff,reduceCtorEq,Zqs])|((with_reducible refine Qab (hcu) ?_ ?_ ?_);(with_reducible rfl);rfl))
    refine Qak (θ:=[]) rfl ?_ trivial
    simp [Qad,lkp,ren1,ren0,Qam]
  ·refine v_go (tb:=[]) (ks:=[0,1,2,3,4,10,11,12,13,14,15,16,17,18,19,20,21,22,23,24,25,26,27,28,29,30,31,32,33,34,35,36,37,38,39,40,41,42,43,44,45,46,59,87,90,159,178,198,251,269,290]) mixed ?_
   simp only [codes,Qlt,List.take_succ_cons,List.take_zero,List.drop_succ_cons,List.drop_zero,List.foldr_cons,List.foldr_nil]
   have hco:=Q4d p q hp hq hp6 hq6
   unfold Q4c at hco
   cases hQ:Qa4 q with
   |false=>
    rw [if_neg (by rw [hQ];simp)]at hco
    unfold Qan at hco
    repeat (first|(simp -implicitDefEqProofs only [go_sem,Nat.reduceAdd,Nat.reduceMul,Nat.reduceEqDiff,Nat.reduceLT,Nat.reduceLeDiff,reduceCtorEq,Zbz])|((with_reducible refine Qab (hco) ?_ ?_ ?_);(with_reducible rfl);rfl)|((with_reducible refine Qab (hk) ?_ ?_ ?_);(with_reducible rfl);rfl))
   |true=>
    rw [if_pos ⟨hV,hQ⟩]at hco
    obtain⟨u1,u2,u3,u4⟩:=Qds hQ
    have hl2:=(Qba hQ).2.1
    have hL2:=Qx3 q mid (by omega) (by omega)
    by_cases hov:max (pBeg p) (pBeg q)<min (pEnd p) (pEnd q)
    ·rw [if_pos hov]at hco
     obtain⟨t0,t1,t2⟩:=Qqf p q _ _ hov
     have hst:=Qj4 p q (max (pBeg p) (pBeg q)) (min (pEnd p) (pEnd q))
     have hno:=Zpy p q _ _ hov
     have hF:max (pBeg p) (pBeg q)=max (pBeg p) (pBeg q):=rfl
     generalize brk p q (max (pBeg p) (pBeg q)) (min (pEnd p) (pEnd q))=T at*
     unfold Zkw at hco
     by_cases hall:(cmS p T (T.length-1)).all spF=true∧(cmS q T (T.length-1)).all spF=true
     ·rw [if_pos hall]at hco
      by_cases h256:(cmS p T (T.length-1)).length≤256
      ·rw [if_pos h256]at hco
       cases hLL:lasts p mid with
       |false=>
        rw [hLL]at hL
        unfold Qan at hco
        repeat (first|(simp -implicitDefEqProofs only [go_sem,Nat.reduceAdd,Nat.reduceMul,Nat.reduceEqDiff,Nat.reduceLT,Nat.reduceLeDiff,reduceCtorEq,Qf5,Bool.not_false])|((with_reducible refine Qab (hco) ?_ ?_ ?_);(with_reducible rfl);rfl)|((with_reducible refine Qab (hL) ?_ ?_ ?_);(with_reducible rfl);rfl)|((with_reducible refine Qab (hk) ?_ ?_ ?_);(with_reducible rfl);rfl))
       |true=>
        rw [hLL]at hL
        cases hLQ:lasts q mid with
        |false=>
         rw [hLQ]at hL2
         unfold Qan at hco hL2
         repeat (first|(simp -implicitDefEqProofs only [go_sem,Nat.reduceAdd,Nat.reduceMul,Nat.reduceEqDiff,Nat.reduceLT,Nat.reduceLeDiff,reduceCtorEq,Qf5,Bool.not_false,Bool.not_true])|((with_reducible refine Qab (hco) ?_ ?_ ?_);(with_reducible rfl);rfl)|((with_reducible refine Qab (hL) ?_ ?_ ?_);(with_reducible rfl);rfl)|((with_reducible refine Qab (hL2) ?_ ?_ ?_);(with_reducible rfl);rfl)|((with_reducible refine Qab (hk) ?_ ?_ ?_);(with_reducible rfl);rfl))
        |true=>
         rw [hLQ]at hL2
         unfold lasts at hLL hLQ
         simp only [Bool.and_eq_true,decide_eq_true_eq]at hLL hLQ
         have hp0:pBeg p≤T.getD 0 0:=by omega
         have hp1:T.getD (T.length-1) 0≤pEnd p:=by omega
         have hq0:pBeg q≤T.getD 0 0:=by omega
         have hq1:T.getD (T.length-1) 0≤pEnd q:=by omega
         have s1:=Zpx hV hst hp0 hp1 (T.length-1) (by omega)
         have s2:=Zpx hQ hst hq0 hq1 (T.length-1) (by omega)
         have n1:=Zh7 hV hst hp0 hp1 (fun s hs i hi=>hno s (List.mem_append_left _ hs) i hi) (T.length-1) (by omega)
         have n2:=Zh7 hQ hst hq0 hq1 (fun s hs i hi=>hno s (List.mem_append_right _ hs) i hi) (T.length-1) (by omega)
         obtain⟨va,va1,va2⟩:=Qfx hV s1 hall.1 (by omega) (by omega)
         obtain⟨vb,vb1,vb2⟩:=Qfx hQ s2 hall.2 (by omega) (by omega)
         obtain⟨y1,y2⟩:=Qlx hV s1 hall.1 (by omega) (by omega) (t:=mid) (by omega) (by omega)
         obtain⟨z1,z2⟩:=Qlx hQ s2 hall.2 (by omega) (by omega) (t:=mid) (by omega) (by omega)
         have x1:=Qi4 p hV mid (by omega) (by omega)
         have x2:=Qi5 (p:=p) va mid mid (by omega) (by omega) y1 y2
         have x3:=Qi4 q hQ mid (by omega) (by omega)
         have x4:=Qi5 (p:=q) vb mid mid (by omega) (by omega) z1 z2
         obtain⟨B1,S1,B2,S2,B3,S3,B4,S4,hpl⟩:=Qf3 (plT p mid 0) (plT p mid 1) (plT p mid 2) (poT p mid)
         rw [hpl]at x1 x2
         obtain⟨C1,U1,C2,U2,C3,U3,C4,U4,hpl2⟩:=Qf3 (plT q mid 0) (plT q mid 1) (plT q mid 2) (poT q mid)
         rw [hpl2]at x3 x4
         clear hpl hpl2 y1 y2 z1 z2
         have l1:(((cmS p T (T.length-1)).map spS).map sgPV).length=T.length-1:=by rw [List.length_map,List.length_map,n1]
         have l2:(((cmS q T (T.length-1)).map spS).map sgPV).length=T.length-1:=by rw [List.length_map,List.length_map,n2]
         have l3:(((T.length-1:Nat):Int)==((T.length-1:Nat):Int))=true:=beq_self_eq_true _
         unfold Qan at hco hL2 x1 x2 x3 x4
         generalize ((cmS p T (T.length-1)).map spS).map sgPV=PU at*
         generalize ((cmS q T (T.length-1)).map spS).map sgPV=PW at*
         repeat (first|(simp -implicitDefEqProofs only [go_sem,Nat.reduceAdd,Nat.reduceMul,Nat.reduceEqDiff,Nat.reduceLT,Nat.reduceLeDiff,reduceCtorEq,Qf5,Qi7,l1,l2,l3,Qnr,Zbv,bne_self_eq_false,beq_self_eq_true,Bool.not_true,Bool.not_false])|((with_reducible refine Qab (hco) ?_ ?_ ?_);(with_reducible rfl);rfl)|((with_reducible refine Qab (hL) ?_ ?_ ?_);(with_reducible rfl);rfl)|((with_reducible refine Qab (hL2) ?_ ?_ ?_);(with_reducible rfl);rfl)|((with_reducible refine Qab (x1) ?_ ?_ ?_);(with_reducible rfl);rfl)|((with_reducible refine Qab (x2) ?_ ?_ ?_);(with_reducible rfl);rfl)|((with_reducible refine Qab (x3) ?_ ?_ ?_);(with_reducible rfl);rfl)|((with_reducible refine Qab (x4) ?_ ?_ ?_);(with_reducible rfl);rfl)|((with_reducible refine Qab (hk) ?_ ?_ ?_);(with_reducible rfl);rfl))
      ·rw [if_neg h256]at hco
       unfold Qan at hco
       repeat (first|(simp -implicitDefEqProofs only [go_sem,Nat.reduceAdd,Nat.reduceMul,Nat.reduceEqDiff,Nat.reduceLT,Nat.reduceLeDiff,reduceCtorEq,Q4k])|((with_reducible refine Qab (hco) ?_ ?_ ?_);(with_reducible rfl);rfl)|((with_reducible refine Qab (hk) ?_ ?_ ?_);(with_reducible rfl);rfl))
     ·rw [if_neg hall]at hco
      unfold Qan at hco
      repeat (first|(simp -implicitDefEqProofs only [go_sem,Nat.reduceAdd,Nat.reduceMul,Nat.reduceEqDiff,Nat.reduceLT,Nat.reduceLeDiff,reduceCtorEq,Q4k])|((with_reducible refine Qab (hco) ?_ ?_ ?_);(with_reducible rfl);rfl)|((with_reducible refine Qab (hk) ?_ ?_ ?_);(with_reducible rfl);rfl))
    ·rw [if_neg hov]at hco
     unfold Qan at hco
     repeat (first|(simp -implicitDefEqProofs only [go_sem,Nat.reduceAdd,Nat.reduceMul,Nat.reduceEqDiff,Nat.reduceLT,Nat.reduceLeDiff,reduceCtorEq,Zqt])|((with_reducible refine Qab (hco) ?_ ?_ ?_);(with_reducible rfl);rfl)|((with_reducible refine Qab (hk) ?_ ?_ ?_);(with_reducible rfl);rfl))
end Go.Proofs.YtlpiamlgibomhaaGreat

namespace Go.Proofs.YtlpiamlgibomhaaGreat
open Go.Vl Go.RowKit Go.Dg
set_option maxRecDepth 100000 in
theorem Qop (p q:List Sg) (hra:(∀s∈p,Q07 s)∧p.length≤maxLen) (hrb:(∀s∈q,Q07 s)∧q.length≤maxLen) (f mid t:Int) (hf:i64 f) (hm:i64 mid) (ht:i64 t):
  Qaf Tryz.prog 10 [.slc (p.map sgPV),.slc (q.map sgPV),.int .i64 f,.int .i64 mid,.int .i64 t] (.bool true):=by
 have hk:=Qpr
 have hf1:=Ziq p 6 (by decide) hra.2
 have hf2:=Ziq q 6 (by decide) hrb.2
 unfold Qan at hf1 hf2
 cases hF1:fewB p 6 with
 |false=>
  rw [hF1]at hf1
  refine Qac (tb:=[]) 350 [.tmp 10] [0,1,2,3,4,10,11,12,13,14,15,16,17,18,19,20,21,22,23,24,25,26,27,28,29,30,31,32,33,34,35,36,37,38,39,40,41,42,43,44,45,46,59,87,90,159,178,198,251,269,290] mixed Tryz.func10 rfl (by kernel_rfl) (by kernel_rfl) (by kernel_rfl) (by kernel_rfl) ?_
  repeat (first|(simp -implicitDefEqProofs only [go_sem,Nat.reduceAdd,Nat.reduceMul,Nat.reduceEqDiff,Nat.reduceLT,Nat.reduceLeDiff,reduceCtorEq,Int.reduceNeg,Bool.not_false])|((with_reducible refine Qab (hf1) ?_ ?_ ?_);(with_reducible rfl);rfl)|((with_reducible refine Qab (hk) ?_ ?_ ?_);(with_reducible rfl);rfl))
 |true=>
 rw [hF1]at hf1
 cases hF2:fewB q 6 with
 |false=>
  rw [hF2]at hf2
  refine Qac (tb:=[]) 350 [.tmp 10] [0,1,2,3,4,10,11,12,13,14,15,16,17,18,19,20,21,22,23,24,25,26,27,28,29,30,31,32,33,34,35,36,37,38,39,40,41,42,43,44,45,46,59,87,90,159,178,198,251,269,290] mixed Tryz.func10 rfl (by kernel_rfl) (by kernel_rfl) (by kernel_rfl) (by kernel_rfl) ?_
  repeat (first|(simp -implicitDefEqProofs only [go_sem,Nat.reduceAdd,Nat.reduceMul,Nat.reduceEqDiff,Nat.reduceLT,Nat.reduceLeDiff,reduceCtorEq,Int.reduceNeg,Bool.not_false,Bool.not_true])|((with_reducible refine Qab (hf1) ?_ ?_ ?_);(with_reducible rfl);rfl)|((with_reducible refine Qab (hf2) ?_ ?_ ?_);(with_reducible rfl);rfl)|((with_reducible refine Qab (hk) ?_ ?_ ?_);(with_reducible rfl);rfl))
 |true=>
 rw [hF2]at hf2
 obtain⟨la6,la8⟩:=Qpe hF1
 obtain⟨lb6,lb8⟩:=Qpe hF2
 have ha: ∀s∈p,okSg s:=fun s hs=>Zi9 (hra.1 s hs) (fun c hc=>by have:=la8 s hs c hc;omega)
 have hb: ∀s∈q,okSg s:=fun s hs=>Zi9 (hrb.1 s hs) (fun c hc=>by have:=lb8 s hs c hc;omega)
 cases hV:Qa4 p with
 |false=>
  have v1:=Qk3 p ha (by omega)
  rw [hV]at v1
  unfold Qan at v1
  refine Qac (tb:=[]) 350 [.tmp 10] [0,1,2,3,4,10,11,12,13,14,15,16,17,18,19,20,21,22,23,24,25,26,27,28,29,30,31,32,33,34,35,36,37,38,39,40,41,42,43,44,45,46,59,87,90,159,178,198,251,269,290] mixed Tryz.func10 rfl (by kernel_rfl) (by kernel_rfl) (by kernel_rfl) (by kernel_rfl) ?_
  repeat (first|(simp -implicitDefEqProofs only [go_sem,Nat.reduceAdd,Nat.reduceMul,Nat.reduceEqDiff,Nat.reduceLT,Nat.reduceLeDiff,reduceCtorEq,Int.reduceNeg,Bool.not_false,Bool.not_true])|((with_reducible refine Qab (hf1) ?_ ?_ ?_);(with_reducible rfl);rfl)|((with_reducible refine Qab (hf2) ?_ ?_ ?_);(with_reducible rfl);rfl)|((with_reducible refine Qab (v1) ?_ ?_ ?_);(with_reducible rfl);rfl)|((with_reducible refine Qab (hk) ?_ ?_ ?_);(with_reducible rfl);rfl))
 |true=>exact Qnl p q la6 lb6 hb hV f mid t hf hm ht hf1 hf2
end Go.Proofs.YtlpiamlgibomhaaGreat
