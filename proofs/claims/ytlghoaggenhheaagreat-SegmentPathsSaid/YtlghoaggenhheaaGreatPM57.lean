/-
  PM52, UFc, PM53, PM54, PM55, PM56, PM31, Dv, Dy, Dcv, Dsp, Dcw, Dcx, Dcy, Dsr, Dcm, Dcz, Dda, PM57 (merged for the claim).
-/
import Derived.Test.YtlghoaggenhheaaGreatPM30
import Derived.Test.YtlghoaggenhheaaGreatDsg
import Derived.Test.YtlghoaggenhheaaGreatPM23
import Derived.Test.YtlghoaggenhheaaGreatDsi
import Derived.Test.YtlghoaggenhheaaGreatPM4
set_option linter.unusedSimpArgs false
set_option linter.unusedVariables false
namespace Go.Proofs.YtlghoaggenhheaaGreat
open Go.Vl Go.RowKit Go.Dg
def mvL (d:Int) (l:List Int):List Int:=(l.getD 0 0+d)::l.drop 1
def mvS (a b c:Int) (s:Sg):Sg:=⟨s.f,s.t,s.o,mvL (a*s.o) s.x,mvL (b*s.o) s.y,mvL (c*s.o) s.z⟩
structure mvOK (d o:Int) (l:List Int):Prop where
 n:l≠ []
 le:l.length≤1000
 w1:IntKind.i64.wrap (d*o)=d*o
 w2:IntKind.i64.wrap (l.getD 0 0+d*o)=l.getD 0 0+d*o
theorem Zdv (d x:Int) (l:List Int):mvL d (x::l)=(x+d)::l:=rfl
set_option maxHeartbeats 4000000 in
set_option maxRecDepth 100000 in
theorem Znh (p:List Sg) (a b c:Int) (hl:p.length≤100000) (hw: ∀s∈p,mvOK a s.o s.x∧mvOK b s.o s.y∧mvOK c s.o s.z):
  Qae Tryz.prog 22 [Qam p,.agg [.int .i64 a,.int .i64 b,.int .i64 c]] (Qam (p.map (mvS a b c))):=by
 unfold Qam;refine Qab (tb:=[]) 71 [.tmp 4] [0,1,3,4,5,6,7,11] mixed Tryz.func22 rfl (by kernel_rfl) ?_;repeat simp -implicitDefEqProofs only [go_sem,seval]
 refine Qaq mixed (fun i:{i:Nat // i≤p.length}=>St.of [(0,Qam p),(3,.bp 0 3 0 0),(5,.bs 7 6 0 i.1),(6,.int .i64 (i.1:Int))]
  [(7,{els:=((p.map (mvS a b c)).take i.1).map sgPV,esz:=6,ety:=28,fro:=0,live:=true,arr:=true}),(0,{els:=[.agg [.int .i64 a,.int .i64 b,.int .i64 c]],esz:=3,ety:=38,fro:=0,live:=true,arr:=false})]) (fun i=>p.length-i.1) ⟨0,Nat.zero_le _⟩ ?_ ?_
 ·refine Qci 5 7 6 28 rfl rfl rfl (by decide) [(7,7),(0,0)] rfl ?_ ?_
  ·simp [Qac,lkp,ren1,ren0,Qao,Qam]
  ·exact⟨⟨rfl,rfl,rfl,rfl,rfl,.inl ⟨rfl,rfl⟩⟩,⟨rfl,rfl,rfl,rfl,rfl,.inr ⟨rfl,_,_,rfl,rfl,rfl,rfl⟩⟩,trivial⟩
 ·rintro⟨i,hi⟩;by_cases hA:i<p.length
  ·have hA':=ltT hA;have n0:=nnT i;have hg:=Qbx p i hA;have hwk:=Qah (a:=i) (by omega);obtain⟨m1,m2,m3⟩:=hw _ (List.getElem_mem hA);have hlt:(((p.map (mvS a b c)).take i).map sgPV).length=i:=by simp;omega
   have hok:=Qdr ((p.map (mvS a b c)).take i);have k1:((i+1)*96≤140737488355328)=True:=eq_true (by omega);have k2:(i+1≤maxLen)=True:=eq_true (by unfold maxLen;omega);have hts:((p.map (mvS a b c)).take (i+1)).map sgPV=((p.map (mvS a b c)).take i).map sgPV++[sgPV (mvS a b c p[i])]:=by rw [Qbe _ i (by simp;omega),List.map_append];simp
   generalize ((p.map (mvS a b c)).take i).map sgPV=T at*;generalize p[i]=s at*;obtain⟨sf,st,so,X,Y,Z⟩:=s;obtain⟨n1,l1,w11,w12⟩:=m1;obtain⟨n2,l2,w21,w22⟩:=m2;obtain⟨n3,l3,w31,w32⟩:=m3;obtain⟨x,xs,rfl⟩: ∃x xs,X=x::xs:=by cases X with|nil=>exact absurd rfl n1|cons x xs=>exact⟨x,xs,rfl⟩
   obtain⟨y,ys,rfl⟩: ∃x xs,Y=x::xs:=by cases Y with|nil=>exact absurd rfl n2|cons x xs=>exact⟨x,xs,rfl⟩
   obtain⟨z,zs,rfl⟩: ∃x xs,Z=x::xs:=by cases Z with|nil=>exact absurd rfl n3|cons x xs=>exact⟨x,xs,rfl⟩
   simp only [List.getD_cons_zero,List.length_cons,List.map_cons]at w12 w22 w32 l1 l2 l3 w11 w21 w31 hg;clear n1 n2 n3;have g1: ∀l:List Int,((1:Int)≤((l.length+1:Nat):Int))=True:=fun l=>eq_true (by omega);have g2: ∀l:List Int,((l.map (PV.int .i64)).all fun x=>x.cells.length==1)=true:=fun l=>by rw [List.all_map,List.all_eq_true];intro _ _;rfl
   have r1:((1+xs.length)*8≤140737488355328)=True:=eq_true (by omega);have r2:((1+ys.length)*8≤140737488355328)=True:=eq_true (by omega);have r3:((1+zs.length)*8≤140737488355328)=True:=eq_true (by omega);have r4:(1+xs.length≤maxLen)=True:=eq_true (by unfold maxLen;omega);have r5:(1+ys.length≤maxLen)=True:=eq_true (by unfold maxLen;omega);have r6:(1+zs.length≤maxLen)=True:=eq_true (by unfold maxLen;omega);have g4: ∀l:List Int,(1+l.length≤l.length+1)=True:=fun l=>eq_true (by omega);have g5: ∀(v:PV) (l:List Int),(v::l.map (PV.int .i64)).take (1+l.length)=v::l.map (PV.int .i64):=fun v l=>List.take_of_length_le (by simp;omega);have g3: ∀(v:PV) (l:List Int),(v::l.map (PV.int .i64)).take (l.length+1)=v::l.map (PV.int .i64):=fun v l=>List.take_of_length_le (by simp);repeat (first|simp -implicitDefEqProofs only [go_sem,seval,hA',n0,hg,hwk,hlt,hok,k1,k2,w11,w12,w21,w22,w31,w32,g1,g2,g3,g4,g5,r1,r2,r3,r4,r5,r6,Qsn,List.drop_succ_cons,List.drop_zero,Int.toNat_natCast,List.length_map]|(with_reducible refine And.intro (Qad _ _ (by kernel_rfl)) ?_))
   refine⟨⟨i+1,hA⟩,by simp only;omega,Qaj (θ:=[(7,903),(0,0)]) rfl ?_ ?_⟩
   ·simp [Qac,lkp,ren1,ren0,Qao,Qam]
   ·simp only [hts];exact⟨⟨rfl,rfl,rfl,rfl,rfl,.inl ⟨rfl,rfl⟩⟩,⟨rfl,rfl,rfl,rfl,rfl,.inr ⟨rfl,_,_,rfl,rfl,rfl,rfl⟩⟩,trivial⟩
  ·have hA':=ltF hA;obtain rfl:i=p.length:=by omega
   have ht:(p.map (mvS a b c)).take p.length=p.map (mvS a b c):=List.take_of_length_le (by simp);have e1:((p.map (mvS a b c)).map sgPV).take p.length=(p.map (mvS a b c)).map sgPV:=List.take_of_length_le (by simp);have e2:=Qdr (p.map (mvS a b c));simp only [ht];repeat simp -implicitDefEqProofs only [go_sem,seval,hA',e1,List.length_map]
end Go.Proofs.YtlghoaggenhheaaGreat

namespace Go.Vl
open Go.RowKit
def famS (e:TypeId) (G:Nat→List PV) (s k:Nat):List (Nat×Box):=(List.range' s k).map fun q=>(FB+q,famB e (G q))
def newS (e:TypeId) (G:Nat→List PV) (s k:Nat):List Eff:=(List.range' s k).map fun q=> .new (FB+q) (famB e (G q))
def newF (e:TypeId) (G:Nat→List PV) (m:Nat):List Eff:=(List.range m).map fun q=> .new (FB+q) (famB e (G q))
def accF (m:Nat):Acc:=(List.range m).map fun q=>(FB+q,true)
theorem Zus (e:TypeId) (G:Nat→List PV) (m:Nat):famS e G 0 m=famL e G m:=by simp [famS,famL,List.range_eq_range']
theorem Zut (e:TypeId) (G:Nat→List PV) (m:Nat):newS e G 0 m=newF e G m:=by simp [newS,newF,List.range_eq_range']
theorem Q0t (e:TypeId) (G:Nat→List PV): ∀(k s b:Nat),b<FB+s→lkp (famS e G s k) b=none
 |0,_,_,_=>rfl
 |k+1,s,b,h=>by
  simp only [famS,List.range'_succ,List.map_cons,lkp];rw [if_neg (by omega)];exact Q0t e G k (s+1) b (by omega)
theorem Qi8 {κ:List (Nat×Nat)} (e:TypeId) (G:Nat→List PV): ∀(k s:Nat),(∀q,s≤q→q<s+k→lkp κ (FB+q)=some (FB+q))→Qdh κ (famS e G s k)=some (newS e G s k)
 |0,_,_=>rfl
 |k+1,s,h=>by
  have ih:=Qi8 e G k (s+1) fun q h1 h2=>h q (by omega) (by omega);have h0:=h s (Nat.le_refl _) (by omega);have hn:=Q0t e G k (s+1) (FB+s) (by omega);simp only [famS,newS,List.range'_succ,List.map_cons,Qdh]at ih hn ⊢;rw [h0,ih,hn];simp [famB,Box.ext]
theorem Qks {bx:Bx} (hb: ∀q,bx (FB+q)=none): ∀(k s:Nat),FB+s+k≤LENT→Qf7 ((List.range' s k).map fun q=>(FB+q,FB+q)) bx=some ((),(List.range' s k).map fun q=>(FB+q,true))
 |0,_,_=>rfl
 |k+1,s,h=>by
  have ih:=Qks hb k (s+1) (by omega);have hl:Nat.blt (FB+s) LENT=true:=by rw [Nat.blt_eq];omega
  simp only [List.range'_succ,List.map_cons,Qf7,M.bind,M.hard,M.ok,hb,Option.isNone_none,hl,Bool.and_self,if_true,ih,List.nil_append,List.cons_append]
theorem Qo2 {bx:Bx} (m:Nat) (hm:FB+m≤LENT) (hb: ∀q,bx (FB+q)=none):Qf7 (idL m) bx=some ((),accF m):=by
 have:=Qks hb m 0 (by omega);simp only [idL,accF,List.range_eq_range'];exact this
theorem Q3q (id m:Nat) (hid:id<FB):Qd1 ((7,id)::idL m)=true:=by
 have h:=Qvi (θ:=[(7,id)]) m (by simp [lowK,FB];omega) (by simp [Qd1,lkp,rlk]);exact h
theorem Q3r (a b:List Eff) (st:St):Qap (a++b) st=Qap b (Qap a st):=by simp [Qap]
theorem Qo3 (e:TypeId) (G:Nat→List PV) (vs:List (Nat×PV)) (bs:List (Nat×Box)) (o:List (List PV)) (y:Yl): ∀m,Qap (newF e G m) (St.ofG vs bs o y)=St.ofG vs (famL e G m++bs) o y
 |0=>rfl
 |m+1=>by
  have h1:newF e G (m+1)=newF e G m++[.new (FB+m) (famB e (G m))]:=by simp [newF,List.range_succ]
  rw [h1,Q3r,Qo3 e G vs bs o y m];refine St.ext'' rfl ?_ rfl rfl;funext b;show lkp ((FB+m,famB e (G m))::(famL e G m++bs)) b=lkp (famL e G (m+1)++bs) b;simp only [lkp];rw [Qbu,Qbu,Qnh,Qnh];by_cases hb:b=FB+m
  ·subst hb;rw [if_pos rfl,if_pos (by omega),Nat.add_sub_cancel_left]
  ·rw [if_neg hb];by_cases h2:FB≤b∧b<FB+m
   ·rw [if_pos h2,if_pos (by omega)]
   ·rw [if_neg h2,if_neg (by omega)]
theorem Zjs {id m k n:Nat} {B:Box} {e:TypeId} {G:Nat→List PV} (hB:B.idr ((7,id)::idL m)=true):
  land [] ((7,id)::idL m) ((7,B)::famL e G m) (.bs 7 k 0 n)=some (.bs id k 0 n,.new id B::newF e G m):=by
 have hall:(([]++(7,id)::idL m:List (Nat×Nat)).all fun p=>(lkp ((7,B)::famL e G m) p.1).isSome)=true:=by
  rw [List.nil_append,List.all_cons,Bool.and_eq_true];refine⟨by simp [lkp],?_⟩;rw [List.all_eq_true];intro p hp;obtain⟨q,hq,rfl⟩:=List.mem_map.1 hp;have hq:=List.mem_range.1 hq;simp only [lkp];rw [if_neg (by simp only [FB];omega),Qct e G hq];rfl
 have h7:lkp (famL e G m) 7=none:=Qkt e G (by decide);have hb:Qdh ((7,id)::idL m) (famL e G m)=some (newF e G m):=by
  rw [←Zus,←Zut];refine Qi8 e G m 0 fun q _ h2=> ?_;simp only [lkp];rw [if_neg (by simp only [FB];omega),Qh2,if_pos (by omega)]
 unfold land;rw [if_pos hall];simp only [List.nil_append,ren2,ren1,ren0,lkp,if_true,Qdh,hB,Bool.or_true,h7,Option.isNone_none,and_self,hb]
section
variable {P:Program} {tb:Tab} {nt:Nat} {ks:List Nat} {ops:Array Oper} {base i:Nat} {rest:List Oper} {accs:List Acc} {draw:Bool} {k:List It} {Q:Exit→St→Prop}
theorem Qvg {t:Tmp} {f:FuncId} {args:List PV} {l:Acc} {id m kk n:Nat} {B:Box} {e:TypeId} {G:Nat→List PV} {vs:List (Nat×PV)} {bs:List (Nat×Box)} {o:List (List PV)} {y:Yl}
  (hs:Qdb P f args [] (.bs 7 kk 0 n) ((7,B)::famL e G m)) (hB:B.idr ((7,id)::idL m)=true)
  (h:gops P tb nt ks ops base (i+1) rest ((l++Qcj []++Qcj (.new id B::newF e G m))::accs) draw k Q (St.ofG ((t,.bs id kk 0 n)::vs) (famL e G m++(id,B)::bs) o y)):
  Q1e P tb nt ks f args [] [] [] ((7,id)::idL m) l ops base i (some t) rest accs draw k Q (St.ofG vs bs o y):=by
 refine⟨_,_,_,_,hs,Zjs hB,?_⟩;have e1:Qap ((if Qkj (.bs 7 kk 0 n) ((7,B)::famL e G m)then []else [])++(.new id B::newF e G m)) (St.ofG vs bs o y)=St.ofG vs (famL e G m++(id,B)::bs) o y:=by
  rw [ite_self,List.nil_append];show Qap (newF e G m) (St.ofG vs ((id,B)::bs) o y)=_;exact Qo3 e G vs _ o y m
 rw [e1];exact h
end
def swp (u x:Nat):Nat:=if x=77777 then u else if x=u then 77777 else x
theorem Za6 {u x y:Nat} (h:swp u x=swp u y):x=y:=by
 unfold swp at h;split at h<;>split at h<;>(try split at h)<;>(try split at h)<;>omega
def renA (u:Nat) (l:Acc):Acc:=l.map fun p=>(swp u p.1,p.2)
theorem Q3s {ops:Array Oper} {o1 o2:Oper} {l1 l2:Acc} {u:Nat} (hu:u≠YID) (h:Qrm ops o1 o2 l1 l2=true):Qrm ops o1 o2 (renA u l1) (renA u l2)=true:=by
 have hY: ∀x,swp u x=YID→x=YID:=fun x hx=>by
  have:swp u YID=YID:=by
   unfold swp;rw [if_neg (by decide),if_neg (Ne.symm hu)]
  exact Za6 (hx.trans this.symm)
 simp only [Qrm,Bool.and_eq_true]at h ⊢;obtain⟨⟨⟨⟨h1,h2⟩,h3⟩,h4⟩,h5⟩:=h;refine⟨⟨⟨⟨h1,h2⟩,?_⟩,?_⟩,?_⟩
 ·rw [List.all_eq_true]at h3 ⊢;intro p hp;obtain⟨p0,hp0,rfl⟩:=List.mem_map.1 hp;have h3:=h3 p0 hp0;rw [List.all_eq_true]at h3 ⊢;intro q hq;obtain⟨q0,hq0,rfl⟩:=List.mem_map.1 hq;have h3:=h3 q0 hq0;rw [Bool.or_eq_true]at h3 ⊢;rcases h3 with h3|h3
  ·exact .inl (by rw [bne_iff_ne]at*;exact fun e=>h3 (Za6 e))
  ·exact .inr h3
 ·rw [List.all_eq_true]at h4 ⊢;intro p hp;obtain⟨p0,hp0,rfl⟩:=List.mem_map.1 hp;have:=h4 p0 hp0;rw [bne_iff_ne]at*;exact fun e=>this (hY _ e)
 ·rw [List.all_eq_true]at h5 ⊢;intro p hp;obtain⟨p0,hp0,rfl⟩:=List.mem_map.1 hp;have:=h5 p0 hp0;rw [bne_iff_ne]at*;exact fun e=>this (hY _ e)
theorem Qvh (u:Nat) (l:List Acc) (k:Nat):(l.map (renA u)).getD k []=renA u (l.getD k []):=by
 simp only [List.getD_eq_getElem?_getD,List.getElem?_map];cases l[k]? <;>rfl
theorem Q3t {ops:Array Oper} {accs:List Acc} {u:Nat} (hu:u≠YID) (h:Qia ops accs=true):Qia ops (accs.map (renA u))=true:=by
 simp only [Qia,Bool.and_eq_true]at h ⊢;refine⟨h.1,?_⟩;have h2:=h.2;rw [List.all_eq_true]at h2 ⊢;intro x hx;have h3:=h2 x hx;obtain⟨oi,i⟩:=x;simp only at h3 ⊢;rw [List.all_eq_true]at h3 ⊢;intro z hz;have h4:=h3 z hz;obtain⟨ok,k⟩:=z;simp only at h4 ⊢;rw [Bool.or_eq_true]at h4 ⊢;rcases h4 with h4|h4
 ·exact .inl h4
 ·right;rw [Qvh,Qvh];exact Q3s hu h4
end Go.Vl

namespace Go.Proofs.YtlghoaggenhheaaGreat
open Go.Vl Go.RowKit Go.Dg
def froD (p:List Sg) (i:Nat):List Eff:=[.fro (FB+3*i) (0+(p.getD i sg0).x.length),.fro (FB+(3*i+1)) (0+(p.getD i sg0).y.length),.fro (FB+(3*i+2)) (0+(p.getD i sg0).z.length)]
def accD (i:Nat):Acc:=[(FB+3*i,false),(FB+(3*i+1),false),(FB+(3*i+2),false)]
theorem Qxl {bx:Bx} {e:TypeId} {l:List Int} {b n:Nat} (hb:bx b=some (famB e (l.map (PV.int .i64)))) (hn:n=l.length):escS (.bs b 1 0 n) bx=some ((Qan l,[.fro b (0+n)]),[(b,false)]):=by
 subst hn;have ht:(l.map (PV.int .i64)).take l.length=l.map (PV.int .i64):=List.take_of_length_le (by simp);simp [escS,M.bind,M.soft,M.ok,M.pure,hb,famB,Box.soft,ht,Qan]
theorem Q6o {bx:Bx} {e:TypeId} {s d:Sg} {i:Nat} (h1:bx (FB+3*i)=some (famB e (d.x.map (PV.int .i64)))) (h2:bx (FB+(3*i+1))=some (famB e (d.y.map (PV.int .i64))))
  (h3:bx (FB+(3*i+2))=some (famB e (d.z.map (PV.int .i64)))) (l1:s.x.length=d.x.length) (l2:s.y.length=d.y.length) (l3:s.z.length=d.z.length) (ef:s.f=d.f) (et:s.t=d.t) (eo:s.o=d.o):
  escE (celD s i) bx=some ((sgPV d,[.fro (FB+3*i) (0+s.x.length),.fro (FB+(3*i+1)) (0+s.y.length),.fro (FB+(3*i+2)) (0+s.z.length)]),accD i):=by
 have g1:=Qxl (bx:=bx) h1 l1;have g2:=Qxl (bx:=bx) h2 l2;have g3:=Qxl (bx:=bx) h3 l3;have k: ∀(x:Int),escS (.int .i64 x) bx=some ((.int .i64 x,[]),[]):=fun _=>rfl;simp only [escE,celD,Q3f,M.bind,M.pure,g1,g2,g3,k,List.nil_append,List.append_nil,List.cons_append,ef,et,eo,accD];rfl
theorem Qq1 {bx:Bx} {e:TypeId} {p d:List Sg} (hd: ∀i,i<p.length→(d.getD i sg0).f=(p.getD i sg0).f∧(d.getD i sg0).t=(p.getD i sg0).t∧(d.getD i sg0).o=(p.getD i sg0).o∧
   (d.getD i sg0).x.length=(p.getD i sg0).x.length∧(d.getD i sg0).y.length=(p.getD i sg0).y.length∧(d.getD i sg0).z.length=(p.getD i sg0).z.length)
  (hb: ∀q,q<3*p.length→bx (FB+q)=some (famB e (cp d q))): ∀(k s:Nat),s+k=p.length→Qs9 ((List.range' s k).map fun i=>celD (p.getD i sg0) i) bx=
   some (((List.range' s k).map fun i=>sgPV (d.getD i sg0),(List.range' s k).flatMap (froD p)),(List.range' s k).flatMap accD)
 |0,_,_=>rfl
 |k+1,s,hs=>by
  have ih:=Qq1 hd hb k (s+1) (by omega);obtain⟨a1,a2,a3,a4,a5,a6⟩:=hd s (by omega);have b1:=hb (3*s) (by omega);have b2:=hb (3*s+1) (by omega);have b3:=hb (3*s+2) (by omega);unfold cp at b1 b2 b3;rw [cl_0]at b1;rw [cl_1]at b2;rw [cl_2]at b3;have h1:=Q6o (bx:=bx) (s:=p.getD s sg0) (d:=d.getD s sg0) (i:=s) b1 b2 b3 a4.symm a5.symm a6.symm a1.symm a2.symm a3.symm;simp only [List.range'_succ,List.map_cons,Qs9,M.bind,h1,ih,List.flatMap_cons,M.pure,List.append_nil];rfl
theorem Qst {β:Type} (d:List Sg) (f:Sg→β):(List.range d.length).map (fun i=>f (d.getD i sg0))=d.map f:=by
 refine List.ext_getElem (by simp) fun i h1 h2=> ?_;have hi:i<d.length:=by simpa using h1
 simp [List.getD_eq_getElem?_getD,List.getElem?_eq_getElem hi]
theorem escD {bx:Bx} {e:TypeId} {p d:List Sg} (hl:d.length=p.length) (hd: ∀i,i<p.length→(d.getD i sg0).f=(p.getD i sg0).f∧(d.getD i sg0).t=(p.getD i sg0).t∧(d.getD i sg0).o=(p.getD i sg0).o∧
   (d.getD i sg0).x.length=(p.getD i sg0).x.length∧(d.getD i sg0).y.length=(p.getD i sg0).y.length∧(d.getD i sg0).z.length=(p.getD i sg0).z.length)
  (hb: ∀q,bx (FB+q)=lkp (famL e (cp d) (3*p.length)) (FB+q)):Qs9 (outD p p.length) bx=some ((d.map sgPV,(List.range p.length).flatMap (froD p)),(List.range p.length).flatMap accD):=by
 have h:=Qq1 (bx:=bx) (e:=e) hd (fun q hq=>by rw [hb,Qct _ _ hq]) p.length 0 (by omega);rw [←Qst d sgPV,hl];unfold outD;simpa only [List.range_eq_range']using h
set_option maxRecDepth 100000 in
theorem Zs7 (m:Int) (x y z:Int) (hm:0≤m) (hm2:m≤1000000000):Qae Tryz.prog 70 [.int .i64 m,.slc [.int .i64 x,.int .i64 y,.int .i64 z]] (.bool (decide ((-m≤x∧x≤m)∧(-m≤y∧y≤m)∧(-m≤z∧z≤m)))):=by
 have wm:IntKind.i64.wrap (0-m)= -m:=by rw [Qai (by omega) (by omega)];omega
 by_cases c0:x< -m
 ·have c0':=eq_true c0;have e:decide ((-m≤x∧x≤m)∧(-m≤y∧y≤m)∧(-m≤z∧z≤m))=false:=decide_eq_false (by omega);refine Qab (tb:=[]) 23 [.tmp 4] [0,1,4,6,7,8,9,10,21] mixed Tryz.func70 rfl (by kernel_rfl) ?_;repeat simp -implicitDefEqProofs only [go_sem,seval]
  refine Qie mixed [0,1,2,3] ?_;repeat simp -implicitDefEqProofs only [go_sem,seval,wm,e,Bool.not_true,c0']
 have c0':=eq_false c0;by_cases c1:m<x
 ·have c1':=eq_true c1;have e:decide ((-m≤x∧x≤m)∧(-m≤y∧y≤m)∧(-m≤z∧z≤m))=false:=decide_eq_false (by omega);refine Qab (tb:=[]) 23 [.tmp 4] [0,1,4,6,7,8,9,10,21] mixed Tryz.func70 rfl (by kernel_rfl) ?_;repeat simp -implicitDefEqProofs only [go_sem,seval]
  refine Qie mixed [0,1,2,3] ?_;repeat simp -implicitDefEqProofs only [go_sem,seval,wm,e,c0',c1']
 have c1':=eq_false c1;by_cases c2:y< -m
 ·have c2':=eq_true c2;have e:decide ((-m≤x∧x≤m)∧(-m≤y∧y≤m)∧(-m≤z∧z≤m))=false:=decide_eq_false (by omega);refine Qab (tb:=[]) 23 [.tmp 4] [0,1,4,6,7,8,9,10,21] mixed Tryz.func70 rfl (by kernel_rfl) ?_;repeat simp -implicitDefEqProofs only [go_sem,seval]
  refine Qie mixed [0,1,2,3] ?_;repeat simp -implicitDefEqProofs only [go_sem,seval,wm,e,Bool.not_true,c0',c1',c2']
 have c2':=eq_false c2;by_cases c3:m<y
 ·have c3':=eq_true c3;have e:decide ((-m≤x∧x≤m)∧(-m≤y∧y≤m)∧(-m≤z∧z≤m))=false:=decide_eq_false (by omega);refine Qab (tb:=[]) 23 [.tmp 4] [0,1,4,6,7,8,9,10,21] mixed Tryz.func70 rfl (by kernel_rfl) ?_;repeat simp -implicitDefEqProofs only [go_sem,seval]
  refine Qie mixed [0,1,2,3] ?_;repeat simp -implicitDefEqProofs only [go_sem,seval,wm,e,c0',c1',c2',c3']
 have c3':=eq_false c3;by_cases c4:z< -m
 ·have c4':=eq_true c4;have e:decide ((-m≤x∧x≤m)∧(-m≤y∧y≤m)∧(-m≤z∧z≤m))=false:=decide_eq_false (by omega);refine Qab (tb:=[]) 23 [.tmp 4] [0,1,4,6,7,8,9,10,21] mixed Tryz.func70 rfl (by kernel_rfl) ?_;repeat simp -implicitDefEqProofs only [go_sem,seval]
  refine Qie mixed [0,1,2,3] ?_;repeat simp -implicitDefEqProofs only [go_sem,seval,wm,e,Bool.not_true,c0',c1',c2',c3',c4']
 have c4':=eq_false c4;by_cases c5:m<z
 ·have c5':=eq_true c5;have e:decide ((-m≤x∧x≤m)∧(-m≤y∧y≤m)∧(-m≤z∧z≤m))=false:=decide_eq_false (by omega);refine Qab (tb:=[]) 23 [.tmp 4] [0,1,4,6,7,8,9,10,21] mixed Tryz.func70 rfl (by kernel_rfl) ?_;repeat simp -implicitDefEqProofs only [go_sem,seval]
  refine Qie mixed [0,1,2,3] ?_;repeat simp -implicitDefEqProofs only [go_sem,seval,wm,e,c0',c1',c2',c3',c4',c5']
 have c5':=eq_false c5;have e:decide ((-m≤x∧x≤m)∧(-m≤y∧y≤m)∧(-m≤z∧z≤m))=true:=decide_eq_true (by omega);refine Qab (tb:=[]) 23 [.tmp 4] [0,1,4,6,7,8,9,10,21] mixed Tryz.func70 rfl (by kernel_rfl) ?_;repeat simp -implicitDefEqProofs only [go_sem,seval]
 refine Qie mixed [0,1,2,3] ?_;repeat simp -implicitDefEqProofs only [go_sem,seval,wm,e,c0',c1',c2',c3',c4',c5']
def vOK (a b c:Int):Bool:=decide ((-16777216≤a∧a≤16777216)∧(-16777216≤b∧b≤16777216)∧(-16777216≤c∧c≤16777216))
theorem Zs8 (a b c:Int):Qae Tryz.prog 42 [.agg [.int .i64 a,.int .i64 b,.int .i64 c]] (.bool (vOK a b c)):=by
 have h:=Zs7 16777216 a b c (by decide) (by decide);refine Qab (tb:=[]) 11 [.tmp 2] [0,1,2] mixed Tryz.func42 rfl (by kernel_rfl) ?_;repeat (first|simp -implicitDefEqProofs only [go_sem,seval]|(with_reducible refine Qaa h ?_ ?_ ?_);rfl;rfl)
 rfl
def Q6p (p:List Sg) (a b c:Int):PV:=if Qa7 p=true∧vOK a b c=true then(if Qa7 (p.map (mvS a b c))=true then .tup [Qam (p.map (mvS a b c)),.int .i64 0]else .tup [Qam [],.int .i64 3])else .tup [Qam [],.int .i64 2]
theorem Qle {d:Int} {l:List Int} (h:l≠ []):(mvL d l).length=l.length:=by
 cases l with
 |nil=>exact absurd rfl h
 |cons=>rfl
theorem Qcf {L:List Sg} {i:Nat} {s:Sg} (h:i<L.length):(L.set i s).getD i sg0=s:=by
 rw [List.getD_eq_getElem?_getD,List.getElem?_set_self h];rfl
theorem Qd8 {L:List Sg} {i j:Nat} {s:Sg} (h:i≠j):(L.set i s).getD j sg0=L.getD j sg0:=by
 rw [List.getD_eq_getElem?_getD,List.getElem?_set_ne h,←List.getD_eq_getElem?_getD]
theorem Zwf {L:List Sg} {i q:Nat} {s:Sg} (h:q≠3*i) (h1:q≠3*i+1) (h2:q≠3*i+2):cp (L.set i s) q=cp L q:=by
 have:(L.set i s).getD (q/3) sg0=L.getD (q/3) sg0:=Qd8 (by omega);unfold cp cl;rw [this]
theorem Q6q {L:List Sg} {i:Nat} {s:Sg} (h:i<L.length):cp (L.set i s) (3*i)=s.x.map (PV.int .i64):=by unfold cp;rw [cl_0,Qcf h]
theorem Zni {L:List Sg} {i:Nat} {s:Sg} (h:i<L.length):cp (L.set i s) (3*i+1)=s.y.map (PV.int .i64):=by unfold cp;rw [cl_1,Qcf h]
theorem Q6r {L:List Sg} {i:Nat} {s:Sg} (h:i<L.length):cp (L.set i s) (3*i+2)=s.z.map (PV.int .i64):=by unfold cp;rw [cl_2,Qcf h]
theorem Q6s (p:List Sg) (id:Nat):(bxD p p.length).idr ((7,id)::idL (3*p.length))=true:=by
 unfold Box.idr bxD outD;simp only [Bool.not_false,Bool.true_and];rw [List.all_flatMap,List.all_map,List.all_eq_true];intro i hi;have hi:=List.mem_range.1 hi;have k: ∀q,q<3*p.length→lkp ((7,id)::idL (3*p.length)) (FB+q)=some (FB+q):=fun q hq=>by
  simp only [lkp];rw [if_neg (by simp only [FB];omega),Qh2,if_pos (by omega)]
 simp only [Function.comp,celD,PV.cells,List.all_cons,Qx9,Qex,k _ (show 3*i<3*p.length by omega),k _ (show 3*i+1<3*p.length by omega),k _ (show 3*i+2<3*p.length by omega)];simp
theorem Qux (id m:Nat) (hid:id<FB):((idL m).all fun p=>(if p.1=7 then some id else lkp (idL m) p.1)==some p.2&&(if p.2=id then some 7 else rlk (idL m) p.2)==some p.1)=true:=by
 have h:=Q3q id m hid;unfold Qd1 at h;rw [List.all_cons,Bool.and_eq_true]at h;exact h.2
theorem Qlf {ops:Array Oper} {accs:List Acc} (accsC:List Acc) (u:Nat) (hu:u≠YID) (h:Qia ops accsC.reverse=true) (hF:accs=accsC.map (renA u)):Q4c true ops accs:=by
 show Qia ops accs.reverse=true;rw [hF,←List.map_reverse];exact Q3t hu h
def vbx (a b c:Int):Box:={els:=[.agg [.int .i64 a,.int .i64 b,.int .i64 c]],esz:=3,ety:=38,fro:=0,live:=true,arr:=false}
set_option maxHeartbeats 800000 in
set_option maxRecDepth 100000 in
theorem Znj (p:List Sg) (a b c:Int) (hp: ∀s∈p,okSg s) (hl:p.length≤1000) (hw:Qa7 p=true→vOK a b c=true→ ∀s∈p,mvOK a s.o s.x∧mvOK b s.o s.y∧mvOK c s.o s.z) (hq:Qa7 p=true→vOK a b c=true→ ∀s∈p.map (mvS a b c),okSg s):
  Qae Tryz.prog 17 [Qam p,.agg [.int .i64 a,.int .i64 b,.int .i64 c]] (Q6p p a b c):=by
 have v1:=Qdk p hp (by omega);have v2:=Zs8 a b c;unfold Q6p;cases hV:Qa7 p with
 |false=>
  rw [hV]at v1;rw [if_neg (by simp)];unfold Qam at v1 ⊢;refine Qab (tb:=[]) 77 [.tmp 4,.tmp 5] [0,1,3,4,5,6,7,8,16,20,21,22,75] mixed Tryz.func17 rfl (by kernel_rfl) ?_;repeat (first|simp -implicitDefEqProofs only [go_sem,seval,Bool.not_false,Bool.not_true,List.map_nil]|(with_reducible refine Qaa v1 ?_ ?_ ?_);rfl;rfl)
 |true=>
  rw [hV]at v1;cases hB:vOK a b c with
  |false=>
   rw [hB]at v2;rw [if_neg (by simp)];unfold Qam at v1 ⊢;refine Qab (tb:=[]) 77 [.tmp 4,.tmp 5] [0,1,3,4,5,6,7,8,16,20,21,22,75] mixed Tryz.func17 rfl (by kernel_rfl) ?_;repeat (first|simp -implicitDefEqProofs only [go_sem,seval,Bool.not_false,Bool.not_true,List.map_nil]|(with_reducible refine Qaa v1 ?_ ?_ ?_);rfl;rfl|(with_reducible refine Qaa v2 ?_ ?_ ?_);rfl;rfl)
  |true=>
   rw [hB]at v2;rw [if_pos ⟨rfl,rfl⟩];have v3:=Qdk (p.map (mvS a b c)) (hq hV hB) (by simp;omega);have hn1:=(Qbp hV).2.1;have hW:=hw hV hB;have hvd:varD p.length= .bs 7 6 0 p.length:=by
    obtain⟨k,hk⟩: ∃k,p.length=k+1:=⟨p.length-1,by omega⟩;rw [hk];rfl
   have hlw:lwD p p.length=[(7,bxD p p.length)]:=by
    obtain⟨k,hk⟩: ∃k,p.length=k+1:=⟨p.length-1,by omega⟩;rw [hk];rfl
   have hc:=Qss p hl (fun s hs c hc=>by have:=(hp s hs).l c hc;omega);rw [hvd,hlw]at hc;unfold Qam at v1 hc;have hfr: ∀bx:Bx,(∀q,bx (FB+q)=none)→Qf7 (idL (3*p.length)) bx=some ((),accF (3*p.length)):=fun bx h=>Qo2 _ (by simp only [FB,LENT];omega) h;have hf0: ∀q,(FB+q=0)=False:=fun q=>eq_false (by simp only [FB];omega);have hok:=Qux 300 (3*p.length) (by decide);have bl1:Nat.blt 300 1000000=true:=rfl

   unfold Qam;refine Qab (tb:=[(301,[],(7,300)::idL (3*p.length))]) 77 [.tmp 4,.tmp 5] [0,1,3,4,5,6,7,8,16,20,21,22,75] mixed Tryz.func17 rfl (by kernel_rfl) ?_;repeat (first|simp -implicitDefEqProofs only [go_sem,seval,Bool.not_true,hfr,hf0,implies_true,bl1,hok,List.append_nil,List.nil_append]|(with_reducible refine Qaa v1 ?_ ?_ ?_);rfl;rfl|(with_reducible refine Qaa v2 ?_ ?_ ?_);rfl;rfl)
   refine Qvg hc (Q6s p 300) ?_;repeat simp -implicitDefEqProofs only [go_sem,seval]
   refine Qaq mixed (fun i:{i:Nat // i≤p.length}=>St.of [(3,.bp 0 3 0 0),(6,.bs 7 6 0 p.length),(20,.int .i64 (p.length:Int)),(21,.int .i64 (i.1:Int))]
    ([(7,bxD p p.length),(0,vbx a b c)]++famL 3 (cp (mixS (mvS a b c) p i.1)) (3*p.length))) (fun i=>p.length-i.1) ⟨0,Nat.zero_le _⟩ ?_ ?_
   ·rw [Zld];refine Qmc (θ:=[(7,300),(0,0)]) rfl rfl ?_ ?_ ?_
    ·simp [Qac,lkp,ren1,ren0]
    ·have e1:lkp (famL 3 (cp p) (3*p.length)++[(300,bxD p p.length),(0,vbx a b c)]) 300=some (bxD p p.length):=by rw [Qbu,Qkt _ _ (by decide)];rfl
     have e2:lkp (famL 3 (cp p) (3*p.length)++[(300,bxD p p.length),(0,vbx a b c)]) 0=some (vbx a b c):=by rw [Qbu,Qkt _ _ (by decide)];rfl
     unfold vbx at e1 e2;refine⟨?_,?_,trivial⟩
     ·have e3:lkp ([(7,300),(0,0)]++idL (3*p.length)) 7=some 300:=rfl;rw [e3];simp only;rw [e1];exact .inr ⟨rfl,rfl,rfl,rfl,rfl,rfl,Qe5 p p.length (3*p.length) (Nat.le_refl _) fun q hq=>Qmd rfl hq,Qf5 p p.length⟩
     ·have e3:lkp ([(7,300),(0,0)]++idL (3*p.length)) 0=some 0:=rfl;rw [e3];simp only;rw [e2];exact .inr ⟨rfl,rfl,rfl,rfl,rfl,rfl,rfl,rfl⟩
    ·intro q hq;rw [Qbu,Qct _ _ hq]
   rintro⟨i,hi⟩;simp only;by_cases hA:i<p.length
   case neg=>
    have hA':=ltF hA;obtain rfl:i=p.length:=by omega
    rw [Zle];have hes:=fun(bx:Bx) h=>escD (bx:=bx) (e:=3) (p:=p) (d:=p.map (mvS a b c)) (by simp) (fun i hi=>by
     rw [sgD (show i<(p.map (mvS a b c)).length by simpa using hi),List.getElem_map,sgD hi];obtain⟨m1,m2,m3⟩:=hW _ (List.getElem_mem hi);exact⟨rfl,rfl,rfl,Qle m1.n,Qle m2.n,Qle m3.n⟩) h
    have hol:=Qds p p.length;have htk:(outD p p.length).take p.length=outD p p.length:=List.take_of_length_le (by omega);have hF7: ∀q,(FB+q=7)=False:=fun q=>eq_false (by simp only [FB];omega);unfold Qam at v3;cases hV2:Qa7 (p.map (mvS a b c))with
    |false=>
     rw [hV2]at v3;repeat (first|simp -implicitDefEqProofs only [go_sem,seval,hA',bxD,hol,htk,hes,hF7,hf0,implies_true,Nat.le_refl,List.nil_append,List.cons_append,Bool.not_false,Bool.false_eq_true,if_false,List.map_nil]|(with_reducible refine Qaa v3 ?_ ?_ ?_);rfl;rfl)
    |true=>
     rw [hV2]at v3;repeat (first|simp -implicitDefEqProofs only [go_sem,seval,hA',bxD,hol,htk,hes,hF7,hf0,implies_true,Nat.le_refl,List.nil_append,List.cons_append,Bool.not_true,if_true]|(with_reducible refine Qaa v3 ?_ ?_ ?_);rfl;rfl)
   have hA':=ltT hA;have n0:=nnT i;have hwk:=Qah (a:=i) (by omega);have hmi:=Qz5 (mvS a b c) p i hA;have hml:=Qz4 (mvS a b c) p i hi;have hse:=Qz6 (mvS a b c) p i hA;obtain⟨m1,m2,m3⟩:=hW _ (List.getElem_mem hA);have hgd:p.getD i sg0=p[i]:=sgD hA;have hmd:(mixS (mvS a b c) p i).getD i sg0=p[i]:=by rw [List.getD_eq_getElem?_getD,hmi];rfl
   have hgo:(outD p p.length)[i]? =some (celD p[i] i):=by
    unfold outD;rw [List.getElem?_map,List.getElem?_range hA,Option.map_some,hgd]
   have hol:=Qds p p.length;generalize p[i]=s at*;have q0:lkp (famL 3 (cp (mixS (mvS a b c) p i)) (3*p.length)) (FB+3*i)=some (famB 3 (s.x.map (PV.int .i64))):=by rw [Qct _ _ (by omega)];unfold cp;rw [cl_0,hmd]
   have q1:lkp (famL 3 (cp (mixS (mvS a b c) p i)) (3*p.length)) (FB+(3*i+1))=some (famB 3 (s.y.map (PV.int .i64))):=by rw [Qct _ _ (by omega)];unfold cp;rw [cl_1,hmd]
   have q2:lkp (famL 3 (cp (mixS (mvS a b c) p i)) (3*p.length)) (FB+(3*i+2))=some (famB 3 (s.z.map (PV.int .i64))):=by rw [Qct _ _ (by omega)];unfold cp;rw [cl_2,hmd]
   have hF:FB=100000:=rfl;unfold celD at hgo;obtain⟨u0,hu0⟩: ∃u0,u0=FB+3*i:=⟨_,rfl⟩;obtain⟨u1,hu1⟩: ∃u0,u0=FB+(3*i+1):=⟨_,rfl⟩;obtain⟨u2,hu2⟩: ∃u0,u0=FB+(3*i+2):=⟨_,rfl⟩;rw [←hu0]at q0 hgo;rw [←hu1]at q1 hgo;rw [←hu2]at q2 hgo;have z1:(u0=7)=False:=eq_false (by omega);have z2:(u0=0)=False:=eq_false (by omega);have z3:(u1=7)=False:=eq_false (by omega);have z4:(u1=0)=False:=eq_false (by omega);have z5:(u2=7)=False:=eq_false (by omega);have z6:(u2=0)=False:=eq_false (by omega);have z7:(7=u0)=False:=eq_false (by omega);have z8:(0=u0)=False:=eq_false (by omega);have z9:(7=u1)=False:=eq_false (by omega);have za:(0=u1)=False:=eq_false (by omega);have ze:(7=u2)=False:=eq_false (by omega);have zf:(0=u2)=False:=eq_false (by omega);have zb:(u1=u0)=False:=eq_false (by omega);have zc:(u2=u0)=False:=eq_false (by omega);have zd:(u2=u1)=False:=eq_false (by omega);obtain⟨sf,st,so,X,Y,Z⟩:=s;obtain⟨n1,l1,w11,w12⟩:=m1;obtain⟨n2,l2,w21,w22⟩:=m2;obtain⟨n3,l3,w31,w32⟩:=m3;obtain⟨x,xs,rfl⟩: ∃x xs,X=x::xs:=by cases X with|nil=>exact absurd rfl n1|cons x xs=>exact⟨x,xs,rfl⟩
   obtain⟨y,ys,rfl⟩: ∃x xs,Y=x::xs:=by cases Y with|nil=>exact absurd rfl n2|cons x xs=>exact⟨x,xs,rfl⟩
   obtain⟨z,zs,rfl⟩: ∃x xs,Z=x::xs:=by cases Z with|nil=>exact absurd rfl n3|cons x xs=>exact⟨x,xs,rfl⟩
   simp only [List.getD_cons_zero,List.length_cons,List.map_cons]at w12 w22 w32 l1 l2 l3 w11 w21 w31 hgo q0 q1 q2;clear n1 n2 n3;have bl1:Nat.blt 7 1000000=true:=rfl;have g0: ∀n:Nat,((0:Int)<((n+1:Nat):Int))=True:=fun n=>eq_true (by omega);simp -implicitDefEqProofs only [go_sem,seval,hA',n0,g0,hwk,hgo,q0,q1,q2,famB,bxD,vbx,w11,w12,w21,w22,w31,w32,z1,z2,z3,z4,z5,z6,z7,z8,z9,za,zb,zc,zd,List.nil_append,List.cons_append,Int.toNat_natCast];have hyu0:u0≠YID:=by simp only [YID];omega
   with_reducible refine And.intro (Qlf [[(77777,true),(77777,true)],[],[],[],[(7,false)],[],[],[],[(0,false)],[],[(77777,false)],[],[(7,false)],[],[],[]] u0 hyu0 ?_ ?_) ?_
   ·kernel_rfl
   ·simp only [renA,swp,List.map_cons,List.map_nil,z7,z8,z9,za,ze,zf,Nat.reduceEqDiff,reduceIte]
   have hyu1:u1≠YID:=by simp only [YID];omega
   with_reducible refine And.intro (Qlf [[(77777,true),(77777,true)],[],[],[],[(7,false)],[],[],[],[(0,false)],[],[(77777,false)],[],[(7,false)],[],[],[]] u1 hyu1 ?_ ?_) ?_
   ·kernel_rfl
   ·simp only [renA,swp,List.map_cons,List.map_nil,z7,z8,z9,za,ze,zf,Nat.reduceEqDiff,reduceIte]
   have hyu2:u2≠YID:=by simp only [YID];omega
   with_reducible refine And.intro (Qlf [[(77777,true),(77777,true)],[],[],[],[(7,false)],[],[],[],[(0,false)],[],[(77777,false)],[],[(7,false)],[],[],[]] u2 hyu2 ?_ ?_) ?_
   ·kernel_rfl
   ·simp only [renA,swp,List.map_cons,List.map_nil,z7,z8,z9,za,ze,zf,Nat.reduceEqDiff,reduceIte]
   refine⟨⟨i+1,hA⟩,by simp only;omega,?_⟩;refine Qmc (θ:=[(7,7),(0,0)]) (low:=[(7,bxD p p.length),(0,vbx a b c)]) rfl rfl ?_ ?_ ?_
   ·simp [Qac,lkp,ren1,ren0]
   ·refine⟨?_,?_,trivial⟩
    ·have e3:lkp ([(7,7),(0,0)]++idL (3*p.length)) 7=some 7:=rfl;rw [e3];simp only [lkp,ze,z9,z7,if_false,if_true];exact .inr ⟨rfl,rfl,rfl,rfl,rfl,rfl,Qe5 p p.length (3*p.length) (Nat.le_refl _) fun q hq=>Qmd rfl hq,Qf5 p p.length⟩
    ·have e3:lkp ([(7,7),(0,0)]++idL (3*p.length)) 0=some 0:=rfl;rw [e3];simp only [lkp,zf,za,z8,if_false,if_true,Nat.reduceEqDiff,reduceIte];exact .inr ⟨rfl,rfl,rfl,rfl,rfl,rfl,rfl,rfl⟩
   ·intro q hq;rw [←hse];simp only [lkp];by_cases e2:q=3*i+2
    ·rw [if_pos (by omega),e2,Q6r (by omega)];rfl
    rw [if_neg (by omega)];by_cases e1:q=3*i+1
    ·rw [if_pos (by omega),e1,Zni (by omega)];rfl
    rw [if_neg (by omega)];by_cases e0:q=3*i
    ·rw [if_pos (by omega),e0,Q6q (by omega)];rfl
    rw [if_neg (by omega),if_neg (by omega),if_neg (by omega),Zwf e0 e1 e2];exact Qct _ _ hq
theorem Qfe (p:List Int) (a b d:Int) (i:Nat):Qas (Qce p a b d i)=Qce p a b d i:=by
 cases i with
 |zero=>rfl
 |succ i=>simp only [Qce,pAdd];exact Qgc _
theorem Zdw (c:List Int):cmpC c 1 (-1) 1=Qce (Qas c) 1 (-1) 1 (Qas c).length:=by
 unfold cmpC Qc8;rw [Int.one_pow];simp only [Int.mul_one,List.map_id'];exact Qfe _ _ _ _ _
theorem Zs9 (s:Sg) (W:Int) (hs:okSg s) (hv:Qa1 s=true) (hf:Qqy s):
  Qae Tryz.prog 51 [.int .i64 (W-s.t),.int .i64 (W-s.f),.slc [rL (revL s 0),rL (revL s 1),rL (revL s 2)],rI s.o] (.tup [sgPV (revS W s),.bool true]):=by
 have hbd:=Q6h hs hv;obtain⟨⟨v1,v2,v3,v4,v5⟩, -, -⟩:=Qav hv;have h:=Zdl (W-s.t) (W-s.f) (revL s) s.o 12000 (by decide) (by omega) (Qd4 (C:=12000) (Qay hs.o) (by decide)) (fun i hi=>(hbd i hi).1) (fun i hi=>by have:=(hbd i hi).2;omega) (fun _=>hf);rw [if_pos (Qzz hv)]at h;exact h
set_option maxHeartbeats 4000000 in
set_option maxRecDepth 100000 in
theorem Q13 (p:List Sg) (hV:Qa7 p=true) (hp: ∀s∈p,okSg s) (hfit: ∀s∈p,Qqy s):Qae Tryz.prog 23 [Qam p] (Qam (revP p)):=by
 have hv:=Qil hV;obtain⟨e1,e2,e3,e4⟩:=Qgw hV;obtain⟨-,b1,b2⟩:=Qbp hV;obtain⟨n,hn1⟩: ∃n,p.length=n+1:=⟨p.length-1,by omega⟩;have wab:IntKind.i64.wrap (pBeg p+pEnd p)=pBeg p+pEnd p:=Qai (by omega) (by omega);have n1:=Qdg 1 Q12.1 Q12.2;have n2:=Qdg (-1) Qz0.1 Qz0.2;have r1:=Qsw p (by omega);have r2:=Q63 p (by omega) (by omega);unfold Qam at r1 r2 ⊢;have wl:IntKind.i64.wrap (((n+1:Nat):Int)-1)=(n:Int):=by rw [Qai (by omega) (by omega)];omega
 refine Qab (tb:=[]) 67 [.tmp 2] [0,2,3,4,5,6,7,8,14,22] mixed Tryz.func23 rfl (by kernel_rfl) ?_;repeat simp -implicitDefEqProofs only [go_sem,seval,List.length_map,hn1,wl]
 refine Qaq mixed (fun k:{k:Nat // k≤n+1}=>St.of [(0,Qam p),(3,.bs 7 6 0 k.1),(4,.int .i64 ((n:Int)-k.1))]
  [(7,{els:=(revK p k.1).map sgPV,esz:=6,ety:=28,fro:=0,live:=true,arr:=true})]) (fun k=>n+1-k.1) ⟨0,Nat.zero_le _⟩ ?_ ?_
 ·refine Qci 3 7 6 28 rfl rfl rfl (by decide) [(7,7)] rfl ?_ ?_
  ·simp [Qac,lkp,ren1,ren0,Qam]
  ·exact⟨⟨rfl,rfl,rfl,rfl,rfl,.inl ⟨rfl,rfl⟩⟩,trivial⟩
 rintro⟨k,hk⟩;simp only;by_cases hA:k≤n
 ·have hA':((0:Int)≤(n:Int)-(k:Int))=True:=eq_true (by omega);have hB':((n:Int)-(k:Int)<0)=False:=eq_false (by omega);have hi:n-k<p.length:=by omega
  have hj:((n:Int)-(k:Int))=((n-k:Nat):Int):=by omega
  have hg:=Qbx p (n-k) hi;have n0:=nnT (n-k);have hmem:=List.getElem_mem hi;have hok:=hp _ hmem;have hvs:=hv _ hmem;have f4:=Zs9 p[n-k] (pBeg p+pEnd p) hok hvs (hfit _ hmem);have hsn:=congrArg (List.map sgPV) (Qus p k);rw [show p.length-1-k=n-k by omega,sgD hi,List.map_append]at hsn;have hlen:((revK p k).map sgPV).length=k:=by rw [List.length_map,Qj2]
  have hokf:=Qdr (revK p k);have c1:((k+1)*96≤140737488355328)=True:=eq_true (by omega);have c2:(k+1≤maxLen)=True:=eq_true (by unfold maxLen;omega);have hnx:IntKind.i64.wrap (((n-k:Nat):Int)-1)=(n:Int)-((k+1:Nat):Int):=by rw [Qai (by omega) (by omega)];omega
  have hjj:((n-k:Nat):Int)<(p.length:Int):=by omega
  rw [hj]at hA' hB' ⊢;generalize (revK p k).map sgPV=T at*;generalize p[n-k]=s at*;generalize n-k=j at*;obtain⟨⟨v1,v2,v3,v4,v5⟩,hax, -⟩:=Qav hvs;have w1:IntKind.i64.wrap (pBeg p+pEnd p-s.t)=pBeg p+pEnd p-s.t:=Qai (by omega) (by omega);have w2:IntKind.i64.wrap (pBeg p+pEnd p-s.f)=pBeg p+pEnd p-s.f:=Qai (by omega) (by omega);have n4:=Qdg s.o hok.o.1 hok.o.2;have hra:=Qxg s;have get3:=Zv6 s;have hsc:=hok.c;unfold sgPV at hra;have hL: ∀i,revL s i=Qce (Qas (s.ax.getD i [])) 1 (-1) 1 (Qas (s.ax.getD i [])).length:=fun i=>Zdw _;repeat simp -implicitDefEqProofs only [go_sem,seval,hA',hg,Int.toNat_natCast]
  refine Qaq mixed (fun i:{i:Nat // i≤3}=>St.of [(0,Qam p),(3,.bs 7 6 0 k),(4,.int .i64 (j:Int)),(5,.bp 1 6 0 0),(6,.bs 8 1 0 i.1),(7,.int .i64 (i.1:Int))]
   [(7,{els:=T,esz:=6,ety:=28,fro:=0,live:=true,arr:=true}),(1,{els:=[sgPV s],esz:=6,ety:=28,fro:=0,live:=true,arr:=false}),(8,{els:=rpA (revL s) i.1,esz:=1,ety:=86,fro:=0,live:=true,arr:=true})]) (fun i=>3-i.1) ⟨0,Nat.zero_le _⟩ ?_ ?_
  ·refine Qci 6 8 1 86 rfl rfl rfl (by decide) [(7,7),(1,504),(8,8)] rfl ?_ ?_
   ·simp [Qac,lkp,ren1,ren0,Qam]
   ·exact⟨⟨rfl,rfl,rfl,rfl,rfl,.inl ⟨rfl,rfl⟩⟩,⟨rfl,rfl,rfl,rfl,rfl,.inr ⟨rfl,_,_,rfl,rfl,rfl,rfl⟩⟩,⟨rfl,rfl,rfl,rfl,rfl,.inl ⟨rfl,rfl⟩⟩,trivial⟩
  rintro⟨i,hi3⟩;simp only;by_cases hC:i<3
  ·have hC':((i:Int)<3)=True:=eq_true (by omega);have m0:=nnT i;have hx:=get3 i hC;have hwk:=Qah (a:=i) (by omega);have a1:=Q59 (revL s) i;have a2:=Zss (revL s) i;have a3:=Zdm (revL s) i;have a4:((i+1)*24≤140737488355328)=True:=eq_true (by omega);have a5:(i+1≤maxLen)=True:=eq_true (by unfold maxLen;omega);have hm:=Qho s i hC;obtain⟨l1,l6, -, -⟩:=Qca (hax _ hm);have hcx:=hsc _ hm;have hLi:=hL i;clear hL f4;generalize s.ax.getD i []=c at*;have hcb:bd 64 c:=fun x hx=>Qay (hcx x hx);have f1:=Zm7 c (by omega) hcx;have lt:=Qbh c;have f2:=Q15 (Qas c) 1 (-1) 1 64 (by decide) (Qe3 hcb) (by decide) (by decide) (by decide) (by omega);rw [←hLi]at f2;generalize Qas c=X2 at*;generalize revL s i=Li at*;repeat (first|simp -implicitDefEqProofs only [go_sem,seval,sgPV,Qan,rL,rI,di,hC',m0,hx,hwk,a1,a2,a4,a5,Int.toNat_natCast]|(with_reducible refine Qaa hra ?_ ?_ ?_);rfl;rfl|(with_reducible refine Qaa f1 ?_ ?_ ?_);rfl;rfl|(with_reducible refine Qaa n1 ?_ ?_ ?_);rfl;rfl|(with_reducible refine Qaa n2 ?_ ?_ ?_);rfl;rfl|(with_reducible refine Qaa f2 ?_ ?_ ?_);rfl;rfl)
   refine⟨⟨i+1,hC⟩,by simp only;omega,Qaj (θ:=[(7,7),(1,1),(8,1012)]) rfl ?_ ?_⟩
   ·simp [Qac,lkp,ren1,ren0,Qao,Qam]
   ·simp only [a3];exact⟨⟨rfl,rfl,rfl,rfl,rfl,.inl ⟨rfl,rfl⟩⟩,⟨rfl,rfl,rfl,rfl,rfl,.inr ⟨rfl,_,_,rfl,rfl,rfl,rfl⟩⟩,⟨rfl,rfl,rfl,rfl,rfl,.inl ⟨rfl,rfl⟩⟩,trivial⟩
  ·have hC':((i:Int)<3)=False:=eq_false (by omega);obtain rfl:i=3:=by omega
   have hl3:=Q59 (revL s) 3;repeat (first|simp -implicitDefEqProofs only [go_sem,seval,sgPV,rI,di,Zv7,hl3,wab,w1,w2,hnx,hlen,hokf,c1,c2]|(with_reducible refine Qaa r1 ?_ ?_ ?_);rfl;rfl|(with_reducible refine Qaa r2 ?_ ?_ ?_);rfl;rfl|(with_reducible refine Qaa n4 ?_ ?_ ?_);rfl;rfl|(with_reducible refine Qaa f4 ?_ ?_ ?_);rfl;rfl|(with_reducible refine And.intro (Qad _ _ (by kernel_rfl)) ?_))
   refine⟨⟨k+1,by omega⟩,by simp only;omega,Qaj (θ:=[(7,1203)]) rfl ?_ ?_⟩
   ·simp [Qac,lkp,ren1,ren0,Qao,Qam]
   ·simp only [hsn];exact⟨⟨rfl,rfl,rfl,rfl,rfl,.inl ⟨rfl,rfl⟩⟩,trivial⟩
 ·have hA':((0:Int)≤(n:Int)-(k:Int))=False:=eq_false (by omega);have hB':((n:Int)-(k:Int)<0)=True:=eq_true (by omega);obtain rfl:k=n+1:=by omega
  have e:revK p (n+1)=revP p:=by unfold revP;rw [hn1]
  have b1:((revP p).map sgPV).length=n+1:=by rw [List.length_map,revP,Qj2,hn1]
  have b2:(((revP p).map sgPV).flatMap PV.cells).all PV.okCell=true:=Qdr _;have b3:((revP p).map sgPV).take (n+1)=(revP p).map sgPV:=List.take_of_length_le (by omega);simp only [e];generalize (revP p).map sgPV=T at*;repeat simp -implicitDefEqProofs only [go_sem,seval,hA',b1,b3]
theorem refd (e:Int):Qae Tryz.prog 19 [.slc [],.int .i64 e,.int .i64 e] (.bool true):=by
 have h:=Qut [] e e;have:((e==e)&&((([]:List PV).length:Int)==0))=true:=by simp
 rwa [this]at h
end Go.Proofs.YtlghoaggenhheaaGreat

namespace Go.Dg
theorem Qf4 (F:Nat→Int) (n j:Nat) (h:j<n):((List.range n).map F).getD j 0=F j:=by simp [List.getD_eq_getElem?_getD,h]
def binL (n:Nat):List Int:=(List.range (n+1)).map fun j=>(bin n j:Int)
theorem Qw9 (n:Nat):(binL n).length=n+1:=by simp [binL]
theorem Zdd (n:Nat) (x y:Int):hev (binL n) x y=(x+y)^n:=by rw [binL,Qm8,Qn0]
def pieces (n:Nat):Nat→List Int→List (List Int)
 |0,f=>[f]
 |d+1,f=>pieces n d (Zse f n)++pieces n d (Zsf f n)
def linA (α β:Int):List Int→Int→List Int
 | [],k=>[k]
 |c::q,k=>(k+β*c)::linA α β q (α*c)
theorem Qrs (α β:Int): ∀(l:List Int) (k:Int),(linA α β l k).length=l.length+1
 | [],_=>rfl
 |c::q,k=>by simp [linA,Qrs α β q]
theorem Qzb (α β x y:Int): ∀(l:List Int) (k:Int),hev (linA α β l k) x y=k*y^l.length+(α*x+β*y)*hev l x y
 | [],k=>by simp [linA,hev]
 |c::q,k=>by
  rw [linA,hev,Qrs,Qzb α β x y q,hev,List.length_cons];have e:y^(q.length+1)=y*y^q.length:=Qms y _;rw [e];generalize y^q.length=Y;generalize hev q x y=V;simp only [Int.add_mul,Int.mul_add];have h1:β*c*(y*Y)=β*y*(c*Y):=by simp only [Int.mul_comm,Int.mul_left_comm,Int.mul_assoc]
  have h2:x*(α*c*Y)=α*x*(c*Y):=by simp only [Int.mul_comm,Int.mul_left_comm,Int.mul_assoc]
  have h3:x*(α*x*V)=α*x*(x*V):=by simp only [Int.mul_comm,Int.mul_left_comm,Int.mul_assoc]
  have h4:x*(β*y*V)=β*y*(x*V):=by simp only [Int.mul_comm,Int.mul_left_comm,Int.mul_assoc]
  rw [h1,h2,h3,h4];omega
theorem Q4n {α β:Int} (ha:0≤α) (hb:0≤β): ∀(l:List Int) (k:Int),(∀c∈l,0≤c)→0≤k→ ∀c∈linA α β l k,0≤c
 | [],k,_,hk=>by intro c hc;simp [linA]at hc;omega
 |c::q,k,hl,hk=>by
  intro z hz;have hc:=hl c (by simp);rcases List.mem_cons.1 hz with rfl|hz
  ·have:=Int.mul_nonneg hb hc;omega
  ·exact Q4n ha hb q (α*c) (fun c hc=>hl c (by simp [hc])) (Int.mul_nonneg ha hc) z hz
def pwL (α β:Int) (l:List Int):Nat→List Int
 |0=>l
 |m+1=>linA α β (pwL α β l m) 0
theorem Qwr (α β:Int) (l:List Int): ∀m,(pwL α β l m).length=l.length+m
 |0=>rfl
 |m+1=>by rw [pwL,Qrs,Qwr α β l m];omega
theorem Qws (α β:Int) (l:List Int) (x y:Int): ∀m,hev (pwL α β l m) x y=(α*x+β*y)^m*hev l x y
 |0=>by simp [pwL]
 |m+1=>by rw [pwL,Qzb,Qws α β l x y m,Int.zero_mul,Int.zero_add,Qms,Int.mul_assoc]
theorem Q4o {α β:Int} (ha:0≤α) (hb:0≤β) {l:List Int} (hl: ∀c∈l,0≤c): ∀m,∀c∈pwL α β l m,0≤c
 |0=>hl
 |m+1=>Q4n ha hb _ _ (Q4o ha hb hl m) (Int.le_refl 0)
def gL (e1 e0 g1 g0:Int) (n j:Nat):List Int:=pwL e1 e0 (pwL g1 g0 [1] (n-j)) j
theorem Zr2 (e1 e0 g1 g0:Int) {n j:Nat} (h:j≤n):(gL e1 e0 g1 g0 n j).length=n+1:=by
 unfold gL;rw [Qwr,Qwr];simp;omega
theorem Zr3 (e1 e0 g1 g0 x y:Int) (n j:Nat):hev (gL e1 e0 g1 g0 n j) x y=(e1*x+e0*y)^j*(g1*x+g0*y)^(n-j):=by
 unfold gL;rw [Qws,Qws];simp [hev]
theorem Zvw {e1 e0 g1 g0:Int} (h1:0≤e1) (h2:0≤e0) (h3:0≤g1) (h4:0≤g0) (n j i:Nat):0≤(gL e1 e0 g1 g0 n j).getD i 0:=by
 have h: ∀c∈gL e1 e0 g1 g0 n j,0≤c:=Q4o h1 h2 (Q4o h3 h4 (by simp) _) _;rw [List.getD_eq_getElem?_getD];cases e:(gL e1 e0 g1 g0 n j)[i]? with
 |none=>exact Int.le_refl 0
 |some c=>exact h c (List.mem_of_getElem? e)
def subH (H:List Int) (e1 e0 g1 g0:Int) (n:Nat):List Int:=(List.range (n+1)).map fun i=>sm (fun j=>H.getD j 0*(gL e1 e0 g1 g0 n j).getD i 0) (n+1)
theorem Zch (H:List Int) (e1 e0 g1 g0:Int) (n:Nat):(subH H e1 e0 g1 g0 n).length=n+1:=by simp [subH]
theorem Qzc {H:List Int} {n:Nat} (hH:H.length=n+1) (e1 e0 g1 g0 x y:Int):hev (subH H e1 e0 g1 g0 n) x y=hev H (e1*x+e0*y) (g1*x+g0*y):=by
 rw [subH,Qm8,Qi4 H,hH];have e1': ∀i,i<n+1→sm (fun j=>H.getD j 0*(gL e1 e0 g1 g0 n j).getD i 0) (n+1)*(x^i*y^(n-i))=sm (fun j=>H.getD j 0*((gL e1 e0 g1 g0 n j).getD i 0*(x^i*y^(n-i)))) (n+1):=by
  intro i _;rw [←Qk6];exact Qbg _ fun j _=>by rw [Int.mul_assoc]
 rw [Qbg _ e1',Q46];refine Qbg _ fun j hj=> ?_;rw [Qdd];congr 1;have h:=Qi4 (gL e1 e0 g1 g0 n j) x y;rw [Zr3,Zr2 e1 e0 g1 g0 (show j≤n by omega)]at h;simp only [Nat.add_sub_cancel]at h ⊢;exact h.symm
theorem Qzd (H:List Int) (e1 e0 g1 g0:Int) (n i:Nat) (h:i≤n):(subH H e1 e0 g1 g0 n).getD i 0=sm (fun j=>H.getD j 0*(gL e1 e0 g1 g0 n j).getD i 0) (n+1):=Qf4 _ _ _ (by omega)
theorem Zci (a b:Int): ∀n:Nat,(a*b)^n=a^n*b^n:=Qr7 a b
theorem Zr4 {e1 e0 g1 g0 d:Int} (h1:e1+g1=d) (h0:e0+g0=d) (n i:Nat) (hi:i≤n):sm (fun j=>(bin n j:Int)*(gL e1 e0 g1 g0 n j).getD i 0) (n+1)=d^n*(bin n i:Int):=by
 have key:subH (binL n) e1 e0 g1 g0 n=(List.range (n+1)).map fun i=>d^n*(bin n i:Int):=by
  refine Qjw (by simp [subH]) fun x _=> ?_;rw [Qzc (Qw9 n),Zdd,Qm8];have e:e1*x+e0*1+(g1*x+g0*1)=d*(x+1):=by
   rw [←h1,Int.add_mul,Int.mul_add,Int.mul_add];omega
  rw [e,Zci,←Qn0 x 1 n,←Qdd];exact Qbg _ fun j _=>by rw [Int.mul_assoc]
 have h2:(subH (binL n) e1 e0 g1 g0 n).getD i 0=((List.range (n+1)).map fun i=>d^n*(bin n i:Int)).getD i 0:=by rw [key]
 rw [Qzd _ _ _ _ _ _ _ hi,Qf4 _ _ _ (by omega)]at h2;rw [←h2];refine Qbg _ fun j hj=> ?_;rw [binL,Qf4 _ _ _ hj]
theorem Q4p {H:List Int} {e1 e0 g1 g0 d M:Int} (h1:0≤e1) (h2:0≤e0) (h3:0≤g1) (h4:0≤g0) (k1:e1+g1=d) (k0:e0+g0=d) {n:Nat}
  (hb: ∀j,j≤n→ -(M*(bin n j:Int))≤60*H.getD j 0∧60*H.getD j 0≤M*(bin n j:Int)) (i:Nat) (hi:i≤n):
  -(M*d^n*(bin n i:Int))≤60*(subH H e1 e0 g1 g0 n).getD i 0∧60*(subH H e1 e0 g1 g0 n).getD i 0≤M*d^n*(bin n i:Int):=by
 rw [Qzd _ _ _ _ _ _ _ hi,Int.mul_assoc,←Zr4 k1 k0 n i hi,←Qdd,←Qdd];have hw:=Zvw h1 h2 h3 h4 n;constructor
 ·have e: -(sm (fun j=>M*((bin n j:Int)*(gL e1 e0 g1 g0 n j).getD i 0)) (n+1))=sm (fun j=> -1*(M*((bin n j:Int)*(gL e1 e0 g1 g0 n j).getD i 0))) (n+1):=by rw [Qdd (-1)];omega
  rw [e];refine Q47 _ fun j hj=> ?_;have:=Int.mul_le_mul_of_nonneg_right (hb j (by omega)).1 (hw j i);rw [Int.neg_mul,Int.mul_assoc,Int.mul_assoc]at this;omega
 ·refine Q47 _ fun j hj=> ?_;have:=Int.mul_le_mul_of_nonneg_right (hb j (by omega)).2 (hw j i);rw [Int.mul_assoc,Int.mul_assoc]at this;exact this
theorem Qwt: ∀(p:List Int) (n:Nat) (x:Int),p.length=n+1→hev p x 0=p.getD n 0*x^n
 | [],_,_,h=>by simp at h
 | [c],n,x,h=>by
  have:n=0:=by simpa using h.symm
  subst this;simp [hev]
 |c::d::q,n,x,h=>by
  obtain⟨m,rfl⟩: ∃m,n=m+1:=⟨n-1,by simp at h;omega⟩;have ih:=Qwt (d::q) m x (by simpa using h);rw [hev,ih,List.length_cons,List.getD_cons_succ,Qms x m,Qms 0];rw [Int.zero_mul,Int.mul_zero,Int.zero_add,Int.mul_left_comm]
theorem Qm0: ∀(p:List Int) (k x y:Int),hev (p.map (· *k)) x y=k*hev p x y
 | [],k,x,y=>by simp [hev]
 |c::q,k,x,y=>by
  rw [List.map_cons,hev,Qm0 q k,List.length_map,hev,Int.mul_add];congr 1
  ·rw [Int.mul_comm c k,Int.mul_assoc]
  ·rw [Int.mul_left_comm]
theorem Qno (p:List Int) (k:Int) (i:Nat):(p.map (· *k)).getD i 0=p.getD i 0*k:=by
 rw [List.getD_eq_getElem?_getD,List.getD_eq_getElem?_getD,List.getElem?_map];cases p[i]? <;>simp
def Kq (c:List Int) (a b d:Int):List Int:=(subH (trans c 1 (c.length-1)) (a+b) a (d-a-b) (d-a) (c.length-1)).map (· *d^(6-c.length))
def cq (c:List Int) (a b d:Int):List Int:=trans (Kq c a b d) (-1) (c.length-1)
section
variable {c:List Int} {n:Nat} (hc:c.length=n+1) (a b d:Int)
include hc
theorem Q4q:(Kq c a b d).length=n+1:=by
 unfold Kq;rw [List.length_map,Zch];omega
theorem Qi2:(cq c a b d).length=n+1:=by
 unfold cq;rw [Qfv];omega
theorem Zr5 (x z:Int):hev (Kq c a b d) x z=d^(5-n)*hev c ((a+b)*x+a*z) (d*(x+z)):=by
 have hn:c.length-1=n:=by omega
 unfold Kq;rw [Qm0,hn,Qzc (Qfv c 1 n),Qgb hc];have e:6-c.length=5-n:=by omega
 rw [e];congr 2;simp only [Int.one_mul,Int.sub_mul,Int.add_mul,Int.mul_add];omega
theorem Qqc (x y:Int):hev (cq c a b d) x y=d^(5-n)*hev c (a*y+b*x) (d*y):=by
 have hn:c.length-1=n:=by omega
 unfold cq;rw [hn,Qgb (Q4q hc a b d),Zr5 hc];have e1:(a+b)*x+a*(-1*x+y)=a*y+b*x:=by
  simp only [Int.add_mul,Int.mul_add,Int.neg_mul,Int.one_mul,Int.mul_neg];omega
 have e2:x+(-1*x+y)=y:=by omega
 rw [e1,e2]
theorem Zkx:(cq c a b d).getD n 0=d^(5-n)*(c.getD n 0*b^n):=by
 have h:=Qwt (cq c a b d) n 1 (Qi2 hc a b d);rw [Qqc hc,Int.mul_zero,Int.mul_zero,Int.zero_add,Int.mul_one,Qwt c n b hc,Int.one_pow,Int.mul_one]at h;exact h.symm
theorem Zcj:trans (cq c a b d) 1 n=Kq c a b d:=by
 have hn:c.length-1=n:=by omega
 refine Qjw (by rw [Qfv,Q4q hc]) fun x _=> ?_;rw [Qgb (Qi2 hc a b d)];unfold cq;rw [hn,Qgb (Q4q hc a b d)];congr 1;omega
theorem Zr6 (hn:n≤5) (h0:0≤a) (h1:a≤d) (h2:0≤a+b) (h3:a+b≤d) {M:Int} (hM: ∀j,j≤n→ -M≤ctl c j∧ctl c j≤M) (j:Nat) (hj:j≤n):
  -(M*d^5)≤ctl (cq c a b d) j∧ctl (cq c a b d) j≤M*d^5:=by
 have hn1:c.length-1=n:=by omega
 have hd:0≤d:=by omega
 have hH: ∀j,j≤n→ -(M*(bin n j:Int))≤60*(trans c 1 n).getD j 0∧60*(trans c 1 n).getD j 0≤M*(bin n j:Int):=by
  intro j hj;have hp:(0:Int)≤(bin n j:Int):=Int.natCast_nonneg _;have:=hM j hj;rw [←Qn8 hc hn hj,Int.mul_comm (bin n j:Int),←Int.neg_mul];exact⟨Int.mul_le_mul_of_nonneg_right this.1 hp,Int.mul_le_mul_of_nonneg_right this.2 hp⟩
 have hs:=Q4p (d:=d) (M:=M) h2 h0 (show 0≤d-a-b by omega) (show 0≤d-a by omega) (by omega) (by omega) hH j hj;have hk:(Kq c a b d).getD j 0=(subH (trans c 1 n) (a+b) a (d-a-b) (d-a) n).getD j 0*d^(5-n):=by
  unfold Kq;have e:6-c.length=5-n:=by omega
  rw [Qno,hn1,e]
 have ht:=Qn8 (Qi2 hc a b d) hn hj;rw [Zcj hc,hk]at ht;have hb:(0:Int)<(bin n j:Int):=by have:=Qr6 hj;omega
 have hD:0≤d^(5-n):=Int.pow_nonneg hd;have hdd:d^5=d^n*d^(5-n):=by rw [←Int.pow_add];congr 1;omega
 rw [hdd];generalize (subH (trans c 1 n) (a+b) a (d-a-b) (d-a) n).getD j 0=S at*;generalize d^(5-n)=D at*;generalize d^n=E at*;generalize ctl (cq c a b d) j=X at*;generalize (bin n j:Int)=Bn at*;have u1:=Int.mul_le_mul_of_nonneg_right hs.1 hD;have u2:=Int.mul_le_mul_of_nonneg_right hs.2 hD;rw [Int.mul_assoc 60 S D,←ht]at u1 u2;constructor
 ·refine Int.le_of_mul_le_mul_left (a:=Bn) ?_ hb;have e:Bn* -(M*(E*D))= -(M*E*Bn)*D:=by
   rw [Int.mul_neg,Int.neg_mul];congr 1;simp only [Int.mul_comm,Int.mul_left_comm,Int.mul_assoc]
  rw [e];exact u1
 ·refine Int.le_of_mul_le_mul_left (a:=Bn) ?_ hb;have e:Bn*(M*(E*D))=M*E*Bn*D:=by simp only [Int.mul_comm,Int.mul_left_comm,Int.mul_assoc]
  rw [e];exact u2
theorem Zck {l:List Int} {n:Nat} (hl:l.length=n+1) (h:l.getD n 0≠0):Qas l=l:=by
 have _hc:=hc;rcases Qqq (c:=l) (fun _=>by rw [hl];exact h) (by omega)with e|e
 ·exact e
 ·subst e;have:n=0:=by simpa using hl.symm
  subst this;simp at h
theorem Qze (hn:n≤5) (hl:1<c.length→c.getD (c.length-1) 0≠0):cmpC c a b d=Qas (cq c a b d):=by
 have e1:cmpC c a b d=Qas (cmpC c a b d):=by unfold cmpC Qc8;rw [Qgc]
 rw [e1];refine Qw0 _ _ fun u _=> ?_;unfold cmpC;rw [Qn2,Q5w,Q5d,Qqc hc,Int.mul_one,Int.mul_one];have e:6-c.length=5-n:=by omega
 rw [e,Int.mul_comm];congr 1;rcases Qqq hl (by omega)with h|h
 ·rw [h]
 ·rw [h];simp [Qas,hev]
theorem Zvx (hn:n≤5) (hl:1<c.length→c.getD (c.length-1) 0≠0) (hb:b≠0) (hd:d≠0) (G:Int):mkC G (cmpC c a b d)=(cq c a b d).map (· /G):=by
 rw [Qze hc a b d hn hl];have hq:=Qi2 hc a b d;by_cases ht:(cq c a b d).getD n 0=0
 ·have hn0:n=0:=by
   rcases Nat.eq_zero_or_pos n with h|h
   ·exact h
   ·exfalso;rw [Zkx hc]at ht;have h1:=hl (by omega);have e:c.length-1=n:=by omega
    rw [e]at h1;rcases Int.mul_eq_zero.1 ht with h2|h2
    ·exact Int.pow_ne_zero hd h2
    ·rcases Int.mul_eq_zero.1 h2 with h3|h3
     ·exact h1 h3
     ·exact Int.pow_ne_zero hb h3
  subst hn0
  match hcq:cq c a b d,hq with
  | [x],_=>
   rw [hcq]at ht;have hx:x=0:=by simpa using ht
   subst hx;simp [Qas,mkC]
 ·rw [Zck hc hq ht];unfold mkC;rw [if_neg (by intro e;rw [e]at hq;simp at hq)]
end
theorem Qqd {x:Int}: ∀{l:List Int},x∈l→x=0∨x∈Qas l
 | [],h=>nomatch h
 |c::r,h=>by
  rw [Qb9];rcases List.mem_cons.1 h with rfl|h
  ·split
   ·split
    ·rename_i h0;exact .inl h0
    ·exact .inr (by simp)
   ·exact .inr (by simp)
  ·rcases Qqd h with h0|h0
   ·exact .inl h0
   ·right;split
    ·rename_i e;rw [e]at h0;exact nomatch h0
    ·exact List.mem_cons_of_mem _ h0
theorem Zcl (c:List Int) (k:Int) (j:Nat):ctl (c.map (· *k)) j=ctl c j*k:=by
 unfold ctl;rw [List.length_map,←Qk6];exact Qbg _ fun i _=>by rw [Qno];simp only [Int.mul_comm,Int.mul_left_comm,Int.mul_assoc]
theorem Qzf {l:List Int} {G:Int} (h: ∀x∈l,G∣x):(l.map (· /G)).map (· *G)=l:=by
 rw [List.map_map]
 conv=>rhs;rw [←List.map_id l]
 exact List.map_congr_left fun x hx=>Int.ediv_mul_cancel (h x hx)
theorem Qcq {k:Nat}: ∀{c:List Int} {g:Nat},k∣g→(∀x∈c,k∣x.natAbs)→k∣gcdL g c
 | [],_,hg,_=>hg
 |x::c,g,hg,h=>Qcq (c:=c) (g:=Nat.gcd g x.natAbs) (Nat.dvd_gcd hg (h x (by simp))) fun y hy=>h y (by simp [hy])
structure turnOK (a b d:Int):Prop where
 a0:0≤a
 a1:a≤d
 b0:0≤a+b
 b1:a+b≤d
 b:b≠0
 d:1≤d
theorem Q4r {c:List Int} {o:Int} (h:axOK c o=true) (j:Nat) (hj:j≤c.length-1): -(62914560*o)≤ctl c j∧ctl c j≤62914560*o:=by
 obtain⟨l1,l6, -,hb⟩:=Qca h;have:=Q5t hb j (by omega);exact Qc9 this
theorem Qqe {s:Sg} (hv:Qa1 s=true) (i:Nat) (hi:i<3): ∃n,(s.ax.getD i []).length=n+1∧n≤5∧(1<(s.ax.getD i []).length→(s.ax.getD i []).getD ((s.ax.getD i []).length-1) 0≠0):=by
 obtain⟨l1,l6,l3, -⟩:=Qca ((Qav hv).2.1 _ (Qho s i hi));exact⟨(s.ax.getD i []).length-1,by omega,by omega,l3⟩
section
variable {s:Sg} (hv:Qa1 s=true) {a b d:Int} (ht:turnOK a b d) {f t O:Int} (hO:O=s.o*d^5)
include hv ht hO
theorem Zr7:0<O:=by
 obtain⟨⟨-, -, -,v4, -⟩, -, -⟩:=Qav hv;rw [hO];exact Int.mul_pos (by omega) (Int.pow_pos (by have:=ht.d;omega))
theorem Q4s (i:Nat) (hi:i<3): ∀x∈cq (s.ax.getD i []) a b d,(mdG (cmpL s a b d) O 3:Int)∣x:=by
 have _ht:=ht;have _hO:=hO;obtain⟨n,hn,hn5,hl⟩:=Qqe hv i hi;intro x hx;rcases Qqd hx with rfl|h
 ·exact Int.dvd_zero _
 ·have e:cmpL s a b d i=Qas (cq (s.ax.getD i []) a b d):=Qze hn a b d hn5 hl;exact(Qsd (cmpL s a b d) O).2 i hi x (by rw [e];exact h)
theorem Zl3 (i:Nat) (hi:i<3):(Qdm f t (cmpL s a b d) O).ax.getD i []=(cq (s.ax.getD i []) a b d).map (· /(mdG (cmpL s a b d) O 3:Int)):=by
 have _hO:=hO;obtain⟨n,hn,hn5,hl⟩:=Qqe hv i hi;have e:mdC (cmpL s a b d) O i=(cq (s.ax.getD i []) a b d).map (· /(mdG (cmpL s a b d) O 3:Int)):=Zvx hn a b d hn5 hl ht.b (by have:=ht.d;omega) _;rw [←e];rcases(show i=0∨i=1∨i=2 by omega)with rfl|rfl|rfl<;>rfl
theorem Zcm (h0:0≤f) (h1:f<t) (h2:t≤3600000) (hf:Qi1 (cmpL s a b d) O=true):Qa1 (Qdm f t (cmpL s a b d) O)=true:=by
 have hp:=Zr7 hv ht hO;have hG:=Qla (L:=cmpL s a b d) hp 3;have hdO:=(Qsd (cmpL s a b d) O).1;have hO2:O/(mdG (cmpL s a b d) O 3:Int)*(mdG (cmpL s a b d) O 3:Int)=O:=Int.ediv_mul_cancel hdO;have hf':O/(mdG (cmpL s a b d) O 3:Int)≤4294967296:=of_decide_eq_true hf;have ho1:1≤O/(mdG (cmpL s a b d) O 3:Int):=by
  rcases Int.lt_or_le (O/(mdG (cmpL s a b d) O 3:Int)) 1 with q|q
  ·exfalso;have:O/(mdG (cmpL s a b d) O 3:Int)*(mdG (cmpL s a b d) O 3:Int)≤0:=Int.mul_nonpos_of_nonpos_of_nonneg (by omega) (by omega);omega
  ·exact q
 have hrng:rngS (Qdm f t (cmpL s a b d) O)=true:=by
  show(decide (0≤f)&&(decide (f<t)&&(decide (t≤3600000)&&(decide (1≤O/(mdG (cmpL s a b d) O 3:Int))&&decide (O/(mdG (cmpL s a b d) O 3:Int)≤4294967296)))))=true;rw [decide_eq_true h0,decide_eq_true h1,decide_eq_true h2,decide_eq_true ho1,decide_eq_true hf'];rfl
 have hax: ∀i,i<3→axOK ((Qdm f t (cmpL s a b d) O).ax.getD i []) (O/(mdG (cmpL s a b d) O 3:Int))=true:=by
  intro i hi;obtain⟨n,hn,hn5,hl⟩:=Qqe hv i hi;have hok:=(Qav hv).2.1 _ (Qho s i hi);have hdv:=Q4s hv ht hO i hi;have hm:=Qzf hdv;rw [Zl3 hv ht hO i hi];have hlen:((cq (s.ax.getD i []) a b d).map (· /(mdG (cmpL s a b d) O 3:Int))).length=n+1:=by rw [List.length_map,Qi2 hn]
  have htop:1<n+1→((cq (s.ax.getD i []) a b d).map (· /(mdG (cmpL s a b d) O 3:Int))).getD n 0≠0:=by
   intro h1 e;have h3:=Qno ((cq (s.ax.getD i []) a b d).map (· /(mdG (cmpL s a b d) O 3:Int))) (mdG (cmpL s a b d) O 3:Int) n;rw [hm,e,Int.zero_mul,Zkx hn]at h3;have h4:=hl (by omega);have e2:(s.ax.getD i []).length-1=n:=by omega
   rw [e2]at h4;rcases Int.mul_eq_zero.1 h3 with h5|h5
   ·exact Int.pow_ne_zero (by have:=ht.d;omega) h5
   ·rcases Int.mul_eq_zero.1 h5 with h6|h6
    ·exact h4 h6
    ·exact Int.pow_ne_zero ht.b h6
  have hctl: ∀j,j<n+1→((ctl ((cq (s.ax.getD i []) a b d).map (· /(mdG (cmpL s a b d) O 3:Int))) j).natAbs:Int)≤62914560*(O/(mdG (cmpL s a b d) O 3:Int)):=by
   intro j hj;have h3:=Zcl ((cq (s.ax.getD i []) a b d).map (· /(mdG (cmpL s a b d) O 3:Int))) (mdG (cmpL s a b d) O 3:Int) j;rw [hm]at h3;have h4:=Zr6 hn a b d hn5 ht.a0 ht.a1 ht.b0 ht.b1 (M:=62914560*s.o) (fun j hj=>Q4r hok j (by omega)) j (by omega);rw [h3,Int.mul_assoc 62914560,←hO,←hO2,←Int.mul_assoc]at h4;rw [hO2]at h4;generalize ctl ((cq (s.ax.getD i []) a b d).map (· /(mdG (cmpL s a b d) O 3:Int))) j=X at*;have hG':(0:Int)<(mdG (cmpL s a b d) O 3:Int):=by omega
   rw [←Int.neg_mul]at h4;have h5:=Int.le_of_mul_le_mul_right h4.1 hG';have h6:=Int.le_of_mul_le_mul_right h4.2 hG';omega
  unfold axOK Qk7 Qdc;rw [hlen,Bool.and_eq_true,Bool.and_eq_true,Bool.and_eq_true,List.all_eq_true];refine⟨⟨decide_eq_true (by omega),decide_eq_true (by omega),?_⟩,fun j hj=>decide_eq_true (hctl j (List.mem_range.1 hj))⟩;rcases Nat.eq_zero_or_pos n with h|h
  ·subst h;rfl
  ·have:=htop (by omega);rw [Bool.or_eq_true];right;simp only [Nat.add_sub_cancel,Bool.not_eq_true',beq_eq_false_iff_ne,ne_eq];exact this
 have hgcd:(Qdm f t (cmpL s a b d) O).ax.foldl gcdL (O/(mdG (cmpL s a b d) O 3:Int)).natAbs=1:=by
  generalize he:(Qdm f t (cmpL s a b d) O).ax.foldl gcdL (O/(mdG (cmpL s a b d) O 3:Int)).natAbs=e;have hfold:(Qdm f t (cmpL s a b d) O).ax.foldl gcdL (O/(mdG (cmpL s a b d) O 3:Int)).natAbs=gcdL (gcdL (gcdL (O/(mdG (cmpL s a b d) O 3:Int)).natAbs ((Qdm f t (cmpL s a b d) O).ax.getD 0 [])) ((Qdm f t (cmpL s a b d) O).ax.getD 1 [])) ((Qdm f t (cmpL s a b d) O).ax.getD 2 []):=rfl;rw [hfold]at he;have d3:=Qik (gcdL (gcdL (O/(mdG (cmpL s a b d) O 3:Int)).natAbs ((Qdm f t (cmpL s a b d) O).ax.getD 0 [])) ((Qdm f t (cmpL s a b d) O).ax.getD 1 [])) ((Qdm f t (cmpL s a b d) O).ax.getD 2 []);have d2:=Qik (gcdL (O/(mdG (cmpL s a b d) O 3:Int)).natAbs ((Qdm f t (cmpL s a b d) O).ax.getD 0 [])) ((Qdm f t (cmpL s a b d) O).ax.getD 1 []);have d1:=Qik (O/(mdG (cmpL s a b d) O 3:Int)).natAbs ((Qdm f t (cmpL s a b d) O).ax.getD 0 []);rw [he]at d3;have q2:=Nat.dvd_trans d3.1 d2.1;have hall: ∀i,i<3→ ∀x∈(Qdm f t (cmpL s a b d) O).ax.getD i [],e∣x.natAbs:=by
   intro i hi x hx;rcases(show i=0∨i=1∨i=2 by omega)with rfl|rfl|rfl
   ·exact Nat.dvd_trans q2 (d1.2 x hx)
   ·exact Nat.dvd_trans d3.1 (d2.2 x hx)
   ·exact d3.2 x hx
  have hbase:e∣(O/(mdG (cmpL s a b d) O 3:Int)).natAbs:=Nat.dvd_trans q2 d1.1;have hk0:e*mdG (cmpL s a b d) O 3∣O.natAbs:=by
   have:O.natAbs=(O/(mdG (cmpL s a b d) O 3:Int)).natAbs*mdG (cmpL s a b d) O 3:=by
    have:=congrArg Int.natAbs hO2;rw [Int.natAbs_mul,Int.natAbs_natCast]at this;exact this.symm
   rw [this];exact Nat.mul_dvd_mul_right hbase _
  have hki: ∀i,i<3→ ∀x∈cmpL s a b d i,e*mdG (cmpL s a b d) O 3∣x.natAbs:=by
   intro i hi x hx;obtain⟨n,hn,hn5,hl⟩:=Qqe hv i hi;have e1:cmpL s a b d i=Qas (cq (s.ax.getD i []) a b d):=Qze hn a b d hn5 hl;rw [e1]at hx;have hx:=Qjx hx;have hdx:=Q4s hv ht hO i hi x hx;have hm:x/(mdG (cmpL s a b d) O 3:Int)∈(Qdm f t (cmpL s a b d) O).ax.getD i []:=by
    rw [Zl3 hv ht hO i hi];exact List.mem_map.2 ⟨x,hx,rfl⟩
   have hq:=hall i hi _ hm;have:x.natAbs=(x/(mdG (cmpL s a b d) O 3:Int)).natAbs*mdG (cmpL s a b d) O 3:=by
    have:=congrArg Int.natAbs (Int.ediv_mul_cancel hdx);rw [Int.natAbs_mul,Int.natAbs_natCast]at this;exact this.symm
   rw [this];exact Nat.mul_dvd_mul_right hq _
  have hdiv:e*mdG (cmpL s a b d) O 3∣mdG (cmpL s a b d) O 3:=
   Qcq (Qcq (Qcq hk0 (hki 0 (by decide))) (hki 1 (by decide))) (hki 2 (by decide))
  have hle:=Nat.le_of_dvd hG hdiv;have he0:0<e:=by
   rcases Nat.eq_zero_or_pos e with h|h
   ·exfalso;rw [h]at hbase;have:=Nat.eq_zero_of_zero_dvd hbase;omega
   ·exact h
  have he2: ¬2≤e:=by
   intro h;have:=Nat.mul_le_mul_right (mdG (cmpL s a b d) O 3) h;omega
  omega
 unfold Qa1;rw [hrng,Bool.true_and,Bool.and_eq_true];refine⟨?_,by rw [beq_iff_eq];exact hgcd⟩;rw [List.all_eq_true];intro c hc;have h3:(Qdm f t (cmpL s a b d) O).ax=[(Qdm f t (cmpL s a b d) O).ax.getD 0 [],(Qdm f t (cmpL s a b d) O).ax.getD 1 [],(Qdm f t (cmpL s a b d) O).ax.getD 2 []]:=rfl;rw [h3]at hc;simp only [List.mem_cons,List.not_mem_nil,or_false]at hc;rcases hc with rfl|rfl|rfl
 ·exact hax 0 (by decide)
 ·exact hax 1 (by decide)
 ·exact hax 2 (by decide)
end
theorem Qrt:turnOK 1 (-1) 1:=⟨by decide,by decide,by decide,by decide,by decide,by decide⟩
def rvS (W:Int) (s:Sg):Sg:=Qdm (W-s.t) (W-s.f) (cmpL s 1 (-1) 1) s.o
theorem rv_O (s:Sg):s.o=s.o*1^5:=by rw [Int.one_pow,Int.mul_one]
theorem Zl4 {s:Sg} (hv:Qa1 s=true):Qi1 (cmpL s 1 (-1) 1) s.o=true:=by
 obtain⟨⟨v1,v2,v3,v4,v5⟩, -, -⟩:=Qav hv;refine decide_eq_true ?_;unfold mdO;exact Int.le_trans (Int.ediv_le_self _ (by omega)) v5
theorem Zcn {s:Sg} {W:Int} (hv:Qa1 s=true) (h1:s.t≤W) (h2:W≤3600000+s.f):Qa1 (rvS W s)=true:=by
 obtain⟨⟨v1,v2,v3, -, -⟩, -, -⟩:=Qav hv;exact Zcm hv Qrt (rv_O s) (by omega) (by omega) (by omega) (Zl4 hv)
theorem Zvy {c:List Int} {n:Nat} (hc:c.length=n+1):cq (cq c 1 (-1) 1) 1 (-1) 1=c:=by
 have h1:=Qi2 hc 1 (-1) 1;refine Qjw (by rw [Qi2 h1,hc]) fun x _=> ?_;rw [Qqc h1,Qqc hc,Int.one_pow,Int.one_mul,Int.one_mul];congr 1
 ·omega
theorem Zl5 {c:List Int} {n:Nat} (hc:c.length=n+1) (a b d k:Int):cq (c.map (· *k)) a b d=(cq c a b d).map (· *k):=by
 have hk:(c.map (· *k)).length=n+1:=by rw [List.length_map,hc]
 refine Qjw (by rw [Qi2 hk,List.length_map,Qi2 hc]) fun x _=> ?_;rw [Qqc hk,Qm0,Qm0,Qqc hc,Int.mul_left_comm]
theorem Zr8 {c:List Int} {n:Nat} (hc:c.length=n+1) {G:Int} (h: ∀x∈c,G∣x): ∀x∈cq c 1 (-1) 1,G∣x:=by
 have e:=Qzf h;have h1:(c.map (· /G)).length=n+1:=by rw [List.length_map,hc]
 rw [←e,Zl5 h1];intro x hx;obtain⟨y,_,rfl⟩:=List.mem_map.1 hx;exact Int.dvd_mul_left y G
theorem rv_G {s:Sg} (hv:Qa1 s=true):mdG (cmpL s 1 (-1) 1) s.o 3=1:=by
 obtain⟨⟨v1,v2,v3,v4,v5⟩, -,hg⟩:=Qav hv;have hd:=Q4s (O:=s.o) hv Qrt (rv_O s);have ho:=(Qsd (cmpL s 1 (-1) 1) s.o).1;have hp:=Qla (L:=cmpL s 1 (-1) 1) (show 0<s.o by omega) 3;generalize mdG (cmpL s 1 (-1) 1) s.o 3=G at*;have hall: ∀i,i<3→ ∀x∈s.ax.getD i [],G∣x.natAbs:=by
  intro i hi x hx;obtain⟨n,hn, -, -⟩:=Qqe hv i hi;have h2:=Zr8 (Qi2 hn 1 (-1) 1) (hd i hi);rw [Zvy hn]at h2;exact Int.natCast_dvd_natCast.1 (Int.dvd_natAbs.2 (h2 x hx))
 have h1:G∣s.ax.foldl gcdL s.o.natAbs:=by
  have e:s.ax.foldl gcdL s.o.natAbs=gcdL (gcdL (gcdL s.o.natAbs (s.ax.getD 0 [])) (s.ax.getD 1 [])) (s.ax.getD 2 []):=rfl;rw [e];exact Qcq (Qcq (Qcq (Int.natCast_dvd_natCast.1 (Int.dvd_natAbs.2 ho)) (hall 0 (by decide))) (hall 1 (by decide))) (hall 2 (by decide))
 rw [hg]at h1;exact Nat.eq_one_of_dvd_one h1
theorem Qwu (l:List Int):l.map (· /((1:Nat):Int))=l:=by
 conv=>rhs;rw [←List.map_id l]
 exact List.map_congr_left fun x _=>Int.ediv_one x
theorem Zvz {s:Sg} (hv:Qa1 s=true) (W:Int) (i:Nat) (hi:i<3):(rvS W s).ax.getD i []=cq (s.ax.getD i []) 1 (-1) 1:=by
 have h:=Zl3 (f:=W-s.t) (t:=W-s.f) (O:=s.o) hv Qrt (rv_O s) i hi;rw [rv_G hv,Qwu]at h;exact h
theorem Qnp {s:Sg} (hv:Qa1 s=true): ∀c∈s.ax,∀x∈c,x.natAbs≤1094374710063759360:=by
 obtain⟨⟨v1,v2,v3,v4,v5⟩,hax, -⟩:=Qav hv;intro c hc x hx;have h1:=Zk3 (hax c hc) (by omega);have h2:=Q5r hx;omega
theorem Zky {s:Sg} (hv:Qa1 s=true) (i:Nat) (hi:i<3): ∀x∈cmpL s 1 (-1) 1 i,(x/(mdG (cmpL s 1 (-1) 1) s.o 3:Int)).natAbs≤4611686018427387904:=by
 intro x hx;rw [rv_G hv];obtain⟨⟨v1,v2,v3,v4,v5⟩, -, -⟩:=Qav hv;have hv2:=Zcn (W:=s.t) hv (Int.le_refl _) (by omega);obtain⟨n,hn,hn5,hl⟩:=Qqe hv i hi;have e1:cmpL s 1 (-1) 1 i=Qas (cq (s.ax.getD i []) 1 (-1) 1):=Qze hn 1 (-1) 1 hn5 hl;rw [e1]at hx;have hx:=Qjx hx;rw [←Zvz hv s.t i hi]at hx;have:=Qnp hv2 _ (Qho _ i hi) x hx;have e:x/((1:Nat):Int)=x:=Int.ediv_one x;rw [e];omega
def dd:List Int→List Int
 | []=>[]
 | [a]=>[a]
 |a::b::L=>if a=b then dd (b::L)else a::dd (b::L)
def sc (p:List Sg):List (Sg×Int×Int)→Int→Int→Prop
 | [],u,v=>u=v
 |x::r,u,v=>x.1∈p∧x.2.1=u∧x.1.f≤x.2.1∧x.2.1<x.2.2∧x.2.2≤x.1.t∧sc p r x.2.2 v
theorem Qf9 {p:List Sg} (hV:Qa7 p=true) {s:Sg} (h:s∈p):Qa1 s=true:=by
 obtain⟨i,hi,rfl⟩:=List.getElem_of_mem h;exact Qdp hV i hi
section
variable {p:List Sg} (hV:Qa7 p=true) {S:List (Sg×Int×Int)} {u v:Int} (h:sc p S u v) (hf:S.all spF=true)
include hV h hf
end
section
variable {p:List Sg} (hV:Qa7 p=true)
include hV
end
section
variable {p:List Sg} (hV:Qa7 p=true) {T:List Int} (hT:T.Pairwise (· < ·)) (h0:pBeg p≤T.getD 0 0) (h1:T.getD (T.length-1) 0≤pEnd p)
include hV hT h0 h1
end
end Go.Dg

namespace Go.Proofs.YtlghoaggenhheaaGreat
open Go.Vl Go.RowKit Go.Dg
theorem Q14 {a:Int} {s:Sg} {l:List Int} (hv:Qa1 s=true) (hl:l∈s.ax) (ha: -16777216≤a∧a≤16777216):mvOK a s.o l∧ ∀x∈mvL (a*s.o) l,i64 x:=by
 obtain⟨⟨v1,v2,v3,v4,v5⟩,hax, -⟩:=Qav hv;obtain⟨l1,l6, -, -⟩:=Qca (hax l hl);have h1:(a*s.o).natAbs≤16777216*4294967296:=by rw [Int.natAbs_mul];exact Nat.mul_le_mul (by omega) (by omega)
 have hsm:=Qnp hv l hl;cases l with
 |nil=>simp at l1
 |cons x xs=>
  have hx:=hsm x (by simp);refine⟨?_,fun y hy=> ?_⟩
  ·exact⟨by simp,by omega,Qai (by omega) (by omega),by rw [List.getD_cons_zero];exact Qai (by omega) (by omega)⟩
  ·rw [Zdv]at hy;unfold i64;rcases List.mem_cons.1 hy with rfl|hy
   ·omega
   ·have:=hsm y (by simp [hy]);omega
theorem Quy {a b c:Int} (h:vOK a b c=true):(-16777216≤a∧a≤16777216)∧(-16777216≤b∧b≤16777216)∧(-16777216≤c∧c≤16777216):=of_decide_eq_true h
theorem Zlf {p:List Sg} {a b c:Int} (hV:Qa7 p=true) (h:vOK a b c=true): ∀s∈p,mvOK a s.o s.x∧mvOK b s.o s.y∧mvOK c s.o s.z:=by
 intro s hs;have hv:=Qf9 hV hs;obtain⟨h1,h2,h3⟩:=Quy h;exact⟨(Q14 hv (by simp [Sg.ax]) h1).1,(Q14 hv (by simp [Sg.ax]) h2).1,(Q14 hv (by simp [Sg.ax]) h3).1⟩
theorem Q6t {p:List Sg} {a b c:Int} (hV:Qa7 p=true) (hp: ∀s∈p,okSg s) (h:vOK a b c=true): ∀s∈p.map (mvS a b c),okSg s:=by
 intro s hs;obtain⟨s0,hs0,rfl⟩:=List.mem_map.1 hs;have hv:=Qf9 hV hs0;obtain⟨h1,h2,h3⟩:=Quy h;have o:=hp s0 hs0;have k1:=Q14 hv (l:=s0.x) (by simp [Sg.ax]) h1;have k2:=Q14 hv (l:=s0.y) (by simp [Sg.ax]) h2;have k3:=Q14 hv (l:=s0.z) (by simp [Sg.ax]) h3;refine⟨o.f,o.t,o.o,fun l hl=> ?_,fun l hl=> ?_⟩
 ·simp only [Sg.ax,mvS,List.mem_cons,List.not_mem_nil,or_false]at hl;rcases hl with rfl|rfl|rfl
  ·exact k1.2
  ·exact k2.2
  ·exact k3.2
 ·simp only [Sg.ax,mvS,List.mem_cons,List.not_mem_nil,or_false]at hl;have q1:=k1.1.le;have q2:=k2.1.le;have q3:=k3.1.le;rcases hl with rfl|rfl|rfl
  ·rw [Qle k1.1.n];exact q1
  ·rw [Qle k2.1.n];exact q2
  ·rw [Qle k3.1.n];exact q3
theorem Qxm {p:List Sg} (h: ∀s∈p,okSg s) (hl:p.length≤100000):lenP p:=⟨by omega,fun s hs c hc=>by have:=(h s hs).l c hc;omega⟩
theorem Znk (s:Sg) (W:Int) (h6: ∀c∈s.ax,c.length≤6): ∀c∈(revS W s).ax,c.length≤1000000000:=by
 have key: ∀i,i<3→(mdC (revL s) s.o i).length≤1000000000:=by
  intro i hi;have h:=Qxc (a:=1) (b:= -1) (d:=1) (h6 _ (Qho s i hi));have e:mdC (revL s) s.o i=mkC (mdG (revL s) s.o 3:Int) (cmpC (s.ax.getD i []) 1 (-1) 1):=rfl;rw [e,Zm5];split<;>omega
 intro c hc;have e:(revS W s).ax=[mdC (revL s) s.o 0,mdC (revL s) s.o 1,mdC (revL s) s.o 2]:=rfl;rw [e]at hc;simp only [List.mem_cons,List.not_mem_nil,or_false]at hc;rcases hc with rfl|rfl|rfl
 ·exact key 0 (by decide)
 ·exact key 1 (by decide)
 ·exact key 2 (by decide)
theorem Qz7 {p:List Sg} (hV:Qa7 p=true):lenP (revP p):=by
 have h2:=(Qbp hV).2.2;refine⟨by rw [revP,Qj2];omega,fun s hs c hc=> ?_⟩;obtain⟨j,hj,rfl⟩:=List.mem_map.1 hs;have hj:=List.mem_range.1 hj;have hi:p.length-1-j<p.length:=by omega
 rw [sgD hi]at hc;exact Znk _ _ (Qdf (Qf9 hV (List.getElem_mem hi))) c hc
theorem Q6u {p:List Sg} {b:Int} (h: ∀s∈p,okSg s) (hl:p.length≤100000):lenP (p.map (shS b)):=by
 refine⟨by simp;omega,fun s hs c hc=> ?_⟩;obtain⟨s0,hs0,rfl⟩:=List.mem_map.1 hs;have:=(h s0 hs0).l c hc;omega
theorem Q6v (a:Int):Qae Tryz.prog 21 [.int .i64 a] (.bool (decide (-16777216≤a∧a≤16777216))):=by
 by_cases h1: -16777216≤a
 ·have h1':=eq_true h1;by_cases h2:a≤16777216
  ·have h2':=eq_true h2;rw [decide_eq_true ⟨h1,h2⟩];refine Qab (tb:=[]) 9 [.tmp 2] [0,2] mixed Tryz.func21 rfl (by kernel_rfl) ?_;repeat simp -implicitDefEqProofs only [go_sem,seval,h1',h2',decide_true]
  ·have h2':=eq_false h2;rw [decide_eq_false (fun e=>h2 e.2)];refine Qab (tb:=[]) 9 [.tmp 2] [0,2] mixed Tryz.func21 rfl (by kernel_rfl) ?_;repeat simp -implicitDefEqProofs only [go_sem,seval,h1',h2',decide_true,decide_false]
 ·have h1':=eq_false h1;rw [decide_eq_false (fun e=>h1 e.1)];refine Qab (tb:=[]) 9 [.tmp 2] [0,2] mixed Tryz.func21 rfl (by kernel_rfl) ?_;repeat simp -implicitDefEqProofs only [go_sem,seval,h1',decide_false]
end Go.Proofs.YtlghoaggenhheaaGreat
