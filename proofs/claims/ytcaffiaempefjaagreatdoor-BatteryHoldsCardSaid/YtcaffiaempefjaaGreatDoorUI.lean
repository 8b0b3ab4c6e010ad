/-
  UF, UG, UH, UI (merged for the claim).
-/
import Derived.Test.YtcaffiaempefjaaGreatDoorUE
import Derived.Great.BuildSlice
set_option linter.unusedSimpArgs false
set_option linter.unusedVariables false
namespace Go.Vl
open Go.RowKit
def Qc6 (bx:Bx) (st:St):Prop:= ∀b,(bx b).map Box.soft=(st.box b).map Box.soft
theorem Qc6.get {bx:Bx} {st:St} (h:Qc6 bx st) {b:Nat} {B:Box} (hb:bx b=some B): ∃B',st.box b=some B'∧B'.soft=B.soft:=by
 have:=h b;rw [hb]at this;cases hs:st.box b with
 |none=>rw [hs]at this;cases this
 |some B'=>rw [hs]at this;exact⟨B',rfl,by simpa using this.symm⟩
theorem Qsi {B B':Box} (h:B'.soft=B.soft):B'.els=B.els∧B'.esz=B.esz∧B'.ety=B.ety∧B'.arr=B.arr:=by
 simp only [Box.soft,SB.mk.injEq]at h;exact h
theorem Q0a {st:St} {b n:Nat} {B:Box} (hB:st.box b=some B):(Eff.fro b n).on st=st.setBox b {B with fro:=max B.fro n,live:=B.live&&true}:=by simp [Eff.on,hB]
theorem Q3r {bx:Bx} {st:St} (h:Qc6 bx st) (b n:Nat):Qc6 bx ((Eff.fro b n).on st):=by
 intro b';rw [h b'];simp only [Eff.on];split
 ·rename_i B hB;simp only [St.setBox,upd];split
  ·rename_i e;subst e;rw [hB];rfl
  ·rfl
 ·rfl
theorem Zmx {st:St} (b n b':Nat) (h:st.box b'=none):((Eff.fro b n).on st).box b'=none:=by
 simp only [Eff.on];split
 ·rename_i B hB;simp only [St.setBox,upd];split
  ·rename_i e;subst e;rw [h]at hB;cases hB
  ·exact h
 ·exact h
theorem Qa6 (xs ys:List Eff) (st:St):Qao (xs++ys) st=Qao ys (Qao xs st):=by simp [Qao]
theorem Qc1 (st:St):Qao [] st=st:=rfl
theorem Qbc (e:Eff) (es:List Eff) (st:St):Qao (e::es) st=Qao es (e.on st):=rfl
structure Gone (C:Ctx) (st st':St) (a:Act) (w:World) (ρ:Rho) (im im':Im) (bx:Bx):Prop where
 rel:Rel' C st' a w ρ im'
 im: ∀g j,im g j→im' g j
 soft:Qc6 bx st'
 no: ∀b,st.box b=none→st'.box b=none
 var:st'.var=st.var
 out:st'.out=st.out
 yl:st'.yl=st.yl
theorem Gone.refl {C:Ctx} {st:St} {a:Act} {w:World} {ρ:Rho} {im:Im} {bx:Bx} (h:Rel' C st a w ρ im) (hs:Qc6 bx st):Gone C st st a w ρ im im bx:=
 ⟨h,fun _ _ x=>x,hs,fun _ x=>x,rfl,rfl,rfl⟩
theorem Gone.trans {C:Ctx} {st st' st'':St} {a:Act} {w:World} {ρ:Rho} {im im' im'':Im} {bx:Bx} (h:Gone C st st' a w ρ im im' bx) (k:Gone C st' st'' a w ρ im' im'' bx):
  Gone C st st'' a w ρ im im'' bx:=
 ⟨k.rel,fun g j x=>k.im g j (h.im g j x),k.soft,fun b x=>k.no b (h.no b x),k.var.trans h.var,k.out.trans h.out,k.yl.trans h.yl⟩
theorem Gone.fro {C:Ctx} {st:St} {a:Act} {w:World} {ρ:Rho} {im:Im} {bx:Bx} (h:Rel' C st a w ρ im) (hs:Qc6 bx st) {b:Nat} {x:Option Nat} {B:Box} {n:Nat}
  (hρ:ρ b=some x) (hB:st.box b=some B) (hn:n≤B.els.length):Gone C st ((Eff.fro b n).on st) a w ρ im (Quj im x (n*B.esz)) bx:=by
 have h1:=h.hold hρ hB hn true (.inl rfl);rw [←Q0a hB]at h1;exact⟨h1,fun _ _ y=> .inl y,Q3r hs b n,fun b'=>Zmx b n b',by rw [Q0a hB];rfl,by rw [Q0a hB];rfl,by rw [Q0a hB];rfl⟩
section
variable {C:Ctx} {a:Act} {w:World} {ρ:Rho} {bx:Bx}
theorem Qoi {st:St} {im:Im} {v:PV} {u:Value} (h:Rel' C st a w ρ im) (hs:Qc6 bx st) (hv:Rep w im v u):
  ∃im',Gone C st (Qao [] st) a w ρ im im' bx∧Rep w im' v u:=⟨im,Gone.refl h hs,hv⟩
theorem Zcz {st:St} {im:Im} (h:Rel' C st a w ρ im) {b esz off len:Nat} {u:Value} {B:Box} (hv:LR w im ρ (.bs b esz off len) u) (hB:st.box b=some B) (ha:B.arr=true) (he:B.esz=esz)
  (hn:off+len≤B.els.length): ∃x,ρ b=some x∧Rep w (Quj im x ((off+len)*B.esz)) (.slc ((B.els.drop off).take len)) u:=by
 rcases hv.bs_inv with⟨e,⟨x,rfl⟩,rfl,rfl⟩|⟨g,cap,cur,e,hg,rfl,ho,hc,hl,hm⟩
 ·refine⟨none,e,?_⟩;simp only [List.drop_zero,List.take_zero];cases x with
  |none=>exact .slcNil 0 (Nat.zero_le _)
  |some p=>exact .slc [] p.1 p.2 0 0 0 [] rfl (Nat.zero_le _) (by simp) (by simp) (by simp) .nil (Nat.le_refl _)
 ·refine⟨some g,hg,?_⟩;obtain⟨h1,h2,h3,h4,cur',us,rest,h5,h6,h7,h8,h9,h10,h11⟩:=h.box b _ B hg hB;rw [ho]at h5;cases h5;subst he;have hul:us.length=B.els.length*B.esz:=by rw [←h7.length,Qa1 h4]
  have hmul:off*B.esz+len*B.esz≤B.els.length*B.esz:=by rw [←Nat.add_mul];exact Nat.mul_le_mul_right _ hn
  have hsum:(off+len)*B.esz=off*B.esz+len*B.esz:=Nat.add_mul _ _ _;have hr:=((h8 ha).drop (off*B.esz)).take (len*B.esz);rw [Qgd off h4,Qff len (fun e he=>h4 e (List.mem_of_mem_drop he))]at hr;refine .slc _ g (off*B.esz) len cap B.esz _ (by simp;omega) (by omega) (fun e he=>h4 e (List.mem_of_mem_drop (List.mem_of_mem_take he))) ?_ ?_ (hr.mono (fun _ _ _=>rfl) fun _ _ y=> .inl y) hl
  ·intro j hj;exact .inr ⟨rfl,by simp at hj;omega⟩
  ·intro j hj;rw [cell_of_row _ _ _ _ _ _ ho,←Array.getElem?_toList,h6,List.getElem?_append_left (by simp at hj;omega)];simp only [List.getElem?_take,List.getElem?_drop];rw [if_pos (by simp at hj;omega)]
theorem Qmx {st:St} {im:Im} (h:Rel' C st a w ρ im) (hs:Qc6 bx st) {v y:PV} {u:Value} {es:List Eff} {l:Acc} (hv:LR w im ρ v u) (he:escS v bx=some ((y,es),l)):
  ∃im',Gone C st (Qao es st) a w ρ im im' bx∧Rep w im' y u:=by
 have plain: ∀v:PV,LR w im ρ v u→(match v with| .bp _ _ _ _| .bs _ _ _ _| .fn _ _ _| .undef| .agg _| .tup _=>False|_=>True)→Rep w im v u:=by
  intro v hv hh;cases hv<;>first|assumption|exact hh.elim
 unfold escS at he;split at he
 ·rename_i b esz off len;obtain⟨S,l1,l2,e1,e2,_⟩:=M.bind_some he;obtain⟨B0,hb0,rfl,_⟩:=M.soft_some e1;obtain⟨_,l3,l4,e3,e4,_⟩:=M.bind_some e2;obtain⟨hc,_⟩:=M.ok_some e3;obtain⟨e5,_⟩:=M.pure_some e4;cases e5;obtain⟨B,hB,hsoft⟩:=hs.get hb0;obtain⟨s1,s2,s3,s4⟩:=Qsi hsoft;simp only [Box.soft,Bool.and_eq_true,beq_iff_eq,decide_eq_true_eq]at hc;obtain⟨x,hx,hrep⟩:=Zcz h hv hB (by rw [s4];exact hc.1.1) (by rw [s2];exact hc.1.2) (by rw [s1];exact of_decide_eq_true hc.2);refine⟨_,Gone.fro h hs hx hB (by rw [s1];exact of_decide_eq_true hc.2),?_⟩;simpa [Box.soft,s1]using hrep
 ·obtain⟨e5,_⟩:=M.pure_some he;cases e5;have:=hv.nilS_inv;subst this;exact Qoi h hs (.slcNil 0 (Nat.zero_le _))
 ·obtain⟨e5,_⟩:=M.pure_some he;cases e5;obtain⟨p,q,rfl,hp,hq⟩:=hv.fn_inv;have e1:=hp.nil_inv;have e2:=hq.nil_inv;subst e1;subst e2;exact Qoi h hs (.fn _ [] [] [] [] .nil .nil)
 ·cases he
 ·cases he
 ·cases he
 ·cases he
 ·cases he
 ·rename_i n1 n2 n3 n4 n5 n6 n7 n8;obtain⟨e5,_⟩:=M.pure_some he;cases e5;refine Qoi h hs (plain _ hv ?_);cases v with
  |bp b e i o=>exact n5 _ _ _ _ rfl
  |bs b e i o=>exact n1 _ _ _ _ rfl
  |fn f x y=>exact n4 _ _ _ rfl
  |undef=>exact n6 rfl
  |tup x=>exact n7 _ rfl
  |agg x=>exact n8 _ rfl
  |_=>trivial
theorem Zc0: ∀{st:St} {im:Im} (_:Rel' C st a w ρ im) (_:Qc6 bx st) {vs ys:List PV} {us:List Value} {es:List Eff} {l:Acc} (_:LRL w im ρ vs us) (_:Zcs vs bx=some ((ys,es),l)),
  ∃im',Gone C st (Qao es st) a w ρ im im' bx∧RepL w im' ys us:=by
 intro st im h hs vs
 induction vs generalizing st im with
 |nil=>
  intro ys us es l hv he;obtain⟨e,_⟩:=M.pure_some he;cases e;cases hv.nil_inv;exact⟨im,Gone.refl h hs,.nil⟩
 |cons v vs ih=>
  intro ys us es l hv he;obtain⟨u,us',rfl,h1,h2⟩:=hv.cons_inv;obtain⟨⟨y,e1⟩,l1,l2,k1,k2,_⟩:=M.bind_some he;obtain⟨⟨ys',e2⟩,l3,l4,k3,k4,_⟩:=M.bind_some k2;obtain⟨k5,_⟩:=M.pure_some k4;cases k5;obtain⟨im1,g1,r1⟩:=Qmx h hs h1 k1;obtain⟨im2,g2,r2⟩:=ih g1.rel g1.soft (h2.mono (Keeps.refl _ _) g1.im fun _ _ x=>x) k3;refine⟨im2,by rw [Qa6];exact g1.trans g2,.cons _ _ _ _ (r1.mono (fun _ _ _=>rfl) g2.im) r2⟩
theorem Q3s {v y:PV} {es:List Eff} {l:Acc} (he:escS v bx=some ((y,es),l)):y.cells=[y]:=by
 unfold escS at he;split at he
 ·obtain⟨S,l1,l2,e1,e2,_⟩:=M.bind_some he;obtain⟨_,l3,l4,e3,e4,_⟩:=M.bind_some e2;obtain⟨e5,_⟩:=M.pure_some e4;cases e5;rfl
 ·obtain⟨e5,_⟩:=M.pure_some he;cases e5;rfl
 ·obtain⟨e5,_⟩:=M.pure_some he;cases e5;rfl
 ·cases he
 ·cases he
 ·cases he
 ·cases he
 ·cases he
 ·rename_i n1 n2 n3 n4 n5 n6 n7 n8;obtain⟨e5,_⟩:=M.pure_some he;cases e5;cases v with
  |agg x=>exact absurd rfl (n8 _)
  |_=>rfl
theorem Zmy {st:St} {im:Im} (h:Rel' C st a w ρ im) (hs:Qc6 bx st) {v y:PV} {us:List Value} {es:List Eff} {l:Acc} (hv:LRL w im ρ v.cells us) (he:escE v bx=some ((y,es),l)):
  ∃im',Gone C st (Qao es st) a w ρ im im' bx∧RepL w im' y.cells us:=by
 unfold escE at he;split at he
 ·rename_i cs;obtain⟨⟨ys,es'⟩,l1,l2,k1,k2,_⟩:=M.bind_some he;obtain⟨k3,_⟩:=M.pure_some k2;cases k3;obtain⟨im1,g1,r1⟩:=Zc0 h hs hv k1;exact⟨im1,g1,r1⟩
 ·rename_i hn;have hc:v.cells=[v]:=by
   cases v with
   |agg x=>exact absurd rfl (hn _)
   |_=>rfl
  rw [hc]at hv;obtain⟨u,us',rfl,h1,h2⟩:=hv.cons_inv;cases h2.nil_inv;obtain⟨im1,g1,r1⟩:=Qmx h hs h1 he;rw [Q3s he];exact⟨im1,g1,.cons _ _ _ _ r1 .nil⟩
theorem LRL.split {w:World} {im:Im} {ρ:Rho}: ∀{asx bs:List PV} {us:List Value},LRL w im ρ (asx++bs) us→ ∃u1 u2,us=u1++u2∧LRL w im ρ asx u1∧LRL w im ρ bs u2
 | [],_,us,h=>⟨[],us,rfl,.nil,h⟩
 |_::asx,_,_,h=>by
  obtain⟨u,us',rfl,h1,h2⟩:=h.cons_inv;obtain⟨u1,u2,rfl,h3,h4⟩:=LRL.split (asx:=asx) h2;exact⟨u::u1,u2,rfl,.cons _ _ _ _ h1 h3,h4⟩
theorem Zc1: ∀{st:St} {im:Im} (_:Rel' C st a w ρ im) (_:Qc6 bx st) {vs ys:List PV} {us:List Value} {es:List Eff} {l:Acc} (_:LRL w im ρ (vs.flatMap PV.cells) us) (_:Q3k vs bx=some ((ys,es),l)),
  ∃im',Gone C st (Qao es st) a w ρ im im' bx∧RepL w im' (ys.flatMap PV.cells) us∧ys.map (fun y=>y.cells.length)=vs.map (fun y=>y.cells.length):=by
 intro st im h hs vs
 induction vs generalizing st im with
 |nil=>
  intro ys us es l hv he;obtain⟨e,_⟩:=M.pure_some he;cases e;cases hv.nil_inv;exact⟨im,Gone.refl h hs,.nil,rfl⟩
 |cons v vs ih=>
  intro ys us es l hv he;rw [List.flatMap_cons]at hv;obtain⟨u1,u2,rfl,h1,h2⟩:=hv.split;obtain⟨⟨y,e1⟩,l1,l2,k1,k2,_⟩:=M.bind_some he;obtain⟨⟨ys',e2⟩,l3,l4,k3,k4,_⟩:=M.bind_some k2;obtain⟨k5,_⟩:=M.pure_some k4;cases k5;obtain⟨im1,g1,r1⟩:=Zmy h hs h1 k1;obtain⟨im2,g2,r2,r3⟩:=ih g1.rel g1.soft (h2.mono (Keeps.refl _ _) g1.im fun _ _ x=>x) k3;refine⟨im2,by rw [Qa6];exact g1.trans g2,?_,?_⟩
  ·rw [List.flatMap_cons];exact(r1.mono (fun _ _ _=>rfl) g2.im).append r2
  ·rw [List.map_cons,List.map_cons,r3,r1.length,h1.length]
theorem Qke {st:St} {im:Im} (h:Rel' C st a w ρ im) (hs:Qc6 bx st) {v y:PV} {u:Value} {es:List Eff} {l:Acc} (hv:LR w im ρ v u) (he:esc0 v bx=some ((y,es),l)):
  ∃im',Gone C st (Qao es st) a w ρ im im' bx∧Rep w im' y u:=by
 unfold esc0 at he;split at he
 ·rename_i b esz off len;obtain⟨S,l1,l2,e1,e2,_⟩:=M.bind_some he;obtain⟨B0,hb0,rfl,_⟩:=M.soft_some e1;split at e2
  ·exact Qmx h hs hv e2
  ·obtain⟨_,l3,l4,e3,e4,_⟩:=M.bind_some e2;obtain⟨hc,_⟩:=M.ok_some e3;obtain⟨⟨ys,es'⟩,l5,l6,e5,e6,_⟩:=M.bind_some e4;obtain⟨e7,_⟩:=M.pure_some e6;cases e7;obtain⟨B,hB,hsoft⟩:=hs.get hb0;obtain⟨s1,s2,s3,s4⟩:=Qsi hsoft;rw [Bool.and_eq_true]at hc;have hc:B.esz=esz∧off+len≤B.els.length:=⟨by rw [s2];exact beq_iff_eq.1 hc.1,by rw [s1];exact of_decide_eq_true hc.2⟩;have e5:Q3k ((B.els.drop off).take len) bx=some ((ys,es'),l5):=by rw [s1];exact e5
   rcases hv.bs_inv with⟨e,⟨x,rfl⟩,rfl,rfl⟩|⟨g,cap,cur,e,hg,rfl,ho,hcp,hl,hm⟩
   ·simp only [List.drop_zero,List.take_zero]at e5;obtain⟨k5,_⟩:=M.pure_some e5;cases k5;refine⟨_,Gone.fro h hs e hB (n:=0+0) (Nat.zero_le _),?_⟩;cases x with
    |none=>exact .slcNil 0 (Nat.zero_le _)
    |some p=>exact .slcE _ 0 (Nat.zero_le _)
   ·obtain⟨h1,h2,h3,h4,cur',us,rest,h5,h6,h7,h8,h9,h10,h11⟩:=h.box b _ B hg hB;rw [ho]at h5;cases h5;obtain⟨hc1,hc2⟩:=hc;subst hc1;have hul:us.length=B.els.length*B.esz:=by rw [←h7.length,Qa1 h4]
    have hmul:off*B.esz+len*B.esz≤B.els.length*B.esz:=by rw [←Nat.add_mul];exact Nat.mul_le_mul_right _ hc2
    have hsum:(off+len)*B.esz=off*B.esz+len*B.esz:=Nat.add_mul _ _ _;have hr:=(h7.drop (off*B.esz)).take (len*B.esz);rw [Qgd off h4,Qff len (fun e he=>h4 e (List.mem_of_mem_drop he))]at hr;obtain⟨im1,g1,r1,r2⟩:=Zc1 h hs hr e5;obtain⟨B1,hB1,hsoft1⟩:=g1.soft.get hb0;obtain⟨t1,t2,t3,t4⟩:=Qsi hsoft1;have q1:B1.els=B.els:=by rw [s1];exact t1
    have q2:B1.esz=B.esz:=by rw [s2];exact t2
    have g2:=Gone.fro g1.rel g1.soft hg hB1 (n:=off+len) (by rw [q1];exact hc2);have hyl:ys.length=len:=by
     have:=congrArg List.length r2;simp only [List.length_map,List.length_take,List.length_drop]at this;omega
    refine⟨_,by rw [Qa6];exact g1.trans (by simpa [Qao]using g2),?_⟩;have hyz: ∀e∈ys,e.cells.length=B.esz:=by
     intro e he;have:e.cells.length∈ys.map (fun y=>y.cells.length):=List.mem_map.2 ⟨e,he,rfl⟩;rw [r2]at this;obtain⟨d,hd,e2⟩:=List.mem_map.1 this;rw [←e2];exact h4 d (List.mem_of_mem_drop (List.mem_of_mem_take hd))
    refine .slc _ g (off*B.esz) len cap B.esz _ hyl (by omega) hyz ?_ ?_ (r1.mono (fun _ _ _=>rfl) fun _ _ y=> .inl y) hl
    ·intro j hj;exact .inr ⟨rfl,by simp at hj;rw [q2];omega⟩
    ·intro j hj;rw [cell_of_row _ _ _ _ _ _ ho,←Array.getElem?_toList,h6,List.getElem?_append_left (by simp at hj;omega)];simp only [List.getElem?_take,List.getElem?_drop];rw [if_pos (by simp at hj;omega)]
 ·exact Qmx h hs hv he
theorem Qsj: ∀{st:St} {im:Im} (_:Rel' C st a w ρ im) (_:Qc6 bx st) {vs ys:List PV} {us:List Value} {es:List Eff} {l:Acc} (_:LRL w im ρ vs us) (_:escL vs bx=some ((ys,es),l)),
  ∃im',Gone C st (Qao es st) a w ρ im im' bx∧RepL w im' ys us:=by
 intro st im h hs vs
 induction vs generalizing st im with
 |nil=>
  intro ys us es l hv he;obtain⟨e,_⟩:=M.pure_some he;cases e;cases hv.nil_inv;exact⟨im,Gone.refl h hs,.nil⟩
 |cons v vs ih=>
  intro ys us es l hv he;obtain⟨u,us',rfl,h1,h2⟩:=hv.cons_inv;obtain⟨⟨y,e1⟩,l1,l2,k1,k2,_⟩:=M.bind_some he;obtain⟨⟨ys',e2⟩,l3,l4,k3,k4,_⟩:=M.bind_some k2;obtain⟨k5,_⟩:=M.pure_some k4;cases k5;obtain⟨im1,g1,r1⟩:=Qke h hs h1 k1;obtain⟨im2,g2,r2⟩:=ih g1.rel g1.soft (h2.mono (Keeps.refl _ _) g1.im fun _ _ x=>x) k3;refine⟨im2,by rw [Qa6];exact g1.trans g2,.cons _ _ _ _ (r1.mono (fun _ _ _=>rfl) g2.im) r2⟩
theorem Qsk {st:St} {im:Im} (h:Rel' C st a w ρ im) (hs:Qc6 bx st) {v y:PV} {u:Value} {es:List Eff} {l:Acc} (hv:LR w im ρ v u) (he:escC v bx=some ((y,es),l)):
  ∃im',Gone C st (Qao es st) a w ρ im im' bx∧Rep w im' y u:=by
 unfold escC at he;split at he
 ·rename_i b esz i off;obtain⟨S,l1,l2,e1,e2,_⟩:=M.bind_some he;obtain⟨B0,hb0,rfl,_⟩:=M.soft_some e1;obtain⟨_,l3,l4,e3,e4,_⟩:=M.bind_some e2;obtain⟨hc,_⟩:=M.ok_some e3;obtain⟨e,l5,l6,e5,e6,_⟩:=M.bind_some e4;obtain⟨hel,_⟩:=M.ofOpt_some e5;obtain⟨⟨ys,es'⟩,l7,l8,e7,e8,_⟩:=M.bind_some e6;obtain⟨e9,_⟩:=M.pure_some e8;cases e9;obtain⟨B,hB,hsoft⟩:=hs.get hb0;obtain⟨s1,s2,s3,s4⟩:=Qsi hsoft;simp only [Box.soft,beq_iff_eq]at hc hel;rw [←s1]at hel;obtain⟨g,hg,rfl⟩:=hv.bp_inv;have hlt:i<B.els.length:=(List.getElem?_eq_some_iff.1 hel).1;obtain⟨hez,us,hr,_,hcell⟩:=h.seen hg hB hel;have g1:=Gone.fro h hs hg hB (n:=i+1) hlt;obtain⟨im2,g2,r2⟩:=Qsj g1.rel g1.soft ((hr.drop off).mono (Keeps.refl _ _) g1.im fun _ _ x=>x) e7;refine⟨im2,by rw [Qbc];exact g1.trans g2,.rp _ _ _ (us.drop off) ?_ ?_ r2⟩
  ·intro j hj;have hul:=hr.length;refine g2.im _ _ (.inr ⟨rfl,?_⟩);rw [←hc,←s2,Nat.succ_mul];simp at hj;omega
  ·intro j hj;have hul:=hr.length;simp at hj;have:=hcell (off+j) (by omega);rw [←hc,←s2,Nat.add_assoc,this,List.getElem?_drop]
 ·exact Qke h hs hv he
theorem Qhm: ∀{st:St} {im:Im} (_:Rel' C st a w ρ im) (_:Qc6 bx st) {vs ys:List PV} {us:List Value} {es:List Eff} {l:Acc} (_:LRL w im ρ vs us) (_:Qgg vs bx=some ((ys,es),l)),
  ∃im',Gone C st (Qao es st) a w ρ im im' bx∧RepL w im' ys us:=by
 intro st im h hs vs
 induction vs generalizing st im with
 |nil=>
  intro ys us es l hv he;obtain⟨e,_⟩:=M.pure_some he;cases e;cases hv.nil_inv;exact⟨im,Gone.refl h hs,.nil⟩
 |cons v vs ih=>
  intro ys us es l hv he;obtain⟨u,us',rfl,h1,h2⟩:=hv.cons_inv;obtain⟨⟨y,e1⟩,l1,l2,k1,k2,_⟩:=M.bind_some he;obtain⟨⟨ys',e2⟩,l3,l4,k3,k4,_⟩:=M.bind_some k2;obtain⟨k5,_⟩:=M.pure_some k4;cases k5;obtain⟨im1,g1,r1⟩:=Qsk h hs h1 k1;obtain⟨im2,g2,r2⟩:=ih g1.rel g1.soft (h2.mono (Keeps.refl _ _) g1.im fun _ _ x=>x) k3;refine⟨im2,by rw [Qa6];exact g1.trans g2,.cons _ _ _ _ (r1.mono (fun _ _ _=>rfl) g2.im) r2⟩
theorem Q0b {st:St} {im:Im} (h:Rel' C st a w ρ im) (hs:Qc6 bx st) {v y:PV} {u:Value} {es:List Eff} {l:Acc} (hv:LR w im ρ v u) (he:esc1 v bx=some ((y,es),l)):
  ∃im',Gone C st (Qao es st) a w ρ im im' bx∧Rep w im' y u:=by
 unfold esc1 at he;split at he
 ·obtain⟨⟨ys,es'⟩,l1,l2,k1,k2,_⟩:=M.bind_some he;obtain⟨k3,_⟩:=M.pure_some k2;cases k3;obtain⟨us,rfl,hr⟩:=hv.agg_inv;obtain⟨im1,g1,r1⟩:=Qsj h hs hr k1;exact⟨im1,g1,.agg _ _ r1⟩
 ·obtain⟨⟨ys,e1⟩,l1,l2,k1,k2,_⟩:=M.bind_some he;obtain⟨⟨ys',e2⟩,l3,l4,k3,k4,_⟩:=M.bind_some k2;obtain⟨k5,_⟩:=M.pure_some k4;cases k5;obtain⟨p,q,rfl,hp,hq⟩:=hv.fn_inv;obtain⟨im1,g1,r1⟩:=Qhm h hs hp k1;obtain⟨im2,g2,r2⟩:=Qhm g1.rel g1.soft (hq.mono (Keeps.refl _ _) g1.im fun _ _ x=>x) k3;exact⟨im2,by rw [Qa6];exact g1.trans g2,.fn _ _ _ _ _ (r1.mono (fun _ _ _=>rfl) g2.im) r2⟩
 ·exact Qsk h hs hv he
theorem Qkf: ∀{st:St} {im:Im} (_:Rel' C st a w ρ im) (_:Qc6 bx st) {vs ys:List PV} {us:List Value} {es:List Eff} {l:Acc} (_:LRL w im ρ vs us) (_:Qg0 vs bx=some ((ys,es),l)),
  ∃im',Gone C st (Qao es st) a w ρ im im' bx∧RepL w im' ys us:=by
 intro st im h hs vs
 induction vs generalizing st im with
 |nil=>
  intro ys us es l hv he;obtain⟨e,_⟩:=M.pure_some he;cases e;cases hv.nil_inv;exact⟨im,Gone.refl h hs,.nil⟩
 |cons v vs ih=>
  intro ys us es l hv he;obtain⟨u,us',rfl,h1,h2⟩:=hv.cons_inv;obtain⟨⟨y,e1⟩,l1,l2,k1,k2,_⟩:=M.bind_some he;obtain⟨⟨ys',e2⟩,l3,l4,k3,k4,_⟩:=M.bind_some k2;obtain⟨k5,_⟩:=M.pure_some k4;cases k5;obtain⟨im1,g1,r1⟩:=Q0b h hs h1 k1;obtain⟨im2,g2,r2⟩:=ih g1.rel g1.soft (h2.mono (Keeps.refl _ _) g1.im fun _ _ x=>x) k3;refine⟨im2,by rw [Qa6];exact g1.trans g2,.cons _ _ _ _ (r1.mono (fun _ _ _=>rfl) g2.im) r2⟩
end
def Does (C:Ctx) (st':St) (a:Act) (w:World) (s:Sem Next) (v:PV):Prop:=
 ∃u w' ρ' im',(s.run C.P w= .ok (.value u) w'∨(s.run C.P w= .ok .skip w'∧u=undef))∧Rel' C st' a w' ρ' im'∧LR w' im' ρ' v u
section
variable {C:Ctx} {st:St} {a:Act} {w:World} {ρ:Rho} {im:Im} {o:Oper}
theorem Qbl {v:PV} (h:Rel' C st a w ρ im) (hc:Calm C.P w im ρ a o v):Does C (Qao [] st) a w (execOp a.eval o) v:=by
 obtain⟨u,h1,h2⟩:=hc;exact⟨u,w,ρ,im,.inl h1,h,h2⟩
theorem LR.cells {v:PV} {u:Value} (h:LR w im ρ v u) (ho:Qbn v.cells=true):LRL w im ρ v.cells u.cells.toList:=by
 have one:v.cells=[v]→LRL w im ρ v.cells u.cells.toList:=by
  intro hv;rw [hv]at ho ⊢;have hu:=h.oneCell (by simpa [Qbn]using ho);have:u.cells= #[u]:=by cases u<;>first|rfl|simp [Value.oneCell']at hu
  rw [this];exact .cons _ _ _ _ h .nil
 cases v with
 |agg cs=>obtain⟨vs,rfl,hr⟩:=h.agg_inv;simpa [PV.cells,Value.cells]using hr
 |_=>exact one rfl
theorem Rep.cells {v:PV} {u:Value} (h:Rep w im v u) (ho:Qbn v.cells=true):RepL w im v.cells u.cells.toList:=by
 have one:v.cells=[v]→RepL w im v.cells u.cells.toList:=by
  intro hv;rw [hv]at ho ⊢;have hu:=(LR.ext (ρ:=fun _=>none) _ _ h).oneCell (by simpa [Qbn]using ho);have:u.cells= #[u]:=by cases u<;>first|rfl|simp [Value.oneCell']at hu
  rw [this];exact .cons _ _ _ _ h .nil
 cases v with
 |agg cs=>cases h with|agg _ vs hr=>simpa [PV.cells,Value.cells]using hr
 |_=>exact one rfl
theorem Qoj {id:Nat} (hidL:id<LENT) {T:TypeId} {v r:PV} {u:Value} {es:List Eff} {l:Acc} {s:Sem Next} (h:Rel' C st a w ρ im) (hv:LR w im ρ v u) (he:newVar id T v st.box=some (.done r es,l))
  (hs:s.run C.P w= .ok (.value (.pointer (some ⟨w.heap.size,0,none⟩))) (w.alloc (.cells u.cells T))):Does C (Qao es st) a w s r:=by
 unfold newVar at he;obtain⟨n,l1,l2,e1,e2,_⟩:=M.bind_some he;obtain⟨rfl,_⟩:=M.hard_some e1;obtain⟨_,l3,l4,e3,e4,_⟩:=M.bind_some e2;obtain⟨hc,_⟩:=M.ok_some e3;obtain⟨e5,_⟩:=M.pure_some e4;cases e5;simp only [Bool.and_eq_true,decide_eq_true_eq,Option.isNone_iff_eq_none]at hc;have hcells:=hv.cells hc.1.2;obtain⟨h1,h2,h3⟩:=h.newBox hidL hc.1.1 {els:=[v],esz:=v.cells.length,ety:=T,fro:=0,live:=true,arr:=false} u.cells.toList [] rfl hc.2 (by simp) rfl (by simpa using hcells) (by simp)
  (hcells.oneCells hc.1.2)
 refine⟨_,_,_,_,.inl hs,by simpa [Qao,Eff.on]using h1,?_⟩;exact .bp id _ 0 0 w.heap.size 0 (Qaw _ _ _) (by simp)
theorem Zmz {id:Nat} (hidL:id<LENT) {T:TypeId} {x:Operand} {v r:PV} {es:List Eff} {l:Acc} (ho:o.op= .box T x) (h:Rel' C st a w ρ im) (hv:LR w im ρ v (a.eval x)) (he:newVar id T v st.box=some (.done r es,l)):
  Does C (Qao es st) a w (execOp a.eval o) r:=
 Qoj hidL h hv he (by simp [execOp,ho,Instr.box,newVar,newRow,Go.newVar])
theorem Qdk {P:Program} {T:TypeId} {z:PV} (h:Qa8 P T=some z): ∃i zv,P.info? T=some i∧i.zero=some zv∧Qgz zv=some z:=by
 unfold Qa8 at h;split at h
 ·rename_i i hi;split at h
  ·rename_i zv hz;exact⟨i,zv,hi,hz,h⟩
  ·cases h
 ·cases h
theorem Qit {P:Program} {T:TypeId} {i:TypeInfo} {z:Value} (hi:P.info? T=some i) (hz:i.zero=some z):(zeroValue T).run P w= .ok z w:=by simp [zeroValue,typeInfo,hi,hz]
theorem Q3t {id:Nat} (hidL:id<LENT) {T:TypeId} {z r:PV} {es:List Eff} {l:Acc} (ho:o.op= .alloc T) (h:Rel' C st a w ρ im) (hz:Qa8 C.P T=some z) (he:newVar id T z st.box=some (.done r es,l)):
  Does C (Qao es st) a w (execOp a.eval o) r:=by
 obtain⟨i,zv,h1,h2,h3⟩:=Qdk hz;exact Qoj hidL h (.ext _ _ (Qdj h3)) he (by simp [execOp,ho,Instr.alloc,Qit h1 h2,newRow,Go.newVar])
theorem Q0c {place:Nat→Option (Nat×Nat)}: ∀{ps:List (Nat×PV)} {us:List (Nat×Value)} {cs ds:List PV} {cells:Array Value},LRL w im ρ cs cells.toList→ps.map (·.1)=us.map (·.1)→
  LRL w im ρ (ps.map (·.2)) (us.map (·.2))→Qlm place cs ps=some ds→ ∃r,Instr.fill place cells us=some r∧LRL w im ρ ds r.toList
 | [],us,cs,ds,cells,hr,hm,_,he=>by
  have:us=[]:=by simpa using hm.symm
  subst this;simp [Qlm]at he;subst he;exact⟨cells,rfl,hr⟩
 |(i,v)::ps,us,cs,ds,cells,hr,hm,hv,he=>by
  cases us with
  |nil=>simp at hm
  |cons p us=>
   obtain⟨i',u⟩:=p;simp only [List.map_cons,List.cons.injEq]at hm;obtain⟨rfl,hm⟩:=hm;obtain⟨u0,us0,hcons,hv1,hv2⟩:=hv.cons_inv;simp only [List.map_cons,List.cons.injEq]at hcons;obtain⟨rfl,rfl⟩:=hcons;unfold Qlm at he;split at he
   ·cases he
   ·rename_i off size hp;split at he
    ·rename_i hc;obtain⟨hc1,hc2,hc3⟩:=hc;have hcells:=hv1.cells hc3;have hul:u.cells.size=size:=by rw [←hc1,hcells.length];simp
     have hcl:cells.size=cs.length:=by rw [hr.length];simp
     obtain⟨g1,g2⟩:=Great.foldl_set off u.cells.toList 0 cells;have hfold:(u.cells.zipIdx.foldl (fun cs (x:Value×Nat)=>cs.setIfInBounds (off+x.2) x.1) cells)=(cells.toList.take off++u.cells.toList++cells.toList.drop (off+size)).toArray:=by
      rw [←Array.foldl_toList,Array.toList_zipIdx];apply Array.ext_getElem?;intro k;rw [g2 k];simp only [Nat.add_zero,Array.length_toList,hul,List.getElem?_toArray];by_cases x:off≤k∧k<off+size∧k<cells.size
      ·rw [if_pos x,List.getElem?_append_left (by simp;omega),List.getElem?_append_right (by simp;omega)];congr 1;simp;omega
      ·rw [if_neg x];have:=Qge cells.toList u.cells.toList off k (by simp;omega) (by simp;omega);simp only [Array.length_toList,hul]at this;rw [this,Array.getElem?_toList]
     have hr':LRL w im ρ (cs.take off++v.cells++cs.drop (off+size)) (cells.toList.take off++u.cells.toList++cells.toList.drop (off+size)).toArray.toList:=by
      simpa using ((hr.take off).append hcells).append (hr.drop (off+size))
     obtain⟨r,h1,h2⟩:=Q0c hr' hm hv2 he;refine⟨r,?_,h2⟩;unfold Instr.fill;simp only [hp];rw [if_neg (by simp;omega),hfold];exact h1
    ·cases he
theorem Qok {P:Program}: ∀(fs:List Field),(∀f∈fs,(P.info? f.type).isSome=true)→ ∃places,fs.mapM (fun f:Field=>(P.info? f.type).map fun i=>(f.offset,i.size))=some places∧
  ∀i:Nat,places[i]? =match fs[i]? with|some f=>(match P.info? f.type with|some j=>some (f.offset,j.size)|none=>none)|none=>none
 | [],_=>⟨[],rfl,fun i=>by simp⟩
 |f::fs,h=>by
  obtain⟨ps,h1,h2⟩:=Qok fs (fun x hx=>h x (by simp [hx]));obtain⟨j,hj⟩:=Option.isSome_iff_exists.1 (h f (by simp));refine⟨(f.offset,j.size)::ps,by simp [List.mapM_cons,hj,h1],fun i=> ?_⟩;cases i with
  |zero=>simp [hj]
  |succ i=>simpa using h2 i
theorem Qqg {p q:Nat→Option (Nat×Nat)} (h: ∀i,p i=q i): ∀(us:List (Nat×Value)) (cells:Array Value),Instr.fill p cells us=Instr.fill q cells us:=by
 have:p=q:=funext h;subst this;exact fun _ _=>rfl
theorem Qup {P:Program} {T:TypeId} {z:PV} {zv:Value} (h3:Qgz zv=some z):LRL w im ρ z.cells zv.cells.toList:=by
 have hr:=Qdj (w:=w) (im:=im) h3;have hcc: ∀zv z,Qgz zv=some z→z.cells=[]∨Qbn z.cells=true∨z= .tup []:=by
  intro zv z hh;unfold Qgz at hh;split at hh
  ·rename_i cs0;cases e:Qcp cs0.toList with
   |none=>rw [e]at hh;cases hh
   |some xs=>
    rw [e]at hh;cases hh;right;left;have: ∀(vs:List Value) (xs:List PV),Qcp vs=some xs→Qbn xs=true:=by
     intro vs
     induction vs with
     |nil=>intro xs hx;simp [Qcp]at hx;subst hx;rfl
     |cons v vs ih=>
      intro xs hx;unfold Qcp at hx;split at hx
      ·rename_i x ys e1 e2;cases hx;have hxo:x.okCell=true:=by
        unfold Qfh at e1;split at e1<;>first|(cases e1;rfl)|(split at e1<;>cases e1;rfl)|cases e1
       simp only [Qbn,List.all_cons,hxo,Bool.true_and];exact ih _ e2
      ·cases hx
    exact this _ _ e
  ·split at hh
   ·cases hh;right;right;rfl
   ·cases hh
  ·right;left;unfold Qfh at hh;split at hh<;>first|(cases hh;rfl)|(split at hh<;>cases hh;rfl)|cases hh
 rcases hcc zv z h3 with e|e|e
 ·cases z<;>simp [PV.cells]at e;subst e;cases hr with|agg _ vs hr=>cases hr;simp [PV.cells,Value.cells];exact .nil
 ·exact(LR.ext _ _ hr).cells e
 ·subst e;cases hr with|tup _ vs hr=>cases hr;simp [PV.cells,Value.cells];exact .cons _ _ _ _ (.ext _ _ (.tup [] [] .nil)) .nil
theorem Qqh: ∀us:List Value,LRL w im ρ (List.replicate us.length .undef) us
 | []=> .nil
 |u::us=> .cons _ _ _ _ (.undef u) (Qqh us)
theorem Q3u {P:Program} {T:TypeId} {z:PV} (h:Qqb P T=some z): ∃i zv,P.info? T=some i∧i.zero=some zv∧LRL w im ρ z.cells zv.cells.toList:=by
 unfold Qqb at h;split at h
 ·rename_i z' hz;cases h;obtain⟨i,zv,h1,h2,h3⟩:=Qdk hz;exact⟨i,zv,h1,h2,Qup (P:=P) (T:=T) h3⟩
 ·unfold Zcr at h;split at h
  ·rename_i i hi;split at h
   ·rename_i cs hz;cases h;refine⟨i,_,hi,hz,?_⟩;have:=Qqh (w:=w) (im:=im) (ρ:=ρ) cs.toList;simpa [PV.cells,Value.cells]using this
   ·cases h
  ·cases h
theorem Q3v {T:TypeId} {parts:Array (Nat×Operand)} {vs cs:List PV} {z:PV} (ho:o.op= .build T parts) (h:Rel' C st a w ρ im)
  (hv:LRL w im ρ vs (o.op.operands.toList.map a.eval)) (hb:buildable C.P T=true) (hz:Qqb C.P T=some z)
  (hf:Qlm (Qad C.P T) z.cells ((parts.toList.map (·.1)).zip vs)=some cs):Does C (Qao [] st) a w (execOp a.eval o) (.agg cs):=by
 obtain⟨i,zv,h1,h2,hzr⟩:=Q3u (w:=w) (im:=im) (ρ:=ρ) hz;rw [ho]at hv;simp only [Op.operands,List.map_map]at hv;have hvl:=hv.length;simp at hvl;have hzip1:((parts.toList.map (·.1)).zip vs).map (·.1)=(parts.toList.map fun p=>(p.1,a.eval p.2)).map (·.1):=by
  rw [List.map_fst_zip (by simp;omega)];simp
 have hzip2:LRL w im ρ (((parts.toList.map (·.1)).zip vs).map (·.2)) ((parts.toList.map fun p=>(p.1,a.eval p.2)).map (·.2)):=by
  rw [List.map_snd_zip (by simp;omega)];simpa [Function.comp_def]using hv
 obtain⟨r,hr1,hr2⟩:=Q0c (place:=Qad C.P T) hzr hzip1 hzip2 hf;have hbuilt:C.P.built T (parts.map fun(i,x)=>(i,a.eval x)).toList=some r:=by
  unfold buildable at hb;unfold Program.built;split at hb
  ·rename_i fs hfs;obtain⟨places,hp1,hp2⟩:=Qok (P:=C.P) fs.toList (by
    intro f hf';simp only [Array.all_eq_true']at hb;exact hb f (by simpa using hf'))
   simp only [h1,hfs,h2,hp1];rw [Qqg (q:=Qad C.P T) (fun i=> ?_)]
   ·simpa using hr1
   ·simp only [List.getElem?_toArray,hp2 i,Qad,hfs,Array.getElem?_toList];cases fs[i]? with
    |none=>rfl
    |some f=>cases C.P.info? f.type<;>rfl
  ·rename_i n e hfs;obtain⟨j,hj⟩:=Option.isSome_iff_exists.1 hb;simp only [h1,hfs,h2,hj];rw [Qqg (q:=Qad C.P T) (fun i=> ?_)]
   ·simpa using hr1
   ·simp only [Qad,hfs,hj]
  ·cases hb
 refine⟨.agg r,w,ρ,im,.inl ?_,h,?_⟩
 ·have:=run_build (P:=C.P) w T (parts.map fun(i,x)=>(i,a.eval x)) r hbuilt;simp [execOp,ho,this]
 ·have:r=r.toList.toArray:=by simp
  rw [this];exact .agg _ _ hr2
theorem Quq {T:TypeId} {x:Operand} {b esz i off:Nat} {B:Box} {e v:PV} (ho:o.op= .load T x) (h:Rel' C st a w ρ im) (hx:LR w im ρ (.bp b esz i off) (a.eval x))
  (hB:st.box b=some B) (hz:B.esz=esz) (he:B.els[i]? =some e) (hv:Qdw C.P T e.cells off=some v):Does C (Qao [] st) a w (execOp a.eval o) v:=by
 obtain⟨g,hg,ex⟩:=hx.bp_inv;obtain⟨hez,us,hr,_,hc⟩:=h.seen hg hB he;have hul:=hr.length;obtain⟨u,h1,h2⟩:=Qmw (P:=C.P) (g:=g) (p:=i*B.esz) hr (fun j hj=>hc j (by omega)) hv;refine⟨u,w,ρ,im,.inl ?_,h,h2⟩;rw [hz]at h1;simp [execOp,ho,ex,Instr.loadAt,Instr.sureAddr,h1]
theorem Qur {T:TypeId} {x:Operand} {cs:List PV} {v:PV} (ho:o.op= .load T x) (h:Rel' C st a w ρ im) (hx:LR w im ρ (.rp cs) (a.eval x))
  (hv:Qdw C.P T cs 0=some v):Does C (Qao [] st) a w (execOp a.eval o) v:=by
 have hr:=hx.rp_inv;generalize hu:a.eval x=u0 at*;cases hr with
 |rp _ g off vs hi hc hr=>
  obtain⟨u,h1,h2⟩:=Qmw (P:=C.P) (w:=w) (g:=g) (p:=off) (off:=0) (ρ:=ρ) hr.toLRL (fun j hj=>hc j hj) hv;refine⟨u,w,ρ,im,.inl ?_,h,h2⟩;rw [Nat.add_zero]at h1;simp [execOp,ho,hu,Instr.loadAt,Instr.sureAddr,h1]
end
section
variable {C:Ctx} {st:St} {a:Act} {w:World} {ρ:Rho} {im:Im} {o:Oper}

theorem RepL.flat_cells {w:World} {im:Im}: ∀{vs:List PV} {us:List Value},RepL w im vs us→(∀e∈vs,Qbn e.cells=true)→RepL w im (vs.flatMap PV.cells) (us.flatMap fun u=>u.cells.toList)
  |_,_,.nil,_=> .nil
  |_,_,.cons v u vs us h t,ho=>by
    simp only [List.flatMap_cons];exact(h.cells (ho v (by simp))).append (t.flat_cells fun e he=>ho e (by simp [he]))

theorem Qeo {vs:List PV} (ho: ∀e∈vs,Qbn e.cells=true):(vs.flatMap PV.cells).all PV.okCell=true:=by
  simp only [List.all_eq_true,List.mem_flatMap];rintro x ⟨e,he,hx⟩;exact List.all_eq_true.1 (ho e he) x hx

theorem Qhn {P:Program} {w:World} {T E:TypeId} {i:TypeInfo} (ps:Array (Nat×Value)) (hT:P.underlying T=some (.slice E)) (hi:P.info? E=some i) (hp:ps.toList=[]):
    (Instr.buildSlice T 0 ps).run P w= .ok (.slice (some ⟨w.heap.size,0,none⟩) 0 0) (w.alloc (.cells #[] E)):=by
  have h0:Array.map (fun(_:Nat)=>(default:Value)) (Array.range 0)= #[]:=by apply Array.ext';simp
  simp [Instr.buildSlice,run_underlying hT,sizeOf,typeInfo,hi,newRow,Instr.fill,hp,h0]
theorem Qol {tb:Tab} {id n:Nat} (hidL:id<LENT) {T:TypeId} {parts:Array (Nat×Operand)} {vs:List PV} {r:PV} {es:List Eff} {l:Acc} (ho:o.op= .buildSlice T n parts) (h:Rel' C st a w ρ im)
    (hv:LRL w im ρ vs (o.op.operands.toList.map a.eval)) (hl:lkp tb id=none) (he:Qbb C.P tb id o.op vs st.box=some (.done r es,l)):Does C (Qao es st) a w (execOp a.eval o) r:=by
  rw [ho]at he hv;simp only [Qbb,hl]at he;obtain⟨_,_,_,e1,e2,_⟩:=M.bind_some he;obtain⟨c1,_⟩:=M.ok_some e1;obtain⟨E,_,_,e3,e4,_⟩:=M.bind_some e2;obtain⟨c2,_⟩:=M.ofOpt_some e3;obtain⟨q,_,_,e5,e6,_⟩:=M.bind_some e4;obtain⟨c3,_⟩:=M.ofOpt_some e5;obtain⟨z,_,_,e7,e8,_⟩:=M.bind_some e6;obtain⟨c4,_⟩:=M.ofOpt_some e7;obtain⟨b,_,_,e9,e10,_⟩:=M.bind_some e8;obtain⟨rfl,_⟩:=M.hard_some e9;obtain⟨⟨ys,fs⟩,_,_,e11,e12,_⟩:=M.bind_some e10;obtain⟨_,_,_,e13,e14,_⟩:=M.bind_some e12;obtain⟨c5,_⟩:=M.ok_some e13;obtain⟨e15,_⟩:=M.pure_some e14;cases e15;simp only [Bool.and_eq_true,decide_eq_true_eq,beq_iff_eq,List.all_eq_true,Option.isNone_iff_eq_none]at c1 c5;obtain⟨⟨⟨⟨⟨d1,d2⟩,d3⟩,d4⟩,d5⟩,d6⟩:=c5;obtain⟨c11,c13⟩:=c1;obtain⟨i,hi,hi1,hi2⟩:=Qbz c3;obtain⟨i',zv,hz1,hz2,hz3⟩:=Qdk c4;rw [hi]at hz1;cases hz1;have hT:=Qcg c2;simp only [Op.operands,List.map_map]at hv;obtain⟨im1,g1,r1⟩:=Qkf h (fun _=>rfl) hv e11;have hus:=r1.length;rw [d3]at hus;have hrl:=r1.flat_cells fun e he=>(d4 e he).2;generalize husg:parts.toList.map (a.eval∘fun x=>x.2)=us at*;have hsize: ∀u∈us,u.cells.size=q.1:=by
    have key: ∀(vs:List PV) (us:List Value),RepL w im1 vs us→(∀e∈vs,e.cells.length=q.1∧Qbn e.cells=true)→ ∀u∈us,u.cells.size=q.1:=by
      intro vs
      induction vs with
      |nil=>intro us hr _ u hu;cases hr;simp at hu
      |cons v vs ih=>
        intro us hr ho u hu;cases hr with
        |cons _ u0 _ us0 h0 t=>
          rcases List.mem_cons.1 hu with rfl|hu
          · have:=(h0.cells (ho v (by simp)).2).length;rw [(ho v (by simp)).1]at this;simpa using this.symm
          · exact ih _ t (fun e he=>ho e (by simp [he])) u hu
    exact key ys us r1 d4
  have hparts:(parts.map fun(i,x)=>(i,a.eval x)).toList=(us.zipIdx 0).map fun x=>(x.2,x.1):=by
    rw [←husg];apply List.ext_getElem?;intro k;simp only [Array.toList_map,List.getElem?_map,List.zipIdx_map,List.getElem?_zipIdx,Array.getElem?_toList];have hk:(parts.toList.map (·.1))[k]? =(List.range n)[k]? :=by rw [c11]
    simp only [List.getElem?_map,Array.getElem?_toList]at hk;cases hp:parts[k]? with
    |none=>simp
    |some p=>
      rw [hp]at hk;simp only [Option.map_some]at hk;have hkn:k<n:=by
        rcases Nat.lt_or_ge k n with x|x
        · exact x
        · rw [List.getElem?_eq_none (by simpa using x)]at hk;cases hk
      rw [List.getElem?_range hkn]at hk;cases hk;simp
  have hfill:=Great.fill_whole (s:=q.1) (by omega) us ((Array.range (n*i.size)).map (zv.cells[· %zv.cells.size]!)) hsize (by simp;rw [hi1,←hus]);have hnq:n*q.1≤1000*1000:=Nat.mul_le_mul c13 d6;have hrun:(Instr.buildSlice T n (parts.map fun(i,x)=>(i,a.eval x))).run C.P w= .ok (.slice (some ⟨w.heap.size,0,none⟩) n n) (w.alloc (.cells (us.flatMap fun v=>v.cells.toList).toArray E)):=by
    clear e2 e4 e6 e8 e10 e12 e14 he hv hsize husg;rcases Nat.eq_zero_or_pos n with h0|c12
    · subst h0;obtain rfl:us=[]:=List.length_eq_zero_iff.1 (by omega);exact Qhn _ hT hi (by rw [hparts];rfl)
    · have hnp:0<n*q.1:=Nat.mul_pos c12 d5;have:=run_buildSlice (P:=C.P) w T E n (parts.map fun(i,x)=>(i,a.eval x)) _ i zv hT hi hz2 (by rw [hi1];omega) (by rw [hi1];omega) (by rw [hparts,hi1];rw [hi1]at hfill;exact hfill);exact this
  have hok:=Qeo fun e he=>(d4 e he).2;obtain⟨h1,h2,h3⟩:=g1.rel.newBox hidL (g1.no id d1) {els:=ys,esz:=q.1,ety:=E,fro:=0,live:=true,arr:=true} (us.flatMap fun u=>u.cells.toList) [] rfl d5 (fun e he=>(d4 e he).1) rfl
    hrl.toLRL (fun _=>hrl) (hrl.toLRL (ρ:=ρ) |>.oneCells hok)
  have hul:=hrl.length;rw [Qa1 (fun e he=>(d4 e he).1),d3]at hul;refine⟨.slice (some ⟨w.heap.size,0,none⟩) n n,w.alloc (.cells (us.flatMap fun v=>v.cells.toList).toArray E),upd ρ id (some (some w.heap.size)),im1,.inl ?_,?_,?_⟩
  · simp [execOp,ho,hrun]
  · rw [Qa6];simpa [Qao,Eff.on]using h1
  · exact .bs id q.1 0 n w.heap.size 0 n _ E (Qaw _ _ _) (heap_alloc_new w _) (by simp) (by simp [←hul]) (Nat.le_refl _) (by simp only [maxLen];omega)

theorem LRL.flat_cellsL {w:World} {im:Im} {ρ:Rho}: ∀{vs:List PV} {us:List Value},LRL w im ρ vs us→(∀e∈vs,Qbn e.cells=true)→LRL w im ρ (vs.flatMap PV.cells) (us.flatMap fun u=>u.cells.toList)
  |_,_,.nil,_=> .nil
  |_,_,.cons v u vs us h t,ho=>by
    simp only [List.flatMap_cons];exact(h.cells (ho v (by simp))).append (t.flat_cellsL fun e he=>ho e (by simp [he]))
theorem Qxr {id n:Nat} (hidL:id<LENT) {T:TypeId} {parts:Array (Nat×Operand)} {vs:List PV} {r:PV} {es:List Eff} {l:Acc} (ho:o.op= .buildSlice T n parts) (h:Rel' C st a w ρ im)
    (hv:LRL w im ρ vs (o.op.operands.toList.map a.eval)) (he:Qj8 C.P id T n parts vs st.box=some (.done r es,l)):Does C (Qao es st) a w (execOp a.eval o) r:=by
  rw [ho]at hv;unfold Qj8 at he;obtain⟨_,_,_,e1,e2,_⟩:=M.bind_some he;obtain⟨c1,_⟩:=M.ok_some e1;obtain⟨E,_,_,e3,e4,_⟩:=M.bind_some e2;obtain⟨c2,_⟩:=M.ofOpt_some e3;obtain⟨q,_,_,e5,e6,_⟩:=M.bind_some e4;obtain⟨c3,_⟩:=M.ofOpt_some e5;obtain⟨z,_,_,e7,e8,_⟩:=M.bind_some e6;obtain⟨c4,_⟩:=M.ofOpt_some e7;obtain⟨b,_,_,e9,e10,_⟩:=M.bind_some e8;obtain⟨rfl,_⟩:=M.hard_some e9;obtain⟨_,_,_,e13,e14,_⟩:=M.bind_some e10;obtain⟨c5,_⟩:=M.ok_some e13;obtain⟨e15,_⟩:=M.pure_some e14;cases e15;simp only [Bool.and_eq_true,decide_eq_true_eq,beq_iff_eq,List.all_eq_true,Option.isNone_iff_eq_none]at c1 c5;obtain⟨⟨⟨⟨⟨d1,d2⟩,d3⟩,d4⟩,d5⟩,d6⟩:=c5;obtain⟨c11,c13⟩:=c1;obtain⟨i,hi,hi1,hi2⟩:=Qbz c3;obtain⟨i',zv,hz1,hz2,hz3⟩:=Qdk c4;rw [hi]at hz1;cases hz1;have hT:=Qcg c2;simp only [Op.operands,List.map_map]at hv;have r1:=hv;have hus:=r1.length;rw [d3]at hus;have hrl:=r1.flat_cellsL fun e he=>(d4 e he).2;generalize husg:parts.toList.map (a.eval∘fun x=>x.2)=us at*;have hsize: ∀u∈us,u.cells.size=q.1:=by
    have key: ∀(vs:List PV) (us:List Value),LRL w im ρ vs us→(∀e∈vs,e.cells.length=q.1∧Qbn e.cells=true)→ ∀u∈us,u.cells.size=q.1:=by
      intro vs
      induction vs with
      |nil=>intro us hr _ u hu;cases hr;simp at hu
      |cons v vs ih=>
        intro us hr ho u hu;cases hr with
        |cons _ u0 _ us0 h0 t=>
          rcases List.mem_cons.1 hu with rfl|hu
          · have:=(h0.cells (ho v (by simp)).2).length;rw [(ho v (by simp)).1]at this;simpa using this.symm
          · exact ih _ t (fun e he=>ho e (by simp [he])) u hu
    exact key vs us r1 d4
  have hparts:(parts.map fun(i,x)=>(i,a.eval x)).toList=(us.zipIdx 0).map fun x=>(x.2,x.1):=by
    rw [←husg];apply List.ext_getElem?;intro k;simp only [Array.toList_map,List.getElem?_map,List.zipIdx_map,List.getElem?_zipIdx,Array.getElem?_toList];have hk:(parts.toList.map (·.1))[k]? =(List.range n)[k]? :=by rw [c11]
    simp only [List.getElem?_map,Array.getElem?_toList]at hk;cases hp:parts[k]? with
    |none=>simp
    |some p=>
      rw [hp]at hk;simp only [Option.map_some]at hk;have hkn:k<n:=by
        rcases Nat.lt_or_ge k n with x|x
        · exact x
        · rw [List.getElem?_eq_none (by simpa using x)]at hk;cases hk
      rw [List.getElem?_range hkn]at hk;cases hk;simp
  have hfill:=Great.fill_whole (s:=q.1) (by omega) us ((Array.range (n*i.size)).map (zv.cells[· %zv.cells.size]!)) hsize (by simp;rw [hi1,←hus]);have hnq:n*q.1≤1000*1000:=Nat.mul_le_mul c13 d6;have hrun:(Instr.buildSlice T n (parts.map fun(i,x)=>(i,a.eval x))).run C.P w= .ok (.slice (some ⟨w.heap.size,0,none⟩) n n) (w.alloc (.cells (us.flatMap fun v=>v.cells.toList).toArray E)):=by
    clear e2 e4 e6 e8 e10 e14 he hv hsize husg;rcases Nat.eq_zero_or_pos n with h0|c12
    · subst h0;obtain rfl:us=[]:=List.length_eq_zero_iff.1 (by omega);exact Qhn _ hT hi (by rw [hparts];rfl)
    · have hnp:0<n*q.1:=Nat.mul_pos c12 d5;have:=run_buildSlice (P:=C.P) w T E n (parts.map fun(i,x)=>(i,a.eval x)) _ i zv hT hi hz2 (by rw [hi1];omega) (by rw [hi1];omega) (by rw [hparts,hi1];rw [hi1]at hfill;exact hfill);exact this
  have hok:=Qeo fun e he=>(d4 e he).2;obtain⟨h1,h2,h3⟩:=h.newBox hidL d1 {els:=vs,esz:=q.1,ety:=E,fro:=0,live:=true,arr:=false} (us.flatMap fun u=>u.cells.toList) [] rfl d5 (fun e he=>(d4 e he).1) rfl
    hrl (fun e=>by cases e) (hrl.oneCells hok)
  have hul:=hrl.length;rw [Qa1 (fun e he=>(d4 e he).1),d3]at hul;refine⟨.slice (some ⟨w.heap.size,0,none⟩) n n,w.alloc (.cells (us.flatMap fun v=>v.cells.toList).toArray E),upd ρ id (some (some w.heap.size)),im,.inl ?_,?_,?_⟩
  · simp [execOp,ho,hrun]
  · simpa [Qao,Eff.on]using h1
  · exact .bs id q.1 0 n w.heap.size 0 n _ E (Qaw _ _ _) (heap_alloc_new w _) (by simp) (by simp [←hul]) (Nat.le_refl _) (by simp only [maxLen];omega)

theorem Qlp {P:Program} {T:TypeId} {i:TypeInfo} {g p:Nat} {u:Value} {cur:Array Value} {t:TypeId} {w:World} (hi:P.info? T=some i) (hn:u.cells.size=i.size) (hg:w.heap[g]? =some (Obj.cells cur t (0,0)))
    (hl:p+u.cells.size≤cur.size) (h1: ∀v∈u.cells.toList,v.oneCell'=true):
    (storeVar T ⟨g,p,none⟩ u).run P w= .ok () (w.setRow g (cur.toList.take p++u.cells.toList++cur.toList.drop (p+u.cells.toList.length)).toArray):=by
  have:=run_storeCells_at P g p t u.cells.toList 0 cur w hg (by simpa using hl) h1;simp only [Nat.add_zero]at this;simp [storeVar,Qbg hi,hn,this]

/-- Elements of a box overwritten,in the world. -/
theorem Rel'.over {C:Ctx} {st:St} {a:Act} {w:World} {ρ:Rho} {im:Im} (h:Rel' C st a w ρ im) {b g off:Nat} {B:Box} {xs:List PV} {us':List Value}
    (hρ:ρ b=some (some g)) (hB:st.box b=some B) (hl:B.live=true) (hf:B.fro≤off) (hlen:off+xs.length≤B.els.length) (hxz: ∀e∈xs,e.cells.length=B.esz)
    (hok:(xs.flatMap PV.cells).all PV.okCell=true) (hr:RepL w im (xs.flatMap PV.cells) us'):
    ∃(cur:Array Value),w.heap[g]? =some (Obj.cells cur B.ety (0,0))∧off*B.esz+us'.length≤cur.size∧
      Rel' C (st.setBox b (B.over off xs)) a (w.setRow g (cur.toList.take (off*B.esz)++us'++cur.toList.drop (off*B.esz+us'.length)).toArray) ρ im:=by
  obtain⟨h1,h2,h3,h4,cur,us,rest,h5,h6,h7,h8,h9,h10,h11⟩:=h.box b _ B hρ hB;have hul:us.length=B.els.length*B.esz:=by rw [←h7.length,Qa1 h4]
  have hvl:us'.length=xs.length*B.esz:=by rw [←hr.length,Qa1 hxz]
  have hmul:off*B.esz+xs.length*B.esz≤B.els.length*B.esz:=by rw [←Nat.add_mul];exact Nat.mul_le_mul_right _ hlen
  have hpu:off*B.esz+us'.length≤us.length:=by omega
  have hcs:cur.size=us.length+rest.length:=by rw [←Array.length_toList,h6];simp
  have hfi:B.fro*B.esz≤off*B.esz:=Nat.mul_le_mul_right _ hf;refine⟨cur,h5,by omega,?_⟩;have hsz:(cur.toList.take (off*B.esz)++us'++cur.toList.drop (off*B.esz+us'.length)).toArray.size=cur.size:=by simp;omega
  have hni: ∀j,B.fro*B.esz≤j→ ¬im g j:=h11 hl;have hk:Keeps im w (w.setRow g (cur.toList.take (off*B.esz)++us'++cur.toList.drop (off*B.esz+us'.length)).toArray):=by
    refine Keeps.setRow h5 hsz ?_;intro j hj;have:j<B.fro*B.esz:=by
      rcases Nat.lt_or_ge j (B.fro*B.esz)with x|x
      · exact x
      · exact absurd hj (hni j x)
    rw [List.getElem?_toArray,Qge _ _ _ _ (by simp;omega) (.inl (by omega)),Array.getElem?_toList]
  have hg':=setRow_heap w g cur (cur.toList.take (off*B.esz)++us'++cur.toList.drop (off*B.esz+us'.length)).toArray B.ety _ h5;have hflat:(B.over off xs).els.flatMap PV.cells=(B.els.flatMap PV.cells).take (off*B.esz)++xs.flatMap PV.cells++(B.els.flatMap PV.cells).drop (off*B.esz+us'.length):=by
    simp only [Box.over,List.flatMap_append];rw [hvl,Qff off h4,←Nat.add_mul,Qgd (off+xs.length) h4]
  have hurest:(cur.toList.take (off*B.esz)++us'++cur.toList.drop (off*B.esz+us'.length))=(us.take (off*B.esz)++us'++us.drop (off*B.esz+us'.length))++rest:=by
    rw [h6,List.take_append_of_le_length (by omega),List.drop_append_of_le_length (by omega)];simp
  have hell:(B.over off xs).els.length=B.els.length:=by simp [Box.over];omega
  refine⟨h.step ⟨Lent.setRow ⟨b,hρ⟩ _ _,hk,fun _ x=> .inl x,fun _ _ x=>x,fun _ _ x=> .inl x⟩ h.root.rho0,h.nt,Qj6 hk h.dfr,?_,?_,?_,?_,?_⟩
  · intro g' j x;rw [hk.cell g' j x];exact h.imc g' j x
  · exact fun t v hv=>(h.var t v hv).mono hk (fun _ _ x=>x) (fun _ _ x=>x)
  · intro b';by_cases x:b'=b
    · subst x;simp [St.setBox,Qaw,hρ]
    · simp [St.setBox,Qar _ _ _ _ x,h.rho b']
  · intro b' x B' hx hB';by_cases eb:b'=b
    · subst eb;simp only [St.setBox,Qaw,Option.some.injEq]at hB';rw [hρ]at hx;cases hx;subst hB';refine⟨h1,by rw [hell];exact h2,h3,?_,_,us.take (off*B.esz)++us'++us.drop (off*B.esz+us'.length),rest,hg',?_,?_,?_,?_,?_,?_⟩
      · intro e' he';simp only [Box.over,List.mem_append]at he';rcases he' with(x|x)|x
        · exact h4 e' (List.mem_of_mem_take x)
        · exact hxz e' x
        · exact h4 e' (List.mem_of_mem_drop x)
      · simpa using hurest
      · rw [hflat];exact(((h7.take _).append hr.toLRL).append (h7.drop _)).mono hk (fun _ _ x=>x) (fun _ _ x=>x)
      · intro ha';rw [hflat];exact((((h8 ha').take _).append hr).append ((h8 ha').drop _)).mono hk.cell (fun _ _ x=>x)
      · intro u hu;simp only [List.mem_append]at hu;rcases hu with(hu|hu)|hu
        · exact h9 u (List.mem_of_mem_take hu)
        · exact(hr.toLRL (ρ:=ρ)).oneCells hok u hu
        · exact h9 u (List.mem_of_mem_drop hu)
      · intro j hj hh;refine h10 j ?_ hh;simp at hj;omega
      · exact fun _ j hj=>hni j hj
    · simp only [St.setBox,Qar _ _ _ _ eb]at hB';refine(h.box b' x B' hx hB').mono hk (fun _ _ x=>x) (fun _ _ _ _ x=>x) (fun _ _ x=>x) ?_;intro hl' g' e';subst e';have:g'≠g:=fun e=>eb (h.inj b' b g' B' B hx (by rw [e];exact hρ) hB' hB hl' hl);exact Qcr w g g' _ this
  · intro b1 b2 g1 B1 B2 p1 p2 e1 e2 l1 l2;have f: ∀b0 B0,(st.setBox b (B.over off xs)).box b0=some B0→B0.live=true→ ∃B3,st.box b0=some B3∧B3.live=true:=by
      intro b0 B0 e0 l0;by_cases x:b0=b
      · subst x;exact⟨B,hB,hl⟩
      · simp only [St.setBox,Qar _ _ _ _ x]at e0;exact⟨B0,e0,l0⟩
    obtain⟨B3,e3,l3⟩:=f b1 B1 e1 l1;obtain⟨B4,e4,l4⟩:=f b2 B2 e2 l2;exact h.inj b1 b2 g1 B3 B4 p1 p2 e3 e4 l3 l4

theorem Q0d {v:PV} (h:flatc v=true):v.okCell=true:=by cases v<;>first|rfl|(simp [flatc]at h)
theorem Qxs {w:World} {im im2:Im} {v:PV} {u:Value} (hf:flatc v=true) (h:Rep w im v u):Rep w im2 v u:=by
  cases v<;>first
    |(simp [flatc]at hf;done)
    |(cases h<;>constructor)
theorem Qlq {w:World} {im im2:Im}: ∀{vs:List PV} {us:List Value},vs.all flatc=true→RepL w im vs us→RepL w im2 vs us
  | [],_,_,.nil=> .nil
  |v::vs,_,hf,.cons _ u _ us h t=>by
    simp only [List.all_cons,Bool.and_eq_true]at hf;exact .cons _ _ _ _ (Qxs hf.1 h) (Qlq hf.2 t)

theorem Zyt {st:St} {b i:Nat} {e:PV} {B:Box} (hB:st.box b=some B):(Eff.wr b i e).on st=st.setBox b {B with els:=B.els.set i e}:=by simp [Eff.on,hB]

theorem Qkg (e:Eff) (st:St) {b:Nat} (h:e.id≠b):(e.on st).box b=st.box b:=by
  cases e<;>simp only [Eff.id]at h<;>simp only [Eff.on]<;>first
    |rfl
    |(simp only [St.setBox];exact Qar _ _ _ _ fun x=>h x.symm)
    |(split
      · simp only [St.setBox];exact Qar _ _ _ _ fun x=>h x.symm
      · rfl)
theorem Qdl: ∀(es:List Eff) (st:St) {b:Nat},(∀e∈es,e.id≠b)→(Qao es st).box b=st.box b
  | [],_,_,_=>rfl
  |e::es,st,b,h=>by
    rw [Qbc,Qdl es _ fun x hx=>h x (by simp [hx])];exact Qkg e st (h e (by simp))

theorem Q3w {tb:Tab} {id:Nat} {T:TypeId} {x y:Operand} {b esz i off:Nat} {v r:PV} {es:List Eff} {l:Acc} (ho:o.op= .store T x y) (h:Rel' C st a w ρ im)
    (hx:LR w im ρ (.bp b esz i off) (a.eval x)) (hy:LR w im ρ v (a.eval y)) (he:Qbb C.P tb id o.op [.bp b esz i off,v] st.box=some (.done r es,l)):Does C (Qao es st) a w (execOp a.eval o) r:=by
  rw [ho]at he;simp only [Qbb]at he;obtain⟨Bo,_,_,e1,e2,_⟩:=M.bind_some he;obtain⟨rfl,_⟩:=M.hard_some e1;obtain⟨B,_,_,e3,e4,_⟩:=M.bind_some e2;obtain⟨hB,_⟩:=M.ofOpt_some e3;obtain⟨e,_,_,e5,e6,_⟩:=M.bind_some e4;obtain⟨hel,_⟩:=M.ofOpt_some e5;obtain⟨_,_,_,e7,e8,_⟩:=M.bind_some e6;obtain⟨c,_⟩:=M.ok_some e7;simp only [Bool.and_eq_true,decide_eq_true_eq,beq_iff_eq]at c;obtain⟨⟨⟨⟨⟨⟨c0,c1⟩,c2⟩,c3⟩,c4⟩,c5⟩,c6⟩:=c;subst c0;obtain⟨ti,hti⟩:=Option.isSome_iff_exists.1 c3;rw [Qhk hti]at c4;obtain⟨g,hg,ex⟩:=hx.bp_inv;have hcells:=hy.cells c5;have hul:(a.eval y).cells.size=v.cells.length:=by rw [hcells.length];simp
  split at e8
  · rename_i harr;obtain⟨⟨ys,fs⟩,_,_,e9,e10,_⟩:=M.bind_some e8;obtain⟨_,_,_,e11,e12,_⟩:=M.bind_some e10;obtain⟨c7,_⟩:=M.ok_some e11;obtain⟨e13,_⟩:=M.pure_some e12;cases e13;obtain⟨im1,g1,r1⟩:=Qsj h (fun _=>rfl) hcells e9;have hyl:=r1.length;simp only [Bool.and_eq_true,List.all_eq_true,bne_iff_ne]at c7;have hB':(Qao fs st).box b=some B:=by rw [Qdl _ _ c7.2];exact hB
    obtain⟨cur,k1,k2,k3⟩:=g1.rel.write (vs:=ys) hg hB' c1 c2 hel (by rw [hyl,←hcells.length];exact c6) c7.1 r1.toLRL (fun _=>r1);have hrun:=Qlp (P:=C.P) (T:=T) (u:=a.eval y) hti (by omega) k1 (by simpa using k2) (hcells.oneCells c5);refine⟨undef,w.setRow g (cur.toList.take (i*B.esz+off)++(a.eval y).cells.toList++cur.toList.drop (i*B.esz+off+(a.eval y).cells.toList.length)).toArray,ρ,im1,.inr ⟨?_,rfl⟩,?_,?_⟩
    · simp [execOp,ho,ex,Instr.storeAt,Instr.sureAddr,hrun]
    · rw [Qa6];simpa [Qbc,Qc1,Zyt hB']using k3
    · exact .ext _ _ (.tup [] [] .nil)
  · rename_i harr;obtain⟨e13,_⟩:=M.pure_some e8;cases e13;obtain⟨cur,k1,k2,k3⟩:=h.write hg hB c1 c2 hel c6 c5 hcells (by intro x;exact absurd x harr);have hrun:=Qlp (P:=C.P) (T:=T) (u:=a.eval y) hti (by omega) k1 (by simpa using k2) (hcells.oneCells c5);refine⟨undef,w.setRow g (cur.toList.take (i*B.esz+off)++(a.eval y).cells.toList++cur.toList.drop (i*B.esz+off+(a.eval y).cells.toList.length)).toArray,ρ,im,.inr ⟨?_,rfl⟩,?_,?_⟩
    · simp [execOp,ho,ex,Instr.storeAt,Instr.sureAddr,hrun]
    · simpa [Qao,Zyt hB]using k3
    · exact .ext _ _ (.tup [] [] .nil)

theorem Qo7 {tb:Tab} {id:Nat} (hidL:id<LENT) {T:TypeId} {x y:Operand} {k1 k2:IntKind} {n c:Int} {r:PV} {es:List Eff} {l:Acc} (ho:o.op= .makeSlice T x y) (h:Rel' C st a w ρ im)
    (hx:LR w im ρ (.int k1 n) (a.eval x)) (hy:LR w im ρ (.int k2 c) (a.eval y)) (he:Qbb C.P tb id o.op [.int k1 n,.int k2 c] st.box=some (.done r es,l)):Does C (Qao es st) a w (execOp a.eval o) r:=by
  rw [ho]at he;simp only [Qbb]at he;obtain⟨E,_,_,e1,e2,_⟩:=M.bind_some he;obtain⟨c1,_⟩:=M.ofOpt_some e1;obtain⟨q,_,_,e3,e4,_⟩:=M.bind_some e2;obtain⟨c2,_⟩:=M.ofOpt_some e3;obtain⟨z,_,_,e5,e6,_⟩:=M.bind_some e4;obtain⟨c3,_⟩:=M.ofOpt_some e5;obtain⟨b,_,_,e7,e8,_⟩:=M.bind_some e6;obtain⟨rfl,_⟩:=M.hard_some e7;obtain⟨_,_,_,e9,e10,_⟩:=M.bind_some e8;obtain⟨c4,_⟩:=M.ok_some e9;obtain⟨e11,_⟩:=M.pure_some e10;cases e11;simp only [Bool.and_eq_true,decide_eq_true_eq,beq_iff_eq,Option.isNone_iff_eq_none]at c4;obtain⟨⟨⟨⟨⟨⟨⟨d1,d2⟩,d3⟩,d4⟩,d5⟩,d6⟩,d7⟩,d8⟩:=c4;obtain⟨i,hi,hi1,hi2⟩:=Qbz c2;obtain⟨i',zv,hz1,hz2,hz3⟩:=Qdk c3;rw [hi]at hz1;cases hz1;have hrun:=run_make (P:=C.P) w T E i zv (Qcg c1) hi hz2 k1 k2 n c d5 d6 (by rw [hi2];exact d7) d8;have hrep:=(Qdj (w:=w) (im:=im) hz3).cells d3;have hzl:=hrep.length;rw [d2]at hzl;have hzs:zv.cells.size=q.1:=by simpa using hzl.symm
  -- the made cells are the zero's, over and over
  have hmade: ∀m,(madeCells zv.cells (m*q.1)).toList=(List.replicate m zv.cells.toList).flatten:=by
    intro m;apply List.ext_getElem?;intro k;have hget: ∀m k,(List.replicate m zv.cells.toList).flatten[k]? =if k<m*q.1 then zv.cells[k%q.1]? else none:=by
      intro m
      induction m with
      |zero=>intro k;simp
      |succ m ih=>
        intro k;rw [List.replicate_succ,List.flatten_cons];by_cases hk:k<q.1
        · rw [List.getElem?_append_left (by simp;omega),if_pos (by rw [Nat.succ_mul];omega),Nat.mod_eq_of_lt hk,Array.getElem?_toList]
        · rw [List.getElem?_append_right (by simp;omega)];simp only [Array.length_toList,hzs];rw [ih,Nat.succ_mul];have:(k-q.1)%q.1=k%q.1:=by
            conv=>rhs;rw [←Nat.sub_add_cancel (Nat.le_of_not_lt hk),Nat.add_mod_right]
          rw [this];by_cases hk2:k-q.1<m*q.1
          · rw [if_pos hk2,if_pos (by omega)]
          · rw [if_neg hk2,if_neg (by omega)]
    rw [hget];simp only [madeCells,Array.toList_map,List.getElem?_map,Array.getElem?_toList,Array.getElem?_range];by_cases hk:k<m*q.1
    · have hlt:k%q.1<zv.cells.size:=by rw [hzs];exact Nat.mod_lt _ d4
      simp [hk,hzs];rw [hzs]at hlt;simp [hzs,hlt]
    · simp [hk]
  have hsplit:(madeCells zv.cells (c.toNat*i.size))=((List.replicate n.toNat zv.cells.toList).flatten++(List.replicate (c.toNat-n.toNat) zv.cells.toList).flatten).toArray:=by
    apply Array.ext';rw [hi1,hmade];have:c.toNat=n.toNat+(c.toNat-n.toNat):=by omega
    rw [←List.flatten_append,List.replicate_append_replicate,←this]
  have hrepl: ∀m,RepL w im ((List.replicate m z).flatMap PV.cells) (List.replicate m zv.cells.toList).flatten:=by
    intro m
    induction m with
    |zero=>exact .nil
    |succ m ih=>
      rw [List.replicate_succ,List.replicate_succ,List.flatMap_cons,List.flatten_cons];exact hrep.append ih
  have hez: ∀e∈List.replicate n.toNat z,e.cells.length=q.1:=fun e he=>by rw [List.eq_of_mem_replicate he];exact d2
  have hok:=Qeo (vs:=List.replicate n.toNat z) fun e he=>by rw [List.eq_of_mem_replicate he];exact d3
  obtain⟨h1,h2,h3⟩:=h.newBox hidL d1 {els:=List.replicate n.toNat z,esz:=q.1,ety:=E,fro:=0,live:=true,arr:=true} (List.replicate n.toNat zv.cells.toList).flatten (List.replicate (c.toNat-n.toNat) zv.cells.toList).flatten rfl d4 hez rfl
    (hrepl _).toLRL (fun _=>hrepl _) ((hrepl n.toNat).toLRL (ρ:=ρ) |>.oneCells hok)
  rw [hsplit]at hrun;have hfl: ∀m,(List.replicate m zv.cells.toList).flatten.length=m*q.1:=by
    intro m;rw [←(hrepl m).length,Qa1 (esz:=q.1)]
    · simp
    · intro e he;rw [List.eq_of_mem_replicate he];exact d2
  refine⟨_,_,_,im,.inl (by simp [execOp,ho,hx.int_inv,hy.int_inv,hrun];exact⟨rfl,rfl⟩),by simpa [Qao,Eff.on]using h1,?_⟩;have hmul:c.toNat*q.1=n.toNat*q.1+(c.toNat-n.toNat)*q.1:=by rw [←Nat.add_mul];congr 1;omega
  refine .bs id q.1 0 n.toNat w.heap.size 0 c.toNat _ E (Qaw _ _ _) (heap_alloc_new w _) (by simp) ?_ (by omega) (by simp only [maxLen];omega);have e1:=hfl n.toNat;have e2:=hfl (c.toNat-n.toNat);simp only [List.size_toArray,List.length_append,e1,e2];omega

end
def Q0e (x:Option PV) (u:Option Value):Prop:=(x=none∧u=none)∨ ∃k i,x=some (.int k i)∧u=some (.int k i)
section
variable {C:Ctx} {st:St} {a:Act} {w:World} {ρ:Rho} {im:Im} {o:Oper} {P:Program}
theorem Qdb {len cap:Nat} (hcap:len≤cap) {lo hi:Option PV} {vl vh:Option Value} (hl:Q0e lo vl) (hh:Q0e hi vh) {r:Nat×Nat} (h:Qc9 len lo hi=some r) (s:Bool):
  (Instr.sliceBounds s len cap vl vh none).run P w= .ok (r.1,r.2,cap) w∧r.1≤r.2∧r.2≤len:=by
 rcases hh with⟨rfl,rfl⟩|⟨k,i,rfl,rfl⟩<;>rcases hl with⟨rfl,rfl⟩|⟨k',j,rfl,rfl⟩<;>simp only [Qc9]at h<;>split at h<;>cases h
 ·rename_i hc;refine⟨by simp [Instr.sliceBounds],by simp,by simp⟩
 ·rename_i hc;refine⟨?_,by simp;omega,by simp⟩;have:j≤(len:Int):=by omega
  simp [Instr.sliceBounds,Instr.sliceBound,asIntOf,hc.1,this]
 ·rename_i hc;refine⟨?_,by simp,by simp;omega⟩;have h1:0≤i:=by omega
  have:i≤(cap:Int):=by omega
  simp [Instr.sliceBounds,Instr.sliceBound,asIntOf,h1,this]
 ·rename_i hc;refine⟨?_,by simp;omega,by simp;omega⟩;have h1:0≤i:=by omega
  have h2:i≤(cap:Int):=by omega
  have h3:j≤((i.toNat:Nat):Int):=by omega
  have h4:j≤max i 0:=by omega
  simp [Instr.sliceBounds,Instr.sliceBound,asIntOf,h1,h2,hc.1,h3,h4]
theorem Qbo {T:TypeId} {d:TypeDesc} (hd:P.underlying T=some d) (hn: ∀n e,d≠ .array n e) (x:Value) (lo hi mx:Option Value):
  (Instr.sliceAt T x lo hi mx).run P w=(Instr.slice T x lo hi mx).run P w:=by
 cases d<;>first|exact absurd rfl (hn _ _)|simp [Instr.sliceAt,run_underlying hd]
theorem Qlr {w:World} {im:Im} {A:Option Addr} {c:Nat} (hm:c≤maxLen):Rep w im (.slc []) (.slice A 0 c):=by
 cases A with
 |none=>exact .slcNil c hm
 |some p=>exact .slcE p c hm
theorem Qib {T:TypeId} {x:Operand} {v r:PV} {lo hi:Option PV} {vl vh:Option Value} {s:Sem Next} {es:List Eff} {l:Acc} (h:Rel' C st a w ρ im) (hx:LR w im ρ v (a.eval x))
  (hl:Q0e lo vl) (hh:Q0e hi vh) (hs: ∀u,(Instr.sliceAt T (a.eval x) vl vh none).run C.P w= .ok u w→s.run C.P w= .ok (.value u) w) (he:Qc2 C.P T v lo hi st.box=some (.done r es,l)):
  Does C (Qao es st) a w s r:=by
 unfold Qc2 at he;split at he
 ·-- a string
  rename_i str;obtain⟨_,_,_,e1,e2,_⟩:=M.bind_some he;obtain⟨c1,_⟩:=M.ok_some e1;obtain⟨q,_,_,e3,e4,_⟩:=M.bind_some e2;obtain⟨c2,_⟩:=M.ofOpt_some e3;obtain⟨e5,_⟩:=M.pure_some e4;cases e5;split at c1
  ·rename_i hT;obtain⟨k1,k2,k3⟩:=Qdb (P:=C.P) (w:=w) (Nat.le_refl _) hl hh c2 false;refine⟨_,w,ρ,im,.inl (hs _ ?_),h,.ext _ _ (.str _)⟩;rw [Qbo hT (by simp),hx.str_inv];simp [Instr.slice,run_underlying hT,k1]
  ·cases c1
 ·-- nil
  obtain⟨_,_,_,e1,e2,_⟩:=M.bind_some he;obtain⟨c1,_⟩:=M.ofOpt_some e1;obtain⟨_,_,_,e3,e4,_⟩:=M.bind_some e2;obtain⟨c2,_⟩:=M.ok_some e3;obtain⟨q,_,_,e5,e6,_⟩:=M.bind_some e4;obtain⟨c3,_⟩:=M.ofOpt_some e5;obtain⟨e7,_⟩:=M.pure_some e6;cases e7;obtain⟨E,hE⟩:=Option.isSome_iff_exists.1 c2;rw [hE]at c1;simp only [Option.getD_some]at c1;obtain⟨i,hi,_,_⟩:=Qbz c1;have hT:=Qcg hE;obtain⟨k1,k2,k3⟩:=Qdb (P:=C.P) (w:=w) (Nat.le_refl 0) hl hh c3 true;have z2:q.2=0:=by omega
  have z1:q.1=0:=by omega
  refine⟨.slice none 0 0,w,ρ,im,.inl (hs _ ?_),h,.ext _ _ .nilS⟩;rw [Qbo hT (by simp),hx.nilS_inv];simp [Instr.slice,run_underlying hT,k1,Qbg hi,z1,z2]
 ·-- a slice that is held
  rename_i els;obtain⟨E,_,_,e1,e2,_⟩:=M.bind_some he;obtain⟨c1,_⟩:=M.ofOpt_some e1;obtain⟨q,_,_,e3,e4,_⟩:=M.bind_some e2;obtain⟨c2,_⟩:=M.ofOpt_some e3;obtain⟨b,_,_,e5,e6,_⟩:=M.bind_some e4;obtain⟨c3,_⟩:=M.ofOpt_some e5;obtain⟨_,_,_,e7,e8,_⟩:=M.bind_some e6;obtain⟨c4,_⟩:=M.ok_some e7;obtain⟨e9,_⟩:=M.pure_some e8;cases e9;obtain⟨i,hi,hi1,_⟩:=Qbz c2;have hT:=Qcg c1;have hr:=hx.slc_inv;generalize hu:a.eval x=u at*;cases hr with
  |slcNil c hm=>
   obtain⟨k1,k2,k3⟩:=Qdb (P:=C.P) (w:=w) (Nat.zero_le c) hl hh c3 true;have z2:b.2=0:=by simpa using k3
   have z1:b.1=0:=by omega
   refine⟨.slice none 0 c,w,ρ,im,.inl (hs _ ?_),h,?_⟩
   ·rw [Qbo hT (by simp)];simp [Instr.slice,run_underlying hT,k1,Qbg hi,z1,z2]
   ·simp;exact .ext _ _ (.slcNil c hm)
  |slcE p cap hm=>
   obtain⟨k1,k2,k3⟩:=Qdb (P:=C.P) (w:=w) (Nat.zero_le cap) hl hh c3 true;have z2:b.2=0:=by simpa using k3
   have z1:b.1=0:=by omega
   refine⟨.slice (some p) 0 cap,w,ρ,im,.inl (hs _ ?_),h,?_⟩
   ·rw [Qbo hT (by simp)];simp [Instr.slice,run_underlying hT,k1,Qbg hi,z1,z2,Addr.add]
   ·simp;exact .ext _ _ (.slcE p cap hm)
  |slc _ g off len cap sz vs hn hm hz hii hc hrl hcap=>
   subst hn;obtain⟨k1,k2,k3⟩:=Qdb (P:=C.P) (w:=w) hcap hl hh c3 true;have hvl:=hrl.length;rw [Qa1 hz]at hvl;have hszq:els=[]∨sz=q.1:=by
    cases els with
    |nil=>exact .inl rfl
    |cons e es=>
     right;have:=hz e (by simp);simp only [List.all_cons,Bool.and_eq_true,beq_iff_eq]at c4;rw [←this,c4.1]
   have hlen:((els.take b.2).drop b.1).length=b.2-b.1:=by simp;omega
   refine⟨.slice (if cap=b.1 then some ⟨g,off,none⟩else some ⟨g,off+b.1*q.1,none⟩) (b.2-b.1) (cap-b.1),w,ρ,im,.inl (hs _ ?_),h,?_⟩
   ·rw [Qbo hT (by simp)];simp [Instr.slice,run_underlying hT,k1,Qbg hi,hi1,Qia]
   ·by_cases hb:cap=b.1
    ·rw [if_pos hb];have hb0:b.2-b.1=0:=by omega
     have hnil:(els.take b.2).drop b.1=[]:=List.length_eq_zero_iff.1 (by omega);rw [hnil,hb0];exact .ext _ _ (.slc [] g off 0 (cap-b.1) 0 [] rfl (by omega) (by simp) (by simp) (by simp) .nil (Nat.zero_le _))
    ·rw [if_neg hb];rcases hszq with rfl|rfl
     ·have e0:b.2=0:=by simpa using k3
      have e1:b.1=0:=by omega
      simp only [List.take_nil,List.drop_nil,e0,e1,Nat.sub_zero];exact .ext _ _ (.slc [] g _ 0 _ 0 [] rfl (by omega) (by simp) (by simp) (by simp) .nil (Nat.zero_le _))
     ·have h1:=(hrl.take (b.2*q.1)).drop (b.1*q.1);rw [Qff b.2 hz,Qgd b.1 (fun e he=>hz e (List.mem_of_mem_take he))]at h1;have hm2:b.2*q.1≤els.length*q.1:=Nat.mul_le_mul_right _ k3;refine .ext _ _ (.slc _ g _ _ _ q.1 _ hlen (by omega) (fun e he=>hz e (List.mem_of_mem_take (List.mem_of_mem_drop he))) ?_ ?_ h1 (by omega))
      ·intro j hj;have:=hii (b.1*q.1+j) (by simp at hj;omega)
       rwa [←Nat.add_assoc]at this
      ·intro j hj;have:=hc (b.1*q.1+j) (by simp at hj;omega);rw [←Nat.add_assoc]at this;rw [this];simp only [List.getElem?_drop,List.getElem?_take];rw [if_pos (by simp at hj;omega)]
 ·-- a slice of the call's own
  rename_i b esz off len;obtain⟨E,_,_,e1,e2,_⟩:=M.bind_some he;obtain⟨c1,_⟩:=M.ofOpt_some e1;obtain⟨q,_,_,e3,e4,_⟩:=M.bind_some e2;obtain⟨c2,_⟩:=M.ofOpt_some e3;obtain⟨_,_,_,e5,e6,_⟩:=M.bind_some e4;obtain⟨c3,_⟩:=M.ok_some e5;obtain⟨bd,_,_,e7,e8,_⟩:=M.bind_some e6;obtain⟨c4,_⟩:=M.ofOpt_some e7;simp only [beq_iff_eq]at c3;obtain⟨i,hi,hi1,_⟩:=Qbz c2;have hT:=Qcg c1;split at e8
  ·obtain⟨e9,_⟩:=M.pure_some e8;cases e9;have hlow:bd.1=0:=by
    simp only [Qc9]at c4;split at c4
    ·rename_i h' l' e1' e2';cases e2';split at c4
     ·cases c4;rfl
     ·cases c4
    ·cases c4
   rcases hx.bs_inv with⟨eρ,⟨x0,hu⟩,rfl,rfl⟩|⟨g,cap,cur,e',hg,hu,hob,hcp,hlc,hmx⟩
   ·obtain⟨k1,k2,k3⟩:=Qdb (P:=C.P) (w:=w) (Nat.le_refl 0) hl hh c4 true;have z2:bd.2=0:=by omega
    refine⟨.slice (x0.map fun p=>⟨p.1,p.2,none⟩) 0 0,w,ρ,im,.inl (hs _ ?_),h,?_⟩
    ·rw [Qbo hT (by simp),hu];simp [Instr.slice,run_underlying hT,k1,Qbg hi,hlow,z2]
    ·rw [z2];exact .bsNil _ _ _ eρ
   ·obtain⟨k1,k2,k3⟩:=Qdb (P:=C.P) (w:=w) hlc hl hh c4 true;refine⟨.slice (some ⟨g,off*esz,none⟩) bd.2 cap,w,ρ,im,.inl (hs _ ?_),h,.bs _ _ _ _ g _ cap cur e' hg hob rfl hcp (by omega) hmx⟩;rw [Qbo hT (by simp),hu];simp [Instr.slice,run_underlying hT,k1,Qbg hi,hlow,Qia]
  ·rename_i lv;obtain⟨e9,_⟩:=M.pure_some e8;cases e9;rcases hx.bs_inv with⟨eρ,⟨x0,hu⟩,rfl,rfl⟩|⟨g,cap,cur,e',hg,hu,hob,hcp,hlc,hmx⟩
   ·obtain⟨k1,k2,k3⟩:=Qdb (P:=C.P) (w:=w) (Nat.le_refl 0) hl hh c4 true;have z2:bd.2=0:=by omega
    have z1:bd.1=0:=by omega
    refine⟨.slice (x0.map fun p=>⟨p.1,p.2,none⟩) 0 0,w,ρ,im,.inl (hs _ ?_),h,?_⟩
    ·rw [Qbo hT (by simp),hu];simp [Instr.slice,run_underlying hT,k1,Qbg hi,z1,z2]
    ·rw [z1,z2,if_neg (Nat.lt_irrefl _)];exact .ext _ _ (Qlr (Nat.zero_le _))
   ·obtain⟨k1,k2,k3⟩:=Qdb (P:=C.P) (w:=w) hlc hl hh c4 true;refine⟨.slice (if cap=bd.1 then some ⟨g,off*esz,none⟩else some ⟨g,off*esz+bd.1*q.1,none⟩) (bd.2-bd.1) (cap-bd.1),w,ρ,im,.inl (hs _ ?_),h,?_⟩
    ·rw [Qbo hT (by simp),hu];simp [Instr.slice,run_underlying hT,k1,Qbg hi,hi1,Qia]
    ·by_cases hlt:bd.1<bd.2
     ·rw [if_pos hlt,if_neg (by omega)];have e1:off*esz+bd.1*q.1=(off+bd.1)*esz:=by rw [c3,Nat.add_mul]
      have e2:bd.1*esz+(cap-bd.1)*esz=cap*esz:=by rw [←Nat.add_mul];congr 1;omega
      refine .bs _ _ _ _ g _ _ cur e' hg hob e1 ?_ (by omega) (by omega);rw [c3];omega
     ·rw [if_neg hlt];have e0:bd.2-bd.1=0:=by omega
      rw [e0];exact .ext _ _ (Qlr (by omega))
 ·cases he
end
end Go.Vl
