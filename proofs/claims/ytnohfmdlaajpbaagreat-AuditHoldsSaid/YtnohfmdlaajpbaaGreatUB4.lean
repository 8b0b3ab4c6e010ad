/-
  UI, UI2, UB4 (merged for the claim).
-/
import Derived.Test.YtnohfmdlaajpbaaGreatUH
import Derived.Test.YtnohfmdlaajpbaaGreatUC
set_option linter.unusedSimpArgs false
set_option linter.unusedVariables false
namespace Go.Vl
open Go.RowKit
def Qyz (x:Option PV) (u:Option Value):Prop:=(x=none∧u=none)∨ ∃k i,x=some (.int k i)∧u=some (.int k i)
section
variable {C:Ctx} {st:St} {a:Act} {w:World} {ρ:Rho} {im:Im} {o:Oper} {P:Program}
theorem Qc1 {len cap:Nat} (hcap:len≤cap) {lo hi:Option PV} {vl vh:Option Value} (hl:Qyz lo vl) (hh:Qyz hi vh) {r:Nat×Nat} (h:Qcv len lo hi=some r) (s:Bool):
  (Instr.sliceBounds s len cap vl vh none).run P w= .ok (r.1,r.2,cap) w∧r.1≤r.2∧r.2≤len:=by
 rcases hh with⟨rfl,rfl⟩|⟨k,i,rfl,rfl⟩<;>rcases hl with⟨rfl,rfl⟩|⟨k',j,rfl,rfl⟩<;>simp only [Qcv]at h<;>split at h<;>cases h
 ·rename_i hc;refine⟨by simp [Instr.sliceBounds],by simp,by simp⟩
 ·rename_i hc;refine⟨?_,by simp;omega,by simp⟩;have:j≤(len:Int):=by omega
  simp [Instr.sliceBounds,Instr.sliceBound,asIntOf,hc.1,this]
 ·rename_i hc;refine⟨?_,by simp,by simp;omega⟩;have h1:0≤i:=by omega
  have:i≤(cap:Int):=by omega
  simp [Instr.sliceBounds,Instr.sliceBound,asIntOf,h1,this]
 ·rename_i hc;refine⟨?_,by simp;omega,by simp;omega⟩;have h1:0≤i:=by omega
  have h2:i≤(cap:Int):=by omega
  have h3:j≤((i.toNat:Nat):Int):=by omega
  have h4:j≤max i 0:=by omega
  simp [Instr.sliceBounds,Instr.sliceBound,asIntOf,h1,h2,hc.1,h3,h4]
theorem Qa1 {T:TypeId} {d:TypeDesc} (hd:P.underlying T=some d) (hn: ∀n e,d≠ .array n e) (x:Value) (lo hi mx:Option Value):
  (Instr.sliceAt T x lo hi mx).run P w=(Instr.slice T x lo hi mx).run P w:=by
 cases d<;>first|exact absurd rfl (hn _ _)|simp [Instr.sliceAt,run_underlying hd]
theorem Qkx {w:World} {im:Im} {A:Option Addr} {c:Nat} (hm:c≤maxLen):Rep w im (.slc []) (.slice A 0 c):=by
 cases A with
 |none=>exact .slcNil c hm
 |some p=>exact .slcE p c hm
theorem Zco {cs:List PV} (h: ∀e∈cs,e.cells=[e]):cs.flatMap PV.cells=cs:=by
 induction cs with
 |nil=>rfl
 |cons c r ih=>rw [List.flatMap_cons,h c (by simp),ih fun e (hm:e∈r)=>h e (List.mem_cons_of_mem _ hm)];rfl
theorem Qhi {T:TypeId} {x:Operand} {v r:PV} {lo hi:Option PV} {vl vh:Option Value} {s:Sem Next} {es:List Eff} {l:Acc} (h:Rel' C st a w ρ im) (hx:LR w im ρ v (a.eval x))
  (hl:Qyz lo vl) (hh:Qyz hi vh) (hs: ∀u,(Instr.sliceAt T (a.eval x) vl vh none).run C.P w= .ok u w→s.run C.P w= .ok (.value u) w) (he:Qcu C.P T v lo hi st.box=some (.done r es,l)):
  Does C (Qan es st) a w s r:=by
 unfold Qcu at he;split at he
 ·-- a string
  rename_i str;obtain⟨_,_,_,e1,e2,_⟩:=M.bind_some he;obtain⟨c1,_⟩:=M.ok_some e1;obtain⟨q,_,_,e3,e4,_⟩:=M.bind_some e2;obtain⟨c2,_⟩:=M.ofOpt_some e3;obtain⟨e5,_⟩:=M.pure_some e4;cases e5;split at c1
  ·rename_i hT;obtain⟨k1,k2,k3⟩:=Qc1 (P:=C.P) (w:=w) (Nat.le_refl _) hl hh c2 false;refine⟨_,w,ρ,im,.inl (hs _ ?_),h,.ext _ _ (.str _)⟩;rw [Qa1 hT (by simp),hx.str_inv];simp [Instr.slice,run_underlying hT,k1]
  ·cases c1
 ·-- nil
  obtain⟨_,_,_,e1,e2,_⟩:=M.bind_some he;obtain⟨c1,_⟩:=M.ofOpt_some e1;obtain⟨_,_,_,e3,e4,_⟩:=M.bind_some e2;obtain⟨c2,_⟩:=M.ok_some e3;obtain⟨q,_,_,e5,e6,_⟩:=M.bind_some e4;obtain⟨c3,_⟩:=M.ofOpt_some e5;obtain⟨e7,_⟩:=M.pure_some e6;cases e7;obtain⟨E,hE⟩:=Option.isSome_iff_exists.1 c2;rw [hE]at c1;simp only [Option.getD_some]at c1;obtain⟨i,hi,_,_⟩:=Qbh c1;have hT:=Qbq hE;obtain⟨k1,k2,k3⟩:=Qc1 (P:=C.P) (w:=w) (Nat.le_refl 0) hl hh c3 true;have z2:q.2=0:=by omega
  have z1:q.1=0:=by omega
  refine⟨.slice none 0 0,w,ρ,im,.inl (hs _ ?_),h,.ext _ _ .nilS⟩;rw [Qa1 hT (by simp),hx.nilS_inv];simp [Instr.slice,run_underlying hT,k1,Qa5 hi,z1,z2]
 ·-- a slice that is held
  rename_i els;obtain⟨E,_,_,e1,e2,_⟩:=M.bind_some he;obtain⟨c1,_⟩:=M.ofOpt_some e1;obtain⟨q,_,_,e3,e4,_⟩:=M.bind_some e2;obtain⟨c2,_⟩:=M.ofOpt_some e3;obtain⟨b,_,_,e5,e6,_⟩:=M.bind_some e4;obtain⟨c3,_⟩:=M.ofOpt_some e5;obtain⟨_,_,_,e7,e8,_⟩:=M.bind_some e6;obtain⟨c4,_⟩:=M.ok_some e7;obtain⟨e9,_⟩:=M.pure_some e8;cases e9;obtain⟨i,hi,hi1,_⟩:=Qbh c2;have hT:=Qbq c1;have hr:=hx.slc_inv;generalize hu:a.eval x=u at*;cases hr with
  |slcNil c hm=>
   obtain⟨k1,k2,k3⟩:=Qc1 (P:=C.P) (w:=w) (Nat.zero_le c) hl hh c3 true;have z2:b.2=0:=by simpa using k3
   have z1:b.1=0:=by omega
   refine⟨.slice none 0 c,w,ρ,im,.inl (hs _ ?_),h,?_⟩
   ·rw [Qa1 hT (by simp)];simp [Instr.slice,run_underlying hT,k1,Qa5 hi,z1,z2]
   ·simp;exact .ext _ _ (.slcNil c hm)
  |slcE p cap hm=>
   obtain⟨k1,k2,k3⟩:=Qc1 (P:=C.P) (w:=w) (Nat.zero_le cap) hl hh c3 true;have z2:b.2=0:=by simpa using k3
   have z1:b.1=0:=by omega
   refine⟨.slice (some p) 0 cap,w,ρ,im,.inl (hs _ ?_),h,?_⟩
   ·rw [Qa1 hT (by simp)];simp [Instr.slice,run_underlying hT,k1,Qa5 hi,z1,z2,Addr.add]
   ·simp;exact .ext _ _ (.slcE p cap hm)
  |slc _ g off len cap sz vs hn hm hz hii hc hrl hcap=>
   subst hn;obtain⟨k1,k2,k3⟩:=Qc1 (P:=C.P) (w:=w) hcap hl hh c3 true;have hvl:=hrl.length;rw [Qau hz]at hvl;have hszq:els=[]∨sz=q.1:=by
    cases els with
    |nil=>exact .inl rfl
    |cons e es=>
     right;have:=hz e (by simp);simp only [List.all_cons,Bool.and_eq_true,beq_iff_eq]at c4;rw [←this,c4.1]
   have hlen:((els.take b.2).drop b.1).length=b.2-b.1:=by simp;omega
   refine⟨.slice (if cap=b.1 then some ⟨g,off,none⟩else some ⟨g,off+b.1*q.1,none⟩) (b.2-b.1) (cap-b.1),w,ρ,im,.inl (hs _ ?_),h,?_⟩
   ·rw [Qa1 hT (by simp)];simp [Instr.slice,run_underlying hT,k1,Qa5 hi,hi1,Qfq]
   ·by_cases hb:cap=b.1
    ·rw [if_pos hb];have hb0:b.2-b.1=0:=by omega
     have hnil:(els.take b.2).drop b.1=[]:=List.length_eq_zero_iff.1 (by omega);rw [hnil,hb0];exact .ext _ _ (.slc [] g off 0 (cap-b.1) 0 [] rfl (by omega) (by simp) (by simp) (by simp) .nil (Nat.zero_le _))
    ·rw [if_neg hb];rcases hszq with rfl|rfl
     ·have e0:b.2=0:=by simpa using k3
      have e1:b.1=0:=by omega
      simp only [List.take_nil,List.drop_nil,e0,e1,Nat.sub_zero];exact .ext _ _ (.slc [] g _ 0 _ 0 [] rfl (by omega) (by simp) (by simp) (by simp) .nil (Nat.zero_le _))
     ·have h1:=(hrl.take (b.2*q.1)).drop (b.1*q.1);rw [Qen b.2 hz,Qe6 b.1 (fun e he=>hz e (List.mem_of_mem_take he))]at h1;have hm2:b.2*q.1≤els.length*q.1:=Nat.mul_le_mul_right _ k3;refine .ext _ _ (.slc _ g _ _ _ q.1 _ hlen (by omega) (fun e he=>hz e (List.mem_of_mem_take (List.mem_of_mem_drop he))) ?_ ?_ h1 (by omega))
      ·intro j hj;have:=hii (b.1*q.1+j) (by simp at hj;omega)
       rwa [←Nat.add_assoc]at this
      ·intro j hj;have:=hc (b.1*q.1+j) (by simp at hj;omega);rw [←Nat.add_assoc]at this;rw [this];simp only [List.getElem?_drop,List.getElem?_take];rw [if_pos (by simp at hj;omega)]
 ·-- a slice of the call's own
  rename_i b esz off len;obtain⟨E,_,_,e1,e2,_⟩:=M.bind_some he;obtain⟨c1,_⟩:=M.ofOpt_some e1;obtain⟨q,_,_,e3,e4,_⟩:=M.bind_some e2;obtain⟨c2,_⟩:=M.ofOpt_some e3;obtain⟨_,_,_,e5,e6,_⟩:=M.bind_some e4;obtain⟨c3,_⟩:=M.ok_some e5;obtain⟨bd,_,_,e7,e8,_⟩:=M.bind_some e6;obtain⟨c4,_⟩:=M.ofOpt_some e7;simp only [beq_iff_eq]at c3;obtain⟨i,hi,hi1,_⟩:=Qbh c2;have hT:=Qbq c1;split at e8
  ·obtain⟨e9,_⟩:=M.pure_some e8;cases e9;have hlow:bd.1=0:=by
    simp only [Qcv]at c4;split at c4
    ·rename_i h' l' e1' e2';cases e2';split at c4
     ·cases c4;rfl
     ·cases c4
    ·cases c4
   rcases hx.bs_inv with⟨eρ,⟨x0,hu⟩,rfl,rfl⟩|⟨g,cap,cur,e',hg,hu,hob,hcp,hlc,hmx⟩
   ·obtain⟨k1,k2,k3⟩:=Qc1 (P:=C.P) (w:=w) (Nat.le_refl 0) hl hh c4 true;have z2:bd.2=0:=by omega
    refine⟨.slice (x0.map fun p=>⟨p.1,p.2,none⟩) 0 0,w,ρ,im,.inl (hs _ ?_),h,?_⟩
    ·rw [Qa1 hT (by simp),hu];simp [Instr.slice,run_underlying hT,k1,Qa5 hi,hlow,z2]
    ·rw [z2];exact .bsNil _ _ _ eρ
   ·obtain⟨k1,k2,k3⟩:=Qc1 (P:=C.P) (w:=w) hlc hl hh c4 true;refine⟨.slice (some ⟨g,off*esz,none⟩) bd.2 cap,w,ρ,im,.inl (hs _ ?_),h,.bs _ _ _ _ g _ cap cur e' hg hob rfl hcp (by omega) hmx⟩;rw [Qa1 hT (by simp),hu];simp [Instr.slice,run_underlying hT,k1,Qa5 hi,hlow,Qfq]
  ·rename_i lv;obtain⟨e9,_⟩:=M.pure_some e8;cases e9;rcases hx.bs_inv with⟨eρ,⟨x0,hu⟩,rfl,rfl⟩|⟨g,cap,cur,e',hg,hu,hob,hcp,hlc,hmx⟩
   ·obtain⟨k1,k2,k3⟩:=Qc1 (P:=C.P) (w:=w) (Nat.le_refl 0) hl hh c4 true;have z2:bd.2=0:=by omega
    have z1:bd.1=0:=by omega
    refine⟨.slice (x0.map fun p=>⟨p.1,p.2,none⟩) 0 0,w,ρ,im,.inl (hs _ ?_),h,?_⟩
    ·rw [Qa1 hT (by simp),hu];simp [Instr.slice,run_underlying hT,k1,Qa5 hi,z1,z2]
    ·rw [z1,z2,if_neg (Nat.lt_irrefl _)];exact .ext _ _ (Qkx (Nat.zero_le _))
   ·obtain⟨k1,k2,k3⟩:=Qc1 (P:=C.P) (w:=w) hlc hl hh c4 true;refine⟨.slice (if cap=bd.1 then some ⟨g,off*esz,none⟩else some ⟨g,off*esz+bd.1*q.1,none⟩) (bd.2-bd.1) (cap-bd.1),w,ρ,im,.inl (hs _ ?_),h,?_⟩
    ·rw [Qa1 hT (by simp),hu];simp [Instr.slice,run_underlying hT,k1,Qa5 hi,hi1,Qfq]
    ·by_cases hlt:bd.1<bd.2
     ·rw [if_pos hlt,if_neg (by omega)];have e1:off*esz+bd.1*q.1=(off+bd.1)*esz:=by rw [c3,Nat.add_mul]
      have e2:bd.1*esz+(cap-bd.1)*esz=cap*esz:=by rw [←Nat.add_mul];congr 1;omega
      refine .bs _ _ _ _ g _ _ cur e' hg hob e1 ?_ (by omega) (by omega);rw [c3];omega
     ·rw [if_neg hlt];have e0:bd.2-bd.1=0:=by omega
      rw [e0];exact .ext _ _ (Qkx (by omega))
 ·-- an array of the call's own,asx a whole
  rename_i b esz i off;split at he
  ·unfold Zce at he;obtain⟨q,_,_,e1,e2,_⟩:=M.bind_some he;obtain⟨c1,_⟩:=M.ofOpt_some e1;obtain⟨z,_,_,e3,e4,_⟩:=M.bind_some e2;obtain⟨c2,_⟩:=M.ofOpt_some e3;obtain⟨⟨y,es'⟩,_,_,e5,e6,_⟩:=M.bind_some e4;simp only at e6;split at e6
   ·rename_i cs;obtain⟨_,_,_,e7,e8,_⟩:=M.bind_some e6;obtain⟨c3,_⟩:=M.ok_some e7;obtain⟨e9,_⟩:=M.pure_some e8;cases e9;simp only [Bool.and_eq_true]at c3;obtain⟨c4,c5,c6,c7⟩:=c3;have c4:=Nat.eq_of_beq_eq_true c4;have c5:=Nat.eq_of_beq_eq_true c5;have c6:=Nat.le_of_ble_eq_true c6;have hT:=Qjb c1;obtain⟨ti,hi,hi1,_⟩:=Qbh c2;obtain rfl:vl=none:=by rcases hl with⟨-,h⟩|⟨_,_,h,_⟩;exact h;cases h
    obtain rfl:vh=none:=by rcases hh with⟨-,h⟩|⟨_,_,h,_⟩;exact h;cases h
    obtain⟨im',g,hr⟩:=Qjd h (fun _=>rfl) hx e5;have hce: ∀e∈cs,e.cells=[e]:=fun e he=>by
     have:=List.all_eq_true.1 c7 e he;cases e<;>first|rfl|(simp [PV.okCell]at this)
    have hfm:=Zco hce;generalize hu:a.eval x=u at*;cases hr with
    |rp _ gg o vs h1 h2 h3=>
     refine⟨.slice (some ⟨gg,o,none⟩) q.1 q.1,w,ρ,im',.inl (hs _ ?_),g.rel,.ext _ _ (.slc cs gg o q.1 q.1 1 vs c5 ?_ (fun e he=>by rw [hce e he];rfl) h1 h2 (by rw [hfm];exact h3) (Nat.le_refl _))⟩
     ·simp [Instr.sliceAt,Instr.sureAddr,run_underlying hT,Instr.sliceBounds,Qa5 hi,Addr.add]
     ·unfold maxLen;omega
   ·cases e6
  ·cases he
 ·cases he
theorem Qwl {T:TypeId} {x:Operand} {b esz off len:Nat} {k1 k2 k3:IntKind} {lo hi mx:Int} {r:PV} {s:Sem Next} {es:List Eff} {l:Acc} (h:Rel' C st a w ρ im) (hx:LR w im ρ (.bs b esz off len) (a.eval x))
  (hs: ∀u,(Instr.sliceAt T (a.eval x) (some (.int k1 lo)) (some (.int k2 hi)) (some (.int k3 mx))).run C.P w= .ok u w→s.run C.P w= .ok (.value u) w) (he:Qd7 C.P T b esz off len lo hi mx st.box=some (.done r es,l)):
  Does C (Qan es st) a w s r:=by
 unfold Qd7 at he;obtain⟨E,_,_,e1,e2,_⟩:=M.bind_some he;obtain⟨c1,_⟩:=M.ofOpt_some e1;obtain⟨q,_,_,e3,e4,_⟩:=M.bind_some e2;obtain⟨c2,_⟩:=M.ofOpt_some e3;obtain⟨_,_,_,e5,e6,_⟩:=M.bind_some e4;obtain⟨c3,_⟩:=M.ok_some e5;obtain⟨e9,_⟩:=M.pure_some e6;cases e9;simp only [Bool.and_eq_true,beq_iff_eq,decide_eq_true_eq]at c3;obtain⟨c4,rfl,c5,rfl,c6⟩:=c3;obtain⟨i,hi',hi1,_⟩:=Qbh c2;have hT:=Qbq c1;rcases hx.bs_inv with⟨eρ,⟨x0,hu⟩,rfl,rfl⟩|⟨g,cap,cur,e',hg,hu,hob,hcp,hlc,hmx⟩
 ·exfalso;omega
 ·have h1:0≤hi:=by omega
  have h2:hi≤(cap:Int):=by omega
  have h3:max hi 0=hi:=by omega
  have h4:0≤((hi.toNat:Nat):Int):=by omega
  have h5:hi≤((hi.toNat:Nat):Int):=by omega
  have k1:(Instr.sliceBounds true len cap (some (.int k1 0)) (some (.int k2 hi)) (some (.int k3 hi))).run C.P w= .ok (0,hi.toNat,hi.toNat) w:=by
   simp [Instr.sliceBounds,Instr.sliceBound,asIntOf,h1,h2,h3,h4,h5]
  have hn0:hi.toNat≠0:=by omega
  have hcap:hi.toNat*esz≤cap*esz:=Nat.mul_le_mul_right _ (by omega);refine⟨.slice (some ⟨g,off*esz,none⟩) hi.toNat hi.toNat,w,ρ,im,.inl (hs _ ?_),h,.bs _ _ _ _ g _ _ cur e' hg hob rfl (by omega) (Nat.le_refl _) (by omega)⟩;rw [Qa1 hT (by simp),hu];simp [Instr.slice,run_underlying hT,k1,Qa5 hi',hn0,Qfq]
theorem Qs9 {T:TypeId} {x:Operand} {els:List PV} {k2 k3:IntKind} {hi mx:Int} {r:PV} {s:Sem Next} {es:List Eff} {l:Acc} (h:Rel' C st a w ρ im) (hx:LR w im ρ (.slc els) (a.eval x))
  (hs: ∀u,(Instr.sliceAt T (a.eval x) none (some (.int k2 hi)) (some (.int k3 mx))).run C.P w= .ok u w→s.run C.P w= .ok (.value u) w) (he:Qfp C.P T els hi mx st.box=some (.done r es,l)):
  Does C (Qan es st) a w s r:=by
 unfold Qfp at he;obtain⟨E,_,_,e1,e2,_⟩:=M.bind_some he;obtain⟨c1,_⟩:=M.ofOpt_some e1;obtain⟨q,_,_,e3,e4,_⟩:=M.bind_some e2;obtain⟨c2,_⟩:=M.ofOpt_some e3;obtain⟨_,_,_,e5,e6,_⟩:=M.bind_some e4;obtain⟨c3,_⟩:=M.ok_some e5;obtain⟨e9,_⟩:=M.pure_some e6;cases e9;simp only [Bool.and_eq_true,decide_eq_true_eq]at c3;obtain⟨rfl,rfl⟩:=c3;obtain⟨i,hi',hi1,_⟩:=Qbh c2;have hT:=Qbq c1;have hr:=hx.slc_inv;generalize a.eval x=u at*;have bnd: ∀len cap:Nat,els.length=len→len≤cap→(Instr.sliceBounds true len cap none (some (.int k2 (els.length:Int))) (some (.int k3 (els.length:Int)))).run C.P w= .ok (0,els.length,els.length) w:=fun len cap hl hc=>by
  have h2:(els.length:Int)≤(cap:Int):=by omega
  simp [Instr.sliceBounds,Instr.sliceBound,asIntOf,h2]
 cases hr with
 |slcNil c hm=>
  refine⟨.slice none 0 0,w,ρ,im,.inl (hs _ ?_),h,.ext _ _ (.slcNil 0 (Nat.zero_le _))⟩;rw [Qa1 hT (by simp)];have:=bnd 0 c rfl (Nat.zero_le _);simp only [List.length_nil,show((0:Nat):Int)=0 from rfl]at this ⊢;simp [Instr.slice,run_underlying hT,this,Qa5 hi']
 |slcE p cap hm=>
  refine⟨.slice (some p) 0 0,w,ρ,im,.inl (hs _ ?_),h,.ext _ _ (.slcE p 0 (Nat.zero_le _))⟩;rw [Qa1 hT (by simp)];have:=bnd 0 cap rfl (Nat.zero_le _);simp only [List.length_nil,show((0:Nat):Int)=0 from rfl]at this ⊢;simp [Instr.slice,run_underlying hT,this,Qa5 hi']
 |slc _ g off len cap sz vs hn hm hz h1 h2 h3 hcap=>
  subst hn;refine⟨.slice (some ⟨g,off,none⟩) els.length els.length,w,ρ,im,.inl (hs _ ?_),h,.ext _ _ (.slc els g off els.length els.length sz vs rfl (Nat.le_trans hcap hm) hz h1 h2 h3 (Nat.le_refl _))⟩;rw [Qa1 hT (by simp)];simp [Instr.slice,run_underlying hT,bnd _ _ rfl hcap,Qa5 hi',Addr.add]
end
theorem Qh1 {st:St} {b:Nat} {B:Box} (h:st.box b=some B):st.setBox b B=st:=by
 refine St.ext'' rfl ?_ rfl rfl;funext k;simp only [St.setBox,upd];split
 ·rename_i e;subst e;exact h.symm
 ·rfl
section
variable {C:Ctx} {st:St} {a:Act} {w:World} {ρ:Rho} {im:Im} {o:Oper}
theorem Qoc {P:Program} {xs:List PV} {u:Value} {sz n:Nat} (h:Rep w im (.slc xs) u) (hz: ∀e∈xs,e.cells.length=sz) (hn:n≤xs.length):
  ∃vs,(Builtin.firstCells sz n u).run P w= .ok vs.toArray w∧RepL w im ((xs.take n).flatMap PV.cells) vs∧(Builtin.lenOf u).run P w= .ok xs.length w:=by
 rcases h.slc_cells with⟨rfl,c,rfl⟩|⟨A,cap,vs,sz',rfl,_,hz',hc,hr,_⟩
 ·refine⟨[],by simp [Builtin.firstCells],by simp;exact .nil,by simp [Builtin.lenOf]⟩
 ·have hvl:vs.length=xs.length*sz:=by rw [←hr.length,Qau hz]
  have hmul:n*sz≤xs.length*sz:=Nat.mul_le_mul_right _ hn;refine⟨vs.take (n*sz),?_,?_,by simp [Builtin.lenOf]⟩
  ·have:=run_loadCells_list (P:=P) w A (vs.take (n*sz)) (by
    intro j v hv;rw [List.getElem?_take]at hv;split at hv
    ·exact hc j v hv
    ·cases hv)
   have hl:(vs.take (n*sz)).length=n*sz:=by simp;omega
   rw [hl]at this;simp [Builtin.firstCells,this]
  ·have:=hr.take (n*sz)
   rwa [Qen n hz]at this
theorem Zcp {t ty:TypeId} {d x r:PV} {ud ux:Value} {es:List Eff} {l:Acc} {sem:Sem Next} (h:Rel' C st a w ρ im) (hd:LR w im ρ d ud) (hx:LR w im ρ x ux) {ts:Array TypeId} (hts:ts[0]? =some t)
  (hrun: ∀v w',(Builtin.copy_ ts ty #[ud,ux]).run C.P w= .ok v w'→sem.run C.P w= .ok (.value v) w') (he:Qi8 C.P t d x st.box=some (.done r es,l)):Does C (Qan es st) a w sem r:=by
 unfold Qi8 at he;obtain⟨E,_,_,e1,e2,_⟩:=M.bind_some he;obtain⟨c1,_⟩:=M.ofOpt_some e1;obtain⟨q,_,_,e3,e4,_⟩:=M.bind_some e2;obtain⟨c2,_⟩:=M.ofOpt_some e3;obtain⟨⟨y,fs⟩,_,_,e5,e6,_⟩:=M.bind_some e4;obtain⟨im1,g1,r1⟩:=Qhh h (fun _=>rfl) hx e5;have hT:=Qbq c1;obtain⟨i,hi,hi1,_⟩:=Qbh c2;cases y with
 |slc xs=>
  cases d with
  |bs b esz off len=>
   obtain⟨Bo,_,_,e7,e8,_⟩:=M.bind_some e6;obtain⟨rfl,_⟩:=M.hard_some e7;obtain⟨B,_,_,e9,e10,_⟩:=M.bind_some e8;obtain⟨hB,_⟩:=M.ofOpt_some e9;obtain⟨_,_,_,e11,e12,_⟩:=M.bind_some e10;obtain⟨c3,_⟩:=M.ok_some e11;obtain⟨_,_,_,e13,e14,_⟩:=M.bind_some e12;obtain⟨c4,_⟩:=M.ok_some e13;obtain⟨e15,_⟩:=M.pure_some e14;cases e15;simp only [List.all_eq_true,Bool.and_eq_true,beq_iff_eq]at c3 c4;obtain⟨⟨⟨⟨⟨d1,d2⟩,d3⟩,d4⟩,d5⟩,d6⟩:=c4;have d5:=Nat.le_of_ble_eq_true d5;have d6:=Nat.le_of_ble_eq_true d6;obtain⟨vs,k1,k2,k3⟩:=Qoc (P:=C.P) (n:=min xs.length len) r1 (fun e he=>(c3 e he).1) (Nat.min_le_left _ _);have hfl:((xs.take (min xs.length len)).flatMap PV.cells).all flatc=true:=by
    rw [List.all_eq_true];intro v hv;obtain⟨e,he,hv⟩:=List.mem_flatMap.1 hv;exact(c3 e (List.mem_of_mem_take he)).2 v hv
   have hok:((xs.take (min xs.length len)).flatMap PV.cells).all PV.okCell=true:=by
    rw [List.all_eq_true]at hfl ⊢;exact fun v hv=>Qyy (hfl v hv)
   have k2':RepL w im ((xs.take (min xs.length len)).flatMap PV.cells) vs:=Qkw hfl k2;have hlen:(xs.take (min xs.length len)).length=min xs.length len:=by simp
   have hxz: ∀e∈xs.take (min xs.length len),e.cells.length=B.esz:=fun e he=>by rw [(c3 e (List.mem_of_mem_take he)).1,d4,d3]
   rcases hd.bs_inv with⟨eρ,⟨x0,rfl⟩,rfl,rfl⟩|⟨g,cap,cur,e',hg,rfl,hob,hcp,hlc,hmx⟩
   ·have hbox:=h.box b none B eρ hB;have hl0:vs=[]:=by
     have:=k2'.length;rw [Qau hxz]at this;simp at this;exact List.length_eq_zero_iff.1 this.symm
    subst hl0;refine⟨.int .i64 (min xs.length 0:Nat),w,ρ,im,.inl (hrun _ _ ?_),?_,.ext _ _ (.int _ _)⟩
    ·simp only [Builtin.copy_,List.getElem?_toArray,hts];cases x0 with
     |none=>simp [run_underlying hT,Qa5 hi,hi1,k3,goInt];simp [hi1]at k1;simp [k1]
     |some p=>simp [run_underlying hT,Qa5 hi,hi1,k3,goInt];simp [hi1]at k1;simp [k1,storeCells]
    ·have:B.over 0 (xs.take (min xs.length 0))=B:=by simp [Box.over]
     rw [this];simp only [Qan,List.foldl_cons,List.foldl_nil,Eff.on];have hs:st.setBox b B=st:=Qh1 hB;rw [hs];exact h
   ·obtain⟨cur',m1,m2,m3⟩:=h.over (xs:=xs.take (min xs.length len)) hg hB ⟨_,_,hob⟩ d1 d5 (by rw [hlen];exact d6) hxz hok k2';rw [hob]at m1;cases m1;have hst:=run_storeCells_at C.P g (off*B.esz) B.ety vs 0 cur w hob (by simpa using m2) ((k2'.toLRL (ρ:=ρ)).oneCells hok);simp only [Nat.add_zero]at hst;refine⟨.int .i64 (min xs.length len:Nat),_,ρ,im,.inl (hrun _ _ ?_),m3,.ext _ _ (.int _ _)⟩;rw [←d3];simp only [Builtin.copy_,List.getElem?_toArray,hts];rw [←hi1]at k1;simp [run_underlying hT,Qa5 hi,k3,goInt];rw [List.append_assoc]at hst;rw [show xs.length.min len=min xs.length len from rfl,k1];simp only [Result.andThen_ok,hst]
  |_=>cases e6
 |_=>cases e6
theorem Q2u {t ty:TypeId} {d r:PV} {ud:Value} {es:List Eff} {l:Acc} {sem:Sem Next} (h:Rel' C st a w ρ im) (hd:LR w im ρ d ud) {ts:Array TypeId} (hts:ts[0]? =some t)
  (hrun: ∀w',(Builtin.clear_ ts ty #[ud]).run C.P w= .ok (.tuple #[]) w'→sem.run C.P w= .ok (.value (.tuple #[])) w') (he:Qfo C.P t d st.box=some (.done r es,l)):Does C (Qan es st) a w sem r:=by
 unfold Qfo at he;obtain⟨E,_,_,e1,e2,_⟩:=M.bind_some he;obtain⟨c1,_⟩:=M.ofOpt_some e1;obtain⟨q,_,_,e3,e4,_⟩:=M.bind_some e2;obtain⟨c2,_⟩:=M.ofOpt_some e3;obtain⟨z,_,_,e5,e6,_⟩:=M.bind_some e4;obtain⟨cz,_⟩:=M.ofOpt_some e5;have hT:=Qbq c1;obtain⟨i,hi,hi1,_⟩:=Qbh c2;obtain⟨i',zv,hz1,hz2,hz3⟩:=Qcr cz;rw [hi]at hz1;cases hz1;cases d with
 |bs b esz off len=>
  obtain⟨Bo,_,_,e7,e8,_⟩:=M.bind_some e6;obtain⟨rfl,_⟩:=M.hard_some e7;obtain⟨B,_,_,e9,e10,_⟩:=M.bind_some e8;obtain⟨hB,_⟩:=M.ofOpt_some e9;obtain⟨_,_,_,e11,e12,_⟩:=M.bind_some e10;obtain⟨c3,_⟩:=M.ok_some e11;obtain⟨_,_,_,e13,e14,_⟩:=M.bind_some e12;obtain⟨c4,_⟩:=M.ok_some e13;obtain⟨e15,_⟩:=M.pure_some e14;cases e15;simp only [Bool.and_eq_true,beq_iff_eq]at c3 c4;obtain⟨⟨⟨⟨⟨d1,d2⟩,d3⟩,d4⟩,d5⟩,d6⟩:=c4;have d5:=Nat.le_of_ble_eq_true d5;have d6:=Nat.le_of_ble_eq_true d6;have hok1:Qa4 z.cells=true:=by
   have:=c3.2;simp only [Qa4,List.all_eq_true]at this ⊢;exact fun v hv=>Qyy (this v hv)
  have hrep:=(Qco (w:=w) (im:=im) hz3).cells hok1;have hzl:=hrep.length;rw [c3.1]at hzl;have hzs:zv.cells.size=q.1:=by simpa using hzl.symm
  have hrepl: ∀m,RepL w im ((List.replicate m z).flatMap PV.cells) (List.replicate m zv.cells.toList).flatten:=by
   intro m
   induction m with
   |zero=>exact .nil
   |succ m ih=>
    rw [List.replicate_succ,List.replicate_succ,List.flatMap_cons,List.flatten_cons];exact hrep.append ih
  have hxz: ∀e∈List.replicate len z,e.cells.length=B.esz:=fun e he=>by rw [List.eq_of_mem_replicate he,c3.1,d4,d3]
  have hok:=Qdx (vs:=List.replicate len z) fun e he=>by rw [List.eq_of_mem_replicate he];exact hok1
  have hzero: ∀m,(Builtin.zeroCells zv.cells m).toList=(List.replicate m zv.cells.toList).flatten:=by
   intro m;apply List.ext_getElem?;intro k;have hget: ∀m k,(List.replicate m zv.cells.toList).flatten[k]? =if k<m*q.1 then zv.cells[k%q.1]? else none:=by
    intro m
    induction m with
    |zero=>intro k;simp
    |succ m ih=>
     intro k;rw [List.replicate_succ,List.flatten_cons];by_cases hk:k<q.1
     ·rw [List.getElem?_append_left (by simp;omega),if_pos (by rw [Nat.succ_mul];omega),Nat.mod_eq_of_lt hk,Array.getElem?_toList]
     ·rw [List.getElem?_append_right (by simp;omega)];simp only [Array.length_toList,hzs];rw [ih,Nat.succ_mul];have:(k-q.1)%q.1=k%q.1:=by
       conv=>rhs;rw [←Nat.sub_add_cancel (Nat.le_of_not_lt hk),Nat.add_mod_right]
      rw [this];by_cases hk2:k-q.1<m*q.1
      ·rw [if_pos hk2,if_pos (by omega)]
      ·rw [if_neg hk2,if_neg (by omega)]
   rw [hget];simp only [Builtin.zeroCells,Array.toList_map,List.getElem?_map,Array.getElem?_toList,Array.getElem?_range];by_cases hk:k<m*q.1
   ·have hq:0<q.1:=Nat.pos_of_ne_zero fun e=>by rw [e,Nat.mul_zero]at hk;omega
    have hlt:k%q.1<zv.cells.size:=by rw [hzs];exact Nat.mod_lt _ hq
    simp [hk,hzs];rw [hzs]at hlt;simp [hzs,hlt]
   ·simp [hk,hzs]
  rcases hd.bs_inv with⟨eρ,⟨x0,rfl⟩,rfl,rfl⟩|⟨g,cap,cur,e',hg,rfl,hob,hcp,hlc,hmx⟩
  ·refine⟨.tuple #[],w,ρ,im,.inl (hrun _ ?_),?_,.ext _ _ (.tup [] [] .nil)⟩
   ·simp only [Builtin.clear_,List.getElem?_toArray,hts];cases x0 with
    |none=>simp [run_underlying hT]
    |some p=>simp [run_underlying hT]
   ·have:B.over 0 (List.replicate 0 z)=B:=by simp [Box.over]
    rw [this];simp only [Qan,List.foldl_cons,List.foldl_nil,Eff.on];have hs:st.setBox b B=st:=Qh1 hB;rw [hs];exact h
  ·obtain⟨cur',m1,m2,m3⟩:=h.over (xs:=List.replicate len z) hg hB ⟨_,_,hob⟩ d1 d5 (by simpa using d6) hxz hok (hrepl len);rw [hob]at m1;cases m1;have hst:=run_storeCells_at C.P g (off*B.esz) B.ety _ 0 cur w hob (by simpa using m2) (((hrepl len).toLRL (ρ:=ρ)).oneCells hok);simp only [Nat.add_zero]at hst;by_cases hl0:len=0
   ·subst hl0;refine⟨.tuple #[],w,ρ,im,.inl (hrun _ ?_),?_,.ext _ _ (.tup [] [] .nil)⟩
    ·simp only [Builtin.clear_,List.getElem?_toArray,hts];simp [run_underlying hT]
    ·have:B.over off (List.replicate 0 z)=B:=by simp [Box.over]
     rw [this];simp only [Qan,List.foldl_cons,List.foldl_nil,Eff.on];have hs:st.setBox b B=st:=Qh1 hB;rw [hs];exact h
   ·refine⟨.tuple #[],_,ρ,im,.inl (hrun _ ?_),m3,.ext _ _ (.tup [] [] .nil)⟩;rw [←d3];simp only [Builtin.clear_,List.getElem?_toArray,hts];cases len with
    |zero=>exact absurd rfl hl0
    |succ len=>
     rw [←hzero]at hst ⊢;simp only [List.getElem?_cons_zero];simp [run_underlying hT,Qe3 hi hz2];rw [List.append_assoc]at hst;rw [hst];simp
 |_=>cases e6
theorem Qnc {P:Program} {f:Value→ByteArray→Sem (ForInStep ByteArray)} (hf: ∀n s,f (.int .u8 n) s=pure (.yield (s.push (UInt8.ofNat n.toNat)))): ∀(xs:List PV) (bs:List UInt8) (us:List Value) (s:ByteArray),Qdm xs=some bs→RepL w im xs us→
  (forIn us s f).run P w= .ok ⟨s.data++bs.toArray⟩ w
 | [],bs,us,s,h,hr=>by
  simp [Qdm]at h;subst h;cases hr;simp
 |x::xs,bs,us,s,h,hr=>by
  unfold Qdm at h;split at h
  ·rename_i e;cases e
  ·rename_i n xs' e;cases e;split at h
   ·rename_i bs' hb;cases h;cases hr with
    |cons _ u _ us h1 t=>
     cases h1;have ih:=Qnc (P:=P) hf xs bs' us (s.push (UInt8.ofNat n.toNat)) hb t;simp only [List.forIn_cons,Sem.run_bind,hf,Sem.run_pure,Result.andThen_ok];rw [ih];congr 2;simp [ByteArray.push]
   ·cases h
  ·cases h
theorem Zcq {s d:TypeId} {x:Operand} {v r:PV} {es:List Eff} {l:Acc} (ho:o.op= .convert s d x) (h:Rel' C st a w ρ im) (hx:LR w im ρ v (a.eval x)) (he:Qqs C.P s d v st.box=some (.done r es,l)):Does C (Qan es st) a w (execOp a.eval o) r:=by
 unfold Qqs at he;revert he;cases hv:Qm3 C.P s d v with
 |some v'=>
  intro he;obtain⟨e,_⟩:=M.pure_some he;cases e;exact Qbf h (Zci ho hx hv)
 |none=>
  intro he;obtain⟨_,_,_,e1,e2,_⟩:=M.bind_some he;obtain⟨c1,_⟩:=M.ok_some e1;obtain⟨⟨y,fs⟩,_,_,e3,e4,_⟩:=M.bind_some e2;obtain⟨im1,g1,r1⟩:=Qhh h (fun _=>rfl) hx e3;cases y with
  |slc xs=>
   obtain⟨bs,_,_,e5,e6,_⟩:=M.bind_some e4;obtain⟨c2,_⟩:=M.ofOpt_some e5;obtain⟨e7,_⟩:=M.pure_some e6;cases e7;unfold Qwe at c1;split at c1
   ·rename_i e hd hs;split at c1
    ·rename_i he8;refine⟨.string ⟨bs.toArray⟩,w,ρ,im,.inl ?_,h,.ext _ _ (.str _)⟩;have hone: ∀e∈xs,e.cells.length=1:=by
      have: ∀(xs:List PV) (bs:List UInt8),Qdm xs=some bs→ ∀e∈xs,e.cells.length=1:=by
       intro xs
       induction xs with
       |nil=>simp
       |cons x xs ih=>
        intro bs hb e he;unfold Qdm at hb;split at hb
        ·rename_i q;cases q
        ·rename_i q;cases q;split at hb
         ·rename_i hb2;rcases List.mem_cons.1 he with rfl|he
          ·rfl
          ·exact ih _ hb2 e he
         ·cases hb
        ·cases hb
      exact this xs bs c2
     have hflat:xs.flatMap PV.cells=xs:=by
      have: ∀(xs:List PV) (bs:List UInt8),Qdm xs=some bs→xs.flatMap PV.cells=xs:=by
       intro xs
       induction xs with
       |nil=>simp
       |cons x xs ih=>
        intro bs hb;unfold Qdm at hb;split at hb
        ·rename_i q;cases q
        ·rename_i q;cases q;split at hb
         ·rename_i hb2;rw [List.flatMap_cons,ih _ hb2];rfl
         ·cases hb
        ·cases hb
      exact this xs bs c2
     rcases r1.slc_cells with⟨rfl,c,hu⟩|⟨A,cap,vs,sz',hu,_,hz',hc,hr,_⟩
     ·simp [Qdm]at c2;subst c2;simp only [execOp,ho,hu];simp [convert,run_underlying hs,run_underlying hd,run_underlying he8,Conv.bytesToString];rfl
     ·rw [hflat]at hr;have hl:=run_loadCells_list (P:=C.P) w A vs hc;rw [←hr.length]at hl;simp only [execOp,ho,hu];simp [convert,run_underlying hs,run_underlying hd,run_underlying he8,Conv.bytesToString,hl];rw [Qnc (fun _ _=>rfl) xs bs vs ByteArray.empty c2 hr];simp only [Result.andThen_ok];congr 4;exact Array.empty_append
    ·cases c1
   ·cases c1
  |_=>cases e4
end
theorem Qda.of_newL {own:Nat→Prop} {w:World} {im:Im} {ρ:Rho} {B:Box} {g:Nat} {us rest:List Value} (hb:own g) (hg:w.heap[g]? =some (Obj.cells (us++rest).toArray B.ety (0,0)))
  (hf:B.fro≤B.els.length) (hz:0<B.esz) (he: ∀e∈B.els,e.cells.length=B.esz) (hr:LRL w im ρ (B.els.flatMap PV.cells) us) (ha:B.arr=false) (ho: ∀u∈us,u.oneCell'=true)
  (hi: ∀j,j<B.fro*B.esz→im g j) (hl:B.live=true) (hni: ∀j,B.fro*B.esz≤j→ ¬im g j) (hmp:B.mp=none:=by rfl):Qda own w im ρ B (some g):=
 ⟨hb,hf,hz,he,.inl ⟨hmp,(us++rest).toArray,us,rest,hg,by simp,hr,fun(e:B.arr=true)=>absurd (ha.symm.trans e) (by decide),ho,fun j _ hh=>hi j (hh.elim id fun x=>by rw [hl]at x;cases x),fun _=>hni⟩⟩
theorem Rel'.append_newD {C:Ctx} {st:St} {a:Act} {w:World} {ρ:Rho} {im:Im} (h:Rel' C st a w ρ im) {id:Nat} {els:List PV} {esz E:Nat} {us rest:List Value}
  (hidL:id<LENT) (hid:st.box id=none) (hz:0<esz) (he: ∀e∈els,e.cells.length=esz) (hr:LRL w im ρ (els.flatMap PV.cells) us) (ho:(els.flatMap PV.cells).all PV.okCell=true)
  (n cap:Nat) (hn:n≤els.length) (hlen:els.length≤cap) (hcap:cap*esz≤us.length+rest.length) (hm:cap≤maxLen):
  ∃ρ' im',Rel' C (st.setBox id {els:=els,esz:=esz,ety:=E,fro:=n,live:=true,arr:=false}) a (w.drew.alloc (.cells (us++rest).toArray E)) ρ' im'∧
   LR (w.drew.alloc (.cells (us++rest).toArray E)) im' ρ' (.bs id esz 0 els.length) (.slice (some ⟨w.heap.size,0,none⟩) els.length cap):=by
 have hbl:Below w.heap.size w (w.drew.alloc (.cells (us++rest).toArray E)):=((Below.refl _ _).drew).alloc (Nat.le_refl _) _;have hg:(w.drew.alloc (.cells (us++rest).toArray E)).heap[w.heap.size]? =some (Obj.cells (us++rest).toArray E (0,0)):=heap_alloc_new w.drew _;generalize hw':w.drew.alloc (.cells (us++rest).toArray E)=w' at*;have h':=h.below_call hbl;have hk:Keeps im w w':=Keeps.of_below hbl h.imc;have hni: ∀j,¬im w.heap.size j:=fun j hj=>by
  obtain⟨u,hu⟩:=h.imc _ _ hj;have:=World.block_lt_of_cell? w _ hu;simp at this
 have hul:us.length=els.length*esz:=by rw [←hr.length,Qau he]
 have hnb:n*esz≤els.length*esz:=Nat.mul_le_mul_right _ hn;have h2:Rel' C st a w' ρ (fun g j=>im g j∨(g=w.heap.size∧j<n*esz)):=by
  refine h.grow (.of_below hbl) hk h' (fun _ _ x=> .inl x) ?_;rintro g j (x|⟨rfl,x⟩)
  ·exact .inl x
  ·refine .inr ⟨Nat.le_refl _,⟨us[j]'(by omega),?_⟩,fun b hb=> ?_⟩
   ·rw [cell_of_row _ _ _ _ _ _ hg,List.getElem?_toArray,List.getElem?_append_left (by omega)];simp
   ·have:=(h.block_lt hb).1;omega
 have hB:Qda C.own w' (fun g j=>im g j∨(g=w.heap.size∧j<n*esz)) ρ {els:=els,esz:=esz,ety:=E,fro:=n,live:=true,arr:=false} (some w.heap.size):=
  Qda.of_newL (us:=us) (rest:=rest) (.inl h.root.below.size) hg hn hz he (hr.mono hk (fun _ _ x=> .inl x) fun _ _ x=>x) rfl (hr.oneCells ho) (fun j hj=> .inr ⟨rfl,hj⟩) rfl
   (fun j hj x=>x.elim (hni j) fun y=>by have:=y.2;simp at hj;omega)
 obtain⟨h3,h4⟩:=h.addBox ⟨.of_below hbl,hk,fun _ x=> .inl x,fun _ _ x=> .inl x,fun g j x=>x.elim .inl fun y=> .inr (.inr (Nat.le_of_eq y.1.symm))⟩ h2 hidL hid _ _ (fun g e=> .inr (by cases e;exact Nat.le_refl _)) hB (fun b' g B' e1 e2 _=>by cases e1;have:=(h.block_lt e2).1;omega);refine⟨_,_,h3,?_⟩;exact .bs id esz 0 els.length w.heap.size 0 cap _ E (Qao _ _ _) hg (by simp) (by simp;omega) hlen hm
theorem Rel'.appendD {C:Ctx} {st:St} {a:Act} {w:World} {ρ:Rho} {im:Im} (h:Rel' C st a w ρ im) {b id:Nat} {B:Box} {T ty:TypeId} {i:TypeInfo} {z:Value} {xs:List PV} {u:Value} {Ax:Addr} {capx:Nat} {vsx:List Value}
  (ht:C.P.underlying T=some (.slice B.ety)) (hi:C.P.info? B.ety=some i) (hz:i.zero=some z) (hsz:i.size=B.esz) (hzs:z.cells.size=i.size)
  (hB:st.box b=some B) (hl:B.live=true) (hu:LR w im ρ (.bs b B.esz 0 B.els.length) u) (hcx: ∀j v,vsx[j]? =some v→w.cell? (Ax.add j)=some v) (hrx:LRL w im ρ (xs.flatMap PV.cells) vsx) (hxs:xs≠ []) (hBs:B.els≠ [])
  (hxz: ∀e∈xs,e.cells.length=B.esz) (hok:(B.els.flatMap PV.cells).all PV.okCell=true) (hokx:(xs.flatMap PV.cells).all PV.okCell=true)
  (hidL:id<LENT) (hid:st.box id=none) (hby:(B.els.length+xs.length)*i.bytes≤140737488355328) (h63:B.els.length+xs.length≤maxLen):
  ∃v' w' ρ' im',(Builtin.append_ #[T,T] ty #[u,.slice (some Ax) xs.length capx]).run C.P w= .ok v' w'∧
   Rel' C ((st.setBox b {B with els:=[],fro:=0,live:=false}).setBox id {els:=B.els++xs,esz:=B.esz,ety:=B.ety,fro:=B.fro,live:=true,arr:=false}) a w' ρ' im'∧
   LR w' im' ρ' (.bs id B.esz 0 (B.els.length+xs.length)) v':=by
 have hsmall:((B.els.length+xs.length:Nat):Int)≤9223372036854775807:=by simp only [maxLen]at h63;omega
 have hbid:id≠b:=by rintro rfl;rw [hB]at hid;cases hid
 cases hr0:ρ b with
 |none=>rw [(h.rho b).1 hr0]at hB;cases hB
 |some loc=>
 have hbox:=h.box b loc B hr0 hB;have hcl: ∀g,loc=some g→ ∃cur e,w.heap[g]? =some (Obj.cells cur e (0,0)):=by
  rintro g rfl;rcases hu.bs_inv with⟨e,_⟩|⟨g',_,cur,e,hh,_,ho,_⟩
  ·rw [hr0]at e;cases e
  ·rw [hr0]at hh;cases hh;exact⟨cur,e,ho⟩
 have h1:=h.stale hr0 hB hcl;generalize hst1:st.setBox b {B with els:=[],fro:=0,live:=false}=st1 at*;have hid1:st1.box id=none:=by rw [←hst1];simp [St.setBox,Qal _ _ _ _ hbid,hid]
 have hdead: ∀b' g B',loc=some g→ρ b'=some (some g)→st1.box b'=some B'→B'.live=false:=by
  intro b' g B' e1 e2 e3;by_cases y:b'=b
  ·subst y;rw [←hst1]at e3;simp only [St.setBox,Qao,Option.some.injEq]at e3;rw [←e3]
  ·rw [←hst1]at e3;simp only [St.setBox,Qal _ _ _ _ y]at e3;cases hBl:B'.live with
   |false=>rfl
   |true=>exact absurd (h.inj b' b g B' B e2 (by rw [hr0,e1]) e3 hB hBl hl) y
 have hlenapp:(B.els++xs).length=B.els.length+xs.length:=by simp
 have heall:0<B.esz∧(∀e∈B.els,e.cells.length=B.esz):=by
  cases loc with
  |none=>obtain⟨z1,_,_,z4⟩:=hbox;exact⟨z4,by rw [z1];simp⟩
  |some g=>obtain⟨_,_,h3,h4,_⟩:=hbox;exact⟨h3,h4⟩
 have heapp: ∀e∈B.els++xs,e.cells.length=B.esz:=by
  intro e he;rcases List.mem_append.1 he with y|y
  ·exact heall.2 e y
  ·exact hxz e y
 have hokapp:((B.els++xs).flatMap PV.cells).all PV.okCell=true:=by rw [Qeo,List.all_append,hok,hokx];rfl
 have himp: ∀g j,im g j→im g j:=fun _ _ y=>y;have hvl:vsx.length=xs.length*B.esz:=by rw [←hrx.length,Qau hxz]
 have hox: ∀v∈vsx,v.oneCell'=true:=hrx.oneCells hokx;cases loc with
 |none=>exact absurd hbox.1 hBs
 |some g=>
  obtain⟨b1,b2,b3,b4,⟨hmn,cur,us,rest,b5,b6,b7,b8,b9,b10,b11⟩|hm⟩:=hbox
  case inr=>obtain⟨_,_,y⟩:=hcl g rfl;exact(hm.not_cells y).elim
  obtain⟨cap,hu0,hcap1,hcap2,hcap3⟩: ∃cap,u= .slice (some ⟨g,0,none⟩) B.els.length cap∧cap*B.esz≤cur.size∧B.els.length≤cap∧cap≤maxLen:=by
   rcases hu.bs_inv with⟨hh,_⟩|⟨g',cap,cur',e,hh,e1,ho,hc,hl',hm⟩
   ·rw [hr0]at hh;cases hh
   ·rw [hr0]at hh;cases hh;rw [b5]at ho;cases ho;rw [Nat.zero_mul]at e1;exact⟨cap,e1,by simpa using hc,hl',hm⟩
  subst hu0;have hul:us.length=B.els.length*B.esz:=by rw [←b7.length,Qau b4]
  have hcs:cur.size=us.length+rest.length:=by rw [←Array.length_toList,b6];simp
  have hrepB:LRL w im ρ (B.els.flatMap PV.cells) us:=b7;have happ:LRL w im ρ ((B.els++xs).flatMap PV.cells) (us++vsx):=by
   rw [Qeo];exact hrepB.append hrx
  by_cases hroom:B.els.length+xs.length≤cap
  ·have hmulr:(B.els.length+xs.length)*B.esz≤cap*B.esz:=Nat.mul_le_mul_right _ hroom;have hsum:(B.els.length+xs.length)*B.esz=B.els.length*B.esz+xs.length*B.esz:=Nat.add_mul _ _ _;have hrun:=run_append_room (P:=C.P) w T ty B.ety i ht hi g B.els.length cap cur b5 Ax xs.length capx vsx (by rw [hsz];exact hvl) hcx hox hroom (by rw [hsz];omega);rw [hsz]at hrun;have hcur':(cur.toList.take (B.els.length*B.esz)++vsx++cur.toList.drop (B.els.length*B.esz+vsx.length))=(us++vsx)++cur.toList.drop (B.els.length*B.esz+vsx.length):=by
    congr 2;rw [b6,←hul];simp
   rw [hcur']at hrun;have hsz':((us++vsx)++cur.toList.drop (B.els.length*B.esz+vsx.length)).toArray.size=cur.size:=by simp;omega
   have hk:Keeps im w (w.setRow g ((us++vsx)++cur.toList.drop (B.els.length*B.esz+vsx.length)).toArray):=by
    refine Keeps.setRow b5 hsz' ?_;intro j hj;have hj':j<B.els.length*B.esz:=by
     rcases Nat.lt_or_ge j (B.fro*B.esz)with y|y
     ·have:B.fro*B.esz≤B.els.length*B.esz:=Nat.mul_le_mul_right _ b2;omega
     ·exact absurd hj (b11 hl j y)
    rw [←hcur',List.getElem?_toArray,Qe7 _ _ _ _ (by simp;omega) (.inl hj'),Array.getElem?_toList]
   have hg':=setRow_heap w g cur ((us++vsx)++cur.toList.drop (B.els.length*B.esz+vsx.length)).toArray B.ety _ b5;have hlr:=Lent.setRow (w:=w) (X:=Own ρ) ⟨b,hr0⟩ w.heap.size ((us++vsx)++cur.toList.drop (B.els.length*B.esz+vsx.length)).toArray;have h2:=h1.world (w':=w.setRow g ((us++vsx)++cur.toList.drop (B.els.length*B.esz+vsx.length)).toArray) hlr hk (by
    intro b' g' B' e1 e2 e3;by_cases y:g'=g
    ·subst y;rw [hdead b' g' B' rfl e1 e2]at e3;cases e3
    ·exact Qcl w g g' _ y)
   have hBA:Qda C.own (w.setRow g ((us++vsx)++cur.toList.drop (B.els.length*B.esz+vsx.length)).toArray) im ρ
     {els:=B.els++xs,esz:=B.esz,ety:=B.ety,fro:=B.fro,live:=true,arr:=false} (some g):=
    Qda.of_newL (B:={els:=B.els++xs,esz:=B.esz,ety:=B.ety,fro:=B.fro,live:=true,arr:=false}) (us:=us++vsx) (rest:=cur.toList.drop (B.els.length*B.esz+vsx.length)) b1 hg' (by simp;omega) b3 heapp (happ.mono hk (fun _ _ y=>y) fun _ _ y=>y) rfl
     (by
      intro v hv;rcases List.mem_append.1 hv with y|y
      ·exact b9 v y
      ·exact hox v y) (fun j hj=>b10 j (by
        have:B.fro*B.esz≤B.els.length*B.esz:=Nat.mul_le_mul_right _ b2;have hj':j<B.fro*B.esz:=hj;omega) (.inl hj)) rfl (by
      intro j hj y;exact b11 hl j hj y)
   obtain⟨h3,h4⟩:=h1.addBox ⟨hlr,hk,fun _ x=> .inl x,fun _ _ x=>x,fun _ _ x=> .inl x⟩ h2 hidL hid1 _ _ (fun g' e=> .inl ⟨b,by rw [hr0,e]⟩) hBA hdead;refine⟨_,_,_,_,hrun,h3,?_⟩;exact .bs id B.esz 0 (B.els.length+xs.length) g 0 cap _ B.ety (Qao _ _ _) hg' (by simp) (by rw [hsz'];omega) hroom hcap3
  ·have holds: ∀j v,us[j]? =some v→w.cell? ((⟨g,0,none⟩:Addr).add j)=some v:=by
    intro j v hv;have hj:j<us.length:=(List.getElem?_eq_some_iff.1 hv).1;have:(⟨g,0,none⟩:Addr).add j=⟨g,j,none⟩:=by unfold Addr.add;split<;>simp_all
    rw [this,cell_of_row _ _ _ _ _ _ b5,←Array.getElem?_toList,b6,List.getElem?_append_left hj,hv]
   have hrun:=run_append_grow (P:=C.P) w T ty B.ety i z ht hi hz ⟨g,0,none⟩ B.els.length cap us (by rw [hsz];exact hul) holds Ax xs.length capx vsx (by rw [hsz];exact hvl) hcx
    (by omega) hsmall (growslice_fits (by omega) hby)
   have hcapg:=grownCap_ge w (B.els.length+xs.length) cap B.ety;have hcapm:=grownCap_le_maxLen w (B.els.length+xs.length) cap B.ety h63;have hzc:(Builtin.zeroCells z.cells (grownCap w (B.els.length+xs.length) cap B.ety-(B.els.length+xs.length))).size=(grownCap w (B.els.length+xs.length) cap B.ety-(B.els.length+xs.length))*B.esz:=by rw [size_zeroCells,hzs,hsz]
   generalize grownCap w (B.els.length+xs.length) cap B.ety=ncap at*;generalize Builtin.zeroCells z.cells (ncap-(B.els.length+xs.length))=zc at*;have harr:us.toArray++vsx.toArray++zc=((us++vsx)++zc.toList).toArray:=by apply Array.ext';simp
   rw [harr]at hrun;have hmul:ncap*B.esz=(B.els.length+xs.length)*B.esz+(ncap-(B.els.length+xs.length))*B.esz:=by rw [←Nat.add_mul];congr 1;omega
   have hsum:(B.els.length+xs.length)*B.esz=B.els.length*B.esz+xs.length*B.esz:=Nat.add_mul _ _ _;obtain⟨ρ',im',e1,e2⟩:=h1.append_newD (els:=B.els++xs) (E:=B.ety) (us:=us++vsx) (rest:=zc.toList) hidL hid1 b3 heapp happ hokapp B.fro ncap
    (by simp;omega) (by rw [hlenapp];omega) (by simp;omega) hcapm
   rw [hlenapp]at e2;exact⟨_,_,ρ',im',hrun,e1,e2⟩
end Go.Vl
