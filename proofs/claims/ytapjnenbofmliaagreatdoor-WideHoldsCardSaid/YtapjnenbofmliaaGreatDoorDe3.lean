/-
  UQE, NK2, US3, NL1, US4, USj, NT1, NW16, De, De2, De3 (merged for the claim).
-/
import Derived.Test.YtapjnenbofmliaaGreatDoorUV
import Derived.IntWalk
import Derived.Test.YtapjnenbofmliaaGreatDoorNK1
import Derived.Test.YtapjnenbofmliaaGreatDoorNW4
import Derived.Lib.Join
import Derived.Lib.Repeat
import Derived.Lib.Strings
import Derived.Lib.ItoaMem
import Derived.Lib.ItoaNum
import Derived.Test.YtapjnenbofmliaaGreatDoorNA4
set_option linter.unusedSimpArgs false
set_option linter.unusedVariables false
namespace Go.Vl
abbrev Vars:=List (Nat×PV)
abbrev BoxL:=List (Nat×Box)
def insL {α:Type}:List (Nat×α)→Nat→α→List (Nat×α)
 | [],k,v=>[(k,v)]
 |(j,x)::l,k,v=>match Nat.beq j k with
  |true=>(k,v)::l
  |false=>(j,x)::insL l k v
theorem Qti {α:Type}: ∀(l:List (Nat×α)) (k:Nat) (v:α),lkp (insL l k v)=upd (lkp l) k (some v)
 | [],k,v=>by funext j;simp [insL,lkp,upd]
 |(i,x)::l,k,v=>by
  funext j;have ih:=congrFun (Qti l k v) j;simp only [insL];cases h:Nat.beq i k with
  |true=>
   have:=Nat.eq_of_beq_eq_true h;subst this;simp only [lkp,upd];split<;>simp_all
  |false=>
   have hne: ¬i=k:=fun e=>by subst e;simp [Nat.beq_refl]at h
   simp only [lkp,upd,ih];by_cases e1:j=i<;>by_cases e2:j=k<;>simp_all
noncomputable def frcN {α:Type} (n:Nat) (k:Nat→α):α:= @Nat.rec (fun _=>α) (k 0) (fun m _=>k (Nat.succ m)) n
theorem Qes {α:Type} (n:Nat) (k:Nat→α):frcN n k=k n:=by cases n<;>rfl
noncomputable def frcI {α:Type} (n:Int) (k:Int→α):α:= @Int.rec (fun _=>α) (fun m=>frcN m fun m=>k (.ofNat m)) (fun m=>frcN m fun m=>k (.negSucc m)) n
theorem Zbq {α:Type} (n:Int) (k:Int→α):frcI n k=k n:=by cases n<;>simp [frcI,Qes]
noncomputable def frcB {α:Type} (b:Bool) (k:Bool→α):α:= @Bool.rec (fun _=>α) (k false) (k true) b
theorem Q1v {α:Type} (b:Bool) (k:Bool→α):frcB b k=k b:=by cases b<;>rfl
noncomputable def frcL {α β:Type} (f:β→(β→α)→α) (l:List β):(List β→α)→α:=
 @List.rec β (fun _=>(List β→α)→α) (fun K=>K []) (fun v _ ih K=>f v fun v=>ih fun vs=>K (v::vs)) l
theorem Qrw {α β:Type} {f:β→(β→α)→α} (hf: ∀v K,f v K=K v) (l:List β) (K:List β→α):frcL f l K=K l:=by
 induction l generalizing K with
 |nil=>rfl
 |cons v vs ih=>
  show f v (fun v=>frcL f vs fun vs=>K (v::vs))=K (v::vs);rw [hf,ih]
noncomputable def frc1 {α:Type} (rec:PV→(PV→α)→α) (v:PV) (K:PV→α):α:= @PV.casesOn (fun _=>α) v
 (fun b=>frcB b fun b=>K (.bool b)) (fun k n=>frcI n fun n=>K (.int k n)) (fun s=>K (.str s)) (K .nilS)
 (fun es=>frcL rec es fun es=>K (.slc es)) (fun es=>frcL rec es fun es=>K (.agg es)) (fun es=>frcL rec es fun es=>K (.tup es))
 (fun f a c=>frcN f fun f=>frcL rec a fun a=>frcL rec c fun c=>K (.fn f a c)) (K .nilF) (fun es=>frcL rec es fun es=>K (.rp es))
 (fun b e i o=>frcN b fun b=>frcN e fun e=>frcN i fun i=>frcN o fun o=>K (.bp b e i o))
 (fun b e i o=>frcN b fun b=>frcN e fun e=>frcN i fun i=>frcN o fun o=>K (.bs b e i o)) (K .undef) (fun l s=>K (.yld l s)) (K .nilI) (fun b=>K (.mp b)) (K .nilM) (K .anyB) (K .nilP)
noncomputable def frc {α:Type} (d:Nat):PV→(PV→α)→α:= @Nat.rec (fun _=>PV→(PV→α)→α) (fun v K=>K v) (fun _ ih=>frc1 ih) d
theorem Qp5 {α:Type} (d:Nat) (v:PV) (K:PV→α):frc d v K=K v:=by
 induction d generalizing v K with
 |zero=>rfl
 |succ d ih=>
  show frc1 (frc d) v K=K v;cases v<;>simp only [frc1,Q1v,Zbq,Qes,Qrw ih]
noncomputable def Qiw {α:Type} (B:Box) (K:Box→α):α:=match B with
 |⟨els,esz,ety,fro,live,arr,mp⟩=>frcL (frc 6) els fun els=>frcN esz fun esz=>frcN fro fun fro=>frcB live fun live=>frcB arr fun arr=>K ⟨els,esz,ety,fro,live,arr,mp⟩
theorem Qfo {α:Type} (B:Box) (K:Box→α):Qiw B K=K B:=by cases B;simp only [Qiw,Q1v,Qes,Qrw (Qp5 6)]
theorem Qrx (m t j:Nat):(m ||| 2^t).testBit j=(m.testBit j||decide (t=j)):=by rw [Nat.testBit_or,Nat.testBit_two_pow]
noncomputable def frcS {α β:Type} (l:List (Nat×β)):Nat→(List (Nat×β)→α)→α:=
 @List.rec (Nat×β) (fun _=>Nat→(List (Nat×β)→α)→α) (fun _ K=>K []) (fun p _ ih m K=> @Bool.rec (fun _=>α) (frcN (m ||| 2^p.1) fun m=>ih m fun l=>K (p::l)) (ih m K) (m.testBit p.1)) l
theorem Zbr {α β:Type} (l:List (Nat×β)) (m:Nat) (K:List (Nat×β)→α): ∃l',frcS l m K=K l'∧ ∀t,m.testBit t=false→lkp l' t=lkp l t:=by
 induction l generalizing m K with
 |nil=>exact⟨[],rfl,fun _ _=>rfl⟩
 |cons p l ih=>
  have e:frcS (p::l) m K= @Bool.rec (fun _=>α) (frcN (m ||| 2^p.1) fun m=>frcS l m fun l=>K (p::l)) (frcS l m K) (m.testBit p.1):=rfl;rw [e];cases hb:m.testBit p.1 with
  |true=>
   obtain⟨l',h1,h2⟩:=ih m K;refine⟨l',h1,fun t ht=> ?_⟩;have hne: ¬t=p.1:=fun e=>by rw [e,hb]at ht;cases ht
   rw [h2 t ht];simp [lkp,hne]
  |false=>
   simp only [Qes];obtain⟨l',h1,h2⟩:=ih (m ||| 2^p.1) fun l=>K (p::l);refine⟨_,h1,fun t ht=> ?_⟩;obtain⟨k,v⟩:=p;simp only [lkp];by_cases hk:t=k
   ·simp [hk]
   ·simp only [if_neg hk];exact h2 t (by rw [Qrx,ht];simp;exact fun x=>hk x.symm)
theorem Zfn {α β:Type} (l:List (Nat×β)) (K:List (Nat×β)→α): ∃l',frcS l 0 K=K l'∧lkp l'=lkp l:=by
 obtain⟨l',h1,h2⟩:=Zbr l 0 K;exact⟨l',h1,funext fun t=>h2 t (by simp)⟩
noncomputable def effB {α:Type} (e:Eff) (bs:BoxL) (K:BoxL→Option α):Option α:=match e with
 | .new b B=>Qiw B fun B=>K (insL bs b B)
 | .wr b i v=>match lkp bs b with
  |some B=>Qiw {B with els:=B.els.set i v} fun B=>K (insL bs b B)
  |none=>K bs
 | .fro b n=>match lkp bs b with
  |some B=>Qiw {B with fro:=max B.fro n,live:=B.live&&true} fun B=>K (insL bs b B)
  |none=>K bs
 | .kill b=>match lkp bs b with
  |some B=>Qiw {B with els:=[],fro:=0,live:=false} fun B=>K (insL bs b B)
  |none=>K bs
 | .yld _=>none
noncomputable def Q75 {α:Type}:List Eff→BoxL→(BoxL→Option α)→Option α
 | [],bs,K=>K bs
 |e::es,bs,K=>effB e bs fun bs=>Q75 es bs K
theorem Zbs {α:Type} (e:Eff) (vs:Vars) (bs:BoxL) (K:BoxL→Option α) {x:α} (h:effB e bs K=some x): ∃bs',K bs'=some x∧e.on (St.of vs bs)=St.of vs bs':=by
 have hs: ∀b B,(St.of vs bs).setBox b B=St.of vs (insL bs b B):=fun b B=>by simp only [St.setBox,St.of,St.ofG,Qti]
 cases e with
 |new b B=>simp only [effB,Qfo]at h;exact⟨_,h,hs _ _⟩
 |wr b i v=>
  simp only [effB]at h;simp only [Eff.on,Qit];cases hb:lkp bs b with
  |some B=>simp only [hb,Qfo]at h;exact⟨_,h,hs _ _⟩
  |none=>simp only [hb]at h;exact⟨_,h,rfl⟩
 |fro b n=>
  simp only [effB]at h;simp only [Eff.on,Qit];cases hb:lkp bs b with
  |some B=>simp only [hb,Qfo]at h;exact⟨_,h,hs _ _⟩
  |none=>simp only [hb]at h;exact⟨_,h,rfl⟩
 |kill b=>
  simp only [effB]at h;simp only [Eff.on,Qit];cases hb:lkp bs b with
  |some B=>simp only [hb,Qfo]at h;exact⟨_,h,hs _ _⟩
  |none=>simp only [hb]at h;exact⟨_,h,rfl⟩
 |yld x=>cases h
theorem Qn3 {α:Type}: ∀(es:List Eff) (vs:Vars) (bs:BoxL) (K:BoxL→Option α) {x:α},Q75 es bs K=some x→ ∃bs',K bs'=some x∧Qak es (St.of vs bs)=St.of vs bs'
 | [],vs,bs,K,x,h=>⟨bs,h,rfl⟩
 |e::es,vs,bs,K,x,h=>by
  obtain⟨bs1,h1,h2⟩:=Zbs e vs bs _ h;obtain⟨bs2,h3,h4⟩:=Qn3 es vs bs1 K h1;refine⟨bs2,h3,?_⟩;rw [Qas,h2,h4]
def putL (vs:Vars):Option Tmp→PV→Vars
 |some t,v=>(t,v)::vs
 |none,_=>vs
theorem Qry (vs:Vars) (bs:BoxL) (d:Option Tmp) (v:PV):(St.of vs bs).put d v=St.of (putL vs d v) bs:=by
 cases d with
 |none=>rfl
 |some t=>rfl
noncomputable def lkR (l:Vars) (k:Nat):Option PV:= @List.rec (Nat×PV) (fun _=>Option PV) none (fun p _ ih=> @Bool.rec (fun _=>Option PV) ih (some p.2) (Nat.beq k p.1)) l
theorem Zd3 (l:Vars) (k:Nat):lkR l k=lkp l k:=by
 induction l with
 |nil=>rfl
 |cons p l ih=>
  have e:lkR (p::l) k= @Bool.rec (fun _=>Option PV) (lkR l k) (some p.2) (Nat.beq k p.1):=rfl;rw [e,ih];obtain⟨j,v⟩:=p;simp only [lkp];cases h:Nat.beq k j with
  |true=>simp [Nat.eq_of_beq_eq_true h]
  |false=>
   have hne: ¬k=j:=fun e=>by subst e;simp [Nat.beq_refl]at h
   simp [hne]
noncomputable def evK {α:Type} (vs:Vars) (xs:List Operand):(List PV→Option α)→Option α:=
 @List.rec Operand (fun _=>(List PV→Option α)→Option α) (fun K=>K []) (fun x _ ih K=>
  @Option.rec PV (fun _=>Option α) none (fun v=>ih fun l=>K (v::l)) (@Operand.casesOn (fun _=>Option PV) x (fun t=>lkR vs t) (fun c=>Qc3 c) (fun _=>none) (fun f=>some (.fn f [] [])))) xs
theorem Zd4 {α:Type} (vs:Vars) (bs:BoxL) (xs:List Operand) (K:List PV→Option α):evK vs xs K=match(St.of vs bs).evs xs with
  |some l=>K l
  |none=>none:=by
 induction xs generalizing K with
 |nil=>rfl
 |cons x xs ih=>
  have e:evK vs (x::xs) K= @Option.rec PV (fun _=>Option α) none (fun v=>evK vs xs fun l=>K (v::l)) (@Operand.casesOn (fun _=>Option PV) x (fun t=>lkR vs t) (fun c=>Qc3 c) (fun _=>none) (fun f=>some (.fn f [] []))):=rfl;have hx:(@Operand.casesOn (fun _=>Option PV) x (fun t=>lkR vs t) (fun c=>Qc3 c) (fun _=>none) (fun f=>some (.fn f [] [])))=(St.of vs bs).ev x:=by
   cases x<;>simp only [St.ev,St.of,St.ofG,Zd3]
  rw [e,hx];simp only [St.evs];cases (St.of vs bs).ev x with
  |none=>rfl
  |some v=>
   simp only [ih];cases (St.of vs bs).evs xs<;>rfl
def invM (κ:List (Nat×Nat)):List (Nat×Nat):=κ.map fun p=>(p.2,p.1)
theorem Q1w: ∀(κ:List (Nat×Nat)) (b:Nat),lkp (invM κ) b=rlk κ b
 | [],_=>rfl
 |(k,v)::l,b=>by
  have ih:=Q1w l b;simp only [invM,List.map_cons,lkp,rlk]at ih ⊢;rw [ih]
theorem Qet {κ:List (Nat×Nat)} (hκ:Qgg κ=true) {b b':Nat} (h:lkp κ b=some b'):lkp (invM κ) b'=some b:=by
 rw [Q1w];exact(Qbq hκ).1 h
theorem Q76 {κ:List (Nat×Nat)} (hκ:Qgg κ=true) {v v':PV} (h:ren0 κ v=some v'):ren0 (invM κ) v'=some v:=by
 cases v with
 |bp b esz i off=>
  simp only [ren0]at h;split at h
  ·rename_i b' hb;cases h;simp only [ren0,Qet hκ hb]
  ·cases h
 |bs b esz i off=>
  simp only [ren0]at h;split at h
  ·rename_i b' hb;cases h;simp only [ren0,Qet hκ hb]
  ·cases h
 |fn f a c=>
  cases a with
  |nil=>cases c with
   |nil=>cases h;rfl
   |cons=>cases h
  |cons=>cases h
 |agg=>cases h
 |tup=>cases h
 |mp b=>
  simp only [ren0]at h;split at h
  ·rename_i b' hb;cases h;simp only [ren0,Qet hκ hb]
  ·cases h
 |_=>cases h;rfl
theorem Qhk {κ:List (Nat×Nat)} (hκ:Qgg κ=true): ∀{vs vs':List PV},Qbv κ vs=some vs'→Qbv (invM κ) vs'=some vs
 | [],vs',h=>by cases h;rfl
 |v::vs,vs',h=>by
  unfold Qbv at h;split at h
  ·cases h
  ·rename_i x hx;split at h
   ·cases h
   ·rename_i xs hxs;cases h;simp only [Qbv,Q76 hκ hx,Qhk hκ hxs]
theorem Qtj {κ:List (Nat×Nat)} (hκ:Qgg κ=true) {v v':PV} (h:ren1 κ v=some v'):ren1 (invM κ) v'=some v:=by
 cases v with
 |agg cs=>
  simp only [ren1]at h;split at h
  ·rename_i xs hxs;cases h;simp only [ren1,Qhk hκ hxs]
  ·cases h
 |tup vs=>
  cases vs with
  |nil=>cases h;rfl
  |cons=>cases h
 |fn f a c=>
  simp only [ren1]at h;split at h
  ·cases h
  ·rename_i x hx;split at h
   ·cases h
   ·rename_i y hy;cases h;simp only [ren1,Qhk hκ hx,Qhk hκ hy]
 |bp b esz i off=>
  have h':ren0 κ (.bp b esz i off)=some v':=h;simp only [ren0]at h';split at h'
  ·rename_i b' hb;cases h';simp only [ren1,ren0,Qet hκ hb]
  ·cases h'
 |bs b esz i off=>
  have h':ren0 κ (.bs b esz i off)=some v':=h;simp only [ren0]at h';split at h'
  ·rename_i b' hb;cases h';simp only [ren1,ren0,Qet hκ hb]
  ·cases h'
 |mp b=>
  have h':ren0 κ (.mp b)=some v':=h;simp only [ren0]at h';split at h'
  ·rename_i b' hb;cases h';simp only [ren1,ren0,Qet hκ hb]
  ·cases h'
 |_=>cases h;rfl
def Q1x:Nat→BoxL→List (Nat×Nat)
 |_,[]=>[]
 |i,(b,_)::bs=>(b,500000+i)::Q1x (i+1) bs
def renV (κ:List (Nat×Nat)) (vs:Vars):Vars→Vars
 | []=>[]
 |(t,_)::r=>match lkp vs t with
  |some v=>match ren1 κ v with
   |some v'=>(t,v')::renV κ vs r
   |none=>renV κ vs r
  |none=>renV κ vs r
theorem Qn4 {κ:List (Nat×Nat)} (hκ:Qgg κ=true) (vs:Vars): ∀l:Vars,Qag (invM κ) vs (renV κ vs l)
 | []=>trivial
 |(t,_)::r=>by
  unfold renV;split
  ·rename_i v hv;split
   ·rename_i v' hv';refine⟨?_,Qn4 hκ vs r⟩;rw [hv];exact Qtj hκ hv'
   ·exact Qn4 hκ vs r
  ·exact Qn4 hκ vs r
def Q1y (κ:List (Nat×Nat)) (B:Box):Option Box:=match B.arr with
 |true=>some B
 |false=>match B.els with
  | [v]=>match ren1 κ v with
   |some v'=>if Qa1 v'.cells=true then some {B with els:=[v']}else none
   |none=>none
  |_=>none
theorem Q1z {κ:List (Nat×Nat)} (hκ:Qgg κ=true) {B B':Box} (h:Q1y κ B=some B'):Box.renames (invM κ) B' B:=by
 unfold Q1y at h;cases ha:B.arr with
 |true=>rw [ha]at h;cases h;exact⟨rfl,rfl,rfl,rfl,rfl,.inl ⟨ha,rfl⟩⟩
 |false=>
  rw [ha]at h;simp only at h;split at h
  ·rename_i v hv;split at h
   ·rename_i v' hv';split at h
    ·rename_i hok;cases h;exact⟨rfl,rfl,rfl,rfl,by first|rfl|(simp only [ha]),.inr ⟨by first|rfl|exact ha,v,v',rfl,hv,Qtj hκ hv',hok⟩⟩
    ·cases h
   ·cases h
  ·cases h
def renB (κ:List (Nat×Nat)) (bs:BoxL):BoxL→Option BoxL
 | []=>some []
 |(b,_)::r=>match lkp κ b,lkp bs b with
  |some b',some B=>match Q1y κ B,renB κ bs r with
   |some B',some l=>some ((b',B')::l)
   |_,_=>none
  |_,_=>none
theorem Q10 {κ:List (Nat×Nat)} (hκ:Qgg κ=true) (bs:BoxL): ∀(l bs':BoxL),renB κ bs l=some bs'→Qal (invM κ) bs bs'
 | [],bs',h=>by cases h;trivial
 |(b,_)::r,bs',h=>by
  unfold renB at h;split at h
  ·rename_i b' B hb hB;split at h
   ·rename_i B' l' hB' hl;cases h;refine⟨?_,Q10 hκ bs r l' hl⟩;rw [Qet hκ hb];simp only [hB];exact Q1z hκ hB'
   ·cases h
  ·cases h
def Q11 (vs:Vars) (bs:BoxL):Option (Vars×BoxL):=match renB (Q1x 0 bs) bs bs with
 |none=>none
 |some bs'=>match Qgg (Q1x 0 bs)&&Qnv (invM (Q1x 0 bs)) bs' with
  |true=>some (renV (Q1x 0 bs) vs vs,bs')
  |false=>none
theorem Q12 {vs vs':Vars} {bs bs':BoxL} (h:Q11 vs bs=some (vs',bs')):Le (St.of vs bs) (St.of vs' bs'):=by
 unfold Q11 at h;split at h
 ·cases h
 ·rename_i bs1 h1;split at h
  ·rename_i h2;cases h;simp only [Bool.and_eq_true]at h2;exact Qa0 h2.2 (Qn4 h2.1 vs vs) (Q10 h2.1 bs bs _ h1)
  ·cases h
noncomputable def Zbt {α:Type} (l:Vars):(Vars→α)→α:=
 @List.rec (Nat×PV) (fun _=>(Vars→α)→α) (fun K=>K []) (fun p _ ih K=>frcN p.1 fun t=>frc 6 p.2 fun v=>ih fun l=>K ((t,v)::l)) l
theorem Q77 {α:Type} (l:Vars) (K:Vars→α):Zbt l K=K l:=by
 induction l generalizing K with
 |nil=>rfl
 |cons p l ih=>
  show frcN p.1 (fun t=>frc 6 p.2 fun v=>Zbt l fun l=>K ((t,v)::l))=K (p::l);rw [Qes,Qp5,ih]
noncomputable def Zbu {α:Type} (l:BoxL):(BoxL→α)→α:=
 @List.rec (Nat×Box) (fun _=>(BoxL→α)→α) (fun K=>K []) (fun p _ ih K=>frcN p.1 fun t=>Qiw p.2 fun v=>ih fun l=>K ((t,v)::l)) l
theorem Q78 {α:Type} (l:BoxL) (K:BoxL→α):Zbu l K=K l:=by
 induction l generalizing K with
 |nil=>rfl
 |cons p l ih=>
  show frcN p.1 (fun t=>Qiw p.2 fun v=>Zbu l fun l=>K ((t,v)::l))=K (p::l);rw [Qes,Qfo,ih]
noncomputable def renK {α:Type} (vs:Vars) (bs:BoxL) (K:Vars→BoxL→α):α:=match bs with
 | []=>K vs []
 |b::r=>match Q11 vs (b::r)with
  |none=>K vs (b::r)
  |some (vs',bs')=>Zbt vs' fun vs'=>Zbu bs' fun bs'=>K vs' bs'
theorem Zbv {α:Type} (vs:Vars) (bs:BoxL) (K:Vars→BoxL→α): ∃vs' bs',renK vs bs K=K vs' bs'∧Le (St.of vs bs) (St.of vs' bs'):=by
 unfold renK;split
 ·exact⟨_,_,rfl,Le.refl _⟩
 ·split
  ·exact⟨_,_,rfl,Le.refl _⟩
  ·rename_i vs' bs' h;exact⟨vs',bs',by rw [Q77,Q78],Q12 h⟩
section
variable (P:Program) (call:FuncId→List PV→Option PV)
noncomputable def Qv5 {α:Type} (ops:Array Oper) (nt base:Nat):List Oper→Nat→Vars→BoxL→List Acc→(Vars→BoxL→List Acc→Option α)→Option α
 | [],_,vs,bs,accs,K=>K vs bs accs
 |o::rest,i,vs,bs,accs,K=>match Qpz nt o with
  |false=>none
  |true=>match Qbp ops o (St.of vs bs)with
   |none=>none
   |some false=>Qv5 ops nt base rest (i+1) (putL vs o.dst (.tup [])) bs ([]::accs) K
   |some true=>evK vs o.op.operands.toList fun xs=>match Qaz P [] (base+i) o.op xs (lkp bs)with
     |none=>none
     |some (.done v es,l)=>frc 6 v fun v=>Q75 es bs fun bs=>frcN i fun i=>Qv5 ops nt base rest (i+1) (putL vs o.dst v) bs ((l++Qbt es)::accs) K
     |some (.call f args es,l)=>frcN f fun f=>frcL (frc 6) args fun args=>match call f args with
      |none=>none
      |some r=>frc 6 r fun r=>Q75 (if Qev r then []else es) bs fun bs=>frcN i fun i=>Qv5 ops nt base rest (i+1) (putL vs o.dst r) bs ((l++Qbt es)::accs) K
     |some (_,_)=>none
theorem Qeu (hc: ∀f args r,call f args=some r→Qaf P f args r) {α:Type} (ops:Array Oper) (nt base:Nat): ∀(rest:List Oper) (i:Nat) (vs:Vars) (bs:BoxL) (accs:List Acc)
  (K:Vars→BoxL→List Acc→Option α) (x:α),Qv5 P call ops nt base rest i vs bs accs K=some x→
  ∃vs' bs' accs',K vs' bs' accs'=some x∧ ∀K':St→List Acc→Prop,K' (St.of vs' bs') accs'→vops P [] ops nt base i rest (St.of vs bs) accs K'
 | [],i,vs,bs,accs,K,x,h=>⟨vs,bs,accs,h,fun K' hk=>hk⟩
 |o::rest,i,vs,bs,accs,K,x,h=>by
  unfold Qv5 at h;cases hd:Qpz nt o with
  |false=>rw [hd]at h;cases h
  |true=>
   rw [hd]at h;simp only at h;cases hw:Qbp ops o (St.of vs bs)with
   |none=>rw [hw]at h;cases h
   |some b=>
    rw [hw]at h;cases b with
    |false=>
     obtain⟨vs',bs',accs',h1,h2⟩:=Qeu hc ops nt base rest (i+1) _ bs ([]::accs) K x h;refine⟨vs',bs',accs',h1,fun K' hk=> ?_⟩;simp only [vops];refine⟨hd,?_⟩;rw [hw];simp only [Qer,Qry];exact h2 K' hk
    |true=>
     simp only [Zd4 vs bs]at h;cases hv:(St.of vs bs).evs o.op.operands.toList with
     |none=>rw [hv]at h;cases h
     |some xs=>
      rw [hv]at h;simp only at h;cases ho:Qaz P [] (base+i) o.op xs (lkp bs)with
      |none=>rw [ho]at h;cases h
      |some p=>
       obtain⟨y,l⟩:=p;rw [ho]at h;cases y with
       |done v es=>
        simp only [Qp5,Qes]at h;obtain⟨bs1,e1,e2⟩:=Qn3 es vs bs _ h
        replace h:=e1
        obtain⟨vs',bs',accs',h1,h2⟩:=Qeu hc ops nt base rest (i+1) _ bs1 _ K x h;refine⟨vs',bs',accs',h1,fun K' hk=> ?_⟩;simp only [vops];refine⟨hd,?_⟩;rw [hw];simp only [Qer,hv,Qkw,Qit,Q1a,Za7,ho,Qvs,e2,Qry];exact h2 K' hk
       |call f args es=>
        simp only [Qp5,Qes,Qrw (Qp5 6)]at h;cases hcl:call f args with
        |none=>rw [hcl]at h;cases h
        |some r=>
         rw [hcl]at h;simp only at h;obtain⟨bs1,e1,e2⟩:=Qn3 (if Qev r then []else es) vs bs _ h
         replace h:=e1
         obtain⟨vs',bs',accs',h1,h2⟩:=Qeu hc ops nt base rest (i+1) _ bs1 _ K x h;refine⟨vs',bs',accs',h1,fun K' hk=> ?_⟩;simp only [vops];refine⟨hd,?_⟩;rw [hw];simp only [Qer,hv,Qkw,Qit,Q1a,Za7,ho,Qvs];refine⟨r,hc _ _ _ hcl,?_⟩;simp only [];rw [e2,Qry];exact h2 K' hk
       |callB=>cases h
       |yield=>cases h
noncomputable def evC (nt:Nat):Nat→Code→Vars→BoxL→Option (Exit×Vars×BoxL)
 |0,_,_,_=>none
 |n+1,c,vs,bs=>match c with
  | .skip=>some (.normal,vs,bs)
  | .label _=>some (.normal,vs,bs)
  | .exit id=>some (.exit id,vs,bs)
  | .ret=>some (.ret,vs,bs)
  | .seq a b=>match evC nt n a vs bs with
   |some (.normal,vs,bs)=>evC nt n b vs bs
   |r=>r
  | .region id ops draw=>match Nat.ble (100*id+ops.size) LENT with
   |false=>none
   |true=>frcN (100*id) fun base=>Qv5 P call ops nt base ops.toList 0 vs bs [] fun vs bs accs=>match draw with
   |false=>some (.normal,vs,bs)
   |true=>match Qis ops accs.reverse with
    |false=>none
    |true=>some (.normal,vs,bs)
  | .cond x a b=>match(St.of vs bs).ev x with
   |some (.bool true)=>evC nt n a vs bs
   |some (.bool false)=>evC nt n b vs bs
   |_=>none
  | .block id c=>match evC nt n c vs bs with
   |some (.exit i,vs,bs)=>if i=id then some (.normal,vs,bs)else some (.exit i,vs,bs)
   |r=>r
  | .loop c=>match evC nt n c vs bs with
   |some (.normal,vs,bs)=>frcS vs 0 fun vs=>renK vs bs fun vs bs=>evC nt n (.loop c) vs bs
   |r=>r
  |_=>none
def Lwp (P:Program) (nt:Nat) (c:Code) (Q:Exit→St→Prop) (st:St):Prop:=
 ∀(C:Ctx),C.P=P→C.nt=nt→ ∀(rd:RD C) (a:Act) (w:World),Rel C st a w→ ∀(b:Frame) (k:List Item) (cs:List Frame),b.roundOf=(FW rd.rd).round→(FW rd.rd).fn b.fn→(FW rd.rd).room (cs.length+1+0)→
  ∃e a' w',(∃st',Q e st'∧Rel C st' a' w')∧ArrivesIn (Machine.fenced C.P (FW rd.rd)) C.P (lone (b.atR a (.code c:: .inLoop c::k)) cs w) b k cs e a' w'
theorem Qv6 {P:Program} {nt:Nat} {c:Code} {Q:Exit→St→Prop} {st:St} (h:Lwp P nt c Q st):Vwp P nt (.loop c) Q st:=fun C h1 h2 rd a w hr=>by
 subst h1;subst h2;intro b k cs hro hb hroom;obtain⟨e,a',w',hq,harr⟩:=h C rfl rfl rd a w hr b k cs hro hb hroom;exact⟨e,a',w',hq,.of_steps (.one (fenced_calm hb hroom rfl) stepR_loop) harr⟩
theorem Q13 {P:Program} {nt:Nat} {c:Code} {Q:Exit→St→Prop} {st:St} (h:Vwp P nt c (vthen (Lwp P nt c Q) Q) st):Lwp P nt c Q st:=fun C h1 h2 rd a w hr=>by
 subst h1;subst h2;intro b k cs hro hb hroom;obtain⟨e,a₁,w₁,⟨s,hq,hr1⟩,harr⟩:=h C rfl rfl rd a w hr b (.inLoop c::k) cs hro hb hroom;cases e with
 |normal=>
  obtain⟨e₂,a₂,w₂,hq₂,harr₂⟩:=hq C rfl rfl rd a₁ w₁ hr1 b k cs hro hb hroom;exact⟨e₂,a₂,w₂,hq₂,.of_steps (StepsIn.trans harr (.one (fenced_calm hb hroom rfl) stepR_inLoop)) harr₂⟩
 |exit id=>exact⟨_,a₁,w₁,⟨s,hq,hr1⟩,.pass (x:= .inLoop c) rfl (fun _ _=> .inl (by simp)) harr⟩
 |goto l=>exact⟨_,a₁,w₁,⟨s,hq,hr1⟩,.pass (x:= .inLoop c) rfl (fun _ _=> .inl (by simp)) harr⟩
 |ret=>exact⟨_,a₁,w₁,⟨s,hq,hr1⟩,.pass (x:= .inLoop c) rfl (fun _ _=> .inl (by simp)) harr⟩
 |panic ch=>exact⟨_,a₁,w₁,⟨s,hq,hr1⟩,.pass (x:= .inLoop c) rfl (fun _ _=> .inl (by simp)) harr⟩
 |outgrown=>exact⟨_,a₁,w₁,⟨s,hq,hr1⟩,.pass (x:= .inLoop c) rfl (fun _ _=> .inl (by simp)) harr⟩
def Cwp (P:Program) (nt:Nat) (c:Code) (Q:Exit→St→Prop) (st:St):Prop:=Vwp P nt c Q st∧ ∀c',c= .loop c'→Lwp P nt c' Q st
theorem Qn5 (hm:P.follows .mixedOrders=true) (hc: ∀f args r,call f args=some r→Qaf P f args r) (nt:Nat): ∀(n:Nat) (c:Code) (vs:Vars) (bs:BoxL) (e:Exit) (vs':Vars) (bs':BoxL),
  evC P call nt n c vs bs=some (e,vs',bs')→ ∀Q:Exit→St→Prop,Q e (St.of vs' bs')→Cwp P nt c Q (St.of vs bs)
 |0,_,_,_,_,_,_,h,_,_=>by cases h
 |n+1,c,vs,bs,e,vs',bs',h,Q,hQ=>by
  have ih:=fun c vs bs e vs' bs' h Q hQ=>(Qn5 hm hc nt n c vs bs e vs' bs' h Q hQ).1;have ihl:=fun c vs bs e vs' bs' h Q hQ=>(Qn5 hm hc nt n (.loop c) vs bs e vs' bs' h Q hQ).2 c rfl;unfold evC at h;cases c with
  |skip=>cases h;exact⟨Qtc hQ,fun _ e=>by cases e⟩
  |label l=>cases h;exact⟨Qpw hQ,fun _ e=>by cases e⟩
  |exit id=>cases h;exact⟨Qtd hQ,fun _ e=>by cases e⟩
  |ret=>cases h;exact⟨Q07 hQ,fun _ e=>by cases e⟩
  |seq a b=>
   refine⟨?_,fun _ e=>by cases e⟩;simp only at h;cases ha:evC P call nt n a vs bs with
   |none=>rw [ha]at h;cases h
   |some p=>
    obtain⟨e1,vs1,bs1⟩:=p;rw [ha]at h;refine Q08 (ih a vs bs e1 vs1 bs1 ha _ ?_);cases e1 with
    |normal=>exact ih b vs1 bs1 e vs' bs' h Q hQ
    |_=>cases h;exact hQ
  |region id ops draw=>
   refine⟨?_,fun _ e=>by cases e⟩;cases hL:Nat.ble (100*id+ops.size) LENT with
   |false=>simp only [hL]at h;cases h
   |true=>
   simp only [hL,Qes]at h;obtain⟨vs1,bs1,accs1,h1,h2⟩:=Qeu P call hc ops nt (100*id) ops.toList 0 vs bs [] _ _ h;refine Qmg (tb:=[]) (100*id) hm (Nat.le_of_ble_eq_true hL) (h2 _ ?_);cases draw with
   |false=>cases h1;exact⟨fun x=>absurd x (by decide),hQ⟩
   |true=>
    simp only at h1;cases hd:Qis ops accs1.reverse with
    |false=>rw [hd]at h1;cases h1
    |true=>rw [hd]at h1;simp only at h1;cases h1;exact⟨fun _=>rfl,hQ⟩
  |cond x a b=>
   refine⟨?_,fun _ e=>by cases e⟩;simp only at h;split at h
   ·rename_i hx;exact Qji hx (by simpa using ih a vs bs e vs' bs' h Q hQ)
   ·rename_i hx;exact Qji hx (by simpa using ih b vs bs e vs' bs' h Q hQ)
   ·cases h
  |block id c=>
   refine⟨?_,fun _ e=>by cases e⟩;simp only at h;cases ha:evC P call nt n c vs bs with
   |none=>rw [ha]at h;cases h
   |some p=>
    obtain⟨e1,vs1,bs1⟩:=p;rw [ha]at h;refine Qpx (ih c vs bs e1 vs1 bs1 ha _ ?_);cases e1 with
    |exit i=>
     simp only at h;simp only [vblock];by_cases hi:i=id
     ·rw [if_pos hi]at h ⊢;cases h;exact hQ
     ·rw [if_neg hi]at h ⊢;cases h;exact hQ
    |_=>cases h;exact hQ
  |loop c=>
   have hl:Lwp P nt c Q (St.of vs bs):=by
    simp only at h;cases ha:evC P call nt n c vs bs with
    |none=>rw [ha]at h;cases h
    |some p=>
     obtain⟨e1,vs1,bs1⟩:=p;rw [ha]at h;refine Q13 (ih c vs bs e1 vs1 bs1 ha _ ?_);cases e1 with
     |normal=>
      obtain⟨vs2,h1,h2⟩:=Zfn vs1 fun vs=>renK vs bs1 fun vs bs=>evC P call nt n (.loop c) vs bs;simp only [h1]at h;obtain⟨vs3,bs3,h3,h4⟩:=Zbv vs2 bs1 fun vs bs=>evC P call nt n (.loop c) vs bs;rw [h3]at h;have:St.of vs1 bs1=St.of vs2 bs1:=by simp only [St.of,St.ofG,h2]
      show Lwp P nt c Q (St.of vs1 bs1);rw [this];have key:=ihl c vs3 bs3 e vs' bs' h Q hQ;exact fun C e1 e2 rd a w hr=>key C e1 e2 rd a w (h4 C a w hr)
     |_=>cases h;exact hQ
   exact⟨Qv6 hl,fun c' e=>by cases e;exact hl⟩
  |_=>cases h
theorem Q14 (hm:P.follows .mixedOrders=true) (hc: ∀f args r,call f args=some r→Qaf P f args r) (nt:Nat) (n:Nat) (c:Code) (vs:Vars) (bs:BoxL) (e:Exit) (vs':Vars) (bs':BoxL)
  (h:evC P call nt n c vs bs=some (e,vs',bs')) (Q:Exit→St→Prop) (hQ:Q e (St.of vs' bs')):Vwp P nt c Q (St.of vs bs):=(Qn5 P call hm hc nt n c vs bs e vs' bs' h Q hQ).1
end
noncomputable def evF (P:Program) (known:FuncId→List PV→Option PV) (fuel:Nat):Nat→FuncId→List PV→Option PV
 |0,_,_=>none
 |n+1,f,args=>match known f args with
  |some r=>some r
  |none=>match P.funcs[f]? with
   |none=>none
   |some fn=>match fn.body with
    |none=>none
    |some c=>match callable P f&&Nat.ble args.length fn.ntmps with
     |false=>none
     |true=>match evC P (evF P known fuel n) fn.ntmps fuel c (Qcc 0 args) []with
      |some (.ret,vs,bs)=>Qnx P fn.results.toList (St.of vs bs)
      |some (.normal,vs,bs)=>Qnx P fn.results.toList (St.of vs bs)
      |_=>none
theorem Qp6 {P:Program} {known:FuncId→List PV→Option PV} (hm:P.follows .mixedOrders=true) (hk: ∀f args r,known f args=some r→Qaf P f args r) (fuel:Nat): ∀(n:Nat) (f:FuncId) (args:List PV) (r:PV),
  evF P known fuel n f args=some r→Qaf P f args r
 |0,_,_,_,h=>by cases h
 |n+1,f,args,r,h=>by
  unfold evF at h;cases hkn:known f args with
  |some r'=>rw [hkn]at h;cases h;exact hk _ _ _ hkn
  |none=>
   rw [hkn]at h;simp only at h;cases hf:P.funcs[f]? with
   |none=>rw [hf]at h;cases h
   |some fn=>
    rw [hf]at h;simp only at h;cases hb:fn.body with
    |none=>rw [hb]at h;cases h
    |some c=>
     rw [hb]at h;simp only at h;cases hcl:callable P f&&Nat.ble args.length fn.ntmps with
     |false=>rw [hcl]at h;cases h
     |true=>
      rw [hcl]at h;simp only [Bool.and_eq_true]at hcl;simp only at h;have key: ∀e vs bs,(e= .ret∨e= .normal)→evC P (evF P known fuel n) fn.ntmps fuel c (Qcc 0 args) []=some (e,vs,bs)→Qnx P fn.results.toList (St.of vs bs)=some r→Qaf P f args r:=by
       intro e vs bs he h1 h2;refine Qth fn.ntmps fn.results.toList hf hb hcl.1 rfl rfl hcl.2 (Q14 P _ hm (fun f args r=>Qp6 hm hk fuel n f args r) fn.ntmps fuel c _ [] e vs bs h1 _ ?_);rcases he with rfl|rfl<;>simp only [vret,h2]
      split at h
      ·rename_i vs bs h1;exact key _ _ _ (.inl rfl) h1 h
      ·rename_i vs bs h1;exact key _ _ _ (.inr rfl) h1 h
      ·cases h
end Go.Vl

namespace Go.Proofs.YtapjnenbofmliaaGreatDoor
open Go.Vl Go.RowKit Go.Dg
def wsm (n:Int):PV:= .agg [.bool (decide (n<0)),.str ⟨(if n=0 then []else [UInt8.ofNat n.natAbs]).toArray⟩]
theorem Zcc (n:Int) (h:n.natAbs<256):wPV n=wsm n:=by
 unfold wPV wsm magL;by_cases h0:n=0
 ·subst h0;simp [Qan]
 ·rw [if_neg h0,Qdh (by decide) (by omega),Nat.mod_eq_of_lt h,Nat.div_eq_of_lt h,Qan];rfl
def Qok (f:FuncId) (args:List PV):Option PV:=
 match args with
 | [.int .i64 n]=>if f=27 then(if n.natAbs<256 then some (wsm n)else none)else none
 | [.str s,.int .i64 10,.int .i64 64]=>if f=47 then
   (match Lib.parseUintB 64 s.data.toList with
   | .ok u=>if s.size≤20 then some (.tup [.int .u64 (u:Int),.nilI])else none
   |_=>none)else none
 | [.int .u64 (.ofNat x),.int .u64 (.ofNat y),.int .u64 (.ofNat c)]=>
  if f=81 then(if c≤1 then some (.tup [.int .u64 (((x+y+c)%18446744073709551616:Nat):Int),.int .u64 (((x+y+c)/18446744073709551616:Nat):Int)])else none)
  else if f=103 then(if c≤1 then some (.tup [.int .u64 (((x+18446744073709551616-y-c)%18446744073709551616:Nat):Int),.int .u64 ((if x<y+c then 1 else 0:Nat):Int)])else none)
  else none
 |_=>none
theorem Qjw (f:FuncId) (args:List PV) (r:PV) (h:Qok f args=some r):Qaf Tryz.prog f args r:=by
 unfold Qok at h;split at h
 ·split at h
  ·rename_i e;split at h
   ·rename_i h2;cases h;subst e;rw [←Zcc _ h2];exact lw_v _ (by omega) (by omega)
   ·cases h
  ·cases h
 ·split at h
  ·rename_i e;split at h
   ·rename_i u hu;split at h
    ·cases h;subst e;exact Qgd _ (by omega) u hu
    ·cases h
   ·cases h
  ·cases h
 ·split at h
  ·rename_i e;split at h
   ·rename_i h2;cases h;subst e;exact Qjy _ _ _ h2
   ·cases h
  ·split at h
   ·rename_i e;split at h
    ·rename_i h2;cases h;subst e;exact Qqz _ _ _ h2
    ·cases h
   ·cases h
 ·cases h
theorem Qwv:Qaf Tryz.prog 7 [] (.bool true):=Qp6 mixed Qjw 1000 20 _ _ _ (by kernel_rfl)
end Go.Proofs.YtapjnenbofmliaaGreatDoor

namespace Go.Vl
open Go.RowKit
variable {P:Program} {tb:Tab} {nt:Nat} {ks:List Nat} {ops:Array Oper} {base i:Nat} {rest:List Oper} {accs:List Acc} {draw:Bool} {k:List It} {Q:Exit→St→Prop} {st:St}
theorem Qaa {dst:Option Tmp} {f f':FuncId} {args args':List PV} {es:List Eff} {l:Acc} {r:PV} (hs:Qaf P f' args' r) (hf:f'=f) (ha:args'=args)
  (h:gops P tb nt ks ops base (i+1) rest (l::accs) draw k Q ((Qak (if Qev r then []else es) st).put dst r)):gcall P tb nt ks f args es l ops base i dst rest accs draw k Q st:=by
 subst hf;subst ha;exact⟨r,hs,h⟩
end Go.Vl

namespace Go.Proofs.YtapjnenbofmliaaGreatDoor
open Go.Vl Go.RowKit Go.Dg
def wA (p:Bool×ByteArray):PV:= .agg [.bool p.1,.str p.2]
theorem Q8b (l:List (Bool×ByteArray)) (i:Nat) (h:i<l.length):(l.map wA)[i]? =some (.agg [.bool l[i].1,.str l[i].2]):=by
 rw [List.getElem?_map,List.getElem?_eq_getElem h];rfl
theorem Qww (l:List (Bool×ByteArray)) (hl:l.length≤1000):Qaf Tryz.prog 6 [.slc (l.map wA)] (.bool (l.all fun p=>decide (p.2.size≤60))):=by
 refine Qac (tb:=[]) 16 [.tmp 2] [0,2,4,5,6,7,8,14] mixed Tryz.func6 rfl (by kernel_rfl) (by kernel_rfl) (by kernel_rfl) (by kernel_rfl) ?_;simp -implicitDefEqProofs only [go_sem,seval,List.length_map];refine Qa7 mixed (fun i:{i:Nat // i≤l.length∧(l.take i).all (fun p=>decide (p.2.size≤60))=true}=>St.of [(5,.slc (l.map wA)),(6,.int .i64 (l.length:Int)),(7,.int .i64 (i.1:Int))] []) (fun i=>l.length-i.1) ⟨0,Nat.zero_le _,rfl⟩ ?_ ?_
 ·exact Qbc (by simp [Qag,lkp,ren1,ren0])
 ·rintro⟨i,hi,hall⟩;by_cases hA:i<l.length
  ·have hA':((i:Int)<(l.length:Int))=True:=by simp;omega
   have h0:(0≤(i:Int))=True:=by simp
   have hg:=Q8b l i hA;have hwk:=Qay (a:=i) (by omega);have htk:l.take (i+1)=l.take i++[l[i]]:=by rw [List.take_add_one];simp [hA]
   by_cases hs:l[i].2.size≤60
   ·have hs':((60:Int)<(l[i].2.size:Int))=False:=by simp only [eq_iff_iff,iff_false];omega
    simp -implicitDefEqProofs only [go_sem,seval,hA',h0,hg,Int.toNat_natCast,hs',hwk];refine⟨⟨i+1,hA,?_⟩,by simp only;omega,Qbc (by simp [Qag,lkp,ren1,ren0])⟩;rw [htk,List.all_append,hall];simp [hs]
   ·have hs':((60:Int)<(l[i].2.size:Int))=True:=by simp only [eq_iff_iff,iff_true];omega
    have e:(l.all fun p=>decide (p.2.size≤60))=false:=by
     rw [List.all_eq_false];exact⟨l[i],List.getElem_mem hA,by simp;omega⟩
    simp -implicitDefEqProofs only [go_sem,seval,hA',h0,hg,Int.toNat_natCast,hs',e]
  ·have hA':((i:Int)<(l.length:Int))=False:=by simp;omega
   rw [List.take_of_length_le (by omega)]at hall;simp -implicitDefEqProofs only [go_sem,seval,hA',hall]
theorem Qwx (l:List (Bool×ByteArray)) (hl:l.length≤1000):Qaf Tryz.prog 9 [.slc (l.map wA)] (.bool (l.all fun p=>Qa2 p.1 p.2.data.toList)):=by
 refine Qac (tb:=[]) 15 [.tmp 2] [0,2,4,5,6,7,8,13] mixed Tryz.func9 rfl (by kernel_rfl) (by kernel_rfl) (by kernel_rfl) (by kernel_rfl) ?_;simp -implicitDefEqProofs only [go_sem,seval,List.length_map];refine Qa7 mixed (fun i:{i:Nat // i≤l.length∧(l.take i).all (fun p=>Qa2 p.1 p.2.data.toList)=true}=>St.of [(5,.slc (l.map wA)),(6,.int .i64 (l.length:Int)),(7,.int .i64 (i.1:Int))] []) (fun i=>l.length-i.1) ⟨0,Nat.zero_le _,rfl⟩ ?_ ?_
 ·exact Qbc (by simp [Qag,lkp,ren1,ren0])
 ·rintro⟨i,hi,hall⟩;by_cases hA:i<l.length
  ·have hA':((i:Int)<(l.length:Int))=True:=by simp;omega
   have h0:(0≤(i:Int))=True:=by simp
   have hg:=Q8b l i hA;have hwk:=Qay (a:=i) (by omega);have htk:l.take (i+1)=l.take i++[l[i]]:=by rw [List.take_add_one];simp [hA]
   simp -implicitDefEqProofs only [go_sem,seval,hA',h0,hg,Int.toNat_natCast];refine Qab _ _ _ _ _ _ _ _ _ (Q60 l[i].1 l[i].2) ?_;cases hs:Qa2 l[i].1 l[i].2.data.toList with
   |true=>
    simp -implicitDefEqProofs only [go_sem,seval,hwk];refine⟨⟨i+1,hA,?_⟩,by simp only;omega,Qbc (by simp [Qag,lkp,ren1,ren0])⟩;rw [htk,List.all_append,hall];simp [hs]
   |false=>
    have e:(l.all fun p=>Qa2 p.1 p.2.data.toList)=false:=by
     rw [List.all_eq_false];exact⟨l[i],List.getElem_mem hA,by simp [hs]⟩
    simp -implicitDefEqProofs only [go_sem,seval,e]
  ·have hA':((i:Int)<(l.length:Int))=False:=by simp;omega
   rw [List.take_of_length_le (by omega)]at hall;simp -implicitDefEqProofs only [go_sem,seval,hA',hall]
theorem Zcd (a b:ByteArray):(a==b)=(a.data==b.data):=rfl
theorem Qwy (b:ByteArray):(b==b)=true:=by rw [Zcd];exact beq_self_eq_true _
end Go.Proofs.YtapjnenbofmliaaGreatDoor

namespace Go.Vl
open Go.RowKit
variable {P:Program} {tb:Tab} {nt:Nat} {ks:List Nat} {ops:Array Oper} {base i:Nat} {rest:List Oper} {accs:List Acc} {draw:Bool} {k:List It} {Q:Exit→St→Prop} {st:St}
theorem Qp8 {dst:Option Tmp} {f f':FuncId} {args args':List PV} {bxs bxsA:List (Nat×Box)} {es:List Eff} {θ ν:List (Nat×Nat)} {l:Acc} {r:PV} {bxs':List (Nat×Box)} (hs:Qdy P f' args' bxsA r bxs') (hf:f'=f) (ha:args'=args) (hb:bxsA=bxs)
  (h:gland P tb nt ks (land θ ν bxs' r) (Qhs r bxs') es l ops base i dst rest accs draw k Q st):Q1u P tb nt ks f args bxs es θ ν l ops base i dst rest accs draw k Q st:=by
 subst hf;subst ha;subst hb;exact Qbk _ _ _ _ _ _ _ _ _ hs h
end Go.Vl

namespace Go.Vl
open Go.RowKit
theorem Qv7 (xs:List ByteArray):(xs.map PV.str).flatMap PV.cells=xs.map PV.str:=by
 induction xs with
 |nil=>rfl
 |cons x xs ih=>simp only [List.map_cons,List.flatMap_cons,ih,PV.cells,List.singleton_append]
theorem Qtm {w:World} {im:Im}: ∀{xs:List ByteArray} {us:List Value},RepL w im (xs.map PV.str) us→us=xs.map Value.string
 | [],_,h=>by cases h;rfl
 |x::xs,_,h=>by
  cases h with
  |cons _ u _ us h t=>
   cases h;rw [Qtm t];rfl
theorem Qn7 {w:World} {im:Im} {a b:PV} {us:List Value} (h:RepL w im [a,b] us): ∃x y,us=[x,y]∧Rep w im a x∧Rep w im b y:=by
 cases h with
 |cons _ u _ us h t=>
 cases t with
 |cons _ v _ us k t=>
 cases t;exact⟨u,v,rfl,h,k⟩
theorem Qp9 {P:Program} {f:FuncId} (hc:callable P f=true)
  (hJ: ∀(bk o c:Nat) (xs:List ByteArray) (sep:ByteArray) (w:World),(∀(j:Nat) x,xs[j]? =some x→w.cell? ⟨bk,o+j,none⟩=some (.string x))→bk<w.heap.size→xs.length≤140737488355328→xs.length≤c→
   (Lib.join (xs.map (·.data.toList)) sep.data.toList).length≤140737488355328→
   Calls P f #[.slice (some ⟨bk,o,none⟩) xs.length c,.string sep] w fun e w'=>e= .returned (.string ⟨(Lib.join (xs.map (·.data.toList)) sep.data.toList).toArray⟩)∧Below w.heap.size w w')
  (xs:List ByteArray) (sep:ByteArray) (hne:xs≠ []) (hl:xs.length≤140737488355328) (hlen:(Lib.join (xs.map (·.data.toList)) sep.data.toList).length≤140737488355328):
  Qaf P f [.slc (xs.map PV.str),.str sep] (.str ⟨(Lib.join (xs.map (·.data.toList)) sep.data.toList).toArray⟩):=by
 refine .inl ⟨hc,fun w im us F hF hLd hr hi=> ?_⟩;obtain⟨x,y,rfl,h1,h2⟩:=Qn7 hr;cases h2;generalize hes:xs.map PV.str=es at h1;cases h1 with
 |slcNil c hm=>exact absurd (by simpa using hes) hne
 |slcE p c hm=>exact absurd (by simpa using hes) hne
 |slc _ g off len cap sz vs hn hm hz hii hcc hrr hcap=>
  subst hes;rw [Qv7]at hrr;have hvs:=Qtm hrr;have hlen2:xs.length=len:=by simpa using hn
  subst hlen2;have hpos:0<xs.length:=List.length_pos_iff.2 hne;have hcell: ∀(j:Nat) x,xs[j]? =some x→w.cell? ⟨g,off+j,none⟩=some (.string x):=fun j x hx=>by
   have hj:j<xs.length:=(List.getElem?_eq_some_iff.1 hx).1;have hj2:j<vs.length:=by rw [hvs];simpa using hj
   rw [hcc j hj2,hvs,List.getElem?_map,hx];rfl
  have hg:g<w.heap.size:=by
   have:=hcell 0 xs[0] (List.getElem?_eq_getElem hpos);exact World.block_lt_of_cell? w _ this
  refine(hJ g off cap xs sep w hcell hg hl hcap hlen).mono ?_;rintro e w' ⟨rfl,hb⟩;exact⟨_,rfl,hb,.str _⟩
theorem Qlk {P:Program} {f:FuncId} (hc:callable P f=true)
  (hR: ∀(s:ByteArray) (c:Nat) (w:World),c≤9223372036854775807→s.size*c≤140737488355328→
   Calls P f #[.string s,.int .i64 c] w fun e w'=>e= .returned (.string ⟨(Lib.repeatL s.data.toList c).toArray⟩)∧Below w.heap.size w w')
  (s:ByteArray) (c:Nat) (h1:c≤9223372036854775807) (h2:s.size*c≤140737488355328):Qaf P f [.str s,.int .i64 (c:Int)] (.str ⟨(Lib.repeatL s.data.toList c).toArray⟩):=by
 refine .inl ⟨hc,fun w im us F hF hLd hr hi=> ?_⟩;obtain⟨x,y,rfl,k1,k2⟩:=Qn7 hr;cases k1;cases k2;refine(hR s c w h1 h2).mono ?_;rintro e w' ⟨rfl,hb⟩;exact⟨_,rfl,hb,.str _⟩
theorem Qbz (l:List UInt8):(⟨l.toArray⟩:ByteArray).size=l.length:=by simp [ByteArray.size]
theorem Qqa (l:List UInt8) (i:Nat):(⟨l.toArray⟩:ByteArray)[i]? =l[i]? :=by
 by_cases h:i<l.length
 ·rw [List.getElem?_eq_getElem h,getElem?_pos _ i (by rw [Qbz];exact h)];congr 1
 ·rw [List.getElem?_eq_none (by omega),getElem?_neg _ i (by rw [Qbz];exact h)]
theorem Q15 (l:List UInt8):(⟨l.toArray⟩:ByteArray).toList=l:=by rw [Lib.toList_data]
theorem Qix (l:List UInt8) (a b:Nat):(⟨l.toArray⟩:ByteArray).extract a b=⟨((l.take b).drop a).toArray⟩:=by
 apply ByteArray.ext;rw [ByteArray.data_extract];apply Array.ext';simp [List.extract_eq_take_drop,List.drop_take]
theorem Q8o (s:ByteArray):s=⟨s.data.toList.toArray⟩:=by apply ByteArray.ext;simp
theorem Q16 (a b:List UInt8):(⟨a.toArray⟩:ByteArray)++(⟨b.toArray⟩:ByteArray)=⟨(a++b).toArray⟩:=by
 apply ByteArray.ext;simp
theorem Qk1 (a b:List UInt8) (h:a.length+b.length≤9223372036854775807):Qf4 .add ⟨a.toArray⟩ ⟨b.toArray⟩=some (.str ⟨(a++b).toArray⟩):=by
 unfold Qf4;simp only [Qbz,Q16];rw [if_neg];have:IntKind.i64.max=9223372036854775807:=rfl;omega
theorem Qk2 (a b:List UInt8):Qf4 .eql ⟨a.toArray⟩ ⟨b.toArray⟩=some (.bool (a==b)):=by simp only [Qf4,Q15]
theorem Q8p (a b:List UInt8):Qf4 .neq ⟨a.toArray⟩ ⟨b.toArray⟩=some (.bool !(a==b)):=by simp only [Qf4,Q15]
end Go.Vl

namespace Go.Proofs.YtapjnenbofmliaaGreatDoor
open Go.Vl Go.RowKit Go.Sort Go.Lib
theorem Zeo (w:World) (T:TypeId) (nd:Nat) (hs:nd≤24):Holds (fun(b:UInt8)=>Value.int .u8 (b.toNat:Int)) (w.alloc (.cells Lib.zeros24 T)) w.heap.size 0 (Array.replicate nd (0:UInt8)):=fun j hj=>by
 have hj':j<nd:=by simpa using hj
 refine⟨?_,World.frozen?_alloc_new _ _ _ _⟩;rw [World.cell?_alloc_new,Lib.zeros24_at _ (by omega),getElem!_pos _ j hj];simp
theorem fin0 (w:World) (o:Obj) (dk:Array UInt8) (k:Nat): ∃os,(putRow (fun(b:UInt8)=>Value.int .u8 (b.toNat:Int)) (w.alloc o) w.heap.size 0 dk).drewN k=grow (w.drewN k) os:=by
 rw [alloc_eq_grow];obtain⟨os',_,e⟩:=putRow_grow_new (fun(b:UInt8)=>Value.int .u8 (b.toNat:Int)) w #[o] w.heap.size 0 dk (Nat.le_refl _);exact⟨os',by rw [e];rfl⟩
set_option maxHeartbeats 6400000 in
set_option maxRecDepth 100000 in
theorem fmtU (u:Nat) (hu64:u<18446744073709551616) (w:World) (htab:Lib.TabIs Tryz.prog w "internal/strconv.uint64pow10" .u64 Lib.pow10Tab):
  Calls Tryz.prog 69 #[.int .u64 u,.int .i64 10] w fun e w'=>e= .returned (.string ⟨(Lib.decDigits u).toArray⟩)∧ ∃k os,w'=grow (w.drewN k) os:=by
 by_cases hs:u<100
 ·go_enter Tryz.func69,Tryz.ntmps69
  go_wp2_with fail
  refine(Tryz.internal_strconv_small u hs _).mono ?_;rintro e w' ⟨rfl,rfl⟩
  go_wp2_with fail
  go_ret
  exact⟨rfl,0, #[],by simp [World.drewN_zero]⟩
 ·have hu1:1≤u:=by omega
  have hnd20:Lib.nDigits u≤20:=by have:=Lib.numDigits_eq u hu1 hu64;split at this<;>omega
  have hb3:Lib.nDigits u≤24:=by omega
  have hal:Tryz.prog.arrayLen 124=24:=by kernel_rfl
  have hsl1: ∀W,(Instr.sliceAt 124 (.pointer (some ⟨w.heap.size,0,none⟩)) none (some (.int .i64 (Lib.nDigits u:Int))) none).run Tryz.prog W= .ok (.slice (some ⟨w.heap.size,0,none⟩) (Lib.nDigits u) 24) W:=fun W=>by
   rw [run_sliceAt_array_h W 124 ⟨w.heap.size,0,none⟩ (by kernel_rfl) .i64 (Lib.nDigits u:Int) (by omega) (by rw [hal];omega)]
   go_simp
  have hH0:=Zeo w 124 (Lib.nDigits u) (by omega);have hfmt:=Tryz.internal_strconv_formatBase10 w.heap.size 0 24 u (Array.replicate (Lib.nDigits u) 0) (w.alloc (.cells Lib.zeros24 124)) hH0 (by rw [Array.size_replicate];exact Lib.lt_pow_nDigits u) hu64 (by rw [Array.size_replicate];omega);rw [Array.size_replicate]at hfmt;have HH0:=Lib.hid hH0;clear hH0 hal
  go_enter Tryz.func69,Tryz.ntmps69
  go_wp2_with fail
  refine(Tryz.internal_strconv_numDigits u hu1 hu64 _ (Lib.tabIs_alloc htab _)).mono ?_;rintro e w' ⟨rfl,rfl⟩
  go_wp2_with fail
  refine hfmt.mono ?_;rintro e w' ⟨rfl,k,v',dk,rfl,hF⟩;have hcv:(convert 40 9 (.slice (some ⟨w.heap.size,0,none⟩) (Lib.nDigits u) 24)).run Tryz.prog ((putRow (fun(b:UInt8)=>Value.int .u8 (b.toNat:Int)) (w.alloc (.cells Lib.zeros24 124)) w.heap.size 0 dk).drewN k)= .ok (.string ⟨(Lib.decDigits u).toArray⟩) ((putRow (fun(b:UInt8)=>Value.int .u8 (b.toNat:Int)) (w.alloc (.cells Lib.zeros24 124)) w.heap.size 0 dk).drewN k):=by
   have h:=run_convert_bytes_back (P:=Tryz.prog) ((putRow (fun(b:UInt8)=>Value.int .u8 (b.toNat:Int)) (w.alloc (.cells Lib.zeros24 124)) w.heap.size 0 dk).drewN k) 40 9 5 ⟨w.heap.size,0,none⟩ 24 (Lib.decDigits u) (by kernel_rfl) (by kernel_rfl) (by kernel_rfl) (fun j hj=>by
    rw [Lib.row_is_numeral hF j hj,Lib.add_plain,World.cell?_drewN];exact cell?_putRow (fun(b:UInt8)=>Value.int .u8 (b.toNat:Int)) _ w.heap.size 0 _ dk HH0.out (by rw [hF.size,Array.size_replicate]) j (by rw [hF.size];rw [Lib.decDigits_length]at hj;exact hj))
   rw [Lib.decDigits_length]at h;exact h
  go_wp2
  go_ret
  obtain⟨os,eo⟩:=fin0 w (.cells Lib.zeros24 124) dk k;exact⟨rfl,k,os,eo⟩
theorem Qtv (w:World) (k:Nat) (os:Array Obj):Below w.heap.size w (grow (w.drewN k) os):=by
 have h:Below w.heap.size w (w.drewN k):=⟨rfl,rfl,rfl,Nat.le_refl _,fun _ _=>rfl⟩;exact⟨h.os,h.tape,h.output,by rw [size_grow];exact Nat.le_trans h.size (Nat.le_add_right _ _),fun j hj=>by rw [heap_grow_old _ _ (Nat.lt_of_lt_of_le hj h.size)];exact h.block j hj⟩
theorem Zcg (u:Nat) (hu:u<18446744073709551616):Qaf Tryz.prog 69 [.int .u64 (u:Int),.int .i64 10] (.str ⟨(Lib.decDigits u).toArray⟩):=by
 refine .inl ⟨by kernel_rfl,fun w im us F hF hLd hr hi=> ?_⟩;obtain⟨x,y,rfl,k1,k2⟩:=Qn7 hr;cases k1;cases k2;have htab:Lib.TabIs Tryz.prog w "internal/strconv.uint64pow10" .u64 Lib.pow10Tab:=by
  have e2:(Lib.pow10Tab.map fun z=>Value.int .u64 z).toArray=Qsq:=by kernel_rfl
  unfold Lib.TabIs;rw [e2];exact(hLd Qhr Qsq (.inl ⟨rfl,rfl⟩) 2 (by kernel_rfl)).2
 refine(fmtU u hu w htab).mono ?_;rintro e w' ⟨rfl,k,os,rfl⟩;exact⟨_,rfl,Qtv w k os,.str _⟩
theorem Zch (u:Nat) (hu:u<18446744073709551616):Qaf Tryz.prog 36 [.int .u64 (u:Int),.int .i64 10] (.str ⟨(Lib.decDigits u).toArray⟩):=by
 have h:=Zcg u hu;refine Qac (tb:=[]) 8 [.tmp 4] [0,1,4] mixed Tryz.func36 rfl (by kernel_rfl) (by kernel_rfl) (by kernel_rfl) (by kernel_rfl) ?_;repeat (first|(simp -implicitDefEqProofs only [go_sem,seval])|((with_reducible refine Qaa h ?_ ?_ ?_);rfl;rfl))
theorem Qsf (k:Nat) (hk:k≤1000):Qaf Tryz.prog 37 [.str ⟨#[48]⟩,.int .i64 (k:Int)] (.str ⟨(List.replicate k 48).toArray⟩):=by
 have hz:(⟨#[48]⟩:ByteArray).size=1:=rfl;have h:=Qlk (P:=Tryz.prog) (f:=37) (by kernel_rfl) (fun s c w h1 h2=>Tryz.strings_Repeat s c w h1 h2) ⟨#[48]⟩ k (by omega) (by rw [hz];omega);have e:Lib.repeatL ((⟨#[48]⟩:ByteArray).data.toList) k=List.replicate k 48:=by
  clear h hk hz
  induction k with
  |zero=>rfl
  |succ k ih=>
   rw [List.replicate_succ,←ih];rfl
 rw [e]at h;exact h
theorem Qw3 (l:List (List UInt8)):Lib.join l []=l.flatten:=by
 induction l with
 |nil=>rfl
 |cons a r ih=>
  cases r with
  |nil=>simp [Lib.join]
  |cons b r=>rw [List.flatten_cons,←ih];simp [Lib.join]
theorem Q8d (l:List (List UInt8)) (hne:l≠ []) (hl:l.length≤100000000) (hlen:l.flatten.length≤100000000):Qaf Tryz.prog 39 [.slc (l.map fun x=>PV.str ⟨x.toArray⟩),.str ⟨#[]⟩] (.str ⟨l.flatten.toArray⟩):=by
 have e:((l.map fun x=>(⟨x.toArray⟩:ByteArray)).map (·.data.toList))=l:=by rw [List.map_map];simp [Function.comp_def]
 have e2:Lib.join ((l.map fun x=>(⟨x.toArray⟩:ByteArray)).map (·.data.toList)) ((⟨#[]⟩:ByteArray).data.toList)=l.flatten:=by rw [e];exact Qw3 l
 have h:=Qp9 (P:=Tryz.prog) (f:=39) (by kernel_rfl) (fun bk o c xs sep w h1 h2 h3 h4 h5=>Tryz.strings_Join bk o c xs sep w h1 h2 h3 h4 h5) (l.map fun x=>⟨x.toArray⟩) ⟨#[]⟩ (by simpa using hne) (by rw [List.length_map];omega) (by rw [e2];omega);rw [e2,List.map_map]at h;exact h
end Go.Proofs.YtapjnenbofmliaaGreatDoor

namespace Go.Proofs.YtapjnenbofmliaaGreatDoor
open Go.Vl Go.RowKit Go.Dg
theorem Zar (x y:Nat) (hx:x<18446744073709551616) (hy:y<18446744073709551616):Qaf Tryz.prog 80 [.int .u64 x,.int .u64 y] (.tup [.int .u64 ((x*y/18446744073709551616:Nat):Int),.int .u64 ((x*y%18446744073709551616:Nat):Int)]):=by
 refine Qac (tb:=[]) 51 [.tmp 4,.tmp 5] [0,1,4,5,6,7,8,9,10,11,12,13] mixed Tryz.func80 rfl (by kernel_rfl) (by kernel_rfl) (by kernel_rfl) (by kernel_rfl) ?_;simp -implicitDefEqProofs only [go_sem,seval,Qco,Qn9,←Int.natCast_mul,←Int.natCast_add,Zej hx hy]
theorem Qz3 (a b:Nat):IntKind.u64.wrap ((a:Int)+(b:Int))=(((a+b)%18446744073709551616:Nat):Int):=by rw [←Int.natCast_add,Qco]
theorem Q6s {x y o c:Nat} (hx:x<18446744073709551616) (hy:y<18446744073709551616) (ho:o<18446744073709551616) (hc:c<18446744073709551616):
  ((x*y%18446744073709551616+o)%18446744073709551616+c)%18446744073709551616=(o+c+x*y)%18446744073709551616∧
  ((x*y/18446744073709551616+(x*y%18446744073709551616+o)/18446744073709551616)%18446744073709551616+((x*y%18446744073709551616+o)%18446744073709551616+c)/18446744073709551616)%18446744073709551616=(o+c+x*y)/18446744073709551616:=by
 have h:x*y≤18446744073709551615*18446744073709551615:=Nat.mul_le_mul (by omega) (by omega);generalize x*y=p at*;omega
set_option maxRecDepth 2000 in
theorem Qot (a b:Nat) (hab:(digs BW a).length+(digs BW b).length≤1000000000):Qaf Tryz.prog 48 [dw (digs BW a),dw (digs BW b)] (dw (digs BW (a*b))):=by
 refine Qac (tb:=[]) 80 [.tmp 4] [0,1,4,5,6,7,8,9,10,11,12,13,20,21,22,23,27,28,29,30] mixed Tryz.func48 rfl (by kernel_rfl) (by kernel_rfl) (by kernel_rfl) (by kernel_rfl) ?_;have hw0:=Qbx (a:=(digs BW a).length) (b:=(digs BW b).length) (by omega);have hn0:((0:Int)≤(((digs BW a).length+(digs BW b).length:Nat):Int))=True:=by simp only [eq_iff_iff,iff_true];omega
 have hn1:((8:Nat):Int)*(((digs BW a).length+(digs BW b).length:Nat):Int)≤281474976710656:=by omega
 have hn2:(((digs BW a).length+(digs BW b).length:Nat):Int)≤9223372036854775807:=by omega
 simp -implicitDefEqProofs only [go_sem,Nat.reduceAdd,Nat.reduceMul,Nat.reduceEqDiff,Nat.reduceLT,Nat.reduceLeDiff,reduceCtorEq,dw,List.length_map,hw0,hn0,hn1,hn2,Int.toNat_natCast];have hrep:List.replicate ((digs BW a).length+(digs BW b).length) (PV.int .u64 0)=(lows BW 0 ((digs BW a).length+(digs BW b).length)).map fW:=by rw [Qdf];simp
 rw [hrep];generalize hla:(digs BW a).length=la at*;generalize hlb:(digs BW b).length=lb at*;have hblt:b<BW^lb:=by rw [←hlb];exact Qaw BW_2 b
 refine Qa7 mixed (fun i:{i:Nat // i≤la}=>St.of [(0,dw (digs BW a)),(1,dw (digs BW b)),(4,.nilS),(5,.bs 105 1 0 (la+lb)),(20,dw (digs BW a)),(21,.int .i64 (la:Int)),(22,.int .i64 (i.1:Int))]
  [(105,{els:=(lows BW (a%BW^i.1*b) (la+lb)).map fW,esz:=1,ety:=66,fro:=0,live:=true,arr:=true})]) (fun i=>la-i.1) ⟨0,Nat.zero_le _⟩ ?_ ?_
 ·refine Qa0 (θ:=[(105,105)]) rfl ?_ ?_
  ·simp [Qag,lkp,ren1,ren0,dw]
  ·simp [Qal,lkp,Box.renames,Nat.mod_one]
 ·rintro⟨i,hi⟩;by_cases hA:i<la
  ·have hA':((i:Int)<(la:Int))=True:=by simp;omega
   have h0:(0≤(i:Int))=True:=by simp
   have hga:=Qam BW_2 (show i<(digs BW a).length by omega);simp -implicitDefEqProofs only [go_sem,Nat.reduceAdd,Nat.reduceMul,Nat.reduceEqDiff,Nat.reduceLT,Nat.reduceLeDiff,reduceCtorEq,dw,List.length_map,hlb,hA',h0,Qb2,hga,Int.toNat_natCast];generalize hS:a%BW^i*b=S at*;generalize hx:a/BW^i%BW=x at*;have hxl:x<BW:=by rw [←hx];exact Nat.mod_lt _ (by decide)
   refine Qa7 mixed (fun k:{k:Nat // k≤lb}=>St.of [(0,dw (digs BW a)),(1,dw (digs BW b)),(4,.nilS),(5,.bs 105 1 0 (la+lb)),(6,.int .i64 (i:Int)),(7,.int .u64 (x:Int)),(8,.int .u64 (mulC BW S x i b k.1:Int)),(20,dw (digs BW a)),(21,.int .i64 (la:Int)),(22,.int .i64 (i:Int)),(27,dw (digs BW b)),(28,.int .i64 (lb:Int)),(29,.int .i64 (k.1:Int))]
    [(105,{els:=(mix BW (mulV BW S x i b k.1) S (la+lb) (i+k.1)).map fW,esz:=1,ety:=66,fro:=0,live:=true,arr:=true})]) (fun k=>lb-k.1) ⟨0,Nat.zero_le _⟩ ?_ ?_
   ·refine Qa0 (θ:=[(105,105)]) rfl ?_ ?_
    ·simp [Qag,lkp,ren1,ren0,dw,Qjp]
    ·simp only [Qal,lkp,Box.renames,Qjo,Nat.add_zero,and_self,and_true,true_and,if_true];rw [Qdi (by decide) rfl];exact .inl rfl
   ·rintro⟨k,hk⟩;have hcl:=Qwj (B:=BW) (S:=S) (i:=i) (b:=b) (k:=k) (by decide) hxl;have hk0:(0≤(k:Int))=True:=by simp
    have hml:=Qba (B:=BW) (mulV BW S x i b k) S (la+lb) (i+k);have hwik:=Qbx (a:=i) (b:=k) (by omega);have hik0:((0:Int)≤((i+k:Nat):Int))=True:=by simp only [eq_iff_iff,iff_true];omega
    by_cases hB:k<lb
    ·have hB':((k:Int)<(lb:Int))=True:=by simp;omega
     have hgb:=Qam BW_2 (show k<(digs BW b).length by omega);have hwk:=Qay (a:=k) (by omega);have hin:i+k<la+lb:=by omega
     have hin':(((i+k:Nat):Int)<((la+lb:Nat):Int))=True:=by simp only [eq_iff_iff,iff_true];omega
     have hget:((mix BW (mulV BW S x i b k) S (la+lb) (i+k)).map fW)[i+k]? =some (PV.int .u64 ((S/BW^(i+k)%BW:Nat):Int)):=by rw [List.getElem?_map,Qcd _ _ _ _ _ hin,if_neg (Nat.lt_irrefl _)];rfl
     have hset:=Qcz (B:=BW) (S:=S) (by decide) hin (Qr7 (B:=BW) S x i b k) rfl;obtain⟨hs1,hs2⟩:=Qmp (B:=BW) (by decide) S x i b k;have hd1:S/BW^(i+k)%BW<BW:=Nat.mod_lt _ (by decide);have hd2:b/BW^k%BW<BW:=Nat.mod_lt _ (by decide);generalize S/BW^(i+k)%BW=o at*;generalize b/BW^k%BW=y at*;generalize mulC BW S x i b k=c at*;obtain⟨m1,m2⟩:=Q6s hxl hd2 hd1 hcl;rw [hs1]at m1;rw [hs2]at m2;simp -implicitDefEqProofs only [go_sem,Nat.reduceAdd,Nat.reduceMul,Nat.reduceEqDiff,Nat.reduceLT,Nat.reduceLeDiff,reduceCtorEq,dw,hB',hk0,Qb2,hgb,Int.toNat_natCast];refine Qab _ _ _ _ _ _ _ _ _ (Zar x y hxl hd2) ?_;simp -implicitDefEqProofs only [go_sem,Nat.reduceAdd,Nat.reduceMul,Nat.reduceEqDiff,Nat.reduceLT,Nat.reduceLeDiff,reduceCtorEq,hwik,hik0,hin',hget,Int.toNat_natCast];refine Qab _ _ _ _ _ _ _ _ _ (Qjy (x*y%18446744073709551616) o 0 (by decide)) ?_;simp -implicitDefEqProofs only [go_sem,Nat.reduceAdd,Nat.reduceMul,Nat.reduceEqDiff,Nat.reduceLT,Nat.reduceLeDiff,reduceCtorEq,Qz3];refine Qab _ _ _ _ _ _ _ _ _ (Qjy ((x*y%18446744073709551616+o)%18446744073709551616) c 0 (by decide)) ?_;simp -implicitDefEqProofs only [go_sem,Nat.reduceAdd,Nat.reduceMul,Nat.reduceEqDiff,Nat.reduceLT,Nat.reduceLeDiff,reduceIte,reduceCtorEq,Qz3,m1,m2,hwik,hik0,hin',hget,Int.toNat_natCast,hwk,Qb8,hset];refine⟨⟨k+1,hB⟩,by simp only;omega,Qa0 (θ:=[(105,105)]) rfl ?_ ?_⟩
     ·simp [Qag,lkp,ren1,ren0,dw]
     ·simp [Qal,lkp,Box.renames,Nat.add_assoc]
    ·have hB':((k:Int)<(lb:Int))=False:=by simp;omega
     obtain rfl:k=lb:=by omega
     have hwi:=Qay (a:=i) (by omega);have hin:i+k<la+k:=by omega
     have hin':(((i+k:Nat):Int)<((la+k:Nat):Int))=True:=by simp only [eq_iff_iff,iff_true];omega
     obtain⟨e,hget⟩: ∃e:Nat,((mix BW (mulV BW S x i b k) S (la+k) (i+k)).map fW)[i+k]? =some (PV.int .u64 (e:Int)):=⟨_,by rw [List.getElem?_map,Qcd _ _ _ _ _ hin];rfl⟩;have hV:mulV BW S x i b k=a%BW^(i+1)*b:=by rw [←hS,←hx];exact Qjq a i b k hblt
     have hS0:S/BW^(i+k)=0:=by
      rw [←hS];refine Nat.div_eq_of_lt ?_;have h1:=Nat.mod_lt a (Nat.pow_pos (n:=i) (show 0<BW by decide));rw [Nat.pow_add];rcases Nat.eq_zero_or_pos b with rfl|hb
      ·rw [Nat.mul_zero];exact Nat.mul_pos (Nat.pow_pos (by decide)) (Nat.pow_pos (by decide))
      ·exact Nat.lt_of_lt_of_le (Nat.mul_lt_mul_of_pos_right h1 hb) (Nat.mul_le_mul_left _ (Nat.le_of_lt hblt))
     have hC:=Qi8 (B:=BW) S x i b k;rw [hS0,Nat.add_zero]at hC;have hdig:mulV BW S x i b k/BW^(i+k)%BW=mulC BW S x i b k:=by rw [←hC,Nat.mod_eq_of_lt hcl]
     have hset:=Qcz (B:=BW) (V:=mulV BW S x i b k) (W:=mulV BW S x i b k) (S:=S) (n:=la+k) (m:=i+k) (by decide) hin rfl hdig;have hmx:=Qdi (B:=BW) (V:=mulV BW S x i b k) (S:=S) (n:=la+k) (m:=i+k+1) (by decide) (by
      rw [Nat.pow_succ,←Nat.div_div_eq_div_mul,←Nat.div_div_eq_div_mul,hS0,←hC,Nat.div_eq_of_lt hcl,Nat.zero_div])
     rw [hmx,hV]at hset;rw [hV]at hml hget;simp -implicitDefEqProofs only [go_sem,Nat.reduceAdd,Nat.reduceMul,Nat.reduceEqDiff,Nat.reduceLT,Nat.reduceLeDiff,reduceIte,reduceCtorEq,dw,List.length_map,hlb,hB',hwik,hik0,hin',hml,hget,hV,Int.toNat_natCast,hwi,Qb8,hset];refine⟨⟨i+1,hA⟩,by simp only;omega,Qa0 (θ:=[(105,105)]) rfl ?_ ?_⟩
     ·simp [Qag,lkp,ren1,ren0,dw]
     ·simp [Qal,lkp,Box.renames]
  ·have hA':((i:Int)<(la:Int))=False:=by simp;omega
   have hlt:a<BW^i:=(Qaj BW_2 a i).1 (by omega);have hil:i=la:=by omega
   have hll:=Qae (B:=BW) (a%BW^i*b) (la+lb);have htk:((lows BW (a%BW^i*b) (la+lb)).map fW).take (la+lb)=(lows BW (a%BW^i*b) (la+lb)).map fW:=List.take_of_length_le (by simp [hll]);simp -implicitDefEqProofs only [go_sem,Nat.reduceAdd,Nat.reduceMul,Nat.reduceEqDiff,Nat.reduceLT,Nat.reduceLeDiff,reduceIte,reduceCtorEq,dw,List.length_map,hA',hll,htk];refine Qab _ _ _ _ _ _ _ _ _ (Qce (lows BW (a%BW^i*b) (la+lb)) (by rw [hll];simp [maxLen];omega)) ?_;simp -implicitDefEqProofs only [go_sem,Nat.reduceAdd,Nat.reduceEqDiff,Nat.reduceLT,reduceCtorEq,dw];rw [Qbb BW_2,Nat.mod_eq_of_lt hlt,Nat.mod_eq_of_lt];rw [Nat.pow_add,←hil];rcases Nat.eq_zero_or_pos b with rfl|hb
   ·rw [Nat.mul_zero];exact Nat.mul_pos (Nat.pow_pos (by decide)) (Nat.pow_pos (by decide))
   ·exact Nat.lt_of_lt_of_le (Nat.mul_lt_mul_of_pos_right hlt hb) (Nat.mul_le_mul_left _ (Nat.le_of_lt hblt))
end Go.Proofs.YtapjnenbofmliaaGreatDoor

namespace Go.Dg
theorem Qds (r:Nat) (hr:r≤64):WB=2^r*2^(64-r):=by
 rw [←Nat.pow_add,show r+(64-r)=64 by omega]
theorem Qqb (x r:Nat) (hr:r≤64):x*2^r%WB=2^r*(x%2^(64-r)):=by
 rw [Qds r hr,Nat.mul_comm x,Nat.mul_mod_mul_left]
theorem Qoa (x c r:Nat) (hr:r≤64) (hc:c<2^r):(c ||| (x*2^r%WB))=(c+x*2^r)%WB∧(c+x*2^r)/WB=x/2^(64-r):=by
 have e1:=Qqb x r hr;have e2:(x*2^r)/WB=x/2^(64-r):=by
  rw [Qds r hr,Nat.mul_comm x,Nat.mul_div_mul_left _ _ (Nat.pow_pos (by decide))]
 have hlt:2^r*(x%2^(64-r))+c<WB:=by
  have h1:x%2^(64-r)<2^(64-r):=Nat.mod_lt _ (Nat.pow_pos (by decide));rw [Qds r hr];have:2^r*(x%2^(64-r))+2^r≤2^r*2^(64-r):=by
   rw [←Nat.mul_succ];exact Nat.mul_le_mul_left _ h1
  omega
 have e3:c+x*2^r=WB*(x/2^(64-r))+(2^r*(x%2^(64-r))+c):=by
  have:=Nat.div_add_mod (x*2^r) WB;rw [e1,e2]at this;omega
 constructor
 ·rw [e1,e3,Nat.mul_add_mod,Nat.mod_eq_of_lt hlt,Nat.or_comm,Nat.two_pow_add_eq_or_of_lt hc]
 ·rw [e3,Nat.mul_add_div (by decide),Nat.div_eq_of_lt hlt,Nat.add_zero]
def shlV (a w r i:Nat):Nat:=a%WB^i*2^r*WB^w
def shlC (a r i:Nat):Nat:=a%WB^i*2^r/WB^i
theorem Qjl (a r i:Nat):shlC a r i<2^r:=by
 rw [shlC,Nat.div_lt_iff_lt_mul (Nat.pow_pos (by decide)),Nat.mul_comm];exact Nat.mul_lt_mul_of_pos_left (Nat.mod_lt _ (Nat.pow_pos (by decide))) (Nat.pow_pos (by decide))
theorem WBp (i:Nat):0<WB^i:=Nat.pow_pos (by decide)
theorem Qi4 (a w r i:Nat):shlV a w r i/WB^(i+w)=shlC a r i:=by
 rw [shlV,shlC,Nat.add_comm i w,Nat.pow_add,←Nat.div_div_eq_div_mul,Nat.mul_div_cancel _ (WBp w)]
theorem Qob (a w r i:Nat):shlV a w r (i+1)=shlV a w r i+a/WB^i%WB*2^r*WB^(i+w):=by
 rw [shlV,shlV,Nat.pow_succ,Nat.mod_mul,Nat.add_mul,Nat.add_mul,Nat.pow_add];congr 1;simp only [Nat.mul_assoc,Nat.mul_comm,Nat.mul_left_comm]
theorem Qh7 (a w r i:Nat):shlV a w r (i+1)/WB^(i+w)=shlC a r i+a/WB^i%WB*2^r:=by
 rw [Qob,Nat.add_mul_div_right _ _ (WBp _),Qi4]
theorem Qr3 (a w r i:Nat):shlV a w r i%WB^(i+w)=shlV a w r (i+1)%WB^(i+w):=by
 rw [Qob,Nat.add_mul_mod_self_right]
theorem Qwa (a w r:Nat):shlV a w r 0=0:=by simp [shlV,Nat.mod_one]
theorem Qwb (a w r i:Nat) (h:a<WB^i):shlV a w r i=a*2^(64*w+r):=by
 rw [shlV,Nat.mod_eq_of_lt h,Nat.pow_add,Nat.pow_mul,show(2:Nat)^64=WB from rfl];simp only [Nat.mul_assoc,Nat.mul_comm,Nat.mul_left_comm]
theorem Qr4 (B V S n m:Nat) (hB:0<B) (h:V%B^m=S%B^m):mix B V S n m=lows B S n:=by
 apply List.map_congr_left;intro j _;split
 ·rename_i hj;exact Qjn hB h hj
 ·rfl
theorem Qwc {V W n j d:Nat} (hj:j<n) (h:V%WB^j=W%WB^j) (hd:W/WB^j%WB=d) (hu:W/WB^(j+1)=V/WB^(j+1)):(lows WB V n).set j d=lows WB W n:=by
 rw [←Qr4 WB W V n j (by decide) h.symm,Qcz (V:=W) (W:=W) (by decide) hj rfl hd,Qdi (by decide) hu]
theorem Qwd {V W n j d e:Nat} (hj:j+1<n) (h:V%WB^j=W%WB^j) (hd:W/WB^j%WB=d) (he:W/WB^(j+1)%WB=e) (hu:W/WB^(j+1+1)=V/WB^(j+1+1)):
  ((lows WB V n).set j d).set (j+1) e=lows WB W n:=by
 rw [←Qr4 WB W V n j (by decide) h.symm,Qcz (V:=W) (W:=W) (by decide) (by omega) rfl hd,Qcz (V:=W) (W:=W) (by decide) hj rfl he,Qdi (by decide) hu]
theorem Q18 (a w i n:Nat) (hj:i+w<n):
  (lows WB (shlV a w 0 i) n).set (i+w) (a/WB^i%WB)=lows WB (shlV a w 0 (i+1)) n:=by
 have hc:shlC a 0 i=0:=by have:=Qjl a 0 i;simp at this;exact this
 have h2:=Qh7 a w 0 i;rw [hc,Nat.pow_zero,Nat.mul_one,Nat.zero_add]at h2;have h1:=Qi4 a w 0 i;rw [hc]at h1;refine Qwc hj (Qr3 a w 0 i) (by rw [h2,Nat.mod_mod]) ?_;rw [Nat.pow_succ,←Nat.div_div_eq_div_mul,←Nat.div_div_eq_div_mul,h1,h2,Nat.zero_div,Nat.div_eq_of_lt (Nat.mod_lt _ (by decide))]
theorem Q19 (a w r i n:Nat) (hr:r≤64) (hj:i+w+1<n):
  ((lows WB (shlV a w r i) n).set (i+w) (shlC a r i ||| (a/WB^i%WB*2^r%WB))).set (i+w+1) (a/WB^i%WB/2^(64-r))=lows WB (shlV a w r (i+1)) n:=by
 have hc:=Qjl a r i;have h2:=Qh7 a w r i;have h1:=Qi4 a w r i;obtain⟨e1,e2⟩:=Qoa (a/WB^i%WB) (shlC a r i) r hr hc;have hx:a/WB^i%WB<WB:=Nat.mod_lt _ (by decide);have hx2:a/WB^i%WB/2^(64-r)<WB:=Nat.lt_of_le_of_lt (Nat.div_le_self _ _) hx;have hc2:shlC a r i<WB:=Nat.lt_of_lt_of_le hc (Nat.pow_le_pow_right (n:=2) (by decide) hr);rw [e1];refine Qwd hj (Qr3 a w r i) (by rw [h2]) ?_ ?_
 ·rw [Nat.pow_succ,←Nat.div_div_eq_div_mul,h2,e2,Nat.mod_eq_of_lt hx2]
 ·rw [Nat.pow_succ,Nat.pow_succ,←Nat.div_div_eq_div_mul,←Nat.div_div_eq_div_mul,←Nat.div_div_eq_div_mul,←Nat.div_div_eq_div_mul,h1,h2,e2,Nat.div_eq_of_lt hx2,Nat.div_eq_of_lt hc2,Nat.zero_div]
theorem Qwe (A i r:Nat) (h0:0<r) (hr:r<64):((A/WB^i%WB/2^r) ||| (A/WB^(i+1)%WB*2^(64-r)%WB))=A/2^r/WB^i%WB:=by
 have e0:A/WB^(i+1)=A/WB^i/WB:=by rw [Nat.pow_succ,Nat.div_div_eq_div_mul]
 have e1:A/2^r/WB^i=A/WB^i/2^r:=by rw [Nat.div_div_eq_div_mul,Nat.div_div_eq_div_mul,Nat.mul_comm]
 rw [e0,e1];generalize A/WB^i=X;have hlt:X%WB/2^r<2^(64-r):=by
  rw [Nat.div_lt_iff_lt_mul (Nat.pow_pos (by decide)),Nat.mul_comm,←Qds r (by omega)];exact Nat.mod_lt _ (by decide)
 obtain⟨s1,_⟩:=Qoa (X/WB%WB) (X%WB/2^r) (64-r) (by omega) hlt;rw [s1];have hX:X=WB*(X/WB)+X%WB:=(Nat.div_add_mod X WB).symm;have hS:=Qds r (by omega);have e2:X/2^r=2^(64-r)*(X/WB)+X%WB/2^r:=by
  conv=>lhs;rw [hX,hS,Nat.mul_assoc]
  rw [Nat.mul_add_div (Nat.pow_pos (by decide)),←hS]
 rw [e2,Nat.mul_comm (2^(64-r)) (X/WB),Nat.add_comm];have hm:(X/WB%WB)*2^(64-r)%WB=X/WB*2^(64-r)%WB:=by rw [Nat.mod_mul_mod]
 rw [Nat.add_mod,hm,←Nat.add_mod]
theorem Q8t (A i r:Nat) (h:A/WB^(i+1)=0):A/WB^i%WB/2^r=A/2^r/WB^i%WB:=by
 have e1:A/2^r/WB^i=A/WB^i/2^r:=by rw [Nat.div_div_eq_div_mul,Nat.div_div_eq_div_mul,Nat.mul_comm]
 have hlt:A/WB^i<WB:=by
  rw [Nat.pow_succ,←Nat.div_div_eq_div_mul]at h;exact(Nat.div_eq_zero_iff_lt (by decide)).1 h
 rw [e1,Nat.mod_eq_of_lt hlt,Nat.mod_eq_of_lt (Nat.lt_of_le_of_lt (Nat.div_le_self _ _) hlt)]
section
variable {y1 y0 u d q r:Nat}
structure Guess (y1 y0 u d q r:Nat):Prop where
 part:q*y1+r=u
 big:(u*4294967296+d)/(y1*4294967296+y0)≤q
theorem Qqc (hy1:2147483648≤y1) (hu:u<y1*4294967296+y0) (hd:d<4294967296):Guess y1 y0 u d (u/y1) (u%y1):=by
 refine⟨by rw [Nat.mul_comm];exact Nat.div_add_mod u y1,?_⟩;have h1:(u*4294967296+d)/(y1*4294967296+y0)≤(u*4294967296+d)/(y1*4294967296):=Nat.div_le_div_left (by omega) (by omega);have h2:(u*4294967296+d)/(y1*4294967296)=u/y1:=by
  rw [Nat.mul_comm y1,←Nat.div_div_eq_div_mul];congr 1;omega
 omega
theorem Qln (h:Guess y1 y0 u d q r):(r*4294967296+d<q*y0↔u*4294967296+d<q*(y1*4294967296+y0)):=by
 have e:q*(y1*4294967296+y0)=q*y1*4294967296+q*y0:=by rw [Nat.mul_add,Nat.mul_assoc]
 have:=h.part;rw [e];omega
theorem Qtn (h:Guess y1 y0 u d q r) (hy:0<y1*4294967296+y0) (hq:(u*4294967296+d)<q*(y1*4294967296+y0)):0<q∧Guess y1 y0 u d (q-1) (r+y1):=by
 have hq0:0<q:=by
  rcases Nat.eq_zero_or_pos q with rfl|h
  ·omega
  ·exact h
 refine⟨hq0,?_,?_⟩
 ·obtain⟨p,rfl⟩: ∃p,q=p+1:=⟨q-1,by omega⟩;have:=h.part;rw [Nat.add_mul]at this;simp only [Nat.add_sub_cancel];omega
 ·have:=(Nat.div_lt_iff_lt_mul hy).2 hq;omega
theorem Qlo (h:Guess y1 y0 u d q r) (hy:0<y1*4294967296+y0) (hq:q*(y1*4294967296+y0)≤u*4294967296+d):q=(u*4294967296+d)/(y1*4294967296+y0):=
 Nat.le_antisymm ((Nat.le_div_iff_mul_le hy).2 hq) h.big
theorem Qqd (hu:u<y1*4294967296+y0) (h:Guess y1 y0 u d q r) (hq:4294967296≤q):r<y0∧r<4294967296+y0:=by
 have h1:=Nat.mul_le_mul_right y1 hq;have h2:=h.part;omega
theorem Qto (hu:u<y1*4294967296+y0) (hd:d<4294967296):(u*4294967296+d)/(y1*4294967296+y0)<4294967296:=by
 have:0<y1*4294967296+y0:=by omega
 rw [Nat.div_lt_iff_lt_mul this];omega
end
section
variable {B:Nat}
theorem Q2a (hB:0<B) (R D j:Nat) (hD:0<D):R%(D*B^(j+1))/B^j/D=R/D/B^j%B:=by
 rw [Nat.div_div_eq_div_mul,Nat.div_div_eq_div_mul,Nat.mul_comm (B^j) D,Nat.pow_succ,←Nat.mul_assoc,Nat.mod_mul_right_div_self]
theorem Q8u (R D j:Nat):R%(D*B^(j+1))%(D*B^j)=R%(D*B^j):=by
 rw [Nat.pow_succ,←Nat.mul_assoc,Nat.mod_mul_right_mod]
theorem Q2b (hB:0<B) (S D j:Nat) (hD:0<D):S%(D*B^j)/B^j=S/B^j%D:=by
 rw [Nat.mul_comm,Nat.mod_mul_right_div_self]
theorem Q2c (hB:0<B) (S D j:Nat):S%(D*B^j)%B^j=S%B^j:=by
 rw [Nat.mul_comm,Nat.mod_mul_right_mod]
theorem Qtp (hB:0<B) (W d k:Nat) (ht:0<d/B^k):W/d≤W/B^k/(d/B^k):=by
 have h1:d/B^k*B^k≤d:=Nat.div_mul_le_self d (B^k);have h2:W/d≤W/(B^k*(d/B^k)):=Nat.div_le_div_left (by rw [Nat.mul_comm];exact h1) (Nat.mul_pos (Nat.pow_pos hB) ht)
 rwa [←Nat.div_div_eq_div_mul]at h2
theorem Q8v (hB:0<B) (W k:Nat):W/B^k=W/B^(k+1)*B+W/B^k%B:=by
 have:=Qf2 hB W k;rw [Nat.mul_comm]at this;exact this
theorem Qwf (hB:0<B) {V W n j:Nat} {x:List Nat} (hj:j+x.length≤n) (h:V%B^j=W%B^j) (hx:x=lows B (W/B^j) x.length) (hu:W/B^(j+x.length)=V/B^(j+x.length)):
  (lows B V n).take j++x++(lows B V n).drop (j+x.length)=lows B W n:=by
 apply List.ext_getElem?;intro i;by_cases h1:i<n
 ·rw [Qbe _ _ _ h1];by_cases h2:i<j
  ·rw [List.append_assoc,List.getElem?_append_left (by simp [Qae];omega),List.getElem?_take_of_lt h2,Qbe _ _ _ h1,Qjn hB h h2]
  ·by_cases h3:i<j+x.length
   ·rw [List.append_assoc,List.getElem?_append_right (by simp [Qae];omega),List.getElem?_append_left (by simp [Qae];omega)];have e:i-((lows B V n).take j).length=i-j:=by simp [Qae];omega
    rw [e,hx,Qbe _ _ _ (by omega),Nat.div_div_eq_div_mul,←Nat.pow_add,show j+(i-j)=i by omega]
   ·rw [List.getElem?_append_right (by simp [Qae];omega),List.getElem?_drop];have e:j+x.length+(i-((lows B V n).take j++x).length)=i:=by simp [Qae];omega
    rw [e,Qbe _ _ _ h1];have e2:i=(j+x.length)+(i-(j+x.length)):=by omega
    rw [e2,Nat.pow_add,←Nat.div_div_eq_div_mul,←Nat.div_div_eq_div_mul,hu]
 ·rw [List.getElem?_eq_none (by simp [Qae];omega),List.getElem?_eq_none (by rw [Qae];omega)]
end
theorem Qgm (hB:2≤18446744073709551616) (n i:Nat) (h:(digs WB n).length≤i):digs WB n++List.replicate (i-(digs WB n).length) 0=lows WB n i:=by
 apply List.ext_getElem?;intro k;by_cases h1:k<i
 ·rw [Qbe _ _ _ h1];by_cases h2:k<(digs WB n).length
  ·rw [List.getElem?_append_left h2,Qam hB h2]
  ·rw [List.getElem?_append_right (by omega),Qa3 hB (Nat.le_of_not_lt h2),Nat.zero_mod,List.getElem?_replicate,if_pos (by omega)]
 ·rw [List.getElem?_eq_none (by simp;omega),List.getElem?_eq_none (by rw [Qae];omega)]
theorem Qjm (B V n j k:Nat) (h:j+k≤n):((lows B V n).drop j).take k=lows B (V/B^j) k:=by
 apply List.ext_getElem?;intro i;by_cases h1:i<k
 ·rw [List.getElem?_take_of_lt h1,List.getElem?_drop,Qbe _ _ _ (by omega),Qbe _ _ _ h1,Nat.div_div_eq_div_mul,←Nat.pow_add]
 ·rw [List.getElem?_eq_none (by simp;omega),List.getElem?_eq_none (by rw [Qae];omega)]
section
variable {y u d q r:Nat}
structure Kn (y u d q r:Nat):Prop where
 g:Guess (y/4294967296) (y%4294967296) u d q r
 small:r<4294967296
theorem Qdg (y:Nat):y/4294967296*4294967296+y%4294967296=y:=by omega
theorem Qi5 (h1:9223372036854775808≤y) (h2:y<18446744073709551616) (hu:u<y) (hd:d<4294967296):Kn y u d (u/(y/4294967296)) (u%(y/4294967296)):=by
 refine⟨Qqc (by omega) (by omega) hd,?_⟩;have:=Nat.mod_lt u (show 0<y/4294967296 by omega);omega
theorem kn_q (h1:9223372036854775808≤y) (h2:y<18446744073709551616) (hu:u<y) (h:Kn y u d q r):q≤4294967297:=by
 rcases Nat.lt_or_ge q 4294967298 with h'|h'
 ·omega
 ·have h3:=h.g.part;have h4:=Nat.mul_le_mul_right (y/4294967296) h';omega
theorem Qmh (h:Kn y u d q r):(r*4294967296+d<q*(y%4294967296))↔u*4294967296+d<q*y:=by
 have:=Qln h.g
 rwa [Qdg]at this
theorem Qmi (h1:9223372036854775808≤y) (hu:u<y) (h:Kn y u d q r) (hq:u*4294967296+d<q*y):0<q∧Guess (y/4294967296) (y%4294967296) u d (q-1) (r+y/4294967296):=by
 have:=Qtn h.g (by rw [Qdg];omega) (by rw [Qdg];exact hq);exact this
theorem Qi6 (h1:9223372036854775808≤y) (hu:u<y) (hd:d<4294967296) (h:Guess (y/4294967296) (y%4294967296) u d q r) (hr:4294967296≤r):q=(u*4294967296+d)/y:=by
 have hlt:q<4294967296:=by
  rcases Nat.lt_or_ge q 4294967296 with h'|h'
  ·exact h'
  ·have:=(Qqd (by rw [Qdg];exact hu) h h').1;omega
 have:=Qlo h (by rw [Qdg];omega) (by
  have h3: ¬(r*4294967296+d<q*(y%4294967296)):=by
   have:q*(y%4294967296)≤4294967295*4294967295:=Nat.mul_le_mul (by omega) (by omega);omega
  rw [Qln h]at h3;omega)
 rwa [Qdg]at this
theorem Qmj (h1:9223372036854775808≤y) (h:Kn y u d q r) (hq: ¬u*4294967296+d<q*y):q=(u*4294967296+d)/y:=by
 have:=Qlo h.g (by rw [Qdg];omega) (by rw [Qdg];omega)
 rwa [Qdg]at this
theorem Qhm (hu:u<y) (hd:d<4294967296):(u*4294967296+d)/y<4294967296:=by
 have:=Qto (y1:=y/4294967296) (y0:=y%4294967296) (by rw [Qdg];exact hu) hd
 rwa [Qdg]at this
end
theorem Qtq {hi lo y s:Nat} (hs:s≤64) (hlo:lo<18446744073709551616) (hhi:hi<y) (hy:0<y):
  let Y:=y*2^s
  let u:=hi*2^s+lo/2^(64-s)
  let t:=lo*2^s%18446744073709551616
  let a:=u*4294967296+t/4294967296
  let b:=a%Y*4294967296+t%4294967296
  a/Y*4294967296+b/Y=(hi*18446744073709551616+lo)/y∧b%Y/2^s=(hi*18446744073709551616+lo)%y:=by
 intro Y u t a b;have hp:0<2^s:=Nat.pow_pos (by decide);have hY:0<Y:=Nat.mul_pos hy hp;have e1:(hi*18446744073709551616+lo)*2^s=u*18446744073709551616+t:=by
  have hd:lo*2^s/18446744073709551616=lo/2^(64-s):=by
   have:=Qds s hs;simp only [WB]at this;rw [this,Nat.mul_comm lo,Nat.mul_div_mul_left _ _ hp]
  have:=Nat.div_add_mod (lo*2^s) 18446744073709551616;rw [hd]at this;simp only [u,t];rw [Nat.add_mul,Nat.mul_right_comm];generalize hi*2^s=p at*;omega
 have e2:(hi*18446744073709551616+lo)*2^s=a*4294967296+t%4294967296:=by
  rw [e1];simp only [a];omega
 have e3:(hi*18446744073709551616+lo)*2^s=Y*(a/Y*4294967296+b/Y)+b%Y:=by
  have h3:=Nat.div_add_mod a Y;have h4:=Nat.div_add_mod b Y;rw [e2,Nat.mul_add,←Nat.mul_assoc];simp only [b]at h4 ⊢;omega
 have hb:b%Y<Y:=Nat.mod_lt _ hY;have e4:(hi*18446744073709551616+lo)*2^s/Y=a/Y*4294967296+b/Y:=by
  rw [e3,Nat.mul_add_div hY,Nat.div_eq_of_lt hb,Nat.add_zero]
 have e5:(hi*18446744073709551616+lo)*2^s%Y=b%Y:=by
  rw [e3,Nat.mul_add_mod,Nat.mod_eq_of_lt hb]
 constructor
 ·rw [←e4];exact Nat.mul_div_mul_right _ _ hp
 ·rw [←e5,Nat.mul_mod_mul_right,Nat.mul_div_cancel _ hp]
end Go.Dg
