/-
  UQE, NK2, NL1, Dxl, NT10, UX, NT11 (merged for the claim).
-/
import Derived.Test.YtapjnenbofmliaaGreatDoorUV
import Derived.IntWalk
import Derived.Test.YtapjnenbofmliaaGreatDoorNT1
import Derived.Test.YtapjnenbofmliaaGreatDoorNT3
import Derived.Test.YtapjnenbofmliaaGreatDoorNW6
import Derived.Test.YtapjnenbofmliaaGreatDoorNT8
set_option linter.unusedSimpArgs false
set_option linter.unusedVariables false
namespace Go.Vl
abbrev Vars:=List (Nat×PV)
abbrev BoxL:=List (Nat×Box)
def insL {α:Type}:List (Nat×α)→Nat→α→List (Nat×α)
 | [],k,v=>[(k,v)]
 |(j,x)::l,k,v=>match Nat.beq j k with
  |true=>(k,v)::l
  |false=>(j,x)::insL l k v
theorem Qtg {α:Type}: ∀(l:List (Nat×α)) (k:Nat) (v:α),lkp (insL l k v)=upd (lkp l) k (some v)
 | [],k,v=>by funext j;simp [insL,lkp,upd]
 |(i,x)::l,k,v=>by
  funext j;have ih:=congrFun (Qtg l k v) j;simp only [insL];cases h:Nat.beq i k with
  |true=>
   have:=Nat.eq_of_beq_eq_true h;subst this;simp only [lkp,upd];split<;>simp_all
  |false=>
   have hne: ¬i=k:=fun e=>by subst e;simp [Nat.beq_refl]at h
   simp only [lkp,upd,ih];by_cases e1:j=i<;>by_cases e2:j=k<;>simp_all
noncomputable def frcN {α:Type} (n:Nat) (k:Nat→α):α:= @Nat.rec (fun _=>α) (k 0) (fun m _=>k (Nat.succ m)) n
theorem Qes {α:Type} (n:Nat) (k:Nat→α):frcN n k=k n:=by cases n<;>rfl
noncomputable def frcI {α:Type} (n:Int) (k:Int→α):α:= @Int.rec (fun _=>α) (fun m=>frcN m fun m=>k (.ofNat m)) (fun m=>frcN m fun m=>k (.negSucc m)) n
theorem Zbz {α:Type} (n:Int) (k:Int→α):frcI n k=k n:=by cases n<;>simp [frcI,Qes]
noncomputable def frcB {α:Type} (b:Bool) (k:Bool→α):α:= @Bool.rec (fun _=>α) (k false) (k true) b
theorem Q1o {α:Type} (b:Bool) (k:Bool→α):frcB b k=k b:=by cases b<;>rfl
noncomputable def frcL {α β:Type} (f:β→(β→α)→α) (l:List β):(List β→α)→α:=
 @List.rec β (fun _=>(List β→α)→α) (fun K=>K []) (fun v _ ih K=>f v fun v=>ih fun vs=>K (v::vs)) l
theorem Qrv {α β:Type} {f:β→(β→α)→α} (hf: ∀v K,f v K=K v) (l:List β) (K:List β→α):frcL f l K=K l:=by
 induction l generalizing K with
 |nil=>rfl
 |cons v vs ih=>
  show f v (fun v=>frcL f vs fun vs=>K (v::vs))=K (v::vs);rw [hf,ih]
noncomputable def frc1 {α:Type} (rec:PV→(PV→α)→α) (v:PV) (K:PV→α):α:= @PV.casesOn (fun _=>α) v
 (fun b=>frcB b fun b=>K (.bool b)) (fun k n=>frcI n fun n=>K (.int k n)) (fun s=>K (.str s)) (K .nilS)
 (fun es=>frcL rec es fun es=>K (.slc es)) (fun es=>frcL rec es fun es=>K (.agg es)) (fun es=>frcL rec es fun es=>K (.tup es))
 (fun f a c=>frcN f fun f=>frcL rec a fun a=>frcL rec c fun c=>K (.fn f a c)) (K .nilF) (fun es=>frcL rec es fun es=>K (.rp es))
 (fun b e i o=>frcN b fun b=>frcN e fun e=>frcN i fun i=>frcN o fun o=>K (.bp b e i o))
 (fun b e i o=>frcN b fun b=>frcN e fun e=>frcN i fun i=>frcN o fun o=>K (.bs b e i o)) (K .undef) (fun l s=>K (.yld l s)) (K .nilI) (fun b=>K (.mp b)) (K .nilM) (K .anyB) (K .nilP)
noncomputable def frc {α:Type} (d:Nat):PV→(PV→α)→α:= @Nat.rec (fun _=>PV→(PV→α)→α) (fun v K=>K v) (fun _ ih=>frc1 ih) d
theorem Qpt {α:Type} (d:Nat) (v:PV) (K:PV→α):frc d v K=K v:=by
 induction d generalizing v K with
 |zero=>rfl
 |succ d ih=>
  show frc1 (frc d) v K=K v;cases v<;>simp only [frc1,Q1o,Zbz,Qes,Qrv ih]
noncomputable def Qix {α:Type} (B:Box) (K:Box→α):α:=match B with
 |⟨els,esz,ety,fro,live,arr,mp⟩=>frcL (frc 6) els fun els=>frcN esz fun esz=>frcN fro fun fro=>frcB live fun live=>frcB arr fun arr=>K ⟨els,esz,ety,fro,live,arr,mp⟩
theorem Qfo {α:Type} (B:Box) (K:Box→α):Qix B K=K B:=by cases B;simp only [Qix,Q1o,Qes,Qrv (Qpt 6)]
theorem Qrw (m t j:Nat):(m ||| 2^t).testBit j=(m.testBit j||decide (t=j)):=by rw [Nat.testBit_or,Nat.testBit_two_pow]
noncomputable def frcS {α β:Type} (l:List (Nat×β)):Nat→(List (Nat×β)→α)→α:=
 @List.rec (Nat×β) (fun _=>Nat→(List (Nat×β)→α)→α) (fun _ K=>K []) (fun p _ ih m K=> @Bool.rec (fun _=>α) (frcN (m ||| 2^p.1) fun m=>ih m fun l=>K (p::l)) (ih m K) (m.testBit p.1)) l
theorem Zb0 {α β:Type} (l:List (Nat×β)) (m:Nat) (K:List (Nat×β)→α): ∃l',frcS l m K=K l'∧ ∀t,m.testBit t=false→lkp l' t=lkp l t:=by
 induction l generalizing m K with
 |nil=>exact⟨[],rfl,fun _ _=>rfl⟩
 |cons p l ih=>
  have e:frcS (p::l) m K= @Bool.rec (fun _=>α) (frcN (m ||| 2^p.1) fun m=>frcS l m fun l=>K (p::l)) (frcS l m K) (m.testBit p.1):=rfl;rw [e];cases hb:m.testBit p.1 with
  |true=>
   obtain⟨l',h1,h2⟩:=ih m K;refine⟨l',h1,fun t ht=> ?_⟩;have hne: ¬t=p.1:=fun e=>by rw [e,hb]at ht;cases ht
   rw [h2 t ht];simp [lkp,hne]
  |false=>
   simp only [Qes];obtain⟨l',h1,h2⟩:=ih (m ||| 2^p.1) fun l=>K (p::l);refine⟨_,h1,fun t ht=> ?_⟩;obtain⟨k,v⟩:=p;simp only [lkp];by_cases hk:t=k
   ·simp [hk]
   ·simp only [if_neg hk];exact h2 t (by rw [Qrw,ht];simp;exact fun x=>hk x.symm)
theorem Zf4 {α β:Type} (l:List (Nat×β)) (K:List (Nat×β)→α): ∃l',frcS l 0 K=K l'∧lkp l'=lkp l:=by
 obtain⟨l',h1,h2⟩:=Zb0 l 0 K;exact⟨l',h1,funext fun t=>h2 t (by simp)⟩
noncomputable def effB {α:Type} (e:Eff) (bs:BoxL) (K:BoxL→Option α):Option α:=match e with
 | .new b B=>Qix B fun B=>K (insL bs b B)
 | .wr b i v=>match lkp bs b with
  |some B=>Qix {B with els:=B.els.set i v} fun B=>K (insL bs b B)
  |none=>K bs
 | .fro b n=>match lkp bs b with
  |some B=>Qix {B with fro:=max B.fro n,live:=B.live&&true} fun B=>K (insL bs b B)
  |none=>K bs
 | .kill b=>match lkp bs b with
  |some B=>Qix {B with els:=[],fro:=0,live:=false} fun B=>K (insL bs b B)
  |none=>K bs
 | .yld _=>none
noncomputable def Q7v {α:Type}:List Eff→BoxL→(BoxL→Option α)→Option α
 | [],bs,K=>K bs
 |e::es,bs,K=>effB e bs fun bs=>Q7v es bs K
theorem Zb1 {α:Type} (e:Eff) (vs:Vars) (bs:BoxL) (K:BoxL→Option α) {x:α} (h:effB e bs K=some x): ∃bs',K bs'=some x∧e.on (St.of vs bs)=St.of vs bs':=by
 have hs: ∀b B,(St.of vs bs).setBox b B=St.of vs (insL bs b B):=fun b B=>by simp only [St.setBox,St.of,St.ofG,Qtg]
 cases e with
 |new b B=>simp only [effB,Qfo]at h;exact⟨_,h,hs _ _⟩
 |wr b i v=>
  simp only [effB]at h;simp only [Eff.on,Qiu];cases hb:lkp bs b with
  |some B=>simp only [hb,Qfo]at h;exact⟨_,h,hs _ _⟩
  |none=>simp only [hb]at h;exact⟨_,h,rfl⟩
 |fro b n=>
  simp only [effB]at h;simp only [Eff.on,Qiu];cases hb:lkp bs b with
  |some B=>simp only [hb,Qfo]at h;exact⟨_,h,hs _ _⟩
  |none=>simp only [hb]at h;exact⟨_,h,rfl⟩
 |kill b=>
  simp only [effB]at h;simp only [Eff.on,Qiu];cases hb:lkp bs b with
  |some B=>simp only [hb,Qfo]at h;exact⟨_,h,hs _ _⟩
  |none=>simp only [hb]at h;exact⟨_,h,rfl⟩
 |yld x=>cases h
theorem Qnq {α:Type}: ∀(es:List Eff) (vs:Vars) (bs:BoxL) (K:BoxL→Option α) {x:α},Q7v es bs K=some x→ ∃bs',K bs'=some x∧Qai es (St.of vs bs)=St.of vs bs'
 | [],vs,bs,K,x,h=>⟨bs,h,rfl⟩
 |e::es,vs,bs,K,x,h=>by
  obtain⟨bs1,h1,h2⟩:=Zb1 e vs bs _ h;obtain⟨bs2,h3,h4⟩:=Qnq es vs bs1 K h1;refine⟨bs2,h3,?_⟩;rw [Qas,h2,h4]
def putL (vs:Vars):Option Tmp→PV→Vars
 |some t,v=>(t,v)::vs
 |none,_=>vs
theorem Qrx (vs:Vars) (bs:BoxL) (d:Option Tmp) (v:PV):(St.of vs bs).put d v=St.of (putL vs d v) bs:=by
 cases d with
 |none=>rfl
 |some t=>rfl
noncomputable def lkR (l:Vars) (k:Nat):Option PV:= @List.rec (Nat×PV) (fun _=>Option PV) none (fun p _ ih=> @Bool.rec (fun _=>Option PV) ih (some p.2) (Nat.beq k p.1)) l
theorem Zeh (l:Vars) (k:Nat):lkR l k=lkp l k:=by
 induction l with
 |nil=>rfl
 |cons p l ih=>
  have e:lkR (p::l) k= @Bool.rec (fun _=>Option PV) (lkR l k) (some p.2) (Nat.beq k p.1):=rfl;rw [e,ih];obtain⟨j,v⟩:=p;simp only [lkp];cases h:Nat.beq k j with
  |true=>simp [Nat.eq_of_beq_eq_true h]
  |false=>
   have hne: ¬k=j:=fun e=>by subst e;simp [Nat.beq_refl]at h
   simp [hne]
noncomputable def evK {α:Type} (vs:Vars) (xs:List Operand):(List PV→Option α)→Option α:=
 @List.rec Operand (fun _=>(List PV→Option α)→Option α) (fun K=>K []) (fun x _ ih K=>
  @Option.rec PV (fun _=>Option α) none (fun v=>ih fun l=>K (v::l)) (@Operand.casesOn (fun _=>Option PV) x (fun t=>lkR vs t) (fun c=>Qc2 c) (fun _=>none) (fun f=>some (.fn f [] [])))) xs
theorem Zei {α:Type} (vs:Vars) (bs:BoxL) (xs:List Operand) (K:List PV→Option α):evK vs xs K=match(St.of vs bs).evs xs with
  |some l=>K l
  |none=>none:=by
 induction xs generalizing K with
 |nil=>rfl
 |cons x xs ih=>
  have e:evK vs (x::xs) K= @Option.rec PV (fun _=>Option α) none (fun v=>evK vs xs fun l=>K (v::l)) (@Operand.casesOn (fun _=>Option PV) x (fun t=>lkR vs t) (fun c=>Qc2 c) (fun _=>none) (fun f=>some (.fn f [] []))):=rfl;have hx:(@Operand.casesOn (fun _=>Option PV) x (fun t=>lkR vs t) (fun c=>Qc2 c) (fun _=>none) (fun f=>some (.fn f [] [])))=(St.of vs bs).ev x:=by
   cases x<;>simp only [St.ev,St.of,St.ofG,Zeh]
  rw [e,hx];simp only [St.evs];cases (St.of vs bs).ev x with
  |none=>rfl
  |some v=>
   simp only [ih];cases (St.of vs bs).evs xs<;>rfl
def invM (κ:List (Nat×Nat)):List (Nat×Nat):=κ.map fun p=>(p.2,p.1)
theorem Q1p: ∀(κ:List (Nat×Nat)) (b:Nat),lkp (invM κ) b=rlk κ b
 | [],_=>rfl
 |(k,v)::l,b=>by
  have ih:=Q1p l b;simp only [invM,List.map_cons,lkp,rlk]at ih ⊢;rw [ih]
theorem Qet {κ:List (Nat×Nat)} (hκ:Qgb κ=true) {b b':Nat} (h:lkp κ b=some b'):lkp (invM κ) b'=some b:=by
 rw [Q1p];exact(Qbr hκ).1 h
theorem Q7w {κ:List (Nat×Nat)} (hκ:Qgb κ=true) {v v':PV} (h:ren0 κ v=some v'):ren0 (invM κ) v'=some v:=by
 cases v with
 |bp b esz i off=>
  simp only [ren0]at h;split at h
  ·rename_i b' hb;cases h;simp only [ren0,Qet hκ hb]
  ·cases h
 |bs b esz i off=>
  simp only [ren0]at h;split at h
  ·rename_i b' hb;cases h;simp only [ren0,Qet hκ hb]
  ·cases h
 |fn f a c=>
  cases a with
  |nil=>cases c with
   |nil=>cases h;rfl
   |cons=>cases h
  |cons=>cases h
 |agg=>cases h
 |tup=>cases h
 |mp b=>
  simp only [ren0]at h;split at h
  ·rename_i b' hb;cases h;simp only [ren0,Qet hκ hb]
  ·cases h
 |_=>cases h;rfl
theorem Qhf {κ:List (Nat×Nat)} (hκ:Qgb κ=true): ∀{vs vs':List PV},Qbp κ vs=some vs'→Qbp (invM κ) vs'=some vs
 | [],vs',h=>by cases h;rfl
 |v::vs,vs',h=>by
  unfold Qbp at h;split at h
  ·cases h
  ·rename_i x hx;split at h
   ·cases h
   ·rename_i xs hxs;cases h;simp only [Qbp,Q7w hκ hx,Qhf hκ hxs]
theorem Qth {κ:List (Nat×Nat)} (hκ:Qgb κ=true) {v v':PV} (h:ren1 κ v=some v'):ren1 (invM κ) v'=some v:=by
 cases v with
 |agg cs=>
  simp only [ren1]at h;split at h
  ·rename_i xs hxs;cases h;simp only [ren1,Qhf hκ hxs]
  ·cases h
 |tup vs=>
  cases vs with
  |nil=>cases h;rfl
  |cons=>cases h
 |fn f a c=>
  simp only [ren1]at h;split at h
  ·cases h
  ·rename_i x hx;split at h
   ·cases h
   ·rename_i y hy;cases h;simp only [ren1,Qhf hκ hx,Qhf hκ hy]
 |bp b esz i off=>
  have h':ren0 κ (.bp b esz i off)=some v':=h;simp only [ren0]at h';split at h'
  ·rename_i b' hb;cases h';simp only [ren1,ren0,Qet hκ hb]
  ·cases h'
 |bs b esz i off=>
  have h':ren0 κ (.bs b esz i off)=some v':=h;simp only [ren0]at h';split at h'
  ·rename_i b' hb;cases h';simp only [ren1,ren0,Qet hκ hb]
  ·cases h'
 |mp b=>
  have h':ren0 κ (.mp b)=some v':=h;simp only [ren0]at h';split at h'
  ·rename_i b' hb;cases h';simp only [ren1,ren0,Qet hκ hb]
  ·cases h'
 |_=>cases h;rfl
def Q1q:Nat→BoxL→List (Nat×Nat)
 |_,[]=>[]
 |i,(b,_)::bs=>(b,500000+i)::Q1q (i+1) bs
def renV (κ:List (Nat×Nat)) (vs:Vars):Vars→Vars
 | []=>[]
 |(t,_)::r=>match lkp vs t with
  |some v=>match ren1 κ v with
   |some v'=>(t,v')::renV κ vs r
   |none=>renV κ vs r
  |none=>renV κ vs r
theorem Qnr {κ:List (Nat×Nat)} (hκ:Qgb κ=true) (vs:Vars): ∀l:Vars,Qah (invM κ) vs (renV κ vs l)
 | []=>trivial
 |(t,_)::r=>by
  unfold renV;split
  ·rename_i v hv;split
   ·rename_i v' hv';refine⟨?_,Qnr hκ vs r⟩;rw [hv];exact Qth hκ hv'
   ·exact Qnr hκ vs r
  ·exact Qnr hκ vs r
def Q1r (κ:List (Nat×Nat)) (B:Box):Option Box:=match B.arr with
 |true=>some B
 |false=>match B.els with
  | [v]=>match ren1 κ v with
   |some v'=>if Qaz v'.cells=true then some {B with els:=[v']}else none
   |none=>none
  |_=>none
theorem Q1s {κ:List (Nat×Nat)} (hκ:Qgb κ=true) {B B':Box} (h:Q1r κ B=some B'):Box.renames (invM κ) B' B:=by
 unfold Q1r at h;cases ha:B.arr with
 |true=>rw [ha]at h;cases h;exact⟨rfl,rfl,rfl,rfl,rfl,.inl ⟨ha,rfl⟩⟩
 |false=>
  rw [ha]at h;simp only at h;split at h
  ·rename_i v hv;split at h
   ·rename_i v' hv';split at h
    ·rename_i hok;cases h;exact⟨rfl,rfl,rfl,rfl,by first|rfl|(simp only [ha]),.inr ⟨by first|rfl|exact ha,v,v',rfl,hv,Qth hκ hv',hok⟩⟩
    ·cases h
   ·cases h
  ·cases h
def renB (κ:List (Nat×Nat)) (bs:BoxL):BoxL→Option BoxL
 | []=>some []
 |(b,_)::r=>match lkp κ b,lkp bs b with
  |some b',some B=>match Q1r κ B,renB κ bs r with
   |some B',some l=>some ((b',B')::l)
   |_,_=>none
  |_,_=>none
theorem Q1t {κ:List (Nat×Nat)} (hκ:Qgb κ=true) (bs:BoxL): ∀(l bs':BoxL),renB κ bs l=some bs'→Qal (invM κ) bs bs'
 | [],bs',h=>by cases h;trivial
 |(b,_)::r,bs',h=>by
  unfold renB at h;split at h
  ·rename_i b' B hb hB;split at h
   ·rename_i B' l' hB' hl;cases h;refine⟨?_,Q1t hκ bs r l' hl⟩;rw [Qet hκ hb];simp only [hB];exact Q1s hκ hB'
   ·cases h
  ·cases h
def Q1u (vs:Vars) (bs:BoxL):Option (Vars×BoxL):=match renB (Q1q 0 bs) bs bs with
 |none=>none
 |some bs'=>match Qgb (Q1q 0 bs)&&Qnh (invM (Q1q 0 bs)) bs' with
  |true=>some (renV (Q1q 0 bs) vs vs,bs')
  |false=>none
theorem Q1v {vs vs':Vars} {bs bs':BoxL} (h:Q1u vs bs=some (vs',bs')):Le (St.of vs bs) (St.of vs' bs'):=by
 unfold Q1u at h;split at h
 ·cases h
 ·rename_i bs1 h1;split at h
  ·rename_i h2;cases h;simp only [Bool.and_eq_true]at h2;exact Qa0 h2.2 (Qnr h2.1 vs vs) (Q1t h2.1 bs bs _ h1)
  ·cases h
noncomputable def Zb2 {α:Type} (l:Vars):(Vars→α)→α:=
 @List.rec (Nat×PV) (fun _=>(Vars→α)→α) (fun K=>K []) (fun p _ ih K=>frcN p.1 fun t=>frc 6 p.2 fun v=>ih fun l=>K ((t,v)::l)) l
theorem Q7x {α:Type} (l:Vars) (K:Vars→α):Zb2 l K=K l:=by
 induction l generalizing K with
 |nil=>rfl
 |cons p l ih=>
  show frcN p.1 (fun t=>frc 6 p.2 fun v=>Zb2 l fun l=>K ((t,v)::l))=K (p::l);rw [Qes,Qpt,ih]
noncomputable def Zb3 {α:Type} (l:BoxL):(BoxL→α)→α:=
 @List.rec (Nat×Box) (fun _=>(BoxL→α)→α) (fun K=>K []) (fun p _ ih K=>frcN p.1 fun t=>Qix p.2 fun v=>ih fun l=>K ((t,v)::l)) l
theorem Q7y {α:Type} (l:BoxL) (K:BoxL→α):Zb3 l K=K l:=by
 induction l generalizing K with
 |nil=>rfl
 |cons p l ih=>
  show frcN p.1 (fun t=>Qix p.2 fun v=>Zb3 l fun l=>K ((t,v)::l))=K (p::l);rw [Qes,Qfo,ih]
noncomputable def renK {α:Type} (vs:Vars) (bs:BoxL) (K:Vars→BoxL→α):α:=match bs with
 | []=>K vs []
 |b::r=>match Q1u vs (b::r)with
  |none=>K vs (b::r)
  |some (vs',bs')=>Zb2 vs' fun vs'=>Zb3 bs' fun bs'=>K vs' bs'
theorem Zb4 {α:Type} (vs:Vars) (bs:BoxL) (K:Vars→BoxL→α): ∃vs' bs',renK vs bs K=K vs' bs'∧Le (St.of vs bs) (St.of vs' bs'):=by
 unfold renK;split
 ·exact⟨_,_,rfl,Le.refl _⟩
 ·split
  ·exact⟨_,_,rfl,Le.refl _⟩
  ·rename_i vs' bs' h;exact⟨vs',bs',by rw [Q7x,Q7y],Q1v h⟩
section
variable (P:Program) (call:FuncId→List PV→Option PV)
noncomputable def Qv1 {α:Type} (ops:Array Oper) (nt base:Nat):List Oper→Nat→Vars→BoxL→List Acc→(Vars→BoxL→List Acc→Option α)→Option α
 | [],_,vs,bs,accs,K=>K vs bs accs
 |o::rest,i,vs,bs,accs,K=>match Qpn nt o with
  |false=>none
  |true=>match Qbq ops o (St.of vs bs)with
   |none=>none
   |some false=>Qv1 ops nt base rest (i+1) (putL vs o.dst (.tup [])) bs ([]::accs) K
   |some true=>evK vs o.op.operands.toList fun xs=>match Qax P [] (base+i) o.op xs (lkp bs)with
     |none=>none
     |some (.done v es,l)=>frc 6 v fun v=>Q7v es bs fun bs=>frcN i fun i=>Qv1 ops nt base rest (i+1) (putL vs o.dst v) bs ((l++Qbw es)::accs) K
     |some (.call f args es,l)=>frcN f fun f=>frcL (frc 6) args fun args=>match call f args with
      |none=>none
      |some r=>frc 6 r fun r=>Q7v (if Qew r then []else es) bs fun bs=>frcN i fun i=>Qv1 ops nt base rest (i+1) (putL vs o.dst r) bs ((l++Qbw es)::accs) K
     |some (_,_)=>none
theorem Qeu (hc: ∀f args r,call f args=some r→Qag P f args r) {α:Type} (ops:Array Oper) (nt base:Nat): ∀(rest:List Oper) (i:Nat) (vs:Vars) (bs:BoxL) (accs:List Acc)
  (K:Vars→BoxL→List Acc→Option α) (x:α),Qv1 P call ops nt base rest i vs bs accs K=some x→
  ∃vs' bs' accs',K vs' bs' accs'=some x∧ ∀K':St→List Acc→Prop,K' (St.of vs' bs') accs'→vops P [] ops nt base i rest (St.of vs bs) accs K'
 | [],i,vs,bs,accs,K,x,h=>⟨vs,bs,accs,h,fun K' hk=>hk⟩
 |o::rest,i,vs,bs,accs,K,x,h=>by
  unfold Qv1 at h;cases hd:Qpn nt o with
  |false=>rw [hd]at h;cases h
  |true=>
   rw [hd]at h;simp only at h;cases hw:Qbq ops o (St.of vs bs)with
   |none=>rw [hw]at h;cases h
   |some b=>
    rw [hw]at h;cases b with
    |false=>
     obtain⟨vs',bs',accs',h1,h2⟩:=Qeu hc ops nt base rest (i+1) _ bs ([]::accs) K x h;refine⟨vs',bs',accs',h1,fun K' hk=> ?_⟩;simp only [vops];refine⟨hd,?_⟩;rw [hw];simp only [Qer,Qrx];exact h2 K' hk
    |true=>
     simp only [Zei vs bs]at h;cases hv:(St.of vs bs).evs o.op.operands.toList with
     |none=>rw [hv]at h;cases h
     |some xs=>
      rw [hv]at h;simp only at h;cases ho:Qax P [] (base+i) o.op xs (lkp bs)with
      |none=>rw [ho]at h;cases h
      |some p=>
       obtain⟨y,l⟩:=p;rw [ho]at h;cases y with
       |done v es=>
        simp only [Qpt,Qes]at h;obtain⟨bs1,e1,e2⟩:=Qnq es vs bs _ h
        replace h:=e1
        obtain⟨vs',bs',accs',h1,h2⟩:=Qeu hc ops nt base rest (i+1) _ bs1 _ K x h;refine⟨vs',bs',accs',h1,fun K' hk=> ?_⟩;simp only [vops];refine⟨hd,?_⟩;rw [hw];simp only [Qer,hv,Qkr,Qiu,Q03,Zbg,ho,Qvo,e2,Qrx];exact h2 K' hk
       |call f args es=>
        simp only [Qpt,Qes,Qrv (Qpt 6)]at h;cases hcl:call f args with
        |none=>rw [hcl]at h;cases h
        |some r=>
         rw [hcl]at h;simp only at h;obtain⟨bs1,e1,e2⟩:=Qnq (if Qew r then []else es) vs bs _ h
         replace h:=e1
         obtain⟨vs',bs',accs',h1,h2⟩:=Qeu hc ops nt base rest (i+1) _ bs1 _ K x h;refine⟨vs',bs',accs',h1,fun K' hk=> ?_⟩;simp only [vops];refine⟨hd,?_⟩;rw [hw];simp only [Qer,hv,Qkr,Qiu,Q03,Zbg,ho,Qvo];refine⟨r,hc _ _ _ hcl,?_⟩;simp only [];rw [e2,Qrx];exact h2 K' hk
       |callB=>cases h
       |yield=>cases h
noncomputable def evC (nt:Nat):Nat→Code→Vars→BoxL→Option (Exit×Vars×BoxL)
 |0,_,_,_=>none
 |n+1,c,vs,bs=>match c with
  | .skip=>some (.normal,vs,bs)
  | .label _=>some (.normal,vs,bs)
  | .exit id=>some (.exit id,vs,bs)
  | .ret=>some (.ret,vs,bs)
  | .seq a b=>match evC nt n a vs bs with
   |some (.normal,vs,bs)=>evC nt n b vs bs
   |r=>r
  | .region id ops draw=>match Nat.ble (100*id+ops.size) LENT with
   |false=>none
   |true=>frcN (100*id) fun base=>Qv1 P call ops nt base ops.toList 0 vs bs [] fun vs bs accs=>match draw with
   |false=>some (.normal,vs,bs)
   |true=>match Qit ops accs.reverse with
    |false=>none
    |true=>some (.normal,vs,bs)
  | .cond x a b=>match(St.of vs bs).ev x with
   |some (.bool true)=>evC nt n a vs bs
   |some (.bool false)=>evC nt n b vs bs
   |_=>none
  | .block id c=>match evC nt n c vs bs with
   |some (.exit i,vs,bs)=>if i=id then some (.normal,vs,bs)else some (.exit i,vs,bs)
   |r=>r
  | .loop c=>match evC nt n c vs bs with
   |some (.normal,vs,bs)=>frcS vs 0 fun vs=>renK vs bs fun vs bs=>evC nt n (.loop c) vs bs
   |r=>r
  |_=>none
def Lwp (P:Program) (nt:Nat) (c:Code) (Q:Exit→St→Prop) (st:St):Prop:=
 ∀(C:Ctx),C.P=P→C.nt=nt→ ∀(rd:RD C) (a:Act) (w:World),Rel C st a w→ ∀(b:Frame) (k:List Item) (cs:List Frame),b.roundOf=(FW rd.rd).round→(FW rd.rd).fn b.fn→(FW rd.rd).room (cs.length+1+0)→
  ∃e a' w',(∃st',Q e st'∧Rel C st' a' w')∧ArrivesIn (Machine.fenced C.P (FW rd.rd)) C.P (lone (b.atR a (.code c:: .inLoop c::k)) cs w) b k cs e a' w'
theorem Qv2 {P:Program} {nt:Nat} {c:Code} {Q:Exit→St→Prop} {st:St} (h:Lwp P nt c Q st):Vwp P nt (.loop c) Q st:=fun C h1 h2 rd a w hr=>by
 subst h1;subst h2;intro b k cs hro hb hroom;obtain⟨e,a',w',hq,harr⟩:=h C rfl rfl rd a w hr b k cs hro hb hroom;exact⟨e,a',w',hq,.of_steps (.one (fenced_calm hb hroom rfl) stepR_loop) harr⟩
theorem Q1w {P:Program} {nt:Nat} {c:Code} {Q:Exit→St→Prop} {st:St} (h:Vwp P nt c (vthen (Lwp P nt c Q) Q) st):Lwp P nt c Q st:=fun C h1 h2 rd a w hr=>by
 subst h1;subst h2;intro b k cs hro hb hroom;obtain⟨e,a₁,w₁,⟨s,hq,hr1⟩,harr⟩:=h C rfl rfl rd a w hr b (.inLoop c::k) cs hro hb hroom;cases e with
 |normal=>
  obtain⟨e₂,a₂,w₂,hq₂,harr₂⟩:=hq C rfl rfl rd a₁ w₁ hr1 b k cs hro hb hroom;exact⟨e₂,a₂,w₂,hq₂,.of_steps (StepsIn.trans harr (.one (fenced_calm hb hroom rfl) stepR_inLoop)) harr₂⟩
 |exit id=>exact⟨_,a₁,w₁,⟨s,hq,hr1⟩,.pass (x:= .inLoop c) rfl (fun _ _=> .inl (by simp)) harr⟩
 |goto l=>exact⟨_,a₁,w₁,⟨s,hq,hr1⟩,.pass (x:= .inLoop c) rfl (fun _ _=> .inl (by simp)) harr⟩
 |ret=>exact⟨_,a₁,w₁,⟨s,hq,hr1⟩,.pass (x:= .inLoop c) rfl (fun _ _=> .inl (by simp)) harr⟩
 |panic ch=>exact⟨_,a₁,w₁,⟨s,hq,hr1⟩,.pass (x:= .inLoop c) rfl (fun _ _=> .inl (by simp)) harr⟩
 |outgrown=>exact⟨_,a₁,w₁,⟨s,hq,hr1⟩,.pass (x:= .inLoop c) rfl (fun _ _=> .inl (by simp)) harr⟩
def Cwp (P:Program) (nt:Nat) (c:Code) (Q:Exit→St→Prop) (st:St):Prop:=Vwp P nt c Q st∧ ∀c',c= .loop c'→Lwp P nt c' Q st
theorem Qns (hm:P.follows .mixedOrders=true) (hc: ∀f args r,call f args=some r→Qag P f args r) (nt:Nat): ∀(n:Nat) (c:Code) (vs:Vars) (bs:BoxL) (e:Exit) (vs':Vars) (bs':BoxL),
  evC P call nt n c vs bs=some (e,vs',bs')→ ∀Q:Exit→St→Prop,Q e (St.of vs' bs')→Cwp P nt c Q (St.of vs bs)
 |0,_,_,_,_,_,_,h,_,_=>by cases h
 |n+1,c,vs,bs,e,vs',bs',h,Q,hQ=>by
  have ih:=fun c vs bs e vs' bs' h Q hQ=>(Qns hm hc nt n c vs bs e vs' bs' h Q hQ).1;have ihl:=fun c vs bs e vs' bs' h Q hQ=>(Qns hm hc nt n (.loop c) vs bs e vs' bs' h Q hQ).2 c rfl;unfold evC at h;cases c with
  |skip=>cases h;exact⟨Qtb hQ,fun _ e=>by cases e⟩
  |label l=>cases h;exact⟨Qpk hQ,fun _ e=>by cases e⟩
  |exit id=>cases h;exact⟨Qtc hQ,fun _ e=>by cases e⟩
  |ret=>cases h;exact⟨Q01 hQ,fun _ e=>by cases e⟩
  |seq a b=>
   refine⟨?_,fun _ e=>by cases e⟩;simp only at h;cases ha:evC P call nt n a vs bs with
   |none=>rw [ha]at h;cases h
   |some p=>
    obtain⟨e1,vs1,bs1⟩:=p;rw [ha]at h;refine Qrj (ih a vs bs e1 vs1 bs1 ha _ ?_);cases e1 with
    |normal=>exact ih b vs1 bs1 e vs' bs' h Q hQ
    |_=>cases h;exact hQ
  |region id ops draw=>
   refine⟨?_,fun _ e=>by cases e⟩;cases hL:Nat.ble (100*id+ops.size) LENT with
   |false=>simp only [hL]at h;cases h
   |true=>
   simp only [hL,Qes]at h;obtain⟨vs1,bs1,accs1,h1,h2⟩:=Qeu P call hc ops nt (100*id) ops.toList 0 vs bs [] _ _ h;refine Ql7 (tb:=[]) (100*id) hm (Nat.le_of_ble_eq_true hL) (h2 _ ?_);cases draw with
   |false=>cases h1;exact⟨fun x=>absurd x (by decide),hQ⟩
   |true=>
    simp only at h1;cases hd:Qit ops accs1.reverse with
    |false=>rw [hd]at h1;cases h1
    |true=>rw [hd]at h1;simp only at h1;cases h1;exact⟨fun _=>rfl,hQ⟩
  |cond x a b=>
   refine⟨?_,fun _ e=>by cases e⟩;simp only at h;split at h
   ·rename_i hx;exact Qje hx (by simpa using ih a vs bs e vs' bs' h Q hQ)
   ·rename_i hx;exact Qje hx (by simpa using ih b vs bs e vs' bs' h Q hQ)
   ·cases h
  |block id c=>
   refine⟨?_,fun _ e=>by cases e⟩;simp only at h;cases ha:evC P call nt n c vs bs with
   |none=>rw [ha]at h;cases h
   |some p=>
    obtain⟨e1,vs1,bs1⟩:=p;rw [ha]at h;refine Qpl (ih c vs bs e1 vs1 bs1 ha _ ?_);cases e1 with
    |exit i=>
     simp only at h;simp only [vblock];by_cases hi:i=id
     ·rw [if_pos hi]at h ⊢;cases h;exact hQ
     ·rw [if_neg hi]at h ⊢;cases h;exact hQ
    |_=>cases h;exact hQ
  |loop c=>
   have hl:Lwp P nt c Q (St.of vs bs):=by
    simp only at h;cases ha:evC P call nt n c vs bs with
    |none=>rw [ha]at h;cases h
    |some p=>
     obtain⟨e1,vs1,bs1⟩:=p;rw [ha]at h;refine Q1w (ih c vs bs e1 vs1 bs1 ha _ ?_);cases e1 with
     |normal=>
      obtain⟨vs2,h1,h2⟩:=Zf4 vs1 fun vs=>renK vs bs1 fun vs bs=>evC P call nt n (.loop c) vs bs;simp only [h1]at h;obtain⟨vs3,bs3,h3,h4⟩:=Zb4 vs2 bs1 fun vs bs=>evC P call nt n (.loop c) vs bs;rw [h3]at h;have:St.of vs1 bs1=St.of vs2 bs1:=by simp only [St.of,St.ofG,h2]
      show Lwp P nt c Q (St.of vs1 bs1);rw [this];have key:=ihl c vs3 bs3 e vs' bs' h Q hQ;exact fun C e1 e2 rd a w hr=>key C e1 e2 rd a w (h4 C a w hr)
     |_=>cases h;exact hQ
   exact⟨Qv2 hl,fun c' e=>by cases e;exact hl⟩
  |_=>cases h
theorem Q1x (hm:P.follows .mixedOrders=true) (hc: ∀f args r,call f args=some r→Qag P f args r) (nt:Nat) (n:Nat) (c:Code) (vs:Vars) (bs:BoxL) (e:Exit) (vs':Vars) (bs':BoxL)
  (h:evC P call nt n c vs bs=some (e,vs',bs')) (Q:Exit→St→Prop) (hQ:Q e (St.of vs' bs')):Vwp P nt c Q (St.of vs bs):=(Qns P call hm hc nt n c vs bs e vs' bs' h Q hQ).1
end
noncomputable def evF (P:Program) (known:FuncId→List PV→Option PV) (fuel:Nat):Nat→FuncId→List PV→Option PV
 |0,_,_=>none
 |n+1,f,args=>match known f args with
  |some r=>some r
  |none=>match P.funcs[f]? with
   |none=>none
   |some fn=>match fn.body with
    |none=>none
    |some c=>match callable P f&&Nat.ble args.length fn.ntmps with
     |false=>none
     |true=>match evC P (evF P known fuel n) fn.ntmps fuel c (Qb8 0 args) []with
      |some (.ret,vs,bs)=>Qnj P fn.results.toList (St.of vs bs)
      |some (.normal,vs,bs)=>Qnj P fn.results.toList (St.of vs bs)
      |_=>none
theorem Qpu {P:Program} {known:FuncId→List PV→Option PV} (hm:P.follows .mixedOrders=true) (hk: ∀f args r,known f args=some r→Qag P f args r) (fuel:Nat): ∀(n:Nat) (f:FuncId) (args:List PV) (r:PV),
  evF P known fuel n f args=some r→Qag P f args r
 |0,_,_,_,h=>by cases h
 |n+1,f,args,r,h=>by
  unfold evF at h;cases hkn:known f args with
  |some r'=>rw [hkn]at h;cases h;exact hk _ _ _ hkn
  |none=>
   rw [hkn]at h;simp only at h;cases hf:P.funcs[f]? with
   |none=>rw [hf]at h;cases h
   |some fn=>
    rw [hf]at h;simp only at h;cases hb:fn.body with
    |none=>rw [hb]at h;cases h
    |some c=>
     rw [hb]at h;simp only at h;cases hcl:callable P f&&Nat.ble args.length fn.ntmps with
     |false=>rw [hcl]at h;cases h
     |true=>
      rw [hcl]at h;simp only [Bool.and_eq_true]at hcl;simp only at h;have key: ∀e vs bs,(e= .ret∨e= .normal)→evC P (evF P known fuel n) fn.ntmps fuel c (Qb8 0 args) []=some (e,vs,bs)→Qnj P fn.results.toList (St.of vs bs)=some r→Qag P f args r:=by
       intro e vs bs he h1 h2;refine Qnk fn.ntmps fn.results.toList hf hb hcl.1 rfl rfl hcl.2 (Q1x P _ hm (fun f args r=>Qpu hm hk fuel n f args r) fn.ntmps fuel c _ [] e vs bs h1 _ ?_);rcases he with rfl|rfl<;>simp only [vret,h2]
      split at h
      ·rename_i vs bs h1;exact key _ _ _ (.inl rfl) h1 h
      ·rename_i vs bs h1;exact key _ _ _ (.inr rfl) h1 h
      ·cases h
end Go.Vl

namespace Go.Proofs.YtapjnenbofmliaaGreatDoor
open Go.Vl Go.RowKit Go.Dg
def wsm (n:Int):PV:= .agg [.bool (decide (n<0)),.str ⟨(if n=0 then []else [UInt8.ofNat n.natAbs]).toArray⟩]
theorem Zcn (n:Int) (h:n.natAbs<256):wPV n=wsm n:=by
 unfold wPV wsm magL;by_cases h0:n=0
 ·subst h0;simp [Qap]
 ·rw [if_neg h0,Qd2 (by decide) (by omega),Nat.mod_eq_of_lt h,Nat.div_eq_of_lt h,Qap];rfl
def Qob (f:FuncId) (args:List PV):Option PV:=
 match args with
 | [.int .i64 n]=>if f=27 then(if n.natAbs<256 then some (wsm n)else none)else none
 | [.str s,.int .i64 10,.int .i64 64]=>if f=47 then
   (match Lib.parseUintB 64 s.data.toList with
   | .ok u=>if s.size≤20 then some (.tup [.int .u64 (u:Int),.nilI])else none
   |_=>none)else none
 | [.int .u64 (.ofNat x),.int .u64 (.ofNat y),.int .u64 (.ofNat c)]=>
  if f=81 then(if c≤1 then some (.tup [.int .u64 (((x+y+c)%18446744073709551616:Nat):Int),.int .u64 (((x+y+c)/18446744073709551616:Nat):Int)])else none)
  else if f=103 then(if c≤1 then some (.tup [.int .u64 (((x+18446744073709551616-y-c)%18446744073709551616:Nat):Int),.int .u64 ((if x<y+c then 1 else 0:Nat):Int)])else none)
  else none
 |_=>none
theorem Qjo (f:FuncId) (args:List PV) (r:PV) (h:Qob f args=some r):Qag Tryz.prog f args r:=by
 unfold Qob at h;split at h
 ·split at h
  ·rename_i e;split at h
   ·rename_i h2;cases h;subst e;rw [←Zcn _ h2];exact lw_v _ (by omega) (by omega)
   ·cases h
  ·cases h
 ·split at h
  ·rename_i e;split at h
   ·rename_i u hu;split at h
    ·cases h;subst e;exact Qga _ (by omega) u hu
    ·cases h
   ·cases h
  ·cases h
 ·split at h
  ·rename_i e;split at h
   ·rename_i h2;cases h;subst e;exact Qjr _ _ _ h2
   ·cases h
  ·split at h
   ·rename_i e;split at h
    ·rename_i h2;cases h;subst e;exact Qqs _ _ _ h2
    ·cases h
   ·cases h
 ·cases h
theorem Qwq:Qag Tryz.prog 7 [] (.bool true):=Qpu mixed Qjo 1000 20 _ _ _ (by kernel_rfl)
theorem Zco (a b:ByteArray):(a==b)=(a.data==b.data):=rfl
theorem Qwr (b:ByteArray):(b==b)=true:=by rw [Zco];exact beq_self_eq_true _
end Go.Proofs.YtapjnenbofmliaaGreatDoor

namespace Go.Dg
theorem Q2e {k B:Nat} (h:8*k=B):(256:Nat)^k=2^B:=by rw [←h,Nat.pow_mul]
def ones (k:Nat):Nat:=256^k-1
theorem Qd3 (k:Nat):ones k+1=256^k:=by unfold ones;have:=Nat.pow_pos (n:=k) (show 0<256 by decide);omega
theorem Qi5 {k:Nat} (h:1≤k):255≤ones k:=by
 have:=Nat.pow_le_pow_right (show 0<256 by decide) h;unfold ones;omega
theorem Qhl (k:Nat):ones k<256^k:=by have:=Qd3 k;omega
theorem Qsb (n m:Nat):ones n*ones m+(256^n+256^m)=256^(n+m)+1:=by
 have h1:=Qd3 n;have h2:=Qd3 m;rw [Nat.pow_add,←h1,←h2,Nat.add_mul,Nat.mul_add,Nat.mul_add];omega
theorem Qp8 {n m K:Nat} (h:n+m=K) (hn:1≤n) (hm:1≤m):ones n*ones m<256^K:=by
 have:=Qsb n m;have h1:=Nat.pow_le_pow_right (show 0<256 by decide) hn;have h2:=Nat.pow_le_pow_right (show 0<256 by decide) hm;rw [h]at this;omega
theorem Qjm {n m K:Nat} (h:n+m=K+1) (hn:1≤n) (hm:1≤m):128*256^K≤ones n*ones m:=by
 have e:=Qsb n m;have h1:256^n≤256^K:=Nat.pow_le_pow_right (by decide) (by omega);have h2:256^m≤256^K:=Nat.pow_le_pow_right (by decide) (by omega);rw [h,Nat.pow_succ]at e;omega
theorem Q2f {n m K:Nat} (h:n+m=K+1) (hn:1≤n) (hm:1≤m):256^K≤ones n*ones m:=by
 have:=Qjm h hn hm;omega
theorem Qwl {K J:Nat} (h:K≤5*J):ones K*10<10^(13*J+1):=by
 have h1:=Qhl K;have h2:(256:Nat)^K≤10^(13*J):=by
  refine Nat.le_trans (Nat.pow_le_pow_right (by decide) h) ?_;rw [Nat.pow_mul,Nat.pow_mul];exact Nat.pow_le_pow_left (by decide) J
 rw [Nat.pow_succ];generalize (256:Nat)^K=X at*;generalize (10:Nat)^(13*J)=Y at*;omega
end Go.Dg

namespace Go.Proofs.YtapjnenbofmliaaGreatDoor
open Go.Vl Go.RowKit Go.Dg Go.Lib
theorem Q2n (k:Nat):bnum (List.replicate k 255)=ones k:=by
 induction k with
 |zero=>rfl
 |succ k ih=>
  rw [List.replicate_succ',Qgi,ih];have h1:=Qd3 k;have h2:=Qd3 (k+1);rw [Nat.pow_succ,←h1]at h2;have:(255:UInt8).toNat=255:=rfl;omega
theorem Qwv (neg:Bool) {k:Nat} (h1:1≤k) (h2:k≤8192):Qa2 neg (List.replicate k 255)=true:=by
 obtain⟨j,rfl⟩: ∃j,k=j+1:=⟨k-1,by omega⟩;rw [List.replicate_succ];simp only [Qa2,List.length_cons,List.length_replicate,Bool.and_eq_true,decide_eq_true_eq];exact⟨by omega,by decide⟩
theorem Qqd (neg:Bool) {k:Nat} (h2:8192<k):Qa2 neg (List.replicate k 255)=false:=by
 obtain⟨j,rfl⟩: ∃j,k=j+1:=⟨k-1,by omega⟩;rw [List.replicate_succ];simp only [Qa2,List.length_cons,List.length_replicate,Bool.and_eq_false_iff,decide_eq_false_iff_not];exact .inl (by omega)
theorem Q2o {k:Nat} (h1:1≤k) (h2:k≤8192):magL (ones k)=List.replicate k 255:=by
 rw [←Q2n,Qju (Qwv false h1 h2)]
theorem Zcv (neg:Bool) {m:Nat} (h:0<m):decide (sv neg m<0)=neg:=by
 cases neg with
 |true=>exact decide_eq_true (by simp [sv];omega)
 |false=>exact decide_eq_false (by simp [sv])
theorem Q77:magL 1=[1]:=by rw [←Qju (neg:=false) (l:=[1]) (by decide)];rfl
theorem Zcw:magL 2=[2]:=by rw [←Qju (neg:=false) (l:=[2]) (by decide)];rfl
theorem Qdj (k:Nat):Qck (List.replicate k (.int .u8 255))=some (List.replicate k 255):=by
 induction k with
 |zero=>rfl
 |succ k ih=>rw [List.replicate_succ,List.replicate_succ];simp only [Qck,ih];rfl
def byB (i:Nat):List PV:=List.replicate i (.int .u8 255)++List.replicate (8193-i) (.int .u8 0)
theorem Qww {i:Nat} (h:i≤8193):(byB i).length=8193:=by unfold byB;rw [List.length_append,List.length_replicate,List.length_replicate];omega
theorem Q84 {i:Nat} (h:i<8193):(byB i).set i (.int .u8 255)=byB (i+1):=by
 unfold byB;have e:8193-i=(8193-(i+1))+1:=by omega
 rw [e,List.replicate_succ,List.set_append_right _ _ (by rw [List.length_replicate];exact Nat.le_refl _),List.length_replicate,Nat.sub_self,List.set_cons_zero,List.replicate_succ',List.append_assoc];rfl
theorem Q85 {i:Nat} (h:i<8193):(byB i)[i]? =some (.int .u8 0):=by
 unfold byB;rw [List.getElem?_append_right (by rw [List.length_replicate];exact Nat.le_refl _),List.length_replicate,Nat.sub_self,List.getElem?_replicate,if_pos (by omega)]
theorem Qoc {k m:Nat} (v:PV) (h:k≤m):(List.replicate m v).take k=List.replicate k v:=by rw [List.take_replicate,Nat.min_eq_left h]
theorem Q78 {t x:Int} (h:0<x):gN (t*x) x=x:=by
 unfold gN;rw [if_neg (by omega),Int.natAbs_mul,Nat.gcd_mul_left_left];omega
theorem Zcx (t:Int):gN t 1=1:=by unfold gN;rw [if_neg (by decide)];simp
theorem Q86 {m:Nat} (h:0<m):decDigits (m*10)=decDigits m++[48]:=by
 have:=Qhk 1 m 0 h (by decide);rw [Nat.pow_one,Nat.add_zero]at this;rw [this];rfl
theorem Zcy {x:Int} (h:x≠0):tx (x*10)=tx x++[48]:=by
 unfold tx txt;have e:(x*10).natAbs=x.natAbs*10:=by rw [Int.natAbs_mul];rfl
 have e2:decide (x*10<0)=decide (x<0):=decide_eq_decide.2 (by omega);have e3: ¬x.natAbs*10=0:=by omega
 have e4: ¬x.natAbs=0:=by omega
 rw [e,e2,if_neg e3,if_neg e4,Q86 (by omega)];cases decide (x<0)<;>rfl
theorem Qhp {n:Int} (h:2^65536≤n.natAbs):Qc7 n= .tup [.agg [.bool false,.str ⟨#[]⟩],.int .i64 7]:=Qi9 (Qe2 65536 _ h)
theorem Q87 {m B:Nat} (h1:m<2^(B+1)) (h2:2^B≤m):blen m=B+1:=by
 have:=Qcf (B+1) m h1;have:=Qe2 B m h2;omega
theorem pwup {x a b:Nat} (h:x<10^a) (hab:a≤b):x<10^b:=Nat.lt_of_lt_of_le h (Nat.pow_le_pow_right (by decide) hab)
theorem Q2p {a k E:Nat} (h:a<256^k) (hk:8*k≤E):a<2^E:=by
 rw [Q2e (k:=k) rfl]at h;exact Nat.lt_of_lt_of_le h (Nat.pow_le_pow_right (by decide) hk)
theorem Qjq {a k:Nat} (h:a<256^k) (hk:k≤8192):a<2^65536:=Q2p (E:=65536) h (by omega)
theorem Q88 {a k E:Nat} (h:256^k≤a) (hk:E≤8*k):2^E≤a:=by
 rw [Q2e (k:=k) rfl]at h;exact Nat.le_trans (Nat.pow_le_pow_right (by decide) hk) h
theorem Q79 {a k:Nat} (h:256^k≤a) (hk:k=8192):2^65536≤a:=Q88 (E:=65536) h (by omega)
theorem Qod {a k:Nat} (h1:a<256^(k+1)) (h2:128*256^k≤a):blen a=8*(k+1):=by
 have e1:(256:Nat)^(k+1)=2^(8*k+7+1):=Q2e (by omega);have e2:128*(256:Nat)^k=2^(8*k+7):=by rw [Q2e (k:=k) rfl,Nat.pow_add,Nat.mul_comm]
 rw [e1]at h1;rw [e2]at h2;exact Q87 h1 h2
theorem Qby (neg:Bool) (m:Nat):(sv neg m).natAbs=m:=by cases neg<;>simp [sv]
theorem Q8a (neg:Bool) (a b:Nat):sv neg a+sv neg b=sv neg (a+b):=by cases neg<;>simp [sv]<;>omega
theorem Zcz (neg:Bool) {a b:Nat} (h:b≤a):sv neg a-sv neg b=sv neg (a-b):=by cases neg<;>simp [sv]<;>omega
theorem Qwx (neg:Bool) (a b:Nat):sv false a*sv neg b=sv neg (a*b):=by cases neg<;>simp [sv,Int.mul_neg]
structure Lim (n:Nat) (neg:Bool) (T X Y O D P:Int):Prop where
 t:T.natAbs<2^65536
 x:X.natAbs<2^65536
 y:Y.natAbs<2^65536
 o:O.natAbs<2^65536
 d:D.natAbs<2^65536
 p:P.natAbs<2^65536
 tof:2^65536≤(T+O).natAbs
 ts:T-O=D
 td:D+O=T
 pe:X*Y=P
 y0:Y≠0
 x0:0<X
 tb:blen T.natAbs=65536
 pb:blen P.natAbs=65536
 big:2^65536≤(X*sv false (ones (8193-n))).natAbs
 z:(ones (8193-n))<2^65536
 tt:(tx T).length≤21845
 tt10:(tx (T*10)).length≤21845
 t10:2^65536≤(T*10).natAbs
 t2:2^65536≤(T*2).natAbs
 t0:T≠0
theorem lim (n K:Nat) (neg:Bool) (hK:K=8192) (h1:1≤n) (h2:n≤8191):Lim n neg (sv neg (ones K)) (sv false (ones n)) (sv neg (ones (K-n))) (sv neg 1) (sv neg (ones K-1)) (sv neg (ones n*ones (K-n))):=by
 have oK:=Qd3 K;have pK:=Qi5 (k:=K) (by omega);have pN:=Qi5 (k:=n) (by omega);have pM:=Qi5 (k:=K-n) (by omega);have lK:=Qjq (Qhl K) (by omega);have mul1:=Qp8 (n:=n) (m:=K-n) (K:=K) (by omega) h1 (by omega);have mul2:=Qjm (n:=n) (m:=K-n) (K:=K-1) (by omega) h1 (by omega);have mul3:=Q2f (n:=n) (m:=8193-n) (K:=K) (by omega) h1 (by omega);have ten:=Qwl (K:=K) (J:=1639) (by omega);have bK:blen (ones K)=65536:=by
  have:=Qod (a:=ones K) (k:=K-1) (by rw [show K-1+1=K by omega];exact Qhl K) (by
   have e:(256:Nat)^K=256^(K-1)*256:=by rw [←Nat.pow_succ];congr 1;omega
   have:=Nat.pow_pos (n:=K-1) (show 0<256 by decide);rw [e]at oK;omega)
  rw [this];omega
 have bP:blen (ones n*ones (K-n))=65536:=by
  have:=Qod (a:=ones n*ones (K-n)) (k:=K-1) (by rw [show K-1+1=K by omega];exact mul1) mul2;rw [this];omega
 obtain⟨E,hE⟩: ∃E:Nat,E=21307:=⟨_,rfl⟩;have x10:ones K<10^(E+1):=by
  refine Nat.lt_of_le_of_lt ?_ (pwup ten (by omega));exact Nat.le_mul_of_pos_right _ (by decide)
 have gK:=Q79 (a:=ones K+1) (k:=K) (by omega) hK;refine⟨?_,?_,?_,?_,?_,?_,?_,Zcz neg (by omega),?_,Qwx neg _ _,?_,?_,?_,?_,?_,?_,?_,?_,?_,?_,?_⟩
 ·rw [Qby];exact lK
 ·rw [Qby];exact Qjq (Qhl n) (by omega)
 ·rw [Qby];exact Qjq (Qhl _) (by omega)
 ·rw [Qby];exact Nat.lt_of_le_of_lt (by omega) lK
 ·rw [Qby];exact Nat.lt_of_le_of_lt (Nat.sub_le _ _) lK
 ·rw [Qby];exact Qjq mul1 (by omega)
 ·rw [Q8a,Qby];exact gK
 ·rw [Q8a,Nat.sub_add_cancel (by omega)]
 ·intro e;have:=congrArg Int.natAbs e;rw [Qby]at this;simp at this;omega
 ·simp only [sv,Bool.false_eq_true,if_false];omega
 ·rw [Qby];exact bK
 ·rw [Qby];exact bP
 ·rw [Qwx,Qby];exact Q79 mul3 hK
 ·exact Qjq (Qhl _) (by omega)
 ·exact Nat.le_trans (Q8c (k:=E) (by rw [Qby];exact x10)) (by omega)
 ·exact Nat.le_trans (Q8c (k:=E) (by rw [Int.natAbs_mul,Qby];exact pwup ten (by omega))) (by omega)
 ·rw [Int.natAbs_mul,Qby];exact Nat.le_trans gK (by simp;omega)
 ·rw [Int.natAbs_mul,Qby];exact Nat.le_trans gK (by simp;omega)
 ·intro e;have:=congrArg Int.natAbs e;rw [Qby]at this;simp at this;omega
end Go.Proofs.YtapjnenbofmliaaGreatDoor

namespace Go.Vl
open Go.RowKit
mutual
def Vgo (P:Program) (nt:Nat):List It→(Exit→St→Prop)→St→Prop
 | [],Q,st=>Q .normal st
 | .blk _::k,Q,st=>Vgo P nt k Q st
 | .again J::_,_,st=>J st
 | .code c::k,Q,st=>Vwp P nt c (fun e s=>Vleave P nt k Q e s) st
def Vleave (P:Program) (nt:Nat):List It→(Exit→St→Prop)→Exit→St→Prop
 | [],Q,e,st=>Q e st
 | .blk j::k,Q,e,st=>match e with
  | .exit i=>if i=j then Vgo P nt k Q st else Vleave P nt k Q (.exit i) st
  | .normal=>Vgo P nt k Q st
  |e=>Vleave P nt k Q e st
 | .again J::k,Q,e,st=>match e with
  | .normal=>J st
  |e=>Vleave P nt k Q e st
 | .code c::k,Q,e,st=>match e with
  | .normal=>Vwp P nt c (fun e s=>Vleave P nt k Q e s) st
  |e=>Vleave P nt k Q e st
end
section
variable {P:Program} {tb:Tab} {nt:Nat} {ks:List Nat} {Q:Exit→St→Prop}
theorem Qjf (hm:P.follows .mixedOrders=true): ∀(k:List It),(∀st,go P tb nt ks k Q st→Vgo P nt k Q st)∧ ∀e st,gleave P tb nt ks k Q e st→Vleave P nt k Q e st
 | []=>⟨fun st h=>by simpa only [go,Vgo]using h,fun e st h=>by simpa only [gleave,Vleave]using h⟩
 | .blk j::k=>by
  obtain⟨h1,h2⟩:=Qjf hm k;refine⟨fun st h=> ?_,fun e st h=> ?_⟩
  ·simp only [go]at h;simp only [Vgo];exact h1 st h
  ·cases e with
   |exit i=>
    simp only [gleave]at h;simp only [Vleave];split at h
    ·rename_i e;rw [if_pos e];exact h1 st h
    ·rename_i e;rw [if_neg e];exact h2 _ st h
   |normal=>simp only [gleave]at h;simp only [Vleave];exact h1 st h
   |_=>simp only [gleave]at h;simp only [Vleave];exact h2 _ st h
 | .again J::k=>by
  obtain⟨h1,h2⟩:=Qjf hm k;refine⟨fun st h=>by simpa only [go,Vgo]using h,fun e st h=> ?_⟩;cases e with
  |normal=>simpa only [gleave,Vleave]using h
  |_=>simp only [gleave]at h;simp only [Vleave];exact h2 _ st h
 | .code c::k=>by
  obtain⟨h1,h2⟩:=Qjf hm k;have key: ∀st,vx P tb nt ks c (fun e s=>gleave P tb nt ks k Q e s) st→Vwp P nt c (fun e s=>Vleave P nt k Q e s) st:=fun st h=>Qfv (Qcl hm c _ _ h) fun e s q=>h2 e s q;refine⟨fun st h=> ?_,fun e st h=> ?_⟩
  ·simp only [go]at h;simp only [Vgo];exact key st h
  ·cases e with
   |normal=>simp only [gleave]at h;simp only [Vleave];exact key st h
   |_=>simp only [gleave]at h;simp only [Vleave];exact h2 _ st h
theorem v_go (hm:P.follows .mixedOrders=true) {k:List It} {st:St} (h:go P tb nt ks k Q st):Vgo P nt k Q st:=(Qjf hm k).1 st h
def codes (L:List Code) (k:List It):List It:=L.foldr (fun c k=> .code c::k) k
theorem Q10 {st1:St} {c:Code} {k:List It} (h2:Vgo P nt (.code c::k) Q st1): ∀(L:List Code),(∀st,Vgo P nt (codes L (.again (fun s=>Le s st1):: .code c::k)) Q st→Vgo P nt (codes L (.code c::k)) Q st)∧
  ∀e st,Vleave P nt (codes L (.again (fun s=>Le s st1):: .code c::k)) Q e st→Vleave P nt (codes L (.code c::k)) Q e st
 | []=>by
  have base: ∀st,Le st st1→Vgo P nt (.code c::k) Q st:=fun st h=>by
   simp only [Vgo]at h2 ⊢;exact Zd4 h2 h
  refine⟨fun st h=>base st (by simpa only [codes,List.foldr,Vgo]using h),fun e st h=> ?_⟩;cases e with
  |normal=>
   have:=base st (by simpa only [codes,List.foldr,Vleave]using h);simp only [codes,List.foldr,Vleave];simpa only [Vgo]using this
  |_=>simpa only [codes,List.foldr,Vleave]using h
 |d::L=>by
  obtain⟨h3,h4⟩:=Q10 h2 L;refine⟨fun st h=> ?_,fun e st h=> ?_⟩
  ·simp only [codes,List.foldr,Vgo]at h ⊢;exact Qfv h fun e s q=>h4 e s q
  ·cases e with
   |normal=>
    simp only [codes,List.foldr,Vleave]at h ⊢;exact Qfv h fun e s q=>h4 e s q
   |_=>simp only [codes,List.foldr,Vleave]at h ⊢;exact h4 _ _ h
theorem Zex (hm:P.follows .mixedOrders=true) (tb:Tab) (ks:List Nat) {st st1:St} (L:List Code) {c:Code} {k:List It} (h1:go P tb nt ks (codes L (.again (fun s=>Le s st1):: .code c::k)) Q st) (h2:Vgo P nt (.code c::k) Q st1):
  Vgo P nt (codes L (.code c::k)) Q st:=(Q10 h2 L).1 st (v_go hm h1)
def Qez:Code→List Code
 | .seq a b=>a::Qez b
 |c=>[c]
theorem Q11 {k:List It}: ∀(c:Code),(∀st,Vgo P nt (codes (Qez c) k) Q st→Vgo P nt (.code c::k) Q st)∧ ∀e st,Vleave P nt (codes (Qez c) k) Q e st→Vleave P nt (.code c::k) Q e st
 | .seq a b=>by
  obtain⟨h1,h2⟩:=Q11 (k:=k) b;have key: ∀st,Vwp P nt a (fun e s=>Vleave P nt (codes (Qez b) k) Q e s) st→Vwp P nt (.seq a b) (fun e s=>Vleave P nt k Q e s) st:=fun st h=>Qrj (Qfv h fun e s q=>by
   have q:=h2 e s q;cases e with
   |normal=>simpa only [Vleave,vthen]using q
   |_=>simpa only [Vleave,vthen]using q)
  refine⟨fun st h=> ?_,fun e st h=> ?_⟩
  ·simp only [Qez,codes,List.foldr,Vgo]at h ⊢;exact key st h
  ·cases e with
   |normal=>simp only [Qez,codes,List.foldr,Vleave]at h ⊢;exact key st h
   |_=>
    simp only [Qez,codes,List.foldr,Vleave]at h ⊢;have:=h2 _ _ h;simpa only [Vleave]using this
 | .skip| .label _| .exit _| .ret| .region _ _ _| .cond _ _ _| .block _ _| .loop _| .rangeFunc _ _ _ _| .scope _| .goto _| .refuse _=>⟨fun _ h=>h,fun _ _ h=>h⟩
theorem Zey {k:List It} {c:Code} {st:St} (h:Vgo P nt (codes (Qez c) k) Q st):Vgo P nt (.code c::k) Q st:=(Q11 c).1 st h
theorem Qpy (k:List It): ∀(A B:List Code),codes (A++B) k=codes A (codes B k)
 | [],_=>rfl
 |a::A,B=>by simp only [List.cons_append,codes,List.foldr];rw [←codes,Qpy k A B];rfl
theorem Qgh (hm:P.follows .mixedOrders=true) (tb:Tab) (ks:List Nat) {C:List Code} (n:Nat) (hn:Nat.blt n C.length=true) {st:St} (st1:St)
  (h1:go P tb nt ks (codes (C.take n) (.again (fun s=>Le s st1)::codes (C.drop n) [])) Q st) (h2:Vgo P nt (codes (C.drop n) []) Q st1):Vgo P nt (codes C []) Q st:=by
 have hn:n<C.length:=by rw [Nat.blt_eq]at hn;exact hn
 have e:C.drop n=C[n]::C.drop (n+1):=List.drop_eq_getElem_cons hn;have e2:codes C []=codes (C.take n) (.code C[n]::codes (C.drop (n+1)) []):=by
  have:=Qpy [] (C.take n) (C.drop n);rw [List.take_append_drop]at this;rw [this,e];rfl
 rw [e2];have e3:codes (C.drop n) []= .code C[n]::codes (C.drop (n+1)) []:=by rw [e];rfl
 rw [e3]at h1 h2;exact Zex hm tb ks _ h1 h2
theorem Zez {f:FuncId} {fn:Func} {c:Code} {args:List PV} {r:PV} (nt:Nat) (rs:List ResultVar) (hf:P.funcs[f]? =some fn) (hb:fn.body=some c)
  (hc:callable P f=true) (hnt:fn.ntmps=nt) (hrs:fn.results.toList=rs) (hn:Nat.ble args.length nt=true)
  (h:Vgo P nt (codes (Qez c) []) (vret P rs (· =r)) (St.of (Qb8 0 args) [])):Qag P f args r:=
 Qnk nt rs hf hb hc hnt hrs hn (by
  have h:=Zey h;simp only [Vgo,Vleave]at h;exact h)
end
end Go.Vl

namespace Go.Proofs.YtapjnenbofmliaaGreatDoor
open Go.Vl Go.RowKit Go.Dg Go.Lib
theorem Qi7 (neg:Bool) {k:Nat} (h1:1≤k) (h2:k≤8192):decide (sv neg (ones k)<0)=neg∧(⟨(magL (sv neg (ones k)).natAbs).toArray⟩:ByteArray)=⟨(List.replicate k 255).toArray⟩:=by
 have:=Qi5 h1;rw [Qby,Q2o h1 h2];exact⟨Zcv neg (by omega),rfl⟩
theorem Q2q (neg:Bool):decide (sv neg 1<0)=neg∧(⟨(magL (sv neg 1).natAbs).toArray⟩:ByteArray)=⟨#[1]⟩:=by
 rw [Qby,Q77];exact⟨Zcv neg (by decide),rfl⟩
theorem upE {x:Int} {k E:Nat} (h:x.natAbs<2^k) (hk:k≤E):x.natAbs<2^E:=Nat.lt_of_lt_of_le h (Nat.pow_le_pow_right (by decide) hk)
theorem Q2r:byB 0=List.replicate 8193 (.int .u8 0):=by unfold byB;rw [List.replicate_zero,List.nil_append]
theorem Qsf:byB 8193=List.replicate 8193 (.int .u8 255):=by unfold byB;rw [Nat.sub_self,List.replicate_zero,List.append_nil]
noncomputable def limC:Code:=(Tryz.f4.body).getD .skip
set_option maxHeartbeats 40000000 in
set_option maxRecDepth 100000 in
theorem Q89 (neg:Bool) (S1:ByteArray):Vgo Tryz.prog 256 (codes ((Qez limC).drop 24) []) (vret Tryz.prog [.tmp 4] (· = .bool true)) (St.of [(7,.bp 20 2 0 0),(23,.int .i64 0),(24,.bp 24 2 0 0),(25,.int .i64 0),(27,.int .i64 7),(28,.bp 25 4 0 0),(29,.int .i64 0),(31,.int .i64 7)] [(20,{els:=[.agg [.bool neg,.str S1]],esz:=2,ety:=23,fro:=0,live:=true,arr:=false}),(24,{els:=[.agg [.bool neg,.str S1]],esz:=2,ety:=23,fro:=0,live:=true,arr:=false}),(25,{els:=[.agg [.bool neg,.str S1,.bool false,.str ⟨#[1]⟩]],esz:=4,ety:=47,fro:=0,live:=true,arr:=false})]):=by
 have hk:=Qwq;have b1: ∀b:Bool,(b==b)=true:=fun b=>by cases b<;>rfl
 have b2: ∀b:ByteArray,(b==b)=true:=Qwr;have q4:((0:Int)==0)=true:=rfl;have q5:((7:Int)==7)=true:=rfl;refine v_go (tb:=[]) (ks:=[0,1,4,5,6,7,8,9,10,11,12,13,14,15,16,17,18,19,20,21,22,23,24,25,27,28,29,31,37,43,70,108,154,186]) mixed ?_;dsimp only [limC,Tryz.f4,Option.getD_some];simp only [codes,Qez,List.drop_succ_cons,List.drop_zero,List.foldr_cons,List.foldr_nil]
 skip
 skip
 repeat (first|(simp -implicitDefEqProofs only [go_sem,seval,q4]))
 repeat (first|(simp -implicitDefEqProofs only [go_sem,seval,b1,b2]))
 repeat (first|(simp -implicitDefEqProofs only [go_sem,seval,q4])|(with_reducible exact Qad _ _ (by kernel_rfl))|(with_reducible refine And.intro (Qad _ _ (by kernel_rfl)) ?_))
 repeat (first|(simp -implicitDefEqProofs only [go_sem,seval,q5])|(with_reducible exact Qad _ _ (by kernel_rfl))|(with_reducible refine And.intro (Qad _ _ (by kernel_rfl)) ?_))
 repeat (first|(simp -implicitDefEqProofs only [go_sem,seval,b1,b2])|(with_reducible exact Qad _ _ (by kernel_rfl))|(with_reducible refine And.intro (Qad _ _ (by kernel_rfl)) ?_))
 repeat (first|(simp -implicitDefEqProofs only [go_sem,seval,q4])|(with_reducible exact Qad _ _ (by kernel_rfl))|(with_reducible refine And.intro (Qad _ _ (by kernel_rfl)) ?_))
 repeat (first|(simp -implicitDefEqProofs only [go_sem,seval])|((with_reducible refine Qaa hk ?_ ?_ ?_);rfl;rfl))
set_option maxHeartbeats 40000000 in
set_option maxRecDepth 100000 in
theorem Qoe (n:Int) (w1: -9223372036854775808≤n) (w2:n≤9223372036854775807) (neg:Bool):Qag Tryz.prog 4 [.int .i64 n,.bool neg] (.bool true):=by
 have hk:=Qwq;by_cases h1:n<1
 ·have t1:(n<1)=True:=eq_true h1;refine Qae (tb:=[]) 256 [.tmp 4] [0,1,4,5,6,7,8,9,10,11,12,13,14,15,16,17,18,19,20,21,22,23,24,25,27,28,29,31,37,43,70,108,154,186] mixed Tryz.func4 rfl (by kernel_rfl) (by kernel_rfl) (by kernel_rfl) (by kernel_rfl) ?_;repeat (first|(simp -implicitDefEqProofs only [go_sem,Nat.reduceAdd,Nat.reduceMul,Nat.reduceEqDiff,Nat.reduceLT,Nat.reduceLeDiff,reduceCtorEq,t1])|((with_reducible refine Qaa hk ?_ ?_ ?_);rfl;rfl))
 by_cases h2:8191<n
 ·have t1:(n<1)=False:=eq_false h1;have t2:(8191<n)=True:=eq_true h2;refine Qae (tb:=[]) 256 [.tmp 4] [0,1,4,5,6,7,8,9,10,11,12,13,14,15,16,17,18,19,20,21,22,23,24,25,27,28,29,31,37,43,70,108,154,186] mixed Tryz.func4 rfl (by kernel_rfl) (by kernel_rfl) (by kernel_rfl) (by kernel_rfl) ?_;repeat (first|(simp -implicitDefEqProofs only [go_sem,Nat.reduceAdd,Nat.reduceMul,Nat.reduceEqDiff,Nat.reduceLT,Nat.reduceLeDiff,reduceCtorEq,t1,t2])|((with_reducible refine Qaa hk ?_ ?_ ?_);rfl;rfl))
 have t1:(n<1)=False:=eq_false h1;have t2:(8191<n)=False:=eq_false h2;obtain⟨m,rfl⟩: ∃m:Nat,n=m:=⟨n.toNat,by omega⟩;have m1:1≤m:=by omega
 have m2:m≤8191:=by omega
 have L:=lim m 8192 neg rfl m1 m2;obtain⟨dT,mT⟩:=Qi7 neg (k:=8192) (by decide) (Nat.le_refl _);obtain⟨dX,mX⟩:=Qi7 false (k:=m) m1 (by omega);obtain⟨dY,mY⟩:=Qi7 neg (k:=8192-m) (by omega) (by omega);obtain⟨dZ,mZ⟩:=Qi7 false (k:=8193-m) (by omega) (by omega);obtain⟨dO,mO⟩:=Q2q neg;have c2:=Qeg false ⟨(List.replicate 8193 255).toArray⟩;rw [show(⟨(List.replicate 8193 255).toArray⟩:ByteArray).data.toList=List.replicate 8193 255 by simp,Qqd false (by decide)]at c2;generalize hT:sv neg (ones 8192)=T at*;generalize hX:sv false (ones m)=X at*;generalize hY:sv neg (ones (8192-m))=Y at*;generalize hZ:sv false (ones (8193-m))=Z at*;generalize hO:sv neg 1=O at*;generalize hD:sv neg (ones 8192-1)=D at*;generalize hP:sv neg (ones m*ones (8192-m))=P at*;have zb:Z.natAbs<2^65536:=by rw [←hZ,Qby];exact L.z
 have c1:=Q2k L.t;have c3:=Q74 L.t;have c4:=Q73 L.t L.o;have c5:=Zcp L.t L.o;have c6:=Q73 L.d L.o;have c7:=Q72 L.x L.y;have c8:=Zcs L.p L.y L.y0;have c9:=Q74 L.p;have c10:=Q72 L.x zb;have c11:=Zcq L.t L.x;have c13:=Q9b L.t;have c14:=Qsj (x:=T) L.tt;have c15:=Qsj (x:=T*10) L.tt10;have one1:(1:Int).natAbs<2^65536:=upE (k:=1) (E:=65536) (by decide) (by decide);have two1:(2:Int).natAbs<2^65536:=upE (k:=2) (E:=65536) (by decide) (by decide);have c16:=Qjp L.t L.x L.x one1 L.x0 (by decide);have c17:=Qjp L.t one1 two1 one1 (by decide) (by decide);rw [L.tb]at c3;rw [L.pb]at c9;rw [Qhp L.tof]at c4;rw [L.ts,Qgn L.d]at c5;rw [L.td,Qgn L.t]at c6;rw [L.pe,Qgn L.p]at c7;have Lb:=L.big;rw [hZ]at Lb;rw [Qhp Lb]at c10;rw [Qgn L.t]at c14;rw [Qhp L.t10,Zcy L.t0]at c15;have gpos:0<Nat.gcd T.natAbs X.natAbs:=Nat.gcd_pos_of_pos_right _ (by have:=L.x0;omega);have gle:Nat.gcd T.natAbs X.natAbs≤X.natAbs:=Nat.gcd_le_right _ (by have:=L.x0;omega);generalize Nat.gcd T.natAbs X.natAbs=G at*;have gb:((G:Nat):Int).natAbs<2^65536:=by rw [Int.natAbs_natCast];exact Nat.lt_of_le_of_lt gle L.x
 have c12:=Q82 gb;rw [Qgn gb]at c11;rw [Int.sign_eq_one_of_pos (by omega)]at c12;have o1:outN X=X:=by unfold outN;rw [if_neg (Nat.not_lt.2 (Qcf 65536 _ L.x))]
 have o2:outN 0=0:=by unfold outN;split<;>rfl
 unfold Q6p at c8;rw [←L.pe,Int.mul_ediv_cancel _ L.y0,Int.mul_emod_left,L.pe,o1,o2,Qi6]at c8;have l1:lowN (T*X) (X*1)=T:=by unfold lowN;rw [Int.mul_one,Q78 L.x0,Int.mul_ediv_cancel _ (by have:=L.x0;omega)]
 have l2:lowD (T*X) (X*1)=1:=by unfold lowD;rw [Int.mul_one,Q78 L.x0,Int.ediv_self (by have:=L.x0;omega)]
 have l3:lowN (T*2) (1*1)=T*2:=by unfold lowN;rw [Int.mul_one,Zcx,Int.ediv_one]
 have bT:big T 1=false:=by
  unfold big;rw [decide_eq_false (Nat.not_lt.2 (Qcf 65536 _ L.t)),decide_eq_false (Nat.not_lt.2 (Qcf 65536 _ one1))];rfl
 have bT2:big (T*2) (lowD (T*2) (1*1))=true:=by
  unfold big;rw [decide_eq_true (Qe2 65536 _ L.t2)];rfl
 rw [l1,l2,Qz5 bT]at c16;rw [l3,Qsn bT2]at c17;have a1:(1:Int).natAbs=1:=rfl;have a2:(2:Int).natAbs=2:=rfl;have p1:decide ((1:Int)<0)=false:=rfl;have p2:decide ((2:Int)<0)=false:=rfl;have hm1:=Q77;have hm2:=Zcw;unfold Qqw at c17;simp only [wPV,Qqv,dT,mT,dX,mX,dY,mY,dZ,mZ,dO,mO,a1,a2,p1,p2,hm1,hm2]at c1 c3 c4 c5 c6 c7 c8 c9 c10 c11 c12 c13 c14 c15 c16 c17;have b1: ∀b:Bool,(b==b)=true:=fun b=>by cases b<;>rfl
 have b2: ∀b:ByteArray,(b==b)=true:=Qwr;have hwr1:IntKind.i64.wrap (8192-(m:Int))=((8192-m:Nat):Int):=by rw [Qaj (by omega) (by omega)];omega
 have hwr2:IntKind.i64.wrap (8193-(m:Int))=((8193-m:Nat):Int):=by rw [Qaj (by omega) (by omega)];omega
 have ht10:=Qr1 (tx T) [48] (by have:=L.tt;simp;omega);clear Lb L l1 l2 l3 bT bT2 gpos gle gb o1 o2 zb one1 two1 hT hX hY hZ hO hD hP dT mT dX mX dY mY dZ mZ dO mO a1 a2 p1 p2 hm1 hm2;generalize tx T++[48]=TX10 at*;generalize tx T=TX at*;have k1:(((1:Nat):Int)*8193≤281474976710656)=True:=eq_true (by decide);have hbz:=Q2r;have n8:((8193:Nat):Int)=8193:=rfl;have hV0:(byB 8193).length=8193:=Qww (Nat.le_refl _);have tk1:=Qoc (PV.int .u8 255) (show 8192≤8193 by decide);have tk2:=Qoc (PV.int .u8 255) (show m≤8193 by omega);have tk3:=Qoc (PV.int .u8 255) (show 8192-m≤8193 by omega);have tk4:=Qoc (PV.int .u8 255) (show 8193-m≤8193 by omega);have tk5:=Qoc (PV.int .u8 255) (Nat.le_refl 8193);rw [←Qsf]at tk1 tk2 tk3 tk4 tk5;have bs1:=Qdj 8192;have bs2:=Qdj m;have bs3:=Qdj (8192-m);have bs4:=Qdj (8193-m);have bs5:=Qdj 8193;rw [←Qsf]at bs5;generalize List.replicate 8192 (255:UInt8)=L1 at*;generalize List.replicate m (255:UInt8)=L2 at*;generalize List.replicate (8192-m) (255:UInt8)=L3 at*;generalize List.replicate (8193-m) (255:UInt8)=L4 at*;generalize List.replicate 8193 (255:UInt8)=L5 at*;generalize List.replicate 8192 (PV.int .u8 255)=V1 at*;generalize List.replicate m (PV.int .u8 255)=V2 at*;generalize List.replicate (8192-m) (PV.int .u8 255)=V3 at*;generalize List.replicate (8193-m) (PV.int .u8 255)=V4 at*;generalize hVV:byB 8193=V0 at*;generalize hS1:(⟨L1.toArray⟩:ByteArray)=S1 at*;generalize hS2:(⟨L2.toArray⟩:ByteArray)=S2 at*;generalize hS3:(⟨L3.toArray⟩:ByteArray)=S3 at*
 generalize hS4:(⟨L4.toArray⟩:ByteArray)=S4 at*;generalize hS5:(⟨L5.toArray⟩:ByteArray)=S5 at*;have y1:((m:Int)≤8193)=True:=eq_true (by omega);have y2:((0:Int)≤(m:Int))=True:=eq_true (by omega);have y3:(((8192-m:Nat):Int)≤8193)=True:=eq_true (by omega);have y4:((0:Int)≤((8192-m:Nat):Int))=True:=eq_true (by omega);have y5:(((8193-m:Nat):Int)≤8193)=True:=eq_true (by omega);have y6:((0:Int)≤((8193-m:Nat):Int))=True:=eq_true (by omega);have z1:(m≤8193)=True:=eq_true (by omega);have z2:(8192-m≤8193)=True:=eq_true (by omega);have z3:(8193-m≤8193)=True:=eq_true (by omega);have x1:max 8193 m=8193:=by omega
 have x2:max 8193 (8192-m)=8193:=by omega
 have x3:max 8193 (8193-m)=8193:=by omega
 have n65:((65536:Nat):Int)=65536:=rfl;have q0:((65536:Int) != 65536)=false:=rfl;have q1:((0:Int) != 0)=false:=rfl;have q2:((7:Int) != 7)=false:=rfl;have q3:((1:Int) != 1)=false:=rfl;have u1:((8192:Nat)≤8193)=True:=eq_true (by decide);have u2:((8193:Nat)≤8193)=True:=eq_true (by decide);have q4:((0:Int)==0)=true:=rfl;have q5:((7:Int)==7)=true:=rfl;refine Zez 256 [.tmp 4] Tryz.func4 rfl (by kernel_rfl) (by kernel_rfl) (by kernel_rfl) (by kernel_rfl) ?_;refine Qgh mixed [] [0,1,4,5,6,7,8,9,10,11,12,13,14,15,16,17,18,19,20,21,22,23,24,25,27,28,29,31,37,43,70,108,154,186] 4 rfl (St.of [(0,.int .i64 (m:Int)),(1,.bool neg),(5,.bs 7 1 0 8193)] [(7,{els:=V0,esz:=1,ety:=5,fro:=0,live:=true,arr:=true})]) ?_ ?_
 ·simp only [codes,Qez,List.take_succ_cons,List.take_zero,List.drop_succ_cons,List.drop_zero,List.foldr_cons,List.foldr_nil];clear c1 c2 c3 c4 c5 c6 c7 c8 c9 c10 c11 c12 c13 c14 c15 c16 c17;repeat (first|(simp -implicitDefEqProofs only [go_sem,Nat.reduceAdd,Nat.reduceMul,Nat.reduceEqDiff,Nat.reduceLT,Nat.reduceLeDiff,reduceCtorEq,Int.reduceLE,Int.reduceToNat,t1,t2,k1]))
  refine Qba mixed (fun i:{i:Nat // i≤8193}=>St.of [(0,.int .i64 (m:Int)),(1,.bool neg),(5,.bs 7 1 0 8193),(6,.int .i64 (i.1:Int))] [(7,{els:=byB i.1,esz:=1,ety:=5,fro:=0,live:=true,arr:=true})]) (fun i=>8193-i.1) ⟨0,Nat.zero_le _⟩ ?_ ?_
  ·simp only [hbz];refine Qa0 (θ:=[(7,300)]) rfl ?_ ?_
   ·simp [Qah,lkp,ren1,ren0,Qbp]
   ·exact⟨⟨rfl,rfl,rfl,rfl,rfl,.inl ⟨rfl,rfl⟩⟩,trivial⟩
  rintro⟨i,hi⟩;simp only;have hbl:=Qww hi;by_cases hA:i<8193
  case pos=>
   have hA':((i:Int)<8193)=True:=eq_true (by omega);have n0:((0:Int)≤(i:Int))=True:=eq_true (by omega);have hg:=Q85 hA;have hst:=Q84 hA;have hwk:=Qa5 (a:=i) (by omega);repeat (first|(simp -implicitDefEqProofs only [go_sem,Nat.reduceAdd,Nat.reduceMul,Nat.reduceEqDiff,Nat.reduceLT,Nat.reduceLeDiff,reduceIte,reduceCtorEq,n8,hA',n0,hg,hst,hwk,Int.toNat_natCast]))
   refine⟨⟨i+1,hA⟩,by simp only;omega,?_⟩;refine Qa0 (θ:=[(7,7)]) rfl ?_ ?_
   ·simp [Qah,lkp,ren1,ren0,Qbp]
   ·exact⟨⟨rfl,rfl,rfl,rfl,rfl,.inl ⟨rfl,rfl⟩⟩,trivial⟩
  have hA':((i:Int)<8193)=False:=eq_false (by omega);obtain rfl:i=8193:=by omega
  rw [hVV];repeat (first|(simp -implicitDefEqProofs only [go_sem,Nat.reduceAdd,Nat.reduceMul,Nat.reduceEqDiff,Nat.reduceLT,Nat.reduceLeDiff,Nat.reduceSub,reduceCtorEq,Int.reduceLT,n8]))
  refine Qa0 (θ:=[(7,7)]) rfl ?_ ?_
  ·simp [Qah,lkp,ren1,ren0,Qbp]
  ·exact⟨⟨rfl,rfl,rfl,rfl,rfl,.inl ⟨rfl,rfl⟩⟩,trivial⟩
 refine Qgh mixed [] [0,1,4,5,6,7,8,9,10,11,12,13,14,15,16,17,18,19,20,21,22,23,24,25,27,28,29,31,37,43,70,108,154,186] 4 rfl (St.of [(0,.int .i64 (m:Int)),(1,.bool neg),(5,.bs 7 1 0 8193),(7,.bp 20 2 0 0),(8,.bp 21 2 0 0),(9,.bp 22 2 0 0)] [(7,{els:=V0,esz:=1,ety:=5,fro:=0,live:=true,arr:=true}),(20,{els:=[.agg [.bool neg,.str S1]],esz:=2,ety:=23,fro:=0,live:=true,arr:=false}),(21,{els:=[.agg [.bool neg,.str ⟨#[1]⟩]],esz:=2,ety:=23,fro:=0,live:=true,arr:=false}),(22,{els:=[.agg [.bool false,.str ⟨#[]⟩]],esz:=2,ety:=23,fro:=0,live:=true,arr:=false})]) ?_ ?_
 ·simp only [codes,Qez,List.take_succ_cons,List.take_zero,List.drop_succ_cons,List.drop_zero,List.foldr_cons,List.foldr_nil];clear c4 c5 c6 c7 c8 c9 c10 c11 c12 c13 c14 c15 c16 c17;repeat (first|(simp -implicitDefEqProofs only [go_sem,Nat.reduceAdd,Nat.reduceMul,Nat.reduceEqDiff,Nat.reduceLT,Nat.reduceLeDiff,reduceIte,reduceCtorEq,Int.reduceLE,Int.reduceToNat,hS1,hS5,u1,u2,n8,n65,q0,tk1,tk5,bs1,bs5,hV0,List.drop_zero,decide_true,Bool.and_self,Bool.not_true,Nat.zero_add])|((with_reducible refine Qaa c1 ?_ ?_ ?_);rfl;rfl)|((with_reducible refine Qaa c2 ?_ ?_ ?_);rfl;rfl)|((with_reducible refine Qaa c3 ?_ ?_ ?_);rfl;rfl))
  refine Qa0 (θ:=[(7,7),(20,805),(21,902),(22,1001)]) rfl ?_ ?_
  ·simp [Qah,lkp,ren1,ren0,Qbp]
  ·exact⟨⟨rfl,rfl,rfl,rfl,rfl,.inl ⟨rfl,rfl⟩⟩,⟨rfl,rfl,rfl,rfl,rfl,.inr ⟨rfl,_,_,rfl,rfl,rfl,rfl⟩⟩,⟨rfl,rfl,rfl,rfl,rfl,.inr ⟨rfl,_,_,rfl,rfl,rfl,rfl⟩⟩,⟨rfl,rfl,rfl,rfl,rfl,.inr ⟨rfl,_,_,rfl,rfl,rfl,rfl⟩⟩,trivial⟩
 refine Qgh mixed [] [0,1,4,5,6,7,8,9,10,11,12,13,14,15,16,17,18,19,20,21,22,23,24,25,27,28,29,31,37,43,70,108,154,186] 4 rfl (St.of [(0,.int .i64 (m:Int)),(1,.bool neg),(5,.bs 7 1 0 8193),(7,.bp 20 2 0 0),(9,.bp 22 2 0 0)] [(7,{els:=V0,esz:=1,ety:=5,fro:=0,live:=true,arr:=true}),(20,{els:=[.agg [.bool neg,.str S1]],esz:=2,ety:=23,fro:=0,live:=true,arr:=false}),(22,{els:=[.agg [.bool false,.str ⟨#[]⟩]],esz:=2,ety:=23,fro:=0,live:=true,arr:=false})]) ?_ ?_
 ·simp only [codes,Qez,List.take_succ_cons,List.take_zero,List.drop_succ_cons,List.drop_zero,List.foldr_cons,List.foldr_nil];clear c1 c2 c3 c7 c8 c9 c10 c11 c12 c13 c14 c15 c16 c17;repeat (first|(simp -implicitDefEqProofs only [go_sem,Nat.reduceAdd,Nat.reduceMul,Nat.reduceEqDiff,Nat.reduceLT,Nat.reduceLeDiff,reduceCtorEq])|((with_reducible refine Qaa c4 ?_ ?_ ?_);rfl;rfl)|((with_reducible refine Qaa c5 ?_ ?_ ?_);rfl;rfl)|((with_reducible refine Qaa c6 ?_ ?_ ?_);rfl;rfl))
  repeat (first|(simp -implicitDefEqProofs only [go_sem,Nat.reduceAdd,Nat.reduceEqDiff,Nat.reduceLT,reduceCtorEq,b1,b2]))
  repeat (first|(simp -implicitDefEqProofs only [go_sem,Nat.reduceAdd,Nat.reduceEqDiff,Nat.reduceLT,reduceCtorEq,q2]))
  repeat (first|(simp -implicitDefEqProofs only [go_sem,Nat.reduceAdd,Nat.reduceEqDiff,Nat.reduceLT,reduceCtorEq,q1]))
  repeat (first|(simp -implicitDefEqProofs only [go_sem,Nat.reduceAdd,Nat.reduceEqDiff,Nat.reduceLT,reduceCtorEq,b1,b2]))
  repeat (first|(simp -implicitDefEqProofs only [go_sem,q1]))
  repeat (first|(simp -implicitDefEqProofs only [go_sem,Nat.reduceAdd,Nat.reduceMul,Nat.reduceEqDiff,Nat.reduceLT,Nat.reduceLeDiff,Nat.reduceSub,Nat.reduceBEq,reduceIte,reduceCtorEq,Int.reduceEq,Int.reduceNe,Nat.reduceBneDiff,Int.reduceLE,Int.reduceLT,Int.reduceToNat,Int.reduceAdd,Int.reduceSub,Int.reduceMul,Int.reduceNeg,b1,b2])|(with_reducible exact Qad _ _ (by kernel_rfl))|(with_reducible refine And.intro (Qad _ _ (by kernel_rfl)) ?_))
  repeat (first|(simp -implicitDefEqProofs only [go_sem,Nat.reduceAdd,Nat.reduceMul,Nat.reduceEqDiff,Nat.reduceLT,Nat.reduceLeDiff,Nat.reduceSub,Nat.reduceBEq,reduceIte,reduceCtorEq,Int.reduceEq,Int.reduceNe,Nat.reduceBneDiff,Int.reduceLE,Int.reduceLT,Int.reduceToNat,Int.reduceAdd,Int.reduceSub,Int.reduceMul,Int.reduceNeg,q1])|(with_reducible exact Qad _ _ (by kernel_rfl))|(with_reducible refine And.intro (Qad _ _ (by kernel_rfl)) ?_))
  refine Qa0 (θ:=[(7,7),(20,20),(22,22)]) rfl ?_ ?_
  ·simp [Qah,lkp,ren1,ren0,Qbp]
  ·exact⟨⟨rfl,rfl,rfl,rfl,rfl,.inl ⟨rfl,rfl⟩⟩,⟨rfl,rfl,rfl,rfl,rfl,.inr ⟨rfl,_,_,rfl,rfl,rfl,rfl⟩⟩,⟨rfl,rfl,rfl,rfl,rfl,.inr ⟨rfl,_,_,rfl,rfl,rfl,rfl⟩⟩,trivial⟩
 refine Qgh mixed [] [0,1,4,5,6,7,8,9,10,11,12,13,14,15,16,17,18,19,20,21,22,23,24,25,27,28,29,31,37,43,70,108,154,186] 4 rfl (St.of [(0,.int .i64 (m:Int)),(5,.bs 7 1 0 8193),(7,.bp 20 2 0 0),(16,.bp 23 2 0 0)] [(7,{els:=V0,esz:=1,ety:=5,fro:=0,live:=true,arr:=true}),(20,{els:=[.agg [.bool neg,.str S1]],esz:=2,ety:=23,fro:=0,live:=true,arr:=false}),(23,{els:=[.agg [.bool false,.str S2]],esz:=2,ety:=23,fro:=0,live:=true,arr:=false})]) ?_ ?_
 ·simp only [codes,Qez,List.take_succ_cons,List.take_zero,List.drop_succ_cons,List.drop_zero,List.foldr_cons,List.foldr_nil];clear c1 c2 c3 c4 c5 c6 c10 c11 c12 c13 c14 c15 c16 c17;repeat (first|(simp -implicitDefEqProofs only [go_sem,Nat.reduceAdd,Nat.reduceMul,Nat.reduceEqDiff,Nat.reduceLT,Nat.reduceLeDiff,reduceIte,reduceCtorEq,hS2,hS3,n8,hwr1,y1,y2,y3,y4,z1,z2,tk2,tk3,bs2,bs3,hV0,List.drop_zero,Int.toNat_natCast,decide_true,Bool.and_self,Nat.zero_add])|((with_reducible refine Qaa c7 ?_ ?_ ?_);rfl;rfl)|((with_reducible refine Qaa c8 ?_ ?_ ?_);rfl;rfl)|(with_reducible refine And.intro (Qad _ _ (by kernel_rfl)) ?_))
  repeat (first|(simp -implicitDefEqProofs only [go_sem,Nat.reduceAdd,Nat.reduceEqDiff,Nat.reduceLT,reduceCtorEq,q1]))
  repeat (first|(simp -implicitDefEqProofs only [go_sem,Nat.reduceAdd,Nat.reduceEqDiff,Nat.reduceLT,reduceCtorEq,b1,b2]))
  repeat (first|(simp -implicitDefEqProofs only [go_sem,Nat.reduceAdd,Nat.reduceMul,Nat.reduceEqDiff,Nat.reduceLT,Nat.reduceLeDiff,Nat.reduceSub,Nat.reduceBEq,reduceIte,reduceCtorEq,Int.reduceEq,Int.reduceNe,Nat.reduceBneDiff,Int.reduceLE,Int.reduceLT,Int.reduceToNat,Int.reduceAdd,Int.reduceSub,Int.reduceMul,Int.reduceNeg,q1])|(with_reducible exact Qad _ _ (by kernel_rfl))|(with_reducible refine And.intro (Qad _ _ (by kernel_rfl)) ?_))
  repeat (first|(simp -implicitDefEqProofs only [go_sem,Nat.reduceAdd,Nat.reduceMul,Nat.reduceEqDiff,Nat.reduceLT,Nat.reduceLeDiff,Nat.reduceSub,Nat.reduceBEq,reduceIte,reduceCtorEq,Int.reduceEq,Int.reduceNe,Nat.reduceBneDiff,Int.reduceLE,Int.reduceLT,Int.reduceToNat,Int.reduceAdd,Int.reduceSub,Int.reduceMul,Int.reduceNeg,b1,b2])|(with_reducible exact Qad _ _ (by kernel_rfl))|(with_reducible refine And.intro (Qad _ _ (by kernel_rfl)) ?_))
  repeat (first|(simp -implicitDefEqProofs only [go_sem,Nat.reduceAdd,Nat.reduceMul,Nat.reduceEqDiff,Nat.reduceLT,Nat.reduceLeDiff,Nat.reduceSub,Nat.reduceBEq,reduceIte,reduceCtorEq,Int.reduceEq,Int.reduceNe,Nat.reduceBneDiff,Int.reduceLE,Int.reduceLT,Int.reduceToNat,Int.reduceAdd,Int.reduceSub,Int.reduceMul,Int.reduceNeg,q1])|(with_reducible exact Qad _ _ (by kernel_rfl))|(with_reducible refine And.intro (Qad _ _ (by kernel_rfl)) ?_))
  repeat (first|(simp -implicitDefEqProofs only [go_sem,Nat.reduceAdd,Nat.reduceEqDiff,Nat.reduceLT,reduceCtorEq])|((with_reducible refine Qaa c9 ?_ ?_ ?_);rfl;rfl))
  repeat (first|(simp -implicitDefEqProofs only [go_sem,n65]))
  repeat (first|(simp -implicitDefEqProofs only [go_sem,q0]))
  refine Qa0 (θ:=[(7,7),(20,20),(23,1812)]) rfl ?_ ?_
  ·simp [Qah,lkp,ren1,ren0,Qbp]
  ·exact⟨⟨rfl,rfl,rfl,rfl,rfl,.inl ⟨rfl,rfl⟩⟩,⟨rfl,rfl,rfl,rfl,rfl,.inr ⟨rfl,_,_,rfl,rfl,rfl,rfl⟩⟩,⟨rfl,rfl,rfl,rfl,rfl,.inr ⟨rfl,_,_,rfl,rfl,rfl,rfl⟩⟩,trivial⟩
 refine Qgh mixed [] [0,1,4,5,6,7,8,9,10,11,12,13,14,15,16,17,18,19,20,21,22,23,24,25,27,28,29,31,37,43,70,108,154,186] 3 rfl (St.of [(7,.bp 20 2 0 0),(16,.bp 23 2 0 0)] [(20,{els:=[.agg [.bool neg,.str S1]],esz:=2,ety:=23,fro:=0,live:=true,arr:=false}),(23,{els:=[.agg [.bool false,.str S2]],esz:=2,ety:=23,fro:=0,live:=true,arr:=false})]) ?_ ?_
 ·simp only [codes,Qez,List.take_succ_cons,List.take_zero,List.drop_succ_cons,List.drop_zero,List.foldr_cons,List.foldr_nil];clear c1 c2 c3 c4 c5 c6 c7 c8 c9 c13 c14 c15 c16 c17;repeat (first|(simp -implicitDefEqProofs only [go_sem,Nat.reduceAdd,Nat.reduceMul,Nat.reduceEqDiff,Nat.reduceLT,Nat.reduceLeDiff,reduceIte,reduceCtorEq,hS2,hS4,n8,hwr2,y1,y2,y5,y6,z1,z3,tk2,tk4,bs2,bs4,hV0,List.drop_zero,Int.toNat_natCast,decide_true,Bool.and_self,Nat.zero_add])|((with_reducible refine Qaa c10 ?_ ?_ ?_);rfl;rfl)|((with_reducible refine Qaa c11 ?_ ?_ ?_);rfl;rfl)|(with_reducible refine And.intro (Qad _ _ (by kernel_rfl)) ?_))
  repeat (first|(simp -implicitDefEqProofs only [go_sem,Nat.reduceAdd,Nat.reduceEqDiff,Nat.reduceLT,reduceCtorEq,q2]))
  repeat (first|(simp -implicitDefEqProofs only [go_sem,Nat.reduceAdd,Nat.reduceEqDiff,Nat.reduceLT,reduceCtorEq,q1]))
  repeat (first|(simp -implicitDefEqProofs only [go_sem,Nat.reduceAdd,Nat.reduceEqDiff,Nat.reduceLT,reduceCtorEq])|((with_reducible refine Qaa c12 ?_ ?_ ?_);rfl;rfl))
  repeat (first|(simp -implicitDefEqProofs only [go_sem,q3]))
  refine Qa0 (θ:=[(20,20),(23,23)]) rfl ?_ ?_
  ·simp [Qah,lkp,ren1,ren0,Qbp]
  ·exact⟨⟨rfl,rfl,rfl,rfl,rfl,.inr ⟨rfl,_,_,rfl,rfl,rfl,rfl⟩⟩,⟨rfl,rfl,rfl,rfl,rfl,.inr ⟨rfl,_,_,rfl,rfl,rfl,rfl⟩⟩,trivial⟩
 refine Qgh mixed [] [0,1,4,5,6,7,8,9,10,11,12,13,14,15,16,17,18,19,20,21,22,23,24,25,27,28,29,31,37,43,70,108,154,186] 3 rfl (St.of [(7,.bp 20 2 0 0),(16,.bp 23 2 0 0),(23,.int .i64 0),(24,.bp 24 2 0 0),(25,.int .i64 0),(27,.int .i64 7)] [(20,{els:=[.agg [.bool neg,.str S1]],esz:=2,ety:=23,fro:=0,live:=true,arr:=false}),(23,{els:=[.agg [.bool false,.str S2]],esz:=2,ety:=23,fro:=0,live:=true,arr:=false}),(24,{els:=[.agg [.bool neg,.str S1]],esz:=2,ety:=23,fro:=0,live:=true,arr:=false})]) ?_ ?_
 ·simp only [codes,Qez,List.take_succ_cons,List.take_zero,List.drop_succ_cons,List.drop_zero,List.foldr_cons,List.foldr_nil];clear c1 c2 c3 c4 c5 c6 c7 c8 c9 c10 c11 c12 c16 c17;repeat (first|(simp -implicitDefEqProofs only [go_sem,Nat.reduceAdd,Nat.reduceMul,Nat.reduceEqDiff,Nat.reduceLT,Nat.reduceLeDiff,reduceCtorEq,ht10])|((with_reducible refine Qaa c13 ?_ ?_ ?_);rfl;rfl)|((with_reducible refine Qaa c14 ?_ ?_ ?_);rfl;rfl))
  repeat (first|(simp -implicitDefEqProofs only [go_sem,Nat.reduceAdd,Nat.reduceEqDiff,Nat.reduceLT,reduceCtorEq])|((with_reducible refine Qaa c15 ?_ ?_ ?_);rfl;rfl))
  refine Qa0 (θ:=[(20,20),(23,23),(24,2805)]) rfl ?_ ?_
  ·simp [Qah,lkp,ren1,ren0,Qbp]
  ·exact⟨⟨rfl,rfl,rfl,rfl,rfl,.inr ⟨rfl,_,_,rfl,rfl,rfl,rfl⟩⟩,⟨rfl,rfl,rfl,rfl,rfl,.inr ⟨rfl,_,_,rfl,rfl,rfl,rfl⟩⟩,⟨rfl,rfl,rfl,rfl,rfl,.inr ⟨rfl,_,_,rfl,rfl,rfl,rfl⟩⟩,trivial⟩
 refine Qgh mixed [] [0,1,4,5,6,7,8,9,10,11,12,13,14,15,16,17,18,19,20,21,22,23,24,25,27,28,29,31,37,43,70,108,154,186] 2 rfl (St.of [(7,.bp 20 2 0 0),(23,.int .i64 0),(24,.bp 24 2 0 0),(25,.int .i64 0),(27,.int .i64 7),(28,.bp 25 4 0 0),(29,.int .i64 0),(31,.int .i64 7)] [(20,{els:=[.agg [.bool neg,.str S1]],esz:=2,ety:=23,fro:=0,live:=true,arr:=false}),(24,{els:=[.agg [.bool neg,.str S1]],esz:=2,ety:=23,fro:=0,live:=true,arr:=false}),(25,{els:=[.agg [.bool neg,.str S1,.bool false,.str ⟨#[1]⟩]],esz:=4,ety:=47,fro:=0,live:=true,arr:=false})]) ?_ ?_
 ·simp only [codes,Qez,List.take_succ_cons,List.take_zero,List.drop_succ_cons,List.drop_zero,List.foldr_cons,List.foldr_nil];clear c1 c2 c3 c4 c5 c6 c7 c8 c9 c10 c11 c12 c13 c14 c15;repeat (first|(simp -implicitDefEqProofs only [go_sem,Nat.reduceAdd,Nat.reduceMul,Nat.reduceEqDiff,Nat.reduceLT,Nat.reduceLeDiff,reduceCtorEq])|((with_reducible refine Qaa c16 ?_ ?_ ?_);rfl;rfl)|((with_reducible refine Qaa c17 ?_ ?_ ?_);rfl;rfl))
  refine Qa0 (θ:=[(20,20),(24,24),(25,3010)]) rfl ?_ ?_
  ·simp [Qah,lkp,ren1,ren0,Qbp]
  ·exact⟨⟨rfl,rfl,rfl,rfl,rfl,.inr ⟨rfl,_,_,rfl,rfl,rfl,rfl⟩⟩,⟨rfl,rfl,rfl,rfl,rfl,.inr ⟨rfl,_,_,rfl,rfl,rfl,rfl⟩⟩,⟨rfl,rfl,rfl,rfl,rfl,.inr ⟨rfl,_,_,rfl,rfl,rfl,rfl⟩⟩,trivial⟩
 exact Q89 neg S1
end Go.Proofs.YtapjnenbofmliaaGreatDoor
