/-
  UQ, UR, US, UV (merged for the claim).
-/
import Derived.Test.YtlpiamlgibomhaaGreatUP
import Derived.IntWalk
import Derived.ProofKit
import Derived.Attr
set_option linter.unusedSimpArgs false
set_option linter.unusedVariables false
namespace Go.Vl
abbrev Vars:=List (Nat×PV)
abbrev BoxL:=List (Nat×Box)
def insL {α:Type}:List (Nat×α)→Nat→α→List (Nat×α)
 | [],k,v=>[(k,v)]
 |(j,x)::l,k,v=>match Nat.beq j k with
  |true=>(k,v)::l
  |false=>(j,x)::insL l k v
theorem Qyy {α:Type}: ∀(l:List (Nat×α)) (k:Nat) (v:α),lkp (insL l k v)=upd (lkp l) k (some v)
 | [],k,v=>by funext j;simp [insL,lkp,upd]
 |(i,x)::l,k,v=>by
  funext j
  have ih:=congrFun (Qyy l k v) j
  simp only [insL]
  cases h:Nat.beq i k with
  |true=>
   have:=Nat.eq_of_beq_eq_true h
   subst this
   simp only [lkp,upd]
   split<;>simp_all
  |false=>
   have hne: ¬i=k:=fun e=>by subst e;simp [Nat.beq_refl]at h
   simp only [lkp,upd,ih]
   by_cases e1:j=i<;>by_cases e2:j=k<;>simp_all
noncomputable def frcN {α:Type} (n:Nat) (k:Nat→α):α:= @Nat.rec (fun _=>α) (k 0) (fun m _=>k (Nat.succ m)) n
theorem Qge {α:Type} (n:Nat) (k:Nat→α):frcN n k=k n:=by cases n<;>rfl
noncomputable def frcI {α:Type} (n:Int) (k:Int→α):α:= @Int.rec (fun _=>α) (fun m=>frcN m fun m=>k (.ofNat m)) (fun m=>frcN m fun m=>k (.negSucc m)) n
theorem Zpa {α:Type} (n:Int) (k:Int→α):frcI n k=k n:=by cases n<;>simp [frcI,Qge]
noncomputable def frcB {α:Type} (b:Bool) (k:Bool→α):α:= @Bool.rec (fun _=>α) (k false) (k true) b
theorem Q9y {α:Type} (b:Bool) (k:Bool→α):frcB b k=k b:=by cases b<;>rfl
noncomputable def frcL {α β:Type} (f:β→(β→α)→α) (l:List β):(List β→α)→α:=
 @List.rec β (fun _=>(List β→α)→α) (fun K=>K []) (fun v _ ih K=>f v fun v=>ih fun vs=>K (v::vs)) l
theorem Qwq {α β:Type} {f:β→(β→α)→α} (hf: ∀v K,f v K=K v) (l:List β) (K:List β→α):frcL f l K=K l:=by
 induction l generalizing K with
 |nil=>rfl
 |cons v vs ih=>
  show f v (fun v=>frcL f vs fun vs=>K (v::vs))=K (v::vs)
  rw [hf,ih]
noncomputable def frc1 {α:Type} (rec:PV→(PV→α)→α) (v:PV) (K:PV→α):α:= @PV.casesOn (fun _=>α) v
 (fun b=>frcB b fun b=>K (.bool b)) (fun k n=>frcI n fun n=>K (.int k n)) (fun s=>K (.str s)) (K .nilS)
 (fun es=>frcL rec es fun es=>K (.slc es)) (fun es=>frcL rec es fun es=>K (.agg es)) (fun es=>frcL rec es fun es=>K (.tup es))
 (fun f a c=>frcN f fun f=>frcL rec a fun a=>frcL rec c fun c=>K (.fn f a c)) (K .nilF) (fun es=>frcL rec es fun es=>K (.rp es))
 (fun b e i o=>frcN b fun b=>frcN e fun e=>frcN i fun i=>frcN o fun o=>K (.bp b e i o))
 (fun b e i o=>frcN b fun b=>frcN e fun e=>frcN i fun i=>frcN o fun o=>K (.bs b e i o)) (K .undef) (fun l s=>K (.yld l s)) (K .nilI)
noncomputable def frc {α:Type} (d:Nat):PV→(PV→α)→α:= @Nat.rec (fun _=>PV→(PV→α)→α) (fun v K=>K v) (fun _ ih=>frc1 ih) d
theorem Qtz {α:Type} (d:Nat) (v:PV) (K:PV→α):frc d v K=K v:=by
 induction d generalizing v K with
 |zero=>rfl
 |succ d ih=>
  show frc1 (frc d) v K=K v
  cases v<;>simp only [frc1,Q9y,Zpa,Qge,Qwq ih]
noncomputable def Qlj {α:Type} (B:Box) (K:Box→α):α:=match B with
 |⟨els,esz,ety,fro,live,arr⟩=>frcL (frc 6) els fun els=>frcN esz fun esz=>frcN fro fun fro=>frcB live fun live=>frcB arr fun arr=>K ⟨els,esz,ety,fro,live,arr⟩
theorem Qhb {α:Type} (B:Box) (K:Box→α):Qlj B K=K B:=by cases B;simp only [Qlj,Q9y,Qge,Qwq (Qtz 6)]
theorem Qwr (m t j:Nat):(m ||| 2^t).testBit j=(m.testBit j||decide (t=j)):=by rw [Nat.testBit_or,Nat.testBit_two_pow]
noncomputable def frcS {α β:Type} (l:List (Nat×β)):Nat→(List (Nat×β)→α)→α:=
 @List.rec (Nat×β) (fun _=>Nat→(List (Nat×β)→α)→α) (fun _ K=>K []) (fun p _ ih m K=> @Bool.rec (fun _=>α) (frcN (m ||| 2^p.1) fun m=>ih m fun l=>K (p::l)) (ih m K) (m.testBit p.1)) l
theorem Zpb {α β:Type} (l:List (Nat×β)) (m:Nat) (K:List (Nat×β)→α): ∃l',frcS l m K=K l'∧ ∀t,m.testBit t=false→lkp l' t=lkp l t:=by
 induction l generalizing m K with
 |nil=>exact⟨[],rfl,fun _ _=>rfl⟩
 |cons p l ih=>
  have e:frcS (p::l) m K= @Bool.rec (fun _=>α) (frcN (m ||| 2^p.1) fun m=>frcS l m fun l=>K (p::l)) (frcS l m K) (m.testBit p.1):=rfl
  rw [e]
  cases hb:m.testBit p.1 with
  |true=>
   obtain⟨l',h1,h2⟩:=ih m K
   refine⟨l',h1,fun t ht=> ?_⟩
   have hne: ¬t=p.1:=fun e=>by rw [e,hb]at ht;cases ht
   rw [h2 t ht]
   simp [lkp,hne]
  |false=>
   simp only [Qge]
   obtain⟨l',h1,h2⟩:=ih (m ||| 2^p.1) fun l=>K (p::l)
   refine⟨_,h1,fun t ht=> ?_⟩
   obtain⟨k,v⟩:=p
   simp only [lkp]
   by_cases hk:t=k
   ·simp [hk]
   ·simp only [if_neg hk]
    exact h2 t (by rw [Qwr,ht];simp;exact fun x=>hk x.symm)
theorem Zuu {α β:Type} (l:List (Nat×β)) (K:List (Nat×β)→α): ∃l',frcS l 0 K=K l'∧lkp l'=lkp l:=by
 obtain⟨l',h1,h2⟩:=Zpb l 0 K
 exact⟨l',h1,funext fun t=>h2 t (by simp)⟩
noncomputable def effB {α:Type} (e:Eff) (bs:BoxL) (K:BoxL→Option α):Option α:=match e with
 | .new b B=>Qlj B fun B=>K (insL bs b B)
 | .wr b i v=>match lkp bs b with
  |some B=>Qlj {B with els:=B.els.set i v} fun B=>K (insL bs b B)
  |none=>K bs
 | .fro b n=>match lkp bs b with
  |some B=>Qlj {B with fro:=max B.fro n,live:=B.live&&true} fun B=>K (insL bs b B)
  |none=>K bs
 | .kill b=>match lkp bs b with
  |some B=>Qlj {B with els:=[],fro:=0,live:=false} fun B=>K (insL bs b B)
  |none=>K bs
 | .yld _=>none
noncomputable def Zhz {α:Type}:List Eff→BoxL→(BoxL→Option α)→Option α
 | [],bs,K=>K bs
 |e::es,bs,K=>effB e bs fun bs=>Zhz es bs K
theorem Zpc {α:Type} (e:Eff) (vs:Vars) (bs:BoxL) (K:BoxL→Option α) {x:α} (h:effB e bs K=some x): ∃bs',K bs'=some x∧e.on (St.of vs bs)=St.of vs bs':=by
 have hs: ∀b B,(St.of vs bs).setBox b B=St.of vs (insL bs b B):=fun b B=>by simp only [St.setBox,St.of,St.ofG,Qyy]
 cases e with
 |new b B=>simp only [effB,Qhb]at h;exact⟨_,h,hs _ _⟩
 |wr b i v=>
  simp only [effB]at h
  simp only [Eff.on,Qg8]
  cases hb:lkp bs b with
  |some B=>simp only [hb,Qhb]at h;exact⟨_,h,hs _ _⟩
  |none=>simp only [hb]at h;exact⟨_,h,rfl⟩
 |fro b n=>
  simp only [effB]at h
  simp only [Eff.on,Qg8]
  cases hb:lkp bs b with
  |some B=>simp only [hb,Qhb]at h;exact⟨_,h,hs _ _⟩
  |none=>simp only [hb]at h;exact⟨_,h,rfl⟩
 |kill b=>
  simp only [effB]at h
  simp only [Eff.on,Qg8]
  cases hb:lkp bs b with
  |some B=>simp only [hb,Qhb]at h;exact⟨_,h,hs _ _⟩
  |none=>simp only [hb]at h;exact⟨_,h,rfl⟩
 |yld x=>cases h
theorem Qr1 {α:Type}: ∀(es:List Eff) (vs:Vars) (bs:BoxL) (K:BoxL→Option α) {x:α},Zhz es bs K=some x→ ∃bs',K bs'=some x∧Qat es (St.of vs bs)=St.of vs bs'
 | [],vs,bs,K,x,h=>⟨bs,h,rfl⟩
 |e::es,vs,bs,K,x,h=>by
  obtain⟨bs1,h1,h2⟩:=Zpc e vs bs _ h
  obtain⟨bs2,h3,h4⟩:=Qr1 es vs bs1 K h1
  refine⟨bs2,h3,?_⟩
  rw [Qbc,h2,h4]
def putL (vs:Vars):Option Tmp→PV→Vars
 |some t,v=>(t,v)::vs
 |none,_=>vs
theorem Qws (vs:Vars) (bs:BoxL) (d:Option Tmp) (v:PV):(St.of vs bs).put d v=St.of (putL vs d v) bs:=by
 cases d with
 |none=>rfl
 |some t=>rfl
noncomputable def lkR (l:Vars) (k:Nat):Option PV:= @List.rec (Nat×PV) (fun _=>Option PV) none (fun p _ ih=> @Bool.rec (fun _=>Option PV) ih (some p.2) (Nat.beq k p.1)) l
theorem Zso (l:Vars) (k:Nat):lkR l k=lkp l k:=by
 induction l with
 |nil=>rfl
 |cons p l ih=>
  have e:lkR (p::l) k= @Bool.rec (fun _=>Option PV) (lkR l k) (some p.2) (Nat.beq k p.1):=rfl
  rw [e,ih]
  obtain⟨j,v⟩:=p
  simp only [lkp]
  cases h:Nat.beq k j with
  |true=>simp [Nat.eq_of_beq_eq_true h]
  |false=>
   have hne: ¬k=j:=fun e=>by subst e;simp [Nat.beq_refl]at h
   simp [hne]
noncomputable def evK {α:Type} (vs:Vars) (xs:List Operand):(List PV→Option α)→Option α:=
 @List.rec Operand (fun _=>(List PV→Option α)→Option α) (fun K=>K []) (fun x _ ih K=>
  @Option.rec PV (fun _=>Option α) none (fun v=>ih fun l=>K (v::l)) (@Operand.casesOn (fun _=>Option PV) x (fun t=>lkR vs t) (fun c=>Qee c) (fun _=>none) (fun f=>some (.fn f [] [])))) xs
theorem Zsp {α:Type} (vs:Vars) (bs:BoxL) (xs:List Operand) (K:List PV→Option α):evK vs xs K=match(St.of vs bs).evs xs with
  |some l=>K l
  |none=>none:=by
 induction xs generalizing K with
 |nil=>rfl
 |cons x xs ih=>
  have e:evK vs (x::xs) K= @Option.rec PV (fun _=>Option α) none (fun v=>evK vs xs fun l=>K (v::l)) (@Operand.casesOn (fun _=>Option PV) x (fun t=>lkR vs t) (fun c=>Qee c) (fun _=>none) (fun f=>some (.fn f [] []))):=rfl
  have hx:(@Operand.casesOn (fun _=>Option PV) x (fun t=>lkR vs t) (fun c=>Qee c) (fun _=>none) (fun f=>some (.fn f [] [])))=(St.of vs bs).ev x:=by
   cases x<;>simp only [St.ev,St.of,St.ofG,Zso]
  rw [e,hx]
  simp only [St.evs]
  cases (St.of vs bs).ev x with
  |none=>rfl
  |some v=>
   simp only [ih]
   cases (St.of vs bs).evs xs<;>rfl
def invM (κ:List (Nat×Nat)):List (Nat×Nat):=κ.map fun p=>(p.2,p.1)
theorem Q9z: ∀(κ:List (Nat×Nat)) (b:Nat),lkp (invM κ) b=rlk κ b
 | [],_=>rfl
 |(k,v)::l,b=>by
  have ih:=Q9z l b
  simp only [invM,List.map_cons,lkp,rlk]at ih ⊢
  rw [ih]
theorem Qj1 {κ:List (Nat×Nat)} (hκ:Qfr κ=true) {b b':Nat} (h:lkp κ b=some b'):lkp (invM κ) b'=some b:=by
 rw [Q9z];exact(Qbv hκ).1 h
theorem Zh0 {κ:List (Nat×Nat)} (hκ:Qfr κ=true) {v v':PV} (h:ren0 κ v=some v'):ren0 (invM κ) v'=some v:=by
 cases v with
 |bp b esz i off=>
  simp only [ren0]at h
  split at h
  ·rename_i b' hb;cases h;simp only [ren0,Qj1 hκ hb]
  ·cases h
 |bs b esz i off=>
  simp only [ren0]at h
  split at h
  ·rename_i b' hb;cases h;simp only [ren0,Qj1 hκ hb]
  ·cases h
 |fn f a c=>
  cases a with
  |nil=>cases c with
   |nil=>cases h;rfl
   |cons=>cases h
  |cons=>cases h
 |agg=>cases h
 |tup=>cases h
 |_=>cases h;rfl
theorem Qj2 {κ:List (Nat×Nat)} (hκ:Qfr κ=true): ∀{vs vs':List PV},Qam κ vs=some vs'→Qam (invM κ) vs'=some vs
 | [],vs',h=>by cases h;rfl
 |v::vs,vs',h=>by
  unfold Qam at h
  split at h
  ·cases h
  ·rename_i x hx
   split at h
   ·cases h
   ·rename_i xs hxs
    cases h
    simp only [Qam,Zh0 hκ hx,Qj2 hκ hxs]
theorem Qyz {κ:List (Nat×Nat)} (hκ:Qfr κ=true) {v v':PV} (h:ren1 κ v=some v'):ren1 (invM κ) v'=some v:=by
 cases v with
 |agg cs=>
  simp only [ren1]at h
  split at h
  ·rename_i xs hxs;cases h;simp only [ren1,Qj2 hκ hxs]
  ·cases h
 |tup vs=>
  cases vs with
  |nil=>cases h;rfl
  |cons=>cases h
 |fn f a c=>
  simp only [ren1]at h
  split at h
  ·cases h
  ·rename_i x hx
   split at h
   ·cases h
   ·rename_i y hy
    cases h
    simp only [ren1,Qj2 hκ hx,Qj2 hκ hy]
 |bp b esz i off=>
  have h':ren0 κ (.bp b esz i off)=some v':=h
  simp only [ren0]at h'
  split at h'
  ·rename_i b' hb;cases h';simp only [ren1,ren0,Qj1 hκ hb]
  ·cases h'
 |bs b esz i off=>
  have h':ren0 κ (.bs b esz i off)=some v':=h
  simp only [ren0]at h'
  split at h'
  ·rename_i b' hb;cases h';simp only [ren1,ren0,Qj1 hκ hb]
  ·cases h'
 |_=>cases h;rfl
def Q90:Nat→BoxL→List (Nat×Nat)
 |_,[]=>[]
 |i,(b,_)::bs=>(b,500000+i)::Q90 (i+1) bs
def renV (κ:List (Nat×Nat)) (vs:Vars):Vars→Vars
 | []=>[]
 |(t,_)::r=>match lkp vs t with
  |some v=>match ren1 κ v with
   |some v'=>(t,v')::renV κ vs r
   |none=>renV κ vs r
  |none=>renV κ vs r
theorem Qr2 {κ:List (Nat×Nat)} (hκ:Qfr κ=true) (vs:Vars): ∀l:Vars,Qad (invM κ) vs (renV κ vs l)
 | []=>trivial
 |(t,_)::r=>by
  unfold renV
  split
  ·rename_i v hv
   split
   ·rename_i v' hv'
    refine⟨?_,Qr2 hκ vs r⟩
    rw [hv];exact Qyz hκ hv'
   ·exact Qr2 hκ vs r
  ·exact Qr2 hκ vs r
def Q91 (κ:List (Nat×Nat)) (B:Box):Option Box:=match B.arr with
 |true=>some B
 |false=>match B.els with
  | [v]=>match ren1 κ v with
   |some v'=>if Qbr v'.cells=true then some {B with els:=[v']}else none
   |none=>none
  |_=>none
theorem Q92 {κ:List (Nat×Nat)} (hκ:Qfr κ=true) {B B':Box} (h:Q91 κ B=some B'):Box.renames (invM κ) B' B:=by
 unfold Q91 at h
 cases ha:B.arr with
 |true=>rw [ha]at h;cases h;exact⟨rfl,rfl,rfl,rfl,rfl,.inl ⟨ha,rfl⟩⟩
 |false=>
  rw [ha]at h
  simp only at h
  split at h
  ·rename_i v hv
   split at h
   ·rename_i v' hv'
    split at h
    ·rename_i hok
     cases h
     exact⟨rfl,rfl,rfl,rfl,ha.symm,.inr ⟨rfl,v,v',rfl,hv,Qyz hκ hv',hok⟩⟩
    ·cases h
   ·cases h
  ·cases h
def renB (κ:List (Nat×Nat)) (bs:BoxL):BoxL→Option BoxL
 | []=>some []
 |(b,_)::r=>match lkp κ b,lkp bs b with
  |some b',some B=>match Q91 κ B,renB κ bs r with
   |some B',some l=>some ((b',B')::l)
   |_,_=>none
  |_,_=>none
theorem Q93 {κ:List (Nat×Nat)} (hκ:Qfr κ=true) (bs:BoxL): ∀(l bs':BoxL),renB κ bs l=some bs'→Qal (invM κ) bs bs'
 | [],bs',h=>by cases h;trivial
 |(b,_)::r,bs',h=>by
  unfold renB at h
  split at h
  ·rename_i b' B hb hB
   split at h
   ·rename_i B' l' hB' hl
    cases h
    refine⟨?_,Q93 hκ bs r l' hl⟩
    rw [Qj1 hκ hb]
    simp only [hB]
    exact Q92 hκ hB'
   ·cases h
  ·cases h
def Q94 (vs:Vars) (bs:BoxL):Option (Vars×BoxL):=match renB (Q90 0 bs) bs bs with
 |none=>none
 |some bs'=>match Qfr (Q90 0 bs)&&Qkt (invM (Q90 0 bs)) bs' with
  |true=>some (renV (Q90 0 bs) vs vs,bs')
  |false=>none
theorem Q95 {vs vs':Vars} {bs bs':BoxL} (h:Q94 vs bs=some (vs',bs')):Le (St.of vs bs) (St.of vs' bs'):=by
 unfold Q94 at h
 split at h
 ·cases h
 ·rename_i bs1 h1
  split at h
  ·rename_i h2
   cases h
   simp only [Bool.and_eq_true]at h2
   exact Qak h2.2 (Qr2 h2.1 vs vs) (Q93 h2.1 bs bs _ h1)
  ·cases h
noncomputable def Zpd {α:Type} (l:Vars):(Vars→α)→α:=
 @List.rec (Nat×PV) (fun _=>(Vars→α)→α) (fun K=>K []) (fun p _ ih K=>frcN p.1 fun t=>frc 6 p.2 fun v=>ih fun l=>K ((t,v)::l)) l
theorem Zh1 {α:Type} (l:Vars) (K:Vars→α):Zpd l K=K l:=by
 induction l generalizing K with
 |nil=>rfl
 |cons p l ih=>
  show frcN p.1 (fun t=>frc 6 p.2 fun v=>Zpd l fun l=>K ((t,v)::l))=K (p::l)
  rw [Qge,Qtz,ih]
noncomputable def Zpe {α:Type} (l:BoxL):(BoxL→α)→α:=
 @List.rec (Nat×Box) (fun _=>(BoxL→α)→α) (fun K=>K []) (fun p _ ih K=>frcN p.1 fun t=>Qlj p.2 fun v=>ih fun l=>K ((t,v)::l)) l
theorem Zh2 {α:Type} (l:BoxL) (K:BoxL→α):Zpe l K=K l:=by
 induction l generalizing K with
 |nil=>rfl
 |cons p l ih=>
  show frcN p.1 (fun t=>Qlj p.2 fun v=>Zpe l fun l=>K ((t,v)::l))=K (p::l)
  rw [Qge,Qhb,ih]
noncomputable def renK {α:Type} (vs:Vars) (bs:BoxL) (K:Vars→BoxL→α):α:=match bs with
 | []=>K vs []
 |b::r=>match Q94 vs (b::r)with
  |none=>K vs (b::r)
  |some (vs',bs')=>Zpd vs' fun vs'=>Zpe bs' fun bs'=>K vs' bs'
theorem Zpf {α:Type} (vs:Vars) (bs:BoxL) (K:Vars→BoxL→α): ∃vs' bs',renK vs bs K=K vs' bs'∧Le (St.of vs bs) (St.of vs' bs'):=by
 unfold renK
 split
 ·exact⟨_,_,rfl,Le.refl _⟩
 ·split
  ·exact⟨_,_,rfl,Le.refl _⟩
  ·rename_i vs' bs' h
   exact⟨vs',bs',by rw [Zh1,Zh2],Q95 h⟩
section
variable (P:Program) (call:FuncId→List PV→Option PV)
noncomputable def Q1u {α:Type} (ops:Array Oper) (nt base:Nat):List Oper→Nat→Vars→BoxL→List Acc→(Vars→BoxL→List Acc→Option α)→Option α
 | [],_,vs,bs,accs,K=>K vs bs accs
 |o::rest,i,vs,bs,accs,K=>match Qtv nt o with
  |false=>none
  |true=>match Qca ops o (St.of vs bs)with
   |none=>none
   |some false=>Q1u ops nt base rest (i+1) (putL vs o.dst (.tup [])) bs ([]::accs) K
   |some true=>evK vs o.op.operands.toList fun xs=>match Qa7 P [] (base+i) o.op xs (lkp bs)with
     |none=>none
     |some (.done v es,l)=>frc 6 v fun v=>Zhz es bs fun bs=>frcN i fun i=>Q1u ops nt base rest (i+1) (putL vs o.dst v) bs ((l++Qce es)::accs) K
     |some (.call f args es,l)=>frcN f fun f=>frcL (frc 6) args fun args=>match call f args with
      |none=>none
      |some r=>frc 6 r fun r=>Zhz (if Qgh r then []else es) bs fun bs=>frcN i fun i=>Q1u ops nt base rest (i+1) (putL vs o.dst r) bs ((l++Qce es)::accs) K
     |some (_,_)=>none
theorem Qgf (hc: ∀f args r,call f args=some r→Qaf P f args r) {α:Type} (ops:Array Oper) (nt base:Nat): ∀(rest:List Oper) (i:Nat) (vs:Vars) (bs:BoxL) (accs:List Acc)
  (K:Vars→BoxL→List Acc→Option α) (x:α),Q1u P call ops nt base rest i vs bs accs K=some x→
  ∃vs' bs' accs',K vs' bs' accs'=some x∧ ∀K':St→List Acc→Prop,K' (St.of vs' bs') accs'→vops P [] ops nt base i rest (St.of vs bs) accs K'
 | [],i,vs,bs,accs,K,x,h=>⟨vs,bs,accs,h,fun K' hk=>hk⟩
 |o::rest,i,vs,bs,accs,K,x,h=>by
  unfold Q1u at h
  cases hd:Qtv nt o with
  |false=>rw [hd]at h;cases h
  |true=>
   rw [hd]at h
   simp only at h
   cases hw:Qca ops o (St.of vs bs)with
   |none=>rw [hw]at h;cases h
   |some b=>
    rw [hw]at h
    cases b with
    |false=>
     obtain⟨vs',bs',accs',h1,h2⟩:=Qgf hc ops nt base rest (i+1) _ bs ([]::accs) K x h
     refine⟨vs',bs',accs',h1,fun K' hk=> ?_⟩
     simp only [vops]
     refine⟨hd,?_⟩
     rw [hw]
     simp only [Qgc,Qws]
     exact h2 K' hk
    |true=>
     simp only [Zsp vs bs]at h
     cases hv:(St.of vs bs).evs o.op.operands.toList with
     |none=>rw [hv]at h;cases h
     |some xs=>
      rw [hv]at h
      simp only at h
      cases ho:Qa7 P [] (base+i) o.op xs (lkp bs)with
      |none=>rw [ho]at h;cases h
      |some p=>
       obtain⟨y,l⟩:=p
       rw [ho]at h
       cases y with
       |done v es=>
        simp only [Qtz,Qge]at h
        obtain⟨bs1,e1,e2⟩:=Qr1 es vs bs _ h
        replace h:=e1
        obtain⟨vs',bs',accs',h1,h2⟩:=Qgf hc ops nt base rest (i+1) _ bs1 _ K x h
        refine⟨vs',bs',accs',h1,fun K' hk=> ?_⟩
        simp only [vops]
        refine⟨hd,?_⟩
        rw [hw]
        simp only [Qgc,hv,Qoj,Qg8,Q9j,Zow,ho,Q1k,e2,Qws]
        exact h2 K' hk
       |call f args es=>
        simp only [Qtz,Qge,Qwq (Qtz 6)]at h
        cases hcl:call f args with
        |none=>rw [hcl]at h;cases h
        |some r=>
         rw [hcl]at h
         simp only at h
         obtain⟨bs1,e1,e2⟩:=Qr1 (if Qgh r then []else es) vs bs _ h
         replace h:=e1
         obtain⟨vs',bs',accs',h1,h2⟩:=Qgf hc ops nt base rest (i+1) _ bs1 _ K x h
         refine⟨vs',bs',accs',h1,fun K' hk=> ?_⟩
         simp only [vops]
         refine⟨hd,?_⟩
         rw [hw]
         simp only [Qgc,hv,Qoj,Qg8,Q9j,Zow,ho,Q1k]
         refine⟨r,hc _ _ _ hcl,?_⟩
         simp only []
         rw [e2,Qws]
         exact h2 K' hk
       |callB=>cases h
       |yield=>cases h
noncomputable def evC (nt:Nat):Nat→Code→Vars→BoxL→Option (Exit×Vars×BoxL)
 |0,_,_,_=>none
 |n+1,c,vs,bs=>match c with
  | .skip=>some (.normal,vs,bs)
  | .label _=>some (.normal,vs,bs)
  | .exit id=>some (.exit id,vs,bs)
  | .ret=>some (.ret,vs,bs)
  | .seq a b=>match evC nt n a vs bs with
   |some (.normal,vs,bs)=>evC nt n b vs bs
   |r=>r
  | .region id ops draw=>match Nat.ble (100*id+ops.size) LENT with
   |false=>none
   |true=>frcN (100*id) fun base=>Q1u P call ops nt base ops.toList 0 vs bs [] fun vs bs accs=>match draw with
   |false=>some (.normal,vs,bs)
   |true=>match Qlf ops accs.reverse with
    |false=>none
    |true=>some (.normal,vs,bs)
  | .cond x a b=>match(St.of vs bs).ev x with
   |some (.bool true)=>evC nt n a vs bs
   |some (.bool false)=>evC nt n b vs bs
   |_=>none
  | .block id c=>match evC nt n c vs bs with
   |some (.exit i,vs,bs)=>if i=id then some (.normal,vs,bs)else some (.exit i,vs,bs)
   |r=>r
  | .loop c=>match evC nt n c vs bs with
   |some (.normal,vs,bs)=>frcS vs 0 fun vs=>renK vs bs fun vs bs=>evC nt n (.loop c) vs bs
   |r=>r
  |_=>none
def Lwp (P:Program) (nt:Nat) (c:Code) (Q:Exit→St→Prop) (st:St):Prop:=
 ∀(C:Ctx),C.P=P→C.nt=nt→ ∀(rd:RD C) (a:Act) (w:World),Rel C st a w→ ∀(b:Frame) (k:List Item) (cs:List Frame),b.roundOf=(FW rd.rd).round→(FW rd.rd).fn b.fn→(FW rd.rd).room (cs.length+1+0)→
  ∃e a' w',(∃st',Q e st'∧Rel C st' a' w')∧ArrivesIn (Machine.fenced C.P (FW rd.rd)) C.P (lone (b.atR a (.code c:: .inLoop c::k)) cs w) b k cs e a' w'
theorem Q1v {P:Program} {nt:Nat} {c:Code} {Q:Exit→St→Prop} {st:St} (h:Lwp P nt c Q st):Vwp P nt (.loop c) Q st:=fun C h1 h2 rd a w hr=>by
 subst h1;subst h2
 intro b k cs hro hb hroom
 obtain⟨e,a',w',hq,harr⟩:=h C rfl rfl rd a w hr b k cs hro hb hroom
 exact⟨e,a',w',hq,.of_steps (.one (fenced_calm hb hroom rfl) stepR_loop) harr⟩
theorem Q96 {P:Program} {nt:Nat} {c:Code} {Q:Exit→St→Prop} {st:St} (h:Vwp P nt c (vthen (Lwp P nt c Q) Q) st):Lwp P nt c Q st:=fun C h1 h2 rd a w hr=>by
 subst h1;subst h2
 intro b k cs hro hb hroom
 obtain⟨e,a₁,w₁,⟨s,hq,hr1⟩,harr⟩:=h C rfl rfl rd a w hr b (.inLoop c::k) cs hro hb hroom
 cases e with
 |normal=>
  obtain⟨e₂,a₂,w₂,hq₂,harr₂⟩:=hq C rfl rfl rd a₁ w₁ hr1 b k cs hro hb hroom
  exact⟨e₂,a₂,w₂,hq₂,.of_steps (StepsIn.trans harr (.one (fenced_calm hb hroom rfl) stepR_inLoop)) harr₂⟩
 |exit id=>exact⟨_,a₁,w₁,⟨s,hq,hr1⟩,.pass (x:= .inLoop c) rfl (fun _ _=> .inl (by simp)) harr⟩
 |goto l=>exact⟨_,a₁,w₁,⟨s,hq,hr1⟩,.pass (x:= .inLoop c) rfl (fun _ _=> .inl (by simp)) harr⟩
 |ret=>exact⟨_,a₁,w₁,⟨s,hq,hr1⟩,.pass (x:= .inLoop c) rfl (fun _ _=> .inl (by simp)) harr⟩
 |panic ch=>exact⟨_,a₁,w₁,⟨s,hq,hr1⟩,.pass (x:= .inLoop c) rfl (fun _ _=> .inl (by simp)) harr⟩
 |outgrown=>exact⟨_,a₁,w₁,⟨s,hq,hr1⟩,.pass (x:= .inLoop c) rfl (fun _ _=> .inl (by simp)) harr⟩
def Cwp (P:Program) (nt:Nat) (c:Code) (Q:Exit→St→Prop) (st:St):Prop:=Vwp P nt c Q st∧ ∀c',c= .loop c'→Lwp P nt c' Q st
theorem Qr3 (hm:P.follows .mixedOrders=true) (hc: ∀f args r,call f args=some r→Qaf P f args r) (nt:Nat): ∀(n:Nat) (c:Code) (vs:Vars) (bs:BoxL) (e:Exit) (vs':Vars) (bs':BoxL),
  evC P call nt n c vs bs=some (e,vs',bs')→ ∀Q:Exit→St→Prop,Q e (St.of vs' bs')→Cwp P nt c Q (St.of vs bs)
 |0,_,_,_,_,_,_,h,_,_=>by cases h
 |n+1,c,vs,bs,e,vs',bs',h,Q,hQ=>by
  have ih:=fun c vs bs e vs' bs' h Q hQ=>(Qr3 hm hc nt n c vs bs e vs' bs' h Q hQ).1
  have ihl:=fun c vs bs e vs' bs' h Q hQ=>(Qr3 hm hc nt n (.loop c) vs bs e vs' bs' h Q hQ).2 c rfl
  unfold evC at h
  cases c with
  |skip=>cases h;exact⟨Qyu hQ,fun _ e=>by cases e⟩
  |label l=>cases h;exact⟨Qtt hQ,fun _ e=>by cases e⟩
  |exit id=>cases h;exact⟨Qyv hQ,fun _ e=>by cases e⟩
  |ret=>cases h;exact⟨Q9h hQ,fun _ e=>by cases e⟩
  |seq a b=>
   refine⟨?_,fun _ e=>by cases e⟩
   simp only at h
   cases ha:evC P call nt n a vs bs with
   |none=>rw [ha]at h;cases h
   |some p=>
    obtain⟨e1,vs1,bs1⟩:=p
    rw [ha]at h
    refine Qwg (ih a vs bs e1 vs1 bs1 ha _ ?_)
    cases e1 with
    |normal=>exact ih b vs1 bs1 e vs' bs' h Q hQ
    |_=>cases h;exact hQ
  |region id ops draw=>
   refine⟨?_,fun _ e=>by cases e⟩
   cases hL:Nat.ble (100*id+ops.size) LENT with
   |false=>simp only [hL]at h;cases h
   |true=>
   simp only [hL,Qge]at h
   obtain⟨vs1,bs1,accs1,h1,h2⟩:=Qgf P call hc ops nt (100*id) ops.toList 0 vs bs [] _ _ h
   refine Qqa (tb:=[]) (100*id) hm (Nat.le_of_ble_eq_true hL) (h2 _ ?_)
   cases draw with
   |false=>cases h1;exact⟨fun x=>absurd x (by decide),hQ⟩
   |true=>
    simp only at h1
    cases hd:Qlf ops accs1.reverse with
    |false=>rw [hd]at h1;cases h1
    |true=>rw [hd]at h1;simp only at h1;cases h1;exact⟨fun _=>rfl,hQ⟩
  |cond x a b=>
   refine⟨?_,fun _ e=>by cases e⟩
   simp only at h
   split at h
   ·rename_i hx;exact Qmd hx (by simpa using ih a vs bs e vs' bs' h Q hQ)
   ·rename_i hx;exact Qmd hx (by simpa using ih b vs bs e vs' bs' h Q hQ)
   ·cases h
  |block id c=>
   refine⟨?_,fun _ e=>by cases e⟩
   simp only at h
   cases ha:evC P call nt n c vs bs with
   |none=>rw [ha]at h;cases h
   |some p=>
    obtain⟨e1,vs1,bs1⟩:=p
    rw [ha]at h
    refine Qtu (ih c vs bs e1 vs1 bs1 ha _ ?_)
    cases e1 with
    |exit i=>
     simp only at h
     simp only [vblock]
     by_cases hi:i=id
     ·rw [if_pos hi]at h ⊢;cases h;exact hQ
     ·rw [if_neg hi]at h ⊢;cases h;exact hQ
    |_=>cases h;exact hQ
  |loop c=>
   have hl:Lwp P nt c Q (St.of vs bs):=by
    simp only at h
    cases ha:evC P call nt n c vs bs with
    |none=>rw [ha]at h;cases h
    |some p=>
     obtain⟨e1,vs1,bs1⟩:=p
     rw [ha]at h
     refine Q96 (ih c vs bs e1 vs1 bs1 ha _ ?_)
     cases e1 with
     |normal=>
      obtain⟨vs2,h1,h2⟩:=Zuu vs1 fun vs=>renK vs bs1 fun vs bs=>evC P call nt n (.loop c) vs bs
      simp only [h1]at h
      obtain⟨vs3,bs3,h3,h4⟩:=Zpf vs2 bs1 fun vs bs=>evC P call nt n (.loop c) vs bs
      rw [h3]at h
      have:St.of vs1 bs1=St.of vs2 bs1:=by simp only [St.of,St.ofG,h2]
      show Lwp P nt c Q (St.of vs1 bs1)
      rw [this]
      have key:=ihl c vs3 bs3 e vs' bs' h Q hQ
      exact fun C e1 e2 rd a w hr=>key C e1 e2 rd a w (h4 C a w hr)
     |_=>cases h;exact hQ
   exact⟨Q1v hl,fun c' e=>by cases e;exact hl⟩
  |_=>cases h
theorem Q97 (hm:P.follows .mixedOrders=true) (hc: ∀f args r,call f args=some r→Qaf P f args r) (nt:Nat) (n:Nat) (c:Code) (vs:Vars) (bs:BoxL) (e:Exit) (vs':Vars) (bs':BoxL)
  (h:evC P call nt n c vs bs=some (e,vs',bs')) (Q:Exit→St→Prop) (hQ:Q e (St.of vs' bs')):Vwp P nt c Q (St.of vs bs):=(Qr3 P call hm hc nt n c vs bs e vs' bs' h Q hQ).1
end
noncomputable def evF (P:Program) (known:FuncId→List PV→Option PV) (fuel:Nat):Nat→FuncId→List PV→Option PV
 |0,_,_=>none
 |n+1,f,args=>match known f args with
  |some r=>some r
  |none=>match P.funcs[f]? with
   |none=>none
   |some fn=>match fn.body with
    |none=>none
    |some c=>match callable P f&&Nat.ble args.length fn.ntmps with
     |false=>none
     |true=>match evC P (evF P known fuel n) fn.ntmps fuel c (Qcg 0 args) []with
      |some (.ret,vs,bs)=>Qrv P fn.results.toList (St.of vs bs)
      |some (.normal,vs,bs)=>Qrv P fn.results.toList (St.of vs bs)
      |_=>none
theorem Qt0 {P:Program} {known:FuncId→List PV→Option PV} (hm:P.follows .mixedOrders=true) (hk: ∀f args r,known f args=some r→Qaf P f args r) (fuel:Nat): ∀(n:Nat) (f:FuncId) (args:List PV) (r:PV),
  evF P known fuel n f args=some r→Qaf P f args r
 |0,_,_,_,h=>by cases h
 |n+1,f,args,r,h=>by
  unfold evF at h
  cases hkn:known f args with
  |some r'=>rw [hkn]at h;cases h;exact hk _ _ _ hkn
  |none=>
   rw [hkn]at h
   simp only at h
   cases hf:P.funcs[f]? with
   |none=>rw [hf]at h;cases h
   |some fn=>
    rw [hf]at h
    simp only at h
    cases hb:fn.body with
    |none=>rw [hb]at h;cases h
    |some c=>
     rw [hb]at h
     simp only at h
     cases hcl:callable P f&&Nat.ble args.length fn.ntmps with
     |false=>rw [hcl]at h;cases h
     |true=>
      rw [hcl]at h
      simp only [Bool.and_eq_true]at hcl
      simp only at h
      have key: ∀e vs bs,(e= .ret∨e= .normal)→evC P (evF P known fuel n) fn.ntmps fuel c (Qcg 0 args) []=some (e,vs,bs)→Qrv P fn.results.toList (St.of vs bs)=some r→Qaf P f args r:=by
       intro e vs bs he h1 h2
       refine Qrw fn.ntmps fn.results.toList hf hb hcl.1 rfl rfl hcl.2 (Q97 P _ hm (fun f args r=>Qt0 hm hk fuel n f args r) fn.ntmps fuel c _ [] e vs bs h1 _ ?_)
       rcases he with rfl|rfl<;>simp only [vret,h2]
      split at h
      ·rename_i vs bs h1;exact key _ _ _ (.inl rfl) h1 h
      ·rename_i vs bs h1;exact key _ _ _ (.inr rfl) h1 h
      ·cases h
def Q98:FuncId→List PV→Option PV:=fun _ _=>none
theorem Q99 {P:Program} {f:FuncId} {args:List PV} {r:PV} (hm:P.follows .mixedOrders=true) (fuel n:Nat) (h:evF P Q98 fuel n f args=some r):Qaf P f args r:=
 Qt0 hm (fun _ _ _ x=>by cases x) fuel n f args r h
theorem Qai {n:Int} (h1: -9223372036854775808≤n) (h2:n≤9223372036854775807):IntKind.i64.wrap n=n:=IntWalk.i64_in n ⟨h1,h2⟩
theorem Qa3 {vs vs':List (Nat×PV)} {bs:List (Nat×Box)} {o:List (List PV)} {y:Yl} (hv:Qad [] vs vs'):Le (St.ofG vs bs o y) (St.ofG vs' [] o y):=
 Qak (θ:=[]) rfl hv trivial
end Go.Vl

namespace Go.Vl
open Go.RowKit
inductive TT where
 |bool
 |int (k:IntKind)
 |str
 |slc (e:TT)
 |agg (fs:List TT)
mutual
def TT.size:TT→Nat
 | .agg fs=>TT.sizes fs
 | .bool| .int _| .str| .slc _=>1
def TT.sizes:List TT→Nat
 | []=>0
 |f::fs=>f.size+TT.sizes fs
end
mutual
def TT.fits (P:Program):TT→TypeId→Bool
 | .bool,t=>match P.underlying t with
  |some .bool=>true
  |_=>false
 | .int k,t=>match P.underlying t with
  |some (.int k')=>decide (k'=k)
  |_=>false
 | .str,t=>match P.underlying t with
  |some .string=>true
  |_=>false
 | .slc e,t=>match P.underlying t with
  |some (.slice te)=>e.fits P te&&Nat.beq (P.cellsOf te) e.size&&Nat.ble 1 e.size
  |_=>false
 | .agg fs,t=>match P.underlying t with
  |some (.struct xs)=>TT.fitsL P fs xs.toList 0&&Nat.beq (P.cellsOf t) (TT.sizes fs)
  |_=>false
def TT.fitsL (P:Program):List TT→List Field→Nat→Bool
 | [],[],_=>true
 |f::fs,x::xs,off=>f.fits P x.type&&Nat.beq x.offset off&&Nat.beq (P.cellsOf x.type) f.size&&TT.fitsL P fs xs (off+f.size)
 |_,_,_=>false
end
def TT.mk:TT→List PV→PV
 | .agg _,cs=> .agg cs
 |_,cs=>cs.headD .undef
mutual
def Qcn:TT→List PV→Prop
 | .bool,cs=> ∃b,cs=[.bool b]
 | .int k,cs=> ∃n,cs=[.int k n]∧(Lit.int k n).wf=true
 | .str,cs=> ∃s:ByteArray,cs=[.str s]∧s.size≤maxLen
 | .slc e,cs=> ∃ess:List (List PV),cs=[.slc (ess.map e.mk)]∧ess.length≤maxLen∧ ∀c∈ess,Qcn e c
 | .agg fs,cs=>Qhc fs cs
def Qhc:List TT→List PV→Prop
 | [],cs=>cs=[]
 |f::fs,cs=> ∃a b,cs=a++b∧Qcn f a∧Qhc fs b
end
theorem Qy0 {e:TT} {c:List PV} (h:Qcn e c):(e.mk c).cells=c:=by
 cases e with
 |bool=>simp only [Qcn]at h;obtain⟨b,rfl⟩:=h;rfl
 |int k=>simp only [Qcn]at h;obtain⟨b,rfl,_⟩:=h;rfl
 |str=>simp only [Qcn]at h;obtain⟨b,rfl,_⟩:=h;rfl
 |slc e=>simp only [Qcn]at h;obtain⟨b,rfl,_⟩:=h;rfl
 |agg fs=>rfl
mutual
theorem Qcn.length: ∀{e:TT} {c:List PV},Qcn e c→c.length=e.size
 | .bool,c,h=>by simp only [Qcn]at h;obtain⟨b,rfl⟩:=h;simp [TT.size]
 | .int k,c,h=>by simp only [Qcn]at h;obtain⟨b,rfl,_⟩:=h;simp [TT.size]
 | .str,c,h=>by simp only [Qcn]at h;obtain⟨b,rfl,_⟩:=h;simp [TT.size]
 | .slc e,c,h=>by simp only [Qcn]at h;obtain⟨b,rfl,_⟩:=h;simp [TT.size]
 | .agg fs,c,h=>by simp only [Qcn]at h;simp only [TT.size];exact Qhc.length h
theorem Qhc.length: ∀{fs:List TT} {c:List PV},Qhc fs c→c.length=TT.sizes fs
 | [],c,h=>by simp only [Qhc]at h;subst h;simp [TT.sizes]
 |f::fs,c,h=>by
  simp only [Qhc]at h
  obtain⟨a,b,rfl,h1,h2⟩:=h
  simp only [TT.sizes,List.length_append,h1.length,h2.length]
end
def exIm (w:World):Im:=fun g j=> ∃u,w.cell? ⟨g,j,none⟩=some u
section
variable {H:Type} {enc:TypeId×Value→H} {P:Program} {w:World} {base:Nat} {held:Bool}
theorem Qwt {im:Im} {A:Option Addr} {c:Nat} (hm:c≤maxLen):Rep w im (.slc []) (.slice A 0 c):=by
 cases A with
 |none=>exact .slcNil c hm
 |some p=>exact .slcE p c hm
mutual
theorem Qr4: ∀(tt:TT) (t:TypeId) (fuel:Nat) (cs:List Value) (x:DataW H×List MemPlace),tt.fits P t=true→DataW.trod enc P w base (fun _=>true) held fuel t cs=some x→
  ∃pvs,RepL w (exIm w) pvs cs∧Qcn tt pvs
 | .bool,t,fuel,cs,x,hf,h=>by
  simp only [TT.fits]at hf
  split at hf
  ·rename_i ht
   obtain⟨b,rfl,_⟩:=DataW.trod_bool ht h
   exact⟨[.bool b],.cons _ _ _ _ (.bool b) .nil,by simp [Qcn]⟩
  ·cases hf
 | .int k,t,fuel,cs,x,hf,h=>by
  simp only [TT.fits]at hf
  split at hf
  ·rename_i k' ht
   have hk:k'=k:=of_decide_eq_true hf
   subst hk
   obtain⟨n,rfl,_,hw⟩:=DataW.trod_int ht h
   exact⟨[.int k' n],.cons _ _ _ _ (.int _ n) .nil,by simp [Qcn,hw]⟩
  ·cases hf
 | .str,t,fuel,cs,x,hf,h=>by
  simp only [TT.fits]at hf
  split at hf
  ·rename_i ht
   obtain⟨s,rfl,_,hs⟩:=DataW.trod_string ht h
   exact⟨[.str s],.cons _ _ _ _ (.str s) .nil,by simp only [Qcn];exact⟨s,rfl,hs⟩⟩
  ·cases hf
 | .slc e,t,fuel,cs,x,hf,h=>by
  simp only [TT.fits]at hf
  split at hf
  ·rename_i te ht
   simp only [Bool.and_eq_true]at hf
   obtain⟨⟨hf1,hf2⟩,hf3⟩:=hf
   have hsz:=Nat.eq_of_beq_eq_true hf2
   have hpos:=Nat.le_of_ble_eq_true hf3
   rcases DataW.trod_slice ht h with⟨rfl,_⟩|⟨a,len,cap,elems,rest,n,_,rfl,_,_,hl,hm,hlen,hel,_,_⟩
   ·exact⟨[.slc []],.cons _ _ _ _ (.slcNil 0 (Nat.zero_le _)) .nil,by simp only [Qcn];exact⟨[],rfl,Nat.zero_le _,by simp⟩⟩
   ·rcases Nat.eq_zero_or_pos len with rfl|hpl
    ·exact⟨[.slc []],.cons _ _ _ _ (Qwt hm) .nil,by simp only [Qcn];exact⟨[],rfl,Nat.zero_le _,by simp⟩⟩
    ·have each: ∀i,i<len→ ∃ci pi,w.cells? base (a.add (i*e.size)) e.size=some ci∧RepL w (exIm w) pi ci∧Qcn e pi:=by
      intro i hi
      have hi':=hel i hi
      rw [hsz]at hi'
      have hs:elems[i]? =some elems[i]:=List.getElem?_eq_getElem (by omega)
      rw [hs,Option.bind_eq_some_iff]at hi'
      obtain⟨ci,h1,h2⟩:=hi'
      obtain⟨pi,h3,h4⟩:=Qr4 e te n ci _ hf1 h2
      exact⟨ci,pi,h1,h3,h4⟩
     obtain⟨g,off,rfl⟩: ∃g off,a=⟨g,off,none⟩:=by
      obtain⟨c0,p0,h1,h2,h3⟩:=each 0 hpl
      obtain⟨_,hl0,hc0⟩:=World.cells?_some h1
      have h00:=hc0 0 (by omega)
      have:c0[0]? =some c0[0]:=List.getElem?_eq_getElem (by omega)
      rw [this]at h00
      have hsp:=World.cell?_spot h00
      simp [Addr.add]at hsp
      obtain⟨g,off,sp⟩:=a
      simp at hsp
      subst hsp
      exact⟨g,off,rfl⟩
     have hadd: ∀j,(⟨g,off,none⟩:Addr).add j=⟨g,off+j,none⟩:=fun j=>by unfold Addr.add;split<;>simp_all
     have build: ∀k,k≤len→ ∃(ess:List (List PV)) (vs:List Value),ess.length=k∧vs.length=k*e.size∧RepL w (exIm w) ((ess.map e.mk).flatMap PV.cells) vs∧(∀j,j<vs.length→w.cell? ⟨g,off+j,none⟩=vs[j]?)∧ ∀c∈ess,Qcn e c:=by
      intro k
      induction k with
      |zero=>intro _;exact⟨[],[],rfl,by simp,.nil,by simp,by simp⟩
      |succ k ih=>
       intro hk
       obtain⟨ess,vs,e1,e2,e3,e4,e5⟩:=ih (by omega)
       obtain⟨ci,pi,h1,h2,h3⟩:=each k hk
       obtain⟨_,hl0,hc0⟩:=World.cells?_some h1
       refine⟨ess++[pi],vs++ci,by simp [e1],by simp [e2,hl0,Nat.succ_mul],?_,?_,?_⟩
       ·simp only [List.map_append,List.map_cons,List.map_nil,List.flatMap_append,List.flatMap_cons,List.flatMap_nil,List.append_nil,Qy0 h3]
        exact e3.append h2
       ·intro j hj
        by_cases hjv:j<vs.length
        ·rw [List.getElem?_append_left hjv];exact e4 j hjv
        ·rw [List.getElem?_append_right (by omega)]
         have hjc:j-vs.length<e.size:=by simp at hj;omega
         have:=hc0 (j-vs.length) hjc
         rw [hadd]at this
         have hadd2:(⟨g,off+k*e.size,none⟩:Addr).add (j-vs.length)=⟨g,off+k*e.size+(j-vs.length),none⟩:=by unfold Addr.add;split<;>simp_all
         rw [hadd2]at this
         rw [←this]
         congr 2
         omega
       ·intro c hc
        rcases List.mem_append.1 hc with hc|hc
        ·exact e5 c hc
        ·simp at hc;subst hc;exact h3
     obtain⟨ess,vs,e1,e2,e3,e4,e5⟩:=build len (Nat.le_refl _)
     refine⟨[.slc (ess.map e.mk)],.cons _ _ _ _ ?_ .nil,by simp only [Qcn];exact⟨ess,rfl,by omega,e5⟩⟩
     refine .slc _ g off len cap e.size vs (by simpa using e1) (by omega) ?_ ?_ e4 e3 hl
     ·intro x hx
      simp only [List.mem_map]at hx
      obtain⟨c,hc,rfl⟩:=hx
      rw [Qy0 (e5 c hc)]
      exact(e5 c hc).length
     ·intro j hj
      exact⟨vs[j],by rw [e4 j hj,List.getElem?_eq_getElem hj]⟩
  ·cases hf
 | .agg fs,t,fuel,cs,x,hf,h=>by
  simp only [TT.fits]at hf
  split at hf
  ·rename_i xs ht
   simp only [Bool.and_eq_true]at hf
   obtain⟨hf1,hf2⟩:=hf
   obtain⟨ys,n,rfl,_,hlen,hsz,hfl⟩:=DataW.trod_struct ht h
   have hall: ∀(i:Nat) (f:Field),xs.toList[i]? =some f→ ∃y,DataW.trod enc P w base (fun _=>true) held n f.type ((cs.drop f.offset).take (P.cellsOf f.type))=some y:=by
    intro i f hi
    have hi':xs[i]? =some f:=by simpa using hi
    have:=hfl i f hi'
    have hlt:i<ys.length:=by rw [hsz];exact(Array.getElem?_eq_some_iff.1 hi').1
    rw [List.getElem?_eq_getElem hlt]at this
    exact⟨_,this⟩
   obtain⟨pvs,h1,h2⟩:=Qt1 fs xs.toList 0 n cs hf1 hall (by rw [hlen,Nat.eq_of_beq_eq_true hf2];simp)
   exact⟨pvs,by simpa using h1,by simp only [Qcn];exact h2⟩
  ·cases hf
theorem Qt1: ∀(fs:List TT) (xs:List Field) (off n:Nat) (cs:List Value),TT.fitsL P fs xs off=true→
  (∀(i:Nat) (f:Field),xs[i]? =some f→ ∃y,DataW.trod enc P w base (fun _=>true) held n f.type ((cs.drop f.offset).take (P.cellsOf f.type))=some y)→cs.length=off+TT.sizes fs→
  ∃pvs,RepL w (exIm w) pvs (cs.drop off)∧Qhc fs pvs
 | [],[],off,n,cs,hf,h,hl=>by
  simp only [TT.sizes]at hl
  refine⟨[],?_,by simp [Qhc]⟩
  rw [List.drop_of_length_le (by omega)]
  exact .nil
 | [],_::_,_,_,_,hf,_,_=>by simp [TT.fitsL]at hf
 |_::_,[],_,_,_,hf,_,_=>by simp [TT.fitsL]at hf
 |f::fs,x::xs,off,n,cs,hf,h,hl=>by
  simp only [TT.fitsL,Bool.and_eq_true]at hf
  obtain⟨⟨⟨hf1,hf2⟩,hf3⟩,hf4⟩:=hf
  have e2:=Nat.eq_of_beq_eq_true hf2
  have e3:=Nat.eq_of_beq_eq_true hf3
  simp only [TT.sizes]at hl
  obtain⟨y,hy⟩:=h 0 x (by simp)
  rw [e2,e3]at hy
  obtain⟨a,h1,h2⟩:=Qr4 f x.type n _ y hf1 hy
  obtain⟨b,h3,h4⟩:=Qt1 fs xs (off+f.size) n cs hf4 (fun i f hi=>h (i+1) f (by simpa using hi)) (by omega)
  refine⟨a++b,?_,by simp only [Qhc];exact⟨a,b,rfl,h2,h4⟩⟩
  have:cs.drop off=(cs.drop off).take f.size++cs.drop (off+f.size):=by
   rw [←List.drop_drop,List.take_append_drop]
  rw [this]
  exact h1.append h3
end
end
end Go.Vl

namespace Go.Vl
open Go.RowKit
section
variable {H:Type} {enc:TypeId×Value→H} {P:Program} {W W':World}
theorem Zpg {tt:TT} {t:TypeId} {v:Value} {d:DataW H} {ps:List MemPlace} {b:Nat} (hf:tt.fits P t=true) (hok:Value.okWide P W .any b t v) (h:DataW.Trod enc P W 0 (fun _=>true) true t v d ps):
  ∃cs,Qcn tt cs∧Rep W (exIm W) (tt.mk cs) v:=by
 obtain⟨fuel,h⟩:=h
 obtain⟨pvs,h1,h2⟩:=Qr4 tt t fuel _ _ hf h
 refine⟨pvs,h2,?_⟩
 have single:v.cells= #[v]→(∀fs,tt≠ .agg fs)→Rep W (exIm W) (tt.mk pvs) v:=by
  intro hv hn
  rw [hv]at h1
  have hl:=h1.length
  match pvs,hl with
  | [p],_=>
   cases h1 with
   |cons _ _ _ _ h t=>
    cases tt with
    |agg fs=>exact absurd rfl (hn fs)
    |_=>exact h
 cases tt with
 |bool=>
  simp only [TT.fits]at hf
  split at hf
  ·rename_i ht;obtain⟨x,rfl⟩:=WideShapes.okWide_bool ht hok;exact single rfl (by simp)
  ·cases hf
 |int k=>
  simp only [TT.fits]at hf
  split at hf
  ·rename_i ht;obtain⟨x,rfl⟩:=WideShapes.okWide_int ht hok;exact single rfl (by simp)
  ·cases hf
 |str=>
  simp only [TT.fits]at hf
  split at hf
  ·rename_i ht;obtain⟨x,rfl⟩:=WideShapes.okWide_string ht hok;exact single rfl (by simp)
  ·cases hf
 |slc e=>
  simp only [TT.fits]at hf
  split at hf
  ·rename_i te ht;obtain⟨x,y,z,rfl⟩:=WideShapes.okWide_slice ht hok;exact single rfl (by simp)
  ·cases hf
 |agg fs=>
  simp only [TT.fits]at hf
  split at hf
  ·rename_i xs ht
   obtain⟨cs,rfl,_⟩:=WideShapes.okWide_struct ht hok
   have:=Rep.agg pvs _ h1
   simp only [Value.cells,Array.toArray_toList]at this
   exact this
  ·cases hf
def Qwu:List TT→List PV→Prop
 | [],vs=>vs=[]
 |t::ts,vs=> ∃c rest,vs=t.mk c::rest∧Qcn t c∧Qwu ts rest
def Qku (P:Program):List TT→List TypeId→Bool
 | [],[]=>true
 |tt::tts,t::ts=>tt.fits P t&&Qku P tts ts
 |_,_=>false
theorem Qy1 {b:Nat}: ∀(tts:List TT) (ts:List TypeId) (vs:List Value) (ds:List (DataW H)) (ps:List MemPlace),Qku P tts ts=true→(∀(j:Nat) t v,ts[j]? =some t→vs[j]? =some v→Value.okWide P W .any b t v)→
  DataW.TrodAll enc P W 0 (fun _=>true) true ts vs ds ps→ ∃pvs,Qwu tts pvs∧RepL W (exIm W) pvs vs∧ds.length=tts.length
 | [],[],[],[],_,_,_,_=>⟨[],rfl,.nil,rfl⟩
 |tt::tts,t::ts,v::vs,d::ds,ps,hf,hok,h=>by
  simp only [Qku,Bool.and_eq_true]at hf
  obtain⟨p,q,h1,h2,_⟩:=h
  obtain⟨c,h3,h4⟩:=Zpg hf.1 (hok 0 t v rfl rfl) h1
  obtain⟨pvs,h5,h6,h7⟩:=Qy1 tts ts vs ds q hf.2 (fun j t v e1 e2=>hok (j+1) t v (by simpa using e1) (by simpa using e2)) h2
  exact⟨tt.mk c::pvs,⟨c,pvs,rfl,h3,h5⟩,.cons _ _ _ _ h4 h6,by simp [h7]⟩
 | [],_::_,_,_,_,hf,_,_=>by simp [Qku]at hf
 |_::_,[],_,_,_,hf,_,_=>by simp [Qku]at hf
 | [],[],[],_::_,_,_,_,h=>h.elim
 | [],[],_::_,_,_,_,_,h=>h.elim
 |_::_,_::_,[],_,_,_,_,h=>h.elim
 |_::_,_::_,_::_,[],_,_,_,h=>h.elim
theorem Qj3 {sp:Nat→Bool} (hl:laidOutB P=true) (hb:Below W.heap.size W W'): ∀(ts:List TypeId) (vs:List Value) (ds:List (DataW H)) (ps:List MemPlace),(∀t∈ts,P.readableRec t=true∧t<P.types.size)→
  DataW.TrodAll enc P W 0 (fun _=>true) true ts vs ds ps→(∀p∈ps,p.block<W.heap.size)→(∀p∈ps,sp p.block=true)→DataW.TrodAll enc P W' 0 sp true ts vs ds ps
 | [],[],[],_,_,h,_,_=>h
 |t::ts,v::vs,d::ds,ps,ht,⟨p,q,h1,h2,e⟩,hlt,hs=>by
  subst e
  refine⟨p,q,?_,Qj3 hl hb ts vs ds q (fun t h=>ht t (List.mem_cons_of_mem _ h)) h2 (fun x hx=>hlt x (List.mem_append_right _ hx)) (fun x hx=>hs x (List.mem_append_right _ hx)),rfl⟩
  exact WideElems.Trod_stays hl (ht t (by simp)).1 (ht t (by simp)).2 h1 (fun x hx=>hb.same (hlt x (List.mem_append_left _ hx))) (fun x hx=>hs x (List.mem_append_left _ hx))
 | [],[],_::_,_,_,h,_,_=>h.elim
 | [],_::_,_,_,_,h,_,_=>h.elim
 |_::_,[],_,_,_,h,_,_=>h.elim
 |_::_,_::_,[],_,_,h,_,_=>h.elim
theorem Qwv {fn:Func} {s:ChangeSpec} {apart fresh handsOn again:Bool} {args:Array Value} {ds gs:List (DataW H)} {before:List MemPlace} {tb:TypeId} (hl:laidOutB P=true) (hvars:s.vars=[]) (hres:fn.resultTypes= #[tb])
  (hbool:P.underlying tb=some .bool) (hts: ∀t∈fn.params.toList,P.readableRec t=true∧t<P.types.size) (hW:DataW.Whole enc P fn.params.toList s.vars apart W args.toList ds gs before)
  (hs:s.fn H (ds++gs)={results:=[.lit (.bool true)],args:=ds}) (hb:Below W.heap.size W W'):s.post enc P fn apart fresh handsOn again W args (.bool true) W':=by
 have hlt:=hW.lt
 have hW':=hW
 obtain⟨p,q,hA,hV,rfl,hz,hn⟩:=hW
 rw [hvars]at hV
 obtain⟨rfl,rfl⟩:=ChangeShapes.trodVars_none hV
 have hargs: ∀sp:Nat→Bool,(∀x∈p,sp x.block=true)→DataW.TrodAll enc P W' 0 sp true fn.params.toList args.toList ds p:=fun sp hsp=>
  Qj3 hl hb _ _ _ _ hts hA (fun x hx=>hlt x (by simpa using hx)) hsp
 have hres': ∀(b:Nat) (sp:Nat→Bool) (hd:Bool),DataW.TrodAll enc P W' b sp hd fn.resultTypes.toList ((Value.bool true).resultList fn.resultTypes.size) [.lit (.bool true)] []:=by
  intro b sp hd
  rw [hres]
  exact ChangeShapes.trodAll_mk1 (shut_bool hbool true)
 have hok: ∀(j:Nat) (t:TypeId) (r:Value),fn.resultTypes[j]? =some t→((Value.bool true).resultList fn.resultTypes.size)[j]? =some r→Value.okWide P W' .any 0 t r:=ok_one hres rfl (okWide_bool_mk hbool true)
 have hvs: ∀sp:Nat→Bool,DataW.TrodVars enc P W' sp s.vars [] []:=fun sp=>by rw [hvars];rfl
 refine⟨ds,[],p++[],[],p,[],hW',?_,?_,?_,?_,fun _=>⟨hok,[.lit (.bool true)]++ds,[],([]++p)++[],⟨[]++p,[],?_,hvs _,rfl,?_,?_⟩,?_⟩⟩
 ·rw [hs];exact hres' _ _ _
 ·rw [hs];exact hargs _ fun x hx=>by simpa using hlt x (by simpa using hx)
 ·rw [hs];exact hvs _
 ·exact World.keptBut_mono (fun _ f=>f.elim) (hb.frame fun _=>False)
 ·exact ChangeShapes.trodAll_append (hargs _ fun _ _=>rfl) (hres' _ _ _)
 ·intro b off hp
  have hp':MemPlace.cell b off∈p:=by simpa using hp
  have:=hz b off (by simpa using hp')
  have hlt':=hlt _ (show MemPlace.cell b off∈p++[]by simpa using hp')
  rw [←this]
  exact hb.frozen hlt'
 ·intro ha
  have:=hn ha
  simpa using this
 ·intro x hx _
  simpa using hx
theorem Q1w {a:Assume} {C:Checked} {os:Os} {f:FuncId} {fn:Func} {s:ChangeSpec} {conds:List PathCond} {apart fresh handsOn again:Bool} {tb:TypeId} (tts:List TT)
  (own:ownKnob C.prog.godebug=none) (started:os.Started) (noInit:C.prog.inits.idxOf? f=none) (hfn:C.prog.funcs[f]? =some fn)
  (witness: ∃(w:World) (tape:Tape) (i:Input),w.os=os∧(w.forCall tape i).Shaped C.prog∧i.vars=[]∧Input.okWide C.prog (w.forCall tape i) .any w.heap.size f i∧
   s.pre6 enc C.prog fn conds apart (w.forCall tape i).memory i.args∧a.holds C.prog (lone (Frame.enter C.prog f i.args .normal) [] (w.forCall tape i)))
  (hl:laidOutB C.prog=true) (hvars:s.vars=[]) (hres:fn.resultTypes= #[tb]) (hbool:C.prog.underlying tb=some .bool) (hts:(fn.params.toList.all fun t=>C.prog.readableRec t&&decide (t<C.prog.types.size))=true)
  (hfit:Qku C.prog tts fn.params.toList=true) (hs: ∀ds:List (DataW H),ds.length=tts.length→s.fn H ds={results:=[.lit (.bool true)],args:=ds})
  (hcl:callable C.prog f=true) (hnv:C.prog.globalNamed Qv1=none) (law: ∀pvs,Qwu tts pvs→Qaf C.prog f pvs (.bool true)):
  ReturnsInHanded a C os f .any (s.pre6 enc C.prog fn conds apart) (s.post enc C.prog fn apart fresh handsOn again):=by
 refine returnsInHanded_of_change own started noInit hfn witness ?_
 intro W base args ds gs before hval hW _ _
 have hW':=hW
 obtain⟨p,q,hA,hV,rfl,hz,hn⟩:=hW
 rw [hvars]at hV
 obtain⟨rfl,rfl⟩:=ChangeShapes.trodVars_none hV
 obtain⟨pvs,h1,h2,h3⟩:=Qy1 tts fn.params.toList args.toList ds p hfit (fun j t v e1 e2=>hval j t v (by simpa using e1) (by simpa using e2)) hA
 have hts': ∀t∈fn.params.toList,C.prog.readableRec t=true∧t<C.prog.types.size:=by
  intro t ht
  have:=List.all_eq_true.1 hts t ht
  simpa using this
 have hcall:=((law pvs h1).resolve_right (fun x=>by rw [hcl]at x;cases x.1)).2 W (exIm W) args.toList W.heap.size (Nat.le_refl _) (fun g hg=>by rw [hnv]at hg;cases hg) h2 (fun g j x=>x)
 refine(by simpa using hcall:Calls C.prog f args W _).mono ?_
 rintro e W' ⟨v,rfl,hb,hr⟩
 have hv:v= .bool true:=by cases hr;rfl
 subst hv
 exact⟨_,rfl,Qwv hl hvars hres hbool hts' hW' (by rw [List.append_nil];exact hs ds h3) hb⟩
end
end Go.Vl

namespace Go.Vl
theorem Zuv:List.range 1=[0]:=rfl
theorem Zuw:List.range 2=[0,1]:=rfl
theorem Zux:List.range 3=[0,1,2]:=rfl
theorem Zuy:List.range 4=[0,1,2,3]:=rfl
theorem Zuz:List.range 5=[0,1,2,3,4]:=rfl
theorem Zu0:List.range 6=[0,1,2,3,4,5]:=rfl
theorem Zu1:List.range 7=[0,1,2,3,4,5,6]:=rfl
theorem Zu2:List.range 8=[0,1,2,3,4,5,6,7]:=rfl
section
variable (cs:List PV) (b:Bool) (k:IntKind) (n:Int) (s:ByteArray) (e i o l:Nat) (f:FuncId) (a c:List PV)
theorem Zu3:(PV.agg cs).cells=cs:=rfl
theorem Zsq:(PV.bool b).cells=[.bool b]:=rfl
theorem Zsr:(PV.int k n).cells=[.int k n]:=rfl
theorem Zu4:(PV.str s).cells=[.str s]:=rfl
theorem Zss:PV.nilS.cells=[.nilS]:=rfl
theorem Zst:PV.nilF.cells=[.nilF]:=rfl
theorem Zsu:PV.nilI.cells=[.nilI]:=rfl
theorem Zu5:(PV.slc cs).cells=[.slc cs]:=rfl
theorem Zu6:(PV.tup cs).cells=[.tup cs]:=rfl
theorem c_rp:(PV.rp cs).cells=[.rp cs]:=rfl
theorem c_bp:(PV.bp e i o l).cells=[.bp e i o l]:=rfl
theorem c_bs:(PV.bs e i o l).cells=[.bs e i o l]:=rfl
theorem c_fn:(PV.fn f a c).cells=[.fn f a c]:=rfl
theorem Zu7:(PV.agg cs).okCell=false:=rfl
theorem Zsv:(PV.bool b).okCell=true:=rfl
theorem Zu8:(PV.int k n).okCell=true:=rfl
theorem Zu9:(PV.str s).okCell=true:=rfl
theorem Zsw:PV.nilS.okCell=true:=rfl
theorem Zsx:PV.nilF.okCell=true:=rfl
theorem Zsy:PV.nilI.okCell=true:=rfl
theorem Zva:(PV.slc cs).okCell=true:=rfl
theorem Zvb:(PV.tup cs).okCell=false:=rfl
theorem k_rp:(PV.rp cs).okCell=true:=rfl
theorem k_bp:(PV.bp e i o l).okCell=true:=rfl
theorem k_bs:(PV.bs e i o l).okCell=true:=rfl
theorem k_fn:(PV.fn f a c).okCell=true:=rfl
end
attribute [go_sem] Zu3 Zsq Zsr Zu4 Zss Zst Zsu Zu5 Zu6 c_rp c_bp c_bs c_fn Zu7 Zsv Zu8 Zu9 Zsw Zsx Zsy Zva Zvb k_rp k_bp k_bs k_fn Int.toNat_natCast Int.toNat_zero Int.le_refl
theorem Zaa (P:Program) (id:Nat) (bx:Bx) (fo:Operand) (xs0:Array Operand) (ts:Array TypeId) (f:FuncId) (first cap args:List PV):Qa7 P [] id (.call ⟨.value fo,xs0,ts⟩) (.fn f first cap::args) bx=
  M.bind (Qfq first) (fun x=> .bind (Qgl args) fun y=> .bind (Qfq cap) fun z=> .pure (.call f (x.1++y.1++z.1) (x.2++y.2++z.2))) bx:=rfl
attribute [go_sem] Zaa
theorem Q1x:(none:Option Operand).toArray= #[]:=rfl
theorem Q1y (x:Operand):(some x).toArray= #[x]:=rfl
attribute [go_sem] Q1x Q1y List.range_zero Nat.le_refl Nat.zero_le
attribute [go_sem] Zuq Zur Zo6 Zsl Zo7 Zus Zo8 Zsm Q9s Q1o Qwm Q9t
attribute [go_sem] Zut Zsn Q1p Qwn Zhw Zhx Q9u Qr0 Qty Q1q Q9v Q9w
attribute [go_sem] Q1r Qqc Q1s Qwo Zhy Qwp Q1t Zsh Zhm Qrx Qry Qrz
attribute [go_sem] Zhn Zho Zox Zt3 Zoy Qtx Q9n Q9o Zoz Zt4 Zt5 Zt6
attribute [go_sem] Zsi Q1n Qwj Zhp Zhq Zhr Zhs Qoy Qoz Zo0 Qo0 Qo1
attribute [go_sem] Qo2 Qom Qwk Qwl Q9p Zt7 Zht Zt8 Zt9 Zjb Zjc Zsj
attribute [go_sem] Zo1 Zua Zub Zuc Zud Zue Zuf Zsk b_or Zug Zuh Zui
attribute [go_sem] Zuj Zuk Zul Zum Zun Zo2 Zuo Zup Qtv Qca Qjw St.evs
attribute [go_sem] St.ev Op.operands Call.operands M.bind M.pure M.ofOpt M.ok M.soft M.hard Zse Qwh Zja
attribute [go_sem] Qg8 Q9i Zo4 Qhz lkp Qee Qez Qcj Qcg Qc9 Qbc Eff.on
attribute [go_sem] Qce Eff.id Eff.hard Qrv Qfc Qru Qok esc0 escL escC Qfq esc1
attribute [go_sem] Qgl Qdj Vl.newVar Qbr    PV.putCells PV.one Qgh Q9a Qv7 Box.soft
attribute [go_sem] List.toList_toArray List.getElem?_toArray List.getElem?_cons_zero List.getElem?_cons_succ Option.bind_some Option.map_some Option.bind_none Option.map_none List.map_cons List.map_nil List.append_nil List.nil_append
attribute [go_sem] List.cons_append decide_true decide_false if_true if_false true_and and_true Bool.and_true Bool.true_and Bool.and_self beq_self_eq_true List.all_cons
attribute [go_sem] List.all_nil List.length_cons List.length_nil Nat.zero_add Nat.add_zero Nat.zero_mul List.drop_zero List.contains_cons gt_iff_lt ge_iff_le Option.isNone_none Option.isNone_some
attribute [go_sem] Array.toList_empty Array.append_empty Array.empty_append List.size_toArray List.take_zero List.push_toArray List.append_toArray Option.isSome_some Option.isSome_none List.drop_succ_cons List.take_succ_cons List.take_nil
attribute [go_sem] List.drop_nil List.getElem_cons_zero List.getElem_cons_succ Nat.not_lt_zero Bool.false_eq_true Bool.true_eq_false not_true_eq_false not_false_eq_true if_neg Nat.lt_irrefl Bool.not_true Bool.not_false
attribute [go_sem] Bool.and_false Bool.false_and Bool.or_false Bool.or_true Bool.false_or Bool.true_or List.flatMap_cons List.flatMap_nil List.set_cons_zero List.set_cons_succ beq_true beq_false
attribute [go_sem] Bool.true_beq Bool.false_beq eq_self Bool.not_not ite_self ne_eq Zsf Q9j Zow Qcp Qcy Qel
attribute [go_sem] Qpw Qk5 Qh5 Qhv Qrk Qn0 Qv2 Qjm Qf8 Box.over Qbn Qf7 Q8x
attribute [go_sem] Q08 Qg2 Qnz Qfr rlk land Qfs ren0 Qam ren1 Qnx ren2
attribute [go_sem] Qlo flatr Qs9 Qta flatc Qny Box.ext LENT YID List.zip_cons_cons List.zip_nil_left List.zip_nil_right
attribute [go_sem] Zhu Zhv Zo3 Qjl List.isEmpty_cons List.isEmpty_map
attribute [go_sem] Zuv Zuw Zux Zuy Zuz Zu0 Zu1 Zu2 Option.getD_some Option.getD_none
section
variable {vs vs':List (Nat×PV)} {bs bs':List (Nat×Box)} {o:List (List PV)} {y:Yl}
theorem Zab (t b esz:Nat) (ety:TypeId) (hbL:Nat.blt b LENT=true) (ht:lkp vs t=some .nilS) (hb:lkp bs b=none) (hz:0<esz):
  Le (St.ofG vs bs o y) (St.ofG ((t,.bs b esz 0 0)::vs) ((b,{els:=[],esz:=esz,ety:=ety,fro:=0,live:=true,arr:=true})::bs) o y):=Zsg hbL ht hb hz
theorem Qhd (t b esz:Nat) (ety:TypeId) (hbL:Nat.blt b LENT=true) (ht:lkp vs t=some .nilS) (hb:lkp bs b=none) (hz:0<esz) (θ:List (Nat×Nat)) (hθ:Qkt θ bs'=true)
  (hv:Qad θ ((t,.bs b esz 0 0)::vs) vs') (hbx:Qal θ ((b,{els:=[],esz:=esz,ety:=ety,fro:=0,live:=true,arr:=true})::bs) bs'):Le (St.ofG vs bs o y) (St.ofG vs' bs' o y):=
 (Zab t b esz ety hbL ht hb hz).trans (Qak hθ hv hbx)
end
end Go.Vl
