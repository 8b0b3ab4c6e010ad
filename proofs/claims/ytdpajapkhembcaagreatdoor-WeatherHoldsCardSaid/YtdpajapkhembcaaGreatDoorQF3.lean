/-
  Dwm, QJ1, Du, Dsg, Dgl, Dgm, UX2, UYD, QF1, QF2, QF3 (merged for the claim).
-/
import Derived.Test.YtdpajapkhembcaaGreatDoorULD
import Derived.Test.YtdpajapkhembcaaGreatDoorQI4
import Derived.Test.YtdpajapkhembcaaGreatDoorUC
import Derived.Test.YtdpajapkhembcaaGreatDoorQW3
set_option linter.unusedSimpArgs false
set_option linter.unusedVariables false
namespace Go.Dg
def Qbr (s:Int) (l:List Wd):List Wd:=l.filter fun w=>decide (s<w.t)
def delE (s:Int) (l:List Wd) (j:Nat):List Wd:=Qbr s (l.take j)++l.drop (Qbr s (l.take j)).length
theorem Qhj (s:Int) (l:List Wd):(Qbr s l).length≤l.length:=List.length_filter_le _ _
theorem Qkf (s:Int) (l:List Wd) (j:Nat):(Qbr s (l.take j)).length≤j:=Nat.le_trans (Qhj _ _) (by rw [List.length_take];omega)
theorem Qfj {s:Int} {l:List Wd} {j:Nat} (h:j<l.length):Qbr s (l.take (j+1))=Qbr s (l.take j)++(if s<l[j].t then [l[j]]else []):=by
 unfold Qbr;rw [List.take_add_one,List.getElem?_eq_getElem h,List.filter_append];congr 1;simp only [Option.toList_some,List.filter_cons,List.filter_nil,decide_eq_true_eq]
theorem Ql6 (s:Int) (l:List Wd) (j:Nat) (h:j≤l.length):(delE s l j).length=l.length:=by
 unfold delE;have:=Qkf s l j;rw [List.length_append,List.length_drop];omega
theorem Zfq {s:Int} {l:List Wd} {j i:Nat} (h:(Qbr s (l.take j)).length≤i):(delE s l j)[i]? =l[i]? :=by
 unfold delE;rw [List.getElem?_append_right h,List.getElem?_drop];congr 1;omega
theorem Qyt {s:Int} {l:List Wd} {j:Nat} (h:j<l.length) (hd: ¬s<l[j].t):delE s l (j+1)=delE s l j:=by
 unfold delE;rw [Qfj h,if_neg hd,List.append_nil]
theorem Zr4 {s:Int} {l:List Wd} {j:Nat} (h:j<l.length) (hd:s<l[j].t):delE s l (j+1)=(delE s l j).set (Qbr s (l.take j)).length l[j]:=by
 unfold delE;have hk:=Qkf s l j;rw [Qfj h,if_pos hd,List.set_append_right _ _ (Nat.le_refl _),Nat.sub_self,List.append_assoc];congr 1;have hd2:l.drop (Qbr s (l.take j)).length=l[(Qbr s (l.take j)).length]::l.drop ((Qbr s (l.take j)).length+1):=List.drop_eq_getElem_cons (by omega);rw [hd2,List.set_cons_zero,List.length_append];rfl
theorem Qte {s:Int} {l:List Wd} (h: ∀w∈l,s<w.t):Qbr s l=l:=List.filter_eq_self.2 fun w hw=>decide_eq_true (h w hw)
theorem Zfr {s:Int} {l:List Wd} {i:Nat} (h:i<l.length) (hd: ¬s<l[i].t):(Qbr s l).length<l.length:=by
 rcases Nat.lt_or_ge (Qbr s l).length l.length with q|q
 ·exact q
 ·exfalso;have e:(Qbr s l).length=l.length:=Nat.le_antisymm (Qhj _ _) q;have:=List.length_filter_eq_length_iff.1 e l[i] (List.getElem_mem h);exact hd (of_decide_eq_true this)
theorem Zy0 (s:Int) (l:List Wd):(∀w∈l,s<w.t)∨ ∃i,∃h:i<l.length,¬s<l[i].t∧ ∀(j:Nat) (hj:j<i),s<(l[j]'(by omega)).t:=by
 induction l with
 |nil=>exact .inl fun w hw=>by cases hw
 |cons w l ih=>
  by_cases hw:s<w.t
  ·rcases ih with h|⟨i,h,h1,h2⟩
   ·refine .inl fun x hx=> ?_;rcases List.mem_cons.1 hx with rfl|hx
    ·exact hw
    ·exact h x hx
   ·refine .inr ⟨i+1,by simpa using h,by simpa using h1,fun j hj=> ?_⟩;cases j with
    |zero=>exact hw
    |succ j=>simpa using h2 j (by omega)
  ·exact .inr ⟨0,by simp,hw,fun j hj=>by omega⟩
theorem Q01 {s:Int} {l:List Wd} {i:Nat} (hi:i≤l.length) (h: ∀(j:Nat) (hj:j<i),s<(l[j]'(by omega)).t):Qbr s (l.take i)=l.take i∧delE s l i=l:=by
 have e:Qbr s (l.take i)=l.take i:=Qte fun w hw=>by
  obtain⟨j,hj,rfl⟩:=List.getElem_of_mem hw;rw [List.length_take]at hj;rw [List.getElem_take];exact h j (by omega)
 refine⟨e,?_⟩;unfold delE;rw [e,List.length_take,Nat.min_eq_left hi,List.take_append_drop]
def mvW (s:Int) (w:Wd):Wd:={w with f:=max 0 (w.f-s),t:=w.t-s}
def Qcw (s:Int) (l:List Wd):List Wd:=(Qbr s l).map (mvW s)
def mvdE (s:Int) (K:List Wd) (i:Nat):List Wd:=(K.take i).map (mvW s)++K.drop i
theorem Qhk (s:Int) (K:List Wd) (i:Nat):(mvdE s K i).length=K.length:=by
 unfold mvdE;rw [List.length_append,List.length_map,List.length_take,List.length_drop];omega
theorem Zfs {s:Int} {K:List Wd} {i:Nat} (h:i<K.length):(mvdE s K i)[i]? =some K[i]:=by
 unfold mvdE;rw [List.getElem?_append_right (by rw [List.length_map,List.length_take];omega),List.length_map,List.length_take,Nat.min_eq_left (by omega),Nat.sub_self,List.getElem?_drop,Nat.add_zero,List.getElem?_eq_getElem h]
theorem Zft {s:Int} {K:List Wd} {i:Nat} (h:i<K.length):(mvdE s K i).set i (mvW s K[i])=mvdE s K (i+1):=by
 unfold mvdE;have hl:((K.take i).map (mvW s)).length=i:=by rw [List.length_map,List.length_take];omega
 rw [List.set_append_right _ _ (by omega),hl,Nat.sub_self,List.drop_eq_getElem_cons h,List.set_cons_zero,List.take_add_one,List.getElem?_eq_getElem h];simp only [Option.toList_some,List.map_append,List.map_cons,List.map_nil,List.append_assoc,List.singleton_append]
theorem Q6b (s:Int) (K:List Wd):mvdE s K 0=K:=by simp [mvdE]
theorem Zfu (s:Int) (K:List Wd):mvdE s K K.length=K.map (mvW s):=by simp [mvdE]
theorem Zy1 {s:Int} {w:Wd} (h:vWd w=true) (h0:0≤s) (h1:s<w.t):vWd (mvW s w)=true:=by
 obtain⟨a1,a2,a3,a4,a5,a6,a7,a8,a9,b1,b2,b3,b4,b5,b6⟩:=Qfi h;have e1:(0:Int)≤max 0 (w.f-s):=Int.le_max_left _ _;have e2:max 0 (w.f-s)<w.t-s:=Int.max_lt.2 ⟨by omega,by omega⟩;have e3:w.t-s≤3600000:=by omega
 show(ptW w.lx w.ly w.lz&&(ptW w.hx w.hy w.hz&&(decide (0≤max 0 (w.f-s)∧max 0 (w.f-s)<w.t-s∧w.t-s≤3600000)&&(decide (w.lx≤w.hx∧w.ly≤w.hy∧w.lz≤w.hz)&&(uB w.ux&&(uB w.uy&&uB w.uz))))))=true;simp only [ptW,uB,Bool.and_eq_true,decide_eq_true_eq];exact⟨⟨a1,a2,a3⟩,⟨a4,a5,a6⟩,⟨e1,e2,e3⟩,⟨b1,b2,b3⟩,b4,b5,b6⟩
theorem Qk4 {s:Int} {l:List Wd} (h:Qba l=true) (h0:0≤s):Qba (Qcw s l)=true:=by
 obtain⟨h1,h2⟩:=Qbo h;unfold Qba Qcw;rw [Bool.and_eq_true];refine⟨List.all_eq_true.2 fun w hw=> ?_,decide_eq_true (by rw [List.length_map];exact Nat.le_trans (Qhj _ _) h2)⟩;obtain⟨x,hx,rfl⟩:=List.mem_map.1 hw;obtain⟨hx1,hx2⟩:=List.mem_filter.1 hx;exact Zy1 (h1 x hx1) h0 (of_decide_eq_true hx2)
end Go.Dg

namespace Go.Proofs.YtdpajapkhembcaaGreatDoor
open Go.Vl Go.RowKit Go.Dg
def rulB (g h:Int):Bool:=decide (0≤g)&&(decide (g≤h)&&decide (h≤100000))
theorem Qtt (g h:Int):Qaf Tryz.prog 18 [.agg [.int .i64 g,.int .i64 h]] (.bool (rulB g h)):=by
 unfold rulB;by_cases h1:0≤g
 case neg=>
  have h1':=eq_false h1;rw [decide_eq_false h1,Bool.false_and];refine Qab (tb:=[]) 18 [.tmp 2] [0,1,2] mixed Tryz.func18 rfl (by kernel_rfl) ?_;repeat simp only [go_sem,seval,h1',decide_false]
 have h1':=eq_true h1;by_cases h2:g≤h
 case neg=>
  have h2':=eq_false h2;rw [decide_eq_true h1,decide_eq_false h2,Bool.false_and,Bool.and_false];refine Qab (tb:=[]) 18 [.tmp 2] [0,1,2] mixed Tryz.func18 rfl (by kernel_rfl) ?_;repeat simp only [go_sem,seval,h1',h2',decide_true,decide_false]
 have h2':=eq_true h2;rw [decide_eq_true h1,decide_eq_true h2,Bool.true_and,Bool.true_and];refine Qab (tb:=[]) 18 [.tmp 2] [0,1,2] mixed Tryz.func18 rfl (by kernel_rfl) ?_;repeat simp only [go_sem,seval,h1',h2',decide_true]
theorem Zzz (l:List Wd):Qaf Tryz.prog 9 [wsPV l] (.bool (decide (l.length≤9))):=by
 have h:((l.length:Int)≤9)=(l.length≤9):=by simp only [eq_iff_iff];omega
 refine Qab (tb:=[]) 6 [.tmp 2] [0,2] mixed Tryz.func9 rfl (by kernel_rfl) ?_;repeat simp only [go_sem,seval,List.length_map,h]
theorem Q7c (w:Wd) (s:Int):Qaf Tryz.prog 30 [wdPV w,.rp [.int .i64 s]] (.bool (decide (w.t≤s))):=by
 refine Qab (tb:=[]) 8 [.tmp 3] [0,1,2,3] mixed Tryz.func30 rfl (by kernel_rfl) ?_;repeat simp only [go_sem,seval]
abbrev wdB (l:List Wd):Box:={els:=l.map wdPV,esz:=11,ety:=71,fro:=0,live:=true,arr:=true}
theorem Zqj (l:List Wd):(((l.map wdPV).flatMap PV.cells).all PV.okCell)=true:=by
 rw [List.all_flatMap,List.all_map,List.all_eq_true];intro _ _;rfl
theorem Zz0 (l:List Wd):((l.map wdPV).all fun e=>e.cells.length==11&&e.cells.all PV.okCell)=true:=by
 rw [List.all_map,List.all_eq_true];intro _ _;rfl
theorem Q07:Qaf Tryz.prog 29 [.slc []] (.slc []):=by
 have h1:(0*88≤140737488355328)=True:=eq_true (by omega);have h2:(0≤maxLen)=True:=eq_true (by unfold maxLen;omega);refine Qab (tb:=[]) 8 [.tmp 2] [0,2,4] mixed Tryz.func29 rfl (by kernel_rfl) ?_;repeat simp only [go_sem,seval,List.map_nil,List.isEmpty_nil,h1,h2]
theorem Q7d (l:List Wd) (hl:l≠ []) (hl2:l.length≤100000):Qct Tryz.prog 29 [wsPV l] [] (.bs 7 11 0 l.length) [(7,wdB l)]:=by
 have h1:(l.length*88≤140737488355328)=True:=eq_true (by omega);have h2:(l.length≤maxLen)=True:=eq_true (by unfold maxLen;omega);have h3:(l.map wdPV).take l.length=l.map wdPV:=List.take_of_length_le (by simp);have h4:=Zqj l;have h5:=Zz0 l;have h0:(l.map wdPV).isEmpty=false:=by cases l with|nil=>exact absurd rfl hl|cons=>rfl
 refine Qbp (tb:=[]) 8 [.tmp 2] [0,2,4] mixed Tryz.func29 rfl (by kernel_rfl) (by kernel_rfl) (by kernel_rfl) (by kernel_rfl) (by rfl) ?_;repeat simp only [go_sem,seval,h0,List.length_map,h1,h2,h5]
 refine Qa7 (.inl rfl) ?_;simp only [go_sem,seval];refine Qaj (θ:=[(7,302)]) rfl ?_ ?_
 ·simp [Qae,lkp,ren1,ren0,Qai]
 ·exact⟨⟨rfl,rfl,rfl,rfl,rfl,.inl ⟨rfl,rfl⟩⟩,trivial⟩
end Go.Proofs.YtdpajapkhembcaaGreatDoor

namespace Go.Dg
def Zyw (p:List Int) (a b d:Int):Nat→List Int
 |0=>[]
 |i+1=>pAdd (Zyw p a b d i) (Zp7 (pPow (Qs9 [a,b]) i) (p.getD i 0*d^(p.length-1-i)))
theorem Qhi {d:Int} {D:Nat} (h:d.natAbs<2^D) (k:Nat):(d^k).natAbs<2^(D*k+1):=by
 rw [Int.natAbs_pow];have h1:d.natAbs^k≤(2^D)^k:=Nat.pow_le_pow_left (Nat.le_of_lt h) k;rw [←Nat.pow_mul]at h1;rw [Nat.pow_succ];have:=Nat.pow_pos (n:=D*k) (show 0<2 by decide);omega
structure Sg where
  f:Int
  t:Int
  o:Int
  x:List Int
  y:List Int
  z:List Int

/-- The weight of a coefficient in a control value,times 60. -/
def cw (n j k:Nat):Nat:=60/bin n k*bin j k
def ctl (c:List Int) (j:Nat):Int:=sm (fun k=>c.getD k 0*(cw (c.length-1) j k:Int)) (j+1)
/-- The first j control values are within the bounds. -/
def Qet (c:List Int) (o:Int) (j:Nat):Bool:=(List.range j).all fun j=>decide (((ctl c j).natAbs:Int)≤62914560*o)
def Qm4 (c:List Int):Bool:=decide (1≤c.length)&&(decide (c.length≤6)&&(decide (c.length≤1)|| !(c.getD (c.length-1) 0==0)))
def axOK (c:List Int) (o:Int):Bool:=Qm4 c&&Qet c o c.length
def gcdL (g:Nat) (c:List Int):Nat:=c.foldl (fun g x=>Nat.gcd g x.natAbs) g
def Sg.ax (s:Sg):List (List Int):=[s.x,s.y,s.z]
def rngS (s:Sg):Bool:=decide (0≤s.f)&&(decide (s.f<s.t)&&(decide (s.t≤3600000)&&(decide (1≤s.o)&&decide (s.o≤4294967296))))
def Qbm (s:Sg):Bool:=rngS s&&((s.ax.all fun c=>axOK c s.o)&&(s.ax.foldl gcdL s.o.natAbs==1))

theorem Qm5 (g:Nat) (c:List Int) (x:Int):gcdL g (c++[x])=Nat.gcd (gcdL g c) x.natAbs:=by simp [gcdL]
theorem Qq4 {g:Nat} (c:List Int) {K:Nat} (hg:g<K) (hc: ∀x∈c,x.natAbs<K):gcdL g c<K:=by
  induction c generalizing g with
  |nil=>exact hg
  |cons x c ih=>
    refine ih (g:=Nat.gcd g x.natAbs) ?_ fun y hy=>hc y (by simp [hy]);rcases Nat.eq_zero_or_pos g with h|h
    · subst h;rw [Nat.gcd_zero_left];exact hc x (by simp)
    · exact Nat.lt_of_le_of_lt (Nat.le_of_dvd h (Nat.gcd_dvd_left _ _)) hg
theorem Qhh (c:List Int) (o:Int) (j:Nat):Qet c o (j+1)=(Qet c o j&&decide (((ctl c j).natAbs:Int)≤62914560*o)):=by
  simp [Qet,List.range_succ]
theorem Zfi {c:List Int} {o:Int} {j m:Nat} (h:Qet c o j=false) (hm:j≤m):Qet c o m=false:=by
  induction m with
  |zero=>
        obtain rfl:j=0:=by omega
        exact h
  |succ m ih=>
    rw [Qhh];by_cases e:j=m+1
    · subst e;rw [Qhh]at h;exact h
    · rw [ih (by omega)];rfl
theorem Zyt (n j k:Nat) (hj:j≤5):cw n j k≤1920:=by
  unfold cw;have h1:60/bin n k≤60:=Nat.div_le_self _ _;have h2:=Qkc j k;have h3:2^j≤2^5:=Nat.pow_le_pow_right (by decide) hj;have h4:=Nat.mul_le_mul h1 (Nat.le_trans h2 h3);omega
theorem Qq5 {c:List Int} {B n j:Nat} (hc:bd B c) (hj:j≤5) (m:Nat) (hm:m≤6):(sm (fun k=>c.getD k 0*(cw n j k:Int)) m).natAbs<2^(B+11+7):=by
  refine Q5p (by omega) fun i hi=> ?_;rw [Int.natAbs_mul,Nat.pow_add];refine Nat.mul_lt_mul'' (Zp8 hc i) ?_;rw [Int.natAbs_natCast];have:=Zyt n j i hj;omega
/-- A coordinate at a/d,times the denominator to the power of 5. -/
def plcT (c:List Int) (a d:Int) (k:Nat):Int:=c.getD k 0*(a^k*d^(5-k))
def plc (c:List Int) (a d:Int):Int:=sm (plcT c a d) c.length
def plP (s:Sg) (a d:Int) (i:Nat):Int:=plc (s.ax.getD i []) a d
def plG (s:Sg) (a d:Int) (i:Nat):Nat:=gcdL (s.o*d^5).natAbs ((List.range i).map (plP s a d))
def at3 (P:Nat→Int) (i m:Nat):Int:=if m<i then P m else 0
theorem Qfu (s:Sg) (a d:Int) (i:Nat):plG s a d (i+1)=Nat.gcd (plG s a d i) (plP s a d i).natAbs:=by
  unfold plG;rw [List.range_succ,List.map_append];exact Qm5 _ _ _
theorem Qq6 {c:List Int} {a d:Int} {B:Nat} (hc:bd B c) (ha:a.natAbs<2^B) (hd:d.natAbs<2^B) (k:Nat) (hk:k≤5):
    (a^k).natAbs<2^(B*5+1)∧(d^(5-k)).natAbs<2^(B*5+1)∧(a^k*d^(5-k)).natAbs<2^(B*5+1+(B*5+1))∧(plcT c a d k).natAbs<2^(B+(B*5+1+(B*5+1))):=by
  have h1:(a^k).natAbs<2^(B*5+1):=Nat.lt_of_lt_of_le (Qhi ha k) (Nat.pow_le_pow_right (by decide) (by have:=Nat.mul_le_mul_left B hk;omega));have h2:(d^(5-k)).natAbs<2^(B*5+1):=Nat.lt_of_lt_of_le (Qhi hd (5-k)) (Nat.pow_le_pow_right (by decide) (by have:=Nat.mul_le_mul_left B (show 5-k≤5 by omega);omega));have h3:(a^k*d^(5-k)).natAbs<2^(B*5+1+(B*5+1)):=by rw [Int.natAbs_mul,Nat.pow_add];exact Nat.mul_lt_mul'' h1 h2
  refine⟨h1,h2,h3,?_⟩;unfold plcT;rw [Int.natAbs_mul,Nat.pow_add _ B];exact Nat.mul_lt_mul'' (Zp8 hc k) h3
theorem Qfv {c:List Int} {a d:Int} {B:Nat} (hc:bd B c) (ha:a.natAbs<2^B) (hd:d.natAbs<2^B) (m:Nat) (hm:m≤6):(sm (plcT c a d) m).natAbs<2^(B+(B*5+1+(B*5+1))+7):=
  Q5p (by omega) fun i hi=>(Qq6 hc ha hd i (by omega)).2.2.2
theorem Qvt {s:Sg} {a d:Int} (ho:1≤s.o) (hd:1≤d) (i:Nat):0<plG s a d i:=by
  induction i with
  |zero=>
    show 0<(s.o*d^5).natAbs;have h:0<s.o*d^5:=Int.mul_pos (by omega) (Int.pow_pos (by omega));omega
  |succ i ih=>rw [Qfu];exact Nat.gcd_pos_of_pos_left _ ih
theorem Zrp {s:Sg} {d:Int} {B:Nat} (ho:s.o.natAbs<2^B) (hd:d.natAbs<2^B):(s.o*d^5).natAbs<2^(B+(B*5+1)):=by
  rw [Int.natAbs_mul,Nat.pow_add _ B];exact Nat.mul_lt_mul'' ho (Qhi hd 5)
theorem Q5q {s:Sg} {a d:Int} {B:Nat} (hc: ∀c∈s.ax,bd B c) (h6: ∀c∈s.ax,c.length≤6) (ha:a.natAbs<2^B) (hd:d.natAbs<2^B) (i:Nat) (hi:i<3):
    (plP s a d i).natAbs<2^(B+(B*5+1+(B*5+1))+7):=by
  have hi':i<s.ax.length:=hi;have hm:s.ax.getD i []=s.ax[i]:=by rw [List.getD_eq_getElem?_getD,List.getElem?_eq_getElem hi'];rfl
  unfold plP plc;rw [hm];exact Qfv (hc _ (List.getElem_mem hi')) ha hd _ (h6 _ (List.getElem_mem hi'))
theorem Zyu {s:Sg} {a d:Int} {B:Nat} (hc: ∀c∈s.ax,bd B c) (h6: ∀c∈s.ax,c.length≤6) (ho:s.o.natAbs<2^B) (ha:a.natAbs<2^B) (hd:d.natAbs<2^B) (i:Nat) (hi:i≤3):
    ((plG s a d i:Nat):Int).natAbs<2^(B+(B*5+1+(B*5+1))+7):=by
  rw [Int.natAbs_natCast];refine Qq4 _ (Nat.lt_of_lt_of_le (Zrp ho hd) (Nat.pow_le_pow_right (by decide) (by omega))) ?_;intro x hx;simp only [List.mem_map,List.mem_range]at hx;obtain⟨m,hm,rfl⟩:=hx;exact Q5q hc h6 ha hd m (by omega)
structure V3 where
 x:Int
 y:Int
 z:Int
deriving DecidableEq
def v0:V3:=⟨0,0,0⟩
def inB (n:Int):Bool:= !(decide (n< -1048576)||decide (1048576<n))
def ptB (v:V3):Bool:=inB v.x&&(inB v.y&&inB v.z)
theorem Q44 {n:Int}:inB n=true↔ -1048576≤n∧n≤1048576:=by
 unfold inB;simp only [Bool.not_eq_true',Bool.or_eq_false_iff,decide_eq_false_iff_not];omega
theorem Qka {v:V3}:ptB v=true↔(-1048576≤v.x∧v.x≤1048576)∧(-1048576≤v.y∧v.y≤1048576)∧(-1048576≤v.z∧v.z≤1048576):=by
 unfold ptB;simp only [Bool.and_eq_true,Q44]
def rowK (k:Int):List Int:=if k=1 then [1]else if k=2 then [0,0,10, -15,6]else []
def Qdm (a b:Int) (row:List Int):List Int:=if a=b then [a]else a::row.map fun f=>f*(b-a)
def legS (a b:V3) (f t k:Int):Sg:=⟨f,t,1,Qdm a.x b.x (rowK k),Qdm a.y b.y (rowK k),Qdm a.z b.z (rowK k)⟩
def tmB (f t:Int):Bool:=decide (0≤f)&&(decide (f<t)&&decide (t≤3600000))
def Qo0 (a b:V3) (f t:Int):Bool:=ptB a&&(ptB b&&tmB f t)
def flyL (a b:V3) (f t k:Int):List Sg:=if Qo0 a b f t=true then [legS a b f t k]else []
def flyE (a b:V3) (f t:Int):Int:=if Qo0 a b f t=true then 0 else 2
def up (v:V3) (r:Int):V3:=⟨v.x,v.y,v.z+r⟩
def arc3 (a b:V3) (r f t:Int):List Sg:=[legS a (up a r) f (f+(t-f)/4) 2,legS (up a r) (up b r) (f+(t-f)/4) (t-(t-f)/4) 2,legS (up b r) b (t-(t-f)/4) t 2]
structure Mv where
 to:V3
 w:Int
 f:Int
 r:Int
def tB (n:Int):Bool:=decide (0≤n)&&decide (n≤3600000)
theorem Qe5 {n:Int}:tB n=true↔0≤n∧n≤3600000:=by simp [tB]
def hiB (v:V3) (r:Int):Bool:=ptB (up v r)
def mvB (v:V3) (m:Mv) (len:Int):Bool:=
 ptB m.to&&(tB m.w&&(tB m.f&&(tB m.r&&(decide (m.w+m.f≤len)&&(if m.f=0 then decide (m.to=v)&&decide (m.r=0)else if 0<m.r then decide (m.f%4=0)&&(hiB v m.r&&hiB m.to m.r)else true)))))
def Qc6 (v:V3) (f t:Int):List Sg:=flyL v v f t 0
def midL (v:V3) (m:Mv) (b e:Int):List Sg:=if 0<m.r then arc3 v m.to m.r b e else flyL v m.to b e 2
def mvL (v:V3) (m:Mv) (at_ len:Int):List Sg:=
 if m.f=0 then Qc6 v at_ (at_+len)else Qc6 v at_ (at_+m.w)++midL v m (at_+m.w) (at_+m.w+m.f)++Qc6 m.to (at_+m.w+m.f) (at_+len)
def mvE (v:V3) (m:Mv) (at_ len:Int):Int:=
 if ptB v=true∧1≤len∧len≤3600000∧tB at_=true∧mvB v m len=true then(if at_+len≤3600000 then 0 else 3)else 2
def mvP (v:V3) (m:Mv) (at_ len:Int):List Sg:=if mvE v m at_ len=0 then mvL v m at_ len else []
theorem Qcl (a b:V3) (f t k:Int):(flyL a b f t k).length≤1:=by unfold flyL;split<;>simp
theorem Q0v (v:V3) (m:Mv) (a l:Int):(mvL v m a l).length≤5:=by
 unfold mvL;split
 ·exact Nat.le_trans (Qcl _ _ _ _ _) (by decide)
 ·simp only [List.length_append];have h1:=Qcl v v a (a+m.w) 0;have h2:=Qcl m.to m.to (a+m.w+m.f) (a+l) 0;have h3:(midL v m (a+m.w) (a+m.w+m.f)).length≤3:=by
   unfold midL;split
   ·simp [arc3]
   ·exact Nat.le_trans (Qcl _ _ _ _ _) (by decide)
  unfold Qc6;omega
theorem Qek (v:V3) (m:Mv) (a l:Int):(mvP v m a l).length≤5:=by
 unfold mvP;split
 ·exact Q0v _ _ _ _
 ·simp
structure Ac where
 nm:ByteArray
 ln:Int
 mv:List Mv
structure Pg where
 ns:List ByteArray
 hs:List V3
 as_:List Ac
def ac0:Ac:=⟨⟨#[]⟩,0,[]⟩
def mv0:Mv:=⟨v0,0,0,0⟩
def chB (i c:Nat):Bool:=(decide (97≤c)&&decide (c≤122))||((decide (65≤c)&&decide (c≤90))||(decide (0<i)&&((decide (48≤c)&&decide (c≤57))||(decide (c=45)||decide (c=95)))))
def bAt (s:ByteArray) (i:Nat):Nat:=(s.data.toList.getD i 0).toNat
def Qiw (s:ByteArray) (k:Nat):Bool:=(List.range k).all fun i=>chB i (bAt s i)
def Qvn (s:ByteArray):Bool:=Qiw s s.size&&(decide (1≤s.size)&&decide (s.size≤32))
theorem Qmw (s:ByteArray) (k:Nat):Qiw s (k+1)=(Qiw s k&&chB k (bAt s k)):=by simp [Qiw,List.range_succ]
theorem Q45 {s:ByteArray} {k:Nat} (h:Qiw s k=false) {m:Nat} (hm:k≤m):Qiw s m=false:=by
 induction m with
 |zero=>
    obtain rfl:k=0:=by omega
    exact h
 |succ m ih=>
  by_cases e:k=m+1
  ·subst e;exact h
  ·rw [Qmw,ih (by omega)];rfl
def nmAt (p:Pg) (i:Nat):ByteArray:=p.ns.getD i ⟨#[]⟩
def hmAt (p:Pg) (i:Nat):V3:=p.hs.getD i v0
def memN (s:ByteArray) (l:List ByteArray):Bool:=l.any fun x=>s==x
def memP (v:V3) (l:List V3):Bool:=l.any fun x=>decide (v=x)
def Q46 (p:Pg) (i:Nat):Bool:=Qvn (nmAt p i)&&(!memN (nmAt p i) (p.ns.take i)&&(ptB (hmAt p i)&& !memP (hmAt p i) (p.hs.take i)))
def Qix (p:Pg) (k:Nat):Bool:=(List.range k).all (Q46 p)
def Qqu (p:Pg):Bool:=decide (1≤p.ns.length)&&(decide (p.ns.length≤64)&&(decide (p.hs.length=p.ns.length)&&Qix p p.ns.length))
theorem Qmx (p:Pg) (k:Nat):Qix p (k+1)=(Qix p k&&Q46 p k):=by simp [Qix,List.range_succ]
theorem Q47 {p:Pg} {k:Nat} (h:Qix p k=false) {m:Nat} (hm:k≤m):Qix p m=false:=by
 induction m with
 |zero=>
    obtain rfl:k=0:=by omega
    exact h
 |succ m ih=>
  by_cases e:k=m+1
  ·subst e;exact h
  ·rw [Qmx,ih (by omega)];rfl
def Qdk (from_:List V3) (ms:List Mv) (at_ ln:Int) (many:List Int) (i:Nat):Int:=many.getD i 0+((mvP (from_.getD i v0) (ms.getD i mv0) at_ ln).length:Int)
def okAt (from_:List V3) (ms:List Mv) (at_ ln:Int) (many:List Int) (i:Nat):Bool:=decide (mvE (from_.getD i v0) (ms.getD i mv0) at_ ln=0)&&decide (Qdk from_ ms at_ ln many i≤256)
def okTo (from_:List V3) (ms:List Mv) (at_ ln:Int) (many:List Int) (k:Nat):Bool:=(List.range k).all (okAt from_ ms at_ ln many)
def Qbe (from_:List V3) (ms:List Mv) (at_ ln:Int) (many:List Int) (k:Nat):List Int:=(List.range many.length).map fun i=>if i<k then Qdk from_ ms at_ ln many i else many.getD i 0
def actB (n:Nat) (at_:Int) (a:Ac):Bool:=Qvn a.nm&&(decide (1≤a.ln)&&(decide (a.ln≤3600000-at_)&&decide (a.mv.length=n)))
def goB (n:Nat) (from_:List V3) (at_:Int) (many:List Int):List Ac→Bool
 | []=>true
 |a::l=>actB n at_ a&&(okTo from_ a.mv at_ a.ln many from_.length&&goB n (a.mv.map Mv.to) (at_+a.ln) (Qbe from_ a.mv at_ a.ln many from_.length) l)
def Qcm (p:Pg):Bool:=Qqu p&&(decide (p.as_.length≤60)&&goB p.ns.length p.hs 0 (List.replicate p.ns.length 0) p.as_)
def Qco (p:Pg) (k:Nat):List V3:=if k=0 then p.hs else(p.as_.getD (k-1) ac0).mv.map Mv.to
def begT (p:Pg) (k:Nat):Int:=((p.as_.take k).map Ac.ln).sum
theorem Q48 (fr:List V3) (ms:List Mv) (at_ ln:Int) (many:List Int) (k:Nat):okTo fr ms at_ ln many (k+1)=(okTo fr ms at_ ln many k&&okAt fr ms at_ ln many k):=by simp [okTo,List.range_succ]
theorem Qmy (fr:List V3) (ms:List Mv) (at_ ln:Int) (many:List Int):Qbe fr ms at_ ln many 0=many:=by
 apply List.ext_getElem
 ·simp [Qbe]
 ·intro i h1 h2;simp [Qbe,List.getD_eq_getElem?_getD,List.getElem?_eq_getElem h2]
theorem Qb6 (fr:List V3) (ms:List Mv) (at_ ln:Int) (many:List Int) (k:Nat):(Qbe fr ms at_ ln many k).length=many.length:=by simp [Qbe]
theorem Qch {fr:List V3} {ms:List Mv} {at_ ln:Int} {many:List Int} {k i:Nat} (h:i<many.length):(Qbe fr ms at_ ln many k)[i]? =some (if i<k then Qdk fr ms at_ ln many i else many.getD i 0):=by
 simp [Qbe,h]
theorem Qhg {fr:List V3} {ms:List Mv} {at_ ln:Int} {many:List Int} {k:Nat} (h:k<many.length):(Qbe fr ms at_ ln many k).set k (Qdk fr ms at_ ln many k)=Qbe fr ms at_ ln many (k+1):=by
 apply List.ext_getElem?;intro i;rw [List.getElem?_set];by_cases e:k=i
 ·subst e;simp [Qbe,h]
 ·rw [if_neg e];by_cases hi:i<many.length
  ·rw [Qch hi,Qch hi];congr 1;by_cases x:i<k
   ·rw [if_pos x,if_pos (by omega)]
   ·rw [if_neg x,if_neg (by omega)]
  ·rw [List.getElem?_eq_none (by rw [Qb6];omega),List.getElem?_eq_none (by rw [Qb6];omega)]
end Go.Dg

namespace Go.Vl
open Go.Dg
def v3PV (v:V3):PV:= .agg [.int .i64 v.x,.int .i64 v.y,.int .i64 v.z]
def Qiy (l:List ByteArray):List (PV×PV):=l.map fun s=>(.str s,.bool true)
def Qdu (l:List V3):List (PV×PV):=l.map fun v=>(.agg [.int .i64 v.x,.int .i64 v.y,.int .i64 v.z],.bool true)
theorem Qvo (l:List ByteArray) (s:ByteArray):Qiy l++[(.str s,.bool true)]=Qiy (l++[s]):=by simp [Qiy]
theorem Qmz (s:ByteArray): ∀l:List ByteArray,Qcd [2] (.str s) (Qiy l)=some (if memN s l=true then some (.bool true)else none)
 | []=>rfl
 |x::l=>by
  have ih:=Qmz s l;have e:Qav [2] [.str s] [.str x]=some (s==x):=by simp [Qav]
  show(if(PV.str s).isAgg=(PV.str x).isAgg then match Qav [2] [.str s] [.str x]with
   |some true=>some (some (PV.bool true))
   |some false=>Qcd [2] (.str s) (Qiy l)
   |none=>none else none)=_
  rw [if_pos (show(PV.str s).isAgg=(PV.str x).isAgg from rfl),e];unfold memN at ih ⊢;rw [List.any_cons];cases h:s==x with
  |true=>simp
  |false=>simp only [Bool.false_or];exact ih
theorem Qkb (v:V3): ∀l:List V3,Qcd [1,1,1] (.agg [.int .i64 v.x,.int .i64 v.y,.int .i64 v.z]) (Qdu l)=some (if memP v l=true then some (.bool true)else none)
 | []=>rfl
 |x::l=>by
  have ih:=Qkb v l;have e:Qav [1,1,1] [.int .i64 v.x,.int .i64 v.y,.int .i64 v.z] [.int .i64 x.x,.int .i64 x.y,.int .i64 x.z]=some (decide (v=x)):=by
   cases v;cases x;simp only [Qav,if_true,Option.map_some,V3.mk.injEq,Option.some.injEq,Bool.and_true];simp only [Bool.decide_and];rfl
  show(if(PV.agg [.int .i64 v.x,.int .i64 v.y,.int .i64 v.z]).isAgg=(PV.agg [.int .i64 x.x,.int .i64 x.y,.int .i64 x.z]).isAgg then match Qav [1,1,1] [.int .i64 v.x,.int .i64 v.y,.int .i64 v.z] [.int .i64 x.x,.int .i64 x.y,.int .i64 x.z]with
   |some true=>some (some (PV.bool true))
   |some false=>Qcd [1,1,1] (.agg [.int .i64 v.x,.int .i64 v.y,.int .i64 v.z]) (Qdu l)
   |none=>none else none)=_
  rw [if_pos (show(PV.agg [.int .i64 v.x,.int .i64 v.y,.int .i64 v.z]).isAgg=(PV.agg [.int .i64 x.x,.int .i64 x.y,.int .i64 x.z]).isAgg from rfl),e];unfold memP at ih ⊢;rw [List.any_cons];cases h:decide (v=x)with
  |true=>simp
  |false=>simp only [Bool.false_or];exact ih
theorem Qsz {s:ByteArray} {l:List ByteArray} (h:memN s l=false):Qcd [2] (.str s) (Qiy l)=some none:=by rw [Qmz,h];rfl
theorem Qqv {s:ByteArray} {l:List ByteArray} (h:memN s l=true):Qcd [2] (.str s) (Qiy l)=some (some (.bool true)):=by rw [Qmz,h];rfl
theorem Qqw {v:V3} {l:List V3} (h:memP v l=false):Qcd [1,1,1] (.agg [.int .i64 v.x,.int .i64 v.y,.int .i64 v.z]) (Qdu l)=some none:=by rw [Qkb,h];rfl
theorem Qo1 {v:V3} {l:List V3} (h:memP v l=true):Qcd [1,1,1] (.agg [.int .i64 v.x,.int .i64 v.y,.int .i64 v.z]) (Qdu l)=some (some (.bool true)):=by rw [Qkb,h];rfl
theorem Qqx (a:Int):Qcd [1] (.int .i64 a) []=some none:=rfl
theorem Ql1 (a b:Int) (v:PV) (es:List (PV×PV)):Qcd [1] (.int .i64 a) ((.int .i64 b,v)::es)=if a=b then some (some v)else Qcd [1] (.int .i64 a) es:=by
 have e:Qav [1] [.int .i64 a] [.int .i64 b]=some (decide (a=b)):=by simp [Qav];rfl
 show(if(PV.int .i64 a).isAgg=(PV.int .i64 b).isAgg then match Qav [1] [.int .i64 a] [.int .i64 b]with
  |some true=>some (some v)
  |some false=>Qcd [1] (.int .i64 a) es
  |none=>none else none)=_
 rw [if_pos (show(PV.int .i64 a).isAgg=(PV.int .i64 b).isAgg from rfl),e];by_cases h:a=b
 ·simp [h]
 ·simp [h]
theorem Qm0 {α:Type} (f:α→α) (a:α): ∀l:List α,(l++[a]).modify l.length f=l++[f a]
 | []=>rfl
 |x::l=>congrArg (x:: ·) (Qm0 f a l)
theorem Qs0 (l:List V3) (v:V3):(Qdu l++[((.agg [.int .i64 v.x,.int .i64 v.y,.int .i64 v.z]:PV),(.bool false:PV))]).modify (Qdu l).length (fun p=>(p.1,(.bool true:PV)))=Qdu (l++[v]):=by
 rw [Qm0];simp [Qdu]
end Go.Vl

namespace Go.Vl
open Go.RowKit
def Q4e (P:Program) (tb:Tab) (nt:Nat) (ks:List Nat) (c:Code) (k:List It) (Q:Exit→St→Prop):List Nat→St→Prop
 | [],_=>False
 |_::l,st=>go P tb nt ks (.code c:: .again (fun s=> ∃s',Le s s'∧Q4e P tb nt ks c k Q l s')::k) Q st
theorem Q4f (P:Program) (tb:Tab) (nt:Nat) (ks:List Nat) (c:Code) (k:List It) (Q:Exit→St→Prop) (i:Nat) (l:List Nat) (st:St):Q4e P tb nt ks c k Q (i::l) st=go P tb nt ks (.code c:: .again (fun s=> ∃s',Le s s'∧Q4e P tb nt ks c k Q l s')::k) Q st:=rfl
attribute [go_sem] Q4f
theorem Zex {P:Program} {tb:Tab} {nt:Nat} {ks:List Nat} {k:List It} {Q:Exit→St→Prop} {st:St} (hm:P.follows .mixedOrders=true) {c:Code} (l:List Nat) (s0:St) (h0:Le st s0) (h:Q4e P tb nt ks c k Q l s0):go P tb nt ks (.code (.loop c)::k) Q st:=by
 simp only [go,vx];refine Qsf (fun x:{x:List Nat×St // Q4e P tb nt ks c k Q x.1 x.2}=>x.1.2) (fun x=>x.1.1.length) ⟨(l,s0),h⟩ h0 ?_;rintro⟨⟨l,s⟩,h⟩;cases l with
 |nil=>exact h.elim
 |cons i l=>
  simp only [Q4e,go]at h;refine Qdp (Qb2 (tb:=tb) (ks:=ks) hm c _ _ h) ?_;intro e s q;cases e with
  |normal=>simp only [gleave]at q;obtain⟨s',h1,h2⟩:=q;exact⟨⟨(l,s'),h2⟩,by simp,h1⟩
  |_=>simpa only [gleave,vthen]using q
end Go.Vl

namespace Go.Proofs.YtdpajapkhembcaaGreatDoor
open Go.Vl Go.RowKit Go.Dg
def sgV (s:Sg):PV:= .agg [.int .i64 s.f,.int .i64 s.t,.int .i64 s.o,.slc (s.x.map (PV.int .i64)),.slc (s.y.map (PV.int .i64)),.slc (s.z.map (PV.int .i64))]
def pV (p:List Sg):PV:= .slc (p.map sgV)
theorem lt_T {i n:Nat} (h:i<n):((i:Int)<(n:Int))=True:=by simp only [eq_iff_iff,iff_true];omega
theorem lt_F {i n:Nat} (h: ¬i<n):((i:Int)<(n:Int))=False:=by simp only [eq_iff_iff,iff_false];omega
theorem nn_T (i:Nat):((0:Int)≤(i:Int))=True:=by simp
theorem wr_1 {n:Nat} (h:n<9223372036854775807):IntKind.i64.wrap ((n:Int)+1)=((n+1:Nat):Int):=by rw [Qag (by omega) (by omega)];omega
theorem Qkh {α:Type} (l:List α) (i:Nat) (hi:i<l.length):l.take (i+1)=l.take i++[l[i]]:=by rw [List.take_add_one];simp [hi]
theorem Zy7 {α:Type} {p:α→Bool} {l:List α} {i:Nat} (hi:i<l.length) (h:(l.take i).all p=true) (hp:p l[i]=true):(l.take (i+1)).all p=true:=by
 rw [List.take_add_one,List.all_append,h];simp [hi,hp]
theorem Zy8 {α:Type} {p:α→Bool} {l:List α} {i:Nat} (hi:i<l.length) (hp:p l[i]=false):l.all p=false:=by
 rw [List.all_eq_false];exact⟨l[i],List.getElem_mem hi,by simp [hp]⟩
theorem T_m1:Qru Tryz.prog 247=some (215,53):=by kernel_rfl
theorem T_m2:Q3i Tryz.prog 215=some [1]:=by kernel_rfl
theorem T_m3:Qbb Tryz.prog 215=false:=by kernel_rfl
theorem Zfz (xs:List Int) (hx:xs.length≤1000):Qaf Tryz.prog 52 [.int .i64 1048576,.slc (xs.map (PV.int .i64))] (.bool (xs.all inB)):=by
 have hwm:IntKind.i64.wrap (0-1048576)= -1048576:=by rw [Qag (by decide) (by decide)];rfl
 have hwn:IntKind.i64.wrap (-1048576)= -1048576:=Qag (by decide) (by decide);refine Qab (tb:=[]) 23 [.tmp 4] [0,1,4,6,7,8,9,10,21] mixed Tryz.func52 rfl (by kernel_rfl) ?_;repeat simp -implicitDefEqProofs only [go_sem,seval,List.length_map]
 refine Qau mixed (fun k:{k:Nat // k≤xs.length∧(xs.take k).all inB=true}=>St.of [(0,.int .i64 1048576),(1,.slc (xs.map (PV.int .i64))),(4,.bool false),(7,.slc (xs.map (PV.int .i64))),(8,.int .i64 (xs.length:Int)),(9,.int .i64 k.1)] []) (fun k=>xs.length-k.1) ⟨0,Nat.zero_le _,rfl⟩ ?_ ?_
 ·exact Qax (by simp [Qae,lkp,ren1,ren0,Qai])
 ·rintro⟨k,hk,hall⟩;by_cases hlt:k<xs.length
  ·have h1:=lt_T hlt;have h0:=nn_T k;have ea:(xs.map (PV.int .i64))[k]? =some (.int .i64 xs[k]):=by simp [hlt]
   have hwk:=wr_1 (n:=k) (by omega);have hn:=fun h=>Zy8 (p:=inB) hlt h;have hs:=fun h=>Zy7 (p:=inB) hlt hall h;generalize xs[k]=x at*;by_cases ha:x< -1048576
   ·have ha':(x< -1048576)=True:=eq_true ha;rw [hn (by simp [inB,ha])];repeat simp -implicitDefEqProofs only [go_sem,seval,h1,h0,Int.toNat_natCast,ea,hwn,ha',decide_true]
   ·have ha':(x< -1048576)=False:=eq_false ha;by_cases hb:1048576<x
    ·have hb':(1048576<x)=True:=eq_true hb;rw [hn (by simp [inB,hb])];repeat simp -implicitDefEqProofs only [go_sem,seval,h1,h0,Int.toNat_natCast,ea,hwn,ha',hb',decide_true,decide_false]
    ·have hb':(1048576<x)=False:=eq_false hb;repeat simp -implicitDefEqProofs only [go_sem,seval,h1,h0,Int.toNat_natCast,ea,hwn,ha',hb',hwk,decide_false]
     refine⟨⟨k+1,hlt,hs (by simp [inB,ha,hb])⟩,by simp only;omega,?_⟩;exact Qax (by simp [Qae,lkp,ren1,ren0,Qai])
  ·have h1:=lt_F hlt;rw [List.take_of_length_le (by omega)]at hall;rw [hall];repeat simp -implicitDefEqProofs only [go_sem,seval,h1]
theorem Qfx (v:V3):Qaf Tryz.prog 38 [v3PV v] (.bool (ptB v)):=by
 have h:=Zfz [v.x,v.y,v.z] (by simp);have e:([v.x,v.y,v.z].all inB)=ptB v:=by simp [ptB]
 rw [e]at h;simp only [List.map_cons,List.map_nil]at h;unfold v3PV;refine Qab (tb:=[]) 11 [.tmp 2] [0,1,2] mixed Tryz.func38 rfl (by kernel_rfl) ?_;repeat (first|simp -implicitDefEqProofs only [go_sem,seval]|(with_reducible refine Qaa h ?_ ?_ ?_);rfl;rfl)
def Zy9:List (PV×PV):=[(.int .i64 0,.slc []),(.int .i64 1,.slc [.int .i64 1]),(.int .i64 2,.slc [.int .i64 0,.int .i64 0,.int .i64 10,.int .i64 (-15),.int .i64 6])]
theorem Zza:Qct Tryz.prog 168 [] [] (.mp 100) [(100,{els:=[],esz:=1,ety:=247,fro:=0,live:=true,arr:=true,mp:=some Zy9})]:=by
 refine Qbp (tb:=[]) 5 [.tmp 0] [0] mixed Tryz.func168 rfl (by kernel_rfl) (by kernel_rfl) (by kernel_rfl) (by kernel_rfl) (by rfl) ?_;repeat simp -implicitDefEqProofs only [go_sem,seval,T_m1,T_m2,T_m3,Qqx,Ql1]
 refine Qa7 (.inl rfl) ?_;simp -implicitDefEqProofs only [go_sem,seval];refine Qaj (θ:=[(100,100)]) rfl ?_ ?_
 ·simp [Qae,lkp,ren1,ren0,Qai]
 ·exact⟨⟨rfl,rfl,rfl,rfl,rfl,.inl ⟨rfl,rfl⟩⟩,trivial⟩
def okC (n:Int):Prop:= -4194304≤n∧n≤4194304
def tmL (a b:Int) (row:List Int) (k:Nat):List PV:= .int .i64 a::(row.take k).map fun f=> .int .i64 (f*(b-a))
theorem Zqd {a b:Int} {row:List Int} {k:Nat} (h:k≤row.length):(tmL a b row k).length=k+1:=by simp [tmL];omega
theorem Z3n (a b:Int) (row:List Int) (k:Nat):((tmL a b row k).flatMap PV.cells).all PV.okCell=true:=by
 rw [List.all_flatMap,List.all_eq_true];intro e he;unfold tmL at he;rcases List.mem_cons.1 he with rfl|he
 ·rfl
 ·obtain⟨f,_,rfl⟩:=List.mem_map.1 he;rfl
theorem Zse {a b:Int} {row:List Int} {k:Nat} (h:k<row.length):tmL a b row (k+1)=tmL a b row k++[.int .i64 (row[k]*(b-a))]:=by
 unfold tmL;rw [Qkh _ _ h];simp only [List.map_append,List.map_cons,List.map_nil,List.cons_append]
theorem Zzb {a b:Int} {row:List Int}:tmL a b row row.length=(a::row.map fun f=>f*(b-a)).map (PV.int .i64):=by
 unfold tmL;rw [List.take_length];simp
theorem Qvz (a b:Int) (row:List Int) (hr:row.length≤16) (hrow: ∀f∈row, -100≤f∧f≤100) (ha:okC a) (hb:okC b):Qaf Tryz.prog 169 [.int .i64 a,.int .i64 b,.slc (row.map (PV.int .i64))] (.slc ((Qdm a b row).map (PV.int .i64))):=by
 unfold okC at ha hb;have wd:IntKind.i64.wrap (b-a)=b-a:=Qag (by omega) (by omega);by_cases hab:a=b
 ·have h1:(a != b)=false:=by simp [hab]
  have e:Qdm a b row=[a]:=if_pos hab;rw [e];refine Qab (tb:=[]) 31 [.tmp 6] [0,1,2,6,7,9,14,15,16,17,18] mixed Tryz.func169 rfl (by kernel_rfl) ?_;repeat simp -implicitDefEqProofs only [go_sem,seval,h1,List.map_cons,List.map_nil]
 ·have h1:(a != b)=true:=by simp [hab]
  have e:Qdm a b row=a::row.map fun f=>f*(b-a):=if_neg hab;rw [e,←Zzb];refine Qab (tb:=[]) 31 [.tmp 6] [0,1,2,6,7,9,14,15,16,17,18] mixed Tryz.func169 rfl (by kernel_rfl) ?_;repeat simp -implicitDefEqProofs only [go_sem,seval,h1,List.length_map]
  refine Qau mixed (fun k:{k:Nat // k≤row.length}=>St.of [(0,.int .i64 a),(1,.int .i64 b),(7,.bs 7 1 0 (k.1+1)),(15,.slc (row.map (PV.int .i64))),(16,.int .i64 (row.length:Int)),(17,.int .i64 (k.1:Int))]
   [(7,{els:=tmL a b row k.1,esz:=1,ety:=3,fro:=0,live:=true,arr:=true})]) (fun k=>row.length-k.1) ⟨0,Nat.zero_le _⟩ ?_ ?_
  ·refine Qaj (θ:=[(7,101)]) rfl ?_ ?_
   ·simp [Qae,lkp,ren1,ren0,Qai]
   ·exact⟨⟨rfl,rfl,rfl,rfl,rfl,.inl ⟨rfl,rfl⟩⟩,trivial⟩
  ·rintro⟨k,hk⟩;simp only;by_cases hA:k<row.length
   ·have hA':=lt_T hA;have n0:=nn_T k;have hg:(row.map (PV.int .i64))[k]? =some (.int .i64 row[k]):=by simp [hA]
    have hwk:=wr_1 (n:=k) (by omega);obtain⟨f1,f2⟩:=hrow _ (List.getElem_mem hA);have hm:IntKind.i64.wrap (row[k]*(b-a))=row[k]*(b-a):=by
     have b1: -8388608≤b-a∧b-a≤8388608:=by omega
     have l1:row[k].natAbs*(b-a).natAbs≤100*8388608:=Nat.mul_le_mul (by omega) (by omega);have l2:(row[k]*(b-a)).natAbs=row[k].natAbs*(b-a).natAbs:=Int.natAbs_mul _ _;exact Qag (by omega) (by omega)
    have hlen:=Zqd (a:=a) (b:=b) hk;have hok:=Z3n a b row k;have hsn:=Zse (a:=a) (b:=b) hA;have k1:((k+1+1)*8≤140737488355328)=True:=eq_true (by omega);have k2:(k+1+1≤maxLen)=True:=eq_true (by unfold maxLen;omega);generalize tmL a b row k=T at*;generalize row[k]=f at*;repeat simp -implicitDefEqProofs only [go_sem,seval,hA',n0,hg,hwk,wd,hm,hlen,hok,k1,k2,Int.toNat_natCast]
    refine⟨⟨k+1,hA⟩,by simp only;omega,?_⟩;refine Qaj (θ:=[(7,607)]) rfl ?_ ?_
    ·simp [Qae,lkp,ren1,ren0,Qai]
    ·exact⟨⟨rfl,rfl,rfl,rfl,rfl,.inl ⟨rfl,hsn.symm⟩⟩,trivial⟩
   ·have hA':=lt_F hA;obtain rfl:k=row.length:=by omega
    have hlen:=Zqd (a:=a) (b:=b) hk;have htk:(tmL a b row row.length).take (row.length+1)=tmL a b row row.length:=List.take_of_length_le (by omega);generalize tmL a b row row.length=T at*;repeat simp -implicitDefEqProofs only [go_sem,seval,hA',hlen,htk]
theorem Qra (k:Int):(rowK k).length≤16:=by
 unfold rowK;split
 ·simp
 ·split<;>simp
theorem Qv0 (k:Int): ∀f∈rowK k, -100≤f∧f≤100:=by
 intro f hf;unfold rowK at hf;split at hf
 ·simp at hf;omega
 ·split at hf
  ·simp at hf;omega
  ·simp at hf
def okV (v:V3):Prop:=okC v.x∧okC v.y∧okC v.z
theorem Qyw {v:V3} (h:ptB v=true):okV v:=by
 have:=Qka.1 h;unfold okV okC;omega
set_option maxRecDepth 100000 in
theorem Zzc (a b:V3) (f t k:Int) (hk:k=0∨k=1∨k=2) (ha:okV a) (hb:okV b):Qaf Tryz.prog 152 [v3PV a,v3PV b,.int .i64 f,.int .i64 t,.int .i64 k] (sgV (legS a b f t k)):=by
 have bl:Nat.blt 100 1000000=true:=rfl;have h1:=Qvz a.x b.x (rowK k) (Qra k) (Qv0 k) ha.1 hb.1;have h2:=Qvz a.y b.y (rowK k) (Qra k) (Qv0 k) ha.2.1 hb.2.1;have h3:=Qvz a.z b.z (rowK k) (Qra k) (Qv0 k) ha.2.2 hb.2.2;have h0:=Zza;unfold Zy9 at h0;unfold sgV legS v3PV;simp only;generalize Qdm a.x b.x (rowK k)=L1 at*;generalize Qdm a.y b.y (rowK k)=L2 at*;generalize Qdm a.z b.z (rowK k)=L3 at*;rcases hk with rfl|rfl|rfl
 ·have e:(rowK 0).map (PV.int .i64)=[]:=rfl;rw [e]at h1 h2 h3

  refine Qab (tb:=[(100,[],[(100,100)])]) 36 [.cell 10 121] [0,1,2,3,4,5,6,10,11] mixed Tryz.func152 rfl (by kernel_rfl) ?_;repeat (first|simp -implicitDefEqProofs only [go_sem,seval,T_m1,T_m2,T_m3,bl,Qqx,Ql1]|(with_reducible refine Qa4 h0 ?_ ?_ ?_ ?_);rfl;rfl;rfl|(with_reducible refine Qaa h1 ?_ ?_ ?_);rfl;rfl|(with_reducible refine Qaa h2 ?_ ?_ ?_);rfl;rfl|(with_reducible refine Qaa h3 ?_ ?_ ?_);rfl;rfl|(with_reducible exact Qac _ _ (by kernel_rfl)))
 ·have e:(rowK 1).map (PV.int .i64)=[.int .i64 1]:=rfl;rw [e]at h1 h2 h3

  refine Qab (tb:=[(100,[],[(100,100)])]) 36 [.cell 10 121] [0,1,2,3,4,5,6,10,11] mixed Tryz.func152 rfl (by kernel_rfl) ?_;repeat (first|simp -implicitDefEqProofs only [go_sem,seval,T_m1,T_m2,T_m3,bl,Qqx,Ql1]|(with_reducible refine Qa4 h0 ?_ ?_ ?_ ?_);rfl;rfl;rfl|(with_reducible refine Qaa h1 ?_ ?_ ?_);rfl;rfl|(with_reducible refine Qaa h2 ?_ ?_ ?_);rfl;rfl|(with_reducible refine Qaa h3 ?_ ?_ ?_);rfl;rfl|(with_reducible exact Qac _ _ (by kernel_rfl)))
 ·have e:(rowK 2).map (PV.int .i64)=[.int .i64 0,.int .i64 0,.int .i64 10,.int .i64 (-15),.int .i64 6]:=rfl;rw [e]at h1 h2 h3

  refine Qab (tb:=[(100,[],[(100,100)])]) 36 [.cell 10 121] [0,1,2,3,4,5,6,10,11] mixed Tryz.func152 rfl (by kernel_rfl) ?_;repeat (first|simp -implicitDefEqProofs only [go_sem,seval,T_m1,T_m2,T_m3,bl,Qqx,Ql1]|(with_reducible refine Qa4 h0 ?_ ?_ ?_ ?_);rfl;rfl;rfl|(with_reducible refine Qaa h1 ?_ ?_ ?_);rfl;rfl|(with_reducible refine Qaa h2 ?_ ?_ ?_);rfl;rfl|(with_reducible refine Qaa h3 ?_ ?_ ?_);rfl;rfl|(with_reducible exact Qac _ _ (by kernel_rfl)))
theorem Qyx (a b:V3) (f t:Int):Qaf Tryz.prog 136 [v3PV a,v3PV b,.int .i64 f,.int .i64 t] (.bool (Qo0 a b f t)):=by
 have h1:=Qfx a;have h2:=Qfx b;unfold v3PV at h1 h2 ⊢;unfold Qo0 tmB;cases e1:ptB a with
 |false=>
  rw [e1]at h1;refine Qab (tb:=[]) 28 [.tmp 8] [0,1,2,3,4,5,8] mixed Tryz.func136 rfl (by kernel_rfl) ?_;repeat (first|simp -implicitDefEqProofs only [go_sem,seval,Bool.false_and]|(with_reducible refine Qaa h1 ?_ ?_ ?_);rfl;rfl)
 |true=>
  rw [e1]at h1;cases e2:ptB b with
  |false=>
   rw [e2]at h2;refine Qab (tb:=[]) 28 [.tmp 8] [0,1,2,3,4,5,8] mixed Tryz.func136 rfl (by kernel_rfl) ?_;repeat (first|simp -implicitDefEqProofs only [go_sem,seval,Bool.false_and,Bool.true_and]|(with_reducible refine Qaa h1 ?_ ?_ ?_);rfl;rfl|(with_reducible refine Qaa h2 ?_ ?_ ?_);rfl;rfl)
  |true=>
   rw [e2]at h2;by_cases e3:0≤f
   ·have e3':(0≤f)=True:=eq_true e3;by_cases e4:f<t
    ·have e4':(f<t)=True:=eq_true e4;refine Qab (tb:=[]) 28 [.tmp 8] [0,1,2,3,4,5,8] mixed Tryz.func136 rfl (by kernel_rfl) ?_;repeat (first|simp -implicitDefEqProofs only [go_sem,seval,Bool.true_and,e3',e4',decide_true]|(with_reducible refine Qaa h1 ?_ ?_ ?_);rfl;rfl|(with_reducible refine Qaa h2 ?_ ?_ ?_);rfl;rfl)
    ·have e4':(f<t)=False:=eq_false e4;refine Qab (tb:=[]) 28 [.tmp 8] [0,1,2,3,4,5,8] mixed Tryz.func136 rfl (by kernel_rfl) ?_;repeat (first|simp -implicitDefEqProofs only [go_sem,seval,Bool.false_and,Bool.true_and,e3',e4',decide_true,decide_false]|(with_reducible refine Qaa h1 ?_ ?_ ?_);rfl;rfl|(with_reducible refine Qaa h2 ?_ ?_ ?_);rfl;rfl)
   ·have e3':(0≤f)=False:=eq_false e3;refine Qab (tb:=[]) 28 [.tmp 8] [0,1,2,3,4,5,8] mixed Tryz.func136 rfl (by kernel_rfl) ?_;repeat (first|simp -implicitDefEqProofs only [go_sem,seval,Bool.false_and,Bool.true_and,e3',decide_false]|(with_reducible refine Qaa h1 ?_ ?_ ?_);rfl;rfl|(with_reducible refine Qaa h2 ?_ ?_ ?_);rfl;rfl)
theorem Qnf {a b:V3} {f t:Int} (h:Qo0 a b f t=true):ptB a=true∧ptB b=true∧0≤f∧f<t∧t≤3600000:=by
 unfold Qo0 tmB at h;simp only [Bool.and_eq_true,decide_eq_true_eq]at h;exact h
theorem Zze (a b:V3) (f t k:Int) (hk:k=0∨k=1∨k=2):Qaf Tryz.prog 135 [v3PV a,v3PV b,.int .i64 f,.int .i64 t,.int .i64 k] (.tup [pV (flyL a b f t k),.int .i64 (flyE a b f t)]):=by
 have h1:=Qyx a b f t;unfold flyL flyE;cases e1:Qo0 a b f t with
 |false=>
  rw [e1]at h1;simp only [Bool.false_eq_true,if_false,pV,List.map_nil];unfold v3PV at h1 ⊢;refine Qab (tb:=[]) 25 [.tmp 10,.tmp 11] [0,1,2,3,4,5,6,10,11,17] mixed Tryz.func135 rfl (by kernel_rfl) ?_;repeat (first|simp -implicitDefEqProofs only [go_sem,seval,Bool.not_false]|(with_reducible refine Qaa h1 ?_ ?_ ?_);rfl;rfl)
 |true=>
  rw [e1]at h1;obtain⟨p1,p2, -⟩:=Qnf e1;have h2:=Zzc a b f t k hk (Qyw p1) (Qyw p2);simp only [if_true,pV,List.map_cons,List.map_nil];unfold v3PV at h1 h2 ⊢;unfold sgV at h2 ⊢;refine Qab (tb:=[]) 25 [.tmp 10,.tmp 11] [0,1,2,3,4,5,6,10,11,17] mixed Tryz.func135 rfl (by kernel_rfl) ?_;repeat (first|simp -implicitDefEqProofs only [go_sem,seval,Bool.not_true]|(with_reducible refine Qaa h1 ?_ ?_ ?_);rfl;rfl|(with_reducible refine Qaa h2 ?_ ?_ ?_);rfl;rfl)
theorem Zsf (a b:V3) (f t:Int):Qaf Tryz.prog 115 [v3PV a,v3PV b,.int .i64 f,.int .i64 t] (.tup [pV (flyL a b f t 2),.int .i64 (flyE a b f t)]):=by
 have h1:=Zze a b f t 2 (by simp);unfold v3PV pV at h1 ⊢;refine Qab (tb:=[]) 17 [.tmp 8,.tmp 9] [0,1,2,3,4,5,8,9] mixed Tryz.func115 rfl (by kernel_rfl) ?_;repeat (first|simp -implicitDefEqProofs only [go_sem,seval]|(with_reducible refine Qaa h1 ?_ ?_ ?_);rfl;rfl)
theorem Q6q (a:V3) (f t:Int):Qaf Tryz.prog 114 [v3PV a,.int .i64 f,.int .i64 t] (.tup [pV (flyL a a f t 0),.int .i64 (flyE a a f t)]):=by
 have h1:=Zze a a f t 0 (by simp);unfold v3PV pV at h1 ⊢;refine Qab (tb:=[]) 15 [.tmp 6,.tmp 7] [0,1,2,3,6,7] mixed Tryz.func114 rfl (by kernel_rfl) ?_;repeat (first|simp -implicitDefEqProofs only [go_sem,seval]|(with_reducible refine Qaa h1 ?_ ?_ ?_);rfl;rfl)
def psV (l:List V3):PV:= .slc (l.map v3PV)
def Q6r (P:List V3) (T:List Int) (i:Nat):Sg:=legS (P.getD i v0) (P.getD (i+1) v0) (T.getD i 0) (T.getD (i+1) 0) 2
def Qtj (P:List V3) (T:List Int):List Sg:=(List.range (P.length-1)).map (Q6r P T)
def legO (P:List V3) (T:List Int):List (List PV):=(Qtj P T).map fun s=>[sgV s]
theorem Zzf (P:List V3) (T:List Int):Qaf Tryz.prog 153 [psV P,.slc (T.map (PV.int .i64))] (.fn 170 [] [.rp [psV P],.rp [.slc (T.map (PV.int .i64))]]):=by
 refine Qab (tb:=[]) 6 [.tmp 4] [0,1,2,3,4] mixed Tryz.func153 rfl (by kernel_rfl) ?_;repeat simp -implicitDefEqProofs only [go_sem,seval,psV]
theorem Qtk (l:List V3) (i:Nat) (h:i<l.length):(l.map v3PV)[i]? =some (.agg [.int .i64 (l.getD i v0).x,.int .i64 (l.getD i v0).y,.int .i64 (l.getD i v0).z]):=by
 rw [List.getElem?_map,List.getElem?_eq_getElem h,List.getD_eq_getElem?_getD,List.getElem?_eq_getElem h];rfl
theorem Q6s (l:List Int) (i:Nat) (h:i<l.length):(l.map (PV.int .i64))[i]? =some (.int .i64 (l.getD i 0)):=by
 rw [List.getElem?_map,List.getElem?_eq_getElem h,List.getD_eq_getElem?_getD,List.getElem?_eq_getElem h];rfl
theorem Zf0 (P:List V3) (T:List Int):(legO P T).length=P.length-1:=by simp [legO,Qtj]
theorem Zf1 (P:List V3) (T:List Int) {i:Nat} (h:i<P.length-1):(legO P T)[i]? =some [sgV (Q6r P T i)]:=by
 simp [legO,Qtj,h]
set_option maxRecDepth 100000 in
set_option maxHeartbeats 1000000 in
theorem Zsg (P:List V3) (T:List Int) (hl:P.length≤1000) (hT:T.length=P.length) (hp: ∀i,okV (P.getD i v0)):Qj3 Tryz.prog 170 [.rp [psV P],.rp [.slc (T.map (PV.int .i64))]] (legO P T):=by
 have hlO:=Zf0 P T;have w0:IntKind.i64.wrap 1=1:=Qag (by decide) (by decide);refine Qj6 (tb:=[]) 33 [0,1,2,4,8,32] mixed Tryz.func170 rfl (by kernel_rfl) (by kernel_rfl) (by kernel_rfl) (by kernel_rfl) fun l stop=> ?_;repeat simp -implicitDefEqProofs only [go_sem,seval,psV]
 refine Qau mixed (fun k:{k:Nat // k≤P.length-1∧k≤stop}=>St.ofG [(0,.yld l stop),(1,.rp [psV P]),(2,.rp [.slc (T.map (PV.int .i64))]),(4,.int .i64 ((k.1+1:Nat):Int))] [] ((legO P T).take k.1) (some (l,stop,legO P T))) (fun k=>P.length-k.1) ⟨0,Nat.zero_le _,Nat.zero_le _⟩ ?_ ?_
 ·refine Qax ?_;simp [Qae,lkp,ren1,ren0,Qai,psV]
 ·rintro⟨k,hk,hst⟩;simp only;have hlen:((legO P T).take k).length=k:=by rw [List.length_take];omega
  by_cases hA:k+1<P.length
  ·have hA':=lt_T hA;have n0:=nn_T k;have n1:=nn_T (k+1);have g1:=Qtk P k (by omega);have g2:=Qtk P (k+1) hA;have g3:=Q6s T k (by omega);have g4:=Q6s T (k+1) (by omega);have hwk:=wr_1 (n:=k+1) (by omega);have hwm:IntKind.i64.wrap (((k+1:Nat):Int)-1)=(k:Int):=by rw [Qag (by omega) (by omega)];omega
   have hleg:=Zzc (P.getD k v0) (P.getD (k+1) v0) (T.getD k 0) (T.getD (k+1) 0) 2 (by simp) (hp k) (hp (k+1));have hgt:=Zf1 P T (i:=k) (by omega);have htk:(legO P T).take (k+1)=(legO P T).take k++[[sgV (Q6r P T k)]]:=by
    rw [List.take_add_one,hgt];rfl
   have ee:sgV (legS (P.getD k v0) (P.getD (k+1) v0) (T.getD k 0) (T.getD (k+1) 0) 2)=sgV (Q6r P T k):=rfl;rw [ee]at hleg;generalize Q6r P T k=S at*;generalize legO P T=OO at*;generalize P.getD k v0=va at*;generalize P.getD (k+1) v0=vb at*;generalize T.getD k 0=ta at*;generalize T.getD (k+1) 0=tb at*;unfold v3PV at hleg;unfold sgV at hleg hgt htk;have hst':(k≤stop)=True:=eq_true hst;by_cases hlt:k<stop
   ·have hlt':(k<stop)=True:=eq_true hlt;repeat (first|simp -implicitDefEqProofs only [go_sem,seval,psV,hA',n0,n1,g1,g2,g3,g4,hwk,hwm,hlen,hgt,hst',hlt',Int.toNat_natCast,List.length_map]|(with_reducible refine Qaa hleg ?_ ?_ ?_);rfl;rfl|(with_reducible refine And.intro (Qac _ _ (by kernel_rfl)) ?_))
    refine⟨⟨k+1,by omega,hlt⟩,by simp only;omega,?_⟩;simp only [htk];refine Qax ?_;simp [Qae,lkp,ren1,ren0,Qai,psV]
   ·have hlt':(k<stop)=False:=eq_false hlt;obtain rfl:k=stop:=by omega
    repeat (first|simp -implicitDefEqProofs only [go_sem,seval,psV,hA',n0,n1,g1,g2,g3,g4,hwm,hlen,hgt,hst',hlt',Qe3,htk,Int.toNat_natCast,List.length_map]|(with_reducible refine Qaa hleg ?_ ?_ ?_);rfl;rfl|(with_reducible exact Qac _ _ (by kernel_rfl)))
  ·have hA':=lt_F hA;have e1:((legO P T).take k)=legO P T:=List.take_of_length_le (by omega);have e2:((legO P T).take (stop+1))=legO P T:=List.take_of_length_le (by omega);rw [e1];generalize legO P T=OO at*;repeat simp -implicitDefEqProofs only [go_sem,seval,psV,hA',Qe3,e2,List.length_map]
theorem Qtl (l:List Sg):(((l.map sgV).flatMap PV.cells).all PV.okCell)=true:=by
 rw [List.all_flatMap,List.all_map,List.all_eq_true];intro _ _;rfl
theorem Q6v (l:List Sg):((l.map sgV).all fun e=>e.cells.length==6&&e.cells.all PV.okCell)=true:=by
 rw [List.all_map,List.all_eq_true];intro _ _;rfl
def tuB (S:List Sg):Nat→List (Nat×Box)
 |0=>[(1000000,{els:=[.nilS],esz:=1,ety:=94,fro:=0,live:=true,arr:=false})]
 |k+1=>[(1000000,{els:=[.bs 7 6 0 (k+1)],esz:=1,ety:=94,fro:=0,live:=true,arr:=false}),(7,{els:=(S.take (k+1)).map sgV,esz:=6,ety:=121,fro:=0,live:=true,arr:=true})]
theorem Z3p (S:List Sg) (k:Nat): ∀b∈ [1000000],(lkp (tuB S k) b).isSome=true:=by
 cases k<;>simp [tuB,lkp]
theorem Zsi {S:List Sg} {k:Nat} {x:Sg} (hx:S[k]? =some x):(S.take (k+1)).map sgV=(S.take k).map sgV++[.agg [.int .i64 x.f,.int .i64 x.t,.int .i64 x.o,.slc (x.x.map (PV.int .i64)),.slc (x.y.map (PV.int .i64)),.slc (x.z.map (PV.int .i64))]]:=by
 obtain⟨hk,rfl⟩:=List.getElem?_eq_some_iff.1 hx;rw [Qkh S k hk,List.map_append];rfl
theorem Zsj {S:List Sg} {k:Nat} (h:k≤S.length):((S.take k).map sgV).length=k:=by simp;omega
theorem Zsk:(1≤maxLen)=True:=eq_true (by decide)
def Qtm (T:List Int) (k:Nat):Int:=if k=0 then -1 else T.getD (k-1) 0
theorem T_zs:Qar Tryz.prog 121=some (.agg [.int .i64 0,.int .i64 0,.int .i64 0,.nilS,.nilS,.nilS]):=by kernel_rfl
set_option maxRecDepth 100000 in
set_option maxHeartbeats 2000000 in
theorem Zzh (P:List V3) (T:List Int) (hl2:2≤P.length) (hl:P.length≤257) (hT:T.length=P.length) (hp: ∀i,i<P.length→ptB (P.getD i v0)=true) (ht: ∀i,i<P.length→Qtm T i<T.getD i 0∧T.getD i 0≤3600000):
  Qaf Tryz.prog 137 [psV P,.slc (T.map (PV.int .i64))] (.tup [pV (Qtj P T),.int .i64 0]):=by
 have l1:((P.length:Int)<2)=False:=eq_false (by omega);have l2:((P.length:Int) != (P.length:Int))=false:=by simp
 have l3:((257:Int)<(P.length:Int))=False:=eq_false (by omega);have wm:IntKind.i64.wrap (-1)= -1:=Qag (by decide) (by decide);have hY:=Zsg P T (by omega) hT (fun i=>by
  by_cases h:i<P.length
  ·exact Qyw (hp i h)
  ·rw [List.getD_eq_getElem?_getD,List.getElem?_eq_none (by omega)];exact Qyw rfl)
 have hL:=Zzf P T;unfold psV at hL hY;unfold legO at hY;have hSl:(Qtj P T).length=P.length-1:=by simp [Qtj]
 unfold pV;refine Qab (tb:=[]) 57 [.tmp 4,.tmp 5] [0,1,4,5,6,7,8,9,10,20,21,22,23,24,42,47,50,51] mixed Tryz.func137 rfl (by kernel_rfl) ?_;repeat simp -implicitDefEqProofs only [go_sem,seval,psV,l1,l2,hT,List.length_map]
 refine Qau mixed (fun k:{k:Nat // k≤P.length}=>St.of [(0,.slc (P.map v3PV)),(1,.slc (T.map (PV.int .i64))),(6,.int .i64 (Qtm T k.1)),(21,.slc (T.map (PV.int .i64))),(22,.int .i64 (P.length:Int)),(23,.int .i64 (k.1:Int))] []) (fun k=>P.length-k.1) ⟨0,Nat.zero_le _⟩ ?_ ?_
 ·exact Qax (by simp [Qae,lkp,ren1,ren0,Qai,psV,Qtm])
 ·rintro⟨k,hk⟩;simp only;by_cases hA:k<P.length
  ·have hA':=lt_T hA;have n0:=nn_T k;have g1:=Qtk P k hA;have g2:=Q6s T k (by omega);have hwk:=wr_1 (n:=k) (by omega);have hpk:=Qfx (P.getD k v0);rw [hp k hA]at hpk;obtain⟨t1,t2⟩:=ht k hA;have hnx:Qtm T (k+1)=T.getD k 0:=by simp [Qtm]
   have t1':(T.getD k 0≤Qtm T k)=False:=eq_false (by omega);have t2':(3600000<T.getD k 0)=False:=eq_false (by omega);generalize Qtm T k=L at*;generalize P.getD k v0=va at*;generalize T.getD k 0=ta at*;unfold v3PV at hpk;repeat (first|simp -implicitDefEqProofs only [go_sem,seval,hA',n0,g1,g2,hwk,t1',t2',Int.toNat_natCast,Bool.not_true,decide_false]|(with_reducible refine Qaa hpk ?_ ?_ ?_);rfl;rfl)
   refine⟨⟨k+1,hA⟩,by simp only;omega,?_⟩;simp only [hnx];exact Qax (by simp [Qae,lkp,ren1,ren0,Qai])
  ·have hA':=lt_F hA;obtain rfl:k=P.length:=by omega
   repeat (first|simp -implicitDefEqProofs only [go_sem,seval,hA',l3,List.length_map]|(with_reducible refine Qaa hL ?_ ?_ ?_);rfl;rfl)
   obtain⟨n,hn1⟩: ∃n,P.length-1=n+1:=⟨P.length-2,by omega⟩;generalize Qtj P T=S at*;have hSn:S.length=n+1:=by omega
   have hmin:min (S.map fun s=>[sgV s]).length (n+1+1)=n+1:=by rw [List.length_map];omega
   have htk:S.take (n+1)=S:=List.take_of_length_le (by omega);refine Qoy mixed hY rfl rfl _ rfl [(1000000,1300)] [1000000] rfl [(9,.bp 1000000 1 0 0)] (tuB S) rfl rfl ?_ ?_ ?_ (n+1) .normal (fun h=>by simp [hSn]at h) (fun k _ _=>Z3p S k) ?_ rfl ?_
    [(0,1000000),(7,7)] [(9,.bp 0 1 0 0)] [(0,{els:=[.bs 7 6 0 (n+1)],esz:=1,ety:=94,fro:=0,live:=true,arr:=false}),(7,{els:=S.map sgV,esz:=6,ety:=121,fro:=0,live:=true,arr:=true})] rfl rfl ?_ ?_ (fun _=> ?_) (fun h=>by simp [hSn]at h)
   ·simp [Qae,lkp,ren1,ren0,Qai]
   ·exact⟨⟨rfl,rfl,rfl,rfl,rfl,.inr ⟨rfl,_,_,rfl,rfl,rfl,rfl⟩⟩,trivial⟩
   ·simp [Qae,lkp,ren1,ren0,Qai,Qj4]
   ·intro k args h;simp only [List.getElem?_map,Option.map_eq_some_iff]at h;obtain⟨x, -,rfl⟩:=h;rfl
   ·rintro k args hka hk;simp only [List.getElem?_map,Option.map_eq_some_iff]at hka;obtain⟨x,hx,rfl⟩:=hka;have hkl:k<S.length:=(List.getElem?_eq_some_iff.1 hx).1;have hlx:=Zsi hx;unfold sgV;cases k with
    |zero=>
     simp only [tuB];have e0:(S.take 0).map sgV=[]:=rfl;rw [e0,List.nil_append]at hlx;repeat simp -implicitDefEqProofs only [go_sem,seval,T_zs,pvars,List.toList_toArray]
     refine⟨by simp [lkp],?_⟩;repeat simp -implicitDefEqProofs only [go_sem,seval,Zsk]
     refine⟨by omega,?_⟩;refine Qaj (θ:=[(1000000,1000000),(7,1603)]) rfl ?_ ?_
     ·simp [Qae,lkp,ren1,ren0,Qai]
     ·simp only [tuB,hlx];exact⟨⟨rfl,rfl,rfl,rfl,rfl,.inr ⟨rfl,_,_,rfl,rfl,rfl,rfl⟩⟩,⟨rfl,rfl,rfl,rfl,rfl,.inl ⟨rfl,rfl⟩⟩,trivial⟩
    |succ k=>
     simp only [tuB];have b1:=Zsj (S:=S) (k:=k+1) (by omega);have b2:((((S.take (k+1)).map sgV).flatMap PV.cells).all PV.okCell)=true:=Qtl _;have c1:((k+1+1)*96≤140737488355328)=True:=eq_true (by omega);have c2:(k+1+1≤maxLen)=True:=eq_true (by unfold maxLen;omega);generalize hTT:(S.take (k+1)).map sgV=TT at*;repeat simp -implicitDefEqProofs only [go_sem,seval,T_zs,pvars,List.toList_toArray]
     refine⟨by simp [lkp],?_⟩;repeat simp -implicitDefEqProofs only [go_sem,seval,b1,b2,c1,c2]
     refine⟨by omega,?_⟩;refine Qaj (θ:=[(1000000,1000000),(7,1603)]) rfl ?_ ?_
     ·simp [Qae,lkp,ren1,ren0,Qai]
     ·simp only [tuB,hlx];exact⟨⟨rfl,rfl,rfl,rfl,rfl,.inr ⟨rfl,_,_,rfl,rfl,rfl,rfl⟩⟩,⟨rfl,rfl,rfl,rfl,rfl,.inl ⟨rfl,rfl⟩⟩,trivial⟩
   ·simp [Qae,lkp,ren1,ren0,Qai]
   ·rw [hmin];simp only [tuB];rw [htk];exact⟨⟨rfl,rfl,rfl,rfl,rfl,.inr ⟨rfl,_,_,rfl,rfl,rfl,rfl⟩⟩,⟨rfl,rfl,rfl,rfl,rfl,.inl ⟨rfl,rfl⟩⟩,trivial⟩
   ·have b1:(S.map sgV).length=n+1:=by simp [hSn]
    have b2:(((S.map sgV).flatMap PV.cells).all PV.okCell)=true:=Qtl _;have b3:(S.map sgV).take (n+1)=S.map sgV:=List.take_of_length_le (by omega);generalize S.map sgV=TT at*;repeat simp -implicitDefEqProofs only [go_sem,seval,b1,b3]
theorem Q6w (a b:V3) (r f t:Int):Qtj [a,up a r,up b r,b] [f,f+(t-f)/4,t-(t-f)/4,t]=arc3 a b r f t:=rfl
set_option maxRecDepth 100000 in
theorem Z3q (a b:V3) (r f t:Int) (hg:Qo0 a b f t=true) (h4:(t-f)%4=0) (hr:0≤r∧r≤3600000) (ha:ptB (up a r)=true) (hb:ptB (up b r)=true):
  Qaf Tryz.prog 116 [v3PV a,v3PV b,.int .i64 r,.int .i64 f,.int .i64 t] (.tup [pV (arc3 a b r f t),.int .i64 0]):=by
 obtain⟨p1,p2,g1,g2,g3⟩:=Qnf hg;have h1:=Qyx a b f t;rw [hg]at h1;have h2:=Qfx (up a r);have h3:=Qfx (up b r);rw [ha]at h2;rw [hb]at h3;obtain⟨q,hq⟩: ∃q,(t-f)/4=q:=⟨_,rfl⟩;have hq4:t-f=4*q:=by omega
 have i1:=Qka.1 p1;have i2:=Qka.1 p2;have i3:=Qka.1 ha;have i4:=Qka.1 hb;simp only [up]at i3 i4;have hT:=Zzh [a,up a r,up b r,b] [f,f+q,t-q,t] (by simp) (by simp) rfl (by
  intro i hi;have:i=0∨i=1∨i=2∨i=3:=by simp at hi;omega
  rcases this with rfl|rfl|rfl|rfl
  ·exact p1
  ·exact ha
  ·exact hb
  ·exact p2) (by
  intro i hi;have:i=0∨i=1∨i=2∨i=3:=by simp at hi;omega
  rcases this with rfl|rfl|rfl|rfl<;>simp [Qtm]<;>omega)
 rw [←hq,Q6w]at hT;rw [hq]at hT;have w1:IntKind.i64.wrap (t-f)=t-f:=Qag (by omega) (by omega);have w2:IntKind.i64.wrap ((t-f).tdiv 4)=q:=by
  rw [Int.tdiv_eq_ediv_of_nonneg (by omega),hq];exact Qag (by omega) (by omega)
 have w3:IntKind.i64.wrap (4*q)=t-f:=by rw [←hq4];exact w1
 have w4:IntKind.i64.wrap (a.z+r)=a.z+r:=Qag (by omega) (by omega);have w5:IntKind.i64.wrap (b.z+r)=b.z+r:=Qag (by omega) (by omega);have w6:IntKind.i64.wrap (f+q)=f+q:=Qag (by omega) (by omega);have w7:IntKind.i64.wrap (t-q)=t-q:=Qag (by omega) (by omega);have wn:IntKind.i64.wrap (-2097152)= -2097152:=Qag (by decide) (by decide);have c1:((t-f) != (t-f))=false:=by simp
 have c2:(r< -2097152)=False:=eq_false (by omega);have c3:(2097152<r)=False:=eq_false (by omega);generalize arc3 a b r f t=S at*;unfold pV;unfold psV pV at hT;unfold v3PV up at h2 h3;unfold v3PV at h1 ⊢;simp only [List.map_cons,List.map_nil,v3PV,up]at hT;refine Qab (tb:=[]) 76 [.tmp 10,.tmp 11] [0,1,2,3,4,5,6,10,11,12,13,14,20,38,58] mixed Tryz.func116 rfl (by kernel_rfl) ?_;repeat (first|simp -implicitDefEqProofs only [go_sem,seval,w1,w2,w3,w4,w5,w6,w7,c1,c2,c3,Bool.not_true,decide_false]|(with_reducible refine Qaa h1 ?_ ?_ ?_);rfl;rfl|(with_reducible refine Qaa h2 ?_ ?_ ?_);rfl;rfl|(with_reducible refine Qaa h3 ?_ ?_ ?_);rfl;rfl|(with_reducible refine Qaa hT ?_ ?_ ?_);rfl;rfl|(with_reducible refine And.intro (Qac _ _ (by kernel_rfl)) ?_))
end Go.Proofs.YtdpajapkhembcaaGreatDoor
