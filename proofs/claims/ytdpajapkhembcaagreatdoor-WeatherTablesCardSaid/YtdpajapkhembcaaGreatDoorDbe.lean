/-
  Dbu, Dbv, Dbw, QB2, QB3, QB4, QM4, QB5, QB6, Dbe (merged for the claim).
-/
import Derived.Test.YtdpajapkhembcaaGreatDoorDsn
import Derived.Test.YtdpajapkhembcaaGreatDoorQP4
import Derived.Test.YtdpajapkhembcaaGreatDoorULD
set_option linter.unusedSimpArgs false
set_option linter.unusedVariables false
namespace Go.Dg
def coQ (c:List Int) (o:Int) (i:Nat):Rat:=((c.getD i 0:Int):Rat)/(o:Rat)
def ikQ (i k:Nat):Rat:=(((i:Int)*(k:Int):Int):Rat)/(((i:Int)+(k:Int)-1:Int):Rat)
def sqT (c:List Int) (o:Int) (i k:Nat):Rat:=coQ c o i*coQ c o k*ikQ i k
def sqR (c:List Int) (o:Int) (i k:Nat):Rat:=qs (fun j=>sqT c o i (j+1)) k
def sqS (c:List Int) (o:Int) (i:Nat):Rat:=qs (fun j=>sqR c o (j+1) (c.length-1)) i
def sqQ (c:List Int) (o:Int):Rat:=sqS c o (c.length-1)
def wyS (c:List Int) (o:Int) (n:Nat):Rat:=qs (fun j=>coQ c o (j+1)) n
def wayQ (c:List Int) (o:Int):Rat:=wyS c o (c.length-1)
theorem Q4l:ikQ 1 1=1:=by decide+kernel
theorem Zd8:ikQ 1 2=1:=by decide+kernel
theorem Zpd:ikQ 1 3=1:=by decide+kernel
theorem Zv3:ikQ 1 4=1:=by decide+kernel
theorem Z0q:ikQ 1 5=1:=by decide+kernel
theorem Zd9:ikQ 2 1=1:=by decide+kernel
theorem Zea:ikQ 2 2=(4/3):=by decide+kernel
theorem Zpe:ikQ 2 3=(3/2):=by decide+kernel
theorem Zv4:ikQ 2 4=(8/5):=by decide+kernel
theorem Z0r:ikQ 2 5=(5/3):=by decide+kernel
theorem Zpf:ikQ 3 1=1:=by decide+kernel
theorem Zpg:ikQ 3 2=(3/2):=by decide+kernel
theorem Zph:ikQ 3 3=(9/5):=by decide+kernel
theorem Zv5:ikQ 3 4=2:=by decide+kernel
theorem Z0s:ikQ 3 5=(15/7):=by decide+kernel
theorem Zv6:ikQ 4 1=1:=by decide+kernel
theorem Zv7:ikQ 4 2=(8/5):=by decide+kernel
theorem Zv8:ikQ 4 3=2:=by decide+kernel
theorem Zv9:ikQ 4 4=(16/7):=by decide+kernel
theorem Z0t:ikQ 4 5=(5/2):=by decide+kernel
theorem Z0u:ikQ 5 1=1:=by decide+kernel
theorem Z0v:ikQ 5 2=(5/3):=by decide+kernel
theorem Z0w:ikQ 5 3=(15/7):=by decide+kernel
theorem Z0x:ikQ 5 4=(5/2):=by decide+kernel
theorem Z0y:ikQ 5 5=(25/9):=by decide+kernel
theorem Qii (c:List Int) (o:Int) (i:Nat) (x:Int) (h:c.getD i 0=x):coQ c o i=(x:Rat)/(o:Rat):=by rw [coQ,h]
theorem Qfg {x o:Int} (ho:0<o) (h1: -(125829120*o)≤x) (h2:x≤125829120*o): -2097152≤(x:Rat)/(60*(o:Rat))∧(x:Rat)/(60*(o:Rat))≤2097152:=by
 have o0:(0:Rat)<(o:Rat):=by exact_mod_cast ho
 have h1':=Rat.intCast_le_intCast.2 h1;simp only [Rat.intCast_neg,Rat.intCast_mul,Rat.intCast_ofNat]at h1';have h2':=Rat.intCast_le_intCast.2 h2;simp only [Rat.intCast_mul,Rat.intCast_ofNat]at h2';have e:(x:Rat)/(60*(o:Rat))*(60*(o:Rat))=(x:Rat):=Rat.div_mul_cancel (by grind);have p:(0:Rat)<60*(o:Rat):=by grind
 generalize (x:Rat)/(60*(o:Rat))=q at*;refine⟨Rat.le_of_mul_le_mul_right (c:=60*(o:Rat)) ?_ p,Rat.le_of_mul_le_mul_right (c:=60*(o:Rat)) ?_ p⟩<;>grind
theorem axB1 {a0 a1 o:Int} (ho:0<o) (h: ∀j,j<2→((ctl [a0,a1] j).natAbs:Int)≤62914560*o):
  wayQ [a0,a1] o*wayQ [a0,a1] o≤sqQ [a0,a1] o∧sqQ [a0,a1] o≤1*(2097152*2097152)∧ -2097152≤wayQ [a0,a1] o∧wayQ [a0,a1] o≤2097152:=by
 have o0:(0:Rat)<(o:Rat):=by exact_mod_cast ho
 have c0:ctl [a0,a1] 0=a0*60:=by simp [ctl,sm,cw,bin]
 have g0:=Qbn (h 0 (by decide));rw [c0]at g0;have c1:ctl [a0,a1] 1=a0*60+a1*60:=by simp [ctl,sm,cw,bin]
 have g1:=Qbn (h 1 (by decide));rw [c1]at g1;have x1:coQ [a0,a1] o 1=(a1:Rat)/(o:Rat):=Qii _ _ _ _ rfl;have d0:=Qfg (x:=(a0*60+a1*60)-(a0*60)) ho (by omega) (by omega);have e0:((((a0*60+a1*60)-(a0*60):Int)):Rat)/(60*(o:Rat))=(a1:Rat)/(o:Rat)*1:=by simp only [Rat.intCast_add,Rat.intCast_sub,Rat.intCast_mul,Rat.intCast_ofNat];grind
 have dw:=Qfg (x:=(a0*60+a1*60)-(a0*60)) ho (by omega) (by omega);have ew:((((a0*60+a1*60)-(a0*60):Int)):Rat)/(60*(o:Rat))=(a1:Rat)/(o:Rat):=by simp only [Rat.intCast_add,Rat.intCast_sub,Rat.intCast_mul,Rat.intCast_ofNat];grind
 have hw:wayQ [a0,a1] o=(a1:Rat)/(o:Rat):=by
  show wyS [a0,a1] o 1=_;simp only [wyS,qs,Nat.zero_add,Nat.reduceAdd,x1,Rat.zero_add]
 have hs:sqQ [a0,a1] o=(a1:Rat)/(o:Rat)*((a1:Rat)/(o:Rat))*1:=by
  show qs (fun j=>qs (fun m=>sqT [a0,a1] o (j+1) (m+1)) 1) 1=_;simp only [qs,sqT,Nat.zero_add,Nat.reduceAdd,x1,Q4l,Rat.zero_add]
 rw [e0]at d0;rw [ew]at dw;rw [hw,hs];clear hw hs e0 x1 ew h c0 c1 g0 g1;generalize (a1:Rat)/(o:Rat)=r1 at*;have hu:=Zvy (K:=2097152) (d0:=r1*1) rfl d0;have hl:=Qs7 r1 0 0 0 0;refine⟨by grind,by grind,by grind,by grind⟩
theorem axB2 {a0 a1 a2 o:Int} (ho:0<o) (h: ∀j,j<3→((ctl [a0,a1,a2] j).natAbs:Int)≤62914560*o):
  wayQ [a0,a1,a2] o*wayQ [a0,a1,a2] o≤sqQ [a0,a1,a2] o∧sqQ [a0,a1,a2] o≤4*(2097152*2097152)∧ -2097152≤wayQ [a0,a1,a2] o∧wayQ [a0,a1,a2] o≤2097152:=by
 have o0:(0:Rat)<(o:Rat):=by exact_mod_cast ho
 have c0:ctl [a0,a1,a2] 0=a0*60:=by simp [ctl,sm,cw,bin]
 have g0:=Qbn (h 0 (by decide));rw [c0]at g0;have c1:ctl [a0,a1,a2] 1=a0*60+a1*30:=by simp [ctl,sm,cw,bin]
 have g1:=Qbn (h 1 (by decide));rw [c1]at g1;have c2:ctl [a0,a1,a2] 2=a0*60+a1*60+a2*60:=by simp [ctl,sm,cw,bin]
 have g2:=Qbn (h 2 (by decide));rw [c2]at g2;have x1:coQ [a0,a1,a2] o 1=(a1:Rat)/(o:Rat):=Qii _ _ _ _ rfl;have x2:coQ [a0,a1,a2] o 2=(a2:Rat)/(o:Rat):=Qii _ _ _ _ rfl;have d0:=Qfg (x:=(a0*60+a1*30)-(a0*60)) ho (by omega) (by omega);have e0:((((a0*60+a1*30)-(a0*60):Int)):Rat)/(60*(o:Rat))=(a1:Rat)/(o:Rat)*(1/2):=by simp only [Rat.intCast_add,Rat.intCast_sub,Rat.intCast_mul,Rat.intCast_ofNat];grind
 have d1:=Qfg (x:=(a0*60+a1*60+a2*60)-(a0*60+a1*30)) ho (by omega) (by omega);have e1:((((a0*60+a1*60+a2*60)-(a0*60+a1*30):Int)):Rat)/(60*(o:Rat))=(a1:Rat)/(o:Rat)*(1/2)+(a2:Rat)/(o:Rat)*1:=by simp only [Rat.intCast_add,Rat.intCast_sub,Rat.intCast_mul,Rat.intCast_ofNat];grind
 have dw:=Qfg (x:=(a0*60+a1*60+a2*60)-(a0*60)) ho (by omega) (by omega);have ew:((((a0*60+a1*60+a2*60)-(a0*60):Int)):Rat)/(60*(o:Rat))=(a1:Rat)/(o:Rat)+(a2:Rat)/(o:Rat):=by simp only [Rat.intCast_add,Rat.intCast_sub,Rat.intCast_mul,Rat.intCast_ofNat];grind
 have hw:wayQ [a0,a1,a2] o=(a1:Rat)/(o:Rat)+(a2:Rat)/(o:Rat):=by
  show wyS [a0,a1,a2] o 2=_;simp only [wyS,qs,Nat.zero_add,Nat.reduceAdd,x1,x2,Rat.zero_add]
 have hs:sqQ [a0,a1,a2] o=(a1:Rat)/(o:Rat)*((a1:Rat)/(o:Rat))*1+(a1:Rat)/(o:Rat)*((a2:Rat)/(o:Rat))*1+(a2:Rat)/(o:Rat)*((a1:Rat)/(o:Rat))*1+(a2:Rat)/(o:Rat)*((a2:Rat)/(o:Rat))*(4/3):=by
  show qs (fun j=>qs (fun m=>sqT [a0,a1,a2] o (j+1) (m+1)) 2) 2=_;simp only [qs,sqT,Nat.zero_add,Nat.reduceAdd,x1,x2,Q4l,Zd8,Zd9,Zea,Rat.zero_add]
  grind
 rw [e0]at d0;rw [e1]at d1;rw [ew]at dw;rw [hw,hs];clear hw hs e0 e1 x1 x2 ew h c0 c1 c2 g0 g1 g2;generalize (a1:Rat)/(o:Rat)=r1 at*;generalize (a2:Rat)/(o:Rat)=r2 at*;have hu:=Zvz (K:=2097152) (d0:=r1*(1/2)) (d1:=r1*(1/2)+r2*1) rfl rfl d0 d1;have hl:=Qs7 r1 r2 0 0 0;refine⟨by grind,by grind,by grind,by grind⟩
theorem axB3 {a0 a1 a2 a3 o:Int} (ho:0<o) (h: ∀j,j<4→((ctl [a0,a1,a2,a3] j).natAbs:Int)≤62914560*o):
  wayQ [a0,a1,a2,a3] o*wayQ [a0,a1,a2,a3] o≤sqQ [a0,a1,a2,a3] o∧sqQ [a0,a1,a2,a3] o≤9*(2097152*2097152)∧ -2097152≤wayQ [a0,a1,a2,a3] o∧wayQ [a0,a1,a2,a3] o≤2097152:=by
 have o0:(0:Rat)<(o:Rat):=by exact_mod_cast ho
 have c0:ctl [a0,a1,a2,a3] 0=a0*60:=by simp [ctl,sm,cw,bin]
 have g0:=Qbn (h 0 (by decide));rw [c0]at g0;have c1:ctl [a0,a1,a2,a3] 1=a0*60+a1*20:=by simp [ctl,sm,cw,bin]
 have g1:=Qbn (h 1 (by decide));rw [c1]at g1;have c2:ctl [a0,a1,a2,a3] 2=a0*60+a1*40+a2*20:=by simp [ctl,sm,cw,bin]
 have g2:=Qbn (h 2 (by decide));rw [c2]at g2;have c3:ctl [a0,a1,a2,a3] 3=a0*60+a1*60+a2*60+a3*60:=by simp [ctl,sm,cw,bin]
 have g3:=Qbn (h 3 (by decide));rw [c3]at g3;have x1:coQ [a0,a1,a2,a3] o 1=(a1:Rat)/(o:Rat):=Qii _ _ _ _ rfl;have x2:coQ [a0,a1,a2,a3] o 2=(a2:Rat)/(o:Rat):=Qii _ _ _ _ rfl;have x3:coQ [a0,a1,a2,a3] o 3=(a3:Rat)/(o:Rat):=Qii _ _ _ _ rfl;have d0:=Qfg (x:=(a0*60+a1*20)-(a0*60)) ho (by omega) (by omega);have e0:((((a0*60+a1*20)-(a0*60):Int)):Rat)/(60*(o:Rat))=(a1:Rat)/(o:Rat)*(1/3):=by simp only [Rat.intCast_add,Rat.intCast_sub,Rat.intCast_mul,Rat.intCast_ofNat];grind
 have d1:=Qfg (x:=(a0*60+a1*40+a2*20)-(a0*60+a1*20)) ho (by omega) (by omega);have e1:((((a0*60+a1*40+a2*20)-(a0*60+a1*20):Int)):Rat)/(60*(o:Rat))=(a1:Rat)/(o:Rat)*(1/3)+(a2:Rat)/(o:Rat)*(1/3):=by simp only [Rat.intCast_add,Rat.intCast_sub,Rat.intCast_mul,Rat.intCast_ofNat];grind
 have d2:=Qfg (x:=(a0*60+a1*60+a2*60+a3*60)-(a0*60+a1*40+a2*20)) ho (by omega) (by omega);have e2:((((a0*60+a1*60+a2*60+a3*60)-(a0*60+a1*40+a2*20):Int)):Rat)/(60*(o:Rat))=(a1:Rat)/(o:Rat)*(1/3)+(a2:Rat)/(o:Rat)*(2/3)+(a3:Rat)/(o:Rat)*1:=by simp only [Rat.intCast_add,Rat.intCast_sub,Rat.intCast_mul,Rat.intCast_ofNat];grind
 have dw:=Qfg (x:=(a0*60+a1*60+a2*60+a3*60)-(a0*60)) ho (by omega) (by omega);have ew:((((a0*60+a1*60+a2*60+a3*60)-(a0*60):Int)):Rat)/(60*(o:Rat))=(a1:Rat)/(o:Rat)+(a2:Rat)/(o:Rat)+(a3:Rat)/(o:Rat):=by simp only [Rat.intCast_add,Rat.intCast_sub,Rat.intCast_mul,Rat.intCast_ofNat];grind
 have hw:wayQ [a0,a1,a2,a3] o=(a1:Rat)/(o:Rat)+(a2:Rat)/(o:Rat)+(a3:Rat)/(o:Rat):=by
  show wyS [a0,a1,a2,a3] o 3=_;simp only [wyS,qs,Nat.zero_add,Nat.reduceAdd,x1,x2,x3,Rat.zero_add]
 have hs:sqQ [a0,a1,a2,a3] o=(a1:Rat)/(o:Rat)*((a1:Rat)/(o:Rat))*1+(a1:Rat)/(o:Rat)*((a2:Rat)/(o:Rat))*1+(a1:Rat)/(o:Rat)*((a3:Rat)/(o:Rat))*1+(a2:Rat)/(o:Rat)*((a1:Rat)/(o:Rat))*1+(a2:Rat)/(o:Rat)*((a2:Rat)/(o:Rat))*(4/3)+(a2:Rat)/(o:Rat)*((a3:Rat)/(o:Rat))*(3/2)+(a3:Rat)/(o:Rat)*((a1:Rat)/(o:Rat))*1+(a3:Rat)/(o:Rat)*((a2:Rat)/(o:Rat))*(3/2)+(a3:Rat)/(o:Rat)*((a3:Rat)/(o:Rat))*(9/5):=by
  show qs (fun j=>qs (fun m=>sqT [a0,a1,a2,a3] o (j+1) (m+1)) 3) 3=_;simp only [qs,sqT,Nat.zero_add,Nat.reduceAdd,x1,x2,x3,Q4l,Zd8,Zpd,Zd9,Zea,Zpe,Zpf,Zpg,Zph,Rat.zero_add]
  grind
 rw [e0]at d0;rw [e1]at d1;rw [e2]at d2;rw [ew]at dw;rw [hw,hs];clear hw hs e0 e1 e2 x1 x2 x3 ew h c0 c1 c2 c3 g0 g1 g2 g3;generalize (a1:Rat)/(o:Rat)=r1 at*;generalize (a2:Rat)/(o:Rat)=r2 at*;generalize (a3:Rat)/(o:Rat)=r3 at*;have hu:=Zv0 (K:=2097152) (d0:=r1*(1/3)) (d1:=r1*(1/3)+r2*(1/3)) (d2:=r1*(1/3)+r2*(2/3)+r3*1) rfl rfl rfl d0 d1 d2;have hl:=Qs7 r1 r2 r3 0 0;refine⟨by grind,by grind,by grind,by grind⟩
theorem axB4 {a0 a1 a2 a3 a4 o:Int} (ho:0<o) (h: ∀j,j<5→((ctl [a0,a1,a2,a3,a4] j).natAbs:Int)≤62914560*o):
  wayQ [a0,a1,a2,a3,a4] o*wayQ [a0,a1,a2,a3,a4] o≤sqQ [a0,a1,a2,a3,a4] o∧sqQ [a0,a1,a2,a3,a4] o≤16*(2097152*2097152)∧ -2097152≤wayQ [a0,a1,a2,a3,a4] o∧wayQ [a0,a1,a2,a3,a4] o≤2097152:=by
 have o0:(0:Rat)<(o:Rat):=by exact_mod_cast ho
 have c0:ctl [a0,a1,a2,a3,a4] 0=a0*60:=by simp [ctl,sm,cw,bin]
 have g0:=Qbn (h 0 (by decide));rw [c0]at g0;have c1:ctl [a0,a1,a2,a3,a4] 1=a0*60+a1*15:=by simp [ctl,sm,cw,bin]
 have g1:=Qbn (h 1 (by decide));rw [c1]at g1;have c2:ctl [a0,a1,a2,a3,a4] 2=a0*60+a1*30+a2*10:=by simp [ctl,sm,cw,bin]
 have g2:=Qbn (h 2 (by decide));rw [c2]at g2;have c3:ctl [a0,a1,a2,a3,a4] 3=a0*60+a1*45+a2*30+a3*15:=by simp [ctl,sm,cw,bin]
 have g3:=Qbn (h 3 (by decide));rw [c3]at g3;have c4:ctl [a0,a1,a2,a3,a4] 4=a0*60+a1*60+a2*60+a3*60+a4*60:=by simp [ctl,sm,cw,bin]
 have g4:=Qbn (h 4 (by decide));rw [c4]at g4;have x1:coQ [a0,a1,a2,a3,a4] o 1=(a1:Rat)/(o:Rat):=Qii _ _ _ _ rfl;have x2:coQ [a0,a1,a2,a3,a4] o 2=(a2:Rat)/(o:Rat):=Qii _ _ _ _ rfl;have x3:coQ [a0,a1,a2,a3,a4] o 3=(a3:Rat)/(o:Rat):=Qii _ _ _ _ rfl;have x4:coQ [a0,a1,a2,a3,a4] o 4=(a4:Rat)/(o:Rat):=Qii _ _ _ _ rfl;have d0:=Qfg (x:=(a0*60+a1*15)-(a0*60)) ho (by omega) (by omega);have e0:((((a0*60+a1*15)-(a0*60):Int)):Rat)/(60*(o:Rat))=(a1:Rat)/(o:Rat)*(1/4):=by simp only [Rat.intCast_add,Rat.intCast_sub,Rat.intCast_mul,Rat.intCast_ofNat];grind
 have d1:=Qfg (x:=(a0*60+a1*30+a2*10)-(a0*60+a1*15)) ho (by omega) (by omega);have e1:((((a0*60+a1*30+a2*10)-(a0*60+a1*15):Int)):Rat)/(60*(o:Rat))=(a1:Rat)/(o:Rat)*(1/4)+(a2:Rat)/(o:Rat)*(1/6):=by simp only [Rat.intCast_add,Rat.intCast_sub,Rat.intCast_mul,Rat.intCast_ofNat];grind
 have d2:=Qfg (x:=(a0*60+a1*45+a2*30+a3*15)-(a0*60+a1*30+a2*10)) ho (by omega) (by omega);have e2:((((a0*60+a1*45+a2*30+a3*15)-(a0*60+a1*30+a2*10):Int)):Rat)/(60*(o:Rat))=(a1:Rat)/(o:Rat)*(1/4)+(a2:Rat)/(o:Rat)*(1/3)+(a3:Rat)/(o:Rat)*(1/4):=by simp only [Rat.intCast_add,Rat.intCast_sub,Rat.intCast_mul,Rat.intCast_ofNat];grind
 have d3:=Qfg (x:=(a0*60+a1*60+a2*60+a3*60+a4*60)-(a0*60+a1*45+a2*30+a3*15)) ho (by omega) (by omega);have e3:((((a0*60+a1*60+a2*60+a3*60+a4*60)-(a0*60+a1*45+a2*30+a3*15):Int)):Rat)/(60*(o:Rat))=(a1:Rat)/(o:Rat)*(1/4)+(a2:Rat)/(o:Rat)*(1/2)+(a3:Rat)/(o:Rat)*(3/4)+(a4:Rat)/(o:Rat)*1:=by simp only [Rat.intCast_add,Rat.intCast_sub,Rat.intCast_mul,Rat.intCast_ofNat];grind
 have dw:=Qfg (x:=(a0*60+a1*60+a2*60+a3*60+a4*60)-(a0*60)) ho (by omega) (by omega);have ew:((((a0*60+a1*60+a2*60+a3*60+a4*60)-(a0*60):Int)):Rat)/(60*(o:Rat))=(a1:Rat)/(o:Rat)+(a2:Rat)/(o:Rat)+(a3:Rat)/(o:Rat)+(a4:Rat)/(o:Rat):=by simp only [Rat.intCast_add,Rat.intCast_sub,Rat.intCast_mul,Rat.intCast_ofNat];grind
 have hw:wayQ [a0,a1,a2,a3,a4] o=(a1:Rat)/(o:Rat)+(a2:Rat)/(o:Rat)+(a3:Rat)/(o:Rat)+(a4:Rat)/(o:Rat):=by
  show wyS [a0,a1,a2,a3,a4] o 4=_;simp only [wyS,qs,Nat.zero_add,Nat.reduceAdd,x1,x2,x3,x4,Rat.zero_add]
 have hs:sqQ [a0,a1,a2,a3,a4] o=(a1:Rat)/(o:Rat)*((a1:Rat)/(o:Rat))*1+(a1:Rat)/(o:Rat)*((a2:Rat)/(o:Rat))*1+(a1:Rat)/(o:Rat)*((a3:Rat)/(o:Rat))*1+(a1:Rat)/(o:Rat)*((a4:Rat)/(o:Rat))*1+(a2:Rat)/(o:Rat)*((a1:Rat)/(o:Rat))*1+(a2:Rat)/(o:Rat)*((a2:Rat)/(o:Rat))*(4/3)+(a2:Rat)/(o:Rat)*((a3:Rat)/(o:Rat))*(3/2)+(a2:Rat)/(o:Rat)*((a4:Rat)/(o:Rat))*(8/5)+(a3:Rat)/(o:Rat)*((a1:Rat)/(o:Rat))*1+(a3:Rat)/(o:Rat)*((a2:Rat)/(o:Rat))*(3/2)+(a3:Rat)/(o:Rat)*((a3:Rat)/(o:Rat))*(9/5)+(a3:Rat)/(o:Rat)*((a4:Rat)/(o:Rat))*2+(a4:Rat)/(o:Rat)*((a1:Rat)/(o:Rat))*1+(a4:Rat)/(o:Rat)*((a2:Rat)/(o:Rat))*(8/5)+(a4:Rat)/(o:Rat)*((a3:Rat)/(o:Rat))*2+(a4:Rat)/(o:Rat)*((a4:Rat)/(o:Rat))*(16/7):=by
  show qs (fun j=>qs (fun m=>sqT [a0,a1,a2,a3,a4] o (j+1) (m+1)) 4) 4=_;simp only [qs,sqT,Nat.zero_add,Nat.reduceAdd,x1,x2,x3,x4,Q4l,Zd8,Zpd,Zv3,Zd9,Zea,Zpe,Zv4,Zpf,Zpg,Zph,Zv5,Zv6,Zv7,Zv8,Zv9,Rat.zero_add]
  grind
 rw [e0]at d0;rw [e1]at d1;rw [e2]at d2;rw [e3]at d3;rw [ew]at dw;rw [hw,hs];clear hw hs e0 e1 e2 e3 x1 x2 x3 x4 ew h c0 c1 c2 c3 c4 g0 g1 g2 g3 g4;generalize (a1:Rat)/(o:Rat)=r1 at*;generalize (a2:Rat)/(o:Rat)=r2 at*;generalize (a3:Rat)/(o:Rat)=r3 at*;generalize (a4:Rat)/(o:Rat)=r4 at*;have hu:=Zv1 (K:=2097152) (d0:=r1*(1/4)) (d1:=r1*(1/4)+r2*(1/6)) (d2:=r1*(1/4)+r2*(1/3)+r3*(1/4)) (d3:=r1*(1/4)+r2*(1/2)+r3*(3/4)+r4*1) rfl rfl rfl rfl d0 d1 d2 d3;have hl:=Qs7 r1 r2 r3 r4 0;refine⟨by grind,by grind,by grind,by grind⟩
theorem axB5 {a0 a1 a2 a3 a4 a5 o:Int} (ho:0<o) (h: ∀j,j<6→((ctl [a0,a1,a2,a3,a4,a5] j).natAbs:Int)≤62914560*o):
  wayQ [a0,a1,a2,a3,a4,a5] o*wayQ [a0,a1,a2,a3,a4,a5] o≤sqQ [a0,a1,a2,a3,a4,a5] o∧sqQ [a0,a1,a2,a3,a4,a5] o≤25*(2097152*2097152)∧ -2097152≤wayQ [a0,a1,a2,a3,a4,a5] o∧wayQ [a0,a1,a2,a3,a4,a5] o≤2097152:=by
 have o0:(0:Rat)<(o:Rat):=by exact_mod_cast ho
 have c0:ctl [a0,a1,a2,a3,a4,a5] 0=a0*60:=by simp [ctl,sm,cw,bin]
 have g0:=Qbn (h 0 (by decide));rw [c0]at g0;have c1:ctl [a0,a1,a2,a3,a4,a5] 1=a0*60+a1*12:=by simp [ctl,sm,cw,bin]
 have g1:=Qbn (h 1 (by decide));rw [c1]at g1;have c2:ctl [a0,a1,a2,a3,a4,a5] 2=a0*60+a1*24+a2*6:=by simp [ctl,sm,cw,bin]
 have g2:=Qbn (h 2 (by decide));rw [c2]at g2;have c3:ctl [a0,a1,a2,a3,a4,a5] 3=a0*60+a1*36+a2*18+a3*6:=by simp [ctl,sm,cw,bin]
 have g3:=Qbn (h 3 (by decide));rw [c3]at g3;have c4:ctl [a0,a1,a2,a3,a4,a5] 4=a0*60+a1*48+a2*36+a3*24+a4*12:=by simp [ctl,sm,cw,bin]
 have g4:=Qbn (h 4 (by decide));rw [c4]at g4;have c5:ctl [a0,a1,a2,a3,a4,a5] 5=a0*60+a1*60+a2*60+a3*60+a4*60+a5*60:=by simp [ctl,sm,cw,bin]
 have g5:=Qbn (h 5 (by decide));rw [c5]at g5;have x1:coQ [a0,a1,a2,a3,a4,a5] o 1=(a1:Rat)/(o:Rat):=Qii _ _ _ _ rfl;have x2:coQ [a0,a1,a2,a3,a4,a5] o 2=(a2:Rat)/(o:Rat):=Qii _ _ _ _ rfl;have x3:coQ [a0,a1,a2,a3,a4,a5] o 3=(a3:Rat)/(o:Rat):=Qii _ _ _ _ rfl;have x4:coQ [a0,a1,a2,a3,a4,a5] o 4=(a4:Rat)/(o:Rat):=Qii _ _ _ _ rfl;have x5:coQ [a0,a1,a2,a3,a4,a5] o 5=(a5:Rat)/(o:Rat):=Qii _ _ _ _ rfl;have d0:=Qfg (x:=(a0*60+a1*12)-(a0*60)) ho (by omega) (by omega);have e0:((((a0*60+a1*12)-(a0*60):Int)):Rat)/(60*(o:Rat))=(a1:Rat)/(o:Rat)*(1/5):=by simp only [Rat.intCast_add,Rat.intCast_sub,Rat.intCast_mul,Rat.intCast_ofNat];grind
 have d1:=Qfg (x:=(a0*60+a1*24+a2*6)-(a0*60+a1*12)) ho (by omega) (by omega);have e1:((((a0*60+a1*24+a2*6)-(a0*60+a1*12):Int)):Rat)/(60*(o:Rat))=(a1:Rat)/(o:Rat)*(1/5)+(a2:Rat)/(o:Rat)*(1/10):=by simp only [Rat.intCast_add,Rat.intCast_sub,Rat.intCast_mul,Rat.intCast_ofNat];grind
 have d2:=Qfg (x:=(a0*60+a1*36+a2*18+a3*6)-(a0*60+a1*24+a2*6)) ho (by omega) (by omega);have e2:((((a0*60+a1*36+a2*18+a3*6)-(a0*60+a1*24+a2*6):Int)):Rat)/(60*(o:Rat))=(a1:Rat)/(o:Rat)*(1/5)+(a2:Rat)/(o:Rat)*(1/5)+(a3:Rat)/(o:Rat)*(1/10):=by simp only [Rat.intCast_add,Rat.intCast_sub,Rat.intCast_mul,Rat.intCast_ofNat];grind
 have d3:=Qfg (x:=(a0*60+a1*48+a2*36+a3*24+a4*12)-(a0*60+a1*36+a2*18+a3*6)) ho (by omega) (by omega);have e3:((((a0*60+a1*48+a2*36+a3*24+a4*12)-(a0*60+a1*36+a2*18+a3*6):Int)):Rat)/(60*(o:Rat))=(a1:Rat)/(o:Rat)*(1/5)+(a2:Rat)/(o:Rat)*(3/10)+(a3:Rat)/(o:Rat)*(3/10)+(a4:Rat)/(o:Rat)*(1/5):=by simp only [Rat.intCast_add,Rat.intCast_sub,Rat.intCast_mul,Rat.intCast_ofNat];grind
 have d4:=Qfg (x:=(a0*60+a1*60+a2*60+a3*60+a4*60+a5*60)-(a0*60+a1*48+a2*36+a3*24+a4*12)) ho (by omega) (by omega);have e4:((((a0*60+a1*60+a2*60+a3*60+a4*60+a5*60)-(a0*60+a1*48+a2*36+a3*24+a4*12):Int)):Rat)/(60*(o:Rat))=(a1:Rat)/(o:Rat)*(1/5)+(a2:Rat)/(o:Rat)*(2/5)+(a3:Rat)/(o:Rat)*(3/5)+(a4:Rat)/(o:Rat)*(4/5)+(a5:Rat)/(o:Rat)*1:=by simp only [Rat.intCast_add,Rat.intCast_sub,Rat.intCast_mul,Rat.intCast_ofNat];grind
 have dw:=Qfg (x:=(a0*60+a1*60+a2*60+a3*60+a4*60+a5*60)-(a0*60)) ho (by omega) (by omega);have ew:((((a0*60+a1*60+a2*60+a3*60+a4*60+a5*60)-(a0*60):Int)):Rat)/(60*(o:Rat))=(a1:Rat)/(o:Rat)+(a2:Rat)/(o:Rat)+(a3:Rat)/(o:Rat)+(a4:Rat)/(o:Rat)+(a5:Rat)/(o:Rat):=by simp only [Rat.intCast_add,Rat.intCast_sub,Rat.intCast_mul,Rat.intCast_ofNat];grind
 have hw:wayQ [a0,a1,a2,a3,a4,a5] o=(a1:Rat)/(o:Rat)+(a2:Rat)/(o:Rat)+(a3:Rat)/(o:Rat)+(a4:Rat)/(o:Rat)+(a5:Rat)/(o:Rat):=by
  show wyS [a0,a1,a2,a3,a4,a5] o 5=_;simp only [wyS,qs,Nat.zero_add,Nat.reduceAdd,x1,x2,x3,x4,x5,Rat.zero_add]
 have hs:sqQ [a0,a1,a2,a3,a4,a5] o=(a1:Rat)/(o:Rat)*((a1:Rat)/(o:Rat))*1+(a1:Rat)/(o:Rat)*((a2:Rat)/(o:Rat))*1+(a1:Rat)/(o:Rat)*((a3:Rat)/(o:Rat))*1+(a1:Rat)/(o:Rat)*((a4:Rat)/(o:Rat))*1+(a1:Rat)/(o:Rat)*((a5:Rat)/(o:Rat))*1+(a2:Rat)/(o:Rat)*((a1:Rat)/(o:Rat))*1+(a2:Rat)/(o:Rat)*((a2:Rat)/(o:Rat))*(4/3)+(a2:Rat)/(o:Rat)*((a3:Rat)/(o:Rat))*(3/2)+(a2:Rat)/(o:Rat)*((a4:Rat)/(o:Rat))*(8/5)+(a2:Rat)/(o:Rat)*((a5:Rat)/(o:Rat))*(5/3)+(a3:Rat)/(o:Rat)*((a1:Rat)/(o:Rat))*1+(a3:Rat)/(o:Rat)*((a2:Rat)/(o:Rat))*(3/2)+(a3:Rat)/(o:Rat)*((a3:Rat)/(o:Rat))*(9/5)+(a3:Rat)/(o:Rat)*((a4:Rat)/(o:Rat))*2+(a3:Rat)/(o:Rat)*((a5:Rat)/(o:Rat))*(15/7)+(a4:Rat)/(o:Rat)*((a1:Rat)/(o:Rat))*1+(a4:Rat)/(o:Rat)*((a2:Rat)/(o:Rat))*(8/5)+(a4:Rat)/(o:Rat)*((a3:Rat)/(o:Rat))*2+(a4:Rat)/(o:Rat)*((a4:Rat)/(o:Rat))*(16/7)+(a4:Rat)/(o:Rat)*((a5:Rat)/(o:Rat))*(5/2)+(a5:Rat)/(o:Rat)*((a1:Rat)/(o:Rat))*1+(a5:Rat)/(o:Rat)*((a2:Rat)/(o:Rat))*(5/3)+(a5:Rat)/(o:Rat)*((a3:Rat)/(o:Rat))*(15/7)+(a5:Rat)/(o:Rat)*((a4:Rat)/(o:Rat))*(5/2)+(a5:Rat)/(o:Rat)*((a5:Rat)/(o:Rat))*(25/9):=by
  show qs (fun j=>qs (fun m=>sqT [a0,a1,a2,a3,a4,a5] o (j+1) (m+1)) 5) 5=_;simp only [qs,sqT,Nat.zero_add,Nat.reduceAdd,x1,x2,x3,x4,x5,Q4l,Zd8,Zpd,Zv3,Z0q,Zd9,Zea,Zpe,Zv4,Z0r,Zpf,Zpg,Zph,Zv5,Z0s,Zv6,Zv7,Zv8,Zv9,Z0t,Z0u,Z0v,Z0w,Z0x,Z0y,Rat.zero_add]
  grind
 rw [e0]at d0;rw [e1]at d1;rw [e2]at d2;rw [e3]at d3;rw [e4]at d4;rw [ew]at dw;rw [hw,hs];clear hw hs e0 e1 e2 e3 e4 x1 x2 x3 x4 x5 ew h c0 c1 c2 c3 c4 c5 g0 g1 g2 g3 g4 g5;generalize (a1:Rat)/(o:Rat)=r1 at*;generalize (a2:Rat)/(o:Rat)=r2 at*;generalize (a3:Rat)/(o:Rat)=r3 at*;generalize (a4:Rat)/(o:Rat)=r4 at*;generalize (a5:Rat)/(o:Rat)=r5 at*;have hu:=Zv2 (K:=2097152) (d0:=r1*(1/5)) (d1:=r1*(1/5)+r2*(1/10)) (d2:=r1*(1/5)+r2*(1/5)+r3*(1/10)) (d3:=r1*(1/5)+r2*(3/10)+r3*(3/10)+r4*(1/5)) (d4:=r1*(1/5)+r2*(2/5)+r3*(3/5)+r4*(4/5)+r5*1) rfl rfl rfl rfl rfl d0 d1 d2 d3 d4;have hl:=Qs7 r1 r2 r3 r4 r5;refine⟨by grind,by grind,by grind,by grind⟩
theorem axB0 {a0 o:Int}:wayQ [a0] o=0∧sqQ [a0] o=0:=⟨rfl,rfl⟩
theorem Q4m {c:List Int} {o:Int} (ho:0<o) (h:axOK c o=true):wayQ c o*wayQ c o≤sqQ c o∧sqQ c o≤25*(2097152*2097152)∧ -2097152≤wayQ c o∧wayQ c o≤2097152:=by
 simp only [axOK,Qmy,Bool.and_eq_true,decide_eq_true_eq]at h;obtain⟨⟨h1,h2, -⟩,hb⟩:=h;have hc:=fun j hj=>Q5x hb j hj
 match c,h1,h2,hc with
 | [a0],_,_,_=>rw [axB0.1,axB0.2];refine⟨by grind,by grind,by grind,by grind⟩
 | [a0,a1],_,_,hc=>obtain⟨a,b,c,d⟩:=axB1 ho hc;exact⟨a,by grind,c,d⟩
 | [a0,a1,a2],_,_,hc=>obtain⟨a,b,c,d⟩:=axB2 ho hc;exact⟨a,by grind,c,d⟩
 | [a0,a1,a2,a3],_,_,hc=>obtain⟨a,b,c,d⟩:=axB3 ho hc;exact⟨a,by grind,c,d⟩
 | [a0,a1,a2,a3,a4],_,_,hc=>obtain⟨a,b,c,d⟩:=axB4 ho hc;exact⟨a,by grind,c,d⟩
 | [a0,a1,a2,a3,a4,a5],_,_,hc=>obtain⟨a,b,c,d⟩:=axB5 ho hc;exact⟨a,by grind,c,d⟩
structure Bat where
 base:Int
 climb:Int
 drag:Int
 cap:Int
 res:Int
def Q4n (n:Int):Bool:=decide (0≤n)&&decide (n≤1000000)
def Qa5 (B:Bat):Bool:=Q4n B.base&&(Q4n B.climb&&(Q4n B.drag&&(decide (0≤B.res)&&(decide (B.res≤B.cap)&&decide (B.cap≤1125899906842624)))))
def fr (n d:Int):Rat:=(n:Rat)/(d:Rat)
def axQ (q:Rat) (c:List Int) (o t b:Int):Rat:=q+sqQ c o*fr 1000 t+wayQ c o*fr (-2*b) 1+fr (b*b) 1*fr t 1000
def drQ (s:Sg) (x y z:Int):Rat:=axQ (axQ (axQ (fr 0 1) s.x s.o (s.t-s.f) x) s.y s.o (s.t-s.f) y) s.z s.o (s.t-s.f) z
def baQ (s:Sg) (B:Bat):Rat:=if(wayQ s.z s.o).num<0 then fr (B.base*(s.t-s.f)) 1000 else fr (B.base*(s.t-s.f)) 1000+wayQ s.z s.o*fr B.climb 100
def Q0s (s:Sg) (B:Bat) (x y z:Int):Rat:=baQ s B+drQ s x y z*fr B.drag 1000000
def Qox (s:Sg) (B:Bat) (x y z:Int):Int:=upQ (Q0s s B x y z)
theorem Q4o (n:Int):fr n 1=(n:Rat):=by
 unfold fr;have:((1:Int):Rat)=1:=rfl;rw [this];grind
theorem Qyg {n d:Int} (h:d≠0):fr n d*(d:Rat)=(n:Rat):=Rat.div_mul_cancel (by exact_mod_cast h)
theorem Qvp {n:Int} (h:0<n):(0:Rat)<(n:Rat):=by exact_mod_cast h
theorem Qyh {a b:Int} (h:a≤b):(a:Rat)≤(b:Rat):=Rat.intCast_le_intCast.2 h
theorem Qgs {n d:Int} (h:0≤n) (hd:0<d):0≤fr n d:=by
 have h1:=Qyg (n:=n) (show d≠0 by omega);have h2:=Qvp hd;have h3:=Qyh h;simp only [Rat.intCast_zero]at h3;refine Rat.le_of_mul_le_mul_right (c:=(d:Rat)) ?_ h2
 grind
theorem Q4p {n d k:Int} (hd:0<d) (h:n≤k*d):fr n d≤(k:Rat):=by
 have h1:=Qyg (n:=n) (show d≠0 by omega);have h2:=Qvp hd;have h3:=Qyh h;rw [Rat.intCast_mul]at h3;refine Rat.le_of_mul_le_mul_right (c:=(d:Rat)) ?_ h2
 grind
theorem Qvq {c:List Int} {o t b:Int} (ho:0<o) (h:axOK c o=true) (ht:0<t) (ht2:t≤3600000) (hb: -40000≤b) (hb2:b≤40000) (q:Rat):q≤axQ q c o t b∧axQ q c o t b≤q+120000000000000000:=by
 obtain⟨h1,h2,h3,h4⟩:=Q4m ho h;unfold axQ;rw [Q4o,Q4o];have u1:=Qyg (n:=1000) (show t≠0 by omega);have u2:=Qyg (n:=t) (d:=1000) (by decide);have u0:0≤fr 1000 t:=Qgs (by decide) ht;have u5:0≤fr t 1000:=Qgs (by omega) (by decide);have u3:fr 1000 t≤(1000:Int):=Q4p ht (by omega);have u4:fr t 1000≤(3600:Int):=Q4p (by decide) (by omega);have b1:=Qyh hb;have b2:=Qyh hb2;have e1:((-2*b:Int):Rat)= -2*(b:Rat):=by rw [Rat.intCast_mul];rfl
 have e2:((b*b:Int):Rat)=(b:Rat)*(b:Rat):=Rat.intCast_mul _ _;have e3:((1000:Int):Rat)=1000:=rfl;have e4:((3600:Int):Rat)=3600:=rfl;have e5:((-40000:Int):Rat)= -40000:=rfl;have e6:((40000:Int):Rat)=40000:=rfl;rw [e3]at u1 u2 u3;rw [e4]at u4;rw [e5]at b1;rw [e6]at b2;rw [e1,e2];have tp:=Qvp ht;have uv:fr 1000 t*fr t 1000=1:=by
  have k:fr 1000 t*fr t 1000*(t:Rat)=1*(t:Rat):=by
   have q1:fr 1000 t*fr t 1000*(t:Rat)=fr 1000 t*(t:Rat)*fr t 1000:=by rw [Rat.mul_assoc,Rat.mul_assoc,Rat.mul_comm (fr t 1000)]
   rw [q1,u1,Rat.mul_comm,u2,Rat.one_mul]
  refine Rat.le_antisymm ?_ ?_<;>refine Rat.le_of_mul_le_mul_right (c:=(t:Rat)) ?_ tp<;>rw [k]<;>exact Rat.le_refl
 generalize fr 1000 t=u at*;generalize fr t 1000=v at*;generalize (b:Rat)=w at*;generalize sqQ c o=S at*;generalize wayQ c o=y at*;clear e1 e2 tp u1 u2;have s0:0≤S:=Rat.le_trans (Qds y) h1;have p1:=Rat.mul_le_mul_of_nonneg_right h1 u0;have p2:=Rat.mul_nonneg u0 (Qds (y-w*v));have p3:=Rat.mul_le_mul_of_nonneg_left u3 s0;have p4:=Rat.mul_le_mul_of_nonneg_right h2 (show(0:Rat)≤1000 by decide);have w2:=Qh4 b1 b2;have p5:=Rat.mul_le_mul_of_nonneg_left u4 (Qds w);have p6:=Rat.mul_le_mul_of_nonneg_right w2 (show(0:Rat)≤3600 by decide);have p7:2*w*y≤2*40000*2097152∧ -(2*w*y)≤2*40000*2097152:=by
  have key: ∀w:Rat, -40000≤w→w≤40000→2*w*y≤2*40000*2097152:=fun w b1 b2=>by
   have a1:=Rat.mul_nonneg (show 0≤40000-w by grind) (show 0≤2097152+y by grind);have a2:=Rat.mul_nonneg (show 0≤40000+w by grind) (show 0≤2097152-y by grind);have a3:(40000-w)*(2097152+y)+(40000+w)*(2097152-y)=2*40000*2097152-2*w*y:=by grind
   have a4:=Rat.add_nonneg a1 a2;rw [a3]at a4;exact(Rat.le_iff_sub_nonneg _ _).2 a4
  refine⟨key w b1 b2,?_⟩;have:=key (-w) (by grind) (by grind);have e:2* -w*y= -(2*w*y):=by grind
  rwa [e]at this
 have p8:u*((y-w*v)*(y-w*v))=y*y*u-2*w*y+w*w*v:=by
  have:u*((y-w*v)*(y-w*v))=y*y*u-2*w*y*(u*v)+w*w*v*(u*v):=by grind
  rw [this,uv,Rat.mul_one,Rat.mul_one]
 rw [p8]at p2;have e9:y*(-2*w)= -(2*w*y):=by grind
 rw [e9];clear p8 e9 uv h1 w2 b1 b2 hb hb2 ht2 ht h ho u3 u4 u0 u5 h3 h4;generalize 2*w*y=Z at*;generalize y*y*u=Y at*;generalize S*u=T at*;generalize w*w*v=V at*;generalize w*w=W at*;obtain⟨p7,p9⟩:=p7;constructor<;>grind
theorem Zwa {x:Rat} {n:Int} (h:x≤(n:Rat)):upQ x≤n:=by
 unfold upQ;have:=(Rat.le_iff _ _).1 h;simp only [Rat.num_intCast,Rat.den_intCast]at this;rw [Rat.neg_num,Rat.neg_den];have hd:(0:Int)<(x.den:Int):=by have:=x.den_pos;omega
 have: -n≤ -x.num/(x.den:Int):=by
  rw [Int.le_ediv_iff_mul_le hd];rw [Int.neg_mul];omega
 omega
theorem Zwb {x:Rat} (h:0≤x):0≤upQ x:=by
 unfold upQ;rw [Rat.neg_num,Rat.neg_den];have hd:(0:Int)<(x.den:Int):=by have:=x.den_pos;omega
 have hn:=Rat.num_nonneg.2 h;have: -x.num/(x.den:Int)≤0:=Int.ediv_nonpos_of_nonpos_of_neg (by omega) (by omega);omega
theorem Qd0 {B:Bat} (h:Qa5 B=true):(0≤B.base∧B.base≤1000000)∧(0≤B.climb∧B.climb≤1000000)∧(0≤B.drag∧B.drag≤1000000)∧0≤B.res∧B.res≤B.cap∧B.cap≤1125899906842624:=by
 simp only [Qa5,Q4n,Bool.and_eq_true,decide_eq_true_eq]at h;omega
theorem Qyi {s:Sg} {B:Bat} {x y z:Int} (hs:rngS s=true) (hx:axOK s.x s.o=true) (hy:axOK s.y s.o=true) (hz:axOK s.z s.o=true) (hB:Qa5 B=true)
  (h1: -40000≤x∧x≤40000) (h2: -40000≤y∧y≤40000) (h3: -40000≤z∧z≤40000):0≤Qox s B x y z∧Qox s B x y z≤400000000000000000:=by
 obtain⟨B1,B2,B3, -⟩:=Qd0 hB;simp only [rngS,Bool.and_eq_true,decide_eq_true_eq]at hs;obtain⟨r1,r2,r3,r4,r5⟩:=hs;have o0:0<s.o:=by omega
 have t0:0<s.t-s.f:=by omega
 have t1:s.t-s.f≤3600000:=by omega
 obtain⟨a1,a2⟩:=Qvq o0 hx t0 t1 h1.1 h1.2 (fr 0 1);obtain⟨a3,a4⟩:=Qvq o0 hy t0 t1 h2.1 h2.2 (axQ (fr 0 1) s.x s.o (s.t-s.f) x);obtain⟨a5,a6⟩:=Qvq o0 hz t0 t1 h3.1 h3.2 (axQ (axQ (fr 0 1) s.x s.o (s.t-s.f) x) s.y s.o (s.t-s.f) y);have e0:fr 0 1=0:=by rw [Q4o];rfl
 have z0:0≤fr 0 1:=by rw [e0];exact Rat.le_refl
 have dd:0≤drQ s x y z∧drQ s x y z≤360000000000000000:=by
  unfold drQ;generalize axQ (axQ (axQ (fr 0 1) s.x s.o (s.t-s.f) x) s.y s.o (s.t-s.f) y) s.z s.o (s.t-s.f) z=X3 at*;generalize axQ (axQ (fr 0 1) s.x s.o (s.t-s.f) x) s.y s.o (s.t-s.f) y=X2 at*;generalize axQ (fr 0 1) s.x s.o (s.t-s.f) x=X1 at*;refine⟨Rat.le_trans z0 (Rat.le_trans a1 (Rat.le_trans a3 a5)),?_⟩;rw [e0]at a2;clear h1 h2 h3 hB B1 B2 B3 r1 r2 r3 r4 r5 o0 t0 t1 e0 z0
  grind
 obtain⟨dn,dm⟩:=dd;clear a1 a2 a3 a4 a5 a6 z0 e0;have f0:0≤fr B.drag 1000000:=Qgs B3.1 (by decide);have f1:fr B.drag 1000000≤(1:Int):=Q4p (by decide) (by omega);have g0:0≤fr B.climb 100:=Qgs B2.1 (by decide);have g1:fr B.climb 100≤(10000:Int):=Q4p (by decide) (by omega);have k0:0≤fr (B.base*(s.t-s.f)) 1000:=Qgs (Int.mul_nonneg B1.1 (by omega)) (by decide);have k1:fr (B.base*(s.t-s.f)) 1000≤(3600000000:Int):=Q4p (by decide) (by
  have:=Int.mul_le_mul B1.2 t1 (by omega) (by decide);omega)
 obtain⟨-, -,w3,w4⟩:=Q4m o0 hz;have e1:((1:Int):Rat)=1:=rfl;have e2:((10000:Int):Rat)=10000:=rfl;have e3:((3600000000:Int):Rat)=3600000000:=rfl;rw [e1]at f1;rw [e2]at g1;rw [e3]at k1;have bn:0≤baQ s B∧baQ s B≤30000000000:=by
  unfold baQ;by_cases hw:(wayQ s.z s.o).num<0
  ·rw [if_pos hw];exact⟨k0,by grind⟩
  ·rw [if_neg hw];have w0:0≤wayQ s.z s.o:=Rat.num_nonneg.1 (by omega);have m0:=Rat.mul_nonneg w0 g0;have m1:=Rat.mul_le_mul_of_nonneg_left g1 w0;have m2:=Rat.mul_le_mul_of_nonneg_right w4 (show(0:Rat)≤10000 by decide);exact⟨by grind,by grind⟩
 have d0:=Rat.mul_nonneg dn f0;have d1:=Rat.mul_le_mul_of_nonneg_left f1 dn;unfold Qox;refine⟨Zwb (by unfold Q0s;grind),Zwa ?_⟩;have:((400000000000000000:Int):Rat)=400000000000000000:=rfl;rw [this];unfold Q0s
 grind
theorem Qkw {n d:Int} (h1:n.natAbs<2^64) (h2:d.natAbs<2^64) (hd:d≠0):fitQ 64 (fr n d):=Qqn h1 h2 hd
def ok64 (c:List Int):Prop:= ∀i,(c.getD i 0).natAbs<2^64
theorem Qph {c:List Int} {o:Int} (hc:ok64 c) (ho:o.natAbs<2^64) (h0:o≠0) (i:Nat):fitQ 64 (coQ c o i):=Qqn (hc i) ho h0
theorem Zoa {i k:Nat} (hi:1≤i) (hk:1≤k) (hi2:i≤6) (hk2:k≤6):fitQ 64 (ikQ i k):=by
 refine Qqn ?_ ?_ (by omega)
 ·have:=Nat.mul_le_mul hi2 hk2;rw [Int.natAbs_mul,Int.natAbs_natCast,Int.natAbs_natCast];omega
 ·omega
theorem Q4q {c:List Int} {o:Int} (hc:ok64 c) (ho:o.natAbs<2^64) (h0:o≠0) {i k:Nat} (hi:1≤i) (hk:1≤k) (hi2:i≤6) (hk2:k≤6):fitQ 192 (sqT c o i k):=
 Qde (Qde (Qph hc ho h0 i) (Qph hc ho h0 k)) (Zoa hi hk hi2 hk2)
theorem Q4r {c:List Int} {o:Int} (hc:ok64 c) (ho:o.natAbs<2^64) (h0:o≠0) {i k:Nat} (hi:1≤i) (hi2:i≤6) (hk2:k≤5):fitQ 966 (sqR c o i k):=
 (Qyf k fun j hj=>Q4q hc ho h0 hi (by omega) hi2 (by omega)).mono (Nat.le_trans (Nat.add_le_add_right (Nat.mul_le_mul_right (192+1) hk2) 1) (by decide))
theorem Q4s {c:List Int} {o:Int} (hc:ok64 c) (ho:o.natAbs<2^64) (h0:o≠0) (hl:c.length≤6) {i:Nat} (hi:i≤5):fitQ 4836 (sqS c o i):=
 (Qyf i fun j hj=>Q4r hc ho h0 (by omega) (by omega) (by omega)).mono (Nat.le_trans (Nat.add_le_add_right (Nat.mul_le_mul_right (966+1) hi) 1) (by decide))
theorem Qvr {c:List Int} {o:Int} (hc:ok64 c) (ho:o.natAbs<2^64) (h0:o≠0) {n:Nat} (hn:n≤5):fitQ 326 (wyS c o n):=
 (Qyf n fun j _=>Qph hc ho h0 _).mono (Nat.le_trans (Nat.add_le_add_right (Nat.mul_le_mul_right (64+1) hn) 1) (by decide))
end Go.Dg

namespace Go.Proofs.YtdpajapkhembcaaGreatDoor
open Go.Vl Go.RowKit Go.Dg
theorem Qbc (x:Rat): ∃b1 s1 b2 s2,ratQ x= .agg [.bool b1,.str s1,.bool b2,.str s2]:=⟨_,_,_,_,rfl⟩
def zQ:PV:= .agg [.bool false,.str ⟨#[]⟩,.bool false,.str ⟨#[]⟩]
attribute [go_sem] zQ
theorem Qij (n d:Int) (h1:i64 n) (h2:i64 d) (h0:d≠0):Qae Tryz.prog 129 [.int .i64 n,.int .i64 d] (ratQ (fr n d)):=by
 have h:=Z02 n d h1.1 h1.2 h2.1 h2.2 h0;have e0:(n:Rat)/(d:Rat)=fr n d:=rfl;rw [e0]at h;obtain⟨b1,s1,b2,s2,e⟩:=Qbc (fr n d);rw [e]at h ⊢;refine Qab (tb:=[]) 14 [.cell 4 206] [0,1,4,5] mixed Tryz.func129 rfl (by kernel_rfl) (by kernel_rfl) (by kernel_rfl) (by kernel_rfl) ?_;repeat (first|(simp -implicitDefEqProofs only [go_sem,seval])|((with_reducible refine Qaa h ?_ ?_ ?_);rfl;rfl))
theorem Qik {k l:Nat} {x y:Rat} (hx:fitQ k x) (hy:fitQ l y) (hk:k+l+1≤65536):Qae Tryz.prog 131 [ratQ x,ratQ y] (ratQ (x+y)):=by
 have h:=Zwv hx hy hk;obtain⟨b1,s1,b2,s2,e⟩:=Qbc (x+y);obtain⟨c1,t1,c2,t2,e2⟩:=Qbc x;obtain⟨d1,u1,d2,u2,e3⟩:=Qbc y;rw [e,e2,e3]at h;rw [e,e2,e3];refine Qab (tb:=[]) 14 [.cell 4 206] [0,1,2,3,4,5] mixed Tryz.func131 rfl (by kernel_rfl) (by kernel_rfl) (by kernel_rfl) (by kernel_rfl) ?_;repeat (first|(simp -implicitDefEqProofs only [go_sem,seval])|((with_reducible refine Qaa h ?_ ?_ ?_);rfl;rfl))
def prQ (x:Rat) (l:List Rat) (k:Nat):Rat:=(l.take k).foldl (· * ·) x
def raB (x:Rat):Box:={els:=[ratQ x],esz:=4,ety:=206,fro:=0,live:=true,arr:=false}
theorem Q58 (x:Rat) (l:List Rat) (hl:l.length≤100) (hm: ∀k (h:k<l.length),Qae Tryz.prog 150 [ratQ (prQ x l k),ratQ l[k]] (.tup [ratQ (prQ x l (k+1)),.int .i64 0])):
  Qae Tryz.prog 132 [ratQ x,.slc (l.map ratQ)] (ratQ (prQ x l l.length)):=by
 obtain⟨b1,s1,b2,s2,e⟩:=Qbc x;have e0:prQ x l 0=x:=rfl;rw [e];refine Qab (tb:=[]) 24 [.cell 4 206] [0,1,2,4,6,7,9,10,11,12] mixed Tryz.func132 rfl (by kernel_rfl) (by kernel_rfl) (by kernel_rfl) (by kernel_rfl) ?_;repeat (first|(simp -implicitDefEqProofs only [go_sem,seval]))
 rw [←e];refine Qav mixed (fun k:{k:Nat // k≤l.length}=>St.of [(2,.bp 0 4 0 0),(4,.bp 1 4 0 0),(9,.slc (l.map ratQ)),(10,.int .i64 (l.length:Int)),(11,.int .i64 (k.1:Int))] [(0,raB (prQ x l k.1)),(1,{els:=[zQ],esz:=4,ety:=206,fro:=0,live:=true,arr:=false})]) (fun k=>l.length-k.1) ⟨0,Nat.zero_le _⟩ ?_ ?_
 ·refine Qan (θ:=[(0,0),(1,1)]) rfl ?_ ?_
  ·simp [Qaf,lkp,ren1,ren0,Qai]
  ·simp only [e0,raB];rw [e];exact⟨⟨rfl,rfl,rfl,rfl,rfl,.inr ⟨rfl,_,_,rfl,rfl,rfl,rfl⟩⟩,⟨rfl,rfl,rfl,rfl,rfl,.inr ⟨rfl,_,_,rfl,rfl,rfl,rfl⟩⟩,trivial⟩
 ·rintro⟨k,hk⟩;simp only [raB];obtain⟨c1,t1,c2,t2,e2⟩:=Qbc (prQ x l k);by_cases hA:k<l.length
  ·have hA':=ltT hA;have n0:=nnT k;have hwk:=Qam (a:=k) (by omega);have hM:=hm k hA;obtain⟨d1,u1,d2,u2,e3⟩:=Qbc (prQ x l (k+1));obtain⟨f1,v1,f2,v2,e4⟩:=Qbc l[k];have hg:(l.map ratQ)[k]? =some (.agg [.bool f1,.str v1,.bool f2,.str v2]):=by rw [List.getElem?_map,List.getElem?_eq_getElem hA,Option.map_some,e4]
   rw [e2,e3,e4]at hM;rw [e2];repeat (first|(simp -implicitDefEqProofs only [go_sem,seval,hA',n0,hwk,hg,Int.toNat_natCast])|((with_reducible refine Qaa hM ?_ ?_ ?_);rfl;rfl))
   refine⟨⟨k+1,hA⟩,by simp only;omega,Qan (θ:=[(0,0),(1,1)]) rfl ?_ ?_⟩
   ·simp [Qaf,lkp,ren1,ren0,Qai]
   ·simp only;rw [e3];exact⟨⟨rfl,rfl,rfl,rfl,rfl,.inr ⟨rfl,_,_,rfl,rfl,rfl,rfl⟩⟩,⟨rfl,rfl,rfl,rfl,rfl,.inr ⟨rfl,_,_,rfl,rfl,rfl,rfl⟩⟩,trivial⟩
  ·have hA':=ltF hA;obtain rfl:k=l.length:=by omega
   rw [e2];repeat (first|(simp -implicitDefEqProofs only [go_sem,seval,hA']))
theorem Qho {k l:Nat} {x y:Rat} (hx:fitQ k x) (hy:fitQ l y) (hk:k+l≤65536):Qae Tryz.prog 132 [ratQ x,.slc [ratQ y]] (ratQ (x*y)):=by
 have h:=Q58 x [y] (by simp) (fun i hi=>by
  obtain rfl:i=0:=by simp at hi;omega
  exact Q57 hx hy hk)
 exact h
theorem Ze2 {k l m:Nat} {x y z:Rat} (hx:fitQ k x) (hy:fitQ l y) (hz:fitQ m z) (hk:k+l+m≤65536):Qae Tryz.prog 132 [ratQ x,.slc [ratQ y,ratQ z]] (ratQ (x*y*z)):=by
 have h:=Q58 x [y,z] (by simp) (fun i hi=>by
  rcases(show i=0∨i=1 by simp at hi;omega)with rfl|rfl
  ·exact Q57 hx hy (by omega)
  ·exact Q57 (Qde hx hy) hz (by omega))
 exact h
theorem Zww {c:List Int} {k:Nat} (h:k+1<c.length):((c.map (PV.int .i64)).drop 1)[k]? =some (.int .i64 (c.getD (k+1) 0)):=by
 rw [List.getElem?_drop,List.getElem?_map,List.getElem?_eq_getElem (by omega),List.getD_eq_getElem?_getD,List.getElem?_eq_getElem h];simp [Nat.add_comm]
set_option maxHeartbeats 1000000 in
theorem Zoj (c:List Int) (o:Int) (hc: ∀x∈c,i64 x) (h1:1≤c.length) (h6:c.length≤6) (ho:i64 o) (h0:o≠0) (hk:ok64 c):Qae Tryz.prog 130 [.slc (c.map (PV.int .i64)),.int .i64 o] (ratQ (wayQ c o)):=by
 have hz:=Qij 0 1 (by unfold i64;omega) (by unfold i64;omega) (by decide);have e0:fr 0 1=wyS c o 0:=(by decide+kernel:fr 0 1=0);rw [e0]at hz;obtain⟨b1,s1,b2,s2,e⟩:=Qbc (wyS c o 0);rw [e]at hz;have l1:((1:Int)≤(c.length:Int))=True:=eq_true (by omega);have l2:(1≤c.length)=True:=eq_true h1;have l3:((c.map (PV.int .i64)).drop 1).take (c.length-1)=(c.map (PV.int .i64)).drop 1:=List.take_of_length_le (by simp);have l5:((c.map (PV.int .i64)).all fun x=>x.cells.length==1)=true:=by rw [List.all_map,List.all_eq_true];intro _ _;rfl
 have l6:(c.map (PV.int .i64)).take c.length=c.map (PV.int .i64):=List.take_of_length_le (by simp);have l4:((c.map (PV.int .i64)).drop 1).length=c.length-1:=by simp
 have oa:o.natAbs<2^64:=Qcd ho;refine Qab (tb:=[]) 23 [.cell 4 206] [0,1,4,5,7,10,11,12,13] mixed Tryz.func130 rfl (by kernel_rfl) (by kernel_rfl) (by kernel_rfl) (by kernel_rfl) ?_;repeat (first|(simp -implicitDefEqProofs only [go_sem,seval,l1,l4,l5,l6,List.length_map,Int.toNat_natCast])|((with_reducible refine Qaa hz ?_ ?_ ?_);rfl;rfl))
 rw [←e];refine Qav mixed (fun k:{k:Nat // k≤c.length-1}=>St.of [(1,.int .i64 o),(4,.bp 0 4 0 0),(5,.bp 101 4 0 0),(10,.slc ((c.map (PV.int .i64)).drop 1)),(11,.int .i64 ((c.length-1:Nat):Int)),(12,.int .i64 (k.1:Int))] [(0,{els:=[zQ],esz:=4,ety:=206,fro:=0,live:=true,arr:=false}),(101,raB (wyS c o k.1))]) (fun k=>c.length-1-k.1) ⟨0,Nat.zero_le _⟩ ?_ ?_
 ·refine Qan (θ:=[(0,0),(101,101)]) rfl ?_ ?_
  ·simp [Qaf,lkp,ren1,ren0,Qai]
  ·simp only [raB];rw [e];exact⟨⟨rfl,rfl,rfl,rfl,rfl,.inr ⟨rfl,_,_,rfl,rfl,rfl,rfl⟩⟩,⟨rfl,rfl,rfl,rfl,rfl,.inr ⟨rfl,_,_,rfl,rfl,rfl,rfl⟩⟩,trivial⟩
 ·rintro⟨k,hk2⟩;simp only [raB];obtain⟨c1,t1,c2,t2,e2⟩:=Qbc (wyS c o k);by_cases hA:k<c.length-1
  ·have hA':=ltT hA;have n0:=nnT k;have hwk:=Qam (a:=k) (by omega);have hg:=Zww (c:=c) (k:=k) (by omega);have hci:i64 (c.getD (k+1) 0):=by
    rw [List.getD_eq_getElem?_getD,List.getElem?_eq_getElem (by omega)];exact hc _ (List.getElem_mem _)
   have f1:=Qij (c.getD (k+1) 0) o hci ho h0;have e5:fr (c.getD (k+1) 0) o=coQ c o (k+1):=rfl;rw [e5]at f1;have f2:=Qik (Qvr hk oa h0 (n:=k) (by omega)) (Qph hk oa h0 (k+1)) (by decide);have e6:wyS c o k+coQ c o (k+1)=wyS c o (k+1):=rfl;rw [e6]at f2;obtain⟨d1,u1,d2,u2,e3⟩:=Qbc (wyS c o (k+1));obtain⟨g1,v1,g2,v2,e4⟩:=Qbc (coQ c o (k+1));rw [e4]at f1;rw [e2,e3,e4]at f2;rw [e2];repeat (first|(simp -implicitDefEqProofs only [go_sem,seval,hA',n0,hwk,hg,Int.toNat_natCast])|((with_reducible refine Qaa f1 ?_ ?_ ?_);rfl;rfl)|((with_reducible refine Qaa f2 ?_ ?_ ?_);rfl;rfl)|(with_reducible refine And.intro (Qac _ _ (by kernel_rfl)) ?_))
   refine⟨⟨k+1,hA⟩,by simp only;omega,Qan (θ:=[(0,0),(101,101)]) rfl ?_ ?_⟩
   ·simp [Qaf,lkp,ren1,ren0,Qai]
   ·simp only;rw [e3];exact⟨⟨rfl,rfl,rfl,rfl,rfl,.inr ⟨rfl,_,_,rfl,rfl,rfl,rfl⟩⟩,⟨rfl,rfl,rfl,rfl,rfl,.inr ⟨rfl,_,_,rfl,rfl,rfl,rfl⟩⟩,trivial⟩
  ·have hA':=ltF hA;obtain rfl:k=c.length-1:=by omega
   have e7:wayQ c o=wyS c o (c.length-1):=rfl;rw [e7,e2];repeat (first|(simp -implicitDefEqProofs only [go_sem,seval,hA']))
theorem Qtv {c:List Int} {k:Nat} (h:k<c.length):(c.map (PV.int .i64))[k]? =some (.int .i64 (c.getD k 0)):=by
 rw [List.getElem?_map,List.getElem?_eq_getElem h,List.getD_eq_getElem?_getD,List.getElem?_eq_getElem h];rfl
theorem Qv7 {c:List Int} (hc: ∀x∈c,i64 x) {k:Nat} (h:k<c.length):i64 (c.getD k 0):=by
 rw [List.getD_eq_getElem?_getD,List.getElem?_eq_getElem h];exact hc _ (List.getElem_mem _)
theorem Z03 (i k:Nat):fr (((i+1:Nat):Int)*((k+1:Nat):Int)) (((i+1+(k+1)-1:Nat)):Int)=ikQ (i+1) (k+1):=by
 unfold fr ikQ;have:(((i+1+(k+1)-1:Nat)):Int)=((i+1:Nat):Int)+((k+1:Nat):Int)-1:=by omega
 rw [this]
set_option maxHeartbeats 4000000 in
theorem Z04 (c:List Int) (o:Int) (hc: ∀x∈c,i64 x) (h1:1≤c.length) (h6:c.length≤6) (ho:i64 o) (h0:o≠0) (hk:ok64 c):Qae Tryz.prog 133 [.slc (c.map (PV.int .i64)),.int .i64 o] (ratQ (sqQ c o)):=by
 have hz:=Qij 0 1 (by unfold i64;omega) (by unfold i64;omega) (by decide);have e0:fr 0 1=sqS c o 0:=(by decide+kernel:fr 0 1=0);rw [e0]at hz;obtain⟨b1,s1,b2,s2,e⟩:=Qbc (sqS c o 0);rw [e]at hz;have oa:o.natAbs<2^64:=Qcd ho;refine Qab (tb:=[]) 46 [.cell 4 206] [0,1,4,5,6,7,12,18] mixed Tryz.func133 rfl (by kernel_rfl) (by kernel_rfl) (by kernel_rfl) (by kernel_rfl) ?_;repeat (first|(simp -implicitDefEqProofs only [go_sem,seval])|((with_reducible refine Qaa hz ?_ ?_ ?_);rfl;rfl))
 rw [←e];refine Qav mixed (fun i:{i:Nat // i≤c.length-1}=>St.of [(0,.slc (c.map (PV.int .i64))),(1,.int .i64 o),(4,.bp 0 4 0 0),(5,.bp 101 4 0 0),(6,.int .i64 ((i.1+1:Nat):Int))] [(0,{els:=[zQ],esz:=4,ety:=206,fro:=0,live:=true,arr:=false}),(101,raB (sqS c o i.1))]) (fun i=>c.length-1-i.1) ⟨0,Nat.zero_le _⟩ ?_ ?_
 ·refine Qan (θ:=[(0,0),(101,101)]) rfl ?_ ?_
  ·simp [Qaf,lkp,ren1,ren0,Qai]
  ·simp only [raB];rw [e];exact⟨⟨rfl,rfl,rfl,rfl,rfl,.inr ⟨rfl,_,_,rfl,rfl,rfl,rfl⟩⟩,⟨rfl,rfl,rfl,rfl,rfl,.inr ⟨rfl,_,_,rfl,rfl,rfl,rfl⟩⟩,trivial⟩
 ·rintro⟨i,hi⟩;simp only;by_cases hA:i+1<c.length
  ·have hA':=ltT hA;have n0:=nnT (i+1);have hwk:=Qam (a:=i+1) (by omega);have hg:=Qtv hA;have f1:=Qij (c.getD (i+1) 0) o (Qv7 hc hA) ho h0;have e1:fr (c.getD (i+1) 0) o=coQ c o (i+1):=rfl;rw [e1]at f1;obtain⟨x1,x2,x3,x4,ex⟩:=Qbc (coQ c o (i+1));rw [ex]at f1;repeat (first|(simp -implicitDefEqProofs only [go_sem,seval,hA',List.length_map]))
   refine Qav mixed (fun k:{k:Nat // k≤c.length-1}=>St.of [(0,.slc (c.map (PV.int .i64))),(1,.int .i64 o),(4,.bp 0 4 0 0),(5,.bp 101 4 0 0),(6,.int .i64 ((i+1:Nat):Int)),(7,.int .i64 ((k.1+1:Nat):Int))] [(0,{els:=[zQ],esz:=4,ety:=206,fro:=0,live:=true,arr:=false}),(101,raB (sqS c o i+sqR c o (i+1) k.1))]) (fun k=>c.length-1-k.1) ⟨0,Nat.zero_le _⟩ ?_ ?_
   ·refine Qan (θ:=[(0,0),(101,101)]) rfl ?_ ?_
    ·simp [Qaf,lkp,ren1,ren0,Qai]
    ·have e2:sqS c o i+sqR c o (i+1) 0=sqS c o i:=Rat.add_zero _;simp only [raB,e2];exact⟨⟨rfl,rfl,rfl,rfl,rfl,.inr ⟨rfl,_,_,rfl,rfl,rfl,rfl⟩⟩,⟨rfl,rfl,rfl,rfl,rfl,.inr ⟨rfl,_,_,rfl,rfl,rfl,rfl⟩⟩,trivial⟩
   ·rintro⟨k,hk2⟩;simp only [raB];by_cases hB:k+1<c.length
    ·have hB':=ltT hB;have n1:=nnT (k+1);have hwk2:=Qam (a:=k+1) (by omega);have hg2:=Qtv hB;have f2:=Qij (c.getD (k+1) 0) o (Qv7 hc hB) ho h0;have e2:fr (c.getD (k+1) 0) o=coQ c o (k+1):=rfl;rw [e2]at f2;have hmul:((i+1:Nat):Int)*((k+1:Nat):Int)≤5*5:=by
      have:=Nat.mul_le_mul (show i+1≤5 by omega) (show k+1≤5 by omega);omega
     have hmul0:0≤((i+1:Nat):Int)*((k+1:Nat):Int):=Int.mul_nonneg (by omega) (by omega);have f3:=Qij (((i+1:Nat):Int)*((k+1:Nat):Int)) ((i+1+(k+1)-1:Nat):Int) (by unfold i64;omega) (by unfold i64;omega) (by omega);rw [Z03]at f3;have w1:IntKind.i64.wrap (((i+1:Nat):Int)*((k+1:Nat):Int))=((i+1:Nat):Int)*((k+1:Nat):Int):=Qag (by omega) (by omega);have w2:IntKind.i64.wrap (((i+1:Nat):Int)+((k+1:Nat):Int))=((i+1+(k+1):Nat):Int):=by rw [Qag (by omega) (by omega)];omega
     have w3:IntKind.i64.wrap (((i+1+(k+1):Nat):Int)-1)=((i+1+(k+1)-1:Nat):Int):=by rw [Qag (by omega) (by omega)];omega
     have t1:=Qph hk oa h0 (i+1);have t2:=Qph hk oa h0 (k+1);have t3:=Zoa (i:=i+1) (k:=k+1) (by omega) (by omega) (by omega) (by omega);have f4:=Ze2 t1 t2 t3 (by decide);have e4:coQ c o (i+1)*coQ c o (k+1)*ikQ (i+1) (k+1)=sqT c o (i+1) (k+1):=rfl;rw [e4]at f4;have t4:=Q4q hk oa h0 (i:=i+1) (k:=k+1) (by omega) (by omega) (by omega) (by omega);have t5:=Qgr (Q4s hk oa h0 h6 (i:=i) (by omega)) (Q4r hk oa h0 (i:=i+1) (k:=k) (by omega) (by omega) (by omega));have f5:=Qik t5 t4 (by decide);have e5:sqS c o i+sqR c o (i+1) k+sqT c o (i+1) (k+1)=sqS c o i+sqR c o (i+1) (k+1):=by rw [Rat.add_assoc];rfl
     rw [e5]at f5;obtain⟨y1,y2,y3,y4,ey⟩:=Qbc (coQ c o (k+1));obtain⟨z1,z2,z3,z4,ez⟩:=Qbc (ikQ (i+1) (k+1));obtain⟨v1,v2,v3,v4,ev⟩:=Qbc (sqT c o (i+1) (k+1));obtain⟨p1,p2,p3,p4,ep⟩:=Qbc (sqS c o i+sqR c o (i+1) k);obtain⟨q1,q2,q3,q4,eq⟩:=Qbc (sqS c o i+sqR c o (i+1) (k+1));rw [ey]at f2;rw [ez]at f3;rw [ex,ey,ez,ev]at f4;rw [ep,ev,eq]at f5;rw [ep];repeat (first|(simp -implicitDefEqProofs only [go_sem,seval,hB',n0,n1,hwk2,hg,hg2,w1,w2,w3,Int.toNat_natCast,List.length_map])|((with_reducible refine Qaa f1 ?_ ?_ ?_);rfl;rfl)|((with_reducible refine Qaa f2 ?_ ?_ ?_);rfl;rfl)|((with_reducible refine Qaa f3 ?_ ?_ ?_);rfl;rfl)|((with_reducible refine Qaa f4 ?_ ?_ ?_);rfl;rfl)|((with_reducible refine Qaa f5 ?_ ?_ ?_);rfl;rfl)|(with_reducible refine And.intro (Qac _ _ (by kernel_rfl)) ?_))
     refine⟨⟨k+1,by omega⟩,by simp only;omega,Qan (θ:=[(0,0),(101,101)]) rfl ?_ ?_⟩
     ·simp [Qaf,lkp,ren1,ren0,Qai]
     ·simp only;rw [eq];exact⟨⟨rfl,rfl,rfl,rfl,rfl,.inr ⟨rfl,_,_,rfl,rfl,rfl,rfl⟩⟩,⟨rfl,rfl,rfl,rfl,rfl,.inr ⟨rfl,_,_,rfl,rfl,rfl,rfl⟩⟩,trivial⟩
    ·have hB':=ltF hB;obtain rfl:k=c.length-1:=by omega
     have e2:sqS c o i+sqR c o (i+1) (c.length-1)=sqS c o (i+1):=rfl;obtain⟨p1,p2,p3,p4,ep⟩:=Qbc (sqS c o (i+1));rw [e2,ep];repeat (first|(simp -implicitDefEqProofs only [go_sem,seval,hB',hwk,List.length_map]))
     refine⟨⟨i+1,by omega⟩,by simp only;omega,Qan (θ:=[(0,0),(101,101)]) rfl ?_ ?_⟩
     ·simp [Qaf,lkp,ren1,ren0,Qai]
     ·simp only [raB];rw [ep];exact⟨⟨rfl,rfl,rfl,rfl,rfl,.inr ⟨rfl,_,_,rfl,rfl,rfl,rfl⟩⟩,⟨rfl,rfl,rfl,rfl,rfl,.inr ⟨rfl,_,_,rfl,rfl,rfl,rfl⟩⟩,trivial⟩
  ·have hA':=ltF hA;obtain rfl:i=c.length-1:=by omega
   have e2:sqQ c o=sqS c o (c.length-1):=rfl;obtain⟨p1,p2,p3,p4,ep⟩:=Qbc (sqS c o (c.length-1));rw [e2];simp only [raB];rw [ep];repeat (first|(simp -implicitDefEqProofs only [go_sem,seval,hA',List.length_map]))
theorem Z05:fr (-1) 1= -1:=by decide+kernel
theorem up_v {k:Nat} {x:Rat} (hx:fitQ k x) (hk:k≤60000) (h1:0≤upQ x) (h2:upQ x≤9000000000000000000):Qae Tryz.prog 134 [ratQ x] (.tup [.int .i64 (upQ x),.bool (decide (upQ x≤1125899906842624))]):=by
 have f1:=Qij (-1) 1 (by unfold i64;omega) (by unfold i64;omega) (by decide);rw [Z05]at f1;have hm1:fitQ 1 (-1:Rat):=by unfold fitQ;decide+kernel
 have f2:=Qho hx hm1 (by omega);have e:x*(-1:Rat)= -x:=by rw [Rat.mul_neg,Rat.mul_one]
 rw [e]at f2;have hnx:fitQ (k+1) (-x):=by rw [←e];exact Qde hx hm1
 have f3:=Ze1 hnx (by omega);have eu:(-x).num/((-x).den:Int)= -upQ x:=by unfold upQ;omega
 rw [eu]at f3;have f4:=Qzn (x:= -upQ x) (by
   have:(-upQ x).natAbs<2^64:=by omega
   exact Qa4 this (by decide))
 unfold Qfl at f4;rw [if_pos (by omega)]at f4;have w1:IntKind.i64.wrap (0- -upQ x)=upQ x:=by rw [Qag (by omega) (by omega)];omega
 obtain⟨a1,a2,a3,a4,ea⟩:=Qbc (-1);obtain⟨b1,b2,b3,b4,eb⟩:=Qbc x;obtain⟨c1,c2,c3,c4,ec⟩:=Qbc (-x);obtain⟨d1,d2,ed⟩: ∃d1 d2,wPV (-upQ x)= .agg [.bool d1,.str d2]:=⟨_,_,rfl⟩;rw [ea]at f1;rw [ea,eb,ec]at f2;rw [ec,ed]at f3;rw [ed]at f4;rw [eb];generalize upQ x=U at*;refine Qab (tb:=[]) 32 [.tmp 2,.tmp 3] [0,1,2,3,4,5,7,8] mixed Tryz.func134 rfl (by kernel_rfl) (by kernel_rfl) (by kernel_rfl) (by kernel_rfl) ?_;repeat (first|(simp -implicitDefEqProofs only [go_sem,seval,w1])|((with_reducible refine Qaa f1 ?_ ?_ ?_);rfl;rfl)|((with_reducible refine Qaa f2 ?_ ?_ ?_);rfl;rfl)|((with_reducible refine Qaa f3 ?_ ?_ ?_);rfl;rfl)|((with_reducible refine Qaa f4 ?_ ?_ ?_);rfl;rfl)|(with_reducible refine And.intro (Qac _ _ (by kernel_rfl)) ?_))
def baPV (B:Bat):PV:= .agg [.int .i64 B.base,.int .i64 B.climb,.int .i64 B.drag,.int .i64 B.cap,.int .i64 B.res]
attribute [go_sem] baPV
structure okBat (B:Bat):Prop where
 base:i64 B.base
 climb:i64 B.climb
 drag:i64 B.drag
 cap:i64 B.cap
 res:i64 B.res
theorem Qv8 {c:List Int} (h: ∀x∈c,i64 x):ok64 c:=fun i=>by
 by_cases hi:i<c.length
 ·exact Qcd (Qv7 h hi)
 ·rw [List.getD_eq_getElem?_getD,List.getElem?_eq_none (by omega)];decide
theorem Qhp {c:List Int} {o t b:Int} {k:Nat} {D:Rat} (hD:fitQ k D) (hk:k≤20000) (hc: ∀x∈c,i64 x) (h1:1≤c.length) (h6:c.length≤6) (ho:i64 o) (h0:o≠0) (ht:0<t) (ht2:t≤3600000) (hb: -40000≤b∧b≤40000):
  ∃q1 q2 q3 q4 q5 q6 q7 q8 q9 q10 q11:Rat,
   Qae Tryz.prog 133 [.slc (c.map (PV.int .i64)),.int .i64 o] (ratQ q1)∧Qae Tryz.prog 129 [.int .i64 1000,.int .i64 t] (ratQ q2)∧Qae Tryz.prog 132 [ratQ q1,.slc [ratQ q2]] (ratQ q3)∧Qae Tryz.prog 131 [ratQ D,ratQ q3] (ratQ q4)∧
   Qae Tryz.prog 130 [.slc (c.map (PV.int .i64)),.int .i64 o] (ratQ q5)∧Qae Tryz.prog 129 [.int .i64 (-2*b),.int .i64 1] (ratQ q6)∧Qae Tryz.prog 132 [ratQ q5,.slc [ratQ q6]] (ratQ q7)∧Qae Tryz.prog 131 [ratQ q4,ratQ q7] (ratQ q8)∧
   Qae Tryz.prog 129 [.int .i64 (b*b),.int .i64 1] (ratQ q9)∧Qae Tryz.prog 129 [.int .i64 t,.int .i64 1000] (ratQ q10)∧Qae Tryz.prog 132 [ratQ q9,.slc [ratQ q10]] (ratQ q11)∧Qae Tryz.prog 131 [ratQ q8,ratQ q11] (ratQ (axQ D c o t b))∧fitQ (k+5421) (axQ D c o t b):=by
 have ok:=Qv8 hc;have oa:=Qcd ho;have hbb:0≤b*b∧b*b≤1600000000:=by
  have h1:=Int.mul_le_mul (a:=(b.natAbs:Int)) (b:=(b.natAbs:Int)) (c:=40000) (d:=40000) (by omega) (by omega) (by omega) (by omega);have h2:(b.natAbs:Int)*(b.natAbs:Int)=b*b:=Int.natAbs_mul_self' b;rw [h2]at h1;have h3:0≤b*b:=by rw [←h2];exact Int.mul_nonneg (by omega) (by omega)
  omega
 have t1:fitQ 4836 (sqQ c o):=Q4s ok oa h0 h6 (by omega);have t2:fitQ 64 (fr 1000 t):=Qkw (by decide) (by omega) (by omega);have t5:fitQ 326 (wayQ c o):=Qvr ok oa h0 (by omega);have t6:fitQ 64 (fr (-2*b) 1):=Qkw (by omega) (by decide) (by decide);have t9:fitQ 64 (fr (b*b) 1):=Qkw (by omega) (by decide) (by decide);have t10:fitQ 64 (fr t 1000):=Qkw (by omega) (by decide) (by decide);have s1:=Qgr hD (Qde t1 t2);have s2:=Qgr s1 (Qde t5 t6);have s3:=Qgr s2 (Qde t9 t10);exact⟨sqQ c o,fr 1000 t,_,_,wayQ c o,fr (-2*b) 1,_,_,fr (b*b) 1,fr t 1000,_,
  Z04 c o hc h1 h6 ho h0 ok,Qij 1000 t (by unfold i64;omega) (by unfold i64;omega) (by omega),Qho t1 t2 (by omega),Qik hD (Qde t1 t2) (by omega),
  Zoj c o hc h1 h6 ho h0 ok,Qij (-2*b) 1 (by unfold i64;omega) (by unfold i64;omega) (by decide),Qho t5 t6 (by omega),Qik s1 (Qde t5 t6) (by omega),
  Qij (b*b) 1 (by unfold i64;omega) (by unfold i64;omega) (by decide),Qij t 1000 (by unfold i64;omega) (by unfold i64;omega) (by decide),Qho t9 t10 (by omega),Qik s2 (Qde t9 t10) (by omega),s3.mono (by omega)⟩
def drN (s:Sg) (x y z:Int):Nat→Rat
 |0=>fr 0 1
 |1=>axQ (fr 0 1) s.x s.o (s.t-s.f) x
 |2=>axQ (axQ (fr 0 1) s.x s.o (s.t-s.f) x) s.y s.o (s.t-s.f) y
 |_=>drQ s x y z
theorem Z06:((0:Nat):Int)=0:=rfl
theorem Z07:((1:Nat):Int)=1:=rfl
theorem Z08:((2:Nat):Int)=2:=rfl
theorem Qi4:((3:Nat):Int)=3:=rfl
theorem Qq7:IntKind.i64.wrap 1=1:=rfl
theorem Qv9:IntKind.i64.wrap 2=2:=rfl
theorem Q59:IntKind.i64.wrap 3=3:=rfl
theorem Zqe {b:Int} (hb: -40000≤b∧b≤40000):0≤b*b∧b*b≤1600000000:=by
 have h1:=Int.mul_le_mul (a:=(b.natAbs:Int)) (b:=(b.natAbs:Int)) (c:=40000) (d:=40000) (by omega) (by omega) (by omega) (by omega);have h2:(b.natAbs:Int)*(b.natAbs:Int)=b*b:=Int.natAbs_mul_self' b;rw [h2]at h1;have h3:0≤b*b:=by rw [←h2];exact Int.mul_nonneg (by omega) (by omega)
 omega
set_option maxHeartbeats 16000000 in
set_option maxRecDepth 100000 in
theorem Zqf (s:Sg) (B:Bat) (x y z:Int) (hs:okSg s) (hv:Qbl s=true) (hB:Qa5 B=true) (hx: -40000≤x∧x≤40000) (hy: -40000≤y∧y≤40000) (hz: -40000≤z∧z≤40000):
  Qae Tryz.prog 110 [sgPV s,baPV B,.agg [.int .i64 x,.int .i64 y,.int .i64 z]] (.tup [.int .i64 (Qox s B x y z),.bool (decide (Qox s B x y z≤1125899906842624))]):=by
 obtain⟨⟨v1,v2,v3,v4,v5⟩,hax, -⟩:=Qbu hv;have hvx:=hax s.x (by simp [Sg.ax]);have hvy:=hax s.y (by simp [Sg.ax]);have hvz:=hax s.z (by simp [Sg.ax]);have hcx:=hs.c s.x (by simp [Sg.ax]);have hcy:=hs.c s.y (by simp [Sg.ax]);have hcz:=hs.c s.z (by simp [Sg.ax]);have hbx:=Zqe hx;have hby:=Zqe hy;have hbz:=Zqe hz;obtain⟨B1,B2,B3, -⟩:=Qd0 hB;have hwt:IntKind.i64.wrap (s.t-s.f)=s.t-s.f:=Qag (by omega) (by omega);have hbt:0≤B.base*(s.t-s.f)∧B.base*(s.t-s.f)≤1000000*3600000:=⟨Int.mul_nonneg B1.1 (by omega),Int.mul_le_mul B1.2 (by omega) (by omega) (by decide)⟩;have hwbt:IntKind.i64.wrap (B.base*(s.t-s.f))=B.base*(s.t-s.f):=Qag (by omega) (by omega);have g1:=Qij (B.base*(s.t-s.f)) 1000 (by unfold i64;omega) (by unfold i64;omega) (by decide);have g2:=Zoj s.z s.o hcz (Qbf hvz).1 (Qbf hvz).2.1 hs.o (by omega) (Qv8 hcz);have g3:=Qij B.climb 100 (by unfold i64;omega) (by unfold i64;omega) (by decide);have ft1:fitQ 64 (fr (B.base*(s.t-s.f)) 1000):=Qkw (by omega) (by decide) (by decide);have ft2:fitQ 326 (wayQ s.z s.o):=Qvr (Qv8 hcz) (Qcd hs.o) (by omega) (by have:=(Qbf hvz).2.1;omega);have ft3:fitQ 64 (fr B.climb 100):=Qkw (by omega) (by decide) (by decide);have g4:=Qho ft2 ft3 (by decide);have g5:=Qik ft1 (Qde ft2 ft3) (by decide);have g6:=Qij 0 1 (by unfold i64;omega) (by unfold i64;omega) (by decide);have ft6:fitQ 64 (fr 0 1):=Qkw (by decide) (by decide) (by decide);have ftb:fitQ 455 (baQ s B):=by
  unfold baQ;split
  ·exact ft1.mono (by decide)
  ·exact Qgr ft1 (Qde ft2 ft3)
 have hD1:fitQ 5485 (drN s x y z 1):=(Qhp ft6 (by decide) hcx (Qbf hvx).1 (Qbf hvx).2.1 hs.o (by omega) (show 0<s.t-s.f by omega) (by omega) hx).elim fun _ h=>by obtain⟨_,_,_,_,_,_,_,_,_,_,_,_,_,_,_,_,_,_,_,_,_,_,h⟩:=h;exact h
 have hD2:fitQ 10906 (drN s x y z 2):=(Qhp hD1 (by decide) hcy (Qbf hvy).1 (Qbf hvy).2.1 hs.o (by omega) (show 0<s.t-s.f by omega) (by omega) hy).elim fun _ h=>by obtain⟨_,_,_,_,_,_,_,_,_,_,_,_,_,_,_,_,_,_,_,_,_,_,h⟩:=h;exact h
 have hD3:fitQ 16327 (drQ s x y z):=(Qhp hD2 (by decide) hcz (Qbf hvz).1 (Qbf hvz).2.1 hs.o (by omega) (show 0<s.t-s.f by omega) (by omega) hz).elim fun _ h=>by obtain⟨_,_,_,_,_,_,_,_,_,_,_,_,_,_,_,_,_,_,_,_,_,_,h⟩:=h;exact h
 have g7:=Qij B.drag 1000000 (by unfold i64;omega) (by unfold i64;omega) (by decide);have ft7:fitQ 64 (fr B.drag 1000000):=Qkw (by omega) (by decide) (by decide);have g8:=Qho hD3 ft7 (by decide);have g9:=Qik ftb (Qde hD3 ft7) (by decide);obtain⟨c1,c2⟩:=Qyi (by unfold rngS;simp only [Bool.and_eq_true,decide_eq_true_eq];omega) hvx hvy hvz hB hx hy hz;have eC:baQ s B+drQ s x y z*fr B.drag 1000000=Q0s s B x y z:=rfl;have ftC:=Qgr ftb (Qde hD3 ft7);rw [eC]at g9 ftC;have g10:=up_v ftC (by decide) c1 (by unfold Qox at c2;omega);have eI:upQ (Q0s s B x y z)=Qox s B x y z:=rfl;rw [eI]at g10;have d3:drN s x y z 3=drQ s x y z:=rfl;have d0:drN s x y z 0=fr 0 1:=rfl;have hsg:sgPV s= .agg [.int .i64 s.f,.int .i64 s.t,.int .i64 s.o,.slc (s.x.map (PV.int .i64)),.slc (s.y.map (PV.int .i64)),.slc (s.z.map (PV.int .i64))]:=rfl;refine Z0k 109 [.tmp 6,.tmp 7] Tryz.func110 rfl (by kernel_rfl) (by kernel_rfl) (by kernel_rfl) (by kernel_rfl) ?_;refine Zvq mixed [] [0,1,2,3,4,5,6,7,8,9,10,11,13,32,57,58,59] 4 rfl (St.of [(3,.bp 0 6 0 0),(4,.bp 1 5 0 0),(5,.bp 2 3 0 0),(8,.int .i64 (s.t-s.f)),(9,.bp 205 4 0 0)] [(0,{els:=[sgPV s],esz:=6,ety:=121,fro:=0,live:=true,arr:=false}),(1,{els:=[baPV B],esz:=5,ety:=28,fro:=0,live:=true,arr:=false}),(2,{els:=[.agg [.int .i64 x,.int .i64 y,.int .i64 z]],esz:=3,ety:=69,fro:=0,live:=true,arr:=false}),(205,raB (baQ s B))]) ?_ ?_
 ·simp only [codes,Qou,List.take_succ_cons,List.take_zero,List.drop_succ_cons,List.drop_zero,List.foldr_cons,List.foldr_nil];clear hD1 hD2 hD3 g6 g7 g8 g9 g10 ftC eC;unfold baQ;by_cases hn:(wayQ s.z s.o).num<0
  ·rw [if_pos hn];have hn':=decide_eq_true hn;generalize wayQ s.z s.o=W at*;generalize fr (B.base*(s.t-s.f)) 1000=E1 at*;unfold ratQ Qdx at g1 g2;simp only [hn']at g2;repeat (first|(simp -implicitDefEqProofs only [go_sem,seval,hwt,hwbt])|((with_reducible refine Qaa g1 ?_ ?_ ?_);rfl;rfl)|((with_reducible refine Qaa g2 ?_ ?_ ?_);rfl;rfl))
   refine Qan (θ:=[(0,0),(1,1),(2,2),(205,205)]) rfl ?_ ?_
   ·simp [Qaf,lkp,ren1,ren0,Qai]
   ·simp only [raB,ratQ,Qdx];exact⟨⟨rfl,rfl,rfl,rfl,rfl,.inr ⟨rfl,_,_,rfl,rfl,rfl,rfl⟩⟩,⟨rfl,rfl,rfl,rfl,rfl,.inr ⟨rfl,_,_,rfl,rfl,rfl,rfl⟩⟩,⟨rfl,rfl,rfl,rfl,rfl,.inr ⟨rfl,_,_,rfl,rfl,rfl,rfl⟩⟩,⟨rfl,rfl,rfl,rfl,rfl,.inr ⟨rfl,_,_,rfl,rfl,rfl,rfl⟩⟩,trivial⟩
  ·rw [if_neg hn];have hn':=decide_eq_false hn;generalize fr (B.base*(s.t-s.f)) 1000+wayQ s.z s.o*fr B.climb 100=E3 at*;generalize wayQ s.z s.o*fr B.climb 100=E2 at*;generalize wayQ s.z s.o=W at*;generalize fr (B.base*(s.t-s.f)) 1000=E1 at*;generalize fr B.climb 100=E4 at*;unfold ratQ Qdx at g1 g2 g3 g4 g5;simp only [hn']at g2 g4;repeat (first|(simp -implicitDefEqProofs only [go_sem,seval,hwt,hwbt])|((with_reducible refine Qaa g1 ?_ ?_ ?_);rfl;rfl)|((with_reducible refine Qaa g2 ?_ ?_ ?_);rfl;rfl)|((with_reducible refine Qaa g3 ?_ ?_ ?_);rfl;rfl)|((with_reducible refine Qaa g4 ?_ ?_ ?_);rfl;rfl)|((with_reducible refine Qaa g5 ?_ ?_ ?_);rfl;rfl)|(with_reducible refine And.intro (Qac _ _ (by kernel_rfl)) ?_))
   refine Qan (θ:=[(0,0),(1,1),(2,2),(205,205)]) rfl ?_ ?_
   ·simp [Qaf,lkp,ren1,ren0,Qai]
   ·simp only [raB,ratQ,Qdx];exact⟨⟨rfl,rfl,rfl,rfl,rfl,.inr ⟨rfl,_,_,rfl,rfl,rfl,rfl⟩⟩,⟨rfl,rfl,rfl,rfl,rfl,.inr ⟨rfl,_,_,rfl,rfl,rfl,rfl⟩⟩,⟨rfl,rfl,rfl,rfl,rfl,.inr ⟨rfl,_,_,rfl,rfl,rfl,rfl⟩⟩,⟨rfl,rfl,rfl,rfl,rfl,.inr ⟨rfl,_,_,rfl,rfl,rfl,rfl⟩⟩,trivial⟩
 ·refine v_go (tb:=[]) (ks:=[0,1,2,3,4,5,6,7,8,9,10,11,13,32,57,58,59]) mixed ?_;simp only [codes,Qou,List.take_succ_cons,List.take_zero,List.drop_succ_cons,List.drop_zero,List.foldr_cons,List.foldr_nil];clear g1 g2 g3 g4 g5 ft1 ft2 ft3 hwbt;rw [←d0]at g6 ft6;generalize hE:baQ s B=E at*;generalize hG:drN s x y z 0=G at*;unfold ratQ Qdx at g6;simp only [raB];unfold ratQ Qdx;repeat (first|(simp -implicitDefEqProofs only [go_sem,seval])|((with_reducible refine Qaa g6 ?_ ?_ ?_);rfl;rfl))
  refine Qav mixed (fun k:{k:Nat // k≤3}=>St.of [(3,.bp 0 6 0 0),(4,.bp 1 5 0 0),(8,.int .i64 (s.t-s.f)),(9,.bp 205 4 0 0),(11,.bp 601 4 0 0),(57,.agg [.slc (s.x.map (PV.int .i64)),.int .i64 x,.slc (s.y.map (PV.int .i64)),.int .i64 y,.slc (s.z.map (PV.int .i64)),.int .i64 z]),(58,.int .i64 (k.1:Int))] [(0,{els:=[sgPV s],esz:=6,ety:=121,fro:=0,live:=true,arr:=false}),(1,{els:=[baPV B],esz:=5,ety:=28,fro:=0,live:=true,arr:=false}),(205,raB E),(601,raB (drN s x y z k.1))]) (fun k=>3-k.1) ⟨0,Nat.zero_le _⟩ ?_ ?_
  ·refine Qan (θ:=[(0,0),(1,1),(205,205),(601,601)]) rfl ?_ ?_
   ·simp [Qaf,lkp,ren1,ren0,Qai]
   ·simp only [hG,raB,ratQ,Qdx];exact⟨⟨rfl,rfl,rfl,rfl,rfl,.inr ⟨rfl,_,_,rfl,rfl,rfl,rfl⟩⟩,⟨rfl,rfl,rfl,rfl,rfl,.inr ⟨rfl,_,_,rfl,rfl,rfl,rfl⟩⟩,⟨rfl,rfl,rfl,rfl,rfl,.inr ⟨rfl,_,_,rfl,rfl,rfl,rfl⟩⟩,⟨rfl,rfl,rfl,rfl,rfl,.inr ⟨rfl,_,_,rfl,rfl,rfl,rfl⟩⟩,trivial⟩
  ·subst hG;rintro⟨k,hk⟩;rcases(show k=0∨k=1∨k=2∨k=3 by omega)with rfl|rfl|rfl|rfl
   ·skip
    have hA':((0:Int)<3)=True:=eq_true (by decide);obtain⟨q1,q2,q3,q4,q5,q6,q7,q8,q9,q10,q11,f1,f2,f3,f4,f5,f6,f7,f8,f9,f10,f11,f12,fD⟩:=Qhp (c:=s.x) (o:=s.o) (t:=s.t-s.f) (b:=x) (D:=drN s x y z 0) ft6 (by decide) hcx (Qbf hvx).1 (Qbf hvx).2.1 hs.o (by omega) (by omega) (by omega) (by omega);have eD:axQ (drN s x y z 0) s.x s.o (s.t-s.f) x=drN s x y z (0+1):=rfl;rw [eD]at f12;have hwb:IntKind.i64.wrap (-2*x)= -2*x:=Qag (by omega) (by omega);have hwc:IntKind.i64.wrap (x*x)=x*x:=by have:=hbx;exact Qag (by omega) (by omega)
    generalize hq0:drN s x y z 0=D0 at*;generalize hq1:drN s x y z (0+1)=D1 at*;simp only [raB];unfold ratQ Qdx at f1 f2 f3 f4 f5 f6 f7 f8 f9 f10 f11 f12 ⊢;repeat (first|(simp -implicitDefEqProofs only [go_sem,seval,hA',Z06,Qi4])|((with_reducible refine Qaa f1 ?_ ?_ ?_);rfl;rfl)|((with_reducible refine Qaa f2 ?_ ?_ ?_);rfl;rfl)|((with_reducible refine Qaa f3 ?_ ?_ ?_);rfl;rfl)|((with_reducible refine Qaa f4 ?_ ?_ ?_);rfl;rfl)|(with_reducible refine And.intro (Qac _ _ (by kernel_rfl)) ?_))
    repeat (first|(simp -implicitDefEqProofs only [go_sem,seval,hwb,hwc])|((with_reducible refine Qaa f5 ?_ ?_ ?_);rfl;rfl)|((with_reducible refine Qaa f6 ?_ ?_ ?_);rfl;rfl)|((with_reducible refine Qaa f7 ?_ ?_ ?_);rfl;rfl)|((with_reducible refine Qaa f8 ?_ ?_ ?_);rfl;rfl)|(with_reducible refine And.intro (Qac _ _ (by kernel_rfl)) ?_))
    repeat (first|(simp -implicitDefEqProofs only [go_sem,seval,Qq7])|((with_reducible refine Qaa f9 ?_ ?_ ?_);rfl;rfl)|((with_reducible refine Qaa f10 ?_ ?_ ?_);rfl;rfl)|((with_reducible refine Qaa f11 ?_ ?_ ?_);rfl;rfl)|((with_reducible refine Qaa f12 ?_ ?_ ?_);rfl;rfl)|(with_reducible refine And.intro (Qac _ _ (by kernel_rfl)) ?_))
    refine⟨⟨0+1,by omega⟩,by simp only;omega,Qan (θ:=[(0,0),(1,1),(205,205),(601,601)]) rfl ?_ ?_⟩
    ·simp [Qaf,lkp,ren1,ren0,Qai]
    ·have hq2:drN s x y z 1=D1:=hq1;simp only [Nat.reduceAdd,hq2,raB,ratQ,Qdx];exact⟨⟨rfl,rfl,rfl,rfl,rfl,.inr ⟨rfl,_,_,rfl,rfl,rfl,rfl⟩⟩,⟨rfl,rfl,rfl,rfl,rfl,.inr ⟨rfl,_,_,rfl,rfl,rfl,rfl⟩⟩,⟨rfl,rfl,rfl,rfl,rfl,.inr ⟨rfl,_,_,rfl,rfl,rfl,rfl⟩⟩,⟨rfl,rfl,rfl,rfl,rfl,.inr ⟨rfl,_,_,rfl,rfl,rfl,rfl⟩⟩,trivial⟩
   ·skip
    have hA':((1:Int)<3)=True:=eq_true (by decide);obtain⟨q1,q2,q3,q4,q5,q6,q7,q8,q9,q10,q11,f1,f2,f3,f4,f5,f6,f7,f8,f9,f10,f11,f12,fD⟩:=Qhp (c:=s.y) (o:=s.o) (t:=s.t-s.f) (b:=y) (D:=drN s x y z 1) hD1 (by decide) hcy (Qbf hvy).1 (Qbf hvy).2.1 hs.o (by omega) (by omega) (by omega) (by omega);have eD:axQ (drN s x y z 1) s.y s.o (s.t-s.f) y=drN s x y z (1+1):=rfl;rw [eD]at f12;have hwb:IntKind.i64.wrap (-2*y)= -2*y:=Qag (by omega) (by omega);have hwc:IntKind.i64.wrap (y*y)=y*y:=by have:=hby;exact Qag (by omega) (by omega)
    generalize hq0:drN s x y z 1=D0 at*;generalize hq1:drN s x y z (1+1)=D1 at*;simp only [raB];unfold ratQ Qdx at f1 f2 f3 f4 f5 f6 f7 f8 f9 f10 f11 f12 ⊢;repeat (first|(simp -implicitDefEqProofs only [go_sem,seval,hA',Z07,Qi4])|((with_reducible refine Qaa f1 ?_ ?_ ?_);rfl;rfl)|((with_reducible refine Qaa f2 ?_ ?_ ?_);rfl;rfl)|((with_reducible refine Qaa f3 ?_ ?_ ?_);rfl;rfl)|((with_reducible refine Qaa f4 ?_ ?_ ?_);rfl;rfl)|(with_reducible refine And.intro (Qac _ _ (by kernel_rfl)) ?_))
    repeat (first|(simp -implicitDefEqProofs only [go_sem,seval,hwb,hwc])|((with_reducible refine Qaa f5 ?_ ?_ ?_);rfl;rfl)|((with_reducible refine Qaa f6 ?_ ?_ ?_);rfl;rfl)|((with_reducible refine Qaa f7 ?_ ?_ ?_);rfl;rfl)|((with_reducible refine Qaa f8 ?_ ?_ ?_);rfl;rfl)|(with_reducible refine And.intro (Qac _ _ (by kernel_rfl)) ?_))
    repeat (first|(simp -implicitDefEqProofs only [go_sem,seval,Qv9])|((with_reducible refine Qaa f9 ?_ ?_ ?_);rfl;rfl)|((with_reducible refine Qaa f10 ?_ ?_ ?_);rfl;rfl)|((with_reducible refine Qaa f11 ?_ ?_ ?_);rfl;rfl)|((with_reducible refine Qaa f12 ?_ ?_ ?_);rfl;rfl)|(with_reducible refine And.intro (Qac _ _ (by kernel_rfl)) ?_))
    refine⟨⟨1+1,by omega⟩,by simp only;omega,Qan (θ:=[(0,0),(1,1),(205,205),(601,601)]) rfl ?_ ?_⟩
    ·simp [Qaf,lkp,ren1,ren0,Qai]
    ·have hq2:drN s x y z 2=D1:=hq1;simp only [Nat.reduceAdd,hq2,raB,ratQ,Qdx];exact⟨⟨rfl,rfl,rfl,rfl,rfl,.inr ⟨rfl,_,_,rfl,rfl,rfl,rfl⟩⟩,⟨rfl,rfl,rfl,rfl,rfl,.inr ⟨rfl,_,_,rfl,rfl,rfl,rfl⟩⟩,⟨rfl,rfl,rfl,rfl,rfl,.inr ⟨rfl,_,_,rfl,rfl,rfl,rfl⟩⟩,⟨rfl,rfl,rfl,rfl,rfl,.inr ⟨rfl,_,_,rfl,rfl,rfl,rfl⟩⟩,trivial⟩
   ·skip
    have hA':((2:Int)<3)=True:=eq_true (by decide);obtain⟨q1,q2,q3,q4,q5,q6,q7,q8,q9,q10,q11,f1,f2,f3,f4,f5,f6,f7,f8,f9,f10,f11,f12,fD⟩:=Qhp (c:=s.z) (o:=s.o) (t:=s.t-s.f) (b:=z) (D:=drN s x y z 2) hD2 (by decide) hcz (Qbf hvz).1 (Qbf hvz).2.1 hs.o (by omega) (by omega) (by omega) (by omega);have eD:axQ (drN s x y z 2) s.z s.o (s.t-s.f) z=drN s x y z (2+1):=rfl;rw [eD]at f12;have hwb:IntKind.i64.wrap (-2*z)= -2*z:=Qag (by omega) (by omega);have hwc:IntKind.i64.wrap (z*z)=z*z:=by have:=hbz;exact Qag (by omega) (by omega)
    generalize hq0:drN s x y z 2=D0 at*;generalize hq1:drN s x y z (2+1)=D1 at*;simp only [raB];unfold ratQ Qdx at f1 f2 f3 f4 f5 f6 f7 f8 f9 f10 f11 f12 ⊢;repeat (first|(simp -implicitDefEqProofs only [go_sem,seval,hA',Z08,Qi4])|((with_reducible refine Qaa f1 ?_ ?_ ?_);rfl;rfl)|((with_reducible refine Qaa f2 ?_ ?_ ?_);rfl;rfl)|((with_reducible refine Qaa f3 ?_ ?_ ?_);rfl;rfl)|((with_reducible refine Qaa f4 ?_ ?_ ?_);rfl;rfl)|(with_reducible refine And.intro (Qac _ _ (by kernel_rfl)) ?_))
    repeat (first|(simp -implicitDefEqProofs only [go_sem,seval,hwb,hwc])|((with_reducible refine Qaa f5 ?_ ?_ ?_);rfl;rfl)|((with_reducible refine Qaa f6 ?_ ?_ ?_);rfl;rfl)|((with_reducible refine Qaa f7 ?_ ?_ ?_);rfl;rfl)|((with_reducible refine Qaa f8 ?_ ?_ ?_);rfl;rfl)|(with_reducible refine And.intro (Qac _ _ (by kernel_rfl)) ?_))
    repeat (first|(simp -implicitDefEqProofs only [go_sem,seval,Q59])|((with_reducible refine Qaa f9 ?_ ?_ ?_);rfl;rfl)|((with_reducible refine Qaa f10 ?_ ?_ ?_);rfl;rfl)|((with_reducible refine Qaa f11 ?_ ?_ ?_);rfl;rfl)|((with_reducible refine Qaa f12 ?_ ?_ ?_);rfl;rfl)|(with_reducible refine And.intro (Qac _ _ (by kernel_rfl)) ?_))
    refine⟨⟨2+1,by omega⟩,by simp only;omega,Qan (θ:=[(0,0),(1,1),(205,205),(601,601)]) rfl ?_ ?_⟩
    ·simp [Qaf,lkp,ren1,ren0,Qai]
    ·have hq2:drN s x y z 3=D1:=hq1;simp only [Nat.reduceAdd,hq2,raB,ratQ,Qdx];exact⟨⟨rfl,rfl,rfl,rfl,rfl,.inr ⟨rfl,_,_,rfl,rfl,rfl,rfl⟩⟩,⟨rfl,rfl,rfl,rfl,rfl,.inr ⟨rfl,_,_,rfl,rfl,rfl,rfl⟩⟩,⟨rfl,rfl,rfl,rfl,rfl,.inr ⟨rfl,_,_,rfl,rfl,rfl,rfl⟩⟩,⟨rfl,rfl,rfl,rfl,rfl,.inr ⟨rfl,_,_,rfl,rfl,rfl,rfl⟩⟩,trivial⟩
   ·have hA':((3:Int)<3)=False:=eq_false (by decide);simp only [d3];generalize baQ s B+drQ s x y z*fr B.drag 1000000=T at*;generalize Q0s s B x y z=T3 at*;generalize drQ s x y z*fr B.drag 1000000=T2 at*;generalize drQ s x y z=T1 at*;generalize fr B.drag 1000000=T4 at*;generalize Qox s B x y z=I at*;simp only [raB];unfold ratQ Qdx at g7 g8 g9 g10 ⊢;repeat (first|(simp -implicitDefEqProofs only [go_sem,seval,hA',Qi4])|((with_reducible refine Qaa g7 ?_ ?_ ?_);rfl;rfl)|((with_reducible refine Qaa g8 ?_ ?_ ?_);rfl;rfl)|((with_reducible refine Qaa g9 ?_ ?_ ?_);rfl;rfl)|((with_reducible refine Qaa g10 ?_ ?_ ?_);rfl;rfl)|(with_reducible exact Qac _ _ (by kernel_rfl)))
end Go.Proofs.YtdpajapkhembcaaGreatDoor

namespace Go.Dg
def mxE:Int:=1125899906842624
def preI (cs:List Int) (k:Nat):Int:=sm (fun i=>cs.getD i 0) k
theorem Qmn (cs:List Int) (k:Nat):preI cs (k+1)=preI cs k+cs.getD k 0:=rfl
def okCs (cs:List Int):Prop:= ∀c∈cs,0≤c∧c≤400000000000000000
theorem Q4h {cs:List Int} (h:okCs cs) (k:Nat):0≤cs.getD k 0∧cs.getD k 0≤400000000000000000:=by
 by_cases hk:k<cs.length
 ·rw [List.getD_eq_getElem?_getD,List.getElem?_eq_getElem hk];exact h _ (List.getElem_mem hk)
 ·rw [List.getD_eq_getElem?_getD,List.getElem?_eq_none (by omega)];decide
theorem Qs5 {cs:List Int} (h:okCs cs) {j k:Nat} (hjk:j≤k):preI cs j≤preI cs k:=by
 induction k with
 |zero=>
    obtain rfl:j=0:=by omega
    exact Int.le_refl _
 |succ k ih=>
  have:=(Q4h h k).1;rw [Qmn];by_cases e:j=k+1
  ·subst e;rw [Qmn];exact Int.le_refl _
  ·have:=ih (by omega);omega
theorem Q4i {cs:List Int} (h:okCs cs) (k:Nat):0≤preI cs k:=by
 have:=Qs5 h (Nat.zero_le k);exact this
def smL (cs:List Int) (k:Nat):List Int:=(List.range k).map fun j=>preI cs (j+1)
theorem Zd6 (cs:List Int) (k:Nat):smL cs (k+1)=smL cs k++[preI cs (k+1)]:=by
 unfold smL;rw [List.range_succ,List.map_append];rfl
theorem Qfb (cs:List Int) (k:Nat):(smL cs k).length=k:=by simp [smL]
theorem Zpb {cs:List Int} {k i:Nat} (h:i<k):(smL cs k).getD i 0=preI cs (i+1):=by simp [smL,h]
def cutE (cs:List Int):Nat:=(List.range cs.length).findIdx fun j=>decide (mxE<preI cs (j+1))
theorem Zd7 {n i:Nat} {p:Nat→Bool} (h:i<n) (h1:p i=true) (h2: ∀j,j<i→p j=false):(List.range n).findIdx p=i:=by
 rw [List.findIdx_eq (by simpa using h)];exact⟨by simpa using h1,fun j hj=>by simpa using h2 j hj⟩
theorem Q4j {n:Nat} {p:Nat→Bool} (h2: ∀j,j<n→p j=false):(List.range n).findIdx p=n:=by
 have:=List.findIdx_eq_length_of_false (xs:=List.range n) (p:=p) (fun x hx=>h2 x (List.mem_range.1 hx))
 rwa [List.length_range]at this
theorem Qs6 {cs:List Int} {i:Nat} (hi:i<cs.length) (h: ∀j,j<i→preI cs (j+1)≤mxE) (hs:mxE<preI cs (i+1)):cutE cs=i:=
 Zd7 hi (decide_eq_true hs) fun j hj=>decide_eq_false (by have:=h j hj;omega)
theorem Qye {cs:List Int} (h: ∀j,j<cs.length→preI cs (j+1)≤mxE):cutE cs=cs.length:=
 Q4j fun j hj=>decide_eq_false (by have:=h j hj;omega)
theorem Q4k {cs:List Int} (hc:okCs cs) (hl:0<cs.length):(preI cs cs.length≤mxE→cutE cs=cs.length)∧(mxE<preI cs cs.length→cutE cs<cs.length):=by
 refine⟨fun h=>Qye fun j hj=>Int.le_trans (Qs5 hc hj) h,fun h=> ?_⟩;have hlt:=List.findIdx_lt_length_of_exists (xs:=List.range cs.length) (p:=fun j=>decide (mxE<preI cs (j+1))) ⟨cs.length-1,List.mem_range.2 (by omega),decide_eq_true (by rw [Nat.sub_add_cancel hl];exact h)⟩
 rwa [List.length_range]at hlt
end Go.Dg
