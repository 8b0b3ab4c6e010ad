/-
  Dbu, Dbv, Dbw, XB2, XB3 (merged for the claim).
-/
import Derived.Test.YtciddhkfbgkejaaDoorDsn
import Derived.Test.YtciddhkfbgkejaaDoorDsg
set_option linter.unusedSimpArgs false
set_option linter.unusedVariables false
namespace Go.Dg
def coQ (c:List Int) (o:Int) (i:Nat):Rat:=((c.getD i 0:Int):Rat)/(o:Rat)
def ikQ (i k:Nat):Rat:=(((i:Int)*(k:Int):Int):Rat)/(((i:Int)+(k:Int)-1:Int):Rat)
def sqT (c:List Int) (o:Int) (i k:Nat):Rat:=coQ c o i*coQ c o k*ikQ i k
def sqR (c:List Int) (o:Int) (i k:Nat):Rat:=qs (fun j=>sqT c o i (j+1)) k
def sqS (c:List Int) (o:Int) (i:Nat):Rat:=qs (fun j=>sqR c o (j+1) (c.length-1)) i
def sqQ (c:List Int) (o:Int):Rat:=sqS c o (c.length-1)
def wyS (c:List Int) (o:Int) (n:Nat):Rat:=qs (fun j=>coQ c o (j+1)) n
def wayQ (c:List Int) (o:Int):Rat:=wyS c o (c.length-1)
theorem Qwz:ikQ 1 1=1:=by decide+kernel
theorem Q2y:ikQ 1 2=1:=by decide+kernel
theorem Zay:ikQ 1 3=1:=by decide+kernel
theorem Zhx:ikQ 1 4=1:=by decide+kernel
theorem Zk7:ikQ 1 5=1:=by decide+kernel
theorem Q2z:ikQ 2 1=1:=by decide+kernel
theorem Q20:ikQ 2 2=(4/3):=by decide+kernel
theorem Zaz:ikQ 2 3=(3/2):=by decide+kernel
theorem Zhy:ikQ 2 4=(8/5):=by decide+kernel
theorem Zk8:ikQ 2 5=(5/3):=by decide+kernel
theorem Za0:ikQ 3 1=1:=by decide+kernel
theorem Za1:ikQ 3 2=(3/2):=by decide+kernel
theorem Za2:ikQ 3 3=(9/5):=by decide+kernel
theorem Zhz:ikQ 3 4=2:=by decide+kernel
theorem Zk9:ikQ 3 5=(15/7):=by decide+kernel
theorem Zh0:ikQ 4 1=1:=by decide+kernel
theorem Zh1:ikQ 4 2=(8/5):=by decide+kernel
theorem Zh2:ikQ 4 3=2:=by decide+kernel
theorem Zh3:ikQ 4 4=(16/7):=by decide+kernel
theorem Zla:ikQ 4 5=(5/2):=by decide+kernel
theorem Zlb:ikQ 5 1=1:=by decide+kernel
theorem Zlc:ikQ 5 2=(5/3):=by decide+kernel
theorem Zld:ikQ 5 3=(15/7):=by decide+kernel
theorem Zle:ikQ 5 4=(5/2):=by decide+kernel
theorem Zlf:ikQ 5 5=(25/9):=by decide+kernel
theorem Qgu (c:List Int) (o:Int) (i:Nat) (x:Int) (h:c.getD i 0=x):coQ c o i=(x:Rat)/(o:Rat):=by rw [coQ,h]
theorem Qek {x o:Int} (ho:0<o) (h1: -(125829120*o)≤x) (h2:x≤125829120*o): -2097152≤(x:Rat)/(60*(o:Rat))∧(x:Rat)/(60*(o:Rat))≤2097152:=by
 have o0:(0:Rat)<(o:Rat):=by exact_mod_cast ho
 have h1':=Rat.intCast_le_intCast.2 h1
 simp only [Rat.intCast_neg,Rat.intCast_mul,Rat.intCast_ofNat]at h1'
 have h2':=Rat.intCast_le_intCast.2 h2
 simp only [Rat.intCast_mul,Rat.intCast_ofNat]at h2'
 have e:(x:Rat)/(60*(o:Rat))*(60*(o:Rat))=(x:Rat):=Rat.div_mul_cancel (by grind)
 have p:(0:Rat)<60*(o:Rat):=by grind
 generalize (x:Rat)/(60*(o:Rat))=q at*
 refine⟨Rat.le_of_mul_le_mul_right (c:=60*(o:Rat)) ?_ p,Rat.le_of_mul_le_mul_right (c:=60*(o:Rat)) ?_ p⟩<;>grind
theorem axB1 {a0 a1 o:Int} (ho:0<o) (h: ∀j,j<2→((ctl [a0,a1] j).natAbs:Int)≤62914560*o):
  wayQ [a0,a1] o*wayQ [a0,a1] o≤sqQ [a0,a1] o∧sqQ [a0,a1] o≤1*(2097152*2097152)∧ -2097152≤wayQ [a0,a1] o∧wayQ [a0,a1] o≤2097152:=by
 have o0:(0:Rat)<(o:Rat):=by exact_mod_cast ho
 have c0:ctl [a0,a1] 0=a0*60:=by simp [ctl,sm,cw,bin]
 have g0:=Qct (h 0 (by decide))
 rw [c0]at g0
 have c1:ctl [a0,a1] 1=a0*60+a1*60:=by simp [ctl,sm,cw,bin]
 have g1:=Qct (h 1 (by decide))
 rw [c1]at g1
 have x1:coQ [a0,a1] o 1=(a1:Rat)/(o:Rat):=Qgu _ _ _ _ rfl
 have d0:=Qek (x:=(a0*60+a1*60)-(a0*60)) ho (by omega) (by omega)
 have e0:((((a0*60+a1*60)-(a0*60):Int)):Rat)/(60*(o:Rat))=(a1:Rat)/(o:Rat)*1:=by simp only [Rat.intCast_add,Rat.intCast_sub,Rat.intCast_mul,Rat.intCast_ofNat];grind
 have dw:=Qek (x:=(a0*60+a1*60)-(a0*60)) ho (by omega) (by omega)
 have ew:((((a0*60+a1*60)-(a0*60):Int)):Rat)/(60*(o:Rat))=(a1:Rat)/(o:Rat):=by simp only [Rat.intCast_add,Rat.intCast_sub,Rat.intCast_mul,Rat.intCast_ofNat];grind
 have hw:wayQ [a0,a1] o=(a1:Rat)/(o:Rat):=by
  show wyS [a0,a1] o 1=_
  simp only [wyS,qs,Nat.zero_add,Nat.reduceAdd,x1,Rat.zero_add]
 have hs:sqQ [a0,a1] o=(a1:Rat)/(o:Rat)*((a1:Rat)/(o:Rat))*1:=by
  show qs (fun j=>qs (fun m=>sqT [a0,a1] o (j+1) (m+1)) 1) 1=_
  simp only [qs,sqT,Nat.zero_add,Nat.reduceAdd,x1,Qwz,Rat.zero_add]
 rw [e0]at d0
 rw [ew]at dw
 rw [hw,hs]
 clear hw hs e0 x1 ew h c0 c1 g0 g1
 generalize (a1:Rat)/(o:Rat)=r1 at*
 have hu:=Zhs (K:=2097152) (d0:=r1*1) rfl d0
 have hl:=Qok r1 0 0 0 0
 refine⟨by grind,by grind,by grind,by grind⟩
theorem axB2 {a0 a1 a2 o:Int} (ho:0<o) (h: ∀j,j<3→((ctl [a0,a1,a2] j).natAbs:Int)≤62914560*o):
  wayQ [a0,a1,a2] o*wayQ [a0,a1,a2] o≤sqQ [a0,a1,a2] o∧sqQ [a0,a1,a2] o≤4*(2097152*2097152)∧ -2097152≤wayQ [a0,a1,a2] o∧wayQ [a0,a1,a2] o≤2097152:=by
 have o0:(0:Rat)<(o:Rat):=by exact_mod_cast ho
 have c0:ctl [a0,a1,a2] 0=a0*60:=by simp [ctl,sm,cw,bin]
 have g0:=Qct (h 0 (by decide))
 rw [c0]at g0
 have c1:ctl [a0,a1,a2] 1=a0*60+a1*30:=by simp [ctl,sm,cw,bin]
 have g1:=Qct (h 1 (by decide))
 rw [c1]at g1
 have c2:ctl [a0,a1,a2] 2=a0*60+a1*60+a2*60:=by simp [ctl,sm,cw,bin]
 have g2:=Qct (h 2 (by decide))
 rw [c2]at g2
 have x1:coQ [a0,a1,a2] o 1=(a1:Rat)/(o:Rat):=Qgu _ _ _ _ rfl
 have x2:coQ [a0,a1,a2] o 2=(a2:Rat)/(o:Rat):=Qgu _ _ _ _ rfl
 have d0:=Qek (x:=(a0*60+a1*30)-(a0*60)) ho (by omega) (by omega)
 have e0:((((a0*60+a1*30)-(a0*60):Int)):Rat)/(60*(o:Rat))=(a1:Rat)/(o:Rat)*(1/2):=by simp only [Rat.intCast_add,Rat.intCast_sub,Rat.intCast_mul,Rat.intCast_ofNat];grind
 have d1:=Qek (x:=(a0*60+a1*60+a2*60)-(a0*60+a1*30)) ho (by omega) (by omega)
 have e1:((((a0*60+a1*60+a2*60)-(a0*60+a1*30):Int)):Rat)/(60*(o:Rat))=(a1:Rat)/(o:Rat)*(1/2)+(a2:Rat)/(o:Rat)*1:=by simp only [Rat.intCast_add,Rat.intCast_sub,Rat.intCast_mul,Rat.intCast_ofNat];grind
 have dw:=Qek (x:=(a0*60+a1*60+a2*60)-(a0*60)) ho (by omega) (by omega)
 have ew:((((a0*60+a1*60+a2*60)-(a0*60):Int)):Rat)/(60*(o:Rat))=(a1:Rat)/(o:Rat)+(a2:Rat)/(o:Rat):=by simp only [Rat.intCast_add,Rat.intCast_sub,Rat.intCast_mul,Rat.intCast_ofNat];grind
 have hw:wayQ [a0,a1,a2] o=(a1:Rat)/(o:Rat)+(a2:Rat)/(o:Rat):=by
  show wyS [a0,a1,a2] o 2=_
  simp only [wyS,qs,Nat.zero_add,Nat.reduceAdd,x1,x2,Rat.zero_add]
 have hs:sqQ [a0,a1,a2] o=(a1:Rat)/(o:Rat)*((a1:Rat)/(o:Rat))*1+(a1:Rat)/(o:Rat)*((a2:Rat)/(o:Rat))*1+(a2:Rat)/(o:Rat)*((a1:Rat)/(o:Rat))*1+(a2:Rat)/(o:Rat)*((a2:Rat)/(o:Rat))*(4/3):=by
  show qs (fun j=>qs (fun m=>sqT [a0,a1,a2] o (j+1) (m+1)) 2) 2=_
  simp only [qs,sqT,Nat.zero_add,Nat.reduceAdd,x1,x2,Qwz,Q2y,Q2z,Q20,Rat.zero_add]
  grind
 rw [e0]at d0
 rw [e1]at d1
 rw [ew]at dw
 rw [hw,hs]
 clear hw hs e0 e1 x1 x2 ew h c0 c1 c2 g0 g1 g2
 generalize (a1:Rat)/(o:Rat)=r1 at*
 generalize (a2:Rat)/(o:Rat)=r2 at*
 have hu:=Zht (K:=2097152) (d0:=r1*(1/2)) (d1:=r1*(1/2)+r2*1) rfl rfl d0 d1
 have hl:=Qok r1 r2 0 0 0
 refine⟨by grind,by grind,by grind,by grind⟩
theorem axB3 {a0 a1 a2 a3 o:Int} (ho:0<o) (h: ∀j,j<4→((ctl [a0,a1,a2,a3] j).natAbs:Int)≤62914560*o):
  wayQ [a0,a1,a2,a3] o*wayQ [a0,a1,a2,a3] o≤sqQ [a0,a1,a2,a3] o∧sqQ [a0,a1,a2,a3] o≤9*(2097152*2097152)∧ -2097152≤wayQ [a0,a1,a2,a3] o∧wayQ [a0,a1,a2,a3] o≤2097152:=by
 have o0:(0:Rat)<(o:Rat):=by exact_mod_cast ho
 have c0:ctl [a0,a1,a2,a3] 0=a0*60:=by simp [ctl,sm,cw,bin]
 have g0:=Qct (h 0 (by decide))
 rw [c0]at g0
 have c1:ctl [a0,a1,a2,a3] 1=a0*60+a1*20:=by simp [ctl,sm,cw,bin]
 have g1:=Qct (h 1 (by decide))
 rw [c1]at g1
 have c2:ctl [a0,a1,a2,a3] 2=a0*60+a1*40+a2*20:=by simp [ctl,sm,cw,bin]
 have g2:=Qct (h 2 (by decide))
 rw [c2]at g2
 have c3:ctl [a0,a1,a2,a3] 3=a0*60+a1*60+a2*60+a3*60:=by simp [ctl,sm,cw,bin]
 have g3:=Qct (h 3 (by decide))
 rw [c3]at g3
 have x1:coQ [a0,a1,a2,a3] o 1=(a1:Rat)/(o:Rat):=Qgu _ _ _ _ rfl
 have x2:coQ [a0,a1,a2,a3] o 2=(a2:Rat)/(o:Rat):=Qgu _ _ _ _ rfl
 have x3:coQ [a0,a1,a2,a3] o 3=(a3:Rat)/(o:Rat):=Qgu _ _ _ _ rfl
 have d0:=Qek (x:=(a0*60+a1*20)-(a0*60)) ho (by omega) (by omega)
 have e0:((((a0*60+a1*20)-(a0*60):Int)):Rat)/(60*(o:Rat))=(a1:Rat)/(o:Rat)*(1/3):=by simp only [Rat.intCast_add,Rat.intCast_sub,Rat.intCast_mul,Rat.intCast_ofNat];grind
 have d1:=Qek (x:=(a0*60+a1*40+a2*20)-(a0*60+a1*20)) ho (by omega) (by omega)
 have e1:((((a0*60+a1*40+a2*20)-(a0*60+a1*20):Int)):Rat)/(60*(o:Rat))=(a1:Rat)/(o:Rat)*(1/3)+(a2:Rat)/(o:Rat)*(1/3):=by simp only [Rat.intCast_add,Rat.intCast_sub,Rat.intCast_mul,Rat.intCast_ofNat];grind
 have d2:=Qek (x:=(a0*60+a1*60+a2*60+a3*60)-(a0*60+a1*40+a2*20)) ho (by omega) (by omega)
 have e2:((((a0*60+a1*60+a2*60+a3*60)-(a0*60+a1*40+a2*20):Int)):Rat)/(60*(o:Rat))=(a1:Rat)/(o:Rat)*(1/3)+(a2:Rat)/(o:Rat)*(2/3)+(a3:Rat)/(o:Rat)*1:=by simp only [Rat.intCast_add,Rat.intCast_sub,Rat.intCast_mul,Rat.intCast_ofNat];grind
 have dw:=Qek (x:=(a0*60+a1*60+a2*60+a3*60)-(a0*60)) ho (by omega) (by omega)
 have ew:((((a0*60+a1*60+a2*60+a3*60)-(a0*60):Int)):Rat)/(60*(o:Rat))=(a1:Rat)/(o:Rat)+(a2:Rat)/(o:Rat)+(a3:Rat)/(o:Rat):=by simp only [Rat.intCast_add,Rat.intCast_sub,Rat.intCast_mul,Rat.intCast_ofNat];grind
 have hw:wayQ [a0,a1,a2,a3] o=(a1:Rat)/(o:Rat)+(a2:Rat)/(o:Rat)+(a3:Rat)/(o:Rat):=by
  show wyS [a0,a1,a2,a3] o 3=_
  simp only [wyS,qs,Nat.zero_add,Nat.reduceAdd,x1,x2,x3,Rat.zero_add]
 have hs:sqQ [a0,a1,a2,a3] o=(a1:Rat)/(o:Rat)*((a1:Rat)/(o:Rat))*1+(a1:Rat)/(o:Rat)*((a2:Rat)/(o:Rat))*1+(a1:Rat)/(o:Rat)*((a3:Rat)/(o:Rat))*1+(a2:Rat)/(o:Rat)*((a1:Rat)/(o:Rat))*1+(a2:Rat)/(o:Rat)*((a2:Rat)/(o:Rat))*(4/3)+(a2:Rat)/(o:Rat)*((a3:Rat)/(o:Rat))*(3/2)+(a3:Rat)/(o:Rat)*((a1:Rat)/(o:Rat))*1+(a3:Rat)/(o:Rat)*((a2:Rat)/(o:Rat))*(3/2)+(a3:Rat)/(o:Rat)*((a3:Rat)/(o:Rat))*(9/5):=by
  show qs (fun j=>qs (fun m=>sqT [a0,a1,a2,a3] o (j+1) (m+1)) 3) 3=_
  simp only [qs,sqT,Nat.zero_add,Nat.reduceAdd,x1,x2,x3,Qwz,Q2y,Zay,Q2z,Q20,Zaz,Za0,Za1,Za2,Rat.zero_add]
  grind
 rw [e0]at d0
 rw [e1]at d1
 rw [e2]at d2
 rw [ew]at dw
 rw [hw,hs]
 clear hw hs e0 e1 e2 x1 x2 x3 ew h c0 c1 c2 c3 g0 g1 g2 g3
 generalize (a1:Rat)/(o:Rat)=r1 at*
 generalize (a2:Rat)/(o:Rat)=r2 at*
 generalize (a3:Rat)/(o:Rat)=r3 at*
 have hu:=Zhu (K:=2097152) (d0:=r1*(1/3)) (d1:=r1*(1/3)+r2*(1/3)) (d2:=r1*(1/3)+r2*(2/3)+r3*1) rfl rfl rfl d0 d1 d2
 have hl:=Qok r1 r2 r3 0 0
 refine⟨by grind,by grind,by grind,by grind⟩
theorem axB4 {a0 a1 a2 a3 a4 o:Int} (ho:0<o) (h: ∀j,j<5→((ctl [a0,a1,a2,a3,a4] j).natAbs:Int)≤62914560*o):
  wayQ [a0,a1,a2,a3,a4] o*wayQ [a0,a1,a2,a3,a4] o≤sqQ [a0,a1,a2,a3,a4] o∧sqQ [a0,a1,a2,a3,a4] o≤16*(2097152*2097152)∧ -2097152≤wayQ [a0,a1,a2,a3,a4] o∧wayQ [a0,a1,a2,a3,a4] o≤2097152:=by
 have o0:(0:Rat)<(o:Rat):=by exact_mod_cast ho
 have c0:ctl [a0,a1,a2,a3,a4] 0=a0*60:=by simp [ctl,sm,cw,bin]
 have g0:=Qct (h 0 (by decide))
 rw [c0]at g0
 have c1:ctl [a0,a1,a2,a3,a4] 1=a0*60+a1*15:=by simp [ctl,sm,cw,bin]
 have g1:=Qct (h 1 (by decide))
 rw [c1]at g1
 have c2:ctl [a0,a1,a2,a3,a4] 2=a0*60+a1*30+a2*10:=by simp [ctl,sm,cw,bin]
 have g2:=Qct (h 2 (by decide))
 rw [c2]at g2
 have c3:ctl [a0,a1,a2,a3,a4] 3=a0*60+a1*45+a2*30+a3*15:=by simp [ctl,sm,cw,bin]
 have g3:=Qct (h 3 (by decide))
 rw [c3]at g3
 have c4:ctl [a0,a1,a2,a3,a4] 4=a0*60+a1*60+a2*60+a3*60+a4*60:=by simp [ctl,sm,cw,bin]
 have g4:=Qct (h 4 (by decide))
 rw [c4]at g4
 have x1:coQ [a0,a1,a2,a3,a4] o 1=(a1:Rat)/(o:Rat):=Qgu _ _ _ _ rfl
 have x2:coQ [a0,a1,a2,a3,a4] o 2=(a2:Rat)/(o:Rat):=Qgu _ _ _ _ rfl
 have x3:coQ [a0,a1,a2,a3,a4] o 3=(a3:Rat)/(o:Rat):=Qgu _ _ _ _ rfl
 have x4:coQ [a0,a1,a2,a3,a4] o 4=(a4:Rat)/(o:Rat):=Qgu _ _ _ _ rfl
 have d0:=Qek (x:=(a0*60+a1*15)-(a0*60)) ho (by omega) (by omega)
 have e0:((((a0*60+a1*15)-(a0*60):Int)):Rat)/(60*(o:Rat))=(a1:Rat)/(o:Rat)*(1/4):=by simp only [Rat.intCast_add,Rat.intCast_sub,Rat.intCast_mul,Rat.intCast_ofNat];grind
 have d1:=Qek (x:=(a0*60+a1*30+a2*10)-(a0*60+a1*15)) ho (by omega) (by omega)
 have e1:((((a0*60+a1*30+a2*10)-(a0*60+a1*15):Int)):Rat)/(60*(o:Rat))=(a1:Rat)/(o:Rat)*(1/4)+(a2:Rat)/(o:Rat)*(1/6):=by simp only [Rat.intCast_add,Rat.intCast_sub,Rat.intCast_mul,Rat.intCast_ofNat];grind
 have d2:=Qek (x:=(a0*60+a1*45+a2*30+a3*15)-(a0*60+a1*30+a2*10)) ho (by omega) (by omega)
 have e2:((((a0*60+a1*45+a2*30+a3*15)-(a0*60+a1*30+a2*10):Int)):Rat)/(60*(o:Rat))=(a1:Rat)/(o:Rat)*(1/4)+(a2:Rat)/(o:Rat)*(1/3)+(a3:Rat)/(o:Rat)*(1/4):=by simp only [Rat.intCast_add,Rat.intCast_sub,Rat.intCast_mul,Rat.intCast_ofNat];grind
 have d3:=Qek (x:=(a0*60+a1*60+a2*60+a3*60+a4*60)-(a0*60+a1*45+a2*30+a3*15)) ho (by omega) (by omega)
 have e3:((((a0*60+a1*60+a2*60+a3*60+a4*60)-(a0*60+a1*45+a2*30+a3*15):Int)):Rat)/(60*(o:Rat))=(a1:Rat)/(o:Rat)*(1/4)+(a2:Rat)/(o:Rat)*(1/2)+(a3:Rat)/(o:Rat)*(3/4)+(a4:Rat)/(o:Rat)*1:=by simp only [Rat.intCast_add,Rat.intCast_sub,Rat.intCast_mul,Rat.intCast_ofNat];grind
 have dw:=Qek (x:=(a0*60+a1*60+a2*60+a3*60+a4*60)-(a0*60)) ho (by omega) (by omega)
 have ew:((((a0*60+a1*60+a2*60+a3*60+a4*60)-(a0*60):Int)):Rat)/(60*(o:Rat))=(a1:Rat)/(o:Rat)+(a2:Rat)/(o:Rat)+(a3:Rat)/(o:Rat)+(a4:Rat)/(o:Rat):=by simp only [Rat.intCast_add,Rat.intCast_sub,Rat.intCast_mul,Rat.intCast_ofNat];grind
 have hw:wayQ [a0,a1,a2,a3,a4] o=(a1:Rat)/(o:Rat)+(a2:Rat)/(o:Rat)+(a3:Rat)/(o:Rat)+(a4:Rat)/(o:Rat):=by
  show wyS [a0,a1,a2,a3,a4] o 4=_
  simp only [wyS,qs,Nat.zero_add,Nat.reduceAdd,x1,x2,x3,x4,Rat.zero_add]
 have hs:sqQ [a0,a1,a2,a3,a4] o=(a1:Rat)/(o:Rat)*((a1:Rat)/(o:Rat))*1+(a1:Rat)/(o:Rat)*((a2:Rat)/(o:Rat))*1+(a1:Rat)/(o:Rat)*((a3:Rat)/(o:Rat))*1+(a1:Rat)/(o:Rat)*((a4:Rat)/(o:Rat))*1+(a2:Rat)/(o:Rat)*((a1:Rat)/(o:Rat))*1+(a2:Rat)/(o:Rat)*((a2:Rat)/(o:Rat))*(4/3)+(a2:Rat)/(o:Rat)*((a3:Rat)/(o:Rat))*(3/2)+(a2:Rat)/(o:Rat)*((a4:Rat)/(o:Rat))*(8/5)+(a3:Rat)/(o:Rat)*((a1:Rat)/(o:Rat))*1+(a3:Rat)/(o:Rat)*((a2:Rat)/(o:Rat))*(3/2)+(a3:Rat)/(o:Rat)*((a3:Rat)/(o:Rat))*(9/5)+(a3:Rat)/(o:Rat)*((a4:Rat)/(o:Rat))*2+(a4:Rat)/(o:Rat)*((a1:Rat)/(o:Rat))*1+(a4:Rat)/(o:Rat)*((a2:Rat)/(o:Rat))*(8/5)+(a4:Rat)/(o:Rat)*((a3:Rat)/(o:Rat))*2+(a4:Rat)/(o:Rat)*((a4:Rat)/(o:Rat))*(16/7):=by
  show qs (fun j=>qs (fun m=>sqT [a0,a1,a2,a3,a4] o (j+1) (m+1)) 4) 4=_
  simp only [qs,sqT,Nat.zero_add,Nat.reduceAdd,x1,x2,x3,x4,Qwz,Q2y,Zay,Zhx,Q2z,Q20,Zaz,Zhy,Za0,Za1,Za2,Zhz,Zh0,Zh1,Zh2,Zh3,Rat.zero_add]
  grind
 rw [e0]at d0
 rw [e1]at d1
 rw [e2]at d2
 rw [e3]at d3
 rw [ew]at dw
 rw [hw,hs]
 clear hw hs e0 e1 e2 e3 x1 x2 x3 x4 ew h c0 c1 c2 c3 c4 g0 g1 g2 g3 g4
 generalize (a1:Rat)/(o:Rat)=r1 at*
 generalize (a2:Rat)/(o:Rat)=r2 at*
 generalize (a3:Rat)/(o:Rat)=r3 at*
 generalize (a4:Rat)/(o:Rat)=r4 at*
 have hu:=Zhv (K:=2097152) (d0:=r1*(1/4)) (d1:=r1*(1/4)+r2*(1/6)) (d2:=r1*(1/4)+r2*(1/3)+r3*(1/4)) (d3:=r1*(1/4)+r2*(1/2)+r3*(3/4)+r4*1) rfl rfl rfl rfl d0 d1 d2 d3
 have hl:=Qok r1 r2 r3 r4 0
 refine⟨by grind,by grind,by grind,by grind⟩
theorem axB5 {a0 a1 a2 a3 a4 a5 o:Int} (ho:0<o) (h: ∀j,j<6→((ctl [a0,a1,a2,a3,a4,a5] j).natAbs:Int)≤62914560*o):
  wayQ [a0,a1,a2,a3,a4,a5] o*wayQ [a0,a1,a2,a3,a4,a5] o≤sqQ [a0,a1,a2,a3,a4,a5] o∧sqQ [a0,a1,a2,a3,a4,a5] o≤25*(2097152*2097152)∧ -2097152≤wayQ [a0,a1,a2,a3,a4,a5] o∧wayQ [a0,a1,a2,a3,a4,a5] o≤2097152:=by
 have o0:(0:Rat)<(o:Rat):=by exact_mod_cast ho
 have c0:ctl [a0,a1,a2,a3,a4,a5] 0=a0*60:=by simp [ctl,sm,cw,bin]
 have g0:=Qct (h 0 (by decide))
 rw [c0]at g0
 have c1:ctl [a0,a1,a2,a3,a4,a5] 1=a0*60+a1*12:=by simp [ctl,sm,cw,bin]
 have g1:=Qct (h 1 (by decide))
 rw [c1]at g1
 have c2:ctl [a0,a1,a2,a3,a4,a5] 2=a0*60+a1*24+a2*6:=by simp [ctl,sm,cw,bin]
 have g2:=Qct (h 2 (by decide))
 rw [c2]at g2
 have c3:ctl [a0,a1,a2,a3,a4,a5] 3=a0*60+a1*36+a2*18+a3*6:=by simp [ctl,sm,cw,bin]
 have g3:=Qct (h 3 (by decide))
 rw [c3]at g3
 have c4:ctl [a0,a1,a2,a3,a4,a5] 4=a0*60+a1*48+a2*36+a3*24+a4*12:=by simp [ctl,sm,cw,bin]
 have g4:=Qct (h 4 (by decide))
 rw [c4]at g4
 have c5:ctl [a0,a1,a2,a3,a4,a5] 5=a0*60+a1*60+a2*60+a3*60+a4*60+a5*60:=by simp [ctl,sm,cw,bin]
 have g5:=Qct (h 5 (by decide))
 rw [c5]at g5
 have x1:coQ [a0,a1,a2,a3,a4,a5] o 1=(a1:Rat)/(o:Rat):=Qgu _ _ _ _ rfl
 have x2:coQ [a0,a1,a2,a3,a4,a5] o 2=(a2:Rat)/(o:Rat):=Qgu _ _ _ _ rfl
 have x3:coQ [a0,a1,a2,a3,a4,a5] o 3=(a3:Rat)/(o:Rat):=Qgu _ _ _ _ rfl
 have x4:coQ [a0,a1,a2,a3,a4,a5] o 4=(a4:Rat)/(o:Rat):=Qgu _ _ _ _ rfl
 have x5:coQ [a0,a1,a2,a3,a4,a5] o 5=(a5:Rat)/(o:Rat):=Qgu _ _ _ _ rfl
 have d0:=Qek (x:=(a0*60+a1*12)-(a0*60)) ho (by omega) (by omega)
 have e0:((((a0*60+a1*12)-(a0*60):Int)):Rat)/(60*(o:Rat))=(a1:Rat)/(o:Rat)*(1/5):=by simp only [Rat.intCast_add,Rat.intCast_sub,Rat.intCast_mul,Rat.intCast_ofNat];grind
 have d1:=Qek (x:=(a0*60+a1*24+a2*6)-(a0*60+a1*12)) ho (by omega) (by omega)
 have e1:((((a0*60+a1*24+a2*6)-(a0*60+a1*12):Int)):Rat)/(60*(o:Rat))=(a1:Rat)/(o:Rat)*(1/5)+(a2:Rat)/(o:Rat)*(1/10):=by simp only [Rat.intCast_add,Rat.intCast_sub,Rat.intCast_mul,Rat.intCast_ofNat];grind
 have d2:=Qek (x:=(a0*60+a1*36+a2*18+a3*6)-(a0*60+a1*24+a2*6)) ho (by omega) (by omega)
 have e2:((((a0*60+a1*36+a2*18+a3*6)-(a0*60+a1*24+a2*6):Int)):Rat)/(60*(o:Rat))=(a1:Rat)/(o:Rat)*(1/5)+(a2:Rat)/(o:Rat)*(1/5)+(a3:Rat)/(o:Rat)*(1/10):=by simp only [Rat.intCast_add,Rat.intCast_sub,Rat.intCast_mul,Rat.intCast_ofNat];grind
 have d3:=Qek (x:=(a0*60+a1*48+a2*36+a3*24+a4*12)-(a0*60+a1*36+a2*18+a3*6)) ho (by omega) (by omega)
 have e3:((((a0*60+a1*48+a2*36+a3*24+a4*12)-(a0*60+a1*36+a2*18+a3*6):Int)):Rat)/(60*(o:Rat))=(a1:Rat)/(o:Rat)*(1/5)+(a2:Rat)/(o:Rat)*(3/10)+(a3:Rat)/(o:Rat)*(3/10)+(a4:Rat)/(o:Rat)*(1/5):=by simp only [Rat.intCast_add,Rat.intCast_sub,Rat.intCast_mul,Rat.intCast_ofNat];grind
 have d4:=Qek (x:=(a0*60+a1*60+a2*60+a3*60+a4*60+a5*60)-(a0*60+a1*48+a2*36+a3*24+a4*12)) ho (by omega) (by omega)
 have e4:((((a0*60+a1*60+a2*60+a3*60+a4*60+a5*60)-(a0*60+a1*48+a2*36+a3*24+a4*12):Int)):Rat)/(60*(o:Rat))=(a1:Rat)/(o:Rat)*(1/5)+(a2:Rat)/(o:Rat)*(2/5)+(a3:Rat)/(o:Rat)*(3/5)+(a4:Rat)/(o:Rat)*(4/5)+(a5:Rat)/(o:Rat)*1:=by simp only [Rat.intCast_add,Rat.intCast_sub,Rat.intCast_mul,Rat.intCast_ofNat];grind
 have dw:=Qek (x:=(a0*60+a1*60+a2*60+a3*60+a4*60+a5*60)-(a0*60)) ho (by omega) (by omega)
 have ew:((((a0*60+a1*60+a2*60+a3*60+a4*60+a5*60)-(a0*60):Int)):Rat)/(60*(o:Rat))=(a1:Rat)/(o:Rat)+(a2:Rat)/(o:Rat)+(a3:Rat)/(o:Rat)+(a4:Rat)/(o:Rat)+(a5:Rat)/(o:Rat):=by simp only [Rat.intCast_add,Rat.intCast_sub,Rat.intCast_mul,Rat.intCast_ofNat];grind
 have hw:wayQ [a0,a1,a2,a3,a4,a5] o=(a1:Rat)/(o:Rat)+(a2:Rat)/(o:Rat)+(a3:Rat)/(o:Rat)+(a4:Rat)/(o:Rat)+(a5:Rat)/(o:Rat):=by
  show wyS [a0,a1,a2,a3,a4,a5] o 5=_
  simp only [wyS,qs,Nat.zero_add,Nat.reduceAdd,x1,x2,x3,x4,x5,Rat.zero_add]
 have hs:sqQ [a0,a1,a2,a3,a4,a5] o=(a1:Rat)/(o:Rat)*((a1:Rat)/(o:Rat))*1+(a1:Rat)/(o:Rat)*((a2:Rat)/(o:Rat))*1+(a1:Rat)/(o:Rat)*((a3:Rat)/(o:Rat))*1+(a1:Rat)/(o:Rat)*((a4:Rat)/(o:Rat))*1+(a1:Rat)/(o:Rat)*((a5:Rat)/(o:Rat))*1+(a2:Rat)/(o:Rat)*((a1:Rat)/(o:Rat))*1+(a2:Rat)/(o:Rat)*((a2:Rat)/(o:Rat))*(4/3)+(a2:Rat)/(o:Rat)*((a3:Rat)/(o:Rat))*(3/2)+(a2:Rat)/(o:Rat)*((a4:Rat)/(o:Rat))*(8/5)+(a2:Rat)/(o:Rat)*((a5:Rat)/(o:Rat))*(5/3)+(a3:Rat)/(o:Rat)*((a1:Rat)/(o:Rat))*1+(a3:Rat)/(o:Rat)*((a2:Rat)/(o:Rat))*(3/2)+(a3:Rat)/(o:Rat)*((a3:Rat)/(o:Rat))*(9/5)+(a3:Rat)/(o:Rat)*((a4:Rat)/(o:Rat))*2+(a3:Rat)/(o:Rat)*((a5:Rat)/(o:Rat))*(15/7)+(a4:Rat)/(o:Rat)*((a1:Rat)/(o:Rat))*1+(a4:Rat)/(o:Rat)*((a2:Rat)/(o:Rat))*(8/5)+(a4:Rat)/(o:Rat)*((a3:Rat)/(o:Rat))*2+(a4:Rat)/(o:Rat)*((a4:Rat)/(o:Rat))*(16/7)+(a4:Rat)/(o:Rat)*((a5:Rat)/(o:Rat))*(5/2)+(a5:Rat)/(o:Rat)*((a1:Rat)/(o:Rat))*1+(a5:Rat)/(o:Rat)*((a2:Rat)/(o:Rat))*(5/3)+(a5:Rat)/(o:Rat)*((a3:Rat)/(o:Rat))*(15/7)+(a5:Rat)/(o:Rat)*((a4:Rat)/(o:Rat))*(5/2)+(a5:Rat)/(o:Rat)*((a5:Rat)/(o:Rat))*(25/9):=by
  show qs (fun j=>qs (fun m=>sqT [a0,a1,a2,a3,a4,a5] o (j+1) (m+1)) 5) 5=_
  simp only [qs,sqT,Nat.zero_add,Nat.reduceAdd,x1,x2,x3,x4,x5,Qwz,Q2y,Zay,Zhx,Zk7,Q2z,Q20,Zaz,Zhy,Zk8,Za0,Za1,Za2,Zhz,Zk9,Zh0,Zh1,Zh2,Zh3,Zla,Zlb,Zlc,Zld,Zle,Zlf,Rat.zero_add]
  grind
 rw [e0]at d0
 rw [e1]at d1
 rw [e2]at d2
 rw [e3]at d3
 rw [e4]at d4
 rw [ew]at dw
 rw [hw,hs]
 clear hw hs e0 e1 e2 e3 e4 x1 x2 x3 x4 x5 ew h c0 c1 c2 c3 c4 c5 g0 g1 g2 g3 g4 g5
 generalize (a1:Rat)/(o:Rat)=r1 at*
 generalize (a2:Rat)/(o:Rat)=r2 at*
 generalize (a3:Rat)/(o:Rat)=r3 at*
 generalize (a4:Rat)/(o:Rat)=r4 at*
 generalize (a5:Rat)/(o:Rat)=r5 at*
 have hu:=Zhw (K:=2097152) (d0:=r1*(1/5)) (d1:=r1*(1/5)+r2*(1/10)) (d2:=r1*(1/5)+r2*(1/5)+r3*(1/10)) (d3:=r1*(1/5)+r2*(3/10)+r3*(3/10)+r4*(1/5)) (d4:=r1*(1/5)+r2*(2/5)+r3*(3/5)+r4*(4/5)+r5*1) rfl rfl rfl rfl rfl d0 d1 d2 d3 d4
 have hl:=Qok r1 r2 r3 r4 r5
 refine⟨by grind,by grind,by grind,by grind⟩
theorem axB0 {a0 o:Int}:wayQ [a0] o=0∧sqQ [a0] o=0:=⟨rfl,rfl⟩
theorem Qw0 {c:List Int} {o:Int} (ho:0<o) (h:axOK c o=true):wayQ c o*wayQ c o≤sqQ c o∧sqQ c o≤25*(2097152*2097152)∧ -2097152≤wayQ c o∧wayQ c o≤2097152:=by
 simp only [axOK,Qov,Bool.and_eq_true,decide_eq_true_eq]at h
 obtain⟨⟨h1,h2, -⟩,hb⟩:=h
 have hc:=fun j hj=>Zbl hb j hj
 match c,h1,h2,hc with
 | [a0],_,_,_=>rw [axB0.1,axB0.2];refine⟨by grind,by grind,by grind,by grind⟩
 | [a0,a1],_,_,hc=>obtain⟨a,b,c,d⟩:=axB1 ho hc;exact⟨a,by grind,c,d⟩
 | [a0,a1,a2],_,_,hc=>obtain⟨a,b,c,d⟩:=axB2 ho hc;exact⟨a,by grind,c,d⟩
 | [a0,a1,a2,a3],_,_,hc=>obtain⟨a,b,c,d⟩:=axB3 ho hc;exact⟨a,by grind,c,d⟩
 | [a0,a1,a2,a3,a4],_,_,hc=>obtain⟨a,b,c,d⟩:=axB4 ho hc;exact⟨a,by grind,c,d⟩
 | [a0,a1,a2,a3,a4,a5],_,_,hc=>obtain⟨a,b,c,d⟩:=axB5 ho hc;exact⟨a,by grind,c,d⟩
end Go.Dg

namespace Go.Dg
structure Bat where
 base:Int
 climb:Int
 drag:Int
 cap:Int
 res:Int
def Qw1 (n:Int):Bool:=decide (0≤n)&&decide (n≤1000000)
def Qax (B:Bat):Bool:=Qw1 B.base&&(Qw1 B.climb&&(Qw1 B.drag&&(decide (0≤B.res)&&(decide (B.res≤B.cap)&&decide (B.cap≤1125899906842624)))))
def fr (n d:Int):Rat:=(n:Rat)/(d:Rat)
def axQ (q:Rat) (c:List Int) (o t b:Int):Rat:=q+sqQ c o*fr 1000 t+wayQ c o*fr (-2*b) 1+fr (b*b) 1*fr t 1000
def drQ (s:Sg) (x y z:Int):Rat:=axQ (axQ (axQ (fr 0 1) s.x s.o (s.t-s.f) x) s.y s.o (s.t-s.f) y) s.z s.o (s.t-s.f) z
def baQ (s:Sg) (B:Bat):Rat:=if(wayQ s.z s.o).num<0 then fr (B.base*(s.t-s.f)) 1000 else fr (B.base*(s.t-s.f)) 1000+wayQ s.z s.o*fr B.climb 100
def Qt5 (s:Sg) (B:Bat) (x y z:Int):Rat:=baQ s B+drQ s x y z*fr B.drag 1000000
def Qfi (s:Sg) (B:Bat) (x y z:Int):Int:=upQ (Qt5 s B x y z)
theorem Qw2 (n:Int):fr n 1=(n:Rat):=by
 unfold fr
 have:((1:Int):Rat)=1:=rfl
 rw [this];grind
theorem Qsf {n d:Int} (h:d≠0):fr n d*(d:Rat)=(n:Rat):=Rat.div_mul_cancel (by exact_mod_cast h)
theorem Qqf {n:Int} (h:0<n):(0:Rat)<(n:Rat):=by exact_mod_cast h
theorem Qsg {a b:Int} (h:a≤b):(a:Rat)≤(b:Rat):=Rat.intCast_le_intCast.2 h
theorem Qfj {n d:Int} (h:0≤n) (hd:0<d):0≤fr n d:=by
 have h1:=Qsf (n:=n) (show d≠0 by omega)
 have h2:=Qqf hd
 have h3:=Qsg h
 simp only [Rat.intCast_zero]at h3
 refine Rat.le_of_mul_le_mul_right (c:=(d:Rat)) ?_ h2
 grind
theorem Qw3 {n d k:Int} (hd:0<d) (h:n≤k*d):fr n d≤(k:Rat):=by
 have h1:=Qsf (n:=n) (show d≠0 by omega)
 have h2:=Qqf hd
 have h3:=Qsg h
 rw [Rat.intCast_mul]at h3
 refine Rat.le_of_mul_le_mul_right (c:=(d:Rat)) ?_ h2
 grind
theorem Qqg {c:List Int} {o t b:Int} (ho:0<o) (h:axOK c o=true) (ht:0<t) (ht2:t≤3600000) (hb: -40000≤b) (hb2:b≤40000) (q:Rat):q≤axQ q c o t b∧axQ q c o t b≤q+120000000000000000:=by
 obtain⟨h1,h2,h3,h4⟩:=Qw0 ho h
 unfold axQ
 rw [Qw2,Qw2]
 have u1:=Qsf (n:=1000) (show t≠0 by omega)
 have u2:=Qsf (n:=t) (d:=1000) (by decide)
 have u0:0≤fr 1000 t:=Qfj (by decide) ht
 have u5:0≤fr t 1000:=Qfj (by omega) (by decide)
 have u3:fr 1000 t≤(1000:Int):=Qw3 ht (by omega)
 have u4:fr t 1000≤(3600:Int):=Qw3 (by decide) (by omega)
 have b1:=Qsg hb
 have b2:=Qsg hb2
 have e1:((-2*b:Int):Rat)= -2*(b:Rat):=by rw [Rat.intCast_mul];rfl
 have e2:((b*b:Int):Rat)=(b:Rat)*(b:Rat):=Rat.intCast_mul _ _
 have e3:((1000:Int):Rat)=1000:=rfl
 have e4:((3600:Int):Rat)=3600:=rfl
 have e5:((-40000:Int):Rat)= -40000:=rfl
 have e6:((40000:Int):Rat)=40000:=rfl
 rw [e3]at u1 u2 u3
 rw [e4]at u4
 rw [e5]at b1
 rw [e6]at b2
 rw [e1,e2]
 have tp:=Qqf ht
 have uv:fr 1000 t*fr t 1000=1:=by
  have k:fr 1000 t*fr t 1000*(t:Rat)=1*(t:Rat):=by
   have q1:fr 1000 t*fr t 1000*(t:Rat)=fr 1000 t*(t:Rat)*fr t 1000:=by rw [Rat.mul_assoc,Rat.mul_assoc,Rat.mul_comm (fr t 1000)]
   rw [q1,u1,Rat.mul_comm,u2,Rat.one_mul]
  refine Rat.le_antisymm ?_ ?_<;>refine Rat.le_of_mul_le_mul_right (c:=(t:Rat)) ?_ tp<;>rw [k]<;>exact Rat.le_refl
 generalize fr 1000 t=u at*
 generalize fr t 1000=v at*
 generalize (b:Rat)=w at*
 generalize sqQ c o=S at*
 generalize wayQ c o=y at*
 clear e1 e2 tp u1 u2
 have s0:0≤S:=Rat.le_trans (Qc5 y) h1
 have p1:=Rat.mul_le_mul_of_nonneg_right h1 u0
 have p2:=Rat.mul_nonneg u0 (Qc5 (y-w*v))
 have p3:=Rat.mul_le_mul_of_nonneg_left u3 s0
 have p4:=Rat.mul_le_mul_of_nonneg_right h2 (show(0:Rat)≤1000 by decide)
 have w2:=Qgg b1 b2
 have p5:=Rat.mul_le_mul_of_nonneg_left u4 (Qc5 w)
 have p6:=Rat.mul_le_mul_of_nonneg_right w2 (show(0:Rat)≤3600 by decide)
 have p7:2*w*y≤2*40000*2097152∧ -(2*w*y)≤2*40000*2097152:=by
  have key: ∀w:Rat, -40000≤w→w≤40000→2*w*y≤2*40000*2097152:=fun w b1 b2=>by
   have a1:=Rat.mul_nonneg (show 0≤40000-w by grind) (show 0≤2097152+y by grind)
   have a2:=Rat.mul_nonneg (show 0≤40000+w by grind) (show 0≤2097152-y by grind)
   have a3:(40000-w)*(2097152+y)+(40000+w)*(2097152-y)=2*40000*2097152-2*w*y:=by grind
   have a4:=Rat.add_nonneg a1 a2
   rw [a3]at a4
   exact(Rat.le_iff_sub_nonneg _ _).2 a4
  refine⟨key w b1 b2,?_⟩
  have:=key (-w) (by grind) (by grind)
  have e:2* -w*y= -(2*w*y):=by grind
  rwa [e]at this
 have p8:u*((y-w*v)*(y-w*v))=y*y*u-2*w*y+w*w*v:=by
  have:u*((y-w*v)*(y-w*v))=y*y*u-2*w*y*(u*v)+w*w*v*(u*v):=by grind
  rw [this,uv,Rat.mul_one,Rat.mul_one]
 rw [p8]at p2
 have e9:y*(-2*w)= -(2*w*y):=by grind
 rw [e9]
 clear p8 e9 uv h1 w2 b1 b2 hb hb2 ht2 ht h ho u3 u4 u0 u5 h3 h4
 generalize 2*w*y=Z at*
 generalize y*y*u=Y at*
 generalize S*u=T at*
 generalize w*w*v=V at*
 generalize w*w=W at*
 obtain⟨p7,p9⟩:=p7
 constructor<;>grind
theorem Zh4 {x:Rat} {n:Int} (h:x≤(n:Rat)):upQ x≤n:=by
 unfold upQ
 have:=(Rat.le_iff _ _).1 h
 simp only [Rat.num_intCast,Rat.den_intCast]at this
 rw [Rat.neg_num,Rat.neg_den]
 have hd:(0:Int)<(x.den:Int):=by have:=x.den_pos;omega
 have: -n≤ -x.num/(x.den:Int):=by
  rw [Int.le_ediv_iff_mul_le hd]
  rw [Int.neg_mul];omega
 omega
theorem Zh5 {x:Rat} (h:0≤x):0≤upQ x:=by
 unfold upQ
 rw [Rat.neg_num,Rat.neg_den]
 have hd:(0:Int)<(x.den:Int):=by have:=x.den_pos;omega
 have hn:=Rat.num_nonneg.2 h
 have: -x.num/(x.den:Int)≤0:=Int.ediv_nonpos_of_nonpos_of_neg (by omega) (by omega)
 omega
theorem Qcp {B:Bat} (h:Qax B=true):(0≤B.base∧B.base≤1000000)∧(0≤B.climb∧B.climb≤1000000)∧(0≤B.drag∧B.drag≤1000000)∧0≤B.res∧B.res≤B.cap∧B.cap≤1125899906842624:=by
 simp only [Qax,Qw1,Bool.and_eq_true,decide_eq_true_eq]at h
 omega
theorem Qsh {s:Sg} {B:Bat} {x y z:Int} (hs:rngS s=true) (hx:axOK s.x s.o=true) (hy:axOK s.y s.o=true) (hz:axOK s.z s.o=true) (hB:Qax B=true)
  (h1: -40000≤x∧x≤40000) (h2: -40000≤y∧y≤40000) (h3: -40000≤z∧z≤40000):0≤Qfi s B x y z∧Qfi s B x y z≤400000000000000000:=by
 obtain⟨B1,B2,B3, -⟩:=Qcp hB
 simp only [rngS,Bool.and_eq_true,decide_eq_true_eq]at hs
 obtain⟨r1,r2,r3,r4,r5⟩:=hs
 have o0:0<s.o:=by omega
 have t0:0<s.t-s.f:=by omega
 have t1:s.t-s.f≤3600000:=by omega
 obtain⟨a1,a2⟩:=Qqg o0 hx t0 t1 h1.1 h1.2 (fr 0 1)
 obtain⟨a3,a4⟩:=Qqg o0 hy t0 t1 h2.1 h2.2 (axQ (fr 0 1) s.x s.o (s.t-s.f) x)
 obtain⟨a5,a6⟩:=Qqg o0 hz t0 t1 h3.1 h3.2 (axQ (axQ (fr 0 1) s.x s.o (s.t-s.f) x) s.y s.o (s.t-s.f) y)
 have e0:fr 0 1=0:=by rw [Qw2];rfl
 have z0:0≤fr 0 1:=by rw [e0];exact Rat.le_refl
 have dd:0≤drQ s x y z∧drQ s x y z≤360000000000000000:=by
  unfold drQ
  generalize axQ (axQ (axQ (fr 0 1) s.x s.o (s.t-s.f) x) s.y s.o (s.t-s.f) y) s.z s.o (s.t-s.f) z=X3 at*
  generalize axQ (axQ (fr 0 1) s.x s.o (s.t-s.f) x) s.y s.o (s.t-s.f) y=X2 at*
  generalize axQ (fr 0 1) s.x s.o (s.t-s.f) x=X1 at*
  refine⟨Rat.le_trans z0 (Rat.le_trans a1 (Rat.le_trans a3 a5)),?_⟩
  rw [e0]at a2
  clear h1 h2 h3 hB B1 B2 B3 r1 r2 r3 r4 r5 o0 t0 t1 e0 z0
  grind
 obtain⟨dn,dm⟩:=dd
 clear a1 a2 a3 a4 a5 a6 z0 e0
 have f0:0≤fr B.drag 1000000:=Qfj B3.1 (by decide)
 have f1:fr B.drag 1000000≤(1:Int):=Qw3 (by decide) (by omega)
 have g0:0≤fr B.climb 100:=Qfj B2.1 (by decide)
 have g1:fr B.climb 100≤(10000:Int):=Qw3 (by decide) (by omega)
 have k0:0≤fr (B.base*(s.t-s.f)) 1000:=Qfj (Int.mul_nonneg B1.1 (by omega)) (by decide)
 have k1:fr (B.base*(s.t-s.f)) 1000≤(3600000000:Int):=Qw3 (by decide) (by
  have:=Int.mul_le_mul B1.2 t1 (by omega) (by decide);omega)
 obtain⟨-, -,w3,w4⟩:=Qw0 o0 hz
 have e1:((1:Int):Rat)=1:=rfl
 have e2:((10000:Int):Rat)=10000:=rfl
 have e3:((3600000000:Int):Rat)=3600000000:=rfl
 rw [e1]at f1
 rw [e2]at g1
 rw [e3]at k1
 have bn:0≤baQ s B∧baQ s B≤30000000000:=by
  unfold baQ
  by_cases hw:(wayQ s.z s.o).num<0
  ·rw [if_pos hw];exact⟨k0,by grind⟩
  ·rw [if_neg hw]
   have w0:0≤wayQ s.z s.o:=Rat.num_nonneg.1 (by omega)
   have m0:=Rat.mul_nonneg w0 g0
   have m1:=Rat.mul_le_mul_of_nonneg_left g1 w0
   have m2:=Rat.mul_le_mul_of_nonneg_right w4 (show(0:Rat)≤10000 by decide)
   exact⟨by grind,by grind⟩
 have d0:=Rat.mul_nonneg dn f0
 have d1:=Rat.mul_le_mul_of_nonneg_left f1 dn
 unfold Qfi
 refine⟨Zh5 (by unfold Qt5;grind),Zh4 ?_⟩
 have:((400000000000000000:Int):Rat)=400000000000000000:=rfl
 rw [this]
 unfold Qt5
 grind
end Go.Dg

namespace Go.Dg
theorem Qim {n d:Int} (h1:n.natAbs<2^64) (h2:d.natAbs<2^64) (hd:d≠0):fitQ 64 (fr n d):=Qmx h1 h2 hd
def ok64 (c:List Int):Prop:= ∀i,(c.getD i 0).natAbs<2^64
theorem Qlx {c:List Int} {o:Int} (hc:ok64 c) (ho:o.natAbs<2^64) (h0:o≠0) (i:Nat):fitQ 64 (coQ c o i):=Qmx (hc i) ho h0
theorem Q9z {i k:Nat} (hi:1≤i) (hk:1≤k) (hi2:i≤6) (hk2:k≤6):fitQ 64 (ikQ i k):=by
 refine Qmx ?_ ?_ (by omega)
 ·have:=Nat.mul_le_mul hi2 hk2
  rw [Int.natAbs_mul,Int.natAbs_natCast,Int.natAbs_natCast];omega
 ·omega
theorem Qw4 {c:List Int} {o:Int} (hc:ok64 c) (ho:o.natAbs<2^64) (h0:o≠0) {i k:Nat} (hi:1≤i) (hk:1≤k) (hi2:i≤6) (hk2:k≤6):fitQ 192 (sqT c o i k):=
 Qcr (Qcr (Qlx hc ho h0 i) (Qlx hc ho h0 k)) (Q9z hi hk hi2 hk2)
theorem Qw5 {c:List Int} {o:Int} (hc:ok64 c) (ho:o.natAbs<2^64) (h0:o≠0) {i k:Nat} (hi:1≤i) (hi2:i≤6) (hk2:k≤5):fitQ 966 (sqR c o i k):=
 (Qse k fun j hj=>Qw4 hc ho h0 hi (by omega) hi2 (by omega)).mono (Nat.le_trans (Nat.add_le_add_right (Nat.mul_le_mul_right (192+1) hk2) 1) (by decide))
theorem Qw6 {c:List Int} {o:Int} (hc:ok64 c) (ho:o.natAbs<2^64) (h0:o≠0) (hl:c.length≤6) {i:Nat} (hi:i≤5):fitQ 4836 (sqS c o i):=
 (Qse i fun j hj=>Qw5 hc ho h0 (by omega) (by omega) (by omega)).mono (Nat.le_trans (Nat.add_le_add_right (Nat.mul_le_mul_right (966+1) hi) 1) (by decide))
theorem Qqh {c:List Int} {o:Int} (hc:ok64 c) (ho:o.natAbs<2^64) (h0:o≠0) {n:Nat} (hn:n≤5):fitQ 326 (wyS c o n):=
 (Qse n fun j _=>Qlx hc ho h0 _).mono (Nat.le_trans (Nat.add_le_add_right (Nat.mul_le_mul_right (64+1) hn) 1) (by decide))
end Go.Dg

namespace Go.Proofs.YtciddhkfbgkejaaDoor
open Go.Vl Go.RowKit Go.Dg
theorem Qa3 (x:Rat): ∃b1 s1 b2 s2,ratQ x= .agg [.bool b1,.str s1,.bool b2,.str s2]:=⟨_,_,_,_,rfl⟩
def zQ:PV:= .agg [.bool false,.str ⟨#[]⟩,.bool false,.str ⟨#[]⟩]
attribute [go_sem] zQ
theorem Qg0 (n d:Int) (h1:i64 n) (h2:i64 d) (h0:d≠0):Qae Tryd.prog 23 [.int .i64 n,.int .i64 d] (ratQ (fr n d)):=by
 have h:=Zmr n d h1.1 h1.2 h2.1 h2.2 h0
 have e0:(n:Rat)/(d:Rat)=fr n d:=rfl
 rw [e0]at h
 obtain⟨b1,s1,b2,s2,e⟩:=Qa3 (fr n d)
 rw [e]at h ⊢
 refine Qac (tb:=[]) 14 [.cell 4 59] [0,1,4,5] mixed Tryd.func23 rfl (by kernel_rfl) (by kernel_rfl) (by kernel_rfl) (by kernel_rfl) ?_
 repeat (first|(simp -implicitDefEqProofs only [go_sem,Nat.reduceAdd,Nat.reduceMul,Nat.reduceEqDiff,Nat.reduceLT,Nat.reduceLeDiff,Nat.reduceSub,Nat.reduceBEq,reduceIte,reduceCtorEq,Int.reduceEq,Int.reduceNe,Nat.reduceBneDiff,Int.reduceLE,Int.reduceLT,Int.reduceToNat,Int.reduceAdd,Int.reduceSub,Int.reduceMul,Int.reduceNeg])|((with_reducible refine Qab (h) ?_ ?_ ?_);(with_reducible rfl);rfl))
theorem Qg1 {k l:Nat} {x y:Rat} (hx:fitQ k x) (hy:fitQ l y) (hk:k+l+1≤65536):Qae Tryd.prog 25 [ratQ x,ratQ y] (ratQ (x+y)):=by
 have h:=Zi7 hx hy hk
 obtain⟨b1,s1,b2,s2,e⟩:=Qa3 (x+y)
 obtain⟨c1,t1,c2,t2,e2⟩:=Qa3 x
 obtain⟨d1,u1,d2,u2,e3⟩:=Qa3 y
 rw [e,e2,e3]at h
 rw [e,e2,e3]
 refine Qac (tb:=[]) 14 [.cell 4 59] [0,1,2,3,4,5] mixed Tryd.func25 rfl (by kernel_rfl) (by kernel_rfl) (by kernel_rfl) (by kernel_rfl) ?_
 repeat (first|(simp -implicitDefEqProofs only [go_sem,Nat.reduceAdd,Nat.reduceMul,Nat.reduceEqDiff,Nat.reduceLT,Nat.reduceLeDiff,Nat.reduceSub,Nat.reduceBEq,reduceIte,reduceCtorEq,Int.reduceEq,Int.reduceNe,Nat.reduceBneDiff,Int.reduceLE,Int.reduceLT,Int.reduceToNat,Int.reduceAdd,Int.reduceSub,Int.reduceMul,Int.reduceNeg])|((with_reducible refine Qab (h) ?_ ?_ ?_);(with_reducible rfl);rfl))
def prQ (x:Rat) (l:List Rat) (k:Nat):Rat:=(l.take k).foldl (· * ·) x
def raB (x:Rat):Box:={els:=[ratQ x],esz:=4,ety:=59,fro:=0,live:=true,arr:=false}
theorem Qzl (x:Rat) (l:List Rat) (hl:l.length≤100) (hm: ∀k (h:k<l.length),Qae Tryd.prog 42 [ratQ (prQ x l k),ratQ l[k]] (.tup [ratQ (prQ x l (k+1)),.int .i64 0])):
  Qae Tryd.prog 26 [ratQ x,.slc (l.map ratQ)] (ratQ (prQ x l l.length)):=by
 obtain⟨b1,s1,b2,s2,e⟩:=Qa3 x
 have e0:prQ x l 0=x:=rfl
 rw [e]
 refine Qac (tb:=[]) 24 [.cell 4 59] [0,1,2,4,6,7,9,10,11,12] mixed Tryd.func26 rfl (by kernel_rfl) (by kernel_rfl) (by kernel_rfl) (by kernel_rfl) ?_
 repeat (first|(simp -implicitDefEqProofs only [go_sem,Nat.reduceAdd,Nat.reduceMul,Nat.reduceEqDiff,Nat.reduceLT,Nat.reduceLeDiff,Nat.reduceSub,Nat.reduceBEq,reduceIte,reduceCtorEq,Int.reduceEq,Int.reduceNe,Nat.reduceBneDiff,Int.reduceLE,Int.reduceLT,Int.reduceToNat,Int.reduceAdd,Int.reduceSub,Int.reduceMul,Int.reduceNeg]))
 rw [←e]
 refine Qa5 mixed (fun k:{k:Nat // k≤l.length}=>St.of [(2,.bp 0 4 0 0),(4,.bp 1 4 0 0),(9,.slc (l.map ratQ)),(10,.int .i64 (l.length:Int)),(11,.int .i64 (k.1:Int))] [(0,raB (prQ x l k.1)),(1,{els:=[zQ],esz:=4,ety:=59,fro:=0,live:=true,arr:=false})]) (fun k=>l.length-k.1) ⟨0,Nat.zero_le _⟩ ?_ ?_
 ·refine Qap (θ:=[(0,0),(1,1)]) rfl ?_ ?_
  ·simp [Qaf,lkp,ren1,ren0,Qav]
  ·simp only [e0,raB]
   rw [e]
   exact⟨⟨rfl,rfl,rfl,rfl,rfl,.inr ⟨rfl,_,_,rfl,rfl,rfl,rfl⟩⟩,⟨rfl,rfl,rfl,rfl,rfl,.inr ⟨rfl,_,_,rfl,rfl,rfl,rfl⟩⟩,trivial⟩
 ·rintro⟨k,hk⟩
  simp only [raB]
  obtain⟨c1,t1,c2,t2,e2⟩:=Qa3 (prQ x l k)
  by_cases hA:k<l.length
  ·have hA':=ltT hA
   have n0:=nnT k
   have hwk:=Qal (a:=k) (by omega)
   have hM:=hm k hA
   obtain⟨d1,u1,d2,u2,e3⟩:=Qa3 (prQ x l (k+1))
   obtain⟨f1,v1,f2,v2,e4⟩:=Qa3 l[k]
   have hg:(l.map ratQ)[k]? =some (.agg [.bool f1,.str v1,.bool f2,.str v2]):=by rw [List.getElem?_map,List.getElem?_eq_getElem hA,Option.map_some,e4]
   rw [e2,e3,e4]at hM
   rw [e2]
   repeat (first|(simp -implicitDefEqProofs only [go_sem,Nat.reduceAdd,Nat.reduceMul,Nat.reduceEqDiff,Nat.reduceLT,Nat.reduceLeDiff,Nat.reduceSub,Nat.reduceBEq,reduceIte,reduceCtorEq,Int.reduceEq,Int.reduceNe,Nat.reduceBneDiff,Int.reduceLE,Int.reduceLT,Int.reduceToNat,Int.reduceAdd,Int.reduceSub,Int.reduceMul,Int.reduceNeg,hA',n0,hwk,hg,Int.toNat_natCast,List.length_map])|((with_reducible refine Qab (hM) ?_ ?_ ?_);(with_reducible rfl);rfl))
   refine⟨⟨k+1,hA⟩,by simp only;omega,Qap (θ:=[(0,0),(1,1)]) rfl ?_ ?_⟩
   ·simp [Qaf,lkp,ren1,ren0,Qav]
   ·simp only
    rw [e3]
    exact⟨⟨rfl,rfl,rfl,rfl,rfl,.inr ⟨rfl,_,_,rfl,rfl,rfl,rfl⟩⟩,⟨rfl,rfl,rfl,rfl,rfl,.inr ⟨rfl,_,_,rfl,rfl,rfl,rfl⟩⟩,trivial⟩
  ·have hA':=ltF hA
   obtain rfl:k=l.length:=by omega
   rw [e2]
   repeat (first|(simp -implicitDefEqProofs only [go_sem,Nat.reduceAdd,Nat.reduceMul,Nat.reduceEqDiff,Nat.reduceLT,Nat.reduceLeDiff,Nat.reduceSub,Nat.reduceBEq,reduceIte,reduceCtorEq,Int.reduceEq,Int.reduceNe,Nat.reduceBneDiff,Int.reduceLE,Int.reduceLT,Int.reduceToNat,Int.reduceAdd,Int.reduceSub,Int.reduceMul,Int.reduceNeg,hA',List.length_map]))
theorem Qgc {k l:Nat} {x y:Rat} (hx:fitQ k x) (hy:fitQ l y) (hk:k+l≤65536):Qae Tryd.prog 26 [ratQ x,.slc [ratQ y]] (ratQ (x*y)):=by
 have h:=Qzl x [y] (by simp) (fun i hi=>by
  obtain rfl:i=0:=by simp at hi;omega
  exact Qzj hx hy hk)
 exact h
theorem Q4j {k l m:Nat} {x y z:Rat} (hx:fitQ k x) (hy:fitQ l y) (hz:fitQ m z) (hk:k+l+m≤65536):Qae Tryd.prog 26 [ratQ x,.slc [ratQ y,ratQ z]] (ratQ (x*y*z)):=by
 have h:=Qzl x [y,z] (by simp) (fun i hi=>by
  rcases(show i=0∨i=1 by simp at hi;omega)with rfl|rfl
  ·exact Qzj hx hy (by omega)
  ·exact Qzj (Qcr hx hy) hz (by omega))
 exact h
theorem Zi8 {c:List Int} {k:Nat} (h:k+1<c.length):((c.map (PV.int .i64)).drop 1)[k]? =some (.int .i64 (c.getD (k+1) 0)):=by
 rw [List.getElem?_drop,List.getElem?_map,List.getElem?_eq_getElem (by omega),List.getD_eq_getElem?_getD,List.getElem?_eq_getElem h]
 simp [Nat.add_comm]
set_option maxHeartbeats 1000000 in
theorem Q99 (c:List Int) (o:Int) (hc: ∀x∈c,i64 x) (h1:1≤c.length) (h6:c.length≤6) (ho:i64 o) (h0:o≠0) (hk:ok64 c):Qae Tryd.prog 24 [.slc (c.map (PV.int .i64)),.int .i64 o] (ratQ (wayQ c o)):=by
 have hz:=Qg0 0 1 (by unfold i64;omega) (by unfold i64;omega) (by decide)
 have e0:fr 0 1=wyS c o 0:=(by decide+kernel:fr 0 1=0)
 rw [e0]at hz
 obtain⟨b1,s1,b2,s2,e⟩:=Qa3 (wyS c o 0)
 rw [e]at hz
 have l1:((1:Int)≤(c.length:Int))=True:=eq_true (by omega)
 have l2:(1≤c.length)=True:=eq_true h1
 have l3:((c.map (PV.int .i64)).drop 1).take (c.length-1)=(c.map (PV.int .i64)).drop 1:=List.take_of_length_le (by simp)
 have l5:((c.map (PV.int .i64)).all fun x=>x.cells.length==1)=true:=by rw [List.all_map,List.all_eq_true];intro _ _;rfl
 have l6:(c.map (PV.int .i64)).take c.length=c.map (PV.int .i64):=List.take_of_length_le (by simp)
 have l4:((c.map (PV.int .i64)).drop 1).length=c.length-1:=by simp
 have oa:o.natAbs<2^64:=Qbs ho
 refine Qac (tb:=[]) 23 [.cell 4 59] [0,1,4,5,7,10,11,12,13] mixed Tryd.func24 rfl (by kernel_rfl) (by kernel_rfl) (by kernel_rfl) (by kernel_rfl) ?_
 repeat (first|(simp -implicitDefEqProofs only [go_sem,Nat.reduceAdd,Nat.reduceMul,Nat.reduceEqDiff,Nat.reduceLT,Nat.reduceLeDiff,Nat.reduceSub,Nat.reduceBEq,reduceIte,reduceCtorEq,Int.reduceEq,Int.reduceNe,Nat.reduceBneDiff,Int.reduceLE,Int.reduceLT,Int.reduceToNat,Int.reduceAdd,Int.reduceSub,Int.reduceMul,Int.reduceNeg,l1,l2,l3,l4,l5,l6,List.length_map,Int.toNat_natCast])|((with_reducible refine Qab (hz) ?_ ?_ ?_);(with_reducible rfl);rfl)|(with_reducible exact Qaa _ _ (by kernel_rfl))|(with_reducible refine And.intro (Qaa _ _ (by kernel_rfl)) ?_))
 rw [←e]
 refine Qa5 mixed (fun k:{k:Nat // k≤c.length-1}=>St.of [(1,.int .i64 o),(4,.bp 0 4 0 0),(5,.bp 101 4 0 0),(10,.slc ((c.map (PV.int .i64)).drop 1)),(11,.int .i64 ((c.length-1:Nat):Int)),(12,.int .i64 (k.1:Int))] [(0,{els:=[zQ],esz:=4,ety:=59,fro:=0,live:=true,arr:=false}),(101,raB (wyS c o k.1))]) (fun k=>c.length-1-k.1) ⟨0,Nat.zero_le _⟩ ?_ ?_
 ·refine Qap (θ:=[(0,0),(101,101)]) rfl ?_ ?_
  ·simp [Qaf,lkp,ren1,ren0,Qav]
  ·simp only [raB]
   rw [e]
   exact⟨⟨rfl,rfl,rfl,rfl,rfl,.inr ⟨rfl,_,_,rfl,rfl,rfl,rfl⟩⟩,⟨rfl,rfl,rfl,rfl,rfl,.inr ⟨rfl,_,_,rfl,rfl,rfl,rfl⟩⟩,trivial⟩
 ·rintro⟨k,hk2⟩
  simp only [raB]
  obtain⟨c1,t1,c2,t2,e2⟩:=Qa3 (wyS c o k)
  by_cases hA:k<c.length-1
  ·have hA':=ltT hA
   have n0:=nnT k
   have hwk:=Qal (a:=k) (by omega)
   have hg:=Zi8 (c:=c) (k:=k) (by omega)
   have hci:i64 (c.getD (k+1) 0):=by
    rw [List.getD_eq_getElem?_getD,List.getElem?_eq_getElem (by omega)];exact hc _ (List.getElem_mem _)
   have f1:=Qg0 (c.getD (k+1) 0) o hci ho h0
   have e5:fr (c.getD (k+1) 0) o=coQ c o (k+1):=rfl
   rw [e5]at f1
   have f2:=Qg1 (Qqh hk oa h0 (n:=k) (by omega)) (Qlx hk oa h0 (k+1)) (by decide)
   have e6:wyS c o k+coQ c o (k+1)=wyS c o (k+1):=rfl
   rw [e6]at f2
   obtain⟨d1,u1,d2,u2,e3⟩:=Qa3 (wyS c o (k+1))
   obtain⟨g1,v1,g2,v2,e4⟩:=Qa3 (coQ c o (k+1))
   rw [e4]at f1
   rw [e2,e3,e4]at f2
   rw [e2]
   repeat (first|(simp -implicitDefEqProofs only [go_sem,Nat.reduceAdd,Nat.reduceMul,Nat.reduceEqDiff,Nat.reduceLT,Nat.reduceLeDiff,Nat.reduceSub,Nat.reduceBEq,reduceIte,reduceCtorEq,Int.reduceEq,Int.reduceNe,Nat.reduceBneDiff,Int.reduceLE,Int.reduceLT,Int.reduceToNat,Int.reduceAdd,Int.reduceSub,Int.reduceMul,Int.reduceNeg,hA',n0,hwk,hg,Int.toNat_natCast])|((with_reducible refine Qab (f1) ?_ ?_ ?_);(with_reducible rfl);rfl)|((with_reducible refine Qab (f2) ?_ ?_ ?_);(with_reducible rfl);rfl)|(with_reducible exact Qaa _ _ (by kernel_rfl))|(with_reducible refine And.intro (Qaa _ _ (by kernel_rfl)) ?_))
   refine⟨⟨k+1,hA⟩,by simp only;omega,Qap (θ:=[(0,0),(101,101)]) rfl ?_ ?_⟩
   ·simp [Qaf,lkp,ren1,ren0,Qav]
   ·simp only
    rw [e3]
    exact⟨⟨rfl,rfl,rfl,rfl,rfl,.inr ⟨rfl,_,_,rfl,rfl,rfl,rfl⟩⟩,⟨rfl,rfl,rfl,rfl,rfl,.inr ⟨rfl,_,_,rfl,rfl,rfl,rfl⟩⟩,trivial⟩
  ·have hA':=ltF hA
   obtain rfl:k=c.length-1:=by omega
   have e7:wayQ c o=wyS c o (c.length-1):=rfl
   rw [e7,e2]
   repeat (first|(simp -implicitDefEqProofs only [go_sem,Nat.reduceAdd,Nat.reduceMul,Nat.reduceEqDiff,Nat.reduceLT,Nat.reduceLeDiff,Nat.reduceSub,Nat.reduceBEq,reduceIte,reduceCtorEq,Int.reduceEq,Int.reduceNe,Nat.reduceBneDiff,Int.reduceLE,Int.reduceLT,Int.reduceToNat,Int.reduceAdd,Int.reduceSub,Int.reduceMul,Int.reduceNeg,hA'])|(with_reducible exact Qaa _ _ (by kernel_rfl))|(with_reducible refine And.intro (Qaa _ _ (by kernel_rfl)) ?_))
end Go.Proofs.YtciddhkfbgkejaaDoor

namespace Go.Proofs.YtciddhkfbgkejaaDoor
open Go.Vl Go.RowKit Go.Dg
theorem Qpz {c:List Int} {k:Nat} (h:k<c.length):(c.map (PV.int .i64))[k]? =some (.int .i64 (c.getD k 0)):=by
 rw [List.getElem?_map,List.getElem?_eq_getElem h,List.getD_eq_getElem?_getD,List.getElem?_eq_getElem h];rfl
theorem Qrn {c:List Int} (hc: ∀x∈c,i64 x) {k:Nat} (h:k<c.length):i64 (c.getD k 0):=by
 rw [List.getD_eq_getElem?_getD,List.getElem?_eq_getElem h];exact hc _ (List.getElem_mem _)
theorem Zms (i k:Nat):fr (((i+1:Nat):Int)*((k+1:Nat):Int)) (((i+1+(k+1)-1:Nat)):Int)=ikQ (i+1) (k+1):=by
 unfold fr ikQ
 have:(((i+1+(k+1)-1:Nat)):Int)=((i+1:Nat):Int)+((k+1:Nat):Int)-1:=by omega
 rw [this]
set_option maxHeartbeats 4000000 in
theorem Zmt (c:List Int) (o:Int) (hc: ∀x∈c,i64 x) (h1:1≤c.length) (h6:c.length≤6) (ho:i64 o) (h0:o≠0) (hk:ok64 c):Qae Tryd.prog 27 [.slc (c.map (PV.int .i64)),.int .i64 o] (ratQ (sqQ c o)):=by
 have hz:=Qg0 0 1 (by unfold i64;omega) (by unfold i64;omega) (by decide)
 have e0:fr 0 1=sqS c o 0:=(by decide+kernel:fr 0 1=0)
 rw [e0]at hz
 obtain⟨b1,s1,b2,s2,e⟩:=Qa3 (sqS c o 0)
 rw [e]at hz
 have oa:o.natAbs<2^64:=Qbs ho
 refine Qac (tb:=[]) 46 [.cell 4 59] [0,1,4,5,6,7,12,18] mixed Tryd.func27 rfl (by kernel_rfl) (by kernel_rfl) (by kernel_rfl) (by kernel_rfl) ?_
 repeat (first|(simp -implicitDefEqProofs only [go_sem,Nat.reduceAdd,Nat.reduceMul,Nat.reduceEqDiff,Nat.reduceLT,Nat.reduceLeDiff,Nat.reduceSub,Nat.reduceBEq,reduceIte,reduceCtorEq,Int.reduceEq,Int.reduceNe,Nat.reduceBneDiff,Int.reduceLE,Int.reduceLT,Int.reduceToNat,Int.reduceAdd,Int.reduceSub,Int.reduceMul,Int.reduceNeg])|((with_reducible refine Qab (hz) ?_ ?_ ?_);(with_reducible rfl);rfl)|(with_reducible exact Qaa _ _ (by kernel_rfl))|(with_reducible refine And.intro (Qaa _ _ (by kernel_rfl)) ?_))
 rw [←e]
 refine Qa5 mixed (fun i:{i:Nat // i≤c.length-1}=>St.of [(0,.slc (c.map (PV.int .i64))),(1,.int .i64 o),(4,.bp 0 4 0 0),(5,.bp 101 4 0 0),(6,.int .i64 ((i.1+1:Nat):Int))] [(0,{els:=[zQ],esz:=4,ety:=59,fro:=0,live:=true,arr:=false}),(101,raB (sqS c o i.1))]) (fun i=>c.length-1-i.1) ⟨0,Nat.zero_le _⟩ ?_ ?_
 ·refine Qap (θ:=[(0,0),(101,101)]) rfl ?_ ?_
  ·simp [Qaf,lkp,ren1,ren0,Qav]
  ·simp only [raB]
   rw [e]
   exact⟨⟨rfl,rfl,rfl,rfl,rfl,.inr ⟨rfl,_,_,rfl,rfl,rfl,rfl⟩⟩,⟨rfl,rfl,rfl,rfl,rfl,.inr ⟨rfl,_,_,rfl,rfl,rfl,rfl⟩⟩,trivial⟩
 ·rintro⟨i,hi⟩
  simp only
  by_cases hA:i+1<c.length
  ·have hA':=ltT hA
   have n0:=nnT (i+1)
   have hwk:=Qal (a:=i+1) (by omega)
   have hg:=Qpz hA
   have f1:=Qg0 (c.getD (i+1) 0) o (Qrn hc hA) ho h0
   have e1:fr (c.getD (i+1) 0) o=coQ c o (i+1):=rfl
   rw [e1]at f1
   obtain⟨x1,x2,x3,x4,ex⟩:=Qa3 (coQ c o (i+1))
   rw [ex]at f1
   repeat (first|(simp -implicitDefEqProofs only [go_sem,Nat.reduceAdd,Nat.reduceMul,Nat.reduceEqDiff,Nat.reduceLT,Nat.reduceLeDiff,Nat.reduceSub,Nat.reduceBEq,reduceIte,reduceCtorEq,Int.reduceEq,Int.reduceNe,Nat.reduceBneDiff,Int.reduceLE,Int.reduceLT,Int.reduceToNat,Int.reduceAdd,Int.reduceSub,Int.reduceMul,Int.reduceNeg,hA',List.length_map])|(with_reducible exact Qaa _ _ (by kernel_rfl))|(with_reducible refine And.intro (Qaa _ _ (by kernel_rfl)) ?_))
   refine Qa5 mixed (fun k:{k:Nat // k≤c.length-1}=>St.of [(0,.slc (c.map (PV.int .i64))),(1,.int .i64 o),(4,.bp 0 4 0 0),(5,.bp 101 4 0 0),(6,.int .i64 ((i+1:Nat):Int)),(7,.int .i64 ((k.1+1:Nat):Int))] [(0,{els:=[zQ],esz:=4,ety:=59,fro:=0,live:=true,arr:=false}),(101,raB (sqS c o i+sqR c o (i+1) k.1))]) (fun k=>c.length-1-k.1) ⟨0,Nat.zero_le _⟩ ?_ ?_
   ·refine Qap (θ:=[(0,0),(101,101)]) rfl ?_ ?_
    ·simp [Qaf,lkp,ren1,ren0,Qav]
    ·have e2:sqS c o i+sqR c o (i+1) 0=sqS c o i:=Rat.add_zero _
     simp only [raB,e2]
     exact⟨⟨rfl,rfl,rfl,rfl,rfl,.inr ⟨rfl,_,_,rfl,rfl,rfl,rfl⟩⟩,⟨rfl,rfl,rfl,rfl,rfl,.inr ⟨rfl,_,_,rfl,rfl,rfl,rfl⟩⟩,trivial⟩
   ·rintro⟨k,hk2⟩
    simp only [raB]
    by_cases hB:k+1<c.length
    ·have hB':=ltT hB
     have n1:=nnT (k+1)
     have hwk2:=Qal (a:=k+1) (by omega)
     have hg2:=Qpz hB
     have f2:=Qg0 (c.getD (k+1) 0) o (Qrn hc hB) ho h0
     have e2:fr (c.getD (k+1) 0) o=coQ c o (k+1):=rfl
     rw [e2]at f2
     have hmul:((i+1:Nat):Int)*((k+1:Nat):Int)≤5*5:=by
      have:=Nat.mul_le_mul (show i+1≤5 by omega) (show k+1≤5 by omega)
      omega
     have hmul0:0≤((i+1:Nat):Int)*((k+1:Nat):Int):=Int.mul_nonneg (by omega) (by omega)
     have f3:=Qg0 (((i+1:Nat):Int)*((k+1:Nat):Int)) ((i+1+(k+1)-1:Nat):Int) (by unfold i64;omega) (by unfold i64;omega) (by omega)
     rw [Zms]at f3
     have w1:IntKind.i64.wrap (((i+1:Nat):Int)*((k+1:Nat):Int))=((i+1:Nat):Int)*((k+1:Nat):Int):=Qai (by omega) (by omega)
     have w2:IntKind.i64.wrap (((i+1:Nat):Int)+((k+1:Nat):Int))=((i+1+(k+1):Nat):Int):=by rw [Qai (by omega) (by omega)];omega
     have w3:IntKind.i64.wrap (((i+1+(k+1):Nat):Int)-1)=((i+1+(k+1)-1:Nat):Int):=by rw [Qai (by omega) (by omega)];omega
     have t1:=Qlx hk oa h0 (i+1)
     have t2:=Qlx hk oa h0 (k+1)
     have t3:=Q9z (i:=i+1) (k:=k+1) (by omega) (by omega) (by omega) (by omega)
     have f4:=Q4j t1 t2 t3 (by decide)
     have e4:coQ c o (i+1)*coQ c o (k+1)*ikQ (i+1) (k+1)=sqT c o (i+1) (k+1):=rfl
     rw [e4]at f4
     have t4:=Qw4 hk oa h0 (i:=i+1) (k:=k+1) (by omega) (by omega) (by omega) (by omega)
     have t5:=Qfh (Qw6 hk oa h0 h6 (i:=i) (by omega)) (Qw5 hk oa h0 (i:=i+1) (k:=k) (by omega) (by omega) (by omega))
     have f5:=Qg1 t5 t4 (by decide)
     have e5:sqS c o i+sqR c o (i+1) k+sqT c o (i+1) (k+1)=sqS c o i+sqR c o (i+1) (k+1):=by rw [Rat.add_assoc];rfl
     rw [e5]at f5
     obtain⟨y1,y2,y3,y4,ey⟩:=Qa3 (coQ c o (k+1))
     obtain⟨z1,z2,z3,z4,ez⟩:=Qa3 (ikQ (i+1) (k+1))
     obtain⟨v1,v2,v3,v4,ev⟩:=Qa3 (sqT c o (i+1) (k+1))
     obtain⟨p1,p2,p3,p4,ep⟩:=Qa3 (sqS c o i+sqR c o (i+1) k)
     obtain⟨q1,q2,q3,q4,eq⟩:=Qa3 (sqS c o i+sqR c o (i+1) (k+1))
     rw [ey]at f2
     rw [ez]at f3
     rw [ex,ey,ez,ev]at f4
     rw [ep,ev,eq]at f5
     rw [ep]
     repeat (first|(simp -implicitDefEqProofs only [go_sem,Nat.reduceAdd,Nat.reduceMul,Nat.reduceEqDiff,Nat.reduceLT,Nat.reduceLeDiff,Nat.reduceSub,Nat.reduceBEq,reduceIte,reduceCtorEq,Int.reduceEq,Int.reduceNe,Nat.reduceBneDiff,Int.reduceLE,Int.reduceLT,Int.reduceToNat,Int.reduceAdd,Int.reduceSub,Int.reduceMul,Int.reduceNeg,hB',n0,n1,hwk2,hg,hg2,w1,w2,w3,Int.toNat_natCast,List.length_map])|((with_reducible refine Qab (f1) ?_ ?_ ?_);(with_reducible rfl);rfl)|((with_reducible refine Qab (f2) ?_ ?_ ?_);(with_reducible rfl);rfl)|((with_reducible refine Qab (f3) ?_ ?_ ?_);(with_reducible rfl);rfl)|((with_reducible refine Qab (f4) ?_ ?_ ?_);(with_reducible rfl);rfl)|((with_reducible refine Qab (f5) ?_ ?_ ?_);(with_reducible rfl);rfl)|(with_reducible exact Qaa _ _ (by kernel_rfl))|(with_reducible refine And.intro (Qaa _ _ (by kernel_rfl)) ?_))
     refine⟨⟨k+1,by omega⟩,by simp only;omega,Qap (θ:=[(0,0),(101,101)]) rfl ?_ ?_⟩
     ·simp [Qaf,lkp,ren1,ren0,Qav]
     ·simp only
      rw [eq]
      exact⟨⟨rfl,rfl,rfl,rfl,rfl,.inr ⟨rfl,_,_,rfl,rfl,rfl,rfl⟩⟩,⟨rfl,rfl,rfl,rfl,rfl,.inr ⟨rfl,_,_,rfl,rfl,rfl,rfl⟩⟩,trivial⟩
    ·have hB':=ltF hB
     obtain rfl:k=c.length-1:=by omega
     have e2:sqS c o i+sqR c o (i+1) (c.length-1)=sqS c o (i+1):=rfl
     obtain⟨p1,p2,p3,p4,ep⟩:=Qa3 (sqS c o (i+1))
     rw [e2,ep]
     repeat (first|(simp -implicitDefEqProofs only [go_sem,Nat.reduceAdd,Nat.reduceMul,Nat.reduceEqDiff,Nat.reduceLT,Nat.reduceLeDiff,Nat.reduceSub,Nat.reduceBEq,reduceIte,reduceCtorEq,Int.reduceEq,Int.reduceNe,Nat.reduceBneDiff,Int.reduceLE,Int.reduceLT,Int.reduceToNat,Int.reduceAdd,Int.reduceSub,Int.reduceMul,Int.reduceNeg,hB',hwk,List.length_map])|(with_reducible exact Qaa _ _ (by kernel_rfl))|(with_reducible refine And.intro (Qaa _ _ (by kernel_rfl)) ?_))
     refine⟨⟨i+1,by omega⟩,by simp only;omega,Qap (θ:=[(0,0),(101,101)]) rfl ?_ ?_⟩
     ·simp [Qaf,lkp,ren1,ren0,Qav]
     ·simp only [raB]
      rw [ep]
      exact⟨⟨rfl,rfl,rfl,rfl,rfl,.inr ⟨rfl,_,_,rfl,rfl,rfl,rfl⟩⟩,⟨rfl,rfl,rfl,rfl,rfl,.inr ⟨rfl,_,_,rfl,rfl,rfl,rfl⟩⟩,trivial⟩
  ·have hA':=ltF hA
   obtain rfl:i=c.length-1:=by omega
   have e2:sqQ c o=sqS c o (c.length-1):=rfl
   obtain⟨p1,p2,p3,p4,ep⟩:=Qa3 (sqS c o (c.length-1))
   rw [e2]
   simp only [raB]
   rw [ep]
   repeat (first|(simp -implicitDefEqProofs only [go_sem,Nat.reduceAdd,Nat.reduceMul,Nat.reduceEqDiff,Nat.reduceLT,Nat.reduceLeDiff,Nat.reduceSub,Nat.reduceBEq,reduceIte,reduceCtorEq,Int.reduceEq,Int.reduceNe,Nat.reduceBneDiff,Int.reduceLE,Int.reduceLT,Int.reduceToNat,Int.reduceAdd,Int.reduceSub,Int.reduceMul,Int.reduceNeg,hA',List.length_map])|(with_reducible exact Qaa _ _ (by kernel_rfl))|(with_reducible refine And.intro (Qaa _ _ (by kernel_rfl)) ?_))
theorem Zmu:fr (-1) 1= -1:=by decide+kernel
theorem up_v {k:Nat} {x:Rat} (hx:fitQ k x) (hk:k≤60000) (h1:0≤upQ x) (h2:upQ x≤9000000000000000000):Qae Tryd.prog 28 [ratQ x] (.tup [.int .i64 (upQ x),.bool (decide (upQ x≤1125899906842624))]):=by
 have f1:=Qg0 (-1) 1 (by unfold i64;omega) (by unfold i64;omega) (by decide)
 rw [Zmu]at f1
 have hm1:fitQ 1 (-1:Rat):=by unfold fitQ;decide+kernel
 have f2:=Qgc hx hm1 (by omega)
 have e:x*(-1:Rat)= -x:=by rw [Rat.mul_neg,Rat.mul_one]
 rw [e]at f2
 have hnx:fitQ (k+1) (-x):=by rw [←e];exact Qcr hx hm1
 have f3:=Q4g hnx (by omega)
 have eu:(-x).num/((-x).den:Int)= -upQ x:=by unfold upQ;omega
 rw [eu]at f3
 have f4:=Qty (x:= -upQ x) (by
   have:(-upQ x).natAbs<2^64:=by omega
   exact Qaw this (by decide))
 unfold Qev at f4
 rw [if_pos (by omega)]at f4
 have w1:IntKind.i64.wrap (0- -upQ x)=upQ x:=by rw [Qai (by omega) (by omega)];omega
 obtain⟨a1,a2,a3,a4,ea⟩:=Qa3 (-1)
 obtain⟨b1,b2,b3,b4,eb⟩:=Qa3 x
 obtain⟨c1,c2,c3,c4,ec⟩:=Qa3 (-x)
 obtain⟨d1,d2,ed⟩: ∃d1 d2,wPV (-upQ x)= .agg [.bool d1,.str d2]:=⟨_,_,rfl⟩
 rw [ea]at f1
 rw [ea,eb,ec]at f2
 rw [ec,ed]at f3
 rw [ed]at f4
 rw [eb]
 generalize upQ x=U at*
 refine Qac (tb:=[]) 32 [.tmp 2,.tmp 3] [0,1,2,3,4,5,7,8] mixed Tryd.func28 rfl (by kernel_rfl) (by kernel_rfl) (by kernel_rfl) (by kernel_rfl) ?_
 repeat (first|(simp -implicitDefEqProofs only [go_sem,Nat.reduceAdd,Nat.reduceMul,Nat.reduceEqDiff,Nat.reduceLT,Nat.reduceLeDiff,Nat.reduceSub,Nat.reduceBEq,reduceIte,reduceCtorEq,Int.reduceEq,Int.reduceNe,Nat.reduceBneDiff,Int.reduceLE,Int.reduceLT,Int.reduceToNat,Int.reduceAdd,Int.reduceSub,Int.reduceMul,Int.reduceNeg,w1])|((with_reducible refine Qab (f1) ?_ ?_ ?_);(with_reducible rfl);rfl)|((with_reducible refine Qab (f2) ?_ ?_ ?_);(with_reducible rfl);rfl)|((with_reducible refine Qab (f3) ?_ ?_ ?_);(with_reducible rfl);rfl)|((with_reducible refine Qab (f4) ?_ ?_ ?_);(with_reducible rfl);rfl)|(with_reducible exact Qaa _ _ (by kernel_rfl))|(with_reducible refine And.intro (Qaa _ _ (by kernel_rfl)) ?_))
end Go.Proofs.YtciddhkfbgkejaaDoor
