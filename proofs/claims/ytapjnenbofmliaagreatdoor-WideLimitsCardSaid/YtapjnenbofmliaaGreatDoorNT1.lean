/-
  NW7, NW8, Dl, NW9, NW10, NW11, NW12, NW13, NW14, NW15, NSh, NK1, US3, US4, USj, NT1 (merged for the claim).
-/
import Derived.Test.YtapjnenbofmliaaGreatDoorNW6
import Derived.Shelf.Pu.ParseUintPublic10
import Derived.Shelf.Strconv.Itoa1
import Derived.Shelf.Strconv.Itoa2
import Derived.Shelf.Strings.OnBuilder
import Derived.Shelf.Strings.Repeat
import Derived.Test.YtapjnenbofmliaaGreatDoorChecked
import Derived.Test.YtapjnenbofmliaaGreatDoorUW
import Derived.Lib.Join
import Derived.Lib.Repeat
import Derived.Lib.Strings
import Derived.Lib.ItoaMem
import Derived.Lib.ItoaNum
set_option linter.unusedSimpArgs false
set_option linter.unusedVariables false
namespace Go.Proofs.YtapjnenbofmliaaGreatDoor
open Go.Vl Go.RowKit Go.Dg
def Qmu (T:List UInt8):Bool:=(List.range 256).all fun x=>match T[x]? with
 |some t=>decide (x<2^t.toNat)&&(decide (x=0∧t.toNat=0)||decide (2^(t.toNat-1)≤x∧0<t.toNat))
 |none=>false
theorem Qcw {s:ByteArray} (h:Qmu s.data.toList=true) {x:Nat} (hx:x<256): ∃t:UInt8,s[x]? =some t∧t.toNat=blen x:=by
 have h1:=List.all_eq_true.1 h x (by simpa using hx);cases ht:s.data.toList[x]? with
 |none=>rw [ht]at h1;cases h1
 |some t=>
  rw [ht]at h1;simp only [Bool.and_eq_true,Bool.or_eq_true,decide_eq_true_eq]at h1;have hl:=(List.getElem?_eq_some_iff.1 ht);refine⟨t,by rw [Qnx s x hl.1];rw [←List.getElem?_eq_getElem hl.1,ht],?_⟩;obtain⟨h1,h2⟩:=h1;have:=Qcf _ _ h1;rcases h2 with⟨rfl,h2⟩|⟨h2,h3⟩
  ·rw [h2,Qe0]
  ·have:=Qe2 _ _ h2;omega
theorem Qgw (n k:Nat):(n:Int).fdiv (2^k)=((n/2^k:Nat):Int):=by
 rw [Int.fdiv_eq_ediv_of_nonneg _ (Int.pow_nonneg (by decide))];simp
theorem Qsp (n:Nat):(n:Int).fdiv (2^min 16 64)=((n/65536:Nat):Int):=by
 rw [Int.fdiv_eq_ediv_of_nonneg _ (by decide)];rfl
theorem Q6r (n:Nat):(n:Int).fdiv (2^min 8 64)=((n/256:Nat):Int):=by
 rw [Int.fdiv_eq_ediv_of_nonneg _ (by decide)];rfl
theorem Za7 (x:Nat) (hx:x<18446744073709551616):Qag Tryz.prog 102 [.int .u64 (x:Int)] (.int .i64 (blen x:Int)):=by
 have wc8:IntKind.i64.wrap 8=8:=rfl;have wc16:IntKind.i64.wrap 16=16:=rfl;have wc24:IntKind.i64.wrap 24=24:=rfl;have wc32:IntKind.i64.wrap 32=32:=rfl;have wc40:IntKind.i64.wrap 40=40:=rfl;have wc48:IntKind.i64.wrap 48=48:=rfl;have wc56:IntKind.i64.wrap 56=56:=rfl;by_cases q32:4294967296≤x
 ·have h32:(4294967296≤((x:Nat):Int))=True:=by simp only [eq_iff_iff,iff_true];omega
  by_cases q16:65536≤x/4294967296
  ·have h16:(65536≤((x/4294967296:Nat):Int))=True:=by simp only [eq_iff_iff,iff_true];omega
   by_cases q8:256≤(x/4294967296)/65536
   ·have h8:(256≤(((x/4294967296)/65536:Nat):Int))=True:=by simp only [eq_iff_iff,iff_true];omega
    have hx8:((x/4294967296)/65536)/256<256:=by omega
    have hw:=Qee hx8;have h0:(0≤((((x/4294967296)/65536)/256:Nat):Int))=True:=by simp only [eq_iff_iff,iff_true];exact Int.natCast_nonneg _
    have hb:blen x=blen (((x/4294967296)/65536)/256)+56:=by have:=Qc5 56 x (by simp only [Nat.reducePow];omega);simp only [Nat.reducePow]at this;rw [this,show((x/4294967296)/65536)/256=x/72057594037927936 by omega]
    refine Qae (tb:=[]) 25 [.tmp 2] [0,2,4,8,14] mixed Tryz.func102 rfl (by kernel_rfl) (by kernel_rfl) (by kernel_rfl) (by kernel_rfl) ?_;simp -implicitDefEqProofs only [go_sem,seval,h32,h16,h8,Qnw,Qsp,Q6r,hw,h0,Int.toNat_natCast,wc48,wc56];generalize hT:ByteArray.mk _=T;have hok:Qmu T.data.toList=true:=by rw [←hT];kernel_rfl
    obtain⟨t,ht,htb⟩:=Qcw hok hx8;clear hT;have hw2:IntKind.i64.wrap (t.toNat:Int)=(t.toNat:Int):=wrapn (by have:=t.toNat_lt;omega);have hw3:IntKind.i64.wrap (56+(t.toNat:Int))=((blen x:Nat):Int):=by rw [Qaj (by have:=t.toNat_lt;omega) (by have:=t.toNat_lt;omega),hb,←htb];omega
    rw [htb]at hw2 hw3;simp -implicitDefEqProofs only [go_sem,seval,ht,hw2,hw3,htb]
   ·have h8:(256≤(((x/4294967296)/65536:Nat):Int))=False:=by simp only [eq_iff_iff,iff_false];omega
    have hx8:(x/4294967296)/65536<256:=by omega
    have hw:=Qee hx8;have h0:(0≤(((x/4294967296)/65536:Nat):Int))=True:=by simp only [eq_iff_iff,iff_true];exact Int.natCast_nonneg _
    have hb:blen x=blen ((x/4294967296)/65536)+48:=by have:=Qc5 48 x (by simp only [Nat.reducePow];omega);simp only [Nat.reducePow]at this;rw [this,show(x/4294967296)/65536=x/281474976710656 by omega]
    refine Qae (tb:=[]) 25 [.tmp 2] [0,2,4,8,14] mixed Tryz.func102 rfl (by kernel_rfl) (by kernel_rfl) (by kernel_rfl) (by kernel_rfl) ?_;simp -implicitDefEqProofs only [go_sem,seval,h32,h16,h8,Qnw,Qsp,hw,h0,Int.toNat_natCast,wc48];generalize hT:ByteArray.mk _=T;have hok:Qmu T.data.toList=true:=by rw [←hT];kernel_rfl
    obtain⟨t,ht,htb⟩:=Qcw hok hx8;clear hT;have hw2:IntKind.i64.wrap (t.toNat:Int)=(t.toNat:Int):=wrapn (by have:=t.toNat_lt;omega);have hw3:IntKind.i64.wrap (48+(t.toNat:Int))=((blen x:Nat):Int):=by rw [Qaj (by have:=t.toNat_lt;omega) (by have:=t.toNat_lt;omega),hb,←htb];omega
    rw [htb]at hw2 hw3;simp -implicitDefEqProofs only [go_sem,seval,ht,hw2,hw3,htb]
  ·have h16:(65536≤((x/4294967296:Nat):Int))=False:=by simp only [eq_iff_iff,iff_false];omega
   by_cases q8:256≤x/4294967296
   ·have h8:(256≤((x/4294967296:Nat):Int))=True:=by simp only [eq_iff_iff,iff_true];omega
    have hx8:(x/4294967296)/256<256:=by omega
    have hw:=Qee hx8;have h0:(0≤(((x/4294967296)/256:Nat):Int))=True:=by simp only [eq_iff_iff,iff_true];exact Int.natCast_nonneg _
    have hb:blen x=blen ((x/4294967296)/256)+40:=by have:=Qc5 40 x (by simp only [Nat.reducePow];omega);simp only [Nat.reducePow]at this;rw [this,show(x/4294967296)/256=x/1099511627776 by omega]
    refine Qae (tb:=[]) 25 [.tmp 2] [0,2,4,8,14] mixed Tryz.func102 rfl (by kernel_rfl) (by kernel_rfl) (by kernel_rfl) (by kernel_rfl) ?_;simp -implicitDefEqProofs only [go_sem,seval,h32,h16,h8,Qnw,Q6r,hw,h0,Int.toNat_natCast,wc40];generalize hT:ByteArray.mk _=T;have hok:Qmu T.data.toList=true:=by rw [←hT];kernel_rfl
    obtain⟨t,ht,htb⟩:=Qcw hok hx8;clear hT;have hw2:IntKind.i64.wrap (t.toNat:Int)=(t.toNat:Int):=wrapn (by have:=t.toNat_lt;omega);have hw3:IntKind.i64.wrap (40+(t.toNat:Int))=((blen x:Nat):Int):=by rw [Qaj (by have:=t.toNat_lt;omega) (by have:=t.toNat_lt;omega),hb,←htb];omega
    rw [htb]at hw2 hw3;simp -implicitDefEqProofs only [go_sem,seval,ht,hw2,hw3,htb]
   ·have h8:(256≤((x/4294967296:Nat):Int))=False:=by simp only [eq_iff_iff,iff_false];omega
    have hx8:x/4294967296<256:=by omega
    have hw:=Qee hx8;have h0:(0≤((x/4294967296:Nat):Int))=True:=by simp only [eq_iff_iff,iff_true];exact Int.natCast_nonneg _
    have hb:blen x=blen (x/4294967296)+32:=by have:=Qc5 32 x (by simp only [Nat.reducePow];omega);simp only [Nat.reducePow]at this;rw [this,show x/4294967296=x/4294967296 by omega]
    refine Qae (tb:=[]) 25 [.tmp 2] [0,2,4,8,14] mixed Tryz.func102 rfl (by kernel_rfl) (by kernel_rfl) (by kernel_rfl) (by kernel_rfl) ?_;simp -implicitDefEqProofs only [go_sem,seval,h32,h16,h8,Qnw,hw,h0,Int.toNat_natCast];generalize hT:ByteArray.mk _=T;have hok:Qmu T.data.toList=true:=by rw [←hT];kernel_rfl
    obtain⟨t,ht,htb⟩:=Qcw hok hx8;clear hT;have hw2:IntKind.i64.wrap (t.toNat:Int)=(t.toNat:Int):=wrapn (by have:=t.toNat_lt;omega);have hw3:IntKind.i64.wrap (32+(t.toNat:Int))=((blen x:Nat):Int):=by rw [Qaj (by have:=t.toNat_lt;omega) (by have:=t.toNat_lt;omega),hb,←htb];omega
    rw [htb]at hw2 hw3;simp -implicitDefEqProofs only [go_sem,seval,ht,hw2,hw3,htb]
 ·have h32:(4294967296≤((x:Nat):Int))=False:=by simp only [eq_iff_iff,iff_false];omega
  by_cases q16:65536≤x
  ·have h16:(65536≤((x:Nat):Int))=True:=by simp only [eq_iff_iff,iff_true];omega
   by_cases q8:256≤x/65536
   ·have h8:(256≤((x/65536:Nat):Int))=True:=by simp only [eq_iff_iff,iff_true];omega
    have hx8:(x/65536)/256<256:=by omega
    have hw:=Qee hx8;have h0:(0≤(((x/65536)/256:Nat):Int))=True:=by simp only [eq_iff_iff,iff_true];exact Int.natCast_nonneg _
    have hb:blen x=blen ((x/65536)/256)+24:=by have:=Qc5 24 x (by simp only [Nat.reducePow];omega);simp only [Nat.reducePow]at this;rw [this,show(x/65536)/256=x/16777216 by omega]
    refine Qae (tb:=[]) 25 [.tmp 2] [0,2,4,8,14] mixed Tryz.func102 rfl (by kernel_rfl) (by kernel_rfl) (by kernel_rfl) (by kernel_rfl) ?_;simp -implicitDefEqProofs only [go_sem,seval,h32,h16,h8,Qsp,Q6r,hw,h0,Int.toNat_natCast,wc16,wc24];generalize hT:ByteArray.mk _=T;have hok:Qmu T.data.toList=true:=by rw [←hT];kernel_rfl
    obtain⟨t,ht,htb⟩:=Qcw hok hx8;clear hT;have hw2:IntKind.i64.wrap (t.toNat:Int)=(t.toNat:Int):=wrapn (by have:=t.toNat_lt;omega);have hw3:IntKind.i64.wrap (24+(t.toNat:Int))=((blen x:Nat):Int):=by rw [Qaj (by have:=t.toNat_lt;omega) (by have:=t.toNat_lt;omega),hb,←htb];omega
    rw [htb]at hw2 hw3;simp -implicitDefEqProofs only [go_sem,seval,ht,hw2,hw3,htb]
   ·have h8:(256≤((x/65536:Nat):Int))=False:=by simp only [eq_iff_iff,iff_false];omega
    have hx8:x/65536<256:=by omega
    have hw:=Qee hx8;have h0:(0≤((x/65536:Nat):Int))=True:=by simp only [eq_iff_iff,iff_true];exact Int.natCast_nonneg _
    have hb:blen x=blen (x/65536)+16:=by have:=Qc5 16 x (by simp only [Nat.reducePow];omega);simp only [Nat.reducePow]at this;rw [this,show x/65536=x/65536 by omega]
    refine Qae (tb:=[]) 25 [.tmp 2] [0,2,4,8,14] mixed Tryz.func102 rfl (by kernel_rfl) (by kernel_rfl) (by kernel_rfl) (by kernel_rfl) ?_;simp -implicitDefEqProofs only [go_sem,seval,h32,h16,h8,Qsp,hw,h0,Int.toNat_natCast,wc16];generalize hT:ByteArray.mk _=T;have hok:Qmu T.data.toList=true:=by rw [←hT];kernel_rfl
    obtain⟨t,ht,htb⟩:=Qcw hok hx8;clear hT;have hw2:IntKind.i64.wrap (t.toNat:Int)=(t.toNat:Int):=wrapn (by have:=t.toNat_lt;omega);have hw3:IntKind.i64.wrap (16+(t.toNat:Int))=((blen x:Nat):Int):=by rw [Qaj (by have:=t.toNat_lt;omega) (by have:=t.toNat_lt;omega),hb,←htb];omega
    rw [htb]at hw2 hw3;simp -implicitDefEqProofs only [go_sem,seval,ht,hw2,hw3,htb]
  ·have h16:(65536≤((x:Nat):Int))=False:=by simp only [eq_iff_iff,iff_false];omega
   by_cases q8:256≤x
   ·have h8:(256≤((x:Nat):Int))=True:=by simp only [eq_iff_iff,iff_true];omega
    have hx8:x/256<256:=by omega
    have hw:=Qee hx8;have h0:(0≤((x/256:Nat):Int))=True:=by simp only [eq_iff_iff,iff_true];exact Int.natCast_nonneg _
    have hb:blen x=blen (x/256)+8:=by have:=Qc5 8 x (by simp only [Nat.reducePow];omega);simp only [Nat.reducePow]at this;rw [this,show x/256=x/256 by omega]
    refine Qae (tb:=[]) 25 [.tmp 2] [0,2,4,8,14] mixed Tryz.func102 rfl (by kernel_rfl) (by kernel_rfl) (by kernel_rfl) (by kernel_rfl) ?_;simp -implicitDefEqProofs only [go_sem,seval,h32,h16,h8,Q6r,hw,h0,Int.toNat_natCast,wc8];generalize hT:ByteArray.mk _=T;have hok:Qmu T.data.toList=true:=by rw [←hT];kernel_rfl
    obtain⟨t,ht,htb⟩:=Qcw hok hx8;clear hT;have hw2:IntKind.i64.wrap (t.toNat:Int)=(t.toNat:Int):=wrapn (by have:=t.toNat_lt;omega);have hw3:IntKind.i64.wrap (8+(t.toNat:Int))=((blen x:Nat):Int):=by rw [Qaj (by have:=t.toNat_lt;omega) (by have:=t.toNat_lt;omega),hb,←htb];omega
    rw [htb]at hw2 hw3;simp -implicitDefEqProofs only [go_sem,seval,ht,hw2,hw3,htb]
   ·have h8:(256≤((x:Nat):Int))=False:=by simp only [eq_iff_iff,iff_false];omega
    have hx8:x<256:=by omega
    have hw:=Qee hx8;have h0:(0≤((x:Nat):Int))=True:=by simp only [eq_iff_iff,iff_true];exact Int.natCast_nonneg _
    have hb:blen x=blen (x)+0:=by rfl
    refine Qae (tb:=[]) 25 [.tmp 2] [0,2,4,8,14] mixed Tryz.func102 rfl (by kernel_rfl) (by kernel_rfl) (by kernel_rfl) (by kernel_rfl) ?_;simp -implicitDefEqProofs only [go_sem,seval,h32,h16,h8,hw,h0,Int.toNat_natCast];generalize hT:ByteArray.mk _=T;have hok:Qmu T.data.toList=true:=by rw [←hT];kernel_rfl
    obtain⟨t,ht,htb⟩:=Qcw hok hx8;clear hT;have hw2:IntKind.i64.wrap (t.toNat:Int)=(t.toNat:Int):=wrapn (by have:=t.toNat_lt;omega);have hw3:IntKind.i64.wrap (0+(t.toNat:Int))=((blen x:Nat):Int):=by rw [Qaj (by have:=t.toNat_lt;omega) (by have:=t.toNat_lt;omega),hb,←htb];omega
    rw [htb]at hw2 hw3;simp -implicitDefEqProofs only [go_sem,seval,ht,hw2,hw3,htb]
theorem Qz8 (x:Nat) (hx:x<18446744073709551616):Qag Tryz.prog 83 [.int .u64 (x:Int)] (.int .i64 ((64-blen x:Nat):Int)):=by
 have hb:=Qcf 64 x hx;have hw:IntKind.i64.wrap (64-((blen x:Nat):Int))=((64-blen x:Nat):Int):=by rw [Qaj (by omega) (by omega)];omega
 refine Qae (tb:=[]) 6 [.tmp 2] [0,2] mixed Tryz.func83 rfl (by kernel_rfl) (by kernel_rfl) (by kernel_rfl) (by kernel_rfl) ?_;simp -implicitDefEqProofs only [go_sem,seval];refine Qab _ _ _ _ _ _ _ _ _ (Za7 x hx) ?_;simp -implicitDefEqProofs only [go_sem,seval,hw]
theorem Qqz (m:Nat) (hl:(digs BW m).length≤1000000000):Qag Tryz.prog 52 [dw (digs BW m)] (.int .i64 (blen m:Int)):=by
 refine Qae (tb:=[]) 17 [.tmp 2] [0,2,5] mixed Tryz.func52 rfl (by kernel_rfl) (by kernel_rfl) (by kernel_rfl) (by kernel_rfl) ?_;by_cases h0:m=0
 ·subst h0;have h1:(((0:Nat):Int)==0)=true:=rfl;simp -implicitDefEqProofs only [go_sem,Nat.reduceAdd,Nat.reduceMul,Nat.reduceEqDiff,Nat.reduceLT,Nat.reduceLeDiff,reduceCtorEq,dw,Qap,List.map_nil,List.length_nil,h1,Qe0];rfl
 ·have hp:0<(digs BW m).length:=List.length_pos_iff.2 (mt (Qa1 BW_2).1 h0);have h1:(((digs BW m).length:Int)==0)=false:=by simp only [beq_eq_false_iff_ne,ne_eq];omega
  have ht:=Qcv BW_2 h0;have hg:=Qam (n:=m) (k:=(digs BW m).length-1) BW_2 (by omega);rw [Nat.mod_eq_of_lt ht.2]at hg;have hb:blen m=blen (m/BW^((digs BW m).length-1))+64*((digs BW m).length-1):=Qr3 h0 64 (by decide);generalize m/BW^((digs BW m).length-1)=t at*;have htl:=Qcf 64 t ht.2;generalize hL:(digs BW m).length=L at*;have hw1:IntKind.i64.wrap ((L:Int)*64)=((L*64:Nat):Int):=by rw [Qaj (by omega) (by omega)];omega
  have hw2:IntKind.i64.wrap ((L:Int)-1)=((L-1:Nat):Int):=by rw [Qaj (by omega) (by omega)];omega
  have hw3:IntKind.i64.wrap (((L*64:Nat):Int)-((64-blen t:Nat):Int))=((blen m:Nat):Int):=by rw [Qaj (by omega) (by omega),hb];omega
  have h2:(0≤((L-1:Nat):Int))=True:=by simp only [eq_iff_iff,iff_true];exact Int.natCast_nonneg _
  simp -implicitDefEqProofs only [go_sem,Nat.reduceAdd,Nat.reduceMul,Nat.reduceEqDiff,Nat.reduceLT,Nat.reduceLeDiff,reduceCtorEq,dw,List.length_map,hL,h1,hw1,hw2,h2,Qb3,hg,Int.toNat_natCast];refine Qab _ _ _ _ _ _ _ _ _ (Qz8 t ht.2) ?_;simp -implicitDefEqProofs only [go_sem,Nat.reduceAdd,Nat.reduceEqDiff,Nat.reduceLT,reduceCtorEq,hw3]
end Go.Proofs.YtapjnenbofmliaaGreatDoor

namespace Go.Dg
abbrev WB:Nat:=18446744073709551616
theorem Zcd (m:Nat) (hm:m<8):WB=256^(m+1)*256^(7-m):=by
 rw [←Nat.pow_add,show m+1+(7-m)=8 by omega]
theorem Qmg (T b m j:Nat):256^(8*j+m+1)*T+b*256^(8*j+m)=WB^j*(256^(m+1)*T+b*256^m):=by
 have e:WB^j=256^(8*j):=by rw [Nat.pow_mul]
 rw [e,Nat.mul_add,←Nat.mul_assoc,←Nat.pow_add,Nat.mul_left_comm (256^(8*j)) b,←Nat.pow_add,Nat.add_assoc]
theorem Qli (T b m j:Nat) (hb:b<256) (hm:m<8):
  (256^(8*j+m+1)*T+b*256^(8*j+m))/WB^j%WB=256^(m+1)*(T%256^(7-m))+b*256^m:=by
 have hp:0<256^m:=Nat.pow_pos (by decide);have hlt:b*256^m<256^(m+1):=by rw [Nat.pow_succ,Nat.mul_comm];exact Nat.mul_lt_mul_of_pos_left hb hp
 rw [Qmg,Nat.mul_div_cancel_left _ (Nat.pow_pos (by decide)),Zcd m hm];generalize b*256^m=r at*;generalize 256^(m+1)=A at*;generalize 256^(7-m)=q at*;have hA:0<A:=by omega
 rw [Nat.mod_mul,Nat.mul_add_mod,Nat.mod_eq_of_lt hlt,Nat.mul_add_div hA,Nat.div_eq_of_lt hlt,Nat.add_zero,Nat.add_comm]
theorem Qp3 (T b m j i:Nat) (hb:b<256) (hm:m<8) (hi:i≠j):
  (256^(8*j+m+1)*T+b*256^(8*j+m))/WB^i%WB=(256^(8*j+m+1)*T)/WB^i%WB:=by
 have hp:0<256^m:=Nat.pow_pos (by decide);have hlt:b*256^m<256^(m+1):=by rw [Nat.pow_succ,Nat.mul_comm];exact Nat.mul_lt_mul_of_pos_left hb hp
 have e2:=Qmg T 0 m j;rw [Nat.zero_mul,Nat.add_zero,Nat.zero_mul,Nat.add_zero]at e2;rw [Qmg,e2];rcases Nat.lt_or_gt_of_ne hi with h|h
 ·obtain⟨d,rfl⟩:=Nat.exists_eq_add_of_lt h;have e: ∀X:Nat,WB^(i+d+1)*X/WB^i%WB=0:=by
   intro X;rw [show i+d+1=i+(d+1)by omega,Nat.pow_add,Nat.mul_assoc,Nat.mul_div_cancel_left _ (Nat.pow_pos (by decide)),Nat.pow_succ,Nat.mul_comm (WB^d),Nat.mul_assoc,Nat.mul_mod_right]
  rw [e,e]
 ·obtain⟨d,rfl⟩:=Nat.exists_eq_add_of_lt h;have e: ∀X:Nat,WB^j*X/WB^(j+d+1)=X/WB/WB^d:=by
   intro X;rw [show j+d+1=j+(1+d)by omega,Nat.pow_add,Nat.mul_div_mul_left _ _ (Nat.pow_pos (by decide)),Nat.pow_add,Nat.pow_one,Nat.div_div_eq_div_mul]
  rw [e,e];congr 2;rw [Zcd m hm];generalize b*256^m=r at*;generalize 256^(m+1)=A at*;generalize 256^(7-m)=q at*;have hA:0<A:=by omega
  rw [←Nat.div_div_eq_div_mul,←Nat.div_div_eq_div_mul,Nat.mul_add_div hA,Nat.div_eq_of_lt hlt,Nat.add_zero,Nat.add_zero,Nat.mul_div_cancel_left _ hA]
end Go.Dg

namespace Go.Proofs.YtapjnenbofmliaaGreatDoor
open Go.Vl Go.RowKit Go.Dg
theorem Q6s {P:Program} {t:TypeId} (x y:Nat):Qbd .or t P (.int .u64 (x:Int)) (.int .u64 (y:Int))=some (.int .u64 (((x%18446744073709551616) ||| (y%18446744073709551616):Nat):Int)):=by
 rw [b_or];have h:(BitVec.ofInt IntKind.u64.bits (x:Int) ||| BitVec.ofInt IntKind.u64.bits (y:Int)).toNat=(x%18446744073709551616) ||| (y%18446744073709551616):=by
  rw [BitVec.toNat_or];have h1: ∀n:Nat,(BitVec.ofInt IntKind.u64.bits (n:Int)).toNat=n%18446744073709551616:=by intro n;show(BitVec.ofInt 64 (n:Int)).toNat=_;simp
  rw [h1,h1]
 rw [h,Qcr,Nat.mod_eq_of_lt (Nat.or_lt_two_pow (n:=64) (Nat.mod_lt _ (by decide)) (Nat.mod_lt _ (by decide)))]
theorem Qjw (x k:Nat):IntKind.u64.wrap ((x:Int)*2^k)=((x*2^k%18446744073709551616:Nat):Int):=by
 rw [←Qcr];congr 1
theorem Q6t (n:Nat):Int.tdiv (n:Int) 8=((n/8:Nat):Int):=by
 rw [Int.tdiv_eq_ediv_of_nonneg (by omega)];rfl
theorem Zd0 (n:Nat):Int.tmod (n:Int) 8=((n%8:Nat):Int):=by
 rw [Int.tmod_eq_emod_of_nonneg (by omega)];rfl
theorem Quz (T b m j:Nat) (hb:b<256) (hm:m<8):
  ((256^(8*j+m+1)*T/WB^j%WB) ||| (b*2^(m*8)%18446744073709551616))=(256^(8*j+m+1)*T+b*256^(8*j+m))/WB^j%WB:=by
 have h0:=Qli T 0 m j (by decide) hm;rw [Nat.zero_mul,Nat.add_zero,Nat.zero_mul,Nat.add_zero]at h0;rw [Qli T b m j hb hm,h0];have e8: ∀k,(256:Nat)^k=2^(k*8):=fun k=>by rw [Nat.mul_comm,Nat.pow_mul]
 have hp:0<256^m:=Nat.pow_pos (by decide);have hlt:b*256^m<256^(m+1):=by rw [Nat.pow_succ,Nat.mul_comm];exact Nat.mul_lt_mul_of_pos_left hb hp
 have hle:256^(m+1)≤18446744073709551616:=Nat.pow_le_pow_right (n:=256) (by decide) (show m+1≤8 by omega);rw [←e8 m,Nat.mod_eq_of_lt (Nat.lt_of_lt_of_le hlt hle)];rw [e8 (m+1)]at hlt ⊢;exact(Nat.two_pow_add_eq_or_of_lt hlt _).symm
attribute [local go_sem high] Q6s
def pre (l:List UInt8) (i:Nat):Nat:=bnum (l.take i)*256^(l.length-i)
theorem Qjx (s:ByteArray) (hs:s.size≤1000000):Qag Tryz.prog 34 [.str s] (dw (lows BW (bnum s.data.toList) ((s.data.toList.length+7)/8))):=by
 rw [Qjh]at hs;have hsz:=Qjh s;have hget:=Qnx s;generalize s.data.toList=l at*;have w1:IntKind.i64.wrap ((l.length:Int)+7)=((l.length+7:Nat):Int):=by rw [Qaj (by omega) (by omega)];omega
 have w2:=wrapn (n:=(l.length+7)/8) (by omega);have hn0:((0:Int)≤(((l.length+7)/8:Nat):Int))=True:=by simp only [eq_iff_iff,iff_true];exact Int.natCast_nonneg _
 have hn1:((8:Nat):Int)*(((l.length+7)/8:Nat):Int)≤281474976710656:=by omega
 have hn2:(((l.length+7)/8:Nat):Int)≤9223372036854775807:=by omega
 refine Qae (tb:=[]) 38 [.tmp 2] [0,2,3,4,5,12,13,14] mixed Tryz.func34 rfl (by kernel_rfl) (by kernel_rfl) (by kernel_rfl) (by kernel_rfl) ?_;simp -implicitDefEqProofs only [go_sem,Nat.reduceAdd,Nat.reduceMul,Nat.reduceEqDiff,Nat.reduceLT,Nat.reduceLeDiff,reduceCtorEq,Int.reduceEq,hsz,w1,w2,Q6t,hn0,hn1,hn2,Int.toNat_natCast];have hst:List.replicate ((l.length+7)/8) (PV.int .u64 0)=(lows BW (pre l 0) ((l.length+7)/8)).map fW:=by
  rw [pre,List.take_zero,show bnum []=0 from rfl,Nat.zero_mul,Qdg];simp
 rw [hst];generalize hW:(l.length+7)/8=W at*;refine Qba mixed (fun i:{i:Nat // i≤l.length}=>St.of [(0,.str s),(2,.nilS),(3,.bs 104 1 0 W),(12,.int .i64 (l.length:Int)),(13,.int .i64 (i.1:Int))]
   [(104,{els:=(lows BW (pre l i.1) W).map fW,esz:=1,ety:=66,fro:=0,live:=true,arr:=true})]) (fun i=>l.length-i.1) ⟨0,Nat.zero_le _⟩ ?_ ?_
 ·refine Qa0 (θ:=[(104,104)]) rfl ?_ ?_
  ·simp [Qah,lkp,ren1,ren0]
  ·simp [Qal,lkp,Box.renames]
 ·rintro⟨i,hi⟩;by_cases hA:i<l.length
  ·have hA':((i:Int)<(l.length:Int))=True:=by simp;omega
   have h0:(0≤(i:Int))=True:=by simp
   have hg:=hget i hA;have hwk:=Qa5 (a:=i) (by omega);have v1:IntKind.i64.wrap ((l.length:Int)-1)=((l.length-1:Nat):Int):=by rw [Qaj (by omega) (by omega)];omega
   have v2:IntKind.i64.wrap (((l.length-1:Nat):Int)-(i:Int))=((l.length-1-i:Nat):Int):=by rw [Qaj (by omega) (by omega)];omega
   have htk:l.take (i+1)=l.take i++[l[i]]:=by rw [List.take_add_one];simp [hA]
   have hb:l[i].toNat<256:=l[i].toNat_lt;generalize hk:l.length-1-i=k at*;have hkj:k=8*(k/8)+k%8:=by omega
   have hm:k%8<8:=Nat.mod_lt _ (by decide);have hjW:k/8<W:=by omega
   have p0:pre l i=256^(8*(k/8)+k%8+1)*bnum (l.take i):=by
    rw [pre,Nat.mul_comm,show l.length-i=8*(k/8)+k%8+1 by omega]
   have p1:pre l (i+1)=256^(8*(k/8)+k%8+1)*bnum (l.take i)+l[i].toNat*256^(8*(k/8)+k%8):=by
    rw [pre,htk,Qgi,show l.length-(i+1)=8*(k/8)+k%8 by omega,Nat.add_mul,Nat.pow_succ,Nat.mul_assoc,Nat.mul_comm (bnum _),Nat.mul_comm 256]
   have hpw:=Quz (bnum (l.take i)) l[i].toNat (k%8) (k/8) hb hm;have hoth:=fun c hc=>Qp3 (bnum (l.take i)) l[i].toNat (k%8) (k/8) c hb hm hc;rw [←p1,←p0]at hpw;rw [←p1,←p0]at hoth;have hgo:((lows BW (pre l i) W).map fW)[k/8]? =some (PV.int .u64 ((pre l i/BW^(k/8)%BW:Nat):Int)):=by rw [List.getElem?_map,Qbh _ _ _ hjW];rfl
   have hset:(lows BW (pre l i) W).set (k/8) (pre l (i+1)/BW^(k/8)%BW)=lows BW (pre l (i+1)) W:=by
    apply List.ext_getElem?;intro c;rw [List.getElem?_set,Qaf];by_cases hc:c<W
    ·rw [Qbh _ _ _ hc,Qbh _ _ _ hc];by_cases e:k/8=c
     ·subst e;simp [hjW]
     ·simp only [e,if_false];rw [hoth c (fun h=>e h.symm)]
    ·rw [List.getElem?_eq_none (by rw [Qaf];omega),List.getElem?_eq_none (by rw [Qaf];omega)];simp;omega
   have hll:=Qaf (B:=BW) (pre l i) W;have u1:IntKind.i64.wrap (((k/8:Nat):Int))=((k/8:Nat):Int):=wrapn (by omega);have u2:IntKind.i64.wrap (((k%8:Nat):Int)*8)=((k%8*8:Nat):Int):=by rw [Qaj (by omega) (by omega)];omega
   have u3:(((k%8*8:Nat):Int)<0)=False:=by simp only [eq_iff_iff,iff_false];omega
   have u4:min (k%8*8) 64=k%8*8:=by omega
   have u5:(0≤((k/8:Nat):Int))=True:=by simp only [eq_iff_iff,iff_true];exact Int.natCast_nonneg _
   have u6:(((k/8:Nat):Int)<(W:Int))=True:=by simp only [eq_iff_iff,iff_true];omega
   have u7:l[i].toNat%18446744073709551616=l[i].toNat:=Nat.mod_eq_of_lt (by omega);have u8:pre l i/BW^(k/8)%BW%18446744073709551616=pre l i/BW^(k/8)%BW:=Nat.mod_mod _ _;simp -implicitDefEqProofs only [go_sem,Nat.reduceAdd,Nat.reduceMul,Nat.reduceEqDiff,Nat.reduceLT,Nat.reduceLeDiff,reduceIte,reduceCtorEq,Int.reduceEq,hA',h0,hg,hsz,v1,v2,Q6t,Zd0,u1,u2,u3,u4,u5,u6,Int.toNat_natCast,hgo,Qcr,u7,Qjw];refine⟨Qad _ _ (by kernel_rfl),⟨i+1,hA⟩,by simp only;omega,?_⟩;rw [u8,Nat.mod_mod,hpw,Qb9,hset,hwk];refine Qa0 (θ:=[(104,104)]) rfl ?_ ?_
   ·simp [Qah,lkp,ren1,ren0]
   ·simp [Qal,lkp,Box.renames]
  ·have hA':((i:Int)<(l.length:Int))=False:=by simp;omega
   have e:pre l i=bnum l:=by rw [pre,List.take_of_length_le (by omega),show l.length-i=0 by omega,Nat.pow_zero,Nat.mul_one]
   have hll:=Qaf (B:=BW) (bnum l) W;have htk:((lows BW (bnum l) W).map fW).take W=(lows BW (bnum l) W).map fW:=List.take_of_length_le (by simp [hll]);simp -implicitDefEqProofs only [go_sem,Nat.reduceAdd,Nat.reduceMul,Nat.reduceEqDiff,Nat.reduceLT,Nat.reduceLeDiff,reduceIte,reduceCtorEq,hA',e,List.length_map,hll,htk,dw]
end Go.Proofs.YtapjnenbofmliaaGreatDoor

namespace Go.Proofs.YtapjnenbofmliaaGreatDoor
open Go.Vl Go.RowKit Go.Dg
theorem Qoh (m k:Nat):m/BW^(k/8)%BW/2^(k%8*8)%256=m/256^k%256:=by
 have hm:k%8<8:=Nat.mod_lt _ (by decide);have e8: ∀k,(256:Nat)^k=2^(k*8):=fun k=>by rw [Nat.mul_comm,Nat.pow_mul]
 have hk:k=8*(k/8)+k%8:=by omega
 have e1:(256:Nat)^k=BW^(k/8)*256^(k%8):=by
  conv=>lhs;rw [hk,Nat.pow_add,Nat.pow_mul]
 rw [←e8,e1,←Nat.div_div_eq_div_mul];generalize m/BW^(k/8)=v;have e2:BW=256^(k%8)*(256*256^(7-k%8)):=by
  rw [←Nat.mul_assoc,←Nat.pow_succ,←Nat.pow_add,show k%8+1+(7-k%8)=8 by omega]
 rw [e2,Nat.mod_mul_right_div_self,Nat.mod_mul_right_mod]
def stp (m D i:Nat):List Nat:=(List.range D).map fun c=>if c<i then m/256^(D-1-c)%256 else 0
theorem Qdf (m D i:Nat):(stp m D i).length=D:=by simp [stp]
theorem Qjs (m D i c:Nat) (h:c<D):(stp m D i)[c]? =some (if c<i then m/256^(D-1-c)%256 else 0):=by simp [stp,h]
theorem Q6i (m D:Nat):List.replicate D (PV.int .u8 0)=(stp m D 0).map f8:=by
 apply List.ext_getElem?;intro c;by_cases hc:c<D
 ·rw [List.getElem?_map,Qjs _ _ _ _ hc];simp [hc]
 ·rw [List.getElem?_eq_none (by simp;omega),List.getElem?_eq_none (by simp [Qdf];omega)]
theorem Zay (m D i:Nat) (hi:i<D):(stp m D i).set i (m/256^(D-1-i)%256)=stp m D (i+1):=by
 apply List.ext_getElem?;intro c;rw [List.getElem?_set,Qdf];by_cases hc:c<D
 ·rw [Qjs _ _ _ _ hc,Qjs _ _ _ _ hc];by_cases e:i=c
  ·subst e;simp [hi]
  ·simp only [e,if_false];by_cases hlt:c<i
   ·rw [if_pos hlt,if_pos (by omega)]
   ·rw [if_neg hlt,if_neg (by omega)]
 ·rw [List.getElem?_eq_none (by rw [Qdf];omega),List.getElem?_eq_none (by rw [Qdf];omega)];simp;omega
theorem Q6j (m:Nat):stp m (digs 256 m).length (digs 256 m).length=(digs 256 m).reverse:=by
 apply List.ext_getElem?;intro c;by_cases hc:c<(digs 256 m).length
 ·rw [Qjs _ _ _ _ hc,if_pos hc,List.getElem?_reverse hc,Qam (by decide) (by omega)]
 ·rw [List.getElem?_eq_none (by rw [Qdf];omega),List.getElem?_eq_none (by simp;omega)]
theorem Zdo (l:List Nat) (i:Nat) (d:Nat):(l.map f8).set i (PV.int .u8 (d:Int))=(l.set i d).map f8:=(List.map_set (f:=f8)).symm
theorem Q6k (n:Nat):IntKind.u8.wrap (n:Int)=((n%256:Nat):Int):=by
 simp [IntKind.wrap,IntKind.signed,IntKind.bits]
theorem Qsk (m:Nat) (hl:(digs BW m).length≤1000000):Qag Tryz.prog 82 [dw (digs BW m)] (.str ⟨(magL m).toArray⟩):=by
 have hbl:(blen m+7)/8=(digs 256 m).length:=by
  by_cases h0:m=0
  ·subst h0;rw [Qe0,Qap];rfl
  ·have ht:=Qcv (B:=256) (by decide) h0;have hb:blen m=blen (m/256^((digs 256 m).length-1))+8*((digs 256 m).length-1):=Qr3 h0 8 (by decide);have h1:=Qcf 8 _ ht.2;have h2:=Qe1 ht.1;have hp:0<(digs 256 m).length:=List.length_pos_iff.2 (mt (Qa1 (by decide)).1 h0);omega
 have hbm:blen m≤64*(digs BW m).length:=Qcf _ _ (by rw [Nat.pow_mul];exact Qay BW_2 m);have w1:IntKind.i64.wrap ((blen m:Int)+7)=((blen m+7:Nat):Int):=by rw [Qaj (by omega) (by omega)];omega
 have w2:=wrapn (n:=(blen m+7)/8) (by omega);generalize hD:(digs 256 m).length=D at*;have hD2:D≤9000000:=by omega
 have hn0:((0:Int)≤((D:Nat):Int))=True:=by simp
 have hn1:((1:Nat):Int)*(D:Int)≤281474976710656:=by omega
 have hn2:(D:Int)≤9223372036854775807:=by omega
 rw [hbl]at w2;refine Qae (tb:=[]) 37 [.tmp 2] [0,2,3,4,5,12,13,14] mixed Tryz.func82 rfl (by kernel_rfl) (by kernel_rfl) (by kernel_rfl) (by kernel_rfl) ?_;simp -implicitDefEqProofs only [go_sem,Nat.reduceAdd,Nat.reduceMul,Nat.reduceEqDiff,Nat.reduceLT,Nat.reduceLeDiff,reduceCtorEq,dw];refine Qab _ _ _ _ _ _ _ _ _ (Qqz m (by omega)) ?_;simp -implicitDefEqProofs only [go_sem,Nat.reduceAdd,Nat.reduceMul,Nat.reduceEqDiff,Nat.reduceLT,Nat.reduceLeDiff,reduceCtorEq,Int.reduceEq,w1,Q6t,hbl,w2,hn0,hn1,hn2,Int.toNat_natCast];have hfull:=Q6j m;rw [hD]at hfull;rw [Q6i m D];refine Qba mixed (fun i:{i:Nat // i≤D}=>St.of [(0,dw (digs BW m)),(2,.str ⟨#[]⟩),(3,.bs 104 1 0 D),(12,.int .i64 (D:Int)),(13,.int .i64 (i.1:Int))]
   [(104,{els:=(stp m D i.1).map f8,esz:=1,ety:=5,fro:=0,live:=true,arr:=true})]) (fun i=>D-i.1) ⟨0,Nat.zero_le _⟩ ?_ ?_
 ·refine Qa0 (θ:=[(104,104)]) rfl ?_ ?_
  ·simp [Qah,lkp,ren1,ren0,dw]
  ·simp [Qal,lkp,Box.renames]
 ·rintro⟨i,hi⟩;by_cases hA:i<D
  ·have hA':((i:Int)<(D:Int))=True:=by simp;omega
   have h0:(0≤(i:Int))=True:=by simp
   have hwk:=Qa5 (a:=i) (by omega);have v1:IntKind.i64.wrap ((D:Int)-1)=((D-1:Nat):Int):=by rw [Qaj (by omega) (by omega)];omega
   have v2:IntKind.i64.wrap (((D-1:Nat):Int)-(i:Int))=((D-1-i:Nat):Int):=by rw [Qaj (by omega) (by omega)];omega
   have hset:=Zay m D i hA;have hne:m/256^(D-1-i)≠0:=(Qbt (by decide) m _).1 (by omega);generalize hk:D-1-i=k at*;have hbw:=Qoh m k;have hwne:m/BW^(k/8)≠0:=by
    intro h;apply hne;have e1:(256:Nat)^k=BW^(k/8)*256^(k%8):=by
     conv=>lhs;rw [show k=8*(k/8)+k%8 by omega,Nat.pow_add,Nat.pow_mul]
    rw [e1,←Nat.div_div_eq_div_mul,h,Nat.zero_div]
   have hgw:=Qam (n:=m) (k:=k/8) BW_2 ((Qbt BW_2 m _).2 hwne);generalize m/BW^(k/8)%BW=q at*;have u1:IntKind.i64.wrap (((k/8:Nat):Int))=((k/8:Nat):Int):=wrapn (by omega);have u2:IntKind.i64.wrap (((k%8:Nat):Int)*8)=((k%8*8:Nat):Int):=by rw [Qaj (by omega) (by omega)];omega
   have u3:(((k%8*8:Nat):Int)<0)=False:=by simp only [eq_iff_iff,iff_false];omega
   have u4:min (k%8*8) 64=k%8*8:=by omega
   have u5:(0≤((k/8:Nat):Int))=True:=by simp only [eq_iff_iff,iff_true];exact Int.natCast_nonneg _
   obtain⟨e,hgo⟩: ∃e:Nat,((stp m D i).map f8)[i]? =some (PV.int .u8 (e:Int)):=⟨_,by rw [List.getElem?_map,Qjs _ _ _ _ hA];rfl⟩;have hsl:=Qdf m D i;simp -implicitDefEqProofs only [go_sem,Nat.reduceAdd,Nat.reduceMul,Nat.reduceEqDiff,Nat.reduceLT,Nat.reduceLeDiff,reduceIte,reduceCtorEq,Int.reduceEq,dw,hA',h0,v1,v2,Q6t,Zd0,u1,u2,u3,u4,u5,Int.toNat_natCast,Qb3,hgw,Qgw,Q6k,hbw,hgo,hwk];refine⟨⟨i+1,hA⟩,by simp only;omega,?_⟩;refine Qa0 (θ:=[(104,104)]) rfl ?_ ?_
   ·simp [Qah,lkp,ren1,ren0,dw]
   ·rw [Zdo,hset];simp [Qal,lkp,Box.renames]
  ·have hA':((i:Int)<(D:Int))=False:=by simp;omega
   obtain rfl:i=D:=by omega
   rw [hfull];have hrl:(digs 256 m).reverse.length=i:=by simp [hD]
   have htk:((digs 256 m).reverse.map f8).take i=(digs 256 m).reverse.map f8:=List.take_of_length_le (by simp [hD]);simp -implicitDefEqProofs only [go_sem,Nat.reduceAdd,Nat.reduceMul,Nat.reduceEqDiff,Nat.reduceLT,Nat.reduceLeDiff,reduceIte,reduceCtorEq,hA',List.length_map,hrl,htk,Qll];rfl
theorem Qd0 (neg:Bool) (m:Nat) (hl:(digs BW m).length≤1000000):Qag Tryz.prog 51 [nP neg m] (Qc7 (sv neg m)):=by
 have hna:(sv neg m).natAbs=m:=by cases neg<;>simp [sv]
 have hneg:decide (sv neg m<0)=(neg&&decide (0<m)):=by
  cases neg
  ·simp [sv]
  ·simp [sv]
 unfold Qc7;rw [hna];refine Qae (tb:=[]) 21 [.cell 2 23,.tmp 3] [0,1,2,3,7] mixed Tryz.func51 rfl (by kernel_rfl) (by kernel_rfl) (by kernel_rfl) (by kernel_rfl) ?_;simp -implicitDefEqProofs only [go_sem,seval,nP,dw];refine Qab _ _ _ _ _ _ _ _ _ (Qqz m (by omega)) ?_;by_cases h:65536<blen m
 ·have h':((65536:Int)<(blen m:Int))=True:=by simp only [eq_iff_iff,iff_true];omega
  rw [if_pos h,Qi6];simp -implicitDefEqProofs only [go_sem,seval,h']
 ·have h':((65536:Int)<(blen m:Int))=False:=by simp only [eq_iff_iff,iff_false];omega
  rw [if_neg h];have hlen:decide ((0:Int)<((digs BW m).length:Int))=decide (0<m):=by
   simp only [decide_eq_decide];have:=mt (Qa1 BW_2 (n:=m)).2;by_cases h0:m=0
   ·subst h0;simp [Qap]
   ·have:=List.length_pos_iff.2 (mt (Qa1 BW_2).1 h0);constructor<;>intro _<;>omega
  cases neg with
  |true=>
   simp -implicitDefEqProofs only [go_sem,seval,h',List.length_map];refine Qab _ _ _ _ _ _ _ _ _ (Qsk m hl) ?_;simp -implicitDefEqProofs only [go_sem,seval,wPV,hna,hneg,hlen,Bool.true_and];exact Qad _ _ (by kernel_rfl)
  |false=>
   simp -implicitDefEqProofs only [go_sem,seval,h'];refine Qab _ _ _ _ _ _ _ _ _ (Qsk m hl) ?_;simp -implicitDefEqProofs only [go_sem,seval,wPV,hna,hneg,Bool.false_and];exact Qad _ _ (by kernel_rfl)
theorem bfold (r:List UInt8): ∀a:Nat,r.foldl (fun n b=>n*256+b.toNat) a=a*256^r.length+bnum r:=by
 induction r with
 |nil=>intro a;simp [bnum]
 |cons b r ih=>
  intro a;have h0:bnum (b::r)=b.toNat*256^r.length+bnum r:=by
   have h:=ih (0*256+b.toNat);rw [Nat.zero_mul,Nat.zero_add]at h;rw [←h,bnum,List.foldl_cons,Nat.zero_mul,Nat.zero_add]
  rw [List.foldl_cons,ih,h0,List.length_cons,Nat.pow_succ,Nat.add_mul,Nat.mul_assoc,Nat.mul_comm 256];omega
theorem Qgt (b:UInt8) (r:List UInt8):bnum (b::r)=b.toNat*256^r.length+bnum r:=by
 have h:=bfold r (0*256+b.toNat);rw [Nat.zero_mul,Nat.zero_add]at h;rw [←h,bnum,List.foldl_cons,Nat.zero_mul,Nat.zero_add]
theorem Qe5 {neg:Bool} {l:List UInt8} (h:Qa2 neg l=true):lows BW (bnum l) ((l.length+7)/8)=digs BW (bnum l):=by
 refine Qjl BW_2 ?_ ?_
 ·refine Nat.lt_of_lt_of_le (Ql9 _ l rfl) ?_;rw [show BW=256^8 from rfl,←Nat.pow_mul];exact Nat.pow_le_pow_right (by decide) (by omega)
 ·intro j hj;cases l with
  |nil=>simp at hj
  |cons b r=>
   have hb:b.toNat≠0:=by
    intro e;have:b=0:=UInt8.toNat_inj.1 (by simpa using e);subst this;simp [Qa2]at h
   have hge:256^r.length≤bnum (b::r):=by
    rw [Qgt];have:=Nat.mul_le_mul_right (256^r.length) (Nat.pos_of_ne_zero hb);omega
   have hle:BW^j≤256^r.length:=by
    rw [show BW=256^8 from rfl,←Nat.pow_mul];exact Nat.pow_le_pow_right (by decide) (by simp at hj;omega)
   have:=Nat.div_pos (Nat.le_trans hle hge) (Nat.pow_pos (n:=j) (show 0<BW by decide));omega
theorem Qhq (neg:Bool) (s:ByteArray) (h:Qa2 neg s.data.toList=true) (hs:s.size≤1000000):Qag Tryz.prog 54 [.agg [.bool neg,.str s]] (nP neg (bnum s.data.toList)):=by
 have hl:=Qjx s hs;rw [Qe5 h]at hl;refine Qae (tb:=[]) 9 [.cell 2 87] [0,1,2] mixed Tryz.func54 rfl (by kernel_rfl) (by kernel_rfl) (by kernel_rfl) (by kernel_rfl) ?_;simp -implicitDefEqProofs only [go_sem,seval];refine Qab _ _ _ _ _ _ _ _ _ hl ?_;simp -implicitDefEqProofs only [go_sem,seval,nP,dw];exact Qad _ _ (by kernel_rfl)
def wnum (neg:Bool) (s:ByteArray):Int:=sv neg (bnum s.data.toList)
theorem Qdk (s:ByteArray) (hs:s.size≤100000):(digs BW (bnum s.data.toList)).length≤100000:=by
 rw [Qjh]at hs;refine Nat.le_trans ((Qak BW_2 _ s.data.toList.length).2 ?_) hs;exact Nat.lt_of_lt_of_le (Ql9 _ _ rfl) (Nat.pow_le_pow_left (by decide) _)
theorem Q8e (a b m k:Nat) (hm:m≤a+b) (h1:(digs BW a).length≤k) (h2:(digs BW b).length≤k):(digs BW m).length≤k+1:=by
 rw [Qak BW_2]at h1 h2 ⊢;rw [Nat.pow_succ];generalize BW^k=K at*;simp only [BW];omega
def outN (n:Int):Int:=if 65536<blen n.natAbs then 0 else n
def outE (n:Int):Int:=if 65536<blen n.natAbs then 7 else 0
theorem Qdu (n:Int):Qc7 n= .tup [wPV (outN n),.int .i64 (outE n)]:=by
 unfold Qc7 outN outE;split<;>rfl
theorem Zdp (an bn:Bool) (a b:ByteArray) (h1:Qa2 an a.data.toList=true) (h2:Qa2 bn b.data.toList=true) (ha:a.size≤100000) (hb:b.size≤100000):Qag Tryz.prog 17 [.agg [.bool an,.str a],.agg [.bool bn,.str b]] (Qc7 (wnum an a+wnum bn b)):=by
 have hL1:=Qdk a ha;have hL2:=Qdk b hb;have h:(Qa2 an a.data.toList&&Qa2 bn b.data.toList)=true:=by rw [h1,h2];rfl
 obtain⟨n,m,hs,e,hm⟩:=Q8l an bn (bnum a.data.toList) (bnum b.data.toList) (by omega) (by omega);have hLm:(digs BW m).length≤1000000:=by
  exact Nat.le_trans (Q8e _ _ _ _ hm hL1 hL2) (by decide)
 rw [wnum,wnum,←e];refine Qae (tb:=[]) 19 [.cell 4 23,.tmp 5] [0,1,2,3,4,5,9] mixed Tryz.func17 rfl (by kernel_rfl) (by kernel_rfl) (by kernel_rfl) (by kernel_rfl) ?_;simp -implicitDefEqProofs only [go_sem,seval];refine Qab _ _ _ _ _ _ _ _ _ (Qlo an bn a b) ?_;simp -implicitDefEqProofs only [go_sem,seval,h];refine Qab _ _ _ _ _ _ _ _ _ (Qhq an a h1 (by omega)) ?_;simp -implicitDefEqProofs only [go_sem,seval,nP,dw];refine Qab _ _ _ _ _ _ _ _ _ (Qhq bn b h2 (by omega)) ?_;simp -implicitDefEqProofs only [go_sem,seval,nP,dw];refine Qab _ _ _ _ _ _ _ _ _ hs ?_;simp -implicitDefEqProofs only [go_sem,seval,nP,dw];refine Qab _ _ _ _ _ _ _ _ _ (Qd0 n m hLm) ?_;unfold Qc7;split
 ·simp -implicitDefEqProofs only [go_sem,seval,wPV];exact Qad _ _ (by kernel_rfl)
 ·simp -implicitDefEqProofs only [go_sem,seval,wPV];exact Qad _ _ (by kernel_rfl)
theorem Zdq (an bn:Bool) (a b:ByteArray) (h1:Qa2 an a.data.toList=true) (h2:Qa2 bn b.data.toList=true) (ha:a.size≤100000) (hb:b.size≤100000):Qag Tryz.prog 18 [.agg [.bool an,.str a],.agg [.bool bn,.str b]] (Qc7 (wnum an a-wnum bn b)):=by
 have hL1:=Qdk a ha;have hL2:=Qdk b hb;have h:(Qa2 an a.data.toList&&Qa2 bn b.data.toList)=true:=by rw [h1,h2];rfl
 obtain⟨n,m,hs,e,hm⟩:=Q8l an (!bn) (bnum a.data.toList) (bnum b.data.toList) (by omega) (by omega);have hLm:(digs BW m).length≤1000000:=Nat.le_trans (Q8e _ _ _ _ hm hL1 hL2) (by decide);have e2:sv (!bn) (bnum b.data.toList)= -(sv bn (bnum b.data.toList)):=by cases bn<;>simp [sv]
 rw [wnum,wnum,Int.sub_eq_add_neg,←e2,←e];refine Qae (tb:=[]) 20 [.cell 4 23,.tmp 5] [0,1,2,3,4,5,9] mixed Tryz.func18 rfl (by kernel_rfl) (by kernel_rfl) (by kernel_rfl) (by kernel_rfl) ?_;simp -implicitDefEqProofs only [go_sem,seval];refine Qab _ _ _ _ _ _ _ _ _ (Qlo an bn a b) ?_;simp -implicitDefEqProofs only [go_sem,seval,h];refine Qab _ _ _ _ _ _ _ _ _ (Qhq an a h1 (by omega)) ?_;simp -implicitDefEqProofs only [go_sem,seval,nP,dw];refine Qab _ _ _ _ _ _ _ _ _ (Qhq bn b h2 (by omega)) ?_;simp -implicitDefEqProofs only [go_sem,seval,nP,dw];refine Qab _ _ _ _ _ _ _ _ _ (Zdz bn (bnum b.data.toList)) ?_;simp -implicitDefEqProofs only [go_sem,seval,nP,dw];refine Qab _ _ _ _ _ _ _ _ _ hs ?_;simp -implicitDefEqProofs only [go_sem,seval,nP,dw];refine Qab _ _ _ _ _ _ _ _ _ (Qd0 n m hLm) ?_;unfold Qc7;split
 ·simp -implicitDefEqProofs only [go_sem,seval,wPV];exact Qad _ _ (by kernel_rfl)
 ·simp -implicitDefEqProofs only [go_sem,seval,wPV];exact Qad _ _ (by kernel_rfl)
theorem lw_v (n:Int) (h1: -9223372036854775808≤n) (h2:n≤9223372036854775807):Qag Tryz.prog 27 [.int .i64 n] (wPV n):=by
 have hL:=Qwp (n:=n.natAbs) (by omega);have hL2:(digs 256 n.natAbs).length≤8:=(Qak (by decide) _ 8).2 (by simp only [Nat.reducePow];omega);refine Qae (tb:=[]) 6 [.cell 2 23] [0,2] mixed Tryz.func27 rfl (by kernel_rfl) (by kernel_rfl) (by kernel_rfl) (by kernel_rfl) ?_;simp -implicitDefEqProofs only [go_sem,seval];refine Qab _ _ _ _ _ _ _ _ _ (Zcm n h1 h2) ?_;simp -implicitDefEqProofs only [go_sem,seval,rI,di];refine Qab _ _ _ _ _ _ _ _ _ (Ze4 n (by omega) (by omega)) ?_;simp -implicitDefEqProofs only [go_sem,seval,wPV]
end Go.Proofs.YtapjnenbofmliaaGreatDoor

namespace Go.Proofs.YtapjnenbofmliaaGreatDoor
open Go.Shelf Go.Proofs
def Tryz.laysPu14_ren:Go.Shelf.Ren:=⟨fun|14=>47|16=>78|17=>79|19=>96|20=>97|21=>98|22=>99|23=>100|24=>101|25=>113|27=>115|26=>114|28=>121|29=>122|30=>88|31=>89|32=>90|33=>91|35=>102|34=>107|36=>108|37=>109|38=>110|39=>119|40=>120|n=>n,fun|9=>9|3=>3|22=>66|24=>81|25=>82|4=>4|34=>132|5=>5|36=>106|37=>40|0=>0|39=>135|21=>21|44=>150|47=>131|50=>156|48=>154|2=>2|52=>124|55=>126|59=>141|60=>128|20=>20|61=>142|65=>157|66=>158|67=>116|n=>n,fun|0=>3|1=>4|2=>2|3=>6|4=>7|n=>n⟩
theorem Tryz.laysPu14:Go.Proofs.LaysPu.n14 Tryz.prog Tryz.laysPu14_ren:={
 mixed:=by kernel_rfl
 f14:=Tryz.func47.trans (congrArg some (by kernel_rfl))
 f16:=Tryz.func78.trans (congrArg some (by kernel_rfl))
 f17:=Tryz.func79.trans (congrArg some (by kernel_rfl))
 f19:=Tryz.func96.trans (congrArg some (by kernel_rfl))
 f20:=Tryz.func97.trans (congrArg some (by kernel_rfl))
 f21:=Tryz.func98.trans (congrArg some (by kernel_rfl))
 f22:=Tryz.func99.trans (congrArg some (by kernel_rfl))
 f23:=Tryz.func100.trans (congrArg some (by kernel_rfl))
 f24:=Tryz.func101.trans (congrArg some (by kernel_rfl))
 f25:=Tryz.func113.trans (congrArg some (by kernel_rfl))
 f26:=Tryz.func114.trans (congrArg some (by kernel_rfl))
 f27:=Tryz.func115.trans (congrArg some (by kernel_rfl))
 f28:=Tryz.func121.trans (congrArg some (by kernel_rfl))
 f29:=Tryz.func122.trans (congrArg some (by kernel_rfl))
 f30:=Tryz.func88.trans (congrArg some (by kernel_rfl))
 f31:=Tryz.func89.trans (congrArg some (by kernel_rfl))
 f32:=Tryz.func90.trans (congrArg some (by kernel_rfl))
 f33:=Tryz.func91.trans (congrArg some (by kernel_rfl))
 f34:=Tryz.func107.trans (congrArg some (by kernel_rfl))
 f35:=Tryz.func102.trans (congrArg some (by kernel_rfl))
 f36:=Tryz.func108.trans (congrArg some (by kernel_rfl))
 f37:=Tryz.func109.trans (congrArg some (by kernel_rfl))
 f38:=Tryz.func110.trans (congrArg some (by kernel_rfl))
 f39:=Tryz.func119.trans (congrArg some (by kernel_rfl))
 f40:=Tryz.func120.trans (congrArg some (by kernel_rfl))
 t0:=Tryz.underlying0
 a0:=Tryz.isAgg0
 z0:=Tryz.sizeOf0
 v0:=Tryz.zeroValue0
 i0:=by kernel_rfl
 t2:=Tryz.underlying2
 a2:=Tryz.isAgg2
 z2:=Tryz.sizeOf2
 v2:=Tryz.zeroValue2
 i2:=by kernel_rfl
 t3:=Tryz.underlying3
 a3:=Tryz.isAgg3
 z3:=Tryz.sizeOf3
 v3:=Tryz.zeroValue3
 i3:=by kernel_rfl
 t4:=Tryz.underlying4
 a4:=Tryz.isAgg4
 z4:=Tryz.sizeOf4
 v4:=Tryz.zeroValue4
 i4:=by kernel_rfl
 t5:=Tryz.underlying5
 a5:=Tryz.isAgg5
 z5:=Tryz.sizeOf5
 v5:=Tryz.zeroValue5
 i5:=by kernel_rfl
 t9:=Tryz.underlying9
 a9:=Tryz.isAgg9
 z9:=Tryz.sizeOf9
 v9:=Tryz.zeroValue9
 i9:=by kernel_rfl
 t20:=Tryz.underlying20
 a20:=Tryz.isAgg20
 z20:=Tryz.sizeOf20
 v20:=Tryz.zeroValue20
 i20:=by kernel_rfl
 t21:=Tryz.underlying21
 a21:=Tryz.isAgg21
 z21:=Tryz.sizeOf21
 v21:=Tryz.zeroValue21
 i21:=by kernel_rfl
 t22:=Tryz.underlying66
 a22:=Tryz.isAgg66
 z22:=Tryz.sizeOf66
 v22:=Tryz.zeroValue66
 i22:=by kernel_rfl
 t24:=Tryz.underlying81
 a24:=Tryz.isAgg81
 z24:=Tryz.sizeOf81
 v24:=Tryz.zeroValue81
 i24:=by kernel_rfl
 t25:=Tryz.underlying82
 a25:=Tryz.isAgg82
 z25:=Tryz.sizeOf82
 v25:=Tryz.zeroValue82
 i25:=by kernel_rfl
 t34:=Tryz.underlying132
 a34:=Tryz.isAgg132
 z34:=Tryz.sizeOf132
 v34:=Tryz.zeroValue132
 i34:=by kernel_rfl
 c34:=by kernel_rfl
 t36:=Tryz.underlying106
 a36:=Tryz.isAgg106
 z36:=Tryz.sizeOf106
 v36:=Tryz.zeroValue106
 i36:=by kernel_rfl
 t37:=Tryz.underlying40
 a37:=Tryz.isAgg40
 z37:=Tryz.sizeOf40
 v37:=Tryz.zeroValue40
 i37:=by kernel_rfl
 t39:=Tryz.underlying135
 a39:=Tryz.isAgg135
 z39:=Tryz.sizeOf135
 v39:=Tryz.zeroValue135
 i39:=by kernel_rfl
 t44:=Tryz.underlying150
 a44:=Tryz.isAgg150
 z44:=Tryz.sizeOf150
 v44:=Tryz.zeroValue150
 i44:=by kernel_rfl
 t47:=Tryz.underlying131
 a47:=Tryz.isAgg131
 z47:=Tryz.sizeOf131
 v47:=Tryz.zeroValue131
 i47:=by kernel_rfl
 t48:=Tryz.underlying154
 a48:=Tryz.isAgg154
 z48:=Tryz.sizeOf154
 v48:=Tryz.zeroValue154
 i48:=by kernel_rfl
 t50:=Tryz.underlying156
 a50:=Tryz.isAgg156
 z50:=Tryz.sizeOf156
 v50:=Tryz.zeroValue156
 i50:=by kernel_rfl
 t52:=Tryz.underlying124
 a52:=Tryz.isAgg124
 z52:=Tryz.sizeOf124
 v52:=Tryz.zeroValue124
 i52:=by kernel_rfl
 t55:=Tryz.underlying126
 a55:=Tryz.isAgg126
 z55:=Tryz.sizeOf126
 v55:=Tryz.zeroValue126
 i55:=by kernel_rfl
 t59:=Tryz.underlying141
 a59:=Tryz.isAgg141
 z59:=Tryz.sizeOf141
 v59:=Tryz.zeroValue141
 i59:=by kernel_rfl
 t60:=Tryz.underlying128
 a60:=Tryz.isAgg128
 z60:=Tryz.sizeOf128
 v60:=Tryz.zeroValue128
 i60:=by kernel_rfl
 t61:=Tryz.underlying142
 a61:=Tryz.isAgg142
 z61:=Tryz.sizeOf142
 t65:=Tryz.underlying157
 a65:=Tryz.isAgg157
 z65:=Tryz.sizeOf157
 v65:=Tryz.zeroValue157
 i65:=by kernel_rfl
 t66:=Tryz.underlying158
 a66:=Tryz.isAgg158
 z66:=Tryz.sizeOf158
 v66:=Tryz.zeroValue158
 i66:=by kernel_rfl
 t67:=Tryz.underlying116
 a67:=Tryz.isAgg116
 z67:=Tryz.sizeOf116
 v67:=Tryz.zeroValue116
 i67:=by kernel_rfl
 g0:=by kernel_rfl
 m0:=by kernel_rfl
 g1:=by kernel_rfl
 m1:=by kernel_rfl
 g2:=by kernel_rfl
 m2:=by kernel_rfl
 g3:=by kernel_rfl
 m3:=by kernel_rfl
 g4:=by kernel_rfl
 m4:=by kernel_rfl}
open Go.RowKit Go.Sort Go.Lib in
theorem Tryz.strconv_ParseUint_10_at64_ok (s:ByteArray) (hmax:s.size≤9223372036854775806) (u:Nat) (h:Lib.parseUintB 64 s.data.toList= .ok u) (w:World):
  Calls Tryz.prog 47 #[.string s,.int .i64 10,.int .i64 64] w fun e w'=>e= .returned (.tuple #[.int .u64 u,.nilIface])∧(w'=w∨w'=Lib.bytesWorld w 5 s):=Any.strconv_ParseUint_10_at64_ok Tryz.laysPu14 s hmax u h w
def Tryz.lays283_ren:Go.Shelf.Ren:=⟨fun|283=>88|n=>n,fun|3=>3|9=>9|4=>4|n=>n,fun|n=>n⟩
theorem Tryz.lays283:Go.Proofs.Lays.n283 Tryz.prog Tryz.lays283_ren:={
 mixed:=by kernel_rfl
 f283:=Tryz.func88.trans (congrArg some (by kernel_rfl))
 t3:=Tryz.underlying3
 a3:=Tryz.isAgg3
 z3:=Tryz.sizeOf3
 v3:=Tryz.zeroValue3
 t4:=Tryz.underlying4
 a4:=Tryz.isAgg4
 z4:=Tryz.sizeOf4
 v4:=Tryz.zeroValue4
 t9:=Tryz.underlying9
 a9:=Tryz.isAgg9
 z9:=Tryz.sizeOf9
 v9:=Tryz.zeroValue9}
open Go.RowKit Go.Sort Go.Lib in
theorem Tryz.internal_strconv_small (i:Nat) (h:i<100) (w:World):
  Calls Tryz.prog 88 #[.int .i64 i] w fun e w'=>e= .returned (.string ⟨(Lib.decDigits i).toArray⟩)∧w'=w:=Any.internal_strconv_small Tryz.lays283 i h w
def Tryz.laysM284_ren:Go.Shelf.Ren:=⟨fun|284=>89|129=>102|317=>107|318=>108|n=>n,fun|53=>66|3=>3|212=>141|0=>0|4=>4|46=>106|5=>5|9=>9|n=>n,fun|17=>2|n=>n⟩
theorem Tryz.laysM284:Go.Proofs.LaysM.n284 Tryz.prog Tryz.laysM284_ren:={
 mixed:=by kernel_rfl
 f129:=Tryz.func102.trans (congrArg some (by kernel_rfl))
 f284:=Tryz.func89.trans (congrArg some (by kernel_rfl))
 f317:=Tryz.func107.trans (congrArg some (by kernel_rfl))
 f318:=Tryz.func108.trans (congrArg some (by kernel_rfl))
 t0:=Tryz.underlying0
 a0:=Tryz.isAgg0
 z0:=Tryz.sizeOf0
 v0:=Tryz.zeroValue0
 t3:=Tryz.underlying3
 a3:=Tryz.isAgg3
 z3:=Tryz.sizeOf3
 v3:=Tryz.zeroValue3
 t4:=Tryz.underlying4
 a4:=Tryz.isAgg4
 z4:=Tryz.sizeOf4
 v4:=Tryz.zeroValue4
 t5:=Tryz.underlying5
 a5:=Tryz.isAgg5
 z5:=Tryz.sizeOf5
 v5:=Tryz.zeroValue5
 t9:=Tryz.underlying9
 a9:=Tryz.isAgg9
 z9:=Tryz.sizeOf9
 v9:=Tryz.zeroValue9
 t46:=Tryz.underlying106
 a46:=Tryz.isAgg106
 z46:=Tryz.sizeOf106
 v46:=Tryz.zeroValue106
 t53:=Tryz.underlying66
 a53:=Tryz.isAgg66
 z53:=Tryz.sizeOf66
 v53:=Tryz.zeroValue66
 t212:=Tryz.underlying141
 a212:=Tryz.isAgg141
 z212:=Tryz.sizeOf141
 v212:=Tryz.zeroValue141
 g17:=by kernel_rfl
 i0:=by kernel_rfl
 i3:=by kernel_rfl
 i4:=by kernel_rfl
 i5:=by kernel_rfl
 i9:=by kernel_rfl
 i46:=by kernel_rfl
 i53:=by kernel_rfl
 i212:=by kernel_rfl
 m17:=by kernel_rfl}
open Go.RowKit Go.Sort Go.Lib in
theorem Tryz.internal_strconv_numDigits (u:Nat) (h1:1≤u) (h2:u<18446744073709551616) (w:World) (htab:Lib.TabIs Tryz.prog w "internal/strconv.uint64pow10" .u64 Lib.pow10Tab):
  Calls Tryz.prog 89 #[.int .u64 u] w fun e w'=>e= .returned (.int .i64 (Lib.nDigits u))∧w'=w:=Any.internal_strconv_numDigits Tryz.laysM284 u h1 h2 w htab
def Tryz.lays285_ren:Go.Shelf.Ren:=⟨fun|285=>90|n=>n,fun|37=>40|53=>66|3=>3|4=>4|51=>128|9=>9|5=>5|0=>0|n=>n,fun|n=>n⟩
theorem Tryz.lays285:Go.Proofs.Lays.n285 Tryz.prog Tryz.lays285_ren:={
 mixed:=by kernel_rfl
 f285:=Tryz.func90.trans (congrArg some (by kernel_rfl))
 t0:=Tryz.underlying0
 a0:=Tryz.isAgg0
 z0:=Tryz.sizeOf0
 v0:=Tryz.zeroValue0
 t3:=Tryz.underlying3
 a3:=Tryz.isAgg3
 z3:=Tryz.sizeOf3
 v3:=Tryz.zeroValue3
 t4:=Tryz.underlying4
 a4:=Tryz.isAgg4
 z4:=Tryz.sizeOf4
 v4:=Tryz.zeroValue4
 t5:=Tryz.underlying5
 a5:=Tryz.isAgg5
 z5:=Tryz.sizeOf5
 v5:=Tryz.zeroValue5
 t9:=Tryz.underlying9
 a9:=Tryz.isAgg9
 z9:=Tryz.sizeOf9
 v9:=Tryz.zeroValue9
 t37:=Tryz.underlying40
 a37:=Tryz.isAgg40
 z37:=Tryz.sizeOf40
 v37:=Tryz.zeroValue40
 t51:=Tryz.underlying128
 a51:=Tryz.isAgg128
 z51:=Tryz.sizeOf128
 v51:=Tryz.zeroValue128
 t53:=Tryz.underlying66
 a53:=Tryz.isAgg66
 z53:=Tryz.sizeOf66
 v53:=Tryz.zeroValue66}
open Go.RowKit Go.Sort Go.Lib in
theorem Tryz.internal_strconv_formatBase10 (blk off cap:Nat) (u:Nat) (d:Array UInt8) (w:World) (hH:Holds (fun(b:UInt8)=>Value.int .u8 (b.toNat:Int)) w blk off d) (hu:u<10^d.size) (hu64:u<18446744073709551616) (hsz:d.size<4611686018427387904):
  Calls Tryz.prog 90 #[.slice (some ⟨blk,off,none⟩) d.size cap,.int .u64 u] w fun e w'=>
   e= .returned (.tuple #[])∧ ∃(n v':Nat) (dk:Array UInt8),w'=(putRow (fun(b:UInt8)=>Value.int .u8 (b.toNat:Int)) w blk off dk).drewN n∧FmtInv d.size u 0 v' dk:=Any.internal_strconv_formatBase10 Tryz.lays285 blk off cap u d w hH hu hu64 hsz
def Tryz.lays156_ren:Go.Shelf.Ren:=⟨fun|156=>39|165=>72|166=>73|169=>75|240=>94|241=>95|276=>111|277=>112|n=>n,fun|31=>62|9=>9|3=>3|4=>4|0=>0|20=>20|72=>112|76=>114|70=>110|37=>40|75=>81|127=>131|164=>145|5=>5|80=>116|n=>n,fun|n=>n⟩
theorem Tryz.lays156:Go.Proofs.Lays.n156 Tryz.prog Tryz.lays156_ren:={
 mixed:=by kernel_rfl
 f156:=Tryz.func39.trans (congrArg some (by kernel_rfl))
 f165:=Tryz.func72.trans (congrArg some (by kernel_rfl))
 f166:=Tryz.func73.trans (congrArg some (by kernel_rfl))
 f169:=Tryz.func75.trans (congrArg some (by kernel_rfl))
 f240:=Tryz.func94.trans (congrArg some (by kernel_rfl))
 f241:=Tryz.func95.trans (congrArg some (by kernel_rfl))
 f276:=Tryz.func111.trans (congrArg some (by kernel_rfl))
 f277:=Tryz.func112.trans (congrArg some (by kernel_rfl))
 t0:=Tryz.underlying0
 a0:=Tryz.isAgg0
 z0:=Tryz.sizeOf0
 v0:=Tryz.zeroValue0
 t3:=Tryz.underlying3
 a3:=Tryz.isAgg3
 z3:=Tryz.sizeOf3
 v3:=Tryz.zeroValue3
 t4:=Tryz.underlying4
 a4:=Tryz.isAgg4
 z4:=Tryz.sizeOf4
 v4:=Tryz.zeroValue4
 t9:=Tryz.underlying9
 a9:=Tryz.isAgg9
 z9:=Tryz.sizeOf9
 v9:=Tryz.zeroValue9
 t20:=Tryz.underlying20
 a20:=Tryz.isAgg20
 z20:=Tryz.sizeOf20
 v20:=Tryz.zeroValue20
 t31:=Tryz.underlying62
 a31:=Tryz.isAgg62
 z31:=Tryz.sizeOf62
 v31:=Tryz.zeroValue62
 t37:=Tryz.underlying40
 a37:=Tryz.isAgg40
 z37:=Tryz.sizeOf40
 v37:=Tryz.zeroValue40
 t70:=Tryz.underlying110
 a70:=Tryz.isAgg110
 z70:=Tryz.sizeOf110
 v70:=Tryz.zeroValue110
 t72:=Tryz.underlying112
 a72:=Tryz.isAgg112
 z72:=Tryz.sizeOf112
 v72:=Tryz.zeroValue112
 t75:=Tryz.underlying81
 a75:=Tryz.isAgg81
 z75:=Tryz.sizeOf81
 v75:=Tryz.zeroValue81
 t76:=Tryz.underlying114
 a76:=Tryz.isAgg114
 z76:=Tryz.sizeOf114
 v76:=Tryz.zeroValue114
 t127:=Tryz.underlying131
 a127:=Tryz.isAgg131
 z127:=Tryz.sizeOf131
 v127:=Tryz.zeroValue131
 t164:=Tryz.underlying145
 a164:=Tryz.isAgg145
 z164:=Tryz.sizeOf145
 v164:=Tryz.zeroValue145}
theorem Tryz.Builder_Extra_156:Builder.Extra Tryz.prog Tryz.lays156_ren:={
 sizeBuilder:=by kernel_rfl
 liesBuilder:=by kernel_rfl
 t5:=Tryz.underlying5
 a5:=Tryz.isAgg5
 z5:=Tryz.sizeOf5
 v5:=Tryz.zeroValue5
 infoByte:=by kernel_rfl
 cellsByte:=by kernel_rfl
 sizeByte:=by kernel_rfl
 neB5:=by decide}
open Go.RowKit Go.Sort Go.Lib in
theorem Tryz.strings_Join (bk o c:Nat) (xs:List ByteArray) (sep:ByteArray) (w:World) (hcells: ∀(j:Nat) x,xs[j]? =some x→w.cell? ⟨bk,o+j,none⟩=some (.string x)) (hbk:bk<w.heap.size) (hN:xs.length≤140737488355328) (hcap:xs.length≤c) (hlen:(Lib.join (xs.map (·.data.toList)) sep.data.toList).length≤140737488355328):
  Calls Tryz.prog 39 #[.slice (some ⟨bk,o,none⟩) xs.length c,.string sep] w fun e w'=>e= .returned (.string ⟨(Lib.join (xs.map (·.data.toList)) sep.data.toList).toArray⟩)∧Below w.heap.size w w':=Any.strings_Join Tryz.lays156 Tryz.Builder_Extra_156 bk o c xs sep w hcells hbk hN hcap hlen
def Tryz.lays105_ren:Go.Shelf.Ren:=⟨fun|105=>37|212=>70|99=>71|165=>72|166=>73|170=>74|169=>75|263=>92|264=>80|206=>93|240=>94|241=>95|276=>111|277=>112|n=>n,fun|9=>9|3=>3|4=>4|20=>20|0=>0|46=>106|109=>107|5=>5|72=>112|76=>114|51=>128|146=>129|53=>66|148=>104|70=>110|37=>40|75=>81|127=>131|164=>145|80=>116|n=>n,fun|n=>n⟩
theorem Tryz.lays105:Go.Proofs.Lays.n105 Tryz.prog Tryz.lays105_ren:={
 mixed:=by kernel_rfl
 f99:=Tryz.func71.trans (congrArg some (by kernel_rfl))
 f105:=Tryz.func37.trans (congrArg some (by kernel_rfl))
 f165:=Tryz.func72.trans (congrArg some (by kernel_rfl))
 f166:=Tryz.func73.trans (congrArg some (by kernel_rfl))
 f169:=Tryz.func75.trans (congrArg some (by kernel_rfl))
 f170:=Tryz.func74.trans (congrArg some (by kernel_rfl))
 f206:=Tryz.func93.trans (congrArg some (by kernel_rfl))
 f212:=Tryz.func70.trans (congrArg some (by kernel_rfl))
 f240:=Tryz.func94.trans (congrArg some (by kernel_rfl))
 f241:=Tryz.func95.trans (congrArg some (by kernel_rfl))
 f263:=Tryz.func92.trans (congrArg some (by kernel_rfl))
 f264:=Tryz.func80.trans (congrArg some (by kernel_rfl))
 f276:=Tryz.func111.trans (congrArg some (by kernel_rfl))
 f277:=Tryz.func112.trans (congrArg some (by kernel_rfl))
 t0:=Tryz.underlying0
 a0:=Tryz.isAgg0
 z0:=Tryz.sizeOf0
 v0:=Tryz.zeroValue0
 t3:=Tryz.underlying3
 a3:=Tryz.isAgg3
 z3:=Tryz.sizeOf3
 v3:=Tryz.zeroValue3
 t4:=Tryz.underlying4
 a4:=Tryz.isAgg4
 z4:=Tryz.sizeOf4
 v4:=Tryz.zeroValue4
 t5:=Tryz.underlying5
 a5:=Tryz.isAgg5
 z5:=Tryz.sizeOf5
 v5:=Tryz.zeroValue5
 t9:=Tryz.underlying9
 a9:=Tryz.isAgg9
 z9:=Tryz.sizeOf9
 v9:=Tryz.zeroValue9
 t20:=Tryz.underlying20
 a20:=Tryz.isAgg20
 z20:=Tryz.sizeOf20
 v20:=Tryz.zeroValue20
 t37:=Tryz.underlying40
 a37:=Tryz.isAgg40
 z37:=Tryz.sizeOf40
 v37:=Tryz.zeroValue40
 t46:=Tryz.underlying106
 a46:=Tryz.isAgg106
 z46:=Tryz.sizeOf106
 v46:=Tryz.zeroValue106
 t51:=Tryz.underlying128
 a51:=Tryz.isAgg128
 z51:=Tryz.sizeOf128
 v51:=Tryz.zeroValue128
 t53:=Tryz.underlying66
 a53:=Tryz.isAgg66
 z53:=Tryz.sizeOf66
 v53:=Tryz.zeroValue66
 t70:=Tryz.underlying110
 a70:=Tryz.isAgg110
 z70:=Tryz.sizeOf110
 v70:=Tryz.zeroValue110
 t72:=Tryz.underlying112
 a72:=Tryz.isAgg112
 z72:=Tryz.sizeOf112
 v72:=Tryz.zeroValue112
 t75:=Tryz.underlying81
 a75:=Tryz.isAgg81
 z75:=Tryz.sizeOf81
 v75:=Tryz.zeroValue81
 t76:=Tryz.underlying114
 a76:=Tryz.isAgg114
 z76:=Tryz.sizeOf114
 v76:=Tryz.zeroValue114
 t109:=Tryz.underlying107
 a109:=Tryz.isAgg107
 z109:=Tryz.sizeOf107
 v109:=Tryz.zeroValue107
 t127:=Tryz.underlying131
 a127:=Tryz.isAgg131
 z127:=Tryz.sizeOf131
 v127:=Tryz.zeroValue131
 t146:=Tryz.underlying129
 a146:=Tryz.isAgg129
 z146:=Tryz.sizeOf129
 v146:=Tryz.zeroValue129
 t148:=Tryz.underlying104
 a148:=Tryz.isAgg104
 z148:=Tryz.sizeOf104
 v148:=Tryz.zeroValue104
 t164:=Tryz.underlying145
 a164:=Tryz.isAgg145
 z164:=Tryz.sizeOf145
 v164:=Tryz.zeroValue145}
theorem Tryz.Builder_Extra_105:Builder.Extra Tryz.prog Tryz.lays105_ren:={
 sizeBuilder:=by kernel_rfl
 liesBuilder:=by kernel_rfl
 t5:=Tryz.underlying5
 a5:=Tryz.isAgg5
 z5:=Tryz.sizeOf5
 v5:=Tryz.zeroValue5
 infoByte:=by kernel_rfl
 cellsByte:=by kernel_rfl
 sizeByte:=by kernel_rfl
 neB5:=by decide}
open Go.RowKit Go.Sort Go.Lib in
theorem Tryz.strings_Repeat (s:ByteArray) (c:Nat) (w:World) (hc:c≤9223372036854775807) (hlen:s.size*c≤140737488355328):
  Calls Tryz.prog 37 #[.string s,.int .i64 c] w fun e w'=>e= .returned (.string ⟨(Lib.repeatL s.data.toList c).toArray⟩)∧Below w.heap.size w w':=Any.strings_Repeat Tryz.lays105 Tryz.Builder_Extra_105 s c w hc hlen
end Go.Proofs.YtapjnenbofmliaaGreatDoor

namespace Go.Proofs.YtapjnenbofmliaaGreatDoor
open Go.Vl Go.RowKit Go.Dg
theorem Q81 {w:World} {im:Im} {s:ByteArray} {us:List Value} (h:RepL w im [.str s,.int .i64 10,.int .i64 64] us):us=[.string s,.int .i64 10,.int .i64 64]:=by
 cases h with
 |cons _ u _ us h t=>
 cases h;cases t with
 |cons _ u _ us h t=>
 cases h;cases t with
 |cons _ u _ us h t=>
 cases h;cases t;rfl
theorem Qga (s:ByteArray) (hmax:s.size≤9223372036854775806) (u:Nat) (h:Lib.parseUintB 64 s.data.toList= .ok u):Qag Tryz.prog 47 [.str s,.int .i64 10,.int .i64 64] (.tup [.int .u64 (u:Int),.nilI]):=by
 refine .inl ⟨by kernel_rfl,fun w im us _ _ _ hr hi=> ?_⟩;rw [Q81 hr];refine(Tryz.strconv_ParseUint_10_at64_ok s hmax u h w).mono ?_;rintro e w' ⟨rfl,hw⟩;refine⟨_,rfl,?_,.tup _ [_,_] (.cons _ _ _ _ (.int _ _) (.cons _ _ _ _ .nilI .nil))⟩;rcases hw with rfl|rfl
 ·exact Below.refl _ _
 ·exact Lib.bytesWorld_below _ _ _
end Go.Proofs.YtapjnenbofmliaaGreatDoor

namespace Go.Vl
open Go.RowKit
variable {P:Program} {tb:Tab} {nt:Nat} {ks:List Nat} {ops:Array Oper} {base i:Nat} {rest:List Oper} {accs:List Acc} {draw:Bool} {k:List It} {Q:Exit→St→Prop} {st:St}
theorem Qaa {dst:Option Tmp} {f f':FuncId} {args args':List PV} {es:List Eff} {l:Acc} {r:PV} (hs:Qag P f' args' r) (hf:f'=f) (ha:args'=args)
  (h:gops P tb nt ks ops base (i+1) rest (l::accs) draw k Q ((Qai (if Qew r then []else es) st).put dst r)):gcall P tb nt ks f args es l ops base i dst rest accs draw k Q st:=by
 subst hf;subst ha;exact⟨r,hs,h⟩
end Go.Vl

namespace Go.Vl
open Go.RowKit
variable {P:Program} {tb:Tab} {nt:Nat} {ks:List Nat} {ops:Array Oper} {base i:Nat} {rest:List Oper} {accs:List Acc} {draw:Bool} {k:List It} {Q:Exit→St→Prop} {st:St}
theorem Qpw {dst:Option Tmp} {f f':FuncId} {args args':List PV} {bxs bxsA:List (Nat×Box)} {es:List Eff} {θ ν:List (Nat×Nat)} {l:Acc} {r:PV} {bxs':List (Nat×Box)} (hs:Qdx P f' args' bxsA r bxs') (hf:f'=f) (ha:args'=args) (hb:bxsA=bxs)
  (h:gland P tb nt ks (land θ ν bxs' r) (Qhs r bxs') es l ops base i dst rest accs draw k Q st):Q1n P tb nt ks f args bxs es θ ν l ops base i dst rest accs draw k Q st:=by
 subst hf;subst ha;subst hb;exact Qbj _ _ _ _ _ _ _ _ _ hs h
end Go.Vl

namespace Go.Vl
open Go.RowKit
theorem Qv3 (xs:List ByteArray):(xs.map PV.str).flatMap PV.cells=xs.map PV.str:=by
 induction xs with
 |nil=>rfl
 |cons x xs ih=>simp only [List.map_cons,List.flatMap_cons,ih,PV.cells,List.singleton_append]
theorem Qtk {w:World} {im:Im}: ∀{xs:List ByteArray} {us:List Value},RepL w im (xs.map PV.str) us→us=xs.map Value.string
 | [],_,h=>by cases h;rfl
 |x::xs,_,h=>by
  cases h with
  |cons _ u _ us h t=>
   cases h;rw [Qtk t];rfl
theorem Qnu {w:World} {im:Im} {a b:PV} {us:List Value} (h:RepL w im [a,b] us): ∃x y,us=[x,y]∧Rep w im a x∧Rep w im b y:=by
 cases h with
 |cons _ u _ us h t=>
 cases t with
 |cons _ v _ us k t=>
 cases t;exact⟨u,v,rfl,h,k⟩
theorem Qpx {P:Program} {f:FuncId} (hc:callable P f=true)
  (hJ: ∀(bk o c:Nat) (xs:List ByteArray) (sep:ByteArray) (w:World),(∀(j:Nat) x,xs[j]? =some x→w.cell? ⟨bk,o+j,none⟩=some (.string x))→bk<w.heap.size→xs.length≤140737488355328→xs.length≤c→
   (Lib.join (xs.map (·.data.toList)) sep.data.toList).length≤140737488355328→
   Calls P f #[.slice (some ⟨bk,o,none⟩) xs.length c,.string sep] w fun e w'=>e= .returned (.string ⟨(Lib.join (xs.map (·.data.toList)) sep.data.toList).toArray⟩)∧Below w.heap.size w w')
  (xs:List ByteArray) (sep:ByteArray) (hne:xs≠ []) (hl:xs.length≤140737488355328) (hlen:(Lib.join (xs.map (·.data.toList)) sep.data.toList).length≤140737488355328):
  Qag P f [.slc (xs.map PV.str),.str sep] (.str ⟨(Lib.join (xs.map (·.data.toList)) sep.data.toList).toArray⟩):=by
 refine .inl ⟨hc,fun w im us F hF hLd hr hi=> ?_⟩;obtain⟨x,y,rfl,h1,h2⟩:=Qnu hr;cases h2;generalize hes:xs.map PV.str=es at h1;cases h1 with
 |slcNil c hm=>exact absurd (by simpa using hes) hne
 |slcE p c hm=>exact absurd (by simpa using hes) hne
 |slc _ g off len cap sz vs hn hm hz hii hcc hrr hcap=>
  subst hes;rw [Qv3]at hrr;have hvs:=Qtk hrr;have hlen2:xs.length=len:=by simpa using hn
  subst hlen2;have hpos:0<xs.length:=List.length_pos_iff.2 hne;have hcell: ∀(j:Nat) x,xs[j]? =some x→w.cell? ⟨g,off+j,none⟩=some (.string x):=fun j x hx=>by
   have hj:j<xs.length:=(List.getElem?_eq_some_iff.1 hx).1;have hj2:j<vs.length:=by rw [hvs];simpa using hj
   rw [hcc j hj2,hvs,List.getElem?_map,hx];rfl
  have hg:g<w.heap.size:=by
   have:=hcell 0 xs[0] (List.getElem?_eq_getElem hpos);exact World.block_lt_of_cell? w _ this
  refine(hJ g off cap xs sep w hcell hg hl hcap hlen).mono ?_;rintro e w' ⟨rfl,hb⟩;exact⟨_,rfl,hb,.str _⟩
theorem Qld {P:Program} {f:FuncId} (hc:callable P f=true)
  (hR: ∀(s:ByteArray) (c:Nat) (w:World),c≤9223372036854775807→s.size*c≤140737488355328→
   Calls P f #[.string s,.int .i64 c] w fun e w'=>e= .returned (.string ⟨(Lib.repeatL s.data.toList c).toArray⟩)∧Below w.heap.size w w')
  (s:ByteArray) (c:Nat) (h1:c≤9223372036854775807) (h2:s.size*c≤140737488355328):Qag P f [.str s,.int .i64 (c:Int)] (.str ⟨(Lib.repeatL s.data.toList c).toArray⟩):=by
 refine .inl ⟨hc,fun w im us F hF hLd hr hi=> ?_⟩;obtain⟨x,y,rfl,k1,k2⟩:=Qnu hr;cases k1;cases k2;refine(hR s c w h1 h2).mono ?_;rintro e w' ⟨rfl,hb⟩;exact⟨_,rfl,hb,.str _⟩
theorem Qc4 (l:List UInt8):(⟨l.toArray⟩:ByteArray).size=l.length:=by simp [ByteArray.size]
theorem Zb6 (l:List UInt8) (i:Nat):(⟨l.toArray⟩:ByteArray)[i]? =l[i]? :=by
 by_cases h:i<l.length
 ·rw [List.getElem?_eq_getElem h,getElem?_pos _ i (by rw [Qc4];exact h)];congr 1
 ·rw [List.getElem?_eq_none (by omega),getElem?_neg _ i (by rw [Qc4];exact h)]
theorem Zb7 (l:List UInt8):(⟨l.toArray⟩:ByteArray).toList=l:=by rw [Lib.toList_data]
theorem Ql8 (l:List UInt8) (a b:Nat):(⟨l.toArray⟩:ByteArray).extract a b=⟨((l.take b).drop a).toArray⟩:=by
 apply ByteArray.ext;rw [ByteArray.data_extract];apply Array.ext';simp [List.extract_eq_take_drop,List.drop_take]
theorem Q1y (a b:List UInt8):(⟨a.toArray⟩:ByteArray)++(⟨b.toArray⟩:ByteArray)=⟨(a++b).toArray⟩:=by
 apply ByteArray.ext;simp
theorem Qr1 (a b:List UInt8) (h:a.length+b.length≤9223372036854775807):Qic .add ⟨a.toArray⟩ ⟨b.toArray⟩=some (.str ⟨(a++b).toArray⟩):=by
 unfold Qic;simp only [Qc4,Q1y];rw [if_neg];have:IntKind.i64.max=9223372036854775807:=rfl;omega
theorem Qtl (a b:List UInt8):Qic .eql ⟨a.toArray⟩ ⟨b.toArray⟩=some (.bool (a==b)):=by simp only [Qic,Zb7]
end Go.Vl

namespace Go.Proofs.YtapjnenbofmliaaGreatDoor
open Go.Vl Go.RowKit Go.Sort Go.Lib
theorem Ze5 (w:World) (T:TypeId) (nd:Nat) (hs:nd≤24):Holds (fun(b:UInt8)=>Value.int .u8 (b.toNat:Int)) (w.alloc (.cells Lib.zeros24 T)) w.heap.size 0 (Array.replicate nd (0:UInt8)):=fun j hj=>by
 have hj':j<nd:=by simpa using hj
 refine⟨?_,World.frozen?_alloc_new _ _ _ _⟩;rw [World.cell?_alloc_new,Lib.zeros24_at _ (by omega),getElem!_pos _ j hj];simp
theorem fin0 (w:World) (o:Obj) (dk:Array UInt8) (k:Nat): ∃os,(putRow (fun(b:UInt8)=>Value.int .u8 (b.toNat:Int)) (w.alloc o) w.heap.size 0 dk).drewN k=grow (w.drewN k) os:=by
 rw [alloc_eq_grow];obtain⟨os',_,e⟩:=putRow_grow_new (fun(b:UInt8)=>Value.int .u8 (b.toNat:Int)) w #[o] w.heap.size 0 dk (Nat.le_refl _);exact⟨os',by rw [e];rfl⟩
set_option maxHeartbeats 6400000 in
set_option maxRecDepth 100000 in
theorem fmtU (u:Nat) (hu64:u<18446744073709551616) (w:World) (htab:Lib.TabIs Tryz.prog w "internal/strconv.uint64pow10" .u64 Lib.pow10Tab):
  Calls Tryz.prog 69 #[.int .u64 u,.int .i64 10] w fun e w'=>e= .returned (.string ⟨(Lib.decDigits u).toArray⟩)∧ ∃k os,w'=grow (w.drewN k) os:=by
 by_cases hs:u<100
 ·go_enter Tryz.func69,Tryz.ntmps69
  go_wp2_with fail
  refine(Tryz.internal_strconv_small u hs _).mono ?_;rintro e w' ⟨rfl,rfl⟩
  go_wp2_with fail
  go_ret
  exact⟨rfl,0, #[],by simp [World.drewN_zero]⟩
 ·have hu1:1≤u:=by omega
  have hnd20:Lib.nDigits u≤20:=by have:=Lib.numDigits_eq u hu1 hu64;split at this<;>omega
  have hb3:Lib.nDigits u≤24:=by omega
  have hal:Tryz.prog.arrayLen 124=24:=by kernel_rfl
  have hsl1: ∀W,(Instr.sliceAt 124 (.pointer (some ⟨w.heap.size,0,none⟩)) none (some (.int .i64 (Lib.nDigits u:Int))) none).run Tryz.prog W= .ok (.slice (some ⟨w.heap.size,0,none⟩) (Lib.nDigits u) 24) W:=fun W=>by
   rw [run_sliceAt_array_h W 124 ⟨w.heap.size,0,none⟩ (by kernel_rfl) .i64 (Lib.nDigits u:Int) (by omega) (by rw [hal];omega)]
   go_simp
  have hH0:=Ze5 w 124 (Lib.nDigits u) (by omega);have hfmt:=Tryz.internal_strconv_formatBase10 w.heap.size 0 24 u (Array.replicate (Lib.nDigits u) 0) (w.alloc (.cells Lib.zeros24 124)) hH0 (by rw [Array.size_replicate];exact Lib.lt_pow_nDigits u) hu64 (by rw [Array.size_replicate];omega);rw [Array.size_replicate]at hfmt;have HH0:=Lib.hid hH0;clear hH0 hal
  go_enter Tryz.func69,Tryz.ntmps69
  go_wp2_with fail
  refine(Tryz.internal_strconv_numDigits u hu1 hu64 _ (Lib.tabIs_alloc htab _)).mono ?_;rintro e w' ⟨rfl,rfl⟩
  go_wp2_with fail
  refine hfmt.mono ?_;rintro e w' ⟨rfl,k,v',dk,rfl,hF⟩;have hcv:(convert 40 9 (.slice (some ⟨w.heap.size,0,none⟩) (Lib.nDigits u) 24)).run Tryz.prog ((putRow (fun(b:UInt8)=>Value.int .u8 (b.toNat:Int)) (w.alloc (.cells Lib.zeros24 124)) w.heap.size 0 dk).drewN k)= .ok (.string ⟨(Lib.decDigits u).toArray⟩) ((putRow (fun(b:UInt8)=>Value.int .u8 (b.toNat:Int)) (w.alloc (.cells Lib.zeros24 124)) w.heap.size 0 dk).drewN k):=by
   have h:=run_convert_bytes_back (P:=Tryz.prog) ((putRow (fun(b:UInt8)=>Value.int .u8 (b.toNat:Int)) (w.alloc (.cells Lib.zeros24 124)) w.heap.size 0 dk).drewN k) 40 9 5 ⟨w.heap.size,0,none⟩ 24 (Lib.decDigits u) (by kernel_rfl) (by kernel_rfl) (by kernel_rfl) (fun j hj=>by
    rw [Lib.row_is_numeral hF j hj,Lib.add_plain,World.cell?_drewN];exact cell?_putRow (fun(b:UInt8)=>Value.int .u8 (b.toNat:Int)) _ w.heap.size 0 _ dk HH0.out (by rw [hF.size,Array.size_replicate]) j (by rw [hF.size];rw [Lib.decDigits_length]at hj;exact hj))
   rw [Lib.decDigits_length]at h;exact h
  go_wp2
  go_ret
  obtain⟨os,eo⟩:=fin0 w (.cells Lib.zeros24 124) dk k;exact⟨rfl,k,os,eo⟩
theorem Qtw (w:World) (k:Nat) (os:Array Obj):Below w.heap.size w (grow (w.drewN k) os):=by
 have h:Below w.heap.size w (w.drewN k):=⟨rfl,rfl,rfl,Nat.le_refl _,fun _ _=>rfl⟩;exact⟨h.os,h.tape,h.output,by rw [size_grow];exact Nat.le_trans h.size (Nat.le_add_right _ _),fun j hj=>by rw [heap_grow_old _ _ (Nat.lt_of_lt_of_le hj h.size)];exact h.block j hj⟩
theorem Zct (u:Nat) (hu:u<18446744073709551616):Qag Tryz.prog 69 [.int .u64 (u:Int),.int .i64 10] (.str ⟨(Lib.decDigits u).toArray⟩):=by
 refine .inl ⟨by kernel_rfl,fun w im us F hF hLd hr hi=> ?_⟩;obtain⟨x,y,rfl,k1,k2⟩:=Qnu hr;cases k1;cases k2;have htab:Lib.TabIs Tryz.prog w "internal/strconv.uint64pow10" .u64 Lib.pow10Tab:=by
  have e2:(Lib.pow10Tab.map fun z=>Value.int .u64 z).toArray=Qsq:=by kernel_rfl
  unfold Lib.TabIs;rw [e2];exact(hLd Qhr Qsq (.inl ⟨rfl,rfl⟩) 2 (by kernel_rfl)).2
 refine(fmtU u hu w htab).mono ?_;rintro e w' ⟨rfl,k,os,rfl⟩;exact⟨_,rfl,Qtw w k os,.str _⟩
theorem Zcu (u:Nat) (hu:u<18446744073709551616):Qag Tryz.prog 36 [.int .u64 (u:Int),.int .i64 10] (.str ⟨(Lib.decDigits u).toArray⟩):=by
 have h:=Zct u hu;refine Qae (tb:=[]) 8 [.tmp 4] [0,1,4] mixed Tryz.func36 rfl (by kernel_rfl) (by kernel_rfl) (by kernel_rfl) (by kernel_rfl) ?_;repeat (first|(simp -implicitDefEqProofs only [go_sem,seval])|((with_reducible refine Qaa h ?_ ?_ ?_);rfl;rfl))
theorem Qse (k:Nat) (hk:k≤1000):Qag Tryz.prog 37 [.str ⟨#[48]⟩,.int .i64 (k:Int)] (.str ⟨(List.replicate k 48).toArray⟩):=by
 have hz:(⟨#[48]⟩:ByteArray).size=1:=rfl;have h:=Qld (P:=Tryz.prog) (f:=37) (by kernel_rfl) (fun s c w h1 h2=>Tryz.strings_Repeat s c w h1 h2) ⟨#[48]⟩ k (by omega) (by rw [hz];omega);have e:Lib.repeatL ((⟨#[48]⟩:ByteArray).data.toList) k=List.replicate k 48:=by
  clear h hk hz
  induction k with
  |zero=>rfl
  |succ k ih=>
   rw [List.replicate_succ,←ih];rfl
 rw [e]at h;exact h
theorem Qwu (l:List (List UInt8)):Lib.join l []=l.flatten:=by
 induction l with
 |nil=>rfl
 |cons a r ih=>
  cases r with
  |nil=>simp [Lib.join]
  |cons b r=>rw [List.flatten_cons,←ih];simp [Lib.join]
theorem Q76 (l:List (List UInt8)) (hne:l≠ []) (hl:l.length≤100000000) (hlen:l.flatten.length≤100000000):Qag Tryz.prog 39 [.slc (l.map fun x=>PV.str ⟨x.toArray⟩),.str ⟨#[]⟩] (.str ⟨l.flatten.toArray⟩):=by
 have e:((l.map fun x=>(⟨x.toArray⟩:ByteArray)).map (·.data.toList))=l:=by rw [List.map_map];simp [Function.comp_def]
 have e2:Lib.join ((l.map fun x=>(⟨x.toArray⟩:ByteArray)).map (·.data.toList)) ((⟨#[]⟩:ByteArray).data.toList)=l.flatten:=by rw [e];exact Qwu l
 have h:=Qpx (P:=Tryz.prog) (f:=39) (by kernel_rfl) (fun bk o c xs sep w h1 h2 h3 h4 h5=>Tryz.strings_Join bk o c xs sep w h1 h2 h3 h4 h5) (l.map fun x=>⟨x.toArray⟩) ⟨#[]⟩ (by simpa using hne) (by rw [List.length_map];omega) (by rw [e2];omega);rw [e2,List.map_map]at h;exact h
end Go.Proofs.YtapjnenbofmliaaGreatDoor
