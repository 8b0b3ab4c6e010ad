/-
  OW7, OW8, Dl, OW9, OW10, OW11, OW12, OW13, OW14, OW15, OW16, De, De2, De3 (merged for the claim).
-/
import Derived.Test.YtnohfmdlaajpbaaGreatOW6
set_option linter.unusedSimpArgs false
set_option linter.unusedVariables false
namespace Go.Proofs.YtnohfmdlaajpbaaGreat
open Go.Vl Go.RowKit Go.Dg
def Qqq (T:List UInt8):Bool:=(List.range 256).all fun x=>match T[x]? with
 |some t=>decide (x<2^t.toNat)&&(decide (x=0∧t.toNat=0)||decide (2^(t.toNat-1)≤x∧0<t.toNat))
 |none=>false
theorem Qdw {s:ByteArray} (h:Qqq s.data.toList=true) {x:Nat} (hx:x<256): ∃t:UInt8,s[x]? =some t∧t.toNat=blen x:=by
 have h1:=List.all_eq_true.1 h x (by simpa using hx);cases ht:s.data.toList[x]? with
 |none=>rw [ht]at h1;cases h1
 |some t=>
  rw [ht]at h1;simp only [Bool.and_eq_true,Bool.or_eq_true,decide_eq_true_eq]at h1;have hl:=(List.getElem?_eq_some_iff.1 ht);refine⟨t,by rw [Qrs s x hl.1];rw [←List.getElem?_eq_getElem hl.1,ht],?_⟩;obtain⟨h1,h2⟩:=h1;have:=Qd2 _ _ h1;rcases h2 with⟨rfl,h2⟩|⟨h2,h3⟩
  ·rw [h2,Qf5]
  ·have:=Ql0 _ _ h2;omega
theorem Qi0 (n k:Nat):(n:Int).fdiv (2^k)=((n/2^k:Nat):Int):=by
 rw [Int.fdiv_eq_ediv_of_nonneg _ (Int.pow_nonneg (by decide))];simp
theorem Qyp (n:Nat):(n:Int).fdiv (2^min 16 64)=((n/65536:Nat):Int):=by
 rw [Int.fdiv_eq_ediv_of_nonneg _ (by decide)];rfl
theorem Zml (n:Nat):(n:Int).fdiv (2^min 8 64)=((n/256:Nat):Int):=by
 rw [Int.fdiv_eq_ediv_of_nonneg _ (by decide)];rfl
theorem Zvq (x:Nat) (hx:x<18446744073709551616):Qaf Tryz.prog 156 [.int .u64 (x:Int)] (.int .i64 (blen x:Int)):=by
 have wc8:IntKind.i64.wrap 8=8:=rfl;have wc16:IntKind.i64.wrap 16=16:=rfl;have wc24:IntKind.i64.wrap 24=24:=rfl;have wc32:IntKind.i64.wrap 32=32:=rfl;have wc40:IntKind.i64.wrap 40=40:=rfl;have wc48:IntKind.i64.wrap 48=48:=rfl;have wc56:IntKind.i64.wrap 56=56:=rfl;by_cases q32:4294967296≤x
 ·have h32:(4294967296≤((x:Nat):Int))=True:=by simp only [eq_iff_iff,iff_true];omega
  by_cases q16:65536≤x/4294967296
  ·have h16:(65536≤((x/4294967296:Nat):Int))=True:=by simp only [eq_iff_iff,iff_true];omega
   by_cases q8:256≤(x/4294967296)/65536
   ·have h8:(256≤(((x/4294967296)/65536:Nat):Int))=True:=by simp only [eq_iff_iff,iff_true];omega
    have hx8:((x/4294967296)/65536)/256<256:=by omega
    have hw:=Qf9 hx8;have h0:(0≤((((x/4294967296)/65536)/256:Nat):Int))=True:=by simp only [eq_iff_iff,iff_true];exact Int.natCast_nonneg _
    have hb:blen x=blen (((x/4294967296)/65536)/256)+56:=by have:=Qd5 56 x (by simp only [Nat.reducePow];omega);simp only [Nat.reducePow]at this;rw [this,show((x/4294967296)/65536)/256=x/72057594037927936 by omega]
    refine Qab (tb:=[]) 25 [.tmp 2] [0,2,4,8,14] mixed Tryz.func156 rfl (by kernel_rfl) ?_;simp -implicitDefEqProofs only [go_sem,seval,h32,h16,h8,Qrr,Qyp,Zml,hw,h0,Int.toNat_natCast,wc48,wc56];generalize hT:ByteArray.mk _=T;have hok:Qqq T.data.toList=true:=by rw [←hT];kernel_rfl
    obtain⟨t,ht,htb⟩:=Qdw hok hx8;clear hT;have hw2:IntKind.i64.wrap (t.toNat:Int)=(t.toNat:Int):=wrapn (by have:=t.toNat_lt;omega);have hw3:IntKind.i64.wrap (56+(t.toNat:Int))=((blen x:Nat):Int):=by rw [Qag (by have:=t.toNat_lt;omega) (by have:=t.toNat_lt;omega),hb,←htb];omega
    rw [htb]at hw2 hw3;simp -implicitDefEqProofs only [go_sem,seval,ht,hw2,hw3,htb]
   ·have h8:(256≤(((x/4294967296)/65536:Nat):Int))=False:=by simp only [eq_iff_iff,iff_false];omega
    have hx8:(x/4294967296)/65536<256:=by omega
    have hw:=Qf9 hx8;have h0:(0≤(((x/4294967296)/65536:Nat):Int))=True:=by simp only [eq_iff_iff,iff_true];exact Int.natCast_nonneg _
    have hb:blen x=blen ((x/4294967296)/65536)+48:=by have:=Qd5 48 x (by simp only [Nat.reducePow];omega);simp only [Nat.reducePow]at this;rw [this,show(x/4294967296)/65536=x/281474976710656 by omega]
    refine Qab (tb:=[]) 25 [.tmp 2] [0,2,4,8,14] mixed Tryz.func156 rfl (by kernel_rfl) ?_;simp -implicitDefEqProofs only [go_sem,seval,h32,h16,h8,Qrr,Qyp,hw,h0,Int.toNat_natCast,wc48];generalize hT:ByteArray.mk _=T;have hok:Qqq T.data.toList=true:=by rw [←hT];kernel_rfl
    obtain⟨t,ht,htb⟩:=Qdw hok hx8;clear hT;have hw2:IntKind.i64.wrap (t.toNat:Int)=(t.toNat:Int):=wrapn (by have:=t.toNat_lt;omega);have hw3:IntKind.i64.wrap (48+(t.toNat:Int))=((blen x:Nat):Int):=by rw [Qag (by have:=t.toNat_lt;omega) (by have:=t.toNat_lt;omega),hb,←htb];omega
    rw [htb]at hw2 hw3;simp -implicitDefEqProofs only [go_sem,seval,ht,hw2,hw3,htb]
  ·have h16:(65536≤((x/4294967296:Nat):Int))=False:=by simp only [eq_iff_iff,iff_false];omega
   by_cases q8:256≤x/4294967296
   ·have h8:(256≤((x/4294967296:Nat):Int))=True:=by simp only [eq_iff_iff,iff_true];omega
    have hx8:(x/4294967296)/256<256:=by omega
    have hw:=Qf9 hx8;have h0:(0≤(((x/4294967296)/256:Nat):Int))=True:=by simp only [eq_iff_iff,iff_true];exact Int.natCast_nonneg _
    have hb:blen x=blen ((x/4294967296)/256)+40:=by have:=Qd5 40 x (by simp only [Nat.reducePow];omega);simp only [Nat.reducePow]at this;rw [this,show(x/4294967296)/256=x/1099511627776 by omega]
    refine Qab (tb:=[]) 25 [.tmp 2] [0,2,4,8,14] mixed Tryz.func156 rfl (by kernel_rfl) ?_;simp -implicitDefEqProofs only [go_sem,seval,h32,h16,h8,Qrr,Zml,hw,h0,Int.toNat_natCast,wc40];generalize hT:ByteArray.mk _=T;have hok:Qqq T.data.toList=true:=by rw [←hT];kernel_rfl
    obtain⟨t,ht,htb⟩:=Qdw hok hx8;clear hT;have hw2:IntKind.i64.wrap (t.toNat:Int)=(t.toNat:Int):=wrapn (by have:=t.toNat_lt;omega);have hw3:IntKind.i64.wrap (40+(t.toNat:Int))=((blen x:Nat):Int):=by rw [Qag (by have:=t.toNat_lt;omega) (by have:=t.toNat_lt;omega),hb,←htb];omega
    rw [htb]at hw2 hw3;simp -implicitDefEqProofs only [go_sem,seval,ht,hw2,hw3,htb]
   ·have h8:(256≤((x/4294967296:Nat):Int))=False:=by simp only [eq_iff_iff,iff_false];omega
    have hx8:x/4294967296<256:=by omega
    have hw:=Qf9 hx8;have h0:(0≤((x/4294967296:Nat):Int))=True:=by simp only [eq_iff_iff,iff_true];exact Int.natCast_nonneg _
    have hb:blen x=blen (x/4294967296)+32:=by have:=Qd5 32 x (by simp only [Nat.reducePow];omega);simp only [Nat.reducePow]at this;rw [this,show x/4294967296=x/4294967296 by omega]
    refine Qab (tb:=[]) 25 [.tmp 2] [0,2,4,8,14] mixed Tryz.func156 rfl (by kernel_rfl) ?_;simp -implicitDefEqProofs only [go_sem,seval,h32,h16,h8,Qrr,hw,h0,Int.toNat_natCast];generalize hT:ByteArray.mk _=T;have hok:Qqq T.data.toList=true:=by rw [←hT];kernel_rfl
    obtain⟨t,ht,htb⟩:=Qdw hok hx8;clear hT;have hw2:IntKind.i64.wrap (t.toNat:Int)=(t.toNat:Int):=wrapn (by have:=t.toNat_lt;omega);have hw3:IntKind.i64.wrap (32+(t.toNat:Int))=((blen x:Nat):Int):=by rw [Qag (by have:=t.toNat_lt;omega) (by have:=t.toNat_lt;omega),hb,←htb];omega
    rw [htb]at hw2 hw3;simp -implicitDefEqProofs only [go_sem,seval,ht,hw2,hw3,htb]
 ·have h32:(4294967296≤((x:Nat):Int))=False:=by simp only [eq_iff_iff,iff_false];omega
  by_cases q16:65536≤x
  ·have h16:(65536≤((x:Nat):Int))=True:=by simp only [eq_iff_iff,iff_true];omega
   by_cases q8:256≤x/65536
   ·have h8:(256≤((x/65536:Nat):Int))=True:=by simp only [eq_iff_iff,iff_true];omega
    have hx8:(x/65536)/256<256:=by omega
    have hw:=Qf9 hx8;have h0:(0≤(((x/65536)/256:Nat):Int))=True:=by simp only [eq_iff_iff,iff_true];exact Int.natCast_nonneg _
    have hb:blen x=blen ((x/65536)/256)+24:=by have:=Qd5 24 x (by simp only [Nat.reducePow];omega);simp only [Nat.reducePow]at this;rw [this,show(x/65536)/256=x/16777216 by omega]
    refine Qab (tb:=[]) 25 [.tmp 2] [0,2,4,8,14] mixed Tryz.func156 rfl (by kernel_rfl) ?_;simp -implicitDefEqProofs only [go_sem,seval,h32,h16,h8,Qyp,Zml,hw,h0,Int.toNat_natCast,wc16,wc24];generalize hT:ByteArray.mk _=T;have hok:Qqq T.data.toList=true:=by rw [←hT];kernel_rfl
    obtain⟨t,ht,htb⟩:=Qdw hok hx8;clear hT;have hw2:IntKind.i64.wrap (t.toNat:Int)=(t.toNat:Int):=wrapn (by have:=t.toNat_lt;omega);have hw3:IntKind.i64.wrap (24+(t.toNat:Int))=((blen x:Nat):Int):=by rw [Qag (by have:=t.toNat_lt;omega) (by have:=t.toNat_lt;omega),hb,←htb];omega
    rw [htb]at hw2 hw3;simp -implicitDefEqProofs only [go_sem,seval,ht,hw2,hw3,htb]
   ·have h8:(256≤((x/65536:Nat):Int))=False:=by simp only [eq_iff_iff,iff_false];omega
    have hx8:x/65536<256:=by omega
    have hw:=Qf9 hx8;have h0:(0≤((x/65536:Nat):Int))=True:=by simp only [eq_iff_iff,iff_true];exact Int.natCast_nonneg _
    have hb:blen x=blen (x/65536)+16:=by have:=Qd5 16 x (by simp only [Nat.reducePow];omega);simp only [Nat.reducePow]at this;rw [this,show x/65536=x/65536 by omega]
    refine Qab (tb:=[]) 25 [.tmp 2] [0,2,4,8,14] mixed Tryz.func156 rfl (by kernel_rfl) ?_;simp -implicitDefEqProofs only [go_sem,seval,h32,h16,h8,Qyp,hw,h0,Int.toNat_natCast,wc16];generalize hT:ByteArray.mk _=T;have hok:Qqq T.data.toList=true:=by rw [←hT];kernel_rfl
    obtain⟨t,ht,htb⟩:=Qdw hok hx8;clear hT;have hw2:IntKind.i64.wrap (t.toNat:Int)=(t.toNat:Int):=wrapn (by have:=t.toNat_lt;omega);have hw3:IntKind.i64.wrap (16+(t.toNat:Int))=((blen x:Nat):Int):=by rw [Qag (by have:=t.toNat_lt;omega) (by have:=t.toNat_lt;omega),hb,←htb];omega
    rw [htb]at hw2 hw3;simp -implicitDefEqProofs only [go_sem,seval,ht,hw2,hw3,htb]
  ·have h16:(65536≤((x:Nat):Int))=False:=by simp only [eq_iff_iff,iff_false];omega
   by_cases q8:256≤x
   ·have h8:(256≤((x:Nat):Int))=True:=by simp only [eq_iff_iff,iff_true];omega
    have hx8:x/256<256:=by omega
    have hw:=Qf9 hx8;have h0:(0≤((x/256:Nat):Int))=True:=by simp only [eq_iff_iff,iff_true];exact Int.natCast_nonneg _
    have hb:blen x=blen (x/256)+8:=by have:=Qd5 8 x (by simp only [Nat.reducePow];omega);simp only [Nat.reducePow]at this;rw [this,show x/256=x/256 by omega]
    refine Qab (tb:=[]) 25 [.tmp 2] [0,2,4,8,14] mixed Tryz.func156 rfl (by kernel_rfl) ?_;simp -implicitDefEqProofs only [go_sem,seval,h32,h16,h8,Zml,hw,h0,Int.toNat_natCast,wc8];generalize hT:ByteArray.mk _=T;have hok:Qqq T.data.toList=true:=by rw [←hT];kernel_rfl
    obtain⟨t,ht,htb⟩:=Qdw hok hx8;clear hT;have hw2:IntKind.i64.wrap (t.toNat:Int)=(t.toNat:Int):=wrapn (by have:=t.toNat_lt;omega);have hw3:IntKind.i64.wrap (8+(t.toNat:Int))=((blen x:Nat):Int):=by rw [Qag (by have:=t.toNat_lt;omega) (by have:=t.toNat_lt;omega),hb,←htb];omega
    rw [htb]at hw2 hw3;simp -implicitDefEqProofs only [go_sem,seval,ht,hw2,hw3,htb]
   ·have h8:(256≤((x:Nat):Int))=False:=by simp only [eq_iff_iff,iff_false];omega
    have hx8:x<256:=by omega
    have hw:=Qf9 hx8;have h0:(0≤((x:Nat):Int))=True:=by simp only [eq_iff_iff,iff_true];exact Int.natCast_nonneg _
    have hb:blen x=blen (x)+0:=by rfl
    refine Qab (tb:=[]) 25 [.tmp 2] [0,2,4,8,14] mixed Tryz.func156 rfl (by kernel_rfl) ?_;simp -implicitDefEqProofs only [go_sem,seval,h32,h16,h8,hw,h0,Int.toNat_natCast];generalize hT:ByteArray.mk _=T;have hok:Qqq T.data.toList=true:=by rw [←hT];kernel_rfl
    obtain⟨t,ht,htb⟩:=Qdw hok hx8;clear hT;have hw2:IntKind.i64.wrap (t.toNat:Int)=(t.toNat:Int):=wrapn (by have:=t.toNat_lt;omega);have hw3:IntKind.i64.wrap (0+(t.toNat:Int))=((blen x:Nat):Int):=by rw [Qag (by have:=t.toNat_lt;omega) (by have:=t.toNat_lt;omega),hb,←htb];omega
    rw [htb]at hw2 hw3;simp -implicitDefEqProofs only [go_sem,seval,ht,hw2,hw3,htb]
theorem Zb7 (x:Nat) (hx:x<18446744073709551616):Qaf Tryz.prog 144 [.int .u64 (x:Int)] (.int .i64 ((64-blen x:Nat):Int)):=by
 have hb:=Qd2 64 x hx;have hw:IntKind.i64.wrap (64-((blen x:Nat):Int))=((64-blen x:Nat):Int):=by rw [Qag (by omega) (by omega)];omega
 refine Qab (tb:=[]) 6 [.tmp 2] [0,2] mixed Tryz.func144 rfl (by kernel_rfl) ?_;simp -implicitDefEqProofs only [go_sem,seval];refine Qak _ _ _ _ _ _ _ _ _ (Zvq x hx) ?_;simp -implicitDefEqProofs only [go_sem,seval,hw]
theorem Zb8 (m:Nat) (hl:(digs BW m).length≤1000000000):Qaf Tryz.prog 130 [dw (digs BW m)] (.int .i64 (blen m:Int)):=by
 refine Qab (tb:=[]) 17 [.tmp 2] [0,2,5] mixed Tryz.func130 rfl (by kernel_rfl) ?_;by_cases h0:m=0
 ·subst h0;have h1:(((0:Nat):Int)==0)=true:=rfl;simp -implicitDefEqProofs only [go_sem,Nat.reduceAdd,Nat.reduceMul,Nat.reduceEqDiff,Nat.reduceLT,Nat.reduceLeDiff,reduceCtorEq,dw,Qbi,List.map_nil,List.length_nil,h1,Qf5];rfl
 ·have hp:0<(digs BW m).length:=List.length_pos_iff.2 (mt (Qbm BW_2).1 h0);have h1:(((digs BW m).length:Int)==0)=false:=by simp only [beq_eq_false_iff_ne,ne_eq];omega
  have ht:=Qdu BW_2 h0;have hg:=Qax (n:=m) (k:=(digs BW m).length-1) BW_2 (by omega);rw [Nat.mod_eq_of_lt ht.2]at hg;have hb:blen m=blen (m/BW^((digs BW m).length-1))+64*((digs BW m).length-1):=Qxm h0 64 (by decide);generalize m/BW^((digs BW m).length-1)=t at*;have htl:=Qd2 64 t ht.2;generalize hL:(digs BW m).length=L at*;have hw1:IntKind.i64.wrap ((L:Int)*64)=((L*64:Nat):Int):=by rw [Qag (by omega) (by omega)];omega
  have hw2:IntKind.i64.wrap ((L:Int)-1)=((L-1:Nat):Int):=by rw [Qag (by omega) (by omega)];omega
  have hw3:IntKind.i64.wrap (((L*64:Nat):Int)-((64-blen t:Nat):Int))=((blen m:Nat):Int):=by rw [Qag (by omega) (by omega),hb];omega
  have h2:(0≤((L-1:Nat):Int))=True:=by simp only [eq_iff_iff,iff_true];exact Int.natCast_nonneg _
  simp -implicitDefEqProofs only [go_sem,Nat.reduceAdd,Nat.reduceMul,Nat.reduceEqDiff,Nat.reduceLT,Nat.reduceLeDiff,reduceCtorEq,dw,List.length_map,hL,h1,hw1,hw2,h2,Qch,hg,Int.toNat_natCast];refine Qak _ _ _ _ _ _ _ _ _ (Zb7 t ht.2) ?_;simp -implicitDefEqProofs only [go_sem,Nat.reduceAdd,Nat.reduceEqDiff,Nat.reduceLT,reduceCtorEq,hw3]
end Go.Proofs.YtnohfmdlaajpbaaGreat

namespace Go.Dg
abbrev WB:Nat:=18446744073709551616
theorem Zwx (m:Nat) (hm:m<8):WB=256^(m+1)*256^(7-m):=by
 rw [←Nat.pow_add,show m+1+(7-m)=8 by omega]
theorem Qp2 (T b m j:Nat):256^(8*j+m+1)*T+b*256^(8*j+m)=WB^j*(256^(m+1)*T+b*256^m):=by
 have e:WB^j=256^(8*j):=by rw [Nat.pow_mul]
 rw [e,Nat.mul_add,←Nat.mul_assoc,←Nat.pow_add,Nat.mul_left_comm (256^(8*j)) b,←Nat.pow_add,Nat.add_assoc]
theorem Qot (T b m j:Nat) (hb:b<256) (hm:m<8):
  (256^(8*j+m+1)*T+b*256^(8*j+m))/WB^j%WB=256^(m+1)*(T%256^(7-m))+b*256^m:=by
 have hp:0<256^m:=Nat.pow_pos (by decide);have hlt:b*256^m<256^(m+1):=by rw [Nat.pow_succ,Nat.mul_comm];exact Nat.mul_lt_mul_of_pos_left hb hp
 rw [Qp2,Nat.mul_div_cancel_left _ (Nat.pow_pos (by decide)),Zwx m hm];generalize b*256^m=r at*;generalize 256^(m+1)=A at*;generalize 256^(7-m)=q at*;have hA:0<A:=by omega
 rw [Nat.mod_mul,Nat.mul_add_mod,Nat.mod_eq_of_lt hlt,Nat.mul_add_div hA,Nat.div_eq_of_lt hlt,Nat.add_zero,Nat.add_comm]
theorem Qup (T b m j i:Nat) (hb:b<256) (hm:m<8) (hi:i≠j):
  (256^(8*j+m+1)*T+b*256^(8*j+m))/WB^i%WB=(256^(8*j+m+1)*T)/WB^i%WB:=by
 have hp:0<256^m:=Nat.pow_pos (by decide);have hlt:b*256^m<256^(m+1):=by rw [Nat.pow_succ,Nat.mul_comm];exact Nat.mul_lt_mul_of_pos_left hb hp
 have e2:=Qp2 T 0 m j;rw [Nat.zero_mul,Nat.add_zero,Nat.zero_mul,Nat.add_zero]at e2;rw [Qp2,e2];rcases Nat.lt_or_gt_of_ne hi with h|h
 ·obtain⟨d,rfl⟩:=Nat.exists_eq_add_of_lt h;have e: ∀X:Nat,WB^(i+d+1)*X/WB^i%WB=0:=by
   intro X;rw [show i+d+1=i+(d+1)by omega,Nat.pow_add,Nat.mul_assoc,Nat.mul_div_cancel_left _ (Nat.pow_pos (by decide)),Nat.pow_succ,Nat.mul_comm (WB^d),Nat.mul_assoc,Nat.mul_mod_right]
  rw [e,e]
 ·obtain⟨d,rfl⟩:=Nat.exists_eq_add_of_lt h;have e: ∀X:Nat,WB^j*X/WB^(j+d+1)=X/WB/WB^d:=by
   intro X;rw [show j+d+1=j+(1+d)by omega,Nat.pow_add,Nat.mul_div_mul_left _ _ (Nat.pow_pos (by decide)),Nat.pow_add,Nat.pow_one,Nat.div_div_eq_div_mul]
  rw [e,e];congr 2;rw [Zwx m hm];generalize b*256^m=r at*;generalize 256^(m+1)=A at*;generalize 256^(7-m)=q at*;have hA:0<A:=by omega
  rw [←Nat.div_div_eq_div_mul,←Nat.div_div_eq_div_mul,Nat.mul_add_div hA,Nat.div_eq_of_lt hlt,Nat.add_zero,Nat.add_zero,Nat.mul_div_cancel_left _ hA]
end Go.Dg

namespace Go.Proofs.YtnohfmdlaajpbaaGreat
open Go.Vl Go.RowKit Go.Dg
theorem Zmm {P:Program} {t:TypeId} (x y:Nat):Qbp .or t P (.int .u64 (x:Int)) (.int .u64 (y:Int))=some (.int .u64 (((x%18446744073709551616) ||| (y%18446744073709551616):Nat):Int)):=by
 rw [b_or];have h:(BitVec.ofInt IntKind.u64.bits (x:Int) ||| BitVec.ofInt IntKind.u64.bits (y:Int)).toNat=(x%18446744073709551616) ||| (y%18446744073709551616):=by
  rw [BitVec.toNat_or];have h1: ∀n:Nat,(BitVec.ofInt IntKind.u64.bits (n:Int)).toNat=n%18446744073709551616:=by intro n;show(BitVec.ofInt 64 (n:Int)).toNat=_;simp
  rw [h1,h1]
 rw [h,Qdp,Nat.mod_eq_of_lt (Nat.or_lt_two_pow (n:=64) (Nat.mod_lt _ (by decide)) (Nat.mod_lt _ (by decide)))]
theorem Qmw (x k:Nat):IntKind.u64.wrap ((x:Int)*2^k)=((x*2^k%18446744073709551616:Nat):Int):=by
 rw [←Qdp];congr 1
theorem Zmn (n:Nat):Int.tdiv (n:Int) 8=((n/8:Nat):Int):=by
 rw [Int.tdiv_eq_ediv_of_nonneg (by omega)];rfl
theorem Z0b (n:Nat):Int.tmod (n:Int) 8=((n%8:Nat):Int):=by
 rw [Int.tmod_eq_emod_of_nonneg (by omega)];rfl
theorem Q2f (T b m j:Nat) (hb:b<256) (hm:m<8):
  ((256^(8*j+m+1)*T/WB^j%WB) ||| (b*2^(m*8)%18446744073709551616))=(256^(8*j+m+1)*T+b*256^(8*j+m))/WB^j%WB:=by
 have h0:=Qot T 0 m j (by decide) hm;rw [Nat.zero_mul,Nat.add_zero,Nat.zero_mul,Nat.add_zero]at h0;rw [Qot T b m j hb hm,h0];have e8: ∀k,(256:Nat)^k=2^(k*8):=fun k=>by rw [Nat.mul_comm,Nat.pow_mul]
 have hp:0<256^m:=Nat.pow_pos (by decide);have hlt:b*256^m<256^(m+1):=by rw [Nat.pow_succ,Nat.mul_comm];exact Nat.mul_lt_mul_of_pos_left hb hp
 have hle:256^(m+1)≤18446744073709551616:=Nat.pow_le_pow_right (n:=256) (by decide) (show m+1≤8 by omega);rw [←e8 m,Nat.mod_eq_of_lt (Nat.lt_of_lt_of_le hlt hle)];rw [e8 (m+1)]at hlt ⊢;exact(Nat.two_pow_add_eq_or_of_lt hlt _).symm
attribute [local go_sem high] Zmm
def pre (l:List UInt8) (i:Nat):Nat:=bnum (l.take i)*256^(l.length-i)
theorem Qwc (s:ByteArray) (hs:s.size≤1000000):Qaf Tryz.prog 106 [.str s] (dw (lows BW (bnum s.data.toList) ((s.data.toList.length+7)/8))):=by
 rw [Qlz]at hs;have hsz:=Qlz s;have hget:=Qrs s;generalize s.data.toList=l at*;have w1:IntKind.i64.wrap ((l.length:Int)+7)=((l.length+7:Nat):Int):=by rw [Qag (by omega) (by omega)];omega
 have w2:=wrapn (n:=(l.length+7)/8) (by omega);have hn0:((0:Int)≤(((l.length+7)/8:Nat):Int))=True:=by simp only [eq_iff_iff,iff_true];exact Int.natCast_nonneg _
 have hn1:((8:Nat):Int)*(((l.length+7)/8:Nat):Int)≤281474976710656:=by omega
 have hn2:(((l.length+7)/8:Nat):Int)≤9223372036854775807:=by omega
 refine Qab (tb:=[]) 38 [.tmp 2] [0,2,3,4,5,12,13,14] mixed Tryz.func106 rfl (by kernel_rfl) ?_;simp -implicitDefEqProofs only [go_sem,Nat.reduceAdd,Nat.reduceMul,Nat.reduceEqDiff,Nat.reduceLT,Nat.reduceLeDiff,reduceCtorEq,Int.reduceEq,hsz,w1,w2,Zmn,hn0,hn1,hn2,Int.toNat_natCast];have hst:List.replicate ((l.length+7)/8) (PV.int .u64 0)=(lows BW (pre l 0) ((l.length+7)/8)).map fW:=by
  rw [pre,List.take_zero,show bnum []=0 from rfl,Nat.zero_mul,Qeg];simp
 rw [hst];generalize hW:(l.length+7)/8=W at*;refine Qas mixed (fun i:{i:Nat // i≤l.length}=>St.of [(0,.str s),(2,.nilS),(3,.bs 104 1 0 W),(12,.int .i64 (l.length:Int)),(13,.int .i64 (i.1:Int))]
   [(104,{els:=(lows BW (pre l i.1) W).map fW,esz:=1,ety:=169,fro:=0,live:=true,arr:=true})]) (fun i=>l.length-i.1) ⟨0,Nat.zero_le _⟩ ?_ ?_
 ·refine Qaj (θ:=[(104,104)]) rfl ?_ ?_
  ·simp [Qac,lkp,ren1,ren0]
  ·simp [Qaz,lkp,Box.renames]
 ·rintro⟨i,hi⟩;by_cases hA:i<l.length
  ·have hA':((i:Int)<(l.length:Int))=True:=by simp;omega
   have h0:(0≤(i:Int))=True:=by simp
   have hg:=hget i hA;have hwk:=Qa7 (a:=i) (by omega);have v1:IntKind.i64.wrap ((l.length:Int)-1)=((l.length-1:Nat):Int):=by rw [Qag (by omega) (by omega)];omega
   have v2:IntKind.i64.wrap (((l.length-1:Nat):Int)-(i:Int))=((l.length-1-i:Nat):Int):=by rw [Qag (by omega) (by omega)];omega
   have htk:l.take (i+1)=l.take i++[l[i]]:=by rw [List.take_add_one];simp [hA]
   have hb:l[i].toNat<256:=l[i].toNat_lt;generalize hk:l.length-1-i=k at*;have hkj:k=8*(k/8)+k%8:=by omega
   have hm:k%8<8:=Nat.mod_lt _ (by decide);have hjW:k/8<W:=by omega
   have p0:pre l i=256^(8*(k/8)+k%8+1)*bnum (l.take i):=by
    rw [pre,Nat.mul_comm,show l.length-i=8*(k/8)+k%8+1 by omega]
   have p1:pre l (i+1)=256^(8*(k/8)+k%8+1)*bnum (l.take i)+l[i].toNat*256^(8*(k/8)+k%8):=by
    rw [pre,htk,Qly,show l.length-(i+1)=8*(k/8)+k%8 by omega,Nat.add_mul,Nat.pow_succ,Nat.mul_assoc,Nat.mul_comm (bnum _),Nat.mul_comm 256]
   have hpw:=Q2f (bnum (l.take i)) l[i].toNat (k%8) (k/8) hb hm;have hoth:=fun c hc=>Qup (bnum (l.take i)) l[i].toNat (k%8) (k/8) c hb hm hc;rw [←p1,←p0]at hpw;rw [←p1,←p0]at hoth;have hgo:((lows BW (pre l i) W).map fW)[k/8]? =some (PV.int .u64 ((pre l i/BW^(k/8)%BW:Nat):Int)):=by rw [List.getElem?_map,Qbw _ _ _ hjW];rfl
   have hset:(lows BW (pre l i) W).set (k/8) (pre l (i+1)/BW^(k/8)%BW)=lows BW (pre l (i+1)) W:=by
    apply List.ext_getElem?;intro c;rw [List.getElem?_set,Qam];by_cases hc:c<W
    ·rw [Qbw _ _ _ hc,Qbw _ _ _ hc];by_cases e:k/8=c
     ·subst e;simp [hjW]
     ·simp only [e,if_false];rw [hoth c (fun h=>e h.symm)]
    ·rw [List.getElem?_eq_none (by rw [Qam];omega),List.getElem?_eq_none (by rw [Qam];omega)];simp;omega
   have hll:=Qam (B:=BW) (pre l i) W;have u1:IntKind.i64.wrap (((k/8:Nat):Int))=((k/8:Nat):Int):=wrapn (by omega);have u2:IntKind.i64.wrap (((k%8:Nat):Int)*8)=((k%8*8:Nat):Int):=by rw [Qag (by omega) (by omega)];omega
   have u3:(((k%8*8:Nat):Int)<0)=False:=by simp only [eq_iff_iff,iff_false];omega
   have u4:min (k%8*8) 64=k%8*8:=by omega
   have u5:(0≤((k/8:Nat):Int))=True:=by simp only [eq_iff_iff,iff_true];exact Int.natCast_nonneg _
   have u6:(((k/8:Nat):Int)<(W:Int))=True:=by simp only [eq_iff_iff,iff_true];omega
   have u7:l[i].toNat%18446744073709551616=l[i].toNat:=Nat.mod_eq_of_lt (by omega);have u8:pre l i/BW^(k/8)%BW%18446744073709551616=pre l i/BW^(k/8)%BW:=Nat.mod_mod _ _;simp -implicitDefEqProofs only [go_sem,Nat.reduceAdd,Nat.reduceMul,Nat.reduceEqDiff,Nat.reduceLT,Nat.reduceLeDiff,reduceIte,reduceCtorEq,Int.reduceEq,hA',h0,hg,hsz,v1,v2,Zmn,Z0b,u1,u2,u3,u4,u5,u6,Int.toNat_natCast,hgo,Qdp,u7,Qmw];refine⟨Qad _ _ (by kernel_rfl),⟨i+1,hA⟩,by simp only;omega,?_⟩;rw [u8,Nat.mod_mod,hpw,Qc3,hset,hwk];refine Qaj (θ:=[(104,104)]) rfl ?_ ?_
   ·simp [Qac,lkp,ren1,ren0]
   ·simp [Qaz,lkp,Box.renames]
  ·have hA':((i:Int)<(l.length:Int))=False:=by simp;omega
   have e:pre l i=bnum l:=by rw [pre,List.take_of_length_le (by omega),show l.length-i=0 by omega,Nat.pow_zero,Nat.mul_one]
   have hll:=Qam (B:=BW) (bnum l) W;have htk:((lows BW (bnum l) W).map fW).take W=(lows BW (bnum l) W).map fW:=List.take_of_length_le (by simp [hll]);simp -implicitDefEqProofs only [go_sem,Nat.reduceAdd,Nat.reduceMul,Nat.reduceEqDiff,Nat.reduceLT,Nat.reduceLeDiff,reduceIte,reduceCtorEq,hA',e,List.length_map,hll,htk,dw]
end Go.Proofs.YtnohfmdlaajpbaaGreat

namespace Go.Proofs.YtnohfmdlaajpbaaGreat
open Go.Vl Go.RowKit Go.Dg
theorem Qst (m k:Nat):m/BW^(k/8)%BW/2^(k%8*8)%256=m/256^k%256:=by
 have hm:k%8<8:=Nat.mod_lt _ (by decide);have e8: ∀k,(256:Nat)^k=2^(k*8):=fun k=>by rw [Nat.mul_comm,Nat.pow_mul]
 have hk:k=8*(k/8)+k%8:=by omega
 have e1:(256:Nat)^k=BW^(k/8)*256^(k%8):=by
  conv=>lhs;rw [hk,Nat.pow_add,Nat.pow_mul]
 rw [←e8,e1,←Nat.div_div_eq_div_mul];generalize m/BW^(k/8)=v;have e2:BW=256^(k%8)*(256*256^(7-k%8)):=by
  rw [←Nat.mul_assoc,←Nat.pow_succ,←Nat.pow_add,show k%8+1+(7-k%8)=8 by omega]
 rw [e2,Nat.mod_mul_right_div_self,Nat.mod_mul_right_mod]
def stp (m D i:Nat):List Nat:=(List.range D).map fun c=>if c<i then m/256^(D-1-c)%256 else 0
theorem Qef (m D i:Nat):(stp m D i).length=D:=by simp [stp]
theorem Qms (m D i c:Nat) (h:c<D):(stp m D i)[c]? =some (if c<i then m/256^(D-1-c)%256 else 0):=by simp [stp,h]
theorem Zmb (m D:Nat):List.replicate D (PV.int .u8 0)=(stp m D 0).map f8:=by
 apply List.ext_getElem?;intro c;by_cases hc:c<D
 ·rw [List.getElem?_map,Qms _ _ _ _ hc];simp [hc]
 ·rw [List.getElem?_eq_none (by simp;omega),List.getElem?_eq_none (by simp [Qef];omega)]
theorem Zvh (m D i:Nat) (hi:i<D):(stp m D i).set i (m/256^(D-1-i)%256)=stp m D (i+1):=by
 apply List.ext_getElem?;intro c;rw [List.getElem?_set,Qef];by_cases hc:c<D
 ·rw [Qms _ _ _ _ hc,Qms _ _ _ _ hc];by_cases e:i=c
  ·subst e;simp [hi]
  ·simp only [e,if_false];by_cases hlt:c<i
   ·rw [if_pos hlt,if_pos (by omega)]
   ·rw [if_neg hlt,if_neg (by omega)]
 ·rw [List.getElem?_eq_none (by rw [Qef];omega),List.getElem?_eq_none (by rw [Qef];omega)];simp;omega
theorem Zmc (m:Nat):stp m (digs 256 m).length (digs 256 m).length=(digs 256 m).reverse:=by
 apply List.ext_getElem?;intro c;by_cases hc:c<(digs 256 m).length
 ·rw [Qms _ _ _ _ hc,if_pos hc,List.getElem?_reverse hc,Qax (by decide) (by omega)]
 ·rw [List.getElem?_eq_none (by rw [Qef];omega),List.getElem?_eq_none (by simp;omega)]
theorem Zzt (l:List Nat) (i:Nat) (d:Nat):(l.map f8).set i (PV.int .u8 (d:Int))=(l.set i d).map f8:=(List.map_set (f:=f8)).symm
theorem Zmd (n:Nat):IntKind.u8.wrap (n:Int)=((n%256:Nat):Int):=by
 simp [IntKind.wrap,IntKind.signed,IntKind.bits]
theorem Qym (m:Nat) (hl:(digs BW m).length≤1000000):Qaf Tryz.prog 131 [dw (digs BW m)] (.str ⟨(magL m).toArray⟩):=by
 have hbl:(blen m+7)/8=(digs 256 m).length:=by
  by_cases h0:m=0
  ·subst h0;rw [Qf5,Qbi];rfl
  ·have ht:=Qdu (B:=256) (by decide) h0;have hb:blen m=blen (m/256^((digs 256 m).length-1))+8*((digs 256 m).length-1):=Qxm h0 8 (by decide);have h1:=Qd2 8 _ ht.2;have h2:=Qf6 ht.1;have hp:0<(digs 256 m).length:=List.length_pos_iff.2 (mt (Qbm (by decide)).1 h0);omega
 have hbm:blen m≤64*(digs BW m).length:=Qd2 _ _ (by rw [Nat.pow_mul];exact Qbg BW_2 m);have w1:IntKind.i64.wrap ((blen m:Int)+7)=((blen m+7:Nat):Int):=by rw [Qag (by omega) (by omega)];omega
 have w2:=wrapn (n:=(blen m+7)/8) (by omega);generalize hD:(digs 256 m).length=D at*;have hD2:D≤9000000:=by omega
 have hn0:((0:Int)≤((D:Nat):Int))=True:=by simp
 have hn1:((1:Nat):Int)*(D:Int)≤281474976710656:=by omega
 have hn2:(D:Int)≤9223372036854775807:=by omega
 rw [hbl]at w2;refine Qab (tb:=[]) 37 [.tmp 2] [0,2,3,4,5,12,13,14] mixed Tryz.func131 rfl (by kernel_rfl) ?_;simp -implicitDefEqProofs only [go_sem,Nat.reduceAdd,Nat.reduceMul,Nat.reduceEqDiff,Nat.reduceLT,Nat.reduceLeDiff,reduceCtorEq,dw];refine Qak _ _ _ _ _ _ _ _ _ (Zb8 m (by omega)) ?_;simp -implicitDefEqProofs only [go_sem,Nat.reduceAdd,Nat.reduceMul,Nat.reduceEqDiff,Nat.reduceLT,Nat.reduceLeDiff,reduceCtorEq,Int.reduceEq,w1,Zmn,hbl,w2,hn0,hn1,hn2,Int.toNat_natCast];have hfull:=Zmc m;rw [hD]at hfull;rw [Zmb m D];refine Qas mixed (fun i:{i:Nat // i≤D}=>St.of [(0,dw (digs BW m)),(2,.str ⟨#[]⟩),(3,.bs 104 1 0 D),(12,.int .i64 (D:Int)),(13,.int .i64 (i.1:Int))]
   [(104,{els:=(stp m D i.1).map f8,esz:=1,ety:=5,fro:=0,live:=true,arr:=true})]) (fun i=>D-i.1) ⟨0,Nat.zero_le _⟩ ?_ ?_
 ·refine Qaj (θ:=[(104,104)]) rfl ?_ ?_
  ·simp [Qac,lkp,ren1,ren0,dw]
  ·simp [Qaz,lkp,Box.renames]
 ·rintro⟨i,hi⟩;by_cases hA:i<D
  ·have hA':((i:Int)<(D:Int))=True:=by simp;omega
   have h0:(0≤(i:Int))=True:=by simp
   have hwk:=Qa7 (a:=i) (by omega);have v1:IntKind.i64.wrap ((D:Int)-1)=((D-1:Nat):Int):=by rw [Qag (by omega) (by omega)];omega
   have v2:IntKind.i64.wrap (((D-1:Nat):Int)-(i:Int))=((D-1-i:Nat):Int):=by rw [Qag (by omega) (by omega)];omega
   have hset:=Zvh m D i hA;have hne:m/256^(D-1-i)≠0:=(Qc7 (by decide) m _).1 (by omega);generalize hk:D-1-i=k at*;have hbw:=Qst m k;have hwne:m/BW^(k/8)≠0:=by
    intro h;apply hne;have e1:(256:Nat)^k=BW^(k/8)*256^(k%8):=by
     conv=>lhs;rw [show k=8*(k/8)+k%8 by omega,Nat.pow_add,Nat.pow_mul]
    rw [e1,←Nat.div_div_eq_div_mul,h,Nat.zero_div]
   have hgw:=Qax (n:=m) (k:=k/8) BW_2 ((Qc7 BW_2 m _).2 hwne);generalize m/BW^(k/8)%BW=q at*;have u1:IntKind.i64.wrap (((k/8:Nat):Int))=((k/8:Nat):Int):=wrapn (by omega);have u2:IntKind.i64.wrap (((k%8:Nat):Int)*8)=((k%8*8:Nat):Int):=by rw [Qag (by omega) (by omega)];omega
   have u3:(((k%8*8:Nat):Int)<0)=False:=by simp only [eq_iff_iff,iff_false];omega
   have u4:min (k%8*8) 64=k%8*8:=by omega
   have u5:(0≤((k/8:Nat):Int))=True:=by simp only [eq_iff_iff,iff_true];exact Int.natCast_nonneg _
   obtain⟨e,hgo⟩: ∃e:Nat,((stp m D i).map f8)[i]? =some (PV.int .u8 (e:Int)):=⟨_,by rw [List.getElem?_map,Qms _ _ _ _ hA];rfl⟩;have hsl:=Qef m D i;simp -implicitDefEqProofs only [go_sem,Nat.reduceAdd,Nat.reduceMul,Nat.reduceEqDiff,Nat.reduceLT,Nat.reduceLeDiff,reduceIte,reduceCtorEq,Int.reduceEq,dw,hA',h0,v1,v2,Zmn,Z0b,u1,u2,u3,u4,u5,Int.toNat_natCast,Qch,hgw,Qi0,Zmd,hbw,hgo,hwk];refine⟨⟨i+1,hA⟩,by simp only;omega,?_⟩;refine Qaj (θ:=[(104,104)]) rfl ?_ ?_
   ·simp [Qac,lkp,ren1,ren0,dw]
   ·rw [Zzt,hset];simp [Qaz,lkp,Box.renames]
  ·have hA':((i:Int)<(D:Int))=False:=by simp;omega
   obtain rfl:i=D:=by omega
   rw [hfull];have hrl:(digs 256 m).reverse.length=i:=by simp [hD]
   have htk:((digs 256 m).reverse.map f8).take i=(digs 256 m).reverse.map f8:=List.take_of_length_le (by simp [hD]);simp -implicitDefEqProofs only [go_sem,Nat.reduceAdd,Nat.reduceMul,Nat.reduceEqDiff,Nat.reduceLT,Nat.reduceLeDiff,reduceIte,reduceCtorEq,hA',List.length_map,hrl,htk,Qzz];rfl
theorem Qj2 (neg:Bool) (m:Nat) (hl:(digs BW m).length≤1000000):Qaf Tryz.prog 109 [nP neg m] (Qh0 (sv neg m)):=by
 have hna:(sv neg m).natAbs=m:=by cases neg<;>simp [sv]
 have hneg:decide (sv neg m<0)=(neg&&decide (0<m)):=by
  cases neg
  ·simp [sv]
  ·simp [sv]
 unfold Qh0;rw [hna];refine Qab (tb:=[]) 21 [.cell 2 125,.tmp 3] [0,1,2,3,7] mixed Tryz.func109 rfl (by kernel_rfl) ?_;simp -implicitDefEqProofs only [go_sem,seval,nP,dw];refine Qak _ _ _ _ _ _ _ _ _ (Zb8 m (by omega)) ?_;by_cases h:65536<blen m
 ·have h':((65536:Int)<(blen m:Int))=True:=by simp only [eq_iff_iff,iff_true];omega
  rw [if_pos h,Zej];simp -implicitDefEqProofs only [go_sem,seval,h']
 ·have h':((65536:Int)<(blen m:Int))=False:=by simp only [eq_iff_iff,iff_false];omega
  rw [if_neg h];have hlen:decide ((0:Int)<((digs BW m).length:Int))=decide (0<m):=by
   simp only [decide_eq_decide];have:=mt (Qbm BW_2 (n:=m)).2;by_cases h0:m=0
   ·subst h0;simp [Qbi]
   ·have:=List.length_pos_iff.2 (mt (Qbm BW_2).1 h0);constructor<;>intro _<;>omega
  cases neg with
  |true=>
   simp -implicitDefEqProofs only [go_sem,seval,h',List.length_map];refine Qak _ _ _ _ _ _ _ _ _ (Qym m hl) ?_;simp -implicitDefEqProofs only [go_sem,seval,wPV,hna,hneg,hlen,Bool.true_and];exact Qad _ _ (by kernel_rfl)
  |false=>
   simp -implicitDefEqProofs only [go_sem,seval,h'];refine Qak _ _ _ _ _ _ _ _ _ (Qym m hl) ?_;simp -implicitDefEqProofs only [go_sem,seval,wPV,hna,hneg,Bool.false_and];exact Qad _ _ (by kernel_rfl)
theorem bfold (r:List UInt8): ∀a:Nat,r.foldl (fun n b=>n*256+b.toNat) a=a*256^r.length+bnum r:=by
 induction r with
 |nil=>intro a;simp [bnum]
 |cons b r ih=>
  intro a;have h0:bnum (b::r)=b.toNat*256^r.length+bnum r:=by
   have h:=ih (0*256+b.toNat);rw [Nat.zero_mul,Nat.zero_add]at h;rw [←h,bnum,List.foldl_cons,Nat.zero_mul,Nat.zero_add]
  rw [List.foldl_cons,ih,h0,List.length_cons,Nat.pow_succ,Nat.add_mul,Nat.mul_assoc,Nat.mul_comm 256];omega
theorem Qsu (b:UInt8) (r:List UInt8):bnum (b::r)=b.toNat*256^r.length+bnum r:=by
 have h:=bfold r (0*256+b.toNat);rw [Nat.zero_mul,Nat.zero_add]at h;rw [←h,bnum,List.foldl_cons,Nat.zero_mul,Nat.zero_add]
theorem Qmt {neg:Bool} {l:List UInt8} (h:Qb0 neg l=true):lows BW (bnum l) ((l.length+7)/8)=digs BW (bnum l):=by
 refine Q4j BW_2 ?_ ?_
 ·refine Nat.lt_of_lt_of_le (Que _ l rfl) ?_;rw [show BW=256^8 from rfl,←Nat.pow_mul];exact Nat.pow_le_pow_right (by decide) (by omega)
 ·intro j hj;cases l with
  |nil=>simp at hj
  |cons b r=>
   have hb:b.toNat≠0:=by
    intro e;have:b=0:=UInt8.toNat_inj.1 (by simpa using e);subst this;simp [Qb0]at h
   have hge:256^r.length≤bnum (b::r):=by
    rw [Qsu];have:=Nat.mul_le_mul_right (256^r.length) (Nat.pos_of_ne_zero hb);omega
   have hle:BW^j≤256^r.length:=by
    rw [show BW=256^8 from rfl,←Nat.pow_mul];exact Nat.pow_le_pow_right (by decide) (by simp at hj;omega)
   have:=Nat.div_pos (Nat.le_trans hle hge) (Nat.pow_pos (n:=j) (show 0<BW by decide));omega
theorem Qqk (neg:Bool) (s:ByteArray) (h:Qb0 neg s.data.toList=true) (hs:s.size≤1000000):Qaf Tryz.prog 82 [.agg [.bool neg,.str s]] (nP neg (bnum s.data.toList)):=by
 have hl:=Qwc s hs;rw [Qmt h]at hl;refine Qab (tb:=[]) 9 [.cell 2 167] [0,1,2] mixed Tryz.func82 rfl (by kernel_rfl) ?_;simp -implicitDefEqProofs only [go_sem,seval];refine Qak _ _ _ _ _ _ _ _ _ hl ?_;simp -implicitDefEqProofs only [go_sem,seval,nP,dw];exact Qad _ _ (by kernel_rfl)
def wnum (neg:Bool) (s:ByteArray):Int:=sv neg (bnum s.data.toList)
theorem Qgf (s:ByteArray) (hs:s.size≤100000):(digs BW (bnum s.data.toList)).length≤100000:=by
 rw [Qlz]at hs;refine Nat.le_trans ((Qaw BW_2 _ s.data.toList.length).2 ?_) hs;exact Nat.lt_of_lt_of_le (Que _ _ rfl) (Nat.pow_le_pow_left (by decide) _)
theorem Zzu (a b m k:Nat) (hm:m≤a+b) (h1:(digs BW a).length≤k) (h2:(digs BW b).length≤k):(digs BW m).length≤k+1:=by
 rw [Qaw BW_2]at h1 h2 ⊢;rw [Nat.pow_succ];generalize BW^k=K at*;simp only [BW];omega
def refused:PV:= .tup [wPV 0,.int .i64 2]
def outN (n:Int):Int:=if 65536<blen n.natAbs then 0 else n
def outE (n:Int):Int:=if 65536<blen n.natAbs then 7 else 0
theorem Qhc (n:Int):Qh0 n= .tup [wPV (outN n),.int .i64 (outE n)]:=by
 unfold Qh0 outN outE;split<;>rfl
theorem Zzv (an bn:Bool) (a b:ByteArray) (h1:Qb0 an a.data.toList=true) (h2:Qb0 bn b.data.toList=true) (ha:a.size≤100000) (hb:b.size≤100000):Qaf Tryz.prog 84 [.agg [.bool an,.str a],.agg [.bool bn,.str b]] (Qh0 (wnum an a+wnum bn b)):=by
 have hL1:=Qgf a ha;have hL2:=Qgf b hb;have h:(Qb0 an a.data.toList&&Qb0 bn b.data.toList)=true:=by rw [h1,h2];rfl
 obtain⟨n,m,hs,e,hm⟩:=Zo3 an bn (bnum a.data.toList) (bnum b.data.toList) (by omega) (by omega);have hLm:(digs BW m).length≤1000000:=by
  exact Nat.le_trans (Zzu _ _ _ _ hm hL1 hL2) (by decide)
 rw [wnum,wnum,←e];refine Qab (tb:=[]) 19 [.cell 4 125,.tmp 5] [0,1,2,3,4,5,9] mixed Tryz.func84 rfl (by kernel_rfl) ?_;simp -implicitDefEqProofs only [go_sem,seval];refine Qak _ _ _ _ _ _ _ _ _ (Qsx an bn a b) ?_;simp -implicitDefEqProofs only [go_sem,seval,h];refine Qak _ _ _ _ _ _ _ _ _ (Qqk an a h1 (by omega)) ?_;simp -implicitDefEqProofs only [go_sem,seval,nP,dw];refine Qak _ _ _ _ _ _ _ _ _ (Qqk bn b h2 (by omega)) ?_;simp -implicitDefEqProofs only [go_sem,seval,nP,dw];refine Qak _ _ _ _ _ _ _ _ _ hs ?_;simp -implicitDefEqProofs only [go_sem,seval,nP,dw];refine Qak _ _ _ _ _ _ _ _ _ (Qj2 n m hLm) ?_;unfold Qh0;split
 ·simp -implicitDefEqProofs only [go_sem,seval,wPV];exact Qad _ _ (by kernel_rfl)
 ·simp -implicitDefEqProofs only [go_sem,seval,wPV];exact Qad _ _ (by kernel_rfl)
theorem Zvi (x y:Nat) (hx:x<18446744073709551616) (hy:y<18446744073709551616):Qaf Tryz.prog 157 [.int .u64 x,.int .u64 y] (.tup [.int .u64 ((x*y/18446744073709551616:Nat):Int),.int .u64 ((x*y%18446744073709551616:Nat):Int)]):=by
 refine Qab (tb:=[]) 51 [.tmp 4,.tmp 5] [0,1,4,5,6,7,8,9,10,11,12,13] mixed Tryz.func157 rfl (by kernel_rfl) ?_;simp -implicitDefEqProofs only [go_sem,seval,Qdp,Qrr,←Int.natCast_mul,←Int.natCast_add,Z1a hx hy]
theorem Zb0 (a b:Nat):IntKind.u64.wrap ((a:Int)+(b:Int))=(((a+b)%18446744073709551616:Nat):Int):=by rw [←Int.natCast_add,Qdp]
theorem Zme {x y o c:Nat} (hx:x<18446744073709551616) (hy:y<18446744073709551616) (ho:o<18446744073709551616) (hc:c<18446744073709551616):
  ((x*y%18446744073709551616+o)%18446744073709551616+c)%18446744073709551616=(o+c+x*y)%18446744073709551616∧
  ((x*y/18446744073709551616+(x*y%18446744073709551616+o)/18446744073709551616)%18446744073709551616+((x*y%18446744073709551616+o)%18446744073709551616+c)/18446744073709551616)%18446744073709551616=(o+c+x*y)/18446744073709551616:=by
 have h:x*y≤18446744073709551615*18446744073709551615:=Nat.mul_le_mul (by omega) (by omega);generalize x*y=p at*;omega
set_option maxRecDepth 2000 in
theorem Zb1 (a b:Nat) (hab:(digs BW a).length+(digs BW b).length≤1000000000):Qaf Tryz.prog 147 [dw (digs BW a),dw (digs BW b)] (dw (digs BW (a*b))):=by
 refine Qab (tb:=[]) 80 [.tmp 4] [0,1,4,5,6,7,8,9,10,11,12,13,20,21,22,23,27,28,29,30] mixed Tryz.func147 rfl (by kernel_rfl) ?_;have hw0:=Qg5 (a:=(digs BW a).length) (b:=(digs BW b).length) (by omega);have hn0:((0:Int)≤(((digs BW a).length+(digs BW b).length:Nat):Int))=True:=by simp only [eq_iff_iff,iff_true];omega
 have hn1:((8:Nat):Int)*(((digs BW a).length+(digs BW b).length:Nat):Int)≤281474976710656:=by omega
 have hn2:(((digs BW a).length+(digs BW b).length:Nat):Int)≤9223372036854775807:=by omega
 simp -implicitDefEqProofs only [go_sem,Nat.reduceAdd,Nat.reduceMul,Nat.reduceEqDiff,Nat.reduceLT,Nat.reduceLeDiff,reduceCtorEq,dw,List.length_map,hw0,hn0,hn1,hn2,Int.toNat_natCast];have hrep:List.replicate ((digs BW a).length+(digs BW b).length) (PV.int .u64 0)=(lows BW 0 ((digs BW a).length+(digs BW b).length)).map fW:=by rw [Qeg];simp
 rw [hrep];generalize hla:(digs BW a).length=la at*;generalize hlb:(digs BW b).length=lb at*;have hblt:b<BW^lb:=by rw [←hlb];exact Qbg BW_2 b
 refine Qas mixed (fun i:{i:Nat // i≤la}=>St.of [(0,dw (digs BW a)),(1,dw (digs BW b)),(4,.nilS),(5,.bs 105 1 0 (la+lb)),(20,dw (digs BW a)),(21,.int .i64 (la:Int)),(22,.int .i64 (i.1:Int))]
  [(105,{els:=(lows BW (a%BW^i.1*b) (la+lb)).map fW,esz:=1,ety:=169,fro:=0,live:=true,arr:=true})]) (fun i=>la-i.1) ⟨0,Nat.zero_le _⟩ ?_ ?_
 ·refine Qaj (θ:=[(105,105)]) rfl ?_ ?_
  ·simp [Qac,lkp,ren1,ren0,dw]
  ·simp [Qaz,lkp,Box.renames,Nat.mod_one]
 ·rintro⟨i,hi⟩;by_cases hA:i<la
  ·have hA':((i:Int)<(la:Int))=True:=by simp;omega
   have h0:(0≤(i:Int))=True:=by simp
   have hga:=Qax BW_2 (show i<(digs BW a).length by omega);simp -implicitDefEqProofs only [go_sem,Nat.reduceAdd,Nat.reduceMul,Nat.reduceEqDiff,Nat.reduceLT,Nat.reduceLeDiff,reduceCtorEq,dw,List.length_map,hlb,hA',h0,Qch,hga,Int.toNat_natCast];generalize hS:a%BW^i*b=S at*;generalize hx:a/BW^i%BW=x at*;have hxl:x<BW:=by rw [←hx];exact Nat.mod_lt _ (by decide)
   refine Qas mixed (fun k:{k:Nat // k≤lb}=>St.of [(0,dw (digs BW a)),(1,dw (digs BW b)),(4,.nilS),(5,.bs 105 1 0 (la+lb)),(6,.int .i64 (i:Int)),(7,.int .u64 (x:Int)),(8,.int .u64 (mulC BW S x i b k.1:Int)),(20,dw (digs BW a)),(21,.int .i64 (la:Int)),(22,.int .i64 (i:Int)),(27,dw (digs BW b)),(28,.int .i64 (lb:Int)),(29,.int .i64 (k.1:Int))]
    [(105,{els:=(mix BW (mulV BW S x i b k.1) S (la+lb) (i+k.1)).map fW,esz:=1,ety:=169,fro:=0,live:=true,arr:=true})]) (fun k=>lb-k.1) ⟨0,Nat.zero_le _⟩ ?_ ?_
   ·refine Qaj (θ:=[(105,105)]) rfl ?_ ?_
    ·simp [Qac,lkp,ren1,ren0,dw,Qr7]
    ·simp only [Qaz,lkp,Box.renames,Qr5,Nat.add_zero,and_self,and_true,true_and,if_true];rw [Qf8 (by decide) rfl];exact .inl rfl
   ·rintro⟨k,hk⟩;have hcl:=Zpk (B:=BW) (S:=S) (i:=i) (b:=b) (k:=k) (by decide) hxl;have hk0:(0≤(k:Int))=True:=by simp
    have hml:=Qbn (B:=BW) (mulV BW S x i b k) S (la+lb) (i+k);have hwik:=Qg5 (a:=i) (b:=k) (by omega);have hik0:((0:Int)≤((i+k:Nat):Int))=True:=by simp only [eq_iff_iff,iff_true];omega
    by_cases hB:k<lb
    ·have hB':((k:Int)<(lb:Int))=True:=by simp;omega
     have hgb:=Qax BW_2 (show k<(digs BW b).length by omega);have hwk:=Qa7 (a:=k) (by omega);have hin:i+k<la+lb:=by omega
     have hin':(((i+k:Nat):Int)<((la+lb:Nat):Int))=True:=by simp only [eq_iff_iff,iff_true];omega
     have hget:((mix BW (mulV BW S x i b k) S (la+lb) (i+k)).map fW)[i+k]? =some (PV.int .u64 ((S/BW^(i+k)%BW:Nat):Int)):=by rw [List.getElem?_map,Qdj _ _ _ _ _ hin,if_neg (Nat.lt_irrefl _)];rfl
     have hset:=Qej (B:=BW) (S:=S) (by decide) hin (Zed (B:=BW) S x i b k) rfl;obtain⟨hs1,hs2⟩:=Qxu (B:=BW) (by decide) S x i b k;have hd1:S/BW^(i+k)%BW<BW:=Nat.mod_lt _ (by decide);have hd2:b/BW^k%BW<BW:=Nat.mod_lt _ (by decide);generalize S/BW^(i+k)%BW=o at*;generalize b/BW^k%BW=y at*;generalize mulC BW S x i b k=c at*;obtain⟨m1,m2⟩:=Zme hxl hd2 hd1 hcl;rw [hs1]at m1;rw [hs2]at m2;simp -implicitDefEqProofs only [go_sem,Nat.reduceAdd,Nat.reduceMul,Nat.reduceEqDiff,Nat.reduceLT,Nat.reduceLeDiff,reduceCtorEq,dw,hB',hk0,Qch,hgb,Int.toNat_natCast];refine Qak _ _ _ _ _ _ _ _ _ (Zvi x y hxl hd2) ?_;simp -implicitDefEqProofs only [go_sem,Nat.reduceAdd,Nat.reduceMul,Nat.reduceEqDiff,Nat.reduceLT,Nat.reduceLeDiff,reduceCtorEq,hwik,hik0,hin',hget,Int.toNat_natCast];refine Qak _ _ _ _ _ _ _ _ _ (Qqj (x*y%18446744073709551616) o 0 (by decide)) ?_;simp -implicitDefEqProofs only [go_sem,Nat.reduceAdd,Nat.reduceMul,Nat.reduceEqDiff,Nat.reduceLT,Nat.reduceLeDiff,reduceCtorEq,Zb0];refine Qak _ _ _ _ _ _ _ _ _ (Qqj ((x*y%18446744073709551616+o)%18446744073709551616) c 0 (by decide)) ?_;simp -implicitDefEqProofs only [go_sem,Nat.reduceAdd,Nat.reduceMul,Nat.reduceEqDiff,Nat.reduceLT,Nat.reduceLeDiff,reduceIte,reduceCtorEq,Zb0,m1,m2,hwik,hik0,hin',hget,Int.toNat_natCast,hwk,Qc3,hset];refine⟨⟨k+1,hB⟩,by simp only;omega,Qaj (θ:=[(105,105)]) rfl ?_ ?_⟩
     ·simp [Qac,lkp,ren1,ren0,dw]
     ·simp [Qaz,lkp,Box.renames,Nat.add_assoc]
    ·have hB':((k:Int)<(lb:Int))=False:=by simp;omega
     obtain rfl:k=lb:=by omega
     have hwi:=Qa7 (a:=i) (by omega);have hin:i+k<la+k:=by omega
     have hin':(((i+k:Nat):Int)<((la+k:Nat):Int))=True:=by simp only [eq_iff_iff,iff_true];omega
     obtain⟨e,hget⟩: ∃e:Nat,((mix BW (mulV BW S x i b k) S (la+k) (i+k)).map fW)[i+k]? =some (PV.int .u64 (e:Int)):=⟨_,by rw [List.getElem?_map,Qdj _ _ _ _ _ hin];rfl⟩;have hV:mulV BW S x i b k=a%BW^(i+1)*b:=by rw [←hS,←hx];exact Q4i a i b k hblt
     have hS0:S/BW^(i+k)=0:=by
      rw [←hS];refine Nat.div_eq_of_lt ?_;have h1:=Nat.mod_lt a (Nat.pow_pos (n:=i) (show 0<BW by decide));rw [Nat.pow_add];rcases Nat.eq_zero_or_pos b with rfl|hb
      ·rw [Nat.mul_zero];exact Nat.mul_pos (Nat.pow_pos (by decide)) (Nat.pow_pos (by decide))
      ·exact Nat.lt_of_lt_of_le (Nat.mul_lt_mul_of_pos_right h1 hb) (Nat.mul_le_mul_left _ (Nat.le_of_lt hblt))
     have hC:=Qp3 (B:=BW) S x i b k;rw [hS0,Nat.add_zero]at hC;have hdig:mulV BW S x i b k/BW^(i+k)%BW=mulC BW S x i b k:=by rw [←hC,Nat.mod_eq_of_lt hcl]
     have hset:=Qej (B:=BW) (V:=mulV BW S x i b k) (W:=mulV BW S x i b k) (S:=S) (n:=la+k) (m:=i+k) (by decide) hin rfl hdig;have hmx:=Qf8 (B:=BW) (V:=mulV BW S x i b k) (S:=S) (n:=la+k) (m:=i+k+1) (by decide) (by
      rw [Nat.pow_succ,←Nat.div_div_eq_div_mul,←Nat.div_div_eq_div_mul,hS0,←hC,Nat.div_eq_of_lt hcl,Nat.zero_div])
     rw [hmx,hV]at hset;rw [hV]at hml hget;simp -implicitDefEqProofs only [go_sem,Nat.reduceAdd,Nat.reduceMul,Nat.reduceEqDiff,Nat.reduceLT,Nat.reduceLeDiff,reduceIte,reduceCtorEq,dw,List.length_map,hlb,hB',hwik,hik0,hin',hml,hget,hV,Int.toNat_natCast,hwi,Qc3,hset];refine⟨⟨i+1,hA⟩,by simp only;omega,Qaj (θ:=[(105,105)]) rfl ?_ ?_⟩
     ·simp [Qac,lkp,ren1,ren0,dw]
     ·simp [Qaz,lkp,Box.renames]
  ·have hA':((i:Int)<(la:Int))=False:=by simp;omega
   have hlt:a<BW^i:=(Qaw BW_2 a i).1 (by omega);have hil:i=la:=by omega
   have hll:=Qam (B:=BW) (a%BW^i*b) (la+lb);have htk:((lows BW (a%BW^i*b) (la+lb)).map fW).take (la+lb)=(lows BW (a%BW^i*b) (la+lb)).map fW:=List.take_of_length_le (by simp [hll]);simp -implicitDefEqProofs only [go_sem,Nat.reduceAdd,Nat.reduceMul,Nat.reduceEqDiff,Nat.reduceLT,Nat.reduceLeDiff,reduceIte,reduceCtorEq,dw,List.length_map,hA',hll,htk];refine Qak _ _ _ _ _ _ _ _ _ (Qde (lows BW (a%BW^i*b) (la+lb)) (by rw [hll];simp [maxLen];omega)) ?_;simp -implicitDefEqProofs only [go_sem,Nat.reduceAdd,Nat.reduceEqDiff,Nat.reduceLT,reduceCtorEq,dw];rw [Qb8 BW_2,Nat.mod_eq_of_lt hlt,Nat.mod_eq_of_lt];rw [Nat.pow_add,←hil];rcases Nat.eq_zero_or_pos b with rfl|hb
   ·rw [Nat.mul_zero];exact Nat.mul_pos (Nat.pow_pos (by decide)) (Nat.pow_pos (by decide))
   ·exact Nat.lt_of_lt_of_le (Nat.mul_lt_mul_of_pos_right hlt hb) (Nat.mul_le_mul_left _ (Nat.le_of_lt hblt))
end Go.Proofs.YtnohfmdlaajpbaaGreat

namespace Go.Dg
theorem Qex (r:Nat) (hr:r≤64):WB=2^r*2^(64-r):=by
 rw [←Nat.pow_add,show r+(64-r)=64 by omega]
theorem Quh (x r:Nat) (hr:r≤64):x*2^r%WB=2^r*(x%2^(64-r)):=by
 rw [Qex r hr,Nat.mul_comm x,Nat.mul_mod_mul_left]
theorem Qry (x c r:Nat) (hr:r≤64) (hc:c<2^r):(c ||| (x*2^r%WB))=(c+x*2^r)%WB∧(c+x*2^r)/WB=x/2^(64-r):=by
 have e1:=Quh x r hr;have e2:(x*2^r)/WB=x/2^(64-r):=by
  rw [Qex r hr,Nat.mul_comm x,Nat.mul_div_mul_left _ _ (Nat.pow_pos (by decide))]
 have hlt:2^r*(x%2^(64-r))+c<WB:=by
  have h1:x%2^(64-r)<2^(64-r):=Nat.mod_lt _ (Nat.pow_pos (by decide));rw [Qex r hr];have:2^r*(x%2^(64-r))+2^r≤2^r*2^(64-r):=by
   rw [←Nat.mul_succ];exact Nat.mul_le_mul_left _ h1
  omega
 have e3:c+x*2^r=WB*(x/2^(64-r))+(2^r*(x%2^(64-r))+c):=by
  have:=Nat.div_add_mod (x*2^r) WB;rw [e1,e2]at this;omega
 constructor
 ·rw [e1,e3,Nat.mul_add_mod,Nat.mod_eq_of_lt hlt,Nat.or_comm,Nat.two_pow_add_eq_or_of_lt hc]
 ·rw [e3,Nat.mul_add_div (by decide),Nat.div_eq_of_lt hlt,Nat.add_zero]
def shlV (a w r i:Nat):Nat:=a%WB^i*2^r*WB^w
def shlC (a r i:Nat):Nat:=a%WB^i*2^r/WB^i
theorem Ql1 (a r i:Nat):shlC a r i<2^r:=by
 rw [shlC,Nat.div_lt_iff_lt_mul (Nat.pow_pos (by decide)),Nat.mul_comm];exact Nat.mul_lt_mul_of_pos_left (Nat.mod_lt _ (Nat.pow_pos (by decide))) (Nat.pow_pos (by decide))
theorem WBp (i:Nat):0<WB^i:=Nat.pow_pos (by decide)
theorem Qlf (a w r i:Nat):shlV a w r i/WB^(i+w)=shlC a r i:=by
 rw [shlV,shlC,Nat.add_comm i w,Nat.pow_add,←Nat.div_div_eq_div_mul,Nat.mul_div_cancel _ (WBp w)]
theorem Qrz (a w r i:Nat):shlV a w r (i+1)=shlV a w r i+a/WB^i%WB*2^r*WB^(i+w):=by
 rw [shlV,shlV,Nat.pow_succ,Nat.mod_mul,Nat.add_mul,Nat.add_mul,Nat.pow_add];congr 1;simp only [Nat.mul_assoc,Nat.mul_comm,Nat.mul_left_comm]
theorem Qkk (a w r i:Nat):shlV a w r (i+1)/WB^(i+w)=shlC a r i+a/WB^i%WB*2^r:=by
 rw [Qrz,Nat.add_mul_div_right _ _ (WBp _),Qlf]
theorem Qxn (a w r i:Nat):shlV a w r i%WB^(i+w)=shlV a w r (i+1)%WB^(i+w):=by
 rw [Qrz,Nat.add_mul_mod_self_right]
theorem Q3x (a w r:Nat):shlV a w r 0=0:=by simp [shlV,Nat.mod_one]
theorem Q3y (a w r i:Nat) (h:a<WB^i):shlV a w r i=a*2^(64*w+r):=by
 rw [shlV,Nat.mod_eq_of_lt h,Nat.pow_add,Nat.pow_mul,show(2:Nat)^64=WB from rfl];simp only [Nat.mul_assoc,Nat.mul_comm,Nat.mul_left_comm]
theorem Qxo (B V S n m:Nat) (hB:0<B) (h:V%B^m=S%B^m):mix B V S n m=lows B S n:=by
 apply List.map_congr_left;intro j _;split
 ·rename_i hj;exact Qma hB h hj
 ·rfl
theorem Q3z {V W n j d:Nat} (hj:j<n) (h:V%WB^j=W%WB^j) (hd:W/WB^j%WB=d) (hu:W/WB^(j+1)=V/WB^(j+1)):(lows WB V n).set j d=lows WB W n:=by
 rw [←Qxo WB W V n j (by decide) h.symm,Qej (V:=W) (W:=W) (by decide) hj rfl hd,Qf8 (by decide) hu]
theorem Q30 {V W n j d e:Nat} (hj:j+1<n) (h:V%WB^j=W%WB^j) (hd:W/WB^j%WB=d) (he:W/WB^(j+1)%WB=e) (hu:W/WB^(j+1+1)=V/WB^(j+1+1)):
  ((lows WB V n).set j d).set (j+1) e=lows WB W n:=by
 rw [←Qxo WB W V n j (by decide) h.symm,Qej (V:=W) (W:=W) (by decide) (by omega) rfl hd,Qej (V:=W) (W:=W) (by decide) hj rfl he,Qf8 (by decide) hu]
theorem Zd5 (a w i n:Nat) (hj:i+w<n):
  (lows WB (shlV a w 0 i) n).set (i+w) (a/WB^i%WB)=lows WB (shlV a w 0 (i+1)) n:=by
 have hc:shlC a 0 i=0:=by have:=Ql1 a 0 i;simp at this;exact this
 have h2:=Qkk a w 0 i;rw [hc,Nat.pow_zero,Nat.mul_one,Nat.zero_add]at h2;have h1:=Qlf a w 0 i;rw [hc]at h1;refine Q3z hj (Qxn a w 0 i) (by rw [h2,Nat.mod_mod]) ?_;rw [Nat.pow_succ,←Nat.div_div_eq_div_mul,←Nat.div_div_eq_div_mul,h1,h2,Nat.zero_div,Nat.div_eq_of_lt (Nat.mod_lt _ (by decide))]
theorem Zd6 (a w r i n:Nat) (hr:r≤64) (hj:i+w+1<n):
  ((lows WB (shlV a w r i) n).set (i+w) (shlC a r i ||| (a/WB^i%WB*2^r%WB))).set (i+w+1) (a/WB^i%WB/2^(64-r))=lows WB (shlV a w r (i+1)) n:=by
 have hc:=Ql1 a r i;have h2:=Qkk a w r i;have h1:=Qlf a w r i;obtain⟨e1,e2⟩:=Qry (a/WB^i%WB) (shlC a r i) r hr hc;have hx:a/WB^i%WB<WB:=Nat.mod_lt _ (by decide);have hx2:a/WB^i%WB/2^(64-r)<WB:=Nat.lt_of_le_of_lt (Nat.div_le_self _ _) hx;have hc2:shlC a r i<WB:=Nat.lt_of_lt_of_le hc (Nat.pow_le_pow_right (n:=2) (by decide) hr);rw [e1];refine Q30 hj (Qxn a w r i) (by rw [h2]) ?_ ?_
 ·rw [Nat.pow_succ,←Nat.div_div_eq_div_mul,h2,e2,Nat.mod_eq_of_lt hx2]
 ·rw [Nat.pow_succ,Nat.pow_succ,←Nat.div_div_eq_div_mul,←Nat.div_div_eq_div_mul,←Nat.div_div_eq_div_mul,←Nat.div_div_eq_div_mul,h1,h2,e2,Nat.div_eq_of_lt hx2,Nat.div_eq_of_lt hc2,Nat.zero_div]
theorem Q31 (A i r:Nat) (h0:0<r) (hr:r<64):((A/WB^i%WB/2^r) ||| (A/WB^(i+1)%WB*2^(64-r)%WB))=A/2^r/WB^i%WB:=by
 have e0:A/WB^(i+1)=A/WB^i/WB:=by rw [Nat.pow_succ,Nat.div_div_eq_div_mul]
 have e1:A/2^r/WB^i=A/WB^i/2^r:=by rw [Nat.div_div_eq_div_mul,Nat.div_div_eq_div_mul,Nat.mul_comm]
 rw [e0,e1];generalize A/WB^i=X;have hlt:X%WB/2^r<2^(64-r):=by
  rw [Nat.div_lt_iff_lt_mul (Nat.pow_pos (by decide)),Nat.mul_comm,←Qex r (by omega)];exact Nat.mod_lt _ (by decide)
 obtain⟨s1,_⟩:=Qry (X/WB%WB) (X%WB/2^r) (64-r) (by omega) hlt;rw [s1];have hX:X=WB*(X/WB)+X%WB:=(Nat.div_add_mod X WB).symm;have hS:=Qex r (by omega);have e2:X/2^r=2^(64-r)*(X/WB)+X%WB/2^r:=by
  conv=>lhs;rw [hX,hS,Nat.mul_assoc]
  rw [Nat.mul_add_div (Nat.pow_pos (by decide)),←hS]
 rw [e2,Nat.mul_comm (2^(64-r)) (X/WB),Nat.add_comm];have hm:(X/WB%WB)*2^(64-r)%WB=X/WB*2^(64-r)%WB:=by rw [Nat.mod_mul_mod]
 rw [Nat.add_mod,hm,←Nat.add_mod]
theorem Zpd (A i r:Nat) (h:A/WB^(i+1)=0):A/WB^i%WB/2^r=A/2^r/WB^i%WB:=by
 have e1:A/2^r/WB^i=A/WB^i/2^r:=by rw [Nat.div_div_eq_div_mul,Nat.div_div_eq_div_mul,Nat.mul_comm]
 have hlt:A/WB^i<WB:=by
  rw [Nat.pow_succ,←Nat.div_div_eq_div_mul]at h;exact(Nat.div_eq_zero_iff_lt (by decide)).1 h
 rw [e1,Nat.mod_eq_of_lt hlt,Nat.mod_eq_of_lt (Nat.lt_of_le_of_lt (Nat.div_le_self _ _) hlt)]
section
variable {y1 y0 u d q r:Nat}
structure Guess (y1 y0 u d q r:Nat):Prop where
 part:q*y1+r=u
 big:(u*4294967296+d)/(y1*4294967296+y0)≤q
theorem Qui (hy1:2147483648≤y1) (hu:u<y1*4294967296+y0) (hd:d<4294967296):Guess y1 y0 u d (u/y1) (u%y1):=by
 refine⟨by rw [Nat.mul_comm];exact Nat.div_add_mod u y1,?_⟩;have h1:(u*4294967296+d)/(y1*4294967296+y0)≤(u*4294967296+d)/(y1*4294967296):=Nat.div_le_div_left (by omega) (by omega);have h2:(u*4294967296+d)/(y1*4294967296)=u/y1:=by
  rw [Nat.mul_comm y1,←Nat.div_div_eq_div_mul];congr 1;omega
 omega
theorem Qoq (h:Guess y1 y0 u d q r):(r*4294967296+d<q*y0↔u*4294967296+d<q*(y1*4294967296+y0)):=by
 have e:q*(y1*4294967296+y0)=q*y1*4294967296+q*y0:=by rw [Nat.mul_add,Nat.mul_assoc]
 have:=h.part;rw [e];omega
theorem Qzn (h:Guess y1 y0 u d q r) (hy:0<y1*4294967296+y0) (hq:(u*4294967296+d)<q*(y1*4294967296+y0)):0<q∧Guess y1 y0 u d (q-1) (r+y1):=by
 have hq0:0<q:=by
  rcases Nat.eq_zero_or_pos q with rfl|h
  ·omega
  ·exact h
 refine⟨hq0,?_,?_⟩
 ·obtain⟨p,rfl⟩: ∃p,q=p+1:=⟨q-1,by omega⟩;have:=h.part;rw [Nat.add_mul]at this;simp only [Nat.add_sub_cancel];omega
 ·have:=(Nat.div_lt_iff_lt_mul hy).2 hq;omega
theorem Qor (h:Guess y1 y0 u d q r) (hy:0<y1*4294967296+y0) (hq:q*(y1*4294967296+y0)≤u*4294967296+d):q=(u*4294967296+d)/(y1*4294967296+y0):=
 Nat.le_antisymm ((Nat.le_div_iff_mul_le hy).2 hq) h.big
theorem Quj (hu:u<y1*4294967296+y0) (h:Guess y1 y0 u d q r) (hq:4294967296≤q):r<y0∧r<4294967296+y0:=by
 have h1:=Nat.mul_le_mul_right y1 hq;have h2:=h.part;omega
theorem Qzo (hu:u<y1*4294967296+y0) (hd:d<4294967296):(u*4294967296+d)/(y1*4294967296+y0)<4294967296:=by
 have:0<y1*4294967296+y0:=by omega
 rw [Nat.div_lt_iff_lt_mul this];omega
end
section
variable {B:Nat}
theorem Zd7 (hB:0<B) (R D j:Nat) (hD:0<D):R%(D*B^(j+1))/B^j/D=R/D/B^j%B:=by
 rw [Nat.div_div_eq_div_mul,Nat.div_div_eq_div_mul,Nat.mul_comm (B^j) D,Nat.pow_succ,←Nat.mul_assoc,Nat.mod_mul_right_div_self]
theorem Zpe (R D j:Nat):R%(D*B^(j+1))%(D*B^j)=R%(D*B^j):=by
 rw [Nat.pow_succ,←Nat.mul_assoc,Nat.mod_mul_right_mod]
theorem Zd8 (hB:0<B) (S D j:Nat) (hD:0<D):S%(D*B^j)/B^j=S/B^j%D:=by
 rw [Nat.mul_comm,Nat.mod_mul_right_div_self]
theorem Zd9 (hB:0<B) (S D j:Nat):S%(D*B^j)%B^j=S%B^j:=by
 rw [Nat.mul_comm,Nat.mod_mul_right_mod]
theorem Qzp (hB:0<B) (W d k:Nat) (ht:0<d/B^k):W/d≤W/B^k/(d/B^k):=by
 have h1:d/B^k*B^k≤d:=Nat.div_mul_le_self d (B^k);have h2:W/d≤W/(B^k*(d/B^k)):=Nat.div_le_div_left (by rw [Nat.mul_comm];exact h1) (Nat.mul_pos (Nat.pow_pos hB) ht)
 rwa [←Nat.div_div_eq_div_mul]at h2
theorem Zpf (hB:0<B) (W k:Nat):W/B^k=W/B^(k+1)*B+W/B^k%B:=by
 have:=Qif hB W k;rw [Nat.mul_comm]at this;exact this
theorem Q32 (hB:0<B) {V W n j:Nat} {x:List Nat} (hj:j+x.length≤n) (h:V%B^j=W%B^j) (hx:x=lows B (W/B^j) x.length) (hu:W/B^(j+x.length)=V/B^(j+x.length)):
  (lows B V n).take j++x++(lows B V n).drop (j+x.length)=lows B W n:=by
 apply List.ext_getElem?;intro i;by_cases h1:i<n
 ·rw [Qbw _ _ _ h1];by_cases h2:i<j
  ·rw [List.append_assoc,List.getElem?_append_left (by simp [Qam];omega),List.getElem?_take_of_lt h2,Qbw _ _ _ h1,Qma hB h h2]
  ·by_cases h3:i<j+x.length
   ·rw [List.append_assoc,List.getElem?_append_right (by simp [Qam];omega),List.getElem?_append_left (by simp [Qam];omega)];have e:i-((lows B V n).take j).length=i-j:=by simp [Qam];omega
    rw [e,hx,Qbw _ _ _ (by omega),Nat.div_div_eq_div_mul,←Nat.pow_add,show j+(i-j)=i by omega]
   ·rw [List.getElem?_append_right (by simp [Qam];omega),List.getElem?_drop];have e:j+x.length+(i-((lows B V n).take j++x).length)=i:=by simp [Qam];omega
    rw [e,Qbw _ _ _ h1];have e2:i=(j+x.length)+(i-(j+x.length)):=by omega
    rw [e2,Nat.pow_add,←Nat.div_div_eq_div_mul,←Nat.div_div_eq_div_mul,hu]
 ·rw [List.getElem?_eq_none (by simp [Qam];omega),List.getElem?_eq_none (by rw [Qam];omega)]
end
theorem Qh9 (hB:2≤18446744073709551616) (n i:Nat) (h:(digs WB n).length≤i):digs WB n++List.replicate (i-(digs WB n).length) 0=lows WB n i:=by
 apply List.ext_getElem?;intro k;by_cases h1:k<i
 ·rw [Qbw _ _ _ h1];by_cases h2:k<(digs WB n).length
  ·rw [List.getElem?_append_left h2,Qax hB h2]
  ·rw [List.getElem?_append_right (by omega),Qck hB (Nat.le_of_not_lt h2),Nat.zero_mod,List.getElem?_replicate,if_pos (by omega)]
 ·rw [List.getElem?_eq_none (by simp;omega),List.getElem?_eq_none (by rw [Qam];omega)]
theorem Ql2 (B V n j k:Nat) (h:j+k≤n):((lows B V n).drop j).take k=lows B (V/B^j) k:=by
 apply List.ext_getElem?;intro i;by_cases h1:i<k
 ·rw [List.getElem?_take_of_lt h1,List.getElem?_drop,Qbw _ _ _ (by omega),Qbw _ _ _ h1,Nat.div_div_eq_div_mul,←Nat.pow_add]
 ·rw [List.getElem?_eq_none (by simp;omega),List.getElem?_eq_none (by rw [Qam];omega)]
section
variable {y u d q r:Nat}
structure Kn (y u d q r:Nat):Prop where
 g:Guess (y/4294967296) (y%4294967296) u d q r
 small:r<4294967296
theorem Qeh (y:Nat):y/4294967296*4294967296+y%4294967296=y:=by omega
theorem Qlg (h1:9223372036854775808≤y) (h2:y<18446744073709551616) (hu:u<y) (hd:d<4294967296):Kn y u d (u/(y/4294967296)) (u%(y/4294967296)):=by
 refine⟨Qui (by omega) (by omega) hd,?_⟩;have:=Nat.mod_lt u (show 0<y/4294967296 by omega);omega
theorem kn_q (h1:9223372036854775808≤y) (h2:y<18446744073709551616) (hu:u<y) (h:Kn y u d q r):q≤4294967297:=by
 rcases Nat.lt_or_ge q 4294967298 with h'|h'
 ·omega
 ·have h3:=h.g.part;have h4:=Nat.mul_le_mul_right (y/4294967296) h';omega
theorem Qpq (h:Kn y u d q r):(r*4294967296+d<q*(y%4294967296))↔u*4294967296+d<q*y:=by
 have:=Qoq h.g
 rwa [Qeh]at this
theorem Qpr (h1:9223372036854775808≤y) (hu:u<y) (h:Kn y u d q r) (hq:u*4294967296+d<q*y):0<q∧Guess (y/4294967296) (y%4294967296) u d (q-1) (r+y/4294967296):=by
 have:=Qzn h.g (by rw [Qeh];omega) (by rw [Qeh];exact hq);exact this
theorem Qlh (h1:9223372036854775808≤y) (hu:u<y) (hd:d<4294967296) (h:Guess (y/4294967296) (y%4294967296) u d q r) (hr:4294967296≤r):q=(u*4294967296+d)/y:=by
 have hlt:q<4294967296:=by
  rcases Nat.lt_or_ge q 4294967296 with h'|h'
  ·exact h'
  ·have:=(Quj (by rw [Qeh];exact hu) h h').1;omega
 have:=Qor h (by rw [Qeh];omega) (by
  have h3: ¬(r*4294967296+d<q*(y%4294967296)):=by
   have:q*(y%4294967296)≤4294967295*4294967295:=Nat.mul_le_mul (by omega) (by omega);omega
  rw [Qoq h]at h3;omega)
 rwa [Qeh]at this
theorem Qps (h1:9223372036854775808≤y) (h:Kn y u d q r) (hq: ¬u*4294967296+d<q*y):q=(u*4294967296+d)/y:=by
 have:=Qor h.g (by rw [Qeh];omega) (by rw [Qeh];omega)
 rwa [Qeh]at this
theorem Qjq (hu:u<y) (hd:d<4294967296):(u*4294967296+d)/y<4294967296:=by
 have:=Qzo (y1:=y/4294967296) (y0:=y%4294967296) (by rw [Qeh];exact hu) hd
 rwa [Qeh]at this
end
theorem Qzq {hi lo y s:Nat} (hs:s≤64) (hlo:lo<18446744073709551616) (hhi:hi<y) (hy:0<y):
  let Y:=y*2^s
  let u:=hi*2^s+lo/2^(64-s)
  let t:=lo*2^s%18446744073709551616
  let a:=u*4294967296+t/4294967296
  let b:=a%Y*4294967296+t%4294967296
  a/Y*4294967296+b/Y=(hi*18446744073709551616+lo)/y∧b%Y/2^s=(hi*18446744073709551616+lo)%y:=by
 intro Y u t a b;have hp:0<2^s:=Nat.pow_pos (by decide);have hY:0<Y:=Nat.mul_pos hy hp;have e1:(hi*18446744073709551616+lo)*2^s=u*18446744073709551616+t:=by
  have hd:lo*2^s/18446744073709551616=lo/2^(64-s):=by
   have:=Qex s hs;simp only [WB]at this;rw [this,Nat.mul_comm lo,Nat.mul_div_mul_left _ _ hp]
  have:=Nat.div_add_mod (lo*2^s) 18446744073709551616;rw [hd]at this;simp only [u,t];rw [Nat.add_mul,Nat.mul_right_comm];generalize hi*2^s=p at*;omega
 have e2:(hi*18446744073709551616+lo)*2^s=a*4294967296+t%4294967296:=by
  rw [e1];simp only [a];omega
 have e3:(hi*18446744073709551616+lo)*2^s=Y*(a/Y*4294967296+b/Y)+b%Y:=by
  have h3:=Nat.div_add_mod a Y;have h4:=Nat.div_add_mod b Y;rw [e2,Nat.mul_add,←Nat.mul_assoc];simp only [b]at h4 ⊢;omega
 have hb:b%Y<Y:=Nat.mod_lt _ hY;have e4:(hi*18446744073709551616+lo)*2^s/Y=a/Y*4294967296+b/Y:=by
  rw [e3,Nat.mul_add_div hY,Nat.div_eq_of_lt hb,Nat.add_zero]
 have e5:(hi*18446744073709551616+lo)*2^s%Y=b%Y:=by
  rw [e3,Nat.mul_add_mod,Nat.mod_eq_of_lt hb]
 constructor
 ·rw [←e4];exact Nat.mul_div_mul_right _ _ hp
 ·rw [←e5,Nat.mul_mod_mul_right,Nat.mul_div_cancel _ hp]
end Go.Dg
