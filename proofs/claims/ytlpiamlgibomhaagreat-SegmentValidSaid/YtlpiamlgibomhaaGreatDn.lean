/-
  STy, Dg, SA1, Dn (merged for the claim).
-/
import Derived.Test.YtlpiamlgibomhaaGreatUV
import Derived.Test.YtlpiamlgibomhaaGreatProg
set_option linter.unusedSimpArgs false
set_option linter.unusedVariables false
namespace Go.Proofs.YtlpiamlgibomhaaGreat
open Go.Vl
theorem mixed:Tryz.prog.follows .mixedOrders=true:=by kernel_rfl
theorem Zn2:tyOk Tryz.prog 3=true:=by kernel_rfl
theorem Zk7:Qby Tryz.prog 3=false:=by kernel_rfl
theorem Qy7:(Tryz.prog.info? 3).isSome=true:=by kernel_rfl
theorem Ze2:Qa0 Tryz.prog 3=some (1,8):=by kernel_rfl
theorem Q6v:Tryz.prog.cellsOf 3=1:=by kernel_rfl
theorem Ze3:Qa5 Tryz.prog 3=some (PV.int IntKind.i64 0):=by kernel_rfl
theorem Zk8:Tryz.prog.underlying 3=some (.int .i64):=by kernel_rfl
theorem Zn3:tyOk Tryz.prog 4=true:=by kernel_rfl
theorem Zk9:Qby Tryz.prog 4=false:=by kernel_rfl
theorem Qy8:(Tryz.prog.info? 4).isSome=true:=by kernel_rfl
theorem Ze4:Qa0 Tryz.prog 4=some (1,1):=by kernel_rfl
theorem Q6w:Tryz.prog.cellsOf 4=1:=by kernel_rfl
theorem Ze5:Qa5 Tryz.prog 4=some (PV.bool Bool.false):=by kernel_rfl
theorem Ze6:Tryz.prog.underlying 4=some .bool:=by kernel_rfl
theorem Zn4:tyOk Tryz.prog 5=true:=by kernel_rfl
theorem Zla:Qby Tryz.prog 5=false:=by kernel_rfl
theorem Qy9:(Tryz.prog.info? 5).isSome=true:=by kernel_rfl
theorem Ze7:Qa0 Tryz.prog 5=some (1,1):=by kernel_rfl
theorem Q6x:Tryz.prog.cellsOf 5=1:=by kernel_rfl
theorem Ze8:Qa5 Tryz.prog 5=some (PV.int IntKind.u8 0):=by kernel_rfl
theorem Zlb:Tryz.prog.underlying 5=some (.int .u8):=by kernel_rfl
theorem Zn5:tyOk Tryz.prog 9=true:=by kernel_rfl
theorem Zlc:Qby Tryz.prog 9=false:=by kernel_rfl
theorem Qza:(Tryz.prog.info? 9).isSome=true:=by kernel_rfl
theorem Ze9:Qa0 Tryz.prog 9=some (1,16):=by kernel_rfl
theorem Q6y:Tryz.prog.cellsOf 9=1:=by kernel_rfl
theorem Zfa:Qa5 Tryz.prog 9=some (PV.str {data:={toList:=[]}}):=by kernel_rfl
theorem Zdv:Tryz.prog.underlying 9=some .string:=by kernel_rfl
theorem Zfb (s:ByteArray):Qba Tryz.prog 9 (.str s)=some (.int .i64 s.size):=by simp only [Qba,Zdv]
theorem Zld:tyOk Tryz.prog 22=true:=by kernel_rfl
theorem Zfc:Qby Tryz.prog 22=false:=by kernel_rfl
theorem Qv8:(Tryz.prog.info? 22).isSome=true:=by kernel_rfl
theorem Q6z:Qa0 Tryz.prog 22=some (1,24):=by kernel_rfl
theorem Qzb:Tryz.prog.cellsOf 22=1:=by kernel_rfl
theorem Q60:Qa5 Tryz.prog 22=some PV.nilS:=by kernel_rfl
theorem Q61:Qbx Tryz.prog 22=some 3:=by kernel_rfl
theorem Qhx:Tryz.prog.underlying 22=some (.slice 3):=by kernel_rfl
theorem Q62 (es:List PV):Qba Tryz.prog 22 (.slc es)=some (.int .i64 es.length):=by simp only [Qba,Qhx]
theorem Q63:Qba Tryz.prog 22 .nilS=some (.int .i64 0):=by simp only [Qba,Qhx]
theorem Q64 (b e o n:Nat):Qba Tryz.prog 22 (.bs b e o n)=some (.int .i64 n):=by simp only [Qba,Qhx]
theorem Zle:tyOk Tryz.prog 24=true:=by kernel_rfl
theorem Zfd:Qby Tryz.prog 24=true:=by kernel_rfl
theorem Qv9:(Tryz.prog.info? 24).isSome=true:=by kernel_rfl
theorem Q65:Qa0 Tryz.prog 24=some (6,96):=by kernel_rfl
theorem Qzc:Tryz.prog.cellsOf 24=6:=by kernel_rfl
theorem Q66:Qa5 Tryz.prog 24=some (PV.agg [PV.int IntKind.i64 0,PV.int IntKind.i64 0,PV.int IntKind.i64 0,PV.nilS,PV.nilS,PV.nilS]):=by kernel_rfl
theorem Qzd:buildable Tryz.prog 24=true:=by kernel_rfl
theorem Zfe:Qbb Tryz.prog 24 0=some (0,3,1):=by kernel_rfl
theorem Zff:Qae Tryz.prog 24 0=some (0,1):=by kernel_rfl
theorem Zfg:Qbb Tryz.prog 24 1=some (1,3,1):=by kernel_rfl
theorem Zfh:Qae Tryz.prog 24 1=some (1,1):=by kernel_rfl
theorem Zfi:Qbb Tryz.prog 24 2=some (2,3,1):=by kernel_rfl
theorem Zfj:Qae Tryz.prog 24 2=some (2,1):=by kernel_rfl
theorem Zfk:Qbb Tryz.prog 24 3=some (3,22,1):=by kernel_rfl
theorem Zfl:Qae Tryz.prog 24 3=some (3,1):=by kernel_rfl
theorem Zfm:Qbb Tryz.prog 24 4=some (4,22,1):=by kernel_rfl
theorem Zfn:Qae Tryz.prog 24 4=some (4,1):=by kernel_rfl
theorem Zfo:Qbb Tryz.prog 24 5=some (5,22,1):=by kernel_rfl
theorem Zfp:Qae Tryz.prog 24 5=some (5,1):=by kernel_rfl
theorem Zlf:tyOk Tryz.prog 27=true:=by kernel_rfl
theorem Zfq:Qby Tryz.prog 27=false:=by kernel_rfl
theorem Qwa:(Tryz.prog.info? 27).isSome=true:=by kernel_rfl
theorem Q67:Qa0 Tryz.prog 27=some (1,24):=by kernel_rfl
theorem Qze:Tryz.prog.cellsOf 27=1:=by kernel_rfl
theorem Q68:Qa5 Tryz.prog 27=some PV.nilS:=by kernel_rfl
theorem Q69:Qbx Tryz.prog 27=some 24:=by kernel_rfl
theorem Qhy:Tryz.prog.underlying 27=some (.slice 24):=by kernel_rfl
theorem Q7a (es:List PV):Qba Tryz.prog 27 (.slc es)=some (.int .i64 es.length):=by simp only [Qba,Qhy]
theorem Q7b:Qba Tryz.prog 27 .nilS=some (.int .i64 0):=by simp only [Qba,Qhy]
theorem Q7c (b e o n:Nat):Qba Tryz.prog 27 (.bs b e o n)=some (.int .i64 n):=by simp only [Qba,Qhy]
theorem Zlg:tyOk Tryz.prog 31=true:=by kernel_rfl
theorem Zfr:Qby Tryz.prog 31=true:=by kernel_rfl
theorem Qwb:(Tryz.prog.info? 31).isSome=true:=by kernel_rfl
theorem Q7d:Qa0 Tryz.prog 31=some (2,24):=by kernel_rfl
theorem Qzf:Tryz.prog.cellsOf 31=2:=by kernel_rfl
theorem Q7e:Qa5 Tryz.prog 31=some (PV.agg [PV.bool Bool.false,PV.str {data:={toList:=[]}}]):=by kernel_rfl
theorem Qzg:buildable Tryz.prog 31=true:=by kernel_rfl
theorem Zfs:Qbb Tryz.prog 31 0=some (0,4,1):=by kernel_rfl
theorem Zft:Qae Tryz.prog 31 0=some (0,1):=by kernel_rfl
theorem Zfu:Qbb Tryz.prog 31 1=some (1,9,1):=by kernel_rfl
theorem Zfv:Qae Tryz.prog 31 1=some (1,1):=by kernel_rfl
theorem Zfw:Qc8 Tryz.prog 31=some [0,2]:=by kernel_rfl
theorem Zlh:tyOk Tryz.prog 33=true:=by kernel_rfl
theorem Zfx:Qby Tryz.prog 33=true:=by kernel_rfl
theorem Qwc:(Tryz.prog.info? 33).isSome=true:=by kernel_rfl
theorem Q7f:Qa0 Tryz.prog 33=some (8,96):=by kernel_rfl
theorem Qzh:Tryz.prog.cellsOf 33=8:=by kernel_rfl
theorem Q7g:Qa5 Tryz.prog 33=some (PV.agg [PV.bool Bool.false,PV.str {data:={toList:=[]}},PV.bool Bool.false,PV.str {data:={toList:=[]}},PV.bool Bool.false,PV.str {data:={toList:=[]}},PV.bool Bool.false,PV.str {data:={toList:=[]}}]):=by kernel_rfl
theorem Qzi:buildable Tryz.prog 33=true:=by kernel_rfl
theorem Zfy:Qbb Tryz.prog 33 0=some (0,31,2):=by kernel_rfl
theorem Zfz:Qae Tryz.prog 33 0=some (0,2):=by kernel_rfl
theorem Zf0:Qbb Tryz.prog 33 1=some (2,31,2):=by kernel_rfl
theorem Zf1:Qae Tryz.prog 33 1=some (2,2):=by kernel_rfl
theorem Zf2:Qbb Tryz.prog 33 2=some (4,31,2):=by kernel_rfl
theorem Zf3:Qae Tryz.prog 33 2=some (4,2):=by kernel_rfl
theorem Zf4:Qbb Tryz.prog 33 3=some (6,31,2):=by kernel_rfl
theorem Zf5:Qae Tryz.prog 33 3=some (6,2):=by kernel_rfl
theorem Zf6:Qc8 Tryz.prog 33=some [0,2,0,2,0,2,0,2]:=by kernel_rfl
theorem Zli:tyOk Tryz.prog 34=true:=by kernel_rfl
theorem Zf7:Qby Tryz.prog 34=false:=by kernel_rfl
theorem Qwd:(Tryz.prog.info? 34).isSome=true:=by kernel_rfl
theorem Q7h:Qa0 Tryz.prog 34=some (1,8):=by kernel_rfl
theorem Qzj:Tryz.prog.cellsOf 34=1:=by kernel_rfl
theorem Q7i:Qa5 Tryz.prog 34=some (PV.int IntKind.i64 0):=by kernel_rfl
theorem Zf8:Tryz.prog.underlying 34=some (.int .i64):=by kernel_rfl
theorem Zlj:tyOk Tryz.prog 38=true:=by kernel_rfl
theorem Zf9:Qby Tryz.prog 38=true:=by kernel_rfl
theorem Qwe:(Tryz.prog.info? 38).isSome=true:=by kernel_rfl
theorem Q7j:Qa0 Tryz.prog 38=some (3,24):=by kernel_rfl
theorem Qzk:Tryz.prog.cellsOf 38=3:=by kernel_rfl
theorem Q7k:Qa5 Tryz.prog 38=some (PV.agg [PV.int IntKind.i64 0,PV.int IntKind.i64 0,PV.int IntKind.i64 0]):=by kernel_rfl
theorem Qzl:buildable Tryz.prog 38=true:=by kernel_rfl
theorem Zga:Qbb Tryz.prog 38 0=some (0,3,1):=by kernel_rfl
theorem Zgb:Qae Tryz.prog 38 0=some (0,1):=by kernel_rfl
theorem Zgc:Qbb Tryz.prog 38 1=some (1,3,1):=by kernel_rfl
theorem Zgd:Qae Tryz.prog 38 1=some (1,1):=by kernel_rfl
theorem Zge:Qbb Tryz.prog 38 2=some (2,3,1):=by kernel_rfl
theorem Zgf:Qae Tryz.prog 38 2=some (2,1):=by kernel_rfl
theorem Zgg:Qc8 Tryz.prog 38=some [1,1,1]:=by kernel_rfl
theorem Zlk:tyOk Tryz.prog 42=true:=by kernel_rfl
theorem Zgh:Qby Tryz.prog 42=false:=by kernel_rfl
theorem Qwf:(Tryz.prog.info? 42).isSome=true:=by kernel_rfl
theorem Q7l:Qa0 Tryz.prog 42=some (1,24):=by kernel_rfl
theorem Qzm:Tryz.prog.cellsOf 42=1:=by kernel_rfl
theorem Q7m:Qa5 Tryz.prog 42=some PV.nilS:=by kernel_rfl
theorem Q7n:Qbx Tryz.prog 42=some 44:=by kernel_rfl
theorem Qhz:Tryz.prog.underlying 42=some (.slice 44):=by kernel_rfl
theorem Q7o (es:List PV):Qba Tryz.prog 42 (.slc es)=some (.int .i64 es.length):=by simp only [Qba,Qhz]
theorem Q7p:Qba Tryz.prog 42 .nilS=some (.int .i64 0):=by simp only [Qba,Qhz]
theorem Q7q (b e o n:Nat):Qba Tryz.prog 42 (.bs b e o n)=some (.int .i64 n):=by simp only [Qba,Qhz]
theorem Zll:tyOk Tryz.prog 44=true:=by kernel_rfl
theorem Zgi:Qby Tryz.prog 44=true:=by kernel_rfl
theorem Qwg:(Tryz.prog.info? 44).isSome=true:=by kernel_rfl
theorem Q7r:Qa0 Tryz.prog 44=some (2,32):=by kernel_rfl
theorem Qzn:Tryz.prog.cellsOf 44=2:=by kernel_rfl
theorem Q7s:Qa5 Tryz.prog 44=some (PV.agg [PV.bool Bool.false,PV.nilS]):=by kernel_rfl
theorem Qzo:buildable Tryz.prog 44=true:=by kernel_rfl
theorem Zgj:Qbb Tryz.prog 44 0=some (0,4,1):=by kernel_rfl
theorem Zgk:Qae Tryz.prog 44 0=some (0,1):=by kernel_rfl
theorem Zgl:Qbb Tryz.prog 44 1=some (1,22,1):=by kernel_rfl
theorem Zgm:Qae Tryz.prog 44 1=some (1,1):=by kernel_rfl
theorem Zlm:tyOk Tryz.prog 46=true:=by kernel_rfl
theorem Zgn:Qby Tryz.prog 46=true:=by kernel_rfl
theorem Qwh:(Tryz.prog.info? 46).isSome=true:=by kernel_rfl
theorem Q7t:Qa0 Tryz.prog 46=some (3,56):=by kernel_rfl
theorem Qzp:Tryz.prog.cellsOf 46=3:=by kernel_rfl
theorem Q7u:Qa5 Tryz.prog 46=some (PV.agg [PV.nilS,PV.bool Bool.false,PV.nilS]):=by kernel_rfl
theorem Qzq:buildable Tryz.prog 46=true:=by kernel_rfl
theorem Zgo:Qbb Tryz.prog 46 0=some (0,42,1):=by kernel_rfl
theorem Zgp:Qae Tryz.prog 46 0=some (0,1):=by kernel_rfl
theorem Zgq:Qbb Tryz.prog 46 1=some (1,44,2):=by kernel_rfl
theorem Zgr:Qae Tryz.prog 46 1=some (1,2):=by kernel_rfl
theorem Zln:tyOk Tryz.prog 67=true:=by kernel_rfl
theorem Zgs:Qby Tryz.prog 67=false:=by kernel_rfl
theorem Qwi:(Tryz.prog.info? 67).isSome=true:=by kernel_rfl
theorem Q7v:Qa0 Tryz.prog 67=some (1,8):=by kernel_rfl
theorem Qzr:Tryz.prog.cellsOf 67=1:=by kernel_rfl
theorem Q7w:Qa5 Tryz.prog 67=some PV.nilF:=by kernel_rfl
theorem Zlo:tyOk Tryz.prog 79=true:=by kernel_rfl
theorem Zgt:Qby Tryz.prog 79=true:=by kernel_rfl
theorem Qwj:(Tryz.prog.info? 79).isSome=true:=by kernel_rfl
theorem Q7x:Qa0 Tryz.prog 79=some (3,72):=by kernel_rfl
theorem Qzs:Tryz.prog.cellsOf 79=3:=by kernel_rfl
theorem Q7y:Qa5 Tryz.prog 79=some (PV.agg [PV.nilS,PV.nilS,PV.nilS]):=by kernel_rfl
theorem Zgu:Qfv Tryz.prog 79=some (3,22):=by kernel_rfl
theorem Qzt:buildable Tryz.prog 79=true:=by kernel_rfl
theorem Zgv:Qae Tryz.prog 79 0=some (0,1):=by kernel_rfl
theorem Zgw:Qae Tryz.prog 79 1=some (1,1):=by kernel_rfl
theorem Zgx:Qae Tryz.prog 79 2=some (2,1):=by kernel_rfl
theorem Zgy:Qae Tryz.prog 79 3=some (3,1):=by kernel_rfl
theorem Zgz:Qae Tryz.prog 79 4=some (4,1):=by kernel_rfl
theorem Zg0:Qae Tryz.prog 79 5=some (5,1):=by kernel_rfl
theorem Zg1:Qae Tryz.prog 79 6=some (6,1):=by kernel_rfl
theorem Zg2:Qae Tryz.prog 79 7=some (7,1):=by kernel_rfl
theorem Zg3:Qae Tryz.prog 79 8=some (8,1):=by kernel_rfl
theorem Zg4:Qae Tryz.prog 79 9=some (9,1):=by kernel_rfl
theorem Q7z:Qae Tryz.prog 79 10=some (10,1):=by kernel_rfl
theorem Q70:Qae Tryz.prog 79 11=some (11,1):=by kernel_rfl
theorem Q71:Qae Tryz.prog 79 12=some (12,1):=by kernel_rfl
theorem Q72:Qae Tryz.prog 79 13=some (13,1):=by kernel_rfl
theorem Q73:Qae Tryz.prog 79 14=some (14,1):=by kernel_rfl
theorem Q74:Qae Tryz.prog 79 15=some (15,1):=by kernel_rfl
theorem Q75:Qae Tryz.prog 79 16=some (16,1):=by kernel_rfl
theorem Q76:Qae Tryz.prog 79 17=some (17,1):=by kernel_rfl
theorem Q77:Qae Tryz.prog 79 18=some (18,1):=by kernel_rfl
theorem Q78:Qae Tryz.prog 79 19=some (19,1):=by kernel_rfl
theorem Zlp:tyOk Tryz.prog 85=true:=by kernel_rfl
theorem Zg5:Qby Tryz.prog 85=false:=by kernel_rfl
theorem Qwk:(Tryz.prog.info? 85).isSome=true:=by kernel_rfl
theorem Q79:Qa0 Tryz.prog 85=some (1,24):=by kernel_rfl
theorem Qzu:Tryz.prog.cellsOf 85=1:=by kernel_rfl
theorem Q8a:Qa5 Tryz.prog 85=some PV.nilS:=by kernel_rfl
theorem Q8b:Qbx Tryz.prog 85=some 22:=by kernel_rfl
theorem Qh0:Tryz.prog.underlying 85=some (.slice 22):=by kernel_rfl
theorem Q8c (es:List PV):Qba Tryz.prog 85 (.slc es)=some (.int .i64 es.length):=by simp only [Qba,Qh0]
theorem Q8d:Qba Tryz.prog 85 .nilS=some (.int .i64 0):=by simp only [Qba,Qh0]
theorem Q8e (b e o n:Nat):Qba Tryz.prog 85 (.bs b e o n)=some (.int .i64 n):=by simp only [Qba,Qh0]
theorem Zlq:tyOk Tryz.prog 92=true:=by kernel_rfl
theorem Zg6:Qby Tryz.prog 92=true:=by kernel_rfl
theorem Qwl:(Tryz.prog.info? 92).isSome=true:=by kernel_rfl
theorem Q8f:Qa0 Tryz.prog 92=some (3,24):=by kernel_rfl
theorem Qzv:Tryz.prog.cellsOf 92=3:=by kernel_rfl
theorem Q8g:Qa5 Tryz.prog 92=some (PV.agg [PV.int IntKind.i64 0,PV.int IntKind.i64 0,PV.int IntKind.i64 0]):=by kernel_rfl
theorem Zg7:Qfv Tryz.prog 92=some (3,3):=by kernel_rfl
theorem Qzw:buildable Tryz.prog 92=true:=by kernel_rfl
theorem Zg8:Qae Tryz.prog 92 0=some (0,1):=by kernel_rfl
theorem Zg9:Qae Tryz.prog 92 1=some (1,1):=by kernel_rfl
theorem Zha:Qae Tryz.prog 92 2=some (2,1):=by kernel_rfl
theorem Zhb:Qae Tryz.prog 92 3=some (3,1):=by kernel_rfl
theorem Zhc:Qae Tryz.prog 92 4=some (4,1):=by kernel_rfl
theorem Zhd:Qae Tryz.prog 92 5=some (5,1):=by kernel_rfl
theorem Zhe:Qae Tryz.prog 92 6=some (6,1):=by kernel_rfl
theorem Zhf:Qae Tryz.prog 92 7=some (7,1):=by kernel_rfl
theorem Zhg:Qae Tryz.prog 92 8=some (8,1):=by kernel_rfl
theorem Zhh:Qae Tryz.prog 92 9=some (9,1):=by kernel_rfl
theorem Q8h:Qae Tryz.prog 92 10=some (10,1):=by kernel_rfl
theorem Q8i:Qae Tryz.prog 92 11=some (11,1):=by kernel_rfl
theorem Q8j:Qae Tryz.prog 92 12=some (12,1):=by kernel_rfl
theorem Q8k:Qae Tryz.prog 92 13=some (13,1):=by kernel_rfl
theorem Q8l:Qae Tryz.prog 92 14=some (14,1):=by kernel_rfl
theorem Q8m:Qae Tryz.prog 92 15=some (15,1):=by kernel_rfl
theorem Q8n:Qae Tryz.prog 92 16=some (16,1):=by kernel_rfl
theorem Q8o:Qae Tryz.prog 92 17=some (17,1):=by kernel_rfl
theorem Q8p:Qae Tryz.prog 92 18=some (18,1):=by kernel_rfl
theorem Q8q:Qae Tryz.prog 92 19=some (19,1):=by kernel_rfl
theorem Zlr:tyOk Tryz.prog 93=true:=by kernel_rfl
theorem Zhi:Qby Tryz.prog 93=true:=by kernel_rfl
theorem Qwm:(Tryz.prog.info? 93).isSome=true:=by kernel_rfl
theorem Q8r:Qa0 Tryz.prog 93=some (6,72):=by kernel_rfl
theorem Qzx:Tryz.prog.cellsOf 93=6:=by kernel_rfl
theorem Q8s:Qa5 Tryz.prog 93=some (PV.agg [PV.bool Bool.false,PV.str {data:={toList:=[]}},PV.bool Bool.false,PV.str {data:={toList:=[]}},PV.bool Bool.false,PV.str {data:={toList:=[]}}]):=by kernel_rfl
theorem Zhj:Qfv Tryz.prog 93=some (3,31):=by kernel_rfl
theorem Qzy:buildable Tryz.prog 93=true:=by kernel_rfl
theorem Zhk:Qae Tryz.prog 93 0=some (0,2):=by kernel_rfl
theorem Zhl:Qae Tryz.prog 93 1=some (2,2):=by kernel_rfl
theorem Zhm:Qae Tryz.prog 93 2=some (4,2):=by kernel_rfl
theorem Zhn:Qae Tryz.prog 93 3=some (6,2):=by kernel_rfl
theorem Zho:Qae Tryz.prog 93 4=some (8,2):=by kernel_rfl
theorem Zhp:Qae Tryz.prog 93 5=some (10,2):=by kernel_rfl
theorem Zhq:Qae Tryz.prog 93 6=some (12,2):=by kernel_rfl
theorem Zhr:Qae Tryz.prog 93 7=some (14,2):=by kernel_rfl
theorem Zhs:Qae Tryz.prog 93 8=some (16,2):=by kernel_rfl
theorem Zht:Qae Tryz.prog 93 9=some (18,2):=by kernel_rfl
theorem Q8t:Qae Tryz.prog 93 10=some (20,2):=by kernel_rfl
theorem Q8u:Qae Tryz.prog 93 11=some (22,2):=by kernel_rfl
theorem Q8v:Qae Tryz.prog 93 12=some (24,2):=by kernel_rfl
theorem Q8w:Qae Tryz.prog 93 13=some (26,2):=by kernel_rfl
theorem Q8x:Qae Tryz.prog 93 14=some (28,2):=by kernel_rfl
theorem Q8y:Qae Tryz.prog 93 15=some (30,2):=by kernel_rfl
theorem Q8z:Qae Tryz.prog 93 16=some (32,2):=by kernel_rfl
theorem Q80:Qae Tryz.prog 93 17=some (34,2):=by kernel_rfl
theorem Q81:Qae Tryz.prog 93 18=some (36,2):=by kernel_rfl
theorem Q82:Qae Tryz.prog 93 19=some (38,2):=by kernel_rfl
theorem Zls:tyOk Tryz.prog 99=true:=by kernel_rfl
theorem Zhu:Qby Tryz.prog 99=false:=by kernel_rfl
theorem Qwn:(Tryz.prog.info? 99).isSome=true:=by kernel_rfl
theorem Q83:Qa0 Tryz.prog 99=some (1,8):=by kernel_rfl
theorem Qzz:Tryz.prog.cellsOf 99=1:=by kernel_rfl
theorem Q84:Qa5 Tryz.prog 99=some PV.nilF:=by kernel_rfl
theorem Zhv:tyOk Tryz.prog 111=true:=by kernel_rfl
theorem Q85:Qby Tryz.prog 111=false:=by kernel_rfl
theorem Qrx:(Tryz.prog.info? 111).isSome=true:=by kernel_rfl
theorem Qz0:Qa0 Tryz.prog 111=some (1,24):=by kernel_rfl
theorem Qwo:Tryz.prog.cellsOf 111=1:=by kernel_rfl
theorem Qz1:Qa5 Tryz.prog 111=some PV.nilS:=by kernel_rfl
theorem Qz2:Qbx Tryz.prog 111=some 31:=by kernel_rfl
theorem Qgl:Tryz.prog.underlying 111=some (.slice 31):=by kernel_rfl
theorem Qz3 (es:List PV):Qba Tryz.prog 111 (.slc es)=some (.int .i64 es.length):=by simp only [Qba,Qgl]
theorem Qz4:Qba Tryz.prog 111 .nilS=some (.int .i64 0):=by simp only [Qba,Qgl]
theorem Qz5 (b e o n:Nat):Qba Tryz.prog 111 (.bs b e o n)=some (.int .i64 n):=by simp only [Qba,Qgl]
theorem Zhw:tyOk Tryz.prog 112=true:=by kernel_rfl
theorem Q86:Qby Tryz.prog 112=false:=by kernel_rfl
theorem Qry:(Tryz.prog.info? 112).isSome=true:=by kernel_rfl
theorem Qz6:Qa0 Tryz.prog 112=some (1,24):=by kernel_rfl
theorem Qwp:Tryz.prog.cellsOf 112=1:=by kernel_rfl
theorem Qz7:Qa5 Tryz.prog 112=some PV.nilS:=by kernel_rfl
theorem Qz8:Qbx Tryz.prog 112=some 31:=by kernel_rfl
theorem Qgm:Tryz.prog.underlying 112=some (.slice 31):=by kernel_rfl
theorem Qz9 (es:List PV):Qba Tryz.prog 112 (.slc es)=some (.int .i64 es.length):=by simp only [Qba,Qgm]
theorem Q0a:Qba Tryz.prog 112 .nilS=some (.int .i64 0):=by simp only [Qba,Qgm]
theorem Q0b (b e o n:Nat):Qba Tryz.prog 112 (.bs b e o n)=some (.int .i64 n):=by simp only [Qba,Qgm]
theorem Zhx:tyOk Tryz.prog 113=true:=by kernel_rfl
theorem Q87:Qby Tryz.prog 113=true:=by kernel_rfl
theorem Qrz:(Tryz.prog.info? 113).isSome=true:=by kernel_rfl
theorem Q0c:Qa0 Tryz.prog 113=some (3,72):=by kernel_rfl
theorem Qwq:Tryz.prog.cellsOf 113=3:=by kernel_rfl
theorem Q0d:Qa5 Tryz.prog 113=some (PV.agg [PV.nilS,PV.nilS,PV.nilS]):=by kernel_rfl
theorem Q88:Qfv Tryz.prog 113=some (3,112):=by kernel_rfl
theorem Qwr:buildable Tryz.prog 113=true:=by kernel_rfl
theorem Q89:Qae Tryz.prog 113 0=some (0,1):=by kernel_rfl
theorem Q9a:Qae Tryz.prog 113 1=some (1,1):=by kernel_rfl
theorem Q9b:Qae Tryz.prog 113 2=some (2,1):=by kernel_rfl
theorem Q9c:Qae Tryz.prog 113 3=some (3,1):=by kernel_rfl
theorem Q9d:Qae Tryz.prog 113 4=some (4,1):=by kernel_rfl
theorem Q9e:Qae Tryz.prog 113 5=some (5,1):=by kernel_rfl
theorem Q9f:Qae Tryz.prog 113 6=some (6,1):=by kernel_rfl
theorem Q9g:Qae Tryz.prog 113 7=some (7,1):=by kernel_rfl
theorem Q9h:Qae Tryz.prog 113 8=some (8,1):=by kernel_rfl
theorem Q9i:Qae Tryz.prog 113 9=some (9,1):=by kernel_rfl
theorem Q0e:Qae Tryz.prog 113 10=some (10,1):=by kernel_rfl
theorem Q0f:Qae Tryz.prog 113 11=some (11,1):=by kernel_rfl
theorem Q0g:Qae Tryz.prog 113 12=some (12,1):=by kernel_rfl
theorem Q0h:Qae Tryz.prog 113 13=some (13,1):=by kernel_rfl
theorem Q0i:Qae Tryz.prog 113 14=some (14,1):=by kernel_rfl
theorem Q0j:Qae Tryz.prog 113 15=some (15,1):=by kernel_rfl
theorem Q0k:Qae Tryz.prog 113 16=some (16,1):=by kernel_rfl
theorem Q0l:Qae Tryz.prog 113 17=some (17,1):=by kernel_rfl
theorem Q0m:Qae Tryz.prog 113 18=some (18,1):=by kernel_rfl
theorem Q0n:Qae Tryz.prog 113 19=some (19,1):=by kernel_rfl
theorem Zhy:tyOk Tryz.prog 115=true:=by kernel_rfl
theorem Q9j:Qby Tryz.prog 115=false:=by kernel_rfl
theorem Qr0:(Tryz.prog.info? 115).isSome=true:=by kernel_rfl
theorem Q0o:Qa0 Tryz.prog 115=some (1,24):=by kernel_rfl
theorem Qws:Tryz.prog.cellsOf 115=1:=by kernel_rfl
theorem Q0p:Qa5 Tryz.prog 115=some PV.nilS:=by kernel_rfl
theorem Q0q:Qbx Tryz.prog 115=some 116:=by kernel_rfl
theorem Qgn:Tryz.prog.underlying 115=some (.slice 116):=by kernel_rfl
theorem Q0r (es:List PV):Qba Tryz.prog 115 (.slc es)=some (.int .i64 es.length):=by simp only [Qba,Qgn]
theorem Q0s:Qba Tryz.prog 115 .nilS=some (.int .i64 0):=by simp only [Qba,Qgn]
theorem Q0t (b e o n:Nat):Qba Tryz.prog 115 (.bs b e o n)=some (.int .i64 n):=by simp only [Qba,Qgn]
theorem Zhz:tyOk Tryz.prog 116=true:=by kernel_rfl
theorem Q9k:Qby Tryz.prog 116=false:=by kernel_rfl
theorem Qr1:(Tryz.prog.info? 116).isSome=true:=by kernel_rfl
theorem Q0u:Qa0 Tryz.prog 116=some (1,24):=by kernel_rfl
theorem Qwt:Tryz.prog.cellsOf 116=1:=by kernel_rfl
theorem Q0v:Qa5 Tryz.prog 116=some PV.nilS:=by kernel_rfl
theorem Q0w:Qbx Tryz.prog 116=some 44:=by kernel_rfl
theorem Qgo:Tryz.prog.underlying 116=some (.slice 44):=by kernel_rfl
theorem Q0x (es:List PV):Qba Tryz.prog 116 (.slc es)=some (.int .i64 es.length):=by simp only [Qba,Qgo]
theorem Q0y:Qba Tryz.prog 116 .nilS=some (.int .i64 0):=by simp only [Qba,Qgo]
theorem Q0z (b e o n:Nat):Qba Tryz.prog 116 (.bs b e o n)=some (.int .i64 n):=by simp only [Qba,Qgo]
theorem Zh0:tyOk Tryz.prog 120=true:=by kernel_rfl
theorem Q9l:Qby Tryz.prog 120=false:=by kernel_rfl
theorem Qr2:(Tryz.prog.info? 120).isSome=true:=by kernel_rfl
theorem Q00:Qa0 Tryz.prog 120=some (1,24):=by kernel_rfl
theorem Qwu:Tryz.prog.cellsOf 120=1:=by kernel_rfl
theorem Q01:Qa5 Tryz.prog 120=some PV.nilS:=by kernel_rfl
theorem Q02:Qbx Tryz.prog 120=some 27:=by kernel_rfl
theorem Qgp:Tryz.prog.underlying 120=some (.slice 27):=by kernel_rfl
theorem Q03 (es:List PV):Qba Tryz.prog 120 (.slc es)=some (.int .i64 es.length):=by simp only [Qba,Qgp]
theorem Q04:Qba Tryz.prog 120 .nilS=some (.int .i64 0):=by simp only [Qba,Qgp]
theorem Q05 (b e o n:Nat):Qba Tryz.prog 120 (.bs b e o n)=some (.int .i64 n):=by simp only [Qba,Qgp]
theorem Zh1:tyOk Tryz.prog 122=true:=by kernel_rfl
theorem Q9m:Qby Tryz.prog 122=false:=by kernel_rfl
theorem Qr3:(Tryz.prog.info? 122).isSome=true:=by kernel_rfl
theorem Q06:Qa0 Tryz.prog 122=some (1,8):=by kernel_rfl
theorem Qwv:Tryz.prog.cellsOf 122=1:=by kernel_rfl
theorem Q07:Qa5 Tryz.prog 122=some (PV.int IntKind.u64 0):=by kernel_rfl
theorem Q9n:Tryz.prog.underlying 122=some (.int .u64):=by kernel_rfl
theorem Zh2:tyOk Tryz.prog 125=true:=by kernel_rfl
theorem Q9o:Qby Tryz.prog 125=false:=by kernel_rfl
theorem Qr4:(Tryz.prog.info? 125).isSome=true:=by kernel_rfl
theorem Q08:Qa0 Tryz.prog 125=some (1,24):=by kernel_rfl
theorem Qww:Tryz.prog.cellsOf 125=1:=by kernel_rfl
theorem Q09:Qa5 Tryz.prog 125=some PV.nilS:=by kernel_rfl
theorem Q1a:Qbx Tryz.prog 125=some 122:=by kernel_rfl
theorem Qgq:Tryz.prog.underlying 125=some (.slice 122):=by kernel_rfl
theorem Q1b (es:List PV):Qba Tryz.prog 125 (.slc es)=some (.int .i64 es.length):=by simp only [Qba,Qgq]
theorem Q1c:Qba Tryz.prog 125 .nilS=some (.int .i64 0):=by simp only [Qba,Qgq]
theorem Q1d (b e o n:Nat):Qba Tryz.prog 125 (.bs b e o n)=some (.int .i64 n):=by simp only [Qba,Qgq]
theorem Zh3:tyOk Tryz.prog 128=true:=by kernel_rfl
theorem Q9p:Qby Tryz.prog 128=true:=by kernel_rfl
theorem Qr5:(Tryz.prog.info? 128).isSome=true:=by kernel_rfl
theorem Q1e:Qa0 Tryz.prog 128=some (2,32):=by kernel_rfl
theorem Qwx:Tryz.prog.cellsOf 128=2:=by kernel_rfl
theorem Q1f:Qa5 Tryz.prog 128=some (PV.agg [PV.bool Bool.false,PV.nilS]):=by kernel_rfl
theorem Qwy:buildable Tryz.prog 128=true:=by kernel_rfl
theorem Q9q:Qbb Tryz.prog 128 0=some (0,4,1):=by kernel_rfl
theorem Q9r:Qae Tryz.prog 128 0=some (0,1):=by kernel_rfl
theorem Q9s:Qbb Tryz.prog 128 1=some (1,125,1):=by kernel_rfl
theorem Q9t:Qae Tryz.prog 128 1=some (1,1):=by kernel_rfl
theorem Zh4:tyOk Tryz.prog 130=true:=by kernel_rfl
theorem Q9u:Qby Tryz.prog 130=true:=by kernel_rfl
theorem Qr6:(Tryz.prog.info? 130).isSome=true:=by kernel_rfl
theorem Q1g:Qa0 Tryz.prog 130=some (6,48):=by kernel_rfl
theorem Qwz:Tryz.prog.cellsOf 130=6:=by kernel_rfl
theorem Q1h:Qa5 Tryz.prog 130=some (PV.agg [PV.int IntKind.i64 0,PV.int IntKind.i64 0,PV.int IntKind.i64 0,PV.int IntKind.i64 0,PV.int IntKind.i64 0,PV.int IntKind.i64 0]):=by kernel_rfl
theorem Q9v:Qfv Tryz.prog 130=some (6,3):=by kernel_rfl
theorem Qw0:buildable Tryz.prog 130=true:=by kernel_rfl
theorem Q9w:Qae Tryz.prog 130 0=some (0,1):=by kernel_rfl
theorem Q9x:Qae Tryz.prog 130 1=some (1,1):=by kernel_rfl
theorem Q9y:Qae Tryz.prog 130 2=some (2,1):=by kernel_rfl
theorem Q9z:Qae Tryz.prog 130 3=some (3,1):=by kernel_rfl
theorem Q90:Qae Tryz.prog 130 4=some (4,1):=by kernel_rfl
theorem Q91:Qae Tryz.prog 130 5=some (5,1):=by kernel_rfl
theorem Q92:Qae Tryz.prog 130 6=some (6,1):=by kernel_rfl
theorem Q93:Qae Tryz.prog 130 7=some (7,1):=by kernel_rfl
theorem Q94:Qae Tryz.prog 130 8=some (8,1):=by kernel_rfl
theorem Q95:Qae Tryz.prog 130 9=some (9,1):=by kernel_rfl
theorem Q1i:Qae Tryz.prog 130 10=some (10,1):=by kernel_rfl
theorem Q1j:Qae Tryz.prog 130 11=some (11,1):=by kernel_rfl
theorem Q1k:Qae Tryz.prog 130 12=some (12,1):=by kernel_rfl
theorem Q1l:Qae Tryz.prog 130 13=some (13,1):=by kernel_rfl
theorem Q1m:Qae Tryz.prog 130 14=some (14,1):=by kernel_rfl
theorem Q1n:Qae Tryz.prog 130 15=some (15,1):=by kernel_rfl
theorem Q1o:Qae Tryz.prog 130 16=some (16,1):=by kernel_rfl
theorem Q1p:Qae Tryz.prog 130 17=some (17,1):=by kernel_rfl
theorem Q1q:Qae Tryz.prog 130 18=some (18,1):=by kernel_rfl
theorem Q1r:Qae Tryz.prog 130 19=some (19,1):=by kernel_rfl
theorem Zh5:tyOk Tryz.prog 131=true:=by kernel_rfl
theorem Q96:Qby Tryz.prog 131=true:=by kernel_rfl
theorem Qr7:(Tryz.prog.info? 131).isSome=true:=by kernel_rfl
theorem Q1s:Qa0 Tryz.prog 131=some (36,288):=by kernel_rfl
theorem Qw1:Tryz.prog.cellsOf 131=36:=by kernel_rfl
theorem Q1t:Qa5 Tryz.prog 131=some (PV.agg [PV.int IntKind.i64 0,PV.int IntKind.i64 0,PV.int IntKind.i64 0,PV.int IntKind.i64 0,PV.int IntKind.i64 0,PV.int IntKind.i64 0,PV.int IntKind.i64 0,PV.int IntKind.i64 0,PV.int IntKind.i64 0,PV.int IntKind.i64 0,PV.int IntKind.i64 0,PV.int IntKind.i64 0,PV.int IntKind.i64 0,PV.int IntKind.i64 0,PV.int IntKind.i64 0,PV.int IntKind.i64 0,PV.int IntKind.i64 0,PV.int IntKind.i64 0,PV.int IntKind.i64 0,PV.int IntKind.i64 0,PV.int IntKind.i64 0,PV.int IntKind.i64 0,PV.int IntKind.i64 0,PV.int IntKind.i64 0,PV.int IntKind.i64 0,PV.int IntKind.i64 0,PV.int IntKind.i64 0,PV.int IntKind.i64 0,PV.int IntKind.i64 0,PV.int IntKind.i64 0,PV.int IntKind.i64 0,PV.int IntKind.i64 0,PV.int IntKind.i64 0,PV.int IntKind.i64 0,PV.int IntKind.i64 0,PV.int IntKind.i64 0]):=by kernel_rfl
theorem Q97:Qfv Tryz.prog 131=some (6,130):=by kernel_rfl
theorem Qw2:buildable Tryz.prog 131=true:=by kernel_rfl
theorem Q98:Qae Tryz.prog 131 0=some (0,6):=by kernel_rfl
theorem Q99:Qae Tryz.prog 131 1=some (6,6):=by kernel_rfl
theorem Zaa:Qae Tryz.prog 131 2=some (12,6):=by kernel_rfl
theorem Zab:Qae Tryz.prog 131 3=some (18,6):=by kernel_rfl
theorem Zac:Qae Tryz.prog 131 4=some (24,6):=by kernel_rfl
theorem Zad:Qae Tryz.prog 131 5=some (30,6):=by kernel_rfl
theorem Zae:Qae Tryz.prog 131 6=some (36,6):=by kernel_rfl
theorem Zaf:Qae Tryz.prog 131 7=some (42,6):=by kernel_rfl
theorem Zag:Qae Tryz.prog 131 8=some (48,6):=by kernel_rfl
theorem Zah:Qae Tryz.prog 131 9=some (54,6):=by kernel_rfl
theorem Q1u:Qae Tryz.prog 131 10=some (60,6):=by kernel_rfl
theorem Q1v:Qae Tryz.prog 131 11=some (66,6):=by kernel_rfl
theorem Q1w:Qae Tryz.prog 131 12=some (72,6):=by kernel_rfl
theorem Q1x:Qae Tryz.prog 131 13=some (78,6):=by kernel_rfl
theorem Q1y:Qae Tryz.prog 131 14=some (84,6):=by kernel_rfl
theorem Q1z:Qae Tryz.prog 131 15=some (90,6):=by kernel_rfl
theorem Q10:Qae Tryz.prog 131 16=some (96,6):=by kernel_rfl
theorem Q11:Qae Tryz.prog 131 17=some (102,6):=by kernel_rfl
theorem Q12:Qae Tryz.prog 131 18=some (108,6):=by kernel_rfl
theorem Q13:Qae Tryz.prog 131 19=some (114,6):=by kernel_rfl
theorem Zh6:tyOk Tryz.prog 141=true:=by kernel_rfl
theorem Zai:Qby Tryz.prog 141=false:=by kernel_rfl
theorem Qr8:(Tryz.prog.info? 141).isSome=true:=by kernel_rfl
theorem Q14:Qa0 Tryz.prog 141=some (1,8):=by kernel_rfl
theorem Qw3:Tryz.prog.cellsOf 141=1:=by kernel_rfl
theorem Q15:Qa5 Tryz.prog 141=some (PV.int IntKind.u64 0):=by kernel_rfl
theorem Zaj:Tryz.prog.underlying 141=some (.int .u64):=by kernel_rfl
theorem Zh7:tyOk Tryz.prog 149=true:=by kernel_rfl
theorem Zak:Qby Tryz.prog 149=false:=by kernel_rfl
theorem Qr9:(Tryz.prog.info? 149).isSome=true:=by kernel_rfl
theorem Q16:Qa0 Tryz.prog 149=some (1,24):=by kernel_rfl
theorem Qw4:Tryz.prog.cellsOf 149=1:=by kernel_rfl
theorem Q17:Qa5 Tryz.prog 149=some PV.nilS:=by kernel_rfl
theorem Q18:Qbx Tryz.prog 149=some 5:=by kernel_rfl
theorem Qgr:Tryz.prog.underlying 149=some (.slice 5):=by kernel_rfl
theorem Q19 (es:List PV):Qba Tryz.prog 149 (.slc es)=some (.int .i64 es.length):=by simp only [Qba,Qgr]
theorem Q2a:Qba Tryz.prog 149 .nilS=some (.int .i64 0):=by simp only [Qba,Qgr]
theorem Q2b (b e o n:Nat):Qba Tryz.prog 149 (.bs b e o n)=some (.int .i64 n):=by simp only [Qba,Qgr]
theorem Zh8:tyOk Tryz.prog 158=true:=by kernel_rfl
theorem Zal:Qby Tryz.prog 158=false:=by kernel_rfl
theorem Qsa:(Tryz.prog.info? 158).isSome=true:=by kernel_rfl
theorem Q2c:Qa0 Tryz.prog 158=some (1,8):=by kernel_rfl
theorem Qw5:Tryz.prog.cellsOf 158=1:=by kernel_rfl
theorem Zh9:tyOk Tryz.prog 159=true:=by kernel_rfl
theorem Zam:Qby Tryz.prog 159=true:=by kernel_rfl
theorem Qsb:(Tryz.prog.info? 159).isSome=true:=by kernel_rfl
theorem Q2d:Qa0 Tryz.prog 159=some (3,24):=by kernel_rfl
theorem Qw6:Tryz.prog.cellsOf 159=3:=by kernel_rfl
theorem Zan:Qfv Tryz.prog 159=some (3,158):=by kernel_rfl
theorem Qw7:buildable Tryz.prog 159=true:=by kernel_rfl
theorem Zao:Qae Tryz.prog 159 0=some (0,1):=by kernel_rfl
theorem Zap:Qae Tryz.prog 159 1=some (1,1):=by kernel_rfl
theorem Zaq:Qae Tryz.prog 159 2=some (2,1):=by kernel_rfl
theorem Zar:Qae Tryz.prog 159 3=some (3,1):=by kernel_rfl
theorem Zas:Qae Tryz.prog 159 4=some (4,1):=by kernel_rfl
theorem Zat:Qae Tryz.prog 159 5=some (5,1):=by kernel_rfl
theorem Zau:Qae Tryz.prog 159 6=some (6,1):=by kernel_rfl
theorem Zav:Qae Tryz.prog 159 7=some (7,1):=by kernel_rfl
theorem Zaw:Qae Tryz.prog 159 8=some (8,1):=by kernel_rfl
theorem Zax:Qae Tryz.prog 159 9=some (9,1):=by kernel_rfl
theorem Q2e:Qae Tryz.prog 159 10=some (10,1):=by kernel_rfl
theorem Q2f:Qae Tryz.prog 159 11=some (11,1):=by kernel_rfl
theorem Q2g:Qae Tryz.prog 159 12=some (12,1):=by kernel_rfl
theorem Q2h:Qae Tryz.prog 159 13=some (13,1):=by kernel_rfl
theorem Q2i:Qae Tryz.prog 159 14=some (14,1):=by kernel_rfl
theorem Q2j:Qae Tryz.prog 159 15=some (15,1):=by kernel_rfl
theorem Q2k:Qae Tryz.prog 159 16=some (16,1):=by kernel_rfl
theorem Q2l:Qae Tryz.prog 159 17=some (17,1):=by kernel_rfl
theorem Q2m:Qae Tryz.prog 159 18=some (18,1):=by kernel_rfl
theorem Q2n:Qae Tryz.prog 159 19=some (19,1):=by kernel_rfl
theorem Zia:tyOk Tryz.prog 188=true:=by kernel_rfl
theorem Zay:Qby Tryz.prog 188=true:=by kernel_rfl
theorem Qsc:(Tryz.prog.info? 188).isSome=true:=by kernel_rfl
theorem Q2o:Qa0 Tryz.prog 188=some (1,8):=by kernel_rfl
theorem Qw8:Tryz.prog.cellsOf 188=1:=by kernel_rfl
theorem Q2p:Qa5 Tryz.prog 188=some (PV.agg [PV.int IntKind.i64 0]):=by kernel_rfl
theorem Qw9:buildable Tryz.prog 188=true:=by kernel_rfl
theorem Zaz:Qbb Tryz.prog 188 0=some (0,34,1):=by kernel_rfl
theorem Za0:Qae Tryz.prog 188 0=some (0,1):=by kernel_rfl
theorem Za1:Qc8 Tryz.prog 188=some [1]:=by kernel_rfl
theorem Zib:tyOk Tryz.prog 190=true:=by kernel_rfl
theorem Za2:Qby Tryz.prog 190=true:=by kernel_rfl
theorem Qsd:(Tryz.prog.info? 190).isSome=true:=by kernel_rfl
theorem Q2q:Qa0 Tryz.prog 190=some (1,8):=by kernel_rfl
theorem Qxa:Tryz.prog.cellsOf 190=1:=by kernel_rfl
theorem Q2r:Qa5 Tryz.prog 190=some (PV.agg [PV.int IntKind.i64 0]):=by kernel_rfl
theorem Qxb:buildable Tryz.prog 190=true:=by kernel_rfl
theorem Za3:Qbb Tryz.prog 190 0=some (0,188,1):=by kernel_rfl
theorem Za4:Qae Tryz.prog 190 0=some (0,1):=by kernel_rfl
theorem Za5:Qc8 Tryz.prog 190=some [1]:=by kernel_rfl
theorem Zic:tyOk Tryz.prog 194=true:=by kernel_rfl
theorem Za6:Qby Tryz.prog 194=false:=by kernel_rfl
theorem Qse:(Tryz.prog.info? 194).isSome=true:=by kernel_rfl
theorem Q2s:Qa0 Tryz.prog 194=some (1,8):=by kernel_rfl
theorem Qxc:Tryz.prog.cellsOf 194=1:=by kernel_rfl
theorem Q2t:Qa5 Tryz.prog 194=some (PV.int IntKind.i64 0):=by kernel_rfl
theorem Za7:Tryz.prog.underlying 194=some (.int .i64):=by kernel_rfl
theorem Zid:tyOk Tryz.prog 203=true:=by kernel_rfl
theorem Za8:Qby Tryz.prog 203=false:=by kernel_rfl
theorem Qsf:(Tryz.prog.info? 203).isSome=true:=by kernel_rfl
theorem Q2u:Qa0 Tryz.prog 203=some (1,4):=by kernel_rfl
theorem Qxd:Tryz.prog.cellsOf 203=1:=by kernel_rfl
theorem Q2v:Qa5 Tryz.prog 203=some (PV.int IntKind.u32 0):=by kernel_rfl
theorem Za9:Tryz.prog.underlying 203=some (.int .u32):=by kernel_rfl
theorem Zie:tyOk Tryz.prog 210=true:=by kernel_rfl
theorem Zba:Qby Tryz.prog 210=false:=by kernel_rfl
theorem Qsg:(Tryz.prog.info? 210).isSome=true:=by kernel_rfl
theorem Q2w:Qa0 Tryz.prog 210=some (1,8):=by kernel_rfl
theorem Qxe:Tryz.prog.cellsOf 210=1:=by kernel_rfl
theorem Q2x:Qa5 Tryz.prog 210=some (PV.int IntKind.u64 0):=by kernel_rfl
theorem Zbb:Tryz.prog.underlying 210=some (.int .u64):=by kernel_rfl
theorem Zif:tyOk Tryz.prog 214=true:=by kernel_rfl
theorem Zbc:Qby Tryz.prog 214=false:=by kernel_rfl
theorem Qsh:(Tryz.prog.info? 214).isSome=true:=by kernel_rfl
theorem Q2y:Qa0 Tryz.prog 214=some (1,8):=by kernel_rfl
theorem Qxf:Tryz.prog.cellsOf 214=1:=by kernel_rfl
theorem Zig:tyOk Tryz.prog 227=true:=by kernel_rfl
theorem Zbd:Qby Tryz.prog 227=false:=by kernel_rfl
theorem Qsi:(Tryz.prog.info? 227).isSome=true:=by kernel_rfl
theorem Q2z:Qa0 Tryz.prog 227=some (1,16):=by kernel_rfl
theorem Qxg:Tryz.prog.cellsOf 227=1:=by kernel_rfl
theorem Q20:Qa5 Tryz.prog 227=some PV.nilI:=by kernel_rfl
attribute [go_sem] Zn2 Zk7 Qy7 Ze2 Q6v Ze3 Zk8 Zn3 Zk9 Qy8 Ze4 Q6w Ze5 Ze6 Zn4 Zla
attribute [go_sem] Qy9 Ze7 Q6x Ze8 Zlb Zn5 Zlc Qza Ze9 Q6y Zfa Zdv Zfb Zld Zfc Qv8
attribute [go_sem] Q6z Qzb Q60 Q61 Qhx Q62 Q63 Q64 Zle Zfd Qv9 Q65 Qzc Q66 Qzd Zfe
attribute [go_sem] Zff Zfg Zfh Zfi Zfj Zfk Zfl Zfm Zfn Zfo Zfp Zlf Zfq Qwa Q67 Qze
attribute [go_sem] Q68 Q69 Qhy Q7a Q7b Q7c Zlg Zfr Qwb Q7d Qzf Q7e Qzg Zfs Zft Zfu
attribute [go_sem] Zfv Zfw Zlh Zfx Qwc Q7f Qzh Q7g Qzi Zfy Zfz Zf0 Zf1 Zf2 Zf3 Zf4
attribute [go_sem] Zf5 Zf6 Zli Zf7 Qwd Q7h Qzj Q7i Zf8 Zlj Zf9 Qwe Q7j Qzk Q7k Qzl
attribute [go_sem] Zga Zgb Zgc Zgd Zge Zgf Zgg Zlk Zgh Qwf Q7l Qzm Q7m Q7n Qhz Q7o
attribute [go_sem] Q7p Q7q Zll Zgi Qwg Q7r Qzn Q7s Qzo Zgj Zgk Zgl Zgm Zlm Zgn Qwh
attribute [go_sem] Q7t Qzp Q7u Qzq Zgo Zgp Zgq Zgr Zln Zgs Qwi Q7v Qzr Q7w Zlo Zgt
attribute [go_sem] Qwj Q7x Qzs Q7y Zgu Qzt Zgv Zgw Zgx Zgy Zgz Zg0 Zg1 Zg2 Zg3 Zg4
attribute [go_sem] Q7z Q70 Q71 Q72 Q73 Q74 Q75 Q76 Q77 Q78 Zlp Zg5 Qwk Q79 Qzu Q8a
attribute [go_sem] Q8b Qh0 Q8c Q8d Q8e Zlq Zg6 Qwl Q8f Qzv Q8g Zg7 Qzw Zg8 Zg9 Zha
attribute [go_sem] Zhb Zhc Zhd Zhe Zhf Zhg Zhh Q8h Q8i Q8j Q8k Q8l Q8m Q8n Q8o Q8p
attribute [go_sem] Q8q Zlr Zhi Qwm Q8r Qzx Q8s Zhj Qzy Zhk Zhl Zhm Zhn Zho Zhp Zhq
attribute [go_sem] Zhr Zhs Zht Q8t Q8u Q8v Q8w Q8x Q8y Q8z Q80 Q81 Q82 Zls Zhu Qwn
attribute [go_sem] Q83 Qzz Q84 Zhv Q85 Qrx Qz0 Qwo Qz1 Qz2 Qgl Qz3 Qz4 Qz5 Zhw Q86
attribute [go_sem] Qry Qz6 Qwp Qz7 Qz8 Qgm Qz9 Q0a Q0b Zhx Q87 Qrz Q0c Qwq Q0d Q88
attribute [go_sem] Qwr Q89 Q9a Q9b Q9c Q9d Q9e Q9f Q9g Q9h Q9i Q0e Q0f Q0g Q0h Q0i
attribute [go_sem] Q0j Q0k Q0l Q0m Q0n Zhy Q9j Qr0 Q0o Qws Q0p Q0q Qgn Q0r Q0s Q0t
attribute [go_sem] Zhz Q9k Qr1 Q0u Qwt Q0v Q0w Qgo Q0x Q0y Q0z Zh0 Q9l Qr2 Q00 Qwu
attribute [go_sem] Q01 Q02 Qgp Q03 Q04 Q05 Zh1 Q9m Qr3 Q06 Qwv Q07 Q9n Zh2 Q9o Qr4
attribute [go_sem] Q08 Qww Q09 Q1a Qgq Q1b Q1c Q1d Zh3 Q9p Qr5 Q1e Qwx Q1f Qwy Q9q
attribute [go_sem] Q9r Q9s Q9t Zh4 Q9u Qr6 Q1g Qwz Q1h Q9v Qw0 Q9w Q9x Q9y Q9z Q90
attribute [go_sem] Q91 Q92 Q93 Q94 Q95 Q1i Q1j Q1k Q1l Q1m Q1n Q1o Q1p Q1q Q1r Zh5
attribute [go_sem] Q96 Qr7 Q1s Qw1 Q1t Q97 Qw2 Q98 Q99 Zaa Zab Zac Zad Zae Zaf Zag
attribute [go_sem] Zah Q1u Q1v Q1w Q1x Q1y Q1z Q10 Q11 Q12 Q13 Zh6 Zai Qr8 Q14 Qw3
attribute [go_sem] Q15 Zaj Zh7 Zak Qr9 Q16 Qw4 Q17 Q18 Qgr Q19 Q2a Q2b Zh8 Zal Qsa
attribute [go_sem] Q2c Qw5 Zh9 Zam Qsb Q2d Qw6 Zan Qw7 Zao Zap Zaq Zar Zas Zat Zau
attribute [go_sem] Zav Zaw Zax Q2e Q2f Q2g Q2h Q2i Q2j Q2k Q2l Q2m Q2n Zia Zay Qsc
attribute [go_sem] Q2o Qw8 Q2p Qw9 Zaz Za0 Za1 Zib Za2 Qsd Q2q Qxa Q2r Qxb Za3 Za4
attribute [go_sem] Za5 Zic Za6 Qse Q2s Qxc Q2t Za7 Zid Za8 Qsf Q2u Qxd Q2v Za9 Zie
attribute [go_sem] Zba Qsg Q2w Qxe Q2x Zbb Zif Zbc Qsh Q2y Qxf Zig Zbd Qsi Q2z Qxg
attribute [go_sem] Q20
end Go.Proofs.YtlpiamlgibomhaaGreat

namespace Go.Dg
def digs (B n:Nat):List Nat:=if h:n=0∨B<2 then []else n%B::digs B (n/B)
termination_by n
decreasing_by
 simp only [not_or,Nat.not_lt]at h
 exact Nat.div_lt_self (Nat.pos_of_ne_zero h.1) h.2
def val (B:Nat):List Nat→Nat
 | []=>0
 |d::l=>d+B*val B l
section
variable {B:Nat}
theorem Qax:digs B 0=[]:=by unfold digs;simp
theorem Qe0 (hB:2≤B) {n:Nat} (hn:n≠0):digs B n=n%B::digs B (n/B):=by
 conv=>lhs;unfold digs
 rw [dif_neg]
 simp only [not_or,Nat.not_lt]
 exact⟨hn,hB⟩
theorem Qob (hB:2≤B) (n:Nat):val B (digs B n)=n:=by
 induction n using Nat.strongRecOn with
 |_ n ih=>
  by_cases hn:n=0
  ·subst hn;rw [Qax];rfl
  ·rw [Qe0 hB hn]
   simp only [val]
   rw [ih _ (Nat.div_lt_self (Nat.pos_of_ne_zero hn) hB)]
   exact Nat.mod_add_div n B
theorem Qoc (hB:2≤B) (n k:Nat):(digs B n)[k]? =if n/B^k=0 then none else some (n/B^k%B):=by
 induction k generalizing n with
 |zero=>
  by_cases hn:n=0
  ·subst hn;simp [Qax]
  ·rw [Qe0 hB hn];simp [hn]
 |succ k ih=>
  by_cases hn:n=0
  ·subst hn;simp [Qax]
  ·rw [Qe0 hB hn,List.getElem?_cons_succ,ih]
   have:n/B/B^k=n/B^(k+1):=by rw [Nat.div_div_eq_div_mul,Nat.pow_succ,Nat.mul_comm]
   rw [this]
theorem Qca (hB:2≤B) (n k:Nat):k<(digs B n).length↔n/B^k≠0:=by
 have:=Qoc hB n k
 constructor
 ·intro h hz
  rw [if_pos hz,List.getElem?_eq_none_iff]at this
  omega
 ·intro h
  rw [if_neg h]at this
  exact(List.getElem?_eq_some_iff.1 this).1
theorem Qam (hB:2≤B) (n k:Nat):(digs B n).length≤k↔n<B^k:=by
 have h:=Qca hB n k
 have hp:0<B^k:=Nat.pow_pos (by omega)
 rw [←Nat.not_lt,h,Decidable.not_not,Nat.div_eq_zero_iff]
 omega
theorem Qaz (hB:2≤B) (n:Nat):n<B^(digs B n).length:=(Qam hB n _).1 (Nat.le_refl _)
theorem Qao (hB:2≤B) {n k:Nat} (h:k<(digs B n).length):(digs B n)[k]? =some (n/B^k%B):=by
 rw [Qoc hB,if_neg ((Qca hB n k).1 h)]
theorem Qky (hB:2≤B) {n d:Nat} (h:d∈digs B n):d<B:=by
 obtain⟨k,hk⟩:=List.mem_iff_getElem?.1 h
 rw [Qoc hB]at hk
 split at hk
 ·cases hk
 ·cases hk;exact Nat.mod_lt _ (by omega)
theorem Qa7 (hB:2≤B) {n k:Nat} (h:(digs B n).length≤k):n/B^k=0:=by
 have:=(Qam hB n k).1 h
 exact Nat.div_eq_of_lt this
theorem Qbh (hB:2≤B) {n:Nat}:digs B n=[]↔n=0:=by
 constructor
 ·intro h;have:=Qob hB n;rw [h]at this;exact this.symm
 ·rintro rfl;exact Qax
def lows (B n i:Nat):List Nat:=(List.range i).map fun k=>n/B^k%B
theorem Qai (n i:Nat):(lows B n i).length=i:=by simp [lows]
theorem Qc1 (n i:Nat):lows B n (i+1)=lows B n i++[n/B^i%B]:=by simp [lows,List.range_succ]
theorem Qbp (n i k:Nat) (h:k<i):(lows B n i)[k]? =some (n/B^k%B):=by simp [lows,h]
theorem Qp1 (n i:Nat):lows B n (i+1)=n%B::lows B (n/B) i:=by
 simp only [lows,List.range_succ_eq_map,List.map_cons,Nat.pow_zero,Nat.div_one,List.map_map]
 congr 1
 apply List.map_congr_left
 intro k _
 simp only [Function.comp,Nat.succ_eq_add_one]
 rw [Nat.div_div_eq_div_mul,Nat.pow_succ,Nat.mul_comm]
theorem Zbe (hB:0<B) (n i:Nat):val B (lows B n i)=n%B^i:=by
 induction i generalizing n with
 |zero=>simp [lows,val,Nat.mod_one]
 |succ i ih=>
  rw [Qp1]
  simp only [val]
  rw [ih,Nat.pow_succ,Nat.mul_comm (B^i) B,Nat.mod_mul]
theorem Qfx (hB:2≤B) (n:Nat):lows B n (digs B n).length=digs B n:=by
 apply List.ext_getElem?
 intro k
 by_cases hk:k<(digs B n).length
 ·rw [Qbp _ _ _ hk,Qao hB hk]
 ·rw [List.getElem?_eq_none (by rw [Qai];omega),List.getElem?_eq_none (by omega)]
def Qcz (l:List Nat):List Nat:=(l.reverse.dropWhile (· ==0)).reverse
theorem Qci (l:List Nat):Qcz (l++[0])=Qcz l:=by simp [Qcz]
theorem Qea (l:List Nat) {d:Nat} (h:d≠0):Qcz (l++[d])=l++[d]:=by simp [Qcz,h]
theorem Q21:Qcz []=[]:=rfl
theorem Qm3 (l m:List Nat):val B (l++m)=val B l+B^l.length*val B m:=by
 induction l with
 |nil=>simp [val]
 |cons d l ih=>
  simp only [List.cons_append,val,ih,List.length_cons,Nat.pow_succ]
  rw [Nat.mul_add,Nat.add_assoc,←Nat.mul_assoc,Nat.mul_comm B (B^l.length)]
theorem Zlt (hB:0<B) {l:List Nat} (h: ∀d∈l,d<B):val B l<B^l.length:=by
 induction l with
 |nil=>simp [val]
 |cons d l ih=>
  have h1:=ih fun x hx=>h x (by simp [hx])
  have h2:=h d (by simp)
  simp only [val,List.length_cons,Nat.pow_succ]
  have:B*val B l+B≤B*B^l.length:=by rw [←Nat.mul_succ];exact Nat.mul_le_mul_left _ h1
  rw [Nat.mul_comm (B^l.length)]
  omega
theorem Zbf (hB:2≤B) {l:List Nat} (h: ∀d∈l,d<B):lows B (val B l) l.length=l:=by
 induction l with
 |nil=>rfl
 |cons d l ih=>
  have h2:=h d (by simp)
  rw [List.length_cons,Qp1]
  simp only [val]
  rw [Nat.add_mul_mod_self_left,Nat.mod_eq_of_lt h2,Nat.add_mul_div_left _ _ (by omega),Nat.div_eq_of_lt h2,Nat.zero_add,ih fun x hx=>h x (by simp [hx])]
theorem Qkh (hB:2≤B) (l:List Nat) (h: ∀d∈l,d<B):Qcz l=digs B (val B l):=by
 have key: ∀n,∀l:List Nat,l.length=n→(∀d∈l,d<B)→Qcz l=digs B (val B l):=by
  intro n
  induction n with
  |zero=>intro l hl _;rw [List.length_eq_zero_iff.1 hl];simp [Q21,val,Qax]
  |succ n ih=>
   intro l hl h
   have hne:l≠ []:=by rintro rfl;simp at hl
   have hcut:=List.dropLast_concat_getLast hne
   generalize l.dropLast=m at hcut
   generalize l.getLast hne=d at hcut
   subst hcut
   have hm:m.length=n:=by simpa using hl
   have hmd: ∀x∈m,x<B:=fun x hx=>h x (by simp [hx])
   by_cases hd:d=0
   ·subst hd
    rw [Qci,ih m hm hmd,Qm3]
    simp [val]
   ·rw [Qea m hd]
    have hlen:(digs B (val B (m++[d]))).length=(m++[d]).length:=by
     apply Nat.le_antisymm
     ·exact(Qam hB _ _).2 (Zlt (by omega) h)
     ·have:(m++[d]).length=m.length+1:=by simp
      rw [this]
      apply (Qca hB _ _).2
      rw [Qm3]
      simp only [val,Nat.mul_zero,Nat.add_zero]
      rw [Nat.add_mul_div_left _ _ (Nat.pow_pos (by omega))]
      exact fun e=>hd (Nat.eq_zero_of_add_eq_zero_left e)
    have:=Qfx hB (val B (m++[d]))
    rw [hlen,Zbf hB h]at this
    exact this
 exact key l.length l rfl h
theorem Qbk (hB:2≤B) (n i:Nat):Qcz (lows B n i)=digs B (n%B^i):=by
 rw [Qkh hB,Zbe (by omega)]
 intro d hd
 simp only [lows,List.mem_map]at hd
 obtain⟨k,_,rfl⟩:=hd
 exact Nat.mod_lt _ (by omega)
theorem Qxh {l:List Nat} (h: ∀d,l.getLast? =some d→d≠0):Qcz l=l:=by
 by_cases hne:l=[]
 ·subst hne;rfl
 ·have hcut:=List.dropLast_concat_getLast hne
  have hl:l.getLast? =some (l.getLast hne):=List.getLast?_eq_some_getLast hne
  have:=h _ hl
  rw [←hcut]
  exact Qea _ this
end
end Go.Dg

namespace Go.Proofs.YtlpiamlgibomhaaGreat
open Go.Vl Go.RowKit Go.Dg
def di (l:List Nat):PV:= .slc (l.map fun d:Nat=>PV.int .i64 (d:Int))
theorem Qed (l:List Nat) (k:Nat):(l.map fun d:Nat=>PV.int .i64 (d:Int))[k]? =l[k]?.map fun d:Nat=>PV.int .i64 (d:Int):=List.getElem?_map
theorem Zlu (l:List Nat):((l.map fun d:Nat=>PV.int .i64 (d:Int)).all fun x=>x.cells.length==1)=true:=by rw [List.all_map,List.all_eq_true];intro d _;rfl
theorem wrapn {n:Nat} (h:n<9223372036854775808):IntKind.i64.wrap (n:Int)=n:=Qah (by omega) (by omega)
theorem Qh1 {n:Nat} (h:n<9223372036854775808):IntKind.i64.wrap (((n+1:Nat):Int)-1)=(n:Int):=by
 rw [Qah (by omega) (by omega)];omega
theorem Qe1:maxLen<9223372036854775808:=by simp [maxLen]
theorem Qi2 (l:List Nat) (hl:l.length≤maxLen):Qag Tryz.prog 92 [di l] (di (Qcz l)):=by
 have hm:=Qe1
 refine Qac (tb:=[]) 21 [.tmp 2] [0,2,14] mixed Tryz.func92 rfl (by kernel_rfl) (by kernel_rfl) (by kernel_rfl) (by kernel_rfl) ?_
 simp -implicitDefEqProofs only [go_sem,Nat.reduceMul,Nat.reduceEqDiff,Nat.reduceLT,Nat.reduceLeDiff,reduceCtorEq,di]
 refine Qas mixed (fun k:{k:Nat // k≤l.length∧Qcz (l.take k)=Qcz l}=>St.of [(0,di (l.take k.1)),(2,.nilS)] []) (fun k=>k.1) ⟨l.length,Nat.le_refl _,by rw [List.take_length]⟩ ?_ ?_
 ·exact Qa1 (by simp [Qad,lkp,ren1,ren0,di])
 ·rintro⟨k,hk,ht⟩
  have hlen:(l.take k).length=k:=by simp;omega
  cases k with
  |zero=>
   have h1:((0:Int)<((0:Nat):Int))=False:=by simp
   simp -implicitDefEqProofs only [go_sem,Nat.reduceAdd,Nat.reduceMul,Nat.reduceEqDiff,Nat.reduceLT,Nat.reduceLeDiff,reduceCtorEq,di,List.length_map,hlen,h1]
   rw [←ht];rfl
  |succ k=>
   have h1:((0:Int)<((k+1:Nat):Int))=True:=by simp
   have h2:(0≤(k:Int))=True:=by simp
   have hw:=Qh1 (n:=k) (by omega)
   have hlt:k<l.length:=by omega
   have hget:(l.take (k+1))[k]? =some l[k]:=by simp [hlt]
   have hcut:l.take (k+1)=l.take k++[l[k]]:=by rw [List.take_add_one];simp [hlt]
   cases hd:((l[k]:Int)==0)with
   |true=>
    have hd0:l[k]=0:=by simpa using hd
    have h3:((k:Int)≤((k+1:Nat):Int))=True:=by simp;omega
    simp -implicitDefEqProofs only [go_sem,Nat.reduceAdd,Nat.reduceMul,Nat.reduceEqDiff,Nat.reduceLT,Nat.reduceLeDiff,reduceCtorEq,di,List.length_map,hlen,h1,h2,h3,hw,Int.toNat_natCast,Qed,hget,hd,Zlu]
    refine⟨⟨k,by omega,?_⟩,by simp,?_⟩
    ·rw [←ht,hcut,hd0,Qci]
    ·refine Qa1 (by simp [Qad,lkp,ren1,ren0,di];rw [←List.map_take];simp [List.take_take])
   |false=>
    have hd0:l[k]≠0:=by simpa using hd
    simp -implicitDefEqProofs only [go_sem,Nat.reduceAdd,Nat.reduceMul,Nat.reduceEqDiff,Nat.reduceLT,Nat.reduceLeDiff,reduceCtorEq,di,List.length_map,hlen,h1,h2,hw,Int.toNat_natCast,Qed,hget,hd]
    rw [←ht,hcut,Qea _ hd0]
end Go.Proofs.YtlpiamlgibomhaaGreat

namespace Go.Dg
section
variable {B:Nat}
def carry (B a b i:Nat):Nat:=(a%B^i+b%B^i)/B^i
theorem Qi3 (a b:Nat):carry B a b 0=0:=by simp [carry,Nat.mod_one]
theorem Qod (hB:0<B) (a b i:Nat):carry B a b i≤1:=by
 have hp:0<B^i:=Nat.pow_pos hB
 have h1:=Nat.mod_lt a hp
 have h2:=Nat.mod_lt b hp
 unfold carry
 rw [Nat.div_le_iff_le_mul hp]
 omega
theorem Qoe (hB:0<B) (a b i:Nat):(a/B^i%B+b/B^i%B+carry B a b i)%B=(a+b)/B^i%B∧(a/B^i%B+b/B^i%B+carry B a b i)/B=carry B a b (i+1):=by
 have hp:0<B^i:=Nat.pow_pos hB
 unfold carry
 generalize hP:B^i=P at*
 have e1:(a+b)/P=a/P+b/P+(a%P+b%P)/P:=by
  conv=>lhs;rw [←Nat.div_add_mod a P,←Nat.div_add_mod b P]
  have:P*(a/P)+a%P+(P*(b/P)+b%P)=(a%P+b%P)+P*(a/P+b/P):=by rw [Nat.mul_add];omega
  rw [this,Nat.add_mul_div_left _ _ hp]
  omega
 constructor
 ·rw [e1]
  conv=>rhs;rw [Nat.add_mod,Nat.add_mod (a/P)]
  conv=>lhs;rw [Nat.add_mod,Nat.add_mod (a/P%B)]
  simp
 ·have hP1:B^(i+1)=P*B:=by rw [Nat.pow_succ,hP]
  rw [hP1,Nat.mod_mul,Nat.mod_mul]
  have:a%P+P*(a/P%B)+(b%P+P*(b/P%B))=(a%P+b%P)+P*(a/P%B+b/P%B):=by rw [Nat.mul_add];omega
  rw [this,←Nat.div_div_eq_div_mul,Nat.add_mul_div_left _ _ hp]
  congr 1
  omega
theorem Q22 (hB:0<B) (a b i:Nat):(carry B a b i+a/B^i%B+b/B^i%B)%B=(a+b)/B^i%B∧(carry B a b i+a/B^i%B+b/B^i%B)/B=carry B a b (i+1):=by
 have h:=Qoe hB a b i
 have e:carry B a b i+a/B^i%B+b/B^i%B=a/B^i%B+b/B^i%B+carry B a b i:=by omega
 rw [e];exact h
theorem Qkz (hB:2≤B) {n i:Nat} (h1:n<B^i) (h2: ∀j,j<i→n/B^j≠0):lows B n i=digs B n:=by
 have hl:(digs B n).length=i:=by
  apply Nat.le_antisymm ((Qam hB n i).2 h1)
  rcases Nat.eq_zero_or_pos i with rfl|hi
  ·exact Nat.zero_le _
  ·have:=(Qca hB n (i-1)).2 (h2 (i-1) (by omega))
   omega
 rw [←hl,Qfx hB]
theorem Zbg (hB:2≤B) {a b i:Nat} (ha:(digs B a).length≤i) (hb:(digs B b).length≤i) (hc:carry B a b i=0):a+b<B^i:=by
 have h1:=(Qam hB a i).1 ha
 have h2:=(Qam hB b i).1 hb
 unfold carry at hc
 rw [Nat.mod_eq_of_lt h1,Nat.mod_eq_of_lt h2,Nat.div_eq_zero_iff]at hc
 have:0<B^i:=Nat.pow_pos (by omega)
 omega
theorem Zbh (hB:2≤B) {a b i:Nat} (h:i<(digs B a).length∨i<(digs B b).length∨0<carry B a b i):(a+b)/B^i≠0:=by
 have hp:0<B^i:=Nat.pow_pos (by omega)
 have hle:B^i≤a+b:=by
  rcases h with h|h|h
  ·have:=(Qca hB a i).1 h
   have:=Nat.div_eq_zero_iff (a:=a) (b:=B^i)
   omega
  ·have:=(Qca hB b i).1 h
   have:=Nat.div_eq_zero_iff (a:=b) (b:=B^i)
   omega
  ·unfold carry at h
   have h1:=Nat.mod_le a (B^i)
   have h2:=Nat.mod_le b (B^i)
   have h3:=Nat.div_eq_zero_iff (a:=a%B^i+b%B^i) (b:=B^i)
   omega
 have:=Nat.div_eq_zero_iff (a:=a+b) (b:=B^i)
 omega
end
end Go.Dg
