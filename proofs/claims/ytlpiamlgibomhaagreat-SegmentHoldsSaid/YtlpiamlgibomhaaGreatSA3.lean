/-
  STy, Dg, SA1, Dn, SA2, Dm, SA3 (merged for the claim).
-/
import Derived.Test.YtlpiamlgibomhaaGreatUV
import Derived.Test.YtlpiamlgibomhaaGreatProg
set_option linter.unusedSimpArgs false
set_option linter.unusedVariables false
namespace Go.Proofs.YtlpiamlgibomhaaGreat
open Go.Vl
theorem mixed:Tryz.prog.follows .mixedOrders=true:=by kernel_rfl
theorem Zty:tyOk Tryz.prog 3=true:=by kernel_rfl
theorem Zq4:Qb4 Tryz.prog 3=false:=by kernel_rfl
theorem Q4o:(Tryz.prog.info? 3).isSome=true:=by kernel_rfl
theorem Zk1:Qa2 Tryz.prog 3=some (1,8):=by kernel_rfl
theorem Zb8:Tryz.prog.cellsOf 3=1:=by kernel_rfl
theorem Zk2:Qa6 Tryz.prog 3=some (PV.int IntKind.i64 0):=by kernel_rfl
theorem Zq5:Tryz.prog.underlying 3=some (.int .i64):=by kernel_rfl
theorem Ztz:tyOk Tryz.prog 4=true:=by kernel_rfl
theorem Zq6:Qb4 Tryz.prog 4=false:=by kernel_rfl
theorem Q4p:(Tryz.prog.info? 4).isSome=true:=by kernel_rfl
theorem Zk3:Qa2 Tryz.prog 4=some (1,1):=by kernel_rfl
theorem Zb9:Tryz.prog.cellsOf 4=1:=by kernel_rfl
theorem Zk4:Qa6 Tryz.prog 4=some (PV.bool Bool.false):=by kernel_rfl
theorem Zk5:Tryz.prog.underlying 4=some .bool:=by kernel_rfl
theorem Zt0:tyOk Tryz.prog 5=true:=by kernel_rfl
theorem Zq7:Qb4 Tryz.prog 5=false:=by kernel_rfl
theorem Q4q:(Tryz.prog.info? 5).isSome=true:=by kernel_rfl
theorem Zk6:Qa2 Tryz.prog 5=some (1,1):=by kernel_rfl
theorem Zca:Tryz.prog.cellsOf 5=1:=by kernel_rfl
theorem Zk7:Qa6 Tryz.prog 5=some (PV.int IntKind.u8 0):=by kernel_rfl
theorem Zq8:Tryz.prog.underlying 5=some (.int .u8):=by kernel_rfl
theorem Zt1:tyOk Tryz.prog 9=true:=by kernel_rfl
theorem Zq9:Qb4 Tryz.prog 9=false:=by kernel_rfl
theorem Q4r:(Tryz.prog.info? 9).isSome=true:=by kernel_rfl
theorem Zk8:Qa2 Tryz.prog 9=some (1,16):=by kernel_rfl
theorem Zcb:Tryz.prog.cellsOf 9=1:=by kernel_rfl
theorem Zk9:Qa6 Tryz.prog 9=some (PV.str {data:={toList:=[]}}):=by kernel_rfl
theorem Zi0:Tryz.prog.underlying 9=some .string:=by kernel_rfl
theorem Zla (s:ByteArray):Qbd Tryz.prog 9 (.str s)=some (.int .i64 s.size):=by simp only [Qbd,Zi0]
theorem Zra:tyOk Tryz.prog 22=true:=by kernel_rfl
theorem Zlb:Qb4 Tryz.prog 22=false:=by kernel_rfl
theorem Qzu:(Tryz.prog.info? 22).isSome=true:=by kernel_rfl
theorem Zcc:Qa2 Tryz.prog 22=some (1,24):=by kernel_rfl
theorem Q4s:Tryz.prog.cellsOf 22=1:=by kernel_rfl
theorem Zcd:Qa6 Tryz.prog 22=some PV.nilS:=by kernel_rfl
theorem Zce:Qb3 Tryz.prog 22=some 3:=by kernel_rfl
theorem Qi9:Tryz.prog.underlying 22=some (.slice 3):=by kernel_rfl
theorem Zcf (es:List PV):Qbd Tryz.prog 22 (.slc es)=some (.int .i64 es.length):=by simp only [Qbd,Qi9]
theorem Zcg:Qbd Tryz.prog 22 .nilS=some (.int .i64 0):=by simp only [Qbd,Qi9]
theorem Zch (b e o n:Nat):Qbd Tryz.prog 22 (.bs b e o n)=some (.int .i64 n):=by simp only [Qbd,Qi9]
theorem Zrb:tyOk Tryz.prog 24=true:=by kernel_rfl
theorem Zlc:Qb4 Tryz.prog 24=true:=by kernel_rfl
theorem Qzv:(Tryz.prog.info? 24).isSome=true:=by kernel_rfl
theorem Zci:Qa2 Tryz.prog 24=some (6,96):=by kernel_rfl
theorem Q4t:Tryz.prog.cellsOf 24=6:=by kernel_rfl
theorem Zcj:Qa6 Tryz.prog 24=some (PV.agg [PV.int IntKind.i64 0,PV.int IntKind.i64 0,PV.int IntKind.i64 0,PV.nilS,PV.nilS,PV.nilS]):=by kernel_rfl
theorem Q4u:buildable Tryz.prog 24=true:=by kernel_rfl
theorem Zld:Qbe Tryz.prog 24 0=some (0,3,1):=by kernel_rfl
theorem Zle:Qae Tryz.prog 24 0=some (0,1):=by kernel_rfl
theorem Zlf:Qbe Tryz.prog 24 1=some (1,3,1):=by kernel_rfl
theorem Zlg:Qae Tryz.prog 24 1=some (1,1):=by kernel_rfl
theorem Zlh:Qbe Tryz.prog 24 2=some (2,3,1):=by kernel_rfl
theorem Zli:Qae Tryz.prog 24 2=some (2,1):=by kernel_rfl
theorem Zlj:Qbe Tryz.prog 24 3=some (3,22,1):=by kernel_rfl
theorem Zlk:Qae Tryz.prog 24 3=some (3,1):=by kernel_rfl
theorem Zll:Qbe Tryz.prog 24 4=some (4,22,1):=by kernel_rfl
theorem Zlm:Qae Tryz.prog 24 4=some (4,1):=by kernel_rfl
theorem Zln:Qbe Tryz.prog 24 5=some (5,22,1):=by kernel_rfl
theorem Zlo:Qae Tryz.prog 24 5=some (5,1):=by kernel_rfl
theorem Zrc:tyOk Tryz.prog 27=true:=by kernel_rfl
theorem Zlp:Qb4 Tryz.prog 27=false:=by kernel_rfl
theorem Qzw:(Tryz.prog.info? 27).isSome=true:=by kernel_rfl
theorem Zck:Qa2 Tryz.prog 27=some (1,24):=by kernel_rfl
theorem Q4v:Tryz.prog.cellsOf 27=1:=by kernel_rfl
theorem Zcl:Qa6 Tryz.prog 27=some PV.nilS:=by kernel_rfl
theorem Zcm:Qb3 Tryz.prog 27=some 24:=by kernel_rfl
theorem Qja:Tryz.prog.underlying 27=some (.slice 24):=by kernel_rfl
theorem Zcn (es:List PV):Qbd Tryz.prog 27 (.slc es)=some (.int .i64 es.length):=by simp only [Qbd,Qja]
theorem Zco:Qbd Tryz.prog 27 .nilS=some (.int .i64 0):=by simp only [Qbd,Qja]
theorem Zcp (b e o n:Nat):Qbd Tryz.prog 27 (.bs b e o n)=some (.int .i64 n):=by simp only [Qbd,Qja]
theorem Zrd:tyOk Tryz.prog 31=true:=by kernel_rfl
theorem Zlq:Qb4 Tryz.prog 31=true:=by kernel_rfl
theorem Qzx:(Tryz.prog.info? 31).isSome=true:=by kernel_rfl
theorem Zcq:Qa2 Tryz.prog 31=some (2,24):=by kernel_rfl
theorem Q4w:Tryz.prog.cellsOf 31=2:=by kernel_rfl
theorem Zcr:Qa6 Tryz.prog 31=some (PV.agg [PV.bool Bool.false,PV.str {data:={toList:=[]}}]):=by kernel_rfl
theorem Q4x:buildable Tryz.prog 31=true:=by kernel_rfl
theorem Zlr:Qbe Tryz.prog 31 0=some (0,4,1):=by kernel_rfl
theorem Zls:Qae Tryz.prog 31 0=some (0,1):=by kernel_rfl
theorem Zlt:Qbe Tryz.prog 31 1=some (1,9,1):=by kernel_rfl
theorem Zlu:Qae Tryz.prog 31 1=some (1,1):=by kernel_rfl
theorem Zlv:Qdk Tryz.prog 31=some [0,2]:=by kernel_rfl
theorem Zre:tyOk Tryz.prog 33=true:=by kernel_rfl
theorem Zlw:Qb4 Tryz.prog 33=true:=by kernel_rfl
theorem Qzy:(Tryz.prog.info? 33).isSome=true:=by kernel_rfl
theorem Zcs:Qa2 Tryz.prog 33=some (8,96):=by kernel_rfl
theorem Q4y:Tryz.prog.cellsOf 33=8:=by kernel_rfl
theorem Zct:Qa6 Tryz.prog 33=some (PV.agg [PV.bool Bool.false,PV.str {data:={toList:=[]}},PV.bool Bool.false,PV.str {data:={toList:=[]}},PV.bool Bool.false,PV.str {data:={toList:=[]}},PV.bool Bool.false,PV.str {data:={toList:=[]}}]):=by kernel_rfl
theorem Q4z:buildable Tryz.prog 33=true:=by kernel_rfl
theorem Zlx:Qbe Tryz.prog 33 0=some (0,31,2):=by kernel_rfl
theorem Zly:Qae Tryz.prog 33 0=some (0,2):=by kernel_rfl
theorem Zlz:Qbe Tryz.prog 33 1=some (2,31,2):=by kernel_rfl
theorem Zl0:Qae Tryz.prog 33 1=some (2,2):=by kernel_rfl
theorem Zl1:Qbe Tryz.prog 33 2=some (4,31,2):=by kernel_rfl
theorem Zl2:Qae Tryz.prog 33 2=some (4,2):=by kernel_rfl
theorem Zl3:Qbe Tryz.prog 33 3=some (6,31,2):=by kernel_rfl
theorem Zl4:Qae Tryz.prog 33 3=some (6,2):=by kernel_rfl
theorem Zl5:Qdk Tryz.prog 33=some [0,2,0,2,0,2,0,2]:=by kernel_rfl
theorem Zrf:tyOk Tryz.prog 34=true:=by kernel_rfl
theorem Zl6:Qb4 Tryz.prog 34=false:=by kernel_rfl
theorem Qzz:(Tryz.prog.info? 34).isSome=true:=by kernel_rfl
theorem Zcu:Qa2 Tryz.prog 34=some (1,8):=by kernel_rfl
theorem Q40:Tryz.prog.cellsOf 34=1:=by kernel_rfl
theorem Zcv:Qa6 Tryz.prog 34=some (PV.int IntKind.i64 0):=by kernel_rfl
theorem Zl7:Tryz.prog.underlying 34=some (.int .i64):=by kernel_rfl
theorem Zrg:tyOk Tryz.prog 38=true:=by kernel_rfl
theorem Zl8:Qb4 Tryz.prog 38=true:=by kernel_rfl
theorem Qz0:(Tryz.prog.info? 38).isSome=true:=by kernel_rfl
theorem Zcw:Qa2 Tryz.prog 38=some (3,24):=by kernel_rfl
theorem Q41:Tryz.prog.cellsOf 38=3:=by kernel_rfl
theorem Zcx:Qa6 Tryz.prog 38=some (PV.agg [PV.int IntKind.i64 0,PV.int IntKind.i64 0,PV.int IntKind.i64 0]):=by kernel_rfl
theorem Q42:buildable Tryz.prog 38=true:=by kernel_rfl
theorem Zl9:Qbe Tryz.prog 38 0=some (0,3,1):=by kernel_rfl
theorem Zma:Qae Tryz.prog 38 0=some (0,1):=by kernel_rfl
theorem Zmb:Qbe Tryz.prog 38 1=some (1,3,1):=by kernel_rfl
theorem Zmc:Qae Tryz.prog 38 1=some (1,1):=by kernel_rfl
theorem Zmd:Qbe Tryz.prog 38 2=some (2,3,1):=by kernel_rfl
theorem Zme:Qae Tryz.prog 38 2=some (2,1):=by kernel_rfl
theorem Zmf:Qdk Tryz.prog 38=some [1,1,1]:=by kernel_rfl
theorem Zrh:tyOk Tryz.prog 42=true:=by kernel_rfl
theorem Zmg:Qb4 Tryz.prog 42=false:=by kernel_rfl
theorem Qz1:(Tryz.prog.info? 42).isSome=true:=by kernel_rfl
theorem Zcy:Qa2 Tryz.prog 42=some (1,24):=by kernel_rfl
theorem Q43:Tryz.prog.cellsOf 42=1:=by kernel_rfl
theorem Zcz:Qa6 Tryz.prog 42=some PV.nilS:=by kernel_rfl
theorem Zc0:Qb3 Tryz.prog 42=some 44:=by kernel_rfl
theorem Qjb:Tryz.prog.underlying 42=some (.slice 44):=by kernel_rfl
theorem Zc1 (es:List PV):Qbd Tryz.prog 42 (.slc es)=some (.int .i64 es.length):=by simp only [Qbd,Qjb]
theorem Zc2:Qbd Tryz.prog 42 .nilS=some (.int .i64 0):=by simp only [Qbd,Qjb]
theorem Zc3 (b e o n:Nat):Qbd Tryz.prog 42 (.bs b e o n)=some (.int .i64 n):=by simp only [Qbd,Qjb]
theorem Zri:tyOk Tryz.prog 44=true:=by kernel_rfl
theorem Zmh:Qb4 Tryz.prog 44=true:=by kernel_rfl
theorem Qz2:(Tryz.prog.info? 44).isSome=true:=by kernel_rfl
theorem Zc4:Qa2 Tryz.prog 44=some (2,32):=by kernel_rfl
theorem Q44:Tryz.prog.cellsOf 44=2:=by kernel_rfl
theorem Zc5:Qa6 Tryz.prog 44=some (PV.agg [PV.bool Bool.false,PV.nilS]):=by kernel_rfl
theorem Q45:buildable Tryz.prog 44=true:=by kernel_rfl
theorem Zmi:Qbe Tryz.prog 44 0=some (0,4,1):=by kernel_rfl
theorem Zmj:Qae Tryz.prog 44 0=some (0,1):=by kernel_rfl
theorem Zmk:Qbe Tryz.prog 44 1=some (1,22,1):=by kernel_rfl
theorem Zml:Qae Tryz.prog 44 1=some (1,1):=by kernel_rfl
theorem Zrj:tyOk Tryz.prog 46=true:=by kernel_rfl
theorem Zmm:Qb4 Tryz.prog 46=true:=by kernel_rfl
theorem Qz3:(Tryz.prog.info? 46).isSome=true:=by kernel_rfl
theorem Zc6:Qa2 Tryz.prog 46=some (3,56):=by kernel_rfl
theorem Q46:Tryz.prog.cellsOf 46=3:=by kernel_rfl
theorem Zc7:Qa6 Tryz.prog 46=some (PV.agg [PV.nilS,PV.bool Bool.false,PV.nilS]):=by kernel_rfl
theorem Q47:buildable Tryz.prog 46=true:=by kernel_rfl
theorem Zmn:Qbe Tryz.prog 46 0=some (0,42,1):=by kernel_rfl
theorem Zmo:Qae Tryz.prog 46 0=some (0,1):=by kernel_rfl
theorem Zmp:Qbe Tryz.prog 46 1=some (1,44,2):=by kernel_rfl
theorem Zmq:Qae Tryz.prog 46 1=some (1,2):=by kernel_rfl
theorem Zrk:tyOk Tryz.prog 67=true:=by kernel_rfl
theorem Zmr:Qb4 Tryz.prog 67=false:=by kernel_rfl
theorem Qz4:(Tryz.prog.info? 67).isSome=true:=by kernel_rfl
theorem Zc8:Qa2 Tryz.prog 67=some (1,8):=by kernel_rfl
theorem Q48:Tryz.prog.cellsOf 67=1:=by kernel_rfl
theorem Zc9:Qa6 Tryz.prog 67=some PV.nilF:=by kernel_rfl
theorem Zrl:tyOk Tryz.prog 79=true:=by kernel_rfl
theorem Zms:Qb4 Tryz.prog 79=true:=by kernel_rfl
theorem Qz5:(Tryz.prog.info? 79).isSome=true:=by kernel_rfl
theorem Zda:Qa2 Tryz.prog 79=some (3,72):=by kernel_rfl
theorem Q49:Tryz.prog.cellsOf 79=3:=by kernel_rfl
theorem Zdb:Qa6 Tryz.prog 79=some (PV.agg [PV.nilS,PV.nilS,PV.nilS]):=by kernel_rfl
theorem Zmt:Qgk Tryz.prog 79=some (3,22):=by kernel_rfl
theorem Q5a:buildable Tryz.prog 79=true:=by kernel_rfl
theorem Zmu:Qae Tryz.prog 79 0=some (0,1):=by kernel_rfl
theorem Zmv:Qae Tryz.prog 79 1=some (1,1):=by kernel_rfl
theorem Zmw:Qae Tryz.prog 79 2=some (2,1):=by kernel_rfl
theorem Zmx:Qae Tryz.prog 79 3=some (3,1):=by kernel_rfl
theorem Zmy:Qae Tryz.prog 79 4=some (4,1):=by kernel_rfl
theorem Zmz:Qae Tryz.prog 79 5=some (5,1):=by kernel_rfl
theorem Zm0:Qae Tryz.prog 79 6=some (6,1):=by kernel_rfl
theorem Zm1:Qae Tryz.prog 79 7=some (7,1):=by kernel_rfl
theorem Zm2:Qae Tryz.prog 79 8=some (8,1):=by kernel_rfl
theorem Zm3:Qae Tryz.prog 79 9=some (9,1):=by kernel_rfl
theorem Zdc:Qae Tryz.prog 79 10=some (10,1):=by kernel_rfl
theorem Zdd:Qae Tryz.prog 79 11=some (11,1):=by kernel_rfl
theorem Zde:Qae Tryz.prog 79 12=some (12,1):=by kernel_rfl
theorem Zdf:Qae Tryz.prog 79 13=some (13,1):=by kernel_rfl
theorem Zdg:Qae Tryz.prog 79 14=some (14,1):=by kernel_rfl
theorem Zdh:Qae Tryz.prog 79 15=some (15,1):=by kernel_rfl
theorem Zdi:Qae Tryz.prog 79 16=some (16,1):=by kernel_rfl
theorem Zdj:Qae Tryz.prog 79 17=some (17,1):=by kernel_rfl
theorem Zdk:Qae Tryz.prog 79 18=some (18,1):=by kernel_rfl
theorem Zdl:Qae Tryz.prog 79 19=some (19,1):=by kernel_rfl
theorem Zrm:tyOk Tryz.prog 85=true:=by kernel_rfl
theorem Zm4:Qb4 Tryz.prog 85=false:=by kernel_rfl
theorem Qz6:(Tryz.prog.info? 85).isSome=true:=by kernel_rfl
theorem Zdm:Qa2 Tryz.prog 85=some (1,24):=by kernel_rfl
theorem Q5b:Tryz.prog.cellsOf 85=1:=by kernel_rfl
theorem Zdn:Qa6 Tryz.prog 85=some PV.nilS:=by kernel_rfl
theorem Zdo:Qb3 Tryz.prog 85=some 22:=by kernel_rfl
theorem Qjc:Tryz.prog.underlying 85=some (.slice 22):=by kernel_rfl
theorem Zdp (es:List PV):Qbd Tryz.prog 85 (.slc es)=some (.int .i64 es.length):=by simp only [Qbd,Qjc]
theorem Zdq:Qbd Tryz.prog 85 .nilS=some (.int .i64 0):=by simp only [Qbd,Qjc]
theorem Zdr (b e o n:Nat):Qbd Tryz.prog 85 (.bs b e o n)=some (.int .i64 n):=by simp only [Qbd,Qjc]
theorem Zrn:tyOk Tryz.prog 92=true:=by kernel_rfl
theorem Zm5:Qb4 Tryz.prog 92=true:=by kernel_rfl
theorem Qz7:(Tryz.prog.info? 92).isSome=true:=by kernel_rfl
theorem Zds:Qa2 Tryz.prog 92=some (3,24):=by kernel_rfl
theorem Q5c:Tryz.prog.cellsOf 92=3:=by kernel_rfl
theorem Zdt:Qa6 Tryz.prog 92=some (PV.agg [PV.int IntKind.i64 0,PV.int IntKind.i64 0,PV.int IntKind.i64 0]):=by kernel_rfl
theorem Zm6:Qgk Tryz.prog 92=some (3,3):=by kernel_rfl
theorem Q5d:buildable Tryz.prog 92=true:=by kernel_rfl
theorem Zm7:Qae Tryz.prog 92 0=some (0,1):=by kernel_rfl
theorem Zm8:Qae Tryz.prog 92 1=some (1,1):=by kernel_rfl
theorem Zm9:Qae Tryz.prog 92 2=some (2,1):=by kernel_rfl
theorem Zna:Qae Tryz.prog 92 3=some (3,1):=by kernel_rfl
theorem Znb:Qae Tryz.prog 92 4=some (4,1):=by kernel_rfl
theorem Znc:Qae Tryz.prog 92 5=some (5,1):=by kernel_rfl
theorem Znd:Qae Tryz.prog 92 6=some (6,1):=by kernel_rfl
theorem Zne:Qae Tryz.prog 92 7=some (7,1):=by kernel_rfl
theorem Znf:Qae Tryz.prog 92 8=some (8,1):=by kernel_rfl
theorem Zng:Qae Tryz.prog 92 9=some (9,1):=by kernel_rfl
theorem Zdu:Qae Tryz.prog 92 10=some (10,1):=by kernel_rfl
theorem Zdv:Qae Tryz.prog 92 11=some (11,1):=by kernel_rfl
theorem Zdw:Qae Tryz.prog 92 12=some (12,1):=by kernel_rfl
theorem Zdx:Qae Tryz.prog 92 13=some (13,1):=by kernel_rfl
theorem Zdy:Qae Tryz.prog 92 14=some (14,1):=by kernel_rfl
theorem Zdz:Qae Tryz.prog 92 15=some (15,1):=by kernel_rfl
theorem Zd0:Qae Tryz.prog 92 16=some (16,1):=by kernel_rfl
theorem Zd1:Qae Tryz.prog 92 17=some (17,1):=by kernel_rfl
theorem Zd2:Qae Tryz.prog 92 18=some (18,1):=by kernel_rfl
theorem Zd3:Qae Tryz.prog 92 19=some (19,1):=by kernel_rfl
theorem Zro:tyOk Tryz.prog 93=true:=by kernel_rfl
theorem Znh:Qb4 Tryz.prog 93=true:=by kernel_rfl
theorem Qz8:(Tryz.prog.info? 93).isSome=true:=by kernel_rfl
theorem Zd4:Qa2 Tryz.prog 93=some (6,72):=by kernel_rfl
theorem Q5e:Tryz.prog.cellsOf 93=6:=by kernel_rfl
theorem Zd5:Qa6 Tryz.prog 93=some (PV.agg [PV.bool Bool.false,PV.str {data:={toList:=[]}},PV.bool Bool.false,PV.str {data:={toList:=[]}},PV.bool Bool.false,PV.str {data:={toList:=[]}}]):=by kernel_rfl
theorem Zni:Qgk Tryz.prog 93=some (3,31):=by kernel_rfl
theorem Q5f:buildable Tryz.prog 93=true:=by kernel_rfl
theorem Znj:Qae Tryz.prog 93 0=some (0,2):=by kernel_rfl
theorem Znk:Qae Tryz.prog 93 1=some (2,2):=by kernel_rfl
theorem Znl:Qae Tryz.prog 93 2=some (4,2):=by kernel_rfl
theorem Znm:Qae Tryz.prog 93 3=some (6,2):=by kernel_rfl
theorem Znn:Qae Tryz.prog 93 4=some (8,2):=by kernel_rfl
theorem Zno:Qae Tryz.prog 93 5=some (10,2):=by kernel_rfl
theorem Znp:Qae Tryz.prog 93 6=some (12,2):=by kernel_rfl
theorem Znq:Qae Tryz.prog 93 7=some (14,2):=by kernel_rfl
theorem Znr:Qae Tryz.prog 93 8=some (16,2):=by kernel_rfl
theorem Zns:Qae Tryz.prog 93 9=some (18,2):=by kernel_rfl
theorem Zd6:Qae Tryz.prog 93 10=some (20,2):=by kernel_rfl
theorem Zd7:Qae Tryz.prog 93 11=some (22,2):=by kernel_rfl
theorem Zd8:Qae Tryz.prog 93 12=some (24,2):=by kernel_rfl
theorem Zd9:Qae Tryz.prog 93 13=some (26,2):=by kernel_rfl
theorem Zea:Qae Tryz.prog 93 14=some (28,2):=by kernel_rfl
theorem Zeb:Qae Tryz.prog 93 15=some (30,2):=by kernel_rfl
theorem Zec:Qae Tryz.prog 93 16=some (32,2):=by kernel_rfl
theorem Zed:Qae Tryz.prog 93 17=some (34,2):=by kernel_rfl
theorem Zee:Qae Tryz.prog 93 18=some (36,2):=by kernel_rfl
theorem Zef:Qae Tryz.prog 93 19=some (38,2):=by kernel_rfl
theorem Zrp:tyOk Tryz.prog 99=true:=by kernel_rfl
theorem Znt:Qb4 Tryz.prog 99=false:=by kernel_rfl
theorem Qz9:(Tryz.prog.info? 99).isSome=true:=by kernel_rfl
theorem Zeg:Qa2 Tryz.prog 99=some (1,8):=by kernel_rfl
theorem Q5g:Tryz.prog.cellsOf 99=1:=by kernel_rfl
theorem Zeh:Qa6 Tryz.prog 99=some PV.nilF:=by kernel_rfl
theorem Znu:tyOk Tryz.prog 111=true:=by kernel_rfl
theorem Zei:Qb4 Tryz.prog 111=false:=by kernel_rfl
theorem Qvc:(Tryz.prog.info? 111).isSome=true:=by kernel_rfl
theorem Q5h:Qa2 Tryz.prog 111=some (1,24):=by kernel_rfl
theorem Q0a:Tryz.prog.cellsOf 111=1:=by kernel_rfl
theorem Q5i:Qa6 Tryz.prog 111=some PV.nilS:=by kernel_rfl
theorem Q5j:Qb3 Tryz.prog 111=some 31:=by kernel_rfl
theorem Qhl:Tryz.prog.underlying 111=some (.slice 31):=by kernel_rfl
theorem Q5k (es:List PV):Qbd Tryz.prog 111 (.slc es)=some (.int .i64 es.length):=by simp only [Qbd,Qhl]
theorem Q5l:Qbd Tryz.prog 111 .nilS=some (.int .i64 0):=by simp only [Qbd,Qhl]
theorem Q5m (b e o n:Nat):Qbd Tryz.prog 111 (.bs b e o n)=some (.int .i64 n):=by simp only [Qbd,Qhl]
theorem Znv:tyOk Tryz.prog 112=true:=by kernel_rfl
theorem Zej:Qb4 Tryz.prog 112=false:=by kernel_rfl
theorem Qvd:(Tryz.prog.info? 112).isSome=true:=by kernel_rfl
theorem Q5n:Qa2 Tryz.prog 112=some (1,24):=by kernel_rfl
theorem Q0b:Tryz.prog.cellsOf 112=1:=by kernel_rfl
theorem Q5o:Qa6 Tryz.prog 112=some PV.nilS:=by kernel_rfl
theorem Q5p:Qb3 Tryz.prog 112=some 31:=by kernel_rfl
theorem Qhm:Tryz.prog.underlying 112=some (.slice 31):=by kernel_rfl
theorem Q5q (es:List PV):Qbd Tryz.prog 112 (.slc es)=some (.int .i64 es.length):=by simp only [Qbd,Qhm]
theorem Q5r:Qbd Tryz.prog 112 .nilS=some (.int .i64 0):=by simp only [Qbd,Qhm]
theorem Q5s (b e o n:Nat):Qbd Tryz.prog 112 (.bs b e o n)=some (.int .i64 n):=by simp only [Qbd,Qhm]
theorem Znw:tyOk Tryz.prog 113=true:=by kernel_rfl
theorem Zek:Qb4 Tryz.prog 113=true:=by kernel_rfl
theorem Qve:(Tryz.prog.info? 113).isSome=true:=by kernel_rfl
theorem Q5t:Qa2 Tryz.prog 113=some (3,72):=by kernel_rfl
theorem Q0c:Tryz.prog.cellsOf 113=3:=by kernel_rfl
theorem Q5u:Qa6 Tryz.prog 113=some (PV.agg [PV.nilS,PV.nilS,PV.nilS]):=by kernel_rfl
theorem Zel:Qgk Tryz.prog 113=some (3,112):=by kernel_rfl
theorem Q0d:buildable Tryz.prog 113=true:=by kernel_rfl
theorem Zem:Qae Tryz.prog 113 0=some (0,1):=by kernel_rfl
theorem Zen:Qae Tryz.prog 113 1=some (1,1):=by kernel_rfl
theorem Zeo:Qae Tryz.prog 113 2=some (2,1):=by kernel_rfl
theorem Zep:Qae Tryz.prog 113 3=some (3,1):=by kernel_rfl
theorem Zeq:Qae Tryz.prog 113 4=some (4,1):=by kernel_rfl
theorem Zer:Qae Tryz.prog 113 5=some (5,1):=by kernel_rfl
theorem Zes:Qae Tryz.prog 113 6=some (6,1):=by kernel_rfl
theorem Zet:Qae Tryz.prog 113 7=some (7,1):=by kernel_rfl
theorem Zeu:Qae Tryz.prog 113 8=some (8,1):=by kernel_rfl
theorem Zev:Qae Tryz.prog 113 9=some (9,1):=by kernel_rfl
theorem Q5v:Qae Tryz.prog 113 10=some (10,1):=by kernel_rfl
theorem Q5w:Qae Tryz.prog 113 11=some (11,1):=by kernel_rfl
theorem Q5x:Qae Tryz.prog 113 12=some (12,1):=by kernel_rfl
theorem Q5y:Qae Tryz.prog 113 13=some (13,1):=by kernel_rfl
theorem Q5z:Qae Tryz.prog 113 14=some (14,1):=by kernel_rfl
theorem Q50:Qae Tryz.prog 113 15=some (15,1):=by kernel_rfl
theorem Q51:Qae Tryz.prog 113 16=some (16,1):=by kernel_rfl
theorem Q52:Qae Tryz.prog 113 17=some (17,1):=by kernel_rfl
theorem Q53:Qae Tryz.prog 113 18=some (18,1):=by kernel_rfl
theorem Q54:Qae Tryz.prog 113 19=some (19,1):=by kernel_rfl
theorem Znx:tyOk Tryz.prog 115=true:=by kernel_rfl
theorem Zew:Qb4 Tryz.prog 115=false:=by kernel_rfl
theorem Qvf:(Tryz.prog.info? 115).isSome=true:=by kernel_rfl
theorem Q55:Qa2 Tryz.prog 115=some (1,24):=by kernel_rfl
theorem Q0e:Tryz.prog.cellsOf 115=1:=by kernel_rfl
theorem Q56:Qa6 Tryz.prog 115=some PV.nilS:=by kernel_rfl
theorem Q57:Qb3 Tryz.prog 115=some 116:=by kernel_rfl
theorem Qhn:Tryz.prog.underlying 115=some (.slice 116):=by kernel_rfl
theorem Q58 (es:List PV):Qbd Tryz.prog 115 (.slc es)=some (.int .i64 es.length):=by simp only [Qbd,Qhn]
theorem Q59:Qbd Tryz.prog 115 .nilS=some (.int .i64 0):=by simp only [Qbd,Qhn]
theorem Q6a (b e o n:Nat):Qbd Tryz.prog 115 (.bs b e o n)=some (.int .i64 n):=by simp only [Qbd,Qhn]
theorem Zny:tyOk Tryz.prog 116=true:=by kernel_rfl
theorem Zex:Qb4 Tryz.prog 116=false:=by kernel_rfl
theorem Qvg:(Tryz.prog.info? 116).isSome=true:=by kernel_rfl
theorem Q6b:Qa2 Tryz.prog 116=some (1,24):=by kernel_rfl
theorem Q0f:Tryz.prog.cellsOf 116=1:=by kernel_rfl
theorem Q6c:Qa6 Tryz.prog 116=some PV.nilS:=by kernel_rfl
theorem Q6d:Qb3 Tryz.prog 116=some 44:=by kernel_rfl
theorem Qho:Tryz.prog.underlying 116=some (.slice 44):=by kernel_rfl
theorem Q6e (es:List PV):Qbd Tryz.prog 116 (.slc es)=some (.int .i64 es.length):=by simp only [Qbd,Qho]
theorem Q6f:Qbd Tryz.prog 116 .nilS=some (.int .i64 0):=by simp only [Qbd,Qho]
theorem Q6g (b e o n:Nat):Qbd Tryz.prog 116 (.bs b e o n)=some (.int .i64 n):=by simp only [Qbd,Qho]
theorem Znz:tyOk Tryz.prog 120=true:=by kernel_rfl
theorem Zey:Qb4 Tryz.prog 120=false:=by kernel_rfl
theorem Qvh:(Tryz.prog.info? 120).isSome=true:=by kernel_rfl
theorem Q6h:Qa2 Tryz.prog 120=some (1,24):=by kernel_rfl
theorem Q0g:Tryz.prog.cellsOf 120=1:=by kernel_rfl
theorem Q6i:Qa6 Tryz.prog 120=some PV.nilS:=by kernel_rfl
theorem Q6j:Qb3 Tryz.prog 120=some 27:=by kernel_rfl
theorem Qhp:Tryz.prog.underlying 120=some (.slice 27):=by kernel_rfl
theorem Q6k (es:List PV):Qbd Tryz.prog 120 (.slc es)=some (.int .i64 es.length):=by simp only [Qbd,Qhp]
theorem Q6l:Qbd Tryz.prog 120 .nilS=some (.int .i64 0):=by simp only [Qbd,Qhp]
theorem Q6m (b e o n:Nat):Qbd Tryz.prog 120 (.bs b e o n)=some (.int .i64 n):=by simp only [Qbd,Qhp]
theorem Zn0:tyOk Tryz.prog 122=true:=by kernel_rfl
theorem Zez:Qb4 Tryz.prog 122=false:=by kernel_rfl
theorem Qvi:(Tryz.prog.info? 122).isSome=true:=by kernel_rfl
theorem Q6n:Qa2 Tryz.prog 122=some (1,8):=by kernel_rfl
theorem Q0h:Tryz.prog.cellsOf 122=1:=by kernel_rfl
theorem Q6o:Qa6 Tryz.prog 122=some (PV.int IntKind.u64 0):=by kernel_rfl
theorem Ze0:Tryz.prog.underlying 122=some (.int .u64):=by kernel_rfl
theorem Zn1:tyOk Tryz.prog 125=true:=by kernel_rfl
theorem Ze1:Qb4 Tryz.prog 125=false:=by kernel_rfl
theorem Qvj:(Tryz.prog.info? 125).isSome=true:=by kernel_rfl
theorem Q6p:Qa2 Tryz.prog 125=some (1,24):=by kernel_rfl
theorem Q0i:Tryz.prog.cellsOf 125=1:=by kernel_rfl
theorem Q6q:Qa6 Tryz.prog 125=some PV.nilS:=by kernel_rfl
theorem Q6r:Qb3 Tryz.prog 125=some 122:=by kernel_rfl
theorem Qhq:Tryz.prog.underlying 125=some (.slice 122):=by kernel_rfl
theorem Q6s (es:List PV):Qbd Tryz.prog 125 (.slc es)=some (.int .i64 es.length):=by simp only [Qbd,Qhq]
theorem Q6t:Qbd Tryz.prog 125 .nilS=some (.int .i64 0):=by simp only [Qbd,Qhq]
theorem Q6u (b e o n:Nat):Qbd Tryz.prog 125 (.bs b e o n)=some (.int .i64 n):=by simp only [Qbd,Qhq]
theorem Zn2:tyOk Tryz.prog 128=true:=by kernel_rfl
theorem Ze2:Qb4 Tryz.prog 128=true:=by kernel_rfl
theorem Qvk:(Tryz.prog.info? 128).isSome=true:=by kernel_rfl
theorem Q6v:Qa2 Tryz.prog 128=some (2,32):=by kernel_rfl
theorem Q0j:Tryz.prog.cellsOf 128=2:=by kernel_rfl
theorem Q6w:Qa6 Tryz.prog 128=some (PV.agg [PV.bool Bool.false,PV.nilS]):=by kernel_rfl
theorem Q0k:buildable Tryz.prog 128=true:=by kernel_rfl
theorem Ze3:Qbe Tryz.prog 128 0=some (0,4,1):=by kernel_rfl
theorem Ze4:Qae Tryz.prog 128 0=some (0,1):=by kernel_rfl
theorem Ze5:Qbe Tryz.prog 128 1=some (1,125,1):=by kernel_rfl
theorem Ze6:Qae Tryz.prog 128 1=some (1,1):=by kernel_rfl
theorem Zn3:tyOk Tryz.prog 130=true:=by kernel_rfl
theorem Ze7:Qb4 Tryz.prog 130=true:=by kernel_rfl
theorem Qvl:(Tryz.prog.info? 130).isSome=true:=by kernel_rfl
theorem Q6x:Qa2 Tryz.prog 130=some (6,48):=by kernel_rfl
theorem Q0l:Tryz.prog.cellsOf 130=6:=by kernel_rfl
theorem Q6y:Qa6 Tryz.prog 130=some (PV.agg [PV.int IntKind.i64 0,PV.int IntKind.i64 0,PV.int IntKind.i64 0,PV.int IntKind.i64 0,PV.int IntKind.i64 0,PV.int IntKind.i64 0]):=by kernel_rfl
theorem Ze8:Qgk Tryz.prog 130=some (6,3):=by kernel_rfl
theorem Q0m:buildable Tryz.prog 130=true:=by kernel_rfl
theorem Ze9:Qae Tryz.prog 130 0=some (0,1):=by kernel_rfl
theorem Zfa:Qae Tryz.prog 130 1=some (1,1):=by kernel_rfl
theorem Zfb:Qae Tryz.prog 130 2=some (2,1):=by kernel_rfl
theorem Zfc:Qae Tryz.prog 130 3=some (3,1):=by kernel_rfl
theorem Zfd:Qae Tryz.prog 130 4=some (4,1):=by kernel_rfl
theorem Zfe:Qae Tryz.prog 130 5=some (5,1):=by kernel_rfl
theorem Zff:Qae Tryz.prog 130 6=some (6,1):=by kernel_rfl
theorem Zfg:Qae Tryz.prog 130 7=some (7,1):=by kernel_rfl
theorem Zfh:Qae Tryz.prog 130 8=some (8,1):=by kernel_rfl
theorem Zfi:Qae Tryz.prog 130 9=some (9,1):=by kernel_rfl
theorem Q6z:Qae Tryz.prog 130 10=some (10,1):=by kernel_rfl
theorem Q60:Qae Tryz.prog 130 11=some (11,1):=by kernel_rfl
theorem Q61:Qae Tryz.prog 130 12=some (12,1):=by kernel_rfl
theorem Q62:Qae Tryz.prog 130 13=some (13,1):=by kernel_rfl
theorem Q63:Qae Tryz.prog 130 14=some (14,1):=by kernel_rfl
theorem Q64:Qae Tryz.prog 130 15=some (15,1):=by kernel_rfl
theorem Q65:Qae Tryz.prog 130 16=some (16,1):=by kernel_rfl
theorem Q66:Qae Tryz.prog 130 17=some (17,1):=by kernel_rfl
theorem Q67:Qae Tryz.prog 130 18=some (18,1):=by kernel_rfl
theorem Q68:Qae Tryz.prog 130 19=some (19,1):=by kernel_rfl
theorem Zn4:tyOk Tryz.prog 131=true:=by kernel_rfl
theorem Zfj:Qb4 Tryz.prog 131=true:=by kernel_rfl
theorem Qvm:(Tryz.prog.info? 131).isSome=true:=by kernel_rfl
theorem Q69:Qa2 Tryz.prog 131=some (36,288):=by kernel_rfl
theorem Q0n:Tryz.prog.cellsOf 131=36:=by kernel_rfl
theorem Q7a:Qa6 Tryz.prog 131=some (PV.agg [PV.int IntKind.i64 0,PV.int IntKind.i64 0,PV.int IntKind.i64 0,PV.int IntKind.i64 0,PV.int IntKind.i64 0,PV.int IntKind.i64 0,PV.int IntKind.i64 0,PV.int IntKind.i64 0,PV.int IntKind.i64 0,PV.int IntKind.i64 0,PV.int IntKind.i64 0,PV.int IntKind.i64 0,PV.int IntKind.i64 0,PV.int IntKind.i64 0,PV.int IntKind.i64 0,PV.int IntKind.i64 0,PV.int IntKind.i64 0,PV.int IntKind.i64 0,PV.int IntKind.i64 0,PV.int IntKind.i64 0,PV.int IntKind.i64 0,PV.int IntKind.i64 0,PV.int IntKind.i64 0,PV.int IntKind.i64 0,PV.int IntKind.i64 0,PV.int IntKind.i64 0,PV.int IntKind.i64 0,PV.int IntKind.i64 0,PV.int IntKind.i64 0,PV.int IntKind.i64 0,PV.int IntKind.i64 0,PV.int IntKind.i64 0,PV.int IntKind.i64 0,PV.int IntKind.i64 0,PV.int IntKind.i64 0,PV.int IntKind.i64 0]):=by kernel_rfl
theorem Zfk:Qgk Tryz.prog 131=some (6,130):=by kernel_rfl
theorem Q0o:buildable Tryz.prog 131=true:=by kernel_rfl
theorem Zfl:Qae Tryz.prog 131 0=some (0,6):=by kernel_rfl
theorem Zfm:Qae Tryz.prog 131 1=some (6,6):=by kernel_rfl
theorem Zfn:Qae Tryz.prog 131 2=some (12,6):=by kernel_rfl
theorem Zfo:Qae Tryz.prog 131 3=some (18,6):=by kernel_rfl
theorem Zfp:Qae Tryz.prog 131 4=some (24,6):=by kernel_rfl
theorem Zfq:Qae Tryz.prog 131 5=some (30,6):=by kernel_rfl
theorem Zfr:Qae Tryz.prog 131 6=some (36,6):=by kernel_rfl
theorem Zfs:Qae Tryz.prog 131 7=some (42,6):=by kernel_rfl
theorem Zft:Qae Tryz.prog 131 8=some (48,6):=by kernel_rfl
theorem Zfu:Qae Tryz.prog 131 9=some (54,6):=by kernel_rfl
theorem Q7b:Qae Tryz.prog 131 10=some (60,6):=by kernel_rfl
theorem Q7c:Qae Tryz.prog 131 11=some (66,6):=by kernel_rfl
theorem Q7d:Qae Tryz.prog 131 12=some (72,6):=by kernel_rfl
theorem Q7e:Qae Tryz.prog 131 13=some (78,6):=by kernel_rfl
theorem Q7f:Qae Tryz.prog 131 14=some (84,6):=by kernel_rfl
theorem Q7g:Qae Tryz.prog 131 15=some (90,6):=by kernel_rfl
theorem Q7h:Qae Tryz.prog 131 16=some (96,6):=by kernel_rfl
theorem Q7i:Qae Tryz.prog 131 17=some (102,6):=by kernel_rfl
theorem Q7j:Qae Tryz.prog 131 18=some (108,6):=by kernel_rfl
theorem Q7k:Qae Tryz.prog 131 19=some (114,6):=by kernel_rfl
theorem Zn5:tyOk Tryz.prog 141=true:=by kernel_rfl
theorem Zfv:Qb4 Tryz.prog 141=false:=by kernel_rfl
theorem Qvn:(Tryz.prog.info? 141).isSome=true:=by kernel_rfl
theorem Q7l:Qa2 Tryz.prog 141=some (1,8):=by kernel_rfl
theorem Q0p:Tryz.prog.cellsOf 141=1:=by kernel_rfl
theorem Q7m:Qa6 Tryz.prog 141=some (PV.int IntKind.u64 0):=by kernel_rfl
theorem Zfw:Tryz.prog.underlying 141=some (.int .u64):=by kernel_rfl
theorem Zn6:tyOk Tryz.prog 149=true:=by kernel_rfl
theorem Zfx:Qb4 Tryz.prog 149=false:=by kernel_rfl
theorem Qvo:(Tryz.prog.info? 149).isSome=true:=by kernel_rfl
theorem Q7n:Qa2 Tryz.prog 149=some (1,24):=by kernel_rfl
theorem Q0q:Tryz.prog.cellsOf 149=1:=by kernel_rfl
theorem Q7o:Qa6 Tryz.prog 149=some PV.nilS:=by kernel_rfl
theorem Q7p:Qb3 Tryz.prog 149=some 5:=by kernel_rfl
theorem Qhr:Tryz.prog.underlying 149=some (.slice 5):=by kernel_rfl
theorem Q7q (es:List PV):Qbd Tryz.prog 149 (.slc es)=some (.int .i64 es.length):=by simp only [Qbd,Qhr]
theorem Q7r:Qbd Tryz.prog 149 .nilS=some (.int .i64 0):=by simp only [Qbd,Qhr]
theorem Q7s (b e o n:Nat):Qbd Tryz.prog 149 (.bs b e o n)=some (.int .i64 n):=by simp only [Qbd,Qhr]
theorem Zn7:tyOk Tryz.prog 158=true:=by kernel_rfl
theorem Zfy:Qb4 Tryz.prog 158=false:=by kernel_rfl
theorem Qvp:(Tryz.prog.info? 158).isSome=true:=by kernel_rfl
theorem Q7t:Qa2 Tryz.prog 158=some (1,8):=by kernel_rfl
theorem Q0r:Tryz.prog.cellsOf 158=1:=by kernel_rfl
theorem Zn8:tyOk Tryz.prog 159=true:=by kernel_rfl
theorem Zfz:Qb4 Tryz.prog 159=true:=by kernel_rfl
theorem Qvq:(Tryz.prog.info? 159).isSome=true:=by kernel_rfl
theorem Q7u:Qa2 Tryz.prog 159=some (3,24):=by kernel_rfl
theorem Q0s:Tryz.prog.cellsOf 159=3:=by kernel_rfl
theorem Zf0:Qgk Tryz.prog 159=some (3,158):=by kernel_rfl
theorem Q0t:buildable Tryz.prog 159=true:=by kernel_rfl
theorem Zf1:Qae Tryz.prog 159 0=some (0,1):=by kernel_rfl
theorem Zf2:Qae Tryz.prog 159 1=some (1,1):=by kernel_rfl
theorem Zf3:Qae Tryz.prog 159 2=some (2,1):=by kernel_rfl
theorem Zf4:Qae Tryz.prog 159 3=some (3,1):=by kernel_rfl
theorem Zf5:Qae Tryz.prog 159 4=some (4,1):=by kernel_rfl
theorem Zf6:Qae Tryz.prog 159 5=some (5,1):=by kernel_rfl
theorem Zf7:Qae Tryz.prog 159 6=some (6,1):=by kernel_rfl
theorem Zf8:Qae Tryz.prog 159 7=some (7,1):=by kernel_rfl
theorem Zf9:Qae Tryz.prog 159 8=some (8,1):=by kernel_rfl
theorem Zga:Qae Tryz.prog 159 9=some (9,1):=by kernel_rfl
theorem Q7v:Qae Tryz.prog 159 10=some (10,1):=by kernel_rfl
theorem Q7w:Qae Tryz.prog 159 11=some (11,1):=by kernel_rfl
theorem Q7x:Qae Tryz.prog 159 12=some (12,1):=by kernel_rfl
theorem Q7y:Qae Tryz.prog 159 13=some (13,1):=by kernel_rfl
theorem Q7z:Qae Tryz.prog 159 14=some (14,1):=by kernel_rfl
theorem Q70:Qae Tryz.prog 159 15=some (15,1):=by kernel_rfl
theorem Q71:Qae Tryz.prog 159 16=some (16,1):=by kernel_rfl
theorem Q72:Qae Tryz.prog 159 17=some (17,1):=by kernel_rfl
theorem Q73:Qae Tryz.prog 159 18=some (18,1):=by kernel_rfl
theorem Q74:Qae Tryz.prog 159 19=some (19,1):=by kernel_rfl
theorem Zn9:tyOk Tryz.prog 188=true:=by kernel_rfl
theorem Zgb:Qb4 Tryz.prog 188=true:=by kernel_rfl
theorem Qvr:(Tryz.prog.info? 188).isSome=true:=by kernel_rfl
theorem Q75:Qa2 Tryz.prog 188=some (1,8):=by kernel_rfl
theorem Q0u:Tryz.prog.cellsOf 188=1:=by kernel_rfl
theorem Q76:Qa6 Tryz.prog 188=some (PV.agg [PV.int IntKind.i64 0]):=by kernel_rfl
theorem Q0v:buildable Tryz.prog 188=true:=by kernel_rfl
theorem Zgc:Qbe Tryz.prog 188 0=some (0,34,1):=by kernel_rfl
theorem Zgd:Qae Tryz.prog 188 0=some (0,1):=by kernel_rfl
theorem Zge:Qdk Tryz.prog 188=some [1]:=by kernel_rfl
theorem Zoa:tyOk Tryz.prog 190=true:=by kernel_rfl
theorem Zgf:Qb4 Tryz.prog 190=true:=by kernel_rfl
theorem Qvs:(Tryz.prog.info? 190).isSome=true:=by kernel_rfl
theorem Q77:Qa2 Tryz.prog 190=some (1,8):=by kernel_rfl
theorem Q0w:Tryz.prog.cellsOf 190=1:=by kernel_rfl
theorem Q78:Qa6 Tryz.prog 190=some (PV.agg [PV.int IntKind.i64 0]):=by kernel_rfl
theorem Q0x:buildable Tryz.prog 190=true:=by kernel_rfl
theorem Zgg:Qbe Tryz.prog 190 0=some (0,188,1):=by kernel_rfl
theorem Zgh:Qae Tryz.prog 190 0=some (0,1):=by kernel_rfl
theorem Zgi:Qdk Tryz.prog 190=some [1]:=by kernel_rfl
theorem Zob:tyOk Tryz.prog 194=true:=by kernel_rfl
theorem Zgj:Qb4 Tryz.prog 194=false:=by kernel_rfl
theorem Qvt:(Tryz.prog.info? 194).isSome=true:=by kernel_rfl
theorem Q79:Qa2 Tryz.prog 194=some (1,8):=by kernel_rfl
theorem Q0y:Tryz.prog.cellsOf 194=1:=by kernel_rfl
theorem Q8a:Qa6 Tryz.prog 194=some (PV.int IntKind.i64 0):=by kernel_rfl
theorem Zgk:Tryz.prog.underlying 194=some (.int .i64):=by kernel_rfl
theorem Zoc:tyOk Tryz.prog 203=true:=by kernel_rfl
theorem Zgl:Qb4 Tryz.prog 203=false:=by kernel_rfl
theorem Qvu:(Tryz.prog.info? 203).isSome=true:=by kernel_rfl
theorem Q8b:Qa2 Tryz.prog 203=some (1,4):=by kernel_rfl
theorem Q0z:Tryz.prog.cellsOf 203=1:=by kernel_rfl
theorem Q8c:Qa6 Tryz.prog 203=some (PV.int IntKind.u32 0):=by kernel_rfl
theorem Zgm:Tryz.prog.underlying 203=some (.int .u32):=by kernel_rfl
theorem Zod:tyOk Tryz.prog 210=true:=by kernel_rfl
theorem Zgn:Qb4 Tryz.prog 210=false:=by kernel_rfl
theorem Qvv:(Tryz.prog.info? 210).isSome=true:=by kernel_rfl
theorem Q8d:Qa2 Tryz.prog 210=some (1,8):=by kernel_rfl
theorem Q00:Tryz.prog.cellsOf 210=1:=by kernel_rfl
theorem Q8e:Qa6 Tryz.prog 210=some (PV.int IntKind.u64 0):=by kernel_rfl
theorem Zgo:Tryz.prog.underlying 210=some (.int .u64):=by kernel_rfl
theorem Zoe:tyOk Tryz.prog 214=true:=by kernel_rfl
theorem Zgp:Qb4 Tryz.prog 214=false:=by kernel_rfl
theorem Qvw:(Tryz.prog.info? 214).isSome=true:=by kernel_rfl
theorem Q8f:Qa2 Tryz.prog 214=some (1,8):=by kernel_rfl
theorem Q01:Tryz.prog.cellsOf 214=1:=by kernel_rfl
theorem Zof:tyOk Tryz.prog 227=true:=by kernel_rfl
theorem Zgq:Qb4 Tryz.prog 227=false:=by kernel_rfl
theorem Qvx:(Tryz.prog.info? 227).isSome=true:=by kernel_rfl
theorem Q8g:Qa2 Tryz.prog 227=some (1,16):=by kernel_rfl
theorem Q02:Tryz.prog.cellsOf 227=1:=by kernel_rfl
theorem Q8h:Qa6 Tryz.prog 227=some PV.nilI:=by kernel_rfl
attribute [go_sem] Zty Zq4 Q4o Zk1 Zb8 Zk2 Zq5 Ztz Zq6 Q4p Zk3 Zb9 Zk4 Zk5 Zt0 Zq7
attribute [go_sem] Q4q Zk6 Zca Zk7 Zq8 Zt1 Zq9 Q4r Zk8 Zcb Zk9 Zi0 Zla Zra Zlb Qzu
attribute [go_sem] Zcc Q4s Zcd Zce Qi9 Zcf Zcg Zch Zrb Zlc Qzv Zci Q4t Zcj Q4u Zld
attribute [go_sem] Zle Zlf Zlg Zlh Zli Zlj Zlk Zll Zlm Zln Zlo Zrc Zlp Qzw Zck Q4v
attribute [go_sem] Zcl Zcm Qja Zcn Zco Zcp Zrd Zlq Qzx Zcq Q4w Zcr Q4x Zlr Zls Zlt
attribute [go_sem] Zlu Zlv Zre Zlw Qzy Zcs Q4y Zct Q4z Zlx Zly Zlz Zl0 Zl1 Zl2 Zl3
attribute [go_sem] Zl4 Zl5 Zrf Zl6 Qzz Zcu Q40 Zcv Zl7 Zrg Zl8 Qz0 Zcw Q41 Zcx Q42
attribute [go_sem] Zl9 Zma Zmb Zmc Zmd Zme Zmf Zrh Zmg Qz1 Zcy Q43 Zcz Zc0 Qjb Zc1
attribute [go_sem] Zc2 Zc3 Zri Zmh Qz2 Zc4 Q44 Zc5 Q45 Zmi Zmj Zmk Zml Zrj Zmm Qz3
attribute [go_sem] Zc6 Q46 Zc7 Q47 Zmn Zmo Zmp Zmq Zrk Zmr Qz4 Zc8 Q48 Zc9 Zrl Zms
attribute [go_sem] Qz5 Zda Q49 Zdb Zmt Q5a Zmu Zmv Zmw Zmx Zmy Zmz Zm0 Zm1 Zm2 Zm3
attribute [go_sem] Zdc Zdd Zde Zdf Zdg Zdh Zdi Zdj Zdk Zdl Zrm Zm4 Qz6 Zdm Q5b Zdn
attribute [go_sem] Zdo Qjc Zdp Zdq Zdr Zrn Zm5 Qz7 Zds Q5c Zdt Zm6 Q5d Zm7 Zm8 Zm9
attribute [go_sem] Zna Znb Znc Znd Zne Znf Zng Zdu Zdv Zdw Zdx Zdy Zdz Zd0 Zd1 Zd2
attribute [go_sem] Zd3 Zro Znh Qz8 Zd4 Q5e Zd5 Zni Q5f Znj Znk Znl Znm Znn Zno Znp
attribute [go_sem] Znq Znr Zns Zd6 Zd7 Zd8 Zd9 Zea Zeb Zec Zed Zee Zef Zrp Znt Qz9
attribute [go_sem] Zeg Q5g Zeh Znu Zei Qvc Q5h Q0a Q5i Q5j Qhl Q5k Q5l Q5m Znv Zej
attribute [go_sem] Qvd Q5n Q0b Q5o Q5p Qhm Q5q Q5r Q5s Znw Zek Qve Q5t Q0c Q5u Zel
attribute [go_sem] Q0d Zem Zen Zeo Zep Zeq Zer Zes Zet Zeu Zev Q5v Q5w Q5x Q5y Q5z
attribute [go_sem] Q50 Q51 Q52 Q53 Q54 Znx Zew Qvf Q55 Q0e Q56 Q57 Qhn Q58 Q59 Q6a
attribute [go_sem] Zny Zex Qvg Q6b Q0f Q6c Q6d Qho Q6e Q6f Q6g Znz Zey Qvh Q6h Q0g
attribute [go_sem] Q6i Q6j Qhp Q6k Q6l Q6m Zn0 Zez Qvi Q6n Q0h Q6o Ze0 Zn1 Ze1 Qvj
attribute [go_sem] Q6p Q0i Q6q Q6r Qhq Q6s Q6t Q6u Zn2 Ze2 Qvk Q6v Q0j Q6w Q0k Ze3
attribute [go_sem] Ze4 Ze5 Ze6 Zn3 Ze7 Qvl Q6x Q0l Q6y Ze8 Q0m Ze9 Zfa Zfb Zfc Zfd
attribute [go_sem] Zfe Zff Zfg Zfh Zfi Q6z Q60 Q61 Q62 Q63 Q64 Q65 Q66 Q67 Q68 Zn4
attribute [go_sem] Zfj Qvm Q69 Q0n Q7a Zfk Q0o Zfl Zfm Zfn Zfo Zfp Zfq Zfr Zfs Zft
attribute [go_sem] Zfu Q7b Q7c Q7d Q7e Q7f Q7g Q7h Q7i Q7j Q7k Zn5 Zfv Qvn Q7l Q0p
attribute [go_sem] Q7m Zfw Zn6 Zfx Qvo Q7n Q0q Q7o Q7p Qhr Q7q Q7r Q7s Zn7 Zfy Qvp
attribute [go_sem] Q7t Q0r Zn8 Zfz Qvq Q7u Q0s Zf0 Q0t Zf1 Zf2 Zf3 Zf4 Zf5 Zf6 Zf7
attribute [go_sem] Zf8 Zf9 Zga Q7v Q7w Q7x Q7y Q7z Q70 Q71 Q72 Q73 Q74 Zn9 Zgb Qvr
attribute [go_sem] Q75 Q0u Q76 Q0v Zgc Zgd Zge Zoa Zgf Qvs Q77 Q0w Q78 Q0x Zgg Zgh
attribute [go_sem] Zgi Zob Zgj Qvt Q79 Q0y Q8a Zgk Zoc Zgl Qvu Q8b Q0z Q8c Zgm Zod
attribute [go_sem] Zgn Qvv Q8d Q00 Q8e Zgo Zoe Zgp Qvw Q8f Q01 Zof Zgq Qvx Q8g Q02
attribute [go_sem] Q8h
end Go.Proofs.YtlpiamlgibomhaaGreat

namespace Go.Dg
def digs (B n:Nat):List Nat:=if h:n=0∨B<2 then []else n%B::digs B (n/B)
termination_by n
decreasing_by
 simp only [not_or,Nat.not_lt]at h
 exact Nat.div_lt_self (Nat.pos_of_ne_zero h.1) h.2
def val (B:Nat):List Nat→Nat
 | []=>0
 |d::l=>d+B*val B l
section
variable {B:Nat}
theorem Qaz:digs B 0=[]:=by unfold digs;simp
theorem Qfi (hB:2≤B) {n:Nat} (hn:n≠0):digs B n=n%B::digs B (n/B):=by
 conv=>lhs;unfold digs
 rw [dif_neg]
 simp only [not_or,Nat.not_lt]
 exact⟨hn,hB⟩
theorem Qqm (hB:2≤B) (n:Nat):val B (digs B n)=n:=by
 induction n using Nat.strongRecOn with
 |_ n ih=>
  by_cases hn:n=0
  ·subst hn;rw [Qaz];rfl
  ·rw [Qfi hB hn]
   simp only [val]
   rw [ih _ (Nat.div_lt_self (Nat.pos_of_ne_zero hn) hB)]
   exact Nat.mod_add_div n B
theorem Qqn (hB:2≤B) (n k:Nat):(digs B n)[k]? =if n/B^k=0 then none else some (n/B^k%B):=by
 induction k generalizing n with
 |zero=>
  by_cases hn:n=0
  ·subst hn;simp [Qaz]
  ·rw [Qfi hB hn];simp [hn]
 |succ k ih=>
  by_cases hn:n=0
  ·subst hn;simp [Qaz]
  ·rw [Qfi hB hn,List.getElem?_cons_succ,ih]
   have:n/B/B^k=n/B^(k+1):=by rw [Nat.div_div_eq_div_mul,Nat.pow_succ,Nat.mul_comm]
   rw [this]
theorem Qcf (hB:2≤B) (n k:Nat):k<(digs B n).length↔n/B^k≠0:=by
 have:=Qqn hB n k
 constructor
 ·intro h hz
  rw [if_pos hz,List.getElem?_eq_none_iff]at this
  omega
 ·intro h
  rw [if_neg h]at this
  exact(List.getElem?_eq_some_iff.1 this).1
theorem Qap (hB:2≤B) (n k:Nat):(digs B n).length≤k↔n<B^k:=by
 have h:=Qcf hB n k
 have hp:0<B^k:=Nat.pow_pos (by omega)
 rw [←Nat.not_lt,h,Decidable.not_not,Nat.div_eq_zero_iff]
 omega
theorem Qa1 (hB:2≤B) (n:Nat):n<B^(digs B n).length:=(Qap hB n _).1 (Nat.le_refl _)
theorem Qar (hB:2≤B) {n k:Nat} (h:k<(digs B n).length):(digs B n)[k]? =some (n/B^k%B):=by
 rw [Qqn hB,if_neg ((Qcf hB n k).1 h)]
theorem Qmp (hB:2≤B) {n d:Nat} (h:d∈digs B n):d<B:=by
 obtain⟨k,hk⟩:=List.mem_iff_getElem?.1 h
 rw [Qqn hB]at hk
 split at hk
 ·cases hk
 ·cases hk;exact Nat.mod_lt _ (by omega)
theorem Qa9 (hB:2≤B) {n k:Nat} (h:(digs B n).length≤k):n/B^k=0:=by
 have:=(Qap hB n k).1 h
 exact Nat.div_eq_of_lt this
theorem Qbk (hB:2≤B) {n:Nat}:digs B n=[]↔n=0:=by
 constructor
 ·intro h;have:=Qqm hB n;rw [h]at this;exact this.symm
 ·rintro rfl;exact Qaz
def lows (B n i:Nat):List Nat:=(List.range i).map fun k=>n/B^k%B
theorem Qaj (n i:Nat):(lows B n i).length=i:=by simp [lows]
theorem Qdc (n i:Nat):lows B n (i+1)=lows B n i++[n/B^i%B]:=by simp [lows,List.range_succ]
theorem Qbt (n i k:Nat) (h:k<i):(lows B n i)[k]? =some (n/B^k%B):=by simp [lows,h]
theorem Qse (n i:Nat):lows B n (i+1)=n%B::lows B (n/B) i:=by
 simp only [lows,List.range_succ_eq_map,List.map_cons,Nat.pow_zero,Nat.div_one,List.map_map]
 congr 1
 apply List.map_congr_left
 intro k _
 simp only [Function.comp,Nat.succ_eq_add_one]
 rw [Nat.div_div_eq_div_mul,Nat.pow_succ,Nat.mul_comm]
theorem Zax (hB:0<B) (n i:Nat):val B (lows B n i)=n%B^i:=by
 induction i generalizing n with
 |zero=>simp [lows,val,Nat.mod_one]
 |succ i ih=>
  rw [Qse]
  simp only [val]
  rw [ih,Nat.pow_succ,Nat.mul_comm (B^i) B,Nat.mod_mul]
theorem Qgs (hB:2≤B) (n:Nat):lows B n (digs B n).length=digs B n:=by
 apply List.ext_getElem?
 intro k
 by_cases hk:k<(digs B n).length
 ·rw [Qbt _ _ _ hk,Qar hB hk]
 ·rw [List.getElem?_eq_none (by rw [Qaj];omega),List.getElem?_eq_none (by omega)]
def Qda (l:List Nat):List Nat:=(l.reverse.dropWhile (· ==0)).reverse
theorem Qcq (l:List Nat):Qda (l++[0])=Qda l:=by simp [Qda]
theorem Qep (l:List Nat) {d:Nat} (h:d≠0):Qda (l++[d])=l++[d]:=by simp [Qda,h]
theorem Q2g:Qda []=[]:=rfl
theorem Qpa (l m:List Nat):val B (l++m)=val B l+B^l.length*val B m:=by
 induction l with
 |nil=>simp [val]
 |cons d l ih=>
  simp only [List.cons_append,val,ih,List.length_cons,Nat.pow_succ]
  rw [Nat.mul_add,Nat.add_assoc,←Nat.mul_assoc,Nat.mul_comm B (B^l.length)]
theorem Zp0 (hB:0<B) {l:List Nat} (h: ∀d∈l,d<B):val B l<B^l.length:=by
 induction l with
 |nil=>simp [val]
 |cons d l ih=>
  have h1:=ih fun x hx=>h x (by simp [hx])
  have h2:=h d (by simp)
  simp only [val,List.length_cons,Nat.pow_succ]
  have:B*val B l+B≤B*B^l.length:=by rw [←Nat.mul_succ];exact Nat.mul_le_mul_left _ h1
  rw [Nat.mul_comm (B^l.length)]
  omega
theorem Zay (hB:2≤B) {l:List Nat} (h: ∀d∈l,d<B):lows B (val B l) l.length=l:=by
 induction l with
 |nil=>rfl
 |cons d l ih=>
  have h2:=h d (by simp)
  rw [List.length_cons,Qse]
  simp only [val]
  rw [Nat.add_mul_mod_self_left,Nat.mod_eq_of_lt h2,Nat.add_mul_div_left _ _ (by omega),Nat.div_eq_of_lt h2,Nat.zero_add,ih fun x hx=>h x (by simp [hx])]
theorem Ql2 (hB:2≤B) (l:List Nat) (h: ∀d∈l,d<B):Qda l=digs B (val B l):=by
 have key: ∀n,∀l:List Nat,l.length=n→(∀d∈l,d<B)→Qda l=digs B (val B l):=by
  intro n
  induction n with
  |zero=>intro l hl _;rw [List.length_eq_zero_iff.1 hl];simp [Q2g,val,Qaz]
  |succ n ih=>
   intro l hl h
   have hne:l≠ []:=by rintro rfl;simp at hl
   have hcut:=List.dropLast_concat_getLast hne
   generalize l.dropLast=m at hcut
   generalize l.getLast hne=d at hcut
   subst hcut
   have hm:m.length=n:=by simpa using hl
   have hmd: ∀x∈m,x<B:=fun x hx=>h x (by simp [hx])
   by_cases hd:d=0
   ·subst hd
    rw [Qcq,ih m hm hmd,Qpa]
    simp [val]
   ·rw [Qep m hd]
    have hlen:(digs B (val B (m++[d]))).length=(m++[d]).length:=by
     apply Nat.le_antisymm
     ·exact(Qap hB _ _).2 (Zp0 (by omega) h)
     ·have:(m++[d]).length=m.length+1:=by simp
      rw [this]
      apply (Qcf hB _ _).2
      rw [Qpa]
      simp only [val,Nat.mul_zero,Nat.add_zero]
      rw [Nat.add_mul_div_left _ _ (Nat.pow_pos (by omega))]
      exact fun e=>hd (Nat.eq_zero_of_add_eq_zero_left e)
    have:=Qgs hB (val B (m++[d]))
    rw [hlen,Zay hB h]at this
    exact this
 exact key l.length l rfl h
theorem Qbo (hB:2≤B) (n i:Nat):Qda (lows B n i)=digs B (n%B^i):=by
 rw [Ql2 hB,Zax (by omega)]
 intro d hd
 simp only [lows,List.mem_map]at hd
 obtain⟨k,_,rfl⟩:=hd
 exact Nat.mod_lt _ (by omega)
theorem Qzd {l:List Nat} (h: ∀d,l.getLast? =some d→d≠0):Qda l=l:=by
 by_cases hne:l=[]
 ·subst hne;rfl
 ·have hcut:=List.dropLast_concat_getLast hne
  have hl:l.getLast? =some (l.getLast hne):=List.getLast?_eq_some_getLast hne
  have:=h _ hl
  rw [←hcut]
  exact Qep _ this
end
end Go.Dg

namespace Go.Proofs.YtlpiamlgibomhaaGreat
open Go.Vl Go.RowKit Go.Dg
def di (l:List Nat):PV:= .slc (l.map fun d:Nat=>PV.int .i64 (d:Int))
theorem Qey (l:List Nat) (k:Nat):(l.map fun d:Nat=>PV.int .i64 (d:Int))[k]? =l[k]?.map fun d:Nat=>PV.int .i64 (d:Int):=List.getElem?_map
theorem Zqa (l:List Nat):((l.map fun d:Nat=>PV.int .i64 (d:Int)).all fun x=>x.cells.length==1)=true:=by rw [List.all_map,List.all_eq_true];intro d _;rfl
theorem wrapn {n:Nat} (h:n<9223372036854775808):IntKind.i64.wrap (n:Int)=n:=Qai (by omega) (by omega)
theorem Qd4 {n:Nat} (h:n<9223372036854775808):IntKind.i64.wrap (((n+1:Nat):Int)-1)=(n:Int):=by
 rw [Qai (by omega) (by omega)];omega
theorem Qfm:maxLen<9223372036854775808:=by simp [maxLen]
theorem Qke (l:List Nat) (hl:l.length≤maxLen):Qaf Tryz.prog 92 [di l] (di (Qda l)):=by
 have hm:=Qfm
 refine Qac (tb:=[]) 21 [.tmp 2] [0,2,14] mixed Tryz.func92 rfl (by kernel_rfl) (by kernel_rfl) (by kernel_rfl) (by kernel_rfl) ?_
 simp -implicitDefEqProofs only [go_sem,Nat.reduceMul,Nat.reduceEqDiff,Nat.reduceLT,Nat.reduceLeDiff,reduceCtorEq,di]
 refine Qas mixed (fun k:{k:Nat // k≤l.length∧Qda (l.take k)=Qda l}=>St.of [(0,di (l.take k.1)),(2,.nilS)] []) (fun k=>k.1) ⟨l.length,Nat.le_refl _,by rw [List.take_length]⟩ ?_ ?_
 ·exact Qa3 (by simp [Qad,lkp,ren1,ren0,di])
 ·rintro⟨k,hk,ht⟩
  have hlen:(l.take k).length=k:=by simp;omega
  cases k with
  |zero=>
   have h1:((0:Int)<((0:Nat):Int))=False:=by simp
   simp -implicitDefEqProofs only [go_sem,Nat.reduceAdd,Nat.reduceMul,Nat.reduceEqDiff,Nat.reduceLT,Nat.reduceLeDiff,reduceCtorEq,di,List.length_map,hlen,h1]
   rw [←ht];rfl
  |succ k=>
   have h1:((0:Int)<((k+1:Nat):Int))=True:=by simp
   have h2:(0≤(k:Int))=True:=by simp
   have hw:=Qd4 (n:=k) (by omega)
   have hlt:k<l.length:=by omega
   have hget:(l.take (k+1))[k]? =some l[k]:=by simp [hlt]
   have hcut:l.take (k+1)=l.take k++[l[k]]:=by rw [List.take_add_one];simp [hlt]
   cases hd:((l[k]:Int)==0)with
   |true=>
    have hd0:l[k]=0:=by simpa using hd
    have h3:((k:Int)≤((k+1:Nat):Int))=True:=by simp;omega
    simp -implicitDefEqProofs only [go_sem,Nat.reduceAdd,Nat.reduceMul,Nat.reduceEqDiff,Nat.reduceLT,Nat.reduceLeDiff,reduceCtorEq,di,List.length_map,hlen,h1,h2,h3,hw,Int.toNat_natCast,Qey,hget,hd,Zqa]
    refine⟨⟨k,by omega,?_⟩,by simp,?_⟩
    ·rw [←ht,hcut,hd0,Qcq]
    ·refine Qa3 (by simp [Qad,lkp,ren1,ren0,di];rw [←List.map_take];simp [List.take_take])
   |false=>
    have hd0:l[k]≠0:=by simpa using hd
    simp -implicitDefEqProofs only [go_sem,Nat.reduceAdd,Nat.reduceMul,Nat.reduceEqDiff,Nat.reduceLT,Nat.reduceLeDiff,reduceCtorEq,di,List.length_map,hlen,h1,h2,hw,Int.toNat_natCast,Qey,hget,hd]
    rw [←ht,hcut,Qep _ hd0]
end Go.Proofs.YtlpiamlgibomhaaGreat

namespace Go.Dg
section
variable {B:Nat}
def carry (B a b i:Nat):Nat:=(a%B^i+b%B^i)/B^i
theorem Qj7 (a b:Nat):carry B a b 0=0:=by simp [carry,Nat.mod_one]
theorem Qqt (hB:0<B) (a b i:Nat):carry B a b i≤1:=by
 have hp:0<B^i:=Nat.pow_pos hB
 have h1:=Nat.mod_lt a hp
 have h2:=Nat.mod_lt b hp
 unfold carry
 rw [Nat.div_le_iff_le_mul hp]
 omega
theorem Qqu (hB:0<B) (a b i:Nat):(a/B^i%B+b/B^i%B+carry B a b i)%B=(a+b)/B^i%B∧(a/B^i%B+b/B^i%B+carry B a b i)/B=carry B a b (i+1):=by
 have hp:0<B^i:=Nat.pow_pos hB
 unfold carry
 generalize hP:B^i=P at*
 have e1:(a+b)/P=a/P+b/P+(a%P+b%P)/P:=by
  conv=>lhs;rw [←Nat.div_add_mod a P,←Nat.div_add_mod b P]
  have:P*(a/P)+a%P+(P*(b/P)+b%P)=(a%P+b%P)+P*(a/P+b/P):=by rw [Nat.mul_add];omega
  rw [this,Nat.add_mul_div_left _ _ hp]
  omega
 constructor
 ·rw [e1]
  conv=>rhs;rw [Nat.add_mod,Nat.add_mod (a/P)]
  conv=>lhs;rw [Nat.add_mod,Nat.add_mod (a/P%B)]
  simp
 ·have hP1:B^(i+1)=P*B:=by rw [Nat.pow_succ,hP]
  rw [hP1,Nat.mod_mul,Nat.mod_mul]
  have:a%P+P*(a/P%B)+(b%P+P*(b/P%B))=(a%P+b%P)+P*(a/P%B+b/P%B):=by rw [Nat.mul_add];omega
  rw [this,←Nat.div_div_eq_div_mul,Nat.add_mul_div_left _ _ hp]
  congr 1
  omega
theorem Q2k (hB:0<B) (a b i:Nat):(carry B a b i+a/B^i%B+b/B^i%B)%B=(a+b)/B^i%B∧(carry B a b i+a/B^i%B+b/B^i%B)/B=carry B a b (i+1):=by
 have h:=Qqu hB a b i
 have e:carry B a b i+a/B^i%B+b/B^i%B=a/B^i%B+b/B^i%B+carry B a b i:=by omega
 rw [e];exact h
theorem Qmu (hB:2≤B) {n i:Nat} (h1:n<B^i) (h2: ∀j,j<i→n/B^j≠0):lows B n i=digs B n:=by
 have hl:(digs B n).length=i:=by
  apply Nat.le_antisymm ((Qap hB n i).2 h1)
  rcases Nat.eq_zero_or_pos i with rfl|hi
  ·exact Nat.zero_le _
  ·have:=(Qcf hB n (i-1)).2 (h2 (i-1) (by omega))
   omega
 rw [←hl,Qgs hB]
theorem Za0 (hB:2≤B) {a b i:Nat} (ha:(digs B a).length≤i) (hb:(digs B b).length≤i) (hc:carry B a b i=0):a+b<B^i:=by
 have h1:=(Qap hB a i).1 ha
 have h2:=(Qap hB b i).1 hb
 unfold carry at hc
 rw [Nat.mod_eq_of_lt h1,Nat.mod_eq_of_lt h2,Nat.div_eq_zero_iff]at hc
 have:0<B^i:=Nat.pow_pos (by omega)
 omega
theorem Za1 (hB:2≤B) {a b i:Nat} (h:i<(digs B a).length∨i<(digs B b).length∨0<carry B a b i):(a+b)/B^i≠0:=by
 have hp:0<B^i:=Nat.pow_pos (by omega)
 have hle:B^i≤a+b:=by
  rcases h with h|h|h
  ·have:=(Qcf hB a i).1 h
   have:=Nat.div_eq_zero_iff (a:=a) (b:=B^i)
   omega
  ·have:=(Qcf hB b i).1 h
   have:=Nat.div_eq_zero_iff (a:=b) (b:=B^i)
   omega
  ·unfold carry at h
   have h1:=Nat.mod_le a (B^i)
   have h2:=Nat.mod_le b (B^i)
   have h3:=Nat.div_eq_zero_iff (a:=a%B^i+b%B^i) (b:=B^i)
   omega
 have:=Nat.div_eq_zero_iff (a:=a+b) (b:=B^i)
 omega
end
end Go.Dg

namespace Go.Proofs.YtlpiamlgibomhaaGreat
open Go.Vl Go.RowKit Go.Dg
abbrev E9:Nat:=1000000000
theorem E9_2:2≤E9:=by decide
abbrev fI:Nat→PV:=fun d:Nat=>PV.int .i64 (d:Int)
theorem Qk1 (l:List Nat):(((l.map fun d:Nat=>PV.int .i64 (d:Int)).flatMap PV.cells).all PV.okCell)=true:=by
 rw [List.all_eq_true]
 intro x hx
 obtain⟨y,hy,hx⟩:=List.mem_flatMap.1 hx
 obtain⟨d,_,rfl⟩:=List.mem_map.1 hy
 simp only [Zsr,List.mem_singleton]at hx
 subst hx;rfl
theorem Qq1 (n:Nat):Int.tmod (n:Int) 1000000000=((n%1000000000:Nat):Int):=by
 rw [Int.tmod_eq_emod_of_nonneg (by omega)];rfl
theorem Qq2 (n:Nat):Int.tdiv (n:Int) 1000000000=((n/1000000000:Nat):Int):=by
 rw [Int.tdiv_eq_ediv_of_nonneg (by omega)];rfl
theorem Qcl {a b:Nat} (h:a+b<9223372036854775808):IntKind.i64.wrap ((a:Int)+(b:Int))=((a+b:Nat):Int):=by
 rw [Qai (by omega) (by omega)];omega
theorem Qah {a:Nat} (h:a+1<9223372036854775808):IntKind.i64.wrap ((a:Int)+1)=((a+1:Nat):Int):=by
 rw [Qai (by omega) (by omega)];omega
theorem Zkg (a b:Nat) (hl:(digs E9 (a+b)).length≤1000000000):Qaf Tryz.prog 133 [di (digs E9 a),di (digs E9 b)] (di (digs E9 (a+b))):=by
 have hm:=Qfm
 refine Qac (tb:=[]) 52 [.tmp 4] [0,1,4,5,6,7,21,27,37] mixed Tryz.func133 rfl (by kernel_rfl) (by kernel_rfl) (by kernel_rfl) (by kernel_rfl) ?_
 simp -implicitDefEqProofs only [go_sem,Nat.reduceAdd,Nat.reduceMul,Nat.reduceEqDiff,Nat.reduceLT,Nat.reduceLeDiff,reduceCtorEq,di]
 refine Qas mixed (fun i:{i:Nat // i≤(digs E9 (a+b)).length∧ ∀j,j<i→(a+b)/E9^j≠0}=>St.of [(0,di (digs E9 a)),(1,di (digs E9 b)),(4,.nilS),(5,.bs 7 1 0 i.1),(6,.int .i64 (carry E9 a b i.1:Int)),(7,.int .i64 (i.1:Int))]
  [(7,{els:=(lows E9 (a+b) i.1).map fI,esz:=1,ety:=3,fro:=0,live:=true,arr:=true})]) (fun i=>(digs E9 (a+b)).length+1-i.1) ⟨0,Nat.zero_le _,by omega⟩ ?_ ?_
 ·refine Qhd 5 7 1 3 rfl rfl rfl (by decide) [(7,7)] rfl ?_ ?_
  ·simp [Qad,lkp,ren1,ren0,di,Qj7]
  ·simp [Qal,lkp,Box.renames,lows]
 ·rintro⟨i,hi,hmore⟩
  have h0:(0≤(i:Int))=True:=by simp
  have hll:=Qaj (B:=E9) (a+b) i
  have hcle:=Qqt (B:=E9) (by decide) a b i
  obtain⟨hs1,hs2⟩:(carry E9 a b i+a/E9^i%E9+b/E9^i%E9)%1000000000=(a+b)/E9^i%E9∧(carry E9 a b i+a/E9^i%E9+b/E9^i%E9)/1000000000=carry E9 a b (i+1):=Q2k (B:=E9) (by decide) a b i
  have hda:a/E9^i%E9<E9:=Nat.mod_lt _ (by decide)
  have hdb:b/E9^i%E9<E9:=Nat.mod_lt _ (by decide)
  have hb1:((i+1)*8≤140737488355328)=True:=by simp;omega
  have hb2:(i+1≤maxLen)=True:=by simp [maxLen];omega
  have hwi:=Qah (a:=i) (by omega)
  have next: ∀s,((i<(digs E9 a).length)∨(i<(digs E9 b).length)∨0<carry E9 a b i)→Le s (St.of [(0,di (digs E9 a)),(1,di (digs E9 b)),(4,.nilS),(5,.bs 7 1 0 (i+1)),(6,.int .i64 (carry E9 a b (i+1):Int)),(7,.int .i64 ((i+1:Nat):Int))]
    [(7,{els:=(lows E9 (a+b) (i+1)).map fI,esz:=1,ety:=3,fro:=0,live:=true,arr:=true})])→
    ∃y:{i:Nat // i≤(digs E9 (a+b)).length∧ ∀j,j<i→(a+b)/E9^j≠0},(digs E9 (a+b)).length+1-y.1<(digs E9 (a+b)).length+1-i∧
     Le s (St.of [(0,di (digs E9 a)),(1,di (digs E9 b)),(4,.nilS),(5,.bs 7 1 0 y.1),(6,.int .i64 (carry E9 a b y.1:Int)),(7,.int .i64 (y.1:Int))]
      [(7,{els:=(lows E9 (a+b) y.1).map fI,esz:=1,ety:=3,fro:=0,live:=true,arr:=true})]):=by
   intro s hc hle
   have hne:=Za1 E9_2 hc
   have hlt:=(Qcf E9_2 _ _).2 hne
   exact⟨⟨i+1,hlt,fun j hj=>(Nat.lt_succ_iff_lt_or_eq.1 hj).elim (hmore j) fun h=>h▸hne⟩,by simp only;omega,hle⟩
  by_cases hA:i<(digs E9 a).length
  ·have hA':((i:Int)<((digs E9 a).length:Int))=True:=by simp;omega
   have hga:=Qar E9_2 hA
   by_cases hB:i<(digs E9 b).length
   ·have hB':((i:Int)<((digs E9 b).length:Int))=True:=by simp;omega
    have hgb:=Qar E9_2 hB
    have w1:=Qcl (a:=carry E9 a b i) (b:=a/E9^i%E9) (by simp only [E9]at*;omega)
    have w2:=Qcl (a:=carry E9 a b i+a/E9^i%E9) (b:=b/E9^i%E9) (by simp only [E9]at*;omega)
    have w3:=wrapn (n:=(carry E9 a b i+a/E9^i%E9+b/E9^i%E9)/1000000000) (by simp only [E9]at*;omega)
    simp -implicitDefEqProofs only [go_sem,Nat.reduceAdd,Nat.reduceMul,Nat.reduceEqDiff,Nat.reduceLT,Nat.reduceLeDiff,reduceCtorEq,Int.reduceEq,Nat.reduceBneDiff,di,List.length_map,hA',hB',h0,Qey,hga,hgb,w1,w2,w3,Qq1,Qq2,hll,Qk1,hb1,hb2,hwi]
    refine next _ (.inl hA) (Qak (θ:=[(7,1004)]) rfl ?_ ?_)
    ·simp [Qad,lkp,ren1,ren0,di,hs2]
    ·simp [Qal,lkp,Box.renames,Qdc,hs1]
   ·have hB':((i:Int)<((digs E9 b).length:Int))=False:=by simp;omega
    have hb0:b/E9^i%E9=0:=by rw [Qa9 E9_2 (Nat.le_of_not_lt hB),Nat.zero_mod]
    rw [hb0,Nat.add_zero]at hs1 hs2
    have w1:=Qcl (a:=carry E9 a b i) (b:=a/E9^i%E9) (by simp only [E9]at*;omega)
    have w3:=wrapn (n:=(carry E9 a b i+a/E9^i%E9)/1000000000) (by simp only [E9]at*;omega)
    simp -implicitDefEqProofs only [go_sem,Nat.reduceAdd,Nat.reduceMul,Nat.reduceEqDiff,Nat.reduceLT,Nat.reduceLeDiff,reduceCtorEq,Int.reduceEq,Nat.reduceBneDiff,di,List.length_map,hA',hB',h0,Qey,hga,w1,w3,Qq1,Qq2,hll,Qk1,hb1,hb2,hwi]
    refine next _ (.inl hA) (Qak (θ:=[(7,1004)]) rfl ?_ ?_)
    ·simp [Qad,lkp,ren1,ren0,di,hs2]
    ·simp [Qal,lkp,Box.renames,Qdc,hs1]
  ·have hA':((i:Int)<((digs E9 a).length:Int))=False:=by simp;omega
   have ha0:a/E9^i%E9=0:=by rw [Qa9 E9_2 (Nat.le_of_not_lt hA),Nat.zero_mod]
   rw [ha0,Nat.add_zero]at hs1 hs2
   by_cases hB:i<(digs E9 b).length
   ·have hB':((i:Int)<((digs E9 b).length:Int))=True:=by simp;omega
    have hgb:=Qar E9_2 hB
    have w2:=Qcl (a:=carry E9 a b i) (b:=b/E9^i%E9) (by simp only [E9]at*;omega)
    have w3:=wrapn (n:=(carry E9 a b i+b/E9^i%E9)/1000000000) (by simp only [E9]at*;omega)
    simp -implicitDefEqProofs only [go_sem,Nat.reduceAdd,Nat.reduceMul,Nat.reduceEqDiff,Nat.reduceLT,Nat.reduceLeDiff,reduceCtorEq,Int.reduceEq,Nat.reduceBneDiff,di,List.length_map,hA',hB',h0,Qey,hgb,w2,w3,Qq1,Qq2,hll,Qk1,hb1,hb2,hwi]
    refine next _ (.inr (.inl hB)) (Qak (θ:=[(7,1004)]) rfl ?_ ?_)
    ·simp [Qad,lkp,ren1,ren0,di,hs2]
    ·simp [Qal,lkp,Box.renames,Qdc,hs1]
   ·have hB':((i:Int)<((digs E9 b).length:Int))=False:=by simp;omega
    have hb0:b/E9^i%E9=0:=by rw [Qa9 E9_2 (Nat.le_of_not_lt hB),Nat.zero_mod]
    rw [hb0,Nat.add_zero]at hs1 hs2
    by_cases hC:0<carry E9 a b i
    ·have hC':((0:Int)<(carry E9 a b i:Int))=True:=by simp;omega
     have w3:=wrapn (n:=carry E9 a b i/1000000000) (by simp only [E9]at*;omega)
     simp -implicitDefEqProofs only [go_sem,Nat.reduceAdd,Nat.reduceMul,Nat.reduceEqDiff,Nat.reduceLT,Nat.reduceLeDiff,reduceCtorEq,Int.reduceEq,Nat.reduceBneDiff,di,List.length_map,hA',hB',hC',h0,w3,Qq1,Qq2,hll,Qk1,hb1,hb2,hwi]
     refine next _ (.inr (.inr hC)) (Qak (θ:=[(7,1004)]) rfl ?_ ?_)
     ·simp [Qad,lkp,ren1,ren0,di,hs2]
     ·simp [Qal,lkp,Box.renames,Qdc,hs1]
    ·have hC':((0:Int)<(carry E9 a b i:Int))=False:=by simp;omega
     have hlt:=Za0 E9_2 (Nat.le_of_not_lt hA) (Nat.le_of_not_lt hB) (by omega)
     have hd:=Qmu E9_2 hlt hmore
     have htk:((lows E9 (a+b) i).map fI).take i=(lows E9 (a+b) i).map fI:=List.take_of_length_le (by simp [hll])
     simp -implicitDefEqProofs only [go_sem,Nat.reduceAdd,Nat.reduceMul,Nat.reduceEqDiff,Nat.reduceLT,Nat.reduceLeDiff,reduceCtorEq,di,List.length_map,hA',hB',hC',hll,htk]
     rw [hd]
end Go.Proofs.YtlpiamlgibomhaaGreat

namespace Go.Dg
section
variable {B:Nat}
def cmpN (a b:Nat):Int:=if a<b then -1 else if b<a then 1 else 0
theorem Qqp {a b:Nat} (h:a<b):cmpN a b= -1:=by simp [cmpN,h]
theorem Quj {a b:Nat} (h:b<a):cmpN a b=1:=by simp [cmpN,h];omega
theorem Q2h (a:Nat):cmpN a a=0:=by simp [cmpN]
theorem Qxe (hB:2≤B) {a b:Nat} (h:(digs B a).length<(digs B b).length):a<b:=by
 have h1:=Qa1 hB a
 have h2:=(Qcf hB b _).1 h
 have h3:=Nat.div_eq_zero_iff (a:=b) (b:=B^(digs B a).length)
 have:0<B^(digs B a).length:=Nat.pow_pos (by omega)
 omega
theorem Qh1 (hB:0<B) (a i:Nat):a/B^i=B*(a/B^(i+1))+a/B^i%B:=by
 rw [Nat.pow_succ,←Nat.div_div_eq_div_mul]
 exact(Nat.div_add_mod _ _).symm
theorem Qiv (hB:0<B) {a b i:Nat} (h:a/B^(i+1)=b/B^(i+1)) (hd:a/B^i%B<b/B^i%B):a<b:=by
 have h1:=Qh1 hB a i
 have h2:=Qh1 hB b i
 rw [h]at h1
 apply Nat.lt_of_not_le
 intro hle
 have:=Nat.div_le_div_right (c:=B^i) hle
 omega
theorem Qpc (hB:0<B) {a b i:Nat} (h:a/B^(i+1)=b/B^(i+1)) (hd:a/B^i%B=b/B^i%B):a/B^i=b/B^i:=by
 rw [Qh1 hB a i,Qh1 hB b i,h,hd]
def bor (B a b i:Nat):Nat:=if a%B^i<b%B^i then 1 else 0
theorem Qqq (a b:Nat):bor B a b 0=0:=by simp [bor,Nat.mod_one]
theorem Qpd (a b i:Nat):bor B a b i≤1:=by unfold bor;split<;>omega
theorem Q2i (hB:0<B) {a b:Nat} (h:b≤a) (i:Nat):(a-b)/B^i+b/B^i+bor B a b i=a/B^i:=by
 have hp:0<B^i:=Nat.pow_pos hB
 unfold bor
 generalize B^i=P at*
 have ha:=Nat.div_add_mod a P
 have hb:=Nat.div_add_mod b P
 have hm1:=Nat.mod_lt a hp
 have hm2:=Nat.mod_lt b hp
 have hle:b/P≤a/P:=Nat.div_le_div_right h
 generalize a/P=x at*
 generalize b/P=y at*
 generalize a%P=r at*
 generalize b%P=s at*
 obtain⟨z,rfl⟩:=Nat.exists_eq_add_of_le hle
 rw [Nat.mul_add]at ha
 split
 ·rename_i hlt
  have hz:z≠0:=by rintro rfl;rw [Nat.mul_zero]at ha;omega
  obtain⟨z',rfl⟩:=Nat.exists_eq_succ_of_ne_zero hz
  have e:a-b=(P+r-s)+P*z':=by rw [Nat.mul_succ]at ha;omega
  rw [e,Nat.add_mul_div_left _ _ hp,Nat.div_eq_of_lt (by omega)]
  omega
 ·rename_i hlt
  have e:a-b=(r-s)+P*z:=by omega
  rw [e,Nat.add_mul_div_left _ _ hp,Nat.div_eq_of_lt (by omega)]
  omega
theorem Qqr (hB:2≤B) {a b:Nat} (h:b≤a) (i:Nat):
  (a-b)/B^i%B+b/B^i%B+bor B a b i=a/B^i%B+B*bor B a b (i+1):=by
 have hB0:0<B:=by omega
 have h1:=Q2i hB0 h i
 have h2:=Q2i hB0 h (i+1)
 have e1:=Qh1 hB0 (a-b) i
 have e2:=Qh1 hB0 b i
 have e3:=Qh1 hB0 a i
 have hm:=Nat.mul_add B ((a-b)/B^(i+1)+b/B^(i+1)) (bor B a b (i+1))
 have hm2:=Nat.mul_add B ((a-b)/B^(i+1)) (b/B^(i+1))
 rw [h2]at hm
 omega
def mix (B V S n m:Nat):List Nat:=(List.range n).map fun j=>if j<m then V/B^j%B else S/B^j%B
theorem Qbg (V S n m:Nat):(mix B V S n m).length=n:=by simp [mix]
theorem Qcr (V S n m j:Nat) (h:j<n):(mix B V S n m)[j]? =some (if j<m then V/B^j%B else S/B^j%B):=by simp [mix,h]
theorem Qmq (hB:0<B) {V W m j:Nat} (h:V%B^m=W%B^m) (hj:j<m):V/B^j%B=W/B^j%B:=by
 have key: ∀n,n/B^j%B=(n%B^m)/B^j%B:=by
  intro n
  have e:B^m=B^j*(B*B^(m-j-1)):=by
   rw [←Nat.mul_assoc,←Nat.pow_succ,←Nat.pow_add];congr 1;omega
  rw [e,Nat.mod_mul_right_div_self,Nat.mod_mul_right_mod]
 rw [key V,key W,h]
theorem Qea (hB:0<B) {V W S n m d:Nat} (hm:m<n) (h:V%B^m=W%B^m) (hd:W/B^m%B=d):(mix B V S n m).set m d=mix B W S n (m+1):=by
 apply List.ext_getElem?
 intro j
 rw [List.getElem?_set]
 by_cases hj:j<n
 ·rw [Qcr _ _ _ _ _ hj,Qcr _ _ _ _ _ hj,Qbg]
  by_cases e:m=j
  ·subst e;simp [hj,hd]
  ·simp only [e,if_false]
   by_cases hlt:j<m
   ·rw [if_pos hlt,if_pos (by omega),Qmq hB h hlt]
   ·rw [if_neg hlt,if_neg (by omega)]
 ·rw [List.getElem?_eq_none (by rw [Qbg];omega),List.getElem?_eq_none (by rw [Qbg];omega),Qbg]
  simp;omega
theorem Qeu {V S n m:Nat} (hB:0<B) (h:V/B^m=S/B^m):mix B V S n m=lows B V n:=by
 apply List.map_congr_left
 intro j _
 split
 ·rfl
 ·rename_i hj
  obtain⟨k,rfl⟩:=Nat.exists_eq_add_of_le (Nat.le_of_not_lt hj)
  rw [Nat.pow_add,←Nat.div_div_eq_div_mul,←Nat.div_div_eq_div_mul,h]
theorem Qhf (V S n:Nat):mix B V S n 0=lows B S n:=by simp [mix,lows]
def mulV (B S x i b k:Nat):Nat:=S+x*B^i*(b%B^k)
theorem Qmr (S x i b:Nat):mulV B S x i b 0=S:=by simp [mulV,Nat.mod_one]
theorem Qsf (S x i b k:Nat):mulV B S x i b (k+1)=mulV B S x i b k+x*(b/B^k%B)*B^(i+k):=by
 unfold mulV
 rw [Nat.pow_succ,Nat.mod_mul,Nat.mul_add,Nat.pow_add]
 have:x*B^i*(B^k*(b/B^k%B))=x*(b/B^k%B)*(B^i*B^k):=by
  simp only [Nat.mul_assoc,Nat.mul_comm,Nat.mul_left_comm]
 rw [this];omega
def mulC (B S x i b k:Nat):Nat:=mulV B S x i b k/B^(i+k)-S/B^(i+k)
theorem Zjp (S x i b k:Nat):S≤mulV B S x i b k:=Nat.le_add_right _ _
theorem Ql3 (S x i b k:Nat):mulC B S x i b k+S/B^(i+k)=mulV B S x i b k/B^(i+k):=by
 have:=Nat.div_le_div_right (c:=B^(i+k)) (Zjp (B:=B) S x i b k)
 unfold mulC
 omega
theorem Qms (S x i b:Nat):mulC B S x i b 0=0:=by simp [mulC,Qmr]
theorem Qqs (hB:0<B) (S x i b k:Nat):
  (S/B^(i+k)%B+mulC B S x i b k+x*(b/B^k%B))%B=mulV B S x i b (k+1)/B^(i+k)%B∧
  (S/B^(i+k)%B+mulC B S x i b k+x*(b/B^k%B))/B=mulC B S x i b (k+1):=by
 have hp:0<B^(i+k):=Nat.pow_pos hB
 have h1:=Ql3 (B:=B) S x i b k
 have e1:mulV B S x i b (k+1)/B^(i+k)=(S/B^(i+k)%B+mulC B S x i b k+x*(b/B^k%B))+B*(S/B^(i+k+1)):=by
  rw [Qsf,Nat.add_mul_div_right _ _ hp,←h1]
  have:=Qh1 hB S (i+k)
  omega
 constructor
 ·rw [e1,Nat.add_mul_mod_self_left]
 ·have h2:=Ql3 (B:=B) S x i b (k+1)
  have e2:mulV B S x i b (k+1)/B^(i+(k+1))=mulV B S x i b (k+1)/B^(i+k)/B:=by
   rw [Nat.div_div_eq_div_mul,←Nat.pow_succ];rfl
  rw [e1,Nat.add_mul_div_left _ _ hB]at e2
  have e3:S/B^(i+(k+1))=S/B^(i+k+1):=rfl
  omega
theorem Qxf (S x i b k:Nat):mulV B S x i b k%B^(i+k)=mulV B S x i b (k+1)%B^(i+k):=by
 rw [Qsf,Nat.add_mul_mod_self_right]
theorem Qmt (a i b k:Nat) (hk:b<B^k):mulV B (a%B^i*b) (a/B^i%B) i b k=a%B^(i+1)*b:=by
 unfold mulV
 rw [Nat.mod_eq_of_lt hk,Nat.pow_succ,Nat.mod_mul,Nat.add_mul]
 congr 1
 rw [Nat.mul_comm (a/B^i%B)]
theorem Q2j (hB:0<B) {S x i b k:Nat} (hx:x<B):mulC B S x i b k<B:=by
 induction k with
 |zero=>rw [Qms];exact hB
 |succ k ih=>
  rw [←(Qqs hB S x i b k).2,Nat.div_lt_iff_lt_mul hB]
  have h1:S/B^(i+k)%B<B:=Nat.mod_lt _ hB
  have h2:b/B^k%B<B:=Nat.mod_lt _ hB
  have h3:x*(b/B^k%B)≤(B-1)*(B-1):=Nat.mul_le_mul (by omega) (by omega)
  have h4:B*B=(B-1)*(B-1)+2*(B-1)+1:=by
   obtain⟨c,rfl⟩: ∃c,B=c+1:=⟨B-1,by omega⟩
   simp only [Nat.add_sub_cancel,Nat.add_mul,Nat.mul_add]
   omega
  omega
theorem Zaz (hB:0<B) {a i b k:Nat} (hk:b<B^k):mulC B (a%B^i*b) (a/B^i%B) i b (k+1)=0:=by
 unfold mulC
 rw [Qmt a i b (k+1) (Nat.lt_of_lt_of_le hk (Nat.pow_le_pow_right hB (Nat.le_succ k)))]
 have:a%B^(i+1)*b<B^(i+(k+1)):=by
  have h1:=Nat.mod_lt a (Nat.pow_pos (n:=i+1) hB)
  have e:B^(i+(k+1))=B^(i+1)*B^k:=by rw [←Nat.pow_add];congr 1;omega
  rw [e]
  rcases Nat.eq_zero_or_pos b with rfl|hb
  ·rw [Nat.mul_zero];exact Nat.mul_pos (Nat.pow_pos hB) (Nat.pow_pos hB)
  ·exact Nat.lt_of_lt_of_le (Nat.mul_lt_mul_of_pos_right h1 hb) (Nat.mul_le_mul_left _ (Nat.le_of_lt hk))
 rw [Nat.div_eq_of_lt this,Nat.zero_sub]
end
end Go.Dg

namespace Go.Proofs.YtlpiamlgibomhaaGreat
open Go.Vl Go.RowKit Go.Dg
theorem Qq3 (a b:Nat) (ha:(digs E9 a).length≤1000000000):Qaf Tryz.prog 134 [di (digs E9 a),di (digs E9 b)] (.int .i64 (cmpN a b)):=by
 refine Qac (tb:=[]) 41 [.tmp 4] [0,1,4,5,10,15,20,31,40] mixed Tryz.func134 rfl (by kernel_rfl) (by kernel_rfl) (by kernel_rfl) (by kernel_rfl) ?_
 by_cases hl:(digs E9 a).length=(digs E9 b).length
 ·have hl':(((digs E9 a).length:Int) != ((digs E9 b).length:Int))=false:=by simp [hl]
  have hw:IntKind.i64.wrap (((digs E9 a).length:Int)-1)=((digs E9 a).length:Int)-1:=Qai (by omega) (by omega)
  simp -implicitDefEqProofs only [go_sem,Nat.reduceAdd,Nat.reduceMul,Nat.reduceEqDiff,Nat.reduceLT,Nat.reduceLeDiff,reduceCtorEq,Int.reduceNeg,di,List.length_map,hl',hw]
  refine Qas mixed (fun i:{i:Nat // i≤(digs E9 a).length∧a/E9^i=b/E9^i}=>St.of [(0,di (digs E9 a)),(1,di (digs E9 b)),(4,.int .i64 0),(5,.int .i64 ((i.1:Int)-1))] []) (fun i=>i.1)
   ⟨(digs E9 a).length,Nat.le_refl _,by rw [Qa9 E9_2 (Nat.le_refl _),hl,Qa9 E9_2 (Nat.le_refl _)]⟩ ?_ ?_
  ·exact Qa3 (by simp [Qad,lkp,ren1,ren0,di])
  ·rintro⟨i,hi,he⟩
   cases i with
   |zero=>
    have h1:((0:Int)≤((0:Nat):Int)-1)=False:=by simp
    have hab:a=b:=by simpa using he
    subst hab
    simp -implicitDefEqProofs only [go_sem,Nat.reduceAdd,Nat.reduceMul,Nat.reduceEqDiff,Nat.reduceLT,Nat.reduceLeDiff,reduceCtorEq,Int.reduceNeg,di,h1,Q2h]
   |succ i=>
    have hs:(((i+1:Nat):Int)-1)=(i:Int):=by omega
    have h1:((0:Int)≤(i:Int))=True:=by simp
    have hga:=Qar E9_2 (show i<(digs E9 a).length by omega)
    have hgb:=Qar E9_2 (show i<(digs E9 b).length by omega)
    by_cases hlt:a/E9^i%E9<b/E9^i%E9
    ·have h2:(((a/E9^i%E9:Nat):Int)<((b/E9^i%E9:Nat):Int))=True:=by simp only [eq_iff_iff,iff_true];omega
     have hc:=Qqp (Qiv (by decide) he hlt)
     simp -implicitDefEqProofs only [go_sem,Nat.reduceAdd,Nat.reduceMul,Nat.reduceEqDiff,Nat.reduceLT,Nat.reduceLeDiff,reduceCtorEq,Int.reduceNeg,di,hs,h1,Qey,hga,hgb,h2,hc]
     exact Qaa _ _ (by kernel_rfl)
    ·have h2:(((a/E9^i%E9:Nat):Int)<((b/E9^i%E9:Nat):Int))=False:=by simp only [eq_iff_iff,iff_false];omega
     by_cases hgt:b/E9^i%E9<a/E9^i%E9
     ·have h3:(((b/E9^i%E9:Nat):Int)<((a/E9^i%E9:Nat):Int))=True:=by simp only [eq_iff_iff,iff_true];omega
      have hc:=Quj (Qiv (by decide) he.symm hgt)
      simp -implicitDefEqProofs only [go_sem,Nat.reduceAdd,Nat.reduceMul,Nat.reduceEqDiff,Nat.reduceLT,Nat.reduceLeDiff,reduceCtorEq,Int.reduceNeg,di,hs,h1,Qey,hga,hgb,h2,h3,hc]
      exact⟨Qaa _ _ (by kernel_rfl),Qaa _ _ (by kernel_rfl)⟩
     ·have h3:(((b/E9^i%E9:Nat):Int)<((a/E9^i%E9:Nat):Int))=False:=by simp only [eq_iff_iff,iff_false];omega
      have hw2:IntKind.i64.wrap ((i:Int)-1)=(i:Int)-1:=Qai (by omega) (by omega)
      simp -implicitDefEqProofs only [go_sem,Nat.reduceAdd,Nat.reduceMul,Nat.reduceEqDiff,Nat.reduceLT,Nat.reduceLeDiff,reduceCtorEq,Int.reduceNeg,di,hs,h1,Qey,hga,hgb,h2,h3,hw2]
      refine⟨Qaa _ _ (by kernel_rfl),Qaa _ _ (by kernel_rfl),⟨i,by omega,Qpc (by decide) he (by omega)⟩,by simp,?_⟩
      exact Qa3 (by simp [Qad,lkp,ren1,ren0,di])
 ·have hl':(((digs E9 a).length:Int) != ((digs E9 b).length:Int))=true:=by simp;omega
  by_cases hlt:(digs E9 a).length<(digs E9 b).length
  ·have h2:(((digs E9 a).length:Int)<((digs E9 b).length:Int))=True:=by simp;omega
   have hc:=Qqp (Qxe E9_2 hlt)
   simp -implicitDefEqProofs only [go_sem,Nat.reduceAdd,Nat.reduceMul,Nat.reduceEqDiff,Nat.reduceLT,Nat.reduceLeDiff,reduceCtorEq,Int.reduceNeg,di,List.length_map,hl',h2,hc]
  ·have h2:(((digs E9 a).length:Int)<((digs E9 b).length:Int))=False:=by simp;omega
   have hc:=Quj (Qxe E9_2 (show(digs E9 b).length<(digs E9 a).length by omega))
   simp -implicitDefEqProofs only [go_sem,Nat.reduceAdd,Nat.reduceMul,Nat.reduceEqDiff,Nat.reduceLT,Nat.reduceLeDiff,reduceCtorEq,Int.reduceNeg,di,List.length_map,hl',h2,hc]
def rI (n:Int):PV:= .agg [.bool (decide (n<0)),di (digs E9 n.natAbs)]
theorem Qf1 (neg:Bool) (m:Nat):Qaf Tryz.prog 91 [.bool neg,di (digs E9 m)] (rI (if neg then -(m:Int)else m)):=by
 refine Qac (tb:=[]) 13 [.cell 4 44] [0,1,4] mixed Tryz.func91 rfl (by kernel_rfl) (by kernel_rfl) (by kernel_rfl) (by kernel_rfl) ?_
 by_cases hm:m=0
 ·subst hm
  cases neg
  ·simp -implicitDefEqProofs only [go_sem,Nat.reduceAdd,Nat.reduceMul,Nat.reduceEqDiff,Nat.reduceLT,Nat.reduceLeDiff,reduceCtorEq,di,rI,Qaz,Int.natAbs_zero,Int.lt_irrefl]
   simp [Qaz]
  ·simp -implicitDefEqProofs only [go_sem,Nat.reduceAdd,Nat.reduceMul,Nat.reduceEqDiff,Nat.reduceLT,Nat.reduceLeDiff,reduceCtorEq,di,rI,Qaz]
   simp [Qaz]
 ·have h1:((0:Int)<((digs E9 m).length:Int))=True:=by
   have:=mt (Qbk E9_2).1 hm
   simp only [eq_iff_iff,iff_true]
   have:=List.length_pos_iff.2 this
   omega
  cases neg
  ·simp -implicitDefEqProofs only [go_sem,Nat.reduceAdd,Nat.reduceMul,Nat.reduceEqDiff,Nat.reduceLT,Nat.reduceLeDiff,reduceCtorEq,di,rI,List.length_map,h1]
   have: ¬((m:Int)<0):=by omega
   simp [this]
  ·simp -implicitDefEqProofs only [go_sem,Nat.reduceAdd,Nat.reduceMul,Nat.reduceEqDiff,Nat.reduceLT,Nat.reduceLeDiff,reduceCtorEq,di,rI,List.length_map,h1]
   have: -(m:Int)<0:=by omega
   simp only [this,decide_true,Int.natAbs_neg,Int.natAbs_natCast]
end Go.Proofs.YtlpiamlgibomhaaGreat
