/-
  TTy, Dg, TA1, Dn, TA2, Dm, TA3, TA4, TA5, UW, TA6, Bx, TA7, TA8, Dt, TA9, Db, TA10, Bw, TW1, TW2 (merged for the claim).
-/
import Derived.Test.YtobaaecbdlhpdaaGreatUV
import Derived.Test.YtobaaecbdlhpdaaGreatProg
import Derived.Shelf.Spec.BitsCarry
set_option linter.unusedSimpArgs false
set_option linter.unusedVariables false
namespace Go.Proofs.YtobaaecbdlhpdaaGreat
open Go.Vl
theorem mixed:Tryz.prog.follows .mixedOrders=true:=by kernel_rfl
theorem Zqn:tyOk Tryz.prog 3=true:=by kernel_rfl
theorem Zns:Qbm Tryz.prog 3=false:=by kernel_rfl
theorem Q2z:(Tryz.prog.info? 3).isSome=true:=by kernel_rfl
theorem Zg2:Qaz Tryz.prog 3=some (1,8):=by kernel_rfl
theorem Q8q:Tryz.prog.cellsOf 3=1:=by kernel_rfl
theorem Zg3:Qa7 Tryz.prog 3=some (PV.int IntKind.i64 0):=by kernel_rfl
theorem Znt:Tryz.prog.underlying 3=some (.int .i64):=by kernel_rfl
theorem Zqo:tyOk Tryz.prog 4=true:=by kernel_rfl
theorem Znu:Qbm Tryz.prog 4=false:=by kernel_rfl
theorem Q20:(Tryz.prog.info? 4).isSome=true:=by kernel_rfl
theorem Zg4:Qaz Tryz.prog 4=some (1,1):=by kernel_rfl
theorem Q8r:Tryz.prog.cellsOf 4=1:=by kernel_rfl
theorem Zg5:Qa7 Tryz.prog 4=some (PV.bool Bool.false):=by kernel_rfl
theorem Zg6:Tryz.prog.underlying 4=some .bool:=by kernel_rfl
theorem Zqp:tyOk Tryz.prog 5=true:=by kernel_rfl
theorem Znv:Qbm Tryz.prog 5=false:=by kernel_rfl
theorem Q21:(Tryz.prog.info? 5).isSome=true:=by kernel_rfl
theorem Zg7:Qaz Tryz.prog 5=some (1,1):=by kernel_rfl
theorem Q8s:Tryz.prog.cellsOf 5=1:=by kernel_rfl
theorem Zg8:Qa7 Tryz.prog 5=some (PV.int IntKind.u8 0):=by kernel_rfl
theorem Znw:Tryz.prog.underlying 5=some (.int .u8):=by kernel_rfl
theorem Zqq:tyOk Tryz.prog 9=true:=by kernel_rfl
theorem Znx:Qbm Tryz.prog 9=false:=by kernel_rfl
theorem Q22:(Tryz.prog.info? 9).isSome=true:=by kernel_rfl
theorem Zg9:Qaz Tryz.prog 9=some (1,16):=by kernel_rfl
theorem Q8t:Tryz.prog.cellsOf 9=1:=by kernel_rfl
theorem Zha:Qa7 Tryz.prog 9=some (PV.str {data:={toList:=[]}}):=by kernel_rfl
theorem Ze7:Tryz.prog.underlying 9=some .string:=by kernel_rfl
theorem Zhb (s:ByteArray):Qbu Tryz.prog 9 (.str s)=some (.int .i64 s.size):=by simp only [Qbu,Ze7]
theorem Zny:tyOk Tryz.prog 23=true:=by kernel_rfl
theorem Zhc:Qbm Tryz.prog 23=true:=by kernel_rfl
theorem Qyn:(Tryz.prog.info? 23).isSome=true:=by kernel_rfl
theorem Q8u:Qaz Tryz.prog 23=some (3,24):=by kernel_rfl
theorem Q23:Tryz.prog.cellsOf 23=3:=by kernel_rfl
theorem Q8v:Qa7 Tryz.prog 23=some (PV.agg [PV.int IntKind.i64 0,PV.int IntKind.i64 0,PV.int IntKind.i64 0]):=by kernel_rfl
theorem Q24:buildable Tryz.prog 23=true:=by kernel_rfl
theorem Zhd:Qbf Tryz.prog 23 0=some (0,3,1):=by kernel_rfl
theorem Zhe:Qad Tryz.prog 23 0=some (0,1):=by kernel_rfl
theorem Zhf:Qbf Tryz.prog 23 1=some (1,3,1):=by kernel_rfl
theorem Zhg:Qad Tryz.prog 23 1=some (1,1):=by kernel_rfl
theorem Zhh:Qbf Tryz.prog 23 2=some (2,3,1):=by kernel_rfl
theorem Zhi:Qad Tryz.prog 23 2=some (2,1):=by kernel_rfl
theorem Zhj:Qc0 Tryz.prog 23=some [1,1,1]:=by kernel_rfl
theorem Znz:tyOk Tryz.prog 27=true:=by kernel_rfl
theorem Zhk:Qbm Tryz.prog 27=false:=by kernel_rfl
theorem Qyo:(Tryz.prog.info? 27).isSome=true:=by kernel_rfl
theorem Q8w:Qaz Tryz.prog 27=some (1,24):=by kernel_rfl
theorem Q25:Tryz.prog.cellsOf 27=1:=by kernel_rfl
theorem Q8x:Qa7 Tryz.prog 27=some PV.nilS:=by kernel_rfl
theorem Q8y:Qbz Tryz.prog 27=some 46:=by kernel_rfl
theorem Qij:Tryz.prog.underlying 27=some (.slice 46):=by kernel_rfl
theorem Q8z (es:List PV):Qbu Tryz.prog 27 (.slc es)=some (.int .i64 es.length):=by simp only [Qbu,Qij]
theorem Q80:Qbu Tryz.prog 27 .nilS=some (.int .i64 0):=by simp only [Qbu,Qij]
theorem Q81 (b e o n:Nat):Qbu Tryz.prog 27 (.bs b e o n)=some (.int .i64 n):=by simp only [Qbu,Qij]
theorem Zn0:tyOk Tryz.prog 28=true:=by kernel_rfl
theorem Zhl:Qbm Tryz.prog 28=false:=by kernel_rfl
theorem Qyp:(Tryz.prog.info? 28).isSome=true:=by kernel_rfl
theorem Q82:Qaz Tryz.prog 28=some (1,8):=by kernel_rfl
theorem Q26:Tryz.prog.cellsOf 28=1:=by kernel_rfl
theorem Q83:Qa7 Tryz.prog 28=some (PV.int IntKind.i64 0):=by kernel_rfl
theorem Zhm:Tryz.prog.underlying 28=some (.int .i64):=by kernel_rfl
theorem Zn1:tyOk Tryz.prog 41=true:=by kernel_rfl
theorem Zhn:Qbm Tryz.prog 41=false:=by kernel_rfl
theorem Qyq:(Tryz.prog.info? 41).isSome=true:=by kernel_rfl
theorem Q84:Qaz Tryz.prog 41=some (1,8):=by kernel_rfl
theorem Q27:Tryz.prog.cellsOf 41=1:=by kernel_rfl
theorem Q85:Qa7 Tryz.prog 41=some PV.nilF:=by kernel_rfl
theorem Zn2:tyOk Tryz.prog 44=true:=by kernel_rfl
theorem Zho:Qbm Tryz.prog 44=false:=by kernel_rfl
theorem Qyr:(Tryz.prog.info? 44).isSome=true:=by kernel_rfl
theorem Q86:Qaz Tryz.prog 44=some (1,24):=by kernel_rfl
theorem Q28:Tryz.prog.cellsOf 44=1:=by kernel_rfl
theorem Q87:Qa7 Tryz.prog 44=some PV.nilS:=by kernel_rfl
theorem Q88:Qbz Tryz.prog 44=some 3:=by kernel_rfl
theorem Qik:Tryz.prog.underlying 44=some (.slice 3):=by kernel_rfl
theorem Q89 (es:List PV):Qbu Tryz.prog 44 (.slc es)=some (.int .i64 es.length):=by simp only [Qbu,Qik]
theorem Q9a:Qbu Tryz.prog 44 .nilS=some (.int .i64 0):=by simp only [Qbu,Qik]
theorem Q9b (b e o n:Nat):Qbu Tryz.prog 44 (.bs b e o n)=some (.int .i64 n):=by simp only [Qbu,Qik]
theorem Zn3:tyOk Tryz.prog 46=true:=by kernel_rfl
theorem Zhp:Qbm Tryz.prog 46=true:=by kernel_rfl
theorem Qys:(Tryz.prog.info? 46).isSome=true:=by kernel_rfl
theorem Q9c:Qaz Tryz.prog 46=some (6,96):=by kernel_rfl
theorem Q29:Tryz.prog.cellsOf 46=6:=by kernel_rfl
theorem Q9d:Qa7 Tryz.prog 46=some (PV.agg [PV.int IntKind.i64 0,PV.int IntKind.i64 0,PV.int IntKind.i64 0,PV.nilS,PV.nilS,PV.nilS]):=by kernel_rfl
theorem Q3a:buildable Tryz.prog 46=true:=by kernel_rfl
theorem Zhq:Qbf Tryz.prog 46 0=some (0,3,1):=by kernel_rfl
theorem Zhr:Qad Tryz.prog 46 0=some (0,1):=by kernel_rfl
theorem Zhs:Qbf Tryz.prog 46 1=some (1,3,1):=by kernel_rfl
theorem Zht:Qad Tryz.prog 46 1=some (1,1):=by kernel_rfl
theorem Zhu:Qbf Tryz.prog 46 2=some (2,3,1):=by kernel_rfl
theorem Zhv:Qad Tryz.prog 46 2=some (2,1):=by kernel_rfl
theorem Zhw:Qbf Tryz.prog 46 3=some (3,44,1):=by kernel_rfl
theorem Zhx:Qad Tryz.prog 46 3=some (3,1):=by kernel_rfl
theorem Zhy:Qbf Tryz.prog 46 4=some (4,44,1):=by kernel_rfl
theorem Zhz:Qad Tryz.prog 46 4=some (4,1):=by kernel_rfl
theorem Zh0:Qbf Tryz.prog 46 5=some (5,44,1):=by kernel_rfl
theorem Zh1:Qad Tryz.prog 46 5=some (5,1):=by kernel_rfl
theorem Zn4:tyOk Tryz.prog 53=true:=by kernel_rfl
theorem Zh2:Qbm Tryz.prog 53=false:=by kernel_rfl
theorem Qyt:(Tryz.prog.info? 53).isSome=true:=by kernel_rfl
theorem Q9e:Qaz Tryz.prog 53=some (1,8):=by kernel_rfl
theorem Q3b:Tryz.prog.cellsOf 53=1:=by kernel_rfl
theorem Q9f:Qa7 Tryz.prog 53=some (PV.int IntKind.i64 0):=by kernel_rfl
theorem Zh3:Tryz.prog.underlying 53=some (.int .i64):=by kernel_rfl
theorem Zn5:tyOk Tryz.prog 61=true:=by kernel_rfl
theorem Zh4:Qbm Tryz.prog 61=false:=by kernel_rfl
theorem Qyu:(Tryz.prog.info? 61).isSome=true:=by kernel_rfl
theorem Q9g:Qaz Tryz.prog 61=some (1,24):=by kernel_rfl
theorem Q3c:Tryz.prog.cellsOf 61=1:=by kernel_rfl
theorem Q9h:Qa7 Tryz.prog 61=some PV.nilS:=by kernel_rfl
theorem Q9i:Qbz Tryz.prog 61=some 66:=by kernel_rfl
theorem Qil:Tryz.prog.underlying 61=some (.slice 66):=by kernel_rfl
theorem Q9j (es:List PV):Qbu Tryz.prog 61 (.slc es)=some (.int .i64 es.length):=by simp only [Qbu,Qil]
theorem Q9k:Qbu Tryz.prog 61 .nilS=some (.int .i64 0):=by simp only [Qbu,Qil]
theorem Q9l (b e o n:Nat):Qbu Tryz.prog 61 (.bs b e o n)=some (.int .i64 n):=by simp only [Qbu,Qil]
theorem Zn6:tyOk Tryz.prog 62=true:=by kernel_rfl
theorem Zh5:Qbm Tryz.prog 62=false:=by kernel_rfl
theorem Qyv:(Tryz.prog.info? 62).isSome=true:=by kernel_rfl
theorem Q9m:Qaz Tryz.prog 62=some (1,24):=by kernel_rfl
theorem Q3d:Tryz.prog.cellsOf 62=1:=by kernel_rfl
theorem Q9n:Qa7 Tryz.prog 62=some PV.nilS:=by kernel_rfl
theorem Q9o:Qbz Tryz.prog 62=some 66:=by kernel_rfl
theorem Qim:Tryz.prog.underlying 62=some (.slice 66):=by kernel_rfl
theorem Q9p (es:List PV):Qbu Tryz.prog 62 (.slc es)=some (.int .i64 es.length):=by simp only [Qbu,Qim]
theorem Q9q:Qbu Tryz.prog 62 .nilS=some (.int .i64 0):=by simp only [Qbu,Qim]
theorem Q9r (b e o n:Nat):Qbu Tryz.prog 62 (.bs b e o n)=some (.int .i64 n):=by simp only [Qbu,Qim]
theorem Zn7:tyOk Tryz.prog 63=true:=by kernel_rfl
theorem Zh6:Qbm Tryz.prog 63=true:=by kernel_rfl
theorem Qyw:(Tryz.prog.info? 63).isSome=true:=by kernel_rfl
theorem Q9s:Qaz Tryz.prog 63=some (3,72):=by kernel_rfl
theorem Q3e:Tryz.prog.cellsOf 63=3:=by kernel_rfl
theorem Q9t:Qa7 Tryz.prog 63=some (PV.agg [PV.nilS,PV.nilS,PV.nilS]):=by kernel_rfl
theorem Zh7:Qf4 Tryz.prog 63=some (3,62):=by kernel_rfl
theorem Q3f:buildable Tryz.prog 63=true:=by kernel_rfl
theorem Zh8:Qad Tryz.prog 63 0=some (0,1):=by kernel_rfl
theorem Zh9:Qad Tryz.prog 63 1=some (1,1):=by kernel_rfl
theorem Zia:Qad Tryz.prog 63 2=some (2,1):=by kernel_rfl
theorem Zib:Qad Tryz.prog 63 3=some (3,1):=by kernel_rfl
theorem Zic:Qad Tryz.prog 63 4=some (4,1):=by kernel_rfl
theorem Zid:Qad Tryz.prog 63 5=some (5,1):=by kernel_rfl
theorem Zie:Qad Tryz.prog 63 6=some (6,1):=by kernel_rfl
theorem Zif:Qad Tryz.prog 63 7=some (7,1):=by kernel_rfl
theorem Zig:Qad Tryz.prog 63 8=some (8,1):=by kernel_rfl
theorem Zih:Qad Tryz.prog 63 9=some (9,1):=by kernel_rfl
theorem Q9u:Qad Tryz.prog 63 10=some (10,1):=by kernel_rfl
theorem Q9v:Qad Tryz.prog 63 11=some (11,1):=by kernel_rfl
theorem Q9w:Qad Tryz.prog 63 12=some (12,1):=by kernel_rfl
theorem Q9x:Qad Tryz.prog 63 13=some (13,1):=by kernel_rfl
theorem Q9y:Qad Tryz.prog 63 14=some (14,1):=by kernel_rfl
theorem Q9z:Qad Tryz.prog 63 15=some (15,1):=by kernel_rfl
theorem Q90:Qad Tryz.prog 63 16=some (16,1):=by kernel_rfl
theorem Q91:Qad Tryz.prog 63 17=some (17,1):=by kernel_rfl
theorem Q92:Qad Tryz.prog 63 18=some (18,1):=by kernel_rfl
theorem Q93:Qad Tryz.prog 63 19=some (19,1):=by kernel_rfl
theorem Zn8:tyOk Tryz.prog 66=true:=by kernel_rfl
theorem Zii:Qbm Tryz.prog 66=true:=by kernel_rfl
theorem Qyx:(Tryz.prog.info? 66).isSome=true:=by kernel_rfl
theorem Q94:Qaz Tryz.prog 66=some (2,24):=by kernel_rfl
theorem Q3g:Tryz.prog.cellsOf 66=2:=by kernel_rfl
theorem Q95:Qa7 Tryz.prog 66=some (PV.agg [PV.bool Bool.false,PV.str {data:={toList:=[]}}]):=by kernel_rfl
theorem Q3h:buildable Tryz.prog 66=true:=by kernel_rfl
theorem Zij:Qbf Tryz.prog 66 0=some (0,4,1):=by kernel_rfl
theorem Zik:Qad Tryz.prog 66 0=some (0,1):=by kernel_rfl
theorem Zil:Qbf Tryz.prog 66 1=some (1,9,1):=by kernel_rfl
theorem Zim:Qad Tryz.prog 66 1=some (1,1):=by kernel_rfl
theorem Zin:Qc0 Tryz.prog 66=some [0,2]:=by kernel_rfl
theorem Zn9:tyOk Tryz.prog 69=true:=by kernel_rfl
theorem Zio:Qbm Tryz.prog 69=true:=by kernel_rfl
theorem Qyy:(Tryz.prog.info? 69).isSome=true:=by kernel_rfl
theorem Q96:Qaz Tryz.prog 69=some (8,96):=by kernel_rfl
theorem Q3i:Tryz.prog.cellsOf 69=8:=by kernel_rfl
theorem Q97:Qa7 Tryz.prog 69=some (PV.agg [PV.bool Bool.false,PV.str {data:={toList:=[]}},PV.bool Bool.false,PV.str {data:={toList:=[]}},PV.bool Bool.false,PV.str {data:={toList:=[]}},PV.bool Bool.false,PV.str {data:={toList:=[]}}]):=by kernel_rfl
theorem Q3j:buildable Tryz.prog 69=true:=by kernel_rfl
theorem Zip:Qbf Tryz.prog 69 0=some (0,66,2):=by kernel_rfl
theorem Ziq:Qad Tryz.prog 69 0=some (0,2):=by kernel_rfl
theorem Zir:Qbf Tryz.prog 69 1=some (2,66,2):=by kernel_rfl
theorem Zis:Qad Tryz.prog 69 1=some (2,2):=by kernel_rfl
theorem Zit:Qbf Tryz.prog 69 2=some (4,66,2):=by kernel_rfl
theorem Ziu:Qad Tryz.prog 69 2=some (4,2):=by kernel_rfl
theorem Ziv:Qbf Tryz.prog 69 3=some (6,66,2):=by kernel_rfl
theorem Ziw:Qad Tryz.prog 69 3=some (6,2):=by kernel_rfl
theorem Zix:Qc0 Tryz.prog 69=some [0,2,0,2,0,2,0,2]:=by kernel_rfl
theorem Zoa:tyOk Tryz.prog 72=true:=by kernel_rfl
theorem Ziy:Qbm Tryz.prog 72=true:=by kernel_rfl
theorem Qyz:(Tryz.prog.info? 72).isSome=true:=by kernel_rfl
theorem Q98:Qaz Tryz.prog 72=some (3,24):=by kernel_rfl
theorem Q3k:Tryz.prog.cellsOf 72=3:=by kernel_rfl
theorem Q99:Qa7 Tryz.prog 72=some (PV.agg [PV.int IntKind.i64 0,PV.int IntKind.i64 0,PV.int IntKind.i64 0]):=by kernel_rfl
theorem Ziz:Qf4 Tryz.prog 72=some (3,3):=by kernel_rfl
theorem Q3l:buildable Tryz.prog 72=true:=by kernel_rfl
theorem Zi0:Qad Tryz.prog 72 0=some (0,1):=by kernel_rfl
theorem Zi1:Qad Tryz.prog 72 1=some (1,1):=by kernel_rfl
theorem Zi2:Qad Tryz.prog 72 2=some (2,1):=by kernel_rfl
theorem Zi3:Qad Tryz.prog 72 3=some (3,1):=by kernel_rfl
theorem Zi4:Qad Tryz.prog 72 4=some (4,1):=by kernel_rfl
theorem Zi5:Qad Tryz.prog 72 5=some (5,1):=by kernel_rfl
theorem Zi6:Qad Tryz.prog 72 6=some (6,1):=by kernel_rfl
theorem Zi7:Qad Tryz.prog 72 7=some (7,1):=by kernel_rfl
theorem Zi8:Qad Tryz.prog 72 8=some (8,1):=by kernel_rfl
theorem Zi9:Qad Tryz.prog 72 9=some (9,1):=by kernel_rfl
theorem Zaa:Qad Tryz.prog 72 10=some (10,1):=by kernel_rfl
theorem Zab:Qad Tryz.prog 72 11=some (11,1):=by kernel_rfl
theorem Zac:Qad Tryz.prog 72 12=some (12,1):=by kernel_rfl
theorem Zad:Qad Tryz.prog 72 13=some (13,1):=by kernel_rfl
theorem Zae:Qad Tryz.prog 72 14=some (14,1):=by kernel_rfl
theorem Zaf:Qad Tryz.prog 72 15=some (15,1):=by kernel_rfl
theorem Zag:Qad Tryz.prog 72 16=some (16,1):=by kernel_rfl
theorem Zah:Qad Tryz.prog 72 17=some (17,1):=by kernel_rfl
theorem Zai:Qad Tryz.prog 72 18=some (18,1):=by kernel_rfl
theorem Zaj:Qad Tryz.prog 72 19=some (19,1):=by kernel_rfl
theorem Zob:tyOk Tryz.prog 73=true:=by kernel_rfl
theorem Zja:Qbm Tryz.prog 73=true:=by kernel_rfl
theorem Qy0:(Tryz.prog.info? 73).isSome=true:=by kernel_rfl
theorem Zak:Qaz Tryz.prog 73=some (6,72):=by kernel_rfl
theorem Q3m:Tryz.prog.cellsOf 73=6:=by kernel_rfl
theorem Zal:Qa7 Tryz.prog 73=some (PV.agg [PV.bool Bool.false,PV.str {data:={toList:=[]}},PV.bool Bool.false,PV.str {data:={toList:=[]}},PV.bool Bool.false,PV.str {data:={toList:=[]}}]):=by kernel_rfl
theorem Zjb:Qf4 Tryz.prog 73=some (3,66):=by kernel_rfl
theorem Q3n:buildable Tryz.prog 73=true:=by kernel_rfl
theorem Zjc:Qad Tryz.prog 73 0=some (0,2):=by kernel_rfl
theorem Zjd:Qad Tryz.prog 73 1=some (2,2):=by kernel_rfl
theorem Zje:Qad Tryz.prog 73 2=some (4,2):=by kernel_rfl
theorem Zjf:Qad Tryz.prog 73 3=some (6,2):=by kernel_rfl
theorem Zjg:Qad Tryz.prog 73 4=some (8,2):=by kernel_rfl
theorem Zjh:Qad Tryz.prog 73 5=some (10,2):=by kernel_rfl
theorem Zji:Qad Tryz.prog 73 6=some (12,2):=by kernel_rfl
theorem Zjj:Qad Tryz.prog 73 7=some (14,2):=by kernel_rfl
theorem Zjk:Qad Tryz.prog 73 8=some (16,2):=by kernel_rfl
theorem Zjl:Qad Tryz.prog 73 9=some (18,2):=by kernel_rfl
theorem Zam:Qad Tryz.prog 73 10=some (20,2):=by kernel_rfl
theorem Zan:Qad Tryz.prog 73 11=some (22,2):=by kernel_rfl
theorem Zao:Qad Tryz.prog 73 12=some (24,2):=by kernel_rfl
theorem Zap:Qad Tryz.prog 73 13=some (26,2):=by kernel_rfl
theorem Zaq:Qad Tryz.prog 73 14=some (28,2):=by kernel_rfl
theorem Zar:Qad Tryz.prog 73 15=some (30,2):=by kernel_rfl
theorem Zas:Qad Tryz.prog 73 16=some (32,2):=by kernel_rfl
theorem Zat:Qad Tryz.prog 73 17=some (34,2):=by kernel_rfl
theorem Zau:Qad Tryz.prog 73 18=some (36,2):=by kernel_rfl
theorem Zav:Qad Tryz.prog 73 19=some (38,2):=by kernel_rfl
theorem Zoc:tyOk Tryz.prog 79=true:=by kernel_rfl
theorem Zjm:Qbm Tryz.prog 79=false:=by kernel_rfl
theorem Qy1:(Tryz.prog.info? 79).isSome=true:=by kernel_rfl
theorem Zaw:Qaz Tryz.prog 79=some (1,24):=by kernel_rfl
theorem Q3o:Tryz.prog.cellsOf 79=1:=by kernel_rfl
theorem Zax:Qa7 Tryz.prog 79=some PV.nilS:=by kernel_rfl
theorem Zay:Qbz Tryz.prog 79=some 23:=by kernel_rfl
theorem Qin:Tryz.prog.underlying 79=some (.slice 23):=by kernel_rfl
theorem Zaz (es:List PV):Qbu Tryz.prog 79 (.slc es)=some (.int .i64 es.length):=by simp only [Qbu,Qin]
theorem Za0:Qbu Tryz.prog 79 .nilS=some (.int .i64 0):=by simp only [Qbu,Qin]
theorem Za1 (b e o n:Nat):Qbu Tryz.prog 79 (.bs b e o n)=some (.int .i64 n):=by simp only [Qbu,Qin]
theorem Zod:tyOk Tryz.prog 82=true:=by kernel_rfl
theorem Zjn:Qbm Tryz.prog 82=false:=by kernel_rfl
theorem Qy2:(Tryz.prog.info? 82).isSome=true:=by kernel_rfl
theorem Za2:Qaz Tryz.prog 82=some (1,8):=by kernel_rfl
theorem Q3p:Tryz.prog.cellsOf 82=1:=by kernel_rfl
theorem Za3:Qa7 Tryz.prog 82=some (PV.int IntKind.u64 0):=by kernel_rfl
theorem Zjo:Tryz.prog.underlying 82=some (.int .u64):=by kernel_rfl
theorem Zoe:tyOk Tryz.prog 84=true:=by kernel_rfl
theorem Zjp:Qbm Tryz.prog 84=true:=by kernel_rfl
theorem Qy3:(Tryz.prog.info? 84).isSome=true:=by kernel_rfl
theorem Za4:Qaz Tryz.prog 84=some (2,16):=by kernel_rfl
theorem Q3q:Tryz.prog.cellsOf 84=2:=by kernel_rfl
theorem Za5:Qa7 Tryz.prog 84=some (PV.agg [PV.int IntKind.u64 0,PV.int IntKind.u64 0]):=by kernel_rfl
theorem Q3r:buildable Tryz.prog 84=true:=by kernel_rfl
theorem Zjq:Qbf Tryz.prog 84 0=some (0,82,1):=by kernel_rfl
theorem Zjr:Qad Tryz.prog 84 0=some (0,1):=by kernel_rfl
theorem Zjs:Qbf Tryz.prog 84 1=some (1,82,1):=by kernel_rfl
theorem Zjt:Qad Tryz.prog 84 1=some (1,1):=by kernel_rfl
theorem Zju:Qc0 Tryz.prog 84=some [1,1]:=by kernel_rfl
theorem Zof:tyOk Tryz.prog 91=true:=by kernel_rfl
theorem Zjv:Qbm Tryz.prog 91=false:=by kernel_rfl
theorem Qy4:(Tryz.prog.info? 91).isSome=true:=by kernel_rfl
theorem Za6:Qaz Tryz.prog 91=some (1,8):=by kernel_rfl
theorem Q3s:Tryz.prog.cellsOf 91=1:=by kernel_rfl
theorem Zog:tyOk Tryz.prog 92=true:=by kernel_rfl
theorem Zjw:Qbm Tryz.prog 92=true:=by kernel_rfl
theorem Qy5:(Tryz.prog.info? 92).isSome=true:=by kernel_rfl
theorem Za7:Qaz Tryz.prog 92=some (3,24):=by kernel_rfl
theorem Q3t:Tryz.prog.cellsOf 92=3:=by kernel_rfl
theorem Zjx:Qf4 Tryz.prog 92=some (3,91):=by kernel_rfl
theorem Q3u:buildable Tryz.prog 92=true:=by kernel_rfl
theorem Zjy:Qad Tryz.prog 92 0=some (0,1):=by kernel_rfl
theorem Zjz:Qad Tryz.prog 92 1=some (1,1):=by kernel_rfl
theorem Zj0:Qad Tryz.prog 92 2=some (2,1):=by kernel_rfl
theorem Zj1:Qad Tryz.prog 92 3=some (3,1):=by kernel_rfl
theorem Zj2:Qad Tryz.prog 92 4=some (4,1):=by kernel_rfl
theorem Zj3:Qad Tryz.prog 92 5=some (5,1):=by kernel_rfl
theorem Zj4:Qad Tryz.prog 92 6=some (6,1):=by kernel_rfl
theorem Zj5:Qad Tryz.prog 92 7=some (7,1):=by kernel_rfl
theorem Zj6:Qad Tryz.prog 92 8=some (8,1):=by kernel_rfl
theorem Zj7:Qad Tryz.prog 92 9=some (9,1):=by kernel_rfl
theorem Za8:Qad Tryz.prog 92 10=some (10,1):=by kernel_rfl
theorem Za9:Qad Tryz.prog 92 11=some (11,1):=by kernel_rfl
theorem Zba:Qad Tryz.prog 92 12=some (12,1):=by kernel_rfl
theorem Zbb:Qad Tryz.prog 92 13=some (13,1):=by kernel_rfl
theorem Zbc:Qad Tryz.prog 92 14=some (14,1):=by kernel_rfl
theorem Zbd:Qad Tryz.prog 92 15=some (15,1):=by kernel_rfl
theorem Zbe:Qad Tryz.prog 92 16=some (16,1):=by kernel_rfl
theorem Zbf:Qad Tryz.prog 92 17=some (17,1):=by kernel_rfl
theorem Zbg:Qad Tryz.prog 92 18=some (18,1):=by kernel_rfl
theorem Zbh:Qad Tryz.prog 92 19=some (19,1):=by kernel_rfl
theorem Zoh:tyOk Tryz.prog 93=true:=by kernel_rfl
theorem Zj8:Qbm Tryz.prog 93=true:=by kernel_rfl
theorem Qy6:(Tryz.prog.info? 93).isSome=true:=by kernel_rfl
theorem Zbi:Qaz Tryz.prog 93=some (3,72):=by kernel_rfl
theorem Q3v:Tryz.prog.cellsOf 93=3:=by kernel_rfl
theorem Zbj:Qa7 Tryz.prog 93=some (PV.agg [PV.nilS,PV.nilS,PV.nilS]):=by kernel_rfl
theorem Zj9:Qf4 Tryz.prog 93=some (3,44):=by kernel_rfl
theorem Q3w:buildable Tryz.prog 93=true:=by kernel_rfl
theorem Zka:Qad Tryz.prog 93 0=some (0,1):=by kernel_rfl
theorem Zkb:Qad Tryz.prog 93 1=some (1,1):=by kernel_rfl
theorem Zkc:Qad Tryz.prog 93 2=some (2,1):=by kernel_rfl
theorem Zkd:Qad Tryz.prog 93 3=some (3,1):=by kernel_rfl
theorem Zke:Qad Tryz.prog 93 4=some (4,1):=by kernel_rfl
theorem Zkf:Qad Tryz.prog 93 5=some (5,1):=by kernel_rfl
theorem Zkg:Qad Tryz.prog 93 6=some (6,1):=by kernel_rfl
theorem Zkh:Qad Tryz.prog 93 7=some (7,1):=by kernel_rfl
theorem Zki:Qad Tryz.prog 93 8=some (8,1):=by kernel_rfl
theorem Zkj:Qad Tryz.prog 93 9=some (9,1):=by kernel_rfl
theorem Zbk:Qad Tryz.prog 93 10=some (10,1):=by kernel_rfl
theorem Zbl:Qad Tryz.prog 93 11=some (11,1):=by kernel_rfl
theorem Zbm:Qad Tryz.prog 93 12=some (12,1):=by kernel_rfl
theorem Zbn:Qad Tryz.prog 93 13=some (13,1):=by kernel_rfl
theorem Zbo:Qad Tryz.prog 93 14=some (14,1):=by kernel_rfl
theorem Zbp:Qad Tryz.prog 93 15=some (15,1):=by kernel_rfl
theorem Zbq:Qad Tryz.prog 93 16=some (16,1):=by kernel_rfl
theorem Zbr:Qad Tryz.prog 93 17=some (17,1):=by kernel_rfl
theorem Zbs:Qad Tryz.prog 93 18=some (18,1):=by kernel_rfl
theorem Zbt:Qad Tryz.prog 93 19=some (19,1):=by kernel_rfl
theorem Zkk:tyOk Tryz.prog 102=true:=by kernel_rfl
theorem Zbu:Qbm Tryz.prog 102=false:=by kernel_rfl
theorem Qug:(Tryz.prog.info? 102).isSome=true:=by kernel_rfl
theorem Q3x:Qaz Tryz.prog 102=some (1,24):=by kernel_rfl
theorem Qy7:Tryz.prog.cellsOf 102=1:=by kernel_rfl
theorem Q3y:Qa7 Tryz.prog 102=some PV.nilS:=by kernel_rfl
theorem Q3z:Qbz Tryz.prog 102=some 82:=by kernel_rfl
theorem Qg6:Tryz.prog.underlying 102=some (.slice 82):=by kernel_rfl
theorem Q30 (es:List PV):Qbu Tryz.prog 102 (.slc es)=some (.int .i64 es.length):=by simp only [Qbu,Qg6]
theorem Q31:Qbu Tryz.prog 102 .nilS=some (.int .i64 0):=by simp only [Qbu,Qg6]
theorem Q32 (b e o n:Nat):Qbu Tryz.prog 102 (.bs b e o n)=some (.int .i64 n):=by simp only [Qbu,Qg6]
theorem Zkl:tyOk Tryz.prog 105=true:=by kernel_rfl
theorem Zbv:Qbm Tryz.prog 105=true:=by kernel_rfl
theorem Quh:(Tryz.prog.info? 105).isSome=true:=by kernel_rfl
theorem Q33:Qaz Tryz.prog 105=some (2,32):=by kernel_rfl
theorem Qy8:Tryz.prog.cellsOf 105=2:=by kernel_rfl
theorem Q34:Qa7 Tryz.prog 105=some (PV.agg [PV.bool Bool.false,PV.nilS]):=by kernel_rfl
theorem Qy9:buildable Tryz.prog 105=true:=by kernel_rfl
theorem Zbw:Qbf Tryz.prog 105 0=some (0,4,1):=by kernel_rfl
theorem Zbx:Qad Tryz.prog 105 0=some (0,1):=by kernel_rfl
theorem Zby:Qbf Tryz.prog 105 1=some (1,102,1):=by kernel_rfl
theorem Zbz:Qad Tryz.prog 105 1=some (1,1):=by kernel_rfl
theorem Zkm:tyOk Tryz.prog 123=true:=by kernel_rfl
theorem Zb0:Qbm Tryz.prog 123=false:=by kernel_rfl
theorem Qui:(Tryz.prog.info? 123).isSome=true:=by kernel_rfl
theorem Q35:Qaz Tryz.prog 123=some (1,8):=by kernel_rfl
theorem Qza:Tryz.prog.cellsOf 123=1:=by kernel_rfl
theorem Q36:Qa7 Tryz.prog 123=some PV.nilM:=by kernel_rfl
theorem Zkn:tyOk Tryz.prog 135=true:=by kernel_rfl
theorem Zb1:Qbm Tryz.prog 135=true:=by kernel_rfl
theorem Quj:(Tryz.prog.info? 135).isSome=true:=by kernel_rfl
theorem Q37:Qaz Tryz.prog 135=some (1,8):=by kernel_rfl
theorem Qzb:Tryz.prog.cellsOf 135=1:=by kernel_rfl
theorem Q38:Qa7 Tryz.prog 135=some (PV.agg [PV.int IntKind.i64 0]):=by kernel_rfl
theorem Qzc:buildable Tryz.prog 135=true:=by kernel_rfl
theorem Zb2:Qbf Tryz.prog 135 0=some (0,28,1):=by kernel_rfl
theorem Zb3:Qad Tryz.prog 135 0=some (0,1):=by kernel_rfl
theorem Zb4:Qc0 Tryz.prog 135=some [1]:=by kernel_rfl
theorem Zko:tyOk Tryz.prog 137=true:=by kernel_rfl
theorem Zb5:Qbm Tryz.prog 137=true:=by kernel_rfl
theorem Quk:(Tryz.prog.info? 137).isSome=true:=by kernel_rfl
theorem Q39:Qaz Tryz.prog 137=some (1,8):=by kernel_rfl
theorem Qzd:Tryz.prog.cellsOf 137=1:=by kernel_rfl
theorem Q4a:Qa7 Tryz.prog 137=some (PV.agg [PV.int IntKind.i64 0]):=by kernel_rfl
theorem Qze:buildable Tryz.prog 137=true:=by kernel_rfl
theorem Zb6:Qbf Tryz.prog 137 0=some (0,135,1):=by kernel_rfl
theorem Zb7:Qad Tryz.prog 137 0=some (0,1):=by kernel_rfl
theorem Zb8:Qc0 Tryz.prog 137=some [1]:=by kernel_rfl
theorem Zkp:tyOk Tryz.prog 140=true:=by kernel_rfl
theorem Zb9:Qbm Tryz.prog 140=false:=by kernel_rfl
theorem Qul:(Tryz.prog.info? 140).isSome=true:=by kernel_rfl
theorem Q4b:Qaz Tryz.prog 140=some (1,8):=by kernel_rfl
theorem Qzf:Tryz.prog.cellsOf 140=1:=by kernel_rfl
theorem Q4c:Qa7 Tryz.prog 140=some (PV.int IntKind.u64 0):=by kernel_rfl
theorem Zca:Tryz.prog.underlying 140=some (.int .u64):=by kernel_rfl
theorem Zkq:tyOk Tryz.prog 144=true:=by kernel_rfl
theorem Zcb:Qbm Tryz.prog 144=true:=by kernel_rfl
theorem Qum:(Tryz.prog.info? 144).isSome=true:=by kernel_rfl
theorem Q4d:Qaz Tryz.prog 144=some (6,48):=by kernel_rfl
theorem Qzg:Tryz.prog.cellsOf 144=6:=by kernel_rfl
theorem Q4e:Qa7 Tryz.prog 144=some (PV.agg [PV.int IntKind.i64 0,PV.int IntKind.i64 0,PV.int IntKind.i64 0,PV.int IntKind.i64 0,PV.int IntKind.i64 0,PV.int IntKind.i64 0]):=by kernel_rfl
theorem Zcc:Qf4 Tryz.prog 144=some (6,3):=by kernel_rfl
theorem Qzh:buildable Tryz.prog 144=true:=by kernel_rfl
theorem Zcd:Qad Tryz.prog 144 0=some (0,1):=by kernel_rfl
theorem Zce:Qad Tryz.prog 144 1=some (1,1):=by kernel_rfl
theorem Zcf:Qad Tryz.prog 144 2=some (2,1):=by kernel_rfl
theorem Zcg:Qad Tryz.prog 144 3=some (3,1):=by kernel_rfl
theorem Zch:Qad Tryz.prog 144 4=some (4,1):=by kernel_rfl
theorem Zci:Qad Tryz.prog 144 5=some (5,1):=by kernel_rfl
theorem Zcj:Qad Tryz.prog 144 6=some (6,1):=by kernel_rfl
theorem Zck:Qad Tryz.prog 144 7=some (7,1):=by kernel_rfl
theorem Zcl:Qad Tryz.prog 144 8=some (8,1):=by kernel_rfl
theorem Zcm:Qad Tryz.prog 144 9=some (9,1):=by kernel_rfl
theorem Q4f:Qad Tryz.prog 144 10=some (10,1):=by kernel_rfl
theorem Q4g:Qad Tryz.prog 144 11=some (11,1):=by kernel_rfl
theorem Q4h:Qad Tryz.prog 144 12=some (12,1):=by kernel_rfl
theorem Q4i:Qad Tryz.prog 144 13=some (13,1):=by kernel_rfl
theorem Q4j:Qad Tryz.prog 144 14=some (14,1):=by kernel_rfl
theorem Q4k:Qad Tryz.prog 144 15=some (15,1):=by kernel_rfl
theorem Q4l:Qad Tryz.prog 144 16=some (16,1):=by kernel_rfl
theorem Q4m:Qad Tryz.prog 144 17=some (17,1):=by kernel_rfl
theorem Q4n:Qad Tryz.prog 144 18=some (18,1):=by kernel_rfl
theorem Q4o:Qad Tryz.prog 144 19=some (19,1):=by kernel_rfl
theorem Zkr:tyOk Tryz.prog 145=true:=by kernel_rfl
theorem Zcn:Qbm Tryz.prog 145=true:=by kernel_rfl
theorem Qun:(Tryz.prog.info? 145).isSome=true:=by kernel_rfl
theorem Q4p:Qaz Tryz.prog 145=some (36,288):=by kernel_rfl
theorem Qzi:Tryz.prog.cellsOf 145=36:=by kernel_rfl
theorem Q4q:Qa7 Tryz.prog 145=some (PV.agg [PV.int IntKind.i64 0,PV.int IntKind.i64 0,PV.int IntKind.i64 0,PV.int IntKind.i64 0,PV.int IntKind.i64 0,PV.int IntKind.i64 0,PV.int IntKind.i64 0,PV.int IntKind.i64 0,PV.int IntKind.i64 0,PV.int IntKind.i64 0,PV.int IntKind.i64 0,PV.int IntKind.i64 0,PV.int IntKind.i64 0,PV.int IntKind.i64 0,PV.int IntKind.i64 0,PV.int IntKind.i64 0,PV.int IntKind.i64 0,PV.int IntKind.i64 0,PV.int IntKind.i64 0,PV.int IntKind.i64 0,PV.int IntKind.i64 0,PV.int IntKind.i64 0,PV.int IntKind.i64 0,PV.int IntKind.i64 0,PV.int IntKind.i64 0,PV.int IntKind.i64 0,PV.int IntKind.i64 0,PV.int IntKind.i64 0,PV.int IntKind.i64 0,PV.int IntKind.i64 0,PV.int IntKind.i64 0,PV.int IntKind.i64 0,PV.int IntKind.i64 0,PV.int IntKind.i64 0,PV.int IntKind.i64 0,PV.int IntKind.i64 0]):=by kernel_rfl
theorem Zco:Qf4 Tryz.prog 145=some (6,144):=by kernel_rfl
theorem Qzj:buildable Tryz.prog 145=true:=by kernel_rfl
theorem Zcp:Qad Tryz.prog 145 0=some (0,6):=by kernel_rfl
theorem Zcq:Qad Tryz.prog 145 1=some (6,6):=by kernel_rfl
theorem Zcr:Qad Tryz.prog 145 2=some (12,6):=by kernel_rfl
theorem Zcs:Qad Tryz.prog 145 3=some (18,6):=by kernel_rfl
theorem Zct:Qad Tryz.prog 145 4=some (24,6):=by kernel_rfl
theorem Zcu:Qad Tryz.prog 145 5=some (30,6):=by kernel_rfl
theorem Zcv:Qad Tryz.prog 145 6=some (36,6):=by kernel_rfl
theorem Zcw:Qad Tryz.prog 145 7=some (42,6):=by kernel_rfl
theorem Zcx:Qad Tryz.prog 145 8=some (48,6):=by kernel_rfl
theorem Zcy:Qad Tryz.prog 145 9=some (54,6):=by kernel_rfl
theorem Q4r:Qad Tryz.prog 145 10=some (60,6):=by kernel_rfl
theorem Q4s:Qad Tryz.prog 145 11=some (66,6):=by kernel_rfl
theorem Q4t:Qad Tryz.prog 145 12=some (72,6):=by kernel_rfl
theorem Q4u:Qad Tryz.prog 145 13=some (78,6):=by kernel_rfl
theorem Q4v:Qad Tryz.prog 145 14=some (84,6):=by kernel_rfl
theorem Q4w:Qad Tryz.prog 145 15=some (90,6):=by kernel_rfl
theorem Q4x:Qad Tryz.prog 145 16=some (96,6):=by kernel_rfl
theorem Q4y:Qad Tryz.prog 145 17=some (102,6):=by kernel_rfl
theorem Q4z:Qad Tryz.prog 145 18=some (108,6):=by kernel_rfl
theorem Q40:Qad Tryz.prog 145 19=some (114,6):=by kernel_rfl
theorem Zks:tyOk Tryz.prog 154=true:=by kernel_rfl
theorem Zcz:Qbm Tryz.prog 154=false:=by kernel_rfl
theorem Qup:(Tryz.prog.info? 154).isSome=true:=by kernel_rfl
theorem Q41:Qaz Tryz.prog 154=some (1,24):=by kernel_rfl
theorem Qzk:Tryz.prog.cellsOf 154=1:=by kernel_rfl
theorem Q42:Qa7 Tryz.prog 154=some PV.nilS:=by kernel_rfl
theorem Q43:Qbz Tryz.prog 154=some 5:=by kernel_rfl
theorem Qg7:Tryz.prog.underlying 154=some (.slice 5):=by kernel_rfl
theorem Q44 (es:List PV):Qbu Tryz.prog 154 (.slc es)=some (.int .i64 es.length):=by simp only [Qbu,Qg7]
theorem Q45:Qbu Tryz.prog 154 .nilS=some (.int .i64 0):=by simp only [Qbu,Qg7]
theorem Q46 (b e o n:Nat):Qbu Tryz.prog 154 (.bs b e o n)=some (.int .i64 n):=by simp only [Qbu,Qg7]
theorem Zkt:tyOk Tryz.prog 163=true:=by kernel_rfl
theorem Zc0:Qbm Tryz.prog 163=false:=by kernel_rfl
theorem Quq:(Tryz.prog.info? 163).isSome=true:=by kernel_rfl
theorem Q47:Qaz Tryz.prog 163=some (1,16):=by kernel_rfl
theorem Qzl:Tryz.prog.cellsOf 163=1:=by kernel_rfl
theorem Q48:Qa7 Tryz.prog 163=some PV.nilI:=by kernel_rfl
attribute [go_sem] Zqn Zns Q2z Zg2 Q8q Zg3 Znt Zqo Znu Q20 Zg4 Q8r Zg5 Zg6 Zqp Znv
attribute [go_sem] Q21 Zg7 Q8s Zg8 Znw Zqq Znx Q22 Zg9 Q8t Zha Ze7 Zhb Zny Zhc Qyn
attribute [go_sem] Q8u Q23 Q8v Q24 Zhd Zhe Zhf Zhg Zhh Zhi Zhj Znz Zhk Qyo Q8w Q25
attribute [go_sem] Q8x Q8y Qij Q8z Q80 Q81 Zn0 Zhl Qyp Q82 Q26 Q83 Zhm Zn1 Zhn Qyq
attribute [go_sem] Q84 Q27 Q85 Zn2 Zho Qyr Q86 Q28 Q87 Q88 Qik Q89 Q9a Q9b Zn3 Zhp
attribute [go_sem] Qys Q9c Q29 Q9d Q3a Zhq Zhr Zhs Zht Zhu Zhv Zhw Zhx Zhy Zhz Zh0
attribute [go_sem] Zh1 Zn4 Zh2 Qyt
attribute [go_sem] Q9e Q3b Q9f Zh3 Zn5 Zh4 Qyu Q9g Q3c Q9h Q9i Qil Q9j Q9k Q9l Zn6
attribute [go_sem] Zh5 Qyv Q9m Q3d Q9n Q9o Qim Q9p Q9q Q9r Zn7 Zh6 Qyw Q9s Q3e Q9t
attribute [go_sem] Zh7 Q3f Zh8 Zh9 Zia Zib Zic Zid Zie Zif Zig Zih Q9u Q9v Q9w Q9x
attribute [go_sem] Q9y Q9z Q90 Q91 Q92 Q93 Zn8 Zii Qyx Q94 Q3g Q95 Q3h Zij Zik Zil
attribute [go_sem] Zim Zin Zn9 Zio Qyy Q96 Q3i Q97 Q3j Zip Ziq Zir Zis Zit Ziu Ziv
attribute [go_sem] Ziw Zix Zoa Ziy Qyz Q98 Q3k Q99 Ziz Q3l Zi0 Zi1 Zi2 Zi3 Zi4 Zi5
attribute [go_sem] Zi6 Zi7 Zi8 Zi9 Zaa Zab Zac Zad Zae Zaf Zag Zah Zai Zaj Zob Zja
attribute [go_sem] Qy0 Zak Q3m Zal Zjb Q3n Zjc Zjd Zje Zjf Zjg Zjh Zji Zjj Zjk Zjl
attribute [go_sem] Zam Zan Zao Zap Zaq Zar Zas Zat Zau Zav Zoc Zjm Qy1 Zaw Q3o Zax
attribute [go_sem] Zay Qin Zaz Za0 Za1 Zod Zjn Qy2 Za2 Q3p Za3 Zjo Zoe Zjp Qy3 Za4
attribute [go_sem] Q3q Za5 Q3r Zjq Zjr Zjs Zjt Zju Zof Zjv Qy4 Za6 Q3s Zog Zjw Qy5
attribute [go_sem] Za7 Q3t Zjx Q3u Zjy Zjz Zj0 Zj1 Zj2 Zj3 Zj4 Zj5 Zj6 Zj7 Za8 Za9
attribute [go_sem] Zba Zbb Zbc Zbd Zbe Zbf Zbg Zbh Zoh Zj8 Qy6 Zbi Q3v Zbj Zj9 Q3w
attribute [go_sem] Zka Zkb Zkc Zkd Zke Zkf Zkg Zkh Zki Zkj Zbk Zbl Zbm Zbn Zbo Zbp
attribute [go_sem] Zbq Zbr Zbs Zbt Zkk Zbu Qug Q3x Qy7 Q3y Q3z Qg6 Q30 Q31 Q32 Zkl
attribute [go_sem] Zbv Quh Q33 Qy8 Q34 Qy9 Zbw Zbx Zby Zbz
attribute [go_sem] Zkm Zb0 Qui Q35 Qza Q36 Zkn Zb1 Quj Q37 Qzb Q38 Qzc Zb2 Zb3 Zb4
attribute [go_sem] Zko Zb5 Quk Q39 Qzd Q4a Qze Zb6 Zb7 Zb8 Zkp Zb9 Qul Q4b Qzf Q4c
attribute [go_sem] Zca Zkq Zcb Qum Q4d Qzg Q4e Zcc Qzh Zcd Zce Zcf Zcg Zch Zci Zcj
attribute [go_sem] Zck Zcl Zcm Q4f Q4g Q4h Q4i Q4j Q4k Q4l Q4m Q4n Q4o Zkr Zcn Qun
attribute [go_sem] Q4p Qzi Q4q Zco Qzj Zcp Zcq Zcr Zcs Zct Zcu Zcv Zcw Zcx Zcy Q4r
attribute [go_sem] Q4s Q4t Q4u Q4v Q4w Q4x Q4y Q4z Q40 Zks Zcz Qup Q41 Qzk Q42 Q43
attribute [go_sem] Qg7 Q44 Q45 Q46 Zkt Zc0 Quq Q47 Qzl Q48
end Go.Proofs.YtobaaecbdlhpdaaGreat

namespace Go.Dg
def digs (B n:Nat):List Nat:=if h:n=0∨B<2 then []else n%B::digs B (n/B)
termination_by n
decreasing_by
 simp only [not_or,Nat.not_lt]at h;exact Nat.div_lt_self (Nat.pos_of_ne_zero h.1) h.2
def val (B:Nat):List Nat→Nat
 | []=>0
 |d::l=>d+B*val B l
section
variable {B:Nat}
theorem Qbd:digs B 0=[]:=by unfold digs;simp
theorem Qf7 (hB:2≤B) {n:Nat} (hn:n≠0):digs B n=n%B::digs B (n/B):=by
 conv=>lhs;unfold digs
 rw [dif_neg];simp only [not_or,Nat.not_lt];exact⟨hn,hB⟩
theorem Qv8 (hB:2≤B) (n:Nat):val B (digs B n)=n:=by
 induction n using Nat.strongRecOn with
 |_ n ih=>
  by_cases hn:n=0
  ·subst hn;rw [Qbd];rfl
  ·rw [Qf7 hB hn];simp only [val];rw [ih _ (Nat.div_lt_self (Nat.pos_of_ne_zero hn) hB)];exact Nat.mod_add_div n B
theorem Qo7 (hB:2≤B) (n k:Nat):(digs B n)[k]? =if n/B^k=0 then none else some (n/B^k%B):=by
 induction k generalizing n with
 |zero=>
  by_cases hn:n=0
  ·subst hn;simp [Qbd]
  ·rw [Qf7 hB hn];simp [hn]
 |succ k ih=>
  by_cases hn:n=0
  ·subst hn;simp [Qbd]
  ·rw [Qf7 hB hn,List.getElem?_cons_succ,ih];have:n/B/B^k=n/B^(k+1):=by rw [Nat.div_div_eq_div_mul,Nat.pow_succ,Nat.mul_comm]
   rw [this]
theorem Qcz (hB:2≤B) (n k:Nat):k<(digs B n).length↔n/B^k≠0:=by
 have:=Qo7 hB n k;constructor
 ·intro h hz;rw [if_pos hz,List.getElem?_eq_none_iff]at this;omega
 ·intro h;rw [if_neg h]at this;exact(List.getElem?_eq_some_iff.1 this).1
theorem Qau (hB:2≤B) (n k:Nat):(digs B n).length≤k↔n<B^k:=by
 have h:=Qcz hB n k;have hp:0<B^k:=Nat.pow_pos (by omega);rw [←Nat.not_lt,h,Decidable.not_not,Nat.div_eq_zero_iff];omega
theorem Qbb (hB:2≤B) (n:Nat):n<B^(digs B n).length:=(Qau hB n _).1 (Nat.le_refl _)
theorem Qav (hB:2≤B) {n k:Nat} (h:k<(digs B n).length):(digs B n)[k]? =some (n/B^k%B):=by
 rw [Qo7 hB,if_neg ((Qcz hB n k).1 h)]
theorem Qtm (hB:2≤B) {n d:Nat} (h:d∈digs B n):d<B:=by
 obtain⟨k,hk⟩:=List.mem_iff_getElem?.1 h;rw [Qo7 hB]at hk;split at hk
 ·cases hk
 ·cases hk;exact Nat.mod_lt _ (by omega)
theorem Qcd (hB:2≤B) {n k:Nat} (h:(digs B n).length≤k):n/B^k=0:=by
 have:=(Qau hB n k).1 h;exact Nat.div_eq_of_lt this
theorem Qbi (hB:2≤B) {n:Nat}:digs B n=[]↔n=0:=by
 constructor
 ·intro h;have:=Qv8 hB n;rw [h]at this;exact this.symm
 ·rintro rfl;exact Qbd
def lows (B n i:Nat):List Nat:=(List.range i).map fun k=>n/B^k%B
theorem Qai (n i:Nat):(lows B n i).length=i:=by simp [lows]
theorem Qbq (n i k:Nat) (h:k<i):(lows B n i)[k]? =some (n/B^k%B):=by simp [lows,h]
theorem Qq7 (n i:Nat):lows B n (i+1)=n%B::lows B (n/B) i:=by
 simp only [lows,List.range_succ_eq_map,List.map_cons,Nat.pow_zero,Nat.div_one,List.map_map];congr 1;apply List.map_congr_left;intro k _;simp only [Function.comp,Nat.succ_eq_add_one];rw [Nat.div_div_eq_div_mul,Nat.pow_succ,Nat.mul_comm]
theorem Q7t (hB:0<B) (n i:Nat):val B (lows B n i)=n%B^i:=by
 induction i generalizing n with
 |zero=>simp [lows,val,Nat.mod_one]
 |succ i ih=>
  rw [Qq7];simp only [val];rw [ih,Nat.pow_succ,Nat.mul_comm (B^i) B,Nat.mod_mul]
theorem Qh9 (hB:2≤B) (n:Nat):lows B n (digs B n).length=digs B n:=by
 apply List.ext_getElem?;intro k;by_cases hk:k<(digs B n).length
 ·rw [Qbq _ _ _ hk,Qav hB hk]
 ·rw [List.getElem?_eq_none (by rw [Qai];omega),List.getElem?_eq_none (by omega)]
def Qe2 (l:List Nat):List Nat:=(l.reverse.dropWhile (· ==0)).reverse
theorem Qec (l:List Nat):Qe2 (l++[0])=Qe2 l:=by simp [Qe2]
theorem Qgz (l:List Nat) {d:Nat} (h:d≠0):Qe2 (l++[d])=l++[d]:=by simp [Qe2,h]
theorem Q08:Qe2 []=[]:=rfl
theorem Qn4 (l m:List Nat):val B (l++m)=val B l+B^l.length*val B m:=by
 induction l with
 |nil=>simp [val]
 |cons d l ih=>
  simp only [List.cons_append,val,ih,List.length_cons,Nat.pow_succ];rw [Nat.mul_add,Nat.add_assoc,←Nat.mul_assoc,Nat.mul_comm B (B^l.length)]
theorem Zmf (hB:0<B) {l:List Nat} (h: ∀d∈l,d<B):val B l<B^l.length:=by
 induction l with
 |nil=>simp [val]
 |cons d l ih=>
  have h1:=ih fun x hx=>h x (by simp [hx]);have h2:=h d (by simp);simp only [val,List.length_cons,Nat.pow_succ];have:B*val B l+B≤B*B^l.length:=by rw [←Nat.mul_succ];exact Nat.mul_le_mul_left _ h1
  rw [Nat.mul_comm (B^l.length)];omega
theorem Q7u (hB:2≤B) {l:List Nat} (h: ∀d∈l,d<B):lows B (val B l) l.length=l:=by
 induction l with
 |nil=>rfl
 |cons d l ih=>
  have h2:=h d (by simp);rw [List.length_cons,Qq7];simp only [val];rw [Nat.add_mul_mod_self_left,Nat.mod_eq_of_lt h2,Nat.add_mul_div_left _ _ (by omega),Nat.div_eq_of_lt h2,Nat.zero_add,ih fun x hx=>h x (by simp [hx])]
theorem Qo8 (hB:2≤B) (l:List Nat) (h: ∀d∈l,d<B):Qe2 l=digs B (val B l):=by
 have key: ∀n,∀l:List Nat,l.length=n→(∀d∈l,d<B)→Qe2 l=digs B (val B l):=by
  intro n
  induction n with
  |zero=>intro l hl _;rw [List.length_eq_zero_iff.1 hl];simp [Q08,val,Qbd]
  |succ n ih=>
   intro l hl h;have hne:l≠ []:=by rintro rfl;simp at hl
   have hcut:=List.dropLast_concat_getLast hne;generalize l.dropLast=m at hcut;generalize l.getLast hne=d at hcut;subst hcut;have hm:m.length=n:=by simpa using hl
   have hmd: ∀x∈m,x<B:=fun x hx=>h x (by simp [hx]);by_cases hd:d=0
   ·subst hd;rw [Qec,ih m hm hmd,Qn4];simp [val]
   ·rw [Qgz m hd];have hlen:(digs B (val B (m++[d]))).length=(m++[d]).length:=by
     apply Nat.le_antisymm
     ·exact(Qau hB _ _).2 (Zmf (by omega) h)
     ·have:(m++[d]).length=m.length+1:=by simp
      rw [this];apply (Qcz hB _ _).2;rw [Qn4];simp only [val,Nat.mul_zero,Nat.add_zero];rw [Nat.add_mul_div_left _ _ (Nat.pow_pos (by omega))];exact fun e=>hd (Nat.eq_zero_of_add_eq_zero_left e)
    have:=Qh9 hB (val B (m++[d]));rw [hlen,Q7u hB h]at this;exact this
 exact key l.length l rfl h
theorem Qb1 (hB:2≤B) (n i:Nat):Qe2 (lows B n i)=digs B (n%B^i):=by
 rw [Qo8 hB,Q7t (by omega)];intro d hd;simp only [lows,List.mem_map]at hd;obtain⟨k,_,rfl⟩:=hd;exact Nat.mod_lt _ (by omega)
theorem Qx3 {l:List Nat} (h: ∀d,l.getLast? =some d→d≠0):Qe2 l=l:=by
 by_cases hne:l=[]
 ·subst hne;rfl
 ·have hcut:=List.dropLast_concat_getLast hne;have hl:l.getLast? =some (l.getLast hne):=List.getLast?_eq_some_getLast hne;have:=h _ hl;rw [←hcut];exact Qgz _ this
end
end Go.Dg

namespace Go.Proofs.YtobaaecbdlhpdaaGreat
open Go.Vl Go.RowKit Go.Dg
theorem wrapn {n:Nat} (h:n<9223372036854775808):IntKind.i64.wrap (n:Int)=n:=Qah (by omega) (by omega)
theorem Qrn {n:Nat} (h:n<9223372036854775808):IntKind.i64.wrap (((n+1:Nat):Int)-1)=(n:Int):=by
 rw [Qah (by omega) (by omega)];omega
theorem Qro:maxLen<9223372036854775808:=by simp [maxLen]
end Go.Proofs.YtobaaecbdlhpdaaGreat

namespace Go.Dg
section
variable {B:Nat}
def carry (B a b i:Nat):Nat:=(a%B^i+b%B^i)/B^i
theorem Qn7 (a b:Nat):carry B a b 0=0:=by simp [carry,Nat.mod_one]
theorem Qwe (hB:0<B) (a b i:Nat):carry B a b i≤1:=by
 have hp:0<B^i:=Nat.pow_pos hB;have h1:=Nat.mod_lt a hp;have h2:=Nat.mod_lt b hp;unfold carry;rw [Nat.div_le_iff_le_mul hp];omega
theorem Qwf (hB:0<B) (a b i:Nat):(a/B^i%B+b/B^i%B+carry B a b i)%B=(a+b)/B^i%B∧(a/B^i%B+b/B^i%B+carry B a b i)/B=carry B a b (i+1):=by
 have hp:0<B^i:=Nat.pow_pos hB;unfold carry;generalize hP:B^i=P at*;have e1:(a+b)/P=a/P+b/P+(a%P+b%P)/P:=by
  conv=>lhs;rw [←Nat.div_add_mod a P,←Nat.div_add_mod b P]
  have:P*(a/P)+a%P+(P*(b/P)+b%P)=(a%P+b%P)+P*(a/P+b/P):=by rw [Nat.mul_add];omega
  rw [this,Nat.add_mul_div_left _ _ hp];omega
 constructor
 ·rw [e1]
  conv=>rhs;rw [Nat.add_mod,Nat.add_mod (a/P)]
  conv=>lhs;rw [Nat.add_mod,Nat.add_mod (a/P%B)]
  simp
 ·have hP1:B^(i+1)=P*B:=by rw [Nat.pow_succ,hP]
  rw [hP1,Nat.mod_mul,Nat.mod_mul];have:a%P+P*(a/P%B)+(b%P+P*(b/P%B))=(a%P+b%P)+P*(a/P%B+b/P%B):=by rw [Nat.mul_add];omega
  rw [this,←Nat.div_div_eq_div_mul,Nat.add_mul_div_left _ _ hp];congr 1;omega
theorem Q1h (hB:2≤B) {n i:Nat} (h1:n<B^i) (h2: ∀j,j<i→n/B^j≠0):lows B n i=digs B n:=by
 have hl:(digs B n).length=i:=by
  apply Nat.le_antisymm ((Qau hB n i).2 h1);rcases Nat.eq_zero_or_pos i with rfl|hi
  ·exact Nat.zero_le _
  ·have:=(Qcz hB n (i-1)).2 (h2 (i-1) (by omega));omega
 rw [←hl,Qh9 hB]
end
end Go.Dg

namespace Go.Proofs.YtobaaecbdlhpdaaGreat
open Go.Vl Go.RowKit Go.Dg
theorem Qg5 {a b:Nat} (h:a+b<9223372036854775808):IntKind.i64.wrap ((a:Int)+(b:Int))=((a+b:Nat):Int):=by
 rw [Qah (by omega) (by omega)];omega
theorem Qak {a:Nat} (h:a+1<9223372036854775808):IntKind.i64.wrap ((a:Int)+1)=((a+1:Nat):Int):=by
 rw [Qah (by omega) (by omega)];omega
end Go.Proofs.YtobaaecbdlhpdaaGreat

namespace Go.Dg
section
variable {B:Nat}
def cmpN (a b:Nat):Int:=if a<b then -1 else if b<a then 1 else 0
theorem Zfu {a b:Nat} (h:a<b):cmpN a b= -1:=by simp [cmpN,h]
theorem Zfv {a b:Nat} (h:b<a):cmpN a b=1:=by simp [cmpN,h];omega
theorem Zfw (a:Nat):cmpN a a=0:=by simp [cmpN]
theorem Zep (hB:2≤B) {a b:Nat} (h:(digs B a).length<(digs B b).length):a<b:=by
 have h1:=Qbb hB a;have h2:=(Qcz hB b _).1 h;have h3:=Nat.div_eq_zero_iff (a:=b) (b:=B^(digs B a).length);have:0<B^(digs B a).length:=Nat.pow_pos (by omega);omega
theorem Qib (hB:0<B) (a i:Nat):a/B^i=B*(a/B^(i+1))+a/B^i%B:=by
 rw [Nat.pow_succ,←Nat.div_div_eq_div_mul];exact(Nat.div_add_mod _ _).symm
theorem Qrc (hB:0<B) {a b i:Nat} (h:a/B^(i+1)=b/B^(i+1)) (hd:a/B^i%B<b/B^i%B):a<b:=by
 have h1:=Qib hB a i;have h2:=Qib hB b i;rw [h]at h1;apply Nat.lt_of_not_le;intro hle;have:=Nat.div_le_div_right (c:=B^i) hle;omega
theorem Qx4 (hB:0<B) {a b i:Nat} (h:a/B^(i+1)=b/B^(i+1)) (hd:a/B^i%B=b/B^i%B):a/B^i=b/B^i:=by
 rw [Qib hB a i,Qib hB b i,h,hd]
def bor (B a b i:Nat):Nat:=if a%B^i<b%B^i then 1 else 0
theorem Qwa (a b:Nat):bor B a b 0=0:=by simp [bor,Nat.mod_one]
theorem Qwb (a b i:Nat):bor B a b i≤1:=by unfold bor;split<;>omega
theorem Q1f (hB:0<B) {a b:Nat} (h:b≤a) (i:Nat):(a-b)/B^i+b/B^i+bor B a b i=a/B^i:=by
 have hp:0<B^i:=Nat.pow_pos hB;unfold bor;generalize B^i=P at*;have ha:=Nat.div_add_mod a P;have hb:=Nat.div_add_mod b P;have hm1:=Nat.mod_lt a hp;have hm2:=Nat.mod_lt b hp;have hle:b/P≤a/P:=Nat.div_le_div_right h;generalize a/P=x at*;generalize b/P=y at*;generalize a%P=r at*;generalize b%P=s at*;obtain⟨z,rfl⟩:=Nat.exists_eq_add_of_le hle;rw [Nat.mul_add]at ha;split
 ·rename_i hlt;have hz:z≠0:=by rintro rfl;rw [Nat.mul_zero]at ha;omega
  obtain⟨z',rfl⟩:=Nat.exists_eq_succ_of_ne_zero hz;have e:a-b=(P+r-s)+P*z':=by rw [Nat.mul_succ]at ha;omega
  rw [e,Nat.add_mul_div_left _ _ hp,Nat.div_eq_of_lt (by omega)];omega
 ·rename_i hlt;have e:a-b=(r-s)+P*z:=by omega
  rw [e,Nat.add_mul_div_left _ _ hp,Nat.div_eq_of_lt (by omega)];omega
theorem Qwc (hB:2≤B) {a b:Nat} (h:b≤a) (i:Nat):
  (a-b)/B^i%B+b/B^i%B+bor B a b i=a/B^i%B+B*bor B a b (i+1):=by
 have hB0:0<B:=by omega
 have h1:=Q1f hB0 h i;have h2:=Q1f hB0 h (i+1);have e1:=Qib hB0 (a-b) i;have e2:=Qib hB0 b i;have e3:=Qib hB0 a i;have hm:=Nat.mul_add B ((a-b)/B^(i+1)+b/B^(i+1)) (bor B a b (i+1));have hm2:=Nat.mul_add B ((a-b)/B^(i+1)) (b/B^(i+1));rw [h2]at hm;omega
def mix (B V S n m:Nat):List Nat:=(List.range n).map fun j=>if j<m then V/B^j%B else S/B^j%B
theorem Qbj (V S n m:Nat):(mix B V S n m).length=n:=by simp [mix]
theorem Qdc (V S n m j:Nat) (h:j<n):(mix B V S n m)[j]? =some (if j<m then V/B^j%B else S/B^j%B):=by simp [mix,h]
theorem Qlt (hB:0<B) {V W m j:Nat} (h:V%B^m=W%B^m) (hj:j<m):V/B^j%B=W/B^j%B:=by
 have key: ∀n,n/B^j%B=(n%B^m)/B^j%B:=by
  intro n;have e:B^m=B^j*(B*B^(m-j-1)):=by
   rw [←Nat.mul_assoc,←Nat.pow_succ,←Nat.pow_add];congr 1;omega
  rw [e,Nat.mod_mul_right_div_self,Nat.mod_mul_right_mod]
 rw [key V,key W,h]
theorem Qed (hB:0<B) {V W S n m d:Nat} (hm:m<n) (h:V%B^m=W%B^m) (hd:W/B^m%B=d):(mix B V S n m).set m d=mix B W S n (m+1):=by
 apply List.ext_getElem?;intro j;rw [List.getElem?_set];by_cases hj:j<n
 ·rw [Qdc _ _ _ _ _ hj,Qdc _ _ _ _ _ hj,Qbj];by_cases e:m=j
  ·subst e;simp [hj,hd]
  ·simp only [e,if_false];by_cases hlt:j<m
   ·rw [if_pos hlt,if_pos (by omega),Qlt hB h hlt]
   ·rw [if_neg hlt,if_neg (by omega)]
 ·rw [List.getElem?_eq_none (by rw [Qbj];omega),List.getElem?_eq_none (by rw [Qbj];omega),Qbj];simp;omega
theorem Qf9 {V S n m:Nat} (hB:0<B) (h:V/B^m=S/B^m):mix B V S n m=lows B V n:=by
 apply List.map_congr_left;intro j _;split
 ·rfl
 ·rename_i hj;obtain⟨k,rfl⟩:=Nat.exists_eq_add_of_le (Nat.le_of_not_lt hj);rw [Nat.pow_add,←Nat.div_div_eq_div_mul,←Nat.div_div_eq_div_mul,h]
theorem Qk4 (V S n:Nat):mix B V S n 0=lows B S n:=by simp [mix,lows]
def mulV (B S x i b k:Nat):Nat:=S+x*B^i*(b%B^k)
theorem Qrd (S x i b:Nat):mulV B S x i b 0=S:=by simp [mulV,Nat.mod_one]
theorem Qre (S x i b k:Nat):mulV B S x i b (k+1)=mulV B S x i b k+x*(b/B^k%B)*B^(i+k):=by
 unfold mulV;rw [Nat.pow_succ,Nat.mod_mul,Nat.mul_add,Nat.pow_add];have:x*B^i*(B^k*(b/B^k%B))=x*(b/B^k%B)*(B^i*B^k):=by
  simp only [Nat.mul_assoc,Nat.mul_comm,Nat.mul_left_comm]
 rw [this];omega
def mulC (B S x i b k:Nat):Nat:=mulV B S x i b k/B^(i+k)-S/B^(i+k)
theorem Zfx (S x i b k:Nat):S≤mulV B S x i b k:=Nat.le_add_right _ _
theorem Qph (S x i b k:Nat):mulC B S x i b k+S/B^(i+k)=mulV B S x i b k/B^(i+k):=by
 have:=Nat.div_le_div_right (c:=B^(i+k)) (Zfx (B:=B) S x i b k);unfold mulC;omega
theorem Qrf (S x i b:Nat):mulC B S x i b 0=0:=by simp [mulC,Qrd]
theorem Qwd (hB:0<B) (S x i b k:Nat):
  (S/B^(i+k)%B+mulC B S x i b k+x*(b/B^k%B))%B=mulV B S x i b (k+1)/B^(i+k)%B∧
  (S/B^(i+k)%B+mulC B S x i b k+x*(b/B^k%B))/B=mulC B S x i b (k+1):=by
 have hp:0<B^(i+k):=Nat.pow_pos hB;have h1:=Qph (B:=B) S x i b k;have e1:mulV B S x i b (k+1)/B^(i+k)=(S/B^(i+k)%B+mulC B S x i b k+x*(b/B^k%B))+B*(S/B^(i+k+1)):=by
  rw [Qre,Nat.add_mul_div_right _ _ hp,←h1];have:=Qib hB S (i+k);omega
 constructor
 ·rw [e1,Nat.add_mul_mod_self_left]
 ·have h2:=Qph (B:=B) S x i b (k+1);have e2:mulV B S x i b (k+1)/B^(i+(k+1))=mulV B S x i b (k+1)/B^(i+k)/B:=by
   rw [Nat.div_div_eq_div_mul,←Nat.pow_succ];rfl
  rw [e1,Nat.add_mul_div_left _ _ hB]at e2;have e3:S/B^(i+(k+1))=S/B^(i+k+1):=rfl;omega
theorem Q7y (S x i b k:Nat):mulV B S x i b k%B^(i+k)=mulV B S x i b (k+1)%B^(i+k):=by
 rw [Qre,Nat.add_mul_mod_self_right]
theorem Q1g (a i b k:Nat) (hk:b<B^k):mulV B (a%B^i*b) (a/B^i%B) i b k=a%B^(i+1)*b:=by
 unfold mulV;rw [Nat.mod_eq_of_lt hk,Nat.pow_succ,Nat.mod_mul,Nat.add_mul];congr 1;rw [Nat.mul_comm (a/B^i%B)]
theorem Zfy (hB:0<B) {S x i b k:Nat} (hx:x<B):mulC B S x i b k<B:=by
 induction k with
 |zero=>rw [Qrf];exact hB
 |succ k ih=>
  rw [←(Qwd hB S x i b k).2,Nat.div_lt_iff_lt_mul hB];have h1:S/B^(i+k)%B<B:=Nat.mod_lt _ hB;have h2:b/B^k%B<B:=Nat.mod_lt _ hB;have h3:x*(b/B^k%B)≤(B-1)*(B-1):=Nat.mul_le_mul (by omega) (by omega);have h4:B*B=(B-1)*(B-1)+2*(B-1)+1:=by
   obtain⟨c,rfl⟩: ∃c,B=c+1:=⟨B-1,by omega⟩;simp only [Nat.add_sub_cancel,Nat.add_mul,Nat.mul_add];omega
  omega
end
end Go.Dg

namespace Go.Proofs.YtobaaecbdlhpdaaGreat
open Go.Vl Go.RowKit Go.Dg
end Go.Proofs.YtobaaecbdlhpdaaGreat

namespace Go.Proofs.YtobaaecbdlhpdaaGreat
open Go.Vl Go.RowKit Go.Dg
end Go.Proofs.YtobaaecbdlhpdaaGreat

namespace Go.Proofs.YtobaaecbdlhpdaaGreat
open Go.Vl Go.RowKit Go.Dg
end Go.Proofs.YtobaaecbdlhpdaaGreat

namespace Go.Vl
open Go.RowKit
theorem Zpq (P:Program) (t:TypeId) (xs ys:List PV):Qbr .eql t P (.agg xs) (.agg ys)=match Qc0 P t with
  |some sh=>match Qay sh xs ys with
   |some b=>some (.bool b)
   |none=>none
  |none=>none:=by
 unfold Qbr;cases Qc0 P t with
 |none=>rfl
 |some sh=>simp only;cases Qay sh xs ys<;>rfl
theorem Zpr (P:Program) (t:TypeId) (xs ys:List PV):Qbr .neq t P (.agg xs) (.agg ys)=match Qc0 P t with
  |some sh=>match Qay sh xs ys with
   |some b=>some (.bool !b)
   |none=>none
  |none=>none:=by
 unfold Qbr;cases Qc0 P t with
 |none=>rfl
 |some sh=>simp only;cases Qay sh xs ys<;>rfl
attribute [go_sem] Zpq Zpr
end Go.Vl

namespace Go.Proofs.YtobaaecbdlhpdaaGreat
open Go.Vl Go.RowKit Go.Dg
end Go.Proofs.YtobaaecbdlhpdaaGreat

namespace Go.Vl
open Go.RowKit
theorem Zfj (P:Program) (p:Nat×List (Nat×Nat)×List (Nat×Nat)) (tb:Tab) (id:Nat) (bx:Bx) (fo:Operand) (as0:Array Operand) (ts:Array TypeId) (f:FuncId) (first cap args:List PV):Qa1 P (p::tb) id (.call ⟨.value fo,as0,ts⟩) (.fn f first cap::args) bx=
  (match lkp (p::tb) id with
   |none=>M.bind (Qe7 first) (fun x=> .bind (Qgg args) fun y=> .bind (Qe7 cap) fun z=> .pure (.call f (x.1++y.1++z.1) (x.2++y.2++z.2))) bx
   |some t=>Qfj t.1 t.2 f (first++args++cap) bx):=by
 cases h:lkp (p::tb) id with
 |none=>rw [Zfg (h:=h)]
 |some t=>obtain⟨θ,ν⟩:=t;rw [Zfh (h:=h)]
theorem ble6:Nat.ble 1000000 1000000=true:=rfl
theorem Zpw:Nat.ble 1000000 1000001=true:=rfl
attribute [go_sem] Zfj ble6 Zpw
theorem Zpx (P:Program) (t:TypeId) (x y:ByteArray):Qbr .eql t P (.str x) (.str y)=some (.bool (x.data.toList==y.data.toList)):=by
 rw [Zli,←Go.ByteArray.toList_eq x,←Go.ByteArray.toList_eq y];rfl
theorem Zpy (P:Program) (t:TypeId) (x y:ByteArray):Qbr .neq t P (.str x) (.str y)=some (.bool !(x.data.toList==y.data.toList)):=by
 rw [Zli,←Go.ByteArray.toList_eq x,←Go.ByteArray.toList_eq y];rfl
attribute [go_sem high] Zpx Zpy
def bnum (l:List UInt8):Nat:=l.foldl (fun n b=>n*256+b.toNat) 0
theorem Qlj (l:List UInt8) (b:UInt8):bnum (l++[b])=bnum l*256+b.toNat:=by simp [bnum]
theorem Qte: ∀(n:Nat) (l:List UInt8),l.length=n→bnum l<256^n
 |0,l,h=>by obtain rfl:=List.length_eq_zero_iff.1 h;simp [bnum]
 |n+1,l,h=>by
  have hne:l≠ []:=by intro e;rw [e]at h;simp at h
  have e:=List.dropLast_concat_getLast hne;have ih:=Qte n l.dropLast (by simp [h]);rw [←e,Qlj,Nat.pow_succ];have:=(l.getLast hne).toNat_lt;omega
theorem Qhr (s:ByteArray):s.size=s.data.toList.length:=rfl
theorem Qq4 (s:ByteArray) (k:Nat) (h:k<s.data.toList.length):s[k]? =some s.data.toList[k]:=by
 have h':k<s.size:=h;rw [getElem?_pos s k h'];rfl
end Go.Vl

namespace Go.Proofs.YtobaaecbdlhpdaaGreat
open Go.Vl Go.RowKit Go.Dg
end Go.Proofs.YtobaaecbdlhpdaaGreat

namespace Go.Proofs.YtobaaecbdlhpdaaGreat
open Go.Vl Go.RowKit Go.Dg
end Go.Proofs.YtobaaecbdlhpdaaGreat

namespace Go.Dg
variable {B:Nat}
theorem Qwk {V S N i d:Nat} (hi:i<N) (hd:S/B^i%B=d):(mix B V S N (i+1)).set i d=mix B V S N i:=by
 apply List.ext_getElem?;intro j;rw [List.getElem?_set];by_cases hj:j<N
 ·rw [Qdc _ _ _ _ _ hj,Qdc _ _ _ _ _ hj,Qbj];by_cases e:i=j
  ·subst e;simp [hj,hd]
  ·simp only [e,if_false];by_cases hlt:j<i
   ·rw [if_pos (by omega),if_pos hlt]
   ·rw [if_neg (by omega),if_neg hlt]
 ·rw [List.getElem?_eq_none (by rw [Qbj];omega),List.getElem?_eq_none (by rw [Qbj];omega),Qbj];simp;omega
theorem Q18 (v N n:Nat) (h:n≤N):(lows B v N).take n=lows B v n:=by
 apply List.ext_getElem?;intro j;by_cases hj:j<n
 ·rw [List.getElem?_take_of_lt hj,Qbq _ _ _ (by omega),Qbq _ _ _ hj]
 ·rw [List.getElem?_eq_none (by rw [List.length_take,Qai];omega),List.getElem?_eq_none (by rw [Qai];omega)]
end Go.Dg

namespace Go.Proofs.YtobaaecbdlhpdaaGreat
open Go.Vl Go.RowKit Go.Dg
abbrev f8:Nat→PV:=fun d:Nat=>PV.int .u8 (d:Int)
def magL (n:Nat):List UInt8:=(digs 256 n).reverse.map fun d=>UInt8.ofNat d
def wPV (n:Int):PV:= .agg [.bool (decide (n<0)),.str ⟨(magL n.natAbs).toArray⟩]
theorem Qyf (l:List Nat):Qdy (l.map f8)=some (l.map fun d=>UInt8.ofNat d):=by
 induction l with
 |nil=>rfl
 |cons d l ih=>simp only [List.map_cons,Qdy,ih];rfl
theorem Qgd {n:Nat} (h:n<256):IntKind.u8.wrap (n:Int)=(n:Int):=by
 simp [IntKind.wrap,IntKind.signed,IntKind.bits];omega
end Go.Proofs.YtobaaecbdlhpdaaGreat

namespace Go.Dg
variable {B:Nat}

def blen (m:Nat):Nat:=if h:m=0 then 0 else blen (m/2)+1
termination_by m
decreasing_by exact Nat.div_lt_self (Nat.pos_of_ne_zero h) (by decide)
theorem Qf5:blen 0=0:=by unfold blen;simp
theorem Qf6 {m:Nat} (h:m≠0):blen m=blen (m/2)+1:=by
  conv=>lhs;unfold blen
  simp [h]
theorem Qd0: ∀(k m:Nat),m/2^k≠0→blen m=blen (m/2^k)+k
  |0,m,_=>by simp
  |k+1,m,h=>by
    have e:m/2^(k+1)=m/2/2^k:=by rw [Nat.div_div_eq_div_mul,Nat.pow_succ,Nat.mul_comm]
    have hm:m≠0:=by intro h0;rw [h0]at h;simp at h
    rw [Qf6 hm,e,Qd0 k (m/2) (by rw [←e];exact h)];omega
theorem Qdb: ∀(k m:Nat),m<2^k→blen m≤k
  |0,m,h=>by
        obtain rfl:m=0:=by simpa using h
        rw [Qf5];exact Nat.le_refl _
  |k+1,m,h=>by
    by_cases h0:m=0
    · rw [h0,Qf5];omega
    · rw [Qf6 h0];have:=Qdb k (m/2) (by rw [Nat.pow_succ]at h;omega);omega
theorem Qlk: ∀(k m:Nat),2^k≤m→k<blen m
  |0,m,h=>by
    have h0:m≠0:=by intro e;rw [e]at h;simp at h
    rw [Qf6 h0];omega
  |k+1,m,h=>by
    have h0:m≠0:=by intro e;rw [e]at h;have:=Nat.pow_pos (n:=k+1) (show 0<2 by decide);omega
    rw [Qf6 h0];have:=Qlk k (m/2) (by rw [Nat.pow_succ]at h;omega);omega
/-- The highest digit. -/
theorem Qdn (hB:2≤B) {m:Nat} (h:m≠0):m/B^((digs B m).length-1)≠0∧m/B^((digs B m).length-1)<B:=by
  have hp:0<(digs B m).length:=List.length_pos_iff.2 (mt (Qbi hB).1 h);refine⟨(Qcz hB m _).1 (by omega),?_⟩;have:=Qbb hB m;have e:B^(digs B m).length=B^((digs B m).length-1)*B:=by rw [←Nat.pow_succ];congr 1;omega
  rw [e]at this;exact Nat.div_lt_of_lt_mul this
theorem Qv0 {m:Nat} (h:m≠0) (c:Nat) (hc:0<c):blen m=blen (m/(2^c)^((digs (2^c) m).length-1))+c*((digs (2^c) m).length-1):=by
  have hB:2≤2^c:=by
    have:=Nat.pow_le_pow_right (show 0<2 by decide) hc;simpa using this
  have:=Qdn hB h;rw [←Nat.pow_mul]at this ⊢;exact Qd0 _ _ this.1
end Go.Dg

namespace Go.Proofs.YtobaaecbdlhpdaaGreat
open Go.Vl Go.RowKit Go.Dg
theorem Qde (m:Nat):(magL m).length=(digs 256 m).length:=by simp [magL]
theorem Q2a (m:Nat):(⟨(magL m).toArray⟩:ByteArray).size=(digs 256 m).length:=by rw [Qhr,←Qde]
theorem Q8a {m:Nat} (h:m≠0): ∃d:UInt8,(⟨(magL m).toArray⟩:ByteArray)[0]? =some d∧d.toNat=m/256^((digs 256 m).length-1):=by
 have hp:0<(digs 256 m).length:=List.length_pos_iff.2 (mt (Qbi (by decide)).1 h);have ht:=Qdn (B:=256) (by decide) h;have hg:=Qav (B:=256) (n:=m) (k:=(digs 256 m).length-1) (by decide) (by omega);rw [Nat.mod_eq_of_lt ht.2]at hg;have hl:0<(⟨(magL m).toArray⟩:ByteArray).data.toList.length:=by show 0<(magL m).length;rw [Qde];exact hp
 refine⟨_,Qq4 _ 0 hl,?_⟩;have e:(⟨(magL m).toArray⟩:ByteArray).data.toList[0]=UInt8.ofNat (m/256^((digs 256 m).length-1)):=by
  show(magL m)[0]'(by rw [Qde];exact hp)=_;have:(magL m)[0]? =some (UInt8.ofNat (m/256^((digs 256 m).length-1))):=by
   rw [magL,List.getElem?_map,List.getElem?_reverse (by omega),Nat.sub_zero,hg];rfl
  exact Option.some.inj (by rw [←this,List.getElem?_eq_getElem])
 rw [e,UInt8.toNat_ofNat_of_lt' ht.2]
def Qhy (n:Int):PV:=if 65536<blen n.natAbs then .tup [wPV 0,.int .i64 7]else .tup [wPV n,.int .i64 0]
theorem Qwn:wPV 0= .agg [.bool false,.str ⟨#[]⟩]:=by simp [wPV,magL,Qbd]
end Go.Proofs.YtobaaecbdlhpdaaGreat

namespace Go.Vl
open Go.RowKit
theorem Qdi (n:Nat):IntKind.u64.wrap (n:Int)=((n%18446744073709551616:Nat):Int):=by
 simp [IntKind.wrap,IntKind.signed,IntKind.bits]
theorem Qh7 (n:Nat):(n:Int).fdiv (2^min 32 64)=((n/4294967296:Nat):Int):=by
 rw [Int.fdiv_eq_ediv_of_nonneg _ (by decide)];rfl
theorem Zl4 (n:Nat):IntKind.u64.wrap ((BitVec.ofInt 64 (n:Int) &&& BitVec.ofInt 64 4294967295).toNat:Int)=((n%4294967296:Nat):Int):=by
 rw [Qdi];congr 1;rw [BitVec.toNat_and];have h1:(BitVec.ofInt 64 (n:Int)).toNat=n%18446744073709551616:=by simp
 have h2:(BitVec.ofInt 64 4294967295).toNat=2^32-1:=by decide
 rw [h1,h2,Nat.and_two_pow_sub_one_eq_mod];omega
theorem Zel {P:Program} {t:TypeId} (n:Nat):Qbr .and t P (.int .u64 (n:Int)) (.int .u64 4294967295)=some (.int .u64 ((n%4294967296:Nat):Int)):=by
 rw [Zpb];exact congrArg (fun z=>some (PV.int .u64 z)) (Zl4 n)
attribute [go_sem high] Zel
theorem Zpv {x y:Nat} (hx:x<18446744073709551616) (hy:y<18446744073709551616):
  ((x/4294967296*(y/4294967296)%18446744073709551616+(x/4294967296*(y%4294967296)%18446744073709551616+(x%4294967296*(y%4294967296)%18446744073709551616)/4294967296)%18446744073709551616/4294967296)%18446744073709551616+
   ((x/4294967296*(y%4294967296)%18446744073709551616+(x%4294967296*(y%4294967296)%18446744073709551616)/4294967296)%18446744073709551616%4294967296+x%4294967296*(y/4294967296)%18446744073709551616)%18446744073709551616/4294967296)%18446744073709551616=x*y/18446744073709551616:=by
 have a1:x/4294967296≤4294967295:=by omega
 have a0:x%4294967296≤4294967295:=by omega
 have b1:y/4294967296≤4294967295:=by omega
 have b0:y%4294967296≤4294967295:=by omega
 have ex:x=x/4294967296*4294967296+x%4294967296:=by omega
 have ey:y=y/4294967296*4294967296+y%4294967296:=by omega
 have hxy:x*y=x/4294967296*(y/4294967296)*18446744073709551616+(x/4294967296*(y%4294967296)+x%4294967296*(y/4294967296))*4294967296+x%4294967296*(y%4294967296):=by
  generalize x/4294967296=p at*;generalize x%4294967296=q at*;generalize y/4294967296=r at*;generalize y%4294967296=s at*;subst ex ey;simp only [Nat.add_mul,Nat.mul_add];rw [show p*4294967296*(r*4294967296)=p*r*18446744073709551616 by rw [Nat.mul_mul_mul_comm]];rw [show p*4294967296*s=p*s*4294967296 by rw [Nat.mul_right_comm],show q*(r*4294967296)=q*r*4294967296 by rw [Nat.mul_assoc]];omega
 have hlt:x*y≤18446744073709551615*18446744073709551615:=Nat.mul_le_mul (by omega) (by omega);have h11:=Nat.mul_le_mul a1 b1;have h10:=Nat.mul_le_mul a1 b0;have h01:=Nat.mul_le_mul a0 b1;have h00:=Nat.mul_le_mul a0 b0;rw [hxy]at hlt ⊢;generalize x/4294967296*(y/4294967296)=P at*;generalize x/4294967296*(y%4294967296)=Q at*;generalize x%4294967296*(y/4294967296)=R at*;generalize x%4294967296*(y%4294967296)=W at*;clear hxy ex ey a1 a0 b1 b0;omega
end Go.Vl

namespace Go.Proofs.YtobaaecbdlhpdaaGreat
open Go.Vl Go.RowKit
theorem Qry {w:World} {im:Im} {k1 k2 k3:IntKind} {x y z:Int} {us:List Value} (h:RepL w im [.int k1 x,.int k2 y,.int k3 z] us):us=[.int k1 x,.int k2 y,.int k3 z]:=by
 cases h with
 |cons _ u _ us h t=>
 cases h;cases t with
 |cons _ u _ us h t=>
 cases h;cases t with
 |cons _ u _ us h t=>
 cases h;cases t;rfl
theorem Qpw (x y c:Nat) (hc:c≤1):Qaf Tryz.prog 99 [.int .u64 (x:Int),.int .u64 (y:Int),.int .u64 (c:Int)] (.tup [.int .u64 (((x+y+c)%18446744073709551616:Nat):Int),.int .u64 (((x+y+c)/18446744073709551616:Nat):Int)]):=by
 refine .inr ⟨by kernel_rfl,rfl,fun w im us hr=> ?_⟩;rw [Qry hr];refine⟨.tuple #[.int .u64 (((x+y+c)%18446744073709551616:Nat):Int),.int .u64 (((x+y+c)/18446744073709551616:Nat):Int)],?_,.tup _ [_,_] (.cons _ _ _ _ (.int _ _) (.cons _ _ _ _ (.int _ _) .nil))⟩;rw [run_callFunc_extern Tryz.func99 (by kernel_rfl) (by kernel_rfl) (by kernel_rfl) (e:=add64Entry) (by kernel_rfl),run_add64 x y c (by omega) (by omega) (by omega) (by omega)];simp only [Result.andThen];congr 5<;>omega
theorem Q49 (x y b:Nat) (hb:b≤1):Qaf Tryz.prog 100 [.int .u64 (x:Int),.int .u64 (y:Int),.int .u64 (b:Int)] (.tup [.int .u64 (((x+18446744073709551616-y-b)%18446744073709551616:Nat):Int),.int .u64 ((if x<y+b then 1 else 0:Nat):Int)]):=by
 refine .inr ⟨by kernel_rfl,rfl,fun w im us hr=> ?_⟩;rw [Qry hr];refine⟨.tuple #[.int .u64 (((x+18446744073709551616-y-b)%18446744073709551616:Nat):Int),.int .u64 ((if x<y+b then 1 else 0:Nat):Int)],?_,.tup _ [_,_] (.cons _ _ _ _ (.int _ _) (.cons _ _ _ _ (.int _ _) .nil))⟩;rw [run_callFunc_extern Tryz.func100 (by kernel_rfl) (by kernel_rfl) (by kernel_rfl) (e:=sub64Entry) (by kernel_rfl),run_sub64 x y b hb];rfl
end Go.Proofs.YtobaaecbdlhpdaaGreat

namespace Go.Proofs.YtobaaecbdlhpdaaGreat
open Go.Vl Go.RowKit Go.Dg
abbrev BW:Nat:=18446744073709551616
theorem BW_2:2≤BW:=by decide
abbrev fW:Nat→PV:=fun d:Nat=>PV.int .u64 (d:Int)
def dw (l:List Nat):PV:= .slc (l.map fun d:Nat=>PV.int .u64 (d:Int))
theorem Qb8 (l:List Nat) (k:Nat):(l.map fun d:Nat=>PV.int .u64 (d:Int))[k]? =l[k]?.map fun d:Nat=>PV.int .u64 (d:Int):=List.getElem?_map
theorem Zfb (l:List Nat):((l.map fun d:Nat=>PV.int .u64 (d:Int)).all fun x=>x.cells.length==1)=true:=by rw [List.all_map,List.all_eq_true];intro d _;rfl
theorem Qc8 (l:List Nat) (hl:l.length≤maxLen):Qaf Tryz.prog 51 [dw l] (dw (Qe2 l)):=by
 have hm:=Qro;refine Qac (tb:=[]) 21 [.tmp 2] [0,2,14] mixed Tryz.func51 rfl (by kernel_rfl) (by kernel_rfl) (by kernel_rfl) (by kernel_rfl) ?_;simp -implicitDefEqProofs only [go_sem,Nat.reduceAdd,Nat.reduceMul,Nat.reduceEqDiff,Nat.reduceLT,Nat.reduceLeDiff,Nat.reduceSub,Nat.reduceBEq,reduceIte,reduceCtorEq,Int.reduceEq,Int.reduceNe,Nat.reduceBneDiff,Int.reduceLE,Int.reduceLT,Int.reduceToNat,Int.reduceAdd,Int.reduceSub,Int.reduceMul,Int.reduceNeg,dw];refine Qa4 mixed (fun k:{k:Nat // k≤l.length∧Qe2 (l.take k)=Qe2 l}=>St.of [(0,dw (l.take k.1)),(2,.nilS)] []) (fun k=>k.1) ⟨l.length,Nat.le_refl _,by rw [List.take_length]⟩ ?_ ?_
 ·exact Qa3 (by simp [Qae,lkp,ren1,ren0,dw])
 ·rintro⟨k,hk,ht⟩;have hlen:(l.take k).length=k:=by simp;omega
  cases k with
  |zero=>
   have h1:((0:Int)<((0:Nat):Int))=False:=by simp
   simp -implicitDefEqProofs only [go_sem,Nat.reduceAdd,Nat.reduceMul,Nat.reduceEqDiff,Nat.reduceLT,Nat.reduceLeDiff,Nat.reduceSub,Nat.reduceBEq,reduceIte,reduceCtorEq,Int.reduceEq,Int.reduceNe,Nat.reduceBneDiff,Int.reduceLE,Int.reduceLT,Int.reduceToNat,Int.reduceAdd,Int.reduceSub,Int.reduceMul,Int.reduceNeg,dw,List.length_map,hlen,h1];rw [←ht];rfl
  |succ k=>
   have h1:((0:Int)<((k+1:Nat):Int))=True:=by simp
   have h2:(0≤(k:Int))=True:=by simp
   have hw:=Qrn (n:=k) (by omega);have hlt:k<l.length:=by omega
   have hget:(l.take (k+1))[k]? =some l[k]:=by simp [hlt]
   have hcut:l.take (k+1)=l.take k++[l[k]]:=by rw [List.take_add_one];simp [hlt]
   cases hd:((l[k]:Int)==0)with
   |true=>
    have hd0:l[k]=0:=by simpa using hd
    have h3:((k:Int)≤((k+1:Nat):Int))=True:=by simp;omega
    simp -implicitDefEqProofs only [go_sem,Nat.reduceAdd,Nat.reduceMul,Nat.reduceEqDiff,Nat.reduceLT,Nat.reduceLeDiff,Nat.reduceSub,Nat.reduceBEq,reduceIte,reduceCtorEq,Int.reduceEq,Int.reduceNe,Nat.reduceBneDiff,Int.reduceLE,Int.reduceLT,Int.reduceToNat,Int.reduceAdd,Int.reduceSub,Int.reduceMul,Int.reduceNeg,dw,List.length_map,hlen,h1,h2,hw,Qb8,hget,hd,h3,Int.toNat_natCast,Zfb];refine⟨⟨k,by omega,?_⟩,by simp,?_⟩
    ·rw [←ht,hcut,hd0,Qec]
    ·refine Qa3 (by simp [Qae,lkp,ren1,ren0,dw];rw [←List.map_take];simp [List.take_take])
   |false=>
    have hd0:l[k]≠0:=by simpa using hd
    simp -implicitDefEqProofs only [go_sem,Nat.reduceAdd,Nat.reduceMul,Nat.reduceEqDiff,Nat.reduceLT,Nat.reduceLeDiff,Nat.reduceSub,Nat.reduceBEq,reduceIte,reduceCtorEq,Int.reduceEq,Int.reduceNe,Nat.reduceBneDiff,Int.reduceLE,Int.reduceLT,Int.reduceToNat,Int.reduceAdd,Int.reduceSub,Int.reduceMul,Int.reduceNeg,dw,List.length_map,hlen,h1,h2,hw,Qb8,hget,hd,Int.toNat_natCast];rw [←ht,hcut,Qgz _ hd0]
def cmpW (a b:Nat):Int:=if(digs BW a).length=(digs BW b).length then cmpN a b else((digs BW a).length:Int)-((digs BW b).length:Int)
theorem Qd4 (a b:Nat):(cmpW a b<0)↔a<b:=by
 unfold cmpW;split
 ·unfold cmpN;split
  ·simp;assumption
  ·split<;>simp<;>omega
 ·rename_i h;constructor
  ·intro h2;exact Zep BW_2 (by omega)
  ·intro h2;rcases Nat.lt_trichotomy (digs BW a).length (digs BW b).length with h3|h3|h3
   ·omega
   ·exact absurd h3 h
   ·have:=Zep BW_2 h3;omega
theorem Qdg (a b:Nat) (ha:(digs BW a).length≤1000000000) (hb:(digs BW b).length≤1000000000):Qaf Tryz.prog 92 [dw (digs BW a),dw (digs BW b)] (.int .i64 (cmpW a b)):=by
 refine Qac (tb:=[]) 43 [.tmp 4] [0,1,4,5,10,20,23,33] mixed Tryz.func92 rfl (by kernel_rfl) (by kernel_rfl) (by kernel_rfl) (by kernel_rfl) ?_;by_cases hl:(digs BW a).length=(digs BW b).length
 ·have hl':(((digs BW a).length:Int) != ((digs BW b).length:Int))=false:=by simp [hl]
  have hw:IntKind.i64.wrap (((digs BW a).length:Int)-1)=((digs BW a).length:Int)-1:=Qah (by omega) (by omega);rw [cmpW,if_pos hl];simp -implicitDefEqProofs only [go_sem,Nat.reduceAdd,Nat.reduceMul,Nat.reduceEqDiff,Nat.reduceLT,Nat.reduceLeDiff,Nat.reduceSub,Nat.reduceBEq,reduceIte,reduceCtorEq,Int.reduceEq,Int.reduceNe,Nat.reduceBneDiff,Int.reduceLE,Int.reduceLT,Int.reduceToNat,Int.reduceAdd,Int.reduceSub,Int.reduceMul,Int.reduceNeg,dw,List.length_map,hl',hw];refine Qa4 mixed (fun i:{i:Nat // i≤(digs BW a).length∧a/BW^i=b/BW^i}=>St.of [(0,dw (digs BW a)),(1,dw (digs BW b)),(4,.int .i64 0),(5,.int .i64 ((i.1:Int)-1))] []) (fun i=>i.1)
   ⟨(digs BW a).length,Nat.le_refl _,by rw [Qcd BW_2 (Nat.le_refl _),hl,Qcd BW_2 (Nat.le_refl _)]⟩ ?_ ?_
  ·exact Qa3 (by simp [Qae,lkp,ren1,ren0,dw])
  ·rintro⟨i,hi,he⟩;cases i with
   |zero=>
    have h1:((0:Int)≤((0:Nat):Int)-1)=False:=by simp
    have hab:a=b:=by simpa using he
    subst hab;simp -implicitDefEqProofs only [go_sem,Nat.reduceAdd,Nat.reduceMul,Nat.reduceEqDiff,Nat.reduceLT,Nat.reduceLeDiff,Nat.reduceSub,Nat.reduceBEq,reduceIte,reduceCtorEq,Int.reduceEq,Int.reduceNe,Nat.reduceBneDiff,Int.reduceLE,Int.reduceLT,Int.reduceToNat,Int.reduceAdd,Int.reduceSub,Int.reduceMul,Int.reduceNeg,dw,h1,Zfw]
   |succ i=>
    have hs:(((i+1:Nat):Int)-1)=(i:Int):=by omega
    have h1:((0:Int)≤(i:Int))=True:=by simp
    have hga:=Qav BW_2 (show i<(digs BW a).length by omega);have hgb:=Qav BW_2 (show i<(digs BW b).length by omega);by_cases hlt:a/BW^i%BW<b/BW^i%BW
    ·have h2:(((a/BW^i%BW:Nat):Int)<((b/BW^i%BW:Nat):Int))=True:=by simp only [eq_iff_iff,iff_true];omega
     have hc:=Zfu (Qrc (by decide) he hlt);simp -implicitDefEqProofs only [go_sem,Nat.reduceAdd,Nat.reduceMul,Nat.reduceEqDiff,Nat.reduceLT,Nat.reduceLeDiff,Nat.reduceSub,Nat.reduceBEq,reduceIte,reduceCtorEq,Int.reduceEq,Int.reduceNe,Nat.reduceBneDiff,Int.reduceLE,Int.reduceLT,Int.reduceToNat,Int.reduceAdd,Int.reduceSub,Int.reduceMul,Int.reduceNeg,dw,hs,h1,Qb8,hga,hgb,h2,hc];exact Qaa _ _ (by kernel_rfl)
    ·have h2:(((a/BW^i%BW:Nat):Int)<((b/BW^i%BW:Nat):Int))=False:=by simp only [eq_iff_iff,iff_false];omega
     by_cases hgt:b/BW^i%BW<a/BW^i%BW
     ·have h3:(((b/BW^i%BW:Nat):Int)<((a/BW^i%BW:Nat):Int))=True:=by simp only [eq_iff_iff,iff_true];omega
      have hc:=Zfv (Qrc (by decide) he.symm hgt);simp -implicitDefEqProofs only [go_sem,Nat.reduceAdd,Nat.reduceMul,Nat.reduceEqDiff,Nat.reduceLT,Nat.reduceLeDiff,Nat.reduceSub,Nat.reduceBEq,reduceIte,reduceCtorEq,Int.reduceEq,Int.reduceNe,Nat.reduceBneDiff,Int.reduceLE,Int.reduceLT,Int.reduceToNat,Int.reduceAdd,Int.reduceSub,Int.reduceMul,Int.reduceNeg,dw,hs,h1,Qb8,hga,hgb,h2,h3,hc];exact⟨Qaa _ _ (by kernel_rfl),Qaa _ _ (by kernel_rfl)⟩
     ·have h3:(((b/BW^i%BW:Nat):Int)<((a/BW^i%BW:Nat):Int))=False:=by simp only [eq_iff_iff,iff_false];omega
      have hw2:IntKind.i64.wrap ((i:Int)-1)=(i:Int)-1:=Qah (by omega) (by omega);simp -implicitDefEqProofs only [go_sem,Nat.reduceAdd,Nat.reduceMul,Nat.reduceEqDiff,Nat.reduceLT,Nat.reduceLeDiff,Nat.reduceSub,Nat.reduceBEq,reduceIte,reduceCtorEq,Int.reduceEq,Int.reduceNe,Nat.reduceBneDiff,Int.reduceLE,Int.reduceLT,Int.reduceToNat,Int.reduceAdd,Int.reduceSub,Int.reduceMul,Int.reduceNeg,dw,hs,h1,Qb8,hga,hgb,h2,h3,hw2];refine⟨Qaa _ _ (by kernel_rfl),Qaa _ _ (by kernel_rfl),⟨i,by omega,Qx4 (by decide) he (by omega)⟩,by simp,?_⟩;exact Qa3 (by simp [Qae,lkp,ren1,ren0,dw])
 ·have hl':(((digs BW a).length:Int) != ((digs BW b).length:Int))=true:=by simp;omega
  have hw:IntKind.i64.wrap (((digs BW a).length:Int)-((digs BW b).length:Int))=((digs BW a).length:Int)-((digs BW b).length:Int):=Qah (by omega) (by omega);rw [cmpW,if_neg hl];simp -implicitDefEqProofs only [go_sem,Nat.reduceAdd,Nat.reduceMul,Nat.reduceEqDiff,Nat.reduceLT,Nat.reduceLeDiff,Nat.reduceSub,Nat.reduceBEq,reduceIte,reduceCtorEq,Int.reduceEq,Int.reduceNe,Nat.reduceBneDiff,Int.reduceLE,Int.reduceLT,Int.reduceToNat,Int.reduceAdd,Int.reduceSub,Int.reduceMul,Int.reduceNeg,dw,List.length_map,hl',hw]
end Go.Proofs.YtobaaecbdlhpdaaGreat
