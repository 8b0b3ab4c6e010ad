/-
  STy, Dg, SA1, Dn, SA2, Dm, SA3 (merged for the claim).
-/
import Derived.Test.YtlpiamlgibomhaaGreatUV
import Derived.Test.YtlpiamlgibomhaaGreatProg
set_option linter.unusedSimpArgs false
set_option linter.unusedVariables false
namespace Go.Proofs.YtlpiamlgibomhaaGreat
open Go.Vl
theorem mixed:Tryz.prog.follows .mixedOrders=true:=by kernel_rfl
theorem Zpp:tyOk Tryz.prog 3=true:=by kernel_rfl
theorem Zm1:Qb1 Tryz.prog 3=false:=by kernel_rfl
theorem Q1r:(Tryz.prog.info? 3).isSome=true:=by kernel_rfl
theorem Zhh:Qa0 Tryz.prog 3=some (1,8):=by kernel_rfl
theorem Q8t:Tryz.prog.cellsOf 3=1:=by kernel_rfl
theorem Zhi:Qa6 Tryz.prog 3=some (PV.int IntKind.i64 0):=by kernel_rfl
theorem Zm2:Tryz.prog.underlying 3=some (.int .i64):=by kernel_rfl
theorem Zpq:tyOk Tryz.prog 4=true:=by kernel_rfl
theorem Zm3:Qb1 Tryz.prog 4=false:=by kernel_rfl
theorem Q1s:(Tryz.prog.info? 4).isSome=true:=by kernel_rfl
theorem Zhj:Qa0 Tryz.prog 4=some (1,1):=by kernel_rfl
theorem Q8u:Tryz.prog.cellsOf 4=1:=by kernel_rfl
theorem Zhk:Qa6 Tryz.prog 4=some (PV.bool Bool.false):=by kernel_rfl
theorem Zhl:Tryz.prog.underlying 4=some .bool:=by kernel_rfl
theorem Zpr:tyOk Tryz.prog 5=true:=by kernel_rfl
theorem Zm4:Qb1 Tryz.prog 5=false:=by kernel_rfl
theorem Q1t:(Tryz.prog.info? 5).isSome=true:=by kernel_rfl
theorem Zhm:Qa0 Tryz.prog 5=some (1,1):=by kernel_rfl
theorem Q8v:Tryz.prog.cellsOf 5=1:=by kernel_rfl
theorem Zhn:Qa6 Tryz.prog 5=some (PV.int IntKind.u8 0):=by kernel_rfl
theorem Zm5:Tryz.prog.underlying 5=some (.int .u8):=by kernel_rfl
theorem Zps:tyOk Tryz.prog 9=true:=by kernel_rfl
theorem Zm6:Qb1 Tryz.prog 9=false:=by kernel_rfl
theorem Q1u:(Tryz.prog.info? 9).isSome=true:=by kernel_rfl
theorem Zho:Qa0 Tryz.prog 9=some (1,16):=by kernel_rfl
theorem Q8w:Tryz.prog.cellsOf 9=1:=by kernel_rfl
theorem Zhp:Qa6 Tryz.prog 9=some (PV.str {data:={toList:=[]}}):=by kernel_rfl
theorem Zfi:Tryz.prog.underlying 9=some .string:=by kernel_rfl
theorem Zhq (s:ByteArray):Qbb Tryz.prog 9 (.str s)=some (.int .i64 s.size):=by simp only [Qbb,Zfi]
theorem Zm7:tyOk Tryz.prog 22=true:=by kernel_rfl
theorem Zhr:Qb1 Tryz.prog 22=false:=by kernel_rfl
theorem Qxk:(Tryz.prog.info? 22).isSome=true:=by kernel_rfl
theorem Q8x:Qa0 Tryz.prog 22=some (1,24):=by kernel_rfl
theorem Q1v:Tryz.prog.cellsOf 22=1:=by kernel_rfl
theorem Q8y:Qa6 Tryz.prog 22=some PV.nilS:=by kernel_rfl
theorem Q8z:Qb0 Tryz.prog 22=some 3:=by kernel_rfl
theorem Qif:Tryz.prog.underlying 22=some (.slice 3):=by kernel_rfl
theorem Q80 (es:List PV):Qbb Tryz.prog 22 (.slc es)=some (.int .i64 es.length):=by simp only [Qbb,Qif]
theorem Q81:Qbb Tryz.prog 22 .nilS=some (.int .i64 0):=by simp only [Qbb,Qif]
theorem Q82 (b e o n:Nat):Qbb Tryz.prog 22 (.bs b e o n)=some (.int .i64 n):=by simp only [Qbb,Qif]
theorem Zm8:tyOk Tryz.prog 24=true:=by kernel_rfl
theorem Zhs:Qb1 Tryz.prog 24=true:=by kernel_rfl
theorem Qxl:(Tryz.prog.info? 24).isSome=true:=by kernel_rfl
theorem Q83:Qa0 Tryz.prog 24=some (6,96):=by kernel_rfl
theorem Q1w:Tryz.prog.cellsOf 24=6:=by kernel_rfl
theorem Q84:Qa6 Tryz.prog 24=some (PV.agg [PV.int IntKind.i64 0,PV.int IntKind.i64 0,PV.int IntKind.i64 0,PV.nilS,PV.nilS,PV.nilS]):=by kernel_rfl
theorem Q1x:buildable Tryz.prog 24=true:=by kernel_rfl
theorem Zht:Qbc Tryz.prog 24 0=some (0,3,1):=by kernel_rfl
theorem Zhu:Qae Tryz.prog 24 0=some (0,1):=by kernel_rfl
theorem Zhv:Qbc Tryz.prog 24 1=some (1,3,1):=by kernel_rfl
theorem Zhw:Qae Tryz.prog 24 1=some (1,1):=by kernel_rfl
theorem Zhx:Qbc Tryz.prog 24 2=some (2,3,1):=by kernel_rfl
theorem Zhy:Qae Tryz.prog 24 2=some (2,1):=by kernel_rfl
theorem Zhz:Qbc Tryz.prog 24 3=some (3,22,1):=by kernel_rfl
theorem Zh0:Qae Tryz.prog 24 3=some (3,1):=by kernel_rfl
theorem Zh1:Qbc Tryz.prog 24 4=some (4,22,1):=by kernel_rfl
theorem Zh2:Qae Tryz.prog 24 4=some (4,1):=by kernel_rfl
theorem Zh3:Qbc Tryz.prog 24 5=some (5,22,1):=by kernel_rfl
theorem Zh4:Qae Tryz.prog 24 5=some (5,1):=by kernel_rfl
theorem Zm9:tyOk Tryz.prog 27=true:=by kernel_rfl
theorem Zh5:Qb1 Tryz.prog 27=false:=by kernel_rfl
theorem Qxm:(Tryz.prog.info? 27).isSome=true:=by kernel_rfl
theorem Q85:Qa0 Tryz.prog 27=some (1,24):=by kernel_rfl
theorem Q1y:Tryz.prog.cellsOf 27=1:=by kernel_rfl
theorem Q86:Qa6 Tryz.prog 27=some PV.nilS:=by kernel_rfl
theorem Q87:Qb0 Tryz.prog 27=some 24:=by kernel_rfl
theorem Qig:Tryz.prog.underlying 27=some (.slice 24):=by kernel_rfl
theorem Q88 (es:List PV):Qbb Tryz.prog 27 (.slc es)=some (.int .i64 es.length):=by simp only [Qbb,Qig]
theorem Q89:Qbb Tryz.prog 27 .nilS=some (.int .i64 0):=by simp only [Qbb,Qig]
theorem Q9a (b e o n:Nat):Qbb Tryz.prog 27 (.bs b e o n)=some (.int .i64 n):=by simp only [Qbb,Qig]
theorem Zna:tyOk Tryz.prog 31=true:=by kernel_rfl
theorem Zh6:Qb1 Tryz.prog 31=true:=by kernel_rfl
theorem Qxn:(Tryz.prog.info? 31).isSome=true:=by kernel_rfl
theorem Q9b:Qa0 Tryz.prog 31=some (2,24):=by kernel_rfl
theorem Q1z:Tryz.prog.cellsOf 31=2:=by kernel_rfl
theorem Q9c:Qa6 Tryz.prog 31=some (PV.agg [PV.bool Bool.false,PV.str {data:={toList:=[]}}]):=by kernel_rfl
theorem Q10:buildable Tryz.prog 31=true:=by kernel_rfl
theorem Zh7:Qbc Tryz.prog 31 0=some (0,4,1):=by kernel_rfl
theorem Zh8:Qae Tryz.prog 31 0=some (0,1):=by kernel_rfl
theorem Zh9:Qbc Tryz.prog 31 1=some (1,9,1):=by kernel_rfl
theorem Zia:Qae Tryz.prog 31 1=some (1,1):=by kernel_rfl
theorem Zib:Qdb Tryz.prog 31=some [0,2]:=by kernel_rfl
theorem Znb:tyOk Tryz.prog 33=true:=by kernel_rfl
theorem Zic:Qb1 Tryz.prog 33=true:=by kernel_rfl
theorem Qxo:(Tryz.prog.info? 33).isSome=true:=by kernel_rfl
theorem Q9d:Qa0 Tryz.prog 33=some (8,96):=by kernel_rfl
theorem Q11:Tryz.prog.cellsOf 33=8:=by kernel_rfl
theorem Q9e:Qa6 Tryz.prog 33=some (PV.agg [PV.bool Bool.false,PV.str {data:={toList:=[]}},PV.bool Bool.false,PV.str {data:={toList:=[]}},PV.bool Bool.false,PV.str {data:={toList:=[]}},PV.bool Bool.false,PV.str {data:={toList:=[]}}]):=by kernel_rfl
theorem Q12:buildable Tryz.prog 33=true:=by kernel_rfl
theorem Zid:Qbc Tryz.prog 33 0=some (0,31,2):=by kernel_rfl
theorem Zie:Qae Tryz.prog 33 0=some (0,2):=by kernel_rfl
theorem Zif:Qbc Tryz.prog 33 1=some (2,31,2):=by kernel_rfl
theorem Zig:Qae Tryz.prog 33 1=some (2,2):=by kernel_rfl
theorem Zih:Qbc Tryz.prog 33 2=some (4,31,2):=by kernel_rfl
theorem Zii:Qae Tryz.prog 33 2=some (4,2):=by kernel_rfl
theorem Zij:Qbc Tryz.prog 33 3=some (6,31,2):=by kernel_rfl
theorem Zik:Qae Tryz.prog 33 3=some (6,2):=by kernel_rfl
theorem Zil:Qdb Tryz.prog 33=some [0,2,0,2,0,2,0,2]:=by kernel_rfl
theorem Znc:tyOk Tryz.prog 34=true:=by kernel_rfl
theorem Zim:Qb1 Tryz.prog 34=false:=by kernel_rfl
theorem Qxp:(Tryz.prog.info? 34).isSome=true:=by kernel_rfl
theorem Q9f:Qa0 Tryz.prog 34=some (1,8):=by kernel_rfl
theorem Q13:Tryz.prog.cellsOf 34=1:=by kernel_rfl
theorem Q9g:Qa6 Tryz.prog 34=some (PV.int IntKind.i64 0):=by kernel_rfl
theorem Zin:Tryz.prog.underlying 34=some (.int .i64):=by kernel_rfl
theorem Znd:tyOk Tryz.prog 38=true:=by kernel_rfl
theorem Zio:Qb1 Tryz.prog 38=true:=by kernel_rfl
theorem Qxq:(Tryz.prog.info? 38).isSome=true:=by kernel_rfl
theorem Q9h:Qa0 Tryz.prog 38=some (3,24):=by kernel_rfl
theorem Q14:Tryz.prog.cellsOf 38=3:=by kernel_rfl
theorem Q9i:Qa6 Tryz.prog 38=some (PV.agg [PV.int IntKind.i64 0,PV.int IntKind.i64 0,PV.int IntKind.i64 0]):=by kernel_rfl
theorem Q15:buildable Tryz.prog 38=true:=by kernel_rfl
theorem Zip:Qbc Tryz.prog 38 0=some (0,3,1):=by kernel_rfl
theorem Ziq:Qae Tryz.prog 38 0=some (0,1):=by kernel_rfl
theorem Zir:Qbc Tryz.prog 38 1=some (1,3,1):=by kernel_rfl
theorem Zis:Qae Tryz.prog 38 1=some (1,1):=by kernel_rfl
theorem Zit:Qbc Tryz.prog 38 2=some (2,3,1):=by kernel_rfl
theorem Ziu:Qae Tryz.prog 38 2=some (2,1):=by kernel_rfl
theorem Ziv:Qdb Tryz.prog 38=some [1,1,1]:=by kernel_rfl
theorem Zne:tyOk Tryz.prog 42=true:=by kernel_rfl
theorem Ziw:Qb1 Tryz.prog 42=false:=by kernel_rfl
theorem Qxr:(Tryz.prog.info? 42).isSome=true:=by kernel_rfl
theorem Q9j:Qa0 Tryz.prog 42=some (1,24):=by kernel_rfl
theorem Q16:Tryz.prog.cellsOf 42=1:=by kernel_rfl
theorem Q9k:Qa6 Tryz.prog 42=some PV.nilS:=by kernel_rfl
theorem Q9l:Qb0 Tryz.prog 42=some 44:=by kernel_rfl
theorem Qih:Tryz.prog.underlying 42=some (.slice 44):=by kernel_rfl
theorem Q9m (es:List PV):Qbb Tryz.prog 42 (.slc es)=some (.int .i64 es.length):=by simp only [Qbb,Qih]
theorem Q9n:Qbb Tryz.prog 42 .nilS=some (.int .i64 0):=by simp only [Qbb,Qih]
theorem Q9o (b e o n:Nat):Qbb Tryz.prog 42 (.bs b e o n)=some (.int .i64 n):=by simp only [Qbb,Qih]
theorem Znf:tyOk Tryz.prog 44=true:=by kernel_rfl
theorem Zix:Qb1 Tryz.prog 44=true:=by kernel_rfl
theorem Qxs:(Tryz.prog.info? 44).isSome=true:=by kernel_rfl
theorem Q9p:Qa0 Tryz.prog 44=some (2,32):=by kernel_rfl
theorem Q17:Tryz.prog.cellsOf 44=2:=by kernel_rfl
theorem Q9q:Qa6 Tryz.prog 44=some (PV.agg [PV.bool Bool.false,PV.nilS]):=by kernel_rfl
theorem Q18:buildable Tryz.prog 44=true:=by kernel_rfl
theorem Ziy:Qbc Tryz.prog 44 0=some (0,4,1):=by kernel_rfl
theorem Ziz:Qae Tryz.prog 44 0=some (0,1):=by kernel_rfl
theorem Zi0:Qbc Tryz.prog 44 1=some (1,22,1):=by kernel_rfl
theorem Zi1:Qae Tryz.prog 44 1=some (1,1):=by kernel_rfl
theorem Zng:tyOk Tryz.prog 46=true:=by kernel_rfl
theorem Zi2:Qb1 Tryz.prog 46=true:=by kernel_rfl
theorem Qxt:(Tryz.prog.info? 46).isSome=true:=by kernel_rfl
theorem Q9r:Qa0 Tryz.prog 46=some (3,56):=by kernel_rfl
theorem Q19:Tryz.prog.cellsOf 46=3:=by kernel_rfl
theorem Q9s:Qa6 Tryz.prog 46=some (PV.agg [PV.nilS,PV.bool Bool.false,PV.nilS]):=by kernel_rfl
theorem Q2a:buildable Tryz.prog 46=true:=by kernel_rfl
theorem Zi3:Qbc Tryz.prog 46 0=some (0,42,1):=by kernel_rfl
theorem Zi4:Qae Tryz.prog 46 0=some (0,1):=by kernel_rfl
theorem Zi5:Qbc Tryz.prog 46 1=some (1,44,2):=by kernel_rfl
theorem Zi6:Qae Tryz.prog 46 1=some (1,2):=by kernel_rfl
theorem Znh:tyOk Tryz.prog 67=true:=by kernel_rfl
theorem Zi7:Qb1 Tryz.prog 67=false:=by kernel_rfl
theorem Qxu:(Tryz.prog.info? 67).isSome=true:=by kernel_rfl
theorem Q9t:Qa0 Tryz.prog 67=some (1,8):=by kernel_rfl
theorem Q2b:Tryz.prog.cellsOf 67=1:=by kernel_rfl
theorem Q9u:Qa6 Tryz.prog 67=some PV.nilF:=by kernel_rfl
theorem Zni:tyOk Tryz.prog 79=true:=by kernel_rfl
theorem Zi8:Qb1 Tryz.prog 79=true:=by kernel_rfl
theorem Qxv:(Tryz.prog.info? 79).isSome=true:=by kernel_rfl
theorem Q9v:Qa0 Tryz.prog 79=some (3,72):=by kernel_rfl
theorem Q2c:Tryz.prog.cellsOf 79=3:=by kernel_rfl
theorem Q9w:Qa6 Tryz.prog 79=some (PV.agg [PV.nilS,PV.nilS,PV.nilS]):=by kernel_rfl
theorem Zi9:Qf4 Tryz.prog 79=some (3,22):=by kernel_rfl
theorem Q2d:buildable Tryz.prog 79=true:=by kernel_rfl
theorem Zja:Qae Tryz.prog 79 0=some (0,1):=by kernel_rfl
theorem Zjb:Qae Tryz.prog 79 1=some (1,1):=by kernel_rfl
theorem Zjc:Qae Tryz.prog 79 2=some (2,1):=by kernel_rfl
theorem Zjd:Qae Tryz.prog 79 3=some (3,1):=by kernel_rfl
theorem Zje:Qae Tryz.prog 79 4=some (4,1):=by kernel_rfl
theorem Zjf:Qae Tryz.prog 79 5=some (5,1):=by kernel_rfl
theorem Zjg:Qae Tryz.prog 79 6=some (6,1):=by kernel_rfl
theorem Zjh:Qae Tryz.prog 79 7=some (7,1):=by kernel_rfl
theorem Zji:Qae Tryz.prog 79 8=some (8,1):=by kernel_rfl
theorem Zjj:Qae Tryz.prog 79 9=some (9,1):=by kernel_rfl
theorem Q9x:Qae Tryz.prog 79 10=some (10,1):=by kernel_rfl
theorem Q9y:Qae Tryz.prog 79 11=some (11,1):=by kernel_rfl
theorem Q9z:Qae Tryz.prog 79 12=some (12,1):=by kernel_rfl
theorem Q90:Qae Tryz.prog 79 13=some (13,1):=by kernel_rfl
theorem Q91:Qae Tryz.prog 79 14=some (14,1):=by kernel_rfl
theorem Q92:Qae Tryz.prog 79 15=some (15,1):=by kernel_rfl
theorem Q93:Qae Tryz.prog 79 16=some (16,1):=by kernel_rfl
theorem Q94:Qae Tryz.prog 79 17=some (17,1):=by kernel_rfl
theorem Q95:Qae Tryz.prog 79 18=some (18,1):=by kernel_rfl
theorem Q96:Qae Tryz.prog 79 19=some (19,1):=by kernel_rfl
theorem Znj:tyOk Tryz.prog 85=true:=by kernel_rfl
theorem Zjk:Qb1 Tryz.prog 85=false:=by kernel_rfl
theorem Qxw:(Tryz.prog.info? 85).isSome=true:=by kernel_rfl
theorem Q97:Qa0 Tryz.prog 85=some (1,24):=by kernel_rfl
theorem Q2e:Tryz.prog.cellsOf 85=1:=by kernel_rfl
theorem Q98:Qa6 Tryz.prog 85=some PV.nilS:=by kernel_rfl
theorem Q99:Qb0 Tryz.prog 85=some 22:=by kernel_rfl
theorem Qii:Tryz.prog.underlying 85=some (.slice 22):=by kernel_rfl
theorem Zaa (es:List PV):Qbb Tryz.prog 85 (.slc es)=some (.int .i64 es.length):=by simp only [Qbb,Qii]
theorem Zab:Qbb Tryz.prog 85 .nilS=some (.int .i64 0):=by simp only [Qbb,Qii]
theorem Zac (b e o n:Nat):Qbb Tryz.prog 85 (.bs b e o n)=some (.int .i64 n):=by simp only [Qbb,Qii]
theorem Znk:tyOk Tryz.prog 92=true:=by kernel_rfl
theorem Zjl:Qb1 Tryz.prog 92=true:=by kernel_rfl
theorem Qxx:(Tryz.prog.info? 92).isSome=true:=by kernel_rfl
theorem Zad:Qa0 Tryz.prog 92=some (3,24):=by kernel_rfl
theorem Q2f:Tryz.prog.cellsOf 92=3:=by kernel_rfl
theorem Zae:Qa6 Tryz.prog 92=some (PV.agg [PV.int IntKind.i64 0,PV.int IntKind.i64 0,PV.int IntKind.i64 0]):=by kernel_rfl
theorem Zjm:Qf4 Tryz.prog 92=some (3,3):=by kernel_rfl
theorem Q2g:buildable Tryz.prog 92=true:=by kernel_rfl
theorem Zjn:Qae Tryz.prog 92 0=some (0,1):=by kernel_rfl
theorem Zjo:Qae Tryz.prog 92 1=some (1,1):=by kernel_rfl
theorem Zjp:Qae Tryz.prog 92 2=some (2,1):=by kernel_rfl
theorem Zjq:Qae Tryz.prog 92 3=some (3,1):=by kernel_rfl
theorem Zjr:Qae Tryz.prog 92 4=some (4,1):=by kernel_rfl
theorem Zjs:Qae Tryz.prog 92 5=some (5,1):=by kernel_rfl
theorem Zjt:Qae Tryz.prog 92 6=some (6,1):=by kernel_rfl
theorem Zju:Qae Tryz.prog 92 7=some (7,1):=by kernel_rfl
theorem Zjv:Qae Tryz.prog 92 8=some (8,1):=by kernel_rfl
theorem Zjw:Qae Tryz.prog 92 9=some (9,1):=by kernel_rfl
theorem Zaf:Qae Tryz.prog 92 10=some (10,1):=by kernel_rfl
theorem Zag:Qae Tryz.prog 92 11=some (11,1):=by kernel_rfl
theorem Zah:Qae Tryz.prog 92 12=some (12,1):=by kernel_rfl
theorem Zai:Qae Tryz.prog 92 13=some (13,1):=by kernel_rfl
theorem Zaj:Qae Tryz.prog 92 14=some (14,1):=by kernel_rfl
theorem Zak:Qae Tryz.prog 92 15=some (15,1):=by kernel_rfl
theorem Zal:Qae Tryz.prog 92 16=some (16,1):=by kernel_rfl
theorem Zam:Qae Tryz.prog 92 17=some (17,1):=by kernel_rfl
theorem Zan:Qae Tryz.prog 92 18=some (18,1):=by kernel_rfl
theorem Zao:Qae Tryz.prog 92 19=some (19,1):=by kernel_rfl
theorem Znl:tyOk Tryz.prog 93=true:=by kernel_rfl
theorem Zjx:Qb1 Tryz.prog 93=true:=by kernel_rfl
theorem Qxy:(Tryz.prog.info? 93).isSome=true:=by kernel_rfl
theorem Zap:Qa0 Tryz.prog 93=some (6,72):=by kernel_rfl
theorem Q2h:Tryz.prog.cellsOf 93=6:=by kernel_rfl
theorem Zaq:Qa6 Tryz.prog 93=some (PV.agg [PV.bool Bool.false,PV.str {data:={toList:=[]}},PV.bool Bool.false,PV.str {data:={toList:=[]}},PV.bool Bool.false,PV.str {data:={toList:=[]}}]):=by kernel_rfl
theorem Zjy:Qf4 Tryz.prog 93=some (3,31):=by kernel_rfl
theorem Q2i:buildable Tryz.prog 93=true:=by kernel_rfl
theorem Zjz:Qae Tryz.prog 93 0=some (0,2):=by kernel_rfl
theorem Zj0:Qae Tryz.prog 93 1=some (2,2):=by kernel_rfl
theorem Zj1:Qae Tryz.prog 93 2=some (4,2):=by kernel_rfl
theorem Zj2:Qae Tryz.prog 93 3=some (6,2):=by kernel_rfl
theorem Zj3:Qae Tryz.prog 93 4=some (8,2):=by kernel_rfl
theorem Zj4:Qae Tryz.prog 93 5=some (10,2):=by kernel_rfl
theorem Zj5:Qae Tryz.prog 93 6=some (12,2):=by kernel_rfl
theorem Zj6:Qae Tryz.prog 93 7=some (14,2):=by kernel_rfl
theorem Zj7:Qae Tryz.prog 93 8=some (16,2):=by kernel_rfl
theorem Zj8:Qae Tryz.prog 93 9=some (18,2):=by kernel_rfl
theorem Zar:Qae Tryz.prog 93 10=some (20,2):=by kernel_rfl
theorem Zas:Qae Tryz.prog 93 11=some (22,2):=by kernel_rfl
theorem Zat:Qae Tryz.prog 93 12=some (24,2):=by kernel_rfl
theorem Zau:Qae Tryz.prog 93 13=some (26,2):=by kernel_rfl
theorem Zav:Qae Tryz.prog 93 14=some (28,2):=by kernel_rfl
theorem Zaw:Qae Tryz.prog 93 15=some (30,2):=by kernel_rfl
theorem Zax:Qae Tryz.prog 93 16=some (32,2):=by kernel_rfl
theorem Zay:Qae Tryz.prog 93 17=some (34,2):=by kernel_rfl
theorem Zaz:Qae Tryz.prog 93 18=some (36,2):=by kernel_rfl
theorem Za0:Qae Tryz.prog 93 19=some (38,2):=by kernel_rfl
theorem Znm:tyOk Tryz.prog 99=true:=by kernel_rfl
theorem Zj9:Qb1 Tryz.prog 99=false:=by kernel_rfl
theorem Qxz:(Tryz.prog.info? 99).isSome=true:=by kernel_rfl
theorem Za1:Qa0 Tryz.prog 99=some (1,8):=by kernel_rfl
theorem Q2j:Tryz.prog.cellsOf 99=1:=by kernel_rfl
theorem Za2:Qa6 Tryz.prog 99=some PV.nilF:=by kernel_rfl
theorem Zka:tyOk Tryz.prog 111=true:=by kernel_rfl
theorem Za3:Qb1 Tryz.prog 111=false:=by kernel_rfl
theorem Qta:(Tryz.prog.info? 111).isSome=true:=by kernel_rfl
theorem Q2k:Qa0 Tryz.prog 111=some (1,24):=by kernel_rfl
theorem Qx0:Tryz.prog.cellsOf 111=1:=by kernel_rfl
theorem Q2l:Qa6 Tryz.prog 111=some PV.nilS:=by kernel_rfl
theorem Q2m:Qb0 Tryz.prog 111=some 31:=by kernel_rfl
theorem Qgz:Tryz.prog.underlying 111=some (.slice 31):=by kernel_rfl
theorem Q2n (es:List PV):Qbb Tryz.prog 111 (.slc es)=some (.int .i64 es.length):=by simp only [Qbb,Qgz]
theorem Q2o:Qbb Tryz.prog 111 .nilS=some (.int .i64 0):=by simp only [Qbb,Qgz]
theorem Q2p (b e o n:Nat):Qbb Tryz.prog 111 (.bs b e o n)=some (.int .i64 n):=by simp only [Qbb,Qgz]
theorem Zkb:tyOk Tryz.prog 112=true:=by kernel_rfl
theorem Za4:Qb1 Tryz.prog 112=false:=by kernel_rfl
theorem Qtb:(Tryz.prog.info? 112).isSome=true:=by kernel_rfl
theorem Q2q:Qa0 Tryz.prog 112=some (1,24):=by kernel_rfl
theorem Qx1:Tryz.prog.cellsOf 112=1:=by kernel_rfl
theorem Q2r:Qa6 Tryz.prog 112=some PV.nilS:=by kernel_rfl
theorem Q2s:Qb0 Tryz.prog 112=some 31:=by kernel_rfl
theorem Qg0:Tryz.prog.underlying 112=some (.slice 31):=by kernel_rfl
theorem Q2t (es:List PV):Qbb Tryz.prog 112 (.slc es)=some (.int .i64 es.length):=by simp only [Qbb,Qg0]
theorem Q2u:Qbb Tryz.prog 112 .nilS=some (.int .i64 0):=by simp only [Qbb,Qg0]
theorem Q2v (b e o n:Nat):Qbb Tryz.prog 112 (.bs b e o n)=some (.int .i64 n):=by simp only [Qbb,Qg0]
theorem Zkc:tyOk Tryz.prog 113=true:=by kernel_rfl
theorem Za5:Qb1 Tryz.prog 113=true:=by kernel_rfl
theorem Qtc:(Tryz.prog.info? 113).isSome=true:=by kernel_rfl
theorem Q2w:Qa0 Tryz.prog 113=some (3,72):=by kernel_rfl
theorem Qx2:Tryz.prog.cellsOf 113=3:=by kernel_rfl
theorem Q2x:Qa6 Tryz.prog 113=some (PV.agg [PV.nilS,PV.nilS,PV.nilS]):=by kernel_rfl
theorem Za6:Qf4 Tryz.prog 113=some (3,112):=by kernel_rfl
theorem Qx3:buildable Tryz.prog 113=true:=by kernel_rfl
theorem Za7:Qae Tryz.prog 113 0=some (0,1):=by kernel_rfl
theorem Za8:Qae Tryz.prog 113 1=some (1,1):=by kernel_rfl
theorem Za9:Qae Tryz.prog 113 2=some (2,1):=by kernel_rfl
theorem Zba:Qae Tryz.prog 113 3=some (3,1):=by kernel_rfl
theorem Zbb:Qae Tryz.prog 113 4=some (4,1):=by kernel_rfl
theorem Zbc:Qae Tryz.prog 113 5=some (5,1):=by kernel_rfl
theorem Zbd:Qae Tryz.prog 113 6=some (6,1):=by kernel_rfl
theorem Zbe:Qae Tryz.prog 113 7=some (7,1):=by kernel_rfl
theorem Zbf:Qae Tryz.prog 113 8=some (8,1):=by kernel_rfl
theorem Zbg:Qae Tryz.prog 113 9=some (9,1):=by kernel_rfl
theorem Q2y:Qae Tryz.prog 113 10=some (10,1):=by kernel_rfl
theorem Q2z:Qae Tryz.prog 113 11=some (11,1):=by kernel_rfl
theorem Q20:Qae Tryz.prog 113 12=some (12,1):=by kernel_rfl
theorem Q21:Qae Tryz.prog 113 13=some (13,1):=by kernel_rfl
theorem Q22:Qae Tryz.prog 113 14=some (14,1):=by kernel_rfl
theorem Q23:Qae Tryz.prog 113 15=some (15,1):=by kernel_rfl
theorem Q24:Qae Tryz.prog 113 16=some (16,1):=by kernel_rfl
theorem Q25:Qae Tryz.prog 113 17=some (17,1):=by kernel_rfl
theorem Q26:Qae Tryz.prog 113 18=some (18,1):=by kernel_rfl
theorem Q27:Qae Tryz.prog 113 19=some (19,1):=by kernel_rfl
theorem Zkd:tyOk Tryz.prog 115=true:=by kernel_rfl
theorem Zbh:Qb1 Tryz.prog 115=false:=by kernel_rfl
theorem Qtd:(Tryz.prog.info? 115).isSome=true:=by kernel_rfl
theorem Q28:Qa0 Tryz.prog 115=some (1,24):=by kernel_rfl
theorem Qx4:Tryz.prog.cellsOf 115=1:=by kernel_rfl
theorem Q29:Qa6 Tryz.prog 115=some PV.nilS:=by kernel_rfl
theorem Q3a:Qb0 Tryz.prog 115=some 116:=by kernel_rfl
theorem Qg1:Tryz.prog.underlying 115=some (.slice 116):=by kernel_rfl
theorem Q3b (es:List PV):Qbb Tryz.prog 115 (.slc es)=some (.int .i64 es.length):=by simp only [Qbb,Qg1]
theorem Q3c:Qbb Tryz.prog 115 .nilS=some (.int .i64 0):=by simp only [Qbb,Qg1]
theorem Q3d (b e o n:Nat):Qbb Tryz.prog 115 (.bs b e o n)=some (.int .i64 n):=by simp only [Qbb,Qg1]
theorem Zke:tyOk Tryz.prog 116=true:=by kernel_rfl
theorem Zbi:Qb1 Tryz.prog 116=false:=by kernel_rfl
theorem Qte:(Tryz.prog.info? 116).isSome=true:=by kernel_rfl
theorem Q3e:Qa0 Tryz.prog 116=some (1,24):=by kernel_rfl
theorem Qx5:Tryz.prog.cellsOf 116=1:=by kernel_rfl
theorem Q3f:Qa6 Tryz.prog 116=some PV.nilS:=by kernel_rfl
theorem Q3g:Qb0 Tryz.prog 116=some 44:=by kernel_rfl
theorem Qg2:Tryz.prog.underlying 116=some (.slice 44):=by kernel_rfl
theorem Q3h (es:List PV):Qbb Tryz.prog 116 (.slc es)=some (.int .i64 es.length):=by simp only [Qbb,Qg2]
theorem Q3i:Qbb Tryz.prog 116 .nilS=some (.int .i64 0):=by simp only [Qbb,Qg2]
theorem Q3j (b e o n:Nat):Qbb Tryz.prog 116 (.bs b e o n)=some (.int .i64 n):=by simp only [Qbb,Qg2]
theorem Zkf:tyOk Tryz.prog 120=true:=by kernel_rfl
theorem Zbj:Qb1 Tryz.prog 120=false:=by kernel_rfl
theorem Qtf:(Tryz.prog.info? 120).isSome=true:=by kernel_rfl
theorem Q3k:Qa0 Tryz.prog 120=some (1,24):=by kernel_rfl
theorem Qx6:Tryz.prog.cellsOf 120=1:=by kernel_rfl
theorem Q3l:Qa6 Tryz.prog 120=some PV.nilS:=by kernel_rfl
theorem Q3m:Qb0 Tryz.prog 120=some 27:=by kernel_rfl
theorem Qg3:Tryz.prog.underlying 120=some (.slice 27):=by kernel_rfl
theorem Q3n (es:List PV):Qbb Tryz.prog 120 (.slc es)=some (.int .i64 es.length):=by simp only [Qbb,Qg3]
theorem Q3o:Qbb Tryz.prog 120 .nilS=some (.int .i64 0):=by simp only [Qbb,Qg3]
theorem Q3p (b e o n:Nat):Qbb Tryz.prog 120 (.bs b e o n)=some (.int .i64 n):=by simp only [Qbb,Qg3]
theorem Zkg:tyOk Tryz.prog 122=true:=by kernel_rfl
theorem Zbk:Qb1 Tryz.prog 122=false:=by kernel_rfl
theorem Qtg:(Tryz.prog.info? 122).isSome=true:=by kernel_rfl
theorem Q3q:Qa0 Tryz.prog 122=some (1,8):=by kernel_rfl
theorem Qx7:Tryz.prog.cellsOf 122=1:=by kernel_rfl
theorem Q3r:Qa6 Tryz.prog 122=some (PV.int IntKind.u64 0):=by kernel_rfl
theorem Zbl:Tryz.prog.underlying 122=some (.int .u64):=by kernel_rfl
theorem Zkh:tyOk Tryz.prog 125=true:=by kernel_rfl
theorem Zbm:Qb1 Tryz.prog 125=false:=by kernel_rfl
theorem Qth:(Tryz.prog.info? 125).isSome=true:=by kernel_rfl
theorem Q3s:Qa0 Tryz.prog 125=some (1,24):=by kernel_rfl
theorem Qx8:Tryz.prog.cellsOf 125=1:=by kernel_rfl
theorem Q3t:Qa6 Tryz.prog 125=some PV.nilS:=by kernel_rfl
theorem Q3u:Qb0 Tryz.prog 125=some 122:=by kernel_rfl
theorem Qg4:Tryz.prog.underlying 125=some (.slice 122):=by kernel_rfl
theorem Q3v (es:List PV):Qbb Tryz.prog 125 (.slc es)=some (.int .i64 es.length):=by simp only [Qbb,Qg4]
theorem Q3w:Qbb Tryz.prog 125 .nilS=some (.int .i64 0):=by simp only [Qbb,Qg4]
theorem Q3x (b e o n:Nat):Qbb Tryz.prog 125 (.bs b e o n)=some (.int .i64 n):=by simp only [Qbb,Qg4]
theorem Zki:tyOk Tryz.prog 128=true:=by kernel_rfl
theorem Zbn:Qb1 Tryz.prog 128=true:=by kernel_rfl
theorem Qti:(Tryz.prog.info? 128).isSome=true:=by kernel_rfl
theorem Q3y:Qa0 Tryz.prog 128=some (2,32):=by kernel_rfl
theorem Qx9:Tryz.prog.cellsOf 128=2:=by kernel_rfl
theorem Q3z:Qa6 Tryz.prog 128=some (PV.agg [PV.bool Bool.false,PV.nilS]):=by kernel_rfl
theorem Qya:buildable Tryz.prog 128=true:=by kernel_rfl
theorem Zbo:Qbc Tryz.prog 128 0=some (0,4,1):=by kernel_rfl
theorem Zbp:Qae Tryz.prog 128 0=some (0,1):=by kernel_rfl
theorem Zbq:Qbc Tryz.prog 128 1=some (1,125,1):=by kernel_rfl
theorem Zbr:Qae Tryz.prog 128 1=some (1,1):=by kernel_rfl
theorem Zkj:tyOk Tryz.prog 130=true:=by kernel_rfl
theorem Zbs:Qb1 Tryz.prog 130=true:=by kernel_rfl
theorem Qtj:(Tryz.prog.info? 130).isSome=true:=by kernel_rfl
theorem Q30:Qa0 Tryz.prog 130=some (6,48):=by kernel_rfl
theorem Qyb:Tryz.prog.cellsOf 130=6:=by kernel_rfl
theorem Q31:Qa6 Tryz.prog 130=some (PV.agg [PV.int IntKind.i64 0,PV.int IntKind.i64 0,PV.int IntKind.i64 0,PV.int IntKind.i64 0,PV.int IntKind.i64 0,PV.int IntKind.i64 0]):=by kernel_rfl
theorem Zbt:Qf4 Tryz.prog 130=some (6,3):=by kernel_rfl
theorem Qyc:buildable Tryz.prog 130=true:=by kernel_rfl
theorem Zbu:Qae Tryz.prog 130 0=some (0,1):=by kernel_rfl
theorem Zbv:Qae Tryz.prog 130 1=some (1,1):=by kernel_rfl
theorem Zbw:Qae Tryz.prog 130 2=some (2,1):=by kernel_rfl
theorem Zbx:Qae Tryz.prog 130 3=some (3,1):=by kernel_rfl
theorem Zby:Qae Tryz.prog 130 4=some (4,1):=by kernel_rfl
theorem Zbz:Qae Tryz.prog 130 5=some (5,1):=by kernel_rfl
theorem Zb0:Qae Tryz.prog 130 6=some (6,1):=by kernel_rfl
theorem Zb1:Qae Tryz.prog 130 7=some (7,1):=by kernel_rfl
theorem Zb2:Qae Tryz.prog 130 8=some (8,1):=by kernel_rfl
theorem Zb3:Qae Tryz.prog 130 9=some (9,1):=by kernel_rfl
theorem Q32:Qae Tryz.prog 130 10=some (10,1):=by kernel_rfl
theorem Q33:Qae Tryz.prog 130 11=some (11,1):=by kernel_rfl
theorem Q34:Qae Tryz.prog 130 12=some (12,1):=by kernel_rfl
theorem Q35:Qae Tryz.prog 130 13=some (13,1):=by kernel_rfl
theorem Q36:Qae Tryz.prog 130 14=some (14,1):=by kernel_rfl
theorem Q37:Qae Tryz.prog 130 15=some (15,1):=by kernel_rfl
theorem Q38:Qae Tryz.prog 130 16=some (16,1):=by kernel_rfl
theorem Q39:Qae Tryz.prog 130 17=some (17,1):=by kernel_rfl
theorem Q4a:Qae Tryz.prog 130 18=some (18,1):=by kernel_rfl
theorem Q4b:Qae Tryz.prog 130 19=some (19,1):=by kernel_rfl
theorem Zkk:tyOk Tryz.prog 131=true:=by kernel_rfl
theorem Zb4:Qb1 Tryz.prog 131=true:=by kernel_rfl
theorem Qtk:(Tryz.prog.info? 131).isSome=true:=by kernel_rfl
theorem Q4c:Qa0 Tryz.prog 131=some (36,288):=by kernel_rfl
theorem Qyd:Tryz.prog.cellsOf 131=36:=by kernel_rfl
theorem Q4d:Qa6 Tryz.prog 131=some (PV.agg [PV.int IntKind.i64 0,PV.int IntKind.i64 0,PV.int IntKind.i64 0,PV.int IntKind.i64 0,PV.int IntKind.i64 0,PV.int IntKind.i64 0,PV.int IntKind.i64 0,PV.int IntKind.i64 0,PV.int IntKind.i64 0,PV.int IntKind.i64 0,PV.int IntKind.i64 0,PV.int IntKind.i64 0,PV.int IntKind.i64 0,PV.int IntKind.i64 0,PV.int IntKind.i64 0,PV.int IntKind.i64 0,PV.int IntKind.i64 0,PV.int IntKind.i64 0,PV.int IntKind.i64 0,PV.int IntKind.i64 0,PV.int IntKind.i64 0,PV.int IntKind.i64 0,PV.int IntKind.i64 0,PV.int IntKind.i64 0,PV.int IntKind.i64 0,PV.int IntKind.i64 0,PV.int IntKind.i64 0,PV.int IntKind.i64 0,PV.int IntKind.i64 0,PV.int IntKind.i64 0,PV.int IntKind.i64 0,PV.int IntKind.i64 0,PV.int IntKind.i64 0,PV.int IntKind.i64 0,PV.int IntKind.i64 0,PV.int IntKind.i64 0]):=by kernel_rfl
theorem Zb5:Qf4 Tryz.prog 131=some (6,130):=by kernel_rfl
theorem Qye:buildable Tryz.prog 131=true:=by kernel_rfl
theorem Zb6:Qae Tryz.prog 131 0=some (0,6):=by kernel_rfl
theorem Zb7:Qae Tryz.prog 131 1=some (6,6):=by kernel_rfl
theorem Zb8:Qae Tryz.prog 131 2=some (12,6):=by kernel_rfl
theorem Zb9:Qae Tryz.prog 131 3=some (18,6):=by kernel_rfl
theorem Zca:Qae Tryz.prog 131 4=some (24,6):=by kernel_rfl
theorem Zcb:Qae Tryz.prog 131 5=some (30,6):=by kernel_rfl
theorem Zcc:Qae Tryz.prog 131 6=some (36,6):=by kernel_rfl
theorem Zcd:Qae Tryz.prog 131 7=some (42,6):=by kernel_rfl
theorem Zce:Qae Tryz.prog 131 8=some (48,6):=by kernel_rfl
theorem Zcf:Qae Tryz.prog 131 9=some (54,6):=by kernel_rfl
theorem Q4e:Qae Tryz.prog 131 10=some (60,6):=by kernel_rfl
theorem Q4f:Qae Tryz.prog 131 11=some (66,6):=by kernel_rfl
theorem Q4g:Qae Tryz.prog 131 12=some (72,6):=by kernel_rfl
theorem Q4h:Qae Tryz.prog 131 13=some (78,6):=by kernel_rfl
theorem Q4i:Qae Tryz.prog 131 14=some (84,6):=by kernel_rfl
theorem Q4j:Qae Tryz.prog 131 15=some (90,6):=by kernel_rfl
theorem Q4k:Qae Tryz.prog 131 16=some (96,6):=by kernel_rfl
theorem Q4l:Qae Tryz.prog 131 17=some (102,6):=by kernel_rfl
theorem Q4m:Qae Tryz.prog 131 18=some (108,6):=by kernel_rfl
theorem Q4n:Qae Tryz.prog 131 19=some (114,6):=by kernel_rfl
theorem Zkl:tyOk Tryz.prog 141=true:=by kernel_rfl
theorem Zcg:Qb1 Tryz.prog 141=false:=by kernel_rfl
theorem Qtl:(Tryz.prog.info? 141).isSome=true:=by kernel_rfl
theorem Q4o:Qa0 Tryz.prog 141=some (1,8):=by kernel_rfl
theorem Qyf:Tryz.prog.cellsOf 141=1:=by kernel_rfl
theorem Q4p:Qa6 Tryz.prog 141=some (PV.int IntKind.u64 0):=by kernel_rfl
theorem Zch:Tryz.prog.underlying 141=some (.int .u64):=by kernel_rfl
theorem Zkm:tyOk Tryz.prog 149=true:=by kernel_rfl
theorem Zci:Qb1 Tryz.prog 149=false:=by kernel_rfl
theorem Qtm:(Tryz.prog.info? 149).isSome=true:=by kernel_rfl
theorem Q4q:Qa0 Tryz.prog 149=some (1,24):=by kernel_rfl
theorem Qyg:Tryz.prog.cellsOf 149=1:=by kernel_rfl
theorem Q4r:Qa6 Tryz.prog 149=some PV.nilS:=by kernel_rfl
theorem Q4s:Qb0 Tryz.prog 149=some 5:=by kernel_rfl
theorem Qg5:Tryz.prog.underlying 149=some (.slice 5):=by kernel_rfl
theorem Q4t (es:List PV):Qbb Tryz.prog 149 (.slc es)=some (.int .i64 es.length):=by simp only [Qbb,Qg5]
theorem Q4u:Qbb Tryz.prog 149 .nilS=some (.int .i64 0):=by simp only [Qbb,Qg5]
theorem Q4v (b e o n:Nat):Qbb Tryz.prog 149 (.bs b e o n)=some (.int .i64 n):=by simp only [Qbb,Qg5]
theorem Zkn:tyOk Tryz.prog 158=true:=by kernel_rfl
theorem Zcj:Qb1 Tryz.prog 158=false:=by kernel_rfl
theorem Qtn:(Tryz.prog.info? 158).isSome=true:=by kernel_rfl
theorem Q4w:Qa0 Tryz.prog 158=some (1,8):=by kernel_rfl
theorem Qyh:Tryz.prog.cellsOf 158=1:=by kernel_rfl
theorem Zko:tyOk Tryz.prog 159=true:=by kernel_rfl
theorem Zck:Qb1 Tryz.prog 159=true:=by kernel_rfl
theorem Qto:(Tryz.prog.info? 159).isSome=true:=by kernel_rfl
theorem Q4x:Qa0 Tryz.prog 159=some (3,24):=by kernel_rfl
theorem Qyi:Tryz.prog.cellsOf 159=3:=by kernel_rfl
theorem Zcl:Qf4 Tryz.prog 159=some (3,158):=by kernel_rfl
theorem Qyj:buildable Tryz.prog 159=true:=by kernel_rfl
theorem Zcm:Qae Tryz.prog 159 0=some (0,1):=by kernel_rfl
theorem Zcn:Qae Tryz.prog 159 1=some (1,1):=by kernel_rfl
theorem Zco:Qae Tryz.prog 159 2=some (2,1):=by kernel_rfl
theorem Zcp:Qae Tryz.prog 159 3=some (3,1):=by kernel_rfl
theorem Zcq:Qae Tryz.prog 159 4=some (4,1):=by kernel_rfl
theorem Zcr:Qae Tryz.prog 159 5=some (5,1):=by kernel_rfl
theorem Zcs:Qae Tryz.prog 159 6=some (6,1):=by kernel_rfl
theorem Zct:Qae Tryz.prog 159 7=some (7,1):=by kernel_rfl
theorem Zcu:Qae Tryz.prog 159 8=some (8,1):=by kernel_rfl
theorem Zcv:Qae Tryz.prog 159 9=some (9,1):=by kernel_rfl
theorem Q4y:Qae Tryz.prog 159 10=some (10,1):=by kernel_rfl
theorem Q4z:Qae Tryz.prog 159 11=some (11,1):=by kernel_rfl
theorem Q40:Qae Tryz.prog 159 12=some (12,1):=by kernel_rfl
theorem Q41:Qae Tryz.prog 159 13=some (13,1):=by kernel_rfl
theorem Q42:Qae Tryz.prog 159 14=some (14,1):=by kernel_rfl
theorem Q43:Qae Tryz.prog 159 15=some (15,1):=by kernel_rfl
theorem Q44:Qae Tryz.prog 159 16=some (16,1):=by kernel_rfl
theorem Q45:Qae Tryz.prog 159 17=some (17,1):=by kernel_rfl
theorem Q46:Qae Tryz.prog 159 18=some (18,1):=by kernel_rfl
theorem Q47:Qae Tryz.prog 159 19=some (19,1):=by kernel_rfl
theorem Zkp:tyOk Tryz.prog 188=true:=by kernel_rfl
theorem Zcw:Qb1 Tryz.prog 188=true:=by kernel_rfl
theorem Qtp:(Tryz.prog.info? 188).isSome=true:=by kernel_rfl
theorem Q48:Qa0 Tryz.prog 188=some (1,8):=by kernel_rfl
theorem Qyk:Tryz.prog.cellsOf 188=1:=by kernel_rfl
theorem Q49:Qa6 Tryz.prog 188=some (PV.agg [PV.int IntKind.i64 0]):=by kernel_rfl
theorem Qyl:buildable Tryz.prog 188=true:=by kernel_rfl
theorem Zcx:Qbc Tryz.prog 188 0=some (0,34,1):=by kernel_rfl
theorem Zcy:Qae Tryz.prog 188 0=some (0,1):=by kernel_rfl
theorem Zcz:Qdb Tryz.prog 188=some [1]:=by kernel_rfl
theorem Zkq:tyOk Tryz.prog 190=true:=by kernel_rfl
theorem Zc0:Qb1 Tryz.prog 190=true:=by kernel_rfl
theorem Qtq:(Tryz.prog.info? 190).isSome=true:=by kernel_rfl
theorem Q5a:Qa0 Tryz.prog 190=some (1,8):=by kernel_rfl
theorem Qym:Tryz.prog.cellsOf 190=1:=by kernel_rfl
theorem Q5b:Qa6 Tryz.prog 190=some (PV.agg [PV.int IntKind.i64 0]):=by kernel_rfl
theorem Qyn:buildable Tryz.prog 190=true:=by kernel_rfl
theorem Zc1:Qbc Tryz.prog 190 0=some (0,188,1):=by kernel_rfl
theorem Zc2:Qae Tryz.prog 190 0=some (0,1):=by kernel_rfl
theorem Zc3:Qdb Tryz.prog 190=some [1]:=by kernel_rfl
theorem Zkr:tyOk Tryz.prog 194=true:=by kernel_rfl
theorem Zc4:Qb1 Tryz.prog 194=false:=by kernel_rfl
theorem Qtr:(Tryz.prog.info? 194).isSome=true:=by kernel_rfl
theorem Q5c:Qa0 Tryz.prog 194=some (1,8):=by kernel_rfl
theorem Qyo:Tryz.prog.cellsOf 194=1:=by kernel_rfl
theorem Q5d:Qa6 Tryz.prog 194=some (PV.int IntKind.i64 0):=by kernel_rfl
theorem Zc5:Tryz.prog.underlying 194=some (.int .i64):=by kernel_rfl
theorem Zks:tyOk Tryz.prog 203=true:=by kernel_rfl
theorem Zc6:Qb1 Tryz.prog 203=false:=by kernel_rfl
theorem Qts:(Tryz.prog.info? 203).isSome=true:=by kernel_rfl
theorem Q5e:Qa0 Tryz.prog 203=some (1,4):=by kernel_rfl
theorem Qyp:Tryz.prog.cellsOf 203=1:=by kernel_rfl
theorem Q5f:Qa6 Tryz.prog 203=some (PV.int IntKind.u32 0):=by kernel_rfl
theorem Zc7:Tryz.prog.underlying 203=some (.int .u32):=by kernel_rfl
theorem Zkt:tyOk Tryz.prog 210=true:=by kernel_rfl
theorem Zc8:Qb1 Tryz.prog 210=false:=by kernel_rfl
theorem Qtt:(Tryz.prog.info? 210).isSome=true:=by kernel_rfl
theorem Q5g:Qa0 Tryz.prog 210=some (1,8):=by kernel_rfl
theorem Qyq:Tryz.prog.cellsOf 210=1:=by kernel_rfl
theorem Q5h:Qa6 Tryz.prog 210=some (PV.int IntKind.u64 0):=by kernel_rfl
theorem Zc9:Tryz.prog.underlying 210=some (.int .u64):=by kernel_rfl
theorem Zku:tyOk Tryz.prog 214=true:=by kernel_rfl
theorem Zda:Qb1 Tryz.prog 214=false:=by kernel_rfl
theorem Qtu:(Tryz.prog.info? 214).isSome=true:=by kernel_rfl
theorem Q5i:Qa0 Tryz.prog 214=some (1,8):=by kernel_rfl
theorem Qyr:Tryz.prog.cellsOf 214=1:=by kernel_rfl
theorem Zkv:tyOk Tryz.prog 227=true:=by kernel_rfl
theorem Zdb:Qb1 Tryz.prog 227=false:=by kernel_rfl
theorem Qtv:(Tryz.prog.info? 227).isSome=true:=by kernel_rfl
theorem Q5j:Qa0 Tryz.prog 227=some (1,16):=by kernel_rfl
theorem Qys:Tryz.prog.cellsOf 227=1:=by kernel_rfl
theorem Q5k:Qa6 Tryz.prog 227=some PV.nilI:=by kernel_rfl
attribute [go_sem] Zpp Zm1 Q1r Zhh Q8t Zhi Zm2 Zpq Zm3 Q1s Zhj Q8u Zhk Zhl Zpr Zm4
attribute [go_sem] Q1t Zhm Q8v Zhn Zm5 Zps Zm6 Q1u Zho Q8w Zhp Zfi Zhq Zm7 Zhr Qxk
attribute [go_sem] Q8x Q1v Q8y Q8z Qif Q80 Q81 Q82 Zm8 Zhs Qxl Q83 Q1w Q84 Q1x Zht
attribute [go_sem] Zhu Zhv Zhw Zhx Zhy Zhz Zh0 Zh1 Zh2 Zh3 Zh4 Zm9 Zh5 Qxm Q85 Q1y
attribute [go_sem] Q86 Q87 Qig Q88 Q89 Q9a Zna Zh6 Qxn Q9b Q1z Q9c Q10 Zh7 Zh8 Zh9
attribute [go_sem] Zia Zib Znb Zic Qxo Q9d Q11 Q9e Q12 Zid Zie Zif Zig Zih Zii Zij
attribute [go_sem] Zik Zil Znc Zim Qxp Q9f Q13 Q9g Zin Znd Zio Qxq Q9h Q14 Q9i Q15
attribute [go_sem] Zip Ziq Zir Zis Zit Ziu Ziv Zne Ziw Qxr Q9j Q16 Q9k Q9l Qih Q9m
attribute [go_sem] Q9n Q9o Znf Zix Qxs Q9p Q17 Q9q Q18 Ziy Ziz Zi0 Zi1 Zng Zi2 Qxt
attribute [go_sem] Q9r Q19 Q9s Q2a Zi3 Zi4 Zi5 Zi6 Znh Zi7 Qxu Q9t Q2b Q9u Zni Zi8
attribute [go_sem] Qxv Q9v Q2c Q9w Zi9 Q2d Zja Zjb Zjc Zjd Zje Zjf Zjg Zjh Zji Zjj
attribute [go_sem] Q9x Q9y Q9z Q90 Q91 Q92 Q93 Q94 Q95 Q96 Znj Zjk Qxw Q97 Q2e Q98
attribute [go_sem] Q99 Qii Zaa Zab Zac Znk Zjl Qxx Zad Q2f Zae Zjm Q2g Zjn Zjo Zjp
attribute [go_sem] Zjq Zjr Zjs Zjt Zju Zjv Zjw Zaf Zag Zah Zai Zaj Zak Zal Zam Zan
attribute [go_sem] Zao Znl Zjx Qxy Zap Q2h Zaq Zjy Q2i Zjz Zj0 Zj1 Zj2 Zj3 Zj4 Zj5
attribute [go_sem] Zj6 Zj7 Zj8 Zar Zas Zat Zau Zav Zaw Zax Zay Zaz Za0 Znm Zj9 Qxz
attribute [go_sem] Za1 Q2j Za2 Zka Za3 Qta Q2k Qx0 Q2l Q2m Qgz Q2n Q2o Q2p Zkb Za4
attribute [go_sem] Qtb Q2q Qx1 Q2r Q2s Qg0 Q2t Q2u Q2v Zkc Za5 Qtc Q2w Qx2 Q2x Za6
attribute [go_sem] Qx3 Za7 Za8 Za9 Zba Zbb Zbc Zbd Zbe Zbf Zbg Q2y Q2z Q20 Q21 Q22
attribute [go_sem] Q23 Q24 Q25 Q26 Q27 Zkd Zbh Qtd Q28 Qx4 Q29 Q3a Qg1 Q3b Q3c Q3d
attribute [go_sem] Zke Zbi Qte Q3e Qx5 Q3f Q3g Qg2 Q3h Q3i Q3j Zkf Zbj Qtf Q3k Qx6
attribute [go_sem] Q3l Q3m Qg3 Q3n Q3o Q3p Zkg Zbk Qtg Q3q Qx7 Q3r Zbl Zkh Zbm Qth
attribute [go_sem] Q3s Qx8 Q3t Q3u Qg4 Q3v Q3w Q3x Zki Zbn Qti Q3y Qx9 Q3z Qya Zbo
attribute [go_sem] Zbp Zbq Zbr Zkj Zbs Qtj Q30 Qyb Q31 Zbt Qyc Zbu Zbv Zbw Zbx Zby
attribute [go_sem] Zbz Zb0 Zb1 Zb2 Zb3 Q32 Q33 Q34 Q35 Q36 Q37 Q38 Q39 Q4a Q4b Zkk
attribute [go_sem] Zb4 Qtk Q4c Qyd Q4d Zb5 Qye Zb6 Zb7 Zb8 Zb9 Zca Zcb Zcc Zcd Zce
attribute [go_sem] Zcf Q4e Q4f Q4g Q4h Q4i Q4j Q4k Q4l Q4m Q4n Zkl Zcg Qtl Q4o Qyf
attribute [go_sem] Q4p Zch Zkm Zci Qtm Q4q Qyg Q4r Q4s Qg5 Q4t Q4u Q4v Zkn Zcj Qtn
attribute [go_sem] Q4w Qyh Zko Zck Qto Q4x Qyi Zcl Qyj Zcm Zcn Zco Zcp Zcq Zcr Zcs
attribute [go_sem] Zct Zcu Zcv Q4y Q4z Q40 Q41 Q42 Q43 Q44 Q45 Q46 Q47 Zkp Zcw Qtp
attribute [go_sem] Q48 Qyk Q49 Qyl Zcx Zcy Zcz Zkq Zc0 Qtq Q5a Qym Q5b Qyn Zc1 Zc2
attribute [go_sem] Zc3 Zkr Zc4 Qtr Q5c Qyo Q5d Zc5 Zks Zc6 Qts Q5e Qyp Q5f Zc7 Zkt
attribute [go_sem] Zc8 Qtt Q5g Qyq Q5h Zc9 Zku Zda Qtu Q5i Qyr Zkv Zdb Qtv Q5j Qys
attribute [go_sem] Q5k
end Go.Proofs.YtlpiamlgibomhaaGreat

namespace Go.Dg
def digs (B n:Nat):List Nat:=if h:n=0∨B<2 then []else n%B::digs B (n/B)
termination_by n
decreasing_by
 simp only [not_or,Nat.not_lt]at h
 exact Nat.div_lt_self (Nat.pos_of_ne_zero h.1) h.2
def val (B:Nat):List Nat→Nat
 | []=>0
 |d::l=>d+B*val B l
section
variable {B:Nat}
theorem Qax:digs B 0=[]:=by unfold digs;simp
theorem Qe8 (hB:2≤B) {n:Nat} (hn:n≠0):digs B n=n%B::digs B (n/B):=by
 conv=>lhs;unfold digs
 rw [dif_neg]
 simp only [not_or,Nat.not_lt]
 exact⟨hn,hB⟩
theorem Qol (hB:2≤B) (n:Nat):val B (digs B n)=n:=by
 induction n using Nat.strongRecOn with
 |_ n ih=>
  by_cases hn:n=0
  ·subst hn;rw [Qax];rfl
  ·rw [Qe8 hB hn]
   simp only [val]
   rw [ih _ (Nat.div_lt_self (Nat.pos_of_ne_zero hn) hB)]
   exact Nat.mod_add_div n B
theorem Qom (hB:2≤B) (n k:Nat):(digs B n)[k]? =if n/B^k=0 then none else some (n/B^k%B):=by
 induction k generalizing n with
 |zero=>
  by_cases hn:n=0
  ·subst hn;simp [Qax]
  ·rw [Qe8 hB hn];simp [hn]
 |succ k ih=>
  by_cases hn:n=0
  ·subst hn;simp [Qax]
  ·rw [Qe8 hB hn,List.getElem?_cons_succ,ih]
   have:n/B/B^k=n/B^(k+1):=by rw [Nat.div_div_eq_div_mul,Nat.pow_succ,Nat.mul_comm]
   rw [this]
theorem Qcc (hB:2≤B) (n k:Nat):k<(digs B n).length↔n/B^k≠0:=by
 have:=Qom hB n k
 constructor
 ·intro h hz
  rw [if_pos hz,List.getElem?_eq_none_iff]at this
  omega
 ·intro h
  rw [if_neg h]at this
  exact(List.getElem?_eq_some_iff.1 this).1
theorem Qam (hB:2≤B) (n k:Nat):(digs B n).length≤k↔n<B^k:=by
 have h:=Qcc hB n k
 have hp:0<B^k:=Nat.pow_pos (by omega)
 rw [←Nat.not_lt,h,Decidable.not_not,Nat.div_eq_zero_iff]
 omega
theorem Qaz (hB:2≤B) (n:Nat):n<B^(digs B n).length:=(Qam hB n _).1 (Nat.le_refl _)
theorem Qap (hB:2≤B) {n k:Nat} (h:k<(digs B n).length):(digs B n)[k]? =some (n/B^k%B):=by
 rw [Qom hB,if_neg ((Qcc hB n k).1 h)]
theorem Qlc (hB:2≤B) {n d:Nat} (h:d∈digs B n):d<B:=by
 obtain⟨k,hk⟩:=List.mem_iff_getElem?.1 h
 rw [Qom hB]at hk
 split at hk
 ·cases hk
 ·cases hk;exact Nat.mod_lt _ (by omega)
theorem Qa8 (hB:2≤B) {n k:Nat} (h:(digs B n).length≤k):n/B^k=0:=by
 have:=(Qam hB n k).1 h
 exact Nat.div_eq_of_lt this
theorem Qbi (hB:2≤B) {n:Nat}:digs B n=[]↔n=0:=by
 constructor
 ·intro h;have:=Qol hB n;rw [h]at this;exact this.symm
 ·rintro rfl;exact Qax
def lows (B n i:Nat):List Nat:=(List.range i).map fun k=>n/B^k%B
theorem Qaj (n i:Nat):(lows B n i).length=i:=by simp [lows]
theorem Qc3 (n i:Nat):lows B n (i+1)=lows B n i++[n/B^i%B]:=by simp [lows,List.range_succ]
theorem Qbr (n i k:Nat) (h:k<i):(lows B n i)[k]? =some (n/B^k%B):=by simp [lows,h]
theorem Qqh (n i:Nat):lows B n (i+1)=n%B::lows B (n/B) i:=by
 simp only [lows,List.range_succ_eq_map,List.map_cons,Nat.pow_zero,Nat.div_one,List.map_map]
 congr 1
 apply List.map_congr_left
 intro k _
 simp only [Function.comp,Nat.succ_eq_add_one]
 rw [Nat.div_div_eq_div_mul,Nat.pow_succ,Nat.mul_comm]
theorem Q7n (hB:0<B) (n i:Nat):val B (lows B n i)=n%B^i:=by
 induction i generalizing n with
 |zero=>simp [lows,val,Nat.mod_one]
 |succ i ih=>
  rw [Qqh]
  simp only [val]
  rw [ih,Nat.pow_succ,Nat.mul_comm (B^i) B,Nat.mod_mul]
theorem Qf8 (hB:2≤B) (n:Nat):lows B n (digs B n).length=digs B n:=by
 apply List.ext_getElem?
 intro k
 by_cases hk:k<(digs B n).length
 ·rw [Qbr _ _ _ hk,Qap hB hk]
 ·rw [List.getElem?_eq_none (by rw [Qaj];omega),List.getElem?_eq_none (by omega)]
def Qc1 (l:List Nat):List Nat:=(l.reverse.dropWhile (· ==0)).reverse
theorem Qcm (l:List Nat):Qc1 (l++[0])=Qc1 l:=by simp [Qc1]
theorem Qef (l:List Nat) {d:Nat} (h:d≠0):Qc1 (l++[d])=l++[d]:=by simp [Qc1,h]
theorem Qzv:Qc1 []=[]:=rfl
theorem Qnh (l m:List Nat):val B (l++m)=val B l+B^l.length*val B m:=by
 induction l with
 |nil=>simp [val]
 |cons d l ih=>
  simp only [List.cons_append,val,ih,List.length_cons,Nat.pow_succ]
  rw [Nat.mul_add,Nat.add_assoc,←Nat.mul_assoc,Nat.mul_comm B (B^l.length)]
theorem Zl1 (hB:0<B) {l:List Nat} (h: ∀d∈l,d<B):val B l<B^l.length:=by
 induction l with
 |nil=>simp [val]
 |cons d l ih=>
  have h1:=ih fun x hx=>h x (by simp [hx])
  have h2:=h d (by simp)
  simp only [val,List.length_cons,Nat.pow_succ]
  have:B*val B l+B≤B*B^l.length:=by rw [←Nat.mul_succ];exact Nat.mul_le_mul_left _ h1
  rw [Nat.mul_comm (B^l.length)]
  omega
theorem Q7o (hB:2≤B) {l:List Nat} (h: ∀d∈l,d<B):lows B (val B l) l.length=l:=by
 induction l with
 |nil=>rfl
 |cons d l ih=>
  have h2:=h d (by simp)
  rw [List.length_cons,Qqh]
  simp only [val]
  rw [Nat.add_mul_mod_self_left,Nat.mod_eq_of_lt h2,Nat.add_mul_div_left _ _ (by omega),Nat.div_eq_of_lt h2,Nat.zero_add,ih fun x hx=>h x (by simp [hx])]
theorem Qkw (hB:2≤B) (l:List Nat) (h: ∀d∈l,d<B):Qc1 l=digs B (val B l):=by
 have key: ∀n,∀l:List Nat,l.length=n→(∀d∈l,d<B)→Qc1 l=digs B (val B l):=by
  intro n
  induction n with
  |zero=>intro l hl _;rw [List.length_eq_zero_iff.1 hl];simp [Qzv,val,Qax]
  |succ n ih=>
   intro l hl h
   have hne:l≠ []:=by rintro rfl;simp at hl
   have hcut:=List.dropLast_concat_getLast hne
   generalize l.dropLast=m at hcut
   generalize l.getLast hne=d at hcut
   subst hcut
   have hm:m.length=n:=by simpa using hl
   have hmd: ∀x∈m,x<B:=fun x hx=>h x (by simp [hx])
   by_cases hd:d=0
   ·subst hd
    rw [Qcm,ih m hm hmd,Qnh]
    simp [val]
   ·rw [Qef m hd]
    have hlen:(digs B (val B (m++[d]))).length=(m++[d]).length:=by
     apply Nat.le_antisymm
     ·exact(Qam hB _ _).2 (Zl1 (by omega) h)
     ·have:(m++[d]).length=m.length+1:=by simp
      rw [this]
      apply (Qcc hB _ _).2
      rw [Qnh]
      simp only [val,Nat.mul_zero,Nat.add_zero]
      rw [Nat.add_mul_div_left _ _ (Nat.pow_pos (by omega))]
      exact fun e=>hd (Nat.eq_zero_of_add_eq_zero_left e)
    have:=Qf8 hB (val B (m++[d]))
    rw [hlen,Q7o hB h]at this
    exact this
 exact key l.length l rfl h
theorem Qbm (hB:2≤B) (n i:Nat):Qc1 (lows B n i)=digs B (n%B^i):=by
 rw [Qkw hB,Q7n (by omega)]
 intro d hd
 simp only [lows,List.mem_map]at hd
 obtain⟨k,_,rfl⟩:=hd
 exact Nat.mod_lt _ (by omega)
theorem Qw2 {l:List Nat} (h: ∀d,l.getLast? =some d→d≠0):Qc1 l=l:=by
 by_cases hne:l=[]
 ·subst hne;rfl
 ·have hcut:=List.dropLast_concat_getLast hne
  have hl:l.getLast? =some (l.getLast hne):=List.getLast?_eq_some_getLast hne
  have:=h _ hl
  rw [←hcut]
  exact Qef _ this
end
end Go.Dg

namespace Go.Proofs.YtlpiamlgibomhaaGreat
open Go.Vl Go.RowKit Go.Dg
def di (l:List Nat):PV:= .slc (l.map fun d:Nat=>PV.int .i64 (d:Int))
theorem Qeq (l:List Nat) (k:Nat):(l.map fun d:Nat=>PV.int .i64 (d:Int))[k]? =l[k]?.map fun d:Nat=>PV.int .i64 (d:Int):=List.getElem?_map
theorem Zma (l:List Nat):((l.map fun d:Nat=>PV.int .i64 (d:Int)).all fun x=>x.cells.length==1)=true:=by rw [List.all_map,List.all_eq_true];intro d _;rfl
theorem wrapn {n:Nat} (h:n<9223372036854775808):IntKind.i64.wrap (n:Int)=n:=Qah (by omega) (by omega)
theorem Qh8 {n:Nat} (h:n<9223372036854775808):IntKind.i64.wrap (((n+1:Nat):Int)-1)=(n:Int):=by
 rw [Qah (by omega) (by omega)];omega
theorem Qfb:maxLen<9223372036854775808:=by simp [maxLen]
theorem Qje (l:List Nat) (hl:l.length≤maxLen):Qag Tryz.prog 92 [di l] (di (Qc1 l)):=by
 have hm:=Qfb
 refine Qac (tb:=[]) 21 [.tmp 2] [0,2,14] mixed Tryz.func92 rfl (by kernel_rfl) (by kernel_rfl) (by kernel_rfl) (by kernel_rfl) ?_
 simp -implicitDefEqProofs only [go_sem,Nat.reduceMul,Nat.reduceEqDiff,Nat.reduceLT,Nat.reduceLeDiff,reduceCtorEq,di]
 refine Qat mixed (fun k:{k:Nat // k≤l.length∧Qc1 (l.take k)=Qc1 l}=>St.of [(0,di (l.take k.1)),(2,.nilS)] []) (fun k=>k.1) ⟨l.length,Nat.le_refl _,by rw [List.take_length]⟩ ?_ ?_
 ·exact Qa1 (by simp [Qad,lkp,ren1,ren0,di])
 ·rintro⟨k,hk,ht⟩
  have hlen:(l.take k).length=k:=by simp;omega
  cases k with
  |zero=>
   have h1:((0:Int)<((0:Nat):Int))=False:=by simp
   simp -implicitDefEqProofs only [go_sem,Nat.reduceAdd,Nat.reduceMul,Nat.reduceEqDiff,Nat.reduceLT,Nat.reduceLeDiff,reduceCtorEq,di,List.length_map,hlen,h1]
   rw [←ht];rfl
  |succ k=>
   have h1:((0:Int)<((k+1:Nat):Int))=True:=by simp
   have h2:(0≤(k:Int))=True:=by simp
   have hw:=Qh8 (n:=k) (by omega)
   have hlt:k<l.length:=by omega
   have hget:(l.take (k+1))[k]? =some l[k]:=by simp [hlt]
   have hcut:l.take (k+1)=l.take k++[l[k]]:=by rw [List.take_add_one];simp [hlt]
   cases hd:((l[k]:Int)==0)with
   |true=>
    have hd0:l[k]=0:=by simpa using hd
    have h3:((k:Int)≤((k+1:Nat):Int))=True:=by simp;omega
    simp -implicitDefEqProofs only [go_sem,Nat.reduceAdd,Nat.reduceMul,Nat.reduceEqDiff,Nat.reduceLT,Nat.reduceLeDiff,reduceCtorEq,di,List.length_map,hlen,h1,h2,h3,hw,Int.toNat_natCast,Qeq,hget,hd,Zma]
    refine⟨⟨k,by omega,?_⟩,by simp,?_⟩
    ·rw [←ht,hcut,hd0,Qcm]
    ·refine Qa1 (by simp [Qad,lkp,ren1,ren0,di];rw [←List.map_take];simp [List.take_take])
   |false=>
    have hd0:l[k]≠0:=by simpa using hd
    simp -implicitDefEqProofs only [go_sem,Nat.reduceAdd,Nat.reduceMul,Nat.reduceEqDiff,Nat.reduceLT,Nat.reduceLeDiff,reduceCtorEq,di,List.length_map,hlen,h1,h2,hw,Int.toNat_natCast,Qeq,hget,hd]
    rw [←ht,hcut,Qef _ hd0]
end Go.Proofs.YtlpiamlgibomhaaGreat

namespace Go.Dg
section
variable {B:Nat}
def carry (B a b i:Nat):Nat:=(a%B^i+b%B^i)/B^i
theorem Qja (a b:Nat):carry B a b 0=0:=by simp [carry,Nat.mod_one]
theorem Qos (hB:0<B) (a b i:Nat):carry B a b i≤1:=by
 have hp:0<B^i:=Nat.pow_pos hB
 have h1:=Nat.mod_lt a hp
 have h2:=Nat.mod_lt b hp
 unfold carry
 rw [Nat.div_le_iff_le_mul hp]
 omega
theorem Qot (hB:0<B) (a b i:Nat):(a/B^i%B+b/B^i%B+carry B a b i)%B=(a+b)/B^i%B∧(a/B^i%B+b/B^i%B+carry B a b i)/B=carry B a b (i+1):=by
 have hp:0<B^i:=Nat.pow_pos hB
 unfold carry
 generalize hP:B^i=P at*
 have e1:(a+b)/P=a/P+b/P+(a%P+b%P)/P:=by
  conv=>lhs;rw [←Nat.div_add_mod a P,←Nat.div_add_mod b P]
  have:P*(a/P)+a%P+(P*(b/P)+b%P)=(a%P+b%P)+P*(a/P+b/P):=by rw [Nat.mul_add];omega
  rw [this,Nat.add_mul_div_left _ _ hp]
  omega
 constructor
 ·rw [e1]
  conv=>rhs;rw [Nat.add_mod,Nat.add_mod (a/P)]
  conv=>lhs;rw [Nat.add_mod,Nat.add_mod (a/P%B)]
  simp
 ·have hP1:B^(i+1)=P*B:=by rw [Nat.pow_succ,hP]
  rw [hP1,Nat.mod_mul,Nat.mod_mul]
  have:a%P+P*(a/P%B)+(b%P+P*(b/P%B))=(a%P+b%P)+P*(a/P%B+b/P%B):=by rw [Nat.mul_add];omega
  rw [this,←Nat.div_div_eq_div_mul,Nat.add_mul_div_left _ _ hp]
  congr 1
  omega
theorem Qzz (hB:0<B) (a b i:Nat):(carry B a b i+a/B^i%B+b/B^i%B)%B=(a+b)/B^i%B∧(carry B a b i+a/B^i%B+b/B^i%B)/B=carry B a b (i+1):=by
 have h:=Qot hB a b i
 have e:carry B a b i+a/B^i%B+b/B^i%B=a/B^i%B+b/B^i%B+carry B a b i:=by omega
 rw [e];exact h
theorem Qlh (hB:2≤B) {n i:Nat} (h1:n<B^i) (h2: ∀j,j<i→n/B^j≠0):lows B n i=digs B n:=by
 have hl:(digs B n).length=i:=by
  apply Nat.le_antisymm ((Qam hB n i).2 h1)
  rcases Nat.eq_zero_or_pos i with rfl|hi
  ·exact Nat.zero_le _
  ·have:=(Qcc hB n (i-1)).2 (h2 (i-1) (by omega))
   omega
 rw [←hl,Qf8 hB]
theorem Q7q (hB:2≤B) {a b i:Nat} (ha:(digs B a).length≤i) (hb:(digs B b).length≤i) (hc:carry B a b i=0):a+b<B^i:=by
 have h1:=(Qam hB a i).1 ha
 have h2:=(Qam hB b i).1 hb
 unfold carry at hc
 rw [Nat.mod_eq_of_lt h1,Nat.mod_eq_of_lt h2,Nat.div_eq_zero_iff]at hc
 have:0<B^i:=Nat.pow_pos (by omega)
 omega
theorem Q7r (hB:2≤B) {a b i:Nat} (h:i<(digs B a).length∨i<(digs B b).length∨0<carry B a b i):(a+b)/B^i≠0:=by
 have hp:0<B^i:=Nat.pow_pos (by omega)
 have hle:B^i≤a+b:=by
  rcases h with h|h|h
  ·have:=(Qcc hB a i).1 h
   have:=Nat.div_eq_zero_iff (a:=a) (b:=B^i)
   omega
  ·have:=(Qcc hB b i).1 h
   have:=Nat.div_eq_zero_iff (a:=b) (b:=B^i)
   omega
  ·unfold carry at h
   have h1:=Nat.mod_le a (B^i)
   have h2:=Nat.mod_le b (B^i)
   have h3:=Nat.div_eq_zero_iff (a:=a%B^i+b%B^i) (b:=B^i)
   omega
 have:=Nat.div_eq_zero_iff (a:=a+b) (b:=B^i)
 omega
end
end Go.Dg

namespace Go.Proofs.YtlpiamlgibomhaaGreat
open Go.Vl Go.RowKit Go.Dg
abbrev E9:Nat:=1000000000
theorem E9_2:2≤E9:=by decide
abbrev fI:Nat→PV:=fun d:Nat=>PV.int .i64 (d:Int)
theorem Qj3 (l:List Nat):(((l.map fun d:Nat=>PV.int .i64 (d:Int)).flatMap PV.cells).all PV.okCell)=true:=by
 rw [List.all_eq_true]
 intro x hx
 obtain⟨y,hy,hx⟩:=List.mem_flatMap.1 hx
 obtain⟨d,_,rfl⟩:=List.mem_map.1 hy
 simp only [Zon,List.mem_singleton]at hx
 subst hx;rfl
theorem Qo4 (n:Nat):Int.tmod (n:Int) 1000000000=((n%1000000000:Nat):Int):=by
 rw [Int.tmod_eq_emod_of_nonneg (by omega)];rfl
theorem Qo5 (n:Nat):Int.tdiv (n:Int) 1000000000=((n/1000000000:Nat):Int):=by
 rw [Int.tdiv_eq_ediv_of_nonneg (by omega)];rfl
theorem Qcf {a b:Nat} (h:a+b<9223372036854775808):IntKind.i64.wrap ((a:Int)+(b:Int))=((a+b:Nat):Int):=by
 rw [Qah (by omega) (by omega)];omega
theorem Qai {a:Nat} (h:a+1<9223372036854775808):IntKind.i64.wrap ((a:Int)+1)=((a+1:Nat):Int):=by
 rw [Qah (by omega) (by omega)];omega
theorem Zgw (a b:Nat) (hl:(digs E9 (a+b)).length≤1000000000):Qag Tryz.prog 133 [di (digs E9 a),di (digs E9 b)] (di (digs E9 (a+b))):=by
 have hm:=Qfb
 refine Qac (tb:=[]) 52 [.tmp 4] [0,1,4,5,6,7,21,27,37] mixed Tryz.func133 rfl (by kernel_rfl) (by kernel_rfl) (by kernel_rfl) (by kernel_rfl) ?_
 simp -implicitDefEqProofs only [go_sem,Nat.reduceAdd,Nat.reduceMul,Nat.reduceEqDiff,Nat.reduceLT,Nat.reduceLeDiff,reduceCtorEq,di]
 refine Qat mixed (fun i:{i:Nat // i≤(digs E9 (a+b)).length∧ ∀j,j<i→(a+b)/E9^j≠0}=>St.of [(0,di (digs E9 a)),(1,di (digs E9 b)),(4,.nilS),(5,.bs 7 1 0 i.1),(6,.int .i64 (carry E9 a b i.1:Int)),(7,.int .i64 (i.1:Int))]
  [(7,{els:=(lows E9 (a+b) i.1).map fI,esz:=1,ety:=3,fro:=0,live:=true,arr:=true})]) (fun i=>(digs E9 (a+b)).length+1-i.1) ⟨0,Nat.zero_le _,by omega⟩ ?_ ?_
 ·refine Qfz 5 7 1 3 rfl rfl rfl (by decide) [(7,7)] rfl ?_ ?_
  ·simp [Qad,lkp,ren1,ren0,di,Qja]
  ·simp [Qak,lkp,Box.renames,lows]
 ·rintro⟨i,hi,hmore⟩
  have h0:(0≤(i:Int))=True:=by simp
  have hll:=Qaj (B:=E9) (a+b) i
  have hcle:=Qos (B:=E9) (by decide) a b i
  obtain⟨hs1,hs2⟩:(carry E9 a b i+a/E9^i%E9+b/E9^i%E9)%1000000000=(a+b)/E9^i%E9∧(carry E9 a b i+a/E9^i%E9+b/E9^i%E9)/1000000000=carry E9 a b (i+1):=Qzz (B:=E9) (by decide) a b i
  have hda:a/E9^i%E9<E9:=Nat.mod_lt _ (by decide)
  have hdb:b/E9^i%E9<E9:=Nat.mod_lt _ (by decide)
  have hb1:((i+1)*8≤140737488355328)=True:=by simp;omega
  have hb2:(i+1≤maxLen)=True:=by simp [maxLen];omega
  have hwi:=Qai (a:=i) (by omega)
  have next: ∀s,((i<(digs E9 a).length)∨(i<(digs E9 b).length)∨0<carry E9 a b i)→Le s (St.of [(0,di (digs E9 a)),(1,di (digs E9 b)),(4,.nilS),(5,.bs 7 1 0 (i+1)),(6,.int .i64 (carry E9 a b (i+1):Int)),(7,.int .i64 ((i+1:Nat):Int))]
    [(7,{els:=(lows E9 (a+b) (i+1)).map fI,esz:=1,ety:=3,fro:=0,live:=true,arr:=true})])→
    ∃y:{i:Nat // i≤(digs E9 (a+b)).length∧ ∀j,j<i→(a+b)/E9^j≠0},(digs E9 (a+b)).length+1-y.1<(digs E9 (a+b)).length+1-i∧
     Le s (St.of [(0,di (digs E9 a)),(1,di (digs E9 b)),(4,.nilS),(5,.bs 7 1 0 y.1),(6,.int .i64 (carry E9 a b y.1:Int)),(7,.int .i64 (y.1:Int))]
      [(7,{els:=(lows E9 (a+b) y.1).map fI,esz:=1,ety:=3,fro:=0,live:=true,arr:=true})]):=by
   intro s hc hle
   have hne:=Q7r E9_2 hc
   have hlt:=(Qcc E9_2 _ _).2 hne
   exact⟨⟨i+1,hlt,fun j hj=>(Nat.lt_succ_iff_lt_or_eq.1 hj).elim (hmore j) fun h=>h▸hne⟩,by simp only;omega,hle⟩
  by_cases hA:i<(digs E9 a).length
  ·have hA':((i:Int)<((digs E9 a).length:Int))=True:=by simp;omega
   have hga:=Qap E9_2 hA
   by_cases hB:i<(digs E9 b).length
   ·have hB':((i:Int)<((digs E9 b).length:Int))=True:=by simp;omega
    have hgb:=Qap E9_2 hB
    have w1:=Qcf (a:=carry E9 a b i) (b:=a/E9^i%E9) (by simp only [E9]at*;omega)
    have w2:=Qcf (a:=carry E9 a b i+a/E9^i%E9) (b:=b/E9^i%E9) (by simp only [E9]at*;omega)
    have w3:=wrapn (n:=(carry E9 a b i+a/E9^i%E9+b/E9^i%E9)/1000000000) (by simp only [E9]at*;omega)
    simp -implicitDefEqProofs only [go_sem,Nat.reduceAdd,Nat.reduceMul,Nat.reduceEqDiff,Nat.reduceLT,Nat.reduceLeDiff,reduceCtorEq,Int.reduceEq,Nat.reduceBneDiff,di,List.length_map,hA',hB',h0,Qeq,hga,hgb,w1,w2,w3,Qo4,Qo5,hll,Qj3,hb1,hb2,hwi]
    refine next _ (.inl hA) (Qal (θ:=[(7,1004)]) rfl ?_ ?_)
    ·simp [Qad,lkp,ren1,ren0,di,hs2]
    ·simp [Qak,lkp,Box.renames,Qc3,hs1]
   ·have hB':((i:Int)<((digs E9 b).length:Int))=False:=by simp;omega
    have hb0:b/E9^i%E9=0:=by rw [Qa8 E9_2 (Nat.le_of_not_lt hB),Nat.zero_mod]
    rw [hb0,Nat.add_zero]at hs1 hs2
    have w1:=Qcf (a:=carry E9 a b i) (b:=a/E9^i%E9) (by simp only [E9]at*;omega)
    have w3:=wrapn (n:=(carry E9 a b i+a/E9^i%E9)/1000000000) (by simp only [E9]at*;omega)
    simp -implicitDefEqProofs only [go_sem,Nat.reduceAdd,Nat.reduceMul,Nat.reduceEqDiff,Nat.reduceLT,Nat.reduceLeDiff,reduceCtorEq,Int.reduceEq,Nat.reduceBneDiff,di,List.length_map,hA',hB',h0,Qeq,hga,w1,w3,Qo4,Qo5,hll,Qj3,hb1,hb2,hwi]
    refine next _ (.inl hA) (Qal (θ:=[(7,1004)]) rfl ?_ ?_)
    ·simp [Qad,lkp,ren1,ren0,di,hs2]
    ·simp [Qak,lkp,Box.renames,Qc3,hs1]
  ·have hA':((i:Int)<((digs E9 a).length:Int))=False:=by simp;omega
   have ha0:a/E9^i%E9=0:=by rw [Qa8 E9_2 (Nat.le_of_not_lt hA),Nat.zero_mod]
   rw [ha0,Nat.add_zero]at hs1 hs2
   by_cases hB:i<(digs E9 b).length
   ·have hB':((i:Int)<((digs E9 b).length:Int))=True:=by simp;omega
    have hgb:=Qap E9_2 hB
    have w2:=Qcf (a:=carry E9 a b i) (b:=b/E9^i%E9) (by simp only [E9]at*;omega)
    have w3:=wrapn (n:=(carry E9 a b i+b/E9^i%E9)/1000000000) (by simp only [E9]at*;omega)
    simp -implicitDefEqProofs only [go_sem,Nat.reduceAdd,Nat.reduceMul,Nat.reduceEqDiff,Nat.reduceLT,Nat.reduceLeDiff,reduceCtorEq,Int.reduceEq,Nat.reduceBneDiff,di,List.length_map,hA',hB',h0,Qeq,hgb,w2,w3,Qo4,Qo5,hll,Qj3,hb1,hb2,hwi]
    refine next _ (.inr (.inl hB)) (Qal (θ:=[(7,1004)]) rfl ?_ ?_)
    ·simp [Qad,lkp,ren1,ren0,di,hs2]
    ·simp [Qak,lkp,Box.renames,Qc3,hs1]
   ·have hB':((i:Int)<((digs E9 b).length:Int))=False:=by simp;omega
    have hb0:b/E9^i%E9=0:=by rw [Qa8 E9_2 (Nat.le_of_not_lt hB),Nat.zero_mod]
    rw [hb0,Nat.add_zero]at hs1 hs2
    by_cases hC:0<carry E9 a b i
    ·have hC':((0:Int)<(carry E9 a b i:Int))=True:=by simp;omega
     have w3:=wrapn (n:=carry E9 a b i/1000000000) (by simp only [E9]at*;omega)
     simp -implicitDefEqProofs only [go_sem,Nat.reduceAdd,Nat.reduceMul,Nat.reduceEqDiff,Nat.reduceLT,Nat.reduceLeDiff,reduceCtorEq,Int.reduceEq,Nat.reduceBneDiff,di,List.length_map,hA',hB',hC',h0,w3,Qo4,Qo5,hll,Qj3,hb1,hb2,hwi]
     refine next _ (.inr (.inr hC)) (Qal (θ:=[(7,1004)]) rfl ?_ ?_)
     ·simp [Qad,lkp,ren1,ren0,di,hs2]
     ·simp [Qak,lkp,Box.renames,Qc3,hs1]
    ·have hC':((0:Int)<(carry E9 a b i:Int))=False:=by simp;omega
     have hlt:=Q7q E9_2 (Nat.le_of_not_lt hA) (Nat.le_of_not_lt hB) (by omega)
     have hd:=Qlh E9_2 hlt hmore
     have htk:((lows E9 (a+b) i).map fI).take i=(lows E9 (a+b) i).map fI:=List.take_of_length_le (by simp [hll])
     simp -implicitDefEqProofs only [go_sem,Nat.reduceAdd,Nat.reduceMul,Nat.reduceEqDiff,Nat.reduceLT,Nat.reduceLeDiff,reduceCtorEq,di,List.length_map,hA',hB',hC',hll,htk]
     rw [hd]
end Go.Proofs.YtlpiamlgibomhaaGreat

namespace Go.Dg
section
variable {B:Nat}
def cmpN (a b:Nat):Int:=if a<b then -1 else if b<a then 1 else 0
theorem Qoo {a b:Nat} (h:a<b):cmpN a b= -1:=by simp [cmpN,h]
theorem Qsk {a b:Nat} (h:b<a):cmpN a b=1:=by simp [cmpN,h];omega
theorem Qzw (a:Nat):cmpN a a=0:=by simp [cmpN]
theorem Quz (hB:2≤B) {a b:Nat} (h:(digs B a).length<(digs B b).length):a<b:=by
 have h1:=Qaz hB a
 have h2:=(Qcc hB b _).1 h
 have h3:=Nat.div_eq_zero_iff (a:=b) (b:=B^(digs B a).length)
 have:0<B^(digs B a).length:=Nat.pow_pos (by omega)
 omega
theorem Qhe (hB:0<B) (a i:Nat):a/B^i=B*(a/B^(i+1))+a/B^i%B:=by
 rw [Nat.pow_succ,←Nat.div_div_eq_div_mul]
 exact(Nat.div_add_mod _ _).symm
theorem Qh3 (hB:0<B) {a b i:Nat} (h:a/B^(i+1)=b/B^(i+1)) (hd:a/B^i%B<b/B^i%B):a<b:=by
 have h1:=Qhe hB a i
 have h2:=Qhe hB b i
 rw [h]at h1
 apply Nat.lt_of_not_le
 intro hle
 have:=Nat.div_le_div_right (c:=B^i) hle
 omega
theorem Qnj (hB:0<B) {a b i:Nat} (h:a/B^(i+1)=b/B^(i+1)) (hd:a/B^i%B=b/B^i%B):a/B^i=b/B^i:=by
 rw [Qhe hB a i,Qhe hB b i,h,hd]
def bor (B a b i:Nat):Nat:=if a%B^i<b%B^i then 1 else 0
theorem Qop (a b:Nat):bor B a b 0=0:=by simp [bor,Nat.mod_one]
theorem Qnk (a b i:Nat):bor B a b i≤1:=by unfold bor;split<;>omega
theorem Qzx (hB:0<B) {a b:Nat} (h:b≤a) (i:Nat):(a-b)/B^i+b/B^i+bor B a b i=a/B^i:=by
 have hp:0<B^i:=Nat.pow_pos hB
 unfold bor
 generalize B^i=P at*
 have ha:=Nat.div_add_mod a P
 have hb:=Nat.div_add_mod b P
 have hm1:=Nat.mod_lt a hp
 have hm2:=Nat.mod_lt b hp
 have hle:b/P≤a/P:=Nat.div_le_div_right h
 generalize a/P=x at*
 generalize b/P=y at*
 generalize a%P=r at*
 generalize b%P=s at*
 obtain⟨z,rfl⟩:=Nat.exists_eq_add_of_le hle
 rw [Nat.mul_add]at ha
 split
 ·rename_i hlt
  have hz:z≠0:=by rintro rfl;rw [Nat.mul_zero]at ha;omega
  obtain⟨z',rfl⟩:=Nat.exists_eq_succ_of_ne_zero hz
  have e:a-b=(P+r-s)+P*z':=by rw [Nat.mul_succ]at ha;omega
  rw [e,Nat.add_mul_div_left _ _ hp,Nat.div_eq_of_lt (by omega)]
  omega
 ·rename_i hlt
  have e:a-b=(r-s)+P*z:=by omega
  rw [e,Nat.add_mul_div_left _ _ hp,Nat.div_eq_of_lt (by omega)]
  omega
theorem Qoq (hB:2≤B) {a b:Nat} (h:b≤a) (i:Nat):
  (a-b)/B^i%B+b/B^i%B+bor B a b i=a/B^i%B+B*bor B a b (i+1):=by
 have hB0:0<B:=by omega
 have h1:=Qzx hB0 h i
 have h2:=Qzx hB0 h (i+1)
 have e1:=Qhe hB0 (a-b) i
 have e2:=Qhe hB0 b i
 have e3:=Qhe hB0 a i
 have hm:=Nat.mul_add B ((a-b)/B^(i+1)+b/B^(i+1)) (bor B a b (i+1))
 have hm2:=Nat.mul_add B ((a-b)/B^(i+1)) (b/B^(i+1))
 rw [h2]at hm
 omega
def mix (B V S n m:Nat):List Nat:=(List.range n).map fun j=>if j<m then V/B^j%B else S/B^j%B
theorem Qbe (V S n m:Nat):(mix B V S n m).length=n:=by simp [mix]
theorem Qcn (V S n m j:Nat) (h:j<n):(mix B V S n m)[j]? =some (if j<m then V/B^j%B else S/B^j%B):=by simp [mix,h]
theorem Qld (hB:0<B) {V W m j:Nat} (h:V%B^m=W%B^m) (hj:j<m):V/B^j%B=W/B^j%B:=by
 have key: ∀n,n/B^j%B=(n%B^m)/B^j%B:=by
  intro n
  have e:B^m=B^j*(B*B^(m-j-1)):=by
   rw [←Nat.mul_assoc,←Nat.pow_succ,←Nat.pow_add];congr 1;omega
  rw [e,Nat.mod_mul_right_div_self,Nat.mod_mul_right_mod]
 rw [key V,key W,h]
theorem Qd0 (hB:0<B) {V W S n m d:Nat} (hm:m<n) (h:V%B^m=W%B^m) (hd:W/B^m%B=d):(mix B V S n m).set m d=mix B W S n (m+1):=by
 apply List.ext_getElem?
 intro j
 rw [List.getElem?_set]
 by_cases hj:j<n
 ·rw [Qcn _ _ _ _ _ hj,Qcn _ _ _ _ _ hj,Qbe]
  by_cases e:m=j
  ·subst e;simp [hj,hd]
  ·simp only [e,if_false]
   by_cases hlt:j<m
   ·rw [if_pos hlt,if_pos (by omega),Qld hB h hlt]
   ·rw [if_neg hlt,if_neg (by omega)]
 ·rw [List.getElem?_eq_none (by rw [Qbe];omega),List.getElem?_eq_none (by rw [Qbe];omega),Qbe]
  simp;omega
theorem Qek {V S n m:Nat} (hB:0<B) (h:V/B^m=S/B^m):mix B V S n m=lows B V n:=by
 apply List.map_congr_left
 intro j _
 split
 ·rfl
 ·rename_i hj
  obtain⟨k,rfl⟩:=Nat.exists_eq_add_of_le (Nat.le_of_not_lt hj)
  rw [Nat.pow_add,←Nat.div_div_eq_div_mul,←Nat.div_div_eq_div_mul,h]
theorem Qgv (V S n:Nat):mix B V S n 0=lows B S n:=by simp [mix,lows]
def mulV (B S x i b k:Nat):Nat:=S+x*B^i*(b%B^k)
theorem Qle (S x i b:Nat):mulV B S x i b 0=S:=by simp [mulV,Nat.mod_one]
theorem Qqi (S x i b k:Nat):mulV B S x i b (k+1)=mulV B S x i b k+x*(b/B^k%B)*B^(i+k):=by
 unfold mulV
 rw [Nat.pow_succ,Nat.mod_mul,Nat.mul_add,Nat.pow_add]
 have:x*B^i*(B^k*(b/B^k%B))=x*(b/B^k%B)*(B^i*B^k):=by
  simp only [Nat.mul_assoc,Nat.mul_comm,Nat.mul_left_comm]
 rw [this];omega
def mulC (B S x i b k:Nat):Nat:=mulV B S x i b k/B^(i+k)-S/B^(i+k)
theorem Zf0 (S x i b k:Nat):S≤mulV B S x i b k:=Nat.le_add_right _ _
theorem Qkx (S x i b k:Nat):mulC B S x i b k+S/B^(i+k)=mulV B S x i b k/B^(i+k):=by
 have:=Nat.div_le_div_right (c:=B^(i+k)) (Zf0 (B:=B) S x i b k)
 unfold mulC
 omega
theorem Qlf (S x i b:Nat):mulC B S x i b 0=0:=by simp [mulC,Qle]
theorem Qor (hB:0<B) (S x i b k:Nat):
  (S/B^(i+k)%B+mulC B S x i b k+x*(b/B^k%B))%B=mulV B S x i b (k+1)/B^(i+k)%B∧
  (S/B^(i+k)%B+mulC B S x i b k+x*(b/B^k%B))/B=mulC B S x i b (k+1):=by
 have hp:0<B^(i+k):=Nat.pow_pos hB
 have h1:=Qkx (B:=B) S x i b k
 have e1:mulV B S x i b (k+1)/B^(i+k)=(S/B^(i+k)%B+mulC B S x i b k+x*(b/B^k%B))+B*(S/B^(i+k+1)):=by
  rw [Qqi,Nat.add_mul_div_right _ _ hp,←h1]
  have:=Qhe hB S (i+k)
  omega
 constructor
 ·rw [e1,Nat.add_mul_mod_self_left]
 ·have h2:=Qkx (B:=B) S x i b (k+1)
  have e2:mulV B S x i b (k+1)/B^(i+(k+1))=mulV B S x i b (k+1)/B^(i+k)/B:=by
   rw [Nat.div_div_eq_div_mul,←Nat.pow_succ];rfl
  rw [e1,Nat.add_mul_div_left _ _ hB]at e2
  have e3:S/B^(i+(k+1))=S/B^(i+k+1):=rfl
  omega
theorem Qu0 (S x i b k:Nat):mulV B S x i b k%B^(i+k)=mulV B S x i b (k+1)%B^(i+k):=by
 rw [Qqi,Nat.add_mul_mod_self_right]
theorem Qlg (a i b k:Nat) (hk:b<B^k):mulV B (a%B^i*b) (a/B^i%B) i b k=a%B^(i+1)*b:=by
 unfold mulV
 rw [Nat.mod_eq_of_lt hk,Nat.pow_succ,Nat.mod_mul,Nat.add_mul]
 congr 1
 rw [Nat.mul_comm (a/B^i%B)]
theorem Qzy (hB:0<B) {S x i b k:Nat} (hx:x<B):mulC B S x i b k<B:=by
 induction k with
 |zero=>rw [Qlf];exact hB
 |succ k ih=>
  rw [←(Qor hB S x i b k).2,Nat.div_lt_iff_lt_mul hB]
  have h1:S/B^(i+k)%B<B:=Nat.mod_lt _ hB
  have h2:b/B^k%B<B:=Nat.mod_lt _ hB
  have h3:x*(b/B^k%B)≤(B-1)*(B-1):=Nat.mul_le_mul (by omega) (by omega)
  have h4:B*B=(B-1)*(B-1)+2*(B-1)+1:=by
   obtain⟨c,rfl⟩: ∃c,B=c+1:=⟨B-1,by omega⟩
   simp only [Nat.add_sub_cancel,Nat.add_mul,Nat.mul_add]
   omega
  omega
theorem Q7p (hB:0<B) {a i b k:Nat} (hk:b<B^k):mulC B (a%B^i*b) (a/B^i%B) i b (k+1)=0:=by
 unfold mulC
 rw [Qlg a i b (k+1) (Nat.lt_of_lt_of_le hk (Nat.pow_le_pow_right hB (Nat.le_succ k)))]
 have:a%B^(i+1)*b<B^(i+(k+1)):=by
  have h1:=Nat.mod_lt a (Nat.pow_pos (n:=i+1) hB)
  have e:B^(i+(k+1))=B^(i+1)*B^k:=by rw [←Nat.pow_add];congr 1;omega
  rw [e]
  rcases Nat.eq_zero_or_pos b with rfl|hb
  ·rw [Nat.mul_zero];exact Nat.mul_pos (Nat.pow_pos hB) (Nat.pow_pos hB)
  ·exact Nat.lt_of_lt_of_le (Nat.mul_lt_mul_of_pos_right h1 hb) (Nat.mul_le_mul_left _ (Nat.le_of_lt hk))
 rw [Nat.div_eq_of_lt this,Nat.zero_sub]
end
end Go.Dg

namespace Go.Proofs.YtlpiamlgibomhaaGreat
open Go.Vl Go.RowKit Go.Dg
theorem Qo6 (a b:Nat) (ha:(digs E9 a).length≤1000000000):Qag Tryz.prog 134 [di (digs E9 a),di (digs E9 b)] (.int .i64 (cmpN a b)):=by
 refine Qac (tb:=[]) 41 [.tmp 4] [0,1,4,5,10,15,20,31,40] mixed Tryz.func134 rfl (by kernel_rfl) (by kernel_rfl) (by kernel_rfl) (by kernel_rfl) ?_
 by_cases hl:(digs E9 a).length=(digs E9 b).length
 ·have hl':(((digs E9 a).length:Int) != ((digs E9 b).length:Int))=false:=by simp [hl]
  have hw:IntKind.i64.wrap (((digs E9 a).length:Int)-1)=((digs E9 a).length:Int)-1:=Qah (by omega) (by omega)
  simp -implicitDefEqProofs only [go_sem,Nat.reduceAdd,Nat.reduceMul,Nat.reduceEqDiff,Nat.reduceLT,Nat.reduceLeDiff,reduceCtorEq,Int.reduceNeg,di,List.length_map,hl',hw]
  refine Qat mixed (fun i:{i:Nat // i≤(digs E9 a).length∧a/E9^i=b/E9^i}=>St.of [(0,di (digs E9 a)),(1,di (digs E9 b)),(4,.int .i64 0),(5,.int .i64 ((i.1:Int)-1))] []) (fun i=>i.1)
   ⟨(digs E9 a).length,Nat.le_refl _,by rw [Qa8 E9_2 (Nat.le_refl _),hl,Qa8 E9_2 (Nat.le_refl _)]⟩ ?_ ?_
  ·exact Qa1 (by simp [Qad,lkp,ren1,ren0,di])
  ·rintro⟨i,hi,he⟩
   cases i with
   |zero=>
    have h1:((0:Int)≤((0:Nat):Int)-1)=False:=by simp
    have hab:a=b:=by simpa using he
    subst hab
    simp -implicitDefEqProofs only [go_sem,Nat.reduceAdd,Nat.reduceMul,Nat.reduceEqDiff,Nat.reduceLT,Nat.reduceLeDiff,reduceCtorEq,Int.reduceNeg,di,h1,Qzw]
   |succ i=>
    have hs:(((i+1:Nat):Int)-1)=(i:Int):=by omega
    have h1:((0:Int)≤(i:Int))=True:=by simp
    have hga:=Qap E9_2 (show i<(digs E9 a).length by omega)
    have hgb:=Qap E9_2 (show i<(digs E9 b).length by omega)
    by_cases hlt:a/E9^i%E9<b/E9^i%E9
    ·have h2:(((a/E9^i%E9:Nat):Int)<((b/E9^i%E9:Nat):Int))=True:=by simp only [eq_iff_iff,iff_true];omega
     have hc:=Qoo (Qh3 (by decide) he hlt)
     simp -implicitDefEqProofs only [go_sem,Nat.reduceAdd,Nat.reduceMul,Nat.reduceEqDiff,Nat.reduceLT,Nat.reduceLeDiff,reduceCtorEq,Int.reduceNeg,di,hs,h1,Qeq,hga,hgb,h2,hc]
     exact Qaa _ _ (by kernel_rfl)
    ·have h2:(((a/E9^i%E9:Nat):Int)<((b/E9^i%E9:Nat):Int))=False:=by simp only [eq_iff_iff,iff_false];omega
     by_cases hgt:b/E9^i%E9<a/E9^i%E9
     ·have h3:(((b/E9^i%E9:Nat):Int)<((a/E9^i%E9:Nat):Int))=True:=by simp only [eq_iff_iff,iff_true];omega
      have hc:=Qsk (Qh3 (by decide) he.symm hgt)
      simp -implicitDefEqProofs only [go_sem,Nat.reduceAdd,Nat.reduceMul,Nat.reduceEqDiff,Nat.reduceLT,Nat.reduceLeDiff,reduceCtorEq,Int.reduceNeg,di,hs,h1,Qeq,hga,hgb,h2,h3,hc]
      exact⟨Qaa _ _ (by kernel_rfl),Qaa _ _ (by kernel_rfl)⟩
     ·have h3:(((b/E9^i%E9:Nat):Int)<((a/E9^i%E9:Nat):Int))=False:=by simp only [eq_iff_iff,iff_false];omega
      have hw2:IntKind.i64.wrap ((i:Int)-1)=(i:Int)-1:=Qah (by omega) (by omega)
      simp -implicitDefEqProofs only [go_sem,Nat.reduceAdd,Nat.reduceMul,Nat.reduceEqDiff,Nat.reduceLT,Nat.reduceLeDiff,reduceCtorEq,Int.reduceNeg,di,hs,h1,Qeq,hga,hgb,h2,h3,hw2]
      refine⟨Qaa _ _ (by kernel_rfl),Qaa _ _ (by kernel_rfl),⟨i,by omega,Qnj (by decide) he (by omega)⟩,by simp,?_⟩
      exact Qa1 (by simp [Qad,lkp,ren1,ren0,di])
 ·have hl':(((digs E9 a).length:Int) != ((digs E9 b).length:Int))=true:=by simp;omega
  by_cases hlt:(digs E9 a).length<(digs E9 b).length
  ·have h2:(((digs E9 a).length:Int)<((digs E9 b).length:Int))=True:=by simp;omega
   have hc:=Qoo (Quz E9_2 hlt)
   simp -implicitDefEqProofs only [go_sem,Nat.reduceAdd,Nat.reduceMul,Nat.reduceEqDiff,Nat.reduceLT,Nat.reduceLeDiff,reduceCtorEq,Int.reduceNeg,di,List.length_map,hl',h2,hc]
  ·have h2:(((digs E9 a).length:Int)<((digs E9 b).length:Int))=False:=by simp;omega
   have hc:=Qsk (Quz E9_2 (show(digs E9 b).length<(digs E9 a).length by omega))
   simp -implicitDefEqProofs only [go_sem,Nat.reduceAdd,Nat.reduceMul,Nat.reduceEqDiff,Nat.reduceLT,Nat.reduceLeDiff,reduceCtorEq,Int.reduceNeg,di,List.length_map,hl',h2,hc]
def rI (n:Int):PV:= .agg [.bool (decide (n<0)),di (digs E9 n.natAbs)]
theorem Qfn (neg:Bool) (m:Nat):Qag Tryz.prog 91 [.bool neg,di (digs E9 m)] (rI (if neg then -(m:Int)else m)):=by
 refine Qac (tb:=[]) 13 [.cell 4 44] [0,1,4] mixed Tryz.func91 rfl (by kernel_rfl) (by kernel_rfl) (by kernel_rfl) (by kernel_rfl) ?_
 by_cases hm:m=0
 ·subst hm
  cases neg
  ·simp -implicitDefEqProofs only [go_sem,Nat.reduceAdd,Nat.reduceMul,Nat.reduceEqDiff,Nat.reduceLT,Nat.reduceLeDiff,reduceCtorEq,di,rI,Qax,Int.natAbs_zero,Int.lt_irrefl]
   simp [Qax]
  ·simp -implicitDefEqProofs only [go_sem,Nat.reduceAdd,Nat.reduceMul,Nat.reduceEqDiff,Nat.reduceLT,Nat.reduceLeDiff,reduceCtorEq,di,rI,Qax]
   simp [Qax]
 ·have h1:((0:Int)<((digs E9 m).length:Int))=True:=by
   have:=mt (Qbi E9_2).1 hm
   simp only [eq_iff_iff,iff_true]
   have:=List.length_pos_iff.2 this
   omega
  cases neg
  ·simp -implicitDefEqProofs only [go_sem,Nat.reduceAdd,Nat.reduceMul,Nat.reduceEqDiff,Nat.reduceLT,Nat.reduceLeDiff,reduceCtorEq,di,rI,List.length_map,h1]
   have: ¬((m:Int)<0):=by omega
   simp [this]
  ·simp -implicitDefEqProofs only [go_sem,Nat.reduceAdd,Nat.reduceMul,Nat.reduceEqDiff,Nat.reduceLT,Nat.reduceLeDiff,reduceCtorEq,di,rI,List.length_map,h1]
   have: -(m:Int)<0:=by omega
   simp only [this,decide_true,Int.natAbs_neg,Int.natAbs_natCast]
end Go.Proofs.YtlpiamlgibomhaaGreat
