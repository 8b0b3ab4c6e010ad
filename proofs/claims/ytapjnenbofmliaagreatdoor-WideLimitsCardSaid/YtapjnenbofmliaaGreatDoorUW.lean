/-
  NTy, Dg, NA1, Dn, NA2, Dm, NA3, NA4, NA5, UW (merged for the claim).
-/
import Derived.Test.YtapjnenbofmliaaGreatDoorUV
import Derived.Test.YtapjnenbofmliaaGreatDoorProg
set_option linter.unusedSimpArgs false
set_option linter.unusedVariables false
namespace Go.Proofs.YtapjnenbofmliaaGreatDoor
open Go.Vl
theorem mixed:Tryz.prog.follows .mixedOrders=true:=by kernel_rfl
theorem Ze6:tyOk Tryz.prog 2=true:=by kernel_rfl
theorem Zc4:Qbg Tryz.prog 2=false:=by kernel_rfl
theorem Qw4:(Tryz.prog.info? 2).isSome=true:=by kernel_rfl
theorem Q9c:Qau Tryz.prog 2=some (1,8):=by kernel_rfl
theorem Q2w:Tryz.prog.cellsOf 2=1:=by kernel_rfl
theorem Q9d:Qa3 Tryz.prog 2=some (PV.int IntKind.i64 0):=by kernel_rfl
theorem Zc5:Tryz.prog.underlying 2=some (.int .i64):=by kernel_rfl
theorem Ze7:tyOk Tryz.prog 3=true:=by kernel_rfl
theorem Zc6:Qbg Tryz.prog 3=false:=by kernel_rfl
theorem Qw5:(Tryz.prog.info? 3).isSome=true:=by kernel_rfl
theorem Q9e:Qau Tryz.prog 3=some (1,8):=by kernel_rfl
theorem Q2x:Tryz.prog.cellsOf 3=1:=by kernel_rfl
theorem Q9f:Qa3 Tryz.prog 3=some (PV.int IntKind.i64 0):=by kernel_rfl
theorem Zc7:Tryz.prog.underlying 3=some (.int .i64):=by kernel_rfl
theorem Ze8:tyOk Tryz.prog 4=true:=by kernel_rfl
theorem Zc8:Qbg Tryz.prog 4=false:=by kernel_rfl
theorem Qw6:(Tryz.prog.info? 4).isSome=true:=by kernel_rfl
theorem Q9g:Qau Tryz.prog 4=some (1,1):=by kernel_rfl
theorem Q2y:Tryz.prog.cellsOf 4=1:=by kernel_rfl
theorem Q9h:Qa3 Tryz.prog 4=some (PV.bool Bool.false):=by kernel_rfl
theorem Q9i:Tryz.prog.underlying 4=some .bool:=by kernel_rfl
theorem Ze9:tyOk Tryz.prog 5=true:=by kernel_rfl
theorem Zc9:Qbg Tryz.prog 5=false:=by kernel_rfl
theorem Qw7:(Tryz.prog.info? 5).isSome=true:=by kernel_rfl
theorem Q9j:Qau Tryz.prog 5=some (1,1):=by kernel_rfl
theorem Q2z:Tryz.prog.cellsOf 5=1:=by kernel_rfl
theorem Q9k:Qa3 Tryz.prog 5=some (PV.int IntKind.u8 0):=by kernel_rfl
theorem Zda:Tryz.prog.underlying 5=some (.int .u8):=by kernel_rfl
theorem Zfa:tyOk Tryz.prog 9=true:=by kernel_rfl
theorem Zdb:Qbg Tryz.prog 9=false:=by kernel_rfl
theorem Qw8:(Tryz.prog.info? 9).isSome=true:=by kernel_rfl
theorem Q9l:Qau Tryz.prog 9=some (1,16):=by kernel_rfl
theorem Q20:Tryz.prog.cellsOf 9=1:=by kernel_rfl
theorem Q9m:Qa3 Tryz.prog 9=some (PV.str {data:={toList:=[]}}):=by kernel_rfl
theorem Q8d:Tryz.prog.underlying 9=some .string:=by kernel_rfl
theorem Q9n (s:ByteArray):Qcd Tryz.prog 9 (.str s)=some (.int .i64 s.size):=by simp only [Qcd,Q8d]
theorem Zdc:tyOk Tryz.prog 21=true:=by kernel_rfl
theorem Q9o:Qbg Tryz.prog 21=false:=by kernel_rfl
theorem Qtz:(Tryz.prog.info? 21).isSome=true:=by kernel_rfl
theorem Q21:Qau Tryz.prog 21=some (1,4):=by kernel_rfl
theorem Qw9:Tryz.prog.cellsOf 21=1:=by kernel_rfl
theorem Q22:Qa3 Tryz.prog 21=some (PV.int IntKind.i32 0):=by kernel_rfl
theorem Q9p:Tryz.prog.underlying 21=some (.int .i32):=by kernel_rfl
theorem Zdd:tyOk Tryz.prog 23=true:=by kernel_rfl
theorem Q9q:Qbg Tryz.prog 23=true:=by kernel_rfl
theorem Qt0:(Tryz.prog.info? 23).isSome=true:=by kernel_rfl
theorem Q23:Qau Tryz.prog 23=some (2,24):=by kernel_rfl
theorem Qxa:Tryz.prog.cellsOf 23=2:=by kernel_rfl
theorem Q24:Qa3 Tryz.prog 23=some (PV.agg [PV.bool Bool.false,PV.str {data:={toList:=[]}}]):=by kernel_rfl
theorem Qxb:buildable Tryz.prog 23=true:=by kernel_rfl
theorem Q9r:Qbc Tryz.prog 23 0=some (0,4,1):=by kernel_rfl
theorem Q9s:Qac Tryz.prog 23 0=some (0,1):=by kernel_rfl
theorem Q9t:Qbc Tryz.prog 23 1=some (1,9,1):=by kernel_rfl
theorem Q9u:Qac Tryz.prog 23 1=some (1,1):=by kernel_rfl
theorem Q9v:Qc9 Tryz.prog 23=some [0,2]:=by kernel_rfl
theorem Zde:tyOk Tryz.prog 26=true:=by kernel_rfl
theorem Q9w:Qbg Tryz.prog 26=false:=by kernel_rfl
theorem Qt1:(Tryz.prog.info? 26).isSome=true:=by kernel_rfl
theorem Q25:Qau Tryz.prog 26=some (1,8):=by kernel_rfl
theorem Qxc:Tryz.prog.cellsOf 26=1:=by kernel_rfl
theorem Q26:Qa3 Tryz.prog 26=some (PV.int IntKind.i64 0):=by kernel_rfl
theorem Q9x:Tryz.prog.underlying 26=some (.int .i64):=by kernel_rfl
theorem Zdf:tyOk Tryz.prog 30=true:=by kernel_rfl
theorem Q9y:Qbg Tryz.prog 30=false:=by kernel_rfl
theorem Qt2:(Tryz.prog.info? 30).isSome=true:=by kernel_rfl
theorem Q27:Qau Tryz.prog 30=some (1,24):=by kernel_rfl
theorem Qxd:Tryz.prog.cellsOf 30=1:=by kernel_rfl
theorem Q28:Qa3 Tryz.prog 30=some PV.nilS:=by kernel_rfl
theorem Q29:Qbs Tryz.prog 30=some 3:=by kernel_rfl
theorem Qgp:Tryz.prog.underlying 30=some (.slice 3):=by kernel_rfl
theorem Q3a (es:List PV):Qcd Tryz.prog 30 (.slc es)=some (.int .i64 es.length):=by simp only [Qcd,Qgp]
theorem Q3b:Qcd Tryz.prog 30 .nilS=some (.int .i64 0):=by simp only [Qcd,Qgp]
theorem Q3c (b e o n:Nat):Qcd Tryz.prog 30 (.bs b e o n)=some (.int .i64 n):=by simp only [Qcd,Qgp]
theorem Zdg:tyOk Tryz.prog 32=true:=by kernel_rfl
theorem Q9z:Qbg Tryz.prog 32=true:=by kernel_rfl
theorem Qt3:(Tryz.prog.info? 32).isSome=true:=by kernel_rfl
theorem Q3d:Qau Tryz.prog 32=some (2,32):=by kernel_rfl
theorem Qxe:Tryz.prog.cellsOf 32=2:=by kernel_rfl
theorem Q3e:Qa3 Tryz.prog 32=some (PV.agg [PV.bool Bool.false,PV.nilS]):=by kernel_rfl
theorem Qxf:buildable Tryz.prog 32=true:=by kernel_rfl
theorem Q90:Qbc Tryz.prog 32 0=some (0,4,1):=by kernel_rfl
theorem Q91:Qac Tryz.prog 32 0=some (0,1):=by kernel_rfl
theorem Q92:Qbc Tryz.prog 32 1=some (1,30,1):=by kernel_rfl
theorem Q93:Qac Tryz.prog 32 1=some (1,1):=by kernel_rfl
theorem Zdh:tyOk Tryz.prog 40=true:=by kernel_rfl
theorem Q94:Qbg Tryz.prog 40=false:=by kernel_rfl
theorem Qt4:(Tryz.prog.info? 40).isSome=true:=by kernel_rfl
theorem Q3f:Qau Tryz.prog 40=some (1,24):=by kernel_rfl
theorem Qxg:Tryz.prog.cellsOf 40=1:=by kernel_rfl
theorem Q3g:Qa3 Tryz.prog 40=some PV.nilS:=by kernel_rfl
theorem Q3h:Qbs Tryz.prog 40=some 5:=by kernel_rfl
theorem Qgq:Tryz.prog.underlying 40=some (.slice 5):=by kernel_rfl
theorem Q3i (es:List PV):Qcd Tryz.prog 40 (.slc es)=some (.int .i64 es.length):=by simp only [Qcd,Qgq]
theorem Q3j:Qcd Tryz.prog 40 .nilS=some (.int .i64 0):=by simp only [Qcd,Qgq]
theorem Q3k (b e o n:Nat):Qcd Tryz.prog 40 (.bs b e o n)=some (.int .i64 n):=by simp only [Qcd,Qgq]
theorem Zdi:tyOk Tryz.prog 47=true:=by kernel_rfl
theorem Q95:Qbg Tryz.prog 47=true:=by kernel_rfl
theorem Qt5:(Tryz.prog.info? 47).isSome=true:=by kernel_rfl
theorem Q3l:Qau Tryz.prog 47=some (4,48):=by kernel_rfl
theorem Qxh:Tryz.prog.cellsOf 47=4:=by kernel_rfl
theorem Q3m:Qa3 Tryz.prog 47=some (PV.agg [PV.bool Bool.false,PV.str {data:={toList:=[]}},PV.bool Bool.false,PV.str {data:={toList:=[]}}]):=by kernel_rfl
theorem Qxi:buildable Tryz.prog 47=true:=by kernel_rfl
theorem Q96:Qbc Tryz.prog 47 0=some (0,23,2):=by kernel_rfl
theorem Q97:Qac Tryz.prog 47 0=some (0,2):=by kernel_rfl
theorem Q98:Qbc Tryz.prog 47 1=some (2,23,2):=by kernel_rfl
theorem Q99:Qac Tryz.prog 47 1=some (2,2):=by kernel_rfl
theorem Zaa:Qc9 Tryz.prog 47=some [0,2,0,2]:=by kernel_rfl
theorem Zdj:tyOk Tryz.prog 62=true:=by kernel_rfl
theorem Zab:Qbg Tryz.prog 62=false:=by kernel_rfl
theorem Qt6:(Tryz.prog.info? 62).isSome=true:=by kernel_rfl
theorem Q3n:Qau Tryz.prog 62=some (1,24):=by kernel_rfl
theorem Qxj:Tryz.prog.cellsOf 62=1:=by kernel_rfl
theorem Q3o:Qa3 Tryz.prog 62=some PV.nilS:=by kernel_rfl
theorem Q3p:Qbs Tryz.prog 62=some 9:=by kernel_rfl
theorem Qgr:Tryz.prog.underlying 62=some (.slice 9):=by kernel_rfl
theorem Q3q (es:List PV):Qcd Tryz.prog 62 (.slc es)=some (.int .i64 es.length):=by simp only [Qcd,Qgr]
theorem Q3r:Qcd Tryz.prog 62 .nilS=some (.int .i64 0):=by simp only [Qcd,Qgr]
theorem Q3s (b e o n:Nat):Qcd Tryz.prog 62 (.bs b e o n)=some (.int .i64 n):=by simp only [Qcd,Qgr]
theorem Zdk:tyOk Tryz.prog 64=true:=by kernel_rfl
theorem Zac:Qbg Tryz.prog 64=false:=by kernel_rfl
theorem Qt7:(Tryz.prog.info? 64).isSome=true:=by kernel_rfl
theorem Q3t:Qau Tryz.prog 64=some (1,24):=by kernel_rfl
theorem Qxk:Tryz.prog.cellsOf 64=1:=by kernel_rfl
theorem Q3u:Qa3 Tryz.prog 64=some PV.nilS:=by kernel_rfl
theorem Q3v:Qbs Tryz.prog 64=some 66:=by kernel_rfl
theorem Qgs:Tryz.prog.underlying 64=some (.slice 66):=by kernel_rfl
theorem Q3w (es:List PV):Qcd Tryz.prog 64 (.slc es)=some (.int .i64 es.length):=by simp only [Qcd,Qgs]
theorem Q3x:Qcd Tryz.prog 64 .nilS=some (.int .i64 0):=by simp only [Qcd,Qgs]
theorem Q3y (b e o n:Nat):Qcd Tryz.prog 64 (.bs b e o n)=some (.int .i64 n):=by simp only [Qcd,Qgs]
theorem Zdl:tyOk Tryz.prog 66=true:=by kernel_rfl
theorem Zad:Qbg Tryz.prog 66=false:=by kernel_rfl
theorem Qt8:(Tryz.prog.info? 66).isSome=true:=by kernel_rfl
theorem Q3z:Qau Tryz.prog 66=some (1,8):=by kernel_rfl
theorem Qxl:Tryz.prog.cellsOf 66=1:=by kernel_rfl
theorem Q30:Qa3 Tryz.prog 66=some (PV.int IntKind.u64 0):=by kernel_rfl
theorem Zae:Tryz.prog.underlying 66=some (.int .u64):=by kernel_rfl
theorem Zdm:tyOk Tryz.prog 81=true:=by kernel_rfl
theorem Zaf:Qbg Tryz.prog 81=false:=by kernel_rfl
theorem Qt9:(Tryz.prog.info? 81).isSome=true:=by kernel_rfl
theorem Q31:Qau Tryz.prog 81=some (1,16):=by kernel_rfl
theorem Qxm:Tryz.prog.cellsOf 81=1:=by kernel_rfl
theorem Q32:Qa3 Tryz.prog 81=some PV.nilI:=by kernel_rfl
theorem Zdn:tyOk Tryz.prog 87=true:=by kernel_rfl
theorem Zag:Qbg Tryz.prog 87=true:=by kernel_rfl
theorem Qua:(Tryz.prog.info? 87).isSome=true:=by kernel_rfl
theorem Q33:Qau Tryz.prog 87=some (2,32):=by kernel_rfl
theorem Qxn:Tryz.prog.cellsOf 87=2:=by kernel_rfl
theorem Q34:Qa3 Tryz.prog 87=some (PV.agg [PV.bool Bool.false,PV.nilS]):=by kernel_rfl
theorem Qxo:buildable Tryz.prog 87=true:=by kernel_rfl
theorem Zah:Qbc Tryz.prog 87 0=some (0,4,1):=by kernel_rfl
theorem Zai:Qac Tryz.prog 87 0=some (0,1):=by kernel_rfl
theorem Zaj:Qbc Tryz.prog 87 1=some (1,64,1):=by kernel_rfl
theorem Zak:Qac Tryz.prog 87 1=some (1,1):=by kernel_rfl
theorem Zal:tyOk Tryz.prog 106=true:=by kernel_rfl
theorem Q35:Qbg Tryz.prog 106=false:=by kernel_rfl
theorem Qqf:(Tryz.prog.info? 106).isSome=true:=by kernel_rfl
theorem Qxp:Qau Tryz.prog 106=some (1,8):=by kernel_rfl
theorem Qub:Tryz.prog.cellsOf 106=1:=by kernel_rfl
theorem Qxq:Qa3 Tryz.prog 106=some (PV.int IntKind.u64 0):=by kernel_rfl
theorem Q36:Tryz.prog.underlying 106=some (.int .u64):=by kernel_rfl
theorem Zam:tyOk Tryz.prog 110=true:=by kernel_rfl
theorem Q37:Qbg Tryz.prog 110=false:=by kernel_rfl
theorem Qqg:(Tryz.prog.info? 110).isSome=true:=by kernel_rfl
theorem Qxr:Qau Tryz.prog 110=some (1,8):=by kernel_rfl
theorem Quc:Tryz.prog.cellsOf 110=1:=by kernel_rfl
theorem Qxs:Qa3 Tryz.prog 110=some PV.nilP:=by kernel_rfl
theorem Q38:Qj1 Tryz.prog 110=true:=by kernel_rfl
theorem Zan:tyOk Tryz.prog 112=true:=by kernel_rfl
theorem Q39:Qbg Tryz.prog 112=true:=by kernel_rfl
theorem Qqh:(Tryz.prog.info? 112).isSome=true:=by kernel_rfl
theorem Qxt:Qau Tryz.prog 112=some (2,32):=by kernel_rfl
theorem Qud:Tryz.prog.cellsOf 112=2:=by kernel_rfl
theorem Qxu:Qa3 Tryz.prog 112=some (PV.agg [PV.nilP,PV.nilS]):=by kernel_rfl
theorem Que:buildable Tryz.prog 112=true:=by kernel_rfl
theorem Q4a:Qbc Tryz.prog 112 0=some (0,110,1):=by kernel_rfl
theorem Q4b:Qac Tryz.prog 112 0=some (0,1):=by kernel_rfl
theorem Q4c:Qbc Tryz.prog 112 1=some (1,40,1):=by kernel_rfl
theorem Q4d:Qac Tryz.prog 112 1=some (1,1):=by kernel_rfl
theorem Zao:tyOk Tryz.prog 124=true:=by kernel_rfl
theorem Q4e:Qbg Tryz.prog 124=true:=by kernel_rfl
theorem Qqi:(Tryz.prog.info? 124).isSome=true:=by kernel_rfl
theorem Qxv:Qau Tryz.prog 124=some (24,24):=by kernel_rfl
theorem Quf:Tryz.prog.cellsOf 124=24:=by kernel_rfl
theorem Qxw:Qa3 Tryz.prog 124=some (PV.agg [PV.int IntKind.u8 0,PV.int IntKind.u8 0,PV.int IntKind.u8 0,PV.int IntKind.u8 0,PV.int IntKind.u8 0,PV.int IntKind.u8 0,PV.int IntKind.u8 0,PV.int IntKind.u8 0,PV.int IntKind.u8 0,PV.int IntKind.u8 0,PV.int IntKind.u8 0,PV.int IntKind.u8 0,PV.int IntKind.u8 0,PV.int IntKind.u8 0,PV.int IntKind.u8 0,PV.int IntKind.u8 0,PV.int IntKind.u8 0,PV.int IntKind.u8 0,PV.int IntKind.u8 0,PV.int IntKind.u8 0,PV.int IntKind.u8 0,PV.int IntKind.u8 0,PV.int IntKind.u8 0,PV.int IntKind.u8 0]):=by kernel_rfl
theorem Q4f:Qe8 Tryz.prog 124=some (24,5):=by kernel_rfl
theorem Qug:buildable Tryz.prog 124=true:=by kernel_rfl
theorem Q4g:Qac Tryz.prog 124 0=some (0,1):=by kernel_rfl
theorem Q4h:Qac Tryz.prog 124 1=some (1,1):=by kernel_rfl
theorem Q4i:Qac Tryz.prog 124 2=some (2,1):=by kernel_rfl
theorem Q4j:Qac Tryz.prog 124 3=some (3,1):=by kernel_rfl
theorem Q4k:Qac Tryz.prog 124 4=some (4,1):=by kernel_rfl
theorem Q4l:Qac Tryz.prog 124 5=some (5,1):=by kernel_rfl
theorem Q4m:Qac Tryz.prog 124 6=some (6,1):=by kernel_rfl
theorem Q4n:Qac Tryz.prog 124 7=some (7,1):=by kernel_rfl
theorem Q4o:Qac Tryz.prog 124 8=some (8,1):=by kernel_rfl
theorem Q4p:Qac Tryz.prog 124 9=some (9,1):=by kernel_rfl
theorem Qxx:Qac Tryz.prog 124 10=some (10,1):=by kernel_rfl
theorem Qxy:Qac Tryz.prog 124 11=some (11,1):=by kernel_rfl
theorem Qxz:Qac Tryz.prog 124 12=some (12,1):=by kernel_rfl
theorem Qx0:Qac Tryz.prog 124 13=some (13,1):=by kernel_rfl
theorem Qx1:Qac Tryz.prog 124 14=some (14,1):=by kernel_rfl
theorem Qx2:Qac Tryz.prog 124 15=some (15,1):=by kernel_rfl
theorem Qx3:Qac Tryz.prog 124 16=some (16,1):=by kernel_rfl
theorem Qx4:Qac Tryz.prog 124 17=some (17,1):=by kernel_rfl
theorem Qx5:Qac Tryz.prog 124 18=some (18,1):=by kernel_rfl
theorem Qx6:Qac Tryz.prog 124 19=some (19,1):=by kernel_rfl
theorem Zap:tyOk Tryz.prog 128=true:=by kernel_rfl
theorem Q4q:Qbg Tryz.prog 128=false:=by kernel_rfl
theorem Qqj:(Tryz.prog.info? 128).isSome=true:=by kernel_rfl
theorem Qx7:Qau Tryz.prog 128=some (1,4):=by kernel_rfl
theorem Quh:Tryz.prog.cellsOf 128=1:=by kernel_rfl
theorem Qx8:Qa3 Tryz.prog 128=some (PV.int IntKind.u32 0):=by kernel_rfl
theorem Q4r:Tryz.prog.underlying 128=some (.int .u32):=by kernel_rfl
theorem Zaq:tyOk Tryz.prog 131=true:=by kernel_rfl
theorem Q4s:Qbg Tryz.prog 131=false:=by kernel_rfl
theorem Qqk:(Tryz.prog.info? 131).isSome=true:=by kernel_rfl
theorem Qx9:Qau Tryz.prog 131=some (1,8):=by kernel_rfl
theorem Qui:Tryz.prog.cellsOf 131=1:=by kernel_rfl
theorem Qya:Qa3 Tryz.prog 131=some PV.nilP:=by kernel_rfl
theorem Q4t:Qj1 Tryz.prog 131=true:=by kernel_rfl
theorem Zar:tyOk Tryz.prog 141=true:=by kernel_rfl
theorem Q4u:Qbg Tryz.prog 141=true:=by kernel_rfl
theorem Qql:(Tryz.prog.info? 141).isSome=true:=by kernel_rfl
theorem Qyb:Qau Tryz.prog 141=some (20,160):=by kernel_rfl
theorem Quj:Tryz.prog.cellsOf 141=20:=by kernel_rfl
theorem Qyc:Qa3 Tryz.prog 141=some (PV.agg [PV.int IntKind.u64 0,PV.int IntKind.u64 0,PV.int IntKind.u64 0,PV.int IntKind.u64 0,PV.int IntKind.u64 0,PV.int IntKind.u64 0,PV.int IntKind.u64 0,PV.int IntKind.u64 0,PV.int IntKind.u64 0,PV.int IntKind.u64 0,PV.int IntKind.u64 0,PV.int IntKind.u64 0,PV.int IntKind.u64 0,PV.int IntKind.u64 0,PV.int IntKind.u64 0,PV.int IntKind.u64 0,PV.int IntKind.u64 0,PV.int IntKind.u64 0,PV.int IntKind.u64 0,PV.int IntKind.u64 0]):=by kernel_rfl
theorem Q4v:Qe8 Tryz.prog 141=some (20,66):=by kernel_rfl
theorem Quk:buildable Tryz.prog 141=true:=by kernel_rfl
theorem Q4w:Qac Tryz.prog 141 0=some (0,1):=by kernel_rfl
theorem Q4x:Qac Tryz.prog 141 1=some (1,1):=by kernel_rfl
theorem Q4y:Qac Tryz.prog 141 2=some (2,1):=by kernel_rfl
theorem Q4z:Qac Tryz.prog 141 3=some (3,1):=by kernel_rfl
theorem Q40:Qac Tryz.prog 141 4=some (4,1):=by kernel_rfl
theorem Q41:Qac Tryz.prog 141 5=some (5,1):=by kernel_rfl
theorem Q42:Qac Tryz.prog 141 6=some (6,1):=by kernel_rfl
theorem Q43:Qac Tryz.prog 141 7=some (7,1):=by kernel_rfl
theorem Q44:Qac Tryz.prog 141 8=some (8,1):=by kernel_rfl
theorem Q45:Qac Tryz.prog 141 9=some (9,1):=by kernel_rfl
theorem Qyd:Qac Tryz.prog 141 10=some (10,1):=by kernel_rfl
theorem Qye:Qac Tryz.prog 141 11=some (11,1):=by kernel_rfl
theorem Qyf:Qac Tryz.prog 141 12=some (12,1):=by kernel_rfl
theorem Qyg:Qac Tryz.prog 141 13=some (13,1):=by kernel_rfl
theorem Qyh:Qac Tryz.prog 141 14=some (14,1):=by kernel_rfl
theorem Qyi:Qac Tryz.prog 141 15=some (15,1):=by kernel_rfl
theorem Qyj:Qac Tryz.prog 141 16=some (16,1):=by kernel_rfl
theorem Qyk:Qac Tryz.prog 141 17=some (17,1):=by kernel_rfl
theorem Qyl:Qac Tryz.prog 141 18=some (18,1):=by kernel_rfl
theorem Qym:Qac Tryz.prog 141 19=some (19,1):=by kernel_rfl
theorem Zas:tyOk Tryz.prog 142=true:=by kernel_rfl
theorem Q46:Qbg Tryz.prog 142=true:=by kernel_rfl
theorem Qqm:(Tryz.prog.info? 142).isSome=true:=by kernel_rfl
theorem Qyn:Qau Tryz.prog 142=some (65,65):=by kernel_rfl
theorem Qul:Tryz.prog.cellsOf 142=65:=by kernel_rfl
theorem Qyo:Qa3 Tryz.prog 142=some (PV.agg [PV.int IntKind.u8 0,PV.int IntKind.u8 0,PV.int IntKind.u8 0,PV.int IntKind.u8 0,PV.int IntKind.u8 0,PV.int IntKind.u8 0,PV.int IntKind.u8 0,PV.int IntKind.u8 0,PV.int IntKind.u8 0,PV.int IntKind.u8 0,PV.int IntKind.u8 0,PV.int IntKind.u8 0,PV.int IntKind.u8 0,PV.int IntKind.u8 0,PV.int IntKind.u8 0,PV.int IntKind.u8 0,PV.int IntKind.u8 0,PV.int IntKind.u8 0,PV.int IntKind.u8 0,PV.int IntKind.u8 0,PV.int IntKind.u8 0,PV.int IntKind.u8 0,PV.int IntKind.u8 0,PV.int IntKind.u8 0,PV.int IntKind.u8 0,PV.int IntKind.u8 0,PV.int IntKind.u8 0,PV.int IntKind.u8 0,PV.int IntKind.u8 0,PV.int IntKind.u8 0,PV.int IntKind.u8 0,PV.int IntKind.u8 0,PV.int IntKind.u8 0,PV.int IntKind.u8 0,PV.int IntKind.u8 0,PV.int IntKind.u8 0,PV.int IntKind.u8 0,PV.int IntKind.u8 0,PV.int IntKind.u8 0,PV.int IntKind.u8 0,PV.int IntKind.u8 0,PV.int IntKind.u8 0,PV.int IntKind.u8 0,PV.int IntKind.u8 0,PV.int IntKind.u8 0,PV.int IntKind.u8 0,PV.int IntKind.u8 0,PV.int IntKind.u8 0,PV.int IntKind.u8 0,PV.int IntKind.u8 0,PV.int IntKind.u8 0,PV.int IntKind.u8 0,PV.int IntKind.u8 0,PV.int IntKind.u8 0,PV.int IntKind.u8 0,PV.int IntKind.u8 0,PV.int IntKind.u8 0,PV.int IntKind.u8 0,PV.int IntKind.u8 0,PV.int IntKind.u8 0,PV.int IntKind.u8 0,PV.int IntKind.u8 0,PV.int IntKind.u8 0,PV.int IntKind.u8 0,PV.int IntKind.u8 0]):=by kernel_rfl
theorem Q47:Qe8 Tryz.prog 142=some (65,5):=by kernel_rfl
theorem Qum:buildable Tryz.prog 142=true:=by kernel_rfl
theorem Q48:Qac Tryz.prog 142 0=some (0,1):=by kernel_rfl
theorem Q49:Qac Tryz.prog 142 1=some (1,1):=by kernel_rfl
theorem Q5a:Qac Tryz.prog 142 2=some (2,1):=by kernel_rfl
theorem Q5b:Qac Tryz.prog 142 3=some (3,1):=by kernel_rfl
theorem Q5c:Qac Tryz.prog 142 4=some (4,1):=by kernel_rfl
theorem Q5d:Qac Tryz.prog 142 5=some (5,1):=by kernel_rfl
theorem Q5e:Qac Tryz.prog 142 6=some (6,1):=by kernel_rfl
theorem Q5f:Qac Tryz.prog 142 7=some (7,1):=by kernel_rfl
theorem Q5g:Qac Tryz.prog 142 8=some (8,1):=by kernel_rfl
theorem Q5h:Qac Tryz.prog 142 9=some (9,1):=by kernel_rfl
theorem Qyp:Qac Tryz.prog 142 10=some (10,1):=by kernel_rfl
theorem Qyq:Qac Tryz.prog 142 11=some (11,1):=by kernel_rfl
theorem Qyr:Qac Tryz.prog 142 12=some (12,1):=by kernel_rfl
theorem Qys:Qac Tryz.prog 142 13=some (13,1):=by kernel_rfl
theorem Qyt:Qac Tryz.prog 142 14=some (14,1):=by kernel_rfl
theorem Qyu:Qac Tryz.prog 142 15=some (15,1):=by kernel_rfl
theorem Qyv:Qac Tryz.prog 142 16=some (16,1):=by kernel_rfl
theorem Qyw:Qac Tryz.prog 142 17=some (17,1):=by kernel_rfl
theorem Qyx:Qac Tryz.prog 142 18=some (18,1):=by kernel_rfl
theorem Qyy:Qac Tryz.prog 142 19=some (19,1):=by kernel_rfl
theorem Zat:tyOk Tryz.prog 145=true:=by kernel_rfl
theorem Q5i:Qbg Tryz.prog 145=false:=by kernel_rfl
theorem Qqn:(Tryz.prog.info? 145).isSome=true:=by kernel_rfl
theorem Qyz:Qau Tryz.prog 145=some (1,8):=by kernel_rfl
theorem Qun:Tryz.prog.cellsOf 145=1:=by kernel_rfl
theorem Qy0:Qa3 Tryz.prog 145=some PV.nilP:=by kernel_rfl
theorem Zau:tyOk Tryz.prog 150=true:=by kernel_rfl
theorem Q5j:Qbg Tryz.prog 150=true:=by kernel_rfl
theorem Qqo:(Tryz.prog.info? 150).isSome=true:=by kernel_rfl
theorem Qy1:Qau Tryz.prog 150=some (3,48):=by kernel_rfl
theorem Qup:Tryz.prog.cellsOf 150=3:=by kernel_rfl
theorem Qy2:Qa3 Tryz.prog 150=some (PV.agg [PV.str {data:={toList:=[]}},PV.str {data:={toList:=[]}},PV.nilI]):=by kernel_rfl
theorem Quq:buildable Tryz.prog 150=true:=by kernel_rfl
theorem Q5k:Qbc Tryz.prog 150 0=some (0,9,1):=by kernel_rfl
theorem Q5l:Qac Tryz.prog 150 0=some (0,1):=by kernel_rfl
theorem Q5m:Qbc Tryz.prog 150 1=some (1,9,1):=by kernel_rfl
theorem Q5n:Qac Tryz.prog 150 1=some (1,1):=by kernel_rfl
theorem Q5o:Qbc Tryz.prog 150 2=some (2,81,1):=by kernel_rfl
theorem Q5p:Qac Tryz.prog 150 2=some (2,1):=by kernel_rfl
theorem Zav:tyOk Tryz.prog 156=true:=by kernel_rfl
theorem Q5q:Qbg Tryz.prog 156=true:=by kernel_rfl
theorem Qqp:(Tryz.prog.info? 156).isSome=true:=by kernel_rfl
theorem Qy3:Qau Tryz.prog 156=some (1,16):=by kernel_rfl
theorem Qur:Tryz.prog.cellsOf 156=1:=by kernel_rfl
theorem Qy4:Qa3 Tryz.prog 156=some (PV.agg [PV.str {data:={toList:=[]}}]):=by kernel_rfl
theorem Qus:buildable Tryz.prog 156=true:=by kernel_rfl
theorem Q5r:Qbc Tryz.prog 156 0=some (0,9,1):=by kernel_rfl
theorem Q5s:Qac Tryz.prog 156 0=some (0,1):=by kernel_rfl
theorem Q5t:Qc9 Tryz.prog 156=some [2]:=by kernel_rfl
theorem Zaw:tyOk Tryz.prog 157=true:=by kernel_rfl
theorem Q5u:Qbg Tryz.prog 157=true:=by kernel_rfl
theorem Qqq:(Tryz.prog.info? 157).isSome=true:=by kernel_rfl
theorem Qy5:Qau Tryz.prog 157=some (32,32):=by kernel_rfl
theorem Qut:Tryz.prog.cellsOf 157=32:=by kernel_rfl
theorem Qy6:Qa3 Tryz.prog 157=some (PV.agg [PV.int IntKind.u8 0,PV.int IntKind.u8 0,PV.int IntKind.u8 0,PV.int IntKind.u8 0,PV.int IntKind.u8 0,PV.int IntKind.u8 0,PV.int IntKind.u8 0,PV.int IntKind.u8 0,PV.int IntKind.u8 0,PV.int IntKind.u8 0,PV.int IntKind.u8 0,PV.int IntKind.u8 0,PV.int IntKind.u8 0,PV.int IntKind.u8 0,PV.int IntKind.u8 0,PV.int IntKind.u8 0,PV.int IntKind.u8 0,PV.int IntKind.u8 0,PV.int IntKind.u8 0,PV.int IntKind.u8 0,PV.int IntKind.u8 0,PV.int IntKind.u8 0,PV.int IntKind.u8 0,PV.int IntKind.u8 0,PV.int IntKind.u8 0,PV.int IntKind.u8 0,PV.int IntKind.u8 0,PV.int IntKind.u8 0,PV.int IntKind.u8 0,PV.int IntKind.u8 0,PV.int IntKind.u8 0,PV.int IntKind.u8 0]):=by kernel_rfl
theorem Q5v:Qe8 Tryz.prog 157=some (32,5):=by kernel_rfl
theorem Quu:buildable Tryz.prog 157=true:=by kernel_rfl
theorem Q5w:Qac Tryz.prog 157 0=some (0,1):=by kernel_rfl
theorem Q5x:Qac Tryz.prog 157 1=some (1,1):=by kernel_rfl
theorem Q5y:Qac Tryz.prog 157 2=some (2,1):=by kernel_rfl
theorem Q5z:Qac Tryz.prog 157 3=some (3,1):=by kernel_rfl
theorem Q50:Qac Tryz.prog 157 4=some (4,1):=by kernel_rfl
theorem Q51:Qac Tryz.prog 157 5=some (5,1):=by kernel_rfl
theorem Q52:Qac Tryz.prog 157 6=some (6,1):=by kernel_rfl
theorem Q53:Qac Tryz.prog 157 7=some (7,1):=by kernel_rfl
theorem Q54:Qac Tryz.prog 157 8=some (8,1):=by kernel_rfl
theorem Q55:Qac Tryz.prog 157 9=some (9,1):=by kernel_rfl
theorem Qy7:Qac Tryz.prog 157 10=some (10,1):=by kernel_rfl
theorem Qy8:Qac Tryz.prog 157 11=some (11,1):=by kernel_rfl
theorem Qy9:Qac Tryz.prog 157 12=some (12,1):=by kernel_rfl
theorem Qza:Qac Tryz.prog 157 13=some (13,1):=by kernel_rfl
theorem Qzb:Qac Tryz.prog 157 14=some (14,1):=by kernel_rfl
theorem Qzc:Qac Tryz.prog 157 15=some (15,1):=by kernel_rfl
theorem Qzd:Qac Tryz.prog 157 16=some (16,1):=by kernel_rfl
theorem Qze:Qac Tryz.prog 157 17=some (17,1):=by kernel_rfl
theorem Qzf:Qac Tryz.prog 157 18=some (18,1):=by kernel_rfl
theorem Qzg:Qac Tryz.prog 157 19=some (19,1):=by kernel_rfl
theorem Zax:tyOk Tryz.prog 158=true:=by kernel_rfl
theorem Q56:Qbg Tryz.prog 158=true:=by kernel_rfl
theorem Qqr:(Tryz.prog.info? 158).isSome=true:=by kernel_rfl
theorem Qzh:Qau Tryz.prog 158=some (64,64):=by kernel_rfl
theorem Quv:Tryz.prog.cellsOf 158=64:=by kernel_rfl
theorem Qzi:Qa3 Tryz.prog 158=some (PV.agg [PV.int IntKind.u8 0,PV.int IntKind.u8 0,PV.int IntKind.u8 0,PV.int IntKind.u8 0,PV.int IntKind.u8 0,PV.int IntKind.u8 0,PV.int IntKind.u8 0,PV.int IntKind.u8 0,PV.int IntKind.u8 0,PV.int IntKind.u8 0,PV.int IntKind.u8 0,PV.int IntKind.u8 0,PV.int IntKind.u8 0,PV.int IntKind.u8 0,PV.int IntKind.u8 0,PV.int IntKind.u8 0,PV.int IntKind.u8 0,PV.int IntKind.u8 0,PV.int IntKind.u8 0,PV.int IntKind.u8 0,PV.int IntKind.u8 0,PV.int IntKind.u8 0,PV.int IntKind.u8 0,PV.int IntKind.u8 0,PV.int IntKind.u8 0,PV.int IntKind.u8 0,PV.int IntKind.u8 0,PV.int IntKind.u8 0,PV.int IntKind.u8 0,PV.int IntKind.u8 0,PV.int IntKind.u8 0,PV.int IntKind.u8 0,PV.int IntKind.u8 0,PV.int IntKind.u8 0,PV.int IntKind.u8 0,PV.int IntKind.u8 0,PV.int IntKind.u8 0,PV.int IntKind.u8 0,PV.int IntKind.u8 0,PV.int IntKind.u8 0,PV.int IntKind.u8 0,PV.int IntKind.u8 0,PV.int IntKind.u8 0,PV.int IntKind.u8 0,PV.int IntKind.u8 0,PV.int IntKind.u8 0,PV.int IntKind.u8 0,PV.int IntKind.u8 0,PV.int IntKind.u8 0,PV.int IntKind.u8 0,PV.int IntKind.u8 0,PV.int IntKind.u8 0,PV.int IntKind.u8 0,PV.int IntKind.u8 0,PV.int IntKind.u8 0,PV.int IntKind.u8 0,PV.int IntKind.u8 0,PV.int IntKind.u8 0,PV.int IntKind.u8 0,PV.int IntKind.u8 0,PV.int IntKind.u8 0,PV.int IntKind.u8 0,PV.int IntKind.u8 0,PV.int IntKind.u8 0]):=by kernel_rfl
theorem Q57:Qe8 Tryz.prog 158=some (64,5):=by kernel_rfl
theorem Quw:buildable Tryz.prog 158=true:=by kernel_rfl
theorem Q58:Qac Tryz.prog 158 0=some (0,1):=by kernel_rfl
theorem Q59:Qac Tryz.prog 158 1=some (1,1):=by kernel_rfl
theorem Q6a:Qac Tryz.prog 158 2=some (2,1):=by kernel_rfl
theorem Q6b:Qac Tryz.prog 158 3=some (3,1):=by kernel_rfl
theorem Q6c:Qac Tryz.prog 158 4=some (4,1):=by kernel_rfl
theorem Q6d:Qac Tryz.prog 158 5=some (5,1):=by kernel_rfl
theorem Q6e:Qac Tryz.prog 158 6=some (6,1):=by kernel_rfl
theorem Q6f:Qac Tryz.prog 158 7=some (7,1):=by kernel_rfl
theorem Q6g:Qac Tryz.prog 158 8=some (8,1):=by kernel_rfl
theorem Q6h:Qac Tryz.prog 158 9=some (9,1):=by kernel_rfl
theorem Qzj:Qac Tryz.prog 158 10=some (10,1):=by kernel_rfl
theorem Qzk:Qac Tryz.prog 158 11=some (11,1):=by kernel_rfl
theorem Qzl:Qac Tryz.prog 158 12=some (12,1):=by kernel_rfl
theorem Qzm:Qac Tryz.prog 158 13=some (13,1):=by kernel_rfl
theorem Qzn:Qac Tryz.prog 158 14=some (14,1):=by kernel_rfl
theorem Qzo:Qac Tryz.prog 158 15=some (15,1):=by kernel_rfl
theorem Qzp:Qac Tryz.prog 158 16=some (16,1):=by kernel_rfl
theorem Qzq:Qac Tryz.prog 158 17=some (17,1):=by kernel_rfl
theorem Qzr:Qac Tryz.prog 158 18=some (18,1):=by kernel_rfl
theorem Qzs:Qac Tryz.prog 158 19=some (19,1):=by kernel_rfl
attribute [go_sem] Ze6 Zc4 Qw4 Q9c Q2w Q9d Zc5 Ze7 Zc6 Qw5 Q9e Q2x Q9f Zc7 Ze8 Zc8
attribute [go_sem] Qw6 Q9g Q2y Q9h Q9i Ze9 Zc9 Qw7 Q9j Q2z Q9k Zda Zfa Zdb Qw8 Q9l
attribute [go_sem] Q20 Q9m Q8d Q9n Zdc Q9o Qtz Q21 Qw9 Q22 Q9p Zdd Q9q Qt0 Q23 Qxa
attribute [go_sem] Q24 Qxb Q9r Q9s Q9t Q9u Q9v Zde Q9w Qt1 Q25 Qxc Q26 Q9x Zdf Q9y
attribute [go_sem] Qt2 Q27 Qxd Q28 Q29 Qgp Q3a Q3b Q3c Zdg Q9z Qt3 Q3d Qxe Q3e Qxf
attribute [go_sem] Q90 Q91 Q92 Q93 Zdh Q94 Qt4 Q3f Qxg Q3g Q3h Qgq Q3i Q3j Q3k Zdi
attribute [go_sem] Q95 Qt5 Q3l Qxh Q3m Qxi Q96 Q97 Q98 Q99 Zaa
attribute [go_sem] Zdj Zab Qt6 Q3n Qxj Q3o Q3p Qgr Q3q Q3r
attribute [go_sem] Q3s Zdk Zac Qt7 Q3t Qxk Q3u Q3v Qgs Q3w Q3x Q3y Zdl Zad Qt8 Q3z
attribute [go_sem] Qxl Q30 Zae Zdm Zaf Qt9 Q31 Qxm Q32 Zdn Zag Qua Q33 Qxn Q34 Qxo
attribute [go_sem] Zah Zai Zaj Zak Zal Q35 Qqf Qxp Qub Qxq Q36 Zam Q37 Qqg Qxr Quc
attribute [go_sem] Qxs Q38 Zan Q39 Qqh Qxt Qud Qxu Que Q4a Q4b Q4c Q4d Zao Q4e Qqi
attribute [go_sem] Qxv Quf Qxw Q4f Qug Q4g Q4h Q4i Q4j Q4k Q4l Q4m Q4n Q4o Q4p Qxx
attribute [go_sem] Qxy Qxz Qx0 Qx1 Qx2 Qx3 Qx4 Qx5 Qx6 Zap Q4q Qqj Qx7 Quh Qx8 Q4r
attribute [go_sem] Zaq Q4s Qqk Qx9 Qui Qya Q4t Zar Q4u Qql Qyb Quj Qyc Q4v Quk Q4w
attribute [go_sem] Q4x Q4y Q4z Q40 Q41 Q42 Q43 Q44 Q45 Qyd Qye Qyf Qyg Qyh Qyi Qyj
attribute [go_sem] Qyk Qyl Qym Zas Q46 Qqm Qyn Qul Qyo Q47 Qum Q48 Q49 Q5a Q5b Q5c
attribute [go_sem] Q5d Q5e Q5f Q5g Q5h Qyp Qyq Qyr Qys Qyt Qyu Qyv Qyw Qyx Qyy Zat
attribute [go_sem] Q5i Qqn Qyz Qun Qy0 Zau Q5j Qqo Qy1 Qup Qy2 Quq Q5k Q5l Q5m Q5n
attribute [go_sem] Q5o Q5p Zav Q5q Qqp Qy3 Qur Qy4 Qus Q5r Q5s Q5t Zaw Q5u Qqq Qy5
attribute [go_sem] Qut Qy6 Q5v Quu Q5w Q5x Q5y Q5z Q50 Q51 Q52 Q53 Q54 Q55 Qy7 Qy8
attribute [go_sem] Qy9 Qza Qzb Qzc Qzd Qze Qzf Qzg Zax Q56 Qqr Qzh Quv Qzi Q57 Quw
attribute [go_sem] Q58 Q59 Q6a Q6b Q6c Q6d Q6e Q6f Q6g Q6h Qzj Qzk Qzl Qzm Qzn Qzo
attribute [go_sem] Qzp Qzq Qzr Qzs
end Go.Proofs.YtapjnenbofmliaaGreatDoor

namespace Go.Dg
def digs (B n:Nat):List Nat:=if h:n=0∨B<2 then []else n%B::digs B (n/B)
termination_by n
decreasing_by
 simp only [not_or,Nat.not_lt]at h;exact Nat.div_lt_self (Nat.pos_of_ne_zero h.1) h.2
def val (B:Nat):List Nat→Nat
 | []=>0
 |d::l=>d+B*val B l
section
variable {B:Nat}
theorem Qap:digs B 0=[]:=by unfold digs;simp
theorem Qd2 (hB:2≤B) {n:Nat} (hn:n≠0):digs B n=n%B::digs B (n/B):=by
 conv=>lhs;unfold digs
 rw [dif_neg];simp only [not_or,Nat.not_lt];exact⟨hn,hB⟩
theorem Qr6 (hB:2≤B) (n:Nat):val B (digs B n)=n:=by
 induction n using Nat.strongRecOn with
 |_ n ih=>
  by_cases hn:n=0
  ·subst hn;rw [Qap];rfl
  ·rw [Qd2 hB hn];simp only [val];rw [ih _ (Nat.div_lt_self (Nat.pos_of_ne_zero hn) hB)];exact Nat.mod_add_div n B
theorem Qme (hB:2≤B) (n k:Nat):(digs B n)[k]? =if n/B^k=0 then none else some (n/B^k%B):=by
 induction k generalizing n with
 |zero=>
  by_cases hn:n=0
  ·subst hn;simp [Qap]
  ·rw [Qd2 hB hn];simp [hn]
 |succ k ih=>
  by_cases hn:n=0
  ·subst hn;simp [Qap]
  ·rw [Qd2 hB hn,List.getElem?_cons_succ,ih];have:n/B/B^k=n/B^(k+1):=by rw [Nat.div_div_eq_div_mul,Nat.pow_succ,Nat.mul_comm]
   rw [this]
theorem Qbt (hB:2≤B) (n k:Nat):k<(digs B n).length↔n/B^k≠0:=by
 have:=Qme hB n k;constructor
 ·intro h hz;rw [if_pos hz,List.getElem?_eq_none_iff]at this;omega
 ·intro h;rw [if_neg h]at this;exact(List.getElem?_eq_some_iff.1 this).1
theorem Qak (hB:2≤B) (n k:Nat):(digs B n).length≤k↔n<B^k:=by
 have h:=Qbt hB n k;have hp:0<B^k:=Nat.pow_pos (by omega);rw [←Nat.not_lt,h,Decidable.not_not,Nat.div_eq_zero_iff];omega
theorem Qay (hB:2≤B) (n:Nat):n<B^(digs B n).length:=(Qak hB n _).1 (Nat.le_refl _)
theorem Qam (hB:2≤B) {n k:Nat} (h:k<(digs B n).length):(digs B n)[k]? =some (n/B^k%B):=by
 rw [Qme hB,if_neg ((Qbt hB n k).1 h)]
theorem Qp2 (hB:2≤B) {n d:Nat} (h:d∈digs B n):d<B:=by
 obtain⟨k,hk⟩:=List.mem_iff_getElem?.1 h;rw [Qme hB]at hk;split at hk
 ·cases hk
 ·cases hk;exact Nat.mod_lt _ (by omega)
theorem Qa4 (hB:2≤B) {n k:Nat} (h:(digs B n).length≤k):n/B^k=0:=by
 have:=(Qak hB n k).1 h;exact Nat.div_eq_of_lt this
theorem Qa1 (hB:2≤B) {n:Nat}:digs B n=[]↔n=0:=by
 constructor
 ·intro h;have:=Qr6 hB n;rw [h]at this;exact this.symm
 ·rintro rfl;exact Qap
def lows (B n i:Nat):List Nat:=(List.range i).map fun k=>n/B^k%B
theorem Qaf (n i:Nat):(lows B n i).length=i:=by simp [lows]
theorem Qcg (n i:Nat):lows B n (i+1)=lows B n i++[n/B^i%B]:=by simp [lows,List.range_succ]
theorem Qbh (n i k:Nat) (h:k<i):(lows B n i)[k]? =some (n/B^k%B):=by simp [lows,h]
theorem Qn0 (n i:Nat):lows B n (i+1)=n%B::lows B (n/B) i:=by
 simp only [lows,List.range_succ_eq_map,List.map_cons,Nat.pow_zero,Nat.div_one,List.map_map];congr 1;apply List.map_congr_left;intro k _;simp only [Function.comp,Nat.succ_eq_add_one];rw [Nat.div_div_eq_div_mul,Nat.pow_succ,Nat.mul_comm]
theorem Q17 (hB:0<B) (n i:Nat):val B (lows B n i)=n%B^i:=by
 induction i generalizing n with
 |zero=>simp [lows,val,Nat.mod_one]
 |succ i ih=>
  rw [Qn0];simp only [val];rw [ih,Nat.pow_succ,Nat.mul_comm (B^i) B,Nat.mod_mul]
theorem Qe3 (hB:2≤B) (n:Nat):lows B n (digs B n).length=digs B n:=by
 apply List.ext_getElem?;intro k;by_cases hk:k<(digs B n).length
 ·rw [Qbh _ _ _ hk,Qam hB hk]
 ·rw [List.getElem?_eq_none (by rw [Qaf];omega),List.getElem?_eq_none (by omega)]
def Qch (l:List Nat):List Nat:=(l.reverse.dropWhile (· ==0)).reverse
theorem Qb1 (l:List Nat):Qch (l++[0])=Qch l:=by simp [Qch]
theorem Qde (l:List Nat) {d:Nat} (h:d≠0):Qch (l++[d])=l++[d]:=by simp [Qch,h]
theorem Qwc:Qch []=[]:=rfl
theorem Qlh (l m:List Nat):val B (l++m)=val B l+B^l.length*val B m:=by
 induction l with
 |nil=>simp [val]
 |cons d l ih=>
  simp only [List.cons_append,val,ih,List.length_cons,Nat.pow_succ];rw [Nat.mul_add,Nat.add_assoc,←Nat.mul_assoc,Nat.mul_comm B (B^l.length)]
theorem Zcc (hB:0<B) {l:List Nat} (h: ∀d∈l,d<B):val B l<B^l.length:=by
 induction l with
 |nil=>simp [val]
 |cons d l ih=>
  have h1:=ih fun x hx=>h x (by simp [hx]);have h2:=h d (by simp);simp only [val,List.length_cons,Nat.pow_succ];have:B*val B l+B≤B*B^l.length:=by rw [←Nat.mul_succ];exact Nat.mul_le_mul_left _ h1
  rw [Nat.mul_comm (B^l.length)];omega
theorem Q18 (hB:2≤B) {l:List Nat} (h: ∀d∈l,d<B):lows B (val B l) l.length=l:=by
 induction l with
 |nil=>rfl
 |cons d l ih=>
  have h2:=h d (by simp);rw [List.length_cons,Qn0];simp only [val];rw [Nat.add_mul_mod_self_left,Nat.mod_eq_of_lt h2,Nat.add_mul_div_left _ _ (by omega),Nat.div_eq_of_lt h2,Nat.zero_add,ih fun x hx=>h x (by simp [hx])]
theorem Qmf (hB:2≤B) (l:List Nat) (h: ∀d∈l,d<B):Qch l=digs B (val B l):=by
 have key: ∀n,∀l:List Nat,l.length=n→(∀d∈l,d<B)→Qch l=digs B (val B l):=by
  intro n
  induction n with
  |zero=>intro l hl _;rw [List.length_eq_zero_iff.1 hl];simp [Qwc,val,Qap]
  |succ n ih=>
   intro l hl h;have hne:l≠ []:=by rintro rfl;simp at hl
   have hcut:=List.dropLast_concat_getLast hne;generalize l.dropLast=m at hcut;generalize l.getLast hne=d at hcut;subst hcut;have hm:m.length=n:=by simpa using hl
   have hmd: ∀x∈m,x<B:=fun x hx=>h x (by simp [hx]);by_cases hd:d=0
   ·subst hd;rw [Qb1,ih m hm hmd,Qlh];simp [val]
   ·rw [Qde m hd];have hlen:(digs B (val B (m++[d]))).length=(m++[d]).length:=by
     apply Nat.le_antisymm
     ·exact(Qak hB _ _).2 (Zcc (by omega) h)
     ·have:(m++[d]).length=m.length+1:=by simp
      rw [this];apply (Qbt hB _ _).2;rw [Qlh];simp only [val,Nat.mul_zero,Nat.add_zero];rw [Nat.add_mul_div_left _ _ (Nat.pow_pos (by omega))];exact fun e=>hd (Nat.eq_zero_of_add_eq_zero_left e)
    have:=Qe3 hB (val B (m++[d]));rw [hlen,Q18 hB h]at this;exact this
 exact key l.length l rfl h
theorem Qbb (hB:2≤B) (n i:Nat):Qch (lows B n i)=digs B (n%B^i):=by
 rw [Qmf hB,Q17 (by omega)];intro d hd;simp only [lows,List.mem_map]at hd;obtain⟨k,_,rfl⟩:=hd;exact Nat.mod_lt _ (by omega)
theorem Qtt {l:List Nat} (h: ∀d,l.getLast? =some d→d≠0):Qch l=l:=by
 by_cases hne:l=[]
 ·subst hne;rfl
 ·have hcut:=List.dropLast_concat_getLast hne;have hl:l.getLast? =some (l.getLast hne):=List.getLast?_eq_some_getLast hne;have:=h _ hl;rw [←hcut];exact Qde _ this
end
end Go.Dg

namespace Go.Proofs.YtapjnenbofmliaaGreatDoor
open Go.Vl Go.RowKit Go.Dg
def di (l:List Nat):PV:= .slc (l.map fun d:Nat=>PV.int .i64 (d:Int))
theorem Qev (l:List Nat) (k:Nat):(l.map fun d:Nat=>PV.int .i64 (d:Int))[k]? =l[k]?.map fun d:Nat=>PV.int .i64 (d:Int):=List.getElem?_map
theorem Zcf (l:List Nat):((l.map fun d:Nat=>PV.int .i64 (d:Int)).all fun x=>x.cells.length==1)=true:=by rw [List.all_map,List.all_eq_true];intro d _;rfl
theorem wrapn {n:Nat} (h:n<9223372036854775808):IntKind.i64.wrap (n:Int)=n:=Qaj (by omega) (by omega)
theorem Qgm {n:Nat} (h:n<9223372036854775808):IntKind.i64.wrap (((n+1:Nat):Int)-1)=(n:Int):=by
 rw [Qaj (by omega) (by omega)];omega
theorem Qd4:maxLen<9223372036854775808:=by simp [maxLen]
theorem Qp9 (l:List Nat) (hl:l.length≤maxLen):Qag Tryz.prog 44 [di l] (di (Qch l)):=by
 have hm:=Qd4;refine Qae (tb:=[]) 21 [.tmp 2] [0,2,14] mixed Tryz.func44 rfl (by kernel_rfl) (by kernel_rfl) (by kernel_rfl) (by kernel_rfl) ?_;simp -implicitDefEqProofs only [go_sem,seval,di];refine Qba mixed (fun k:{k:Nat // k≤l.length∧Qch (l.take k)=Qch l}=>St.of [(0,di (l.take k.1)),(2,.nilS)] []) (fun k=>k.1) ⟨l.length,Nat.le_refl _,by rw [List.take_length]⟩ ?_ ?_
 ·exact Qbn (by simp [Qah,lkp,ren1,ren0,di])
 ·rintro⟨k,hk,ht⟩;have hlen:(l.take k).length=k:=by simp;omega
  cases k with
  |zero=>
   have h1:((0:Int)<((0:Nat):Int))=False:=by simp
   simp -implicitDefEqProofs only [go_sem,seval,di,h1];rw [←ht];rfl
  |succ k=>
   have h1:((0:Int)<((k+1:Nat):Int))=True:=by simp
   have h2:(0≤(k:Int))=True:=by simp
   have hw:=Qgm (n:=k) (by omega);have hlt:k<l.length:=by omega
   have hget:(l.take (k+1))[k]? =some l[k]:=by simp [hlt]
   have hcut:l.take (k+1)=l.take k++[l[k]]:=by rw [List.take_add_one];simp [hlt]
   cases hd:((l[k]:Int)==0)with
   |true=>
    have hd0:l[k]=0:=by simpa using hd
    have h3:((k:Int)≤((k+1:Nat):Int))=True:=by simp;omega
    simp -implicitDefEqProofs only [go_sem,seval,di,List.length_map,hlen,h1,h2,h3,hw,Int.toNat_natCast,Qev,hget,hd,Zcf];refine⟨⟨k,by omega,?_⟩,by simp,?_⟩
    ·rw [←ht,hcut,hd0,Qb1]
    ·refine Qbn (by simp [Qah,lkp,ren1,ren0,di];rw [←List.map_take];simp [List.take_take])
   |false=>
    have hd0:l[k]≠0:=by simpa using hd
    simp -implicitDefEqProofs only [go_sem,seval,di,List.length_map,hlen,h1,h2,hw,Int.toNat_natCast,Qev,hget,hd];rw [←ht,hcut,Qde _ hd0]
end Go.Proofs.YtapjnenbofmliaaGreatDoor

namespace Go.Dg
section
variable {B:Nat}
def carry (B a b i:Nat):Nat:=(a%B^i+b%B^i)/B^i
theorem Qhi (a b:Nat):carry B a b 0=0:=by simp [carry,Nat.mod_one]
theorem Qmk (hB:0<B) (a b i:Nat):carry B a b i≤1:=by
 have hp:0<B^i:=Nat.pow_pos hB;have h1:=Nat.mod_lt a hp;have h2:=Nat.mod_lt b hp;unfold carry;rw [Nat.div_le_iff_le_mul hp];omega
theorem Qml (hB:0<B) (a b i:Nat):(a/B^i%B+b/B^i%B+carry B a b i)%B=(a+b)/B^i%B∧(a/B^i%B+b/B^i%B+carry B a b i)/B=carry B a b (i+1):=by
 have hp:0<B^i:=Nat.pow_pos hB;unfold carry;generalize hP:B^i=P at*;have e1:(a+b)/P=a/P+b/P+(a%P+b%P)/P:=by
  conv=>lhs;rw [←Nat.div_add_mod a P,←Nat.div_add_mod b P]
  have:P*(a/P)+a%P+(P*(b/P)+b%P)=(a%P+b%P)+P*(a/P+b/P):=by rw [Nat.mul_add];omega
  rw [this,Nat.add_mul_div_left _ _ hp];omega
 constructor
 ·rw [e1]
  conv=>rhs;rw [Nat.add_mod,Nat.add_mod (a/P)]
  conv=>lhs;rw [Nat.add_mod,Nat.add_mod (a/P%B)]
  simp
 ·have hP1:B^(i+1)=P*B:=by rw [Nat.pow_succ,hP]
  rw [hP1,Nat.mod_mul,Nat.mod_mul];have:a%P+P*(a/P%B)+(b%P+P*(b/P%B))=(a%P+b%P)+P*(a/P%B+b/P%B):=by rw [Nat.mul_add];omega
  rw [this,←Nat.div_div_eq_div_mul,Nat.add_mul_div_left _ _ hp];congr 1;omega
theorem Qwg (hB:0<B) (a b i:Nat):(carry B a b i+a/B^i%B+b/B^i%B)%B=(a+b)/B^i%B∧(carry B a b i+a/B^i%B+b/B^i%B)/B=carry B a b (i+1):=by
 have h:=Qml hB a b i;have e:carry B a b i+a/B^i%B+b/B^i%B=a/B^i%B+b/B^i%B+carry B a b i:=by omega
 rw [e];exact h
theorem Qjl (hB:2≤B) {n i:Nat} (h1:n<B^i) (h2: ∀j,j<i→n/B^j≠0):lows B n i=digs B n:=by
 have hl:(digs B n).length=i:=by
  apply Nat.le_antisymm ((Qak hB n i).2 h1);rcases Nat.eq_zero_or_pos i with rfl|hi
  ·exact Nat.zero_le _
  ·have:=(Qbt hB n (i-1)).2 (h2 (i-1) (by omega));omega
 rw [←hl,Qe3 hB]
theorem Q2a (hB:2≤B) {a b i:Nat} (ha:(digs B a).length≤i) (hb:(digs B b).length≤i) (hc:carry B a b i=0):a+b<B^i:=by
 have h1:=(Qak hB a i).1 ha;have h2:=(Qak hB b i).1 hb;unfold carry at hc;rw [Nat.mod_eq_of_lt h1,Nat.mod_eq_of_lt h2,Nat.div_eq_zero_iff]at hc;have:0<B^i:=Nat.pow_pos (by omega);omega
theorem Q2b (hB:2≤B) {a b i:Nat} (h:i<(digs B a).length∨i<(digs B b).length∨0<carry B a b i):(a+b)/B^i≠0:=by
 have hp:0<B^i:=Nat.pow_pos (by omega);have hle:B^i≤a+b:=by
  rcases h with h|h|h
  ·have:=(Qbt hB a i).1 h;have:=Nat.div_eq_zero_iff (a:=a) (b:=B^i);omega
  ·have:=(Qbt hB b i).1 h;have:=Nat.div_eq_zero_iff (a:=b) (b:=B^i);omega
  ·unfold carry at h;have h1:=Nat.mod_le a (B^i);have h2:=Nat.mod_le b (B^i);have h3:=Nat.div_eq_zero_iff (a:=a%B^i+b%B^i) (b:=B^i);omega
 have:=Nat.div_eq_zero_iff (a:=a+b) (b:=B^i);omega
end
end Go.Dg

namespace Go.Proofs.YtapjnenbofmliaaGreatDoor
open Go.Vl Go.RowKit Go.Dg
abbrev E9:Nat:=1000000000
theorem E9_2:2≤E9:=by decide
abbrev fI:Nat→PV:=fun d:Nat=>PV.int .i64 (d:Int)
theorem Qh8 (l:List Nat):(((l.map fun d:Nat=>PV.int .i64 (d:Int)).flatMap PV.cells).all PV.okCell)=true:=by
 rw [List.all_eq_true];intro x hx;obtain⟨y,hy,hx⟩:=List.mem_flatMap.1 hx;obtain⟨d,_,rfl⟩:=List.mem_map.1 hy;simp only [Zek,List.mem_singleton]at hx;subst hx;rfl
theorem Qqa (n:Nat):Int.tmod (n:Int) 1000000000=((n%1000000000:Nat):Int):=by
 rw [Int.tmod_eq_emod_of_nonneg (by omega)];rfl
theorem Qqb (n:Nat):Int.tdiv (n:Int) 1000000000=((n/1000000000:Nat):Int):=by
 rw [Int.tdiv_eq_ediv_of_nonneg (by omega)];rfl
theorem Qcs {a b:Nat} (h:a+b<9223372036854775808):IntKind.i64.wrap ((a:Int)+(b:Int))=((a+b:Nat):Int):=by
 rw [Qaj (by omega) (by omega)];omega
theorem Qa5 {a:Nat} (h:a+1<9223372036854775808):IntKind.i64.wrap ((a:Int)+1)=((a+1:Nat):Int):=by
 rw [Qaj (by omega) (by omega)];omega
theorem Q8x (a b:Nat) (hl:(digs E9 (a+b)).length≤1000000000):Qag Tryz.prog 42 [di (digs E9 a),di (digs E9 b)] (di (digs E9 (a+b))):=by
 have hm:=Qd4;refine Qae (tb:=[]) 52 [.tmp 4] [0,1,4,5,6,7,21,27,37] mixed Tryz.func42 rfl (by kernel_rfl) (by kernel_rfl) (by kernel_rfl) (by kernel_rfl) ?_;simp -implicitDefEqProofs only [go_sem,seval,di];refine Qba mixed (fun i:{i:Nat // i≤(digs E9 (a+b)).length∧ ∀j,j<i→(a+b)/E9^j≠0}=>St.of [(0,di (digs E9 a)),(1,di (digs E9 b)),(4,.nilS),(5,.bs 7 1 0 i.1),(6,.int .i64 (carry E9 a b i.1:Int)),(7,.int .i64 (i.1:Int))]
  [(7,{els:=(lows E9 (a+b) i.1).map fI,esz:=1,ety:=3,fro:=0,live:=true,arr:=true})]) (fun i=>(digs E9 (a+b)).length+1-i.1) ⟨0,Nat.zero_le _,by omega⟩ ?_ ?_
 ·refine Qh5 5 7 1 3 rfl rfl rfl (by decide) [(7,7)] rfl ?_ ?_
  ·simp [Qah,lkp,ren1,ren0,di,Qhi]
  ·simp [Qal,lkp,Box.renames,lows]
 ·rintro⟨i,hi,hmore⟩;have h0:(0≤(i:Int))=True:=by simp
  have hll:=Qaf (B:=E9) (a+b) i;have hcle:=Qmk (B:=E9) (by decide) a b i;obtain⟨hs1,hs2⟩:(carry E9 a b i+a/E9^i%E9+b/E9^i%E9)%1000000000=(a+b)/E9^i%E9∧(carry E9 a b i+a/E9^i%E9+b/E9^i%E9)/1000000000=carry E9 a b (i+1):=Qwg (B:=E9) (by decide) a b i;have hda:a/E9^i%E9<E9:=Nat.mod_lt _ (by decide);have hdb:b/E9^i%E9<E9:=Nat.mod_lt _ (by decide);have hb1:((i+1)*8≤140737488355328)=True:=by simp;omega
  have hb2:(i+1≤maxLen)=True:=by simp [maxLen];omega
  have hwi:=Qa5 (a:=i) (by omega);have next: ∀s,((i<(digs E9 a).length)∨(i<(digs E9 b).length)∨0<carry E9 a b i)→Le s (St.of [(0,di (digs E9 a)),(1,di (digs E9 b)),(4,.nilS),(5,.bs 7 1 0 (i+1)),(6,.int .i64 (carry E9 a b (i+1):Int)),(7,.int .i64 ((i+1:Nat):Int))]
    [(7,{els:=(lows E9 (a+b) (i+1)).map fI,esz:=1,ety:=3,fro:=0,live:=true,arr:=true})])→
    ∃y:{i:Nat // i≤(digs E9 (a+b)).length∧ ∀j,j<i→(a+b)/E9^j≠0},(digs E9 (a+b)).length+1-y.1<(digs E9 (a+b)).length+1-i∧
     Le s (St.of [(0,di (digs E9 a)),(1,di (digs E9 b)),(4,.nilS),(5,.bs 7 1 0 y.1),(6,.int .i64 (carry E9 a b y.1:Int)),(7,.int .i64 (y.1:Int))]
      [(7,{els:=(lows E9 (a+b) y.1).map fI,esz:=1,ety:=3,fro:=0,live:=true,arr:=true})]):=by
   intro s hc hle;have hne:=Q2b E9_2 hc;have hlt:=(Qbt E9_2 _ _).2 hne;exact⟨⟨i+1,hlt,fun j hj=>(Nat.lt_succ_iff_lt_or_eq.1 hj).elim (hmore j) fun h=>h▸hne⟩,by simp only;omega,hle⟩
  by_cases hA:i<(digs E9 a).length
  ·have hA':((i:Int)<((digs E9 a).length:Int))=True:=by simp;omega
   have hga:=Qam E9_2 hA;by_cases hB:i<(digs E9 b).length
   ·have hB':((i:Int)<((digs E9 b).length:Int))=True:=by simp;omega
    have hgb:=Qam E9_2 hB;have w1:=Qcs (a:=carry E9 a b i) (b:=a/E9^i%E9) (by simp only [E9]at*;omega);have w2:=Qcs (a:=carry E9 a b i+a/E9^i%E9) (b:=b/E9^i%E9) (by simp only [E9]at*;omega);have w3:=wrapn (n:=(carry E9 a b i+a/E9^i%E9+b/E9^i%E9)/1000000000) (by simp only [E9]at*;omega);simp -implicitDefEqProofs only [go_sem,seval,di,List.length_map,hA',hB',h0,Qev,hga,hgb,w1,w2,w3,Qqa,Qqb,hll,Qh8,hb1,hb2,hwi];refine next _ (.inl hA) (Qa0 (θ:=[(7,1004)]) rfl ?_ ?_)
    ·simp [Qah,lkp,ren1,ren0,di,hs2]
    ·simp [Qal,lkp,Box.renames,Qcg,hs1]
   ·have hB':((i:Int)<((digs E9 b).length:Int))=False:=by simp;omega
    have hb0:b/E9^i%E9=0:=by rw [Qa4 E9_2 (Nat.le_of_not_lt hB),Nat.zero_mod]
    rw [hb0,Nat.add_zero]at hs1 hs2;have w1:=Qcs (a:=carry E9 a b i) (b:=a/E9^i%E9) (by simp only [E9]at*;omega);have w3:=wrapn (n:=(carry E9 a b i+a/E9^i%E9)/1000000000) (by simp only [E9]at*;omega);simp -implicitDefEqProofs only [go_sem,seval,di,List.length_map,hA',hB',h0,Qev,hga,w1,w3,Qqa,Qqb,hll,Qh8,hb1,hb2,hwi];refine next _ (.inl hA) (Qa0 (θ:=[(7,1004)]) rfl ?_ ?_)
    ·simp [Qah,lkp,ren1,ren0,di,hs2]
    ·simp [Qal,lkp,Box.renames,Qcg,hs1]
  ·have hA':((i:Int)<((digs E9 a).length:Int))=False:=by simp;omega
   have ha0:a/E9^i%E9=0:=by rw [Qa4 E9_2 (Nat.le_of_not_lt hA),Nat.zero_mod]
   rw [ha0,Nat.add_zero]at hs1 hs2;by_cases hB:i<(digs E9 b).length
   ·have hB':((i:Int)<((digs E9 b).length:Int))=True:=by simp;omega
    have hgb:=Qam E9_2 hB;have w2:=Qcs (a:=carry E9 a b i) (b:=b/E9^i%E9) (by simp only [E9]at*;omega);have w3:=wrapn (n:=(carry E9 a b i+b/E9^i%E9)/1000000000) (by simp only [E9]at*;omega);simp -implicitDefEqProofs only [go_sem,seval,di,List.length_map,hA',hB',h0,Qev,hgb,w2,w3,Qqa,Qqb,hll,Qh8,hb1,hb2,hwi];refine next _ (.inr (.inl hB)) (Qa0 (θ:=[(7,1004)]) rfl ?_ ?_)
    ·simp [Qah,lkp,ren1,ren0,di,hs2]
    ·simp [Qal,lkp,Box.renames,Qcg,hs1]
   ·have hB':((i:Int)<((digs E9 b).length:Int))=False:=by simp;omega
    have hb0:b/E9^i%E9=0:=by rw [Qa4 E9_2 (Nat.le_of_not_lt hB),Nat.zero_mod]
    rw [hb0,Nat.add_zero]at hs1 hs2;by_cases hC:0<carry E9 a b i
    ·have hC':((0:Int)<(carry E9 a b i:Int))=True:=by simp;omega
     have w3:=wrapn (n:=carry E9 a b i/1000000000) (by simp only [E9]at*;omega);simp -implicitDefEqProofs only [go_sem,seval,di,List.length_map,hA',hB',hC',w3,Qqa,Qqb,hll,Qh8,hb1,hb2,hwi];refine next _ (.inr (.inr hC)) (Qa0 (θ:=[(7,1004)]) rfl ?_ ?_)
     ·simp [Qah,lkp,ren1,ren0,di,hs2]
     ·simp [Qal,lkp,Box.renames,Qcg,hs1]
    ·have hC':((0:Int)<(carry E9 a b i:Int))=False:=by simp;omega
     have hlt:=Q2a E9_2 (Nat.le_of_not_lt hA) (Nat.le_of_not_lt hB) (by omega);have hd:=Qjl E9_2 hlt hmore;have htk:((lows E9 (a+b) i).map fI).take i=(lows E9 (a+b) i).map fI:=List.take_of_length_le (by simp [hll]);simp -implicitDefEqProofs only [go_sem,seval,di,List.length_map,hA',hB',hC',hll,htk];rw [hd]
end Go.Proofs.YtapjnenbofmliaaGreatDoor

namespace Go.Dg
section
variable {B:Nat}
def cmpN (a b:Nat):Int:=if a<b then -1 else if b<a then 1 else 0
theorem Qp4 {a b:Nat} (h:a<b):cmpN a b= -1:=by simp [cmpN,h]
theorem Qp5 {a b:Nat} (h:b<a):cmpN a b=1:=by simp [cmpN,h];omega
theorem Qwd (a:Nat):cmpN a a=0:=by simp [cmpN]
theorem Qr7 (hB:2≤B) {a b:Nat} (h:(digs B a).length<(digs B b).length):a<b:=by
 have h1:=Qay hB a;have h2:=(Qbt hB b _).1 h;have h3:=Nat.div_eq_zero_iff (a:=b) (b:=B^(digs B a).length);have:0<B^(digs B a).length:=Nat.pow_pos (by omega);omega
theorem Qf0 (hB:0<B) (a i:Nat):a/B^i=B*(a/B^(i+1))+a/B^i%B:=by
 rw [Nat.pow_succ,←Nat.div_div_eq_div_mul];exact(Nat.div_add_mod _ _).symm
theorem Qgk (hB:0<B) {a b i:Nat} (h:a/B^(i+1)=b/B^(i+1)) (hd:a/B^i%B<b/B^i%B):a<b:=by
 have h1:=Qf0 hB a i;have h2:=Qf0 hB b i;rw [h]at h1;apply Nat.lt_of_not_le;intro hle;have:=Nat.div_le_div_right (c:=B^i) hle;omega
theorem Qlj (hB:0<B) {a b i:Nat} (h:a/B^(i+1)=b/B^(i+1)) (hd:a/B^i%B=b/B^i%B):a/B^i=b/B^i:=by
 rw [Qf0 hB a i,Qf0 hB b i,h,hd]
def bor (B a b i:Nat):Nat:=if a%B^i<b%B^i then 1 else 0
theorem Qmh (a b:Nat):bor B a b 0=0:=by simp [bor,Nat.mod_one]
theorem Qlk (a b i:Nat):bor B a b i≤1:=by unfold bor;split<;>omega
theorem Qwe (hB:0<B) {a b:Nat} (h:b≤a) (i:Nat):(a-b)/B^i+b/B^i+bor B a b i=a/B^i:=by
 have hp:0<B^i:=Nat.pow_pos hB;unfold bor;generalize B^i=P at*;have ha:=Nat.div_add_mod a P;have hb:=Nat.div_add_mod b P;have hm1:=Nat.mod_lt a hp;have hm2:=Nat.mod_lt b hp;have hle:b/P≤a/P:=Nat.div_le_div_right h;generalize a/P=x at*;generalize b/P=y at*;generalize a%P=r at*;generalize b%P=s at*;obtain⟨z,rfl⟩:=Nat.exists_eq_add_of_le hle;rw [Nat.mul_add]at ha;split
 ·rename_i hlt;have hz:z≠0:=by rintro rfl;rw [Nat.mul_zero]at ha;omega
  obtain⟨z',rfl⟩:=Nat.exists_eq_succ_of_ne_zero hz;have e:a-b=(P+r-s)+P*z':=by rw [Nat.mul_succ]at ha;omega
  rw [e,Nat.add_mul_div_left _ _ hp,Nat.div_eq_of_lt (by omega)];omega
 ·rename_i hlt;have e:a-b=(r-s)+P*z:=by omega
  rw [e,Nat.add_mul_div_left _ _ hp,Nat.div_eq_of_lt (by omega)];omega
theorem Qmi (hB:2≤B) {a b:Nat} (h:b≤a) (i:Nat):
  (a-b)/B^i%B+b/B^i%B+bor B a b i=a/B^i%B+B*bor B a b (i+1):=by
 have hB0:0<B:=by omega
 have h1:=Qwe hB0 h i;have h2:=Qwe hB0 h (i+1);have e1:=Qf0 hB0 (a-b) i;have e2:=Qf0 hB0 b i;have e3:=Qf0 hB0 a i;have hm:=Nat.mul_add B ((a-b)/B^(i+1)+b/B^(i+1)) (bor B a b (i+1));have hm2:=Nat.mul_add B ((a-b)/B^(i+1)) (b/B^(i+1));rw [h2]at hm;omega
def mix (B V S n m:Nat):List Nat:=(List.range n).map fun j=>if j<m then V/B^j%B else S/B^j%B
theorem Qa9 (V S n m:Nat):(mix B V S n m).length=n:=by simp [mix]
theorem Qci (V S n m j:Nat) (h:j<n):(mix B V S n m)[j]? =some (if j<m then V/B^j%B else S/B^j%B):=by simp [mix,h]
theorem Qjk (hB:0<B) {V W m j:Nat} (h:V%B^m=W%B^m) (hj:j<m):V/B^j%B=W/B^j%B:=by
 have key: ∀n,n/B^j%B=(n%B^m)/B^j%B:=by
  intro n;have e:B^m=B^j*(B*B^(m-j-1)):=by
   rw [←Nat.mul_assoc,←Nat.pow_succ,←Nat.pow_add];congr 1;omega
  rw [e,Nat.mod_mul_right_div_self,Nat.mod_mul_right_mod]
 rw [key V,key W,h]
theorem Qdi (hB:0<B) {V W S n m d:Nat} (hm:m<n) (h:V%B^m=W%B^m) (hd:W/B^m%B=d):(mix B V S n m).set m d=mix B W S n (m+1):=by
 apply List.ext_getElem?;intro j;rw [List.getElem?_set];by_cases hj:j<n
 ·rw [Qci _ _ _ _ _ hj,Qci _ _ _ _ _ hj,Qa9];by_cases e:m=j
  ·subst e;simp [hj,hd]
  ·simp only [e,if_false];by_cases hlt:j<m
   ·rw [if_pos hlt,if_pos (by omega),Qjk hB h hlt]
   ·rw [if_neg hlt,if_neg (by omega)]
 ·rw [List.getElem?_eq_none (by rw [Qa9];omega),List.getElem?_eq_none (by rw [Qa9];omega),Qa9];simp;omega
theorem Qed {V S n m:Nat} (hB:0<B) (h:V/B^m=S/B^m):mix B V S n m=lows B V n:=by
 apply List.map_congr_left;intro j _;split
 ·rfl
 ·rename_i hj;obtain⟨k,rfl⟩:=Nat.exists_eq_add_of_le (Nat.le_of_not_lt hj);rw [Nat.pow_add,←Nat.div_div_eq_div_mul,←Nat.div_div_eq_div_mul,h]
theorem Qgl (V S n:Nat):mix B V S n 0=lows B S n:=by simp [mix,lows]
def mulV (B S x i b k:Nat):Nat:=S+x*B^i*(b%B^k)
theorem Qn1 (S x i b:Nat):mulV B S x i b 0=S:=by simp [mulV,Nat.mod_one]
theorem Qn2 (S x i b k:Nat):mulV B S x i b (k+1)=mulV B S x i b k+x*(b/B^k%B)*B^(i+k):=by
 unfold mulV;rw [Nat.pow_succ,Nat.mod_mul,Nat.mul_add,Nat.pow_add];have:x*B^i*(B^k*(b/B^k%B))=x*(b/B^k%B)*(B^i*B^k):=by
  simp only [Nat.mul_assoc,Nat.mul_comm,Nat.mul_left_comm]
 rw [this];omega
def mulC (B S x i b k:Nat):Nat:=mulV B S x i b k/B^(i+k)-S/B^(i+k)
theorem Q8v (S x i b k:Nat):S≤mulV B S x i b k:=Nat.le_add_right _ _
theorem Qmj (S x i b k:Nat):mulC B S x i b k+S/B^(i+k)=mulV B S x i b k/B^(i+k):=by
 have:=Nat.div_le_div_right (c:=B^(i+k)) (Q8v (B:=B) S x i b k);unfold mulC;omega
theorem Qn3 (S x i b:Nat):mulC B S x i b 0=0:=by simp [mulC,Qn1]
theorem Qr8 (hB:0<B) (S x i b k:Nat):
  (S/B^(i+k)%B+mulC B S x i b k+x*(b/B^k%B))%B=mulV B S x i b (k+1)/B^(i+k)%B∧
  (S/B^(i+k)%B+mulC B S x i b k+x*(b/B^k%B))/B=mulC B S x i b (k+1):=by
 have hp:0<B^(i+k):=Nat.pow_pos hB;have h1:=Qmj (B:=B) S x i b k;have e1:mulV B S x i b (k+1)/B^(i+k)=(S/B^(i+k)%B+mulC B S x i b k+x*(b/B^k%B))+B*(S/B^(i+k+1)):=by
  rw [Qn2,Nat.add_mul_div_right _ _ hp,←h1];have:=Qf0 hB S (i+k);omega
 constructor
 ·rw [e1,Nat.add_mul_mod_self_left]
 ·have h2:=Qmj (B:=B) S x i b (k+1);have e2:mulV B S x i b (k+1)/B^(i+(k+1))=mulV B S x i b (k+1)/B^(i+k)/B:=by
   rw [Nat.div_div_eq_div_mul,←Nat.pow_succ];rfl
  rw [e1,Nat.add_mul_div_left _ _ hB]at e2;have e3:S/B^(i+(k+1))=S/B^(i+k+1):=rfl;omega
theorem Q19 (S x i b k:Nat):mulV B S x i b k%B^(i+k)=mulV B S x i b (k+1)%B^(i+k):=by
 rw [Qn2,Nat.add_mul_mod_self_right]
theorem Qwf (a i b k:Nat) (hk:b<B^k):mulV B (a%B^i*b) (a/B^i%B) i b k=a%B^(i+1)*b:=by
 unfold mulV;rw [Nat.mod_eq_of_lt hk,Nat.pow_succ,Nat.mod_mul,Nat.add_mul];congr 1;rw [Nat.mul_comm (a/B^i%B)]
theorem Q8w (hB:0<B) {S x i b k:Nat} (hx:x<B):mulC B S x i b k<B:=by
 induction k with
 |zero=>rw [Qn3];exact hB
 |succ k ih=>
  rw [←(Qr8 hB S x i b k).2,Nat.div_lt_iff_lt_mul hB];have h1:S/B^(i+k)%B<B:=Nat.mod_lt _ hB;have h2:b/B^k%B<B:=Nat.mod_lt _ hB;have h3:x*(b/B^k%B)≤(B-1)*(B-1):=Nat.mul_le_mul (by omega) (by omega);have h4:B*B=(B-1)*(B-1)+2*(B-1)+1:=by
   obtain⟨c,rfl⟩: ∃c,B=c+1:=⟨B-1,by omega⟩;simp only [Nat.add_sub_cancel,Nat.add_mul,Nat.mul_add];omega
  omega
end
end Go.Dg

namespace Go.Proofs.YtapjnenbofmliaaGreatDoor
open Go.Vl Go.RowKit Go.Dg
theorem Q2h (a b:Nat) (ha:(digs E9 a).length≤1000000000):Qag Tryz.prog 117 [di (digs E9 a),di (digs E9 b)] (.int .i64 (cmpN a b)):=by
 refine Qae (tb:=[]) 41 [.tmp 4] [0,1,4,5,10,15,20,31,40] mixed Tryz.func117 rfl (by kernel_rfl) (by kernel_rfl) (by kernel_rfl) (by kernel_rfl) ?_;by_cases hl:(digs E9 a).length=(digs E9 b).length
 ·have hl':(((digs E9 a).length:Int) != ((digs E9 b).length:Int))=false:=by simp [hl]
  have hw:IntKind.i64.wrap (((digs E9 a).length:Int)-1)=((digs E9 a).length:Int)-1:=Qaj (by omega) (by omega);simp -implicitDefEqProofs only [go_sem,seval,di,List.length_map,hl',hw];refine Qba mixed (fun i:{i:Nat // i≤(digs E9 a).length∧a/E9^i=b/E9^i}=>St.of [(0,di (digs E9 a)),(1,di (digs E9 b)),(4,.int .i64 0),(5,.int .i64 ((i.1:Int)-1))] []) (fun i=>i.1)
   ⟨(digs E9 a).length,Nat.le_refl _,by rw [Qa4 E9_2 (Nat.le_refl _),hl,Qa4 E9_2 (Nat.le_refl _)]⟩ ?_ ?_
  ·exact Qbn (by simp [Qah,lkp,ren1,ren0,di])
  ·rintro⟨i,hi,he⟩;cases i with
   |zero=>
    have h1:((0:Int)≤((0:Nat):Int)-1)=False:=by simp
    have hab:a=b:=by simpa using he
    subst hab;simp -implicitDefEqProofs only [go_sem,seval,di,h1,Qwd]
   |succ i=>
    have hs:(((i+1:Nat):Int)-1)=(i:Int):=by omega
    have h1:((0:Int)≤(i:Int))=True:=by simp
    have hga:=Qam E9_2 (show i<(digs E9 a).length by omega);have hgb:=Qam E9_2 (show i<(digs E9 b).length by omega);by_cases hlt:a/E9^i%E9<b/E9^i%E9
    ·have h2:(((a/E9^i%E9:Nat):Int)<((b/E9^i%E9:Nat):Int))=True:=by simp only [eq_iff_iff,iff_true];omega
     have hc:=Qp4 (Qgk (by decide) he hlt);simp -implicitDefEqProofs only [go_sem,seval,di,hs,h1,Qev,hga,hgb,h2,hc];exact Qad _ _ (by kernel_rfl)
    ·have h2:(((a/E9^i%E9:Nat):Int)<((b/E9^i%E9:Nat):Int))=False:=by simp only [eq_iff_iff,iff_false];omega
     by_cases hgt:b/E9^i%E9<a/E9^i%E9
     ·have h3:(((b/E9^i%E9:Nat):Int)<((a/E9^i%E9:Nat):Int))=True:=by simp only [eq_iff_iff,iff_true];omega
      have hc:=Qp5 (Qgk (by decide) he.symm hgt);simp -implicitDefEqProofs only [go_sem,seval,di,hs,h1,Qev,hga,hgb,h2,h3,hc];exact⟨Qad _ _ (by kernel_rfl),Qad _ _ (by kernel_rfl)⟩
     ·have h3:(((b/E9^i%E9:Nat):Int)<((a/E9^i%E9:Nat):Int))=False:=by simp only [eq_iff_iff,iff_false];omega
      have hw2:IntKind.i64.wrap ((i:Int)-1)=(i:Int)-1:=Qaj (by omega) (by omega);simp -implicitDefEqProofs only [go_sem,seval,di,hs,h1,Qev,hga,hgb,h2,h3,hw2];refine⟨Qad _ _ (by kernel_rfl),Qad _ _ (by kernel_rfl),⟨i,by omega,Qlj (by decide) he (by omega)⟩,by simp,?_⟩;exact Qbn (by simp [Qah,lkp,ren1,ren0,di])
 ·have hl':(((digs E9 a).length:Int) != ((digs E9 b).length:Int))=true:=by simp;omega
  by_cases hlt:(digs E9 a).length<(digs E9 b).length
  ·have h2:(((digs E9 a).length:Int)<((digs E9 b).length:Int))=True:=by simp;omega
   have hc:=Qp4 (Qr7 E9_2 hlt);simp -implicitDefEqProofs only [go_sem,seval,di,List.length_map,hl',h2,hc]
  ·have h2:(((digs E9 a).length:Int)<((digs E9 b).length:Int))=False:=by simp;omega
   have hc:=Qp5 (Qr7 E9_2 (show(digs E9 b).length<(digs E9 a).length by omega));simp -implicitDefEqProofs only [go_sem,seval,di,List.length_map,hl',h2,hc]
def rI (n:Int):PV:= .agg [.bool (decide (n<0)),di (digs E9 n.natAbs)]
theorem Qhn (neg:Bool) (m:Nat):Qag Tryz.prog 45 [.bool neg,di (digs E9 m)] (rI (if neg then -(m:Int)else m)):=by
 refine Qae (tb:=[]) 13 [.cell 4 32] [0,1,4] mixed Tryz.func45 rfl (by kernel_rfl) (by kernel_rfl) (by kernel_rfl) (by kernel_rfl) ?_;by_cases hm:m=0
 ·subst hm;cases neg
  ·simp -implicitDefEqProofs only [go_sem,Nat.reduceAdd,Nat.reduceMul,Nat.reduceEqDiff,Nat.reduceLT,Nat.reduceLeDiff,reduceCtorEq,di,rI,Qap];simp [Qap]
  ·simp -implicitDefEqProofs only [go_sem,Nat.reduceAdd,Nat.reduceMul,Nat.reduceEqDiff,Nat.reduceLT,Nat.reduceLeDiff,reduceCtorEq,di,rI,Qap];simp [Qap]
 ·have h1:((0:Int)<((digs E9 m).length:Int))=True:=by
   have:=mt (Qa1 E9_2).1 hm;simp only [eq_iff_iff,iff_true];have:=List.length_pos_iff.2 this;omega
  cases neg
  ·simp -implicitDefEqProofs only [go_sem,Nat.reduceAdd,Nat.reduceMul,Nat.reduceEqDiff,Nat.reduceLT,Nat.reduceLeDiff,reduceCtorEq,di,rI];have: ¬((m:Int)<0):=by omega
   simp [this]
  ·simp -implicitDefEqProofs only [go_sem,Nat.reduceAdd,Nat.reduceMul,Nat.reduceEqDiff,Nat.reduceLT,Nat.reduceLeDiff,reduceCtorEq,di,rI,List.length_map,h1];have: -(m:Int)<0:=by omega
   simp only [this,decide_true,Int.natAbs_neg,Int.natAbs_natCast]
theorem Qsd (a b:Nat) (hba:b≤a) (ha:(digs E9 a).length≤1000000000):Qag Tryz.prog 118 [di (digs E9 a),di (digs E9 b)] (di (digs E9 (a-b))):=by
 refine Qae (tb:=[]) 41 [.tmp 4] [0,1,4,5,6,7,8,12,24,32] mixed Tryz.func118 rfl (by kernel_rfl) (by kernel_rfl) (by kernel_rfl) (by kernel_rfl) ?_;simp -implicitDefEqProofs only [go_sem,seval,di];refine Qba mixed (fun i:{i:Nat // i≤(digs E9 a).length}=>St.of [(0,di (digs E9 a)),(1,di (digs E9 b)),(4,.nilS),(5,.bs 7 1 0 i.1),(6,.int .i64 (bor E9 a b i.1:Int)),(7,.int .i64 (i.1:Int))]
  [(7,{els:=(lows E9 (a-b) i.1).map fI,esz:=1,ety:=3,fro:=0,live:=true,arr:=true})]) (fun i=>(digs E9 a).length-i.1) ⟨0,Nat.zero_le _⟩ ?_ ?_
 ·refine Qh5 5 7 1 3 rfl rfl rfl (by decide) [(7,7)] rfl ?_ ?_
  ·simp [Qah,lkp,ren1,ren0,di,Qmh]
  ·simp [Qal,lkp,Box.renames,lows]
 ·rintro⟨i,hi⟩;have h0:(0≤(i:Int))=True:=by simp
  have hll:=Qaf (B:=E9) (a-b) i;have hbl:=Qlk (B:=E9) a b i;have hbl2:=Qlk (B:=E9) a b (i+1);have hst:=Qmi E9_2 hba i;have hda:a/E9^i%E9<E9:=Nat.mod_lt _ (by decide);have hdb:b/E9^i%E9<E9:=Nat.mod_lt _ (by decide);have hdc:(a-b)/E9^i%E9<E9:=Nat.mod_lt _ (by decide);have hb1:((i+1)*8≤140737488355328)=True:=by simp;omega
  have hb2:(i+1≤maxLen)=True:=by simp [maxLen];omega
  have hwi:=Qa5 (a:=i) (by omega);by_cases hA:i<(digs E9 a).length
  ·have hA':((i:Int)<((digs E9 a).length:Int))=True:=by simp;omega
   have hga:=Qam E9_2 hA;have next: ∀s,Le s (St.of [(0,di (digs E9 a)),(1,di (digs E9 b)),(4,.nilS),(5,.bs 7 1 0 (i+1)),(6,.int .i64 (bor E9 a b (i+1):Int)),(7,.int .i64 ((i+1:Nat):Int))]
     [(7,{els:=(lows E9 (a-b) (i+1)).map fI,esz:=1,ety:=3,fro:=0,live:=true,arr:=true})])→
     ∃y:{i:Nat // i≤(digs E9 a).length},(digs E9 a).length-y.1<(digs E9 a).length-i∧
      Le s (St.of [(0,di (digs E9 a)),(1,di (digs E9 b)),(4,.nilS),(5,.bs 7 1 0 y.1),(6,.int .i64 (bor E9 a b y.1:Int)),(7,.int .i64 (y.1:Int))]
       [(7,{els:=(lows E9 (a-b) y.1).map fI,esz:=1,ety:=3,fro:=0,live:=true,arr:=true})]):=
    fun s hle=>⟨⟨i+1,hA⟩,by simp only;omega,hle⟩
   generalize hx:a/E9^i%E9=x at*;generalize hy:b/E9^i%E9=y at*;have hz:(a-b)/E9^i%E9+y+bor E9 a b i=x+E9*bor E9 a b (i+1):=hst;have w1:IntKind.i64.wrap ((x:Int)-(bor E9 a b i:Int))=(x:Int)-(bor E9 a b i:Int):=Qaj (by simp only [E9]at*;omega) (by simp only [E9]at*;omega);have w2:IntKind.i64.wrap ((x:Int)-(bor E9 a b i:Int)-(y:Int))=(x:Int)-(bor E9 a b i:Int)-(y:Int):=Qaj (by simp only [E9]at*;omega) (by simp only [E9]at*;omega);have fin: ∀t:Int,t=(x:Int)-(bor E9 a b i:Int)-(y:Int)→(t<0→bor E9 a b (i+1)=1∧t+1000000000=(((a-b)/E9^i%E9:Nat):Int))∧(¬t<0→bor E9 a b (i+1)=0∧t=(((a-b)/E9^i%E9:Nat):Int)):=by
    intro t ht;simp only [E9]at*;constructor
    ·intro h;constructor<;>omega
    ·intro h;constructor<;>omega
   by_cases hB:i<(digs E9 b).length
   ·have hB':((i:Int)<((digs E9 b).length:Int))=True:=by simp;omega
    have hgb:=Qam E9_2 hB;rw [hy]at hgb;obtain⟨f1,f2⟩:=fin _ rfl;by_cases hn:(x:Int)-(bor E9 a b i:Int)-(y:Int)<0
    ·have hn':((x:Int)-(bor E9 a b i:Int)-(y:Int)<0)=True:=by simp only [eq_iff_iff,iff_true];exact hn
     obtain⟨k1,k2⟩:=f1 hn;have w3:IntKind.i64.wrap ((x:Int)-(bor E9 a b i:Int)-(y:Int)+1000000000)=(((a-b)/E9^i%E9:Nat):Int):=by rw [k2];exact wrapn (by simp only [E9]at*;omega)
     simp -implicitDefEqProofs only [go_sem,seval,di,List.length_map,hA',hB',h0,Qev,hga,hgb,w1,w2,w3,hn',hll,Qh8,hb1,hb2,hwi];refine next _ (Qa0 (θ:=[(7,1203)]) rfl ?_ ?_)
     ·simp [Qah,lkp,ren1,ren0,di,k1]
     ·simp [Qal,lkp,Box.renames,Qcg]
    ·have hn':((x:Int)-(bor E9 a b i:Int)-(y:Int)<0)=False:=by simp only [eq_iff_iff,iff_false];exact hn
     obtain⟨k1,k2⟩:=f2 hn;simp -implicitDefEqProofs only [go_sem,seval,di,List.length_map,hA',hB',h0,Qev,hga,hgb,w1,w2,hn',hll,Qh8,hb1,hb2,hwi];refine next _ (Qa0 (θ:=[(7,1203)]) rfl ?_ ?_)
     ·simp [Qah,lkp,ren1,ren0,di,k1]
     ·simp [Qal,lkp,Box.renames,Qcg,k2]
   ·have hB':((i:Int)<((digs E9 b).length:Int))=False:=by simp;omega
    have hy0:y=0:=by rw [←hy,Qa4 E9_2 (Nat.le_of_not_lt hB),Nat.zero_mod]
    obtain⟨f1,f2⟩:=fin ((x:Int)-(bor E9 a b i:Int)) (by omega);by_cases hn:(x:Int)-(bor E9 a b i:Int)<0
    ·have hn':((x:Int)-(bor E9 a b i:Int)<0)=True:=by simp only [eq_iff_iff,iff_true];exact hn
     obtain⟨k1,k2⟩:=f1 hn;have w3:IntKind.i64.wrap ((x:Int)-(bor E9 a b i:Int)+1000000000)=(((a-b)/E9^i%E9:Nat):Int):=by rw [k2];exact wrapn (by simp only [E9]at*;omega)
     simp -implicitDefEqProofs only [go_sem,seval,di,List.length_map,hA',hB',h0,Qev,hga,w1,w3,hn',hll,Qh8,hb1,hb2,hwi];refine next _ (Qa0 (θ:=[(7,1203)]) rfl ?_ ?_)
     ·simp [Qah,lkp,ren1,ren0,di,k1]
     ·simp [Qal,lkp,Box.renames,Qcg]
    ·have hn':((x:Int)-(bor E9 a b i:Int)<0)=False:=by simp only [eq_iff_iff,iff_false];exact hn
     obtain⟨k1,k2⟩:=f2 hn;simp -implicitDefEqProofs only [go_sem,seval,di,List.length_map,hA',hB',h0,Qev,hga,w1,hn',hll,Qh8,hb1,hb2,hwi];refine next _ (Qa0 (θ:=[(7,1203)]) rfl ?_ ?_)
     ·simp [Qah,lkp,ren1,ren0,di,k1]
     ·simp [Qal,lkp,Box.renames,Qcg,k2]
  ·have hA':((i:Int)<((digs E9 a).length:Int))=False:=by simp;omega
   have htk:((lows E9 (a-b) i).map fI).take i=(lows E9 (a-b) i).map fI:=List.take_of_length_le (by simp [hll]);have hlt:a-b<E9^i:=Nat.lt_of_le_of_lt (Nat.sub_le _ _) ((Qak E9_2 a i).1 (by omega));simp -implicitDefEqProofs only [go_sem,seval,di,List.length_map,hA',hll,htk];refine Qab _ _ _ _ _ _ _ _ _ (Qp9 (lows E9 (a-b) i) (by rw [hll];simp [maxLen];omega)) ?_;simp -implicitDefEqProofs only [go_sem,seval,di];rw [Qbb E9_2,Nat.mod_eq_of_lt hlt]
theorem Zcg (l:List Nat) (i:Nat) (d:Nat):(l.map fI).set i (PV.int .i64 (d:Int))=(l.set i d).map fI:=(List.map_set (f:=fI)).symm
end Go.Proofs.YtapjnenbofmliaaGreatDoor

namespace Go.Vl
open Go.RowKit
theorem Zev (P:Program) (t:TypeId) (xs ys:List PV):Qbd .eql t P (.agg xs) (.agg ys)=match Qc9 P t with
  |some sh=>match Qaw sh xs ys with
   |some b=>some (.bool b)
   |none=>none
  |none=>none:=by
 unfold Qbd;cases Qc9 P t with
 |none=>rfl
 |some sh=>simp only;cases Qaw sh xs ys<;>rfl
theorem Zew (P:Program) (t:TypeId) (xs ys:List PV):Qbd .neq t P (.agg xs) (.agg ys)=match Qc9 P t with
  |some sh=>match Qaw sh xs ys with
   |some b=>some (.bool !b)
   |none=>none
  |none=>none:=by
 unfold Qbd;cases Qc9 P t with
 |none=>rfl
 |some sh=>simp only;cases Qaw sh xs ys<;>rfl
attribute [go_sem] Zev Zew
end Go.Vl
