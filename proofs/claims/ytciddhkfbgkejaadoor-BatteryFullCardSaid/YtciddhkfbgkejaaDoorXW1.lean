/-
  XTy, Dg, XA1, Dn, XA2, Dm, XA3, XA4, XA5, UW, XA6, Bx, XA7, XA8, Dt, XA9, Db, XA10, Bw, XW1 (merged for the claim).
-/
import Derived.Test.YtciddhkfbgkejaaDoorUV
import Derived.Test.YtciddhkfbgkejaaDoorProg
import Derived.Shelf.Spec.BitsCarry
set_option linter.unusedSimpArgs false
set_option linter.unusedVariables false
namespace Go.Proofs.YtciddhkfbgkejaaDoor
open Go.Vl
theorem mixed:Tryd.prog.follows .mixedOrders=true:=by kernel_rfl
theorem Zm7:tyOk Tryd.prog 3=true:=by kernel_rfl
theorem Zjz:Qcc Tryd.prog 3=false:=by kernel_rfl
theorem Qz7:(Tryd.prog.info? 3).isSome=true:=by kernel_rfl
theorem Zc0:Qas Tryd.prog 3=some (1,8):=by kernel_rfl
theorem Q4x:Tryd.prog.cellsOf 3=1:=by kernel_rfl
theorem Zc1:Qa1 Tryd.prog 3=some (PV.int IntKind.i64 0):=by kernel_rfl
theorem Zj0:Tryd.prog.underlying 3=some (.int .i64):=by kernel_rfl
theorem Zm8:tyOk Tryd.prog 4=true:=by kernel_rfl
theorem Zj1:Qcc Tryd.prog 4=false:=by kernel_rfl
theorem Qz8:(Tryd.prog.info? 4).isSome=true:=by kernel_rfl
theorem Zc2:Qas Tryd.prog 4=some (1,1):=by kernel_rfl
theorem Q4y:Tryd.prog.cellsOf 4=1:=by kernel_rfl
theorem Zc3:Qa1 Tryd.prog 4=some (PV.bool Bool.false):=by kernel_rfl
theorem Zc4:Tryd.prog.underlying 4=some .bool:=by kernel_rfl
theorem Zm9:tyOk Tryd.prog 5=true:=by kernel_rfl
theorem Zj2:Qcc Tryd.prog 5=false:=by kernel_rfl
theorem Qz9:(Tryd.prog.info? 5).isSome=true:=by kernel_rfl
theorem Zc5:Qas Tryd.prog 5=some (1,1):=by kernel_rfl
theorem Q4z:Tryd.prog.cellsOf 5=1:=by kernel_rfl
theorem Zc6:Qa1 Tryd.prog 5=some (PV.int IntKind.u8 0):=by kernel_rfl
theorem Zj3:Tryd.prog.underlying 5=some (.int .u8):=by kernel_rfl
theorem Zna:tyOk Tryd.prog 9=true:=by kernel_rfl
theorem Zj4:Qcc Tryd.prog 9=false:=by kernel_rfl
theorem Q0a:(Tryd.prog.info? 9).isSome=true:=by kernel_rfl
theorem Zc7:Qas Tryd.prog 9=some (1,16):=by kernel_rfl
theorem Q40:Tryd.prog.cellsOf 9=1:=by kernel_rfl
theorem Zc8:Qa1 Tryd.prog 9=some (PV.str {data:={toList:=[]}}):=by kernel_rfl
theorem Zag:Tryd.prog.underlying 9=some .string:=by kernel_rfl
theorem Zc9 (s:ByteArray):Qbp Tryd.prog 9 (.str s)=some (.int .i64 s.size):=by simp only [Qbp,Zag]
theorem Zj5:tyOk Tryd.prog 23=true:=by kernel_rfl
theorem Zda:Qcc Tryd.prog 23=true:=by kernel_rfl
theorem Qvs:(Tryd.prog.info? 23).isSome=true:=by kernel_rfl
theorem Q41:Qas Tryd.prog 23=some (5,40):=by kernel_rfl
theorem Q0b:Tryd.prog.cellsOf 23=5:=by kernel_rfl
theorem Q42:Qa1 Tryd.prog 23=some (PV.agg [PV.int IntKind.i64 0,PV.int IntKind.i64 0,PV.int IntKind.i64 0,PV.int IntKind.i64 0,PV.int IntKind.i64 0]):=by kernel_rfl
theorem Q0c:buildable Tryd.prog 23=true:=by kernel_rfl
theorem Zdb:Qau Tryd.prog 23 0=some (0,3,1):=by kernel_rfl
theorem Zdc:Qad Tryd.prog 23 0=some (0,1):=by kernel_rfl
theorem Zdd:Qau Tryd.prog 23 1=some (1,3,1):=by kernel_rfl
theorem Zde:Qad Tryd.prog 23 1=some (1,1):=by kernel_rfl
theorem Zdf:Qau Tryd.prog 23 2=some (2,3,1):=by kernel_rfl
theorem Zdg:Qad Tryd.prog 23 2=some (2,1):=by kernel_rfl
theorem Zdh:Qau Tryd.prog 23 3=some (3,3,1):=by kernel_rfl
theorem Zdi:Qad Tryd.prog 23 3=some (3,1):=by kernel_rfl
theorem Zdj:Qau Tryd.prog 23 4=some (4,3,1):=by kernel_rfl
theorem Zdk:Qad Tryd.prog 23 4=some (4,1):=by kernel_rfl
theorem Zdl:Qci Tryd.prog 23=some [1,1,1,1,1]:=by kernel_rfl
theorem Zj6:tyOk Tryd.prog 24=true:=by kernel_rfl
theorem Zdm:Qcc Tryd.prog 24=false:=by kernel_rfl
theorem Qvt:(Tryd.prog.info? 24).isSome=true:=by kernel_rfl
theorem Q43:Qas Tryd.prog 24=some (1,24):=by kernel_rfl
theorem Q0d:Tryd.prog.cellsOf 24=1:=by kernel_rfl
theorem Q44:Qa1 Tryd.prog 24=some PV.nilS:=by kernel_rfl
theorem Q45:Qbx Tryd.prog 24=some 3:=by kernel_rfl
theorem Qhv:Tryd.prog.underlying 24=some (.slice 3):=by kernel_rfl
theorem Q46 (es:List PV):Qbp Tryd.prog 24 (.slc es)=some (.int .i64 es.length):=by simp only [Qbp,Qhv]
theorem Q47:Qbp Tryd.prog 24 .nilS=some (.int .i64 0):=by simp only [Qbp,Qhv]
theorem Q48 (b e o n:Nat):Qbp Tryd.prog 24 (.bs b e o n)=some (.int .i64 n):=by simp only [Qbp,Qhv]
theorem Zj7:tyOk Tryd.prog 26=true:=by kernel_rfl
theorem Zdn:Qcc Tryd.prog 26=true:=by kernel_rfl
theorem Qvu:(Tryd.prog.info? 26).isSome=true:=by kernel_rfl
theorem Q49:Qas Tryd.prog 26=some (6,96):=by kernel_rfl
theorem Q0e:Tryd.prog.cellsOf 26=6:=by kernel_rfl
theorem Q5a:Qa1 Tryd.prog 26=some (PV.agg [PV.int IntKind.i64 0,PV.int IntKind.i64 0,PV.int IntKind.i64 0,PV.nilS,PV.nilS,PV.nilS]):=by kernel_rfl
theorem Q0f:buildable Tryd.prog 26=true:=by kernel_rfl
theorem Zdo:Qau Tryd.prog 26 0=some (0,3,1):=by kernel_rfl
theorem Zdp:Qad Tryd.prog 26 0=some (0,1):=by kernel_rfl
theorem Zdq:Qau Tryd.prog 26 1=some (1,3,1):=by kernel_rfl
theorem Zdr:Qad Tryd.prog 26 1=some (1,1):=by kernel_rfl
theorem Zds:Qau Tryd.prog 26 2=some (2,3,1):=by kernel_rfl
theorem Zdt:Qad Tryd.prog 26 2=some (2,1):=by kernel_rfl
theorem Zdu:Qau Tryd.prog 26 3=some (3,24,1):=by kernel_rfl
theorem Zdv:Qad Tryd.prog 26 3=some (3,1):=by kernel_rfl
theorem Zdw:Qau Tryd.prog 26 4=some (4,24,1):=by kernel_rfl
theorem Zdx:Qad Tryd.prog 26 4=some (4,1):=by kernel_rfl
theorem Zdy:Qau Tryd.prog 26 5=some (5,24,1):=by kernel_rfl
theorem Zdz:Qad Tryd.prog 26 5=some (5,1):=by kernel_rfl
theorem Zj8:tyOk Tryd.prog 29=true:=by kernel_rfl
theorem Zd0:Qcc Tryd.prog 29=true:=by kernel_rfl
theorem Qvv:(Tryd.prog.info? 29).isSome=true:=by kernel_rfl
theorem Q5b:Qas Tryd.prog 29=some (3,24):=by kernel_rfl
theorem Q0g:Tryd.prog.cellsOf 29=3:=by kernel_rfl
theorem Q5c:Qa1 Tryd.prog 29=some (PV.agg [PV.int IntKind.i64 0,PV.int IntKind.i64 0,PV.int IntKind.i64 0]):=by kernel_rfl
theorem Q0h:buildable Tryd.prog 29=true:=by kernel_rfl
theorem Zd1:Qau Tryd.prog 29 0=some (0,3,1):=by kernel_rfl
theorem Zd2:Qad Tryd.prog 29 0=some (0,1):=by kernel_rfl
theorem Zd3:Qau Tryd.prog 29 1=some (1,3,1):=by kernel_rfl
theorem Zd4:Qad Tryd.prog 29 1=some (1,1):=by kernel_rfl
theorem Zd5:Qau Tryd.prog 29 2=some (2,3,1):=by kernel_rfl
theorem Zd6:Qad Tryd.prog 29 2=some (2,1):=by kernel_rfl
theorem Zd7:Qci Tryd.prog 29=some [1,1,1]:=by kernel_rfl
theorem Zj9:tyOk Tryd.prog 31=true:=by kernel_rfl
theorem Zd8:Qcc Tryd.prog 31=false:=by kernel_rfl
theorem Qvw:(Tryd.prog.info? 31).isSome=true:=by kernel_rfl
theorem Q5d:Qas Tryd.prog 31=some (1,8):=by kernel_rfl
theorem Q0i:Tryd.prog.cellsOf 31=1:=by kernel_rfl
theorem Q5e:Qa1 Tryd.prog 31=some (PV.int IntKind.i64 0):=by kernel_rfl
theorem Zd9:Tryd.prog.underlying 31=some (.int .i64):=by kernel_rfl
theorem Zka:tyOk Tryd.prog 35=true:=by kernel_rfl
theorem Zea:Qcc Tryd.prog 35=false:=by kernel_rfl
theorem Qvx:(Tryd.prog.info? 35).isSome=true:=by kernel_rfl
theorem Q5f:Qas Tryd.prog 35=some (1,24):=by kernel_rfl
theorem Q0j:Tryd.prog.cellsOf 35=1:=by kernel_rfl
theorem Q5g:Qa1 Tryd.prog 35=some PV.nilS:=by kernel_rfl
theorem Q5h:Qbx Tryd.prog 35=some 26:=by kernel_rfl
theorem Qhw:Tryd.prog.underlying 35=some (.slice 26):=by kernel_rfl
theorem Q5i (es:List PV):Qbp Tryd.prog 35 (.slc es)=some (.int .i64 es.length):=by simp only [Qbp,Qhw]
theorem Q5j:Qbp Tryd.prog 35 .nilS=some (.int .i64 0):=by simp only [Qbp,Qhw]
theorem Q5k (b e o n:Nat):Qbp Tryd.prog 35 (.bs b e o n)=some (.int .i64 n):=by simp only [Qbp,Qhw]
theorem Zkb:tyOk Tryd.prog 41=true:=by kernel_rfl
theorem Zeb:Qcc Tryd.prog 41=true:=by kernel_rfl
theorem Qvy:(Tryd.prog.info? 41).isSome=true:=by kernel_rfl
theorem Q5l:Qas Tryd.prog 41=some (3,24):=by kernel_rfl
theorem Q0k:Tryd.prog.cellsOf 41=3:=by kernel_rfl
theorem Q5m:Qa1 Tryd.prog 41=some (PV.agg [PV.int IntKind.i64 0,PV.int IntKind.i64 0,PV.int IntKind.i64 0]):=by kernel_rfl
theorem Zec:Qfe Tryd.prog 41=some (3,3):=by kernel_rfl
theorem Q0l:buildable Tryd.prog 41=true:=by kernel_rfl
theorem Zed:Qad Tryd.prog 41 0=some (0,1):=by kernel_rfl
theorem Zee:Qad Tryd.prog 41 1=some (1,1):=by kernel_rfl
theorem Zef:Qad Tryd.prog 41 2=some (2,1):=by kernel_rfl
theorem Zeg:Qad Tryd.prog 41 3=some (3,1):=by kernel_rfl
theorem Zeh:Qad Tryd.prog 41 4=some (4,1):=by kernel_rfl
theorem Zei:Qad Tryd.prog 41 5=some (5,1):=by kernel_rfl
theorem Zej:Qad Tryd.prog 41 6=some (6,1):=by kernel_rfl
theorem Zek:Qad Tryd.prog 41 7=some (7,1):=by kernel_rfl
theorem Zel:Qad Tryd.prog 41 8=some (8,1):=by kernel_rfl
theorem Zem:Qad Tryd.prog 41 9=some (9,1):=by kernel_rfl
theorem Q5n:Qad Tryd.prog 41 10=some (10,1):=by kernel_rfl
theorem Q5o:Qad Tryd.prog 41 11=some (11,1):=by kernel_rfl
theorem Q5p:Qad Tryd.prog 41 12=some (12,1):=by kernel_rfl
theorem Q5q:Qad Tryd.prog 41 13=some (13,1):=by kernel_rfl
theorem Q5r:Qad Tryd.prog 41 14=some (14,1):=by kernel_rfl
theorem Q5s:Qad Tryd.prog 41 15=some (15,1):=by kernel_rfl
theorem Q5t:Qad Tryd.prog 41 16=some (16,1):=by kernel_rfl
theorem Q5u:Qad Tryd.prog 41 17=some (17,1):=by kernel_rfl
theorem Q5v:Qad Tryd.prog 41 18=some (18,1):=by kernel_rfl
theorem Q5w:Qad Tryd.prog 41 19=some (19,1):=by kernel_rfl
theorem Zkc:tyOk Tryd.prog 46=true:=by kernel_rfl
theorem Zen:Qcc Tryd.prog 46=false:=by kernel_rfl
theorem Qvz:(Tryd.prog.info? 46).isSome=true:=by kernel_rfl
theorem Q5x:Qas Tryd.prog 46=some (1,24):=by kernel_rfl
theorem Q0m:Tryd.prog.cellsOf 46=1:=by kernel_rfl
theorem Q5y:Qa1 Tryd.prog 46=some PV.nilS:=by kernel_rfl
theorem Q5z:Qbx Tryd.prog 46=some 95:=by kernel_rfl
theorem Qhx:Tryd.prog.underlying 46=some (.slice 95):=by kernel_rfl
theorem Q50 (es:List PV):Qbp Tryd.prog 46 (.slc es)=some (.int .i64 es.length):=by simp only [Qbp,Qhx]
theorem Q51:Qbp Tryd.prog 46 .nilS=some (.int .i64 0):=by simp only [Qbp,Qhx]
theorem Q52 (b e o n:Nat):Qbp Tryd.prog 46 (.bs b e o n)=some (.int .i64 n):=by simp only [Qbp,Qhx]
theorem Zkd:tyOk Tryd.prog 52=true:=by kernel_rfl
theorem Zeo:Qcc Tryd.prog 52=true:=by kernel_rfl
theorem Qv0:(Tryd.prog.info? 52).isSome=true:=by kernel_rfl
theorem Q53:Qas Tryd.prog 52=some (2,24):=by kernel_rfl
theorem Q0n:Tryd.prog.cellsOf 52=2:=by kernel_rfl
theorem Q54:Qa1 Tryd.prog 52=some (PV.agg [PV.bool Bool.false,PV.str {data:={toList:=[]}}]):=by kernel_rfl
theorem Q0o:buildable Tryd.prog 52=true:=by kernel_rfl
theorem Zep:Qau Tryd.prog 52 0=some (0,4,1):=by kernel_rfl
theorem Zeq:Qad Tryd.prog 52 0=some (0,1):=by kernel_rfl
theorem Zer:Qau Tryd.prog 52 1=some (1,9,1):=by kernel_rfl
theorem Zes:Qad Tryd.prog 52 1=some (1,1):=by kernel_rfl
theorem Zet:Qci Tryd.prog 52=some [0,2]:=by kernel_rfl
theorem Zke:tyOk Tryd.prog 54=true:=by kernel_rfl
theorem Zeu:Qcc Tryd.prog 54=true:=by kernel_rfl
theorem Qv1:(Tryd.prog.info? 54).isSome=true:=by kernel_rfl
theorem Q55:Qas Tryd.prog 54=some (3,72):=by kernel_rfl
theorem Q0p:Tryd.prog.cellsOf 54=3:=by kernel_rfl
theorem Q56:Qa1 Tryd.prog 54=some (PV.agg [PV.nilS,PV.nilS,PV.nilS]):=by kernel_rfl
theorem Zev:Qfe Tryd.prog 54=some (3,24):=by kernel_rfl
theorem Q0q:buildable Tryd.prog 54=true:=by kernel_rfl
theorem Zew:Qad Tryd.prog 54 0=some (0,1):=by kernel_rfl
theorem Zex:Qad Tryd.prog 54 1=some (1,1):=by kernel_rfl
theorem Zey:Qad Tryd.prog 54 2=some (2,1):=by kernel_rfl
theorem Zez:Qad Tryd.prog 54 3=some (3,1):=by kernel_rfl
theorem Ze0:Qad Tryd.prog 54 4=some (4,1):=by kernel_rfl
theorem Ze1:Qad Tryd.prog 54 5=some (5,1):=by kernel_rfl
theorem Ze2:Qad Tryd.prog 54 6=some (6,1):=by kernel_rfl
theorem Ze3:Qad Tryd.prog 54 7=some (7,1):=by kernel_rfl
theorem Ze4:Qad Tryd.prog 54 8=some (8,1):=by kernel_rfl
theorem Ze5:Qad Tryd.prog 54 9=some (9,1):=by kernel_rfl
theorem Q57:Qad Tryd.prog 54 10=some (10,1):=by kernel_rfl
theorem Q58:Qad Tryd.prog 54 11=some (11,1):=by kernel_rfl
theorem Q59:Qad Tryd.prog 54 12=some (12,1):=by kernel_rfl
theorem Q6a:Qad Tryd.prog 54 13=some (13,1):=by kernel_rfl
theorem Q6b:Qad Tryd.prog 54 14=some (14,1):=by kernel_rfl
theorem Q6c:Qad Tryd.prog 54 15=some (15,1):=by kernel_rfl
theorem Q6d:Qad Tryd.prog 54 16=some (16,1):=by kernel_rfl
theorem Q6e:Qad Tryd.prog 54 17=some (17,1):=by kernel_rfl
theorem Q6f:Qad Tryd.prog 54 18=some (18,1):=by kernel_rfl
theorem Q6g:Qad Tryd.prog 54 19=some (19,1):=by kernel_rfl
theorem Zkf:tyOk Tryd.prog 59=true:=by kernel_rfl
theorem Ze6:Qcc Tryd.prog 59=true:=by kernel_rfl
theorem Qv2:(Tryd.prog.info? 59).isSome=true:=by kernel_rfl
theorem Q6h:Qas Tryd.prog 59=some (4,48):=by kernel_rfl
theorem Q0r:Tryd.prog.cellsOf 59=4:=by kernel_rfl
theorem Q6i:Qa1 Tryd.prog 59=some (PV.agg [PV.bool Bool.false,PV.str {data:={toList:=[]}},PV.bool Bool.false,PV.str {data:={toList:=[]}}]):=by kernel_rfl
theorem Q0s:buildable Tryd.prog 59=true:=by kernel_rfl
theorem Ze7:Qau Tryd.prog 59 0=some (0,52,2):=by kernel_rfl
theorem Ze8:Qad Tryd.prog 59 0=some (0,2):=by kernel_rfl
theorem Ze9:Qau Tryd.prog 59 1=some (2,52,2):=by kernel_rfl
theorem Zfa:Qad Tryd.prog 59 1=some (2,2):=by kernel_rfl
theorem Zfb:Qci Tryd.prog 59=some [0,2,0,2]:=by kernel_rfl
theorem Zkg:tyOk Tryd.prog 64=true:=by kernel_rfl
theorem Zfc:Qcc Tryd.prog 64=true:=by kernel_rfl
theorem Qv3:(Tryd.prog.info? 64).isSome=true:=by kernel_rfl
theorem Q6j:Qas Tryd.prog 64=some (2,32):=by kernel_rfl
theorem Q0t:Tryd.prog.cellsOf 64=2:=by kernel_rfl
theorem Q6k:Qa1 Tryd.prog 64=some (PV.agg [PV.nilS,PV.int IntKind.i64 0]):=by kernel_rfl
theorem Q0u:buildable Tryd.prog 64=true:=by kernel_rfl
theorem Zfd:Qau Tryd.prog 64 0=some (0,24,1):=by kernel_rfl
theorem Zfe:Qad Tryd.prog 64 0=some (0,1):=by kernel_rfl
theorem Zff:Qau Tryd.prog 64 1=some (1,3,1):=by kernel_rfl
theorem Zfg:Qad Tryd.prog 64 1=some (1,1):=by kernel_rfl
theorem Zkh:tyOk Tryd.prog 65=true:=by kernel_rfl
theorem Zfh:Qcc Tryd.prog 65=true:=by kernel_rfl
theorem Qv4:(Tryd.prog.info? 65).isSome=true:=by kernel_rfl
theorem Q6l:Qas Tryd.prog 65=some (6,96):=by kernel_rfl
theorem Q0v:Tryd.prog.cellsOf 65=6:=by kernel_rfl
theorem Q6m:Qa1 Tryd.prog 65=some (PV.agg [PV.nilS,PV.int IntKind.i64 0,PV.nilS,PV.int IntKind.i64 0,PV.nilS,PV.int IntKind.i64 0]):=by kernel_rfl
theorem Zfi:Qfe Tryd.prog 65=some (3,64):=by kernel_rfl
theorem Q0w:buildable Tryd.prog 65=true:=by kernel_rfl
theorem Zfj:Qad Tryd.prog 65 0=some (0,2):=by kernel_rfl
theorem Zfk:Qad Tryd.prog 65 1=some (2,2):=by kernel_rfl
theorem Zfl:Qad Tryd.prog 65 2=some (4,2):=by kernel_rfl
theorem Zfm:Qad Tryd.prog 65 3=some (6,2):=by kernel_rfl
theorem Zfn:Qad Tryd.prog 65 4=some (8,2):=by kernel_rfl
theorem Zfo:Qad Tryd.prog 65 5=some (10,2):=by kernel_rfl
theorem Zfp:Qad Tryd.prog 65 6=some (12,2):=by kernel_rfl
theorem Zfq:Qad Tryd.prog 65 7=some (14,2):=by kernel_rfl
theorem Zfr:Qad Tryd.prog 65 8=some (16,2):=by kernel_rfl
theorem Zfs:Qad Tryd.prog 65 9=some (18,2):=by kernel_rfl
theorem Q6n:Qad Tryd.prog 65 10=some (20,2):=by kernel_rfl
theorem Q6o:Qad Tryd.prog 65 11=some (22,2):=by kernel_rfl
theorem Q6p:Qad Tryd.prog 65 12=some (24,2):=by kernel_rfl
theorem Q6q:Qad Tryd.prog 65 13=some (26,2):=by kernel_rfl
theorem Q6r:Qad Tryd.prog 65 14=some (28,2):=by kernel_rfl
theorem Q6s:Qad Tryd.prog 65 15=some (30,2):=by kernel_rfl
theorem Q6t:Qad Tryd.prog 65 16=some (32,2):=by kernel_rfl
theorem Q6u:Qad Tryd.prog 65 17=some (34,2):=by kernel_rfl
theorem Q6v:Qad Tryd.prog 65 18=some (36,2):=by kernel_rfl
theorem Q6w:Qad Tryd.prog 65 19=some (38,2):=by kernel_rfl
theorem Zki:tyOk Tryd.prog 69=true:=by kernel_rfl
theorem Zft:Qcc Tryd.prog 69=false:=by kernel_rfl
theorem Qv5:(Tryd.prog.info? 69).isSome=true:=by kernel_rfl
theorem Q6x:Qas Tryd.prog 69=some (1,24):=by kernel_rfl
theorem Q0x:Tryd.prog.cellsOf 69=1:=by kernel_rfl
theorem Q6y:Qa1 Tryd.prog 69=some PV.nilS:=by kernel_rfl
theorem Q6z:Qbx Tryd.prog 69=some 29:=by kernel_rfl
theorem Qhy:Tryd.prog.underlying 69=some (.slice 29):=by kernel_rfl
theorem Q60 (es:List PV):Qbp Tryd.prog 69 (.slc es)=some (.int .i64 es.length):=by simp only [Qbp,Qhy]
theorem Q61:Qbp Tryd.prog 69 .nilS=some (.int .i64 0):=by simp only [Qbp,Qhy]
theorem Q62 (b e o n:Nat):Qbp Tryd.prog 69 (.bs b e o n)=some (.int .i64 n):=by simp only [Qbp,Qhy]
theorem Zkj:tyOk Tryd.prog 73=true:=by kernel_rfl
theorem Zfu:Qcc Tryd.prog 73=false:=by kernel_rfl
theorem Qv6:(Tryd.prog.info? 73).isSome=true:=by kernel_rfl
theorem Q63:Qas Tryd.prog 73=some (1,8):=by kernel_rfl
theorem Q0y:Tryd.prog.cellsOf 73=1:=by kernel_rfl
theorem Q64:Qa1 Tryd.prog 73=some (PV.int IntKind.u64 0):=by kernel_rfl
theorem Zfv:Tryd.prog.underlying 73=some (.int .u64):=by kernel_rfl
theorem Zkk:tyOk Tryd.prog 76=true:=by kernel_rfl
theorem Zfw:Qcc Tryd.prog 76=false:=by kernel_rfl
theorem Qv7:(Tryd.prog.info? 76).isSome=true:=by kernel_rfl
theorem Q65:Qas Tryd.prog 76=some (1,24):=by kernel_rfl
theorem Q0z:Tryd.prog.cellsOf 76=1:=by kernel_rfl
theorem Q66:Qa1 Tryd.prog 76=some PV.nilS:=by kernel_rfl
theorem Q67:Qbx Tryd.prog 76=some 73:=by kernel_rfl
theorem Qhz:Tryd.prog.underlying 76=some (.slice 73):=by kernel_rfl
theorem Q68 (es:List PV):Qbp Tryd.prog 76 (.slc es)=some (.int .i64 es.length):=by simp only [Qbp,Qhz]
theorem Q69:Qbp Tryd.prog 76 .nilS=some (.int .i64 0):=by simp only [Qbp,Qhz]
theorem Q7a (b e o n:Nat):Qbp Tryd.prog 76 (.bs b e o n)=some (.int .i64 n):=by simp only [Qbp,Qhz]
theorem Zkl:tyOk Tryd.prog 79=true:=by kernel_rfl
theorem Zfx:Qcc Tryd.prog 79=true:=by kernel_rfl
theorem Qv8:(Tryd.prog.info? 79).isSome=true:=by kernel_rfl
theorem Q7b:Qas Tryd.prog 79=some (2,32):=by kernel_rfl
theorem Q00:Tryd.prog.cellsOf 79=2:=by kernel_rfl
theorem Q7c:Qa1 Tryd.prog 79=some (PV.agg [PV.bool Bool.false,PV.nilS]):=by kernel_rfl
theorem Q01:buildable Tryd.prog 79=true:=by kernel_rfl
theorem Zfy:Qau Tryd.prog 79 0=some (0,4,1):=by kernel_rfl
theorem Zfz:Qad Tryd.prog 79 0=some (0,1):=by kernel_rfl
theorem Zf0:Qau Tryd.prog 79 1=some (1,76,1):=by kernel_rfl
theorem Zf1:Qad Tryd.prog 79 1=some (1,1):=by kernel_rfl
theorem Zkm:tyOk Tryd.prog 81=true:=by kernel_rfl
theorem Zf2:Qcc Tryd.prog 81=true:=by kernel_rfl
theorem Qv9:(Tryd.prog.info? 81).isSome=true:=by kernel_rfl
theorem Q7d:Qas Tryd.prog 81=some (6,48):=by kernel_rfl
theorem Q02:Tryd.prog.cellsOf 81=6:=by kernel_rfl
theorem Q7e:Qa1 Tryd.prog 81=some (PV.agg [PV.int IntKind.i64 0,PV.int IntKind.i64 0,PV.int IntKind.i64 0,PV.int IntKind.i64 0,PV.int IntKind.i64 0,PV.int IntKind.i64 0]):=by kernel_rfl
theorem Zf3:Qfe Tryd.prog 81=some (6,3):=by kernel_rfl
theorem Q03:buildable Tryd.prog 81=true:=by kernel_rfl
theorem Zf4:Qad Tryd.prog 81 0=some (0,1):=by kernel_rfl
theorem Zf5:Qad Tryd.prog 81 1=some (1,1):=by kernel_rfl
theorem Zf6:Qad Tryd.prog 81 2=some (2,1):=by kernel_rfl
theorem Zf7:Qad Tryd.prog 81 3=some (3,1):=by kernel_rfl
theorem Zf8:Qad Tryd.prog 81 4=some (4,1):=by kernel_rfl
theorem Zf9:Qad Tryd.prog 81 5=some (5,1):=by kernel_rfl
theorem Zga:Qad Tryd.prog 81 6=some (6,1):=by kernel_rfl
theorem Zgb:Qad Tryd.prog 81 7=some (7,1):=by kernel_rfl
theorem Zgc:Qad Tryd.prog 81 8=some (8,1):=by kernel_rfl
theorem Zgd:Qad Tryd.prog 81 9=some (9,1):=by kernel_rfl
theorem Q7f:Qad Tryd.prog 81 10=some (10,1):=by kernel_rfl
theorem Q7g:Qad Tryd.prog 81 11=some (11,1):=by kernel_rfl
theorem Q7h:Qad Tryd.prog 81 12=some (12,1):=by kernel_rfl
theorem Q7i:Qad Tryd.prog 81 13=some (13,1):=by kernel_rfl
theorem Q7j:Qad Tryd.prog 81 14=some (14,1):=by kernel_rfl
theorem Q7k:Qad Tryd.prog 81 15=some (15,1):=by kernel_rfl
theorem Q7l:Qad Tryd.prog 81 16=some (16,1):=by kernel_rfl
theorem Q7m:Qad Tryd.prog 81 17=some (17,1):=by kernel_rfl
theorem Q7n:Qad Tryd.prog 81 18=some (18,1):=by kernel_rfl
theorem Q7o:Qad Tryd.prog 81 19=some (19,1):=by kernel_rfl
theorem Zkn:tyOk Tryd.prog 82=true:=by kernel_rfl
theorem Zge:Qcc Tryd.prog 82=true:=by kernel_rfl
theorem Qwa:(Tryd.prog.info? 82).isSome=true:=by kernel_rfl
theorem Q7p:Qas Tryd.prog 82=some (36,288):=by kernel_rfl
theorem Q04:Tryd.prog.cellsOf 82=36:=by kernel_rfl
theorem Q7q:Qa1 Tryd.prog 82=some (PV.agg [PV.int IntKind.i64 0,PV.int IntKind.i64 0,PV.int IntKind.i64 0,PV.int IntKind.i64 0,PV.int IntKind.i64 0,PV.int IntKind.i64 0,PV.int IntKind.i64 0,PV.int IntKind.i64 0,PV.int IntKind.i64 0,PV.int IntKind.i64 0,PV.int IntKind.i64 0,PV.int IntKind.i64 0,PV.int IntKind.i64 0,PV.int IntKind.i64 0,PV.int IntKind.i64 0,PV.int IntKind.i64 0,PV.int IntKind.i64 0,PV.int IntKind.i64 0,PV.int IntKind.i64 0,PV.int IntKind.i64 0,PV.int IntKind.i64 0,PV.int IntKind.i64 0,PV.int IntKind.i64 0,PV.int IntKind.i64 0,PV.int IntKind.i64 0,PV.int IntKind.i64 0,PV.int IntKind.i64 0,PV.int IntKind.i64 0,PV.int IntKind.i64 0,PV.int IntKind.i64 0,PV.int IntKind.i64 0,PV.int IntKind.i64 0,PV.int IntKind.i64 0,PV.int IntKind.i64 0,PV.int IntKind.i64 0,PV.int IntKind.i64 0]):=by kernel_rfl
theorem Zgf:Qfe Tryd.prog 82=some (6,81):=by kernel_rfl
theorem Q05:buildable Tryd.prog 82=true:=by kernel_rfl
theorem Zgg:Qad Tryd.prog 82 0=some (0,6):=by kernel_rfl
theorem Zgh:Qad Tryd.prog 82 1=some (6,6):=by kernel_rfl
theorem Zgi:Qad Tryd.prog 82 2=some (12,6):=by kernel_rfl
theorem Zgj:Qad Tryd.prog 82 3=some (18,6):=by kernel_rfl
theorem Zgk:Qad Tryd.prog 82 4=some (24,6):=by kernel_rfl
theorem Zgl:Qad Tryd.prog 82 5=some (30,6):=by kernel_rfl
theorem Zgm:Qad Tryd.prog 82 6=some (36,6):=by kernel_rfl
theorem Zgn:Qad Tryd.prog 82 7=some (42,6):=by kernel_rfl
theorem Zgo:Qad Tryd.prog 82 8=some (48,6):=by kernel_rfl
theorem Zgp:Qad Tryd.prog 82 9=some (54,6):=by kernel_rfl
theorem Q7r:Qad Tryd.prog 82 10=some (60,6):=by kernel_rfl
theorem Q7s:Qad Tryd.prog 82 11=some (66,6):=by kernel_rfl
theorem Q7t:Qad Tryd.prog 82 12=some (72,6):=by kernel_rfl
theorem Q7u:Qad Tryd.prog 82 13=some (78,6):=by kernel_rfl
theorem Q7v:Qad Tryd.prog 82 14=some (84,6):=by kernel_rfl
theorem Q7w:Qad Tryd.prog 82 15=some (90,6):=by kernel_rfl
theorem Q7x:Qad Tryd.prog 82 16=some (96,6):=by kernel_rfl
theorem Q7y:Qad Tryd.prog 82 17=some (102,6):=by kernel_rfl
theorem Q7z:Qad Tryd.prog 82 18=some (108,6):=by kernel_rfl
theorem Q70:Qad Tryd.prog 82 19=some (114,6):=by kernel_rfl
theorem Zko:tyOk Tryd.prog 86=true:=by kernel_rfl
theorem Zgq:Qcc Tryd.prog 86=true:=by kernel_rfl
theorem Qwb:(Tryd.prog.info? 86).isSome=true:=by kernel_rfl
theorem Q71:Qas Tryd.prog 86=some (4,48):=by kernel_rfl
theorem Q06:Tryd.prog.cellsOf 86=4:=by kernel_rfl
theorem Q72:Qa1 Tryd.prog 86=some (PV.agg [PV.bool Bool.false,PV.str {data:={toList:=[]}},PV.bool Bool.false,PV.str {data:={toList:=[]}}]):=by kernel_rfl
theorem Q07:buildable Tryd.prog 86=true:=by kernel_rfl
theorem Zgr:Qau Tryd.prog 86 0=some (0,52,2):=by kernel_rfl
theorem Zgs:Qad Tryd.prog 86 0=some (0,2):=by kernel_rfl
theorem Zgt:Qau Tryd.prog 86 1=some (2,52,2):=by kernel_rfl
theorem Zgu:Qad Tryd.prog 86 1=some (2,2):=by kernel_rfl
theorem Zgv:Qci Tryd.prog 86=some [0,2,0,2]:=by kernel_rfl
theorem Zkp:tyOk Tryd.prog 90=true:=by kernel_rfl
theorem Zgw:Qcc Tryd.prog 90=false:=by kernel_rfl
theorem Qwc:(Tryd.prog.info? 90).isSome=true:=by kernel_rfl
theorem Q73:Qas Tryd.prog 90=some (1,24):=by kernel_rfl
theorem Q08:Tryd.prog.cellsOf 90=1:=by kernel_rfl
theorem Q74:Qa1 Tryd.prog 90=some PV.nilS:=by kernel_rfl
theorem Q75:Qbx Tryd.prog 90=some 59:=by kernel_rfl
theorem Qh0:Tryd.prog.underlying 90=some (.slice 59):=by kernel_rfl
theorem Q76 (es:List PV):Qbp Tryd.prog 90 (.slc es)=some (.int .i64 es.length):=by simp only [Qbp,Qh0]
theorem Q77:Qbp Tryd.prog 90 .nilS=some (.int .i64 0):=by simp only [Qbp,Qh0]
theorem Q78 (b e o n:Nat):Qbp Tryd.prog 90 (.bs b e o n)=some (.int .i64 n):=by simp only [Qbp,Qh0]
theorem Zkq:tyOk Tryd.prog 95=true:=by kernel_rfl
theorem Zgx:Qcc Tryd.prog 95=true:=by kernel_rfl
theorem Qwd:(Tryd.prog.info? 95).isSome=true:=by kernel_rfl
theorem Q79:Qas Tryd.prog 95=some (11,88):=by kernel_rfl
theorem Q09:Tryd.prog.cellsOf 95=11:=by kernel_rfl
theorem Q8a:Qa1 Tryd.prog 95=some (PV.agg [PV.int IntKind.i64 0,PV.int IntKind.i64 0,PV.int IntKind.i64 0,PV.int IntKind.i64 0,PV.int IntKind.i64 0,PV.int IntKind.i64 0,PV.int IntKind.i64 0,PV.int IntKind.i64 0,PV.int IntKind.i64 0,PV.int IntKind.i64 0,PV.int IntKind.i64 0]):=by kernel_rfl
theorem Q1a:buildable Tryd.prog 95=true:=by kernel_rfl
theorem Zgy:Qau Tryd.prog 95 0=some (0,29,3):=by kernel_rfl
theorem Zgz:Qad Tryd.prog 95 0=some (0,3):=by kernel_rfl
theorem Zg0:Qau Tryd.prog 95 1=some (3,29,3):=by kernel_rfl
theorem Zg1:Qad Tryd.prog 95 1=some (3,3):=by kernel_rfl
theorem Zg2:Qau Tryd.prog 95 2=some (6,3,1):=by kernel_rfl
theorem Zg3:Qad Tryd.prog 95 2=some (6,1):=by kernel_rfl
theorem Zg4:Qau Tryd.prog 95 3=some (7,3,1):=by kernel_rfl
theorem Zg5:Qad Tryd.prog 95 3=some (7,1):=by kernel_rfl
theorem Zg6:Qau Tryd.prog 95 4=some (8,29,3):=by kernel_rfl
theorem Zg7:Qad Tryd.prog 95 4=some (8,3):=by kernel_rfl
theorem Zg8:Qci Tryd.prog 95=some [1,1,1,1,1,1,1,1,1,1,1]:=by kernel_rfl
theorem Zg9:tyOk Tryd.prog 100=true:=by kernel_rfl
theorem Q8b:Qcc Tryd.prog 100=false:=by kernel_rfl
theorem Qrw:(Tryd.prog.info? 100).isSome=true:=by kernel_rfl
theorem Q1b:Qas Tryd.prog 100=some (1,8):=by kernel_rfl
theorem Qwe:Tryd.prog.cellsOf 100=1:=by kernel_rfl
theorem Q1c:Qa1 Tryd.prog 100=some (PV.int IntKind.u64 0):=by kernel_rfl
theorem Q8c:Tryd.prog.underlying 100=some (.int .u64):=by kernel_rfl
theorem Zha:tyOk Tryd.prog 101=true:=by kernel_rfl
theorem Q8d:Qcc Tryd.prog 101=false:=by kernel_rfl
theorem Qrx:(Tryd.prog.info? 101).isSome=true:=by kernel_rfl
theorem Q1d:Qas Tryd.prog 101=some (1,8):=by kernel_rfl
theorem Qwf:Tryd.prog.cellsOf 101=1:=by kernel_rfl
theorem Q1e:Qa1 Tryd.prog 101=some (PV.int IntKind.u64 0):=by kernel_rfl
theorem Q8e:Tryd.prog.underlying 101=some (.int .u64):=by kernel_rfl
theorem Zhb:tyOk Tryd.prog 122=true:=by kernel_rfl
theorem Q8f:Qcc Tryd.prog 122=true:=by kernel_rfl
theorem Qry:(Tryd.prog.info? 122).isSome=true:=by kernel_rfl
theorem Q1f:Qas Tryd.prog 122=some (8,96):=by kernel_rfl
theorem Qwg:Tryd.prog.cellsOf 122=8:=by kernel_rfl
theorem Q1g:Qa1 Tryd.prog 122=some (PV.agg [PV.bool Bool.false,PV.str {data:={toList:=[]}},PV.bool Bool.false,PV.str {data:={toList:=[]}},PV.bool Bool.false,PV.str {data:={toList:=[]}},PV.bool Bool.false,PV.str {data:={toList:=[]}}]):=by kernel_rfl
theorem Qwh:buildable Tryd.prog 122=true:=by kernel_rfl
theorem Q8g:Qau Tryd.prog 122 0=some (0,52,2):=by kernel_rfl
theorem Q8h:Qad Tryd.prog 122 0=some (0,2):=by kernel_rfl
theorem Q8i:Qau Tryd.prog 122 1=some (2,52,2):=by kernel_rfl
theorem Q8j:Qad Tryd.prog 122 1=some (2,2):=by kernel_rfl
theorem Q8k:Qau Tryd.prog 122 2=some (4,52,2):=by kernel_rfl
theorem Q8l:Qad Tryd.prog 122 2=some (4,2):=by kernel_rfl
theorem Q8m:Qau Tryd.prog 122 3=some (6,52,2):=by kernel_rfl
theorem Q8n:Qad Tryd.prog 122 3=some (6,2):=by kernel_rfl
theorem Q8o:Qci Tryd.prog 122=some [0,2,0,2,0,2,0,2]:=by kernel_rfl
theorem Zhc:tyOk Tryd.prog 127=true:=by kernel_rfl
theorem Q8p:Qcc Tryd.prog 127=true:=by kernel_rfl
theorem Qrz:(Tryd.prog.info? 127).isSome=true:=by kernel_rfl
theorem Q1h:Qas Tryd.prog 127=some (6,72):=by kernel_rfl
theorem Qwi:Tryd.prog.cellsOf 127=6:=by kernel_rfl
theorem Q1i:Qa1 Tryd.prog 127=some (PV.agg [PV.bool Bool.false,PV.str {data:={toList:=[]}},PV.bool Bool.false,PV.str {data:={toList:=[]}},PV.bool Bool.false,PV.str {data:={toList:=[]}}]):=by kernel_rfl
theorem Q8q:Qfe Tryd.prog 127=some (3,52):=by kernel_rfl
theorem Qwj:buildable Tryd.prog 127=true:=by kernel_rfl
theorem Q8r:Qad Tryd.prog 127 0=some (0,2):=by kernel_rfl
theorem Q8s:Qad Tryd.prog 127 1=some (2,2):=by kernel_rfl
theorem Q8t:Qad Tryd.prog 127 2=some (4,2):=by kernel_rfl
theorem Q8u:Qad Tryd.prog 127 3=some (6,2):=by kernel_rfl
theorem Q8v:Qad Tryd.prog 127 4=some (8,2):=by kernel_rfl
theorem Q8w:Qad Tryd.prog 127 5=some (10,2):=by kernel_rfl
theorem Q8x:Qad Tryd.prog 127 6=some (12,2):=by kernel_rfl
theorem Q8y:Qad Tryd.prog 127 7=some (14,2):=by kernel_rfl
theorem Q8z:Qad Tryd.prog 127 8=some (16,2):=by kernel_rfl
theorem Q80:Qad Tryd.prog 127 9=some (18,2):=by kernel_rfl
theorem Q1j:Qad Tryd.prog 127 10=some (20,2):=by kernel_rfl
theorem Q1k:Qad Tryd.prog 127 11=some (22,2):=by kernel_rfl
theorem Q1l:Qad Tryd.prog 127 12=some (24,2):=by kernel_rfl
theorem Q1m:Qad Tryd.prog 127 13=some (26,2):=by kernel_rfl
theorem Q1n:Qad Tryd.prog 127 14=some (28,2):=by kernel_rfl
theorem Q1o:Qad Tryd.prog 127 15=some (30,2):=by kernel_rfl
theorem Q1p:Qad Tryd.prog 127 16=some (32,2):=by kernel_rfl
theorem Q1q:Qad Tryd.prog 127 17=some (34,2):=by kernel_rfl
theorem Q1r:Qad Tryd.prog 127 18=some (36,2):=by kernel_rfl
theorem Q1s:Qad Tryd.prog 127 19=some (38,2):=by kernel_rfl
theorem Zhd:tyOk Tryd.prog 132=true:=by kernel_rfl
theorem Q81:Qcc Tryd.prog 132=false:=by kernel_rfl
theorem Qr0:(Tryd.prog.info? 132).isSome=true:=by kernel_rfl
theorem Q1t:Qas Tryd.prog 132=some (1,24):=by kernel_rfl
theorem Qwk:Tryd.prog.cellsOf 132=1:=by kernel_rfl
theorem Q1u:Qa1 Tryd.prog 132=some PV.nilS:=by kernel_rfl
theorem Q1v:Qbx Tryd.prog 132=some 5:=by kernel_rfl
theorem Qge:Tryd.prog.underlying 132=some (.slice 5):=by kernel_rfl
theorem Q1w (es:List PV):Qbp Tryd.prog 132 (.slc es)=some (.int .i64 es.length):=by simp only [Qbp,Qge]
theorem Q1x:Qbp Tryd.prog 132 .nilS=some (.int .i64 0):=by simp only [Qbp,Qge]
theorem Q1y (b e o n:Nat):Qbp Tryd.prog 132 (.bs b e o n)=some (.int .i64 n):=by simp only [Qbp,Qge]
theorem Zhe:tyOk Tryd.prog 141=true:=by kernel_rfl
theorem Q82:Qcc Tryd.prog 141=false:=by kernel_rfl
theorem Qr1:(Tryd.prog.info? 141).isSome=true:=by kernel_rfl
theorem Q1z:Qas Tryd.prog 141=some (1,8):=by kernel_rfl
theorem Qwl:Tryd.prog.cellsOf 141=1:=by kernel_rfl
theorem Q10:Qa1 Tryd.prog 141=some PV.nilF:=by kernel_rfl
theorem Zhf:tyOk Tryd.prog 152=true:=by kernel_rfl
theorem Q83:Qcc Tryd.prog 152=false:=by kernel_rfl
theorem Qr2:(Tryd.prog.info? 152).isSome=true:=by kernel_rfl
theorem Q11:Qas Tryd.prog 152=some (1,4):=by kernel_rfl
theorem Qwm:Tryd.prog.cellsOf 152=1:=by kernel_rfl
theorem Q12:Qa1 Tryd.prog 152=some (PV.int IntKind.u32 0):=by kernel_rfl
theorem Q84:Tryd.prog.underlying 152=some (.int .u32):=by kernel_rfl
theorem Zhg:tyOk Tryd.prog 154=true:=by kernel_rfl
theorem Q85:Qcc Tryd.prog 154=false:=by kernel_rfl
theorem Qr3:(Tryd.prog.info? 154).isSome=true:=by kernel_rfl
theorem Q13:Qas Tryd.prog 154=some (1,16):=by kernel_rfl
theorem Qwn:Tryd.prog.cellsOf 154=1:=by kernel_rfl
theorem Q14:Qa1 Tryd.prog 154=some PV.nilI:=by kernel_rfl
theorem Zhh:tyOk Tryd.prog 156=true:=by kernel_rfl
theorem Q86:Qcc Tryd.prog 156=true:=by kernel_rfl
theorem Qr4:(Tryd.prog.info? 156).isSome=true:=by kernel_rfl
theorem Q15:Qas Tryd.prog 156=some (64,64):=by kernel_rfl
theorem Qwo:Tryd.prog.cellsOf 156=64:=by kernel_rfl
theorem Q16:Qa1 Tryd.prog 156=some (PV.agg [PV.int IntKind.u8 0,PV.int IntKind.u8 0,PV.int IntKind.u8 0,PV.int IntKind.u8 0,PV.int IntKind.u8 0,PV.int IntKind.u8 0,PV.int IntKind.u8 0,PV.int IntKind.u8 0,PV.int IntKind.u8 0,PV.int IntKind.u8 0,PV.int IntKind.u8 0,PV.int IntKind.u8 0,PV.int IntKind.u8 0,PV.int IntKind.u8 0,PV.int IntKind.u8 0,PV.int IntKind.u8 0,PV.int IntKind.u8 0,PV.int IntKind.u8 0,PV.int IntKind.u8 0,PV.int IntKind.u8 0,PV.int IntKind.u8 0,PV.int IntKind.u8 0,PV.int IntKind.u8 0,PV.int IntKind.u8 0,PV.int IntKind.u8 0,PV.int IntKind.u8 0,PV.int IntKind.u8 0,PV.int IntKind.u8 0,PV.int IntKind.u8 0,PV.int IntKind.u8 0,PV.int IntKind.u8 0,PV.int IntKind.u8 0,PV.int IntKind.u8 0,PV.int IntKind.u8 0,PV.int IntKind.u8 0,PV.int IntKind.u8 0,PV.int IntKind.u8 0,PV.int IntKind.u8 0,PV.int IntKind.u8 0,PV.int IntKind.u8 0,PV.int IntKind.u8 0,PV.int IntKind.u8 0,PV.int IntKind.u8 0,PV.int IntKind.u8 0,PV.int IntKind.u8 0,PV.int IntKind.u8 0,PV.int IntKind.u8 0,PV.int IntKind.u8 0,PV.int IntKind.u8 0,PV.int IntKind.u8 0,PV.int IntKind.u8 0,PV.int IntKind.u8 0,PV.int IntKind.u8 0,PV.int IntKind.u8 0,PV.int IntKind.u8 0,PV.int IntKind.u8 0,PV.int IntKind.u8 0,PV.int IntKind.u8 0,PV.int IntKind.u8 0,PV.int IntKind.u8 0,PV.int IntKind.u8 0,PV.int IntKind.u8 0,PV.int IntKind.u8 0,PV.int IntKind.u8 0]):=by kernel_rfl
theorem Q87:Qfe Tryd.prog 156=some (64,5):=by kernel_rfl
theorem Qwp:buildable Tryd.prog 156=true:=by kernel_rfl
theorem Q88:Qad Tryd.prog 156 0=some (0,1):=by kernel_rfl
theorem Q89:Qad Tryd.prog 156 1=some (1,1):=by kernel_rfl
theorem Q9a:Qad Tryd.prog 156 2=some (2,1):=by kernel_rfl
theorem Q9b:Qad Tryd.prog 156 3=some (3,1):=by kernel_rfl
theorem Q9c:Qad Tryd.prog 156 4=some (4,1):=by kernel_rfl
theorem Q9d:Qad Tryd.prog 156 5=some (5,1):=by kernel_rfl
theorem Q9e:Qad Tryd.prog 156 6=some (6,1):=by kernel_rfl
theorem Q9f:Qad Tryd.prog 156 7=some (7,1):=by kernel_rfl
theorem Q9g:Qad Tryd.prog 156 8=some (8,1):=by kernel_rfl
theorem Q9h:Qad Tryd.prog 156 9=some (9,1):=by kernel_rfl
theorem Q17:Qad Tryd.prog 156 10=some (10,1):=by kernel_rfl
theorem Q18:Qad Tryd.prog 156 11=some (11,1):=by kernel_rfl
theorem Q19:Qad Tryd.prog 156 12=some (12,1):=by kernel_rfl
theorem Q2a:Qad Tryd.prog 156 13=some (13,1):=by kernel_rfl
theorem Q2b:Qad Tryd.prog 156 14=some (14,1):=by kernel_rfl
theorem Q2c:Qad Tryd.prog 156 15=some (15,1):=by kernel_rfl
theorem Q2d:Qad Tryd.prog 156 16=some (16,1):=by kernel_rfl
theorem Q2e:Qad Tryd.prog 156 17=some (17,1):=by kernel_rfl
theorem Q2f:Qad Tryd.prog 156 18=some (18,1):=by kernel_rfl
theorem Q2g:Qad Tryd.prog 156 19=some (19,1):=by kernel_rfl
attribute [go_sem] Zm7 Zjz Qz7 Zc0 Q4x Zc1 Zj0 Zm8 Zj1 Qz8 Zc2 Q4y Zc3 Zc4 Zm9 Zj2
attribute [go_sem] Qz9 Zc5 Q4z Zc6 Zj3 Zna Zj4 Q0a Zc7 Q40 Zc8 Zag Zc9 Zj5 Zda Qvs
attribute [go_sem] Q41 Q0b Q42 Q0c Zdb Zdc Zdd Zde Zdf Zdg Zdh Zdi Zdj Zdk Zdl Zj6
attribute [go_sem] Zdm Qvt Q43 Q0d Q44 Q45 Qhv Q46 Q47 Q48 Zj7 Zdn Qvu Q49 Q0e Q5a
attribute [go_sem] Q0f Zdo Zdp Zdq Zdr Zds Zdt Zdu Zdv Zdw Zdx Zdy Zdz Zj8 Zd0 Qvv
attribute [go_sem] Q5b Q0g Q5c Q0h Zd1 Zd2 Zd3 Zd4 Zd5 Zd6 Zd7 Zj9 Zd8 Qvw Q5d Q0i
attribute [go_sem] Q5e Zd9 Zka Zea Qvx Q5f Q0j Q5g Q5h Qhw Q5i Q5j Q5k Zkb Zeb Qvy
attribute [go_sem] Q5l Q0k Q5m Zec Q0l Zed Zee Zef Zeg Zeh Zei Zej Zek Zel Zem Q5n
attribute [go_sem] Q5o Q5p Q5q Q5r Q5s Q5t Q5u Q5v Q5w Zkc Zen Qvz Q5x Q0m Q5y Q5z
attribute [go_sem] Qhx Q50 Q51 Q52 Zkd Zeo Qv0 Q53 Q0n Q54 Q0o Zep Zeq Zer Zes Zet
attribute [go_sem] Zke Zeu Qv1 Q55 Q0p Q56 Zev Q0q Zew Zex Zey Zez Ze0 Ze1 Ze2 Ze3
attribute [go_sem] Ze4 Ze5 Q57 Q58 Q59 Q6a Q6b Q6c Q6d Q6e Q6f Q6g Zkf Ze6 Qv2 Q6h
attribute [go_sem] Q0r Q6i Q0s Ze7 Ze8 Ze9 Zfa Zfb Zkg Zfc Qv3 Q6j Q0t Q6k Q0u Zfd
attribute [go_sem] Zfe Zff Zfg Zkh Zfh Qv4 Q6l Q0v Q6m Zfi Q0w Zfj Zfk Zfl Zfm Zfn
attribute [go_sem] Zfo Zfp Zfq Zfr Zfs Q6n Q6o Q6p Q6q Q6r Q6s Q6t Q6u Q6v Q6w Zki
attribute [go_sem] Zft Qv5 Q6x Q0x Q6y Q6z Qhy Q60 Q61 Q62 Zkj Zfu Qv6 Q63 Q0y Q64
attribute [go_sem] Zfv Zkk Zfw Qv7 Q65 Q0z Q66 Q67 Qhz Q68 Q69 Q7a Zkl Zfx Qv8 Q7b
attribute [go_sem] Q00 Q7c Q01 Zfy Zfz Zf0 Zf1 Zkm Zf2 Qv9 Q7d Q02 Q7e Zf3 Q03 Zf4
attribute [go_sem] Zf5 Zf6 Zf7 Zf8 Zf9 Zga Zgb Zgc Zgd Q7f Q7g Q7h Q7i Q7j Q7k Q7l
attribute [go_sem] Q7m Q7n Q7o Zkn Zge Qwa Q7p Q04 Q7q Zgf Q05 Zgg Zgh Zgi Zgj Zgk
attribute [go_sem] Zgl Zgm Zgn Zgo Zgp Q7r Q7s Q7t Q7u Q7v Q7w Q7x Q7y Q7z Q70 Zko
attribute [go_sem] Zgq Qwb Q71 Q06 Q72 Q07 Zgr Zgs Zgt Zgu Zgv Zkp Zgw Qwc Q73 Q08
attribute [go_sem] Q74 Q75 Qh0 Q76 Q77 Q78 Zkq Zgx Qwd Q79 Q09 Q8a Q1a Zgy Zgz Zg0
attribute [go_sem] Zg1 Zg2 Zg3 Zg4 Zg5 Zg6 Zg7 Zg8 Zg9 Q8b Qrw Q1b Qwe Q1c Q8c Zha
attribute [go_sem] Q8d Qrx Q1d Qwf Q1e Q8e Zhb Q8f Qry Q1f Qwg Q1g Qwh Q8g Q8h Q8i
attribute [go_sem] Q8j Q8k Q8l Q8m Q8n Q8o Zhc Q8p Qrz Q1h Qwi Q1i Q8q Qwj Q8r Q8s
attribute [go_sem] Q8t Q8u Q8v Q8w Q8x Q8y Q8z Q80 Q1j Q1k Q1l Q1m Q1n Q1o Q1p Q1q
attribute [go_sem] Q1r Q1s Zhd Q81 Qr0 Q1t Qwk Q1u Q1v Qge Q1w Q1x Q1y Zhe Q82 Qr1
attribute [go_sem] Q1z Qwl Q10 Zhf Q83 Qr2 Q11 Qwm Q12 Q84 Zhg Q85 Qr3 Q13 Qwn Q14
attribute [go_sem] Zhh Q86 Qr4 Q15
attribute [go_sem] Qwo Q16 Q87 Qwp Q88 Q89 Q9a Q9b Q9c Q9d Q9e Q9f Q9g Q9h Q17 Q18
attribute [go_sem] Q19 Q2a Q2b Q2c Q2d Q2e Q2f Q2g
end Go.Proofs.YtciddhkfbgkejaaDoor

namespace Go.Dg
def digs (B n:Nat):List Nat:=if h:n=0∨B<2 then []else n%B::digs B (n/B)
termination_by n
decreasing_by
 simp only [not_or,Nat.not_lt]at h
 exact Nat.div_lt_self (Nat.pos_of_ne_zero h.1) h.2
def val (B:Nat):List Nat→Nat
 | []=>0
 |d::l=>d+B*val B l
section
variable {B:Nat}
theorem Qa8:digs B 0=[]:=by unfold digs;simp
theorem Qfk (hB:2≤B) {n:Nat} (hn:n≠0):digs B n=n%B::digs B (n/B):=by
 conv=>lhs;unfold digs
 rw [dif_neg]
 simp only [not_or,Nat.not_lt]
 exact⟨hn,hB⟩
theorem Qsk (hB:2≤B) (n:Nat):val B (digs B n)=n:=by
 induction n using Nat.strongRecOn with
 |_ n ih=>
  by_cases hn:n=0
  ·subst hn;rw [Qa8];rfl
  ·rw [Qfk hB hn]
   simp only [val]
   rw [ih _ (Nat.div_lt_self (Nat.pos_of_ne_zero hn) hB)]
   exact Nat.mod_add_div n B
theorem Qm2 (hB:2≤B) (n k:Nat):(digs B n)[k]? =if n/B^k=0 then none else some (n/B^k%B):=by
 induction k generalizing n with
 |zero=>
  by_cases hn:n=0
  ·subst hn;simp [Qa8]
  ·rw [Qfk hB hn];simp [hn]
 |succ k ih=>
  by_cases hn:n=0
  ·subst hn;simp [Qa8]
  ·rw [Qfk hB hn,List.getElem?_cons_succ,ih]
   have:n/B/B^k=n/B^(k+1):=by rw [Nat.div_div_eq_div_mul,Nat.pow_succ,Nat.mul_comm]
   rw [this]
theorem Qcq (hB:2≤B) (n k:Nat):k<(digs B n).length↔n/B^k≠0:=by
 have:=Qm2 hB n k
 constructor
 ·intro h hz
  rw [if_pos hz,List.getElem?_eq_none_iff]at this
  omega
 ·intro h
  rw [if_neg h]at this
  exact(List.getElem?_eq_some_iff.1 this).1
theorem Qam (hB:2≤B) (n k:Nat):(digs B n).length≤k↔n<B^k:=by
 have h:=Qcq hB n k
 have hp:0<B^k:=Nat.pow_pos (by omega)
 rw [←Nat.not_lt,h,Decidable.not_not,Nat.div_eq_zero_iff]
 omega
theorem Qa0 (hB:2≤B) (n:Nat):n<B^(digs B n).length:=(Qam hB n _).1 (Nat.le_refl _)
theorem Qaq (hB:2≤B) {n k:Nat} (h:k<(digs B n).length):(digs B n)[k]? =some (n/B^k%B):=by
 rw [Qm2 hB,if_neg ((Qcq hB n k).1 h)]
theorem Qql (hB:2≤B) {n d:Nat} (h:d∈digs B n):d<B:=by
 obtain⟨k,hk⟩:=List.mem_iff_getElem?.1 h
 rw [Qm2 hB]at hk
 split at hk
 ·cases hk
 ·cases hk;exact Nat.mod_lt _ (by omega)
theorem Qb5 (hB:2≤B) {n k:Nat} (h:(digs B n).length≤k):n/B^k=0:=by
 have:=(Qam hB n k).1 h
 exact Nat.div_eq_of_lt this
theorem Qbg (hB:2≤B) {n:Nat}:digs B n=[]↔n=0:=by
 constructor
 ·intro h;have:=Qsk hB n;rw [h]at this;exact this.symm
 ·rintro rfl;exact Qa8
def lows (B n i:Nat):List Nat:=(List.range i).map fun k=>n/B^k%B
theorem Qah (n i:Nat):(lows B n i).length=i:=by simp [lows]
theorem Qbn (n i k:Nat) (h:k<i):(lows B n i)[k]? =some (n/B^k%B):=by simp [lows,h]
theorem Qon (n i:Nat):lows B n (i+1)=n%B::lows B (n/B) i:=by
 simp only [lows,List.range_succ_eq_map,List.map_cons,Nat.pow_zero,Nat.div_one,List.map_map]
 congr 1
 apply List.map_congr_left
 intro k _
 simp only [Function.comp,Nat.succ_eq_add_one]
 rw [Nat.div_div_eq_div_mul,Nat.pow_succ,Nat.mul_comm]
theorem Q26 (hB:0<B) (n i:Nat):val B (lows B n i)=n%B^i:=by
 induction i generalizing n with
 |zero=>simp [lows,val,Nat.mod_one]
 |succ i ih=>
  rw [Qon]
  simp only [val]
  rw [ih,Nat.pow_succ,Nat.mul_comm (B^i) B,Nat.mod_mul]
theorem Qg6 (hB:2≤B) (n:Nat):lows B n (digs B n).length=digs B n:=by
 apply List.ext_getElem?
 intro k
 by_cases hk:k<(digs B n).length
 ·rw [Qbn _ _ _ hk,Qaq hB hk]
 ·rw [List.getElem?_eq_none (by rw [Qah];omega),List.getElem?_eq_none (by omega)]
def Qfd (l:List Nat):List Nat:=(l.reverse.dropWhile (· ==0)).reverse
theorem Qd0 (l:List Nat):Qfd (l++[0])=Qfd l:=by simp [Qfd]
theorem Qh5 (l:List Nat) {d:Nat} (h:d≠0):Qfd (l++[d])=l++[d]:=by simp [Qfd,h]
theorem Qxd:Qfd []=[]:=rfl
theorem Ql0 (l m:List Nat):val B (l++m)=val B l+B^l.length*val B m:=by
 induction l with
 |nil=>simp [val]
 |cons d l ih=>
  simp only [List.cons_append,val,ih,List.length_cons,Nat.pow_succ]
  rw [Nat.mul_add,Nat.add_assoc,←Nat.mul_assoc,Nat.mul_comm B (B^l.length)]
theorem Zh7 (hB:0<B) {l:List Nat} (h: ∀d∈l,d<B):val B l<B^l.length:=by
 induction l with
 |nil=>simp [val]
 |cons d l ih=>
  have h1:=ih fun x hx=>h x (by simp [hx])
  have h2:=h d (by simp)
  simp only [val,List.length_cons,Nat.pow_succ]
  have:B*val B l+B≤B*B^l.length:=by rw [←Nat.mul_succ];exact Nat.mul_le_mul_left _ h1
  rw [Nat.mul_comm (B^l.length)]
  omega
theorem Q27 (hB:2≤B) {l:List Nat} (h: ∀d∈l,d<B):lows B (val B l) l.length=l:=by
 induction l with
 |nil=>rfl
 |cons d l ih=>
  have h2:=h d (by simp)
  rw [List.length_cons,Qon]
  simp only [val]
  rw [Nat.add_mul_mod_self_left,Nat.mod_eq_of_lt h2,Nat.add_mul_div_left _ _ (by omega),Nat.div_eq_of_lt h2,Nat.zero_add,ih fun x hx=>h x (by simp [hx])]
theorem Qsl (hB:2≤B) (l:List Nat) (h: ∀d∈l,d<B):Qfd l=digs B (val B l):=by
 have key: ∀n,∀l:List Nat,l.length=n→(∀d∈l,d<B)→Qfd l=digs B (val B l):=by
  intro n
  induction n with
  |zero=>intro l hl _;rw [List.length_eq_zero_iff.1 hl];simp [Qxd,val,Qa8]
  |succ n ih=>
   intro l hl h
   have hne:l≠ []:=by rintro rfl;simp at hl
   have hcut:=List.dropLast_concat_getLast hne
   generalize l.dropLast=m at hcut
   generalize l.getLast hne=d at hcut
   subst hcut
   have hm:m.length=n:=by simpa using hl
   have hmd: ∀x∈m,x<B:=fun x hx=>h x (by simp [hx])
   by_cases hd:d=0
   ·subst hd
    rw [Qd0,ih m hm hmd,Ql0]
    simp [val]
   ·rw [Qh5 m hd]
    have hlen:(digs B (val B (m++[d]))).length=(m++[d]).length:=by
     apply Nat.le_antisymm
     ·exact(Qam hB _ _).2 (Zh7 (by omega) h)
     ·have:(m++[d]).length=m.length+1:=by simp
      rw [this]
      apply (Qcq hB _ _).2
      rw [Ql0]
      simp only [val,Nat.mul_zero,Nat.add_zero]
      rw [Nat.add_mul_div_left _ _ (Nat.pow_pos (by omega))]
      exact fun e=>hd (Nat.eq_zero_of_add_eq_zero_left e)
    have:=Qg6 hB (val B (m++[d]))
    rw [hlen,Q27 hB h]at this
    exact this
 exact key l.length l rfl h
theorem Qbu (hB:2≤B) (n i:Nat):Qfd (lows B n i)=digs B (n%B^i):=by
 rw [Qsl hB,Q26 (by omega)]
 intro d hd
 simp only [lows,List.mem_map]at hd
 obtain⟨k,_,rfl⟩:=hd
 exact Nat.mod_lt _ (by omega)
end
end Go.Dg

namespace Go.Proofs.YtciddhkfbgkejaaDoor
open Go.Vl Go.RowKit Go.Dg
theorem wrapn {n:Nat} (h:n<9223372036854775808):IntKind.i64.wrap (n:Int)=n:=Qai (by omega) (by omega)
theorem Qpw {n:Nat} (h:n<9223372036854775808):IntKind.i64.wrap (((n+1:Nat):Int)-1)=(n:Int):=by
 rw [Qai (by omega) (by omega)];omega
theorem Qk2:maxLen<9223372036854775808:=by simp [maxLen]
end Go.Proofs.YtciddhkfbgkejaaDoor

namespace Go.Dg
section
variable {B:Nat}
def carry (B a b i:Nat):Nat:=(a%B^i+b%B^i)/B^i
theorem Ql2 (a b:Nat):carry B a b 0=0:=by simp [carry,Nat.mod_one]
theorem Qsq (hB:0<B) (a b i:Nat):carry B a b i≤1:=by
 have hp:0<B^i:=Nat.pow_pos hB
 have h1:=Nat.mod_lt a hp
 have h2:=Nat.mod_lt b hp
 unfold carry
 rw [Nat.div_le_iff_le_mul hp]
 omega
theorem Qsr (hB:0<B) (a b i:Nat):(a/B^i%B+b/B^i%B+carry B a b i)%B=(a+b)/B^i%B∧(a/B^i%B+b/B^i%B+carry B a b i)/B=carry B a b (i+1):=by
 have hp:0<B^i:=Nat.pow_pos hB
 unfold carry
 generalize hP:B^i=P at*
 have e1:(a+b)/P=a/P+b/P+(a%P+b%P)/P:=by
  conv=>lhs;rw [←Nat.div_add_mod a P,←Nat.div_add_mod b P]
  have:P*(a/P)+a%P+(P*(b/P)+b%P)=(a%P+b%P)+P*(a/P+b/P):=by rw [Nat.mul_add];omega
  rw [this,Nat.add_mul_div_left _ _ hp]
  omega
 constructor
 ·rw [e1]
  conv=>rhs;rw [Nat.add_mod,Nat.add_mod (a/P)]
  conv=>lhs;rw [Nat.add_mod,Nat.add_mod (a/P%B)]
  simp
 ·have hP1:B^(i+1)=P*B:=by rw [Nat.pow_succ,hP]
  rw [hP1,Nat.mod_mul,Nat.mod_mul]
  have:a%P+P*(a/P%B)+(b%P+P*(b/P%B))=(a%P+b%P)+P*(a/P%B+b/P%B):=by rw [Nat.mul_add];omega
  rw [this,←Nat.div_div_eq_div_mul,Nat.add_mul_div_left _ _ hp]
  congr 1
  omega
theorem Qxg (hB:2≤B) {n i:Nat} (h1:n<B^i) (h2: ∀j,j<i→n/B^j≠0):lows B n i=digs B n:=by
 have hl:(digs B n).length=i:=by
  apply Nat.le_antisymm ((Qam hB n i).2 h1)
  rcases Nat.eq_zero_or_pos i with rfl|hi
  ·exact Nat.zero_le _
  ·have:=(Qcq hB n (i-1)).2 (h2 (i-1) (by omega))
   omega
 rw [←hl,Qg6 hB]
end
end Go.Dg

namespace Go.Proofs.YtciddhkfbgkejaaDoor
open Go.Vl Go.RowKit Go.Dg
theorem Qgb {a b:Nat} (h:a+b<9223372036854775808):IntKind.i64.wrap ((a:Int)+(b:Int))=((a+b:Nat):Int):=by
 rw [Qai (by omega) (by omega)];omega
theorem Qal {a:Nat} (h:a+1<9223372036854775808):IntKind.i64.wrap ((a:Int)+1)=((a+1:Nat):Int):=by
 rw [Qai (by omega) (by omega)];omega
end Go.Proofs.YtciddhkfbgkejaaDoor

namespace Go.Dg
section
variable {B:Nat}
def cmpN (a b:Nat):Int:=if a<b then -1 else if b<a then 1 else 0
theorem Za6 {a b:Nat} (h:a<b):cmpN a b= -1:=by simp [cmpN,h]
theorem Za7 {a b:Nat} (h:b<a):cmpN a b=1:=by simp [cmpN,h];omega
theorem Za8 (a:Nat):cmpN a a=0:=by simp [cmpN]
theorem Q90 (hB:2≤B) {a b:Nat} (h:(digs B a).length<(digs B b).length):a<b:=by
 have h1:=Qa0 hB a
 have h2:=(Qcq hB b _).1 h
 have h3:=Nat.div_eq_zero_iff (a:=b) (b:=B^(digs B a).length)
 have:0<B^(digs B a).length:=Nat.pow_pos (by omega)
 omega
theorem Qg7 (hB:0<B) (a i:Nat):a/B^i=B*(a/B^(i+1))+a/B^i%B:=by
 rw [Nat.pow_succ,←Nat.div_div_eq_div_mul]
 exact(Nat.div_add_mod _ _).symm
theorem Qoo (hB:0<B) {a b i:Nat} (h:a/B^(i+1)=b/B^(i+1)) (hd:a/B^i%B<b/B^i%B):a<b:=by
 have h1:=Qg7 hB a i
 have h2:=Qg7 hB b i
 rw [h]at h1
 apply Nat.lt_of_not_le
 intro hle
 have:=Nat.div_le_div_right (c:=B^i) hle
 omega
theorem Qud (hB:0<B) {a b i:Nat} (h:a/B^(i+1)=b/B^(i+1)) (hd:a/B^i%B=b/B^i%B):a/B^i=b/B^i:=by
 rw [Qg7 hB a i,Qg7 hB b i,h,hd]
def bor (B a b i:Nat):Nat:=if a%B^i<b%B^i then 1 else 0
theorem Qsm (a b:Nat):bor B a b 0=0:=by simp [bor,Nat.mod_one]
theorem Qsn (a b i:Nat):bor B a b i≤1:=by unfold bor;split<;>omega
theorem Qxe (hB:0<B) {a b:Nat} (h:b≤a) (i:Nat):(a-b)/B^i+b/B^i+bor B a b i=a/B^i:=by
 have hp:0<B^i:=Nat.pow_pos hB
 unfold bor
 generalize B^i=P at*
 have ha:=Nat.div_add_mod a P
 have hb:=Nat.div_add_mod b P
 have hm1:=Nat.mod_lt a hp
 have hm2:=Nat.mod_lt b hp
 have hle:b/P≤a/P:=Nat.div_le_div_right h
 generalize a/P=x at*
 generalize b/P=y at*
 generalize a%P=r at*
 generalize b%P=s at*
 obtain⟨z,rfl⟩:=Nat.exists_eq_add_of_le hle
 rw [Nat.mul_add]at ha
 split
 ·rename_i hlt
  have hz:z≠0:=by rintro rfl;rw [Nat.mul_zero]at ha;omega
  obtain⟨z',rfl⟩:=Nat.exists_eq_succ_of_ne_zero hz
  have e:a-b=(P+r-s)+P*z':=by rw [Nat.mul_succ]at ha;omega
  rw [e,Nat.add_mul_div_left _ _ hp,Nat.div_eq_of_lt (by omega)]
  omega
 ·rename_i hlt
  have e:a-b=(r-s)+P*z:=by omega
  rw [e,Nat.add_mul_div_left _ _ hp,Nat.div_eq_of_lt (by omega)]
  omega
theorem Qso (hB:2≤B) {a b:Nat} (h:b≤a) (i:Nat):
  (a-b)/B^i%B+b/B^i%B+bor B a b i=a/B^i%B+B*bor B a b (i+1):=by
 have hB0:0<B:=by omega
 have h1:=Qxe hB0 h i
 have h2:=Qxe hB0 h (i+1)
 have e1:=Qg7 hB0 (a-b) i
 have e2:=Qg7 hB0 b i
 have e3:=Qg7 hB0 a i
 have hm:=Nat.mul_add B ((a-b)/B^(i+1)+b/B^(i+1)) (bor B a b (i+1))
 have hm2:=Nat.mul_add B ((a-b)/B^(i+1)) (b/B^(i+1))
 rw [h2]at hm
 omega
def mix (B V S n m:Nat):List Nat:=(List.range n).map fun j=>if j<m then V/B^j%B else S/B^j%B
theorem Qbh (V S n m:Nat):(mix B V S n m).length=n:=by simp [mix]
theorem Qc6 (V S n m j:Nat) (h:j<n):(mix B V S n m)[j]? =some (if j<m then V/B^j%B else S/B^j%B):=by simp [mix,h]
theorem Qj3 (hB:0<B) {V W m j:Nat} (h:V%B^m=W%B^m) (hj:j<m):V/B^j%B=W/B^j%B:=by
 have key: ∀n,n/B^j%B=(n%B^m)/B^j%B:=by
  intro n
  have e:B^m=B^j*(B*B^(m-j-1)):=by
   rw [←Nat.mul_assoc,←Nat.pow_succ,←Nat.pow_add];congr 1;omega
  rw [e,Nat.mod_mul_right_div_self,Nat.mod_mul_right_mod]
 rw [key V,key W,h]
theorem Qd1 (hB:0<B) {V W S n m d:Nat} (hm:m<n) (h:V%B^m=W%B^m) (hd:W/B^m%B=d):(mix B V S n m).set m d=mix B W S n (m+1):=by
 apply List.ext_getElem?
 intro j
 rw [List.getElem?_set]
 by_cases hj:j<n
 ·rw [Qc6 _ _ _ _ _ hj,Qc6 _ _ _ _ _ hj,Qbh]
  by_cases e:m=j
  ·subst e;simp [hj,hd]
  ·simp only [e,if_false]
   by_cases hlt:j<m
   ·rw [if_pos hlt,if_pos (by omega),Qj3 hB h hlt]
   ·rw [if_neg hlt,if_neg (by omega)]
 ·rw [List.getElem?_eq_none (by rw [Qbh];omega),List.getElem?_eq_none (by rw [Qbh];omega),Qbh]
  simp;omega
theorem Qfl {V S n m:Nat} (hB:0<B) (h:V/B^m=S/B^m):mix B V S n m=lows B V n:=by
 apply List.map_congr_left
 intro j _
 split
 ·rfl
 ·rename_i hj
  obtain⟨k,rfl⟩:=Nat.exists_eq_add_of_le (Nat.le_of_not_lt hj)
  rw [Nat.pow_add,←Nat.div_div_eq_div_mul,←Nat.div_div_eq_div_mul,h]
theorem Qjh (V S n:Nat):mix B V S n 0=lows B S n:=by simp [mix,lows]
def mulV (B S x i b k:Nat):Nat:=S+x*B^i*(b%B^k)
theorem Qop (S x i b:Nat):mulV B S x i b 0=S:=by simp [mulV,Nat.mod_one]
theorem Qoq (S x i b k:Nat):mulV B S x i b (k+1)=mulV B S x i b k+x*(b/B^k%B)*B^(i+k):=by
 unfold mulV
 rw [Nat.pow_succ,Nat.mod_mul,Nat.mul_add,Nat.pow_add]
 have:x*B^i*(B^k*(b/B^k%B))=x*(b/B^k%B)*(B^i*B^k):=by
  simp only [Nat.mul_assoc,Nat.mul_comm,Nat.mul_left_comm]
 rw [this];omega
def mulC (B S x i b k:Nat):Nat:=mulV B S x i b k/B^(i+k)-S/B^(i+k)
theorem Za9 (S x i b k:Nat):S≤mulV B S x i b k:=Nat.le_add_right _ _
theorem Qm4 (S x i b k:Nat):mulC B S x i b k+S/B^(i+k)=mulV B S x i b k/B^(i+k):=by
 have:=Nat.div_le_div_right (c:=B^(i+k)) (Za9 (B:=B) S x i b k)
 unfold mulC
 omega
theorem Qor (S x i b:Nat):mulC B S x i b 0=0:=by simp [mulC,Qop]
theorem Qsp (hB:0<B) (S x i b k:Nat):
  (S/B^(i+k)%B+mulC B S x i b k+x*(b/B^k%B))%B=mulV B S x i b (k+1)/B^(i+k)%B∧
  (S/B^(i+k)%B+mulC B S x i b k+x*(b/B^k%B))/B=mulC B S x i b (k+1):=by
 have hp:0<B^(i+k):=Nat.pow_pos hB
 have h1:=Qm4 (B:=B) S x i b k
 have e1:mulV B S x i b (k+1)/B^(i+k)=(S/B^(i+k)%B+mulC B S x i b k+x*(b/B^k%B))+B*(S/B^(i+k+1)):=by
  rw [Qoq,Nat.add_mul_div_right _ _ hp,←h1]
  have:=Qg7 hB S (i+k)
  omega
 constructor
 ·rw [e1,Nat.add_mul_mod_self_left]
 ·have h2:=Qm4 (B:=B) S x i b (k+1)
  have e2:mulV B S x i b (k+1)/B^(i+(k+1))=mulV B S x i b (k+1)/B^(i+k)/B:=by
   rw [Nat.div_div_eq_div_mul,←Nat.pow_succ];rfl
  rw [e1,Nat.add_mul_div_left _ _ hB]at e2
  have e3:S/B^(i+(k+1))=S/B^(i+k+1):=rfl
  omega
theorem Q28 (S x i b k:Nat):mulV B S x i b k%B^(i+k)=mulV B S x i b (k+1)%B^(i+k):=by
 rw [Qoq,Nat.add_mul_mod_self_right]
theorem Qxf (a i b k:Nat) (hk:b<B^k):mulV B (a%B^i*b) (a/B^i%B) i b k=a%B^(i+1)*b:=by
 unfold mulV
 rw [Nat.mod_eq_of_lt hk,Nat.pow_succ,Nat.mod_mul,Nat.add_mul]
 congr 1
 rw [Nat.mul_comm (a/B^i%B)]
theorem Zba (hB:0<B) {S x i b k:Nat} (hx:x<B):mulC B S x i b k<B:=by
 induction k with
 |zero=>rw [Qor];exact hB
 |succ k ih=>
  rw [←(Qsp hB S x i b k).2,Nat.div_lt_iff_lt_mul hB]
  have h1:S/B^(i+k)%B<B:=Nat.mod_lt _ hB
  have h2:b/B^k%B<B:=Nat.mod_lt _ hB
  have h3:x*(b/B^k%B)≤(B-1)*(B-1):=Nat.mul_le_mul (by omega) (by omega)
  have h4:B*B=(B-1)*(B-1)+2*(B-1)+1:=by
   obtain⟨c,rfl⟩: ∃c,B=c+1:=⟨B-1,by omega⟩
   simp only [Nat.add_sub_cancel,Nat.add_mul,Nat.mul_add]
   omega
  omega
end
end Go.Dg

namespace Go.Proofs.YtciddhkfbgkejaaDoor
open Go.Vl Go.RowKit Go.Dg
end Go.Proofs.YtciddhkfbgkejaaDoor

namespace Go.Proofs.YtciddhkfbgkejaaDoor
open Go.Vl Go.RowKit Go.Dg
end Go.Proofs.YtciddhkfbgkejaaDoor

namespace Go.Proofs.YtciddhkfbgkejaaDoor
open Go.Vl Go.RowKit Go.Dg
end Go.Proofs.YtciddhkfbgkejaaDoor

namespace Go.Vl
open Go.RowKit
theorem Zi1 (P:Program) (t:TypeId) (xs ys:List PV):Qbo .eql t P (.agg xs) (.agg ys)=match Qci P t with
  |some sh=>match Qbc sh xs ys with
   |some b=>some (.bool b)
   |none=>none
  |none=>none:=by
 unfold Qbo
 cases Qci P t with
 |none=>rfl
 |some sh=>simp only;cases Qbc sh xs ys<;>rfl
theorem Zi2 (P:Program) (t:TypeId) (xs ys:List PV):Qbo .neq t P (.agg xs) (.agg ys)=match Qci P t with
  |some sh=>match Qbc sh xs ys with
   |some b=>some (.bool !b)
   |none=>none
  |none=>none:=by
 unfold Qbo
 cases Qci P t with
 |none=>rfl
 |some sh=>simp only;cases Qbc sh xs ys<;>rfl
attribute [go_sem] Zi1 Zi2
end Go.Vl

namespace Go.Proofs.YtciddhkfbgkejaaDoor
open Go.Vl Go.RowKit Go.Dg
end Go.Proofs.YtciddhkfbgkejaaDoor

namespace Go.Vl
open Go.RowKit
theorem Zaq (P:Program) (p:Nat×List (Nat×Nat)×List (Nat×Nat)) (tb:Tab) (id:Nat) (bx:Bx) (fo:Operand) (as0:Array Operand) (ts:Array TypeId) (f:FuncId) (first cap args:List PV):Qaz P (p::tb) id (.call ⟨.value fo,as0,ts⟩) (.fn f first cap::args) bx=
  (match lkp (p::tb) id with
   |none=>M.bind (Qfo first) (fun x=> .bind (Qfp args) fun y=> .bind (Qfo cap) fun z=> .pure (.call f (x.1++y.1++z.1) (x.2++y.2++z.2))) bx
   |some t=>Qdd t.1 t.2 f (first++args++cap) bx):=by
 cases h:lkp (p::tb) id with
 |none=>rw [Q96 (h:=h)]
 |some t=>obtain⟨θ,ν⟩:=t;rw [Q97 (h:=h)]
theorem ble6:Nat.ble 1000000 1000000=true:=rfl
theorem Zk4:Nat.ble 1000000 1000001=true:=rfl
attribute [go_sem] Zaq ble6 Zk4
theorem Zk5 (P:Program) (t:TypeId) (x y:ByteArray):Qbo .eql t P (.str x) (.str y)=some (.bool (x.data.toList==y.data.toList)):=by
 rw [Zbz,←Go.ByteArray.toList_eq x,←Go.ByteArray.toList_eq y];rfl
theorem Zk6 (P:Program) (t:TypeId) (x y:ByteArray):Qbo .neq t P (.str x) (.str y)=some (.bool !(x.data.toList==y.data.toList)):=by
 rw [Zbz,←Go.ByteArray.toList_eq x,←Go.ByteArray.toList_eq y];rfl
attribute [go_sem high] Zk5 Zk6
def bnum (l:List UInt8):Nat:=l.foldl (fun n b=>n*256+b.toNat) 0
theorem Qjx (l:List UInt8) (b:UInt8):bnum (l++[b])=bnum l*256+b.toNat:=by simp [bnum]
theorem Qqd: ∀(n:Nat) (l:List UInt8),l.length=n→bnum l<256^n
 |0,l,h=>by obtain rfl:=List.length_eq_zero_iff.1 h;simp [bnum]
 |n+1,l,h=>by
  have hne:l≠ []:=by intro e;rw [e]at h;simp at h
  have e:=List.dropLast_concat_getLast hne
  have ih:=Qqd n l.dropLast (by simp [h])
  rw [←e,Qjx,Nat.pow_succ]
  have:=(l.getLast hne).toNat_lt
  omega
theorem Qjy (s:ByteArray):s.size=s.data.toList.length:=rfl
theorem Qog (s:ByteArray) (k:Nat) (h:k<s.data.toList.length):s[k]? =some s.data.toList[k]:=by
 have h':k<s.size:=h
 rw [getElem?_pos s k h']
 rfl
end Go.Vl

namespace Go.Proofs.YtciddhkfbgkejaaDoor
open Go.Vl Go.RowKit Go.Dg
end Go.Proofs.YtciddhkfbgkejaaDoor

namespace Go.Proofs.YtciddhkfbgkejaaDoor
open Go.Vl Go.RowKit Go.Dg
end Go.Proofs.YtciddhkfbgkejaaDoor

namespace Go.Dg
variable {B:Nat}
theorem Qst {V S N i d:Nat} (hi:i<N) (hd:S/B^i%B=d):(mix B V S N (i+1)).set i d=mix B V S N i:=by
 apply List.ext_getElem?
 intro j
 rw [List.getElem?_set]
 by_cases hj:j<N
 ·rw [Qc6 _ _ _ _ _ hj,Qc6 _ _ _ _ _ hj,Qbh]
  by_cases e:i=j
  ·subst e;simp [hj,hd]
  ·simp only [e,if_false]
   by_cases hlt:j<i
   ·rw [if_pos (by omega),if_pos hlt]
   ·rw [if_neg (by omega),if_neg hlt]
 ·rw [List.getElem?_eq_none (by rw [Qbh];omega),List.getElem?_eq_none (by rw [Qbh];omega),Qbh]
  simp;omega
theorem Qxv (v N n:Nat) (h:n≤N):(lows B v N).take n=lows B v n:=by
 apply List.ext_getElem?
 intro j
 by_cases hj:j<n
 ·rw [List.getElem?_take_of_lt hj,Qbn _ _ _ (by omega),Qbn _ _ _ hj]
 ·rw [List.getElem?_eq_none (by rw [List.length_take,Qah];omega),List.getElem?_eq_none (by rw [Qah];omega)]
end Go.Dg

namespace Go.Proofs.YtciddhkfbgkejaaDoor
open Go.Vl Go.RowKit Go.Dg
abbrev f8:Nat→PV:=fun d:Nat=>PV.int .u8 (d:Int)
def magL (n:Nat):List UInt8:=(digs 256 n).reverse.map fun d=>UInt8.ofNat d
def wPV (n:Int):PV:= .agg [.bool (decide (n<0)),.str ⟨(magL n.natAbs).toArray⟩]
theorem Qvm (l:List Nat):Qdo (l.map f8)=some (l.map fun d=>UInt8.ofNat d):=by
 induction l with
 |nil=>rfl
 |cons d l ih=>simp only [List.map_cons,Qdo,ih];rfl
theorem Qf0 {n:Nat} (h:n<256):IntKind.u8.wrap (n:Int)=(n:Int):=by
 simp [IntKind.wrap,IntKind.signed,IntKind.bits];omega
end Go.Proofs.YtciddhkfbgkejaaDoor

namespace Go.Dg
variable {B:Nat}

def blen (m:Nat):Nat:=if h:m=0 then 0 else blen (m/2)+1
termination_by m
decreasing_by exact Nat.div_lt_self (Nat.pos_of_ne_zero h) (by decide)
theorem Qff:blen 0=0:=by unfold blen;simp
theorem Qfg {m:Nat} (h:m≠0):blen m=blen (m/2)+1:=by
  conv=>lhs;unfold blen
  simp [h]
theorem Qdq: ∀(k m:Nat),m/2^k≠0→blen m=blen (m/2^k)+k
  |0,m,_=>by simp
  |k+1,m,h=>by
    have e:m/2^(k+1)=m/2/2^k:=by rw [Nat.div_div_eq_div_mul,Nat.pow_succ,Nat.mul_comm]
    have hm:m≠0:=by intro h0;rw [h0]at h;simp at h
    rw [Qfg hm,e,Qdq k (m/2) (by rw [←e];exact h)]
    omega
theorem Qcx: ∀(k m:Nat),m<2^k→blen m≤k
  |0,m,h=>by
        obtain rfl:m=0:=by simpa using h
        rw [Qff];exact Nat.le_refl _
  |k+1,m,h=>by
    by_cases h0:m=0
    · rw [h0,Qff];omega
    · rw [Qfg h0]
      have:=Qcx k (m/2) (by rw [Nat.pow_succ]at h;omega)
      omega
theorem Qjz: ∀(k m:Nat),2^k≤m→k<blen m
  |0,m,h=>by
    have h0:m≠0:=by intro e;rw [e]at h;simp at h
    rw [Qfg h0];omega
  |k+1,m,h=>by
    have h0:m≠0:=by intro e;rw [e]at h;have:=Nat.pow_pos (n:=k+1) (show 0<2 by decide);omega
    rw [Qfg h0]
    have:=Qjz k (m/2) (by rw [Nat.pow_succ]at h;omega)
    omega
/-- The highest digit. -/
theorem Qdh (hB:2≤B) {m:Nat} (h:m≠0):m/B^((digs B m).length-1)≠0∧m/B^((digs B m).length-1)<B:=by
  have hp:0<(digs B m).length:=List.length_pos_iff.2 (mt (Qbg hB).1 h)
  refine⟨(Qcq hB m _).1 (by omega),?_⟩
  have:=Qa0 hB m
  have e:B^(digs B m).length=B^((digs B m).length-1)*B:=by rw [←Nat.pow_succ];congr 1;omega
  rw [e]at this
  exact Nat.div_lt_of_lt_mul this
theorem Qsa {m:Nat} (h:m≠0) (c:Nat) (hc:0<c):blen m=blen (m/(2^c)^((digs (2^c) m).length-1))+c*((digs (2^c) m).length-1):=by
  have hB:2≤2^c:=by
    have:=Nat.pow_le_pow_right (show 0<2 by decide) hc
    simpa using this
  have:=Qdh hB h
  rw [←Nat.pow_mul]at this ⊢
  exact Qdq _ _ this.1
end Go.Dg

namespace Go.Proofs.YtciddhkfbgkejaaDoor
open Go.Vl Go.RowKit Go.Dg
theorem Qc8 (m:Nat):(magL m).length=(digs 256 m).length:=by simp [magL]
theorem Qk3 (m:Nat):(⟨(magL m).toArray⟩:ByteArray).size=(digs 256 m).length:=by rw [Qjy,←Qc8]
theorem Q4f {m:Nat} (h:m≠0): ∃d:UInt8,(⟨(magL m).toArray⟩:ByteArray)[0]? =some d∧d.toNat=m/256^((digs 256 m).length-1):=by
 have hp:0<(digs 256 m).length:=List.length_pos_iff.2 (mt (Qbg (by decide)).1 h)
 have ht:=Qdh (B:=256) (by decide) h
 have hg:=Qaq (B:=256) (n:=m) (k:=(digs 256 m).length-1) (by decide) (by omega)
 rw [Nat.mod_eq_of_lt ht.2]at hg
 have hl:0<(⟨(magL m).toArray⟩:ByteArray).data.toList.length:=by show 0<(magL m).length;rw [Qc8];exact hp
 refine⟨_,Qog _ 0 hl,?_⟩
 have e:(⟨(magL m).toArray⟩:ByteArray).data.toList[0]=UInt8.ofNat (m/256^((digs 256 m).length-1)):=by
  show(magL m)[0]'(by rw [Qc8];exact hp)=_
  have:(magL m)[0]? =some (UInt8.ofNat (m/256^((digs 256 m).length-1))):=by
   rw [magL,List.getElem?_map,List.getElem?_reverse (by omega),Nat.sub_zero,hg];rfl
  exact Option.some.inj (by rw [←this,List.getElem?_eq_getElem])
 rw [e,UInt8.toNat_ofNat_of_lt' ht.2]
def Qei (n:Int):PV:=if 65536<blen n.natAbs then .tup [wPV 0,.int .i64 7]else .tup [wPV n,.int .i64 0]
theorem Qtm:wPV 0= .agg [.bool false,.str ⟨#[]⟩]:=by simp [wPV,magL,Qa8]
end Go.Proofs.YtciddhkfbgkejaaDoor

namespace Go.Vl
open Go.RowKit
theorem Qdc (n:Nat):IntKind.u64.wrap (n:Int)=((n%18446744073709551616:Nat):Int):=by
 simp [IntKind.wrap,IntKind.signed,IntKind.bits]
theorem Qg4 (n:Nat):(n:Int).fdiv (2^min 32 64)=((n/4294967296:Nat):Int):=by
 rw [Int.fdiv_eq_ediv_of_nonneg _ (by decide)]
 rfl
theorem Zhr (n:Nat):IntKind.u64.wrap ((BitVec.ofInt 64 (n:Int) &&& BitVec.ofInt 64 4294967295).toNat:Int)=((n%4294967296:Nat):Int):=by
 rw [Qdc]
 congr 1
 rw [BitVec.toNat_and]
 have h1:(BitVec.ofInt 64 (n:Int)).toNat=n%18446744073709551616:=by simp
 have h2:(BitVec.ofInt 64 4294967295).toNat=2^32-1:=by decide
 rw [h1,h2,Nat.and_two_pow_sub_one_eq_mod]
 omega
theorem Q9x {P:Program} {t:TypeId} (n:Nat):Qbo .and t P (.int .u64 (n:Int)) (.int .u64 4294967295)=some (.int .u64 ((n%4294967296:Nat):Int)):=by
 rw [Zip]
 exact congrArg (fun z=>some (PV.int .u64 z)) (Zhr n)
attribute [go_sem high] Q9x
theorem Zk3 {x y:Nat} (hx:x<18446744073709551616) (hy:y<18446744073709551616):
  ((x/4294967296*(y/4294967296)%18446744073709551616+(x/4294967296*(y%4294967296)%18446744073709551616+(x%4294967296*(y%4294967296)%18446744073709551616)/4294967296)%18446744073709551616/4294967296)%18446744073709551616+
   ((x/4294967296*(y%4294967296)%18446744073709551616+(x%4294967296*(y%4294967296)%18446744073709551616)/4294967296)%18446744073709551616%4294967296+x%4294967296*(y/4294967296)%18446744073709551616)%18446744073709551616/4294967296)%18446744073709551616=x*y/18446744073709551616:=by
 have a1:x/4294967296≤4294967295:=by omega
 have a0:x%4294967296≤4294967295:=by omega
 have b1:y/4294967296≤4294967295:=by omega
 have b0:y%4294967296≤4294967295:=by omega
 have ex:x=x/4294967296*4294967296+x%4294967296:=by omega
 have ey:y=y/4294967296*4294967296+y%4294967296:=by omega
 have hxy:x*y=x/4294967296*(y/4294967296)*18446744073709551616+(x/4294967296*(y%4294967296)+x%4294967296*(y/4294967296))*4294967296+x%4294967296*(y%4294967296):=by
  generalize x/4294967296=p at*
  generalize x%4294967296=q at*
  generalize y/4294967296=r at*
  generalize y%4294967296=s at*
  subst ex ey
  simp only [Nat.add_mul,Nat.mul_add]
  rw [show p*4294967296*(r*4294967296)=p*r*18446744073709551616 by rw [Nat.mul_mul_mul_comm]]
  rw [show p*4294967296*s=p*s*4294967296 by rw [Nat.mul_right_comm],show q*(r*4294967296)=q*r*4294967296 by rw [Nat.mul_assoc]]
  omega
 have hlt:x*y≤18446744073709551615*18446744073709551615:=Nat.mul_le_mul (by omega) (by omega)
 have h11:=Nat.mul_le_mul a1 b1
 have h10:=Nat.mul_le_mul a1 b0
 have h01:=Nat.mul_le_mul a0 b1
 have h00:=Nat.mul_le_mul a0 b0
 rw [hxy]at hlt ⊢
 generalize x/4294967296*(y/4294967296)=P at*
 generalize x/4294967296*(y%4294967296)=Q at*
 generalize x%4294967296*(y/4294967296)=R at*
 generalize x%4294967296*(y%4294967296)=W at*
 clear hxy ex ey a1 a0 b1 b0
 omega
end Go.Vl

namespace Go.Proofs.YtciddhkfbgkejaaDoor
open Go.Vl Go.RowKit
theorem Qp8 {w:World} {im:Im} {k1 k2 k3:IntKind} {x y z:Int} {us:List Value} (h:RepL w im [.int k1 x,.int k2 y,.int k3 z] us):us=[.int k1 x,.int k2 y,.int k3 z]:=by
 cases h with
 |cons _ u _ us h t=>
 cases h
 cases t with
 |cons _ u _ us h t=>
 cases h
 cases t with
 |cons _ u _ us h t=>
 cases h
 cases t
 rfl
theorem Qn8 (x y c:Nat) (hc:c≤1):Qae Tryd.prog 90 [.int .u64 (x:Int),.int .u64 (y:Int),.int .u64 (c:Int)] (.tup [.int .u64 (((x+y+c)%18446744073709551616:Nat):Int),.int .u64 (((x+y+c)/18446744073709551616:Nat):Int)]):=by
 refine .inr ⟨by kernel_rfl,rfl,fun w im us hr=> ?_⟩
 rw [Qp8 hr]
 refine⟨.tuple #[.int .u64 (((x+y+c)%18446744073709551616:Nat):Int),.int .u64 (((x+y+c)/18446744073709551616:Nat):Int)],?_,.tup _ [_,_] (.cons _ _ _ _ (.int _ _) (.cons _ _ _ _ (.int _ _) .nil))⟩
 rw [run_callFunc_extern Tryd.func90 (by kernel_rfl) (by kernel_rfl) (by kernel_rfl) (e:=add64Entry) (by kernel_rfl),run_add64 x y c (by omega) (by omega) (by omega) (by omega)]
 simp only [Result.andThen]
 congr 5<;>omega
theorem Q2h (x y b:Nat) (hb:b≤1):Qae Tryd.prog 91 [.int .u64 (x:Int),.int .u64 (y:Int),.int .u64 (b:Int)] (.tup [.int .u64 (((x+18446744073709551616-y-b)%18446744073709551616:Nat):Int),.int .u64 ((if x<y+b then 1 else 0:Nat):Int)]):=by
 refine .inr ⟨by kernel_rfl,rfl,fun w im us hr=> ?_⟩
 rw [Qp8 hr]
 refine⟨.tuple #[.int .u64 (((x+18446744073709551616-y-b)%18446744073709551616:Nat):Int),.int .u64 ((if x<y+b then 1 else 0:Nat):Int)],?_,.tup _ [_,_] (.cons _ _ _ _ (.int _ _) (.cons _ _ _ _ (.int _ _) .nil))⟩
 rw [run_callFunc_extern Tryd.func91 (by kernel_rfl) (by kernel_rfl) (by kernel_rfl) (e:=sub64Entry) (by kernel_rfl),run_sub64 x y b hb]
 rfl
end Go.Proofs.YtciddhkfbgkejaaDoor
