/- Part 4 of the texts of a claim: Tk Mz Clone EqDot Tx15 Tx16 Tk2 Name Vec1 Vec2. -/
import Derived.Test.YtmkapocibaojdaaGreatDoorProg
import Derived.KernelRfl
import Derived.Test.YtmkapocibaojdaaGreatDoorTs3
section
namespace Go.Proofs.YtmkapocibaojdaaGreatDoor
open Go Go.Sx
theorem enG {P:Program} {fid:FuncId} {fn:Func} {sk:Sk} (hf:P.funcs[fid]?=some fn) (hb:fn.body=some (sk.code fn)) {args:List Value} {w:World} {S:Nat→Prop} {M:List Nat} {C:List Chunk} {G:List (Value×D)} {Rr:Ending→World→Prop} (hl:Nat.ble args.length fn.ntmps=true) (hp:Pre w S M C) (hG:AllG w S G) (H:J P fn (retR P fn Rr) fn.ntmps [.c sk] (envOf 0 args) [] [] [(M,w)] ⟨newS S M w,C,G⟩):Calls P fid args.toArray w Rr:=
 calls_J hf hb rfl hl hp hG H
theorem epG {P:Program} {fid:FuncId} {fn:Func} {sk:Sk} (hf:P.funcs[fid]?=some fn) (hb:fn.body=some (sk.code fn)) {args:List Value} {w:World} {S:Nat→Prop} {G:List (Value×D)} {Rr:Ending→World→Prop} (hl:Nat.ble args.length fn.ntmps=true) (hG:AllG w S G) (H:J P fn (retR P fn Rr) fn.ntmps [.c sk] (envOf 0 args) [] [] [([],w)] ⟨newS S [] w,[],G⟩):Calls P fid args.toArray w Rr:=
 calls_J hf hb rfl hl (Pre.none _ _) hG H
theorem mixed:Tryz.prog.follows .mixedOrders=true:=by kernel_rfl
def sk7:Sk:=(.seq (.rg 0 false) (.seq (.rg 1 false) (.seq (.seq (.rg 2 false) (.cond (.tmp 34) (.seq (.rg 3 false) .ret) .skip)) (.seq (.rg 4 false) (.seq (.rg 5 false) (.seq (.seq (.rg 6 false) (.cond (.tmp 57) (.seq (.rg 7 false) .ret) .skip)) (.seq (.seq (.rg 8 false) (.block 0 (.loop (.seq (.seq (.rg 9 false) (.cond (.tmp 59) .skip (.exit 0))) (.seq (.block 1 (.seq (.rg 11 false) (.seq (.seq (.rg 12 false) (.cond (.tmp 69) (.seq (.rg 13 false) .ret) .skip)) (.seq (.seq (.rg 14 false) (.block 2 (.loop (.seq (.seq (.rg 15 false) (.cond (.tmp 73) .skip (.exit 2))) (.seq (.block 3 (.seq (.rg 17 false) (.seq (.seq (.rg 18 false) (.cond (.tmp 89) (.seq (.rg 19 false) .ret) .skip)) (.seq (.rg 20 false) (.block 4 (.seq (.rg 21 false) (.cond (.tmp 92) (.rg 22 false) (.seq (.rg 23 false) (.cond (.tmp 100) (.rg 24 false) (.seq (.rg 25 false) (.cond (.tmp 108) (.rg 26 false) (.seq (.rg 27 false) (.cond (.tmp 116) (.rg 28 false) .skip))))))))))))) (.rg 16 false)))))) (.seq (.rg 29 false) (.seq (.rg 30 false) (.seq (.seq (.rg 31 false) (.cond (.tmp 137) (.seq (.rg 32 false) .ret) .skip)) (.seq (.rg 33 false) (.seq (.seq (.rg 34 false) (.cond (.tmp 145) (.seq (.rg 35 false) .ret) .skip)) (.seq (.rg 36 false) (.seq (.seq (.rg 37 false) (.cond (.tmp 154) (.seq (.rg 38 false) .ret) .skip)) (.seq (.seq (.rg 39 false) (.cond (.tmp 160) (.seq (.rg 40 false) .ret) .skip)) (.seq (.rg 41 false) (.cond (.tmp 170) (.seq (.rg 42 false) .ret) .skip)))))))))))))) (.rg 10 false)))))) (.seq (.rg 43 false) .ret))))))))
theorem bd7:Tryz.f7.body=some (sk7.code Tryz.f7):=by kernel_rfl
def sk12:Sk:=(.seq (.rg 0 false) (.seq (.seq (.rg 1 false) (.cond (.tmp 41) (.seq (.rg 2 true) .ret) .skip)) (.seq (.rg 3 false) (.seq (.seq (.rg 4 false) (.cond (.tmp 49) (.seq (.rg 5 false) .ret) .skip)) (.seq (.rg 6 false) (.seq (.seq (.rg 7 false) (.block 0 (.loop (.seq (.rg 8 false) (.seq (.cond (.tmp 59) .skip (.exit 0)) (.seq (.block 1 (.seq (.rg 9 false) (.seq (.rg 10 false) (.seq (.rg 11 false) (.seq (.seq (.rg 12 false) (.block 2 (.loop (.seq (.rg 13 false) (.seq (.cond (.tmp 63) .skip (.exit 2)) (.seq (.block 3 (.seq (.rg 14 false) (.seq (.rg 15 false) (.cond (.tmp 67) (.seq (.rg 16 false) (.seq (.rg 17 false) (.rg 18 false))) .skip)))) (.rg 19 false))))))) (.rg 20 true)))))) (.rg 21 false))))))) (.seq (.rg 22 false) .ret)))))))
theorem bd12:Tryz.f12.body=some (sk12.code Tryz.f12):=by kernel_rfl
def sk13:Sk:=(.seq (.rg 0 false) (.seq (.rg 1 false) (.seq (.rg 2 false) .ret)))
theorem bd13:Tryz.f13.body=some (sk13.code Tryz.f13):=by kernel_rfl
def sk19:Sk:=(.seq (.rg 0 false) (.seq (.rg 1 false) (.seq (.seq (.rg 2 false) (.block 0 (.loop (.seq (.rg 3 false) (.seq (.cond (.tmp 13) .skip (.exit 0)) (.seq (.block 1 (.seq (.rg 4 false) (.seq (.rg 5 false) (.seq (.seq (.rg 6 false) (.cond (.tmp 26) (.rg 7 false) .skip)) (.rg 8 false))))) (.rg 9 false))))))) (.seq (.rg 10 false) .ret))))
theorem bd19:Tryz.f19.body=some (sk19.code Tryz.f19):=by kernel_rfl
def sk22:Sk:=(.seq (.rg 0 false) (.seq (.seq (.rg 1 false) (.seq (.rg 2 false) (.cond (.tmp 27) (.seq (.rg 3 false) .ret) .skip))) (.seq (.seq (.rg 4 false) (.cond (.tmp 34) (.seq (.rg 5 true) .ret) .skip)) (.seq (.rg 6 false) (.seq (.rg 7 true) (.seq (.seq (.rg 8 false) (.block 0 (.loop (.seq (.rg 9 false) (.seq (.cond (.tmp 61) .skip (.exit 0)) (.seq (.block 1 (.seq (.rg 10 false) (.rg 11 false))) (.rg 12 false))))))) (.seq (.seq (.rg 13 false) (.seq (.rg 14 false) (.cond (.tmp 73) (.seq (.rg 15 false) .ret) .skip))) (.seq (.seq (.rg 16 true) (.seq (.rg 17 false) (.cond (.tmp 83) (.seq (.rg 18 false) .ret) .skip))) (.seq (.rg 19 false) (.seq (.rg 20 false) (.seq (.seq (.rg 21 false) (.block 2 (.loop (.seq (.rg 22 false) (.seq (.cond (.tmp 99) .skip (.exit 2)) (.seq (.block 3 (.seq (.rg 23 false) (.seq (.rg 24 false) (.block 4 (.loop (.seq (.rg 25 false) (.seq (.cond (.tmp 105) .skip (.exit 4)) (.seq (.block 5 (.seq (.rg 26 false) (.seq (.rg 27 false) (.seq (.rg 28 false) (.cond (.tmp 116) (.seq (.rg 29 false) (.rg 30 false)) .skip))))) (.rg 31 false))))))))) (.rg 32 false))))))) (.seq (.rg 33 false) .ret))))))))))))
theorem bd22:Tryz.f22.body=some (sk22.code Tryz.f22):=by kernel_rfl
def sk25:Sk:=(.seq (.rg 0 false) (.seq (.seq (.rg 1 false) (.seq (.rg 2 false) (.cond (.tmp 14) (.seq (.rg 3 false) .ret) .skip))) (.seq (.rg 4 false) .ret)))
theorem bd25:Tryz.f25.body=some (sk25.code Tryz.f25):=by kernel_rfl
def sk30:Sk:=(.seq (.rg 0 false) (.seq (.rg 1 false) .ret))
theorem bd30:Tryz.f30.body=some (sk30.code Tryz.f30):=by kernel_rfl
def sk31:Sk:=(.seq (.rg 0 false) (.seq (.rg 1 false) (.seq (.rg 2 false) (.seq (.seq (.rg 3 false) (.cond (.tmp 28) (.seq (.rg 4 false) .ret) .skip)) (.seq (.rg 5 false) (.seq (.rg 6 false) (.seq (.rg 7 false) (.seq (.rg 8 false) .ret))))))))
theorem bd31:Tryz.f31.body=some (sk31.code Tryz.f31):=by kernel_rfl
def sk32:Sk:=(.seq (.rg 0 false) (.seq (.seq (.rg 1 false) (.cond (.tmp 9) (.seq (.rg 2 true) .ret) .skip)) (.seq (.rg 3 false) .ret)))
theorem bd32:Tryz.f32.body=some (sk32.code Tryz.f32):=by kernel_rfl
def sk33:Sk:=(.seq (.rg 0 false) (.seq (.block 0 (.seq (.rg 1 false) (.cond (.tmp 9) (.seq (.rg 2 true) .ret) (.seq (.rg 3 true) (.cond (.tmp 16) (.seq (.rg 4 true) .ret) .skip))))) (.seq (.rg 5 false) (.seq (.seq (.rg 6 false) (.seq (.rg 7 false) (.cond (.tmp 38) (.seq (.rg 8 true) .ret) .skip))) (.seq (.rg 9 false) (.seq (.rg 10 false) (.seq (.rg 11 false) .ret)))))))
theorem bd33:Tryz.f33.body=some (sk33.code Tryz.f33):=by kernel_rfl
def sk34:Sk:=(.seq (.rg 0 false) (.seq (.rg 1 false) .ret))
theorem bd34:Tryz.f34.body=some (sk34.code Tryz.f34):=by kernel_rfl
def sk35:Sk:=(.seq (.rg 0 false) (.seq (.rg 1 false) .ret))
theorem bd35:Tryz.f35.body=some (sk35.code Tryz.f35):=by kernel_rfl
def sk36:Sk:=(.seq (.rg 0 false) (.seq (.rg 1 false) .ret))
theorem bd36:Tryz.f36.body=some (sk36.code Tryz.f36):=by kernel_rfl
def sk37:Sk:=(.seq (.rg 0 false) (.seq (.rg 1 false) .ret))
theorem bd37:Tryz.f37.body=some (sk37.code Tryz.f37):=by kernel_rfl
def sk38:Sk:=(.seq (.rg 0 false) (.seq (.seq (.rg 1 false) (.cond (.tmp 13) (.seq (.rg 2 true) .ret) .skip)) (.seq (.seq (.rg 3 false) (.cond (.tmp 24) (.seq (.rg 4 true) .ret) .skip)) (.seq (.rg 5 true) (.seq (.seq (.rg 6 false) (.cond (.tmp 66) (.seq (.rg 7 false) .ret) .skip)) (.seq (.rg 8 false) (.seq (.rg 9 true) .ret)))))))
theorem bd38:Tryz.f38.body=some (sk38.code Tryz.f38):=by kernel_rfl
def sk39:Sk:=(.seq (.rg 0 false) (.seq (.rg 1 false) (.seq (.seq (.rg 2 false) (.cond (.tmp 14) (.seq (.rg 3 true) .ret) .skip)) (.seq (.rg 4 false) (.seq (.seq (.rg 5 false) (.cond (.tmp 25) (.seq (.rg 6 true) .ret) .skip)) (.seq (.rg 7 true) (.seq (.seq (.rg 8 false) (.cond (.tmp 54) (.seq (.rg 9 false) .ret) .skip)) (.seq (.rg 10 false) (.seq (.rg 11 false) .ret)))))))))
theorem bd39:Tryz.f39.body=some (sk39.code Tryz.f39):=by kernel_rfl
def sk40:Sk:=(.seq (.rg 0 false) (.seq (.seq (.rg 1 false) (.cond (.tmp 7) (.seq (.rg 2 false) .ret) .skip)) (.seq (.rg 3 false) (.seq (.rg 4 false) .ret))))
theorem bd40:Tryz.f40.body=some (sk40.code Tryz.f40):=by kernel_rfl
def sk43:Sk:=(.seq (.rg 0 false) (.seq (.rg 1 false) .ret))
theorem bd43:Tryz.f43.body=some (sk43.code Tryz.f43):=by kernel_rfl
def sk57:Sk:=(.seq (.rg 0 false) (.seq (.seq (.rg 1 false) (.cond (.tmp 9) (.seq (.rg 2 true) .ret) .skip)) (.seq (.rg 3 false) .ret)))
theorem bd57:Tryz.f57.body=some (sk57.code Tryz.f57):=by kernel_rfl
def sk58:Sk:=(.seq (.rg 0 false) (.seq (.rg 1 false) (.seq (.seq (.rg 2 false) (.cond (.tmp 18) (.seq (.rg 3 false) .ret) .skip)) (.seq (.rg 4 false) .ret))))
theorem bd58:Tryz.f58.body=some (sk58.code Tryz.f58):=by kernel_rfl
def sk59:Sk:=(.seq (.rg 0 false) (.seq (.rg 1 false) (.seq (.seq (.rg 2 false) (.cond (.tmp 18) (.seq (.rg 3 false) .ret) .skip)) (.seq (.rg 4 false) .ret))))
theorem bd59:Tryz.f59.body=some (sk59.code Tryz.f59):=by kernel_rfl
def sk60:Sk:=(.seq (.rg 0 false) (.seq (.seq (.rg 1 false) (.cond (.tmp 8) (.seq (.rg 2 false) .ret) .skip)) (.seq (.rg 3 false) (.seq (.rg 4 false) (.seq (.seq (.rg 5 false) (.cond (.tmp 11) (.rg 6 false) .skip)) (.seq (.seq (.rg 7 false) (.block 0 (.loop (.seq (.rg 8 false) (.seq (.cond (.tmp 31) .skip (.exit 0)) (.seq (.block 1 (.seq (.rg 9 false) (.seq (.rg 10 false) (.cond (.tmp 37) (.seq (.rg 11 false) .ret) .skip)))) (.rg 12 false))))))) (.seq (.rg 13 false) .ret)))))))
theorem bd60:Tryz.f60.body=some (sk60.code Tryz.f60):=by kernel_rfl
def sk74:Sk:=(.seq (.rg 0 false) (.seq (.seq (.rg 1 false) (.seq (.rg 2 false) (.cond (.tmp 16) (.seq (.rg 3 false) .ret) .skip))) (.seq (.rg 4 false) .ret)))
theorem bd74:Tryz.f74.body=some (sk74.code Tryz.f74):=by kernel_rfl
def sk80:Sk:=(.seq (.rg 0 false) (.seq (.seq (.rg 1 false) (.cond (.tmp 9) (.rg 2 false) .skip)) (.seq (.rg 3 false) (.seq (.seq (.rg 4 false) (.block 0 (.loop (.seq (.seq (.rg 5 false) (.cond (.tmp 17) .skip (.exit 0))) (.seq (.block 1 (.seq (.rg 7 false) (.cond (.tmp 27) (.rg 8 false) .skip))) (.rg 6 false)))))) (.seq (.rg 9 false) .ret)))))
theorem bd80:Tryz.f80.body=some (sk80.code Tryz.f80):=by kernel_rfl
def sk81:Sk:=(.seq (.rg 0 false) (.seq (.rg 1 false) .ret))
theorem bd81:Tryz.f81.body=some (sk81.code Tryz.f81):=by kernel_rfl
def sk82:Sk:=(.seq (.rg 0 false) (.seq (.rg 1 false) .ret))
theorem bd82:Tryz.f82.body=some (sk82.code Tryz.f82):=by kernel_rfl
def sk83:Sk:=(.seq (.rg 0 false) (.seq (.seq (.rg 1 false) (.seq (.rg 2 false) (.cond (.tmp 11) (.seq (.rg 3 false) .ret) .skip))) (.seq (.seq (.rg 4 false) (.cond (.tmp 19) (.seq (.rg 5 false) .ret) .skip)) (.seq (.seq (.rg 6 false) (.seq (.rg 7 false) (.cond (.tmp 29) (.seq (.rg 8 false) .ret) .skip))) (.seq (.rg 9 false) .ret)))))
theorem bd83:Tryz.f83.body=some (sk83.code Tryz.f83):=by kernel_rfl
def sk84:Sk:=(.seq (.rg 0 false) (.seq (.rg 1 false) (.seq (.rg 2 false) (.seq (.seq (.rg 3 false) (.block 0 (.loop (.seq (.rg 4 false) (.seq (.cond (.tmp 16) .skip (.exit 0)) (.seq (.block 1 (.seq (.rg 5 false) (.rg 6 true))) (.rg 7 false))))))) (.seq (.rg 8 false) .ret)))))
theorem bd84:Tryz.f84.body=some (sk84.code Tryz.f84):=by kernel_rfl
def sk85:Sk:=(.seq (.rg 0 false) (.seq (.seq (.rg 1 false) (.seq (.rg 2 false) (.cond (.tmp 11) (.seq (.rg 3 false) .ret) .skip))) (.seq (.seq (.rg 4 false) (.cond (.tmp 38) (.seq (.rg 5 false) .ret) .skip)) (.seq (.seq (.rg 6 false) (.cond (.tmp 43) (.seq (.rg 7 false) .ret) .skip)) (.seq (.seq (.rg 8 false) (.block 0 (.loop (.seq (.rg 9 false) (.seq (.cond (.tmp 49) .skip (.exit 0)) (.seq (.block 1 (.seq (.rg 10 false) (.seq (.rg 11 false) (.seq (.seq (.rg 12 true) (.cond (.tmp 75) (.rg 13 false) .skip)) (.seq (.rg 14 false) (.cond (.tmp 78) (.seq (.rg 15 false) .ret) .skip)))))) (.rg 16 false))))))) (.seq (.rg 17 false) .ret))))))
theorem bd85:Tryz.f85.body=some (sk85.code Tryz.f85):=by kernel_rfl
def sk86:Sk:=(.seq (.rg 0 false) (.seq (.seq (.rg 1 false) (.seq (.rg 2 false) (.cond (.tmp 16) (.seq (.rg 3 false) .ret) .skip))) (.seq (.seq (.rg 4 true) (.cond (.tmp 25) (.seq (.rg 5 false) .ret) .skip)) (.seq (.seq (.rg 6 true) (.seq (.rg 7 false) (.cond (.tmp 37) (.seq (.rg 8 false) .ret) .skip))) (.seq (.seq (.rg 9 false) (.block 0 (.loop (.seq (.rg 10 false) (.seq (.cond (.tmp 43) .skip (.exit 0)) (.seq (.block 1 (.seq (.rg 11 false) (.seq (.rg 12 true) (.cond (.tmp 54) (.seq (.rg 13 false) .ret) .skip)))) (.rg 14 false))))))) (.seq (.rg 15 false) (.seq (.seq (.rg 16 false) (.block 2 (.loop (.seq (.rg 17 false) (.seq (.cond (.tmp 67) .skip (.exit 2)) (.seq (.block 3 (.seq (.rg 18 false) (.seq (.rg 19 true) (.seq (.rg 20 false) (.seq (.rg 21 false) (.rg 22 true)))))) (.rg 23 false))))))) (.seq (.rg 24 false) .ret))))))))
theorem bd86:Tryz.f86.body=some (sk86.code Tryz.f86):=by kernel_rfl
def sk87:Sk:=(.seq (.rg 0 false) (.seq (.rg 1 false) (.seq (.rg 2 true) .ret)))
theorem bd87:Tryz.f87.body=some (sk87.code Tryz.f87):=by kernel_rfl
def sk88:Sk:=(.seq (.rg 0 false) (.seq (.seq (.rg 1 false) (.seq (.rg 2 false) (.cond (.tmp 10) (.seq (.rg 3 false) .ret) .skip))) (.seq (.seq (.rg 4 true) (.cond (.tmp 20) (.seq (.rg 5 true) .ret) .skip)) (.seq (.seq (.rg 6 true) (.cond (.tmp 33) (.seq (.rg 7 true) .ret) .skip)) (.seq (.rg 8 true) .ret)))))
theorem bd88:Tryz.f88.body=some (sk88.code Tryz.f88):=by kernel_rfl
def sk94:Sk:=(.seq (.rg 0 false) (.seq (.seq (.rg 1 false) (.cond (.tmp 9) (.seq (.rg 2 false) .ret) .skip)) (.seq (.rg 3 false) .ret)))
theorem bd94:Tryz.f94.body=some (sk94.code Tryz.f94):=by kernel_rfl
def sk95:Sk:=(.seq (.rg 0 false) (.seq (.rg 1 false) (.seq (.seq (.rg 2 false) (.cond (.tmp 18) (.seq (.rg 3 false) .ret) .skip)) (.seq (.rg 4 false) .ret))))
theorem bd95:Tryz.f95.body=some (sk95.code Tryz.f95):=by kernel_rfl
def sk98:Sk:=(.seq (.rg 0 false) (.seq (.seq (.rg 1 false) (.cond (.tmp 10) (.seq (.rg 2 false) .ret) .skip)) (.seq (.seq (.rg 3 false) (.block 0 (.loop (.seq (.seq (.rg 4 false) (.cond (.tmp 14) .skip (.exit 0))) (.seq (.block 1 (.seq (.rg 6 true) (.cond (.tmp 25) (.seq (.rg 7 false) .ret) .skip))) (.rg 5 false)))))) (.seq (.rg 8 false) .ret))))
theorem bd98:Tryz.f98.body=some (sk98.code Tryz.f98):=by kernel_rfl
def sk99:Sk:=(.seq (.rg 0 false) (.seq (.rg 1 false) .ret))
theorem bd99:Tryz.f99.body=some (sk99.code Tryz.f99):=by kernel_rfl
def sk100:Sk:=(.seq (.rg 0 false) (.seq (.seq (.rg 1 false) (.seq (.rg 2 false) (.cond (.tmp 11) (.seq (.rg 3 false) .ret) .skip))) (.seq (.rg 4 false) .ret)))
theorem bd100:Tryz.f100.body=some (sk100.code Tryz.f100):=by kernel_rfl
def sk101:Sk:=(.seq (.rg 0 false) (.seq (.seq (.rg 1 false) (.cond (.tmp 4) (.seq (.rg 2 false) .ret) .skip)) (.seq (.rg 3 false) .ret)))
theorem bd101:Tryz.f101.body=some (sk101.code Tryz.f101):=by kernel_rfl
def sk102:Sk:=(.seq (.rg 0 false) (.seq (.seq (.rg 1 false) (.cond (.tmp 12) (.seq (.rg 2 false) .ret) .skip)) (.seq (.seq (.rg 3 false) (.cond (.tmp 22) (.seq (.rg 4 false) .ret) .skip)) (.seq (.rg 5 false) (.seq (.seq (.rg 6 true) (.seq (.rg 7 false) (.cond (.tmp 44) (.seq (.rg 8 false) .ret) .skip))) (.seq (.seq (.rg 9 false) (.cond (.tmp 47) (.seq (.rg 10 true) (.seq (.seq (.rg 11 false) (.cond (.tmp 71) (.seq (.rg 12 false) .ret) .skip)) (.rg 13 false))) .skip)) (.seq (.rg 14 true) (.seq (.rg 15 false) .ret))))))))
theorem bd102:Tryz.f102.body=some (sk102.code Tryz.f102):=by kernel_rfl
def sk103:Sk:=(.seq (.rg 0 false) (.seq (.rg 1 false) .ret))
theorem bd103:Tryz.f103.body=some (sk103.code Tryz.f103):=by kernel_rfl
def sk104:Sk:=(.seq (.rg 0 false) (.seq (.seq (.rg 1 false) (.cond (.tmp 10) (.rg 2 false) .skip)) (.seq (.rg 3 false) (.seq (.seq (.rg 4 false) (.cond (.tmp 26) (.rg 5 false) .skip)) (.seq (.rg 6 false) (.seq (.rg 7 false) (.seq (.block 0 (.loop (.seq (.seq (.rg 8 false) (.cond (.tmp 37) .skip (.exit 0))) (.block 1 (.rg 9 true))))) (.seq (.rg 10 false) .ret))))))))
theorem bd104:Tryz.f104.body=some (sk104.code Tryz.f104):=by kernel_rfl
def sk105:Sk:=(.seq (.rg 0 false) (.seq (.rg 1 false) (.seq (.seq (.rg 2 false) (.cond (.tmp 19) (.seq (.rg 3 false) .ret) .skip)) (.seq (.rg 4 false) (.seq (.rg 5 false) (.seq (.seq (.rg 6 false) (.block 0 (.loop (.seq (.rg 7 false) (.seq (.cond (.tmp 32) .skip (.exit 0)) (.seq (.block 1 (.seq (.rg 8 false) (.seq (.rg 9 false) (.block 2 (.seq (.rg 10 false) (.cond (.tmp 36) (.rg 11 false) (.seq (.rg 12 false) (.cond (.tmp 42) (.rg 13 false) .skip)))))))) (.rg 14 false))))))) (.seq (.seq (.rg 15 false) (.cond (.tmp 53) (.rg 16 false) .skip)) (.seq (.rg 17 false) .ret))))))))
theorem bd105:Tryz.f105.body=some (sk105.code Tryz.f105):=by kernel_rfl
def sk106:Sk:=(.seq (.rg 0 false) (.seq (.rg 1 false) .ret))
theorem bd106:Tryz.f106.body=some (sk106.code Tryz.f106):=by kernel_rfl
def sk122:Sk:=(.seq (.rg 0 false) (.seq (.seq (.rg 1 false) (.cond (.tmp 29) (.seq (.rg 2 true) .ret) .skip)) (.seq (.seq (.rg 3 false) (.cond (.tmp 34) (.seq (.rg 4 true) .ret) .skip)) (.seq (.rg 5 false) .ret))))
theorem bd122:Tryz.f122.body=some (sk122.code Tryz.f122):=by kernel_rfl
def sk123:Sk:=(.seq (.rg 0 false) (.seq (.seq (.rg 1 false) (.cond (.tmp 9) (.seq (.rg 2 false) .ret) .skip)) (.seq (.seq (.rg 3 false) (.cond (.tmp 11) (.rg 4 false) .skip)) (.seq (.rg 5 false) (.seq (.rg 6 false) (.seq (.seq (.rg 7 false) (.cond (.tmp 23) (.rg 8 false) .skip)) (.seq (.rg 9 false) (.seq (.seq (.rg 10 false) (.cond (.tmp 35) (.rg 11 false) .skip)) (.seq (.rg 12 false) .ret)))))))))
theorem bd123:Tryz.f123.body=some (sk123.code Tryz.f123):=by kernel_rfl
def sk138:Sk:=(.seq (.rg 0 false) (.seq (.rg 1 false) (.seq (.seq (.rg 2 false) (.cond (.tmp 20) (.seq (.rg 3 false) .ret) .skip)) (.seq (.rg 4 false) .ret))))
theorem bd138:Tryz.f138.body=some (sk138.code Tryz.f138):=by kernel_rfl
def sk141:Sk:=(.seq (.rg 0 false) (.seq (.seq (.rg 1 false) (.cond (.tmp 10) (.seq (.rg 2 false) .ret) .skip)) (.seq (.seq (.rg 3 false) (.cond (.tmp 13) (.seq (.rg 4 false) .ret) .skip)) (.seq (.rg 5 false) .ret))))
theorem bd141:Tryz.f141.body=some (sk141.code Tryz.f141):=by kernel_rfl
def sk142:Sk:=(.seq (.rg 0 false) (.seq (.seq (.rg 1 false) (.cond (.tmp 4) (.seq (.rg 2 false) .ret) .skip)) (.seq (.rg 3 false) .ret)))
theorem bd142:Tryz.f142.body=some (sk142.code Tryz.f142):=by kernel_rfl
def sk143:Sk:=(.seq (.rg 0 false) (.seq (.seq (.rg 1 false) (.cond (.tmp 4) (.seq (.rg 2 false) .ret) .skip)) (.seq (.rg 3 false) .ret)))
theorem bd143:Tryz.f143.body=some (sk143.code Tryz.f143):=by kernel_rfl
def sk144:Sk:=(.seq (.rg 0 false) (.seq (.block 0 (.seq (.rg 1 false) (.cond (.tmp 5) (.seq (.rg 2 false) .ret) (.seq (.rg 3 false) (.cond (.tmp 23) (.seq (.rg 4 false) .ret) (.seq (.rg 5 false) (.cond (.tmp 29) (.seq (.rg 6 false) .ret) (.seq (.rg 7 false) (.cond (.tmp 44) (.seq (.rg 8 false) .ret) (.seq (.rg 9 false) (.cond (.tmp 49) (.seq (.rg 10 false) .ret) (.seq (.rg 11 false) (.cond (.tmp 71) (.seq (.rg 12 false) .ret) .skip))))))))))))) (.seq (.rg 13 false) .ret)))
theorem bd144:Tryz.f144.body=some (sk144.code Tryz.f144):=by kernel_rfl
def sk145:Sk:=(.seq (.rg 0 false) (.seq (.rg 1 true) .ret))
theorem bd145:Tryz.f145.body=some (sk145.code Tryz.f145):=by kernel_rfl
def sk146:Sk:=(.seq (.rg 0 false) (.seq (.rg 1 false) (.seq (.seq (.rg 2 false) (.cond (.tmp 12) (.seq (.rg 3 false) .ret) .skip)) (.seq (.seq (.rg 4 false) (.block 0 (.loop (.seq (.seq (.rg 5 false) (.cond (.tmp 19) .skip (.exit 0))) (.seq (.block 1 (.seq (.rg 7 false) (.seq (.rg 8 false) (.cond (.tmp 29) (.seq (.rg 9 false) (.rg 10 false)) .skip)))) (.rg 6 false)))))) (.seq (.rg 11 false) (.seq (.rg 12 false) .ret))))))
theorem bd146:Tryz.f146.body=some (sk146.code Tryz.f146):=by kernel_rfl
def sk147:Sk:=(.seq (.rg 0 false) (.seq (.rg 1 true) (.seq (.rg 2 false) .ret)))
theorem bd147:Tryz.f147.body=some (sk147.code Tryz.f147):=by kernel_rfl
def sk148:Sk:=(.seq (.rg 0 false) (.seq (.seq (.rg 1 false) (.cond (.tmp 8) (.seq (.rg 2 true) .ret) .skip)) (.seq (.seq (.rg 3 false) (.cond (.tmp 15) (.seq (.rg 4 true) .ret) .skip)) (.seq (.rg 5 false) .ret))))
theorem bd148:Tryz.f148.body=some (sk148.code Tryz.f148):=by kernel_rfl
def sk149:Sk:=(.seq (.rg 0 false) (.seq (.rg 1 false) (.seq (.rg 2 false) (.seq (.rg 3 true) (.seq (.rg 4 true) (.seq (.rg 5 false) .ret))))))
theorem bd149:Tryz.f149.body=some (sk149.code Tryz.f149):=by kernel_rfl
def sk153:Sk:=(.seq (.rg 0 false) (.seq (.rg 1 false) (.seq (.rg 2 false) .ret)))
theorem bd153:Tryz.f153.body=some (sk153.code Tryz.f153):=by kernel_rfl
def sk154:Sk:=(.seq (.rg 0 false) (.seq (.rg 1 false) .ret))
theorem bd154:Tryz.f154.body=some (sk154.code Tryz.f154):=by kernel_rfl
def sk155:Sk:=(.seq (.rg 0 false) (.seq (.seq (.rg 1 false) (.cond (.tmp 18) (.seq (.rg 2 true) .ret) .skip)) (.seq (.seq (.rg 3 false) (.seq (.rg 4 false) (.cond (.tmp 23) (.seq (.rg 5 false) .ret) .skip))) (.seq (.seq (.rg 6 false) (.cond (.tmp 31) (.seq (.rg 7 true) .ret) .skip)) (.seq (.seq (.rg 8 false) (.seq (.rg 9 false) (.cond (.tmp 43) (.seq (.rg 10 true) .ret) .skip))) (.seq (.rg 11 false) (.seq (.seq (.rg 12 false) (.block 0 (.loop (.seq (.rg 13 false) (.seq (.cond (.tmp 53) .skip (.exit 0)) (.seq (.block 1 (.seq (.rg 14 false) (.seq (.rg 15 false) (.seq (.rg 16 false) (.cond (.tmp 63) (.rg 17 false) .skip))))) (.rg 18 false))))))) (.seq (.rg 19 false) .ret))))))))
theorem bd155:Tryz.f155.body=some (sk155.code Tryz.f155):=by kernel_rfl
def sk156:Sk:=(.seq (.rg 0 false) (.seq (.seq (.rg 1 false) (.block 0 (.loop (.seq (.rg 2 false) (.seq (.cond (.tmp 13) .skip (.exit 0)) (.seq (.block 1 (.seq (.rg 3 false) (.seq (.rg 4 false) (.seq (.rg 5 false) (.cond (.tmp 19) (.seq (.rg 6 false) .ret) .skip))))) (.rg 7 false))))))) (.seq (.seq (.rg 8 false) (.cond (.tmp 26) (.seq (.rg 9 false) .ret) .skip)) (.seq (.rg 10 false) .ret))))
theorem bd156:Tryz.f156.body=some (sk156.code Tryz.f156):=by kernel_rfl
def sk157:Sk:=(.seq (.rg 0 false) (.seq (.seq (.rg 1 false) (.block 0 (.loop (.seq (.rg 2 false) (.seq (.cond (.tmp 10) .skip (.exit 0)) (.seq (.block 1 (.seq (.rg 3 false) (.seq (.rg 4 false) (.cond (.tmp 19) (.seq (.rg 5 false) .ret) .skip)))) (.rg 6 false))))))) (.seq (.rg 7 false) .ret)))
theorem bd157:Tryz.f157.body=some (sk157.code Tryz.f157):=by kernel_rfl
def sk159:Sk:=(.seq (.rg 0 false) (.seq (.seq (.rg 1 false) (.cond (.tmp 18) (.seq (.rg 2 true) .ret) .skip)) (.seq (.rg 3 false) (.seq (.rg 4 false) (.seq (.seq (.rg 5 false) (.block 0 (.loop (.seq (.rg 6 false) (.seq (.cond (.tmp 24) .skip (.exit 0)) (.seq (.block 1 (.seq (.rg 7 false) (.seq (.rg 8 false) (.seq (.seq (.rg 9 true) (.cond (.tmp 43) (.rg 10 false) .skip)) (.seq (.seq (.rg 11 false) (.cond (.tmp 46) (.seq (.rg 12 false) .ret) .skip)) (.seq (.rg 13 false) (.seq (.rg 14 false) (.block 2 (.loop (.seq (.rg 15 false) (.seq (.cond (.tmp 62) .skip (.exit 2)) (.seq (.block 3 (.seq (.rg 16 false) (.seq (.rg 17 true) (.seq (.seq (.rg 18 false) (.cond (.tmp 85) (.rg 19 false) .skip)) (.rg 20 false))))) (.rg 21 false))))))))))))) (.rg 22 false))))))) (.seq (.rg 23 false) (.seq (.rg 24 false) .ret)))))))
theorem bd159:Tryz.f159.body=some (sk159.code Tryz.f159):=by kernel_rfl
def sk160:Sk:=(.seq (.rg 0 false) (.seq (.seq (.rg 1 false) (.cond (.tmp 7) (.seq (.rg 2 false) .ret) .skip)) (.seq (.rg 3 false) (.seq (.rg 4 true) .ret))))
theorem bd160:Tryz.f160.body=some (sk160.code Tryz.f160):=by kernel_rfl
def sk163:Sk:=(.seq (.rg 0 false) (.seq (.rg 1 false) (.seq (.seq (.rg 2 false) (.block 0 (.loop (.seq (.rg 3 false) (.seq (.cond (.tmp 15) .skip (.exit 0)) (.seq (.block 1 (.seq (.rg 4 false) (.seq (.rg 5 false) (.cond (.tmp 20) (.seq (.seq (.rg 6 false) (.cond (.tmp 26) (.rg 7 false) .skip)) (.seq (.rg 8 false) (.block 2 (.loop (.seq (.rg 9 false) (.seq (.cond (.tmp 37) .skip (.exit 2)) (.seq (.block 3 (.seq (.rg 10 false) (.rg 11 false))) (.rg 12 false)))))))) .skip)))) (.rg 13 false))))))) (.seq (.rg 14 false) (.seq (.seq (.rg 15 false) (.block 4 (.loop (.seq (.rg 16 false) (.seq (.cond (.tmp 52) .skip (.exit 4)) (.seq (.block 5 (.seq (.rg 17 false) (.seq (.rg 18 false) (.cond (.tmp 69) (.rg 19 true) .skip)))) (.rg 20 false))))))) (.seq (.rg 21 false) .ret))))))
theorem bd163:Tryz.f163.body=some (sk163.code Tryz.f163):=by kernel_rfl
def sk164:Sk:=(.seq (.rg 0 false) (.seq (.rg 1 false) (.seq (.seq (.rg 2 false) (.cond (.tmp 6) (.seq (.rg 3 false) .ret) .skip)) (.seq (.rg 4 false) .ret))))
theorem bd164:Tryz.f164.body=some (sk164.code Tryz.f164):=by kernel_rfl
def sk180:Sk:=(.seq (.rg 0 false) (.seq (.rg 1 false) (.seq (.seq (.rg 2 false) (.cond (.tmp 19) (.seq (.rg 3 false) .ret) .skip)) (.seq (.rg 4 false) (.seq (.seq (.rg 5 false) (.cond (.tmp 27) (.seq (.rg 6 false) .ret) .skip)) (.seq (.rg 7 false) (.seq (.rg 8 false) (.seq (.rg 9 false) .ret))))))))
theorem bd180:Tryz.f180.body=some (sk180.code Tryz.f180):=by kernel_rfl
def sk182:Sk:=(.seq (.rg 0 false) (.seq (.rg 1 false) .ret))
theorem bd182:Tryz.f182.body=some (sk182.code Tryz.f182):=by kernel_rfl
def sk183:Sk:=(.seq (.rg 0 false) (.seq (.rg 1 false) .ret))
theorem bd183:Tryz.f183.body=some (sk183.code Tryz.f183):=by kernel_rfl
def sk184:Sk:=(.seq (.rg 0 false) (.seq (.seq (.rg 1 false) (.block 0 (.seq (.rg 2 false) (.cond (.tmp 5) (.seq (.rg 3 false) .ret) (.seq (.rg 4 false) (.cond (.tmp 21) (.seq (.rg 5 false) .ret) .skip)))))) (.seq (.rg 6 false) .ret)))
theorem bd184:Tryz.f184.body=some (sk184.code Tryz.f184):=by kernel_rfl
def sk185:Sk:=(.seq (.rg 0 false) (.seq (.rg 1 false) .ret))
theorem bd185:Tryz.f185.body=some (sk185.code Tryz.f185):=by kernel_rfl
def sk186:Sk:=(.seq (.rg 0 false) (.seq (.rg 1 false) .ret))
theorem bd186:Tryz.f186.body=some (sk186.code Tryz.f186):=by kernel_rfl
def sk187:Sk:=(.seq (.rg 0 false) (.seq (.rg 1 false) .ret))
theorem bd187:Tryz.f187.body=some (sk187.code Tryz.f187):=by kernel_rfl
def sk188:Sk:=(.seq (.rg 0 false) (.seq (.seq (.rg 1 false) (.block 0 (.loop (.seq (.rg 2 false) (.seq (.cond (.tmp 9) .skip (.exit 0)) (.seq (.block 1 (.seq (.rg 3 false) (.seq (.rg 4 false) (.cond (.tmp 16) (.seq (.rg 5 false) .ret) .skip)))) (.rg 6 false))))))) (.seq (.rg 7 false) .ret)))
theorem bd188:Tryz.f188.body=some (sk188.code Tryz.f188):=by kernel_rfl
def sk189:Sk:=(.seq (.rg 0 false) (.seq (.rg 1 false) (.seq (.seq (.rg 2 false) (.block 0 (.loop (.seq (.rg 3 false) (.seq (.cond (.tmp 8) .skip (.exit 0)) (.seq (.block 1 (.seq (.rg 4 false) (.seq (.rg 5 false) (.seq (.rg 6 false) (.block 2 (.loop (.seq (.rg 7 false) (.seq (.cond (.tmp 17) .skip (.exit 2)) (.seq (.block 3 (.rg 8 false)) (.rg 9 false)))))))))) (.rg 10 false))))))) (.seq (.rg 11 false) .ret))))
theorem bd189:Tryz.f189.body=some (sk189.code Tryz.f189):=by kernel_rfl
def sk191:Sk:=(.seq (.rg 0 false) (.seq (.rg 1 false) .ret))
theorem bd191:Tryz.f191.body=some (sk191.code Tryz.f191):=by kernel_rfl
def sk192:Sk:=(.seq (.rg 0 false) (.seq (.rg 1 false) .ret))
theorem bd192:Tryz.f192.body=some (sk192.code Tryz.f192):=by kernel_rfl
def sk195:Sk:=(.seq (.rg 0 false) (.seq (.seq (.rg 1 false) (.seq (.rg 2 false) (.cond (.tmp 11) (.seq (.rg 3 false) .ret) .skip))) (.seq (.rg 4 false) (.seq (.seq (.rg 5 false) (.block 0 (.loop (.seq (.rg 6 false) (.seq (.cond (.tmp 16) .skip (.exit 0)) (.seq (.block 1 (.seq (.rg 7 false) (.rg 8 false))) (.rg 9 false))))))) (.seq (.rg 10 false) .ret)))))
theorem bd195:Tryz.f195.body=some (sk195.code Tryz.f195):=by kernel_rfl
def sk197:Sk:=(.seq (.rg 0 false) (.seq (.rg 1 true) .ret))
theorem bd197:Tryz.f197.body=some (sk197.code Tryz.f197):=by kernel_rfl
def sk198:Sk:=(.seq (.rg 0 false) (.seq (.rg 1 false) (.seq (.seq (.rg 2 false) (.block 0 (.loop (.seq (.rg 3 false) (.seq (.cond (.tmp 9) .skip (.exit 0)) (.seq (.block 1 (.seq (.rg 4 false) (.seq (.rg 5 false) (.cond (.tmp 14) (.seq (.rg 6 false) .ret) .skip)))) (.rg 7 false))))))) (.seq (.rg 8 false) .ret))))
theorem bd198:Tryz.f198.body=some (sk198.code Tryz.f198):=by kernel_rfl
def sk199:Sk:=(.seq (.rg 0 false) (.seq (.rg 1 false) (.seq (.rg 2 false) (.seq (.seq (.rg 3 false) (.cond (.tmp 11) (.seq (.seq (.rg 4 false) (.cond (.tmp 12) (.seq (.rg 5 false) .ret) .skip)) (.seq (.rg 6 false) .ret)) .skip)) (.seq (.seq (.rg 7 false) (.cond (.tmp 13) (.seq (.rg 8 false) .ret) .skip)) (.seq (.seq (.rg 9 false) (.cond (.tmp 16) (.seq (.rg 10 false) .ret) .skip)) (.seq (.seq (.rg 11 false) (.cond (.tmp 19) (.seq (.rg 12 false) .ret) .skip)) (.seq (.rg 13 false) .ret))))))))
theorem bd199:Tryz.f199.body=some (sk199.code Tryz.f199):=by kernel_rfl
def sk200:Sk:=(.seq (.rg 0 false) (.seq (.rg 1 false) (.seq (.seq (.rg 2 false) (.cond (.tmp 12) (.seq (.rg 3 false) .ret) .skip)) (.seq (.seq (.rg 4 false) (.block 0 (.loop (.seq (.seq (.rg 5 false) (.cond (.tmp 19) .skip (.exit 0))) (.seq (.block 1 (.seq (.rg 7 false) (.seq (.rg 8 false) (.cond (.tmp 29) (.seq (.rg 9 false) (.rg 10 false)) .skip)))) (.rg 6 false)))))) (.seq (.rg 11 false) (.seq (.rg 12 false) .ret))))))
theorem bd200:Tryz.f200.body=some (sk200.code Tryz.f200):=by kernel_rfl
def sk201:Sk:=(.seq (.rg 0 false) (.seq (.seq (.rg 1 false) (.cond (.tmp 4) (.seq (.rg 2 false) .ret) .skip)) (.seq (.rg 3 false) .ret)))
theorem bd201:Tryz.f201.body=some (sk201.code Tryz.f201):=by kernel_rfl
def sk202:Sk:=(.seq (.rg 0 false) (.seq (.rg 1 false) .ret))
theorem bd202:Tryz.f202.body=some (sk202.code Tryz.f202):=by kernel_rfl
def sk211:Sk:=(.seq (.rg 0 false) (.seq (.rg 1 true) .ret))
theorem bd211:Tryz.f211.body=some (sk211.code Tryz.f211):=by kernel_rfl
def sk214:Sk:=(.seq (.rg 0 false) (.seq (.seq (.rg 1 false) (.block 0 (.loop (.seq (.rg 2 false) (.seq (.cond (.tmp 9) .skip (.exit 0)) (.seq (.block 1 (.seq (.rg 3 false) (.seq (.rg 4 false) (.cond (.tmp 16) (.seq (.rg 5 false) .ret) .skip)))) (.rg 6 false))))))) (.seq (.rg 7 false) .ret)))
theorem bd214:Tryz.f214.body=some (sk214.code Tryz.f214):=by kernel_rfl
def sk215:Sk:=(.seq (.rg 0 false) (.seq (.seq (.rg 1 false) (.block 0 (.loop (.seq (.rg 2 false) (.seq (.cond (.tmp 9) .skip (.exit 0)) (.seq (.block 1 (.seq (.rg 3 false) (.seq (.rg 4 false) (.cond (.tmp 16) (.seq (.rg 5 false) .ret) .skip)))) (.rg 6 false))))))) (.seq (.rg 7 false) .ret)))
theorem bd215:Tryz.f215.body=some (sk215.code Tryz.f215):=by kernel_rfl
def sk216:Sk:=(.seq (.rg 0 false) (.seq (.seq (.rg 1 false) (.block 0 (.loop (.seq (.rg 2 false) (.seq (.cond (.tmp 9) .skip (.exit 0)) (.seq (.block 1 (.seq (.rg 3 false) (.seq (.rg 4 false) (.cond (.tmp 16) (.seq (.rg 5 false) .ret) .skip)))) (.rg 6 false))))))) (.seq (.rg 7 false) .ret)))
theorem bd216:Tryz.f216.body=some (sk216.code Tryz.f216):=by kernel_rfl
def sk219:Sk:=(.seq (.rg 0 false) (.seq (.rg 1 false) .ret))
theorem bd219:Tryz.f219.body=some (sk219.code Tryz.f219):=by kernel_rfl
def sk220:Sk:=(.seq (.rg 0 false) (.seq (.seq (.rg 1 false) (.block 0 (.loop (.seq (.rg 2 false) (.seq (.cond (.tmp 9) .skip (.exit 0)) (.seq (.block 1 (.seq (.rg 3 false) (.seq (.rg 4 false) (.cond (.tmp 16) (.seq (.rg 5 false) .ret) .skip)))) (.rg 6 false))))))) (.seq (.rg 7 false) .ret)))
theorem bd220:Tryz.f220.body=some (sk220.code Tryz.f220):=by kernel_rfl
end Go.Proofs.YtmkapocibaojdaaGreatDoor
end
section
namespace Go.Sx
open Go
def tsD (dl:List Nat) (nw E:Env):List Nat:=nw.map (·.1)++(E.map (·.1)).filter fun t=>!(dl.contains t||(nw.map (·.1)).contains t)
def eE (dl:List Nat) (nw E:Env):Env:=keepE (nw++E) (tsD dl nw E)
def setO:List (Nat×Obj)→Nat→Obj→List (Nat×Obj)
 | [],_,_=>[]
 | x::h,0,o=>(x.1,o)::h
 | x::h,p+1,o=>x::setO h p o
def hS:List (Nat×Obj)→List (Nat×Obj)→List (Nat×Obj)
 | [],h=>h
 | (p,o)::st,h=>hS st (setO h p o)
def hD (st nb h:List (Nat×Obj)):List (Nat×Obj):=hS st h++nb
def o0:(Nat→Nat)→List (Nat×Obj):=fun _=>[]
theorem oN:AllP []:=trivial
theorem oC {a:Prop} {l:List Prop} (h:a) (t:AllP l):AllP (a::l):=⟨h,t⟩
def eN (dl:List Nat) (nw:(Nat→Nat)→Env) (nu:Nat→Nat) (E:Env):Env:=keepE (nw nu++E) (tsD dl (nw fun _=>0) E)
section
variable {P:Program} {f:Func} [Pan f] {R:Act→World→Prop} {n:Nat} [Dfr n] {k:List Itm} {E:Env} {h r:List (Nat×Obj)} {F:List (List Nat×World)} {Y:Ghost}
theorem Za {id:Nat} {d:Bool} (pl:List Pl) (dl:List Nat) (nw:Env) (H:J P f R n k (eE dl nw E) (h) r F Y) (hok:(regOk f id d (pl.map Pl.key)&&okWp h.length [])=true:=by kernel_rfl) (hr:∀nu,(packed (runReg P n nu f id h.length d pl [] E h r (tsD dl nw E)),trivL (runReg P n nu f id h.length d pl [] E h r (tsD dl nw E)))=(some (eE dl nw E,h,[],[]),trivR (runReg P n nu f id h.length d pl [] E h r (tsD dl nw E))):=by intro _;kernel_rfl) (hm:P.follows .mixedOrders=true:=by kernel_rfl):J P f R n (.c (.rg id d)::k) E h r F Y:=J_reg hm pl [] (tsD dl nw E) hok hr (fun _=>trivial) (fun _=>H)
theorem Zs {id:Nat} {d:Bool} {x:Sk} (pl:List Pl) (dl:List Nat) (nw:Env) (H:J P f R n (.c x::k) (eE dl nw E) (h) r F Y) (hok:(regOk f id d (pl.map Pl.key)&&okWp h.length [])=true:=by kernel_rfl) (hr:∀nu,(packed (runReg P n nu f id h.length d pl [] E h r (tsD dl nw E)),trivL (runReg P n nu f id h.length d pl [] E h r (tsD dl nw E)))=(some (eE dl nw E,h,[],[]),trivR (runReg P n nu f id h.length d pl [] E h r (tsD dl nw E))):=by intro _;kernel_rfl) (hm:P.follows .mixedOrders=true:=by kernel_rfl):J P f R n (.c (.seq (.rg id d) x)::k) E h r F Y:=J_seq (J_reg hm pl [] (tsD dl nw E) hok hr (fun _=>trivial) (fun _=>H))
theorem Zp {id:Nat} {d:Bool} (pl:List Pl) (dl:List Nat) (nw:Env) {p:List Prop} (hp:AllP p) (H:J P f R n k (eE dl nw E) (h) r F Y) (hok:(regOk f id d (pl.map Pl.key)&&okWp h.length [])=true:=by kernel_rfl) (hr:∀nu,(packed (runReg P n nu f id h.length d pl [] E h r (tsD dl nw E)),trivL (runReg P n nu f id h.length d pl [] E h r (tsD dl nw E)))=(some (eE dl nw E,h,p,[]),trivR (runReg P n nu f id h.length d pl [] E h r (tsD dl nw E))):=by intro _;kernel_rfl) (hm:P.follows .mixedOrders=true:=by kernel_rfl):J P f R n (.c (.rg id d)::k) E h r F Y:=J_reg hm pl [] (tsD dl nw E) hok hr (fun _=>hp) (fun _=>H)
theorem Zt {id:Nat} {d:Bool} {x:Sk} (pl:List Pl) (dl:List Nat) (nw:Env) {p:List Prop} (hp:AllP p) (H:J P f R n (.c x::k) (eE dl nw E) (h) r F Y) (hok:(regOk f id d (pl.map Pl.key)&&okWp h.length [])=true:=by kernel_rfl) (hr:∀nu,(packed (runReg P n nu f id h.length d pl [] E h r (tsD dl nw E)),trivL (runReg P n nu f id h.length d pl [] E h r (tsD dl nw E)))=(some (eE dl nw E,h,p,[]),trivR (runReg P n nu f id h.length d pl [] E h r (tsD dl nw E))):=by intro _;kernel_rfl) (hm:P.follows .mixedOrders=true:=by kernel_rfl):J P f R n (.c (.seq (.rg id d) x)::k) E h r F Y:=J_seq (J_reg hm pl [] (tsD dl nw E) hok hr (fun _=>hp) (fun _=>H))
theorem Zm {id:Nat} {d:Bool} (pl:List Pl) (Wp:List (Nat×List Nat)) (dl:List Nat) (nw:(Nat→Nat)→Env) (st nb:(Nat→Nat)→List (Nat×Obj)) (H:∀nu,J P f R n k (eN dl nw nu E) (hD (st nu) (nb nu) h) r F Y) (hok:(regOk f id d (pl.map Pl.key)&&okWp h.length Wp)=true:=by kernel_rfl) (hr:∀nu,(packed (runReg P n nu f id h.length d pl Wp E h r (tsD dl (nw fun _=>0) E)),trivL (runReg P n nu f id h.length d pl Wp E h r (tsD dl (nw fun _=>0) E)))=(some (eN dl nw nu E,hD (st nu) (nb nu) h,[],[]),trivR (runReg P n nu f id h.length d pl Wp E h r (tsD dl (nw fun _=>0) E))):=by intro _;kernel_rfl) (hm:P.follows .mixedOrders=true:=by kernel_rfl):J P f R n (.c (.rg id d)::k) E h r F Y:=J_reg hm pl Wp (tsD dl (nw fun _=>0) E) hok hr (fun _=>trivial) H
theorem Zv {id:Nat} {d:Bool} {x:Sk} (pl:List Pl) (Wp:List (Nat×List Nat)) (dl:List Nat) (nw:(Nat→Nat)→Env) (st nb:(Nat→Nat)→List (Nat×Obj)) (H:∀nu,J P f R n (.c x::k) (eN dl nw nu E) (hD (st nu) (nb nu) h) r F Y) (hok:(regOk f id d (pl.map Pl.key)&&okWp h.length Wp)=true:=by kernel_rfl) (hr:∀nu,(packed (runReg P n nu f id h.length d pl Wp E h r (tsD dl (nw fun _=>0) E)),trivL (runReg P n nu f id h.length d pl Wp E h r (tsD dl (nw fun _=>0) E)))=(some (eN dl nw nu E,hD (st nu) (nb nu) h,[],[]),trivR (runReg P n nu f id h.length d pl Wp E h r (tsD dl (nw fun _=>0) E))):=by intro _;kernel_rfl) (hm:P.follows .mixedOrders=true:=by kernel_rfl):J P f R n (.c (.seq (.rg id d) x)::k) E h r F Y:=J_seq (J_reg hm pl Wp (tsD dl (nw fun _=>0) E) hok hr (fun _=>trivial) H)
theorem Zn {id:Nat} {d:Bool} (pl:List Pl) (Wp:List (Nat×List Nat)) (dl:List Nat) (nw:(Nat→Nat)→Env) (st nb:(Nat→Nat)→List (Nat×Obj)) {p:(Nat→Nat)→List Prop} (hp:∀nu,AllP (p nu)) (H:∀nu,J P f R n k (eN dl nw nu E) (hD (st nu) (nb nu) h) r F Y) (hok:(regOk f id d (pl.map Pl.key)&&okWp h.length Wp)=true:=by kernel_rfl) (hr:∀nu,(packed (runReg P n nu f id h.length d pl Wp E h r (tsD dl (nw fun _=>0) E)),trivL (runReg P n nu f id h.length d pl Wp E h r (tsD dl (nw fun _=>0) E)))=(some (eN dl nw nu E,hD (st nu) (nb nu) h,p nu,[]),trivR (runReg P n nu f id h.length d pl Wp E h r (tsD dl (nw fun _=>0) E))):=by intro _;kernel_rfl) (hm:P.follows .mixedOrders=true:=by kernel_rfl):J P f R n (.c (.rg id d)::k) E h r F Y:=J_reg hm pl Wp (tsD dl (nw fun _=>0) E) hok hr hp H
theorem Zu {id:Nat} {d:Bool} {x:Sk} (pl:List Pl) (Wp:List (Nat×List Nat)) (dl:List Nat) (nw:(Nat→Nat)→Env) (st nb:(Nat→Nat)→List (Nat×Obj)) {p:(Nat→Nat)→List Prop} (hp:∀nu,AllP (p nu)) (H:∀nu,J P f R n (.c x::k) (eN dl nw nu E) (hD (st nu) (nb nu) h) r F Y) (hok:(regOk f id d (pl.map Pl.key)&&okWp h.length Wp)=true:=by kernel_rfl) (hr:∀nu,(packed (runReg P n nu f id h.length d pl Wp E h r (tsD dl (nw fun _=>0) E)),trivL (runReg P n nu f id h.length d pl Wp E h r (tsD dl (nw fun _=>0) E)))=(some (eN dl nw nu E,hD (st nu) (nb nu) h,p nu,[]),trivR (runReg P n nu f id h.length d pl Wp E h r (tsD dl (nw fun _=>0) E))):=by intro _;kernel_rfl) (hm:P.follows .mixedOrders=true:=by kernel_rfl):J P f R n (.c (.seq (.rg id d) x)::k) E h r F Y:=J_seq (J_reg hm pl Wp (tsD dl (nw fun _=>0) E) hok hr hp H)
theorem Ya {id L0:Nat} {ck:Bool} {Wp:List (Nat×List Nat)} {plan:List (Nat×Bool)} (pl:List Pl) (dl:List Nat) (nw:Env) (H:JR P f R n (rgOf f id) L0 ck (plan.drop pl.length) Wp k (eE dl nw E) (h) r F Y) (hk:plan.take pl.length=pl.map Pl.key:=by kernel_rfl) (hr:∀nu,(packed (runReg P n nu f id L0 ck pl Wp E h r (tsD dl nw E)),trivL (runReg P n nu f id L0 ck pl Wp E h r (tsD dl nw E)))=(some (eE dl nw E,h,[],Wp),trivR (runReg P n nu f id L0 ck pl Wp E h r (tsD dl nw E))):=by intro _;kernel_rfl):JR P f R n (rgOf f id) L0 ck plan Wp k E h r F Y:=by
 have:=JR_run (rest:=plan.drop pl.length) pl (tsD dl nw E) hr (fun _=>trivial) (fun _=>H)
 rwa[←hk,List.take_append_drop]at this
theorem Yp {id L0:Nat} {ck:Bool} {Wp:List (Nat×List Nat)} {plan:List (Nat×Bool)} (pl:List Pl) (dl:List Nat) (nw:Env) {p:List Prop} (hp:AllP p) (H:JR P f R n (rgOf f id) L0 ck (plan.drop pl.length) Wp k (eE dl nw E) (h) r F Y) (hk:plan.take pl.length=pl.map Pl.key:=by kernel_rfl) (hr:∀nu,(packed (runReg P n nu f id L0 ck pl Wp E h r (tsD dl nw E)),trivL (runReg P n nu f id L0 ck pl Wp E h r (tsD dl nw E)))=(some (eE dl nw E,h,p,Wp),trivR (runReg P n nu f id L0 ck pl Wp E h r (tsD dl nw E))):=by intro _;kernel_rfl):JR P f R n (rgOf f id) L0 ck plan Wp k E h r F Y:=by
 have:=JR_run (rest:=plan.drop pl.length) pl (tsD dl nw E) hr (fun _=>hp) (fun _=>H)
 rwa[←hk,List.take_append_drop]at this
theorem Ym {id L0:Nat} {ck:Bool} {Wp:List (Nat×List Nat)} {plan:List (Nat×Bool)} (pl:List Pl) (dl:List Nat) (nw:(Nat→Nat)→Env) (st nb:(Nat→Nat)→List (Nat×Obj)) (W1:List (Nat×List Nat)) (H:∀nu,JR P f R n (rgOf f id) L0 ck (plan.drop pl.length) W1 k (eN dl nw nu E) (hD (st nu) (nb nu) h) r F Y) (hk:plan.take pl.length=pl.map Pl.key:=by kernel_rfl) (hr:∀nu,(packed (runReg P n nu f id L0 ck pl Wp E h r (tsD dl (nw fun _=>0) E)),trivL (runReg P n nu f id L0 ck pl Wp E h r (tsD dl (nw fun _=>0) E)))=(some (eN dl nw nu E,hD (st nu) (nb nu) h,[],W1),trivR (runReg P n nu f id L0 ck pl Wp E h r (tsD dl (nw fun _=>0) E))):=by intro _;kernel_rfl):JR P f R n (rgOf f id) L0 ck plan Wp k E h r F Y:=by
 have:=JR_run (rest:=plan.drop pl.length) pl (tsD dl (nw fun _=>0) E) hr (fun _=>trivial) H
 rwa[←hk,List.take_append_drop]at this
theorem Yn {id L0:Nat} {ck:Bool} {Wp:List (Nat×List Nat)} {plan:List (Nat×Bool)} (pl:List Pl) (dl:List Nat) (nw:(Nat→Nat)→Env) (st nb:(Nat→Nat)→List (Nat×Obj)) (W1:List (Nat×List Nat)) {p:(Nat→Nat)→List Prop} (hp:∀nu,AllP (p nu)) (H:∀nu,JR P f R n (rgOf f id) L0 ck (plan.drop pl.length) W1 k (eN dl nw nu E) (hD (st nu) (nb nu) h) r F Y) (hk:plan.take pl.length=pl.map Pl.key:=by kernel_rfl) (hr:∀nu,(packed (runReg P n nu f id L0 ck pl Wp E h r (tsD dl (nw fun _=>0) E)),trivL (runReg P n nu f id L0 ck pl Wp E h r (tsD dl (nw fun _=>0) E)))=(some (eN dl nw nu E,hD (st nu) (nb nu) h,p nu,W1),trivR (runReg P n nu f id L0 ck pl Wp E h r (tsD dl (nw fun _=>0) E))):=by intro _;kernel_rfl):JR P f R n (rgOf f id) L0 ck plan Wp k E h r F Y:=by
 have:=JR_run (rest:=plan.drop pl.length) pl (tsD dl (nw fun _=>0) E) hr hp H
 rwa[←hk,List.take_append_drop]at this
theorem Yc {S0:Nat→Prop} {C0:List Chunk} {G0:List (Value×D)} {id L0 i:Nat} {ck:Bool} {Wp:List (Nat×List Nat)} {rest:List (Nat×Bool)} (fid:FuncId) (args:Array Value) (dst:Option Tmp)
  (C:∀w S,AllG w S G0→Calls P fid args w fun e w'=>∃v C' G',Ret [] w S w' e v C' G' ∧
   JR P f R n (rgOf f id) L0 ck rest (Wp.filter (·.1 != i)) k (E.put dst (.val v)) h r F ⟨S0,C0++C',G0++G'⟩)
  (he:chkC (callOf P n (rgOf f id) h r E i [])=(some (fid,args,dst),trivC (callOf P n (rgOf f id) h r E i []),0):=by kernel_rfl) :
  JR P f R n (rgOf f id) L0 ck ((i,false)::rest) Wp k E h r F ⟨S0,C0,G0⟩:=JR_callp [] fid args dst he C
theorem Yr {n:Nat} {Rr:Ending→World→Prop} (hss:List (List Hn)) (v:Value) (H:∀a w,St n E h r F Y a w→Rr (.returned v) w)
  (he:chkV (retV P f E h r hss)=(some v,trivV (retV P f E h r hss),0):=by kernel_rfl):J P f (retR P f Rr) n (.c .ret::k) E h r F Y:=J_return hss v he H
theorem Nm {S0:Nat→Prop} {C0:List Chunk} {G0:List (Value×D)} (C':List Chunk) (H:J P f R n k E h r F ⟨S0,C',G0⟩) (hC:C0=C':=by kernel_rfl):J P f R n k E h r F ⟨S0,C0,G0⟩:=by
 subst hC
 exact H
theorem jS {id:Nat} {d:Bool} {x:Sk} (plan:List (Nat×Bool)) (Wp:List (Nat×List Nat)) (H:JR P f R n (rgOf f id) h.length d plan Wp (.c x::k) E h r F Y) (hok:regOk f id d plan=true:=by kernel_rfl) (hWp:okWp h.length Wp=true:=by kernel_rfl) (hm:P.follows .mixedOrders=true:=by kernel_rfl):J P f R n (.c (.seq (.rg id d) x)::k) E h r F Y:=J_seq (JR_begin hm plan Wp hok hWp H)
theorem jT {id:Nat} {d:Bool} (plan:List (Nat×Bool)) (Wp:List (Nat×List Nat)) (H:JR P f R n (rgOf f id) h.length d plan Wp k E h r F Y) (hok:regOk f id d plan=true:=by kernel_rfl) (hWp:okWp h.length Wp=true:=by kernel_rfl) (hm:P.follows .mixedOrders=true:=by kernel_rfl):J P f R n (.c (.rg id d)::k) E h r F Y:=JR_begin hm plan Wp hok hWp H
end
theorem aQ {α:Type _}:(∀(a:α) (l m:List α),a::l++m=a::(l++m))∧(∀l:List α,[]++l=l)∧∀l:List α,l++[]=l:=⟨fun _ _ _=>List.cons_append,List.nil_append,List.append_nil⟩
def Rds (a b:Nat):List Pl:=(List.range (b - a)).map fun i=>.rd (a+i) [] 0 0
def hnO (p m:Nat):List Hn:=List.replicate m (.o p none)
end Go.Sx
end
section
namespace Go.Proofs.YtmkapocibaojdaaGreatDoor
open Go Go.Sx
set_option maxHeartbeats 4000000 in
theorem rep_none {w:World} {S:Nat→Prop} {n c k:Nat} {rows:List (List D)} (h:Rep w S (.slice none n c) (.sl k rows)):rows=[]:=by cases h;rfl
set_option maxHeartbeats 4000000 in
theorem cloneInts {w0:World} {S:Nat→Prop} {a:Option Addr} {n c:Nat} {xs:List Int} (ha:Rep w0 S (.slice a n c) (.sl 1 (xs.map eI))) (hl:xs.length≤1000000) :
  Calls Tryz.prog 101 #[.slice a n c] w0 fun e w'=>∃a' c',Ret [] w0 S w' e (.slice a' n c') [cAcc (.slice a' n c') 3 1 (xs.map eI)] []:=by
 have hlen:=ha.slen
 rw[List.length_map]at hlen
 subst hlen
 cases a with
 | none=>
  have h0:xs=[]:=by simpa using rep_none ha
  subst h0
  refine epG Tryz.func101 bd101 (args:=[.slice none ([]:List Int).length c]) (S:=S) (G:=[]) (by kernel_rfl) (.nil _ _) ?_
  refine J_stp (stp_accm eI 3 1) ?_
  try simp only[aQ]
  refine Zs [zR 0] [] [zS 2 none 0 0] ?_
  refine J_seq ?_
  refine Zs [zR 0,zR 1] [] [zB 4 true] ?_
  refine cTt ?_
  refine Zs [zR 0] [4] [] ?_
  refine Yr [[]] (.slice none 0 0) fun a w s=>?_
  exact⟨none,0,s.ret (by simp) [0] [] rfl rfl⟩
 | some ad=>
  refine epG Tryz.func101 bd101 (args:=[.slice (some ad) xs.length c]) (G:=[(_,.sl 1 (xs.map eI))]) (by kernel_rfl) (.cons ha (.nil _ _)) ?_
  refine Zs [zR 0] [] [zS 2 none 0 0] ?_
  refine J_seq ?_
  refine Zs [zR 0,zR 1] [] [zB 4 false] ?_
  refine cF ?_
  refine J_skip ?_
  refine jS [(0,false),(1,true),(2,false),(3,true)] [] ?_
  refine Ym [.wr 0 [] 0,zR 1] [4,0] (fun nu1=>[zS 5 (sA (nu1 0) 0) 0 0,zS 6 (some ad) xs.length c]) o0 (fun nu1=>[(nu1 0,.cells #[] 3 (0,0))]) [] (fun nu1=>?_)
  refine JR_acczm eI 0 1 rfl (by kernel_rfl) (by decide) ?_
  refine JR_appm 0 32 3 1 8 (.int .i64 0) (a0:=(some (⟨nu1 0,0,none⟩))) (len:=0) (cap0:=0) (ax:=(some ad)) (m:=xs.length) (c:=c) (dst:=(some 7)) xs (by kernel_rfl) (by kernel_rfl) (by kernel_rfl) (by kernel_rfl) rfl (by decide) rfl (fun _ _ _ s=>src_fact s 0 rfl (by decide)) (by simp only[maxLen];omega) (by omega) (fun av1 cv1=>?_)
  rw[Nat.zero_add]
  try simp only[aQ]
  refine Ya [zR 3] [7,5,6] [zS 2 av1 xs.length cv1] ?_
  try simp only[aQ]
  refine JR_end ?_
  try simp only[aQ]
  refine Yr [[]] (.slice av1 xs.length cv1) fun a w s=>?_
  exact⟨_,_,s.ret (by simp) [0] [] rfl rfl⟩
set_option maxHeartbeats 4000000 in
theorem cloneOps {w0:World} {S:Nat→Prop} {a:Option Addr} {n c:Nat} {xs:List OpT} (ha:Rep w0 S (.slice a n c) (.sl 7 (xs.map eOp))) (hl:xs.length≤1000000) :
  Calls Tryz.prog 142 #[.slice a n c] w0 fun e w'=>∃a' c',Ret [] w0 S w' e (.slice a' n c') [cAcc (.slice a' n c') 55 7 (xs.map eOp)] []:=by
 have hlen:=ha.slen
 rw[List.length_map]at hlen
 subst hlen
 cases a with
 | none=>
  have h0:xs=[]:=by simpa using rep_none ha
  subst h0
  refine epG Tryz.func142 bd142 (args:=[.slice none ([]:List OpT).length c]) (S:=S) (G:=[]) (by kernel_rfl) (.nil _ _) ?_
  refine J_stp (stp_accm eOp 55 7) ?_
  try simp only[aQ]
  refine Zs [zR 0] [] [zS 2 none 0 0] ?_
  refine J_seq ?_
  refine Zs [zR 0,zR 1] [] [zB 4 true] ?_
  refine cTt ?_
  refine Zs [zR 0] [4] [] ?_
  refine Yr [[]] (.slice none 0 0) fun a w s=>?_
  exact⟨none,0,s.ret (by simp) [0] [] rfl rfl⟩
 | some ad=>
  refine epG Tryz.func142 bd142 (args:=[.slice (some ad) xs.length c]) (G:=[(_,.sl 7 (xs.map eOp))]) (by kernel_rfl) (.cons ha (.nil _ _)) ?_
  refine Zs [zR 0] [] [zS 2 none 0 0] ?_
  refine J_seq ?_
  refine Zs [zR 0,zR 1] [] [zB 4 false] ?_
  refine cF ?_
  refine J_skip ?_
  refine jS [(0,false),(1,true),(2,false),(3,true)] [] ?_
  refine Ym [.wr 0 [] 0,zR 1] [4,0] (fun nu1=>[zS 5 (sA (nu1 0) 0) 0 0,zS 6 (some ad) xs.length c]) o0 (fun nu1=>[(nu1 0,.cells #[] 55 (0,0))]) [] (fun nu1=>?_)
  refine JR_acczm eOp 0 7 rfl (by kernel_rfl) (by decide) ?_
  refine JR_appm 0 33 55 7 88 (.agg #[.int .i64 0,.string (ByteArray.mk #[]),.int .i64 0,.string (ByteArray.mk #[]),.int .i64 0,.bool false,.slice none 0 0]) (a0:=(some (⟨nu1 0,0,none⟩))) (len:=0) (cap0:=0) (ax:=(some ad)) (m:=xs.length) (c:=c) (dst:=(some 7)) xs (by kernel_rfl) (by kernel_rfl) (by kernel_rfl) (by kernel_rfl) rfl (by decide) rfl (fun _ _ _ s=>src_fact s 0 rfl (by decide)) (by simp only[maxLen];omega) (by omega) (fun av1 cv1=>?_)
  rw[Nat.zero_add]
  try simp only[aQ]
  refine Ya [zR 3] [7,5,6] [zS 2 av1 xs.length cv1] ?_
  try simp only[aQ]
  refine JR_end ?_
  try simp only[aQ]
  refine Yr [[]] (.slice av1 xs.length cv1) fun a w s=>?_
  exact⟨_,_,s.ret (by simp) [0] [] rfl rfl⟩
set_option maxHeartbeats 4000000 in
theorem cloneDots {w0:World} {S:Nat→Prop} {a:Option Addr} {n c:Nat} {xs:List DotT} (ha:Rep w0 S (.slice a n c) (.sl 3 (xs.map eDot))) (hl:xs.length≤1000000) :
  Calls Tryz.prog 143 #[.slice a n c] w0 fun e w'=>∃a' c',Ret [] w0 S w' e (.slice a' n c') [cAcc (.slice a' n c') 177 3 (xs.map eDot)] []:=by
 have hlen:=ha.slen
 rw[List.length_map]at hlen
 subst hlen
 cases a with
 | none=>
  have h0:xs=[]:=by simpa using rep_none ha
  subst h0
  refine epG Tryz.func143 bd143 (args:=[.slice none ([]:List DotT).length c]) (S:=S) (G:=[]) (by kernel_rfl) (.nil _ _) ?_
  refine J_stp (stp_accm eDot 177 3) ?_
  try simp only[aQ]
  refine Zs [zR 0] [] [zS 2 none 0 0] ?_
  refine J_seq ?_
  refine Zs [zR 0,zR 1] [] [zB 4 true] ?_
  refine cTt ?_
  refine Zs [zR 0] [4] [] ?_
  refine Yr [[]] (.slice none 0 0) fun a w s=>?_
  exact⟨none,0,s.ret (by simp) [0] [] rfl rfl⟩
 | some ad=>
  refine epG Tryz.func143 bd143 (args:=[.slice (some ad) xs.length c]) (G:=[(_,.sl 3 (xs.map eDot))]) (by kernel_rfl) (.cons ha (.nil _ _)) ?_
  refine Zs [zR 0] [] [zS 2 none 0 0] ?_
  refine J_seq ?_
  refine Zs [zR 0,zR 1] [] [zB 4 false] ?_
  refine cF ?_
  refine J_skip ?_
  refine jS [(0,false),(1,true),(2,false),(3,true)] [] ?_
  refine Ym [.wr 0 [] 0,zR 1] [4,0] (fun nu1=>[zS 5 (sA (nu1 0) 0) 0 0,zS 6 (some ad) xs.length c]) o0 (fun nu1=>[(nu1 0,.cells #[] 177 (0,0))]) [] (fun nu1=>?_)
  refine JR_acczm eDot 0 3 rfl (by kernel_rfl) (by decide) ?_
  refine JR_appm 0 53 177 3 24 (.agg #[.int .i64 0,.int .i64 0,.int .i64 0]) (a0:=(some (⟨nu1 0,0,none⟩))) (len:=0) (cap0:=0) (ax:=(some ad)) (m:=xs.length) (c:=c) (dst:=(some 7)) xs (by kernel_rfl) (by kernel_rfl) (by kernel_rfl) (by kernel_rfl) rfl (by decide) rfl (fun _ _ _ s=>src_fact s 0 rfl (by decide)) (by simp only[maxLen];omega) (by omega) (fun av1 cv1=>?_)
  rw[Nat.zero_add]
  try simp only[aQ]
  refine Ya [zR 3] [7,5,6] [zS 2 av1 xs.length cv1] ?_
  try simp only[aQ]
  refine JR_end ?_
  try simp only[aQ]
  refine Yr [[]] (.slice av1 xs.length cv1) fun a w s=>?_
  exact⟨_,_,s.ret (by simp) [0] [] rfl rfl⟩
end Go.Proofs.YtmkapocibaojdaaGreatDoor
end
section
namespace Go.Proofs.YtmkapocibaojdaaGreatDoor
open Go Go.Sx
set_option maxHeartbeats 4000000 in
theorem partI {P:Program} {t:TypeId} {w:World} {cs:Array Value} {off:Nat} {v:Value} (ht:P.underlying t=some (.int .i64)) (hv:cs[off]?=some v):(part t cs off).run P w=.ok v w:=by
 simp[part,isAgg,underlying,ht,hv,Result.andThen]
set_option maxHeartbeats 4000000 in
theorem eqInt {P:Program} {t:TypeId} (ht:P.underlying t=some (.int .i64)) (d:Nat) (x y:Int) (w:World):(Op.equalIn (d+1) t (.int .i64 x) (.int .i64 y)).run P w=.ok (x==y) w:=by
 simp[Op.equalIn,run_underlying ht]
set_option maxHeartbeats 4000000 in
theorem eqDot (d:Nat) (a b c a' b' c':Int) (w:World):(Op.equalIn (d+2) 177 (.agg #[.int .i64 a,.int .i64 b,.int .i64 c]) (.agg #[.int .i64 a',.int .i64 b',.int .i64 c'])).run Tryz.prog w=.ok (decide (a=a'∧b=b'∧c=c')) w:=by
 have hs:Tryz.prog.stoodInHeld 177=false:=by kernel_rfl
 rw[Op.equalIn]
 by_cases h1:a=a' <;> by_cases h2:b=b' <;> by_cases h3:c=c' <;>
 simp[run_underlying Tryz.underlying177,hs,eqInt Tryz.underlying3,partI Tryz.underlying3,Result.andThen,h1,h2,h3]
end Go.Proofs.YtmkapocibaojdaaGreatDoor
end
section
namespace Go.Sx
open Go Go.MapKept
structure KeyOk (P:Program) (kt:TypeId) (ok:Value→Prop):Prop where
 chk:∀(b:Bool) (k:Value),ok k→∀w,(Instr.checkKey b 10000 kt k).run P w=.ok () w
 find:∀(k:Value) (es:List MapEntry),ok k→(∀x∈es,ok x.key)→((∀w,(Instr.findKey kt k es).run P w=.ok none w)∧∀x∈es,x.key≠k)∨∃j e,(∀w,(Instr.findKey kt k es).run P w=.ok (some (j,e.val)) w)∧es[j]?=some e∧e.key=k
 stays:∀k,ok k→∀w,(Instr.keyThatStays k k).run P w=.ok k w
theorem KeyOk.plain {P:Program} {kt:TypeId} {d:TypeDesc} (hd:P.underlying kt=some d):KeyOk P kt (IsKey d) where
 chk b k hk w:=run_checkKey hd hk b 9999
 find k es hk hes:=by
  rcases findNow_spec hk es 0 hes with ⟨h1,h2⟩|⟨j,e,h1,h2,h3⟩
  ·exact .inl ⟨fun w=>run_findKey hd h1,h2⟩
  ·rw[Nat.zero_add]at h1
   exact .inr ⟨j,e,fun w=>run_findKey hd h1,h2,h3⟩
 stays k hk w:=run_keyThatStays hk
theorem findAsking_spec {P:Program} {kt:TypeId} {ok:Value→Prop} (heq:∀x y,ok x→ok y→∃b:Bool,(∀w,(Op.equal kt x y).run P w=.ok b w)∧(b=true↔x=y)) {k:Value} (hk:ok k):∀(l:List MapEntry) (i:Nat),(∀x∈l,ok x.key) →
  ((∀w,(Instr.findAsking kt k l i).run P w=.ok none w)∧∀x∈l,x.key≠k)∨∃j e,(∀w,(Instr.findAsking kt k l i).run P w=.ok (some (i+j,e.val)) w)∧l[j]?=some e∧e.key=k
 | [],_,_=>.inl ⟨fun _=>rfl,by simp⟩
 | e::es,i,h=>by
  obtain⟨b,hb,hiff⟩:=heq k e.key hk (h e (.head _))
  cases b with
  | true=>
   refine .inr ⟨0,e,fun w=>?_,rfl,(hiff.1 rfl).symm⟩
   simp[Instr.findAsking,hb,Result.andThen]
  | false=>
   have hne:e.key≠k:=fun he=>by
    have:=hiff.2 he.symm
    cases this
   rcases findAsking_spec heq hk es (i+1) fun x hx=>h x (.tail _ hx)with ⟨h1,h2⟩|⟨j,e',h1,h2,h3⟩
   ·refine .inl ⟨fun w=>?_,fun x hx=>?_⟩
    ·simp[Instr.findAsking,hb,Result.andThen,h1]
    ·rcases List.mem_cons.1 hx with rfl|hx
     ·exact hne
     ·exact h2 x hx
   ·refine .inr ⟨j+1,e',fun w=>?_,by simpa using h2,h3⟩
    simp[Instr.findAsking,hb,Result.andThen,h1]
    omega
theorem KeyOk.asking {P:Program} {kt:TypeId} {ok:Value→Prop} {d:TypeDesc} (hd:P.underlying kt=some d) (hn:∀x y,ok x→ok y→Instr.sameNow d x y=none)
  (chk:∀(b:Bool) (k:Value),ok k→∀w,(Instr.checkKey b 10000 kt k).run P w=.ok () w) (heq:∀x y,ok x→ok y→∃b:Bool,(∀w,(Op.equal kt x y).run P w=.ok b w)∧(b=true↔x=y))
  (stays:∀k,ok k→Instr.sameBits 10000 k k=true):KeyOk P kt ok where
 chk:=chk
 find k es hk hes:=by
  cases es with
  | nil=>exact .inl ⟨fun w=>by simp[Instr.findKey,run_underlying hd,Result.andThen,Instr.findNow],by simp⟩
  | cons e es=>
   have h0:Instr.findNow d k (e::es) 0=none:=by simp[Instr.findNow,hn k e.key hk (hes e (.head _))]
   rcases findAsking_spec heq hk (e::es) 0 hes with ⟨h1,h2⟩|⟨j,e',h1,h2,h3⟩
   ·exact .inl ⟨fun w=>by simp[Instr.findKey,run_underlying hd,Result.andThen,h0,h1],h2⟩
   ·rw[Nat.zero_add]at h1
    exact .inr ⟨j,e',fun w=>by simp[Instr.findKey,run_underlying hd,Result.andThen,h0,h1],h2,h3⟩
 stays k hk w:=by simp[Instr.keyThatStays,stays k hk]
theorem key_modify {ok:Value→Prop} {es:Array MapEntry} (h:∀x∈es.toList,ok x.key) (i:Nat) (f:MapEntry→MapEntry) (hk:∀e,es[i]?=some e→(f e).key=e.key):∀x∈(es.modify i f).toList,ok x.key:=by
 intro x hx
 have:x.key∈(es.modify i f).toList.map (·.key):=List.mem_map.2 ⟨x,hx,rfl⟩
 rw[modify_keys i f hk]at this
 obtain⟨y,hy,e⟩:=List.mem_map.1 this
 rw[←e];exact h y hy
structure MapG (ok:Value→Prop) (es:Array MapEntry) (f:Value→Option Value):Prop where
 key:∀x∈es.toList,ok x.key
 nodup:(es.toList.map (·.key)).Nodup
 val:∀x∈es.toList,f x.key=some x.val
 has:∀k v,f k=some v→∃x∈es.toList,x.key=k
theorem MapG.empty (ok:Value→Prop):MapG ok #[] (fun _=>none):=⟨by simp,by simp,by simp,by simp⟩
theorem MapG.congr {ok:Value→Prop} {es:Array MapEntry} {f g:Value→Option Value} (h:MapG ok es f) (hfg:∀k,f k=g k):MapG ok es g:=by
 obtain rfl:f=g:=funext hfg
 exact h
theorem MapG.look {P:Program} {kt:TypeId} {ok:Value→Prop} (hK:KeyOk P kt ok) {es:Array MapEntry} {f:Value→Option Value} (h:MapG ok es f) {k:Value} (hk:ok k) :
  ((∀w,(Instr.findKey kt k es.toList).run P w=.ok none w)∧f k=none∧∀x∈es.toList,x.key≠k)∨∃j e,(∀w,(Instr.findKey kt k es.toList).run P w=.ok (some (j,e.val)) w)∧es.toList[j]?=some e∧e.key=k∧f k=some e.val:=by
 rcases hK.find k es.toList hk h.key with ⟨h1,h2⟩|⟨j,e,h1,h2,h3⟩
 ·refine .inl ⟨h1,?_,h2⟩
  cases hf:f k with
  | none=>rfl
  | some v=>
   obtain⟨x,hx,hxk⟩:=h.has k v hf
   exact absurd hxk (h2 x hx)
 ·refine .inr ⟨j,e,h1,h2,h3,?_⟩
  rw[←h3]
  exact h.val e (List.mem_of_getElem? h2)
theorem MapG.other {ok:Value→Prop} {es:Array MapEntry} {f:Value→Option Value} (h:MapG ok es f) {j i:Nat} {e x:MapEntry} (hj:es.toList[j]?=some e) (hi:es.toList[i]?=some x) (hne:i≠j):x.key≠e.key:=by
 intro he
 have h1:(es.toList.map (·.key))[i]?=some x.key:=by rw[List.getElem?_map,hi];rfl
 have h2:(es.toList.map (·.key))[j]?=some x.key:=by rw[List.getElem?_map,hj,he];rfl
 exact hne ((List.getElem?_inj (List.getElem?_eq_some_iff.1 h1).1 h.nodup).1 (h1.trans h2.symm))
theorem MapG.push {ok:Value→Prop} {es:Array MapEntry} {f:Value→Option Value} (h:MapG ok es f) {k v:Value} {born:Nat} (hk:ok k) (hn:∀x∈es.toList,x.key≠k):MapG ok (es.push ⟨k,v,born⟩) (fput f k v):=by
 refine⟨fun x hx=>?_,?_,fun x hx=>?_,fun q u hq=>?_⟩
 ·simp only[Array.toList_push,List.mem_append,List.mem_singleton]at hx
  rcases hx with hx|rfl
  ·exact h.key x hx
  ·exact hk
 ·simp only[Array.toList_push,List.map_append,List.map_cons,List.map_nil]
  refine List.nodup_append.2 ⟨h.nodup,by simp,fun a ha b hb=>?_⟩
  simp only[List.mem_singleton]at hb
  subst hb
  obtain⟨x,hx,rfl⟩:=List.mem_map.1 ha
  exact hn x hx
 ·simp only[Array.toList_push,List.mem_append,List.mem_singleton]at hx
  rcases hx with hx|rfl
  ·simp[fput,hn x hx,h.val x hx]
  ·simp[fput]
 ·by_cases hqk:q=k
  ·exact⟨⟨k,v,born⟩,by simp,hqk.symm⟩
  ·simp only[fput,if_neg hqk]at hq
   obtain⟨x,hx,hxk⟩:=h.has q u hq
   exact⟨x,by simp[hx],hxk⟩
theorem MapG.turn {ok:Value→Prop} {es:Array MapEntry} {f:Value→Option Value} (h:MapG ok es f) {k v:Value} {j:Nat} {e:MapEntry} (hj:es.toList[j]?=some e) (he:e.key=k):MapG ok (es.modify j fun x=>{ x with key:=k,val:=v }) (fput f k v):=by
 subst he
 have hj':es[j]?=some e:=by simpa using hj
 have hkeys:(es.modify j fun x=>{ x with key:=e.key,val:=v }).toList.map (·.key)=es.toList.map (·.key):=modify_keys j _ (fun x hx=>by rw[hj']at hx;cases hx;rfl)
 have who:∀x∈(es.modify j fun x=>{ x with key:=e.key,val:=v }).toList,(x.key=e.key∧x.val=v)∨(x∈es.toList∧x.key≠e.key):=fun x hx=>by
  obtain⟨i,hi⟩:=List.getElem?_of_mem hx
  rw[Array.getElem?_toList,Array.getElem?_modify]at hi
  by_cases hij:j=i
  ·subst hij
   rw[if_pos rfl,hj']at hi
   simp only[Option.map_some,Option.some.injEq]at hi
   rw[←hi]
   exact .inl ⟨rfl,rfl⟩
  ·rw[if_neg hij]at hi
   exact .inr ⟨Array.mem_toList_iff.2 (Array.mem_of_getElem? hi),h.other hj (by simpa using hi) (Ne.symm hij)⟩
 refine⟨key_modify h.key j _ (fun x hx=>by rw[hj']at hx;cases hx;rfl),by rw[hkeys];exact h.nodup,fun x hx=>?_,fun q u hq=>?_⟩
 ·rcases who x hx with ⟨h1,h2⟩|⟨h1,h2⟩
  ·simp[fput,h1,h2]
  ·simp[fput,h2,h.val x h1]
 ·have hmem:q∈es.toList.map (·.key):=by
   by_cases hqk:q=e.key
   ·rw[hqk];exact List.mem_map.2 ⟨e,List.mem_of_getElem? hj,rfl⟩
   ·simp only[fput,if_neg hqk]at hq
    obtain⟨x,hx,hxk⟩:=h.has q u hq
    exact List.mem_map.2 ⟨x,hx,hxk⟩
  rw[←hkeys]at hmem
  obtain⟨x,hx,hxk⟩:=List.mem_map.1 hmem
  exact⟨x,hx,hxk⟩
theorem MapG.drop {ok:Value→Prop} {es:Array MapEntry} {f:Value→Option Value} (h:MapG ok es f) {k:Value} {j:Nat} {e:MapEntry} (hj:es.toList[j]?=some e) (he:e.key=k):MapG ok (es.eraseIdxIfInBounds j) (fdel f k):=by
 subst he
 have hlt:j<es.size:=by simpa using(List.getElem?_eq_some_iff.1 hj).1
 have hl:(es.eraseIdxIfInBounds j).toList=es.toList.eraseIdx j:=by
  unfold Array.eraseIdxIfInBounds
  rw[dif_pos hlt]
  simp
 have hsub:=List.eraseIdx_sublist es.toList j
 refine⟨fun x hx=>?_,?_,fun x hx=>?_,fun q u hq=>?_⟩
 ·rw[hl]at hx
  exact h.key x (hsub.subset hx)
 ·rw[hl]
  exact(hsub.map _).nodup h.nodup
 ·rw[hl]at hx
  obtain⟨i,hne,hi⟩:=List.mem_eraseIdx_iff_getElem?.1 hx
  simp[fdel,h.other hj hi hne,h.val x (hsub.subset hx)]
 ·by_cases hqk:q=e.key
  ·simp[fdel,hqk]at hq
  ·simp only[fdel,if_neg hqk]at hq
   obtain⟨x,hx,hxk⟩:=h.has q u hq
   obtain⟨i,hi⟩:=List.getElem?_of_mem hx
   refine⟨x,?_,hxk⟩
   rw[hl]
   refine List.mem_eraseIdx_iff_getElem?.2 ⟨i,fun hij=>hqk ?_,hi⟩
   subst hij
   rw[hj]at hi
   cases hi
   exact hxk.symm
section maps
variable {P:Program} {f:Func} [Pan f] {R:Act→World→Prop} {n:Nat} [Dfr n] {k:List Itm} {E:Env} {h r:List (Nat×Obj)} {F:List (List Nat×World)} {Y:Ghost}
theorem JRg_lookr {id L0 i:Nat} {ck:Bool} {Wp:List (Nat×List Nat)} {rest:List (Nat×Bool)} (hn:Hn) (b t kt et:Nat) (ok:Value→Prop) (key z:Value) (c:Bool) (dst:Option Tmp) {es:Array MapEntry} {clock:Nat} {g:Value→Option Value}
  (he:lookOf n (rgOf f id) E i=some (.map (some b),key,t,c,dst)) (hok:(!ck||okR L0 (Wp.filter fun y=>!later (rgOf f id) i 3 y.1) [hn])=true) (ht:P.underlying t=some (.map kt et)) (hK:KeyOk P kt ok) (hk:ok key) (hi:(P.info? et).map (·.zero)=some (some z))
  (hp:hn.get h r=some (b,.map es clock)) (hm:MapG ok es g)
  (A:g key=none→JR P f R n (rgOf f id) L0 ck rest Wp k (E.put dst (.val (lkV c z false))) h r F Y)
  (B:∀v,g key=some v→JR P f R n (rgOf f id) L0 ck rest Wp k (E.put dst (.val (lkV c v true))) h r F Y) :
  JR P f R n (rgOf f id) L0 ck ((i,true)::rest) Wp k E h r F Y:=by
 intro BB Hd fps a w s hH hR hN hW
 simp only[PW]
 obtain⟨inf,hinf,hz⟩:=Option.map_eq_some_iff.1 hi
 have hzero:∀w,(zeroValue et).run P w=.ok z w:=fun w=>by simp[zeroValue,typeInfo,hinf,hz]
 have hus:used h r [hn]=[(b,.map es clock)]:=by simp[used,hp]
 have hHp:Hp (used h r [hn]) w:=fun y hy=>by
  obtain⟨hn',_,hg⟩:=List.mem_filterMap.1 hy
  exact s.own.get hg
 unfold lookOf at he
 split at he
 ·cases he
 rename_i o ho
 split at he
 case isFalse=>cases he
 rename_i hdst
 split at he
 ·cases he
 rename_i hg
 split at he
 case h_2=>cases he
 rename_i t' m x c' hc
 split at he
 case h_2=>cases he
 rename_i hq
 simp only[Option.some.injEq,Prod.mk.injEq]at he
 obtain⟨e1,e2,rfl,rfl,rfl⟩:=he
 have hev:=opsOk_sound s.ag (fun c w h=>by cases h) _ _ hq trivial
 have e1:a.eval m=.map (some b):=(hev m (by simp)).trans e1
 have e2:a.eval x=key:=(hev x (by simp)).trans e2
 have fin:∀v,(∀w,Hp (used h r [hn]) w→(Instr.lookup t' (.map (some b)) key c').run P w=.ok v w)→JR P f R n (rgOf f id) L0 ck rest Wp k (E.put o.dst (.val v)) h r F Y →
   ∃o' v' us,(rgOf f id)[i]?=some o'∧YieldsIf P (rgOf f id) (Hp us) o' v' a∧Hp us w∧(ck=true→∀y∈idsW Hd h Wp,later (rgOf f id) i 3 y.1=true∨∀x∈us,x.1<BB∧x.1∉y.2)∧PW P (rgOf f id) (wpK P f R k) BB ck rest (idsW Hd h Wp) (a.put o'.dst v') w:=fun v hv H=>by
  refine⟨o,v,used h r [hn],ho,.inl ⟨by simp[Region.wanted,hg],fun w hw=>?_⟩,hHp,fun hck y hy=>okR_later (fun j=>later (rgOf f id) i 3 j) s.own hR (by simpa [hck]using hok) y hy,?_⟩
  ·unfold execOp
   simp only[hc,Sem.run_bind,Sem.run_pure,Result.andThen_ok,e1,e2,hv w hw]
  ·exact H BB Hd fps _ w ⟨s.ag.put hdst (.val v),s.own,s.fr,s.may,s.gh⟩ hH hR hN hW
 have hbw:∀w,Hp (used h r [hn]) w→w.heap[b]?=some (.map es clock):=fun w hw=>hw (b,.map es clock) (by rw[hus];simp)
 rcases hm.look hK hk with ⟨h1,h2,_⟩|⟨j,e,h1,_,_,h2⟩
 ·refine fin (lkV c' z false) (fun w hw=>?_) (A h2)
  cases c' <;> simp[Instr.lookup,run_underlying ht,MapKept.run_getObj_map (hbw w hw),hK.chk _ _ hk,h1,hzero,Result.andThen,lkV]
 ·refine fin (lkV c' e.val true) (fun w hw=>?_) (B _ h2)
  cases c' <;> simp[Instr.lookup,run_underlying ht,MapKept.run_getObj_map (hbw w hw),hK.chk _ _ hk,h1,Result.andThen,lkV]
theorem JRg_put {id L0 i:Nat} {ck:Bool} {Wp:List (Nat×List Nat)} {rest:List (Nat×Bool)} (p b t kt et:Nat) (ok:Value→Prop) (key val:Value) (dst:Option Tmp) {es:Array MapEntry} {clock:Nat} {g:Value→Option Value}
  (he:putOf n (rgOf f id) E i=some (.map (some b),key,val,t,dst)) (hok:(!ck||okW L0 (Wp.lookup i) [p])=true) (ht:P.underlying t=some (.map kt et)) (hK:KeyOk P kt ok) (hk:ok key)
  (hp:h[p]?=some (b,.map es clock)) (hm:MapG ok es g)
  (A:∀es' clock',MapG ok es' (fput g key val)→es'.size≤es.size+1→JR P f R n (rgOf f id) L0 ck rest (Wp.filter (·.1 != i)) k (E.put dst (.val undef)) (h.set p (b,.map es' clock')) r F Y) :
  JR P f R n (rgOf f id) L0 ck ((i,false)::rest) Wp k E h r F Y:=by
 intro BB Hd fps a w s hH hR hN hW
 simp only[PW]
 have hb:w.heap[b]?=some (.map es clock):=s.own.own _ (List.mem_of_getElem? hp)
 refine putOf_sound he s ?_
 rcases hm.look hK hk with ⟨h1,_,h2⟩|⟨j,e,h1,h2,h3,_⟩
 ·refine⟨{ w with heap:=w.heap.setIfInBounds b (.map (es.push ⟨key,val,clock⟩) (clock+1)) },?_,fun a' hA=>JR_setmap hok hp s hH hR hN hW hA (A _ _ (hm.push hk h2) (by simp))⟩
  simp[Instr.mapUpdate,run_underlying ht,MapKept.run_getObj_map hb,hK.chk _ _ hk,h1,MapKept.run_setObj_map _ hb,Result.andThen]
 ·have hj:es[j]?=some e:=by simpa using h2
  refine⟨{ w with heap:=w.heap.setIfInBounds b (.map (es.modify j fun x=>{ x with key:=key,val:=val }) clock) },?_,fun a' hA=>JR_setmap hok hp s hH hR hN hW hA (A _ _ (hm.turn h2 h3) (by simp))⟩
  simp[Instr.mapUpdate,run_underlying ht,MapKept.run_getObj_map hb,hK.chk _ _ hk,h1,hj,h3,hK.stays _ hk,MapKept.run_setObj_map _ hb,Result.andThen]
end maps
end Go.Sx
end
section
namespace Go.Sx
open Go
theorem flat_out {l:List (List Nat)} {i:Nat} {x:List Nat} (h:l[i]?=some x):l.flatten.Perm (x++(l.eraseIdx i).flatten):=by
 induction l generalizing i with
 | nil=>simp at h
 | cons y l ih=>
  cases i with
  | zero=>
   simp only[List.getElem?_cons_zero,Option.some.injEq]at h
   subst h
   simp
  | succ i=>
   simp only[List.getElem?_cons_succ]at h
   simp only[List.flatten_cons,List.eraseIdx_cons_succ]
   refine((ih h).append_left y).trans ?_
   rw[←List.append_assoc,←List.append_assoc]
   exact List.perm_append_comm.append_right _
theorem Chs.insert {w:World} {S:Nat→Prop} {c:Chunk} {fp:List Nat} (hc:c.P w S fp):∀{cs:List Chunk} {i:Nat} {fps:List (List Nat)},cs[i]?=some c→Chs w S (cs.eraseIdx i) fps→∃fps',Chs w S cs fps'∧fps'.flatten.Perm (fp++fps.flatten)
 | [],_,_,h,_=>by simp at h
 | d::cs,0,fps,h,hr=>by
  simp only[List.getElem?_cons_zero,Option.some.injEq]at h
  subst h
  exact⟨fp::fps,⟨hc,hr⟩,by simp⟩
 | d::cs,i+1,fps,h,hr=>by
  simp only[List.getElem?_cons_succ]at h
  simp only[List.eraseIdx_cons_succ]at hr
  match fps,hr with
  | f::fps,hr=>
   obtain⟨fps',h1,h2⟩:=Chs.insert hc h hr.2
   refine⟨f::fps',⟨hr.1,h1⟩,?_⟩
   simp only[List.flatten_cons]
   refine(h2.append_left f).trans ?_
   rw[←List.append_assoc,←List.append_assoc]
   exact List.perm_append_comm.append_right _
def cMapG (b:Nat) (ok:Value→Prop) (g:Value→Option Value):Chunk where
 P w _ fp:=fp=[b]∧∃es clock,w.heap[b]?=some (.map es clock)∧MapG ok es g
 mono:=by
  intro w w' S S' fp ⟨h,es,clock,h1,h2⟩ hb _
  exact⟨h,es,clock,(hb _ (by rw[h];simp)).trans h1,h2⟩
theorem mapg_eqv {b clock:Nat} {ok:Value→Prop} {es:Array MapEntry} {g:Value→Option Value} (hm:MapG ok es g):(cObj b (.map es clock)).eqv (cMapG b ok g):=fun _ _ _ h=>⟨h.1,es,clock,h.2,hm⟩
section more
variable {P:Program} {f:Func} [Pan f] {R:Act→World→Prop} {n:Nat} [Dfr n] {kk:List Itm} {E:Env} {h r:List (Nat×Obj)} {F:List (List Nat×World)}
def mapgParts (b:Nat) (ok:Value→Prop) (g:Value→Option Value) (x:Array MapEntry×Nat):Chunk:=cStar [cPure (MapG ok x.1 g),cObj b (.map x.1 x.2)]
theorem J_openmapg {S0:Nat→Prop} {C0:List Chunk} {G0:List (Value×D)} (q:Nat) {b:Nat} {ok:Value→Prop} {g:Value→Option Value} (hq:C0[q]?=some (cMapG b ok g))
  (H:∀es clock,MapG ok es g→J P f R n kk E (h++[(b,.map es clock)]) r F ⟨S0,C0.eraseIdx q,G0⟩):J P f R n kk E h r F ⟨S0,C0,G0⟩:=by
 have hv:(cMapG b ok g).eqv (cExi (mapgParts b ok g)):=by
  intro w S fp ⟨hfp,es,clock,h1,h2⟩
  subst hfp
  have hch:Chs w S [cPure (MapG ok es g),cObj b (.map es clock)] [[],[b]]:=⟨⟨rfl,h2⟩,⟨rfl,h1⟩,trivial⟩
  exact⟨(es,clock),[[],[b]],by simp,hch⟩
 refine J_stp (stp_conv q hq hv) ?_
 have hql:=(List.getElem?_eq_some_iff.1 hq).1
 refine J_stpx (stp_exi (g:=mapgParts b ok g) q (by rw[List.getElem?_set_self hql])) fun x _=>?_
 obtain⟨es,clock⟩:=x
 rw[List.set_set]
 refine J_stp (stp_star (cs:=[cPure (MapG ok es g),cObj b (.map es clock)]) q (by rw[List.getElem?_set_self hql];rfl)) ?_
 have e0:∀y:Chunk,(C0.set q y).eraseIdx q=C0.eraseIdx q:=fun y=>by
  apply List.ext_getElem?
  intro j
  rw[List.getElem?_eraseIdx,List.getElem?_eraseIdx]
  split
  ·rw[List.getElem?_set_ne (by omega)]
  ·rw[List.getElem?_set_ne (by omega)]
 rw[e0]
 refine J_stpx (stp_pure (p:=MapG ok es g) (C0.eraseIdx q).length (by rw[List.getElem?_append_right (Nat.le_refl _),Nat.sub_self];rfl)) fun _ hp=>?_
 rw[List.eraseIdx_append_of_length_le (Nat.le_refl _)]
 simp only[Nat.sub_self,List.eraseIdx_cons_zero]
 refine J_show (b:=b) (o:=.map es clock) (C0.eraseIdx q).length (by rw[List.getElem?_append_right (Nat.le_refl _),Nat.sub_self];rfl) ?_
 rw[List.eraseIdx_append_of_length_le (Nat.le_refl _)]
 simp only[Nat.sub_self,List.eraseIdx_cons_zero,List.append_nil]
 exact H es clock hp
theorem stp_take {S0:Nat→Prop} {C0:List Chunk} {G0:List (Value×D)} (q i:Nat) {cs:List Chunk} {c:Chunk} (hq:C0[q]?=some (cStar cs)) (hi:cs[i]?=some c) :
  Stp h r F ⟨S0,C0,G0⟩ (fun _:Unit=>True) fun _=>⟨S0,C0.eraseIdx q++[c,cStar (cs.eraseIdx i)],G0⟩:=by
 intro w fps hO H
 obtain⟨fp,hfp,fpsI,rfl,hP⟩:=H.chs.at hq
 obtain⟨fpi,hfi,hc⟩:=hP.at hi
 have hp:(fps.eraseIdx q++[fpi,(fpsI.eraseIdx i).flatten]).flatten.Perm fps.flatten:=by
  rw[List.flatten_append]
  simp only[List.flatten_cons,List.flatten_nil,List.append_nil]
  exact((flat_out hfi).symm.append_left _).trans (List.perm_append_comm.trans (flat_out hfp).symm)
 have hsub:∀b∈(fps.eraseIdx q++[fpi,(fpsI.eraseIdx i).flatten]).flatten,b∈fps.flatten:=fun b hb=>hp.mem_iff.1 hb
 have hS:∀b,Sd ⟨S0,C0,G0⟩ h fps b→Sd ⟨S0,C0,G0⟩ h (fps.eraseIdx q++[fpi,(fpsI.eraseIdx i).flatten]) b:=fun b hb=>Sd_sub hsub hb
 have hch:Chs w (Sd ⟨S0,C0,G0⟩ h fps) [c,cStar (cs.eraseIdx i)] [fpi,(fpsI.eraseIdx i).flatten]:=⟨hc,⟨_,rfl,hP.erase⟩,trivial⟩
 exact⟨(),_,trivial,hsub,H.less hsub (hp.nodup_iff.2 H.nodup) ((H.chs.erase.app hch).mono (fun _ _=>rfl) fun b hb _=>⟨hS b hb,rfl⟩) fun x hx=>(H.g x hx).mono fun b hb _=>⟨hS b hb,rfl⟩⟩
theorem stp_join {S0:Nat→Prop} {C0:List Chunk} {G0:List (Value×D)} (q1 q2 i:Nat) {cs cs':List Chunk} {c:Chunk} (h1:C0[q1]?=some c) (h2:C0[q2]?=some (cStar cs)) (hne:q1≠q2) (hi:cs'[i]?=some c) (he:cs'.eraseIdx i=cs) :
  Stp h r F ⟨S0,C0,G0⟩ (fun _:Unit=>True) fun _=>⟨S0,restC C0 [q1,q2]++[cStar cs'],G0⟩:=by
 subst he
 intro w fps hO H
 obtain⟨fp1,hf1,hc⟩:=H.chs.at h1
 obtain⟨fp2,hf2,fpsI,rfl,hP⟩:=H.chs.at h2
 obtain⟨fps',hch,hpm⟩:=Chs.insert hc hi hP
 have hlen:=H.chs.len
 have hp2:pick fps [q1,q2]=[fp1,fpsI.flatten]:=by simp[pick,hf1,hf2]
 have hnd2:(others C0.length [q1,q2]++[q1,q2]).Nodup:=by
  rw[List.nodup_append]
  refine⟨List.Nodup.sublist List.filter_sublist List.nodup_range,by simp[hne],fun x hx y hy hxy=>?_⟩
  subst hxy
  simp[others]at hx
  simp at hy
  omega
 have hE:(pick fps (others C0.length [q1,q2])++[fps'.flatten]).flatten.Perm (pick fps (others C0.length [q1,q2]++[q1,q2])).flatten:=by
  rw[pick_app,hp2,List.flatten_append,List.flatten_append]
  simp only[List.flatten_cons,List.flatten_nil,List.append_nil]
  exact hpm.append_left _
 have hsub:∀b∈(pick fps (others C0.length [q1,q2])++[fps'.flatten]).flatten,b∈fps.flatten:=fun b hb=>pick_flat_sub (hE.mem_iff.1 hb)
 have hS:∀b,Sd ⟨S0,C0,G0⟩ h fps b→Sd ⟨S0,C0,G0⟩ h (pick fps (others C0.length [q1,q2])++[fps'.flatten]) b:=fun b hb=>Sd_sub hsub hb
 have hj:Chs w (Sd ⟨S0,C0,G0⟩ h fps) [cStar cs'] [fps'.flatten]:=⟨⟨_,rfl,hch⟩,trivial⟩
 exact⟨(),_,trivial,hsub,H.less hsub (hE.nodup_iff.2 (pick_flat_nodup H.nodup hnd2)) (((H.chs.pick _).app hj).mono (fun _ _=>rfl) fun b hb _=>⟨hS b hb,rfl⟩) fun x hx=>(H.g x hx).mono fun b hb _=>⟨hS b hb,rfl⟩⟩
theorem star_nil (w:World) (S:Nat→Prop):(cStar []).P w S []:=⟨[],rfl,trivial⟩
end more
theorem map_out {α β:Type} {ks:List α} (hn:ks.Nodup) {i:Nat} {k:α} (hk:ks[i]?=some k) {Q Q':α→β} (hQ:∀x,x≠k→Q' x=Q x):(ks.map Q').eraseIdx i=(ks.map Q).eraseIdx i:=by
 apply List.ext_getElem?
 intro j
 rw[List.getElem?_eraseIdx,List.getElem?_eraseIdx]
 have key:∀j:Nat,j≠i→(ks.map Q')[j]?=(ks.map Q)[j]?:=fun j hj=>by
  rw[List.getElem?_map,List.getElem?_map]
  cases hx:ks[j]? with
  | none=>rfl
  | some x=>
   have:x≠k:=fun he=>by
    subst he
    exact hj ((List.getElem?_inj (List.getElem?_eq_some_iff.1 hx).1 hn).1 (hx.trans hk.symm))
   simp[hQ x this]
 split
 ·exact key j (by omega)
 ·exact key (j+1) (by omega)
end Go.Sx
end
section
namespace Go.Proofs.YtmkapocibaojdaaGreatDoor
open Go Go.Sx
def sk158:Sk:=(.seq (.rg 0 false) (.seq (.cond (.const (.bool false)) (.seq (.rg 1 false) (.seq (.rg 2 false) .ret)) .skip) (.seq (.rg 3 false) (.seq (.rg 4 false) .ret))))
theorem bd158:Tryz.f158.body=some (sk158.code Tryz.f158):=by kernel_rfl
def sk162:Sk:=(.seq (.rg 0 false) (.seq (.rg 1 false) .ret))
theorem bd162:Tryz.f162.body=some (sk162.code Tryz.f162):=by kernel_rfl
def sk194:Sk:=(.seq (.rg 0 false) (.seq (.rg 1 false) (.seq (.rg 2 false) (.seq (.rg 3 false) (.seq (.rg 4 false) (.seq (.rg 5 false) (.seq (.rg 6 false) (.seq (.rg 7 false) (.seq (.rg 8 false) (.seq (.rg 9 false) (.seq (.rg 10 false) (.seq (.rg 11 false) .ret))))))))))))
theorem bd194:Tryz.f194.body=some (sk194.code Tryz.f194):=by kernel_rfl
end Go.Proofs.YtmkapocibaojdaaGreatDoor
end
section
namespace Go.Proofs.YtmkapocibaojdaaGreatDoor
open Go Go.Sx
def badC (c:Int):Bool:=((decide (c<97)||decide (122<c))&&(decide (c<48)||decide (57<c)))&&(c != 45)
def badL (l:List UInt8):Bool:=l.any fun b=>badC b.toNat
def nameOk (s:ByteArray):Bool:=decide (1≤s.size)&&decide (s.size≤16)&&!badL s.data.toList
set_option maxHeartbeats 4000000 in
theorem name1 {w:World} {S:Nat→Prop} {c:Int}:Calls Tryz.prog 192 #[.int .u8 c] w fun e w'=>Ret [] w S w' e (.bool (badC c)) [] []:=by
 refine epG Tryz.func192 bd192 (args:=[.int .u8 c]) (G:=[]) (by kernel_rfl) (AllG.nil w S) ?_
 obtain h|h|h|h|h|h|h:c<45∨c=45∨(45<c∧c<48)∨(48≤c∧c≤57)∨(57<c∧c<97)∨(97≤c∧c≤122)∨122<c:=by omega
 ·have e:badC c=true:=by simp[badC];omega
  refine Zs [zR 0] [] [zB 2 false] ?_
  refine Zt ([zR 0,.rd 1 [] 0 6,zR 2,.rd 3 [] 1 0,.rd 4 [] 1 0]++Rds 5 8++[.rd 8 [] 0 6,zR 9,.rd 10 [] 1 0,.rd 11 [] 1 0]++Rds 12 16++[.rd 16 [] 0 6,zR 17,zR 18]) [0] [zB 2 true] (oC (show decide (c<(97:Int))=true from by simp;omega) (oC (show decide (c<(48:Int))=true from by simp;omega) (oC (show(c != (45:Int))=true from by simp;omega) oN))) ?_
  refine Yr [[]] (.bool true) fun a w s=>?_
  rw[e]
  exact s.ret (by simp) [] [] rfl rfl
 ·subst h
  refine Zs [zR 0] [] [zB 2 false] ?_
  refine Zs (Rds 0 3++[.rd 3 [] 1 0,.rd 4 [] 1 0]++Rds 5 10++[.rd 10 [] 1 0,.rd 11 [] 1 0]++Rds 12 19) [0] [] ?_
  refine Yr [[]] (.bool false) fun a w s=>?_
  exact s.ret (by simp) [] [] rfl rfl
 ·have e:badC c=true:=by simp[badC];omega
  refine Zs [zR 0] [] [zB 2 false] ?_
  refine Zt ([zR 0,.rd 1 [] 0 6,zR 2,.rd 3 [] 1 0,.rd 4 [] 1 0]++Rds 5 8++[.rd 8 [] 0 6,zR 9,.rd 10 [] 1 0,.rd 11 [] 1 0]++Rds 12 16++[.rd 16 [] 0 6,zR 17,zR 18]) [0] [zB 2 true] (oC (show decide (c<(97:Int))=true from by simp;omega) (oC (show decide (c<(48:Int))=true from by simp;omega) (oC (show(c != (45:Int))=true from by simp;omega) oN))) ?_
  refine Yr [[]] (.bool true) fun a w s=>?_
  rw[e]
  exact s.ret (by simp) [] [] rfl rfl
 ·have e:badC c=false:=by simp[badC];omega
  refine Zs [zR 0] [] [zB 2 false] ?_
  refine Zt ([zR 0,.rd 1 [] 0 6,zR 2,.rd 3 [] 1 0,.rd 4 [] 1 0]++Rds 5 8++[.rd 8 [] 0 7,zR 9,zR 10,.rd 11 [] 0 7]++Rds 12 15++[.rd 15 [] 1 0,.rd 16 [] 1 0,zR 17,zR 18]) [0] [] (oC (show decide (c<(97:Int))=true from by simp;omega) (oC (show decide (c<(48:Int))=false from by simp;omega) (oC (show decide (c>(57:Int))=false from by simp;omega) oN))) ?_
  refine Yr [[]] (.bool false) fun a w s=>?_
  rw[e]
  exact s.ret (by simp) [] [] rfl rfl
 ·have e:badC c=true:=by simp[badC];omega
  refine Zs [zR 0] [] [zB 2 false] ?_
  refine Zt ([zR 0,.rd 1 [] 0 6,zR 2,.rd 3 [] 1 0,.rd 4 [] 1 0]++Rds 5 8++[.rd 8 [] 0 7,zR 9,zR 10,.rd 11 [] 0 6]++Rds 12 16++[.rd 16 [] 0 6,zR 17,zR 18]) [0] [zB 2 true] (oC (show decide (c<(97:Int))=true from by simp;omega) (oC (show decide (c<(48:Int))=false from by simp;omega) (oC (show decide (c>(57:Int))=true from by simp;omega) (oC (show(c != (45:Int))=true from by simp;omega) oN)))) ?_
  refine Yr [[]] (.bool true) fun a w s=>?_
  rw[e]
  exact s.ret (by simp) [] [] rfl rfl
 ·have e:badC c=false:=by simp[badC];omega
  refine Zs [zR 0] [] [zB 2 false] ?_
  refine Zt [zR 0,.rd 1 [] 0 7,zR 2,zR 3,.rd 4 [] 0 7,zR 5,zR 6,.rd 7 [] 1 0,.rd 8 [] 1 0,.rd 9 [] 1 0,.rd 10 [] 1 0,.rd 11 [] 1 0,.rd 12 [] 1 0,zR 13,zR 14,.rd 15 [] 1 0,.rd 16 [] 1 0,zR 17,zR 18] [0] [] (oC (show decide (c<(97:Int))=false from by simp;omega) (oC (show decide (c>(122:Int))=false from by simp;omega) oN)) ?_
  refine Yr [[]] (.bool false) fun a w s=>?_
  rw[e]
  exact s.ret (by simp) [] [] rfl rfl
 ·have e:badC c=true:=by simp[badC];omega
  refine Zs [zR 0] [] [zB 2 false] ?_
  refine Zt ([zR 0,.rd 1 [] 0 7,zR 2,zR 3,.rd 4 [] 0 6]++Rds 5 8++[.rd 8 [] 0 7,zR 9,zR 10,.rd 11 [] 0 6]++Rds 12 16++[.rd 16 [] 0 6,zR 17,zR 18]) [0] [zB 2 true] (oC (show decide (c<(97:Int))=false from by simp;omega) (oC (show decide (c>(122:Int))=true from by simp;omega) (oC (show decide (c<(48:Int))=false from by simp;omega) (oC (show decide (c>(57:Int))=true from by simp;omega) (oC (show(c != (45:Int))=true from by simp;omega) oN))))) ?_
  refine Yr [[]] (.bool true) fun a w s=>?_
  rw[e]
  exact s.ret (by simp) [] [] rfl rfl
set_option maxHeartbeats 4000000 in
theorem indexBadB {w:World} {S:Nat→Prop} {a:Option Addr} {n c:Nat} {l:List UInt8} (h:Rep w S (.slice a n c) (.sl 1 (l.map eB))) (hl:l.length≤1000000) :
  Calls Tryz.prog 216 #[.slice a n c,.func (.func 192) #[] #[]] w fun e w'=>∃r,Ret [] w S w' e (.int .i64 r) [] []∧decide (0≤r)=badL l:=by
 have e1:=h.slen
 rw[List.length_map]at e1
 subst e1
 refine epG Tryz.func216 bd216 (args:=[.slice a l.length c,.func (.func 192) #[] #[]]) (G:=[(_,.sl 1 (l.map eB))]) (by kernel_rfl) (.cons h (.nil _ _)) ?_
 refine Zs [zR 0] [] [zI 4 0] ?_
 refine J_seq ?_
 refine Zs (Rds 0 3) [] [zI 7 (↑l.length:Int),zI 8 0] ?_
 refine J_block ?_
 refine J_loopx (fun i:Int=>[zS 0 a l.length c,zV 1 (.func (.func 192) #[] #[]),zI 4 0,zI 7 (↑l.length:Int),zI 8 i]) (fun i:Int=>[]) (fun i:Int=>[]) (fun i:Int=>[(.slice a l.length c,(D.sl 1 (List.map eB l)))]) (fun i:Int=>(l.length - i).toNat) (fun i:Int=>(0≤i∧i≤l.length∧∀j:Nat,j<i.toNat→∀b,l[j]?=some b→badC b.toNat=false)) 0 [0,1,4,7,8] [] [] [0] ?_ (by kernel_rfl) rfl rfl rfl ?_
 ·exact⟨by simp,by omega,by simp⟩
 rintro i ⟨hi0,hi,hno⟩
 refine Zs [zR 0] [] [zB 9 (decide (i<(↑l.length:Int)))] ?_
 refine J_seq ?_
 refine cC (t:=decide (i<(↑l.length:Int))) (fun hlt=>?_) (fun hlt=>?_)
 ·have hlt2:i<l.length:=by simpa using hlt
  obtain⟨x,hx⟩:∃x,l[i.toNat]?=some x:=⟨_,List.getElem?_eq_getElem (by omega)⟩
  refine J_read0 0 rfl i.toNat (map_at hx) (by kernel_rfl) (fun b1 off1 cs1 ty1 fz1 ha1 hrd1=>?_)
  cases ha1
  have hrd1_0:=rd0 (hrd1 0 _ rfl)
  try simp only[aQ]
  refine J_skip (J_seq (J_block ?_))
  refine Zs [zR 0,zR 1] [9] [zI 5 i] ?_
  refine jS [(0,true),(1,true),(2,true),(3,true),(4,true),(5,false)] [] ?_
  refine Yp (Rds 0 3++[.rd 3 [] 0 2,.rd 4 [.r 0 (some (.int .u8 (↑x.toNat:Int)))] 0 0]) [] [zV 11 (.func (.func 192) #[] #[]),zV 15 (.int .u8 (↑x.toNat:Int))] (oC hi0 (oC hlt2 (oC hrd1_0 oN))) ?_
  refine Yc 192 #[.int .u8 (↑x.toNat:Int)] (some 16) fun w S hG=>?_
  refine(name1 (S:=S)).mono ?_
  rintro e w2 hR
  refine⟨_,_,_,hR,?_⟩
  try simp only[aQ]
  refine JR_end ?_
  refine cC (t:=badC (↑x.toNat:Int)) (fun hb=>?_) (fun hb=>?_)
  ·refine J_seq ?_
   refine Za [zR 0,zR 1] [16] [zI 4 i] ?_
   refine Yr [[]] (nI i) fun a w s=>?_
   refine⟨_,s.ret (by simp) [] [] rfl rfl,?_⟩
   rw[show badL l=true from List.any_eq_true.2 ⟨x,List.mem_of_getElem? hx,hb⟩]
   simpa using hi0
  ·refine J_skip ?_
   refine J_eb ?_
   refine Zp [.rd 0 [] 0 1,zR 1] [16] [zI 8 (i+1)] (oC (show IntKind.i64.wrap (i+1)=i+1 from wrap_i64 (by omega) (by omega)) oN) ?_
   refine J_backx (i+1) [0,1,4,7,8] [] [] [0] ?_ ?_ (by kernel_rfl) rfl rfl rfl
   ·refine⟨by omega,by omega,fun j hj t ht=>?_⟩
    by_cases hji:j=i.toNat
    ·subst hji
     rw[hx]at ht
     cases ht
     exact hb
    ·exact hno j (by omega) t ht
   ·omega
 ·refine J_exit rfl ?_
  refine Zs [zR 0] [9,0,1,7,8] [zI 4 (-1)] ?_
  refine Yr [[]] (nI (-1)) fun a w s=>?_
  refine⟨_,s.ret (by simp) [] [] rfl rfl,?_⟩
  have e:badL l=false:=by
   unfold badL
   rw[List.any_eq_false]
   intro t ht
   obtain⟨j,hj⟩:=List.getElem?_of_mem ht
   have hjl:=(List.getElem?_eq_some_iff.1 hj).1
   simp[hno j (by simp at hlt;omega) t hj]
  rw[e]
  decide
set_option maxHeartbeats 4000000 in
theorem containsBadB {w:World} {S:Nat→Prop} {a:Option Addr} {n c:Nat} {l:List UInt8} (h:Rep w S (.slice a n c) (.sl 1 (l.map eB))) (hl:l.length≤1000000) :
  Calls Tryz.prog 191 #[.slice a n c,.func (.func 192) #[] #[]] w fun e w'=>Ret [] w S w' e (.bool (badL l)) [] []:=by
 refine epG Tryz.func191 bd191 (args:=[.slice a n c,.func (.func 192) #[] #[]]) (G:=[(_,.sl 1 (l.map eB))]) (by kernel_rfl) (.cons h (.nil _ _)) ?_
 refine Zs [zR 0] [] [zB 4 false] ?_
 refine jS [(0,true),(1,true),(2,false),(3,true),(4,true)] [] ?_
 refine Ya [zR 0,zR 1] [0,1] [zS 5 a n c,zV 6 (.func (.func 192) #[] #[])] ?_
 refine Yc 216 #[.slice a n c,.func (.func 192) #[] #[]] (some 7) fun w S hG=>?_
 refine(indexBadB (hG.at 0 rfl) hl).mono ?_
 rintro e w2 ⟨r,hR,hr⟩
 refine⟨_,_,_,hR,?_⟩
 try simp only[aQ]
 refine Ya [zR 3,zR 4] [7,5,6] [zB 4 (decide (r≥0))] ?_
 refine JR_end ?_
 refine Yr [[]] (.bool (decide (r≥0))) fun a w s=>?_
 rw[←hr]
 exact s.ret (by simp) [] [] rfl rfl
set_option maxHeartbeats 4000000 in
theorem vName {w:World} {S:Nat→Prop} {s0:ByteArray}:Calls Tryz.prog 154 #[.string s0] w fun e w'=>Ret [] w S w' e (.bool (nameOk s0)) [] []:=by
 refine epG Tryz.func154 bd154 (args:=[.string s0]) (G:=[]) (by kernel_rfl) (AllG.nil w S) ?_
 have hz:s0.data.toList.length=s0.size:=by simp
 by_cases h1:s0.size=0
 ·have hE0:s0.toList=(ByteArray.mk #[]).toList:=by
   rw[ByteArray.toList_eq,ByteArray.toList_eq]
   exact List.eq_nil_of_length_eq_zero (by omega)
  have hE:(!s0.toList==(ByteArray.mk #[]).toList)=false:=by rw[hE0];simp
  have e:nameOk s0=false:=by simp[nameOk,h1]
  refine Zs [zR 0] [] [zB 2 false] ?_
  refine Zt [zR 0,.rd 1 [] 0 7,zR 2,.rd 3 [] 1 0,.rd 4 [] 1 0,.rd 5 [] 1 0,zR 6,zR 7,.rd 8 [] 1 0,.wr 9 [] 1,.wr 10 [] 1,.rd 11 [] 1 0,zR 12,zR 13] [0] [] (oC (show(!s0.toList==(ByteArray.mk #[]).toList)=false from by assumption) oN) ?_
  refine Yr [[]] (.bool false) fun a w s=>?_
  rw[e]
  exact s.ret (by simp) [] [] rfl rfl
 ·have hE:(!s0.toList==(ByteArray.mk #[]).toList)=true:=by
   rw[ByteArray.toList_eq,ByteArray.toList_eq]
   cases h:s0.data.toList with
   | nil=>rw[h]at hz;exact absurd hz.symm h1
   | cons x l=>rfl
  by_cases h2:16<s0.size
  ·have e:nameOk s0=false:=by simp[nameOk];omega
   refine Zs [zR 0] [] [zB 2 false] ?_
   refine Zt ([zR 0,.rd 1 [] 0 6]++Rds 2 5++[.rd 5 [] 0 7,zR 6,zR 7,.rd 8 [] 1 0,.wr 9 [] 1,.wr 10 [] 1,.rd 11 [] 1 0,zR 12,zR 13]) [0] [] (oC (show(!s0.toList==(ByteArray.mk #[]).toList)=true from by assumption) (oC (show decide ((↑s0.size:Int)≤(16:Int))=false from by simp;omega) oN)) ?_
   refine Yr [[]] (.bool false) fun a w s=>?_
   rw[e]
   exact s.ret (by simp) [] [] rfl rfl
  ·refine J_seq ?_
   refine Za [zR 0] [] [zB 2 false] ?_
   refine jS [(0,true),(1,true),(2,true),(3,true),(4,true),(5,true),(6,true),(7,true),(8,true),(9,false),(10,false),(11,true),(12,true),(13,true)] [] ?_
   refine Yp ([zR 0,.rd 1 [] 0 6]++Rds 2 5++[.rd 5 [] 0 6]++Rds 6 9) [0] [zB 10 true,zV 11 (.string s0)] (oC (show(!s0.toList==(ByteArray.mk #[]).toList)=true from by assumption) (oC (show decide ((↑s0.size:Int)≤(16:Int))=true from by simp;omega) oN)) ?_
   refine JR_bytes 9 311 5 s0 (some 12) (by kernel_rfl) (by kernel_rfl) (by kernel_rfl) (by kernel_rfl) (fun bg1 bc1=>?_)
   try simp only[aQ]
   refine Yc 191 #[.slice (sA bg1 0) s0.size bc1,.func (.func 192) #[] #[]] (some 13) fun w S hG=>?_
   refine(containsBadB (l:=s0.data.toList) (hG.at 0 rfl) (by omega)).mono ?_
   rintro e w2 hR
   refine⟨_,_,_,hR,?_⟩
   have e:nameOk s0=!badL s0.data.toList:=by simp[nameOk];omega
   rw[e]
   try simp only[aQ]
   refine Ya (Rds 11 14) [13,12,10,11] [zB 2 (!badL s0.data.toList)] ?_
   refine JR_end ?_
   refine Yr [[]] (.bool (!badL s0.data.toList)) fun a w s=>?_
   exact s.ret (by simp) [] [] rfl rfl
end Go.Proofs.YtmkapocibaojdaaGreatDoor
end
section
namespace Go.Proofs.YtmkapocibaojdaaGreatDoor
open Go Go.Sx
abbrev globs (er:Nat→Addr):List (Value×D):=[(.nilIface,.v .nilIface),dE 390 er 0 2,dE 390 er 1 3]
def badT (t:Int):Bool:=decide (t<0)||decide (1099511627776<t)
def vecErr (xs:List Int):Nat:=if xs.length<1∨6<xs.length then 3 else if xs.any badT then 2 else 0
set_option maxHeartbeats 4000000 in
theorem check1 {w:World} {S:Nat→Prop} {t:Int}:Calls Tryz.prog 183 #[.int .i64 t] w fun e w'=>Ret [] w S w' e (.bool (badT t)) [] []:=by
 refine epG Tryz.func183 bd183 (args:=[.int .i64 t]) (G:=[]) (by kernel_rfl) (AllG.nil w S) ?_
 refine Zs [zR 0] [] [zB 2 false] ?_
 refine Zs (Rds 0 3++[.rd 3 [] 2 0,.rd 4 [] 2 0,.rd 5 [] 0 3,zR 6]) [0] [zB 2 (decide (t<0)||decide (t>1099511627776))] ?_
 refine Yr [[]] (.bool (decide (t<0)||decide (t>1099511627776))) fun a w s=>?_
 exact s.ret (by simp) [] [] rfl rfl
set_option maxHeartbeats 4000000 in
theorem indexBad {w:World} {S:Nat→Prop} {a:Option Addr} {n c:Nat} {xs:List Int} (h:Rep w S (.slice a n c) (dInts xs)) (hl:xs.length≤1000000) :
  Calls Tryz.prog 214 #[.slice a n c,.func (.func 183) #[] #[]] w fun e w'=>∃r,Ret [] w S w' e (.int .i64 r) [] []∧decide (0≤r)=xs.any badT:=by
 obtain rfl:=rep_ints_len h
 refine epG Tryz.func214 bd214 (args:=[.slice a xs.length c,.func (.func 183) #[] #[]]) (G:=[(_,dInts xs)]) (by kernel_rfl) (.cons h (.nil _ _)) ?_
 refine Zs [zR 0] [] [zI 4 0] ?_
 refine J_seq ?_
 refine Zs (Rds 0 3) [] [zI 7 (↑xs.length:Int),zI 8 0] ?_
 refine J_block ?_
 refine J_loopx (fun i:Int=>[zS 0 a xs.length c,zV 1 (.func (.func 183) #[] #[]),zI 4 0,zI 7 (↑xs.length:Int),zI 8 i]) (fun i:Int=>[]) (fun i:Int=>[]) (fun i:Int=>[(.slice a xs.length c,(dInts xs))]) (fun i:Int=>(xs.length - i).toNat) (fun i:Int=>(0≤i∧i≤xs.length∧∀j:Nat,j<i.toNat→∀t,xs[j]?=some t→badT t=false)) 0 [0,1,4,7,8] [] [] [0] ?_ (by kernel_rfl) rfl rfl rfl ?_
 ·exact⟨by simp,by omega,by simp⟩
 rintro i ⟨hi0,hi,hno⟩
 refine Zs [zR 0] [] [zB 9 (decide (i<(↑xs.length:Int)))] ?_
 refine J_seq ?_
 refine cC (t:=decide (i<(↑xs.length:Int))) (fun hlt=>?_) (fun hlt=>?_)
 ·have hlt2:i<xs.length:=by simpa using hlt
  obtain⟨x,hx⟩:∃x,xs[i.toNat]?=some x:=⟨_,List.getElem?_eq_getElem (by omega)⟩
  refine J_read0 0 rfl i.toNat (map_at hx) (by kernel_rfl) (fun b1 off1 cs1 ty1 fz1 ha1 hrd1=>?_)
  cases ha1
  have hrd1_0:=rd0 (hrd1 0 _ rfl)
  try simp only[aQ]
  refine J_skip (J_seq (J_block ?_))
  refine Zs [zR 0,zR 1] [9] [zI 5 i] ?_
  refine jS [(0,true),(1,true),(2,true),(3,true),(4,true),(5,false)] [] ?_
  refine Yp (Rds 0 3++[.rd 3 [] 0 2,.rd 4 [.r 0 (some (nI x))] 0 0]) [] [zV 11 (.func (.func 183) #[] #[]),zI 15 x] (oC hi0 (oC hlt2 (oC hrd1_0 oN))) ?_
  refine Yc 183 #[nI x] (some 16) fun w S hG=>?_
  refine(check1 (S:=S)).mono ?_
  rintro e w2 hR
  refine⟨_,_,_,hR,?_⟩
  try simp only[aQ]
  refine JR_end ?_
  refine cC (t:=badT x) (fun hb=>?_) (fun hb=>?_)
  ·refine J_seq ?_
   refine Za [zR 0,zR 1] [16] [zI 4 i] ?_
   refine Yr [[]] (nI i) fun a w s=>?_
   refine⟨_,s.ret (by simp) [] [] rfl rfl,?_⟩
   rw[List.any_eq_true.2 ⟨x,List.mem_of_getElem? hx,hb⟩]
   simpa using hi0
  ·refine J_skip ?_
   refine J_eb ?_
   refine Zp [.rd 0 [] 0 1,zR 1] [16] [zI 8 (i+1)] (oC (show IntKind.i64.wrap (i+1)=i+1 from wrap_i64 (by omega) (by omega)) oN) ?_
   refine J_backx (i+1) [0,1,4,7,8] [] [] [0] ?_ ?_ (by kernel_rfl) rfl rfl rfl
   ·refine⟨by omega,by omega,fun j hj t ht=>?_⟩
    by_cases hji:j=i.toNat
    ·subst hji
     rw[hx]at ht
     cases ht
     exact hb
    ·exact hno j (by omega) t ht
   ·omega
 ·refine J_exit rfl ?_
  refine Zs [zR 0] [9,0,1,7,8] [zI 4 (-1)] ?_
  refine Yr [[]] (nI (-1)) fun a w s=>?_
  refine⟨_,s.ret (by simp) [] [] rfl rfl,?_⟩
  have e:xs.any badT=false:=by
   rw[List.any_eq_false]
   intro t ht
   obtain⟨j,hj⟩:=List.getElem?_of_mem ht
   have hjl:=(List.getElem?_eq_some_iff.1 hj).1
   simp[hno j (by simp at hlt;omega) t hj]
  rw[e]
  decide
set_option maxHeartbeats 4000000 in
theorem containsBad {w:World} {S:Nat→Prop} {a:Option Addr} {n c:Nat} {xs:List Int} (h:Rep w S (.slice a n c) (dInts xs)) (hl:xs.length≤1000000) :
  Calls Tryz.prog 182 #[.slice a n c,.func (.func 183) #[] #[]] w fun e w'=>Ret [] w S w' e (.bool (xs.any badT)) [] []:=by
 refine epG Tryz.func182 bd182 (args:=[.slice a n c,.func (.func 183) #[] #[]]) (G:=[(_,dInts xs)]) (by kernel_rfl) (.cons h (.nil _ _)) ?_
 refine Zs [zR 0] [] [zB 4 false] ?_
 refine jS [(0,true),(1,true),(2,false),(3,true),(4,true)] [] ?_
 refine Ya [zR 0,zR 1] [0,1] [zS 5 a n c,zV 6 (.func (.func 183) #[] #[])] ?_
 refine Yc 214 #[.slice a n c,.func (.func 183) #[] #[]] (some 7) fun w S hG=>?_
 refine(indexBad (hG.at 0 rfl) hl).mono ?_
 rintro e w2 ⟨r,hR,hr⟩
 refine⟨_,_,_,hR,?_⟩
 try simp only[aQ]
 refine Ya [zR 3,zR 4] [7,5,6] [zB 4 (decide (r≥0))] ?_
 refine JR_end ?_
 refine Yr [[]] (.bool (decide (r≥0))) fun a w s=>?_
 rw[←hr]
 exact s.ret (by simp) [] [] rfl rfl
set_option maxHeartbeats 4000000 in
theorem vcheck {w:World} {S:Nat→Prop} {er:Nat→Addr} {a:Option Addr} {n c:Nat} {xs:List Int} (hE:AllG w S (globs er)) (h:Rep w S (.slice a n c) (dInts xs)) (hl:xs.length≤1000000) :
  Calls Tryz.prog 141 #[.slice a n c] w fun e w'=>∃v,Ret [] w S w' e v [] []∧ErrIs 390 er (vecErr xs) v:=by
 obtain rfl:=rep_ints_len h
 refine epG Tryz.func141 bd141 (args:=[.slice a xs.length c]) (G:=globs er++[(_,dInts xs)]) (by kernel_rfl) (hE.app (.cons h (.nil _ _))) ?_
 refine J_glob 1 rfl (fun csg1 tyg1 fzg1 hglob1=>?_)
 refine J_glob 2 rfl (fun csg2 tyg2 fzg2 hglob2=>?_)
 try simp only[aQ]
 refine Zs [zR 0] [] [zV 2 .nilIface] ?_
 refine J_seq ?_
 refine Zs (Rds 0 4++[.rd 4 [] 2 0,.rd 5 [] 2 0,.rd 6 [] 2 0,.rd 7 [] 0 3]) [] [zB 10 (decide ((↑xs.length:Int)<1)||decide ((↑xs.length:Int)>6))] ?_
 refine cC (t:=decide ((↑xs.length:Int)<1)||decide ((↑xs.length:Int)>6)) (fun hn=>?_) (fun hn=>?_)
 ·refine J_seq ?_
  refine Zp [.rd 0 [.r 1 (some (.iface 390 (.pointer (some (er 3)))))] 0 0,zR 1] [10] [zV 2 (.iface 390 (.pointer (some (er 3))))] (oC hglob2 oN) ?_
  refine Yr [[]] (.iface 390 (.pointer (some (er 3)))) fun a w s=>?_
  refine⟨_,s.ret (by simp) [] [] rfl rfl,.inr ⟨?_,?_⟩⟩ <;> rw[vecErr,if_pos (by simp at hn;omega)]
  ·decide
 ·have hn2:¬(xs.length<1∨6<xs.length):=by simp at hn;omega
  refine J_skip (J_seq ?_)
  refine jS [(0,true),(1,false)] [] ?_
  refine Ya [zR 0] [10,0] [zS 12 a xs.length c] ?_
  refine Yc 182 #[.slice a xs.length c,.func (.func 183) #[] #[]] (some 13) fun w S hG=>?_
  refine(containsBad (hG.at 3 rfl) hl).mono ?_
  rintro e w2 hR
  refine⟨_,_,_,hR,?_⟩
  try simp only[aQ]
  refine JR_end ?_
  refine cC (t:=xs.any badT) (fun hb=>?_) (fun hb=>?_)
  ·refine J_seq ?_
   refine Zp [.rd 0 [.r 0 (some (.iface 390 (.pointer (some (er 2)))))] 0 0,zR 1] [13,12] [zV 2 (.iface 390 (.pointer (some (er 2))))] (oC hglob1 oN) ?_
   refine Yr [[]] (.iface 390 (.pointer (some (er 2)))) fun a w s=>?_
   refine⟨_,s.ret (by simp) [] [] rfl rfl,.inr ⟨?_,?_⟩⟩ <;> rw[vecErr,if_neg hn2,if_pos hb]
   ·decide
  ·refine J_skip ?_
   refine Zs [zR 0] [13,12] [] ?_
   refine Yr [[]] (.nilIface) fun a w s=>?_
   exact⟨_,s.ret (by simp) [] [] rfl rfl,.inl ⟨by rw[vecErr,if_neg hn2,hb];rfl,rfl⟩⟩
end Go.Proofs.YtmkapocibaojdaaGreatDoor
end
section
namespace Go.Proofs.YtmkapocibaojdaaGreatDoor
open Go Go.Sx
def twoErr (xs ys:List Int):Nat:=if vecErr xs≠0 then vecErr xs else if vecErr ys≠0 then vecErr ys else if xs.length≠ys.length then 3 else 0
theorem vecErr_len {xs:List Int} (h:vecErr xs=0):1≤xs.length∧xs.length≤6:=by
 unfold vecErr at h
 split at h
 ·cases h
 ·omega
theorem vecErr_in {xs:List Int} (h:vecErr xs=0):∀t∈xs,0≤t∧t≤1099511627776:=by
 unfold vecErr at h
 split at h
 ·cases h
 ·split at h
  ·cases h
  ·rename_i hb
   intro t ht
   simp only[Bool.not_eq_true,List.any_eq_false]at hb
   have:=hb t ht
   simp[badT]at this
   omega
set_option maxHeartbeats 4000000 in
theorem vtwo {w:World} {S:Nat→Prop} {er:Nat→Addr} {a b:Option Addr} {n m c d:Nat} {xs ys:List Int} (hE:AllG w S (globs er)) (ha:Rep w S (.slice a n c) (dInts xs)) (hb:Rep w S (.slice b m d) (dInts ys)) (hl:xs.length≤1000000) (hl2:ys.length≤1000000) :
  Calls Tryz.prog 156 #[.slice a n c,.slice b m d] w fun e w'=>∃v,Ret [] w S w' e v [] []∧ErrIs 390 er (twoErr xs ys) v:=by
 obtain rfl:=rep_ints_len ha
 obtain rfl:=rep_ints_len hb
 refine epG Tryz.func156 bd156 (args:=[.slice a xs.length c,.slice b ys.length d]) (G:=globs er++[(_,dInts xs),(_,dInts ys)]) (by kernel_rfl) (hE.app (.cons ha (.cons hb (.nil _ _)))) ?_
 refine J_glob 2 rfl (fun csg1 tyg1 fzg1 hglob1=>?_)
 try simp only[aQ]
 refine Zs [zR 0] [] [zV 4 .nilIface] ?_
 refine J_seq ?_
 refine Zv [zR 0,zR 1,.wr 2 [] 0,zR 3,zR 4] [] [] (fun nu1=>[zS 10 (sA (nu1 0) 0) 2 2,zI 11 2,zI 12 0]) o0 (fun nu1=>[(nu1 0,.cells #[.slice a xs.length c,.slice b ys.length d] 32 (0,0))]) (fun nu1=>?_)
 refine J_block ?_
 refine J_loopx (fun i:Int=>[zS 0 a xs.length c,zS 1 b ys.length d,zV 4 .nilIface,zS 10 (sA (nu1 0) 0) 2 2,zI 11 2,zI 12 i]) (fun i:Int=>[(nu1 0,.cells #[.slice a xs.length c,.slice b ys.length d] 32 (0,0))]) (fun i:Int=>[]) (fun i:Int=>[(.nilIface,(D.v Value.nilIface)),(.pointer (sA 0 0),(D.ptr [D.v (Value.iface 390 (Value.pointer (some (er 2))))])),(.pointer (sA 1 0),(D.ptr [D.v (Value.iface 390 (Value.pointer (some (er 3))))])),(.slice a xs.length c,(dInts xs)),(.slice b ys.length d,(dInts ys))]) (fun i:Int=>(2 - i).toNat) (fun i:Int=>(i=0∨(i=1∧vecErr xs=0)∨(i=2∧vecErr xs=0∧vecErr ys=0))) 0 [0,1,4,10,11,12] [0] [] [0,1,2,3,4] ?_ (by kernel_rfl) rfl rfl rfl ?_
 ·exact .inl rfl
 rintro i (rfl|⟨rfl,h0⟩|⟨rfl,h0,h1⟩)
 ·refine J_seq ?_
  refine Za [zR 0] [] [zB 13 true] ?_
  refine J_seq ?_
  refine cTt ?_
  refine J_skip (J_seq (J_block ?_))
  refine Zs [zR 0,.rd 1 [.o 0 none] 0 0,zR 2] [13] [zS 6 a xs.length c] ?_
  refine jS [(0,true),(1,false),(2,true)] [] ?_
  refine Ya [zR 0] [] [zS 16 a xs.length c] ?_
  refine Yc 141 #[.slice a xs.length c] (some 17) fun w S hG=>?_
  refine(vcheck (hG.pick [0,1,2] rfl) (hG.at 3 rfl) hl).mono ?_
  rintro e w2 ⟨v,hR,⟨h2,rfl⟩|⟨h2,rfl⟩⟩
  ·refine⟨_,_,_,hR,?_⟩
   try simp only[aQ]
   refine Ya [zR 2] [17,16] [zV 7 .nilIface] ?_
   refine JR_end ?_
   refine Zs [zR 0,zR 1] [] [zB 19 false] ?_
   refine cF ?_
   refine J_skip (J_eb ?_)
   refine Za [zR 0,zR 1] [19] [zI 12 1] ?_
   refine J_backx 1 [0,1,4,10,11,12] [0] [] [0,1,2,3,4] ?_ ?_ (by kernel_rfl) rfl rfl rfl
   ·exact .inr (.inl ⟨rfl,h2⟩)
   ·omega
  ·refine⟨_,_,_,hR,?_⟩
   try simp only[aQ]
   refine Ya [zR 2] [17,16] [zV 7 (.iface 390 (.pointer (some (er (vecErr xs)))))] ?_
   refine JR_end ?_
   refine Zs [zR 0,zR 1] [] [zB 19 true] ?_
   refine cTt ?_
   refine Zs [zR 0,zR 1] [19] [zV 4 (.iface 390 (.pointer (some (er (vecErr xs)))))] ?_
   refine Yr [[]] (.iface 390 (.pointer (some (er (vecErr xs))))) fun a w s=>?_
   exact⟨_,s.ret (by simp) [] [] rfl rfl,.inr (by rw[twoErr,if_pos h2];exact⟨h2,rfl⟩)⟩
 ·refine J_seq ?_
  refine Za [zR 0] [] [zB 13 true] ?_
  refine J_seq ?_
  refine cTt ?_
  refine J_skip (J_seq (J_block ?_))
  refine Zs [zR 0,.rd 1 [.o 0 none] 0 0,zR 2] [13] [zS 6 b ys.length d] ?_
  refine jS [(0,true),(1,false),(2,true)] [] ?_
  refine Ya [zR 0] [] [zS 16 b ys.length d] ?_
  refine Yc 141 #[.slice b ys.length d] (some 17) fun w S hG=>?_
  refine(vcheck (hG.pick [0,1,2] rfl) (hG.at 4 rfl) hl2).mono ?_
  rintro e w2 ⟨v,hR,⟨h2,rfl⟩|⟨h2,rfl⟩⟩
  ·refine⟨_,_,_,hR,?_⟩
   try simp only[aQ]
   refine Ya [zR 2] [17,16] [zV 7 .nilIface] ?_
   refine JR_end ?_
   refine Zs [zR 0,zR 1] [] [zB 19 false] ?_
   refine cF ?_
   refine J_skip (J_eb ?_)
   refine Za [zR 0,zR 1] [19] [zI 12 2] ?_
   refine J_backx 2 [0,1,4,10,11,12] [0] [] [0,1,2,3,4] ?_ ?_ (by kernel_rfl) rfl rfl rfl
   ·exact .inr (.inr ⟨rfl,h0,h2⟩)
   ·omega
  ·refine⟨_,_,_,hR,?_⟩
   try simp only[aQ]
   refine Ya [zR 2] [17,16] [zV 7 (.iface 390 (.pointer (some (er (vecErr ys)))))] ?_
   refine JR_end ?_
   refine Zs [zR 0,zR 1] [] [zB 19 true] ?_
   refine cTt ?_
   refine Zs [zR 0,zR 1] [19] [zV 4 (.iface 390 (.pointer (some (er (vecErr ys)))))] ?_
   refine Yr [[]] (.iface 390 (.pointer (some (er (vecErr ys))))) fun a w s=>?_
   exact⟨_,s.ret (by simp) [] [] rfl rfl,.inr (by rw[twoErr,if_neg (by simp[h0]),if_pos h2];exact⟨h2,rfl⟩)⟩
 ·refine J_seq ?_
  refine Za [zR 0] [] [zB 13 false] ?_
  refine J_seq ?_
  refine cF ?_
  refine J_exit rfl ?_
  refine J_seq ?_
  refine Zs (Rds 0 5) [13,0,1,10,11,12] [zB 26 ((↑xs.length:Int) != (↑ys.length:Int))] ?_
  refine cC (t:=(↑xs.length:Int) != (↑ys.length:Int)) (fun hne=>?_) (fun hne=>?_)
  ·refine J_seq ?_
   refine Zp [.rd 0 [.r 0 (some (.iface 390 (.pointer (some (er 3)))))] 0 0,zR 1] [26] [zV 4 (.iface 390 (.pointer (some (er 3))))] (oC hglob1 oN) ?_
   refine Yr [[]] (.iface 390 (.pointer (some (er 3)))) fun a w s=>?_
   exact⟨_,s.ret (by simp) [] [] rfl rfl,.inr (by rw[twoErr,if_neg (by simp[h0]),if_neg (by simp[h1]),if_pos (by simp at hne;omega)];exact⟨by decide,rfl⟩)⟩
  ·refine J_skip ?_
   refine Zs [zR 0] [26] [] ?_
   refine Yr [[]] (.nilIface) fun a w s=>?_
   exact⟨_,s.ret (by simp) [] [] rfl rfl,.inl ⟨by rw[twoErr,if_neg (by simp[h0]),if_neg (by simp[h1]),if_neg (by simp at hne;omega)],rfl⟩⟩
def inL (xs ys:List Int):Bool:=(xs.zip ys).all fun p=>decide (p.1≤p.2)
theorem inL_true {xs ys:List Int} (hl:xs.length=ys.length) (h:∀(j:Nat) x y,xs[j]?=some x→ys[j]?=some y→x≤y):inL xs ys=true:=by
 unfold inL
 rw[List.all_eq_true]
 rintro⟨x,y⟩ hm
 obtain⟨j,hj⟩:=List.getElem?_of_mem hm
 rw[List.getElem?_zip_eq_some]at hj
 simpa using h j x y hj.1 hj.2
theorem inL_false {xs ys:List Int} {j:Nat} {x y:Int} (hx:xs[j]?=some x) (hy:ys[j]?=some y) (h:y<x):inL xs ys=false:=by
 unfold inL
 rw[List.all_eq_false]
 exact⟨(x,y),List.mem_of_getElem? (List.getElem?_zip_eq_some.2 ⟨hx,hy⟩),by simpa using h⟩
set_option maxHeartbeats 4000000 in
theorem vin {w:World} {S:Nat→Prop} {a b:Option Addr} {n m c d:Nat} {xs ys:List Int} (ha:Rep w S (.slice a n c) (dInts xs)) (hb:Rep w S (.slice b m d) (dInts ys)) (hl:xs.length≤1000000) (hxy:xs.length=ys.length) :
  Calls Tryz.prog 157 #[.slice a n c,.slice b m d] w fun e w'=>Ret [] w S w' e (.bool (inL xs ys)) [] []:=by
 obtain rfl:=rep_ints_len ha
 obtain rfl:=rep_ints_len hb
 refine epG Tryz.func157 bd157 (args:=[.slice a xs.length c,.slice b ys.length d]) (G:=[(_,dInts xs),(_,dInts ys)]) (by kernel_rfl) (.cons ha (.cons hb (.nil _ _))) ?_
 refine Zs [zR 0] [] [zB 4 false] ?_
 refine J_seq ?_
 refine Zs (Rds 0 3) [0] [zS 7 a xs.length c,zI 8 (↑xs.length:Int),zI 9 0] ?_
 refine J_block ?_
 refine J_loopx (fun i:Int=>[zS 1 b ys.length d,zB 4 false,zS 7 a xs.length c,zI 8 (↑xs.length:Int),zI 9 i]) (fun i:Int=>[]) (fun i:Int=>[]) (fun i:Int=>[(.slice a xs.length c,(dInts xs)),(.slice b ys.length d,(dInts ys))]) (fun i:Int=>(xs.length - i).toNat) (fun i:Int=>(0≤i∧i≤xs.length∧∀j:Nat,j<i.toNat→∀x y,xs[j]?=some x→ys[j]?=some y→x≤y)) 0 [1,4,7,8,9] [] [] [0,1] ?_ (by kernel_rfl) rfl rfl rfl ?_
 ·exact⟨by simp,by omega,by simp⟩
 rintro i ⟨hi0,hi,hno⟩
 refine Zs [zR 0] [] [zB 10 (decide (i<(↑xs.length:Int)))] ?_
 refine J_seq ?_
 refine cC (t:=decide (i<(↑xs.length:Int))) (fun hlt=>?_) (fun hlt=>?_)
 ·have hlt2:i<xs.length:=by simpa using hlt
  obtain⟨x,hx⟩:∃x,xs[i.toNat]?=some x:=⟨_,List.getElem?_eq_getElem (by omega)⟩
  obtain⟨y,hy⟩:∃y,ys[i.toNat]?=some y:=⟨_,List.getElem?_eq_getElem (by omega)⟩
  refine J_read0 0 rfl i.toNat (map_at hx) (by kernel_rfl) (fun b1 off1 cs1 ty1 fz1 ha1 hrd1=>?_)
  cases ha1
  have hrd1_0:=rd0 (hrd1 0 _ rfl)
  refine J_read0 1 rfl i.toNat (map_at hy) (by kernel_rfl) (fun b2 off2 cs2 ty2 fz2 ha2 hrd2=>?_)
  cases ha2
  have hrd2_0:=rd0 (hrd2 0 _ rfl)
  try simp only[aQ]
  refine J_skip (J_seq (J_block ?_))
  refine Zt [zR 0,.rd 1 [] 0 2,.rd 2 [.r 0 (some (nI x))] 0 0,zR 3,zR 4] [10] [zI 5 i,zI 6 x] (oC hi0 (oC hlt2 (oC hrd1_0 oN))) ?_
  refine Zt (Rds 0 3++[.rd 3 [] 0 2,.rd 4 [.r 1 (some (nI y))] 0 0,zR 5]) [] [zB 19 (decide (x>y))] (oC hi0 (oC (show i<(↑ys.length:Int) from by omega) (oC hrd2_0 oN))) ?_
  refine cC (t:=decide (x>y)) (fun hgt=>?_) (fun hgt=>?_)
  ·refine J_seq ?_
   refine Za [zR 0] [19] [] ?_
   refine Yr [[]] (.bool false) fun a w s=>?_
   rw[inL_false hx hy (by simpa using hgt)]
   exact s.ret (by simp) [] [] rfl rfl
  ·refine J_skip ?_
   refine J_eb ?_
   refine Zp [.rd 0 [] 0 1,zR 1] [19] [zI 9 (i+1)] (oC (show IntKind.i64.wrap (i+1)=i+1 from wrap_i64 (by omega) (by omega)) oN) ?_
   refine J_backx (i+1) [1,4,7,8,9] [] [] [0,1] ?_ ?_ (by kernel_rfl) rfl rfl rfl
   ·refine⟨by omega,by omega,fun j hj x' y' hx' hy'=>?_⟩
    by_cases hji:j=i.toNat
    ·subst hji
     rw[hx]at hx'
     rw[hy]at hy'
     cases hx'
     cases hy'
     simpa using hgt
    ·exact hno j (by omega) x' y' hx' hy'
   ·omega
 ·refine J_exit rfl ?_
  refine Zs [zR 0] [10,1,7,8,9] [zB 4 true] ?_
  refine Yr [[]] (.bool true) fun a w s=>?_
  rw[inL_true hxy fun j x y hx hy=>hno j (by have:=(List.getElem?_eq_some_iff.1 hx).1;simp at hlt;omega) x y hx hy]
  exact s.ret (by simp) [] [] rfl rfl
end Go.Proofs.YtmkapocibaojdaaGreatDoor
end
