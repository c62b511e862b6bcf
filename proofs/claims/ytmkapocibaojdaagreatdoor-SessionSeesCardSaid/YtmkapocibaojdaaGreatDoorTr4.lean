/- Part 4 of the texts of a claim: Tk Mz Clone EqDot Tx15 Tx16 Tk2 Name Vec1 Vec2. -/
import Derived.Test.YtmkapocibaojdaaGreatDoorProg
import Derived.KernelRfl
import Derived.Test.YtmkapocibaojdaaGreatDoorTr3
open Array renaming getElem?_modify → fV, getElem?_toList → kx, toList_push → jm
open ByteArray renaming mk → aL
open List renaming all_eq_true → dF, any_eq_true → gL, append_assoc → bY, append_nil → bf, cons_append → iO, eq_nil_of_length_eq_zero → ct, eraseIdx_append_of_length_le → dM, eraseIdx_cons_zero → fD, eraseIdx_sublist → cG, ext_getElem? → eH, filter_sublist → dw, flatten_append → bj, flatten_cons → cr, flatten_nil → lj, getElem?_append_right → bt, getElem?_cons_succ → eU, getElem?_cons_zero → aV, getElem?_eq_getElem → ak, getElem?_eq_some_iff → ai, getElem?_eraseIdx → dj, getElem?_inj → dQ, getElem?_map → aF, getElem?_of_mem → aJ, getElem?_set_ne → cN, getElem?_set_self → bX, getElem?_zip_eq_some → jd, length_map → aA, map → aj, map_append → bw, map_cons → cj, map_nil → gy, mem_append → au, mem_cons → cE, mem_eraseIdx_iff_getElem? → c9, mem_filterMap → dV, mem_map → aB, mem_of_getElem? → ae, mem_singleton → ay, nil_append → j9, nodup_append → be, nodup_range → jJ, perm_append_comm → fA, range → bD, replicate → aD, take_append_drop → iZ
open List.Nodup renaming sublist → l9
open Nat renaming ble → po, le_refl → aX, sub_self → ec, zero_add → aK
open Option renaming map_eq_some_iff → aI, map_some → dU
open Option.some renaming injEq → az
open Prod.mk renaming injEq → aH
section
namespace Go.Proofs.YtmkapocibaojdaaGreatDoor
open Go Go.Sx
theorem pW {P:Program} {fid:FuncId} {fn:Func} {sk:Sk} (hf:P.funcs[fid]?=some fn) (hb:fn.body=some (sk.code fn)) {args:List Value} {w:World} {S:Nat→Prop} {M:List Nat} {C:List Chunk} {G:List (Value×D)} {Rr:Ending→World→Prop} (hl:po args.length fn.ntmps=true) (hp:Pre w S M C) (hG:gl w S G) (H:J P fn (Di P fn Rr) fn.ntmps [.c sk] (uU 0 args) [] [] [(M,w)] ⟨sK S M w,C,G⟩):Calls P fid args.toArray w Rr:=
 EK hf hb rfl hl hp hG H
theorem jL {P:Program} {fid:FuncId} {fn:Func} {sk:Sk} (hf:P.funcs[fid]?=some fn) (hb:fn.body=some (sk.code fn)) {args:List Value} {w:World} {S:Nat→Prop} {G:List (Value×D)} {Rr:Ending→World→Prop} (hl:po args.length fn.ntmps=true) (hG:gl w S G) (H:J P fn (Di P fn Rr) fn.ntmps [.c sk] (uU 0 args) [] [] [([],w)] ⟨sK S [] w,[],G⟩):Calls P fid args.toArray w Rr:=
 EK hf hb rfl hl (Pre.none _ _) hG H
theorem mixed:Tryz.prog.follows .mixedOrders=true:=by kernel_rfl
def We:Sk:=(.seq (.rg 0 false) (.seq (.rg 1 false) (.seq (.seq (.rg 2 false) (.cond (.tmp 52) (.seq (.rg 3 false) .ret) .skip)) (.seq (.rg 4 false) (.seq (.seq (.rg 5 false) (.cond (.tmp 64) (.seq (.rg 6 false) .ret) .skip)) (.seq (.rg 7 false) (.seq (.seq (.rg 8 false) (.block 0 (.loop (.seq (.seq (.rg 9 false) (.cond (.tmp 67) .skip (.exit 0))) (.seq (.block 1 (.seq (.rg 11 false) (.seq (.seq (.rg 12 false) (.cond (.tmp 82) (.seq (.rg 13 false) .ret) .skip)) (.rg 14 false)))) (.rg 10 false)))))) (.seq (.rg 15 false) (.seq (.seq (.rg 16 false) (.block 2 (.loop (.seq (.seq (.rg 17 false) (.cond (.tmp 90) .skip (.exit 2))) (.seq (.block 3 (.seq (.seq (.rg 19 false) (.cond (.tmp 111) (.seq (.rg 20 false) (.seq (.rg 21 false) (.cond (.tmp 123) (.seq (.rg 22 false) .ret) .skip))) .skip)) (.seq (.seq (.rg 23 false) (.cond (.tmp 136) (.exit 3) .skip)) (.seq (.rg 24 false) (.seq (.seq (.rg 25 false) (.cond (.tmp 150) (.seq (.seq (.rg 26 false) (.cond (.tmp 153) (.seq (.rg 27 false) .ret) .skip)) (.exit 3)) .skip)) (.seq (.rg 28 false) (.seq (.seq (.rg 29 false) (.cond (.tmp 171) (.seq (.rg 30 false) .ret) .skip)) (.seq (.rg 31 false) (.seq (.seq (.rg 32 false) (.cond (.tmp 185) (.seq (.rg 33 false) .ret) .skip)) (.seq (.rg 34 false) (.seq (.seq (.rg 35 false) (.cond (.tmp 199) (.seq (.rg 36 false) .ret) .skip)) (.rg 37 false)))))))))))) (.rg 18 false)))))) (.seq (.rg 38 false) .ret))))))))))
theorem XO:Tryz.f8.body=some (We.code Tryz.f8):=by kernel_rfl
def Tk:Sk:=(.seq (.rg 0 false) (.seq (.seq (.rg 1 false) (.cond (.tmp 41) (.seq (.rg 2 true) .ret) .skip)) (.seq (.rg 3 false) (.seq (.seq (.rg 4 false) (.cond (.tmp 49) (.seq (.rg 5 false) .ret) .skip)) (.seq (.rg 6 false) (.seq (.seq (.rg 7 false) (.block 0 (.loop (.seq (.rg 8 false) (.seq (.cond (.tmp 59) .skip (.exit 0)) (.seq (.block 1 (.seq (.rg 9 false) (.seq (.rg 10 false) (.seq (.rg 11 false) (.seq (.seq (.rg 12 false) (.block 2 (.loop (.seq (.rg 13 false) (.seq (.cond (.tmp 63) .skip (.exit 2)) (.seq (.block 3 (.seq (.rg 14 false) (.seq (.rg 15 false) (.cond (.tmp 67) (.seq (.rg 16 false) (.seq (.rg 17 false) (.rg 18 false))) .skip)))) (.rg 19 false))))))) (.rg 20 true)))))) (.rg 21 false))))))) (.seq (.rg 22 false) .ret)))))))
theorem Vb:Tryz.f12.body=some (Tk.code Tryz.f12):=by kernel_rfl
def Tj:Sk:=(.seq (.rg 0 false) (.seq (.rg 1 false) (.seq (.rg 2 false) .ret)))
theorem Va:Tryz.f13.body=some (Tj.code Tryz.f13):=by kernel_rfl
def Ti:Sk:=(.seq (.rg 0 false) (.seq (.rg 1 false) (.seq (.seq (.rg 2 false) (.block 0 (.loop (.seq (.rg 3 false) (.seq (.cond (.tmp 13) .skip (.exit 0)) (.seq (.block 1 (.seq (.rg 4 false) (.seq (.rg 5 false) (.seq (.seq (.rg 6 false) (.cond (.tmp 26) (.rg 7 false) .skip)) (.rg 8 false))))) (.rg 9 false))))))) (.seq (.rg 10 false) .ret))))
theorem U':Tryz.f19.body=some (Ti.code Tryz.f19):=by kernel_rfl
def Th:Sk:=(.seq (.rg 0 false) (.seq (.seq (.rg 1 false) (.seq (.rg 2 false) (.cond (.tmp 27) (.seq (.rg 3 false) .ret) .skip))) (.seq (.seq (.rg 4 false) (.cond (.tmp 34) (.seq (.rg 5 true) .ret) .skip)) (.seq (.rg 6 false) (.seq (.rg 7 true) (.seq (.seq (.rg 8 false) (.block 0 (.loop (.seq (.rg 9 false) (.seq (.cond (.tmp 61) .skip (.exit 0)) (.seq (.block 1 (.seq (.rg 10 false) (.rg 11 false))) (.rg 12 false))))))) (.seq (.seq (.rg 13 false) (.seq (.rg 14 false) (.cond (.tmp 73) (.seq (.rg 15 false) .ret) .skip))) (.seq (.seq (.rg 16 true) (.seq (.rg 17 false) (.cond (.tmp 83) (.seq (.rg 18 false) .ret) .skip))) (.seq (.rg 19 false) (.seq (.rg 20 false) (.seq (.seq (.rg 21 false) (.block 2 (.loop (.seq (.rg 22 false) (.seq (.cond (.tmp 99) .skip (.exit 2)) (.seq (.block 3 (.seq (.rg 23 false) (.seq (.rg 24 false) (.block 4 (.loop (.seq (.rg 25 false) (.seq (.cond (.tmp 105) .skip (.exit 4)) (.seq (.block 5 (.seq (.rg 26 false) (.seq (.rg 27 false) (.seq (.rg 28 false) (.cond (.tmp 116) (.seq (.rg 29 false) (.rg 30 false)) .skip))))) (.rg 31 false))))))))) (.rg 32 false))))))) (.seq (.rg 33 false) .ret))))))))))))
theorem U9:Tryz.f22.body=some (Th.code Tryz.f22):=by kernel_rfl
def Tg:Sk:=(.seq (.rg 0 false) (.seq (.rg 1 false) (.seq (.seq (.rg 2 false) (.block 0 (.loop (.seq (.rg 3 false) (.seq (.cond (.tmp 15) .skip (.exit 0)) (.seq (.block 1 (.seq (.rg 4 false) (.seq (.rg 5 false) (.rg 6 false)))) (.rg 7 false))))))) (.seq (.rg 8 false) .ret))))
theorem U8:Tryz.f23.body=some (Tg.code Tryz.f23):=by kernel_rfl
def Tf:Sk:=(.seq (.rg 0 false) (.seq (.block 0 (.seq (.rg 1 true) (.cond (.tmp 11) (.seq (.rg 2 true) .ret) (.seq (.rg 3 true) (.cond (.tmp 48) (.seq (.rg 4 true) .ret) (.seq (.rg 5 false) (.cond (.tmp 57) (.seq (.rg 6 true) .ret) .skip))))))) (.seq (.rg 7 true) (.seq (.rg 8 false) (.seq (.seq (.rg 9 false) (.cond (.tmp 95) (.seq (.rg 10 false) .ret) .skip)) (.seq (.seq (.rg 11 false) (.block 1 (.loop (.seq (.rg 12 false) (.seq (.cond (.tmp 100) .skip (.exit 1)) (.seq (.block 2 (.seq (.rg 13 false) (.seq (.rg 14 false) (.cond (.tmp 113) (.rg 15 true) .skip)))) (.rg 16 false))))))) (.seq (.rg 17 true) .ret)))))))
theorem U7:Tryz.f24.body=some (Tf.code Tryz.f24):=by kernel_rfl
def Te:Sk:=(.seq (.rg 0 false) (.seq (.seq (.rg 1 false) (.seq (.rg 2 false) (.cond (.tmp 14) (.seq (.rg 3 false) .ret) .skip))) (.seq (.rg 4 false) .ret)))
theorem U6:Tryz.f25.body=some (Te.code Tryz.f25):=by kernel_rfl
def Td:Sk:=(.seq (.rg 0 false) (.seq (.rg 1 false) (.seq (.rg 2 false) (.seq (.seq (.rg 3 false) (.cond (.tmp 28) (.seq (.rg 4 false) .ret) .skip)) (.seq (.rg 5 false) (.seq (.rg 6 false) (.seq (.rg 7 false) (.seq (.rg 8 false) .ret))))))))
theorem U5:Tryz.f31.body=some (Td.code Tryz.f31):=by kernel_rfl
def Tc:Sk:=(.seq (.rg 0 false) (.seq (.seq (.rg 1 false) (.cond (.tmp 9) (.seq (.rg 2 true) .ret) .skip)) (.seq (.rg 3 false) .ret)))
theorem U4:Tryz.f32.body=some (Tc.code Tryz.f32):=by kernel_rfl
def Tb:Sk:=(.seq (.rg 0 false) (.seq (.block 0 (.seq (.rg 1 false) (.cond (.tmp 9) (.seq (.rg 2 true) .ret) (.seq (.rg 3 true) (.cond (.tmp 16) (.seq (.rg 4 true) .ret) .skip))))) (.seq (.rg 5 false) (.seq (.seq (.rg 6 false) (.seq (.rg 7 false) (.cond (.tmp 38) (.seq (.rg 8 true) .ret) .skip))) (.seq (.rg 9 false) (.seq (.rg 10 false) (.seq (.rg 11 false) .ret)))))))
theorem U3:Tryz.f33.body=some (Tb.code Tryz.f33):=by kernel_rfl
def Ta:Sk:=(.seq (.rg 0 false) (.seq (.rg 1 false) .ret))
theorem U2:Tryz.f34.body=some (Ta.code Tryz.f34):=by kernel_rfl
def S9:Sk:=(.seq (.rg 0 false) (.seq (.rg 1 false) .ret))
theorem U1:Tryz.f35.body=some (S9.code Tryz.f35):=by kernel_rfl
def S8:Sk:=(.seq (.rg 0 false) (.seq (.seq (.rg 1 false) (.cond (.tmp 13) (.seq (.rg 2 true) .ret) .skip)) (.seq (.seq (.rg 3 false) (.cond (.tmp 24) (.seq (.rg 4 true) .ret) .skip)) (.seq (.rg 5 true) (.seq (.seq (.rg 6 false) (.cond (.tmp 66) (.seq (.rg 7 false) .ret) .skip)) (.seq (.rg 8 false) (.seq (.rg 9 true) .ret)))))))
theorem QZ:Tryz.f38.body=some (S8.code Tryz.f38):=by kernel_rfl
def S7:Sk:=(.seq (.rg 0 false) (.seq (.rg 1 false) (.seq (.seq (.rg 2 false) (.cond (.tmp 14) (.seq (.rg 3 true) .ret) .skip)) (.seq (.rg 4 false) (.seq (.seq (.rg 5 false) (.cond (.tmp 25) (.seq (.rg 6 true) .ret) .skip)) (.seq (.rg 7 true) (.seq (.seq (.rg 8 false) (.cond (.tmp 54) (.seq (.rg 9 false) .ret) .skip)) (.seq (.rg 10 false) (.seq (.rg 11 false) .ret)))))))))
theorem U0:Tryz.f39.body=some (S7.code Tryz.f39):=by kernel_rfl
def S6:Sk:=(.seq (.rg 0 false) (.seq (.seq (.rg 1 false) (.block 0 (.loop (.seq (.seq (.rg 2 false) (.cond (.tmp 11) .skip (.exit 0))) (.seq (.block 1 (.seq (.seq (.rg 4 false) (.cond (.tmp 29) (.seq (.rg 5 false) .ret) .skip)) (.seq (.rg 6 true) (.seq (.rg 7 false) (.cond (.tmp 47) (.seq (.rg 8 false) .ret) .skip))))) (.rg 3 false)))))) (.seq (.rg 9 false) .ret)))
theorem UZ:Tryz.f41.body=some (S6.code Tryz.f41):=by kernel_rfl
def S5:Sk:=(.seq (.rg 0 false) (.seq (.rg 1 false) .ret))
theorem UY:Tryz.f43.body=some (S5.code Tryz.f43):=by kernel_rfl
def S4:Sk:=(.seq (.rg 0 false) (.seq (.seq (.rg 1 false) (.cond (.tmp 9) (.seq (.rg 2 true) .ret) .skip)) (.seq (.rg 3 false) .ret)))
theorem UX:Tryz.f57.body=some (S4.code Tryz.f57):=by kernel_rfl
def S3:Sk:=(.seq (.rg 0 false) (.seq (.rg 1 false) (.seq (.seq (.rg 2 false) (.cond (.tmp 18) (.seq (.rg 3 false) .ret) .skip)) (.seq (.rg 4 false) .ret))))
theorem UW:Tryz.f58.body=some (S3.code Tryz.f58):=by kernel_rfl
def S2:Sk:=(.seq (.rg 0 false) (.seq (.rg 1 false) (.seq (.seq (.rg 2 false) (.cond (.tmp 18) (.seq (.rg 3 false) .ret) .skip)) (.seq (.rg 4 false) .ret))))
theorem UU:Tryz.f59.body=some (S2.code Tryz.f59):=by kernel_rfl
def S1:Sk:=(.seq (.rg 0 false) (.seq (.seq (.rg 1 false) (.cond (.tmp 8) (.seq (.rg 2 false) .ret) .skip)) (.seq (.rg 3 false) (.seq (.rg 4 false) (.seq (.seq (.rg 5 false) (.cond (.tmp 11) (.rg 6 false) .skip)) (.seq (.seq (.rg 7 false) (.block 0 (.loop (.seq (.rg 8 false) (.seq (.cond (.tmp 31) .skip (.exit 0)) (.seq (.block 1 (.seq (.rg 9 false) (.seq (.rg 10 false) (.cond (.tmp 37) (.seq (.rg 11 false) .ret) .skip)))) (.rg 12 false))))))) (.seq (.rg 13 false) .ret)))))))
theorem QY:Tryz.f60.body=some (S1.code Tryz.f60):=by kernel_rfl
def SZ:Sk:=(.seq (.rg 0 false) (.seq (.seq (.rg 1 false) (.seq (.rg 2 false) (.cond (.tmp 16) (.seq (.rg 3 false) .ret) .skip))) (.seq (.rg 4 false) .ret)))
theorem UT:Tryz.f74.body=some (SZ.code Tryz.f74):=by kernel_rfl
def SY:Sk:=(.seq (.rg 0 false) (.seq (.seq (.rg 1 false) (.cond (.tmp 9) (.rg 2 false) .skip)) (.seq (.rg 3 false) (.seq (.seq (.rg 4 false) (.block 0 (.loop (.seq (.seq (.rg 5 false) (.cond (.tmp 17) .skip (.exit 0))) (.seq (.block 1 (.seq (.rg 7 false) (.cond (.tmp 27) (.rg 8 false) .skip))) (.rg 6 false)))))) (.seq (.rg 9 false) .ret)))))
theorem US:Tryz.f80.body=some (SY.code Tryz.f80):=by kernel_rfl
def SX:Sk:=(.seq (.rg 0 false) (.seq (.rg 1 false) .ret))
theorem UR:Tryz.f81.body=some (SX.code Tryz.f81):=by kernel_rfl
def SV:Sk:=(.seq (.rg 0 false) (.seq (.rg 1 false) .ret))
theorem UQ:Tryz.f82.body=some (SV.code Tryz.f82):=by kernel_rfl
def SU:Sk:=(.seq (.rg 0 false) (.seq (.seq (.rg 1 false) (.seq (.rg 2 false) (.cond (.tmp 11) (.seq (.rg 3 false) .ret) .skip))) (.seq (.seq (.rg 4 false) (.cond (.tmp 19) (.seq (.rg 5 false) .ret) .skip)) (.seq (.seq (.rg 6 false) (.seq (.rg 7 false) (.cond (.tmp 29) (.seq (.rg 8 false) .ret) .skip))) (.seq (.rg 9 false) .ret)))))
theorem UP:Tryz.f83.body=some (SU.code Tryz.f83):=by kernel_rfl
def SS:Sk:=(.seq (.rg 0 false) (.seq (.rg 1 false) (.seq (.rg 2 false) (.seq (.seq (.rg 3 false) (.block 0 (.loop (.seq (.rg 4 false) (.seq (.cond (.tmp 16) .skip (.exit 0)) (.seq (.block 1 (.seq (.rg 5 false) (.rg 6 true))) (.rg 7 false))))))) (.seq (.rg 8 false) .ret)))))
theorem UO:Tryz.f84.body=some (SS.code Tryz.f84):=by kernel_rfl
def SR:Sk:=(.seq (.rg 0 false) (.seq (.seq (.rg 1 false) (.seq (.rg 2 false) (.cond (.tmp 11) (.seq (.rg 3 false) .ret) .skip))) (.seq (.seq (.rg 4 false) (.cond (.tmp 38) (.seq (.rg 5 false) .ret) .skip)) (.seq (.seq (.rg 6 false) (.cond (.tmp 43) (.seq (.rg 7 false) .ret) .skip)) (.seq (.seq (.rg 8 false) (.block 0 (.loop (.seq (.rg 9 false) (.seq (.cond (.tmp 49) .skip (.exit 0)) (.seq (.block 1 (.seq (.rg 10 false) (.seq (.rg 11 false) (.seq (.seq (.rg 12 true) (.cond (.tmp 75) (.rg 13 false) .skip)) (.seq (.rg 14 false) (.cond (.tmp 78) (.seq (.rg 15 false) .ret) .skip)))))) (.rg 16 false))))))) (.seq (.rg 17 false) .ret))))))
theorem UN:Tryz.f85.body=some (SR.code Tryz.f85):=by kernel_rfl
def SQ:Sk:=(.seq (.rg 0 false) (.seq (.seq (.rg 1 false) (.seq (.rg 2 false) (.cond (.tmp 16) (.seq (.rg 3 false) .ret) .skip))) (.seq (.seq (.rg 4 true) (.cond (.tmp 25) (.seq (.rg 5 false) .ret) .skip)) (.seq (.seq (.rg 6 true) (.seq (.rg 7 false) (.cond (.tmp 37) (.seq (.rg 8 false) .ret) .skip))) (.seq (.seq (.rg 9 false) (.block 0 (.loop (.seq (.rg 10 false) (.seq (.cond (.tmp 43) .skip (.exit 0)) (.seq (.block 1 (.seq (.rg 11 false) (.seq (.rg 12 true) (.cond (.tmp 54) (.seq (.rg 13 false) .ret) .skip)))) (.rg 14 false))))))) (.seq (.rg 15 false) (.seq (.seq (.rg 16 false) (.block 2 (.loop (.seq (.rg 17 false) (.seq (.cond (.tmp 67) .skip (.exit 2)) (.seq (.block 3 (.seq (.rg 18 false) (.seq (.rg 19 true) (.seq (.rg 20 false) (.seq (.rg 21 false) (.rg 22 true)))))) (.rg 23 false))))))) (.seq (.rg 24 false) .ret))))))))
theorem UM:Tryz.f86.body=some (SQ.code Tryz.f86):=by kernel_rfl
def SP:Sk:=(.seq (.rg 0 false) (.seq (.rg 1 false) (.seq (.rg 2 true) .ret)))
theorem UL:Tryz.f87.body=some (SP.code Tryz.f87):=by kernel_rfl
def SO:Sk:=(.seq (.rg 0 false) (.seq (.seq (.rg 1 false) (.seq (.rg 2 false) (.cond (.tmp 10) (.seq (.rg 3 false) .ret) .skip))) (.seq (.seq (.rg 4 true) (.cond (.tmp 20) (.seq (.rg 5 true) .ret) .skip)) (.seq (.seq (.rg 6 true) (.cond (.tmp 33) (.seq (.rg 7 true) .ret) .skip)) (.seq (.rg 8 true) .ret)))))
theorem UK:Tryz.f88.body=some (SO.code Tryz.f88):=by kernel_rfl
def SN:Sk:=(.seq (.rg 0 false) (.seq (.rg 1 false) (.seq (.seq (.rg 2 false) (.block 0 (.loop (.seq (.rg 3 false) (.seq (.cond (.tmp 12) .skip (.exit 0)) (.seq (.block 1 (.seq (.rg 4 false) (.seq (.rg 5 false) (.seq (.rg 6 false) (.cond (.tmp 20) (.rg 7 false) .skip))))) (.rg 8 false))))))) (.seq (.rg 9 false) (.seq (.seq (.rg 10 false) (.block 2 (.loop (.seq (.rg 11 false) (.seq (.cond (.tmp 28) .skip (.exit 2)) (.seq (.block 3 (.seq (.rg 12 false) (.rg 13 false))) (.rg 14 false))))))) (.seq (.rg 15 false) .ret))))))
theorem UJ:Tryz.f89.body=some (SN.code Tryz.f89):=by kernel_rfl
def SM:Sk:=(.seq (.rg 0 false) (.seq (.block 0 (.seq (.rg 1 false) (.cond (.tmp 6) (.seq (.rg 2 true) .ret) (.seq (.rg 3 false) (.cond (.tmp 15) (.seq (.rg 4 true) .ret) .skip))))) (.seq (.rg 5 false) .ret)))
theorem UI:Tryz.f90.body=some (SM.code Tryz.f90):=by kernel_rfl
def SL:Sk:=(.seq (.rg 0 false) (.seq (.seq (.rg 1 true) (.cond (.tmp 14) (.seq (.rg 2 false) .ret) .skip)) (.seq (.rg 3 false) (.seq (.rg 4 false) .ret))))
theorem UH:Tryz.f91.body=some (SL.code Tryz.f91):=by kernel_rfl
def SK:Sk:=(.seq (.rg 0 false) (.seq (.block 0 (.seq (.rg 1 true) (.cond (.tmp 10) (.seq (.rg 2 true) .ret) (.seq (.rg 3 false) (.cond (.tmp 40) (.seq (.rg 4 true) .ret) (.seq (.rg 5 true) (.cond (.tmp 55) (.seq (.rg 6 false) .ret) (.seq (.rg 7 true) (.cond (.tmp 63) (.seq (.rg 8 true) .ret) .skip))))))))) (.seq (.seq (.rg 9 true) (.seq (.rg 10 false) (.cond (.tmp 84) (.rg 11 true) .skip))) (.block 1 (.loop (.block 2 (.seq (.rg 12 true) (.seq (.seq (.rg 13 false) (.cond (.tmp 107) (.seq (.rg 14 false) .ret) .skip)) (.seq (.rg 15 true) (.seq (.rg 16 true) (.rg 17 false)))))))))))
theorem UG:Tryz.f92.body=some (SK.code Tryz.f92):=by kernel_rfl
def SJ:Sk:=(.seq (.rg 0 false) (.seq (.rg 1 false) .ret))
theorem UF:Tryz.f93.body=some (SJ.code Tryz.f93):=by kernel_rfl
def SI:Sk:=(.seq (.rg 0 false) (.seq (.seq (.rg 1 false) (.cond (.tmp 9) (.seq (.rg 2 false) .ret) .skip)) (.seq (.rg 3 false) .ret)))
theorem UE:Tryz.f94.body=some (SI.code Tryz.f94):=by kernel_rfl
def SH:Sk:=(.seq (.rg 0 false) (.seq (.rg 1 false) (.seq (.seq (.rg 2 false) (.cond (.tmp 18) (.seq (.rg 3 false) .ret) .skip)) (.seq (.rg 4 false) .ret))))
theorem UD:Tryz.f95.body=some (SH.code Tryz.f95):=by kernel_rfl
def SG:Sk:=(.seq (.rg 0 false) (.seq (.rg 1 false) .ret))
theorem UC:Tryz.f99.body=some (SG.code Tryz.f99):=by kernel_rfl
def Pt:Sk:=(.seq (.rg 0 false) (.seq (.seq (.rg 1 false) (.seq (.rg 2 false) (.cond (.tmp 11) (.seq (.rg 3 false) .ret) .skip))) (.seq (.rg 4 false) .ret)))
theorem RQ:Tryz.f100.body=some (Pt.code Tryz.f100):=by kernel_rfl
def Ps:Sk:=(.seq (.rg 0 false) (.seq (.seq (.rg 1 false) (.cond (.tmp 4) (.seq (.rg 2 false) .ret) .skip)) (.seq (.rg 3 false) .ret)))
theorem L4:Tryz.f101.body=some (Ps.code Tryz.f101):=by kernel_rfl
def Pr:Sk:=(.seq (.rg 0 false) (.seq (.seq (.rg 1 false) (.cond (.tmp 12) (.seq (.rg 2 false) .ret) .skip)) (.seq (.seq (.rg 3 false) (.cond (.tmp 22) (.seq (.rg 4 false) .ret) .skip)) (.seq (.rg 5 false) (.seq (.seq (.rg 6 true) (.seq (.rg 7 false) (.cond (.tmp 44) (.seq (.rg 8 false) .ret) .skip))) (.seq (.seq (.rg 9 false) (.cond (.tmp 47) (.seq (.rg 10 true) (.seq (.seq (.rg 11 false) (.cond (.tmp 71) (.seq (.rg 12 false) .ret) .skip)) (.rg 13 false))) .skip)) (.seq (.rg 14 true) (.seq (.rg 15 false) .ret))))))))
theorem RP:Tryz.f102.body=some (Pr.code Tryz.f102):=by kernel_rfl
def Pq:Sk:=(.seq (.rg 0 false) (.seq (.rg 1 false) .ret))
theorem RO:Tryz.f103.body=some (Pq.code Tryz.f103):=by kernel_rfl
def Pp:Sk:=(.seq (.rg 0 false) (.seq (.seq (.rg 1 false) (.cond (.tmp 10) (.rg 2 false) .skip)) (.seq (.rg 3 false) (.seq (.seq (.rg 4 false) (.cond (.tmp 26) (.rg 5 false) .skip)) (.seq (.rg 6 false) (.seq (.rg 7 false) (.seq (.block 0 (.loop (.seq (.seq (.rg 8 false) (.cond (.tmp 37) .skip (.exit 0))) (.block 1 (.rg 9 true))))) (.seq (.rg 10 false) .ret))))))))
theorem Ak:Tryz.f104.body=some (Pp.code Tryz.f104):=by kernel_rfl
def Po:Sk:=(.seq (.rg 0 false) (.seq (.rg 1 false) (.seq (.seq (.rg 2 false) (.cond (.tmp 19) (.seq (.rg 3 false) .ret) .skip)) (.seq (.rg 4 false) (.seq (.rg 5 false) (.seq (.seq (.rg 6 false) (.block 0 (.loop (.seq (.rg 7 false) (.seq (.cond (.tmp 32) .skip (.exit 0)) (.seq (.block 1 (.seq (.rg 8 false) (.seq (.rg 9 false) (.block 2 (.seq (.rg 10 false) (.cond (.tmp 36) (.rg 11 false) (.seq (.rg 12 false) (.cond (.tmp 42) (.rg 13 false) .skip)))))))) (.rg 14 false))))))) (.seq (.seq (.rg 15 false) (.cond (.tmp 53) (.rg 16 false) .skip)) (.seq (.rg 17 false) .ret))))))))
theorem L3:Tryz.f105.body=some (Po.code Tryz.f105):=by kernel_rfl
def Pn:Sk:=(.seq (.rg 0 false) (.seq (.rg 1 false) .ret))
theorem RN:Tryz.f106.body=some (Pn.code Tryz.f106):=by kernel_rfl
def Pm:Sk:=(.seq (.rg 0 false) (.seq (.seq (.rg 1 false) (.cond (.tmp 29) (.seq (.rg 2 true) .ret) .skip)) (.seq (.seq (.rg 3 false) (.cond (.tmp 34) (.seq (.rg 4 true) .ret) .skip)) (.seq (.rg 5 false) .ret))))
theorem RM:Tryz.f122.body=some (Pm.code Tryz.f122):=by kernel_rfl
def Pk:Sk:=(.seq (.rg 0 false) (.seq (.seq (.rg 1 false) (.cond (.tmp 9) (.seq (.rg 2 false) .ret) .skip)) (.seq (.seq (.rg 3 false) (.cond (.tmp 11) (.rg 4 false) .skip)) (.seq (.rg 5 false) (.seq (.rg 6 false) (.seq (.seq (.rg 7 false) (.cond (.tmp 23) (.rg 8 false) .skip)) (.seq (.rg 9 false) (.seq (.seq (.rg 10 false) (.cond (.tmp 35) (.rg 11 false) .skip)) (.seq (.rg 12 false) .ret)))))))))
theorem RL:Tryz.f123.body=some (Pk.code Tryz.f123):=by kernel_rfl
def Pj:Sk:=(.seq (.rg 0 false) (.seq (.rg 1 false) (.seq (.seq (.rg 2 false) (.cond (.tmp 20) (.seq (.rg 3 false) .ret) .skip)) (.seq (.rg 4 false) .ret))))
theorem RK:Tryz.f138.body=some (Pj.code Tryz.f138):=by kernel_rfl
def Ph:Sk:=(.seq (.rg 0 false) (.seq (.seq (.rg 1 false) (.cond (.tmp 10) (.seq (.rg 2 false) .ret) .skip)) (.seq (.seq (.rg 3 false) (.cond (.tmp 13) (.seq (.rg 4 false) .ret) .skip)) (.seq (.rg 5 false) .ret))))
theorem RJ:Tryz.f141.body=some (Ph.code Tryz.f141):=by kernel_rfl
def Pg:Sk:=(.seq (.rg 0 false) (.seq (.seq (.rg 1 false) (.cond (.tmp 4) (.seq (.rg 2 false) .ret) .skip)) (.seq (.rg 3 false) .ret)))
theorem L2:Tryz.f142.body=some (Pg.code Tryz.f142):=by kernel_rfl
def Pf:Sk:=(.seq (.rg 0 false) (.seq (.seq (.rg 1 false) (.cond (.tmp 4) (.seq (.rg 2 false) .ret) .skip)) (.seq (.rg 3 false) .ret)))
theorem LZ:Tryz.f143.body=some (Pf.code Tryz.f143):=by kernel_rfl
def Pe:Sk:=(.seq (.rg 0 false) (.seq (.block 0 (.seq (.rg 1 false) (.cond (.tmp 5) (.seq (.rg 2 false) .ret) (.seq (.rg 3 false) (.cond (.tmp 23) (.seq (.rg 4 false) .ret) (.seq (.rg 5 false) (.cond (.tmp 29) (.seq (.rg 6 false) .ret) (.seq (.rg 7 false) (.cond (.tmp 44) (.seq (.rg 8 false) .ret) (.seq (.rg 9 false) (.cond (.tmp 49) (.seq (.rg 10 false) .ret) (.seq (.rg 11 false) (.cond (.tmp 71) (.seq (.rg 12 false) .ret) .skip))))))))))))) (.seq (.rg 13 false) .ret)))
theorem RH:Tryz.f144.body=some (Pe.code Tryz.f144):=by kernel_rfl
def Pd:Sk:=(.seq (.rg 0 false) (.seq (.rg 1 true) .ret))
theorem RG:Tryz.f145.body=some (Pd.code Tryz.f145):=by kernel_rfl
def Pc:Sk:=(.seq (.rg 0 false) (.seq (.rg 1 false) (.seq (.seq (.rg 2 false) (.cond (.tmp 12) (.seq (.rg 3 false) .ret) .skip)) (.seq (.seq (.rg 4 false) (.block 0 (.loop (.seq (.seq (.rg 5 false) (.cond (.tmp 19) .skip (.exit 0))) (.seq (.block 1 (.seq (.rg 7 false) (.seq (.rg 8 false) (.cond (.tmp 29) (.seq (.rg 9 false) (.rg 10 false)) .skip)))) (.rg 6 false)))))) (.seq (.rg 11 false) (.seq (.rg 12 false) .ret))))))
theorem RF:Tryz.f146.body=some (Pc.code Tryz.f146):=by kernel_rfl
def Pb:Sk:=(.seq (.rg 0 false) (.seq (.rg 1 true) (.seq (.rg 2 false) .ret)))
theorem RE:Tryz.f147.body=some (Pb.code Tryz.f147):=by kernel_rfl
def Pa:Sk:=(.seq (.rg 0 false) (.seq (.seq (.rg 1 false) (.cond (.tmp 8) (.seq (.rg 2 true) .ret) .skip)) (.seq (.seq (.rg 3 false) (.cond (.tmp 15) (.seq (.rg 4 true) .ret) .skip)) (.seq (.rg 5 false) .ret))))
theorem RD:Tryz.f148.body=some (Pa.code Tryz.f148):=by kernel_rfl
def O':Sk:=(.seq (.rg 0 false) (.seq (.rg 1 false) (.seq (.rg 2 false) (.seq (.rg 3 true) (.seq (.rg 4 true) (.seq (.rg 5 false) .ret))))))
theorem RC:Tryz.f149.body=some (O'.code Tryz.f149):=by kernel_rfl
def O9:Sk:=(.seq (.rg 0 false) (.seq (.seq (.rg 1 false) (.cond (.tmp 6) (.rg 2 false) .skip)) (.seq (.seq (.rg 3 false) (.seq (.rg 4 false) (.cond (.tmp 16) (.rg 5 false) .skip))) (.seq (.rg 6 false) .ret))))
theorem RB:Tryz.f150.body=some (O9.code Tryz.f150):=by kernel_rfl
def O8:Sk:=(.seq (.rg 0 false) (.seq (.rg 1 false) (.seq (.seq (.rg 2 false) (.cond (.tmp 12) (.seq (.rg 3 false) .ret) .skip)) (.seq (.seq (.rg 4 false) (.block 0 (.loop (.seq (.seq (.rg 5 false) (.cond (.tmp 19) .skip (.exit 0))) (.seq (.block 1 (.seq (.rg 7 false) (.seq (.rg 8 false) (.cond (.tmp 29) (.seq (.rg 9 false) (.rg 10 false)) .skip)))) (.rg 6 false)))))) (.seq (.rg 11 false) (.seq (.rg 12 false) .ret))))))
theorem RA:Tryz.f151.body=some (O8.code Tryz.f151):=by kernel_rfl
def O7:Sk:=(.seq (.rg 0 false) (.seq (.rg 1 false) .ret))
theorem Rz:Tryz.f152.body=some (O7.code Tryz.f152):=by kernel_rfl
def O6:Sk:=(.seq (.rg 0 false) (.seq (.rg 1 false) (.seq (.rg 2 false) .ret)))
theorem Ry:Tryz.f153.body=some (O6.code Tryz.f153):=by kernel_rfl
def O5:Sk:=(.seq (.rg 0 false) (.seq (.rg 1 false) .ret))
theorem Rx:Tryz.f154.body=some (O5.code Tryz.f154):=by kernel_rfl
def O4:Sk:=(.seq (.rg 0 false) (.seq (.seq (.rg 1 false) (.cond (.tmp 18) (.seq (.rg 2 true) .ret) .skip)) (.seq (.seq (.rg 3 false) (.seq (.rg 4 false) (.cond (.tmp 23) (.seq (.rg 5 false) .ret) .skip))) (.seq (.seq (.rg 6 false) (.cond (.tmp 31) (.seq (.rg 7 true) .ret) .skip)) (.seq (.seq (.rg 8 false) (.seq (.rg 9 false) (.cond (.tmp 43) (.seq (.rg 10 true) .ret) .skip))) (.seq (.rg 11 false) (.seq (.seq (.rg 12 false) (.block 0 (.loop (.seq (.rg 13 false) (.seq (.cond (.tmp 53) .skip (.exit 0)) (.seq (.block 1 (.seq (.rg 14 false) (.seq (.rg 15 false) (.seq (.rg 16 false) (.cond (.tmp 63) (.rg 17 false) .skip))))) (.rg 18 false))))))) (.seq (.rg 19 false) .ret))))))))
theorem Rw:Tryz.f155.body=some (O4.code Tryz.f155):=by kernel_rfl
def O2:Sk:=(.seq (.rg 0 false) (.seq (.seq (.rg 1 false) (.block 0 (.loop (.seq (.rg 2 false) (.seq (.cond (.tmp 13) .skip (.exit 0)) (.seq (.block 1 (.seq (.rg 3 false) (.seq (.rg 4 false) (.seq (.rg 5 false) (.cond (.tmp 19) (.seq (.rg 6 false) .ret) .skip))))) (.rg 7 false))))))) (.seq (.seq (.rg 8 false) (.cond (.tmp 26) (.seq (.rg 9 false) .ret) .skip)) (.seq (.rg 10 false) .ret))))
theorem Rv:Tryz.f156.body=some (O2.code Tryz.f156):=by kernel_rfl
def O1:Sk:=(.seq (.rg 0 false) (.seq (.seq (.rg 1 false) (.block 0 (.loop (.seq (.rg 2 false) (.seq (.cond (.tmp 10) .skip (.exit 0)) (.seq (.block 1 (.seq (.rg 3 false) (.seq (.rg 4 false) (.cond (.tmp 19) (.seq (.rg 5 false) .ret) .skip)))) (.rg 6 false))))))) (.seq (.rg 7 false) .ret)))
theorem Ru:Tryz.f157.body=some (O1.code Tryz.f157):=by kernel_rfl
def OZ:Sk:=(.seq (.rg 0 false) (.seq (.seq (.rg 1 false) (.cond (.tmp 18) (.seq (.rg 2 true) .ret) .skip)) (.seq (.rg 3 false) (.seq (.rg 4 false) (.seq (.seq (.rg 5 false) (.block 0 (.loop (.seq (.rg 6 false) (.seq (.cond (.tmp 24) .skip (.exit 0)) (.seq (.block 1 (.seq (.rg 7 false) (.seq (.rg 8 false) (.seq (.seq (.rg 9 true) (.cond (.tmp 43) (.rg 10 false) .skip)) (.seq (.seq (.rg 11 false) (.cond (.tmp 46) (.seq (.rg 12 false) .ret) .skip)) (.seq (.rg 13 false) (.seq (.rg 14 false) (.block 2 (.loop (.seq (.rg 15 false) (.seq (.cond (.tmp 62) .skip (.exit 2)) (.seq (.block 3 (.seq (.rg 16 false) (.seq (.rg 17 true) (.seq (.seq (.rg 18 false) (.cond (.tmp 85) (.rg 19 false) .skip)) (.rg 20 false))))) (.rg 21 false))))))))))))) (.rg 22 false))))))) (.seq (.rg 23 false) (.seq (.rg 24 false) .ret)))))))
theorem Rt:Tryz.f159.body=some (OZ.code Tryz.f159):=by kernel_rfl
def OY:Sk:=(.seq (.rg 0 false) (.seq (.seq (.rg 1 false) (.cond (.tmp 7) (.seq (.rg 2 false) .ret) .skip)) (.seq (.rg 3 false) (.seq (.rg 4 true) .ret))))
theorem Rs:Tryz.f160.body=some (OY.code Tryz.f160):=by kernel_rfl
def OW:Sk:=(.seq (.rg 0 false) (.seq (.rg 1 false) (.seq (.seq (.rg 2 false) (.block 0 (.loop (.seq (.rg 3 false) (.seq (.cond (.tmp 15) .skip (.exit 0)) (.seq (.block 1 (.seq (.rg 4 false) (.seq (.rg 5 false) (.cond (.tmp 20) (.seq (.seq (.rg 6 false) (.cond (.tmp 26) (.rg 7 false) .skip)) (.seq (.rg 8 false) (.block 2 (.loop (.seq (.rg 9 false) (.seq (.cond (.tmp 37) .skip (.exit 2)) (.seq (.block 3 (.seq (.rg 10 false) (.rg 11 false))) (.rg 12 false)))))))) .skip)))) (.rg 13 false))))))) (.seq (.rg 14 false) (.seq (.seq (.rg 15 false) (.block 4 (.loop (.seq (.rg 16 false) (.seq (.cond (.tmp 52) .skip (.exit 4)) (.seq (.block 5 (.seq (.rg 17 false) (.seq (.rg 18 false) (.cond (.tmp 69) (.rg 19 true) .skip)))) (.rg 20 false))))))) (.seq (.rg 21 false) .ret))))))
theorem Rp:Tryz.f163.body=some (OW.code Tryz.f163):=by kernel_rfl
def OV:Sk:=(.seq (.rg 0 false) (.seq (.rg 1 false) (.seq (.seq (.rg 2 false) (.cond (.tmp 6) (.seq (.rg 3 false) .ret) .skip)) (.seq (.rg 4 false) .ret))))
theorem I0:Tryz.f164.body=some (OV.code Tryz.f164):=by kernel_rfl
def OU:Sk:=(.seq (.rg 0 false) (.seq (.rg 1 false) (.seq (.seq (.rg 2 false) (.cond (.tmp 19) (.seq (.rg 3 false) .ret) .skip)) (.seq (.rg 4 false) (.seq (.seq (.rg 5 false) (.cond (.tmp 27) (.seq (.rg 6 false) .ret) .skip)) (.seq (.rg 7 false) (.seq (.rg 8 false) (.seq (.rg 9 false) .ret))))))))
theorem Ro:Tryz.f180.body=some (OU.code Tryz.f180):=by kernel_rfl
def OT:Sk:=(.seq (.rg 0 false) (.seq (.rg 1 false) .ret))
theorem Rn:Tryz.f182.body=some (OT.code Tryz.f182):=by kernel_rfl
def OS:Sk:=(.seq (.rg 0 false) (.seq (.rg 1 false) .ret))
theorem Rm:Tryz.f183.body=some (OS.code Tryz.f183):=by kernel_rfl
def OR:Sk:=(.seq (.rg 0 false) (.seq (.seq (.rg 1 false) (.block 0 (.seq (.rg 2 false) (.cond (.tmp 5) (.seq (.rg 3 false) .ret) (.seq (.rg 4 false) (.cond (.tmp 21) (.seq (.rg 5 false) .ret) .skip)))))) (.seq (.rg 6 false) .ret)))
theorem Rl:Tryz.f184.body=some (OR.code Tryz.f184):=by kernel_rfl
def OQ:Sk:=(.seq (.rg 0 false) (.seq (.rg 1 false) .ret))
theorem Rk:Tryz.f185.body=some (OQ.code Tryz.f185):=by kernel_rfl
def OP:Sk:=(.seq (.rg 0 false) (.seq (.rg 1 false) .ret))
theorem Rj:Tryz.f186.body=some (OP.code Tryz.f186):=by kernel_rfl
def OO:Sk:=(.seq (.rg 0 false) (.seq (.rg 1 false) .ret))
theorem Ri:Tryz.f187.body=some (OO.code Tryz.f187):=by kernel_rfl
def ON:Sk:=(.seq (.rg 0 false) (.seq (.seq (.rg 1 false) (.block 0 (.loop (.seq (.rg 2 false) (.seq (.cond (.tmp 9) .skip (.exit 0)) (.seq (.block 1 (.seq (.rg 3 false) (.seq (.rg 4 false) (.cond (.tmp 16) (.seq (.rg 5 false) .ret) .skip)))) (.rg 6 false))))))) (.seq (.rg 7 false) .ret)))
theorem Rh:Tryz.f188.body=some (ON.code Tryz.f188):=by kernel_rfl
def OM:Sk:=(.seq (.rg 0 false) (.seq (.rg 1 false) (.seq (.seq (.rg 2 false) (.block 0 (.loop (.seq (.rg 3 false) (.seq (.cond (.tmp 8) .skip (.exit 0)) (.seq (.block 1 (.seq (.rg 4 false) (.seq (.rg 5 false) (.seq (.rg 6 false) (.block 2 (.loop (.seq (.rg 7 false) (.seq (.cond (.tmp 17) .skip (.exit 2)) (.seq (.block 3 (.rg 8 false)) (.rg 9 false)))))))))) (.rg 10 false))))))) (.seq (.rg 11 false) .ret))))
theorem Rg:Tryz.f189.body=some (OM.code Tryz.f189):=by kernel_rfl
def OL:Sk:=(.seq (.rg 0 false) (.seq (.seq (.rg 1 false) (.block 0 (.loop (.seq (.rg 2 false) (.seq (.cond (.tmp 9) .skip (.exit 0)) (.seq (.block 1 (.seq (.rg 3 false) (.seq (.rg 4 false) (.cond (.tmp 16) (.seq (.rg 5 false) .ret) .skip)))) (.rg 6 false))))))) (.seq (.rg 7 false) .ret)))
theorem Rf:Tryz.f190.body=some (OL.code Tryz.f190):=by kernel_rfl
def OK:Sk:=(.seq (.rg 0 false) (.seq (.rg 1 false) .ret))
theorem Re:Tryz.f191.body=some (OK.code Tryz.f191):=by kernel_rfl
def OJ:Sk:=(.seq (.rg 0 false) (.seq (.rg 1 false) .ret))
theorem Rc:Tryz.f192.body=some (OJ.code Tryz.f192):=by kernel_rfl
def OH:Sk:=(.seq (.rg 0 false) (.seq (.seq (.rg 1 false) (.seq (.rg 2 false) (.cond (.tmp 11) (.seq (.rg 3 false) .ret) .skip))) (.seq (.rg 4 false) (.seq (.seq (.rg 5 false) (.block 0 (.loop (.seq (.rg 6 false) (.seq (.cond (.tmp 16) .skip (.exit 0)) (.seq (.block 1 (.seq (.rg 7 false) (.rg 8 false))) (.rg 9 false))))))) (.seq (.rg 10 false) .ret)))))
theorem Rb:Tryz.f195.body=some (OH.code Tryz.f195):=by kernel_rfl
def OG:Sk:=(.seq (.rg 0 false) (.seq (.rg 1 true) .ret))
theorem Ra:Tryz.f197.body=some (OG.code Tryz.f197):=by kernel_rfl
def OF:Sk:=(.seq (.rg 0 false) (.seq (.rg 1 false) (.seq (.seq (.rg 2 false) (.block 0 (.loop (.seq (.rg 3 false) (.seq (.cond (.tmp 9) .skip (.exit 0)) (.seq (.block 1 (.seq (.rg 4 false) (.seq (.rg 5 false) (.cond (.tmp 14) (.seq (.rg 6 false) .ret) .skip)))) (.rg 7 false))))))) (.seq (.rg 8 false) .ret))))
theorem Q9:Tryz.f198.body=some (OF.code Tryz.f198):=by kernel_rfl
def OE:Sk:=(.seq (.rg 0 false) (.seq (.rg 1 false) (.seq (.rg 2 false) (.seq (.seq (.rg 3 false) (.cond (.tmp 11) (.seq (.seq (.rg 4 false) (.cond (.tmp 12) (.seq (.rg 5 false) .ret) .skip)) (.seq (.rg 6 false) .ret)) .skip)) (.seq (.seq (.rg 7 false) (.cond (.tmp 13) (.seq (.rg 8 false) .ret) .skip)) (.seq (.seq (.rg 9 false) (.cond (.tmp 16) (.seq (.rg 10 false) .ret) .skip)) (.seq (.seq (.rg 11 false) (.cond (.tmp 19) (.seq (.rg 12 false) .ret) .skip)) (.seq (.rg 13 false) .ret))))))))
theorem Q8:Tryz.f199.body=some (OE.code Tryz.f199):=by kernel_rfl
def OD:Sk:=(.seq (.rg 0 false) (.seq (.rg 1 false) (.seq (.seq (.rg 2 false) (.cond (.tmp 12) (.seq (.rg 3 false) .ret) .skip)) (.seq (.seq (.rg 4 false) (.block 0 (.loop (.seq (.seq (.rg 5 false) (.cond (.tmp 19) .skip (.exit 0))) (.seq (.block 1 (.seq (.rg 7 false) (.seq (.rg 8 false) (.cond (.tmp 29) (.seq (.rg 9 false) (.rg 10 false)) .skip)))) (.rg 6 false)))))) (.seq (.rg 11 false) (.seq (.rg 12 false) .ret))))))
theorem Q7:Tryz.f200.body=some (OD.code Tryz.f200):=by kernel_rfl
def OC:Sk:=(.seq (.rg 0 false) (.seq (.seq (.rg 1 false) (.cond (.tmp 4) (.seq (.rg 2 false) .ret) .skip)) (.seq (.rg 3 false) .ret)))
theorem LY:Tryz.f201.body=some (OC.code Tryz.f201):=by kernel_rfl
def OB:Sk:=(.seq (.rg 0 false) (.seq (.rg 1 false) .ret))
theorem Q6:Tryz.f202.body=some (OB.code Tryz.f202):=by kernel_rfl
def OA:Sk:=(.seq (.rg 0 false) (.seq (.rg 1 true) .ret))
theorem Q5:Tryz.f211.body=some (OA.code Tryz.f211):=by kernel_rfl
def Oz:Sk:=(.seq (.rg 0 false) (.seq (.seq (.rg 1 false) (.block 0 (.loop (.seq (.rg 2 false) (.seq (.cond (.tmp 9) .skip (.exit 0)) (.seq (.block 1 (.seq (.rg 3 false) (.seq (.rg 4 false) (.cond (.tmp 16) (.seq (.rg 5 false) .ret) .skip)))) (.rg 6 false))))))) (.seq (.rg 7 false) .ret)))
theorem Q4:Tryz.f214.body=some (Oz.code Tryz.f214):=by kernel_rfl
def Oy:Sk:=(.seq (.rg 0 false) (.seq (.seq (.rg 1 false) (.block 0 (.loop (.seq (.rg 2 false) (.seq (.cond (.tmp 9) .skip (.exit 0)) (.seq (.block 1 (.seq (.rg 3 false) (.seq (.rg 4 false) (.cond (.tmp 16) (.seq (.rg 5 false) .ret) .skip)))) (.rg 6 false))))))) (.seq (.rg 7 false) .ret)))
theorem Q3:Tryz.f215.body=some (Oy.code Tryz.f215):=by kernel_rfl
def Ox:Sk:=(.seq (.rg 0 false) (.seq (.seq (.rg 1 false) (.block 0 (.loop (.seq (.rg 2 false) (.seq (.cond (.tmp 9) .skip (.exit 0)) (.seq (.block 1 (.seq (.rg 3 false) (.seq (.rg 4 false) (.cond (.tmp 16) (.seq (.rg 5 false) .ret) .skip)))) (.rg 6 false))))))) (.seq (.rg 7 false) .ret)))
theorem Q2:Tryz.f216.body=some (Ox.code Tryz.f216):=by kernel_rfl
def Ow:Sk:=(.seq (.rg 0 false) (.seq (.rg 1 false) .ret))
theorem Q1:Tryz.f219.body=some (Ow.code Tryz.f219):=by kernel_rfl
def Ov:Sk:=(.seq (.rg 0 false) (.seq (.seq (.rg 1 false) (.block 0 (.loop (.seq (.rg 2 false) (.seq (.cond (.tmp 9) .skip (.exit 0)) (.seq (.block 1 (.seq (.rg 3 false) (.seq (.rg 4 false) (.cond (.tmp 16) (.seq (.rg 5 false) .ret) .skip)))) (.rg 6 false))))))) (.seq (.rg 7 false) .ret)))
theorem Q0:Tryz.f220.body=some (Ov.code Tryz.f220):=by kernel_rfl
end Go.Proofs.YtmkapocibaojdaaGreatDoor
end
section
namespace Go.Sx
open Go
def nR (dl:List Nat) (nw E:Env):List Nat:=nw.map (·.1)++(E.map (·.1)).filter fun t=>!(dl.contains t||(nw.map (·.1)).contains t)
def eE (dl:List Nat) (nw E:Env):Env:=nB (nw++E) (nR dl nw E)
def Pu:List (Nat×Obj)→Nat→Obj→List (Nat×Obj)
 | [],_,_=>[]
 | x::h,0,o=>(x.1,o)::h
 | x::h,p+1,o=>x::Pu h p o
def hS:List (Nat×Obj)→List (Nat×Obj)→List (Nat×Obj)
 | [],h=>h
 | (p,o)::st,h=>hS st (Pu h p o)
def hD (st nb h:List (Nat×Obj)):List (Nat×Obj):=hS st h++nb
def o0:(Nat→Nat)→List (Nat×Obj):=fun _=>[]
theorem oN:vh []:=trivial
theorem oC {a:Prop} {l:List Prop} (h:a) (t:vh l):vh (a::l):=⟨h,t⟩
def eN (dl:List Nat) (nw:(Nat→Nat)→Env) (nu:Nat→Nat) (E:Env):Env:=nB (nw nu++E) (nR dl (nw fun _=>0) E)
section
variable {P:Program} {f:Func} [Pan f] {R:Act→World→Prop} {n:Nat} [Dfr n] {k:List oR} {E:Env} {h r:List (Nat×Obj)} {F:List (List Nat×World)} {Y:fQ}
theorem Za {id:Nat} {d:Bool} (pl:List Pl) (dl:List Nat) (nw:Env) (H:J P f R n k (eE dl nw E) (h) r F Y) (hok:(o5 f id d (pl.map Pl.key)&&oT h.length [])=true:=by kernel_rfl) (hr:∀nu,(packed (ef P n nu f id h.length d pl [] E h r (nR dl nw E)),ow (ef P n nu f id h.length d pl [] E h r (nR dl nw E)))=(some (eE dl nw E,h,[],[]),ou (ef P n nu f id h.length d pl [] E h r (nR dl nw E))):=by intro _;kernel_rfl) (hm:P.follows .mixedOrders=true:=by kernel_rfl):J P f R n (.c (.rg id d)::k) E h r F Y:=wB hm pl [] (nR dl nw E) hok hr (fun _=>trivial) (fun _=>H)
theorem Zs {id:Nat} {d:Bool} {x:Sk} (pl:List Pl) (dl:List Nat) (nw:Env) (H:J P f R n (.c x::k) (eE dl nw E) (h) r F Y) (hok:(o5 f id d (pl.map Pl.key)&&oT h.length [])=true:=by kernel_rfl) (hr:∀nu,(packed (ef P n nu f id h.length d pl [] E h r (nR dl nw E)),ow (ef P n nu f id h.length d pl [] E h r (nR dl nw E)))=(some (eE dl nw E,h,[],[]),ou (ef P n nu f id h.length d pl [] E h r (nR dl nw E))):=by intro _;kernel_rfl) (hm:P.follows .mixedOrders=true:=by kernel_rfl):J P f R n (.c (.seq (.rg id d) x)::k) E h r F Y:=aq (wB hm pl [] (nR dl nw E) hok hr (fun _=>trivial) (fun _=>H))
theorem Zp {id:Nat} {d:Bool} (pl:List Pl) (dl:List Nat) (nw:Env) {p:List Prop} (hp:vh p) (H:J P f R n k (eE dl nw E) (h) r F Y) (hok:(o5 f id d (pl.map Pl.key)&&oT h.length [])=true:=by kernel_rfl) (hr:∀nu,(packed (ef P n nu f id h.length d pl [] E h r (nR dl nw E)),ow (ef P n nu f id h.length d pl [] E h r (nR dl nw E)))=(some (eE dl nw E,h,p,[]),ou (ef P n nu f id h.length d pl [] E h r (nR dl nw E))):=by intro _;kernel_rfl) (hm:P.follows .mixedOrders=true:=by kernel_rfl):J P f R n (.c (.rg id d)::k) E h r F Y:=wB hm pl [] (nR dl nw E) hok hr (fun _=>hp) (fun _=>H)
theorem Zt {id:Nat} {d:Bool} {x:Sk} (pl:List Pl) (dl:List Nat) (nw:Env) {p:List Prop} (hp:vh p) (H:J P f R n (.c x::k) (eE dl nw E) (h) r F Y) (hok:(o5 f id d (pl.map Pl.key)&&oT h.length [])=true:=by kernel_rfl) (hr:∀nu,(packed (ef P n nu f id h.length d pl [] E h r (nR dl nw E)),ow (ef P n nu f id h.length d pl [] E h r (nR dl nw E)))=(some (eE dl nw E,h,p,[]),ou (ef P n nu f id h.length d pl [] E h r (nR dl nw E))):=by intro _;kernel_rfl) (hm:P.follows .mixedOrders=true:=by kernel_rfl):J P f R n (.c (.seq (.rg id d) x)::k) E h r F Y:=aq (wB hm pl [] (nR dl nw E) hok hr (fun _=>hp) (fun _=>H))
theorem Zm {id:Nat} {d:Bool} (pl:List Pl) (Wp:List (Nat×List Nat)) (dl:List Nat) (nw:(Nat→Nat)→Env) (st nb:(Nat→Nat)→List (Nat×Obj)) (H:∀nu,J P f R n k (eN dl nw nu E) (hD (st nu) (nb nu) h) r F Y) (hok:(o5 f id d (pl.map Pl.key)&&oT h.length Wp)=true:=by kernel_rfl) (hr:∀nu,(packed (ef P n nu f id h.length d pl Wp E h r (nR dl (nw fun _=>0) E)),ow (ef P n nu f id h.length d pl Wp E h r (nR dl (nw fun _=>0) E)))=(some (eN dl nw nu E,hD (st nu) (nb nu) h,[],[]),ou (ef P n nu f id h.length d pl Wp E h r (nR dl (nw fun _=>0) E))):=by intro _;kernel_rfl) (hm:P.follows .mixedOrders=true:=by kernel_rfl):J P f R n (.c (.rg id d)::k) E h r F Y:=wB hm pl Wp (nR dl (nw fun _=>0) E) hok hr (fun _=>trivial) H
theorem Zv {id:Nat} {d:Bool} {x:Sk} (pl:List Pl) (Wp:List (Nat×List Nat)) (dl:List Nat) (nw:(Nat→Nat)→Env) (st nb:(Nat→Nat)→List (Nat×Obj)) (H:∀nu,J P f R n (.c x::k) (eN dl nw nu E) (hD (st nu) (nb nu) h) r F Y) (hok:(o5 f id d (pl.map Pl.key)&&oT h.length Wp)=true:=by kernel_rfl) (hr:∀nu,(packed (ef P n nu f id h.length d pl Wp E h r (nR dl (nw fun _=>0) E)),ow (ef P n nu f id h.length d pl Wp E h r (nR dl (nw fun _=>0) E)))=(some (eN dl nw nu E,hD (st nu) (nb nu) h,[],[]),ou (ef P n nu f id h.length d pl Wp E h r (nR dl (nw fun _=>0) E))):=by intro _;kernel_rfl) (hm:P.follows .mixedOrders=true:=by kernel_rfl):J P f R n (.c (.seq (.rg id d) x)::k) E h r F Y:=aq (wB hm pl Wp (nR dl (nw fun _=>0) E) hok hr (fun _=>trivial) H)
theorem Zn {id:Nat} {d:Bool} (pl:List Pl) (Wp:List (Nat×List Nat)) (dl:List Nat) (nw:(Nat→Nat)→Env) (st nb:(Nat→Nat)→List (Nat×Obj)) {p:(Nat→Nat)→List Prop} (hp:∀nu,vh (p nu)) (H:∀nu,J P f R n k (eN dl nw nu E) (hD (st nu) (nb nu) h) r F Y) (hok:(o5 f id d (pl.map Pl.key)&&oT h.length Wp)=true:=by kernel_rfl) (hr:∀nu,(packed (ef P n nu f id h.length d pl Wp E h r (nR dl (nw fun _=>0) E)),ow (ef P n nu f id h.length d pl Wp E h r (nR dl (nw fun _=>0) E)))=(some (eN dl nw nu E,hD (st nu) (nb nu) h,p nu,[]),ou (ef P n nu f id h.length d pl Wp E h r (nR dl (nw fun _=>0) E))):=by intro _;kernel_rfl) (hm:P.follows .mixedOrders=true:=by kernel_rfl):J P f R n (.c (.rg id d)::k) E h r F Y:=wB hm pl Wp (nR dl (nw fun _=>0) E) hok hr hp H
theorem Zu {id:Nat} {d:Bool} {x:Sk} (pl:List Pl) (Wp:List (Nat×List Nat)) (dl:List Nat) (nw:(Nat→Nat)→Env) (st nb:(Nat→Nat)→List (Nat×Obj)) {p:(Nat→Nat)→List Prop} (hp:∀nu,vh (p nu)) (H:∀nu,J P f R n (.c x::k) (eN dl nw nu E) (hD (st nu) (nb nu) h) r F Y) (hok:(o5 f id d (pl.map Pl.key)&&oT h.length Wp)=true:=by kernel_rfl) (hr:∀nu,(packed (ef P n nu f id h.length d pl Wp E h r (nR dl (nw fun _=>0) E)),ow (ef P n nu f id h.length d pl Wp E h r (nR dl (nw fun _=>0) E)))=(some (eN dl nw nu E,hD (st nu) (nb nu) h,p nu,[]),ou (ef P n nu f id h.length d pl Wp E h r (nR dl (nw fun _=>0) E))):=by intro _;kernel_rfl) (hm:P.follows .mixedOrders=true:=by kernel_rfl):J P f R n (.c (.seq (.rg id d) x)::k) E h r F Y:=aq (wB hm pl Wp (nR dl (nw fun _=>0) E) hok hr hp H)
theorem Ya {id L0:Nat} {ck:Bool} {Wp:List (Nat×List Nat)} {fb:List (Nat×Bool)} (pl:List Pl) (dl:List Nat) (nw:Env) (H:JR P f R n (bS f id) L0 ck (fb.drop pl.length) Wp k (eE dl nw E) (h) r F Y) (hk:fb.take pl.length=pl.map Pl.key:=by kernel_rfl) (hr:∀nu,(packed (ef P n nu f id L0 ck pl Wp E h r (nR dl nw E)),ow (ef P n nu f id L0 ck pl Wp E h r (nR dl nw E)))=(some (eE dl nw E,h,[],Wp),ou (ef P n nu f id L0 ck pl Wp E h r (nR dl nw E))):=by intro _;kernel_rfl):JR P f R n (bS f id) L0 ck fb Wp k E h r F Y:=by
 have:=yQ (rest:=fb.drop pl.length) pl (nR dl nw E) hr (fun _=>trivial) (fun _=>H)
 rwa[←hk,iZ]at this
theorem Yp {id L0:Nat} {ck:Bool} {Wp:List (Nat×List Nat)} {fb:List (Nat×Bool)} (pl:List Pl) (dl:List Nat) (nw:Env) {p:List Prop} (hp:vh p) (H:JR P f R n (bS f id) L0 ck (fb.drop pl.length) Wp k (eE dl nw E) (h) r F Y) (hk:fb.take pl.length=pl.map Pl.key:=by kernel_rfl) (hr:∀nu,(packed (ef P n nu f id L0 ck pl Wp E h r (nR dl nw E)),ow (ef P n nu f id L0 ck pl Wp E h r (nR dl nw E)))=(some (eE dl nw E,h,p,Wp),ou (ef P n nu f id L0 ck pl Wp E h r (nR dl nw E))):=by intro _;kernel_rfl):JR P f R n (bS f id) L0 ck fb Wp k E h r F Y:=by
 have:=yQ (rest:=fb.drop pl.length) pl (nR dl nw E) hr (fun _=>hp) (fun _=>H)
 rwa[←hk,iZ]at this
theorem Ym {id L0:Nat} {ck:Bool} {Wp:List (Nat×List Nat)} {fb:List (Nat×Bool)} (pl:List Pl) (dl:List Nat) (nw:(Nat→Nat)→Env) (st nb:(Nat→Nat)→List (Nat×Obj)) (W1:List (Nat×List Nat)) (H:∀nu,JR P f R n (bS f id) L0 ck (fb.drop pl.length) W1 k (eN dl nw nu E) (hD (st nu) (nb nu) h) r F Y) (hk:fb.take pl.length=pl.map Pl.key:=by kernel_rfl) (hr:∀nu,(packed (ef P n nu f id L0 ck pl Wp E h r (nR dl (nw fun _=>0) E)),ow (ef P n nu f id L0 ck pl Wp E h r (nR dl (nw fun _=>0) E)))=(some (eN dl nw nu E,hD (st nu) (nb nu) h,[],W1),ou (ef P n nu f id L0 ck pl Wp E h r (nR dl (nw fun _=>0) E))):=by intro _;kernel_rfl):JR P f R n (bS f id) L0 ck fb Wp k E h r F Y:=by
 have:=yQ (rest:=fb.drop pl.length) pl (nR dl (nw fun _=>0) E) hr (fun _=>trivial) H
 rwa[←hk,iZ]at this
theorem Yn {id L0:Nat} {ck:Bool} {Wp:List (Nat×List Nat)} {fb:List (Nat×Bool)} (pl:List Pl) (dl:List Nat) (nw:(Nat→Nat)→Env) (st nb:(Nat→Nat)→List (Nat×Obj)) (W1:List (Nat×List Nat)) {p:(Nat→Nat)→List Prop} (hp:∀nu,vh (p nu)) (H:∀nu,JR P f R n (bS f id) L0 ck (fb.drop pl.length) W1 k (eN dl nw nu E) (hD (st nu) (nb nu) h) r F Y) (hk:fb.take pl.length=pl.map Pl.key:=by kernel_rfl) (hr:∀nu,(packed (ef P n nu f id L0 ck pl Wp E h r (nR dl (nw fun _=>0) E)),ow (ef P n nu f id L0 ck pl Wp E h r (nR dl (nw fun _=>0) E)))=(some (eN dl nw nu E,hD (st nu) (nb nu) h,p nu,W1),ou (ef P n nu f id L0 ck pl Wp E h r (nR dl (nw fun _=>0) E))):=by intro _;kernel_rfl):JR P f R n (bS f id) L0 ck fb Wp k E h r F Y:=by
 have:=yQ (rest:=fb.drop pl.length) pl (nR dl (nw fun _=>0) E) hr hp H
 rwa[←hk,iZ]at this
theorem Yc {S0:Nat→Prop} {C0:List Chunk} {G0:List (Value×D)} {id L0 i:Nat} {ck:Bool} {Wp:List (Nat×List Nat)} {rest:List (Nat×Bool)} (fid:FuncId) (args:Array Value) (dst:Option Tmp)
  (C:∀w S,gl w S G0→Calls P fid args w fun e w'=>∃v C' G',cQ [] w S w' e v C' G' ∧
   JR P f R n (bS f id) L0 ck rest (Wp.filter (·.1 != i)) k (E.put dst (.val v)) h r F ⟨S0,C0++C',G0++G'⟩)
  (he:zh (lD P n (bS f id) h r E i [])=(some (fid,args,dst),ur (lD P n (bS f id) h r E i []),0):=by kernel_rfl) :
  JR P f R n (bS f id) L0 ck ((i,false)::rest) Wp k E h r F ⟨S0,C0,G0⟩:=Jn [] fid args dst he C
theorem Yr {n:Nat} {Rr:Ending→World→Prop} (hss:List (List Hn)) (v:Value) (H:∀a w,St n E h r F Y a w→Rr (.returned v) w)
  (he:IV (Fq P f E h r hss)=(some v,Eb (Fq P f E h r hss),0):=by kernel_rfl):J P f (Di P f Rr) n (.c .ret::k) E h r F Y:=I8 hss v he H
theorem Nm {S0:Nat→Prop} {C0:List Chunk} {G0:List (Value×D)} (C':List Chunk) (H:J P f R n k E h r F ⟨S0,C',G0⟩) (hC:C0=C':=by kernel_rfl):J P f R n k E h r F ⟨S0,C0,G0⟩:=by
 subst hC
 exact H
theorem jS {id:Nat} {d:Bool} {x:Sk} (fb:List (Nat×Bool)) (Wp:List (Nat×List Nat)) (H:JR P f R n (bS f id) h.length d fb Wp (.c x::k) E h r F Y) (hok:o5 f id d fb=true:=by kernel_rfl) (Ix:oT h.length Wp=true:=by kernel_rfl) (hm:P.follows .mixedOrders=true:=by kernel_rfl):J P f R n (.c (.seq (.rg id d) x)::k) E h r F Y:=aq (yS hm fb Wp hok Ix H)
theorem jT {id:Nat} {d:Bool} (fb:List (Nat×Bool)) (Wp:List (Nat×List Nat)) (H:JR P f R n (bS f id) h.length d fb Wp k E h r F Y) (hok:o5 f id d fb=true:=by kernel_rfl) (Ix:oT h.length Wp=true:=by kernel_rfl) (hm:P.follows .mixedOrders=true:=by kernel_rfl):J P f R n (.c (.rg id d)::k) E h r F Y:=yS hm fb Wp hok Ix H
end
theorem aQ {α:Type _}:(∀(a:α) (l m:List α),a::l++m=a::(l++m))∧(∀l:List α,[]++l=l)∧∀l:List α,l++[]=l:=⟨fun _ _ _=>iO,j9,bf⟩
def bh (a b:Nat):List Pl:=(bD (b - a)).map fun i=>.rd (a+i) [] 0 0
def ek (p m:Nat):List Hn:=aD m (.o p none)
end Go.Sx
end
section
namespace Go.Proofs.YtmkapocibaojdaaGreatDoor
open Go Go.Sx
set_option maxHeartbeats 4000000 in
theorem ux {w:World} {S:Nat→Prop} {n c k:Nat} {rows:List (List D)} (h:cm w S (.slice none n c) (.sl k rows)):rows=[]:=by cases h;rfl
set_option maxHeartbeats 4000000 in
theorem p7 {w0:World} {S:Nat→Prop} {a:Option Addr} {n c:Nat} {xs:List Int} (ha:cm w0 S (.slice a n c) (.sl 1 (xs.map eI))) (hl:xs.length≤1000000) :
  Calls Tryz.prog 101 #[.slice a n c] w0 fun e w'=>∃a' c',cQ [] w0 S w' e (.slice a' n c') [aT (.slice a' n c') 3 1 (xs.map eI)] []:=by
 have hlen:=ha.pA
 rw[aA]at hlen
 subst hlen
 cases a with
 | none=>
  have h0:xs=[]:=by simpa using ux ha
  subst h0
  refine jL Tryz.func101 L4 (args:=[.slice none ([]:List Int).length c]) (S:=S) (G:=[]) (by kernel_rfl) (.nil _ _) ?_
  refine bH (fO eI 3 1) ?_
  try simp only[aQ]
  refine Zs [zR 0] [] [zS 2 none 0 0] ?_
  refine aq ?_
  refine Zs [zR 0,zR 1] [] [zB 4 true] ?_
  refine gR ?_
  refine Zs [zR 0] [4] [] ?_
  refine Yr [[]] (.slice none 0 0) fun a w s=>?_
  exact⟨none,0,s.ret (by simp) [0] [] rfl rfl⟩
 | some ad=>
  refine jL Tryz.func101 L4 (args:=[.slice (some ad) xs.length c]) (G:=[(_,.sl 1 (xs.map eI))]) (by kernel_rfl) (.cons ha (.nil _ _)) ?_
  refine Zs [zR 0] [] [zS 2 none 0 0] ?_
  refine aq ?_
  refine Zs [zR 0,zR 1] [] [zB 4 false] ?_
  refine cF ?_
  refine aG ?_
  refine jS [(0,false),(1,true),(2,false),(3,true)] [] ?_
  refine Ym [.wr 0 [] 0,zR 1] [4,0] (fun aN=>[zS 5 (sA (aN 0) 0) 0 0,zS 6 (some ad) xs.length c]) o0 (fun aN=>[(aN 0,.cells #[] 3 (0,0))]) [] (fun aN=>?_)
  refine vg eI 0 1 rfl (by kernel_rfl) (by decide) ?_
  refine eY 0 32 3 1 8 (.int .i64 0) (a0:=(some (⟨aN 0,0,none⟩))) (len:=0) (iB:=0) (ax:=(some ad)) (m:=xs.length) (c:=c) (dst:=(some 7)) xs (by kernel_rfl) (by kernel_rfl) (by kernel_rfl) (by kernel_rfl) rfl (by decide) rfl (fun _ _ _ s=>pK s 0 rfl (by decide)) (by simp only[maxLen];omega) (by omega) (fun gq gp=>?_)
  rw[aK]
  try simp only[aQ]
  refine Ya [zR 3] [7,5,6] [zS 2 gq xs.length gp] ?_
  try simp only[aQ]
  refine aC ?_
  try simp only[aQ]
  refine Yr [[]] (.slice gq xs.length gp) fun a w s=>?_
  exact⟨_,_,s.ret (by simp) [0] [] rfl rfl⟩
set_option maxHeartbeats 4000000 in
theorem Cv {w0:World} {S:Nat→Prop} {a:Option Addr} {n c:Nat} {xs:List fP} (ha:cm w0 S (.slice a n c) (.sl 7 (xs.map fe))) (hl:xs.length≤1000000) :
  Calls Tryz.prog 142 #[.slice a n c] w0 fun e w'=>∃a' c',cQ [] w0 S w' e (.slice a' n c') [aT (.slice a' n c') 55 7 (xs.map fe)] []:=by
 have hlen:=ha.pA
 rw[aA]at hlen
 subst hlen
 cases a with
 | none=>
  have h0:xs=[]:=by simpa using ux ha
  subst h0
  refine jL Tryz.func142 L2 (args:=[.slice none ([]:List fP).length c]) (S:=S) (G:=[]) (by kernel_rfl) (.nil _ _) ?_
  refine bH (fO fe 55 7) ?_
  try simp only[aQ]
  refine Zs [zR 0] [] [zS 2 none 0 0] ?_
  refine aq ?_
  refine Zs [zR 0,zR 1] [] [zB 4 true] ?_
  refine gR ?_
  refine Zs [zR 0] [4] [] ?_
  refine Yr [[]] (.slice none 0 0) fun a w s=>?_
  exact⟨none,0,s.ret (by simp) [0] [] rfl rfl⟩
 | some ad=>
  refine jL Tryz.func142 L2 (args:=[.slice (some ad) xs.length c]) (G:=[(_,.sl 7 (xs.map fe))]) (by kernel_rfl) (.cons ha (.nil _ _)) ?_
  refine Zs [zR 0] [] [zS 2 none 0 0] ?_
  refine aq ?_
  refine Zs [zR 0,zR 1] [] [zB 4 false] ?_
  refine cF ?_
  refine aG ?_
  refine jS [(0,false),(1,true),(2,false),(3,true)] [] ?_
  refine Ym [.wr 0 [] 0,zR 1] [4,0] (fun aN=>[zS 5 (sA (aN 0) 0) 0 0,zS 6 (some ad) xs.length c]) o0 (fun aN=>[(aN 0,.cells #[] 55 (0,0))]) [] (fun aN=>?_)
  refine vg fe 0 7 rfl (by kernel_rfl) (by decide) ?_
  refine eY 0 33 55 7 88 (.agg #[.int .i64 0,.string (aL #[]),.int .i64 0,.string (aL #[]),.int .i64 0,.bool false,.slice none 0 0]) (a0:=(some (⟨aN 0,0,none⟩))) (len:=0) (iB:=0) (ax:=(some ad)) (m:=xs.length) (c:=c) (dst:=(some 7)) xs (by kernel_rfl) (by kernel_rfl) (by kernel_rfl) (by kernel_rfl) rfl (by decide) rfl (fun _ _ _ s=>pK s 0 rfl (by decide)) (by simp only[maxLen];omega) (by omega) (fun gq gp=>?_)
  rw[aK]
  try simp only[aQ]
  refine Ya [zR 3] [7,5,6] [zS 2 gq xs.length gp] ?_
  try simp only[aQ]
  refine aC ?_
  try simp only[aQ]
  refine Yr [[]] (.slice gq xs.length gp) fun a w s=>?_
  exact⟨_,_,s.ret (by simp) [0] [] rfl rfl⟩
set_option maxHeartbeats 4000000 in
theorem Ga {w0:World} {S:Nat→Prop} {a:Option Addr} {n c:Nat} {xs:List gi} (ha:cm w0 S (.slice a n c) (.sl 3 (xs.map bK))) (hl:xs.length≤1000000) :
  Calls Tryz.prog 143 #[.slice a n c] w0 fun e w'=>∃a' c',cQ [] w0 S w' e (.slice a' n c') [aT (.slice a' n c') 177 3 (xs.map bK)] []:=by
 have hlen:=ha.pA
 rw[aA]at hlen
 subst hlen
 cases a with
 | none=>
  have h0:xs=[]:=by simpa using ux ha
  subst h0
  refine jL Tryz.func143 LZ (args:=[.slice none ([]:List gi).length c]) (S:=S) (G:=[]) (by kernel_rfl) (.nil _ _) ?_
  refine bH (fO bK 177 3) ?_
  try simp only[aQ]
  refine Zs [zR 0] [] [zS 2 none 0 0] ?_
  refine aq ?_
  refine Zs [zR 0,zR 1] [] [zB 4 true] ?_
  refine gR ?_
  refine Zs [zR 0] [4] [] ?_
  refine Yr [[]] (.slice none 0 0) fun a w s=>?_
  exact⟨none,0,s.ret (by simp) [0] [] rfl rfl⟩
 | some ad=>
  refine jL Tryz.func143 LZ (args:=[.slice (some ad) xs.length c]) (G:=[(_,.sl 3 (xs.map bK))]) (by kernel_rfl) (.cons ha (.nil _ _)) ?_
  refine Zs [zR 0] [] [zS 2 none 0 0] ?_
  refine aq ?_
  refine Zs [zR 0,zR 1] [] [zB 4 false] ?_
  refine cF ?_
  refine aG ?_
  refine jS [(0,false),(1,true),(2,false),(3,true)] [] ?_
  refine Ym [.wr 0 [] 0,zR 1] [4,0] (fun aN=>[zS 5 (sA (aN 0) 0) 0 0,zS 6 (some ad) xs.length c]) o0 (fun aN=>[(aN 0,.cells #[] 177 (0,0))]) [] (fun aN=>?_)
  refine vg bK 0 3 rfl (by kernel_rfl) (by decide) ?_
  refine eY 0 53 177 3 24 (.agg #[.int .i64 0,.int .i64 0,.int .i64 0]) (a0:=(some (⟨aN 0,0,none⟩))) (len:=0) (iB:=0) (ax:=(some ad)) (m:=xs.length) (c:=c) (dst:=(some 7)) xs (by kernel_rfl) (by kernel_rfl) (by kernel_rfl) (by kernel_rfl) rfl (by decide) rfl (fun _ _ _ s=>pK s 0 rfl (by decide)) (by simp only[maxLen];omega) (by omega) (fun gq gp=>?_)
  rw[aK]
  try simp only[aQ]
  refine Ya [zR 3] [7,5,6] [zS 2 gq xs.length gp] ?_
  try simp only[aQ]
  refine aC ?_
  try simp only[aQ]
  refine Yr [[]] (.slice gq xs.length gp) fun a w s=>?_
  exact⟨_,_,s.ret (by simp) [0] [] rfl rfl⟩
end Go.Proofs.YtmkapocibaojdaaGreatDoor
end
section
namespace Go.Proofs.YtmkapocibaojdaaGreatDoor
open Go Go.Sx
set_option maxHeartbeats 4000000 in
theorem LF {P:Program} {t:TypeId} {w:World} {cs:Array Value} {off:Nat} {v:Value} (ht:P.underlying t=some (.int .i64)) (hv:cs[off]?=some v):(part t cs off).run P w=.ok v w:=by
 simp[part,isAgg,underlying,ht,hv,Result.andThen]
set_option maxHeartbeats 4000000 in
theorem QM {P:Program} {t:TypeId} (ht:P.underlying t=some (.int .i64)) (d:Nat) (x y:Int) (w:World):(Op.equalIn (d+1) t (.int .i64 x) (.int .i64 y)).run P w=.ok (x==y) w:=by
 simp[Op.equalIn,run_underlying ht]
set_option maxHeartbeats 4000000 in
theorem QN (d:Nat) (a b c a' b' c':Int) (w:World):(Op.equalIn (d+2) 177 (.agg #[.int .i64 a,.int .i64 b,.int .i64 c]) (.agg #[.int .i64 a',.int .i64 b',.int .i64 c'])).run Tryz.prog w=.ok (decide (a=a'∧b=b'∧c=c')) w:=by
 have hs:Tryz.prog.stoodInHeld 177=false:=by kernel_rfl
 rw[Op.equalIn]
 by_cases h1:a=a' <;> by_cases h2:b=b' <;> by_cases h3:c=c' <;>
 simp[run_underlying Tryz.underlying177,hs,QM Tryz.underlying3,LF Tryz.underlying3,Result.andThen,h1,h2,h3]
end Go.Proofs.YtmkapocibaojdaaGreatDoor
end
section
namespace Go.Sx
open Go Go.MapKept
structure qb (P:Program) (kt:TypeId) (ok:Value→Prop):Prop where
 DV:∀(b:Bool) (k:Value),ok k→∀w,(Instr.checkKey b 10000 kt k).run P w=.ok () w
 find:∀(k:Value) (es:List MapEntry),ok k→(∀x∈es,ok x.key)→((∀w,(Instr.findKey kt k es).run P w=.ok none w)∧∀x∈es,x.key≠k)∨∃j e,(∀w,(Instr.findKey kt k es).run P w=.ok (some (j,e.val)) w)∧es[j]?=some e∧e.key=k
 stays:∀k,ok k→∀w,(Instr.keyThatStays k k).run P w=.ok k w
theorem qb.plain {P:Program} {kt:TypeId} {d:TypeDesc} (hd:P.underlying kt=some d):qb P kt (IsKey d) where
 DV b k hk w:=run_checkKey hd hk b 9999
 find k es hk N9:=by
  rcases findNow_spec hk es 0 N9 with ⟨h1,h2⟩|⟨j,e,h1,h2,h3⟩
  ·exact .inl ⟨fun w=>run_findKey hd h1,h2⟩
  ·rw[aK]at h1
   exact .inr ⟨j,e,fun w=>run_findKey hd h1,h2,h3⟩
 stays k hk w:=run_keyThatStays hk
theorem qP {P:Program} {kt:TypeId} {ok:Value→Prop} (heq:∀x y,ok x→ok y→∃b:Bool,(∀w,(Op.equal kt x y).run P w=.ok b w)∧(b=true↔x=y)) {k:Value} (hk:ok k):∀(l:List MapEntry) (i:Nat),(∀x∈l,ok x.key) →
  ((∀w,(Instr.findAsking kt k l i).run P w=.ok none w)∧∀x∈l,x.key≠k)∨∃j e,(∀w,(Instr.findAsking kt k l i).run P w=.ok (some (i+j,e.val)) w)∧l[j]?=some e∧e.key=k
 | [],_,_=>.inl ⟨fun _=>rfl,by simp⟩
 | e::es,i,h=>by
  obtain⟨b,hb,k7⟩:=heq k e.key hk (h e (.head _))
  cases b with
  | true=>
   refine .inr ⟨0,e,fun w=>?_,rfl,(k7.1 rfl).symm⟩
   simp[Instr.findAsking,hb,Result.andThen]
  | false=>
   have hne:e.key≠k:=fun he=>by
    have:=k7.2 he.symm
    cases this
   rcases qP heq hk es (i+1) fun x hx=>h x (.tail _ hx)with ⟨h1,h2⟩|⟨j,e',h1,h2,h3⟩
   ·refine .inl ⟨fun w=>?_,fun x hx=>?_⟩
    ·simp[Instr.findAsking,hb,Result.andThen,h1]
    ·rcases cE.1 hx with rfl|hx
     ·exact hne
     ·exact h2 x hx
   ·refine .inr ⟨j+1,e',fun w=>?_,by simpa using h2,h3⟩
    simp[Instr.findAsking,hb,Result.andThen,h1]
    omega
theorem qb.NM {P:Program} {kt:TypeId} {ok:Value→Prop} {d:TypeDesc} (hd:P.underlying kt=some d) (hn:∀x y,ok x→ok y→Instr.sameNow d x y=none)
  (DV:∀(b:Bool) (k:Value),ok k→∀w,(Instr.checkKey b 10000 kt k).run P w=.ok () w) (heq:∀x y,ok x→ok y→∃b:Bool,(∀w,(Op.equal kt x y).run P w=.ok b w)∧(b=true↔x=y))
  (stays:∀k,ok k→Instr.sameBits 10000 k k=true):qb P kt ok where
 DV:=DV
 find k es hk N9:=by
  cases es with
  | nil=>exact .inl ⟨fun w=>by simp[Instr.findKey,run_underlying hd,Result.andThen,Instr.findNow],by simp⟩
  | cons e es=>
   have h0:Instr.findNow d k (e::es) 0=none:=by simp[Instr.findNow,hn k e.key hk (N9 e (.head _))]
   rcases qP heq hk (e::es) 0 N9 with ⟨h1,h2⟩|⟨j,e',h1,h2,h3⟩
   ·exact .inl ⟨fun w=>by simp[Instr.findKey,run_underlying hd,Result.andThen,h0,h1],h2⟩
   ·rw[aK]at h1
    exact .inr ⟨j,e',fun w=>by simp[Instr.findKey,run_underlying hd,Result.andThen,h0,h1],h2,h3⟩
 stays k hk w:=by simp[Instr.keyThatStays,stays k hk]
theorem Dw {ok:Value→Prop} {es:Array MapEntry} (h:∀x∈es.toList,ok x.key) (i:Nat) (f:MapEntry→MapEntry) (hk:∀e,es[i]?=some e→(f e).key=e.key):∀x∈(es.modify i f).toList,ok x.key:=by
 intro x hx
 have:x.key∈(es.modify i f).toList.map (·.key):=aB.2 ⟨x,hx,rfl⟩
 rw[modify_keys i f hk]at this
 obtain⟨y,hy,e⟩:=aB.1 this
 rw[←e];exact h y hy
structure fM (ok:Value→Prop) (es:Array MapEntry) (f:Value→Option Value):Prop where
 key:∀x∈es.toList,ok x.key
 nodup:(es.toList.map (·.key)).Nodup
 val:∀x∈es.toList,f x.key=some x.val
 has:∀k v,f k=some v→∃x∈es.toList,x.key=k
theorem fM.empty (ok:Value→Prop):fM ok #[] (fun _=>none):=⟨by simp,by simp,by simp,by simp⟩
theorem fM.congr {ok:Value→Prop} {es:Array MapEntry} {f g:Value→Option Value} (h:fM ok es f) (hfg:∀k,f k=g k):fM ok es g:=by
 obtain rfl:f=g:=funext hfg
 exact h
theorem fM.look {P:Program} {kt:TypeId} {ok:Value→Prop} (hK:qb P kt ok) {es:Array MapEntry} {f:Value→Option Value} (h:fM ok es f) {k:Value} (hk:ok k) :
  ((∀w,(Instr.findKey kt k es.toList).run P w=.ok none w)∧f k=none∧∀x∈es.toList,x.key≠k)∨∃j e,(∀w,(Instr.findKey kt k es.toList).run P w=.ok (some (j,e.val)) w)∧es.toList[j]?=some e∧e.key=k∧f k=some e.val:=by
 rcases hK.find k es.toList hk h.key with ⟨h1,h2⟩|⟨j,e,h1,h2,h3⟩
 ·refine .inl ⟨h1,?_,h2⟩
  cases hf:f k with
  | none=>rfl
  | some v=>
   obtain⟨x,hx,xY⟩:=h.has k v hf
   exact absurd xY (h2 x hx)
 ·refine .inr ⟨j,e,h1,h2,h3,?_⟩
  rw[←h3]
  exact h.val e (ae h2)
theorem fM.other {ok:Value→Prop} {es:Array MapEntry} {f:Value→Option Value} (h:fM ok es f) {j i:Nat} {e x:MapEntry} (hj:es.toList[j]?=some e) (hi:es.toList[i]?=some x) (hne:i≠j):x.key≠e.key:=by
 intro he
 have h1:(es.toList.map (·.key))[i]?=some x.key:=by rw[aF,hi];rfl
 have h2:(es.toList.map (·.key))[j]?=some x.key:=by rw[aF,hj,he];rfl
 exact hne ((dQ (ai.1 h1).1 h.nodup).1 (h1.trans h2.symm))
theorem fM.push {ok:Value→Prop} {es:Array MapEntry} {f:Value→Option Value} (h:fM ok es f) {k v:Value} {born:Nat} (hk:ok k) (hn:∀x∈es.toList,x.key≠k):fM ok (es.push ⟨k,v,born⟩) (lK f k v):=by
 refine⟨fun x hx=>?_,?_,fun x hx=>?_,fun q u hq=>?_⟩
 ·simp only[jm,au,ay]at hx
  rcases hx with hx|rfl
  ·exact h.key x hx
  ·exact hk
 ·simp only[jm,bw,cj,gy]
  refine be.2 ⟨h.nodup,by simp,fun a ha b hb=>?_⟩
  simp only[ay]at hb
  subst hb
  obtain⟨x,hx,rfl⟩:=aB.1 ha
  exact hn x hx
 ·simp only[jm,au,ay]at hx
  rcases hx with hx|rfl
  ·simp[lK,hn x hx,h.val x hx]
  ·simp[lK]
 ·by_cases AU:q=k
  ·exact⟨⟨k,v,born⟩,by simp,AU.symm⟩
  ·simp only[lK,if_neg AU]at hq
   obtain⟨x,hx,xY⟩:=h.has q u hq
   exact⟨x,by simp[hx],xY⟩
theorem fM.By {ok:Value→Prop} {es:Array MapEntry} {f:Value→Option Value} (h:fM ok es f) {k v:Value} {j:Nat} {e:MapEntry} (hj:es.toList[j]?=some e) (he:e.key=k):fM ok (es.modify j fun x=>{ x with key:=k,val:=v }) (lK f k v):=by
 subst he
 have hj':es[j]?=some e:=by simpa using hj
 have hkeys:(es.modify j fun x=>{ x with key:=e.key,val:=v }).toList.map (·.key)=es.toList.map (·.key):=modify_keys j _ (fun x hx=>by rw[hj']at hx;cases hx;rfl)
 have who:∀x∈(es.modify j fun x=>{ x with key:=e.key,val:=v }).toList,(x.key=e.key∧x.val=v)∨(x∈es.toList∧x.key≠e.key):=fun x hx=>by
  obtain⟨i,hi⟩:=aJ hx
  rw[kx,fV]at hi
  by_cases hij:j=i
  ·subst hij
   rw[if_pos rfl,hj']at hi
   simp only[dU,az]at hi
   rw[←hi]
   exact .inl ⟨rfl,rfl⟩
  ·rw[if_neg hij]at hi
   exact .inr ⟨Array.mem_toList_iff.2 (Array.mem_of_getElem? hi),h.other hj (by simpa using hi) (Ne.symm hij)⟩
 refine⟨Dw h.key j _ (fun x hx=>by rw[hj']at hx;cases hx;rfl),by rw[hkeys];exact h.nodup,fun x hx=>?_,fun q u hq=>?_⟩
 ·rcases who x hx with ⟨h1,h2⟩|⟨h1,h2⟩
  ·simp[lK,h1,h2]
  ·simp[lK,h2,h.val x h1]
 ·have hmem:q∈es.toList.map (·.key):=by
   by_cases AU:q=e.key
   ·rw[AU];exact aB.2 ⟨e,ae hj,rfl⟩
   ·simp only[lK,if_neg AU]at hq
    obtain⟨x,hx,xY⟩:=h.has q u hq
    exact aB.2 ⟨x,hx,xY⟩
  rw[←hkeys]at hmem
  obtain⟨x,hx,xY⟩:=aB.1 hmem
  exact⟨x,hx,xY⟩
theorem fM.drop {ok:Value→Prop} {es:Array MapEntry} {f:Value→Option Value} (h:fM ok es f) {k:Value} {j:Nat} {e:MapEntry} (hj:es.toList[j]?=some e) (he:e.key=k):fM ok (es.eraseIdxIfInBounds j) (pU f k):=by
 subst he
 have hlt:j<es.size:=by simpa using(ai.1 hj).1
 have hl:(es.eraseIdxIfInBounds j).toList=es.toList.eraseIdx j:=by
  unfold Array.eraseIdxIfInBounds
  rw[dif_pos hlt]
  simp
 have hsub:=cG es.toList j
 refine⟨fun x hx=>?_,?_,fun x hx=>?_,fun q u hq=>?_⟩
 ·rw[hl]at hx
  exact h.key x (hsub.subset hx)
 ·rw[hl]
  exact(hsub.map _).nodup h.nodup
 ·rw[hl]at hx
  obtain⟨i,hne,hi⟩:=c9.1 hx
  simp[pU,h.other hj hi hne,h.val x (hsub.subset hx)]
 ·by_cases AU:q=e.key
  ·simp[pU,AU]at hq
  ·simp only[pU,if_neg AU]at hq
   obtain⟨x,hx,xY⟩:=h.has q u hq
   obtain⟨i,hi⟩:=aJ hx
   refine⟨x,?_,xY⟩
   rw[hl]
   refine c9.2 ⟨i,fun hij=>AU ?_,hi⟩
   subst hij
   rw[hj]at hi
   cases hi
   exact xY.symm
theorem fM.Aa {ok:Value→Prop} {es:Array MapEntry} {f:Value→Option Value} (h:fM ok es f) {k:Value} (hf:f k=none):fM ok es (pU f k):=h.congr fun q=>by
 by_cases hq:q=k
 ·simp[pU,hq,hf]
 ·simp[pU,hq]
section maps
variable {P:Program} {f:Func} [Pan f] {R:Act→World→Prop} {n:Nat} [Dfr n] {k:List oR} {E:Env} {h r:List (Nat×Obj)} {F:List (List Nat×World)} {Y:fQ}
theorem gK {id L0 i:Nat} {ck:Bool} {Wp:List (Nat×List Nat)} {rest:List (Nat×Bool)} (hn:Hn) (b t kt et:Nat) (ok:Value→Prop) (key z:Value) (c:Bool) (dst:Option Tmp) {es:Array MapEntry} {clock:Nat} {g:Value→Option Value}
  (he:vG n (bS f id) E i=some (.map (some b),key,t,c,dst)) (hok:(!ck||ME L0 (Wp.filter fun y=>!later (bS f id) i 3 y.1) [hn])=true) (ht:P.underlying t=some (.map kt et)) (hK:qb P kt ok) (hk:ok key) (hi:(P.info? et).map (·.zero)=some (some z))
  (hp:hn.get h r=some (b,.map es clock)) (hm:fM ok es g)
  (A:g key=none→JR P f R n (bS f id) L0 ck rest Wp k (E.put dst (.val (vH c z false))) h r F Y)
  (B:∀v,g key=some v→JR P f R n (bS f id) L0 ck rest Wp k (E.put dst (.val (vH c v true))) h r F Y) :
  JR P f R n (bS f id) L0 ck ((i,true)::rest) Wp k E h r F Y:=by
 intro BB Hd aU a w s hH hR hN hW
 simp only[PW]
 obtain⟨inf,qF,hz⟩:=aI.1 hi
 have hzero:∀w,(zeroValue et).run P w=.ok z w:=fun w=>by simp[zeroValue,typeInfo,qF,hz]
 have Kt:used h r [hn]=[(b,.map es clock)]:=by simp[used,hp]
 have Nx:Hp (used h r [hn]) w:=fun y hy=>by
  obtain⟨hn',_,hg⟩:=dV.1 hy
  exact s.own.get hg
 unfold vG at he
 split at he
 ·cases he
 rename_i o ho
 split at he
 case isFalse=>cases he
 rename_i AX
 split at he
 ·cases he
 rename_i hg
 split at he
 case h_2=>cases he
 rename_i t' m x c' hc
 split at he
 case h_2=>cases he
 rename_i hq
 simp only[az,aH]at he
 obtain⟨e1,e2,rfl,rfl,rfl⟩:=he
 have uP:=eG s.ag (fun c w h=>by cases h) _ _ hq trivial
 have e1:a.eval m=.map (some b):=(uP m (by simp)).trans e1
 have e2:a.eval x=key:=(uP x (by simp)).trans e2
 have fin:∀v,(∀w,Hp (used h r [hn]) w→(Instr.lookup t' (.map (some b)) key c').run P w=.ok v w)→JR P f R n (bS f id) L0 ck rest Wp k (E.put o.dst (.val v)) h r F Y →
   ∃o' v' us,(bS f id)[i]?=some o'∧YieldsIf P (bS f id) (Hp us) o' v' a∧Hp us w∧(ck=true→∀y∈kp Hd h Wp,later (bS f id) i 3 y.1=true∨∀x∈us,x.1<BB∧x.1∉y.2)∧PW P (bS f id) (mq P f R k) BB ck rest (kp Hd h Wp) (a.put o'.dst v') w:=fun v hv H=>by
  refine⟨o,v,used h r [hn],ho,.inl ⟨by simp[Region.wanted,hg],fun w hw=>?_⟩,Nx,fun uQ y hy=>sy (fun j=>later (bS f id) i 3 j) s.own hR (by simpa [uQ]using hok) y hy,?_⟩
  ·unfold execOp
   simp only[hc,Sem.run_bind,Sem.run_pure,Result.andThen_ok,e1,e2,hv w hw]
  ·exact H BB Hd aU _ w ⟨s.ag.put AX (.val v),s.own,s.fr,s.may,s.gh⟩ hH hR hN hW
 have Iu:∀w,Hp (used h r [hn]) w→w.heap[b]?=some (.map es clock):=fun w hw=>hw (b,.map es clock) (by rw[Kt];simp)
 rcases hm.look hK hk with ⟨h1,h2,_⟩|⟨j,e,h1,_,_,h2⟩
 ·refine fin (vH c' z false) (fun w hw=>?_) (A h2)
  cases c' <;> simp[Instr.lookup,run_underlying ht,MapKept.run_getObj_map (Iu w hw),hK.DV _ _ hk,h1,hzero,Result.andThen,vH]
 ·refine fin (vH c' e.val true) (fun w hw=>?_) (B _ h2)
  cases c' <;> simp[Instr.lookup,run_underlying ht,MapKept.run_getObj_map (Iu w hw),hK.DV _ _ hk,h1,Result.andThen,vH]
theorem qK {id L0 i:Nat} {ck:Bool} {Wp:List (Nat×List Nat)} {rest:List (Nat×Bool)} (p b t kt et:Nat) (ok:Value→Prop) (key val:Value) (dst:Option Tmp) {es:Array MapEntry} {clock:Nat} {g:Value→Option Value}
  (he:BU n (bS f id) E i=some (.map (some b),key,val,t,dst)) (hok:(!ck||okW L0 (Wp.lookup i) [p])=true) (ht:P.underlying t=some (.map kt et)) (hK:qb P kt ok) (hk:ok key)
  (hp:h[p]?=some (b,.map es clock)) (hm:fM ok es g)
  (A:∀es' clock',fM ok es' (lK g key val)→es'.size≤es.size+1→JR P f R n (bS f id) L0 ck rest (Wp.filter (·.1 != i)) k (E.put dst (.val undef)) (h.set p (b,.map es' clock')) r F Y) :
  JR P f R n (bS f id) L0 ck ((i,false)::rest) Wp k E h r F Y:=by
 intro BB Hd aU a w s hH hR hN hW
 simp only[PW]
 have hb:w.heap[b]?=some (.map es clock):=s.own.own _ (ae hp)
 refine ri he s ?_
 rcases hm.look hK hk with ⟨h1,_,h2⟩|⟨j,e,h1,h2,h3,_⟩
 ·refine⟨{ w with heap:=w.heap.setIfInBounds b (.map (es.push ⟨key,val,clock⟩) (clock+1)) },?_,fun a' hA=>je hok hp s hH hR hN hW hA (A _ _ (hm.push hk h2) (by simp))⟩
  simp[Instr.mapUpdate,run_underlying ht,MapKept.run_getObj_map hb,hK.DV _ _ hk,h1,MapKept.run_setObj_map _ hb,Result.andThen]
 ·have hj:es[j]?=some e:=by simpa using h2
  refine⟨{ w with heap:=w.heap.setIfInBounds b (.map (es.modify j fun x=>{ x with key:=key,val:=val }) clock) },?_,fun a' hA=>je hok hp s hH hR hN hW hA (A _ _ (hm.By h2 h3) (by simp))⟩
  simp[Instr.mapUpdate,run_underlying ht,MapKept.run_getObj_map hb,hK.DV _ _ hk,h1,hj,h3,hK.stays _ hk,MapKept.run_setObj_map _ hb,Result.andThen]
end maps
end Go.Sx
end
section
namespace Go.Sx
open Go
theorem yj {l:List (List Nat)} {i:Nat} {x:List Nat} (h:l[i]?=some x):l.flatten.Perm (x++(l.eraseIdx i).flatten):=by
 induction l generalizing i with
 | nil=>simp at h
 | cons y l ih=>
  cases i with
  | zero=>
   simp only[aV,az]at h
   subst h
   simp
  | succ i=>
   simp only[eU]at h
   simp only[cr,List.eraseIdx_cons_succ]
   refine((ih h).append_left y).trans ?_
   rw[←bY,←bY]
   exact fA.append_right _
theorem mV.insert {w:World} {S:Nat→Prop} {c:Chunk} {fp:List Nat} (hc:c.P w S fp):∀{cs:List Chunk} {i:Nat} {aU:List (List Nat)},cs[i]?=some c→mV w S (cs.eraseIdx i) aU→∃gE,mV w S cs gE∧gE.flatten.Perm (fp++aU.flatten)
 | [],_,_,h,_=>by simp at h
 | d::cs,0,aU,h,hr=>by
  simp only[aV,az]at h
  subst h
  exact⟨fp::aU,⟨hc,hr⟩,by simp⟩
 | d::cs,i+1,aU,h,hr=>by
  simp only[eU]at h
  simp only[List.eraseIdx_cons_succ]at hr
  match aU,hr with
  | f::aU,hr=>
   obtain⟨gE,h1,h2⟩:=mV.insert hc h hr.2
   refine⟨f::gE,⟨hr.1,h1⟩,?_⟩
   simp only[cr]
   refine(h2.append_left f).trans ?_
   rw[←bY,←bY]
   exact fA.append_right _
def eX (b:Nat) (ok:Value→Prop) (g:Value→Option Value):Chunk where
 P w _ fp:=fp=[b]∧∃es clock,w.heap[b]?=some (.map es clock)∧fM ok es g
 mono:=by
  intro w w' S S' fp ⟨h,es,clock,h1,h2⟩ hb _
  exact⟨h,es,clock,(hb _ (by rw[h];simp)).trans h1,h2⟩
theorem oB {b clock:Nat} {ok:Value→Prop} {es:Array MapEntry} {g:Value→Option Value} (hm:fM ok es g):(bL b (.map es clock)).eqv (eX b ok g):=fun _ _ _ h=>⟨h.1,es,clock,h.2,hm⟩
section more
variable {P:Program} {f:Func} [Pan f] {R:Act→World→Prop} {n:Nat} [Dfr n] {kk:List oR} {E:Env} {h r:List (Nat×Obj)} {F:List (List Nat×World)}
def zM (b:Nat) (ok:Value→Prop) (g:Value→Option Value) (x:Array MapEntry×Nat):Chunk:=cA [rR (fM ok x.1 g),bL b (.map x.1 x.2)]
theorem ud {S0:Nat→Prop} {C0:List Chunk} {G0:List (Value×D)} (q:Nat) {b:Nat} {ok:Value→Prop} {g:Value→Option Value} (hq:C0[q]?=some (eX b ok g))
  (H:∀es clock,fM ok es g→J P f R n kk E (h++[(b,.map es clock)]) r F ⟨S0,C0.eraseIdx q,G0⟩):J P f R n kk E h r F ⟨S0,C0,G0⟩:=by
 have hv:(eX b ok g).eqv (IY (zM b ok g)):=by
  intro w S fp ⟨og,es,clock,h1,h2⟩
  subst og
  have hch:mV w S [rR (fM ok es g),bL b (.map es clock)] [[],[b]]:=⟨⟨rfl,h2⟩,⟨rfl,h1⟩,trivial⟩
  exact⟨(es,clock),[[],[b]],by simp,hch⟩
 refine bH (j4 q hq hv) ?_
 have wE:=(ai.1 hq).1
 refine b9 (Ax (g:=zM b ok g) q (by rw[bX wE])) fun x _=>?_
 obtain⟨es,clock⟩:=x
 rw[List.set_set]
 refine bH (xk (cs:=[rR (fM ok es g),bL b (.map es clock)]) q (by rw[bX wE];rfl)) ?_
 have e0:∀y:Chunk,(C0.set q y).eraseIdx q=C0.eraseIdx q:=fun y=>by
  apply eH
  intro j
  rw[dj,dj]
  split
  ·rw[cN (by omega)]
  ·rw[cN (by omega)]
 rw[e0]
 refine b9 (xl (p:=fM ok es g) (C0.eraseIdx q).length (by rw[bt (aX _),ec];rfl)) fun _ hp=>?_
 rw[dM (aX _)]
 simp only[ec,fD]
 refine fh (b:=b) (o:=.map es clock) (C0.eraseIdx q).length (by rw[bt (aX _),ec];rfl) ?_
 rw[dM (aX _)]
 simp only[ec,fD,bf]
 exact H es clock hp
theorem nr {S0:Nat→Prop} {C0:List Chunk} {G0:List (Value×D)} (q i:Nat) {cs:List Chunk} {c:Chunk} (hq:C0[q]?=some (cA cs)) (hi:cs[i]?=some c) :
  nP h r F ⟨S0,C0,G0⟩ (fun _:Unit=>True) fun _=>⟨S0,C0.eraseIdx q++[c,cA (cs.eraseIdx i)],G0⟩:=by
 intro w aU hO H
 obtain⟨fp,og,ze,rfl,hP⟩:=H.kF.at hq
 obtain⟨Sj,Ue,hc⟩:=hP.at hi
 have hp:(aU.eraseIdx q++[Sj,(ze.eraseIdx i).flatten]).flatten.Perm aU.flatten:=by
  rw[bj]
  simp only[cr,lj,bf]
  exact((yj Ue).symm.append_left _).trans (fA.trans (yj og).symm)
 have hsub:∀b∈(aU.eraseIdx q++[Sj,(ze.eraseIdx i).flatten]).flatten,b∈aU.flatten:=fun b hb=>hp.mem_iff.1 hb
 have hS:∀b,Sd ⟨S0,C0,G0⟩ h aU b→Sd ⟨S0,C0,G0⟩ h (aU.eraseIdx q++[Sj,(ze.eraseIdx i).flatten]) b:=fun b hb=>mQ hsub hb
 have hch:mV w (Sd ⟨S0,C0,G0⟩ h aU) [c,cA (cs.eraseIdx i)] [Sj,(ze.eraseIdx i).flatten]:=⟨hc,⟨_,rfl,hP.erase⟩,trivial⟩
 exact⟨(),_,trivial,hsub,H.less hsub (hp.nodup_iff.2 H.nodup) ((H.kF.erase.app hch).mono (fun _ _=>rfl) fun b hb _=>⟨hS b hb,rfl⟩) fun x hx=>(H.g x hx).mono fun b hb _=>⟨hS b hb,rfl⟩⟩
theorem j3 {S0:Nat→Prop} {C0:List Chunk} {G0:List (Value×D)} (q1 q2 i:Nat) {cs cs':List Chunk} {c:Chunk} (h1:C0[q1]?=some c) (h2:C0[q2]?=some (cA cs)) (hne:q1≠q2) (hi:cs'[i]?=some c) (he:cs'.eraseIdx i=cs) :
  nP h r F ⟨S0,C0,G0⟩ (fun _:Unit=>True) fun _=>⟨S0,o4 C0 [q1,q2]++[cA cs'],G0⟩:=by
 subst he
 intro w aU hO H
 obtain⟨Ur,Np,hc⟩:=H.kF.at h1
 obtain⟨VY,JE,ze,rfl,hP⟩:=H.kF.at h2
 obtain⟨gE,hch,Qf⟩:=mV.insert hc hi hP
 have hlen:=H.kF.len
 have hp2:pick aU [q1,q2]=[Ur,ze.flatten]:=by simp[pick,Np,JE]
 have tJ:(others C0.length [q1,q2]++[q1,q2]).Nodup:=by
  rw[be]
  refine⟨l9 dw jJ,by simp[hne],fun x hx y hy hxy=>?_⟩
  subst hxy
  simp[others]at hx
  simp at hy
  omega
 have hE:(pick aU (others C0.length [q1,q2])++[gE.flatten]).flatten.Perm (pick aU (others C0.length [q1,q2]++[q1,q2])).flatten:=by
  rw[uy,hp2,bj,bj]
  simp only[cr,lj,bf]
  exact Qf.append_left _
 have hsub:∀b∈(pick aU (others C0.length [q1,q2])++[gE.flatten]).flatten,b∈aU.flatten:=fun b hb=>bu (hE.mem_iff.1 hb)
 have hS:∀b,Sd ⟨S0,C0,G0⟩ h aU b→Sd ⟨S0,C0,G0⟩ h (pick aU (others C0.length [q1,q2])++[gE.flatten]) b:=fun b hb=>mQ hsub hb
 have hj:mV w (Sd ⟨S0,C0,G0⟩ h aU) [cA cs'] [gE.flatten]:=⟨⟨_,rfl,hch⟩,trivial⟩
 exact⟨(),_,trivial,hsub,H.less hsub (hE.nodup_iff.2 (fI H.nodup tJ)) (((H.kF.pick _).app hj).mono (fun _ _=>rfl) fun b hb _=>⟨hS b hb,rfl⟩) fun x hx=>(H.g x hx).mono fun b hb _=>⟨hS b hb,rfl⟩⟩
theorem pJ (w:World) (S:Nat→Prop):(cA []).P w S []:=⟨[],rfl,trivial⟩
end more
theorem wN {α β:Type} {ks:List α} (hn:ks.Nodup) {i:Nat} {k:α} (hk:ks[i]?=some k) {Q Q':α→β} (hQ:∀x,x≠k→Q' x=Q x):(ks.map Q').eraseIdx i=(ks.map Q).eraseIdx i:=by
 apply eH
 intro j
 rw[dj,dj]
 have key:∀j:Nat,j≠i→(ks.map Q')[j]?=(ks.map Q)[j]?:=fun j hj=>by
  rw[aF,aF]
  cases hx:ks[j]? with
  | none=>rfl
  | some x=>
   have:x≠k:=fun he=>by
    subst he
    exact hj ((dQ (ai.1 hx).1 hn).1 (hx.trans hk.symm))
   simp[hQ x this]
 split
 ·exact key j (by omega)
 ·exact key (j+1) (by omega)
end Go.Sx
end
section
namespace Go.Proofs.YtmkapocibaojdaaGreatDoor
open Go Go.Sx
def O0:Sk:=(.seq (.rg 0 false) (.seq (.cond (.const (.bool false)) (.seq (.rg 1 false) (.seq (.rg 2 false) .ret)) .skip) (.seq (.rg 3 false) (.seq (.rg 4 false) .ret))))
theorem Aj:Tryz.f158.body=some (O0.code Tryz.f158):=by kernel_rfl
def OX:Sk:=(.seq (.rg 0 false) (.seq (.rg 1 false) .ret))
theorem Rq:Tryz.f162.body=some (OX.code Tryz.f162):=by kernel_rfl
def OI:Sk:=(.seq (.rg 0 false) (.seq (.rg 1 false) (.seq (.rg 2 false) (.seq (.rg 3 false) (.seq (.rg 4 false) (.seq (.rg 5 false) (.seq (.rg 6 false) (.seq (.rg 7 false) (.seq (.rg 8 false) (.seq (.rg 9 false) (.seq (.rg 10 false) (.seq (.rg 11 false) .ret))))))))))))
theorem Ai:Tryz.f194.body=some (OI.code Tryz.f194):=by kernel_rfl
end Go.Proofs.YtmkapocibaojdaaGreatDoor
end
section
namespace Go.Proofs.YtmkapocibaojdaaGreatDoor
open Go Go.Sx
def sN (c:Int):Bool:=((decide (c<97)||decide (122<c))&&(decide (c<48)||decide (57<c)))&&(c != 45)
def Be (l:List UInt8):Bool:=l.any fun b=>sN b.toNat
def dS (s:ByteArray):Bool:=decide (1≤s.size)&&decide (s.size≤16)&&!Be s.data.toList
set_option maxHeartbeats 4000000 in
theorem PG {w:World} {S:Nat→Prop} {c:Int}:Calls Tryz.prog 192 #[.int .u8 c] w fun e w'=>cQ [] w S w' e (.bool (sN c)) [] []:=by
 refine jL Tryz.func192 Rc (args:=[.int .u8 c]) (G:=[]) (by kernel_rfl) (gl.nil w S) ?_
 obtain h|h|h|h|h|h|h:c<45∨c=45∨(45<c∧c<48)∨(48≤c∧c≤57)∨(57<c∧c<97)∨(97≤c∧c≤122)∨122<c:=by omega
 ·have e:sN c=true:=by simp[sN];omega
  refine Zs [zR 0] [] [zB 2 false] ?_
  refine Zt ([zR 0,.rd 1 [] 0 6,zR 2,.rd 3 [] 1 0,.rd 4 [] 1 0]++bh 5 8++[.rd 8 [] 0 6,zR 9,.rd 10 [] 1 0,.rd 11 [] 1 0]++bh 12 16++[.rd 16 [] 0 6,zR 17,zR 18]) [0] [zB 2 true] (oC (show decide (c<(97:Int))=true from by simp;omega) (oC (show decide (c<(48:Int))=true from by simp;omega) (oC (show(c != (45:Int))=true from by simp;omega) oN))) ?_
  refine Yr [[]] (.bool true) fun a w s=>?_
  rw[e]
  exact s.ret (by simp) [] [] rfl rfl
 ·subst h
  refine Zs [zR 0] [] [zB 2 false] ?_
  refine Zs (bh 0 3++[.rd 3 [] 1 0,.rd 4 [] 1 0]++bh 5 10++[.rd 10 [] 1 0,.rd 11 [] 1 0]++bh 12 19) [0] [] ?_
  refine Yr [[]] (.bool false) fun a w s=>?_
  exact s.ret (by simp) [] [] rfl rfl
 ·have e:sN c=true:=by simp[sN];omega
  refine Zs [zR 0] [] [zB 2 false] ?_
  refine Zt ([zR 0,.rd 1 [] 0 6,zR 2,.rd 3 [] 1 0,.rd 4 [] 1 0]++bh 5 8++[.rd 8 [] 0 6,zR 9,.rd 10 [] 1 0,.rd 11 [] 1 0]++bh 12 16++[.rd 16 [] 0 6,zR 17,zR 18]) [0] [zB 2 true] (oC (show decide (c<(97:Int))=true from by simp;omega) (oC (show decide (c<(48:Int))=true from by simp;omega) (oC (show(c != (45:Int))=true from by simp;omega) oN))) ?_
  refine Yr [[]] (.bool true) fun a w s=>?_
  rw[e]
  exact s.ret (by simp) [] [] rfl rfl
 ·have e:sN c=false:=by simp[sN];omega
  refine Zs [zR 0] [] [zB 2 false] ?_
  refine Zt ([zR 0,.rd 1 [] 0 6,zR 2,.rd 3 [] 1 0,.rd 4 [] 1 0]++bh 5 8++[.rd 8 [] 0 7,zR 9,zR 10,.rd 11 [] 0 7]++bh 12 15++[.rd 15 [] 1 0,.rd 16 [] 1 0,zR 17,zR 18]) [0] [] (oC (show decide (c<(97:Int))=true from by simp;omega) (oC (show decide (c<(48:Int))=false from by simp;omega) (oC (show decide (c>(57:Int))=false from by simp;omega) oN))) ?_
  refine Yr [[]] (.bool false) fun a w s=>?_
  rw[e]
  exact s.ret (by simp) [] [] rfl rfl
 ·have e:sN c=true:=by simp[sN];omega
  refine Zs [zR 0] [] [zB 2 false] ?_
  refine Zt ([zR 0,.rd 1 [] 0 6,zR 2,.rd 3 [] 1 0,.rd 4 [] 1 0]++bh 5 8++[.rd 8 [] 0 7,zR 9,zR 10,.rd 11 [] 0 6]++bh 12 16++[.rd 16 [] 0 6,zR 17,zR 18]) [0] [zB 2 true] (oC (show decide (c<(97:Int))=true from by simp;omega) (oC (show decide (c<(48:Int))=false from by simp;omega) (oC (show decide (c>(57:Int))=true from by simp;omega) (oC (show(c != (45:Int))=true from by simp;omega) oN)))) ?_
  refine Yr [[]] (.bool true) fun a w s=>?_
  rw[e]
  exact s.ret (by simp) [] [] rfl rfl
 ·have e:sN c=false:=by simp[sN];omega
  refine Zs [zR 0] [] [zB 2 false] ?_
  refine Zt [zR 0,.rd 1 [] 0 7,zR 2,zR 3,.rd 4 [] 0 7,zR 5,zR 6,.rd 7 [] 1 0,.rd 8 [] 1 0,.rd 9 [] 1 0,.rd 10 [] 1 0,.rd 11 [] 1 0,.rd 12 [] 1 0,zR 13,zR 14,.rd 15 [] 1 0,.rd 16 [] 1 0,zR 17,zR 18] [0] [] (oC (show decide (c<(97:Int))=false from by simp;omega) (oC (show decide (c>(122:Int))=false from by simp;omega) oN)) ?_
  refine Yr [[]] (.bool false) fun a w s=>?_
  rw[e]
  exact s.ret (by simp) [] [] rfl rfl
 ·have e:sN c=true:=by simp[sN];omega
  refine Zs [zR 0] [] [zB 2 false] ?_
  refine Zt ([zR 0,.rd 1 [] 0 7,zR 2,zR 3,.rd 4 [] 0 6]++bh 5 8++[.rd 8 [] 0 7,zR 9,zR 10,.rd 11 [] 0 6]++bh 12 16++[.rd 16 [] 0 6,zR 17,zR 18]) [0] [zB 2 true] (oC (show decide (c<(97:Int))=false from by simp;omega) (oC (show decide (c>(122:Int))=true from by simp;omega) (oC (show decide (c<(48:Int))=false from by simp;omega) (oC (show decide (c>(57:Int))=true from by simp;omega) (oC (show(c != (45:Int))=true from by simp;omega) oN))))) ?_
  refine Yr [[]] (.bool true) fun a w s=>?_
  rw[e]
  exact s.ret (by simp) [] [] rfl rfl
set_option maxHeartbeats 4000000 in
theorem FO {w:World} {S:Nat→Prop} {a:Option Addr} {n c:Nat} {l:List UInt8} (h:cm w S (.slice a n c) (.sl 1 (l.map eB))) (hl:l.length≤1000000) :
  Calls Tryz.prog 216 #[.slice a n c,.func (.func 192) #[] #[]] w fun e w'=>∃r,cQ [] w S w' e (.int .i64 r) [] []∧decide (0≤r)=Be l:=by
 have e1:=h.pA
 rw[aA]at e1
 subst e1
 refine jL Tryz.func216 Q2 (args:=[.slice a l.length c,.func (.func 192) #[] #[]]) (G:=[(_,.sl 1 (l.map eB))]) (by kernel_rfl) (.cons h (.nil _ _)) ?_
 refine Zs [zR 0] [] [zI 4 0] ?_
 refine aq ?_
 refine Zs (bh 0 3) [] [zI 7 (↑l.length:Int),zI 8 0] ?_
 refine aM ?_
 refine cU (fun i:Int=>[zS 0 a l.length c,zV 1 (.func (.func 192) #[] #[]),zI 4 0,zI 7 (↑l.length:Int),zI 8 i]) (fun i:Int=>[]) (fun i:Int=>[]) (fun i:Int=>[(.slice a l.length c,(D.sl 1 (aj eB l)))]) (fun i:Int=>(l.length - i).toNat) (fun i:Int=>(0≤i∧i≤l.length∧∀j:Nat,j<i.toNat→∀b,l[j]?=some b→sN b.toNat=false)) 0 [0,1,4,7,8] [] [] [0] ?_ (by kernel_rfl) rfl rfl rfl ?_
 ·exact⟨by simp,by omega,by simp⟩
 rintro i ⟨hi0,hi,hno⟩
 refine Zs [zR 0] [] [zB 9 (decide (i<(↑l.length:Int)))] ?_
 refine aq ?_
 refine cC (t:=decide (i<(↑l.length:Int))) (fun hlt=>?_) (fun hlt=>?_)
 ·have fa:i<l.length:=by simpa using hlt
  obtain⟨x,hx⟩:∃x,l[i.toNat]?=some x:=⟨_,ak (by omega)⟩
  refine gr 0 rfl i.toNat (dD hx) (by kernel_rfl) (fun b1 fu uf vi vm ha1 cP=>?_)
  cases ha1
  have cg:=oO (cP 0 _ rfl)
  try simp only[aQ]
  refine aG (aq (aM ?_))
  refine Zs [zR 0,zR 1] [9] [zI 5 i] ?_
  refine jS [(0,true),(1,true),(2,true),(3,true),(4,true),(5,false)] [] ?_
  refine Yp (bh 0 3++[.rd 3 [] 0 2,.rd 4 [.r 0 (some (.int .u8 (↑x.toNat:Int)))] 0 0]) [] [zV 11 (.func (.func 192) #[] #[]),zV 15 (.int .u8 (↑x.toNat:Int))] (oC hi0 (oC fa (oC cg oN))) ?_
  refine Yc 192 #[.int .u8 (↑x.toNat:Int)] (some 16) fun w S hG=>?_
  refine(PG (S:=S)).mono ?_
  rintro e w2 hR
  refine⟨_,_,_,hR,?_⟩
  try simp only[aQ]
  refine aC ?_
  refine cC (t:=sN (↑x.toNat:Int)) (fun hb=>?_) (fun hb=>?_)
  ·refine aq ?_
   refine Za [zR 0,zR 1] [16] [zI 4 i] ?_
   refine Yr [[]] (nI i) fun a w s=>?_
   refine⟨_,s.ret (by simp) [] [] rfl rfl,?_⟩
   rw[show Be l=true from gL.2 ⟨x,ae hx,hb⟩]
   simpa using hi0
  ·refine aG ?_
   refine eu ?_
   refine Zp [.rd 0 [] 0 1,zR 1] [16] [zI 8 (i+1)] (oC (show IntKind.i64.wrap (i+1)=i+1 from wrap_i64 (by omega) (by omega)) oN) ?_
   refine bC (i+1) [0,1,4,7,8] [] [] [0] ?_ ?_ (by kernel_rfl) rfl rfl rfl
   ·refine⟨by omega,by omega,fun j hj t ht=>?_⟩
    by_cases uO:j=i.toNat
    ·subst uO
     rw[hx]at ht
     cases ht
     exact hb
    ·exact hno j (by omega) t ht
   ·omega
 ·refine dO rfl ?_
  refine Zs [zR 0] [9,0,1,7,8] [zI 4 (-1)] ?_
  refine Yr [[]] (nI (-1)) fun a w s=>?_
  refine⟨_,s.ret (by simp) [] [] rfl rfl,?_⟩
  have e:Be l=false:=by
   unfold Be
   rw[List.any_eq_false]
   intro t ht
   obtain⟨j,hj⟩:=aJ ht
   have oP:=(ai.1 hj).1
   simp[hno j (by simp at hlt;omega) t hj]
  rw[e]
  decide
set_option maxHeartbeats 4000000 in
theorem A9 {w:World} {S:Nat→Prop} {a:Option Addr} {n c:Nat} {l:List UInt8} (h:cm w S (.slice a n c) (.sl 1 (l.map eB))) (hl:l.length≤1000000) :
  Calls Tryz.prog 191 #[.slice a n c,.func (.func 192) #[] #[]] w fun e w'=>cQ [] w S w' e (.bool (Be l)) [] []:=by
 refine jL Tryz.func191 Re (args:=[.slice a n c,.func (.func 192) #[] #[]]) (G:=[(_,.sl 1 (l.map eB))]) (by kernel_rfl) (.cons h (.nil _ _)) ?_
 refine Zs [zR 0] [] [zB 4 false] ?_
 refine jS [(0,true),(1,true),(2,false),(3,true),(4,true)] [] ?_
 refine Ya [zR 0,zR 1] [0,1] [zS 5 a n c,zV 6 (.func (.func 192) #[] #[])] ?_
 refine Yc 216 #[.slice a n c,.func (.func 192) #[] #[]] (some 7) fun w S hG=>?_
 refine(FO (hG.at 0 rfl) hl).mono ?_
 rintro e w2 ⟨r,hR,hr⟩
 refine⟨_,_,_,hR,?_⟩
 try simp only[aQ]
 refine Ya [zR 3,zR 4] [7,5,6] [zB 4 (decide (r≥0))] ?_
 refine aC ?_
 refine Yr [[]] (.bool (decide (r≥0))) fun a w s=>?_
 rw[←hr]
 exact s.ret (by simp) [] [] rfl rfl
set_option maxHeartbeats 4000000 in
theorem Bw {w:World} {S:Nat→Prop} {s0:ByteArray}:Calls Tryz.prog 154 #[.string s0] w fun e w'=>cQ [] w S w' e (.bool (dS s0)) [] []:=by
 refine jL Tryz.func154 Rx (args:=[.string s0]) (G:=[]) (by kernel_rfl) (gl.nil w S) ?_
 have hz:s0.data.toList.length=s0.size:=by simp
 by_cases h1:s0.size=0
 ·have Si:s0.toList=(aL #[]).toList:=by
   rw[ByteArray.toList_eq,ByteArray.toList_eq]
   exact ct (by omega)
  have hE:(!s0.toList==(aL #[]).toList)=false:=by rw[Si];simp
  have e:dS s0=false:=by simp[dS,h1]
  refine Zs [zR 0] [] [zB 2 false] ?_
  refine Zt [zR 0,.rd 1 [] 0 7,zR 2,.rd 3 [] 1 0,.rd 4 [] 1 0,.rd 5 [] 1 0,zR 6,zR 7,.rd 8 [] 1 0,.wr 9 [] 1,.wr 10 [] 1,.rd 11 [] 1 0,zR 12,zR 13] [0] [] (oC (show(!s0.toList==(aL #[]).toList)=false from by assumption) oN) ?_
  refine Yr [[]] (.bool false) fun a w s=>?_
  rw[e]
  exact s.ret (by simp) [] [] rfl rfl
 ·have hE:(!s0.toList==(aL #[]).toList)=true:=by
   rw[ByteArray.toList_eq,ByteArray.toList_eq]
   cases h:s0.data.toList with
   | nil=>rw[h]at hz;exact absurd hz.symm h1
   | cons x l=>rfl
  by_cases h2:16<s0.size
  ·have e:dS s0=false:=by simp[dS];omega
   refine Zs [zR 0] [] [zB 2 false] ?_
   refine Zt ([zR 0,.rd 1 [] 0 6]++bh 2 5++[.rd 5 [] 0 7,zR 6,zR 7,.rd 8 [] 1 0,.wr 9 [] 1,.wr 10 [] 1,.rd 11 [] 1 0,zR 12,zR 13]) [0] [] (oC (show(!s0.toList==(aL #[]).toList)=true from by assumption) (oC (show decide ((↑s0.size:Int)≤(16:Int))=false from by simp;omega) oN)) ?_
   refine Yr [[]] (.bool false) fun a w s=>?_
   rw[e]
   exact s.ret (by simp) [] [] rfl rfl
  ·refine aq ?_
   refine Za [zR 0] [] [zB 2 false] ?_
   refine jS [(0,true),(1,true),(2,true),(3,true),(4,true),(5,true),(6,true),(7,true),(8,true),(9,false),(10,false),(11,true),(12,true),(13,true)] [] ?_
   refine Yp ([zR 0,.rd 1 [] 0 6]++bh 2 5++[.rd 5 [] 0 6]++bh 6 9) [0] [zB 10 true,zV 11 (.string s0)] (oC (show(!s0.toList==(aL #[]).toList)=true from by assumption) (oC (show decide ((↑s0.size:Int)≤(16:Int))=true from by simp;omega) oN)) ?_
   refine Jp 9 311 5 s0 (some 12) (by kernel_rfl) (by kernel_rfl) (by kernel_rfl) (by kernel_rfl) (fun XN XP=>?_)
   try simp only[aQ]
   refine Yc 191 #[.slice (sA XN 0) s0.size XP,.func (.func 192) #[] #[]] (some 13) fun w S hG=>?_
   refine(A9 (l:=s0.data.toList) (hG.at 0 rfl) (by omega)).mono ?_
   rintro e w2 hR
   refine⟨_,_,_,hR,?_⟩
   have e:dS s0=!Be s0.data.toList:=by simp[dS];omega
   rw[e]
   try simp only[aQ]
   refine Ya (bh 11 14) [13,12,10,11] [zB 2 (!Be s0.data.toList)] ?_
   refine aC ?_
   refine Yr [[]] (.bool (!Be s0.data.toList)) fun a w s=>?_
   exact s.ret (by simp) [] [] rfl rfl
end Go.Proofs.YtmkapocibaojdaaGreatDoor
end
section
namespace Go.Proofs.YtmkapocibaojdaaGreatDoor
open Go Go.Sx
abbrev oF (er:Nat→Addr):List (Value×D):=[(.nilIface,.v .nilIface),dE 390 er 0 2,dE 390 er 1 3]
def u7 (t:Int):Bool:=decide (t<0)||decide (1099511627776<t)
def b8 (xs:List Int):Nat:=if xs.length<1∨6<xs.length then 3 else if xs.any u7 then 2 else 0
set_option maxHeartbeats 4000000 in
theorem NH {w:World} {S:Nat→Prop} {t:Int}:Calls Tryz.prog 183 #[.int .i64 t] w fun e w'=>cQ [] w S w' e (.bool (u7 t)) [] []:=by
 refine jL Tryz.func183 Rm (args:=[.int .i64 t]) (G:=[]) (by kernel_rfl) (gl.nil w S) ?_
 refine Zs [zR 0] [] [zB 2 false] ?_
 refine Zs (bh 0 3++[.rd 3 [] 2 0,.rd 4 [] 2 0,.rd 5 [] 0 3,zR 6]) [0] [zB 2 (decide (t<0)||decide (t>1099511627776))] ?_
 refine Yr [[]] (.bool (decide (t<0)||decide (t>1099511627776))) fun a w s=>?_
 exact s.ret (by simp) [] [] rfl rfl
set_option maxHeartbeats 4000000 in
theorem Ib {w:World} {S:Nat→Prop} {a:Option Addr} {n c:Nat} {xs:List Int} (h:cm w S (.slice a n c) (aS xs)) (hl:xs.length≤1000000) :
  Calls Tryz.prog 214 #[.slice a n c,.func (.func 183) #[] #[]] w fun e w'=>∃r,cQ [] w S w' e (.int .i64 r) [] []∧decide (0≤r)=xs.any u7:=by
 obtain rfl:=dJ h
 refine jL Tryz.func214 Q4 (args:=[.slice a xs.length c,.func (.func 183) #[] #[]]) (G:=[(_,aS xs)]) (by kernel_rfl) (.cons h (.nil _ _)) ?_
 refine Zs [zR 0] [] [zI 4 0] ?_
 refine aq ?_
 refine Zs (bh 0 3) [] [zI 7 (↑xs.length:Int),zI 8 0] ?_
 refine aM ?_
 refine cU (fun i:Int=>[zS 0 a xs.length c,zV 1 (.func (.func 183) #[] #[]),zI 4 0,zI 7 (↑xs.length:Int),zI 8 i]) (fun i:Int=>[]) (fun i:Int=>[]) (fun i:Int=>[(.slice a xs.length c,(aS xs))]) (fun i:Int=>(xs.length - i).toNat) (fun i:Int=>(0≤i∧i≤xs.length∧∀j:Nat,j<i.toNat→∀t,xs[j]?=some t→u7 t=false)) 0 [0,1,4,7,8] [] [] [0] ?_ (by kernel_rfl) rfl rfl rfl ?_
 ·exact⟨by simp,by omega,by simp⟩
 rintro i ⟨hi0,hi,hno⟩
 refine Zs [zR 0] [] [zB 9 (decide (i<(↑xs.length:Int)))] ?_
 refine aq ?_
 refine cC (t:=decide (i<(↑xs.length:Int))) (fun hlt=>?_) (fun hlt=>?_)
 ·have fa:i<xs.length:=by simpa using hlt
  obtain⟨x,hx⟩:∃x,xs[i.toNat]?=some x:=⟨_,ak (by omega)⟩
  refine gr 0 rfl i.toNat (dD hx) (by kernel_rfl) (fun b1 fu uf vi vm ha1 cP=>?_)
  cases ha1
  have cg:=oO (cP 0 _ rfl)
  try simp only[aQ]
  refine aG (aq (aM ?_))
  refine Zs [zR 0,zR 1] [9] [zI 5 i] ?_
  refine jS [(0,true),(1,true),(2,true),(3,true),(4,true),(5,false)] [] ?_
  refine Yp (bh 0 3++[.rd 3 [] 0 2,.rd 4 [.r 0 (some (nI x))] 0 0]) [] [zV 11 (.func (.func 183) #[] #[]),zI 15 x] (oC hi0 (oC fa (oC cg oN))) ?_
  refine Yc 183 #[nI x] (some 16) fun w S hG=>?_
  refine(NH (S:=S)).mono ?_
  rintro e w2 hR
  refine⟨_,_,_,hR,?_⟩
  try simp only[aQ]
  refine aC ?_
  refine cC (t:=u7 x) (fun hb=>?_) (fun hb=>?_)
  ·refine aq ?_
   refine Za [zR 0,zR 1] [16] [zI 4 i] ?_
   refine Yr [[]] (nI i) fun a w s=>?_
   refine⟨_,s.ret (by simp) [] [] rfl rfl,?_⟩
   rw[gL.2 ⟨x,ae hx,hb⟩]
   simpa using hi0
  ·refine aG ?_
   refine eu ?_
   refine Zp [.rd 0 [] 0 1,zR 1] [16] [zI 8 (i+1)] (oC (show IntKind.i64.wrap (i+1)=i+1 from wrap_i64 (by omega) (by omega)) oN) ?_
   refine bC (i+1) [0,1,4,7,8] [] [] [0] ?_ ?_ (by kernel_rfl) rfl rfl rfl
   ·refine⟨by omega,by omega,fun j hj t ht=>?_⟩
    by_cases uO:j=i.toNat
    ·subst uO
     rw[hx]at ht
     cases ht
     exact hb
    ·exact hno j (by omega) t ht
   ·omega
 ·refine dO rfl ?_
  refine Zs [zR 0] [9,0,1,7,8] [zI 4 (-1)] ?_
  refine Yr [[]] (nI (-1)) fun a w s=>?_
  refine⟨_,s.ret (by simp) [] [] rfl rfl,?_⟩
  have e:xs.any u7=false:=by
   rw[List.any_eq_false]
   intro t ht
   obtain⟨j,hj⟩:=aJ ht
   have oP:=(ai.1 hj).1
   simp[hno j (by simp at hlt;omega) t hj]
  rw[e]
  decide
set_option maxHeartbeats 4000000 in
theorem Cr {w:World} {S:Nat→Prop} {a:Option Addr} {n c:Nat} {xs:List Int} (h:cm w S (.slice a n c) (aS xs)) (hl:xs.length≤1000000) :
  Calls Tryz.prog 182 #[.slice a n c,.func (.func 183) #[] #[]] w fun e w'=>cQ [] w S w' e (.bool (xs.any u7)) [] []:=by
 refine jL Tryz.func182 Rn (args:=[.slice a n c,.func (.func 183) #[] #[]]) (G:=[(_,aS xs)]) (by kernel_rfl) (.cons h (.nil _ _)) ?_
 refine Zs [zR 0] [] [zB 4 false] ?_
 refine jS [(0,true),(1,true),(2,false),(3,true),(4,true)] [] ?_
 refine Ya [zR 0,zR 1] [0,1] [zS 5 a n c,zV 6 (.func (.func 183) #[] #[])] ?_
 refine Yc 214 #[.slice a n c,.func (.func 183) #[] #[]] (some 7) fun w S hG=>?_
 refine(Ib (hG.at 0 rfl) hl).mono ?_
 rintro e w2 ⟨r,hR,hr⟩
 refine⟨_,_,_,hR,?_⟩
 try simp only[aQ]
 refine Ya [zR 3,zR 4] [7,5,6] [zB 4 (decide (r≥0))] ?_
 refine aC ?_
 refine Yr [[]] (.bool (decide (r≥0))) fun a w s=>?_
 rw[←hr]
 exact s.ret (by simp) [] [] rfl rfl
set_option maxHeartbeats 4000000 in
theorem vp {w:World} {S:Nat→Prop} {er:Nat→Addr} {a:Option Addr} {n c:Nat} {xs:List Int} (hE:gl w S (oF er)) (h:cm w S (.slice a n c) (aS xs)) (hl:xs.length≤1000000) :
  Calls Tryz.prog 141 #[.slice a n c] w fun e w'=>∃v,cQ [] w S w' e v [] []∧lq 390 er (b8 xs) v:=by
 obtain rfl:=dJ h
 refine jL Tryz.func141 RJ (args:=[.slice a xs.length c]) (G:=oF er++[(_,aS xs)]) (by kernel_rfl) (hE.app (.cons h (.nil _ _))) ?_
 refine di 1 rfl (fun ni mW ng dh=>?_)
 refine di 2 rfl (fun uY uq uS gu=>?_)
 try simp only[aQ]
 refine Zs [zR 0] [] [zV 2 .nilIface] ?_
 refine aq ?_
 refine Zs (bh 0 4++[.rd 4 [] 2 0,.rd 5 [] 2 0,.rd 6 [] 2 0,.rd 7 [] 0 3]) [] [zB 10 (decide ((↑xs.length:Int)<1)||decide ((↑xs.length:Int)>6))] ?_
 refine cC (t:=decide ((↑xs.length:Int)<1)||decide ((↑xs.length:Int)>6)) (fun hn=>?_) (fun hn=>?_)
 ·refine aq ?_
  refine Zp [.rd 0 [.r 1 (some (.iface 390 (.pointer (some (er 3)))))] 0 0,zR 1] [10] [zV 2 (.iface 390 (.pointer (some (er 3))))] (oC gu oN) ?_
  refine Yr [[]] (.iface 390 (.pointer (some (er 3)))) fun a w s=>?_
  refine⟨_,s.ret (by simp) [] [] rfl rfl,.inr ⟨?_,?_⟩⟩ <;> rw[b8,if_pos (by simp at hn;omega)]
  ·decide
 ·have rF:¬(xs.length<1∨6<xs.length):=by simp at hn;omega
  refine aG (aq ?_)
  refine jS [(0,true),(1,false)] [] ?_
  refine Ya [zR 0] [10,0] [zS 12 a xs.length c] ?_
  refine Yc 182 #[.slice a xs.length c,.func (.func 183) #[] #[]] (some 13) fun w S hG=>?_
  refine(Cr (hG.at 3 rfl) hl).mono ?_
  rintro e w2 hR
  refine⟨_,_,_,hR,?_⟩
  try simp only[aQ]
  refine aC ?_
  refine cC (t:=xs.any u7) (fun hb=>?_) (fun hb=>?_)
  ·refine aq ?_
   refine Zp [.rd 0 [.r 0 (some (.iface 390 (.pointer (some (er 2)))))] 0 0,zR 1] [13,12] [zV 2 (.iface 390 (.pointer (some (er 2))))] (oC dh oN) ?_
   refine Yr [[]] (.iface 390 (.pointer (some (er 2)))) fun a w s=>?_
   refine⟨_,s.ret (by simp) [] [] rfl rfl,.inr ⟨?_,?_⟩⟩ <;> rw[b8,if_neg rF,if_pos hb]
   ·decide
  ·refine aG ?_
   refine Zs [zR 0] [13,12] [] ?_
   refine Yr [[]] (.nilIface) fun a w s=>?_
   exact⟨_,s.ret (by simp) [] [] rfl rfl,.inl ⟨by rw[b8,if_neg rF,hb];rfl,rfl⟩⟩
end Go.Proofs.YtmkapocibaojdaaGreatDoor
end
section
namespace Go.Proofs.YtmkapocibaojdaaGreatDoor
open Go Go.Sx
def iQ (xs ys:List Int):Nat:=if b8 xs≠0 then b8 xs else if b8 ys≠0 then b8 ys else if xs.length≠ys.length then 3 else 0
theorem jV {xs:List Int} (h:b8 xs=0):1≤xs.length∧xs.length≤6:=by
 unfold b8 at h
 split at h
 ·cases h
 ·omega
theorem vo {xs:List Int} (h:b8 xs=0):∀t∈xs,0≤t∧t≤1099511627776:=by
 unfold b8 at h
 split at h
 ·cases h
 ·split at h
  ·cases h
  ·rename_i hb
   intro t ht
   simp only[Bool.not_eq_true,List.any_eq_false]at hb
   have:=hb t ht
   simp[u7]at this
   omega
set_option maxHeartbeats 4000000 in
theorem Su {w:World} {S:Nat→Prop} {er:Nat→Addr} {a b:Option Addr} {n m c d:Nat} {xs ys:List Int} (hE:gl w S (oF er)) (ha:cm w S (.slice a n c) (aS xs)) (hb:cm w S (.slice b m d) (aS ys)) (hl:xs.length≤1000000) (kS:ys.length≤1000000) :
  Calls Tryz.prog 156 #[.slice a n c,.slice b m d] w fun e w'=>∃v,cQ [] w S w' e v [] []∧lq 390 er (iQ xs ys) v:=by
 obtain rfl:=dJ ha
 obtain rfl:=dJ hb
 refine jL Tryz.func156 Rv (args:=[.slice a xs.length c,.slice b ys.length d]) (G:=oF er++[(_,aS xs),(_,aS ys)]) (by kernel_rfl) (hE.app (.cons ha (.cons hb (.nil _ _)))) ?_
 refine di 2 rfl (fun ni mW ng dh=>?_)
 try simp only[aQ]
 refine Zs [zR 0] [] [zV 4 .nilIface] ?_
 refine aq ?_
 refine Zv [zR 0,zR 1,.wr 2 [] 0,zR 3,zR 4] [] [] (fun aN=>[zS 10 (sA (aN 0) 0) 2 2,zI 11 2,zI 12 0]) o0 (fun aN=>[(aN 0,.cells #[.slice a xs.length c,.slice b ys.length d] 32 (0,0))]) (fun aN=>?_)
 refine aM ?_
 refine cU (fun i:Int=>[zS 0 a xs.length c,zS 1 b ys.length d,zV 4 .nilIface,zS 10 (sA (aN 0) 0) 2 2,zI 11 2,zI 12 i]) (fun i:Int=>[(aN 0,.cells #[.slice a xs.length c,.slice b ys.length d] 32 (0,0))]) (fun i:Int=>[]) (fun i:Int=>[(.nilIface,(D.v Value.nilIface)),(.pointer (sA 0 0),(D.ptr [D.v (Value.iface 390 (Value.pointer (some (er 2))))])),(.pointer (sA 1 0),(D.ptr [D.v (Value.iface 390 (Value.pointer (some (er 3))))])),(.slice a xs.length c,(aS xs)),(.slice b ys.length d,(aS ys))]) (fun i:Int=>(2 - i).toNat) (fun i:Int=>(i=0∨(i=1∧b8 xs=0)∨(i=2∧b8 xs=0∧b8 ys=0))) 0 [0,1,4,10,11,12] [0] [] [0,1,2,3,4] ?_ (by kernel_rfl) rfl rfl rfl ?_
 ·exact .inl rfl
 rintro i (rfl|⟨rfl,h0⟩|⟨rfl,h0,h1⟩)
 ·refine aq ?_
  refine Za [zR 0] [] [zB 13 true] ?_
  refine aq ?_
  refine gR ?_
  refine aG (aq (aM ?_))
  refine Zs [zR 0,.rd 1 [.o 0 none] 0 0,zR 2] [13] [zS 6 a xs.length c] ?_
  refine jS [(0,true),(1,false),(2,true)] [] ?_
  refine Ya [zR 0] [] [zS 16 a xs.length c] ?_
  refine Yc 141 #[.slice a xs.length c] (some 17) fun w S hG=>?_
  refine(vp (hG.pick [0,1,2] rfl) (hG.at 3 rfl) hl).mono ?_
  rintro e w2 ⟨v,hR,⟨h2,rfl⟩|⟨h2,rfl⟩⟩
  ·refine⟨_,_,_,hR,?_⟩
   try simp only[aQ]
   refine Ya [zR 2] [17,16] [zV 7 .nilIface] ?_
   refine aC ?_
   refine Zs [zR 0,zR 1] [] [zB 19 false] ?_
   refine cF ?_
   refine aG (eu ?_)
   refine Za [zR 0,zR 1] [19] [zI 12 1] ?_
   refine bC 1 [0,1,4,10,11,12] [0] [] [0,1,2,3,4] ?_ ?_ (by kernel_rfl) rfl rfl rfl
   ·exact .inr (.inl ⟨rfl,h2⟩)
   ·omega
  ·refine⟨_,_,_,hR,?_⟩
   try simp only[aQ]
   refine Ya [zR 2] [17,16] [zV 7 (.iface 390 (.pointer (some (er (b8 xs)))))] ?_
   refine aC ?_
   refine Zs [zR 0,zR 1] [] [zB 19 true] ?_
   refine gR ?_
   refine Zs [zR 0,zR 1] [19] [zV 4 (.iface 390 (.pointer (some (er (b8 xs)))))] ?_
   refine Yr [[]] (.iface 390 (.pointer (some (er (b8 xs))))) fun a w s=>?_
   exact⟨_,s.ret (by simp) [] [] rfl rfl,.inr (by rw[iQ,if_pos h2];exact⟨h2,rfl⟩)⟩
 ·refine aq ?_
  refine Za [zR 0] [] [zB 13 true] ?_
  refine aq ?_
  refine gR ?_
  refine aG (aq (aM ?_))
  refine Zs [zR 0,.rd 1 [.o 0 none] 0 0,zR 2] [13] [zS 6 b ys.length d] ?_
  refine jS [(0,true),(1,false),(2,true)] [] ?_
  refine Ya [zR 0] [] [zS 16 b ys.length d] ?_
  refine Yc 141 #[.slice b ys.length d] (some 17) fun w S hG=>?_
  refine(vp (hG.pick [0,1,2] rfl) (hG.at 4 rfl) kS).mono ?_
  rintro e w2 ⟨v,hR,⟨h2,rfl⟩|⟨h2,rfl⟩⟩
  ·refine⟨_,_,_,hR,?_⟩
   try simp only[aQ]
   refine Ya [zR 2] [17,16] [zV 7 .nilIface] ?_
   refine aC ?_
   refine Zs [zR 0,zR 1] [] [zB 19 false] ?_
   refine cF ?_
   refine aG (eu ?_)
   refine Za [zR 0,zR 1] [19] [zI 12 2] ?_
   refine bC 2 [0,1,4,10,11,12] [0] [] [0,1,2,3,4] ?_ ?_ (by kernel_rfl) rfl rfl rfl
   ·exact .inr (.inr ⟨rfl,h0,h2⟩)
   ·omega
  ·refine⟨_,_,_,hR,?_⟩
   try simp only[aQ]
   refine Ya [zR 2] [17,16] [zV 7 (.iface 390 (.pointer (some (er (b8 ys)))))] ?_
   refine aC ?_
   refine Zs [zR 0,zR 1] [] [zB 19 true] ?_
   refine gR ?_
   refine Zs [zR 0,zR 1] [19] [zV 4 (.iface 390 (.pointer (some (er (b8 ys)))))] ?_
   refine Yr [[]] (.iface 390 (.pointer (some (er (b8 ys))))) fun a w s=>?_
   exact⟨_,s.ret (by simp) [] [] rfl rfl,.inr (by rw[iQ,if_neg (by simp[h0]),if_pos h2];exact⟨h2,rfl⟩)⟩
 ·refine aq ?_
  refine Za [zR 0] [] [zB 13 false] ?_
  refine aq ?_
  refine cF ?_
  refine dO rfl ?_
  refine aq ?_
  refine Zs (bh 0 5) [13,0,1,10,11,12] [zB 26 ((↑xs.length:Int) != (↑ys.length:Int))] ?_
  refine cC (t:=(↑xs.length:Int) != (↑ys.length:Int)) (fun hne=>?_) (fun hne=>?_)
  ·refine aq ?_
   refine Zp [.rd 0 [.r 0 (some (.iface 390 (.pointer (some (er 3)))))] 0 0,zR 1] [26] [zV 4 (.iface 390 (.pointer (some (er 3))))] (oC dh oN) ?_
   refine Yr [[]] (.iface 390 (.pointer (some (er 3)))) fun a w s=>?_
   exact⟨_,s.ret (by simp) [] [] rfl rfl,.inr (by rw[iQ,if_neg (by simp[h0]),if_neg (by simp[h1]),if_pos (by simp at hne;omega)];exact⟨by decide,rfl⟩)⟩
  ·refine aG ?_
   refine Zs [zR 0] [26] [] ?_
   refine Yr [[]] (.nilIface) fun a w s=>?_
   exact⟨_,s.ret (by simp) [] [] rfl rfl,.inl ⟨by rw[iQ,if_neg (by simp[h0]),if_neg (by simp[h1]),if_neg (by simp at hne;omega)],rfl⟩⟩
def lF (xs ys:List Int):Bool:=(xs.zip ys).all fun p=>decide (p.1≤p.2)
theorem rB {xs ys:List Int} (_:xs.length=ys.length) (h:∀(j:Nat) x y,xs[j]?=some x→ys[j]?=some y→x≤y):lF xs ys=true:=by
 unfold lF
 rw[dF]
 rintro⟨x,y⟩ hm
 obtain⟨j,hj⟩:=aJ hm
 rw[jd]at hj
 simpa using h j x y hj.1 hj.2
theorem FP {xs ys:List Int} {j:Nat} {x y:Int} (hx:xs[j]?=some x) (hy:ys[j]?=some y) (h:y<x):lF xs ys=false:=by
 unfold lF
 rw[List.all_eq_false]
 exact⟨(x,y),ae (jd.2 ⟨hx,hy⟩),by simpa using h⟩
set_option maxHeartbeats 4000000 in
theorem V7 {w:World} {S:Nat→Prop} {a b:Option Addr} {n m c d:Nat} {xs ys:List Int} (ha:cm w S (.slice a n c) (aS xs)) (hb:cm w S (.slice b m d) (aS ys)) (hl:xs.length≤1000000) (hxy:xs.length=ys.length) :
  Calls Tryz.prog 157 #[.slice a n c,.slice b m d] w fun e w'=>cQ [] w S w' e (.bool (lF xs ys)) [] []:=by
 obtain rfl:=dJ ha
 obtain rfl:=dJ hb
 refine jL Tryz.func157 Ru (args:=[.slice a xs.length c,.slice b ys.length d]) (G:=[(_,aS xs),(_,aS ys)]) (by kernel_rfl) (.cons ha (.cons hb (.nil _ _))) ?_
 refine Zs [zR 0] [] [zB 4 false] ?_
 refine aq ?_
 refine Zs (bh 0 3) [0] [zS 7 a xs.length c,zI 8 (↑xs.length:Int),zI 9 0] ?_
 refine aM ?_
 refine cU (fun i:Int=>[zS 1 b ys.length d,zB 4 false,zS 7 a xs.length c,zI 8 (↑xs.length:Int),zI 9 i]) (fun i:Int=>[]) (fun i:Int=>[]) (fun i:Int=>[(.slice a xs.length c,(aS xs)),(.slice b ys.length d,(aS ys))]) (fun i:Int=>(xs.length - i).toNat) (fun i:Int=>(0≤i∧i≤xs.length∧∀j:Nat,j<i.toNat→∀x y,xs[j]?=some x→ys[j]?=some y→x≤y)) 0 [1,4,7,8,9] [] [] [0,1] ?_ (by kernel_rfl) rfl rfl rfl ?_
 ·exact⟨by simp,by omega,by simp⟩
 rintro i ⟨hi0,hi,hno⟩
 refine Zs [zR 0] [] [zB 10 (decide (i<(↑xs.length:Int)))] ?_
 refine aq ?_
 refine cC (t:=decide (i<(↑xs.length:Int))) (fun hlt=>?_) (fun hlt=>?_)
 ·have fa:i<xs.length:=by simpa using hlt
  obtain⟨x,hx⟩:∃x,xs[i.toNat]?=some x:=⟨_,ak (by omega)⟩
  obtain⟨y,hy⟩:∃y,ys[i.toNat]?=some y:=⟨_,ak (by omega)⟩
  refine gr 0 rfl i.toNat (dD hx) (by kernel_rfl) (fun b1 fu uf vi vm ha1 cP=>?_)
  cases ha1
  have cg:=oO (cP 0 _ rfl)
  refine gr 1 rfl i.toNat (dD hy) (by kernel_rfl) (fun b2 pN Bq JT IC ha2 kK=>?_)
  cases ha2
  have gI:=oO (kK 0 _ rfl)
  try simp only[aQ]
  refine aG (aq (aM ?_))
  refine Zt [zR 0,.rd 1 [] 0 2,.rd 2 [.r 0 (some (nI x))] 0 0,zR 3,zR 4] [10] [zI 5 i,zI 6 x] (oC hi0 (oC fa (oC cg oN))) ?_
  refine Zt (bh 0 3++[.rd 3 [] 0 2,.rd 4 [.r 1 (some (nI y))] 0 0,zR 5]) [] [zB 19 (decide (x>y))] (oC hi0 (oC (show i<(↑ys.length:Int) from by omega) (oC gI oN))) ?_
  refine cC (t:=decide (x>y)) (fun hgt=>?_) (fun hgt=>?_)
  ·refine aq ?_
   refine Za [zR 0] [19] [] ?_
   refine Yr [[]] (.bool false) fun a w s=>?_
   rw[FP hx hy (by simpa using hgt)]
   exact s.ret (by simp) [] [] rfl rfl
  ·refine aG ?_
   refine eu ?_
   refine Zp [.rd 0 [] 0 1,zR 1] [19] [zI 9 (i+1)] (oC (show IntKind.i64.wrap (i+1)=i+1 from wrap_i64 (by omega) (by omega)) oN) ?_
   refine bC (i+1) [1,4,7,8,9] [] [] [0,1] ?_ ?_ (by kernel_rfl) rfl rfl rfl
   ·refine⟨by omega,by omega,fun j hj x' y' hx' hy'=>?_⟩
    by_cases uO:j=i.toNat
    ·subst uO
     rw[hx]at hx'
     rw[hy]at hy'
     cases hx'
     cases hy'
     simpa using hgt
    ·exact hno j (by omega) x' y' hx' hy'
   ·omega
 ·refine dO rfl ?_
  refine Zs [zR 0] [10,1,7,8,9] [zB 4 true] ?_
  refine Yr [[]] (.bool true) fun a w s=>?_
  rw[rB hxy fun j x y hx hy=>hno j (by have:=(ai.1 hx).1;simp at hlt;omega) x y hx hy]
  exact s.ret (by simp) [] [] rfl rfl
end Go.Proofs.YtmkapocibaojdaaGreatDoor
end
