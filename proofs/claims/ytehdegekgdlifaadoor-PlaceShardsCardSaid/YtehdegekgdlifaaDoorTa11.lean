/- Part 11 of the texts of a claim: PlX PlH PlY PlZ Tx9. -/
import Derived.Stop.LaidErr
import Derived.Below
import Derived.Carry
import Derived.ChangeSame
import Derived.OpenShut
import Derived.ChangeSlices
import Derived.Test.YtehdegekgdlifaaDoorTa10
section
namespace Go.Proofs.YtehdegekgdlifaaDoor
open Go Go.Sx
abbrev comZ : Value := .agg #[.slice none 0 0, .int .i64 0, .slice none 0 0]
set_option maxHeartbeats 4000000 in
theorem stp_closePl {h r : List (Nat × Obj)} {F : List (List Nat × World)} {S0 : Nat → Prop} {C0 : List Chunk} {G0 : List (Value × D)} {b : Nat} {x : PlT} (y : PlBx) (ps : List Nat) (i j : Nat) (hC : pick C0 ps = [cObj b (plC y.vb x.id x.places x.shards x.clock (.slice y.oa x.places y.oc) (.slice y.ia x.places y.ic)), cVer y.vb x.places x.base x.L, cSnds y.om.flatten x.ss, cRcvs y.im.flatten x.rs]) (hi : G0[i]? = some (.slice y.oa x.places y.oc, dRows y.om)) (hj : G0[j]? = some (.slice y.ia x.places y.ic, dRows y.im)) (hy : BxOk x y) (hnd : ps.Nodup := by decide) :
    Stp h r F ⟨S0, C0, G0⟩ (fun _ : Unit => True) fun _ => ⟨S0, restC C0 ps ++ [cPlace b x], G0⟩ :=
  stp_closebox ps y hC (mem_two (List.mem_of_getElem? hi) (List.mem_of_getElem? hj)) hy hnd
set_option maxHeartbeats 4000000 in
theorem placeCommit {w : World} {S : Nat → Prop} {M : List Nat} {er : Nat → Addr} {eb : Nat → Array Value × TypeId} {x : PlT} {b n n1 c1 n2 c2 : Nat} {a1 a2 : Option Addr} {at' : List Int} {ops : List OpT} (hC : Rep w S .nilIface (dC er eb)) (hP : Pre w S M [cPlace b x]) (hx : PlIn x n) (hn : n < 600) (h1 : Rep w S (.slice a1 n1 c1) (dInts at')) (h2 : Rep w S (.slice a2 n2 c2) (.sl 7 (ops.map eOp))) (hl1 : at'.length ≤ 1000000) (hl2 : ops.length ≤ 1000000) (hl3 : ∀ o ∈ ops, o.dots.length ≤ 1000000) :
    Calls Tryd.prog 10 #[.pointer (some ⟨b, 0, none⟩), .slice a1 n1 c1, .slice a2 n2 c2] w fun e w' =>
      ((comErr x at' ops).code ≠ 0 ∧ ∃ v G', Ret M w S w' e (.tuple #[comZ, .slice none 0 0, v]) [cPlace b x] G' ∧ FErrV er (comErr x at' ops) v G') ∨
      ((comErr x at' ops).code = 0 ∧ ∃ u1 m1 d1 u2 m2 d2 u3 m3 d3, Ret M w S w' e (.tuple #[.agg #[.slice u1 m1 d1, .int .i64 x.id, .slice u2 m2 d2], .slice u3 m3 d3, .nilIface]) [cPlace b (comPl x (comP x at' ops))]
        [(.slice u1 m1 d1, dInts (comP x at' ops).when), (.slice u2 m2 d2, .sl 7 ((comP x at' ops).ops.map eOp)), (.slice u3 m3 d3, .sl 9 ((comMs x (comP x at' ops)).map eMsg))]) := by
  obtain rfl := rep_ints_len h1
  have e2 := h2.slen
  rw [List.length_map] at e2
  subst e2
  refine en10 (args := [.pointer (some ⟨b, 0, none⟩), .slice a1 at'.length c1, .slice a2 ops.length c2]) (S := S) (C := [cPlace b x]) (G := [(_, dC er eb), (_, dInts at'), (_, .sl 7 (ops.map eOp))]) (by kernel_rfl) hP (.cons hC (.cons h1 (.cons h2 (.nil _ _)))) ?_
  refine J_stpx (stp_openbox 0 rfl) fun y hy => ?_
  obtain ⟨vb, oa, oc, ia, ic, om, im⟩ := y
  refine J_stp (stp_all 0 [1] rfl rfl) ?_
  refine J_glob 5 rfl (fun csg1 tyg1 fzg1 hglob1 => ?_)
  refine Nm [cObj b (.cells #[.pointer (some (⟨vb, 0, none⟩)), .int .i64 (↑x.id : Int), .int .i64 (↑x.places : Int), .int .i64 (↑x.shards : Int), .int .i64 x.clock, .slice (PlBx.mk vb oa oc ia ic om im).oa x.places oc, .slice (PlBx.mk vb oa oc ia ic om im).ia x.places ic] 59 (0, 0)), (cVer (PlBx.mk vb oa oc ia ic om im).vb x.places x.base x.L), (cSnds (PlBx.mk vb oa oc ia ic om im).om.flatten x.ss), (cRcvs (PlBx.mk vb oa oc ia ic om im).im.flatten x.rs)] ?_
  try simp only [aQ]
  refine J_seq ?_
  refine Zm [.wr 0 [] 0, .rd 1 [] 0 0, .rd 2 [] 0 0] [] [] (fun nu1 => [(6, .val (.pointer (some (⟨nu1 0, 0, none⟩)))), (7, .val (.slice none 0 0)), (8, .val (.nilIface))]) (fun nu1 => [(nu1 0, .cells #[.slice none 0 0, .int .i64 0, .slice none 0 0] 37 (0, 0))]) (fun nu1 => ?_)
  refine J_seq ?_
  refine J_seq ?_
  refine jT [(0, true), (1, true), (2, false), (3, true)] [] ?_
  refine Ya (id := 1) (rest := [(2, false), (3, true)]) [.rd 0 [] 0 0, .rd 1 [] 0 0] [] [(23, .val (.pointer (some (⟨b, 0, none⟩)))), (24, .val (.slice a1 at'.length c1))] ?_
  refine JR_call [] [0, 3] 20 #[.pointer (some (⟨b, 0, none⟩)), .slice a1 at'.length c1] (some 25) (by kernel_rfl) (by kernel_rfl) (by decide) (fun w S M hP hG _ => ?_)
  refine (pKnown (hG.at 0 rfl) hP (hG.at 4 rfl) (hG.at 1 rfl) hy.im hx.toPlOk hl1).mono ?_
  rintro e1 w1 ⟨v, hR, hv⟩
  refine ⟨_, _, _, hR, ?_⟩
  obtain ⟨hk0, rfl⟩ | ⟨hk0, rfl⟩ := hv
  case inr =>
    have hae : comErr x at' ops = ⟨knownErr x at', -1⟩ := by rw [comErr, if_pos hk0]
    rw [hae]
    try simp only [aQ]
    refine Ya (id := 1) (rest := []) [.rd 3 [] 0 0] [25, 23, 24] [(9, .val (.iface 156 (.pointer (some (er (knownErr x at'))))))] ?_
    try simp only [aQ]
    refine JR_end ?_
    try simp only [aQ]
    refine J_seq ?_
    try simp only [aQ]
    refine Za [.rd 0 [] 0 0, .rd 1 [] 0 0] [] [(27, .val (.bool true))] ?_
    try simp only [aQ]
    refine J_cond_t (by kernel_rfl) (by kernel_rfl) ?_
    try simp only [aQ]
    refine J_seq ?_
    try simp only [aQ]
    refine Zm [.rd 0 [] 0 0, .rd 1 [] 0 0, .wr 2 [.o 0 none, .o 0 none, .o 0 none] 0, .rd 3 [] 0 0, .rd 4 [] 0 0] [(2, [0])] [27, 9] (fun _ => [(8, .val (.iface 156 (.pointer (some (er (knownErr x at'))))))]) (fun _ => [(nu1 0, .cells #[.slice none 0 0, .int .i64 0, .slice none 0 0] 37 (0, 0))]) (fun _ => ?_)
    try simp only [aQ]
    refine Yr [[.o 0 none, .o 0 none, .o 0 none], [], []] (.tuple #[.agg #[.slice none 0 0, .int .i64 0, .slice none 0 0], .slice none 0 0, .iface 156 (.pointer (some (er (knownErr x at'))))]) fun a w s => ?_
    have s2 := s.stp (stp_closePl (x := x) ⟨vb, oa, oc, ia, ic, om, im⟩ [2, 0, 1, 3] 3 4 rfl rfl rfl hy)
    exact .inl ⟨hk0, _, _, s2.ret (by simp) [0] [] rfl rfl, .inl ⟨rfl, .inr ⟨hk0, rfl⟩, rfl⟩⟩
  try simp only [aQ]
  refine Ya (id := 1) (rest := []) [.rd 3 [] 0 0] [25, 23, 24] [(9, .val (.nilIface))] ?_
  try simp only [aQ]
  refine JR_end ?_
  try simp only [aQ]
  refine J_seq ?_
  try simp only [aQ]
  refine Za [.rd 0 [] 0 0, .rd 1 [] 0 0] [] [(27, .val (.bool false))] ?_
  try simp only [aQ]
  refine J_cond_f (by kernel_rfl) (by kernel_rfl) ?_
  try simp only [aQ]
  refine J_skip ?_
  try simp only [aQ]
  refine J_seq ?_
  try simp only [aQ]
  refine J_seq ?_
  try simp only [aQ]
  refine Nm [(cVer vb x.places x.base x.L), (cSnds om.flatten x.ss), cObj b (.cells #[.pointer (some (⟨vb, 0, none⟩)), .int .i64 (↑x.id : Int), .int .i64 (↑x.places : Int), .int .i64 (↑x.shards : Int), .int .i64 x.clock, .slice oa x.places oc, .slice ia x.places ic] 59 (0, 0)), (cRcvs im.flatten x.rs)] ?_
  refine J_show 2 rfl ?_
  obtain ⟨hv0, hal, hin⟩ := known_len hk0
  have hclk := hx.clk
  have hc0 := hx.c0
  have hid := hx.id
  have hcl : ¬ (x.clock ≥ 1099511627776) := by omega
  have hae : comErr x at' ops = comFault (comP x at' ops) := by rw [comErr, if_neg (by simp [hk0]), if_neg (by omega)]
  refine Zp (Rds 0 3 ++ [.rd 3 [.o 1 none] 0 0, .rd 4 [] 0 7]) [27, 9] [(34, .val (.bool false))] [decide (x.clock ≥ (1099511627776 : Int)) = false] ⟨by simp; omega, trivial⟩ ?_
  refine J_cond_f (by kernel_rfl) (by kernel_rfl) ?_
  refine J_skip ?_
  refine J_seq ?_
  refine jT [(0, true), (1, true), (2, true), (3, true), (4, true), (5, true), (6, true), (7, false), (8, false), (9, false)] [] ?_
  refine Ya (id := 6) (rest := [(7, false), (8, false), (9, false)]) (Rds 0 4 ++ [.rd 4 [.o 1 none] 0 0, .rd 5 [] 0 0, .rd 6 [] 0 0]) [34, 1, 2] [(43, .val (.agg #[.slice a1 at'.length c1, .int .i64 (↑x.id : Int), .slice a2 ops.length c2]))] ?_
  refine Yc 21 #[.agg #[.slice a1 at'.length c1, .int .i64 (↑x.id : Int), .slice a2 ops.length c2]] (some 44) fun w S hG => ?_
  refine (vOwnC (c := ⟨at', x.id, ops⟩) (hG.at 1 rfl) (hG.at 2 rfl) hl1 hl2 hl3).mono ?_
  rintro e2 w2 ⟨u1, d1, u2, d2, hR⟩
  refine ⟨_, _, _, hR, ?_⟩
  try simp only [aQ]
  refine Ym (id := 6) (rest := []) [.wr 8 [] 0, .wr 9 [.o 2 none, .o 2 none, .o 2 none] 0] [44, 43] (fun nu2 => [(10, .val (.pointer (some (⟨nu2 0, 0, none⟩))))]) (fun nu2 => [(nu1 0, .cells #[.slice none 0 0, .int .i64 0, .slice none 0 0] 37 (0, 0)), (b, .cells #[.pointer (some (⟨vb, 0, none⟩)), .int .i64 (↑x.id : Int), .int .i64 (↑x.places : Int), .int .i64 (↑x.shards : Int), .int .i64 x.clock, .slice oa x.places oc, .slice ia x.places ic] 59 (0, 0)), (nu2 0, .cells #[.slice u1 at'.length d1, .int .i64 (↑x.id : Int), .slice u2 ops.length d2] 37 (0, 0))]) [] (fun nu2 => ?_)
  try simp only [aQ]
  refine JR_end ?_
  try simp only [aQ]
  refine J_seq ?_
  try simp only [aQ]
  refine Nm [(cVer vb x.places x.base x.L), (cSnds om.flatten x.ss), (cRcvs im.flatten x.rs), cAcc (.slice u1 at'.length d1) 3 1 (List.map eI at'), cAcc (.slice u2 ops.length d2) 43 7 (List.map eOp ops)] ?_
  refine J_openacc 3 rfl (by intro h0; rw [List.map_eq_nil_iff] at h0; simp [h0] at hal; omega) fun g cur xs hu _ _ hrow => ?_
  subst hu
  have hid2 : (x.id : Int) < at'.length := by omega
  have hid0 : (0 : Int) ≤ x.id := by omega
  have hle := hrow.le
  rw [List.length_map] at hle
  have hsz : 0 + (x.id : Int).toNat * 1 + 1 ≤ cur.size := by rw [hrow.siz]; omega
  obtain ⟨tt, htt⟩ : ∃ tt, at'[(x.id : Int).toNat]? = some tt := ⟨_, List.getElem?_eq_getElem (by omega)⟩
  try simp only [aQ]
  refine Zn ([.rd 0 [] 0 0, .rd 1 [.o 2 none] 0 0] ++ Rds 2 5 ++ [.rd 5 [.o 1 none] 0 0] ++ Rds 6 9 ++ [.rd 9 [.o 1 none] 0 0, .rd 10 [] 0 1, .rd 11 [] 0 2, .wr 12 [.o 3 (some (.int .i64 (x.clock + 1)))] 0]) [(12, [3])] [] (fun _ => []) (fun _ => [(nu1 0, .cells #[.slice none 0 0, .int .i64 0, .slice none 0 0] 37 (0, 0)), (b, .cells #[.pointer (some (⟨vb, 0, none⟩)), .int .i64 (↑x.id : Int), .int .i64 (↑x.places : Int), .int .i64 (↑x.shards : Int), .int .i64 x.clock, .slice oa x.places oc, .slice ia x.places ic] 59 (0, 0)), (nu2 0, .cells #[.slice (some (⟨g, 0, none⟩)) at'.length d1, .int .i64 (↑x.id : Int), .slice u2 ops.length d2] 37 (0, 0)), (g, .cells (cur.setIfInBounds (0 + (↑x.id : Int).toNat * 1) (Value.int IntKind.i64 (x.clock + 1))) 3 (0, 0))]) (fun _ => [IntKind.i64.wrap (x.clock + (1 : Int)) = x.clock + (1 : Int), (0 : Int) ≤ (↑x.id : Int), (↑x.id : Int) < (↑at'.length : Int), (Value.int IntKind.i64 (x.clock + (1 : Int))).oneCell' = true, (0 : Nat) + (↑x.id : Int).toNat * (1 : Nat) < cur.size]) (fun _ => ⟨wrap_i64 (by omega) (by omega), hid0, hid2, ?_, by omega, trivial⟩) (fun _ => ?_)
  · rfl
  refine J_stp (stp_fact (v := .int .i64 (x.clock + 1)) (d := dI (x.clock + 1)) fun _ _ _ => .v rfl) ?_
  refine J_stp (stp_setrows 4 6 (x.id : Int).toNat 0 rfl hrow.len (map_at htt) (by decide) rfl) ?_
  have hset : (List.map eI at').set (x.id : Int).toNat ((eI tt).set 0 (dI (x.clock + 1))) = List.map eI (comP x at' ops).when := (List.map_set (f := eI)).symm
  rw [hset]
  have hwl : (comP x at' ops).when.length = at'.length := by simp [comP]
  try simp only [aQ]
  refine J_seq ?_
  refine J_seq ?_
  have hrow2 : Row (cur.setIfInBounds (0 + (x.id : Int).toNat * 1) (.int .i64 (x.clock + 1))) d1 (List.map eI (comP x at' ops).when).length 1 (xs.set ((x.id : Int).toNat * 1 + 0) (.int .i64 (x.clock + 1))) := by
    rw [Nat.zero_add, Nat.add_zero, List.length_map, hwl]
    have := hrow.set1 ((x.id : Int).toNat * 1) (.int .i64 (x.clock + 1))
    rwa [List.length_map] at this
  refine J_hide 3 rfl ?_
  refine J_stp (stp_closeacc 5 4 rfl rfl hrow2 (by decide)) ?_
  rw [show (List.map eI (comP x at' ops).when).length = at'.length by rw [List.length_map, hwl]]
  refine J_stp (stp_freeze 4 rfl) ?_
  refine Nm [(cVer vb x.places x.base x.L), (cSnds om.flatten x.ss), (cRcvs im.flatten x.rs), cAcc (.slice u2 ops.length d2) 43 7 (List.map eOp ops)] ?_
  try simp only [aQ]
  refine Za [.rd 0 [] 0 0, .rd 1 [.o 2 none] 0 0, .rd 2 [] 0 0, .rd 3 [] 0 0] [] [(59, .val (.int .i64 (↑ops.length : Int))), (60, .val (.int .i64 0))] ?_
  refine J_block ?_
  refine J_loopx (fun i : Int => [(0, .val (.pointer (some (⟨b, 0, none⟩)))), (6, .val (.pointer (some (⟨nu1 0, 0, none⟩)))), (7, .val (.slice none 0 0)), (8, .val (.nilIface)), (10, .val (.pointer (some (⟨nu2 0, 0, none⟩)))), (59, .val (.int .i64 (↑ops.length : Int))), (60, .val (.int .i64 i))]) (fun i : Int => [(nu1 0, .cells #[.slice none 0 0, .int .i64 0, .slice none 0 0] 37 (0, 0)), (b, .cells #[.pointer (some (⟨vb, 0, none⟩)), .int .i64 (↑x.id : Int), .int .i64 (↑x.places : Int), .int .i64 (↑x.shards : Int), .int .i64 x.clock, .slice oa x.places oc, .slice ia x.places ic] 59 (0, 0)), (nu2 0, .cells #[.slice (some (⟨g, 0, none⟩)) at'.length d1, .int .i64 (↑x.id : Int), .slice u2 ops.length d2] 37 (0, 0))]) (fun i : Int => [cVer vb x.places x.base x.L, cSnds om.flatten x.ss, cRcvs im.flatten x.rs, cAcc (.slice u2 ops.length d2) 43 7 ((stepNo ops i.toNat).map eOp)]) (fun i : Int => [(.nilIface, (dC er eb)), (.slice a1 at'.length c1, (dInts at')), (.slice a2 ops.length c2, (D.sl 7 (List.map eOp ops))), (.slice oa x.places oc, (dRows om)), (.slice ia x.places ic, (dRows im)), (.pointer (some (⟨1, 0, none⟩)), (D.ptr [D.v (Value.iface 156 (Value.pointer (some (er 2))))])), (.int .i64 (x.clock + 1), (dI (x.clock + 1))), (.slice (some (⟨g, 0, none⟩)) at'.length d1, (D.sl 1 (List.map eI (comP x at' ops).when)))]) (fun i : Int => (ops.length - i).toNat) (fun i : Int => (0 ≤ i ∧ i ≤ ops.length)) 0 [0, 6, 7, 8, 10, 59, 60] [0, 1, 2] [0, 1, 2, 3] [0, 1, 2, 3, 4, 5, 6, 7] ?_ (by kernel_rfl) rfl rfl rfl ?_
  · exact ⟨by omega, by omega⟩
  rintro i ⟨hi0, hi⟩
  refine J_seq ?_
  refine Za [.rd 0 [] 0 0] [] [(61, .val (.bool (decide (i < (↑ops.length : Int)))))] ?_
  refine J_seq ?_
  refine J_cond (t := decide (i < (↑ops.length : Int))) (by kernel_rfl) (by kernel_rfl) (fun hlt => ?_) (fun hlt => ?_)
  · have hlt2 : i < ops.length := by simpa using hlt
    obtain ⟨o, ho⟩ : ∃ o, ops[i.toNat]? = some o := ⟨_, List.getElem?_eq_getElem (by omega)⟩
    refine J_openacc 3 rfl (by intro h0; rw [List.map_eq_nil_iff] at h0; have := stepNo_at ho; rw [h0] at this; simp at this) fun g2 cur2 xs2 hu _ _ hrow3 => ?_
    subst hu
    have hnl : ((stepNo ops i.toNat).map eOp).length = ops.length := by rw [List.length_map, stepNo_len (by omega)]
    rw [hnl] at hrow3
    have hle3 := hrow3.le
    have hsz2 : 0 + i.toNat * 7 + 1 ≤ cur2.size := by rw [hrow3.siz]; omega
    try simp only [aQ]
    refine J_skip ?_
    try simp only [aQ]
    refine J_seq ?_
    try simp only [aQ]
    refine J_block ?_
    try simp only [aQ]
    refine J_seq ?_
    try simp only [aQ]
    refine Za [.rd 0 [] 0 0, .rd 1 [] 0 0] [61] [(11, .val (.int .i64 i))] ?_
    try simp only [aQ]
    refine Zn [.rd 0 [] 0 0, .rd 1 [.o 2 none] 0 0, .rd 2 [] 0 0, .rd 3 [] 0 0, .rd 4 [] 0 2, .rd 5 [] 0 0, .wr 6 [.o 3 (some (.int .i64 i))] 0] [(6, [3])] [] (fun _ => []) (fun _ => [(nu1 0, .cells #[.slice none 0 0, .int .i64 0, .slice none 0 0] 37 (0, 0)), (b, .cells #[.pointer (some (⟨vb, 0, none⟩)), .int .i64 (↑x.id : Int), .int .i64 (↑x.places : Int), .int .i64 (↑x.shards : Int), .int .i64 x.clock, .slice oa x.places oc, .slice ia x.places ic] 59 (0, 0)), (nu2 0, .cells #[.slice (some (⟨g, 0, none⟩)) at'.length d1, .int .i64 (↑x.id : Int), .slice (some (⟨g2, 0, none⟩)) ops.length d2] 37 (0, 0)), (g2, .cells (cur2.setIfInBounds (0 + i.toNat * 7) (Value.int IntKind.i64 i)) 43 (0, 0))]) (fun _ => [(0 : Int) ≤ i, i < (↑ops.length : Int), (Value.int IntKind.i64 i).oneCell' = true, (0 : Nat) + i.toNat * (7 : Nat) < cur2.size]) (fun _ => ⟨hi0, hlt2, ?_, by omega, trivial⟩) (fun _ => ?_)
    · rfl
    have hno : ({ o with no := (i.toNat : Int) } : OpT) = { o with no := i } := by rw [Int.toNat_of_nonneg hi0]
    have hset3 : (List.map eOp (stepNo ops i.toNat)).set i.toNat ((eOp o).set 0 (dI i)) = List.map eOp (stepNo ops (i + 1).toNat) := by
      rw [show (i + 1).toNat = i.toNat + 1 by omega, ← stepNo_set ho, hno, List.map_set]
      rfl
    have hnl2 : ((stepNo ops (i + 1).toNat).map eOp).length = ops.length := by rw [List.length_map, stepNo_len (by omega)]
    refine J_stp (stp_fact (v := .int .i64 i) (d := dI i) fun _ _ _ => .v rfl) ?_
    refine J_stp (stp_setrows 3 8 i.toNat 0 rfl (by rw [hnl]; exact hrow3.len) (map_at (stepNo_at ho)) (by decide) rfl) ?_
    rw [hset3]
    refine J_hide 3 rfl ?_
    have hrow4 : Row (cur2.setIfInBounds (0 + i.toNat * 7) (.int .i64 i)) d2 (List.map eOp (stepNo ops (i + 1).toNat)).length 7 (xs2.set (i.toNat * 7 + 0) (.int .i64 i)) := by
      rw [Nat.zero_add, Nat.add_zero, hnl2]
      exact hrow3.set1 _ _
    refine J_stp (stp_closeacc 4 3 rfl rfl hrow4 (by decide)) ?_
    rw [hnl2]
    try simp only [aQ]
    refine J_eb ?_
    try simp only [aQ]
    refine Zp [.rd 0 [] 0 1, .rd 1 [] 0 0] [] [(60, .val (.int .i64 (i + 1)))] [IntKind.i64.wrap (i + (1 : Int)) = i + (1 : Int)] ⟨wrap_i64 (by omega) (by omega), trivial⟩ ?_
    try simp only [aQ]
    refine J_backx (i + 1) [0, 6, 7, 8, 10, 59, 60] [0, 1, 2] [0, 1, 2, 3] [0, 1, 2, 3, 4, 5, 6, 7] ?_ ?_ (by kernel_rfl) rfl rfl rfl
    · exact ⟨by omega, by omega⟩
    · omega
  · have hie : i.toNat = ops.length := by simp at hlt; omega
    rw [hie, stepNo_end]
    refine J_exit rfl ?_
    refine J_seq ?_
    refine J_seq ?_
    refine J_stp (stp_freeze 3 rfl) ?_
    refine Nm [(cVer vb x.places x.base x.L), (cSnds om.flatten x.ss), (cRcvs im.flatten x.rs)] ?_
    try simp only [aQ]
    refine jT [(0, true), (1, false), (2, true)] [] ?_
    refine Ya (id := 13) (rest := [(1, false), (2, true)]) [.rd 0 [.o 2 none, .o 2 none, .o 2 none] 0 0] [61, 59, 60] [(70, .val (.agg #[.slice (some (⟨g, 0, none⟩)) at'.length d1, .int .i64 (↑x.id : Int), .slice u2 ops.length d2]))] ?_
    refine Yc 22 #[.agg #[.slice (some (⟨g, 0, none⟩)) at'.length d1, .int .i64 (↑x.id : Int), .slice u2 ops.length d2]] (some 71) fun w S hG => ?_
    refine (checkCommit (c := comP x at' ops) (hG.at 0 rfl) (hG.at 7 rfl) (hG.at 8 rfl) (by rw [hwl]; exact hl1) (by rw [comP, renum_len]; exact hl2)).mono ?_
    rintro e3 w3 (⟨ha, v, hR, hv⟩ | ⟨hf1, hf2, pb, hR⟩)
    case inr =>
      refine ⟨_, _, _, hR, ?_⟩
      have hc0 : (comFault (comP x at' ops)).code ≠ 0 := by omega
      rw [hae]
      try simp only [aQ]
      refine Ya (id := 13) (rest := []) [.rd 2 [] 0 0] [71, 70] [(12, .val (.iface 79 (.pointer (some (⟨pb, 0, none⟩)))))] ?_
      refine JR_end ?_
      refine J_seq ?_
      refine Za [.rd 0 [] 0 0, .rd 1 [] 0 0] [] [(73, .val (.bool true))] ?_
      refine J_cond_t (by kernel_rfl) (by kernel_rfl) ?_
      refine J_seq ?_
      refine Zm [.rd 0 [] 0 0, .rd 1 [] 0 0, .wr 2 [.o 0 none, .o 0 none, .o 0 none] 0, .rd 3 [] 0 0, .rd 4 [] 0 0] [(2, [0])] [73, 12] (fun _ => [(8, .val (.iface 79 (.pointer (some (⟨pb, 0, none⟩)))))]) (fun _ => [(nu1 0, .cells #[.slice none 0 0, .int .i64 0, .slice none 0 0] 37 (0, 0)), (b, .cells #[.pointer (some (⟨vb, 0, none⟩)), .int .i64 (↑x.id : Int), .int .i64 (↑x.places : Int), .int .i64 (↑x.shards : Int), .int .i64 x.clock, .slice oa x.places oc, .slice ia x.places ic] 59 (0, 0)), (nu2 0, .cells #[.slice (some (⟨g, 0, none⟩)) at'.length d1, .int .i64 (↑x.id : Int), .slice u2 ops.length d2] 37 (0, 0))]) (fun _ => ?_)
      refine Yr [[.o 0 none, .o 0 none, .o 0 none], [], []] (.tuple #[.agg #[.slice none 0 0, .int .i64 0, .slice none 0 0], .slice none 0 0, .iface 79 (.pointer (some (⟨pb, 0, none⟩)))]) fun a w s => ?_
      have s2 := (s.hide 1 rfl).stp (stp_closePl (x := x) ⟨vb, oa, oc, ia, ic, om, im⟩ [3, 0, 1, 2] 3 4 rfl rfl rfl hy)
      exact .inl ⟨hc0, _, _, s2.ret (by simp) [0] [9] rfl rfl, .inr ⟨hf1, hf2, pb, rfl, rfl⟩⟩
    refine ⟨_, _, _, hR, ?_⟩
    obtain ⟨hc0, rfl⟩ | ⟨hc0, rfl⟩ := hv
    case inr =>
      rw [hae]
      try simp only [aQ]
      refine Ya (id := 13) (rest := []) [.rd 2 [] 0 0] [71, 70] [(12, .val (.iface 156 (.pointer (some (er (comFault (comP x at' ops)).code)))))] ?_
      refine JR_end ?_
      refine J_seq ?_
      refine Za [.rd 0 [] 0 0, .rd 1 [] 0 0] [] [(73, .val (.bool true))] ?_
      refine J_cond_t (by kernel_rfl) (by kernel_rfl) ?_
      refine J_seq ?_
      refine Zm [.rd 0 [] 0 0, .rd 1 [] 0 0, .wr 2 [.o 0 none, .o 0 none, .o 0 none] 0, .rd 3 [] 0 0, .rd 4 [] 0 0] [(2, [0])] [73, 12] (fun _ => [(8, .val (.iface 156 (.pointer (some (er (comFault (comP x at' ops)).code)))))]) (fun _ => [(nu1 0, .cells #[.slice none 0 0, .int .i64 0, .slice none 0 0] 37 (0, 0)), (b, .cells #[.pointer (some (⟨vb, 0, none⟩)), .int .i64 (↑x.id : Int), .int .i64 (↑x.places : Int), .int .i64 (↑x.shards : Int), .int .i64 x.clock, .slice oa x.places oc, .slice ia x.places ic] 59 (0, 0)), (nu2 0, .cells #[.slice (some (⟨g, 0, none⟩)) at'.length d1, .int .i64 (↑x.id : Int), .slice u2 ops.length d2] 37 (0, 0))]) (fun _ => ?_)
      refine Yr [[.o 0 none, .o 0 none, .o 0 none], [], []] (.tuple #[.agg #[.slice none 0 0, .int .i64 0, .slice none 0 0], .slice none 0 0, .iface 156 (.pointer (some (er (comFault (comP x at' ops)).code)))]) fun a w s => ?_
      have s2 := (s.hide 1 rfl).stp (stp_closePl (x := x) ⟨vb, oa, oc, ia, ic, om, im⟩ [3, 0, 1, 2] 3 4 rfl rfl rfl hy)
      exact .inl ⟨hc0, _, _, s2.ret (by simp) [0] [] rfl rfl, .inl ⟨ha, .inr ⟨hc0, rfl⟩, rfl⟩⟩
    have hok : (comErr x at' ops).code = 0 := by rw [hae]; exact hc0
    have hcp := comP_put hx hok
    try simp only [aQ]
    refine Ya (id := 13) (rest := []) [.rd 2 [] 0 0] [71, 70] [(12, .val (.nilIface))] ?_
    refine JR_end ?_
    refine J_seq ?_
    refine Za [.rd 0 [] 0 0, .rd 1 [] 0 0] [] [(73, .val (.bool false))] ?_
    refine J_cond_f (by kernel_rfl) (by kernel_rfl) ?_
    refine J_skip ?_
    refine J_seq ?_
    refine J_seq ?_
    refine jT [(0, true), (1, true), (2, true), (3, true), (4, true), (5, false), (6, true)] [(5, [])] ?_
    refine Ya (id := 16) (rest := [(5, false), (6, true)]) (Rds 0 3 ++ [.rd 3 [.o 1 none] 0 0, .rd 4 [.o 2 none, .o 2 none, .o 2 none] 0 0]) [73, 12] [(79, .val (.pointer (some (⟨vb, 0, none⟩)))), (80, .val (.agg #[.slice (some (⟨g, 0, none⟩)) at'.length d1, .int .i64 (↑x.id : Int), .slice u2 ops.length d2]))] ?_
    refine JR_call [] [0] 23 #[.pointer (some (⟨vb, 0, none⟩)), .agg #[.slice (some (⟨g, 0, none⟩)) at'.length d1, .int .i64 (↑x.id : Int), .slice u2 ops.length d2]] (some 81) (by kernel_rfl) (by kernel_rfl) (by decide) (fun w S M hP hG _ => ?_)
    refine (verPut (c := comP x at' ops) (hG.at 0 rfl) hP (hx.ver (by omega)) (hG.at 7 rfl) (hG.at 8 rfl) (by rw [hwl]; exact hl1) (by rw [comP, renum_len]; exact hl2) (renum_dots hl3)).mono ?_
    rintro e4 w4 ⟨v, G', hR, hv⟩
    rw [putFault_ok (putFault_zero.2 hcp)] at hv
    rw [putL, if_pos (putFault_zero.2 hcp)] at hR
    obtain ⟨_, ⟨_, rfl⟩ | ⟨h0, _⟩, rfl⟩ | ⟨h0, _⟩ := hv
    case inl.inr => exact absurd rfl h0
    case inr => simp at h0
    refine ⟨_, _, _, hR, ?_⟩
    try simp only [aQ]
    refine Ya (id := 16) (rest := []) [.rd 6 [] 0 0] [81, 79, 80] [(13, .val (.nilIface))] ?_
    try simp only [aQ]
    refine JR_end ?_
    try simp only [aQ]
    refine J_seq ?_
    try simp only [aQ]
    refine Za [.rd 0 [] 0 0, .rd 1 [] 0 0] [] [(83, .val (.bool false))] ?_
    try simp only [aQ]
    refine J_cond_f (by kernel_rfl) (by kernel_rfl) ?_
    try simp only [aQ]
    refine J_skip ?_
    try simp only [aQ]
    refine J_seq ?_
    try simp only [aQ]
    refine Zn (Rds 0 3 ++ [.rd 3 [.o 1 none] 0 0, .rd 4 [] 0 1, .rd 5 [] 0 0, .rd 6 [] 0 0, .wr 7 [.o 1 none] 0]) [(7, [1])] [83, 13] (fun _ => []) (fun _ => [(nu1 0, .cells #[.slice none 0 0, .int .i64 0, .slice none 0 0] 37 (0, 0)), (b, .cells #[.pointer (some (⟨vb, 0, none⟩)), .int .i64 (↑x.id : Int), .int .i64 (↑x.places : Int), .int .i64 (↑x.shards : Int), .int .i64 (x.clock + 1), .slice oa x.places oc, .slice ia x.places ic] 59 (0, 0)), (nu2 0, .cells #[.slice (some (⟨g, 0, none⟩)) at'.length d1, .int .i64 (↑x.id : Int), .slice u2 ops.length d2] 37 (0, 0))]) (fun _ => [IntKind.i64.wrap (x.clock + (1 : Int)) = x.clock + (1 : Int)]) (fun _ => ⟨wrap_i64 (by omega) (by omega), trivial⟩) (fun _ => ?_)
    try simp only [aQ]
    refine J_seq ?_
    try simp only [aQ]
    refine Za [.rd 0 [] 0 0] [] [(14, .val (.slice none 0 0))] ?_
    try simp only [aQ]
    refine J_seq ?_
    try simp only [aQ]
    refine J_seq ?_
    try simp only [aQ]
    obtain ⟨hsl, hs36⟩ := hx.ssl
    have hp6 := hx.p6
    have hs6 := hx.s6
    rw [show cSnds om.flatten x.ss = cSnds om.flatten (ssAt x (comP x at' ops) (posP x.id x.shards (0 : Int).toNat)) by rw [Int.toNat_zero, posP_zero, ssAt_zero]]
    refine J_stp (stp_accm eMsg 45 9) ?_
    refine Nm [(cSnds om.flatten (ssAt x (comP x at' ops) (posP x.id x.shards (Int.toNat 0)))), (cRcvs im.flatten x.rs), (cVer vb x.places x.base (x.L ++ putsOf (comP x at' ops) (comP x at' ops).ops)), cAcc (.slice none 0 0) 45 9 (List.map eMsg [])] ?_
    refine Za (Rds 0 3 ++ [.rd 3 [.o 1 none] 0 0, .rd 4 [] 0 0, .rd 5 [] 0 0]) [] [(96, .val (.slice oa x.places oc)), (97, .val (.int .i64 (↑x.places : Int))), (98, .val (.int .i64 0))] ?_
    refine J_block ?_
    refine J_loopx (fun z : AccI => [(0, .val (.pointer (some (⟨b, 0, none⟩)))), (6, .val (.pointer (some (⟨nu1 0, 0, none⟩)))), (7, .val (.slice none 0 0)), (8, .val (.nilIface)), (10, .val (.pointer (some (⟨nu2 0, 0, none⟩)))), (14, .val (.slice z.a z.k z.c)), (96, .val (.slice oa x.places oc)), (97, .val (.int .i64 (↑x.places : Int))), (98, .val (.int .i64 z.i))]) (fun z : AccI => [(nu1 0, .cells #[.slice none 0 0, .int .i64 0, .slice none 0 0] 37 (0, 0)), (b, .cells #[.pointer (some (⟨vb, 0, none⟩)), .int .i64 (↑x.id : Int), .int .i64 (↑x.places : Int), .int .i64 (↑x.shards : Int), .int .i64 (x.clock + 1), .slice oa x.places oc, .slice ia x.places ic] 59 (0, 0)), (nu2 0, .cells #[.slice (some (⟨g, 0, none⟩)) at'.length d1, .int .i64 (↑x.id : Int), .slice u2 ops.length d2] 37 (0, 0))]) (fun z : AccI => [cSnds om.flatten (ssAt x (comP x at' ops) (posP x.id x.shards z.i.toNat)), cRcvs im.flatten x.rs, cVer vb x.places x.base (x.L ++ putsOf (comP x at' ops) (comP x at' ops).ops), cAcc (.slice z.a z.k z.c) 45 9 ((msAt x (comP x at' ops) (posP x.id x.shards z.i.toNat)).map eMsg)]) (fun z : AccI => [(.nilIface, (dC er eb)), (.slice a1 at'.length c1, (dInts at')), (.slice a2 ops.length c2, (D.sl 7 (List.map eOp ops))), (.slice oa x.places oc, (dRows om)), (.slice ia x.places ic, (dRows im)), (.pointer (some (⟨1, 0, none⟩)), (D.ptr [D.v (Value.iface 156 (Value.pointer (some (er 2))))])), (.int .i64 (x.clock + 1), (dI (x.clock + 1))), (.slice (some (⟨g, 0, none⟩)) at'.length d1, (D.sl 1 (List.map eI (comP x at' ops).when))), (.slice u2 ops.length d2, (D.sl 7 (List.map eOp (renum ops))))]) (fun z : AccI => (x.places - z.i).toNat) (fun z : AccI => (0 ≤ z.i ∧ z.i ≤ x.places)) ⟨0, none, 0, 0⟩ [0, 6, 7, 8, 10, 14, 96, 97, 98] [0, 1, 2] [0, 1, 2, 3] [0, 1, 2, 3, 4, 5, 6, 7, 8] ?_ (by kernel_rfl) rfl rfl rfl ?_
    · exact ⟨by simp, by simp⟩
    rintro ⟨k, av, m, cv⟩ ⟨hk0', hk1⟩
    dsimp only at hk0' hk1 ⊢
    refine J_seq ?_
    refine Za [.rd 0 [] 0 0] [] [(99, .val (.bool (decide (k < (↑x.places : Int)))))] ?_
    refine J_seq ?_
    refine J_cond (t := decide (k < (↑x.places : Int))) (by kernel_rfl) (by kernel_rfl) (fun hlk => ?_) (fun hlk => ?_)
    · have hlk2 : k < x.places := by simpa using hlk
      obtain ⟨r, hr⟩ : ∃ r, om[k.toNat]? = some r := ⟨_, List.getElem?_eq_getElem (by rw [hy.om.len]; show k.toNat < x.places; omega)⟩
      have hrl := hy.om.row hr
      refine J_read1 3 rfl k.toNat (map_at hr) (by kernel_rfl) (fun b1 off1 cs1 ty1 fz1 a1_0 c1_0 ha1 hrd1 => ?_)
      cases ha1
      have hrd1_0 := rd0 (hrd1 0 _ rfl)
      try simp only [aQ]
      refine J_skip ?_
      refine J_seq ?_
      refine J_block ?_
      refine J_seq ?_
      refine Zp [.rd 0 [] 0 2, .rd 1 [.r 1 (some (.slice (a1_0, c1_0).fst ((List.map eP r).length) c1_0))] 0 0, .rd 2 [] 0 0] [99] [(16, .val (.slice (a1_0, c1_0).fst ((List.map eP r).length) c1_0))] [(0 : Int) ≤ k, k < (↑x.places : Int), cs1[off1 + k.toNat * (1 : Nat)]? = some (Value.slice (a1_0, c1_0).fst (List.map eP r).length (a1_0, c1_0).snd)] ⟨hk0', hlk2, hrd1_0, trivial⟩ ?_
      refine J_seq ?_
      refine Za (Rds 0 3) [] [(102, .val (.slice (a1_0, c1_0).fst ((List.map eP r).length) c1_0)), (103, .val (.int .i64 ((↑(List.map eP r).length : Int)))), (104, .val (.int .i64 0))] ?_
      refine J_block ?_
      have hrn : (List.map eP r).length = r.length := List.length_map ..
      rw [hrn]
      refine J_loopx (fun z : AccI => [(0, .val (.pointer (some (⟨b, 0, none⟩)))), (6, .val (.pointer (some (⟨nu1 0, 0, none⟩)))), (7, .val (.slice none 0 0)), (8, .val (.nilIface)), (10, .val (.pointer (some (⟨nu2 0, 0, none⟩)))), (14, .val (.slice z.a z.k z.c)), (16, .val (.slice (a1_0, c1_0).fst r.length c1_0)), (96, .val (.slice (some (⟨b1, off1, none⟩)) x.places oc)), (97, .val (.int .i64 (↑x.places : Int))), (98, .val (.int .i64 k)), (102, .val (.slice (a1_0, c1_0).fst r.length c1_0)), (103, .val (.int .i64 (↑r.length : Int))), (104, .val (.int .i64 z.i))]) (fun z : AccI => [(nu1 0, .cells #[.slice none 0 0, .int .i64 0, .slice none 0 0] 37 (0, 0)), (b, .cells #[.pointer (some (⟨vb, 0, none⟩)), .int .i64 (↑x.id : Int), .int .i64 (↑x.places : Int), .int .i64 (↑x.shards : Int), .int .i64 (x.clock + 1), .slice (some (⟨b1, off1, none⟩)) x.places oc, .slice ia x.places ic] 59 (0, 0)), (nu2 0, .cells #[.slice (some (⟨g, 0, none⟩)) at'.length d1, .int .i64 (↑x.id : Int), .slice u2 ops.length d2] 37 (0, 0))]) (fun z : AccI => [cSnds om.flatten (ssAt x (comP x at' ops) (posP x.id x.shards k.toNat + z.i.toNat)), cRcvs im.flatten x.rs, cVer vb x.places x.base (x.L ++ putsOf (comP x at' ops) (comP x at' ops).ops), cAcc (.slice z.a z.k z.c) 45 9 ((msAt x (comP x at' ops) (posP x.id x.shards k.toNat + z.i.toNat)).map eMsg)]) (fun z : AccI => [(.nilIface, (dC er eb)), (.slice a1 at'.length c1, (dInts at')), (.slice a2 ops.length c2, (D.sl 7 (List.map eOp ops))), (.slice (some (⟨b1, off1, none⟩)) x.places oc, (dRows om)), (.slice ia x.places ic, (dRows im)), (.pointer (some (⟨1, 0, none⟩)), (D.ptr [D.v (Value.iface 156 (Value.pointer (some (er 2))))])), (.int .i64 (x.clock + 1), (dI (x.clock + 1))), (.slice (some (⟨g, 0, none⟩)) at'.length d1, (D.sl 1 (List.map eI (comP x at' ops).when))), (.slice u2 ops.length d2, (D.sl 7 (List.map eOp (renum ops)))), (.slice (a1_0, c1_0).fst ((List.map eP r).length) c1_0, (D.sl 1 (List.map eP r)))]) (fun z : AccI => (r.length - z.i).toNat) (fun z : AccI => (0 ≤ z.i ∧ z.i ≤ r.length)) ⟨0, av, m, cv⟩ [0, 6, 7, 8, 10, 14, 16, 96, 97, 98, 102, 103, 104] [0, 1, 2] [0, 1, 2, 3] [0, 1, 2, 3, 4, 5, 6, 7, 8, 9] ?_ (by kernel_rfl) rfl rfl rfl ?_
      · exact ⟨by simp, by simp⟩
      rintro ⟨i, av2, m2, cv2⟩ ⟨hi0, hi⟩
      dsimp only at hi0 hi ⊢
      refine J_stpx (stp_acclen 3 rfl) fun _ hm2 => ?_
      have hm3 := msAt_len x (comP x at' ops) (posP x.id x.shards k.toNat + i.toNat)
      rw [List.length_map] at hm2
      refine J_seq ?_
      refine Za [.rd 0 [] 0 0] [] [(105, .val (.bool (decide (i < (↑r.length : Int)))))] ?_
      refine J_seq ?_
      refine J_cond (t := decide (i < (↑r.length : Int))) (by kernel_rfl) (by kernel_rfl) (fun hli => ?_) (fun hli => ?_)
      · have hli2 : i < r.length := by simpa using hli
        obtain ⟨bb, hbb⟩ : ∃ bb, r[i.toNat]? = some bb := ⟨_, List.getElem?_eq_getElem (by omega)⟩
        have hne : k.toNat ≠ x.id := by
          intro h0
          rw [if_pos h0] at hrl
          omega
        rw [if_neg hne] at hrl
        have hbf := hy.om.at hr hbb
        obtain ⟨y0, hy0⟩ : ∃ y0, x.ss[posP x.id x.shards k.toNat + i.toNat]? = some y0 := by
          have h4 := (List.getElem?_eq_some_iff.1 hbf).1
          rw [hy.om.flen] at h4
          exact ⟨_, List.getElem?_eq_getElem (by rw [hsl]; exact h4)⟩
        obtain ⟨hto, hsh⟩ := hx.sndAt (by omega) hne (by omega) hy0
        refine J_read0 9 rfl i.toNat (map_at hbb) (by kernel_rfl) (fun b2 off2 cs2 ty2 fz2 ha2 hrd2 => ?_)
        cases ha2
        have hrd2_0 := rd0 (hrd2 0 _ rfl)
        try simp only [aQ]
        refine J_skip ?_
        refine J_seq ?_
        refine J_block ?_
        refine J_seq ?_
        refine Zp [.rd 0 [] 0 0, .rd 1 [] 0 2, .rd 2 [.r 2 (some (.pointer (some (⟨bb, 0, none⟩))))] 0 0, .rd 3 [] 0 0, .rd 4 [] 0 0] [105] [(17, .val (.int .i64 i)), (18, .val (.pointer (some (⟨bb, 0, none⟩))))] [(0 : Int) ≤ i, i < (↑r.length : Int), cs2[off2 + i.toNat * (1 : Nat)]? = some (Value.pointer (some (Addr.mk bb (0 : Nat) none)))] ⟨hi0, hli2, hrd2_0, trivial⟩ ?_
        refine J_seq ?_
        have hsh2 : y0.sh = i := by omega
        refine J_hide 1 rfl ?_
        refine Nm [(cSnds om.flatten (ssAt x (comP x at' ops) (posP x.id x.shards k.toNat + i.toNat))), (cRcvs im.flatten x.rs), (cVer vb x.places x.base (x.L ++ putsOf (comP x at' ops) (comP x at' ops).ops)), cAcc (.slice av2 m2 cv2) 45 9 (List.map eMsg (msAt x (comP x at' ops) (posP x.id x.shards k.toNat + i.toNat))), cObj b (.cells #[.pointer (some (⟨vb, 0, none⟩)), .int .i64 (↑x.id : Int), .int .i64 (↑x.places : Int), .int .i64 (↑x.shards : Int), .int .i64 (x.clock + 1), .slice (some (⟨b1, off1, none⟩)) x.places oc, .slice ia x.places ic] 59 (0, 0))] ?_
        refine jT [(0, true), (1, true), (2, true), (3, false), (4, true), (5, true), (6, true), (7, false), (8, false), (9, true)] [] ?_
        refine Ya (id := 27) (rest := [(3, false), (4, true), (5, true), (6, true), (7, false), (8, false), (9, true)]) [.rd 0 [] 0 0, .rd 1 [.o 1 none, .o 1 none, .o 1 none] 0 0, .rd 2 [] 0 0] [] [(110, .val (.pointer (some (⟨b, 0, none⟩)))), (111, .val (.agg #[.slice (some (⟨g, 0, none⟩)) at'.length d1, .int .i64 (↑x.id : Int), .slice u2 ops.length d2])), (112, .val (.int .i64 i))] ?_
        refine JR_call [] [4] 24 #[.pointer (some (⟨b, 0, none⟩)), .agg #[.slice (some (⟨g, 0, none⟩)) at'.length d1, .int .i64 (↑x.id : Int), .slice u2 ops.length d2], .int .i64 i] (some 113) (by kernel_rfl) (by kernel_rfl) (by decide) (fun w S M hP hG _ => ?_)
        refine (pPart (c := comP x at' ops) (sh := i) (hG.at 0 rfl) hP (hG.at 8 rfl) (by rw [comP, renum_len]; exact hl2) (by have := hx.s1; omega) (by have := hx.s6; omega)).mono ?_
        rintro e5 w5 ⟨u4, d4, hR⟩
        refine ⟨_, _, _, hR, ?_⟩
        try simp only [aQ]
        refine Ym (id := 27) (rest := []) (Rds 4 7 ++ [.wr 7 [] 0, .wr 8 [.o 2 none, .o 2 none, .o 2 none] 0, .rd 9 [] 0 0]) [113, 110, 111, 112] (fun nu3 => [(19, .val (.pointer (some (⟨nu3 0, 0, none⟩)))), (20, .val (.bool (decide ((↑(partC (↑x.shards : Int) (comP x at' ops) i).ops.length : Int) > 0))))]) (fun nu3 => [(nu1 0, .cells #[.slice none 0 0, .int .i64 0, .slice none 0 0] 37 (0, 0)), (nu2 0, .cells #[.slice (some (⟨g, 0, none⟩)) at'.length d1, .int .i64 (↑x.id : Int), .slice u2 ops.length d2] 37 (0, 0)), (nu3 0, .cells #[.slice (some (⟨g, 0, none⟩)) at'.length d1, .int .i64 ((comP x at' ops).place), .slice u4 ((partC (↑x.shards : Int) (comP x at' ops) i).ops.length) d4] 37 (0, 0))]) [] (fun nu3 => ?_)
        try simp only [aQ]
        refine JR_end ?_
        try simp only [aQ]
        refine J_seq ?_
        try simp only [aQ]
        refine Za [.rd 0 [] 0 0] [] [(116, .val (.bool (decide ((↑(partC (↑x.shards : Int) (comP x at' ops) i).ops.length : Int) > 0))))] ?_
        try simp only [aQ]
        refine J_cond (t := decide ((↑(partC (↑x.shards : Int) (comP x at' ops) i).ops.length : Int) > 0)) (by kernel_rfl) (by kernel_rfl) (fun hpn => ?_) (fun hpn => ?_)
        · have hne2 : (partC x.shards (comP x at' ops) i).ops ≠ [] := by
            intro h0
            rw [h0] at hpn
            simp at hpn
          obtain ⟨hfm, htm, hq0, hq1, hql⟩ := hx.snd y0 (List.mem_of_getElem? hy0)
          have hsend := comP_send hx hok (List.mem_of_getElem? hy0) (by rw [hsh2]; exact hne2)
          rw [hsh2] at hsend
          have hmc : msgC x.shards (comP x at' ops) y0 = [SndT.msg y0 (partC x.shards (comP x at' ops) i)] := by rw [msgC, hsh2, if_neg hne2]
          have hsc : sndC x.shards (comP x at' ops) y0 = SndT.com y0 (partC x.shards (comP x at' ops) i) := by rw [sndC, hsh2, if_neg hne2]
          have hps : posP x.id x.shards k.toNat + i.toNat + 1 = posP x.id x.shards k.toNat + (i + 1).toNat := by omega
          try simp only [aQ]
          refine J_seq ?_
          try simp only [aQ]
          refine jT [(0, true), (1, true), (2, false), (3, true), (4, true), (5, true), (6, false), (7, false), (8, true)] [] ?_
          refine Ya (id := 29) (rest := [(2, false), (3, true), (4, true), (5, true), (6, false), (7, false), (8, true)]) [.rd 0 [] 0 0, .rd 1 [.o 2 none, .o 2 none, .o 2 none] 0 0] [116] [(118, .val (.pointer (some (⟨bb, 0, none⟩)))), (119, .val (.agg #[.slice (some (⟨g, 0, none⟩)) at'.length d1, .int .i64 ((comP x at' ops).place), .slice u4 ((partC (↑x.shards : Int) (comP x at' ops) i).ops.length) d4]))] ?_
          refine JR_call [] [0] 25 #[.pointer (some (⟨bb, 0, none⟩)), .agg #[.slice (some (⟨g, 0, none⟩)) at'.length d1, .int .i64 ((comP x at' ops).place), .slice u4 ((partC (↑x.shards : Int) (comP x at' ops) i).ops.length) d4]] (some 120) (by kernel_rfl) (by kernel_rfl) (by decide) (fun w S M hP hG _ => ?_)
          refine (sndCom (c := partC x.shards (comP x at' ops) i) (hG.at 0 rfl) hP hbf (ssAt_at hy0) (hG.at 7 rfl) (hG.at 10 rfl) (by show (comP x at' ops).when.length ≤ _; omega) (Nat.le_trans (List.length_filter_le _ _) (by rw [comP, renum_len]; exact hl2)) (fun o ho => renum_dots hl3 o (List.mem_filter.1 ho).1) hq0 (by omega) (by omega) hsend).mono ?_
          rintro e6 w6 ⟨u5, d5, u6, d6, hR⟩
          refine ⟨_, _, _, hR, ?_⟩
          rw [← hsc, ssAt_succ hy0, hps]
          try simp only [aQ]
          refine Ym (id := 29) (rest := []) (Rds 3 6 ++ [.wr 6 [] 0, .wr 7 [.o 3 none, .o 3 none, .o 3 none, .o 3 none, .o 3 none, .o 3 none, .o 3 none, .o 3 none, .o 3 none] 0, .rd 8 [] 0 0]) [120, 118, 119] (fun nu4 => [(21, .val (.pointer (some (⟨nu4 0, 0, none⟩))))]) (fun nu4 => [(nu1 0, .cells #[.slice none 0 0, .int .i64 0, .slice none 0 0] 37 (0, 0)), (nu2 0, .cells #[.slice (some (⟨g, 0, none⟩)) at'.length d1, .int .i64 (↑x.id : Int), .slice u2 ops.length d2] 37 (0, 0)), (nu3 0, .cells #[.slice (some (⟨g, 0, none⟩)) at'.length d1, .int .i64 ((comP x at' ops).place), .slice u4 ((partC (↑x.shards : Int) (comP x at' ops) i).ops.length) d4] 37 (0, 0)), (nu4 0, .cells #[.int .i64 ((SndT.msg y0 (partC (↑x.shards : Int) (comP x at' ops) i)).fm), .int .i64 ((SndT.msg y0 (partC (↑x.shards : Int) (comP x at' ops) i)).to), .int .i64 ((SndT.msg y0 (partC (↑x.shards : Int) (comP x at' ops) i)).shard), .int .i64 ((SndT.msg y0 (partC (↑x.shards : Int) (comP x at' ops) i)).seq), .int .i64 ((SndT.msg y0 (partC (↑x.shards : Int) (comP x at' ops) i)).time), .bool false, .slice u5 at'.length d5, .int .i64 ((SndT.msg y0 (partC (↑x.shards : Int) (comP x at' ops) i)).c.place), .slice u6 ((partC (↑x.shards : Int) (comP x at' ops) i).ops.length) d6] 45 (0, 0))]) [] (fun nu4 => ?_)
          try simp only [aQ]
          refine JR_end ?_
          try simp only [aQ]
          refine jT [(0, true), (1, true), (2, false), (3, false), (4, true)] [] ?_
          refine Ym (id := 30) (rest := [(3, false), (4, true)]) [.rd 0 [] 0 0, .rd 1 [.o 3 none, .o 3 none, .o 3 none, .o 3 none, .o 3 none, .o 3 none, .o 3 none, .o 3 none, .o 3 none] 0 0, .wr 2 [] 0] [] (fun nu5 => [(123, .val (.slice av2 m2 cv2)), (125, .val (.slice (some (⟨nu5 0, 0, none⟩)) 1 1))]) (fun nu5 => [(nu1 0, .cells #[.slice none 0 0, .int .i64 0, .slice none 0 0] 37 (0, 0)), (nu2 0, .cells #[.slice (some (⟨g, 0, none⟩)) at'.length d1, .int .i64 (↑x.id : Int), .slice u2 ops.length d2] 37 (0, 0)), (nu3 0, .cells #[.slice (some (⟨g, 0, none⟩)) at'.length d1, .int .i64 ((comP x at' ops).place), .slice u4 ((partC (↑x.shards : Int) (comP x at' ops) i).ops.length) d4] 37 (0, 0)), (nu4 0, .cells #[.int .i64 ((SndT.msg y0 (partC (↑x.shards : Int) (comP x at' ops) i)).fm), .int .i64 ((SndT.msg y0 (partC (↑x.shards : Int) (comP x at' ops) i)).to), .int .i64 ((SndT.msg y0 (partC (↑x.shards : Int) (comP x at' ops) i)).shard), .int .i64 ((SndT.msg y0 (partC (↑x.shards : Int) (comP x at' ops) i)).seq), .int .i64 ((SndT.msg y0 (partC (↑x.shards : Int) (comP x at' ops) i)).time), .bool false, .slice u5 at'.length d5, .int .i64 ((SndT.msg y0 (partC (↑x.shards : Int) (comP x at' ops) i)).c.place), .slice u6 ((partC (↑x.shards : Int) (comP x at' ops) i).ops.length) d6] 45 (0, 0)), (nu5 0, .cells #[.int .i64 ((SndT.msg y0 (partC (↑x.shards : Int) (comP x at' ops) i)).fm), .int .i64 ((SndT.msg y0 (partC (↑x.shards : Int) (comP x at' ops) i)).to), .int .i64 ((SndT.msg y0 (partC (↑x.shards : Int) (comP x at' ops) i)).shard), .int .i64 ((SndT.msg y0 (partC (↑x.shards : Int) (comP x at' ops) i)).seq), .int .i64 ((SndT.msg y0 (partC (↑x.shards : Int) (comP x at' ops) i)).time), .bool false, .slice u5 at'.length d5, .int .i64 ((SndT.msg y0 (partC (↑x.shards : Int) (comP x at' ops) i)).c.place), .slice u6 ((partC (↑x.shards : Int) (comP x at' ops) i).ops.length) d6] 45 (0, 0))]) [] (fun nu5 => ?_)
          refine JN [(cRcvs im.flatten x.rs), (cVer vb x.places x.base (x.L ++ putsOf (comP x at' ops) (comP x at' ops).ops)), cAcc (.slice av2 m2 cv2) 45 9 (List.map eMsg (msAt x (comP x at' ops) (posP x.id x.shards k.toNat + i.toNat))), cObj b (.cells #[.pointer (some (⟨vb, 0, none⟩)), .int .i64 (↑x.id : Int), .int .i64 (↑x.places : Int), .int .i64 (↑x.shards : Int), .int .i64 (x.clock + 1), .slice (some (⟨b1, off1, none⟩)) x.places oc, .slice ia x.places ic] 59 (0, 0)), (cSnds om.flatten (ssAt x (comP x at' ops) (posP x.id x.shards k.toNat + (i + 1).toNat)))] ?_
          refine JR_appm 2 38 45 9 104 (.agg #[.int .i64 0, .int .i64 0, .int .i64 0, .int .i64 0, .int .i64 0, .bool false, .slice none 0 0, .int .i64 0, .slice none 0 0]) (a0 := av2) (len := m2) (cap0 := cv2) (ax := (some (⟨nu5 0, 0, none⟩))) (m := 1) (c := 1) (dst := (some 126)) [(SndT.msg y0 (partC x.shards (comP x at' ops) i))] (by kernel_rfl) (by kernel_rfl) (by kernel_rfl) (by kernel_rfl) rfl (by decide) rfl (fun _ _ _ s => src_one s 4 rfl rfl ⟨.inl ⟨rfl, rfl⟩, ⟨.inl ⟨rfl, rfl⟩, ⟨.inl ⟨rfl, rfl⟩, ⟨.inl ⟨rfl, rfl⟩, ⟨.inl ⟨rfl, rfl⟩, ⟨.inl ⟨rfl, rfl⟩, ⟨.inr (.inl (List.mem_of_getElem? (i := 11) rfl)), ⟨.inl ⟨rfl, rfl⟩, ⟨.inr (.inl (List.mem_of_getElem? (i := 12) rfl)), trivial⟩⟩⟩⟩⟩⟩⟩⟩⟩) (by simp only [maxLen]; omega) (by omega) (fun av1 cv1 => ?_)
          rw [← hmc, msAt_succ hy0, hps]
          refine JN [(cRcvs im.flatten x.rs), (cVer vb x.places x.base (x.L ++ putsOf (comP x at' ops) (comP x at' ops).ops)), cObj b (.cells #[.pointer (some (⟨vb, 0, none⟩)), .int .i64 (↑x.id : Int), .int .i64 (↑x.places : Int), .int .i64 (↑x.shards : Int), .int .i64 (x.clock + 1), .slice (some (⟨b1, off1, none⟩)) x.places oc, .slice ia x.places ic] 59 (0, 0)), (cSnds om.flatten (ssAt x (comP x at' ops) (posP x.id x.shards k.toNat + (i + 1).toNat))), cAcc (.slice av1 (m2 + 1) cv1) 45 9 (List.map eMsg (msAt x (comP x at' ops) (posP x.id x.shards k.toNat + (i + 1).toNat)))] ?_
          try simp only [aQ]
          refine Ya (id := 30) (rest := []) [.rd 4 [] 0 0] [126, 123, 125] [(14, .val (.slice av1 (m2 + 1) cv1))] ?_
          refine JR_end ?_
          refine J_eb ?_
          refine Zp [.rd 0 [] 0 1, .rd 1 [] 0 0] [] [(104, .val (.int .i64 (i + 1)))] [IntKind.i64.wrap (i + (1 : Int)) = i + (1 : Int)] ⟨wrap_i64 (by omega) (by omega), trivial⟩ ?_
          refine J_show 2 rfl ?_
          refine J_backx ⟨i + 1, _, m2 + 1, _⟩ [0, 6, 7, 8, 10, 14, 16, 96, 97, 98, 102, 103, 104] [0, 5, 1] [2, 0, 1, 3] [0, 1, 2, 3, 4, 5, 6, 7, 8, 9] ?_ ?_ (by kernel_rfl) rfl rfl rfl
          · exact ⟨by simp only; omega, by simp only; omega⟩
          · simp only
            omega
        · have hne2 : (partC x.shards (comP x at' ops) i).ops = [] := by
            apply List.length_eq_zero_iff.1
            simp at hpn
            simpa using hpn
          have hps : posP x.id x.shards k.toNat + i.toNat + 1 = posP x.id x.shards k.toNat + (i + 1).toNat := by omega
          have hs1 : ssAt x (comP x at' ops) (posP x.id x.shards k.toNat + i.toNat) = ssAt x (comP x at' ops) (posP x.id x.shards k.toNat + (i + 1).toNat) := by
            rw [← hps, ← ssAt_succ hy0, show sndC x.shards (comP x at' ops) y0 = y0 by rw [sndC, hsh2, if_pos hne2], set_same (ssAt_at hy0)]
          have hs2 : msAt x (comP x at' ops) (posP x.id x.shards k.toNat + i.toNat) = msAt x (comP x at' ops) (posP x.id x.shards k.toNat + (i + 1).toNat) := by
            rw [← hps, ← msAt_succ hy0, show msgC x.shards (comP x at' ops) y0 = [] by rw [msgC, hsh2, if_pos hne2], List.append_nil]
          try simp only [aQ]
          refine J_skip ?_
          try simp only [aQ]
          refine J_eb ?_
          try simp only [aQ]
          refine Zp [.rd 0 [] 0 1, .rd 1 [] 0 0] [116] [(104, .val (.int .i64 (i + 1)))] [IntKind.i64.wrap (i + (1 : Int)) = i + (1 : Int)] ⟨wrap_i64 (by omega) (by omega), trivial⟩ ?_
          try simp only [aQ]
          rw [hs1, hs2]
          refine J_show 4 rfl ?_
          refine J_backx ⟨i + 1, av2, m2, cv2⟩ [0, 6, 7, 8, 10, 14, 16, 96, 97, 98, 102, 103, 104] [0, 3, 1] [0, 1, 2, 3] [0, 1, 2, 3, 4, 5, 6, 7, 8, 9] ?_ ?_ (by kernel_rfl) rfl rfl rfl
          · exact ⟨by simp only; omega, by simp only; omega⟩
          · simp only
            omega
      · have hie2 : i.toNat = (if k.toNat = x.id then 0 else x.shards) := by rw [← hrl]; simp at hli; omega
        have hps : posP x.id x.shards k.toNat + i.toNat = posP x.id x.shards (k + 1).toNat := by rw [hie2, show (k + 1).toNat = k.toNat + 1 by omega, posP_succ]
        rw [hps]
        refine J_exit rfl ?_
        refine J_eb ?_
        refine Zp [.rd 0 [] 0 1, .rd 1 [] 0 0] [105] [(98, .val (.int .i64 (k + 1)))] [IntKind.i64.wrap (k + (1 : Int)) = k + (1 : Int)] ⟨wrap_i64 (by omega) (by omega), trivial⟩ ?_
        refine J_backx ⟨k + 1, av2, m2, cv2⟩ [0, 6, 7, 8, 10, 14, 96, 97, 98] [0, 1, 2] [0, 1, 2, 3] [0, 1, 2, 3, 4, 5, 6, 7, 8] ?_ ?_ (by kernel_rfl) rfl rfl rfl
        · exact ⟨by simp only; omega, by simp only; omega⟩
        · simp only
          omega
    · have hke : k.toNat = x.places := by simp at hlk; omega
      rw [hke, ← hsl, ssAt_end _ _ (Nat.le_refl _), msAt_end _ _ (Nat.le_refl _)]
      refine J_exit rfl ?_
      refine J_seq ?_
      refine J_stpx (stp_acclen 3 rfl) fun _ hm2 => ?_
      refine Zm [.rd 0 [.o 2 none, .o 2 none, .o 2 none] 0 0, .rd 1 [] 0 0, .wr 2 [.o 0 none, .o 0 none, .o 0 none] 0, .rd 3 [] 0 0, .rd 4 [] 0 0] [(2, [0])] [99, 0, 10, 14, 96, 97, 98] (fun _ => [(7, .val (.slice av m cv))]) (fun _ => [(nu1 0, .cells #[.slice (some (⟨g, 0, none⟩)) at'.length d1, .int .i64 (↑x.id : Int), .slice u2 ops.length d2] 37 (0, 0)), (b, .cells #[.pointer (some (⟨vb, 0, none⟩)), .int .i64 (↑x.id : Int), .int .i64 (↑x.places : Int), .int .i64 (↑x.shards : Int), .int .i64 (x.clock + 1), .slice oa x.places oc, .slice ia x.places ic] 59 (0, 0)), (nu2 0, .cells #[.slice (some (⟨g, 0, none⟩)) at'.length d1, .int .i64 (↑x.id : Int), .slice u2 ops.length d2] 37 (0, 0))]) (fun _ => ?_)
      refine Yr [[.o 0 none, .o 0 none, .o 0 none], [], []] (.tuple #[.agg #[.slice (some (⟨g, 0, none⟩)) at'.length d1, .int .i64 (↑x.id : Int), .slice u2 ops.length d2], .slice av m cv, .nilIface]) fun a w s => ?_
      have s2 := ((s.stp (stp_freeze 3 rfl)).hide 1 rfl).stp (stp_closePl (x := comPl x (comP x at' ops)) ⟨vb, oa, oc, ia, ic, om, im⟩ [3, 2, 0, 1] 3 4 rfl rfl rfl ⟨hy.om, hy.im⟩)
      exact .inr ⟨hok, _, _, _, _, _, _, _, _, _, s2.ret (by simp) [0] [7, 8, 9] rfl rfl⟩
end Go.Proofs.YtehdegekgdlifaaDoor
end
section
namespace Go.Proofs.YtehdegekgdlifaaDoor
open Go Go.Sx
set_option maxHeartbeats 4000000 in
theorem plClock {w : World} {S : Nat → Prop} {M : List Nat} {b vb : Nat} {id places shards clock : Int} {o i : Value} (hP : Pre w S M [cObj b (plC vb id places shards clock o i)]) :
    Calls Tryd.prog 12 #[.pointer (some ⟨b, 0, none⟩)] w fun e w' => Ret M w S w' e (.int .i64 clock) [cObj b (plC vb id places shards clock o i)] [] := by
  refine en12 (args := [.pointer (some ⟨b, 0, none⟩)]) (S := S) (C := [cObj b (plC vb id places shards clock o i)]) (G := []) (by kernel_rfl) hP (.nil _ _) ?_
  refine J_show 0 rfl ?_
  refine J_seq ?_
  refine Za [.rd 0 [] 0 0] [] [(2, .val (.int .i64 0))] ?_
  refine J_seq ?_
  refine Za (Rds 0 3 ++ [.rd 3 [.o 0 none] 0 0, .rd 4 [] 0 0]) [0] [(2, .val (.int .i64 clock))] ?_
  refine Yr [[]] (.int .i64 clock) fun a w s => ?_
  exact (s.hide 0 rfl).ret (by simp) [0] [] rfl rfl
set_option maxHeartbeats 4000000 in
theorem placeClock {w : World} {S : Nat → Prop} {M : List Nat} {b : Nat} {x : PlT} (hP : Pre w S M [cPlace b x]) :
    Calls Tryd.prog 12 #[.pointer (some ⟨b, 0, none⟩)] w fun e w' => Ret M w S w' e (.int .i64 x.clock) [cPlace b x] [] := by
  obtain ⟨y, hy, hG, hP2⟩ := hP.open1
  obtain ⟨M1, hP3, hback⟩ := hP2.part1
  exact (plClock hP3).mono fun e w' hR => (hback hR).close1 y hy hG hP.no
theorem zeros_ok {p : Nat} (h1 : 1 ≤ p) (h6 : p ≤ 6) : vecErr (List.replicate p (0 : Int)) = 0 := by
  rw [vecErr, if_neg (by simp; omega), if_neg (by simp [badT])]
theorem newP_in {id places shards : Nat} (n : Nat) (hp1 : 1 ≤ places) (hp6 : places ≤ 6) (hs1 : 1 ≤ shards) (hs6 : shards ≤ 6) (hid : id < places) : PlIn (newP id places shards) n := by
  have hs : ∀ s ∈ (newP id places shards).ss, ∃ a b : Nat, s = ⟨id, a, b, 0, 0, []⟩ := fun s hs => by
    obtain ⟨q, _, rfl⟩ := List.mem_map.1 hs
    exact ⟨_, _, rfl⟩
  have hr : ∀ s ∈ (newP id places shards).rs, ∃ a b : Nat, s = ⟨a, id, b, 0, 0, []⟩ := fun s hs => by
    obtain ⟨q, _, rfl⟩ := List.mem_map.1 hs
    exact ⟨_, _, rfl⟩
  refine ⟨⟨hp1, hp6, hs1, hs6, hid, by simp [newP], by simp [newP], zeros_ok hp1 hp6, by simp [newP], ?_, ?_, fun r h => ?_⟩, by simp [newP], ?_, by simp [newP], by simp [newP], fun s h => ?_, fun s h => ?_, fun s h => ?_, fun r h => ?_, ?_⟩
  · simp only [newP, newSs, List.map_map]
    exact (List.map_congr_left fun q _ => rfl).trans (List.map_id _)
  · simp only [newP, newRs, List.map_map]
    exact (List.map_congr_left fun q _ => rfl).trans (List.map_id _)
  · obtain ⟨a, b, rfl⟩ := hr r h
    simp
  · simp [newP, List.getD_eq_getElem?_getD, List.getElem?_replicate]
    split <;> simp
  · obtain ⟨a, b, rfl⟩ := hs s h
    simp [newP]
  · obtain ⟨a, b, rfl⟩ := hs s h
    simp
  · obtain ⟨a, b, rfl⟩ := hs s h
    simp
  · obtain ⟨a, b, rfl⟩ := hr r h
    simp [Dist]
  · have : ((newP id places shards).rs.map (·.q)).sum = 0 := by
      simp only [newP, newRs, List.map_map]
      induction pairsP id shards places with
      | nil => rfl
      | cons a l ih => simpa using ih
    rw [this]
    simp [newP]
end Go.Proofs.YtehdegekgdlifaaDoor
end
section
namespace Go.Proofs.YtehdegekgdlifaaDoor
open Go Go.Sx
abbrev opP5 : OpT := ⟨0, keyK, 2, ByteArray.mk #[], 5, false, []⟩
theorem opP5_fine : opErr opP5 ((2 : Nat) : Int) = 0 := by
  have h0 : (ByteArray.mk #[]).size = 0 := rfl
  rw [opRest (by simp) nameK (.inr (.inl rfl)) (by simp [shapeOk, h0]), if_neg (by simp only [List.length_nil, h0]; omega), if_neg (by simp [badDots])]
theorem comP5 : comP (newP 0 2 1) [0, 0] [opP5] = ⟨[1, 0], 0, [opP5]⟩ := rfl
theorem comP5_fine : (comErr (newP 0 2 1) [0, 0] [opP5]).code = 0 := by
  have h1 : knownErr (newP 0 2 1) [0, 0] = 0 := by decide
  rw [comErr, if_neg (by rw [h1]; decide), if_neg (by decide), comP5]
  exact comFault_mk (by decide) (by simp) (by simp) (by simp) (by simp) (by simp) (fun o ho => by obtain rfl := List.mem_singleton.1 ho; exact opP5_fine) (by simp)
theorem in5 : inS 1 0 opP5 = true := by
  rw [inS, shardE, if_pos nameK, shardN, Int.tmod_one]
  rfl
theorem comMs5 : comMs (newP 0 2 1) (comP (newP 0 2 1) [0, 0] [opP5]) = [⟨0, 1, 0, 1, 1, false, ⟨[1, 0], 0, [opP5]⟩⟩] := by
  have h1 : (newP 0 2 1).ss = [⟨0, 1, 0, 0, 0, []⟩] := rfl
  have h2 : partC 1 ⟨[1, 0], 0, [opP5]⟩ 0 = ⟨[1, 0], 0, [opP5]⟩ := by
    rw [partC]
    simp [in5]
  rw [comP5, comMs, h1]
  show ([msgC 1 ⟨[1, 0], 0, [opP5]⟩ ⟨0, 1, 0, 0, 0, []⟩]).flatten = _
  rw [msgC]
  simp only [h2]
  rfl
set_option maxHeartbeats 4000000 in
theorem placed {w : World} {S : Nat → Prop} {er : Nat → Addr} {eb : Nat → Array Value × TypeId} (hC : Rep w S .nilIface (dC er eb)) :
    Calls Tryd.prog 4 #[] w fun e w' => Ret [] w S w' e (.bool true) [] [] := by
  refine ep4 (args := []) (S := S) (G := [(_, dC er eb)]) (by kernel_rfl) (.cons hC (.nil _ _)) ?_
  refine J_seq ?_
  refine Za [.rd 0 [] 0 0] [] [(0, .val (.bool false))] ?_
  refine J_seq ?_
  refine jT [(0, false), (1, true), (2, true), (3, true), (4, true), (5, true)] [] ?_
  refine Yc 9 #[.int .i64 0, .int .i64 2, .int .i64 1] (some 6) fun w S hG => ?_
  refine (placeNew (id := 0) (places := 2) (shards := 1) (hG.at 0 rfl)).mono ?_
  rintro e1 w1 (⟨h, _⟩ | ⟨_, b, hR⟩)
  · exact absurd (by decide) h
  refine ⟨_, _, _, hR, ?_⟩
  rw [show newP (0 : Int).toNat (2 : Int).toNat (1 : Int).toNat = newP 0 2 1 from rfl]
  try simp only [aQ]
  refine Ya (id := 1) (rest := []) (Rds 1 6) [6] [(1, .val (.pointer (some (⟨b, 0, none⟩)))), (2, .val (.nilIface))] ?_
  refine JR_end ?_
  refine J_seq ?_
  refine J_seq ?_
  refine Za (Rds 0 6) [] [(14, .val (.bool false))] ?_
  refine J_cond_f (by kernel_rfl) (by kernel_rfl) ?_
  refine J_skip ?_
  refine J_seq ?_
  refine jT [(0, true), (1, false), (2, true), (3, false), (4, false), (5, true), (6, true), (7, true), (8, true), (9, false), (10, false), (11, true), (12, true)] [] ?_
  refine Ym (id := 4) (rest := [(4, false), (5, true), (6, true), (7, true), (8, true), (9, false), (10, false), (11, true), (12, true)]) [.rd 0 [] 0 0, .wr 1 [] 0, .rd 2 [] 0 0, .wr 3 [] 0] [14] (fun nu1 => [(16, .val (.pointer (some (⟨b, 0, none⟩)))), (17, .val (.slice (some (⟨nu1 0, 0, none⟩)) 2 2)), (19, .val (.slice (some (⟨nu1 1, 0, none⟩)) 1 1))]) (fun nu1 => [(nu1 0, .cells #[.int .i64 0, .int .i64 0] 3 (0, 0)), (nu1 1, .cells #[.int .i64 0, .string (ByteArray.mk #[107]), .int .i64 2, .string (ByteArray.mk #[]), .int .i64 5, .bool false, .slice none 0 0] 43 (0, 0))]) [] (fun nu1 => ?_)
  refine JR_data (size := 1) 0 eI [(0 : Int), 0] 2 rfl (by kernel_rfl) (by decide) (by intro x _; rfl) (by simp) ⟨.inl ⟨rfl, rfl⟩, ⟨.inl ⟨rfl, rfl⟩, trivial⟩⟩ ?_
  refine JR_data (size := 7) 0 eOp [opP5] 1 rfl (by kernel_rfl) (by decide) (by intro x _; rfl) (by simp) ⟨.inl ⟨rfl, rfl⟩, ⟨.inl ⟨rfl, rfl⟩, ⟨.inl ⟨rfl, rfl⟩, ⟨.inl ⟨rfl, rfl⟩, ⟨.inl ⟨rfl, rfl⟩, ⟨.inl ⟨rfl, rfl⟩, ⟨.inr (.inr ⟨_, _, _, rfl, rfl⟩), trivial⟩⟩⟩⟩⟩⟩⟩ ?_
  refine JR_call [] [0] 10 #[.pointer (some (⟨b, 0, none⟩)), .slice (some (⟨nu1 0, 0, none⟩)) 2 2, .slice (some (⟨nu1 1, 0, none⟩)) 1 1] (some 20) (by kernel_rfl) (by kernel_rfl) (by decide) (fun w S M hP hG _ => ?_)
  refine (placeCommit (n := 0) (at' := [0, 0]) (ops := [opP5]) (hG.at 0 rfl) hP (newP_in 0 (by decide) (by decide) (by decide) (by decide) (by decide)) (by decide) (hG.at 1 rfl) (hG.at 2 rfl) (by simp) (by simp) (by simp)).mono ?_
  rintro e2 w2 (⟨h, _⟩ | ⟨_, u1, m1, d1, u2, m2, d2, u3, m3, d3, hR⟩)
  · exact absurd comP5_fine h
  refine ⟨_, _, _, hR, ?_⟩
  rw [comMs5]
  try simp only [aQ]
  refine Ym (id := 4) (rest := []) (Rds 5 9 ++ [.wr 9 [] 0, .wr 10 [.o 0 none, .o 0 none, .o 0 none] 0, .rd 11 [] 0 0, .rd 12 [] 0 0]) [20, 16, 17, 19] (fun nu2 => [(3, .val (.pointer (some (⟨nu2 0, 0, none⟩)))), (4, .val (.slice u3 m3 d3))]) (fun nu2 => [(nu2 0, .cells #[.slice u1 m1 d1, .int .i64 0, .slice u2 m2 d2] 37 (0, 0))]) [] (fun nu2 => ?_)
  try simp only [aQ]
  refine JR_end ?_
  try simp only [aQ]
  refine J_seq ?_
  try simp only [aQ]
  refine J_stpx (stp_replen 5 rfl) fun _ hm => ?_
  obtain rfl : m3 = 1 := hm
  have hmm : ([⟨0, 1, 0, 1, 1, false, ⟨[1, 0], 0, [opP5]⟩⟩] : List MsgT)[(0 : Int).toNat]? = some ⟨0, 1, 0, 1, 1, false, ⟨[1, 0], 0, [opP5]⟩⟩ := rfl
  refine J_read2 5 rfl (Int.toNat 0) (map_at hmm) (by kernel_rfl) (fun b1 off1 cs1 ty1 fz1 a1_0 c1_0 a1_1 c1_1 ha1 hrd1 => ?_)
  cases ha1
  have hrd1_0 := rd0 (hrd1 0 _ rfl)
  have hrd1_1 := hrd1 1 _ rfl
  have hrd1_2 := hrd1 2 _ rfl
  have hrd1_3 := hrd1 3 _ rfl
  have hrd1_4 := hrd1 4 _ rfl
  have hrd1_5 := hrd1 5 _ rfl
  have hrd1_6 := hrd1 6 _ rfl
  have hrd1_7 := hrd1 7 _ rfl
  have hrd1_8 := hrd1 8 _ rfl
  simp only [Int.toNat_zero, Nat.zero_mul, Nat.add_zero] at hrd1_1
  try simp only [aQ]
  refine jT [(0, true), (1, true), (2, true), (3, true), (4, true), (5, true), (6, true), (7, true), (8, true), (9, true), (10, true), (11, true), (12, true), (13, true), (14, true), (15, true), (16, true), (17, false), (18, false), (19, true), (20, true), (21, true), (22, false), (23, true), (24, true), (25, true)] [] ?_
  refine Yn (id := 5) (rest := [(18, false), (19, true), (20, true), (21, true), (22, false), (23, true), (24, true), (25, true)]) (Rds 0 11 ++ [.rd 11 [.r 0 (some (.int .i64 1))] 0 0] ++ Rds 12 16 ++ [.rd 16 [.o 0 none] 0 0, .wr 17 [] 0]) [3, 4, 2] (fun nu3 => [(38, .val (.bool true)), (40, .val (.slice u1 m1 d1)), (41, .val (.slice (some (⟨nu3 0, 0, none⟩)) 2 2))]) (fun nu3 => [(nu2 0, .cells #[.slice u1 m1 d1, .int .i64 0, .slice u2 m2 d2] 37 (0, 0)), (nu3 0, .cells #[.int .i64 1, .int .i64 0] 3 (0, 0))]) [] (fun nu3 => [cs1[off1 + (1 : Nat)]? = some (Value.int IntKind.i64 (1 : Int))]) (fun _ => ⟨hrd1_1, trivial⟩) (fun nu3 => ?_)
  refine JR_data (size := 1) 1 eI [(1 : Int), 0] 2 rfl (by kernel_rfl) (by decide) (by intro x _; rfl) (by simp) ⟨.inl ⟨rfl, rfl⟩, ⟨.inl ⟨rfl, rfl⟩, trivial⟩⟩ ?_
  refine Yc 11 #[.slice u1 m1 d1, .slice (some (⟨nu3 0, 0, none⟩)) 2 2] (some 42) fun w S hG => ?_
  refine (sameInts (xs := [1, 0]) (ys := [1, 0]) (hG.at 3 rfl) (hG.at 8 rfl) (by simp)).mono ?_
  rintro e3 w3 hR
  refine ⟨_, _, _, hR, ?_⟩
  try simp only [aQ]
  refine Ya (id := 5) (rest := [(22, false), (23, true), (24, true), (25, true)]) (Rds 19 22) [42, 38, 40, 41, 1] [(44, .val (.bool true)), (45, .val (.pointer (some (⟨b, 0, none⟩))))] ?_
  try simp only [aQ]
  refine JR_call [] [0] 12 #[.pointer (some (⟨b, 0, none⟩))] (some 46) (by kernel_rfl) (by kernel_rfl) (by decide) (fun w S M hP hG _ => ?_)
  refine (placeClock hP).mono ?_
  rintro e4 w4 hR
  rw [show (comPl (newP 0 2 1) (comP (newP 0 2 1) [0, 0] [opP5])).clock = 1 from rfl] at hR
  refine ⟨_, _, _, hR, ?_⟩
  try simp only [aQ]
  refine Ya (id := 5) (rest := []) (Rds 23 26) [46, 44, 45] [(0, .val (.bool true))] ?_
  try simp only [aQ]
  refine JR_end ?_
  try simp only [aQ]
  refine Yr [[]] (.bool true) fun a w s => ?_
  exact s.ret (by simp) [] [] rfl rfl
end Go.Proofs.YtehdegekgdlifaaDoor
end
section
namespace Go.Proofs.YtehdegekgdlifaaDoor
open Go Go.Sx
set_option maxHeartbeats 4000000 in
theorem placeShards {w : World} {S : Nat → Prop} {er : Nat → Addr} {eb : Nat → Array Value × TypeId} {key : ByteArray} {n : Int} (hC : Rep w S .nilIface (dC er eb)) (hI : Inj er) :
    Calls Tryd.prog 3 #[.string key, .int .i64 n] w fun e w' => Ret [] w S w' e (.bool true) [] [] := by
  refine ep3 (args := [.string key, .int .i64 n]) (S := S) (G := [(_, dC er eb)]) (by kernel_rfl) (.cons hC (.nil _ _)) ?_
  refine J_seq ?_
  refine Za [.rd 0 [] 0 0] [] [(4, .val (.bool false))] ?_
  refine J_seq ?_
  refine jT [(0, false), (1, true)] [] ?_
  refine Yc 4 #[] (some 9) fun w S hG => ?_
  refine (placed (hG.at 0 rfl)).mono ?_
  rintro e1 w1 hR
  refine ⟨_, _, _, hR, ?_⟩
  try simp only [aQ]
  refine Ya (id := 1) (rest := []) [.rd 1 [] 0 0] [9] [(5, .val (.bool true))] ?_
  refine JR_end ?_
  refine J_seq ?_
  refine J_seq ?_
  refine Za (Rds 0 7) [] [(16, .val (.bool (decide ((↑key.size : Int) > 200))))] ?_
  refine J_cond (t := decide ((↑key.size : Int) > 200)) (by kernel_rfl) (by kernel_rfl) (fun hb => ?_) (fun hb => ?_)
  · refine J_seq ?_
    refine Za [.rd 0 [] 0 0, .rd 1 [] 0 0] [16, 5] [(4, .val (.bool true))] ?_
    refine Yr [[]] (.bool true) fun a w s => ?_
    exact s.ret (by simp) [] [] rfl rfl
  have hk : key.size ≤ 200 := by simp at hb; omega
  refine J_skip ?_
  refine J_seq ?_
  refine jT [(0, true), (1, true), (2, false), (3, true), (4, true), (5, true), (6, true), (7, true)] [] ?_
  refine Ya (id := 4) (rest := [(2, false), (3, true), (4, true), (5, true), (6, true), (7, true)]) [.rd 0 [] 0 0, .rd 1 [] 0 0] [16, 5] [(19, .val (.string key)), (20, .val (.int .i64 n))] ?_
  refine Yc 5 #[.string key, .int .i64 n] (some 21) fun w S hG => ?_
  refine (shardW (hG.at 0 rfl)).mono ?_
  rintro e2 w2 (⟨hn, hR⟩ | ⟨hn, hb2, hR⟩ | ⟨hn, ⟨h1, h6⟩, hR⟩)
  · refine ⟨_, _, _, hR, ?_⟩
    try simp only [aQ]
    refine Ya (id := 4) (rest := []) (Rds 3 8) [21, 19, 20] [(6, .val (.int .i64 0)), (7, .val (.iface 156 (.pointer (some (er 4)))))] ?_
    refine JR_end ?_
    refine J_seq ?_
    refine jT [(0, true), (1, false), (2, true)] [] ?_
    refine Ya (id := 5) (rest := [(1, false), (2, true)]) [.rd 0 [] 0 0] [] [(24, .val (.string key))] ?_
    refine Yc 6 #[.string key] (some 25) fun w S hG => ?_
    refine (isName (S := S)).mono ?_
    rintro e3 w3 hR
    refine ⟨_, _, _, hR, ?_⟩
    rw [hn]
    try simp only [aQ]
    refine Ya (id := 5) (rest := []) [.rd 2 [] 0 0] [25, 24] [(8, .val (.bool false))] ?_
    refine JR_end ?_
    refine J_seq ?_
    refine J_seq ?_
    refine Za [.rd 0 [] 0 0, .rd 1 [] 0 0] [8] [(27, .val (.bool true))] ?_
    refine J_cond_t (by kernel_rfl) (by kernel_rfl) ?_
    refine J_seq ?_
    refine jT [(0, true), (1, false), (2, true), (3, true), (4, true), (5, true), (6, true)] [] ?_
    refine Ya (id := 7) (rest := [(1, false), (2, true), (3, true), (4, true), (5, true), (6, true)]) [.rd 0 [] 0 0] [27] [(28, .val (.iface 156 (.pointer (some (er 4)))))] ?_
    refine Yc 7 #[.iface 156 (.pointer (some (er 4))), .int .i64 4] (some 29) fun w S hG => ?_
    refine (codedErr (k := 4) (c := 4) (hG.at 0 rfl) hI (by decide) (.inr ⟨by decide, rfl⟩)).mono ?_
    rintro e4 w4 hR
    refine ⟨_, _, _, hR, ?_⟩
    try simp only [aQ]
    refine Ya (id := 7) (rest := []) (Rds 2 7) [29, 28] [(4, .val (.bool true))] ?_
    refine JR_end ?_
    refine Yr [[]] (.bool true) fun a w s => ?_
    exact s.ret (by simp) [] [] rfl rfl
  · refine ⟨_, _, _, hR, ?_⟩
    try simp only [aQ]
    refine Ya (id := 4) (rest := []) (Rds 3 8) [21, 19, 20] [(6, .val (.int .i64 0)), (7, .val (.iface 156 (.pointer (some (er 2)))))] ?_
    refine JR_end ?_
    refine J_seq ?_
    refine jT [(0, true), (1, false), (2, true)] [] ?_
    refine Ya (id := 5) (rest := [(1, false), (2, true)]) [.rd 0 [] 0 0] [] [(24, .val (.string key))] ?_
    refine Yc 6 #[.string key] (some 25) fun w S hG => ?_
    refine (isName (S := S)).mono ?_
    rintro e3 w3 hR
    refine ⟨_, _, _, hR, ?_⟩
    rw [hn]
    try simp only [aQ]
    refine Ya (id := 5) (rest := []) [.rd 2 [] 0 0] [25, 24] [(8, .val (.bool true))] ?_
    refine JR_end ?_
    refine J_seq ?_
    refine J_seq ?_
    refine Za [.rd 0 [] 0 0, .rd 1 [] 0 0] [8] [(27, .val (.bool false))] ?_
    refine J_cond_f (by kernel_rfl) (by kernel_rfl) ?_
    refine J_skip ?_
    refine J_seq ?_
    refine J_seq ?_
    refine Za (Rds 0 3 ++ [.rd 3 [] 2 0, .rd 4 [] 2 0, .rd 5 [] 0 3]) [27] [(39, .val (.bool (decide (n < 1) || decide (n > 6))))] ?_
    refine J_condT (decide (n < 1) || decide (n > 6)) (by kernel_rfl) (by kernel_rfl) (by simpa using ‹_›) ?_
    refine J_seq ?_
    refine jT [(0, true), (1, false), (2, true), (3, true), (4, true), (5, true), (6, true)] [] ?_
    refine Ya (id := 9) (rest := [(1, false), (2, true), (3, true), (4, true), (5, true), (6, true)]) [.rd 0 [] 0 0] [39] [(40, .val (.iface 156 (.pointer (some (er 2)))))] ?_
    refine Yc 7 #[.iface 156 (.pointer (some (er 2))), .int .i64 2] (some 41) fun w S hG => ?_
    refine (codedErr (k := 2) (c := 2) (hG.at 0 rfl) hI (by decide) (.inr ⟨by decide, rfl⟩)).mono ?_
    rintro e4 w4 hR
    refine ⟨_, _, _, hR, ?_⟩
    try simp only [aQ]
    refine Ya (id := 9) (rest := []) (Rds 2 7) [41, 40] [(4, .val (.bool true))] ?_
    refine JR_end ?_
    refine Yr [[]] (.bool true) fun a w s => ?_
    exact s.ret (by simp) [] [] rfl rfl
  · refine ⟨_, _, _, hR, ?_⟩
    try simp only [aQ]
    refine Ya (id := 4) (rest := []) (Rds 3 8) [21, 19, 20] [(6, .val (.int .i64 (shardN key n))), (7, .val (.nilIface))] ?_
    refine JR_end ?_
    refine J_seq ?_
    refine jT [(0, true), (1, false), (2, true)] [] ?_
    refine Ya (id := 5) (rest := [(1, false), (2, true)]) [.rd 0 [] 0 0] [] [(24, .val (.string key))] ?_
    refine Yc 6 #[.string key] (some 25) fun w S hG => ?_
    refine (isName (S := S)).mono ?_
    rintro e3 w3 hR
    refine ⟨_, _, _, hR, ?_⟩
    rw [hn]
    try simp only [aQ]
    refine Ya (id := 5) (rest := []) [.rd 2 [] 0 0] [25, 24] [(8, .val (.bool true))] ?_
    refine JR_end ?_
    refine J_seq ?_
    refine J_seq ?_
    refine Za [.rd 0 [] 0 0, .rd 1 [] 0 0] [8] [(27, .val (.bool false))] ?_
    refine J_cond_f (by kernel_rfl) (by kernel_rfl) ?_
    refine J_skip ?_
    refine J_seq ?_
    refine J_seq ?_
    refine Za (Rds 0 3 ++ [.rd 3 [] 2 0, .rd 4 [] 2 0, .rd 5 [] 0 3]) [27] [(39, .val (.bool (decide (n < 1) || decide (n > 6))))] ?_
    refine J_condF (decide (n < 1) || decide (n > 6)) (by kernel_rfl) (by kernel_rfl) (by simp; omega) ?_
    refine J_skip ?_
    refine J_seq ?_
    refine jT [(0, true), (1, true), (2, true), (3, true), (4, true), (5, true), (6, false), (7, true), (8, true), (9, true)] [] ?_
    refine Ya (id := 10) (rest := [(6, false), (7, true), (8, true), (9, true)]) (Rds 0 6) [39, 6, 7, 0, 1] [(48, .val (.bool true)), (49, .val (.int .i64 (shardN key n))), (50, .val (.string key)), (51, .val (.int .i64 n))] ?_
    refine Yc 8 #[.string key, .int .i64 n] (some 52) fun w S hG => ?_
    refine (shardOf (S := S) (by omega) h1 h6).mono ?_
    rintro e4 w4 hR
    refine ⟨_, _, _, hR, ?_⟩
    try simp only [aQ]
    refine Yp (id := 10) (rest := []) [.rd 7 [] 0 6, .rd 8 [] 0 0, .rd 9 [] 0 0] [52, 48, 49, 50, 51] [(4, .val (.bool true))] [(shardN key n == shardN key n) = true] ⟨by simp, trivial⟩ ?_
    refine JR_end ?_
    refine Yr [[]] (.bool true) fun a w s => ?_
    exact s.ret (by simp) [] [] rfl rfl
end Go.Proofs.YtehdegekgdlifaaDoor
end
section
namespace Go.Sx
open Go Go.RowKit Go.ChangeShapes Go.WideShapes
theorem Fr.below {w w' : World} (h : Fr [] w w') : Below w.heap.size w w' := ⟨h.os, h.tape, h.output, h.size, fun b hb => h.block b hb (by simp)⟩
theorem cell_blk {w : World} {a : Addr} {v : Value} (h : w.cell? a = some v) : ∃ cs ty fz, w.heap[a.block]? = some (.cells cs ty fz) ∧ a.spot = none ∧ cs[a.off]? = some v := by
  unfold World.cell? at h
  split at h
  · rename_i cs ty fz hb
    split at h
    · cases h
    · rename_i hs
      exact ⟨cs, ty, fz, hb, by simpa using hs, h⟩
  · cases h
section
variable {H : Type} {enc : TypeId × Value → H} {P : Program}
theorem rep_var {W : World} {n : String} {g : Nat} {x : Value} (hg : P.globalNamed n = some g) (h : W.var? P n = some #[x]) (hx : x.oneCell' = true) : Rep W (fun _ => True) (.pointer (some ⟨g, 0, none⟩)) (.ptr [.v x]) := by
  unfold World.var? at h
  simp only [hg, Option.bind_some] at h
  split at h
  · rename_i cs ty fz hb
    cases h
    refine .ptr (fun _ => x) hb trivial (fun j hj => ?_) (fun j d hj => ?_)
    · obtain rfl : j = 0 := by simpa using hj
      rfl
    · match j, hj with
      | 0, hj =>
        simp only [List.getElem?_cons_zero, Option.some.injEq] at hj
        subst hj
        exact .v hx
      | j + 1, hj => simp at hj
  · cases h
theorem sents {W : World} {ti tp te ts : TypeId} {ms : Array (String × TypeId)} {nm : String} {f : Field} (hi : P.underlying ti = some (.interface ms)) (hrow : ∀ u, P.typeName? 3 u = some nm → u = tp)
    (hp : P.underlying tp = some (.pointer te)) (he : P.underlying te = some (.struct #[f])) (hft : f.type = ts) (hfo : f.offset = 0) (hs : P.underlying ts = some .string) (hc : P.cellsOf te = 1) (hcs : P.cellsOf ts = 1) :
    ∀ (ns : List (String × List UInt8)) (ps : List MemPlace), DataW.LaidVars P W (ns.map fun x => (x.1, DataW.iface nm (.ptr (.agg [.lit (.string x.2)])))) ps →
      ns.all (fun x => match P.globalNamed x.1 with
        | some g => (P.globals[g]?).map (·.type) == some ti
        | none => false) = true →
      (∀ b off, MemPlace.cell b off ∈ ps → ∀ u v, W.cell? ⟨b, off, none⟩ = some (.iface u v) → Value.okWide P W .any 0 u v) →
      ∃ adz : List Addr, adz.length = ns.length ∧ (∀ (i : Nat) x a, ns[i]? = some x → adz[i]? = some a → W.var? P x.1 = some #[.iface tp (.pointer (some a))] ∧ a.spot = none) ∧ (adz.map fun a => MemPlace.cell a.block a.off).Sublist ps
  | [], ps, _, _, _ => ⟨[], rfl, by simp, by simp⟩
  | (n, text) :: ns, ps, h, hg, hr => by
    rw [List.map_cons] at h
    obtain ⟨g0, t0, cs0, f0, p0, q0, hg0, ht0, hv0, hd0, hq, e0⟩ := h
    rw [List.all_cons, Bool.and_eq_true] at hg
    obtain ⟨hg1, hg2⟩ := hg
    simp only [hg0, ht0, beq_iff_eq, Option.some.injEq] at hg1
    subst hg1 e0
    obtain ⟨l0⟩ := cs0
    have ok0 : ∀ u v, l0 = [.iface u v] → Value.okWide P W .any 0 u v := fun u v e => by
      subst e
      exact hr g0 0 (by simp [MemPlace.row]) u v (by simpa using World.var?_cell hg0 hv0 0)
    obtain ⟨a0, s0, rfl, hc0, hs0, hz0, rfl⟩ := errorString_of_trod hi hrow hp he hft hfo hs hc hcs hd0 ok0
    obtain ⟨adz, h1, h2, h3⟩ := sents hi hrow hp he hft hfo hs hc hcs ns q0 hq hg2 fun b off hm => hr b off (List.mem_append_right _ hm)
    obtain ⟨_, _, _, _, hspot, _⟩ := cell_blk hc0
    refine ⟨a0 :: adz, by simp [h1], fun i x a hx ha => ?_, ?_⟩
    · cases i with
      | zero =>
        simp only [List.getElem?_cons_zero, Option.some.injEq] at hx ha
        subst hx ha
        exact ⟨hv0, hspot⟩
      | succ i =>
        simp only [List.getElem?_cons_succ] at hx ha
        exact h2 i x a hx ha
    · rw [List.map_cons, List.append_assoc]
      refine (List.Sublist.cons_cons _ h3).trans (?_ : List.Sublist _ (MemPlace.row a0 1 ++ q0)) |>.trans (List.sublist_append_right _ _)
      simp [MemPlace.row]
theorem errs_of {W : World} {ti tp te ts : TypeId} {ms : Array (String × TypeId)} {nm : String} {f : Field} (hi : P.underlying ti = some (.interface ms)) (hrow : ∀ u, P.typeName? 3 u = some nm → u = tp)
    (hp : P.underlying tp = some (.pointer te)) (he : P.underlying te = some (.struct #[f])) (hft : f.type = ts) (hfo : f.offset = 0) (hs : P.underlying ts = some .string) (hc : P.cellsOf te = 1) (hcs : P.cellsOf ts = 1)
    (ns : List (String × List UInt8)) (h : laidMet P (ns.map fun x => (x.1, DataW.iface nm (.ptr (.agg [.lit (.string x.2)])))) W)
    (hg : ns.all (fun x => match P.globalNamed x.1 with
        | some g => (P.globals[g]?).map (·.type) == some ti
        | none => false) = true) :
    ∃ (er : Nat → Addr) (eb : Nat → Array Value × TypeId), (∀ (i : Nat) x, ns[i]? = some x → W.var? P x.1 = some #[.iface tp (.pointer (some (er (i + 1))))] ∧ W.heap[(er (i + 1)).block]? = some (.cells (eb (i + 1)).1 (eb (i + 1)).2 (0, 0))) ∧
      ∀ i j, 1 ≤ i → i ≤ ns.length → 1 ≤ j → j ≤ ns.length → er i = er j → i = j := by
  obtain ⟨ps, hv, hnd, hrows⟩ := h
  obtain ⟨adz, h1, h2, h3⟩ := sents hi hrow hp he hft hfo hs hc hcs ns ps hv hg fun b off hm => (hrows b off hm).2
  have hnd2 := h3.nodup hnd
  have key : ∀ i : Nat, i < ns.length → ∃ a, adz[i]? = some a := fun i hi => ⟨_, List.getElem?_eq_getElem (by omega)⟩
  have hcell : ∀ (i : Nat) a, adz[i]? = some a → ∃ c : Array Value × TypeId, W.heap[a.block]? = some (.cells c.1 c.2 (0, 0)) := fun i a ha => by
    obtain ⟨c, t, hct⟩ := (hrows a.block a.off (h3.subset (List.mem_map.2 ⟨a, List.mem_of_getElem? ha, rfl⟩))).1
    exact ⟨(c, t), hct⟩
  classical
  refine ⟨fun k => adz.getD (k - 1) ⟨0, 0, none⟩, fun k => if hx : ∃ c : Array Value × TypeId, W.heap[(adz.getD (k - 1) ⟨0, 0, none⟩).block]? = some (.cells c.1 c.2 (0, 0)) then hx.choose else (#[], 0), fun i x hx => ?_, fun i j hi1 hi2 hj1 hj2 he => ?_⟩
  · obtain ⟨a, ha⟩ := key i (List.getElem?_eq_some_iff.1 hx).1
    have e : adz.getD (i + 1 - 1) ⟨0, 0, none⟩ = a := by simp [List.getD_eq_getElem?_getD, ha]
    have hh := hcell i a ha
    simp only [e]
    refine ⟨(h2 i x a hx ha).1, ?_⟩
    rw [dif_pos hh]
    exact hh.choose_spec
  · obtain ⟨a, ha⟩ := key (i - 1) (by omega)
    obtain ⟨b, hb⟩ := key (j - 1) (by omega)
    simp only [List.getD_eq_getElem?_getD, ha, hb, Option.getD_some] at he
    subst he
    have e1 : (adz.map fun a => MemPlace.cell a.block a.off)[i - 1]? = some (.cell a.block a.off) := by simp [ha]
    have e2 : (adz.map fun a => MemPlace.cell a.block a.off)[j - 1]? = some (.cell a.block a.off) := by simp [hb]
    have := (List.getElem?_inj (List.getElem?_eq_some_iff.1 e1).1 hnd2).1 (e1.trans e2.symm)
    omega
theorem trodAll_again (hl : laidOutB P = true) {W W' : World} {sp : Nat → Bool} (hb : Below W.heap.size W W') : ∀ {ts : List TypeId} {vs : List Value} {ds : List (DataW H)} {ps : List MemPlace},
    (∀ t ∈ ts, P.readableRec t = true ∧ t < P.types.size) → DataW.TrodAll enc P W 0 (fun _ => true) true ts vs ds ps → (∀ x ∈ ps, x.block < W.heap.size) → (∀ x ∈ ps, sp x.block = true) → DataW.TrodAll enc P W' 0 sp true ts vs ds ps
  | [], vs, ds, ps, _, h, _, _ => by
    obtain ⟨rfl, rfl, rfl⟩ := trodAll_nil h
    exact trodAll_mk0
  | t :: ts, vs, ds, ps, ht, h, hlt, hsp => by
    obtain ⟨v, vs', d, ds', p, q, rfl, rfl, rfl, h0, h1⟩ := trodAll_cons h
    obtain ⟨hr, hrow⟩ := ht t (List.mem_cons_self ..)
    refine trodAll_cons_mk (WideElems.Trod_stays hl hr hrow h0 (fun x hx => hb.same (hlt x (List.mem_append_left _ hx))) fun x hx => hsp x (List.mem_append_left _ hx)) ?_
    exact trodAll_again hl hb (fun t ht' => ht t (List.mem_cons_of_mem _ ht')) h1 (fun x hx => hlt x (List.mem_append_right _ hx)) fun x hx => hsp x (List.mem_append_right _ hx)
theorem law_post {f : Func} {s : ChangeSpec} {apart fresh handsOn again : Bool} {W W' : World} {args : Array Value} {ds gs : List (DataW H)} {before : List MemPlace} {tb : TypeId}
    (hl : laidOutB P = true) (hts : f.params.toList.all (fun t => P.readableRec t && Nat.blt t P.types.size) = true) (hb4 : P.underlying tb = some .bool) (hrt : f.resultTypes = #[tb]) (hvs : s.vars = [])
    (hW : DataW.Whole enc P f.params.toList s.vars apart W args.toList ds gs before) (hfn : ∀ gs, gs = [] → s.fn H (ds ++ gs) = { results := [.lit (.bool true)], args := ds })
    (hb : Below W.heap.size W W') : s.post enc P f apart fresh handsOn again W args (.bool true) W' := by
  have hlt : ∀ x ∈ before, x.block < W.heap.size := fun x hx => hW.lt x hx
  have hold : ∀ x ∈ before, (fun b => decide (b < W.heap.size)) x.block = true := fun x hx => by simpa using hlt x hx
  have hW' := hW
  obtain ⟨p, q, hA, hV, hpq, hz, hn⟩ := hW'
  rw [hvs] at hV
  obtain ⟨rfl, rfl⟩ := trodVars_none hV
  rw [List.append_nil] at hpq
  subst hpq
  have hfn := hfn [] rfl
  have htt : ∀ t ∈ f.params.toList, P.readableRec t = true ∧ t < P.types.size := fun t ht => by
    have := List.all_eq_true.1 hts t ht
    simp only [Bool.and_eq_true] at this
    exact ⟨this.1, Nat.lt_of_succ_le (Nat.le_of_ble_eq_true this.2)⟩
  have hres : ∀ (b : Nat) (sp : Nat → Bool) (hd : Bool), DataW.TrodAll enc P W' b sp hd f.resultTypes.toList ((Value.bool true).resultList f.resultTypes.size) (s.fn H (ds ++ [])).results [] := fun b sp hd => by
    rw [hfn, hrt]
    exact trodAll_mk1 ⟨1, by simp [DataW.trod, Value.cells, hb4]⟩
  have hargs : ∀ sp : Nat → Bool, (∀ x ∈ before, sp x.block = true) → DataW.TrodAll enc P W' 0 sp true f.params.toList args.toList (s.fn H (ds ++ [])).args before := fun sp hsp => by
    rw [hfn]
    exact trodAll_again hl hb htt hA hlt hsp
  have hvars : ∀ sp : Nat → Bool, DataW.TrodVars enc P W' sp s.vars (s.fn H (ds ++ [])).vars [] := fun sp => by
    rw [hvs, hfn]
    rfl
  refine ⟨ds, [], before, [], before, [], hW, hres _ _ _, hargs _ hold, hvars _, World.keptBut_mono (fun x hx => ⟨hx, .inr (.inl hx)⟩) (hb.frame (· ∈ before)), fun _ => ?_⟩
  refine ⟨?_, _, _, ([] ++ before) ++ [], ⟨[] ++ before, [], trodAll_append (hargs _ (fun _ _ => rfl)) (hres _ _ _), hvars _, rfl, ?_, ?_⟩, ?_⟩
  · intro j t r hj hv
    rw [hrt] at hj hv
    match j, hj, hv with
    | 0, hj, hv =>
      simp [Value.resultList] at hj hv
      subst hj; subst hv
      simp [Value.okWide, hb4, Cell.okWide, Cell.ok]
    | j + 1, hj, hv => simp at hj
  · intro b off hp
    have hin : MemPlace.cell b off ∈ before := by simpa using hp
    rw [hb.frozen (hlt _ hin)]
    exact hz b off hin
  · intro ha
    simpa using hn ha
  · intro x hx _
    simpa using hx
end
end Go.Sx
end
