/- Part 9 of the texts of a claim: PlR PlK PlN Crc WireP CrcP Shard. -/
import Derived.Test.YtehdegekgdlifaaDoorTa8
section
namespace Go.Sx
open Go
def snapT (x : PlT) (k : Nat) : Int := if k = x.id then x.clock else minT ((x.rs.filter fun r => decide (r.fm.toNat = k)).map (·.t))
def snapL (x : PlT) : List Int := (List.range x.places).map (snapT x)
def timesOk (rs : List RcvT) : Prop := ∀ x ∈ rs, 0 ≤ x.t ∧ x.t ≤ 1099511627776
structure MinS where
  i : Int
  j : Nat
  b : Nat
end Go.Sx
namespace Go.Proofs.YtehdegekgdlifaaDoor
open Go Go.Sx
set_option maxHeartbeats 4000000 in
theorem rTimeIn {w : World} {S : Nat → Prop} {M : List Nat} {bs : List Nat} {rs : List RcvT} {p b : Nat} {x : RcvT} (hP : Pre w S M [cRcvs bs rs]) (hb : bs[p]? = some b) (hx : rs[p]? = some x) :
    Calls Tryd.prog 55 #[.pointer (some ⟨b, 0, none⟩)] w fun e w' => Ret M w S w' e (.int .i64 x.t) [cRcvs bs rs] [] := by
  refine en55 (args := [.pointer (some ⟨b, 0, none⟩)]) (S := S) (C := [cRcvs bs rs]) (G := []) (by kernel_rfl) hP (.nil _ _) ?_
  refine J_stp (stp_take 0 p rfl (zip_map_at hb hx)) ?_
  refine J_stpx (stp_openbox 0 rfl) fun mb _ => ?_
  refine J_show 1 rfl ?_
  try simp only [aQ]
  refine J_seq ?_
  refine Za [.rd 0 [] 0 0] [] [(2, .val (.int .i64 0))] ?_
  refine J_seq ?_
  refine Za (Rds 0 3 ++ [.rd 3 [.o 0 none] 0 0, .rd 4 [] 0 0]) [0] [(2, .val (.int .i64 x.t))] ?_
  refine Yr [[]] (.int .i64 x.t) fun a w s => ?_
  have s2 := (s.hide 0 rfl).stp (stp_closeRcv (y := (b, x)) (mb := mb) [2, 1] rfl)
  have s3 := s2.stp (stp_join 1 0 p rfl rfl (by decide) (zip_map_at hb hx) rfl)
  exact s3.ret (by simp) [0] [] rfl rfl
set_option maxHeartbeats 4000000 in
theorem snapLess {w : World} {S : Nat → Prop} {M : List Nat} {bs : List Nat} {rs : List RcvT} {p b p2 b2 : Nat} {x x2 : RcvT} (hP : Pre w S M [cRcvs bs rs]) (hb : bs[p]? = some b) (hx : rs[p]? = some x) (hb2 : bs[p2]? = some b2) (hx2 : rs[p2]? = some x2) (ht : timesOk rs) :
    Calls Tryd.prog 54 #[.pointer (some ⟨b, 0, none⟩), .pointer (some ⟨b2, 0, none⟩)] w fun e w' => Ret M w S w' e (.int .i64 (x.t - x2.t)) [cRcvs bs rs] [] := by
  have h1 := ht x (List.mem_of_getElem? hx)
  have h2 := ht x2 (List.mem_of_getElem? hx2)
  refine en54 (args := [.pointer (some ⟨b, 0, none⟩), .pointer (some ⟨b2, 0, none⟩)]) (S := S) (C := [cRcvs bs rs]) (G := []) (by kernel_rfl) hP (.nil _ _) ?_
  refine J_seq ?_
  refine Za [.rd 0 [] 0 0] [] [(4, .val (.int .i64 0))] ?_
  refine J_seq ?_
  refine jT [(0, true), (1, false), (2, true), (3, false), (4, true), (5, true)] [] ?_
  refine Ya (id := 1) (rest := [(1, false), (2, true), (3, false), (4, true), (5, true)]) [.rd 0 [] 0 0] [0] [(5, .val (.pointer (some (⟨b, 0, none⟩))))] ?_
  refine JR_call [] [0] 55 #[.pointer (some (⟨b, 0, none⟩))] (some 6) (by kernel_rfl) (by kernel_rfl) (by decide) (fun w S M hP hG _ => ?_)
  refine (rTimeIn hP hb hx).mono ?_
  rintro e1 w1 hR
  refine ⟨_, _, _, hR, ?_⟩
  try simp only [aQ]
  refine Ya (id := 1) (rest := [(3, false), (4, true), (5, true)]) [.rd 2 [] 0 0] [5, 1] [(7, .val (.pointer (some (⟨b2, 0, none⟩))))] ?_
  try simp only [aQ]
  refine JR_call [] [0] 55 #[.pointer (some (⟨b2, 0, none⟩))] (some 8) (by kernel_rfl) (by kernel_rfl) (by decide) (fun w S M hP hG _ => ?_)
  refine (rTimeIn hP hb2 hx2).mono ?_
  rintro e2 w2 hR
  refine ⟨_, _, _, hR, ?_⟩
  try simp only [aQ]
  refine Yp (id := 1) (rest := []) [.rd 4 [] 0 1, .rd 5 [] 0 0] [8, 7, 6] [(4, .val (.int .i64 (x.t - x2.t)))] [IntKind.i64.wrap (x.t - x2.t) = x.t - x2.t] ⟨wrap_i64 (by omega) (by omega), trivial⟩ ?_
  try simp only [aQ]
  refine JR_end ?_
  try simp only [aQ]
  refine Yr [[]] (.int .i64 (x.t - x2.t)) fun a w s => ?_
  exact s.ret (by simp) [0] [] rfl rfl
theorem take_times {rs : List RcvT} {p0 j : Nat} {x : RcvT} (hx : rs[p0 + j]? = some x) : ((rs.drop p0).take (j + 1)).map (·.t) = ((rs.drop p0).take j).map (·.t) ++ [x.t] := by
  have h : (rs.drop p0)[j]? = some x := by rw [List.getElem?_drop]; exact hx
  rw [List.take_add_one, h, List.map_append]
  rfl
set_option maxHeartbeats 4000000 in
theorem minRcv {w : World} {S : Nat → Prop} {M : List Nat} {bs r : List Nat} {rs : List RcvT} {p0 n c : Nat} {a : Option Addr} (hP : Pre w S M [cRcvs bs rs]) (hr : Rep w S (.slice a n c) (dPtrs r)) (hne : r ≠ []) (hat : ∀ i b, r[i]? = some b → bs[p0 + i]? = some b) (hl : bs.length = rs.length) (ht : timesOk rs) (hlen : r.length ≤ 1000000) :
    Calls Tryd.prog 53 #[.slice a n c, .func (.func 54) #[] #[]] w fun e w' => ∃ (j b : Nat), Ret M w S w' e (.pointer (some ⟨b, 0, none⟩)) [cRcvs bs rs] [] ∧ bs[j]? = some b ∧ ∃ x, rs[j]? = some x ∧ x.t = minT (((rs.drop p0).take r.length).map (·.t)) := by
  have hn := hr.slen
  rw [List.length_map] at hn
  subst hn
  have hpos : 1 ≤ r.length := by
    have := List.length_pos_iff.2 hne
    omega
  have hval : ∀ i b, r[i]? = some b → ∃ x, rs[p0 + i]? = some x := fun i b h => by
    have := (List.getElem?_eq_some_iff.1 (hat i b h)).1
    exact ⟨_, List.getElem?_eq_getElem (by omega)⟩
  obtain ⟨b0, hb0⟩ : ∃ b, r[(0 : Int).toNat]? = some b := ⟨_, List.getElem?_eq_getElem (by show 0 < r.length; omega)⟩
  obtain ⟨x0, hx0⟩ := hval 0 b0 hb0
  refine en53 (args := [.slice a r.length c, .func (.func 54) #[] #[]]) (S := S) (C := [cRcvs bs rs]) (G := [(_, dPtrs r)]) (by kernel_rfl) hP (.cons hr (.nil _ _)) ?_
  have hp1 : ¬ ((r.length : Int) < 1) := by omega
  refine J_seq ?_
  refine Za [.rd 0 [] 0 0] [] [(4, .val (.pointer none))] ?_
  refine J_seq ?_
  refine J_seq ?_
  refine Zp [.rd 0 [] 0 0, .rd 1 [] 0 0, .rd 2 [] 0 7] [] [(9, .val (.bool false))] [decide ((↑r.length : Int) < (1 : Int)) = false] ⟨by simp; omega, trivial⟩ ?_
  refine J_cond_f (by kernel_rfl) (by kernel_rfl) ?_
  refine J_skip ?_
  refine J_seq ?_
  refine J_read0 0 rfl (Int.toNat 0) (map_at hb0) (by kernel_rfl) (fun b1 off1 cs1 ty1 fz1 ha1 hrd1 => ?_)
  cases ha1
  have hrd1_0 := rd0 (hrd1 0 _ rfl)
  simp only [Int.toNat_zero, Nat.zero_mul, Nat.add_zero] at hrd1_0
  try simp only [aQ]
  refine Zp [.rd 0 [] 0 0, .rd 1 [] 0 2, .rd 2 [.r 0 (some (.pointer (some (⟨b0, 0, none⟩))))] 0 0, .rd 3 [] 0 0] [9] [(5, .val (.pointer (some (⟨b0, 0, none⟩))))] [(0 : Int) ≤ (0 : Int), (0 : Int) < (↑r.length : Int), cs1[off1]? = some (Value.pointer (some (Addr.mk b0 (0 : Nat) none)))] ⟨by omega, by omega, hrd1_0, trivial⟩ ?_
  refine J_seq ?_
  refine J_seq ?_
  refine Za [.rd 0 [] 0 0] [] [(6, .val (.int .i64 1))] ?_
  refine J_block ?_
  refine J_loopx (fun x : MinS => [(0, .val (.slice (some (⟨b1, off1, none⟩)) r.length c)), (1, .val (.func (.func 54) #[] #[])), (4, .val (.pointer none)), (5, .val (.pointer (some ⟨x.b, 0, none⟩))), (6, .val (.int .i64 x.i))]) (fun x : MinS => []) (fun x : MinS => [cRcvs bs rs]) (fun x : MinS => [(.slice (some (⟨b1, off1, none⟩)) r.length c, (dPtrs r))]) (fun x : MinS => (r.length - x.i).toNat) (fun x : MinS => (1 ≤ x.i ∧ x.i ≤ r.length ∧ bs[p0 + x.j]? = some x.b ∧ ∃ y, rs[p0 + x.j]? = some y ∧ y.t = minT (((rs.drop p0).take x.i.toNat).map (·.t)))) ⟨1, 0, b0⟩ [0, 1, 4, 5, 6] [] [0] [0] ?_ (by kernel_rfl) rfl rfl rfl ?_
  · exact ⟨by simp, by simp only; omega, hat 0 b0 hb0, x0, hx0, by
      have := take_times (rs := rs) (p0 := p0) (j := 0) (x := x0) hx0
      simp only [show (1 : Int).toNat = 0 + 1 from rfl, this]
      rfl⟩
  rintro ⟨i, j, b⟩ ⟨hi0, hi, hb, y, hy, hyt⟩
  dsimp only at hi0 hi hb hy hyt ⊢
  refine J_seq ?_
  refine J_seq ?_
  refine Za (Rds 0 4) [] [(17, .val (.bool (decide (i < (↑r.length : Int)))))] ?_
  refine J_cond (t := decide (i < (↑r.length : Int))) (by kernel_rfl) (by kernel_rfl) (fun hlt => ?_) (fun hlt => ?_)
  · have hlt2 : i < r.length := by simpa using hlt
    obtain ⟨b1, hb1⟩ : ∃ b, r[i.toNat]? = some b := ⟨_, List.getElem?_eq_getElem (by omega)⟩
    obtain ⟨x1, hx1⟩ := hval _ _ hb1
    have hne2 : ((rs.drop p0).take i.toNat).map (·.t) ≠ [] := by
      intro h0
      have h3 := congrArg List.length h0
      have := (List.getElem?_eq_some_iff.1 hx1).1
      simp at h3
      omega
    have hms := minT_snoc hne2 x1.t
    rw [← take_times hx1] at hms
    refine J_again0 0 rfl 0 rfl i.toNat (map_at hb1) (by kernel_rfl) (fun hrd2 => ?_)
    have hrd2_0 := rd0 (hrd2 0 _ rfl)
    try simp only [aQ]
    refine J_skip ?_
    refine J_seq ?_
    refine J_block ?_
    refine J_seq ?_
    refine jT [(0, true), (1, true), (2, true), (3, true), (4, true), (5, true), (6, false), (7, true)] [] ?_
    refine Yp (id := 7) (rest := [(6, false), (7, true)]) (Rds 0 3 ++ [.rd 3 [] 0 2, .rd 4 [.r 0 (some (.pointer (some (⟨b1, 0, none⟩))))] 0 0, .rd 5 [] 0 0]) [17] [(20, .val (.func (.func 54) #[] #[])), (24, .val (.pointer (some (⟨b1, 0, none⟩)))), (25, .val (.pointer (some (⟨b, 0, none⟩))))] [(0 : Int) ≤ i, i < (↑r.length : Int), cs1[off1 + i.toNat * (1 : Nat)]? = some (Value.pointer (some (Addr.mk b1 (0 : Nat) none)))] ⟨by omega, hlt2, hrd2_0, trivial⟩ ?_
    refine JR_call [] [0] 54 #[.pointer (some (⟨b1, 0, none⟩)), .pointer (some (⟨b, 0, none⟩))] (some 26) (by kernel_rfl) (by kernel_rfl) (by decide) (fun w S M hP hG _ => ?_)
    refine (snapLess hP (hat _ _ hb1) hx1 hb hy ht).mono ?_
    rintro e1 w1 hR
    refine ⟨_, _, _, hR, ?_⟩
    try simp only [aQ]
    refine Ya (id := 7) (rest := []) [.rd 7 [] 0 0] [26, 20, 24, 25] [(27, .val (.bool (decide (x1.t - y.t < 0))))] ?_
    try simp only [aQ]
    refine JR_end ?_
    try simp only [aQ]
    refine J_cond (t := decide (x1.t - y.t < 0)) (by kernel_rfl) (by kernel_rfl) (fun hm => ?_) (fun hm => ?_)
    · refine J_again0 0 rfl 0 rfl i.toNat (map_at hb1) (by kernel_rfl) (fun hrd3 => ?_)
      have hrd3_0 := rd0 (hrd3 0 _ rfl)
      try simp only [aQ]
      refine Zp [.rd 0 [] 0 0, .rd 1 [] 0 0, .rd 2 [] 0 2, .rd 3 [.r 0 (some (.pointer (some (⟨b1, 0, none⟩))))] 0 0, .rd 4 [] 0 0] [27] [(5, .val (.pointer (some (⟨b1, 0, none⟩))))] [(0 : Int) ≤ i, i < (↑r.length : Int), cs1[off1 + i.toNat * (1 : Nat)]? = some (Value.pointer (some (Addr.mk b1 (0 : Nat) none)))] ⟨by omega, hlt2, hrd2_0, trivial⟩ ?_
      try simp only [aQ]
      refine J_eb ?_
      try simp only [aQ]
      refine Zp [.rd 0 [] 0 0, .rd 1 [] 0 1, .rd 2 [] 0 0] [] [(6, .val (.int .i64 (i + 1)))] [IntKind.i64.wrap (i + (1 : Int)) = i + (1 : Int)] ⟨wrap_i64 (by omega) (by omega), trivial⟩ ?_
      try simp only [aQ]
      refine J_backx ⟨i + 1, i.toNat, b1⟩ [0, 1, 4, 5, 6] [] [0] [0] ?_ ?_ (by kernel_rfl) rfl rfl rfl
      · refine ⟨by simp only; omega, by simp only; omega, hat _ _ hb1, x1, hx1, ?_⟩
        rw [show (i + 1).toNat = i.toNat + 1 by omega, hms, if_pos (by simp at hm; omega)]
      · simp only
        omega
    · try simp only [aQ]
      refine J_skip ?_
      try simp only [aQ]
      refine J_eb ?_
      try simp only [aQ]
      refine Zp [.rd 0 [] 0 0, .rd 1 [] 0 1, .rd 2 [] 0 0] [27] [(6, .val (.int .i64 (i + 1)))] [IntKind.i64.wrap (i + (1 : Int)) = i + (1 : Int)] ⟨wrap_i64 (by omega) (by omega), trivial⟩ ?_
      try simp only [aQ]
      refine J_backx ⟨i + 1, j, b⟩ [0, 1, 4, 5, 6] [] [0] [0] ?_ ?_ (by kernel_rfl) rfl rfl rfl
      · refine ⟨by simp only; omega, by simp only; omega, hb, y, hy, ?_⟩
        rw [show (i + 1).toNat = i.toNat + 1 by omega, hms, if_neg (by simp at hm; omega), hyt]
      · simp only
        omega
  · have hie : i = r.length := by simp at hlt; omega
    rw [hie] at hyt
    refine J_exit rfl ?_
    refine J_seq ?_
    refine Za [.rd 0 [] 0 0, .rd 1 [] 0 0] [17, 0, 1, 5, 6] [(4, .val (.pointer (some (⟨b, 0, none⟩))))] ?_
    refine Yr [[]] (.pointer (some (⟨b, 0, none⟩))) fun a w s => ?_
    exact ⟨_, _, s.ret (by simp) [0] [] rfl rfl, hb, y, hy, hyt⟩
end Go.Proofs.YtehdegekgdlifaaDoor
end
section
namespace Go.Proofs.YtehdegekgdlifaaDoor
open Go Go.Sx
def knownErr (x : PlT) (at' : List Int) : Nat := if vecErr at' ≠ 0 then vecErr at' else if at'.length ≠ x.places then 3 else if inL at' (snapL x) = true then 0 else 11
structure PlOk (x : PlT) : Prop where
  p1 : 1 ≤ x.places
  p6 : x.places ≤ 6
  s1 : 1 ≤ x.shards
  s6 : x.shards ≤ 6
  id : x.id < x.places
  c0 : 0 ≤ x.clock
  c1 : x.clock ≤ 1099511627776
  base : vecErr x.base = 0
  basel : x.base.length = x.places
  ss : x.ss.map PlT.pair = pairsP x.id x.shards x.places
  rs : x.rs.map PlT.pairR = pairsP x.id x.shards x.places
  ts : timesOk x.rs
theorem snapT_in {x : PlT} (h : PlOk x) {k : Nat} (hk : k < x.places) : 0 ≤ snapT x k ∧ snapT x k ≤ 1099511627776 := by
  unfold snapT
  split
  · exact ⟨h.c0, h.c1⟩
  · rename_i hne
    have e := part_eq h.rs hk
    have hlen : ((x.rs.drop (posP x.id x.shards k)).take (rowP x.id x.shards k).length).length ≠ 0 := by
      have hl := congrArg List.length h.rs
      rw [List.length_map] at hl
      obtain ⟨B, hB, _⟩ := pairsP_split (id := x.id) (shards := x.shards) hk
      rw [hB] at hl
      simp only [List.length_append] at hl
      have h1 := h.s1
      have h2 : (rowP x.id x.shards k).length = x.shards := by rw [rowP_length, if_neg hne]
      rw [List.length_take, List.length_drop]
      unfold posP
      omega
    have hm : minT ((x.rs.filter fun r => decide (r.fm.toNat = k)).map (·.t)) ∈ (x.rs.filter fun r => decide (r.fm.toNat = k)).map (·.t) := minT_mem (by
      intro h0
      rw [List.map_eq_nil_iff] at h0
      rw [show (fun r : RcvT => decide (r.fm.toNat = k)) = fun r => decide ((PlT.pairR r).1 = k) from rfl, ← e] at h0
      rw [h0] at hlen
      exact hlen rfl)
    obtain ⟨y, hy, hyt⟩ := List.mem_map.1 hm
    rw [← hyt]
    exact h.ts y (List.mem_filter.1 hy).1
theorem snapL_ok {x : PlT} (h : PlOk x) : vecErr (snapL x) = 0 := by
  unfold vecErr
  have h1 := h.p1
  have h6 := h.p6
  rw [if_neg (by simp [snapL]; omega), if_neg]
  intro ha
  obtain ⟨t, ht, hb⟩ := List.any_eq_true.1 ha
  obtain ⟨k, hk, rfl⟩ := List.mem_map.1 ht
  have := snapT_in h (List.mem_range.1 hk)
  simp only [badT, Bool.or_eq_true, decide_eq_true_eq] at hb
  omega
set_option maxHeartbeats 4000000 in
theorem pSnapshot {w : World} {S : Nat → Prop} {M : List Nat} {x : PlT} {b vb ic : Nat} {o : Value} {ia : Option Addr} {rows : List (List Nat)} (hP : Pre w S M [cObj b (plC vb x.id x.places x.shards x.clock o (.slice ia x.places ic)), cRcvs rows.flatten x.rs]) (hi : Rep w S (.slice ia x.places ic) (dRows rows)) (hok : RowsOk x.id x.shards x.places rows) (h : PlOk x) :
    Calls Tryd.prog 33 #[.pointer (some ⟨b, 0, none⟩)] w fun e w' => ∃ a' n' c', Ret M w S w' e (.slice a' n' c') [cObj b (plC vb x.id x.places x.shards x.clock o (.slice ia x.places ic)), cRcvs rows.flatten x.rs] [(.slice a' n' c', dInts (snapL x))] := by
  have hp6 := h.p6
  have hs6 := h.s6
  have hl2 : rows.flatten.length = x.rs.length := by
    have := congrArg List.length h.rs
    rw [List.length_map] at this
    rw [hok.flen, this]
    rfl
  refine en33 (args := [.pointer (some ⟨b, 0, none⟩)]) (S := S) (G := [(_, dRows rows)]) (by kernel_rfl) hP (.cons hi (.nil _ _)) ?_
  refine J_show 0 rfl ?_
  refine J_seq ?_
  refine Za [.rd 0 [] 0 0] [] [(2, .val (.slice none 0 0))] ?_
  refine J_seq ?_
  refine Za [.rd 0 [] 0 0] [] [(3, .val (.slice none 0 0))] ?_
  refine J_seq ?_
  refine J_seq ?_
  refine Za (Rds 0 3 ++ [.rd 3 [.o 0 none] 0 0, .rd 4 [] 0 0, .rd 5 [] 0 0]) [] [(10, .val (.slice ia x.places ic)), (11, .val (.int .i64 (↑x.places : Int))), (12, .val (.int .i64 0))] ?_
  refine J_block ?_
  refine J_stp (stp_acc 3 1) ?_
  refine J_loopx (fun y : AccI => [(0, .val (.pointer (some (⟨b, 0, none⟩)))), (2, .val (.slice none 0 0)), (3, .val (.slice y.a y.k y.c)), (10, .val (.slice ia x.places ic)), (11, .val (.int .i64 (↑x.places : Int))), (12, .val (.int .i64 y.i))]) (fun y : AccI => [(b, .cells #[.pointer (some (⟨vb, 0, none⟩)), .int .i64 (↑x.id : Int), .int .i64 (↑x.places : Int), .int .i64 (↑x.shards : Int), .int .i64 x.clock, o, .slice ia x.places ic] 59 (0, 0))]) (fun y : AccI => [cRcvs rows.flatten x.rs, cAcc (.slice y.a y.k y.c) 3 1 (((List.range y.i.toNat).map (snapT x)).map eI)]) (fun y : AccI => [(.slice ia x.places ic, (dRows rows))]) (fun y : AccI => (x.places - y.i).toNat) (fun y : AccI => (0 ≤ y.i ∧ y.i ≤ x.places)) ⟨0, none, 0, 0⟩ [0, 2, 3, 10, 11, 12] [0] [0, 1] [0] ?_ (by kernel_rfl) rfl rfl rfl ?_
  · exact ⟨by simp, by simp⟩
  rintro ⟨i, av, k, cv⟩ ⟨hi0, hi1⟩
  dsimp only at hi0 hi1 ⊢
  refine J_stpx (stp_acclen 1 rfl) fun _ hk => ?_
  have hk2 : k ≤ 6 := by simp at hk; omega
  refine J_seq ?_
  refine Za [.rd 0 [] 0 0] [] [(13, .val (.bool (decide (i < (↑x.places : Int)))))] ?_
  refine J_seq ?_
  refine J_cond (t := decide (i < (↑x.places : Int))) (by kernel_rfl) (by kernel_rfl) (fun hlt => ?_) (fun hlt => ?_)
  · have hlt2 : i < x.places := by simpa using hlt
    have hiN : i.toNat < x.places := by omega
    obtain ⟨r, hr⟩ : ∃ r, rows[i.toNat]? = some r := ⟨_, List.getElem?_eq_getElem (by rw [hok.len]; exact hiN)⟩
    have hrl := hok.row hr
    have hsn : (List.range (i + 1).toNat).map (snapT x) = (List.range i.toNat).map (snapT x) ++ [snapT x i.toNat] := by
      rw [show (i + 1).toNat = i.toNat + 1 by omega, List.range_succ, List.map_append]
      rfl
    refine J_read1 0 rfl i.toNat (map_at hr) (by kernel_rfl) (fun b1 off1 cs1 ty1 fz1 a1_0 c1_0 ha1 hrd1 => ?_)
    cases ha1
    have hrd1_0 := rd0 (hrd1 0 _ rfl)
    try simp only [aQ]
    refine J_skip ?_
    refine J_seq ?_
    refine J_block ?_
    refine J_seq ?_
    refine Zp [.rd 0 [] 0 0, .rd 1 [] 0 2, .rd 2 [.r 0 (some (.slice (a1_0, c1_0).fst ((List.map eP r).length) c1_0))] 0 0, .rd 3 [] 0 0, .rd 4 [] 0 0] [13] [(4, .val (.int .i64 i)), (5, .val (.slice (a1_0, c1_0).fst ((List.map eP r).length) c1_0))] [(0 : Int) ≤ i, i < (↑x.places : Int), cs1[off1 + i.toNat * (1 : Nat)]? = some (Value.slice (a1_0, c1_0).fst (List.map eP r).length (a1_0, c1_0).snd)] ⟨hi0, hlt2, hrd1_0, trivial⟩ ?_
    refine J_seq ?_
    refine Za (Rds 0 3 ++ [.rd 3 [.o 0 none] 0 0, .rd 4 [] 0 0]) [] [(6, .val (.int .i64 x.clock))] ?_
    refine J_seq ?_
    refine J_seq ?_
    refine Za (Rds 0 4 ++ [.rd 4 [.o 0 none] 0 0, .rd 5 [] 0 0]) [] [(26, .val (.bool (i != (↑x.id : Int))))] ?_
    refine J_cond (t := i != (↑x.id : Int)) (by kernel_rfl) (by kernel_rfl) (fun hne => ?_) (fun hne => ?_)
    · have hne2 : i.toNat ≠ x.id := by
        intro h0
        apply (by simpa using hne : ¬ i = x.id)
        omega
      rw [if_neg hne2] at hrl
      have hs1 := h.s1
      refine jT [(0, true), (1, false), (2, false), (3, true)] [] ?_
      refine Ya (id := 7) (rest := [(1, false), (2, false), (3, true)]) [.rd 0 [] 0 0] [26] [(27, .val (.slice (a1_0, c1_0).fst ((List.map eP r).length) c1_0))] ?_
      refine JR_call [] [0] 53 #[.slice (a1_0, c1_0).fst ((List.map eP r).length) c1_0, .func (.func 54) #[] #[]] (some 28) (by kernel_rfl) (by kernel_rfl) (by decide) (fun w S M hP hG _ => ?_)
      refine (minRcv (p0 := posP x.id x.shards i.toNat) (r := r) hP (hG.at 1 rfl) (fun h0 => by rw [h0] at hrl; simp at hrl; omega) (fun j b hb => hok.at hr hb) hl2 h.ts (by omega)).mono ?_
      rintro e1 w1 ⟨j, b2, hR, hb2, y, hy, hyt⟩
      have hst : y.t = snapT x i.toNat := by
        rw [hyt, snapT, if_neg hne2, show (fun r : RcvT => decide (r.fm.toNat = i.toNat)) = fun r => decide ((PlT.pairR r).1 = i.toNat) from rfl, ← part_eq h.rs hiN, rowP_length, if_neg hne2, hrl]
      refine ⟨_, _, _, hR, ?_⟩
      try simp only [aQ]
      refine JR_call [] [1] 55 #[.pointer (some (⟨b2, 0, none⟩))] (some 29) (by kernel_rfl) (by kernel_rfl) (by decide) (fun w S M hP hG _ => ?_)
      refine (rTimeIn hP hb2 hy).mono ?_
      rintro e2 w2 hR
      refine ⟨_, _, _, hR, ?_⟩
      rw [hst]
      try simp only [aQ]
      refine Ya (id := 7) (rest := []) [.rd 3 [] 0 0] [29, 28, 27] [(6, .val (.int .i64 (snapT x i.toNat)))] ?_
      try simp only [aQ]
      refine JR_end ?_
      try simp only [aQ]
      refine jT [(0, true), (1, true), (2, false), (3, false), (4, true)] [] ?_
      refine Ym (id := 8) (rest := [(3, false), (4, true)]) [.rd 0 [] 0 0, .rd 1 [] 0 0, .wr 2 [] 0] [] (fun nu1 => [(30, .val (.slice av k cv)), (32, .val (.slice (some (⟨nu1 0, 0, none⟩)) 1 1))]) (fun nu1 => [(b, .cells #[.pointer (some (⟨vb, 0, none⟩)), .int .i64 (↑x.id : Int), .int .i64 (↑x.places : Int), .int .i64 (↑x.shards : Int), .int .i64 x.clock, o, .slice (some (⟨b1, off1, none⟩)) x.places ic] 59 (0, 0)), (nu1 0, .cells #[.int .i64 (snapT x i.toNat)] 3 (0, 0))]) [] (fun nu1 => ?_)
      refine JR_appm 0 34 3 1 8 (.int .i64 0) (a0 := av) (len := k) (cap0 := cv) (ax := (some (⟨nu1 0, 0, none⟩))) (m := 1) (c := 1) (dst := (some 33)) [(snapT x i.toNat)] (by kernel_rfl) (by kernel_rfl) (by kernel_rfl) (by kernel_rfl) rfl (by decide) rfl (fun _ _ _ s => src_one s 1 rfl rfl ⟨.inl ⟨rfl, rfl⟩, trivial⟩) (by simp only [maxLen]; omega) (by omega) (fun av1 cv1 => ?_)
      try simp only [aQ]
      refine Ya (id := 8) (rest := []) [.rd 4 [] 0 0] [33, 30, 32] [(3, .val (.slice av1 (k + 1) cv1))] ?_
      try simp only [aQ]
      refine JR_end ?_
      try simp only [aQ]
      refine J_eb ?_
      try simp only [aQ]
      refine Zp [.rd 0 [] 0 1, .rd 1 [] 0 0] [] [(12, .val (.int .i64 (i + 1)))] [IntKind.i64.wrap (i + (1 : Int)) = i + (1 : Int)] ⟨wrap_i64 (by omega) (by omega), trivial⟩ ?_
      try simp only [aQ]
      rw [← hsn]
      refine J_backx ⟨i + 1, av1, k + 1, cv1⟩ [0, 2, 3, 10, 11, 12] [0] [0, 1] [0] ?_ ?_ (by kernel_rfl) rfl rfl rfl
      · exact ⟨by simp only; omega, by simp only; omega⟩
      · simp only
        omega
    · have hid : i.toNat = x.id := by
        have : i = x.id := by simpa using hne
        omega
      have hst : x.clock = snapT x i.toNat := by rw [snapT, if_pos hid]
      refine J_skip ?_
      refine jT [(0, true), (1, true), (2, false), (3, false), (4, true)] [] ?_
      refine Ym (id := 8) (rest := [(3, false), (4, true)]) [.rd 0 [] 0 0, .rd 1 [] 0 0, .wr 2 [] 0] [26] (fun nu1 => [(30, .val (.slice av k cv)), (32, .val (.slice (some (⟨nu1 0, 0, none⟩)) 1 1))]) (fun nu1 => [(b, .cells #[.pointer (some (⟨vb, 0, none⟩)), .int .i64 (↑x.id : Int), .int .i64 (↑x.places : Int), .int .i64 (↑x.shards : Int), .int .i64 x.clock, o, .slice (some (⟨b1, off1, none⟩)) x.places ic] 59 (0, 0)), (nu1 0, .cells #[.int .i64 x.clock] 3 (0, 0))]) [] (fun nu1 => ?_)
      rw [hst]
      refine JR_appm 1 34 3 1 8 (.int .i64 0) (a0 := av) (len := k) (cap0 := cv) (ax := (some (⟨nu1 0, 0, none⟩))) (m := 1) (c := 1) (dst := (some 33)) [(snapT x i.toNat)] (by kernel_rfl) (by kernel_rfl) (by kernel_rfl) (by kernel_rfl) rfl (by decide) rfl (fun _ _ _ s => src_one s 1 rfl rfl ⟨.inl ⟨rfl, rfl⟩, trivial⟩) (by simp only [maxLen]; omega) (by omega) (fun av1 cv1 => ?_)
      try simp only [aQ]
      refine Ya (id := 8) (rest := []) [.rd 4 [] 0 0] [33, 30, 32] [(3, .val (.slice av1 (k + 1) cv1))] ?_
      try simp only [aQ]
      refine JR_end ?_
      try simp only [aQ]
      refine J_eb ?_
      try simp only [aQ]
      refine Zp [.rd 0 [] 0 1, .rd 1 [] 0 0] [] [(12, .val (.int .i64 (i + 1)))] [IntKind.i64.wrap (i + (1 : Int)) = i + (1 : Int)] ⟨wrap_i64 (by omega) (by omega), trivial⟩ ?_
      try simp only [aQ]
      rw [← hsn]
      refine J_backx ⟨i + 1, av1, k + 1, cv1⟩ [0, 2, 3, 10, 11, 12] [0] [0, 1] [0] ?_ ?_ (by kernel_rfl) rfl rfl rfl
      · exact ⟨by simp only; omega, by simp only; omega⟩
      · simp only
        omega
  · have hie : i.toNat = x.places := by simp at hlt; omega
    rw [hie]
    refine J_exit rfl ?_
    refine J_seq ?_
    refine Za [.rd 0 [] 0 0, .rd 1 [] 0 0] [13, 0, 3, 10, 11, 12] [(2, .val (.slice av k cv))] ?_
    refine Yr [[]] (.slice av k cv) fun a w s => ?_
    have s2 := (s.stp (stp_freeze 1 rfl)).hide 0 rfl
    exact ⟨_, _, _, s2.ret (by simp) [1, 0] [1] rfl rfl⟩
end Go.Proofs.YtehdegekgdlifaaDoor
end
section
namespace Go.Proofs.YtehdegekgdlifaaDoor
open Go Go.Sx
set_option maxHeartbeats 4000000 in
theorem pKnown {w : World} {S : Nat → Prop} {M : List Nat} {er : Nat → Addr} {eb : Nat → Array Value × TypeId} {x : PlT} {b vb ic n1 c1 : Nat} {o : Value} {ia a1 : Option Addr} {rows : List (List Nat)} {at' : List Int} (hC : Rep w S .nilIface (dC er eb)) (hP : Pre w S M [cObj b (plC vb x.id x.places x.shards x.clock o (.slice ia x.places ic)), cRcvs rows.flatten x.rs]) (hi : Rep w S (.slice ia x.places ic) (dRows rows)) (h1 : Rep w S (.slice a1 n1 c1) (dInts at')) (hok : RowsOk x.id x.shards x.places rows) (h : PlOk x) (hl1 : at'.length ≤ 1000000) :
    Calls Tryd.prog 20 #[.pointer (some ⟨b, 0, none⟩), .slice a1 n1 c1] w fun e w' => ∃ v, Ret M w S w' e v [cObj b (plC vb x.id x.places x.shards x.clock o (.slice ia x.places ic)), cRcvs rows.flatten x.rs] [] ∧ ErrIs 156 er (knownErr x at') v := by
  obtain rfl := rep_ints_len h1
  have hsn := snapL_ok h
  have hp6 := h.p6
  have hsl : (snapL x).length = x.places := by simp [snapL]
  refine en20 (args := [.pointer (some ⟨b, 0, none⟩), .slice a1 at'.length c1]) (S := S) (G := [(_, dC er eb), (_, dRows rows), (_, dInts at')]) (by kernel_rfl) hP (.cons hC (.cons hi (.cons h1 (.nil _ _)))) ?_
  refine J_stp (stp_all 0 [2, 10] rfl rfl) ?_
  refine J_glob 3 rfl (fun csg1 tyg1 fzg1 hglob1 => ?_)
  refine J_glob 4 rfl (fun csg2 tyg2 fzg2 hglob2 => ?_)
  try simp only [aQ]
  refine J_seq ?_
  refine Za [.rd 0 [] 0 0] [] [(4, .val (.nilIface))] ?_
  refine J_seq ?_
  refine J_seq ?_
  refine jT [(0, true), (1, false), (2, true)] [] ?_
  refine Ya (id := 1) (rest := [(1, false), (2, true)]) [.rd 0 [] 0 0] [] [(8, .val (.slice a1 at'.length c1))] ?_
  refine Yc 31 #[.slice a1 at'.length c1] (some 9) fun w S hG => ?_
  refine (vcheck (globs_of (hG.at 0 rfl)) (hG.at 2 rfl) hl1).mono ?_
  rintro e1 w1 ⟨v, hR, hv⟩
  refine ⟨_, _, _, hR, ?_⟩
  obtain ⟨hv0, rfl⟩ | ⟨hv0, rfl⟩ := hv
  case inr =>
    have hae : knownErr x at' = vecErr at' := by rw [knownErr, if_pos hv0]
    rw [hae]
    try simp only [aQ]
    refine Ya (id := 1) (rest := []) [.rd 2 [] 0 0] [9, 8] [(5, .val (.iface 156 (.pointer (some (er (vecErr at'))))))] ?_
    refine JR_end ?_
    refine J_seq ?_
    refine Za [.rd 0 [] 0 0, .rd 1 [] 0 0] [] [(11, .val (.bool true))] ?_
    refine J_cond_t (by kernel_rfl) (by kernel_rfl) ?_
    refine J_seq ?_
    refine Za [.rd 0 [] 0 0, .rd 1 [] 0 0] [11, 5] [(4, .val (.iface 156 (.pointer (some (er (vecErr at'))))))] ?_
    refine Yr [[]] (.iface 156 (.pointer (some (er (vecErr at'))))) fun a w s => ?_
    exact ⟨_, s.ret (by simp) [0, 1] [] rfl rfl, .inr ⟨hv0, rfl⟩⟩
  try simp only [aQ]
  refine Ya (id := 1) (rest := []) [.rd 2 [] 0 0] [9, 8] [(5, .val (.nilIface))] ?_
  refine JR_end ?_
  refine J_seq ?_
  refine Za [.rd 0 [] 0 0, .rd 1 [] 0 0] [] [(11, .val (.bool false))] ?_
  refine J_cond_f (by kernel_rfl) (by kernel_rfl) ?_
  refine J_skip ?_
  refine J_seq ?_
  refine J_seq ?_
  refine Nm [cObj b (.cells #[.pointer (some (⟨vb, 0, none⟩)), .int .i64 (↑x.id : Int), .int .i64 (↑x.places : Int), .int .i64 (↑x.shards : Int), .int .i64 x.clock, o, .slice ia x.places ic] 59 (0, 0)), (cRcvs rows.flatten x.rs)] ?_
  refine J_show 0 rfl ?_
  by_cases hal : at'.length = x.places
  case neg =>
    have hae : knownErr x at' = 3 := by rw [knownErr, if_neg (by simp [hv0]), if_pos hal]
    have hal2 : ¬ (at'.length : Int) = x.places := by omega
    rw [hae]
    refine Zp (Rds 0 5 ++ [.rd 5 [.o 0 none] 0 0, .rd 6 [] 0 6]) [11, 5] [(19, .val (.bool true))] [((↑at'.length : Int) != (↑x.places : Int)) = true] ⟨by simp; omega, trivial⟩ ?_
    refine J_cond_t (by kernel_rfl) (by kernel_rfl) ?_
    refine J_seq ?_
    refine Zp [.rd 0 [.r 0 (some (.iface 156 (.pointer (some (er 3)))))] 0 0, .rd 1 [] 0 0] [19] [(4, .val (.iface 156 (.pointer (some (er 3)))))] [csg1[(0 : Nat)]? = some (Value.iface (156 : Nat) (Value.pointer (some (er (3 : Nat)))))] ⟨hglob1, trivial⟩ ?_
    refine Yr [[]] (.iface 156 (.pointer (some (er 3)))) fun a w s => ?_
    exact ⟨_, (s.hide 0 rfl).ret (by simp) [1, 0] [] rfl rfl, .inr ⟨by decide, rfl⟩⟩
  have hal2 : (at'.length : Int) = x.places := by omega
  have htw : twoErr at' (snapL x) = 0 := by rw [twoErr, if_neg (by simp [hv0]), if_neg (by simp [hsn]), if_neg (by simp [hal, hsl])]
  refine Zp (Rds 0 5 ++ [.rd 5 [.o 0 none] 0 0, .rd 6 [] 0 7]) [11, 5] [(19, .val (.bool false))] [((↑at'.length : Int) != (↑x.places : Int)) = false] ⟨by simp; omega, trivial⟩ ?_
  refine J_cond_f (by kernel_rfl) (by kernel_rfl) ?_
  refine J_skip ?_
  refine J_seq ?_
  refine J_seq ?_
  refine J_hide 0 rfl ?_
  refine Nm [(cRcvs rows.flatten x.rs), cObj b (.cells #[.pointer (some (⟨vb, 0, none⟩)), .int .i64 (↑x.id : Int), .int .i64 (↑x.places : Int), .int .i64 (↑x.shards : Int), .int .i64 x.clock, o, .slice ia x.places ic] 59 (0, 0))] ?_
  refine jT [(0, true), (1, true), (2, false), (3, false), (4, true), (5, true), (6, true), (7, true), (8, true)] [] ?_
  refine Ya (id := 6) (rest := [(2, false), (3, false), (4, true), (5, true), (6, true), (7, true), (8, true)]) [.rd 0 [] 0 0, .rd 1 [] 0 0] [19, 0, 1] [(22, .val (.slice a1 at'.length c1)), (23, .val (.pointer (some (⟨b, 0, none⟩))))] ?_
  refine JR_call [] [1, 0] 33 #[.pointer (some (⟨b, 0, none⟩))] (some 24) (by kernel_rfl) (by kernel_rfl) (by decide) (fun w S M hP hG _ => ?_)
  refine (pSnapshot hP (hG.at 1 rfl) hok h).mono ?_
  rintro e2 w2 ⟨a2, n2, c2, hR⟩
  refine ⟨_, _, _, hR, ?_⟩
  try simp only [aQ]
  refine Yc 32 #[.slice a1 at'.length c1, .slice a2 n2 c2] (some 25) fun w S hG => ?_
  refine (vwithin (globs_of (hG.at 0 rfl)) (hG.at 2 rfl) (hG.at 5 rfl) hl1 (by omega)).mono ?_
  rintro e3 w3 (⟨htw2, _⟩ | ⟨_, hR⟩)
  · exact absurd htw htw2
  refine ⟨_, _, _, hR, ?_⟩
  cases hin : inL at' (snapL x) with
  | true =>
    have hae : knownErr x at' = 0 := by rw [knownErr, if_neg (by simp [hv0]), if_neg (by simp [hal]), if_pos hin]
    rw [hae]
    try simp only [aQ]
    refine Ya (id := 6) (rest := []) (Rds 4 9) [25, 24, 22, 23] [(6, .val (.bool true))] ?_
    try simp only [aQ]
    refine JR_end ?_
    try simp only [aQ]
    refine J_seq ?_
    try simp only [aQ]
    refine Za [.rd 0 [] 0 0, .rd 1 [] 0 0] [6] [(29, .val (.bool false))] ?_
    try simp only [aQ]
    refine J_cond_f (by kernel_rfl) (by kernel_rfl) ?_
    try simp only [aQ]
    refine J_skip ?_
    try simp only [aQ]
    refine J_seq ?_
    try simp only [aQ]
    refine Za [.rd 0 [] 0 0] [29] [] ?_
    try simp only [aQ]
    refine Yr [[]] (.nilIface) fun a w s => ?_
    exact ⟨_, s.ret (by simp) [0, 1] [] rfl rfl, .inl ⟨rfl, rfl⟩⟩
  | false =>
    have hae : knownErr x at' = 11 := by rw [knownErr, if_neg (by simp [hv0]), if_neg (by simp [hal]), if_neg (by simp [hin])]
    rw [hae]
    try simp only [aQ]
    refine Ya (id := 6) (rest := []) (Rds 4 9) [25, 24, 22, 23] [(6, .val (.bool false))] ?_
    try simp only [aQ]
    refine JR_end ?_
    try simp only [aQ]
    refine J_seq ?_
    try simp only [aQ]
    refine Za [.rd 0 [] 0 0, .rd 1 [] 0 0] [6] [(29, .val (.bool true))] ?_
    try simp only [aQ]
    refine J_cond_t (by kernel_rfl) (by kernel_rfl) ?_
    try simp only [aQ]
    refine J_seq ?_
    try simp only [aQ]
    refine Zp [.rd 0 [.r 1 (some (.iface 156 (.pointer (some (er 11)))))] 0 0, .rd 1 [] 0 0] [29] [(4, .val (.iface 156 (.pointer (some (er 11)))))] [csg2[(0 : Nat)]? = some (Value.iface (156 : Nat) (Value.pointer (some (er (11 : Nat)))))] ⟨hglob2, trivial⟩ ?_
    try simp only [aQ]
    refine Yr [[]] (.iface 156 (.pointer (some (er 11)))) fun a w s => ?_
    exact ⟨_, s.ret (by simp) [0, 1] [] rfl rfl, .inr ⟨by decide, rfl⟩⟩
end Go.Proofs.YtehdegekgdlifaaDoor
end
section
namespace Go.Proofs.YtehdegekgdlifaaDoor
open Go Go.Sx
def xorU (a b : Int) : Int := IntKind.u32.wrap (BitVec.ofInt IntKind.u32.bits a ^^^ BitVec.ofInt IntKind.u32.bits b).toNat
def andU (a b : Int) : Int := IntKind.u32.wrap (BitVec.ofInt IntKind.u32.bits a &&& BitVec.ofInt IntKind.u32.bits b).toNat
def stepU (d : Int) : Int := xorU (d.fdiv (2 ^ min (Int.toNat 1) IntKind.u32.bits)) (IntKind.u32.wrap (3988292384 * andU d 1))
def iterU : Nat → Int → Int
  | 0, d => d
  | n + 1, d => stepU (iterU n d)
def notU (c : Int) : Int := xorU (if IntKind.u32.signed = true then -1 else IntKind.u32.max) c
def crcU (l : List UInt8) : Int := l.foldl (fun c b => iterU 8 (xorU c (IntKind.u32.wrap (b.toNat : Int)))) 4294967295
theorem crcU_snoc {l : List UInt8} {i : Nat} {b : UInt8} (h : l[i]? = some b) : crcU (l.take (i + 1)) = iterU 8 (xorU (crcU (l.take i)) (IntKind.u32.wrap (b.toNat : Int))) := by
  rw [List.take_add_one, h]
  simp [crcU, List.foldl_append]
def xorI (a b : Int) : Int := IntKind.i64.wrap (BitVec.ofInt IntKind.i64.bits a ^^^ BitVec.ofInt IntKind.i64.bits b).toNat
def bitR (d : Int) (b : UInt8) (k : Int) : Int := (xorI d ((IntKind.i64.wrap (b.toNat : Int)).fdiv (2 ^ min (Int.toNat k) IntKind.i64.bits))).tmod 2
def stepR (d : Int) (b : UInt8) (k : Int) : Int := if (bitR d b k == 1) = true then xorI (IntKind.i64.wrap (d.tdiv 2)) 3988292384 else IntKind.i64.wrap (d.tdiv 2)
def iterR (c : Int) (b : UInt8) : Nat → Int
  | 0 => c
  | n + 1 => stepR (iterR c b n) b n
def crcR (l : List UInt8) : Int := l.foldl (fun c b => iterR c b 8) 4294967295
theorem crcR_snoc {l : List UInt8} {i : Nat} {b : UInt8} (h : l[i]? = some b) : crcR (l.take (i + 1)) = iterR (crcR (l.take i)) b 8 := by
  rw [List.take_add_one, h]
  simp [crcR, List.foldl_append]
set_option maxHeartbeats 4000000 in
theorem crcPW {w : World} {S : Nat → Prop} {s0 : ByteArray} (h9 : s0.size ≤ 100000) : Calls Tryd.prog 14 #[.string s0] w fun e w' => Ret [] w S w' e (.int .u32 (notU (crcU s0.data.toList))) [] [] := by
  refine ep14 (args := [.string s0]) (G := []) (by kernel_rfl) (AllG.nil w S) ?_
  have hz : s0.data.toList.length = s0.size := by simp
  refine J_seq ?_
  refine Za [.rd 0 [] 0 0] [] [(2, .val (.int .u32 0))] ?_
  refine J_seq ?_
  refine Za [.rd 0 [] 0 0] [] [(3, .val (.int .u32 4294967295))] ?_
  refine J_seq ?_
  refine J_seq ?_
  refine Za (Rds 0 3) [] [(6, .val (.int .i64 (↑s0.size : Int))), (7, .val (.int .i64 0))] ?_
  refine J_block ?_
  refine J_loopx (fun x : Int × Int => [(0, .val (.string s0)), (2, .val (.int .u32 0)), (3, .val (.int .u32 x.2)), (6, .val (.int .i64 (↑s0.size : Int))), (7, .val (.int .i64 x.1))]) (fun x : Int × Int => []) (fun x : Int × Int => []) (fun x : Int × Int => []) (fun x : Int × Int => (s0.size - x.1).toNat) (fun x : Int × Int => (0 ≤ x.1 ∧ x.1 ≤ s0.size ∧ x.2 = crcU (s0.data.toList.take x.1.toNat))) (0, 4294967295) [0, 2, 3, 6, 7] [] [] [] ?_ (by kernel_rfl) rfl rfl rfl ?_
  · exact ⟨by simp, by omega, by simp [crcU]⟩
  rintro ⟨i, c⟩ ⟨hi0, hi, hc⟩
  refine J_seq ?_
  refine Za [.rd 0 [] 0 0] [] [(8, .val (.bool (decide (i < (↑s0.size : Int)))))] ?_
  refine J_seq ?_
  refine J_cond (t := decide (i < (↑s0.size : Int))) (by kernel_rfl) (by kernel_rfl) (fun hlt => ?_) (fun hlt => ?_)
  · have hlt2 : i < s0.size := by simpa using hlt
    obtain ⟨b, hb⟩ : ∃ x, s0.data.toList[i.toNat]? = some x := ⟨_, List.getElem?_eq_getElem (by omega)⟩
    refine J_skip ?_
    refine J_seq ?_
    refine J_block ?_
    refine J_seq ?_
    refine Za [.rd 0 [] 0 0, .rd 1 [] 0 0] [8] [(4, .val (.int .i64 i))] ?_
    refine J_seq ?_
    refine jT [(0, true), (1, true), (2, true), (3, false), (4, true), (5, true), (6, true)] [] ?_
    refine Ya (id := 5) (rest := [(3, false), (4, true), (5, true), (6, true)]) (Rds 0 3) [] [(10, .val (.int .u32 c)), (11, .val (.string s0)), (12, .val (.int .i64 i))] ?_
    refine JR_idx 9 s0 i _ (some 13) (by kernel_rfl) (by kernel_rfl) hi0 hb ?_
    refine Ya (id := 5) (rest := []) (Rds 4 7) [13, 10, 11, 12] [(3, .val (.int .u32 (IntKind.u32.wrap (↑(BitVec.ofInt IntKind.u32.bits c ^^^ BitVec.ofInt IntKind.u32.bits (IntKind.u32.wrap (↑b.toNat : Int))).toNat : Int))))] ?_
    refine JR_end ?_
    refine J_seq ?_
    refine Za [.rd 0 [] 0 0] [] [(16, .val (.int .i64 0))] ?_
    refine J_block ?_
    refine J_loopx (fun y : Int × Int => [(0, .val (.string s0)), (2, .val (.int .u32 0)), (3, .val (.int .u32 y.2)), (4, .val (.int .i64 i)), (6, .val (.int .i64 (↑s0.size : Int))), (7, .val (.int .i64 i)), (16, .val (.int .i64 y.1))]) (fun y : Int × Int => []) (fun y : Int × Int => []) (fun y : Int × Int => []) (fun y : Int × Int => (8 - y.1).toNat) (fun y : Int × Int => (0 ≤ y.1 ∧ y.1 ≤ 8 ∧ y.2 = iterU y.1.toNat (xorU c (IntKind.u32.wrap b.toNat)))) (0, xorU c (IntKind.u32.wrap b.toNat)) [0, 2, 3, 4, 6, 7, 16] [] [] [] ?_ (by kernel_rfl) rfl rfl rfl ?_
    · exact ⟨by simp, by simp, by simp [iterU]⟩
    rintro ⟨k, d⟩ ⟨hk0, hk, hd⟩
    refine J_seq ?_
    refine Za [.rd 0 [] 0 0] [] [(17, .val (.bool (decide (k < 8))))] ?_
    refine J_seq ?_
    refine J_cond (t := decide (k < 8)) (by kernel_rfl) (by kernel_rfl) (fun hk8 => ?_) (fun hk8 => ?_)
    · have hk8' : k < 8 := by simpa using hk8
      refine J_skip ?_
      refine J_seq ?_
      refine J_block ?_
      refine Za (Rds 0 7) [17] [(3, .val (.int .u32 (IntKind.u32.wrap (↑(BitVec.ofInt IntKind.u32.bits (d.fdiv (2 ^ min (Int.toNat 1) IntKind.u32.bits)) ^^^ BitVec.ofInt IntKind.u32.bits (IntKind.u32.wrap (3988292384 * IntKind.u32.wrap (↑(BitVec.ofInt IntKind.u32.bits d &&& BitVec.ofInt IntKind.u32.bits 1).toNat : Int)))).toNat : Int))))] ?_
      refine J_eb ?_
      refine Zp [.rd 0 [] 0 1, .rd 1 [] 0 0] [] [(16, .val (.int .i64 (k + 1)))] [IntKind.i64.wrap (k + (1 : Int)) = k + (1 : Int)] ⟨wrap_i64 (by omega) (by omega), trivial⟩ ?_
      refine J_backx (k + 1, stepU d) [0, 2, 3, 4, 6, 7, 16] [] [] [] ?_ ?_ (by kernel_rfl) rfl rfl rfl
      · refine ⟨by simp only; omega, by simp only; omega, ?_⟩
        simp only at hd ⊢
        rw [show (k + 1).toNat = k.toNat + 1 by omega, iterU, ← hd]
      · simp only
        omega
    · obtain rfl : k = 8 := by simp at hk8; omega
      refine J_exit rfl ?_
      refine J_eb ?_
      refine Zp [.rd 0 [] 0 1, .rd 1 [] 0 0] [17] [(7, .val (.int .i64 (i + 1)))] [IntKind.i64.wrap (i + (1 : Int)) = i + (1 : Int)] ⟨wrap_i64 (by omega) (by omega), trivial⟩ ?_
      refine J_backx (i + 1, d) [0, 2, 3, 6, 7] [] [] [] ?_ ?_ (by kernel_rfl) rfl rfl rfl
      · refine ⟨by simp only; omega, by simp only; omega, ?_⟩
        simp only at hd hc ⊢
        rw [show (i + 1).toNat = i.toNat + 1 by omega, crcU_snoc hb, ← hc, hd]
        rfl
      · simp only
        omega
  · obtain rfl : i = s0.size := by simp at hlt; omega
    refine J_exit rfl ?_
    refine J_seq ?_
    refine Za (Rds 0 3) [8, 0, 3, 6, 7] [(2, .val (.int .u32 (IntKind.u32.wrap (↑(BitVec.ofInt IntKind.u32.bits (if IntKind.u32.signed = true then -1 else IntKind.u32.max) ^^^ BitVec.ofInt IntKind.u32.bits c).toNat : Int))))] ?_
    refine Yr [[]] (.int .u32 (IntKind.u32.wrap (↑(BitVec.ofInt IntKind.u32.bits (if IntKind.u32.signed = true then -1 else IntKind.u32.max) ^^^ BitVec.ofInt IntKind.u32.bits c).toNat : Int))) fun a w s => ?_
    have e : c = crcU s0.data.toList := by
      simp only at hc
      rw [hc, List.take_of_length_le (by omega)]
    rw [← e]
    exact s.ret (by simp) [] [] rfl rfl
set_option maxHeartbeats 4000000 in
theorem crcRW {w : World} {S : Nat → Prop} {s0 : ByteArray} (h9 : s0.size ≤ 100000) : Calls Tryd.prog 16 #[.string s0] w fun e w' => Ret [] w S w' e (.int .i64 (xorI (crcR s0.data.toList) 4294967295)) [] [] := by
  refine ep16 (args := [.string s0]) (G := []) (by kernel_rfl) (AllG.nil w S) ?_
  have hz : s0.data.toList.length = s0.size := by simp
  refine J_seq ?_
  refine Za [.rd 0 [] 0 0] [] [(2, .val (.int .i64 0))] ?_
  refine J_seq ?_
  refine Za [.rd 0 [] 0 0] [] [(3, .val (.int .i64 4294967295))] ?_
  refine J_seq ?_
  refine J_seq ?_
  refine Za [.rd 0 [] 0 0] [] [(4, .val (.int .i64 0))] ?_
  refine J_block ?_
  refine J_loopx (fun x : Int × Int => [(0, .val (.string s0)), (2, .val (.int .i64 0)), (3, .val (.int .i64 x.2)), (4, .val (.int .i64 x.1))]) (fun x : Int × Int => []) (fun x : Int × Int => []) (fun x : Int × Int => []) (fun x : Int × Int => (s0.size - x.1).toNat) (fun x : Int × Int => (0 ≤ x.1 ∧ x.1 ≤ s0.size ∧ x.2 = crcR (s0.data.toList.take x.1.toNat))) (0, 4294967295) [0, 2, 3, 4] [] [] [] ?_ (by kernel_rfl) rfl rfl rfl ?_
  · exact ⟨by simp, by omega, by simp [crcR]⟩
  rintro ⟨i, c⟩ ⟨hi0, hi, hc⟩
  refine J_seq ?_
  refine J_seq ?_
  refine Za (Rds 0 4) [] [(10, .val (.bool (decide (i < (↑s0.size : Int)))))] ?_
  refine J_cond (t := decide (i < (↑s0.size : Int))) (by kernel_rfl) (by kernel_rfl) (fun hlt => ?_) (fun hlt => ?_)
  · have hlt2 : i < s0.size := by simpa using hlt
    obtain ⟨b, hb⟩ : ∃ x, s0.data.toList[i.toNat]? = some x := ⟨_, List.getElem?_eq_getElem (by omega)⟩
    refine J_skip ?_
    refine J_seq ?_
    refine J_block ?_
    refine J_seq ?_
    refine Za [.rd 0 [] 0 0] [10] [(5, .val (.int .i64 0))] ?_
    refine J_block ?_
    refine J_loopx (fun y : Int × Int => [(0, .val (.string s0)), (2, .val (.int .i64 0)), (3, .val (.int .i64 y.2)), (4, .val (.int .i64 i)), (5, .val (.int .i64 y.1))]) (fun y : Int × Int => []) (fun y : Int × Int => []) (fun y : Int × Int => []) (fun y : Int × Int => (8 - y.1).toNat) (fun y : Int × Int => (0 ≤ y.1 ∧ y.1 ≤ 8 ∧ y.2 = iterR c b y.1.toNat)) (0, c) [0, 2, 3, 4, 5] [] [] [] ?_ (by kernel_rfl) rfl rfl rfl ?_
    · exact ⟨by simp, by simp, by simp [iterR]⟩
    rintro ⟨k, d⟩ ⟨hk0, hk, hd⟩
    refine J_seq ?_
    refine J_seq ?_
    refine Za [.rd 0 [] 0 0, .rd 1 [] 0 0] [] [(14, .val (.bool (decide (k < 8))))] ?_
    refine J_cond (t := decide (k < 8)) (by kernel_rfl) (by kernel_rfl) (fun hk8 => ?_) (fun hk8 => ?_)
    · have hk8' : k < 8 := by simpa using hk8
      obtain h | h | h | h | h | h | h | h : k = 0 ∨ k = 1 ∨ k = 2 ∨ k = 3 ∨ k = 4 ∨ k = 5 ∨ k = 6 ∨ k = 7 := by omega
      · subst h
        refine J_skip ?_
        refine J_seq ?_
        refine J_block ?_
        refine J_seq ?_
        refine jT [(0, true), (1, true), (2, true), (3, false), (4, true), (5, true), (6, true), (7, true), (8, true), (9, true), (10, true)] [] ?_
        refine Ya (id := 8) (rest := [(3, false), (4, true), (5, true), (6, true), (7, true), (8, true), (9, true), (10, true)]) (Rds 0 3) [14] [(17, .val (.int .i64 d)), (18, .val (.string s0)), (19, .val (.int .i64 i))] ?_
        refine JR_idx 9 s0 i _ (some 20) (by kernel_rfl) (by kernel_rfl) hi0 hb ?_
        refine Ya (id := 8) (rest := []) (Rds 4 11) [20, 17, 18, 19] [(6, .val (.int .i64 ((IntKind.i64.wrap (↑(BitVec.ofInt IntKind.i64.bits d ^^^ BitVec.ofInt IntKind.i64.bits ((IntKind.i64.wrap (↑b.toNat : Int)).fdiv (2 ^ min (Int.toNat 0) IntKind.i64.bits))).toNat : Int)).tmod 2)))] ?_
        refine JR_end ?_
        refine J_seq ?_
        refine Za (Rds 0 3) [] [(3, .val (.int .i64 (IntKind.i64.wrap (d.tdiv 2))))] ?_
        refine J_seq ?_
        refine Za [.rd 0 [] 0 0, .rd 1 [] 0 0] [] [(30, .val (.bool ((IntKind.i64.wrap (↑(BitVec.ofInt IntKind.i64.bits d ^^^ BitVec.ofInt IntKind.i64.bits ((IntKind.i64.wrap (↑b.toNat : Int)).fdiv (2 ^ min (Int.toNat 0) IntKind.i64.bits))).toNat : Int)).tmod 2 == 1)))] ?_
        refine J_cond (t := (IntKind.i64.wrap (↑(BitVec.ofInt IntKind.i64.bits d ^^^ BitVec.ofInt IntKind.i64.bits ((IntKind.i64.wrap (↑b.toNat : Int)).fdiv (2 ^ min (Int.toNat 0) IntKind.i64.bits))).toNat : Int)).tmod 2 == 1) (by kernel_rfl) (by kernel_rfl) (fun h1 => ?_) (fun h1 => ?_)
        · refine Za (Rds 0 3) [30] [(3, .val (.int .i64 (IntKind.i64.wrap (↑(BitVec.ofInt IntKind.i64.bits (IntKind.i64.wrap (d.tdiv 2)) ^^^ BitVec.ofInt IntKind.i64.bits 3988292384).toNat : Int))))] ?_
          refine J_eb ?_
          refine Za (Rds 0 3) [] [(5, .val (.int .i64 1))] ?_
          refine J_backx (1, xorI (IntKind.i64.wrap (d.tdiv 2)) 3988292384) [0, 2, 3, 4, 5] [] [] [] ?_ ?_ (by kernel_rfl) rfl rfl rfl
          · refine ⟨by simp, by simp, ?_⟩
            show _ = stepR (iterR c b 0) b 0
            exact ((congrArg (stepR · b 0) hd.symm).trans (if_pos h1)).symm
          · simp
        · refine J_skip ?_
          refine J_eb ?_
          refine Za (Rds 0 3) [30] [(5, .val (.int .i64 1))] ?_
          refine J_backx (1, IntKind.i64.wrap (d.tdiv 2)) [0, 2, 3, 4, 5] [] [] [] ?_ ?_ (by kernel_rfl) rfl rfl rfl
          · refine ⟨by simp, by simp, ?_⟩
            show _ = stepR (iterR c b 0) b 0
            exact ((congrArg (stepR · b 0) hd.symm).trans (if_neg (by rw [Bool.not_eq_true]; exact h1))).symm
          · simp
      · subst h
        refine J_skip ?_
        refine J_seq ?_
        refine J_block ?_
        refine J_seq ?_
        refine jT [(0, true), (1, true), (2, true), (3, false), (4, true), (5, true), (6, true), (7, true), (8, true), (9, true), (10, true)] [] ?_
        refine Ya (id := 8) (rest := [(3, false), (4, true), (5, true), (6, true), (7, true), (8, true), (9, true), (10, true)]) (Rds 0 3) [14] [(17, .val (.int .i64 d)), (18, .val (.string s0)), (19, .val (.int .i64 i))] ?_
        refine JR_idx 9 s0 i _ (some 20) (by kernel_rfl) (by kernel_rfl) hi0 hb ?_
        refine Ya (id := 8) (rest := []) (Rds 4 11) [20, 17, 18, 19] [(6, .val (.int .i64 ((IntKind.i64.wrap (↑(BitVec.ofInt IntKind.i64.bits d ^^^ BitVec.ofInt IntKind.i64.bits ((IntKind.i64.wrap (↑b.toNat : Int)).fdiv (2 ^ min (Int.toNat 1) IntKind.i64.bits))).toNat : Int)).tmod 2)))] ?_
        refine JR_end ?_
        refine J_seq ?_
        refine Za (Rds 0 3) [] [(3, .val (.int .i64 (IntKind.i64.wrap (d.tdiv 2))))] ?_
        refine J_seq ?_
        refine Za [.rd 0 [] 0 0, .rd 1 [] 0 0] [] [(30, .val (.bool ((IntKind.i64.wrap (↑(BitVec.ofInt IntKind.i64.bits d ^^^ BitVec.ofInt IntKind.i64.bits ((IntKind.i64.wrap (↑b.toNat : Int)).fdiv (2 ^ min (Int.toNat 1) IntKind.i64.bits))).toNat : Int)).tmod 2 == 1)))] ?_
        refine J_cond (t := (IntKind.i64.wrap (↑(BitVec.ofInt IntKind.i64.bits d ^^^ BitVec.ofInt IntKind.i64.bits ((IntKind.i64.wrap (↑b.toNat : Int)).fdiv (2 ^ min (Int.toNat 1) IntKind.i64.bits))).toNat : Int)).tmod 2 == 1) (by kernel_rfl) (by kernel_rfl) (fun h1 => ?_) (fun h1 => ?_)
        · refine Za (Rds 0 3) [30] [(3, .val (.int .i64 (IntKind.i64.wrap (↑(BitVec.ofInt IntKind.i64.bits (IntKind.i64.wrap (d.tdiv 2)) ^^^ BitVec.ofInt IntKind.i64.bits 3988292384).toNat : Int))))] ?_
          refine J_eb ?_
          refine Za (Rds 0 3) [] [(5, .val (.int .i64 2))] ?_
          refine J_backx (2, xorI (IntKind.i64.wrap (d.tdiv 2)) 3988292384) [0, 2, 3, 4, 5] [] [] [] ?_ ?_ (by kernel_rfl) rfl rfl rfl
          · refine ⟨by simp, by simp, ?_⟩
            show _ = stepR (iterR c b 1) b 1
            exact ((congrArg (stepR · b 1) hd.symm).trans (if_pos h1)).symm
          · simp
        · refine J_skip ?_
          refine J_eb ?_
          refine Za (Rds 0 3) [30] [(5, .val (.int .i64 2))] ?_
          refine J_backx (2, IntKind.i64.wrap (d.tdiv 2)) [0, 2, 3, 4, 5] [] [] [] ?_ ?_ (by kernel_rfl) rfl rfl rfl
          · refine ⟨by simp, by simp, ?_⟩
            show _ = stepR (iterR c b 1) b 1
            exact ((congrArg (stepR · b 1) hd.symm).trans (if_neg (by rw [Bool.not_eq_true]; exact h1))).symm
          · simp
      · subst h
        refine J_skip ?_
        refine J_seq ?_
        refine J_block ?_
        refine J_seq ?_
        refine jT [(0, true), (1, true), (2, true), (3, false), (4, true), (5, true), (6, true), (7, true), (8, true), (9, true), (10, true)] [] ?_
        refine Ya (id := 8) (rest := [(3, false), (4, true), (5, true), (6, true), (7, true), (8, true), (9, true), (10, true)]) (Rds 0 3) [14] [(17, .val (.int .i64 d)), (18, .val (.string s0)), (19, .val (.int .i64 i))] ?_
        refine JR_idx 9 s0 i _ (some 20) (by kernel_rfl) (by kernel_rfl) hi0 hb ?_
        refine Ya (id := 8) (rest := []) (Rds 4 11) [20, 17, 18, 19] [(6, .val (.int .i64 ((IntKind.i64.wrap (↑(BitVec.ofInt IntKind.i64.bits d ^^^ BitVec.ofInt IntKind.i64.bits ((IntKind.i64.wrap (↑b.toNat : Int)).fdiv (2 ^ min (Int.toNat 2) IntKind.i64.bits))).toNat : Int)).tmod 2)))] ?_
        refine JR_end ?_
        refine J_seq ?_
        refine Za (Rds 0 3) [] [(3, .val (.int .i64 (IntKind.i64.wrap (d.tdiv 2))))] ?_
        refine J_seq ?_
        refine Za [.rd 0 [] 0 0, .rd 1 [] 0 0] [] [(30, .val (.bool ((IntKind.i64.wrap (↑(BitVec.ofInt IntKind.i64.bits d ^^^ BitVec.ofInt IntKind.i64.bits ((IntKind.i64.wrap (↑b.toNat : Int)).fdiv (2 ^ min (Int.toNat 2) IntKind.i64.bits))).toNat : Int)).tmod 2 == 1)))] ?_
        refine J_cond (t := (IntKind.i64.wrap (↑(BitVec.ofInt IntKind.i64.bits d ^^^ BitVec.ofInt IntKind.i64.bits ((IntKind.i64.wrap (↑b.toNat : Int)).fdiv (2 ^ min (Int.toNat 2) IntKind.i64.bits))).toNat : Int)).tmod 2 == 1) (by kernel_rfl) (by kernel_rfl) (fun h1 => ?_) (fun h1 => ?_)
        · refine Za (Rds 0 3) [30] [(3, .val (.int .i64 (IntKind.i64.wrap (↑(BitVec.ofInt IntKind.i64.bits (IntKind.i64.wrap (d.tdiv 2)) ^^^ BitVec.ofInt IntKind.i64.bits 3988292384).toNat : Int))))] ?_
          refine J_eb ?_
          refine Za (Rds 0 3) [] [(5, .val (.int .i64 3))] ?_
          refine J_backx (3, xorI (IntKind.i64.wrap (d.tdiv 2)) 3988292384) [0, 2, 3, 4, 5] [] [] [] ?_ ?_ (by kernel_rfl) rfl rfl rfl
          · refine ⟨by simp, by simp, ?_⟩
            show _ = stepR (iterR c b 2) b 2
            exact ((congrArg (stepR · b 2) hd.symm).trans (if_pos h1)).symm
          · simp
        · refine J_skip ?_
          refine J_eb ?_
          refine Za (Rds 0 3) [30] [(5, .val (.int .i64 3))] ?_
          refine J_backx (3, IntKind.i64.wrap (d.tdiv 2)) [0, 2, 3, 4, 5] [] [] [] ?_ ?_ (by kernel_rfl) rfl rfl rfl
          · refine ⟨by simp, by simp, ?_⟩
            show _ = stepR (iterR c b 2) b 2
            exact ((congrArg (stepR · b 2) hd.symm).trans (if_neg (by rw [Bool.not_eq_true]; exact h1))).symm
          · simp
      · subst h
        refine J_skip ?_
        refine J_seq ?_
        refine J_block ?_
        refine J_seq ?_
        refine jT [(0, true), (1, true), (2, true), (3, false), (4, true), (5, true), (6, true), (7, true), (8, true), (9, true), (10, true)] [] ?_
        refine Ya (id := 8) (rest := [(3, false), (4, true), (5, true), (6, true), (7, true), (8, true), (9, true), (10, true)]) (Rds 0 3) [14] [(17, .val (.int .i64 d)), (18, .val (.string s0)), (19, .val (.int .i64 i))] ?_
        refine JR_idx 9 s0 i _ (some 20) (by kernel_rfl) (by kernel_rfl) hi0 hb ?_
        refine Ya (id := 8) (rest := []) (Rds 4 11) [20, 17, 18, 19] [(6, .val (.int .i64 ((IntKind.i64.wrap (↑(BitVec.ofInt IntKind.i64.bits d ^^^ BitVec.ofInt IntKind.i64.bits ((IntKind.i64.wrap (↑b.toNat : Int)).fdiv (2 ^ min (Int.toNat 3) IntKind.i64.bits))).toNat : Int)).tmod 2)))] ?_
        refine JR_end ?_
        refine J_seq ?_
        refine Za (Rds 0 3) [] [(3, .val (.int .i64 (IntKind.i64.wrap (d.tdiv 2))))] ?_
        refine J_seq ?_
        refine Za [.rd 0 [] 0 0, .rd 1 [] 0 0] [] [(30, .val (.bool ((IntKind.i64.wrap (↑(BitVec.ofInt IntKind.i64.bits d ^^^ BitVec.ofInt IntKind.i64.bits ((IntKind.i64.wrap (↑b.toNat : Int)).fdiv (2 ^ min (Int.toNat 3) IntKind.i64.bits))).toNat : Int)).tmod 2 == 1)))] ?_
        refine J_cond (t := (IntKind.i64.wrap (↑(BitVec.ofInt IntKind.i64.bits d ^^^ BitVec.ofInt IntKind.i64.bits ((IntKind.i64.wrap (↑b.toNat : Int)).fdiv (2 ^ min (Int.toNat 3) IntKind.i64.bits))).toNat : Int)).tmod 2 == 1) (by kernel_rfl) (by kernel_rfl) (fun h1 => ?_) (fun h1 => ?_)
        · refine Za (Rds 0 3) [30] [(3, .val (.int .i64 (IntKind.i64.wrap (↑(BitVec.ofInt IntKind.i64.bits (IntKind.i64.wrap (d.tdiv 2)) ^^^ BitVec.ofInt IntKind.i64.bits 3988292384).toNat : Int))))] ?_
          refine J_eb ?_
          refine Za (Rds 0 3) [] [(5, .val (.int .i64 4))] ?_
          refine J_backx (4, xorI (IntKind.i64.wrap (d.tdiv 2)) 3988292384) [0, 2, 3, 4, 5] [] [] [] ?_ ?_ (by kernel_rfl) rfl rfl rfl
          · refine ⟨by simp, by simp, ?_⟩
            show _ = stepR (iterR c b 3) b 3
            exact ((congrArg (stepR · b 3) hd.symm).trans (if_pos h1)).symm
          · simp
        · refine J_skip ?_
          refine J_eb ?_
          refine Za (Rds 0 3) [30] [(5, .val (.int .i64 4))] ?_
          refine J_backx (4, IntKind.i64.wrap (d.tdiv 2)) [0, 2, 3, 4, 5] [] [] [] ?_ ?_ (by kernel_rfl) rfl rfl rfl
          · refine ⟨by simp, by simp, ?_⟩
            show _ = stepR (iterR c b 3) b 3
            exact ((congrArg (stepR · b 3) hd.symm).trans (if_neg (by rw [Bool.not_eq_true]; exact h1))).symm
          · simp
      · subst h
        refine J_skip ?_
        refine J_seq ?_
        refine J_block ?_
        refine J_seq ?_
        refine jT [(0, true), (1, true), (2, true), (3, false), (4, true), (5, true), (6, true), (7, true), (8, true), (9, true), (10, true)] [] ?_
        refine Ya (id := 8) (rest := [(3, false), (4, true), (5, true), (6, true), (7, true), (8, true), (9, true), (10, true)]) (Rds 0 3) [14] [(17, .val (.int .i64 d)), (18, .val (.string s0)), (19, .val (.int .i64 i))] ?_
        refine JR_idx 9 s0 i _ (some 20) (by kernel_rfl) (by kernel_rfl) hi0 hb ?_
        refine Ya (id := 8) (rest := []) (Rds 4 11) [20, 17, 18, 19] [(6, .val (.int .i64 ((IntKind.i64.wrap (↑(BitVec.ofInt IntKind.i64.bits d ^^^ BitVec.ofInt IntKind.i64.bits ((IntKind.i64.wrap (↑b.toNat : Int)).fdiv (2 ^ min (Int.toNat 4) IntKind.i64.bits))).toNat : Int)).tmod 2)))] ?_
        refine JR_end ?_
        refine J_seq ?_
        refine Za (Rds 0 3) [] [(3, .val (.int .i64 (IntKind.i64.wrap (d.tdiv 2))))] ?_
        refine J_seq ?_
        refine Za [.rd 0 [] 0 0, .rd 1 [] 0 0] [] [(30, .val (.bool ((IntKind.i64.wrap (↑(BitVec.ofInt IntKind.i64.bits d ^^^ BitVec.ofInt IntKind.i64.bits ((IntKind.i64.wrap (↑b.toNat : Int)).fdiv (2 ^ min (Int.toNat 4) IntKind.i64.bits))).toNat : Int)).tmod 2 == 1)))] ?_
        refine J_cond (t := (IntKind.i64.wrap (↑(BitVec.ofInt IntKind.i64.bits d ^^^ BitVec.ofInt IntKind.i64.bits ((IntKind.i64.wrap (↑b.toNat : Int)).fdiv (2 ^ min (Int.toNat 4) IntKind.i64.bits))).toNat : Int)).tmod 2 == 1) (by kernel_rfl) (by kernel_rfl) (fun h1 => ?_) (fun h1 => ?_)
        · refine Za (Rds 0 3) [30] [(3, .val (.int .i64 (IntKind.i64.wrap (↑(BitVec.ofInt IntKind.i64.bits (IntKind.i64.wrap (d.tdiv 2)) ^^^ BitVec.ofInt IntKind.i64.bits 3988292384).toNat : Int))))] ?_
          refine J_eb ?_
          refine Za (Rds 0 3) [] [(5, .val (.int .i64 5))] ?_
          refine J_backx (5, xorI (IntKind.i64.wrap (d.tdiv 2)) 3988292384) [0, 2, 3, 4, 5] [] [] [] ?_ ?_ (by kernel_rfl) rfl rfl rfl
          · refine ⟨by simp, by simp, ?_⟩
            show _ = stepR (iterR c b 4) b 4
            exact ((congrArg (stepR · b 4) hd.symm).trans (if_pos h1)).symm
          · simp
        · refine J_skip ?_
          refine J_eb ?_
          refine Za (Rds 0 3) [30] [(5, .val (.int .i64 5))] ?_
          refine J_backx (5, IntKind.i64.wrap (d.tdiv 2)) [0, 2, 3, 4, 5] [] [] [] ?_ ?_ (by kernel_rfl) rfl rfl rfl
          · refine ⟨by simp, by simp, ?_⟩
            show _ = stepR (iterR c b 4) b 4
            exact ((congrArg (stepR · b 4) hd.symm).trans (if_neg (by rw [Bool.not_eq_true]; exact h1))).symm
          · simp
      · subst h
        refine J_skip ?_
        refine J_seq ?_
        refine J_block ?_
        refine J_seq ?_
        refine jT [(0, true), (1, true), (2, true), (3, false), (4, true), (5, true), (6, true), (7, true), (8, true), (9, true), (10, true)] [] ?_
        refine Ya (id := 8) (rest := [(3, false), (4, true), (5, true), (6, true), (7, true), (8, true), (9, true), (10, true)]) (Rds 0 3) [14] [(17, .val (.int .i64 d)), (18, .val (.string s0)), (19, .val (.int .i64 i))] ?_
        refine JR_idx 9 s0 i _ (some 20) (by kernel_rfl) (by kernel_rfl) hi0 hb ?_
        refine Ya (id := 8) (rest := []) (Rds 4 11) [20, 17, 18, 19] [(6, .val (.int .i64 ((IntKind.i64.wrap (↑(BitVec.ofInt IntKind.i64.bits d ^^^ BitVec.ofInt IntKind.i64.bits ((IntKind.i64.wrap (↑b.toNat : Int)).fdiv (2 ^ min (Int.toNat 5) IntKind.i64.bits))).toNat : Int)).tmod 2)))] ?_
        refine JR_end ?_
        refine J_seq ?_
        refine Za (Rds 0 3) [] [(3, .val (.int .i64 (IntKind.i64.wrap (d.tdiv 2))))] ?_
        refine J_seq ?_
        refine Za [.rd 0 [] 0 0, .rd 1 [] 0 0] [] [(30, .val (.bool ((IntKind.i64.wrap (↑(BitVec.ofInt IntKind.i64.bits d ^^^ BitVec.ofInt IntKind.i64.bits ((IntKind.i64.wrap (↑b.toNat : Int)).fdiv (2 ^ min (Int.toNat 5) IntKind.i64.bits))).toNat : Int)).tmod 2 == 1)))] ?_
        refine J_cond (t := (IntKind.i64.wrap (↑(BitVec.ofInt IntKind.i64.bits d ^^^ BitVec.ofInt IntKind.i64.bits ((IntKind.i64.wrap (↑b.toNat : Int)).fdiv (2 ^ min (Int.toNat 5) IntKind.i64.bits))).toNat : Int)).tmod 2 == 1) (by kernel_rfl) (by kernel_rfl) (fun h1 => ?_) (fun h1 => ?_)
        · refine Za (Rds 0 3) [30] [(3, .val (.int .i64 (IntKind.i64.wrap (↑(BitVec.ofInt IntKind.i64.bits (IntKind.i64.wrap (d.tdiv 2)) ^^^ BitVec.ofInt IntKind.i64.bits 3988292384).toNat : Int))))] ?_
          refine J_eb ?_
          refine Za (Rds 0 3) [] [(5, .val (.int .i64 6))] ?_
          refine J_backx (6, xorI (IntKind.i64.wrap (d.tdiv 2)) 3988292384) [0, 2, 3, 4, 5] [] [] [] ?_ ?_ (by kernel_rfl) rfl rfl rfl
          · refine ⟨by simp, by simp, ?_⟩
            show _ = stepR (iterR c b 5) b 5
            exact ((congrArg (stepR · b 5) hd.symm).trans (if_pos h1)).symm
          · simp
        · refine J_skip ?_
          refine J_eb ?_
          refine Za (Rds 0 3) [30] [(5, .val (.int .i64 6))] ?_
          refine J_backx (6, IntKind.i64.wrap (d.tdiv 2)) [0, 2, 3, 4, 5] [] [] [] ?_ ?_ (by kernel_rfl) rfl rfl rfl
          · refine ⟨by simp, by simp, ?_⟩
            show _ = stepR (iterR c b 5) b 5
            exact ((congrArg (stepR · b 5) hd.symm).trans (if_neg (by rw [Bool.not_eq_true]; exact h1))).symm
          · simp
      · subst h
        refine J_skip ?_
        refine J_seq ?_
        refine J_block ?_
        refine J_seq ?_
        refine jT [(0, true), (1, true), (2, true), (3, false), (4, true), (5, true), (6, true), (7, true), (8, true), (9, true), (10, true)] [] ?_
        refine Ya (id := 8) (rest := [(3, false), (4, true), (5, true), (6, true), (7, true), (8, true), (9, true), (10, true)]) (Rds 0 3) [14] [(17, .val (.int .i64 d)), (18, .val (.string s0)), (19, .val (.int .i64 i))] ?_
        refine JR_idx 9 s0 i _ (some 20) (by kernel_rfl) (by kernel_rfl) hi0 hb ?_
        refine Ya (id := 8) (rest := []) (Rds 4 11) [20, 17, 18, 19] [(6, .val (.int .i64 ((IntKind.i64.wrap (↑(BitVec.ofInt IntKind.i64.bits d ^^^ BitVec.ofInt IntKind.i64.bits ((IntKind.i64.wrap (↑b.toNat : Int)).fdiv (2 ^ min (Int.toNat 6) IntKind.i64.bits))).toNat : Int)).tmod 2)))] ?_
        refine JR_end ?_
        refine J_seq ?_
        refine Za (Rds 0 3) [] [(3, .val (.int .i64 (IntKind.i64.wrap (d.tdiv 2))))] ?_
        refine J_seq ?_
        refine Za [.rd 0 [] 0 0, .rd 1 [] 0 0] [] [(30, .val (.bool ((IntKind.i64.wrap (↑(BitVec.ofInt IntKind.i64.bits d ^^^ BitVec.ofInt IntKind.i64.bits ((IntKind.i64.wrap (↑b.toNat : Int)).fdiv (2 ^ min (Int.toNat 6) IntKind.i64.bits))).toNat : Int)).tmod 2 == 1)))] ?_
        refine J_cond (t := (IntKind.i64.wrap (↑(BitVec.ofInt IntKind.i64.bits d ^^^ BitVec.ofInt IntKind.i64.bits ((IntKind.i64.wrap (↑b.toNat : Int)).fdiv (2 ^ min (Int.toNat 6) IntKind.i64.bits))).toNat : Int)).tmod 2 == 1) (by kernel_rfl) (by kernel_rfl) (fun h1 => ?_) (fun h1 => ?_)
        · refine Za (Rds 0 3) [30] [(3, .val (.int .i64 (IntKind.i64.wrap (↑(BitVec.ofInt IntKind.i64.bits (IntKind.i64.wrap (d.tdiv 2)) ^^^ BitVec.ofInt IntKind.i64.bits 3988292384).toNat : Int))))] ?_
          refine J_eb ?_
          refine Za (Rds 0 3) [] [(5, .val (.int .i64 7))] ?_
          refine J_backx (7, xorI (IntKind.i64.wrap (d.tdiv 2)) 3988292384) [0, 2, 3, 4, 5] [] [] [] ?_ ?_ (by kernel_rfl) rfl rfl rfl
          · refine ⟨by simp, by simp, ?_⟩
            show _ = stepR (iterR c b 6) b 6
            exact ((congrArg (stepR · b 6) hd.symm).trans (if_pos h1)).symm
          · simp
        · refine J_skip ?_
          refine J_eb ?_
          refine Za (Rds 0 3) [30] [(5, .val (.int .i64 7))] ?_
          refine J_backx (7, IntKind.i64.wrap (d.tdiv 2)) [0, 2, 3, 4, 5] [] [] [] ?_ ?_ (by kernel_rfl) rfl rfl rfl
          · refine ⟨by simp, by simp, ?_⟩
            show _ = stepR (iterR c b 6) b 6
            exact ((congrArg (stepR · b 6) hd.symm).trans (if_neg (by rw [Bool.not_eq_true]; exact h1))).symm
          · simp
      · subst h
        refine J_skip ?_
        refine J_seq ?_
        refine J_block ?_
        refine J_seq ?_
        refine jT [(0, true), (1, true), (2, true), (3, false), (4, true), (5, true), (6, true), (7, true), (8, true), (9, true), (10, true)] [] ?_
        refine Ya (id := 8) (rest := [(3, false), (4, true), (5, true), (6, true), (7, true), (8, true), (9, true), (10, true)]) (Rds 0 3) [14] [(17, .val (.int .i64 d)), (18, .val (.string s0)), (19, .val (.int .i64 i))] ?_
        refine JR_idx 9 s0 i _ (some 20) (by kernel_rfl) (by kernel_rfl) hi0 hb ?_
        refine Ya (id := 8) (rest := []) (Rds 4 11) [20, 17, 18, 19] [(6, .val (.int .i64 ((IntKind.i64.wrap (↑(BitVec.ofInt IntKind.i64.bits d ^^^ BitVec.ofInt IntKind.i64.bits ((IntKind.i64.wrap (↑b.toNat : Int)).fdiv (2 ^ min (Int.toNat 7) IntKind.i64.bits))).toNat : Int)).tmod 2)))] ?_
        refine JR_end ?_
        refine J_seq ?_
        refine Za (Rds 0 3) [] [(3, .val (.int .i64 (IntKind.i64.wrap (d.tdiv 2))))] ?_
        refine J_seq ?_
        refine Za [.rd 0 [] 0 0, .rd 1 [] 0 0] [] [(30, .val (.bool ((IntKind.i64.wrap (↑(BitVec.ofInt IntKind.i64.bits d ^^^ BitVec.ofInt IntKind.i64.bits ((IntKind.i64.wrap (↑b.toNat : Int)).fdiv (2 ^ min (Int.toNat 7) IntKind.i64.bits))).toNat : Int)).tmod 2 == 1)))] ?_
        refine J_cond (t := (IntKind.i64.wrap (↑(BitVec.ofInt IntKind.i64.bits d ^^^ BitVec.ofInt IntKind.i64.bits ((IntKind.i64.wrap (↑b.toNat : Int)).fdiv (2 ^ min (Int.toNat 7) IntKind.i64.bits))).toNat : Int)).tmod 2 == 1) (by kernel_rfl) (by kernel_rfl) (fun h1 => ?_) (fun h1 => ?_)
        · refine Za (Rds 0 3) [30] [(3, .val (.int .i64 (IntKind.i64.wrap (↑(BitVec.ofInt IntKind.i64.bits (IntKind.i64.wrap (d.tdiv 2)) ^^^ BitVec.ofInt IntKind.i64.bits 3988292384).toNat : Int))))] ?_
          refine J_eb ?_
          refine Za (Rds 0 3) [] [(5, .val (.int .i64 8))] ?_
          refine J_backx (8, xorI (IntKind.i64.wrap (d.tdiv 2)) 3988292384) [0, 2, 3, 4, 5] [] [] [] ?_ ?_ (by kernel_rfl) rfl rfl rfl
          · refine ⟨by simp, by simp, ?_⟩
            show _ = stepR (iterR c b 7) b 7
            exact ((congrArg (stepR · b 7) hd.symm).trans (if_pos h1)).symm
          · simp
        · refine J_skip ?_
          refine J_eb ?_
          refine Za (Rds 0 3) [30] [(5, .val (.int .i64 8))] ?_
          refine J_backx (8, IntKind.i64.wrap (d.tdiv 2)) [0, 2, 3, 4, 5] [] [] [] ?_ ?_ (by kernel_rfl) rfl rfl rfl
          · refine ⟨by simp, by simp, ?_⟩
            show _ = stepR (iterR c b 7) b 7
            exact ((congrArg (stepR · b 7) hd.symm).trans (if_neg (by rw [Bool.not_eq_true]; exact h1))).symm
          · simp
    · obtain rfl : k = 8 := by simp at hk8; omega
      refine J_exit rfl ?_
      refine J_eb ?_
      refine Zp [.rd 0 [] 0 0, .rd 1 [] 0 1, .rd 2 [] 0 0] [14] [(4, .val (.int .i64 (i + 1)))] [IntKind.i64.wrap (i + (1 : Int)) = i + (1 : Int)] ⟨wrap_i64 (by omega) (by omega), trivial⟩ ?_
      refine J_backx (i + 1, d) [0, 2, 3, 4] [] [] [] ?_ ?_ (by kernel_rfl) rfl rfl rfl
      · refine ⟨by simp only; omega, by simp only; omega, ?_⟩
        simp only at hd hc ⊢
        rw [show (i + 1).toNat = i.toNat + 1 by omega, crcR_snoc hb, ← hc, hd]
        rfl
      · simp only
        omega
  · obtain rfl : i = s0.size := by simp at hlt; omega
    refine J_exit rfl ?_
    refine J_seq ?_
    refine Za (Rds 0 3) [10, 0, 3, 4] [(2, .val (.int .i64 (IntKind.i64.wrap (↑(BitVec.ofInt IntKind.i64.bits c ^^^ BitVec.ofInt IntKind.i64.bits 4294967295).toNat : Int))))] ?_
    refine Yr [[]] (.int .i64 (IntKind.i64.wrap (↑(BitVec.ofInt IntKind.i64.bits c ^^^ BitVec.ofInt IntKind.i64.bits 4294967295).toNat : Int))) fun a w s => ?_
    have e : c = crcR (s0.data.toList) := by
      simp only at hc
      rw [hc, List.take_of_length_le (by omega)]
    rw [← e]
    exact s.ret (by simp) [] [] rfl rfl
end Go.Proofs.YtehdegekgdlifaaDoor
end
section
namespace Go.Sx
open Go
theorem wrap_if (x : Int) : IntKind.i64.wrap x = if x % 18446744073709551616 ≥ 9223372036854775808 then x % 18446744073709551616 - 18446744073709551616 else x % 18446744073709551616 := by
  simp [IntKind.wrap, IntKind.signed, IntKind.bits]
abbrev Rd (α : Type) := List UInt8 → Option (α × List UInt8)
abbrev St2 := List UInt8 × Bool
structure Good {α : Type} (rd : Rd α) (r : St2 → α × St2) : Prop where
  ok : ∀ l x l', rd l = some (x, l') → r (l, false) = (x, (l', false))
  no : ∀ l, rd l = none → (r (l, false)).2.2 = true
  bad : ∀ s, s.2 = true → (r s).2.2 = true
theorem Good.pure {α : Type} (x : α) : Good (fun l => some (x, l)) fun s => (x, s) := ⟨fun l y l' h => (by cases h; rfl), fun l h => (by cases h), fun s hs => hs⟩
end Go.Sx
end
section
namespace Go.Proofs.YtehdegekgdlifaaDoor
open Go Go.Sx
theorem ofInt32 {a : Nat} (h : a < 4294967296) : (BitVec.ofInt 32 (a : Int)).toNat = a := by
  rw [BitVec.toNat_ofInt]
  omega
theorem ofInt64 {a : Nat} (h : a < 4294967296) : (BitVec.ofInt 64 (a : Int)).toNat = a := by
  rw [BitVec.toNat_ofInt]
  omega
theorem wrapU {a : Nat} (h : a < 4294967296) : IntKind.u32.wrap (a : Int) = (a : Int) := by
  simp [IntKind.wrap, IntKind.signed, IntKind.bits]
  omega
theorem wrapI {a : Nat} (h : a < 4294967296) : IntKind.i64.wrap (a : Int) = (a : Int) := by
  rw [wrap_if]
  omega
theorem xor32 {a b : Nat} (ha : a < 4294967296) (hb : b < 4294967296) : a ^^^ b < 4294967296 := Nat.xor_lt_two_pow (n := 32) ha hb
theorem xorU_nat {a b : Nat} (ha : a < 4294967296) (hb : b < 4294967296) : xorU (a : Int) (b : Int) = ((a ^^^ b : Nat) : Int) := by
  have e : (BitVec.ofInt IntKind.u32.bits (a : Int) ^^^ BitVec.ofInt IntKind.u32.bits (b : Int)).toNat = a ^^^ b := by
    rw [BitVec.toNat_xor]
    exact congr (congrArg HXor.hXor (ofInt32 ha)) (ofInt32 hb)
  unfold xorU
  rw [e]
  exact wrapU (xor32 ha hb)
theorem andU_nat {a b : Nat} (ha : a < 4294967296) (hb : b < 4294967296) : andU (a : Int) (b : Int) = ((a &&& b : Nat) : Int) := by
  have e : (BitVec.ofInt IntKind.u32.bits (a : Int) &&& BitVec.ofInt IntKind.u32.bits (b : Int)).toNat = a &&& b := by
    rw [BitVec.toNat_and]
    exact congr (congrArg HAnd.hAnd (ofInt32 ha)) (ofInt32 hb)
  unfold andU
  rw [e]
  exact wrapU (Nat.lt_of_le_of_lt Nat.and_le_left ha)
theorem xorI_nat {a b : Nat} (ha : a < 4294967296) (hb : b < 4294967296) : xorI (a : Int) (b : Int) = ((a ^^^ b : Nat) : Int) := by
  have e : (BitVec.ofInt IntKind.i64.bits (a : Int) ^^^ BitVec.ofInt IntKind.i64.bits (b : Int)).toNat = a ^^^ b := by
    rw [BitVec.toNat_xor]
    exact congr (congrArg HXor.hXor (ofInt64 ha)) (ofInt64 hb)
  unfold xorI
  rw [e]
  exact wrapI (xor32 ha hb)
def stepN (a : Nat) : Nat := a >>> 1 ^^^ 3988292384 * (a &&& 1)
theorem and1 (a : Nat) : a &&& 1 = 0 ∨ a &&& 1 = 1 := by
  rw [Nat.and_one_is_mod]
  omega
theorem shr32 {a : Nat} (h : a < 4294967296) : a >>> 1 < 4294967296 := by
  rw [Nat.shiftRight_eq_div_pow]
  omega
theorem poly32 (a : Nat) : 3988292384 * (a &&& 1) < 4294967296 := by
  rcases and1 a with h | h <;> rw [h] <;> decide
theorem stepN_lt {a : Nat} (h : a < 4294967296) : stepN a < 4294967296 := xor32 (shr32 h) (poly32 a)
theorem stepU_nat {a : Nat} (h : a < 4294967296) : stepU (a : Int) = (stepN a : Int) := by
  unfold stepU stepN
  have e1 : (a : Int).fdiv (2 ^ min (Int.toNat 1) IntKind.u32.bits) = ((a >>> 1 : Nat) : Int) := by
    rw [Nat.shiftRight_eq_div_pow]
    show (a : Int).fdiv 2 = _
    rw [Int.fdiv_eq_ediv_of_nonneg _ (by decide)]
    simp
  have e2 : andU (a : Int) 1 = ((a &&& 1 : Nat) : Int) := andU_nat h (b := 1) (by decide)
  have e3 : (3988292384 : Int) * ((a &&& 1 : Nat) : Int) = ((3988292384 * (a &&& 1) : Nat) : Int) := by simp
  rw [e1, e2, e3, wrapU (poly32 a)]
  exact xorU_nat (shr32 h) (poly32 a)
def iterN : Nat → Nat → Nat
  | 0, d => d
  | n + 1, d => stepN (iterN n d)
theorem iterN_lt {a : Nat} (h : a < 4294967296) : ∀ k, iterN k a < 4294967296
  | 0 => h
  | k + 1 => stepN_lt (iterN_lt h k)
theorem iterU_nat {a : Nat} (h : a < 4294967296) : ∀ k, iterU k (a : Int) = (iterN k a : Int)
  | 0 => rfl
  | k + 1 => by
    unfold iterU iterN
    rw [iterU_nat h k]
    exact stepU_nat (iterN_lt h k)
def stepD (d b k : Nat) : Nat := if (d ^^^ b >>> k) % 2 = 1 then d >>> 1 ^^^ 3988292384 else d >>> 1
def iterD (c b : Nat) : Nat → Nat
  | 0 => c
  | n + 1 => stepD (iterD c b n) b n
theorem stepD_lt {d : Nat} (h : d < 4294967296) (b k : Nat) : stepD d b k < 4294967296 := by
  unfold stepD
  split
  · exact xor32 (shr32 h) (by decide)
  · exact shr32 h
theorem iterD_lt {c : Nat} (h : c < 4294967296) (b : Nat) : ∀ k, iterD c b k < 4294967296
  | 0 => h
  | k + 1 => stepD_lt (iterD_lt h b k) b k
theorem shrk32 {b : Nat} (h : b < 4294967296) (k : Nat) : b >>> k < 4294967296 := by
  rw [Nat.shiftRight_eq_div_pow]
  exact Nat.lt_of_le_of_lt (Nat.div_le_self _ _) h
theorem stepR_nat {d : Nat} (h : d < 4294967296) (b : UInt8) {k : Nat} (hk : k ≤ 63) : stepR (d : Int) b (k : Int) = (stepD d b.toNat k : Int) := by
  have hb : b.toNat < 4294967296 := by have := b.toNat_lt; omega
  have e0 : IntKind.i64.wrap ((b.toNat : Nat) : Int) = (b.toNat : Int) := wrapI hb
  have e1 : (IntKind.i64.wrap ((b.toNat : Nat) : Int)).fdiv (2 ^ min (Int.toNat (k : Int)) IntKind.i64.bits) = ((b.toNat >>> k : Nat) : Int) := by
    rw [e0, Nat.shiftRight_eq_div_pow, Int.toNat_natCast, show min k IntKind.i64.bits = k from Nat.min_eq_left (by show k ≤ 64; omega)]
    rw [Int.fdiv_eq_ediv_of_nonneg _ (Int.pow_nonneg (by decide))]
    simp
  have e2 : xorI (d : Int) ((b.toNat >>> k : Nat) : Int) = ((d ^^^ b.toNat >>> k : Nat) : Int) := xorI_nat h (shrk32 hb k)
  have e3 : bitR (d : Int) b (k : Int) = (((d ^^^ b.toNat >>> k) % 2 : Nat) : Int) := by
    unfold bitR
    rw [e1, e2]
    rw [Int.tmod_eq_emod_of_nonneg (by omega)]
    simp
  have e4 : IntKind.i64.wrap ((d : Int).tdiv 2) = ((d >>> 1 : Nat) : Int) := by
    have : (d : Int).tdiv 2 = ((d >>> 1 : Nat) : Int) := by
      rw [Int.tdiv_eq_ediv_of_nonneg (by omega), Nat.shiftRight_eq_div_pow]
      simp
    rw [this]
    exact wrapI (shr32 h)
  unfold stepR stepD
  rw [e3, e4]
  by_cases hc : (d ^^^ b.toNat >>> k) % 2 = 1
  · rw [if_pos hc, if_pos (by simp [hc])]
    exact xorI_nat (shr32 h) (b := 3988292384) (by decide)
  · rw [if_neg hc, if_neg]
    have : (d ^^^ b.toNat >>> k) % 2 = 0 := by omega
    rw [this]
    decide
theorem iterR_nat {c : Nat} (h : c < 4294967296) (b : UInt8) : ∀ k, k ≤ 64 → iterR (c : Int) b k = (iterD c b.toNat k : Int)
  | 0, _ => rfl
  | k + 1, hk => by
    unfold iterR iterD
    rw [iterR_nat h b k (by omega)]
    exact stepR_nat (iterD_lt h _ k) b (by omega)
theorem iter_same (c b : Nat) : ∀ k, iterN k (c ^^^ b) = iterD c b k ^^^ b >>> k
  | 0 => by simp [iterN, iterD]
  | k + 1 => by
    have ih := iter_same c b k
    unfold iterN iterD
    rw [ih]
    generalize iterD c b k = d
    unfold stepN stepD
    have e1 : (d ^^^ b >>> k) >>> 1 = d >>> 1 ^^^ b >>> (k + 1) := by
      rw [Nat.shiftRight_xor_distrib, Nat.shiftRight_add]
    rw [e1, Nat.and_one_is_mod]
    by_cases hc : (d ^^^ b >>> k) % 2 = 1
    · rw [if_pos hc, hc, Nat.mul_one]
      rw [Nat.xor_assoc, Nat.xor_assoc]
      congr 1
      exact Nat.xor_comm _ _
    · rw [if_neg hc]
      have : (d ^^^ b >>> k) % 2 = 0 := by omega
      rw [this, Nat.mul_zero, Nat.xor_zero]
def crcN (l : List UInt8) : Nat := l.foldl (fun c b => iterD c b.toNat 8) 4294967295
theorem crc_go (l : List UInt8) : ∀ {c : Nat}, c < 4294967296 → l.foldl (fun c b => iterU 8 (xorU c (IntKind.u32.wrap (b.toNat : Int)))) (c : Int) = ((l.foldl (fun c b => iterD c b.toNat 8) c : Nat) : Int) ∧ l.foldl (fun c b => iterR c b 8) (c : Int) = ((l.foldl (fun c b => iterD c b.toNat 8) c : Nat) : Int) ∧ l.foldl (fun c b => iterD c b.toNat 8) c < 4294967296 := by
  induction l with
  | nil => exact fun h => ⟨rfl, rfl, h⟩
  | cons b l ih =>
    intro c h
    have hb : b.toNat < 4294967296 := by have := b.toNat_lt; omega
    simp only [List.foldl_cons]
    have e1 : iterU 8 (xorU (c : Int) (IntKind.u32.wrap (b.toNat : Int))) = (iterD c b.toNat 8 : Int) := by
      rw [wrapU hb, xorU_nat h hb, iterU_nat (xor32 h hb), iter_same]
      have : b.toNat >>> 8 = 0 := by
        rw [Nat.shiftRight_eq_div_pow]
        have := b.toNat_lt
        omega
      rw [this, Nat.xor_zero]
    rw [e1, iterR_nat h b 8 (by decide)]
    exact ih (iterD_lt h _ 8)
def sumN (l : List UInt8) : Nat := crcN l ^^^ 4294967295
theorem crcN_lt (l : List UInt8) : crcN l < 4294967296 := (crc_go l (c := 4294967295) (by decide)).2.2
theorem sumN_lt (l : List UInt8) : sumN l < 4294967296 := xor32 (crcN_lt l) (by decide)
theorem crcU_sum (l : List UInt8) : notU (crcU l) = (sumN l : Int) := by
  have e : crcU l = (crcN l : Int) := (crc_go l (c := 4294967295) (by decide)).1
  unfold notU sumN
  rw [e, Nat.xor_comm]
  exact xorU_nat (a := 4294967295) (by decide) (crcN_lt l)
theorem crcR_sum (l : List UInt8) : xorI (crcR l) 4294967295 = (sumN l : Int) := by
  have e : crcR l = (crcN l : Int) := (crc_go l (c := 4294967295) (by decide)).2.1
  unfold sumN
  rw [e]
  exact xorI_nat (crcN_lt l) (b := 4294967295) (by decide)
end Go.Proofs.YtehdegekgdlifaaDoor
end
section
namespace Go.Proofs.YtehdegekgdlifaaDoor
open Go Go.Sx
set_option maxHeartbeats 4000000 in
theorem sumWB {w : World} {S : Nat → Prop} {s0 : ByteArray} (h9 : s0.size ≤ 100000) : Calls Tryd.prog 14 #[.string s0] w fun e w' => Ret [] w S w' e (.int .u32 (sumN s0.data.toList)) [] [] :=
  (crcPW (S := S) h9).mono fun e w' h => by rw [crcU_sum] at h; exact h
set_option maxHeartbeats 4000000 in
theorem sumRB {w : World} {S : Nat → Prop} {s0 : ByteArray} (h9 : s0.size ≤ 100000) : Calls Tryd.prog 16 #[.string s0] w fun e w' => Ret [] w S w' e (.int .i64 (sumN s0.data.toList)) [] [] :=
  (crcRW (S := S) h9).mono fun e w' h => by rw [crcR_sum] at h; exact h
def shardN (key : ByteArray) (n : Int) : Int := (sumN key.data.toList : Int).tmod n
theorem shardN_wrap {key : ByteArray} {n : Int} (h1 : 1 ≤ n) (h6 : n ≤ 6) : IntKind.i64.wrap ((IntKind.i64.wrap (sumN key.data.toList : Int)).tmod n) = shardN key n := by
  have h := sumN_lt key.data.toList
  rw [wrapI h]
  unfold shardN
  obtain ⟨m, rfl⟩ : ∃ m : Nat, n = m := ⟨n.toNat, by omega⟩
  rw [Int.tmod_eq_emod_of_nonneg (by omega), ← Int.natCast_emod]
  exact wrapI (Nat.lt_of_le_of_lt (Nat.mod_le _ _) h)
theorem shardN_prog {key : ByteArray} {n : Int} (h1 : 1 ≤ n) (h6 : n ≤ 6) : (IntKind.i64.wrap (sumN key.data.toList : Int)).tmod n = shardN key n := by
  rw [wrapI (sumN_lt key.data.toList)]
  rfl
theorem shardN_raw {key : ByteArray} {n : Int} (_ : 1 ≤ n) (_ : n ≤ 6) : (sumN key.data.toList : Int).tmod n = shardN key n := rfl
theorem shardN_doc {key : ByteArray} {n : Int} (h1 : 1 ≤ n) (h6 : n ≤ 6) : IntKind.i64.wrap ((sumN key.data.toList : Int).tmod n) = shardN key n := by
  have h := shardN_wrap (key := key) h1 h6
  rwa [wrapI (sumN_lt key.data.toList)] at h
theorem nameOk_len {s : ByteArray} (h : nameOk s = true) : s.size ≤ 16 := by
  simp only [nameOk, Bool.and_eq_true, decide_eq_true_eq] at h
  exact h.1.2
def shardE (key : ByteArray) (n : Int) : Int := if nameOk key = true then shardN key n else 0
set_option maxHeartbeats 4000000 in
theorem shardW {w : World} {S : Nat → Prop} {er : Nat → Addr} {eb : Nat → Array Value × TypeId} {key : ByteArray} {n : Int} (hC : Rep w S .nilIface (dC er eb)) :
    Calls Tryd.prog 5 #[.string key, .int .i64 n] w fun e w' =>
      (nameOk key = false ∧ Ret [] w S w' e (.tuple #[.int .i64 0, .iface 156 (.pointer (some (er 4)))]) [] []) ∨
      (nameOk key = true ∧ (n < 1 ∨ 6 < n) ∧ Ret [] w S w' e (.tuple #[.int .i64 0, .iface 156 (.pointer (some (er 2)))]) [] []) ∨
      (nameOk key = true ∧ (1 ≤ n ∧ n ≤ 6) ∧ Ret [] w S w' e (.tuple #[.int .i64 (shardN key n), .nilIface]) [] []) := by
  refine ep5 (args := [.string key, .int .i64 n]) (G := [(_, dC er eb)]) (by kernel_rfl) (.cons hC (.nil _ _)) ?_
  refine J_stp (stp_all 0 [1, 3] rfl rfl) ?_
  refine J_glob 1 rfl (fun csg1 tyg1 fzg1 hglob1 => ?_)
  refine J_glob 2 rfl (fun csg2 tyg2 fzg2 hglob2 => ?_)
  try simp only [aQ]
  refine J_seq ?_
  refine Za [.rd 0 [] 0 0, .rd 1 [] 0 0] [] [(4, .val (.int .i64 0)), (5, .val (.nilIface))] ?_
  refine J_seq ?_
  refine J_seq ?_
  refine jT [(0, true), (1, false), (2, true)] [] ?_
  refine Ya (id := 1) (rest := [(1, false), (2, true)]) [.rd 0 [] 0 0] [] [(6, .val (.string key))] ?_
  refine Yc 13 #[.string key] (some 7) fun w S hG => ?_
  refine (vName (S := S)).mono ?_
  rintro e1 w1 hR
  refine ⟨_, _, _, hR, ?_⟩
  try simp only [aQ]
  refine Ya (id := 1) (rest := []) [.rd 2 [] 0 0] [7, 6] [(8, .val (.bool (!nameOk key)))] ?_
  refine JR_end ?_
  refine J_cond (t := !nameOk key) (by kernel_rfl) (by kernel_rfl) (fun hn => ?_) (fun hn => ?_)
  · have hn2 : nameOk key = false := by simpa using hn
    refine J_seq ?_
    refine Zp [.rd 0 [.r 1 (some (.iface 156 (.pointer (some (er 4)))))] 0 0, .rd 1 [] 0 0, .rd 2 [] 0 0] [8] [(5, .val (.iface 156 (.pointer (some (er 4)))))] [csg2[(0 : Nat)]? = some (Value.iface (156 : Nat) (Value.pointer (some (er (4 : Nat)))))] ⟨hglob2, trivial⟩ ?_
    refine Yr [[], []] (.tuple #[.int .i64 0, .iface 156 (.pointer (some (er 4)))]) fun a w s => ?_
    exact .inl ⟨hn2, s.ret (by simp) [] [] rfl rfl⟩
  · have hn2 : nameOk key = true := by simpa using hn
    have hk := nameOk_len hn2
    refine J_skip ?_
    refine J_seq ?_
    refine J_seq ?_
    refine Za (Rds 0 3 ++ [.rd 3 [] 2 0, .rd 4 [] 2 0, .rd 5 [] 0 3]) [8] [(15, .val (.bool (decide (n < 1) || decide (n > 6))))] ?_
    refine J_cond (t := decide (n < 1) || decide (n > 6)) (by kernel_rfl) (by kernel_rfl) (fun hb => ?_) (fun hb => ?_)
    · refine J_seq ?_
      refine Zp [.rd 0 [.r 0 (some (.iface 156 (.pointer (some (er 2)))))] 0 0, .rd 1 [] 0 0, .rd 2 [] 0 0] [15] [(5, .val (.iface 156 (.pointer (some (er 2)))))] [csg1[(0 : Nat)]? = some (Value.iface (156 : Nat) (Value.pointer (some (er (2 : Nat)))))] ⟨hglob1, trivial⟩ ?_
      refine Yr [[], []] (.tuple #[.int .i64 0, .iface 156 (.pointer (some (er 2)))]) fun a w s => ?_
      exact .inr (.inl ⟨hn2, by simp at hb; omega, s.ret (by simp) [] [] rfl rfl⟩)
    · have hb2 : 1 ≤ n ∧ n ≤ 6 := by simp at hb; omega
      obtain h | h | h | h | h | h : n = 1 ∨ n = 2 ∨ n = 3 ∨ n = 4 ∨ n = 5 ∨ n = 6 := by omega
      · subst h
        refine J_skip ?_
        refine J_seq ?_
        refine jT [(0, true), (1, false), (2, true), (3, true), (4, true), (5, true), (6, true)] [] ?_
        refine Ya (id := 5) (rest := [(1, false), (2, true), (3, true), (4, true), (5, true), (6, true)]) [.rd 0 [] 0 0] [15, 0] [(17, .val (.string key))] ?_
        refine Yc 14 #[.string key] (some 18) fun w S hG => ?_
        refine (sumWB (S := S) (by omega)).mono ?_
        rintro e2 w2 hR
        refine ⟨_, _, _, hR, ?_⟩
        try simp only [aQ]
        refine Ya (id := 5) (rest := []) (Rds 2 7) [18, 17, 1] [(4, .val (.int .i64 ((IntKind.i64.wrap (↑(sumN key.data.toList) : Int)).tmod 1)))] ?_
        refine JR_end ?_
        refine Yr [[], []] (.tuple #[.int .i64 ((IntKind.i64.wrap (↑(sumN key.data.toList) : Int)).tmod 1), .nilIface]) fun a w s => ?_
        rw [shardN_prog (by decide) (by decide)]
        exact .inr (.inr ⟨hn2, hb2, s.ret (by simp) [] [] rfl rfl⟩)
      · subst h
        refine J_skip ?_
        refine J_seq ?_
        refine jT [(0, true), (1, false), (2, true), (3, true), (4, true), (5, true), (6, true)] [] ?_
        refine Ya (id := 5) (rest := [(1, false), (2, true), (3, true), (4, true), (5, true), (6, true)]) [.rd 0 [] 0 0] [15, 0] [(17, .val (.string key))] ?_
        refine Yc 14 #[.string key] (some 18) fun w S hG => ?_
        refine (sumWB (S := S) (by omega)).mono ?_
        rintro e2 w2 hR
        refine ⟨_, _, _, hR, ?_⟩
        try simp only [aQ]
        refine Ya (id := 5) (rest := []) (Rds 2 7) [18, 17, 1] [(4, .val (.int .i64 ((IntKind.i64.wrap (↑(sumN key.data.toList) : Int)).tmod 2)))] ?_
        refine JR_end ?_
        refine Yr [[], []] (.tuple #[.int .i64 ((IntKind.i64.wrap (↑(sumN key.data.toList) : Int)).tmod 2), .nilIface]) fun a w s => ?_
        rw [shardN_prog (by decide) (by decide)]
        exact .inr (.inr ⟨hn2, hb2, s.ret (by simp) [] [] rfl rfl⟩)
      · subst h
        refine J_skip ?_
        refine J_seq ?_
        refine jT [(0, true), (1, false), (2, true), (3, true), (4, true), (5, true), (6, true)] [] ?_
        refine Ya (id := 5) (rest := [(1, false), (2, true), (3, true), (4, true), (5, true), (6, true)]) [.rd 0 [] 0 0] [15, 0] [(17, .val (.string key))] ?_
        refine Yc 14 #[.string key] (some 18) fun w S hG => ?_
        refine (sumWB (S := S) (by omega)).mono ?_
        rintro e2 w2 hR
        refine ⟨_, _, _, hR, ?_⟩
        try simp only [aQ]
        refine Ya (id := 5) (rest := []) (Rds 2 7) [18, 17, 1] [(4, .val (.int .i64 ((IntKind.i64.wrap (↑(sumN key.data.toList) : Int)).tmod 3)))] ?_
        refine JR_end ?_
        refine Yr [[], []] (.tuple #[.int .i64 ((IntKind.i64.wrap (↑(sumN key.data.toList) : Int)).tmod 3), .nilIface]) fun a w s => ?_
        rw [shardN_prog (by decide) (by decide)]
        exact .inr (.inr ⟨hn2, hb2, s.ret (by simp) [] [] rfl rfl⟩)
      · subst h
        refine J_skip ?_
        refine J_seq ?_
        refine jT [(0, true), (1, false), (2, true), (3, true), (4, true), (5, true), (6, true)] [] ?_
        refine Ya (id := 5) (rest := [(1, false), (2, true), (3, true), (4, true), (5, true), (6, true)]) [.rd 0 [] 0 0] [15, 0] [(17, .val (.string key))] ?_
        refine Yc 14 #[.string key] (some 18) fun w S hG => ?_
        refine (sumWB (S := S) (by omega)).mono ?_
        rintro e2 w2 hR
        refine ⟨_, _, _, hR, ?_⟩
        try simp only [aQ]
        refine Ya (id := 5) (rest := []) (Rds 2 7) [18, 17, 1] [(4, .val (.int .i64 ((IntKind.i64.wrap (↑(sumN key.data.toList) : Int)).tmod 4)))] ?_
        refine JR_end ?_
        refine Yr [[], []] (.tuple #[.int .i64 ((IntKind.i64.wrap (↑(sumN key.data.toList) : Int)).tmod 4), .nilIface]) fun a w s => ?_
        rw [shardN_prog (by decide) (by decide)]
        exact .inr (.inr ⟨hn2, hb2, s.ret (by simp) [] [] rfl rfl⟩)
      · subst h
        refine J_skip ?_
        refine J_seq ?_
        refine jT [(0, true), (1, false), (2, true), (3, true), (4, true), (5, true), (6, true)] [] ?_
        refine Ya (id := 5) (rest := [(1, false), (2, true), (3, true), (4, true), (5, true), (6, true)]) [.rd 0 [] 0 0] [15, 0] [(17, .val (.string key))] ?_
        refine Yc 14 #[.string key] (some 18) fun w S hG => ?_
        refine (sumWB (S := S) (by omega)).mono ?_
        rintro e2 w2 hR
        refine ⟨_, _, _, hR, ?_⟩
        try simp only [aQ]
        refine Ya (id := 5) (rest := []) (Rds 2 7) [18, 17, 1] [(4, .val (.int .i64 ((IntKind.i64.wrap (↑(sumN key.data.toList) : Int)).tmod 5)))] ?_
        refine JR_end ?_
        refine Yr [[], []] (.tuple #[.int .i64 ((IntKind.i64.wrap (↑(sumN key.data.toList) : Int)).tmod 5), .nilIface]) fun a w s => ?_
        rw [shardN_prog (by decide) (by decide)]
        exact .inr (.inr ⟨hn2, hb2, s.ret (by simp) [] [] rfl rfl⟩)
      · subst h
        refine J_skip ?_
        refine J_seq ?_
        refine jT [(0, true), (1, false), (2, true), (3, true), (4, true), (5, true), (6, true)] [] ?_
        refine Ya (id := 5) (rest := [(1, false), (2, true), (3, true), (4, true), (5, true), (6, true)]) [.rd 0 [] 0 0] [15, 0] [(17, .val (.string key))] ?_
        refine Yc 14 #[.string key] (some 18) fun w S hG => ?_
        refine (sumWB (S := S) (by omega)).mono ?_
        rintro e2 w2 hR
        refine ⟨_, _, _, hR, ?_⟩
        try simp only [aQ]
        refine Ya (id := 5) (rest := []) (Rds 2 7) [18, 17, 1] [(4, .val (.int .i64 ((IntKind.i64.wrap (↑(sumN key.data.toList) : Int)).tmod 6)))] ?_
        refine JR_end ?_
        refine Yr [[], []] (.tuple #[.int .i64 ((IntKind.i64.wrap (↑(sumN key.data.toList) : Int)).tmod 6), .nilIface]) fun a w s => ?_
        rw [shardN_prog (by decide) (by decide)]
        exact .inr (.inr ⟨hn2, hb2, s.ret (by simp) [] [] rfl rfl⟩)
set_option maxHeartbeats 4000000 in
theorem shardV {w : World} {S : Nat → Prop} {er : Nat → Addr} {eb : Nat → Array Value × TypeId} {key : ByteArray} {n : Int} (hC : Rep w S .nilIface (dC er eb)) (h1 : 1 ≤ n) (h6 : n ≤ 6) :
    Calls Tryd.prog 5 #[.string key, .int .i64 n] w fun e w' => ∃ v, Ret [] w S w' e (.tuple #[.int .i64 (shardE key n), v]) [] [] :=
  (shardW hC).mono fun e w' h => by
    rcases h with ⟨hn, h⟩ | ⟨_, hb, _⟩ | ⟨hn, _, h⟩
    · exact ⟨_, by rw [shardE, if_neg (by simp [hn])]; exact h⟩
    · omega
    · exact ⟨_, by rw [shardE, if_pos hn]; exact h⟩
set_option maxHeartbeats 4000000 in
theorem shardOf {w : World} {S : Nat → Prop} {key : ByteArray} {n : Int} (hk : key.size ≤ 90000) (h1 : 1 ≤ n) (h6 : n ≤ 6) :
    Calls Tryd.prog 8 #[.string key, .int .i64 n] w fun e w' => Ret [] w S w' e (.int .i64 (shardN key n)) [] [] := by
  refine ep8 (args := [.string key, .int .i64 n]) (S := S) (G := []) (by kernel_rfl) (AllG.nil _ _) ?_
  obtain h | h | h | h | h | h : n = 1 ∨ n = 2 ∨ n = 3 ∨ n = 4 ∨ n = 5 ∨ n = 6 := by omega
  · subst h
    refine J_seq ?_
    refine Za [.rd 0 [] 0 0] [] [(4, .val (.int .i64 0))] ?_
    refine J_seq ?_
    refine jT [(0, true), (1, false), (2, true), (3, true), (4, true)] [] ?_
    refine Ya (id := 1) (rest := [(1, false), (2, true), (3, true), (4, true)]) [.rd 0 [] 0 0] [0] [(5, .val (.string key))] ?_
    refine Yc 16 #[.string key] (some 6) fun w S hG => ?_
    refine (sumRB (S := S) (by omega)).mono ?_
    rintro e2 w2 hR
    refine ⟨_, _, _, hR, ?_⟩
    try simp only [aQ]
    refine Ya (id := 1) (rest := []) (Rds 2 5) [6, 5, 1] [(4, .val (.int .i64 ((↑(sumN key.data.toList) : Int).tmod 1)))] ?_
    refine JR_end ?_
    refine Yr [[]] (.int .i64 ((↑(sumN key.data.toList) : Int).tmod 1)) fun a w s => ?_
    first | rw [shardN_raw (by decide) (by decide)] | rw [shardN_doc (by decide) (by decide)]
    exact s.ret (by simp) [] [] rfl rfl
  · subst h
    refine J_seq ?_
    refine Za [.rd 0 [] 0 0] [] [(4, .val (.int .i64 0))] ?_
    refine J_seq ?_
    refine jT [(0, true), (1, false), (2, true), (3, true), (4, true)] [] ?_
    refine Ya (id := 1) (rest := [(1, false), (2, true), (3, true), (4, true)]) [.rd 0 [] 0 0] [0] [(5, .val (.string key))] ?_
    refine Yc 16 #[.string key] (some 6) fun w S hG => ?_
    refine (sumRB (S := S) (by omega)).mono ?_
    rintro e2 w2 hR
    refine ⟨_, _, _, hR, ?_⟩
    try simp only [aQ]
    refine Ya (id := 1) (rest := []) (Rds 2 5) [6, 5, 1] [(4, .val (.int .i64 ((↑(sumN key.data.toList) : Int).tmod 2)))] ?_
    refine JR_end ?_
    refine Yr [[]] (.int .i64 ((↑(sumN key.data.toList) : Int).tmod 2)) fun a w s => ?_
    first | rw [shardN_raw (by decide) (by decide)] | rw [shardN_doc (by decide) (by decide)]
    exact s.ret (by simp) [] [] rfl rfl
  · subst h
    refine J_seq ?_
    refine Za [.rd 0 [] 0 0] [] [(4, .val (.int .i64 0))] ?_
    refine J_seq ?_
    refine jT [(0, true), (1, false), (2, true), (3, true), (4, true)] [] ?_
    refine Ya (id := 1) (rest := [(1, false), (2, true), (3, true), (4, true)]) [.rd 0 [] 0 0] [0] [(5, .val (.string key))] ?_
    refine Yc 16 #[.string key] (some 6) fun w S hG => ?_
    refine (sumRB (S := S) (by omega)).mono ?_
    rintro e2 w2 hR
    refine ⟨_, _, _, hR, ?_⟩
    try simp only [aQ]
    refine Ya (id := 1) (rest := []) (Rds 2 5) [6, 5, 1] [(4, .val (.int .i64 ((↑(sumN key.data.toList) : Int).tmod 3)))] ?_
    refine JR_end ?_
    refine Yr [[]] (.int .i64 ((↑(sumN key.data.toList) : Int).tmod 3)) fun a w s => ?_
    first | rw [shardN_raw (by decide) (by decide)] | rw [shardN_doc (by decide) (by decide)]
    exact s.ret (by simp) [] [] rfl rfl
  · subst h
    refine J_seq ?_
    refine Za [.rd 0 [] 0 0] [] [(4, .val (.int .i64 0))] ?_
    refine J_seq ?_
    refine jT [(0, true), (1, false), (2, true), (3, true), (4, true)] [] ?_
    refine Ya (id := 1) (rest := [(1, false), (2, true), (3, true), (4, true)]) [.rd 0 [] 0 0] [0] [(5, .val (.string key))] ?_
    refine Yc 16 #[.string key] (some 6) fun w S hG => ?_
    refine (sumRB (S := S) (by omega)).mono ?_
    rintro e2 w2 hR
    refine ⟨_, _, _, hR, ?_⟩
    try simp only [aQ]
    refine Ya (id := 1) (rest := []) (Rds 2 5) [6, 5, 1] [(4, .val (.int .i64 ((↑(sumN key.data.toList) : Int).tmod 4)))] ?_
    refine JR_end ?_
    refine Yr [[]] (.int .i64 ((↑(sumN key.data.toList) : Int).tmod 4)) fun a w s => ?_
    first | rw [shardN_raw (by decide) (by decide)] | rw [shardN_doc (by decide) (by decide)]
    exact s.ret (by simp) [] [] rfl rfl
  · subst h
    refine J_seq ?_
    refine Za [.rd 0 [] 0 0] [] [(4, .val (.int .i64 0))] ?_
    refine J_seq ?_
    refine jT [(0, true), (1, false), (2, true), (3, true), (4, true)] [] ?_
    refine Ya (id := 1) (rest := [(1, false), (2, true), (3, true), (4, true)]) [.rd 0 [] 0 0] [0] [(5, .val (.string key))] ?_
    refine Yc 16 #[.string key] (some 6) fun w S hG => ?_
    refine (sumRB (S := S) (by omega)).mono ?_
    rintro e2 w2 hR
    refine ⟨_, _, _, hR, ?_⟩
    try simp only [aQ]
    refine Ya (id := 1) (rest := []) (Rds 2 5) [6, 5, 1] [(4, .val (.int .i64 ((↑(sumN key.data.toList) : Int).tmod 5)))] ?_
    refine JR_end ?_
    refine Yr [[]] (.int .i64 ((↑(sumN key.data.toList) : Int).tmod 5)) fun a w s => ?_
    first | rw [shardN_raw (by decide) (by decide)] | rw [shardN_doc (by decide) (by decide)]
    exact s.ret (by simp) [] [] rfl rfl
  · subst h
    refine J_seq ?_
    refine Za [.rd 0 [] 0 0] [] [(4, .val (.int .i64 0))] ?_
    refine J_seq ?_
    refine jT [(0, true), (1, false), (2, true), (3, true), (4, true)] [] ?_
    refine Ya (id := 1) (rest := [(1, false), (2, true), (3, true), (4, true)]) [.rd 0 [] 0 0] [0] [(5, .val (.string key))] ?_
    refine Yc 16 #[.string key] (some 6) fun w S hG => ?_
    refine (sumRB (S := S) (by omega)).mono ?_
    rintro e2 w2 hR
    refine ⟨_, _, _, hR, ?_⟩
    try simp only [aQ]
    refine Ya (id := 1) (rest := []) (Rds 2 5) [6, 5, 1] [(4, .val (.int .i64 ((↑(sumN key.data.toList) : Int).tmod 6)))] ?_
    refine JR_end ?_
    refine Yr [[]] (.int .i64 ((↑(sumN key.data.toList) : Int).tmod 6)) fun a w s => ?_
    first | rw [shardN_raw (by decide) (by decide)] | rw [shardN_doc (by decide) (by decide)]
    exact s.ret (by simp) [] [] rfl rfl
end Go.Proofs.YtehdegekgdlifaaDoor
end
