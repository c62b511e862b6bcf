/- Part 10 of the texts of a claim: PlD PlS Tx26 PlW PlQ PartsV PlI. -/
import Derived.Test.YtehdegekgdlifaaDoorTa9
section
namespace Go.Proofs.YtehdegekgdlifaaDoor
open Go Go.Sx
def inS (n i : Int) (o : OpT) : Bool := decide (shardE o.key n = i)
structure DelQ (α : Type) where
  i : Int
  j : Int
  cur : Array Value
  xs : List Value
  Lc : List α
structure DelI {α : Type} (p : α → Bool) (L : List α) (i j : Int) (Lc : List α) : Prop where
  len : Lc.length = L.length
  take : Lc.take i.toNat = (L.take j.toNat).filter p
  drop : Lc.drop j.toNat = L.drop j.toNat
section delq
variable {α : Type} {p : α → Bool} {L Lc : List α} {i j : Int} {x : α}
theorem DelI.at (h : DelI p L i j Lc) (hx : L[j.toNat]? = some x) : Lc[j.toNat]? = some x := by
  have h1 : (Lc.drop j.toNat)[0]? = (L.drop j.toNat)[0]? := by rw [h.drop]
  rw [List.getElem?_drop, List.getElem?_drop, Nat.add_zero] at h1
  rw [h1, hx]
theorem DelI.skip (h : DelI p L i j Lc) (hj : 0 ≤ j) (hx : L[j.toNat]? = some x) (hk : p x = false) : DelI p L i (j + 1) Lc := by
  refine ⟨h.len, ?_, ?_⟩
  · rw [h.take, ← take_snoc hj hx, List.filter_append]
    simp [hk]
  · rw [show (j + 1).toNat = j.toNat + 1 by omega, ← List.drop_drop, ← List.drop_drop, h.drop]
theorem DelI.keep (h : DelI p L i j Lc) (hi : 0 ≤ i) (hij : i < j) (hj : j < L.length) (hx : L[j.toNat]? = some x) (hk : p x = true) : DelI p L (i + 1) (j + 1) (Lc.set i.toNat x) := by
  refine ⟨by rw [List.length_set]; exact h.len, ?_, ?_⟩
  · have hl := h.len
    have h1 : (Lc.set i.toNat x).take (i.toNat + 1) = Lc.take i.toNat ++ [x] := by
      rw [List.take_add_one, List.take_set_of_le (Nat.le_refl _)]
      simp [show i.toNat < Lc.length by omega]
    rw [show (i + 1).toNat = i.toNat + 1 by omega, h1, h.take, ← take_snoc (by omega) hx, List.filter_append]
    simp [hk]
  · rw [List.drop_set_of_lt (by omega), show (j + 1).toNat = j.toNat + 1 by omega, ← List.drop_drop, ← List.drop_drop, h.drop]
theorem DelI.first {r : Int} (hr0 : 0 ≤ r) (hx : L[r.toNat]? = some x) (hk : p x = false) (hn : ∀ y ∈ L.take r.toNat, p y = true) : DelI p L r (r + 1) L := by
  refine ⟨rfl, ?_, rfl⟩
  rw [← take_snoc hr0 hx, List.filter_append, List.filter_eq_self.2 hn]
  simp [hk]
end delq
set_option maxHeartbeats 4000000 in
theorem part1 {w : World} {S : Nat → Prop} {M : List Nat} {er : Nat → Addr} {eb : Nat → Array Value × TypeId} {op : OpT} {v o i : Value} {b vb b3 b5 : Nat} {id places shards clock sh : Int} (ov : v.oneCell' = true) (hC : Rep w S .nilIface (dC er eb)) (h3 : Rep w S (.pointer (some ⟨b3, 0, none⟩)) (.ptr [.v (.pointer (some ⟨b, 0, none⟩))])) (h5 : Rep w S (.pointer (some ⟨b5, 0, none⟩)) (.ptr [.v (.int .i64 sh)]))
    (hP : Pre w S M [cObj b (plC vb id places shards clock o i)]) (s1 : 1 ≤ shards) (s6 : shards ≤ 6) :
    Calls Tryd.prog 40 #[opA op v, .pointer (some ⟨b3, 0, none⟩), .pointer (some ⟨b5, 0, none⟩)] w fun e w' => Ret M w S w' e (.bool (!inS shards sh op)) [cObj b (plC vb id places shards clock o i)] [] := by
  refine en40 (args := [opA op v, .pointer (some ⟨b3, 0, none⟩), .pointer (some ⟨b5, 0, none⟩)]) (S := S) (G := [(_, dC er eb), (_, .ptr [.v (.pointer (some ⟨b, 0, none⟩))]), (_, .ptr [.v (.int .i64 sh)])]) (by kernel_rfl) hP (.cons hC (.cons h3 (.cons h5 (.nil _ _)))) ?_
  refine J_show 0 rfl ?_
  refine J_glob 1 rfl (fun csg1 tyg1 fzg1 hglob1 => ?_)
  refine J_glob 2 rfl (fun csg2 tyg2 fzg2 hglob2 => ?_)
  refine J_seq ?_
  refine Zm [.wr 0 [] 0, .rd 1 [] 0 0] [] [0] (fun nu1 => [(3, .val (.pointer (some (⟨nu1 0, 0, none⟩)))), (4, .val (.bool false))]) (fun nu1 => [(b, .cells #[.pointer (some (⟨vb, 0, none⟩)), .int .i64 id, .int .i64 places, .int .i64 shards, .int .i64 clock, o, i] 59 (0, 0)), (nu1 0, .cells #[.int .i64 op.no, .string op.key, .int .i64 op.kind, .string op.text, .int .i64 op.n, .bool op.remove, v] 43 (0, 0))]) (fun nu1 => ?_)
  refine J_seq ?_
  refine jT [(0, true), (1, true), (2, true), (3, true), (4, true), (5, true), (6, false), (7, true), (8, true), (9, true), (10, true), (11, true)] [] ?_
  refine Yp (id := 1) (rest := [(6, false), (7, true), (8, true), (9, true), (10, true), (11, true)]) [.rd 0 [] 0 0, .rd 1 [.o 1 none] 0 0, .rd 2 [.r 0 (some (.pointer (some (⟨b, 0, none⟩))))] 0 0, .rd 3 [] 0 0, .rd 4 [] 0 0, .rd 5 [.o 0 none] 0 0] [3, 1] [(9, .val (.string op.key)), (13, .val (.int .i64 shards))] [csg1[(0 : Nat)]? = some (Value.pointer (some (Addr.mk b (0 : Nat) none)))] ⟨hglob1, trivial⟩ ?_
  refine Yc 5 #[.string op.key, .int .i64 shards] (some 14) fun w S hG => ?_
  refine (shardV (hG.at 0 rfl) s1 s6).mono ?_
  rintro e1 w1 ⟨v2, hR⟩
  refine ⟨_, _, _, hR, ?_⟩
  try simp only [aQ]
  refine Ya (id := 1) (rest := []) (Rds 7 12) [14, 9, 13] [(5, .val (.int .i64 (shardE op.key shards)))] ?_
  refine JR_end ?_
  refine J_seq ?_
  refine Zp [.rd 0 [] 0 0, .rd 1 [.r 1 (some (.int .i64 sh))] 0 0, .rd 2 [] 0 0, .rd 3 [] 0 0] [5, 2] [(4, .val (.bool (shardE op.key shards != sh)))] [csg2[(0 : Nat)]? = some (Value.int IntKind.i64 sh)] ⟨hglob2, trivial⟩ ?_
  refine Yr [[]] (.bool (shardE op.key shards != sh)) fun a w s => ?_
  have e : (!inS shards sh op) = (shardE op.key shards != sh) := rfl
  rw [e]
  exact (s.hide 0 rfl).ret (by simp) [0] [] rfl rfl
abbrev clo (b3 b5 : Nat) : Value := .func (.func 40) #[] #[.pointer (some ⟨b3, 0, none⟩), .pointer (some ⟨b5, 0, none⟩)]
set_option maxHeartbeats 4000000 in
theorem indexPart {w : World} {S : Nat → Prop} {M : List Nat} {er : Nat → Addr} {eb : Nat → Array Value × TypeId} {a : Option Addr} {n c : Nat} {L : List OpT} {o i : Value} {b vb b3 b5 : Nat} {id places shards clock sh : Int} (hC : Rep w S .nilIface (dC er eb)) (h3 : Rep w S (.pointer (some ⟨b3, 0, none⟩)) (.ptr [.v (.pointer (some ⟨b, 0, none⟩))])) (h5 : Rep w S (.pointer (some ⟨b5, 0, none⟩)) (.ptr [.v (.int .i64 sh)]))
    (hP : Pre w S M [cAcc (.slice a n c) 43 7 (L.map eOp), cObj b (plC vb id places shards clock o i)]) (s1 : 1 ≤ shards) (s6 : shards ≤ 6) (hl : L.length ≤ 1000000) :
    Calls Tryd.prog 60 #[.slice a n c, clo b3 b5] w fun e w' => ∃ r : Int, Ret M w S w' e (.int .i64 r) [cAcc (.slice a n c) 43 7 (L.map eOp), cObj b (plC vb id places shards clock o i)] [] ∧
      ((r = -1 ∧ ∀ x ∈ L, inS shards sh x = true) ∨ (0 ≤ r ∧ r < L.length ∧ (∃ x, L[r.toNat]? = some x ∧ inS shards sh x = false) ∧ ∀ x ∈ L.take r.toNat, inS shards sh x = true)) := by
  refine en60 (args := [.slice a n c, clo b3 b5]) (S := S) (C := [cAcc (.slice a n c) 43 7 (L.map eOp), cObj b (plC vb id places shards clock o i)]) (G := [(_, dC er eb), (_, .ptr [.v (.pointer (some ⟨b, 0, none⟩))]), (_, .ptr [.v (.int .i64 sh)])]) (by kernel_rfl) hP (.cons hC (.cons h3 (.cons h5 (.nil _ _)))) ?_
  refine J_stpx (stp_acclen 0 rfl) fun _ hk => ?_
  rw [List.length_map] at hk
  subst hk
  refine J_seq ?_
  refine Za [.rd 0 [] 0 0] [] [(4, .val (.int .i64 0))] ?_
  refine J_seq ?_
  refine J_seq ?_
  refine Za (Rds 0 3) [] [(7, .val (.int .i64 (↑L.length : Int))), (8, .val (.int .i64 0))] ?_
  refine J_block ?_
  refine J_loopx (fun i2 : Int => [(0, .val (.slice a L.length c)), (1, .val (.func (.func 40) #[] #[.pointer (some (⟨b3, 0, none⟩)), .pointer (some (⟨b5, 0, none⟩))])), (4, .val (.int .i64 0)), (7, .val (.int .i64 (↑L.length : Int))), (8, .val (.int .i64 i2))]) (fun i2 : Int => []) (fun i2 : Int => [cAcc (.slice a L.length c) 43 7 (L.map eOp), cObj b (plC vb id places shards clock o i)]) (fun i2 : Int => [(.nilIface, (dC er eb)), (.pointer (some (⟨b3, 0, none⟩)), (D.ptr [D.v (Value.pointer (some (Addr.mk b 0 none)))])), (.pointer (some (⟨b5, 0, none⟩)), (D.ptr [D.v (Value.int IntKind.i64 sh)]))]) (fun i2 : Int => (L.length - i2).toNat) (fun i2 : Int => (0 ≤ i2 ∧ i2 ≤ L.length ∧ ∀ x ∈ L.take i2.toNat, inS shards sh x = true)) 0 [0, 1, 4, 7, 8] [] [0, 1] [0, 1, 2] ?_ (by kernel_rfl) rfl rfl rfl ?_
  · exact ⟨by simp, by omega, by simp⟩
  rintro i2 ⟨hi0, hi, hno⟩
  refine J_seq ?_
  refine Za [.rd 0 [] 0 0] [] [(9, .val (.bool (decide (i2 < (↑L.length : Int)))))] ?_
  refine J_seq ?_
  refine J_cond (t := decide (i2 < (↑L.length : Int))) (by kernel_rfl) (by kernel_rfl) (fun hlt => ?_) (fun hlt => ?_)
  · have hlt2 : i2 < L.length := by simpa using hlt
    obtain ⟨x, hx⟩ : ∃ x, L[i2.toNat]? = some x := ⟨_, List.getElem?_eq_getElem (by omega)⟩
    refine J_openacc 0 rfl (by intro h0; rw [List.map_eq_nil_iff] at h0; rw [h0] at hx; simp at hx) fun g cur xs hu _ _ hrow => ?_
    subst hu
    refine J_stpx (stp_readrows 1 rfl i2.toNat (map_at hx)) fun ls hls => ?_
    obtain ⟨hls1, hls2⟩ := hls
    obtain ⟨⟨xa, xc⟩, rfl⟩ : ∃ l0, ls = [l0] := len1 hls1
    have f := fun (j : Nat) v h => hrow.atx (hls2 j v h)
    have r0 : cur[0 + i2.toNat * 7]? = some (.int .i64 x.no) := by rw [Nat.zero_add]; exact f 0 _ rfl
    have r1 : cur[0 + i2.toNat * 7 + 1]? = some (.string x.key) := by rw [Nat.zero_add]; exact f 1 _ rfl
    have r2 : cur[0 + i2.toNat * 7 + 2]? = some (.int .i64 x.kind) := by rw [Nat.zero_add]; exact f 2 _ rfl
    have r3 : cur[0 + i2.toNat * 7 + 3]? = some (.string x.text) := by rw [Nat.zero_add]; exact f 3 _ rfl
    have r4 : cur[0 + i2.toNat * 7 + 4]? = some (.int .i64 x.n) := by rw [Nat.zero_add]; exact f 4 _ rfl
    have r5 : cur[0 + i2.toNat * 7 + 5]? = some (.bool x.remove) := by rw [Nat.zero_add]; exact f 5 _ rfl
    have r6 : cur[0 + i2.toNat * 7 + 6]? = some (.slice xa (x.dots.map eDot).length xc) := by rw [Nat.zero_add]; exact f 6 _ rfl
    try simp only [aQ]
    refine J_skip ?_
    try simp only [aQ]
    refine J_seq ?_
    try simp only [aQ]
    refine J_block ?_
    try simp only [aQ]
    refine J_seq ?_
    try simp only [aQ]
    refine Za [.rd 0 [] 0 0, .rd 1 [] 0 0] [9] [(5, .val (.int .i64 i2))] ?_
    try simp only [aQ]
    refine J_seq ?_
    try simp only [aQ]
    refine jT [(0, true), (1, true), (2, true), (3, true), (4, true), (5, false)] [] ?_
    refine Yp (id := 4) (rest := [(5, false)]) (Rds 0 3 ++ [.rd 3 [] 0 2, .rd 4 [.o 0 (some (.int .i64 x.no)), .o 0 (some (.string x.key)), .o 0 (some (.int .i64 x.kind)), .o 0 (some (.string x.text)), .o 0 (some (.int .i64 x.n)), .o 0 (some (.bool x.remove)), .o 0 (some (.slice xa ((List.map eDot x.dots).length) xc))] 0 0]) [] [(11, .val (.func (.func 40) #[] #[.pointer (some (⟨b3, 0, none⟩)), .pointer (some (⟨b5, 0, none⟩))])), (15, .val (.agg #[.int .i64 x.no, .string x.key, .int .i64 x.kind, .string x.text, .int .i64 x.n, .bool x.remove, .slice xa ((List.map eDot x.dots).length) xc]))] [(0 : Int) ≤ i2, i2 < (↑L.length : Int), cur[(0 : Nat) + i2.toNat * (7 : Nat)]? = some (Value.int IntKind.i64 x.no), cur[(0 : Nat) + i2.toNat * (7 : Nat) + (1 : Nat)]? = some (Value.string x.key), cur[(0 : Nat) + i2.toNat * (7 : Nat) + (2 : Nat)]? = some (Value.int IntKind.i64 x.kind), cur[(0 : Nat) + i2.toNat * (7 : Nat) + (3 : Nat)]? = some (Value.string x.text), cur[(0 : Nat) + i2.toNat * (7 : Nat) + (4 : Nat)]? = some (Value.int IntKind.i64 x.n), cur[(0 : Nat) + i2.toNat * (7 : Nat) + (5 : Nat)]? = some (Value.bool x.remove), cur[(0 : Nat) + i2.toNat * (7 : Nat) + (6 : Nat)]? = some (Value.slice xa (List.map eDot x.dots).length xc)] ⟨hi0, hlt2, r0, r1, r2, r3, r4, r5, r6, trivial⟩ ?_
    refine JR_call [] [0] 40 #[.agg #[.int .i64 x.no, .string x.key, .int .i64 x.kind, .string x.text, .int .i64 x.n, .bool x.remove, .slice xa ((List.map eDot x.dots).length) xc], .pointer (some (⟨b3, 0, none⟩)), .pointer (some (⟨b5, 0, none⟩))] (some 16) (by kernel_rfl) (by kernel_rfl) (by decide) (fun w S M hP hG _ => ?_)
    refine (part1 (op := x) rfl (hG.at 0 rfl) (hG.at 1 rfl) (hG.at 2 rfl) hP s1 s6).mono ?_
    rintro e w2 hR
    refine ⟨_, _, _, hR, ?_⟩
    try simp only [aQ]
    refine JR_end ?_
    try simp only [aQ]
    refine J_hide 0 rfl ?_
    refine J_stp (stp_closeacc 2 0 rfl rfl hrow (by decide)) ?_
    rw [show (List.map eOp L).length = L.length from List.length_map ..]
    refine J_cond (t := !inS shards sh x) (by kernel_rfl) (by kernel_rfl) (fun hb => ?_) (fun hb => ?_)
    · try simp only [aQ]
      refine J_seq ?_
      try simp only [aQ]
      refine Za [.rd 0 [] 0 0, .rd 1 [] 0 0] [16] [(4, .val (.int .i64 i2))] ?_
      try simp only [aQ]
      refine Yr [[]] (.int .i64 i2) fun a w s => ?_
      exact ⟨i2, s.ret (by simp) [1, 0] [] rfl rfl, .inr ⟨hi0, hlt2, ⟨x, hx, by simpa using hb⟩, hno⟩⟩
    · try simp only [aQ]
      refine J_skip ?_
      try simp only [aQ]
      refine J_eb ?_
      try simp only [aQ]
      refine Zp [.rd 0 [] 0 1, .rd 1 [] 0 0] [16] [(8, .val (.int .i64 (i2 + 1)))] [IntKind.i64.wrap (i2 + (1 : Int)) = i2 + (1 : Int)] ⟨wrap_i64 (by omega) (by omega), trivial⟩ ?_
      try simp only [aQ]
      refine J_backx (i2 + 1) [0, 1, 4, 7, 8] [] [1, 0] [0, 1, 2] ?_ ?_ (by kernel_rfl) rfl rfl rfl
      · refine ⟨by omega, by omega, fun y hy => ?_⟩
        rw [← take_snoc hi0 hx, List.mem_append, List.mem_singleton] at hy
        rcases hy with hy | rfl
        · exact hno y hy
        · simpa using hb
      · omega
  · have e : List.take i2.toNat L = L := List.take_of_length_le (by simp at hlt; omega)
    rw [e] at hno
    refine J_exit rfl ?_
    refine J_seq ?_
    refine Za [.rd 0 [] 0 0] [9, 0, 1, 7, 8] [(4, .val (.int .i64 (-1)))] ?_
    refine Yr [[]] (.int .i64 (-1)) fun a w s => ?_
    exact ⟨-1, s.ret (by simp) [0, 1] [] rfl rfl, .inl ⟨rfl, hno⟩⟩
set_option maxHeartbeats 4000000 in
theorem deletePart {w : World} {S : Nat → Prop} {M : List Nat} {er : Nat → Addr} {eb : Nat → Array Value × TypeId} {a : Option Addr} {n c : Nat} {L : List OpT} {o i : Value} {b vb b3 b5 : Nat} {id places shards clock sh : Int} (hC : Rep w S .nilIface (dC er eb)) (h3 : Rep w S (.pointer (some ⟨b3, 0, none⟩)) (.ptr [.v (.pointer (some ⟨b, 0, none⟩))])) (h5 : Rep w S (.pointer (some ⟨b5, 0, none⟩)) (.ptr [.v (.int .i64 sh)]))
    (hP : Pre w S M [cAcc (.slice a n c) 43 7 (L.map eOp), cObj b (plC vb id places shards clock o i)]) (s1 : 1 ≤ shards) (s6 : shards ≤ 6) (hl : L.length ≤ 1000000) :
    Calls Tryd.prog 39 #[.slice a n c, clo b3 b5] w fun e w' => ∃ a' n' c', Ret M w S w' e (.slice a' n' c') [cAcc (.slice a' n' c') 43 7 ((L.filter (inS shards sh)).map eOp), cObj b (plC vb id places shards clock o i)] [] := by
  refine en39 (args := [.slice a n c, clo b3 b5]) (S := S) (C := [cAcc (.slice a n c) 43 7 (L.map eOp), cObj b (plC vb id places shards clock o i)]) (G := [(_, dC er eb), (_, .ptr [.v (.pointer (some ⟨b, 0, none⟩))]), (_, .ptr [.v (.int .i64 sh)])]) (by kernel_rfl) hP (.cons hC (.cons h3 (.cons h5 (.nil _ _)))) ?_
  refine J_stpx (stp_acclen 0 rfl) fun _ hk => ?_
  rw [List.length_map] at hk
  subst hk
  refine J_seq ?_
  refine Za [.rd 0 [] 0 0] [] [(4, .val (.slice none 0 0))] ?_
  refine J_seq ?_
  refine jT [(0, true), (1, true), (2, false), (3, true)] [] ?_
  refine Ya (id := 1) (rest := [(2, false), (3, true)]) [.rd 0 [] 0 0, .rd 1 [] 0 0] [] [(8, .val (.slice a L.length c)), (9, .val (.func (.func 40) #[] #[.pointer (some (⟨b3, 0, none⟩)), .pointer (some (⟨b5, 0, none⟩))]))] ?_
  refine JR_call [] [0, 1] 60 #[.slice a L.length c, .func (.func 40) #[] #[.pointer (some (⟨b3, 0, none⟩)), .pointer (some (⟨b5, 0, none⟩))]] (some 10) (by kernel_rfl) (by kernel_rfl) (by decide) (fun w S M hP hG _ => ?_)
  refine (indexPart (hG.at 0 rfl) (hG.at 1 rfl) (hG.at 2 rfl) hP s1 s6 hl).mono ?_
  rintro e1 w1 ⟨r, hR, hr⟩
  refine ⟨_, _, _, hR, ?_⟩
  obtain ⟨rfl, hall⟩ | ⟨hr0, hr1, ⟨y, hy, hys⟩, hrn⟩ := hr
  · try simp only [aQ]
    refine Ya (id := 1) (rest := []) [.rd 3 [] 0 0] [10, 8, 9] [(5, .val (.int .i64 (-1)))] ?_
    try simp only [aQ]
    refine JR_end ?_
    try simp only [aQ]
    refine J_seq ?_
    try simp only [aQ]
    refine J_seq ?_
    try simp only [aQ]
    refine Za [.rd 0 [] 0 0, .rd 1 [] 0 0] [] [(12, .val (.bool true))] ?_
    try simp only [aQ]
    refine J_cond_t (by kernel_rfl) (by kernel_rfl) ?_
    try simp only [aQ]
    refine J_seq ?_
    try simp only [aQ]
    refine Za [.rd 0 [] 0 0, .rd 1 [] 0 0] [12] [(4, .val (.slice a L.length c))] ?_
    try simp only [aQ]
    refine Yr [[]] (.slice a L.length c) fun a w s => ?_
    rw [List.filter_eq_self.2 hall]
    exact ⟨_, _, _, s.ret (by simp) [0, 1] [] rfl rfl⟩
  · have hrm : ¬ r = -1 := by omega
    try simp only [aQ]
    refine Ya (id := 1) (rest := []) [.rd 3 [] 0 0] [10, 8, 9] [(5, .val (.int .i64 r))] ?_
    try simp only [aQ]
    refine JR_end ?_
    try simp only [aQ]
    refine J_seq ?_
    try simp only [aQ]
    refine J_seq ?_
    try simp only [aQ]
    refine Zp [.rd 0 [] 0 0, .rd 1 [] 0 7] [] [(12, .val (.bool false))] [(r == (-1 : Int)) = false] ⟨by simp; omega, trivial⟩ ?_
    try simp only [aQ]
    refine J_cond_f (by kernel_rfl) (by kernel_rfl) ?_
    try simp only [aQ]
    refine J_skip ?_
    try simp only [aQ]
    refine J_seq ?_
    try simp only [aQ]
    refine J_seq ?_
    try simp only [aQ]
    refine Zp [.rd 0 [] 0 0, .rd 1 [] 0 1, .rd 2 [] 0 0] [12] [(6, .val (.int .i64 (r + 1)))] [IntKind.i64.wrap (r + (1 : Int)) = r + (1 : Int)] ⟨wrap_i64 (by omega) (by omega), trivial⟩ ?_
    try simp only [aQ]
    refine J_block ?_
    try simp only [aQ]
    refine J_openacc 0 rfl (by intro h0; rw [List.map_eq_nil_iff] at h0; rw [h0] at hy; simp at hy) fun g cur0 xs0 hu _ _ hrow0 => ?_
    subst hu
    rw [List.length_map] at hrow0
    have hcap : L.length ≤ c := hrow0.le
    refine J_loopx (fun x : DelQ OpT => [(0, .val (.slice (some (⟨g, 0, none⟩)) L.length c)), (1, .val (.func (.func 40) #[] #[.pointer (some (⟨b3, 0, none⟩)), .pointer (some (⟨b5, 0, none⟩))])), (4, .val (.slice none 0 0)), (5, .val (.int .i64 x.i)), (6, .val (.int .i64 x.j))]) (fun x : DelQ OpT => [(g, .cells x.cur 43 (0, 0))]) (fun x : DelQ OpT => [cObj b (plC vb id places shards clock o i), cRows x.xs 7 (x.Lc.map eOp)]) (fun x : DelQ OpT => [(.nilIface, (dC er eb)), (.pointer (some (⟨b3, 0, none⟩)), (D.ptr [D.v (Value.pointer (some (Addr.mk b 0 none)))])), (.pointer (some (⟨b5, 0, none⟩)), (D.ptr [D.v (Value.int IntKind.i64 sh)]))]) (fun x : DelQ OpT => (L.length - x.j).toNat) (fun x : DelQ OpT => (0 ≤ x.i ∧ x.i < x.j ∧ x.j ≤ L.length ∧ Row x.cur c L.length 7 x.xs ∧ DelI (inS shards sh) L x.i x.j x.Lc)) ⟨r, r + 1, cur0, xs0, L⟩ [0, 1, 4, 5, 6] [0] [0, 1] [0, 1, 2] ?_ (by kernel_rfl) rfl rfl rfl ?_
    · exact ⟨hr0, by simp only; omega, by simp only; omega, hrow0, .first hr0 hy hys hrn⟩
    rintro ⟨i2, j, cu, xs, Lc⟩ ⟨hi0, hij, hj, hrow, hinv⟩
    dsimp only at hi0 hij hj hrow hinv ⊢
    refine J_seq ?_
    refine J_seq ?_
    refine Za (Rds 0 4) [] [(19, .val (.bool (decide (j < (↑L.length : Int)))))] ?_
    refine J_cond (t := decide (j < (↑L.length : Int))) (by kernel_rfl) (by kernel_rfl) (fun hlt => ?_) (fun hlt => ?_)
    · have hlt2 : j < L.length := by simpa using hlt
      obtain ⟨x, hx⟩ : ∃ x, L[j.toNat]? = some x := ⟨_, List.getElem?_eq_getElem (by omega)⟩
      have hxc := hinv.at hx
      refine J_stpx (stp_readrows 1 rfl j.toNat (map_at hxc)) fun ls hls => ?_
      obtain ⟨hls1, hls2⟩ := hls
      obtain ⟨⟨xa, xc⟩, rfl⟩ : ∃ l0, ls = [l0] := len1 hls1
      have f := fun (j : Nat) v h => hrow.atx (hls2 j v h)
      have r0 : cu[0 + j.toNat * 7]? = some (.int .i64 x.no) := by rw [Nat.zero_add]; exact f 0 _ rfl
      have r1 : cu[0 + j.toNat * 7 + 1]? = some (.string x.key) := by rw [Nat.zero_add]; exact f 1 _ rfl
      have r2 : cu[0 + j.toNat * 7 + 2]? = some (.int .i64 x.kind) := by rw [Nat.zero_add]; exact f 2 _ rfl
      have r3 : cu[0 + j.toNat * 7 + 3]? = some (.string x.text) := by rw [Nat.zero_add]; exact f 3 _ rfl
      have r4 : cu[0 + j.toNat * 7 + 4]? = some (.int .i64 x.n) := by rw [Nat.zero_add]; exact f 4 _ rfl
      have r5 : cu[0 + j.toNat * 7 + 5]? = some (.bool x.remove) := by rw [Nat.zero_add]; exact f 5 _ rfl
      have r6 : cu[0 + j.toNat * 7 + 6]? = some (.slice xa (x.dots.map eDot).length xc) := by rw [Nat.zero_add]; exact f 6 _ rfl
      try simp only [aQ]
      refine J_skip ?_
      refine J_seq ?_
      refine J_block ?_
      refine J_seq ?_
      refine Zn [.rd 0 [] 0 0, .rd 1 [] 0 0, .rd 2 [] 0 2, .rd 3 [.o 0 (some (.int .i64 x.no)), .o 0 (some (.string x.key)), .o 0 (some (.int .i64 x.kind)), .o 0 (some (.string x.text)), .o 0 (some (.int .i64 x.n)), .o 0 (some (.bool x.remove)), .o 0 (some (.slice xa ((List.map eDot x.dots).length) xc))] 0 0, .wr 4 [] 0, .wr 5 [.o 1 none, .o 1 none, .o 1 none, .o 1 none, .o 1 none, .o 1 none, .o 1 none] 0] [(5, [])] [19] (fun nu1 => [(7, .val (.pointer (some (⟨nu1 0, 0, none⟩))))]) (fun nu1 => [(g, .cells cu 43 (0, 0)), (nu1 0, .cells #[.int .i64 x.no, .string x.key, .int .i64 x.kind, .string x.text, .int .i64 x.n, .bool x.remove, .slice xa ((List.map eDot x.dots).length) xc] 43 (0, 0))]) (fun nu1 => [(0 : Int) ≤ j, j < (↑L.length : Int), cu[(0 : Nat) + j.toNat * (7 : Nat)]? = some (Value.int IntKind.i64 x.no), cu[(0 : Nat) + j.toNat * (7 : Nat) + (1 : Nat)]? = some (Value.string x.key), cu[(0 : Nat) + j.toNat * (7 : Nat) + (2 : Nat)]? = some (Value.int IntKind.i64 x.kind), cu[(0 : Nat) + j.toNat * (7 : Nat) + (3 : Nat)]? = some (Value.string x.text), cu[(0 : Nat) + j.toNat * (7 : Nat) + (4 : Nat)]? = some (Value.int IntKind.i64 x.n), cu[(0 : Nat) + j.toNat * (7 : Nat) + (5 : Nat)]? = some (Value.bool x.remove), cu[(0 : Nat) + j.toNat * (7 : Nat) + (6 : Nat)]? = some (Value.slice xa (List.map eDot x.dots).length xc)]) (fun _ => ⟨by omega, hlt2, r0, r1, r2, r3, r4, r5, r6, trivial⟩) (fun nu1 => ?_)
      refine J_seq ?_
      refine jT [(0, true), (1, true), (2, false), (3, true)] [] ?_
      refine Ya (id := 8) (rest := [(2, false), (3, true)]) [.rd 0 [] 0 0, .rd 1 [.o 1 none, .o 1 none, .o 1 none, .o 1 none, .o 1 none, .o 1 none, .o 1 none] 0 0] [] [(26, .val (.func (.func 40) #[] #[.pointer (some (⟨b3, 0, none⟩)), .pointer (some (⟨b5, 0, none⟩))])), (27, .val (.agg #[.int .i64 x.no, .string x.key, .int .i64 x.kind, .string x.text, .int .i64 x.n, .bool x.remove, .slice xa ((List.map eDot x.dots).length) xc]))] ?_
      refine JR_call [] [0] 40 #[.agg #[.int .i64 x.no, .string x.key, .int .i64 x.kind, .string x.text, .int .i64 x.n, .bool x.remove, .slice xa ((List.map eDot x.dots).length) xc], .pointer (some (⟨b3, 0, none⟩)), .pointer (some (⟨b5, 0, none⟩))] (some 28) (by kernel_rfl) (by kernel_rfl) (by decide) (fun w S M hP hG _ => ?_)
      refine (part1 (op := x) rfl (hG.at 0 rfl) (hG.at 1 rfl) (hG.at 2 rfl) hP s1 s6).mono ?_
      rintro e w2 hR
      refine ⟨_, _, _, hR, ?_⟩
      try simp only [aQ]
      refine Ya (id := 8) (rest := []) [.rd 3 [] 0 0] [28, 26, 27] [(29, .val (.bool (!!inS shards sh x)))] ?_
      try simp only [aQ]
      refine JR_end ?_
      try simp only [aQ]
      refine J_cond (t := !!inS shards sh x) (by kernel_rfl) (by kernel_rfl) (fun hb => ?_) (fun hb => ?_)
      · have hkeep : inS shards sh x = true := by simpa using hb
        have hsz := hrow.siz
        have hll := hinv.len
        have hi7 : 0 + i2.toNat * 7 + 7 ≤ cu.size := by omega
        try simp only [aQ]
        refine J_seq ?_
        try simp only [aQ]
        refine jT [(0, true), (1, true), (2, true), (3, true), (4, false)] [] ?_
        refine Yp (id := 9) (rest := [(4, false)]) [.rd 0 [] 0 0, .rd 1 [] 0 0, .rd 2 [.o 1 none, .o 1 none, .o 1 none, .o 1 none, .o 1 none, .o 1 none, .o 1 none] 0 0, .rd 3 [] 0 2] [29] [(32, .val (.agg #[.int .i64 x.no, .string x.key, .int .i64 x.kind, .string x.text, .int .i64 x.n, .bool x.remove, .slice xa ((List.map eDot x.dots).length) xc])), (33, .val (.pointer (some (⟨g, 0 + i2.toNat * 7, none⟩))))] [(0 : Int) ≤ i2, i2 < (↑L.length : Int)] ⟨hi0, by omega, trivial⟩ ?_
        refine JR_storerow 0 g (0 + i2.toNat * 7) 43 43 (.agg #[.int .i64 x.no, .string x.key, .int .i64 x.kind, .string x.text, .int .i64 x.n, .bool x.remove, .slice xa ((List.map eDot x.dots).length) xc]) [.int .i64 x.no, .string x.key, .int .i64 x.kind, .string x.text, .int .i64 x.n, .bool x.remove, .slice xa ((List.map eDot x.dots).length) xc] none (by kernel_rfl) (by kernel_rfl) (by kernel_rfl) rfl rfl rfl hi7 (by simp [Value.oneCell']) ?_
        try simp only [aQ]
        refine JR_end ?_
        try simp only [aQ]
        rw [Nat.zero_add]
        refine J_stp (stp_putrow 0 i2.toNat (vs := [.int .i64 x.no, .string x.key, .int .i64 x.kind, .string x.text, .int .i64 x.n, .bool x.remove, .slice xa (x.dots.map eDot).length xc]) (row := eOp x) rfl (by rw [hrow.len, List.length_map, hll]) (by rw [List.length_map]; omega) rfl ⟨.inl ⟨rfl, rfl⟩, .inl ⟨rfl, rfl⟩, .inl ⟨rfl, rfl⟩, .inl ⟨rfl, rfl⟩, .inl ⟨rfl, rfl⟩, .inl ⟨rfl, rfl⟩, .inr (.inl (List.mem_of_getElem? (i := 3) rfl)), trivial⟩) ?_
        rw [show (List.map eOp Lc).set i2.toNat (eOp x) = List.map eOp (Lc.set i2.toNat x) from List.map_set.symm]
        refine Zp [.rd 0 [] 0 0, .rd 1 [] 0 1, .rd 2 [] 0 0] [] [(5, .val (.int .i64 (i2 + 1)))] [IntKind.i64.wrap (i2 + (1 : Int)) = i2 + (1 : Int)] ⟨wrap_i64 (by omega) (by omega), trivial⟩ ?_
        refine J_eb ?_
        refine Zp [.rd 0 [] 0 0, .rd 1 [] 0 1, .rd 2 [] 0 0] [] [(6, .val (.int .i64 (j + 1)))] [IntKind.i64.wrap (j + (1 : Int)) = j + (1 : Int)] ⟨wrap_i64 (by omega) (by omega), trivial⟩ ?_
        refine J_backx ⟨i2 + 1, j + 1, _, _, Lc.set i2.toNat x⟩ [0, 1, 4, 5, 6] [0] [1, 0] [0, 1, 2] ?_ ?_ (by kernel_rfl) rfl rfl rfl
        · exact ⟨by simp only; omega, by simp only; omega, by simp only; omega, hrow.turn (by omega) rfl, hinv.keep hi0 hij hlt2 hx hkeep⟩
        · simp only
          omega
      · have hdel : inS shards sh x = false := by simpa using hb
        try simp only [aQ]
        refine J_skip ?_
        try simp only [aQ]
        refine J_eb ?_
        try simp only [aQ]
        refine Zp [.rd 0 [] 0 0, .rd 1 [] 0 1, .rd 2 [] 0 0] [29] [(6, .val (.int .i64 (j + 1)))] [IntKind.i64.wrap (j + (1 : Int)) = j + (1 : Int)] ⟨wrap_i64 (by omega) (by omega), trivial⟩ ?_
        try simp only [aQ]
        refine J_backx ⟨i2, j + 1, cu, xs, Lc⟩ [0, 1, 4, 5, 6] [0] [1, 0] [0, 1, 2] ?_ ?_ (by kernel_rfl) rfl rfl rfl
        · exact ⟨hi0, by simp only; omega, by simp only; omega, hrow, hinv.skip (by omega) hx hdel⟩
        · simp only
          omega
    · have hjl : j = L.length := by simp at hlt; omega
      have hsz := hrow.siz
      have hll := hinv.len
      have hil : i2 < L.length := by omega
      have hic : i2 < c := by omega
      have hfin : Lc.take i2.toNat = L.filter (inS shards sh) := by
        rw [hinv.take, hjl, List.take_of_length_le (by simp)]
      have hcl : 0 + i2.toNat * 7 + (L.length - i2.toNat) * 7 ≤ cu.size := by omega
      refine J_exit rfl ?_
      refine J_seq ?_
      refine jT [(0, true), (1, true), (2, true), (3, false)] [] ?_
      refine Yp (id := 11) (rest := [(3, false)]) [.rd 0 [] 0 0, .rd 1 [] 0 0, .rd 2 [] 0 4] [19, 1, 6] [(38, .val (.slice (some (⟨g, 0 + i2.toNat * 7, none⟩)) (L.length - i2.toNat) (c - i2.toNat)))] [(0 : Int) ≤ i2, i2 ≤ (↑L.length : Int), i2 < (↑c : Int)] ⟨hi0, by omega, hic, trivial⟩ ?_
      refine JR_clear (size := 7) (bytes := 88) 0 g (0 + i2.toNat * 7) (L.length - i2.toNat) (c - i2.toNat) 35 43 (.agg #[.int .i64 0, .string (ByteArray.mk #[]), .int .i64 0, .string (ByteArray.mk #[]), .int .i64 0, .bool false, .slice none 0 0]) none (by kernel_rfl) (by kernel_rfl) (by kernel_rfl) (by kernel_rfl) (by omega) rfl rfl hcl (by simp [Value.cells, Value.oneCell']) (fun vs1 hvs1 => ?_)
      refine JR_end ?_
      refine J_seq ?_
      rw [Nat.zero_add]
      refine J_stp (stp_cutrows 1 i2.toNat rfl) ?_
      refine J_hide 0 rfl ?_
      refine Nm [cObj b (.cells #[.pointer (some (⟨vb, 0, none⟩)), .int .i64 id, .int .i64 places, .int .i64 shards, .int .i64 clock, o, i] 59 (0, 0)), (cRows (List.take (i2.toNat * 7) xs) 7 (List.take i2.toNat (List.map eOp Lc))), cObj g (.cells (seg cu (i2.toNat * 7) vs1) 43 (0, 0))] ?_
      rw [show List.take i2.toNat (List.map eOp Lc) = List.map eOp (L.filter (inS shards sh)) by rw [← List.map_take, hfin]]
      have hrow2 := hrow.clr (i := i2.toNat) (by omega) hvs1
      have hkl : (List.map eOp (L.filter (inS shards sh))).length = i2.toNat := by rw [← hfin]; simp; omega
      refine J_stp (stp_closeacc 2 1 rfl rfl (by rw [hkl]; exact hrow2) (by decide)) ?_
      rw [hkl]
      try simp only [aQ]
      refine Zp [.rd 0 [] 0 0, .rd 1 [] 0 0, .rd 2 [] 0 4, .rd 3 [] 0 0] [38, 0, 5] [(4, .val (.slice (some (⟨g, 0, none⟩)) i2.toNat c))] [(0 : Int) ≤ i2, i2 ≤ (↑c : Int)] ⟨hi0, by omega, trivial⟩ ?_
      try simp only [aQ]
      refine Yr [[]] (.slice (some (⟨g, 0, none⟩)) i2.toNat c) fun a w s => ?_
      exact ⟨_, _, _, s.ret (by simp) [1, 0] [] rfl rfl⟩
end Go.Proofs.YtehdegekgdlifaaDoor
end
section
namespace Go.Proofs.YtehdegekgdlifaaDoor
open Go Go.Sx
def SndT.msg (y : SndT) (c : ComT) : MsgT := ⟨y.fm, y.to, y.sh, y.q + 1, c.when.getD c.place.toNat 0, false, c⟩
def SndT.com (y : SndT) (c : ComT) : SndT := { y with q := y.q + 1, t := c.when.getD c.place.toNat 0, l := y.l ++ [SndT.msg y c] }
def SndT.beatM (y : SndT) (t : Int) : MsgT := ⟨y.fm, y.to, y.sh, y.q + 1, t, true, ⟨[], 0, []⟩⟩
def SndT.beat (y : SndT) (t : Int) : SndT := { y with q := y.q + 1, t := t, l := y.l ++ [SndT.beatM y t] }
section snds
variable {w : World} {S : Nat → Prop} {M : List Nat} {er : Nat → Addr} {eb : Nat → Array Value × TypeId} {bs : List Nat} {ss : List SndT} {rs : List RcvT} {p b : Nat}
theorem newSnd {fm to sh : Int} (hC : Rep w S .nilIface (dC er eb)) (h0 : wayErr fm to sh = 0) :
    Calls Tryd.prog 18 #[.int .i64 fm, .int .i64 to, .int .i64 sh] w fun e w' => ∃ b, Ret [] w S w' e (.tuple #[.pointer (some ⟨b, 0, none⟩), .nilIface]) [cSnd (b, ⟨fm, to, sh, 0, 0, []⟩)] [] :=
  (newSender (globs_of hC) h0).mono fun e w' ⟨b, hR⟩ => ⟨b, (hR.add (cAcc (.slice none 0 0) 45 9 (([] : List MsgT).map eMsg)) fun _ _ => ⟨by decide, .inl ⟨rfl, rfl, rfl⟩⟩).close1g (none, 0, 0) trivial fun _ h => by cases h⟩
theorem newRcv {fm to sh : Int} (hC : Rep w S .nilIface (dC er eb)) (h0 : wayErr fm to sh = 0) :
    Calls Tryd.prog 19 #[.int .i64 fm, .int .i64 to, .int .i64 sh] w fun e w' => ∃ b, Ret [] w S w' e (.tuple #[.pointer (some ⟨b, 0, none⟩), .nilIface]) [cRcv (b, ⟨fm, to, sh, 0, 0, []⟩)] [] :=
  (newReceiver (globs_of hC) h0).mono fun e w' ⟨b, mb, hR⟩ => ⟨b, hR.close1g mb trivial fun _ h => by cases h⟩
theorem sndNew {fm to sh : Int} (hC : Rep w S .nilIface (dC er eb)) (hP : Pre w S M [cSnds bs ss]) (hl : bs.length = ss.length) (h0 : wayErr fm to sh = 0) :
    Calls Tryd.prog 18 #[.int .i64 fm, .int .i64 to, .int .i64 sh] w fun e w' => ∃ b, Ret M w S w' e (.tuple #[.pointer (some ⟨b, 0, none⟩), .nilIface]) [cSnds (bs ++ [b]) (ss ++ [⟨fm, to, sh, 0, 0, []⟩])] [] :=
  (newSnd hC h0).mono fun e w' ⟨b, hR⟩ => ⟨b, by
    have h := (hP.frame hR).push
    rwa [cSnds, List.zip_append hl, List.map_append]⟩
theorem rcvNew {fm to sh : Int} (hC : Rep w S .nilIface (dC er eb)) (hP : Pre w S M [cRcvs bs rs]) (hl : bs.length = rs.length) (h0 : wayErr fm to sh = 0) :
    Calls Tryd.prog 19 #[.int .i64 fm, .int .i64 to, .int .i64 sh] w fun e w' => ∃ b, Ret M w S w' e (.tuple #[.pointer (some ⟨b, 0, none⟩), .nilIface]) [cRcvs (bs ++ [b]) (rs ++ [⟨fm, to, sh, 0, 0, []⟩])] [] :=
  (newRcv hC h0).mono fun e w' ⟨b, hR⟩ => ⟨b, by
    have h := (hP.frame hR).push
    rwa [cRcvs, List.zip_append hl, List.map_append]⟩
theorem sndCom {y : SndT} {c : ComT} {a1 a2 : Option Addr} {n1 c1 n2 c2 : Nat} (hC : Rep w S .nilIface (dC er eb)) (hP : Pre w S M [cSnds bs ss]) (hb : bs[p]? = some b) (hy : ss[p]? = some y) (h1 : Rep w S (.slice a1 n1 c1) (dInts c.when)) (h2 : Rep w S (.slice a2 n2 c2) (.sl 7 (c.ops.map eOp))) (hl1 : c.when.length ≤ 1000000) (hl2 : c.ops.length ≤ 1000000) (hl3 : ∀ o ∈ c.ops, o.dots.length ≤ 1000000)
    (hq0 : 0 ≤ y.q) (hq1 : y.q < 1000000) (hL : y.l.length < 1000000) (hf : scomErr c y.fm y.t = ⟨0, -1⟩) :
    Calls Tryd.prog 25 #[.pointer (some ⟨b, 0, none⟩), .agg #[.slice a1 n1 c1, .int .i64 c.place, .slice a2 n2 c2]] w fun e w' => ∃ u1 d1 u2 d2,
      Ret M w S w' e (.tuple #[mAgg (SndT.msg y c) (.slice u1 n1 d1) (.slice u2 n2 d2), .nilIface]) [cSnds bs (ss.set p (SndT.com y c))] [(.slice u1 n1 d1, dInts c.when), (.slice u2 n2 d2, .sl 7 (c.ops.map eOp))] := by
  obtain ⟨M1, hP1, hback⟩ := hP.take (zip_map_at hb hy)
  obtain ⟨v, _, _, hP2⟩ := hP1.open1
  refine (scommit (c := c) hC hP2 h1 h2 hl1 hl2 hl3 hq0 hq1 hL).mono ?_
  rintro e w' (⟨h, _⟩ | ⟨_, a', k', c', u1, d1, u2, d2, hR⟩)
  · rw [hf] at h
    exact absurd rfl h
  · refine ⟨u1, d1, u2, d2, ?_⟩
    have h3 : Ret M1 w S w' e _ [cSnd (b, SndT.com y c)] _ := hR.close1g (a', k', c') trivial fun _ h => by cases h
    rw [cSnds, ← zip_put (f := cSnd) hb]
    exact hback h3
end snds
end Go.Proofs.YtehdegekgdlifaaDoor
end
section
namespace Go.Sx
open Go
section
variable {P : Program} {ops : Array Oper} {Q : Exit → Act → World → Prop}
def isBS : Op → Bool
  | .buildSlice .. => true
  | _ => false
theorem isBS_run {o : Oper} (h : isBS o.op = true) (ρ : Operand → Value) (w : World) : (∃ x w', (execOp ρ o).run P w = .ok (.value x) w') ∨ ∃ x w', (execOp ρ o).run P w = .halt x w' := by
  obtain ⟨d, op, t, pos, af, g⟩ := o
  cases op <;> first | cases h | skip
  simp only [execOp, Sem.run_bind]
  generalize (Instr.buildSlice _ _ _).run P w = r
  cases r with
  | ok x w' => exact .inl ⟨x, w', rfl⟩
  | halt x w' => exact .inr ⟨x, w', rfl⟩
theorem wpOp_two {i : Nat} {o : Oper} {K1 K2 : Act → World → Prop} {a : Act} {w : World} (ho : ops[i]? = some o) (hb : isBS o.op = true) (h1 : wpOp P ops Q i K1 a w) (h2 : wpOp P ops Q i K2 a w) : wpOp P ops Q i (fun a w => K1 a w ∧ K2 a w) a w := by
  unfold wpOp at *
  simp only [ho] at h1 h2 ⊢
  split
  · rename_i hw
    simp only [hw, if_true] at h1 h2
    rcases h1 with h1 | h1
    · rcases h2 with h2 | h2
      · left
        unfold Oper.wp at *
        rcases isBS_run (P := P) hb a.eval w with ⟨x, w', hr⟩ | ⟨x, w', hr⟩
        · rw [hr] at h1 h2 ⊢
          exact ⟨h1, h2⟩
        · rw [hr] at h1 h2 ⊢
          cases x <;> exact h1
      · exact .inr h2
    · exact .inr h1
  · rename_i hw
    simp only [hw] at h1 h2
    exact ⟨h1, h2⟩
end
def bsAt (ops : Array Oper) (i : Nat) : Bool := match ops[i]? with
  | some o => isBS o.op
  | none => false
section rule
variable {P : Program} {f : Func} {R : Act → World → Prop} {n : Nat} {k : List Itm} {E : Env} {h r : List (Nat × Obj)} {F : List (List Nat × World)} {Y : Ghost}
theorem JR2_two {id L0 i : Nat} {q1 q2 : List (Nat × Bool)} {Wp : List (Nat × List Nat)} (hb : bsAt (rgOf f id) i = true) (H1 : JR P f R n (rgOf f id) L0 true ((i, false) :: q1) Wp k E h r F Y) (H2 : JR P f R n (rgOf f id) L0 true ((i, false) :: q2) Wp k E h r F Y) :
    JR2 P f R n (rgOf f id) L0 i q1 q2 Wp k E h r F Y := by
  intro B Hd fps a w s hH hR hN hW
  have k1 := H1 B Hd fps a w s hH hR hN hW
  have k2 := H2 B Hd fps a w s hH hR hN hW
  unfold bsAt at hb
  split at hb
  · rename_i o ho
    exact wpOp_mono (fun a w h => ⟨h.1.1 rfl, h.1.2, h.2.2⟩) (wpOp_two ho hb k1 k2)
  · cases hb
end rule
end Go.Sx
end
section
namespace Go.Sx
open Go
structure NewS where
  k : Int
  n : Nat
  oa : Option Addr
  oc : Nat
  ia : Option Addr
  ic : Nat
  om : List (List Nat)
  im : List (List Nat)
structure NewR where
  i : Int
  n : Nat
  oa : Option Addr
  oc : Nat
  ia : Option Addr
  ic : Nat
  om : List Nat
  im : List Nat
def newSs (id : Nat) (q : List (Nat × Nat)) : List SndT := q.map fun p => ⟨id, p.1, p.2, 0, 0, []⟩
def newRs (id : Nat) (q : List (Nat × Nat)) : List RcvT := q.map fun p => ⟨p.1, id, p.2, 0, 0, []⟩
theorem newSs_snoc (id : Nat) (q : List (Nat × Nat)) (k i : Int) (hk : 0 ≤ k) (hi : 0 ≤ i) : newSs id q ++ [⟨id, k, i, 0, 0, []⟩] = newSs id (q ++ [(k.toNat, i.toNat)]) := by
  simp [newSs, Int.toNat_of_nonneg hk, Int.toNat_of_nonneg hi]
theorem newRs_snoc (id : Nat) (q : List (Nat × Nat)) (k i : Int) (hk : 0 ≤ k) (hi : 0 ≤ i) : newRs id q ++ [⟨k, id, i, 0, 0, []⟩] = newRs id (q ++ [(k.toNat, i.toNat)]) := by
  simp [newRs, Int.toNat_of_nonneg hk, Int.toNat_of_nonneg hi]
theorem mem_two {α : Type} {l : List α} {a b : α} (h1 : a ∈ l) (h2 : b ∈ l) : ∀ y ∈ [a, b], y ∈ l := fun y hy => by
  rcases List.mem_cons.1 hy with rfl | hy
  · exact h1
  · obtain rfl := List.mem_singleton.1 hy
    exact h2
def newP (id places shards : Nat) : PlT := ⟨id, places, shards, 0, List.replicate places 0, [], newSs id (pairsP id shards places), newRs id (pairsP id shards places)⟩
structure PlBx where
  vb : Nat
  oa : Option Addr
  oc : Nat
  ia : Option Addr
  ic : Nat
  om : List (List Nat)
  im : List (List Nat)
structure BxOk (x : PlT) (y : PlBx) : Prop where
  om : RowsOk x.id x.shards x.places y.om
  im : RowsOk x.id x.shards x.places y.im
theorem rowP_zero (id k : Nat) : rowP id 0 k = [] := by
  unfold rowP
  split <;> simp
theorem rowP_self (id j : Nat) : rowP id j id = [] := if_pos rfl
end Go.Sx
namespace Go.Proofs.YtehdegekgdlifaaDoor
open Go Go.Sx
noncomputable def cPlace (b : Nat) (x : PlT) : Chunk := cBox (BxOk x) (fun y => [(.slice y.oa x.places y.oc, dRows y.om), (.slice y.ia x.places y.ic, dRows y.im)]) fun y => [cObj b (plC y.vb x.id x.places x.shards x.clock (.slice y.oa x.places y.oc) (.slice y.ia x.places y.ic)), cVer y.vb x.places x.base x.L, cSnds y.om.flatten x.ss, cRcvs y.im.flatten x.rs]
set_option maxHeartbeats 4000000 in
theorem placeNew {w : World} {S : Nat → Prop} {er : Nat → Addr} {eb : Nat → Array Value × TypeId} {id places shards : Int} (hC : Rep w S .nilIface (dC er eb)) :
    Calls Tryd.prog 9 #[.int .i64 id, .int .i64 places, .int .i64 shards] w fun e w' =>
      (¬ (1 ≤ places ∧ places ≤ 6 ∧ 1 ≤ shards ∧ shards ≤ 6 ∧ 0 ≤ id ∧ id < places) ∧ Ret [] w S w' e (.tuple #[.pointer none, .iface 156 (.pointer (some (er 2)))]) [] []) ∨
      ((1 ≤ places ∧ places ≤ 6 ∧ 1 ≤ shards ∧ shards ≤ 6 ∧ 0 ≤ id ∧ id < places) ∧ ∃ b, Ret [] w S w' e (.tuple #[.pointer (some ⟨b, 0, none⟩), .nilIface]) [cPlace b (newP id.toNat places.toNat shards.toNat)] []) := by
  refine ep9 (args := [.int .i64 id, .int .i64 places, .int .i64 shards]) (S := S) (G := [(_, dC er eb)]) (by kernel_rfl) (.cons hC (.nil _ _)) ?_
  refine J_stp (stp_all 0 [1] rfl rfl) ?_
  refine J_glob 1 rfl (fun csg1 tyg1 fzg1 hglob1 => ?_)
  try simp only [aQ]
  refine J_seq ?_
  refine Za [.rd 0 [] 0 0, .rd 1 [] 0 0] [] [(6, .val (.pointer none)), (7, .val (.nilIface))] ?_
  refine J_seq ?_
  refine J_seq ?_
  refine Za (Rds 0 3 ++ [.rd 3 [] 2 0, .rd 4 [] 2 0, .rd 5 [] 0 3, .rd 6 [] 0 0, .rd 7 [] 2 0, .rd 8 [] 2 0, .rd 9 [] 0 3, .rd 10 [] 0 0, .rd 11 [] 2 0, .rd 12 [] 2 0, .rd 13 [] 0 3, .rd 14 [] 0 0, .rd 15 [] 2 0, .rd 16 [] 2 0, .rd 17 [] 0 3, .rd 18 [] 0 0, .rd 19 [] 2 0, .rd 20 [] 2 0, .rd 21 [] 2 0, .rd 22 [] 0 3]) [] [(41, .val (.bool (decide (places < 1) || decide (places > 6) || decide (shards < 1) || decide (shards > 6) || decide (id < 0) || decide (id ≥ places))))] ?_
  refine J_cond (t := decide (places < 1) || decide (places > 6) || decide (shards < 1) || decide (shards > 6) || decide (id < 0) || decide (id ≥ places)) (by kernel_rfl) (by kernel_rfl) (fun hb => ?_) (fun hb => ?_)
  · refine J_seq ?_
    refine Zp [.rd 0 [.r 0 (some (.iface 156 (.pointer (some (er 2)))))] 0 0, .rd 1 [] 0 0, .rd 2 [] 0 0] [41] [(7, .val (.iface 156 (.pointer (some (er 2)))))] [csg1[(0 : Nat)]? = some (Value.iface (156 : Nat) (Value.pointer (some (er (2 : Nat)))))] ⟨hglob1, trivial⟩ ?_
    refine Yr [[], []] (.tuple #[.pointer none, .iface 156 (.pointer (some (er 2)))]) fun a w s => ?_
    exact .inl ⟨by simp at hb; omega, s.ret (by simp) [] [] rfl rfl⟩
  have hok : 1 ≤ places ∧ places ≤ 6 ∧ 1 ≤ shards ∧ shards ≤ 6 ∧ 0 ≤ id ∧ id < places := by simp at hb; omega
  obtain ⟨hp1, hp6, hs1, hs6, hid0, hid1⟩ := hok
  obtain ⟨id, rfl⟩ : ∃ n : Nat, id = n := ⟨id.toNat, by omega⟩
  obtain ⟨places, rfl⟩ : ∃ n : Nat, places = n := ⟨places.toNat, by omega⟩
  obtain ⟨shards, rfl⟩ : ∃ n : Nat, shards = n := ⟨shards.toNat, by omega⟩
  simp only [Int.toNat_natCast]
  refine J_skip ?_
  refine J_seq ?_
  refine jT [(0, true), (1, false), (2, true), (3, true), (4, true), (5, true), (6, true)] [] ?_
  refine Ya (id := 3) (rest := [(1, false), (2, true), (3, true), (4, true), (5, true), (6, true)]) [.rd 0 [] 0 0] [41] [(44, .val (.int .i64 (↑places : Int)))] ?_
  refine Yc 17 #[.int .i64 (↑places : Int)] (some 45) fun w S hG => ?_
  refine (verNew (hG.at 0 rfl) hp1 hp6).mono ?_
  rintro e1 w1 ⟨vb, hR⟩
  refine ⟨_, _, _, hR, ?_⟩
  rw [Int.toNat_natCast]
  try simp only [aQ]
  refine Ya (id := 3) (rest := []) (Rds 2 7) [45, 44] [(8, .val (.pointer (some (⟨vb, 0, none⟩)))), (9, .val (.nilIface))] ?_
  refine JR_end ?_
  refine J_seq ?_
  refine J_seq ?_
  refine Za [.rd 0 [] 0 0, .rd 1 [] 0 0] [] [(49, .val (.bool false))] ?_
  refine J_cond_f (by kernel_rfl) (by kernel_rfl) ?_
  refine J_skip ?_
  refine J_seq ?_
  refine Zm (Rds 0 5 ++ [.wr 5 [] 0, .rd 6 [] 0 0]) [] [49, 8, 9] (fun nu1 => [(10, .val (.pointer (some (⟨nu1 0, 0, none⟩))))]) (fun nu1 => [(nu1 0, .cells #[.pointer (some (⟨vb, 0, none⟩)), .int .i64 (↑id : Int), .int .i64 (↑places : Int), .int .i64 (↑shards : Int), .int .i64 0, .slice none 0 0, .slice none 0 0] 59 (0, 0))]) (fun nu1 => ?_)
  refine J_seq ?_
  refine J_seq ?_
  refine J_stp (stp_accm eRow 60 1) ?_
  refine J_stp (stp_accm eRow 61 1) ?_
  refine J_stp (stp_add (cSnds [] []) star_nil) ?_
  refine J_stp (stp_add (cRcvs [] []) star_nil) ?_
  refine Nm [(cVer vb places (List.replicate places 0) []), cAcc (.slice none 0 0) 60 1 (List.map eRow []), cAcc (.slice none 0 0) 61 1 (List.map eRow []), (cSnds [] []), (cRcvs [] [])] ?_
  refine Za [.rd 0 [] 0 0, .rd 1 [] 0 0] [1] [(57, .val (.int .i64 (↑places : Int))), (58, .val (.int .i64 0))] ?_
  refine J_block ?_
  refine J_loopx (fun x : NewS => [(0, .val (.int .i64 (↑id : Int))), (2, .val (.int .i64 (↑shards : Int))), (6, .val (.pointer none)), (7, .val (.nilIface)), (10, .val (.pointer (some (⟨nu1 0, 0, none⟩)))), (57, .val (.int .i64 (↑places : Int))), (58, .val (.int .i64 x.k))]) (fun x : NewS => [(nu1 0, plC vb id places shards 0 (.slice x.oa x.n x.oc) (.slice x.ia x.n x.ic))]) (fun x : NewS => [cVer vb places (List.replicate places 0) [], cAcc (.slice x.oa x.n x.oc) 60 1 (x.om.map eRow), cAcc (.slice x.ia x.n x.ic) 61 1 (x.im.map eRow), cSnds x.om.flatten (newSs id (pairsP id shards x.k.toNat)), cRcvs x.im.flatten (newRs id (pairsP id shards x.k.toNat))]) (fun x : NewS => [(.nilIface, (dC er eb)), (.pointer (some (⟨1, 0, none⟩)), (D.ptr [D.v (Value.iface 156 (Value.pointer (some (er 2))))]))]) (fun x : NewS => (places - x.k).toNat) (fun x : NewS => (0 ≤ x.k ∧ x.k ≤ places ∧ x.n = x.k.toNat ∧ RowsOk id shards x.k.toNat x.om ∧ RowsOk id shards x.k.toNat x.im)) ⟨0, 0, none, 0, none, 0, [], []⟩ [0, 2, 6, 7, 10, 57, 58] [0] [0, 1, 2, 3, 4] [0, 1] ?_ (by kernel_rfl) rfl rfl rfl ?_
  · exact ⟨by simp, by simp, by simp, .nil _ _, .nil _ _⟩
  rintro ⟨k, n, oa, oc, ia, ic, om, im⟩ ⟨hk0, hk1, hn, ho, hi⟩
  dsimp only at hk0 hk1 hn ho hi ⊢
  have hol := ho.len
  have hil := hi.len
  refine J_seq ?_
  refine Za [.rd 0 [] 0 0] [] [(59, .val (.bool (decide (k < (↑places : Int)))))] ?_
  refine J_seq ?_
  refine J_cond (t := decide (k < (↑places : Int))) (by kernel_rfl) (by kernel_rfl) (fun hlt => ?_) (fun hlt => ?_)
  · have hlt2 : k < places := by simpa using hlt
    refine J_skip ?_
    refine J_seq ?_
    refine J_block ?_
    refine J_seq ?_
    refine Za [.rd 0 [] 0 0, .rd 1 [] 0 0] [59] [(11, .val (.int .i64 k))] ?_
    refine J_seq ?_
    refine Za [.rd 0 [] 0 0] [] [(12, .val (.slice none 0 0))] ?_
    refine J_seq ?_
    refine Za [.rd 0 [] 0 0] [] [(13, .val (.slice none 0 0))] ?_
    refine J_seq ?_
    refine J_seq ?_
    refine J_stp (stp_accm eP 62 1) ?_
    refine J_stp (stp_accm eP 65 1) ?_
    refine Nm [(cVer vb places (List.replicate places 0) []), cAcc (.slice oa n oc) 60 1 (List.map eRow om), cAcc (.slice ia n ic) 61 1 (List.map eRow im), (cSnds om.flatten (newSs id (pairsP id shards k.toNat))), (cRcvs im.flatten (newRs id (pairsP id shards k.toNat))), cAcc (.slice none 0 0) 62 1 (List.map eP []), cAcc (.slice none 0 0) 65 1 (List.map eP [])] ?_
    rw [show cSnds om.flatten (newSs id (pairsP id shards k.toNat)) = cSnds (om.flatten ++ []) (newSs id (pairsP id shards k.toNat ++ rowP id (0 : Int).toNat k.toNat)) by rw [Int.toNat_zero, rowP_zero, List.append_nil, List.append_nil], show cRcvs im.flatten (newRs id (pairsP id shards k.toNat)) = cRcvs (im.flatten ++ []) (newRs id (pairsP id shards k.toNat ++ rowP id (0 : Int).toNat k.toNat)) by rw [Int.toNat_zero, rowP_zero, List.append_nil, List.append_nil]]
    refine Za [.rd 0 [] 0 0, .rd 1 [] 0 0] [] [(61, .val (.int .i64 (↑shards : Int))), (62, .val (.int .i64 0))] ?_
    refine J_block ?_
    refine J_loopx (fun y : NewR => [(0, .val (.int .i64 (↑id : Int))), (2, .val (.int .i64 (↑shards : Int))), (6, .val (.pointer none)), (7, .val (.nilIface)), (10, .val (.pointer (some (⟨nu1 0, 0, none⟩)))), (11, .val (.int .i64 k)), (12, .val (.slice y.oa y.n y.oc)), (13, .val (.slice y.ia y.n y.ic)), (57, .val (.int .i64 (↑places : Int))), (58, .val (.int .i64 k)), (61, .val (.int .i64 (↑shards : Int))), (62, .val (.int .i64 y.i))]) (fun y : NewR => [(nu1 0, .cells #[.pointer (some (⟨vb, 0, none⟩)), .int .i64 (↑id : Int), .int .i64 (↑places : Int), .int .i64 (↑shards : Int), .int .i64 0, .slice oa n oc, .slice ia n ic] 59 (0, 0))]) (fun y : NewR => [cVer vb places (List.replicate places 0) [], cAcc (.slice oa n oc) 60 1 (om.map eRow), cAcc (.slice ia n ic) 61 1 (im.map eRow), cSnds (om.flatten ++ y.om) (newSs id (pairsP id shards k.toNat ++ rowP id y.i.toNat k.toNat)), cRcvs (im.flatten ++ y.im) (newRs id (pairsP id shards k.toNat ++ rowP id y.i.toNat k.toNat)), cAcc (.slice y.oa y.n y.oc) 62 1 (y.om.map eP), cAcc (.slice y.ia y.n y.ic) 65 1 (y.im.map eP)]) (fun y : NewR => [(.nilIface, (dC er eb)), (.pointer (some (⟨1, 0, none⟩)), (D.ptr [D.v (Value.iface 156 (Value.pointer (some (er 2))))]))]) (fun y : NewR => (shards - y.i).toNat) (fun y : NewR => (0 ≤ y.i ∧ y.i ≤ shards ∧ y.om.length = (rowP id y.i.toNat k.toNat).length ∧ y.im.length = (rowP id y.i.toNat k.toNat).length ∧ y.n ≤ shards)) ⟨0, 0, none, 0, none, 0, [], []⟩ [0, 2, 6, 7, 10, 11, 12, 13, 57, 58, 61, 62] [0] [0, 1, 2, 3, 4, 5, 6] [0, 1] ?_ (by kernel_rfl) rfl rfl rfl ?_
    · exact ⟨by simp, by simp, by simp [rowP_zero], by simp [rowP_zero], by simp⟩
    rintro ⟨i, m, pa, pc, qa, qc, pm, qm⟩ ⟨hi0, hi1, hpl, hql, hm6⟩
    dsimp only at hi0 hi1 hpl hql hm6 ⊢
    refine J_stpx (stp_acclen 5 rfl) fun _ hm => ?_
    rw [List.length_map] at hm
    refine J_seq ?_
    refine Za [.rd 0 [] 0 0] [] [(63, .val (.bool (decide (i < (↑shards : Int)))))] ?_
    refine J_seq ?_
    refine J_cond (t := decide (i < (↑shards : Int))) (by kernel_rfl) (by kernel_rfl) (fun hls => ?_) (fun hls => ?_)
    · have hls2 : i < shards := by simpa using hls
      refine J_skip ?_
      refine J_seq ?_
      refine J_block ?_
      refine J_seq ?_
      refine Za [.rd 0 [] 0 0, .rd 1 [] 0 0] [63] [(14, .val (.int .i64 i))] ?_
      refine J_seq ?_
      refine Za (Rds 0 3) [] [(67, .val (.bool (k != (↑id : Int))))] ?_
      refine J_cond (t := k != (↑id : Int)) (by kernel_rfl) (by kernel_rfl) (fun hne => ?_) (fun hne => ?_)
      · have hne2 : k.toNat ≠ id := by
          intro h0
          apply (by simpa using hne : ¬ k = id)
          omega
        have hrl : (rowP id i.toNat k.toNat).length = i.toNat := by rw [rowP_length, if_neg hne2]
        rw [hrl] at hpl hql
        have hrs : rowP id (i + 1).toNat k.toNat = rowP id i.toNat k.toNat ++ [(k.toNat, i.toNat)] := by rw [show (i + 1).toNat = i.toNat + 1 by omega, rowP_succ _ _ _ hne2]
        have hw1 : wayErr id k i = 0 := by rw [wayErr, if_neg (by omega), if_neg (by omega)]
        have hw2 : wayErr k id i = 0 := by rw [wayErr, if_neg (by omega), if_neg (by omega)]
        have hfo : (om.flatten ++ pm).length = (newSs id (pairsP id shards k.toNat ++ rowP id i.toNat k.toNat)).length := by
          rw [newSs, List.length_map, List.length_append, List.length_append, ho.flen, hpl, hrl]
          rfl
        have hfi : (im.flatten ++ qm).length = (newRs id (pairsP id shards k.toNat ++ rowP id i.toNat k.toNat)).length := by
          rw [newRs, List.length_map, List.length_append, List.length_append, hi.flen, hql, hrl]
          rfl
        refine J_seq ?_
        refine jT [(0, true), (1, true), (2, true), (3, false), (4, true), (5, true), (6, true), (7, true), (8, true)] [] ?_
        refine Ya (id := 16) (rest := [(3, false), (4, true), (5, true), (6, true), (7, true), (8, true)]) (Rds 0 3) [67] [(69, .val (.int .i64 (↑id : Int))), (70, .val (.int .i64 k)), (71, .val (.int .i64 i))] ?_
        refine JR_call [] [3] 18 #[.int .i64 (↑id : Int), .int .i64 k, .int .i64 i] (some 72) (by kernel_rfl) (by kernel_rfl) (by decide) (fun w S M hP hG _ => ?_)
        refine (sndNew (hG.at 0 rfl) hP hfo hw1).mono ?_
        rintro e2 w2 ⟨b1, hR⟩
        refine ⟨_, _, _, hR, ?_⟩
        try simp only [aQ]
        refine Ya (id := 16) (rest := []) (Rds 4 9) [72, 69, 70, 71] [(15, .val (.pointer (some (⟨b1, 0, none⟩))))] ?_
        try simp only [aQ]
        refine JR_end ?_
        try simp only [aQ]
        refine J_seq ?_
        try simp only [aQ]
        refine jT [(0, true), (1, true), (2, true), (3, false), (4, true), (5, true), (6, true), (7, true), (8, true)] [] ?_
        refine Ya (id := 17) (rest := [(3, false), (4, true), (5, true), (6, true), (7, true), (8, true)]) (Rds 0 3) [] [(76, .val (.int .i64 k)), (77, .val (.int .i64 (↑id : Int))), (78, .val (.int .i64 i))] ?_
        refine JR_call [] [3] 19 #[.int .i64 k, .int .i64 (↑id : Int), .int .i64 i] (some 79) (by kernel_rfl) (by kernel_rfl) (by decide) (fun w S M hP hG _ => ?_)
        refine (rcvNew (hG.at 0 rfl) hP hfi hw2).mono ?_
        rintro e3 w3 ⟨b2, hR⟩
        refine ⟨_, _, _, hR, ?_⟩
        rw [newSs_snoc _ _ _ _ hk0 hi0, newRs_snoc _ _ _ _ hk0 hi0, List.append_assoc om.flatten, List.append_assoc im.flatten, List.append_assoc (pairsP id shards k.toNat), ← hrs]
        try simp only [aQ]
        refine Ya (id := 17) (rest := []) (Rds 4 9) [79, 76, 77, 78] [(17, .val (.pointer (some (⟨b2, 0, none⟩))))] ?_
        try simp only [aQ]
        refine JR_end ?_
        try simp only [aQ]
        refine jT [(0, true), (1, true), (2, false), (3, false), (4, true), (5, true), (6, false), (7, false), (8, true), (9, true)] [] ?_
        refine Ym (id := 18) (rest := [(3, false), (4, true), (5, true), (6, false), (7, false), (8, true), (9, true)]) [.rd 0 [] 0 0, .rd 1 [] 0 0, .wr 2 [] 0] [] (fun nu2 => [(82, .val (.slice pa m pc)), (84, .val (.slice (some (⟨nu2 0, 0, none⟩)) 1 1))]) (fun nu2 => [(nu1 0, .cells #[.pointer (some (⟨vb, 0, none⟩)), .int .i64 (↑id : Int), .int .i64 (↑places : Int), .int .i64 (↑shards : Int), .int .i64 0, .slice oa n oc, .slice ia n ic] 59 (0, 0)), (nu2 0, .cells #[.pointer (some (⟨b1, 0, none⟩))] 62 (0, 0))]) [] (fun nu2 => ?_)
        refine JN [(cVer vb places (List.replicate places 0) []), cAcc (.slice oa n oc) 60 1 (List.map eRow om), cAcc (.slice ia n ic) 61 1 (List.map eRow im), cAcc (.slice pa m pc) 62 1 (List.map eP pm), cAcc (.slice qa m qc) 65 1 (List.map eP qm), (cSnds (om.flatten ++ (pm ++ [b1])) (newSs id (pairsP id shards k.toNat ++ rowP id (i + 1).toNat k.toNat))), (cRcvs (im.flatten ++ (qm ++ [b2])) (newRs id (pairsP id shards k.toNat ++ rowP id (i + 1).toNat k.toNat)))] ?_
        refine JR_appm 3 60 62 1 8 (.pointer none) (a0 := pa) (len := m) (cap0 := pc) (ax := (some (⟨nu2 0, 0, none⟩))) (m := 1) (c := 1) (dst := (some 85)) [b1] (by kernel_rfl) (by kernel_rfl) (by kernel_rfl) (by kernel_rfl) rfl (by decide) rfl (fun _ _ _ s => src_one s 1 rfl rfl ⟨.inl ⟨rfl, rfl⟩, trivial⟩) (by simp only [maxLen]; omega) (by omega) (fun av1 cv1 => ?_)
        refine JN [(cVer vb places (List.replicate places 0) []), cAcc (.slice oa n oc) 60 1 (List.map eRow om), cAcc (.slice ia n ic) 61 1 (List.map eRow im), cAcc (.slice qa m qc) 65 1 (List.map eP qm), (cSnds (om.flatten ++ (pm ++ [b1])) (newSs id (pairsP id shards k.toNat ++ rowP id (i + 1).toNat k.toNat))), (cRcvs (im.flatten ++ (qm ++ [b2])) (newRs id (pairsP id shards k.toNat ++ rowP id (i + 1).toNat k.toNat))), cAcc (.slice av1 (m + 1) cv1) 62 1 (List.map eP (pm ++ [b1]))] ?_
        try simp only [aQ]
        refine Ym (id := 18) (rest := [(7, false), (8, true), (9, true)]) [.rd 4 [] 0 0, .rd 5 [] 0 0, .wr 6 [] 0] [82, 84] (fun nu3 => [(86, .val (.slice qa m qc)), (88, .val (.slice (some (⟨nu3 0, 0, none⟩)) 1 1))]) (fun nu3 => [(nu1 0, .cells #[.pointer (some (⟨vb, 0, none⟩)), .int .i64 (↑id : Int), .int .i64 (↑places : Int), .int .i64 (↑shards : Int), .int .i64 0, .slice oa n oc, .slice ia n ic] 59 (0, 0)), (nu2 0, .cells #[.pointer (some (⟨b1, 0, none⟩))] 62 (0, 0)), (nu3 0, .cells #[.pointer (some (⟨b2, 0, none⟩))] 65 (0, 0))]) [] (fun nu3 => ?_)
        refine JR_appm 3 61 65 1 8 (.pointer none) (a0 := qa) (len := m) (cap0 := qc) (ax := (some (⟨nu3 0, 0, none⟩))) (m := 1) (c := 1) (dst := (some 89)) [b2] (by kernel_rfl) (by kernel_rfl) (by kernel_rfl) (by kernel_rfl) rfl (by decide) rfl (fun _ _ _ s => src_one s 2 rfl rfl ⟨.inl ⟨rfl, rfl⟩, trivial⟩) (by simp only [maxLen]; omega) (by omega) (fun av2 cv2 => ?_)
        refine JN [(cVer vb places (List.replicate places 0) []), cAcc (.slice oa n oc) 60 1 (List.map eRow om), cAcc (.slice ia n ic) 61 1 (List.map eRow im), (cSnds (om.flatten ++ (pm ++ [b1])) (newSs id (pairsP id shards k.toNat ++ rowP id (i + 1).toNat k.toNat))), (cRcvs (im.flatten ++ (qm ++ [b2])) (newRs id (pairsP id shards k.toNat ++ rowP id (i + 1).toNat k.toNat))), cAcc (.slice av1 (m + 1) cv1) 62 1 (List.map eP (pm ++ [b1])), cAcc (.slice av2 (m + 1) cv2) 65 1 (List.map eP (qm ++ [b2]))] ?_
        try simp only [aQ]
        refine Ya (id := 18) (rest := []) [.rd 8 [] 0 0, .rd 9 [] 0 0] [89, 86, 88, 85] [(12, .val (.slice av1 (m + 1) cv1)), (13, .val (.slice av2 (m + 1) cv2))] ?_
        refine JR_end ?_
        refine J_eb ?_
        refine Zp [.rd 0 [] 0 1, .rd 1 [] 0 0] [] [(62, .val (.int .i64 (i + 1)))] [IntKind.i64.wrap (i + (1 : Int)) = i + (1 : Int)] ⟨wrap_i64 (by omega) (by omega), trivial⟩ ?_
        refine J_backx ⟨i + 1, m + 1, av1, cv1, av2, cv2, pm ++ [b1], qm ++ [b2]⟩ [0, 2, 6, 7, 10, 11, 12, 13, 57, 58, 61, 62] [0] [0, 1, 2, 3, 4, 5, 6] [0, 1] ?_ ?_ (by kernel_rfl) rfl rfl rfl
        · refine ⟨by simp only; omega, by simp only; omega, ?_, ?_, by simp only; omega⟩
          · rw [hrs, List.length_append, List.length_append, hpl, hrl]
            rfl
          · rw [hrs, List.length_append, List.length_append, hql, hrl]
            rfl
        · simp only
          omega
      · have hid : k.toNat = id := by
          have : k = id := by simpa using hne
          omega
        rw [hid, rowP_self] at hpl hql
        refine J_skip ?_
        refine J_eb ?_
        refine Zp [.rd 0 [] 0 1, .rd 1 [] 0 0] [67] [(62, .val (.int .i64 (i + 1)))] [IntKind.i64.wrap (i + (1 : Int)) = i + (1 : Int)] ⟨wrap_i64 (by omega) (by omega), trivial⟩ ?_
        rw [hid, show rowP id i.toNat id = rowP id (i + 1).toNat id by rw [rowP_self, rowP_self], ← hid]
        refine J_backx ⟨i + 1, m, pa, pc, qa, qc, pm, qm⟩ [0, 2, 6, 7, 10, 11, 12, 13, 57, 58, 61, 62] [0] [0, 1, 2, 3, 4, 5, 6] [0, 1] ?_ ?_ (by kernel_rfl) rfl rfl rfl
        · refine ⟨by simp only; omega, by simp only; omega, ?_, ?_, hm6⟩
          · rw [hid, rowP_self]
            exact hpl
          · rw [hid, rowP_self]
            exact hql
        · simp only
          omega
    · have hie : i = shards := by simp at hls; omega
      have hrw : rowP id i.toNat k.toNat = rowP id shards k.toNat := by rw [hie, Int.toNat_natCast]
      rw [hrw] at hpl hql ⊢
      rw [rowP_length] at hpl hql
      have hk1n : k.toNat + 1 = (k + 1).toNat := by omega
      have hso : RowsOk id shards (k + 1).toNat (om ++ [pm]) := hk1n ▸ ho.snoc hpl
      have hsi : RowsOk id shards (k + 1).toNat (im ++ [qm]) := hk1n ▸ hi.snoc hql
      rw [← pairsP_succ, hk1n, show om.flatten ++ pm = (om ++ [pm]).flatten by simp, show im.flatten ++ qm = (im ++ [qm]).flatten by simp]
      refine J_exit rfl ?_
      refine J_stp (stp_freeze 5 rfl) ?_
      refine J_stp (stp_freeze 5 rfl) ?_
      refine Nm [(cVer vb places (List.replicate places 0) []), cAcc (.slice oa n oc) 60 1 (List.map eRow om), cAcc (.slice ia n ic) 61 1 (List.map eRow im), (cSnds (om ++ [pm]).flatten (newSs id (pairsP id shards (k + 1).toNat))), (cRcvs (im ++ [qm]).flatten (newRs id (pairsP id shards (k + 1).toNat)))] ?_
      refine J_fork3 mixed [.rd 0 [] 0 0, .rd 1 [] 0 0, .rd 2 [] 0 0, .rd 3 [] 0 0, .rd 4 [] 0 0, .rd 5 [.o 0 none] 0 0, .rd 6 [] 0 0, .rd 9 [] 0 0, .rd 10 [] 0 0, .rd 11 [] 0 0, .rd 12 [.o 0 none] 0 0, .rd 13 [] 0 0] 7 14 [(8, false), (14, false), (15, false), (16, true), (17, true), (18, false), (19, true), (20, true), (21, false)] [(14, false), (8, false), (15, false), (16, true), (17, true), (18, false), (19, true), (20, true), (21, false)] [(7, false), (8, false), (15, false), (16, true), (17, true), (18, false), (19, true), (20, true), (21, false)] [(8, []), (15, []), (18, [0]), (21, [0])] [0, 2, 6, 7, 10, 11, 12, 13, 57, 58, 61, 62, 91, 92, 96, 97, 103, 104] (E1 := fun _ => [(0, .val (.int .i64 (↑id : Int))), (2, .val (.int .i64 (↑shards : Int))), (6, .val (.pointer none)), (7, .val (.nilIface)), (10, .val (.pointer (some (⟨nu1 0, 0, none⟩)))), (11, .val (.int .i64 k)), (12, .val (.slice pa m pc)), (13, .val (.slice qa m qc)), (57, .val (.int .i64 (↑places : Int))), (58, .val (.int .i64 k)), (61, .val (.int .i64 (↑shards : Int))), (62, .val (.int .i64 i)), (91, .val (.pointer (some (⟨nu1 0, 0, none⟩)))), (92, .val (.pointer (some (⟨nu1 0, 0, none⟩)))), (96, .val (.slice oa n oc)), (97, .val (.slice pa m pc)), (103, .val (.slice ia n ic)), (104, .val (.slice qa m qc))]) (p1 := fun _ => []) (by kernel_rfl) (by kernel_rfl) (fun _ => by kernel_rfl) (fun _ => trivial) (fun _ => ?_) (fun _ => ?_)
      · refine JR2_two (by kernel_rfl) ?_ ?_
        · try simp only [aQ]
          refine Ym (id := 20) (rest := [(8, false), (14, false), (15, false), (16, true), (17, true), (18, false), (19, true), (20, true), (21, false)]) [.wr 7 [] 0] [97] (fun nu2 => [(98, .val (.slice (some (⟨nu2 0, 0, none⟩)) 1 1))]) (fun nu2 => [(nu1 0, .cells #[.pointer (some (⟨vb, 0, none⟩)), .int .i64 (↑id : Int), .int .i64 (↑places : Int), .int .i64 (↑shards : Int), .int .i64 0, .slice oa n oc, .slice ia n ic] 59 (0, 0)), (nu2 0, .cells #[.slice pa m pc] 60 (0, 0))]) [(8, []), (15, []), (18, [0]), (21, [0])] (fun nu2 => ?_)
          refine JN [(cVer vb places (List.replicate places 0) []), cAcc (.slice oa n oc) 60 1 (List.map eRow om), cAcc (.slice ia n ic) 61 1 (List.map eRow im), (cSnds (om ++ [pm]).flatten (newSs id (pairsP id shards (k + 1).toNat))), (cRcvs (im ++ [qm]).flatten (newRs id (pairsP id shards (k + 1).toNat)))] ?_
          refine JR_appm 1 56 60 1 24 (.slice none 0 0) (a0 := oa) (len := n) (cap0 := oc) (ax := (some (⟨nu2 0, 0, none⟩))) (m := 1) (c := 1) (dst := (some 99)) [pm] (by kernel_rfl) (by kernel_rfl) (by kernel_rfl) (by kernel_rfl) rfl (by decide) rfl (fun _ _ _ s => src_one s 1 rfl rfl ⟨.inr (.inl (List.mem_of_getElem? (i := 2) rfl)), trivial⟩) (by simp only [maxLen]; omega) (by omega) (fun av1 cv1 => ?_)
          refine JN [(cVer vb places (List.replicate places 0) []), cAcc (.slice ia n ic) 61 1 (List.map eRow im), (cSnds (om ++ [pm]).flatten (newSs id (pairsP id shards (k + 1).toNat))), (cRcvs (im ++ [qm]).flatten (newRs id (pairsP id shards (k + 1).toNat))), cAcc (.slice av1 (n + 1) cv1) 60 1 (List.map eRow (om ++ [pm]))] ?_
          try simp only [aQ]
          refine Ym (id := 20) (rest := [(15, false), (16, true), (17, true), (18, false), (19, true), (20, true), (21, false)]) [.wr 14 [] 0] [98, 96, 104] (fun nu3 => [(105, .val (.slice (some (⟨nu3 0, 0, none⟩)) 1 1))]) (fun nu3 => [(nu1 0, .cells #[.pointer (some (⟨vb, 0, none⟩)), .int .i64 (↑id : Int), .int .i64 (↑places : Int), .int .i64 (↑shards : Int), .int .i64 0, .slice oa n oc, .slice ia n ic] 59 (0, 0)), (nu2 0, .cells #[.slice pa m pc] 60 (0, 0)), (nu3 0, .cells #[.slice qa m qc] 61 (0, 0))]) [(15, []), (18, [0]), (21, [0])] (fun nu3 => ?_)
          refine JR_appm 1 57 61 1 24 (.slice none 0 0) (a0 := ia) (len := n) (cap0 := ic) (ax := (some (⟨nu3 0, 0, none⟩))) (m := 1) (c := 1) (dst := (some 106)) [qm] (by kernel_rfl) (by kernel_rfl) (by kernel_rfl) (by kernel_rfl) rfl (by decide) rfl (fun _ _ _ s => src_one s 2 rfl rfl ⟨.inr (.inl (List.mem_of_getElem? (i := 3) rfl)), trivial⟩) (by simp only [maxLen]; omega) (by omega) (fun av2 cv2 => ?_)
          refine JN [(cVer vb places (List.replicate places 0) []), (cSnds (om ++ [pm]).flatten (newSs id (pairsP id shards (k + 1).toNat))), (cRcvs (im ++ [qm]).flatten (newRs id (pairsP id shards (k + 1).toNat))), cAcc (.slice av1 (n + 1) cv1) 60 1 (List.map eRow (om ++ [pm])), cAcc (.slice av2 (n + 1) cv2) 61 1 (List.map eRow (im ++ [qm]))] ?_
          try simp only [aQ]
          refine Ym (id := 20) (rest := []) [.rd 16 [] 0 0, .rd 17 [] 0 0, .wr 18 [.o 0 none] 0, .rd 19 [] 0 0, .rd 20 [] 0 0, .wr 21 [.o 0 none] 0] [106, 105, 99, 91, 92, 103] (fun _ => []) (fun _ => [(nu1 0, .cells #[.pointer (some (⟨vb, 0, none⟩)), .int .i64 (↑id : Int), .int .i64 (↑places : Int), .int .i64 (↑shards : Int), .int .i64 0, .slice av1 (n + 1) cv1, .slice av2 (n + 1) cv2] 59 (0, 0)), (nu2 0, .cells #[.slice pa m pc] 60 (0, 0)), (nu3 0, .cells #[.slice qa m qc] 61 (0, 0))]) [] (fun _ => ?_)
          refine JR_end ?_
          refine J_eb ?_
          refine Zp [.rd 0 [] 0 1, .rd 1 [] 0 0] [] [(58, .val (.int .i64 (k + 1)))] [IntKind.i64.wrap (k + (1 : Int)) = k + (1 : Int)] ⟨wrap_i64 (by omega) (by omega), trivial⟩ ?_
          refine J_backx ⟨k + 1, n + 1, _, _, _, _, om ++ [pm], im ++ [qm]⟩ [0, 2, 6, 7, 10, 57, 58] [0] [0, 3, 4, 1, 2] [0, 1] ?_ ?_ (by kernel_rfl) rfl rfl rfl
          · exact ⟨by simp only; omega, by simp only; omega, by simp only; omega, hso, hsi⟩
          · simp only
            omega
        · try simp only [aQ]
          refine Ym (id := 20) (rest := [(8, false), (15, false), (16, true), (17, true), (18, false), (19, true), (20, true), (21, false)]) [.wr 7 [] 0, .wr 14 [] 0] [97, 104] (fun nu2 => [(98, .val (.slice (some (⟨nu2 0, 0, none⟩)) 1 1)), (105, .val (.slice (some (⟨nu2 1, 0, none⟩)) 1 1))]) (fun nu2 => [(nu1 0, .cells #[.pointer (some (⟨vb, 0, none⟩)), .int .i64 (↑id : Int), .int .i64 (↑places : Int), .int .i64 (↑shards : Int), .int .i64 0, .slice oa n oc, .slice ia n ic] 59 (0, 0)), (nu2 0, .cells #[.slice pa m pc] 60 (0, 0)), (nu2 1, .cells #[.slice qa m qc] 61 (0, 0))]) [(8, []), (15, []), (18, [0]), (21, [0])] (fun nu2 => ?_)
          refine JN [(cVer vb places (List.replicate places 0) []), cAcc (.slice oa n oc) 60 1 (List.map eRow om), cAcc (.slice ia n ic) 61 1 (List.map eRow im), (cSnds (om ++ [pm]).flatten (newSs id (pairsP id shards (k + 1).toNat))), (cRcvs (im ++ [qm]).flatten (newRs id (pairsP id shards (k + 1).toNat)))] ?_
          refine JR_appm 1 56 60 1 24 (.slice none 0 0) (a0 := oa) (len := n) (cap0 := oc) (ax := (some (⟨nu2 0, 0, none⟩))) (m := 1) (c := 1) (dst := (some 99)) [pm] (by kernel_rfl) (by kernel_rfl) (by kernel_rfl) (by kernel_rfl) rfl (by decide) rfl (fun _ _ _ s => src_one s 1 rfl rfl ⟨.inr (.inl (List.mem_of_getElem? (i := 2) rfl)), trivial⟩) (by simp only [maxLen]; omega) (by omega) (fun av1 cv1 => ?_)
          refine JN [(cVer vb places (List.replicate places 0) []), cAcc (.slice ia n ic) 61 1 (List.map eRow im), (cSnds (om ++ [pm]).flatten (newSs id (pairsP id shards (k + 1).toNat))), (cRcvs (im ++ [qm]).flatten (newRs id (pairsP id shards (k + 1).toNat))), cAcc (.slice av1 (n + 1) cv1) 60 1 (List.map eRow (om ++ [pm]))] ?_
          try simp only [aQ]
          refine JR_appm 1 57 61 1 24 (.slice none 0 0) (a0 := ia) (len := n) (cap0 := ic) (ax := (some (⟨nu2 1, 0, none⟩))) (m := 1) (c := 1) (dst := (some 106)) [qm] (by kernel_rfl) (by kernel_rfl) (by kernel_rfl) (by kernel_rfl) rfl (by decide) rfl (fun _ _ _ s => src_one s 2 rfl rfl ⟨.inr (.inl (List.mem_of_getElem? (i := 3) rfl)), trivial⟩) (by simp only [maxLen]; omega) (by omega) (fun av2 cv2 => ?_)
          refine JN [(cVer vb places (List.replicate places 0) []), (cSnds (om ++ [pm]).flatten (newSs id (pairsP id shards (k + 1).toNat))), (cRcvs (im ++ [qm]).flatten (newRs id (pairsP id shards (k + 1).toNat))), cAcc (.slice av1 (n + 1) cv1) 60 1 (List.map eRow (om ++ [pm])), cAcc (.slice av2 (n + 1) cv2) 61 1 (List.map eRow (im ++ [qm]))] ?_
          try simp only [aQ]
          refine Ym (id := 20) (rest := []) [.rd 16 [] 0 0, .rd 17 [] 0 0, .wr 18 [.o 0 none] 0, .rd 19 [] 0 0, .rd 20 [] 0 0, .wr 21 [.o 0 none] 0] [106, 99, 98, 105, 91, 92, 96, 103] (fun _ => []) (fun _ => [(nu1 0, .cells #[.pointer (some (⟨vb, 0, none⟩)), .int .i64 (↑id : Int), .int .i64 (↑places : Int), .int .i64 (↑shards : Int), .int .i64 0, .slice av1 (n + 1) cv1, .slice av2 (n + 1) cv2] 59 (0, 0)), (nu2 0, .cells #[.slice pa m pc] 60 (0, 0)), (nu2 1, .cells #[.slice qa m qc] 61 (0, 0))]) [] (fun _ => ?_)
          refine JR_end ?_
          refine J_eb ?_
          refine Zp [.rd 0 [] 0 1, .rd 1 [] 0 0] [] [(58, .val (.int .i64 (k + 1)))] [IntKind.i64.wrap (k + (1 : Int)) = k + (1 : Int)] ⟨wrap_i64 (by omega) (by omega), trivial⟩ ?_
          refine J_backx ⟨k + 1, n + 1, _, _, _, _, om ++ [pm], im ++ [qm]⟩ [0, 2, 6, 7, 10, 57, 58] [0] [0, 3, 4, 1, 2] [0, 1] ?_ ?_ (by kernel_rfl) rfl rfl rfl
          · exact ⟨by simp only; omega, by simp only; omega, by simp only; omega, hso, hsi⟩
          · simp only
            omega
      · try simp only [aQ]
        refine Ym (id := 20) (rest := [(8, false), (15, false), (16, true), (17, true), (18, false), (19, true), (20, true), (21, false)]) [.wr 14 [] 0, .wr 7 [] 0] [97, 104] (fun nu2 => [(98, .val (.slice (some (⟨nu2 1, 0, none⟩)) 1 1)), (105, .val (.slice (some (⟨nu2 0, 0, none⟩)) 1 1))]) (fun nu2 => [(nu1 0, .cells #[.pointer (some (⟨vb, 0, none⟩)), .int .i64 (↑id : Int), .int .i64 (↑places : Int), .int .i64 (↑shards : Int), .int .i64 0, .slice oa n oc, .slice ia n ic] 59 (0, 0)), (nu2 0, .cells #[.slice qa m qc] 61 (0, 0)), (nu2 1, .cells #[.slice pa m pc] 60 (0, 0))]) [(8, []), (15, []), (18, [0]), (21, [0])] (fun nu2 => ?_)
        refine JN [(cVer vb places (List.replicate places 0) []), cAcc (.slice oa n oc) 60 1 (List.map eRow om), cAcc (.slice ia n ic) 61 1 (List.map eRow im), (cSnds (om ++ [pm]).flatten (newSs id (pairsP id shards (k + 1).toNat))), (cRcvs (im ++ [qm]).flatten (newRs id (pairsP id shards (k + 1).toNat)))] ?_
        refine JR_appm 1 56 60 1 24 (.slice none 0 0) (a0 := oa) (len := n) (cap0 := oc) (ax := (some (⟨nu2 1, 0, none⟩))) (m := 1) (c := 1) (dst := (some 99)) [pm] (by kernel_rfl) (by kernel_rfl) (by kernel_rfl) (by kernel_rfl) rfl (by decide) rfl (fun _ _ _ s => src_one s 2 rfl rfl ⟨.inr (.inl (List.mem_of_getElem? (i := 2) rfl)), trivial⟩) (by simp only [maxLen]; omega) (by omega) (fun av1 cv1 => ?_)
        refine JN [(cVer vb places (List.replicate places 0) []), cAcc (.slice ia n ic) 61 1 (List.map eRow im), (cSnds (om ++ [pm]).flatten (newSs id (pairsP id shards (k + 1).toNat))), (cRcvs (im ++ [qm]).flatten (newRs id (pairsP id shards (k + 1).toNat))), cAcc (.slice av1 (n + 1) cv1) 60 1 (List.map eRow (om ++ [pm]))] ?_
        try simp only [aQ]
        refine JR_appm 1 57 61 1 24 (.slice none 0 0) (a0 := ia) (len := n) (cap0 := ic) (ax := (some (⟨nu2 0, 0, none⟩))) (m := 1) (c := 1) (dst := (some 106)) [qm] (by kernel_rfl) (by kernel_rfl) (by kernel_rfl) (by kernel_rfl) rfl (by decide) rfl (fun _ _ _ s => src_one s 1 rfl rfl ⟨.inr (.inl (List.mem_of_getElem? (i := 3) rfl)), trivial⟩) (by simp only [maxLen]; omega) (by omega) (fun av2 cv2 => ?_)
        refine JN [(cVer vb places (List.replicate places 0) []), (cSnds (om ++ [pm]).flatten (newSs id (pairsP id shards (k + 1).toNat))), (cRcvs (im ++ [qm]).flatten (newRs id (pairsP id shards (k + 1).toNat))), cAcc (.slice av1 (n + 1) cv1) 60 1 (List.map eRow (om ++ [pm])), cAcc (.slice av2 (n + 1) cv2) 61 1 (List.map eRow (im ++ [qm]))] ?_
        try simp only [aQ]
        refine Ym (id := 20) (rest := []) [.rd 16 [] 0 0, .rd 17 [] 0 0, .wr 18 [.o 0 none] 0, .rd 19 [] 0 0, .rd 20 [] 0 0, .wr 21 [.o 0 none] 0] [106, 99, 98, 105, 91, 92, 96, 103] (fun _ => []) (fun _ => [(nu1 0, .cells #[.pointer (some (⟨vb, 0, none⟩)), .int .i64 (↑id : Int), .int .i64 (↑places : Int), .int .i64 (↑shards : Int), .int .i64 0, .slice av1 (n + 1) cv1, .slice av2 (n + 1) cv2] 59 (0, 0)), (nu2 0, .cells #[.slice qa m qc] 61 (0, 0)), (nu2 1, .cells #[.slice pa m pc] 60 (0, 0))]) [] (fun _ => ?_)
        refine JR_end ?_
        refine J_eb ?_
        refine Zp [.rd 0 [] 0 1, .rd 1 [] 0 0] [] [(58, .val (.int .i64 (k + 1)))] [IntKind.i64.wrap (k + (1 : Int)) = k + (1 : Int)] ⟨wrap_i64 (by omega) (by omega), trivial⟩ ?_
        refine J_backx ⟨k + 1, n + 1, _, _, _, _, om ++ [pm], im ++ [qm]⟩ [0, 2, 6, 7, 10, 57, 58] [0] [0, 3, 4, 1, 2] [0, 1] ?_ ?_ (by kernel_rfl) rfl rfl rfl
        · exact ⟨by simp only; omega, by simp only; omega, by simp only; omega, hso, hsi⟩
        · simp only
          omega
  · have hke : k.toNat = places := by simp at hlt; omega
    rw [hke] at ho hi hn ⊢
    subst hn
    refine J_exit rfl ?_
    refine J_seq ?_
    refine Za (Rds 0 3) [59, 0, 2, 10, 57, 58] [(6, .val (.pointer (some (⟨nu1 0, 0, none⟩))))] ?_
    refine Yr [[], []] (.tuple #[.pointer (some (⟨nu1 0, 0, none⟩)), .nilIface]) fun a w s => ?_
    have s2 := ((s.stp (stp_freeze 1 rfl)).stp (stp_freeze 1 rfl)).hide 0 rfl
    have s3 := s2.stp (stp_closebox [3, 0, 1, 2] (p := BxOk (newP id n shards)) (G := fun y => [(.slice y.oa n y.oc, dRows y.om), (.slice y.ia n y.ic, dRows y.im)]) (C := fun y => [cObj (nu1 0) (plC y.vb id n shards 0 (.slice y.oa n y.oc) (.slice y.ia n y.ic)), cVer y.vb n (List.replicate n 0) [], cSnds y.om.flatten (newSs id (pairsP id shards n)), cRcvs y.im.flatten (newRs id (pairsP id shards n))]) ⟨vb, oa, oc, ia, ic, om, im⟩ rfl (mem_two (List.mem_of_getElem? (i := 2) rfl) (List.mem_of_getElem? (i := 3) rfl)) ⟨ho, hi⟩)
    exact .inr ⟨by omega, _, s3.ret (by simp) [0] [] rfl rfl⟩
end Go.Proofs.YtehdegekgdlifaaDoor
end
section
namespace Go.Proofs.YtehdegekgdlifaaDoor
open Go Go.Sx
def partC (n : Int) (c : ComT) (sh : Int) : ComT := ⟨c.when, c.place, c.ops.filter (inS n sh)⟩
set_option maxHeartbeats 4000000 in
theorem pPart {w : World} {S : Nat → Prop} {M : List Nat} {er : Nat → Addr} {eb : Nat → Array Value × TypeId} {c : ComT} {a1 a2 : Option Addr} {n1 c1 n2 c2 : Nat} {o i : Value} {b vb : Nat} {id places shards clock sh : Int} (hC : Rep w S .nilIface (dC er eb)) (hP : Pre w S M [cObj b (plC vb id places shards clock o i)]) (h2 : Rep w S (.slice a2 n2 c2) (.sl 7 (c.ops.map eOp))) (hl2 : c.ops.length ≤ 1000000) (s1 : 1 ≤ shards) (s6 : shards ≤ 6) :
    Calls Tryd.prog 24 #[.pointer (some ⟨b, 0, none⟩), .agg #[.slice a1 n1 c1, .int .i64 c.place, .slice a2 n2 c2], .int .i64 sh] w fun e w' => ∃ u d,
      Ret M w S w' e (.tuple #[.agg #[.slice a1 n1 c1, .int .i64 c.place, .slice u (partC shards c sh).ops.length d], .bool (decide (((partC shards c sh).ops.length : Int) > 0))]) [cObj b (plC vb id places shards clock o i)] [(.slice u (partC shards c sh).ops.length d, .sl 7 ((partC shards c sh).ops.map eOp))] := by
  refine en24 (args := [.pointer (some ⟨b, 0, none⟩), .agg #[.slice a1 n1 c1, .int .i64 c.place, .slice a2 n2 c2], .int .i64 sh]) (S := S) (C := [cObj b (plC vb id places shards clock o i)]) (G := [(_, dC er eb), (_, .sl 7 (c.ops.map eOp))]) (by kernel_rfl) hP (.cons hC (.cons h2 (.nil _ _))) ?_
  refine J_seq ?_
  refine Zm [.wr 0 [] 0, .wr 1 [] 0, .wr 2 [] 0, .wr 3 [] 0, .rd 4 [] 0 0] [] [0, 1, 2] (fun nu1 => [(3, .val (.pointer (some (⟨nu1 0, 0, none⟩)))), (4, .val (.pointer (some (⟨nu1 1, 0, none⟩)))), (5, .val (.pointer (some (⟨nu1 2, 0, none⟩)))), (6, .val (.pointer (some (⟨nu1 3, 0, none⟩)))), (7, .val (.bool false))]) (fun nu1 => [(nu1 0, .cells #[.pointer (some (⟨b, 0, none⟩))] 31 (0, 0)), (nu1 1, .cells #[.slice a1 n1 c1, .int .i64 c.place, .slice a2 n2 c2] 37 (0, 0)), (nu1 2, .cells #[.int .i64 sh] 3 (0, 0)), (nu1 3, .cells #[.slice none 0 0, .int .i64 0, .slice none 0 0] 37 (0, 0))]) (fun nu1 => ?_)
  refine J_seq ?_
  refine J_share 0 rfl ?_
  refine J_share 1 rfl ?_
  refine J_stp (stp_fact (v := .pointer (some ⟨nu1 0, 0, none⟩)) (d := .ptr [.v (.pointer (some ⟨b, 0, none⟩))]) fun w S H => obj_ptr (H _ (List.mem_of_getElem? (i := 2) rfl)) rfl) ?_
  refine J_stp (stp_fact (v := .pointer (some ⟨nu1 2, 0, none⟩)) (d := .ptr [.v (.int .i64 sh)]) fun w S H => obj_ptr (H _ (List.mem_of_getElem? (i := 3) rfl)) rfl) ?_
  refine Nm [cObj b (.cells #[.pointer (some (⟨vb, 0, none⟩)), .int .i64 id, .int .i64 places, .int .i64 shards, .int .i64 clock, o, i] 59 (0, 0))] ?_
  try simp only [aQ]
  refine jT [(0, true), (1, true), (2, false), (3, true), (4, false), (5, true), (6, false)] [] ?_
  refine Ya (id := 1) (rest := [(2, false), (3, true), (4, false), (5, true), (6, false)]) [.rd 0 [] 0 0, .rd 1 [.o 0 none] 0 0] [] [(9, .val (.slice a2 n2 c2))] ?_
  refine Yc 35 #[.slice a2 n2 c2] (some 10) fun w S hG => ?_
  refine (cloneOps (hG.at 1 rfl) hl2).mono ?_
  rintro e1 w1 ⟨u1, d1, hR⟩
  refine ⟨_, _, _, hR, ?_⟩
  try simp only [aQ]
  refine Ya (id := 1) (rest := [(4, false), (5, true), (6, false)]) [.rd 3 [] 0 0] [9, 3, 5] [(11, .val (.func (.func 40) #[] #[.pointer (some (⟨nu1 0, 0, none⟩)), .pointer (some (⟨nu1 2, 0, none⟩))]))] ?_
  refine JR_call [] [1, 0] 39 #[.slice u1 n2 d1, .func (.func 40) #[] #[.pointer (some (⟨nu1 0, 0, none⟩)), .pointer (some (⟨nu1 2, 0, none⟩))]] (some 12) (by kernel_rfl) (by kernel_rfl) (by decide) (fun w S M hP hG _ => ?_)
  refine (deletePart (hG.at 0 rfl) (hG.at 4 rfl) (hG.at 5 rfl) hP s1 s6 hl2).mono ?_
  rintro e2 w2 ⟨u2, n3, d2, hR⟩
  refine ⟨_, _, _, hR, ?_⟩
  try simp only [aQ]
  refine Ym (id := 1) (rest := []) [.rd 5 [] 0 0, .wr 6 [.o 0 none] 0] [12, 11, 10] (fun _ => []) (fun _ => [(nu1 1, .cells #[.slice a1 n1 c1, .int .i64 c.place, .slice u2 n3 d2] 37 (0, 0)), (nu1 3, .cells #[.slice none 0 0, .int .i64 0, .slice none 0 0] 37 (0, 0))]) [] (fun _ => ?_)
  try simp only [aQ]
  refine JR_end ?_
  try simp only [aQ]
  refine J_seq ?_
  try simp only [aQ]
  refine J_stpx (stp_acclen 0 rfl) fun _ hk => ?_
  rw [List.length_map] at hk
  subst hk
  refine J_stp (stp_freeze 0 rfl) ?_
  refine Nm [cObj b (.cells #[.pointer (some (⟨vb, 0, none⟩)), .int .i64 id, .int .i64 places, .int .i64 shards, .int .i64 clock, o, i] 59 (0, 0))] ?_
  try simp only [aQ]
  refine Zm [.rd 0 [.o 0 none, .o 0 none, .o 0 none] 0 0, .rd 1 [] 0 0, .rd 2 [.o 0 none] 0 0, .rd 3 [] 0 0, .rd 4 [] 0 0, .wr 5 [.o 1 none, .o 1 none, .o 1 none] 0, .rd 6 [] 0 0] [(5, [1])] [4] (fun _ => [(7, .val (.bool (decide ((↑(List.filter (inS shards sh) c.ops).length : Int) > 0))))]) (fun _ => [(nu1 1, .cells #[.slice a1 n1 c1, .int .i64 c.place, .slice u2 ((List.filter (inS shards sh) c.ops).length) d2] 37 (0, 0)), (nu1 3, .cells #[.slice a1 n1 c1, .int .i64 c.place, .slice u2 ((List.filter (inS shards sh) c.ops).length) d2] 37 (0, 0))]) (fun _ => ?_)
  refine Yr [[.o 1 none, .o 1 none, .o 1 none], []] (.tuple #[.agg #[.slice a1 n1 c1, .int .i64 c.place, .slice u2 ((List.filter (inS shards sh) c.ops).length) d2], .bool (decide ((↑(List.filter (inS shards sh) c.ops).length : Int) > 0))]) fun a w s => ?_
  exact ⟨u2, d2, s.ret (by simp) [0] [6] rfl rfl⟩
end Go.Proofs.YtehdegekgdlifaaDoor
end
section
namespace Go.Proofs.YtehdegekgdlifaaDoor
open Go Go.Sx
theorem dotP_puts (c : ComT) (l : List OpT) : (putsOf c l).map dotP = l.map (dotOf c) := by
  rw [putsOf, List.map_map]
  rfl
theorem exiAt_zero {L : List PutT} {c : ComT} : (∀ j, j < c.ops.length → exiAt L c j = 0) ↔ ∀ o ∈ c.ops, dotOf c o ∉ L.map dotP := by
  constructor
  · intro h o ho
    obtain ⟨j, hj⟩ := List.getElem?_of_mem ho
    have := h j (List.getElem?_eq_some_iff.1 hj).1
    simp only [exiAt, hj] at this
    split at this
    · cases this
    · assumption
  · intro h j hj
    have h1 : c.ops[j]? = some c.ops[j] := List.getElem?_eq_getElem hj
    simp only [exiAt, h1]
    rw [if_neg (h _ (List.getElem_mem hj))]
structure CanPut (p : Nat) (base : List Int) (L : List PutT) (c : ComT) : Prop where
  com : (comFault c).code = 0
  len : c.when.length = p
  new : inL c.when base = false
  dots : ∀ o ∈ c.ops, dotOf c o ∉ L.map dotP
theorem scanF_zero {f : Nat → Nat} {n : Nat} (h : (scanF f n 0).code = 0) : ∀ j, j < n → f j = 0 := by
  intro j
  induction j using Nat.strongRecOn with
  | ind j ih =>
    intro hj
    rcases Nat.eq_zero_or_pos (f j) with h0 | h0
    · exact h0
    · have := (scanF_from n 0 j (Nat.zero_le _) fun i _ hi => ih i hi (by omega)).2 (by omega) (by omega)
      rw [this] at h
      exact h
theorem putFault_zero {p : Nat} {base : List Int} {L : List PutT} {c : ComT} : (putFault p base L c).code = 0 ↔ CanPut p base L c := by
  constructor
  · intro h
    unfold putFault at h
    split at h
    · exact absurd h ‹_›
    · split at h
      · cases h
      · split at h
        · cases h
        · rename_i h1 h2 h3
          exact ⟨by simpa using h1, by simpa using h2, by simpa using h3, exiAt_zero.1 (scanF_zero h)⟩
  · rintro ⟨h1, h2, h3, h4⟩
    rw [putFault, if_neg (by simp [h1]), if_neg (by simp [h2]), if_neg (by simp [h3]), (scanF_from c.ops.length 0 c.ops.length (Nat.zero_le _) fun j _ hj => exiAt_zero.2 h4 j hj).1 (by omega)]
theorem dots_own {c : ComT} (h : (comFault c).code = 0) : (c.ops.map (dotOf c)).Nodup := by
  rw [List.nodup_iff_pairwise_ne, List.pairwise_map]
  refine (right_pair h).imp fun {a b} hab he => ?_
  simp only [dotOf, DotT.mk.injEq] at he
  omega
theorem CanPut.nodup {p : Nat} {base : List Int} {L : List PutT} {c : ComT} (h : CanPut p base L c) (hn : (L.map dotP).Nodup) : ((L ++ putsOf c c.ops).map dotP).Nodup := by
  rw [List.map_append, dotP_puts, List.nodup_append]
  refine ⟨hn, dots_own h.com, fun x hx y hy he => ?_⟩
  subst he
  obtain ⟨o, ho, rfl⟩ := List.mem_map.1 hy
  exact h.dots o ho hx
end Go.Proofs.YtehdegekgdlifaaDoor
end
section
namespace Go.Proofs.YtehdegekgdlifaaDoor
open Go Go.Sx
def renum (ops : List OpT) : List OpT := ops.mapIdx fun i o => { o with no := i }
def stepNo (ops : List OpT) (i : Nat) : List OpT := (renum ops).take i ++ ops.drop i
theorem renum_len (ops : List OpT) : (renum ops).length = ops.length := by simp [renum]
theorem renum_mem {ops : List OpT} {o : OpT} (h : o ∈ renum ops) : ∃ o2 ∈ ops, ∃ i : Nat, o = { o2 with no := i } := by
  obtain ⟨i, hi, he⟩ := List.mem_mapIdx.1 h
  exact ⟨_, List.getElem_mem hi, i, he.symm⟩
theorem renum_dots {ops : List OpT} (h : ∀ o ∈ ops, o.dots.length ≤ 1000000) : ∀ o ∈ renum ops, o.dots.length ≤ 1000000 := fun o ho => by
  obtain ⟨o2, h2, i, rfl⟩ := renum_mem ho
  exact h o2 h2
theorem renum_at {ops : List OpT} {i : Nat} {o : OpT} (h : ops[i]? = some o) : (renum ops)[i]? = some { o with no := i } := by simp [renum, h]
theorem stepNo_len {ops : List OpT} {i : Nat} (hi : i ≤ ops.length) : (stepNo ops i).length = ops.length := by
  have := renum_len ops
  simp [stepNo]
  omega
theorem stepNo_at {ops : List OpT} {i : Nat} {o : OpT} (h : ops[i]? = some o) : (stepNo ops i)[i]? = some o := by
  have hi := (List.getElem?_eq_some_iff.1 h).1
  have hl : ((renum ops).take i).length = i := by rw [List.length_take, renum_len]; omega
  rw [stepNo, List.getElem?_append_right (by omega), hl, Nat.sub_self, List.getElem?_drop]
  exact h
theorem stepNo_set {ops : List OpT} {i : Nat} {o : OpT} (h : ops[i]? = some o) : (stepNo ops i).set i { o with no := i } = stepNo ops (i + 1) := by
  obtain ⟨hi, he⟩ := List.getElem?_eq_some_iff.1 h
  have hl : ((renum ops).take i).length = i := by rw [List.length_take, renum_len]; omega
  have h1 : (renum ops).take (i + 1) = (renum ops).take i ++ [{ o with no := i }] := by rw [List.take_add_one, renum_at h]; rfl
  rw [stepNo, stepNo, h1, List.set_append_right _ _ (by omega), hl, Nat.sub_self, List.drop_eq_getElem_cons hi, List.append_assoc]
  rfl
theorem stepNo_end (ops : List OpT) : stepNo ops ops.length = renum ops := by
  rw [stepNo, List.drop_length, List.append_nil, List.take_of_length_le (by rw [renum_len]; exact Nat.le_refl _)]
def comP (x : PlT) (at' : List Int) (ops : List OpT) : ComT := ⟨at'.set x.id (x.clock + 1), x.id, renum ops⟩
def comErr (x : PlT) (at' : List Int) (ops : List OpT) : FT :=
  if knownErr x at' ≠ 0 then ⟨knownErr x at', -1⟩ else if 1099511627776 ≤ x.clock then ⟨2, -1⟩ else comFault (comP x at' ops)
def sndC (n : Int) (c : ComT) (y : SndT) : SndT := if (partC n c y.sh).ops = [] then y else SndT.com y (partC n c y.sh)
def msgC (n : Int) (c : ComT) (y : SndT) : List MsgT := if (partC n c y.sh).ops = [] then [] else [SndT.msg y (partC n c y.sh)]
def comPl (x : PlT) (c : ComT) : PlT := { x with clock := x.clock + 1, L := x.L ++ putsOf c c.ops, ss := x.ss.map (sndC x.shards c) }
def comMs (x : PlT) (c : ComT) : List MsgT := (x.ss.map (msgC x.shards c)).flatten
def ssAt (x : PlT) (c : ComT) (p : Nat) : List SndT := (x.ss.take p).map (sndC x.shards c) ++ x.ss.drop p
def msAt (x : PlT) (c : ComT) (p : Nat) : List MsgT := ((x.ss.take p).map (msgC x.shards c)).flatten
theorem ssAt_zero (x : PlT) (c : ComT) : ssAt x c 0 = x.ss := by simp [ssAt]
theorem ssAt_end (x : PlT) (c : ComT) {p : Nat} (h : x.ss.length ≤ p) : ssAt x c p = x.ss.map (sndC x.shards c) := by rw [ssAt, List.take_of_length_le h, List.drop_of_length_le h, List.append_nil]
theorem msAt_end (x : PlT) (c : ComT) {p : Nat} (h : x.ss.length ≤ p) : msAt x c p = comMs x c := by rw [msAt, List.take_of_length_le h, comMs]
theorem ssAt_at {x : PlT} {c : ComT} {p : Nat} {y : SndT} (h : x.ss[p]? = some y) : (ssAt x c p)[p]? = some y := by
  have hi := (List.getElem?_eq_some_iff.1 h).1
  rw [ssAt, List.getElem?_append_right (by rw [List.length_map, List.length_take]; omega), List.length_map, List.length_take, Nat.min_eq_left (by omega), Nat.sub_self, List.getElem?_drop]
  exact h
theorem ssAt_succ {x : PlT} {c : ComT} {p : Nat} {y : SndT} (h : x.ss[p]? = some y) : (ssAt x c p).set p (sndC x.shards c y) = ssAt x c (p + 1) := by
  obtain ⟨hi, he⟩ := List.getElem?_eq_some_iff.1 h
  have hl : ((x.ss.take p).map (sndC x.shards c)).length = p := by rw [List.length_map, List.length_take]; omega
  rw [ssAt, ssAt, List.set_append_right _ _ (by omega), hl, Nat.sub_self, List.drop_eq_getElem_cons hi, he, List.take_add_one, h, List.map_append, List.append_assoc]
  rfl
theorem msAt_succ {x : PlT} {c : ComT} {p : Nat} {y : SndT} (h : x.ss[p]? = some y) : msAt x c p ++ msgC x.shards c y = msAt x c (p + 1) := by
  rw [msAt, msAt, List.take_add_one, h, List.map_append, List.flatten_append]
  simp
structure PlIn (x : PlT) (n : Nat) : Prop extends PlOk x where
  clk : x.clock ≤ n
  bclk : x.base.getD x.id 0 ≤ x.clock
  dots : ∀ q ∈ x.L, q.place = x.id → q.when.getD x.id 0 ≤ x.clock
  put : ∀ q ∈ x.L, (comFault (oneC q)).code = 0 ∧ q.when.length = x.places
  snd : ∀ s ∈ x.ss, s.fm = x.id ∧ s.t ≤ x.clock ∧ 0 ≤ s.q ∧ s.q ≤ n ∧ s.l.length ≤ n
  way : ∀ s ∈ x.ss, 0 ≤ s.to ∧ 0 ≤ s.sh
  fit : ∀ s ∈ x.ss, ∀ m ∈ s.l, Fit m
  rcv : ∀ r ∈ x.rs, 0 ≤ r.q ∧ r.q + r.l.length ≤ n ∧ Dist r.l
  few : (x.L.length : Int) ≤ 12 * (x.clock + (x.rs.map (·.q)).sum)
theorem sum_le {l : List RcvT} {n : Nat} (h : ∀ r ∈ l, r.q ≤ n) : (l.map (·.q)).sum ≤ l.length * n := by
  induction l with
  | nil => simp
  | cons a l ih =>
    have h1 := h a (List.mem_cons_self ..)
    have h2 := ih fun r hr => h r (List.mem_cons_of_mem _ hr)
    simp only [List.map_cons, List.sum_cons, List.length_cons, Int.natCast_add, Int.add_mul]
    omega
theorem PlIn.ssl {x : PlT} {n : Nat} (h : PlIn x n) : x.ss.length = posP x.id x.shards x.places ∧ x.ss.length ≤ 36 := by
  have h3 := congrArg List.length h.ss
  rw [List.length_map] at h3
  have h4 := posP_le x.id x.shards x.places
  refine ⟨h3, ?_⟩
  rw [h3]
  exact Nat.le_trans h4 (Nat.le_trans (Nat.mul_le_mul h.p6 h.s6) (by decide))
theorem PlIn.sndAt {x : PlT} {n : Nat} (h : PlIn x n) {k i : Nat} {y : SndT} (hk : k < x.places) (hne : k ≠ x.id) (hi : i < x.shards) (hy : x.ss[posP x.id x.shards k + i]? = some y) : y.to = k ∧ y.sh = i := by
  have h1 : (x.ss.map PlT.pair)[posP x.id x.shards k + i]? = some (PlT.pair y) := by rw [List.getElem?_map, hy]; rfl
  rw [h.ss, pairsP_at hk hne hi] at h1
  obtain ⟨h2, h3⟩ := Prod.mk.inj (Option.some.inj h1)
  obtain ⟨h4, h5⟩ := h.way y (List.mem_of_getElem? hy)
  omega
theorem msAt_len (x : PlT) (c : ComT) (p : Nat) : (msAt x c p).length ≤ x.ss.length := by
  have : ∀ l : List SndT, ((l.map (msgC x.shards c)).flatten).length ≤ l.length := by
    intro l
    induction l with
    | nil => simp
    | cons a l ih =>
      have h1 : (msgC x.shards c a).length ≤ 1 := by
        unfold msgC
        split <;> simp
      simp only [List.map_cons, List.flatten_cons, List.length_append, List.length_cons]
      omega
  exact Nat.le_trans (this _) (by rw [List.length_take]; omega)
theorem PlIn.len {x : PlT} {n : Nat} (h : PlIn x n) : x.L.length ≤ 444 * n := by
  have h1 := h.few
  have h2 := sum_le fun r hr => (by have := h.rcv r hr; omega : r.q ≤ n)
  have h3 := congrArg List.length h.rs
  rw [List.length_map] at h3
  have h4 := posP_le x.id x.shards x.places
  unfold posP at h4
  have h5 : x.rs.length ≤ 36 := by
    rw [h3]
    exact Nat.le_trans h4 (Nat.le_trans (Nat.mul_le_mul h.p6 h.s6) (by decide))
  have h6 : (x.rs.length : Int) * n ≤ 36 * n := Int.mul_le_mul_of_nonneg_right (by omega) (by omega)
  have h7 := h.clk
  omega
theorem PlIn.ver {x : PlT} {n : Nat} (h : PlIn x n) (hn : n ≤ 600) : VerI x.places x.base x.L := ⟨h.base, h.basel, by have := h.len; omega, h.put⟩
theorem comErr_ok {x : PlT} {at' : List Int} {ops : List OpT} (h : (comErr x at' ops).code = 0) : knownErr x at' = 0 ∧ x.clock < 1099511627776 ∧ (comFault (comP x at' ops)).code = 0 := by
  unfold comErr at h
  split at h
  · rename_i h1
    exact absurd h h1
  split at h
  · cases h
  · exact ⟨by omega, by omega, h⟩
theorem known_len {x : PlT} {at' : List Int} (h : knownErr x at' = 0) : vecErr at' = 0 ∧ at'.length = x.places ∧ inL at' (snapL x) = true := by
  unfold knownErr at h
  split at h
  · rename_i h1
    exact absurd h h1
  split at h
  · cases h
  split at h
  · rename_i h3
    exact ⟨by omega, by omega, h3⟩
  · cases h
theorem comP_when {x : PlT} {at' : List Int} {ops : List OpT} (h : x.id < at'.length) : (comP x at' ops).when.getD x.id 0 = x.clock + 1 := by
  rw [comP, List.getD_eq_getElem?_getD]
  simp [h]
theorem comP_put {x : PlT} {n : Nat} {at' : List Int} {ops : List OpT} (hx : PlIn x n) (h : (comErr x at' ops).code = 0) : CanPut x.places x.base x.L (comP x at' ops) := by
  obtain ⟨h1, h2, h3⟩ := comErr_ok h
  obtain ⟨_, h4, _⟩ := known_len h1
  have hid := hx.id
  have hw := comP_when (ops := ops) (by omega : x.id < at'.length)
  refine ⟨h3, by simp [comP, h4], ?_, fun o ho hm => ?_⟩
  · rw [Bool.eq_false_iff]
    intro hin
    have hb : x.base[x.id]? = some (x.base.getD x.id 0) := by
      rw [List.getD_eq_getElem?_getD, List.getElem?_eq_getElem (by rw [hx.basel]; exact hid)]
      rfl
    have hc : (comP x at' ops).when[x.id]? = some (x.clock + 1) := by
      rw [comP]
      simp [h4, hid]
    have := List.all_eq_true.1 hin _ (List.mem_of_getElem? (zip_at hc hb))
    have h5 := hx.bclk
    have h8 : x.clock + 1 ≤ x.base.getD x.id 0 := of_decide_eq_true this
    omega
  · obtain ⟨q, hq, hd⟩ := List.mem_map.1 hm
    unfold dotP dotOf at hd
    simp only [DotT.mk.injEq] at hd
    have hp : q.place = x.id := hd.1
    have h5 := hx.dots q hq hp
    have h6 := hd.2.1
    rw [hp, show (comP x at' ops).place = (x.id : Int) from rfl, Int.toNat_natCast, hw] at h6
    omega
theorem partC_of {n : Int} {c : ComT} {sh : Int} (h : (partC n c sh).ops ≠ []) : PartOf (partC n c sh) c := ⟨rfl, rfl, h, List.filter_sublist⟩
theorem comP_send {x : PlT} {n : Nat} {at' : List Int} {ops : List OpT} (hx : PlIn x n) (h : (comErr x at' ops).code = 0) {y : SndT} (hy : y ∈ x.ss) (hne : (partC x.shards (comP x at' ops) y.sh).ops ≠ []) : scomErr (partC x.shards (comP x at' ops) y.sh) y.fm y.t = ⟨0, -1⟩ := by
  obtain ⟨h1, h2, h3⟩ := comErr_ok h
  obtain ⟨_, h4, _⟩ := known_len h1
  have hid := hx.id
  have hw := comP_when (ops := ops) (by omega : x.id < at'.length)
  obtain ⟨hf, ht, _⟩ := hx.snd y hy
  have hp : (partC x.shards (comP x at' ops) y.sh).place = x.id := rfl
  rw [scomErr, if_neg (by simp [(partC_of hne).fault h3]), if_neg (by rw [hp, hf]; simp), if_neg]
  rw [hp, Int.toNat_natCast]
  show ¬ (comP x at' ops).when.getD x.id 0 ≤ y.t
  rw [hw]
  omega
end Go.Proofs.YtehdegekgdlifaaDoor
end
