/- slices.Clone at this program's types: own memory. -/
import Derived.Test.YtpjkiomccpjboaaGreatDoorMsg
import Derived.Test.YtpjkiomccpjboaaGreatDoorTx11
namespace Go.Proofs.YtpjkiomccpjboaaGreatDoor
open Go Go.Sx

theorem rep_none {w : World} {S : Nat → Prop} {n c k : Nat} {rows : List (List D)} (h : Rep w S (.slice none n c) (.sl k rows)) : rows = [] := by cases h; rfl

theorem cloneInts {w0 : World} {S : Nat → Prop} {a : Option Addr} {n c : Nat} {xs : List Int} (ha : Rep w0 S (.slice a n c) (.sl 1 (xs.map eI))) (hl : xs.length ≤ 1000000) :
    Calls Tryz.prog 80 #[.slice a n c] w0 fun e w' => ∃ a' c', Ret [] w0 S w' e (.slice a' n c') [cAcc (.slice a' n c') 3 1 (xs.map eI)] [] := by
  have hlen := ha.slen
  rw [List.length_map] at hlen
  subst hlen
  cases a with
  | none =>
    have h0 : xs = [] := by simpa using rep_none ha
    subst h0
    refine ep80 (args := [.slice none ([] : List Int).length c]) (S := S) (G := []) (by kernel_rfl) (.nil _ _) ?_
    refine J_stp (stp_accm eI 3 1) ?_
    try simp only [List.cons_append, List.nil_append, List.append_nil]
    refine J_seq ?_
    refine J_reg mixed [.rd 0 [] 0 0] [] [0, 2] (E1 := fun _ => [(0, .val (.slice none 0 c)), (2, .val (.slice none 0 0))]) (h1 := fun _ => []) (p1 := fun _ => []) (W1 := []) (by kernel_rfl) (fun _ => by kernel_rfl) (fun _ => trivial) (fun _ => ?_)
    refine J_seq ?_
    refine J_seq ?_
    refine J_reg mixed [.rd 0 [] 0 0, .rd 1 [] 0 0] [] [0, 2, 4] (E1 := fun _ => [(0, .val (.slice none 0 c)), (2, .val (.slice none 0 0)), (4, .val (.bool true))]) (h1 := fun _ => []) (p1 := fun _ => []) (W1 := []) (by kernel_rfl) (fun _ => by kernel_rfl) (fun _ => trivial) (fun _ => ?_)
    refine J_cond_t (by kernel_rfl) (by kernel_rfl) ?_
    refine J_seq ?_
    refine J_reg mixed [.rd 0 [] 0 0] [] [0, 2] (E1 := fun _ => [(0, .val (.slice none 0 c)), (2, .val (.slice none 0 0))]) (h1 := fun _ => []) (p1 := fun _ => []) (W1 := []) (by kernel_rfl) (fun _ => by kernel_rfl) (fun _ => trivial) (fun _ => ?_)
    refine J_return [[]] (.slice none 0 0) (by kernel_rfl) (fun a w s => ?_)
    exact ⟨none, 0, s.ret (by simp) [0] [] rfl rfl⟩
  | some ad =>
    refine ep80 (args := [.slice (some ad) xs.length c]) (G := [(_, .sl 1 (xs.map eI))]) (by kernel_rfl) (.cons ha (.nil _ _)) ?_
    refine J_seq ?_
    refine J_reg mixed [.rd 0 [] 0 0] [] [0, 2] (E1 := fun _ => [(0, .val (.slice (some ad) xs.length c)), (2, .val (.slice none 0 0))]) (h1 := fun _ => []) (p1 := fun _ => []) (W1 := []) (by kernel_rfl) (fun _ => by kernel_rfl) (fun _ => trivial) (fun _ => ?_)
    refine J_seq ?_
    refine J_seq ?_
    refine J_reg mixed [.rd 0 [] 0 0, .rd 1 [] 0 0] [] [0, 2, 4] (E1 := fun _ => [(0, .val (.slice (some ad) xs.length c)), (2, .val (.slice none 0 0)), (4, .val (.bool false))]) (h1 := fun _ => []) (p1 := fun _ => []) (W1 := []) (by kernel_rfl) (fun _ => by kernel_rfl) (fun _ => trivial) (fun _ => ?_)
    refine J_cond_f (by kernel_rfl) (by kernel_rfl) ?_
    refine J_skip ?_
    refine J_seq ?_
    refine JR_begin mixed [(0, false), (1, true), (2, false), (3, true)] [] (by kernel_rfl) (by kernel_rfl) ?_
    refine JR_run (id := 3) (rest := [(2, false), (3, true)]) [.wr 0 [] 0, .rd 1 [] 0 0] [2, 5, 6] (E1 := fun nu1 => [(2, .val (.slice none 0 0)), (5, .val (.slice (some (⟨nu1 0, 0, none⟩)) 0 0)), (6, .val (.slice (some ad) xs.length c))]) (h1 := fun nu1 => [(nu1 0, .cells #[] 3 (0, 0))]) (p1 := fun nu1 => []) (W1 := []) (fun _ => by kernel_rfl) (fun _ => trivial) (fun nu1 => ?_)
    refine JR_acczm eI 0 1 rfl (by kernel_rfl) (by decide) ?_
    refine JR_appm 0 25 3 1 8 (.int .i64 0) (a0 := (some (⟨nu1 0, 0, none⟩))) (len := 0) (cap0 := 0) (ax := (some ad)) (m := xs.length) (c := c) (dst := (some 7)) xs (by kernel_rfl) (by kernel_rfl) (by kernel_rfl) (by kernel_rfl) rfl (by decide) rfl (fun _ _ _ s => src_fact s 0 rfl (by decide)) (by simp only [maxLen]; omega) (by omega) (fun av1 cv1 => ?_)
    rw [Nat.zero_add]
    try simp only [List.cons_append, List.nil_append, List.append_nil]
    refine JR_run (id := 3) (rest := []) [.rd 3 [] 0 0] [2] (E1 := fun _ => [(2, .val (.slice av1 xs.length cv1))]) (h1 := fun _ => []) (p1 := fun _ => []) (W1 := []) (fun _ => by kernel_rfl) (fun _ => trivial) (fun _ => ?_)
    try simp only [List.cons_append, List.nil_append, List.append_nil]
    refine JR_end ?_
    try simp only [List.cons_append, List.nil_append, List.append_nil]
    refine J_return [[]] (.slice av1 xs.length cv1) (by kernel_rfl) (fun a w s => ?_)
    exact ⟨_, _, s.ret (by simp) [0] [] rfl rfl⟩

theorem cloneOps {w0 : World} {S : Nat → Prop} {a : Option Addr} {n c : Nat} {xs : List OpT} (ha : Rep w0 S (.slice a n c) (.sl 7 (xs.map eOp))) (hl : xs.length ≤ 1000000) :
    Calls Tryz.prog 108 #[.slice a n c] w0 fun e w' => ∃ a' c', Ret [] w0 S w' e (.slice a' n c') [cAcc (.slice a' n c') 24 7 (xs.map eOp)] [] := by
  have hlen := ha.slen
  rw [List.length_map] at hlen
  subst hlen
  cases a with
  | none =>
    have h0 : xs = [] := by simpa using rep_none ha
    subst h0
    refine ep108 (args := [.slice none ([] : List OpT).length c]) (S := S) (G := []) (by kernel_rfl) (.nil _ _) ?_
    refine J_stp (stp_accm eOp 24 7) ?_
    try simp only [List.cons_append, List.nil_append, List.append_nil]
    refine J_seq ?_
    refine J_reg mixed [.rd 0 [] 0 0] [] [0, 2] (E1 := fun _ => [(0, .val (.slice none 0 c)), (2, .val (.slice none 0 0))]) (h1 := fun _ => []) (p1 := fun _ => []) (W1 := []) (by kernel_rfl) (fun _ => by kernel_rfl) (fun _ => trivial) (fun _ => ?_)
    refine J_seq ?_
    refine J_seq ?_
    refine J_reg mixed [.rd 0 [] 0 0, .rd 1 [] 0 0] [] [0, 2, 4] (E1 := fun _ => [(0, .val (.slice none 0 c)), (2, .val (.slice none 0 0)), (4, .val (.bool true))]) (h1 := fun _ => []) (p1 := fun _ => []) (W1 := []) (by kernel_rfl) (fun _ => by kernel_rfl) (fun _ => trivial) (fun _ => ?_)
    refine J_cond_t (by kernel_rfl) (by kernel_rfl) ?_
    refine J_seq ?_
    refine J_reg mixed [.rd 0 [] 0 0] [] [0, 2] (E1 := fun _ => [(0, .val (.slice none 0 c)), (2, .val (.slice none 0 0))]) (h1 := fun _ => []) (p1 := fun _ => []) (W1 := []) (by kernel_rfl) (fun _ => by kernel_rfl) (fun _ => trivial) (fun _ => ?_)
    refine J_return [[]] (.slice none 0 0) (by kernel_rfl) (fun a w s => ?_)
    exact ⟨none, 0, s.ret (by simp) [0] [] rfl rfl⟩
  | some ad =>
    refine ep108 (args := [.slice (some ad) xs.length c]) (G := [(_, .sl 7 (xs.map eOp))]) (by kernel_rfl) (.cons ha (.nil _ _)) ?_
    refine J_seq ?_
    refine J_reg mixed [.rd 0 [] 0 0] [] [0, 2] (E1 := fun _ => [(0, .val (.slice (some ad) xs.length c)), (2, .val (.slice none 0 0))]) (h1 := fun _ => []) (p1 := fun _ => []) (W1 := []) (by kernel_rfl) (fun _ => by kernel_rfl) (fun _ => trivial) (fun _ => ?_)
    refine J_seq ?_
    refine J_seq ?_
    refine J_reg mixed [.rd 0 [] 0 0, .rd 1 [] 0 0] [] [0, 2, 4] (E1 := fun _ => [(0, .val (.slice (some ad) xs.length c)), (2, .val (.slice none 0 0)), (4, .val (.bool false))]) (h1 := fun _ => []) (p1 := fun _ => []) (W1 := []) (by kernel_rfl) (fun _ => by kernel_rfl) (fun _ => trivial) (fun _ => ?_)
    refine J_cond_f (by kernel_rfl) (by kernel_rfl) ?_
    refine J_skip ?_
    refine J_seq ?_
    refine JR_begin mixed [(0, false), (1, true), (2, false), (3, true)] [] (by kernel_rfl) (by kernel_rfl) ?_
    refine JR_run (id := 3) (rest := [(2, false), (3, true)]) [.wr 0 [] 0, .rd 1 [] 0 0] [2, 5, 6] (E1 := fun nu1 => [(2, .val (.slice none 0 0)), (5, .val (.slice (some (⟨nu1 0, 0, none⟩)) 0 0)), (6, .val (.slice (some ad) xs.length c))]) (h1 := fun nu1 => [(nu1 0, .cells #[] 24 (0, 0))]) (p1 := fun nu1 => []) (W1 := []) (fun _ => by kernel_rfl) (fun _ => trivial) (fun nu1 => ?_)
    refine JR_acczm eOp 0 7 rfl (by kernel_rfl) (by decide) ?_
    refine JR_appm 0 26 24 7 88 (.agg #[.int .i64 0, .string (ByteArray.mk #[]), .int .i64 0, .string (ByteArray.mk #[]), .int .i64 0, .bool false, .slice none 0 0]) (a0 := (some (⟨nu1 0, 0, none⟩))) (len := 0) (cap0 := 0) (ax := (some ad)) (m := xs.length) (c := c) (dst := (some 7)) xs (by kernel_rfl) (by kernel_rfl) (by kernel_rfl) (by kernel_rfl) rfl (by decide) rfl (fun _ _ _ s => src_fact s 0 rfl (by decide)) (by simp only [maxLen]; omega) (by omega) (fun av1 cv1 => ?_)
    rw [Nat.zero_add]
    try simp only [List.cons_append, List.nil_append, List.append_nil]
    refine JR_run (id := 3) (rest := []) [.rd 3 [] 0 0] [2] (E1 := fun _ => [(2, .val (.slice av1 xs.length cv1))]) (h1 := fun _ => []) (p1 := fun _ => []) (W1 := []) (fun _ => by kernel_rfl) (fun _ => trivial) (fun _ => ?_)
    try simp only [List.cons_append, List.nil_append, List.append_nil]
    refine JR_end ?_
    try simp only [List.cons_append, List.nil_append, List.append_nil]
    refine J_return [[]] (.slice av1 xs.length cv1) (by kernel_rfl) (fun a w s => ?_)
    exact ⟨_, _, s.ret (by simp) [0] [] rfl rfl⟩

theorem cloneDots {w0 : World} {S : Nat → Prop} {a : Option Addr} {n c : Nat} {xs : List DotT} (ha : Rep w0 S (.slice a n c) (.sl 3 (xs.map eDot))) (hl : xs.length ≤ 1000000) :
    Calls Tryz.prog 109 #[.slice a n c] w0 fun e w' => ∃ a' c', Ret [] w0 S w' e (.slice a' n c') [cAcc (.slice a' n c') 65 3 (xs.map eDot)] [] := by
  have hlen := ha.slen
  rw [List.length_map] at hlen
  subst hlen
  cases a with
  | none =>
    have h0 : xs = [] := by simpa using rep_none ha
    subst h0
    refine ep109 (args := [.slice none ([] : List DotT).length c]) (S := S) (G := []) (by kernel_rfl) (.nil _ _) ?_
    refine J_stp (stp_accm eDot 65 3) ?_
    try simp only [List.cons_append, List.nil_append, List.append_nil]
    refine J_seq ?_
    refine J_reg mixed [.rd 0 [] 0 0] [] [0, 2] (E1 := fun _ => [(0, .val (.slice none 0 c)), (2, .val (.slice none 0 0))]) (h1 := fun _ => []) (p1 := fun _ => []) (W1 := []) (by kernel_rfl) (fun _ => by kernel_rfl) (fun _ => trivial) (fun _ => ?_)
    refine J_seq ?_
    refine J_seq ?_
    refine J_reg mixed [.rd 0 [] 0 0, .rd 1 [] 0 0] [] [0, 2, 4] (E1 := fun _ => [(0, .val (.slice none 0 c)), (2, .val (.slice none 0 0)), (4, .val (.bool true))]) (h1 := fun _ => []) (p1 := fun _ => []) (W1 := []) (by kernel_rfl) (fun _ => by kernel_rfl) (fun _ => trivial) (fun _ => ?_)
    refine J_cond_t (by kernel_rfl) (by kernel_rfl) ?_
    refine J_seq ?_
    refine J_reg mixed [.rd 0 [] 0 0] [] [0, 2] (E1 := fun _ => [(0, .val (.slice none 0 c)), (2, .val (.slice none 0 0))]) (h1 := fun _ => []) (p1 := fun _ => []) (W1 := []) (by kernel_rfl) (fun _ => by kernel_rfl) (fun _ => trivial) (fun _ => ?_)
    refine J_return [[]] (.slice none 0 0) (by kernel_rfl) (fun a w s => ?_)
    exact ⟨none, 0, s.ret (by simp) [0] [] rfl rfl⟩
  | some ad =>
    refine ep109 (args := [.slice (some ad) xs.length c]) (G := [(_, .sl 3 (xs.map eDot))]) (by kernel_rfl) (.cons ha (.nil _ _)) ?_
    refine J_seq ?_
    refine J_reg mixed [.rd 0 [] 0 0] [] [0, 2] (E1 := fun _ => [(0, .val (.slice (some ad) xs.length c)), (2, .val (.slice none 0 0))]) (h1 := fun _ => []) (p1 := fun _ => []) (W1 := []) (by kernel_rfl) (fun _ => by kernel_rfl) (fun _ => trivial) (fun _ => ?_)
    refine J_seq ?_
    refine J_seq ?_
    refine J_reg mixed [.rd 0 [] 0 0, .rd 1 [] 0 0] [] [0, 2, 4] (E1 := fun _ => [(0, .val (.slice (some ad) xs.length c)), (2, .val (.slice none 0 0)), (4, .val (.bool false))]) (h1 := fun _ => []) (p1 := fun _ => []) (W1 := []) (by kernel_rfl) (fun _ => by kernel_rfl) (fun _ => trivial) (fun _ => ?_)
    refine J_cond_f (by kernel_rfl) (by kernel_rfl) ?_
    refine J_skip ?_
    refine J_seq ?_
    refine JR_begin mixed [(0, false), (1, true), (2, false), (3, true)] [] (by kernel_rfl) (by kernel_rfl) ?_
    refine JR_run (id := 3) (rest := [(2, false), (3, true)]) [.wr 0 [] 0, .rd 1 [] 0 0] [2, 5, 6] (E1 := fun nu1 => [(2, .val (.slice none 0 0)), (5, .val (.slice (some (⟨nu1 0, 0, none⟩)) 0 0)), (6, .val (.slice (some ad) xs.length c))]) (h1 := fun nu1 => [(nu1 0, .cells #[] 65 (0, 0))]) (p1 := fun nu1 => []) (W1 := []) (fun _ => by kernel_rfl) (fun _ => trivial) (fun nu1 => ?_)
    refine JR_acczm eDot 0 3 rfl (by kernel_rfl) (by decide) ?_
    refine JR_appm 0 22 65 3 24 (.agg #[.int .i64 0, .int .i64 0, .int .i64 0]) (a0 := (some (⟨nu1 0, 0, none⟩))) (len := 0) (cap0 := 0) (ax := (some ad)) (m := xs.length) (c := c) (dst := (some 7)) xs (by kernel_rfl) (by kernel_rfl) (by kernel_rfl) (by kernel_rfl) rfl (by decide) rfl (fun _ _ _ s => src_fact s 0 rfl (by decide)) (by simp only [maxLen]; omega) (by omega) (fun av1 cv1 => ?_)
    rw [Nat.zero_add]
    try simp only [List.cons_append, List.nil_append, List.append_nil]
    refine JR_run (id := 3) (rest := []) [.rd 3 [] 0 0] [2] (E1 := fun _ => [(2, .val (.slice av1 xs.length cv1))]) (h1 := fun _ => []) (p1 := fun _ => []) (W1 := []) (fun _ => by kernel_rfl) (fun _ => trivial) (fun _ => ?_)
    try simp only [List.cons_append, List.nil_append, List.append_nil]
    refine JR_end ?_
    try simp only [List.cons_append, List.nil_append, List.append_nil]
    refine J_return [[]] (.slice av1 xs.length cv1) (by kernel_rfl) (fun a w s => ?_)
    exact ⟨_, _, s.ret (by simp) [0] [] rfl rfl⟩
end Go.Proofs.YtpjkiomccpjboaaGreatDoor
