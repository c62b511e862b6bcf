/- values.CheckCommit: what is wrong with a commit, and where? -/
import Derived.Test.YtgelnbgjabpdbaaDoorComErr
namespace Go.Proofs.YtgelnbgjabpdbaaDoor
open Go Go.Sx

/-- An error: plain, or with its place. -/
def FRet (w : World) (S : Nat → Prop) (w' : World) (e : Ending) (er : Nat → Addr) (f : FT) : Prop :=
  (f.at' = -1 ∧ ∃ v, Ret [] w S w' e v [] [] ∧ ErrIs 168 er f.code v) ∨
  (1 ≤ f.code ∧ 0 ≤ f.at' ∧ ∃ pb, Ret [] w S w' e (.iface 106 (.pointer (some ⟨pb, 0, none⟩))) [] [(.pointer (some ⟨pb, 0, none⟩), .ptr [.v (.int .i64 f.at'), .v (.iface 168 (.pointer (some (er f.code))))])])

set_option maxHeartbeats 2000000 in
theorem checkCommit {w : World} {S : Nat → Prop} {er : Nat → Addr} {eb : Nat → Array Value × TypeId} {a1 a2 : Option Addr} {n1 c1 n2 c2 : Nat} {c : ComT} (hC : Rep w S .nilIface (dC er eb)) (h1 : Rep w S (.slice a1 n1 c1) (dInts c.when)) (h2 : Rep w S (.slice a2 n2 c2) (.sl 7 (c.ops.map eOp))) (hl1 : c.when.length ≤ 1000000) (hl2 : c.ops.length ≤ 1000000) :
    Calls Tryd.prog 38 #[.agg #[.slice a1 n1 c1, .int .i64 c.place, .slice a2 n2 c2]] w fun e w' => FRet w S w' e er (comFault c) := by
  obtain rfl := rep_ints_len h1
  have e2 := h2.slen
  rw [List.length_map] at e2
  subst e2
  refine ep38 (args := [.agg #[.slice a1 c.when.length c1, .int .i64 c.place, .slice a2 c.ops.length c2]]) (G := [(_, dC er eb), (_, dInts c.when), (_, .sl 7 (c.ops.map eOp))]) (by kernel_rfl) (.cons hC (.cons h1 (.cons h2 (.nil _ _)))) ?_
  refine J_stp (stp_all 0 [1, 2] rfl rfl) ?_
  refine J_glob 3 rfl (fun csg1 tyg1 fzg1 hglob1 => ?_)
  refine J_glob 4 rfl (fun csg2 tyg2 fzg2 hglob2 => ?_)
  try simp only [List.cons_append, List.nil_append, List.append_nil]
  refine J_seq ?_
  refine J_reg mixed [.wr 0 [] 0, .rd 1 [] 0 0] [] [1, 2] (E1 := fun nu1 => [(1, .val (.pointer (some (⟨nu1 0, 0, none⟩)))), (2, .val (.nilIface))]) (h1 := fun nu1 => [(nu1 0, .cells #[.slice a1 c.when.length c1, .int .i64 c.place, .slice a2 c.ops.length c2] 35 (0, 0))]) (p1 := fun nu1 => []) (W1 := []) (by kernel_rfl) (fun _ => by kernel_rfl) (fun _ => trivial) (fun nu1 => ?_)
  refine J_seq ?_
  refine J_seq ?_
  refine JR_begin mixed [(0, true), (1, true), (2, false), (3, true)] [] (by kernel_rfl) (by kernel_rfl) ?_
  refine JR_run (id := 1) (rest := [(2, false), (3, true)]) [.rd 0 [] 0 0, .rd 1 [.o 0 none] 0 0] [1, 2, 8] (E1 := fun _ => [(1, .val (.pointer (some (⟨nu1 0, 0, none⟩)))), (2, .val (.nilIface)), (8, .val (.slice a1 c.when.length c1))]) (h1 := fun _ => [(nu1 0, .cells #[.slice a1 c.when.length c1, .int .i64 c.place, .slice a2 c.ops.length c2] 35 (0, 0))]) (p1 := fun _ => []) (W1 := []) (fun _ => by kernel_rfl) (fun _ => trivial) (fun _ => ?_)
  refine JR_callp [] 47 #[.slice a1 c.when.length c1] (some 9) (by kernel_rfl) (fun w S hG => ?_)
  refine (vcheck (globs_of (hG.at 0 rfl)) (hG.at 1 rfl) hl1).mono ?_
  rintro e1 w1 ⟨v, hR, hv⟩
  refine ⟨_, _, _, hR, ?_⟩
  obtain ⟨hv0, rfl⟩ | ⟨hv0, rfl⟩ := hv
  · try simp only [List.cons_append, List.nil_append, List.append_nil]
    refine JR_run (id := 1) (rest := []) [.rd 3 [] 0 0] [1, 2, 3] (E1 := fun _ => [(1, .val (.pointer (some (⟨nu1 0, 0, none⟩)))), (2, .val (.nilIface)), (3, .val (.nilIface))]) (h1 := fun _ => [(nu1 0, .cells #[.slice a1 c.when.length c1, .int .i64 c.place, .slice a2 c.ops.length c2] 35 (0, 0))]) (p1 := fun _ => []) (W1 := []) (fun _ => by kernel_rfl) (fun _ => trivial) (fun _ => ?_)
    refine JR_end ?_
    refine J_seq ?_
    refine J_reg mixed [.rd 0 [] 0 0, .rd 1 [] 0 0] [] [1, 2, 3, 11] (E1 := fun _ => [(1, .val (.pointer (some (⟨nu1 0, 0, none⟩)))), (2, .val (.nilIface)), (3, .val (.nilIface)), (11, .val (.bool false))]) (h1 := fun _ => [(nu1 0, .cells #[.slice a1 c.when.length c1, .int .i64 c.place, .slice a2 c.ops.length c2] 35 (0, 0))]) (p1 := fun _ => []) (W1 := []) (by kernel_rfl) (fun _ => by kernel_rfl) (fun _ => trivial) (fun _ => ?_)
    refine J_cond_f (by kernel_rfl) (by kernel_rfl) ?_
    refine J_skip ?_
    refine J_seq ?_
    refine J_seq ?_
    by_cases hb : c.place < 0 ∨ c.when.length ≤ c.place
    · have e : comFault c = ⟨2, -1⟩ := by rw [comFault, if_neg (by simp [hv0]), if_pos (by omega)]
      rcases (by omega : c.place < 0 ∨ (0 ≤ c.place ∧ c.when.length ≤ c.place)) with hb1 | ⟨hb1, hb2⟩
      · refine J_reg mixed [.rd 0 [] 0 0, .rd 1 [.o 0 none] 0 0, .rd 2 [] 0 6, .rd 3 [] 0 0, .rd 4 [] 1 0, .rd 5 [] 1 0, .rd 6 [] 1 0, .rd 7 [] 1 0, .rd 8 [] 1 0, .rd 9 [] 1 0, .rd 10 [] 0 0, .rd 11 [] 0 0, .rd 12 [] 1 0, .rd 13 [] 1 0, .rd 14 [] 1 0, .rd 15 [] 1 0, .rd 16 [] 1 0, .rd 17 [] 1 0, .rd 18 [] 1 0, .rd 19 [] 0 0, .rd 20 [] 0 0, .rd 21 [] 1 0, .rd 22 [] 1 0, .rd 23 [] 1 0, .rd 24 [] 1 0, .rd 25 [] 0 0] [] [1, 2, 38] (E1 := fun _ => [(1, .val (.pointer (some (⟨nu1 0, 0, none⟩)))), (2, .val (.nilIface)), (38, .val (.bool true))]) (h1 := fun _ => [(nu1 0, .cells #[.slice a1 c.when.length c1, .int .i64 c.place, .slice a2 c.ops.length c2] 35 (0, 0))]) (p1 := fun _ => [decide (c.place < (0 : Int)) = true]) (W1 := []) (by kernel_rfl) (fun _ => by kernel_rfl) (fun _ => ⟨by simp; omega, trivial⟩) (fun _ => ?_)
        refine J_cond_t (by kernel_rfl) (by kernel_rfl) ?_
        refine J_seq ?_
        refine J_reg mixed [.rd 0 [.r 0 (some (.iface 168 (.pointer (some (er 2)))))] 0 0, .rd 1 [] 0 0] [] [1, 2] (E1 := fun _ => [(1, .val (.pointer (some (⟨nu1 0, 0, none⟩)))), (2, .val (.iface 168 (.pointer (some (er 2)))))]) (h1 := fun _ => [(nu1 0, .cells #[.slice a1 c.when.length c1, .int .i64 c.place, .slice a2 c.ops.length c2] 35 (0, 0))]) (p1 := fun _ => [csg1[(0 : Nat)]? = some (Value.iface (168 : Nat) (Value.pointer (some (er (2 : Nat)))))]) (W1 := []) (by kernel_rfl) (fun _ => by kernel_rfl) (fun _ => ⟨hglob1, trivial⟩) (fun _ => ?_)
        refine J_return [[]] (.iface 168 (.pointer (some (er 2)))) (by kernel_rfl) (fun a w s => ?_)
        rw [e]
        exact .inl ⟨rfl, _, s.ret (by simp) [] [] rfl rfl, .inr ⟨by decide, rfl⟩⟩
      · refine J_reg mixed [.rd 0 [] 0 0, .rd 1 [.o 0 none] 0 0, .rd 2 [] 0 7, .rd 3 [] 0 0, .rd 4 [] 0 0, .rd 5 [.o 0 none] 0 0, .rd 6 [] 0 0, .rd 7 [.o 0 none] 0 0, .rd 8 [] 0 0, .rd 9 [] 0 6, .rd 10 [] 0 0, .rd 11 [] 0 0, .rd 12 [] 1 0, .rd 13 [] 1 0, .rd 14 [] 1 0, .rd 15 [] 1 0, .rd 16 [] 1 0, .rd 17 [] 1 0, .rd 18 [] 1 0, .rd 19 [] 0 0, .rd 20 [] 0 0, .rd 21 [] 1 0, .rd 22 [] 1 0, .rd 23 [] 1 0, .rd 24 [] 1 0, .rd 25 [] 0 0] [] [1, 2, 38] (E1 := fun _ => [(1, .val (.pointer (some (⟨nu1 0, 0, none⟩)))), (2, .val (.nilIface)), (38, .val (.bool true))]) (h1 := fun _ => [(nu1 0, .cells #[.slice a1 c.when.length c1, .int .i64 c.place, .slice a2 c.ops.length c2] 35 (0, 0))]) (p1 := fun _ => [decide (c.place < (0 : Int)) = false, decide (c.place ≥ (↑c.when.length : Int)) = true]) (W1 := []) (by kernel_rfl) (fun _ => by kernel_rfl) (fun _ => ⟨by simp; omega, by simp; omega, trivial⟩) (fun _ => ?_)
        refine J_cond_t (by kernel_rfl) (by kernel_rfl) ?_
        refine J_seq ?_
        refine J_reg mixed [.rd 0 [.r 0 (some (.iface 168 (.pointer (some (er 2)))))] 0 0, .rd 1 [] 0 0] [] [1, 2] (E1 := fun _ => [(1, .val (.pointer (some (⟨nu1 0, 0, none⟩)))), (2, .val (.iface 168 (.pointer (some (er 2)))))]) (h1 := fun _ => [(nu1 0, .cells #[.slice a1 c.when.length c1, .int .i64 c.place, .slice a2 c.ops.length c2] 35 (0, 0))]) (p1 := fun _ => [csg1[(0 : Nat)]? = some (Value.iface (168 : Nat) (Value.pointer (some (er (2 : Nat)))))]) (W1 := []) (by kernel_rfl) (fun _ => by kernel_rfl) (fun _ => ⟨hglob1, trivial⟩) (fun _ => ?_)
        refine J_return [[]] (.iface 168 (.pointer (some (er 2)))) (by kernel_rfl) (fun a w s => ?_)
        rw [e]
        exact .inl ⟨rfl, _, s.ret (by simp) [] [] rfl rfl, .inr ⟨by decide, rfl⟩⟩
    obtain ⟨t, ht⟩ : ∃ t, c.when[c.place.toNat]? = some t := ⟨_, List.getElem?_eq_getElem (by omega)⟩
    have hg : ¬ (vecErr c.when ≠ 0) := by simp [hv0]
    refine J_read0 1 rfl c.place.toNat (map_at ht) (by kernel_rfl) (fun b1 off1 cs1 ty1 fz1 ha1 hrd1 => ?_)
    cases ha1
    have hrd1_0 := rd0 (hrd1 0 _ rfl)
    by_cases h0 : t = 0
    · have e : comFault c = ⟨2, -1⟩ := by
        by_cases h12 : 12 < c.ops.length
        · rw [comFault, if_neg hg, if_pos (by omega)]
        · rw [comFault, if_neg hg, if_neg (by omega), if_pos (by rw [ht, h0])]
      try simp only [List.cons_append, List.nil_append, List.append_nil]
      refine J_reg mixed [.rd 0 [] 0 0, .rd 1 [.o 0 none] 0 0, .rd 2 [] 0 7, .rd 3 [] 0 0, .rd 4 [] 0 0, .rd 5 [.o 0 none] 0 0, .rd 6 [] 0 0, .rd 7 [.o 0 none] 0 0, .rd 8 [] 0 0, .rd 9 [] 0 7, .rd 10 [] 0 0, .rd 11 [] 0 0, .rd 12 [] 0 0, .rd 13 [.o 0 none] 0 0, .rd 14 [] 0 0, .rd 15 [.o 0 none] 0 0, .rd 16 [] 0 2, .rd 17 [.r 2 (some (.int .i64 t))] 0 0, .rd 18 [] 0 6, .rd 19 [] 0 0, .rd 20 [] 0 0, .rd 21 [] 1 0, .rd 22 [] 1 0, .rd 23 [] 1 0, .rd 24 [] 1 0, .rd 25 [] 0 0] [] [1, 2, 38] (E1 := fun _ => [(1, .val (.pointer (some (⟨nu1 0, 0, none⟩)))), (2, .val (.nilIface)), (38, .val (.bool true))]) (h1 := fun _ => [(nu1 0, .cells #[.slice (some (⟨b1, off1, none⟩)) c.when.length c1, .int .i64 c.place, .slice a2 c.ops.length c2] 35 (0, 0))]) (p1 := fun _ => [decide (c.place < (0 : Int)) = false, decide (c.place ≥ (↑c.when.length : Int)) = false, (0 : Int) ≤ c.place, c.place < (↑c.when.length : Int), cs1[off1 + c.place.toNat * (1 : Nat)]? = some (Value.int IntKind.i64 t), (t == (0 : Int)) = true]) (W1 := []) (by kernel_rfl) (fun _ => by kernel_rfl) (fun _ => ⟨by simp; omega, by simp; omega, by omega, by omega, hrd1_0, by simp; omega, trivial⟩) (fun _ => ?_)
      refine J_cond_t (by kernel_rfl) (by kernel_rfl) ?_
      refine J_seq ?_
      refine J_reg mixed [.rd 0 [.r 0 (some (.iface 168 (.pointer (some (er 2)))))] 0 0, .rd 1 [] 0 0] [] [1, 2] (E1 := fun _ => [(1, .val (.pointer (some (⟨nu1 0, 0, none⟩)))), (2, .val (.iface 168 (.pointer (some (er 2)))))]) (h1 := fun _ => [(nu1 0, .cells #[.slice (some (⟨b1, off1, none⟩)) c.when.length c1, .int .i64 c.place, .slice a2 c.ops.length c2] 35 (0, 0))]) (p1 := fun _ => [csg1[(0 : Nat)]? = some (Value.iface (168 : Nat) (Value.pointer (some (er (2 : Nat)))))]) (W1 := []) (by kernel_rfl) (fun _ => by kernel_rfl) (fun _ => ⟨hglob1, trivial⟩) (fun _ => ?_)
      refine J_return [[]] (.iface 168 (.pointer (some (er 2)))) (by kernel_rfl) (fun a w s => ?_)
      rw [e]
      exact .inl ⟨rfl, _, s.ret (by simp) [] [] rfl rfl, .inr ⟨by decide, rfl⟩⟩
    have h00 : ¬ c.when[c.place.toNat]? = some 0 := by rw [ht]; simpa using h0
    by_cases h12 : 12 < c.ops.length
    · have e : comFault c = ⟨2, -1⟩ := by rw [comFault, if_neg hg, if_pos (by omega)]
      try simp only [List.cons_append, List.nil_append, List.append_nil]
      refine J_reg mixed [.rd 0 [] 0 0, .rd 1 [.o 0 none] 0 0, .rd 2 [] 0 7, .rd 3 [] 0 0, .rd 4 [] 0 0, .rd 5 [.o 0 none] 0 0, .rd 6 [] 0 0, .rd 7 [.o 0 none] 0 0, .rd 8 [] 0 0, .rd 9 [] 0 7, .rd 10 [] 0 0, .rd 11 [] 0 0, .rd 12 [] 0 0, .rd 13 [.o 0 none] 0 0, .rd 14 [] 0 0, .rd 15 [.o 0 none] 0 0, .rd 16 [] 0 2, .rd 17 [.r 2 (some (.int .i64 t))] 0 0, .rd 18 [] 0 7, .rd 19 [] 0 0, .rd 20 [] 0 0, .rd 21 [] 0 0, .rd 22 [.o 0 none] 0 0, .rd 23 [] 0 0, .rd 24 [] 0 6, .rd 25 [] 0 0] [] [1, 2, 38] (E1 := fun _ => [(1, .val (.pointer (some (⟨nu1 0, 0, none⟩)))), (2, .val (.nilIface)), (38, .val (.bool true))]) (h1 := fun _ => [(nu1 0, .cells #[.slice (some (⟨b1, off1, none⟩)) c.when.length c1, .int .i64 c.place, .slice a2 c.ops.length c2] 35 (0, 0))]) (p1 := fun _ => [decide (c.place < (0 : Int)) = false, decide (c.place ≥ (↑c.when.length : Int)) = false, (0 : Int) ≤ c.place, c.place < (↑c.when.length : Int), cs1[off1 + c.place.toNat * (1 : Nat)]? = some (Value.int IntKind.i64 t), (t == (0 : Int)) = false, decide ((↑c.ops.length : Int) > (12 : Int)) = true]) (W1 := []) (by kernel_rfl) (fun _ => by kernel_rfl) (fun _ => ⟨by simp; omega, by simp; omega, by omega, by omega, hrd1_0, by simp; omega, by simp; omega, trivial⟩) (fun _ => ?_)
      refine J_cond_t (by kernel_rfl) (by kernel_rfl) ?_
      refine J_seq ?_
      refine J_reg mixed [.rd 0 [.r 0 (some (.iface 168 (.pointer (some (er 2)))))] 0 0, .rd 1 [] 0 0] [] [1, 2] (E1 := fun _ => [(1, .val (.pointer (some (⟨nu1 0, 0, none⟩)))), (2, .val (.iface 168 (.pointer (some (er 2)))))]) (h1 := fun _ => [(nu1 0, .cells #[.slice (some (⟨b1, off1, none⟩)) c.when.length c1, .int .i64 c.place, .slice a2 c.ops.length c2] 35 (0, 0))]) (p1 := fun _ => [csg1[(0 : Nat)]? = some (Value.iface (168 : Nat) (Value.pointer (some (er (2 : Nat)))))]) (W1 := []) (by kernel_rfl) (fun _ => by kernel_rfl) (fun _ => ⟨hglob1, trivial⟩) (fun _ => ?_)
      refine J_return [[]] (.iface 168 (.pointer (some (er 2)))) (by kernel_rfl) (fun a w s => ?_)
      rw [e]
      exact .inl ⟨rfl, _, s.ret (by simp) [] [] rfl rfl, .inr ⟨by decide, rfl⟩⟩
    have hb2 : ¬ (c.place < 0 ∨ c.when.length ≤ c.place ∨ 12 < c.ops.length) := by omega
    try simp only [List.cons_append, List.nil_append, List.append_nil]
    refine J_reg mixed [.rd 0 [] 0 0, .rd 1 [.o 0 none] 0 0, .rd 2 [] 0 7, .rd 3 [] 0 0, .rd 4 [] 0 0, .rd 5 [.o 0 none] 0 0, .rd 6 [] 0 0, .rd 7 [.o 0 none] 0 0, .rd 8 [] 0 0, .rd 9 [] 0 7, .rd 10 [] 0 0, .rd 11 [] 0 0, .rd 12 [] 0 0, .rd 13 [.o 0 none] 0 0, .rd 14 [] 0 0, .rd 15 [.o 0 none] 0 0, .rd 16 [] 0 2, .rd 17 [.r 2 (some (.int .i64 t))] 0 0, .rd 18 [] 0 7, .rd 19 [] 0 0, .rd 20 [] 0 0, .rd 21 [] 0 0, .rd 22 [.o 0 none] 0 0, .rd 23 [] 0 0, .rd 24 [] 0 7, .rd 25 [] 0 0] [] [1, 2, 38] (E1 := fun _ => [(1, .val (.pointer (some (⟨nu1 0, 0, none⟩)))), (2, .val (.nilIface)), (38, .val (.bool false))]) (h1 := fun _ => [(nu1 0, .cells #[.slice (some (⟨b1, off1, none⟩)) c.when.length c1, .int .i64 c.place, .slice a2 c.ops.length c2] 35 (0, 0))]) (p1 := fun _ => [decide (c.place < (0 : Int)) = false, decide (c.place ≥ (↑c.when.length : Int)) = false, (0 : Int) ≤ c.place, c.place < (↑c.when.length : Int), cs1[off1 + c.place.toNat * (1 : Nat)]? = some (Value.int IntKind.i64 t), (t == (0 : Int)) = false, decide ((↑c.ops.length : Int) > (12 : Int)) = false]) (W1 := []) (by kernel_rfl) (fun _ => by kernel_rfl) (fun _ => ⟨by simp; omega, by simp; omega, by omega, by omega, hrd1_0, by simp; omega, by simp; omega, trivial⟩) (fun _ => ?_)
    refine J_cond_f (by kernel_rfl) (by kernel_rfl) ?_
    refine J_skip ?_
    refine J_seq ?_
    refine J_seq ?_
    refine J_reg mixed [.rd 0 [] 0 0, .rd 1 [.o 0 none] 0 0, .rd 2 [] 0 0, .rd 3 [] 0 0] [] [1, 2, 43] (E1 := fun _ => [(1, .val (.pointer (some (⟨nu1 0, 0, none⟩)))), (2, .val (.nilIface)), (43, .val (.bool ((↑c.ops.length : Int) == 0)))]) (h1 := fun _ => [(nu1 0, .cells #[.slice (some (⟨b1, off1, none⟩)) c.when.length c1, .int .i64 c.place, .slice a2 c.ops.length c2] 35 (0, 0))]) (p1 := fun _ => []) (W1 := []) (by kernel_rfl) (fun _ => by kernel_rfl) (fun _ => trivial) (fun _ => ?_)
    refine J_cond (t := (↑c.ops.length : Int) == 0) (by kernel_rfl) (by kernel_rfl) (fun hz => ?_) (fun hz => ?_)
    · have e : comFault c = ⟨3, -1⟩ := by rw [comFault, if_neg hg, if_neg hb2, if_neg h00, if_pos (by simp at hz; simp [hz])]
      refine J_seq ?_
      refine J_reg mixed [.rd 0 [.r 1 (some (.iface 168 (.pointer (some (er 3)))))] 0 0, .rd 1 [] 0 0] [] [1, 2] (E1 := fun _ => [(1, .val (.pointer (some (⟨nu1 0, 0, none⟩)))), (2, .val (.iface 168 (.pointer (some (er 3)))))]) (h1 := fun _ => [(nu1 0, .cells #[.slice (some (⟨b1, off1, none⟩)) c.when.length c1, .int .i64 c.place, .slice a2 c.ops.length c2] 35 (0, 0))]) (p1 := fun _ => [csg2[(0 : Nat)]? = some (Value.iface (168 : Nat) (Value.pointer (some (er (3 : Nat)))))]) (W1 := []) (by kernel_rfl) (fun _ => by kernel_rfl) (fun _ => ⟨hglob2, trivial⟩) (fun _ => ?_)
      refine J_return [[]] (.iface 168 (.pointer (some (er 3)))) (by kernel_rfl) (fun a w s => ?_)
      rw [e]
      exact .inl ⟨rfl, _, s.ret (by simp) [] [] rfl rfl, .inr ⟨by decide, rfl⟩⟩
    have hz2 : ¬ c.ops.length = 0 := by simp at hz; simp [hz]
    have e : comFault c = opsFault c.ops c.when.length c.ops.length 0 := by rw [comFault, if_neg hg, if_neg hb2, if_neg h00, if_neg hz2]
    rw [e]
    refine J_skip ?_
    refine J_seq ?_
    refine J_seq ?_
    refine J_reg mixed [.rd 0 [] 0 0, .rd 1 [.o 0 none] 0 0, .rd 2 [] 0 0, .rd 3 [] 0 0] [] [1, 2, 46, 47, 48] (E1 := fun _ => [(1, .val (.pointer (some (⟨nu1 0, 0, none⟩)))), (2, .val (.nilIface)), (46, .val (.slice a2 c.ops.length c2)), (47, .val (.int .i64 (↑c.ops.length : Int))), (48, .val (.int .i64 0))]) (h1 := fun _ => [(nu1 0, .cells #[.slice (some (⟨b1, off1, none⟩)) c.when.length c1, .int .i64 c.place, .slice a2 c.ops.length c2] 35 (0, 0))]) (p1 := fun _ => []) (W1 := []) (by kernel_rfl) (fun _ => by kernel_rfl) (fun _ => trivial) (fun _ => ?_)
    refine J_block ?_
    refine J_loopx (fun i : Int => [(1, .val (.pointer (some (⟨nu1 0, 0, none⟩)))), (2, .val (.nilIface)), (46, .val (.slice a2 c.ops.length c2)), (47, .val (.int .i64 (↑c.ops.length : Int))), (48, .val (.int .i64 i))]) (fun i : Int => [(nu1 0, .cells #[.slice (some (⟨b1, off1, none⟩)) c.when.length c1, .int .i64 c.place, .slice a2 c.ops.length c2] 35 (0, 0))]) (fun i : Int => []) (fun i : Int => [(.nilIface, (dC er eb)), (.slice (some (⟨b1, off1, none⟩)) c.when.length c1, (dInts c.when)), (.slice a2 c.ops.length c2, (D.sl 7 (List.map eOp c.ops))), (.pointer (some (⟨0, 0, none⟩)), (D.ptr [D.v (Value.iface 168 (Value.pointer (some (er 2))))])), (.pointer (some (⟨2, 0, none⟩)), (D.ptr [D.v (Value.iface 168 (Value.pointer (some (er 3))))]))]) (fun i : Int => (c.ops.length - i).toNat) (fun i : Int => (0 ≤ i ∧ i ≤ c.ops.length ∧ ∀ j : Nat, 0 ≤ j → j < i.toNat → opErrAt c.ops c.when.length j = 0)) 0 [1, 2, 46, 47, 48] [0] [] [0, 1, 2, 3, 4] ?_ (by kernel_rfl) rfl rfl rfl ?_
    · exact ⟨by simp, by omega, by simp⟩
    rintro i ⟨hi0, hi, hno⟩
    refine J_seq ?_
    refine J_reg mixed [.rd 0 [] 0 0] [] [1, 2, 46, 47, 48, 49] (E1 := fun _ => [(1, .val (.pointer (some (⟨nu1 0, 0, none⟩)))), (2, .val (.nilIface)), (46, .val (.slice a2 c.ops.length c2)), (47, .val (.int .i64 (↑c.ops.length : Int))), (48, .val (.int .i64 i)), (49, .val (.bool (decide (i < (↑c.ops.length : Int)))))]) (h1 := fun _ => [(nu1 0, .cells #[.slice (some (⟨b1, off1, none⟩)) c.when.length c1, .int .i64 c.place, .slice a2 c.ops.length c2] 35 (0, 0))]) (p1 := fun _ => []) (W1 := []) (by kernel_rfl) (fun _ => by kernel_rfl) (fun _ => trivial) (fun _ => ?_)
    refine J_seq ?_
    refine J_cond (t := decide (i < (↑c.ops.length : Int))) (by kernel_rfl) (by kernel_rfl) (fun hlt => ?_) (fun hlt => ?_)
    · have hlt2 : i < c.ops.length := by simpa using hlt
      obtain ⟨o, ho⟩ : ∃ o, c.ops[i.toNat]? = some o := ⟨_, List.getElem?_eq_getElem (by omega)⟩
      have hit : ∀ k : Nat, opErrAt c.ops c.when.length i.toNat = k → k ≠ 0 → opsFault c.ops c.when.length c.ops.length 0 = ⟨k, i⟩ := fun k hk h0 => by
        rw [(opsFault_from c.ops.length 0 i.toNat (Nat.zero_le _) hno).2 (by omega) (by rw [hk]; exact h0), hk]
        congr 1
        omega
      have next : opErrAt c.ops c.when.length i.toNat = 0 → 0 ≤ i + 1 ∧ i + 1 ≤ c.ops.length ∧ ∀ j : Nat, 0 ≤ j → j < (i + 1).toNat → opErrAt c.ops c.when.length j = 0 := fun h => ⟨by omega, by omega, fun j h0 hj => by
        by_cases hji : j = i.toNat
        · rw [hji]; exact h
        · exact hno j h0 (by omega)⟩
      refine J_glob 4 rfl (fun csg3 tyg3 fzg3 hglob3 => ?_)
      refine J_read1 2 rfl i.toNat (map_at ho) (by kernel_rfl) (fun b2 off2 cs2 ty2 fz2 a2_0 c2_0 ha2 hrd2 => ?_)
      cases ha2
      have hrd2_0 := rd0 (hrd2 0 _ rfl)
      have hrd2_1 := hrd2 1 _ rfl
      have hrd2_2 := hrd2 2 _ rfl
      have hrd2_3 := hrd2 3 _ rfl
      have hrd2_4 := hrd2 4 _ rfl
      have hrd2_5 := hrd2 5 _ rfl
      have hrd2_6 := hrd2 6 _ rfl
      by_cases hi1 : i = 0
      · have hz0 : i.toNat = 0 := by omega
        try simp only [List.cons_append, List.nil_append, List.append_nil]
        refine J_skip ?_
        refine J_seq ?_
        refine J_block ?_
        refine J_seq ?_
        refine J_reg mixed [.rd 0 [] 0 0, .rd 1 [] 0 2, .rd 2 [.r 4 (some (.int .i64 o.no)), .r 4 (some (.string o.key)), .r 4 (some (.int .i64 o.kind)), .r 4 (some (.string o.text)), .r 4 (some (.int .i64 o.n)), .r 4 (some (.bool o.remove)), .r 4 (some (.slice (a2_0, c2_0).fst ((List.map eDot o.dots).length) c2_0))] 0 0, .wr 3 [] 0, .rd 4 [] 0 0, .wr 5 [.o 1 none, .o 1 none, .o 1 none, .o 1 none, .o 1 none, .o 1 none, .o 1 none] 0] [(5, [])] [1, 2, 4, 5, 46, 47, 48] (E1 := fun nu2 => [(1, .val (.pointer (some (⟨nu1 0, 0, none⟩)))), (2, .val (.nilIface)), (4, .val (.int .i64 i)), (5, .val (.pointer (some (⟨nu2 0, 0, none⟩)))), (46, .val (.slice (some (⟨b2, off2, none⟩)) c.ops.length c2)), (47, .val (.int .i64 (↑c.ops.length : Int))), (48, .val (.int .i64 i))]) (h1 := fun nu2 => [(nu1 0, .cells #[.slice (some (⟨b1, off1, none⟩)) c.when.length c1, .int .i64 c.place, .slice (some (⟨b2, off2, none⟩)) c.ops.length c2] 35 (0, 0)), (nu2 0, .cells #[.int .i64 o.no, .string o.key, .int .i64 o.kind, .string o.text, .int .i64 o.n, .bool o.remove, .slice (a2_0, c2_0).fst ((List.map eDot o.dots).length) c2_0] 99 (0, 0))]) (p1 := fun nu2 => [(0 : Int) ≤ i, i < (↑c.ops.length : Int), cs2[off2 + i.toNat * (7 : Nat)]? = some (Value.int IntKind.i64 o.no), cs2[off2 + i.toNat * (7 : Nat) + (1 : Nat)]? = some (Value.string o.key), cs2[off2 + i.toNat * (7 : Nat) + (2 : Nat)]? = some (Value.int IntKind.i64 o.kind), cs2[off2 + i.toNat * (7 : Nat) + (3 : Nat)]? = some (Value.string o.text), cs2[off2 + i.toNat * (7 : Nat) + (4 : Nat)]? = some (Value.int IntKind.i64 o.n), cs2[off2 + i.toNat * (7 : Nat) + (5 : Nat)]? = some (Value.bool o.remove), cs2[off2 + i.toNat * (7 : Nat) + (6 : Nat)]? = some (Value.slice (a2_0, c2_0).fst (List.map eDot o.dots).length (a2_0, c2_0).snd)]) (W1 := []) (by kernel_rfl) (fun _ => by kernel_rfl) (fun _ => ⟨hi0, hlt2, hrd2_0, hrd2_1, hrd2_2, hrd2_3, hrd2_4, hrd2_5, hrd2_6, trivial⟩) (fun nu2 => ?_)
        refine J_seq ?_
        refine JR_begin mixed [(0, true), (1, true), (2, true), (3, true), (4, false), (5, true)] [] (by kernel_rfl) (by kernel_rfl) ?_
        refine JR_run (id := 11) (rest := [(4, false), (5, true)]) [.rd 0 [.o 1 none, .o 1 none, .o 1 none, .o 1 none, .o 1 none, .o 1 none, .o 1 none] 0 0, .rd 1 [] 0 0, .rd 2 [.o 0 none] 0 0, .rd 3 [] 0 0] [1, 2, 4, 5, 46, 47, 48, 53, 56] (E1 := fun _ => [(1, .val (.pointer (some (⟨nu1 0, 0, none⟩)))), (2, .val (.nilIface)), (4, .val (.int .i64 i)), (5, .val (.pointer (some (⟨nu2 0, 0, none⟩)))), (46, .val (.slice (some (⟨b2, off2, none⟩)) c.ops.length c2)), (47, .val (.int .i64 (↑c.ops.length : Int))), (48, .val (.int .i64 i)), (53, .val (.agg #[.int .i64 o.no, .string o.key, .int .i64 o.kind, .string o.text, .int .i64 o.n, .bool o.remove, .slice (a2_0, c2_0).fst ((List.map eDot o.dots).length) c2_0])), (56, .val (.int .i64 (↑c.when.length : Int)))]) (h1 := fun _ => [(nu1 0, .cells #[.slice (some (⟨b1, off1, none⟩)) c.when.length c1, .int .i64 c.place, .slice (some (⟨b2, off2, none⟩)) c.ops.length c2] 35 (0, 0)), (nu2 0, .cells #[.int .i64 o.no, .string o.key, .int .i64 o.kind, .string o.text, .int .i64 o.n, .bool o.remove, .slice (a2_0, c2_0).fst ((List.map eDot o.dots).length) c2_0] 99 (0, 0))]) (p1 := fun _ => []) (W1 := []) (fun _ => by kernel_rfl) (fun _ => trivial) (fun _ => ?_)
        refine JR_callp [] 48 #[.agg #[.int .i64 o.no, .string o.key, .int .i64 o.kind, .string o.text, .int .i64 o.n, .bool o.remove, .slice (a2_0, c2_0).fst ((List.map eDot o.dots).length) c2_0], .int .i64 (↑c.when.length : Int)] (some 57) (by kernel_rfl) (fun w S hG => ?_)
        refine (vCheckOp (o := o) (hG.at 0 rfl) (hG.at 5 rfl)).mono ?_
        rintro e1 w1 ⟨v, hR, hv⟩
        refine ⟨_, _, _, hR, ?_⟩
        obtain ⟨he, rfl⟩ | ⟨he, rfl⟩ := hv
        · try simp only [List.cons_append, List.nil_append, List.append_nil]
          refine JR_run (id := 11) (rest := []) [.rd 5 [] 0 0] [1, 2, 4, 5, 6, 46, 47, 48] (E1 := fun _ => [(1, .val (.pointer (some (⟨nu1 0, 0, none⟩)))), (2, .val (.nilIface)), (4, .val (.int .i64 i)), (5, .val (.pointer (some (⟨nu2 0, 0, none⟩)))), (6, .val (.nilIface)), (46, .val (.slice (some (⟨b2, off2, none⟩)) c.ops.length c2)), (47, .val (.int .i64 (↑c.ops.length : Int))), (48, .val (.int .i64 i))]) (h1 := fun _ => [(nu1 0, .cells #[.slice (some (⟨b1, off1, none⟩)) c.when.length c1, .int .i64 c.place, .slice (some (⟨b2, off2, none⟩)) c.ops.length c2] 35 (0, 0)), (nu2 0, .cells #[.int .i64 o.no, .string o.key, .int .i64 o.kind, .string o.text, .int .i64 o.n, .bool o.remove, .slice a2_0 ((List.map eDot o.dots).length) c2_0] 99 (0, 0))]) (p1 := fun _ => []) (W1 := []) (fun _ => by kernel_rfl) (fun _ => trivial) (fun _ => ?_)
          refine JR_end ?_
          refine J_seq ?_
          refine J_seq ?_
          refine J_reg mixed [.rd 0 [] 0 0, .rd 1 [] 0 0, .rd 2 [] 0 0, .rd 3 [] 0 0, .rd 4 [] 0 7, .rd 5 [] 0 0, .rd 6 [] 0 0, .rd 7 [] 1 0, .rd 8 [] 1 0, .rd 9 [] 1 0, .rd 10 [] 1 0, .rd 11 [] 1 0, .rd 12 [] 1 0, .rd 13 [] 1 0, .rd 14 [] 1 0, .rd 15 [] 1 0, .rd 16 [] 1 0, .rd 17 [] 0 0] [] [1, 2, 4, 5, 6, 46, 47, 48, 75] (E1 := fun _ => [(1, .val (.pointer (some (⟨nu1 0, 0, none⟩)))), (2, .val (.nilIface)), (4, .val (.int .i64 i)), (5, .val (.pointer (some (⟨nu2 0, 0, none⟩)))), (6, .val (.nilIface)), (46, .val (.slice (some (⟨b2, off2, none⟩)) c.ops.length c2)), (47, .val (.int .i64 (↑c.ops.length : Int))), (48, .val (.int .i64 i)), (75, .val (.bool false))]) (h1 := fun _ => [(nu1 0, .cells #[.slice (some (⟨b1, off1, none⟩)) c.when.length c1, .int .i64 c.place, .slice (some (⟨b2, off2, none⟩)) c.ops.length c2] 35 (0, 0)), (nu2 0, .cells #[.int .i64 o.no, .string o.key, .int .i64 o.kind, .string o.text, .int .i64 o.n, .bool o.remove, .slice a2_0 ((List.map eDot o.dots).length) c2_0] 99 (0, 0))]) (p1 := fun _ => [decide (i > (0 : Int)) = false]) (W1 := []) (by kernel_rfl) (fun _ => by kernel_rfl) (fun _ => ⟨by simp; omega, trivial⟩) (fun _ => ?_)
          refine J_cond_f (by kernel_rfl) (by kernel_rfl) ?_
          refine J_skip ?_
          refine J_seq ?_
          refine J_reg mixed [.rd 0 [] 0 0, .rd 1 [] 0 0] [] [1, 2, 4, 5, 6, 46, 47, 48, 78] (E1 := fun _ => [(1, .val (.pointer (some (⟨nu1 0, 0, none⟩)))), (2, .val (.nilIface)), (4, .val (.int .i64 i)), (5, .val (.pointer (some (⟨nu2 0, 0, none⟩)))), (6, .val (.nilIface)), (46, .val (.slice (some (⟨b2, off2, none⟩)) c.ops.length c2)), (47, .val (.int .i64 (↑c.ops.length : Int))), (48, .val (.int .i64 i)), (78, .val (.bool false))]) (h1 := fun _ => [(nu1 0, .cells #[.slice (some (⟨b1, off1, none⟩)) c.when.length c1, .int .i64 c.place, .slice (some (⟨b2, off2, none⟩)) c.ops.length c2] 35 (0, 0)), (nu2 0, .cells #[.int .i64 o.no, .string o.key, .int .i64 o.kind, .string o.text, .int .i64 o.n, .bool o.remove, .slice a2_0 ((List.map eDot o.dots).length) c2_0] 99 (0, 0))]) (p1 := fun _ => []) (W1 := []) (by kernel_rfl) (fun _ => by kernel_rfl) (fun _ => trivial) (fun _ => ?_)
          refine J_cond_f (by kernel_rfl) (by kernel_rfl) ?_
          refine J_skip ?_
          refine J_eb ?_
          refine J_reg mixed [.rd 0 [] 0 1, .rd 1 [] 0 0] [] [1, 2, 4, 5, 6, 46, 47, 48] (E1 := fun _ => [(1, .val (.pointer (some (⟨nu1 0, 0, none⟩)))), (2, .val (.nilIface)), (4, .val (.int .i64 i)), (5, .val (.pointer (some (⟨nu2 0, 0, none⟩)))), (6, .val (.nilIface)), (46, .val (.slice (some (⟨b2, off2, none⟩)) c.ops.length c2)), (47, .val (.int .i64 (↑c.ops.length : Int))), (48, .val (.int .i64 (i + 1)))]) (h1 := fun _ => [(nu1 0, .cells #[.slice (some (⟨b1, off1, none⟩)) c.when.length c1, .int .i64 c.place, .slice (some (⟨b2, off2, none⟩)) c.ops.length c2] 35 (0, 0)), (nu2 0, .cells #[.int .i64 o.no, .string o.key, .int .i64 o.kind, .string o.text, .int .i64 o.n, .bool o.remove, .slice a2_0 ((List.map eDot o.dots).length) c2_0] 99 (0, 0))]) (p1 := fun _ => [IntKind.i64.wrap (i + (1 : Int)) = i + (1 : Int)]) (W1 := []) (by kernel_rfl) (fun _ => by kernel_rfl) (fun _ => ⟨wrap_i64 (by omega) (by omega), trivial⟩) (fun _ => ?_)
          refine J_backx (i + 1) [1, 2, 46, 47, 48] [0] [] [0, 1, 2, 3, 4] ?_ ?_ (by kernel_rfl) rfl rfl rfl
          · exact next (by rw [hz0] at ho ⊢; exact opErrAt_first ho he)
          · omega
        · try simp only [List.cons_append, List.nil_append, List.append_nil]
          refine JR_run (id := 11) (rest := []) [.rd 5 [] 0 0] [1, 2, 4, 5, 6, 46, 47, 48] (E1 := fun _ => [(1, .val (.pointer (some (⟨nu1 0, 0, none⟩)))), (2, .val (.nilIface)), (4, .val (.int .i64 i)), (5, .val (.pointer (some (⟨nu2 0, 0, none⟩)))), (6, .val (.iface 168 (.pointer (some (er (opErr o (↑c.when.length : Int))))))), (46, .val (.slice (some (⟨b2, off2, none⟩)) c.ops.length c2)), (47, .val (.int .i64 (↑c.ops.length : Int))), (48, .val (.int .i64 i))]) (h1 := fun _ => [(nu1 0, .cells #[.slice (some (⟨b1, off1, none⟩)) c.when.length c1, .int .i64 c.place, .slice (some (⟨b2, off2, none⟩)) c.ops.length c2] 35 (0, 0)), (nu2 0, .cells #[.int .i64 o.no, .string o.key, .int .i64 o.kind, .string o.text, .int .i64 o.n, .bool o.remove, .slice a2_0 ((List.map eDot o.dots).length) c2_0] 99 (0, 0))]) (p1 := fun _ => []) (W1 := []) (fun _ => by kernel_rfl) (fun _ => trivial) (fun _ => ?_)
          refine JR_end ?_
          refine J_seq ?_
          refine J_seq ?_
          refine J_reg mixed [.rd 0 [] 0 0, .rd 1 [] 0 0, .rd 2 [] 0 0, .rd 3 [] 1 0, .rd 4 [] 1 0, .rd 5 [] 0 0, .rd 6 [] 0 0, .rd 7 [] 1 0, .rd 8 [] 1 0, .rd 9 [] 1 0, .rd 10 [] 1 0, .rd 11 [] 1 0, .rd 12 [] 1 0, .rd 13 [] 1 0, .rd 14 [] 1 0, .rd 15 [] 1 0, .rd 16 [] 1 0, .rd 17 [] 0 0] [] [1, 2, 4, 5, 6, 46, 47, 48, 75] (E1 := fun _ => [(1, .val (.pointer (some (⟨nu1 0, 0, none⟩)))), (2, .val (.nilIface)), (4, .val (.int .i64 i)), (5, .val (.pointer (some (⟨nu2 0, 0, none⟩)))), (6, .val (.iface 168 (.pointer (some (er (opErr o (↑c.when.length : Int))))))), (46, .val (.slice (some (⟨b2, off2, none⟩)) c.ops.length c2)), (47, .val (.int .i64 (↑c.ops.length : Int))), (48, .val (.int .i64 i)), (75, .val (.bool false))]) (h1 := fun _ => [(nu1 0, .cells #[.slice (some (⟨b1, off1, none⟩)) c.when.length c1, .int .i64 c.place, .slice (some (⟨b2, off2, none⟩)) c.ops.length c2] 35 (0, 0)), (nu2 0, .cells #[.int .i64 o.no, .string o.key, .int .i64 o.kind, .string o.text, .int .i64 o.n, .bool o.remove, .slice a2_0 ((List.map eDot o.dots).length) c2_0] 99 (0, 0))]) (p1 := fun _ => []) (W1 := []) (by kernel_rfl) (fun _ => by kernel_rfl) (fun _ => trivial) (fun _ => ?_)
          refine J_cond_f (by kernel_rfl) (by kernel_rfl) ?_
          refine J_skip ?_
          refine J_seq ?_
          refine J_reg mixed [.rd 0 [] 0 0, .rd 1 [] 0 0] [] [1, 2, 4, 5, 6, 46, 47, 48, 78] (E1 := fun _ => [(1, .val (.pointer (some (⟨nu1 0, 0, none⟩)))), (2, .val (.nilIface)), (4, .val (.int .i64 i)), (5, .val (.pointer (some (⟨nu2 0, 0, none⟩)))), (6, .val (.iface 168 (.pointer (some (er (opErr o (↑c.when.length : Int))))))), (46, .val (.slice (some (⟨b2, off2, none⟩)) c.ops.length c2)), (47, .val (.int .i64 (↑c.ops.length : Int))), (48, .val (.int .i64 i)), (78, .val (.bool true))]) (h1 := fun _ => [(nu1 0, .cells #[.slice (some (⟨b1, off1, none⟩)) c.when.length c1, .int .i64 c.place, .slice (some (⟨b2, off2, none⟩)) c.ops.length c2] 35 (0, 0)), (nu2 0, .cells #[.int .i64 o.no, .string o.key, .int .i64 o.kind, .string o.text, .int .i64 o.n, .bool o.remove, .slice a2_0 ((List.map eDot o.dots).length) c2_0] 99 (0, 0))]) (p1 := fun _ => []) (W1 := []) (by kernel_rfl) (fun _ => by kernel_rfl) (fun _ => trivial) (fun _ => ?_)
          refine J_cond_t (by kernel_rfl) (by kernel_rfl) ?_
          refine J_seq ?_
          refine J_reg mixed [.rd 0 [] 0 0, .rd 1 [] 0 0, .rd 2 [] 0 0, .wr 3 [] 0, .rd 4 [] 0 0, .rd 5 [] 0 0] [] [1, 2, 4, 5, 6, 46, 47, 48] (E1 := fun nu3 => [(1, .val (.pointer (some (⟨nu1 0, 0, none⟩)))), (2, .val (.iface 106 (.pointer (some (⟨nu3 0, 0, none⟩))))), (4, .val (.int .i64 i)), (5, .val (.pointer (some (⟨nu2 0, 0, none⟩)))), (6, .val (.iface 168 (.pointer (some (er (opErr o (↑c.when.length : Int))))))), (46, .val (.slice (some (⟨b2, off2, none⟩)) c.ops.length c2)), (47, .val (.int .i64 (↑c.ops.length : Int))), (48, .val (.int .i64 i))]) (h1 := fun nu3 => [(nu1 0, .cells #[.slice (some (⟨b1, off1, none⟩)) c.when.length c1, .int .i64 c.place, .slice (some (⟨b2, off2, none⟩)) c.ops.length c2] 35 (0, 0)), (nu2 0, .cells #[.int .i64 o.no, .string o.key, .int .i64 o.kind, .string o.text, .int .i64 o.n, .bool o.remove, .slice a2_0 ((List.map eDot o.dots).length) c2_0] 99 (0, 0)), (nu3 0, .cells #[.int .i64 i, .iface 168 (.pointer (some (er (opErr o (↑c.when.length : Int)))))] 110 (0, 0))]) (p1 := fun nu3 => []) (W1 := []) (by kernel_rfl) (fun _ => by kernel_rfl) (fun _ => trivial) (fun nu3 => ?_)
          refine J_return [[]] (.iface 106 (.pointer (some (⟨nu3 0, 0, none⟩)))) (by kernel_rfl) (fun a w s => ?_)
          rw [hit _ (opErrAt_own ho he) he]
          exact .inr ⟨by simp only; omega, hi0, _, ((s.share 2 rfl).stp (stp_fact fun w S H => ptr_of_obj rfl rfl (H (_, _) (List.mem_of_getElem? (i := 6) rfl)))).ret (by simp) [] [7] rfl rfl⟩
      · obtain ⟨q, hq⟩ : ∃ q, c.ops[(i - 1).toNat]? = some q := ⟨_, List.getElem?_eq_getElem (by omega)⟩
        have hii : i.toNat = (i - 1).toNat + 1 := by omega
        refine J_again1 2 rfl 4 rfl ((i - 1).toNat) (map_at hq) (by kernel_rfl) (fun a3_0 c3_0 hrd3 => ?_)
        have hrd3_0 := rd0 (hrd3 0 _ rfl)
        have hrd3_1 := hrd3 1 _ rfl
        have hrd3_2 := hrd3 2 _ rfl
        have hrd3_3 := hrd3 3 _ rfl
        have hrd3_4 := hrd3 4 _ rfl
        have hrd3_5 := hrd3 5 _ rfl
        have hrd3_6 := hrd3 6 _ rfl
        try simp only [List.cons_append, List.nil_append, List.append_nil]
        refine J_skip ?_
        refine J_seq ?_
        refine J_block ?_
        refine J_seq ?_
        refine J_reg mixed [.rd 0 [] 0 0, .rd 1 [] 0 2, .rd 2 [.r 4 (some (.int .i64 o.no)), .r 4 (some (.string o.key)), .r 4 (some (.int .i64 o.kind)), .r 4 (some (.string o.text)), .r 4 (some (.int .i64 o.n)), .r 4 (some (.bool o.remove)), .r 4 (some (.slice (a2_0, c2_0).fst ((List.map eDot o.dots).length) c2_0))] 0 0, .wr 3 [] 0, .rd 4 [] 0 0, .wr 5 [.o 1 none, .o 1 none, .o 1 none, .o 1 none, .o 1 none, .o 1 none, .o 1 none] 0] [(5, [])] [1, 2, 4, 5, 46, 47, 48] (E1 := fun nu2 => [(1, .val (.pointer (some (⟨nu1 0, 0, none⟩)))), (2, .val (.nilIface)), (4, .val (.int .i64 i)), (5, .val (.pointer (some (⟨nu2 0, 0, none⟩)))), (46, .val (.slice (some (⟨b2, off2, none⟩)) c.ops.length c2)), (47, .val (.int .i64 (↑c.ops.length : Int))), (48, .val (.int .i64 i))]) (h1 := fun nu2 => [(nu1 0, .cells #[.slice (some (⟨b1, off1, none⟩)) c.when.length c1, .int .i64 c.place, .slice (some (⟨b2, off2, none⟩)) c.ops.length c2] 35 (0, 0)), (nu2 0, .cells #[.int .i64 o.no, .string o.key, .int .i64 o.kind, .string o.text, .int .i64 o.n, .bool o.remove, .slice (a2_0, c2_0).fst ((List.map eDot o.dots).length) c2_0] 99 (0, 0))]) (p1 := fun nu2 => [(0 : Int) ≤ i, i < (↑c.ops.length : Int), cs2[off2 + i.toNat * (7 : Nat)]? = some (Value.int IntKind.i64 o.no), cs2[off2 + i.toNat * (7 : Nat) + (1 : Nat)]? = some (Value.string o.key), cs2[off2 + i.toNat * (7 : Nat) + (2 : Nat)]? = some (Value.int IntKind.i64 o.kind), cs2[off2 + i.toNat * (7 : Nat) + (3 : Nat)]? = some (Value.string o.text), cs2[off2 + i.toNat * (7 : Nat) + (4 : Nat)]? = some (Value.int IntKind.i64 o.n), cs2[off2 + i.toNat * (7 : Nat) + (5 : Nat)]? = some (Value.bool o.remove), cs2[off2 + i.toNat * (7 : Nat) + (6 : Nat)]? = some (Value.slice (a2_0, c2_0).fst (List.map eDot o.dots).length (a2_0, c2_0).snd)]) (W1 := []) (by kernel_rfl) (fun _ => by kernel_rfl) (fun _ => ⟨hi0, hlt2, hrd2_0, hrd2_1, hrd2_2, hrd2_3, hrd2_4, hrd2_5, hrd2_6, trivial⟩) (fun nu2 => ?_)
        refine J_seq ?_
        refine JR_begin mixed [(0, true), (1, true), (2, true), (3, true), (4, false), (5, true)] [] (by kernel_rfl) (by kernel_rfl) ?_
        refine JR_run (id := 11) (rest := [(4, false), (5, true)]) [.rd 0 [.o 1 none, .o 1 none, .o 1 none, .o 1 none, .o 1 none, .o 1 none, .o 1 none] 0 0, .rd 1 [] 0 0, .rd 2 [.o 0 none] 0 0, .rd 3 [] 0 0] [1, 2, 4, 5, 46, 47, 48, 53, 56] (E1 := fun _ => [(1, .val (.pointer (some (⟨nu1 0, 0, none⟩)))), (2, .val (.nilIface)), (4, .val (.int .i64 i)), (5, .val (.pointer (some (⟨nu2 0, 0, none⟩)))), (46, .val (.slice (some (⟨b2, off2, none⟩)) c.ops.length c2)), (47, .val (.int .i64 (↑c.ops.length : Int))), (48, .val (.int .i64 i)), (53, .val (.agg #[.int .i64 o.no, .string o.key, .int .i64 o.kind, .string o.text, .int .i64 o.n, .bool o.remove, .slice (a2_0, c2_0).fst ((List.map eDot o.dots).length) c2_0])), (56, .val (.int .i64 (↑c.when.length : Int)))]) (h1 := fun _ => [(nu1 0, .cells #[.slice (some (⟨b1, off1, none⟩)) c.when.length c1, .int .i64 c.place, .slice (some (⟨b2, off2, none⟩)) c.ops.length c2] 35 (0, 0)), (nu2 0, .cells #[.int .i64 o.no, .string o.key, .int .i64 o.kind, .string o.text, .int .i64 o.n, .bool o.remove, .slice (a2_0, c2_0).fst ((List.map eDot o.dots).length) c2_0] 99 (0, 0))]) (p1 := fun _ => []) (W1 := []) (fun _ => by kernel_rfl) (fun _ => trivial) (fun _ => ?_)
        refine JR_callp [] 48 #[.agg #[.int .i64 o.no, .string o.key, .int .i64 o.kind, .string o.text, .int .i64 o.n, .bool o.remove, .slice (a2_0, c2_0).fst ((List.map eDot o.dots).length) c2_0], .int .i64 (↑c.when.length : Int)] (some 57) (by kernel_rfl) (fun w S hG => ?_)
        refine (vCheckOp (o := o) (hG.at 0 rfl) (hG.at 5 rfl)).mono ?_
        rintro e1 w1 ⟨v, hR, hv⟩
        refine ⟨_, _, _, hR, ?_⟩
        obtain ⟨he, rfl⟩ | ⟨he, rfl⟩ := hv
        · have hn := opErrAt_next (p := c.when.length) (by rw [← hii]; exact ho) hq he
          rw [← hii] at hn
          by_cases hno2 : o.no ≤ q.no
          · rw [if_pos hno2] at hn
            try simp only [List.cons_append, List.nil_append, List.append_nil]
            refine JR_run (id := 11) (rest := []) [.rd 5 [] 0 0] [1, 2, 4, 5, 6, 46, 47, 48] (E1 := fun _ => [(1, .val (.pointer (some (⟨nu1 0, 0, none⟩)))), (2, .val (.nilIface)), (4, .val (.int .i64 i)), (5, .val (.pointer (some (⟨nu2 0, 0, none⟩)))), (6, .val (.nilIface)), (46, .val (.slice (some (⟨b2, off2, none⟩)) c.ops.length c2)), (47, .val (.int .i64 (↑c.ops.length : Int))), (48, .val (.int .i64 i))]) (h1 := fun _ => [(nu1 0, .cells #[.slice (some (⟨b1, off1, none⟩)) c.when.length c1, .int .i64 c.place, .slice (some (⟨b2, off2, none⟩)) c.ops.length c2] 35 (0, 0)), (nu2 0, .cells #[.int .i64 o.no, .string o.key, .int .i64 o.kind, .string o.text, .int .i64 o.n, .bool o.remove, .slice a2_0 ((List.map eDot o.dots).length) c2_0] 99 (0, 0))]) (p1 := fun _ => []) (W1 := []) (fun _ => by kernel_rfl) (fun _ => trivial) (fun _ => ?_)
            refine JR_end ?_
            refine J_seq ?_
            refine J_seq ?_
            refine J_reg mixed [.rd 0 [] 0 0, .rd 1 [] 0 0, .rd 2 [] 0 0, .rd 3 [] 0 0, .rd 4 [] 0 6, .rd 5 [] 0 0, .rd 6 [] 0 0, .rd 7 [] 0 0, .rd 8 [.o 1 none] 0 0, .rd 9 [] 0 0, .rd 10 [.o 0 none] 0 0, .rd 11 [] 0 0, .rd 12 [] 0 1, .rd 13 [] 0 2, .rd 14 [] 0 0, .rd 15 [.r 4 (some (.int .i64 q.no))] 0 0, .rd 16 [] 0 6, .rd 17 [] 0 0] [] [1, 2, 4, 5, 6, 46, 47, 48, 75] (E1 := fun _ => [(1, .val (.pointer (some (⟨nu1 0, 0, none⟩)))), (2, .val (.nilIface)), (4, .val (.int .i64 i)), (5, .val (.pointer (some (⟨nu2 0, 0, none⟩)))), (6, .val (.nilIface)), (46, .val (.slice (some (⟨b2, off2, none⟩)) c.ops.length c2)), (47, .val (.int .i64 (↑c.ops.length : Int))), (48, .val (.int .i64 i)), (75, .val (.bool true))]) (h1 := fun _ => [(nu1 0, .cells #[.slice (some (⟨b1, off1, none⟩)) c.when.length c1, .int .i64 c.place, .slice (some (⟨b2, off2, none⟩)) c.ops.length c2] 35 (0, 0)), (nu2 0, .cells #[.int .i64 o.no, .string o.key, .int .i64 o.kind, .string o.text, .int .i64 o.n, .bool o.remove, .slice a2_0 ((List.map eDot o.dots).length) c2_0] 99 (0, 0))]) (p1 := fun _ => [decide (i > (0 : Int)) = true, IntKind.i64.wrap (i - (1 : Int)) = i - (1 : Int), (0 : Int) ≤ i - (1 : Int), i - (1 : Int) < (↑c.ops.length : Int), cs2[off2 + (i - (1 : Int)).toNat * (7 : Nat)]? = some (Value.int IntKind.i64 q.no), decide (o.no ≤ q.no) = true]) (W1 := []) (by kernel_rfl) (fun _ => by kernel_rfl) (fun _ => ⟨by simp; omega, wrap_i64 (by omega) (by omega), by omega, by omega, hrd3_0, by simp; omega, trivial⟩) (fun _ => ?_)
            refine J_cond_t (by kernel_rfl) (by kernel_rfl) ?_
            refine J_reg mixed [.rd 0 [.r 1 (some (.iface 168 (.pointer (some (er 3)))))] 0 0, .rd 1 [] 0 0] [] [1, 2, 4, 5, 6, 46, 47, 48] (E1 := fun _ => [(1, .val (.pointer (some (⟨nu1 0, 0, none⟩)))), (2, .val (.nilIface)), (4, .val (.int .i64 i)), (5, .val (.pointer (some (⟨nu2 0, 0, none⟩)))), (6, .val (.iface 168 (.pointer (some (er 3))))), (46, .val (.slice (some (⟨b2, off2, none⟩)) c.ops.length c2)), (47, .val (.int .i64 (↑c.ops.length : Int))), (48, .val (.int .i64 i))]) (h1 := fun _ => [(nu1 0, .cells #[.slice (some (⟨b1, off1, none⟩)) c.when.length c1, .int .i64 c.place, .slice (some (⟨b2, off2, none⟩)) c.ops.length c2] 35 (0, 0)), (nu2 0, .cells #[.int .i64 o.no, .string o.key, .int .i64 o.kind, .string o.text, .int .i64 o.n, .bool o.remove, .slice a2_0 ((List.map eDot o.dots).length) c2_0] 99 (0, 0))]) (p1 := fun _ => [csg2[(0 : Nat)]? = some (Value.iface (168 : Nat) (Value.pointer (some (er (3 : Nat)))))]) (W1 := []) (by kernel_rfl) (fun _ => by kernel_rfl) (fun _ => ⟨hglob2, trivial⟩) (fun _ => ?_)
            refine J_seq ?_
            refine J_reg mixed [.rd 0 [] 0 0, .rd 1 [] 0 0] [] [1, 2, 4, 5, 6, 46, 47, 48, 78] (E1 := fun _ => [(1, .val (.pointer (some (⟨nu1 0, 0, none⟩)))), (2, .val (.nilIface)), (4, .val (.int .i64 i)), (5, .val (.pointer (some (⟨nu2 0, 0, none⟩)))), (6, .val (.iface 168 (.pointer (some (er 3))))), (46, .val (.slice (some (⟨b2, off2, none⟩)) c.ops.length c2)), (47, .val (.int .i64 (↑c.ops.length : Int))), (48, .val (.int .i64 i)), (78, .val (.bool true))]) (h1 := fun _ => [(nu1 0, .cells #[.slice (some (⟨b1, off1, none⟩)) c.when.length c1, .int .i64 c.place, .slice (some (⟨b2, off2, none⟩)) c.ops.length c2] 35 (0, 0)), (nu2 0, .cells #[.int .i64 o.no, .string o.key, .int .i64 o.kind, .string o.text, .int .i64 o.n, .bool o.remove, .slice a2_0 ((List.map eDot o.dots).length) c2_0] 99 (0, 0))]) (p1 := fun _ => []) (W1 := []) (by kernel_rfl) (fun _ => by kernel_rfl) (fun _ => trivial) (fun _ => ?_)
            refine J_cond_t (by kernel_rfl) (by kernel_rfl) ?_
            refine J_seq ?_
            refine J_reg mixed [.rd 0 [] 0 0, .rd 1 [] 0 0, .rd 2 [] 0 0, .wr 3 [] 0, .rd 4 [] 0 0, .rd 5 [] 0 0] [] [1, 2, 4, 5, 6, 46, 47, 48] (E1 := fun nu3 => [(1, .val (.pointer (some (⟨nu1 0, 0, none⟩)))), (2, .val (.iface 106 (.pointer (some (⟨nu3 0, 0, none⟩))))), (4, .val (.int .i64 i)), (5, .val (.pointer (some (⟨nu2 0, 0, none⟩)))), (6, .val (.iface 168 (.pointer (some (er 3))))), (46, .val (.slice (some (⟨b2, off2, none⟩)) c.ops.length c2)), (47, .val (.int .i64 (↑c.ops.length : Int))), (48, .val (.int .i64 i))]) (h1 := fun nu3 => [(nu1 0, .cells #[.slice (some (⟨b1, off1, none⟩)) c.when.length c1, .int .i64 c.place, .slice (some (⟨b2, off2, none⟩)) c.ops.length c2] 35 (0, 0)), (nu2 0, .cells #[.int .i64 o.no, .string o.key, .int .i64 o.kind, .string o.text, .int .i64 o.n, .bool o.remove, .slice a2_0 ((List.map eDot o.dots).length) c2_0] 99 (0, 0)), (nu3 0, .cells #[.int .i64 i, .iface 168 (.pointer (some (er 3)))] 110 (0, 0))]) (p1 := fun nu3 => []) (W1 := []) (by kernel_rfl) (fun _ => by kernel_rfl) (fun _ => trivial) (fun nu3 => ?_)
            refine J_return [[]] (.iface 106 (.pointer (some (⟨nu3 0, 0, none⟩)))) (by kernel_rfl) (fun a w s => ?_)
            rw [hit _ hn (by decide)]
            exact .inr ⟨by simp only; omega, hi0, _, ((s.share 2 rfl).stp (stp_fact fun w S H => ptr_of_obj rfl rfl (H (_, _) (List.mem_of_getElem? (i := 7) rfl)))).ret (by simp) [] [8] rfl rfl⟩
          · rw [if_neg hno2] at hn
            try simp only [List.cons_append, List.nil_append, List.append_nil]
            refine JR_run (id := 11) (rest := []) [.rd 5 [] 0 0] [1, 2, 4, 5, 6, 46, 47, 48] (E1 := fun _ => [(1, .val (.pointer (some (⟨nu1 0, 0, none⟩)))), (2, .val (.nilIface)), (4, .val (.int .i64 i)), (5, .val (.pointer (some (⟨nu2 0, 0, none⟩)))), (6, .val (.nilIface)), (46, .val (.slice (some (⟨b2, off2, none⟩)) c.ops.length c2)), (47, .val (.int .i64 (↑c.ops.length : Int))), (48, .val (.int .i64 i))]) (h1 := fun _ => [(nu1 0, .cells #[.slice (some (⟨b1, off1, none⟩)) c.when.length c1, .int .i64 c.place, .slice (some (⟨b2, off2, none⟩)) c.ops.length c2] 35 (0, 0)), (nu2 0, .cells #[.int .i64 o.no, .string o.key, .int .i64 o.kind, .string o.text, .int .i64 o.n, .bool o.remove, .slice a2_0 ((List.map eDot o.dots).length) c2_0] 99 (0, 0))]) (p1 := fun _ => []) (W1 := []) (fun _ => by kernel_rfl) (fun _ => trivial) (fun _ => ?_)
            refine JR_end ?_
            refine J_seq ?_
            refine J_seq ?_
            refine J_reg mixed [.rd 0 [] 0 0, .rd 1 [] 0 0, .rd 2 [] 0 0, .rd 3 [] 0 0, .rd 4 [] 0 6, .rd 5 [] 0 0, .rd 6 [] 0 0, .rd 7 [] 0 0, .rd 8 [.o 1 none] 0 0, .rd 9 [] 0 0, .rd 10 [.o 0 none] 0 0, .rd 11 [] 0 0, .rd 12 [] 0 1, .rd 13 [] 0 2, .rd 14 [] 0 0, .rd 15 [.r 4 (some (.int .i64 q.no))] 0 0, .rd 16 [] 0 7, .rd 17 [] 0 0] [] [1, 2, 4, 5, 6, 46, 47, 48, 75] (E1 := fun _ => [(1, .val (.pointer (some (⟨nu1 0, 0, none⟩)))), (2, .val (.nilIface)), (4, .val (.int .i64 i)), (5, .val (.pointer (some (⟨nu2 0, 0, none⟩)))), (6, .val (.nilIface)), (46, .val (.slice (some (⟨b2, off2, none⟩)) c.ops.length c2)), (47, .val (.int .i64 (↑c.ops.length : Int))), (48, .val (.int .i64 i)), (75, .val (.bool false))]) (h1 := fun _ => [(nu1 0, .cells #[.slice (some (⟨b1, off1, none⟩)) c.when.length c1, .int .i64 c.place, .slice (some (⟨b2, off2, none⟩)) c.ops.length c2] 35 (0, 0)), (nu2 0, .cells #[.int .i64 o.no, .string o.key, .int .i64 o.kind, .string o.text, .int .i64 o.n, .bool o.remove, .slice a2_0 ((List.map eDot o.dots).length) c2_0] 99 (0, 0))]) (p1 := fun _ => [decide (i > (0 : Int)) = true, IntKind.i64.wrap (i - (1 : Int)) = i - (1 : Int), (0 : Int) ≤ i - (1 : Int), i - (1 : Int) < (↑c.ops.length : Int), cs2[off2 + (i - (1 : Int)).toNat * (7 : Nat)]? = some (Value.int IntKind.i64 q.no), decide (o.no ≤ q.no) = false]) (W1 := []) (by kernel_rfl) (fun _ => by kernel_rfl) (fun _ => ⟨by simp; omega, wrap_i64 (by omega) (by omega), by omega, by omega, hrd3_0, by simp; omega, trivial⟩) (fun _ => ?_)
            refine J_cond_f (by kernel_rfl) (by kernel_rfl) ?_
            refine J_skip ?_
            refine J_seq ?_
            refine J_reg mixed [.rd 0 [] 0 0, .rd 1 [] 0 0] [] [1, 2, 4, 5, 6, 46, 47, 48, 78] (E1 := fun _ => [(1, .val (.pointer (some (⟨nu1 0, 0, none⟩)))), (2, .val (.nilIface)), (4, .val (.int .i64 i)), (5, .val (.pointer (some (⟨nu2 0, 0, none⟩)))), (6, .val (.nilIface)), (46, .val (.slice (some (⟨b2, off2, none⟩)) c.ops.length c2)), (47, .val (.int .i64 (↑c.ops.length : Int))), (48, .val (.int .i64 i)), (78, .val (.bool false))]) (h1 := fun _ => [(nu1 0, .cells #[.slice (some (⟨b1, off1, none⟩)) c.when.length c1, .int .i64 c.place, .slice (some (⟨b2, off2, none⟩)) c.ops.length c2] 35 (0, 0)), (nu2 0, .cells #[.int .i64 o.no, .string o.key, .int .i64 o.kind, .string o.text, .int .i64 o.n, .bool o.remove, .slice a2_0 ((List.map eDot o.dots).length) c2_0] 99 (0, 0))]) (p1 := fun _ => []) (W1 := []) (by kernel_rfl) (fun _ => by kernel_rfl) (fun _ => trivial) (fun _ => ?_)
            refine J_cond_f (by kernel_rfl) (by kernel_rfl) ?_
            refine J_skip ?_
            refine J_eb ?_
            refine J_reg mixed [.rd 0 [] 0 1, .rd 1 [] 0 0] [] [1, 2, 4, 5, 6, 46, 47, 48] (E1 := fun _ => [(1, .val (.pointer (some (⟨nu1 0, 0, none⟩)))), (2, .val (.nilIface)), (4, .val (.int .i64 i)), (5, .val (.pointer (some (⟨nu2 0, 0, none⟩)))), (6, .val (.nilIface)), (46, .val (.slice (some (⟨b2, off2, none⟩)) c.ops.length c2)), (47, .val (.int .i64 (↑c.ops.length : Int))), (48, .val (.int .i64 (i + 1)))]) (h1 := fun _ => [(nu1 0, .cells #[.slice (some (⟨b1, off1, none⟩)) c.when.length c1, .int .i64 c.place, .slice (some (⟨b2, off2, none⟩)) c.ops.length c2] 35 (0, 0)), (nu2 0, .cells #[.int .i64 o.no, .string o.key, .int .i64 o.kind, .string o.text, .int .i64 o.n, .bool o.remove, .slice a2_0 ((List.map eDot o.dots).length) c2_0] 99 (0, 0))]) (p1 := fun _ => [IntKind.i64.wrap (i + (1 : Int)) = i + (1 : Int)]) (W1 := []) (by kernel_rfl) (fun _ => by kernel_rfl) (fun _ => ⟨wrap_i64 (by omega) (by omega), trivial⟩) (fun _ => ?_)
            refine J_backx (i + 1) [1, 2, 46, 47, 48] [0] [] [0, 1, 2, 3, 4] ?_ ?_ (by kernel_rfl) rfl rfl rfl
            · exact next hn
            · omega
        · try simp only [List.cons_append, List.nil_append, List.append_nil]
          refine JR_run (id := 11) (rest := []) [.rd 5 [] 0 0] [1, 2, 4, 5, 6, 46, 47, 48] (E1 := fun _ => [(1, .val (.pointer (some (⟨nu1 0, 0, none⟩)))), (2, .val (.nilIface)), (4, .val (.int .i64 i)), (5, .val (.pointer (some (⟨nu2 0, 0, none⟩)))), (6, .val (.iface 168 (.pointer (some (er (opErr o (↑c.when.length : Int))))))), (46, .val (.slice (some (⟨b2, off2, none⟩)) c.ops.length c2)), (47, .val (.int .i64 (↑c.ops.length : Int))), (48, .val (.int .i64 i))]) (h1 := fun _ => [(nu1 0, .cells #[.slice (some (⟨b1, off1, none⟩)) c.when.length c1, .int .i64 c.place, .slice (some (⟨b2, off2, none⟩)) c.ops.length c2] 35 (0, 0)), (nu2 0, .cells #[.int .i64 o.no, .string o.key, .int .i64 o.kind, .string o.text, .int .i64 o.n, .bool o.remove, .slice a2_0 ((List.map eDot o.dots).length) c2_0] 99 (0, 0))]) (p1 := fun _ => []) (W1 := []) (fun _ => by kernel_rfl) (fun _ => trivial) (fun _ => ?_)
          refine JR_end ?_
          refine J_seq ?_
          refine J_seq ?_
          refine J_reg mixed [.rd 0 [] 0 0, .rd 1 [] 0 0, .rd 2 [] 0 0, .rd 3 [] 1 0, .rd 4 [] 1 0, .rd 5 [] 0 0, .rd 6 [] 0 0, .rd 7 [] 1 0, .rd 8 [] 1 0, .rd 9 [] 1 0, .rd 10 [] 1 0, .rd 11 [] 1 0, .rd 12 [] 1 0, .rd 13 [] 1 0, .rd 14 [] 1 0, .rd 15 [] 1 0, .rd 16 [] 1 0, .rd 17 [] 0 0] [] [1, 2, 4, 5, 6, 46, 47, 48, 75] (E1 := fun _ => [(1, .val (.pointer (some (⟨nu1 0, 0, none⟩)))), (2, .val (.nilIface)), (4, .val (.int .i64 i)), (5, .val (.pointer (some (⟨nu2 0, 0, none⟩)))), (6, .val (.iface 168 (.pointer (some (er (opErr o (↑c.when.length : Int))))))), (46, .val (.slice (some (⟨b2, off2, none⟩)) c.ops.length c2)), (47, .val (.int .i64 (↑c.ops.length : Int))), (48, .val (.int .i64 i)), (75, .val (.bool false))]) (h1 := fun _ => [(nu1 0, .cells #[.slice (some (⟨b1, off1, none⟩)) c.when.length c1, .int .i64 c.place, .slice (some (⟨b2, off2, none⟩)) c.ops.length c2] 35 (0, 0)), (nu2 0, .cells #[.int .i64 o.no, .string o.key, .int .i64 o.kind, .string o.text, .int .i64 o.n, .bool o.remove, .slice a2_0 ((List.map eDot o.dots).length) c2_0] 99 (0, 0))]) (p1 := fun _ => []) (W1 := []) (by kernel_rfl) (fun _ => by kernel_rfl) (fun _ => trivial) (fun _ => ?_)
          refine J_cond_f (by kernel_rfl) (by kernel_rfl) ?_
          refine J_skip ?_
          refine J_seq ?_
          refine J_reg mixed [.rd 0 [] 0 0, .rd 1 [] 0 0] [] [1, 2, 4, 5, 6, 46, 47, 48, 78] (E1 := fun _ => [(1, .val (.pointer (some (⟨nu1 0, 0, none⟩)))), (2, .val (.nilIface)), (4, .val (.int .i64 i)), (5, .val (.pointer (some (⟨nu2 0, 0, none⟩)))), (6, .val (.iface 168 (.pointer (some (er (opErr o (↑c.when.length : Int))))))), (46, .val (.slice (some (⟨b2, off2, none⟩)) c.ops.length c2)), (47, .val (.int .i64 (↑c.ops.length : Int))), (48, .val (.int .i64 i)), (78, .val (.bool true))]) (h1 := fun _ => [(nu1 0, .cells #[.slice (some (⟨b1, off1, none⟩)) c.when.length c1, .int .i64 c.place, .slice (some (⟨b2, off2, none⟩)) c.ops.length c2] 35 (0, 0)), (nu2 0, .cells #[.int .i64 o.no, .string o.key, .int .i64 o.kind, .string o.text, .int .i64 o.n, .bool o.remove, .slice a2_0 ((List.map eDot o.dots).length) c2_0] 99 (0, 0))]) (p1 := fun _ => []) (W1 := []) (by kernel_rfl) (fun _ => by kernel_rfl) (fun _ => trivial) (fun _ => ?_)
          refine J_cond_t (by kernel_rfl) (by kernel_rfl) ?_
          refine J_seq ?_
          refine J_reg mixed [.rd 0 [] 0 0, .rd 1 [] 0 0, .rd 2 [] 0 0, .wr 3 [] 0, .rd 4 [] 0 0, .rd 5 [] 0 0] [] [1, 2, 4, 5, 6, 46, 47, 48] (E1 := fun nu3 => [(1, .val (.pointer (some (⟨nu1 0, 0, none⟩)))), (2, .val (.iface 106 (.pointer (some (⟨nu3 0, 0, none⟩))))), (4, .val (.int .i64 i)), (5, .val (.pointer (some (⟨nu2 0, 0, none⟩)))), (6, .val (.iface 168 (.pointer (some (er (opErr o (↑c.when.length : Int))))))), (46, .val (.slice (some (⟨b2, off2, none⟩)) c.ops.length c2)), (47, .val (.int .i64 (↑c.ops.length : Int))), (48, .val (.int .i64 i))]) (h1 := fun nu3 => [(nu1 0, .cells #[.slice (some (⟨b1, off1, none⟩)) c.when.length c1, .int .i64 c.place, .slice (some (⟨b2, off2, none⟩)) c.ops.length c2] 35 (0, 0)), (nu2 0, .cells #[.int .i64 o.no, .string o.key, .int .i64 o.kind, .string o.text, .int .i64 o.n, .bool o.remove, .slice a2_0 ((List.map eDot o.dots).length) c2_0] 99 (0, 0)), (nu3 0, .cells #[.int .i64 i, .iface 168 (.pointer (some (er (opErr o (↑c.when.length : Int)))))] 110 (0, 0))]) (p1 := fun nu3 => []) (W1 := []) (by kernel_rfl) (fun _ => by kernel_rfl) (fun _ => trivial) (fun nu3 => ?_)
          refine J_return [[]] (.iface 106 (.pointer (some (⟨nu3 0, 0, none⟩)))) (by kernel_rfl) (fun a w s => ?_)
          rw [hit _ (opErrAt_own ho he) he]
          exact .inr ⟨by simp only; omega, hi0, _, ((s.share 2 rfl).stp (stp_fact fun w S H => ptr_of_obj rfl rfl (H (_, _) (List.mem_of_getElem? (i := 7) rfl)))).ret (by simp) [] [8] rfl rfl⟩
    · have hend : i.toNat = 0 + c.ops.length := by simp at hlt; omega
      rw [(opsFault_from c.ops.length 0 i.toNat (Nat.zero_le _) hno).1 hend]
      refine J_exit rfl ?_
      refine J_seq ?_
      refine J_reg mixed [.rd 0 [] 0 0] [] [2] (E1 := fun _ => [(2, .val (.nilIface))]) (h1 := fun _ => [(nu1 0, .cells #[.slice (some (⟨b1, off1, none⟩)) c.when.length c1, .int .i64 c.place, .slice a2 c.ops.length c2] 35 (0, 0))]) (p1 := fun _ => []) (W1 := []) (by kernel_rfl) (fun _ => by kernel_rfl) (fun _ => trivial) (fun _ => ?_)
      refine J_return [[]] (.nilIface) (by kernel_rfl) (fun a w s => ?_)
      exact .inl ⟨rfl, _, s.ret (by simp) [] [] rfl rfl, .inl ⟨rfl, rfl⟩⟩
  · have e : comFault c = ⟨vecErr c.when, -1⟩ := by rw [comFault, if_pos hv0]
    try simp only [List.cons_append, List.nil_append, List.append_nil]
    refine JR_run (id := 1) (rest := []) [.rd 3 [] 0 0] [1, 2, 3] (E1 := fun _ => [(1, .val (.pointer (some (⟨nu1 0, 0, none⟩)))), (2, .val (.nilIface)), (3, .val (.iface 168 (.pointer (some (er (vecErr c.when))))))]) (h1 := fun _ => [(nu1 0, .cells #[.slice a1 c.when.length c1, .int .i64 c.place, .slice a2 c.ops.length c2] 35 (0, 0))]) (p1 := fun _ => []) (W1 := []) (fun _ => by kernel_rfl) (fun _ => trivial) (fun _ => ?_)
    refine JR_end ?_
    refine J_seq ?_
    refine J_reg mixed [.rd 0 [] 0 0, .rd 1 [] 0 0] [] [1, 2, 3, 11] (E1 := fun _ => [(1, .val (.pointer (some (⟨nu1 0, 0, none⟩)))), (2, .val (.nilIface)), (3, .val (.iface 168 (.pointer (some (er (vecErr c.when)))))), (11, .val (.bool true))]) (h1 := fun _ => [(nu1 0, .cells #[.slice a1 c.when.length c1, .int .i64 c.place, .slice a2 c.ops.length c2] 35 (0, 0))]) (p1 := fun _ => []) (W1 := []) (by kernel_rfl) (fun _ => by kernel_rfl) (fun _ => trivial) (fun _ => ?_)
    refine J_cond_t (by kernel_rfl) (by kernel_rfl) ?_
    refine J_seq ?_
    refine J_reg mixed [.rd 0 [] 0 0, .rd 1 [] 0 0] [] [1, 2] (E1 := fun _ => [(1, .val (.pointer (some (⟨nu1 0, 0, none⟩)))), (2, .val (.iface 168 (.pointer (some (er (vecErr c.when))))))]) (h1 := fun _ => [(nu1 0, .cells #[.slice a1 c.when.length c1, .int .i64 c.place, .slice a2 c.ops.length c2] 35 (0, 0))]) (p1 := fun _ => []) (W1 := []) (by kernel_rfl) (fun _ => by kernel_rfl) (fun _ => trivial) (fun _ => ?_)
    refine J_return [[]] (.iface 168 (.pointer (some (er (vecErr c.when))))) (by kernel_rfl) (fun a w s => ?_)
    rw [e]
    exact .inl ⟨rfl, _, s.ret (by simp) [] [] rfl rfl, .inr ⟨hv0, rfl⟩⟩
end Go.Proofs.YtgelnbgjabpdbaaDoor
