/- The same commits, messages; a commit that is too much; a message turned into the program's. -/
import Derived.Test.YtpjkiomccpjboaaGreatDoorMsg
import Derived.Test.YtpjkiomccpjboaaGreatDoorEqDot
namespace Go.Proofs.YtpjkiomccpjboaaGreatDoor
open Go Go.Sx

theorem sameDots_eq {w0 : World} {S : Nat → Prop} {a b : Option Addr} {n m c d : Nat} {l : List DotT} (ha : Rep w0 S (.slice a n c) (.sl 3 (l.map eDot))) (hb : Rep w0 S (.slice b m d) (.sl 3 (l.map eDot))) (hl : l.length ≤ 1000000) :
    Calls Tryz.prog 29 #[.slice a n c, .slice b m d] w0 fun e w' => Ret [] w0 S w' e (.bool true) [] [] := by
  have e1 := ha.slen
  have e2 := hb.slen
  rw [List.length_map] at e1 e2
  subst e1 e2
  refine ep29 (args := [.slice a l.length c, .slice b l.length d]) (G := [(_, .sl 3 (l.map eDot)), (_, .sl 3 (l.map eDot))]) (by kernel_rfl) (.cons ha (.cons hb (.nil _ _))) ?_
  refine J_seq ?_
  refine J_reg mixed [.rd 0 [] 0 0] [] [0, 1, 4] (E1 := fun _ => [(0, .val (.slice a l.length c)), (1, .val (.slice b l.length d)), (4, .val (.bool false))]) (h1 := fun _ => []) (p1 := fun _ => []) (W1 := []) (by kernel_rfl) (fun _ => by kernel_rfl) (fun _ => trivial) (fun _ => ?_)
  refine J_seq ?_
  refine J_seq ?_
  refine J_reg mixed [.rd 0 [] 0 0, .rd 1 [] 0 0, .rd 2 [] 0 0, .rd 3 [] 0 0, .rd 4 [] 0 7] [] [0, 1, 4, 10] (E1 := fun _ => [(0, .val (.slice a l.length c)), (1, .val (.slice b l.length d)), (4, .val (.bool false)), (10, .val (.bool false))]) (h1 := fun _ => []) (p1 := fun _ => [((↑l.length : Int) != (↑l.length : Int)) = false]) (W1 := []) (by kernel_rfl) (fun _ => by kernel_rfl) (fun _ => ⟨by simp, trivial⟩) (fun _ => ?_)
  refine J_cond_f (by kernel_rfl) (by kernel_rfl) ?_
  refine J_skip ?_
  refine J_seq ?_
  refine J_seq ?_
  refine J_reg mixed [.rd 0 [] 0 0] [] [0, 1, 4, 5] (E1 := fun _ => [(0, .val (.slice a l.length c)), (1, .val (.slice b l.length d)), (4, .val (.bool false)), (5, .val (.int .i64 0))]) (h1 := fun _ => []) (p1 := fun _ => []) (W1 := []) (by kernel_rfl) (fun _ => by kernel_rfl) (fun _ => trivial) (fun _ => ?_)
  refine J_block ?_
  refine J_loopx (fun i : Int => [(0, .val (.slice a l.length c)), (1, .val (.slice b l.length d)), (4, .val (.bool false)), (5, .val (.int .i64 i))]) (fun i : Int => []) (fun i : Int => []) (fun i : Int => [(.slice a l.length c, (D.sl 3 (List.map eDot l))), (.slice b l.length d, (D.sl 3 (List.map eDot l)))]) (fun i : Int => (l.length - i).toNat) (fun i : Int => (0 ≤ i ∧ i ≤ l.length)) 0 [0, 1, 4, 5] [] [] [0, 1] ?_ (by kernel_rfl) rfl rfl rfl ?_
  · exact ⟨by omega, by omega⟩
  rintro i ⟨hi0, hi⟩
  refine J_seq ?_
  refine J_seq ?_
  refine J_reg mixed [.rd 0 [] 0 0, .rd 1 [] 0 0, .rd 2 [] 0 0, .rd 3 [] 0 0] [] [0, 1, 4, 5, 14] (E1 := fun _ => [(0, .val (.slice a l.length c)), (1, .val (.slice b l.length d)), (4, .val (.bool false)), (5, .val (.int .i64 i)), (14, .val (.bool (decide (i < (↑l.length : Int)))))]) (h1 := fun _ => []) (p1 := fun _ => []) (W1 := []) (by kernel_rfl) (fun _ => by kernel_rfl) (fun _ => trivial) (fun _ => ?_)
  refine J_cond (t := decide (i < (↑l.length : Int))) (by kernel_rfl) (by kernel_rfl) (fun hlt => ?_) (fun hlt => ?_)
  · have hlt2 : i < l.length := by simpa using hlt
    obtain ⟨x, hx⟩ : ∃ x, l[i.toNat]? = some x := ⟨_, List.getElem?_eq_getElem (by omega)⟩
    refine J_read0 0 rfl i.toNat (map_at hx) (by kernel_rfl) (fun b1 off1 cs1 ty1 fz1 ha1 hrd1 => ?_)
    cases ha1
    have hrd1_0 := rd0 (hrd1 0 _ rfl)
    have hrd1_1 := hrd1 1 _ rfl
    have hrd1_2 := hrd1 2 _ rfl
    refine J_read0 1 rfl i.toNat (map_at hx) (by kernel_rfl) (fun b2 off2 cs2 ty2 fz2 ha2 hrd2 => ?_)
    cases ha2
    have hrd2_0 := rd0 (hrd2 0 _ rfl)
    have hrd2_1 := hrd2 1 _ rfl
    have hrd2_2 := hrd2 2 _ rfl
    try simp only [List.cons_append, List.nil_append, List.append_nil]
    refine J_skip ?_
    refine J_seq ?_
    refine J_block ?_
    refine J_seq ?_
    refine J_reg mixed [.rd 0 [] 0 0, .rd 1 [] 0 0, .rd 2 [] 0 2, .rd 3 [.r 0 (some (.int .i64 x.place)), .r 0 (some (.int .i64 x.time)), .r 0 (some (.int .i64 x.no))] 0 0, .rd 4 [] 0 0, .rd 5 [] 0 0, .rd 6 [] 0 2, .rd 7 [.r 1 (some (.int .i64 x.place)), .r 1 (some (.int .i64 x.time)), .r 1 (some (.int .i64 x.no))] 0 0, .rd 8 [.r 0 (some (.bool (!decide (x.place = x.place ∧ x.time = x.time ∧ x.no = x.no))))] 0 10] [] [0, 1, 4, 5, 25] (E1 := fun _ => [(0, .val (.slice (some (⟨b1, off1, none⟩)) l.length c)), (1, .val (.slice (some (⟨b2, off2, none⟩)) l.length d)), (4, .val (.bool false)), (5, .val (.int .i64 i)), (25, .val (.bool (!decide (x.place = x.place ∧ x.time = x.time ∧ x.no = x.no))))]) (h1 := fun _ => []) (p1 := fun _ => [(0 : Int) ≤ i, i < (↑l.length : Int), cs1[off1 + i.toNat * (3 : Nat)]? = some (Value.int IntKind.i64 x.place), cs1[off1 + i.toNat * (3 : Nat) + (1 : Nat)]? = some (Value.int IntKind.i64 x.time), cs1[off1 + i.toNat * (3 : Nat) + (2 : Nat)]? = some (Value.int IntKind.i64 x.no), (0 : Int) ≤ i, i < (↑l.length : Int), cs2[off2 + i.toNat * (3 : Nat)]? = some (Value.int IntKind.i64 x.place), cs2[off2 + i.toNat * (3 : Nat) + (1 : Nat)]? = some (Value.int IntKind.i64 x.time), cs2[off2 + i.toNat * (3 : Nat) + (2 : Nat)]? = some (Value.int IntKind.i64 x.no), eqRun Tryz.prog .neq 65 (Operand.tmp 20) (Operand.tmp 24) (.agg #[.int .i64 x.place, .int .i64 x.time, .int .i64 x.no]) (.agg #[.int .i64 x.place, .int .i64 x.time, .int .i64 x.no]) (.bool (!decide (x.place = x.place ∧ x.time = x.time ∧ x.no = x.no)))]) (W1 := []) (by kernel_rfl) (fun _ => by kernel_rfl) (fun _ => ⟨hi0, hlt2, hrd1_0, hrd1_1, hrd1_2, hi0, hlt2, hrd2_0, hrd2_1, hrd2_2, eqRun_neq_65, trivial⟩) (fun _ => ?_)
    refine J_condF (!decide (x.place = x.place ∧ x.time = x.time ∧ x.no = x.no)) (by kernel_rfl) (by kernel_rfl) (by simp) ?_
    refine J_skip ?_
    refine J_eb ?_
    refine J_reg mixed [.rd 0 [] 0 0, .rd 1 [] 0 1, .rd 2 [] 0 0] [] [0, 1, 4, 5] (E1 := fun _ => [(0, .val (.slice (some (⟨b1, off1, none⟩)) l.length c)), (1, .val (.slice (some (⟨b2, off2, none⟩)) l.length d)), (4, .val (.bool false)), (5, .val (.int .i64 (i + 1)))]) (h1 := fun _ => []) (p1 := fun _ => [IntKind.i64.wrap (i + (1 : Int)) = i + (1 : Int)]) (W1 := []) (by kernel_rfl) (fun _ => by kernel_rfl) (fun _ => ⟨wrap_i64 (by omega) (by omega), trivial⟩) (fun _ => ?_)
    refine J_backx (i + 1) [0, 1, 4, 5] [] [] [0, 1] ?_ ?_ (by kernel_rfl) rfl rfl rfl
    · exact ⟨by omega, by omega⟩
    · omega
  · refine J_exit rfl ?_
    refine J_seq ?_
    refine J_reg mixed [.rd 0 [] 0 0] [] [4] (E1 := fun _ => [(4, .val (.bool true))]) (h1 := fun _ => []) (p1 := fun _ => []) (W1 := []) (by kernel_rfl) (fun _ => by kernel_rfl) (fun _ => trivial) (fun _ => ?_)
    refine J_return [[]] (.bool true) (by kernel_rfl) (fun a w s => ?_)
    exact s.ret (by simp) [] [] rfl rfl

def heavyOp (o : OpT) : Bool := decide (60 < (o.key.size : Int)) || decide (200 < (o.text.size : Int)) || decide (70 < (o.dots.length : Int))
def heavyC (c : ComT) : Int := if 20 < c.when.length ∨ 20 < c.ops.length then 1 else if c.ops.any heavyOp then 1 else 0
theorem heavyCommit {w0 : World} {S : Nat → Prop} {a1 a2 : Option Addr} {n1 c1 n2 c2 : Nat} {c : ComT} (h1 : Rep w0 S (.slice a1 n1 c1) (dInts c.when)) (h2 : Rep w0 S (.slice a2 n2 c2) (.sl 7 (c.ops.map eOp))) :
    Calls Tryz.prog 12 #[.agg #[.slice a1 n1 c1, .int .i64 c.place, .slice a2 n2 c2]] w0 fun e w' => Ret [] w0 S w' e (.int .i64 (heavyC c)) [] [] := by
  obtain rfl := rep_ints_len h1
  have e2 := h2.slen
  rw [List.length_map] at e2
  subst e2
  refine ep12 (args := [.agg #[.slice a1 c.when.length c1, .int .i64 c.place, .slice a2 c.ops.length c2]]) (G := [(_, dInts c.when), (_, .sl 7 (c.ops.map eOp))]) (by kernel_rfl) (.cons h1 (.cons h2 (.nil _ _))) ?_
  refine J_seq ?_
  refine J_reg mixed [.wr 0 [] 0, .rd 1 [] 0 0] [] [1, 2] (E1 := fun nu1 => [(1, .val (.pointer (some (⟨nu1 0, 0, none⟩)))), (2, .val (.int .i64 0))]) (h1 := fun nu1 => [(nu1 0, .cells #[.slice a1 c.when.length c1, .int .i64 c.place, .slice a2 c.ops.length c2] 28 (0, 0))]) (p1 := fun nu1 => []) (W1 := []) (by kernel_rfl) (fun _ => by kernel_rfl) (fun _ => trivial) (fun nu1 => ?_)
  refine J_seq ?_
  refine J_seq ?_
  refine J_reg mixed [.rd 0 [] 0 0, .rd 1 [.o 0 none] 0 0, .rd 2 [] 0 0, .rd 3 [] 0 0, .rd 4 [] 0 0, .rd 5 [] 2 0, .rd 6 [.o 0 none] 2 0, .rd 7 [] 2 0, .rd 8 [] 2 0, .rd 9 [] 0 3] [] [1, 2, 13] (E1 := fun _ => [(1, .val (.pointer (some (⟨nu1 0, 0, none⟩)))), (2, .val (.int .i64 0)), (13, .val (.bool (decide ((↑c.when.length : Int) > 20) || decide ((↑c.ops.length : Int) > 20))))]) (h1 := fun _ => [(nu1 0, .cells #[.slice a1 c.when.length c1, .int .i64 c.place, .slice a2 c.ops.length c2] 28 (0, 0))]) (p1 := fun _ => []) (W1 := []) (by kernel_rfl) (fun _ => by kernel_rfl) (fun _ => trivial) (fun _ => ?_)
  refine J_cond (t := decide ((↑c.when.length : Int) > 20) || decide ((↑c.ops.length : Int) > 20)) (by kernel_rfl) (by kernel_rfl) (fun hbig => ?_) (fun hbig => ?_)
  · refine J_seq ?_
    refine J_reg mixed [.rd 0 [] 0 0] [] [1, 2] (E1 := fun _ => [(1, .val (.pointer (some (⟨nu1 0, 0, none⟩)))), (2, .val (.int .i64 1))]) (h1 := fun _ => [(nu1 0, .cells #[.slice a1 c.when.length c1, .int .i64 c.place, .slice a2 c.ops.length c2] 28 (0, 0))]) (p1 := fun _ => []) (W1 := []) (by kernel_rfl) (fun _ => by kernel_rfl) (fun _ => trivial) (fun _ => ?_)
    refine J_return [[]] (.int .i64 1) (by kernel_rfl) (fun a w s => ?_)
    have e1 : heavyC c = 1 := by rw [heavyC, if_pos (by simp at hbig; omega)]
    rw [e1]
    exact s.ret (by simp) [] [] rfl rfl
  · have hn : ¬ (20 < c.when.length ∨ 20 < c.ops.length) := by simp at hbig; omega
    refine J_skip ?_
    refine J_seq ?_
    refine J_seq ?_
    refine J_reg mixed [.rd 0 [] 0 0] [] [1, 2, 3] (E1 := fun _ => [(1, .val (.pointer (some (⟨nu1 0, 0, none⟩)))), (2, .val (.int .i64 0)), (3, .val (.int .i64 0))]) (h1 := fun _ => [(nu1 0, .cells #[.slice a1 c.when.length c1, .int .i64 c.place, .slice a2 c.ops.length c2] 28 (0, 0))]) (p1 := fun _ => []) (W1 := []) (by kernel_rfl) (fun _ => by kernel_rfl) (fun _ => trivial) (fun _ => ?_)
    refine J_block ?_
    refine J_loopx (fun i : Int => [(1, .val (.pointer (some (⟨nu1 0, 0, none⟩)))), (2, .val (.int .i64 0)), (3, .val (.int .i64 i))]) (fun i : Int => [(nu1 0, .cells #[.slice a1 c.when.length c1, .int .i64 c.place, .slice a2 c.ops.length c2] 28 (0, 0))]) (fun i : Int => []) (fun i : Int => [(.slice a1 c.when.length c1, (dInts c.when)), (.slice a2 c.ops.length c2, (D.sl 7 (List.map eOp c.ops)))]) (fun i : Int => (c.ops.length - i).toNat) (fun i : Int => (0 ≤ i ∧ i ≤ c.ops.length ∧ ∀ j : Nat, j < i.toNat → ∀ o, c.ops[j]? = some o → heavyOp o = false)) 0 [1, 2, 3] [0] [] [0, 1] ?_ (by kernel_rfl) rfl rfl rfl ?_
    · exact ⟨by omega, by omega, by simp⟩
    rintro i ⟨hi0, hi, hno⟩
    refine J_seq ?_
    refine J_seq ?_
    refine J_reg mixed [.rd 0 [] 0 0, .rd 1 [] 0 0, .rd 2 [.o 0 none] 0 0, .rd 3 [] 0 0, .rd 4 [] 0 0] [] [1, 2, 3, 18] (E1 := fun _ => [(1, .val (.pointer (some (⟨nu1 0, 0, none⟩)))), (2, .val (.int .i64 0)), (3, .val (.int .i64 i)), (18, .val (.bool (decide (i < (↑c.ops.length : Int)))))]) (h1 := fun _ => [(nu1 0, .cells #[.slice a1 c.when.length c1, .int .i64 c.place, .slice a2 c.ops.length c2] 28 (0, 0))]) (p1 := fun _ => []) (W1 := []) (by kernel_rfl) (fun _ => by kernel_rfl) (fun _ => trivial) (fun _ => ?_)
    refine J_cond (t := decide (i < (↑c.ops.length : Int))) (by kernel_rfl) (by kernel_rfl) (fun hlt => ?_) (fun hlt => ?_)
    · have hlt2 : i < c.ops.length := by simpa using hlt
      obtain ⟨o, ho⟩ : ∃ o, c.ops[i.toNat]? = some o := ⟨_, List.getElem?_eq_getElem (by omega)⟩
      refine J_read1 1 rfl i.toNat (map_at ho) (by kernel_rfl) (fun b1 off1 cs1 ty1 fz1 a1_0 c1_0 ha1 hrd1 => ?_)
      cases ha1
      have hrd1_0 := rd0 (hrd1 0 _ rfl)
      have hrd1_1 := hrd1 1 _ rfl
      have hrd1_2 := hrd1 2 _ rfl
      have hrd1_3 := hrd1 3 _ rfl
      have hrd1_4 := hrd1 4 _ rfl
      have hrd1_5 := hrd1 5 _ rfl
      have hrd1_6 := hrd1 6 _ rfl
      try simp only [List.cons_append, List.nil_append, List.append_nil]
      refine J_skip ?_
      refine J_seq ?_
      refine J_block ?_
      refine J_seq ?_
      refine J_reg mixed [.rd 0 [] 0 0, .rd 1 [.o 0 none] 0 0, .rd 2 [] 0 0, .rd 3 [] 0 2, .rd 4 [] 0 0, .rd 5 [.r 0 (some (.string o.key))] 0 0, .rd 6 [] 0 0, .rd 7 [] 0 0, .rd 8 [] 0 0, .rd 9 [] 2 0, .rd 10 [.o 0 none] 2 0, .rd 11 [] 2 0, .rd 12 [] 2 2, .rd 13 [] 2 0, .rd 14 [.r 0 (some (.string o.text))] 2 0, .rd 15 [] 2 0, .rd 16 [] 2 0, .rd 17 [] 0 3, .rd 18 [] 0 0, .rd 19 [] 2 0, .rd 20 [.o 0 none] 2 0, .rd 21 [] 2 0, .rd 22 [] 2 2, .rd 23 [] 2 0, .rd 24 [.r 0 (some (.slice (a1_0, c1_0).fst ((List.map eDot o.dots).length) c1_0))] 2 0, .rd 25 [] 2 0, .rd 26 [] 2 0, .rd 27 [] 0 3] [] [1, 2, 3, 48] (E1 := fun _ => [(1, .val (.pointer (some (⟨nu1 0, 0, none⟩)))), (2, .val (.int .i64 0)), (3, .val (.int .i64 i)), (48, .val (.bool (decide ((↑o.key.size : Int) > 60) || decide ((↑o.text.size : Int) > 200) || decide ((↑(List.map eDot o.dots).length : Int) > 70))))]) (h1 := fun _ => [(nu1 0, .cells #[.slice a1 c.when.length c1, .int .i64 c.place, .slice (some (⟨b1, off1, none⟩)) c.ops.length c2] 28 (0, 0))]) (p1 := fun _ => [(0 : Int) ≤ i, i < (↑c.ops.length : Int), cs1[off1 + i.toNat * (7 : Nat) + (1 : Nat)]? = some (Value.string o.key), (decide ((↑o.key.size : Int) > 60)) = false → (0 : Int) ≤ i, (decide ((↑o.key.size : Int) > 60)) = false → i < (↑c.ops.length : Int), (decide ((↑o.key.size : Int) > 60)) = false → cs1[off1 + i.toNat * (7 : Nat) + (3 : Nat)]? = some (Value.string o.text), (decide ((↑o.key.size : Int) > 60) || decide ((↑o.text.size : Int) > 200)) = false → (0 : Int) ≤ i, (decide ((↑o.key.size : Int) > 60) || decide ((↑o.text.size : Int) > 200)) = false → i < (↑c.ops.length : Int), (decide ((↑o.key.size : Int) > 60) || decide ((↑o.text.size : Int) > 200)) = false → cs1[off1 + i.toNat * (7 : Nat) + (6 : Nat)]? = some (Value.slice (a1_0, c1_0).fst (List.map eDot o.dots).length (a1_0, c1_0).snd)]) (W1 := []) (by kernel_rfl) (fun _ => by kernel_rfl) (fun _ => ⟨hi0, hlt2, hrd1_1, (fun _ => hi0), (fun _ => hlt2), (fun _ => hrd1_3), (fun _ => hi0), (fun _ => hlt2), (fun _ => hrd1_6), trivial⟩) (fun _ => ?_)
      refine J_cond (t := decide ((↑o.key.size : Int) > 60) || decide ((↑o.text.size : Int) > 200) || decide ((↑(List.map eDot o.dots).length : Int) > 70)) (by kernel_rfl) (by kernel_rfl) (fun hb => ?_) (fun hb => ?_)
      · refine J_seq ?_
        refine J_reg mixed [.rd 0 [] 0 0] [] [1, 2, 3] (E1 := fun _ => [(1, .val (.pointer (some (⟨nu1 0, 0, none⟩)))), (2, .val (.int .i64 1)), (3, .val (.int .i64 i))]) (h1 := fun _ => [(nu1 0, .cells #[.slice a1 c.when.length c1, .int .i64 c.place, .slice (some (⟨b1, off1, none⟩)) c.ops.length c2] 28 (0, 0))]) (p1 := fun _ => []) (W1 := []) (by kernel_rfl) (fun _ => by kernel_rfl) (fun _ => trivial) (fun _ => ?_)
        refine J_return [[]] (.int .i64 1) (by kernel_rfl) (fun a w s => ?_)
        have e1 : heavyC c = 1 := by
          rw [heavyC, if_neg hn, if_pos (List.any_eq_true.2 ⟨o, List.mem_of_getElem? ho, ?_⟩)]
          simpa [heavyOp] using hb
        rw [e1]
        exact s.ret (by simp) [] [] rfl rfl
      · refine J_skip ?_
        refine J_eb ?_
        refine J_reg mixed [.rd 0 [] 0 0, .rd 1 [] 0 1, .rd 2 [] 0 0] [] [1, 2, 3] (E1 := fun _ => [(1, .val (.pointer (some (⟨nu1 0, 0, none⟩)))), (2, .val (.int .i64 0)), (3, .val (.int .i64 (i + 1)))]) (h1 := fun _ => [(nu1 0, .cells #[.slice a1 c.when.length c1, .int .i64 c.place, .slice (some (⟨b1, off1, none⟩)) c.ops.length c2] 28 (0, 0))]) (p1 := fun _ => [IntKind.i64.wrap (i + (1 : Int)) = i + (1 : Int)]) (W1 := []) (by kernel_rfl) (fun _ => by kernel_rfl) (fun _ => ⟨wrap_i64 (by omega) (by omega), trivial⟩) (fun _ => ?_)
        refine J_backx (i + 1) [1, 2, 3] [0] [] [0, 1] ?_ ?_ (by kernel_rfl) rfl rfl rfl
        · refine ⟨by omega, by omega, fun j hj o' ho' => ?_⟩
          by_cases hji : j = i.toNat
          · subst hji
            rw [ho] at ho'
            cases ho'
            simpa [heavyOp] using hb
          · exact hno j (by omega) o' ho'
        · omega
    · refine J_exit rfl ?_
      refine J_seq ?_
      refine J_reg mixed [.rd 0 [] 0 0] [] [2] (E1 := fun _ => [(2, .val (.int .i64 0))]) (h1 := fun _ => [(nu1 0, .cells #[.slice a1 c.when.length c1, .int .i64 c.place, .slice a2 c.ops.length c2] 28 (0, 0))]) (p1 := fun _ => []) (W1 := []) (by kernel_rfl) (fun _ => by kernel_rfl) (fun _ => trivial) (fun _ => ?_)
      refine J_return [[]] (.int .i64 0) (by kernel_rfl) (fun a w s => ?_)
      have e1 : heavyC c = 0 := by
        rw [heavyC, if_neg hn, if_neg]
        rw [Bool.not_eq_true, List.any_eq_false]
        intro o ho
        obtain ⟨j, hj⟩ := List.getElem?_of_mem ho
        have hjl := (List.getElem?_eq_some_iff.1 hj).1
        simp [hno j (by simp at hlt; omega) o hj]
      rw [e1]
      exact s.ret (by simp) [] [] rfl rfl

end Go.Proofs.YtpjkiomccpjboaaGreatDoor
