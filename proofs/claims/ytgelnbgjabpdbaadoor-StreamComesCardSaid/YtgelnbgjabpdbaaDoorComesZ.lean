/- Streams: StreamComes without a beat. -/
import Derived.Test.YtgelnbgjabpdbaaDoorComesU
namespace Go.Proofs.YtgelnbgjabpdbaaDoor
open Go Go.Sx

theorem comesZero {w0 : World} {F : List (List Nat × World)} {tm : Int} {ad : Option Addr} {zs : List Int} {c b p q : Nat}
    (hF : ([], w0) ∈ F) (hz : IntsAt w0 ad zs) (hm : zs.length ≤ 100) :
    J Tryd.prog Tryd.f3 (retR Tryd.prog Tryd.f3 (comesP w0)) Tryd.f3.ntmps [.c (.rg 16 false), .c (.seq (.seq (.rg 17 false) (.block 2 (.loop (.seq (.seq (.rg 18 false) (.cond (.tmp 81) .skip (.exit 2))) (.seq (.block 3 (.seq (.rg 20 false) (.seq (.seq (.rg 21 false) (.cond (.tmp 91) (.rg 22 false) .skip)) (.seq (.seq (.rg 23 false) (.cond (.tmp 102) (.exit 3) .skip)) (.seq (.rg 24 false) (.seq (.seq (.rg 25 false) (.cond (.tmp 113) (.seq (.rg 26 false) .ret) .skip)) (.seq (.rg 27 false) (.block 4 (.loop (.seq (.seq (.rg 28 false) (.cond (.tmp 117) .skip (.exit 4))) (.seq (.block 5 (.seq (.seq (.rg 30 false) (.cond (.tmp 136) (.seq (.rg 31 false) .ret) .skip)) (.rg 32 false))) (.rg 29 false)))))))))))) (.rg 19 false)))))) (.seq (.seq (.rg 33 false) (.cond (.tmp 143) (.seq (.rg 34 false) .ret) .skip)) (.seq (.rg 35 false) .ret)))]
      [(0, .val (.int .i64 0)), (1, .val (.slice ad zs.length c)), (6, .val (.pointer (some ⟨b, 0, none⟩))), (8, .val (.pointer (some ⟨p, 0, none⟩)))]
      [(b, .cells (sc 2 3 1 0 tm (.slice none 0 0)) 86 (0, 0)), (p, .cells (sc 2 3 1 0 0 (.map (some q))) 89 (0, 0)), (q, .map #[] 0)] [] F := by
  refine J_reg mixed [.rd 0 [] 0 0] [] [0, 1, 6, 8, 14] (E1 := fun _ => [(0, .val (.int .i64 0)), (1, .val (.slice ad zs.length c)), (6, .val (.pointer (some (⟨b, 0, none⟩)))), (8, .val (.pointer (some (⟨p, 0, none⟩)))), (14, .val (.int .i64 1))]) (h1 := fun _ => [(b, .cells #[.int .i64 2, .int .i64 3, .int .i64 1, .int .i64 0, .int .i64 tm, .slice none 0 0] 86 (0, 0)), (p, .cells #[.int .i64 2, .int .i64 3, .int .i64 1, .int .i64 0, .int .i64 0, .map (some q)] 89 (0, 0)), (q, Obj.map #[] 0)]) (p1 := fun _ => []) (W1 := []) (by kernel_rfl) (fun _ => by kernel_rfl) (fun _ => trivial) (fun _ => ?_)
  refine J_seq ?_
  refine J_seq ?_
  refine J_reg mixed [.rd 0 [] 0 0] [] [0, 1, 6, 8, 14, 15] (E1 := fun _ => [(0, .val (.int .i64 0)), (1, .val (.slice ad zs.length c)), (6, .val (.pointer (some (⟨b, 0, none⟩)))), (8, .val (.pointer (some (⟨p, 0, none⟩)))), (14, .val (.int .i64 1)), (15, .val (.int .i64 0))]) (h1 := fun _ => [(b, .cells #[.int .i64 2, .int .i64 3, .int .i64 1, .int .i64 0, .int .i64 tm, .slice none 0 0] 86 (0, 0)), (p, .cells #[.int .i64 2, .int .i64 3, .int .i64 1, .int .i64 0, .int .i64 0, .map (some q)] 89 (0, 0)), (q, Obj.map #[] 0)]) (p1 := fun _ => []) (W1 := []) (by kernel_rfl) (fun _ => by kernel_rfl) (fun _ => trivial) (fun _ => ?_)
  refine J_block ?_
  refine J_loopx (fun j : Int => [(0, .val (.int .i64 0)), (1, .val (.slice ad zs.length c)), (6, .val (.pointer (some ⟨b, 0, none⟩))), (8, .val (.pointer (some ⟨p, 0, none⟩))), (14, .val (.int .i64 1)), (15, .val (.int .i64 j))]) (fun _ => [(b, .cells (sc 2 3 1 0 tm (.slice none 0 0)) 86 (0, 0)), (p, .cells (sc 2 3 1 0 0 (.map (some q))) 89 (0, 0)), (q, .map #[] 0)]) (fun j => (zs.length - j).toNat) (fun j _ => 0 ≤ j ∧ j ≤ zs.length) (0 : Int) [0, 1, 6, 8, 14, 15] (fun _ _ _ => ⟨by simp, by omega⟩) (by kernel_rfl) rfl ?_
  rintro j w ⟨hj0, hj⟩
  refine J_seq ?_
  refine J_seq ?_
  refine J_reg mixed [.rd 0 [] 0 0, .rd 1 [] 0 0, .rd 2 [] 0 0, .rd 3 [] 0 0, .rd 4 [] 0 1, .rd 5 [] 0 0] [] [0, 1, 6, 8, 14, 15, 81] (E1 := fun _ => [(0, .val (.int .i64 0)), (1, .val (.slice ad zs.length c)), (6, .val (.pointer (some (⟨b, 0, none⟩)))), (8, .val (.pointer (some (⟨p, 0, none⟩)))), (14, .val (.int .i64 1)), (15, .val (.int .i64 j)), (81, .val (.bool (decide (j < (↑zs.length : Int) + 0))))]) (h1 := fun _ => [(b, .cells #[.int .i64 2, .int .i64 3, .int .i64 1, .int .i64 0, .int .i64 tm, .slice none 0 0] 86 (0, 0)), (p, .cells #[.int .i64 2, .int .i64 3, .int .i64 1, .int .i64 0, .int .i64 0, .map (some q)] 89 (0, 0)), (q, Obj.map #[] 0)]) (p1 := fun _ => [IntKind.i64.wrap ((↑zs.length : Int) + (0 : Int)) = (↑zs.length : Int) + (0 : Int)]) (W1 := []) (by kernel_rfl) (fun _ => by kernel_rfl) (fun _ => ⟨wrap_i64 (by omega) (by omega), trivial⟩) (fun _ => ?_)
  refine J_cond (t := decide (j < (↑zs.length : Int) + 0)) (by kernel_rfl) (by kernel_rfl) (fun hlt => ?_) (fun hlt => ?_)
  · have hlt2 : j < zs.length := by simpa using hlt
    obtain ⟨bo, off, cs, ty, fz, rfl, hcs, hat⟩ := hz (by rintro rfl; simp at hlt2; omega)
    obtain ⟨z, hzz⟩ : ∃ z, zs[j.toNat]? = some z := ⟨_, List.getElem?_eq_getElem (by omega)⟩
    have hc : cs[off + j.toNat * 1]? = some (.int .i64 z) := by rw [Nat.mul_one]; exact hat _ _ hzz
    refine J_open (M := []) (w1 := w0) (by simp [hF]) hcs (by simp) ?_
    refine J_skip ?_
    refine J_seq ?_
    refine J_block ?_
    refine J_seq ?_
    refine J_reg mixed [.rd 0 [] 0 0, .rd 1 [] 0 0, .rd 2 [] 0 0, .rd 3 [] 0 1, .rd 4 [] 0 0] [] [0, 1, 6, 8, 14, 15, 16] (E1 := fun _ => [(0, .val (.int .i64 0)), (1, .val (.slice (some (⟨bo, off, none⟩)) zs.length c)), (6, .val (.pointer (some (⟨b, 0, none⟩)))), (8, .val (.pointer (some (⟨p, 0, none⟩)))), (14, .val (.int .i64 1)), (15, .val (.int .i64 j)), (16, .val (.int .i64 (j - (↑zs.length : Int))))]) (h1 := fun _ => [(b, .cells #[.int .i64 2, .int .i64 3, .int .i64 1, .int .i64 0, .int .i64 tm, .slice none 0 0] 86 (0, 0)), (p, .cells #[.int .i64 2, .int .i64 3, .int .i64 1, .int .i64 0, .int .i64 0, .map (some q)] 89 (0, 0)), (q, Obj.map #[] 0)]) (p1 := fun _ => [IntKind.i64.wrap (j - (↑zs.length : Int)) = j - (↑zs.length : Int)]) (W1 := []) (by kernel_rfl) (fun _ => by kernel_rfl) (fun _ => ⟨wrap_i64 (by omega) (by omega), trivial⟩) (fun _ => ?_)
    refine J_seq ?_
    refine J_seq ?_
    refine J_reg mixed [.rd 0 [] 0 0, .rd 1 [] 0 0, .rd 2 [] 0 0, .rd 3 [] 0 0] [] [0, 1, 6, 8, 14, 15, 16, 91] (E1 := fun _ => [(0, .val (.int .i64 0)), (1, .val (.slice (some (⟨bo, off, none⟩)) zs.length c)), (6, .val (.pointer (some (⟨b, 0, none⟩)))), (8, .val (.pointer (some (⟨p, 0, none⟩)))), (14, .val (.int .i64 1)), (15, .val (.int .i64 j)), (16, .val (.int .i64 (j - (↑zs.length : Int)))), (91, .val (.bool (decide (j < (↑zs.length : Int)))))]) (h1 := fun _ => [(b, .cells #[.int .i64 2, .int .i64 3, .int .i64 1, .int .i64 0, .int .i64 tm, .slice none 0 0] 86 (0, 0)), (p, .cells #[.int .i64 2, .int .i64 3, .int .i64 1, .int .i64 0, .int .i64 0, .map (some q)] 89 (0, 0)), (q, Obj.map #[] 0)]) (p1 := fun _ => []) (W1 := []) (by kernel_rfl) (fun _ => by kernel_rfl) (fun _ => trivial) (fun _ => ?_)
    refine J_condT (decide (j < (↑zs.length : Int))) (by kernel_rfl) (by kernel_rfl) (by simpa using ‹_›) ?_
    refine J_reg mixed [.rd 0 [] 0 0, .rd 1 [] 0 0, .rd 2 [] 0 2, .rd 3 [.r 0 (some (.int .i64 z))] 0 0, .rd 4 [] 0 0] [] [0, 1, 6, 8, 14, 15, 16] (E1 := fun _ => [(0, .val (.int .i64 0)), (1, .val (.slice (some (⟨bo, off, none⟩)) zs.length c)), (6, .val (.pointer (some (⟨b, 0, none⟩)))), (8, .val (.pointer (some (⟨p, 0, none⟩)))), (14, .val (.int .i64 1)), (15, .val (.int .i64 j)), (16, .val (.int .i64 z))]) (h1 := fun _ => [(b, .cells #[.int .i64 2, .int .i64 3, .int .i64 1, .int .i64 0, .int .i64 tm, .slice none 0 0] 86 (0, 0)), (p, .cells #[.int .i64 2, .int .i64 3, .int .i64 1, .int .i64 0, .int .i64 0, .map (some q)] 89 (0, 0)), (q, Obj.map #[] 0)]) (p1 := fun _ => [(0 : Int) ≤ j, j < (↑zs.length : Int), cs[off + j.toNat * (1 : Nat)]? = some (Value.int IntKind.i64 z)]) (W1 := []) (by kernel_rfl) (fun _ => by kernel_rfl) (fun _ => ⟨hj0, hlt2, hc, trivial⟩) (fun _ => ?_)
    refine J_seq ?_
    refine J_seq ?_
    refine J_reg mixed [.rd 0 [] 0 0, .rd 1 [] 0 0, .rd 2 [] 0 0, .rd 3 [] 2 0, .rd 4 [] 2 0, .rd 5 [] 2 0, .rd 6 [] 0 3] [] [0, 1, 6, 8, 14, 15, 16, 102] (E1 := fun _ => [(0, .val (.int .i64 0)), (1, .val (.slice (some (⟨bo, off, none⟩)) zs.length c)), (6, .val (.pointer (some (⟨b, 0, none⟩)))), (8, .val (.pointer (some (⟨p, 0, none⟩)))), (14, .val (.int .i64 1)), (15, .val (.int .i64 j)), (16, .val (.int .i64 z)), (102, .val (.bool (decide (z < 0) || decide (z ≥ 0))))]) (h1 := fun _ => [(b, .cells #[.int .i64 2, .int .i64 3, .int .i64 1, .int .i64 0, .int .i64 tm, .slice none 0 0] 86 (0, 0)), (p, .cells #[.int .i64 2, .int .i64 3, .int .i64 1, .int .i64 0, .int .i64 0, .map (some q)] 89 (0, 0)), (q, Obj.map #[] 0)]) (p1 := fun _ => []) (W1 := []) (by kernel_rfl) (fun _ => by kernel_rfl) (fun _ => trivial) (fun _ => ?_)
    refine J_condT (decide (z < 0) || decide (z ≥ 0)) (by kernel_rfl) (by kernel_rfl) (by simp; omega) ?_
    refine J_exit rfl ?_
    refine J_reg mixed [.rd 0 [] 0 0, .rd 1 [] 0 1, .rd 2 [] 0 0] [] [0, 1, 6, 8, 14, 15, 16] (E1 := fun _ => [(0, .val (.int .i64 0)), (1, .val (.slice (some (⟨bo, off, none⟩)) zs.length c)), (6, .val (.pointer (some (⟨b, 0, none⟩)))), (8, .val (.pointer (some (⟨p, 0, none⟩)))), (14, .val (.int .i64 1)), (15, .val (.int .i64 (j + 1))), (16, .val (.int .i64 z))]) (h1 := fun _ => [(b, .cells #[.int .i64 2, .int .i64 3, .int .i64 1, .int .i64 0, .int .i64 tm, .slice none 0 0] 86 (0, 0)), (p, .cells #[.int .i64 2, .int .i64 3, .int .i64 1, .int .i64 0, .int .i64 0, .map (some q)] 89 (0, 0)), (q, Obj.map #[] 0)]) (p1 := fun _ => [IntKind.i64.wrap (j + (1 : Int)) = j + (1 : Int)]) (W1 := []) (by kernel_rfl) (fun _ => by kernel_rfl) (fun _ => ⟨wrap_i64 (by omega) (by omega), trivial⟩) (fun _ => ?_)
    refine J_backx (j + 1) [0, 1, 6, 8, 14, 15] (fun _ _ _ => by omega) (by omega) (by kernel_rfl) (by simp) (by simp) (by simp) (by simp +contextual)
  · refine J_exit rfl ?_
    refine J_seq ?_
    refine J_seq ?_
    refine JR_begin mixed [(0, true), (1, true), (2, false), (3, false), (4, true)] [] (by kernel_rfl) (by kernel_rfl) ?_
    refine JR_run (id := 33) (rest := [(2, false), (3, false), (4, true)]) [.rd 0 [] 0 0, .rd 1 [] 0 0] [0, 6, 8, 14, 139, 140] (E1 := fun _ => [(0, .val (.int .i64 0)), (6, .val (.pointer (some (⟨b, 0, none⟩)))), (8, .val (.pointer (some (⟨p, 0, none⟩)))), (14, .val (.int .i64 1)), (139, .val (.pointer (some (⟨b, 0, none⟩)))), (140, .val (.pointer (some (⟨p, 0, none⟩))))]) (h1 := fun _ => [(b, .cells #[.int .i64 2, .int .i64 3, .int .i64 1, .int .i64 0, .int .i64 tm, .slice none 0 0] 86 (0, 0)), (p, .cells #[.int .i64 2, .int .i64 3, .int .i64 1, .int .i64 0, .int .i64 0, .map (some q)] 89 (0, 0)), (q, Obj.map #[] 0)]) (p1 := fun _ => []) (W1 := []) (fun _ => by kernel_rfl) (fun _ => trivial) (fun _ => ?_)
    refine JR_call [] [] 13 #[.pointer (some (⟨p, 0, none⟩))] (some 141) (by kernel_rfl) (by kernel_rfl) (fun a w s => ?_)
    refine (seq13 (s.at 1 rfl)).mono ?_
    rintro e w2 ⟨rfl, hf2⟩
    refine ⟨_, _, rfl, (did_pure s hf2).1, (did_pure s hf2).2, ?_⟩
    refine JR_call [] [0] 12 #[.pointer (some (⟨b, 0, none⟩)), .int .i64 0] (some 142) (by kernel_rfl) (by kernel_rfl) (fun a w s => ?_)
    refine (acked12nil (q := 0) (k := 0) (by decide) (by decide) (s.at 0 rfl)).mono ?_
    rintro e w3 ⟨rfl, hf3, hb3⟩
    have D := did_turn1 s hf3 0 rfl hb3 [] (by simp) (by simp)
    refine ⟨_, _, rfl, D.1, D.2, ?_⟩
    refine JR_run (id := 33) (rest := []) [.rd 4 [] 0 0] [0, 6, 8, 14, 143] (E1 := fun _ => [(0, .val (.int .i64 0)), (6, .val (.pointer (some (⟨b, 0, none⟩)))), (8, .val (.pointer (some (⟨p, 0, none⟩)))), (14, .val (.int .i64 1)), (143, .val (.bool false))]) (h1 := fun _ => [(b, .cells #[.int .i64 2, .int .i64 3, .int .i64 1, .int .i64 0, .int .i64 tm, .slice none 0 0] 86 (0, 0)), (p, .cells #[.int .i64 2, .int .i64 3, .int .i64 1, .int .i64 0, .int .i64 0, .map (some q)] 89 (0, 0)), (q, Obj.map #[] 0)]) (p1 := fun _ => []) (W1 := []) (fun _ => by kernel_rfl) (fun _ => trivial) (fun _ => ?_)
    refine JR_end ?_
    refine J_cond_f (by kernel_rfl) (by kernel_rfl) ?_
    refine J_skip ?_
    refine J_seq ?_
    refine JR_begin mixed [(0, true), (1, true), (2, true), (3, true), (4, true), (5, true), (6, false), (7, true), (8, true), (9, true), (10, true), (11, true), (12, false), (13, true), (14, true), (15, true), (16, true)] [] (by kernel_rfl) (by kernel_rfl) ?_
    refine JR_run (id := 35) (rest := [(6, false), (7, true), (8, true), (9, true), (10, true), (11, true), (12, false), (13, true), (14, true), (15, true), (16, true)]) [.rd 0 [] 0 0, .rd 1 [] 0 0, .rd 2 [] 0 0, .rd 3 [] 0 0, .rd 4 [] 0 0, .rd 5 [] 0 0] [0, 6, 148, 149] (E1 := fun _ => [(0, .val (.int .i64 0)), (6, .val (.pointer (some (⟨b, 0, none⟩)))), (148, .val (.bool true)), (149, .val (.pointer (some (⟨p, 0, none⟩))))]) (h1 := fun _ => [(b, .cells #[.int .i64 2, .int .i64 3, .int .i64 1, .int .i64 0, .int .i64 tm, .slice none 0 0] 86 (0, 0)), (p, .cells #[.int .i64 2, .int .i64 3, .int .i64 1, .int .i64 0, .int .i64 0, .map (some q)] 89 (0, 0)), (q, Obj.map #[] 0)]) (p1 := fun _ => []) (W1 := []) (fun _ => by kernel_rfl) (fun _ => trivial) (fun _ => ?_)
    refine JR_call [] [] 13 #[.pointer (some (⟨p, 0, none⟩))] (some 150) (by kernel_rfl) (by kernel_rfl) (fun a w s => ?_)
    refine (seq13 (s.at 1 rfl)).mono ?_
    rintro e w4 ⟨rfl, hf4⟩
    refine ⟨_, _, rfl, (did_pure s hf4).1, (did_pure s hf4).2, ?_⟩
    refine JR_run (id := 35) (rest := [(12, false), (13, true), (14, true), (15, true), (16, true)]) [.rd 7 [] 0 0, .rd 8 [] 0 0, .rd 9 [] 0 0, .rd 10 [] 0 0, .rd 11 [] 0 0] [154, 155] (E1 := fun _ => [(154, .val (.bool true)), (155, .val (.pointer (some (⟨b, 0, none⟩))))]) (h1 := fun _ => [(b, .cells #[.int .i64 2, .int .i64 3, .int .i64 1, .int .i64 0, .int .i64 tm, .slice none 0 0] 86 (0, 0)), (p, .cells #[.int .i64 2, .int .i64 3, .int .i64 1, .int .i64 0, .int .i64 0, .map (some q)] 89 (0, 0)), (q, Obj.map #[] 0)]) (p1 := fun _ => []) (W1 := []) (fun _ => by kernel_rfl) (fun _ => trivial) (fun _ => ?_)
    refine JR_call [] [] 14 #[.pointer (some (⟨b, 0, none⟩))] (some 156) (by kernel_rfl) (by kernel_rfl) (fun a w s => ?_)
    refine (again14nil (s.at 0 rfl)).mono ?_
    rintro e w5 ⟨rfl, hf5⟩
    refine ⟨_, _, rfl, (did_pure s hf5).1, (did_pure s hf5).2, ?_⟩
    refine JR_run (id := 35) (rest := []) [.rd 13 [] 0 0, .rd 14 [] 0 0, .rd 15 [] 0 0, .rd 16 [] 0 0] [4] (E1 := fun _ => [(4, .val (.bool true))]) (h1 := fun _ => [(b, .cells #[.int .i64 2, .int .i64 3, .int .i64 1, .int .i64 0, .int .i64 tm, .slice none 0 0] 86 (0, 0)), (p, .cells #[.int .i64 2, .int .i64 3, .int .i64 1, .int .i64 0, .int .i64 0, .map (some q)] 89 (0, 0)), (q, Obj.map #[] 0)]) (p1 := fun _ => []) (W1 := []) (fun _ => by kernel_rfl) (fun _ => trivial) (fun _ => ?_)
    refine JR_end ?_
    refine J_return [[]] (.bool true) (by kernel_rfl) (fun a w s => ?_)
    exact ⟨rfl, s.fr ([], w0) (by simp [hF])⟩
end Go.Proofs.YtgelnbgjabpdbaaDoor
