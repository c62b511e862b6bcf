/- Streams: StreamLossy, walked. -/
import Derived.Test.YtgelnbgjabpdbaaDoorLossyO
namespace Go.Proofs.YtgelnbgjabpdbaaDoor
open Go Go.Sx

structure L1 where
  k : Nat
  tm : Int
  r : Option (Nat × Nat × Array Value)
def L1.h (b p q : Nat) (x : L1) : List (Nat × Obj) := match x with
  | ⟨k, tm, none⟩ => [(b, .cells (sc 0 1 0 (k : Int) tm (.slice none 0 0)) 86 (0, 0)), (p, .cells (sc 0 1 0 0 0 (.map (some q))) 89 (0, 0)), (q, .map #[] 0)]
  | ⟨k, tm, some (g1, cap1, cur1)⟩ => [(b, .cells (sc 0 1 0 (k : Int) tm (.slice (some ⟨g1, 0, none⟩) k cap1)) 86 (0, 0)), (p, .cells (sc 0 1 0 0 0 (.map (some q))) 89 (0, 0)), (q, .map #[] 0), (g1, .cells cur1 37 (0, 0))]
def L1.ok (n : Int) (x : L1) (_ : World) : Prop := (x.k : Int) ≤ n ∧ x.tm ≤ x.k ∧ match x.r with
  | none => x.k = 0
  | some (_, cap1, cur1) => 0 < x.k ∧ Row cur1 cap1 x.k 9 (bcs 0 1 0 (upto 0 x.k))

set_option maxHeartbeats 4000000 in
theorem lossyLoop {w0 : World} {F : List (List Nat × World)} {n : Int} {la aa : Option Addr} {ls ks : List Bool} {lc ac b p q : Nat}
    (hF : ([], w0) ∈ F) (hls : BoolsAt w0 la ls) (hln : ls.length ≤ 300) (hks : BoolsAt w0 aa ks) (han : ks.length ≤ 20) (hn0 : 0 ≤ n) (hn : n ≤ 30) :
    J Tryd.prog Tryd.f4 (retR Tryd.prog Tryd.f4 (comesP w0)) Tryd.f4.ntmps [.c (.rg 8 false), .c (.block 0 (.loop (.seq (.seq (.rg 9 false) (.cond (.tmp 68) .skip (.exit 0))) (.seq (.block 1 (.seq (.rg 11 false) (.seq (.rg 12 false) (.cond (.tmp 78) (.seq (.rg 13 false) .ret) .skip)))) (.rg 10 false))))), .c (.seq (.rg 14 false) (.seq (.rg 15 false) (.seq (.seq (.rg 16 false) (.block 2 (.loop (.seq (.seq (.rg 17 false) (.cond (.tmp 83) .skip (.exit 2))) (.seq (.block 3 (.seq (.rg 19 false) (.seq (.seq (.rg 20 false) (.block 4 (.loop (.seq (.seq (.rg 21 false) (.cond (.tmp 91) .skip (.exit 4))) (.seq (.block 5 (.seq (.rg 23 false) (.seq (.seq (.rg 24 false) (.cond (.tmp 112) (.exit 5) .skip)) (.seq (.rg 25 false) (.seq (.seq (.rg 26 false) (.cond (.tmp 123) (.seq (.rg 27 false) .ret) .skip)) (.rg 28 false)))))) (.rg 22 false)))))) (.seq (.seq (.rg 29 false) (.cond (.tmp 136) (.seq (.rg 30 false) .ret) .skip)) (.seq (.rg 31 false) (.cond (.tmp 146) (.seq (.rg 32 false) (.cond (.tmp 151) (.seq (.rg 33 false) .ret) .skip)) .skip)))))) (.rg 18 false)))))) (.seq (.rg 34 false) .ret))))]
      [(0, .val (.int .i64 n)), (1, .val (.slice la ls.length lc)), (2, .val (.slice aa ks.length ac)), (8, .val (.pointer (some ⟨b, 0, none⟩))), (10, .val (.pointer (some ⟨p, 0, none⟩)))]
      [(b, .cells (sc 0 1 0 0 0 (.slice none 0 0)) 86 (0, 0)), (p, .cells (sc 0 1 0 0 0 (.map (some q))) 89 (0, 0)), (q, .map #[] 0)] [] F := by
  refine J_reg mixed [.rd 0 [] 0 0] [] [0, 1, 2, 8, 10, 12] (E1 := fun _ => [(0, .val (.int .i64 n)), (1, .val (.slice la ls.length lc)), (2, .val (.slice aa ks.length ac)), (8, .val (.pointer (some (⟨b, 0, none⟩)))), (10, .val (.pointer (some (⟨p, 0, none⟩)))), (12, .val (.int .i64 0))]) (h1 := fun _ => [(b, .cells #[.int .i64 0, .int .i64 1, .int .i64 0, .int .i64 0, .int .i64 0, .slice none 0 0] 86 (0, 0)), (p, .cells #[.int .i64 0, .int .i64 1, .int .i64 0, .int .i64 0, .int .i64 0, .map (some q)] 89 (0, 0)), (q, Obj.map #[] 0)]) (p1 := fun _ => []) (W1 := []) (by kernel_rfl) (fun _ => by kernel_rfl) (fun _ => trivial) (fun _ => ?_)
  refine J_block ?_
  refine J_loopx (fun x : L1 => [(0, .val (.int .i64 n)), (1, .val (.slice la ls.length lc)), (2, .val (.slice aa ks.length ac)), (8, .val (.pointer (some ⟨b, 0, none⟩))), (10, .val (.pointer (some ⟨p, 0, none⟩))), (12, .val (.int .i64 (x.k : Int)))]) (L1.h b p q) (fun x => (n - x.k).toNat) (L1.ok n) ⟨0, 0, none⟩ [0, 1, 2, 8, 10, 12] (fun _ _ _ => ⟨by simp only; omega, by simp, rfl⟩) (by kernel_rfl) rfl ?_
  rintro ⟨k, tm, _ | ⟨g1, cap1, cur1⟩⟩ w ⟨hk, htm, hx⟩
  · simp only at hk htm hx
    subst hx
    refine J_seq ?_
    refine J_seq ?_
    refine J_reg mixed [.rd 0 [] 0 0, .rd 1 [] 0 0, .rd 2 [] 0 0] [] [0, 1, 2, 8, 10, 12, 68] (E1 := fun _ => [(0, .val (.int .i64 n)), (1, .val (.slice la ls.length lc)), (2, .val (.slice aa ks.length ac)), (8, .val (.pointer (some (⟨b, 0, none⟩)))), (10, .val (.pointer (some (⟨p, 0, none⟩)))), (12, .val (.int .i64 (↑0 : Int))), (68, .val (.bool (decide (0 < n))))]) (h1 := fun _ => [(b, .cells #[.int .i64 0, .int .i64 1, .int .i64 0, .int .i64 0, .int .i64 tm, .slice none 0 0] 86 (0, 0)), (p, .cells #[.int .i64 0, .int .i64 1, .int .i64 0, .int .i64 0, .int .i64 0, .map (some q)] 89 (0, 0)), (q, Obj.map #[] 0)]) (p1 := fun _ => []) (W1 := []) (by kernel_rfl) (fun _ => by kernel_rfl) (fun _ => trivial) (fun _ => ?_)
    refine J_cond (t := decide (0 < n)) (by kernel_rfl) (by kernel_rfl) (fun hlt => ?_) (fun hlt => ?_)
    · have hn1 : 0 < n := by simpa using hlt
      refine J_skip ?_
      refine J_seq ?_
      refine J_block ?_
      refine J_seq ?_
      refine JR_begin mixed [(0, true), (1, true), (2, false), (3, true), (4, true), (5, true), (6, false), (7, false), (8, true)] [] (by kernel_rfl) (by kernel_rfl) ?_
      refine JR_run (id := 11) (rest := [(2, false), (3, true), (4, true), (5, true), (6, false), (7, false), (8, true)]) [.rd 0 [] 0 0, .rd 1 [] 0 0] [0, 1, 2, 8, 10, 12, 72, 73] (E1 := fun _ => [(0, .val (.int .i64 n)), (1, .val (.slice la ls.length lc)), (2, .val (.slice aa ks.length ac)), (8, .val (.pointer (some (⟨b, 0, none⟩)))), (10, .val (.pointer (some (⟨p, 0, none⟩)))), (12, .val (.int .i64 0)), (72, .val (.pointer (some (⟨b, 0, none⟩)))), (73, .val (.int .i64 0))]) (h1 := fun _ => [(b, .cells #[.int .i64 0, .int .i64 1, .int .i64 0, .int .i64 0, .int .i64 tm, .slice none 0 0] 86 (0, 0)), (p, .cells #[.int .i64 0, .int .i64 1, .int .i64 0, .int .i64 0, .int .i64 0, .map (some q)] 89 (0, 0)), (q, Obj.map #[] 0)]) (p1 := fun _ => []) (W1 := []) (fun _ => by kernel_rfl) (fun _ => trivial) (fun _ => ?_)
      refine JR_call [] [0] 10 #[.pointer (some (⟨b, 0, none⟩)), .int .i64 0] (some 74) (by kernel_rfl) (by kernel_rfl) (fun a w s => ?_)
      refine (beat10nil (q := 1) (t := 0) rfl (by decide) (by decide) (by decide) (by decide) htm (s.at 0 rfl)).mono ?_
      rintro e w3 ⟨rfl, hf3, g, cap, cur, hg0, hb3, hg3, hrow⟩
      have D := did_turn1 s hf3 0 rfl hb3 [(g, .cells cur 37 (0, 0))] (by simp [hg0, hg3]) (by simp)
      refine ⟨_, _, rfl, D.1, D.2, ?_⟩
      refine JR_run (id := 11) (rest := []) [.rd 3 [] 0 0, .rd 4 [] 0 0, .rd 5 [] 0 0, .wr 6 [] 0, .wr 7 [.o 4 none, .o 4 none, .o 4 none, .o 4 none, .o 4 none, .o 4 none, .o 4 none, .o 4 none, .o 4 none] 0, .rd 8 [] 0 0] [0, 1, 2, 8, 10, 12, 14] (E1 := fun nu1 => [(0, .val (.int .i64 n)), (1, .val (.slice la ls.length lc)), (2, .val (.slice aa ks.length ac)), (8, .val (.pointer (some (⟨b, 0, none⟩)))), (10, .val (.pointer (some (⟨p, 0, none⟩)))), (12, .val (.int .i64 0)), (14, .val (.nilIface))]) (h1 := fun nu1 => [(b, .cells #[.int .i64 0, .int .i64 1, .int .i64 0, .int .i64 1, .int .i64 0, .slice (some (⟨g, 0, none⟩)) 1 cap] 86 (0, 0)), (p, .cells #[.int .i64 0, .int .i64 1, .int .i64 0, .int .i64 0, .int .i64 0, .map (some q)] 89 (0, 0)), (q, Obj.map #[] 0), (g, .cells cur 37 (0, 0)), (nu1 0, .cells #[.int .i64 0, .int .i64 1, .int .i64 0, .int .i64 1, .int .i64 0, .bool true, .slice none 0 0, .int .i64 0, .slice none 0 0] 37 (0, 0))]) (p1 := fun nu1 => []) (W1 := []) (fun _ => by kernel_rfl) (fun _ => trivial) (fun nu1 => ?_)
      refine JR_end ?_
      refine J_seq ?_
      refine J_reg mixed [.rd 0 [] 0 0, .rd 1 [] 0 0] [] [0, 1, 2, 8, 10, 12, 14, 78] (E1 := fun _ => [(0, .val (.int .i64 n)), (1, .val (.slice la ls.length lc)), (2, .val (.slice aa ks.length ac)), (8, .val (.pointer (some (⟨b, 0, none⟩)))), (10, .val (.pointer (some (⟨p, 0, none⟩)))), (12, .val (.int .i64 0)), (14, .val (.nilIface)), (78, .val (.bool false))]) (h1 := fun _ => [(b, .cells #[.int .i64 0, .int .i64 1, .int .i64 0, .int .i64 1, .int .i64 0, .slice (some (⟨g, 0, none⟩)) 1 cap] 86 (0, 0)), (p, .cells #[.int .i64 0, .int .i64 1, .int .i64 0, .int .i64 0, .int .i64 0, .map (some q)] 89 (0, 0)), (q, Obj.map #[] 0), (g, .cells cur 37 (0, 0)), (nu1 0, .cells #[.int .i64 0, .int .i64 1, .int .i64 0, .int .i64 1, .int .i64 0, .bool true, .slice none 0 0, .int .i64 0, .slice none 0 0] 37 (0, 0))]) (p1 := fun _ => []) (W1 := []) (by kernel_rfl) (fun _ => by kernel_rfl) (fun _ => trivial) (fun _ => ?_)
      refine J_cond_f (by kernel_rfl) (by kernel_rfl) ?_
      refine J_skip ?_
      refine J_eb ?_
      refine J_reg mixed [.rd 0 [] 0 0, .rd 1 [] 0 0, .rd 2 [] 0 0] [] [0, 1, 2, 8, 10, 12, 14] (E1 := fun _ => [(0, .val (.int .i64 n)), (1, .val (.slice la ls.length lc)), (2, .val (.slice aa ks.length ac)), (8, .val (.pointer (some (⟨b, 0, none⟩)))), (10, .val (.pointer (some (⟨p, 0, none⟩)))), (12, .val (.int .i64 1)), (14, .val (.nilIface))]) (h1 := fun _ => [(b, .cells #[.int .i64 0, .int .i64 1, .int .i64 0, .int .i64 1, .int .i64 0, .slice (some (⟨g, 0, none⟩)) 1 cap] 86 (0, 0)), (p, .cells #[.int .i64 0, .int .i64 1, .int .i64 0, .int .i64 0, .int .i64 0, .map (some q)] 89 (0, 0)), (q, Obj.map #[] 0), (g, .cells cur 37 (0, 0)), (nu1 0, .cells #[.int .i64 0, .int .i64 1, .int .i64 0, .int .i64 1, .int .i64 0, .bool true, .slice none 0 0, .int .i64 0, .slice none 0 0] 37 (0, 0))]) (p1 := fun _ => []) (W1 := []) (by kernel_rfl) (fun _ => by kernel_rfl) (fun _ => trivial) (fun _ => ?_)
      refine J_backp (⟨1, 0, some (g, cap, cur)⟩ : L1) [0, 1, 2, 8, 10, 12] [0, 1, 2, 3] 2 (fun _ _ _ => ⟨by simp only; omega, by simp, by simp, by simpa [upto] using hrow⟩) (by simp only; omega) (by kernel_rfl) rfl rfl
    · have hn1 : n = 0 := by simp at hlt; omega
      subst hn1
      refine J_exit rfl ?_
      refine J_seq ?_
      refine J_cut [0, 1, 2, 8, 10] [0, 1, 2] 1 rfl rfl rfl ?_
      exact lossyZero hF hks han
  · simp only at hk htm hx
    obtain ⟨hk0, hrow1⟩ := hx
    have hul := upto_len 0 k
    have hus : upto 0 (k + 1) = upto 0 k ++ [((k : Int) + 1, (k : Int))] := by simp [upto]
    refine J_seq ?_
    refine J_seq ?_
    refine J_reg mixed [.rd 0 [] 0 0, .rd 1 [] 0 0, .rd 2 [] 0 0] [] [0, 1, 2, 8, 10, 12, 68] (E1 := fun _ => [(0, .val (.int .i64 n)), (1, .val (.slice la ls.length lc)), (2, .val (.slice aa ks.length ac)), (8, .val (.pointer (some (⟨b, 0, none⟩)))), (10, .val (.pointer (some (⟨p, 0, none⟩)))), (12, .val (.int .i64 (↑k : Int))), (68, .val (.bool (decide ((↑k : Int) < n))))]) (h1 := fun _ => [(b, .cells #[.int .i64 0, .int .i64 1, .int .i64 0, .int .i64 (↑k : Int), .int .i64 tm, .slice (some (⟨g1, 0, none⟩)) k cap1] 86 (0, 0)), (p, .cells #[.int .i64 0, .int .i64 1, .int .i64 0, .int .i64 0, .int .i64 0, .map (some q)] 89 (0, 0)), (q, Obj.map #[] 0), (g1, .cells cur1 37 (0, 0))]) (p1 := fun _ => []) (W1 := []) (by kernel_rfl) (fun _ => by kernel_rfl) (fun _ => trivial) (fun _ => ?_)
    refine J_cond (t := decide ((↑k : Int) < n)) (by kernel_rfl) (by kernel_rfl) (fun hlt => ?_) (fun hlt => ?_)
    · have hn1 : (k : Int) < n := by simpa using hlt
      refine J_skip ?_
      refine J_seq ?_
      refine J_block ?_
      refine J_seq ?_
      refine JR_begin mixed [(0, true), (1, true), (2, false), (3, true), (4, true), (5, true), (6, false), (7, false), (8, true)] [] (by kernel_rfl) (by kernel_rfl) ?_
      refine JR_run (id := 11) (rest := [(2, false), (3, true), (4, true), (5, true), (6, false), (7, false), (8, true)]) [.rd 0 [] 0 0, .rd 1 [] 0 0] [0, 1, 2, 8, 10, 12, 72, 73] (E1 := fun _ => [(0, .val (.int .i64 n)), (1, .val (.slice la ls.length lc)), (2, .val (.slice aa ks.length ac)), (8, .val (.pointer (some (⟨b, 0, none⟩)))), (10, .val (.pointer (some (⟨p, 0, none⟩)))), (12, .val (.int .i64 (↑k : Int))), (72, .val (.pointer (some (⟨b, 0, none⟩)))), (73, .val (.int .i64 (↑k : Int)))]) (h1 := fun _ => [(b, .cells #[.int .i64 0, .int .i64 1, .int .i64 0, .int .i64 (↑k : Int), .int .i64 tm, .slice (some (⟨g1, 0, none⟩)) k cap1] 86 (0, 0)), (p, .cells #[.int .i64 0, .int .i64 1, .int .i64 0, .int .i64 0, .int .i64 0, .map (some q)] 89 (0, 0)), (q, Obj.map #[] 0), (g1, .cells cur1 37 (0, 0))]) (p1 := fun _ => []) (W1 := []) (fun _ => by kernel_rfl) (fun _ => trivial) (fun _ => ?_)
      refine JR_call [] [0, 3] 10 #[.pointer (some (⟨b, 0, none⟩)), .int .i64 (↑k : Int)] (some 74) (by kernel_rfl) (by kernel_rfl) (fun a w s => ?_)
      have hbg : b ≠ g1 := s.ne 0 3 rfl rfl
      refine (beat10row (q := (k : Int) + 1) (t := (k : Int)) (l := upto 0 k) rfl (by omega) (by omega) (by omega) (by omega) htm (by omega) hbg (by rw [hul]; exact s.at 0 rfl) (s.at 3 rfl) (by rw [hul]; exact hrow1)).mono ?_
      rintro e w3 ⟨rfl, hf3, g', cap', cur', hg0, hb3, hg3, hrow'⟩
      rw [hul] at hb3 hrow'
      rw [← hus] at hrow'
      rcases hg0 with rfl | hg0
      · have D := did_turn2 s hf3 0 3 rfl rfl (by decide) hb3 hg3 [] (by simp) (by simp)
        refine ⟨_, _, rfl, D.1, D.2, ?_⟩
        refine JR_run (id := 11) (rest := []) [.rd 3 [] 0 0, .rd 4 [] 0 0, .rd 5 [] 0 0, .wr 6 [] 0, .wr 7 [.o 4 none, .o 4 none, .o 4 none, .o 4 none, .o 4 none, .o 4 none, .o 4 none, .o 4 none, .o 4 none] 0, .rd 8 [] 0 0] [0, 1, 2, 8, 10, 12, 14] (E1 := fun nu1 => [(0, .val (.int .i64 n)), (1, .val (.slice la ls.length lc)), (2, .val (.slice aa ks.length ac)), (8, .val (.pointer (some (⟨b, 0, none⟩)))), (10, .val (.pointer (some (⟨p, 0, none⟩)))), (12, .val (.int .i64 (↑k : Int))), (14, .val (.nilIface))]) (h1 := fun nu1 => [(b, .cells #[.int .i64 0, .int .i64 1, .int .i64 0, .int .i64 ((↑k : Int) + 1), .int .i64 (↑k : Int), .slice (some (⟨g', 0, none⟩)) (k + 1) cap'] 86 (0, 0)), (p, .cells #[.int .i64 0, .int .i64 1, .int .i64 0, .int .i64 0, .int .i64 0, .map (some q)] 89 (0, 0)), (q, Obj.map #[] 0), (g', .cells cur' 37 (0, 0)), (nu1 0, .cells #[.int .i64 0, .int .i64 1, .int .i64 0, .int .i64 ((↑k : Int) + 1), .int .i64 (↑k : Int), .bool true, .slice none 0 0, .int .i64 0, .slice none 0 0] 37 (0, 0))]) (p1 := fun nu1 => []) (W1 := []) (fun _ => by kernel_rfl) (fun _ => trivial) (fun nu1 => ?_)
        refine JR_end ?_
        refine J_seq ?_
        refine J_reg mixed [.rd 0 [] 0 0, .rd 1 [] 0 0] [] [0, 1, 2, 8, 10, 12, 14, 78] (E1 := fun _ => [(0, .val (.int .i64 n)), (1, .val (.slice la ls.length lc)), (2, .val (.slice aa ks.length ac)), (8, .val (.pointer (some (⟨b, 0, none⟩)))), (10, .val (.pointer (some (⟨p, 0, none⟩)))), (12, .val (.int .i64 (↑k : Int))), (14, .val (.nilIface)), (78, .val (.bool false))]) (h1 := fun _ => [(b, .cells #[.int .i64 0, .int .i64 1, .int .i64 0, .int .i64 ((↑k : Int) + 1), .int .i64 (↑k : Int), .slice (some (⟨g', 0, none⟩)) (k + 1) cap'] 86 (0, 0)), (p, .cells #[.int .i64 0, .int .i64 1, .int .i64 0, .int .i64 0, .int .i64 0, .map (some q)] 89 (0, 0)), (q, Obj.map #[] 0), (g', .cells cur' 37 (0, 0)), (nu1 0, .cells #[.int .i64 0, .int .i64 1, .int .i64 0, .int .i64 ((↑k : Int) + 1), .int .i64 (↑k : Int), .bool true, .slice none 0 0, .int .i64 0, .slice none 0 0] 37 (0, 0))]) (p1 := fun _ => []) (W1 := []) (by kernel_rfl) (fun _ => by kernel_rfl) (fun _ => trivial) (fun _ => ?_)
        refine J_cond_f (by kernel_rfl) (by kernel_rfl) ?_
        refine J_skip ?_
        refine J_eb ?_
        refine J_reg mixed [.rd 0 [] 0 0, .rd 1 [] 0 1, .rd 2 [] 0 0] [] [0, 1, 2, 8, 10, 12, 14] (E1 := fun _ => [(0, .val (.int .i64 n)), (1, .val (.slice la ls.length lc)), (2, .val (.slice aa ks.length ac)), (8, .val (.pointer (some (⟨b, 0, none⟩)))), (10, .val (.pointer (some (⟨p, 0, none⟩)))), (12, .val (.int .i64 ((↑k : Int) + 1))), (14, .val (.nilIface))]) (h1 := fun _ => [(b, .cells #[.int .i64 0, .int .i64 1, .int .i64 0, .int .i64 ((↑k : Int) + 1), .int .i64 (↑k : Int), .slice (some (⟨g', 0, none⟩)) (k + 1) cap'] 86 (0, 0)), (p, .cells #[.int .i64 0, .int .i64 1, .int .i64 0, .int .i64 0, .int .i64 0, .map (some q)] 89 (0, 0)), (q, Obj.map #[] 0), (g', .cells cur' 37 (0, 0)), (nu1 0, .cells #[.int .i64 0, .int .i64 1, .int .i64 0, .int .i64 ((↑k : Int) + 1), .int .i64 (↑k : Int), .bool true, .slice none 0 0, .int .i64 0, .slice none 0 0] 37 (0, 0))]) (p1 := fun _ => [IntKind.i64.wrap ((↑k : Int) + (1 : Int)) = (↑k : Int) + (1 : Int)]) (W1 := []) (by kernel_rfl) (fun _ => by kernel_rfl) (fun _ => ⟨wrap_i64 (by omega) (by omega), trivial⟩) (fun _ => ?_)
        refine J_backp (⟨k + 1, (k : Int), some (g', cap', cur')⟩ : L1) [0, 1, 2, 8, 10, 12] [0, 1, 2, 3] 2 (fun _ _ _ => ⟨by simp only; omega, by simp only; omega, by simp, hrow'⟩) (by simp only; omega) (by kernel_rfl) rfl rfl
      · obtain ⟨o', ho'⟩ : ∃ o', w3.heap[g1]? = some o' := ⟨_, Array.getElem?_eq_getElem (Nat.lt_of_lt_of_le ((Array.getElem?_eq_some_iff.1 (s.at 3 rfl)).1) hf3.size)⟩
        have D := did_turn2 s hf3 0 3 rfl rfl (by decide) hb3 ho' [(g', .cells cur' 37 (0, 0))] (by simp [hg0, hg3]) (by simp)
        refine ⟨_, _, rfl, D.1, D.2, ?_⟩
        refine JR_run (id := 11) (rest := []) [.rd 3 [] 0 0, .rd 4 [] 0 0, .rd 5 [] 0 0, .wr 6 [] 0, .wr 7 [.o 5 none, .o 5 none, .o 5 none, .o 5 none, .o 5 none, .o 5 none, .o 5 none, .o 5 none, .o 5 none] 0, .rd 8 [] 0 0] [0, 1, 2, 8, 10, 12, 14] (E1 := fun nu1 => [(0, .val (.int .i64 n)), (1, .val (.slice la ls.length lc)), (2, .val (.slice aa ks.length ac)), (8, .val (.pointer (some (⟨b, 0, none⟩)))), (10, .val (.pointer (some (⟨p, 0, none⟩)))), (12, .val (.int .i64 (↑k : Int))), (14, .val (.nilIface))]) (h1 := fun nu1 => [(b, .cells #[.int .i64 0, .int .i64 1, .int .i64 0, .int .i64 ((↑k : Int) + 1), .int .i64 (↑k : Int), .slice (some (⟨g', 0, none⟩)) (k + 1) cap'] 86 (0, 0)), (p, .cells #[.int .i64 0, .int .i64 1, .int .i64 0, .int .i64 0, .int .i64 0, .map (some q)] 89 (0, 0)), (q, Obj.map #[] 0), (g1, o'), (g', .cells cur' 37 (0, 0)), (nu1 0, .cells #[.int .i64 0, .int .i64 1, .int .i64 0, .int .i64 ((↑k : Int) + 1), .int .i64 (↑k : Int), .bool true, .slice none 0 0, .int .i64 0, .slice none 0 0] 37 (0, 0))]) (p1 := fun nu1 => []) (W1 := []) (fun _ => by kernel_rfl) (fun _ => trivial) (fun nu1 => ?_)
        refine JR_end ?_
        refine J_seq ?_
        refine J_reg mixed [.rd 0 [] 0 0, .rd 1 [] 0 0] [] [0, 1, 2, 8, 10, 12, 14, 78] (E1 := fun _ => [(0, .val (.int .i64 n)), (1, .val (.slice la ls.length lc)), (2, .val (.slice aa ks.length ac)), (8, .val (.pointer (some (⟨b, 0, none⟩)))), (10, .val (.pointer (some (⟨p, 0, none⟩)))), (12, .val (.int .i64 (↑k : Int))), (14, .val (.nilIface)), (78, .val (.bool false))]) (h1 := fun _ => [(b, .cells #[.int .i64 0, .int .i64 1, .int .i64 0, .int .i64 ((↑k : Int) + 1), .int .i64 (↑k : Int), .slice (some (⟨g', 0, none⟩)) (k + 1) cap'] 86 (0, 0)), (p, .cells #[.int .i64 0, .int .i64 1, .int .i64 0, .int .i64 0, .int .i64 0, .map (some q)] 89 (0, 0)), (q, Obj.map #[] 0), (g1, o'), (g', .cells cur' 37 (0, 0)), (nu1 0, .cells #[.int .i64 0, .int .i64 1, .int .i64 0, .int .i64 ((↑k : Int) + 1), .int .i64 (↑k : Int), .bool true, .slice none 0 0, .int .i64 0, .slice none 0 0] 37 (0, 0))]) (p1 := fun _ => []) (W1 := []) (by kernel_rfl) (fun _ => by kernel_rfl) (fun _ => trivial) (fun _ => ?_)
        refine J_cond_f (by kernel_rfl) (by kernel_rfl) ?_
        refine J_skip ?_
        refine J_eb ?_
        refine J_reg mixed [.rd 0 [] 0 0, .rd 1 [] 0 1, .rd 2 [] 0 0] [] [0, 1, 2, 8, 10, 12, 14] (E1 := fun _ => [(0, .val (.int .i64 n)), (1, .val (.slice la ls.length lc)), (2, .val (.slice aa ks.length ac)), (8, .val (.pointer (some (⟨b, 0, none⟩)))), (10, .val (.pointer (some (⟨p, 0, none⟩)))), (12, .val (.int .i64 ((↑k : Int) + 1))), (14, .val (.nilIface))]) (h1 := fun _ => [(b, .cells #[.int .i64 0, .int .i64 1, .int .i64 0, .int .i64 ((↑k : Int) + 1), .int .i64 (↑k : Int), .slice (some (⟨g', 0, none⟩)) (k + 1) cap'] 86 (0, 0)), (p, .cells #[.int .i64 0, .int .i64 1, .int .i64 0, .int .i64 0, .int .i64 0, .map (some q)] 89 (0, 0)), (q, Obj.map #[] 0), (g1, o'), (g', .cells cur' 37 (0, 0)), (nu1 0, .cells #[.int .i64 0, .int .i64 1, .int .i64 0, .int .i64 ((↑k : Int) + 1), .int .i64 (↑k : Int), .bool true, .slice none 0 0, .int .i64 0, .slice none 0 0] 37 (0, 0))]) (p1 := fun _ => [IntKind.i64.wrap ((↑k : Int) + (1 : Int)) = (↑k : Int) + (1 : Int)]) (W1 := []) (by kernel_rfl) (fun _ => by kernel_rfl) (fun _ => ⟨wrap_i64 (by omega) (by omega), trivial⟩) (fun _ => ?_)
        refine J_backp (⟨k + 1, (k : Int), some (g', cap', cur')⟩ : L1) [0, 1, 2, 8, 10, 12] [0, 1, 2, 4] 2 (fun _ _ _ => ⟨by simp only; omega, by simp only; omega, by simp, hrow'⟩) (by simp only; omega) (by kernel_rfl) rfl rfl
    · have hn1 : n = k := by simp at hlt; omega
      subst hn1
      refine J_exit rfl ?_
      refine J_seq ?_
      refine J_cut [0, 1, 2, 8, 10] [0, 1, 2, 3] 1 rfl rfl rfl ?_
      exact lossyOuter hF hls hln hks han (by omega) rfl hrow1

set_option maxHeartbeats 1000000 in
theorem lossy4 {w0 : World} {n : Int} {la aa : Option Addr} {lc ac : Nat} {ls ks : List Bool} (hls : BoolsAt w0 la ls) (hks : BoolsAt w0 aa ks) :
    Calls Tryd.prog 4 #[.int .i64 n, .slice la ls.length lc, .slice aa ks.length ac] w0 fun e w' => e = .returned (.bool true) ∧ Fr [] w0 w' := by
  refine en4 (args := [.int .i64 n, .slice la ls.length lc, .slice aa ks.length ac]) (h := []) (r := []) (F := [([], w0)]) (by kernel_rfl) (own_nil (by simp)) (by simp [Fr.refl]) (by simp) ?_
  refine J_seq ?_
  refine J_reg mixed [.rd 0 [] 0 0] [] [0, 1, 2, 6] (E1 := fun _ => [(0, .val (.int .i64 n)), (1, .val (.slice la ls.length lc)), (2, .val (.slice aa ks.length ac)), (6, .val (.bool false))]) (h1 := fun _ => []) (p1 := fun _ => []) (W1 := []) (by kernel_rfl) (fun _ => by kernel_rfl) (fun _ => trivial) (fun _ => ?_)
  refine J_seq ?_
  refine JR_begin mixed [(0, false), (1, true)] [] (by kernel_rfl) (by kernel_rfl) ?_
  refine JR_call [] [] 7 #[] (some 22) (by kernel_rfl) (by kernel_rfl) (fun a w s => ?_)
  refine sent7.mono ?_
  rintro e w1 ⟨rfl, hf⟩
  refine ⟨_, _, rfl, (did_pure s hf).1, (did_pure s hf).2, ?_⟩
  refine JR_run (id := 1) (rest := []) [.rd 1 [] 0 0] [0, 1, 2, 6, 7] (E1 := fun _ => [(0, .val (.int .i64 n)), (1, .val (.slice la ls.length lc)), (2, .val (.slice aa ks.length ac)), (6, .val (.bool false)), (7, .val (.bool true))]) (h1 := fun _ => []) (p1 := fun _ => []) (W1 := []) (fun _ => by kernel_rfl) (fun _ => trivial) (fun _ => ?_)
  refine JR_end ?_
  refine J_seq ?_
  refine J_seq ?_
  refine J_reg mixed [.rd 0 [] 0 0, .rd 1 [] 0 0, .rd 2 [] 0 0, .rd 3 [] 0 0, .rd 4 [] 0 0, .rd 5 [] 0 0, .rd 6 [] 0 0, .rd 7 [] 2 0, .rd 8 [] 2 0, .rd 9 [] 0 3, .rd 10 [] 0 0, .rd 11 [] 2 0, .rd 12 [] 2 0, .rd 13 [] 2 0, .rd 14 [] 0 3, .rd 15 [] 0 0, .rd 16 [] 2 0, .rd 17 [] 2 0, .rd 18 [] 2 0, .rd 19 [] 0 3] [] [0, 1, 2, 6, 7, 42] (E1 := fun _ => [(0, .val (.int .i64 n)), (1, .val (.slice la ls.length lc)), (2, .val (.slice aa ks.length ac)), (6, .val (.bool false)), (7, .val (.bool true)), (42, .val (.bool (decide (n < 0) || decide (n > 30) || decide ((↑ls.length : Int) > 300) || decide ((↑ks.length : Int) > 20))))]) (h1 := fun _ => []) (p1 := fun _ => []) (W1 := []) (by kernel_rfl) (fun _ => by kernel_rfl) (fun _ => trivial) (fun _ => ?_)
  refine J_cond (t := decide (n < 0) || decide (n > 30) || decide ((↑ls.length : Int) > 300) || decide ((↑ks.length : Int) > 20)) (by kernel_rfl) (by kernel_rfl) (fun hbad => ?_) (fun hbad => ?_)
  · refine J_seq ?_
    refine J_reg mixed [.rd 0 [] 0 0, .rd 1 [] 0 0] [] [0, 1, 2, 6] (E1 := fun _ => [(0, .val (.int .i64 n)), (1, .val (.slice la ls.length lc)), (2, .val (.slice aa ks.length ac)), (6, .val (.bool true))]) (h1 := fun _ => []) (p1 := fun _ => []) (W1 := []) (by kernel_rfl) (fun _ => by kernel_rfl) (fun _ => trivial) (fun _ => ?_)
    refine J_return [[]] (.bool true) (by kernel_rfl) (fun a w s => ?_)
    exact ⟨rfl, s.fr ([], w0) (by simp)⟩
  · obtain ⟨hn0, hn, hm, hm2⟩ : 0 ≤ n ∧ n ≤ 30 ∧ ls.length ≤ 300 ∧ ks.length ≤ 20 := by simp at hbad; omega
    refine J_skip ?_
    refine J_seq ?_
    refine JR_begin mixed [(0, false), (1, true), (2, true), (3, true), (4, true), (5, true)] [] (by kernel_rfl) (by kernel_rfl) ?_
    refine JR_call [] [] 8 #[.int .i64 0, .int .i64 1, .int .i64 0] (some 45) (by kernel_rfl) (by kernel_rfl) (fun a w s => ?_)
    refine (newSender_ok 0 1 0 (by decide) (by decide) (by decide) (by decide) (by decide) (by decide) (by decide)).mono ?_
    rintro e w1 ⟨b, rfl, hf, hb, hblk⟩
    have D := did_new1 s hf hblk hb
    refine ⟨_, _, rfl, D.1, D.2, ?_⟩
    refine JR_run (id := 4) (rest := []) [.rd 1 [] 0 0, .rd 2 [] 0 0, .rd 3 [] 0 0, .rd 4 [] 0 0, .rd 5 [] 0 0] [0, 1, 2, 6, 8, 9] (E1 := fun _ => [(0, .val (.int .i64 n)), (1, .val (.slice la ls.length lc)), (2, .val (.slice aa ks.length ac)), (6, .val (.bool false)), (8, .val (.pointer (some (⟨b, 0, none⟩)))), (9, .val (.nilIface))]) (h1 := fun _ => [(b, .cells #[.int .i64 0, .int .i64 1, .int .i64 0, .int .i64 0, .int .i64 0, .slice none 0 0] 86 (0, 0))]) (p1 := fun _ => []) (W1 := []) (fun _ => by kernel_rfl) (fun _ => trivial) (fun _ => ?_)
    refine JR_end ?_
    refine J_seq ?_
    refine JR_begin mixed [(0, false), (1, true), (2, true), (3, true), (4, true), (5, true)] [] (by kernel_rfl) (by kernel_rfl) ?_
    refine JR_call [] [] 9 #[.int .i64 0, .int .i64 1, .int .i64 0] (some 49) (by kernel_rfl) (by kernel_rfl) (fun a w s => ?_)
    refine (newReceiver_ok 0 1 0 (by decide) (by decide) (by decide) (by decide) (by decide) (by decide) (by decide)).mono ?_
    rintro e w2 ⟨p, q, rfl, hf2, hp, hq, hpq, hp2, hq2⟩
    have D := did_pure2 s hf2 hp2 hq2 hp hq hpq
    refine ⟨_, _, rfl, D.1, D.2, ?_⟩
    refine JR_run (id := 5) (rest := []) [.rd 1 [] 0 0, .rd 2 [] 0 0, .rd 3 [] 0 0, .rd 4 [] 0 0, .rd 5 [] 0 0] [0, 1, 2, 6, 8, 9, 10, 11] (E1 := fun _ => [(0, .val (.int .i64 n)), (1, .val (.slice la ls.length lc)), (2, .val (.slice aa ks.length ac)), (6, .val (.bool false)), (8, .val (.pointer (some (⟨b, 0, none⟩)))), (9, .val (.nilIface)), (10, .val (.pointer (some (⟨p, 0, none⟩)))), (11, .val (.nilIface))]) (h1 := fun _ => [(b, .cells #[.int .i64 0, .int .i64 1, .int .i64 0, .int .i64 0, .int .i64 0, .slice none 0 0] 86 (0, 0)), (p, .cells #[.int .i64 0, .int .i64 1, .int .i64 0, .int .i64 0, .int .i64 0, .map (some q)] 89 (0, 0)), (q, Obj.map #[] 0)]) (p1 := fun _ => []) (W1 := []) (fun _ => by kernel_rfl) (fun _ => trivial) (fun _ => ?_)
    refine JR_end ?_
    refine J_seq ?_
    refine J_seq ?_
    refine J_reg mixed [.rd 0 [] 0 0, .rd 1 [] 0 0, .rd 2 [] 0 0, .rd 3 [] 0 0, .rd 4 [] 0 0, .rd 5 [] 0 0, .rd 6 [] 0 0, .rd 7 [] 0 0, .rd 8 [] 0 0, .rd 9 [] 0 0, .rd 10 [] 0 0, .rd 11 [] 0 0, .rd 12 [] 0 0, .rd 13 [] 0 0] [] [0, 1, 2, 6, 8, 10, 65] (E1 := fun _ => [(0, .val (.int .i64 n)), (1, .val (.slice la ls.length lc)), (2, .val (.slice aa ks.length ac)), (6, .val (.bool false)), (8, .val (.pointer (some (⟨b, 0, none⟩)))), (10, .val (.pointer (some (⟨p, 0, none⟩)))), (65, .val (.bool false))]) (h1 := fun _ => [(b, .cells #[.int .i64 0, .int .i64 1, .int .i64 0, .int .i64 0, .int .i64 0, .slice none 0 0] 86 (0, 0)), (p, .cells #[.int .i64 0, .int .i64 1, .int .i64 0, .int .i64 0, .int .i64 0, .map (some q)] 89 (0, 0)), (q, Obj.map #[] 0)]) (p1 := fun _ => []) (W1 := []) (by kernel_rfl) (fun _ => by kernel_rfl) (fun _ => trivial) (fun _ => ?_)
    refine J_cond_f (by kernel_rfl) (by kernel_rfl) ?_
    refine J_skip ?_
    refine J_seq ?_
    refine J_seq ?_
    refine J_cut [0, 1, 2, 8, 10] [0, 1, 2] 3 rfl rfl rfl ?_
    exact lossyLoop (List.mem_singleton.2 rfl) hls hm hks hm2 hn0 hn
end Go.Proofs.YtgelnbgjabpdbaaDoor
