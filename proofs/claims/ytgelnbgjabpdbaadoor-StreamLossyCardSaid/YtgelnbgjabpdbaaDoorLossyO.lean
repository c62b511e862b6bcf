/- Streams: StreamLossy, its rounds. -/
import Derived.Test.YtgelnbgjabpdbaaDoorLossyZ
namespace Go.Proofs.YtgelnbgjabpdbaaDoor
open Go Go.Sx

theorem upto_le (a : Int) : ∀ (k : Nat), ∀ p ∈ upto a k, p.1 ≤ a + (k : Int)
  | 0, p, h => by simp [upto] at h
  | k + 1, p, h => by
    simp only [upto, List.mem_append, List.mem_singleton] at h
    rcases h with h | h
    · have := upto_le a k p h
      omega
    · subst h
      simp
      omega
theorem upto_filter (a : Int) : ∀ (k : Nat) {q : Int}, a ≤ q → q ≤ a + k → ((upto a k).map (mvb 0 1 0)).filter (fun m => decide (q < m.seq)) = (upto q (a + k - q).toNat).map (mvb 0 1 0)
  | 0, q, h1, h2 => by
    have : (a + (0 : Nat) - q).toNat = 0 := by omega
    rw [this]
    rfl
  | k + 1, q, h1, h2 => by
    by_cases hq : q ≤ a + k
    · have e1 : (a + (k + 1 : Nat) - q).toNat = (a + k - q).toNat + 1 := by omega
      have e2 : (q + ((a + k - q).toNat : Int)) = a + k := by omega
      rw [e1]
      simp only [upto, List.map_append, List.filter_append, upto_filter a k h1 hq, e2, List.map_cons, List.map_nil]
      congr 1
      simp
      omega
    · have e1 : (a + (k + 1 : Nat) - q).toNat = 0 := by omega
      rw [e1]
      simp only [upto, List.map_append, List.filter_append, List.map_cons, List.map_nil]
      have h3 : ((upto a k).map (mvb 0 1 0)).filter (fun m => decide (q < m.seq)) = [] := by
        rw [List.filter_eq_nil_iff]
        intro x hx
        simp only [List.mem_map] at hx
        obtain ⟨y, hy, rfl⟩ := hx
        have := upto_le a k y hy
        simp
        omega
      rw [h3]
      simp
      omega

structure LO where
  a1 : Int
  k : Nat
  q1 : Int
  t1 : Int
  es : Array MapEntry
  clock : Nat
  K : Int → Prop
  at1 : Int
  rd : Int
  cur1 : Array Value
def LO.ok (n : Int) (an cap1 : Nat) (x : LO) (_ : World) : Prop := 0 ≤ x.rd ∧ x.rd ≤ an + 1 ∧ 0 ≤ x.a1 ∧ x.a1 ≤ x.q1 ∧ x.a1 + x.k = n ∧ x.q1 ≤ n ∧ 0 ≤ x.at1 ∧ x.at1 ≤ 30 * x.rd ∧ Row x.cur1 cap1 x.k 9 (bcs 0 1 0 (upto x.a1 x.k)) ∧ MapOf (.int .i64) x.es (kf 0 1 0 x.K) ∧ (∀ j, x.K j → x.q1 + 1 < j ∧ j ≤ n) ∧ (x.rd = an + 1 → x.a1 = n ∧ x.q1 = n)

set_option maxHeartbeats 4000000 in
theorem lossyOuter {w0 : World} {F : List (List Nat × World)} {n tm : Int} {la aa : Option Addr} {ls ks : List Bool} {lc ac b p q g1 k0 cap1 : Nat} {cur0 : Array Value}
    (hF : ([], w0) ∈ F) (hls : BoolsAt w0 la ls) (hln : ls.length ≤ 300) (hks : BoolsAt w0 aa ks) (han : ks.length ≤ 20) (hn : n ≤ 30) (hk0 : (k0 : Int) = n) (hrow0 : Row cur0 cap1 k0 9 (bcs 0 1 0 (upto 0 k0))) :
    J Tryd.prog Tryd.f4 (retR Tryd.prog Tryd.f4 (comesP w0)) Tryd.f4.ntmps [.c (.rg 14 false), .c (.seq (.rg 15 false) (.seq (.seq (.rg 16 false) (.block 2 (.loop (.seq (.seq (.rg 17 false) (.cond (.tmp 83) .skip (.exit 2))) (.seq (.block 3 (.seq (.rg 19 false) (.seq (.seq (.rg 20 false) (.block 4 (.loop (.seq (.seq (.rg 21 false) (.cond (.tmp 91) .skip (.exit 4))) (.seq (.block 5 (.seq (.rg 23 false) (.seq (.seq (.rg 24 false) (.cond (.tmp 112) (.exit 5) .skip)) (.seq (.rg 25 false) (.seq (.seq (.rg 26 false) (.cond (.tmp 123) (.seq (.rg 27 false) .ret) .skip)) (.rg 28 false)))))) (.rg 22 false)))))) (.seq (.seq (.rg 29 false) (.cond (.tmp 136) (.seq (.rg 30 false) .ret) .skip)) (.seq (.rg 31 false) (.cond (.tmp 146) (.seq (.rg 32 false) (.cond (.tmp 151) (.seq (.rg 33 false) .ret) .skip)) .skip)))))) (.rg 18 false)))))) (.seq (.rg 34 false) .ret)))]
      [(0, .val (.int .i64 n)), (1, .val (.slice la ls.length lc)), (2, .val (.slice aa ks.length ac)), (8, .val (.pointer (some ⟨b, 0, none⟩))), (10, .val (.pointer (some ⟨p, 0, none⟩)))]
      (lH b p q g1 (.cells (sc 0 1 0 n tm (.slice (some ⟨g1, 0, none⟩) k0 cap1)) 86 (0, 0)) (.cells cur0 37 (0, 0)) 0 0 #[] 0) [] F := by
  refine J_reg mixed [.rd 0 [] 0 0] [] [0, 1, 2, 8, 10, 15] (E1 := fun _ => [(0, .val (.int .i64 n)), (1, .val (.slice la ls.length lc)), (2, .val (.slice aa ks.length ac)), (8, .val (.pointer (some (⟨b, 0, none⟩)))), (10, .val (.pointer (some (⟨p, 0, none⟩)))), (15, .val (.int .i64 0))]) (h1 := fun _ => [(b, .cells #[.int .i64 0, .int .i64 1, .int .i64 0, .int .i64 n, .int .i64 tm, .slice (some (⟨g1, 0, none⟩)) k0 cap1] 86 (0, 0)), (p, .cells #[.int .i64 0, .int .i64 1, .int .i64 0, .int .i64 0, .int .i64 0, .map (some q)] 89 (0, 0)), (q, Obj.map #[] 0), (g1, .cells cur0 37 (0, 0))]) (p1 := fun _ => []) (W1 := []) (by kernel_rfl) (fun _ => by kernel_rfl) (fun _ => trivial) (fun _ => ?_)
  refine J_seq ?_
  refine J_reg mixed [.rd 0 [] 0 0] [] [0, 1, 2, 8, 10, 15, 16] (E1 := fun _ => [(0, .val (.int .i64 n)), (1, .val (.slice la ls.length lc)), (2, .val (.slice aa ks.length ac)), (8, .val (.pointer (some (⟨b, 0, none⟩)))), (10, .val (.pointer (some (⟨p, 0, none⟩)))), (15, .val (.int .i64 0)), (16, .val (.int .i64 0))]) (h1 := fun _ => [(b, .cells #[.int .i64 0, .int .i64 1, .int .i64 0, .int .i64 n, .int .i64 tm, .slice (some (⟨g1, 0, none⟩)) k0 cap1] 86 (0, 0)), (p, .cells #[.int .i64 0, .int .i64 1, .int .i64 0, .int .i64 0, .int .i64 0, .map (some q)] 89 (0, 0)), (q, Obj.map #[] 0), (g1, .cells cur0 37 (0, 0))]) (p1 := fun _ => []) (W1 := []) (by kernel_rfl) (fun _ => by kernel_rfl) (fun _ => trivial) (fun _ => ?_)
  refine J_seq ?_
  refine J_seq ?_
  refine J_reg mixed [.rd 0 [] 0 0] [] [0, 1, 2, 8, 10, 15, 16, 17] (E1 := fun _ => [(0, .val (.int .i64 n)), (1, .val (.slice la ls.length lc)), (2, .val (.slice aa ks.length ac)), (8, .val (.pointer (some (⟨b, 0, none⟩)))), (10, .val (.pointer (some (⟨p, 0, none⟩)))), (15, .val (.int .i64 0)), (16, .val (.int .i64 0)), (17, .val (.int .i64 0))]) (h1 := fun _ => [(b, .cells #[.int .i64 0, .int .i64 1, .int .i64 0, .int .i64 n, .int .i64 tm, .slice (some (⟨g1, 0, none⟩)) k0 cap1] 86 (0, 0)), (p, .cells #[.int .i64 0, .int .i64 1, .int .i64 0, .int .i64 0, .int .i64 0, .map (some q)] 89 (0, 0)), (q, Obj.map #[] 0), (g1, .cells cur0 37 (0, 0))]) (p1 := fun _ => []) (W1 := []) (by kernel_rfl) (fun _ => by kernel_rfl) (fun _ => trivial) (fun _ => ?_)
  refine J_block ?_
  refine J_loopx (fun x : LO => lE n la ls.length lc aa ks.length ac b p x.q1 x.at1 x.rd) (fun x => lH b p q g1 (.cells (sc 0 1 0 n tm (.slice (some ⟨g1, 0, none⟩) x.k cap1)) 86 (0, 0)) (.cells x.cur1 37 (0, 0)) x.q1 x.t1 x.es x.clock) (fun x => (ks.length + 1 - x.rd).toNat) (LO.ok n ks.length cap1) ⟨0, k0, 0, 0, #[], 0, fun _ => False, 0, 0, cur0⟩ [0, 1, 2, 8, 10, 15, 16, 17] (fun _ _ _ => ⟨by simp, by simp only; omega, by simp, by simp, by simp only; omega, by simp only; omega, by simp, by simp, hrow0, (MapOf.empty _).congr fun x => by unfold kf; split <;> simp, by simp, fun h => by simp only at h; omega⟩) (by kernel_rfl) rfl ?_
  rintro ⟨a1, k, q1, t1, es, clock, K, at1, rd, cur1⟩ w ⟨hrd0, hrd, ha0, haq, hak, hqn, hat0, hat1, hrow, hm, hK, hlast⟩
  simp only at hrd0 hrd ha0 haq hak hqn hat0 hat1 hrow hm hK hlast
  refine J_seq ?_
  refine J_seq ?_
  refine J_reg mixed [.rd 0 [] 0 0, .rd 1 [] 0 0, .rd 2 [] 0 0, .rd 3 [] 0 1, .rd 4 [] 0 0] [] [0, 1, 2, 8, 10, 15, 16, 17, 83] (E1 := fun _ => [(0, .val (.int .i64 n)), (1, .val (.slice la ls.length lc)), (2, .val (.slice aa ks.length ac)), (8, .val (.pointer (some (⟨b, 0, none⟩)))), (10, .val (.pointer (some (⟨p, 0, none⟩)))), (15, .val (.int .i64 q1)), (16, .val (.int .i64 at1)), (17, .val (.int .i64 rd)), (83, .val (.bool (decide (rd < (↑ks.length : Int) + 1))))]) (h1 := fun _ => [(b, .cells #[.int .i64 0, .int .i64 1, .int .i64 0, .int .i64 n, .int .i64 tm, .slice (some (⟨g1, 0, none⟩)) k cap1] 86 (0, 0)), (p, .cells #[.int .i64 0, .int .i64 1, .int .i64 0, .int .i64 q1, .int .i64 t1, .map (some q)] 89 (0, 0)), (q, Obj.map es clock), (g1, .cells cur1 37 (0, 0))]) (p1 := fun _ => [IntKind.i64.wrap ((↑ks.length : Int) + (1 : Int)) = (↑ks.length : Int) + (1 : Int)]) (W1 := []) (by kernel_rfl) (fun _ => by kernel_rfl) (fun _ => ⟨wrap_i64 (by omega) (by omega), trivial⟩) (fun _ => ?_)
  refine J_cond (t := decide (rd < (↑ks.length : Int) + 1)) (by kernel_rfl) (by kernel_rfl) (fun hlt => ?_) (fun hlt => ?_)
  · have hlt2 : rd < ks.length + 1 := by simpa using hlt
    have key : ∀ (F2 : List (List Nat × World)) (q2 t2 : Int) (es2 : Array MapEntry) (clock2 : Nat) (K2 : Int → Prop) (at2 : Int), F2.drop 1 = F → MapOf (.int .i64) es2 (kf 0 1 0 K2) → (∀ j, K2 j → q2 + 1 < j ∧ j ≤ n) → a1 ≤ q2 → q2 ≤ n → 0 ≤ at2 → at2 ≤ 30 * (rd + 1) → (rd = ks.length → q2 = n) →
        J Tryd.prog Tryd.f4 (retR Tryd.prog Tryd.f4 (comesP w0)) Tryd.f4.ntmps (.c (.rg 29 false) :: .c (.cond (.tmp 136) (.seq (.rg 30 false) .ret) .skip) :: .c (.seq (.rg 31 false) (.cond (.tmp 146) (.seq (.rg 32 false) (.cond (.tmp 151) (.seq (.rg 33 false) .ret) .skip)) .skip)) :: .eb 3 :: .c (.rg 18 false) :: (.back (Inv Tryd.f4.ntmps (fun x : LO => lE n la ls.length lc aa ks.length ac b p x.q1 x.at1 x.rd) (fun x => lH b p q g1 (.cells (sc 0 1 0 n tm (.slice (some ⟨g1, 0, none⟩) x.k cap1)) 86 (0, 0)) (.cells x.cur1 37 (0, 0)) x.q1 x.t1 x.es x.clock) (fun x => (ks.length + 1 - x.rd).toNat) (LO.ok n ks.length cap1) [] F) ((ks.length : Int) + 1 - rd).toNat) :: .eb 2 :: [.c (.seq (.rg 34 false) .ret)])
          (lE n la ls.length lc aa ks.length ac b p q2 at2 rd) (lH b p q g1 (.cells (sc 0 1 0 n tm (.slice (some ⟨g1, 0, none⟩) k cap1)) 86 (0, 0)) (.cells cur1 37 (0, 0)) q2 t2 es2 clock2) [] F2 := by
      intro F2 q2 t2 es2 clock2 K2 at2 hF2 hm2 hK2 haq2 hq2n hat2 hat22 hfull
      have hFF : ([], w0) ∈ F2 := List.mem_of_mem_drop (by rw [hF2]; exact hF)
      refine JR_begin mixed [(0, true), (1, true), (2, false), (3, true), (4, true), (5, true), (6, true), (7, true), (8, true)] [] (by kernel_rfl) (by kernel_rfl) ?_
      refine JR_run (id := 29) (rest := [(2, false), (3, true), (4, true), (5, true), (6, true), (7, true), (8, true)]) [.rd 0 [] 0 0, .rd 1 [] 0 0] [0, 1, 2, 8, 10, 15, 16, 17, 128, 129] (E1 := fun _ => [(0, .val (.int .i64 n)), (1, .val (.slice la ls.length lc)), (2, .val (.slice aa ks.length ac)), (8, .val (.pointer (some (⟨b, 0, none⟩)))), (10, .val (.pointer (some (⟨p, 0, none⟩)))), (15, .val (.int .i64 q2)), (16, .val (.int .i64 at2)), (17, .val (.int .i64 rd)), (128, .val (.int .i64 q2)), (129, .val (.pointer (some (⟨p, 0, none⟩))))]) (h1 := fun _ => [(b, .cells #[.int .i64 0, .int .i64 1, .int .i64 0, .int .i64 n, .int .i64 tm, .slice (some (⟨g1, 0, none⟩)) k cap1] 86 (0, 0)), (p, .cells #[.int .i64 0, .int .i64 1, .int .i64 0, .int .i64 q2, .int .i64 t2, .map (some q)] 89 (0, 0)), (q, Obj.map es2 clock2), (g1, .cells cur1 37 (0, 0))]) (p1 := fun _ => []) (W1 := []) (fun _ => by kernel_rfl) (fun _ => trivial) (fun _ => ?_)
      refine JR_call [] [] 13 #[.pointer (some (⟨p, 0, none⟩))] (some 130) (by kernel_rfl) (by kernel_rfl) (fun a w s => ?_)
      refine (seq13 (s.at 1 rfl)).mono ?_
      rintro e w2 ⟨rfl, hf2⟩
      refine ⟨_, _, rfl, (did_pure s hf2).1, (did_pure s hf2).2, ?_⟩
      refine JR_run (id := 29) (rest := []) [.rd 3 [] 0 0, .rd 4 [] 0 0, .rd 5 [] 2 0, .rd 6 [] 2 0, .rd 7 [] 2 0, .rd 8 [] 0 3] [0, 1, 2, 8, 10, 15, 16, 17, 136] (E1 := fun _ => [(0, .val (.int .i64 n)), (1, .val (.slice la ls.length lc)), (2, .val (.slice aa ks.length ac)), (8, .val (.pointer (some (⟨b, 0, none⟩)))), (10, .val (.pointer (some (⟨p, 0, none⟩)))), (15, .val (.int .i64 q2)), (16, .val (.int .i64 at2)), (17, .val (.int .i64 rd)), (136, .val (.bool (q2 != q2 || decide (q2 > n))))]) (h1 := fun _ => [(b, .cells #[.int .i64 0, .int .i64 1, .int .i64 0, .int .i64 n, .int .i64 tm, .slice (some (⟨g1, 0, none⟩)) k cap1] 86 (0, 0)), (p, .cells #[.int .i64 0, .int .i64 1, .int .i64 0, .int .i64 q2, .int .i64 t2, .map (some q)] 89 (0, 0)), (q, Obj.map es2 clock2), (g1, .cells cur1 37 (0, 0))]) (p1 := fun _ => []) (W1 := []) (fun _ => by kernel_rfl) (fun _ => trivial) (fun _ => ?_)
      refine JR_end ?_
      refine J_condF (q2 != q2 || decide (q2 > n)) (by kernel_rfl) (by kernel_rfl) (by simpa using ‹_›) ?_
      refine J_skip ?_
      refine J_seq ?_
      by_cases hrr : rd < ks.length
      · obtain ⟨bo, off, cs, ty, fz, rfl, hcs, hat⟩ := hks (by rintro rfl; simp at hrr; omega)
        obtain ⟨z, hzz⟩ : ∃ z, ks[rd.toNat]? = some z := ⟨_, List.getElem?_eq_getElem (by omega)⟩
        have hc : cs[off + rd.toNat * 1]? = some (.bool z) := by rw [Nat.mul_one]; exact hat _ _ hzz
        refine J_open (M := []) (w1 := w0) (by simp [hFF]) hcs (by simp) ?_
        refine J_reg mixed [.rd 0 [] 0 0, .rd 1 [] 0 0, .rd 2 [] 0 0, .rd 3 [] 0 7, .rd 4 [] 0 0, .rd 5 [] 0 0, .rd 6 [] 0 0, .rd 7 [] 0 2, .rd 8 [.r 0 (some (.bool z))] 0 0, .rd 9 [] 0 0] [] [0, 1, 2, 8, 10, 15, 16, 17, 146] (E1 := fun _ => [(0, .val (.int .i64 n)), (1, .val (.slice la ls.length lc)), (2, .val (.slice (some (⟨bo, off, none⟩)) ks.length ac)), (8, .val (.pointer (some (⟨b, 0, none⟩)))), (10, .val (.pointer (some (⟨p, 0, none⟩)))), (15, .val (.int .i64 q2)), (16, .val (.int .i64 at2)), (17, .val (.int .i64 rd)), (146, .val (.bool z))]) (h1 := fun _ => [(b, .cells #[.int .i64 0, .int .i64 1, .int .i64 0, .int .i64 n, .int .i64 tm, .slice (some (⟨g1, 0, none⟩)) k cap1] 86 (0, 0)), (p, .cells #[.int .i64 0, .int .i64 1, .int .i64 0, .int .i64 q2, .int .i64 t2, .map (some q)] 89 (0, 0)), (q, Obj.map es2 clock2), (g1, .cells cur1 37 (0, 0))]) (p1 := fun _ => [decide (rd ≥ (↑ks.length : Int)) = false, (0 : Int) ≤ rd, rd < (↑ks.length : Int), cs[off + rd.toNat * (1 : Nat)]? = some (Value.bool z)]) (W1 := []) (by kernel_rfl) (fun _ => by kernel_rfl) (fun _ => ⟨by simpa using ‹_›, hrd0, hrr, hc, trivial⟩) (fun _ => ?_)
        refine J_cond (t := z) (by kernel_rfl) (by kernel_rfl) (fun hb => ?_) (fun hb => ?_)
        · refine J_seq ?_
          refine JR_begin mixed [(0, true), (1, true), (2, false), (3, false), (4, true)] [] (by kernel_rfl) (by kernel_rfl) ?_
          refine JR_run (id := 32) (rest := [(2, false), (3, false), (4, true)]) [.rd 0 [] 0 0, .rd 1 [] 0 0] [0, 1, 2, 8, 10, 15, 16, 17, 147, 148] (E1 := fun _ => [(0, .val (.int .i64 n)), (1, .val (.slice la ls.length lc)), (2, .val (.slice (some (⟨bo, off, none⟩)) ks.length ac)), (8, .val (.pointer (some (⟨b, 0, none⟩)))), (10, .val (.pointer (some (⟨p, 0, none⟩)))), (15, .val (.int .i64 q2)), (16, .val (.int .i64 at2)), (17, .val (.int .i64 rd)), (147, .val (.pointer (some (⟨b, 0, none⟩)))), (148, .val (.pointer (some (⟨p, 0, none⟩))))]) (h1 := fun _ => [(b, .cells #[.int .i64 0, .int .i64 1, .int .i64 0, .int .i64 n, .int .i64 tm, .slice (some (⟨g1, 0, none⟩)) k cap1] 86 (0, 0)), (p, .cells #[.int .i64 0, .int .i64 1, .int .i64 0, .int .i64 q2, .int .i64 t2, .map (some q)] 89 (0, 0)), (q, Obj.map es2 clock2), (g1, .cells cur1 37 (0, 0))]) (p1 := fun _ => []) (W1 := []) (fun _ => by kernel_rfl) (fun _ => trivial) (fun _ => ?_)
          refine JR_call [] [] 13 #[.pointer (some (⟨p, 0, none⟩))] (some 149) (by kernel_rfl) (by kernel_rfl) (fun a w s => ?_)
          refine (seq13 (s.at 1 rfl)).mono ?_
          rintro e w2 ⟨rfl, hf2⟩
          refine ⟨_, _, rfl, (did_pure s hf2).1, (did_pure s hf2).2, ?_⟩
          refine JR_call [] [0, 3] 12 #[.pointer (some (⟨b, 0, none⟩)), .int .i64 q2] (some 150) (by kernel_rfl) (by kernel_rfl) (fun a w s => ?_)
          have hbg : b ≠ g1 := s.ne 0 3 rfl rfl
          have hlen : ((upto a1 k).map (mvb 0 1 0)).length = k := by rw [List.length_map, upto_len]
          refine (acked12 (k := q2) (q := n) (l := (upto a1 k).map (mvb 0 1 0)) (by omega) (by omega) hbg (by omega) (fun m hm => by simp only [List.mem_map] at hm; obtain ⟨y, _, rfl⟩ := hm; exact ⟨rfl, rfl⟩) (by rw [hlen]; exact s.at 0 rfl) (s.at 3 rfl) (by rw [hlen, ← bcs_flat]; exact hrow)).mono ?_
          rintro e w3 ⟨l2, cur3, hl2, rfl, hf3, hb3, hg3, hrow3⟩
          obtain rfl : l2 = (upto q2 (n - q2).toNat).map (mvb 0 1 0) := by rw [hl2, upto_filter a1 k (by omega) (by omega)]; congr 2; omega
          rw [List.length_map, upto_len] at hb3 hrow3
          rw [← bcs_flat] at hrow3
          have D := did_turn2 s hf3 0 3 rfl rfl (by decide) hb3 hg3 [] (by simp) (by simp)
          refine ⟨_, _, rfl, D.1, D.2, ?_⟩
          refine JR_run (id := 32) (rest := []) [.rd 4 [] 0 0] [0, 1, 2, 8, 10, 15, 16, 17, 151] (E1 := fun _ => [(0, .val (.int .i64 n)), (1, .val (.slice la ls.length lc)), (2, .val (.slice (some (⟨bo, off, none⟩)) ks.length ac)), (8, .val (.pointer (some (⟨b, 0, none⟩)))), (10, .val (.pointer (some (⟨p, 0, none⟩)))), (15, .val (.int .i64 q2)), (16, .val (.int .i64 at2)), (17, .val (.int .i64 rd)), (151, .val (.bool false))]) (h1 := fun _ => [(b, .cells #[.int .i64 0, .int .i64 1, .int .i64 0, .int .i64 n, .int .i64 tm, .slice (some (⟨g1, 0, none⟩)) ((n - q2).toNat) cap1] 86 (0, 0)), (p, .cells #[.int .i64 0, .int .i64 1, .int .i64 0, .int .i64 q2, .int .i64 t2, .map (some q)] 89 (0, 0)), (q, Obj.map es2 clock2), (g1, .cells cur3 37 (0, 0))]) (p1 := fun _ => []) (W1 := []) (fun _ => by kernel_rfl) (fun _ => trivial) (fun _ => ?_)
          refine JR_end ?_
          refine J_cond_f (by kernel_rfl) (by kernel_rfl) ?_
          refine J_skip ?_
          refine J_eb ?_
          refine J_reg mixed [.rd 0 [] 0 0, .rd 1 [] 0 1, .rd 2 [] 0 0] [] [0, 1, 2, 8, 10, 15, 16, 17] (E1 := fun _ => [(0, .val (.int .i64 n)), (1, .val (.slice la ls.length lc)), (2, .val (.slice (some (⟨bo, off, none⟩)) ks.length ac)), (8, .val (.pointer (some (⟨b, 0, none⟩)))), (10, .val (.pointer (some (⟨p, 0, none⟩)))), (15, .val (.int .i64 q2)), (16, .val (.int .i64 at2)), (17, .val (.int .i64 (rd + 1)))]) (h1 := fun _ => [(b, .cells #[.int .i64 0, .int .i64 1, .int .i64 0, .int .i64 n, .int .i64 tm, .slice (some (⟨g1, 0, none⟩)) ((n - q2).toNat) cap1] 86 (0, 0)), (p, .cells #[.int .i64 0, .int .i64 1, .int .i64 0, .int .i64 q2, .int .i64 t2, .map (some q)] 89 (0, 0)), (q, Obj.map es2 clock2), (g1, .cells cur3 37 (0, 0))]) (p1 := fun _ => [IntKind.i64.wrap (rd + (1 : Int)) = rd + (1 : Int)]) (W1 := []) (by kernel_rfl) (fun _ => by kernel_rfl) (fun _ => ⟨wrap_i64 (by omega) (by omega), trivial⟩) (fun _ => ?_)
          refine J_backp (⟨q2, (n - q2).toNat, q2, t2, es2, clock2, K2, at2, rd + 1, cur3⟩ : LO) [0, 1, 2, 8, 10, 15, 16, 17] [0, 1, 2, 3] 4 (fun _ _ _ => ⟨by simp only; omega, by simp only; omega, by simp only; omega, by simp only; omega, by simp only; omega, hq2n, hat2, by simp only; omega, hrow3, hm2, hK2, fun h => by simp only at h ⊢; have := hfull (by omega); omega⟩) (by simp only; omega) (by kernel_rfl) rfl (by simpa using hF2)
        · refine J_skip ?_
          refine J_eb ?_
          refine J_reg mixed [.rd 0 [] 0 0, .rd 1 [] 0 1, .rd 2 [] 0 0] [] [0, 1, 2, 8, 10, 15, 16, 17] (E1 := fun _ => [(0, .val (.int .i64 n)), (1, .val (.slice la ls.length lc)), (2, .val (.slice (some (⟨bo, off, none⟩)) ks.length ac)), (8, .val (.pointer (some (⟨b, 0, none⟩)))), (10, .val (.pointer (some (⟨p, 0, none⟩)))), (15, .val (.int .i64 q2)), (16, .val (.int .i64 at2)), (17, .val (.int .i64 (rd + 1)))]) (h1 := fun _ => [(b, .cells #[.int .i64 0, .int .i64 1, .int .i64 0, .int .i64 n, .int .i64 tm, .slice (some (⟨g1, 0, none⟩)) k cap1] 86 (0, 0)), (p, .cells #[.int .i64 0, .int .i64 1, .int .i64 0, .int .i64 q2, .int .i64 t2, .map (some q)] 89 (0, 0)), (q, Obj.map es2 clock2), (g1, .cells cur1 37 (0, 0))]) (p1 := fun _ => [IntKind.i64.wrap (rd + (1 : Int)) = rd + (1 : Int)]) (W1 := []) (by kernel_rfl) (fun _ => by kernel_rfl) (fun _ => ⟨wrap_i64 (by omega) (by omega), trivial⟩) (fun _ => ?_)
          refine J_backp (⟨a1, k, q2, t2, es2, clock2, K2, at2, rd + 1, cur1⟩ : LO) [0, 1, 2, 8, 10, 15, 16, 17] [0, 1, 2, 3] 2 (fun _ _ _ => ⟨by simp only; omega, by simp only; omega, ha0, haq2, hak, hq2n, hat2, hat22, hrow, hm2, hK2, fun h => by simp only at h; omega⟩) (by simp only; omega) (by kernel_rfl) rfl (by simpa using hF2)
      · refine J_reg mixed [.rd 0 [] 0 0, .rd 1 [] 0 0, .rd 2 [] 0 0, .rd 3 [] 0 6, .rd 4 [] 0 0, .rd 5 [] 1 0, .rd 6 [] 1 0, .rd 7 [] 1 0, .rd 8 [] 1 0, .rd 9 [] 0 0] [] [0, 1, 2, 8, 10, 15, 16, 17, 146] (E1 := fun _ => [(0, .val (.int .i64 n)), (1, .val (.slice la ls.length lc)), (2, .val (.slice aa ks.length ac)), (8, .val (.pointer (some (⟨b, 0, none⟩)))), (10, .val (.pointer (some (⟨p, 0, none⟩)))), (15, .val (.int .i64 q2)), (16, .val (.int .i64 at2)), (17, .val (.int .i64 rd)), (146, .val (.bool true))]) (h1 := fun _ => [(b, .cells #[.int .i64 0, .int .i64 1, .int .i64 0, .int .i64 n, .int .i64 tm, .slice (some (⟨g1, 0, none⟩)) k cap1] 86 (0, 0)), (p, .cells #[.int .i64 0, .int .i64 1, .int .i64 0, .int .i64 q2, .int .i64 t2, .map (some q)] 89 (0, 0)), (q, Obj.map es2 clock2), (g1, .cells cur1 37 (0, 0))]) (p1 := fun _ => [decide (rd ≥ (↑ks.length : Int)) = true]) (W1 := []) (by kernel_rfl) (fun _ => by kernel_rfl) (fun _ => ⟨by simp; omega, trivial⟩) (fun _ => ?_)
        refine J_cond_t (by kernel_rfl) (by kernel_rfl) ?_
        refine J_seq ?_
        refine JR_begin mixed [(0, true), (1, true), (2, false), (3, false), (4, true)] [] (by kernel_rfl) (by kernel_rfl) ?_
        refine JR_run (id := 32) (rest := [(2, false), (3, false), (4, true)]) [.rd 0 [] 0 0, .rd 1 [] 0 0] [0, 1, 2, 8, 10, 15, 16, 17, 147, 148] (E1 := fun _ => [(0, .val (.int .i64 n)), (1, .val (.slice la ls.length lc)), (2, .val (.slice aa ks.length ac)), (8, .val (.pointer (some (⟨b, 0, none⟩)))), (10, .val (.pointer (some (⟨p, 0, none⟩)))), (15, .val (.int .i64 q2)), (16, .val (.int .i64 at2)), (17, .val (.int .i64 rd)), (147, .val (.pointer (some (⟨b, 0, none⟩)))), (148, .val (.pointer (some (⟨p, 0, none⟩))))]) (h1 := fun _ => [(b, .cells #[.int .i64 0, .int .i64 1, .int .i64 0, .int .i64 n, .int .i64 tm, .slice (some (⟨g1, 0, none⟩)) k cap1] 86 (0, 0)), (p, .cells #[.int .i64 0, .int .i64 1, .int .i64 0, .int .i64 q2, .int .i64 t2, .map (some q)] 89 (0, 0)), (q, Obj.map es2 clock2), (g1, .cells cur1 37 (0, 0))]) (p1 := fun _ => []) (W1 := []) (fun _ => by kernel_rfl) (fun _ => trivial) (fun _ => ?_)
        refine JR_call [] [] 13 #[.pointer (some (⟨p, 0, none⟩))] (some 149) (by kernel_rfl) (by kernel_rfl) (fun a w s => ?_)
        refine (seq13 (s.at 1 rfl)).mono ?_
        rintro e w2 ⟨rfl, hf2⟩
        refine ⟨_, _, rfl, (did_pure s hf2).1, (did_pure s hf2).2, ?_⟩
        refine JR_call [] [0, 3] 12 #[.pointer (some (⟨b, 0, none⟩)), .int .i64 q2] (some 150) (by kernel_rfl) (by kernel_rfl) (fun a w s => ?_)
        have hbg : b ≠ g1 := s.ne 0 3 rfl rfl
        have hlen : ((upto a1 k).map (mvb 0 1 0)).length = k := by rw [List.length_map, upto_len]
        refine (acked12 (k := q2) (q := n) (l := (upto a1 k).map (mvb 0 1 0)) (by omega) (by omega) hbg (by omega) (fun m hm => by simp only [List.mem_map] at hm; obtain ⟨y, _, rfl⟩ := hm; exact ⟨rfl, rfl⟩) (by rw [hlen]; exact s.at 0 rfl) (s.at 3 rfl) (by rw [hlen, ← bcs_flat]; exact hrow)).mono ?_
        rintro e w3 ⟨l2, cur3, hl2, rfl, hf3, hb3, hg3, hrow3⟩
        obtain rfl : l2 = (upto q2 (n - q2).toNat).map (mvb 0 1 0) := by rw [hl2, upto_filter a1 k (by omega) (by omega)]; congr 2; omega
        rw [List.length_map, upto_len] at hb3 hrow3
        rw [← bcs_flat] at hrow3
        have D := did_turn2 s hf3 0 3 rfl rfl (by decide) hb3 hg3 [] (by simp) (by simp)
        refine ⟨_, _, rfl, D.1, D.2, ?_⟩
        refine JR_run (id := 32) (rest := []) [.rd 4 [] 0 0] [0, 1, 2, 8, 10, 15, 16, 17, 151] (E1 := fun _ => [(0, .val (.int .i64 n)), (1, .val (.slice la ls.length lc)), (2, .val (.slice aa ks.length ac)), (8, .val (.pointer (some (⟨b, 0, none⟩)))), (10, .val (.pointer (some (⟨p, 0, none⟩)))), (15, .val (.int .i64 q2)), (16, .val (.int .i64 at2)), (17, .val (.int .i64 rd)), (151, .val (.bool false))]) (h1 := fun _ => [(b, .cells #[.int .i64 0, .int .i64 1, .int .i64 0, .int .i64 n, .int .i64 tm, .slice (some (⟨g1, 0, none⟩)) ((n - q2).toNat) cap1] 86 (0, 0)), (p, .cells #[.int .i64 0, .int .i64 1, .int .i64 0, .int .i64 q2, .int .i64 t2, .map (some q)] 89 (0, 0)), (q, Obj.map es2 clock2), (g1, .cells cur3 37 (0, 0))]) (p1 := fun _ => []) (W1 := []) (fun _ => by kernel_rfl) (fun _ => trivial) (fun _ => ?_)
        refine JR_end ?_
        refine J_cond_f (by kernel_rfl) (by kernel_rfl) ?_
        refine J_skip ?_
        refine J_eb ?_
        refine J_reg mixed [.rd 0 [] 0 0, .rd 1 [] 0 1, .rd 2 [] 0 0] [] [0, 1, 2, 8, 10, 15, 16, 17] (E1 := fun _ => [(0, .val (.int .i64 n)), (1, .val (.slice la ls.length lc)), (2, .val (.slice aa ks.length ac)), (8, .val (.pointer (some (⟨b, 0, none⟩)))), (10, .val (.pointer (some (⟨p, 0, none⟩)))), (15, .val (.int .i64 q2)), (16, .val (.int .i64 at2)), (17, .val (.int .i64 (rd + 1)))]) (h1 := fun _ => [(b, .cells #[.int .i64 0, .int .i64 1, .int .i64 0, .int .i64 n, .int .i64 tm, .slice (some (⟨g1, 0, none⟩)) ((n - q2).toNat) cap1] 86 (0, 0)), (p, .cells #[.int .i64 0, .int .i64 1, .int .i64 0, .int .i64 q2, .int .i64 t2, .map (some q)] 89 (0, 0)), (q, Obj.map es2 clock2), (g1, .cells cur3 37 (0, 0))]) (p1 := fun _ => [IntKind.i64.wrap (rd + (1 : Int)) = rd + (1 : Int)]) (W1 := []) (by kernel_rfl) (fun _ => by kernel_rfl) (fun _ => ⟨wrap_i64 (by omega) (by omega), trivial⟩) (fun _ => ?_)
        refine J_backp (⟨q2, (n - q2).toNat, q2, t2, es2, clock2, K2, at2, rd + 1, cur3⟩ : LO) [0, 1, 2, 8, 10, 15, 16, 17] [0, 1, 2, 3] 4 (fun _ _ _ => ⟨by simp only; omega, by simp only; omega, by simp only; omega, by simp only; omega, by simp only; omega, hq2n, hat2, by simp only; omega, hrow3, hm2, hK2, fun h => by simp only at h ⊢; have := hfull (by omega); omega⟩) (by simp only; omega) (by kernel_rfl) rfl (by simpa using hF2)
    refine J_skip ?_
    refine J_seq ?_
    refine J_block ?_
    refine J_seq ?_
    refine JR_begin mixed [(0, true), (1, false), (2, true)] [] (by kernel_rfl) (by kernel_rfl) ?_
    refine JR_run (id := 19) (rest := [(1, false), (2, true)]) [.rd 0 [] 0 0] [0, 1, 2, 8, 10, 15, 16, 17, 86] (E1 := fun _ => [(0, .val (.int .i64 n)), (1, .val (.slice la ls.length lc)), (2, .val (.slice aa ks.length ac)), (8, .val (.pointer (some (⟨b, 0, none⟩)))), (10, .val (.pointer (some (⟨p, 0, none⟩)))), (15, .val (.int .i64 q1)), (16, .val (.int .i64 at1)), (17, .val (.int .i64 rd)), (86, .val (.pointer (some (⟨b, 0, none⟩))))]) (h1 := fun _ => [(b, .cells #[.int .i64 0, .int .i64 1, .int .i64 0, .int .i64 n, .int .i64 tm, .slice (some (⟨g1, 0, none⟩)) k cap1] 86 (0, 0)), (p, .cells #[.int .i64 0, .int .i64 1, .int .i64 0, .int .i64 q1, .int .i64 t1, .map (some q)] 89 (0, 0)), (q, Obj.map es clock), (g1, .cells cur1 37 (0, 0))]) (p1 := fun _ => []) (W1 := []) (fun _ => by kernel_rfl) (fun _ => trivial) (fun _ => ?_)
    refine JR_call [] [] 14 #[.pointer (some (⟨b, 0, none⟩))] (some 87) (by kernel_rfl) (by kernel_rfl) (fun a w s => ?_)
    cases k with
    | zero =>
      refine (again14nil (s.at 0 rfl)).mono ?_
      rintro e w5 ⟨rfl, hf5⟩
      refine ⟨_, _, rfl, (did_pure s hf5).1, (did_pure s hf5).2, ?_⟩
      refine JR_run (id := 19) (rest := []) [.rd 2 [] 0 0] [0, 1, 2, 8, 10, 15, 16, 17, 18] (E1 := fun _ => [(0, .val (.int .i64 n)), (1, .val (.slice la ls.length lc)), (2, .val (.slice aa ks.length ac)), (8, .val (.pointer (some (⟨b, 0, none⟩)))), (10, .val (.pointer (some (⟨p, 0, none⟩)))), (15, .val (.int .i64 q1)), (16, .val (.int .i64 at1)), (17, .val (.int .i64 rd)), (18, .val (.slice none 0 0))]) (h1 := fun _ => [(b, .cells #[.int .i64 0, .int .i64 1, .int .i64 0, .int .i64 n, .int .i64 tm, .slice (some (⟨g1, 0, none⟩)) 0 cap1] 86 (0, 0)), (p, .cells #[.int .i64 0, .int .i64 1, .int .i64 0, .int .i64 q1, .int .i64 t1, .map (some q)] 89 (0, 0)), (q, Obj.map es clock), (g1, .cells cur1 37 (0, 0))]) (p1 := fun _ => []) (W1 := []) (fun _ => by kernel_rfl) (fun _ => trivial) (fun _ => ?_)
      refine JR_end ?_
      refine J_seq ?_
      refine J_seq ?_
      refine J_reg mixed [.rd 0 [] 0 0] [] [0, 1, 2, 8, 10, 15, 16, 17, 18, 19] (E1 := fun _ => [(0, .val (.int .i64 n)), (1, .val (.slice la ls.length lc)), (2, .val (.slice aa ks.length ac)), (8, .val (.pointer (some (⟨b, 0, none⟩)))), (10, .val (.pointer (some (⟨p, 0, none⟩)))), (15, .val (.int .i64 q1)), (16, .val (.int .i64 at1)), (17, .val (.int .i64 rd)), (18, .val (.slice none 0 0)), (19, .val (.int .i64 0))]) (h1 := fun _ => [(b, .cells #[.int .i64 0, .int .i64 1, .int .i64 0, .int .i64 n, .int .i64 tm, .slice (some (⟨g1, 0, none⟩)) 0 cap1] 86 (0, 0)), (p, .cells #[.int .i64 0, .int .i64 1, .int .i64 0, .int .i64 q1, .int .i64 t1, .map (some q)] 89 (0, 0)), (q, Obj.map es clock), (g1, .cells cur1 37 (0, 0))]) (p1 := fun _ => []) (W1 := []) (by kernel_rfl) (fun _ => by kernel_rfl) (fun _ => trivial) (fun _ => ?_)
      refine J_block ?_
      refine J_loop1 fun I => ?_
      refine J_seq ?_
      refine J_seq ?_
      refine J_reg mixed [.rd 0 [] 0 0, .rd 1 [] 0 0, .rd 2 [] 0 0, .rd 3 [] 0 0] [] [0, 1, 2, 8, 10, 15, 16, 17, 18, 19, 91] (E1 := fun _ => [(0, .val (.int .i64 n)), (1, .val (.slice la ls.length lc)), (2, .val (.slice aa ks.length ac)), (8, .val (.pointer (some (⟨b, 0, none⟩)))), (10, .val (.pointer (some (⟨p, 0, none⟩)))), (15, .val (.int .i64 q1)), (16, .val (.int .i64 at1)), (17, .val (.int .i64 rd)), (18, .val (.slice none 0 0)), (19, .val (.int .i64 0)), (91, .val (.bool false))]) (h1 := fun _ => [(b, .cells #[.int .i64 0, .int .i64 1, .int .i64 0, .int .i64 n, .int .i64 tm, .slice (some (⟨g1, 0, none⟩)) 0 cap1] 86 (0, 0)), (p, .cells #[.int .i64 0, .int .i64 1, .int .i64 0, .int .i64 q1, .int .i64 t1, .map (some q)] 89 (0, 0)), (q, Obj.map es clock), (g1, .cells cur1 37 (0, 0))]) (p1 := fun _ => []) (W1 := []) (by kernel_rfl) (fun _ => by kernel_rfl) (fun _ => trivial) (fun _ => ?_)
      refine J_cond_f (by kernel_rfl) (by kernel_rfl) ?_
      refine J_exit rfl ?_
      refine J_seq ?_
      refine J_seq ?_
      refine J_cut [0, 1, 2, 8, 10, 15, 16, 17] [0, 1, 2, 3] 1 rfl rfl rfl ?_
      refine key _ q1 t1 es clock K at1 ?_ hm hK haq hqn hat0 (by omega) (fun _ => by simp only [Int.natCast_zero] at hak; omega)
      rfl
    | succ k =>
      refine (again14 (l := upto a1 (k + 1)) (by rw [upto_len]; omega) (by simp [upto]) (by rw [upto_len]; exact s.at 0 rfl) (s.at 3 rfl) (by rw [upto_len]; exact hrow)).mono ?_
      rintro e w3 ⟨g', cap', cur', rfl, hf3, hg0', hg3, hrow3⟩
      rw [upto_len] at hrow3 ⊢
      have D := did_new1 s hf3 hg3 hg0'
      refine ⟨_, _, rfl, D.1, D.2, ?_⟩
      refine JR_run (id := 19) (rest := []) [.rd 2 [] 0 0] [0, 1, 2, 8, 10, 15, 16, 17, 18] (E1 := fun _ => [(0, .val (.int .i64 n)), (1, .val (.slice la ls.length lc)), (2, .val (.slice aa ks.length ac)), (8, .val (.pointer (some (⟨b, 0, none⟩)))), (10, .val (.pointer (some (⟨p, 0, none⟩)))), (15, .val (.int .i64 q1)), (16, .val (.int .i64 at1)), (17, .val (.int .i64 rd)), (18, .val (.slice (some (⟨g', 0, none⟩)) (k + 1) cap'))]) (h1 := fun _ => [(b, .cells #[.int .i64 0, .int .i64 1, .int .i64 0, .int .i64 n, .int .i64 tm, .slice (some (⟨g1, 0, none⟩)) (k + 1) cap1] 86 (0, 0)), (p, .cells #[.int .i64 0, .int .i64 1, .int .i64 0, .int .i64 q1, .int .i64 t1, .map (some q)] 89 (0, 0)), (q, Obj.map es clock), (g1, .cells cur1 37 (0, 0)), (g', .cells cur' 37 (0, 0))]) (p1 := fun _ => []) (W1 := []) (fun _ => by kernel_rfl) (fun _ => trivial) (fun _ => ?_)
      refine JR_end ?_
      refine J_seq ?_
      refine J_seq ?_
      refine lossyInner (by simp [hF]) hls hln (by omega) (by omega) (by exact_mod_cast hak) ha0 haq hat0 (by omega) hrow3 hm hK hqn fun q1' t1' es' clock' K' hm' hK' hle hleN hfull => ?_
      refine J_seq ?_
      refine J_seq ?_
      refine J_cut [0, 1, 2, 8, 10, 15, 16, 17] [0, 1, 2, 3] 1 rfl rfl rfl ?_
      refine key _ q1' t1' es' clock' K' (at1 + (k + 1 : Nat)) ?_ hm' hK' (by omega) hleN (by omega) (by omega) (fun h => by have := hfull h; omega)
      rfl
  · have he : rd = ks.length + 1 := by simp at hlt; omega
    obtain ⟨rfl, rfl⟩ := hlast he
    obtain rfl : k = 0 := by omega
    refine J_exit rfl ?_
    refine J_seq ?_
    refine JR_begin mixed [(0, true), (1, true), (2, true), (3, true), (4, true), (5, false), (6, true), (7, true), (8, true), (9, true)] [] (by kernel_rfl) (by kernel_rfl) ?_
    refine JR_run (id := 34) (rest := [(5, false), (6, true), (7, true), (8, true), (9, true)]) [.rd 0 [] 0 0, .rd 1 [] 0 0, .rd 2 [] 0 6, .rd 3 [] 0 0, .rd 4 [] 0 0] [155, 156] (E1 := fun _ => [(155, .val (.bool true)), (156, .val (.pointer (some (⟨b, 0, none⟩))))]) (h1 := fun _ => [(b, .cells #[.int .i64 0, .int .i64 1, .int .i64 0, .int .i64 q1, .int .i64 tm, .slice (some (⟨g1, 0, none⟩)) 0 cap1] 86 (0, 0)), (p, .cells #[.int .i64 0, .int .i64 1, .int .i64 0, .int .i64 q1, .int .i64 t1, .map (some q)] 89 (0, 0)), (q, Obj.map es clock), (g1, .cells cur1 37 (0, 0))]) (p1 := fun _ => [(q1 == q1) = true]) (W1 := []) (fun _ => by kernel_rfl) (fun _ => ⟨by simp, trivial⟩) (fun _ => ?_)
    refine JR_call [] [] 14 #[.pointer (some (⟨b, 0, none⟩))] (some 157) (by kernel_rfl) (by kernel_rfl) (fun a w s => ?_)
    refine (again14nil (s.at 0 rfl)).mono ?_
    rintro e w5 ⟨rfl, hf5⟩
    refine ⟨_, _, rfl, (did_pure s hf5).1, (did_pure s hf5).2, ?_⟩
    refine JR_run (id := 34) (rest := []) [.rd 6 [] 0 0, .rd 7 [] 0 0, .rd 8 [] 0 0, .rd 9 [] 0 0] [6] (E1 := fun _ => [(6, .val (.bool true))]) (h1 := fun _ => [(b, .cells #[.int .i64 0, .int .i64 1, .int .i64 0, .int .i64 q1, .int .i64 tm, .slice (some (⟨g1, 0, none⟩)) 0 cap1] 86 (0, 0)), (p, .cells #[.int .i64 0, .int .i64 1, .int .i64 0, .int .i64 q1, .int .i64 t1, .map (some q)] 89 (0, 0)), (q, Obj.map es clock), (g1, .cells cur1 37 (0, 0))]) (p1 := fun _ => []) (W1 := []) (fun _ => by kernel_rfl) (fun _ => trivial) (fun _ => ?_)
    refine JR_end ?_
    refine J_return [[]] (.bool true) (by kernel_rfl) (fun a w s => ?_)
    exact ⟨rfl, s.fr ([], w0) (by simp [hF])⟩
end Go.Proofs.YtgelnbgjabpdbaaDoor
