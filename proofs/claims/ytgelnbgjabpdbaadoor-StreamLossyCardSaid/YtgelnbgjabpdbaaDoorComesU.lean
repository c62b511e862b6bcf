/- Streams: StreamComes, its second loop. -/
import Derived.Test.YtgelnbgjabpdbaaDoorComesT
import Derived.Test.YtgelnbgjabpdbaaDoorSx12
namespace Go.Proofs.YtgelnbgjabpdbaaDoor
open Go Go.Sx

structure C2 where
  j : Int
  q1 : Int
  t1 : Int
  es : Array MapEntry
  clock : Nat
  K : Int → Prop
def C2.ok (n : Int) (m : Nat) (x : C2) (_ : World) : Prop := 0 ≤ x.j ∧ x.j ≤ m + n ∧ 0 ≤ x.q1 ∧ x.q1 ≤ n ∧ (∀ i, x.K i → x.q1 + 1 < i ∧ i ≤ n) ∧ MapOf (.int .i64) x.es (kf 2 3 1 x.K) ∧ x.j - m ≤ x.q1

theorem comesTail {w0 : World} {F : List (List Nat × World)} {tm : Int} {ad : Option Addr} {zs : List Int} {c b p q g1 k cap1 g2 cap2 : Nat} {cur1 cur2 : Array Value}
    (hF : ([], w0) ∈ F) (hz : IntsAt w0 ad zs) (hm : zs.length ≤ 100) (hk : k ≤ 40) (hk0 : 0 < k) (hrow1 : Row cur1 cap1 k 9 (bcs 2 3 1 (upto 0 k))) (hrow2 : Row cur2 cap2 k 9 (bcs 2 3 1 (upto 0 k))) :
    J Tryd.prog Tryd.f3 (retR Tryd.prog Tryd.f3 (comesP w0)) Tryd.f3.ntmps [.c (.rg 16 false), .c (.seq (.seq (.rg 17 false) (.block 2 (.loop (.seq (.seq (.rg 18 false) (.cond (.tmp 81) .skip (.exit 2))) (.seq (.block 3 (.seq (.rg 20 false) (.seq (.seq (.rg 21 false) (.cond (.tmp 91) (.rg 22 false) .skip)) (.seq (.seq (.rg 23 false) (.cond (.tmp 102) (.exit 3) .skip)) (.seq (.rg 24 false) (.seq (.seq (.rg 25 false) (.cond (.tmp 113) (.seq (.rg 26 false) .ret) .skip)) (.seq (.rg 27 false) (.block 4 (.loop (.seq (.seq (.rg 28 false) (.cond (.tmp 117) .skip (.exit 4))) (.seq (.block 5 (.seq (.seq (.rg 30 false) (.cond (.tmp 136) (.seq (.rg 31 false) .ret) .skip)) (.rg 32 false))) (.rg 29 false)))))))))))) (.rg 19 false)))))) (.seq (.seq (.rg 33 false) (.cond (.tmp 143) (.seq (.rg 34 false) .ret) .skip)) (.seq (.rg 35 false) .ret)))]
      [(0, .val (.int .i64 (k : Int))), (1, .val (.slice ad zs.length c)), (6, .val (.pointer (some ⟨b, 0, none⟩))), (8, .val (.pointer (some ⟨p, 0, none⟩))), (10, .val (.slice (some ⟨g2, 0, none⟩) k cap2))]
      (cH k tm b p q g1 k cap1 g2 cur1 cur2 0 0 #[] 0) [] F := by
  refine J_reg mixed [.rd 0 [] 0 0] [] [0, 1, 6, 8, 10, 14] (E1 := fun _ => [(0, .val (.int .i64 (↑k : Int))), (1, .val (.slice ad zs.length c)), (6, .val (.pointer (some (⟨b, 0, none⟩)))), (8, .val (.pointer (some (⟨p, 0, none⟩)))), (10, .val (.slice (some (⟨g2, 0, none⟩)) k cap2)), (14, .val (.int .i64 1))]) (h1 := fun _ => [(b, .cells #[.int .i64 2, .int .i64 3, .int .i64 1, .int .i64 (↑k : Int), .int .i64 tm, .slice (some (⟨g1, 0, none⟩)) k cap1] 86 (0, 0)), (p, .cells #[.int .i64 2, .int .i64 3, .int .i64 1, .int .i64 0, .int .i64 0, .map (some q)] 89 (0, 0)), (q, Obj.map #[] 0), (g1, .cells cur1 37 (0, 0)), (g2, .cells cur2 37 (0, 0))]) (p1 := fun _ => []) (W1 := []) (by kernel_rfl) (fun _ => by kernel_rfl) (fun _ => trivial) (fun _ => ?_)
  refine J_seq ?_
  refine J_seq ?_
  refine J_reg mixed [.rd 0 [] 0 0] [] [0, 1, 6, 8, 10, 14, 15] (E1 := fun _ => [(0, .val (.int .i64 (↑k : Int))), (1, .val (.slice ad zs.length c)), (6, .val (.pointer (some (⟨b, 0, none⟩)))), (8, .val (.pointer (some (⟨p, 0, none⟩)))), (10, .val (.slice (some (⟨g2, 0, none⟩)) k cap2)), (14, .val (.int .i64 1)), (15, .val (.int .i64 0))]) (h1 := fun _ => [(b, .cells #[.int .i64 2, .int .i64 3, .int .i64 1, .int .i64 (↑k : Int), .int .i64 tm, .slice (some (⟨g1, 0, none⟩)) k cap1] 86 (0, 0)), (p, .cells #[.int .i64 2, .int .i64 3, .int .i64 1, .int .i64 0, .int .i64 0, .map (some q)] 89 (0, 0)), (q, Obj.map #[] 0), (g1, .cells cur1 37 (0, 0)), (g2, .cells cur2 37 (0, 0))]) (p1 := fun _ => []) (W1 := []) (by kernel_rfl) (fun _ => by kernel_rfl) (fun _ => trivial) (fun _ => ?_)
  refine J_block ?_
  refine J_loopx (fun x : C2 => cE k ad zs.length c b p g2 k cap2 (x.q1 + 1) x.j) (fun x => cH k tm b p q g1 k cap1 g2 cur1 cur2 x.q1 x.t1 x.es x.clock) (fun x => (zs.length + k - x.j).toNat) (C2.ok k zs.length) ⟨0, 0, 0, #[], 0, fun _ => False⟩ [0, 1, 6, 8, 10, 14, 15] (fun _ _ _ => ⟨by simp, by simp only; omega, by simp, by simp, by simp, ?_, by simp⟩) (by kernel_rfl) rfl ?_
  · exact (MapOf.empty _).congr fun x => by unfold kf; split <;> simp
  · rintro ⟨j, q1, t1, es, clock, K⟩ w ⟨hj0, hj, hq0, hqn, hK, hmap, hjq⟩
    simp only at hj0 hj hq0 hqn hK hmap hjq
    refine J_seq ?_
    refine J_seq ?_
    refine J_reg mixed [.rd 0 [] 0 0, .rd 1 [] 0 0, .rd 2 [] 0 0, .rd 3 [] 0 0, .rd 4 [] 0 1, .rd 5 [] 0 0] [] [0, 1, 6, 8, 10, 14, 15, 81] (E1 := fun _ => [(0, .val (.int .i64 (↑k : Int))), (1, .val (.slice ad zs.length c)), (6, .val (.pointer (some (⟨b, 0, none⟩)))), (8, .val (.pointer (some (⟨p, 0, none⟩)))), (10, .val (.slice (some (⟨g2, 0, none⟩)) k cap2)), (14, .val (.int .i64 (q1 + 1))), (15, .val (.int .i64 j)), (81, .val (.bool (decide (j < (↑zs.length : Int) + (↑k : Int)))))]) (h1 := fun _ => [(b, .cells #[.int .i64 2, .int .i64 3, .int .i64 1, .int .i64 (↑k : Int), .int .i64 tm, .slice (some (⟨g1, 0, none⟩)) k cap1] 86 (0, 0)), (p, .cells #[.int .i64 2, .int .i64 3, .int .i64 1, .int .i64 q1, .int .i64 t1, .map (some q)] 89 (0, 0)), (q, Obj.map es clock), (g1, .cells cur1 37 (0, 0)), (g2, .cells cur2 37 (0, 0))]) (p1 := fun _ => [IntKind.i64.wrap ((↑zs.length : Int) + (↑k : Int)) = (↑zs.length : Int) + (↑k : Int)]) (W1 := []) (by kernel_rfl) (fun _ => by kernel_rfl) (fun _ => ⟨wrap_i64 (by omega) (by omega), trivial⟩) (fun _ => ?_)
    refine J_cond (t := decide (j < (↑zs.length : Int) + (↑k : Int))) (by kernel_rfl) (by kernel_rfl) (fun hlt => ?_) (fun hlt => ?_)
    · have hlt2 : j < zs.length + k := by simpa using hlt
      refine J_skip ?_
      refine J_seq ?_
      refine J_block ?_
      refine J_seq ?_
      refine J_reg mixed [.rd 0 [] 0 0, .rd 1 [] 0 0, .rd 2 [] 0 0, .rd 3 [] 0 1, .rd 4 [] 0 0] [] [0, 1, 6, 8, 10, 14, 15, 16] (E1 := fun _ => [(0, .val (.int .i64 (↑k : Int))), (1, .val (.slice ad zs.length c)), (6, .val (.pointer (some (⟨b, 0, none⟩)))), (8, .val (.pointer (some (⟨p, 0, none⟩)))), (10, .val (.slice (some (⟨g2, 0, none⟩)) k cap2)), (14, .val (.int .i64 (q1 + 1))), (15, .val (.int .i64 j)), (16, .val (.int .i64 (j - (↑zs.length : Int))))]) (h1 := fun _ => [(b, .cells #[.int .i64 2, .int .i64 3, .int .i64 1, .int .i64 (↑k : Int), .int .i64 tm, .slice (some (⟨g1, 0, none⟩)) k cap1] 86 (0, 0)), (p, .cells #[.int .i64 2, .int .i64 3, .int .i64 1, .int .i64 q1, .int .i64 t1, .map (some q)] 89 (0, 0)), (q, Obj.map es clock), (g1, .cells cur1 37 (0, 0)), (g2, .cells cur2 37 (0, 0))]) (p1 := fun _ => [IntKind.i64.wrap (j - (↑zs.length : Int)) = j - (↑zs.length : Int)]) (W1 := []) (by kernel_rfl) (fun _ => by kernel_rfl) (fun _ => ⟨wrap_i64 (by omega) (by omega), trivial⟩) (fun _ => ?_)
      refine J_seq ?_
      refine J_seq ?_
      refine J_reg mixed [.rd 0 [] 0 0, .rd 1 [] 0 0, .rd 2 [] 0 0, .rd 3 [] 0 0] [] [0, 1, 6, 8, 10, 14, 15, 16, 91] (E1 := fun _ => [(0, .val (.int .i64 (↑k : Int))), (1, .val (.slice ad zs.length c)), (6, .val (.pointer (some (⟨b, 0, none⟩)))), (8, .val (.pointer (some (⟨p, 0, none⟩)))), (10, .val (.slice (some (⟨g2, 0, none⟩)) k cap2)), (14, .val (.int .i64 (q1 + 1))), (15, .val (.int .i64 j)), (16, .val (.int .i64 (j - (↑zs.length : Int)))), (91, .val (.bool (decide (j < (↑zs.length : Int)))))]) (h1 := fun _ => [(b, .cells #[.int .i64 2, .int .i64 3, .int .i64 1, .int .i64 (↑k : Int), .int .i64 tm, .slice (some (⟨g1, 0, none⟩)) k cap1] 86 (0, 0)), (p, .cells #[.int .i64 2, .int .i64 3, .int .i64 1, .int .i64 q1, .int .i64 t1, .map (some q)] 89 (0, 0)), (q, Obj.map es clock), (g1, .cells cur1 37 (0, 0)), (g2, .cells cur2 37 (0, 0))]) (p1 := fun _ => []) (W1 := []) (by kernel_rfl) (fun _ => by kernel_rfl) (fun _ => trivial) (fun _ => ?_)
      refine J_cond (t := decide (j < (↑zs.length : Int))) (by kernel_rfl) (by kernel_rfl) (fun hjm => ?_) (fun hjm => ?_)
      · have hjm2 : j < zs.length := by simpa using hjm
        obtain ⟨bo, off, cs, ty, fz, rfl, hcs, hat⟩ := hz (by rintro rfl; simp at hjm2; omega)
        obtain ⟨z, hzz⟩ : ∃ z, zs[j.toNat]? = some z := ⟨_, List.getElem?_eq_getElem (by omega)⟩
        have hc : cs[off + j.toNat * 1]? = some (.int .i64 z) := by rw [Nat.mul_one]; exact hat _ _ hzz
        refine J_open (M := []) (w1 := w0) (by simp [hF]) hcs (by simp) ?_
        refine J_reg mixed [.rd 0 [] 0 0, .rd 1 [] 0 0, .rd 2 [] 0 2, .rd 3 [.r 0 (some (.int .i64 z))] 0 0, .rd 4 [] 0 0] [] [0, 1, 6, 8, 10, 14, 15, 16] (E1 := fun _ => [(0, .val (.int .i64 (↑k : Int))), (1, .val (.slice (some (⟨bo, off, none⟩)) zs.length c)), (6, .val (.pointer (some (⟨b, 0, none⟩)))), (8, .val (.pointer (some (⟨p, 0, none⟩)))), (10, .val (.slice (some (⟨g2, 0, none⟩)) k cap2)), (14, .val (.int .i64 (q1 + 1))), (15, .val (.int .i64 j)), (16, .val (.int .i64 z))]) (h1 := fun _ => [(b, .cells #[.int .i64 2, .int .i64 3, .int .i64 1, .int .i64 (↑k : Int), .int .i64 tm, .slice (some (⟨g1, 0, none⟩)) k cap1] 86 (0, 0)), (p, .cells #[.int .i64 2, .int .i64 3, .int .i64 1, .int .i64 q1, .int .i64 t1, .map (some q)] 89 (0, 0)), (q, Obj.map es clock), (g1, .cells cur1 37 (0, 0)), (g2, .cells cur2 37 (0, 0))]) (p1 := fun _ => [(0 : Int) ≤ j, j < (↑zs.length : Int), cs[off + j.toNat * (1 : Nat)]? = some (Value.int IntKind.i64 z)]) (W1 := []) (by kernel_rfl) (fun _ => by kernel_rfl) (fun _ => ⟨hj0, hjm2, hc, trivial⟩) (fun _ => ?_)
        refine J_seq ?_
        refine J_seq ?_
        refine J_reg mixed [.rd 0 [] 0 0, .rd 1 [] 0 0, .rd 2 [] 0 0, .rd 3 [] 2 0, .rd 4 [] 2 0, .rd 5 [] 2 0, .rd 6 [] 0 3] [] [0, 1, 6, 8, 10, 14, 15, 16, 102] (E1 := fun _ => [(0, .val (.int .i64 (↑k : Int))), (1, .val (.slice (some (⟨bo, off, none⟩)) zs.length c)), (6, .val (.pointer (some (⟨b, 0, none⟩)))), (8, .val (.pointer (some (⟨p, 0, none⟩)))), (10, .val (.slice (some (⟨g2, 0, none⟩)) k cap2)), (14, .val (.int .i64 (q1 + 1))), (15, .val (.int .i64 j)), (16, .val (.int .i64 z)), (102, .val (.bool (decide (z < 0) || decide (z ≥ (↑k : Int)))))]) (h1 := fun _ => [(b, .cells #[.int .i64 2, .int .i64 3, .int .i64 1, .int .i64 (↑k : Int), .int .i64 tm, .slice (some (⟨g1, 0, none⟩)) k cap1] 86 (0, 0)), (p, .cells #[.int .i64 2, .int .i64 3, .int .i64 1, .int .i64 q1, .int .i64 t1, .map (some q)] 89 (0, 0)), (q, Obj.map es clock), (g1, .cells cur1 37 (0, 0)), (g2, .cells cur2 37 (0, 0))]) (p1 := fun _ => []) (W1 := []) (by kernel_rfl) (fun _ => by kernel_rfl) (fun _ => trivial) (fun _ => ?_)
        refine J_cond (t := decide (z < 0) || decide (z ≥ (↑k : Int))) (by kernel_rfl) (by kernel_rfl) (fun hbad => ?_) (fun hbad => ?_)
        · refine J_exit rfl ?_
          refine J_reg mixed [.rd 0 [] 0 0, .rd 1 [] 0 1, .rd 2 [] 0 0] [] [0, 1, 6, 8, 10, 14, 15, 16] (E1 := fun _ => [(0, .val (.int .i64 (↑k : Int))), (1, .val (.slice (some (⟨bo, off, none⟩)) zs.length c)), (6, .val (.pointer (some (⟨b, 0, none⟩)))), (8, .val (.pointer (some (⟨p, 0, none⟩)))), (10, .val (.slice (some (⟨g2, 0, none⟩)) k cap2)), (14, .val (.int .i64 (q1 + 1))), (15, .val (.int .i64 (j + 1))), (16, .val (.int .i64 z))]) (h1 := fun _ => [(b, .cells #[.int .i64 2, .int .i64 3, .int .i64 1, .int .i64 (↑k : Int), .int .i64 tm, .slice (some (⟨g1, 0, none⟩)) k cap1] 86 (0, 0)), (p, .cells #[.int .i64 2, .int .i64 3, .int .i64 1, .int .i64 q1, .int .i64 t1, .map (some q)] 89 (0, 0)), (q, Obj.map es clock), (g1, .cells cur1 37 (0, 0)), (g2, .cells cur2 37 (0, 0))]) (p1 := fun _ => [IntKind.i64.wrap (j + (1 : Int)) = j + (1 : Int)]) (W1 := []) (by kernel_rfl) (fun _ => by kernel_rfl) (fun _ => ⟨wrap_i64 (by omega) (by omega), trivial⟩) (fun _ => ?_)
          refine J_backx (⟨j + 1, q1, t1, es, clock, K⟩ : C2) [0, 1, 6, 8, 10, 14, 15] (fun _ _ _ => ⟨by simp only; omega, by simp only; omega, hq0, hqn, hK, hmap, by simp only; omega⟩) (by simp only; omega) (by kernel_rfl) (by simp) (by simp) (by simp) (by simp +contextual)
        · obtain ⟨hz0, hzn⟩ : 0 ≤ z ∧ z < k := by simp at hbad; omega
          refine J_skip ?_
          refine J_seq ?_
          refine J_keep [0, 1, 6, 8, 10, 14, 15, 16] (J_ro [] (by simp) ?_)
          refine comesHear (by omega) rfl hrow2 hmap hK hq0 hqn hz0 hzn fun nx q1' t1' es' clock' K' hnx hm' hK' hle hleN himp => ?_
          subst hnx
          refine J_reg mixed [.rd 0 [] 0 0, .rd 1 [] 0 1, .rd 2 [] 0 0] [] [0, 1, 6, 8, 10, 14, 15] (E1 := fun _ => [(0, .val (.int .i64 (↑k : Int))), (1, .val (.slice (some (⟨bo, off, none⟩)) zs.length c)), (6, .val (.pointer (some (⟨b, 0, none⟩)))), (8, .val (.pointer (some (⟨p, 0, none⟩)))), (10, .val (.slice (some (⟨g2, 0, none⟩)) k cap2)), (14, .val (.int .i64 (q1' + 1))), (15, .val (.int .i64 (j + 1)))]) (h1 := fun _ => [(b, .cells #[.int .i64 2, .int .i64 3, .int .i64 1, .int .i64 (↑k : Int), .int .i64 tm, .slice (some (⟨g1, 0, none⟩)) k cap1] 86 (0, 0)), (p, .cells #[.int .i64 2, .int .i64 3, .int .i64 1, .int .i64 q1', .int .i64 t1', .map (some q)] 89 (0, 0)), (q, Obj.map es' clock'), (g1, .cells cur1 37 (0, 0)), (g2, .cells cur2 37 (0, 0))]) (p1 := fun _ => [IntKind.i64.wrap (j + (1 : Int)) = j + (1 : Int)]) (W1 := []) (by kernel_rfl) (fun _ => by kernel_rfl) (fun _ => ⟨wrap_i64 (by omega) (by omega), trivial⟩) (fun _ => ?_)
          refine J_backx (⟨j + 1, q1', t1', es', clock', K'⟩ : C2) [0, 1, 6, 8, 10, 14, 15] (fun _ _ _ => ⟨by simp only; omega, by simp only; omega, by simp only; omega, hleN, hK', hm', by simp only; omega⟩) (by simp only; omega) (by kernel_rfl) (by simp) (by simp) (by simp) (by simp +contextual)
      · have hjm2 : ¬ j < zs.length := by simpa using hjm
        refine J_skip ?_
        refine J_seq ?_
        refine J_seq ?_
        refine J_reg mixed [.rd 0 [] 0 0, .rd 1 [] 0 0, .rd 2 [] 0 0, .rd 3 [] 2 0, .rd 4 [] 2 0, .rd 5 [] 2 0, .rd 6 [] 0 3] [] [0, 1, 6, 8, 10, 14, 15, 16, 102] (E1 := fun _ => [(0, .val (.int .i64 (↑k : Int))), (1, .val (.slice ad zs.length c)), (6, .val (.pointer (some (⟨b, 0, none⟩)))), (8, .val (.pointer (some (⟨p, 0, none⟩)))), (10, .val (.slice (some (⟨g2, 0, none⟩)) k cap2)), (14, .val (.int .i64 (q1 + 1))), (15, .val (.int .i64 j)), (16, .val (.int .i64 (j - (↑zs.length : Int)))), (102, .val (.bool (decide (j - (↑zs.length : Int) < 0) || decide (j - (↑zs.length : Int) ≥ (↑k : Int)))))]) (h1 := fun _ => [(b, .cells #[.int .i64 2, .int .i64 3, .int .i64 1, .int .i64 (↑k : Int), .int .i64 tm, .slice (some (⟨g1, 0, none⟩)) k cap1] 86 (0, 0)), (p, .cells #[.int .i64 2, .int .i64 3, .int .i64 1, .int .i64 q1, .int .i64 t1, .map (some q)] 89 (0, 0)), (q, Obj.map es clock), (g1, .cells cur1 37 (0, 0)), (g2, .cells cur2 37 (0, 0))]) (p1 := fun _ => []) (W1 := []) (by kernel_rfl) (fun _ => by kernel_rfl) (fun _ => trivial) (fun _ => ?_)
        refine J_condF (decide (j - (↑zs.length : Int) < 0) || decide (j - (↑zs.length : Int) ≥ (↑k : Int))) (by kernel_rfl) (by kernel_rfl) (by simp; omega) ?_
        refine J_skip ?_
        refine J_seq ?_
        refine J_keep [0, 1, 6, 8, 10, 14, 15, 16] ?_
        refine comesHear (kk := j - zs.length) (by omega) rfl hrow2 hmap hK hq0 hqn (by omega) (by omega) fun nx q1' t1' es' clock' K' hnx hm' hK' hle hleN himp => ?_
        subst hnx
        refine J_reg mixed [.rd 0 [] 0 0, .rd 1 [] 0 1, .rd 2 [] 0 0] [] [0, 1, 6, 8, 10, 14, 15] (E1 := fun _ => [(0, .val (.int .i64 (↑k : Int))), (1, .val (.slice ad zs.length c)), (6, .val (.pointer (some (⟨b, 0, none⟩)))), (8, .val (.pointer (some (⟨p, 0, none⟩)))), (10, .val (.slice (some (⟨g2, 0, none⟩)) k cap2)), (14, .val (.int .i64 (q1' + 1))), (15, .val (.int .i64 (j + 1)))]) (h1 := fun _ => [(b, .cells #[.int .i64 2, .int .i64 3, .int .i64 1, .int .i64 (↑k : Int), .int .i64 tm, .slice (some (⟨g1, 0, none⟩)) k cap1] 86 (0, 0)), (p, .cells #[.int .i64 2, .int .i64 3, .int .i64 1, .int .i64 q1', .int .i64 t1', .map (some q)] 89 (0, 0)), (q, Obj.map es' clock'), (g1, .cells cur1 37 (0, 0)), (g2, .cells cur2 37 (0, 0))]) (p1 := fun _ => [IntKind.i64.wrap (j + (1 : Int)) = j + (1 : Int)]) (W1 := []) (by kernel_rfl) (fun _ => by kernel_rfl) (fun _ => ⟨wrap_i64 (by omega) (by omega), trivial⟩) (fun _ => ?_)
        refine J_backx (⟨j + 1, q1', t1', es', clock', K'⟩ : C2) [0, 1, 6, 8, 10, 14, 15] (fun _ _ _ => ⟨by simp only; omega, by simp only; omega, by simp only; omega, hleN, hK', hm', by simp only; omega⟩) (by simp only; omega) (by kernel_rfl) (by simp) (by simp) (by simp) (by simp +contextual)
    · have he : j = zs.length + k := by simp at hlt; omega
      have hq : q1 = k := by omega
      subst hq
      refine J_exit rfl ?_
      refine J_keep [0, 1, 6, 8, 10, 14, 15] ?_
      exact comesEnd (by simp [hF]) (by omega) hrow1
end Go.Proofs.YtgelnbgjabpdbaaDoor
