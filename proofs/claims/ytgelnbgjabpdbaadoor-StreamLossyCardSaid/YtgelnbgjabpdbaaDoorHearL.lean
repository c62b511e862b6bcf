/- Streams of beats: Hear. -/
import Derived.Test.YtgelnbgjabpdbaaDoorBeat
namespace Go.Proofs.YtgelnbgjabpdbaaDoor
open Go Go.Sx

open Classical in
/-- What a receiver keeps: the messages of the numbers K. -/
noncomputable def kf (fm d sh : Int) (K : Int → Prop) : Value → Option Value
  | .int .i64 k => if K k then some (.agg (bc fm d sh k (k - 1))) else none
  | _ => none
theorem kf_put (fm d sh : Int) (K : Int → Prop) (k : Int) (v : Value) : fput (kf fm d sh K) (.int .i64 k) (.agg (bc fm d sh k (k - 1))) v = kf fm d sh (fun j => j = k ∨ K j) v := by
  unfold fput kf
  by_cases h : v = .int .i64 k
  · subst h; simp
  · rw [if_neg h]
    split
    · rename_i j
      have : j ≠ k := fun e => h (by rw [e])
      by_cases hj : K j
      · rw [if_pos hj, if_pos (.inr hj)]
      · rw [if_neg hj, if_neg (by simp [this, hj])]
    · rfl
theorem kf_del (fm d sh : Int) (K : Int → Prop) (k : Int) (v : Value) : fdel (kf fm d sh K) (.int .i64 k) v = kf fm d sh (fun j => j ≠ k ∧ K j) v := by
  unfold fdel kf
  by_cases h : v = .int .i64 k
  · subst h; simp
  · rw [if_neg h]
    split
    · rename_i j
      have : j ≠ k := fun e => h (by rw [e])
      by_cases hj : K j
      · rw [if_pos hj, if_pos ⟨this, hj⟩]
      · rw [if_neg hj, if_neg (by simp [hj])]
    · rfl
theorem kf_some {fm d sh : Int} {K : Int → Prop} {k : Int} {v : Value} (h : kf fm d sh K (.int .i64 k) = some v) : K k ∧ v = .agg (bc fm d sh k (k - 1)) := by
  by_cases hk : K k
  · simp only [kf, if_pos hk, Option.some.injEq] at h
    exact ⟨hk, h.symm⟩
  · simp [kf, hk] at h
theorem kf_none {fm d sh : Int} {K : Int → Prop} {k : Int} (h : kf fm d sh K (.int .i64 k) = none) : ¬ K k := fun hk => by simp [kf, hk] at h

/-- The messages behind q, n of them. -/
def upto (q : Int) : Nat → List (Int × Int)
  | 0 => []
  | n + 1 => upto q n ++ [(q + n + 1, q + n)]

def hearPost (w0 : World) (b m : Nat) (fm d sh q k N : Int) (e : Ending) (w' : World) : Prop :=
  ∃ v q' t' es' clock' K', e = .returned (.tuple #[v, .nilIface]) ∧ Fr [b, m] w0 w' ∧ w'.heap[b]? = some (.cells (sc fm d sh q' t' (.map (some m))) 89 (0, 0)) ∧ w'.heap[m]? = some (.map es' clock') ∧ MapOf (.int .i64) es' (kf fm d sh K') ∧
      (∀ j, K' j → q' + 1 < j ∧ j ≤ N) ∧ q ≤ q' ∧ q' ≤ N ∧ (k ≤ q + 1 → k ≤ q') ∧
      ((q' = q ∧ v = .slice none 0 0) ∨ ∃ (n g cap : Nat) (cur : Array Value), q' = q + n ∧ v = .slice (some ⟨g, 0, none⟩) n cap ∧ w0.heap.size ≤ g ∧ w'.heap[g]? = some (.cells cur 37 (0, 0)) ∧ Row cur cap n 9 (bcs fm d sh (upto q n)))

/-- One state of the loop: the number, the time, the map; the row that goes out. -/
structure HS where
  q1 : Int
  t1 : Int
  es : Array MapEntry
  clock : Nat
  l : Option (Nat × Nat × Nat × Array Value)
def HS.E (b : Nat) (x : HS) : Env := match x with
  | ⟨_, _, _, _, none⟩ => [(0, .val (.pointer (some ⟨b, 0, none⟩))), (4, .val (.slice none 0 0)), (5, .val .nilIface)]
  | ⟨_, _, _, _, some (n, g, cap, _)⟩ => [(0, .val (.pointer (some ⟨b, 0, none⟩))), (4, .val (.slice (some ⟨g, 0, none⟩) n cap)), (5, .val .nilIface)]
def HS.h (b m : Nat) (fm d sh : Int) (x : HS) : List (Nat × Obj) := match x with
  | ⟨q1, t1, es, clock, none⟩ => [(b, .cells (sc fm d sh q1 t1 (.map (some m))) 89 (0, 0)), (m, .map es clock)]
  | ⟨q1, t1, es, clock, some (_, g, _, cur)⟩ => [(b, .cells (sc fm d sh q1 t1 (.map (some m))) 89 (0, 0)), (m, .map es clock), (g, .cells cur 37 (0, 0))]
def HS.ok (fm d sh q k N : Int) (x : HS) (_ : World) : Prop :=
  q ≤ x.q1 ∧ x.q1 ≤ N ∧ (∃ K, MapOf (.int .i64) x.es (kf fm d sh K) ∧ (∀ j, K j → x.q1 < j ∧ j ≤ N) ∧ (x.q1 = q → k = q + 1 → K k)) ∧
    match x.l with
    | none => x.q1 = q
    | some (n, _, cap, cur) => x.q1 = q + n ∧ Row cur cap n 9 (bcs fm d sh (upto q n))

theorem hearLoop {w0 : World} {b m clock : Nat} {es : Array MapEntry} {fm d sh q t k N : Int} {K : Int → Prop} (hm : MapOf (.int .i64) es (kf fm d sh K))
    (hK : ∀ j, K j → q < j ∧ j ≤ N) (hN : N ≤ 100) (hq : 0 ≤ q) (hqN : q ≤ N) (hk : k = q + 1 → K k) (hqk : q < k) :
    J Tryd.prog Tryd.f11 (retR Tryd.prog Tryd.f11 (hearPost w0 b m fm d sh q k N)) Tryd.f11.ntmps
      (.c (.loop (.block 2 (.seq (.rg 12 true) (.seq (.seq (.rg 13 false) (.cond (.tmp 107) (.seq (.rg 14 false) .ret) .skip)) (.seq (.rg 15 true) (.seq (.rg 16 true) (.rg 17 false))))))) :: [.eb 1])
      [(0, .val (.pointer (some ⟨b, 0, none⟩))), (4, .val (.slice none 0 0)), (5, .val .nilIface)] [(b, .cells (sc fm d sh q t (.map (some m))) 89 (0, 0)), (m, .map es clock)] [] [([b, m], w0)] := by
  refine J_loopx (HS.E b) (HS.h b m fm d sh) (fun x => (N - x.q1).toNat) (HS.ok fm d sh q k N) ⟨q, t, es, clock, none⟩ [0, 4, 5] (fun _ _ _ => ⟨Int.le_refl _, hqN, ⟨K, hm, hK, fun _ => hk⟩, rfl⟩) (by kernel_rfl) rfl ?_
  rintro ⟨q1, t1, es1, c1, _ | ⟨n, g, cap, cur⟩⟩ w ⟨hq1, hq1N, ⟨K1, hm1, hK1, hk1⟩, hl⟩
  · simp only at hq1 hq1N hm1 hK1 hk1 hl
    subst hl
    refine J_block ?_
    refine J_seq ?_
    refine JR_begin mixed [(0, true), (1, true), (2, true), (3, true), (4, true), (5, true), (6, true), (7, true), (8, true), (9, true), (10, true), (11, true), (12, true), (13, false), (14, false), (15, true)] [(14, [])] (by kernel_rfl) (by kernel_rfl) ?_
    refine JR_run (id := 12) (rest := [(9, true), (10, true), (11, true), (12, true), (13, false), (14, false), (15, true)]) [.rd 0 [] 0 0, .rd 1 [] 0 0, .rd 2 [] 0 0, .rd 3 [.o 0 none] 0 0, .rd 4 [] 0 0, .rd 5 [] 0 0, .rd 6 [] 0 0, .rd 7 [.o 0 none] 0 0, .rd 8 [] 0 1] [0, 4, 5, 97, 102] (E1 := fun _ => [(0, .val (.pointer (some (⟨b, 0, none⟩)))), (4, .val (.slice none 0 0)), (5, .val (.nilIface)), (97, .val (.map (some m))), (102, .val (.int .i64 (q1 + 1)))]) (h1 := fun _ => [(b, .cells #[.int .i64 fm, .int .i64 d, .int .i64 sh, .int .i64 q1, .int .i64 t1, .map (some m)] 89 (0, 0)), (m, Obj.map es1 c1)]) (p1 := fun _ => [IntKind.i64.wrap (q1 + (1 : Int)) = q1 + (1 : Int)]) (W1 := [(14, [])]) (fun _ => by kernel_rfl) (fun _ => ⟨wrap_i64 (by omega) (by omega), trivial⟩) (fun _ => ?_)
    refine JR_lookr (.o 1 none) m 87 3 37 (TypeDesc.int IntKind.i64) (.int .i64 (q1 + 1)) (.agg #[.int .i64 0, .int .i64 0, .int .i64 0, .int .i64 0, .int .i64 0, .bool false, .slice none 0 0, .int .i64 0, .slice none 0 0]) true (some 103) (by kernel_rfl) (by kernel_rfl) (by kernel_rfl) (by kernel_rfl) (by simp [MapKept.IsKey]) (by kernel_rfl) rfl hm1 (fun hno => ?_) (fun v hv => ?_)
    · refine JR_run (id := 12) (rest := []) [.rd 10 [] 0 0, .rd 11 [] 0 0, .rd 12 [] 0 0, .wr 13 [] 0, .wr 14 [.o 2 none, .o 2 none, .o 2 none, .o 2 none, .o 2 none, .o 2 none, .o 2 none, .o 2 none, .o 2 none] 0, .rd 15 [] 0 0] [0, 4, 5, 8, 9] (E1 := fun nu1 => [(0, .val (.pointer (some (⟨b, 0, none⟩)))), (4, .val (.slice none 0 0)), (5, .val (.nilIface)), (8, .val (.pointer (some (⟨nu1 0, 0, none⟩)))), (9, .val (.bool false))]) (h1 := fun nu1 => [(b, .cells #[.int .i64 fm, .int .i64 d, .int .i64 sh, .int .i64 q1, .int .i64 t1, .map (some m)] 89 (0, 0)), (m, Obj.map es1 c1), (nu1 0, .cells #[.int .i64 0, .int .i64 0, .int .i64 0, .int .i64 0, .int .i64 0, .bool false, .slice none 0 0, .int .i64 0, .slice none 0 0] 37 (0, 0))]) (p1 := fun nu1 => []) (W1 := []) (fun _ => by kernel_rfl) (fun _ => trivial) (fun nu1 => ?_)
      refine JR_end ?_
      refine J_seq ?_
      refine J_seq ?_
      refine J_reg mixed [.rd 0 [] 0 0, .rd 1 [] 0 0] [] [0, 4, 5, 8, 9, 107] (E1 := fun _ => [(0, .val (.pointer (some (⟨b, 0, none⟩)))), (4, .val (.slice none 0 0)), (5, .val (.nilIface)), (8, .val (.pointer (some (⟨nu1 0, 0, none⟩)))), (9, .val (.bool false)), (107, .val (.bool true))]) (h1 := fun _ => [(b, .cells #[.int .i64 fm, .int .i64 d, .int .i64 sh, .int .i64 q1, .int .i64 t1, .map (some m)] 89 (0, 0)), (m, Obj.map es1 c1), (nu1 0, .cells #[.int .i64 0, .int .i64 0, .int .i64 0, .int .i64 0, .int .i64 0, .bool false, .slice none 0 0, .int .i64 0, .slice none 0 0] 37 (0, 0))]) (p1 := fun _ => []) (W1 := []) (by kernel_rfl) (fun _ => by kernel_rfl) (fun _ => trivial) (fun _ => ?_)
      refine J_cond_t (by kernel_rfl) (by kernel_rfl) ?_
      refine J_seq ?_
      refine J_reg mixed [.rd 0 [] 0 0, .rd 1 [] 0 0, .rd 2 [] 0 0] [] [0, 4, 5, 8, 9] (E1 := fun _ => [(0, .val (.pointer (some (⟨b, 0, none⟩)))), (4, .val (.slice none 0 0)), (5, .val (.nilIface)), (8, .val (.pointer (some (⟨nu1 0, 0, none⟩)))), (9, .val (.bool false))]) (h1 := fun _ => [(b, .cells #[.int .i64 fm, .int .i64 d, .int .i64 sh, .int .i64 q1, .int .i64 t1, .map (some m)] 89 (0, 0)), (m, Obj.map es1 c1), (nu1 0, .cells #[.int .i64 0, .int .i64 0, .int .i64 0, .int .i64 0, .int .i64 0, .bool false, .slice none 0 0, .int .i64 0, .slice none 0 0] 37 (0, 0))]) (p1 := fun _ => []) (W1 := []) (by kernel_rfl) (fun _ => by kernel_rfl) (fun _ => trivial) (fun _ => ?_)
      refine J_return [[], []] (.tuple #[.slice none 0 0, .nilIface]) (by kernel_rfl) (fun a w s => ?_)
      refine ⟨.slice none 0 0, q1, t1, es1, c1, K1, rfl, s.fr ([b, m], w0) (by simp), s.at 0 rfl, s.at 1 rfl, hm1, fun j hj => ?_, hq1, hq1N, fun hkq => ?_, .inl ⟨rfl, rfl⟩⟩
      · have h1 := hK1 j hj
        have h2 : j ≠ q1 + 1 := fun e => kf_none hno (e ▸ hj)
        omega
      · have h1 : k = q1 + 1 := by omega
        exact absurd (h1 ▸ hk1 rfl h1) (kf_none hno)
    · obtain ⟨hKk, rfl⟩ := kf_some hv
      have hle := hK1 _ hKk
      refine JR_run (id := 12) (rest := []) [.rd 10 [] 0 0, .rd 11 [] 0 0, .rd 12 [] 0 0, .wr 13 [] 0, .wr 14 [.o 2 none, .o 2 none, .o 2 none, .o 2 none, .o 2 none, .o 2 none, .o 2 none, .o 2 none, .o 2 none] 0, .rd 15 [] 0 0] [0, 4, 5, 8, 9] (E1 := fun nu1 => [(0, .val (.pointer (some (⟨b, 0, none⟩)))), (4, .val (.slice none 0 0)), (5, .val (.nilIface)), (8, .val (.pointer (some (⟨nu1 0, 0, none⟩)))), (9, .val (.bool true))]) (h1 := fun nu1 => [(b, .cells #[.int .i64 fm, .int .i64 d, .int .i64 sh, .int .i64 q1, .int .i64 t1, .map (some m)] 89 (0, 0)), (m, Obj.map es1 c1), (nu1 0, .cells #[.int .i64 fm, .int .i64 d, .int .i64 sh, .int .i64 (q1 + 1), .int .i64 (q1 + 1 - 1), .bool true, .slice none 0 0, .int .i64 0, .slice none 0 0] 37 (0, 0))]) (p1 := fun nu1 => []) (W1 := []) (fun _ => by kernel_rfl) (fun _ => trivial) (fun nu1 => ?_)
      refine JR_end ?_
      refine J_seq ?_
      refine J_seq ?_
      refine J_reg mixed [.rd 0 [] 0 0, .rd 1 [] 0 0] [] [0, 4, 5, 8, 9, 107] (E1 := fun _ => [(0, .val (.pointer (some (⟨b, 0, none⟩)))), (4, .val (.slice none 0 0)), (5, .val (.nilIface)), (8, .val (.pointer (some (⟨nu1 0, 0, none⟩)))), (9, .val (.bool true)), (107, .val (.bool false))]) (h1 := fun _ => [(b, .cells #[.int .i64 fm, .int .i64 d, .int .i64 sh, .int .i64 q1, .int .i64 t1, .map (some m)] 89 (0, 0)), (m, Obj.map es1 c1), (nu1 0, .cells #[.int .i64 fm, .int .i64 d, .int .i64 sh, .int .i64 (q1 + 1), .int .i64 (q1 + 1 - 1), .bool true, .slice none 0 0, .int .i64 0, .slice none 0 0] 37 (0, 0))]) (p1 := fun _ => []) (W1 := []) (by kernel_rfl) (fun _ => by kernel_rfl) (fun _ => trivial) (fun _ => ?_)
      refine J_cond_f (by kernel_rfl) (by kernel_rfl) ?_
      refine J_skip ?_
      refine J_seq ?_
      refine JR_begin mixed [(0, true), (1, true), (2, true), (3, true), (4, true), (5, true), (6, false)] [(6, [1])] (by kernel_rfl) (by kernel_rfl) ?_
      refine JR_run (id := 15) (rest := [(6, false)]) [.rd 0 [] 0 0, .rd 1 [] 0 0, .rd 2 [] 0 0, .rd 3 [.o 0 none] 0 0, .rd 4 [] 0 0, .rd 5 [.o 2 none] 0 0] [0, 4, 5, 8, 9, 112, 114] (E1 := fun _ => [(0, .val (.pointer (some (⟨b, 0, none⟩)))), (4, .val (.slice none 0 0)), (5, .val (.nilIface)), (8, .val (.pointer (some (⟨nu1 0, 0, none⟩)))), (9, .val (.bool true)), (112, .val (.map (some m))), (114, .val (.int .i64 (q1 + 1)))]) (h1 := fun _ => [(b, .cells #[.int .i64 fm, .int .i64 d, .int .i64 sh, .int .i64 q1, .int .i64 t1, .map (some m)] 89 (0, 0)), (m, Obj.map es1 c1), (nu1 0, .cells #[.int .i64 fm, .int .i64 d, .int .i64 sh, .int .i64 (q1 + 1), .int .i64 (q1 + 1 - 1), .bool true, .slice none 0 0, .int .i64 0, .slice none 0 0] 37 (0, 0))]) (p1 := fun _ => []) (W1 := [(6, [1])]) (fun _ => by kernel_rfl) (fun _ => trivial) (fun _ => ?_)
      refine JR_del 1 m 87 3 37 (TypeDesc.int IntKind.i64) (.int .i64 (q1 + 1)) none (by kernel_rfl) (by kernel_rfl) (by kernel_rfl) (by kernel_rfl) (by simp [MapKept.IsKey]) rfl hm1 (fun es3 hm3 hsz3 => ?_)
      refine JR_end ?_
      refine J_seq ?_
      refine J_reg mixed [.rd 0 [] 0 0, .rd 1 [] 0 0, .rd 2 [] 0 0, .rd 3 [.o 2 none] 0 0, .rd 4 [] 0 0, .rd 5 [.o 2 none] 0 0, .rd 6 [] 0 0, .rd 7 [] 0 0, .wr 8 [.o 0 none] 0, .rd 9 [] 0 0, .rd 10 [] 0 0, .wr 11 [.o 0 none] 0] [(8, [0]), (11, [0])] [0, 4, 5, 8, 9, 112, 114] (E1 := fun _ => [(0, .val (.pointer (some (⟨b, 0, none⟩)))), (4, .val (.slice none 0 0)), (5, .val (.nilIface)), (8, .val (.pointer (some (⟨nu1 0, 0, none⟩)))), (9, .val (.bool true)), (112, .val (.map (some m))), (114, .val (.int .i64 (q1 + 1)))]) (h1 := fun _ => [(b, .cells #[.int .i64 fm, .int .i64 d, .int .i64 sh, .int .i64 (q1 + 1), .int .i64 (q1 + 1 - 1), .map (some m)] 89 (0, 0)), (m, Obj.map es3 c1), (nu1 0, .cells #[.int .i64 fm, .int .i64 d, .int .i64 sh, .int .i64 (q1 + 1), .int .i64 (q1 + 1 - 1), .bool true, .slice none 0 0, .int .i64 0, .slice none 0 0] 37 (0, 0))]) (p1 := fun _ => []) (W1 := []) (by kernel_rfl) (fun _ => by kernel_rfl) (fun _ => trivial) (fun _ => ?_)
      refine JR_begin mixed [(0, true), (1, true), (2, false), (3, false), (4, true)] [] (by kernel_rfl) (by kernel_rfl) ?_
      refine JR_run (id := 17) (rest := [(3, false), (4, true)]) [.rd 0 [] 0 0, .rd 1 [.o 2 none, .o 2 none, .o 2 none, .o 2 none, .o 2 none, .o 2 none, .o 2 none, .o 2 none, .o 2 none] 0 0, .wr 2 [] 0] [0, 4, 5, 8, 9, 112, 114, 125, 127] (E1 := fun nu2 => [(0, .val (.pointer (some (⟨b, 0, none⟩)))), (4, .val (.slice none 0 0)), (5, .val (.nilIface)), (8, .val (.pointer (some (⟨nu1 0, 0, none⟩)))), (9, .val (.bool true)), (112, .val (.map (some m))), (114, .val (.int .i64 (q1 + 1))), (125, .val (.slice none 0 0)), (127, .val (.slice (some (⟨nu2 0, 0, none⟩)) 1 1))]) (h1 := fun nu2 => [(b, .cells #[.int .i64 fm, .int .i64 d, .int .i64 sh, .int .i64 (q1 + 1), .int .i64 (q1 + 1 - 1), .map (some m)] 89 (0, 0)), (m, Obj.map es3 c1), (nu1 0, .cells #[.int .i64 fm, .int .i64 d, .int .i64 sh, .int .i64 (q1 + 1), .int .i64 (q1 + 1 - 1), .bool true, .slice none 0 0, .int .i64 0, .slice none 0 0] 37 (0, 0)), (nu2 0, .cells #[.int .i64 fm, .int .i64 d, .int .i64 sh, .int .i64 (q1 + 1), .int .i64 (q1 + 1 - 1), .bool true, .slice none 0 0, .int .i64 0, .slice none 0 0] 37 (0, 0))]) (p1 := fun nu2 => []) (W1 := []) (fun _ => by kernel_rfl) (fun _ => trivial) (fun nu2 => ?_)
      refine JR_appnil 32 37 9 104 (.agg #[.int .i64 0, .int .i64 0, .int .i64 0, .int .i64 0, .int .i64 0, .bool false, .slice none 0 0, .int .i64 0, .slice none 0 0]) (news := [.int .i64 fm, .int .i64 d, .int .i64 sh, .int .i64 (q1 + 1), .int .i64 (q1 + 1 - 1), .bool true, .slice none 0 0, .int .i64 0, .slice none 0 0]) (ax := (⟨nu2 0, 0, none⟩)) (m := 1) (c := 1) (dst := (some 128)) (by kernel_rfl) (by kernel_rfl) (by kernel_rfl) (by kernel_rfl) rfl (by decide) rfl (by decide) (src_blk (hn := .o 3 none) rfl (by intro j u hu; simpa using hu)) (by simp [Value.oneCell']) (by simp only [maxLen]; omega) (by omega) (fun g1 cap1 cur1 hrow1 => ?_)
      refine JR_run (id := 17) (rest := []) [.rd 4 [] 0 0] [0, 4, 5, 8, 9, 112, 114] (E1 := fun _ => [(0, .val (.pointer (some (⟨b, 0, none⟩)))), (4, .val (.slice (some (⟨g1, 0, none⟩)) 1 cap1)), (5, .val (.nilIface)), (8, .val (.pointer (some (⟨nu1 0, 0, none⟩)))), (9, .val (.bool true)), (112, .val (.map (some m))), (114, .val (.int .i64 (q1 + 1)))]) (h1 := fun _ => [(b, .cells #[.int .i64 fm, .int .i64 d, .int .i64 sh, .int .i64 (q1 + 1), .int .i64 (q1 + 1 - 1), .map (some m)] 89 (0, 0)), (m, Obj.map es3 c1), (nu1 0, .cells #[.int .i64 fm, .int .i64 d, .int .i64 sh, .int .i64 (q1 + 1), .int .i64 (q1 + 1 - 1), .bool true, .slice none 0 0, .int .i64 0, .slice none 0 0] 37 (0, 0)), (nu2 0, .cells #[.int .i64 fm, .int .i64 d, .int .i64 sh, .int .i64 (q1 + 1), .int .i64 (q1 + 1 - 1), .bool true, .slice none 0 0, .int .i64 0, .slice none 0 0] 37 (0, 0)), (g1, .cells cur1 37 (0, 0))]) (p1 := fun _ => []) (W1 := []) (fun _ => by kernel_rfl) (fun _ => trivial) (fun _ => ?_)
      refine JR_end ?_
      refine J_eb ?_
      refine J_backx (⟨q1 + 1, q1 + 1 - 1, es3, c1, some (1, g1, cap1, cur1)⟩ : HS) [0, 4, 5] (fun _ _ _ => ⟨by simp only; omega, by simp only; omega, ⟨_, hm3.congr (kf_del fm d sh K1 (q1 + 1)), fun j hj => ?_, fun e => by simp only at e; omega⟩, rfl, by simpa [bcs, upto] using hrow1⟩) (by simp only; omega) (by kernel_rfl) (by simp [HS.h]) (fun hn => by simp [HS.h] at hn ⊢; omega) (by simp) (by simp)
      have h1 := hK1 j hj.2
      have h2 := hj.1
      simp only
      omega
  · simp only at hq1 hq1N hm1 hK1 hk1 hl
    obtain ⟨rfl, hl2⟩ := hl
    have hrow' : ∀ cur' cap', Row cur' cap' (n + 1) 9 (bcs fm d sh (upto q n) ++ [.int .i64 fm, .int .i64 d, .int .i64 sh, .int .i64 (q + n + 1), .int .i64 (q + n + 1 - 1), .bool true, .slice none 0 0, .int .i64 0, .slice none 0 0]) → Row cur' cap' (n + 1) 9 (bcs fm d sh (upto q (n + 1))) := fun cur' cap' h => by
      rw [upto, bcs_app]
      simpa [bcs] using h
    refine J_block ?_
    refine J_seq ?_
    refine JR_begin mixed [(0, true), (1, true), (2, true), (3, true), (4, true), (5, true), (6, true), (7, true), (8, true), (9, true), (10, true), (11, true), (12, true), (13, false), (14, false), (15, true)] [(14, [])] (by kernel_rfl) (by kernel_rfl) ?_
    refine JR_run (id := 12) (rest := [(9, true), (10, true), (11, true), (12, true), (13, false), (14, false), (15, true)]) [.rd 0 [] 0 0, .rd 1 [] 0 0, .rd 2 [] 0 0, .rd 3 [.o 0 none] 0 0, .rd 4 [] 0 0, .rd 5 [] 0 0, .rd 6 [] 0 0, .rd 7 [.o 0 none] 0 0, .rd 8 [] 0 1] [0, 4, 5, 97, 102] (E1 := fun _ => [(0, .val (.pointer (some (⟨b, 0, none⟩)))), (4, .val (.slice (some (⟨g, 0, none⟩)) n cap)), (5, .val (.nilIface)), (97, .val (.map (some m))), (102, .val (.int .i64 (q + (↑n : Int) + 1)))]) (h1 := fun _ => [(b, .cells #[.int .i64 fm, .int .i64 d, .int .i64 sh, .int .i64 (q + (↑n : Int)), .int .i64 t1, .map (some m)] 89 (0, 0)), (m, Obj.map es1 c1), (g, .cells cur 37 (0, 0))]) (p1 := fun _ => [IntKind.i64.wrap (q + (↑n : Int) + (1 : Int)) = q + (↑n : Int) + (1 : Int)]) (W1 := [(14, [])]) (fun _ => by kernel_rfl) (fun _ => ⟨wrap_i64 (by omega) (by omega), trivial⟩) (fun _ => ?_)
    refine JR_lookr (.o 1 none) m 87 3 37 (TypeDesc.int IntKind.i64) (.int .i64 (q + (↑n : Int) + 1)) (.agg #[.int .i64 0, .int .i64 0, .int .i64 0, .int .i64 0, .int .i64 0, .bool false, .slice none 0 0, .int .i64 0, .slice none 0 0]) true (some 103) (by kernel_rfl) (by kernel_rfl) (by kernel_rfl) (by kernel_rfl) (by simp [MapKept.IsKey]) (by kernel_rfl) rfl hm1 (fun hno => ?_) (fun v hv => ?_)
    · refine JR_run (id := 12) (rest := []) [.rd 10 [] 0 0, .rd 11 [] 0 0, .rd 12 [] 0 0, .wr 13 [] 0, .wr 14 [.o 3 none, .o 3 none, .o 3 none, .o 3 none, .o 3 none, .o 3 none, .o 3 none, .o 3 none, .o 3 none] 0, .rd 15 [] 0 0] [0, 4, 5, 8, 9] (E1 := fun nu1 => [(0, .val (.pointer (some (⟨b, 0, none⟩)))), (4, .val (.slice (some (⟨g, 0, none⟩)) n cap)), (5, .val (.nilIface)), (8, .val (.pointer (some (⟨nu1 0, 0, none⟩)))), (9, .val (.bool false))]) (h1 := fun nu1 => [(b, .cells #[.int .i64 fm, .int .i64 d, .int .i64 sh, .int .i64 (q + (↑n : Int)), .int .i64 t1, .map (some m)] 89 (0, 0)), (m, Obj.map es1 c1), (g, .cells cur 37 (0, 0)), (nu1 0, .cells #[.int .i64 0, .int .i64 0, .int .i64 0, .int .i64 0, .int .i64 0, .bool false, .slice none 0 0, .int .i64 0, .slice none 0 0] 37 (0, 0))]) (p1 := fun nu1 => []) (W1 := []) (fun _ => by kernel_rfl) (fun _ => trivial) (fun nu1 => ?_)
      refine JR_end ?_
      refine J_seq ?_
      refine J_seq ?_
      refine J_reg mixed [.rd 0 [] 0 0, .rd 1 [] 0 0] [] [0, 4, 5, 8, 9, 107] (E1 := fun _ => [(0, .val (.pointer (some (⟨b, 0, none⟩)))), (4, .val (.slice (some (⟨g, 0, none⟩)) n cap)), (5, .val (.nilIface)), (8, .val (.pointer (some (⟨nu1 0, 0, none⟩)))), (9, .val (.bool false)), (107, .val (.bool true))]) (h1 := fun _ => [(b, .cells #[.int .i64 fm, .int .i64 d, .int .i64 sh, .int .i64 (q + (↑n : Int)), .int .i64 t1, .map (some m)] 89 (0, 0)), (m, Obj.map es1 c1), (g, .cells cur 37 (0, 0)), (nu1 0, .cells #[.int .i64 0, .int .i64 0, .int .i64 0, .int .i64 0, .int .i64 0, .bool false, .slice none 0 0, .int .i64 0, .slice none 0 0] 37 (0, 0))]) (p1 := fun _ => []) (W1 := []) (by kernel_rfl) (fun _ => by kernel_rfl) (fun _ => trivial) (fun _ => ?_)
      refine J_cond_t (by kernel_rfl) (by kernel_rfl) ?_
      refine J_seq ?_
      refine J_reg mixed [.rd 0 [] 0 0, .rd 1 [] 0 0, .rd 2 [] 0 0] [] [0, 4, 5, 8, 9] (E1 := fun _ => [(0, .val (.pointer (some (⟨b, 0, none⟩)))), (4, .val (.slice (some (⟨g, 0, none⟩)) n cap)), (5, .val (.nilIface)), (8, .val (.pointer (some (⟨nu1 0, 0, none⟩)))), (9, .val (.bool false))]) (h1 := fun _ => [(b, .cells #[.int .i64 fm, .int .i64 d, .int .i64 sh, .int .i64 (q + (↑n : Int)), .int .i64 t1, .map (some m)] 89 (0, 0)), (m, Obj.map es1 c1), (g, .cells cur 37 (0, 0)), (nu1 0, .cells #[.int .i64 0, .int .i64 0, .int .i64 0, .int .i64 0, .int .i64 0, .bool false, .slice none 0 0, .int .i64 0, .slice none 0 0] 37 (0, 0))]) (p1 := fun _ => []) (W1 := []) (by kernel_rfl) (fun _ => by kernel_rfl) (fun _ => trivial) (fun _ => ?_)
      refine J_return [[], []] (.tuple #[.slice (some (⟨g, 0, none⟩)) n cap, .nilIface]) (by kernel_rfl) (fun a w s => ?_)
      refine ⟨_, q + n, t1, es1, c1, K1, rfl, s.fr ([b, m], w0) (by simp), s.at 0 rfl, s.at 1 rfl, hm1, fun j hj => ?_, hq1, hq1N, fun hkq => ?_, .inr ⟨n, g, cap, cur, rfl, rfl, s.fresh 1 2 rfl rfl (by have := s.own.nodup; simp at this ⊢; omega), s.at 2 rfl, hl2⟩⟩
      · have h1 := hK1 j hj
        have h2 : j ≠ q + n + 1 := fun e => kf_none hno (e ▸ hj)
        omega
      · by_cases hn0 : n = 0
        · subst hn0
          have h1 : k = q + (0 : Nat) + 1 := by omega
          exact absurd (h1 ▸ hk1 (by omega) (by omega)) (kf_none hno)
        · omega
    · obtain ⟨hKk, rfl⟩ := kf_some hv
      have hle := hK1 _ hKk
      refine JR_run (id := 12) (rest := []) [.rd 10 [] 0 0, .rd 11 [] 0 0, .rd 12 [] 0 0, .wr 13 [] 0, .wr 14 [.o 3 none, .o 3 none, .o 3 none, .o 3 none, .o 3 none, .o 3 none, .o 3 none, .o 3 none, .o 3 none] 0, .rd 15 [] 0 0] [0, 4, 5, 8, 9] (E1 := fun nu1 => [(0, .val (.pointer (some (⟨b, 0, none⟩)))), (4, .val (.slice (some (⟨g, 0, none⟩)) n cap)), (5, .val (.nilIface)), (8, .val (.pointer (some (⟨nu1 0, 0, none⟩)))), (9, .val (.bool true))]) (h1 := fun nu1 => [(b, .cells #[.int .i64 fm, .int .i64 d, .int .i64 sh, .int .i64 (q + (↑n : Int)), .int .i64 t1, .map (some m)] 89 (0, 0)), (m, Obj.map es1 c1), (g, .cells cur 37 (0, 0)), (nu1 0, .cells #[.int .i64 fm, .int .i64 d, .int .i64 sh, .int .i64 (q + (↑n : Int) + 1), .int .i64 (q + (↑n : Int) + 1 - 1), .bool true, .slice none 0 0, .int .i64 0, .slice none 0 0] 37 (0, 0))]) (p1 := fun nu1 => []) (W1 := []) (fun _ => by kernel_rfl) (fun _ => trivial) (fun nu1 => ?_)
      refine JR_end ?_
      refine J_seq ?_
      refine J_seq ?_
      refine J_reg mixed [.rd 0 [] 0 0, .rd 1 [] 0 0] [] [0, 4, 5, 8, 9, 107] (E1 := fun _ => [(0, .val (.pointer (some (⟨b, 0, none⟩)))), (4, .val (.slice (some (⟨g, 0, none⟩)) n cap)), (5, .val (.nilIface)), (8, .val (.pointer (some (⟨nu1 0, 0, none⟩)))), (9, .val (.bool true)), (107, .val (.bool false))]) (h1 := fun _ => [(b, .cells #[.int .i64 fm, .int .i64 d, .int .i64 sh, .int .i64 (q + (↑n : Int)), .int .i64 t1, .map (some m)] 89 (0, 0)), (m, Obj.map es1 c1), (g, .cells cur 37 (0, 0)), (nu1 0, .cells #[.int .i64 fm, .int .i64 d, .int .i64 sh, .int .i64 (q + (↑n : Int) + 1), .int .i64 (q + (↑n : Int) + 1 - 1), .bool true, .slice none 0 0, .int .i64 0, .slice none 0 0] 37 (0, 0))]) (p1 := fun _ => []) (W1 := []) (by kernel_rfl) (fun _ => by kernel_rfl) (fun _ => trivial) (fun _ => ?_)
      refine J_cond_f (by kernel_rfl) (by kernel_rfl) ?_
      refine J_skip ?_
      refine J_seq ?_
      refine JR_begin mixed [(0, true), (1, true), (2, true), (3, true), (4, true), (5, true), (6, false)] [(6, [1])] (by kernel_rfl) (by kernel_rfl) ?_
      refine JR_run (id := 15) (rest := [(6, false)]) [.rd 0 [] 0 0, .rd 1 [] 0 0, .rd 2 [] 0 0, .rd 3 [.o 0 none] 0 0, .rd 4 [] 0 0, .rd 5 [.o 3 none] 0 0] [0, 4, 5, 8, 9, 112, 114] (E1 := fun _ => [(0, .val (.pointer (some (⟨b, 0, none⟩)))), (4, .val (.slice (some (⟨g, 0, none⟩)) n cap)), (5, .val (.nilIface)), (8, .val (.pointer (some (⟨nu1 0, 0, none⟩)))), (9, .val (.bool true)), (112, .val (.map (some m))), (114, .val (.int .i64 (q + (↑n : Int) + 1)))]) (h1 := fun _ => [(b, .cells #[.int .i64 fm, .int .i64 d, .int .i64 sh, .int .i64 (q + (↑n : Int)), .int .i64 t1, .map (some m)] 89 (0, 0)), (m, Obj.map es1 c1), (g, .cells cur 37 (0, 0)), (nu1 0, .cells #[.int .i64 fm, .int .i64 d, .int .i64 sh, .int .i64 (q + (↑n : Int) + 1), .int .i64 (q + (↑n : Int) + 1 - 1), .bool true, .slice none 0 0, .int .i64 0, .slice none 0 0] 37 (0, 0))]) (p1 := fun _ => []) (W1 := [(6, [1])]) (fun _ => by kernel_rfl) (fun _ => trivial) (fun _ => ?_)
      refine JR_del 1 m 87 3 37 (TypeDesc.int IntKind.i64) (.int .i64 (q + (↑n : Int) + 1)) none (by kernel_rfl) (by kernel_rfl) (by kernel_rfl) (by kernel_rfl) (by simp [MapKept.IsKey]) rfl hm1 (fun es3 hm3 hsz3 => ?_)
      refine JR_end ?_
      refine J_seq ?_
      refine J_reg mixed [.rd 0 [] 0 0, .rd 1 [] 0 0, .rd 2 [] 0 0, .rd 3 [.o 3 none] 0 0, .rd 4 [] 0 0, .rd 5 [.o 3 none] 0 0, .rd 6 [] 0 0, .rd 7 [] 0 0, .wr 8 [.o 0 none] 0, .rd 9 [] 0 0, .rd 10 [] 0 0, .wr 11 [.o 0 none] 0] [(8, [0]), (11, [0])] [0, 4, 5, 8, 9, 112, 114] (E1 := fun _ => [(0, .val (.pointer (some (⟨b, 0, none⟩)))), (4, .val (.slice (some (⟨g, 0, none⟩)) n cap)), (5, .val (.nilIface)), (8, .val (.pointer (some (⟨nu1 0, 0, none⟩)))), (9, .val (.bool true)), (112, .val (.map (some m))), (114, .val (.int .i64 (q + (↑n : Int) + 1)))]) (h1 := fun _ => [(b, .cells #[.int .i64 fm, .int .i64 d, .int .i64 sh, .int .i64 (q + (↑n : Int) + 1), .int .i64 (q + (↑n : Int) + 1 - 1), .map (some m)] 89 (0, 0)), (m, Obj.map es3 c1), (g, .cells cur 37 (0, 0)), (nu1 0, .cells #[.int .i64 fm, .int .i64 d, .int .i64 sh, .int .i64 (q + (↑n : Int) + 1), .int .i64 (q + (↑n : Int) + 1 - 1), .bool true, .slice none 0 0, .int .i64 0, .slice none 0 0] 37 (0, 0))]) (p1 := fun _ => []) (W1 := []) (by kernel_rfl) (fun _ => by kernel_rfl) (fun _ => trivial) (fun _ => ?_)
      refine JR_begin mixed [(0, true), (1, true), (2, false), (3, false), (4, true)] [] (by kernel_rfl) (by kernel_rfl) ?_
      refine JR_run (id := 17) (rest := [(3, false), (4, true)]) [.rd 0 [] 0 0, .rd 1 [.o 3 none, .o 3 none, .o 3 none, .o 3 none, .o 3 none, .o 3 none, .o 3 none, .o 3 none, .o 3 none] 0 0, .wr 2 [] 0] [0, 4, 5, 8, 9, 112, 114, 125, 127] (E1 := fun nu2 => [(0, .val (.pointer (some (⟨b, 0, none⟩)))), (4, .val (.slice (some (⟨g, 0, none⟩)) n cap)), (5, .val (.nilIface)), (8, .val (.pointer (some (⟨nu1 0, 0, none⟩)))), (9, .val (.bool true)), (112, .val (.map (some m))), (114, .val (.int .i64 (q + (↑n : Int) + 1))), (125, .val (.slice (some (⟨g, 0, none⟩)) n cap)), (127, .val (.slice (some (⟨nu2 0, 0, none⟩)) 1 1))]) (h1 := fun nu2 => [(b, .cells #[.int .i64 fm, .int .i64 d, .int .i64 sh, .int .i64 (q + (↑n : Int) + 1), .int .i64 (q + (↑n : Int) + 1 - 1), .map (some m)] 89 (0, 0)), (m, Obj.map es3 c1), (g, .cells cur 37 (0, 0)), (nu1 0, .cells #[.int .i64 fm, .int .i64 d, .int .i64 sh, .int .i64 (q + (↑n : Int) + 1), .int .i64 (q + (↑n : Int) + 1 - 1), .bool true, .slice none 0 0, .int .i64 0, .slice none 0 0] 37 (0, 0)), (nu2 0, .cells #[.int .i64 fm, .int .i64 d, .int .i64 sh, .int .i64 (q + (↑n : Int) + 1), .int .i64 (q + (↑n : Int) + 1 - 1), .bool true, .slice none 0 0, .int .i64 0, .slice none 0 0] 37 (0, 0))]) (p1 := fun nu2 => []) (W1 := []) (fun _ => by kernel_rfl) (fun _ => trivial) (fun nu2 => ?_)
      refine JR_app 2 g n cap 32 37 9 104 (.agg #[.int .i64 0, .int .i64 0, .int .i64 0, .int .i64 0, .int .i64 0, .bool false, .slice none 0 0, .int .i64 0, .slice none 0 0]) (news := [.int .i64 fm, .int .i64 d, .int .i64 sh, .int .i64 (q + (↑n : Int) + 1), .int .i64 (q + (↑n : Int) + 1 - 1), .bool true, .slice none 0 0, .int .i64 0, .slice none 0 0]) (ax := (⟨nu2 0, 0, none⟩)) (m := 1) (c := 1) (dst := (some 128)) (by kernel_rfl) (by kernel_rfl) (by kernel_rfl) (by kernel_rfl) rfl (by decide) rfl hl2 rfl (by decide) (src_blk (hn := .o 4 none) rfl (by intro j u hu; simpa using hu)) (by simp [Value.oneCell']) (by simp only [maxLen]; omega) (by omega) (fun cap1 cur1 hrow1 => ?_) (fun g1 cap1 cur1 o1 hrow1 => ?_)
      · refine JR_run (id := 17) (rest := []) [.rd 4 [] 0 0] [0, 4, 5, 8, 9, 112, 114] (E1 := fun _ => [(0, .val (.pointer (some (⟨b, 0, none⟩)))), (4, .val (.slice (some (⟨g, 0, none⟩)) (n + 1) cap1)), (5, .val (.nilIface)), (8, .val (.pointer (some (⟨nu1 0, 0, none⟩)))), (9, .val (.bool true)), (112, .val (.map (some m))), (114, .val (.int .i64 (q + (↑n : Int) + 1)))]) (h1 := fun _ => [(b, .cells #[.int .i64 fm, .int .i64 d, .int .i64 sh, .int .i64 (q + (↑n : Int) + 1), .int .i64 (q + (↑n : Int) + 1 - 1), .map (some m)] 89 (0, 0)), (m, Obj.map es3 c1), (g, .cells cur1 37 (0, 0)), (nu1 0, .cells #[.int .i64 fm, .int .i64 d, .int .i64 sh, .int .i64 (q + (↑n : Int) + 1), .int .i64 (q + (↑n : Int) + 1 - 1), .bool true, .slice none 0 0, .int .i64 0, .slice none 0 0] 37 (0, 0)), (nu2 0, .cells #[.int .i64 fm, .int .i64 d, .int .i64 sh, .int .i64 (q + (↑n : Int) + 1), .int .i64 (q + (↑n : Int) + 1 - 1), .bool true, .slice none 0 0, .int .i64 0, .slice none 0 0] 37 (0, 0))]) (p1 := fun _ => []) (W1 := []) (fun _ => by kernel_rfl) (fun _ => trivial) (fun _ => ?_)
        refine JR_end ?_
        refine J_eb ?_
        refine J_backx (⟨q + n + 1, q + n + 1 - 1, es3, c1, some (n + 1, g, cap1, cur1)⟩ : HS) [0, 4, 5] (fun _ _ _ => ⟨by simp only; omega, by simp only; omega, ⟨_, hm3.congr (kf_del fm d sh K1 (q + n + 1)), fun j hj => ?_, fun e => by simp only at e; omega⟩, by simp only; omega, hrow' _ _ hrow1⟩) (by simp only; omega) (by kernel_rfl) (by simp [HS.h]) (fun hn => by simp [HS.h] at hn ⊢; omega) (by simp) (by simp)
        have h1 := hK1 j hj.2
        have h2 := hj.1
        simp only
        omega
      · refine JR_run (id := 17) (rest := []) [.rd 4 [] 0 0] [0, 4, 5, 8, 9, 112, 114] (E1 := fun _ => [(0, .val (.pointer (some (⟨b, 0, none⟩)))), (4, .val (.slice (some (⟨g1, 0, none⟩)) (n + 1) cap1)), (5, .val (.nilIface)), (8, .val (.pointer (some (⟨nu1 0, 0, none⟩)))), (9, .val (.bool true)), (112, .val (.map (some m))), (114, .val (.int .i64 (q + (↑n : Int) + 1)))]) (h1 := fun _ => [(b, .cells #[.int .i64 fm, .int .i64 d, .int .i64 sh, .int .i64 (q + (↑n : Int) + 1), .int .i64 (q + (↑n : Int) + 1 - 1), .map (some m)] 89 (0, 0)), (m, Obj.map es3 c1), (g, o1), (nu1 0, .cells #[.int .i64 fm, .int .i64 d, .int .i64 sh, .int .i64 (q + (↑n : Int) + 1), .int .i64 (q + (↑n : Int) + 1 - 1), .bool true, .slice none 0 0, .int .i64 0, .slice none 0 0] 37 (0, 0)), (nu2 0, .cells #[.int .i64 fm, .int .i64 d, .int .i64 sh, .int .i64 (q + (↑n : Int) + 1), .int .i64 (q + (↑n : Int) + 1 - 1), .bool true, .slice none 0 0, .int .i64 0, .slice none 0 0] 37 (0, 0)), (g1, .cells cur1 37 (0, 0))]) (p1 := fun _ => []) (W1 := []) (fun _ => by kernel_rfl) (fun _ => trivial) (fun _ => ?_)
        refine JR_end ?_
        refine J_eb ?_
        refine J_backx (⟨q + n + 1, q + n + 1 - 1, es3, c1, some (n + 1, g1, cap1, cur1)⟩ : HS) [0, 4, 5] (fun _ _ _ => ⟨by simp only; omega, by simp only; omega, ⟨_, hm3.congr (kf_del fm d sh K1 (q + n + 1)), fun j hj => ?_, fun e => by simp only at e; omega⟩, by simp only; omega, hrow' _ _ hrow1⟩) (by simp only; omega) (by kernel_rfl) (by simp [HS.h]) (fun hn => by simp [HS.h] at hn ⊢; omega) (by simp) (by simp)
        have h1 := hK1 j hj.2
        have h2 := hj.1
        simp only
        omega
end Go.Proofs.YtgelnbgjabpdbaaDoor
