/- Streams of beats: Again. -/
import Derived.Test.YtgelnbgjabpdbaaDoorHear
namespace Go.Proofs.YtgelnbgjabpdbaaDoor
open Go Go.Sx

theorem again14nil {w0 : World} {b : Nat} {fm d sh q t : Int} {a : Option Addr} {c : Nat} (hblk : w0.heap[b]? = some (.cells (sc fm d sh q t (.slice a 0 c)) 86 (0, 0))) :
    Calls Tryd.prog 14 #[.pointer (some ⟨b, 0, none⟩)] w0 fun e w' => e = .returned (.slice none 0 0) ∧ Fr [] w0 w' := by
  refine en14 (args := [.pointer (some ⟨b, 0, none⟩)]) (h := []) (r := [(b, .cells (sc fm d sh q t (.slice a 0 c)) 86 (0, 0))]) (F := [([], w0)]) (by kernel_rfl) (own_nil (by simpa using hblk)) (by simp [Fr.refl]) (by simp) ?_
  refine J_seq ?_
  refine J_reg mixed [.rd 0 [] 0 0] [] [0, 2] (E1 := fun _ => [(0, .val (.pointer (some (⟨b, 0, none⟩)))), (2, .val (.slice none 0 0))]) (h1 := fun _ => []) (p1 := fun _ => []) (W1 := []) (by kernel_rfl) (fun _ => by kernel_rfl) (fun _ => trivial) (fun _ => ?_)
  refine J_seq ?_
  refine J_reg mixed [.rd 0 [] 0 0] [] [0, 2, 3] (E1 := fun _ => [(0, .val (.pointer (some (⟨b, 0, none⟩)))), (2, .val (.slice none 0 0)), (3, .val (.slice none 0 0))]) (h1 := fun _ => []) (p1 := fun _ => []) (W1 := []) (by kernel_rfl) (fun _ => by kernel_rfl) (fun _ => trivial) (fun _ => ?_)
  refine J_seq ?_
  refine J_seq ?_
  refine J_reg mixed [.rd 0 [] 0 0, .rd 1 [] 0 0, .rd 2 [] 0 0, .rd 3 [.r 0 none] 0 0, .rd 4 [] 0 0, .rd 5 [] 0 0] [] [2, 3, 9, 10, 11] (E1 := fun _ => [(2, .val (.slice none 0 0)), (3, .val (.slice none 0 0)), (9, .val (.slice a 0 c)), (10, .val (.int .i64 0)), (11, .val (.int .i64 0))]) (h1 := fun _ => []) (p1 := fun _ => []) (W1 := []) (by kernel_rfl) (fun _ => by kernel_rfl) (fun _ => trivial) (fun _ => ?_)
  refine J_block ?_
  refine J_loop1 fun I => ?_
  refine J_seq ?_
  refine J_reg mixed [.rd 0 [] 0 0] [] [2, 3, 9, 10, 11, 12] (E1 := fun _ => [(2, .val (.slice none 0 0)), (3, .val (.slice none 0 0)), (9, .val (.slice a 0 c)), (10, .val (.int .i64 0)), (11, .val (.int .i64 0)), (12, .val (.bool false))]) (h1 := fun _ => []) (p1 := fun _ => []) (W1 := []) (by kernel_rfl) (fun _ => by kernel_rfl) (fun _ => trivial) (fun _ => ?_)
  refine J_seq ?_
  refine J_cond_f (by kernel_rfl) (by kernel_rfl) ?_
  refine J_exit rfl ?_
  refine J_seq ?_
  refine J_reg mixed [.rd 0 [] 0 0, .rd 1 [] 0 0] [] [2] (E1 := fun _ => [(2, .val (.slice none 0 0))]) (h1 := fun _ => []) (p1 := fun _ => []) (W1 := []) (by kernel_rfl) (fun _ => by kernel_rfl) (fun _ => trivial) (fun _ => ?_)
  refine J_return [[]] (.slice none 0 0) (by kernel_rfl) (fun a w s => ?_)
  exact ⟨rfl, s.fr ([], w0) (by simp)⟩

theorem bcs_at {fm d sh : Int} : ∀ {l : List (Int × Int)} {i : Nat} {p : Int × Int}, l[i]? = some p → ∀ (j : Nat) u, (bc fm d sh p.1 p.2)[j]? = some u → (bcs fm d sh l)[i * 9 + j]? = some u
  | [], i, p, h, _, _, _ => by simp at h
  | x :: l, 0, p, h, j, u, hu => by
    simp only [List.getElem?_cons_zero, Option.some.injEq] at h
    subst h
    have hj := (Array.getElem?_eq_some_iff.1 hu).1
    simp only [bcs, List.map_cons, List.flatten_cons, Nat.zero_mul, Nat.zero_add]
    rw [List.getElem?_append_left (by simpa using hj)]
    simpa using hu
  | x :: l, i + 1, p, h, j, u, hu => by
    simp only [List.getElem?_cons_succ] at h
    have := bcs_at h j u hu
    simp only [bcs, List.map_cons, List.flatten_cons] at this ⊢
    rw [List.getElem?_append_right (by simp; omega)]
    rw [← this]
    congr 1
    simp
    omega
theorem bcs_len {fm d sh : Int} : ∀ l : List (Int × Int), (bcs fm d sh l).length = l.length * 9
  | [] => rfl
  | x :: l => by
    have := bcs_len (fm := fm) (d := d) (sh := sh) l
    simp only [bcs, List.map_cons, List.flatten_cons, List.length_append, List.length_cons] at this ⊢
    rw [this]
    simp
    omega

structure AS where
  i : Int
  l : Option (Nat × Nat × Nat × Array Value)
def AS.E (g n cap : Nat) (x : AS) : Env := match x with
  | ⟨i, none⟩ => [(3, .val (.slice none 0 0)), (9, .val (.slice (some ⟨g, 0, none⟩) n cap)), (10, .val (.int .i64 (n : Nat))), (11, .val (.int .i64 i))]
  | ⟨i, some (k, g', cap', _)⟩ => [(3, .val (.slice (some ⟨g', 0, none⟩) k cap')), (9, .val (.slice (some ⟨g, 0, none⟩) n cap)), (10, .val (.int .i64 (n : Nat))), (11, .val (.int .i64 i))]
def AS.h (x : AS) : List (Nat × Obj) := match x with
  | ⟨_, none⟩ => []
  | ⟨_, some (_, g', _, cur')⟩ => [(g', .cells cur' 37 (0, 0))]
def AS.ok (fm d sh : Int) (l : List (Int × Int)) (x : AS) (_ : World) : Prop :=
  0 ≤ x.i ∧ x.i ≤ l.length ∧ match x.l with
    | none => x.i = 0
    | some (k, _, cap', cur') => x.i = k ∧ Row cur' cap' k 9 (bcs fm d sh (l.take k))

theorem again14 {w0 : World} {b g cap : Nat} {cur : Array Value} {fm d sh q t : Int} {l : List (Int × Int)} (hl : l.length < 1000) (hl0 : l ≠ [])
    (hblk : w0.heap[b]? = some (.cells (sc fm d sh q t (.slice (some ⟨g, 0, none⟩) l.length cap)) 86 (0, 0))) (hg : w0.heap[g]? = some (.cells cur 37 (0, 0))) (hrow : Row cur cap l.length 9 (bcs fm d sh l)) :
    Calls Tryd.prog 14 #[.pointer (some ⟨b, 0, none⟩)] w0 fun e w' => ∃ g' cap' cur', e = .returned (.slice (some ⟨g', 0, none⟩) l.length cap') ∧ Fr [] w0 w' ∧ w0.heap.size ≤ g' ∧ w'.heap[g']? = some (.cells cur' 37 (0, 0)) ∧ Row cur' cap' l.length 9 (bcs fm d sh l) := by
  refine en14 (args := [.pointer (some ⟨b, 0, none⟩)]) (h := []) (r := [(b, .cells (sc fm d sh q t (.slice (some ⟨g, 0, none⟩) l.length cap)) 86 (0, 0)), (g, .cells cur 37 (0, 0))]) (F := [([], w0)]) (by kernel_rfl) (own_nil (by simp [hblk, hg])) (by simp [Fr.refl]) (by simp) ?_
  refine J_seq ?_
  refine J_reg mixed [.rd 0 [] 0 0] [] [0, 2] (E1 := fun _ => [(0, .val (.pointer (some (⟨b, 0, none⟩)))), (2, .val (.slice none 0 0))]) (h1 := fun _ => []) (p1 := fun _ => []) (W1 := []) (by kernel_rfl) (fun _ => by kernel_rfl) (fun _ => trivial) (fun _ => ?_)
  refine J_seq ?_
  refine J_reg mixed [.rd 0 [] 0 0] [] [0, 2, 3] (E1 := fun _ => [(0, .val (.pointer (some (⟨b, 0, none⟩)))), (2, .val (.slice none 0 0)), (3, .val (.slice none 0 0))]) (h1 := fun _ => []) (p1 := fun _ => []) (W1 := []) (by kernel_rfl) (fun _ => by kernel_rfl) (fun _ => trivial) (fun _ => ?_)
  refine J_seq ?_
  refine J_seq ?_
  refine J_reg mixed [.rd 0 [] 0 0, .rd 1 [] 0 0, .rd 2 [] 0 0, .rd 3 [.r 0 none] 0 0, .rd 4 [] 0 0, .rd 5 [] 0 0] [] [2, 3, 9, 10, 11] (E1 := fun _ => [(2, .val (.slice none 0 0)), (3, .val (.slice none 0 0)), (9, .val (.slice (some (⟨g, 0, none⟩)) l.length cap)), (10, .val (.int .i64 (↑l.length : Int))), (11, .val (.int .i64 0))]) (h1 := fun _ => []) (p1 := fun _ => []) (W1 := []) (by kernel_rfl) (fun _ => by kernel_rfl) (fun _ => trivial) (fun _ => ?_)
  refine J_block ?_
  refine J_loopx (AS.E g l.length cap) AS.h (fun x => (l.length - x.i).toNat) (AS.ok fm d sh l) ⟨0, none⟩ [3, 9, 10, 11] (fun _ _ _ => ⟨Int.le_refl _, Int.natCast_nonneg _, rfl⟩) (by kernel_rfl) rfl ?_
  have hcell : ∀ (i : Int) (p : Int × Int), 0 ≤ i → l[i.toNat]? = some p → ∀ (j : Nat) u, (bc fm d sh p.1 p.2)[j]? = some u → cur[0 + i.toNat * 9 + j]? = some u := fun i p h0 hp j u hu => by
    have h1 := bcs_at (fm := fm) (d := d) (sh := sh) hp j u hu
    have hlt := (List.getElem?_eq_some_iff.1 h1).1
    rw [bcs_len] at hlt
    rw [Nat.zero_add, hrow.at hlt, h1]
  rintro ⟨i, _ | ⟨k, g', cap', cur'⟩⟩ w ⟨hi0, hi, hx⟩
  · simp only at hi0 hi hx
    subst hx
    have hpos : 0 < l.length := List.length_pos_iff.2 hl0
    obtain ⟨⟨pq, pt⟩, hp⟩ : ∃ p, l[(0 : Int).toNat]? = some p := ⟨_, List.getElem?_eq_getElem hpos⟩
    have f := hcell 0 (pq, pt) (by omega) hp
    have f0 : cur[0]? = some (.int .i64 fm) := by simpa using f 0 _ rfl
    have f1 : cur[1]? = some (.int .i64 d) := by simpa using f 1 _ rfl
    have f2 : cur[2]? = some (.int .i64 sh) := by simpa using f 2 _ rfl
    have f3 : cur[3]? = some (.int .i64 pq) := by simpa using f 3 _ rfl
    have f4 : cur[4]? = some (.int .i64 pt) := by simpa using f 4 _ rfl
    have f5 : cur[5]? = some (.bool true) := by simpa using f 5 _ rfl
    have f6 : cur[6]? = some (.slice none 0 0) := by simpa using f 6 _ rfl
    have f7 : cur[7]? = some (.int .i64 0) := by simpa using f 7 _ rfl
    have f8 : cur[8]? = some (.slice none 0 0) := by simpa using f 8 _ rfl
    refine J_seq ?_
    refine J_reg mixed [.rd 0 [] 0 0] [] [3, 9, 10, 11, 12] (E1 := fun _ => [(3, .val (.slice none 0 0)), (9, .val (.slice (some (⟨g, 0, none⟩)) l.length cap)), (10, .val (.int .i64 (↑l.length : Int))), (11, .val (.int .i64 0)), (12, .val (.bool (decide (0 < (↑l.length : Int)))))]) (h1 := fun _ => []) (p1 := fun _ => []) (W1 := []) (by kernel_rfl) (fun _ => by kernel_rfl) (fun _ => trivial) (fun _ => ?_)
    refine J_seq ?_
    refine J_condT (decide (0 < (↑l.length : Int))) (by kernel_rfl) (by kernel_rfl) (by simpa using ‹_›) ?_
    refine J_skip ?_
    refine J_seq ?_
    refine J_block ?_
    refine J_seq ?_
    refine J_reg mixed [.rd 0 [] 0 2, .rd 1 [.r 1 (some (.int .i64 fm)), .r 1 (some (.int .i64 d)), .r 1 (some (.int .i64 sh)), .r 1 (some (.int .i64 pq)), .r 1 (some (.int .i64 pt)), .r 1 (some (.bool true)), .r 1 (some (.slice none 0 0)), .r 1 (some (.int .i64 0)), .r 1 (some (.slice none 0 0))] 0 0, .wr 2 [] 0, .wr 3 [.o 0 none, .o 0 none, .o 0 none, .o 0 none, .o 0 none, .o 0 none, .o 0 none, .o 0 none, .o 0 none] 0] [(3, [])] [3, 5, 9, 10, 11] (E1 := fun nu1 => [(3, .val (.slice none 0 0)), (5, .val (.pointer (some (⟨nu1 0, 0, none⟩)))), (9, .val (.slice (some (⟨g, 0, none⟩)) l.length cap)), (10, .val (.int .i64 (↑l.length : Int))), (11, .val (.int .i64 0))]) (h1 := fun nu1 => [(nu1 0, .cells #[.int .i64 fm, .int .i64 d, .int .i64 sh, .int .i64 pq, .int .i64 pt, .bool true, .slice none 0 0, .int .i64 0, .slice none 0 0] 37 (0, 0))]) (p1 := fun nu1 => [(0 : Int) ≤ (0 : Int), (0 : Int) < (↑l.length : Int), cur[(0 : Nat)]? = some (Value.int IntKind.i64 fm), cur[(1 : Nat)]? = some (Value.int IntKind.i64 d), cur[(2 : Nat)]? = some (Value.int IntKind.i64 sh), cur[(3 : Nat)]? = some (Value.int IntKind.i64 pq), cur[(4 : Nat)]? = some (Value.int IntKind.i64 pt), cur[(5 : Nat)]? = some (Value.bool true), cur[(6 : Nat)]? = some (Value.slice none (0 : Nat) (0 : Nat)), cur[(7 : Nat)]? = some (Value.int IntKind.i64 (0 : Int)), cur[(8 : Nat)]? = some (Value.slice none (0 : Nat) (0 : Nat))]) (W1 := []) (by kernel_rfl) (fun _ => by kernel_rfl) (fun _ => ⟨hi0, by omega, f0, f1, f2, f3, f4, f5, f6, f7, f8, trivial⟩) (fun nu1 => ?_)
    refine JR_begin mixed [(0, true), (1, true), (2, false), (3, false), (4, false), (5, true)] [] (by kernel_rfl) (by kernel_rfl) ?_
    refine JR_run (id := 5) (rest := [(2, false), (3, false), (4, false), (5, true)]) [.rd 0 [] 0 0, .rd 1 [.o 0 none, .o 0 none, .o 0 none, .o 0 none, .o 0 none, .o 0 none, .o 0 none, .o 0 none, .o 0 none] 0 0] [3, 5, 9, 10, 11, 15, 16] (E1 := fun _ => [(3, .val (.slice none 0 0)), (5, .val (.pointer (some (⟨nu1 0, 0, none⟩)))), (9, .val (.slice (some (⟨g, 0, none⟩)) l.length cap)), (10, .val (.int .i64 (↑l.length : Int))), (11, .val (.int .i64 0)), (15, .val (.slice none 0 0)), (16, .val (.agg #[.int .i64 fm, .int .i64 d, .int .i64 sh, .int .i64 pq, .int .i64 pt, .bool true, .slice none 0 0, .int .i64 0, .slice none 0 0]))]) (h1 := fun _ => [(nu1 0, .cells #[.int .i64 fm, .int .i64 d, .int .i64 sh, .int .i64 pq, .int .i64 pt, .bool true, .slice none 0 0, .int .i64 0, .slice none 0 0] 37 (0, 0))]) (p1 := fun _ => []) (W1 := []) (fun _ => by kernel_rfl) (fun _ => trivial) (fun _ => ?_)
    refine JR_call [] [] 34 #[.agg #[.int .i64 fm, .int .i64 d, .int .i64 sh, .int .i64 pq, .int .i64 pt, .bool true, .slice none 0 0, .int .i64 0, .slice none 0 0]] (some 17) (by kernel_rfl) (by kernel_rfl) (fun a w s => ?_)
    refine own34b.mono ?_
    rintro e w2 ⟨rfl, hf2⟩
    refine ⟨_, _, rfl, (did_pure s hf2).1, (did_pure s hf2).2, ?_⟩
    refine JR_run (id := 5) (rest := [(4, false), (5, true)]) [.wr 3 [] 0] [3, 5, 9, 10, 11, 15, 18] (E1 := fun nu2 => [(3, .val (.slice none 0 0)), (5, .val (.pointer (some (⟨nu1 0, 0, none⟩)))), (9, .val (.slice (some (⟨g, 0, none⟩)) l.length cap)), (10, .val (.int .i64 (↑l.length : Int))), (11, .val (.int .i64 0)), (15, .val (.slice none 0 0)), (18, .val (.slice (some (⟨nu2 0, 0, none⟩)) 1 1))]) (h1 := fun nu2 => [(nu1 0, .cells #[.int .i64 fm, .int .i64 d, .int .i64 sh, .int .i64 pq, .int .i64 pt, .bool true, .slice none 0 0, .int .i64 0, .slice none 0 0] 37 (0, 0)), (nu2 0, .cells #[.int .i64 fm, .int .i64 d, .int .i64 sh, .int .i64 pq, .int .i64 pt, .bool true, .slice none 0 0, .int .i64 0, .slice none 0 0] 37 (0, 0))]) (p1 := fun nu2 => []) (W1 := []) (fun _ => by kernel_rfl) (fun _ => trivial) (fun nu2 => ?_)
    refine JR_appnil 32 37 9 104 (.agg #[.int .i64 0, .int .i64 0, .int .i64 0, .int .i64 0, .int .i64 0, .bool false, .slice none 0 0, .int .i64 0, .slice none 0 0]) (news := [.int .i64 fm, .int .i64 d, .int .i64 sh, .int .i64 pq, .int .i64 pt, .bool true, .slice none 0 0, .int .i64 0, .slice none 0 0]) (ax := (⟨nu2 0, 0, none⟩)) (m := 1) (c := 1) (dst := (some 19)) (by kernel_rfl) (by kernel_rfl) (by kernel_rfl) (by kernel_rfl) rfl (by decide) rfl (by decide) (src_blk (hn := .o 1 none) rfl (by intro j u hu; simpa using hu)) (by simp [Value.oneCell']) (by simp only [maxLen]; omega) (by omega) (fun g1 cap1 cur1 hrow1 => ?_)
    refine JR_run (id := 5) (rest := []) [.rd 5 [] 0 0] [3, 5, 9, 10, 11] (E1 := fun _ => [(3, .val (.slice (some (⟨g1, 0, none⟩)) 1 cap1)), (5, .val (.pointer (some (⟨nu1 0, 0, none⟩)))), (9, .val (.slice (some (⟨g, 0, none⟩)) l.length cap)), (10, .val (.int .i64 (↑l.length : Int))), (11, .val (.int .i64 0))]) (h1 := fun _ => [(nu1 0, .cells #[.int .i64 fm, .int .i64 d, .int .i64 sh, .int .i64 pq, .int .i64 pt, .bool true, .slice none 0 0, .int .i64 0, .slice none 0 0] 37 (0, 0)), (nu2 0, .cells #[.int .i64 fm, .int .i64 d, .int .i64 sh, .int .i64 pq, .int .i64 pt, .bool true, .slice none 0 0, .int .i64 0, .slice none 0 0] 37 (0, 0)), (g1, .cells cur1 37 (0, 0))]) (p1 := fun _ => []) (W1 := []) (fun _ => by kernel_rfl) (fun _ => trivial) (fun _ => ?_)
    refine JR_end ?_
    refine J_eb ?_
    refine J_reg mixed [.rd 0 [] 0 0, .rd 1 [] 0 0] [] [3, 5, 9, 10, 11] (E1 := fun _ => [(3, .val (.slice (some (⟨g1, 0, none⟩)) 1 cap1)), (5, .val (.pointer (some (⟨nu1 0, 0, none⟩)))), (9, .val (.slice (some (⟨g, 0, none⟩)) l.length cap)), (10, .val (.int .i64 (↑l.length : Int))), (11, .val (.int .i64 1))]) (h1 := fun _ => [(nu1 0, .cells #[.int .i64 fm, .int .i64 d, .int .i64 sh, .int .i64 pq, .int .i64 pt, .bool true, .slice none 0 0, .int .i64 0, .slice none 0 0] 37 (0, 0)), (nu2 0, .cells #[.int .i64 fm, .int .i64 d, .int .i64 sh, .int .i64 pq, .int .i64 pt, .bool true, .slice none 0 0, .int .i64 0, .slice none 0 0] 37 (0, 0)), (g1, .cells cur1 37 (0, 0))]) (p1 := fun _ => []) (W1 := []) (by kernel_rfl) (fun _ => by kernel_rfl) (fun _ => trivial) (fun _ => ?_)
    have e1 : l.take 1 = [(pq, pt)] := by
      have h1 : l[0]? = some (pq, pt) := hp
      rw [List.take_add_one, h1]
      rfl
    refine J_backx (⟨1, some (1, g1, cap1, cur1)⟩ : AS) [3, 9, 10, 11] (fun _ _ _ => ⟨by simp only; omega, by simp only; omega, rfl, by rw [e1]; simpa [bcs] using hrow1⟩) (by simp only; omega) (by kernel_rfl) (by simp [AS.h]) (fun hn => by simp [AS.h]) (by simp) (by simp)
  · simp only at hi0 hi hx
    obtain ⟨rfl, hx2⟩ := hx
    refine J_seq ?_
    refine J_reg mixed [.rd 0 [] 0 0] [] [3, 9, 10, 11, 12] (E1 := fun _ => [(3, .val (.slice (some (⟨g', 0, none⟩)) k cap')), (9, .val (.slice (some (⟨g, 0, none⟩)) l.length cap)), (10, .val (.int .i64 (↑l.length : Int))), (11, .val (.int .i64 (↑k : Int))), (12, .val (.bool (decide ((↑k : Int) < (↑l.length : Int)))))]) (h1 := fun _ => [(g', .cells cur' 37 (0, 0))]) (p1 := fun _ => []) (W1 := []) (by kernel_rfl) (fun _ => by kernel_rfl) (fun _ => trivial) (fun _ => ?_)
    refine J_seq ?_
    refine J_cond (t := decide ((↑k : Int) < (↑l.length : Int))) (by kernel_rfl) (by kernel_rfl) (fun hlt => ?_) (fun hlt => ?_)
    · have hlt2 : k < l.length := by simp at hlt; omega
      obtain ⟨⟨pq, pt⟩, hp⟩ : ∃ p, l[(k : Int).toNat]? = some p := ⟨_, List.getElem?_eq_getElem (by simpa using hlt2)⟩
      have f := hcell k (pq, pt) (by omega) hp
      have f0 : cur[0 + (k : Int).toNat * 9]? = some (.int .i64 fm) :=  f 0 _ rfl
      have f1 : cur[0 + (k : Int).toNat * 9 + 1]? = some (.int .i64 d) :=  f 1 _ rfl
      have f2 : cur[0 + (k : Int).toNat * 9 + 2]? = some (.int .i64 sh) :=  f 2 _ rfl
      have f3 : cur[0 + (k : Int).toNat * 9 + 3]? = some (.int .i64 pq) :=  f 3 _ rfl
      have f4 : cur[0 + (k : Int).toNat * 9 + 4]? = some (.int .i64 pt) :=  f 4 _ rfl
      have f5 : cur[0 + (k : Int).toNat * 9 + 5]? = some (.bool true) :=  f 5 _ rfl
      have f6 : cur[0 + (k : Int).toNat * 9 + 6]? = some (.slice none 0 0) :=  f 6 _ rfl
      have f7 : cur[0 + (k : Int).toNat * 9 + 7]? = some (.int .i64 0) :=  f 7 _ rfl
      have f8 : cur[0 + (k : Int).toNat * 9 + 8]? = some (.slice none 0 0) :=  f 8 _ rfl
      have e1 : ∀ cur2 cap2, Row cur2 cap2 (k + 1) 9 (bcs fm d sh (l.take k) ++ [.int .i64 fm, .int .i64 d, .int .i64 sh, .int .i64 pq, .int .i64 pt, .bool true, .slice none 0 0, .int .i64 0, .slice none 0 0]) → Row cur2 cap2 (k + 1) 9 (bcs fm d sh (l.take (k + 1))) := fun cur2 cap2 h => by
        have h1 : l[k]? = some (pq, pt) := by simpa using hp
        rw [List.take_add_one, h1, bcs_app]
        simpa [bcs] using h
      refine J_skip ?_
      refine J_seq ?_
      refine J_block ?_
      refine J_seq ?_
      refine J_reg mixed [.rd 0 [] 0 2, .rd 1 [.r 1 (some (.int .i64 fm)), .r 1 (some (.int .i64 d)), .r 1 (some (.int .i64 sh)), .r 1 (some (.int .i64 pq)), .r 1 (some (.int .i64 pt)), .r 1 (some (.bool true)), .r 1 (some (.slice none 0 0)), .r 1 (some (.int .i64 0)), .r 1 (some (.slice none 0 0))] 0 0, .wr 2 [] 0, .wr 3 [.o 1 none, .o 1 none, .o 1 none, .o 1 none, .o 1 none, .o 1 none, .o 1 none, .o 1 none, .o 1 none] 0] [(3, [])] [3, 5, 9, 10, 11] (E1 := fun nu1 => [(3, .val (.slice (some (⟨g', 0, none⟩)) k cap')), (5, .val (.pointer (some (⟨nu1 0, 0, none⟩)))), (9, .val (.slice (some (⟨g, 0, none⟩)) l.length cap)), (10, .val (.int .i64 (↑l.length : Int))), (11, .val (.int .i64 (↑k : Int)))]) (h1 := fun nu1 => [(g', .cells cur' 37 (0, 0)), (nu1 0, .cells #[.int .i64 fm, .int .i64 d, .int .i64 sh, .int .i64 pq, .int .i64 pt, .bool true, .slice none 0 0, .int .i64 0, .slice none 0 0] 37 (0, 0))]) (p1 := fun nu1 => [(0 : Int) ≤ (↑k : Int), (↑k : Int) < (↑l.length : Int), cur[(0 : Nat) + (↑k : Int).toNat * (9 : Nat)]? = some (Value.int IntKind.i64 fm), cur[(0 : Nat) + (↑k : Int).toNat * (9 : Nat) + (1 : Nat)]? = some (Value.int IntKind.i64 d), cur[(0 : Nat) + (↑k : Int).toNat * (9 : Nat) + (2 : Nat)]? = some (Value.int IntKind.i64 sh), cur[(0 : Nat) + (↑k : Int).toNat * (9 : Nat) + (3 : Nat)]? = some (Value.int IntKind.i64 pq), cur[(0 : Nat) + (↑k : Int).toNat * (9 : Nat) + (4 : Nat)]? = some (Value.int IntKind.i64 pt), cur[(0 : Nat) + (↑k : Int).toNat * (9 : Nat) + (5 : Nat)]? = some (Value.bool true), cur[(0 : Nat) + (↑k : Int).toNat * (9 : Nat) + (6 : Nat)]? = some (Value.slice none (0 : Nat) (0 : Nat)), cur[(0 : Nat) + (↑k : Int).toNat * (9 : Nat) + (7 : Nat)]? = some (Value.int IntKind.i64 (0 : Int)), cur[(0 : Nat) + (↑k : Int).toNat * (9 : Nat) + (8 : Nat)]? = some (Value.slice none (0 : Nat) (0 : Nat))]) (W1 := []) (by kernel_rfl) (fun _ => by kernel_rfl) (fun _ => ⟨hi0, by omega, f0, f1, f2, f3, f4, f5, f6, f7, f8, trivial⟩) (fun nu1 => ?_)
      refine JR_begin mixed [(0, true), (1, true), (2, false), (3, false), (4, false), (5, true)] [] (by kernel_rfl) (by kernel_rfl) ?_
      refine JR_run (id := 5) (rest := [(2, false), (3, false), (4, false), (5, true)]) [.rd 0 [] 0 0, .rd 1 [.o 1 none, .o 1 none, .o 1 none, .o 1 none, .o 1 none, .o 1 none, .o 1 none, .o 1 none, .o 1 none] 0 0] [3, 5, 9, 10, 11, 15, 16] (E1 := fun _ => [(3, .val (.slice (some (⟨g', 0, none⟩)) k cap')), (5, .val (.pointer (some (⟨nu1 0, 0, none⟩)))), (9, .val (.slice (some (⟨g, 0, none⟩)) l.length cap)), (10, .val (.int .i64 (↑l.length : Int))), (11, .val (.int .i64 (↑k : Int))), (15, .val (.slice (some (⟨g', 0, none⟩)) k cap')), (16, .val (.agg #[.int .i64 fm, .int .i64 d, .int .i64 sh, .int .i64 pq, .int .i64 pt, .bool true, .slice none 0 0, .int .i64 0, .slice none 0 0]))]) (h1 := fun _ => [(g', .cells cur' 37 (0, 0)), (nu1 0, .cells #[.int .i64 fm, .int .i64 d, .int .i64 sh, .int .i64 pq, .int .i64 pt, .bool true, .slice none 0 0, .int .i64 0, .slice none 0 0] 37 (0, 0))]) (p1 := fun _ => []) (W1 := []) (fun _ => by kernel_rfl) (fun _ => trivial) (fun _ => ?_)
      refine JR_call [] [] 34 #[.agg #[.int .i64 fm, .int .i64 d, .int .i64 sh, .int .i64 pq, .int .i64 pt, .bool true, .slice none 0 0, .int .i64 0, .slice none 0 0]] (some 17) (by kernel_rfl) (by kernel_rfl) (fun a w s => ?_)
      refine own34b.mono ?_
      rintro e w2 ⟨rfl, hf2⟩
      refine ⟨_, _, rfl, (did_pure s hf2).1, (did_pure s hf2).2, ?_⟩
      refine JR_run (id := 5) (rest := [(4, false), (5, true)]) [.wr 3 [] 0] [3, 5, 9, 10, 11, 15, 18] (E1 := fun nu2 => [(3, .val (.slice (some (⟨g', 0, none⟩)) k cap')), (5, .val (.pointer (some (⟨nu1 0, 0, none⟩)))), (9, .val (.slice (some (⟨g, 0, none⟩)) l.length cap)), (10, .val (.int .i64 (↑l.length : Int))), (11, .val (.int .i64 (↑k : Int))), (15, .val (.slice (some (⟨g', 0, none⟩)) k cap')), (18, .val (.slice (some (⟨nu2 0, 0, none⟩)) 1 1))]) (h1 := fun nu2 => [(g', .cells cur' 37 (0, 0)), (nu1 0, .cells #[.int .i64 fm, .int .i64 d, .int .i64 sh, .int .i64 pq, .int .i64 pt, .bool true, .slice none 0 0, .int .i64 0, .slice none 0 0] 37 (0, 0)), (nu2 0, .cells #[.int .i64 fm, .int .i64 d, .int .i64 sh, .int .i64 pq, .int .i64 pt, .bool true, .slice none 0 0, .int .i64 0, .slice none 0 0] 37 (0, 0))]) (p1 := fun nu2 => []) (W1 := []) (fun _ => by kernel_rfl) (fun _ => trivial) (fun nu2 => ?_)
      refine JR_app 0 g' k cap' 32 37 9 104 (.agg #[.int .i64 0, .int .i64 0, .int .i64 0, .int .i64 0, .int .i64 0, .bool false, .slice none 0 0, .int .i64 0, .slice none 0 0]) (news := [.int .i64 fm, .int .i64 d, .int .i64 sh, .int .i64 pq, .int .i64 pt, .bool true, .slice none 0 0, .int .i64 0, .slice none 0 0]) (ax := (⟨nu2 0, 0, none⟩)) (m := 1) (c := 1) (dst := (some 19)) (by kernel_rfl) (by kernel_rfl) (by kernel_rfl) (by kernel_rfl) rfl (by decide) rfl hx2 rfl (by decide) (src_blk (hn := .o 2 none) rfl (by intro j u hu; simpa using hu)) (by simp [Value.oneCell']) (by simp only [maxLen]; omega) (by omega) (fun cap1 cur1 hrow1 => ?_) (fun g1 cap1 cur1 o1 hrow1 => ?_)
      · refine JR_run (id := 5) (rest := []) [.rd 5 [] 0 0] [3, 5, 9, 10, 11] (E1 := fun _ => [(3, .val (.slice (some (⟨g', 0, none⟩)) (k + 1) cap1)), (5, .val (.pointer (some (⟨nu1 0, 0, none⟩)))), (9, .val (.slice (some (⟨g, 0, none⟩)) l.length cap)), (10, .val (.int .i64 (↑l.length : Int))), (11, .val (.int .i64 (↑k : Int)))]) (h1 := fun _ => [(g', .cells cur1 37 (0, 0)), (nu1 0, .cells #[.int .i64 fm, .int .i64 d, .int .i64 sh, .int .i64 pq, .int .i64 pt, .bool true, .slice none 0 0, .int .i64 0, .slice none 0 0] 37 (0, 0)), (nu2 0, .cells #[.int .i64 fm, .int .i64 d, .int .i64 sh, .int .i64 pq, .int .i64 pt, .bool true, .slice none 0 0, .int .i64 0, .slice none 0 0] 37 (0, 0))]) (p1 := fun _ => []) (W1 := []) (fun _ => by kernel_rfl) (fun _ => trivial) (fun _ => ?_)
        refine JR_end ?_
        refine J_eb ?_
        refine J_reg mixed [.rd 0 [] 0 1, .rd 1 [] 0 0] [] [3, 5, 9, 10, 11] (E1 := fun _ => [(3, .val (.slice (some (⟨g', 0, none⟩)) (k + 1) cap1)), (5, .val (.pointer (some (⟨nu1 0, 0, none⟩)))), (9, .val (.slice (some (⟨g, 0, none⟩)) l.length cap)), (10, .val (.int .i64 (↑l.length : Int))), (11, .val (.int .i64 ((↑k : Int) + 1)))]) (h1 := fun _ => [(g', .cells cur1 37 (0, 0)), (nu1 0, .cells #[.int .i64 fm, .int .i64 d, .int .i64 sh, .int .i64 pq, .int .i64 pt, .bool true, .slice none 0 0, .int .i64 0, .slice none 0 0] 37 (0, 0)), (nu2 0, .cells #[.int .i64 fm, .int .i64 d, .int .i64 sh, .int .i64 pq, .int .i64 pt, .bool true, .slice none 0 0, .int .i64 0, .slice none 0 0] 37 (0, 0))]) (p1 := fun _ => [IntKind.i64.wrap ((↑k : Int) + (1 : Int)) = (↑k : Int) + (1 : Int)]) (W1 := []) (by kernel_rfl) (fun _ => by kernel_rfl) (fun _ => ⟨wrap_i64 (by omega) (by omega), trivial⟩) (fun _ => ?_)
        refine J_backx (⟨(k : Int) + 1, some (k + 1, g', cap1, cur1)⟩ : AS) [3, 9, 10, 11] (fun _ _ _ => ⟨by simp only; omega, by simp only; omega, by simp only; omega, e1 _ _ hrow1⟩) (by simp only; omega) (by kernel_rfl) (by simp [AS.h]) (fun hn => by simp [AS.h]) (by simp) (by simp)
      · refine JR_run (id := 5) (rest := []) [.rd 5 [] 0 0] [3, 5, 9, 10, 11] (E1 := fun _ => [(3, .val (.slice (some (⟨g1, 0, none⟩)) (k + 1) cap1)), (5, .val (.pointer (some (⟨nu1 0, 0, none⟩)))), (9, .val (.slice (some (⟨g, 0, none⟩)) l.length cap)), (10, .val (.int .i64 (↑l.length : Int))), (11, .val (.int .i64 (↑k : Int)))]) (h1 := fun _ => [(g', o1), (nu1 0, .cells #[.int .i64 fm, .int .i64 d, .int .i64 sh, .int .i64 pq, .int .i64 pt, .bool true, .slice none 0 0, .int .i64 0, .slice none 0 0] 37 (0, 0)), (nu2 0, .cells #[.int .i64 fm, .int .i64 d, .int .i64 sh, .int .i64 pq, .int .i64 pt, .bool true, .slice none 0 0, .int .i64 0, .slice none 0 0] 37 (0, 0)), (g1, .cells cur1 37 (0, 0))]) (p1 := fun _ => []) (W1 := []) (fun _ => by kernel_rfl) (fun _ => trivial) (fun _ => ?_)
        refine JR_end ?_
        refine J_eb ?_
        refine J_reg mixed [.rd 0 [] 0 1, .rd 1 [] 0 0] [] [3, 5, 9, 10, 11] (E1 := fun _ => [(3, .val (.slice (some (⟨g1, 0, none⟩)) (k + 1) cap1)), (5, .val (.pointer (some (⟨nu1 0, 0, none⟩)))), (9, .val (.slice (some (⟨g, 0, none⟩)) l.length cap)), (10, .val (.int .i64 (↑l.length : Int))), (11, .val (.int .i64 ((↑k : Int) + 1)))]) (h1 := fun _ => [(g', o1), (nu1 0, .cells #[.int .i64 fm, .int .i64 d, .int .i64 sh, .int .i64 pq, .int .i64 pt, .bool true, .slice none 0 0, .int .i64 0, .slice none 0 0] 37 (0, 0)), (nu2 0, .cells #[.int .i64 fm, .int .i64 d, .int .i64 sh, .int .i64 pq, .int .i64 pt, .bool true, .slice none 0 0, .int .i64 0, .slice none 0 0] 37 (0, 0)), (g1, .cells cur1 37 (0, 0))]) (p1 := fun _ => [IntKind.i64.wrap ((↑k : Int) + (1 : Int)) = (↑k : Int) + (1 : Int)]) (W1 := []) (by kernel_rfl) (fun _ => by kernel_rfl) (fun _ => ⟨wrap_i64 (by omega) (by omega), trivial⟩) (fun _ => ?_)
        refine J_backx (⟨(k : Int) + 1, some (k + 1, g1, cap1, cur1)⟩ : AS) [3, 9, 10, 11] (fun _ _ _ => ⟨by simp only; omega, by simp only; omega, by simp only; omega, e1 _ _ hrow1⟩) (by simp only; omega) (by kernel_rfl) (by simp [AS.h]) (fun hn => by simp [AS.h]) (by simp) (by simp)
    · have hk : k = l.length := by simp at hlt; omega
      subst hk
      refine J_exit rfl ?_
      refine J_seq ?_
      refine J_reg mixed [.rd 0 [] 0 0, .rd 1 [] 0 0] [] [2] (E1 := fun _ => [(2, .val (.slice (some (⟨g', 0, none⟩)) l.length cap'))]) (h1 := fun _ => [(g', .cells cur' 37 (0, 0))]) (p1 := fun _ => []) (W1 := []) (by kernel_rfl) (fun _ => by kernel_rfl) (fun _ => trivial) (fun _ => ?_)
      refine J_return [[]] (.slice (some (⟨g', 0, none⟩)) l.length cap') (by kernel_rfl) (fun a w s => ?_)
      exact ⟨g', cap', cur', rfl, s.fr ([], w0) (by simp), s.fresh 1 0 rfl rfl (by simp), s.at 0 rfl, by simpa using hx2⟩
end Go.Proofs.YtgelnbgjabpdbaaDoor
