/- vector: Check, two. -/
import Derived.Test.YtpjkiomccpjboaaGreatDoorDat
import Derived.Test.YtpjkiomccpjboaaGreatDoorTk
namespace Go.Proofs.YtpjkiomccpjboaaGreatDoor
open Go Go.Sx

/-- The package's errors: each variable's own value (the first place: nothing). -/
abbrev globs (er : Nat → Addr) : List (Value × D) := [(.nilIface, .v .nilIface), dE 243 er 0 2, dE 243 er 3 3]

def badT (t : Int) : Bool := decide (t < 0) || decide (1099511627776 < t)
def vecErr (xs : List Int) : Nat := if xs.length < 1 ∨ 6 < xs.length then 3 else if xs.any badT then 2 else 0

theorem check1 {w : World} {S : Nat → Prop} {t : Int} : Calls Tryz.prog 92 #[.int .i64 t] w fun e w' => Ret [] w S w' e (.bool (badT t)) [] [] := by
  refine ep92 (args := [.int .i64 t]) (G := []) (by kernel_rfl) (AllG.nil w S) ?_
  refine J_seq ?_
  refine J_reg mixed [.rd 0 [] 0 0] [] [0, 2] (E1 := fun _ => [(0, .val (.int .i64 t)), (2, .val (.bool false))]) (h1 := fun _ => []) (p1 := fun _ => []) (W1 := []) (by kernel_rfl) (fun _ => by kernel_rfl) (fun _ => trivial) (fun _ => ?_)
  refine J_seq ?_
  refine J_reg mixed [.rd 0 [] 0 0, .rd 1 [] 0 0, .rd 2 [] 0 0, .rd 3 [] 2 0, .rd 4 [] 2 0, .rd 5 [] 0 3, .rd 6 [] 0 0] [] [2] (E1 := fun _ => [(2, .val (.bool (decide (t < 0) || decide (t > 1099511627776))))]) (h1 := fun _ => []) (p1 := fun _ => []) (W1 := []) (by kernel_rfl) (fun _ => by kernel_rfl) (fun _ => trivial) (fun _ => ?_)
  refine J_return [[]] (.bool (decide (t < 0) || decide (t > 1099511627776))) (by kernel_rfl) (fun a w s => ?_)
  exact s.ret (by simp) [] [] rfl rfl

theorem indexBad {w : World} {S : Nat → Prop} {a : Option Addr} {n c : Nat} {xs : List Int} (h : Rep w S (.slice a n c) (dInts xs)) (hl : xs.length ≤ 1000000) :
    Calls Tryz.prog 121 #[.slice a n c, .func (.func 92) #[] #[]] w fun e w' => ∃ r, Ret [] w S w' e (.int .i64 r) [] [] ∧ decide (0 ≤ r) = xs.any badT := by
  obtain rfl := rep_ints_len h
  refine ep121 (args := [.slice a xs.length c, .func (.func 92) #[] #[]]) (G := [(_, dInts xs)]) (by kernel_rfl) (.cons h (.nil _ _)) ?_
  refine J_seq ?_
  refine J_reg mixed [.rd 0 [] 0 0] [] [0, 1, 4] (E1 := fun _ => [(0, .val (.slice a xs.length c)), (1, .val (.func (.func 92) #[] #[])), (4, .val (.int .i64 0))]) (h1 := fun _ => []) (p1 := fun _ => []) (W1 := []) (by kernel_rfl) (fun _ => by kernel_rfl) (fun _ => trivial) (fun _ => ?_)
  refine J_seq ?_
  refine J_seq ?_
  refine J_reg mixed [.rd 0 [] 0 0, .rd 1 [] 0 0, .rd 2 [] 0 0] [] [0, 1, 4, 7, 8] (E1 := fun _ => [(0, .val (.slice a xs.length c)), (1, .val (.func (.func 92) #[] #[])), (4, .val (.int .i64 0)), (7, .val (.int .i64 (↑xs.length : Int))), (8, .val (.int .i64 0))]) (h1 := fun _ => []) (p1 := fun _ => []) (W1 := []) (by kernel_rfl) (fun _ => by kernel_rfl) (fun _ => trivial) (fun _ => ?_)
  refine J_block ?_
  refine J_loopx (fun i : Int => [(0, .val (.slice a xs.length c)), (1, .val (.func (.func 92) #[] #[])), (4, .val (.int .i64 0)), (7, .val (.int .i64 (↑xs.length : Int))), (8, .val (.int .i64 i))]) (fun i : Int => []) (fun i : Int => []) (fun i : Int => [(.slice a xs.length c, (dInts xs))]) (fun i : Int => (xs.length - i).toNat) (fun i : Int => (0 ≤ i ∧ i ≤ xs.length ∧ ∀ j : Nat, j < i.toNat → ∀ t, xs[j]? = some t → badT t = false)) 0 [0, 1, 4, 7, 8] [] [] [0] ?_ (by kernel_rfl) rfl rfl rfl ?_
  · exact ⟨by simp, by omega, by simp⟩
  rintro i ⟨hi0, hi, hno⟩
  refine J_seq ?_
  refine J_reg mixed [.rd 0 [] 0 0] [] [0, 1, 4, 7, 8, 9] (E1 := fun _ => [(0, .val (.slice a xs.length c)), (1, .val (.func (.func 92) #[] #[])), (4, .val (.int .i64 0)), (7, .val (.int .i64 (↑xs.length : Int))), (8, .val (.int .i64 i)), (9, .val (.bool (decide (i < (↑xs.length : Int)))))]) (h1 := fun _ => []) (p1 := fun _ => []) (W1 := []) (by kernel_rfl) (fun _ => by kernel_rfl) (fun _ => trivial) (fun _ => ?_)
  refine J_seq ?_
  refine J_cond (t := decide (i < (↑xs.length : Int))) (by kernel_rfl) (by kernel_rfl) (fun hlt => ?_) (fun hlt => ?_)
  · have hlt2 : i < xs.length := by simpa using hlt
    obtain ⟨x, hx⟩ : ∃ x, xs[i.toNat]? = some x := ⟨_, List.getElem?_eq_getElem (by omega)⟩
    refine J_read0 0 rfl i.toNat (map_at hx) (by kernel_rfl) (fun b1 off1 cs1 ty1 fz1 ha1 hrd1 => ?_)
    cases ha1
    have hrd1_0 := rd0 (hrd1 0 _ rfl)
    try simp only [List.cons_append, List.nil_append, List.append_nil]
    refine J_skip ?_
    refine J_seq ?_
    refine J_block ?_
    refine J_seq ?_
    refine J_reg mixed [.rd 0 [] 0 0, .rd 1 [] 0 0] [] [0, 1, 4, 5, 7, 8] (E1 := fun _ => [(0, .val (.slice (some (⟨b1, off1, none⟩)) xs.length c)), (1, .val (.func (.func 92) #[] #[])), (4, .val (.int .i64 0)), (5, .val (.int .i64 i)), (7, .val (.int .i64 (↑xs.length : Int))), (8, .val (.int .i64 i))]) (h1 := fun _ => []) (p1 := fun _ => []) (W1 := []) (by kernel_rfl) (fun _ => by kernel_rfl) (fun _ => trivial) (fun _ => ?_)
    refine J_seq ?_
    refine JR_begin mixed [(0, true), (1, true), (2, true), (3, true), (4, true), (5, false)] [] (by kernel_rfl) (by kernel_rfl) ?_
    refine JR_run (id := 4) (rest := [(5, false)]) [.rd 0 [] 0 0, .rd 1 [] 0 0, .rd 2 [] 0 0, .rd 3 [] 0 2, .rd 4 [.r 0 (some (.int .i64 x))] 0 0] [0, 1, 4, 5, 7, 8, 11, 15] (E1 := fun _ => [(0, .val (.slice (some (⟨b1, off1, none⟩)) xs.length c)), (1, .val (.func (.func 92) #[] #[])), (4, .val (.int .i64 0)), (5, .val (.int .i64 i)), (7, .val (.int .i64 (↑xs.length : Int))), (8, .val (.int .i64 i)), (11, .val (.func (.func 92) #[] #[])), (15, .val (.int .i64 x))]) (h1 := fun _ => []) (p1 := fun _ => [(0 : Int) ≤ i, i < (↑xs.length : Int), cs1[off1 + i.toNat * (1 : Nat)]? = some (Value.int IntKind.i64 x)]) (W1 := []) (fun _ => by kernel_rfl) (fun _ => ⟨hi0, hlt2, hrd1_0, trivial⟩) (fun _ => ?_)
    refine JR_callp [] 92 #[.int .i64 x] (some 16) (by kernel_rfl) (fun w S hG => ?_)
    refine (check1 (S := S)).mono ?_
    rintro e w2 hR
    refine ⟨_, _, _, hR, ?_⟩
    try simp only [List.cons_append, List.nil_append, List.append_nil]
    refine JR_end ?_
    refine J_cond (t := badT x) (by kernel_rfl) (by kernel_rfl) (fun hb => ?_) (fun hb => ?_)
    · refine J_seq ?_
      refine J_reg mixed [.rd 0 [] 0 0, .rd 1 [] 0 0] [] [0, 1, 4, 5, 7, 8, 11, 15] (E1 := fun _ => [(0, .val (.slice (some (⟨b1, off1, none⟩)) xs.length c)), (1, .val (.func (.func 92) #[] #[])), (4, .val (.int .i64 i)), (5, .val (.int .i64 i)), (7, .val (.int .i64 (↑xs.length : Int))), (8, .val (.int .i64 i)), (11, .val (.func (.func 92) #[] #[])), (15, .val (.int .i64 x))]) (h1 := fun _ => []) (p1 := fun _ => []) (W1 := []) (by kernel_rfl) (fun _ => by kernel_rfl) (fun _ => trivial) (fun _ => ?_)
      refine J_return [[]] (.int .i64 i) (by kernel_rfl) (fun a w s => ?_)
      refine ⟨_, s.ret (by simp) [] [] rfl rfl, ?_⟩
      rw [List.any_eq_true.2 ⟨x, List.mem_of_getElem? hx, hb⟩]
      simpa using hi0
    · refine J_skip ?_
      refine J_eb ?_
      refine J_reg mixed [.rd 0 [] 0 1, .rd 1 [] 0 0] [] [0, 1, 4, 5, 7, 8, 11, 15] (E1 := fun _ => [(0, .val (.slice (some (⟨b1, off1, none⟩)) xs.length c)), (1, .val (.func (.func 92) #[] #[])), (4, .val (.int .i64 0)), (5, .val (.int .i64 i)), (7, .val (.int .i64 (↑xs.length : Int))), (8, .val (.int .i64 (i + 1))), (11, .val (.func (.func 92) #[] #[])), (15, .val (.int .i64 x))]) (h1 := fun _ => []) (p1 := fun _ => [IntKind.i64.wrap (i + (1 : Int)) = i + (1 : Int)]) (W1 := []) (by kernel_rfl) (fun _ => by kernel_rfl) (fun _ => ⟨wrap_i64 (by omega) (by omega), trivial⟩) (fun _ => ?_)
      refine J_backx (i + 1) [0, 1, 4, 7, 8] [] [] [0] ?_ ?_ (by kernel_rfl) rfl rfl rfl
      · refine ⟨by omega, by omega, fun j hj t ht => ?_⟩
        by_cases hji : j = i.toNat
        · subst hji
          rw [hx] at ht
          cases ht
          exact hb
        · exact hno j (by omega) t ht
      · omega
  · refine J_exit rfl ?_
    refine J_seq ?_
    refine J_reg mixed [.rd 0 [] 0 0] [] [4] (E1 := fun _ => [(4, .val (.int .i64 (-1)))]) (h1 := fun _ => []) (p1 := fun _ => []) (W1 := []) (by kernel_rfl) (fun _ => by kernel_rfl) (fun _ => trivial) (fun _ => ?_)
    refine J_return [[]] (.int .i64 (-1)) (by kernel_rfl) (fun a w s => ?_)
    refine ⟨_, s.ret (by simp) [] [] rfl rfl, ?_⟩
    have e : xs.any badT = false := by
      rw [List.any_eq_false]
      intro t ht
      obtain ⟨j, hj⟩ := List.getElem?_of_mem ht
      have hjl := (List.getElem?_eq_some_iff.1 hj).1
      simp [hno j (by simp at hlt; omega) t hj]
    rw [e]
    decide

theorem containsBad {w : World} {S : Nat → Prop} {a : Option Addr} {n c : Nat} {xs : List Int} (h : Rep w S (.slice a n c) (dInts xs)) (hl : xs.length ≤ 1000000) :
    Calls Tryz.prog 91 #[.slice a n c, .func (.func 92) #[] #[]] w fun e w' => Ret [] w S w' e (.bool (xs.any badT)) [] [] := by
  refine ep91 (args := [.slice a n c, .func (.func 92) #[] #[]]) (G := [(_, dInts xs)]) (by kernel_rfl) (.cons h (.nil _ _)) ?_
  refine J_seq ?_
  refine J_reg mixed [.rd 0 [] 0 0] [] [0, 1, 4] (E1 := fun _ => [(0, .val (.slice a n c)), (1, .val (.func (.func 92) #[] #[])), (4, .val (.bool false))]) (h1 := fun _ => []) (p1 := fun _ => []) (W1 := []) (by kernel_rfl) (fun _ => by kernel_rfl) (fun _ => trivial) (fun _ => ?_)
  refine J_seq ?_
  refine JR_begin mixed [(0, true), (1, true), (2, false), (3, true), (4, true)] [] (by kernel_rfl) (by kernel_rfl) ?_
  refine JR_run (id := 1) (rest := [(2, false), (3, true), (4, true)]) [.rd 0 [] 0 0, .rd 1 [] 0 0] [4, 5, 6] (E1 := fun _ => [(4, .val (.bool false)), (5, .val (.slice a n c)), (6, .val (.func (.func 92) #[] #[]))]) (h1 := fun _ => []) (p1 := fun _ => []) (W1 := []) (fun _ => by kernel_rfl) (fun _ => trivial) (fun _ => ?_)
  refine JR_callp [] 121 #[.slice a n c, .func (.func 92) #[] #[]] (some 7) (by kernel_rfl) (fun w S hG => ?_)
  refine (indexBad (hG.at 0 rfl) hl).mono ?_
  rintro e w2 ⟨r, hR, hr⟩
  refine ⟨_, _, _, hR, ?_⟩
  try simp only [List.cons_append, List.nil_append, List.append_nil]
  refine JR_run (id := 1) (rest := []) [.rd 3 [] 0 0, .rd 4 [] 0 0] [4] (E1 := fun _ => [(4, .val (.bool (decide (r ≥ 0))))]) (h1 := fun _ => []) (p1 := fun _ => []) (W1 := []) (fun _ => by kernel_rfl) (fun _ => trivial) (fun _ => ?_)
  refine JR_end ?_
  refine J_return [[]] (.bool (decide (r ≥ 0))) (by kernel_rfl) (fun a w s => ?_)
  rw [← hr]
  exact s.ret (by simp) [] [] rfl rfl

theorem vcheck {w : World} {S : Nat → Prop} {er : Nat → Addr} {a : Option Addr} {n c : Nat} {xs : List Int} (hE : AllG w S (globs er)) (h : Rep w S (.slice a n c) (dInts xs)) (hl : xs.length ≤ 1000000) :
    Calls Tryz.prog 59 #[.slice a n c] w fun e w' => ∃ v, Ret [] w S w' e v [] [] ∧ ErrIs 243 er (vecErr xs) v := by
  obtain rfl := rep_ints_len h
  refine ep59 (args := [.slice a xs.length c]) (G := globs er ++ [(_, dInts xs)]) (by kernel_rfl) (hE.app (.cons h (.nil _ _))) ?_
  refine J_glob 1 rfl (fun csg1 tyg1 fzg1 hglob1 => ?_)
  refine J_glob 2 rfl (fun csg2 tyg2 fzg2 hglob2 => ?_)
  try simp only [List.cons_append, List.nil_append, List.append_nil]
  refine J_seq ?_
  refine J_reg mixed [.rd 0 [] 0 0] [] [0, 2] (E1 := fun _ => [(0, .val (.slice a xs.length c)), (2, .val (.nilIface))]) (h1 := fun _ => []) (p1 := fun _ => []) (W1 := []) (by kernel_rfl) (fun _ => by kernel_rfl) (fun _ => trivial) (fun _ => ?_)
  refine J_seq ?_
  refine J_seq ?_
  refine J_reg mixed [.rd 0 [] 0 0, .rd 1 [] 0 0, .rd 2 [] 0 0, .rd 3 [] 0 0, .rd 4 [] 2 0, .rd 5 [] 2 0, .rd 6 [] 2 0, .rd 7 [] 0 3] [] [0, 2, 10] (E1 := fun _ => [(0, .val (.slice a xs.length c)), (2, .val (.nilIface)), (10, .val (.bool (decide ((↑xs.length : Int) < 1) || decide ((↑xs.length : Int) > 6))))]) (h1 := fun _ => []) (p1 := fun _ => []) (W1 := []) (by kernel_rfl) (fun _ => by kernel_rfl) (fun _ => trivial) (fun _ => ?_)
  refine J_cond (t := decide ((↑xs.length : Int) < 1) || decide ((↑xs.length : Int) > 6)) (by kernel_rfl) (by kernel_rfl) (fun hn => ?_) (fun hn => ?_)
  · refine J_seq ?_
    refine J_reg mixed [.rd 0 [.r 1 (some (.iface 243 (.pointer (some (er 3)))))] 0 0, .rd 1 [] 0 0] [] [0, 2] (E1 := fun _ => [(0, .val (.slice a xs.length c)), (2, .val (.iface 243 (.pointer (some (er 3)))))]) (h1 := fun _ => []) (p1 := fun _ => [csg2[(0 : Nat)]? = some (Value.iface (243 : Nat) (Value.pointer (some (er (3 : Nat)))))]) (W1 := []) (by kernel_rfl) (fun _ => by kernel_rfl) (fun _ => ⟨hglob2, trivial⟩) (fun _ => ?_)
    refine J_return [[]] (.iface 243 (.pointer (some (er 3)))) (by kernel_rfl) (fun a w s => ?_)
    refine ⟨_, s.ret (by simp) [] [] rfl rfl, .inr ⟨?_, ?_⟩⟩ <;> rw [vecErr, if_pos (by simp at hn; omega)]
    · decide
  · have hn2 : ¬ (xs.length < 1 ∨ 6 < xs.length) := by simp at hn; omega
    refine J_skip ?_
    refine J_seq ?_
    refine J_seq ?_
    refine JR_begin mixed [(0, true), (1, false)] [] (by kernel_rfl) (by kernel_rfl) ?_
    refine JR_run (id := 3) (rest := [(1, false)]) [.rd 0 [] 0 0] [2, 12] (E1 := fun _ => [(2, .val (.nilIface)), (12, .val (.slice a xs.length c))]) (h1 := fun _ => []) (p1 := fun _ => []) (W1 := []) (fun _ => by kernel_rfl) (fun _ => trivial) (fun _ => ?_)
    refine JR_callp [] 91 #[.slice a xs.length c, .func (.func 92) #[] #[]] (some 13) (by kernel_rfl) (fun w S hG => ?_)
    refine (containsBad (hG.at 3 rfl) hl).mono ?_
    rintro e w2 hR
    refine ⟨_, _, _, hR, ?_⟩
    try simp only [List.cons_append, List.nil_append, List.append_nil]
    refine JR_end ?_
    refine J_cond (t := xs.any badT) (by kernel_rfl) (by kernel_rfl) (fun hb => ?_) (fun hb => ?_)
    · refine J_seq ?_
      refine J_reg mixed [.rd 0 [.r 0 (some (.iface 243 (.pointer (some (er 2)))))] 0 0, .rd 1 [] 0 0] [] [2] (E1 := fun _ => [(2, .val (.iface 243 (.pointer (some (er 2)))))]) (h1 := fun _ => []) (p1 := fun _ => [csg1[(0 : Nat)]? = some (Value.iface (243 : Nat) (Value.pointer (some (er (2 : Nat)))))]) (W1 := []) (by kernel_rfl) (fun _ => by kernel_rfl) (fun _ => ⟨hglob1, trivial⟩) (fun _ => ?_)
      refine J_return [[]] (.iface 243 (.pointer (some (er 2)))) (by kernel_rfl) (fun a w s => ?_)
      refine ⟨_, s.ret (by simp) [] [] rfl rfl, .inr ⟨?_, ?_⟩⟩ <;> rw [vecErr, if_neg hn2, if_pos hb]
      · decide
    · refine J_skip ?_
      refine J_seq ?_
      refine J_reg mixed [.rd 0 [] 0 0] [] [2] (E1 := fun _ => [(2, .val (.nilIface))]) (h1 := fun _ => []) (p1 := fun _ => []) (W1 := []) (by kernel_rfl) (fun _ => by kernel_rfl) (fun _ => trivial) (fun _ => ?_)
      refine J_return [[]] (.nilIface) (by kernel_rfl) (fun a w s => ?_)
      exact ⟨_, s.ret (by simp) [] [] rfl rfl, .inl ⟨by rw [vecErr, if_neg hn2, hb]; rfl, rfl⟩⟩
end Go.Proofs.YtpjkiomccpjboaaGreatDoor
