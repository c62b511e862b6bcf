/- Part 6 of the texts of a claim: Ref Worth Light Adds Tx9. -/
import Derived.Stop.LaidErr
import Derived.Below
import Derived.Carry
import Derived.ChangeSame
import Derived.OpenShut
import Derived.ChangeSlices
import Derived.Test.YtpjkiomccpjboaaGreatDoorTb5
section
namespace Go.Proofs.YtpjkiomccpjboaaGreatDoor
open Go Go.Sx
def heavyL (l : List ComT) : Bool := decide (30 < (l.length : Int)) || l.any fun c => decide (0 < heavyC c)
theorem heavyB {w : World} {S : Nat → Prop} {a : Option Addr} {n c : Nat} {l : List ComT} (h : Rep w S (.slice a n c) (.sl 3 (l.map eCom))) :
    Calls Tryz.prog 20 #[.slice a n c] w fun e w' => Ret [] w S w' e (.bool (heavyL l)) [] [] := by
  have e1 := h.slen
  rw [List.length_map] at e1
  subst e1
  refine ep20 (args := [.slice a l.length c]) (G := [(_, .sl 3 (l.map eCom))]) (by kernel_rfl) (.cons h (.nil _ _)) ?_
  refine J_seq ?_
  refine J_reg mixed [.rd 0 [] 0 0] [] [0, 2] (E1 := fun _ => [(0, .val (.slice a l.length c)), (2, .val (.bool false))]) (h1 := fun _ => []) (p1 := fun _ => []) (W1 := []) (by kernel_rfl) (fun _ => by kernel_rfl) (fun _ => trivial) (fun _ => ?_)
  refine J_seq ?_
  refine J_seq ?_
  refine J_reg mixed [.rd 0 [] 0 0, .rd 1 [] 0 0, .rd 2 [] 0 0] [] [0, 2, 6] (E1 := fun _ => [(0, .val (.slice a l.length c)), (2, .val (.bool false)), (6, .val (.bool (decide ((↑l.length : Int) > 30))))]) (h1 := fun _ => []) (p1 := fun _ => []) (W1 := []) (by kernel_rfl) (fun _ => by kernel_rfl) (fun _ => trivial) (fun _ => ?_)
  refine J_cond (t := decide ((↑l.length : Int) > 30)) (by kernel_rfl) (by kernel_rfl) (fun hb => ?_) (fun hb => ?_)
  · have e : heavyL l = true := by simp only [heavyL, Bool.or_eq_true]; exact .inl (by simpa using hb)
    rw [e]
    refine J_seq ?_
    refine J_reg mixed [.rd 0 [] 0 0] [] [0, 2] (E1 := fun _ => [(0, .val (.slice a l.length c)), (2, .val (.bool true))]) (h1 := fun _ => []) (p1 := fun _ => []) (W1 := []) (by kernel_rfl) (fun _ => by kernel_rfl) (fun _ => trivial) (fun _ => ?_)
    refine J_return [[]] (.bool true) (by kernel_rfl) (fun a w s => ?_)
    exact s.ret (by simp) [] [] rfl rfl
  have hb2 : l.length ≤ 30 := by simp at hb; omega
  refine J_skip ?_
  refine J_seq ?_
  refine J_seq ?_
  refine J_reg mixed [.rd 0 [] 0 0] [] [0, 2, 3] (E1 := fun _ => [(0, .val (.slice a l.length c)), (2, .val (.bool false)), (3, .val (.int .i64 0))]) (h1 := fun _ => []) (p1 := fun _ => []) (W1 := []) (by kernel_rfl) (fun _ => by kernel_rfl) (fun _ => trivial) (fun _ => ?_)
  refine J_block ?_
  refine J_loopx (fun i : Int => [(0, .val (.slice a l.length c)), (2, .val (.bool false)), (3, .val (.int .i64 i))]) (fun i : Int => []) (fun i : Int => []) (fun i : Int => [(.slice a l.length c, (D.sl 3 (List.map eCom l)))]) (fun i : Int => (l.length - i).toNat) (fun i : Int => (0 ≤ i ∧ i ≤ l.length ∧ ∀ x ∈ l.take i.toNat, heavyC x = 0)) 0 [0, 2, 3] [] [] [0] ?_ (by kernel_rfl) rfl rfl rfl ?_
  · exact ⟨by simp, by simp, by simp⟩
  rintro i ⟨hi0, hi, hno⟩
  refine J_seq ?_
  refine J_seq ?_
  refine J_reg mixed [.rd 0 [] 0 0, .rd 1 [] 0 0, .rd 2 [] 0 0, .rd 3 [] 0 0] [] [0, 2, 3, 10] (E1 := fun _ => [(0, .val (.slice a l.length c)), (2, .val (.bool false)), (3, .val (.int .i64 i)), (10, .val (.bool (decide (i < (↑l.length : Int)))))]) (h1 := fun _ => []) (p1 := fun _ => []) (W1 := []) (by kernel_rfl) (fun _ => by kernel_rfl) (fun _ => trivial) (fun _ => ?_)
  refine J_cond (t := decide (i < (↑l.length : Int))) (by kernel_rfl) (by kernel_rfl) (fun hlt => ?_) (fun hlt => ?_)
  · have hlt2 : i < l.length := by simpa using hlt
    obtain ⟨x, hx⟩ : ∃ x, l[i.toNat]? = some x := ⟨_, List.getElem?_eq_getElem (by omega)⟩
    refine J_read2 0 rfl i.toNat (map_at hx) (by kernel_rfl) (fun b1 off1 cs1 ty1 fz1 a1_0 c1_0 a1_1 c1_1 ha1 hrd1 => ?_)
    cases ha1
    have hrd1_0 := rd0 (hrd1 0 _ rfl)
    have hrd1_1 := hrd1 1 _ rfl
    have hrd1_2 := hrd1 2 _ rfl
    try simp only [List.cons_append, List.nil_append, List.append_nil]
    refine J_skip ?_
    refine J_seq ?_
    refine J_block ?_
    refine J_seq ?_
    refine JR_begin mixed [(0, true), (1, true), (2, true), (3, true), (4, false), (5, true)] [] (by kernel_rfl) (by kernel_rfl) ?_
    refine JR_run (id := 6) (rest := [(4, false), (5, true)]) [.rd 0 [] 0 0, .rd 1 [] 0 0, .rd 2 [] 0 2, .rd 3 [.r 0 (some (.slice (a1_0, c1_0).fst ((List.map eI x.when).length) c1_0)), .r 0 (some (.int .i64 x.place)), .r 0 (some (.slice (a1_1, c1_1).fst ((List.map eOp x.ops).length) c1_1))] 0 0] [0, 2, 3, 16] (E1 := fun _ => [(0, .val (.slice (some (⟨b1, off1, none⟩)) l.length c)), (2, .val (.bool false)), (3, .val (.int .i64 i)), (16, .val (.agg #[.slice (a1_0, c1_0).fst ((List.map eI x.when).length) c1_0, .int .i64 x.place, .slice (a1_1, c1_1).fst ((List.map eOp x.ops).length) c1_1]))]) (h1 := fun _ => []) (p1 := fun _ => [(0 : Int) ≤ i, i < (↑l.length : Int), cs1[off1 + i.toNat * (3 : Nat)]? = some (Value.slice (a1_0, c1_0).fst (List.map eI x.when).length (a1_0, c1_0).snd), cs1[off1 + i.toNat * (3 : Nat) + (1 : Nat)]? = some (Value.int IntKind.i64 x.place), cs1[off1 + i.toNat * (3 : Nat) + (2 : Nat)]? = some (Value.slice (a1_1, c1_1).fst (List.map eOp x.ops).length (a1_1, c1_1).snd)]) (W1 := []) (fun _ => by kernel_rfl) (fun _ => ⟨hi0, hlt2, hrd1_0, hrd1_1, hrd1_2, trivial⟩) (fun _ => ?_)
    refine JR_callp [] 12 #[.agg #[.slice (a1_0, c1_0).fst ((List.map eI x.when).length) c1_0, .int .i64 x.place, .slice (a1_1, c1_1).fst ((List.map eOp x.ops).length) c1_1]] (some 17) (by kernel_rfl) (fun w S hG => ?_)
    refine (heavyCommit (c := x) (hG.at 1 rfl) (hG.at 2 rfl)).mono ?_
    rintro e2 w2 hR
    refine ⟨_, _, _, hR, ?_⟩
    try simp only [List.cons_append, List.nil_append, List.append_nil]
    refine JR_run (id := 6) (rest := []) [.rd 5 [] 0 0] [0, 2, 3, 18] (E1 := fun _ => [(0, .val (.slice (some (⟨b1, off1, none⟩)) l.length c)), (2, .val (.bool false)), (3, .val (.int .i64 i)), (18, .val (.bool (decide (heavyC x > 0))))]) (h1 := fun _ => []) (p1 := fun _ => []) (W1 := []) (fun _ => by kernel_rfl) (fun _ => trivial) (fun _ => ?_)
    refine JR_end ?_
    refine J_cond (t := decide (heavyC x > 0)) (by kernel_rfl) (by kernel_rfl) (fun hv => ?_) (fun hv => ?_)
    · have e : heavyL l = true := by
        simp only [heavyL, Bool.or_eq_true]
        exact .inr (List.any_eq_true.2 ⟨x, List.mem_of_getElem? hx, by simpa using hv⟩)
      rw [e]
      refine J_seq ?_
      refine J_reg mixed [.rd 0 [] 0 0] [] [0, 2, 3] (E1 := fun _ => [(0, .val (.slice (some (⟨b1, off1, none⟩)) l.length c)), (2, .val (.bool true)), (3, .val (.int .i64 i))]) (h1 := fun _ => []) (p1 := fun _ => []) (W1 := []) (by kernel_rfl) (fun _ => by kernel_rfl) (fun _ => trivial) (fun _ => ?_)
      refine J_return [[]] (.bool true) (by kernel_rfl) (fun a w s => ?_)
      exact s.ret (by simp) [] [] rfl rfl
    · refine J_skip ?_
      refine J_eb ?_
      refine J_reg mixed [.rd 0 [] 0 0, .rd 1 [] 0 1, .rd 2 [] 0 0] [] [0, 2, 3] (E1 := fun _ => [(0, .val (.slice (some (⟨b1, off1, none⟩)) l.length c)), (2, .val (.bool false)), (3, .val (.int .i64 (i + 1)))]) (h1 := fun _ => []) (p1 := fun _ => [IntKind.i64.wrap (i + (1 : Int)) = i + (1 : Int)]) (W1 := []) (by kernel_rfl) (fun _ => by kernel_rfl) (fun _ => ⟨wrap_i64 (by omega) (by omega), trivial⟩) (fun _ => ?_)
      refine J_backx (i + 1) [0, 2, 3] [] [] [0] ?_ ?_ (by kernel_rfl) rfl rfl rfl
      · refine ⟨by omega, by omega, fun z hz => ?_⟩
        rw [← take_snoc hi0 hx, List.mem_append, List.mem_singleton] at hz
        rcases hz with hz | rfl
        · exact hno z hz
        · have h1 : ¬ heavyC z > 0 := by simpa using hv
          have h2 : heavyC z = 0 ∨ heavyC z = 1 := by
            unfold heavyC
            split
            · exact .inr rfl
            · split
              · exact .inr rfl
              · exact .inl rfl
          omega
      · omega
  · have hil : l.take i.toNat = l := List.take_of_length_le (by simp at hlt; omega)
    rw [hil] at hno
    have e : heavyL l = false := by
      simp only [heavyL, Bool.or_eq_false_iff, List.any_eq_false]
      refine ⟨by simp; omega, fun x hx => by simp [hno x hx]⟩
    rw [e]
    refine J_exit rfl ?_
    refine J_seq ?_
    refine J_reg mixed [.rd 0 [] 0 0] [] [2] (E1 := fun _ => [(2, .val (.bool false))]) (h1 := fun _ => []) (p1 := fun _ => []) (W1 := []) (by kernel_rfl) (fun _ => by kernel_rfl) (fun _ => trivial) (fun _ => ?_)
    refine J_return [[]] (.bool false) (by kernel_rfl) (fun a w s => ?_)
    exact s.ret (by simp) [] [] rfl rfl
theorem ownCommits {w0 : World} {S : Nat → Prop} {a : Option Addr} {n c : Nat} {l : List ComT} (h : Rep w0 S (.slice a n c) (.sl 3 (l.map eCom))) (hl : l.length ≤ 1000000) (hl1 : ∀ x ∈ l, x.when.length ≤ 1000000) (hl2 : ∀ x ∈ l, x.ops.length ≤ 1000000) (hl3 : ∀ x ∈ l, ∀ o ∈ x.ops, o.dots.length ≤ 1000000) :
    Calls Tryz.prog 22 #[.slice a n c] w0 fun e w' => ∃ a' n' c', Ret [] w0 S w' e (.slice a' n' c') [] [(.slice a' n' c', .sl 3 (l.map eCom))] := by
  have e1 := h.slen
  rw [List.length_map] at e1
  subst e1
  refine ep22 (args := [.slice a l.length c]) (G := [(_, .sl 3 (l.map eCom))]) (by kernel_rfl) (.cons h (.nil _ _)) ?_
  refine J_stp (stp_accm eCom 28 3) ?_
  try simp only [List.cons_append, List.nil_append, List.append_nil]
  refine J_seq ?_
  refine J_reg mixed [.rd 0 [] 0 0] [] [0, 2] (E1 := fun _ => [(0, .val (.slice a l.length c)), (2, .val (.slice none 0 0))]) (h1 := fun _ => []) (p1 := fun _ => []) (W1 := []) (by kernel_rfl) (fun _ => by kernel_rfl) (fun _ => trivial) (fun _ => ?_)
  refine J_seq ?_
  refine J_reg mixed [.rd 0 [] 0 0] [] [0, 2, 3] (E1 := fun _ => [(0, .val (.slice a l.length c)), (2, .val (.slice none 0 0)), (3, .val (.slice none 0 0))]) (h1 := fun _ => []) (p1 := fun _ => []) (W1 := []) (by kernel_rfl) (fun _ => by kernel_rfl) (fun _ => trivial) (fun _ => ?_)
  refine J_seq ?_
  refine J_seq ?_
  refine J_reg mixed [.rd 0 [] 0 0] [] [0, 2, 3, 4] (E1 := fun _ => [(0, .val (.slice a l.length c)), (2, .val (.slice none 0 0)), (3, .val (.slice none 0 0)), (4, .val (.int .i64 0))]) (h1 := fun _ => []) (p1 := fun _ => []) (W1 := []) (by kernel_rfl) (fun _ => by kernel_rfl) (fun _ => trivial) (fun _ => ?_)
  refine J_block ?_
  refine J_loopx (fun x : AccI => [(0, .val (.slice a l.length c)), (2, .val (.slice none 0 0)), (3, .val (.slice x.a x.k x.c)), (4, .val (.int .i64 x.i))]) (fun x : AccI => []) (fun x : AccI => [cAcc (.slice x.a x.k x.c) 28 3 ((List.take x.i.toNat l).map eCom)]) (fun x : AccI => [(.slice a l.length c, (D.sl 3 (List.map eCom l)))]) (fun x : AccI => (l.length - x.i).toNat) (fun x : AccI => (0 ≤ x.i ∧ x.i ≤ l.length)) ⟨0, none, 0, 0⟩ [0, 2, 3, 4] [] [0] [0] ?_ (by kernel_rfl) rfl rfl rfl ?_
  · exact ⟨by simp, by simp⟩
  rintro ⟨i, av, k, cv⟩ ⟨hi0, hi⟩
  dsimp only at hi0 hi ⊢
  refine J_stpx (stp_acclen 0 rfl) fun _ hk => ?_
  have hk2 : k ≤ l.length := by simp at hk; omega
  refine J_seq ?_
  refine J_seq ?_
  refine J_reg mixed [.rd 0 [] 0 0, .rd 1 [] 0 0, .rd 2 [] 0 0, .rd 3 [] 0 0] [] [0, 2, 3, 4, 9] (E1 := fun _ => [(0, .val (.slice a l.length c)), (2, .val (.slice none 0 0)), (3, .val (.slice av k cv)), (4, .val (.int .i64 i)), (9, .val (.bool (decide (i < (↑l.length : Int)))))]) (h1 := fun _ => []) (p1 := fun _ => []) (W1 := []) (by kernel_rfl) (fun _ => by kernel_rfl) (fun _ => trivial) (fun _ => ?_)
  refine J_cond (t := decide (i < (↑l.length : Int))) (by kernel_rfl) (by kernel_rfl) (fun hlt => ?_) (fun hlt => ?_)
  · have hlt2 : i < l.length := by simpa using hlt
    obtain ⟨x, hx⟩ : ∃ x, l[i.toNat]? = some x := ⟨_, List.getElem?_eq_getElem (by omega)⟩
    have hxm := List.mem_of_getElem? hx
    refine J_read2 0 rfl i.toNat (map_at hx) (by kernel_rfl) (fun b1 off1 cs1 ty1 fz1 a1_0 c1_0 a1_1 c1_1 ha1 hrd1 => ?_)
    cases ha1
    have hrd1_0 := rd0 (hrd1 0 _ rfl)
    have hrd1_1 := hrd1 1 _ rfl
    have hrd1_2 := hrd1 2 _ rfl
    try simp only [List.cons_append, List.nil_append, List.append_nil]
    refine J_skip ?_
    refine J_seq ?_
    refine J_block ?_
    refine J_seq ?_
    refine JR_begin mixed [(0, true), (1, true), (2, true), (3, true), (4, false), (5, false), (6, false)] [] (by kernel_rfl) (by kernel_rfl) ?_
    refine JR_run (id := 5) (rest := [(4, false), (5, false), (6, false)]) [.rd 0 [] 0 0, .rd 1 [] 0 0, .rd 2 [] 0 2, .rd 3 [.r 0 (some (.slice (a1_0, c1_0).fst ((List.map eI x.when).length) c1_0)), .r 0 (some (.int .i64 x.place)), .r 0 (some (.slice (a1_1, c1_1).fst ((List.map eOp x.ops).length) c1_1))] 0 0] [0, 2, 3, 4, 15] (E1 := fun _ => [(0, .val (.slice (some (⟨b1, off1, none⟩)) l.length c)), (2, .val (.slice none 0 0)), (3, .val (.slice av k cv)), (4, .val (.int .i64 i)), (15, .val (.agg #[.slice (a1_0, c1_0).fst ((List.map eI x.when).length) c1_0, .int .i64 x.place, .slice (a1_1, c1_1).fst ((List.map eOp x.ops).length) c1_1]))]) (h1 := fun _ => []) (p1 := fun _ => [(0 : Int) ≤ i, i < (↑l.length : Int), cs1[off1 + i.toNat * (3 : Nat)]? = some (Value.slice (a1_0, c1_0).fst (List.map eI x.when).length (a1_0, c1_0).snd), cs1[off1 + i.toNat * (3 : Nat) + (1 : Nat)]? = some (Value.int IntKind.i64 x.place), cs1[off1 + i.toNat * (3 : Nat) + (2 : Nat)]? = some (Value.slice (a1_1, c1_1).fst (List.map eOp x.ops).length (a1_1, c1_1).snd)]) (W1 := []) (fun _ => by kernel_rfl) (fun _ => ⟨hi0, hlt2, hrd1_0, hrd1_1, hrd1_2, trivial⟩) (fun _ => ?_)
    refine JR_callp [] 18 #[.agg #[.slice (a1_0, c1_0).fst ((List.map eI x.when).length) c1_0, .int .i64 x.place, .slice (a1_1, c1_1).fst ((List.map eOp x.ops).length) c1_1]] (some 16) (by kernel_rfl) (fun w S hG => ?_)
    refine (ownCommit (c := x) (hG.at 1 rfl) (hG.at 2 rfl) (hl1 x hxm) (hl2 x hxm) (hl3 x hxm)).mono ?_
    rintro e2 w2 ⟨q1, m1, d1, q2, m2, d2, hR⟩
    refine ⟨_, _, _, hR, ?_⟩
    try simp only [List.cons_append, List.nil_append, List.append_nil]
    refine JR_run (id := 5) (rest := []) [.wr 5 [] 0, .wr 6 [.o 0 none, .o 0 none, .o 0 none] 0] [0, 2, 3, 4, 5] (E1 := fun nu1 => [(0, .val (.slice (some (⟨b1, off1, none⟩)) l.length c)), (2, .val (.slice none 0 0)), (3, .val (.slice av k cv)), (4, .val (.int .i64 i)), (5, .val (.pointer (some (⟨nu1 0, 0, none⟩))))]) (h1 := fun nu1 => [(nu1 0, .cells #[.slice q1 m1 d1, .int .i64 x.place, .slice q2 m2 d2] 28 (0, 0))]) (p1 := fun nu1 => []) (W1 := []) (fun _ => by kernel_rfl) (fun _ => trivial) (fun nu1 => ?_)
    refine JR_end ?_
    refine JR_begin mixed [(0, true), (1, true), (2, false), (3, false), (4, true)] [] (by kernel_rfl) (by kernel_rfl) ?_
    refine JR_run (id := 6) (rest := [(3, false), (4, true)]) [.rd 0 [] 0 0, .rd 1 [.o 0 none, .o 0 none, .o 0 none] 0 0, .wr 2 [] 0] [0, 2, 3, 4, 5, 17, 19] (E1 := fun nu2 => [(0, .val (.slice (some (⟨b1, off1, none⟩)) l.length c)), (2, .val (.slice none 0 0)), (3, .val (.slice av k cv)), (4, .val (.int .i64 i)), (5, .val (.pointer (some (⟨nu1 0, 0, none⟩)))), (17, .val (.slice av k cv)), (19, .val (.slice (some (⟨nu2 0, 0, none⟩)) 1 1))]) (h1 := fun nu2 => [(nu1 0, .cells #[.slice q1 m1 d1, .int .i64 x.place, .slice q2 m2 d2] 28 (0, 0)), (nu2 0, .cells #[.slice q1 m1 d1, .int .i64 x.place, .slice q2 m2 d2] 28 (0, 0))]) (p1 := fun nu2 => []) (W1 := []) (fun _ => by kernel_rfl) (fun _ => trivial) (fun nu2 => ?_)
    refine JR_appm 0 43 28 3 56 (.agg #[.slice none 0 0, .int .i64 0, .slice none 0 0]) (a0 := av) (len := k) (cap0 := cv) (ax := (some (⟨nu2 0, 0, none⟩))) (m := 1) (c := 1) (dst := (some 20)) [x] (by kernel_rfl) (by kernel_rfl) (by kernel_rfl) (by kernel_rfl) rfl (by decide) rfl (fun _ _ _ s => src_one s 1 rfl rfl ⟨.inr (.inl (List.mem_of_getElem? (i := 3) rfl)), ⟨.inl ⟨rfl, rfl⟩, ⟨.inr (.inl (List.mem_of_getElem? (i := 4) rfl)), trivial⟩⟩⟩) (by simp only [maxLen]; omega) (by omega) (fun av1 cv1 => ?_)
    rw [take_snoc hi0 hx]
    try simp only [List.cons_append, List.nil_append, List.append_nil]
    refine JR_run (id := 6) (rest := []) [.rd 4 [] 0 0] [0, 2, 3, 4, 5] (E1 := fun _ => [(0, .val (.slice (some (⟨b1, off1, none⟩)) l.length c)), (2, .val (.slice none 0 0)), (3, .val (.slice av1 (k + 1) cv1)), (4, .val (.int .i64 i)), (5, .val (.pointer (some (⟨nu1 0, 0, none⟩))))]) (h1 := fun _ => [(nu1 0, .cells #[.slice q1 m1 d1, .int .i64 x.place, .slice q2 m2 d2] 28 (0, 0)), (nu2 0, .cells #[.slice q1 m1 d1, .int .i64 x.place, .slice q2 m2 d2] 28 (0, 0))]) (p1 := fun _ => []) (W1 := []) (fun _ => by kernel_rfl) (fun _ => trivial) (fun _ => ?_)
    try simp only [List.cons_append, List.nil_append, List.append_nil]
    refine JR_end ?_
    try simp only [List.cons_append, List.nil_append, List.append_nil]
    refine J_eb ?_
    try simp only [List.cons_append, List.nil_append, List.append_nil]
    refine J_reg mixed [.rd 0 [] 0 0, .rd 1 [] 0 1, .rd 2 [] 0 0] [] [0, 2, 3, 4, 5] (E1 := fun _ => [(0, .val (.slice (some (⟨b1, off1, none⟩)) l.length c)), (2, .val (.slice none 0 0)), (3, .val (.slice av1 (k + 1) cv1)), (4, .val (.int .i64 (i + 1))), (5, .val (.pointer (some (⟨nu1 0, 0, none⟩))))]) (h1 := fun _ => [(nu1 0, .cells #[.slice q1 m1 d1, .int .i64 x.place, .slice q2 m2 d2] 28 (0, 0)), (nu2 0, .cells #[.slice q1 m1 d1, .int .i64 x.place, .slice q2 m2 d2] 28 (0, 0))]) (p1 := fun _ => [IntKind.i64.wrap (i + (1 : Int)) = i + (1 : Int)]) (W1 := []) (by kernel_rfl) (fun _ => by kernel_rfl) (fun _ => ⟨wrap_i64 (by omega) (by omega), trivial⟩) (fun _ => ?_)
    try simp only [List.cons_append, List.nil_append, List.append_nil]
    refine J_backx ⟨i + 1, _, _, _⟩ [0, 2, 3, 4] [] [0] [0] ?_ ?_ (by kernel_rfl) rfl rfl rfl
    · exact ⟨by simp only; omega, by simp only; omega⟩
    · simp only
      omega
  · have hil : l.take i.toNat = l := List.take_of_length_le (by simp at hlt; omega)
    rw [hil]
    refine J_exit rfl ?_
    refine J_seq ?_
    refine J_reg mixed [.rd 0 [] 0 0, .rd 1 [] 0 0] [] [2] (E1 := fun _ => [(2, .val (.slice av k cv))]) (h1 := fun _ => []) (p1 := fun _ => []) (W1 := []) (by kernel_rfl) (fun _ => by kernel_rfl) (fun _ => trivial) (fun _ => ?_)
    refine J_return [[]] (.slice av k cv) (by kernel_rfl) (fun a w s => ?_)
    exact ⟨_, _, _, (s.stp (stp_freeze 0 rfl)).ret (by simp) [] [1] rfl rfl⟩
end Go.Proofs.YtpjkiomccpjboaaGreatDoor
end
section
namespace Go.Proofs.YtpjkiomccpjboaaGreatDoor
open Go Go.Sx
abbrev keyK : ByteArray := ByteArray.mk #[107]
abbrev opK : OpT := ⟨0, ByteArray.mk #[107], 1, ByteArray.mk #[120], 0, false, []⟩
abbrev comK : ComT := ⟨[1], 0, [opK]⟩
theorem faultK : valFault keyK [comK] = ⟨0, -1⟩ := rfl
theorem opsK : opsOf keyK [comK] = [⟨opK, ⟨0, 1, 0⟩, 1⟩] := by
  simp [opsOf, sortDone, opsRaw, allDone, firsts, doneOf, dotOf, wsum]
theorem valK : Sx.valOf keyK [comK] = ⟨1, ByteArray.mk #[120], 0, []⟩ := by
  simp [Sx.valOf, opsK, kindOf, ofKey, kindL, lastText]
theorem worth {w : World} {S : Nat → Prop} {er : Nat → Addr} {eb : Nat → Array Value × TypeId} (hC : Rep w S .nilIface (dC er eb)) :
    Calls Tryz.prog 11 #[] w fun e w' => Ret [] w S w' e (.bool true) [] [] := by
  refine ep11 (args := []) (G := [(_, dC er eb)]) (by kernel_rfl) (.cons hC (.nil _ _)) ?_
  refine J_seq ?_
  refine J_reg mixed [.rd 0 [] 0 0] [] [0] (E1 := fun _ => [(0, .val (.bool false))]) (h1 := fun _ => []) (p1 := fun _ => []) (W1 := []) (by kernel_rfl) (fun _ => by kernel_rfl) (fun _ => trivial) (fun _ => ?_)
  refine J_seq ?_
  refine JR_begin mixed [(0, false), (1, true), (2, false), (3, true), (4, false), (5, false), (6, true), (7, true), (8, true), (9, false), (10, false), (11, true)] [] (by kernel_rfl) (by kernel_rfl) ?_
  refine JR_run (id := 1) (rest := [(5, false), (6, true), (7, true), (8, true), (9, false), (10, false), (11, true)]) [.wr 0 [] 0, .rd 1 [] 0 0, .wr 2 [] 0, .rd 3 [] 0 0, .wr 4 [] 0] [0, 8] (E1 := fun nu1 => [(0, .val (.bool false)), (8, .val (.slice (some (⟨nu1 2, 0, none⟩)) 1 1))]) (h1 := fun nu1 => [(nu1 0, .cells #[.int .i64 1] 3 (0, 0)), (nu1 1, .cells #[.int .i64 0, .string (ByteArray.mk #[107]), .int .i64 1, .string (ByteArray.mk #[120]), .int .i64 0, .bool false, .slice none 0 0] 24 (0, 0)), (nu1 2, .cells #[.slice (some (⟨nu1 0, 0, none⟩)) 1 1, .int .i64 0, .slice (some (⟨nu1 1, 0, none⟩)) 1 1] 28 (0, 0))]) (p1 := fun nu1 => []) (W1 := []) (fun _ => by kernel_rfl) (fun _ => trivial) (fun nu1 => ?_)
  refine JR_data (size := 1) 0 eI [(1 : Int)] 1 rfl (by kernel_rfl) (by decide) (by intro x _; rfl) (by simp) ⟨.inl ⟨rfl, rfl⟩, trivial⟩ ?_
  refine JR_data (size := 7) 0 eOp [opK] 1 rfl (by kernel_rfl) (by decide) (by intro x _; rfl) (by simp) ⟨.inl ⟨rfl, rfl⟩, ⟨.inl ⟨rfl, rfl⟩, ⟨.inl ⟨rfl, rfl⟩, ⟨.inl ⟨rfl, rfl⟩, ⟨.inl ⟨rfl, rfl⟩, ⟨.inl ⟨rfl, rfl⟩, ⟨.inr (.inr ⟨_, _, _, rfl, rfl⟩), trivial⟩⟩⟩⟩⟩⟩⟩ ?_
  refine JR_data (size := 3) 0 eCom [comK] 1 rfl (by kernel_rfl) (by decide) (by intro x _; rfl) (by simp) ⟨.inr (.inl (List.mem_of_getElem? (i := 1) rfl)), ⟨.inl ⟨rfl, rfl⟩, ⟨.inr (.inl (List.mem_of_getElem? (i := 2) rfl)), trivial⟩⟩⟩ ?_
  refine JR_callp [] 21 #[.string (ByteArray.mk #[107]), .slice (some (⟨nu1 2, 0, none⟩)) 1 1] (some 9) (by kernel_rfl) (fun w S hG => ?_)
  refine (vOfR (l := [comK]) (hG.at 0 rfl) (hG.at 3 rfl) (by simp) (by simp) (by simp) (by rw [opsK]; decide)).mono ?_
  rintro e1 w1 (⟨hc, _⟩ | ⟨hc, hR⟩)
  · exact absurd (by rw [faultK]) hc
  refine ⟨_, _, _, hR, ?_⟩
  rw [valK]
  try simp only [List.cons_append, List.nil_append, List.append_nil]
  refine JR_run (id := 1) (rest := []) [.rd 6 [] 0 0, .rd 7 [] 0 0, .rd 8 [] 0 0, .wr 9 [] 0, .wr 10 [.o 0 none, .o 0 none, .o 0 none, .o 0 none] 0, .rd 11 [] 0 0] [0, 1, 2] (E1 := fun nu2 => [(0, .val (.bool false)), (1, .val (.pointer (some (⟨nu2 0, 0, none⟩)))), (2, .val (.nilIface))]) (h1 := fun nu2 => [(nu2 0, .cells #[.int .i64 1, .string (ByteArray.mk #[120]), .int .i64 0, .slice none 0 0] 47 (0, 0))]) (p1 := fun nu2 => []) (W1 := []) (fun _ => by kernel_rfl) (fun _ => trivial) (fun nu2 => ?_)
  refine JR_end ?_
  refine J_seq ?_
  refine J_reg mixed [.rd 0 [] 0 0, .rd 1 [] 0 0, .rd 2 [] 0 0, .rd 3 [] 0 0, .rd 4 [.o 0 none] 0 0, .rd 5 [] 0 0, .rd 6 [] 0 0, .rd 7 [] 0 0, .rd 8 [] 0 0, .rd 9 [.o 0 none] 0 0, .rd 10 [] 0 0, .rd 11 [] 0 0, .rd 12 [] 0 0, .rd 13 [] 0 0, .rd 14 [.o 0 none] 0 0, .rd 15 [] 0 0, .rd 16 [] 0 0, .rd 17 [] 0 0, .rd 18 [] 0 0] [] [0] (E1 := fun _ => [(0, .val (.bool true))]) (h1 := fun _ => [(nu2 0, .cells #[.int .i64 1, .string (ByteArray.mk #[120]), .int .i64 0, .slice none 0 0] 47 (0, 0))]) (p1 := fun _ => []) (W1 := []) (by kernel_rfl) (fun _ => by kernel_rfl) (fun _ => trivial) (fun _ => ?_)
  refine J_return [[]] (.bool true) (by kernel_rfl) (fun a w s => ?_)
  exact s.ret (by simp) [] [] rfl rfl
end Go.Proofs.YtpjkiomccpjboaaGreatDoor
end
section
namespace Go.Proofs.YtpjkiomccpjboaaGreatDoor
open Go Go.Sx
theorem light {l : List ComT} (h : heavyL l = false) : l.length ≤ 30 ∧ ∀ c ∈ l, heavyC c = 0 := by
  simp only [heavyL, Bool.or_eq_false_iff, List.any_eq_false, decide_eq_false_iff_not, decide_eq_true_eq] at h
  obtain ⟨h1, h2⟩ := h
  refine ⟨by omega, fun c hc => ?_⟩
  have h3 := h2 c hc
  unfold heavyC at h3 ⊢
  split at h3
  · omega
  · split at h3
    · omega
    · rename_i h5 h6
      rw [if_neg h5, if_neg h6]
theorem light_com {c : ComT} (h : heavyC c = 0) : c.when.length ≤ 20 ∧ c.ops.length ≤ 20 ∧ ∀ o ∈ c.ops, o.dots.length ≤ 70 := by
  unfold heavyC at h
  split at h
  · cases h
  · split at h
    · cases h
    · rename_i h1 h2
      refine ⟨by omega, by omega, fun o ho => ?_⟩
      have h3 : heavyOp o = false := by
        cases h4 : heavyOp o with
        | false => rfl
        | true => exact absurd (List.any_eq_true.2 ⟨o, ho, h4⟩) h2
      simp [heavyOp] at h3
      omega
theorem fval_err {w : World} {S : Nat → Prop} {w' : World} {e : Ending} {er : Nat → Addr} {f : FT} {mk : Value → Value} (h : FVal w S w' e er f mk) (h0 : f.code ≠ 0) : ∃ t p, Ret [] w S w' e (mk (.iface t (.pointer (some p)))) [] [] := by
  rcases h with ⟨_, v, hR, hv⟩ | ⟨_, _, pb, hR⟩
  · rcases hv with ⟨hv0, _⟩ | ⟨_, rfl⟩
    · exact absurd hv0 h0
    · exact ⟨_, _, hR⟩
  · obtain ⟨fps, h1, h2, h3, _⟩ := hR.gh
    exact ⟨_, _, hR.ret, hR.fr, fps, h1, h2, h3, fun x hx => by cases hx⟩
theorem enterB_len (l : List ByteArray) (s : ByteArray) : (enterB l s).length ≤ l.length + 1 := by
  induction l with
  | nil => simp [enterB]
  | cons x l ih =>
    unfold enterB
    split
    · rw [List.length_cons, List.length_cons]
      omega
    · split
      · omega
      · simp
theorem setOf_lenF : ∀ (l p : List ByteArray), (l.foldl enterB p).length ≤ p.length + l.length
  | [], p => by simp
  | x :: l, p => by
    have h1 := setOf_lenF l (enterB p x)
    have h2 := enterB_len p x
    rw [List.foldl_cons, List.length_cons]
    omega
theorem valOf_len {key : ByteArray} {l : List ComT} (h : (valFault key l).code = 0) : (Sx.valOf key l).set.length ≤ 12 * l.length := by
  unfold Sx.valOf
  dsimp only
  split
  · refine Nat.le_trans (setOf_lenF _ _) ?_
    rw [List.length_map, List.length_nil, Nat.zero_add]
    exact Nat.le_trans (List.length_filter_le _ _) (ofKey_len h)
  · simp
theorem rIndex {w : World} {S : Nat → Prop} {a : Option Addr} {n c : Nat} {l : List ByteArray} {t : ByteArray} (ha : Rep w S (.slice a n c) (dStrs l)) (hl : l.length ≤ 4000000) :
    Calls Tryz.prog 31 #[.slice a n c, .string t] w fun e w' => ∃ i : Int, (i ≥ 0 ↔ t ∈ l) ∧ Ret [] w S w' e (.int .i64 i) [] [] := by
  have e1 := ha.slen
  rw [List.length_map] at e1
  subst e1
  refine ep31 (args := [.slice a l.length c, .string t]) (S := S) (G := [(_, dStrs l)]) (by kernel_rfl) (.cons ha (.nil _ _)) ?_
  refine J_seq ?_
  refine J_reg mixed [.rd 0 [] 0 0] [] [0, 1, 4] (E1 := fun _ => [(0, .val (.slice a l.length c)), (1, .val (.string t)), (4, .val (.int .i64 0))]) (h1 := fun _ => []) (p1 := fun _ => []) (W1 := []) (by kernel_rfl) (fun _ => by kernel_rfl) (fun _ => trivial) (fun _ => ?_)
  refine J_seq ?_
  refine J_seq ?_
  refine J_reg mixed [.rd 0 [] 0 0] [] [0, 1, 4, 5] (E1 := fun _ => [(0, .val (.slice a l.length c)), (1, .val (.string t)), (4, .val (.int .i64 0)), (5, .val (.int .i64 0))]) (h1 := fun _ => []) (p1 := fun _ => []) (W1 := []) (by kernel_rfl) (fun _ => by kernel_rfl) (fun _ => trivial) (fun _ => ?_)
  refine J_block ?_
  refine J_loopx (fun i : Int => [(0, .val (.slice a l.length c)), (1, .val (.string t)), (4, .val (.int .i64 0)), (5, .val (.int .i64 i))]) (fun i : Int => []) (fun i : Int => []) (fun i : Int => [(.slice a l.length c, (dStrs l))]) (fun i : Int => (l.length - i).toNat) (fun i : Int => (0 ≤ i ∧ i ≤ l.length ∧ t ∉ l.take i.toNat)) 0 [0, 1, 4, 5] [] [] [0] ?_ (by kernel_rfl) rfl rfl rfl ?_
  · exact ⟨by omega, by omega, by simp⟩
  rintro i ⟨hi0, hi, hno⟩
  refine J_seq ?_
  refine J_seq ?_
  refine J_reg mixed [.rd 0 [] 0 0, .rd 1 [] 0 0, .rd 2 [] 0 0, .rd 3 [] 0 0] [] [0, 1, 4, 5, 9] (E1 := fun _ => [(0, .val (.slice a l.length c)), (1, .val (.string t)), (4, .val (.int .i64 0)), (5, .val (.int .i64 i)), (9, .val (.bool (decide (i < (↑l.length : Int)))))]) (h1 := fun _ => []) (p1 := fun _ => []) (W1 := []) (by kernel_rfl) (fun _ => by kernel_rfl) (fun _ => trivial) (fun _ => ?_)
  refine J_cond (t := decide (i < (↑l.length : Int))) (by kernel_rfl) (by kernel_rfl) (fun hlt => ?_) (fun hlt => ?_)
  · have hlt2 : i < l.length := by simpa using hlt
    obtain ⟨x, hx⟩ : ∃ x, l[i.toNat]? = some x := ⟨_, List.getElem?_eq_getElem (by omega)⟩
    refine J_read0 0 rfl i.toNat (map_at hx) (by kernel_rfl) (fun b1 off1 cs1 ty1 fz1 ha1 hrd1 => ?_)
    cases ha1
    have hrd1_0 := rd0 (hrd1 0 _ rfl)
    by_cases hxt : x = t
    · subst hxt
      try simp only [List.cons_append, List.nil_append, List.append_nil]
      refine J_skip ?_
      refine J_seq ?_
      refine J_block ?_
      refine J_seq ?_
      refine J_reg mixed [.rd 0 [] 0 0, .rd 1 [] 0 0, .rd 2 [] 0 2, .rd 3 [.r 0 (some (.string x))] 0 0, .rd 4 [] 0 0, .rd 5 [] 0 6] [] [0, 1, 4, 5, 17] (E1 := fun _ => [(0, .val (.slice (some (⟨b1, off1, none⟩)) l.length c)), (1, .val (.string x)), (4, .val (.int .i64 0)), (5, .val (.int .i64 i)), (17, .val (.bool true))]) (h1 := fun _ => []) (p1 := fun _ => [(0 : Int) ≤ i, i < (↑l.length : Int), cs1[off1 + i.toNat * (1 : Nat)]? = some (Value.string x), (x.toList == x.toList) = true]) (W1 := []) (by kernel_rfl) (fun _ => by kernel_rfl) (fun _ => ⟨hi0, hlt2, hrd1_0, by simp, trivial⟩) (fun _ => ?_)
      refine J_cond_t (by kernel_rfl) (by kernel_rfl) ?_
      refine J_seq ?_
      refine J_reg mixed [.rd 0 [] 0 0, .rd 1 [] 0 0] [] [0, 1, 4, 5] (E1 := fun _ => [(0, .val (.slice (some (⟨b1, off1, none⟩)) l.length c)), (1, .val (.string x)), (4, .val (.int .i64 i)), (5, .val (.int .i64 i))]) (h1 := fun _ => []) (p1 := fun _ => []) (W1 := []) (by kernel_rfl) (fun _ => by kernel_rfl) (fun _ => trivial) (fun _ => ?_)
      refine J_return [[]] (.int .i64 i) (by kernel_rfl) (fun a w s => ?_)
      exact ⟨i, ⟨fun _ => List.mem_of_getElem? hx, fun _ => hi0⟩, s.ret (by simp) [] [] rfl rfl⟩
    · have hkb : (x.toList == t.toList) = false := by rw [strEq, decide_eq_false hxt]
      try simp only [List.cons_append, List.nil_append, List.append_nil]
      refine J_skip ?_
      refine J_seq ?_
      refine J_block ?_
      refine J_seq ?_
      refine J_reg mixed [.rd 0 [] 0 0, .rd 1 [] 0 0, .rd 2 [] 0 2, .rd 3 [.r 0 (some (.string x))] 0 0, .rd 4 [] 0 0, .rd 5 [] 0 7] [] [0, 1, 4, 5, 17] (E1 := fun _ => [(0, .val (.slice (some (⟨b1, off1, none⟩)) l.length c)), (1, .val (.string t)), (4, .val (.int .i64 0)), (5, .val (.int .i64 i)), (17, .val (.bool false))]) (h1 := fun _ => []) (p1 := fun _ => [(0 : Int) ≤ i, i < (↑l.length : Int), cs1[off1 + i.toNat * (1 : Nat)]? = some (Value.string x), (x.toList == t.toList) = false]) (W1 := []) (by kernel_rfl) (fun _ => by kernel_rfl) (fun _ => ⟨hi0, hlt2, hrd1_0, by assumption, trivial⟩) (fun _ => ?_)
      refine J_cond_f (by kernel_rfl) (by kernel_rfl) ?_
      refine J_skip ?_
      refine J_eb ?_
      refine J_reg mixed [.rd 0 [] 0 0, .rd 1 [] 0 1, .rd 2 [] 0 0] [] [0, 1, 4, 5] (E1 := fun _ => [(0, .val (.slice (some (⟨b1, off1, none⟩)) l.length c)), (1, .val (.string t)), (4, .val (.int .i64 0)), (5, .val (.int .i64 (i + 1)))]) (h1 := fun _ => []) (p1 := fun _ => [IntKind.i64.wrap (i + (1 : Int)) = i + (1 : Int)]) (W1 := []) (by kernel_rfl) (fun _ => by kernel_rfl) (fun _ => ⟨wrap_i64 (by omega) (by omega), trivial⟩) (fun _ => ?_)
      refine J_backx (i + 1) [0, 1, 4, 5] [] [] [0] ?_ ?_ (by kernel_rfl) rfl rfl rfl
      · refine ⟨by omega, by omega, fun hm => ?_⟩
        rw [← take_snoc hi0 hx, List.mem_append, List.mem_singleton] at hm
        rcases hm with hm | hm
        · exact hno hm
        · exact hxt hm.symm
      · omega
  · have hil : l.take i.toNat = l := List.take_of_length_le (by simp at hlt; omega)
    rw [hil] at hno
    refine J_exit rfl ?_
    refine J_seq ?_
    refine J_reg mixed [.rd 0 [] 0 0] [] [4] (E1 := fun _ => [(4, .val (.int .i64 (-1)))]) (h1 := fun _ => []) (p1 := fun _ => []) (W1 := []) (by kernel_rfl) (fun _ => by kernel_rfl) (fun _ => trivial) (fun _ => ?_)
    refine J_return [[]] (.int .i64 (-1)) (by kernel_rfl) (fun a w s => ?_)
    exact ⟨-1, ⟨fun h => absurd h (by decide), fun h => absurd h hno⟩, s.ret (by simp) [] [] rfl rfl⟩
end Go.Proofs.YtpjkiomccpjboaaGreatDoor
end
section
namespace Go.Proofs.YtpjkiomccpjboaaGreatDoor
open Go Go.Sx
theorem wsum_snoc (l : List Int) (x : Int) : wsum (l ++ [x]) = wsum l + x := by simp [wsum]
theorem wsum_le {l : List Int} (h : ∀ x ∈ l, -1000 ≤ x ∧ x ≤ 1000) : -1000 * (l.length : Int) ≤ wsum l ∧ wsum l ≤ 1000 * (l.length : Int) := by
  induction l using snoc_ind with
  | h0 => simp [wsum]
  | h1 l x ih =>
    have h1 := ih fun y hy => h y (List.mem_append_left _ hy)
    have h2 := h x (by simp)
    rw [wsum_snoc, List.length_append, List.length_singleton]
    omega
structure AddI where
  i : Int
  a : Option Addr
  k : Nat
  c : Nat
set_option maxHeartbeats 4000000 in
theorem valuesAdds {w : World} {S : Nat → Prop} {er : Nat → Addr} {eb : Nat → Array Value × TypeId} {a a2 : Option Addr} {n c n2 c2 : Nat} {key text : ByteArray} {l : List ComT} {ns : List Int} (hC : Rep w S .nilIface (dC er eb)) (h : Rep w S (.slice a n c) (.sl 3 (l.map eCom))) (ho : Rep w S (.slice a2 n2 c2) (dInts ns)) :
    Calls Tryz.prog 6 #[.slice a2 n2 c2, .string key, .string text, .slice a n c] w fun e w' => Ret [] (zero w) S w' e (.bool true) [] [] := by
  have e1 := h.slen
  rw [List.length_map] at e1
  subst e1
  obtain rfl := rep_ints_len ho
  refine ep6 (args := [.slice a2 ns.length c2, .string key, .string text, .slice a l.length c]) (S := S) (G := [(_, dC er eb), (_, .sl 3 (l.map eCom)), (_, dInts ns)]) (by kernel_rfl) (.cons hC (.cons h (.cons ho (.nil _ _)))) ?_
  refine J_zero ?_
  refine J_seq ?_
  refine J_reg mixed [.rd 0 [] 0 0] [] [0, 1, 2, 3, 8] (E1 := fun _ => [(0, .val (.slice a2 ns.length c2)), (1, .val (.string key)), (2, .val (.string text)), (3, .val (.slice a l.length c)), (8, .val (.bool false))]) (h1 := fun _ => []) (p1 := fun _ => []) (W1 := []) (by kernel_rfl) (fun _ => by kernel_rfl) (fun _ => trivial) (fun _ => ?_)
  refine J_seq ?_
  refine JR_begin mixed [(0, false), (1, true)] [] (by kernel_rfl) (by kernel_rfl) ?_
  refine JR_callp [] 11 #[] (some 19) (by kernel_rfl) (fun w S hG => ?_)
  refine (worth (hG.at 0 rfl)).mono ?_
  rintro e1 w1 hR
  refine ⟨_, _, _, hR, ?_⟩
  by_cases hns : ns.length ≤ 30
  · by_cases hkey : key.size ≤ 60
    · by_cases htx : text.size ≤ 200
      · try simp only [List.cons_append, List.nil_append, List.append_nil]
        refine JR_run (id := 1) (rest := []) [.rd 1 [] 0 0] [0, 1, 2, 3, 8, 9] (E1 := fun _ => [(0, .val (.slice a2 ns.length c2)), (1, .val (.string key)), (2, .val (.string text)), (3, .val (.slice a l.length c)), (8, .val (.bool false)), (9, .val (.bool true))]) (h1 := fun _ => []) (p1 := fun _ => []) (W1 := []) (fun _ => by kernel_rfl) (fun _ => trivial) (fun _ => ?_)
        refine JR_end ?_
        refine J_seq ?_
        refine J_seq ?_
        refine JR_begin mixed [(0, true), (1, true), (2, true), (3, true), (4, true), (5, true), (6, true), (7, true), (8, true), (9, true), (10, true), (11, true), (12, true), (13, true), (14, true), (15, true), (16, true), (17, true), (18, true), (19, false), (20, true)] [] (by kernel_rfl) (by kernel_rfl) ?_
        refine JR_run (id := 2) (rest := [(19, false), (20, true)]) [.rd 0 [] 0 0, .rd 1 [] 0 0, .rd 2 [] 0 0, .rd 3 [] 0 0, .rd 4 [] 0 0, .rd 5 [] 0 7, .rd 6 [] 0 0, .rd 7 [] 0 0, .rd 8 [] 0 0, .rd 9 [] 0 0, .rd 10 [] 0 7, .rd 11 [] 0 0, .rd 12 [] 0 0, .rd 13 [] 0 0, .rd 14 [] 0 0, .rd 15 [] 0 7, .rd 16 [] 0 0, .rd 17 [] 0 0, .rd 18 [] 0 0] [0, 1, 2, 3, 8, 9, 37, 38] (E1 := fun _ => [(0, .val (.slice a2 ns.length c2)), (1, .val (.string key)), (2, .val (.string text)), (3, .val (.slice a l.length c)), (8, .val (.bool false)), (9, .val (.bool true)), (37, .val (.bool false)), (38, .val (.slice a l.length c))]) (h1 := fun _ => []) (p1 := fun _ => [decide ((↑ns.length : Int) > (30 : Int)) = false, decide ((↑key.size : Int) > (60 : Int)) = false, decide ((↑text.size : Int) > (200 : Int)) = false]) (W1 := []) (fun _ => by kernel_rfl) (fun _ => ⟨by simp; omega, by simp; omega, by simp; omega, trivial⟩) (fun _ => ?_)
        refine JR_callp [] 20 #[.slice a l.length c] (some 39) (by kernel_rfl) (fun w S hG => ?_)
        refine (heavyB (hG.at 1 rfl)).mono ?_
        rintro e2 w2 hR
        refine ⟨_, _, _, hR, ?_⟩
        cases hhv : heavyL l with
        | true =>
          try simp only [List.cons_append, List.nil_append, List.append_nil]
          refine JR_run (id := 2) (rest := []) [.rd 20 [] 0 0] [0, 1, 2, 3, 8, 9, 40] (E1 := fun _ => [(0, .val (.slice a2 ns.length c2)), (1, .val (.string key)), (2, .val (.string text)), (3, .val (.slice a l.length c)), (8, .val (.bool false)), (9, .val (.bool true)), (40, .val (.bool true))]) (h1 := fun _ => []) (p1 := fun _ => []) (W1 := []) (fun _ => by kernel_rfl) (fun _ => trivial) (fun _ => ?_)
          refine JR_end ?_
          refine J_cond_t (by kernel_rfl) (by kernel_rfl) ?_
          refine J_seq ?_
          refine J_reg mixed [.rd 0 [] 0 0, .rd 1 [] 0 0] [] [0, 1, 2, 3, 8] (E1 := fun _ => [(0, .val (.slice a2 ns.length c2)), (1, .val (.string key)), (2, .val (.string text)), (3, .val (.slice a l.length c)), (8, .val (.bool true))]) (h1 := fun _ => []) (p1 := fun _ => []) (W1 := []) (by kernel_rfl) (fun _ => by kernel_rfl) (fun _ => trivial) (fun _ => ?_)
          refine J_return [[]] (.bool true) (by kernel_rfl) (fun a w s => ?_)
          exact s.retz (by simp) [] [] rfl rfl
        | false =>
          obtain ⟨hl30, hlc⟩ := light hhv
          try simp only [List.cons_append, List.nil_append, List.append_nil]
          refine JR_run (id := 2) (rest := []) [.rd 20 [] 0 0] [0, 1, 2, 3, 8, 9, 40] (E1 := fun _ => [(0, .val (.slice a2 ns.length c2)), (1, .val (.string key)), (2, .val (.string text)), (3, .val (.slice a l.length c)), (8, .val (.bool false)), (9, .val (.bool true)), (40, .val (.bool false))]) (h1 := fun _ => []) (p1 := fun _ => []) (W1 := []) (fun _ => by kernel_rfl) (fun _ => trivial) (fun _ => ?_)
          refine JR_end ?_
          refine J_cond_f (by kernel_rfl) (by kernel_rfl) ?_
          refine J_skip ?_
          refine J_seq ?_
          refine J_reg mixed [.rd 0 [] 0 0] [] [0, 1, 2, 3, 8, 10] (E1 := fun _ => [(0, .val (.slice a2 ns.length c2)), (1, .val (.string key)), (2, .val (.string text)), (3, .val (.slice a l.length c)), (8, .val (.bool false)), (10, .val (.int .i64 0))]) (h1 := fun _ => []) (p1 := fun _ => []) (W1 := []) (by kernel_rfl) (fun _ => by kernel_rfl) (fun _ => trivial) (fun _ => ?_)
          refine J_seq ?_
          refine J_reg mixed [.rd 0 [] 0 0] [] [0, 1, 2, 3, 8, 10, 11] (E1 := fun _ => [(0, .val (.slice a2 ns.length c2)), (1, .val (.string key)), (2, .val (.string text)), (3, .val (.slice a l.length c)), (8, .val (.bool false)), (10, .val (.int .i64 0)), (11, .val (.slice none 0 0))]) (h1 := fun _ => []) (p1 := fun _ => []) (W1 := []) (by kernel_rfl) (fun _ => by kernel_rfl) (fun _ => trivial) (fun _ => ?_)
          refine J_seq ?_
          refine J_seq ?_
          refine J_stp (stp_accm eCom 28 3) ?_
          refine J_norm (C' := [cAcc (.slice none 0 0) 28 3 (List.map eCom [])]) (G' := [(.nilIface, (dC er eb)), (.slice a l.length c, (D.sl 3 (List.map eCom l))), (.slice a2 ns.length c2, (dInts ns))]) (by kernel_rfl) (by kernel_rfl) ?_
          refine J_reg mixed [.rd 0 [] 0 0] [] [0, 1, 2, 3, 8, 10, 11, 12] (E1 := fun _ => [(0, .val (.slice a2 ns.length c2)), (1, .val (.string key)), (2, .val (.string text)), (3, .val (.slice a l.length c)), (8, .val (.bool false)), (10, .val (.int .i64 0)), (11, .val (.slice none 0 0)), (12, .val (.int .i64 0))]) (h1 := fun _ => []) (p1 := fun _ => []) (W1 := []) (by kernel_rfl) (fun _ => by kernel_rfl) (fun _ => trivial) (fun _ => ?_)
          refine J_block ?_
          refine J_loopx (fun x : AddI => [(0, .val (.slice a2 ns.length c2)), (1, .val (.string key)), (2, .val (.string text)), (3, .val (.slice a l.length c)), (8, .val (.bool false)), (10, .val (.int .i64 (wsum (ns.take x.i.toNat)))), (11, .val (.slice x.a x.k x.c)), (12, .val (.int .i64 x.i))]) (fun x : AddI => []) (fun x : AddI => [cAcc (.slice x.a x.k x.c) 28 3 ((addsL (ns.take x.i.toNat)).map eCom)]) (fun x : AddI => [(.nilIface, (dC er eb)), (.slice a l.length c, (D.sl 3 (List.map eCom l))), (.slice a2 ns.length c2, (dInts ns))]) (fun x : AddI => (ns.length - x.i).toNat) (fun x : AddI => (0 ≤ x.i ∧ x.i ≤ ns.length ∧ ∀ z ∈ ns.take x.i.toNat, -1000 ≤ z ∧ z ≤ 1000)) ⟨0, none, 0, 0⟩ [0, 1, 2, 3, 8, 10, 11, 12] [] [0] [0, 1, 2] ?_ (by kernel_rfl) rfl rfl rfl ?_
          · exact ⟨by simp, by simp, by simp⟩
          rintro ⟨i, av, k, cv⟩ ⟨hi0, hi, hno⟩
          dsimp only at hi0 hi hno ⊢
          refine J_stpx (stp_acclen 0 rfl) fun _ hk => ?_
          have hk2 : k ≤ 30 := by
            rw [List.length_map, addsL, List.length_mapIdx, List.length_take] at hk
            omega
          refine J_seq ?_
          refine J_seq ?_
          refine J_reg mixed [.rd 0 [] 0 0, .rd 1 [] 0 0, .rd 2 [] 0 0, .rd 3 [] 0 0] [] [0, 1, 2, 3, 8, 10, 11, 12, 45] (E1 := fun _ => [(0, .val (.slice a2 ns.length c2)), (1, .val (.string key)), (2, .val (.string text)), (3, .val (.slice a l.length c)), (8, .val (.bool false)), (10, .val (.int .i64 (wsum (List.take i.toNat ns)))), (11, .val (.slice av k cv)), (12, .val (.int .i64 i)), (45, .val (.bool (decide (i < (↑ns.length : Int)))))]) (h1 := fun _ => []) (p1 := fun _ => []) (W1 := []) (by kernel_rfl) (fun _ => by kernel_rfl) (fun _ => trivial) (fun _ => ?_)
          refine J_cond (t := decide (i < (↑ns.length : Int))) (by kernel_rfl) (by kernel_rfl) (fun hlt => ?_) (fun hlt => ?_)
          · have hlt2 : i < ns.length := by simpa using hlt
            obtain ⟨x, hx⟩ : ∃ x, ns[i.toNat]? = some x := ⟨_, List.getElem?_eq_getElem (by omega)⟩
            by_cases hx1 : -1000 ≤ x
            · by_cases hx2 : x ≤ 1000
              · have hs := wsum_le hno
                rw [List.length_take] at hs
                have hs1 : -9223372036854775808 ≤ wsum (ns.take i.toNat) + x ∧ wsum (ns.take i.toNat) + x ≤ 9223372036854775807 := by omega
                have e5 : wsum (ns.take i.toNat) + x = wsum (ns.take (i + 1).toNat) := by rw [← take_snoc hi0 hx, wsum_snoc]
                refine J_read0 2 rfl i.toNat (map_at hx) (by kernel_rfl) (fun b1 off1 cs1 ty1 fz1 ha1 hrd1 => ?_)
                cases ha1
                have hrd1_0 := rd0 (hrd1 0 _ rfl)
                have e6 : addsL (ns.take i.toNat) ++ [⟨[i + 1, 0], 0, [opN x]⟩] = addsL (ns.take (i + 1).toNat) := by
                  rw [← take_snoc hi0 hx, addsL_snoc, List.length_take, show min i.toNat ns.length = i.toNat by omega, comN, Int.toNat_of_nonneg hi0]
                try simp only [List.cons_append, List.nil_append, List.append_nil]
                refine J_skip ?_
                refine J_seq ?_
                refine J_block ?_
                refine J_seq ?_
                refine J_seq ?_
                refine J_reg mixed [.rd 0 [] 0 0, .rd 1 [] 0 0, .rd 2 [] 0 2, .rd 3 [.r 0 (some (.int .i64 x))] 0 0, .rd 4 [] 0 7, .rd 5 [] 0 0, .rd 6 [] 0 0, .rd 7 [] 0 0, .rd 8 [] 0 2, .rd 9 [.r 0 (some (.int .i64 x))] 0 0, .rd 10 [] 0 7, .rd 11 [] 0 0] [] [0, 1, 2, 3, 8, 10, 11, 12, 59] (E1 := fun _ => [(0, .val (.slice (some (⟨b1, off1, none⟩)) ns.length c2)), (1, .val (.string key)), (2, .val (.string text)), (3, .val (.slice a l.length c)), (8, .val (.bool false)), (10, .val (.int .i64 (wsum (List.take i.toNat ns)))), (11, .val (.slice av k cv)), (12, .val (.int .i64 i)), (59, .val (.bool false))]) (h1 := fun _ => []) (p1 := fun _ => [(0 : Int) ≤ i, i < (↑ns.length : Int), cs1[off1 + i.toNat * (1 : Nat)]? = some (Value.int IntKind.i64 x), decide (x < (-1000 : Int)) = false, (0 : Int) ≤ i, i < (↑ns.length : Int), cs1[off1 + i.toNat * (1 : Nat)]? = some (Value.int IntKind.i64 x), decide (x > (1000 : Int)) = false]) (W1 := []) (by kernel_rfl) (fun _ => by kernel_rfl) (fun _ => ⟨hi0, hlt2, hrd1_0, by simp; omega, hi0, hlt2, hrd1_0, by simp; omega, trivial⟩) (fun _ => ?_)
                refine J_cond_f (by kernel_rfl) (by kernel_rfl) ?_
                refine J_skip ?_
                refine J_seq ?_
                refine J_reg mixed [.rd 0 [] 0 0, .rd 1 [] 0 0, .rd 2 [] 0 0, .rd 3 [] 0 2, .rd 4 [.r 0 (some (.int .i64 x))] 0 0, .rd 5 [] 0 1, .rd 6 [] 0 0] [] [0, 1, 2, 3, 8, 10, 11, 12] (E1 := fun _ => [(0, .val (.slice (some (⟨b1, off1, none⟩)) ns.length c2)), (1, .val (.string key)), (2, .val (.string text)), (3, .val (.slice a l.length c)), (8, .val (.bool false)), (10, .val (.int .i64 (wsum (List.take i.toNat ns) + x))), (11, .val (.slice av k cv)), (12, .val (.int .i64 i))]) (h1 := fun _ => []) (p1 := fun _ => [(0 : Int) ≤ i, i < (↑ns.length : Int), cs1[off1 + i.toNat * (1 : Nat)]? = some (Value.int IntKind.i64 x), IntKind.i64.wrap (wsum (List.take i.toNat ns) + x) = wsum (List.take i.toNat ns) + x]) (W1 := []) (by kernel_rfl) (fun _ => by kernel_rfl) (fun _ => ⟨hi0, hlt2, hrd1_0, wrap_i64 (by omega) (by omega), trivial⟩) (fun _ => ?_)
                refine J_norm (C' := [cAcc (.slice av k cv) 28 3 (List.map eCom (addsL (List.take i.toNat ns)))]) (G' := [(.nilIface, (dC er eb)), (.slice a l.length c, (D.sl 3 (List.map eCom l))), (.slice (some (⟨b1, off1, none⟩)) ns.length c2, (dInts ns))]) (by kernel_rfl) (by kernel_rfl) ?_
                refine JR_begin mixed [(0, true), (1, true), (2, true), (3, false), (4, true), (5, true), (6, true), (7, true), (8, true), (9, false), (10, true), (11, false), (12, false), (13, true)] [] (by kernel_rfl) (by kernel_rfl) ?_
                refine JR_run (id := 12) (rest := [(12, false), (13, true)]) [.rd 0 [] 0 0, .rd 1 [] 0 0, .rd 2 [] 0 1, .wr 3 [] 0, .rd 4 [] 0 0, .rd 5 [] 0 0, .rd 6 [] 0 2, .rd 7 [.r 0 (some (.int .i64 x))] 0 0, .rd 8 [] 0 0, .wr 9 [] 0, .rd 10 [] 0 0, .wr 11 [] 0] [0, 1, 2, 3, 8, 10, 11, 12, 66, 77] (E1 := fun nu1 => [(0, .val (.slice (some (⟨b1, off1, none⟩)) ns.length c2)), (1, .val (.string key)), (2, .val (.string text)), (3, .val (.slice a l.length c)), (8, .val (.bool false)), (10, .val (.int .i64 (wsum (List.take i.toNat ns) + x))), (11, .val (.slice av k cv)), (12, .val (.int .i64 i)), (66, .val (.slice av k cv)), (77, .val (.slice (some (⟨nu1 2, 0, none⟩)) 1 1))]) (h1 := fun nu1 => [(nu1 0, .cells #[.int .i64 (i + 1), .int .i64 0] 3 (0, 0)), (nu1 1, .cells #[.int .i64 0, .string (ByteArray.mk #[110]), .int .i64 2, .string (ByteArray.mk #[]), .int .i64 x, .bool false, .slice none 0 0] 24 (0, 0)), (nu1 2, .cells #[.slice (some (⟨nu1 0, 0, none⟩)) 2 2, .int .i64 0, .slice (some (⟨nu1 1, 0, none⟩)) 1 1] 28 (0, 0))]) (p1 := fun nu1 => [IntKind.i64.wrap (i + (1 : Int)) = i + (1 : Int), (0 : Int) ≤ i, i < (↑ns.length : Int), cs1[off1 + i.toNat * (1 : Nat)]? = some (Value.int IntKind.i64 x)]) (W1 := []) (fun _ => by kernel_rfl) (fun _ => ⟨wrap_i64 (by omega) (by omega), hi0, hlt2, hrd1_0, trivial⟩) (fun nu1 => ?_)
                refine JR_data (size := 1) 0 eI [i + 1, 0] 2 rfl (by kernel_rfl) (by decide) (by intro x _; rfl) (by simp) ⟨.inl ⟨rfl, rfl⟩, ⟨.inl ⟨rfl, rfl⟩, trivial⟩⟩ ?_
                refine JR_data (size := 7) 0 eOp [opN x] 1 rfl (by kernel_rfl) (by decide) (by intro x _; rfl) (by simp) ⟨.inl ⟨rfl, rfl⟩, ⟨.inl ⟨rfl, rfl⟩, ⟨.inl ⟨rfl, rfl⟩, ⟨.inl ⟨rfl, rfl⟩, ⟨.inl ⟨rfl, rfl⟩, ⟨.inl ⟨rfl, rfl⟩, ⟨.inr (.inr ⟨_, _, _, rfl, rfl⟩), trivial⟩⟩⟩⟩⟩⟩⟩ ?_
                refine JR_appm 0 43 28 3 56 (.agg #[.slice none 0 0, .int .i64 0, .slice none 0 0]) (a0 := av) (len := k) (cap0 := cv) (ax := (some (⟨nu1 2, 0, none⟩))) (m := 1) (c := 1) (dst := (some 78)) [(⟨[i + 1, 0], 0, [opN x]⟩ : ComT)] (by kernel_rfl) (by kernel_rfl) (by kernel_rfl) (by kernel_rfl) rfl (by decide) rfl (fun _ _ _ s => src_one s 0 rfl rfl ⟨.inr (.inl (List.mem_of_getElem? (i := 3) rfl)), ⟨.inl ⟨rfl, rfl⟩, ⟨.inr (.inl (List.mem_of_getElem? (i := 4) rfl)), trivial⟩⟩⟩) (by simp only [maxLen]; omega) (by omega) (fun av1 cv1 => ?_)
                rw [e5, e6]
                try simp only [List.cons_append, List.nil_append, List.append_nil]
                refine JR_run (id := 12) (rest := []) [.rd 13 [] 0 0] [0, 1, 2, 3, 8, 10, 11, 12] (E1 := fun _ => [(0, .val (.slice (some (⟨b1, off1, none⟩)) ns.length c2)), (1, .val (.string key)), (2, .val (.string text)), (3, .val (.slice a l.length c)), (8, .val (.bool false)), (10, .val (.int .i64 (wsum (List.take (i + 1).toNat ns)))), (11, .val (.slice av1 (k + 1) cv1)), (12, .val (.int .i64 i))]) (h1 := fun _ => [(nu1 2, .cells #[.slice (some (⟨nu1 0, 0, none⟩)) 2 2, .int .i64 0, .slice (some (⟨nu1 1, 0, none⟩)) 1 1] 28 (0, 0))]) (p1 := fun _ => []) (W1 := []) (fun _ => by kernel_rfl) (fun _ => trivial) (fun _ => ?_)
                try simp only [List.cons_append, List.nil_append, List.append_nil]
                refine JR_end ?_
                try simp only [List.cons_append, List.nil_append, List.append_nil]
                refine J_eb ?_
                try simp only [List.cons_append, List.nil_append, List.append_nil]
                refine J_reg mixed [.rd 0 [] 0 0, .rd 1 [] 0 1, .rd 2 [] 0 0] [] [0, 1, 2, 3, 8, 10, 11, 12] (E1 := fun _ => [(0, .val (.slice (some (⟨b1, off1, none⟩)) ns.length c2)), (1, .val (.string key)), (2, .val (.string text)), (3, .val (.slice a l.length c)), (8, .val (.bool false)), (10, .val (.int .i64 (wsum (List.take (i + 1).toNat ns)))), (11, .val (.slice av1 (k + 1) cv1)), (12, .val (.int .i64 (i + 1)))]) (h1 := fun _ => [(nu1 2, .cells #[.slice (some (⟨nu1 0, 0, none⟩)) 2 2, .int .i64 0, .slice (some (⟨nu1 1, 0, none⟩)) 1 1] 28 (0, 0))]) (p1 := fun _ => [IntKind.i64.wrap (i + (1 : Int)) = i + (1 : Int)]) (W1 := []) (by kernel_rfl) (fun _ => by kernel_rfl) (fun _ => ⟨wrap_i64 (by omega) (by omega), trivial⟩) (fun _ => ?_)
                try simp only [List.cons_append, List.nil_append, List.append_nil]
                refine J_backx ⟨i + 1, _, _, _⟩ [0, 1, 2, 3, 8, 10, 11, 12] [] [0] [0, 1, 2] ?_ ?_ (by kernel_rfl) rfl rfl rfl
                · refine ⟨by simp only; omega, by simp only; omega, fun z hz => ?_⟩
                  rw [← take_snoc hi0 hx, List.mem_append, List.mem_singleton] at hz
                  rcases hz with hz | rfl
                  · exact hno z hz
                  · exact ⟨hx1, hx2⟩
                · simp only
                  omega
              · refine J_read0 2 rfl i.toNat (map_at hx) (by kernel_rfl) (fun b1 off1 cs1 ty1 fz1 ha1 hrd1 => ?_)
                cases ha1
                have hrd1_0 := rd0 (hrd1 0 _ rfl)
                try simp only [List.cons_append, List.nil_append, List.append_nil]
                refine J_skip ?_
                refine J_seq ?_
                refine J_block ?_
                refine J_seq ?_
                refine J_seq ?_
                refine J_reg mixed [.rd 0 [] 0 0, .rd 1 [] 0 0, .rd 2 [] 0 2, .rd 3 [.r 0 (some (.int .i64 x))] 0 0, .rd 4 [] 0 7, .rd 5 [] 0 0, .rd 6 [] 0 0, .rd 7 [] 0 0, .rd 8 [] 0 2, .rd 9 [.r 0 (some (.int .i64 x))] 0 0, .rd 10 [] 0 6, .rd 11 [] 0 0] [] [0, 1, 2, 3, 8, 10, 11, 12, 59] (E1 := fun _ => [(0, .val (.slice (some (⟨b1, off1, none⟩)) ns.length c2)), (1, .val (.string key)), (2, .val (.string text)), (3, .val (.slice a l.length c)), (8, .val (.bool false)), (10, .val (.int .i64 (wsum (List.take i.toNat ns)))), (11, .val (.slice av k cv)), (12, .val (.int .i64 i)), (59, .val (.bool true))]) (h1 := fun _ => []) (p1 := fun _ => [(0 : Int) ≤ i, i < (↑ns.length : Int), cs1[off1 + i.toNat * (1 : Nat)]? = some (Value.int IntKind.i64 x), decide (x < (-1000 : Int)) = false, (0 : Int) ≤ i, i < (↑ns.length : Int), cs1[off1 + i.toNat * (1 : Nat)]? = some (Value.int IntKind.i64 x), decide (x > (1000 : Int)) = true]) (W1 := []) (by kernel_rfl) (fun _ => by kernel_rfl) (fun _ => ⟨hi0, hlt2, hrd1_0, by simp; omega, hi0, hlt2, hrd1_0, by simp; omega, trivial⟩) (fun _ => ?_)
                refine J_cond_t (by kernel_rfl) (by kernel_rfl) ?_
                refine J_seq ?_
                refine J_reg mixed [.rd 0 [] 0 0] [] [0, 1, 2, 3, 8, 10, 11, 12] (E1 := fun _ => [(0, .val (.slice (some (⟨b1, off1, none⟩)) ns.length c2)), (1, .val (.string key)), (2, .val (.string text)), (3, .val (.slice a l.length c)), (8, .val (.bool true)), (10, .val (.int .i64 (wsum (List.take i.toNat ns)))), (11, .val (.slice av k cv)), (12, .val (.int .i64 i))]) (h1 := fun _ => []) (p1 := fun _ => []) (W1 := []) (by kernel_rfl) (fun _ => by kernel_rfl) (fun _ => trivial) (fun _ => ?_)
                refine J_return [[]] (.bool true) (by kernel_rfl) (fun a w s => ?_)
                exact s.retz (by simp) [] [] rfl rfl
            · refine J_read0 2 rfl i.toNat (map_at hx) (by kernel_rfl) (fun b1 off1 cs1 ty1 fz1 ha1 hrd1 => ?_)
              cases ha1
              have hrd1_0 := rd0 (hrd1 0 _ rfl)
              try simp only [List.cons_append, List.nil_append, List.append_nil]
              refine J_skip ?_
              refine J_seq ?_
              refine J_block ?_
              refine J_seq ?_
              refine J_seq ?_
              refine J_reg mixed [.rd 0 [] 0 0, .rd 1 [] 0 0, .rd 2 [] 0 2, .rd 3 [.r 0 (some (.int .i64 x))] 0 0, .rd 4 [] 0 6, .rd 5 [] 0 0, .rd 6 [] 1 0, .rd 7 [] 1 0, .rd 8 [] 1 0, .rd 9 [] 1 0, .rd 10 [] 1 0, .rd 11 [] 0 0] [] [0, 1, 2, 3, 8, 10, 11, 12, 59] (E1 := fun _ => [(0, .val (.slice (some (⟨b1, off1, none⟩)) ns.length c2)), (1, .val (.string key)), (2, .val (.string text)), (3, .val (.slice a l.length c)), (8, .val (.bool false)), (10, .val (.int .i64 (wsum (List.take i.toNat ns)))), (11, .val (.slice av k cv)), (12, .val (.int .i64 i)), (59, .val (.bool true))]) (h1 := fun _ => []) (p1 := fun _ => [(0 : Int) ≤ i, i < (↑ns.length : Int), cs1[off1 + i.toNat * (1 : Nat)]? = some (Value.int IntKind.i64 x), decide (x < (-1000 : Int)) = true]) (W1 := []) (by kernel_rfl) (fun _ => by kernel_rfl) (fun _ => ⟨hi0, hlt2, hrd1_0, by simp; omega, trivial⟩) (fun _ => ?_)
              refine J_cond_t (by kernel_rfl) (by kernel_rfl) ?_
              refine J_seq ?_
              refine J_reg mixed [.rd 0 [] 0 0] [] [0, 1, 2, 3, 8, 10, 11, 12] (E1 := fun _ => [(0, .val (.slice (some (⟨b1, off1, none⟩)) ns.length c2)), (1, .val (.string key)), (2, .val (.string text)), (3, .val (.slice a l.length c)), (8, .val (.bool true)), (10, .val (.int .i64 (wsum (List.take i.toNat ns)))), (11, .val (.slice av k cv)), (12, .val (.int .i64 i))]) (h1 := fun _ => []) (p1 := fun _ => []) (W1 := []) (by kernel_rfl) (fun _ => by kernel_rfl) (fun _ => trivial) (fun _ => ?_)
              refine J_return [[]] (.bool true) (by kernel_rfl) (fun a w s => ?_)
              exact s.retz (by simp) [] [] rfl rfl
          · have hil : ns.take i.toNat = ns := List.take_of_length_le (by simp at hlt; omega)
            rw [hil] at hno ⊢
            obtain ⟨hvn, hvk⟩ := adds_val ns
            have hvf := addsL_fine hns hno
            have hal : ∀ c ∈ addsL ns, c.when.length ≤ 1000000 ∧ c.ops.length ≤ 1000000 := fun c hc => by
              obtain ⟨j, _, rfl⟩ := addsL_mem hc
              simp
            have hln : (addsL ns).length ≤ 30 := by rw [addsL, List.length_mapIdx]; exact hns
            refine J_exit rfl ?_
            refine J_seq ?_
            refine J_stp (stp_freeze 0 rfl) ?_
            refine J_norm (C' := []) (G' := [(.nilIface, (dC er eb)), (.slice a l.length c, (D.sl 3 (List.map eCom l))), (.slice a2 ns.length c2, (dInts ns)), (.slice av k cv, (D.sl 3 (List.map eCom (addsL ns))))]) (by kernel_rfl) (by kernel_rfl) ?_
            refine JR_begin mixed [(0, true), (1, false), (2, true), (3, true), (4, true), (5, false), (6, false), (7, true)] [] (by kernel_rfl) (by kernel_rfl) ?_
            refine JR_run (id := 13) (rest := [(1, false), (2, true), (3, true), (4, true), (5, false), (6, false), (7, true)]) [.rd 0 [] 0 0] [0, 1, 2, 3, 8, 10, 80] (E1 := fun _ => [(0, .val (.slice a2 ns.length c2)), (1, .val (.string key)), (2, .val (.string text)), (3, .val (.slice a l.length c)), (8, .val (.bool false)), (10, .val (.int .i64 (wsum ns))), (80, .val (.slice av k cv))]) (h1 := fun _ => []) (p1 := fun _ => []) (W1 := []) (fun _ => by kernel_rfl) (fun _ => trivial) (fun _ => ?_)
            refine JR_callzp [] 21 #[.string (ByteArray.mk #[110]), .slice av k cv] (some 81) zero_all (by kernel_rfl) (fun w S hG => ?_)
            refine (vOf (key := keyN) (hG.at 0 rfl) (hG.at 3 rfl) (by omega) (fun x hx => (hal x hx).1) (fun x hx => (hal x hx).2)).mono ?_
            rintro e3 w3 (⟨hc, _⟩ | ⟨hc, ua, un, uc, hR⟩)
            · exact absurd hvf hc
            refine ⟨_, _, _, hR, ?_⟩
            rcases Nat.eq_zero_or_pos ns.length with hz | hz
            · try simp only [List.cons_append, List.nil_append, List.append_nil]
              refine JR_run (id := 13) (rest := []) [.rd 2 [] 0 0, .rd 3 [] 0 0, .rd 4 [] 0 0, .wr 5 [] 0, .wr 6 [.o 0 none, .o 0 none, .o 0 none, .o 0 none] 0, .rd 7 [] 0 0] [0, 1, 2, 3, 8, 10, 13, 14] (E1 := fun nu1 => [(0, .val (.slice a2 ns.length c2)), (1, .val (.string key)), (2, .val (.string text)), (3, .val (.slice a l.length c)), (8, .val (.bool false)), (10, .val (.int .i64 (wsum ns))), (13, .val (.pointer (some (⟨nu1 0, 0, none⟩)))), (14, .val (.nilIface))]) (h1 := fun nu1 => [(nu1 0, .cells #[.int .i64 ((Sx.valOf keyN (addsL ns)).kind), .string ((Sx.valOf keyN (addsL ns)).text), .int .i64 ((Sx.valOf keyN (addsL ns)).n), .slice ua un uc] 47 (0, 0))]) (p1 := fun nu1 => []) (W1 := []) (fun _ => by kernel_rfl) (fun _ => trivial) (fun nu1 => ?_)
              refine JR_end ?_
              refine J_seq ?_
              refine J_seq ?_
              refine J_reg mixed [.rd 0 [] 0 0, .rd 1 [] 0 0, .rd 2 [] 0 0, .rd 3 [] 0 0, .rd 4 [.o 0 none] 0 0, .rd 5 [] 0 0, .rd 6 [] 0 7, .rd 7 [] 0 0, .rd 8 [] 0 0, .rd 9 [] 0 0, .rd 10 [] 0 0, .rd 11 [] 0 7, .rd 12 [] 0 0, .rd 13 [] 1 0, .rd 14 [] 1 0, .rd 15 [] 1 0, .rd 16 [] 0 0, .rd 17 [] 0 0] [] [1, 2, 3, 8, 101] (E1 := fun _ => [(1, .val (.string key)), (2, .val (.string text)), (3, .val (.slice a l.length c)), (8, .val (.bool false)), (101, .val (.bool false))]) (h1 := fun _ => [(nu1 0, .cells #[.int .i64 ((Sx.valOf keyN (addsL ns)).kind), .string ((Sx.valOf keyN (addsL ns)).text), .int .i64 ((Sx.valOf keyN (addsL ns)).n), .slice ua un uc] 47 (0, 0))]) (p1 := fun _ => [((Sx.valOf keyN (addsL ns)).n != wsum ns) = false, decide ((↑ns.length : Int) > (0 : Int)) = false]) (W1 := []) (by kernel_rfl) (fun _ => by kernel_rfl) (fun _ => ⟨by simp; omega, by simp [*]; done, trivial⟩) (fun _ => ?_)
              refine J_cond_f (by kernel_rfl) (by kernel_rfl) ?_
              refine J_skip ?_
              refine J_seq ?_
              refine JR_begin mixed [(0, true), (1, true), (2, false), (3, false), (4, true), (5, true), (6, true), (7, false), (8, false), (9, true)] [] (by kernel_rfl) (by kernel_rfl) ?_
              refine JR_run (id := 16) (rest := [(2, false), (3, false), (4, true), (5, true), (6, true), (7, false), (8, false), (9, true)]) [.rd 0 [] 0 0, .rd 1 [] 0 0] [1, 2, 3, 8, 103, 104] (E1 := fun _ => [(1, .val (.string key)), (2, .val (.string text)), (3, .val (.slice a l.length c)), (8, .val (.bool false)), (103, .val (.string key)), (104, .val (.slice a l.length c))]) (h1 := fun _ => [(nu1 0, .cells #[.int .i64 ((Sx.valOf keyN (addsL ns)).kind), .string ((Sx.valOf keyN (addsL ns)).text), .int .i64 ((Sx.valOf keyN (addsL ns)).n), .slice ua un uc] 47 (0, 0))]) (p1 := fun _ => []) (W1 := []) (fun _ => by kernel_rfl) (fun _ => trivial) (fun _ => ?_)
              refine JR_callp [] 22 #[.slice a l.length c] (some 105) (by kernel_rfl) (fun w S hG => ?_)
              refine (ownCommits (hG.at 1 rfl) (by omega) (fun x hx => by have := light_com (hlc x hx); omega) (fun x hx => by have := light_com (hlc x hx); omega) (fun x hx o ho => by have := (light_com (hlc x hx)).2.2 o ho; omega)).mono ?_
              rintro e4 w4 ⟨a3, n3, c3, hR⟩
              refine ⟨_, _, _, hR, ?_⟩
              try simp only [List.cons_append, List.nil_append, List.append_nil]
              refine JR_callzp [] 21 #[.string key, .slice a3 n3 c3] (some 106) zero_all (by kernel_rfl) (fun w S hG => ?_)
              refine (vOf (key := key) (hG.at 0 rfl) (hG.at 5 rfl) (by omega) (fun x hx => by have := light_com (hlc x hx); omega) (fun x hx => by have := light_com (hlc x hx); omega)).mono ?_
              rintro e5 w5 (⟨hc5, hF⟩ | ⟨hc5, va, vn, vc, hR⟩)
              · obtain ⟨t5, p5, hR⟩ := fval_err hF hc5
                refine ⟨_, _, _, hR, ?_⟩
                try simp only [List.cons_append, List.nil_append, List.append_nil]
                refine JR_run (id := 16) (rest := []) [.rd 4 [] 0 0, .rd 5 [] 0 0, .rd 6 [] 0 0, .wr 7 [] 0, .wr 8 [.o 1 none, .o 1 none, .o 1 none, .o 1 none] 0, .rd 9 [] 0 0] [1, 2, 3, 8, 15, 16] (E1 := fun nu2 => [(1, .val (.string key)), (2, .val (.string text)), (3, .val (.slice a l.length c)), (8, .val (.bool false)), (15, .val (.pointer (some (⟨nu2 0, 0, none⟩)))), (16, .val (.iface t5 (.pointer (some p5))))]) (h1 := fun nu2 => [(nu1 0, .cells #[.int .i64 ((Sx.valOf keyN (addsL ns)).kind), .string ((Sx.valOf keyN (addsL ns)).text), .int .i64 ((Sx.valOf keyN (addsL ns)).n), .slice ua un uc] 47 (0, 0)), (nu2 0, .cells #[.int .i64 0, .string (ByteArray.mk #[]), .int .i64 0, .slice none 0 0] 47 (0, 0))]) (p1 := fun nu2 => []) (W1 := []) (fun _ => by kernel_rfl) (fun _ => trivial) (fun nu2 => ?_)
                refine JR_end ?_
                refine J_seq ?_
                refine JR_begin mixed [(0, true), (1, true), (2, true), (3, false), (4, false), (5, true), (6, true), (7, true), (8, true), (9, true)] [] (by kernel_rfl) (by kernel_rfl) ?_
                refine JR_run (id := 17) (rest := [(3, false), (4, false), (5, true), (6, true), (7, true), (8, true), (9, true)]) [.rd 0 [] 0 0, .rd 1 [] 0 0, .rd 2 [] 0 0] [2, 8, 15, 16, 110, 111, 112] (E1 := fun _ => [(2, .val (.string text)), (8, .val (.bool false)), (15, .val (.pointer (some (⟨nu2 0, 0, none⟩)))), (16, .val (.iface t5 (.pointer (some p5)))), (110, .val (.string key)), (111, .val (.string text)), (112, .val (.slice a l.length c))]) (h1 := fun _ => [(nu1 0, .cells #[.int .i64 ((Sx.valOf keyN (addsL ns)).kind), .string ((Sx.valOf keyN (addsL ns)).text), .int .i64 ((Sx.valOf keyN (addsL ns)).n), .slice ua un uc] 47 (0, 0)), (nu2 0, .cells #[.int .i64 0, .string (ByteArray.mk #[]), .int .i64 0, .slice none 0 0] 47 (0, 0))]) (p1 := fun _ => []) (W1 := []) (fun _ => by kernel_rfl) (fun _ => trivial) (fun _ => ?_)
                refine JR_callp [] 22 #[.slice a l.length c] (some 113) (by kernel_rfl) (fun w S hG => ?_)
                refine (ownCommits (hG.at 1 rfl) (by omega) (fun x hx => by have := light_com (hlc x hx); omega) (fun x hx => by have := light_com (hlc x hx); omega) (fun x hx o ho => by have := (light_com (hlc x hx)).2.2 o ho; omega)).mono ?_
                rintro e6 w6 ⟨a6, n6, c6, hR⟩
                refine ⟨_, _, _, hR, ?_⟩
                try simp only [List.cons_append, List.nil_append, List.append_nil]
                refine JR_callp [] 23 #[.string key, .string text, .slice a6 n6 c6] (some 114) (by kernel_rfl) (fun w S hG => ?_)
                refine (vDots (key := key) (text := text) (hG.at 0 rfl) (hG.at 6 rfl) (by omega) (fun x hx => by have := light_com (hlc x hx); omega) (fun x hx => by have := light_com (hlc x hx); omega)).mono ?_
                rintro e7 w7 (⟨hc7, hF⟩ | ⟨hc7, _⟩)
                case inr => exact absurd hc7 hc5
                obtain ⟨t7, p7, hR⟩ := fval_err hF hc7
                refine ⟨_, _, _, hR, ?_⟩
                try simp only [List.cons_append, List.nil_append, List.append_nil]
                refine JR_run (id := 17) (rest := []) [.rd 5 [] 0 0, .rd 6 [] 0 0, .rd 7 [] 0 0, .rd 8 [] 0 0, .rd 9 [] 0 0] [2, 8, 15, 16, 17, 18] (E1 := fun _ => [(2, .val (.string text)), (8, .val (.bool false)), (15, .val (.pointer (some (⟨nu2 0, 0, none⟩)))), (16, .val (.iface t5 (.pointer (some p5)))), (17, .val (.slice none 0 0)), (18, .val (.iface t7 (.pointer (some p7))))]) (h1 := fun _ => [(nu1 0, .cells #[.int .i64 ((Sx.valOf keyN (addsL ns)).kind), .string ((Sx.valOf keyN (addsL ns)).text), .int .i64 ((Sx.valOf keyN (addsL ns)).n), .slice ua un uc] 47 (0, 0)), (nu2 0, .cells #[.int .i64 0, .string (ByteArray.mk #[]), .int .i64 0, .slice none 0 0] 47 (0, 0))]) (p1 := fun _ => []) (W1 := []) (fun _ => by kernel_rfl) (fun _ => trivial) (fun _ => ?_)
                refine JR_end ?_
                refine J_seq ?_
                refine J_seq ?_
                refine J_reg mixed [.rd 0 [] 0 0, .rd 1 [] 0 0, .rd 2 [] 0 0, .rd 3 [] 1 0, .rd 4 [] 1 0, .rd 5 [] 0 0] [] [2, 8, 15, 16, 17, 18, 122] (E1 := fun _ => [(2, .val (.string text)), (8, .val (.bool false)), (15, .val (.pointer (some (⟨nu2 0, 0, none⟩)))), (16, .val (.iface t5 (.pointer (some p5)))), (17, .val (.slice none 0 0)), (18, .val (.iface t7 (.pointer (some p7)))), (122, .val (.bool true))]) (h1 := fun _ => [(nu1 0, .cells #[.int .i64 ((Sx.valOf keyN (addsL ns)).kind), .string ((Sx.valOf keyN (addsL ns)).text), .int .i64 ((Sx.valOf keyN (addsL ns)).n), .slice ua un uc] 47 (0, 0)), (nu2 0, .cells #[.int .i64 0, .string (ByteArray.mk #[]), .int .i64 0, .slice none 0 0] 47 (0, 0))]) (p1 := fun _ => []) (W1 := []) (by kernel_rfl) (fun _ => by kernel_rfl) (fun _ => trivial) (fun _ => ?_)
                refine J_cond_t (by kernel_rfl) (by kernel_rfl) ?_
                refine J_seq ?_
                refine J_reg mixed [.rd 0 [] 0 0, .rd 1 [] 0 0, .rd 2 [] 0 0, .rd 3 [] 0 0, .rd 4 [] 0 0, .rd 5 [] 0 0, .rd 6 [] 0 0] [] [2, 8, 15, 17] (E1 := fun _ => [(2, .val (.string text)), (8, .val (.bool true)), (15, .val (.pointer (some (⟨nu2 0, 0, none⟩)))), (17, .val (.slice none 0 0))]) (h1 := fun _ => [(nu1 0, .cells #[.int .i64 ((Sx.valOf keyN (addsL ns)).kind), .string ((Sx.valOf keyN (addsL ns)).text), .int .i64 ((Sx.valOf keyN (addsL ns)).n), .slice ua un uc] 47 (0, 0)), (nu2 0, .cells #[.int .i64 0, .string (ByteArray.mk #[]), .int .i64 0, .slice none 0 0] 47 (0, 0))]) (p1 := fun _ => []) (W1 := []) (by kernel_rfl) (fun _ => by kernel_rfl) (fun _ => trivial) (fun _ => ?_)
                refine J_return [[]] (.bool true) (by kernel_rfl) (fun a w s => ?_)
                exact s.retz (by simp) [] [] rfl rfl
              · refine ⟨_, _, _, hR, ?_⟩
                try simp only [List.cons_append, List.nil_append, List.append_nil]
                refine JR_run (id := 16) (rest := []) [.rd 4 [] 0 0, .rd 5 [] 0 0, .rd 6 [] 0 0, .wr 7 [] 0, .wr 8 [.o 1 none, .o 1 none, .o 1 none, .o 1 none] 0, .rd 9 [] 0 0] [1, 2, 3, 8, 15, 16] (E1 := fun nu2 => [(1, .val (.string key)), (2, .val (.string text)), (3, .val (.slice a l.length c)), (8, .val (.bool false)), (15, .val (.pointer (some (⟨nu2 0, 0, none⟩)))), (16, .val (.nilIface))]) (h1 := fun nu2 => [(nu1 0, .cells #[.int .i64 ((Sx.valOf keyN (addsL ns)).kind), .string ((Sx.valOf keyN (addsL ns)).text), .int .i64 ((Sx.valOf keyN (addsL ns)).n), .slice ua un uc] 47 (0, 0)), (nu2 0, .cells #[.int .i64 ((Sx.valOf key l).kind), .string ((Sx.valOf key l).text), .int .i64 ((Sx.valOf key l).n), .slice va vn vc] 47 (0, 0))]) (p1 := fun nu2 => []) (W1 := []) (fun _ => by kernel_rfl) (fun _ => trivial) (fun nu2 => ?_)
                refine JR_end ?_
                refine J_seq ?_
                refine JR_begin mixed [(0, true), (1, true), (2, true), (3, false), (4, false), (5, true), (6, true), (7, true), (8, true), (9, true)] [] (by kernel_rfl) (by kernel_rfl) ?_
                refine JR_run (id := 17) (rest := [(3, false), (4, false), (5, true), (6, true), (7, true), (8, true), (9, true)]) [.rd 0 [] 0 0, .rd 1 [] 0 0, .rd 2 [] 0 0] [2, 8, 15, 16, 110, 111, 112] (E1 := fun _ => [(2, .val (.string text)), (8, .val (.bool false)), (15, .val (.pointer (some (⟨nu2 0, 0, none⟩)))), (16, .val (.nilIface)), (110, .val (.string key)), (111, .val (.string text)), (112, .val (.slice a l.length c))]) (h1 := fun _ => [(nu1 0, .cells #[.int .i64 ((Sx.valOf keyN (addsL ns)).kind), .string ((Sx.valOf keyN (addsL ns)).text), .int .i64 ((Sx.valOf keyN (addsL ns)).n), .slice ua un uc] 47 (0, 0)), (nu2 0, .cells #[.int .i64 ((Sx.valOf key l).kind), .string ((Sx.valOf key l).text), .int .i64 ((Sx.valOf key l).n), .slice va vn vc] 47 (0, 0))]) (p1 := fun _ => []) (W1 := []) (fun _ => by kernel_rfl) (fun _ => trivial) (fun _ => ?_)
                refine JR_callp [] 22 #[.slice a l.length c] (some 113) (by kernel_rfl) (fun w S hG => ?_)
                refine (ownCommits (hG.at 1 rfl) (by omega) (fun x hx => by have := light_com (hlc x hx); omega) (fun x hx => by have := light_com (hlc x hx); omega) (fun x hx o ho => by have := (light_com (hlc x hx)).2.2 o ho; omega)).mono ?_
                rintro e6 w6 ⟨a6, n6, c6, hR⟩
                refine ⟨_, _, _, hR, ?_⟩
                try simp only [List.cons_append, List.nil_append, List.append_nil]
                refine JR_callp [] 23 #[.string key, .string text, .slice a6 n6 c6] (some 114) (by kernel_rfl) (fun w S hG => ?_)
                refine (vDots (key := key) (text := text) (hG.at 0 rfl) (hG.at 7 rfl) (by omega) (fun x hx => by have := light_com (hlc x hx); omega) (fun x hx => by have := light_com (hlc x hx); omega)).mono ?_
                rintro e7 w7 (⟨hc7, _⟩ | ⟨hc7, da, dn, dc, hR⟩)
                case inl => exact absurd hc5 hc7
                refine ⟨_, _, _, hR, ?_⟩
                have hvl := valOf_len hc5
                have hid := in_dots key text l
                try simp only [List.cons_append, List.nil_append, List.append_nil]
                refine JR_run (id := 17) (rest := []) [.rd 5 [] 0 0, .rd 6 [] 0 0, .rd 7 [] 0 0, .rd 8 [] 0 0, .rd 9 [] 0 0] [2, 8, 15, 16, 17, 18] (E1 := fun _ => [(2, .val (.string text)), (8, .val (.bool false)), (15, .val (.pointer (some (⟨nu2 0, 0, none⟩)))), (16, .val (.nilIface)), (17, .val (.slice da dn dc)), (18, .val (.nilIface))]) (h1 := fun _ => [(nu1 0, .cells #[.int .i64 ((Sx.valOf keyN (addsL ns)).kind), .string ((Sx.valOf keyN (addsL ns)).text), .int .i64 ((Sx.valOf keyN (addsL ns)).n), .slice ua un uc] 47 (0, 0)), (nu2 0, .cells #[.int .i64 ((Sx.valOf key l).kind), .string ((Sx.valOf key l).text), .int .i64 ((Sx.valOf key l).n), .slice va vn vc] 47 (0, 0))]) (p1 := fun _ => []) (W1 := []) (fun _ => by kernel_rfl) (fun _ => trivial) (fun _ => ?_)
                refine JR_end ?_
                refine J_seq ?_
                refine J_seq ?_
                refine J_reg mixed [.rd 0 [] 0 0, .rd 1 [] 0 0, .rd 2 [] 0 0, .rd 3 [] 0 0, .rd 4 [] 0 0, .rd 5 [] 0 0] [] [2, 8, 15, 16, 17, 18, 122] (E1 := fun _ => [(2, .val (.string text)), (8, .val (.bool false)), (15, .val (.pointer (some (⟨nu2 0, 0, none⟩)))), (16, .val (.nilIface)), (17, .val (.slice da dn dc)), (18, .val (.nilIface)), (122, .val (.bool false))]) (h1 := fun _ => [(nu1 0, .cells #[.int .i64 ((Sx.valOf keyN (addsL ns)).kind), .string ((Sx.valOf keyN (addsL ns)).text), .int .i64 ((Sx.valOf keyN (addsL ns)).n), .slice ua un uc] 47 (0, 0)), (nu2 0, .cells #[.int .i64 ((Sx.valOf key l).kind), .string ((Sx.valOf key l).text), .int .i64 ((Sx.valOf key l).n), .slice va vn vc] 47 (0, 0))]) (p1 := fun _ => []) (W1 := []) (by kernel_rfl) (fun _ => by kernel_rfl) (fun _ => trivial) (fun _ => ?_)
                refine J_cond_f (by kernel_rfl) (by kernel_rfl) ?_
                refine J_skip ?_
                refine J_seq ?_
                refine J_stpx (stp_replen 8 rfl) fun _ hdn => ?_
                rw [List.length_map] at hdn
                refine JR_begin mixed [(0, true), (1, true), (2, true), (3, false), (4, true), (5, true), (6, true), (7, true), (8, true), (9, true)] [] (by kernel_rfl) (by kernel_rfl) ?_
                refine JR_run (id := 20) (rest := [(3, false), (4, true), (5, true), (6, true), (7, true), (8, true), (9, true)]) [.rd 0 [] 0 0, .rd 1 [.o 1 none] 0 0, .rd 2 [] 0 0] [8, 17, 130, 131] (E1 := fun _ => [(8, .val (.bool false)), (17, .val (.slice da dn dc)), (130, .val (.slice va vn vc)), (131, .val (.string text))]) (h1 := fun _ => [(nu1 0, .cells #[.int .i64 ((Sx.valOf keyN (addsL ns)).kind), .string ((Sx.valOf keyN (addsL ns)).text), .int .i64 ((Sx.valOf keyN (addsL ns)).n), .slice ua un uc] 47 (0, 0)), (nu2 0, .cells #[.int .i64 ((Sx.valOf key l).kind), .string ((Sx.valOf key l).text), .int .i64 ((Sx.valOf key l).n), .slice va vn vc] 47 (0, 0))]) (p1 := fun _ => []) (W1 := []) (fun _ => by kernel_rfl) (fun _ => trivial) (fun _ => ?_)
                refine JR_callp [] 31 #[.slice va vn vc, .string text] (some 132) (by kernel_rfl) (fun w S hG => ?_)
                refine (rIndex (t := text) (hG.at 6 rfl) (by omega)).mono ?_
                rintro e8 w8 ⟨ix, hix, hR⟩
                refine ⟨_, _, _, hR, ?_⟩
                by_cases ht : 0 < dn
                · have hi1 : ix ≥ 0 := hix.2 (hid.2 (by omega))
                  have hd1 : (dn : Int) > 0 := by omega
                  try simp only [List.cons_append, List.nil_append, List.append_nil]
                  refine JR_run (id := 20) (rest := []) [.rd 4 [] 0 6, .rd 5 [] 0 0, .rd 6 [] 0 0, .rd 7 [] 0 6, .rd 8 [] 0 0, .rd 9 [] 0 0] [8] (E1 := fun _ => [(8, .val (.bool true))]) (h1 := fun _ => [(nu1 0, .cells #[.int .i64 ((Sx.valOf keyN (addsL ns)).kind), .string ((Sx.valOf keyN (addsL ns)).text), .int .i64 ((Sx.valOf keyN (addsL ns)).n), .slice ua un uc] 47 (0, 0)), (nu2 0, .cells #[.int .i64 ((Sx.valOf key l).kind), .string ((Sx.valOf key l).text), .int .i64 ((Sx.valOf key l).n), .slice va vn vc] 47 (0, 0))]) (p1 := fun _ => [decide (ix ≥ (0 : Int)) = true, decide ((↑dn : Int) > (0 : Int)) = true]) (W1 := []) (fun _ => by kernel_rfl) (fun _ => ⟨by simp; omega, by simp; omega, trivial⟩) (fun _ => ?_)
                  refine JR_end ?_
                  refine J_return [[]] (.bool true) (by kernel_rfl) (fun a w s => ?_)
                  exact s.retz (by simp) [] [] rfl rfl
                · have hi1 : ¬ ix ≥ 0 := fun h => ht (by have := hid.1 (hix.1 h); omega)
                  have hd1 : ¬ (dn : Int) > 0 := by omega
                  try simp only [List.cons_append, List.nil_append, List.append_nil]
                  refine JR_run (id := 20) (rest := []) [.rd 4 [] 0 7, .rd 5 [] 0 0, .rd 6 [] 0 0, .rd 7 [] 0 7, .rd 8 [] 0 0, .rd 9 [] 0 0] [8] (E1 := fun _ => [(8, .val (.bool true))]) (h1 := fun _ => [(nu1 0, .cells #[.int .i64 ((Sx.valOf keyN (addsL ns)).kind), .string ((Sx.valOf keyN (addsL ns)).text), .int .i64 ((Sx.valOf keyN (addsL ns)).n), .slice ua un uc] 47 (0, 0)), (nu2 0, .cells #[.int .i64 ((Sx.valOf key l).kind), .string ((Sx.valOf key l).text), .int .i64 ((Sx.valOf key l).n), .slice va vn vc] 47 (0, 0))]) (p1 := fun _ => [decide (ix ≥ (0 : Int)) = false, decide ((↑dn : Int) > (0 : Int)) = false]) (W1 := []) (fun _ => by kernel_rfl) (fun _ => ⟨by simp; omega, by simp; omega, trivial⟩) (fun _ => ?_)
                  refine JR_end ?_
                  refine J_return [[]] (.bool true) (by kernel_rfl) (fun a w s => ?_)
                  exact s.retz (by simp) [] [] rfl rfl
            · try simp only [List.cons_append, List.nil_append, List.append_nil]
              refine JR_run (id := 13) (rest := []) [.rd 2 [] 0 0, .rd 3 [] 0 0, .rd 4 [] 0 0, .wr 5 [] 0, .wr 6 [.o 0 none, .o 0 none, .o 0 none, .o 0 none] 0, .rd 7 [] 0 0] [0, 1, 2, 3, 8, 10, 13, 14] (E1 := fun nu1 => [(0, .val (.slice a2 ns.length c2)), (1, .val (.string key)), (2, .val (.string text)), (3, .val (.slice a l.length c)), (8, .val (.bool false)), (10, .val (.int .i64 (wsum ns))), (13, .val (.pointer (some (⟨nu1 0, 0, none⟩)))), (14, .val (.nilIface))]) (h1 := fun nu1 => [(nu1 0, .cells #[.int .i64 ((Sx.valOf keyN (addsL ns)).kind), .string ((Sx.valOf keyN (addsL ns)).text), .int .i64 ((Sx.valOf keyN (addsL ns)).n), .slice ua un uc] 47 (0, 0))]) (p1 := fun nu1 => []) (W1 := []) (fun _ => by kernel_rfl) (fun _ => trivial) (fun nu1 => ?_)
              refine JR_end ?_
              refine J_seq ?_
              refine J_seq ?_
              refine J_reg mixed [.rd 0 [] 0 0, .rd 1 [] 0 0, .rd 2 [] 0 0, .rd 3 [] 0 0, .rd 4 [.o 0 none] 0 0, .rd 5 [] 0 0, .rd 6 [] 0 7, .rd 7 [] 0 0, .rd 8 [] 0 0, .rd 9 [] 0 0, .rd 10 [] 0 0, .rd 11 [] 0 6, .rd 12 [] 0 0, .rd 13 [] 0 0, .rd 14 [.o 0 none] 0 0, .rd 15 [] 0 7, .rd 16 [] 0 0, .rd 17 [] 0 0] [] [1, 2, 3, 8, 101] (E1 := fun _ => [(1, .val (.string key)), (2, .val (.string text)), (3, .val (.slice a l.length c)), (8, .val (.bool false)), (101, .val (.bool false))]) (h1 := fun _ => [(nu1 0, .cells #[.int .i64 ((Sx.valOf keyN (addsL ns)).kind), .string ((Sx.valOf keyN (addsL ns)).text), .int .i64 ((Sx.valOf keyN (addsL ns)).n), .slice ua un uc] 47 (0, 0))]) (p1 := fun _ => [((Sx.valOf keyN (addsL ns)).n != wsum ns) = false, decide ((↑ns.length : Int) > (0 : Int)) = true, ((Sx.valOf keyN (addsL ns)).kind != (2 : Int)) = false]) (W1 := []) (by kernel_rfl) (fun _ => by kernel_rfl) (fun _ => ⟨by simp; omega, by simp; omega, by simp; omega, trivial⟩) (fun _ => ?_)
              refine J_cond_f (by kernel_rfl) (by kernel_rfl) ?_
              refine J_skip ?_
              refine J_seq ?_
              refine JR_begin mixed [(0, true), (1, true), (2, false), (3, false), (4, true), (5, true), (6, true), (7, false), (8, false), (9, true)] [] (by kernel_rfl) (by kernel_rfl) ?_
              refine JR_run (id := 16) (rest := [(2, false), (3, false), (4, true), (5, true), (6, true), (7, false), (8, false), (9, true)]) [.rd 0 [] 0 0, .rd 1 [] 0 0] [1, 2, 3, 8, 103, 104] (E1 := fun _ => [(1, .val (.string key)), (2, .val (.string text)), (3, .val (.slice a l.length c)), (8, .val (.bool false)), (103, .val (.string key)), (104, .val (.slice a l.length c))]) (h1 := fun _ => [(nu1 0, .cells #[.int .i64 ((Sx.valOf keyN (addsL ns)).kind), .string ((Sx.valOf keyN (addsL ns)).text), .int .i64 ((Sx.valOf keyN (addsL ns)).n), .slice ua un uc] 47 (0, 0))]) (p1 := fun _ => []) (W1 := []) (fun _ => by kernel_rfl) (fun _ => trivial) (fun _ => ?_)
              refine JR_callp [] 22 #[.slice a l.length c] (some 105) (by kernel_rfl) (fun w S hG => ?_)
              refine (ownCommits (hG.at 1 rfl) (by omega) (fun x hx => by have := light_com (hlc x hx); omega) (fun x hx => by have := light_com (hlc x hx); omega) (fun x hx o ho => by have := (light_com (hlc x hx)).2.2 o ho; omega)).mono ?_
              rintro e4 w4 ⟨a3, n3, c3, hR⟩
              refine ⟨_, _, _, hR, ?_⟩
              try simp only [List.cons_append, List.nil_append, List.append_nil]
              refine JR_callzp [] 21 #[.string key, .slice a3 n3 c3] (some 106) zero_all (by kernel_rfl) (fun w S hG => ?_)
              refine (vOf (key := key) (hG.at 0 rfl) (hG.at 5 rfl) (by omega) (fun x hx => by have := light_com (hlc x hx); omega) (fun x hx => by have := light_com (hlc x hx); omega)).mono ?_
              rintro e5 w5 (⟨hc5, hF⟩ | ⟨hc5, va, vn, vc, hR⟩)
              · obtain ⟨t5, p5, hR⟩ := fval_err hF hc5
                refine ⟨_, _, _, hR, ?_⟩
                try simp only [List.cons_append, List.nil_append, List.append_nil]
                refine JR_run (id := 16) (rest := []) [.rd 4 [] 0 0, .rd 5 [] 0 0, .rd 6 [] 0 0, .wr 7 [] 0, .wr 8 [.o 1 none, .o 1 none, .o 1 none, .o 1 none] 0, .rd 9 [] 0 0] [1, 2, 3, 8, 15, 16] (E1 := fun nu2 => [(1, .val (.string key)), (2, .val (.string text)), (3, .val (.slice a l.length c)), (8, .val (.bool false)), (15, .val (.pointer (some (⟨nu2 0, 0, none⟩)))), (16, .val (.iface t5 (.pointer (some p5))))]) (h1 := fun nu2 => [(nu1 0, .cells #[.int .i64 ((Sx.valOf keyN (addsL ns)).kind), .string ((Sx.valOf keyN (addsL ns)).text), .int .i64 ((Sx.valOf keyN (addsL ns)).n), .slice ua un uc] 47 (0, 0)), (nu2 0, .cells #[.int .i64 0, .string (ByteArray.mk #[]), .int .i64 0, .slice none 0 0] 47 (0, 0))]) (p1 := fun nu2 => []) (W1 := []) (fun _ => by kernel_rfl) (fun _ => trivial) (fun nu2 => ?_)
                refine JR_end ?_
                refine J_seq ?_
                refine JR_begin mixed [(0, true), (1, true), (2, true), (3, false), (4, false), (5, true), (6, true), (7, true), (8, true), (9, true)] [] (by kernel_rfl) (by kernel_rfl) ?_
                refine JR_run (id := 17) (rest := [(3, false), (4, false), (5, true), (6, true), (7, true), (8, true), (9, true)]) [.rd 0 [] 0 0, .rd 1 [] 0 0, .rd 2 [] 0 0] [2, 8, 15, 16, 110, 111, 112] (E1 := fun _ => [(2, .val (.string text)), (8, .val (.bool false)), (15, .val (.pointer (some (⟨nu2 0, 0, none⟩)))), (16, .val (.iface t5 (.pointer (some p5)))), (110, .val (.string key)), (111, .val (.string text)), (112, .val (.slice a l.length c))]) (h1 := fun _ => [(nu1 0, .cells #[.int .i64 ((Sx.valOf keyN (addsL ns)).kind), .string ((Sx.valOf keyN (addsL ns)).text), .int .i64 ((Sx.valOf keyN (addsL ns)).n), .slice ua un uc] 47 (0, 0)), (nu2 0, .cells #[.int .i64 0, .string (ByteArray.mk #[]), .int .i64 0, .slice none 0 0] 47 (0, 0))]) (p1 := fun _ => []) (W1 := []) (fun _ => by kernel_rfl) (fun _ => trivial) (fun _ => ?_)
                refine JR_callp [] 22 #[.slice a l.length c] (some 113) (by kernel_rfl) (fun w S hG => ?_)
                refine (ownCommits (hG.at 1 rfl) (by omega) (fun x hx => by have := light_com (hlc x hx); omega) (fun x hx => by have := light_com (hlc x hx); omega) (fun x hx o ho => by have := (light_com (hlc x hx)).2.2 o ho; omega)).mono ?_
                rintro e6 w6 ⟨a6, n6, c6, hR⟩
                refine ⟨_, _, _, hR, ?_⟩
                try simp only [List.cons_append, List.nil_append, List.append_nil]
                refine JR_callp [] 23 #[.string key, .string text, .slice a6 n6 c6] (some 114) (by kernel_rfl) (fun w S hG => ?_)
                refine (vDots (key := key) (text := text) (hG.at 0 rfl) (hG.at 6 rfl) (by omega) (fun x hx => by have := light_com (hlc x hx); omega) (fun x hx => by have := light_com (hlc x hx); omega)).mono ?_
                rintro e7 w7 (⟨hc7, hF⟩ | ⟨hc7, _⟩)
                case inr => exact absurd hc7 hc5
                obtain ⟨t7, p7, hR⟩ := fval_err hF hc7
                refine ⟨_, _, _, hR, ?_⟩
                try simp only [List.cons_append, List.nil_append, List.append_nil]
                refine JR_run (id := 17) (rest := []) [.rd 5 [] 0 0, .rd 6 [] 0 0, .rd 7 [] 0 0, .rd 8 [] 0 0, .rd 9 [] 0 0] [2, 8, 15, 16, 17, 18] (E1 := fun _ => [(2, .val (.string text)), (8, .val (.bool false)), (15, .val (.pointer (some (⟨nu2 0, 0, none⟩)))), (16, .val (.iface t5 (.pointer (some p5)))), (17, .val (.slice none 0 0)), (18, .val (.iface t7 (.pointer (some p7))))]) (h1 := fun _ => [(nu1 0, .cells #[.int .i64 ((Sx.valOf keyN (addsL ns)).kind), .string ((Sx.valOf keyN (addsL ns)).text), .int .i64 ((Sx.valOf keyN (addsL ns)).n), .slice ua un uc] 47 (0, 0)), (nu2 0, .cells #[.int .i64 0, .string (ByteArray.mk #[]), .int .i64 0, .slice none 0 0] 47 (0, 0))]) (p1 := fun _ => []) (W1 := []) (fun _ => by kernel_rfl) (fun _ => trivial) (fun _ => ?_)
                refine JR_end ?_
                refine J_seq ?_
                refine J_seq ?_
                refine J_reg mixed [.rd 0 [] 0 0, .rd 1 [] 0 0, .rd 2 [] 0 0, .rd 3 [] 1 0, .rd 4 [] 1 0, .rd 5 [] 0 0] [] [2, 8, 15, 16, 17, 18, 122] (E1 := fun _ => [(2, .val (.string text)), (8, .val (.bool false)), (15, .val (.pointer (some (⟨nu2 0, 0, none⟩)))), (16, .val (.iface t5 (.pointer (some p5)))), (17, .val (.slice none 0 0)), (18, .val (.iface t7 (.pointer (some p7)))), (122, .val (.bool true))]) (h1 := fun _ => [(nu1 0, .cells #[.int .i64 ((Sx.valOf keyN (addsL ns)).kind), .string ((Sx.valOf keyN (addsL ns)).text), .int .i64 ((Sx.valOf keyN (addsL ns)).n), .slice ua un uc] 47 (0, 0)), (nu2 0, .cells #[.int .i64 0, .string (ByteArray.mk #[]), .int .i64 0, .slice none 0 0] 47 (0, 0))]) (p1 := fun _ => []) (W1 := []) (by kernel_rfl) (fun _ => by kernel_rfl) (fun _ => trivial) (fun _ => ?_)
                refine J_cond_t (by kernel_rfl) (by kernel_rfl) ?_
                refine J_seq ?_
                refine J_reg mixed [.rd 0 [] 0 0, .rd 1 [] 0 0, .rd 2 [] 0 0, .rd 3 [] 0 0, .rd 4 [] 0 0, .rd 5 [] 0 0, .rd 6 [] 0 0] [] [2, 8, 15, 17] (E1 := fun _ => [(2, .val (.string text)), (8, .val (.bool true)), (15, .val (.pointer (some (⟨nu2 0, 0, none⟩)))), (17, .val (.slice none 0 0))]) (h1 := fun _ => [(nu1 0, .cells #[.int .i64 ((Sx.valOf keyN (addsL ns)).kind), .string ((Sx.valOf keyN (addsL ns)).text), .int .i64 ((Sx.valOf keyN (addsL ns)).n), .slice ua un uc] 47 (0, 0)), (nu2 0, .cells #[.int .i64 0, .string (ByteArray.mk #[]), .int .i64 0, .slice none 0 0] 47 (0, 0))]) (p1 := fun _ => []) (W1 := []) (by kernel_rfl) (fun _ => by kernel_rfl) (fun _ => trivial) (fun _ => ?_)
                refine J_return [[]] (.bool true) (by kernel_rfl) (fun a w s => ?_)
                exact s.retz (by simp) [] [] rfl rfl
              · refine ⟨_, _, _, hR, ?_⟩
                try simp only [List.cons_append, List.nil_append, List.append_nil]
                refine JR_run (id := 16) (rest := []) [.rd 4 [] 0 0, .rd 5 [] 0 0, .rd 6 [] 0 0, .wr 7 [] 0, .wr 8 [.o 1 none, .o 1 none, .o 1 none, .o 1 none] 0, .rd 9 [] 0 0] [1, 2, 3, 8, 15, 16] (E1 := fun nu2 => [(1, .val (.string key)), (2, .val (.string text)), (3, .val (.slice a l.length c)), (8, .val (.bool false)), (15, .val (.pointer (some (⟨nu2 0, 0, none⟩)))), (16, .val (.nilIface))]) (h1 := fun nu2 => [(nu1 0, .cells #[.int .i64 ((Sx.valOf keyN (addsL ns)).kind), .string ((Sx.valOf keyN (addsL ns)).text), .int .i64 ((Sx.valOf keyN (addsL ns)).n), .slice ua un uc] 47 (0, 0)), (nu2 0, .cells #[.int .i64 ((Sx.valOf key l).kind), .string ((Sx.valOf key l).text), .int .i64 ((Sx.valOf key l).n), .slice va vn vc] 47 (0, 0))]) (p1 := fun nu2 => []) (W1 := []) (fun _ => by kernel_rfl) (fun _ => trivial) (fun nu2 => ?_)
                refine JR_end ?_
                refine J_seq ?_
                refine JR_begin mixed [(0, true), (1, true), (2, true), (3, false), (4, false), (5, true), (6, true), (7, true), (8, true), (9, true)] [] (by kernel_rfl) (by kernel_rfl) ?_
                refine JR_run (id := 17) (rest := [(3, false), (4, false), (5, true), (6, true), (7, true), (8, true), (9, true)]) [.rd 0 [] 0 0, .rd 1 [] 0 0, .rd 2 [] 0 0] [2, 8, 15, 16, 110, 111, 112] (E1 := fun _ => [(2, .val (.string text)), (8, .val (.bool false)), (15, .val (.pointer (some (⟨nu2 0, 0, none⟩)))), (16, .val (.nilIface)), (110, .val (.string key)), (111, .val (.string text)), (112, .val (.slice a l.length c))]) (h1 := fun _ => [(nu1 0, .cells #[.int .i64 ((Sx.valOf keyN (addsL ns)).kind), .string ((Sx.valOf keyN (addsL ns)).text), .int .i64 ((Sx.valOf keyN (addsL ns)).n), .slice ua un uc] 47 (0, 0)), (nu2 0, .cells #[.int .i64 ((Sx.valOf key l).kind), .string ((Sx.valOf key l).text), .int .i64 ((Sx.valOf key l).n), .slice va vn vc] 47 (0, 0))]) (p1 := fun _ => []) (W1 := []) (fun _ => by kernel_rfl) (fun _ => trivial) (fun _ => ?_)
                refine JR_callp [] 22 #[.slice a l.length c] (some 113) (by kernel_rfl) (fun w S hG => ?_)
                refine (ownCommits (hG.at 1 rfl) (by omega) (fun x hx => by have := light_com (hlc x hx); omega) (fun x hx => by have := light_com (hlc x hx); omega) (fun x hx o ho => by have := (light_com (hlc x hx)).2.2 o ho; omega)).mono ?_
                rintro e6 w6 ⟨a6, n6, c6, hR⟩
                refine ⟨_, _, _, hR, ?_⟩
                try simp only [List.cons_append, List.nil_append, List.append_nil]
                refine JR_callp [] 23 #[.string key, .string text, .slice a6 n6 c6] (some 114) (by kernel_rfl) (fun w S hG => ?_)
                refine (vDots (key := key) (text := text) (hG.at 0 rfl) (hG.at 7 rfl) (by omega) (fun x hx => by have := light_com (hlc x hx); omega) (fun x hx => by have := light_com (hlc x hx); omega)).mono ?_
                rintro e7 w7 (⟨hc7, _⟩ | ⟨hc7, da, dn, dc, hR⟩)
                case inl => exact absurd hc5 hc7
                refine ⟨_, _, _, hR, ?_⟩
                have hvl := valOf_len hc5
                have hid := in_dots key text l
                try simp only [List.cons_append, List.nil_append, List.append_nil]
                refine JR_run (id := 17) (rest := []) [.rd 5 [] 0 0, .rd 6 [] 0 0, .rd 7 [] 0 0, .rd 8 [] 0 0, .rd 9 [] 0 0] [2, 8, 15, 16, 17, 18] (E1 := fun _ => [(2, .val (.string text)), (8, .val (.bool false)), (15, .val (.pointer (some (⟨nu2 0, 0, none⟩)))), (16, .val (.nilIface)), (17, .val (.slice da dn dc)), (18, .val (.nilIface))]) (h1 := fun _ => [(nu1 0, .cells #[.int .i64 ((Sx.valOf keyN (addsL ns)).kind), .string ((Sx.valOf keyN (addsL ns)).text), .int .i64 ((Sx.valOf keyN (addsL ns)).n), .slice ua un uc] 47 (0, 0)), (nu2 0, .cells #[.int .i64 ((Sx.valOf key l).kind), .string ((Sx.valOf key l).text), .int .i64 ((Sx.valOf key l).n), .slice va vn vc] 47 (0, 0))]) (p1 := fun _ => []) (W1 := []) (fun _ => by kernel_rfl) (fun _ => trivial) (fun _ => ?_)
                refine JR_end ?_
                refine J_seq ?_
                refine J_seq ?_
                refine J_reg mixed [.rd 0 [] 0 0, .rd 1 [] 0 0, .rd 2 [] 0 0, .rd 3 [] 0 0, .rd 4 [] 0 0, .rd 5 [] 0 0] [] [2, 8, 15, 16, 17, 18, 122] (E1 := fun _ => [(2, .val (.string text)), (8, .val (.bool false)), (15, .val (.pointer (some (⟨nu2 0, 0, none⟩)))), (16, .val (.nilIface)), (17, .val (.slice da dn dc)), (18, .val (.nilIface)), (122, .val (.bool false))]) (h1 := fun _ => [(nu1 0, .cells #[.int .i64 ((Sx.valOf keyN (addsL ns)).kind), .string ((Sx.valOf keyN (addsL ns)).text), .int .i64 ((Sx.valOf keyN (addsL ns)).n), .slice ua un uc] 47 (0, 0)), (nu2 0, .cells #[.int .i64 ((Sx.valOf key l).kind), .string ((Sx.valOf key l).text), .int .i64 ((Sx.valOf key l).n), .slice va vn vc] 47 (0, 0))]) (p1 := fun _ => []) (W1 := []) (by kernel_rfl) (fun _ => by kernel_rfl) (fun _ => trivial) (fun _ => ?_)
                refine J_cond_f (by kernel_rfl) (by kernel_rfl) ?_
                refine J_skip ?_
                refine J_seq ?_
                refine J_stpx (stp_replen 8 rfl) fun _ hdn => ?_
                rw [List.length_map] at hdn
                refine JR_begin mixed [(0, true), (1, true), (2, true), (3, false), (4, true), (5, true), (6, true), (7, true), (8, true), (9, true)] [] (by kernel_rfl) (by kernel_rfl) ?_
                refine JR_run (id := 20) (rest := [(3, false), (4, true), (5, true), (6, true), (7, true), (8, true), (9, true)]) [.rd 0 [] 0 0, .rd 1 [.o 1 none] 0 0, .rd 2 [] 0 0] [8, 17, 130, 131] (E1 := fun _ => [(8, .val (.bool false)), (17, .val (.slice da dn dc)), (130, .val (.slice va vn vc)), (131, .val (.string text))]) (h1 := fun _ => [(nu1 0, .cells #[.int .i64 ((Sx.valOf keyN (addsL ns)).kind), .string ((Sx.valOf keyN (addsL ns)).text), .int .i64 ((Sx.valOf keyN (addsL ns)).n), .slice ua un uc] 47 (0, 0)), (nu2 0, .cells #[.int .i64 ((Sx.valOf key l).kind), .string ((Sx.valOf key l).text), .int .i64 ((Sx.valOf key l).n), .slice va vn vc] 47 (0, 0))]) (p1 := fun _ => []) (W1 := []) (fun _ => by kernel_rfl) (fun _ => trivial) (fun _ => ?_)
                refine JR_callp [] 31 #[.slice va vn vc, .string text] (some 132) (by kernel_rfl) (fun w S hG => ?_)
                refine (rIndex (t := text) (hG.at 6 rfl) (by omega)).mono ?_
                rintro e8 w8 ⟨ix, hix, hR⟩
                refine ⟨_, _, _, hR, ?_⟩
                by_cases ht : 0 < dn
                · have hi1 : ix ≥ 0 := hix.2 (hid.2 (by omega))
                  have hd1 : (dn : Int) > 0 := by omega
                  try simp only [List.cons_append, List.nil_append, List.append_nil]
                  refine JR_run (id := 20) (rest := []) [.rd 4 [] 0 6, .rd 5 [] 0 0, .rd 6 [] 0 0, .rd 7 [] 0 6, .rd 8 [] 0 0, .rd 9 [] 0 0] [8] (E1 := fun _ => [(8, .val (.bool true))]) (h1 := fun _ => [(nu1 0, .cells #[.int .i64 ((Sx.valOf keyN (addsL ns)).kind), .string ((Sx.valOf keyN (addsL ns)).text), .int .i64 ((Sx.valOf keyN (addsL ns)).n), .slice ua un uc] 47 (0, 0)), (nu2 0, .cells #[.int .i64 ((Sx.valOf key l).kind), .string ((Sx.valOf key l).text), .int .i64 ((Sx.valOf key l).n), .slice va vn vc] 47 (0, 0))]) (p1 := fun _ => [decide (ix ≥ (0 : Int)) = true, decide ((↑dn : Int) > (0 : Int)) = true]) (W1 := []) (fun _ => by kernel_rfl) (fun _ => ⟨by simp; omega, by simp; omega, trivial⟩) (fun _ => ?_)
                  refine JR_end ?_
                  refine J_return [[]] (.bool true) (by kernel_rfl) (fun a w s => ?_)
                  exact s.retz (by simp) [] [] rfl rfl
                · have hi1 : ¬ ix ≥ 0 := fun h => ht (by have := hid.1 (hix.1 h); omega)
                  have hd1 : ¬ (dn : Int) > 0 := by omega
                  try simp only [List.cons_append, List.nil_append, List.append_nil]
                  refine JR_run (id := 20) (rest := []) [.rd 4 [] 0 7, .rd 5 [] 0 0, .rd 6 [] 0 0, .rd 7 [] 0 7, .rd 8 [] 0 0, .rd 9 [] 0 0] [8] (E1 := fun _ => [(8, .val (.bool true))]) (h1 := fun _ => [(nu1 0, .cells #[.int .i64 ((Sx.valOf keyN (addsL ns)).kind), .string ((Sx.valOf keyN (addsL ns)).text), .int .i64 ((Sx.valOf keyN (addsL ns)).n), .slice ua un uc] 47 (0, 0)), (nu2 0, .cells #[.int .i64 ((Sx.valOf key l).kind), .string ((Sx.valOf key l).text), .int .i64 ((Sx.valOf key l).n), .slice va vn vc] 47 (0, 0))]) (p1 := fun _ => [decide (ix ≥ (0 : Int)) = false, decide ((↑dn : Int) > (0 : Int)) = false]) (W1 := []) (fun _ => by kernel_rfl) (fun _ => ⟨by simp; omega, by simp; omega, trivial⟩) (fun _ => ?_)
                  refine JR_end ?_
                  refine J_return [[]] (.bool true) (by kernel_rfl) (fun a w s => ?_)
                  exact s.retz (by simp) [] [] rfl rfl
      · try simp only [List.cons_append, List.nil_append, List.append_nil]
        refine JR_run (id := 1) (rest := []) [.rd 1 [] 0 0] [0, 1, 2, 3, 8, 9] (E1 := fun _ => [(0, .val (.slice a2 ns.length c2)), (1, .val (.string key)), (2, .val (.string text)), (3, .val (.slice a l.length c)), (8, .val (.bool false)), (9, .val (.bool true))]) (h1 := fun _ => []) (p1 := fun _ => []) (W1 := []) (fun _ => by kernel_rfl) (fun _ => trivial) (fun _ => ?_)
        refine JR_end ?_
        refine J_seq ?_
        refine J_seq ?_
        refine J_reg mixed [.rd 0 [] 0 0, .rd 1 [] 0 0, .rd 2 [] 0 0, .rd 3 [] 0 0, .rd 4 [] 0 0, .rd 5 [] 0 7, .rd 6 [] 0 0, .rd 7 [] 0 0, .rd 8 [] 0 0, .rd 9 [] 0 0, .rd 10 [] 0 7, .rd 11 [] 0 0, .rd 12 [] 0 0, .rd 13 [] 0 0, .rd 14 [] 0 0, .rd 15 [] 0 6, .rd 16 [] 0 0, .rd 17 [] 0 0, .rd 18 [] 1 0, .wr 19 [] 1, .rd 20 [] 0 0] [] [0, 1, 2, 3, 8, 9, 40] (E1 := fun _ => [(0, .val (.slice a2 ns.length c2)), (1, .val (.string key)), (2, .val (.string text)), (3, .val (.slice a l.length c)), (8, .val (.bool false)), (9, .val (.bool true)), (40, .val (.bool true))]) (h1 := fun _ => []) (p1 := fun _ => [decide ((↑ns.length : Int) > (30 : Int)) = false, decide ((↑key.size : Int) > (60 : Int)) = false, decide ((↑text.size : Int) > (200 : Int)) = true]) (W1 := []) (by kernel_rfl) (fun _ => by kernel_rfl) (fun _ => ⟨by simp; omega, by simp; omega, by simp; omega, trivial⟩) (fun _ => ?_)
        refine J_cond_t (by kernel_rfl) (by kernel_rfl) ?_
        refine J_seq ?_
        refine J_reg mixed [.rd 0 [] 0 0, .rd 1 [] 0 0] [] [0, 1, 2, 3, 8] (E1 := fun _ => [(0, .val (.slice a2 ns.length c2)), (1, .val (.string key)), (2, .val (.string text)), (3, .val (.slice a l.length c)), (8, .val (.bool true))]) (h1 := fun _ => []) (p1 := fun _ => []) (W1 := []) (by kernel_rfl) (fun _ => by kernel_rfl) (fun _ => trivial) (fun _ => ?_)
        refine J_return [[]] (.bool true) (by kernel_rfl) (fun a w s => ?_)
        exact s.retz (by simp) [] [] rfl rfl
    · try simp only [List.cons_append, List.nil_append, List.append_nil]
      refine JR_run (id := 1) (rest := []) [.rd 1 [] 0 0] [0, 1, 2, 3, 8, 9] (E1 := fun _ => [(0, .val (.slice a2 ns.length c2)), (1, .val (.string key)), (2, .val (.string text)), (3, .val (.slice a l.length c)), (8, .val (.bool false)), (9, .val (.bool true))]) (h1 := fun _ => []) (p1 := fun _ => []) (W1 := []) (fun _ => by kernel_rfl) (fun _ => trivial) (fun _ => ?_)
      refine JR_end ?_
      refine J_seq ?_
      refine J_seq ?_
      refine J_reg mixed [.rd 0 [] 0 0, .rd 1 [] 0 0, .rd 2 [] 0 0, .rd 3 [] 0 0, .rd 4 [] 0 0, .rd 5 [] 0 7, .rd 6 [] 0 0, .rd 7 [] 0 0, .rd 8 [] 0 0, .rd 9 [] 0 0, .rd 10 [] 0 6, .rd 11 [] 0 0, .rd 12 [] 0 0, .rd 13 [] 1 0, .rd 14 [] 1 0, .rd 15 [] 1 0, .rd 16 [] 0 0, .rd 17 [] 0 0, .rd 18 [] 1 0, .wr 19 [] 1, .rd 20 [] 0 0] [] [0, 1, 2, 3, 8, 9, 40] (E1 := fun _ => [(0, .val (.slice a2 ns.length c2)), (1, .val (.string key)), (2, .val (.string text)), (3, .val (.slice a l.length c)), (8, .val (.bool false)), (9, .val (.bool true)), (40, .val (.bool true))]) (h1 := fun _ => []) (p1 := fun _ => [decide ((↑ns.length : Int) > (30 : Int)) = false, decide ((↑key.size : Int) > (60 : Int)) = true]) (W1 := []) (by kernel_rfl) (fun _ => by kernel_rfl) (fun _ => ⟨by simp; omega, by simp; omega, trivial⟩) (fun _ => ?_)
      refine J_cond_t (by kernel_rfl) (by kernel_rfl) ?_
      refine J_seq ?_
      refine J_reg mixed [.rd 0 [] 0 0, .rd 1 [] 0 0] [] [0, 1, 2, 3, 8] (E1 := fun _ => [(0, .val (.slice a2 ns.length c2)), (1, .val (.string key)), (2, .val (.string text)), (3, .val (.slice a l.length c)), (8, .val (.bool true))]) (h1 := fun _ => []) (p1 := fun _ => []) (W1 := []) (by kernel_rfl) (fun _ => by kernel_rfl) (fun _ => trivial) (fun _ => ?_)
      refine J_return [[]] (.bool true) (by kernel_rfl) (fun a w s => ?_)
      exact s.retz (by simp) [] [] rfl rfl
  · try simp only [List.cons_append, List.nil_append, List.append_nil]
    refine JR_run (id := 1) (rest := []) [.rd 1 [] 0 0] [0, 1, 2, 3, 8, 9] (E1 := fun _ => [(0, .val (.slice a2 ns.length c2)), (1, .val (.string key)), (2, .val (.string text)), (3, .val (.slice a l.length c)), (8, .val (.bool false)), (9, .val (.bool true))]) (h1 := fun _ => []) (p1 := fun _ => []) (W1 := []) (fun _ => by kernel_rfl) (fun _ => trivial) (fun _ => ?_)
    refine JR_end ?_
    refine J_seq ?_
    refine J_seq ?_
    refine J_reg mixed [.rd 0 [] 0 0, .rd 1 [] 0 0, .rd 2 [] 0 0, .rd 3 [] 0 0, .rd 4 [] 0 0, .rd 5 [] 0 6, .rd 6 [] 0 0, .rd 7 [] 0 0, .rd 8 [] 1 0, .rd 9 [] 1 0, .rd 10 [] 1 0, .rd 11 [] 0 0, .rd 12 [] 0 0, .rd 13 [] 1 0, .rd 14 [] 1 0, .rd 15 [] 1 0, .rd 16 [] 0 0, .rd 17 [] 0 0, .rd 18 [] 1 0, .wr 19 [] 1, .rd 20 [] 0 0] [] [0, 1, 2, 3, 8, 9, 40] (E1 := fun _ => [(0, .val (.slice a2 ns.length c2)), (1, .val (.string key)), (2, .val (.string text)), (3, .val (.slice a l.length c)), (8, .val (.bool false)), (9, .val (.bool true)), (40, .val (.bool true))]) (h1 := fun _ => []) (p1 := fun _ => [decide ((↑ns.length : Int) > (30 : Int)) = true]) (W1 := []) (by kernel_rfl) (fun _ => by kernel_rfl) (fun _ => ⟨by simp; omega, trivial⟩) (fun _ => ?_)
    refine J_cond_t (by kernel_rfl) (by kernel_rfl) ?_
    refine J_seq ?_
    refine J_reg mixed [.rd 0 [] 0 0, .rd 1 [] 0 0] [] [0, 1, 2, 3, 8] (E1 := fun _ => [(0, .val (.slice a2 ns.length c2)), (1, .val (.string key)), (2, .val (.string text)), (3, .val (.slice a l.length c)), (8, .val (.bool true))]) (h1 := fun _ => []) (p1 := fun _ => []) (W1 := []) (by kernel_rfl) (fun _ => by kernel_rfl) (fun _ => trivial) (fun _ => ?_)
    refine J_return [[]] (.bool true) (by kernel_rfl) (fun a w s => ?_)
    exact s.retz (by simp) [] [] rfl rfl
end Go.Proofs.YtpjkiomccpjboaaGreatDoor
end
section
namespace Go.Sx
open Go Go.RowKit Go.ChangeShapes Go.WideShapes
theorem Fr.below {w w' : World} (h : Fr [] w w') : Below w.heap.size w w' := ⟨h.os, h.tape, h.output, h.size, fun b hb => h.block b hb (by simp)⟩
def IntsAt (w : World) (ad : Option Addr) (zs : List Int) : Prop := zs ≠ [] → ∃ bo off cs ty fz, ad = some ⟨bo, off, none⟩ ∧ w.heap[bo]? = some (.cells cs ty fz) ∧ ∀ (i : Nat) z, zs[i]? = some z → cs[off + i]? = some (.int .i64 z)
theorem cell_blk {w : World} {a : Addr} {v : Value} (h : w.cell? a = some v) : ∃ cs ty fz, w.heap[a.block]? = some (.cells cs ty fz) ∧ a.spot = none ∧ cs[a.off]? = some v := by
  unfold World.cell? at h
  split at h
  · rename_i cs ty fz hb
    split at h
    · cases h
    · rename_i hs
      exact ⟨cs, ty, fz, hb, by simpa using hs, h⟩
  · cases h
section
variable {H : Type} {enc : TypeId × Value → H} {P : Program}
theorem open_intsAt {W : World} {base : Nat} {t e : TypeId} {v : Value} {d : DataW H} {ps : List MemPlace} (ht : P.underlying t = some (.slice e)) (he : P.underlying e = some (.int .i64)) (hc : P.cellsOf e = 1)
    (hv : Value.okWide P W .any base t v) (h : DataW.Trod enc P W 0 (fun _ => true) true t v d ps) : ∃ ad zs c, v = .slice ad zs.length c ∧ IntsAt W ad zs ∧ (∀ z ∈ zs, -9223372036854775808 ≤ z ∧ z ≤ 9223372036854775807) ∧ zs.length ≤ maxLen := by
  obtain ⟨a0, len, cap, rfl⟩ := okWide_slice ht hv
  obtain ⟨fuel, hf⟩ := h
  rcases open_ints ht he hc hf with ⟨hcs, hx⟩ | ⟨a, len', cap', zs, hcs, _, hl, hm, hz, hx, hcell, hwz⟩
  · simp [Value.cells] at hcs
    obtain ⟨rfl, rfl, rfl⟩ := hcs
    exact ⟨none, [], 0, rfl, fun h => absurd rfl h, by simp, by simp⟩
  · simp [Value.cells] at hcs
    obtain ⟨rfl, rfl, rfl⟩ := hcs
    simp only [if_true] at hz
    refine ⟨some a, zs.take len, cap, by rw [List.length_take, Nat.min_eq_left (by omega)], fun hne => ?_, fun z hz => ?_, by rw [List.length_take]; omega⟩
    · have hpos : 0 < zs.length := by
        rcases zs with _ | ⟨z, zs⟩
        · simp at hne
        · simp
      obtain ⟨cs, ty, fz, hb, hs, _⟩ := cell_blk (hcell 0 hpos)
      have e0 : a.add 0 = a := by simp [Addr.add]
      rw [e0] at hb hs
      obtain ⟨b, off, sp⟩ := a
      simp only at hb hs
      subst hs
      refine ⟨b, off, cs, ty, fz, rfl, hb, fun i z hi => ?_⟩
      rw [List.getElem?_take] at hi
      split at hi
      · have hil := (List.getElem?_eq_some_iff.1 hi).1
        obtain ⟨cs', ty', fz', hb', _, hc'⟩ := cell_blk (hcell i hil)
        rw [addr_add] at hb' hc'
        simp only at hb' hc'
        rw [hb] at hb'
        cases hb'
        rw [hc', List.getD_eq_getElem?_getD, hi]
        rfl
      · cases hi
    · have := hwz z (List.mem_of_mem_take hz)
      simp [Lit.wf, IntKind.min, IntKind.max, IntKind.signed, IntKind.bits] at this
      exact this
theorem open_intsRep {W : World} {base : Nat} {t e : TypeId} {v : Value} {d : DataW H} {ps : List MemPlace} (ht : P.underlying t = some (.slice e)) (he : P.underlying e = some (.int .i64)) (hc : P.cellsOf e = 1)
    (hv : Value.okWide P W .any base t v) (h : DataW.Trod enc P W 0 (fun _ => true) true t v d ps) : ∃ ad zs c, v = .slice ad zs.length c ∧ Rep W (fun _ => True) (.slice ad zs.length c) (dInts zs) ∧ (∀ z ∈ zs, -9223372036854775808 ≤ z ∧ z ≤ 9223372036854775807) ∧ zs.length ≤ maxLen := by
  obtain ⟨a0, len, cap, rfl⟩ := okWide_slice ht hv
  obtain ⟨ad, zs, c, hx, hat, hz, hl⟩ := open_intsAt ht he hc hv h
  injection hx with h1 h2 h3
  subst h1 h2 h3
  refine ⟨a0, zs, cap, rfl, ?_, hz, hl⟩
  by_cases hne : zs = []
  · subst hne
    exact .nil
  · obtain ⟨fuel, hf⟩ := h
    have hcap : zs.length ≤ cap := by
      rcases open_ints ht he hc hf with ⟨hcs, _⟩ | ⟨a, len', cap', zs', hcs, _, hl', _⟩
      · simp [Value.cells] at hcs
        exact absurd hcs.2.1 hne
      · simp [Value.cells] at hcs
        obtain ⟨rfl, rfl, rfl⟩ := hcs
        exact hl'
    obtain ⟨bo, off, cs, ty, fz, rfl, hb, hcell⟩ := hat hne
    have hlen : (zs.map eI).length = zs.length := by simp
    have := Rep.sl (S := fun _ => True) (off := off) (cap := cap) (k := 1) (rows := zs.map eI) (fun i _ => .int .i64 (zs.getD i 0)) hb trivial (by simpa using hcap) (by decide) (by simp) (fun i j hi hj => ?_) (fun i j row d hi hj => ?_)
    · simpa using this
    · obtain rfl : j = 0 := by omega
      rw [hlen] at hi
      have := hcell i (zs[i]) (List.getElem?_eq_getElem hi)
      rw [Nat.mul_one, Nat.add_zero, this]
      simp [List.getD_eq_getElem?_getD, List.getElem?_eq_getElem hi]
    · rw [List.getElem?_map] at hi
      obtain ⟨z, hz', rfl⟩ := Option.map_eq_some_iff.1 hi
      match j, hj with
      | 0, hj =>
        simp only [List.getElem?_cons_zero, Option.some.injEq] at hj
        subst hj
        simp only [List.getD_eq_getElem?_getD, hz', Option.getD_some]
        exact .v rfl
      | j + 1, hj => simp at hj
theorem rep_var {W : World} {n : String} {g : Nat} {x : Value} (hg : P.globalNamed n = some g) (h : W.var? P n = some #[x]) (hx : x.oneCell' = true) : Rep W (fun _ => True) (.pointer (some ⟨g, 0, none⟩)) (.ptr [.v x]) := by
  unfold World.var? at h
  simp only [hg, Option.bind_some] at h
  split at h
  · rename_i cs ty fz hb
    cases h
    refine .ptr (fun _ => x) hb trivial (fun j hj => ?_) (fun j d hj => ?_)
    · obtain rfl : j = 0 := by simpa using hj
      rfl
    · match j, hj with
      | 0, hj =>
        simp only [List.getElem?_cons_zero, Option.some.injEq] at hj
        subst hj
        exact .v hx
      | j + 1, hj => simp at hj
  · cases h
theorem sents {W : World} {ti tp te ts : TypeId} {ms : Array (String × TypeId)} {nm : String} {f : Field} (hi : P.underlying ti = some (.interface ms)) (hrow : ∀ u, P.typeName? 3 u = some nm → u = tp)
    (hp : P.underlying tp = some (.pointer te)) (he : P.underlying te = some (.struct #[f])) (hft : f.type = ts) (hfo : f.offset = 0) (hs : P.underlying ts = some .string) (hc : P.cellsOf te = 1) (hcs : P.cellsOf ts = 1) :
    ∀ (ns : List (String × List UInt8)) (ps : List MemPlace), DataW.LaidVars P W (ns.map fun x => (x.1, DataW.iface nm (.ptr (.agg [.lit (.string x.2)])))) ps →
      ns.all (fun x => match P.globalNamed x.1 with
        | some g => (P.globals[g]?).map (·.type) == some ti
        | none => false) = true →
      (∀ b off, MemPlace.cell b off ∈ ps → ∀ u v, W.cell? ⟨b, off, none⟩ = some (.iface u v) → Value.okWide P W .any 0 u v) →
      ∃ adz : List Addr, adz.length = ns.length ∧ (∀ (i : Nat) x a, ns[i]? = some x → adz[i]? = some a → W.var? P x.1 = some #[.iface tp (.pointer (some a))] ∧ a.spot = none) ∧ (adz.map fun a => MemPlace.cell a.block a.off).Sublist ps
  | [], ps, _, _, _ => ⟨[], rfl, by simp, by simp⟩
  | (n, text) :: ns, ps, h, hg, hr => by
    rw [List.map_cons] at h
    obtain ⟨g0, t0, cs0, f0, p0, q0, hg0, ht0, hv0, hd0, hq, e0⟩ := h
    rw [List.all_cons, Bool.and_eq_true] at hg
    obtain ⟨hg1, hg2⟩ := hg
    simp only [hg0, ht0, beq_iff_eq, Option.some.injEq] at hg1
    subst hg1 e0
    obtain ⟨l0⟩ := cs0
    have ok0 : ∀ u v, l0 = [.iface u v] → Value.okWide P W .any 0 u v := fun u v e => by
      subst e
      exact hr g0 0 (by simp [MemPlace.row]) u v (by simpa using World.var?_cell hg0 hv0 0)
    obtain ⟨a0, s0, rfl, hc0, hs0, hz0, rfl⟩ := errorString_of_trod hi hrow hp he hft hfo hs hc hcs hd0 ok0
    obtain ⟨adz, h1, h2, h3⟩ := sents hi hrow hp he hft hfo hs hc hcs ns q0 hq hg2 fun b off hm => hr b off (List.mem_append_right _ hm)
    obtain ⟨_, _, _, _, hspot, _⟩ := cell_blk hc0
    refine ⟨a0 :: adz, by simp [h1], fun i x a hx ha => ?_, ?_⟩
    · cases i with
      | zero =>
        simp only [List.getElem?_cons_zero, Option.some.injEq] at hx ha
        subst hx ha
        exact ⟨hv0, hspot⟩
      | succ i =>
        simp only [List.getElem?_cons_succ] at hx ha
        exact h2 i x a hx ha
    · rw [List.map_cons, List.append_assoc]
      refine (List.Sublist.cons_cons _ h3).trans (?_ : List.Sublist _ (MemPlace.row a0 1 ++ q0)) |>.trans (List.sublist_append_right _ _)
      simp [MemPlace.row]
theorem errs_of {W : World} {ti tp te ts : TypeId} {ms : Array (String × TypeId)} {nm : String} {f : Field} (hi : P.underlying ti = some (.interface ms)) (hrow : ∀ u, P.typeName? 3 u = some nm → u = tp)
    (hp : P.underlying tp = some (.pointer te)) (he : P.underlying te = some (.struct #[f])) (hft : f.type = ts) (hfo : f.offset = 0) (hs : P.underlying ts = some .string) (hc : P.cellsOf te = 1) (hcs : P.cellsOf ts = 1)
    (ns : List (String × List UInt8)) (h : laidMet P (ns.map fun x => (x.1, DataW.iface nm (.ptr (.agg [.lit (.string x.2)])))) W)
    (hg : ns.all (fun x => match P.globalNamed x.1 with
        | some g => (P.globals[g]?).map (·.type) == some ti
        | none => false) = true) :
    ∃ (er : Nat → Addr) (eb : Nat → Array Value × TypeId), (∀ (i : Nat) x, ns[i]? = some x → W.var? P x.1 = some #[.iface tp (.pointer (some (er (i + 1))))] ∧ W.heap[(er (i + 1)).block]? = some (.cells (eb (i + 1)).1 (eb (i + 1)).2 (0, 0))) ∧
      ∀ i j, 1 ≤ i → i ≤ ns.length → 1 ≤ j → j ≤ ns.length → er i = er j → i = j := by
  obtain ⟨ps, hv, hnd, hrows⟩ := h
  obtain ⟨adz, h1, h2, h3⟩ := sents hi hrow hp he hft hfo hs hc hcs ns ps hv hg fun b off hm => (hrows b off hm).2
  have hnd2 := h3.nodup hnd
  have key : ∀ i : Nat, i < ns.length → ∃ a, adz[i]? = some a := fun i hi => ⟨_, List.getElem?_eq_getElem (by omega)⟩
  have hcell : ∀ (i : Nat) a, adz[i]? = some a → ∃ c : Array Value × TypeId, W.heap[a.block]? = some (.cells c.1 c.2 (0, 0)) := fun i a ha => by
    obtain ⟨c, t, hct⟩ := (hrows a.block a.off (h3.subset (List.mem_map.2 ⟨a, List.mem_of_getElem? ha, rfl⟩))).1
    exact ⟨(c, t), hct⟩
  classical
  refine ⟨fun k => adz.getD (k - 1) ⟨0, 0, none⟩, fun k => if hx : ∃ c : Array Value × TypeId, W.heap[(adz.getD (k - 1) ⟨0, 0, none⟩).block]? = some (.cells c.1 c.2 (0, 0)) then hx.choose else (#[], 0), fun i x hx => ?_, fun i j hi1 hi2 hj1 hj2 he => ?_⟩
  · obtain ⟨a, ha⟩ := key i (List.getElem?_eq_some_iff.1 hx).1
    have e : adz.getD (i + 1 - 1) ⟨0, 0, none⟩ = a := by simp [List.getD_eq_getElem?_getD, ha]
    have hh := hcell i a ha
    simp only [e]
    refine ⟨(h2 i x a hx ha).1, ?_⟩
    rw [dif_pos hh]
    exact hh.choose_spec
  · obtain ⟨a, ha⟩ := key (i - 1) (by omega)
    obtain ⟨b, hb⟩ := key (j - 1) (by omega)
    simp only [List.getD_eq_getElem?_getD, ha, hb, Option.getD_some] at he
    subst he
    have e1 : (adz.map fun a => MemPlace.cell a.block a.off)[i - 1]? = some (.cell a.block a.off) := by simp [ha]
    have e2 : (adz.map fun a => MemPlace.cell a.block a.off)[j - 1]? = some (.cell a.block a.off) := by simp [hb]
    have := (List.getElem?_inj (List.getElem?_eq_some_iff.1 e1).1 hnd2).1 (e1.trans e2.symm)
    omega
theorem trodAll_again (hl : laidOutB P = true) {W W' : World} {sp : Nat → Bool} (hb : Below W.heap.size W W') : ∀ {ts : List TypeId} {vs : List Value} {ds : List (DataW H)} {ps : List MemPlace},
    (∀ t ∈ ts, P.readableRec t = true ∧ t < P.types.size) → DataW.TrodAll enc P W 0 (fun _ => true) true ts vs ds ps → (∀ x ∈ ps, x.block < W.heap.size) → (∀ x ∈ ps, sp x.block = true) → DataW.TrodAll enc P W' 0 sp true ts vs ds ps
  | [], vs, ds, ps, _, h, _, _ => by
    obtain ⟨rfl, rfl, rfl⟩ := trodAll_nil h
    exact trodAll_mk0
  | t :: ts, vs, ds, ps, ht, h, hlt, hsp => by
    obtain ⟨v, vs', d, ds', p, q, rfl, rfl, rfl, h0, h1⟩ := trodAll_cons h
    obtain ⟨hr, hrow⟩ := ht t (List.mem_cons_self ..)
    refine trodAll_cons_mk (WideElems.Trod_stays hl hr hrow h0 (fun x hx => hb.same (hlt x (List.mem_append_left _ hx))) fun x hx => hsp x (List.mem_append_left _ hx)) ?_
    exact trodAll_again hl hb (fun t ht' => ht t (List.mem_cons_of_mem _ ht')) h1 (fun x hx => hlt x (List.mem_append_right _ hx)) fun x hx => hsp x (List.mem_append_right _ hx)
theorem law_post {f : Func} {s : ChangeSpec} {apart fresh handsOn again : Bool} {W W' : World} {args : Array Value} {ds gs : List (DataW H)} {before : List MemPlace} {tb : TypeId}
    (hl : laidOutB P = true) (hts : f.params.toList.all (fun t => P.readableRec t && Nat.blt t P.types.size) = true) (hb4 : P.underlying tb = some .bool) (hrt : f.resultTypes = #[tb]) (hvs : s.vars = [])
    (hW : DataW.Whole enc P f.params.toList s.vars apart W args.toList ds gs before) (hfn : ∀ gs, gs = [] → s.fn H (ds ++ gs) = { results := [.lit (.bool true)], args := ds })
    (hb : Below W.heap.size W W') : s.post enc P f apart fresh handsOn again W args (.bool true) W' := by
  have hlt : ∀ x ∈ before, x.block < W.heap.size := fun x hx => hW.lt x hx
  have hold : ∀ x ∈ before, (fun b => decide (b < W.heap.size)) x.block = true := fun x hx => by simpa using hlt x hx
  have hW' := hW
  obtain ⟨p, q, hA, hV, hpq, hz, hn⟩ := hW'
  rw [hvs] at hV
  obtain ⟨rfl, rfl⟩ := trodVars_none hV
  rw [List.append_nil] at hpq
  subst hpq
  have hfn := hfn [] rfl
  have htt : ∀ t ∈ f.params.toList, P.readableRec t = true ∧ t < P.types.size := fun t ht => by
    have := List.all_eq_true.1 hts t ht
    simp only [Bool.and_eq_true] at this
    exact ⟨this.1, Nat.lt_of_succ_le (Nat.le_of_ble_eq_true this.2)⟩
  have hres : ∀ (b : Nat) (sp : Nat → Bool) (hd : Bool), DataW.TrodAll enc P W' b sp hd f.resultTypes.toList ((Value.bool true).resultList f.resultTypes.size) (s.fn H (ds ++ [])).results [] := fun b sp hd => by
    rw [hfn, hrt]
    exact trodAll_mk1 ⟨1, by simp [DataW.trod, Value.cells, hb4]⟩
  have hargs : ∀ sp : Nat → Bool, (∀ x ∈ before, sp x.block = true) → DataW.TrodAll enc P W' 0 sp true f.params.toList args.toList (s.fn H (ds ++ [])).args before := fun sp hsp => by
    rw [hfn]
    exact trodAll_again hl hb htt hA hlt hsp
  have hvars : ∀ sp : Nat → Bool, DataW.TrodVars enc P W' sp s.vars (s.fn H (ds ++ [])).vars [] := fun sp => by
    rw [hvs, hfn]
    rfl
  refine ⟨ds, [], before, [], before, [], hW, hres _ _ _, hargs _ hold, hvars _, World.keptBut_mono (fun x hx => ⟨hx, .inr (.inl hx)⟩) (hb.frame (· ∈ before)), fun _ => ?_⟩
  refine ⟨?_, _, _, ([] ++ before) ++ [], ⟨[] ++ before, [], trodAll_append (hargs _ (fun _ _ => rfl)) (hres _ _ _), hvars _, rfl, ?_, ?_⟩, ?_⟩
  · intro j t r hj hv
    rw [hrt] at hj hv
    match j, hj, hv with
    | 0, hj, hv =>
      simp [Value.resultList] at hj hv
      subst hj; subst hv
      simp [Value.okWide, hb4, Cell.okWide, Cell.ok]
    | j + 1, hj, hv => simp at hj
  · intro b off hp
    have hin : MemPlace.cell b off ∈ before := by simpa using hp
    rw [hb.frozen (hlt _ hin)]
    exact hz b off hin
  · intro ha
    simpa using hn ha
  · intro x hx _
    simpa using hx
end
end Go.Sx
end
