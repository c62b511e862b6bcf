/- values.Name, causewayref1.IsName: is a text a name? -/
import Derived.Test.YtpjkiomccpjboaaGreatDoorDat
import Derived.Test.YtpjkiomccpjboaaGreatDoorTx13
import Derived.Test.YtpjkiomccpjboaaGreatDoorTk2
namespace Go.Proofs.YtpjkiomccpjboaaGreatDoor
open Go Go.Sx

def badC (c : Int) : Bool := ((decide (c < 97) || decide (122 < c)) && (decide (c < 48) || decide (57 < c))) && (c != 45)
def badL (l : List UInt8) : Bool := l.any fun b => badC b.toNat
def nameOk (s : ByteArray) : Bool := decide (1 ≤ s.size) && decide (s.size ≤ 16) && !badL s.data.toList

theorem name1 {w : World} {S : Nat → Prop} {c : Int} : Calls Tryz.prog 89 #[.int .u8 c] w fun e w' => Ret [] w S w' e (.bool (badC c)) [] [] := by
  refine ep89 (args := [.int .u8 c]) (G := []) (by kernel_rfl) (AllG.nil w S) ?_
  obtain h | h | h | h | h | h | h : c < 45 ∨ c = 45 ∨ (45 < c ∧ c < 48) ∨ (48 ≤ c ∧ c ≤ 57) ∨ (57 < c ∧ c < 97) ∨ (97 ≤ c ∧ c ≤ 122) ∨ 122 < c := by omega
  · have e : badC c = true := by simp [badC]; omega
    refine J_seq ?_
    refine J_reg mixed [.rd 0 [] 0 0] [] [0, 2] (E1 := fun _ => [(0, .val (.int .u8 c)), (2, .val (.bool false))]) (h1 := fun _ => []) (p1 := fun _ => []) (W1 := []) (by kernel_rfl) (fun _ => by kernel_rfl) (fun _ => trivial) (fun _ => ?_)
    refine J_seq ?_
    refine J_reg mixed [.rd 0 [] 0 0, .rd 1 [] 0 6, .rd 2 [] 0 0, .rd 3 [] 1 0, .rd 4 [] 1 0, .rd 5 [] 0 0, .rd 6 [] 0 0, .rd 7 [] 0 0, .rd 8 [] 0 6, .rd 9 [] 0 0, .rd 10 [] 1 0, .rd 11 [] 1 0, .rd 12 [] 0 0, .rd 13 [] 0 0, .rd 14 [] 0 0, .rd 15 [] 0 0, .rd 16 [] 0 6, .rd 17 [] 0 0, .rd 18 [] 0 0] [] [2] (E1 := fun _ => [(2, .val (.bool true))]) (h1 := fun _ => []) (p1 := fun _ => [decide (c < (97 : Int)) = true, decide (c < (48 : Int)) = true, (c != (45 : Int)) = true]) (W1 := []) (by kernel_rfl) (fun _ => by kernel_rfl) (fun _ => ⟨by simp; omega, by simp; omega, by simp; omega, trivial⟩) (fun _ => ?_)
    refine J_return [[]] (.bool true) (by kernel_rfl) (fun a w s => ?_)
    rw [e]
    exact s.ret (by simp) [] [] rfl rfl
  · subst h
    refine J_seq ?_
    refine J_reg mixed [.rd 0 [] 0 0] [] [0, 2] (E1 := fun _ => [(0, .val (.int .u8 45)), (2, .val (.bool false))]) (h1 := fun _ => []) (p1 := fun _ => []) (W1 := []) (by kernel_rfl) (fun _ => by kernel_rfl) (fun _ => trivial) (fun _ => ?_)
    refine J_seq ?_
    refine J_reg mixed [.rd 0 [] 0 0, .rd 1 [] 0 0, .rd 2 [] 0 0, .rd 3 [] 1 0, .rd 4 [] 1 0, .rd 5 [] 0 0, .rd 6 [] 0 0, .rd 7 [] 0 0, .rd 8 [] 0 0, .rd 9 [] 0 0, .rd 10 [] 1 0, .rd 11 [] 1 0, .rd 12 [] 0 0, .rd 13 [] 0 0, .rd 14 [] 0 0, .rd 15 [] 0 0, .rd 16 [] 0 0, .rd 17 [] 0 0, .rd 18 [] 0 0] [] [2] (E1 := fun _ => [(2, .val (.bool false))]) (h1 := fun _ => []) (p1 := fun _ => []) (W1 := []) (by kernel_rfl) (fun _ => by kernel_rfl) (fun _ => trivial) (fun _ => ?_)
    refine J_return [[]] (.bool false) (by kernel_rfl) (fun a w s => ?_)
    exact s.ret (by simp) [] [] rfl rfl
  · have e : badC c = true := by simp [badC]; omega
    refine J_seq ?_
    refine J_reg mixed [.rd 0 [] 0 0] [] [0, 2] (E1 := fun _ => [(0, .val (.int .u8 c)), (2, .val (.bool false))]) (h1 := fun _ => []) (p1 := fun _ => []) (W1 := []) (by kernel_rfl) (fun _ => by kernel_rfl) (fun _ => trivial) (fun _ => ?_)
    refine J_seq ?_
    refine J_reg mixed [.rd 0 [] 0 0, .rd 1 [] 0 6, .rd 2 [] 0 0, .rd 3 [] 1 0, .rd 4 [] 1 0, .rd 5 [] 0 0, .rd 6 [] 0 0, .rd 7 [] 0 0, .rd 8 [] 0 6, .rd 9 [] 0 0, .rd 10 [] 1 0, .rd 11 [] 1 0, .rd 12 [] 0 0, .rd 13 [] 0 0, .rd 14 [] 0 0, .rd 15 [] 0 0, .rd 16 [] 0 6, .rd 17 [] 0 0, .rd 18 [] 0 0] [] [2] (E1 := fun _ => [(2, .val (.bool true))]) (h1 := fun _ => []) (p1 := fun _ => [decide (c < (97 : Int)) = true, decide (c < (48 : Int)) = true, (c != (45 : Int)) = true]) (W1 := []) (by kernel_rfl) (fun _ => by kernel_rfl) (fun _ => ⟨by simp; omega, by simp; omega, by simp; omega, trivial⟩) (fun _ => ?_)
    refine J_return [[]] (.bool true) (by kernel_rfl) (fun a w s => ?_)
    rw [e]
    exact s.ret (by simp) [] [] rfl rfl
  · have e : badC c = false := by simp [badC]; omega
    refine J_seq ?_
    refine J_reg mixed [.rd 0 [] 0 0] [] [0, 2] (E1 := fun _ => [(0, .val (.int .u8 c)), (2, .val (.bool false))]) (h1 := fun _ => []) (p1 := fun _ => []) (W1 := []) (by kernel_rfl) (fun _ => by kernel_rfl) (fun _ => trivial) (fun _ => ?_)
    refine J_seq ?_
    refine J_reg mixed [.rd 0 [] 0 0, .rd 1 [] 0 6, .rd 2 [] 0 0, .rd 3 [] 1 0, .rd 4 [] 1 0, .rd 5 [] 0 0, .rd 6 [] 0 0, .rd 7 [] 0 0, .rd 8 [] 0 7, .rd 9 [] 0 0, .rd 10 [] 0 0, .rd 11 [] 0 7, .rd 12 [] 0 0, .rd 13 [] 0 0, .rd 14 [] 0 0, .rd 15 [] 1 0, .rd 16 [] 1 0, .rd 17 [] 0 0, .rd 18 [] 0 0] [] [2] (E1 := fun _ => [(2, .val (.bool false))]) (h1 := fun _ => []) (p1 := fun _ => [decide (c < (97 : Int)) = true, decide (c < (48 : Int)) = false, decide (c > (57 : Int)) = false]) (W1 := []) (by kernel_rfl) (fun _ => by kernel_rfl) (fun _ => ⟨by simp; omega, by simp; omega, by simp; omega, trivial⟩) (fun _ => ?_)
    refine J_return [[]] (.bool false) (by kernel_rfl) (fun a w s => ?_)
    rw [e]
    exact s.ret (by simp) [] [] rfl rfl
  · have e : badC c = true := by simp [badC]; omega
    refine J_seq ?_
    refine J_reg mixed [.rd 0 [] 0 0] [] [0, 2] (E1 := fun _ => [(0, .val (.int .u8 c)), (2, .val (.bool false))]) (h1 := fun _ => []) (p1 := fun _ => []) (W1 := []) (by kernel_rfl) (fun _ => by kernel_rfl) (fun _ => trivial) (fun _ => ?_)
    refine J_seq ?_
    refine J_reg mixed [.rd 0 [] 0 0, .rd 1 [] 0 6, .rd 2 [] 0 0, .rd 3 [] 1 0, .rd 4 [] 1 0, .rd 5 [] 0 0, .rd 6 [] 0 0, .rd 7 [] 0 0, .rd 8 [] 0 7, .rd 9 [] 0 0, .rd 10 [] 0 0, .rd 11 [] 0 6, .rd 12 [] 0 0, .rd 13 [] 0 0, .rd 14 [] 0 0, .rd 15 [] 0 0, .rd 16 [] 0 6, .rd 17 [] 0 0, .rd 18 [] 0 0] [] [2] (E1 := fun _ => [(2, .val (.bool true))]) (h1 := fun _ => []) (p1 := fun _ => [decide (c < (97 : Int)) = true, decide (c < (48 : Int)) = false, decide (c > (57 : Int)) = true, (c != (45 : Int)) = true]) (W1 := []) (by kernel_rfl) (fun _ => by kernel_rfl) (fun _ => ⟨by simp; omega, by simp; omega, by simp; omega, by simp; omega, trivial⟩) (fun _ => ?_)
    refine J_return [[]] (.bool true) (by kernel_rfl) (fun a w s => ?_)
    rw [e]
    exact s.ret (by simp) [] [] rfl rfl
  · have e : badC c = false := by simp [badC]; omega
    refine J_seq ?_
    refine J_reg mixed [.rd 0 [] 0 0] [] [0, 2] (E1 := fun _ => [(0, .val (.int .u8 c)), (2, .val (.bool false))]) (h1 := fun _ => []) (p1 := fun _ => []) (W1 := []) (by kernel_rfl) (fun _ => by kernel_rfl) (fun _ => trivial) (fun _ => ?_)
    refine J_seq ?_
    refine J_reg mixed [.rd 0 [] 0 0, .rd 1 [] 0 7, .rd 2 [] 0 0, .rd 3 [] 0 0, .rd 4 [] 0 7, .rd 5 [] 0 0, .rd 6 [] 0 0, .rd 7 [] 1 0, .rd 8 [] 1 0, .rd 9 [] 1 0, .rd 10 [] 1 0, .rd 11 [] 1 0, .rd 12 [] 1 0, .rd 13 [] 0 0, .rd 14 [] 0 0, .rd 15 [] 1 0, .rd 16 [] 1 0, .rd 17 [] 0 0, .rd 18 [] 0 0] [] [2] (E1 := fun _ => [(2, .val (.bool false))]) (h1 := fun _ => []) (p1 := fun _ => [decide (c < (97 : Int)) = false, decide (c > (122 : Int)) = false]) (W1 := []) (by kernel_rfl) (fun _ => by kernel_rfl) (fun _ => ⟨by simp; omega, by simp; omega, trivial⟩) (fun _ => ?_)
    refine J_return [[]] (.bool false) (by kernel_rfl) (fun a w s => ?_)
    rw [e]
    exact s.ret (by simp) [] [] rfl rfl
  · have e : badC c = true := by simp [badC]; omega
    refine J_seq ?_
    refine J_reg mixed [.rd 0 [] 0 0] [] [0, 2] (E1 := fun _ => [(0, .val (.int .u8 c)), (2, .val (.bool false))]) (h1 := fun _ => []) (p1 := fun _ => []) (W1 := []) (by kernel_rfl) (fun _ => by kernel_rfl) (fun _ => trivial) (fun _ => ?_)
    refine J_seq ?_
    refine J_reg mixed [.rd 0 [] 0 0, .rd 1 [] 0 7, .rd 2 [] 0 0, .rd 3 [] 0 0, .rd 4 [] 0 6, .rd 5 [] 0 0, .rd 6 [] 0 0, .rd 7 [] 0 0, .rd 8 [] 0 7, .rd 9 [] 0 0, .rd 10 [] 0 0, .rd 11 [] 0 6, .rd 12 [] 0 0, .rd 13 [] 0 0, .rd 14 [] 0 0, .rd 15 [] 0 0, .rd 16 [] 0 6, .rd 17 [] 0 0, .rd 18 [] 0 0] [] [2] (E1 := fun _ => [(2, .val (.bool true))]) (h1 := fun _ => []) (p1 := fun _ => [decide (c < (97 : Int)) = false, decide (c > (122 : Int)) = true, decide (c < (48 : Int)) = false, decide (c > (57 : Int)) = true, (c != (45 : Int)) = true]) (W1 := []) (by kernel_rfl) (fun _ => by kernel_rfl) (fun _ => ⟨by simp; omega, by simp; omega, by simp; omega, by simp; omega, by simp; omega, trivial⟩) (fun _ => ?_)
    refine J_return [[]] (.bool true) (by kernel_rfl) (fun a w s => ?_)
    rw [e]
    exact s.ret (by simp) [] [] rfl rfl

theorem indexBadB {w : World} {S : Nat → Prop} {a : Option Addr} {n c : Nat} {l : List UInt8} (h : Rep w S (.slice a n c) (.sl 1 (l.map eB))) (hl : l.length ≤ 1000000) :
    Calls Tryz.prog 120 #[.slice a n c, .func (.func 89) #[] #[]] w fun e w' => ∃ r, Ret [] w S w' e (.int .i64 r) [] [] ∧ decide (0 ≤ r) = badL l := by
  have e1 := h.slen
  rw [List.length_map] at e1
  subst e1
  refine ep120 (args := [.slice a l.length c, .func (.func 89) #[] #[]]) (G := [(_, .sl 1 (l.map eB))]) (by kernel_rfl) (.cons h (.nil _ _)) ?_
  refine J_seq ?_
  refine J_reg mixed [.rd 0 [] 0 0] [] [0, 1, 4] (E1 := fun _ => [(0, .val (.slice a l.length c)), (1, .val (.func (.func 89) #[] #[])), (4, .val (.int .i64 0))]) (h1 := fun _ => []) (p1 := fun _ => []) (W1 := []) (by kernel_rfl) (fun _ => by kernel_rfl) (fun _ => trivial) (fun _ => ?_)
  refine J_seq ?_
  refine J_seq ?_
  refine J_reg mixed [.rd 0 [] 0 0, .rd 1 [] 0 0, .rd 2 [] 0 0] [] [0, 1, 4, 7, 8] (E1 := fun _ => [(0, .val (.slice a l.length c)), (1, .val (.func (.func 89) #[] #[])), (4, .val (.int .i64 0)), (7, .val (.int .i64 (↑l.length : Int))), (8, .val (.int .i64 0))]) (h1 := fun _ => []) (p1 := fun _ => []) (W1 := []) (by kernel_rfl) (fun _ => by kernel_rfl) (fun _ => trivial) (fun _ => ?_)
  refine J_block ?_
  refine J_loopx (fun i : Int => [(0, .val (.slice a l.length c)), (1, .val (.func (.func 89) #[] #[])), (4, .val (.int .i64 0)), (7, .val (.int .i64 (↑l.length : Int))), (8, .val (.int .i64 i))]) (fun i : Int => []) (fun i : Int => []) (fun i : Int => [(.slice a l.length c, (D.sl 1 (List.map eB l)))]) (fun i : Int => (l.length - i).toNat) (fun i : Int => (0 ≤ i ∧ i ≤ l.length ∧ ∀ j : Nat, j < i.toNat → ∀ b, l[j]? = some b → badC b.toNat = false)) 0 [0, 1, 4, 7, 8] [] [] [0] ?_ (by kernel_rfl) rfl rfl rfl ?_
  · exact ⟨by simp, by omega, by simp⟩
  rintro i ⟨hi0, hi, hno⟩
  refine J_seq ?_
  refine J_reg mixed [.rd 0 [] 0 0] [] [0, 1, 4, 7, 8, 9] (E1 := fun _ => [(0, .val (.slice a l.length c)), (1, .val (.func (.func 89) #[] #[])), (4, .val (.int .i64 0)), (7, .val (.int .i64 (↑l.length : Int))), (8, .val (.int .i64 i)), (9, .val (.bool (decide (i < (↑l.length : Int)))))]) (h1 := fun _ => []) (p1 := fun _ => []) (W1 := []) (by kernel_rfl) (fun _ => by kernel_rfl) (fun _ => trivial) (fun _ => ?_)
  refine J_seq ?_
  refine J_cond (t := decide (i < (↑l.length : Int))) (by kernel_rfl) (by kernel_rfl) (fun hlt => ?_) (fun hlt => ?_)
  · have hlt2 : i < l.length := by simpa using hlt
    obtain ⟨x, hx⟩ : ∃ x, l[i.toNat]? = some x := ⟨_, List.getElem?_eq_getElem (by omega)⟩
    refine J_read0 0 rfl i.toNat (map_at hx) (by kernel_rfl) (fun b1 off1 cs1 ty1 fz1 ha1 hrd1 => ?_)
    cases ha1
    have hrd1_0 := rd0 (hrd1 0 _ rfl)
    try simp only [List.cons_append, List.nil_append, List.append_nil]
    refine J_skip ?_
    refine J_seq ?_
    refine J_block ?_
    refine J_seq ?_
    refine J_reg mixed [.rd 0 [] 0 0, .rd 1 [] 0 0] [] [0, 1, 4, 5, 7, 8] (E1 := fun _ => [(0, .val (.slice (some (⟨b1, off1, none⟩)) l.length c)), (1, .val (.func (.func 89) #[] #[])), (4, .val (.int .i64 0)), (5, .val (.int .i64 i)), (7, .val (.int .i64 (↑l.length : Int))), (8, .val (.int .i64 i))]) (h1 := fun _ => []) (p1 := fun _ => []) (W1 := []) (by kernel_rfl) (fun _ => by kernel_rfl) (fun _ => trivial) (fun _ => ?_)
    refine J_seq ?_
    refine JR_begin mixed [(0, true), (1, true), (2, true), (3, true), (4, true), (5, false)] [] (by kernel_rfl) (by kernel_rfl) ?_
    refine JR_run (id := 4) (rest := [(5, false)]) [.rd 0 [] 0 0, .rd 1 [] 0 0, .rd 2 [] 0 0, .rd 3 [] 0 2, .rd 4 [.r 0 (some (.int .u8 (↑x.toNat : Int)))] 0 0] [0, 1, 4, 5, 7, 8, 11, 15] (E1 := fun _ => [(0, .val (.slice (some (⟨b1, off1, none⟩)) l.length c)), (1, .val (.func (.func 89) #[] #[])), (4, .val (.int .i64 0)), (5, .val (.int .i64 i)), (7, .val (.int .i64 (↑l.length : Int))), (8, .val (.int .i64 i)), (11, .val (.func (.func 89) #[] #[])), (15, .val (.int .u8 (↑x.toNat : Int)))]) (h1 := fun _ => []) (p1 := fun _ => [(0 : Int) ≤ i, i < (↑l.length : Int), cs1[off1 + i.toNat * (1 : Nat)]? = some (Value.int IntKind.u8 (↑x.toNat : Int))]) (W1 := []) (fun _ => by kernel_rfl) (fun _ => ⟨hi0, hlt2, hrd1_0, trivial⟩) (fun _ => ?_)
    refine JR_callp [] 89 #[.int .u8 (↑x.toNat : Int)] (some 16) (by kernel_rfl) (fun w S hG => ?_)
    refine (name1 (S := S)).mono ?_
    rintro e w2 hR
    refine ⟨_, _, _, hR, ?_⟩
    try simp only [List.cons_append, List.nil_append, List.append_nil]
    refine JR_end ?_
    refine J_cond (t := badC (↑x.toNat : Int)) (by kernel_rfl) (by kernel_rfl) (fun hb => ?_) (fun hb => ?_)
    · refine J_seq ?_
      refine J_reg mixed [.rd 0 [] 0 0, .rd 1 [] 0 0] [] [0, 1, 4, 5, 7, 8, 11, 15] (E1 := fun _ => [(0, .val (.slice (some (⟨b1, off1, none⟩)) l.length c)), (1, .val (.func (.func 89) #[] #[])), (4, .val (.int .i64 i)), (5, .val (.int .i64 i)), (7, .val (.int .i64 (↑l.length : Int))), (8, .val (.int .i64 i)), (11, .val (.func (.func 89) #[] #[])), (15, .val (.int .u8 (↑x.toNat : Int)))]) (h1 := fun _ => []) (p1 := fun _ => []) (W1 := []) (by kernel_rfl) (fun _ => by kernel_rfl) (fun _ => trivial) (fun _ => ?_)
      refine J_return [[]] (.int .i64 i) (by kernel_rfl) (fun a w s => ?_)
      refine ⟨_, s.ret (by simp) [] [] rfl rfl, ?_⟩
      rw [show badL l = true from List.any_eq_true.2 ⟨x, List.mem_of_getElem? hx, hb⟩]
      simpa using hi0
    · refine J_skip ?_
      refine J_eb ?_
      refine J_reg mixed [.rd 0 [] 0 1, .rd 1 [] 0 0] [] [0, 1, 4, 5, 7, 8, 11, 15] (E1 := fun _ => [(0, .val (.slice (some (⟨b1, off1, none⟩)) l.length c)), (1, .val (.func (.func 89) #[] #[])), (4, .val (.int .i64 0)), (5, .val (.int .i64 i)), (7, .val (.int .i64 (↑l.length : Int))), (8, .val (.int .i64 (i + 1))), (11, .val (.func (.func 89) #[] #[])), (15, .val (.int .u8 (↑x.toNat : Int)))]) (h1 := fun _ => []) (p1 := fun _ => [IntKind.i64.wrap (i + (1 : Int)) = i + (1 : Int)]) (W1 := []) (by kernel_rfl) (fun _ => by kernel_rfl) (fun _ => ⟨wrap_i64 (by omega) (by omega), trivial⟩) (fun _ => ?_)
      refine J_backx (i + 1) [0, 1, 4, 7, 8] [] [] [0] ?_ ?_ (by kernel_rfl) rfl rfl rfl
      · refine ⟨by omega, by omega, fun j hj t ht => ?_⟩
        by_cases hji : j = i.toNat
        · subst hji
          rw [hx] at ht
          cases ht
          exact hb
        · exact hno j (by omega) t ht
      · omega
  · refine J_exit rfl ?_
    refine J_seq ?_
    refine J_reg mixed [.rd 0 [] 0 0] [] [4] (E1 := fun _ => [(4, .val (.int .i64 (-1)))]) (h1 := fun _ => []) (p1 := fun _ => []) (W1 := []) (by kernel_rfl) (fun _ => by kernel_rfl) (fun _ => trivial) (fun _ => ?_)
    refine J_return [[]] (.int .i64 (-1)) (by kernel_rfl) (fun a w s => ?_)
    refine ⟨_, s.ret (by simp) [] [] rfl rfl, ?_⟩
    have e : badL l = false := by
      unfold badL
      rw [List.any_eq_false]
      intro t ht
      obtain ⟨j, hj⟩ := List.getElem?_of_mem ht
      have hjl := (List.getElem?_eq_some_iff.1 hj).1
      simp [hno j (by simp at hlt; omega) t hj]
    rw [e]
    decide
theorem containsBadB {w : World} {S : Nat → Prop} {a : Option Addr} {n c : Nat} {l : List UInt8} (h : Rep w S (.slice a n c) (.sl 1 (l.map eB))) (hl : l.length ≤ 1000000) :
    Calls Tryz.prog 88 #[.slice a n c, .func (.func 89) #[] #[]] w fun e w' => Ret [] w S w' e (.bool (badL l)) [] [] := by
  refine ep88 (args := [.slice a n c, .func (.func 89) #[] #[]]) (G := [(_, .sl 1 (l.map eB))]) (by kernel_rfl) (.cons h (.nil _ _)) ?_
  refine J_seq ?_
  refine J_reg mixed [.rd 0 [] 0 0] [] [0, 1, 4] (E1 := fun _ => [(0, .val (.slice a n c)), (1, .val (.func (.func 89) #[] #[])), (4, .val (.bool false))]) (h1 := fun _ => []) (p1 := fun _ => []) (W1 := []) (by kernel_rfl) (fun _ => by kernel_rfl) (fun _ => trivial) (fun _ => ?_)
  refine J_seq ?_
  refine JR_begin mixed [(0, true), (1, true), (2, false), (3, true), (4, true)] [] (by kernel_rfl) (by kernel_rfl) ?_
  refine JR_run (id := 1) (rest := [(2, false), (3, true), (4, true)]) [.rd 0 [] 0 0, .rd 1 [] 0 0] [4, 5, 6] (E1 := fun _ => [(4, .val (.bool false)), (5, .val (.slice a n c)), (6, .val (.func (.func 89) #[] #[]))]) (h1 := fun _ => []) (p1 := fun _ => []) (W1 := []) (fun _ => by kernel_rfl) (fun _ => trivial) (fun _ => ?_)
  refine JR_callp [] 120 #[.slice a n c, .func (.func 89) #[] #[]] (some 7) (by kernel_rfl) (fun w S hG => ?_)
  refine (indexBadB (hG.at 0 rfl) hl).mono ?_
  rintro e w2 ⟨r, hR, hr⟩
  refine ⟨_, _, _, hR, ?_⟩
  try simp only [List.cons_append, List.nil_append, List.append_nil]
  refine JR_run (id := 1) (rest := []) [.rd 3 [] 0 0, .rd 4 [] 0 0] [4] (E1 := fun _ => [(4, .val (.bool (decide (r ≥ 0))))]) (h1 := fun _ => []) (p1 := fun _ => []) (W1 := []) (fun _ => by kernel_rfl) (fun _ => trivial) (fun _ => ?_)
  refine JR_end ?_
  refine J_return [[]] (.bool (decide (r ≥ 0))) (by kernel_rfl) (fun a w s => ?_)
  rw [← hr]
  exact s.ret (by simp) [] [] rfl rfl
theorem vName {w : World} {S : Nat → Prop} {s0 : ByteArray} : Calls Tryz.prog 54 #[.string s0] w fun e w' => Ret [] w S w' e (.bool (nameOk s0)) [] [] := by
  refine ep54 (args := [.string s0]) (G := []) (by kernel_rfl) (AllG.nil w S) ?_
  have hz : s0.data.toList.length = s0.size := by simp
  by_cases h1 : s0.size = 0
  · have hE0 : s0.toList = (ByteArray.mk #[]).toList := by
      rw [ByteArray.toList_eq, ByteArray.toList_eq]
      exact List.eq_nil_of_length_eq_zero (by omega)
    have hE : (!s0.toList == (ByteArray.mk #[]).toList) = false := by rw [hE0]; simp
    have e : nameOk s0 = false := by simp [nameOk, h1]
    refine J_seq ?_
    refine J_reg mixed [.rd 0 [] 0 0] [] [0, 2] (E1 := fun _ => [(0, .val (.string s0)), (2, .val (.bool false))]) (h1 := fun _ => []) (p1 := fun _ => []) (W1 := []) (by kernel_rfl) (fun _ => by kernel_rfl) (fun _ => trivial) (fun _ => ?_)
    refine J_seq ?_
    refine J_reg mixed [.rd 0 [] 0 0, .rd 1 [] 0 7, .rd 2 [] 0 0, .rd 3 [] 1 0, .rd 4 [] 1 0, .rd 5 [] 1 0, .rd 6 [] 0 0, .rd 7 [] 0 0, .rd 8 [] 1 0, .wr 9 [] 1, .wr 10 [] 1, .rd 11 [] 1 0, .rd 12 [] 0 0, .rd 13 [] 0 0] [] [2] (E1 := fun _ => [(2, .val (.bool false))]) (h1 := fun _ => []) (p1 := fun _ => [(!s0.toList == (ByteArray.mk #[]).toList) = false]) (W1 := []) (by kernel_rfl) (fun _ => by kernel_rfl) (fun _ => ⟨by assumption, trivial⟩) (fun _ => ?_)
    refine J_return [[]] (.bool false) (by kernel_rfl) (fun a w s => ?_)
    rw [e]
    exact s.ret (by simp) [] [] rfl rfl
  · have hE : (!s0.toList == (ByteArray.mk #[]).toList) = true := by
      rw [ByteArray.toList_eq, ByteArray.toList_eq]
      cases h : s0.data.toList with
      | nil => rw [h] at hz; exact absurd hz.symm h1
      | cons x l => rfl
    by_cases h2 : 16 < s0.size
    · have e : nameOk s0 = false := by simp [nameOk]; omega
      refine J_seq ?_
      refine J_reg mixed [.rd 0 [] 0 0] [] [0, 2] (E1 := fun _ => [(0, .val (.string s0)), (2, .val (.bool false))]) (h1 := fun _ => []) (p1 := fun _ => []) (W1 := []) (by kernel_rfl) (fun _ => by kernel_rfl) (fun _ => trivial) (fun _ => ?_)
      refine J_seq ?_
      refine J_reg mixed [.rd 0 [] 0 0, .rd 1 [] 0 6, .rd 2 [] 0 0, .rd 3 [] 0 0, .rd 4 [] 0 0, .rd 5 [] 0 7, .rd 6 [] 0 0, .rd 7 [] 0 0, .rd 8 [] 1 0, .wr 9 [] 1, .wr 10 [] 1, .rd 11 [] 1 0, .rd 12 [] 0 0, .rd 13 [] 0 0] [] [2] (E1 := fun _ => [(2, .val (.bool false))]) (h1 := fun _ => []) (p1 := fun _ => [(!s0.toList == (ByteArray.mk #[]).toList) = true, decide ((↑s0.size : Int) ≤ (16 : Int)) = false]) (W1 := []) (by kernel_rfl) (fun _ => by kernel_rfl) (fun _ => ⟨by assumption, by simp; omega, trivial⟩) (fun _ => ?_)
      refine J_return [[]] (.bool false) (by kernel_rfl) (fun a w s => ?_)
      rw [e]
      exact s.ret (by simp) [] [] rfl rfl
    · refine J_seq ?_
      refine J_reg mixed [.rd 0 [] 0 0] [] [0, 2] (E1 := fun _ => [(0, .val (.string s0)), (2, .val (.bool false))]) (h1 := fun _ => []) (p1 := fun _ => []) (W1 := []) (by kernel_rfl) (fun _ => by kernel_rfl) (fun _ => trivial) (fun _ => ?_)
      refine J_seq ?_
      refine JR_begin mixed [(0, true), (1, true), (2, true), (3, true), (4, true), (5, true), (6, true), (7, true), (8, true), (9, false), (10, false), (11, true), (12, true), (13, true)] [] (by kernel_rfl) (by kernel_rfl) ?_
      refine JR_run (id := 1) (rest := [(9, false), (10, false), (11, true), (12, true), (13, true)]) [.rd 0 [] 0 0, .rd 1 [] 0 6, .rd 2 [] 0 0, .rd 3 [] 0 0, .rd 4 [] 0 0, .rd 5 [] 0 6, .rd 6 [] 0 0, .rd 7 [] 0 0, .rd 8 [] 0 0] [2, 10, 11] (E1 := fun _ => [(2, .val (.bool false)), (10, .val (.bool true)), (11, .val (.string s0))]) (h1 := fun _ => []) (p1 := fun _ => [(!s0.toList == (ByteArray.mk #[]).toList) = true, decide ((↑s0.size : Int) ≤ (16 : Int)) = true]) (W1 := []) (fun _ => by kernel_rfl) (fun _ => ⟨by assumption, by simp; omega, trivial⟩) (fun _ => ?_)
      refine JR_bytes 9 147 5 s0 (some 12) (by kernel_rfl) (by kernel_rfl) (by kernel_rfl) (by kernel_rfl) (fun bg1 bc1 => ?_)
      try simp only [List.cons_append, List.nil_append, List.append_nil]
      refine JR_callp [] 88 #[.slice (some (⟨bg1, 0, none⟩)) s0.size bc1, .func (.func 89) #[] #[]] (some 13) (by kernel_rfl) (fun w S hG => ?_)
      refine (containsBadB (l := s0.data.toList) (hG.at 0 rfl) (by omega)).mono ?_
      rintro e w2 hR
      refine ⟨_, _, _, hR, ?_⟩
      have e : nameOk s0 = !badL s0.data.toList := by simp [nameOk]; omega
      rw [e]
      try simp only [List.cons_append, List.nil_append, List.append_nil]
      refine JR_run (id := 1) (rest := []) [.rd 11 [] 0 0, .rd 12 [] 0 0, .rd 13 [] 0 0] [2] (E1 := fun _ => [(2, .val (.bool (!badL s0.data.toList)))]) (h1 := fun _ => []) (p1 := fun _ => []) (W1 := []) (fun _ => by kernel_rfl) (fun _ => trivial) (fun _ => ?_)
      refine JR_end ?_
      refine J_return [[]] (.bool (!badL s0.data.toList)) (by kernel_rfl) (fun a w s => ?_)
      exact s.ret (by simp) [] [] rfl rfl
theorem isName {w : World} {S : Nat → Prop} {s0 : ByteArray} : Calls Tryz.prog 25 #[.string s0] w fun e w' => Ret [] w S w' e (.bool (nameOk s0)) [] [] := by
  refine ep25 (args := [.string s0]) (G := []) (by kernel_rfl) (AllG.nil w S) ?_
  refine J_seq ?_
  refine J_reg mixed [.rd 0 [] 0 0] [] [0, 2] (E1 := fun _ => [(0, .val (.string s0)), (2, .val (.bool false))]) (h1 := fun _ => []) (p1 := fun _ => []) (W1 := []) (by kernel_rfl) (fun _ => by kernel_rfl) (fun _ => trivial) (fun _ => ?_)
  refine J_seq ?_
  refine J_seq ?_
  refine J_reg mixed [.rd 0 [] 0 0, .rd 1 [] 0 0, .rd 2 [] 0 0, .rd 3 [] 0 0, .rd 4 [] 2 0, .rd 5 [] 2 0, .rd 6 [] 2 0, .rd 7 [] 0 3] [] [0, 2, 13] (E1 := fun _ => [(0, .val (.string s0)), (2, .val (.bool false)), (13, .val (.bool (decide ((↑s0.size : Int) < 1) || decide ((↑s0.size : Int) > 16))))]) (h1 := fun _ => []) (p1 := fun _ => []) (W1 := []) (by kernel_rfl) (fun _ => by kernel_rfl) (fun _ => trivial) (fun _ => ?_)
  refine J_cond (t := decide ((↑s0.size : Int) < 1) || decide ((↑s0.size : Int) > 16)) (by kernel_rfl) (by kernel_rfl) (fun hn => ?_) (fun hn => ?_)
  · have e : nameOk s0 = false := by simp at hn; simp [nameOk]; omega
    refine J_seq ?_
    refine J_reg mixed [.rd 0 [] 0 0] [] [0, 2] (E1 := fun _ => [(0, .val (.string s0)), (2, .val (.bool false))]) (h1 := fun _ => []) (p1 := fun _ => []) (W1 := []) (by kernel_rfl) (fun _ => by kernel_rfl) (fun _ => trivial) (fun _ => ?_)
    refine J_return [[]] (.bool false) (by kernel_rfl) (fun a w s => ?_)
    rw [e]
    exact s.ret (by simp) [] [] rfl rfl
  · have e : nameOk s0 = !badL s0.data.toList := by simp at hn; simp [nameOk]; omega
    rw [e]
    have hz : s0.data.toList.length = s0.size := by simp
    have h16 : s0.size ≤ 16 := by simp at hn; omega
    refine J_skip ?_
    refine J_seq ?_
    refine J_seq ?_
    refine J_reg mixed [.rd 0 [] 0 0] [] [0, 2, 3] (E1 := fun _ => [(0, .val (.string s0)), (2, .val (.bool false)), (3, .val (.int .i64 0))]) (h1 := fun _ => []) (p1 := fun _ => []) (W1 := []) (by kernel_rfl) (fun _ => by kernel_rfl) (fun _ => trivial) (fun _ => ?_)
    refine J_block ?_
    refine J_loopx (fun i : Int => [(0, .val (.string s0)), (2, .val (.bool false)), (3, .val (.int .i64 i))]) (fun i : Int => []) (fun i : Int => []) (fun i : Int => []) (fun i : Int => (s0.size - i).toNat) (fun i : Int => (0 ≤ i ∧ i ≤ s0.size ∧ ∀ j : Nat, j < i.toNat → ∀ b, s0.data.toList[j]? = some b → badC b.toNat = false)) 0 [0, 2, 3] [] [] [] ?_ (by kernel_rfl) rfl rfl rfl ?_
    · exact ⟨by simp, by omega, by simp⟩
    rintro i ⟨hi0, hi, hno⟩
    refine J_seq ?_
    refine J_seq ?_
    refine J_reg mixed [.rd 0 [] 0 0, .rd 1 [] 0 0, .rd 2 [] 0 0, .rd 3 [] 0 0] [] [0, 2, 3, 17] (E1 := fun _ => [(0, .val (.string s0)), (2, .val (.bool false)), (3, .val (.int .i64 i)), (17, .val (.bool (decide (i < (↑s0.size : Int)))))]) (h1 := fun _ => []) (p1 := fun _ => []) (W1 := []) (by kernel_rfl) (fun _ => by kernel_rfl) (fun _ => trivial) (fun _ => ?_)
    refine J_cond (t := decide (i < (↑s0.size : Int))) (by kernel_rfl) (by kernel_rfl) (fun hlt => ?_) (fun hlt => ?_)
    · have hlt2 : i < s0.size := by simpa using hlt
      obtain ⟨x, hx⟩ : ∃ x, s0.data.toList[i.toNat]? = some x := ⟨_, List.getElem?_eq_getElem (by omega)⟩
      refine J_skip ?_
      refine J_seq ?_
      refine J_block ?_
      refine J_seq ?_
      refine JR_begin mixed [(0, true), (1, true), (2, false), (3, true)] [] (by kernel_rfl) (by kernel_rfl) ?_
      refine JR_run (id := 6) (rest := [(2, false), (3, true)]) [.rd 0 [] 0 0, .rd 1 [] 0 0] [0, 2, 3, 20, 21] (E1 := fun _ => [(0, .val (.string s0)), (2, .val (.bool false)), (3, .val (.int .i64 i)), (20, .val (.string s0)), (21, .val (.int .i64 i))]) (h1 := fun _ => []) (p1 := fun _ => []) (W1 := []) (fun _ => by kernel_rfl) (fun _ => trivial) (fun _ => ?_)
      refine JR_idx 9 s0 i _ (some 22) (by kernel_rfl) (by kernel_rfl) hi0 hx ?_
      refine JR_run (id := 6) (rest := []) [.rd 3 [] 0 0] [0, 2, 3, 4] (E1 := fun _ => [(0, .val (.string s0)), (2, .val (.bool false)), (3, .val (.int .i64 i)), (4, .val (.int .u8 (↑x.toNat : Int)))]) (h1 := fun _ => []) (p1 := fun _ => []) (W1 := []) (fun _ => by kernel_rfl) (fun _ => trivial) (fun _ => ?_)
      refine JR_end ?_
      refine J_seq ?_
      have back : ∀ c : Int, c = (x.toNat : Int) → badC c = false → ∀ j : Nat, j < (i + 1).toNat → ∀ b, s0.data.toList[j]? = some b → badC b.toNat = false := fun c hc hcf j hj b hb => by
        by_cases hji : j = i.toNat
        · subst hji
          rw [hx] at hb
          cases hb
          rw [← hc]
          exact hcf
        · exact hno j (by omega) b hb
      have bad : ∀ c : Int, c = (x.toNat : Int) → badC c = true → badL s0.data.toList = true := fun c hc hcf => List.any_eq_true.2 ⟨x, List.mem_of_getElem? hx, by rw [← hc]; exact hcf⟩
      obtain ⟨c, hc⟩ : ∃ c : Int, c = (x.toNat : Int) := ⟨_, rfl⟩
      rw [← hc]
      obtain h | h | h | h | h | h | h : c < 45 ∨ c = 45 ∨ (45 < c ∧ c < 48) ∨ (48 ≤ c ∧ c ≤ 57) ∨ (57 < c ∧ c < 97) ∨ (97 ≤ c ∧ c ≤ 122) ∨ 122 < c := by omega
      · refine J_reg mixed [.rd 0 [] 0 0, .rd 1 [] 0 7, .rd 2 [] 0 0, .rd 3 [] 1 0, .rd 4 [] 1 0, .rd 5 [] 0 0, .rd 6 [] 0 0, .rd 7 [] 0 0, .rd 8 [] 0 7, .rd 9 [] 0 0, .rd 10 [] 1 0, .rd 11 [] 1 0, .rd 12 [] 0 0, .rd 13 [] 0 0, .rd 14 [] 0 0, .rd 15 [] 0 0, .rd 16 [] 0 7, .rd 17 [] 0 0, .rd 18 [] 0 0] [] [0, 2, 3, 4, 5] (E1 := fun _ => [(0, .val (.string s0)), (2, .val (.bool false)), (3, .val (.int .i64 i)), (4, .val (.int .u8 c)), (5, .val (.bool false))]) (h1 := fun _ => []) (p1 := fun _ => [decide (c ≥ (97 : Int)) = false, decide (c ≥ (48 : Int)) = false, (c == (45 : Int)) = false]) (W1 := []) (by kernel_rfl) (fun _ => by kernel_rfl) (fun _ => ⟨by simp; omega, by simp; omega, by simp; omega, trivial⟩) (fun _ => ?_)
        refine J_seq ?_
        refine J_reg mixed [.rd 0 [] 0 0, .rd 1 [] 0 0] [] [0, 2, 3, 4, 5, 42] (E1 := fun _ => [(0, .val (.string s0)), (2, .val (.bool false)), (3, .val (.int .i64 i)), (4, .val (.int .u8 c)), (5, .val (.bool false)), (42, .val (.bool true))]) (h1 := fun _ => []) (p1 := fun _ => []) (W1 := []) (by kernel_rfl) (fun _ => by kernel_rfl) (fun _ => trivial) (fun _ => ?_)
        refine J_cond_t (by kernel_rfl) (by kernel_rfl) ?_
        refine J_seq ?_
        refine J_reg mixed [.rd 0 [] 0 0] [] [0, 2, 3, 4, 5] (E1 := fun _ => [(0, .val (.string s0)), (2, .val (.bool false)), (3, .val (.int .i64 i)), (4, .val (.int .u8 c)), (5, .val (.bool false))]) (h1 := fun _ => []) (p1 := fun _ => []) (W1 := []) (by kernel_rfl) (fun _ => by kernel_rfl) (fun _ => trivial) (fun _ => ?_)
        refine J_return [[]] (.bool false) (by kernel_rfl) (fun a w s => ?_)
        rw [bad c hc (by simp [badC]; omega)]
        exact s.ret (by simp) [] [] rfl rfl
      · refine J_reg mixed [.rd 0 [] 0 0, .rd 1 [] 0 7, .rd 2 [] 0 0, .rd 3 [] 1 0, .rd 4 [] 1 0, .rd 5 [] 0 0, .rd 6 [] 0 0, .rd 7 [] 0 0, .rd 8 [] 0 7, .rd 9 [] 0 0, .rd 10 [] 1 0, .rd 11 [] 1 0, .rd 12 [] 0 0, .rd 13 [] 0 0, .rd 14 [] 0 0, .rd 15 [] 0 0, .rd 16 [] 0 6, .rd 17 [] 0 0, .rd 18 [] 0 0] [] [0, 2, 3, 4, 5] (E1 := fun _ => [(0, .val (.string s0)), (2, .val (.bool false)), (3, .val (.int .i64 i)), (4, .val (.int .u8 c)), (5, .val (.bool true))]) (h1 := fun _ => []) (p1 := fun _ => [decide (c ≥ (97 : Int)) = false, decide (c ≥ (48 : Int)) = false, (c == (45 : Int)) = true]) (W1 := []) (by kernel_rfl) (fun _ => by kernel_rfl) (fun _ => ⟨by simp; omega, by simp; omega, by simp; omega, trivial⟩) (fun _ => ?_)
        refine J_seq ?_
        refine J_reg mixed [.rd 0 [] 0 0, .rd 1 [] 0 0] [] [0, 2, 3, 4, 5, 42] (E1 := fun _ => [(0, .val (.string s0)), (2, .val (.bool false)), (3, .val (.int .i64 i)), (4, .val (.int .u8 c)), (5, .val (.bool true)), (42, .val (.bool false))]) (h1 := fun _ => []) (p1 := fun _ => []) (W1 := []) (by kernel_rfl) (fun _ => by kernel_rfl) (fun _ => trivial) (fun _ => ?_)
        refine J_cond_f (by kernel_rfl) (by kernel_rfl) ?_
        refine J_skip ?_
        refine J_eb ?_
        refine J_reg mixed [.rd 0 [] 0 0, .rd 1 [] 0 1, .rd 2 [] 0 0] [] [0, 2, 3, 4, 5] (E1 := fun _ => [(0, .val (.string s0)), (2, .val (.bool false)), (3, .val (.int .i64 (i + 1))), (4, .val (.int .u8 c)), (5, .val (.bool true))]) (h1 := fun _ => []) (p1 := fun _ => [IntKind.i64.wrap (i + (1 : Int)) = i + (1 : Int)]) (W1 := []) (by kernel_rfl) (fun _ => by kernel_rfl) (fun _ => ⟨wrap_i64 (by omega) (by omega), trivial⟩) (fun _ => ?_)
        refine J_backx (i + 1) [0, 2, 3] [] [] [] ?_ ?_ (by kernel_rfl) rfl rfl rfl
        · exact ⟨by omega, by omega, back c hc (by simp [badC]; omega)⟩
        · omega
      · refine J_reg mixed [.rd 0 [] 0 0, .rd 1 [] 0 7, .rd 2 [] 0 0, .rd 3 [] 1 0, .rd 4 [] 1 0, .rd 5 [] 0 0, .rd 6 [] 0 0, .rd 7 [] 0 0, .rd 8 [] 0 7, .rd 9 [] 0 0, .rd 10 [] 1 0, .rd 11 [] 1 0, .rd 12 [] 0 0, .rd 13 [] 0 0, .rd 14 [] 0 0, .rd 15 [] 0 0, .rd 16 [] 0 7, .rd 17 [] 0 0, .rd 18 [] 0 0] [] [0, 2, 3, 4, 5] (E1 := fun _ => [(0, .val (.string s0)), (2, .val (.bool false)), (3, .val (.int .i64 i)), (4, .val (.int .u8 c)), (5, .val (.bool false))]) (h1 := fun _ => []) (p1 := fun _ => [decide (c ≥ (97 : Int)) = false, decide (c ≥ (48 : Int)) = false, (c == (45 : Int)) = false]) (W1 := []) (by kernel_rfl) (fun _ => by kernel_rfl) (fun _ => ⟨by simp; omega, by simp; omega, by simp; omega, trivial⟩) (fun _ => ?_)
        refine J_seq ?_
        refine J_reg mixed [.rd 0 [] 0 0, .rd 1 [] 0 0] [] [0, 2, 3, 4, 5, 42] (E1 := fun _ => [(0, .val (.string s0)), (2, .val (.bool false)), (3, .val (.int .i64 i)), (4, .val (.int .u8 c)), (5, .val (.bool false)), (42, .val (.bool true))]) (h1 := fun _ => []) (p1 := fun _ => []) (W1 := []) (by kernel_rfl) (fun _ => by kernel_rfl) (fun _ => trivial) (fun _ => ?_)
        refine J_cond_t (by kernel_rfl) (by kernel_rfl) ?_
        refine J_seq ?_
        refine J_reg mixed [.rd 0 [] 0 0] [] [0, 2, 3, 4, 5] (E1 := fun _ => [(0, .val (.string s0)), (2, .val (.bool false)), (3, .val (.int .i64 i)), (4, .val (.int .u8 c)), (5, .val (.bool false))]) (h1 := fun _ => []) (p1 := fun _ => []) (W1 := []) (by kernel_rfl) (fun _ => by kernel_rfl) (fun _ => trivial) (fun _ => ?_)
        refine J_return [[]] (.bool false) (by kernel_rfl) (fun a w s => ?_)
        rw [bad c hc (by simp [badC]; omega)]
        exact s.ret (by simp) [] [] rfl rfl
      · refine J_reg mixed [.rd 0 [] 0 0, .rd 1 [] 0 7, .rd 2 [] 0 0, .rd 3 [] 1 0, .rd 4 [] 1 0, .rd 5 [] 0 0, .rd 6 [] 0 0, .rd 7 [] 0 0, .rd 8 [] 0 6, .rd 9 [] 0 0, .rd 10 [] 0 0, .rd 11 [] 0 6, .rd 12 [] 0 0, .rd 13 [] 0 0, .rd 14 [] 0 0, .rd 15 [] 1 0, .rd 16 [] 1 0, .rd 17 [] 0 0, .rd 18 [] 0 0] [] [0, 2, 3, 4, 5] (E1 := fun _ => [(0, .val (.string s0)), (2, .val (.bool false)), (3, .val (.int .i64 i)), (4, .val (.int .u8 c)), (5, .val (.bool true))]) (h1 := fun _ => []) (p1 := fun _ => [decide (c ≥ (97 : Int)) = false, decide (c ≥ (48 : Int)) = true, decide (c ≤ (57 : Int)) = true]) (W1 := []) (by kernel_rfl) (fun _ => by kernel_rfl) (fun _ => ⟨by simp; omega, by simp; omega, by simp; omega, trivial⟩) (fun _ => ?_)
        refine J_seq ?_
        refine J_reg mixed [.rd 0 [] 0 0, .rd 1 [] 0 0] [] [0, 2, 3, 4, 5, 42] (E1 := fun _ => [(0, .val (.string s0)), (2, .val (.bool false)), (3, .val (.int .i64 i)), (4, .val (.int .u8 c)), (5, .val (.bool true)), (42, .val (.bool false))]) (h1 := fun _ => []) (p1 := fun _ => []) (W1 := []) (by kernel_rfl) (fun _ => by kernel_rfl) (fun _ => trivial) (fun _ => ?_)
        refine J_cond_f (by kernel_rfl) (by kernel_rfl) ?_
        refine J_skip ?_
        refine J_eb ?_
        refine J_reg mixed [.rd 0 [] 0 0, .rd 1 [] 0 1, .rd 2 [] 0 0] [] [0, 2, 3, 4, 5] (E1 := fun _ => [(0, .val (.string s0)), (2, .val (.bool false)), (3, .val (.int .i64 (i + 1))), (4, .val (.int .u8 c)), (5, .val (.bool true))]) (h1 := fun _ => []) (p1 := fun _ => [IntKind.i64.wrap (i + (1 : Int)) = i + (1 : Int)]) (W1 := []) (by kernel_rfl) (fun _ => by kernel_rfl) (fun _ => ⟨wrap_i64 (by omega) (by omega), trivial⟩) (fun _ => ?_)
        refine J_backx (i + 1) [0, 2, 3] [] [] [] ?_ ?_ (by kernel_rfl) rfl rfl rfl
        · exact ⟨by omega, by omega, back c hc (by simp [badC]; omega)⟩
        · omega
      · refine J_reg mixed [.rd 0 [] 0 0, .rd 1 [] 0 7, .rd 2 [] 0 0, .rd 3 [] 1 0, .rd 4 [] 1 0, .rd 5 [] 0 0, .rd 6 [] 0 0, .rd 7 [] 0 0, .rd 8 [] 0 6, .rd 9 [] 0 0, .rd 10 [] 0 0, .rd 11 [] 0 7, .rd 12 [] 0 0, .rd 13 [] 0 0, .rd 14 [] 0 0, .rd 15 [] 0 0, .rd 16 [] 0 7, .rd 17 [] 0 0, .rd 18 [] 0 0] [] [0, 2, 3, 4, 5] (E1 := fun _ => [(0, .val (.string s0)), (2, .val (.bool false)), (3, .val (.int .i64 i)), (4, .val (.int .u8 c)), (5, .val (.bool false))]) (h1 := fun _ => []) (p1 := fun _ => [decide (c ≥ (97 : Int)) = false, decide (c ≥ (48 : Int)) = true, decide (c ≤ (57 : Int)) = false, (c == (45 : Int)) = false]) (W1 := []) (by kernel_rfl) (fun _ => by kernel_rfl) (fun _ => ⟨by simp; omega, by simp; omega, by simp; omega, by simp; omega, trivial⟩) (fun _ => ?_)
        refine J_seq ?_
        refine J_reg mixed [.rd 0 [] 0 0, .rd 1 [] 0 0] [] [0, 2, 3, 4, 5, 42] (E1 := fun _ => [(0, .val (.string s0)), (2, .val (.bool false)), (3, .val (.int .i64 i)), (4, .val (.int .u8 c)), (5, .val (.bool false)), (42, .val (.bool true))]) (h1 := fun _ => []) (p1 := fun _ => []) (W1 := []) (by kernel_rfl) (fun _ => by kernel_rfl) (fun _ => trivial) (fun _ => ?_)
        refine J_cond_t (by kernel_rfl) (by kernel_rfl) ?_
        refine J_seq ?_
        refine J_reg mixed [.rd 0 [] 0 0] [] [0, 2, 3, 4, 5] (E1 := fun _ => [(0, .val (.string s0)), (2, .val (.bool false)), (3, .val (.int .i64 i)), (4, .val (.int .u8 c)), (5, .val (.bool false))]) (h1 := fun _ => []) (p1 := fun _ => []) (W1 := []) (by kernel_rfl) (fun _ => by kernel_rfl) (fun _ => trivial) (fun _ => ?_)
        refine J_return [[]] (.bool false) (by kernel_rfl) (fun a w s => ?_)
        rw [bad c hc (by simp [badC]; omega)]
        exact s.ret (by simp) [] [] rfl rfl
      · refine J_reg mixed [.rd 0 [] 0 0, .rd 1 [] 0 6, .rd 2 [] 0 0, .rd 3 [] 0 0, .rd 4 [] 0 6, .rd 5 [] 0 0, .rd 6 [] 0 0, .rd 7 [] 1 0, .rd 8 [] 1 0, .rd 9 [] 1 0, .rd 10 [] 1 0, .rd 11 [] 1 0, .rd 12 [] 1 0, .rd 13 [] 0 0, .rd 14 [] 0 0, .rd 15 [] 1 0, .rd 16 [] 1 0, .rd 17 [] 0 0, .rd 18 [] 0 0] [] [0, 2, 3, 4, 5] (E1 := fun _ => [(0, .val (.string s0)), (2, .val (.bool false)), (3, .val (.int .i64 i)), (4, .val (.int .u8 c)), (5, .val (.bool true))]) (h1 := fun _ => []) (p1 := fun _ => [decide (c ≥ (97 : Int)) = true, decide (c ≤ (122 : Int)) = true]) (W1 := []) (by kernel_rfl) (fun _ => by kernel_rfl) (fun _ => ⟨by simp; omega, by simp; omega, trivial⟩) (fun _ => ?_)
        refine J_seq ?_
        refine J_reg mixed [.rd 0 [] 0 0, .rd 1 [] 0 0] [] [0, 2, 3, 4, 5, 42] (E1 := fun _ => [(0, .val (.string s0)), (2, .val (.bool false)), (3, .val (.int .i64 i)), (4, .val (.int .u8 c)), (5, .val (.bool true)), (42, .val (.bool false))]) (h1 := fun _ => []) (p1 := fun _ => []) (W1 := []) (by kernel_rfl) (fun _ => by kernel_rfl) (fun _ => trivial) (fun _ => ?_)
        refine J_cond_f (by kernel_rfl) (by kernel_rfl) ?_
        refine J_skip ?_
        refine J_eb ?_
        refine J_reg mixed [.rd 0 [] 0 0, .rd 1 [] 0 1, .rd 2 [] 0 0] [] [0, 2, 3, 4, 5] (E1 := fun _ => [(0, .val (.string s0)), (2, .val (.bool false)), (3, .val (.int .i64 (i + 1))), (4, .val (.int .u8 c)), (5, .val (.bool true))]) (h1 := fun _ => []) (p1 := fun _ => [IntKind.i64.wrap (i + (1 : Int)) = i + (1 : Int)]) (W1 := []) (by kernel_rfl) (fun _ => by kernel_rfl) (fun _ => ⟨wrap_i64 (by omega) (by omega), trivial⟩) (fun _ => ?_)
        refine J_backx (i + 1) [0, 2, 3] [] [] [] ?_ ?_ (by kernel_rfl) rfl rfl rfl
        · exact ⟨by omega, by omega, back c hc (by simp [badC]; omega)⟩
        · omega
      · refine J_reg mixed [.rd 0 [] 0 0, .rd 1 [] 0 6, .rd 2 [] 0 0, .rd 3 [] 0 0, .rd 4 [] 0 7, .rd 5 [] 0 0, .rd 6 [] 0 0, .rd 7 [] 0 0, .rd 8 [] 0 6, .rd 9 [] 0 0, .rd 10 [] 0 0, .rd 11 [] 0 7, .rd 12 [] 0 0, .rd 13 [] 0 0, .rd 14 [] 0 0, .rd 15 [] 0 0, .rd 16 [] 0 7, .rd 17 [] 0 0, .rd 18 [] 0 0] [] [0, 2, 3, 4, 5] (E1 := fun _ => [(0, .val (.string s0)), (2, .val (.bool false)), (3, .val (.int .i64 i)), (4, .val (.int .u8 c)), (5, .val (.bool false))]) (h1 := fun _ => []) (p1 := fun _ => [decide (c ≥ (97 : Int)) = true, decide (c ≤ (122 : Int)) = false, decide (c ≥ (48 : Int)) = true, decide (c ≤ (57 : Int)) = false, (c == (45 : Int)) = false]) (W1 := []) (by kernel_rfl) (fun _ => by kernel_rfl) (fun _ => ⟨by simp; omega, by simp; omega, by simp; omega, by simp; omega, by simp; omega, trivial⟩) (fun _ => ?_)
        refine J_seq ?_
        refine J_reg mixed [.rd 0 [] 0 0, .rd 1 [] 0 0] [] [0, 2, 3, 4, 5, 42] (E1 := fun _ => [(0, .val (.string s0)), (2, .val (.bool false)), (3, .val (.int .i64 i)), (4, .val (.int .u8 c)), (5, .val (.bool false)), (42, .val (.bool true))]) (h1 := fun _ => []) (p1 := fun _ => []) (W1 := []) (by kernel_rfl) (fun _ => by kernel_rfl) (fun _ => trivial) (fun _ => ?_)
        refine J_cond_t (by kernel_rfl) (by kernel_rfl) ?_
        refine J_seq ?_
        refine J_reg mixed [.rd 0 [] 0 0] [] [0, 2, 3, 4, 5] (E1 := fun _ => [(0, .val (.string s0)), (2, .val (.bool false)), (3, .val (.int .i64 i)), (4, .val (.int .u8 c)), (5, .val (.bool false))]) (h1 := fun _ => []) (p1 := fun _ => []) (W1 := []) (by kernel_rfl) (fun _ => by kernel_rfl) (fun _ => trivial) (fun _ => ?_)
        refine J_return [[]] (.bool false) (by kernel_rfl) (fun a w s => ?_)
        rw [bad c hc (by simp [badC]; omega)]
        exact s.ret (by simp) [] [] rfl rfl
    · have e2 : badL s0.data.toList = false := by
        unfold badL
        rw [List.any_eq_false]
        intro t ht
        obtain ⟨j, hj⟩ := List.getElem?_of_mem ht
        have hjl := (List.getElem?_eq_some_iff.1 hj).1
        simp [hno j (by simp at hlt; omega) t hj]
      refine J_exit rfl ?_
      refine J_seq ?_
      refine J_reg mixed [.rd 0 [] 0 0] [] [2] (E1 := fun _ => [(2, .val (.bool true))]) (h1 := fun _ => []) (p1 := fun _ => []) (W1 := []) (by kernel_rfl) (fun _ => by kernel_rfl) (fun _ => trivial) (fun _ => ?_)
      refine J_return [[]] (.bool true) (by kernel_rfl) (fun a w s => ?_)
      rw [e2]
      exact s.ret (by simp) [] [] rfl rfl
end Go.Proofs.YtpjkiomccpjboaaGreatDoor
