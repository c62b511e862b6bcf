/- Part 5 of the texts of a claim: Same Clone EqDot Tx15 Tx16 Name Vec1 Vec2 Vec3 Errs. -/
import Derived.Test.YtehdegekgdlifaaDoorProg
import Derived.WalkKit
import Derived.LaidEql
import Derived.Stop.Asserts
import Derived.RowKitTokens
import Derived.Test.YtehdegekgdlifaaDoorTa4
section
namespace Go.Proofs.YtehdegekgdlifaaDoor
open Go Go.Sx
set_option maxHeartbeats 4000000 in
theorem sameInts {w : World} {S : Nat → Prop} {a b : Option Addr} {n m c d : Nat} {xs ys : List Int} (ha : Rep w S (.slice a n c) (dInts xs)) (hb : Rep w S (.slice b m d) (dInts ys)) (hm : xs.length ≤ 1000000) :
    Calls Tryd.prog 11 #[.slice a n c, .slice b m d] w fun e w' => Ret [] w S w' e (.bool (decide (xs = ys))) [] [] := by
  obtain rfl := rep_ints_len ha
  obtain rfl := rep_ints_len hb
  refine ep11 (args := [.slice a xs.length c, .slice b ys.length d]) (G := [(_, dInts xs), (_, dInts ys)]) (by kernel_rfl) (.cons ha (.cons hb (.nil _ _))) ?_
  refine J_seq ?_
  refine Za [.rd 0 [] 0 0] [] [(4, .val (.bool false))] ?_
  refine J_seq ?_
  refine J_seq ?_
  refine Za (Rds 0 5) [] [(10, .val (.bool ((↑xs.length : Int) != (↑ys.length : Int))))] ?_
  refine J_cond (t := (↑xs.length : Int) != (↑ys.length : Int)) (by kernel_rfl) (by kernel_rfl) (fun h => ?_) (fun h => ?_)
  · refine J_seq ?_
    refine Za [.rd 0 [] 0 0] [10] [] ?_
    refine Yr [[]] (.bool false) fun a w s => ?_
    have e : decide (xs = ys) = false := by
      simp only [decide_eq_false_iff_not]
      rintro rfl
      simp at h
    rw [e]
    exact s.ret (by simp) [] [] rfl rfl
  · have hl : xs.length = ys.length := by simp at h; omega
    refine J_skip ?_
    refine J_seq ?_
    refine J_seq ?_
    refine Za [.rd 0 [] 0 0] [10] [(5, .val (.int .i64 0))] ?_
    refine J_block ?_
    refine J_loopx (fun i : Int => [(0, .val (.slice a xs.length c)), (1, .val (.slice b ys.length d)), (4, .val (.bool false)), (5, .val (.int .i64 i))]) (fun i : Int => []) (fun i : Int => []) (fun i : Int => [(.slice a xs.length c, (dInts xs)), (.slice b ys.length d, (dInts ys))]) (fun i : Int => (xs.length - i).toNat) (fun i : Int => (0 ≤ i ∧ i ≤ xs.length ∧ ∀ j : Nat, j < i.toNat → xs[j]? = ys[j]?)) 0 [0, 1, 4, 5] [] [] [0, 1] ?_ (by kernel_rfl) rfl rfl rfl ?_
    · exact ⟨by simp, by omega, by simp⟩
    rintro i ⟨hi0, hi, hsame⟩
    refine J_seq ?_
    refine J_seq ?_
    refine Za (Rds 0 4) [] [(14, .val (.bool (decide (i < (↑xs.length : Int)))))] ?_
    refine J_cond (t := decide (i < (↑xs.length : Int))) (by kernel_rfl) (by kernel_rfl) (fun hlt => ?_) (fun hlt => ?_)
    · have hlt2 : i < xs.length := by simpa using hlt
      obtain ⟨x, hx⟩ : ∃ x, xs[i.toNat]? = some x := ⟨_, List.getElem?_eq_getElem (by omega)⟩
      obtain ⟨y, hy⟩ : ∃ y, ys[i.toNat]? = some y := ⟨_, List.getElem?_eq_getElem (by omega)⟩
      refine J_read0 0 rfl i.toNat (map_at hx) (by kernel_rfl) (fun b1 off1 cs1 ty1 fz1 ha1 hrd1 => ?_)
      cases ha1
      have hrd1_0 := rd0 (hrd1 0 _ rfl)
      refine J_read0 1 rfl i.toNat (map_at hy) (by kernel_rfl) (fun b2 off2 cs2 ty2 fz2 ha2 hrd2 => ?_)
      cases ha2
      have hrd2_0 := rd0 (hrd2 0 _ rfl)
      try simp only [aQ]
      refine J_skip ?_
      refine J_seq ?_
      refine J_block ?_
      refine J_seq ?_
      refine Zp [.rd 0 [] 0 0, .rd 1 [] 0 0, .rd 2 [] 0 2, .rd 3 [.r 0 (some (.int .i64 x))] 0 0, .rd 4 [] 0 0, .rd 5 [] 0 0, .rd 6 [] 0 2, .rd 7 [.r 1 (some (.int .i64 y))] 0 0, .rd 8 [] 0 0] [14] [(25, .val (.bool (x != y)))] [(0 : Int) ≤ i, i < (↑xs.length : Int), cs1[off1 + i.toNat * (1 : Nat)]? = some (Value.int IntKind.i64 x), (0 : Int) ≤ i, i < (↑ys.length : Int), cs2[off2 + i.toNat * (1 : Nat)]? = some (Value.int IntKind.i64 y)] ⟨hi0, hlt2, hrd1_0, hi0, by omega, hrd2_0, trivial⟩ ?_
      refine J_cond (t := x != y) (by kernel_rfl) (by kernel_rfl) (fun hne => ?_) (fun hne => ?_)
      · refine J_seq ?_
        refine Za [.rd 0 [] 0 0] [25] [] ?_
        refine Yr [[]] (.bool false) fun a w s => ?_
        have e : decide (xs = ys) = false := by
          simp only [decide_eq_false_iff_not]
          rintro rfl
          rw [hx] at hy
          cases hy
          simp at hne
        rw [e]
        exact s.ret (by simp) [] [] rfl rfl
      · refine J_skip ?_
        refine J_eb ?_
        refine Zp [.rd 0 [] 0 0, .rd 1 [] 0 1, .rd 2 [] 0 0] [25] [(5, .val (.int .i64 (i + 1)))] [IntKind.i64.wrap (i + (1 : Int)) = i + (1 : Int)] ⟨wrap_i64 (by omega) (by omega), trivial⟩ ?_
        refine J_backx (i + 1) [0, 1, 4, 5] [] [] [0, 1] ?_ ?_ (by kernel_rfl) rfl rfl rfl
        · refine ⟨by omega, by omega, fun j hj => ?_⟩
          by_cases hji : j = i.toNat
          · subst hji
            rw [hx, hy]
            simpa using hne
          · exact hsame j (by omega)
        · omega
    · refine J_exit rfl ?_
      refine J_seq ?_
      refine Za [.rd 0 [] 0 0] [14, 0, 1, 5] [(4, .val (.bool true))] ?_
      refine Yr [[]] (.bool true) fun a w s => ?_
      have e : decide (xs = ys) = true := by
        simp only [decide_eq_true_eq]
        apply List.ext_getElem?
        intro j
        by_cases hj : j < xs.length
        · exact hsame j (by simp at hlt; omega)
        · rw [List.getElem?_eq_none (by omega), List.getElem?_eq_none (by omega)]
      rw [e]
      exact s.ret (by simp) [] [] rfl rfl
end Go.Proofs.YtehdegekgdlifaaDoor
end
section
namespace Go.Proofs.YtehdegekgdlifaaDoor
open Go Go.Sx
set_option maxHeartbeats 4000000 in
theorem rep_none {w : World} {S : Nat → Prop} {n c k : Nat} {rows : List (List D)} (h : Rep w S (.slice none n c) (.sl k rows)) : rows = [] := by cases h; rfl
set_option maxHeartbeats 4000000 in
theorem cloneInts {w0 : World} {S : Nat → Prop} {a : Option Addr} {n c : Nat} {xs : List Int} (ha : Rep w0 S (.slice a n c) (.sl 1 (xs.map eI))) (hl : xs.length ≤ 1000000) :
    Calls Tryd.prog 34 #[.slice a n c] w0 fun e w' => ∃ a' c', Ret [] w0 S w' e (.slice a' n c') [cAcc (.slice a' n c') 3 1 (xs.map eI)] [] := by
  have hlen := ha.slen
  rw [List.length_map] at hlen
  subst hlen
  cases a with
  | none =>
    have h0 : xs = [] := by simpa using rep_none ha
    subst h0
    refine ep34 (args := [.slice none ([] : List Int).length c]) (S := S) (G := []) (by kernel_rfl) (.nil _ _) ?_
    refine J_stp (stp_accm eI 3 1) ?_
    try simp only [aQ]
    refine J_seq ?_
    refine Za [.rd 0 [] 0 0] [] [(2, .val (.slice none 0 0))] ?_
    refine J_seq ?_
    refine J_seq ?_
    refine Za [.rd 0 [] 0 0, .rd 1 [] 0 0] [] [(4, .val (.bool true))] ?_
    refine J_cond_t (by kernel_rfl) (by kernel_rfl) ?_
    refine J_seq ?_
    refine Za [.rd 0 [] 0 0] [4] [] ?_
    refine Yr [[]] (.slice none 0 0) fun a w s => ?_
    exact ⟨none, 0, s.ret (by simp) [0] [] rfl rfl⟩
  | some ad =>
    refine ep34 (args := [.slice (some ad) xs.length c]) (G := [(_, .sl 1 (xs.map eI))]) (by kernel_rfl) (.cons ha (.nil _ _)) ?_
    refine J_seq ?_
    refine Za [.rd 0 [] 0 0] [] [(2, .val (.slice none 0 0))] ?_
    refine J_seq ?_
    refine J_seq ?_
    refine Za [.rd 0 [] 0 0, .rd 1 [] 0 0] [] [(4, .val (.bool false))] ?_
    refine J_cond_f (by kernel_rfl) (by kernel_rfl) ?_
    refine J_skip ?_
    refine J_seq ?_
    refine jT [(0, false), (1, true), (2, false), (3, true)] [] ?_
    refine Ym (id := 3) (rest := [(2, false), (3, true)]) [.wr 0 [] 0, .rd 1 [] 0 0] [4, 0] (fun nu1 => [(5, .val (.slice (some (⟨nu1 0, 0, none⟩)) 0 0)), (6, .val (.slice (some ad) xs.length c))]) (fun nu1 => [(nu1 0, .cells #[] 3 (0, 0))]) [] (fun nu1 => ?_)
    refine JR_acczm eI 0 1 rfl (by kernel_rfl) (by decide) ?_
    refine JR_appm 0 34 3 1 8 (.int .i64 0) (a0 := (some (⟨nu1 0, 0, none⟩))) (len := 0) (cap0 := 0) (ax := (some ad)) (m := xs.length) (c := c) (dst := (some 7)) xs (by kernel_rfl) (by kernel_rfl) (by kernel_rfl) (by kernel_rfl) rfl (by decide) rfl (fun _ _ _ s => src_fact s 0 rfl (by decide)) (by simp only [maxLen]; omega) (by omega) (fun av1 cv1 => ?_)
    rw [Nat.zero_add]
    try simp only [aQ]
    refine Ya (id := 3) (rest := []) [.rd 3 [] 0 0] [7, 5, 6] [(2, .val (.slice av1 xs.length cv1))] ?_
    try simp only [aQ]
    refine JR_end ?_
    try simp only [aQ]
    refine Yr [[]] (.slice av1 xs.length cv1) fun a w s => ?_
    exact ⟨_, _, s.ret (by simp) [0] [] rfl rfl⟩
set_option maxHeartbeats 4000000 in
theorem cloneOps {w0 : World} {S : Nat → Prop} {a : Option Addr} {n c : Nat} {xs : List OpT} (ha : Rep w0 S (.slice a n c) (.sl 7 (xs.map eOp))) (hl : xs.length ≤ 1000000) :
    Calls Tryd.prog 35 #[.slice a n c] w0 fun e w' => ∃ a' c', Ret [] w0 S w' e (.slice a' n c') [cAcc (.slice a' n c') 43 7 (xs.map eOp)] [] := by
  have hlen := ha.slen
  rw [List.length_map] at hlen
  subst hlen
  cases a with
  | none =>
    have h0 : xs = [] := by simpa using rep_none ha
    subst h0
    refine ep35 (args := [.slice none ([] : List OpT).length c]) (S := S) (G := []) (by kernel_rfl) (.nil _ _) ?_
    refine J_stp (stp_accm eOp 43 7) ?_
    try simp only [aQ]
    refine J_seq ?_
    refine Za [.rd 0 [] 0 0] [] [(2, .val (.slice none 0 0))] ?_
    refine J_seq ?_
    refine J_seq ?_
    refine Za [.rd 0 [] 0 0, .rd 1 [] 0 0] [] [(4, .val (.bool true))] ?_
    refine J_cond_t (by kernel_rfl) (by kernel_rfl) ?_
    refine J_seq ?_
    refine Za [.rd 0 [] 0 0] [4] [] ?_
    refine Yr [[]] (.slice none 0 0) fun a w s => ?_
    exact ⟨none, 0, s.ret (by simp) [0] [] rfl rfl⟩
  | some ad =>
    refine ep35 (args := [.slice (some ad) xs.length c]) (G := [(_, .sl 7 (xs.map eOp))]) (by kernel_rfl) (.cons ha (.nil _ _)) ?_
    refine J_seq ?_
    refine Za [.rd 0 [] 0 0] [] [(2, .val (.slice none 0 0))] ?_
    refine J_seq ?_
    refine J_seq ?_
    refine Za [.rd 0 [] 0 0, .rd 1 [] 0 0] [] [(4, .val (.bool false))] ?_
    refine J_cond_f (by kernel_rfl) (by kernel_rfl) ?_
    refine J_skip ?_
    refine J_seq ?_
    refine jT [(0, false), (1, true), (2, false), (3, true)] [] ?_
    refine Ym (id := 3) (rest := [(2, false), (3, true)]) [.wr 0 [] 0, .rd 1 [] 0 0] [4, 0] (fun nu1 => [(5, .val (.slice (some (⟨nu1 0, 0, none⟩)) 0 0)), (6, .val (.slice (some ad) xs.length c))]) (fun nu1 => [(nu1 0, .cells #[] 43 (0, 0))]) [] (fun nu1 => ?_)
    refine JR_acczm eOp 0 7 rfl (by kernel_rfl) (by decide) ?_
    refine JR_appm 0 35 43 7 88 (.agg #[.int .i64 0, .string (ByteArray.mk #[]), .int .i64 0, .string (ByteArray.mk #[]), .int .i64 0, .bool false, .slice none 0 0]) (a0 := (some (⟨nu1 0, 0, none⟩))) (len := 0) (cap0 := 0) (ax := (some ad)) (m := xs.length) (c := c) (dst := (some 7)) xs (by kernel_rfl) (by kernel_rfl) (by kernel_rfl) (by kernel_rfl) rfl (by decide) rfl (fun _ _ _ s => src_fact s 0 rfl (by decide)) (by simp only [maxLen]; omega) (by omega) (fun av1 cv1 => ?_)
    rw [Nat.zero_add]
    try simp only [aQ]
    refine Ya (id := 3) (rest := []) [.rd 3 [] 0 0] [7, 5, 6] [(2, .val (.slice av1 xs.length cv1))] ?_
    try simp only [aQ]
    refine JR_end ?_
    try simp only [aQ]
    refine Yr [[]] (.slice av1 xs.length cv1) fun a w s => ?_
    exact ⟨_, _, s.ret (by simp) [0] [] rfl rfl⟩
set_option maxHeartbeats 4000000 in
theorem cloneDots {w0 : World} {S : Nat → Prop} {a : Option Addr} {n c : Nat} {xs : List DotT} (ha : Rep w0 S (.slice a n c) (.sl 3 (xs.map eDot))) (hl : xs.length ≤ 1000000) :
    Calls Tryd.prog 36 #[.slice a n c] w0 fun e w' => ∃ a' c', Ret [] w0 S w' e (.slice a' n c') [cAcc (.slice a' n c') 106 3 (xs.map eDot)] [] := by
  have hlen := ha.slen
  rw [List.length_map] at hlen
  subst hlen
  cases a with
  | none =>
    have h0 : xs = [] := by simpa using rep_none ha
    subst h0
    refine ep36 (args := [.slice none ([] : List DotT).length c]) (S := S) (G := []) (by kernel_rfl) (.nil _ _) ?_
    refine J_stp (stp_accm eDot 106 3) ?_
    try simp only [aQ]
    refine J_seq ?_
    refine Za [.rd 0 [] 0 0] [] [(2, .val (.slice none 0 0))] ?_
    refine J_seq ?_
    refine J_seq ?_
    refine Za [.rd 0 [] 0 0, .rd 1 [] 0 0] [] [(4, .val (.bool true))] ?_
    refine J_cond_t (by kernel_rfl) (by kernel_rfl) ?_
    refine J_seq ?_
    refine Za [.rd 0 [] 0 0] [4] [] ?_
    refine Yr [[]] (.slice none 0 0) fun a w s => ?_
    exact ⟨none, 0, s.ret (by simp) [0] [] rfl rfl⟩
  | some ad =>
    refine ep36 (args := [.slice (some ad) xs.length c]) (G := [(_, .sl 3 (xs.map eDot))]) (by kernel_rfl) (.cons ha (.nil _ _)) ?_
    refine J_seq ?_
    refine Za [.rd 0 [] 0 0] [] [(2, .val (.slice none 0 0))] ?_
    refine J_seq ?_
    refine J_seq ?_
    refine Za [.rd 0 [] 0 0, .rd 1 [] 0 0] [] [(4, .val (.bool false))] ?_
    refine J_cond_f (by kernel_rfl) (by kernel_rfl) ?_
    refine J_skip ?_
    refine J_seq ?_
    refine jT [(0, false), (1, true), (2, false), (3, true)] [] ?_
    refine Ym (id := 3) (rest := [(2, false), (3, true)]) [.wr 0 [] 0, .rd 1 [] 0 0] [4, 0] (fun nu1 => [(5, .val (.slice (some (⟨nu1 0, 0, none⟩)) 0 0)), (6, .val (.slice (some ad) xs.length c))]) (fun nu1 => [(nu1 0, .cells #[] 106 (0, 0))]) [] (fun nu1 => ?_)
    refine JR_acczm eDot 0 3 rfl (by kernel_rfl) (by decide) ?_
    refine JR_appm 0 41 106 3 24 (.agg #[.int .i64 0, .int .i64 0, .int .i64 0]) (a0 := (some (⟨nu1 0, 0, none⟩))) (len := 0) (cap0 := 0) (ax := (some ad)) (m := xs.length) (c := c) (dst := (some 7)) xs (by kernel_rfl) (by kernel_rfl) (by kernel_rfl) (by kernel_rfl) rfl (by decide) rfl (fun _ _ _ s => src_fact s 0 rfl (by decide)) (by simp only [maxLen]; omega) (by omega) (fun av1 cv1 => ?_)
    rw [Nat.zero_add]
    try simp only [aQ]
    refine Ya (id := 3) (rest := []) [.rd 3 [] 0 0] [7, 5, 6] [(2, .val (.slice av1 xs.length cv1))] ?_
    try simp only [aQ]
    refine JR_end ?_
    try simp only [aQ]
    refine Yr [[]] (.slice av1 xs.length cv1) fun a w s => ?_
    exact ⟨_, _, s.ret (by simp) [0] [] rfl rfl⟩
end Go.Proofs.YtehdegekgdlifaaDoor
end
section
namespace Go.Proofs.YtehdegekgdlifaaDoor
open Go Go.Sx
set_option maxHeartbeats 4000000 in
theorem partI {P : Program} {t : TypeId} {w : World} {cs : Array Value} {off : Nat} {v : Value} (ht : P.underlying t = some (.int .i64)) (hv : cs[off]? = some v) : (part t cs off).run P w = .ok v w := by
  simp [part, isAgg, underlying, ht, hv, Result.andThen]
set_option maxHeartbeats 4000000 in
theorem eqInt {P : Program} {t : TypeId} (ht : P.underlying t = some (.int .i64)) (d : Nat) (x y : Int) (w : World) : (Op.equalIn (d + 1) t (.int .i64 x) (.int .i64 y)).run P w = .ok (x == y) w := by
  simp [Op.equalIn, run_underlying ht]
set_option maxHeartbeats 4000000 in
theorem eqDot (d : Nat) (a b c a' b' c' : Int) (w : World) : (Op.equalIn (d + 2) 106 (.agg #[.int .i64 a, .int .i64 b, .int .i64 c]) (.agg #[.int .i64 a', .int .i64 b', .int .i64 c'])).run Tryd.prog w = .ok (decide (a = a' ∧ b = b' ∧ c = c')) w := by
  have hs : Tryd.prog.stoodInHeld 106 = false := by kernel_rfl
  rw [Op.equalIn]
  by_cases h1 : a = a' <;> by_cases h2 : b = b' <;> by_cases h3 : c = c' <;>
  simp [run_underlying Tryd.underlying106, hs, eqInt Tryd.underlying3, partI Tryd.underlying3, Result.andThen, h1, h2, h3]
end Go.Proofs.YtehdegekgdlifaaDoor
end
section
namespace Go.Sx
open Go Go.MapKept
structure KeyOk (P : Program) (kt : TypeId) (ok : Value → Prop) : Prop where
  chk : ∀ (b : Bool) (k : Value), ok k → ∀ w, (Instr.checkKey b 10000 kt k).run P w = .ok () w
  find : ∀ (k : Value) (es : List MapEntry), ok k → (∀ x ∈ es, ok x.key) → ((∀ w, (Instr.findKey kt k es).run P w = .ok none w) ∧ ∀ x ∈ es, x.key ≠ k) ∨ ∃ j e, (∀ w, (Instr.findKey kt k es).run P w = .ok (some (j, e.val)) w) ∧ es[j]? = some e ∧ e.key = k
  stays : ∀ k, ok k → ∀ w, (Instr.keyThatStays k k).run P w = .ok k w
theorem KeyOk.plain {P : Program} {kt : TypeId} {d : TypeDesc} (hd : P.underlying kt = some d) : KeyOk P kt (IsKey d) where
  chk b k hk w := run_checkKey hd hk b 9999
  find k es hk hes := by
    rcases findNow_spec hk es 0 hes with ⟨h1, h2⟩ | ⟨j, e, h1, h2, h3⟩
    · exact .inl ⟨fun w => run_findKey hd h1, h2⟩
    · rw [Nat.zero_add] at h1
      exact .inr ⟨j, e, fun w => run_findKey hd h1, h2, h3⟩
  stays k hk w := run_keyThatStays hk
theorem findAsking_spec {P : Program} {kt : TypeId} {ok : Value → Prop} (heq : ∀ x y, ok x → ok y → ∃ b : Bool, (∀ w, (Op.equal kt x y).run P w = .ok b w) ∧ (b = true ↔ x = y)) {k : Value} (hk : ok k) : ∀ (l : List MapEntry) (i : Nat), (∀ x ∈ l, ok x.key) →
    ((∀ w, (Instr.findAsking kt k l i).run P w = .ok none w) ∧ ∀ x ∈ l, x.key ≠ k) ∨ ∃ j e, (∀ w, (Instr.findAsking kt k l i).run P w = .ok (some (i + j, e.val)) w) ∧ l[j]? = some e ∧ e.key = k
  | [], _, _ => .inl ⟨fun _ => rfl, by simp⟩
  | e :: es, i, h => by
    obtain ⟨b, hb, hiff⟩ := heq k e.key hk (h e (.head _))
    cases b with
    | true =>
      refine .inr ⟨0, e, fun w => ?_, rfl, (hiff.1 rfl).symm⟩
      simp [Instr.findAsking, hb, Result.andThen]
    | false =>
      have hne : e.key ≠ k := fun he => by
        have := hiff.2 he.symm
        cases this
      rcases findAsking_spec heq hk es (i + 1) fun x hx => h x (.tail _ hx) with ⟨h1, h2⟩ | ⟨j, e', h1, h2, h3⟩
      · refine .inl ⟨fun w => ?_, fun x hx => ?_⟩
        · simp [Instr.findAsking, hb, Result.andThen, h1]
        · rcases List.mem_cons.1 hx with rfl | hx
          · exact hne
          · exact h2 x hx
      · refine .inr ⟨j + 1, e', fun w => ?_, by simpa using h2, h3⟩
        simp [Instr.findAsking, hb, Result.andThen, h1]
        omega
theorem KeyOk.asking {P : Program} {kt : TypeId} {ok : Value → Prop} {d : TypeDesc} (hd : P.underlying kt = some d) (hn : ∀ x y, ok x → ok y → Instr.sameNow d x y = none)
    (chk : ∀ (b : Bool) (k : Value), ok k → ∀ w, (Instr.checkKey b 10000 kt k).run P w = .ok () w) (heq : ∀ x y, ok x → ok y → ∃ b : Bool, (∀ w, (Op.equal kt x y).run P w = .ok b w) ∧ (b = true ↔ x = y))
    (stays : ∀ k, ok k → Instr.sameBits 10000 k k = true) : KeyOk P kt ok where
  chk := chk
  find k es hk hes := by
    cases es with
    | nil => exact .inl ⟨fun w => by simp [Instr.findKey, run_underlying hd, Result.andThen, Instr.findNow], by simp⟩
    | cons e es =>
      have h0 : Instr.findNow d k (e :: es) 0 = none := by simp [Instr.findNow, hn k e.key hk (hes e (.head _))]
      rcases findAsking_spec heq hk (e :: es) 0 hes with ⟨h1, h2⟩ | ⟨j, e', h1, h2, h3⟩
      · exact .inl ⟨fun w => by simp [Instr.findKey, run_underlying hd, Result.andThen, h0, h1], h2⟩
      · rw [Nat.zero_add] at h1
        exact .inr ⟨j, e', fun w => by simp [Instr.findKey, run_underlying hd, Result.andThen, h0, h1], h2, h3⟩
  stays k hk w := by simp [Instr.keyThatStays, stays k hk]
theorem key_modify {ok : Value → Prop} {es : Array MapEntry} (h : ∀ x ∈ es.toList, ok x.key) (i : Nat) (f : MapEntry → MapEntry) (hk : ∀ e, es[i]? = some e → (f e).key = e.key) : ∀ x ∈ (es.modify i f).toList, ok x.key := by
  intro x hx
  have : x.key ∈ (es.modify i f).toList.map (·.key) := List.mem_map.2 ⟨x, hx, rfl⟩
  rw [modify_keys i f hk] at this
  obtain ⟨y, hy, e⟩ := List.mem_map.1 this
  rw [← e]; exact h y hy
structure MapG (ok : Value → Prop) (es : Array MapEntry) (f : Value → Option Value) : Prop where
  key : ∀ x ∈ es.toList, ok x.key
  nodup : (es.toList.map (·.key)).Nodup
  val : ∀ x ∈ es.toList, f x.key = some x.val
  has : ∀ k v, f k = some v → ∃ x ∈ es.toList, x.key = k
theorem MapG.empty (ok : Value → Prop) : MapG ok #[] (fun _ => none) := ⟨by simp, by simp, by simp, by simp⟩
theorem MapG.congr {ok : Value → Prop} {es : Array MapEntry} {f g : Value → Option Value} (h : MapG ok es f) (hfg : ∀ k, f k = g k) : MapG ok es g := by
  obtain rfl : f = g := funext hfg
  exact h
theorem MapG.look {P : Program} {kt : TypeId} {ok : Value → Prop} (hK : KeyOk P kt ok) {es : Array MapEntry} {f : Value → Option Value} (h : MapG ok es f) {k : Value} (hk : ok k) :
    ((∀ w, (Instr.findKey kt k es.toList).run P w = .ok none w) ∧ f k = none ∧ ∀ x ∈ es.toList, x.key ≠ k) ∨ ∃ j e, (∀ w, (Instr.findKey kt k es.toList).run P w = .ok (some (j, e.val)) w) ∧ es.toList[j]? = some e ∧ e.key = k ∧ f k = some e.val := by
  rcases hK.find k es.toList hk h.key with ⟨h1, h2⟩ | ⟨j, e, h1, h2, h3⟩
  · refine .inl ⟨h1, ?_, h2⟩
    cases hf : f k with
    | none => rfl
    | some v =>
      obtain ⟨x, hx, hxk⟩ := h.has k v hf
      exact absurd hxk (h2 x hx)
  · refine .inr ⟨j, e, h1, h2, h3, ?_⟩
    rw [← h3]
    exact h.val e (List.mem_of_getElem? h2)
theorem MapG.other {ok : Value → Prop} {es : Array MapEntry} {f : Value → Option Value} (h : MapG ok es f) {j i : Nat} {e x : MapEntry} (hj : es.toList[j]? = some e) (hi : es.toList[i]? = some x) (hne : i ≠ j) : x.key ≠ e.key := by
  intro he
  have h1 : (es.toList.map (·.key))[i]? = some x.key := by rw [List.getElem?_map, hi]; rfl
  have h2 : (es.toList.map (·.key))[j]? = some x.key := by rw [List.getElem?_map, hj, he]; rfl
  exact hne ((List.getElem?_inj (List.getElem?_eq_some_iff.1 h1).1 h.nodup).1 (h1.trans h2.symm))
theorem MapG.push {ok : Value → Prop} {es : Array MapEntry} {f : Value → Option Value} (h : MapG ok es f) {k v : Value} {born : Nat} (hk : ok k) (hn : ∀ x ∈ es.toList, x.key ≠ k) : MapG ok (es.push ⟨k, v, born⟩) (fput f k v) := by
  refine ⟨fun x hx => ?_, ?_, fun x hx => ?_, fun q u hq => ?_⟩
  · simp only [Array.toList_push, List.mem_append, List.mem_singleton] at hx
    rcases hx with hx | rfl
    · exact h.key x hx
    · exact hk
  · simp only [Array.toList_push, List.map_append, List.map_cons, List.map_nil]
    refine List.nodup_append.2 ⟨h.nodup, by simp, fun a ha b hb => ?_⟩
    simp only [List.mem_singleton] at hb
    subst hb
    obtain ⟨x, hx, rfl⟩ := List.mem_map.1 ha
    exact hn x hx
  · simp only [Array.toList_push, List.mem_append, List.mem_singleton] at hx
    rcases hx with hx | rfl
    · simp [fput, hn x hx, h.val x hx]
    · simp [fput]
  · by_cases hqk : q = k
    · exact ⟨⟨k, v, born⟩, by simp, hqk.symm⟩
    · simp only [fput, if_neg hqk] at hq
      obtain ⟨x, hx, hxk⟩ := h.has q u hq
      exact ⟨x, by simp [hx], hxk⟩
theorem MapG.turn {ok : Value → Prop} {es : Array MapEntry} {f : Value → Option Value} (h : MapG ok es f) {k v : Value} {j : Nat} {e : MapEntry} (hj : es.toList[j]? = some e) (he : e.key = k) : MapG ok (es.modify j fun x => { x with key := k, val := v }) (fput f k v) := by
  subst he
  have hj' : es[j]? = some e := by simpa using hj
  have hkeys : (es.modify j fun x => { x with key := e.key, val := v }).toList.map (·.key) = es.toList.map (·.key) := modify_keys j _ (fun x hx => by rw [hj'] at hx; cases hx; rfl)
  have who : ∀ x ∈ (es.modify j fun x => { x with key := e.key, val := v }).toList, (x.key = e.key ∧ x.val = v) ∨ (x ∈ es.toList ∧ x.key ≠ e.key) := fun x hx => by
    obtain ⟨i, hi⟩ := List.getElem?_of_mem hx
    rw [Array.getElem?_toList, Array.getElem?_modify] at hi
    by_cases hij : j = i
    · subst hij
      rw [if_pos rfl, hj'] at hi
      simp only [Option.map_some, Option.some.injEq] at hi
      rw [← hi]
      exact .inl ⟨rfl, rfl⟩
    · rw [if_neg hij] at hi
      exact .inr ⟨Array.mem_toList_iff.2 (Array.mem_of_getElem? hi), h.other hj (by simpa using hi) (Ne.symm hij)⟩
  refine ⟨key_modify h.key j _ (fun x hx => by rw [hj'] at hx; cases hx; rfl), by rw [hkeys]; exact h.nodup, fun x hx => ?_, fun q u hq => ?_⟩
  · rcases who x hx with ⟨h1, h2⟩ | ⟨h1, h2⟩
    · simp [fput, h1, h2]
    · simp [fput, h2, h.val x h1]
  · have hmem : q ∈ es.toList.map (·.key) := by
      by_cases hqk : q = e.key
      · rw [hqk]; exact List.mem_map.2 ⟨e, List.mem_of_getElem? hj, rfl⟩
      · simp only [fput, if_neg hqk] at hq
        obtain ⟨x, hx, hxk⟩ := h.has q u hq
        exact List.mem_map.2 ⟨x, hx, hxk⟩
    rw [← hkeys] at hmem
    obtain ⟨x, hx, hxk⟩ := List.mem_map.1 hmem
    exact ⟨x, hx, hxk⟩
theorem MapG.drop {ok : Value → Prop} {es : Array MapEntry} {f : Value → Option Value} (h : MapG ok es f) {k : Value} {j : Nat} {e : MapEntry} (hj : es.toList[j]? = some e) (he : e.key = k) : MapG ok (es.eraseIdxIfInBounds j) (fdel f k) := by
  subst he
  have hlt : j < es.size := by simpa using (List.getElem?_eq_some_iff.1 hj).1
  have hl : (es.eraseIdxIfInBounds j).toList = es.toList.eraseIdx j := by
    unfold Array.eraseIdxIfInBounds
    rw [dif_pos hlt]
    simp
  have hsub := List.eraseIdx_sublist es.toList j
  refine ⟨fun x hx => ?_, ?_, fun x hx => ?_, fun q u hq => ?_⟩
  · rw [hl] at hx
    exact h.key x (hsub.subset hx)
  · rw [hl]
    exact (hsub.map _).nodup h.nodup
  · rw [hl] at hx
    obtain ⟨i, hne, hi⟩ := List.mem_eraseIdx_iff_getElem?.1 hx
    simp [fdel, h.other hj hi hne, h.val x (hsub.subset hx)]
  · by_cases hqk : q = e.key
    · simp [fdel, hqk] at hq
    · simp only [fdel, if_neg hqk] at hq
      obtain ⟨x, hx, hxk⟩ := h.has q u hq
      obtain ⟨i, hi⟩ := List.getElem?_of_mem hx
      refine ⟨x, ?_, hxk⟩
      rw [hl]
      refine List.mem_eraseIdx_iff_getElem?.2 ⟨i, fun hij => hqk ?_, hi⟩
      subst hij
      rw [hj] at hi
      cases hi
      exact hxk.symm
section maps
variable {P : Program} {f : Func} [Pan f] {R : Act → World → Prop} {n : Nat} [Dfr n] {k : List Itm} {E : Env} {h r : List (Nat × Obj)} {F : List (List Nat × World)} {Y : Ghost}
theorem JRg_lookr {id L0 i : Nat} {ck : Bool} {Wp : List (Nat × List Nat)} {rest : List (Nat × Bool)} (hn : Hn) (b t kt et : Nat) (ok : Value → Prop) (key z : Value) (c : Bool) (dst : Option Tmp) {es : Array MapEntry} {clock : Nat} {g : Value → Option Value}
    (he : lookOf n (rgOf f id) E i = some (.map (some b), key, t, c, dst)) (hok : (!ck || okR L0 (Wp.filter fun y => !later (rgOf f id) i 3 y.1) [hn]) = true) (ht : P.underlying t = some (.map kt et)) (hK : KeyOk P kt ok) (hk : ok key) (hi : (P.info? et).map (·.zero) = some (some z))
    (hp : hn.get h r = some (b, .map es clock)) (hm : MapG ok es g)
    (A : g key = none → JR P f R n (rgOf f id) L0 ck rest Wp k (E.put dst (.val (lkV c z false))) h r F Y)
    (B : ∀ v, g key = some v → JR P f R n (rgOf f id) L0 ck rest Wp k (E.put dst (.val (lkV c v true))) h r F Y) :
    JR P f R n (rgOf f id) L0 ck ((i, true) :: rest) Wp k E h r F Y := by
  intro BB Hd fps a w s hH hR hN hW
  simp only [PW]
  obtain ⟨inf, hinf, hz⟩ := Option.map_eq_some_iff.1 hi
  have hzero : ∀ w, (zeroValue et).run P w = .ok z w := fun w => by simp [zeroValue, typeInfo, hinf, hz]
  have hus : used h r [hn] = [(b, .map es clock)] := by simp [used, hp]
  have hHp : Hp (used h r [hn]) w := fun y hy => by
    obtain ⟨hn', _, hg⟩ := List.mem_filterMap.1 hy
    exact s.own.get hg
  unfold lookOf at he
  split at he
  · cases he
  rename_i o ho
  split at he
  case isFalse => cases he
  rename_i hdst
  split at he
  · cases he
  rename_i hg
  split at he
  case h_2 => cases he
  rename_i t' m x c' hc
  split at he
  case h_2 => cases he
  rename_i hq
  simp only [Option.some.injEq, Prod.mk.injEq] at he
  obtain ⟨e1, e2, rfl, rfl, rfl⟩ := he
  have hev := opsOk_sound s.ag (fun c w h => by cases h) _ _ hq trivial
  have e1 : a.eval m = .map (some b) := (hev m (by simp)).trans e1
  have e2 : a.eval x = key := (hev x (by simp)).trans e2
  have fin : ∀ v, (∀ w, Hp (used h r [hn]) w → (Instr.lookup t' (.map (some b)) key c').run P w = .ok v w) → JR P f R n (rgOf f id) L0 ck rest Wp k (E.put o.dst (.val v)) h r F Y →
      ∃ o' v' us, (rgOf f id)[i]? = some o' ∧ YieldsIf P (rgOf f id) (Hp us) o' v' a ∧ Hp us w ∧ (ck = true → ∀ y ∈ idsW Hd h Wp, later (rgOf f id) i 3 y.1 = true ∨ ∀ x ∈ us, x.1 < BB ∧ x.1 ∉ y.2) ∧ PW P (rgOf f id) (wpK P f R k) BB ck rest (idsW Hd h Wp) (a.put o'.dst v') w := fun v hv H => by
    refine ⟨o, v, used h r [hn], ho, .inl ⟨by simp [Region.wanted, hg], fun w hw => ?_⟩, hHp, fun hck y hy => okR_later (fun j => later (rgOf f id) i 3 j) s.own hR (by simpa [hck] using hok) y hy, ?_⟩
    · unfold execOp
      simp only [hc, Sem.run_bind, Sem.run_pure, Result.andThen_ok, e1, e2, hv w hw]
    · exact H BB Hd fps _ w ⟨s.ag.put hdst (.val v), s.own, s.fr, s.may, s.gh⟩ hH hR hN hW
  have hbw : ∀ w, Hp (used h r [hn]) w → w.heap[b]? = some (.map es clock) := fun w hw => hw (b, .map es clock) (by rw [hus]; simp)
  rcases hm.look hK hk with ⟨h1, h2, _⟩ | ⟨j, e, h1, _, _, h2⟩
  · refine fin (lkV c' z false) (fun w hw => ?_) (A h2)
    cases c' <;> simp [Instr.lookup, run_underlying ht, MapKept.run_getObj_map (hbw w hw), hK.chk _ _ hk, h1, hzero, Result.andThen, lkV]
  · refine fin (lkV c' e.val true) (fun w hw => ?_) (B _ h2)
    cases c' <;> simp [Instr.lookup, run_underlying ht, MapKept.run_getObj_map (hbw w hw), hK.chk _ _ hk, h1, Result.andThen, lkV]
theorem JRg_put {id L0 i : Nat} {ck : Bool} {Wp : List (Nat × List Nat)} {rest : List (Nat × Bool)} (p b t kt et : Nat) (ok : Value → Prop) (key val : Value) (dst : Option Tmp) {es : Array MapEntry} {clock : Nat} {g : Value → Option Value}
    (he : putOf n (rgOf f id) E i = some (.map (some b), key, val, t, dst)) (hok : (!ck || okW L0 (Wp.lookup i) [p]) = true) (ht : P.underlying t = some (.map kt et)) (hK : KeyOk P kt ok) (hk : ok key)
    (hp : h[p]? = some (b, .map es clock)) (hm : MapG ok es g)
    (A : ∀ es' clock', MapG ok es' (fput g key val) → es'.size ≤ es.size + 1 → JR P f R n (rgOf f id) L0 ck rest (Wp.filter (·.1 != i)) k (E.put dst (.val undef)) (h.set p (b, .map es' clock')) r F Y) :
    JR P f R n (rgOf f id) L0 ck ((i, false) :: rest) Wp k E h r F Y := by
  intro BB Hd fps a w s hH hR hN hW
  simp only [PW]
  have hb : w.heap[b]? = some (.map es clock) := s.own.own _ (List.mem_of_getElem? hp)
  refine putOf_sound he s ?_
  rcases hm.look hK hk with ⟨h1, _, h2⟩ | ⟨j, e, h1, h2, h3, _⟩
  · refine ⟨{ w with heap := w.heap.setIfInBounds b (.map (es.push ⟨key, val, clock⟩) (clock + 1)) }, ?_, fun a' hA => JR_setmap hok hp s hH hR hN hW hA (A _ _ (hm.push hk h2) (by simp))⟩
    simp [Instr.mapUpdate, run_underlying ht, MapKept.run_getObj_map hb, hK.chk _ _ hk, h1, MapKept.run_setObj_map _ hb, Result.andThen]
  · have hj : es[j]? = some e := by simpa using h2
    refine ⟨{ w with heap := w.heap.setIfInBounds b (.map (es.modify j fun x => { x with key := key, val := val }) clock) }, ?_, fun a' hA => JR_setmap hok hp s hH hR hN hW hA (A _ _ (hm.turn h2 h3) (by simp))⟩
    simp [Instr.mapUpdate, run_underlying ht, MapKept.run_getObj_map hb, hK.chk _ _ hk, h1, hj, h3, hK.stays _ hk, MapKept.run_setObj_map _ hb, Result.andThen]
end maps
end Go.Sx
end
section
namespace Go.Sx
open Go
theorem flat_out {l : List (List Nat)} {i : Nat} {x : List Nat} (h : l[i]? = some x) : l.flatten.Perm (x ++ (l.eraseIdx i).flatten) := by
  induction l generalizing i with
  | nil => simp at h
  | cons y l ih =>
    cases i with
    | zero =>
      simp only [List.getElem?_cons_zero, Option.some.injEq] at h
      subst h
      simp
    | succ i =>
      simp only [List.getElem?_cons_succ] at h
      simp only [List.flatten_cons, List.eraseIdx_cons_succ]
      refine ((ih h).append_left y).trans ?_
      rw [← List.append_assoc, ← List.append_assoc]
      exact List.perm_append_comm.append_right _
theorem Chs.insert {w : World} {S : Nat → Prop} {c : Chunk} {fp : List Nat} (hc : c.P w S fp) : ∀ {cs : List Chunk} {i : Nat} {fps : List (List Nat)}, cs[i]? = some c → Chs w S (cs.eraseIdx i) fps → ∃ fps', Chs w S cs fps' ∧ fps'.flatten.Perm (fp ++ fps.flatten)
  | [], _, _, h, _ => by simp at h
  | d :: cs, 0, fps, h, hr => by
    simp only [List.getElem?_cons_zero, Option.some.injEq] at h
    subst h
    exact ⟨fp :: fps, ⟨hc, hr⟩, by simp⟩
  | d :: cs, i + 1, fps, h, hr => by
    simp only [List.getElem?_cons_succ] at h
    simp only [List.eraseIdx_cons_succ] at hr
    match fps, hr with
    | f :: fps, hr =>
      obtain ⟨fps', h1, h2⟩ := Chs.insert hc h hr.2
      refine ⟨f :: fps', ⟨hr.1, h1⟩, ?_⟩
      simp only [List.flatten_cons]
      refine (h2.append_left f).trans ?_
      rw [← List.append_assoc, ← List.append_assoc]
      exact List.perm_append_comm.append_right _
def cMapG (b : Nat) (ok : Value → Prop) (g : Value → Option Value) : Chunk where
  P w _ fp := fp = [b] ∧ ∃ es clock, w.heap[b]? = some (.map es clock) ∧ MapG ok es g
  mono := by
    intro w w' S S' fp ⟨h, es, clock, h1, h2⟩ hb _
    exact ⟨h, es, clock, (hb _ (by rw [h]; simp)).trans h1, h2⟩
theorem mapg_eqv {b clock : Nat} {ok : Value → Prop} {es : Array MapEntry} {g : Value → Option Value} (hm : MapG ok es g) : (cObj b (.map es clock)).eqv (cMapG b ok g) := fun _ _ _ h => ⟨h.1, es, clock, h.2, hm⟩
section more
variable {P : Program} {f : Func} [Pan f] {R : Act → World → Prop} {n : Nat} [Dfr n] {kk : List Itm} {E : Env} {h r : List (Nat × Obj)} {F : List (List Nat × World)}
def mapgParts (b : Nat) (ok : Value → Prop) (g : Value → Option Value) (x : Array MapEntry × Nat) : Chunk := cStar [cPure (MapG ok x.1 g), cObj b (.map x.1 x.2)]
theorem J_openmapg {S0 : Nat → Prop} {C0 : List Chunk} {G0 : List (Value × D)} (q : Nat) {b : Nat} {ok : Value → Prop} {g : Value → Option Value} (hq : C0[q]? = some (cMapG b ok g))
    (H : ∀ es clock, MapG ok es g → J P f R n kk E (h ++ [(b, .map es clock)]) r F ⟨S0, C0.eraseIdx q, G0⟩) : J P f R n kk E h r F ⟨S0, C0, G0⟩ := by
  have hv : (cMapG b ok g).eqv (cExi (mapgParts b ok g)) := by
    intro w S fp ⟨hfp, es, clock, h1, h2⟩
    subst hfp
    have hch : Chs w S [cPure (MapG ok es g), cObj b (.map es clock)] [[], [b]] := ⟨⟨rfl, h2⟩, ⟨rfl, h1⟩, trivial⟩
    exact ⟨(es, clock), [[], [b]], by simp, hch⟩
  refine J_stp (stp_conv q hq hv) ?_
  have hql := (List.getElem?_eq_some_iff.1 hq).1
  refine J_stpx (stp_exi (g := mapgParts b ok g) q (by rw [List.getElem?_set_self hql])) fun x _ => ?_
  obtain ⟨es, clock⟩ := x
  rw [List.set_set]
  refine J_stp (stp_star (cs := [cPure (MapG ok es g), cObj b (.map es clock)]) q (by rw [List.getElem?_set_self hql]; rfl)) ?_
  have e0 : ∀ y : Chunk, (C0.set q y).eraseIdx q = C0.eraseIdx q := fun y => by
    apply List.ext_getElem?
    intro j
    rw [List.getElem?_eraseIdx, List.getElem?_eraseIdx]
    split
    · rw [List.getElem?_set_ne (by omega)]
    · rw [List.getElem?_set_ne (by omega)]
  rw [e0]
  refine J_stpx (stp_pure (p := MapG ok es g) (C0.eraseIdx q).length (by rw [List.getElem?_append_right (Nat.le_refl _), Nat.sub_self]; rfl)) fun _ hp => ?_
  rw [List.eraseIdx_append_of_length_le (Nat.le_refl _)]
  simp only [Nat.sub_self, List.eraseIdx_cons_zero]
  refine J_show (b := b) (o := .map es clock) (C0.eraseIdx q).length (by rw [List.getElem?_append_right (Nat.le_refl _), Nat.sub_self]; rfl) ?_
  rw [List.eraseIdx_append_of_length_le (Nat.le_refl _)]
  simp only [Nat.sub_self, List.eraseIdx_cons_zero, List.append_nil]
  exact H es clock hp
theorem stp_take {S0 : Nat → Prop} {C0 : List Chunk} {G0 : List (Value × D)} (q i : Nat) {cs : List Chunk} {c : Chunk} (hq : C0[q]? = some (cStar cs)) (hi : cs[i]? = some c) :
    Stp h r F ⟨S0, C0, G0⟩ (fun _ : Unit => True) fun _ => ⟨S0, C0.eraseIdx q ++ [c, cStar (cs.eraseIdx i)], G0⟩ := by
  intro w fps hO H
  obtain ⟨fp, hfp, fpsI, rfl, hP⟩ := H.chs.at hq
  obtain ⟨fpi, hfi, hc⟩ := hP.at hi
  have hp : (fps.eraseIdx q ++ [fpi, (fpsI.eraseIdx i).flatten]).flatten.Perm fps.flatten := by
    rw [List.flatten_append]
    simp only [List.flatten_cons, List.flatten_nil, List.append_nil]
    exact ((flat_out hfi).symm.append_left _).trans (List.perm_append_comm.trans (flat_out hfp).symm)
  have hsub : ∀ b ∈ (fps.eraseIdx q ++ [fpi, (fpsI.eraseIdx i).flatten]).flatten, b ∈ fps.flatten := fun b hb => hp.mem_iff.1 hb
  have hS : ∀ b, Sd ⟨S0, C0, G0⟩ h fps b → Sd ⟨S0, C0, G0⟩ h (fps.eraseIdx q ++ [fpi, (fpsI.eraseIdx i).flatten]) b := fun b hb => Sd_sub hsub hb
  have hch : Chs w (Sd ⟨S0, C0, G0⟩ h fps) [c, cStar (cs.eraseIdx i)] [fpi, (fpsI.eraseIdx i).flatten] := ⟨hc, ⟨_, rfl, hP.erase⟩, trivial⟩
  exact ⟨(), _, trivial, hsub, H.less hsub (hp.nodup_iff.2 H.nodup) ((H.chs.erase.app hch).mono (fun _ _ => rfl) fun b hb _ => ⟨hS b hb, rfl⟩) fun x hx => (H.g x hx).mono fun b hb _ => ⟨hS b hb, rfl⟩⟩
theorem stp_join {S0 : Nat → Prop} {C0 : List Chunk} {G0 : List (Value × D)} (q1 q2 i : Nat) {cs cs' : List Chunk} {c : Chunk} (h1 : C0[q1]? = some c) (h2 : C0[q2]? = some (cStar cs)) (hne : q1 ≠ q2) (hi : cs'[i]? = some c) (he : cs'.eraseIdx i = cs) :
    Stp h r F ⟨S0, C0, G0⟩ (fun _ : Unit => True) fun _ => ⟨S0, restC C0 [q1, q2] ++ [cStar cs'], G0⟩ := by
  subst he
  intro w fps hO H
  obtain ⟨fp1, hf1, hc⟩ := H.chs.at h1
  obtain ⟨fp2, hf2, fpsI, rfl, hP⟩ := H.chs.at h2
  obtain ⟨fps', hch, hpm⟩ := Chs.insert hc hi hP
  have hlen := H.chs.len
  have hp2 : pick fps [q1, q2] = [fp1, fpsI.flatten] := by simp [pick, hf1, hf2]
  have hnd2 : (others C0.length [q1, q2] ++ [q1, q2]).Nodup := by
    rw [List.nodup_append]
    refine ⟨List.Nodup.sublist List.filter_sublist List.nodup_range, by simp [hne], fun x hx y hy hxy => ?_⟩
    subst hxy
    simp [others] at hx
    simp at hy
    omega
  have hE : (pick fps (others C0.length [q1, q2]) ++ [fps'.flatten]).flatten.Perm (pick fps (others C0.length [q1, q2] ++ [q1, q2])).flatten := by
    rw [pick_app, hp2, List.flatten_append, List.flatten_append]
    simp only [List.flatten_cons, List.flatten_nil, List.append_nil]
    exact hpm.append_left _
  have hsub : ∀ b ∈ (pick fps (others C0.length [q1, q2]) ++ [fps'.flatten]).flatten, b ∈ fps.flatten := fun b hb => pick_flat_sub (hE.mem_iff.1 hb)
  have hS : ∀ b, Sd ⟨S0, C0, G0⟩ h fps b → Sd ⟨S0, C0, G0⟩ h (pick fps (others C0.length [q1, q2]) ++ [fps'.flatten]) b := fun b hb => Sd_sub hsub hb
  have hj : Chs w (Sd ⟨S0, C0, G0⟩ h fps) [cStar cs'] [fps'.flatten] := ⟨⟨_, rfl, hch⟩, trivial⟩
  exact ⟨(), _, trivial, hsub, H.less hsub (hE.nodup_iff.2 (pick_flat_nodup H.nodup hnd2)) (((H.chs.pick _).app hj).mono (fun _ _ => rfl) fun b hb _ => ⟨hS b hb, rfl⟩) fun x hx => (H.g x hx).mono fun b hb _ => ⟨hS b hb, rfl⟩⟩
theorem star_nil (w : World) (S : Nat → Prop) : (cStar []).P w S [] := ⟨[], rfl, trivial⟩
end more
theorem map_out {α β : Type} {ks : List α} (hn : ks.Nodup) {i : Nat} {k : α} (hk : ks[i]? = some k) {Q Q' : α → β} (hQ : ∀ x, x ≠ k → Q' x = Q x) : (ks.map Q').eraseIdx i = (ks.map Q).eraseIdx i := by
  apply List.ext_getElem?
  intro j
  rw [List.getElem?_eraseIdx, List.getElem?_eraseIdx]
  have key : ∀ j : Nat, j ≠ i → (ks.map Q')[j]? = (ks.map Q)[j]? := fun j hj => by
    rw [List.getElem?_map, List.getElem?_map]
    cases hx : ks[j]? with
    | none => rfl
    | some x =>
      have : x ≠ k := fun he => by
        subst he
        exact hj ((List.getElem?_inj (List.getElem?_eq_some_iff.1 hx).1 hn).1 (hx.trans hk.symm))
      simp [hQ x this]
  split
  · exact key j (by omega)
  · exact key (j + 1) (by omega)
end Go.Sx
end
section
namespace Go.Proofs.YtehdegekgdlifaaDoor
open Go Go.Sx
def badC (c : Int) : Bool := ((decide (c < 97) || decide (122 < c)) && (decide (c < 48) || decide (57 < c))) && (c != 45)
def badL (l : List UInt8) : Bool := l.any fun b => badC b.toNat
def nameOk (s : ByteArray) : Bool := decide (1 ≤ s.size) && decide (s.size ≤ 16) && !badL s.data.toList
set_option maxHeartbeats 4000000 in
theorem name1 {w : World} {S : Nat → Prop} {c : Int} : Calls Tryd.prog 27 #[.int .u8 c] w fun e w' => Ret [] w S w' e (.bool (badC c)) [] [] := by
  refine ep27 (args := [.int .u8 c]) (G := []) (by kernel_rfl) (AllG.nil w S) ?_
  obtain h | h | h | h | h | h | h : c < 45 ∨ c = 45 ∨ (45 < c ∧ c < 48) ∨ (48 ≤ c ∧ c ≤ 57) ∨ (57 < c ∧ c < 97) ∨ (97 ≤ c ∧ c ≤ 122) ∨ 122 < c := by omega
  · have e : badC c = true := by simp [badC]; omega
    refine J_seq ?_
    refine Za [.rd 0 [] 0 0] [] [(2, .val (.bool false))] ?_
    refine J_seq ?_
    refine Zp ([.rd 0 [] 0 0, .rd 1 [] 0 6, .rd 2 [] 0 0, .rd 3 [] 1 0, .rd 4 [] 1 0] ++ Rds 5 8 ++ [.rd 8 [] 0 6, .rd 9 [] 0 0, .rd 10 [] 1 0, .rd 11 [] 1 0] ++ Rds 12 16 ++ [.rd 16 [] 0 6, .rd 17 [] 0 0, .rd 18 [] 0 0]) [0] [(2, .val (.bool true))] [decide (c < (97 : Int)) = true, decide (c < (48 : Int)) = true, (c != (45 : Int)) = true] ⟨by simp; omega, by simp; omega, by simp; omega, trivial⟩ ?_
    refine Yr [[]] (.bool true) fun a w s => ?_
    rw [e]
    exact s.ret (by simp) [] [] rfl rfl
  · subst h
    refine J_seq ?_
    refine Za [.rd 0 [] 0 0] [] [(2, .val (.bool false))] ?_
    refine J_seq ?_
    refine Za (Rds 0 3 ++ [.rd 3 [] 1 0, .rd 4 [] 1 0] ++ Rds 5 10 ++ [.rd 10 [] 1 0, .rd 11 [] 1 0] ++ Rds 12 19) [0] [] ?_
    refine Yr [[]] (.bool false) fun a w s => ?_
    exact s.ret (by simp) [] [] rfl rfl
  · have e : badC c = true := by simp [badC]; omega
    refine J_seq ?_
    refine Za [.rd 0 [] 0 0] [] [(2, .val (.bool false))] ?_
    refine J_seq ?_
    refine Zp ([.rd 0 [] 0 0, .rd 1 [] 0 6, .rd 2 [] 0 0, .rd 3 [] 1 0, .rd 4 [] 1 0] ++ Rds 5 8 ++ [.rd 8 [] 0 6, .rd 9 [] 0 0, .rd 10 [] 1 0, .rd 11 [] 1 0] ++ Rds 12 16 ++ [.rd 16 [] 0 6, .rd 17 [] 0 0, .rd 18 [] 0 0]) [0] [(2, .val (.bool true))] [decide (c < (97 : Int)) = true, decide (c < (48 : Int)) = true, (c != (45 : Int)) = true] ⟨by simp; omega, by simp; omega, by simp; omega, trivial⟩ ?_
    refine Yr [[]] (.bool true) fun a w s => ?_
    rw [e]
    exact s.ret (by simp) [] [] rfl rfl
  · have e : badC c = false := by simp [badC]; omega
    refine J_seq ?_
    refine Za [.rd 0 [] 0 0] [] [(2, .val (.bool false))] ?_
    refine J_seq ?_
    refine Zp ([.rd 0 [] 0 0, .rd 1 [] 0 6, .rd 2 [] 0 0, .rd 3 [] 1 0, .rd 4 [] 1 0] ++ Rds 5 8 ++ [.rd 8 [] 0 7, .rd 9 [] 0 0, .rd 10 [] 0 0, .rd 11 [] 0 7] ++ Rds 12 15 ++ [.rd 15 [] 1 0, .rd 16 [] 1 0, .rd 17 [] 0 0, .rd 18 [] 0 0]) [0] [] [decide (c < (97 : Int)) = true, decide (c < (48 : Int)) = false, decide (c > (57 : Int)) = false] ⟨by simp; omega, by simp; omega, by simp; omega, trivial⟩ ?_
    refine Yr [[]] (.bool false) fun a w s => ?_
    rw [e]
    exact s.ret (by simp) [] [] rfl rfl
  · have e : badC c = true := by simp [badC]; omega
    refine J_seq ?_
    refine Za [.rd 0 [] 0 0] [] [(2, .val (.bool false))] ?_
    refine J_seq ?_
    refine Zp ([.rd 0 [] 0 0, .rd 1 [] 0 6, .rd 2 [] 0 0, .rd 3 [] 1 0, .rd 4 [] 1 0] ++ Rds 5 8 ++ [.rd 8 [] 0 7, .rd 9 [] 0 0, .rd 10 [] 0 0, .rd 11 [] 0 6] ++ Rds 12 16 ++ [.rd 16 [] 0 6, .rd 17 [] 0 0, .rd 18 [] 0 0]) [0] [(2, .val (.bool true))] [decide (c < (97 : Int)) = true, decide (c < (48 : Int)) = false, decide (c > (57 : Int)) = true, (c != (45 : Int)) = true] ⟨by simp; omega, by simp; omega, by simp; omega, by simp; omega, trivial⟩ ?_
    refine Yr [[]] (.bool true) fun a w s => ?_
    rw [e]
    exact s.ret (by simp) [] [] rfl rfl
  · have e : badC c = false := by simp [badC]; omega
    refine J_seq ?_
    refine Za [.rd 0 [] 0 0] [] [(2, .val (.bool false))] ?_
    refine J_seq ?_
    refine Zp [.rd 0 [] 0 0, .rd 1 [] 0 7, .rd 2 [] 0 0, .rd 3 [] 0 0, .rd 4 [] 0 7, .rd 5 [] 0 0, .rd 6 [] 0 0, .rd 7 [] 1 0, .rd 8 [] 1 0, .rd 9 [] 1 0, .rd 10 [] 1 0, .rd 11 [] 1 0, .rd 12 [] 1 0, .rd 13 [] 0 0, .rd 14 [] 0 0, .rd 15 [] 1 0, .rd 16 [] 1 0, .rd 17 [] 0 0, .rd 18 [] 0 0] [0] [] [decide (c < (97 : Int)) = false, decide (c > (122 : Int)) = false] ⟨by simp; omega, by simp; omega, trivial⟩ ?_
    refine Yr [[]] (.bool false) fun a w s => ?_
    rw [e]
    exact s.ret (by simp) [] [] rfl rfl
  · have e : badC c = true := by simp [badC]; omega
    refine J_seq ?_
    refine Za [.rd 0 [] 0 0] [] [(2, .val (.bool false))] ?_
    refine J_seq ?_
    refine Zp ([.rd 0 [] 0 0, .rd 1 [] 0 7, .rd 2 [] 0 0, .rd 3 [] 0 0, .rd 4 [] 0 6] ++ Rds 5 8 ++ [.rd 8 [] 0 7, .rd 9 [] 0 0, .rd 10 [] 0 0, .rd 11 [] 0 6] ++ Rds 12 16 ++ [.rd 16 [] 0 6, .rd 17 [] 0 0, .rd 18 [] 0 0]) [0] [(2, .val (.bool true))] [decide (c < (97 : Int)) = false, decide (c > (122 : Int)) = true, decide (c < (48 : Int)) = false, decide (c > (57 : Int)) = true, (c != (45 : Int)) = true] ⟨by simp; omega, by simp; omega, by simp; omega, by simp; omega, by simp; omega, trivial⟩ ?_
    refine Yr [[]] (.bool true) fun a w s => ?_
    rw [e]
    exact s.ret (by simp) [] [] rfl rfl
set_option maxHeartbeats 4000000 in
theorem indexBadB {w : World} {S : Nat → Prop} {a : Option Addr} {n c : Nat} {l : List UInt8} (h : Rep w S (.slice a n c) (.sl 1 (l.map eB))) (hl : l.length ≤ 1000000) :
    Calls Tryd.prog 42 #[.slice a n c, .func (.func 27) #[] #[]] w fun e w' => ∃ r, Ret [] w S w' e (.int .i64 r) [] [] ∧ decide (0 ≤ r) = badL l := by
  have e1 := h.slen
  rw [List.length_map] at e1
  subst e1
  refine ep42 (args := [.slice a l.length c, .func (.func 27) #[] #[]]) (G := [(_, .sl 1 (l.map eB))]) (by kernel_rfl) (.cons h (.nil _ _)) ?_
  refine J_seq ?_
  refine Za [.rd 0 [] 0 0] [] [(4, .val (.int .i64 0))] ?_
  refine J_seq ?_
  refine J_seq ?_
  refine Za (Rds 0 3) [] [(7, .val (.int .i64 (↑l.length : Int))), (8, .val (.int .i64 0))] ?_
  refine J_block ?_
  refine J_loopx (fun i : Int => [(0, .val (.slice a l.length c)), (1, .val (.func (.func 27) #[] #[])), (4, .val (.int .i64 0)), (7, .val (.int .i64 (↑l.length : Int))), (8, .val (.int .i64 i))]) (fun i : Int => []) (fun i : Int => []) (fun i : Int => [(.slice a l.length c, (D.sl 1 (List.map eB l)))]) (fun i : Int => (l.length - i).toNat) (fun i : Int => (0 ≤ i ∧ i ≤ l.length ∧ ∀ j : Nat, j < i.toNat → ∀ b, l[j]? = some b → badC b.toNat = false)) 0 [0, 1, 4, 7, 8] [] [] [0] ?_ (by kernel_rfl) rfl rfl rfl ?_
  · exact ⟨by simp, by omega, by simp⟩
  rintro i ⟨hi0, hi, hno⟩
  refine J_seq ?_
  refine Za [.rd 0 [] 0 0] [] [(9, .val (.bool (decide (i < (↑l.length : Int)))))] ?_
  refine J_seq ?_
  refine J_cond (t := decide (i < (↑l.length : Int))) (by kernel_rfl) (by kernel_rfl) (fun hlt => ?_) (fun hlt => ?_)
  · have hlt2 : i < l.length := by simpa using hlt
    obtain ⟨x, hx⟩ : ∃ x, l[i.toNat]? = some x := ⟨_, List.getElem?_eq_getElem (by omega)⟩
    refine J_read0 0 rfl i.toNat (map_at hx) (by kernel_rfl) (fun b1 off1 cs1 ty1 fz1 ha1 hrd1 => ?_)
    cases ha1
    have hrd1_0 := rd0 (hrd1 0 _ rfl)
    try simp only [aQ]
    refine J_skip ?_
    refine J_seq ?_
    refine J_block ?_
    refine J_seq ?_
    refine Za [.rd 0 [] 0 0, .rd 1 [] 0 0] [9] [(5, .val (.int .i64 i))] ?_
    refine J_seq ?_
    refine jT [(0, true), (1, true), (2, true), (3, true), (4, true), (5, false)] [] ?_
    refine Yp (id := 4) (rest := [(5, false)]) (Rds 0 3 ++ [.rd 3 [] 0 2, .rd 4 [.r 0 (some (.int .u8 (↑x.toNat : Int)))] 0 0]) [] [(11, .val (.func (.func 27) #[] #[])), (15, .val (.int .u8 (↑x.toNat : Int)))] [(0 : Int) ≤ i, i < (↑l.length : Int), cs1[off1 + i.toNat * (1 : Nat)]? = some (Value.int IntKind.u8 (↑x.toNat : Int))] ⟨hi0, hlt2, hrd1_0, trivial⟩ ?_
    refine Yc 27 #[.int .u8 (↑x.toNat : Int)] (some 16) fun w S hG => ?_
    refine (name1 (S := S)).mono ?_
    rintro e w2 hR
    refine ⟨_, _, _, hR, ?_⟩
    try simp only [aQ]
    refine JR_end ?_
    refine J_cond (t := badC (↑x.toNat : Int)) (by kernel_rfl) (by kernel_rfl) (fun hb => ?_) (fun hb => ?_)
    · refine J_seq ?_
      refine Za [.rd 0 [] 0 0, .rd 1 [] 0 0] [16] [(4, .val (.int .i64 i))] ?_
      refine Yr [[]] (.int .i64 i) fun a w s => ?_
      refine ⟨_, s.ret (by simp) [] [] rfl rfl, ?_⟩
      rw [show badL l = true from List.any_eq_true.2 ⟨x, List.mem_of_getElem? hx, hb⟩]
      simpa using hi0
    · refine J_skip ?_
      refine J_eb ?_
      refine Zp [.rd 0 [] 0 1, .rd 1 [] 0 0] [16] [(8, .val (.int .i64 (i + 1)))] [IntKind.i64.wrap (i + (1 : Int)) = i + (1 : Int)] ⟨wrap_i64 (by omega) (by omega), trivial⟩ ?_
      refine J_backx (i + 1) [0, 1, 4, 7, 8] [] [] [0] ?_ ?_ (by kernel_rfl) rfl rfl rfl
      · refine ⟨by omega, by omega, fun j hj t ht => ?_⟩
        by_cases hji : j = i.toNat
        · subst hji
          rw [hx] at ht
          cases ht
          exact hb
        · exact hno j (by omega) t ht
      · omega
  · refine J_exit rfl ?_
    refine J_seq ?_
    refine Za [.rd 0 [] 0 0] [9, 0, 1, 7, 8] [(4, .val (.int .i64 (-1)))] ?_
    refine Yr [[]] (.int .i64 (-1)) fun a w s => ?_
    refine ⟨_, s.ret (by simp) [] [] rfl rfl, ?_⟩
    have e : badL l = false := by
      unfold badL
      rw [List.any_eq_false]
      intro t ht
      obtain ⟨j, hj⟩ := List.getElem?_of_mem ht
      have hjl := (List.getElem?_eq_some_iff.1 hj).1
      simp [hno j (by simp at hlt; omega) t hj]
    rw [e]
    decide
set_option maxHeartbeats 4000000 in
theorem containsBadB {w : World} {S : Nat → Prop} {a : Option Addr} {n c : Nat} {l : List UInt8} (h : Rep w S (.slice a n c) (.sl 1 (l.map eB))) (hl : l.length ≤ 1000000) :
    Calls Tryd.prog 26 #[.slice a n c, .func (.func 27) #[] #[]] w fun e w' => Ret [] w S w' e (.bool (badL l)) [] [] := by
  refine ep26 (args := [.slice a n c, .func (.func 27) #[] #[]]) (G := [(_, .sl 1 (l.map eB))]) (by kernel_rfl) (.cons h (.nil _ _)) ?_
  refine J_seq ?_
  refine Za [.rd 0 [] 0 0] [] [(4, .val (.bool false))] ?_
  refine J_seq ?_
  refine jT [(0, true), (1, true), (2, false), (3, true), (4, true)] [] ?_
  refine Ya (id := 1) (rest := [(2, false), (3, true), (4, true)]) [.rd 0 [] 0 0, .rd 1 [] 0 0] [0, 1] [(5, .val (.slice a n c)), (6, .val (.func (.func 27) #[] #[]))] ?_
  refine Yc 42 #[.slice a n c, .func (.func 27) #[] #[]] (some 7) fun w S hG => ?_
  refine (indexBadB (hG.at 0 rfl) hl).mono ?_
  rintro e w2 ⟨r, hR, hr⟩
  refine ⟨_, _, _, hR, ?_⟩
  try simp only [aQ]
  refine Ya (id := 1) (rest := []) [.rd 3 [] 0 0, .rd 4 [] 0 0] [7, 5, 6] [(4, .val (.bool (decide (r ≥ 0))))] ?_
  refine JR_end ?_
  refine Yr [[]] (.bool (decide (r ≥ 0))) fun a w s => ?_
  rw [← hr]
  exact s.ret (by simp) [] [] rfl rfl
set_option maxHeartbeats 4000000 in
theorem vName {w : World} {S : Nat → Prop} {s0 : ByteArray} : Calls Tryd.prog 13 #[.string s0] w fun e w' => Ret [] w S w' e (.bool (nameOk s0)) [] [] := by
  refine ep13 (args := [.string s0]) (G := []) (by kernel_rfl) (AllG.nil w S) ?_
  have hz : s0.data.toList.length = s0.size := by simp
  by_cases h1 : s0.size = 0
  · have hE0 : s0.toList = (ByteArray.mk #[]).toList := by
      rw [ByteArray.toList_eq, ByteArray.toList_eq]
      exact List.eq_nil_of_length_eq_zero (by omega)
    have hE : (!s0.toList == (ByteArray.mk #[]).toList) = false := by rw [hE0]; simp
    have e : nameOk s0 = false := by simp [nameOk, h1]
    refine J_seq ?_
    refine Za [.rd 0 [] 0 0] [] [(2, .val (.bool false))] ?_
    refine J_seq ?_
    refine Zp [.rd 0 [] 0 0, .rd 1 [] 0 7, .rd 2 [] 0 0, .rd 3 [] 1 0, .rd 4 [] 1 0, .rd 5 [] 1 0, .rd 6 [] 0 0, .rd 7 [] 0 0, .rd 8 [] 1 0, .wr 9 [] 1, .wr 10 [] 1, .rd 11 [] 1 0, .rd 12 [] 0 0, .rd 13 [] 0 0] [0] [] [(!s0.toList == (ByteArray.mk #[]).toList) = false] ⟨by assumption, trivial⟩ ?_
    refine Yr [[]] (.bool false) fun a w s => ?_
    rw [e]
    exact s.ret (by simp) [] [] rfl rfl
  · have hE : (!s0.toList == (ByteArray.mk #[]).toList) = true := by
      rw [ByteArray.toList_eq, ByteArray.toList_eq]
      cases h : s0.data.toList with
      | nil => rw [h] at hz; exact absurd hz.symm h1
      | cons x l => rfl
    by_cases h2 : 16 < s0.size
    · have e : nameOk s0 = false := by simp [nameOk]; omega
      refine J_seq ?_
      refine Za [.rd 0 [] 0 0] [] [(2, .val (.bool false))] ?_
      refine J_seq ?_
      refine Zp ([.rd 0 [] 0 0, .rd 1 [] 0 6] ++ Rds 2 5 ++ [.rd 5 [] 0 7, .rd 6 [] 0 0, .rd 7 [] 0 0, .rd 8 [] 1 0, .wr 9 [] 1, .wr 10 [] 1, .rd 11 [] 1 0, .rd 12 [] 0 0, .rd 13 [] 0 0]) [0] [] [(!s0.toList == (ByteArray.mk #[]).toList) = true, decide ((↑s0.size : Int) ≤ (16 : Int)) = false] ⟨by assumption, by simp; omega, trivial⟩ ?_
      refine Yr [[]] (.bool false) fun a w s => ?_
      rw [e]
      exact s.ret (by simp) [] [] rfl rfl
    · refine J_seq ?_
      refine Za [.rd 0 [] 0 0] [] [(2, .val (.bool false))] ?_
      refine J_seq ?_
      refine jT [(0, true), (1, true), (2, true), (3, true), (4, true), (5, true), (6, true), (7, true), (8, true), (9, false), (10, false), (11, true), (12, true), (13, true)] [] ?_
      refine Yp (id := 1) (rest := [(9, false), (10, false), (11, true), (12, true), (13, true)]) ([.rd 0 [] 0 0, .rd 1 [] 0 6] ++ Rds 2 5 ++ [.rd 5 [] 0 6] ++ Rds 6 9) [0] [(10, .val (.bool true)), (11, .val (.string s0))] [(!s0.toList == (ByteArray.mk #[]).toList) = true, decide ((↑s0.size : Int) ≤ (16 : Int)) = true] ⟨by assumption, by simp; omega, trivial⟩ ?_
      refine JR_bytes 9 76 5 s0 (some 12) (by kernel_rfl) (by kernel_rfl) (by kernel_rfl) (by kernel_rfl) (fun bg1 bc1 => ?_)
      try simp only [aQ]
      refine Yc 26 #[.slice (some (⟨bg1, 0, none⟩)) s0.size bc1, .func (.func 27) #[] #[]] (some 13) fun w S hG => ?_
      refine (containsBadB (l := s0.data.toList) (hG.at 0 rfl) (by omega)).mono ?_
      rintro e w2 hR
      refine ⟨_, _, _, hR, ?_⟩
      have e : nameOk s0 = !badL s0.data.toList := by simp [nameOk]; omega
      rw [e]
      try simp only [aQ]
      refine Ya (id := 1) (rest := []) (Rds 11 14) [13, 12, 10, 11] [(2, .val (.bool (!badL s0.data.toList)))] ?_
      refine JR_end ?_
      refine Yr [[]] (.bool (!badL s0.data.toList)) fun a w s => ?_
      exact s.ret (by simp) [] [] rfl rfl
set_option maxHeartbeats 4000000 in
theorem isName {w : World} {S : Nat → Prop} {s0 : ByteArray} : Calls Tryd.prog 6 #[.string s0] w fun e w' => Ret [] w S w' e (.bool (nameOk s0)) [] [] := by
  refine ep6 (args := [.string s0]) (G := []) (by kernel_rfl) (AllG.nil w S) ?_
  refine J_seq ?_
  refine Za [.rd 0 [] 0 0] [] [(2, .val (.bool false))] ?_
  refine J_seq ?_
  refine J_seq ?_
  refine Za (Rds 0 4 ++ [.rd 4 [] 2 0, .rd 5 [] 2 0, .rd 6 [] 2 0, .rd 7 [] 0 3]) [] [(13, .val (.bool (decide ((↑s0.size : Int) < 1) || decide ((↑s0.size : Int) > 16))))] ?_
  refine J_cond (t := decide ((↑s0.size : Int) < 1) || decide ((↑s0.size : Int) > 16)) (by kernel_rfl) (by kernel_rfl) (fun hn => ?_) (fun hn => ?_)
  · have e : nameOk s0 = false := by simp at hn; simp [nameOk]; omega
    refine J_seq ?_
    refine Za [.rd 0 [] 0 0] [13] [] ?_
    refine Yr [[]] (.bool false) fun a w s => ?_
    rw [e]
    exact s.ret (by simp) [] [] rfl rfl
  · have e : nameOk s0 = !badL s0.data.toList := by simp at hn; simp [nameOk]; omega
    rw [e]
    have hz : s0.data.toList.length = s0.size := by simp
    have h16 : s0.size ≤ 16 := by simp at hn; omega
    refine J_skip ?_
    refine J_seq ?_
    refine J_seq ?_
    refine Za [.rd 0 [] 0 0] [13] [(3, .val (.int .i64 0))] ?_
    refine J_block ?_
    refine J_loopx (fun i : Int => [(0, .val (.string s0)), (2, .val (.bool false)), (3, .val (.int .i64 i))]) (fun i : Int => []) (fun i : Int => []) (fun i : Int => []) (fun i : Int => (s0.size - i).toNat) (fun i : Int => (0 ≤ i ∧ i ≤ s0.size ∧ ∀ j : Nat, j < i.toNat → ∀ b, s0.data.toList[j]? = some b → badC b.toNat = false)) 0 [0, 2, 3] [] [] [] ?_ (by kernel_rfl) rfl rfl rfl ?_
    · exact ⟨by simp, by omega, by simp⟩
    rintro i ⟨hi0, hi, hno⟩
    refine J_seq ?_
    refine J_seq ?_
    refine Za (Rds 0 4) [] [(17, .val (.bool (decide (i < (↑s0.size : Int)))))] ?_
    refine J_cond (t := decide (i < (↑s0.size : Int))) (by kernel_rfl) (by kernel_rfl) (fun hlt => ?_) (fun hlt => ?_)
    · have hlt2 : i < s0.size := by simpa using hlt
      obtain ⟨x, hx⟩ : ∃ x, s0.data.toList[i.toNat]? = some x := ⟨_, List.getElem?_eq_getElem (by omega)⟩
      refine J_skip ?_
      refine J_seq ?_
      refine J_block ?_
      refine J_seq ?_
      refine jT [(0, true), (1, true), (2, false), (3, true)] [] ?_
      refine Ya (id := 6) (rest := [(2, false), (3, true)]) [.rd 0 [] 0 0, .rd 1 [] 0 0] [17] [(20, .val (.string s0)), (21, .val (.int .i64 i))] ?_
      refine JR_idx 9 s0 i _ (some 22) (by kernel_rfl) (by kernel_rfl) hi0 hx ?_
      refine Ya (id := 6) (rest := []) [.rd 3 [] 0 0] [22, 20, 21] [(4, .val (.int .u8 (↑x.toNat : Int)))] ?_
      refine JR_end ?_
      refine J_seq ?_
      have back : ∀ c : Int, c = (x.toNat : Int) → badC c = false → ∀ j : Nat, j < (i + 1).toNat → ∀ b, s0.data.toList[j]? = some b → badC b.toNat = false := fun c hc hcf j hj b hb => by
        by_cases hji : j = i.toNat
        · subst hji
          rw [hx] at hb
          cases hb
          rw [← hc]
          exact hcf
        · exact hno j (by omega) b hb
      have bad : ∀ c : Int, c = (x.toNat : Int) → badC c = true → badL s0.data.toList = true := fun c hc hcf => List.any_eq_true.2 ⟨x, List.mem_of_getElem? hx, by rw [← hc]; exact hcf⟩
      obtain ⟨c, hc⟩ : ∃ c : Int, c = (x.toNat : Int) := ⟨_, rfl⟩
      rw [← hc]
      obtain h | h | h | h | h | h | h : c < 45 ∨ c = 45 ∨ (45 < c ∧ c < 48) ∨ (48 ≤ c ∧ c ≤ 57) ∨ (57 < c ∧ c < 97) ∨ (97 ≤ c ∧ c ≤ 122) ∨ 122 < c := by omega
      · refine Zp ([.rd 0 [] 0 0, .rd 1 [] 0 7, .rd 2 [] 0 0, .rd 3 [] 1 0, .rd 4 [] 1 0] ++ Rds 5 8 ++ [.rd 8 [] 0 7, .rd 9 [] 0 0, .rd 10 [] 1 0, .rd 11 [] 1 0] ++ Rds 12 16 ++ [.rd 16 [] 0 7, .rd 17 [] 0 0, .rd 18 [] 0 0]) [] [(5, .val (.bool false))] [decide (c ≥ (97 : Int)) = false, decide (c ≥ (48 : Int)) = false, (c == (45 : Int)) = false] ⟨by simp; omega, by simp; omega, by simp; omega, trivial⟩ ?_
        refine J_seq ?_
        refine Za [.rd 0 [] 0 0, .rd 1 [] 0 0] [] [(42, .val (.bool true))] ?_
        refine J_cond_t (by kernel_rfl) (by kernel_rfl) ?_
        refine J_seq ?_
        refine Za [.rd 0 [] 0 0] [42] [] ?_
        refine Yr [[]] (.bool false) fun a w s => ?_
        rw [bad c hc (by simp [badC]; omega)]
        exact s.ret (by simp) [] [] rfl rfl
      · refine Zp ([.rd 0 [] 0 0, .rd 1 [] 0 7, .rd 2 [] 0 0, .rd 3 [] 1 0, .rd 4 [] 1 0] ++ Rds 5 8 ++ [.rd 8 [] 0 7, .rd 9 [] 0 0, .rd 10 [] 1 0, .rd 11 [] 1 0] ++ Rds 12 16 ++ [.rd 16 [] 0 6, .rd 17 [] 0 0, .rd 18 [] 0 0]) [] [(5, .val (.bool true))] [decide (c ≥ (97 : Int)) = false, decide (c ≥ (48 : Int)) = false, (c == (45 : Int)) = true] ⟨by simp; omega, by simp; omega, by simp; omega, trivial⟩ ?_
        refine J_seq ?_
        refine Za [.rd 0 [] 0 0, .rd 1 [] 0 0] [] [(42, .val (.bool false))] ?_
        refine J_cond_f (by kernel_rfl) (by kernel_rfl) ?_
        refine J_skip ?_
        refine J_eb ?_
        refine Zp [.rd 0 [] 0 0, .rd 1 [] 0 1, .rd 2 [] 0 0] [42] [(3, .val (.int .i64 (i + 1)))] [IntKind.i64.wrap (i + (1 : Int)) = i + (1 : Int)] ⟨wrap_i64 (by omega) (by omega), trivial⟩ ?_
        refine J_backx (i + 1) [0, 2, 3] [] [] [] ?_ ?_ (by kernel_rfl) rfl rfl rfl
        · exact ⟨by omega, by omega, back c hc (by simp [badC]; omega)⟩
        · omega
      · refine Zp ([.rd 0 [] 0 0, .rd 1 [] 0 7, .rd 2 [] 0 0, .rd 3 [] 1 0, .rd 4 [] 1 0] ++ Rds 5 8 ++ [.rd 8 [] 0 7, .rd 9 [] 0 0, .rd 10 [] 1 0, .rd 11 [] 1 0] ++ Rds 12 16 ++ [.rd 16 [] 0 7, .rd 17 [] 0 0, .rd 18 [] 0 0]) [] [(5, .val (.bool false))] [decide (c ≥ (97 : Int)) = false, decide (c ≥ (48 : Int)) = false, (c == (45 : Int)) = false] ⟨by simp; omega, by simp; omega, by simp; omega, trivial⟩ ?_
        refine J_seq ?_
        refine Za [.rd 0 [] 0 0, .rd 1 [] 0 0] [] [(42, .val (.bool true))] ?_
        refine J_cond_t (by kernel_rfl) (by kernel_rfl) ?_
        refine J_seq ?_
        refine Za [.rd 0 [] 0 0] [42] [] ?_
        refine Yr [[]] (.bool false) fun a w s => ?_
        rw [bad c hc (by simp [badC]; omega)]
        exact s.ret (by simp) [] [] rfl rfl
      · refine Zp ([.rd 0 [] 0 0, .rd 1 [] 0 7, .rd 2 [] 0 0, .rd 3 [] 1 0, .rd 4 [] 1 0] ++ Rds 5 8 ++ [.rd 8 [] 0 6, .rd 9 [] 0 0, .rd 10 [] 0 0, .rd 11 [] 0 6] ++ Rds 12 15 ++ [.rd 15 [] 1 0, .rd 16 [] 1 0, .rd 17 [] 0 0, .rd 18 [] 0 0]) [] [(5, .val (.bool true))] [decide (c ≥ (97 : Int)) = false, decide (c ≥ (48 : Int)) = true, decide (c ≤ (57 : Int)) = true] ⟨by simp; omega, by simp; omega, by simp; omega, trivial⟩ ?_
        refine J_seq ?_
        refine Za [.rd 0 [] 0 0, .rd 1 [] 0 0] [] [(42, .val (.bool false))] ?_
        refine J_cond_f (by kernel_rfl) (by kernel_rfl) ?_
        refine J_skip ?_
        refine J_eb ?_
        refine Zp [.rd 0 [] 0 0, .rd 1 [] 0 1, .rd 2 [] 0 0] [42] [(3, .val (.int .i64 (i + 1)))] [IntKind.i64.wrap (i + (1 : Int)) = i + (1 : Int)] ⟨wrap_i64 (by omega) (by omega), trivial⟩ ?_
        refine J_backx (i + 1) [0, 2, 3] [] [] [] ?_ ?_ (by kernel_rfl) rfl rfl rfl
        · exact ⟨by omega, by omega, back c hc (by simp [badC]; omega)⟩
        · omega
      · refine Zp ([.rd 0 [] 0 0, .rd 1 [] 0 7, .rd 2 [] 0 0, .rd 3 [] 1 0, .rd 4 [] 1 0] ++ Rds 5 8 ++ [.rd 8 [] 0 6, .rd 9 [] 0 0, .rd 10 [] 0 0, .rd 11 [] 0 7] ++ Rds 12 16 ++ [.rd 16 [] 0 7, .rd 17 [] 0 0, .rd 18 [] 0 0]) [] [(5, .val (.bool false))] [decide (c ≥ (97 : Int)) = false, decide (c ≥ (48 : Int)) = true, decide (c ≤ (57 : Int)) = false, (c == (45 : Int)) = false] ⟨by simp; omega, by simp; omega, by simp; omega, by simp; omega, trivial⟩ ?_
        refine J_seq ?_
        refine Za [.rd 0 [] 0 0, .rd 1 [] 0 0] [] [(42, .val (.bool true))] ?_
        refine J_cond_t (by kernel_rfl) (by kernel_rfl) ?_
        refine J_seq ?_
        refine Za [.rd 0 [] 0 0] [42] [] ?_
        refine Yr [[]] (.bool false) fun a w s => ?_
        rw [bad c hc (by simp [badC]; omega)]
        exact s.ret (by simp) [] [] rfl rfl
      · refine Zp [.rd 0 [] 0 0, .rd 1 [] 0 6, .rd 2 [] 0 0, .rd 3 [] 0 0, .rd 4 [] 0 6, .rd 5 [] 0 0, .rd 6 [] 0 0, .rd 7 [] 1 0, .rd 8 [] 1 0, .rd 9 [] 1 0, .rd 10 [] 1 0, .rd 11 [] 1 0, .rd 12 [] 1 0, .rd 13 [] 0 0, .rd 14 [] 0 0, .rd 15 [] 1 0, .rd 16 [] 1 0, .rd 17 [] 0 0, .rd 18 [] 0 0] [] [(5, .val (.bool true))] [decide (c ≥ (97 : Int)) = true, decide (c ≤ (122 : Int)) = true] ⟨by simp; omega, by simp; omega, trivial⟩ ?_
        refine J_seq ?_
        refine Za [.rd 0 [] 0 0, .rd 1 [] 0 0] [] [(42, .val (.bool false))] ?_
        refine J_cond_f (by kernel_rfl) (by kernel_rfl) ?_
        refine J_skip ?_
        refine J_eb ?_
        refine Zp [.rd 0 [] 0 0, .rd 1 [] 0 1, .rd 2 [] 0 0] [42] [(3, .val (.int .i64 (i + 1)))] [IntKind.i64.wrap (i + (1 : Int)) = i + (1 : Int)] ⟨wrap_i64 (by omega) (by omega), trivial⟩ ?_
        refine J_backx (i + 1) [0, 2, 3] [] [] [] ?_ ?_ (by kernel_rfl) rfl rfl rfl
        · exact ⟨by omega, by omega, back c hc (by simp [badC]; omega)⟩
        · omega
      · refine Zp ([.rd 0 [] 0 0, .rd 1 [] 0 6, .rd 2 [] 0 0, .rd 3 [] 0 0, .rd 4 [] 0 7] ++ Rds 5 8 ++ [.rd 8 [] 0 6, .rd 9 [] 0 0, .rd 10 [] 0 0, .rd 11 [] 0 7] ++ Rds 12 16 ++ [.rd 16 [] 0 7, .rd 17 [] 0 0, .rd 18 [] 0 0]) [] [(5, .val (.bool false))] [decide (c ≥ (97 : Int)) = true, decide (c ≤ (122 : Int)) = false, decide (c ≥ (48 : Int)) = true, decide (c ≤ (57 : Int)) = false, (c == (45 : Int)) = false] ⟨by simp; omega, by simp; omega, by simp; omega, by simp; omega, by simp; omega, trivial⟩ ?_
        refine J_seq ?_
        refine Za [.rd 0 [] 0 0, .rd 1 [] 0 0] [] [(42, .val (.bool true))] ?_
        refine J_cond_t (by kernel_rfl) (by kernel_rfl) ?_
        refine J_seq ?_
        refine Za [.rd 0 [] 0 0] [42] [] ?_
        refine Yr [[]] (.bool false) fun a w s => ?_
        rw [bad c hc (by simp [badC]; omega)]
        exact s.ret (by simp) [] [] rfl rfl
    · have e2 : badL s0.data.toList = false := by
        unfold badL
        rw [List.any_eq_false]
        intro t ht
        obtain ⟨j, hj⟩ := List.getElem?_of_mem ht
        have hjl := (List.getElem?_eq_some_iff.1 hj).1
        simp [hno j (by simp at hlt; omega) t hj]
      refine J_exit rfl ?_
      refine J_seq ?_
      refine Za [.rd 0 [] 0 0] [17, 0, 3] [(2, .val (.bool true))] ?_
      refine Yr [[]] (.bool true) fun a w s => ?_
      rw [e2]
      exact s.ret (by simp) [] [] rfl rfl
end Go.Proofs.YtehdegekgdlifaaDoor
end
section
namespace Go.Proofs.YtehdegekgdlifaaDoor
open Go Go.Sx
abbrev globs (er : Nat → Addr) : List (Value × D) := [(.nilIface, .v .nilIface), dE 156 er 1 2, dE 156 er 3 3]
def badT (t : Int) : Bool := decide (t < 0) || decide (1099511627776 < t)
def vecErr (xs : List Int) : Nat := if xs.length < 1 ∨ 6 < xs.length then 3 else if xs.any badT then 2 else 0
set_option maxHeartbeats 4000000 in
theorem check1 {w : World} {S : Nat → Prop} {t : Int} : Calls Tryd.prog 50 #[.int .i64 t] w fun e w' => Ret [] w S w' e (.bool (badT t)) [] [] := by
  refine ep50 (args := [.int .i64 t]) (G := []) (by kernel_rfl) (AllG.nil w S) ?_
  refine J_seq ?_
  refine Za [.rd 0 [] 0 0] [] [(2, .val (.bool false))] ?_
  refine J_seq ?_
  refine Za (Rds 0 3 ++ [.rd 3 [] 2 0, .rd 4 [] 2 0, .rd 5 [] 0 3, .rd 6 [] 0 0]) [0] [(2, .val (.bool (decide (t < 0) || decide (t > 1099511627776))))] ?_
  refine Yr [[]] (.bool (decide (t < 0) || decide (t > 1099511627776))) fun a w s => ?_
  exact s.ret (by simp) [] [] rfl rfl
set_option maxHeartbeats 4000000 in
theorem indexBad {w : World} {S : Nat → Prop} {a : Option Addr} {n c : Nat} {xs : List Int} (h : Rep w S (.slice a n c) (dInts xs)) (hl : xs.length ≤ 1000000) :
    Calls Tryd.prog 64 #[.slice a n c, .func (.func 50) #[] #[]] w fun e w' => ∃ r, Ret [] w S w' e (.int .i64 r) [] [] ∧ decide (0 ≤ r) = xs.any badT := by
  obtain rfl := rep_ints_len h
  refine ep64 (args := [.slice a xs.length c, .func (.func 50) #[] #[]]) (G := [(_, dInts xs)]) (by kernel_rfl) (.cons h (.nil _ _)) ?_
  refine J_seq ?_
  refine Za [.rd 0 [] 0 0] [] [(4, .val (.int .i64 0))] ?_
  refine J_seq ?_
  refine J_seq ?_
  refine Za (Rds 0 3) [] [(7, .val (.int .i64 (↑xs.length : Int))), (8, .val (.int .i64 0))] ?_
  refine J_block ?_
  refine J_loopx (fun i : Int => [(0, .val (.slice a xs.length c)), (1, .val (.func (.func 50) #[] #[])), (4, .val (.int .i64 0)), (7, .val (.int .i64 (↑xs.length : Int))), (8, .val (.int .i64 i))]) (fun i : Int => []) (fun i : Int => []) (fun i : Int => [(.slice a xs.length c, (dInts xs))]) (fun i : Int => (xs.length - i).toNat) (fun i : Int => (0 ≤ i ∧ i ≤ xs.length ∧ ∀ j : Nat, j < i.toNat → ∀ t, xs[j]? = some t → badT t = false)) 0 [0, 1, 4, 7, 8] [] [] [0] ?_ (by kernel_rfl) rfl rfl rfl ?_
  · exact ⟨by simp, by omega, by simp⟩
  rintro i ⟨hi0, hi, hno⟩
  refine J_seq ?_
  refine Za [.rd 0 [] 0 0] [] [(9, .val (.bool (decide (i < (↑xs.length : Int)))))] ?_
  refine J_seq ?_
  refine J_cond (t := decide (i < (↑xs.length : Int))) (by kernel_rfl) (by kernel_rfl) (fun hlt => ?_) (fun hlt => ?_)
  · have hlt2 : i < xs.length := by simpa using hlt
    obtain ⟨x, hx⟩ : ∃ x, xs[i.toNat]? = some x := ⟨_, List.getElem?_eq_getElem (by omega)⟩
    refine J_read0 0 rfl i.toNat (map_at hx) (by kernel_rfl) (fun b1 off1 cs1 ty1 fz1 ha1 hrd1 => ?_)
    cases ha1
    have hrd1_0 := rd0 (hrd1 0 _ rfl)
    try simp only [aQ]
    refine J_skip ?_
    refine J_seq ?_
    refine J_block ?_
    refine J_seq ?_
    refine Za [.rd 0 [] 0 0, .rd 1 [] 0 0] [9] [(5, .val (.int .i64 i))] ?_
    refine J_seq ?_
    refine jT [(0, true), (1, true), (2, true), (3, true), (4, true), (5, false)] [] ?_
    refine Yp (id := 4) (rest := [(5, false)]) (Rds 0 3 ++ [.rd 3 [] 0 2, .rd 4 [.r 0 (some (.int .i64 x))] 0 0]) [] [(11, .val (.func (.func 50) #[] #[])), (15, .val (.int .i64 x))] [(0 : Int) ≤ i, i < (↑xs.length : Int), cs1[off1 + i.toNat * (1 : Nat)]? = some (Value.int IntKind.i64 x)] ⟨hi0, hlt2, hrd1_0, trivial⟩ ?_
    refine Yc 50 #[.int .i64 x] (some 16) fun w S hG => ?_
    refine (check1 (S := S)).mono ?_
    rintro e w2 hR
    refine ⟨_, _, _, hR, ?_⟩
    try simp only [aQ]
    refine JR_end ?_
    refine J_cond (t := badT x) (by kernel_rfl) (by kernel_rfl) (fun hb => ?_) (fun hb => ?_)
    · refine J_seq ?_
      refine Za [.rd 0 [] 0 0, .rd 1 [] 0 0] [16] [(4, .val (.int .i64 i))] ?_
      refine Yr [[]] (.int .i64 i) fun a w s => ?_
      refine ⟨_, s.ret (by simp) [] [] rfl rfl, ?_⟩
      rw [List.any_eq_true.2 ⟨x, List.mem_of_getElem? hx, hb⟩]
      simpa using hi0
    · refine J_skip ?_
      refine J_eb ?_
      refine Zp [.rd 0 [] 0 1, .rd 1 [] 0 0] [16] [(8, .val (.int .i64 (i + 1)))] [IntKind.i64.wrap (i + (1 : Int)) = i + (1 : Int)] ⟨wrap_i64 (by omega) (by omega), trivial⟩ ?_
      refine J_backx (i + 1) [0, 1, 4, 7, 8] [] [] [0] ?_ ?_ (by kernel_rfl) rfl rfl rfl
      · refine ⟨by omega, by omega, fun j hj t ht => ?_⟩
        by_cases hji : j = i.toNat
        · subst hji
          rw [hx] at ht
          cases ht
          exact hb
        · exact hno j (by omega) t ht
      · omega
  · refine J_exit rfl ?_
    refine J_seq ?_
    refine Za [.rd 0 [] 0 0] [9, 0, 1, 7, 8] [(4, .val (.int .i64 (-1)))] ?_
    refine Yr [[]] (.int .i64 (-1)) fun a w s => ?_
    refine ⟨_, s.ret (by simp) [] [] rfl rfl, ?_⟩
    have e : xs.any badT = false := by
      rw [List.any_eq_false]
      intro t ht
      obtain ⟨j, hj⟩ := List.getElem?_of_mem ht
      have hjl := (List.getElem?_eq_some_iff.1 hj).1
      simp [hno j (by simp at hlt; omega) t hj]
    rw [e]
    decide
set_option maxHeartbeats 4000000 in
theorem containsBad {w : World} {S : Nat → Prop} {a : Option Addr} {n c : Nat} {xs : List Int} (h : Rep w S (.slice a n c) (dInts xs)) (hl : xs.length ≤ 1000000) :
    Calls Tryd.prog 49 #[.slice a n c, .func (.func 50) #[] #[]] w fun e w' => Ret [] w S w' e (.bool (xs.any badT)) [] [] := by
  refine ep49 (args := [.slice a n c, .func (.func 50) #[] #[]]) (G := [(_, dInts xs)]) (by kernel_rfl) (.cons h (.nil _ _)) ?_
  refine J_seq ?_
  refine Za [.rd 0 [] 0 0] [] [(4, .val (.bool false))] ?_
  refine J_seq ?_
  refine jT [(0, true), (1, true), (2, false), (3, true), (4, true)] [] ?_
  refine Ya (id := 1) (rest := [(2, false), (3, true), (4, true)]) [.rd 0 [] 0 0, .rd 1 [] 0 0] [0, 1] [(5, .val (.slice a n c)), (6, .val (.func (.func 50) #[] #[]))] ?_
  refine Yc 64 #[.slice a n c, .func (.func 50) #[] #[]] (some 7) fun w S hG => ?_
  refine (indexBad (hG.at 0 rfl) hl).mono ?_
  rintro e w2 ⟨r, hR, hr⟩
  refine ⟨_, _, _, hR, ?_⟩
  try simp only [aQ]
  refine Ya (id := 1) (rest := []) [.rd 3 [] 0 0, .rd 4 [] 0 0] [7, 5, 6] [(4, .val (.bool (decide (r ≥ 0))))] ?_
  refine JR_end ?_
  refine Yr [[]] (.bool (decide (r ≥ 0))) fun a w s => ?_
  rw [← hr]
  exact s.ret (by simp) [] [] rfl rfl
set_option maxHeartbeats 4000000 in
theorem vcheck {w : World} {S : Nat → Prop} {er : Nat → Addr} {a : Option Addr} {n c : Nat} {xs : List Int} (hE : AllG w S (globs er)) (h : Rep w S (.slice a n c) (dInts xs)) (hl : xs.length ≤ 1000000) :
    Calls Tryd.prog 31 #[.slice a n c] w fun e w' => ∃ v, Ret [] w S w' e v [] [] ∧ ErrIs 156 er (vecErr xs) v := by
  obtain rfl := rep_ints_len h
  refine ep31 (args := [.slice a xs.length c]) (G := globs er ++ [(_, dInts xs)]) (by kernel_rfl) (hE.app (.cons h (.nil _ _))) ?_
  refine J_glob 1 rfl (fun csg1 tyg1 fzg1 hglob1 => ?_)
  refine J_glob 2 rfl (fun csg2 tyg2 fzg2 hglob2 => ?_)
  try simp only [aQ]
  refine J_seq ?_
  refine Za [.rd 0 [] 0 0] [] [(2, .val (.nilIface))] ?_
  refine J_seq ?_
  refine J_seq ?_
  refine Za (Rds 0 4 ++ [.rd 4 [] 2 0, .rd 5 [] 2 0, .rd 6 [] 2 0, .rd 7 [] 0 3]) [] [(10, .val (.bool (decide ((↑xs.length : Int) < 1) || decide ((↑xs.length : Int) > 6))))] ?_
  refine J_cond (t := decide ((↑xs.length : Int) < 1) || decide ((↑xs.length : Int) > 6)) (by kernel_rfl) (by kernel_rfl) (fun hn => ?_) (fun hn => ?_)
  · refine J_seq ?_
    refine Zp [.rd 0 [.r 1 (some (.iface 156 (.pointer (some (er 3)))))] 0 0, .rd 1 [] 0 0] [10] [(2, .val (.iface 156 (.pointer (some (er 3)))))] [csg2[(0 : Nat)]? = some (Value.iface (156 : Nat) (Value.pointer (some (er (3 : Nat)))))] ⟨hglob2, trivial⟩ ?_
    refine Yr [[]] (.iface 156 (.pointer (some (er 3)))) fun a w s => ?_
    refine ⟨_, s.ret (by simp) [] [] rfl rfl, .inr ⟨?_, ?_⟩⟩ <;> rw [vecErr, if_pos (by simp at hn; omega)]
    · decide
  · have hn2 : ¬ (xs.length < 1 ∨ 6 < xs.length) := by simp at hn; omega
    refine J_skip ?_
    refine J_seq ?_
    refine J_seq ?_
    refine jT [(0, true), (1, false)] [] ?_
    refine Ya (id := 3) (rest := [(1, false)]) [.rd 0 [] 0 0] [10, 0] [(12, .val (.slice a xs.length c))] ?_
    refine Yc 49 #[.slice a xs.length c, .func (.func 50) #[] #[]] (some 13) fun w S hG => ?_
    refine (containsBad (hG.at 3 rfl) hl).mono ?_
    rintro e w2 hR
    refine ⟨_, _, _, hR, ?_⟩
    try simp only [aQ]
    refine JR_end ?_
    refine J_cond (t := xs.any badT) (by kernel_rfl) (by kernel_rfl) (fun hb => ?_) (fun hb => ?_)
    · refine J_seq ?_
      refine Zp [.rd 0 [.r 0 (some (.iface 156 (.pointer (some (er 2)))))] 0 0, .rd 1 [] 0 0] [13, 12] [(2, .val (.iface 156 (.pointer (some (er 2)))))] [csg1[(0 : Nat)]? = some (Value.iface (156 : Nat) (Value.pointer (some (er (2 : Nat)))))] ⟨hglob1, trivial⟩ ?_
      refine Yr [[]] (.iface 156 (.pointer (some (er 2)))) fun a w s => ?_
      refine ⟨_, s.ret (by simp) [] [] rfl rfl, .inr ⟨?_, ?_⟩⟩ <;> rw [vecErr, if_neg hn2, if_pos hb]
      · decide
    · refine J_skip ?_
      refine J_seq ?_
      refine Za [.rd 0 [] 0 0] [13, 12] [] ?_
      refine Yr [[]] (.nilIface) fun a w s => ?_
      exact ⟨_, s.ret (by simp) [] [] rfl rfl, .inl ⟨by rw [vecErr, if_neg hn2, hb]; rfl, rfl⟩⟩
end Go.Proofs.YtehdegekgdlifaaDoor
end
section
namespace Go.Proofs.YtehdegekgdlifaaDoor
open Go Go.Sx
def twoErr (xs ys : List Int) : Nat := if vecErr xs ≠ 0 then vecErr xs else if vecErr ys ≠ 0 then vecErr ys else if xs.length ≠ ys.length then 3 else 0
theorem vecErr_len {xs : List Int} (h : vecErr xs = 0) : 1 ≤ xs.length ∧ xs.length ≤ 6 := by
  unfold vecErr at h
  split at h
  · cases h
  · omega
set_option maxHeartbeats 4000000 in
theorem vtwo {w : World} {S : Nat → Prop} {er : Nat → Addr} {a b : Option Addr} {n m c d : Nat} {xs ys : List Int} (hE : AllG w S (globs er)) (ha : Rep w S (.slice a n c) (dInts xs)) (hb : Rep w S (.slice b m d) (dInts ys)) (hl : xs.length ≤ 1000000) (hl2 : ys.length ≤ 1000000) :
    Calls Tryd.prog 51 #[.slice a n c, .slice b m d] w fun e w' => ∃ v, Ret [] w S w' e v [] [] ∧ ErrIs 156 er (twoErr xs ys) v := by
  obtain rfl := rep_ints_len ha
  obtain rfl := rep_ints_len hb
  refine ep51 (args := [.slice a xs.length c, .slice b ys.length d]) (G := globs er ++ [(_, dInts xs), (_, dInts ys)]) (by kernel_rfl) (hE.app (.cons ha (.cons hb (.nil _ _)))) ?_
  refine J_glob 2 rfl (fun csg1 tyg1 fzg1 hglob1 => ?_)
  try simp only [aQ]
  refine J_seq ?_
  refine Za [.rd 0 [] 0 0] [] [(4, .val (.nilIface))] ?_
  refine J_seq ?_
  refine J_seq ?_
  refine Zm [.rd 0 [] 0 0, .rd 1 [] 0 0, .wr 2 [] 0, .rd 3 [] 0 0, .rd 4 [] 0 0] [] [] (fun nu1 => [(10, .val (.slice (some (⟨nu1 0, 0, none⟩)) 2 2)), (11, .val (.int .i64 2)), (12, .val (.int .i64 0))]) (fun nu1 => [(nu1 0, .cells #[.slice a xs.length c, .slice b ys.length d] 34 (0, 0))]) (fun nu1 => ?_)
  refine J_block ?_
  refine J_loopx (fun i : Int => [(0, .val (.slice a xs.length c)), (1, .val (.slice b ys.length d)), (4, .val (.nilIface)), (10, .val (.slice (some (⟨nu1 0, 0, none⟩)) 2 2)), (11, .val (.int .i64 2)), (12, .val (.int .i64 i))]) (fun i : Int => [(nu1 0, .cells #[.slice a xs.length c, .slice b ys.length d] 34 (0, 0))]) (fun i : Int => []) (fun i : Int => [(.nilIface, (D.v Value.nilIface)), (.pointer (some (⟨1, 0, none⟩)), (D.ptr [D.v (Value.iface 156 (Value.pointer (some (er 2))))])), (.pointer (some (⟨3, 0, none⟩)), (D.ptr [D.v (Value.iface 156 (Value.pointer (some (er 3))))])), (.slice a xs.length c, (dInts xs)), (.slice b ys.length d, (dInts ys))]) (fun i : Int => (2 - i).toNat) (fun i : Int => (i = 0 ∨ (i = 1 ∧ vecErr xs = 0) ∨ (i = 2 ∧ vecErr xs = 0 ∧ vecErr ys = 0))) 0 [0, 1, 4, 10, 11, 12] [0] [] [0, 1, 2, 3, 4] ?_ (by kernel_rfl) rfl rfl rfl ?_
  · exact .inl rfl
  rintro i (rfl | ⟨rfl, h0⟩ | ⟨rfl, h0, h1⟩)
  · refine J_seq ?_
    refine Za [.rd 0 [] 0 0] [] [(13, .val (.bool true))] ?_
    refine J_seq ?_
    refine J_cond_t (by kernel_rfl) (by kernel_rfl) ?_
    refine J_skip ?_
    refine J_seq ?_
    refine J_block ?_
    refine J_seq ?_
    refine Za [.rd 0 [] 0 0, .rd 1 [.o 0 none] 0 0, .rd 2 [] 0 0] [13] [(6, .val (.slice a xs.length c))] ?_
    refine J_seq ?_
    refine jT [(0, true), (1, false), (2, true)] [] ?_
    refine Ya (id := 4) (rest := [(1, false), (2, true)]) [.rd 0 [] 0 0] [] [(16, .val (.slice a xs.length c))] ?_
    refine Yc 31 #[.slice a xs.length c] (some 17) fun w S hG => ?_
    refine (vcheck (hG.pick [0, 1, 2] rfl) (hG.at 3 rfl) hl).mono ?_
    rintro e w2 ⟨v, hR, ⟨h2, rfl⟩ | ⟨h2, rfl⟩⟩
    · refine ⟨_, _, _, hR, ?_⟩
      try simp only [aQ]
      refine Ya (id := 4) (rest := []) [.rd 2 [] 0 0] [17, 16] [(7, .val (.nilIface))] ?_
      refine JR_end ?_
      refine J_seq ?_
      refine Za [.rd 0 [] 0 0, .rd 1 [] 0 0] [] [(19, .val (.bool false))] ?_
      refine J_cond_f (by kernel_rfl) (by kernel_rfl) ?_
      refine J_skip ?_
      refine J_eb ?_
      refine Za [.rd 0 [] 0 0, .rd 1 [] 0 0] [19] [(12, .val (.int .i64 1))] ?_
      refine J_backx 1 [0, 1, 4, 10, 11, 12] [0] [] [0, 1, 2, 3, 4] ?_ ?_ (by kernel_rfl) rfl rfl rfl
      · exact .inr (.inl ⟨rfl, h2⟩)
      · omega
    · refine ⟨_, _, _, hR, ?_⟩
      try simp only [aQ]
      refine Ya (id := 4) (rest := []) [.rd 2 [] 0 0] [17, 16] [(7, .val (.iface 156 (.pointer (some (er (vecErr xs))))))] ?_
      refine JR_end ?_
      refine J_seq ?_
      refine Za [.rd 0 [] 0 0, .rd 1 [] 0 0] [] [(19, .val (.bool true))] ?_
      refine J_cond_t (by kernel_rfl) (by kernel_rfl) ?_
      refine J_seq ?_
      refine Za [.rd 0 [] 0 0, .rd 1 [] 0 0] [19] [(4, .val (.iface 156 (.pointer (some (er (vecErr xs))))))] ?_
      refine Yr [[]] (.iface 156 (.pointer (some (er (vecErr xs))))) fun a w s => ?_
      exact ⟨_, s.ret (by simp) [] [] rfl rfl, .inr (by rw [twoErr, if_pos h2]; exact ⟨h2, rfl⟩)⟩
  · refine J_seq ?_
    refine Za [.rd 0 [] 0 0] [] [(13, .val (.bool true))] ?_
    refine J_seq ?_
    refine J_cond_t (by kernel_rfl) (by kernel_rfl) ?_
    refine J_skip ?_
    refine J_seq ?_
    refine J_block ?_
    refine J_seq ?_
    refine Za [.rd 0 [] 0 0, .rd 1 [.o 0 none] 0 0, .rd 2 [] 0 0] [13] [(6, .val (.slice b ys.length d))] ?_
    refine J_seq ?_
    refine jT [(0, true), (1, false), (2, true)] [] ?_
    refine Ya (id := 4) (rest := [(1, false), (2, true)]) [.rd 0 [] 0 0] [] [(16, .val (.slice b ys.length d))] ?_
    refine Yc 31 #[.slice b ys.length d] (some 17) fun w S hG => ?_
    refine (vcheck (hG.pick [0, 1, 2] rfl) (hG.at 4 rfl) hl2).mono ?_
    rintro e w2 ⟨v, hR, ⟨h2, rfl⟩ | ⟨h2, rfl⟩⟩
    · refine ⟨_, _, _, hR, ?_⟩
      try simp only [aQ]
      refine Ya (id := 4) (rest := []) [.rd 2 [] 0 0] [17, 16] [(7, .val (.nilIface))] ?_
      refine JR_end ?_
      refine J_seq ?_
      refine Za [.rd 0 [] 0 0, .rd 1 [] 0 0] [] [(19, .val (.bool false))] ?_
      refine J_cond_f (by kernel_rfl) (by kernel_rfl) ?_
      refine J_skip ?_
      refine J_eb ?_
      refine Za [.rd 0 [] 0 0, .rd 1 [] 0 0] [19] [(12, .val (.int .i64 2))] ?_
      refine J_backx 2 [0, 1, 4, 10, 11, 12] [0] [] [0, 1, 2, 3, 4] ?_ ?_ (by kernel_rfl) rfl rfl rfl
      · exact .inr (.inr ⟨rfl, h0, h2⟩)
      · omega
    · refine ⟨_, _, _, hR, ?_⟩
      try simp only [aQ]
      refine Ya (id := 4) (rest := []) [.rd 2 [] 0 0] [17, 16] [(7, .val (.iface 156 (.pointer (some (er (vecErr ys))))))] ?_
      refine JR_end ?_
      refine J_seq ?_
      refine Za [.rd 0 [] 0 0, .rd 1 [] 0 0] [] [(19, .val (.bool true))] ?_
      refine J_cond_t (by kernel_rfl) (by kernel_rfl) ?_
      refine J_seq ?_
      refine Za [.rd 0 [] 0 0, .rd 1 [] 0 0] [19] [(4, .val (.iface 156 (.pointer (some (er (vecErr ys))))))] ?_
      refine Yr [[]] (.iface 156 (.pointer (some (er (vecErr ys))))) fun a w s => ?_
      exact ⟨_, s.ret (by simp) [] [] rfl rfl, .inr (by rw [twoErr, if_neg (by simp [h0]), if_pos h2]; exact ⟨h2, rfl⟩)⟩
  · refine J_seq ?_
    refine Za [.rd 0 [] 0 0] [] [(13, .val (.bool false))] ?_
    refine J_seq ?_
    refine J_cond_f (by kernel_rfl) (by kernel_rfl) ?_
    refine J_exit rfl ?_
    refine J_seq ?_
    refine J_seq ?_
    refine Za (Rds 0 5) [13, 0, 1, 10, 11, 12] [(26, .val (.bool ((↑xs.length : Int) != (↑ys.length : Int))))] ?_
    refine J_cond (t := (↑xs.length : Int) != (↑ys.length : Int)) (by kernel_rfl) (by kernel_rfl) (fun hne => ?_) (fun hne => ?_)
    · refine J_seq ?_
      refine Zp [.rd 0 [.r 0 (some (.iface 156 (.pointer (some (er 3)))))] 0 0, .rd 1 [] 0 0] [26] [(4, .val (.iface 156 (.pointer (some (er 3)))))] [csg1[(0 : Nat)]? = some (Value.iface (156 : Nat) (Value.pointer (some (er (3 : Nat)))))] ⟨hglob1, trivial⟩ ?_
      refine Yr [[]] (.iface 156 (.pointer (some (er 3)))) fun a w s => ?_
      exact ⟨_, s.ret (by simp) [] [] rfl rfl, .inr (by rw [twoErr, if_neg (by simp [h0]), if_neg (by simp [h1]), if_pos (by simp at hne; omega)]; exact ⟨by decide, rfl⟩)⟩
    · refine J_skip ?_
      refine J_seq ?_
      refine Za [.rd 0 [] 0 0] [26] [] ?_
      refine Yr [[]] (.nilIface) fun a w s => ?_
      exact ⟨_, s.ret (by simp) [] [] rfl rfl, .inl ⟨by rw [twoErr, if_neg (by simp [h0]), if_neg (by simp [h1]), if_neg (by simp at hne; omega)], rfl⟩⟩
def inL (xs ys : List Int) : Bool := (xs.zip ys).all fun p => decide (p.1 ≤ p.2)
theorem inL_true {xs ys : List Int} (hl : xs.length = ys.length) (h : ∀ (j : Nat) x y, xs[j]? = some x → ys[j]? = some y → x ≤ y) : inL xs ys = true := by
  unfold inL
  rw [List.all_eq_true]
  rintro ⟨x, y⟩ hm
  obtain ⟨j, hj⟩ := List.getElem?_of_mem hm
  rw [List.getElem?_zip_eq_some] at hj
  simpa using h j x y hj.1 hj.2
theorem inL_false {xs ys : List Int} {j : Nat} {x y : Int} (hx : xs[j]? = some x) (hy : ys[j]? = some y) (h : y < x) : inL xs ys = false := by
  unfold inL
  rw [List.all_eq_false]
  exact ⟨(x, y), List.mem_of_getElem? (List.getElem?_zip_eq_some.2 ⟨hx, hy⟩), by simpa using h⟩
set_option maxHeartbeats 4000000 in
theorem vin {w : World} {S : Nat → Prop} {a b : Option Addr} {n m c d : Nat} {xs ys : List Int} (ha : Rep w S (.slice a n c) (dInts xs)) (hb : Rep w S (.slice b m d) (dInts ys)) (hl : xs.length ≤ 1000000) (hxy : xs.length = ys.length) :
    Calls Tryd.prog 52 #[.slice a n c, .slice b m d] w fun e w' => Ret [] w S w' e (.bool (inL xs ys)) [] [] := by
  obtain rfl := rep_ints_len ha
  obtain rfl := rep_ints_len hb
  refine ep52 (args := [.slice a xs.length c, .slice b ys.length d]) (G := [(_, dInts xs), (_, dInts ys)]) (by kernel_rfl) (.cons ha (.cons hb (.nil _ _))) ?_
  refine J_seq ?_
  refine Za [.rd 0 [] 0 0] [] [(4, .val (.bool false))] ?_
  refine J_seq ?_
  refine J_seq ?_
  refine Za (Rds 0 3) [0] [(7, .val (.slice a xs.length c)), (8, .val (.int .i64 (↑xs.length : Int))), (9, .val (.int .i64 0))] ?_
  refine J_block ?_
  refine J_loopx (fun i : Int => [(1, .val (.slice b ys.length d)), (4, .val (.bool false)), (7, .val (.slice a xs.length c)), (8, .val (.int .i64 (↑xs.length : Int))), (9, .val (.int .i64 i))]) (fun i : Int => []) (fun i : Int => []) (fun i : Int => [(.slice a xs.length c, (dInts xs)), (.slice b ys.length d, (dInts ys))]) (fun i : Int => (xs.length - i).toNat) (fun i : Int => (0 ≤ i ∧ i ≤ xs.length ∧ ∀ j : Nat, j < i.toNat → ∀ x y, xs[j]? = some x → ys[j]? = some y → x ≤ y)) 0 [1, 4, 7, 8, 9] [] [] [0, 1] ?_ (by kernel_rfl) rfl rfl rfl ?_
  · exact ⟨by simp, by omega, by simp⟩
  rintro i ⟨hi0, hi, hno⟩
  refine J_seq ?_
  refine Za [.rd 0 [] 0 0] [] [(10, .val (.bool (decide (i < (↑xs.length : Int)))))] ?_
  refine J_seq ?_
  refine J_cond (t := decide (i < (↑xs.length : Int))) (by kernel_rfl) (by kernel_rfl) (fun hlt => ?_) (fun hlt => ?_)
  · have hlt2 : i < xs.length := by simpa using hlt
    obtain ⟨x, hx⟩ : ∃ x, xs[i.toNat]? = some x := ⟨_, List.getElem?_eq_getElem (by omega)⟩
    obtain ⟨y, hy⟩ : ∃ y, ys[i.toNat]? = some y := ⟨_, List.getElem?_eq_getElem (by omega)⟩
    refine J_read0 0 rfl i.toNat (map_at hx) (by kernel_rfl) (fun b1 off1 cs1 ty1 fz1 ha1 hrd1 => ?_)
    cases ha1
    have hrd1_0 := rd0 (hrd1 0 _ rfl)
    refine J_read0 1 rfl i.toNat (map_at hy) (by kernel_rfl) (fun b2 off2 cs2 ty2 fz2 ha2 hrd2 => ?_)
    cases ha2
    have hrd2_0 := rd0 (hrd2 0 _ rfl)
    try simp only [aQ]
    refine J_skip ?_
    refine J_seq ?_
    refine J_block ?_
    refine J_seq ?_
    refine Zp [.rd 0 [] 0 0, .rd 1 [] 0 2, .rd 2 [.r 0 (some (.int .i64 x))] 0 0, .rd 3 [] 0 0, .rd 4 [] 0 0] [10] [(5, .val (.int .i64 i)), (6, .val (.int .i64 x))] [(0 : Int) ≤ i, i < (↑xs.length : Int), cs1[off1 + i.toNat * (1 : Nat)]? = some (Value.int IntKind.i64 x)] ⟨hi0, hlt2, hrd1_0, trivial⟩ ?_
    refine J_seq ?_
    refine Zp (Rds 0 3 ++ [.rd 3 [] 0 2, .rd 4 [.r 1 (some (.int .i64 y))] 0 0, .rd 5 [] 0 0]) [] [(19, .val (.bool (decide (x > y))))] [(0 : Int) ≤ i, i < (↑ys.length : Int), cs2[off2 + i.toNat * (1 : Nat)]? = some (Value.int IntKind.i64 y)] ⟨hi0, by omega, hrd2_0, trivial⟩ ?_
    refine J_cond (t := decide (x > y)) (by kernel_rfl) (by kernel_rfl) (fun hgt => ?_) (fun hgt => ?_)
    · refine J_seq ?_
      refine Za [.rd 0 [] 0 0] [19] [] ?_
      refine Yr [[]] (.bool false) fun a w s => ?_
      rw [inL_false hx hy (by simpa using hgt)]
      exact s.ret (by simp) [] [] rfl rfl
    · refine J_skip ?_
      refine J_eb ?_
      refine Zp [.rd 0 [] 0 1, .rd 1 [] 0 0] [19] [(9, .val (.int .i64 (i + 1)))] [IntKind.i64.wrap (i + (1 : Int)) = i + (1 : Int)] ⟨wrap_i64 (by omega) (by omega), trivial⟩ ?_
      refine J_backx (i + 1) [1, 4, 7, 8, 9] [] [] [0, 1] ?_ ?_ (by kernel_rfl) rfl rfl rfl
      · refine ⟨by omega, by omega, fun j hj x' y' hx' hy' => ?_⟩
        by_cases hji : j = i.toNat
        · subst hji
          rw [hx] at hx'
          rw [hy] at hy'
          cases hx'
          cases hy'
          simpa using hgt
        · exact hno j (by omega) x' y' hx' hy'
      · omega
  · refine J_exit rfl ?_
    refine J_seq ?_
    refine Za [.rd 0 [] 0 0] [10, 1, 7, 8, 9] [(4, .val (.bool true))] ?_
    refine Yr [[]] (.bool true) fun a w s => ?_
    rw [inL_true hxy fun j x y hx hy => hno j (by have := (List.getElem?_eq_some_iff.1 hx).1; simp at hlt; omega) x y hx hy]
    exact s.ret (by simp) [] [] rfl rfl
end Go.Proofs.YtehdegekgdlifaaDoor
end
section
namespace Go.Proofs.YtehdegekgdlifaaDoor
open Go Go.Sx
theorem twoErr_fine {xs ys : List Int} (h : twoErr xs ys = 0) : vecErr xs = 0 ∧ vecErr ys = 0 ∧ xs.length = ys.length := by
  unfold twoErr at h
  split at h
  · exact absurd h ‹_›
  · split at h
    · exact absurd h ‹_›
    · split at h
      · cases h
      · rename_i h1 h2 h3
        exact ⟨by simpa using h1, by simpa using h2, by omega⟩
set_option maxHeartbeats 4000000 in
theorem vwithin {w : World} {S : Nat → Prop} {er : Nat → Addr} {a b : Option Addr} {n m c d : Nat} {xs ys : List Int} (hE : AllG w S (globs er)) (ha : Rep w S (.slice a n c) (dInts xs)) (hb : Rep w S (.slice b m d) (dInts ys)) (hl : xs.length ≤ 1000000) (hl2 : ys.length ≤ 1000000) :
    Calls Tryd.prog 32 #[.slice a n c, .slice b m d] w fun e w' =>
      (twoErr xs ys ≠ 0 ∧ Ret [] w S w' e (.tuple #[.bool false, errV 156 er (twoErr xs ys)]) [] []) ∨
      (twoErr xs ys = 0 ∧ Ret [] w S w' e (.tuple #[.bool (inL xs ys), .nilIface]) [] []) := by
  refine ep32 (args := [.slice a n c, .slice b m d]) (G := globs er ++ [(_, dInts xs), (_, dInts ys)]) (by kernel_rfl) (hE.app (.cons ha (.cons hb (.nil _ _)))) ?_
  try simp only [aQ]
  refine J_seq ?_
  refine Za [.rd 0 [] 0 0, .rd 1 [] 0 0] [] [(4, .val (.bool false)), (5, .val (.nilIface))] ?_
  refine J_seq ?_
  refine J_seq ?_
  refine jT [(0, true), (1, true), (2, false), (3, true)] [] ?_
  refine Ya (id := 1) (rest := [(2, false), (3, true)]) [.rd 0 [] 0 0, .rd 1 [] 0 0] [] [(7, .val (.slice a n c)), (8, .val (.slice b m d))] ?_
  refine Yc 51 #[.slice a n c, .slice b m d] (some 9) fun w S hG => ?_
  refine (vtwo (hG.pick [0, 1, 2] rfl) (hG.at 3 rfl) (hG.at 4 rfl) hl hl2).mono ?_
  rintro e w2 ⟨v, hR, ⟨h2, rfl⟩ | ⟨h2, rfl⟩⟩
  · refine ⟨_, _, _, hR, ?_⟩
    try simp only [aQ]
    refine Ya (id := 1) (rest := []) [.rd 3 [] 0 0] [9, 7, 8] [(6, .val (.nilIface))] ?_
    refine JR_end ?_
    refine J_seq ?_
    refine Za [.rd 0 [] 0 0, .rd 1 [] 0 0] [] [(11, .val (.bool false))] ?_
    refine J_cond_f (by kernel_rfl) (by kernel_rfl) ?_
    refine J_skip ?_
    refine J_seq ?_
    refine jT [(0, true), (1, true), (2, false), (3, true), (4, true)] [] ?_
    refine Ya (id := 4) (rest := [(2, false), (3, true), (4, true)]) [.rd 0 [] 0 0, .rd 1 [] 0 0] [11, 6, 0, 1] [(13, .val (.slice a n c)), (14, .val (.slice b m d))] ?_
    refine Yc 52 #[.slice a n c, .slice b m d] (some 15) fun w S hG => ?_
    refine (vin (hG.at 3 rfl) (hG.at 4 rfl) hl (twoErr_fine h2).2.2).mono ?_
    rintro e w2 hR
    refine ⟨_, _, _, hR, ?_⟩
    try simp only [aQ]
    refine Ya (id := 4) (rest := []) [.rd 3 [] 0 0, .rd 4 [] 0 0] [15, 13, 14] [(4, .val (.bool (inL xs ys)))] ?_
    refine JR_end ?_
    refine Yr [[], []] (.tuple #[.bool (inL xs ys), .nilIface]) fun a w s => ?_
    exact .inr ⟨h2, s.ret (by simp) [] [] rfl rfl⟩
  · refine ⟨_, _, _, hR, ?_⟩
    try simp only [aQ]
    refine Ya (id := 1) (rest := []) [.rd 3 [] 0 0] [9, 7, 8] [(6, .val (.iface 156 (.pointer (some (er (twoErr xs ys))))))] ?_
    refine JR_end ?_
    refine J_seq ?_
    refine Za [.rd 0 [] 0 0, .rd 1 [] 0 0] [] [(11, .val (.bool true))] ?_
    refine J_cond_t (by kernel_rfl) (by kernel_rfl) ?_
    refine J_seq ?_
    refine Za (Rds 0 3) [11, 6] [(5, .val (.iface 156 (.pointer (some (er (twoErr xs ys))))))] ?_
    refine Yr [[], []] (.tuple #[.bool false, .iface 156 (.pointer (some (er (twoErr xs ys))))]) fun a w s => ?_
    exact .inl ⟨h2, s.ret (by simp) [] [] rfl rfl⟩
end Go.Proofs.YtehdegekgdlifaaDoor
end
section
namespace Go.Proofs.YtehdegekgdlifaaDoor.Er
open Go Go.RowKit Go.Extern.Stop Go.Stop Go.Extern
theorem isTypeOf (v : Value) (w : World) : (Extern.ReflectliteType.typeOf #[.iface 156 v]).run Tryd.prog w = .ok (.iface 139 (.agg #[.pointer (some ⟨13, 156, none⟩)])) w := by kernel_rfl
theorem isComparable (w : World) : (callFunc 93 #[.agg #[.pointer (some ⟨13, 156, none⟩)]]).run Tryd.prog w = .ok (.value (.bool true)) w := by kernel_rfl
theorem isMethodComparable (v : Value) (w : World) : (Go.method 289 139 v "Comparable").run Tryd.prog w = .ok (93, v) w := by kernel_rfl
theorem isComp : (Tryd.prog.info? 156).map (·.comparable) = some true := by kernel_rfl
theorem isSize : (Tryd.prog.info? 177).map (·.size) = some 1 := by kernel_rfl
theorem noIsE (v : Value) (xT : TypeId) (w : World) : (Instr.typeAssert (.iface 156 v) xT 150 true).run Tryd.prog w = .ok (.tuple #[.nilIface, .bool false]) w := run_typeAssert_lacksB Tryd.underlying150 (by kernel_rfl) (by kernel_rfl) v xT w
theorem noUnwrapE (v : Value) (xT : TypeId) (w : World) : (Instr.typeAssert (.iface 156 v) xT 146 true).run Tryd.prog w = .ok (.tuple #[.nilIface, .bool false]) w := run_typeAssert_lacksB Tryd.underlying146 (by kernel_rfl) (by kernel_rfl) v xT w
theorem noUnwrapsE (v : Value) (xT : TypeId) (w : World) : (Instr.typeAssert (.iface 156 v) xT 148 true).run Tryd.prog w = .ok (.tuple #[.nilIface, .bool false]) w := run_typeAssert_lacksB Tryd.underlying148 (by kernel_rfl) (by kernel_rfl) v xT w
theorem noAsE (v : Value) (xT : TypeId) (w : World) : (Instr.typeAssert (.iface 156 v) xT 143 true).run Tryd.prog w = .ok (.tuple #[.nilIface, .bool false]) w := run_typeAssert_lacksB Tryd.underlying143 (by kernel_rfl) (by kernel_rfl) v xT w
theorem is_same (a : Addr) (w : World) :
    Calls Tryd.prog 29 #[.iface 156 (.pointer (some a)), .iface 156 (.pointer (some a))] w fun e w' => e = .returned (.bool true) ∧ w' = w := by
  obtain ⟨i, hi, hcmp⟩ := Option.map_eq_some_iff.1 isComp
  obtain ⟨j, hj, hjs⟩ := Option.map_eq_some_iff.1 isSize
  have h8 := @run_callFunc_extern Tryd.prog 47 _ Extern.ReflectliteType.typeOf Tryd.func47 (by kernel_rfl) (by kernel_rfl) (by kernel_rfl) (by kernel_rfl)
  have tT := isTypeOf
  have cT := isComparable
  have mR := isMethodComparable
  have heq := run_eql_iface_ptr_same (P := Tryd.prog) w a Tryd.underlying24 Tryd.underlying156 hi hcmp hj
  go_enter Tryd.func29, Tryd.ntmps29
  go_wp2
  refine wp_loop_rounds 1 ?_
  rw [rounds_succ]
  go_wp2
  go_ret
  exact ⟨rfl, rfl⟩
theorem is_other (a b : Addr) (ca cb : Array Value) (ta tb : TypeId) (w : World) (hne : a ≠ b) (ha : w.heap[a.block]? = some (.cells ca ta (0, 0))) (hb : w.heap[b.block]? = some (.cells cb tb (0, 0))) :
    Calls Tryd.prog 29 #[.iface 156 (.pointer (some a)), .iface 156 (.pointer (some b))] w fun e w' => e = .returned (.bool false) ∧ w' = w := by
  obtain ⟨i, hi, hcmp⟩ := Option.map_eq_some_iff.1 isComp
  obtain ⟨j, hj, hjs⟩ := Option.map_eq_some_iff.1 isSize
  have h8 := @run_callFunc_extern Tryd.prog 47 _ Extern.ReflectliteType.typeOf Tryd.func47 (by kernel_rfl) (by kernel_rfl) (by kernel_rfl) (by kernel_rfl)
  have tT := isTypeOf
  have cT := isComparable
  have mR := isMethodComparable
  have nE := noIsE
  have uE := noUnwrapE
  have vE := noUnwrapsE
  have heq := run_eql_iface_ptr_other (P := Tryd.prog) w Tryd.underlying24 Tryd.underlying156 hi hcmp hj (by rw [hjs]; decide) hne ha hb
  go_enter Tryd.func29, Tryd.ntmps29
  go_wp2
  refine wp_loop_rounds 1 ?_
  rw [rounds_succ]
  go_wp2
  go_ret
  exact ⟨rfl, rfl⟩
theorem valueOfFF (t : Addr) (w : World) : (ReflectliteValue.unpack (.iface 81 (.pointer (some t)))).run Tryd.prog w
    = .ok (.agg #[.pointer (some ⟨13, 81, none⟩), .pointer (some ⟨w.heap.size, 0, none⟩), .int .u64 150]) (w.alloc (.cells #[.pointer (some t)] 81)) := by kernel_rfl
theorem typeFF (a : Addr) (w : World) : (ReflectliteValue.methodAny (ReflectliteValue.valueError "reflectlite.Value.Type" 0) (fun t _ _ _ => ReflectliteType.toType t) #[.agg #[.pointer (some ⟨13, 81, none⟩), .pointer (some a), .int .u64 150]]).run Tryd.prog w
    = .ok (.iface 139 (.agg #[.pointer (some ⟨13, 81, none⟩)])) w := by kernel_rfl
theorem methodKind (h : Value) (w : World) : (Go.method 289 139 (.agg #[h]) "Kind").run Tryd.prog w = .ok (80, h) w := by kernel_rfl
theorem kindFF (w : World) : ((ReflectliteType.abiMethod fun t => (fun a : Nat => Value.int IntKind.u8 (a : Int)) <$> Rtype.kind t) #[.pointer (some ⟨13, 81, none⟩)]).run Tryd.prog w = .ok (.int .u8 22) w := by kernel_rfl
theorem kindF (w : World) : ((ReflectliteType.abiMethod fun t => (fun a : Nat => Value.int IntKind.u8 (a : Int)) <$> Rtype.kind t) #[.pointer (some ⟨13, 79, none⟩)]).run Tryd.prog w = .ok (.int .u8 22) w := by kernel_rfl
theorem rlm (z : Sem Value) (f : TypeId → Addr → Nat → Nat → Sem Value) (v : Value) :
    ReflectliteValue.method z f #[v] = (do match ← ReflectliteValue.parts v with | none => z | some (t, a, fl) => f t a fl (fl % 32)) := rfl
theorem partsFF (a : Addr) (w : World) : (ReflectliteValue.parts (.agg #[.pointer (some ⟨13, 81, none⟩), .pointer (some a), .int .u64 150])).run Tryd.prog w = .ok (some (81, a, 150)) w := by kernel_rfl
theorem isNilFF (a p : Addr) (W : World) (ha : W.cell? a = some (.pointer (some p))) :
    (ReflectliteValue.method (ReflectliteValue.valueError "reflectlite.Value.IsNil" 0) ReflectliteValue.isNil #[.agg #[.pointer (some ⟨13, 81, none⟩), .pointer (some a), .int .u64 150]]).run Tryd.prog W = .ok (.bool false) W := by
  rw [rlm]
  simp only [Sem.run_bind, partsFF, Result.andThen]
  simp [ReflectliteValue.isNil, loadVar, isAgg, underlying, Tryd.underlying81, ha, Result.andThen]
theorem methodElem (h : Value) (w : World) : (Go.method 289 139 (.agg #[h]) "Elem").run Tryd.prog w = .ok (94, .agg #[h]) w := by kernel_rfl
theorem methodImplements (h : Value) (w : World) : (Go.method 289 139 (.agg #[h]) "Implements").run Tryd.prog w = .ok (95, .agg #[h]) w := by kernel_rfl
theorem methodAssignableTo (h : Value) (w : World) : (Go.method 289 139 (.agg #[h]) "AssignableTo").run Tryd.prog w = .ok (92, .agg #[h]) w := by kernel_rfl
theorem elemFF (w : World) : (ReflectliteType.method ReflectliteType.elem #[.agg #[.pointer (some ⟨13, 81, none⟩)]]).run Tryd.prog w = .ok (.iface 139 (.agg #[.pointer (some ⟨13, 79, none⟩)])) w := by kernel_rfl
theorem implementsF (w : World) : (ReflectliteType.relation "Implements" ReflectliteType.implements_ #[.agg #[.pointer (some ⟨13, 79, none⟩)], .iface 139 (.agg #[.pointer (some ⟨13, 24, none⟩)])]).run Tryd.prog w = .ok (.bool true) w := by kernel_rfl
theorem assignableT (w : World) : (ReflectliteType.relation "AssignableTo" ReflectliteType.assignableTo #[.agg #[.pointer (some ⟨13, 156, none⟩)], .iface 139 (.agg #[.pointer (some ⟨13, 79, none⟩)])]).run Tryd.prog w = .ok (.bool false) w := by kernel_rfl
theorem cell_lt {w : World} {a : Addr} {v : Value} (h : w.cell? a = some v) : a.block < w.heap.size := by
  rcases Nat.lt_or_ge a.block w.heap.size with h' | h'
  · exact h'
  · simp [World.cell?, Array.getElem?_eq_none h'] at h
set_option maxHeartbeats 4000000 in
theorem as_miss (e t : Addr) (w : World) (hg : w.cell? ⟨12, 0, none⟩ = some (.iface 139 (.agg #[.pointer (some ⟨13, 24, none⟩)]))) :
    Calls Tryd.prog 28 #[.iface 156 (.pointer (some e)), .iface 81 (.pointer (some t))] w fun ev w' => ev = .returned (.bool false) ∧ w' = (((w.alloc (.cells #[.pointer (some t)] 81)).alloc (.cells #[.pointer (some ⟨13, 81, none⟩), .pointer (some ⟨w.heap.size, 0, none⟩), .int .u64 150] 117)).alloc (.cells #[.pointer (some ⟨13, 81, none⟩), .pointer (some ⟨w.heap.size, 0, none⟩), .int .u64 150] 117)) := by
  have h6 := @run_callFunc_extern Tryd.prog 43 _ (fun args => ReflectliteValue.unpack (args.getD 0 (.tuple #[]))) Tryd.func43 (by kernel_rfl) (by kernel_rfl) (by kernel_rfl) (by kernel_rfl)
  have h7 := @run_callFunc_extern Tryd.prog 44 _ (ReflectliteValue.methodAny (ReflectliteValue.valueError "reflectlite.Value.Type" 0) (fun t _ _ _ => ReflectliteType.toType t)) Tryd.func44 (by kernel_rfl) (by kernel_rfl) (by kernel_rfl) (by kernel_rfl)
  have h8 := @run_callFunc_extern Tryd.prog 45 _ (ReflectliteValue.method (ReflectliteValue.valueError "reflectlite.Value.IsNil" 0) ReflectliteValue.isNil) Tryd.func45 (by kernel_rfl) (by kernel_rfl) (by kernel_rfl) (by kernel_rfl)
  have h27 := @run_callFunc_extern Tryd.prog 80 _ (ReflectliteType.abiMethod fun t => do pure (.int .u8 (← Rtype.kind t))) Tryd.func80 (by kernel_rfl) (by kernel_rfl) (by kernel_rfl) (by kernel_rfl)
  have h37 := @run_callFunc_extern Tryd.prog 94 _ (ReflectliteType.method ReflectliteType.elem) Tryd.func94 (by kernel_rfl) (by kernel_rfl) (by kernel_rfl) (by kernel_rfl)
  have h38 := @run_callFunc_extern Tryd.prog 95 _ (ReflectliteType.relation "Implements" ReflectliteType.implements_) Tryd.func95 (by kernel_rfl) (by kernel_rfl) (by kernel_rfl) (by kernel_rfl)
  have h10 := @run_callFunc_extern Tryd.prog 47 _ ReflectliteType.typeOf Tryd.func47 (by kernel_rfl) (by kernel_rfl) (by kernel_rfl) (by kernel_rfl)
  have h35 := @run_callFunc_extern Tryd.prog 92 _ (ReflectliteType.relation "AssignableTo" ReflectliteType.assignableTo) Tryd.func92 (by kernel_rfl) (by kernel_rfl) (by kernel_rfl) (by kernel_rfl)
  have tO := isTypeOf
  have mA := methodAssignableTo
  have a25 := assignableT
  have f6 := valueOfFF
  have f7 := typeFF
  have mK := methodKind
  have mE := methodElem
  have mI := methodImplements
  have k27 := kindFF
  have k25 := kindF
  have e27 := elemFF
  have i25 := implementsF
  have nA := noAsE
  have uE := noUnwrapE
  have vE := noUnwrapsE
  have n8 := isNilFF ⟨w.heap.size, 0, none⟩ t ((w.alloc (.cells #[.pointer (some t)] 81)).alloc (.cells #[.pointer (some ⟨13, 81, none⟩), .pointer (some ⟨w.heap.size, 0, none⟩), .int .u64 150] 117)) (by simp)
  have hlt : 12 < w.heap.size := cell_lt hg
  have hg2 : ((w.alloc (.cells #[.pointer (some t)] 81)).alloc (.cells #[.pointer (some ⟨13, 81, none⟩), .pointer (some ⟨w.heap.size, 0, none⟩), .int .u64 150] 117)).cell? ⟨12, 0, none⟩ = some (.iface 139 (.agg #[.pointer (some ⟨13, 24, none⟩)])) := by
    rw [World.cell?_alloc_lt _ _ ⟨12, 0, none⟩ (by simp; omega), World.cell?_alloc_lt _ _ ⟨12, 0, none⟩ hlt]; exact hg
  go_enter Tryd.func28, Tryd.ntmps28
  go_wp2
  refine wp_loop_rounds 1 ?_
  rw [rounds_succ]
  go_wp2
  go_ret
  exact ⟨rfl, rfl⟩
end Go.Proofs.YtehdegekgdlifaaDoor.Er
end
