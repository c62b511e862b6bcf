/- values.kind. -/
import Derived.Test.YtpjkiomccpjboaaGreatDoorTx14
import Derived.Test.YtpjkiomccpjboaaGreatDoorClone
import Derived.Test.YtpjkiomccpjboaaGreatDoorOps
namespace Go.Proofs.YtpjkiomccpjboaaGreatDoor
open Go Go.Sx
theorem len1 {α : Type} {l : List α} (h : l.length = 1) : ∃ x, l = [x] := by
  match l, h with
  | [x], _ => exact ⟨x, rfl⟩

theorem cloneDone {w0 : World} {S : Nat → Prop} {a : Option Addr} {n c : Nat} {xs : List DoneT} (ha : Rep w0 S (.slice a n c) (.sl 11 (xs.map eDone))) (hl : xs.length ≤ 4000000) :
    Calls Tryz.prog 98 #[.slice a n c] w0 fun e w' => ∃ a' c', Ret [] w0 S w' e (.slice a' n c') [cAcc (.slice a' n c') 112 11 (xs.map eDone)] [] := by
  have hlen := ha.slen
  rw [List.length_map] at hlen
  subst hlen
  cases a with
  | none =>
    have h0 : xs = [] := by simpa using rep_none ha
    subst h0
    refine ep98 (args := [.slice none ([] : List DoneT).length c]) (S := S) (G := []) (by kernel_rfl) (.nil _ _) ?_
    refine J_stp (stp_accm eDone 112 11) ?_
    try simp only [List.cons_append, List.nil_append, List.append_nil]
    refine J_seq ?_
    refine J_reg mixed [.rd 0 [] 0 0] [] [0, 2] (E1 := fun _ => [(0, .val (.slice none 0 c)), (2, .val (.slice none 0 0))]) (h1 := fun _ => []) (p1 := fun _ => []) (W1 := []) (by kernel_rfl) (fun _ => by kernel_rfl) (fun _ => trivial) (fun _ => ?_)
    refine J_seq ?_
    refine J_seq ?_
    refine J_reg mixed [.rd 0 [] 0 0, .rd 1 [] 0 0] [] [0, 2, 4] (E1 := fun _ => [(0, .val (.slice none 0 c)), (2, .val (.slice none 0 0)), (4, .val (.bool true))]) (h1 := fun _ => []) (p1 := fun _ => []) (W1 := []) (by kernel_rfl) (fun _ => by kernel_rfl) (fun _ => trivial) (fun _ => ?_)
    refine J_cond_t (by kernel_rfl) (by kernel_rfl) ?_
    refine J_seq ?_
    refine J_reg mixed [.rd 0 [] 0 0] [] [0, 2] (E1 := fun _ => [(0, .val (.slice none 0 c)), (2, .val (.slice none 0 0))]) (h1 := fun _ => []) (p1 := fun _ => []) (W1 := []) (by kernel_rfl) (fun _ => by kernel_rfl) (fun _ => trivial) (fun _ => ?_)
    refine J_return [[]] (.slice none 0 0) (by kernel_rfl) (fun a w s => ?_)
    exact ⟨none, 0, s.ret (by simp) [0] [] rfl rfl⟩
  | some ad =>
    refine ep98 (args := [.slice (some ad) xs.length c]) (G := [(_, .sl 11 (xs.map eDone))]) (by kernel_rfl) (.cons ha (.nil _ _)) ?_
    refine J_seq ?_
    refine J_reg mixed [.rd 0 [] 0 0] [] [0, 2] (E1 := fun _ => [(0, .val (.slice (some ad) xs.length c)), (2, .val (.slice none 0 0))]) (h1 := fun _ => []) (p1 := fun _ => []) (W1 := []) (by kernel_rfl) (fun _ => by kernel_rfl) (fun _ => trivial) (fun _ => ?_)
    refine J_seq ?_
    refine J_seq ?_
    refine J_reg mixed [.rd 0 [] 0 0, .rd 1 [] 0 0] [] [0, 2, 4] (E1 := fun _ => [(0, .val (.slice (some ad) xs.length c)), (2, .val (.slice none 0 0)), (4, .val (.bool false))]) (h1 := fun _ => []) (p1 := fun _ => []) (W1 := []) (by kernel_rfl) (fun _ => by kernel_rfl) (fun _ => trivial) (fun _ => ?_)
    refine J_cond_f (by kernel_rfl) (by kernel_rfl) ?_
    refine J_skip ?_
    refine J_seq ?_
    refine JR_begin mixed [(0, false), (1, true), (2, false), (3, true)] [] (by kernel_rfl) (by kernel_rfl) ?_
    refine JR_run (id := 3) (rest := [(2, false), (3, true)]) [.wr 0 [] 0, .rd 1 [] 0 0] [2, 5, 6] (E1 := fun nu1 => [(2, .val (.slice none 0 0)), (5, .val (.slice (some (⟨nu1 0, 0, none⟩)) 0 0)), (6, .val (.slice (some ad) xs.length c))]) (h1 := fun nu1 => [(nu1 0, .cells #[] 112 (0, 0))]) (p1 := fun nu1 => []) (W1 := []) (fun _ => by kernel_rfl) (fun _ => trivial) (fun nu1 => ?_)
    refine JR_acczm eDone 0 11 rfl (by kernel_rfl) (by decide) ?_
    refine JR_appm 0 106 112 11 120 (.agg #[.int .i64 0, .string (ByteArray.mk #[]), .int .i64 0, .string (ByteArray.mk #[]), .int .i64 0, .bool false, .slice none 0 0, .int .i64 0, .int .i64 0, .int .i64 0, .int .i64 0]) (a0 := (some (⟨nu1 0, 0, none⟩))) (len := 0) (cap0 := 0) (ax := (some ad)) (m := xs.length) (c := c) (dst := (some 7)) xs (by kernel_rfl) (by kernel_rfl) (by kernel_rfl) (by kernel_rfl) rfl (by decide) rfl (fun _ _ _ s => src_fact s 0 rfl (by decide)) (by simp only [maxLen]; omega) (by omega) (fun av1 cv1 => ?_)
    rw [Nat.zero_add]
    try simp only [List.cons_append, List.nil_append, List.append_nil]
    refine JR_run (id := 3) (rest := []) [.rd 3 [] 0 0] [2] (E1 := fun _ => [(2, .val (.slice av1 xs.length cv1))]) (h1 := fun _ => []) (p1 := fun _ => []) (W1 := []) (fun _ => by kernel_rfl) (fun _ => trivial) (fun _ => ?_)
    try simp only [List.cons_append, List.nil_append, List.append_nil]
    refine JR_end ?_
    try simp only [List.cons_append, List.nil_append, List.append_nil]
    refine J_return [[]] (.slice av1 xs.length cv1) (by kernel_rfl) (fun a w s => ?_)
    exact ⟨_, _, s.ret (by simp) [0] [] rfl rfl⟩

theorem kind1 {w : World} {S : Nat → Prop} {m : DoneT} {v1 : Value} {seq : Int} {b : Nat} (o1 : v1.oneCell' = true) (h : Rep w S (.pointer (some ⟨b, 0, none⟩)) (.ptr [.v (.int .i64 seq)])) : Calls Tryz.prog 99 #[doneA m v1, .pointer (some ⟨b, 0, none⟩)] w fun e w' => Ret [] w S w' e (.bool (!decide (m.o.kind = seq))) [] [] := by
  refine ep99 (args := [doneA m v1, .pointer (some ⟨b, 0, none⟩)]) (G := [(_, .ptr [.v (.int .i64 seq)])]) (by kernel_rfl) (.cons h (.nil _ _)) ?_
  refine J_glob 0 rfl (fun csg1 tyg1 fzg1 hglob1 => ?_)
  refine J_seq ?_
  refine J_reg mixed [.wr 0 [] 0, .rd 1 [] 0 0] [] [1, 2, 3] (E1 := fun nu1 => [(1, .val (.pointer (some (⟨b, 0, none⟩)))), (2, .val (.pointer (some (⟨nu1 0, 0, none⟩)))), (3, .val (.bool false))]) (h1 := fun nu1 => [(nu1 0, .cells #[.int .i64 m.o.no, .string m.o.key, .int .i64 m.o.kind, .string m.o.text, .int .i64 m.o.n, .bool m.o.remove, v1, .int .i64 m.d.place, .int .i64 m.d.time, .int .i64 m.d.no, .int .i64 m.w] 112 (0, 0))]) (p1 := fun nu1 => []) (W1 := []) (by kernel_rfl) (fun _ => by kernel_rfl) (fun _ => trivial) (fun nu1 => ?_)
  refine J_seq ?_
  refine J_reg mixed [.rd 0 [] 0 0, .rd 1 [] 0 0, .rd 2 [.o 0 none] 0 0, .rd 3 [.r 0 (some (.int .i64 seq))] 0 0, .rd 4 [] 0 0, .rd 5 [] 0 0] [] [3] (E1 := fun _ => [(3, .val (.bool (m.o.kind != seq)))]) (h1 := fun _ => [(nu1 0, .cells #[.int .i64 m.o.no, .string m.o.key, .int .i64 m.o.kind, .string m.o.text, .int .i64 m.o.n, .bool m.o.remove, v1, .int .i64 m.d.place, .int .i64 m.d.time, .int .i64 m.d.no, .int .i64 m.w] 112 (0, 0))]) (p1 := fun _ => [csg1[(0 : Nat)]? = some (Value.int IntKind.i64 seq)]) (W1 := []) (by kernel_rfl) (fun _ => by kernel_rfl) (fun _ => ⟨hglob1, trivial⟩) (fun _ => ?_)
  refine J_return [[]] (.bool (m.o.kind != seq)) (by kernel_rfl) (fun a w s => ?_)
  all_goals first | assumption | exact s.ret (by simp) [] [] rfl rfl

theorem indexKind {w : World} {S : Nat → Prop} {M : List Nat} {a : Option Addr} {n c : Nat} {L : List DoneT} {seq : Int} {b : Nat} (hP : Pre w S M [cAcc (.slice a n c) 112 11 (L.map eDone)]) (hl : L.length ≤ 4000000) (h : Rep w S (.pointer (some ⟨b, 0, none⟩)) (.ptr [.v (.int .i64 seq)])) :
    Calls Tryz.prog 123 #[.slice a n c, .func (.func 99) #[] #[.pointer (some ⟨b, 0, none⟩)]] w fun e w' => ∃ r : Int, Ret M w S w' e (.int .i64 r) [cAcc (.slice a n c) 112 11 (L.map eDone)] [] ∧
      ((r = -1 ∧ ∀ x ∈ L, x.o.kind = seq) ∨ (0 ≤ r ∧ r < L.length ∧ (∃ x, L[r.toNat]? = some x ∧ ¬ x.o.kind = seq) ∧ ∀ x ∈ L.take r.toNat, x.o.kind = seq)) := by
  refine en123 (args := [.slice a n c, .func (.func 99) #[] #[.pointer (some ⟨b, 0, none⟩)]]) (S := S) (C := [cAcc (.slice a n c) 112 11 (L.map eDone)]) (G := [(_, .ptr [.v (.int .i64 seq)])]) (by kernel_rfl) hP (.cons h (.nil _ _)) ?_
  refine J_stpx (stp_acclen 0 rfl) fun _ hk => ?_
  rw [List.length_map] at hk
  subst hk
  refine J_seq ?_
  refine J_reg mixed [.rd 0 [] 0 0] [] [0, 1, 4] (E1 := fun _ => [(0, .val (.slice a L.length c)), (1, .val (.func (.func 99) #[] #[.pointer (some (⟨b, 0, none⟩))])), (4, .val (.int .i64 0))]) (h1 := fun _ => []) (p1 := fun _ => []) (W1 := []) (by kernel_rfl) (fun _ => by kernel_rfl) (fun _ => trivial) (fun _ => ?_)
  refine J_seq ?_
  refine J_seq ?_
  refine J_reg mixed [.rd 0 [] 0 0, .rd 1 [] 0 0, .rd 2 [] 0 0] [] [0, 1, 4, 7, 8] (E1 := fun _ => [(0, .val (.slice a L.length c)), (1, .val (.func (.func 99) #[] #[.pointer (some (⟨b, 0, none⟩))])), (4, .val (.int .i64 0)), (7, .val (.int .i64 (↑L.length : Int))), (8, .val (.int .i64 0))]) (h1 := fun _ => []) (p1 := fun _ => []) (W1 := []) (by kernel_rfl) (fun _ => by kernel_rfl) (fun _ => trivial) (fun _ => ?_)
  refine J_block ?_
  refine J_loopx (fun i : Int => [(0, .val (.slice a L.length c)), (1, .val (.func (.func 99) #[] #[.pointer (some (⟨b, 0, none⟩))])), (4, .val (.int .i64 0)), (7, .val (.int .i64 (↑L.length : Int))), (8, .val (.int .i64 i))]) (fun i : Int => []) (fun i : Int => [cAcc (.slice a L.length c) 112 11 (L.map eDone)]) (fun i : Int => [(.pointer (some (⟨b, 0, none⟩)), (D.ptr [D.v (Value.int IntKind.i64 seq)]))]) (fun i : Int => (L.length - i).toNat) (fun i : Int => (0 ≤ i ∧ i ≤ L.length ∧ ∀ x ∈ L.take i.toNat, x.o.kind = seq)) 0 [0, 1, 4, 7, 8] [] [0] [0] ?_ (by kernel_rfl) rfl rfl rfl ?_
  · exact ⟨by simp, by omega, by simp⟩
  rintro i ⟨hi0, hi, hno⟩
  refine J_seq ?_
  refine J_reg mixed [.rd 0 [] 0 0] [] [0, 1, 4, 7, 8, 9] (E1 := fun _ => [(0, .val (.slice a L.length c)), (1, .val (.func (.func 99) #[] #[.pointer (some (⟨b, 0, none⟩))])), (4, .val (.int .i64 0)), (7, .val (.int .i64 (↑L.length : Int))), (8, .val (.int .i64 i)), (9, .val (.bool (decide (i < (↑L.length : Int)))))]) (h1 := fun _ => []) (p1 := fun _ => []) (W1 := []) (by kernel_rfl) (fun _ => by kernel_rfl) (fun _ => trivial) (fun _ => ?_)
  refine J_seq ?_
  refine J_cond (t := decide (i < (↑L.length : Int))) (by kernel_rfl) (by kernel_rfl) (fun hlt => ?_) (fun hlt => ?_)
  · have hlt2 : i < L.length := by simpa using hlt
    obtain ⟨x, hx⟩ : ∃ x, L[i.toNat]? = some x := ⟨_, List.getElem?_eq_getElem (by omega)⟩
    refine J_openacc 0 rfl (by intro h0; rw [List.map_eq_nil_iff] at h0; rw [h0] at hx; simp at hx) fun g cur xs hu _ _ hrow => ?_
    subst hu
    refine J_stpx (stp_readrows 0 rfl i.toNat (map_at hx)) fun ls hls => ?_
    obtain ⟨hls1, hls2⟩ := hls
    obtain ⟨⟨xa, xc⟩, rfl⟩ : ∃ l0, ls = [l0] := len1 hls1
    have f := fun (j : Nat) v h => hrow.atx (hls2 j v h)
    have r0 : cur[0 + i.toNat * 11]? = some (.int .i64 x.o.no) := by rw [Nat.zero_add]; exact f 0 _ rfl
    have r1 : cur[0 + i.toNat * 11 + 1]? = some (.string x.o.key) := by rw [Nat.zero_add]; exact f 1 _ rfl
    have r2 : cur[0 + i.toNat * 11 + 2]? = some (.int .i64 x.o.kind) := by rw [Nat.zero_add]; exact f 2 _ rfl
    have r3 : cur[0 + i.toNat * 11 + 3]? = some (.string x.o.text) := by rw [Nat.zero_add]; exact f 3 _ rfl
    have r4 : cur[0 + i.toNat * 11 + 4]? = some (.int .i64 x.o.n) := by rw [Nat.zero_add]; exact f 4 _ rfl
    have r5 : cur[0 + i.toNat * 11 + 5]? = some (.bool x.o.remove) := by rw [Nat.zero_add]; exact f 5 _ rfl
    have r6 : cur[0 + i.toNat * 11 + 6]? = some (.slice xa (x.o.dots.map eDot).length xc) := by rw [Nat.zero_add]; exact f 6 _ rfl
    have r7 : cur[0 + i.toNat * 11 + 7]? = some (.int .i64 x.d.place) := by rw [Nat.zero_add]; exact f 7 _ rfl
    have r8 : cur[0 + i.toNat * 11 + 8]? = some (.int .i64 x.d.time) := by rw [Nat.zero_add]; exact f 8 _ rfl
    have r9 : cur[0 + i.toNat * 11 + 9]? = some (.int .i64 x.d.no) := by rw [Nat.zero_add]; exact f 9 _ rfl
    have r10 : cur[0 + i.toNat * 11 + 10]? = some (.int .i64 x.w) := by rw [Nat.zero_add]; exact f 10 _ rfl
    try simp only [List.cons_append, List.nil_append, List.append_nil]
    refine J_skip ?_
    try simp only [List.cons_append, List.nil_append, List.append_nil]
    refine J_seq ?_
    try simp only [List.cons_append, List.nil_append, List.append_nil]
    refine J_block ?_
    try simp only [List.cons_append, List.nil_append, List.append_nil]
    refine J_seq ?_
    try simp only [List.cons_append, List.nil_append, List.append_nil]
    refine J_reg mixed [.rd 0 [] 0 0, .rd 1 [] 0 0] [] [0, 1, 4, 5, 7, 8] (E1 := fun _ => [(0, .val (.slice (some (⟨g, 0, none⟩)) L.length c)), (1, .val (.func (.func 99) #[] #[.pointer (some (⟨b, 0, none⟩))])), (4, .val (.int .i64 0)), (5, .val (.int .i64 i)), (7, .val (.int .i64 (↑L.length : Int))), (8, .val (.int .i64 i))]) (h1 := fun _ => [(g, .cells cur 112 (0, 0))]) (p1 := fun _ => []) (W1 := []) (by kernel_rfl) (fun _ => by kernel_rfl) (fun _ => trivial) (fun _ => ?_)
    try simp only [List.cons_append, List.nil_append, List.append_nil]
    refine J_seq ?_
    try simp only [List.cons_append, List.nil_append, List.append_nil]
    refine JR_begin mixed [(0, true), (1, true), (2, true), (3, true), (4, true), (5, false)] [] (by kernel_rfl) (by kernel_rfl) ?_
    refine JR_run (id := 4) (rest := [(5, false)]) [.rd 0 [] 0 0, .rd 1 [] 0 0, .rd 2 [] 0 0, .rd 3 [] 0 2, .rd 4 [.o 0 (some (.int .i64 x.o.no)), .o 0 (some (.string x.o.key)), .o 0 (some (.int .i64 x.o.kind)), .o 0 (some (.string x.o.text)), .o 0 (some (.int .i64 x.o.n)), .o 0 (some (.bool x.o.remove)), .o 0 (some (.slice xa ((List.map eDot x.o.dots).length) xc)), .o 0 (some (.int .i64 x.d.place)), .o 0 (some (.int .i64 x.d.time)), .o 0 (some (.int .i64 x.d.no)), .o 0 (some (.int .i64 x.w))] 0 0] [0, 1, 4, 5, 7, 8, 11, 15] (E1 := fun _ => [(0, .val (.slice (some (⟨g, 0, none⟩)) L.length c)), (1, .val (.func (.func 99) #[] #[.pointer (some (⟨b, 0, none⟩))])), (4, .val (.int .i64 0)), (5, .val (.int .i64 i)), (7, .val (.int .i64 (↑L.length : Int))), (8, .val (.int .i64 i)), (11, .val (.func (.func 99) #[] #[.pointer (some (⟨b, 0, none⟩))])), (15, .val (.agg #[.int .i64 x.o.no, .string x.o.key, .int .i64 x.o.kind, .string x.o.text, .int .i64 x.o.n, .bool x.o.remove, .slice xa ((List.map eDot x.o.dots).length) xc, .int .i64 x.d.place, .int .i64 x.d.time, .int .i64 x.d.no, .int .i64 x.w]))]) (h1 := fun _ => [(g, .cells cur 112 (0, 0))]) (p1 := fun _ => [(0 : Int) ≤ i, i < (↑L.length : Int), cur[(0 : Nat) + i.toNat * (11 : Nat)]? = some (Value.int IntKind.i64 x.o.no), cur[(0 : Nat) + i.toNat * (11 : Nat) + (1 : Nat)]? = some (Value.string x.o.key), cur[(0 : Nat) + i.toNat * (11 : Nat) + (2 : Nat)]? = some (Value.int IntKind.i64 x.o.kind), cur[(0 : Nat) + i.toNat * (11 : Nat) + (3 : Nat)]? = some (Value.string x.o.text), cur[(0 : Nat) + i.toNat * (11 : Nat) + (4 : Nat)]? = some (Value.int IntKind.i64 x.o.n), cur[(0 : Nat) + i.toNat * (11 : Nat) + (5 : Nat)]? = some (Value.bool x.o.remove), cur[(0 : Nat) + i.toNat * (11 : Nat) + (6 : Nat)]? = some (Value.slice xa (List.map eDot x.o.dots).length xc), cur[(0 : Nat) + i.toNat * (11 : Nat) + (7 : Nat)]? = some (Value.int IntKind.i64 x.d.place), cur[(0 : Nat) + i.toNat * (11 : Nat) + (8 : Nat)]? = some (Value.int IntKind.i64 x.d.time), cur[(0 : Nat) + i.toNat * (11 : Nat) + (9 : Nat)]? = some (Value.int IntKind.i64 x.d.no), cur[(0 : Nat) + i.toNat * (11 : Nat) + (10 : Nat)]? = some (Value.int IntKind.i64 x.w)]) (W1 := []) (fun _ => by kernel_rfl) (fun _ => ⟨hi0, hlt2, r0, r1, r2, r3, r4, r5, r6, r7, r8, r9, r10, trivial⟩) (fun _ => ?_)
    refine JR_callp [] 99 #[.agg #[.int .i64 x.o.no, .string x.o.key, .int .i64 x.o.kind, .string x.o.text, .int .i64 x.o.n, .bool x.o.remove, .slice xa ((List.map eDot x.o.dots).length) xc, .int .i64 x.d.place, .int .i64 x.d.time, .int .i64 x.d.no, .int .i64 x.w], .pointer (some (⟨b, 0, none⟩))] (some 16) (by kernel_rfl) (fun w S hG => ?_)
    refine (kind1 (m := x) rfl (hG.at 0 rfl)).mono ?_
    rintro e w2 hR
    refine ⟨_, _, _, hR, ?_⟩
    try simp only [List.cons_append, List.nil_append, List.append_nil]
    refine JR_end ?_
    try simp only [List.cons_append, List.nil_append, List.append_nil]
    refine J_hide 0 rfl ?_
    refine J_stp (stp_closeacc 1 0 rfl rfl hrow (by decide)) ?_
    rw [show (List.map eDone L).length = L.length from List.length_map ..]
    refine J_cond (t := !decide (x.o.kind = seq)) (by kernel_rfl) (by kernel_rfl) (fun hb => ?_) (fun hb => ?_)
    · try simp only [List.cons_append, List.nil_append, List.append_nil]
      refine J_seq ?_
      try simp only [List.cons_append, List.nil_append, List.append_nil]
      refine J_reg mixed [.rd 0 [] 0 0, .rd 1 [] 0 0] [] [0, 1, 4, 5, 7, 8, 11, 15] (E1 := fun _ => [(0, .val (.slice (some (⟨g, 0, none⟩)) L.length c)), (1, .val (.func (.func 99) #[] #[.pointer (some (⟨b, 0, none⟩))])), (4, .val (.int .i64 i)), (5, .val (.int .i64 i)), (7, .val (.int .i64 (↑L.length : Int))), (8, .val (.int .i64 i)), (11, .val (.func (.func 99) #[] #[.pointer (some (⟨b, 0, none⟩))])), (15, .val (.agg #[.int .i64 x.o.no, .string x.o.key, .int .i64 x.o.kind, .string x.o.text, .int .i64 x.o.n, .bool x.o.remove, .slice xa ((List.map eDot x.o.dots).length) xc, .int .i64 x.d.place, .int .i64 x.d.time, .int .i64 x.d.no, .int .i64 x.w]))]) (h1 := fun _ => []) (p1 := fun _ => []) (W1 := []) (by kernel_rfl) (fun _ => by kernel_rfl) (fun _ => trivial) (fun _ => ?_)
      try simp only [List.cons_append, List.nil_append, List.append_nil]
      refine J_return [[]] (.int .i64 i) (by kernel_rfl) (fun a w s => ?_)
      exact ⟨i, s.ret (by simp) [0] [] rfl rfl, .inr ⟨hi0, hlt2, ⟨x, hx, by simpa using hb⟩, hno⟩⟩
    · try simp only [List.cons_append, List.nil_append, List.append_nil]
      refine J_skip ?_
      try simp only [List.cons_append, List.nil_append, List.append_nil]
      refine J_eb ?_
      try simp only [List.cons_append, List.nil_append, List.append_nil]
      refine J_reg mixed [.rd 0 [] 0 1, .rd 1 [] 0 0] [] [0, 1, 4, 5, 7, 8, 11, 15] (E1 := fun _ => [(0, .val (.slice (some (⟨g, 0, none⟩)) L.length c)), (1, .val (.func (.func 99) #[] #[.pointer (some (⟨b, 0, none⟩))])), (4, .val (.int .i64 0)), (5, .val (.int .i64 i)), (7, .val (.int .i64 (↑L.length : Int))), (8, .val (.int .i64 (i + 1))), (11, .val (.func (.func 99) #[] #[.pointer (some (⟨b, 0, none⟩))])), (15, .val (.agg #[.int .i64 x.o.no, .string x.o.key, .int .i64 x.o.kind, .string x.o.text, .int .i64 x.o.n, .bool x.o.remove, .slice xa ((List.map eDot x.o.dots).length) xc, .int .i64 x.d.place, .int .i64 x.d.time, .int .i64 x.d.no, .int .i64 x.w]))]) (h1 := fun _ => []) (p1 := fun _ => [IntKind.i64.wrap (i + (1 : Int)) = i + (1 : Int)]) (W1 := []) (by kernel_rfl) (fun _ => by kernel_rfl) (fun _ => ⟨wrap_i64 (by omega) (by omega), trivial⟩) (fun _ => ?_)
      try simp only [List.cons_append, List.nil_append, List.append_nil]
      refine J_backx (i + 1) [0, 1, 4, 7, 8] [] [0] [0] ?_ ?_ (by kernel_rfl) rfl rfl rfl
      · refine ⟨by omega, by omega, fun y hy => ?_⟩
        rw [← take_snoc hi0 hx, List.mem_append, List.mem_singleton] at hy
        rcases hy with hy | rfl
        · exact hno y hy
        · simpa using hb
      · omega
  · have e : List.take i.toNat L = L := List.take_of_length_le (by simp at hlt; omega)
    rw [e] at hno
    refine J_exit rfl ?_
    refine J_seq ?_
    refine J_reg mixed [.rd 0 [] 0 0] [] [4] (E1 := fun _ => [(4, .val (.int .i64 (-1)))]) (h1 := fun _ => []) (p1 := fun _ => []) (W1 := []) (by kernel_rfl) (fun _ => by kernel_rfl) (fun _ => trivial) (fun _ => ?_)
    refine J_return [[]] (.int .i64 (-1)) (by kernel_rfl) (fun a w s => ?_)
    exact ⟨-1, s.ret (by simp) [0] [] rfl rfl, .inl ⟨rfl, hno⟩⟩

def keepK (L : List DoneT) (seq : Int) : List DoneT := L.filter fun m => decide (m.o.kind = seq)
theorem keepK_all {L : List DoneT} {seq : Int} (h : ∀ x ∈ L, x.o.kind = seq) : keepK L seq = L := List.filter_eq_self.2 fun x hx => by simpa using h x hx
theorem keepK_snoc {L : List DoneT} {seq : Int} {x : DoneT} : keepK (L ++ [x]) seq = keepK L seq ++ if x.o.kind = seq then [x] else [] := by
  unfold keepK
  rw [List.filter_append]
  congr 1
  by_cases h : x.o.kind = seq <;> simp [h]
theorem set_takeK {L : List DoneT} {i : Nat} {x : DoneT} (hi : i < L.length) : (L.set i x).take (i + 1) = L.take i ++ [x] := by
  rw [List.take_add_one, List.take_set_of_le (Nat.le_refl _)]
  simp [hi]
theorem set_dropK {L : List DoneT} {i j : Nat} {x : DoneT} (hi : i < j) : (L.set i x).drop j = L.drop j := List.drop_set_of_lt hi
structure DelSK where
  i : Int
  j : Int
  cur : Array Value
  xs : List Value
  Lc : List DoneT
structure DelInvK (L : List DoneT) (seq : Int) (i j : Int) (Lc : List DoneT) : Prop where
  len : Lc.length = L.length
  take : Lc.take i.toNat = keepK (L.take j.toNat) seq
  drop : Lc.drop j.toNat = L.drop j.toNat
theorem DelInvK.at {L Lc : List DoneT} {seq i j : Int} {x : DoneT} (h : DelInvK L seq i j Lc) (hx : L[j.toNat]? = some x) : Lc[j.toNat]? = some x := by
  have h1 : (Lc.drop j.toNat)[0]? = (L.drop j.toNat)[0]? := by rw [h.drop]
  rw [List.getElem?_drop, List.getElem?_drop, Nat.add_zero] at h1
  rw [h1, hx]
theorem DelInvK.skip {L Lc : List DoneT} {seq i j : Int} {x : DoneT} (h : DelInvK L seq i j Lc) (hj : 0 ≤ j) (hx : L[j.toNat]? = some x) (hk : ¬ x.o.kind = seq) : DelInvK L seq i (j + 1) Lc := by
  refine ⟨h.len, ?_, ?_⟩
  · rw [h.take, ← take_snoc hj hx, keepK_snoc, if_neg hk, List.append_nil]
  · rw [show (j + 1).toNat = j.toNat + 1 by omega, ← List.drop_drop, ← List.drop_drop, h.drop]
theorem DelInvK.keep {L Lc : List DoneT} {seq i j : Int} {x : DoneT} (h : DelInvK L seq i j Lc) (hi : 0 ≤ i) (hij : i < j) (hj : j < L.length) (hx : L[j.toNat]? = some x) (hk : x.o.kind = seq) : DelInvK L seq (i + 1) (j + 1) (Lc.set i.toNat x) := by
  refine ⟨by rw [List.length_set]; exact h.len, ?_, ?_⟩
  · rw [show (i + 1).toNat = i.toNat + 1 by omega, set_takeK (by have := h.len; omega), h.take, ← take_snoc (by omega) hx, keepK_snoc, if_pos hk]
  · rw [set_dropK (by omega), show (j + 1).toNat = j.toNat + 1 by omega, ← List.drop_drop, ← List.drop_drop, h.drop]
set_option maxHeartbeats 4000000 in
theorem deleteKind {w : World} {S : Nat → Prop} {M : List Nat} {a : Option Addr} {n c : Nat} {L : List DoneT} {seq : Int} {b : Nat} (hP : Pre w S M [cAcc (.slice a n c) 112 11 (L.map eDone)]) (hl : L.length ≤ 4000000) (h : Rep w S (.pointer (some ⟨b, 0, none⟩)) (.ptr [.v (.int .i64 seq)])) :
    Calls Tryz.prog 97 #[.slice a n c, .func (.func 99) #[] #[.pointer (some ⟨b, 0, none⟩)]] w fun e w' => ∃ a' n' c', Ret M w S w' e (.slice a' n' c') [cAcc (.slice a' n' c') 112 11 ((keepK L seq).map eDone)] [] := by
  refine en97 (args := [.slice a n c, .func (.func 99) #[] #[.pointer (some ⟨b, 0, none⟩)]]) (S := S) (C := [cAcc (.slice a n c) 112 11 (L.map eDone)]) (G := [(_, .ptr [.v (.int .i64 seq)])]) (by kernel_rfl) hP (.cons h (.nil _ _)) ?_
  refine J_stpx (stp_acclen 0 rfl) fun _ hk => ?_
  rw [List.length_map] at hk
  subst hk
  refine J_seq ?_
  refine J_reg mixed [.rd 0 [] 0 0] [] [0, 1, 4] (E1 := fun _ => [(0, .val (.slice a L.length c)), (1, .val (.func (.func 99) #[] #[.pointer (some (⟨b, 0, none⟩))])), (4, .val (.slice none 0 0))]) (h1 := fun _ => []) (p1 := fun _ => []) (W1 := []) (by kernel_rfl) (fun _ => by kernel_rfl) (fun _ => trivial) (fun _ => ?_)
  refine J_seq ?_
  refine JR_begin mixed [(0, true), (1, true), (2, false), (3, true)] [] (by kernel_rfl) (by kernel_rfl) ?_
  refine JR_run (id := 1) (rest := [(2, false), (3, true)]) [.rd 0 [] 0 0, .rd 1 [] 0 0] [0, 1, 4, 8, 9] (E1 := fun _ => [(0, .val (.slice a L.length c)), (1, .val (.func (.func 99) #[] #[.pointer (some (⟨b, 0, none⟩))])), (4, .val (.slice none 0 0)), (8, .val (.slice a L.length c)), (9, .val (.func (.func 99) #[] #[.pointer (some (⟨b, 0, none⟩))]))]) (h1 := fun _ => []) (p1 := fun _ => []) (W1 := []) (fun _ => by kernel_rfl) (fun _ => trivial) (fun _ => ?_)
  refine JR_call [] [0] 123 #[.slice a L.length c, .func (.func 99) #[] #[.pointer (some (⟨b, 0, none⟩))]] (some 10) (by kernel_rfl) (by kernel_rfl) (by decide) (fun w S M hP hG _ => ?_)
  refine (indexKind hP hl (hG.at 0 rfl)).mono ?_
  rintro e1 w1 ⟨r, hR, hr⟩
  refine ⟨_, _, _, hR, ?_⟩
  obtain ⟨rfl, hall⟩ | ⟨hr0, hr1, ⟨y, hy, hys⟩, hrn⟩ := hr
  · try simp only [List.cons_append, List.nil_append, List.append_nil]
    refine JR_run (id := 1) (rest := []) [.rd 3 [] 0 0] [0, 1, 4, 5] (E1 := fun _ => [(0, .val (.slice a L.length c)), (1, .val (.func (.func 99) #[] #[.pointer (some (⟨b, 0, none⟩))])), (4, .val (.slice none 0 0)), (5, .val (.int .i64 (-1)))]) (h1 := fun _ => []) (p1 := fun _ => []) (W1 := []) (fun _ => by kernel_rfl) (fun _ => trivial) (fun _ => ?_)
    try simp only [List.cons_append, List.nil_append, List.append_nil]
    refine JR_end ?_
    try simp only [List.cons_append, List.nil_append, List.append_nil]
    refine J_seq ?_
    try simp only [List.cons_append, List.nil_append, List.append_nil]
    refine J_seq ?_
    try simp only [List.cons_append, List.nil_append, List.append_nil]
    refine J_reg mixed [.rd 0 [] 0 0, .rd 1 [] 0 0] [] [0, 1, 4, 5, 12] (E1 := fun _ => [(0, .val (.slice a L.length c)), (1, .val (.func (.func 99) #[] #[.pointer (some (⟨b, 0, none⟩))])), (4, .val (.slice none 0 0)), (5, .val (.int .i64 (-1))), (12, .val (.bool true))]) (h1 := fun _ => []) (p1 := fun _ => []) (W1 := []) (by kernel_rfl) (fun _ => by kernel_rfl) (fun _ => trivial) (fun _ => ?_)
    try simp only [List.cons_append, List.nil_append, List.append_nil]
    refine J_cond_t (by kernel_rfl) (by kernel_rfl) ?_
    try simp only [List.cons_append, List.nil_append, List.append_nil]
    refine J_seq ?_
    try simp only [List.cons_append, List.nil_append, List.append_nil]
    refine J_reg mixed [.rd 0 [] 0 0, .rd 1 [] 0 0] [] [0, 1, 4, 5] (E1 := fun _ => [(0, .val (.slice a L.length c)), (1, .val (.func (.func 99) #[] #[.pointer (some (⟨b, 0, none⟩))])), (4, .val (.slice a L.length c)), (5, .val (.int .i64 (-1)))]) (h1 := fun _ => []) (p1 := fun _ => []) (W1 := []) (by kernel_rfl) (fun _ => by kernel_rfl) (fun _ => trivial) (fun _ => ?_)
    try simp only [List.cons_append, List.nil_append, List.append_nil]
    refine J_return [[]] (.slice a L.length c) (by kernel_rfl) (fun a w s => ?_)
    rw [keepK_all hall]
    exact ⟨_, _, _, s.ret (by simp) [0] [] rfl rfl⟩
  · have hrm : ¬ r = -1 := by omega
    try simp only [List.cons_append, List.nil_append, List.append_nil]
    refine JR_run (id := 1) (rest := []) [.rd 3 [] 0 0] [0, 1, 4, 5] (E1 := fun _ => [(0, .val (.slice a L.length c)), (1, .val (.func (.func 99) #[] #[.pointer (some (⟨b, 0, none⟩))])), (4, .val (.slice none 0 0)), (5, .val (.int .i64 r))]) (h1 := fun _ => []) (p1 := fun _ => []) (W1 := []) (fun _ => by kernel_rfl) (fun _ => trivial) (fun _ => ?_)
    try simp only [List.cons_append, List.nil_append, List.append_nil]
    refine JR_end ?_
    try simp only [List.cons_append, List.nil_append, List.append_nil]
    refine J_seq ?_
    try simp only [List.cons_append, List.nil_append, List.append_nil]
    refine J_seq ?_
    try simp only [List.cons_append, List.nil_append, List.append_nil]
    refine J_reg mixed [.rd 0 [] 0 0, .rd 1 [] 0 7] [] [0, 1, 4, 5, 12] (E1 := fun _ => [(0, .val (.slice a L.length c)), (1, .val (.func (.func 99) #[] #[.pointer (some (⟨b, 0, none⟩))])), (4, .val (.slice none 0 0)), (5, .val (.int .i64 r)), (12, .val (.bool false))]) (h1 := fun _ => []) (p1 := fun _ => [(r == (-1 : Int)) = false]) (W1 := []) (by kernel_rfl) (fun _ => by kernel_rfl) (fun _ => ⟨by simp; omega, trivial⟩) (fun _ => ?_)
    try simp only [List.cons_append, List.nil_append, List.append_nil]
    refine J_cond_f (by kernel_rfl) (by kernel_rfl) ?_
    try simp only [List.cons_append, List.nil_append, List.append_nil]
    refine J_skip ?_
    try simp only [List.cons_append, List.nil_append, List.append_nil]
    refine J_seq ?_
    try simp only [List.cons_append, List.nil_append, List.append_nil]
    refine J_seq ?_
    try simp only [List.cons_append, List.nil_append, List.append_nil]
    refine J_reg mixed [.rd 0 [] 0 0, .rd 1 [] 0 1, .rd 2 [] 0 0] [] [0, 1, 4, 5, 6] (E1 := fun _ => [(0, .val (.slice a L.length c)), (1, .val (.func (.func 99) #[] #[.pointer (some (⟨b, 0, none⟩))])), (4, .val (.slice none 0 0)), (5, .val (.int .i64 r)), (6, .val (.int .i64 (r + 1)))]) (h1 := fun _ => []) (p1 := fun _ => [IntKind.i64.wrap (r + (1 : Int)) = r + (1 : Int)]) (W1 := []) (by kernel_rfl) (fun _ => by kernel_rfl) (fun _ => ⟨wrap_i64 (by omega) (by omega), trivial⟩) (fun _ => ?_)
    try simp only [List.cons_append, List.nil_append, List.append_nil]
    refine J_block ?_
    try simp only [List.cons_append, List.nil_append, List.append_nil]
    refine J_openacc 0 rfl (by intro h0; rw [List.map_eq_nil_iff] at h0; rw [h0] at hy; simp at hy) fun g cur0 xs0 hu _ _ hrow0 => ?_
    subst hu
    rw [List.length_map] at hrow0
    have hcap : L.length ≤ c := hrow0.le
    have hk0 : (L.take (r + 1).toNat).filter (fun m => decide (m.o.kind = seq)) = L.take r.toNat := by
      have := keepK_snoc (L := L.take r.toNat) (seq := seq) (x := y)
      rw [take_snoc hr0 hy, keepK_all hrn, if_neg hys, List.append_nil] at this
      exact this
    refine J_loopx (fun x : DelSK => [(0, .val (.slice (some (⟨g, 0, none⟩)) L.length c)), (1, .val (.func (.func 99) #[] #[.pointer (some (⟨b, 0, none⟩))])), (4, .val (.slice none 0 0)), (5, .val (.int .i64 x.i)), (6, .val (.int .i64 x.j))]) (fun x : DelSK => [(g, .cells x.cur 112 (0, 0))]) (fun x : DelSK => [cRows x.xs 11 (x.Lc.map eDone)]) (fun x : DelSK => [(.pointer (some (⟨b, 0, none⟩)), (D.ptr [D.v (Value.int IntKind.i64 seq)]))]) (fun x : DelSK => (L.length - x.j).toNat) (fun x : DelSK => (0 ≤ x.i ∧ x.i < x.j ∧ x.j ≤ L.length ∧ Row x.cur c L.length 11 x.xs ∧ DelInvK L seq x.i x.j x.Lc)) ⟨r, r + 1, cur0, xs0, L⟩ [0, 1, 4, 5, 6] [0] [0] [0] ?_ (by kernel_rfl) rfl rfl rfl ?_
    · exact ⟨hr0, by simp only; omega, by simp only; omega, hrow0, ⟨rfl, hk0.symm, rfl⟩⟩
    rintro ⟨i, j, cu, xs, Lc⟩ ⟨hi0, hij, hj, hrow, hinv⟩
    dsimp only at hi0 hij hj hrow hinv ⊢
    refine J_seq ?_
    refine J_seq ?_
    refine J_reg mixed [.rd 0 [] 0 0, .rd 1 [] 0 0, .rd 2 [] 0 0, .rd 3 [] 0 0] [] [0, 1, 4, 5, 6, 19] (E1 := fun _ => [(0, .val (.slice (some (⟨g, 0, none⟩)) L.length c)), (1, .val (.func (.func 99) #[] #[.pointer (some (⟨b, 0, none⟩))])), (4, .val (.slice none 0 0)), (5, .val (.int .i64 i)), (6, .val (.int .i64 j)), (19, .val (.bool (decide (j < (↑L.length : Int)))))]) (h1 := fun _ => [(g, .cells cu 112 (0, 0))]) (p1 := fun _ => []) (W1 := []) (by kernel_rfl) (fun _ => by kernel_rfl) (fun _ => trivial) (fun _ => ?_)
    refine J_cond (t := decide (j < (↑L.length : Int))) (by kernel_rfl) (by kernel_rfl) (fun hlt => ?_) (fun hlt => ?_)
    · have hlt2 : j < L.length := by simpa using hlt
      obtain ⟨x, hx⟩ : ∃ x, L[j.toNat]? = some x := ⟨_, List.getElem?_eq_getElem (by omega)⟩
      have hxc := hinv.at hx
      refine J_stpx (stp_readrows 0 rfl j.toNat (map_at hxc)) fun ls hls => ?_
      obtain ⟨hls1, hls2⟩ := hls
      obtain ⟨⟨xa, xc⟩, rfl⟩ : ∃ l0, ls = [l0] := len1 hls1
      have f := fun (j : Nat) v h => hrow.atx (hls2 j v h)
      have r0 : cu[0 + j.toNat * 11]? = some (.int .i64 x.o.no) := by rw [Nat.zero_add]; exact f 0 _ rfl
      have r1 : cu[0 + j.toNat * 11 + 1]? = some (.string x.o.key) := by rw [Nat.zero_add]; exact f 1 _ rfl
      have r2 : cu[0 + j.toNat * 11 + 2]? = some (.int .i64 x.o.kind) := by rw [Nat.zero_add]; exact f 2 _ rfl
      have r3 : cu[0 + j.toNat * 11 + 3]? = some (.string x.o.text) := by rw [Nat.zero_add]; exact f 3 _ rfl
      have r4 : cu[0 + j.toNat * 11 + 4]? = some (.int .i64 x.o.n) := by rw [Nat.zero_add]; exact f 4 _ rfl
      have r5 : cu[0 + j.toNat * 11 + 5]? = some (.bool x.o.remove) := by rw [Nat.zero_add]; exact f 5 _ rfl
      have r6 : cu[0 + j.toNat * 11 + 6]? = some (.slice xa (x.o.dots.map eDot).length xc) := by rw [Nat.zero_add]; exact f 6 _ rfl
      have r7 : cu[0 + j.toNat * 11 + 7]? = some (.int .i64 x.d.place) := by rw [Nat.zero_add]; exact f 7 _ rfl
      have r8 : cu[0 + j.toNat * 11 + 8]? = some (.int .i64 x.d.time) := by rw [Nat.zero_add]; exact f 8 _ rfl
      have r9 : cu[0 + j.toNat * 11 + 9]? = some (.int .i64 x.d.no) := by rw [Nat.zero_add]; exact f 9 _ rfl
      have r10 : cu[0 + j.toNat * 11 + 10]? = some (.int .i64 x.w) := by rw [Nat.zero_add]; exact f 10 _ rfl
      try simp only [List.cons_append, List.nil_append, List.append_nil]
      refine J_skip ?_
      refine J_seq ?_
      refine J_block ?_
      refine J_seq ?_
      refine J_reg mixed [.rd 0 [] 0 0, .rd 1 [] 0 0, .rd 2 [] 0 2, .rd 3 [.o 0 (some (.int .i64 x.o.no)), .o 0 (some (.string x.o.key)), .o 0 (some (.int .i64 x.o.kind)), .o 0 (some (.string x.o.text)), .o 0 (some (.int .i64 x.o.n)), .o 0 (some (.bool x.o.remove)), .o 0 (some (.slice xa ((List.map eDot x.o.dots).length) xc)), .o 0 (some (.int .i64 x.d.place)), .o 0 (some (.int .i64 x.d.time)), .o 0 (some (.int .i64 x.d.no)), .o 0 (some (.int .i64 x.w))] 0 0, .wr 4 [] 0, .wr 5 [.o 1 none, .o 1 none, .o 1 none, .o 1 none, .o 1 none, .o 1 none, .o 1 none, .o 1 none, .o 1 none, .o 1 none, .o 1 none] 0] [(5, [])] [0, 1, 4, 5, 6, 7] (E1 := fun nu1 => [(0, .val (.slice (some (⟨g, 0, none⟩)) L.length c)), (1, .val (.func (.func 99) #[] #[.pointer (some (⟨b, 0, none⟩))])), (4, .val (.slice none 0 0)), (5, .val (.int .i64 i)), (6, .val (.int .i64 j)), (7, .val (.pointer (some (⟨nu1 0, 0, none⟩))))]) (h1 := fun nu1 => [(g, .cells cu 112 (0, 0)), (nu1 0, .cells #[.int .i64 x.o.no, .string x.o.key, .int .i64 x.o.kind, .string x.o.text, .int .i64 x.o.n, .bool x.o.remove, .slice xa ((List.map eDot x.o.dots).length) xc, .int .i64 x.d.place, .int .i64 x.d.time, .int .i64 x.d.no, .int .i64 x.w] 112 (0, 0))]) (p1 := fun nu1 => [(0 : Int) ≤ j, j < (↑L.length : Int), cu[(0 : Nat) + j.toNat * (11 : Nat)]? = some (Value.int IntKind.i64 x.o.no), cu[(0 : Nat) + j.toNat * (11 : Nat) + (1 : Nat)]? = some (Value.string x.o.key), cu[(0 : Nat) + j.toNat * (11 : Nat) + (2 : Nat)]? = some (Value.int IntKind.i64 x.o.kind), cu[(0 : Nat) + j.toNat * (11 : Nat) + (3 : Nat)]? = some (Value.string x.o.text), cu[(0 : Nat) + j.toNat * (11 : Nat) + (4 : Nat)]? = some (Value.int IntKind.i64 x.o.n), cu[(0 : Nat) + j.toNat * (11 : Nat) + (5 : Nat)]? = some (Value.bool x.o.remove), cu[(0 : Nat) + j.toNat * (11 : Nat) + (6 : Nat)]? = some (Value.slice xa (List.map eDot x.o.dots).length xc), cu[(0 : Nat) + j.toNat * (11 : Nat) + (7 : Nat)]? = some (Value.int IntKind.i64 x.d.place), cu[(0 : Nat) + j.toNat * (11 : Nat) + (8 : Nat)]? = some (Value.int IntKind.i64 x.d.time), cu[(0 : Nat) + j.toNat * (11 : Nat) + (9 : Nat)]? = some (Value.int IntKind.i64 x.d.no), cu[(0 : Nat) + j.toNat * (11 : Nat) + (10 : Nat)]? = some (Value.int IntKind.i64 x.w)]) (W1 := []) (by kernel_rfl) (fun _ => by kernel_rfl) (fun _ => ⟨by omega, hlt2, r0, r1, r2, r3, r4, r5, r6, r7, r8, r9, r10, trivial⟩) (fun nu1 => ?_)
      refine J_seq ?_
      refine JR_begin mixed [(0, true), (1, true), (2, false), (3, true)] [] (by kernel_rfl) (by kernel_rfl) ?_
      refine JR_run (id := 8) (rest := [(2, false), (3, true)]) [.rd 0 [] 0 0, .rd 1 [.o 1 none, .o 1 none, .o 1 none, .o 1 none, .o 1 none, .o 1 none, .o 1 none, .o 1 none, .o 1 none, .o 1 none, .o 1 none] 0 0] [0, 1, 4, 5, 6, 7, 26, 27] (E1 := fun _ => [(0, .val (.slice (some (⟨g, 0, none⟩)) L.length c)), (1, .val (.func (.func 99) #[] #[.pointer (some (⟨b, 0, none⟩))])), (4, .val (.slice none 0 0)), (5, .val (.int .i64 i)), (6, .val (.int .i64 j)), (7, .val (.pointer (some (⟨nu1 0, 0, none⟩)))), (26, .val (.func (.func 99) #[] #[.pointer (some (⟨b, 0, none⟩))])), (27, .val (.agg #[.int .i64 x.o.no, .string x.o.key, .int .i64 x.o.kind, .string x.o.text, .int .i64 x.o.n, .bool x.o.remove, .slice xa ((List.map eDot x.o.dots).length) xc, .int .i64 x.d.place, .int .i64 x.d.time, .int .i64 x.d.no, .int .i64 x.w]))]) (h1 := fun _ => [(g, .cells cu 112 (0, 0)), (nu1 0, .cells #[.int .i64 x.o.no, .string x.o.key, .int .i64 x.o.kind, .string x.o.text, .int .i64 x.o.n, .bool x.o.remove, .slice xa ((List.map eDot x.o.dots).length) xc, .int .i64 x.d.place, .int .i64 x.d.time, .int .i64 x.d.no, .int .i64 x.w] 112 (0, 0))]) (p1 := fun _ => []) (W1 := []) (fun _ => by kernel_rfl) (fun _ => trivial) (fun _ => ?_)
      refine JR_callp [] 99 #[.agg #[.int .i64 x.o.no, .string x.o.key, .int .i64 x.o.kind, .string x.o.text, .int .i64 x.o.n, .bool x.o.remove, .slice xa ((List.map eDot x.o.dots).length) xc, .int .i64 x.d.place, .int .i64 x.d.time, .int .i64 x.d.no, .int .i64 x.w], .pointer (some (⟨b, 0, none⟩))] (some 28) (by kernel_rfl) (fun w S hG => ?_)
      refine (kind1 (m := x) rfl (hG.at 0 rfl)).mono ?_
      rintro e w2 hR
      refine ⟨_, _, _, hR, ?_⟩
      try simp only [List.cons_append, List.nil_append, List.append_nil]
      refine JR_run (id := 8) (rest := []) [.rd 3 [] 0 0] [0, 1, 4, 5, 6, 7, 29] (E1 := fun _ => [(0, .val (.slice (some (⟨g, 0, none⟩)) L.length c)), (1, .val (.func (.func 99) #[] #[.pointer (some (⟨b, 0, none⟩))])), (4, .val (.slice none 0 0)), (5, .val (.int .i64 i)), (6, .val (.int .i64 j)), (7, .val (.pointer (some (⟨nu1 0, 0, none⟩)))), (29, .val (.bool (!!decide (x.o.kind = seq))))]) (h1 := fun _ => [(g, .cells cu 112 (0, 0)), (nu1 0, .cells #[.int .i64 x.o.no, .string x.o.key, .int .i64 x.o.kind, .string x.o.text, .int .i64 x.o.n, .bool x.o.remove, .slice xa ((List.map eDot x.o.dots).length) xc, .int .i64 x.d.place, .int .i64 x.d.time, .int .i64 x.d.no, .int .i64 x.w] 112 (0, 0))]) (p1 := fun _ => []) (W1 := []) (fun _ => by kernel_rfl) (fun _ => trivial) (fun _ => ?_)
      refine JR_end ?_
      refine J_cond (t := !!decide (x.o.kind = seq)) (by kernel_rfl) (by kernel_rfl) (fun hb => ?_) (fun hb => ?_)
      · have hkeep : x.o.kind = seq := by simpa using hb
        have hsz := hrow.siz
        have hll := hinv.len
        have hi9 : 0 + i.toNat * 11 + 11 ≤ cu.size := by omega
        refine J_seq ?_
        refine JR_begin mixed [(0, true), (1, true), (2, true), (3, true), (4, false)] [] (by kernel_rfl) (by kernel_rfl) ?_
        refine JR_run (id := 9) (rest := [(4, false)]) [.rd 0 [] 0 0, .rd 1 [] 0 0, .rd 2 [.o 1 none, .o 1 none, .o 1 none, .o 1 none, .o 1 none, .o 1 none, .o 1 none, .o 1 none, .o 1 none, .o 1 none, .o 1 none] 0 0, .rd 3 [] 0 2] [0, 1, 4, 5, 6, 7, 32, 33] (E1 := fun _ => [(0, .val (.slice (some (⟨g, 0, none⟩)) L.length c)), (1, .val (.func (.func 99) #[] #[.pointer (some (⟨b, 0, none⟩))])), (4, .val (.slice none 0 0)), (5, .val (.int .i64 i)), (6, .val (.int .i64 j)), (7, .val (.pointer (some (⟨nu1 0, 0, none⟩)))), (32, .val (.agg #[.int .i64 x.o.no, .string x.o.key, .int .i64 x.o.kind, .string x.o.text, .int .i64 x.o.n, .bool x.o.remove, .slice xa ((List.map eDot x.o.dots).length) xc, .int .i64 x.d.place, .int .i64 x.d.time, .int .i64 x.d.no, .int .i64 x.w])), (33, .val (.pointer (some (⟨g, 0 + i.toNat * 11, none⟩))))]) (h1 := fun _ => [(g, .cells cu 112 (0, 0)), (nu1 0, .cells #[.int .i64 x.o.no, .string x.o.key, .int .i64 x.o.kind, .string x.o.text, .int .i64 x.o.n, .bool x.o.remove, .slice xa ((List.map eDot x.o.dots).length) xc, .int .i64 x.d.place, .int .i64 x.d.time, .int .i64 x.d.no, .int .i64 x.w] 112 (0, 0))]) (p1 := fun _ => [(0 : Int) ≤ i, i < (↑L.length : Int)]) (W1 := []) (fun _ => by kernel_rfl) (fun _ => ⟨hi0, by omega, trivial⟩) (fun _ => ?_)
        refine JR_storerow 0 g (0 + i.toNat * 11) 112 112 (.agg #[.int .i64 x.o.no, .string x.o.key, .int .i64 x.o.kind, .string x.o.text, .int .i64 x.o.n, .bool x.o.remove, .slice xa ((List.map eDot x.o.dots).length) xc, .int .i64 x.d.place, .int .i64 x.d.time, .int .i64 x.d.no, .int .i64 x.w]) [.int .i64 x.o.no, .string x.o.key, .int .i64 x.o.kind, .string x.o.text, .int .i64 x.o.n, .bool x.o.remove, .slice xa ((List.map eDot x.o.dots).length) xc, .int .i64 x.d.place, .int .i64 x.d.time, .int .i64 x.d.no, .int .i64 x.w] none (by kernel_rfl) (by kernel_rfl) (by kernel_rfl) rfl rfl rfl hi9 (by simp [Value.oneCell']) ?_
        refine JR_end ?_
        rw [Nat.zero_add]
        refine J_stp (stp_putrow 0 i.toNat (vs := [.int .i64 x.o.no, .string x.o.key, .int .i64 x.o.kind, .string x.o.text, .int .i64 x.o.n, .bool x.o.remove, .slice xa (x.o.dots.map eDot).length xc, .int .i64 x.d.place, .int .i64 x.d.time, .int .i64 x.d.no, .int .i64 x.w]) (row := eDone x) rfl (by rw [hrow.len, List.length_map, hll]) (by rw [List.length_map]; omega) rfl ⟨.inl ⟨rfl, rfl⟩, .inl ⟨rfl, rfl⟩, .inl ⟨rfl, rfl⟩, .inl ⟨rfl, rfl⟩, .inl ⟨rfl, rfl⟩, .inl ⟨rfl, rfl⟩, .inr (.inl (List.mem_of_getElem? (i := 1) rfl)), .inl ⟨rfl, rfl⟩, .inl ⟨rfl, rfl⟩, .inl ⟨rfl, rfl⟩, .inl ⟨rfl, rfl⟩, trivial⟩) ?_
        rw [show (List.map eDone Lc).set i.toNat (eDone x) = List.map eDone (Lc.set i.toNat x) from List.map_set.symm]
        refine J_reg mixed [.rd 0 [] 0 0, .rd 1 [] 0 1, .rd 2 [] 0 0] [] [0, 1, 4, 5, 6, 7, 32, 33] (E1 := fun _ => [(0, .val (.slice (some (⟨g, 0, none⟩)) L.length c)), (1, .val (.func (.func 99) #[] #[.pointer (some (⟨b, 0, none⟩))])), (4, .val (.slice none 0 0)), (5, .val (.int .i64 (i + 1))), (6, .val (.int .i64 j)), (7, .val (.pointer (some (⟨nu1 0, 0, none⟩)))), (32, .val (.agg #[.int .i64 x.o.no, .string x.o.key, .int .i64 x.o.kind, .string x.o.text, .int .i64 x.o.n, .bool x.o.remove, .slice xa ((List.map eDot x.o.dots).length) xc, .int .i64 x.d.place, .int .i64 x.d.time, .int .i64 x.d.no, .int .i64 x.w])), (33, .val (.pointer (some (⟨g, i.toNat * 11, none⟩))))]) (h1 := fun _ => [(g, .cells (seg cu (i.toNat * 11) [Value.int IntKind.i64 x.o.no, Value.string x.o.key, Value.int IntKind.i64 x.o.kind, Value.string x.o.text, Value.int IntKind.i64 x.o.n, Value.bool x.o.remove, Value.slice xa (List.map eDot x.o.dots).length xc, Value.int IntKind.i64 x.d.place, Value.int IntKind.i64 x.d.time, Value.int IntKind.i64 x.d.no, Value.int IntKind.i64 x.w]) 112 (0, 0)), (nu1 0, .cells #[.int .i64 x.o.no, .string x.o.key, .int .i64 x.o.kind, .string x.o.text, .int .i64 x.o.n, .bool x.o.remove, .slice xa ((List.map eDot x.o.dots).length) xc, .int .i64 x.d.place, .int .i64 x.d.time, .int .i64 x.d.no, .int .i64 x.w] 112 (0, 0))]) (p1 := fun _ => [IntKind.i64.wrap (i + (1 : Int)) = i + (1 : Int)]) (W1 := []) (by kernel_rfl) (fun _ => by kernel_rfl) (fun _ => ⟨wrap_i64 (by omega) (by omega), trivial⟩) (fun _ => ?_)
        refine J_eb ?_
        refine J_reg mixed [.rd 0 [] 0 0, .rd 1 [] 0 1, .rd 2 [] 0 0] [] [0, 1, 4, 5, 6, 7, 32, 33] (E1 := fun _ => [(0, .val (.slice (some (⟨g, 0, none⟩)) L.length c)), (1, .val (.func (.func 99) #[] #[.pointer (some (⟨b, 0, none⟩))])), (4, .val (.slice none 0 0)), (5, .val (.int .i64 (i + 1))), (6, .val (.int .i64 (j + 1))), (7, .val (.pointer (some (⟨nu1 0, 0, none⟩)))), (32, .val (.agg #[.int .i64 x.o.no, .string x.o.key, .int .i64 x.o.kind, .string x.o.text, .int .i64 x.o.n, .bool x.o.remove, .slice xa ((List.map eDot x.o.dots).length) xc, .int .i64 x.d.place, .int .i64 x.d.time, .int .i64 x.d.no, .int .i64 x.w])), (33, .val (.pointer (some (⟨g, i.toNat * 11, none⟩))))]) (h1 := fun _ => [(g, .cells (seg cu (i.toNat * 11) [Value.int IntKind.i64 x.o.no, Value.string x.o.key, Value.int IntKind.i64 x.o.kind, Value.string x.o.text, Value.int IntKind.i64 x.o.n, Value.bool x.o.remove, Value.slice xa (List.map eDot x.o.dots).length xc, Value.int IntKind.i64 x.d.place, Value.int IntKind.i64 x.d.time, Value.int IntKind.i64 x.d.no, Value.int IntKind.i64 x.w]) 112 (0, 0)), (nu1 0, .cells #[.int .i64 x.o.no, .string x.o.key, .int .i64 x.o.kind, .string x.o.text, .int .i64 x.o.n, .bool x.o.remove, .slice xa ((List.map eDot x.o.dots).length) xc, .int .i64 x.d.place, .int .i64 x.d.time, .int .i64 x.d.no, .int .i64 x.w] 112 (0, 0))]) (p1 := fun _ => [IntKind.i64.wrap (j + (1 : Int)) = j + (1 : Int)]) (W1 := []) (by kernel_rfl) (fun _ => by kernel_rfl) (fun _ => ⟨wrap_i64 (by omega) (by omega), trivial⟩) (fun _ => ?_)
        refine J_backx ⟨i + 1, j + 1, _, _, Lc.set i.toNat x⟩ [0, 1, 4, 5, 6] [0] [0] [0] ?_ ?_ (by kernel_rfl) rfl rfl rfl
        · exact ⟨by simp only; omega, by simp only; omega, by simp only; omega, hrow.turn (by omega) rfl, hinv.keep hi0 hij hlt2 hx hkeep⟩
        · simp only
          omega
      · have hdel : ¬ x.o.kind = seq := by simpa using hb
        refine J_skip ?_
        refine J_eb ?_
        refine J_reg mixed [.rd 0 [] 0 0, .rd 1 [] 0 1, .rd 2 [] 0 0] [] [0, 1, 4, 5, 6, 7] (E1 := fun _ => [(0, .val (.slice (some (⟨g, 0, none⟩)) L.length c)), (1, .val (.func (.func 99) #[] #[.pointer (some (⟨b, 0, none⟩))])), (4, .val (.slice none 0 0)), (5, .val (.int .i64 i)), (6, .val (.int .i64 (j + 1))), (7, .val (.pointer (some (⟨nu1 0, 0, none⟩))))]) (h1 := fun _ => [(g, .cells cu 112 (0, 0)), (nu1 0, .cells #[.int .i64 x.o.no, .string x.o.key, .int .i64 x.o.kind, .string x.o.text, .int .i64 x.o.n, .bool x.o.remove, .slice xa ((List.map eDot x.o.dots).length) xc, .int .i64 x.d.place, .int .i64 x.d.time, .int .i64 x.d.no, .int .i64 x.w] 112 (0, 0))]) (p1 := fun _ => [IntKind.i64.wrap (j + (1 : Int)) = j + (1 : Int)]) (W1 := []) (by kernel_rfl) (fun _ => by kernel_rfl) (fun _ => ⟨wrap_i64 (by omega) (by omega), trivial⟩) (fun _ => ?_)
        refine J_backx ⟨i, j + 1, cu, xs, Lc⟩ [0, 1, 4, 5, 6] [0] [0] [0] ?_ ?_ (by kernel_rfl) rfl rfl rfl
        · exact ⟨hi0, by simp only; omega, by simp only; omega, hrow, hinv.skip (by omega) hx hdel⟩
        · simp only
          omega
    · have hjl : j = L.length := by simp at hlt; omega
      have hsz := hrow.siz
      have hll := hinv.len
      have hil : i < L.length := by omega
      have hic : i < c := by omega
      have hfin : Lc.take i.toNat = keepK L seq := by
        rw [hinv.take, hjl, List.take_of_length_le (by simp)]
      have hcl : 0 + i.toNat * 11 + (L.length - i.toNat) * 11 ≤ cu.size := by omega
      refine J_exit rfl ?_
      refine J_seq ?_
      refine JR_begin mixed [(0, true), (1, true), (2, true), (3, false)] [] (by kernel_rfl) (by kernel_rfl) ?_
      refine JR_run (id := 11) (rest := [(3, false)]) [.rd 0 [] 0 0, .rd 1 [] 0 0, .rd 2 [] 0 4] [0, 4, 5, 38] (E1 := fun _ => [(0, .val (.slice (some (⟨g, 0, none⟩)) L.length c)), (4, .val (.slice none 0 0)), (5, .val (.int .i64 i)), (38, .val (.slice (some (⟨g, 0 + i.toNat * 11, none⟩)) (L.length - i.toNat) (c - i.toNat)))]) (h1 := fun _ => [(g, .cells cu 112 (0, 0))]) (p1 := fun _ => [(0 : Int) ≤ i, i ≤ (↑L.length : Int), i < (↑c : Int)]) (W1 := []) (fun _ => by kernel_rfl) (fun _ => ⟨hi0, by omega, hic, trivial⟩) (fun _ => ?_)
      refine JR_clear (size := 11) (bytes := 120) 0 g (0 + i.toNat * 11) (L.length - i.toNat) (c - i.toNat) 106 112 (.agg #[.int .i64 0, .string (ByteArray.mk #[]), .int .i64 0, .string (ByteArray.mk #[]), .int .i64 0, .bool false, .slice none 0 0, .int .i64 0, .int .i64 0, .int .i64 0, .int .i64 0]) none (by kernel_rfl) (by kernel_rfl) (by kernel_rfl) (by kernel_rfl) (by omega) rfl rfl hcl (by simp [Value.cells, Value.oneCell']) (fun vs1 hvs1 => ?_)
      refine JR_end ?_
      refine J_seq ?_
      rw [Nat.zero_add]
      refine J_stp (stp_cutrows 0 i.toNat rfl) ?_
      refine J_hide 0 rfl ?_
      refine J_norm (C' := [(cRows (List.take (i.toNat * 11) xs) 11 (List.take i.toNat (List.map eDone Lc))), cObj g (.cells (seg cu (i.toNat * 11) vs1) 112 (0, 0))]) (G' := [(.pointer (some (⟨b, 0, none⟩)), (D.ptr [D.v (Value.int IntKind.i64 seq)]))]) (by kernel_rfl) (by kernel_rfl) ?_
      rw [show List.take i.toNat (List.map eDone Lc) = List.map eDone (keepK L seq) by rw [← List.map_take, hfin]]
      have hrow2 := hrow.clr (i := i.toNat) (by omega) hvs1
      have hkl : (List.map eDone (keepK L seq)).length = i.toNat := by rw [← hfin]; simp; omega
      refine J_stp (stp_closeacc 1 0 rfl rfl (by rw [hkl]; exact hrow2) (by decide)) ?_
      rw [hkl]
      try simp only [List.cons_append, List.nil_append, List.append_nil]
      refine J_reg mixed [.rd 0 [] 0 0, .rd 1 [] 0 0, .rd 2 [] 0 4, .rd 3 [] 0 0] [] [4] (E1 := fun _ => [(4, .val (.slice (some (⟨g, 0, none⟩)) i.toNat c))]) (h1 := fun _ => []) (p1 := fun _ => [(0 : Int) ≤ i, i ≤ (↑c : Int)]) (W1 := []) (by kernel_rfl) (fun _ => by kernel_rfl) (fun _ => ⟨hi0, by omega, trivial⟩) (fun _ => ?_)
      try simp only [List.cons_append, List.nil_append, List.append_nil]
      refine J_return [[]] (.slice (some (⟨g, 0, none⟩)) i.toNat c) (by kernel_rfl) (fun a w s => ?_)
      exact ⟨_, _, _, s.ret (by simp) [0] [] rfl rfl⟩
end Go.Proofs.YtpjkiomccpjboaaGreatDoor
namespace Go.Proofs.YtpjkiomccpjboaaGreatDoor
open Go Go.Sx

theorem vKind {w : World} {S : Nat → Prop} {a : Option Addr} {n c : Nat} {l : List DoneT} (h : Rep w S (.slice a n c) (.sl 11 (l.map eDone))) (hl : l.length ≤ 4000000) :
    Calls Tryz.prog 62 #[.slice a n c] w fun e w' => ∃ a' n' c', Ret [] w S w' e (.tuple #[.int .i64 (kindOf l), .slice a' n' c']) [] [(.slice a' n' c', .sl 11 ((kindL l).map eDone))] := by
  have e1 := h.slen
  rw [List.length_map] at e1
  subst e1
  refine ep62 (args := [.slice a l.length c]) (G := [(_, .sl 11 (l.map eDone))]) (by kernel_rfl) (.cons h (.nil _ _)) ?_
  cases hl0 : l with
  | nil =>
    subst hl0
    refine J_seq ?_
    refine J_reg mixed [.rd 0 [] 0 0, .rd 1 [] 0 0] [] [0, 2, 3] (E1 := fun _ => [(0, .val (.slice a 0 c)), (2, .val (.int .i64 0)), (3, .val (.slice none 0 0))]) (h1 := fun _ => []) (p1 := fun _ => []) (W1 := []) (by kernel_rfl) (fun _ => by kernel_rfl) (fun _ => trivial) (fun _ => ?_)
    refine J_seq ?_
    refine J_seq ?_
    refine J_reg mixed [.rd 0 [] 0 0, .rd 1 [] 0 0, .rd 2 [] 0 0] [] [0, 2, 3, 7] (E1 := fun _ => [(0, .val (.slice a 0 c)), (2, .val (.int .i64 0)), (3, .val (.slice none 0 0)), (7, .val (.bool true))]) (h1 := fun _ => []) (p1 := fun _ => []) (W1 := []) (by kernel_rfl) (fun _ => by kernel_rfl) (fun _ => trivial) (fun _ => ?_)
    refine J_cond_t (by kernel_rfl) (by kernel_rfl) ?_
    refine J_seq ?_
    refine J_reg mixed [.rd 0 [] 0 0, .rd 1 [] 0 0] [] [0, 2, 3] (E1 := fun _ => [(0, .val (.slice a 0 c)), (2, .val (.int .i64 0)), (3, .val (.slice none 0 0))]) (h1 := fun _ => []) (p1 := fun _ => []) (W1 := []) (by kernel_rfl) (fun _ => by kernel_rfl) (fun _ => trivial) (fun _ => ?_)
    refine J_return [[], []] (.tuple #[.int .i64 0, .slice none 0 0]) (by kernel_rfl) (fun a w s => ?_)
    exact ⟨_, _, _, (s.stp (stp_fact (v := .slice none 0 0) (d := .sl 11 []) fun _ _ _ => .nil)).ret (by simp) [] [1] rfl rfl⟩
  | cons x r =>
    have hx : l[0]? = some x := by rw [hl0]; rfl
    have hk : kindOf (x :: r) = x.o.kind := rfl
    have hpos : ¬ ((l.length : Int) = 0) := by rw [hl0]; simp; omega
    rw [hk, ← hl0]
    refine J_read1 0 rfl 0 (map_at hx) (by kernel_rfl) (fun b1 off1 cs1 ty1 fz1 a1_0 c1_0 ha1 hrd1 => ?_)
    cases ha1
    have hrd1_0 := rd0 (hrd1 0 _ rfl)
    have hrd1_1 := hrd1 1 _ rfl
    have hrd1_2 := hrd1 2 _ rfl
    have hrd1_3 := hrd1 3 _ rfl
    have hrd1_4 := hrd1 4 _ rfl
    have hrd1_5 := hrd1 5 _ rfl
    have hrd1_6 := hrd1 6 _ rfl
    have hrd1_7 := hrd1 7 _ rfl
    have hrd1_8 := hrd1 8 _ rfl
    have hrd1_9 := hrd1 9 _ rfl
    have hrd1_10 := hrd1 10 _ rfl
    have hz : cs1[off1 + 2]? = some (.int .i64 x.o.kind) := hrd1_2
    try simp only [List.cons_append, List.nil_append, List.append_nil]
    refine J_seq ?_
    refine J_reg mixed [.rd 0 [] 0 0, .rd 1 [] 0 0] [] [0, 2, 3] (E1 := fun _ => [(0, .val (.slice (some (⟨b1, off1, none⟩)) l.length c)), (2, .val (.int .i64 0)), (3, .val (.slice none 0 0))]) (h1 := fun _ => []) (p1 := fun _ => []) (W1 := []) (by kernel_rfl) (fun _ => by kernel_rfl) (fun _ => trivial) (fun _ => ?_)
    refine J_seq ?_
    refine J_seq ?_
    refine J_reg mixed [.rd 0 [] 0 0, .rd 1 [] 0 0, .rd 2 [] 0 0] [] [0, 2, 3, 7] (E1 := fun _ => [(0, .val (.slice (some (⟨b1, off1, none⟩)) l.length c)), (2, .val (.int .i64 0)), (3, .val (.slice none 0 0)), (7, .val (.bool ((↑l.length : Int) == 0)))]) (h1 := fun _ => []) (p1 := fun _ => []) (W1 := []) (by kernel_rfl) (fun _ => by kernel_rfl) (fun _ => trivial) (fun _ => ?_)
    refine J_cond (t := (↑l.length : Int) == 0) (by kernel_rfl) (by kernel_rfl) (fun hz0 => ?_) (fun hz0 => ?_)
    · exact absurd (by simpa using hz0) hpos
    refine J_skip ?_
    refine J_seq ?_
    refine J_reg mixed [.rd 0 [] 0 0, .rd 1 [] 0 2, .rd 2 [] 0 0, .rd 3 [] 0 0, .rd 4 [.r 0 (some (.int .i64 x.o.kind))] 0 0, .wr 5 [] 0, .wr 6 [.o 0 none] 0] [(6, [])] [0, 2, 3, 4] (E1 := fun nu1 => [(0, .val (.slice (some (⟨b1, off1, none⟩)) l.length c)), (2, .val (.int .i64 0)), (3, .val (.slice none 0 0)), (4, .val (.pointer (some (⟨nu1 0, 0, none⟩))))]) (h1 := fun nu1 => [(nu1 0, .cells #[.int .i64 x.o.kind] 3 (0, 0))]) (p1 := fun nu1 => [(0 : Int) ≤ (0 : Int), (0 : Int) < (↑l.length : Int), cs1[off1 + (0 : Nat) * (11 : Nat) + (2 : Nat)]? = some (Value.int IntKind.i64 x.o.kind)]) (W1 := []) (by kernel_rfl) (fun _ => by kernel_rfl) (fun _ => ⟨by omega, by omega, hrd1_2, trivial⟩) (fun nu1 => ?_)
    refine J_seq ?_
    refine J_share 0 rfl ?_
    refine J_stp (stp_fact fun w S H => obj_ptr (H (_, _) (List.mem_of_getElem? (i := 2) rfl)) rfl) ?_
    refine J_glob 3 rfl (fun csg1 tyg1 fzg1 hglob1 => ?_)
    try simp only [List.cons_append, List.nil_append, List.append_nil]
    refine JR_begin mixed [(0, true), (1, true), (3, true), (2, false), (4, false), (5, true), (6, true)] [(4, [])] (by kernel_rfl) (by kernel_rfl) ?_
    refine JR_run (id := 4) (rest := [(2, false), (4, false), (5, true), (6, true)]) [.rd 0 [.r 1 (some (.int .i64 x.o.kind))] 0 0, .rd 1 [] 0 0, .rd 3 [] 0 0] [2, 3, 13, 14, 16] (E1 := fun _ => [(2, .val (.int .i64 0)), (3, .val (.slice none 0 0)), (13, .val (.int .i64 x.o.kind)), (14, .val (.slice (some (⟨b1, off1, none⟩)) l.length c)), (16, .val (.func (.func 99) #[] #[.pointer (some (⟨nu1 0, 0, none⟩))]))]) (h1 := fun _ => []) (p1 := fun _ => [csg1[(0 : Nat)]? = some (Value.int IntKind.i64 x.o.kind)]) (W1 := [(4, [])]) (fun _ => by kernel_rfl) (fun _ => ⟨hglob1, trivial⟩) (fun _ => ?_)
    refine JR_callp [] 98 #[.slice (some (⟨b1, off1, none⟩)) l.length c] (some 15) (by kernel_rfl) (fun w S hG => ?_)
    refine (cloneDone (hG.at 0 rfl) hl).mono ?_
    rintro e2 w2 ⟨a2, c2, hR⟩
    refine ⟨_, _, _, hR, ?_⟩
    try simp only [List.cons_append, List.nil_append, List.append_nil]
    refine JR_call [] [0] 97 #[.slice a2 l.length c2, .func (.func 99) #[] #[.pointer (some (⟨nu1 0, 0, none⟩))]] (some 17) (by kernel_rfl) (by kernel_rfl) (by decide) (fun w S M hP hG _ => ?_)
    refine (deleteKind hP hl (hG.at 3 rfl)).mono ?_
    rintro e3 w3 ⟨a3, n3, c3, hR⟩
    refine ⟨_, _, _, hR, ?_⟩
    try simp only [List.cons_append, List.nil_append, List.append_nil]
    refine JR_run (id := 4) (rest := []) [.rd 5 [] 0 0, .rd 6 [] 0 0] [2, 3] (E1 := fun _ => [(2, .val (.int .i64 x.o.kind)), (3, .val (.slice a3 n3 c3))]) (h1 := fun _ => []) (p1 := fun _ => []) (W1 := []) (fun _ => by kernel_rfl) (fun _ => trivial) (fun _ => ?_)
    try simp only [List.cons_append, List.nil_append, List.append_nil]
    refine JR_end ?_
    try simp only [List.cons_append, List.nil_append, List.append_nil]
    refine J_return [[], []] (.tuple #[.int .i64 x.o.kind, .slice a3 n3 c3]) (by kernel_rfl) (fun a w s => ?_)
    have e4 : keepK l x.o.kind = kindL l := by rw [kindL, hl0]; rfl
    rw [e4] at s
    have s2 := s.stp (stp_freeze 0 rfl)
    exact ⟨_, _, _, s2.ret (by simp) [] [4] rfl rfl⟩
end Go.Proofs.YtpjkiomccpjboaaGreatDoor
