/- stream: (*Receiver).Hear, of any message. -/
import Derived.Test.YtgelnbgjabpdbaaDoorWay
import Derived.Test.YtgelnbgjabpdbaaDoorOwnT
namespace Go.Proofs.YtgelnbgjabpdbaaDoor
open Go Go.Sx

section
variable {h r : List (Nat × Obj)} {F : List (List Nat × World)}
theorem stp_keptnone {S0 : Nat → Prop} {C0 : List Chunk} {G0 : List (Value × D)} (q : Nat) {g : Value → Option Value} {K : Value → Option (List D)} (hq : C0[q]? = some (cKept g K)) (key : Value) (hK : K key = none) : Stp h r F ⟨S0, C0, G0⟩ (fun _ : Unit => g key = none) fun _ => ⟨S0, C0, G0⟩ := by
  intro w fps hO H
  obtain ⟨fp, hfp, _, hP⟩ := H.chs.at hq
  exact ⟨(), fps, hP.1 key hK, fun _ hb => hb, H⟩
end
structure HearS where
  a : Option Addr
  k : Nat
  c : Nat
  out : List MsgT
  L : List MsgT
  q : Int
  t : Int
  es : Array MapEntry
  clock : Nat
  g : Value → Option Value
abbrev rCells (fm to sh q t : Int) (mb : Nat) : Obj := .cells #[.int .i64 fm, .int .i64 to, .int .i64 sh, .int .i64 q, .int .i64 t, .map (some mb)] 89 (0, 0)

set_option maxHeartbeats 8000000 in
theorem hear {w0 : World} {S : Nat → Prop} {M : List Nat} {er : Nat → Addr} {eb : Nat → Array Value × TypeId} {b mb : Nat} {fm to sh q t : Int} {L : List MsgT} {m : MsgT} {a1 a2 : Option Addr} {n1 c1 n2 c2 : Nat} (hC : Rep w0 S .nilIface (dC er eb))
    (hP : Pre w0 S M [cObj b (rCells fm to sh q t mb), cMap mb (.int .i64) (KL L)]) (hd : Dist L) (h1 : Rep w0 S (.slice a1 n1 c1) (dInts m.c.when)) (h2 : Rep w0 S (.slice a2 n2 c2) (.sl 7 (m.c.ops.map eOp))) (hl1 : m.c.when.length ≤ 1000000) (hl2 : m.c.ops.length ≤ 1000000) (hl3 : ∀ o ∈ m.c.ops, o.dots.length ≤ 1000000)
    (hq0 : 0 ≤ q) (hq1 : q + L.length < 1000000) (hms : -9223372036854775808 ≤ m.seq ∧ m.seq ≤ 9223372036854775807) :
    Calls Tryd.prog 11 #[.pointer (some ⟨b, 0, none⟩), mAgg m (.slice a1 n1 c1) (.slice a2 n2 c2)] w0 fun e w' => ∃ a' n' c' v,
      Ret M w0 S w' e (.tuple #[.slice a' n' c', v]) [cObj b (rCells fm to sh (hearT fm to sh ⟨L, q, t⟩ m).2.2.q (hearT fm to sh ⟨L, q, t⟩ m).2.2.t mb), cMap mb (.int .i64) (KL (hearT fm to sh ⟨L, q, t⟩ m).2.2.L)] [(.slice a' n' c', .sl 9 ((hearT fm to sh ⟨L, q, t⟩ m).2.1.map eMsg))] ∧
      ErrIs 168 er (hearT fm to sh ⟨L, q, t⟩ m).1 v := by
  refine en11 (args := [.pointer (some ⟨b, 0, none⟩), mAgg m (.slice a1 n1 c1) (.slice a2 n2 c2)]) (S := S) (C := [cObj b (rCells fm to sh q t mb), cMap mb (.int .i64) (KL L)]) (G := [(_, dC er eb), (_, dInts m.c.when), (_, .sl 7 (m.c.ops.map eOp))]) (by kernel_rfl) hP (.cons hC (.cons h1 (.cons h2 (.nil _ _)))) ?_
  refine J_show 0 rfl ?_
  refine J_openmap 0 rfl fun es clock g hm => ?_
  refine J_stp (stp_all 0 [1, 2, 6] rfl rfl) ?_
  refine J_glob 3 rfl (fun csg1 tyg1 fzg1 hglob1 => ?_)
  refine J_glob 4 rfl (fun csg2 tyg2 fzg2 hglob2 => ?_)
  refine J_glob 5 rfl (fun csg3 tyg3 fzg3 hglob3 => ?_)
  try simp only [List.cons_append, List.nil_append, List.append_nil]
  refine J_seq ?_
  try simp only [List.cons_append, List.nil_append, List.append_nil]
  refine J_reg mixed [.wr 0 [] 0, .rd 1 [] 0 0, .rd 2 [] 0 0] [] [0, 3, 4, 5] (E1 := fun nu1 => [(0, .val (.pointer (some (⟨b, 0, none⟩)))), (3, .val (.pointer (some (⟨nu1 0, 0, none⟩)))), (4, .val (.slice none 0 0)), (5, .val (.nilIface))]) (h1 := fun nu1 => [(b, .cells #[.int .i64 fm, .int .i64 to, .int .i64 sh, .int .i64 q, .int .i64 t, .map (some mb)] 89 (0, 0)), (mb, Obj.map es clock), (nu1 0, .cells #[.int .i64 m.fm, .int .i64 m.to, .int .i64 m.shard, .int .i64 m.seq, .int .i64 m.time, .bool m.beat, .slice a1 n1 c1, .int .i64 m.c.place, .slice a2 n2 c2] 37 (0, 0))]) (p1 := fun nu1 => []) (W1 := []) (by kernel_rfl) (fun _ => by kernel_rfl) (fun _ => trivial) (fun nu1 => ?_)
  try simp only [List.cons_append, List.nil_append, List.append_nil]
  refine J_seq ?_
  try simp only [List.cons_append, List.nil_append, List.append_nil]
  refine J_block ?_
  try simp only [List.cons_append, List.nil_append, List.append_nil]
  refine J_seq ?_
  try simp only [List.cons_append, List.nil_append, List.append_nil]
  refine J_reg mixed [.rd 0 [] 0 0, .rd 1 [.o 2 none] 0 0, .rd 2 [] 0 0, .rd 3 [] 0 0, .rd 4 [] 0 0, .rd 5 [] 0 0, .rd 6 [.o 0 none] 0 0, .rd 7 [] 0 0, .rd 8 [] 0 0, .rd 9 [] 2 0, .rd 10 [.o 2 none] 2 0, .rd 11 [] 2 0, .rd 12 [] 2 0, .rd 13 [] 2 0, .rd 14 [] 2 0, .rd 15 [.o 0 none] 2 0, .rd 16 [] 2 0, .rd 17 [] 0 3, .rd 18 [] 0 0, .rd 19 [] 2 0, .rd 20 [.o 2 none] 2 0, .rd 21 [] 2 0, .rd 22 [] 2 0, .rd 23 [] 2 0, .rd 24 [] 2 0, .rd 25 [.o 0 none] 2 0, .rd 26 [] 2 0, .rd 27 [] 0 3, .rd 28 [] 0 0] [] [0, 3, 4, 5, 10] (E1 := fun _ => [(0, .val (.pointer (some (⟨b, 0, none⟩)))), (3, .val (.pointer (some (⟨nu1 0, 0, none⟩)))), (4, .val (.slice none 0 0)), (5, .val (.nilIface)), (10, .val (.bool (m.fm != fm || m.to != to || m.shard != sh)))]) (h1 := fun _ => [(b, .cells #[.int .i64 fm, .int .i64 to, .int .i64 sh, .int .i64 q, .int .i64 t, .map (some mb)] 89 (0, 0)), (mb, Obj.map es clock), (nu1 0, .cells #[.int .i64 m.fm, .int .i64 m.to, .int .i64 m.shard, .int .i64 m.seq, .int .i64 m.time, .bool m.beat, .slice a1 n1 c1, .int .i64 m.c.place, .slice a2 n2 c2] 37 (0, 0))]) (p1 := fun _ => []) (W1 := []) (by kernel_rfl) (fun _ => by kernel_rfl) (fun _ => trivial) (fun _ => ?_)
  try simp only [List.cons_append, List.nil_append, List.append_nil]
  refine J_cond (t := m.fm != fm || m.to != to || m.shard != sh) (by kernel_rfl) (by kernel_rfl) (fun hw => ?_) (fun hw => ?_)
  · have hT : hearT fm to sh ⟨L, q, t⟩ m = (3, [], ⟨L, q, t⟩) := by
      rw [hearT, if_pos]
      simp at hw
      omega
    rw [hT]
    try simp only [List.cons_append, List.nil_append, List.append_nil]
    refine J_seq ?_
    try simp only [List.cons_append, List.nil_append, List.append_nil]
    refine J_reg mixed [.rd 0 [.r 1 (some (.iface 168 (.pointer (some (er 3)))))] 0 0, .rd 1 [] 0 0, .rd 2 [] 0 0] [] [0, 3, 4, 5] (E1 := fun _ => [(0, .val (.pointer (some (⟨b, 0, none⟩)))), (3, .val (.pointer (some (⟨nu1 0, 0, none⟩)))), (4, .val (.slice none 0 0)), (5, .val (.iface 168 (.pointer (some (er 3)))))]) (h1 := fun _ => [(b, .cells #[.int .i64 fm, .int .i64 to, .int .i64 sh, .int .i64 q, .int .i64 t, .map (some mb)] 89 (0, 0)), (mb, Obj.map es clock), (nu1 0, .cells #[.int .i64 m.fm, .int .i64 m.to, .int .i64 m.shard, .int .i64 m.seq, .int .i64 m.time, .bool m.beat, .slice a1 n1 c1, .int .i64 m.c.place, .slice a2 n2 c2] 37 (0, 0))]) (p1 := fun _ => [csg2[(0 : Nat)]? = some (Value.iface (168 : Nat) (Value.pointer (some (er (3 : Nat)))))]) (W1 := []) (by kernel_rfl) (fun _ => by kernel_rfl) (fun _ => ⟨hglob2, trivial⟩) (fun _ => ?_)
    try simp only [List.cons_append, List.nil_append, List.append_nil]
    refine J_return [[], []] (.tuple #[.slice none 0 0, .iface 168 (.pointer (some (er 3)))]) (by kernel_rfl) (fun a w s => ?_)
    have s1 := (((s.hide 1 rfl).hide 0 rfl).stp (stp_closemap 1 0 rfl rfl hm)).stp (stp_fact (v := .slice none 0 0) (d := .sl 9 []) fun _ _ _ => .nil)
    exact ⟨_, _, _, _, s1.ret (by simp) [0, 1] [6] rfl rfl, .inr ⟨by decide, rfl⟩⟩
  · have hw2 : ¬ (m.fm ≠ fm ∨ m.to ≠ to ∨ m.shard ≠ sh) := by simp at hw; omega
    try simp only [List.cons_append, List.nil_append, List.append_nil]
    refine J_seq ?_
    try simp only [List.cons_append, List.nil_append, List.append_nil]
    refine J_reg mixed [.rd 0 [] 0 0, .rd 1 [.o 2 none] 0 0, .rd 2 [] 0 0, .rd 3 [] 0 0, .rd 4 [] 2 0, .rd 5 [.o 2 none] 2 0, .rd 6 [] 2 0, .rd 7 [] 0 3, .rd 8 [] 0 0, .rd 9 [] 2 0, .rd 10 [.o 2 none] 2 0, .rd 11 [] 2 0, .rd 12 [] 0 3, .rd 13 [] 0 0] [] [0, 3, 4, 5, 40] (E1 := fun _ => [(0, .val (.pointer (some (⟨b, 0, none⟩)))), (3, .val (.pointer (some (⟨nu1 0, 0, none⟩)))), (4, .val (.slice none 0 0)), (5, .val (.nilIface)), (40, .val (.bool (decide (m.seq < 1) || decide (m.time < 0) || decide (m.time > 1099511627776))))]) (h1 := fun _ => [(b, .cells #[.int .i64 fm, .int .i64 to, .int .i64 sh, .int .i64 q, .int .i64 t, .map (some mb)] 89 (0, 0)), (mb, Obj.map es clock), (nu1 0, .cells #[.int .i64 m.fm, .int .i64 m.to, .int .i64 m.shard, .int .i64 m.seq, .int .i64 m.time, .bool m.beat, .slice a1 n1 c1, .int .i64 m.c.place, .slice a2 n2 c2] 37 (0, 0))]) (p1 := fun _ => []) (W1 := []) (by kernel_rfl) (fun _ => by kernel_rfl) (fun _ => trivial) (fun _ => ?_)
    try simp only [List.cons_append, List.nil_append, List.append_nil]
    refine J_cond (t := decide (m.seq < 1) || decide (m.time < 0) || decide (m.time > 1099511627776)) (by kernel_rfl) (by kernel_rfl) (fun hb => ?_) (fun hb => ?_)
    · have hT : hearT fm to sh ⟨L, q, t⟩ m = (2, [], ⟨L, q, t⟩) := by
        rw [hearT, if_neg hw2, if_pos]
        simp at hb
        omega
      rw [hT]
      try simp only [List.cons_append, List.nil_append, List.append_nil]
      refine J_seq ?_
      try simp only [List.cons_append, List.nil_append, List.append_nil]
      refine J_reg mixed [.rd 0 [.r 0 (some (.iface 168 (.pointer (some (er 2)))))] 0 0, .rd 1 [] 0 0, .rd 2 [] 0 0] [] [0, 3, 4, 5] (E1 := fun _ => [(0, .val (.pointer (some (⟨b, 0, none⟩)))), (3, .val (.pointer (some (⟨nu1 0, 0, none⟩)))), (4, .val (.slice none 0 0)), (5, .val (.iface 168 (.pointer (some (er 2)))))]) (h1 := fun _ => [(b, .cells #[.int .i64 fm, .int .i64 to, .int .i64 sh, .int .i64 q, .int .i64 t, .map (some mb)] 89 (0, 0)), (mb, Obj.map es clock), (nu1 0, .cells #[.int .i64 m.fm, .int .i64 m.to, .int .i64 m.shard, .int .i64 m.seq, .int .i64 m.time, .bool m.beat, .slice a1 n1 c1, .int .i64 m.c.place, .slice a2 n2 c2] 37 (0, 0))]) (p1 := fun _ => [csg1[(0 : Nat)]? = some (Value.iface (168 : Nat) (Value.pointer (some (er (2 : Nat)))))]) (W1 := []) (by kernel_rfl) (fun _ => by kernel_rfl) (fun _ => ⟨hglob1, trivial⟩) (fun _ => ?_)
      try simp only [List.cons_append, List.nil_append, List.append_nil]
      refine J_return [[], []] (.tuple #[.slice none 0 0, .iface 168 (.pointer (some (er 2)))]) (by kernel_rfl) (fun a w s => ?_)
      have s1 := (((s.hide 1 rfl).hide 0 rfl).stp (stp_closemap 1 0 rfl rfl hm)).stp (stp_fact (v := .slice none 0 0) (d := .sl 9 []) fun _ _ _ => .nil)
      exact ⟨_, _, _, _, s1.ret (by simp) [0, 1] [6] rfl rfl, .inr ⟨by decide, rfl⟩⟩
    · have hb2 : ¬ (m.seq < 1 ∨ m.time < 0 ∨ 1099511627776 < m.time) := by simp at hb; omega
      try simp only [List.cons_append, List.nil_append, List.append_nil]
      refine J_seq ?_
      try simp only [List.cons_append, List.nil_append, List.append_nil]
      refine J_reg mixed [.rd 0 [] 0 0, .rd 1 [.o 2 none] 0 0, .rd 2 [] 0 0, .rd 3 [] 0 0, .rd 4 [] 0 0, .rd 5 [.o 0 none] 0 0, .rd 6 [] 0 0, .rd 7 [] 0 0] [] [0, 3, 4, 5, 55] (E1 := fun _ => [(0, .val (.pointer (some (⟨b, 0, none⟩)))), (3, .val (.pointer (some (⟨nu1 0, 0, none⟩)))), (4, .val (.slice none 0 0)), (5, .val (.nilIface)), (55, .val (.bool (decide (m.seq ≤ q))))]) (h1 := fun _ => [(b, .cells #[.int .i64 fm, .int .i64 to, .int .i64 sh, .int .i64 q, .int .i64 t, .map (some mb)] 89 (0, 0)), (mb, Obj.map es clock), (nu1 0, .cells #[.int .i64 m.fm, .int .i64 m.to, .int .i64 m.shard, .int .i64 m.seq, .int .i64 m.time, .bool m.beat, .slice a1 n1 c1, .int .i64 m.c.place, .slice a2 n2 c2] 37 (0, 0))]) (p1 := fun _ => []) (W1 := []) (by kernel_rfl) (fun _ => by kernel_rfl) (fun _ => trivial) (fun _ => ?_)
      try simp only [List.cons_append, List.nil_append, List.append_nil]
      refine J_cond (t := decide (m.seq ≤ q)) (by kernel_rfl) (by kernel_rfl) (fun ho => ?_) (fun ho => ?_)
      · have hT : hearT fm to sh ⟨L, q, t⟩ m = (0, [], ⟨L, q, t⟩) := by
          rw [hearT, if_neg hw2, if_neg hb2, if_pos (by simpa using ho)]
        rw [hT]
        try simp only [List.cons_append, List.nil_append, List.append_nil]
        refine J_seq ?_
        try simp only [List.cons_append, List.nil_append, List.append_nil]
        refine J_reg mixed [.rd 0 [] 0 0, .rd 1 [] 0 0] [] [0, 3, 4, 5] (E1 := fun _ => [(0, .val (.pointer (some (⟨b, 0, none⟩)))), (3, .val (.pointer (some (⟨nu1 0, 0, none⟩)))), (4, .val (.slice none 0 0)), (5, .val (.nilIface))]) (h1 := fun _ => [(b, .cells #[.int .i64 fm, .int .i64 to, .int .i64 sh, .int .i64 q, .int .i64 t, .map (some mb)] 89 (0, 0)), (mb, Obj.map es clock), (nu1 0, .cells #[.int .i64 m.fm, .int .i64 m.to, .int .i64 m.shard, .int .i64 m.seq, .int .i64 m.time, .bool m.beat, .slice a1 n1 c1, .int .i64 m.c.place, .slice a2 n2 c2] 37 (0, 0))]) (p1 := fun _ => []) (W1 := []) (by kernel_rfl) (fun _ => by kernel_rfl) (fun _ => trivial) (fun _ => ?_)
        try simp only [List.cons_append, List.nil_append, List.append_nil]
        refine J_return [[], []] (.tuple #[.slice none 0 0, .nilIface]) (by kernel_rfl) (fun a w s => ?_)
        have s1 := (((s.hide 1 rfl).hide 0 rfl).stp (stp_closemap 1 0 rfl rfl hm)).stp (stp_fact (v := .slice none 0 0) (d := .sl 9 []) fun _ _ _ => .nil)
        exact ⟨_, _, _, _, s1.ret (by simp) [0, 1] [6] rfl rfl, .inl ⟨rfl, rfl⟩⟩
      · have ho2 : q < m.seq := by simpa using ho
        try simp only [List.cons_append, List.nil_append, List.append_nil]
        refine J_seq ?_
        try simp only [List.cons_append, List.nil_append, List.append_nil]
        refine J_reg mixed [.rd 0 [] 0 0, .rd 1 [.o 2 none] 0 0, .rd 2 [] 0 0, .rd 3 [] 0 0, .rd 4 [] 0 0, .rd 5 [.o 0 none] 0 0, .rd 6 [] 0 1, .rd 7 [] 0 0, .rd 8 [] 0 0] [] [0, 3, 4, 5, 63] (E1 := fun _ => [(0, .val (.pointer (some (⟨b, 0, none⟩)))), (3, .val (.pointer (some (⟨nu1 0, 0, none⟩)))), (4, .val (.slice none 0 0)), (5, .val (.nilIface)), (63, .val (.bool (decide (m.seq - q > 201))))]) (h1 := fun _ => [(b, .cells #[.int .i64 fm, .int .i64 to, .int .i64 sh, .int .i64 q, .int .i64 t, .map (some mb)] 89 (0, 0)), (mb, Obj.map es clock), (nu1 0, .cells #[.int .i64 m.fm, .int .i64 m.to, .int .i64 m.shard, .int .i64 m.seq, .int .i64 m.time, .bool m.beat, .slice a1 n1 c1, .int .i64 m.c.place, .slice a2 n2 c2] 37 (0, 0))]) (p1 := fun _ => [IntKind.i64.wrap (m.seq - q) = m.seq - q]) (W1 := []) (by kernel_rfl) (fun _ => by kernel_rfl) (fun _ => ⟨wrap_i64 (by omega) (by omega), trivial⟩) (fun _ => ?_)
        try simp only [List.cons_append, List.nil_append, List.append_nil]
        refine J_cond (t := decide (m.seq - q > 201)) (by kernel_rfl) (by kernel_rfl) (fun hf => ?_) (fun hf => ?_)
        · have hT : hearT fm to sh ⟨L, q, t⟩ m = (7, [], ⟨L, q, t⟩) := by
            rw [hearT, if_neg hw2, if_neg hb2, if_neg (by simp; omega), if_pos (by simpa using hf)]
          rw [hT]
          try simp only [List.cons_append, List.nil_append, List.append_nil]
          refine J_seq ?_
          try simp only [List.cons_append, List.nil_append, List.append_nil]
          refine J_reg mixed [.rd 0 [.r 2 (some (.iface 168 (.pointer (some (er 7)))))] 0 0, .rd 1 [] 0 0, .rd 2 [] 0 0] [] [0, 3, 4, 5] (E1 := fun _ => [(0, .val (.pointer (some (⟨b, 0, none⟩)))), (3, .val (.pointer (some (⟨nu1 0, 0, none⟩)))), (4, .val (.slice none 0 0)), (5, .val (.iface 168 (.pointer (some (er 7)))))]) (h1 := fun _ => [(b, .cells #[.int .i64 fm, .int .i64 to, .int .i64 sh, .int .i64 q, .int .i64 t, .map (some mb)] 89 (0, 0)), (mb, Obj.map es clock), (nu1 0, .cells #[.int .i64 m.fm, .int .i64 m.to, .int .i64 m.shard, .int .i64 m.seq, .int .i64 m.time, .bool m.beat, .slice a1 n1 c1, .int .i64 m.c.place, .slice a2 n2 c2] 37 (0, 0))]) (p1 := fun _ => [csg3[(0 : Nat)]? = some (Value.iface (168 : Nat) (Value.pointer (some (er (7 : Nat)))))]) (W1 := []) (by kernel_rfl) (fun _ => by kernel_rfl) (fun _ => ⟨hglob3, trivial⟩) (fun _ => ?_)
          try simp only [List.cons_append, List.nil_append, List.append_nil]
          refine J_return [[], []] (.tuple #[.slice none 0 0, .iface 168 (.pointer (some (er 7)))]) (by kernel_rfl) (fun a w s => ?_)
          have s1 := (((s.hide 1 rfl).hide 0 rfl).stp (stp_closemap 1 0 rfl rfl hm)).stp (stp_fact (v := .slice none 0 0) (d := .sl 9 []) fun _ _ _ => .nil)
          exact ⟨_, _, _, _, s1.ret (by simp) [0, 1] [6] rfl rfl, .inr ⟨by decide, rfl⟩⟩
        · have hf2 : ¬ 201 < m.seq - q := by simp at hf; omega
          cases hk : kept L m.seq with
          | none =>
            refine J_stpx (stp_keptnone 0 rfl (.int .i64 m.seq) (by simp [KL, hk])) fun _ hg => ?_
            try simp only [List.cons_append, List.nil_append, List.append_nil]
            refine J_skip ?_
            try simp only [List.cons_append, List.nil_append, List.append_nil]
            refine J_eb ?_
            try simp only [List.cons_append, List.nil_append, List.append_nil]
            refine J_seq ?_
            try simp only [List.cons_append, List.nil_append, List.append_nil]
            refine J_seq ?_
            try simp only [List.cons_append, List.nil_append, List.append_nil]
            refine JR_begin mixed [(0, true), (1, true), (2, true), (3, true), (4, true), (5, true), (6, true), (7, true), (8, true), (9, true), (10, false), (11, false), (12, true)] [(11, [])] (by kernel_rfl) (by kernel_rfl) ?_
            refine JR_run (id := 9) (rest := [(6, true), (7, true), (8, true), (9, true), (10, false), (11, false), (12, true)]) [.rd 0 [] 0 0, .rd 1 [] 0 0, .rd 2 [] 0 0, .rd 3 [.o 0 none] 0 0, .rd 4 [] 0 0, .rd 5 [.o 2 none] 0 0] [0, 3, 4, 5, 77, 79] (E1 := fun _ => [(0, .val (.pointer (some (⟨b, 0, none⟩)))), (3, .val (.pointer (some (⟨nu1 0, 0, none⟩)))), (4, .val (.slice none 0 0)), (5, .val (.nilIface)), (77, .val (.map (some mb))), (79, .val (.int .i64 m.seq))]) (h1 := fun _ => [(b, .cells #[.int .i64 fm, .int .i64 to, .int .i64 sh, .int .i64 q, .int .i64 t, .map (some mb)] 89 (0, 0)), (mb, Obj.map es clock), (nu1 0, .cells #[.int .i64 m.fm, .int .i64 m.to, .int .i64 m.shard, .int .i64 m.seq, .int .i64 m.time, .bool m.beat, .slice a1 n1 c1, .int .i64 m.c.place, .slice a2 n2 c2] 37 (0, 0))]) (p1 := fun _ => []) (W1 := [(11, [])]) (fun _ => by kernel_rfl) (fun _ => trivial) (fun _ => ?_)
            refine JR_lookr (.o 1 none) mb 87 3 37 (TypeDesc.int IntKind.i64) (.int .i64 m.seq) (.agg #[.int .i64 0, .int .i64 0, .int .i64 0, .int .i64 0, .int .i64 0, .bool false, .slice none 0 0, .int .i64 0, .slice none 0 0]) true (some 80) (by kernel_rfl) (by kernel_rfl) (by kernel_rfl) (by kernel_rfl) (by simp [MapKept.IsKey]) (by kernel_rfl) rfl hm (fun hno => ?_) (fun v hv => ?_)
            · try simp only [List.cons_append, List.nil_append, List.append_nil]
              refine JR_run (id := 9) (rest := []) [.rd 7 [] 0 0, .rd 8 [] 0 0, .rd 9 [] 0 0, .wr 10 [] 0, .wr 11 [.o 3 none, .o 3 none, .o 3 none, .o 3 none, .o 3 none, .o 3 none, .o 3 none, .o 3 none, .o 3 none] 0, .rd 12 [] 0 0] [0, 3, 4, 5, 7] (E1 := fun nu2 => [(0, .val (.pointer (some (⟨b, 0, none⟩)))), (3, .val (.pointer (some (⟨nu1 0, 0, none⟩)))), (4, .val (.slice none 0 0)), (5, .val (.nilIface)), (7, .val (.bool false))]) (h1 := fun nu2 => [(b, .cells #[.int .i64 fm, .int .i64 to, .int .i64 sh, .int .i64 q, .int .i64 t, .map (some mb)] 89 (0, 0)), (mb, Obj.map es clock), (nu1 0, .cells #[.int .i64 m.fm, .int .i64 m.to, .int .i64 m.shard, .int .i64 m.seq, .int .i64 m.time, .bool m.beat, .slice a1 n1 c1, .int .i64 m.c.place, .slice a2 n2 c2] 37 (0, 0)), (nu2 0, .cells #[.int .i64 0, .int .i64 0, .int .i64 0, .int .i64 0, .int .i64 0, .bool false, .slice none 0 0, .int .i64 0, .slice none 0 0] 37 (0, 0))]) (p1 := fun nu2 => []) (W1 := []) (fun _ => by kernel_rfl) (fun _ => trivial) (fun nu2 => ?_)
              try simp only [List.cons_append, List.nil_append, List.append_nil]
              refine JR_end ?_
              try simp only [List.cons_append, List.nil_append, List.append_nil]
              refine J_seq ?_
              try simp only [List.cons_append, List.nil_append, List.append_nil]
              refine J_reg mixed [.rd 0 [] 0 0, .rd 1 [] 0 0] [] [0, 3, 4, 5, 84] (E1 := fun _ => [(0, .val (.pointer (some (⟨b, 0, none⟩)))), (3, .val (.pointer (some (⟨nu1 0, 0, none⟩)))), (4, .val (.slice none 0 0)), (5, .val (.nilIface)), (84, .val (.bool true))]) (h1 := fun _ => [(b, .cells #[.int .i64 fm, .int .i64 to, .int .i64 sh, .int .i64 q, .int .i64 t, .map (some mb)] 89 (0, 0)), (mb, Obj.map es clock), (nu1 0, .cells #[.int .i64 m.fm, .int .i64 m.to, .int .i64 m.shard, .int .i64 m.seq, .int .i64 m.time, .bool m.beat, .slice a1 n1 c1, .int .i64 m.c.place, .slice a2 n2 c2] 37 (0, 0)), (nu2 0, .cells #[.int .i64 0, .int .i64 0, .int .i64 0, .int .i64 0, .int .i64 0, .bool false, .slice none 0 0, .int .i64 0, .slice none 0 0] 37 (0, 0))]) (p1 := fun _ => []) (W1 := []) (by kernel_rfl) (fun _ => by kernel_rfl) (fun _ => trivial) (fun _ => ?_)
              try simp only [List.cons_append, List.nil_append, List.append_nil]
              refine J_cond_t (by kernel_rfl) (by kernel_rfl) ?_
              try simp only [List.cons_append, List.nil_append, List.append_nil]
              refine JR_begin mixed [(0, true), (1, true), (2, true), (3, true), (4, true), (5, true), (6, true), (7, false), (8, false)] [(8, [1])] (by kernel_rfl) (by kernel_rfl) ?_
              refine JR_run (id := 11) (rest := [(7, false), (8, false)]) [.rd 0 [] 0 0, .rd 1 [] 0 0, .rd 2 [] 0 0, .rd 3 [.o 0 none] 0 0, .rd 4 [] 0 0, .rd 5 [.o 2 none] 0 0, .rd 6 [.o 2 none, .o 2 none, .o 2 none, .o 2 none, .o 2 none, .o 2 none, .o 2 none, .o 2 none, .o 2 none] 0 0] [0, 4, 5, 88, 90, 91] (E1 := fun _ => [(0, .val (.pointer (some (⟨b, 0, none⟩)))), (4, .val (.slice none 0 0)), (5, .val (.nilIface)), (88, .val (.map (some mb))), (90, .val (.int .i64 m.seq)), (91, .val (.agg #[.int .i64 m.fm, .int .i64 m.to, .int .i64 m.shard, .int .i64 m.seq, .int .i64 m.time, .bool m.beat, .slice a1 n1 c1, .int .i64 m.c.place, .slice a2 n2 c2]))]) (h1 := fun _ => [(b, .cells #[.int .i64 fm, .int .i64 to, .int .i64 sh, .int .i64 q, .int .i64 t, .map (some mb)] 89 (0, 0)), (mb, Obj.map es clock), (nu1 0, .cells #[.int .i64 m.fm, .int .i64 m.to, .int .i64 m.shard, .int .i64 m.seq, .int .i64 m.time, .bool m.beat, .slice a1 n1 c1, .int .i64 m.c.place, .slice a2 n2 c2] 37 (0, 0)), (nu2 0, .cells #[.int .i64 0, .int .i64 0, .int .i64 0, .int .i64 0, .int .i64 0, .bool false, .slice none 0 0, .int .i64 0, .slice none 0 0] 37 (0, 0))]) (p1 := fun _ => []) (W1 := [(8, [1])]) (fun _ => by kernel_rfl) (fun _ => trivial) (fun _ => ?_)
              refine JR_callp [] 34 #[.agg #[.int .i64 m.fm, .int .i64 m.to, .int .i64 m.shard, .int .i64 m.seq, .int .i64 m.time, .bool m.beat, .slice a1 n1 c1, .int .i64 m.c.place, .slice a2 n2 c2]] (some 92) (by kernel_rfl) (fun w S hG => ?_)
              refine (sOwn (m := m) (hG.at 1 rfl) (hG.at 2 rfl) hl1 hl2 hl3).mono ?_
              rintro e2 w2 ⟨u1, d1, u2, d2, hR⟩
              refine ⟨_, _, _, hR, ?_⟩
              try simp only [List.cons_append, List.nil_append, List.append_nil]
              refine JR_put 1 mb 87 3 37 (TypeDesc.int IntKind.i64) (.int .i64 m.seq) (.agg #[.int .i64 m.fm, .int .i64 m.to, .int .i64 m.shard, .int .i64 m.seq, .int .i64 m.time, .bool m.beat, .slice u1 n1 d1, .int .i64 m.c.place, .slice u2 n2 d2]) none (by kernel_rfl) (by kernel_rfl) (by kernel_rfl) (by kernel_rfl) (by simp [MapKept.IsKey]) rfl hm (fun es2 clock2 hm2 hsz2 => ?_)
              try simp only [List.cons_append, List.nil_append, List.append_nil]
              refine JR_end ?_
              try simp only [List.cons_append, List.nil_append, List.append_nil]
              refine J_block ?_
              try simp only [List.cons_append, List.nil_append, List.append_nil]
              refine J_stp (stp_putkept 0 rfl (.int .i64 m.seq) (us := [.int .i64 m.fm, .int .i64 m.to, .int .i64 m.shard, .int .i64 m.seq, .int .i64 m.time, .bool m.beat, .slice u1 n1 d1, .int .i64 m.c.place, .slice u2 n2 d2]) (row := eMsg m) ⟨.inl ⟨rfl, rfl⟩, .inl ⟨rfl, rfl⟩, .inl ⟨rfl, rfl⟩, .inl ⟨rfl, rfl⟩, .inl ⟨rfl, rfl⟩, .inl ⟨rfl, rfl⟩, .inr (by simp), .inl ⟨rfl, rfl⟩, .inr (by simp), trivial⟩) ?_
              rw [KL_put hk]
              refine J_stp (stp_accm eMsg 37 9) ?_
              refine J_loopx (fun x : HearS => [(0, .val (.pointer (some (⟨b, 0, none⟩)))), (4, .val (.slice x.a x.k x.c)), (5, .val (.nilIface))]) (fun x : HearS => [(b, rCells fm to sh x.q x.t mb), (mb, .map x.es x.clock)]) (fun x : HearS => [cKept x.g (KL x.L), cAcc (.slice x.a x.k x.c) 37 9 (x.out.map eMsg)]) (fun x : HearS => [(.nilIface, (dC er eb))]) (fun x : HearS => x.L.length) (fun x : HearS => (MapOf (.int .i64) x.es x.g ∧ Dist x.L ∧ 0 ≤ x.q ∧ x.q + x.L.length ≤ 1000000 ∧ x.out.length + x.L.length ≤ 1000000 ∧ drainAll (L ++ [m]) q t = (x.out ++ (drainAll x.L x.q x.t).1, (drainAll x.L x.q x.t).2))) ⟨none, 0, 0, [], L ++ [m], q, t, es2, clock2, _⟩ [0, 4, 5] [0, 1] [0, 1] [0] ?_ (by kernel_rfl) rfl rfl rfl ?_
              · exact ⟨hm2, hd.app hk, hq0, by simp; omega, by simp; omega, by simp⟩
              rintro ⟨a5, k5, c5, out, L5, q5, t5, es5, cl5, g5⟩ ⟨hm5, hd5, hq5, hb5, hlen5, hdr⟩
              dsimp only at hm5 hd5 hq5 hb5 hlen5 hdr ⊢
              refine J_stpx (stp_acclen 1 rfl) fun _ hk5 => ?_
              rw [List.length_map] at hk5
              cases hkp : kept L5 (q5 + 1) with
              | none =>
                refine J_stpx (stp_keptnone 0 rfl (.int .i64 (q5 + 1)) (by simp [KL, hkp])) fun _ hg5 => ?_
                refine J_block ?_
                refine J_seq ?_
                refine JR_begin mixed [(0, true), (1, true), (2, true), (3, true), (4, true), (5, true), (6, true), (7, true), (8, true), (9, true), (10, true), (11, true), (12, true), (13, false), (14, false), (15, true)] [(14, [])] (by kernel_rfl) (by kernel_rfl) ?_
                refine JR_run (id := 12) (rest := [(9, true), (10, true), (11, true), (12, true), (13, false), (14, false), (15, true)]) [.rd 0 [] 0 0, .rd 1 [] 0 0, .rd 2 [] 0 0, .rd 3 [.o 0 none] 0 0, .rd 4 [] 0 0, .rd 5 [] 0 0, .rd 6 [] 0 0, .rd 7 [.o 0 none] 0 0, .rd 8 [] 0 1] [0, 4, 5, 97, 102] (E1 := fun _ => [(0, .val (.pointer (some (⟨b, 0, none⟩)))), (4, .val (.slice a5 k5 c5)), (5, .val (.nilIface)), (97, .val (.map (some mb))), (102, .val (.int .i64 (q5 + 1)))]) (h1 := fun _ => [(b, .cells #[.int .i64 fm, .int .i64 to, .int .i64 sh, .int .i64 q5, .int .i64 t5, .map (some mb)] 89 (0, 0)), (mb, Obj.map es5 cl5)]) (p1 := fun _ => [IntKind.i64.wrap (q5 + (1 : Int)) = q5 + (1 : Int)]) (W1 := [(14, [])]) (fun _ => by kernel_rfl) (fun _ => ⟨wrap_i64 (by omega) (by omega), trivial⟩) (fun _ => ?_)
                refine JR_lookr (.o 1 none) mb 87 3 37 (TypeDesc.int IntKind.i64) (.int .i64 (q5 + 1)) (.agg #[.int .i64 0, .int .i64 0, .int .i64 0, .int .i64 0, .int .i64 0, .bool false, .slice none 0 0, .int .i64 0, .slice none 0 0]) true (some 103) (by kernel_rfl) (by kernel_rfl) (by kernel_rfl) (by kernel_rfl) (by simp [MapKept.IsKey]) (by kernel_rfl) rfl hm5 (fun hno => ?_) (fun v hv => ?_)
                · refine JR_run (id := 12) (rest := []) [.rd 10 [] 0 0, .rd 11 [] 0 0, .rd 12 [] 0 0, .wr 13 [] 0, .wr 14 [.o 2 none, .o 2 none, .o 2 none, .o 2 none, .o 2 none, .o 2 none, .o 2 none, .o 2 none, .o 2 none] 0, .rd 15 [] 0 0] [0, 4, 5, 8, 9] (E1 := fun nu3 => [(0, .val (.pointer (some (⟨b, 0, none⟩)))), (4, .val (.slice a5 k5 c5)), (5, .val (.nilIface)), (8, .val (.pointer (some (⟨nu3 0, 0, none⟩)))), (9, .val (.bool false))]) (h1 := fun nu3 => [(b, .cells #[.int .i64 fm, .int .i64 to, .int .i64 sh, .int .i64 q5, .int .i64 t5, .map (some mb)] 89 (0, 0)), (mb, Obj.map es5 cl5), (nu3 0, .cells #[.int .i64 0, .int .i64 0, .int .i64 0, .int .i64 0, .int .i64 0, .bool false, .slice none 0 0, .int .i64 0, .slice none 0 0] 37 (0, 0))]) (p1 := fun nu3 => []) (W1 := []) (fun _ => by kernel_rfl) (fun _ => trivial) (fun nu3 => ?_)
                  refine JR_end ?_
                  refine J_seq ?_
                  refine J_seq ?_
                  refine J_reg mixed [.rd 0 [] 0 0, .rd 1 [] 0 0] [] [0, 4, 5, 8, 9, 107] (E1 := fun _ => [(0, .val (.pointer (some (⟨b, 0, none⟩)))), (4, .val (.slice a5 k5 c5)), (5, .val (.nilIface)), (8, .val (.pointer (some (⟨nu3 0, 0, none⟩)))), (9, .val (.bool false)), (107, .val (.bool true))]) (h1 := fun _ => [(b, .cells #[.int .i64 fm, .int .i64 to, .int .i64 sh, .int .i64 q5, .int .i64 t5, .map (some mb)] 89 (0, 0)), (mb, Obj.map es5 cl5), (nu3 0, .cells #[.int .i64 0, .int .i64 0, .int .i64 0, .int .i64 0, .int .i64 0, .bool false, .slice none 0 0, .int .i64 0, .slice none 0 0] 37 (0, 0))]) (p1 := fun _ => []) (W1 := []) (by kernel_rfl) (fun _ => by kernel_rfl) (fun _ => trivial) (fun _ => ?_)
                  refine J_cond_t (by kernel_rfl) (by kernel_rfl) ?_
                  refine J_seq ?_
                  refine J_reg mixed [.rd 0 [] 0 0, .rd 1 [] 0 0, .rd 2 [] 0 0] [] [0, 4, 5, 8, 9] (E1 := fun _ => [(0, .val (.pointer (some (⟨b, 0, none⟩)))), (4, .val (.slice a5 k5 c5)), (5, .val (.nilIface)), (8, .val (.pointer (some (⟨nu3 0, 0, none⟩)))), (9, .val (.bool false))]) (h1 := fun _ => [(b, .cells #[.int .i64 fm, .int .i64 to, .int .i64 sh, .int .i64 q5, .int .i64 t5, .map (some mb)] 89 (0, 0)), (mb, Obj.map es5 cl5), (nu3 0, .cells #[.int .i64 0, .int .i64 0, .int .i64 0, .int .i64 0, .int .i64 0, .bool false, .slice none 0 0, .int .i64 0, .slice none 0 0] 37 (0, 0))]) (p1 := fun _ => []) (W1 := []) (by kernel_rfl) (fun _ => by kernel_rfl) (fun _ => trivial) (fun _ => ?_)
                  refine J_return [[], []] (.tuple #[.slice a5 k5 c5, .nilIface]) (by kernel_rfl) (fun a w s => ?_)
                  have hT : hearT fm to sh ⟨L, q, t⟩ m = (0, out, ⟨L5, q5, t5⟩) := by
                    rw [hearT, if_neg hw2, if_neg hb2, if_neg (by simp; omega), if_neg (by simpa using hf2)]
                    simp only [hk]
                    rw [hdr, drain_none hkp]
                    simp
                  rw [hT]
                  have s1 := ((((s.hide 1 rfl).hide 0 rfl).stp (stp_closemap 2 0 rfl rfl hm5))).stp (stp_freeze 0 rfl)
                  exact ⟨_, _, _, _, s1.ret (by simp) [0, 1] [1] rfl rfl, .inl ⟨rfl, rfl⟩⟩
                · rw [hg5] at hv
                  cases hv
              | some x =>
                have hxs := kept_seq hkp
                refine J_stpx (stp_readkept 0 rfl (.int .i64 (q5 + 1)) (row := eMsg x) (by simp [KL, hkp])) fun ls hls => ?_
                obtain ⟨hls1, hls2⟩ := hls
                obtain ⟨⟨xa, xc⟩, ⟨ya, yc⟩, rfl⟩ : ∃ l0 l1, ls = [l0, l1] := len2 hls1
                try simp only [List.cons_append, List.nil_append, List.append_nil]
                refine J_block ?_
                refine J_seq ?_
                refine JR_begin mixed [(0, true), (1, true), (2, true), (3, true), (4, true), (5, true), (6, true), (7, true), (8, true), (9, true), (10, true), (11, true), (12, true), (13, false), (14, false), (15, true)] [(14, [])] (by kernel_rfl) (by kernel_rfl) ?_
                refine JR_run (id := 12) (rest := [(9, true), (10, true), (11, true), (12, true), (13, false), (14, false), (15, true)]) [.rd 0 [] 0 0, .rd 1 [] 0 0, .rd 2 [] 0 0, .rd 3 [.o 0 none] 0 0, .rd 4 [] 0 0, .rd 5 [] 0 0, .rd 6 [] 0 0, .rd 7 [.o 0 none] 0 0, .rd 8 [] 0 1] [0, 4, 5, 97, 102] (E1 := fun _ => [(0, .val (.pointer (some (⟨b, 0, none⟩)))), (4, .val (.slice a5 k5 c5)), (5, .val (.nilIface)), (97, .val (.map (some mb))), (102, .val (.int .i64 (q5 + 1)))]) (h1 := fun _ => [(b, .cells #[.int .i64 fm, .int .i64 to, .int .i64 sh, .int .i64 q5, .int .i64 t5, .map (some mb)] 89 (0, 0)), (mb, Obj.map es5 cl5)]) (p1 := fun _ => [IntKind.i64.wrap (q5 + (1 : Int)) = q5 + (1 : Int)]) (W1 := [(14, [])]) (fun _ => by kernel_rfl) (fun _ => ⟨wrap_i64 (by omega) (by omega), trivial⟩) (fun _ => ?_)
                refine JR_lookr (.o 1 none) mb 87 3 37 (TypeDesc.int IntKind.i64) (.int .i64 (q5 + 1)) (.agg #[.int .i64 0, .int .i64 0, .int .i64 0, .int .i64 0, .int .i64 0, .bool false, .slice none 0 0, .int .i64 0, .slice none 0 0]) true (some 103) (by kernel_rfl) (by kernel_rfl) (by kernel_rfl) (by kernel_rfl) (by simp [MapKept.IsKey]) (by kernel_rfl) rfl hm5 (fun hno => ?_) (fun v hv => ?_)
                · rw [hls2] at hno
                  cases hno
                · rw [hls2] at hv
                  cases hv
                  refine JR_run (id := 12) (rest := []) [.rd 10 [] 0 0, .rd 11 [] 0 0, .rd 12 [] 0 0, .wr 13 [] 0, .wr 14 [.o 2 none, .o 2 none, .o 2 none, .o 2 none, .o 2 none, .o 2 none, .o 2 none, .o 2 none, .o 2 none] 0, .rd 15 [] 0 0] [0, 4, 5, 8, 9] (E1 := fun nu3 => [(0, .val (.pointer (some (⟨b, 0, none⟩)))), (4, .val (.slice a5 k5 c5)), (5, .val (.nilIface)), (8, .val (.pointer (some (⟨nu3 0, 0, none⟩)))), (9, .val (.bool true))]) (h1 := fun nu3 => [(b, .cells #[.int .i64 fm, .int .i64 to, .int .i64 sh, .int .i64 q5, .int .i64 t5, .map (some mb)] 89 (0, 0)), (mb, Obj.map es5 cl5), (nu3 0, .cells #[.int .i64 x.fm, .int .i64 x.to, .int .i64 x.shard, .int .i64 x.seq, .int .i64 x.time, .bool x.beat, .slice (xa, xc).fst ((List.map eI x.c.when).length) xc, .int .i64 x.c.place, .slice (ya, yc).fst ((List.map eOp x.c.ops).length) yc] 37 (0, 0))]) (p1 := fun nu3 => []) (W1 := []) (fun _ => by kernel_rfl) (fun _ => trivial) (fun nu3 => ?_)
                  refine JR_end ?_
                  refine J_seq ?_
                  refine J_seq ?_
                  refine J_reg mixed [.rd 0 [] 0 0, .rd 1 [] 0 0] [] [0, 4, 5, 8, 9, 107] (E1 := fun _ => [(0, .val (.pointer (some (⟨b, 0, none⟩)))), (4, .val (.slice a5 k5 c5)), (5, .val (.nilIface)), (8, .val (.pointer (some (⟨nu3 0, 0, none⟩)))), (9, .val (.bool true)), (107, .val (.bool false))]) (h1 := fun _ => [(b, .cells #[.int .i64 fm, .int .i64 to, .int .i64 sh, .int .i64 q5, .int .i64 t5, .map (some mb)] 89 (0, 0)), (mb, Obj.map es5 cl5), (nu3 0, .cells #[.int .i64 x.fm, .int .i64 x.to, .int .i64 x.shard, .int .i64 x.seq, .int .i64 x.time, .bool x.beat, .slice (xa, xc).fst ((List.map eI x.c.when).length) xc, .int .i64 x.c.place, .slice (ya, yc).fst ((List.map eOp x.c.ops).length) yc] 37 (0, 0))]) (p1 := fun _ => []) (W1 := []) (by kernel_rfl) (fun _ => by kernel_rfl) (fun _ => trivial) (fun _ => ?_)
                  refine J_cond_f (by kernel_rfl) (by kernel_rfl) ?_
                  refine J_skip ?_
                  refine J_seq ?_
                  refine JR_begin mixed [(0, true), (1, true), (2, true), (3, true), (4, true), (5, true), (6, false)] [(6, [1])] (by kernel_rfl) (by kernel_rfl) ?_
                  refine JR_run (id := 15) (rest := [(6, false)]) [.rd 0 [] 0 0, .rd 1 [] 0 0, .rd 2 [] 0 0, .rd 3 [.o 0 none] 0 0, .rd 4 [] 0 0, .rd 5 [.o 2 none] 0 0] [0, 4, 5, 8, 9, 112, 114] (E1 := fun _ => [(0, .val (.pointer (some (⟨b, 0, none⟩)))), (4, .val (.slice a5 k5 c5)), (5, .val (.nilIface)), (8, .val (.pointer (some (⟨nu3 0, 0, none⟩)))), (9, .val (.bool true)), (112, .val (.map (some mb))), (114, .val (.int .i64 x.seq))]) (h1 := fun _ => [(b, .cells #[.int .i64 fm, .int .i64 to, .int .i64 sh, .int .i64 q5, .int .i64 t5, .map (some mb)] 89 (0, 0)), (mb, Obj.map es5 cl5), (nu3 0, .cells #[.int .i64 x.fm, .int .i64 x.to, .int .i64 x.shard, .int .i64 x.seq, .int .i64 x.time, .bool x.beat, .slice (xa, xc).fst ((List.map eI x.c.when).length) xc, .int .i64 x.c.place, .slice (ya, yc).fst ((List.map eOp x.c.ops).length) yc] 37 (0, 0))]) (p1 := fun _ => []) (W1 := [(6, [1])]) (fun _ => by kernel_rfl) (fun _ => trivial) (fun _ => ?_)
                  refine JR_del 1 mb 87 3 37 (TypeDesc.int IntKind.i64) (.int .i64 x.seq) none (by kernel_rfl) (by kernel_rfl) (by kernel_rfl) (by kernel_rfl) (by simp [MapKept.IsKey]) rfl hm5 (fun es3 hm3 hsz3 => ?_)
                  refine JR_end ?_
                  refine J_seq ?_
                  refine J_reg mixed [.rd 0 [] 0 0, .rd 1 [] 0 0, .rd 2 [] 0 0, .rd 3 [.o 2 none] 0 0, .rd 4 [] 0 0, .rd 5 [.o 2 none] 0 0, .rd 6 [] 0 0, .rd 7 [] 0 0, .wr 8 [.o 0 none] 0, .rd 9 [] 0 0, .rd 10 [] 0 0, .wr 11 [.o 0 none] 0] [(8, [0]), (11, [0])] [0, 4, 5, 8, 9, 112, 114] (E1 := fun _ => [(0, .val (.pointer (some (⟨b, 0, none⟩)))), (4, .val (.slice a5 k5 c5)), (5, .val (.nilIface)), (8, .val (.pointer (some (⟨nu3 0, 0, none⟩)))), (9, .val (.bool true)), (112, .val (.map (some mb))), (114, .val (.int .i64 x.seq))]) (h1 := fun _ => [(b, .cells #[.int .i64 fm, .int .i64 to, .int .i64 sh, .int .i64 x.seq, .int .i64 x.time, .map (some mb)] 89 (0, 0)), (mb, Obj.map es3 cl5), (nu3 0, .cells #[.int .i64 x.fm, .int .i64 x.to, .int .i64 x.shard, .int .i64 x.seq, .int .i64 x.time, .bool x.beat, .slice (xa, xc).fst ((List.map eI x.c.when).length) xc, .int .i64 x.c.place, .slice (ya, yc).fst ((List.map eOp x.c.ops).length) yc] 37 (0, 0))]) (p1 := fun _ => []) (W1 := []) (by kernel_rfl) (fun _ => by kernel_rfl) (fun _ => trivial) (fun _ => ?_)
                  refine JR_begin mixed [(0, true), (1, true), (2, false), (3, false), (4, true)] [] (by kernel_rfl) (by kernel_rfl) ?_
                  refine JR_run (id := 17) (rest := [(3, false), (4, true)]) [.rd 0 [] 0 0, .rd 1 [.o 2 none, .o 2 none, .o 2 none, .o 2 none, .o 2 none, .o 2 none, .o 2 none, .o 2 none, .o 2 none] 0 0, .wr 2 [] 0] [0, 4, 5, 8, 9, 112, 114, 125, 127] (E1 := fun nu4 => [(0, .val (.pointer (some (⟨b, 0, none⟩)))), (4, .val (.slice a5 k5 c5)), (5, .val (.nilIface)), (8, .val (.pointer (some (⟨nu3 0, 0, none⟩)))), (9, .val (.bool true)), (112, .val (.map (some mb))), (114, .val (.int .i64 x.seq)), (125, .val (.slice a5 k5 c5)), (127, .val (.slice (some (⟨nu4 0, 0, none⟩)) 1 1))]) (h1 := fun nu4 => [(b, .cells #[.int .i64 fm, .int .i64 to, .int .i64 sh, .int .i64 x.seq, .int .i64 x.time, .map (some mb)] 89 (0, 0)), (mb, Obj.map es3 cl5), (nu3 0, .cells #[.int .i64 x.fm, .int .i64 x.to, .int .i64 x.shard, .int .i64 x.seq, .int .i64 x.time, .bool x.beat, .slice (xa, xc).fst ((List.map eI x.c.when).length) xc, .int .i64 x.c.place, .slice (ya, yc).fst ((List.map eOp x.c.ops).length) yc] 37 (0, 0)), (nu4 0, .cells #[.int .i64 x.fm, .int .i64 x.to, .int .i64 x.shard, .int .i64 x.seq, .int .i64 x.time, .bool x.beat, .slice (xa, xc).fst ((List.map eI x.c.when).length) xc, .int .i64 x.c.place, .slice (ya, yc).fst ((List.map eOp x.c.ops).length) yc] 37 (0, 0))]) (p1 := fun nu4 => []) (W1 := []) (fun _ => by kernel_rfl) (fun _ => trivial) (fun nu4 => ?_)
                  refine JR_appm 1 32 37 9 104 (.agg #[.int .i64 0, .int .i64 0, .int .i64 0, .int .i64 0, .int .i64 0, .bool false, .slice none 0 0, .int .i64 0, .slice none 0 0]) (a0 := a5) (len := k5) (cap0 := c5) (ax := (some (⟨nu4 0, 0, none⟩))) (m := 1) (c := 1) (dst := (some 128)) [x] (by kernel_rfl) (by kernel_rfl) (by kernel_rfl) (by kernel_rfl) rfl (by decide) rfl (fun _ _ _ s => src_one s 3 rfl rfl ⟨.inl ⟨rfl, rfl⟩, ⟨.inl ⟨rfl, rfl⟩, ⟨.inl ⟨rfl, rfl⟩, ⟨.inl ⟨rfl, rfl⟩, ⟨.inl ⟨rfl, rfl⟩, ⟨.inl ⟨rfl, rfl⟩, ⟨.inr (.inl (List.mem_of_getElem? (i := 1) rfl)), ⟨.inl ⟨rfl, rfl⟩, ⟨.inr (.inl (List.mem_of_getElem? (i := 2) rfl)), trivial⟩⟩⟩⟩⟩⟩⟩⟩⟩) (by simp only [maxLen]; omega) (by omega) (fun av1 cv1 => ?_)
                  try simp only [List.cons_append, List.nil_append, List.append_nil]
                  refine JR_run (id := 17) (rest := []) [.rd 4 [] 0 0] [0, 4, 5, 8, 9, 112, 114] (E1 := fun _ => [(0, .val (.pointer (some (⟨b, 0, none⟩)))), (4, .val (.slice av1 (k5 + 1) cv1)), (5, .val (.nilIface)), (8, .val (.pointer (some (⟨nu3 0, 0, none⟩)))), (9, .val (.bool true)), (112, .val (.map (some mb))), (114, .val (.int .i64 x.seq))]) (h1 := fun _ => [(b, .cells #[.int .i64 fm, .int .i64 to, .int .i64 sh, .int .i64 x.seq, .int .i64 x.time, .map (some mb)] 89 (0, 0)), (mb, Obj.map es3 cl5), (nu3 0, .cells #[.int .i64 x.fm, .int .i64 x.to, .int .i64 x.shard, .int .i64 x.seq, .int .i64 x.time, .bool x.beat, .slice xa ((List.map eI x.c.when).length) xc, .int .i64 x.c.place, .slice ya ((List.map eOp x.c.ops).length) yc] 37 (0, 0)), (nu4 0, .cells #[.int .i64 x.fm, .int .i64 x.to, .int .i64 x.shard, .int .i64 x.seq, .int .i64 x.time, .bool x.beat, .slice xa ((List.map eI x.c.when).length) xc, .int .i64 x.c.place, .slice ya ((List.map eOp x.c.ops).length) yc] 37 (0, 0))]) (p1 := fun _ => []) (W1 := []) (fun _ => by kernel_rfl) (fun _ => trivial) (fun _ => ?_)
                  try simp only [List.cons_append, List.nil_append, List.append_nil]
                  refine JR_end ?_
                  try simp only [List.cons_append, List.nil_append, List.append_nil]
                  refine J_eb ?_
                  try simp only [List.cons_append, List.nil_append, List.append_nil]
                  refine J_stp (stp_delkept 0 rfl (.int .i64 x.seq)) ?_
                  rw [KL_del hd5]
                  have hdl := dropK_len hkp
                  refine J_backx ⟨av1, k5 + 1, cv1, out ++ [x], dropK L5 x.seq, x.seq, x.time, es3, cl5, _⟩ [0, 4, 5] [0, 1] [0, 1] [0] ?_ ?_ (by kernel_rfl) rfl rfl rfl
                  · refine ⟨hm3, hd5.drop _, by simp only; omega, ?_, ?_, ?_⟩
                    · rw [hxs]
                      simp only
                      omega
                    · rw [hxs]
                      simp
                      omega
                    · rw [hdr, drain_some hkp, hxs]
                      simp
                  · rw [hxs]
                    simp only
                    omega
            · rw [hg] at hv
              cases hv
          | some x0 =>
            refine J_stpx (stp_readkept 0 rfl (.int .i64 m.seq) (row := eMsg x0) (by simp [KL, hk])) fun ls0 hls0 => ?_
            obtain ⟨hls01, hls02⟩ := hls0
            obtain ⟨⟨pa, pc⟩, ⟨ra, rc⟩, rfl⟩ : ∃ l0 l1, ls0 = [l0, l1] := len2 hls01
            try simp only [List.cons_append, List.nil_append, List.append_nil]
            refine J_skip ?_
            try simp only [List.cons_append, List.nil_append, List.append_nil]
            refine J_eb ?_
            try simp only [List.cons_append, List.nil_append, List.append_nil]
            refine J_seq ?_
            try simp only [List.cons_append, List.nil_append, List.append_nil]
            refine J_seq ?_
            try simp only [List.cons_append, List.nil_append, List.append_nil]
            refine JR_begin mixed [(0, true), (1, true), (2, true), (3, true), (4, true), (5, true), (6, true), (7, true), (8, true), (9, true), (10, false), (11, false), (12, true)] [(11, [])] (by kernel_rfl) (by kernel_rfl) ?_
            refine JR_run (id := 9) (rest := [(6, true), (7, true), (8, true), (9, true), (10, false), (11, false), (12, true)]) [.rd 0 [] 0 0, .rd 1 [] 0 0, .rd 2 [] 0 0, .rd 3 [.o 0 none] 0 0, .rd 4 [] 0 0, .rd 5 [.o 2 none] 0 0] [0, 3, 4, 5, 77, 79] (E1 := fun _ => [(0, .val (.pointer (some (⟨b, 0, none⟩)))), (3, .val (.pointer (some (⟨nu1 0, 0, none⟩)))), (4, .val (.slice none 0 0)), (5, .val (.nilIface)), (77, .val (.map (some mb))), (79, .val (.int .i64 m.seq))]) (h1 := fun _ => [(b, .cells #[.int .i64 fm, .int .i64 to, .int .i64 sh, .int .i64 q, .int .i64 t, .map (some mb)] 89 (0, 0)), (mb, Obj.map es clock), (nu1 0, .cells #[.int .i64 m.fm, .int .i64 m.to, .int .i64 m.shard, .int .i64 m.seq, .int .i64 m.time, .bool m.beat, .slice a1 n1 c1, .int .i64 m.c.place, .slice a2 n2 c2] 37 (0, 0))]) (p1 := fun _ => []) (W1 := [(11, [])]) (fun _ => by kernel_rfl) (fun _ => trivial) (fun _ => ?_)
            refine JR_lookr (.o 1 none) mb 87 3 37 (TypeDesc.int IntKind.i64) (.int .i64 m.seq) (.agg #[.int .i64 0, .int .i64 0, .int .i64 0, .int .i64 0, .int .i64 0, .bool false, .slice none 0 0, .int .i64 0, .slice none 0 0]) true (some 80) (by kernel_rfl) (by kernel_rfl) (by kernel_rfl) (by kernel_rfl) (by simp [MapKept.IsKey]) (by kernel_rfl) rfl hm (fun hno => ?_) (fun v hv => ?_)
            · rw [hls02] at hno
              cases hno
            · rw [hls02] at hv
              cases hv
              try simp only [List.cons_append, List.nil_append, List.append_nil]
              refine JR_run (id := 9) (rest := []) [.rd 7 [] 0 0, .rd 8 [] 0 0, .rd 9 [] 0 0, .wr 10 [] 0, .wr 11 [.o 3 none, .o 3 none, .o 3 none, .o 3 none, .o 3 none, .o 3 none, .o 3 none, .o 3 none, .o 3 none] 0, .rd 12 [] 0 0] [0, 3, 4, 5, 7] (E1 := fun nu2 => [(0, .val (.pointer (some (⟨b, 0, none⟩)))), (3, .val (.pointer (some (⟨nu1 0, 0, none⟩)))), (4, .val (.slice none 0 0)), (5, .val (.nilIface)), (7, .val (.bool true))]) (h1 := fun nu2 => [(b, .cells #[.int .i64 fm, .int .i64 to, .int .i64 sh, .int .i64 q, .int .i64 t, .map (some mb)] 89 (0, 0)), (mb, Obj.map es clock), (nu1 0, .cells #[.int .i64 m.fm, .int .i64 m.to, .int .i64 m.shard, .int .i64 m.seq, .int .i64 m.time, .bool m.beat, .slice a1 n1 c1, .int .i64 m.c.place, .slice a2 n2 c2] 37 (0, 0)), (nu2 0, .cells #[.int .i64 x0.fm, .int .i64 x0.to, .int .i64 x0.shard, .int .i64 x0.seq, .int .i64 x0.time, .bool x0.beat, .slice (pa, pc).fst ((List.map eI x0.c.when).length) pc, .int .i64 x0.c.place, .slice (ra, rc).fst ((List.map eOp x0.c.ops).length) rc] 37 (0, 0))]) (p1 := fun nu2 => []) (W1 := []) (fun _ => by kernel_rfl) (fun _ => trivial) (fun nu2 => ?_)
              try simp only [List.cons_append, List.nil_append, List.append_nil]
              refine JR_end ?_
              try simp only [List.cons_append, List.nil_append, List.append_nil]
              refine J_seq ?_
              try simp only [List.cons_append, List.nil_append, List.append_nil]
              refine J_reg mixed [.rd 0 [] 0 0, .rd 1 [] 0 0] [] [0, 3, 4, 5, 84] (E1 := fun _ => [(0, .val (.pointer (some (⟨b, 0, none⟩)))), (3, .val (.pointer (some (⟨nu1 0, 0, none⟩)))), (4, .val (.slice none 0 0)), (5, .val (.nilIface)), (84, .val (.bool false))]) (h1 := fun _ => [(b, .cells #[.int .i64 fm, .int .i64 to, .int .i64 sh, .int .i64 q, .int .i64 t, .map (some mb)] 89 (0, 0)), (mb, Obj.map es clock), (nu1 0, .cells #[.int .i64 m.fm, .int .i64 m.to, .int .i64 m.shard, .int .i64 m.seq, .int .i64 m.time, .bool m.beat, .slice a1 n1 c1, .int .i64 m.c.place, .slice a2 n2 c2] 37 (0, 0)), (nu2 0, .cells #[.int .i64 x0.fm, .int .i64 x0.to, .int .i64 x0.shard, .int .i64 x0.seq, .int .i64 x0.time, .bool x0.beat, .slice pa ((List.map eI x0.c.when).length) pc, .int .i64 x0.c.place, .slice ra ((List.map eOp x0.c.ops).length) rc] 37 (0, 0))]) (p1 := fun _ => []) (W1 := []) (by kernel_rfl) (fun _ => by kernel_rfl) (fun _ => trivial) (fun _ => ?_)
              try simp only [List.cons_append, List.nil_append, List.append_nil]
              refine J_cond_f (by kernel_rfl) (by kernel_rfl) ?_
              try simp only [List.cons_append, List.nil_append, List.append_nil]
              refine J_skip ?_
              try simp only [List.cons_append, List.nil_append, List.append_nil]
              refine J_block ?_
              try simp only [List.cons_append, List.nil_append, List.append_nil]
              refine J_stp (stp_accm eMsg 37 9) ?_
              refine J_loopx (fun x : HearS => [(0, .val (.pointer (some (⟨b, 0, none⟩)))), (4, .val (.slice x.a x.k x.c)), (5, .val (.nilIface))]) (fun x : HearS => [(b, rCells fm to sh x.q x.t mb), (mb, .map x.es x.clock)]) (fun x : HearS => [cKept x.g (KL x.L), cAcc (.slice x.a x.k x.c) 37 9 (x.out.map eMsg)]) (fun x : HearS => [(.nilIface, (dC er eb))]) (fun x : HearS => x.L.length) (fun x : HearS => (MapOf (.int .i64) x.es x.g ∧ Dist x.L ∧ 0 ≤ x.q ∧ x.q + x.L.length ≤ 1000000 ∧ x.out.length + x.L.length ≤ 1000000 ∧ drainAll (L) q t = (x.out ++ (drainAll x.L x.q x.t).1, (drainAll x.L x.q x.t).2))) ⟨none, 0, 0, [], L, q, t, es, clock, g⟩ [0, 4, 5] [0, 1] [0, 1] [0] ?_ (by kernel_rfl) rfl rfl rfl ?_
              · exact ⟨hm, hd, hq0, by simp; omega, by simp; omega, by simp⟩
              rintro ⟨a5, k5, c5, out, L5, q5, t5, es5, cl5, g5⟩ ⟨hm5, hd5, hq5, hb5, hlen5, hdr⟩
              dsimp only at hm5 hd5 hq5 hb5 hlen5 hdr ⊢
              refine J_stpx (stp_acclen 1 rfl) fun _ hk5 => ?_
              rw [List.length_map] at hk5
              cases hkp : kept L5 (q5 + 1) with
              | none =>
                refine J_stpx (stp_keptnone 0 rfl (.int .i64 (q5 + 1)) (by simp [KL, hkp])) fun _ hg5 => ?_
                refine J_block ?_
                refine J_seq ?_
                refine JR_begin mixed [(0, true), (1, true), (2, true), (3, true), (4, true), (5, true), (6, true), (7, true), (8, true), (9, true), (10, true), (11, true), (12, true), (13, false), (14, false), (15, true)] [(14, [])] (by kernel_rfl) (by kernel_rfl) ?_
                refine JR_run (id := 12) (rest := [(9, true), (10, true), (11, true), (12, true), (13, false), (14, false), (15, true)]) [.rd 0 [] 0 0, .rd 1 [] 0 0, .rd 2 [] 0 0, .rd 3 [.o 0 none] 0 0, .rd 4 [] 0 0, .rd 5 [] 0 0, .rd 6 [] 0 0, .rd 7 [.o 0 none] 0 0, .rd 8 [] 0 1] [0, 4, 5, 97, 102] (E1 := fun _ => [(0, .val (.pointer (some (⟨b, 0, none⟩)))), (4, .val (.slice a5 k5 c5)), (5, .val (.nilIface)), (97, .val (.map (some mb))), (102, .val (.int .i64 (q5 + 1)))]) (h1 := fun _ => [(b, .cells #[.int .i64 fm, .int .i64 to, .int .i64 sh, .int .i64 q5, .int .i64 t5, .map (some mb)] 89 (0, 0)), (mb, Obj.map es5 cl5)]) (p1 := fun _ => [IntKind.i64.wrap (q5 + (1 : Int)) = q5 + (1 : Int)]) (W1 := [(14, [])]) (fun _ => by kernel_rfl) (fun _ => ⟨wrap_i64 (by omega) (by omega), trivial⟩) (fun _ => ?_)
                refine JR_lookr (.o 1 none) mb 87 3 37 (TypeDesc.int IntKind.i64) (.int .i64 (q5 + 1)) (.agg #[.int .i64 0, .int .i64 0, .int .i64 0, .int .i64 0, .int .i64 0, .bool false, .slice none 0 0, .int .i64 0, .slice none 0 0]) true (some 103) (by kernel_rfl) (by kernel_rfl) (by kernel_rfl) (by kernel_rfl) (by simp [MapKept.IsKey]) (by kernel_rfl) rfl hm5 (fun hno => ?_) (fun v hv => ?_)
                · refine JR_run (id := 12) (rest := []) [.rd 10 [] 0 0, .rd 11 [] 0 0, .rd 12 [] 0 0, .wr 13 [] 0, .wr 14 [.o 2 none, .o 2 none, .o 2 none, .o 2 none, .o 2 none, .o 2 none, .o 2 none, .o 2 none, .o 2 none] 0, .rd 15 [] 0 0] [0, 4, 5, 8, 9] (E1 := fun nu3 => [(0, .val (.pointer (some (⟨b, 0, none⟩)))), (4, .val (.slice a5 k5 c5)), (5, .val (.nilIface)), (8, .val (.pointer (some (⟨nu3 0, 0, none⟩)))), (9, .val (.bool false))]) (h1 := fun nu3 => [(b, .cells #[.int .i64 fm, .int .i64 to, .int .i64 sh, .int .i64 q5, .int .i64 t5, .map (some mb)] 89 (0, 0)), (mb, Obj.map es5 cl5), (nu3 0, .cells #[.int .i64 0, .int .i64 0, .int .i64 0, .int .i64 0, .int .i64 0, .bool false, .slice none 0 0, .int .i64 0, .slice none 0 0] 37 (0, 0))]) (p1 := fun nu3 => []) (W1 := []) (fun _ => by kernel_rfl) (fun _ => trivial) (fun nu3 => ?_)
                  refine JR_end ?_
                  refine J_seq ?_
                  refine J_seq ?_
                  refine J_reg mixed [.rd 0 [] 0 0, .rd 1 [] 0 0] [] [0, 4, 5, 8, 9, 107] (E1 := fun _ => [(0, .val (.pointer (some (⟨b, 0, none⟩)))), (4, .val (.slice a5 k5 c5)), (5, .val (.nilIface)), (8, .val (.pointer (some (⟨nu3 0, 0, none⟩)))), (9, .val (.bool false)), (107, .val (.bool true))]) (h1 := fun _ => [(b, .cells #[.int .i64 fm, .int .i64 to, .int .i64 sh, .int .i64 q5, .int .i64 t5, .map (some mb)] 89 (0, 0)), (mb, Obj.map es5 cl5), (nu3 0, .cells #[.int .i64 0, .int .i64 0, .int .i64 0, .int .i64 0, .int .i64 0, .bool false, .slice none 0 0, .int .i64 0, .slice none 0 0] 37 (0, 0))]) (p1 := fun _ => []) (W1 := []) (by kernel_rfl) (fun _ => by kernel_rfl) (fun _ => trivial) (fun _ => ?_)
                  refine J_cond_t (by kernel_rfl) (by kernel_rfl) ?_
                  refine J_seq ?_
                  refine J_reg mixed [.rd 0 [] 0 0, .rd 1 [] 0 0, .rd 2 [] 0 0] [] [0, 4, 5, 8, 9] (E1 := fun _ => [(0, .val (.pointer (some (⟨b, 0, none⟩)))), (4, .val (.slice a5 k5 c5)), (5, .val (.nilIface)), (8, .val (.pointer (some (⟨nu3 0, 0, none⟩)))), (9, .val (.bool false))]) (h1 := fun _ => [(b, .cells #[.int .i64 fm, .int .i64 to, .int .i64 sh, .int .i64 q5, .int .i64 t5, .map (some mb)] 89 (0, 0)), (mb, Obj.map es5 cl5), (nu3 0, .cells #[.int .i64 0, .int .i64 0, .int .i64 0, .int .i64 0, .int .i64 0, .bool false, .slice none 0 0, .int .i64 0, .slice none 0 0] 37 (0, 0))]) (p1 := fun _ => []) (W1 := []) (by kernel_rfl) (fun _ => by kernel_rfl) (fun _ => trivial) (fun _ => ?_)
                  refine J_return [[], []] (.tuple #[.slice a5 k5 c5, .nilIface]) (by kernel_rfl) (fun a w s => ?_)
                  have hT : hearT fm to sh ⟨L, q, t⟩ m = (0, out, ⟨L5, q5, t5⟩) := by
                    rw [hearT, if_neg hw2, if_neg hb2, if_neg (by simp; omega), if_neg (by simpa using hf2)]
                    simp only [hk]
                    rw [hdr, drain_none hkp]
                    simp
                  rw [hT]
                  have s1 := ((((s.hide 1 rfl).hide 0 rfl).stp (stp_closemap 2 0 rfl rfl hm5))).stp (stp_freeze 0 rfl)
                  exact ⟨_, _, _, _, s1.ret (by simp) [0, 1] [1] rfl rfl, .inl ⟨rfl, rfl⟩⟩
                · rw [hg5] at hv
                  cases hv
              | some x =>
                have hxs := kept_seq hkp
                refine J_stpx (stp_readkept 0 rfl (.int .i64 (q5 + 1)) (row := eMsg x) (by simp [KL, hkp])) fun ls hls => ?_
                obtain ⟨hls1, hls2⟩ := hls
                obtain ⟨⟨xa, xc⟩, ⟨ya, yc⟩, rfl⟩ : ∃ l0 l1, ls = [l0, l1] := len2 hls1
                try simp only [List.cons_append, List.nil_append, List.append_nil]
                refine J_block ?_
                refine J_seq ?_
                refine JR_begin mixed [(0, true), (1, true), (2, true), (3, true), (4, true), (5, true), (6, true), (7, true), (8, true), (9, true), (10, true), (11, true), (12, true), (13, false), (14, false), (15, true)] [(14, [])] (by kernel_rfl) (by kernel_rfl) ?_
                refine JR_run (id := 12) (rest := [(9, true), (10, true), (11, true), (12, true), (13, false), (14, false), (15, true)]) [.rd 0 [] 0 0, .rd 1 [] 0 0, .rd 2 [] 0 0, .rd 3 [.o 0 none] 0 0, .rd 4 [] 0 0, .rd 5 [] 0 0, .rd 6 [] 0 0, .rd 7 [.o 0 none] 0 0, .rd 8 [] 0 1] [0, 4, 5, 97, 102] (E1 := fun _ => [(0, .val (.pointer (some (⟨b, 0, none⟩)))), (4, .val (.slice a5 k5 c5)), (5, .val (.nilIface)), (97, .val (.map (some mb))), (102, .val (.int .i64 (q5 + 1)))]) (h1 := fun _ => [(b, .cells #[.int .i64 fm, .int .i64 to, .int .i64 sh, .int .i64 q5, .int .i64 t5, .map (some mb)] 89 (0, 0)), (mb, Obj.map es5 cl5)]) (p1 := fun _ => [IntKind.i64.wrap (q5 + (1 : Int)) = q5 + (1 : Int)]) (W1 := [(14, [])]) (fun _ => by kernel_rfl) (fun _ => ⟨wrap_i64 (by omega) (by omega), trivial⟩) (fun _ => ?_)
                refine JR_lookr (.o 1 none) mb 87 3 37 (TypeDesc.int IntKind.i64) (.int .i64 (q5 + 1)) (.agg #[.int .i64 0, .int .i64 0, .int .i64 0, .int .i64 0, .int .i64 0, .bool false, .slice none 0 0, .int .i64 0, .slice none 0 0]) true (some 103) (by kernel_rfl) (by kernel_rfl) (by kernel_rfl) (by kernel_rfl) (by simp [MapKept.IsKey]) (by kernel_rfl) rfl hm5 (fun hno => ?_) (fun v hv => ?_)
                · rw [hls2] at hno
                  cases hno
                · rw [hls2] at hv
                  cases hv
                  refine JR_run (id := 12) (rest := []) [.rd 10 [] 0 0, .rd 11 [] 0 0, .rd 12 [] 0 0, .wr 13 [] 0, .wr 14 [.o 2 none, .o 2 none, .o 2 none, .o 2 none, .o 2 none, .o 2 none, .o 2 none, .o 2 none, .o 2 none] 0, .rd 15 [] 0 0] [0, 4, 5, 8, 9] (E1 := fun nu3 => [(0, .val (.pointer (some (⟨b, 0, none⟩)))), (4, .val (.slice a5 k5 c5)), (5, .val (.nilIface)), (8, .val (.pointer (some (⟨nu3 0, 0, none⟩)))), (9, .val (.bool true))]) (h1 := fun nu3 => [(b, .cells #[.int .i64 fm, .int .i64 to, .int .i64 sh, .int .i64 q5, .int .i64 t5, .map (some mb)] 89 (0, 0)), (mb, Obj.map es5 cl5), (nu3 0, .cells #[.int .i64 x.fm, .int .i64 x.to, .int .i64 x.shard, .int .i64 x.seq, .int .i64 x.time, .bool x.beat, .slice (xa, xc).fst ((List.map eI x.c.when).length) xc, .int .i64 x.c.place, .slice (ya, yc).fst ((List.map eOp x.c.ops).length) yc] 37 (0, 0))]) (p1 := fun nu3 => []) (W1 := []) (fun _ => by kernel_rfl) (fun _ => trivial) (fun nu3 => ?_)
                  refine JR_end ?_
                  refine J_seq ?_
                  refine J_seq ?_
                  refine J_reg mixed [.rd 0 [] 0 0, .rd 1 [] 0 0] [] [0, 4, 5, 8, 9, 107] (E1 := fun _ => [(0, .val (.pointer (some (⟨b, 0, none⟩)))), (4, .val (.slice a5 k5 c5)), (5, .val (.nilIface)), (8, .val (.pointer (some (⟨nu3 0, 0, none⟩)))), (9, .val (.bool true)), (107, .val (.bool false))]) (h1 := fun _ => [(b, .cells #[.int .i64 fm, .int .i64 to, .int .i64 sh, .int .i64 q5, .int .i64 t5, .map (some mb)] 89 (0, 0)), (mb, Obj.map es5 cl5), (nu3 0, .cells #[.int .i64 x.fm, .int .i64 x.to, .int .i64 x.shard, .int .i64 x.seq, .int .i64 x.time, .bool x.beat, .slice (xa, xc).fst ((List.map eI x.c.when).length) xc, .int .i64 x.c.place, .slice (ya, yc).fst ((List.map eOp x.c.ops).length) yc] 37 (0, 0))]) (p1 := fun _ => []) (W1 := []) (by kernel_rfl) (fun _ => by kernel_rfl) (fun _ => trivial) (fun _ => ?_)
                  refine J_cond_f (by kernel_rfl) (by kernel_rfl) ?_
                  refine J_skip ?_
                  refine J_seq ?_
                  refine JR_begin mixed [(0, true), (1, true), (2, true), (3, true), (4, true), (5, true), (6, false)] [(6, [1])] (by kernel_rfl) (by kernel_rfl) ?_
                  refine JR_run (id := 15) (rest := [(6, false)]) [.rd 0 [] 0 0, .rd 1 [] 0 0, .rd 2 [] 0 0, .rd 3 [.o 0 none] 0 0, .rd 4 [] 0 0, .rd 5 [.o 2 none] 0 0] [0, 4, 5, 8, 9, 112, 114] (E1 := fun _ => [(0, .val (.pointer (some (⟨b, 0, none⟩)))), (4, .val (.slice a5 k5 c5)), (5, .val (.nilIface)), (8, .val (.pointer (some (⟨nu3 0, 0, none⟩)))), (9, .val (.bool true)), (112, .val (.map (some mb))), (114, .val (.int .i64 x.seq))]) (h1 := fun _ => [(b, .cells #[.int .i64 fm, .int .i64 to, .int .i64 sh, .int .i64 q5, .int .i64 t5, .map (some mb)] 89 (0, 0)), (mb, Obj.map es5 cl5), (nu3 0, .cells #[.int .i64 x.fm, .int .i64 x.to, .int .i64 x.shard, .int .i64 x.seq, .int .i64 x.time, .bool x.beat, .slice (xa, xc).fst ((List.map eI x.c.when).length) xc, .int .i64 x.c.place, .slice (ya, yc).fst ((List.map eOp x.c.ops).length) yc] 37 (0, 0))]) (p1 := fun _ => []) (W1 := [(6, [1])]) (fun _ => by kernel_rfl) (fun _ => trivial) (fun _ => ?_)
                  refine JR_del 1 mb 87 3 37 (TypeDesc.int IntKind.i64) (.int .i64 x.seq) none (by kernel_rfl) (by kernel_rfl) (by kernel_rfl) (by kernel_rfl) (by simp [MapKept.IsKey]) rfl hm5 (fun es3 hm3 hsz3 => ?_)
                  refine JR_end ?_
                  refine J_seq ?_
                  refine J_reg mixed [.rd 0 [] 0 0, .rd 1 [] 0 0, .rd 2 [] 0 0, .rd 3 [.o 2 none] 0 0, .rd 4 [] 0 0, .rd 5 [.o 2 none] 0 0, .rd 6 [] 0 0, .rd 7 [] 0 0, .wr 8 [.o 0 none] 0, .rd 9 [] 0 0, .rd 10 [] 0 0, .wr 11 [.o 0 none] 0] [(8, [0]), (11, [0])] [0, 4, 5, 8, 9, 112, 114] (E1 := fun _ => [(0, .val (.pointer (some (⟨b, 0, none⟩)))), (4, .val (.slice a5 k5 c5)), (5, .val (.nilIface)), (8, .val (.pointer (some (⟨nu3 0, 0, none⟩)))), (9, .val (.bool true)), (112, .val (.map (some mb))), (114, .val (.int .i64 x.seq))]) (h1 := fun _ => [(b, .cells #[.int .i64 fm, .int .i64 to, .int .i64 sh, .int .i64 x.seq, .int .i64 x.time, .map (some mb)] 89 (0, 0)), (mb, Obj.map es3 cl5), (nu3 0, .cells #[.int .i64 x.fm, .int .i64 x.to, .int .i64 x.shard, .int .i64 x.seq, .int .i64 x.time, .bool x.beat, .slice (xa, xc).fst ((List.map eI x.c.when).length) xc, .int .i64 x.c.place, .slice (ya, yc).fst ((List.map eOp x.c.ops).length) yc] 37 (0, 0))]) (p1 := fun _ => []) (W1 := []) (by kernel_rfl) (fun _ => by kernel_rfl) (fun _ => trivial) (fun _ => ?_)
                  refine JR_begin mixed [(0, true), (1, true), (2, false), (3, false), (4, true)] [] (by kernel_rfl) (by kernel_rfl) ?_
                  refine JR_run (id := 17) (rest := [(3, false), (4, true)]) [.rd 0 [] 0 0, .rd 1 [.o 2 none, .o 2 none, .o 2 none, .o 2 none, .o 2 none, .o 2 none, .o 2 none, .o 2 none, .o 2 none] 0 0, .wr 2 [] 0] [0, 4, 5, 8, 9, 112, 114, 125, 127] (E1 := fun nu4 => [(0, .val (.pointer (some (⟨b, 0, none⟩)))), (4, .val (.slice a5 k5 c5)), (5, .val (.nilIface)), (8, .val (.pointer (some (⟨nu3 0, 0, none⟩)))), (9, .val (.bool true)), (112, .val (.map (some mb))), (114, .val (.int .i64 x.seq)), (125, .val (.slice a5 k5 c5)), (127, .val (.slice (some (⟨nu4 0, 0, none⟩)) 1 1))]) (h1 := fun nu4 => [(b, .cells #[.int .i64 fm, .int .i64 to, .int .i64 sh, .int .i64 x.seq, .int .i64 x.time, .map (some mb)] 89 (0, 0)), (mb, Obj.map es3 cl5), (nu3 0, .cells #[.int .i64 x.fm, .int .i64 x.to, .int .i64 x.shard, .int .i64 x.seq, .int .i64 x.time, .bool x.beat, .slice (xa, xc).fst ((List.map eI x.c.when).length) xc, .int .i64 x.c.place, .slice (ya, yc).fst ((List.map eOp x.c.ops).length) yc] 37 (0, 0)), (nu4 0, .cells #[.int .i64 x.fm, .int .i64 x.to, .int .i64 x.shard, .int .i64 x.seq, .int .i64 x.time, .bool x.beat, .slice (xa, xc).fst ((List.map eI x.c.when).length) xc, .int .i64 x.c.place, .slice (ya, yc).fst ((List.map eOp x.c.ops).length) yc] 37 (0, 0))]) (p1 := fun nu4 => []) (W1 := []) (fun _ => by kernel_rfl) (fun _ => trivial) (fun nu4 => ?_)
                  refine JR_appm 1 32 37 9 104 (.agg #[.int .i64 0, .int .i64 0, .int .i64 0, .int .i64 0, .int .i64 0, .bool false, .slice none 0 0, .int .i64 0, .slice none 0 0]) (a0 := a5) (len := k5) (cap0 := c5) (ax := (some (⟨nu4 0, 0, none⟩))) (m := 1) (c := 1) (dst := (some 128)) [x] (by kernel_rfl) (by kernel_rfl) (by kernel_rfl) (by kernel_rfl) rfl (by decide) rfl (fun _ _ _ s => src_one s 3 rfl rfl ⟨.inl ⟨rfl, rfl⟩, ⟨.inl ⟨rfl, rfl⟩, ⟨.inl ⟨rfl, rfl⟩, ⟨.inl ⟨rfl, rfl⟩, ⟨.inl ⟨rfl, rfl⟩, ⟨.inl ⟨rfl, rfl⟩, ⟨.inr (.inl (List.mem_of_getElem? (i := 1) rfl)), ⟨.inl ⟨rfl, rfl⟩, ⟨.inr (.inl (List.mem_of_getElem? (i := 2) rfl)), trivial⟩⟩⟩⟩⟩⟩⟩⟩⟩) (by simp only [maxLen]; omega) (by omega) (fun av1 cv1 => ?_)
                  try simp only [List.cons_append, List.nil_append, List.append_nil]
                  refine JR_run (id := 17) (rest := []) [.rd 4 [] 0 0] [0, 4, 5, 8, 9, 112, 114] (E1 := fun _ => [(0, .val (.pointer (some (⟨b, 0, none⟩)))), (4, .val (.slice av1 (k5 + 1) cv1)), (5, .val (.nilIface)), (8, .val (.pointer (some (⟨nu3 0, 0, none⟩)))), (9, .val (.bool true)), (112, .val (.map (some mb))), (114, .val (.int .i64 x.seq))]) (h1 := fun _ => [(b, .cells #[.int .i64 fm, .int .i64 to, .int .i64 sh, .int .i64 x.seq, .int .i64 x.time, .map (some mb)] 89 (0, 0)), (mb, Obj.map es3 cl5), (nu3 0, .cells #[.int .i64 x.fm, .int .i64 x.to, .int .i64 x.shard, .int .i64 x.seq, .int .i64 x.time, .bool x.beat, .slice xa ((List.map eI x.c.when).length) xc, .int .i64 x.c.place, .slice ya ((List.map eOp x.c.ops).length) yc] 37 (0, 0)), (nu4 0, .cells #[.int .i64 x.fm, .int .i64 x.to, .int .i64 x.shard, .int .i64 x.seq, .int .i64 x.time, .bool x.beat, .slice xa ((List.map eI x.c.when).length) xc, .int .i64 x.c.place, .slice ya ((List.map eOp x.c.ops).length) yc] 37 (0, 0))]) (p1 := fun _ => []) (W1 := []) (fun _ => by kernel_rfl) (fun _ => trivial) (fun _ => ?_)
                  try simp only [List.cons_append, List.nil_append, List.append_nil]
                  refine JR_end ?_
                  try simp only [List.cons_append, List.nil_append, List.append_nil]
                  refine J_eb ?_
                  try simp only [List.cons_append, List.nil_append, List.append_nil]
                  refine J_stp (stp_delkept 0 rfl (.int .i64 x.seq)) ?_
                  rw [KL_del hd5]
                  have hdl := dropK_len hkp
                  refine J_backx ⟨av1, k5 + 1, cv1, out ++ [x], dropK L5 x.seq, x.seq, x.time, es3, cl5, _⟩ [0, 4, 5] [0, 1] [0, 1] [0] ?_ ?_ (by kernel_rfl) rfl rfl rfl
                  · refine ⟨hm3, hd5.drop _, by simp only; omega, ?_, ?_, ?_⟩
                    · rw [hxs]
                      simp only
                      omega
                    · rw [hxs]
                      simp
                      omega
                    · rw [hdr, drain_some hkp, hxs]
                      simp
                  · rw [hxs]
                    simp only
                    omega
end Go.Proofs.YtgelnbgjabpdbaaDoor
