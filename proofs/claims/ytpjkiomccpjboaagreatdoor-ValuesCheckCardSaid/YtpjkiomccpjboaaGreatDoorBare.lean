/- values.Bare. -/
import Derived.Test.YtpjkiomccpjboaaGreatDoorComErr2
import Derived.Test.YtpjkiomccpjboaaGreatDoorTk2
namespace Go.Proofs.YtpjkiomccpjboaaGreatDoor
open Go Go.Sx

theorem asNil {w : World} {S : Nat → Prop} {t : Addr} : Calls Tryz.prog 86 #[.nilIface, .iface 143 (.pointer (some t))] w fun e w' => Ret [] w S w' e (.bool false) [] [] := by
  refine ep86 (args := [.nilIface, .iface 143 (.pointer (some t))]) (S := S) (G := []) (by kernel_rfl) (.nil _ _) ?_
  refine J_seq ?_
  refine J_reg mixed [.rd 0 [] 0 0] [] [0, 1, 4] (E1 := fun _ => [(0, .val (.nilIface)), (1, .val (.iface 143 (.pointer (some t)))), (4, .val (.bool false))]) (h1 := fun _ => []) (p1 := fun _ => []) (W1 := []) (by kernel_rfl) (fun _ => by kernel_rfl) (fun _ => trivial) (fun _ => ?_)
  refine J_seq ?_
  refine J_seq ?_
  refine J_reg mixed [.rd 0 [] 0 0, .rd 1 [] 0 0] [] [0, 1, 4, 9] (E1 := fun _ => [(0, .val (.nilIface)), (1, .val (.iface 143 (.pointer (some t)))), (4, .val (.bool false)), (9, .val (.bool true))]) (h1 := fun _ => []) (p1 := fun _ => []) (W1 := []) (by kernel_rfl) (fun _ => by kernel_rfl) (fun _ => trivial) (fun _ => ?_)
  refine J_cond_t (by kernel_rfl) (by kernel_rfl) ?_
  refine J_seq ?_
  refine J_reg mixed [.rd 0 [] 0 0] [] [0, 1, 4] (E1 := fun _ => [(0, .val (.nilIface)), (1, .val (.iface 143 (.pointer (some t)))), (4, .val (.bool false))]) (h1 := fun _ => []) (p1 := fun _ => []) (W1 := []) (by kernel_rfl) (fun _ => by kernel_rfl) (fun _ => trivial) (fun _ => ?_)
  refine J_return [[]] (.bool false) (by kernel_rfl) (fun a w s => ?_)
  exact s.ret (by simp) [] [] rfl rfl
theorem bareE {w : World} {S : Nat → Prop} {er : Nat → Addr} {eb : Nat → Array Value × TypeId} {k : Nat} {v : Value} (hC : Rep w S .nilIface (dC er eb)) (hv : ErrIs 243 er k v) :
    Calls Tryz.prog 93 #[v] w fun e w' => Ret [] w S w' e v [] [] := by
  rcases hv with ⟨rfl, rfl⟩ | ⟨h0, rfl⟩
  · refine ep93 (args := [.nilIface]) (G := [(_, dC er eb)]) (by kernel_rfl) (.cons hC (.nil _ _)) ?_
    refine J_seq ?_
    refine J_reg mixed [.rd 0 [] 0 0] [] [0, 2] (E1 := fun _ => [(0, .val (.nilIface)), (2, .val (.nilIface))]) (h1 := fun _ => []) (p1 := fun _ => []) (W1 := []) (by kernel_rfl) (fun _ => by kernel_rfl) (fun _ => trivial) (fun _ => ?_)
    refine J_seq ?_
    refine J_reg mixed [.wr 0 [] 0] [] [0, 2, 3] (E1 := fun nu1 => [(0, .val (.nilIface)), (2, .val (.nilIface)), (3, .val (.pointer (some (⟨nu1 0, 0, none⟩))))]) (h1 := fun nu1 => [(nu1 0, .cells #[.pointer none] 102 (0, 0))]) (p1 := fun nu1 => []) (W1 := []) (by kernel_rfl) (fun _ => by kernel_rfl) (fun _ => trivial) (fun nu1 => ?_)
    refine J_seq ?_
    refine J_seq ?_
    refine JR_begin mixed [(0, true), (1, true), (2, false)] [] (by kernel_rfl) (by kernel_rfl) ?_
    refine JR_run (id := 2) (rest := [(2, false)]) [.rd 0 [] 0 0, .rd 1 [] 0 0] [0, 2, 3, 4, 5] (E1 := fun _ => [(0, .val (.nilIface)), (2, .val (.nilIface)), (3, .val (.pointer (some (⟨nu1 0, 0, none⟩)))), (4, .val (.nilIface)), (5, .val (.iface 143 (.pointer (some (⟨nu1 0, 0, none⟩)))))]) (h1 := fun _ => [(nu1 0, .cells #[.pointer none] 102 (0, 0))]) (p1 := fun _ => []) (W1 := []) (fun _ => by kernel_rfl) (fun _ => trivial) (fun _ => ?_)
    refine JR_callp [] 86 #[.nilIface, .iface 143 (.pointer (some (⟨nu1 0, 0, none⟩)))] (some 6) (by kernel_rfl) (fun w S hG => ?_)
    refine (asNil (S := S)).mono ?_
    rintro e1 w1 hR
    refine ⟨_, _, _, hR, ?_⟩
    try simp only [List.cons_append, List.nil_append, List.append_nil]
    refine JR_end ?_
    refine J_cond_f (by kernel_rfl) (by kernel_rfl) ?_
    refine J_skip ?_
    refine J_seq ?_
    refine J_reg mixed [.rd 0 [] 0 0, .rd 1 [] 0 0] [] [2] (E1 := fun _ => [(2, .val (.nilIface))]) (h1 := fun _ => [(nu1 0, .cells #[.pointer none] 102 (0, 0))]) (p1 := fun _ => []) (W1 := []) (by kernel_rfl) (fun _ => by kernel_rfl) (fun _ => trivial) (fun _ => ?_)
    refine J_return [[]] (.nilIface) (by kernel_rfl) (fun a w s => ?_)
    exact s.ret (by simp) [] [] rfl rfl
  · refine ep93 (args := [.iface 243 (.pointer (some (er k)))]) (G := [(_, dC er eb)]) (by kernel_rfl) (.cons hC (.nil _ _)) ?_
    refine J_seq ?_
    refine J_reg mixed [.rd 0 [] 0 0] [] [0, 2] (E1 := fun _ => [(0, .val (.iface 243 (.pointer (some (er k))))), (2, .val (.nilIface))]) (h1 := fun _ => []) (p1 := fun _ => []) (W1 := []) (by kernel_rfl) (fun _ => by kernel_rfl) (fun _ => trivial) (fun _ => ?_)
    refine J_seq ?_
    refine J_reg mixed [.wr 0 [] 0] [] [0, 2, 3] (E1 := fun nu1 => [(0, .val (.iface 243 (.pointer (some (er k))))), (2, .val (.nilIface)), (3, .val (.pointer (some (⟨nu1 0, 0, none⟩))))]) (h1 := fun nu1 => [(nu1 0, .cells #[.pointer none] 102 (0, 0))]) (p1 := fun nu1 => []) (W1 := []) (by kernel_rfl) (fun _ => by kernel_rfl) (fun _ => trivial) (fun nu1 => ?_)
    refine J_seq ?_
    refine J_seq ?_
    refine JR_begin mixed [(0, true), (1, true), (2, false)] [] (by kernel_rfl) (by kernel_rfl) ?_
    refine JR_run (id := 2) (rest := [(2, false)]) [.rd 0 [] 0 0, .rd 1 [] 0 0] [0, 2, 3, 4, 5] (E1 := fun _ => [(0, .val (.iface 243 (.pointer (some (er k))))), (2, .val (.nilIface)), (3, .val (.pointer (some (⟨nu1 0, 0, none⟩)))), (4, .val (.iface 243 (.pointer (some (er k))))), (5, .val (.iface 143 (.pointer (some (⟨nu1 0, 0, none⟩)))))]) (h1 := fun _ => [(nu1 0, .cells #[.pointer none] 102 (0, 0))]) (p1 := fun _ => []) (W1 := []) (fun _ => by kernel_rfl) (fun _ => trivial) (fun _ => ?_)
    refine JR_callp [] 86 #[.iface 243 (.pointer (some (er k))), .iface 143 (.pointer (some (⟨nu1 0, 0, none⟩)))] (some 6) (by kernel_rfl) (fun w S hG => ?_)
    refine (asMiss (hG.at 0 rfl)).mono ?_
    rintro e1 w1 hR
    refine ⟨_, _, _, hR, ?_⟩
    try simp only [List.cons_append, List.nil_append, List.append_nil]
    refine JR_end ?_
    refine J_cond_f (by kernel_rfl) (by kernel_rfl) ?_
    refine J_skip ?_
    refine J_seq ?_
    refine J_reg mixed [.rd 0 [] 0 0, .rd 1 [] 0 0] [] [2] (E1 := fun _ => [(2, .val (.iface 243 (.pointer (some (er k)))))]) (h1 := fun _ => [(nu1 0, .cells #[.pointer none] 102 (0, 0))]) (p1 := fun _ => []) (W1 := []) (by kernel_rfl) (fun _ => by kernel_rfl) (fun _ => trivial) (fun _ => ?_)
    refine J_return [[]] (.iface 243 (.pointer (some (er k)))) (by kernel_rfl) (fun a w s => ?_)
    exact s.ret (by simp) [] [] rfl rfl
theorem bareF {w : World} {S : Nat → Prop} {er : Nat → Addr} {eb : Nat → Array Value × TypeId} {k pb : Nat} {at' : Int} (hC : Rep w S .nilIface (dC er eb)) (hp : Rep w S (.pointer (some ⟨pb, 0, none⟩)) (.ptr [.v (.int .i64 at'), .v (.iface 243 (.pointer (some (er k))))])) :
    Calls Tryz.prog 93 #[.iface 102 (.pointer (some ⟨pb, 0, none⟩))] w fun e w' => Ret [] w S w' e (.iface 243 (.pointer (some (er k)))) [] [] := by
  refine ep93 (args := [.iface 102 (.pointer (some ⟨pb, 0, none⟩))]) (G := [(_, dC er eb), (_, .ptr [.v (.int .i64 at'), .v (.iface 243 (.pointer (some (er k))))])]) (by kernel_rfl) (.cons hC (.cons hp (.nil _ _))) ?_
  refine J_ptrl 1 rfl fun b off cs e fz ls he hl hc => ?_
  cases he
  obtain rfl : ls = [] := List.eq_nil_of_length_eq_zero hl
  have hc1 : cs[0 + 1]? = some (.iface 243 (.pointer (some (er k)))) := hc 1 _ rfl
  try simp only [List.cons_append, List.nil_append, List.append_nil]
  refine J_seq ?_
  refine J_reg mixed [.rd 0 [] 0 0] [] [0, 2] (E1 := fun _ => [(0, .val (.iface 102 (.pointer (some (⟨pb, 0, none⟩))))), (2, .val (.nilIface))]) (h1 := fun _ => []) (p1 := fun _ => []) (W1 := []) (by kernel_rfl) (fun _ => by kernel_rfl) (fun _ => trivial) (fun _ => ?_)
  refine J_seq ?_
  refine J_reg mixed [.wr 0 [] 0] [] [0, 2, 3] (E1 := fun nu1 => [(0, .val (.iface 102 (.pointer (some (⟨pb, 0, none⟩))))), (2, .val (.nilIface)), (3, .val (.pointer (some (⟨nu1 0, 0, none⟩))))]) (h1 := fun nu1 => [(nu1 0, .cells #[.pointer none] 102 (0, 0))]) (p1 := fun nu1 => []) (W1 := []) (by kernel_rfl) (fun _ => by kernel_rfl) (fun _ => trivial) (fun nu1 => ?_)
  refine J_seq ?_
  refine J_seq ?_
  refine J_hide 0 rfl ?_
  try simp only [List.cons_append, List.nil_append, List.append_nil]
  refine JR_begin mixed [(0, true), (1, true), (2, false)] [] (by kernel_rfl) (by kernel_rfl) ?_
  refine JR_run (id := 2) (rest := [(2, false)]) [.rd 0 [] 0 0, .rd 1 [] 0 0] [0, 2, 3, 4, 5] (E1 := fun _ => [(0, .val (.iface 102 (.pointer (some (⟨pb, 0, none⟩))))), (2, .val (.nilIface)), (3, .val (.pointer (some (⟨nu1 0, 0, none⟩)))), (4, .val (.iface 102 (.pointer (some (⟨pb, 0, none⟩))))), (5, .val (.iface 143 (.pointer (some (⟨nu1 0, 0, none⟩)))))]) (h1 := fun _ => []) (p1 := fun _ => []) (W1 := []) (fun _ => by kernel_rfl) (fun _ => trivial) (fun _ => ?_)
  refine JR_call [] [0] 86 #[.iface 102 (.pointer (some (⟨pb, 0, none⟩))), .iface 143 (.pointer (some (⟨nu1 0, 0, none⟩)))] (some 6) (by kernel_rfl) (by kernel_rfl) (by decide) (fun w S M hP hG _ => ?_)
  refine (asHit (hG.at 0 rfl) hP).mono ?_
  rintro e1 w1 hR
  refine ⟨_, _, _, hR, ?_⟩
  try simp only [List.cons_append, List.nil_append, List.append_nil]
  refine JR_end ?_
  try simp only [List.cons_append, List.nil_append, List.append_nil]
  refine J_cond_t (by kernel_rfl) (by kernel_rfl) ?_
  try simp only [List.cons_append, List.nil_append, List.append_nil]
  refine J_seq ?_
  try simp only [List.cons_append, List.nil_append, List.append_nil]
  refine J_show 0 rfl ?_
  refine J_reg mixed [.rd 0 [.o 0 none] 0 0, .rd 1 [] 0 0, .rd 2 [] 0 0, .rd 3 [.r 0 (some (.iface 243 (.pointer (some (er k)))))] 0 0, .rd 4 [] 0 0] [] [0, 2] (E1 := fun _ => [(0, .val (.iface 102 (.pointer (some (⟨pb, 0, none⟩))))), (2, .val (.iface 243 (.pointer (some (er k)))))]) (h1 := fun _ => [(nu1 0, .cells #[.pointer (some (⟨pb, 0, none⟩))] 102 (0, 0))]) (p1 := fun _ => [cs[(0 : Nat) + (1 : Nat)]? = some (Value.iface (243 : TypeId) (Value.pointer (some (er k))))]) (W1 := []) (by kernel_rfl) (fun _ => by kernel_rfl) (fun _ => ⟨hc1, trivial⟩) (fun _ => ?_)
  refine J_return [[]] (.iface 243 (.pointer (some (er k)))) (by kernel_rfl) (fun a w s => ?_)
  exact s.ret (by simp) [] [] rfl rfl
end Go.Proofs.YtpjkiomccpjboaaGreatDoor
