/- The engine of our walks, part 0: what is drawn only rises. No program is named here. -/
import Derived.OrdersHeld
import Derived.Tactics
import Derived.WalkKit
import Derived.KernelRfl
namespace Go
theorem World.ask_drawn {α : Type} : ∀ (k : Ask α) (w : World), w.drawn ≤ (w.ask k).2.drawn
  | .done _, w => Nat.le_refl _
  | .ask what range k, w => by
    unfold World.ask
    dsimp only
    split
    · exact World.ask_drawn (k 0) w
    · exact Nat.le_trans (Nat.le_succ _) (World.ask_drawn (k _) { w with drawn := w.drawn + 1 })
theorem World.sys_drawn (w : World) (c : Sys) : w.drawn ≤ (w.sys c).2.drawn := by
  have h := World.ask_drawn (Kernel.perform c w.os) w
  unfold World.sys
  split
  · exact Nat.le_refl _
  · rename_i e
    rw [e] at h
    exact h
theorem World.setCell_drawn (w : World) (a : Addr) (v : Value) : (w.setCell a v).drawn = w.drawn := rfl
theorem World.freeze_drawn (w : World) (a : Addr) (n : Nat) : (w.freeze a n).drawn = w.drawn := by unfold World.freeze; split <;> rfl
theorem except_bind_ok {ε α β : Type} {x : Except ε α} {f : α → Except ε β} {y : β} (h : (x >>= f) = .ok y) : ∃ a, x = .ok a ∧ f a = .ok y := by
  cases x with
  | error e => cases h
  | ok a => exact ⟨a, rfl, h⟩
theorem World.viewStore_drawn {p : Program} {w w' : World} {at_ : Addr} {u : TypeId} {k : Addr} {v : Value} {b : Bool} {l : List Addr} (h : w.viewStore p at_ u k v b = .ok (w', l)) : w'.drawn = w.drawn := by
  unfold World.viewStore at h
  dsimp only at h
  split at h
  · obtain ⟨_, h1, _⟩ := except_bind_ok h
    cases h1
  · obtain ⟨x, _, h⟩ := except_bind_ok h
    split at h
    · split at h
      · obtain ⟨_, h1, _⟩ := except_bind_ok h
        cases h1
      · obtain ⟨x, _, h⟩ := except_bind_ok h
        cases h
        rfl
    · cases h
theorem World.farStore_drawn {p : Program} {w w' : World} {a : Addr} {v : Value} {b : Bool} {l : List Addr} (h : w.farStore p a v b = .ok (w', l)) : w'.drawn = w.drawn := by
  unfold World.farStore at h
  split at h
  · split at h
    · rename_i r hr
      cases h
      exact World.viewStore_drawn hr
    · cases h
  · cases h
theorem Sem.run_drawn {α : Type} {p : Program} : ∀ {s : Sem α} {w w' : World} {v : α}, s.run p w = .ok v w' → w.drawn ≤ w'.drawn
  | .pure a, w, w', v, h => by
    cases h
    exact Nat.le_refl _
  | .load m a k, w, w', v, h => by
    simp only [Sem.run] at h
    split at h
    · exact Sem.run_drawn h
    · split at h
      · exact Sem.run_drawn h
      · cases h
  | .store m a x k, w, w', v, h => by
    have hk : ∀ {w1 : World}, k.run p w1 = .ok v w' → w1.drawn ≤ w'.drawn := fun h => Sem.run_drawn h
    cases x <;> simp only [Sem.run] at h <;> first | (cases h; done) | skip
    all_goals
      split at h
      · split at h
        · cases h
        · have := hk h
          rwa [World.setCell_drawn] at this
      · split at h
        · rename_i hfs
          have := hk h
          rwa [World.farStore_drawn hfs] at this
        · cases h
  | .new o k, w, w', v, h => by
    simp only [Sem.run] at h
    exact Sem.run_drawn (s := k w.heap.size) (w := { w with heap := w.heap.push o }) h
  | .shape r k, w, w', v, h => by
    simp only [Sem.run] at h
    exact Sem.run_drawn h
  | .freeze a n k, w, w', v, h => by
    simp only [Sem.run] at h
    have := Sem.run_drawn h
    rwa [World.freeze_drawn] at this
  | .frozen a k, w, w', v, h => by
    simp only [Sem.run] at h
    exact Sem.run_drawn h
  | .getObj r k, w, w', v, h => by
    simp only [Sem.run] at h
    split at h
    · cases h
    · exact Sem.run_drawn h
    · cases h
  | .setObj r o k, w, w', v, h => by
    simp only [Sem.run] at h
    split at h
    · cases h
    · exact Sem.run_drawn (w := { w with heap := w.heap.setIfInBounds r o }) h
    · cases h
  | .choose q k, w, w', v, h => by
    simp only [Sem.run] at h
    split at h
    · exact Sem.run_drawn h
    · exact Nat.le_trans (Nat.le_succ _) (Sem.run_drawn (w := { w with drawn := w.drawn + 1 }) h)
  | .sys c k, w, w', v, h => by
    simp only [Sem.run] at h
    exact Nat.le_trans (World.sys_drawn w c) (Sem.run_drawn h)
  | .program k, w, w', v, h => by
    simp only [Sem.run] at h
    exact Sem.run_drawn h
  | .mark m k, w, w', v, h => by
    simp only [Sem.run] at h
    exact Sem.run_drawn h
  | .halt h', w, w', v, h => by
    simp only [Sem.run] at h
    cases h
end Go
