/- Data of this program, as what a slice's cells read as. -/
import Derived.Test.YtahbmdchcbnolaaDoorTx8
import Derived.Below
namespace Go.Sx
open Go Go.RowKit

abbrev dI (n : Int) : D := .v (.int .i64 n)
abbrev eI (t : Int) : List D := [dI t]
abbrev dInts (l : List Int) : D := .sl 1 (l.map eI)
theorem rep_ints_len {w : World} {S : Nat → Prop} {a : Option Addr} {n c : Nat} {xs : List Int} (h : Rep w S (.slice a n c) (dInts xs)) : n = xs.length := by
  have := h.slen
  simpa using this

abbrev eS (s : ByteArray) : List D := [.v (.string s)]
abbrev dStrs (l : List ByteArray) : D := .sl 1 (l.map eS)
/-- An error's value: T: the type of what errors.New makes; er: where each error lies. -/
def errV (T : Nat) (er : Nat → Addr) (k : Nat) : Value := .iface T (.pointer (some (er k)))
def ErrIs (T : Nat) (er : Nat → Addr) (k : Nat) (v : Value) : Prop := (k = 0 ∧ v = .nilIface) ∨ (k ≠ 0 ∧ v = .iface T (.pointer (some (er k))))
/-- A package's variable with an error. -/
abbrev dE (T : Nat) (er : Nat → Addr) (g k : Nat) : Value × D := (.pointer (some ⟨g, 0, none⟩), .ptr [.v (.iface T (.pointer (some (er k))))])

theorem AllG.pick {w : World} {S : Nat → Prop} {G G' : List (Value × D)} (h : AllG w S G) (ps : List Nat) (hp : pick G ps = G') : AllG w S G' := fun x hx => h x (pick_mem hp x hx)
theorem AllG.app {w : World} {S : Nat → Prop} {G G' : List (Value × D)} (h : AllG w S G) (h' : AllG w S G') : AllG w S (G ++ G') := fun x hx => by
  rcases List.mem_append.1 hx with hx | hx
  · exact h x hx
  · exact h' x hx
/-- A loop's state with one slice that grows. -/
structure AccI where
  i : Int
  a : Option Addr
  k : Nat
  c : Nat
theorem take_snoc {α : Type} {l : List α} {i : Int} {x : α} (hi : 0 ≤ i) (hx : l[i.toNat]? = some x) : l.take i.toNat ++ [x] = l.take (i + 1).toNat := by
  have e : (i + 1).toNat = i.toNat + 1 := by omega
  rw [e, List.take_add_one, hx]
  rfl
/-- What the library's contracts leave. -/
theorem ret_below {w w' : World} {S : Nat → Prop} {e : Ending} {v : Value} (he : e = .returned v) (h : Below w.heap.size w w') (hd : w.drawn ≤ w'.drawn) : Ret [] w S w' e v [] [] :=
  ⟨he, ⟨h.os, h.tape, h.output, h.size, fun b hb _ => h.block b hb, hd⟩, [], trivial, by simp, by simp, by simp⟩
theorem ret_same {w w' : World} {S : Nat → Prop} {e : Ending} {v : Value} (he : e = .returned v) (h : w' = w) : Ret [] w S w' e v [] [] := ret_below he (h ▸ Below.refl _ _) (h ▸ Nat.le_refl _)
end Go.Sx
