/- The pieces of a text between signs. Plain. -/
import Derived.Lib.Bytealg
import Derived.Lib.IndexLaws
namespace Go.Sx
open Go

/-- The pieces of a list between its c's. -/
def cutL (c : UInt8) : List UInt8 → List (List UInt8)
  | [] => [[]]
  | b :: l => if b = c then [] :: cutL c l else match cutL c l with
    | [] => [[b]]
    | p :: ps => (b :: p) :: ps
theorem cutL_ne (c : UInt8) : ∀ l : List UInt8, cutL c l ≠ []
  | [] => by simp [cutL]
  | b :: l => by
    unfold cutL
    split
    · simp
    · split <;> simp
theorem cutL_none {c : UInt8} : ∀ {l : List UInt8}, (∀ b ∈ l, b ≠ c) → cutL c l = [l]
  | [], _ => rfl
  | b :: l, h => by
    rw [cutL, if_neg (h b (List.mem_cons_self ..)), cutL_none fun x hx => h x (List.mem_cons_of_mem _ hx)]
theorem cutL_some {c : UInt8} : ∀ {l : List UInt8} {i : Nat}, l[i]? = some c → (∀ k : Nat, k < i → l[k]? ≠ some c) → cutL c l = l.take i :: cutL c (l.drop (i + 1))
  | [], i, h, _ => by simp at h
  | b :: l, 0, h, _ => by
    simp at h
    rw [cutL, if_pos h]
    simp
  | b :: l, i + 1, h, hk => by
    have h0 : b ≠ c := fun e => hk 0 (by omega) (by simp [e])
    rw [cutL, if_neg h0, cutL_some (l := l) (i := i) (by simpa using h) fun k hki => by simpa using hk (k + 1) (by omega)]
    simp
def toB (l : List UInt8) : ByteArray := ⟨l.toArray⟩
def pieces (c : UInt8) (s : ByteArray) : List ByteArray := (cutL c s.data.toList).map toB
theorem toB_data (s : ByteArray) : toB s.data.toList = s := rfl
theorem pieces_none {c : UInt8} {s : ByteArray} (h : Lib.indexByte s.data.toList c < 0) : pieces c s = [s] := by
  have h1 : Lib.indexByte s.data.toList c = -1 := by
    have := Lib.indexByte_ge s.data.toList c
    omega
  rw [pieces, cutL_none]
  · rfl
  · intro b hb e
    obtain ⟨k, hk⟩ := List.getElem?_of_mem hb
    exact Lib.indexByte_none h1 k (by rw [hk, e])
theorem pieces_some {c : UInt8} {s : ByteArray} {i : Int} (h : Lib.indexByte s.data.toList c = i) (h0 : 0 ≤ i) : i.toNat < s.size ∧ pieces c s = s.extract 0 i.toNat :: pieces c (s.extract (i.toNat + 1) s.size) := by
  obtain ⟨h1, h2⟩ := Lib.indexByte_some (o := i.toNat) (by rw [h]; omega)
  have hlt : i.toNat < s.data.toList.length := (List.getElem?_eq_some_iff.1 h1).1
  have e1 : s.extract 0 i.toNat = toB (s.data.toList.take i.toNat) := by
    apply ByteArray.ext
    rw [ByteArray.data_extract]
    apply Array.ext'
    rw [Array.toList_extract, List.extract_eq_take_drop, List.drop_zero, Nat.sub_zero]
    rfl
  have e2 : (s.extract (i.toNat + 1) s.size).data.toList = s.data.toList.drop (i.toNat + 1) := by
    simp only [ByteArray.data_extract, Array.toList_extract, List.extract_eq_take_drop]
    refine List.take_of_length_le ?_
    rw [List.length_drop, Array.length_toList]
    exact Nat.le_refl _
  refine ⟨by rw [Array.length_toList] at hlt; exact hlt, ?_⟩
  rw [pieces, cutL_some h1 h2, List.map_cons, e1, pieces, e2]
end Go.Sx
