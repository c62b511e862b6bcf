/- Facts of cut slices; the first of a list that has a number. -/
import Derived.Test.YtgelnbgjabpdbaaDoorHearP
namespace Go.Sx
open Go

theorem Rep.take {w : World} {S : Nat → Prop} {a : Option Addr} {n c k : Nat} {rows : List (List D)} (h : Rep w S (.slice a n c) (.sl k rows)) {i c' : Nat} (hi : i ≤ n) (hc' : n ≤ c') : Rep w S (.slice a i c') (.sl k (rows.take i)) := by
  have hn := h.slen
  cases h with
  | nil =>
    obtain rfl : i = 0 := by omega
    exact .nil
  | sl u hb hS hc hk hl hcell hrep =>
    have hlen : (rows.take i).length = i := by rw [List.length_take]; omega
    have hx := Rep.sl (rows := rows.take i) (cap := c') u hb hS (by rw [hlen]; omega) hk (fun row hr => hl row (List.mem_of_mem_take hr)) (fun p j hp hj => hcell p j (by rw [hlen] at hp; omega) hj) (fun p j row d hp hj => hrep p j row d (by
      rw [List.getElem?_take] at hp
      split at hp
      · exact hp
      · cases hp) hj)
    rwa [hlen] at hx
theorem Rep.drop {w : World} {S : Nat → Prop} {b off n c k : Nat} {rows : List (List D)} (h : Rep w S (.slice (some ⟨b, off, none⟩) n c) (.sl k rows)) {i c' : Nat} (hi : i ≤ n) (hc' : n - i ≤ c') : Rep w S (.slice (some ⟨b, off + i * k, none⟩) (n - i) c') (.sl k (rows.drop i)) := by
  have hn := h.slen
  cases h with
  | nil =>
    obtain rfl : i = 0 := by omega
    exact .nil
  | sl u hb hS hc hk hl hcell hrep =>
    have hlen : (rows.drop i).length = rows.length - i := by rw [List.length_drop]
    have hx := Rep.sl (rows := rows.drop i) (cap := c') (off := off + i * k) (fun p j => u (p + i) j) hb hS (by rw [hlen]; omega) hk (fun row hr => hl row (List.mem_of_mem_drop hr)) (fun p j hp hj => by
      have h1 := hcell (p + i) j (by rw [hlen] at hp; omega) hj
      rw [show off + i * k + (p * k + j) = off + ((p + i) * k + j) by rw [Nat.add_mul]; omega]
      exact h1) (fun p j row d hp hj => hrep (p + i) j row d (by
      rw [List.getElem?_drop] at hp
      rwa [Nat.add_comm]) hj)
    rwa [hlen] at hx

theorem hit {k : Int} : ∀ {L : List MsgT} {i : Nat} {x : MsgT}, L[i]? = some x → x.seq = k → (∀ m ∈ L.take i, m.seq ≠ k) → kept L k = some x ∧ L.take i ++ L.drop (i + 1) = dropK L k
  | [], i, x, h, _, _ => by simp at h
  | m :: L, 0, x, h, hs, _ => by
    simp only [List.getElem?_cons_zero, Option.some.injEq] at h
    subst h
    simp [kept, dropK, hs]
  | m :: L, i + 1, x, h, hs, hn => by
    have hm : m.seq ≠ k := hn m (by simp)
    obtain ⟨h1, h2⟩ := hit (by simpa using h) hs fun y hy => hn y (by simp [hy])
    refine ⟨by simpa [kept, hm] using h1, ?_⟩
    simp only [List.take_succ_cons, List.drop_succ_cons, List.cons_append, h2]
    simp [dropK, hm]
theorem take_no {k : Int} {L : List MsgT} {i : Int} {x : MsgT} (hi : 0 ≤ i) (hx : L[i.toNat]? = some x) (hs : x.seq ≠ k) (hn : ∀ m ∈ L.take i.toNat, m.seq ≠ k) : ∀ m ∈ L.take (i + 1).toNat, m.seq ≠ k := by
  intro m hm
  rw [← take_snoc hi hx, List.mem_append, List.mem_singleton] at hm
  rcases hm with hm | rfl
  · exact hn m hm
  · exact hs
def hasSeq (L : List MsgT) (k : Int) : Bool := L.any fun m => m.seq == k
theorem hasSeq_nil (k : Int) : hasSeq [] k = false := rfl
theorem hasSeq_snoc {L : List MsgT} {m : MsgT} {k : Int} : hasSeq (L ++ [m]) k = (hasSeq L k || m.seq == k) := by simp [hasSeq]
theorem hasSeq_none {L : List MsgT} {k : Int} (h : hasSeq L k = false) : kept L k = none := by
  rw [kept_none]
  intro m hm he
  have : hasSeq L k = true := List.any_eq_true.2 ⟨m, hm, by simpa using he⟩
  rw [h] at this
  cases this
theorem hasSeq_some {L : List MsgT} {k : Int} (h : hasSeq L k = true) : ∃ m, kept L k = some m := by
  obtain ⟨m, hm, he⟩ := List.any_eq_true.1 h
  cases hk : kept L k with
  | some x => exact ⟨x, rfl⟩
  | none => exact absurd (by simpa using he) (kept_none.1 hk m hm)
end Go.Sx
