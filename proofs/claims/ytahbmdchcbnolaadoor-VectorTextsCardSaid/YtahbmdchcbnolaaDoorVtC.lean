/- vector.Read as a contract. -/
import Derived.Test.YtahbmdchcbnolaaDoorVtO
import Derived.Test.YtahbmdchcbnolaaDoorVtR
import Derived.Lib.AtoiAllCases
import Derived.Lib.AtoiErrMem
import Derived.Test.YtahbmdchcbnolaaDoorTx9
import Derived.Test.YtahbmdchcbnolaaDoorMz
namespace Go.Proofs.YtahbmdchcbnolaaDoor
open Go Go.Sx Go.RowKit

set_option maxHeartbeats 4000000 in
theorem row_rep {W : World} {base : Nat} {v : Value} {xs : List Int} {S : Nat → Prop} (h : W.ownsRow base 3 1 v xs.length (xs.map (Value.int .i64))) (hS : ∀ b, base ≤ b → S b) : ∃ a c, v = .slice a xs.length c ∧ Rep W S v (dInts xs) := by
  rcases h.2 with ⟨rfl, hn⟩ | ⟨g, cap, cur, rfl, hg, hb, hn, hc, hsz, htk⟩
  · have : xs = [] := List.eq_nil_of_length_eq_zero hn
    subst this
    exact ⟨none, 0, rfl, .nil⟩
  · refine ⟨_, _, rfl, ?_⟩
    have hlen : xs.length = (xs.map eI).length := by simp
    rw [show dInts xs = .sl 1 (xs.map eI) from rfl, hlen]
    refine .sl (u := fun i _ => cur[i]?.getD .nilIface) hb (hS g hg) (by rw [← hlen]; exact hn) (by decide) (fun row hr => ?_) (fun i j hi hj => ?_) (fun i j row d hr hd => ?_)
    · obtain ⟨x, _, rfl⟩ := List.mem_map.1 hr
      rfl
    · have : j = 0 := by omega
      subst this
      rw [← hlen] at hi
      have : i < cur.size := by omega
      simp [Array.getElem?_eq_getElem this]
    · rw [List.getElem?_map] at hr
      obtain ⟨x, hx, rfl⟩ := Option.map_eq_some_iff.1 hr
      have : j = 0 := by
        cases j with
        | zero => rfl
        | succ j => simp at hd
      subst this
      simp only [List.getElem?_cons_zero, Option.some.injEq] at hd
      subst hd
      have hi := (List.getElem?_eq_some_iff.1 hx).1
      have h1 : (cur.toList.take (xs.length * 1))[i]? = some (.int .i64 x) := by rw [htk, List.getElem?_map, hx]; rfl
      rw [List.getElem?_take, if_pos (by omega), Array.getElem?_toList] at h1
      simp only [h1, Option.getD_some]
      exact .v rfl
set_option maxHeartbeats 4000000 in
theorem below_bytes {w w' : World} (h : w' = w ∨ ∃ t, w' = Lib.bytesWorld w 5 t) : Below w.heap.size w w' := by
  rcases h with rfl | ⟨t, rfl⟩
  · exact .refl _ _
  · exact Lib.bytesWorld_below w 5 t
set_option maxHeartbeats 4000000 in
theorem vread {w : World} {S : Nat → Prop} {er : Nat → Addr} {eb : Nat → Array Value × TypeId} {o : Obj} {e1 e2 : Value} {s : ByteArray} (hC : Rep w S .nilIface (dC er eb)) (hT : Rep w S .nilIface (dT o e1 e2)) (ho : TabO o e1 e2) (hsz : s.size ≤ 1000000) :
    Calls Tryd.prog 9 #[.string s] w fun e w' =>
      (readR s = none ∧ Ret [] (zero w) S w' e (.tuple #[.slice none 0 0, .iface 135 (.pointer (some (er 1)))]) [] []) ∨
      (∃ xs a n c, readR s = some xs ∧ Ret [] (zero w) S w' e (.tuple #[.slice a n c, .nilIface]) [] [(.slice a n c, dInts xs)]) := by
  have hTW : ∀ W, Below w.heap.size w W → Rep W (fun _ => True) .nilIface (dT o e1 e2) := fun W hB => hT.mono fun b _ hl => ⟨trivial, hB.block b hl⟩
  have hCW : ∀ W, Below w.heap.size w W → Rep W (fun _ => True) .nilIface (dC er eb) := fun W hB => hC.mono fun b _ hl => ⟨trivial, hB.block b hl⟩
  have hE := var_of (hC.part _ (List.mem_of_getElem? (i := 0) rfl))
  have h00 : 0 < w.heap.size := by
    refine Nat.lt_of_not_le fun h => ?_
    have : w.heap.size = 0 := by omega
    have hn : w.heap[0]? = none := by simp [this]
    simp [World.cell?, hn] at hE
  refine (callsIn_wide.1 (read_in w s hsz (.iface 135 (.pointer (some (er 1)))) ⟨_, rfl⟩ (fun s w => Tryd.strings_Index_one s 46 w) (fun t W hB ht => ?_) (fun n W hB h0 h1 => ?_) (fun base v xs W hB hr hl => ?_) hE h00)).mono fun e W' ⟨v, hv, hB⟩ => ?_
  · cases ha : Lib.atoiAll t.data.toList
    · rename_i n
      exact (Tryd.strconv_Atoi_ok t (by omega) n ha W).mono fun e W' ⟨he, hw⟩ => ⟨n, .nilIface, he, .inl ⟨rfl, rfl, (Lib.atoiAll_bounds ha).1, (Lib.atoiAll_bounds ha).2⟩, below_bytes hw⟩
    · exact (Any.strconv_Atoi_syntax Tryd.laysC172 t (by omega) ha e1 W (var_of ((hTW W hB).part _ (List.mem_of_getElem? (i := 1) rfl))) (.inr ho.one)).mono fun e W' ⟨N, he, _, _, hw⟩ => ⟨_, _, he, .inr ⟨⟨_, _, rfl⟩, fun m h => by cases h⟩, hw⟩
    · exact (Tryd.strconv_Atoi_range t (by omega) ha e2 W (var_of ((hTW W hB).part _ (List.mem_of_getElem? (i := 2) rfl))) (.inr ho.two)).mono fun e W' ⟨N, he, _, _, hw⟩ => ⟨_, _, he, .inr ⟨⟨_, _, rfl⟩, fun m h => by cases h⟩, hw⟩
  · exact (itoaW (hTW W hB) ho h0 h1).mono fun e W' h => ⟨h.ret, h.fr.below⟩
  · obtain ⟨a, c, rfl, hrep⟩ := row_rep (S := fun _ => True) hr fun _ _ => trivial
    refine (vcheck (globs_of (hCW W hB)) hrep (by omega)).mono fun e W' ⟨u, h, hu⟩ => ⟨u, h.ret, ?_, h.fr.below⟩
    rcases hu with ⟨h1, rfl⟩ | ⟨h1, rfl⟩
    · exact .inl ⟨rfl, h1⟩
    · exact .inr ⟨⟨_, _, rfl⟩, h1⟩
  · have hfr : Fr [] (zero w) W' := ⟨hB.os, hB.tape, hB.output, hB.size, fun b hb _ => hB.block b hb, Nat.zero_le _⟩
    rcases hv with ⟨he, hn⟩ | ⟨xs, he, hx, hrow⟩
    · exact .inl ⟨hn, he, hfr, [], trivial, by simp, by simp, by simp⟩
    · obtain ⟨a, c, rfl, hrep⟩ := row_rep (S := retS S [] (zero w) []) hrow fun b hb => ⟨.inr (.inr hb), by simp⟩
      refine .inr ⟨xs, a, _, c, hx, he, hfr, [], trivial, by simp, by simp, fun x hxm => ?_⟩
      rw [List.mem_singleton] at hxm
      subst hxm
      exact hrep
end Go.Proofs.YtahbmdchcbnolaaDoor
