/- slices.SortFunc over an owned row of elements of k cells. No program is named here: the library's own contract is a premise. -/
import Derived.Test.YtpjkiomccpjboaaGreatDoorTx16
import Derived.Shelf.SlSortCmp.InsertionK
namespace Go.Sx
open Go Go.Sort Go.Proofs

/-- Values that may stand for data: only their form counts. -/
def CellsOf (us : List Value) (ds : List D) : Prop := us.length = ds.length ∧ ∀ (j : Nat) u d, us[j]? = some u → ds[j]? = some d → ∃ w S, Rep w S u d
theorem CellsOf.plain {us : List Value} {ds : List D} (h : CellsOf us ds) {j : Nat} {v : Value} (hd : ds[j]? = some (.v v)) : us[j]? = some v := by
  have hj : j < us.length := by rw [h.1]; exact (List.getElem?_eq_some_iff.1 hd).1
  obtain ⟨w, S, hr⟩ := h.2 j _ _ (List.getElem?_eq_getElem hj) hd
  rw [List.getElem?_eq_getElem hj, hr.plain]
theorem CellsOf.one {us : List Value} {ds : List D} (h : CellsOf us ds) {j : Nat} {d : D} (hd : ds[j]? = some d) : ∃ u, us[j]? = some u ∧ u.oneCell' = true := by
  have hj : j < us.length := by rw [h.1]; exact (List.getElem?_eq_some_iff.1 hd).1
  obtain ⟨w, S, hr⟩ := h.2 j _ _ (List.getElem?_eq_getElem hj) hd
  exact ⟨_, List.getElem?_eq_getElem hj, hr.one⟩

/-- The library's contract, at elements of k cells. -/
def SortsK (P : Program) (fs k : Nat) : Prop := ∀ {α : Type} [Inhabited α] (enc : α → List Value) (_ : ∀ x, (enc x).length = k) (_ : ∀ x, ∀ v ∈ enc x, v.oneCell' = true) (cf : α → α → Int) (_ : SWO (ltOf cf)) (g : Nat) (cb : Array Value) (blk off cap : Nat) (d : Array α) (w : World)
    (_ : ∀ args w, (callFunc g args).run P w = .ok (.enter g args) w) (_ : CmpLays P g cb enc k cf blk off d.size w) (_ : HoldsK enc k w blk off d) (_ : blk < w.heap.size) (_ : d.size < 4611686018427387904) (_ : ∀ x y, (ltOf cf) x y = false → (ltOf cf) y x = false → x = y),
    Calls P fs #[.slice (some ⟨blk, off, none⟩) d.size cap, .func (.func g) #[] cb] w fun e w' =>
      e = .returned (.tuple #[]) ∧ ∃ n os, w' = sortWorldK enc k w blk off n (d.toList.mergeSort fun x y => !(ltOf cf) y x).toArray os
def SortsNone (P : Program) (fs : Nat) : Prop := ∀ (p : Option Addr) (cap : Nat) (fv : Value) (w : World), Calls P fs #[.slice p 0 cap, fv] w fun e w' => e = .returned (.tuple #[]) ∧ w' = w

theorem fr_grown {W w' : World} (h : Fr [] W w') : ∃ q os', w' = grow (W.drewN q) os' := by
  refine ⟨w'.drawn - W.drawn, w'.heap.extract W.heap.size w'.heap.size, ?_⟩
  have hh : w'.heap = W.heap ++ w'.heap.extract W.heap.size w'.heap.size := by
    apply Array.ext_getElem?
    intro j
    rw [Array.getElem?_append]
    split
    · rename_i hj
      exact h.block j hj (by simp)
    · rename_i hj
      rw [Array.getElem?_extract]
      by_cases hj2 : j < w'.heap.size
      · rw [if_pos (by omega)]
        congr 1
        omega
      · rw [if_neg (by omega), Array.getElem?_eq_none (by omega)]
  have h1 := h.os
  have h2 := h.tape
  have h3 := h.output
  have h4 := h.drawn
  obtain ⟨hp, tp, dr, os, out⟩ := w'
  simp only [grow, World.drewN] at *
  subst h1 h2 h3
  rw [← hh]
  congr 1
  omega

theorem cseg_at {xs : List Value} {n k i j : Nat} (hl : xs.length = n * k) (hi : i < n) (hj : j < k) : ((xs.drop (i * k)).take k)[j]? = xs[i * k + j]? := by
  rw [List.getElem?_take, if_pos hj, List.getElem?_drop]
theorem cseg_len {xs : List Value} {n k i : Nat} (hl : xs.length = n * k) (hi : i < n) : ((xs.drop (i * k)).take k).length = k := by
  rw [List.length_take, List.length_drop, hl]
  have : (i + 1) * k ≤ n * k := Nat.mul_le_mul_right k hi
  rw [Nat.add_mul, Nat.one_mul] at this
  omega

set_option maxHeartbeats 1000000 in
theorem sortAcc {P : Program} {fs k : Nat} (hS : SortsK P fs k) (hN : SortsNone P fs) {w : World} {S : Nat → Prop} {M : List Nat} {a : Option Addr} {n c e : Nat} {β : Type} {l : List β} {enc : β → List D} (CF : β → β → Int) (g : Nat) (cb : Array Value)
    (hP : Pre w S M [cAcc (.slice a n c) e k (l.map enc)]) (hsz : l.length < 4611686018427387904)
    (eg : ∀ args w, (callFunc g args).run P w = .ok (.enter g args) w)
    (hcmp : ∀ x y, x ∈ l → y ∈ l → ∀ (us vs : List Value) (W : World), CellsOf us (enc x) → CellsOf vs (enc y) → Calls P g (#[.agg us.toArray, .agg vs.toArray] ++ cb) W fun e w' => Ret [] W (fun _ => True) w' e (.int .i64 (CF x y)) [] [])
    (hirr : ∀ x, x ∈ l → ¬ CF x x < 0) (htr : ∀ x y z, x ∈ l → y ∈ l → z ∈ l → CF x y < 0 → CF y z < 0 → CF x z < 0) (htot : ∀ (i j : Nat) x y, i ≠ j → l[i]? = some x → l[j]? = some y → CF x y < 0 ∨ CF y x < 0) :
    Calls P fs #[.slice a n c, .func (.func g) #[] cb] w fun e' w' => Ret M w S w' e' (.tuple #[]) [cAcc (.slice a n c) e k ((l.mergeSort fun x y => !decide (CF y x < 0)).map enc)] [] := by
  obtain ⟨fps, hch, rfl, hnd, hM⟩ := hP
  match fps, hch with
  | [fp], ⟨hc, _⟩ =>
    have hnil : l = [] → n = 0 → Calls P fs #[.slice a n c, .func (.func g) #[] cb] w fun e' w' => Ret [fp].flatten w S w' e' (.tuple #[]) [cAcc (.slice a n c) e k ((l.mergeSort fun x y => !decide (CF y x < 0)).map enc)] [] := by
      intro h0 h1
      subst h0 h1
      refine (hN a c _ w).mono ?_
      rintro e' w' ⟨he, rfl⟩
      refine ⟨he, Fr.refl _ _, [fp], ⟨?_, trivial⟩, hnd, fun b hb => ⟨.inl hb, (hM b hb).1⟩, by simp⟩
      simp only [List.mergeSort_nil, List.map_nil]
      exact (cAcc _ _ _ _).mono hc (fun _ _ => rfl) fun b hb _ => ⟨⟨.inl hb, fun hm => (hM b hm).2 hb⟩, rfl⟩
    obtain ⟨hk, hc⟩ := hc
    rcases hc with ⟨h1, h2, rfl⟩ | ⟨g0, cap, cur, xs, h2, rfl, h3, h4, h5⟩
    · cases h2
      exact hnil (List.map_eq_nil_iff.1 h1) rfl
    · cases h2
      rcases Nat.eq_zero_or_pos l.length with hl0 | hl0
      · exact hnil (List.eq_nil_of_length_eq_zero hl0) (by rw [List.length_map]; exact hl0)
      · have hlm : (l.map enc).length = l.length := List.length_map ..
        have hxl : xs.length = l.length * k := by rw [h4.len, hlm]
        have hg0 : g0 < w.heap.size := (Array.getElem?_eq_some_iff.1 h3).1
        haveI : Inhabited (Fin l.length) := ⟨⟨0, hl0⟩⟩
        have hxone : ∀ u ∈ xs, u.oneCell' = true := h5.one (by rw [hlm]; exact hxl)
        let encV : Fin l.length → List Value := fun i => (xs.drop (i.1 * k)).take k
        let cf : Fin l.length → Fin l.length → Int := fun i j => CF l[i] l[j]
        have hcell : ∀ i : Fin l.length, CellsOf (encV i) (enc l[i]) := fun i => by
          have hrow : (enc l[i]).length = k := h5.len _ (List.mem_map.2 ⟨l[i], List.getElem_mem i.2, rfl⟩)
          refine ⟨by rw [cseg_len hxl i.2, hrow], fun j u d hu hd => ?_⟩
          have hjk : j < k := by rw [← hrow]; exact (List.getElem?_eq_some_iff.1 hd).1
          obtain ⟨u', h6, h7⟩ := h5.rep i.1 j _ d (by rw [List.getElem?_map, List.getElem?_eq_getElem i.2]; rfl) hd
          rw [cseg_at hxl i.2 hjk, h6] at hu
          cases hu
          exact ⟨_, _, h7⟩
        have hlt : ∀ i j, ltOf cf i j = true ↔ CF l[i] l[j] < 0 := fun i j => by simp [ltOf, cf]
        have hltf : ∀ i j, ltOf cf i j = false ↔ ¬ CF l[i] l[j] < 0 := fun i j => by simp [ltOf, cf]
        have htot2 : ∀ i j : Fin l.length, i ≠ j → CF l[i] l[j] < 0 ∨ CF l[j] l[i] < 0 := fun i j hij => htot i.1 j.1 _ _ (fun h => hij (Fin.ext h)) (List.getElem?_eq_getElem i.2) (List.getElem?_eq_getElem j.2)
        have hO : SWO (ltOf cf) := by
          refine ⟨fun x => (hltf x x).2 (hirr _ (List.getElem_mem x.2)), fun x y z hx hy => ?_, fun x y z hx hy => ?_⟩
          · exact (hlt x z).2 (htr _ l[y] _ (List.getElem_mem x.2) (List.getElem_mem y.2) (List.getElem_mem z.2) ((hlt x y).1 hx) ((hlt y z).1 hy))
          · rw [hltf] at hx hy ⊢
            intro hxz
            by_cases hxy : x = y
            · rw [hxy] at hxz
              exact hy hxz
            · rcases htot2 x y hxy with h | h
              · exact hx h
              · exact hy (htr _ l[x] _ (List.getElem_mem y.2) (List.getElem_mem x.2) (List.getElem_mem z.2) h hxz)
        have hT : ∀ x y, ltOf cf x y = false → ltOf cf y x = false → x = y := fun x y hx hy => by
          by_cases hxy : x = y
          · exact hxy
          · rw [hltf] at hx hy
            rcases htot2 x y hxy with h | h
            · exact absurd h hx
            · exact absurd h hy
        have hds : ((List.finRange l.length).toArray).size = l.length := by simp
        have hflat : ∀ (q : List (Fin l.length)), q.length = l.length → ∀ j, j < l.length * k → ∃ i : Fin l.length, q[j / k]? = some i ∧ (flatK encV k q.toArray)[j]! = xs[i.1 * k + j % k]! := fun q hq j hj => by
          have h1 : j / k < l.length := Nat.div_lt_of_lt_mul (by rw [Nat.mul_comm]; exact hj)
          refine ⟨q[j / k]'(by omega), List.getElem?_eq_getElem _, ?_⟩
          rw [get_flatK _ _ _ _ (by simpa [hq] using hj)]
          have e1 : (q.toArray[j / k]!) = q[j / k]'(by omega) := by
            rw [getElem!_pos _ _ (by simpa [hq] using h1)]
            simp
          rw [e1]
          have := cseg_at (xs := xs) hxl (q[j / k]'(by omega)).2 (Nat.mod_lt j hk)
          simp only [List.getElem!_eq_getElem?_getD]
          exact congrArg (fun o => o.getD default) this
        have hH : HoldsK encV k w g0 0 (List.finRange l.length).toArray := fun j hj => by
          have hj2 : j < l.length * k := by simpa using hj
          obtain ⟨i, hi, hv⟩ := hflat (List.finRange l.length) (by simp) j hj2
          have hi2 : i.1 = j / k := by
            have := (List.getElem?_eq_some_iff.1 hi).2
            rw [← this]; simp
          rw [hv, hi2, Nat.mul_comm, Nat.div_add_mod]
          refine ⟨?_, by simp [World.frozen?, h3]⟩
          have h6 := h4.at (j := j) (by rw [hlm]; exact hj2)
          rw [Nat.zero_add]
          simp only [World.cell?, h3, Option.isSome_none, id_eq, h6]
          have hjx : j < xs.length := by omega
          simp [List.getElem?_eq_getElem hjx, getElem!_pos xs j hjx]
        have hC : CmpLays P g cb encV k cf g0 0 (List.finRange l.length).toArray.size w := fun m os dk _ x y =>
          (hcmp l[x] l[y] (List.getElem_mem x.2) (List.getElem_mem y.2) (encV x) (encV y) _ (hcell x) (hcell y)).mono fun e' w' hR => ⟨hR.ret, fr_grown hR.fr⟩
        have hmain := hS encV (fun x => cseg_len hxl x.2) (fun x v hv => hxone v (List.mem_of_mem_drop (List.mem_of_mem_take hv))) cf hO g cb g0 0 c (List.finRange l.length).toArray w eg hC hH hg0 (by rw [hds]; exact hsz) hT
        rw [hds] at hmain
        rw [hlm]
        refine hmain.mono ?_
        rintro e' w' ⟨he, m, os, rfl⟩
        generalize hsrt : (((List.finRange l.length).toArray.toList.mergeSort fun x y => !(ltOf cf) y x)) = srt
        have hperm : srt.Perm (List.finRange l.length) := by rw [← hsrt]; simpa using List.mergeSort_perm _ _
        have hsl : srt.length = l.length := by rw [hperm.length_eq]; simp
        have hl' : (l.mergeSort fun x y => !decide (CF y x < 0)) = srt.map fun i => l[i.1]'i.2 := by
          rw [← hsrt]
          have e1 : l = (List.finRange l.length).map fun i => l[i.1]'i.2 := by
            apply List.ext_getElem
            · simp
            · intro i h1 h2; simp
          have := (List.map_mergeSort (r := fun x y => !(ltOf cf) y x) (s := fun x y => !decide (CF y x < 0)) (f := fun i : Fin l.length => l[i.1]'i.2) (l := List.finRange l.length) (fun i _ j _ => by simp [ltOf, cf]))
          simp only [List.toList_toArray] at this ⊢
          rw [this, ← e1]
        rw [hl']
        have hblk : (sortWorldK encV k w g0 0 m srt.toArray os).heap[g0]? = some (.cells (putCells id 0 (flatK encV k srt.toArray) cur) e (0, 0)) := by
          simp only [sortWorldK, grow, putRowK, putRow, mapBlock, ahead]
          rw [Array.getElem?_append, if_pos (by simpa using hg0), Array.getElem?_modify, if_pos rfl]
          show (w.heap[g0]?).map _ = _
          rw [h3]
          rfl
        have hfr : Fr [g0] w (sortWorldK encV k w g0 0 m srt.toArray os) := by
          refine ⟨rfl, rfl, rfl, by simp [sortWorldK, grow, putRowK, putRow, mapBlock, ahead], fun b hb hn => ?_, by simp [sortWorldK, grow, putRowK, putRow, mapBlock, ahead]⟩
          have hne : g0 ≠ b := fun h => hn (by simp [h])
          simp only [sortWorldK, grow, putRowK, putRow, mapBlock, ahead]
          rw [Array.getElem?_append, if_pos (by simpa using hb), Array.getElem?_modify, if_neg hne]
          rfl
        let xs' : List Value := (srt.map encV).flatten
        have hx'l : xs'.length = l.length * k := by
          have : ∀ q : List (Fin l.length), ((q.map encV).flatten).length = q.length * k := fun q => by
            induction q with
            | nil => simp
            | cons i q ih => simp only [List.map_cons, List.flatten_cons, List.length_append, ih, List.length_cons, Nat.succ_mul]; rw [cseg_len hxl i.2, Nat.add_comm]
          rw [this, hsl]
        have hx'at : ∀ (p j : Nat) (i : Fin l.length), srt[p]? = some i → j < k → xs'[p * k + j]? = xs[i.1 * k + j]? := fun p j i hi hj => by
          have h6 : (encV i).length = k := cseg_len hxl i.2
          have h7 := cseg_at (xs := xs) hxl i.2 hj
          have h8 : (encV i)[j]? = some ((encV i)[j]'(by omega)) := List.getElem?_eq_getElem _
          have h9 := flatten_at (k := k) (rows := srt.map encV) (fun row hr => by obtain ⟨i', _, rfl⟩ := List.mem_map.1 hr; exact cseg_len hxl i'.2) (i := p) (j := j) (row := encV i) (by rw [List.getElem?_map, hi]; rfl) h8
          rw [show xs'[p * k + j]? = _ from h9, ← h7]
          exact h8.symm
        have hrow : Row (putCells id 0 (flatK encV k srt.toArray) cur) c l.length k xs' := by
          have hcs := h4.siz
          refine ⟨hx'l, by simp [putCells, hcs], by rw [← hlm]; exact h4.le, h4.max, ?_⟩
          have hle : l.length * k ≤ cur.size := by rw [hcs]; exact Nat.mul_le_mul_right k (by rw [← hlm]; exact h4.le)
          apply List.ext_getElem?
          intro j
          rw [List.getElem?_take]
          by_cases hj : j < l.length * k
          · rw [if_pos hj]
            obtain ⟨i, hi, hv⟩ := hflat srt hsl j hj
            have h10 := hx'at (j / k) (j % k) i hi (Nat.mod_lt j hk)
            rw [Nat.mul_comm, Nat.div_add_mod] at h10
            rw [h10]
            have hix : i.1 * k + j % k < xs.length := by rw [hxl]; exact idx_lt i.2 (Nat.mod_lt j hk)
            have hjc : j < cur.size := by omega
            simp only [putCells, Array.getElem?_toList, Array.getElem?_mapIdx, Array.getElem?_eq_getElem hjc, Option.map_some, Nat.sub_zero, Nat.zero_add, id_eq]
            rw [if_pos ⟨Nat.zero_le _, by simpa [hsl] using hj⟩, hv, List.getElem?_eq_getElem hix, getElem!_pos xs _ hix]
          · rw [if_neg hj, List.getElem?_eq_none (by rw [hx'l]; omega)]
        have hSm : ∀ b, S b → b < w.heap.size → retS S [g0] w [[g0]] b ∧ (sortWorldK encV k w g0 0 m srt.toArray os).heap[b]? = w.heap[b]? := fun b hb hlt => by
          have hne : b ≠ g0 := fun h => (hM b (by simp [h])).2 hb
          exact ⟨⟨.inl hb, by simpa using hne⟩, hfr.block b hlt (by simpa using hne)⟩
        refine ⟨he, by simpa using hfr, [[g0]], ⟨⟨hk, .inr ⟨g0, c, _, xs', by simp [hsl], rfl, hblk, by simpa [hsl] using hrow, ?_⟩⟩, trivial⟩, by simp, fun b hb => ?_, by simp⟩
        · have hS2 : ∀ b, S b → b < w.heap.size → retS S ([g0] : List Nat) w [[g0]] b ∧ (sortWorldK encV k w g0 0 m srt.toArray os).heap[b]? = w.heap[b]? := hSm
          refine ⟨fun row hr => ?_, fun i j row d hi hj => ?_⟩
          · obtain ⟨x, hx, rfl⟩ := List.mem_map.1 hr
            obtain ⟨i, _, rfl⟩ := List.mem_map.1 hx
            exact h5.len _ (List.mem_map.2 ⟨_, List.getElem_mem i.2, rfl⟩)
          · rw [List.getElem?_map, List.getElem?_map] at hi
            obtain ⟨x, hx, rfl⟩ := Option.map_eq_some_iff.1 hi
            obtain ⟨i', hi', rfl⟩ := Option.map_eq_some_iff.1 hx
            have hjk : j < k := by
              rw [← h5.len _ (List.mem_map.2 ⟨_, List.getElem_mem i'.2, rfl⟩)]
              exact (List.getElem?_eq_some_iff.1 hj).1
            obtain ⟨u, h6, h7⟩ := h5.rep i'.1 j _ d (by rw [List.getElem?_map, List.getElem?_eq_getElem i'.2]; rfl) hj
            refine ⟨u, by rw [hx'at i j i' hi' hjk]; exact h6, h7.mono fun b hb hlt => ?_⟩
            simpa using hS2 b hb hlt
        · have hb' : b = g0 := by simpa using hb
          subst hb'
          exact ⟨.inl (by simp), Nat.lt_of_lt_of_le hg0 hfr.size⟩
  | [], h => exact h.elim
  | _ :: _ :: _, h => exact h.2.elim
end Go.Sx
