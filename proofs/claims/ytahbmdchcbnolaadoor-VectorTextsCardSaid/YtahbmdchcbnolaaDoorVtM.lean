/- The plain law of texts, second half. -/
import Derived.Test.YtahbmdchcbnolaaDoorVtL
import Derived.Test.YtahbmdchcbnolaaDoorMz
namespace Go.Proofs.YtahbmdchcbnolaaDoor
open Go Go.Sx

/-- The piece begun: a numeral of d digits, or nothing yet. -/
def StQ (q : List UInt8) (n d : Int) : Prop := (q = [] ∧ n = 0 ∧ d = 0) ∨ (0 ≤ n ∧ q = Lib.decDigits n.toNat ∧ d = q.length ∧ d ≤ 14)
theorem StQ.dig {q : List UInt8} {n d : Int} (h : StQ q n d) : ∀ b ∈ q, isDig b := by
  rcases h with ⟨rfl, _⟩ | ⟨_, rfl, _⟩
  · simp
  · exact dec_dig _
theorem dig_no46 {q : List UInt8} (h : ∀ b ∈ q, isDig b) : ∀ b ∈ q, b ≠ 46 := fun b hb he => by
  have := (h b hb).1
  subst he
  exact absurd this (by decide)
theorem StQ.step {q : List UInt8} {n d : Int} {b : UInt8} (h : StQ q n d) (hb : isDig b) (hok : ¬ ((0 < d ∧ n = 0) ∨ 13 < d)) : StQ (q ++ [b]) (10 * n + ((b.toNat : Int) - 48)) (d + 1) := by
  have h1 := hb.1
  have h2 := hb.2
  right
  rcases h with ⟨rfl, rfl, rfl⟩ | ⟨h0, hq, hd, hd2⟩
  · refine ⟨by omega, ?_, by simp, by omega⟩
    rw [show (10 * 0 + ((b.toNat : Int) - 48)).toNat = b.toNat - 48 by omega, Lib.decDigits_one (by omega), ofNat_dig hb]
    rfl
  · have hl : 0 < q.length := by
      rw [hq]
      exact List.length_pos_iff.2 (dec_ne _)
    refine ⟨by omega, ?_, by simp; omega, by omega⟩
    obtain ⟨m, rfl⟩ : ∃ m : Nat, n = m := ⟨n.toNat, by omega⟩
    have hu : (10 * (m : Int) + ((b.toNat : Int) - 48)).toNat = 10 * m + (b.toNat - 48) := by omega
    rw [hu, decDigits_step (by omega), show (10 * m + (b.toNat - 48)) / 10 = m by omega, show (10 * m + (b.toNat - 48)) % 10 = b.toNat - 48 by omega, ofNat_dig hb, hq]
    simp
/-- The first piece begins with what has no sign in it. -/
theorem cutL_pre {c : UInt8} : ∀ {q : List UInt8} (l : List UInt8), (∀ b ∈ q, b ≠ c) → ∃ h r, cutL c (q ++ l) = (q ++ h) :: r
  | [], l, _ => by
    obtain ⟨h, r, e⟩ := List.exists_cons_of_ne_nil (cutL_ne c l)
    exact ⟨h, r, by simpa using e⟩
  | b :: q, l, hq => by
    obtain ⟨h, r, e⟩ := cutL_pre (q := q) l fun x hx => hq x (List.mem_cons_of_mem _ hx)
    refine ⟨h, r, ?_⟩
    rw [List.cons_append, cutL, if_neg (hq b (List.mem_cons_self ..)), e]
    rfl
theorem cutL_at {c : UInt8} {q : List UInt8} (l : List UInt8) (hq : ∀ b ∈ q, b ≠ c) : cutL c (q ++ c :: l) = q :: cutL c l := by
  induction q with
  | nil => rw [List.nil_append, cutL, if_pos rfl]
  | cons b q ih =>
    rw [List.cons_append, cutL, if_neg (hq b (List.mem_cons_self ..)), ih fun x hx => hq x (List.mem_cons_of_mem _ hx)]
theorem is46 {b : UInt8} (h : ¬ b.toNat ≠ 46) : b = 46 := UInt8.toNat_inj.1 (Decidable.not_not.1 h)
theorem vof_some : ∀ (l q : List UInt8) (n d : Int) (out ys : List Int), StQ q n d → vofL l n d out = some ys → ∃ ms : List Nat, cutL 46 (q ++ l) = ms.map Lib.decDigits ∧ (∀ m ∈ ms, m < 1000000000000000) ∧ ys = out ++ ms.map (fun (m : Nat) => (m : Int))
  | [], q, n, d, out, ys, hs, h => by
    rw [vofL] at h
    split at h
    · cases h
    · rename_i hd
      cases h
      rcases hs with ⟨_, _, h⟩ | ⟨h0, hq, h1, h2⟩
      · exact absurd h hd
      · refine ⟨[n.toNat], ?_, ?_, ?_⟩
        · rw [List.append_nil, cutL_none (dig_no46 (StQ.dig (.inr ⟨h0, hq, h1, h2⟩))), hq]
          rfl
        · intro m hm
          rw [List.mem_singleton] at hm
          subst hm
          have h3 := Lib.lt_pow_nDigits n.toNat
          rw [← Lib.decDigits_length, ← hq] at h3
          refine Nat.lt_of_lt_of_le h3 ?_
          exact Nat.le_trans (Nat.pow_le_pow_right (by decide) (by omega : q.length ≤ 14)) (by decide)
        · simp
          omega
  | b :: l, q, n, d, out, ys, hs, h => by
    rw [vofL] at h
    split at h
    · rename_i hb
      split at h
      · cases h
      · rename_i hok
        have := vof_some l (q ++ [b]) _ _ out ys (hs.step hb hok) h
        rwa [List.append_assoc, List.singleton_append] at this
    · split at h
      · cases h
      · rename_i hb h2
        have h46 : b = 46 := is46 fun h => h2 (.inl h)
        subst h46
        obtain ⟨ms, h3, h4, h5⟩ := vof_some l [] 0 0 _ ys (.inl ⟨rfl, rfl, rfl⟩) h
        rcases hs with ⟨_, _, h⟩ | ⟨h0, hq, h1, h6⟩
        · exact absurd (.inr h) h2
        · refine ⟨n.toNat :: ms, ?_, ?_, ?_⟩
          · rw [cutL_at l (dig_no46 (StQ.dig (.inr ⟨h0, hq, h1, h6⟩))), List.map_cons, ← hq, ← h3, List.nil_append]
          · intro m hm
            rcases List.mem_cons.1 hm with rfl | hm
            · have h3 := Lib.lt_pow_nDigits n.toNat
              rw [← Lib.decDigits_length, ← hq] at h3
              refine Nat.lt_of_lt_of_le h3 ?_
              exact Nat.le_trans (Nat.pow_le_pow_right (by decide) (by omega : q.length ≤ 14)) (by decide)
            · exact h4 m hm
          · rw [h5, List.append_assoc]
            simp
            omega
theorem vof_none : ∀ (l q : List UInt8) (n d : Int) (out : List Int), StQ q n d → vofL l n d out = none → ∃ p ∈ cutL 46 (q ++ l), ∀ m, m ≤ 1099511627776 → p ≠ Lib.decDigits m
  | [], q, n, d, out, hs, h => by
    rw [vofL] at h
    split at h
    · rename_i hd
      rcases hs with ⟨rfl, _, _⟩ | ⟨_, hq, h1, _⟩
      · exact ⟨[], by simp [cutL], fun m _ he => dec_ne m he.symm⟩
      · have : q.length = 0 := by omega
        rw [hq] at this
        exact absurd (List.eq_nil_of_length_eq_zero this) (dec_ne _)
    · cases h
  | b :: l, q, n, d, out, hs, h => by
    rw [vofL] at h
    split at h
    · rename_i hb
      have hq2 : ∀ x ∈ q ++ [b], x ≠ 46 := dig_no46 fun x hx => by
        rcases List.mem_append.1 hx with hx | hx
        · exact hs.dig x hx
        · rw [List.mem_singleton] at hx
          subst hx
          exact hb
      obtain ⟨hh, r, e⟩ := cutL_pre l hq2
      rw [List.append_assoc, List.singleton_append] at e
      split at h
      · rename_i hbad
        refine ⟨_, by rw [e]; exact List.mem_cons_self .., fun m hm he => ?_⟩
        have hlen := congrArg List.length he
        have h13 := dec_short hm
        simp only [List.length_append, List.length_singleton] at hlen
        rcases hs with ⟨_, h1, h2⟩ | ⟨h0, hq, h1, h2⟩
        · omega
        · rcases hbad with ⟨h3, rfl⟩ | h3
          · have hq1 : q = [48] := by
              rw [hq]
              exact Lib.decDigits_one (i := 0) (by decide)
            have hm0 : m = 0 := dec_head m (by rw [← he, hq1]; rfl)
            subst hm0
            rw [hq1, Lib.decDigits_one (by decide)] at he
            simp at he
          · omega
      · rename_i hok
        have := vof_none l (q ++ [b]) _ _ out (hs.step hb hok) h
        rwa [List.append_assoc, List.singleton_append] at this
    · rename_i hnb
      split at h
      · rename_i h2
        by_cases h46 : b = 46
        · subst h46
          have hd : d = 0 := by
            rcases h2 with h2 | h2
            · exact absurd rfl h2
            · exact h2
          rcases hs with ⟨rfl, _, _⟩ | ⟨_, hq, h1, _⟩
          · exact ⟨[], by simp [cutL], fun m _ he => dec_ne m he.symm⟩
          · have : q.length = 0 := by omega
            rw [hq] at this
            exact absurd (List.eq_nil_of_length_eq_zero this) (dec_ne _)
        · have hq2 : ∀ x ∈ q ++ [b], x ≠ 46 := fun x hx => by
            rcases List.mem_append.1 hx with hx | hx
            · exact dig_no46 hs.dig x hx
            · rw [List.mem_singleton] at hx
              subst hx
              exact h46
          obtain ⟨hh, r, e⟩ := cutL_pre l hq2
          rw [List.append_assoc, List.singleton_append] at e
          refine ⟨_, by rw [e]; exact List.mem_cons_self .., fun m hm he => hnb (dec_dig m b ?_)⟩
          rw [← he]
          simp
      · rename_i h2
        have h46 : b = 46 := is46 fun h => h2 (.inl h)
        subst h46
        obtain ⟨p, h3, h4⟩ := vof_none l [] 0 0 _ (.inl ⟨rfl, rfl, rfl⟩) h
        exact ⟨p, by rw [cutL_at l (dig_no46 hs.dig)]; exact List.mem_cons_of_mem _ h3, h4⟩

theorem mapM_dec : ∀ {ms : List Nat}, (∀ m ∈ ms, m < 1000000000000000) → numsOf ((ms.map Lib.decDigits).map toB) = some (ms.map (fun (m : Nat) => (m : Int)))
  | [], _ => rfl
  | m :: ms, h => by
    have h1 := numOf_dec (h m (List.mem_cons_self ..))
    have h2 := mapM_dec fun x hx => h x (List.mem_cons_of_mem _ hx)
    rw [numsOf] at h2 ⊢
    rw [List.map_cons, List.map_cons, List.map_cons, List.mapM_cons, h1, h2]
    rfl
theorem nums_mem {l : List ByteArray} {ys : List Int} {p : ByteArray} (h : numsOf l = some ys) (hp : p ∈ l) : ∃ y ∈ ys, numOf p = some y := by
  induction l generalizing ys with
  | nil => cases hp
  | cons x l ih =>
    rw [numsOf] at h
    simp only [List.mapM_cons, Option.pure_def, Option.bind_eq_bind, Option.bind_eq_some_iff] at h
    obtain ⟨y, hy, zs, hz, e⟩ := h
    cases e
    rcases List.mem_cons.1 hp with rfl | hp
    · exact ⟨y, List.mem_cons_self .., hy⟩
    · obtain ⟨u, hu, h2⟩ := ih hz hp
      exact ⟨u, List.mem_cons_of_mem _ hu, h2⟩
/-- What Read takes off a text is what the document takes off it. -/
theorem read_vof (s : ByteArray) : readR s = match vofL s.data.toList 0 0 [] with
    | some ys => if vecErr ys = 0 then some ys else none
    | none => none := by
  cases h : vofL s.data.toList 0 0 [] with
  | some ys =>
    obtain ⟨ms, h1, h2, rfl⟩ := vof_some s.data.toList [] 0 0 [] ys (.inl ⟨rfl, rfl, rfl⟩) h
    rw [List.nil_append] at h1
    have h3 := mapM_dec h2
    rw [← h1] at h3
    rw [readR, pieces, h3]
    simp only [List.nil_append]
    by_cases h4 : vecErr (ms.map fun (m : Nat) => (m : Int)) = 0
    · have h5 := vecErr_len h4
      rw [if_pos ⟨by omega, h4⟩, if_pos h4]
    · rw [if_neg fun h => h4 h.2, if_neg h4]
  | none =>
    obtain ⟨p, hp, h1⟩ := vof_none s.data.toList [] 0 0 [] (.inl ⟨rfl, rfl, rfl⟩) h
    rw [List.nil_append] at hp
    rw [readR]
    cases h2 : numsOf (pieces 46 s) with
    | none => rfl
    | some ys =>
      obtain ⟨y, hy, h3⟩ := nums_mem h2 (p := toB p) (List.mem_map.2 ⟨p, hp, rfl⟩)
      refine if_neg fun h4 => ?_
      obtain ⟨h5, h6⟩ := vecErr_in h4.2 y hy
      exact h1 y.toNat (by omega) (numOf_some h3 h5)
/-- What Text makes is read back. -/
theorem read_text {xs : List Int} (h : vecErr xs = 0) : readR (textB xs) = some xs := by
  have h6 := vecErr_len h
  have hin := vecErr_in h
  obtain ⟨ms, rfl⟩ : ∃ ms : List Nat, xs = ms.map (fun (m : Nat) => (m : Int)) := ⟨xs.map Int.toNat, by
    rw [List.map_map]
    refine (List.map_id _).symm.trans (List.map_congr_left fun x hx => ?_)
    have := (hin x hx).1
    simp
    omega⟩
  have hms : ∀ m ∈ ms, m < 1000000000000000 := fun m hm => by
    have := (hin m (List.mem_map.2 ⟨m, hm, rfl⟩)).2
    omega
  have hcut : ∀ {l : List Nat}, l ≠ [] → cutL 46 (joinB (txts (l.map fun (m : Nat) => (m : Int)))) = l.map Lib.decDigits := by
    intro l
    induction l with
    | nil => intro h; exact absurd rfl h
    | cons m l ih =>
      intro _
      have hd := dig_no46 (dec_dig m)
      cases l with
      | nil =>
        simp only [txts, List.map_cons, List.map_nil, joinB, List.flatMap_nil, List.append_nil, decB, Int.toNat_natCast, List.toList_toArray]
        exact cutL_none hd
      | cons k l =>
        have ih2 := ih (by simp)
        have e : joinB (txts ((m :: k :: l).map fun (m : Nat) => (m : Int))) = Lib.decDigits m ++ 46 :: joinB (txts ((k :: l).map fun (m : Nat) => (m : Int))) := by
          simp [txts, joinB, decB]
        rw [e, cutL_at _ hd, ih2]
        rfl
  have hp : pieces 46 (textB (ms.map fun (m : Nat) => (m : Int))) = (ms.map Lib.decDigits).map toB := by
    rw [textB, joinB_eq, pieces]
    simp only [List.toList_toArray]
    rw [hcut fun h => ?_]
    subst h
    simp at h6
  rw [readR, hp, mapM_dec hms]
  exact if_pos ⟨by omega, h⟩
end Go.Proofs.YtahbmdchcbnolaaDoor
