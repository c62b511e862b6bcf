/- What is wrong with commits; which dots have been seen. -/
import Derived.Test.YtpjkiomccpjboaaGreatDoorEqDot
import Derived.Test.YtpjkiomccpjboaaGreatDoorMsgT
import Derived.Test.YtpjkiomccpjboaaGreatDoorTx16
import Derived.Test.YtpjkiomccpjboaaGreatDoorBare
import Derived.Test.YtpjkiomccpjboaaGreatDoorCmpD
namespace Go.Proofs.YtpjkiomccpjboaaGreatDoor
open Go Go.Sx Go.MapKept

def okDot (v : Value) : Prop := ∃ a b c : Int, v = .agg #[.int .i64 a, .int .i64 b, .int .i64 c]
theorem sameBits_dot (n : Nat) (a b c : Int) : Instr.sameBits (n + 2) (.agg #[.int .i64 a, .int .i64 b, .int .i64 c]) (.agg #[.int .i64 a, .int .i64 b, .int .i64 c]) = true := by
  simp [Instr.sameBits]
theorem checkKey_dot (e : Bool) (n : Nat) (a b c : Int) (w : World) : (Instr.checkKey e (n + 2) 65 (.agg #[.int .i64 a, .int .i64 b, .int .i64 c])).run Tryz.prog w = .ok () w := by
  have hi : ∀ (x : Int) w, (Instr.checkKey e (n + 1) 3 (.int .i64 x)).run Tryz.prog w = .ok () w := fun x w => run_checkKey Tryz.underlying3 (by simp [IsKey]) e n
  rw [Instr.checkKey]
  simp [run_underlying Tryz.underlying65, hi, partI Tryz.underlying3, Result.andThen]
theorem keyOk_9 : KeyOk Tryz.prog 9 (IsKey .string) := .plain Tryz.underlying9
theorem keyOk_65 : KeyOk Tryz.prog 65 okDot := by
  refine .asking Tryz.underlying65 (fun x y _ _ => rfl) (fun e k hk w => ?_) (fun x y hx hy => ?_) fun k hk => ?_
  · obtain ⟨a, b, c, rfl⟩ := hk
    exact checkKey_dot e 9998 a b c w
  · obtain ⟨a, b, c, rfl⟩ := hx
    obtain ⟨a', b', c', rfl⟩ := hy
    refine ⟨decide (a = a' ∧ b = b' ∧ c = c'), fun w => eqDot 9998 a b c a' b' c' w, ?_⟩
    simp
  · obtain ⟨a, b, c, rfl⟩ := hk
    exact sameBits_dot 9998 a b c
end Go.Proofs.YtpjkiomccpjboaaGreatDoor
namespace Go.Proofs.YtpjkiomccpjboaaGreatDoor
open Go Go.Sx

def firstLen (l : List ComT) : Nat := match l with
  | [] => 0
  | c :: _ => c.when.length
def comErrAt (l : List ComT) (i : Nat) : Nat := match l[i]? with
  | none => 0
  | some c => if (comFault c).code ≠ 0 then (comFault c).code else if c.when.length ≠ firstLen l then 3 else 0
def scanF (f : Nat → Nat) : Nat → Nat → FT
  | 0, _ => ⟨0, -1⟩
  | n + 1, i => if f i = 0 then scanF f n (i + 1) else ⟨f i, i⟩
theorem scanF_from {f : Nat → Nat} : ∀ (n k i : Nat), k ≤ i → (∀ j, k ≤ j → j < i → f j = 0) → (i = k + n → scanF f n k = ⟨0, -1⟩) ∧ (i < k + n → f i ≠ 0 → scanF f n k = ⟨f i, i⟩)
  | 0, k, i, hk, _ => ⟨fun _ => rfl, fun h => by omega⟩
  | n + 1, k, i, hk, h => by
    rcases Nat.eq_or_lt_of_le hk with rfl | hlt
    · refine ⟨fun he => by omega, fun _ hne => ?_⟩
      rw [scanF, if_neg hne]
    · obtain ⟨h1, h2⟩ := scanF_from n (k + 1) i hlt fun j hj1 hj2 => h j (by omega) hj2
      rw [scanF, if_pos (h k (Nat.le_refl _) hlt)]
      exact ⟨fun he => h1 (by omega), fun he => h2 (by omega)⟩
def listFault (l : List ComT) : FT := scanF (comErrAt l) l.length 0
def valFault (key : ByteArray) (l : List ComT) : FT := if nameOk key = false then ⟨4, -1⟩ else listFault l
theorem listFault_at {l : List ComT} {i : Nat} {k : Nat} (h : ∀ j, j < i → comErrAt l j = 0) (hi : i < l.length) (hk : comErrAt l i = k) (h0 : k ≠ 0) : listFault l = ⟨k, i⟩ := by
  rw [listFault, (scanF_from l.length 0 i (Nat.zero_le _) fun j _ hj => h j hj).2 (by omega) (by rw [hk]; exact h0), hk]
theorem listFault_none {l : List ComT} (h : ∀ j, j < l.length → comErrAt l j = 0) : listFault l = ⟨0, -1⟩ :=
  (scanF_from l.length 0 l.length (Nat.zero_le _) fun j _ hj => h j hj).1 (by omega)
theorem listFault_zero {l : List ComT} (h : (listFault l).code = 0) : ∀ j, j < l.length → comErrAt l j = 0 := by
  intro j
  induction j using Nat.strongRecOn with
  | ind j ih =>
    intro hj
    rcases Nat.eq_zero_or_pos (comErrAt l j) with h0 | h0
    · exact h0
    · have := listFault_at (fun i hi => ih i hi (by omega)) hj rfl (by omega)
      rw [this] at h
      exact h
theorem comErrAt_own {l : List ComT} {i : Nat} {c : ComT} (h : l[i]? = some c) (he : (comFault c).code ≠ 0) : comErrAt l i = (comFault c).code := by
  simp only [comErrAt, h, if_pos he]
theorem comErrAt_len {l : List ComT} {i : Nat} {c : ComT} (h : l[i]? = some c) (he : (comFault c).code = 0) (hl : c.when.length ≠ firstLen l) : comErrAt l i = 3 := by
  simp only [comErrAt, h]
  rw [if_neg (by simp [he]), if_pos hl]
theorem comErrAt_fine {l : List ComT} {i : Nat} {c : ComT} (h : l[i]? = some c) (he : (comFault c).code = 0) (hl : c.when.length = firstLen l) : comErrAt l i = 0 := by
  simp only [comErrAt, h]
  rw [if_neg (by simp [he]), if_neg (by simp [hl])]
theorem comErrAt_zero {l : List ComT} {i : Nat} {c : ComT} (h : l[i]? = some c) (he : comErrAt l i = 0) : (comFault c).code = 0 ∧ c.when.length = firstLen l := by
  simp only [comErrAt, h] at he
  split at he
  · exact absurd he ‹_›
  · split at he
    · cases he
    · rename_i h1 h2
      exact ⟨by simpa using h1, by simpa using h2⟩
theorem vecErr_le (xs : List Int) : vecErr xs ≤ 12 := by
  unfold vecErr
  split
  · omega
  · split <;> omega
theorem comFault_code (c : ComT) : (comFault c).code ≤ 12 := by
  unfold comFault
  split
  · exact vecErr_le _
  · split
    · simp
    · split
      · simp
      · split
        · simp
        · exact opsFault_code _ _ _ _
theorem comErrAt_le (l : List ComT) (i : Nat) : comErrAt l i ≤ 12 := by
  unfold comErrAt
  split
  · omega
  · split
    · exact comFault_code _
    · split <;> omega
theorem scanF_code {f : Nat → Nat} (h : ∀ i, f i ≤ 12) : ∀ n k, (scanF f n k).code ≤ 12
  | 0, _ => by simp [scanF]
  | n + 1, k => by
    unfold scanF
    split
    · exact scanF_code h n (k + 1)
    · exact h k
theorem valFault_code (key : ByteArray) (l : List ComT) : (valFault key l).code ≤ 12 := by
  unfold valFault
  split
  · simp
  · exact scanF_code (comErrAt_le l) _ _
/-- A right commit. -/
structure Right (c : ComT) : Prop where
  vec : vecErr c.when = 0
  p0 : 0 ≤ c.place
  p1 : c.place < c.when.length
  t0 : c.when[c.place.toNat]? ≠ some 0
  o1 : 1 ≤ c.ops.length
  o2 : c.ops.length ≤ 12
  op : opsFault c.ops c.when.length c.ops.length 0 = comFault c
theorem right_of {c : ComT} (h : (comFault c).code = 0) : Right c := by
  have key : ∀ {n : Nat} {a : Int}, comFault c = ⟨n, a⟩ → n ≠ 0 → False := fun he h0 => by rw [he] at h; exact h0 h
  by_cases h1 : vecErr c.when ≠ 0
  · exact (key (by rw [comFault, if_pos h1]) h1).elim
  · by_cases h2 : c.place < 0 ∨ c.when.length ≤ c.place ∨ 12 < c.ops.length
    · exact (key (n := 2) (a := -1) (by rw [comFault, if_neg h1, if_pos h2]) (by decide)).elim
    · by_cases h3 : c.when[c.place.toNat]? = some 0
      · exact (key (n := 2) (a := -1) (by rw [comFault, if_neg h1, if_neg h2, if_pos h3]) (by decide)).elim
      · by_cases h4 : c.ops.length = 0
        · exact (key (n := 3) (a := -1) (by rw [comFault, if_neg h1, if_neg h2, if_neg h3, if_pos h4]) (by decide)).elim
        · exact ⟨by simpa using h1, by omega, by omega, h3, by omega, by omega, by rw [comFault, if_neg h1, if_neg h2, if_neg h3, if_neg h4]⟩
theorem rights {l : List ComT} {i : Nat} (h : ∀ j, j < i → comErrAt l j = 0) (hi : i ≤ l.length) : ∀ c ∈ l.take i, Right c := fun c hc => by
  obtain ⟨j, hj⟩ := List.getElem?_of_mem hc
  rw [List.getElem?_take] at hj
  split at hj
  · rename_i hji
    exact right_of (comErrAt_zero hj (h j hji)).1
  · cases hj
theorem allDone_len {l : List ComT} (h : ∀ c ∈ l, Right c) : (allDone l).length ≤ 12 * l.length := by
  induction l with
  | nil => simp [allDone]
  | cons c l ih =>
    have h1 := (h c (.head _)).o2
    have h2 := ih fun c hc => h c (.tail _ hc)
    simp only [allDone, List.flatMap_cons, List.length_append, List.length_map, List.length_cons] at h2 ⊢
    omega
theorem firsts_len (s : List DotT) (l : List DoneT) : (firsts s l).length ≤ l.length := by
  induction l generalizing s with
  | nil => simp [firsts]
  | cons x r ih =>
    unfold firsts
    split
    · have := ih s; simp; omega
    · have := ih (x.d :: s); simp; omega
theorem allDone_snoc {l : List ComT} {i : Int} {c : ComT} (hi : 0 ≤ i) (hc : l[i.toNat]? = some c) : allDone (l.take i.toNat) ++ c.ops.map (doneOf c) = allDone (l.take (i + 1).toNat) := by
  rw [← take_snoc hi hc]
  simp [allDone]
/-- The ops of a key among some. -/
def keyFirst (key : ByteArray) (p : List DoneT) : List DoneT := (firsts [] p).filter fun x => decide (x.o.key = key)
theorem keyFirst_len (key : ByteArray) (p : List DoneT) : (keyFirst key p).length ≤ p.length :=
  Nat.le_trans (List.length_filter_le _ _) (firsts_len _ _)
theorem keyFirst_snoc {key : ByteArray} {p : List DoneT} {x : DoneT} : keyFirst key (p ++ [x]) = keyFirst key p ++ if x.d ∉ p.map (·.d) ∧ x.o.key = key then [x] else [] := by
  unfold keyFirst
  rw [firsts_snoc, List.filter_append]
  congr 1
  by_cases h1 : x.d ∈ p.map (·.d)
  · simp [h1]
  · by_cases h2 : x.o.key = key
    · simp [h1, h2]
    · simp [h1, h2]
theorem keyFirst_nodup (key : ByteArray) (p : List DoneT) : ((keyFirst key p).map (·.d)).Nodup :=
  (List.filter_sublist.map _).nodup firsts_nodup

open Classical in
noncomputable def dotSet (ds : List DotT) : Value → Option Value := fun v => if ∃ d ∈ ds, v = .agg #[.int .i64 d.place, .int .i64 d.time, .int .i64 d.no] then some (.bool true) else none
theorem dotSet_in {ds : List DotT} {d : DotT} (h : d ∈ ds) : dotSet ds (.agg #[.int .i64 d.place, .int .i64 d.time, .int .i64 d.no]) = some (.bool true) := by
  rw [dotSet, if_pos ⟨d, h, rfl⟩]
theorem dotSet_out {ds : List DotT} {d : DotT} (h : d ∉ ds) : dotSet ds (.agg #[.int .i64 d.place, .int .i64 d.time, .int .i64 d.no]) = none := by
  rw [dotSet, if_neg]
  rintro ⟨d', h1, h2⟩
  apply h
  have : d = d' := by
    cases d; cases d'
    simp at h2
    simp [h2]
  rw [this]
  exact h1
theorem dotSet_snoc {ds : List DotT} {d : DotT} (v : Value) : fput (dotSet ds) (.agg #[.int .i64 d.place, .int .i64 d.time, .int .i64 d.no]) (.bool true) v = dotSet (ds ++ [d]) v := by
  unfold fput dotSet
  by_cases hv : v = .agg #[.int .i64 d.place, .int .i64 d.time, .int .i64 d.no]
  · rw [if_pos hv, if_pos ⟨d, by simp, hv⟩]
  · rw [if_neg hv]
    by_cases h : ∃ d ∈ ds, v = .agg #[.int .i64 d.place, .int .i64 d.time, .int .i64 d.no]
    · obtain ⟨d', h1, h2⟩ := h
      rw [if_pos ⟨d', h1, h2⟩, if_pos ⟨d', by simp [h1], h2⟩]
    · rw [if_neg h, if_neg]
      rintro ⟨d', h1, h2⟩
      rcases List.mem_append.1 h1 with h1 | h1
      · exact h ⟨d', h1, h2⟩
      · rw [List.mem_singleton] at h1
        subst h1
        exact hv h2
theorem dotSet_nil (v : Value) : (fun _ => none : Value → Option Value) v = dotSet [] v := by simp [dotSet]
/-- An error: plain, or with its place, in an answer. -/
def FVal (w : World) (S : Nat → Prop) (w' : World) (e : Ending) (er : Nat → Addr) (f : FT) (mk : Value → Value) : Prop :=
  (f.at' = -1 ∧ ∃ v, Ret [] w S w' e (mk v) [] [] ∧ ErrIs 243 er f.code v) ∨
  (1 ≤ f.code ∧ 0 ≤ f.at' ∧ ∃ pb, Ret [] w S w' e (mk (.iface 102 (.pointer (some ⟨pb, 0, none⟩)))) [] [(.pointer (some ⟨pb, 0, none⟩), .ptr [.v (.int .i64 f.at'), .v (.iface 243 (.pointer (some (er f.code))))])])
end Go.Proofs.YtpjkiomccpjboaaGreatDoor
