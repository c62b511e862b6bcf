/- What a receiver keeps, and what comes of it: of lists. -/
import Derived.Test.YtgelnbgjabpdbaaDoorMsg
import Derived.Test.YtgelnbgjabpdbaaDoorTx12
namespace Go.Sx
open Go

/-- Chunks and facts, written out. -/
theorem J_norm {P : Program} {f : Func} {R : Act → World → Prop} {n : Nat} {kk : List Itm} {E : Env} {h r : List (Nat × Obj)} {F : List (List Nat × World)} {S0 : Nat → Prop} {C0 C' : List Chunk} {G0 G' : List (Value × D)} (hC : C0 = C') (hG : G0 = G') (H : J P f R n kk E h r F ⟨S0, C', G'⟩) : J P f R n kk E h r F ⟨S0, C0, G0⟩ := by
  subst hC hG
  exact H
/-- What is kept under a number. -/
def kept (L : List MsgT) (k : Int) : Option MsgT := L.find? fun m => m.seq == k
def dropK (L : List MsgT) (k : Int) : List MsgT := L.eraseP fun m => m.seq == k
def Dist (L : List MsgT) : Prop := (L.map (·.seq)).Nodup
theorem kept_seq {L : List MsgT} {k : Int} {m : MsgT} (h : kept L k = some m) : m.seq = k := by
  have := List.find?_some h
  simpa using this
theorem kept_mem {L : List MsgT} {k : Int} {m : MsgT} (h : kept L k = some m) : m ∈ L := List.mem_of_find?_eq_some h
theorem kept_none {L : List MsgT} {k : Int} : kept L k = none ↔ ∀ m ∈ L, m.seq ≠ k := by
  unfold kept
  rw [List.find?_eq_none]
  simp
theorem dropK_len {L : List MsgT} {k : Int} {m : MsgT} (h : kept L k = some m) : (dropK L k).length + 1 = L.length := by
  unfold dropK
  have hm := kept_mem h
  have hs := kept_seq h
  rw [List.length_eraseP_of_mem hm (by simpa using hs)]
  have : 0 < L.length := List.length_pos_of_mem hm
  omega
theorem dropK_sub (L : List MsgT) (k : Int) : (dropK L k).Sublist L := List.eraseP_sublist
theorem Dist.drop {L : List MsgT} (h : Dist L) (k : Int) : Dist (dropK L k) := ((dropK_sub L k).map _).nodup h
theorem Dist.app {L : List MsgT} (h : Dist L) {m : MsgT} (hm : kept L m.seq = none) : Dist (L ++ [m]) := by
  unfold Dist
  rw [List.map_append, List.nodup_append]
  refine ⟨h, by simp, fun a ha b hb => ?_⟩
  obtain ⟨x, hx, rfl⟩ := List.mem_map.1 ha
  simp at hb
  subst hb
  exact kept_none.1 hm x hx
theorem kept_app {L : List MsgT} {m : MsgT} (hm : kept L m.seq = none) (k : Int) : kept (L ++ [m]) k = if m.seq = k then some m else kept L k := by
  unfold kept at hm ⊢
  rw [List.find?_append]
  by_cases hk : m.seq = k
  · subst hk
    simp [hm]
  · simp [hk]
theorem kept_drop {L : List MsgT} (h : Dist L) (k j : Int) : kept (dropK L k) j = if k = j then none else kept L j := by
  induction L with
  | nil => simp [dropK, kept]
  | cons m L ih =>
    have hd : Dist L := (List.nodup_cons.1 h).2
    have hn : m.seq ∉ L.map (·.seq) := (List.nodup_cons.1 h).1
    by_cases hk : m.seq = k
    · have e : dropK (m :: L) k = L := by simp [dropK, hk]
      rw [e]
      by_cases hj : k = j
      · subst hj
        rw [if_pos rfl, kept_none]
        intro x hx hxk
        exact hn (List.mem_map.2 ⟨x, hx, by rw [hxk, hk]⟩)
      · rw [if_neg hj]
        have : ¬ m.seq = j := by rw [hk]; exact hj
        simp [kept, this]
    · have e : dropK (m :: L) k = m :: dropK L k := by simp [dropK, hk]
      rw [e]
      by_cases hmj : m.seq = j
      · have : ¬ k = j := by rw [← hmj]; exact fun h => hk h.symm
        simp [kept, hmj, this]
      · have e1 : kept (m :: dropK L k) j = kept (dropK L k) j := by simp [kept, hmj]
        have e2 : kept (m :: L) j = kept L j := by simp [kept, hmj]
        rw [e1, e2, ih hd]

/-- What comes now, what is kept then, the last number and time: fuel by what is kept. -/
def drain : Nat → List MsgT → Int → Int → List MsgT × List MsgT × Int × Int
  | 0, L, q, t => ([], L, q, t)
  | n + 1, L, q, t => match kept L (q + 1) with
    | none => ([], L, q, t)
    | some m => (m :: (drain n (dropK L (q + 1)) (q + 1) m.time).1, (drain n (dropK L (q + 1)) (q + 1) m.time).2)
def drainAll (L : List MsgT) (q t : Int) : List MsgT × List MsgT × Int × Int := drain (L.length + 1) L q t
theorem drain_none {L : List MsgT} {q t : Int} (h : kept L (q + 1) = none) : drainAll L q t = ([], L, q, t) := by
  unfold drainAll drain
  rw [h]
theorem drain_some {L : List MsgT} {q t : Int} {m : MsgT} (h : kept L (q + 1) = some m) : drainAll L q t = (m :: (drainAll (dropK L (q + 1)) (q + 1) m.time).1, (drainAll (dropK L (q + 1)) (q + 1) m.time).2) := by
  unfold drainAll
  rw [drain, h, dropK_len h]
/-- A receiver: what is kept, the last number and time. -/
structure RecT where
  L : List MsgT
  q : Int
  t : Int
/-- An error's number, what comes, the receiver then. -/
def hearT (fm to shard : Int) (r : RecT) (m : MsgT) : Nat × List MsgT × RecT :=
  if m.fm ≠ fm ∨ m.to ≠ to ∨ m.shard ≠ shard then (3, [], r)
  else if m.seq < 1 ∨ m.time < 0 ∨ 1099511627776 < m.time then (2, [], r)
  else if m.seq ≤ r.q then (0, [], r)
  else if 201 < m.seq - r.q then (7, [], r)
  else
    let L1 := match kept r.L m.seq with
      | none => r.L ++ [m]
      | some _ => r.L
    let d := drainAll L1 r.q r.t
    (0, d.1, ⟨d.2.1, d.2.2.1, d.2.2.2⟩)
/-- What is kept, as a map's elements read. -/
def KL (L : List MsgT) : Value → Option (List D)
  | .int .i64 k => (kept L k).map eMsg
  | _ => none
theorem KL_nil : KL [] = fun _ => none := by
  funext x
  unfold KL
  split <;> rfl
theorem KL_put {L : List MsgT} {m : MsgT} (h : kept L m.seq = none) : kput (KL L) (.int .i64 m.seq) (eMsg m) = KL (L ++ [m]) := by
  funext x
  unfold kput
  split
  · rename_i he
    subst he
    simp only [KL]
    rw [kept_app h, if_pos rfl]
    rfl
  · rename_i hne
    unfold KL
    split
    · rename_i k
      rw [kept_app h, if_neg]
      intro he
      exact hne (by rw [he])
    · rfl
theorem KL_del {L : List MsgT} (hd : Dist L) (k : Int) : kdel (KL L) (.int .i64 k) = KL (dropK L k) := by
  funext x
  unfold kdel
  split
  · rename_i he
    subst he
    simp only [KL]
    rw [kept_drop hd, if_pos rfl]
    rfl
  · rename_i hne
    unfold KL
    split
    · rename_i j
      rw [kept_drop hd, if_neg]
      intro he
      exact hne (by rw [he])
    · rfl
end Go.Sx
namespace Go.Proofs.YtgelnbgjabpdbaaDoor
open Go Go.Sx

theorem len2 {α : Type} {l : List α} (h : l.length = 2) : ∃ x y, l = [x, y] := by
  match l, h with
  | [x, y], _ => exact ⟨x, y, rfl⟩
abbrev mAgg (m : MsgT) (v1 v2 : Value) : Value := .agg #[.int .i64 m.fm, .int .i64 m.to, .int .i64 m.shard, .int .i64 m.seq, .int .i64 m.time, .bool m.beat, v1, .int .i64 m.c.place, v2]
end Go.Proofs.YtgelnbgjabpdbaaDoor
