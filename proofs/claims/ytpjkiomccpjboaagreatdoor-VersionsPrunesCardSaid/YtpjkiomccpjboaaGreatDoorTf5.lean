/- Part 5 of the texts of a claim: Clone EqDot Tx15 Tx16 Tk2 Name Vec1 Vec2. -/
import Derived.Test.YtpjkiomccpjboaaGreatDoorProg
import Derived.Test.YtpjkiomccpjboaaGreatDoorTf4
section
namespace Go.Proofs.YtpjkiomccpjboaaGreatDoor
open Go Go.Sx
theorem rep_none {w : World} {S : Nat → Prop} {n c k : Nat} {rows : List (List D)} (h : Rep w S (.slice none n c) (.sl k rows)) : rows = [] := by cases h; rfl
theorem cloneInts {w0 : World} {S : Nat → Prop} {a : Option Addr} {n c : Nat} {xs : List Int} (ha : Rep w0 S (.slice a n c) (.sl 1 (xs.map eI))) (hl : xs.length ≤ 1000000) :
  Calls Tryz.prog 80 #[.slice a n c] w0 fun e w' => ∃ a' c', Ret [] w0 S w' e (.slice a' n c') [cAcc (.slice a' n c') 3 1 (xs.map eI)] [] := by
 have hlen := ha.slen
 rw [List.length_map] at hlen
 subst hlen
 cases a with
 | none =>
  have h0 : xs = [] := by simpa using rep_none ha
  subst h0
  refine ep80 (args := [.slice none ([] : List Int).length c]) (S := S) (G := []) (by kernel_rfl) (.nil _ _) ?_
  refine J_stp (stp_accm eI 3 1) ?_
  try simp only [cAp, nAp, aNl]
  refine Sq mixed [zR 0] [] [0, 2] (fun _ => [zS 0 none 0 c, zS 2 none 0 0]) (fun _ => []) (fun _ => ?_)
  refine J_seq ?_
  refine Sq mixed [zR 0, zR 1] [] [0, 2, 4] (fun _ => [zS 0 none 0 c, zS 2 none 0 0, zB 4 true]) (fun _ => []) (fun _ => ?_)
  refine cTt ?_
  refine Sq mixed [zR 0] [] [0, 2] (fun _ => [zS 0 none 0 c, zS 2 none 0 0]) (fun _ => []) (fun _ => ?_)
  refine J_return [[]] (.slice none 0 0) (by kernel_rfl) (fun a w s => ?_)
  exact ⟨none, 0, s.ret (by simp) [0] [] rfl rfl⟩
 | some ad =>
  refine ep80 (args := [.slice (some ad) xs.length c]) (G := [(_, .sl 1 (xs.map eI))]) (by kernel_rfl) (.cons ha (.nil _ _)) ?_
  refine Sq mixed [zR 0] [] [0, 2] (fun _ => [zS 0 (some ad) xs.length c, zS 2 none 0 0]) (fun _ => []) (fun _ => ?_)
  refine J_seq ?_
  refine Sq mixed [zR 0, zR 1] [] [0, 2, 4] (fun _ => [zS 0 (some ad) xs.length c, zS 2 none 0 0, zB 4 false]) (fun _ => []) (fun _ => ?_)
  refine cF ?_
  refine J_skip ?_
  refine J_seq ?_
  refine jB mixed [(0, false), (1, true), (2, false), (3, true)] [] ?_
  refine Gr (id := 3) (rest := [(2, false), (3, true)]) [.wr 0 [] 0, zR 1] [2, 5, 6] (fun nu1 => [zS 2 none 0 0, zS 5 (sA (nu1 0) 0) 0 0, zS 6 (some ad) xs.length c]) (fun nu1 => [(nu1 0, .cells #[] 3 (0, 0))]) (fun nu1 => ?_)
  refine JR_acczm eI 0 1 rfl (by kernel_rfl) (by decide) ?_
  refine JR_appm 0 25 3 1 8 (.int .i64 0) (a0 := (some (⟨nu1 0, 0, none⟩))) (len := 0) (cap0 := 0) (ax := (some ad)) (m := xs.length) (c := c) (dst := (some 7)) xs (by kernel_rfl) (by kernel_rfl) (by kernel_rfl) (by kernel_rfl) rfl (by decide) rfl (fun _ _ _ s => src_fact s 0 rfl (by decide)) (by simp only [maxLen]; omega) (by omega) (fun av1 cv1 => ?_)
  rw [Nat.zero_add]
  try simp only [cAp, nAp, aNl]
  refine Gr (id := 3) (rest := []) [zR 3] [2] (fun _ => [zS 2 av1 xs.length cv1]) (fun _ => []) (fun _ => ?_)
  try simp only [cAp, nAp, aNl]
  refine JR_end ?_
  try simp only [cAp, nAp, aNl]
  refine J_return [[]] (.slice av1 xs.length cv1) (by kernel_rfl) (fun a w s => ?_)
  exact ⟨_, _, s.ret (by simp) [0] [] rfl rfl⟩
theorem cloneOps {w0 : World} {S : Nat → Prop} {a : Option Addr} {n c : Nat} {xs : List OpT} (ha : Rep w0 S (.slice a n c) (.sl 7 (xs.map eOp))) (hl : xs.length ≤ 1000000) :
  Calls Tryz.prog 108 #[.slice a n c] w0 fun e w' => ∃ a' c', Ret [] w0 S w' e (.slice a' n c') [cAcc (.slice a' n c') 24 7 (xs.map eOp)] [] := by
 have hlen := ha.slen
 rw [List.length_map] at hlen
 subst hlen
 cases a with
 | none =>
  have h0 : xs = [] := by simpa using rep_none ha
  subst h0
  refine ep108 (args := [.slice none ([] : List OpT).length c]) (S := S) (G := []) (by kernel_rfl) (.nil _ _) ?_
  refine J_stp (stp_accm eOp 24 7) ?_
  try simp only [cAp, nAp, aNl]
  refine Sq mixed [zR 0] [] [0, 2] (fun _ => [zS 0 none 0 c, zS 2 none 0 0]) (fun _ => []) (fun _ => ?_)
  refine J_seq ?_
  refine Sq mixed [zR 0, zR 1] [] [0, 2, 4] (fun _ => [zS 0 none 0 c, zS 2 none 0 0, zB 4 true]) (fun _ => []) (fun _ => ?_)
  refine cTt ?_
  refine Sq mixed [zR 0] [] [0, 2] (fun _ => [zS 0 none 0 c, zS 2 none 0 0]) (fun _ => []) (fun _ => ?_)
  refine J_return [[]] (.slice none 0 0) (by kernel_rfl) (fun a w s => ?_)
  exact ⟨none, 0, s.ret (by simp) [0] [] rfl rfl⟩
 | some ad =>
  refine ep108 (args := [.slice (some ad) xs.length c]) (G := [(_, .sl 7 (xs.map eOp))]) (by kernel_rfl) (.cons ha (.nil _ _)) ?_
  refine Sq mixed [zR 0] [] [0, 2] (fun _ => [zS 0 (some ad) xs.length c, zS 2 none 0 0]) (fun _ => []) (fun _ => ?_)
  refine J_seq ?_
  refine Sq mixed [zR 0, zR 1] [] [0, 2, 4] (fun _ => [zS 0 (some ad) xs.length c, zS 2 none 0 0, zB 4 false]) (fun _ => []) (fun _ => ?_)
  refine cF ?_
  refine J_skip ?_
  refine J_seq ?_
  refine jB mixed [(0, false), (1, true), (2, false), (3, true)] [] ?_
  refine Gr (id := 3) (rest := [(2, false), (3, true)]) [.wr 0 [] 0, zR 1] [2, 5, 6] (fun nu1 => [zS 2 none 0 0, zS 5 (sA (nu1 0) 0) 0 0, zS 6 (some ad) xs.length c]) (fun nu1 => [(nu1 0, .cells #[] 24 (0, 0))]) (fun nu1 => ?_)
  refine JR_acczm eOp 0 7 rfl (by kernel_rfl) (by decide) ?_
  refine JR_appm 0 26 24 7 88 (.agg #[.int .i64 0, .string (ByteArray.mk #[]), .int .i64 0, .string (ByteArray.mk #[]), .int .i64 0, .bool false, .slice none 0 0]) (a0 := (some (⟨nu1 0, 0, none⟩))) (len := 0) (cap0 := 0) (ax := (some ad)) (m := xs.length) (c := c) (dst := (some 7)) xs (by kernel_rfl) (by kernel_rfl) (by kernel_rfl) (by kernel_rfl) rfl (by decide) rfl (fun _ _ _ s => src_fact s 0 rfl (by decide)) (by simp only [maxLen]; omega) (by omega) (fun av1 cv1 => ?_)
  rw [Nat.zero_add]
  try simp only [cAp, nAp, aNl]
  refine Gr (id := 3) (rest := []) [zR 3] [2] (fun _ => [zS 2 av1 xs.length cv1]) (fun _ => []) (fun _ => ?_)
  try simp only [cAp, nAp, aNl]
  refine JR_end ?_
  try simp only [cAp, nAp, aNl]
  refine J_return [[]] (.slice av1 xs.length cv1) (by kernel_rfl) (fun a w s => ?_)
  exact ⟨_, _, s.ret (by simp) [0] [] rfl rfl⟩
theorem cloneDots {w0 : World} {S : Nat → Prop} {a : Option Addr} {n c : Nat} {xs : List DotT} (ha : Rep w0 S (.slice a n c) (.sl 3 (xs.map eDot))) (hl : xs.length ≤ 1000000) :
  Calls Tryz.prog 109 #[.slice a n c] w0 fun e w' => ∃ a' c', Ret [] w0 S w' e (.slice a' n c') [cAcc (.slice a' n c') 65 3 (xs.map eDot)] [] := by
 have hlen := ha.slen
 rw [List.length_map] at hlen
 subst hlen
 cases a with
 | none =>
  have h0 : xs = [] := by simpa using rep_none ha
  subst h0
  refine ep109 (args := [.slice none ([] : List DotT).length c]) (S := S) (G := []) (by kernel_rfl) (.nil _ _) ?_
  refine J_stp (stp_accm eDot 65 3) ?_
  try simp only [cAp, nAp, aNl]
  refine Sq mixed [zR 0] [] [0, 2] (fun _ => [zS 0 none 0 c, zS 2 none 0 0]) (fun _ => []) (fun _ => ?_)
  refine J_seq ?_
  refine Sq mixed [zR 0, zR 1] [] [0, 2, 4] (fun _ => [zS 0 none 0 c, zS 2 none 0 0, zB 4 true]) (fun _ => []) (fun _ => ?_)
  refine cTt ?_
  refine Sq mixed [zR 0] [] [0, 2] (fun _ => [zS 0 none 0 c, zS 2 none 0 0]) (fun _ => []) (fun _ => ?_)
  refine J_return [[]] (.slice none 0 0) (by kernel_rfl) (fun a w s => ?_)
  exact ⟨none, 0, s.ret (by simp) [0] [] rfl rfl⟩
 | some ad =>
  refine ep109 (args := [.slice (some ad) xs.length c]) (G := [(_, .sl 3 (xs.map eDot))]) (by kernel_rfl) (.cons ha (.nil _ _)) ?_
  refine Sq mixed [zR 0] [] [0, 2] (fun _ => [zS 0 (some ad) xs.length c, zS 2 none 0 0]) (fun _ => []) (fun _ => ?_)
  refine J_seq ?_
  refine Sq mixed [zR 0, zR 1] [] [0, 2, 4] (fun _ => [zS 0 (some ad) xs.length c, zS 2 none 0 0, zB 4 false]) (fun _ => []) (fun _ => ?_)
  refine cF ?_
  refine J_skip ?_
  refine J_seq ?_
  refine jB mixed [(0, false), (1, true), (2, false), (3, true)] [] ?_
  refine Gr (id := 3) (rest := [(2, false), (3, true)]) [.wr 0 [] 0, zR 1] [2, 5, 6] (fun nu1 => [zS 2 none 0 0, zS 5 (sA (nu1 0) 0) 0 0, zS 6 (some ad) xs.length c]) (fun nu1 => [(nu1 0, .cells #[] 65 (0, 0))]) (fun nu1 => ?_)
  refine JR_acczm eDot 0 3 rfl (by kernel_rfl) (by decide) ?_
  refine JR_appm 0 22 65 3 24 (.agg #[.int .i64 0, .int .i64 0, .int .i64 0]) (a0 := (some (⟨nu1 0, 0, none⟩))) (len := 0) (cap0 := 0) (ax := (some ad)) (m := xs.length) (c := c) (dst := (some 7)) xs (by kernel_rfl) (by kernel_rfl) (by kernel_rfl) (by kernel_rfl) rfl (by decide) rfl (fun _ _ _ s => src_fact s 0 rfl (by decide)) (by simp only [maxLen]; omega) (by omega) (fun av1 cv1 => ?_)
  rw [Nat.zero_add]
  try simp only [cAp, nAp, aNl]
  refine Gr (id := 3) (rest := []) [zR 3] [2] (fun _ => [zS 2 av1 xs.length cv1]) (fun _ => []) (fun _ => ?_)
  try simp only [cAp, nAp, aNl]
  refine JR_end ?_
  try simp only [cAp, nAp, aNl]
  refine J_return [[]] (.slice av1 xs.length cv1) (by kernel_rfl) (fun a w s => ?_)
  exact ⟨_, _, s.ret (by simp) [0] [] rfl rfl⟩
end Go.Proofs.YtpjkiomccpjboaaGreatDoor
end
section
namespace Go.Proofs.YtpjkiomccpjboaaGreatDoor
open Go Go.Sx
theorem partI {P : Program} {t : TypeId} {w : World} {cs : Array Value} {off : Nat} {v : Value} (ht : P.underlying t = some (.int .i64)) (hv : cs[off]? = some v) : (part t cs off).run P w = .ok v w := by
 simp [part, isAgg, underlying, ht, hv, Result.andThen]
theorem eqInt {P : Program} {t : TypeId} (ht : P.underlying t = some (.int .i64)) (d : Nat) (x y : Int) (w : World) : (Op.equalIn (d + 1) t (.int .i64 x) (.int .i64 y)).run P w = .ok (x == y) w := by
 simp [Op.equalIn, run_underlying ht]
theorem eqDot (d : Nat) (a b c a' b' c' : Int) (w : World) : (Op.equalIn (d + 2) 65 (.agg #[.int .i64 a, .int .i64 b, .int .i64 c]) (.agg #[.int .i64 a', .int .i64 b', .int .i64 c'])).run Tryz.prog w = .ok (decide (a = a' ∧ b = b' ∧ c = c')) w := by
 have hs : Tryz.prog.stoodInHeld 65 = false := by kernel_rfl
 rw [Op.equalIn]
 by_cases h1 : a = a' <;> by_cases h2 : b = b' <;> by_cases h3 : c = c' <;>
 simp [run_underlying Tryz.underlying65, hs, eqInt Tryz.underlying3, partI Tryz.underlying3, Result.andThen, h1, h2, h3]
end Go.Proofs.YtpjkiomccpjboaaGreatDoor
end
section
namespace Go.Sx
open Go Go.MapKept
structure KeyOk (P : Program) (kt : TypeId) (ok : Value → Prop) : Prop where
 chk : ∀ (b : Bool) (k : Value), ok k → ∀ w, (Instr.checkKey b 10000 kt k).run P w = .ok () w
 find : ∀ (k : Value) (es : List MapEntry), ok k → (∀ x ∈ es, ok x.key) → ((∀ w, (Instr.findKey kt k es).run P w = .ok none w) ∧ ∀ x ∈ es, x.key ≠ k) ∨ ∃ j e, (∀ w, (Instr.findKey kt k es).run P w = .ok (some (j, e.val)) w) ∧ es[j]? = some e ∧ e.key = k
 stays : ∀ k, ok k → ∀ w, (Instr.keyThatStays k k).run P w = .ok k w
theorem KeyOk.plain {P : Program} {kt : TypeId} {d : TypeDesc} (hd : P.underlying kt = some d) : KeyOk P kt (IsKey d) where
 chk b k hk w := run_checkKey hd hk b 9999
 find k es hk hes := by
  rcases findNow_spec hk es 0 hes with ⟨h1, h2⟩ | ⟨j, e, h1, h2, h3⟩
  ·exact .inl ⟨fun w => run_findKey hd h1, h2⟩
  ·rw [Nat.zero_add] at h1
   exact .inr ⟨j, e, fun w => run_findKey hd h1, h2, h3⟩
 stays k hk w := run_keyThatStays hk
theorem findAsking_spec {P : Program} {kt : TypeId} {ok : Value → Prop} (heq : ∀ x y, ok x → ok y → ∃ b : Bool, (∀ w, (Op.equal kt x y).run P w = .ok b w) ∧ (b = true ↔ x = y)) {k : Value} (hk : ok k) : ∀ (l : List MapEntry) (i : Nat), (∀ x ∈ l, ok x.key) →
  ((∀ w, (Instr.findAsking kt k l i).run P w = .ok none w) ∧ ∀ x ∈ l, x.key ≠ k) ∨ ∃ j e, (∀ w, (Instr.findAsking kt k l i).run P w = .ok (some (i + j, e.val)) w) ∧ l[j]? = some e ∧ e.key = k
 | [], _, _ => .inl ⟨fun _ => rfl, by simp⟩
 | e :: es, i, h => by
  obtain ⟨b, hb, hiff⟩ := heq k e.key hk (h e (.head _))
  cases b with
  | true =>
   refine .inr ⟨0, e, fun w => ?_, rfl, (hiff.1 rfl).symm⟩
   simp [Instr.findAsking, hb, Result.andThen]
  | false =>
   have hne : e.key ≠ k := fun he => by
    have := hiff.2 he.symm
    cases this
   rcases findAsking_spec heq hk es (i + 1) fun x hx => h x (.tail _ hx) with ⟨h1, h2⟩ | ⟨j, e', h1, h2, h3⟩
   ·refine .inl ⟨fun w => ?_, fun x hx => ?_⟩
    ·simp [Instr.findAsking, hb, Result.andThen, h1]
    ·rcases List.mem_cons.1 hx with rfl | hx
     ·exact hne
     ·exact h2 x hx
   ·refine .inr ⟨j + 1, e', fun w => ?_, by simpa using h2, h3⟩
    simp [Instr.findAsking, hb, Result.andThen, h1]
    omega
theorem KeyOk.asking {P : Program} {kt : TypeId} {ok : Value → Prop} {d : TypeDesc} (hd : P.underlying kt = some d) (hn : ∀ x y, ok x → ok y → Instr.sameNow d x y = none)
  (chk : ∀ (b : Bool) (k : Value), ok k → ∀ w, (Instr.checkKey b 10000 kt k).run P w = .ok () w) (heq : ∀ x y, ok x → ok y → ∃ b : Bool, (∀ w, (Op.equal kt x y).run P w = .ok b w) ∧ (b = true ↔ x = y))
  (stays : ∀ k, ok k → Instr.sameBits 10000 k k = true) : KeyOk P kt ok where
 chk := chk
 find k es hk hes := by
  cases es with
  | nil => exact .inl ⟨fun w => by simp [Instr.findKey, run_underlying hd, Result.andThen, Instr.findNow], by simp⟩
  | cons e es =>
   have h0 : Instr.findNow d k (e :: es) 0 = none := by simp [Instr.findNow, hn k e.key hk (hes e (.head _))]
   rcases findAsking_spec heq hk (e :: es) 0 hes with ⟨h1, h2⟩ | ⟨j, e', h1, h2, h3⟩
   ·exact .inl ⟨fun w => by simp [Instr.findKey, run_underlying hd, Result.andThen, h0, h1], h2⟩
   ·rw [Nat.zero_add] at h1
    exact .inr ⟨j, e', fun w => by simp [Instr.findKey, run_underlying hd, Result.andThen, h0, h1], h2, h3⟩
 stays k hk w := by simp [Instr.keyThatStays, stays k hk]
theorem key_modify {ok : Value → Prop} {es : Array MapEntry} (h : ∀ x ∈ es.toList, ok x.key) (i : Nat) (f : MapEntry → MapEntry) (hk : ∀ e, es[i]? = some e → (f e).key = e.key) : ∀ x ∈ (es.modify i f).toList, ok x.key := by
 intro x hx
 have : x.key ∈ (es.modify i f).toList.map (·.key) := List.mem_map.2 ⟨x, hx, rfl⟩
 rw [modify_keys i f hk] at this
 obtain ⟨y, hy, e⟩ := List.mem_map.1 this
 rw [← e]; exact h y hy
structure MapG (ok : Value → Prop) (es : Array MapEntry) (f : Value → Option Value) : Prop where
 key : ∀ x ∈ es.toList, ok x.key
 nodup : (es.toList.map (·.key)).Nodup
 val : ∀ x ∈ es.toList, f x.key = some x.val
 has : ∀ k v, f k = some v → ∃ x ∈ es.toList, x.key = k
theorem MapG.empty (ok : Value → Prop) : MapG ok #[] (fun _ => none) := ⟨by simp, by simp, by simp, by simp⟩
theorem MapG.congr {ok : Value → Prop} {es : Array MapEntry} {f g : Value → Option Value} (h : MapG ok es f) (hfg : ∀ k, f k = g k) : MapG ok es g := by
 obtain rfl : f = g := funext hfg
 exact h
theorem MapG.look {P : Program} {kt : TypeId} {ok : Value → Prop} (hK : KeyOk P kt ok) {es : Array MapEntry} {f : Value → Option Value} (h : MapG ok es f) {k : Value} (hk : ok k) :
  ((∀ w, (Instr.findKey kt k es.toList).run P w = .ok none w) ∧ f k = none ∧ ∀ x ∈ es.toList, x.key ≠ k) ∨ ∃ j e, (∀ w, (Instr.findKey kt k es.toList).run P w = .ok (some (j, e.val)) w) ∧ es.toList[j]? = some e ∧ e.key = k ∧ f k = some e.val := by
 rcases hK.find k es.toList hk h.key with ⟨h1, h2⟩ | ⟨j, e, h1, h2, h3⟩
 ·refine .inl ⟨h1, ?_, h2⟩
  cases hf : f k with
  | none => rfl
  | some v =>
   obtain ⟨x, hx, hxk⟩ := h.has k v hf
   exact absurd hxk (h2 x hx)
 ·refine .inr ⟨j, e, h1, h2, h3, ?_⟩
  rw [← h3]
  exact h.val e (List.mem_of_getElem? h2)
theorem MapG.other {ok : Value → Prop} {es : Array MapEntry} {f : Value → Option Value} (h : MapG ok es f) {j i : Nat} {e x : MapEntry} (hj : es.toList[j]? = some e) (hi : es.toList[i]? = some x) (hne : i ≠ j) : x.key ≠ e.key := by
 intro he
 have h1 : (es.toList.map (·.key))[i]? = some x.key := by rw [List.getElem?_map, hi]; rfl
 have h2 : (es.toList.map (·.key))[j]? = some x.key := by rw [List.getElem?_map, hj, he]; rfl
 exact hne ((List.getElem?_inj (List.getElem?_eq_some_iff.1 h1).1 h.nodup).1 (h1.trans h2.symm))
theorem MapG.push {ok : Value → Prop} {es : Array MapEntry} {f : Value → Option Value} (h : MapG ok es f) {k v : Value} {born : Nat} (hk : ok k) (hn : ∀ x ∈ es.toList, x.key ≠ k) : MapG ok (es.push ⟨k, v, born⟩) (fput f k v) := by
 refine ⟨fun x hx => ?_, ?_, fun x hx => ?_, fun q u hq => ?_⟩
 ·simp only [Array.toList_push, List.mem_append, List.mem_singleton] at hx
  rcases hx with hx | rfl
  ·exact h.key x hx
  ·exact hk
 ·simp only [Array.toList_push, List.map_append, List.map_cons, List.map_nil]
  refine List.nodup_append.2 ⟨h.nodup, by simp, fun a ha b hb => ?_⟩
  simp only [List.mem_singleton] at hb
  subst hb
  obtain ⟨x, hx, rfl⟩ := List.mem_map.1 ha
  exact hn x hx
 ·simp only [Array.toList_push, List.mem_append, List.mem_singleton] at hx
  rcases hx with hx | rfl
  ·simp [fput, hn x hx, h.val x hx]
  ·simp [fput]
 ·by_cases hqk : q = k
  ·exact ⟨⟨k, v, born⟩, by simp, hqk.symm⟩
  ·simp only [fput, if_neg hqk] at hq
   obtain ⟨x, hx, hxk⟩ := h.has q u hq
   exact ⟨x, by simp [hx], hxk⟩
theorem MapG.turn {ok : Value → Prop} {es : Array MapEntry} {f : Value → Option Value} (h : MapG ok es f) {k v : Value} {j : Nat} {e : MapEntry} (hj : es.toList[j]? = some e) (he : e.key = k) : MapG ok (es.modify j fun x => { x with key := k, val := v }) (fput f k v) := by
 subst he
 have hj' : es[j]? = some e := by simpa using hj
 have hkeys : (es.modify j fun x => { x with key := e.key, val := v }).toList.map (·.key) = es.toList.map (·.key) := modify_keys j _ (fun x hx => by rw [hj'] at hx; cases hx; rfl)
 have who : ∀ x ∈ (es.modify j fun x => { x with key := e.key, val := v }).toList, (x.key = e.key ∧ x.val = v) ∨ (x ∈ es.toList ∧ x.key ≠ e.key) := fun x hx => by
  obtain ⟨i, hi⟩ := List.getElem?_of_mem hx
  rw [Array.getElem?_toList, Array.getElem?_modify] at hi
  by_cases hij : j = i
  ·subst hij
   rw [if_pos rfl, hj'] at hi
   simp only [Option.map_some, Option.some.injEq] at hi
   rw [← hi]
   exact .inl ⟨rfl, rfl⟩
  ·rw [if_neg hij] at hi
   exact .inr ⟨Array.mem_toList_iff.2 (Array.mem_of_getElem? hi), h.other hj (by simpa using hi) (Ne.symm hij)⟩
 refine ⟨key_modify h.key j _ (fun x hx => by rw [hj'] at hx; cases hx; rfl), by rw [hkeys]; exact h.nodup, fun x hx => ?_, fun q u hq => ?_⟩
 ·rcases who x hx with ⟨h1, h2⟩ | ⟨h1, h2⟩
  ·simp [fput, h1, h2]
  ·simp [fput, h2, h.val x h1]
 ·have hmem : q ∈ es.toList.map (·.key) := by
   by_cases hqk : q = e.key
   ·rw [hqk]; exact List.mem_map.2 ⟨e, List.mem_of_getElem? hj, rfl⟩
   ·simp only [fput, if_neg hqk] at hq
    obtain ⟨x, hx, hxk⟩ := h.has q u hq
    exact List.mem_map.2 ⟨x, hx, hxk⟩
  rw [← hkeys] at hmem
  obtain ⟨x, hx, hxk⟩ := List.mem_map.1 hmem
  exact ⟨x, hx, hxk⟩
theorem MapG.drop {ok : Value → Prop} {es : Array MapEntry} {f : Value → Option Value} (h : MapG ok es f) {k : Value} {j : Nat} {e : MapEntry} (hj : es.toList[j]? = some e) (he : e.key = k) : MapG ok (es.eraseIdxIfInBounds j) (fdel f k) := by
 subst he
 have hlt : j < es.size := by simpa using (List.getElem?_eq_some_iff.1 hj).1
 have hl : (es.eraseIdxIfInBounds j).toList = es.toList.eraseIdx j := by
  unfold Array.eraseIdxIfInBounds
  rw [dif_pos hlt]
  simp
 have hsub := List.eraseIdx_sublist es.toList j
 refine ⟨fun x hx => ?_, ?_, fun x hx => ?_, fun q u hq => ?_⟩
 ·rw [hl] at hx
  exact h.key x (hsub.subset hx)
 ·rw [hl]
  exact (hsub.map _).nodup h.nodup
 ·rw [hl] at hx
  obtain ⟨i, hne, hi⟩ := List.mem_eraseIdx_iff_getElem?.1 hx
  simp [fdel, h.other hj hi hne, h.val x (hsub.subset hx)]
 ·by_cases hqk : q = e.key
  ·simp [fdel, hqk] at hq
  ·simp only [fdel, if_neg hqk] at hq
   obtain ⟨x, hx, hxk⟩ := h.has q u hq
   obtain ⟨i, hi⟩ := List.getElem?_of_mem hx
   refine ⟨x, ?_, hxk⟩
   rw [hl]
   refine List.mem_eraseIdx_iff_getElem?.2 ⟨i, fun hij => hqk ?_, hi⟩
   subst hij
   rw [hj] at hi
   cases hi
   exact hxk.symm
section maps
variable {P : Program} {f : Func} {R : Act → World → Prop} {n : Nat} {k : List Itm} {E : Env} {h r : List (Nat × Obj)} {F : List (List Nat × World)} {Y : Ghost}
theorem JRg_lookr {id L0 i : Nat} {ck : Bool} {Wp : List (Nat × List Nat)} {rest : List (Nat × Bool)} (hn : Hn) (b t kt et : Nat) (ok : Value → Prop) (key z : Value) (c : Bool) (dst : Option Tmp) {es : Array MapEntry} {clock : Nat} {g : Value → Option Value}
  (he : lookOf n (rgOf f id) E i = some (.map (some b), key, t, c, dst)) (hok : (!ck || okR L0 (Wp.filter fun y => !later (rgOf f id) i 3 y.1) [hn]) = true) (ht : P.underlying t = some (.map kt et)) (hK : KeyOk P kt ok) (hk : ok key) (hi : (P.info? et).map (·.zero) = some (some z))
  (hp : hn.get h r = some (b, .map es clock)) (hm : MapG ok es g)
  (A : g key = none → JR P f R n (rgOf f id) L0 ck rest Wp k (E.put dst (.val (lkV c z false))) h r F Y)
  (B : ∀ v, g key = some v → JR P f R n (rgOf f id) L0 ck rest Wp k (E.put dst (.val (lkV c v true))) h r F Y) :
  JR P f R n (rgOf f id) L0 ck ((i, true) :: rest) Wp k E h r F Y := by
 intro BB Hd fps a w s hH hR hN hW
 simp only [PW]
 obtain ⟨inf, hinf, hz⟩ := Option.map_eq_some_iff.1 hi
 have hzero : ∀ w, (zeroValue et).run P w = .ok z w := fun w => by simp [zeroValue, typeInfo, hinf, hz]
 have hus : used h r [hn] = [(b, .map es clock)] := by simp [used, hp]
 have hHp : Hp (used h r [hn]) w := fun y hy => by
  obtain ⟨hn', _, hg⟩ := List.mem_filterMap.1 hy
  exact s.own.get hg
 unfold lookOf at he
 split at he
 ·cases he
 rename_i o ho
 split at he
 case isFalse => cases he
 rename_i hdst
 split at he
 ·cases he
 rename_i hg
 split at he
 case h_2 => cases he
 rename_i t' m x c' hc
 split at he
 case h_2 => cases he
 rename_i hq
 simp only [Option.some.injEq, Prod.mk.injEq] at he
 obtain ⟨e1, e2, rfl, rfl, rfl⟩ := he
 have hev := opsOk_sound s.ag (fun c w h => by cases h) _ _ hq trivial
 have e1 : a.eval m = .map (some b) := (hev m (by simp)).trans e1
 have e2 : a.eval x = key := (hev x (by simp)).trans e2
 have fin : ∀ v, (∀ w, Hp (used h r [hn]) w → (Instr.lookup t' (.map (some b)) key c').run P w = .ok v w) → JR P f R n (rgOf f id) L0 ck rest Wp k (E.put o.dst (.val v)) h r F Y →
   ∃ o' v' us, (rgOf f id)[i]? = some o' ∧ YieldsIf P (rgOf f id) (Hp us) o' v' a ∧ Hp us w ∧ (ck = true → ∀ y ∈ idsW Hd h Wp, later (rgOf f id) i 3 y.1 = true ∨ ∀ x ∈ us, x.1 < BB ∧ x.1 ∉ y.2) ∧ PW P (rgOf f id) (wpK P f R k) BB ck rest (idsW Hd h Wp) (a.put o'.dst v') w := fun v hv H => by
  refine ⟨o, v, used h r [hn], ho, .inl ⟨by simp [Region.wanted, hg], fun w hw => ?_⟩, hHp, fun hck y hy => okR_later (fun j => later (rgOf f id) i 3 j) s.own hR (by simpa [hck] using hok) y hy, ?_⟩
  ·unfold execOp
   simp only [hc, Sem.run_bind, Sem.run_pure, Result.andThen_ok, e1, e2, hv w hw]
  ·exact H BB Hd fps _ w ⟨s.ag.put hdst (.val v), s.own, s.fr, s.may, s.gh⟩ hH hR hN hW
 have hbw : ∀ w, Hp (used h r [hn]) w → w.heap[b]? = some (.map es clock) := fun w hw => hw (b, .map es clock) (by rw [hus]; simp)
 rcases hm.look hK hk with ⟨h1, h2, _⟩ | ⟨j, e, h1, _, _, h2⟩
 ·refine fin (lkV c' z false) (fun w hw => ?_) (A h2)
  cases c' <;> simp [Instr.lookup, run_underlying ht, MapKept.run_getObj_map (hbw w hw), hK.chk _ _ hk, h1, hzero, Result.andThen, lkV]
 ·refine fin (lkV c' e.val true) (fun w hw => ?_) (B _ h2)
  cases c' <;> simp [Instr.lookup, run_underlying ht, MapKept.run_getObj_map (hbw w hw), hK.chk _ _ hk, h1, Result.andThen, lkV]
theorem JRg_put {id L0 i : Nat} {ck : Bool} {Wp : List (Nat × List Nat)} {rest : List (Nat × Bool)} (p b t kt et : Nat) (ok : Value → Prop) (key val : Value) (dst : Option Tmp) {es : Array MapEntry} {clock : Nat} {g : Value → Option Value}
  (he : putOf n (rgOf f id) E i = some (.map (some b), key, val, t, dst)) (hok : (!ck || okW L0 (Wp.lookup i) [p]) = true) (ht : P.underlying t = some (.map kt et)) (hK : KeyOk P kt ok) (hk : ok key)
  (hp : h[p]? = some (b, .map es clock)) (hm : MapG ok es g)
  (A : ∀ es' clock', MapG ok es' (fput g key val) → es'.size ≤ es.size + 1 → JR P f R n (rgOf f id) L0 ck rest (Wp.filter (·.1 != i)) k (E.put dst (.val undef)) (h.set p (b, .map es' clock')) r F Y) :
  JR P f R n (rgOf f id) L0 ck ((i, false) :: rest) Wp k E h r F Y := by
 intro BB Hd fps a w s hH hR hN hW
 simp only [PW]
 have hb : w.heap[b]? = some (.map es clock) := s.own.own _ (List.mem_of_getElem? hp)
 refine putOf_sound he s ?_
 rcases hm.look hK hk with ⟨h1, _, h2⟩ | ⟨j, e, h1, h2, h3, _⟩
 ·refine ⟨{ w with heap := w.heap.setIfInBounds b (.map (es.push ⟨key, val, clock⟩) (clock + 1)) }, ?_, fun a' hA => JR_setmap hok hp s hH hR hN hW hA (A _ _ (hm.push hk h2) (by simp))⟩
  simp [Instr.mapUpdate, run_underlying ht, MapKept.run_getObj_map hb, hK.chk _ _ hk, h1, MapKept.run_setObj_map _ hb, Result.andThen]
 ·have hj : es[j]? = some e := by simpa using h2
  refine ⟨{ w with heap := w.heap.setIfInBounds b (.map (es.modify j fun x => { x with key := key, val := val }) clock) }, ?_, fun a' hA => JR_setmap hok hp s hH hR hN hW hA (A _ _ (hm.turn h2 h3) (by simp))⟩
  simp [Instr.mapUpdate, run_underlying ht, MapKept.run_getObj_map hb, hK.chk _ _ hk, h1, hj, h3, hK.stays _ hk, MapKept.run_setObj_map _ hb, Result.andThen]
end maps
end Go.Sx
end
section
namespace Go.Sx
open Go
theorem flat_out {l : List (List Nat)} {i : Nat} {x : List Nat} (h : l[i]? = some x) : l.flatten.Perm (x ++ (l.eraseIdx i).flatten) := by
 induction l generalizing i with
 | nil => simp at h
 | cons y l ih =>
  cases i with
  | zero =>
   simp only [List.getElem?_cons_zero, Option.some.injEq] at h
   subst h
   simp
  | succ i =>
   simp only [List.getElem?_cons_succ] at h
   simp only [List.flatten_cons, List.eraseIdx_cons_succ]
   refine ((ih h).append_left y).trans ?_
   rw [← List.append_assoc, ← List.append_assoc]
   exact List.perm_append_comm.append_right _
theorem Chs.insert {w : World} {S : Nat → Prop} {c : Chunk} {fp : List Nat} (hc : c.P w S fp) : ∀ {cs : List Chunk} {i : Nat} {fps : List (List Nat)}, cs[i]? = some c → Chs w S (cs.eraseIdx i) fps → ∃ fps', Chs w S cs fps' ∧ fps'.flatten.Perm (fp ++ fps.flatten)
 | [], _, _, h, _ => by simp at h
 | d :: cs, 0, fps, h, hr => by
  simp only [List.getElem?_cons_zero, Option.some.injEq] at h
  subst h
  exact ⟨fp :: fps, ⟨hc, hr⟩, by simp⟩
 | d :: cs, i + 1, fps, h, hr => by
  simp only [List.getElem?_cons_succ] at h
  simp only [List.eraseIdx_cons_succ] at hr
  match fps, hr with
  | f :: fps, hr =>
   obtain ⟨fps', h1, h2⟩ := Chs.insert hc h hr.2
   refine ⟨f :: fps', ⟨hr.1, h1⟩, ?_⟩
   simp only [List.flatten_cons]
   refine (h2.append_left f).trans ?_
   rw [← List.append_assoc, ← List.append_assoc]
   exact List.perm_append_comm.append_right _
def cMapG (b : Nat) (ok : Value → Prop) (g : Value → Option Value) : Chunk where
 P w _ fp := fp = [b] ∧ ∃ es clock, w.heap[b]? = some (.map es clock) ∧ MapG ok es g
 mono := by
  intro w w' S S' fp ⟨h, es, clock, h1, h2⟩ hb _
  exact ⟨h, es, clock, (hb _ (by rw [h]; simp)).trans h1, h2⟩
theorem mapg_eqv {b clock : Nat} {ok : Value → Prop} {es : Array MapEntry} {g : Value → Option Value} (hm : MapG ok es g) : (cObj b (.map es clock)).eqv (cMapG b ok g) := fun _ _ _ h => ⟨h.1, es, clock, h.2, hm⟩
section more
variable {P : Program} {f : Func} {R : Act → World → Prop} {n : Nat} {kk : List Itm} {E : Env} {h r : List (Nat × Obj)} {F : List (List Nat × World)}
def mapgParts (b : Nat) (ok : Value → Prop) (g : Value → Option Value) (x : Array MapEntry × Nat) : Chunk := cStar [cPure (MapG ok x.1 g), cObj b (.map x.1 x.2)]
theorem J_openmapg {S0 : Nat → Prop} {C0 : List Chunk} {G0 : List (Value × D)} (q : Nat) {b : Nat} {ok : Value → Prop} {g : Value → Option Value} (hq : C0[q]? = some (cMapG b ok g))
  (H : ∀ es clock, MapG ok es g → J P f R n kk E (h ++ [(b, .map es clock)]) r F ⟨S0, C0.eraseIdx q, G0⟩) : J P f R n kk E h r F ⟨S0, C0, G0⟩ := by
 have hv : (cMapG b ok g).eqv (cExi (mapgParts b ok g)) := by
  intro w S fp ⟨hfp, es, clock, h1, h2⟩
  subst hfp
  have hch : Chs w S [cPure (MapG ok es g), cObj b (.map es clock)] [[], [b]] := ⟨⟨rfl, h2⟩, ⟨rfl, h1⟩, trivial⟩
  exact ⟨(es, clock), [[], [b]], by simp, hch⟩
 refine J_stp (stp_conv q hq hv) ?_
 have hql := (List.getElem?_eq_some_iff.1 hq).1
 refine J_stpx (stp_exi (g := mapgParts b ok g) q (by rw [List.getElem?_set_self hql])) fun x _ => ?_
 obtain ⟨es, clock⟩ := x
 rw [List.set_set]
 refine J_stp (stp_star (cs := [cPure (MapG ok es g), cObj b (.map es clock)]) q (by rw [List.getElem?_set_self hql]; rfl)) ?_
 have e0 : ∀ y : Chunk, (C0.set q y).eraseIdx q = C0.eraseIdx q := fun y => by
  apply List.ext_getElem?
  intro j
  rw [List.getElem?_eraseIdx, List.getElem?_eraseIdx]
  split
  ·rw [List.getElem?_set_ne (by omega)]
  ·rw [List.getElem?_set_ne (by omega)]
 rw [e0]
 refine J_stpx (stp_pure (p := MapG ok es g) (C0.eraseIdx q).length (by rw [List.getElem?_append_right (Nat.le_refl _), Nat.sub_self]; rfl)) fun _ hp => ?_
 rw [List.eraseIdx_append_of_length_le (Nat.le_refl _)]
 simp only [Nat.sub_self, List.eraseIdx_cons_zero]
 refine J_show (b := b) (o := .map es clock) (C0.eraseIdx q).length (by rw [List.getElem?_append_right (Nat.le_refl _), Nat.sub_self]; rfl) ?_
 rw [List.eraseIdx_append_of_length_le (Nat.le_refl _)]
 simp only [Nat.sub_self, List.eraseIdx_cons_zero, List.append_nil]
 exact H es clock hp
theorem stp_take {S0 : Nat → Prop} {C0 : List Chunk} {G0 : List (Value × D)} (q i : Nat) {cs : List Chunk} {c : Chunk} (hq : C0[q]? = some (cStar cs)) (hi : cs[i]? = some c) :
  Stp h r F ⟨S0, C0, G0⟩ (fun _ : Unit => True) fun _ => ⟨S0, C0.eraseIdx q ++ [c, cStar (cs.eraseIdx i)], G0⟩ := by
 intro w fps hO H
 obtain ⟨fp, hfp, fpsI, rfl, hP⟩ := H.chs.at hq
 obtain ⟨fpi, hfi, hc⟩ := hP.at hi
 have hp : (fps.eraseIdx q ++ [fpi, (fpsI.eraseIdx i).flatten]).flatten.Perm fps.flatten := by
  rw [List.flatten_append]
  simp only [List.flatten_cons, List.flatten_nil, List.append_nil]
  exact ((flat_out hfi).symm.append_left _).trans (List.perm_append_comm.trans (flat_out hfp).symm)
 have hsub : ∀ b ∈ (fps.eraseIdx q ++ [fpi, (fpsI.eraseIdx i).flatten]).flatten, b ∈ fps.flatten := fun b hb => hp.mem_iff.1 hb
 have hS : ∀ b, Sd ⟨S0, C0, G0⟩ h fps b → Sd ⟨S0, C0, G0⟩ h (fps.eraseIdx q ++ [fpi, (fpsI.eraseIdx i).flatten]) b := fun b hb => Sd_sub hsub hb
 have hch : Chs w (Sd ⟨S0, C0, G0⟩ h fps) [c, cStar (cs.eraseIdx i)] [fpi, (fpsI.eraseIdx i).flatten] := ⟨hc, ⟨_, rfl, hP.erase⟩, trivial⟩
 exact ⟨(), _, trivial, hsub, H.less hsub (hp.nodup_iff.2 H.nodup) ((H.chs.erase.app hch).mono (fun _ _ => rfl) fun b hb _ => ⟨hS b hb, rfl⟩) fun x hx => (H.g x hx).mono fun b hb _ => ⟨hS b hb, rfl⟩⟩
theorem stp_join {S0 : Nat → Prop} {C0 : List Chunk} {G0 : List (Value × D)} (q1 q2 i : Nat) {cs cs' : List Chunk} {c : Chunk} (h1 : C0[q1]? = some c) (h2 : C0[q2]? = some (cStar cs)) (hne : q1 ≠ q2) (hi : cs'[i]? = some c) (he : cs'.eraseIdx i = cs) :
  Stp h r F ⟨S0, C0, G0⟩ (fun _ : Unit => True) fun _ => ⟨S0, restC C0 [q1, q2] ++ [cStar cs'], G0⟩ := by
 subst he
 intro w fps hO H
 obtain ⟨fp1, hf1, hc⟩ := H.chs.at h1
 obtain ⟨fp2, hf2, fpsI, rfl, hP⟩ := H.chs.at h2
 obtain ⟨fps', hch, hpm⟩ := Chs.insert hc hi hP
 have hlen := H.chs.len
 have hp2 : pick fps [q1, q2] = [fp1, fpsI.flatten] := by simp [pick, hf1, hf2]
 have hnd2 : (others C0.length [q1, q2] ++ [q1, q2]).Nodup := by
  rw [List.nodup_append]
  refine ⟨List.Nodup.sublist List.filter_sublist List.nodup_range, by simp [hne], fun x hx y hy hxy => ?_⟩
  subst hxy
  simp [others] at hx
  simp at hy
  omega
 have hE : (pick fps (others C0.length [q1, q2]) ++ [fps'.flatten]).flatten.Perm (pick fps (others C0.length [q1, q2] ++ [q1, q2])).flatten := by
  rw [pick_app, hp2, List.flatten_append, List.flatten_append]
  simp only [List.flatten_cons, List.flatten_nil, List.append_nil]
  exact hpm.append_left _
 have hsub : ∀ b ∈ (pick fps (others C0.length [q1, q2]) ++ [fps'.flatten]).flatten, b ∈ fps.flatten := fun b hb => pick_flat_sub (hE.mem_iff.1 hb)
 have hS : ∀ b, Sd ⟨S0, C0, G0⟩ h fps b → Sd ⟨S0, C0, G0⟩ h (pick fps (others C0.length [q1, q2]) ++ [fps'.flatten]) b := fun b hb => Sd_sub hsub hb
 have hj : Chs w (Sd ⟨S0, C0, G0⟩ h fps) [cStar cs'] [fps'.flatten] := ⟨⟨_, rfl, hch⟩, trivial⟩
 exact ⟨(), _, trivial, hsub, H.less hsub (hE.nodup_iff.2 (pick_flat_nodup H.nodup hnd2)) (((H.chs.pick _).app hj).mono (fun _ _ => rfl) fun b hb _ => ⟨hS b hb, rfl⟩) fun x hx => (H.g x hx).mono fun b hb _ => ⟨hS b hb, rfl⟩⟩
theorem star_nil (w : World) (S : Nat → Prop) : (cStar []).P w S [] := ⟨[], rfl, trivial⟩
end more
theorem J_norm {P : Program} {f : Func} {R : Act → World → Prop} {n : Nat} {kk : List Itm} {E : Env} {h r : List (Nat × Obj)} {F : List (List Nat × World)} {S0 : Nat → Prop} {C0 C' : List Chunk} {G0 G' : List (Value × D)} (hC : C0 = C') (hG : G0 = G') (H : J P f R n kk E h r F ⟨S0, C', G'⟩) : J P f R n kk E h r F ⟨S0, C0, G0⟩ := by
 subst hC hG
 exact H
theorem map_out {α β : Type} {ks : List α} (hn : ks.Nodup) {i : Nat} {k : α} (hk : ks[i]? = some k) {Q Q' : α → β} (hQ : ∀ x, x ≠ k → Q' x = Q x) : (ks.map Q').eraseIdx i = (ks.map Q).eraseIdx i := by
 apply List.ext_getElem?
 intro j
 rw [List.getElem?_eraseIdx, List.getElem?_eraseIdx]
 have key : ∀ j : Nat, j ≠ i → (ks.map Q')[j]? = (ks.map Q)[j]? := fun j hj => by
  rw [List.getElem?_map, List.getElem?_map]
  cases hx : ks[j]? with
  | none => rfl
  | some x =>
   have : x ≠ k := fun he => by
    subst he
    exact hj ((List.getElem?_inj (List.getElem?_eq_some_iff.1 hx).1 hn).1 (hx.trans hk.symm))
   simp [hQ x this]
 split
 ·exact key j (by omega)
 ·exact key (j + 1) (by omega)
end Go.Sx
end
section
namespace Go.Proofs.YtpjkiomccpjboaaGreatDoor
open Go Go.Sx
def sk86 : Sk := (.seq (.rg 0 false) (.seq (.seq (.rg 1 false) (.cond (.tmp 9) (.seq (.rg 2 false) .ret) .skip)) (.seq (.seq (.rg 3 false) (.cond (.tmp 11) (.rg 4 false) .skip)) (.seq (.rg 5 false) (.seq (.rg 6 false) (.seq (.seq (.rg 7 false) (.cond (.tmp 23) (.rg 8 false) .skip)) (.seq (.rg 9 false) (.seq (.seq (.rg 10 false) (.cond (.tmp 35) (.rg 11 false) .skip)) (.seq (.rg 12 false) .ret)))))))))
theorem bd86 : Tryz.f86.body = some (sk86.code Tryz.f86) := by kernel_rfl
theorem ep86 {args : List Value} {w : World} {S : Nat → Prop} {G : List (Value × D)} {Rr : Ending → World → Prop} (hl : Nat.ble args.length Tryz.f86.ntmps = true) (hG : AllG w S G) (H : J Tryz.prog Tryz.f86 (retR Tryz.prog Tryz.f86 Rr) Tryz.f86.ntmps [.c sk86] (envOf 0 args) [] [] [([], w)] ⟨newS S [] w, [], G⟩) : Calls Tryz.prog 86 args.toArray w Rr :=
 calls_J Tryz.func86 bd86 rfl hl (Pre.none _ _) hG H
def sk64 : Sk := (.seq (.rg 0 false) (.seq (.rg 1 false) .ret))
theorem bd64 : Tryz.f64.body = some (sk64.code Tryz.f64) := by kernel_rfl
theorem ep64 {args : List Value} {w : World} {S : Nat → Prop} {G : List (Value × D)} {Rr : Ending → World → Prop} (hl : Nat.ble args.length Tryz.f64.ntmps = true) (hG : AllG w S G) (H : J Tryz.prog Tryz.f64 (retR Tryz.prog Tryz.f64 Rr) Tryz.f64.ntmps [.c sk64] (envOf 0 args) [] [] [([], w)] ⟨newS S [] w, [], G⟩) : Calls Tryz.prog 64 args.toArray w Rr :=
 calls_J Tryz.func64 bd64 rfl hl (Pre.none _ _) hG H
end Go.Proofs.YtpjkiomccpjboaaGreatDoor
end
section
namespace Go.Proofs.YtpjkiomccpjboaaGreatDoor
open Go Go.Sx
def badC (c : Int) : Bool := ((decide (c < 97) || decide (122 < c)) && (decide (c < 48) || decide (57 < c))) && (c != 45)
def badL (l : List UInt8) : Bool := l.any fun b => badC b.toNat
def nameOk (s : ByteArray) : Bool := decide (1 ≤ s.size) && decide (s.size ≤ 16) && !badL s.data.toList
theorem name1 {w : World} {S : Nat → Prop} {c : Int} : Calls Tryz.prog 89 #[.int .u8 c] w fun e w' => Ret [] w S w' e (.bool (badC c)) [] [] := by
 refine ep89 (args := [.int .u8 c]) (G := []) (by kernel_rfl) (AllG.nil w S) ?_
 obtain h | h | h | h | h | h | h : c < 45 ∨ c = 45 ∨ (45 < c ∧ c < 48) ∨ (48 ≤ c ∧ c ≤ 57) ∨ (57 < c ∧ c < 97) ∨ (97 ≤ c ∧ c ≤ 122) ∨ 122 < c := by omega
 ·have e : badC c = true := by simp [badC]; omega
  refine Sq mixed [zR 0] [] [0, 2] (fun _ => [zV 0 (.int .u8 c), zB 2 false]) (fun _ => []) (fun _ => ?_)
  refine Sp mixed [zR 0, .rd 1 [] 0 6, zR 2, .rd 3 [] 1 0, .rd 4 [] 1 0, zR 5, zR 6, zR 7, .rd 8 [] 0 6, zR 9, .rd 10 [] 1 0, .rd 11 [] 1 0, zR 12, zR 13, zR 14, zR 15, .rd 16 [] 0 6, zR 17, zR 18] [] [2] (fun _ => [zB 2 true]) (fun _ => []) (fun _ => [decide (c < (97 : Int)) = true, decide (c < (48 : Int)) = true, (c != (45 : Int)) = true]) (fun _ => ⟨by simp; omega, by simp; omega, by simp; omega, trivial⟩) (fun _ => ?_)
  refine J_return [[]] (.bool true) (by kernel_rfl) (fun a w s => ?_)
  rw [e]
  exact s.ret (by simp) [] [] rfl rfl
 ·subst h
  refine Sq mixed [zR 0] [] [0, 2] (fun _ => [zV 0 (.int .u8 45), zB 2 false]) (fun _ => []) (fun _ => ?_)
  refine Sq mixed [zR 0, zR 1, zR 2, .rd 3 [] 1 0, .rd 4 [] 1 0, zR 5, zR 6, zR 7, zR 8, zR 9, .rd 10 [] 1 0, .rd 11 [] 1 0, zR 12, zR 13, zR 14, zR 15, zR 16, zR 17, zR 18] [] [2] (fun _ => [zB 2 false]) (fun _ => []) (fun _ => ?_)
  refine J_return [[]] (.bool false) (by kernel_rfl) (fun a w s => ?_)
  exact s.ret (by simp) [] [] rfl rfl
 ·have e : badC c = true := by simp [badC]; omega
  refine Sq mixed [zR 0] [] [0, 2] (fun _ => [zV 0 (.int .u8 c), zB 2 false]) (fun _ => []) (fun _ => ?_)
  refine Sp mixed [zR 0, .rd 1 [] 0 6, zR 2, .rd 3 [] 1 0, .rd 4 [] 1 0, zR 5, zR 6, zR 7, .rd 8 [] 0 6, zR 9, .rd 10 [] 1 0, .rd 11 [] 1 0, zR 12, zR 13, zR 14, zR 15, .rd 16 [] 0 6, zR 17, zR 18] [] [2] (fun _ => [zB 2 true]) (fun _ => []) (fun _ => [decide (c < (97 : Int)) = true, decide (c < (48 : Int)) = true, (c != (45 : Int)) = true]) (fun _ => ⟨by simp; omega, by simp; omega, by simp; omega, trivial⟩) (fun _ => ?_)
  refine J_return [[]] (.bool true) (by kernel_rfl) (fun a w s => ?_)
  rw [e]
  exact s.ret (by simp) [] [] rfl rfl
 ·have e : badC c = false := by simp [badC]; omega
  refine Sq mixed [zR 0] [] [0, 2] (fun _ => [zV 0 (.int .u8 c), zB 2 false]) (fun _ => []) (fun _ => ?_)
  refine Sp mixed [zR 0, .rd 1 [] 0 6, zR 2, .rd 3 [] 1 0, .rd 4 [] 1 0, zR 5, zR 6, zR 7, .rd 8 [] 0 7, zR 9, zR 10, .rd 11 [] 0 7, zR 12, zR 13, zR 14, .rd 15 [] 1 0, .rd 16 [] 1 0, zR 17, zR 18] [] [2] (fun _ => [zB 2 false]) (fun _ => []) (fun _ => [decide (c < (97 : Int)) = true, decide (c < (48 : Int)) = false, decide (c > (57 : Int)) = false]) (fun _ => ⟨by simp; omega, by simp; omega, by simp; omega, trivial⟩) (fun _ => ?_)
  refine J_return [[]] (.bool false) (by kernel_rfl) (fun a w s => ?_)
  rw [e]
  exact s.ret (by simp) [] [] rfl rfl
 ·have e : badC c = true := by simp [badC]; omega
  refine Sq mixed [zR 0] [] [0, 2] (fun _ => [zV 0 (.int .u8 c), zB 2 false]) (fun _ => []) (fun _ => ?_)
  refine Sp mixed [zR 0, .rd 1 [] 0 6, zR 2, .rd 3 [] 1 0, .rd 4 [] 1 0, zR 5, zR 6, zR 7, .rd 8 [] 0 7, zR 9, zR 10, .rd 11 [] 0 6, zR 12, zR 13, zR 14, zR 15, .rd 16 [] 0 6, zR 17, zR 18] [] [2] (fun _ => [zB 2 true]) (fun _ => []) (fun _ => [decide (c < (97 : Int)) = true, decide (c < (48 : Int)) = false, decide (c > (57 : Int)) = true, (c != (45 : Int)) = true]) (fun _ => ⟨by simp; omega, by simp; omega, by simp; omega, by simp; omega, trivial⟩) (fun _ => ?_)
  refine J_return [[]] (.bool true) (by kernel_rfl) (fun a w s => ?_)
  rw [e]
  exact s.ret (by simp) [] [] rfl rfl
 ·have e : badC c = false := by simp [badC]; omega
  refine Sq mixed [zR 0] [] [0, 2] (fun _ => [zV 0 (.int .u8 c), zB 2 false]) (fun _ => []) (fun _ => ?_)
  refine Sp mixed [zR 0, .rd 1 [] 0 7, zR 2, zR 3, .rd 4 [] 0 7, zR 5, zR 6, .rd 7 [] 1 0, .rd 8 [] 1 0, .rd 9 [] 1 0, .rd 10 [] 1 0, .rd 11 [] 1 0, .rd 12 [] 1 0, zR 13, zR 14, .rd 15 [] 1 0, .rd 16 [] 1 0, zR 17, zR 18] [] [2] (fun _ => [zB 2 false]) (fun _ => []) (fun _ => [decide (c < (97 : Int)) = false, decide (c > (122 : Int)) = false]) (fun _ => ⟨by simp; omega, by simp; omega, trivial⟩) (fun _ => ?_)
  refine J_return [[]] (.bool false) (by kernel_rfl) (fun a w s => ?_)
  rw [e]
  exact s.ret (by simp) [] [] rfl rfl
 ·have e : badC c = true := by simp [badC]; omega
  refine Sq mixed [zR 0] [] [0, 2] (fun _ => [zV 0 (.int .u8 c), zB 2 false]) (fun _ => []) (fun _ => ?_)
  refine Sp mixed [zR 0, .rd 1 [] 0 7, zR 2, zR 3, .rd 4 [] 0 6, zR 5, zR 6, zR 7, .rd 8 [] 0 7, zR 9, zR 10, .rd 11 [] 0 6, zR 12, zR 13, zR 14, zR 15, .rd 16 [] 0 6, zR 17, zR 18] [] [2] (fun _ => [zB 2 true]) (fun _ => []) (fun _ => [decide (c < (97 : Int)) = false, decide (c > (122 : Int)) = true, decide (c < (48 : Int)) = false, decide (c > (57 : Int)) = true, (c != (45 : Int)) = true]) (fun _ => ⟨by simp; omega, by simp; omega, by simp; omega, by simp; omega, by simp; omega, trivial⟩) (fun _ => ?_)
  refine J_return [[]] (.bool true) (by kernel_rfl) (fun a w s => ?_)
  rw [e]
  exact s.ret (by simp) [] [] rfl rfl
theorem indexBadB {w : World} {S : Nat → Prop} {a : Option Addr} {n c : Nat} {l : List UInt8} (h : Rep w S (.slice a n c) (.sl 1 (l.map eB))) (hl : l.length ≤ 1000000) :
  Calls Tryz.prog 120 #[.slice a n c, .func (.func 89) #[] #[]] w fun e w' => ∃ r, Ret [] w S w' e (.int .i64 r) [] [] ∧ decide (0 ≤ r) = badL l := by
 have e1 := h.slen
 rw [List.length_map] at e1
 subst e1
 refine ep120 (args := [.slice a l.length c, .func (.func 89) #[] #[]]) (G := [(_, .sl 1 (l.map eB))]) (by kernel_rfl) (.cons h (.nil _ _)) ?_
 refine Sq mixed [zR 0] [] [0, 1, 4] (fun _ => [zS 0 a l.length c, zV 1 (.func (.func 89) #[] #[]), zI 4 0]) (fun _ => []) (fun _ => ?_)
 refine J_seq ?_
 refine Sq mixed [zR 0, zR 1, zR 2] [] [0, 1, 4, 7, 8] (fun _ => [zS 0 a l.length c, zV 1 (.func (.func 89) #[] #[]), zI 4 0, zI 7 (↑l.length : Int), zI 8 0]) (fun _ => []) (fun _ => ?_)
 refine J_block ?_
 refine J_loopx (fun i : Int => [zS 0 a l.length c, zV 1 (.func (.func 89) #[] #[]), zI 4 0, zI 7 (↑l.length : Int), zI 8 i]) (fun i : Int => []) (fun i : Int => []) (fun i : Int => [(.slice a l.length c, (D.sl 1 (List.map eB l)))]) (fun i : Int => (l.length - i).toNat) (fun i : Int => (0 ≤ i ∧ i ≤ l.length ∧ ∀ j : Nat, j < i.toNat → ∀ b, l[j]? = some b → badC b.toNat = false)) 0 [0, 1, 4, 7, 8] [] [] [0] ?_ (by kernel_rfl) rfl rfl rfl ?_
 ·exact ⟨by simp, by omega, by simp⟩
 rintro i ⟨hi0, hi, hno⟩
 refine Sq mixed [zR 0] [] [0, 1, 4, 7, 8, 9] (fun _ => [zS 0 a l.length c, zV 1 (.func (.func 89) #[] #[]), zI 4 0, zI 7 (↑l.length : Int), zI 8 i, zB 9 (decide (i < (↑l.length : Int)))]) (fun _ => []) (fun _ => ?_)
 refine J_seq ?_
 refine cC (t := decide (i < (↑l.length : Int))) (fun hlt => ?_) (fun hlt => ?_)
 ·have hlt2 : i < l.length := by simpa using hlt
  obtain ⟨x, hx⟩ : ∃ x, l[i.toNat]? = some x := ⟨_, List.getElem?_eq_getElem (by omega)⟩
  refine J_read0 0 rfl i.toNat (map_at hx) (by kernel_rfl) (fun b1 off1 cs1 ty1 fz1 ha1 hrd1 => ?_)
  cases ha1
  have hrd1_0 := rd0 (hrd1 0 _ rfl)
  try simp only [cAp, nAp, aNl]
  refine J_skip ?_
  refine J_seq ?_
  refine J_block ?_
  refine Sq mixed [zR 0, zR 1] [] [0, 1, 4, 5, 7, 8] (fun _ => [zS 0 (sA b1 off1) l.length c, zV 1 (.func (.func 89) #[] #[]), zI 4 0, zI 5 i, zI 7 (↑l.length : Int), zI 8 i]) (fun _ => []) (fun _ => ?_)
  refine J_seq ?_
  refine jB mixed [(0, true), (1, true), (2, true), (3, true), (4, true), (5, false)] [] ?_
  refine Gs (id := 4) (rest := [(5, false)]) [zR 0, zR 1, zR 2, .rd 3 [] 0 2, .rd 4 [.r 0 (some (.int .u8 (↑x.toNat : Int)))] 0 0] [0, 1, 4, 5, 7, 8, 11, 15] (fun _ => [zS 0 (sA b1 off1) l.length c, zV 1 (.func (.func 89) #[] #[]), zI 4 0, zI 5 i, zI 7 (↑l.length : Int), zI 8 i, zV 11 (.func (.func 89) #[] #[]), zV 15 (.int .u8 (↑x.toNat : Int))]) (fun _ => []) (fun _ => [(0 : Int) ≤ i, i < (↑l.length : Int), cs1[off1 + i.toNat * (1 : Nat)]? = some (Value.int IntKind.u8 (↑x.toNat : Int))]) (fun _ => ⟨hi0, hlt2, hrd1_0, trivial⟩) (fun _ => ?_)
  refine JR_callp [] 89 #[.int .u8 (↑x.toNat : Int)] (some 16) (by kernel_rfl) (fun w S hG => ?_)
  refine (name1 (S := S)).mono ?_
  rintro e w2 hR
  refine ⟨_, _, _, hR, ?_⟩
  try simp only [cAp, nAp, aNl]
  refine JR_end ?_
  refine cC (t := badC (↑x.toNat : Int)) (fun hb => ?_) (fun hb => ?_)
  ·refine J_seq ?_
   refine Gq mixed [zR 0, zR 1] [] [0, 1, 4, 5, 7, 8, 11, 15] (fun _ => [zS 0 (sA b1 off1) l.length c, zV 1 (.func (.func 89) #[] #[]), zI 4 i, zI 5 i, zI 7 (↑l.length : Int), zI 8 i, zV 11 (.func (.func 89) #[] #[]), zV 15 (.int .u8 (↑x.toNat : Int))]) (fun _ => []) (fun _ => ?_)
   refine J_return [[]] (.int .i64 i) (by kernel_rfl) (fun a w s => ?_)
   refine ⟨_, s.ret (by simp) [] [] rfl rfl, ?_⟩
   rw [show badL l = true from List.any_eq_true.2 ⟨x, List.mem_of_getElem? hx, hb⟩]
   simpa using hi0
  ·refine J_skip ?_
   refine J_eb ?_
   refine Gp mixed [.rd 0 [] 0 1, zR 1] [] [0, 1, 4, 5, 7, 8, 11, 15] (fun _ => [zS 0 (sA b1 off1) l.length c, zV 1 (.func (.func 89) #[] #[]), zI 4 0, zI 5 i, zI 7 (↑l.length : Int), zI 8 (i + 1), zV 11 (.func (.func 89) #[] #[]), zV 15 (.int .u8 (↑x.toNat : Int))]) (fun _ => []) (fun _ => [IntKind.i64.wrap (i + (1 : Int)) = i + (1 : Int)]) (fun _ => ⟨wrap_i64 (by omega) (by omega), trivial⟩) (fun _ => ?_)
   refine J_backx (i + 1) [0, 1, 4, 7, 8] [] [] [0] ?_ ?_ (by kernel_rfl) rfl rfl rfl
   ·refine ⟨by omega, by omega, fun j hj t ht => ?_⟩
    by_cases hji : j = i.toNat
    ·subst hji
     rw [hx] at ht
     cases ht
     exact hb
    ·exact hno j (by omega) t ht
   ·omega
 ·refine J_exit rfl ?_
  refine Sq mixed [zR 0] [] [4] (fun _ => [zI 4 (-1)]) (fun _ => []) (fun _ => ?_)
  refine J_return [[]] (.int .i64 (-1)) (by kernel_rfl) (fun a w s => ?_)
  refine ⟨_, s.ret (by simp) [] [] rfl rfl, ?_⟩
  have e : badL l = false := by
   unfold badL
   rw [List.any_eq_false]
   intro t ht
   obtain ⟨j, hj⟩ := List.getElem?_of_mem ht
   have hjl := (List.getElem?_eq_some_iff.1 hj).1
   simp [hno j (by simp at hlt; omega) t hj]
  rw [e]
  decide
theorem containsBadB {w : World} {S : Nat → Prop} {a : Option Addr} {n c : Nat} {l : List UInt8} (h : Rep w S (.slice a n c) (.sl 1 (l.map eB))) (hl : l.length ≤ 1000000) :
  Calls Tryz.prog 88 #[.slice a n c, .func (.func 89) #[] #[]] w fun e w' => Ret [] w S w' e (.bool (badL l)) [] [] := by
 refine ep88 (args := [.slice a n c, .func (.func 89) #[] #[]]) (G := [(_, .sl 1 (l.map eB))]) (by kernel_rfl) (.cons h (.nil _ _)) ?_
 refine Sq mixed [zR 0] [] [0, 1, 4] (fun _ => [zS 0 a n c, zV 1 (.func (.func 89) #[] #[]), zB 4 false]) (fun _ => []) (fun _ => ?_)
 refine J_seq ?_
 refine jB mixed [(0, true), (1, true), (2, false), (3, true), (4, true)] [] ?_
 refine Gr (id := 1) (rest := [(2, false), (3, true), (4, true)]) [zR 0, zR 1] [4, 5, 6] (fun _ => [zB 4 false, zS 5 a n c, zV 6 (.func (.func 89) #[] #[])]) (fun _ => []) (fun _ => ?_)
 refine JR_callp [] 120 #[.slice a n c, .func (.func 89) #[] #[]] (some 7) (by kernel_rfl) (fun w S hG => ?_)
 refine (indexBadB (hG.at 0 rfl) hl).mono ?_
 rintro e w2 ⟨r, hR, hr⟩
 refine ⟨_, _, _, hR, ?_⟩
 try simp only [cAp, nAp, aNl]
 refine Gr (id := 1) (rest := []) [zR 3, zR 4] [4] (fun _ => [zB 4 (decide (r ≥ 0))]) (fun _ => []) (fun _ => ?_)
 refine JR_end ?_
 refine J_return [[]] (.bool (decide (r ≥ 0))) (by kernel_rfl) (fun a w s => ?_)
 rw [← hr]
 exact s.ret (by simp) [] [] rfl rfl
theorem vName {w : World} {S : Nat → Prop} {s0 : ByteArray} : Calls Tryz.prog 54 #[.string s0] w fun e w' => Ret [] w S w' e (.bool (nameOk s0)) [] [] := by
 refine ep54 (args := [.string s0]) (G := []) (by kernel_rfl) (AllG.nil w S) ?_
 have hz : s0.data.toList.length = s0.size := by simp
 by_cases h1 : s0.size = 0
 ·have hE0 : s0.toList = (ByteArray.mk #[]).toList := by
   rw [ByteArray.toList_eq, ByteArray.toList_eq]
   exact List.eq_nil_of_length_eq_zero (by omega)
  have hE : (!s0.toList == (ByteArray.mk #[]).toList) = false := by rw [hE0]; simp
  have e : nameOk s0 = false := by simp [nameOk, h1]
  refine Sq mixed [zR 0] [] [0, 2] (fun _ => [zV 0 (.string s0), zB 2 false]) (fun _ => []) (fun _ => ?_)
  refine Sp mixed [zR 0, .rd 1 [] 0 7, zR 2, .rd 3 [] 1 0, .rd 4 [] 1 0, .rd 5 [] 1 0, zR 6, zR 7, .rd 8 [] 1 0, .wr 9 [] 1, .wr 10 [] 1, .rd 11 [] 1 0, zR 12, zR 13] [] [2] (fun _ => [zB 2 false]) (fun _ => []) (fun _ => [(!s0.toList == (ByteArray.mk #[]).toList) = false]) (fun _ => ⟨by assumption, trivial⟩) (fun _ => ?_)
  refine J_return [[]] (.bool false) (by kernel_rfl) (fun a w s => ?_)
  rw [e]
  exact s.ret (by simp) [] [] rfl rfl
 ·have hE : (!s0.toList == (ByteArray.mk #[]).toList) = true := by
   rw [ByteArray.toList_eq, ByteArray.toList_eq]
   cases h : s0.data.toList with
   | nil => rw [h] at hz; exact absurd hz.symm h1
   | cons x l => rfl
  by_cases h2 : 16 < s0.size
  ·have e : nameOk s0 = false := by simp [nameOk]; omega
   refine Sq mixed [zR 0] [] [0, 2] (fun _ => [zV 0 (.string s0), zB 2 false]) (fun _ => []) (fun _ => ?_)
   refine Sp mixed [zR 0, .rd 1 [] 0 6, zR 2, zR 3, zR 4, .rd 5 [] 0 7, zR 6, zR 7, .rd 8 [] 1 0, .wr 9 [] 1, .wr 10 [] 1, .rd 11 [] 1 0, zR 12, zR 13] [] [2] (fun _ => [zB 2 false]) (fun _ => []) (fun _ => [(!s0.toList == (ByteArray.mk #[]).toList) = true, decide ((↑s0.size : Int) ≤ (16 : Int)) = false]) (fun _ => ⟨by assumption, by simp; omega, trivial⟩) (fun _ => ?_)
   refine J_return [[]] (.bool false) (by kernel_rfl) (fun a w s => ?_)
   rw [e]
   exact s.ret (by simp) [] [] rfl rfl
  ·refine J_seq ?_
   refine Gq mixed [zR 0] [] [0, 2] (fun _ => [zV 0 (.string s0), zB 2 false]) (fun _ => []) (fun _ => ?_)
   refine J_seq ?_
   refine jB mixed [(0, true), (1, true), (2, true), (3, true), (4, true), (5, true), (6, true), (7, true), (8, true), (9, false), (10, false), (11, true), (12, true), (13, true)] [] ?_
   refine Gs (id := 1) (rest := [(9, false), (10, false), (11, true), (12, true), (13, true)]) [zR 0, .rd 1 [] 0 6, zR 2, zR 3, zR 4, .rd 5 [] 0 6, zR 6, zR 7, zR 8] [2, 10, 11] (fun _ => [zB 2 false, zB 10 true, zV 11 (.string s0)]) (fun _ => []) (fun _ => [(!s0.toList == (ByteArray.mk #[]).toList) = true, decide ((↑s0.size : Int) ≤ (16 : Int)) = true]) (fun _ => ⟨by assumption, by simp; omega, trivial⟩) (fun _ => ?_)
   refine JR_bytes 9 147 5 s0 (some 12) (by kernel_rfl) (by kernel_rfl) (by kernel_rfl) (by kernel_rfl) (fun bg1 bc1 => ?_)
   try simp only [cAp, nAp, aNl]
   refine JR_callp [] 88 #[.slice (some (⟨bg1, 0, none⟩)) s0.size bc1, .func (.func 89) #[] #[]] (some 13) (by kernel_rfl) (fun w S hG => ?_)
   refine (containsBadB (l := s0.data.toList) (hG.at 0 rfl) (by omega)).mono ?_
   rintro e w2 hR
   refine ⟨_, _, _, hR, ?_⟩
   have e : nameOk s0 = !badL s0.data.toList := by simp [nameOk]; omega
   rw [e]
   try simp only [cAp, nAp, aNl]
   refine Gr (id := 1) (rest := []) [zR 11, zR 12, zR 13] [2] (fun _ => [zB 2 (!badL s0.data.toList)]) (fun _ => []) (fun _ => ?_)
   refine JR_end ?_
   refine J_return [[]] (.bool (!badL s0.data.toList)) (by kernel_rfl) (fun a w s => ?_)
   exact s.ret (by simp) [] [] rfl rfl
end Go.Proofs.YtpjkiomccpjboaaGreatDoor
end
section
namespace Go.Proofs.YtpjkiomccpjboaaGreatDoor
open Go Go.Sx
abbrev globs (er : Nat → Addr) : List (Value × D) := [(.nilIface, .v .nilIface), dE 243 er 0 2, dE 243 er 3 3]
def badT (t : Int) : Bool := decide (t < 0) || decide (1099511627776 < t)
def vecErr (xs : List Int) : Nat := if xs.length < 1 ∨ 6 < xs.length then 3 else if xs.any badT then 2 else 0
theorem check1 {w : World} {S : Nat → Prop} {t : Int} : Calls Tryz.prog 92 #[.int .i64 t] w fun e w' => Ret [] w S w' e (.bool (badT t)) [] [] := by
 refine ep92 (args := [.int .i64 t]) (G := []) (by kernel_rfl) (AllG.nil w S) ?_
 refine Sq mixed [zR 0] [] [0, 2] (fun _ => [zI 0 t, zB 2 false]) (fun _ => []) (fun _ => ?_)
 refine Sq mixed [zR 0, zR 1, zR 2, .rd 3 [] 2 0, .rd 4 [] 2 0, .rd 5 [] 0 3, zR 6] [] [2] (fun _ => [zB 2 (decide (t < 0) || decide (t > 1099511627776))]) (fun _ => []) (fun _ => ?_)
 refine J_return [[]] (.bool (decide (t < 0) || decide (t > 1099511627776))) (by kernel_rfl) (fun a w s => ?_)
 exact s.ret (by simp) [] [] rfl rfl
theorem indexBad {w : World} {S : Nat → Prop} {a : Option Addr} {n c : Nat} {xs : List Int} (h : Rep w S (.slice a n c) (dInts xs)) (hl : xs.length ≤ 1000000) :
  Calls Tryz.prog 121 #[.slice a n c, .func (.func 92) #[] #[]] w fun e w' => ∃ r, Ret [] w S w' e (.int .i64 r) [] [] ∧ decide (0 ≤ r) = xs.any badT := by
 obtain rfl := rep_ints_len h
 refine ep121 (args := [.slice a xs.length c, .func (.func 92) #[] #[]]) (G := [(_, dInts xs)]) (by kernel_rfl) (.cons h (.nil _ _)) ?_
 refine Sq mixed [zR 0] [] [0, 1, 4] (fun _ => [zS 0 a xs.length c, zV 1 (.func (.func 92) #[] #[]), zI 4 0]) (fun _ => []) (fun _ => ?_)
 refine J_seq ?_
 refine Sq mixed [zR 0, zR 1, zR 2] [] [0, 1, 4, 7, 8] (fun _ => [zS 0 a xs.length c, zV 1 (.func (.func 92) #[] #[]), zI 4 0, zI 7 (↑xs.length : Int), zI 8 0]) (fun _ => []) (fun _ => ?_)
 refine J_block ?_
 refine J_loopx (fun i : Int => [zS 0 a xs.length c, zV 1 (.func (.func 92) #[] #[]), zI 4 0, zI 7 (↑xs.length : Int), zI 8 i]) (fun i : Int => []) (fun i : Int => []) (fun i : Int => [(.slice a xs.length c, (dInts xs))]) (fun i : Int => (xs.length - i).toNat) (fun i : Int => (0 ≤ i ∧ i ≤ xs.length ∧ ∀ j : Nat, j < i.toNat → ∀ t, xs[j]? = some t → badT t = false)) 0 [0, 1, 4, 7, 8] [] [] [0] ?_ (by kernel_rfl) rfl rfl rfl ?_
 ·exact ⟨by simp, by omega, by simp⟩
 rintro i ⟨hi0, hi, hno⟩
 refine Sq mixed [zR 0] [] [0, 1, 4, 7, 8, 9] (fun _ => [zS 0 a xs.length c, zV 1 (.func (.func 92) #[] #[]), zI 4 0, zI 7 (↑xs.length : Int), zI 8 i, zB 9 (decide (i < (↑xs.length : Int)))]) (fun _ => []) (fun _ => ?_)
 refine J_seq ?_
 refine cC (t := decide (i < (↑xs.length : Int))) (fun hlt => ?_) (fun hlt => ?_)
 ·have hlt2 : i < xs.length := by simpa using hlt
  obtain ⟨x, hx⟩ : ∃ x, xs[i.toNat]? = some x := ⟨_, List.getElem?_eq_getElem (by omega)⟩
  refine J_read0 0 rfl i.toNat (map_at hx) (by kernel_rfl) (fun b1 off1 cs1 ty1 fz1 ha1 hrd1 => ?_)
  cases ha1
  have hrd1_0 := rd0 (hrd1 0 _ rfl)
  try simp only [cAp, nAp, aNl]
  refine J_skip ?_
  refine J_seq ?_
  refine J_block ?_
  refine Sq mixed [zR 0, zR 1] [] [0, 1, 4, 5, 7, 8] (fun _ => [zS 0 (sA b1 off1) xs.length c, zV 1 (.func (.func 92) #[] #[]), zI 4 0, zI 5 i, zI 7 (↑xs.length : Int), zI 8 i]) (fun _ => []) (fun _ => ?_)
  refine J_seq ?_
  refine jB mixed [(0, true), (1, true), (2, true), (3, true), (4, true), (5, false)] [] ?_
  refine Gs (id := 4) (rest := [(5, false)]) [zR 0, zR 1, zR 2, .rd 3 [] 0 2, .rd 4 [.r 0 (some (nI x))] 0 0] [0, 1, 4, 5, 7, 8, 11, 15] (fun _ => [zS 0 (sA b1 off1) xs.length c, zV 1 (.func (.func 92) #[] #[]), zI 4 0, zI 5 i, zI 7 (↑xs.length : Int), zI 8 i, zV 11 (.func (.func 92) #[] #[]), zI 15 x]) (fun _ => []) (fun _ => [(0 : Int) ≤ i, i < (↑xs.length : Int), cs1[off1 + i.toNat * (1 : Nat)]? = some (nI x)]) (fun _ => ⟨hi0, hlt2, hrd1_0, trivial⟩) (fun _ => ?_)
  refine JR_callp [] 92 #[.int .i64 x] (some 16) (by kernel_rfl) (fun w S hG => ?_)
  refine (check1 (S := S)).mono ?_
  rintro e w2 hR
  refine ⟨_, _, _, hR, ?_⟩
  try simp only [cAp, nAp, aNl]
  refine JR_end ?_
  refine cC (t := badT x) (fun hb => ?_) (fun hb => ?_)
  ·refine J_seq ?_
   refine Gq mixed [zR 0, zR 1] [] [0, 1, 4, 5, 7, 8, 11, 15] (fun _ => [zS 0 (sA b1 off1) xs.length c, zV 1 (.func (.func 92) #[] #[]), zI 4 i, zI 5 i, zI 7 (↑xs.length : Int), zI 8 i, zV 11 (.func (.func 92) #[] #[]), zI 15 x]) (fun _ => []) (fun _ => ?_)
   refine J_return [[]] (.int .i64 i) (by kernel_rfl) (fun a w s => ?_)
   refine ⟨_, s.ret (by simp) [] [] rfl rfl, ?_⟩
   rw [List.any_eq_true.2 ⟨x, List.mem_of_getElem? hx, hb⟩]
   simpa using hi0
  ·refine J_skip ?_
   refine J_eb ?_
   refine Gp mixed [.rd 0 [] 0 1, zR 1] [] [0, 1, 4, 5, 7, 8, 11, 15] (fun _ => [zS 0 (sA b1 off1) xs.length c, zV 1 (.func (.func 92) #[] #[]), zI 4 0, zI 5 i, zI 7 (↑xs.length : Int), zI 8 (i + 1), zV 11 (.func (.func 92) #[] #[]), zI 15 x]) (fun _ => []) (fun _ => [IntKind.i64.wrap (i + (1 : Int)) = i + (1 : Int)]) (fun _ => ⟨wrap_i64 (by omega) (by omega), trivial⟩) (fun _ => ?_)
   refine J_backx (i + 1) [0, 1, 4, 7, 8] [] [] [0] ?_ ?_ (by kernel_rfl) rfl rfl rfl
   ·refine ⟨by omega, by omega, fun j hj t ht => ?_⟩
    by_cases hji : j = i.toNat
    ·subst hji
     rw [hx] at ht
     cases ht
     exact hb
    ·exact hno j (by omega) t ht
   ·omega
 ·refine J_exit rfl ?_
  refine Sq mixed [zR 0] [] [4] (fun _ => [zI 4 (-1)]) (fun _ => []) (fun _ => ?_)
  refine J_return [[]] (.int .i64 (-1)) (by kernel_rfl) (fun a w s => ?_)
  refine ⟨_, s.ret (by simp) [] [] rfl rfl, ?_⟩
  have e : xs.any badT = false := by
   rw [List.any_eq_false]
   intro t ht
   obtain ⟨j, hj⟩ := List.getElem?_of_mem ht
   have hjl := (List.getElem?_eq_some_iff.1 hj).1
   simp [hno j (by simp at hlt; omega) t hj]
  rw [e]
  decide
theorem containsBad {w : World} {S : Nat → Prop} {a : Option Addr} {n c : Nat} {xs : List Int} (h : Rep w S (.slice a n c) (dInts xs)) (hl : xs.length ≤ 1000000) :
  Calls Tryz.prog 91 #[.slice a n c, .func (.func 92) #[] #[]] w fun e w' => Ret [] w S w' e (.bool (xs.any badT)) [] [] := by
 refine ep91 (args := [.slice a n c, .func (.func 92) #[] #[]]) (G := [(_, dInts xs)]) (by kernel_rfl) (.cons h (.nil _ _)) ?_
 refine Sq mixed [zR 0] [] [0, 1, 4] (fun _ => [zS 0 a n c, zV 1 (.func (.func 92) #[] #[]), zB 4 false]) (fun _ => []) (fun _ => ?_)
 refine J_seq ?_
 refine jB mixed [(0, true), (1, true), (2, false), (3, true), (4, true)] [] ?_
 refine Gr (id := 1) (rest := [(2, false), (3, true), (4, true)]) [zR 0, zR 1] [4, 5, 6] (fun _ => [zB 4 false, zS 5 a n c, zV 6 (.func (.func 92) #[] #[])]) (fun _ => []) (fun _ => ?_)
 refine JR_callp [] 121 #[.slice a n c, .func (.func 92) #[] #[]] (some 7) (by kernel_rfl) (fun w S hG => ?_)
 refine (indexBad (hG.at 0 rfl) hl).mono ?_
 rintro e w2 ⟨r, hR, hr⟩
 refine ⟨_, _, _, hR, ?_⟩
 try simp only [cAp, nAp, aNl]
 refine Gr (id := 1) (rest := []) [zR 3, zR 4] [4] (fun _ => [zB 4 (decide (r ≥ 0))]) (fun _ => []) (fun _ => ?_)
 refine JR_end ?_
 refine J_return [[]] (.bool (decide (r ≥ 0))) (by kernel_rfl) (fun a w s => ?_)
 rw [← hr]
 exact s.ret (by simp) [] [] rfl rfl
theorem vcheck {w : World} {S : Nat → Prop} {er : Nat → Addr} {a : Option Addr} {n c : Nat} {xs : List Int} (hE : AllG w S (globs er)) (h : Rep w S (.slice a n c) (dInts xs)) (hl : xs.length ≤ 1000000) :
  Calls Tryz.prog 59 #[.slice a n c] w fun e w' => ∃ v, Ret [] w S w' e v [] [] ∧ ErrIs 243 er (vecErr xs) v := by
 obtain rfl := rep_ints_len h
 refine ep59 (args := [.slice a xs.length c]) (G := globs er ++ [(_, dInts xs)]) (by kernel_rfl) (hE.app (.cons h (.nil _ _))) ?_
 refine J_glob 1 rfl (fun csg1 tyg1 fzg1 hglob1 => ?_)
 refine J_glob 2 rfl (fun csg2 tyg2 fzg2 hglob2 => ?_)
 try simp only [cAp, nAp, aNl]
 refine Sq mixed [zR 0] [] [0, 2] (fun _ => [zS 0 a xs.length c, zV 2 .nilIface]) (fun _ => []) (fun _ => ?_)
 refine J_seq ?_
 refine Sq mixed [zR 0, zR 1, zR 2, zR 3, .rd 4 [] 2 0, .rd 5 [] 2 0, .rd 6 [] 2 0, .rd 7 [] 0 3] [] [0, 2, 10] (fun _ => [zS 0 a xs.length c, zV 2 .nilIface, zB 10 (decide ((↑xs.length : Int) < 1) || decide ((↑xs.length : Int) > 6))]) (fun _ => []) (fun _ => ?_)
 refine cC (t := decide ((↑xs.length : Int) < 1) || decide ((↑xs.length : Int) > 6)) (fun hn => ?_) (fun hn => ?_)
 ·refine J_seq ?_
  refine Gp mixed [.rd 0 [.r 1 (some (.iface 243 (.pointer (some (er 3)))))] 0 0, zR 1] [] [0, 2] (fun _ => [zS 0 a xs.length c, zV 2 (.iface 243 (.pointer (some (er 3))))]) (fun _ => []) (fun _ => [csg2[(0 : Nat)]? = some (Value.iface (243 : Nat) (Value.pointer (some (er (3 : Nat)))))]) (fun _ => ⟨hglob2, trivial⟩) (fun _ => ?_)
  refine J_return [[]] (.iface 243 (.pointer (some (er 3)))) (by kernel_rfl) (fun a w s => ?_)
  refine ⟨_, s.ret (by simp) [] [] rfl rfl, .inr ⟨?_, ?_⟩⟩ <;> rw [vecErr, if_pos (by simp at hn; omega)]
  ·decide
 ·have hn2 : ¬ (xs.length < 1 ∨ 6 < xs.length) := by simp at hn; omega
  refine J_skip ?_
  refine J_seq ?_
  refine J_seq ?_
  refine jB mixed [(0, true), (1, false)] [] ?_
  refine Gr (id := 3) (rest := [(1, false)]) [zR 0] [2, 12] (fun _ => [zV 2 .nilIface, zS 12 a xs.length c]) (fun _ => []) (fun _ => ?_)
  refine JR_callp [] 91 #[.slice a xs.length c, .func (.func 92) #[] #[]] (some 13) (by kernel_rfl) (fun w S hG => ?_)
  refine (containsBad (hG.at 3 rfl) hl).mono ?_
  rintro e w2 hR
  refine ⟨_, _, _, hR, ?_⟩
  try simp only [cAp, nAp, aNl]
  refine JR_end ?_
  refine cC (t := xs.any badT) (fun hb => ?_) (fun hb => ?_)
  ·refine J_seq ?_
   refine Gp mixed [.rd 0 [.r 0 (some (.iface 243 (.pointer (some (er 2)))))] 0 0, zR 1] [] [2] (fun _ => [zV 2 (.iface 243 (.pointer (some (er 2))))]) (fun _ => []) (fun _ => [csg1[(0 : Nat)]? = some (Value.iface (243 : Nat) (Value.pointer (some (er (2 : Nat)))))]) (fun _ => ⟨hglob1, trivial⟩) (fun _ => ?_)
   refine J_return [[]] (.iface 243 (.pointer (some (er 2)))) (by kernel_rfl) (fun a w s => ?_)
   refine ⟨_, s.ret (by simp) [] [] rfl rfl, .inr ⟨?_, ?_⟩⟩ <;> rw [vecErr, if_neg hn2, if_pos hb]
   ·decide
  ·refine J_skip ?_
   refine Sq mixed [zR 0] [] [2] (fun _ => [zV 2 .nilIface]) (fun _ => []) (fun _ => ?_)
   refine J_return [[]] (.nilIface) (by kernel_rfl) (fun a w s => ?_)
   exact ⟨_, s.ret (by simp) [] [] rfl rfl, .inl ⟨by rw [vecErr, if_neg hn2, hb]; rfl, rfl⟩⟩
end Go.Proofs.YtpjkiomccpjboaaGreatDoor
end
section
namespace Go.Proofs.YtpjkiomccpjboaaGreatDoor
open Go Go.Sx
def twoErr (xs ys : List Int) : Nat := if vecErr xs ≠ 0 then vecErr xs else if vecErr ys ≠ 0 then vecErr ys else if xs.length ≠ ys.length then 3 else 0
theorem vecErr_len {xs : List Int} (h : vecErr xs = 0) : 1 ≤ xs.length ∧ xs.length ≤ 6 := by
 unfold vecErr at h
 split at h
 ·cases h
 ·omega
theorem vecErr_in {xs : List Int} (h : vecErr xs = 0) : ∀ t ∈ xs, 0 ≤ t ∧ t ≤ 1099511627776 := by
 unfold vecErr at h
 split at h
 ·cases h
 ·split at h
  ·cases h
  ·rename_i hb
   intro t ht
   simp only [Bool.not_eq_true, List.any_eq_false] at hb
   have := hb t ht
   simp [badT] at this
   omega
theorem vtwo {w : World} {S : Nat → Prop} {er : Nat → Addr} {a b : Option Addr} {n m c d : Nat} {xs ys : List Int} (hE : AllG w S (globs er)) (ha : Rep w S (.slice a n c) (dInts xs)) (hb : Rep w S (.slice b m d) (dInts ys)) (hl : xs.length ≤ 1000000) (hl2 : ys.length ≤ 1000000) :
  Calls Tryz.prog 84 #[.slice a n c, .slice b m d] w fun e w' => ∃ v, Ret [] w S w' e v [] [] ∧ ErrIs 243 er (twoErr xs ys) v := by
 obtain rfl := rep_ints_len ha
 obtain rfl := rep_ints_len hb
 refine ep84 (args := [.slice a xs.length c, .slice b ys.length d]) (G := globs er ++ [(_, dInts xs), (_, dInts ys)]) (by kernel_rfl) (hE.app (.cons ha (.cons hb (.nil _ _)))) ?_
 refine J_glob 2 rfl (fun csg1 tyg1 fzg1 hglob1 => ?_)
 try simp only [cAp, nAp, aNl]
 refine Sq mixed [zR 0] [] [0, 1, 4] (fun _ => [zS 0 a xs.length c, zS 1 b ys.length d, zV 4 .nilIface]) (fun _ => []) (fun _ => ?_)
 refine J_seq ?_
 refine Sq mixed [zR 0, zR 1, .wr 2 [] 0, zR 3, zR 4] [] [0, 1, 4, 10, 11, 12] (fun nu1 => [zS 0 a xs.length c, zS 1 b ys.length d, zV 4 .nilIface, zS 10 (sA (nu1 0) 0) 2 2, zI 11 2, zI 12 0]) (fun nu1 => [(nu1 0, .cells #[.slice a xs.length c, .slice b ys.length d] 25 (0, 0))]) (fun nu1 => ?_)
 refine J_block ?_
 refine J_loopx (fun i : Int => [zS 0 a xs.length c, zS 1 b ys.length d, zV 4 .nilIface, zS 10 (sA (nu1 0) 0) 2 2, zI 11 2, zI 12 i]) (fun i : Int => [(nu1 0, .cells #[.slice a xs.length c, .slice b ys.length d] 25 (0, 0))]) (fun i : Int => []) (fun i : Int => [(.nilIface, (D.v Value.nilIface)), (.pointer (sA 0 0), (D.ptr [D.v (Value.iface 243 (Value.pointer (some (er 2))))])), (.pointer (sA 3 0), (D.ptr [D.v (Value.iface 243 (Value.pointer (some (er 3))))])), (.slice a xs.length c, (dInts xs)), (.slice b ys.length d, (dInts ys))]) (fun i : Int => (2 - i).toNat) (fun i : Int => (i = 0 ∨ (i = 1 ∧ vecErr xs = 0) ∨ (i = 2 ∧ vecErr xs = 0 ∧ vecErr ys = 0))) 0 [0, 1, 4, 10, 11, 12] [0] [] [0, 1, 2, 3, 4] ?_ (by kernel_rfl) rfl rfl rfl ?_
 ·exact .inl rfl
 rintro i (rfl | ⟨rfl, h0⟩ | ⟨rfl, h0, h1⟩)
 ·refine J_seq ?_
  refine Gq mixed [zR 0] [] [0, 1, 4, 10, 11, 12, 13] (fun _ => [zS 0 a xs.length c, zS 1 b ys.length d, zV 4 .nilIface, zS 10 (sA (nu1 0) 0) 2 2, zI 11 2, zI 12 0, zB 13 true]) (fun _ => [(nu1 0, .cells #[.slice a xs.length c, .slice b ys.length d] 25 (0, 0))]) (fun _ => ?_)
  refine J_seq ?_
  refine cTt ?_
  refine J_skip ?_
  refine J_seq ?_
  refine J_block ?_
  refine Sq mixed [zR 0, .rd 1 [.o 0 none] 0 0, zR 2] [] [0, 1, 4, 6, 10, 11, 12] (fun _ => [zS 0 a xs.length c, zS 1 b ys.length d, zV 4 .nilIface, zS 6 a xs.length c, zS 10 (sA (nu1 0) 0) 2 2, zI 11 2, zI 12 0]) (fun _ => [(nu1 0, .cells #[.slice a xs.length c, .slice b ys.length d] 25 (0, 0))]) (fun _ => ?_)
  refine J_seq ?_
  refine jB mixed [(0, true), (1, false), (2, true)] [] ?_
  refine Gr (id := 4) (rest := [(1, false), (2, true)]) [zR 0] [0, 1, 4, 6, 10, 11, 12, 16] (fun _ => [zS 0 a xs.length c, zS 1 b ys.length d, zV 4 .nilIface, zS 6 a xs.length c, zS 10 (sA (nu1 0) 0) 2 2, zI 11 2, zI 12 0, zS 16 a xs.length c]) (fun _ => [(nu1 0, .cells #[.slice a xs.length c, .slice b ys.length d] 25 (0, 0))]) (fun _ => ?_)
  refine JR_callp [] 59 #[.slice a xs.length c] (some 17) (by kernel_rfl) (fun w S hG => ?_)
  refine (vcheck (hG.pick [0, 1, 2] rfl) (hG.at 3 rfl) hl).mono ?_
  rintro e w2 ⟨v, hR, ⟨h2, rfl⟩ | ⟨h2, rfl⟩⟩
  ·refine ⟨_, _, _, hR, ?_⟩
   try simp only [cAp, nAp, aNl]
   refine Gr (id := 4) (rest := []) [zR 2] [0, 1, 4, 6, 7, 10, 11, 12] (fun _ => [zS 0 a xs.length c, zS 1 b ys.length d, zV 4 .nilIface, zS 6 a xs.length c, zV 7 .nilIface, zS 10 (sA (nu1 0) 0) 2 2, zI 11 2, zI 12 0]) (fun _ => [(nu1 0, .cells #[.slice a xs.length c, .slice b ys.length d] 25 (0, 0))]) (fun _ => ?_)
   refine JR_end ?_
   refine Sq mixed [zR 0, zR 1] [] [0, 1, 4, 6, 7, 10, 11, 12, 19] (fun _ => [zS 0 a xs.length c, zS 1 b ys.length d, zV 4 .nilIface, zS 6 a xs.length c, zV 7 .nilIface, zS 10 (sA (nu1 0) 0) 2 2, zI 11 2, zI 12 0, zB 19 false]) (fun _ => [(nu1 0, .cells #[.slice a xs.length c, .slice b ys.length d] 25 (0, 0))]) (fun _ => ?_)
   refine cF ?_
   refine J_skip ?_
   refine J_eb ?_
   refine Gq mixed [zR 0, zR 1] [] [0, 1, 4, 6, 7, 10, 11, 12] (fun _ => [zS 0 a xs.length c, zS 1 b ys.length d, zV 4 .nilIface, zS 6 a xs.length c, zV 7 .nilIface, zS 10 (sA (nu1 0) 0) 2 2, zI 11 2, zI 12 1]) (fun _ => [(nu1 0, .cells #[.slice a xs.length c, .slice b ys.length d] 25 (0, 0))]) (fun _ => ?_)
   refine J_backx 1 [0, 1, 4, 10, 11, 12] [0] [] [0, 1, 2, 3, 4] ?_ ?_ (by kernel_rfl) rfl rfl rfl
   ·exact .inr (.inl ⟨rfl, h2⟩)
   ·omega
  ·refine ⟨_, _, _, hR, ?_⟩
   try simp only [cAp, nAp, aNl]
   refine Gr (id := 4) (rest := []) [zR 2] [0, 1, 4, 6, 7, 10, 11, 12] (fun _ => [zS 0 a xs.length c, zS 1 b ys.length d, zV 4 .nilIface, zS 6 a xs.length c, zV 7 (.iface 243 (.pointer (some (er (vecErr xs))))), zS 10 (sA (nu1 0) 0) 2 2, zI 11 2, zI 12 0]) (fun _ => [(nu1 0, .cells #[.slice a xs.length c, .slice b ys.length d] 25 (0, 0))]) (fun _ => ?_)
   refine JR_end ?_
   refine Sq mixed [zR 0, zR 1] [] [0, 1, 4, 6, 7, 10, 11, 12, 19] (fun _ => [zS 0 a xs.length c, zS 1 b ys.length d, zV 4 .nilIface, zS 6 a xs.length c, zV 7 (.iface 243 (.pointer (some (er (vecErr xs))))), zS 10 (sA (nu1 0) 0) 2 2, zI 11 2, zI 12 0, zB 19 true]) (fun _ => [(nu1 0, .cells #[.slice a xs.length c, .slice b ys.length d] 25 (0, 0))]) (fun _ => ?_)
   refine cTt ?_
   refine Sq mixed [zR 0, zR 1] [] [0, 1, 4, 6, 7, 10, 11, 12] (fun _ => [zS 0 a xs.length c, zS 1 b ys.length d, zV 4 (.iface 243 (.pointer (some (er (vecErr xs))))), zS 6 a xs.length c, zV 7 (.iface 243 (.pointer (some (er (vecErr xs))))), zS 10 (sA (nu1 0) 0) 2 2, zI 11 2, zI 12 0]) (fun _ => [(nu1 0, .cells #[.slice a xs.length c, .slice b ys.length d] 25 (0, 0))]) (fun _ => ?_)
   refine J_return [[]] (.iface 243 (.pointer (some (er (vecErr xs))))) (by kernel_rfl) (fun a w s => ?_)
   exact ⟨_, s.ret (by simp) [] [] rfl rfl, .inr (by rw [twoErr, if_pos h2]; exact ⟨h2, rfl⟩)⟩
 ·refine J_seq ?_
  refine Gq mixed [zR 0] [] [0, 1, 4, 10, 11, 12, 13] (fun _ => [zS 0 a xs.length c, zS 1 b ys.length d, zV 4 .nilIface, zS 10 (sA (nu1 0) 0) 2 2, zI 11 2, zI 12 1, zB 13 true]) (fun _ => [(nu1 0, .cells #[.slice a xs.length c, .slice b ys.length d] 25 (0, 0))]) (fun _ => ?_)
  refine J_seq ?_
  refine cTt ?_
  refine J_skip ?_
  refine J_seq ?_
  refine J_block ?_
  refine Sq mixed [zR 0, .rd 1 [.o 0 none] 0 0, zR 2] [] [0, 1, 4, 6, 10, 11, 12] (fun _ => [zS 0 a xs.length c, zS 1 b ys.length d, zV 4 .nilIface, zS 6 b ys.length d, zS 10 (sA (nu1 0) 0) 2 2, zI 11 2, zI 12 1]) (fun _ => [(nu1 0, .cells #[.slice a xs.length c, .slice b ys.length d] 25 (0, 0))]) (fun _ => ?_)
  refine J_seq ?_
  refine jB mixed [(0, true), (1, false), (2, true)] [] ?_
  refine Gr (id := 4) (rest := [(1, false), (2, true)]) [zR 0] [0, 1, 4, 6, 10, 11, 12, 16] (fun _ => [zS 0 a xs.length c, zS 1 b ys.length d, zV 4 .nilIface, zS 6 b ys.length d, zS 10 (sA (nu1 0) 0) 2 2, zI 11 2, zI 12 1, zS 16 b ys.length d]) (fun _ => [(nu1 0, .cells #[.slice a xs.length c, .slice b ys.length d] 25 (0, 0))]) (fun _ => ?_)
  refine JR_callp [] 59 #[.slice b ys.length d] (some 17) (by kernel_rfl) (fun w S hG => ?_)
  refine (vcheck (hG.pick [0, 1, 2] rfl) (hG.at 4 rfl) hl2).mono ?_
  rintro e w2 ⟨v, hR, ⟨h2, rfl⟩ | ⟨h2, rfl⟩⟩
  ·refine ⟨_, _, _, hR, ?_⟩
   try simp only [cAp, nAp, aNl]
   refine Gr (id := 4) (rest := []) [zR 2] [0, 1, 4, 6, 7, 10, 11, 12] (fun _ => [zS 0 a xs.length c, zS 1 b ys.length d, zV 4 .nilIface, zS 6 b ys.length d, zV 7 .nilIface, zS 10 (sA (nu1 0) 0) 2 2, zI 11 2, zI 12 1]) (fun _ => [(nu1 0, .cells #[.slice a xs.length c, .slice b ys.length d] 25 (0, 0))]) (fun _ => ?_)
   refine JR_end ?_
   refine Sq mixed [zR 0, zR 1] [] [0, 1, 4, 6, 7, 10, 11, 12, 19] (fun _ => [zS 0 a xs.length c, zS 1 b ys.length d, zV 4 .nilIface, zS 6 b ys.length d, zV 7 .nilIface, zS 10 (sA (nu1 0) 0) 2 2, zI 11 2, zI 12 1, zB 19 false]) (fun _ => [(nu1 0, .cells #[.slice a xs.length c, .slice b ys.length d] 25 (0, 0))]) (fun _ => ?_)
   refine cF ?_
   refine J_skip ?_
   refine J_eb ?_
   refine Gq mixed [zR 0, zR 1] [] [0, 1, 4, 6, 7, 10, 11, 12] (fun _ => [zS 0 a xs.length c, zS 1 b ys.length d, zV 4 .nilIface, zS 6 b ys.length d, zV 7 .nilIface, zS 10 (sA (nu1 0) 0) 2 2, zI 11 2, zI 12 2]) (fun _ => [(nu1 0, .cells #[.slice a xs.length c, .slice b ys.length d] 25 (0, 0))]) (fun _ => ?_)
   refine J_backx 2 [0, 1, 4, 10, 11, 12] [0] [] [0, 1, 2, 3, 4] ?_ ?_ (by kernel_rfl) rfl rfl rfl
   ·exact .inr (.inr ⟨rfl, h0, h2⟩)
   ·omega
  ·refine ⟨_, _, _, hR, ?_⟩
   try simp only [cAp, nAp, aNl]
   refine Gr (id := 4) (rest := []) [zR 2] [0, 1, 4, 6, 7, 10, 11, 12] (fun _ => [zS 0 a xs.length c, zS 1 b ys.length d, zV 4 .nilIface, zS 6 b ys.length d, zV 7 (.iface 243 (.pointer (some (er (vecErr ys))))), zS 10 (sA (nu1 0) 0) 2 2, zI 11 2, zI 12 1]) (fun _ => [(nu1 0, .cells #[.slice a xs.length c, .slice b ys.length d] 25 (0, 0))]) (fun _ => ?_)
   refine JR_end ?_
   refine Sq mixed [zR 0, zR 1] [] [0, 1, 4, 6, 7, 10, 11, 12, 19] (fun _ => [zS 0 a xs.length c, zS 1 b ys.length d, zV 4 .nilIface, zS 6 b ys.length d, zV 7 (.iface 243 (.pointer (some (er (vecErr ys))))), zS 10 (sA (nu1 0) 0) 2 2, zI 11 2, zI 12 1, zB 19 true]) (fun _ => [(nu1 0, .cells #[.slice a xs.length c, .slice b ys.length d] 25 (0, 0))]) (fun _ => ?_)
   refine cTt ?_
   refine Sq mixed [zR 0, zR 1] [] [0, 1, 4, 6, 7, 10, 11, 12] (fun _ => [zS 0 a xs.length c, zS 1 b ys.length d, zV 4 (.iface 243 (.pointer (some (er (vecErr ys))))), zS 6 b ys.length d, zV 7 (.iface 243 (.pointer (some (er (vecErr ys))))), zS 10 (sA (nu1 0) 0) 2 2, zI 11 2, zI 12 1]) (fun _ => [(nu1 0, .cells #[.slice a xs.length c, .slice b ys.length d] 25 (0, 0))]) (fun _ => ?_)
   refine J_return [[]] (.iface 243 (.pointer (some (er (vecErr ys))))) (by kernel_rfl) (fun a w s => ?_)
   exact ⟨_, s.ret (by simp) [] [] rfl rfl, .inr (by rw [twoErr, if_neg (by simp [h0]), if_pos h2]; exact ⟨h2, rfl⟩)⟩
 ·refine J_seq ?_
  refine Gq mixed [zR 0] [] [0, 1, 4, 10, 11, 12, 13] (fun _ => [zS 0 a xs.length c, zS 1 b ys.length d, zV 4 .nilIface, zS 10 (sA (nu1 0) 0) 2 2, zI 11 2, zI 12 2, zB 13 false]) (fun _ => [(nu1 0, .cells #[.slice a xs.length c, .slice b ys.length d] 25 (0, 0))]) (fun _ => ?_)
  refine J_seq ?_
  refine cF ?_
  refine J_exit rfl ?_
  refine J_seq ?_
  refine Sq mixed [zR 0, zR 1, zR 2, zR 3, zR 4] [] [4, 26] (fun _ => [zV 4 .nilIface, zB 26 ((↑xs.length : Int) != (↑ys.length : Int))]) (fun _ => [(nu1 0, .cells #[.slice a xs.length c, .slice b ys.length d] 25 (0, 0))]) (fun _ => ?_)
  refine cC (t := (↑xs.length : Int) != (↑ys.length : Int)) (fun hne => ?_) (fun hne => ?_)
  ·refine J_seq ?_
   refine Gp mixed [.rd 0 [.r 0 (some (.iface 243 (.pointer (some (er 3)))))] 0 0, zR 1] [] [4] (fun _ => [zV 4 (.iface 243 (.pointer (some (er 3))))]) (fun _ => [(nu1 0, .cells #[.slice a xs.length c, .slice b ys.length d] 25 (0, 0))]) (fun _ => [csg1[(0 : Nat)]? = some (Value.iface (243 : Nat) (Value.pointer (some (er (3 : Nat)))))]) (fun _ => ⟨hglob1, trivial⟩) (fun _ => ?_)
   refine J_return [[]] (.iface 243 (.pointer (some (er 3)))) (by kernel_rfl) (fun a w s => ?_)
   exact ⟨_, s.ret (by simp) [] [] rfl rfl, .inr (by rw [twoErr, if_neg (by simp [h0]), if_neg (by simp [h1]), if_pos (by simp at hne; omega)]; exact ⟨by decide, rfl⟩)⟩
  ·refine J_skip ?_
   refine Sq mixed [zR 0] [] [4] (fun _ => [zV 4 .nilIface]) (fun _ => [(nu1 0, .cells #[.slice a xs.length c, .slice b ys.length d] 25 (0, 0))]) (fun _ => ?_)
   refine J_return [[]] (.nilIface) (by kernel_rfl) (fun a w s => ?_)
   exact ⟨_, s.ret (by simp) [] [] rfl rfl, .inl ⟨by rw [twoErr, if_neg (by simp [h0]), if_neg (by simp [h1]), if_neg (by simp at hne; omega)], rfl⟩⟩
def inL (xs ys : List Int) : Bool := (xs.zip ys).all fun p => decide (p.1 ≤ p.2)
theorem inL_true {xs ys : List Int} (hl : xs.length = ys.length) (h : ∀ (j : Nat) x y, xs[j]? = some x → ys[j]? = some y → x ≤ y) : inL xs ys = true := by
 unfold inL
 rw [List.all_eq_true]
 rintro ⟨x, y⟩ hm
 obtain ⟨j, hj⟩ := List.getElem?_of_mem hm
 rw [List.getElem?_zip_eq_some] at hj
 simpa using h j x y hj.1 hj.2
theorem inL_false {xs ys : List Int} {j : Nat} {x y : Int} (hx : xs[j]? = some x) (hy : ys[j]? = some y) (h : y < x) : inL xs ys = false := by
 unfold inL
 rw [List.all_eq_false]
 exact ⟨(x, y), List.mem_of_getElem? (List.getElem?_zip_eq_some.2 ⟨hx, hy⟩), by simpa using h⟩
theorem vin {w : World} {S : Nat → Prop} {a b : Option Addr} {n m c d : Nat} {xs ys : List Int} (ha : Rep w S (.slice a n c) (dInts xs)) (hb : Rep w S (.slice b m d) (dInts ys)) (hl : xs.length ≤ 1000000) (hxy : xs.length = ys.length) :
  Calls Tryz.prog 85 #[.slice a n c, .slice b m d] w fun e w' => Ret [] w S w' e (.bool (inL xs ys)) [] [] := by
 obtain rfl := rep_ints_len ha
 obtain rfl := rep_ints_len hb
 refine ep85 (args := [.slice a xs.length c, .slice b ys.length d]) (G := [(_, dInts xs), (_, dInts ys)]) (by kernel_rfl) (.cons ha (.cons hb (.nil _ _))) ?_
 refine Sq mixed [zR 0] [] [0, 1, 4] (fun _ => [zS 0 a xs.length c, zS 1 b ys.length d, zB 4 false]) (fun _ => []) (fun _ => ?_)
 refine J_seq ?_
 refine Sq mixed [zR 0, zR 1, zR 2] [] [1, 4, 7, 8, 9] (fun _ => [zS 1 b ys.length d, zB 4 false, zS 7 a xs.length c, zI 8 (↑xs.length : Int), zI 9 0]) (fun _ => []) (fun _ => ?_)
 refine J_block ?_
 refine J_loopx (fun i : Int => [zS 1 b ys.length d, zB 4 false, zS 7 a xs.length c, zI 8 (↑xs.length : Int), zI 9 i]) (fun i : Int => []) (fun i : Int => []) (fun i : Int => [(.slice a xs.length c, (dInts xs)), (.slice b ys.length d, (dInts ys))]) (fun i : Int => (xs.length - i).toNat) (fun i : Int => (0 ≤ i ∧ i ≤ xs.length ∧ ∀ j : Nat, j < i.toNat → ∀ x y, xs[j]? = some x → ys[j]? = some y → x ≤ y)) 0 [1, 4, 7, 8, 9] [] [] [0, 1] ?_ (by kernel_rfl) rfl rfl rfl ?_
 ·exact ⟨by simp, by omega, by simp⟩
 rintro i ⟨hi0, hi, hno⟩
 refine Sq mixed [zR 0] [] [1, 4, 7, 8, 9, 10] (fun _ => [zS 1 b ys.length d, zB 4 false, zS 7 a xs.length c, zI 8 (↑xs.length : Int), zI 9 i, zB 10 (decide (i < (↑xs.length : Int)))]) (fun _ => []) (fun _ => ?_)
 refine J_seq ?_
 refine cC (t := decide (i < (↑xs.length : Int))) (fun hlt => ?_) (fun hlt => ?_)
 ·have hlt2 : i < xs.length := by simpa using hlt
  obtain ⟨x, hx⟩ : ∃ x, xs[i.toNat]? = some x := ⟨_, List.getElem?_eq_getElem (by omega)⟩
  obtain ⟨y, hy⟩ : ∃ y, ys[i.toNat]? = some y := ⟨_, List.getElem?_eq_getElem (by omega)⟩
  refine J_read0 0 rfl i.toNat (map_at hx) (by kernel_rfl) (fun b1 off1 cs1 ty1 fz1 ha1 hrd1 => ?_)
  cases ha1
  have hrd1_0 := rd0 (hrd1 0 _ rfl)
  refine J_read0 1 rfl i.toNat (map_at hy) (by kernel_rfl) (fun b2 off2 cs2 ty2 fz2 ha2 hrd2 => ?_)
  cases ha2
  have hrd2_0 := rd0 (hrd2 0 _ rfl)
  try simp only [cAp, nAp, aNl]
  refine J_skip ?_
  refine J_seq ?_
  refine J_block ?_
  refine Sp mixed [zR 0, .rd 1 [] 0 2, .rd 2 [.r 0 (some (nI x))] 0 0, zR 3, zR 4] [] [1, 4, 5, 6, 7, 8, 9] (fun _ => [zS 1 (sA b2 off2) ys.length d, zB 4 false, zI 5 i, zI 6 x, zS 7 (sA b1 off1) xs.length c, zI 8 (↑xs.length : Int), zI 9 i]) (fun _ => []) (fun _ => [(0 : Int) ≤ i, i < (↑xs.length : Int), cs1[off1 + i.toNat * (1 : Nat)]? = some (nI x)]) (fun _ => ⟨hi0, hlt2, hrd1_0, trivial⟩) (fun _ => ?_)
  refine Sp mixed [zR 0, zR 1, zR 2, .rd 3 [] 0 2, .rd 4 [.r 1 (some (nI y))] 0 0, zR 5] [] [1, 4, 5, 6, 7, 8, 9, 19] (fun _ => [zS 1 (sA b2 off2) ys.length d, zB 4 false, zI 5 i, zI 6 x, zS 7 (sA b1 off1) xs.length c, zI 8 (↑xs.length : Int), zI 9 i, zB 19 (decide (x > y))]) (fun _ => []) (fun _ => [(0 : Int) ≤ i, i < (↑ys.length : Int), cs2[off2 + i.toNat * (1 : Nat)]? = some (nI y)]) (fun _ => ⟨hi0, by omega, hrd2_0, trivial⟩) (fun _ => ?_)
  refine cC (t := decide (x > y)) (fun hgt => ?_) (fun hgt => ?_)
  ·refine J_seq ?_
   refine Gq mixed [zR 0] [] [1, 4, 5, 6, 7, 8, 9] (fun _ => [zS 1 (sA b2 off2) ys.length d, zB 4 false, zI 5 i, zI 6 x, zS 7 (sA b1 off1) xs.length c, zI 8 (↑xs.length : Int), zI 9 i]) (fun _ => []) (fun _ => ?_)
   refine J_return [[]] (.bool false) (by kernel_rfl) (fun a w s => ?_)
   rw [inL_false hx hy (by simpa using hgt)]
   exact s.ret (by simp) [] [] rfl rfl
  ·refine J_skip ?_
   refine J_eb ?_
   refine Gp mixed [.rd 0 [] 0 1, zR 1] [] [1, 4, 5, 6, 7, 8, 9] (fun _ => [zS 1 (sA b2 off2) ys.length d, zB 4 false, zI 5 i, zI 6 x, zS 7 (sA b1 off1) xs.length c, zI 8 (↑xs.length : Int), zI 9 (i + 1)]) (fun _ => []) (fun _ => [IntKind.i64.wrap (i + (1 : Int)) = i + (1 : Int)]) (fun _ => ⟨wrap_i64 (by omega) (by omega), trivial⟩) (fun _ => ?_)
   refine J_backx (i + 1) [1, 4, 7, 8, 9] [] [] [0, 1] ?_ ?_ (by kernel_rfl) rfl rfl rfl
   ·refine ⟨by omega, by omega, fun j hj x' y' hx' hy' => ?_⟩
    by_cases hji : j = i.toNat
    ·subst hji
     rw [hx] at hx'
     rw [hy] at hy'
     cases hx'
     cases hy'
     simpa using hgt
    ·exact hno j (by omega) x' y' hx' hy'
   ·omega
 ·refine J_exit rfl ?_
  refine Sq mixed [zR 0] [] [4] (fun _ => [zB 4 true]) (fun _ => []) (fun _ => ?_)
  refine J_return [[]] (.bool true) (by kernel_rfl) (fun a w s => ?_)
  rw [inL_true hxy fun j x y hx hy => hno j (by have := (List.getElem?_eq_some_iff.1 hx).1; simp at hlt; omega) x y hx hy]
  exact s.ret (by simp) [] [] rfl rfl
theorem howMost {w : World} {S : Nat → Prop} {x y : Int} : Calls Tryz.prog 111 #[.int .i64 x, .int .i64 y] w fun e w' => Ret [] w S w' e (.int .i64 (max x y)) [] [] := by
 refine ep111 (args := [.int .i64 x, .int .i64 y]) (G := []) (by kernel_rfl) (AllG.nil w S) ?_
 refine Sq mixed [zR 0] [] [0, 1, 4] (fun _ => [zI 0 x, zI 1 y, zI 4 0]) (fun _ => []) (fun _ => ?_)
 refine Sq mixed [zR 0, zR 1, zR 2, zR 3] [] [4] (fun _ => [zI 4 (if y > x then y else x)]) (fun _ => []) (fun _ => ?_)
 refine J_return [[]] (.int .i64 (if y > x then y else x)) (by kernel_rfl) (fun a w s => ?_)
 have e : max x y = if y > x then y else x := by split <;> omega
 rw [e]
 exact s.ret (by simp) [] [] rfl rfl
theorem eachMost {w : World} {S : Nat → Prop} {er : Nat → Addr} {a b : Option Addr} {n m c d : Nat} {xs ys : List Int} (hE : AllG w S (globs er)) (ha : Rep w S (.slice a n c) (dInts xs)) (hb : Rep w S (.slice b m d) (dInts ys)) (hl : xs.length ≤ 1000000) (hl2 : ys.length ≤ 1000000) :
  Calls Tryz.prog 110 #[.slice a n c, .slice b m d, .func (.func 111) #[] #[]] w fun e w' =>
   (twoErr xs ys ≠ 0 ∧ Ret [] w S w' e (.tuple #[.slice none 0 0, errV 243 er (twoErr xs ys)]) [] []) ∨
   (twoErr xs ys = 0 ∧ ∃ a' n' c', Ret [] w S w' e (.tuple #[.slice a' n' c', .nilIface]) [] [(.slice a' n' c', dInts (List.zipWith max xs ys))]) := by
 obtain rfl := rep_ints_len ha
 obtain rfl := rep_ints_len hb
 refine ep110 (args := [.slice a xs.length c, .slice b ys.length d, .func (.func 111) #[] #[]]) (G := globs er ++ [(_, dInts xs), (_, dInts ys)]) (by kernel_rfl) (hE.app (.cons ha (.cons hb (.nil _ _)))) ?_
 try simp only [cAp, nAp, aNl]
 refine Sq mixed [zR 0, zR 1] [] [0, 1, 2, 6, 7] (fun _ => [zS 0 a xs.length c, zS 1 b ys.length d, zV 2 (.func (.func 111) #[] #[]), zS 6 none 0 0, zV 7 .nilIface]) (fun _ => []) (fun _ => ?_)
 refine J_seq ?_
 refine J_seq ?_
 refine jB mixed [(0, true), (1, true), (2, false), (3, true)] [] ?_
 refine Gr (id := 1) (rest := [(2, false), (3, true)]) [zR 0, zR 1] [0, 1, 2, 6, 7, 12, 13] (fun _ => [zS 0 a xs.length c, zS 1 b ys.length d, zV 2 (.func (.func 111) #[] #[]), zS 6 none 0 0, zV 7 .nilIface, zS 12 a xs.length c, zS 13 b ys.length d]) (fun _ => []) (fun _ => ?_)
 refine JR_callp [] 84 #[.slice a xs.length c, .slice b ys.length d] (some 14) (by kernel_rfl) (fun w S hG => ?_)
 refine (vtwo (hG.pick [0, 1, 2] rfl) (hG.at 3 rfl) (hG.at 4 rfl) hl hl2).mono ?_
 rintro e w2 ⟨v, hR, ⟨h2, rfl⟩ | ⟨h2, rfl⟩⟩
 ·refine ⟨_, _, _, hR, ?_⟩
  have hxy : xs.length = ys.length := by
   unfold twoErr at h2
   split at h2
   ·exact absurd h2 ‹_›
   ·split at h2
    ·exact absurd h2 ‹_›
    ·split at h2
     ·cases h2
     ·omega
  try simp only [cAp, nAp, aNl]
  refine Gr (id := 1) (rest := []) [zR 3] [0, 1, 2, 6, 7, 8] (fun _ => [zS 0 a xs.length c, zS 1 b ys.length d, zV 2 (.func (.func 111) #[] #[]), zS 6 none 0 0, zV 7 .nilIface, zV 8 .nilIface]) (fun _ => []) (fun _ => ?_)
  refine JR_end ?_
  refine Sq mixed [zR 0, zR 1] [] [0, 1, 2, 6, 7, 8, 16] (fun _ => [zS 0 a xs.length c, zS 1 b ys.length d, zV 2 (.func (.func 111) #[] #[]), zS 6 none 0 0, zV 7 .nilIface, zV 8 .nilIface, zB 16 false]) (fun _ => []) (fun _ => ?_)
  refine cF ?_
  refine J_skip ?_
  refine Sq mixed [zR 0] [] [0, 1, 2, 6, 7, 9] (fun _ => [zS 0 a xs.length c, zS 1 b ys.length d, zV 2 (.func (.func 111) #[] #[]), zS 6 none 0 0, zV 7 .nilIface, zS 9 none 0 0]) (fun _ => []) (fun _ => ?_)
  refine J_seq ?_
  refine Sq mixed [zR 0, zR 1, zR 2] [] [1, 2, 6, 7, 9, 18, 19, 20] (fun _ => [zS 1 b ys.length d, zV 2 (.func (.func 111) #[] #[]), zS 6 none 0 0, zV 7 .nilIface, zS 9 none 0 0, zS 18 a xs.length c, zI 19 (↑xs.length : Int), zI 20 0]) (fun _ => []) (fun _ => ?_)
  refine J_block ?_
  refine J_stp (stp_acc 3 1) ?_
  refine J_loopx (fun x : AccI => [zS 1 b ys.length d, zV 2 (.func (.func 111) #[] #[]), zS 6 none 0 0, zV 7 .nilIface, zS 9 x.a x.k x.c, zS 18 a xs.length c, zI 19 (↑xs.length : Int), zI 20 x.i]) (fun x : AccI => []) (fun x : AccI => [cAcc (.slice x.a x.k x.c) 3 1 ((List.take x.i.toNat (List.zipWith max xs ys)).map eI)]) (fun x : AccI => [(.nilIface, (D.v Value.nilIface)), (.pointer (sA 0 0), (D.ptr [D.v (Value.iface 243 (Value.pointer (some (er 2))))])), (.pointer (sA 3 0), (D.ptr [D.v (Value.iface 243 (Value.pointer (some (er 3))))])), (.slice a xs.length c, (dInts xs)), (.slice b ys.length d, (dInts ys))]) (fun x : AccI => (xs.length - x.i).toNat) (fun x : AccI => (0 ≤ x.i ∧ x.i ≤ xs.length)) ⟨0, none, 0, 0⟩ [1, 2, 6, 7, 9, 18, 19, 20] [] [0] [0, 1, 2, 3, 4] ?_ (by kernel_rfl) rfl rfl rfl ?_
  ·exact ⟨by simp, by simp⟩
  rintro ⟨i, av, k, cv⟩ ⟨hi0, hi⟩
  dsimp only at hi0 hi ⊢
  refine J_stpx (stp_acclen 0 rfl) fun _ hk => ?_
  have hk2 : k ≤ xs.length := by simp at hk; omega
  refine Sq mixed [zR 0] [] [1, 2, 6, 7, 9, 18, 19, 20, 21] (fun _ => [zS 1 b ys.length d, zV 2 (.func (.func 111) #[] #[]), zS 6 none 0 0, zV 7 .nilIface, zS 9 av k cv, zS 18 a xs.length c, zI 19 (↑xs.length : Int), zI 20 i, zB 21 (decide (i < (↑xs.length : Int)))]) (fun _ => []) (fun _ => ?_)
  refine J_seq ?_
  refine cC (t := decide (i < (↑xs.length : Int))) (fun hlt => ?_) (fun hlt => ?_)
  ·have hlt2 : i < xs.length := by simpa using hlt
   obtain ⟨x, hx⟩ : ∃ x, xs[i.toNat]? = some x := ⟨_, List.getElem?_eq_getElem (by omega)⟩
   obtain ⟨y, hy⟩ : ∃ y, ys[i.toNat]? = some y := ⟨_, List.getElem?_eq_getElem (by omega)⟩
   refine J_read0 3 rfl i.toNat (map_at hx) (by kernel_rfl) (fun b1 off1 cs1 ty1 fz1 ha1 hrd1 => ?_)
   cases ha1
   have hrd1_0 := rd0 (hrd1 0 _ rfl)
   refine J_read0 4 rfl i.toNat (map_at hy) (by kernel_rfl) (fun b2 off2 cs2 ty2 fz2 ha2 hrd2 => ?_)
   cases ha2
   have hrd2_0 := rd0 (hrd2 0 _ rfl)
   try simp only [cAp, nAp, aNl]
   refine J_skip ?_
   refine J_seq ?_
   refine J_block ?_
   refine Sp mixed [zR 0, .rd 1 [] 0 2, .rd 2 [.r 0 (some (nI x))] 0 0, zR 3, zR 4] [] [1, 2, 6, 7, 9, 10, 11, 18, 19, 20] (fun _ => [zS 1 (sA b2 off2) ys.length d, zV 2 (.func (.func 111) #[] #[]), zS 6 none 0 0, zV 7 .nilIface, zS 9 av k cv, zI 10 i, zI 11 x, zS 18 (sA b1 off1) xs.length c, zI 19 (↑xs.length : Int), zI 20 i]) (fun _ => []) (fun _ => [(0 : Int) ≤ i, i < (↑xs.length : Int), cs1[off1 + i.toNat * (1 : Nat)]? = some (nI x)]) (fun _ => ⟨hi0, hlt2, hrd1_0, trivial⟩) (fun _ => ?_)
   refine jB mixed [(0, true), (1, true), (2, true), (3, true), (4, true), (5, true), (6, true), (7, false), (8, false), (9, false), (10, true)] [] ?_
   refine Gs (id := 8) (rest := [(7, false), (8, false), (9, false), (10, true)]) [zR 0, zR 1, zR 2, zR 3, zR 4, .rd 5 [] 0 2, .rd 6 [.r 1 (some (nI y))] 0 0] [1, 2, 6, 7, 9, 10, 11, 18, 19, 20, 25, 26, 27, 31] (fun _ => [zS 1 (sA b2 off2) ys.length d, zV 2 (.func (.func 111) #[] #[]), zS 6 none 0 0, zV 7 .nilIface, zS 9 av k cv, zI 10 i, zI 11 x, zS 18 (sA b1 off1) xs.length c, zI 19 (↑xs.length : Int), zI 20 i, zS 25 av k cv, zV 26 (.func (.func 111) #[] #[]), zI 27 x, zI 31 y]) (fun _ => []) (fun _ => [(0 : Int) ≤ i, i < (↑ys.length : Int), cs2[off2 + i.toNat * (1 : Nat)]? = some (nI y)]) (fun _ => ⟨hi0, by omega, hrd2_0, trivial⟩) (fun _ => ?_)
   refine JR_callp [] 111 #[.int .i64 x, .int .i64 y] (some 32) (by kernel_rfl) (fun w S hG => ?_)
   refine (howMost (S := S)).mono ?_
   rintro e w3 hR
   refine ⟨_, _, _, hR, ?_⟩
   try simp only [cAp, nAp, aNl]
   refine Gr (id := 8) (rest := [(9, false), (10, true)]) [.wr 8 [] 0] [1, 2, 6, 7, 9, 10, 11, 18, 19, 20, 25, 33] (fun nu1 => [zS 1 (sA b2 off2) ys.length d, zV 2 (.func (.func 111) #[] #[]), zS 6 none 0 0, zV 7 .nilIface, zS 9 av k cv, zI 10 i, zI 11 x, zS 18 (sA b1 off1) xs.length c, zI 19 (↑xs.length : Int), zI 20 i, zS 25 av k cv, zS 33 (sA (nu1 0) 0) 1 1]) (fun nu1 => [(nu1 0, .cells #[nI (max x y)] 3 (0, 0))]) (fun nu1 => ?_)
   refine JR_appm 0 25 3 1 8 (.int .i64 0) (a0 := av) (len := k) (cap0 := cv) (ax := (some (⟨nu1 0, 0, none⟩))) (m := 1) (c := 1) (dst := (some 34)) [(max x y)] (by kernel_rfl) (by kernel_rfl) (by kernel_rfl) (by kernel_rfl) rfl (by decide) rfl (fun _ _ _ s => src_one s 0 rfl rfl ⟨.inl ⟨rfl, rfl⟩, trivial⟩) (by simp only [maxLen]; omega) (by omega) (fun av1 cv1 => ?_)
   try simp only [cAp, nAp, aNl]
   refine Gr (id := 8) (rest := []) [zR 10] [1, 2, 6, 7, 9, 10, 11, 18, 19, 20] (fun _ => [zS 1 (sA b2 off2) ys.length d, zV 2 (.func (.func 111) #[] #[]), zS 6 none 0 0, zV 7 .nilIface, zS 9 av1 (k + 1) cv1, zI 10 i, zI 11 x, zS 18 (sA b1 off1) xs.length c, zI 19 (↑xs.length : Int), zI 20 i]) (fun _ => [(nu1 0, .cells #[nI (max x y)] 3 (0, 0))]) (fun _ => ?_)
   try simp only [cAp, nAp, aNl]
   refine JR_end ?_
   try simp only [cAp, nAp, aNl]
   refine J_eb ?_
   try simp only [cAp, nAp, aNl]
   refine Gp mixed [.rd 0 [] 0 1, zR 1] [] [1, 2, 6, 7, 9, 10, 11, 18, 19, 20] (fun _ => [zS 1 (sA b2 off2) ys.length d, zV 2 (.func (.func 111) #[] #[]), zS 6 none 0 0, zV 7 .nilIface, zS 9 av1 (k + 1) cv1, zI 10 i, zI 11 x, zS 18 (sA b1 off1) xs.length c, zI 19 (↑xs.length : Int), zI 20 (i + 1)]) (fun _ => [(nu1 0, .cells #[nI (max x y)] 3 (0, 0))]) (fun _ => [IntKind.i64.wrap (i + (1 : Int)) = i + (1 : Int)]) (fun _ => ⟨wrap_i64 (by omega) (by omega), trivial⟩) (fun _ => ?_)
   try simp only [cAp, nAp, aNl]
   rw [take_snoc hi0 (List.getElem?_zipWith_eq_some.2 ⟨x, y, hx, hy, rfl⟩)]
   refine J_backx ⟨i + 1, av1, k + 1, cv1⟩ [1, 2, 6, 7, 9, 18, 19, 20] [] [0] [0, 1, 2, 3, 4] ?_ ?_ (by kernel_rfl) rfl rfl rfl
   ·exact ⟨by simp only; omega, by simp only; omega⟩
   ·simp only
    omega
  ·refine J_exit rfl ?_
   refine Sq mixed [zR 0, zR 1, zR 2] [] [6, 7] (fun _ => [zS 6 av k cv, zV 7 .nilIface]) (fun _ => []) (fun _ => ?_)
   refine J_return [[], []] (.tuple #[.slice av k cv, .nilIface]) (by kernel_rfl) (fun a w s => ?_)
   refine .inr ⟨h2, av, k, cv, ?_⟩
   have e : List.take i.toNat (List.zipWith max xs ys) = List.zipWith max xs ys := List.take_of_length_le (by simp at hlt ⊢; omega)
   have s2 := s.stp (stp_freeze 0 rfl)
   rw [e] at s2
   exact s2.ret (by simp) [] [5] rfl rfl
 ·refine ⟨_, _, _, hR, ?_⟩
  try simp only [cAp, nAp, aNl]
  refine Gr (id := 1) (rest := []) [zR 3] [0, 1, 2, 6, 7, 8] (fun _ => [zS 0 a xs.length c, zS 1 b ys.length d, zV 2 (.func (.func 111) #[] #[]), zS 6 none 0 0, zV 7 .nilIface, zV 8 (.iface 243 (.pointer (some (er (twoErr xs ys)))))]) (fun _ => []) (fun _ => ?_)
  refine JR_end ?_
  refine Sq mixed [zR 0, zR 1] [] [0, 1, 2, 6, 7, 8, 16] (fun _ => [zS 0 a xs.length c, zS 1 b ys.length d, zV 2 (.func (.func 111) #[] #[]), zS 6 none 0 0, zV 7 .nilIface, zV 8 (.iface 243 (.pointer (some (er (twoErr xs ys))))), zB 16 true]) (fun _ => []) (fun _ => ?_)
  refine cTt ?_
  refine Sq mixed [zR 0, zR 1, zR 2] [] [0, 1, 2, 6, 7] (fun _ => [zS 0 a xs.length c, zS 1 b ys.length d, zV 2 (.func (.func 111) #[] #[]), zS 6 none 0 0, zV 7 (.iface 243 (.pointer (some (er (twoErr xs ys)))))]) (fun _ => []) (fun _ => ?_)
  refine J_return [[], []] (.tuple #[.slice none 0 0, .iface 243 (.pointer (some (er (twoErr xs ys))))]) (by kernel_rfl) (fun a w s => ?_)
  exact .inl ⟨h2, s.ret (by simp) [] [] rfl rfl⟩
end Go.Proofs.YtpjkiomccpjboaaGreatDoor
end
