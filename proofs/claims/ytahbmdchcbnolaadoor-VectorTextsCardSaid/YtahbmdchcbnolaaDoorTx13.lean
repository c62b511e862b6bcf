/- The engine of our walks, part 13 (with ghosts): a string's bytes, as a slice or one by one. -/
import Derived.Test.YtahbmdchcbnolaaDoorTx12
import Derived.Lib.ConvBytes
namespace Go.Sx
open Go

abbrev eB (b : UInt8) : List D := [.v (.int .u8 b.toNat)]
abbrev dBytes (s : ByteArray) : D := .sl 1 (s.data.toList.map eB)
/-- What a conversion asks. -/
def cvOf (n : Nat) (ops : Array Oper) (E : Env) (i : Nat) : Option (TypeId × TypeId × Value × Option Tmp × List Ob) :=
  match ops[i]? with
  | none => none
  | some o => if dstOk n o.dst && !isSel o.op then match (match o.guard with
      | none => some (none, [])
      | some (j, want) => (guardOf E ops j).map fun c => (some (c, want), [.bb c want])) with
    | none => none
    | some (cd, g) => match opsOk E cd o.op.operands.toList with
      | none => none
      | some q => match o.op with
        | .convert src dt x => some (src, dt, rho E x, o.dst, g ++ q)
        | _ => none
    else none
/-- What an index asks. -/
def ixOf (n : Nat) (ops : Array Oper) (E : Env) (i : Nat) : Option (TypeId × Value × Value × Option Tmp × List Ob) :=
  match ops[i]? with
  | none => none
  | some o => if dstOk n o.dst && !isSel o.op then match (match o.guard with
      | none => some (none, [])
      | some (j, want) => (guardOf E ops j).map fun c => (some (c, want), [.bb c want])) with
    | none => none
    | some (cd, g) => match opsOk E cd o.op.operands.toList with
      | none => none
      | some q => match o.op with
        | .index t x ix => some (t, rho E x, rho E ix, o.dst, g ++ q)
        | _ => none
    else none
def chkCv (x : Option (TypeId × TypeId × Value × Option Tmp × List Ob)) : Option (TypeId × TypeId × Value × Option Tmp) × (List Nat × List Bool × List (Option Nat)) × Nat := match x with
  | some y => (some (y.1, y.2.1, y.2.2.1, y.2.2.2.1), obL y.2.2.2.2, (obP y.2.2.2.2).length)
  | none => (none, ([], [], []), 0)
def trivCv (x : Option (TypeId × TypeId × Value × Option Tmp × List Ob)) : List Nat × List Bool × List (Option Nat) := match x with
  | some y => obR y.2.2.2.2
  | none => ([], [], [])
theorem chkCv_sound {x : Option (TypeId × TypeId × Value × Option Tmp × List Ob)} {src dt : TypeId} {v : Value} {dst : Option Tmp} (h : chkCv x = (some (src, dt, v, dst), trivCv x, 0)) : ∃ p, x = some (src, dt, v, dst, p) ∧ All p := by
  cases x with
  | none => simp [chkCv] at h
  | some y =>
    obtain ⟨a, b, c, d, p⟩ := y
    simp only [chkCv, trivCv, Prod.mk.injEq, Option.some.injEq] at h
    obtain ⟨⟨rfl, rfl, rfl, rfl⟩, h2, h3⟩ := h
    refine ⟨p, rfl, All_of p h2 ?_⟩
    rw [List.eq_nil_of_length_eq_zero h3]
    trivial
def chkIx (x : Option (TypeId × Value × Value × Option Tmp × List Ob)) : Option (TypeId × Value × Value × Option Tmp) × (List Nat × List Bool × List (Option Nat)) × Nat := match x with
  | some y => (some (y.1, y.2.1, y.2.2.1, y.2.2.2.1), obL y.2.2.2.2, (obP y.2.2.2.2).length)
  | none => (none, ([], [], []), 0)
def trivIx (x : Option (TypeId × Value × Value × Option Tmp × List Ob)) : List Nat × List Bool × List (Option Nat) := match x with
  | some y => obR y.2.2.2.2
  | none => ([], [], [])
theorem chkIx_sound {x : Option (TypeId × Value × Value × Option Tmp × List Ob)} {src : TypeId} {dt v : Value} {dst : Option Tmp} (h : chkIx x = (some (src, dt, v, dst), trivIx x, 0)) : ∃ p, x = some (src, dt, v, dst, p) ∧ All p := by
  cases x with
  | none => simp [chkIx] at h
  | some y =>
    obtain ⟨a, b, c, d, p⟩ := y
    simp only [chkIx, trivIx, Prod.mk.injEq, Option.some.injEq] at h
    obtain ⟨⟨rfl, rfl, rfl, rfl⟩, h2, h3⟩ := h
    refine ⟨p, rfl, All_of p h2 ?_⟩
    rw [List.eq_nil_of_length_eq_zero h3]
    trivial
section
variable {P : Program} {f : Func} [Pan f] {R : Act → World → Prop} {n : Nat} [Dfr n] {k : List Itm} {E : Env} {h r : List (Nat × Obj)} {F : List (List Nat × World)} {Y : Ghost}
theorem cvOf_sound {ops : Array Oper} {i : Nat} {src dt : TypeId} {xv : Value} {dst : Option Tmp} {p : List Ob} (he : cvOf n ops E i = some (src, dt, xv, dst, p)) (hp : All p)
    {a : Act} {w : World} {fps : List (List Nat)} (s : StF n E h r F Y a w fps) {K : Act → World → Prop} {Q : Exit → Act → World → Prop}
    (H : ∃ v' w', (convert src dt xv).run P w = .ok v' w' ∧ ∀ a', Ag n (E.put dst (.val v')) a' → K a' w') : wpOp P ops Q i K a w := by
  unfold cvOf at he
  split at he
  · cases he
  rename_i o ho
  split at he
  case isFalse => cases he
  rename_i hd
  simp only [Bool.and_eq_true, Bool.not_eq_true'] at hd
  split at he
  · cases he
  rename_i cd g hg
  split at he
  · cases he
  rename_i q hq
  split at he
  case h_2 => cases he
  rename_i src' dt' x hc
  simp only [Option.some.injEq, Prod.mk.injEq] at he
  obtain ⟨rfl, rfl, rfl, rfl, rfl⟩ := he
  obtain ⟨hg1, hq1⟩ := All_append hp
  have hwant : Region.wanted o (yielded ops a.tmps) = true ∧ ∀ c wn, cd = some (c, wn) → c = wn := by
    cases hgd : o.guard with
    | none =>
      rw [hgd] at hg
      simp only [Option.some.injEq, Prod.mk.injEq] at hg
      refine ⟨by simp [Region.wanted, hgd], fun c wn h => ?_⟩
      rw [← hg.1] at h
      cases h
    | some y =>
      obtain ⟨j, want⟩ := y
      rw [hgd] at hg
      obtain ⟨c, hc, hcg⟩ := Option.map_eq_some_iff.1 hg
      simp only [Prod.mk.injEq] at hcg
      obtain ⟨rfl, rfl⟩ := hcg
      have hy := guardOf_sound s.ag hc
      have hcw : c = want := hg1.1
      refine ⟨by simp [Region.wanted, hgd, hy, hcw], fun c' wn h => ?_⟩
      injection h with h
      injection h with h1 h2
      rw [← h1, ← h2]
      exact hcw
  unfold wpOp
  simp only [ho]
  rw [if_pos hwant.1]
  refine .inl ?_
  obtain ⟨v', w', hrun, hk⟩ := H
  unfold Oper.wp
  have hcongr : execOp a.eval o = execOp (rho E) o := execOp_congr o (fun cs b hc => by have := hd.2; rw [hc] at this; cases this) (fun x hx => opsOk_sound s.ag hwant.2 _ _ hq hq1 x (by simpa using hx))
  rw [hcongr]
  unfold execOp
  simp only [hc, Sem.run_bind, hrun, Result.andThen_ok, Sem.run_pure]
  exact hk _ (s.ag.put hd.1 (.val v'))
theorem ixOf_sound {ops : Array Oper} {i : Nat} {src : TypeId} {dt xv : Value} {dst : Option Tmp} {p : List Ob} (he : ixOf n ops E i = some (src, dt, xv, dst, p)) (hp : All p)
    {a : Act} {w : World} {fps : List (List Nat)} (s : StF n E h r F Y a w fps) {K : Act → World → Prop} {Q : Exit → Act → World → Prop}
    (H : ∃ v' w', (Instr.index src dt xv).run P w = .ok v' w' ∧ ∀ a', Ag n (E.put dst (.val v')) a' → K a' w') : wpOp P ops Q i K a w := by
  unfold ixOf at he
  split at he
  · cases he
  rename_i o ho
  split at he
  case isFalse => cases he
  rename_i hd
  simp only [Bool.and_eq_true, Bool.not_eq_true'] at hd
  split at he
  · cases he
  rename_i cd g hg
  split at he
  · cases he
  rename_i q hq
  split at he
  case h_2 => cases he
  rename_i src' dt' x hc
  simp only [Option.some.injEq, Prod.mk.injEq] at he
  obtain ⟨rfl, rfl, rfl, rfl, rfl⟩ := he
  obtain ⟨hg1, hq1⟩ := All_append hp
  have hwant : Region.wanted o (yielded ops a.tmps) = true ∧ ∀ c wn, cd = some (c, wn) → c = wn := by
    cases hgd : o.guard with
    | none =>
      rw [hgd] at hg
      simp only [Option.some.injEq, Prod.mk.injEq] at hg
      refine ⟨by simp [Region.wanted, hgd], fun c wn h => ?_⟩
      rw [← hg.1] at h
      cases h
    | some y =>
      obtain ⟨j, want⟩ := y
      rw [hgd] at hg
      obtain ⟨c, hc, hcg⟩ := Option.map_eq_some_iff.1 hg
      simp only [Prod.mk.injEq] at hcg
      obtain ⟨rfl, rfl⟩ := hcg
      have hy := guardOf_sound s.ag hc
      have hcw : c = want := hg1.1
      refine ⟨by simp [Region.wanted, hgd, hy, hcw], fun c' wn h => ?_⟩
      injection h with h
      injection h with h1 h2
      rw [← h1, ← h2]
      exact hcw
  unfold wpOp
  simp only [ho]
  rw [if_pos hwant.1]
  refine .inl ?_
  obtain ⟨v', w', hrun, hk⟩ := H
  unfold Oper.wp
  have hcongr : execOp a.eval o = execOp (rho E) o := execOp_congr o (fun cs b hc => by have := hd.2; rw [hc] at this; cases this) (fun x hx => opsOk_sound s.ag hwant.2 _ _ hq hq1 x (by simpa using hx))
  rw [hcongr]
  unfold execOp
  simp only [hc, Sem.run_bind, hrun, Result.andThen_ok, Sem.run_pure]
  exact hk _ (s.ag.put hd.1 (.val v'))
/-- '[]byte(s)': a row of its own that nobody turns. -/
theorem JR_bytes0 {id L0 i : Nat} {ck : Bool} {Wp : List (Nat × List Nat)} {rest : List (Nat × Bool)} (src dt e : TypeId) (s : ByteArray) (dst : Option Tmp)
    (he : chkCv (cvOf n (rgOf f id) E i) = (some (src, dt, .string s, dst), trivCv (cvOf n (rgOf f id) E i), 0)) (hs : P.underlying src = some .string) (hd : P.underlying dt = some (.slice e)) (hb : P.underlying e = some (.int .u8))
    (A : ∀ g c, JR P f R n (rgOf f id) L0 ck rest (Wp.filter (·.1 != i)) k (E.put dst (.val (.slice (some ⟨g, 0, none⟩) s.size c))) h r F ⟨Y.S, Y.C ++ [], Y.G ++ [(.slice (some ⟨g, 0, none⟩) s.size c, dBytes s)]⟩) :
    JR P f R n (rgOf f id) L0 ck ((i, false) :: rest) Wp k E h r F Y := by
  obtain ⟨p, he, hp⟩ := chkCv_sound he
  intro B Hd fps a w st hH hR hN hW
  simp only [PW]
  have hold : ∀ b, b < w.heap.size → (Lib.bytesWorld w e s).heap[b]? = w.heap[b]? := fun b hlt => Lib.bytesWorld_at_old w e s b hlt
  have hf : Fr [] w (Lib.bytesWorld w e s) := ⟨rfl, rfl, rfl, by rw [Lib.bytesWorld_size]; omega, fun b hlt _ => hold b hlt, Nat.le_succ _⟩
  have hnew := Lib.bytesWorld_at_new w e s
  have hlen : (s.data.toList.map eB).length = s.size := by simp
  have hcap : s.size ≤ grownCap w s.size 0 e := grownCap_ge _ _ _ _
  have hrep : Rep (Lib.bytesWorld w e s) (retS (Sd Y h fps) [] w []) (.slice (some ⟨w.heap.size, 0, none⟩) s.size (grownCap w s.size 0 e)) (dBytes s) := by
    have := Rep.sl (w := Lib.bytesWorld w e s) (S := retS (Sd Y h fps) [] w []) (off := 0) (cap := grownCap w s.size 0 e) (k := 1) (rows := s.data.toList.map eB) (fun i _ => .int .u8 (s.data.toList.getD i 0).toNat) hnew ⟨.inr (.inr (Nat.le_refl _)), by simp⟩ (by rw [hlen]; exact hcap) (by decide) (by intro row hr; obtain ⟨x, _, rfl⟩ := List.mem_map.1 hr; rfl) (fun i j hi hj => ?_) (fun i j row d hi hj => ?_)
    · rwa [hlen] at this
    · obtain rfl : j = 0 := by omega
      rw [hlen] at hi
      have h1 : i < s.data.toList.length := by simpa using hi
      have h2 : i < s.data.size := by simpa using hi
      simp [Lib.bytesCells, Array.getElem?_append, hi, h2, List.getD_eq_getElem?_getD]
    · rw [List.getElem?_map] at hi
      obtain ⟨x, hx, rfl⟩ := Option.map_eq_some_iff.1 hi
      match j, hj with
      | 0, hj =>
        simp only [List.getElem?_cons_zero, Option.some.injEq] at hj
        subst hj
        rw [List.getD_eq_getElem?_getD, hx]
        exact .v rfl
      | j + 1, hj => simp at hj
  have hRet : Ret (pick fps []).flatten w (Sd Y h fps) (Lib.bytesWorld w e s) (.returned (.slice (some ⟨w.heap.size, 0, none⟩) s.size (grownCap w s.size 0 e))) (.slice (some ⟨w.heap.size, 0, none⟩) s.size (grownCap w s.size 0 e)) [] [(.slice (some ⟨w.heap.size, 0, none⟩) s.size (grownCap w s.size 0 e), dBytes s)] :=
    ⟨rfl, hf, [], trivial, by simp, by simp, fun x hx => by rw [List.mem_singleton] at hx; subst hx; exact hrep⟩
  refine cvOf_sound he hp st ⟨_, _, Lib.run_convert_string_bytes w src dt e s hs hd hb, fun a2 hA => ⟨fun hck b hb2 hl => hold b hb2, ?_⟩⟩
  rw [filter_idsW]
  obtain ⟨fps', h3, s'⟩ := st.called (cs := []) hA hRet
  have hpk : pick Y.C (others Y.C.length []) = Y.C := by
    have h1 : others Y.C.length [] = List.range Y.C.length := by simp [others]
    rw [h1, pick_all]
  rw [hpk] at s'
  refine A w.heap.size (grownCap w s.size 0 e) B Hd _ a2 _ s' (fun b hb => ?_) ⟨hR.old, hR.ro, hR.len, Nat.le_trans hR.size hf.size⟩ hN (okWp_filter hW)
  rw [List.flatten_append] at hb
  rcases List.mem_append.1 hb with hb | hb
  · exact hH b (pick_flat_sub hb)
  · rcases h3 b hb with h1 | h1
    · exact hH b (pick_flat_sub h1)
    · exact .inr (Nat.le_trans hR.size h1)
theorem JR_bytes {S0 : Nat → Prop} {C0 : List Chunk} {G0 : List (Value × D)} {id L0 i : Nat} {ck : Bool} {Wp : List (Nat × List Nat)} {rest : List (Nat × Bool)} (src dt e : TypeId) (s : ByteArray) (dst : Option Tmp)
    (he : chkCv (cvOf n (rgOf f id) E i) = (some (src, dt, .string s, dst), trivCv (cvOf n (rgOf f id) E i), 0)) (hs : P.underlying src = some .string) (hd : P.underlying dt = some (.slice e)) (hb : P.underlying e = some (.int .u8))
    (A : ∀ g c, JR P f R n (rgOf f id) L0 ck rest (Wp.filter (·.1 != i)) k (E.put dst (.val (.slice (some ⟨g, 0, none⟩) s.size c))) h r F ⟨S0, C0, G0 ++ [(.slice (some ⟨g, 0, none⟩) s.size c, dBytes s)]⟩) :
    JR P f R n (rgOf f id) L0 ck ((i, false) :: rest) Wp k E h r F ⟨S0, C0, G0⟩ := JR_bytes0 (Y := ⟨S0, C0, G0⟩) src dt e s dst he hs hd hb fun g c => by
  have := A g c
  simpa using this
theorem bytes_get {s : ByteArray} {i : Nat} {b : UInt8} (h : s.data.toList[i]? = some b) : s[i]? = some b := by
  obtain ⟨hi, he⟩ := List.getElem?_eq_some_iff.1 h
  have h1 : i < s.size := by simpa using hi
  rw [getElem?_pos s i h1]
  congr 1
/-- 's[i]' of a string, at a letter. -/
theorem JR_idx {id L0 j : Nat} {ck : Bool} {Wp : List (Nat × List Nat)} {rest : List (Nat × Bool)} (t : TypeId) (s : ByteArray) (i : Int) (b : UInt8) (dst : Option Tmp)
    (he : chkIx (ixOf n (rgOf f id) E j) = (some (t, .string s, .int .i64 i, dst), trivIx (ixOf n (rgOf f id) E j), 0)) (hu : P.underlying t = some .string) (h0 : 0 ≤ i) (hb : s.data.toList[i.toNat]? = some b)
    (A : JR P f R n (rgOf f id) L0 ck rest (Wp.filter (·.1 != j)) k (E.put dst (.val (.int .u8 b.toNat))) h r F Y) :
    JR P f R n (rgOf f id) L0 ck ((j, false) :: rest) Wp k E h r F Y := by
  obtain ⟨p, he, hp⟩ := chkIx_sound he
  intro B Hd fps a w st hH hR hN hW
  simp only [PW]
  have h1 := bytes_get hb
  refine ixOf_sound he hp st ⟨.int .u8 b.toNat, w, by simp [Instr.index, asIntOf, run_underlying hu, h0, h1], fun a2 hA => ⟨fun hck b hb2 hl => rfl, ?_⟩⟩
  rw [filter_idsW]
  exact A B Hd fps a2 w ⟨hA, st.own, st.fr, st.may, st.gh⟩ hH hR hN (okWp_filter hW)
end
end Go.Sx
