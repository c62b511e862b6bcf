/- Part 7 of the texts of a claim: Dec Doc DocW Rd. -/
import Derived.Test.YtonhcoeneahpaaaDoorTb6
section
namespace Go.Proofs.YtonhcoeneahpaaaDoor
open Go Go.Sx
def zeroM : MsgT := ⟨0, 0, 0, 0, 0, false, ⟨[], 0, []⟩⟩
def decodeE (l : List UInt8) : MsgT × Nat :=
  if 6000 < l.length ∨ l.length < 4 then (zeroM, 1)
  else if enc4 (sumN (l.take (l.length - 4)) : Int) ≠ l.drop (l.length - 4) then (zeroM, 8)
  else match parse 8 56 24 (l.take (l.length - 4)) with
    | none => (zeroM, 1)
    | some m => (m, 0)
set_option maxHeartbeats 4000000 in
theorem sumWB {w : World} {S : Nat → Prop} {s0 : ByteArray} (h9 : s0.size ≤ 100000) : Calls Tryd.prog 21 #[.string s0] w fun e w' => Ret [] w S w' e (.int .u32 (sumN s0.data.toList)) [] [] :=
  (crcPW (S := S) h9).mono fun e w' h => by rw [crcU_sum] at h; exact h
set_option maxHeartbeats 4000000 in
theorem zret {n : Nat} {E : Env} {h r : List (Nat × Obj)} {C : List Chunk} {G : List (Value × D)} {S : Nat → Prop} {w0 : World} {a : Act} {w : World} {v : Value} (s : St n E h r [([], w0)] ⟨newS S [] w0, C, G⟩ a w) : Ret [] w0 S w (.returned v) v [] [(.slice none 0 0, dInts zeroM.c.when), (.slice none 0 0, .sl 7 (zeroM.c.ops.map eOp))] := by
  obtain ⟨_, h2, _⟩ := s.ret (v := v) (by simp) [] [] rfl rfl
  refine ⟨rfl, h2, [], trivial, by simp, by simp, fun x hx => ?_⟩
  simp only [List.mem_cons, List.not_mem_nil, or_false] at hx
  rcases hx with rfl | rfl <;> exact .nil
set_option maxHeartbeats 4000000 in
theorem mret {n : Nat} {E : Env} {h r : List (Nat × Obj)} {S : Nat → Prop} {w0 : World} {a : Act} {w : World} {v : Value} {x y : Value × D} (s : St n E h r [([], w0)] ⟨newS S [] w0, [], [x, y]⟩ a w) : Ret [] w0 S w (.returned v) v [] [x, y] := s.ret (by simp) [] [0, 1] rfl rfl
set_option maxHeartbeats 4000000 in
theorem decodeW {w0 : World} {S0 : Nat → Prop} {er : Nat → Addr} {ebs : Nat → Array Value × TypeId} {s0 : ByteArray} (hC : Rep w0 S0 .nilIface (dC er ebs)) (hs : s0.size ≤ 90000) :
    Calls Tryd.prog 11 #[.string s0] w0 fun e w' => ∃ m k v a1 n1 c1 a2 n2 c2, decodeE s0.data.toList = (m, k) ∧ ErrIs 122 er k v ∧
      Ret [] w0 S0 w' e (.tuple #[.agg #[.int .i64 m.fm, .int .i64 m.to, .int .i64 m.shard, .int .i64 m.seq, .int .i64 m.time, .bool m.beat, .slice a1 n1 c1, .int .i64 m.c.place, .slice a2 n2 c2], v]) [] [(.slice a1 n1 c1, dInts m.c.when), (.slice a2 n2 c2, .sl 7 (m.c.ops.map eOp))] := by
  have hz0 : s0.data.toList.length = s0.size := by simp
  refine calls_JD (args := [.string s0]) (S := S0) (C := []) (G := [(_, dC er ebs)]) Tryd.func11 bd11 rfl (by kernel_rfl) (Pre.none _ _) (.cons hC (.nil _ _)) fun pn hpn => ?_
  refine J_stp (stp_all 0 [0, 7] rfl rfl) ?_
  refine J_glob 1 rfl (fun csg1 tyg1 fzg1 hglob1 => ?_)
  refine J_glob 2 rfl (fun csg2 tyg2 fzg2 hglob2 => ?_)
  try simp only [aQ]
  refine J_seq ?_
  refine Zm [.wr 0 [] 0, .wr 1 [] 0] [] [] (fun nu1 => [(2, .val (.pointer (some (⟨nu1 0, 0, none⟩)))), (3, .val (.pointer (some (⟨nu1 1, 0, none⟩))))]) (fun nu1 => [(nu1 0, .cells #[.int .i64 0, .int .i64 0, .int .i64 0, .int .i64 0, .int .i64 0, .bool false, .slice none 0 0, .int .i64 0, .slice none 0 0] 34 (0, 0)), (nu1 1, .cells #[.nilIface] 31 (0, 0))]) (fun nu1 => ?_)
  refine J_seq ?_
  refine Zp [.rd 0 [] 0 0, .rd 1 [] 0 0, .rd 2 [] 0 1, .rd 3 [] 0 0] [] [(4, .val (.int .i64 ((↑s0.size : Int) - 4)))] [IntKind.i64.wrap ((↑s0.size : Int) - (4 : Int)) = (↑s0.size : Int) - (4 : Int)] ⟨wrap_i64 (by omega) (by omega), trivial⟩ ?_
  refine J_seq ?_
  refine J_seq ?_
  refine Za (Rds 0 4 ++ [.rd 4 [] 2 0, .rd 5 [] 2 0, .rd 6 [] 0 3]) [] [(15, .val (.bool (decide ((↑s0.size : Int) > 6000) || decide ((↑s0.size : Int) - 4 < 0))))] ?_
  refine J_cond (f := Tryd.f11) (t := decide ((↑s0.size : Int) > 6000) || decide ((↑s0.size : Int) - 4 < 0)) (by kernel_rfl) (by kernel_rfl) (fun hlen => ?_) (fun hlen => ?_)
  · refine J_seq ?_
    refine Zn [.rd 0 [] 0 0, .rd 1 [.r 0 (some (.iface 122 (.pointer (some (er 1)))))] 0 0, .wr 2 [.o 0 none, .o 0 none, .o 0 none, .o 0 none, .o 0 none, .o 0 none, .o 0 none, .o 0 none, .o 0 none] 0, .wr 3 [.o 1 none] 0] [(2, [0]), (3, [1])] [15] (fun _ => []) (fun _ => [(nu1 0, .cells #[.int .i64 0, .int .i64 0, .int .i64 0, .int .i64 0, .int .i64 0, .bool false, .slice none 0 0, .int .i64 0, .slice none 0 0] 34 (0, 0)), (nu1 1, .cells #[.iface 122 (.pointer (some (er 1)))] 31 (0, 0))]) (fun _ => [csg1[(0 : Nat)]? = some (Value.iface (122 : Nat) (Value.pointer (some (er (1 : Nat)))))]) (fun _ => ⟨hglob1, trivial⟩) (fun _ => ?_)
    refine J_ret fun a w s => leave0 [[.o 0 none, .o 0 none, .o 0 none, .o 0 none, .o 0 none, .o 0 none, .o 0 none, .o 0 none, .o 0 none], [.o 1 none]] (.tuple #[.agg #[.int .i64 0, .int .i64 0, .int .i64 0, .int .i64 0, .int .i64 0, .bool false, .slice none 0 0, .int .i64 0, .slice none 0 0], .iface 122 (.pointer (some (er 1)))]) rfl s (by kernel_rfl) ⟨zeroM, 1, _, none, 0, 0, none, 0, 0, ?_, .inr ⟨by decide, rfl⟩, zret s⟩
    have hl : 6000 < s0.data.toList.length ∨ s0.data.toList.length < 4 := by
      rw [hz0]
      simp at hlen
      omega
    rw [decodeE, if_pos hl]
  · have h4 : 4 ≤ s0.size := by simp at hlen; omega
    have h60 : s0.size ≤ 6000 := by simp at hlen; omega
    have hl : ¬ (6000 < s0.data.toList.length ∨ s0.data.toList.length < 4) := by omega
    have ek : ((s0.size : Int) - 4).toNat = s0.data.toList.length - 4 := by omega
    have ht : (s0.extract 0 ((s0.size : Int) - 4).toNat).data.toList = s0.data.toList.take (s0.data.toList.length - 4) := by rw [ext_take, ek]
    have hts : (s0.extract 0 ((s0.size : Int) - 4).toNat).size ≤ 6000 := by
      have : (s0.extract 0 ((s0.size : Int) - 4).toNat).data.toList.length ≤ 6000 := by
        rw [ht, List.length_take]
        omega
      simpa using this
    refine J_skip ?_
    refine J_seq ?_
    refine J_seq ?_
    refine jT [(0, true), (1, true), (2, true), (5, true), (6, true), (7, true), (3, false), (4, false), (8, true)] [] ?_
    refine Yp (f := Tryd.f11) (id := 4) (rest := [(3, false), (4, false), (8, true)]) [.rd 0 [] 0 0, .rd 1 [] 0 0, .rd 2 [] 0 4, .rd 5 [] 0 0, .rd 6 [] 0 0, .rd 7 [] 0 4] [15] [(20, .val (.string (s0.extract 0 ((↑s0.size : Int) - 4).toNat))), (25, .val (.string (s0.extract ((↑s0.size : Int) - 4).toNat s0.size)))] [(0 : Int) ≤ (↑s0.size : Int) - (4 : Int), (↑s0.size : Int) - (4 : Int) ≤ (↑s0.size : Int), (0 : Int) ≤ (↑s0.size : Int) - (4 : Int), (↑s0.size : Int) - (4 : Int) ≤ (↑s0.size : Int)] ⟨by omega, by omega, by omega, by omega, trivial⟩ ?_
    refine Yc 21 #[.string (s0.extract 0 ((↑s0.size : Int) - 4).toNat)] (some 21) fun w S hG => ?_
    refine (sumWB (S := S) (by omega)).mono ?_
    rintro e1 w1 hR
    refine ⟨_, _, _, hR, ?_⟩
    try simp only [aQ]
    refine Yc 20 #[.int .u32 ((↑(sumN (s0.extract 0 ((↑s0.size : Int) - 4).toNat).data.toList) : Int))] (some 22) fun w S hG => ?_
    refine (fourW (S := S)).mono ?_
    rintro e2 w2 hR
    refine ⟨_, _, _, hR, ?_⟩
    try simp only [aQ]
    refine Ya (f := Tryd.f11) (id := 4) (rest := []) [.rd 8 [] 0 0] [22, 21, 20, 25] [(26, .val (.bool (!(ByteArray.mk (enc4 (↑(sumN (s0.extract 0 ((↑s0.size : Int) - 4).toNat).data.toList) : Int)).toArray).toList == (s0.extract ((↑s0.size : Int) - 4).toNat s0.size).toList)))] ?_
    refine JR_end ?_
    refine J_cond (f := Tryd.f11) (t := !(ByteArray.mk (enc4 (↑(sumN (s0.extract 0 ((↑s0.size : Int) - 4).toNat).data.toList) : Int)).toArray).toList == (s0.extract ((↑s0.size : Int) - 4).toNat s0.size).toList) (by kernel_rfl) (by kernel_rfl) (fun hsum => ?_) (fun hsum => ?_)
    · refine J_seq ?_
      refine Zn [.rd 0 [] 0 0, .rd 1 [.r 1 (some (.iface 122 (.pointer (some (er 8)))))] 0 0, .wr 2 [.o 0 none, .o 0 none, .o 0 none, .o 0 none, .o 0 none, .o 0 none, .o 0 none, .o 0 none, .o 0 none] 0, .wr 3 [.o 1 none] 0] [(2, [0]), (3, [1])] [26] (fun _ => []) (fun _ => [(nu1 0, .cells #[.int .i64 0, .int .i64 0, .int .i64 0, .int .i64 0, .int .i64 0, .bool false, .slice none 0 0, .int .i64 0, .slice none 0 0] 34 (0, 0)), (nu1 1, .cells #[.iface 122 (.pointer (some (er 8)))] 31 (0, 0))]) (fun _ => [csg2[(0 : Nat)]? = some (Value.iface (122 : Nat) (Value.pointer (some (er (8 : Nat)))))]) (fun _ => ⟨hglob2, trivial⟩) (fun _ => ?_)
      refine J_ret fun a w s => leave0 [[.o 0 none, .o 0 none, .o 0 none, .o 0 none, .o 0 none, .o 0 none, .o 0 none, .o 0 none, .o 0 none], [.o 1 none]] (.tuple #[.agg #[.int .i64 0, .int .i64 0, .int .i64 0, .int .i64 0, .int .i64 0, .bool false, .slice none 0 0, .int .i64 0, .slice none 0 0], .iface 122 (.pointer (some (er 8)))]) rfl s (by kernel_rfl) ⟨zeroM, 8, _, none, 0, 0, none, 0, 0, ?_, .inr ⟨by decide, rfl⟩, zret s⟩
      have hne : enc4 (sumN (s0.data.toList.take (s0.data.toList.length - 4)) : Int) ≠ s0.data.toList.drop (s0.data.toList.length - 4) := fun he => by
        rw [ByteArray.toList_eq, ByteArray.toList_eq, ht, ext_drop, ek] at hsum
        simp at hsum
        rw [hz0] at he
        exact hsum he
      rw [decodeE, if_neg hl, if_pos hne]
    · have heq : ¬ (enc4 (sumN (s0.data.toList.take (s0.data.toList.length - 4)) : Int) ≠ s0.data.toList.drop (s0.data.toList.length - 4)) := fun he => by
        rw [ByteArray.toList_eq, ByteArray.toList_eq, ht, ext_drop, ek] at hsum
        simp at hsum
        exact he hsum
      have hdec : decodeE s0.data.toList = match parse 8 56 24 (s0.extract 0 ((s0.size : Int) - 4).toNat).data.toList with
          | none => (zeroM, 1)
          | some m => (m, 0) := by
        rw [decodeE, if_neg hl, if_neg heq, ht]
      obtain ⟨t0, ht0⟩ : ∃ t, t = s0.extract 0 ((s0.size : Int) - 4).toNat := ⟨_, rfl⟩
      rw [← ht0] at hdec hts
      refine J_skip ?_
      refine J_seq ?_
      refine jT [(0, true), (1, false)] [] ?_
      refine Ya (f := Tryd.f11) (id := 6) (rest := [(1, false)]) [.rd 0 [] 0 0] [26] [(29, .val (.func (.func 26) #[] #[.pointer (some (⟨nu1 0, 0, none⟩)), .pointer (some (⟨nu1 1, 0, none⟩))]))] ?_
      refine JR_defer 26 (#[Value.pointer (some (Addr.mk (nu1 0) 0 none)), Value.pointer (some (Addr.mk (nu1 1) 0 none))]) #[] none (by kernel_rfl) rfl [] rfl (fun inst1 hds1 => ?_)
      have hpan : ∀ {E : Env} {h r : List (Nat × Obj)} {C : List Chunk} {G : List (Value × D)} {a : Act} {w : World} {x0 x1 x2 x3 x4 x5 x6 x7 x8 y : Value}, parse 8 56 24 t0.data.toList = none → @St Tryd.f11.ntmps inst1 E h r [([], w0)] ⟨newS S0 [] w0, C, G⟩ a w → keepE E (pins Tryd.f11) = [(2, .val (.pointer (some ⟨nu1 0, 0, none⟩))), (3, .val (.pointer (some ⟨nu1 1, 0, none⟩)))] → pick h [0, 1] = [(nu1 0, .cells #[x0, x1, x2, x3, x4, x5, x6, x7, x8] 34 (0, 0)), (nu1 1, .cells #[y] 31 (0, 0))] → pick G [0] = [(.nilIface, dC er ebs)] → Pan.pan Tryd.f11 blind a w := fun hp s hE hh hG => hpn _ _ _ (decPan s hds1 hE hh hG fun E' a' w' s => ⟨zeroM, 1, _, none, 0, 0, none, 0, 0, by rw [hdec, hp], .inr ⟨by decide, rfl⟩, zret s⟩)
      refine JR_end ?_
      refine J_seq ?_
      refine Zn [.rd 0 [] 0 0, .rd 1 [] 0 0, .rd 2 [] 0 4, .rd 3 [] 0 0, .wr 4 [] 0, .rd 5 [] 0 0] [] [29, 4, 0] (fun nu2 => [(5, .val (.pointer (some (⟨nu2 0, 0, none⟩))))]) (fun nu2 => [(nu1 0, .cells #[.int .i64 0, .int .i64 0, .int .i64 0, .int .i64 0, .int .i64 0, .bool false, .slice none 0 0, .int .i64 0, .slice none 0 0] 34 (0, 0)), (nu1 1, .cells #[.nilIface] 31 (0, 0)), (nu2 0, .cells #[.string (s0.extract 0 ((↑s0.size : Int) - 4).toNat)] 74 (0, 0))]) (fun nu2 => [(0 : Int) ≤ (↑s0.size : Int) - (4 : Int), (↑s0.size : Int) - (4 : Int) ≤ (↑s0.size : Int)]) (fun _ => ⟨by omega, by omega, trivial⟩) (fun nu2 => ?_)
      refine J_seq ?_
      rw [← ht0]
      refine J_hide 2 rfl ?_
      have hy0 : t0.data.toList.length = t0.size := by simp
      try simp only [aQ]
      refine jT [(0, true), (1, false), (2, true), (3, false), (4, true), (5, false), (6, true), (7, false), (8, true), (9, false), (10, true), (11, false), (12, true), (13, false)] [] ?_
      refine Ya (f := Tryd.f11) (n := Tryd.f11.ntmps) (id := 8) (rest := [(1, false), (2, true), (3, false), (4, true), (5, false), (6, true), (7, false), (8, true), (9, false), (10, true), (11, false), (12, true), (13, false)]) [.rd 0 [] 0 0] [] [(35, .val (.pointer (some (⟨nu2 0, 0, none⟩))))] ?_
      refine JR_callpan [] [0] 27 #[.pointer (some (⟨nu2 0, 0, none⟩))] (some 36) (by kernel_rfl) (by kernel_rfl) (by decide) (fun w S M hP hG _ => ?_)
      refine (eyeNumber (s0 := t0) (by omega) hP).mono ?_
      rintro e3 w3 (⟨fm, t1, h1, hR⟩ | ⟨h1, hR⟩)
      · refine .inl ⟨_, _, _, hR, ?_⟩
        have hy1 : t1.data.toList.length = t1.size := by simp
        have hle1 := codecN.le h1
        refine JN [cObj (nu2 0) (.cells #[.string t1] 74 (0, 0))] ?_
        try simp only [aQ]
        refine Ya (f := Tryd.f11) (n := Tryd.f11.ntmps) (id := 8) (rest := [(3, false), (4, true), (5, false), (6, true), (7, false), (8, true), (9, false), (10, true), (11, false), (12, true), (13, false)]) [.rd 2 [] 0 0] [35] [(37, .val (.pointer (some (⟨nu2 0, 0, none⟩))))] ?_
        refine JR_callpan [] [0] 27 #[.pointer (some (⟨nu2 0, 0, none⟩))] (some 38) (by kernel_rfl) (by kernel_rfl) (by decide) (fun w S M hP hG _ => ?_)
        refine (eyeNumber (s0 := t1) (by omega) hP).mono ?_
        rintro e4 w4 (⟨to, t2, h2, hR⟩ | ⟨h2, hR⟩)
        · refine .inl ⟨_, _, _, hR, ?_⟩
          have hy2 : t2.data.toList.length = t2.size := by simp
          have hle2 := codecN.le h2
          refine JN [cObj (nu2 0) (.cells #[.string t2] 74 (0, 0))] ?_
          try simp only [aQ]
          refine Ya (f := Tryd.f11) (n := Tryd.f11.ntmps) (id := 8) (rest := [(5, false), (6, true), (7, false), (8, true), (9, false), (10, true), (11, false), (12, true), (13, false)]) [.rd 4 [] 0 0] [37] [(39, .val (.pointer (some (⟨nu2 0, 0, none⟩))))] ?_
          refine JR_callpan [] [0] 27 #[.pointer (some (⟨nu2 0, 0, none⟩))] (some 40) (by kernel_rfl) (by kernel_rfl) (by decide) (fun w S M hP hG _ => ?_)
          refine (eyeNumber (s0 := t2) (by omega) hP).mono ?_
          rintro e5 w5 (⟨sh, t3, h3, hR⟩ | ⟨h3, hR⟩)
          · refine .inl ⟨_, _, _, hR, ?_⟩
            have hy3 : t3.data.toList.length = t3.size := by simp
            have hle3 := codecN.le h3
            refine JN [cObj (nu2 0) (.cells #[.string t3] 74 (0, 0))] ?_
            try simp only [aQ]
            refine Ya (f := Tryd.f11) (n := Tryd.f11.ntmps) (id := 8) (rest := [(7, false), (8, true), (9, false), (10, true), (11, false), (12, true), (13, false)]) [.rd 6 [] 0 0] [39] [(41, .val (.pointer (some (⟨nu2 0, 0, none⟩))))] ?_
            refine JR_callpan [] [0] 27 #[.pointer (some (⟨nu2 0, 0, none⟩))] (some 42) (by kernel_rfl) (by kernel_rfl) (by decide) (fun w S M hP hG _ => ?_)
            refine (eyeNumber (s0 := t3) (by omega) hP).mono ?_
            rintro e6 w6 (⟨sq, t4, h4, hR⟩ | ⟨h4, hR⟩)
            · refine .inl ⟨_, _, _, hR, ?_⟩
              have hy4 : t4.data.toList.length = t4.size := by simp
              have hle4 := codecN.le h4
              refine JN [cObj (nu2 0) (.cells #[.string t4] 74 (0, 0))] ?_
              try simp only [aQ]
              refine Ya (f := Tryd.f11) (n := Tryd.f11.ntmps) (id := 8) (rest := [(9, false), (10, true), (11, false), (12, true), (13, false)]) [.rd 8 [] 0 0] [41] [(43, .val (.pointer (some (⟨nu2 0, 0, none⟩))))] ?_
              refine JR_callpan [] [0] 27 #[.pointer (some (⟨nu2 0, 0, none⟩))] (some 44) (by kernel_rfl) (by kernel_rfl) (by decide) (fun w S M hP hG _ => ?_)
              refine (eyeNumber (s0 := t4) (by omega) hP).mono ?_
              rintro e7 w7 (⟨ti, t5, h5, hR⟩ | ⟨h5, hR⟩)
              · refine .inl ⟨_, _, _, hR, ?_⟩
                have hy5 : t5.data.toList.length = t5.size := by simp
                have hle5 := codecN.le h5
                refine JN [cObj (nu2 0) (.cells #[.string t5] 74 (0, 0))] ?_
                try simp only [aQ]
                refine Ya (f := Tryd.f11) (n := Tryd.f11.ntmps) (id := 8) (rest := [(11, false), (12, true), (13, false)]) [.rd 10 [] 0 0] [43] [(45, .val (.pointer (some (⟨nu2 0, 0, none⟩))))] ?_
                refine JR_callpan [] [0] 28 #[.pointer (some (⟨nu2 0, 0, none⟩))] (some 46) (by kernel_rfl) (by kernel_rfl) (by decide) (fun w S M hP hG _ => ?_)
                refine (eyeFlag (s0 := t5) (by omega) hP).mono ?_
                rintro e8 w8 (⟨be, t6, h6, hR⟩ | ⟨h6, hR⟩)
                · refine .inl ⟨_, _, _, hR, ?_⟩
                  have hy6 : t6.data.toList.length = t6.size := by simp
                  have hle6 := codecF.le h6
                  refine JN [cObj (nu2 0) (.cells #[.string t6] 74 (0, 0))] ?_
                  try simp only [aQ]
                  refine Ym (f := Tryd.f11) (n := Tryd.f11.ntmps) (id := 8) (rest := []) [.rd 12 [] 0 0, .wr 13 [.o 0 none, .o 0 none, .o 0 none, .o 0 none, .o 0 none, .o 0 none, .o 0 none, .o 0 none, .o 0 none] 0] [46, 45, 44, 42, 40, 38, 36] (fun _ => []) (fun _ => [(nu1 0, .cells #[.int .i64 fm, .int .i64 to, .int .i64 sh, .int .i64 sq, .int .i64 ti, .bool be, .slice none 0 0, .int .i64 0, .slice none 0 0] 34 (0, 0)), (nu1 1, .cells #[.nilIface] 31 (0, 0))]) [] (fun _ => ?_)
                  refine JR_end ?_
                  refine J_seq ?_
                  refine J_seq ?_
                  refine Nm [cObj (nu2 0) (.cells #[.string t6] 74 (0, 0))] ?_
                  refine jT [(0, true), (1, false), (2, true)] [] ?_
                  refine Ya (f := Tryd.f11) (n := Tryd.f11.ntmps) (id := 9) (rest := [(1, false), (2, true)]) [.rd 0 [] 0 0] [] [(48, .val (.pointer (some (⟨nu2 0, 0, none⟩))))] ?_
                  refine JR_callpan [] [0] 29 #[.pointer (some (⟨nu2 0, 0, none⟩)), .int .i64 8] (some 49) (by kernel_rfl) (by kernel_rfl) (by decide) (fun w S M hP hG _ => ?_)
                  refine (eyeMany8 (s0 := t6) (by omega) hP).mono ?_
                  rintro e9 w9 (⟨nw, t7, h7, hR⟩ | ⟨h7, hR⟩)
                  · refine .inl ⟨_, _, _, hR, ?_⟩
                    have hy7 : t7.data.toList.length = t7.size := by simp
                    obtain ⟨hm7a, hm7b, hm7c⟩ := rdMany_some h7
                    have hle7 := codecN.le hm7a
                    have hm7d : nw ≤ 1000000 := by
                      have := Nat.div_le_self t7.data.toList.length 8
                      omega
                    refine JN [cObj (nu2 0) (.cells #[.string t7] 74 (0, 0))] ?_
                    try simp only [aQ]
                    refine Ya (f := Tryd.f11) (n := Tryd.f11.ntmps) (id := 9) (rest := []) [.rd 2 [] 0 0] [48] [(50, .val (.int .i64 0))] ?_
                    refine JR_end ?_
                    refine J_block ?_
                    refine J_stp (stp_accm eI 3 1) ?_
                    try simp only [aQ]
                    refine J_loopx (f := Tryd.f11) (n := Tryd.f11.ntmps) (fun x : EyeI Int => [(2, .val (.pointer (some (⟨nu1 0, 0, none⟩)))), (3, .val (.pointer (some (⟨nu1 1, 0, none⟩)))), (5, .val (.pointer (some (⟨nu2 0, 0, none⟩)))), (49, .val (.int .i64 nw)), (50, .val (.int .i64 x.i))]) (fun x : EyeI Int => [(nu1 0, .cells #[.int .i64 fm, .int .i64 to, .int .i64 sh, .int .i64 sq, .int .i64 ti, .bool be, .slice x.a x.k x.c, .int .i64 0, .slice none 0 0] 34 (0, 0)), (nu1 1, .cells #[.nilIface] 31 (0, 0))]) (fun x : EyeI Int => [cObj (nu2 0) (eyeC x.s), cAcc (.slice x.a x.k x.c) 3 1 (x.l.map eI)]) (fun x : EyeI Int => [(.nilIface, (dC er ebs)), (.pointer (some (⟨1, 0, none⟩)), (D.ptr [D.v (Value.iface 122 (Value.pointer (some (er 1))))])), (.pointer (some (⟨2, 0, none⟩)), (D.ptr [D.v (Value.iface 122 (Value.pointer (some (er 8))))]))]) (fun x : EyeI Int => (nw - x.i).toNat) (fun x : EyeI Int => (0 ≤ x.i ∧ x.i ≤ nw ∧ x.s.size ≤ 90000 ∧ (x.l.length : Int) = x.i ∧ rdRep rdN nw.toNat t7.data.toList = (rdRep rdN (nw - x.i).toNat x.s.data.toList).map fun q => (x.l ++ q.1, q.2))) ⟨0, none, 0, 0, t7, []⟩ [2, 3, 5, 49, 50] [0, 1] [0, 1] [0, 1, 2] ?_ (by kernel_rfl) rfl rfl rfl ?_
                    · refine ⟨by simp, hm7b, by simp only; omega, by simp, ?_⟩
                      simp only [Int.sub_zero]
                      cases rdRep rdN nw.toNat t7.data.toList <;> rfl
                    rintro ⟨i, av, k, cv, sx0, l⟩ ⟨hi0, hi, hsz, hll, hr⟩
                    dsimp only at hi0 hi hsz hll hr ⊢
                    refine J_stpx (stp_acclen 1 rfl) fun _ hk => ?_
                    rw [List.length_map] at hk
                    have hx0 : sx0.data.toList.length = sx0.size := by simp
                    refine J_seq ?_
                    refine Za [.rd 0 [] 0 0] [] [(51, .val (.bool (decide (i < nw))))] ?_
                    refine J_seq ?_
                    refine J_cond (f := Tryd.f11) (n := Tryd.f11.ntmps) (t := decide (i < nw)) (by kernel_rfl) (by kernel_rfl) (fun hlt => ?_) (fun hlt => ?_)
                    · have hlt2 : i < nw := by simpa using hlt
                      refine J_skip ?_
                      refine J_seq ?_
                      refine J_block ?_
                      refine jT [(0, true), (1, true), (2, true), (3, true), (4, false), (5, false), (6, false), (7, true), (8, true), (9, false)] [(4, []), (6, []), (9, [0])] ?_
                      refine Ya (f := Tryd.f11) (n := Tryd.f11.ntmps) (id := 11) (rest := [(4, false), (5, false), (6, false), (7, true), (8, true), (9, false)]) [.rd 0 [] 0 0, .rd 1 [] 0 0, .rd 2 [.o 0 none] 0 0, .rd 3 [] 0 0] [51] [(54, .val (.slice av k cv)), (55, .val (.pointer (some (⟨nu2 0, 0, none⟩))))] ?_
                      refine JR_callpan [] [0] 27 #[.pointer (some (⟨nu2 0, 0, none⟩))] (some 56) (by kernel_rfl) (by kernel_rfl) (by decide) (fun w S M hP hG _ => ?_)
                      refine (eyeNumber (s0 := sx0) (by omega) hP).mono ?_
                      rintro e20 w20 (⟨x1, s8, g1, hR⟩ | ⟨g1, hR⟩)
                      · refine .inl ⟨_, _, _, hR, ?_⟩
                        have hz8 : s8.data.toList.length = s8.size := by simp
                        have hle8 := codecN.le g1
                        refine JN [cAcc (.slice av k cv) 3 1 (List.map eI l), cObj (nu2 0) (.cells #[.string s8] 74 (0, 0))] ?_
                        try simp only [aQ]
                        refine Ym (f := Tryd.f11) (n := Tryd.f11.ntmps) (id := 11) (rest := [(6, false), (7, true), (8, true), (9, false)]) [.wr 5 [] 0] [56, 55] (fun nu3 => [(57, .val (.slice (some (⟨nu3 0, 0, none⟩)) 1 1))]) (fun nu3 => [(nu1 0, .cells #[.int .i64 fm, .int .i64 to, .int .i64 sh, .int .i64 sq, .int .i64 ti, .bool be, .slice av k cv, .int .i64 0, .slice none 0 0] 34 (0, 0)), (nu1 1, .cells #[.nilIface] 31 (0, 0)), (nu3 0, .cells #[.int .i64 x1] 3 (0, 0))]) [(6, []), (9, [0])] (fun nu3 => ?_)
                        refine JR_appm (f := Tryd.f11) (n := Tryd.f11.ntmps) 0 22 3 1 8 (.int .i64 0) (a0 := av) (len := k) (cap0 := cv) (ax := (some (⟨nu3 0, 0, none⟩))) (m := 1) (c := 1) (dst := (some 58)) [(x1 : Int)] (by kernel_rfl) (by kernel_rfl) (by kernel_rfl) (by kernel_rfl) rfl (by decide) rfl (fun _ _ _ s => src_one s 2 rfl rfl ⟨.inl ⟨rfl, rfl⟩, trivial⟩) (by simp only [maxLen]; omega) (by omega) (fun av1 cv1 => ?_)
                        try simp only [aQ]
                        refine Ym (f := Tryd.f11) (n := Tryd.f11.ntmps) (id := 11) (rest := []) [.rd 7 [] 0 0, .rd 8 [] 0 0, .wr 9 [.o 0 none] 0] [58, 57, 54] (fun _ => []) (fun _ => [(nu1 0, .cells #[.int .i64 fm, .int .i64 to, .int .i64 sh, .int .i64 sq, .int .i64 ti, .bool be, .slice av1 (k + 1) cv1, .int .i64 0, .slice none 0 0] 34 (0, 0)), (nu1 1, .cells #[.nilIface] 31 (0, 0)), (nu3 0, .cells #[.int .i64 x1] 3 (0, 0))]) [] (fun _ => ?_)
                        try simp only [aQ]
                        refine JR_end ?_
                        try simp only [aQ]
                        refine J_eb ?_
                        try simp only [aQ]
                        refine Zp [.rd 0 [] 0 1, .rd 1 [] 0 0] [] [(50, .val (.int .i64 (i + 1)))] [IntKind.i64.wrap (i + (1 : Int)) = i + (1 : Int)] ⟨wrap_i64 (by omega) (by omega), trivial⟩ ?_
                        try simp only [aQ]
                        refine J_backx (f := Tryd.f11) (n := Tryd.f11.ntmps) ⟨i + 1, av1, k + 1, cv1, s8, l ++ [x1]⟩ [2, 3, 5, 49, 50] [0, 1] [0, 1] [0, 1, 2] ?_ ?_ (by kernel_rfl) rfl rfl rfl
                        · refine ⟨by simp only; omega, by simp only; omega, by simp only; omega, by simp; omega, ?_⟩
                          simp only
                          rw [hr, rep_step hlt2 hi0 g1, Option.map_map]
                          congr 1
                          funext q
                          simp
                        · simp only
                          omega
                      · refine .inr ⟨_, hR, fun a w s => hpan ?_ s (by kernel_rfl) rfl rfl⟩
                        simp only [parse, rdMsg, andR, rdL, h1, h2, h3, h4, h5, h6, h7, Option.bind_some]
                        rw [hr, rep_none hlt2 hi0 g1]
                        rfl
                    · obtain rfl : i = nw := by simp at hlt; omega
                      refine J_stp (stp_freeze 1 rfl) ?_
                      refine Nm [cObj (nu2 0) (.cells #[.string sx0] 74 (0, 0))] ?_
                      rw [Int.sub_self] at hr
                      have hw : rdL 8 rdN t6.data.toList = some (l, sx0.data.toList) := by
                        simp only [rdL, h7, Option.bind_some]
                        rw [hr]
                        simp [rdRep]
                      try simp only [aQ]
                      refine J_exit rfl ?_
                      refine J_seq ?_
                      refine Nm [cObj (nu2 0) (.cells #[.string sx0] 74 (0, 0))] ?_
                      refine jT [(0, true), (1, false), (2, true), (3, true), (4, false)] [] ?_
                      refine Ya (f := Tryd.f11) (n := Tryd.f11.ntmps) (id := 13) (rest := [(1, false), (2, true), (3, true), (4, false)]) [.rd 0 [] 0 0] [51, 49, 50] [(62, .val (.pointer (some (⟨nu2 0, 0, none⟩))))] ?_
                      refine JR_callpan [] [0] 27 #[.pointer (some (⟨nu2 0, 0, none⟩))] (some 63) (by kernel_rfl) (by kernel_rfl) (by decide) (fun w S M hP hG _ => ?_)
                      refine (eyeNumber (s0 := sx0) (by omega) hP).mono ?_
                      rintro e30 w30 (⟨pl, t8, h8, hR⟩ | ⟨h8, hR⟩)
                      · refine .inl ⟨_, _, _, hR, ?_⟩
                        have hy8 : t8.data.toList.length = t8.size := by simp
                        have hle8 := codecN.le h8
                        try simp only [aQ]
                        refine Ym (f := Tryd.f11) (n := Tryd.f11.ntmps) (id := 13) (rest := []) [.rd 2 [] 0 0, .rd 3 [] 0 0, .wr 4 [.o 0 none] 0] [63, 62] (fun _ => []) (fun _ => [(nu1 0, .cells #[.int .i64 fm, .int .i64 to, .int .i64 sh, .int .i64 sq, .int .i64 ti, .bool be, .slice av k cv, .int .i64 pl, .slice none 0 0] 34 (0, 0)), (nu1 1, .cells #[.nilIface] 31 (0, 0))]) [] (fun _ => ?_)
                        try simp only [aQ]
                        refine JR_end ?_
                        try simp only [aQ]
                        refine J_seq ?_
                        try simp only [aQ]
                        refine J_seq ?_
                        try simp only [aQ]
                        refine Nm [cObj (nu2 0) (.cells #[.string t8] 74 (0, 0))] ?_
                        refine jT [(0, true), (1, false), (2, true)] [] ?_
                        refine Ya (f := Tryd.f11) (n := Tryd.f11.ntmps) (id := 14) (rest := [(1, false), (2, true)]) [.rd 0 [] 0 0] [] [(66, .val (.pointer (some (⟨nu2 0, 0, none⟩))))] ?_
                        refine JR_callpan [] [0] 29 #[.pointer (some (⟨nu2 0, 0, none⟩)), .int .i64 56] (some 67) (by kernel_rfl) (by kernel_rfl) (by decide) (fun w S M hP hG _ => ?_)
                        refine (eyeMany56 (s0 := t8) (by omega) hP).mono ?_
                        rintro e31 w31 (⟨no, t9, h9, hR⟩ | ⟨h9, hR⟩)
                        · refine .inl ⟨_, _, _, hR, ?_⟩
                          have hy9 : t9.data.toList.length = t9.size := by simp
                          obtain ⟨hm9a, hm9b, hm9c⟩ := rdMany_some h9
                          have hle9 := codecN.le hm9a
                          have hm9d : no ≤ 1000000 := by
                            have := Nat.div_le_self t9.data.toList.length 56
                            omega
                          refine JN [cObj (nu2 0) (.cells #[.string t9] 74 (0, 0))] ?_
                          try simp only [aQ]
                          refine Ya (f := Tryd.f11) (n := Tryd.f11.ntmps) (id := 14) (rest := []) [.rd 2 [] 0 0] [66] [(68, .val (.int .i64 0))] ?_
                          refine JR_end ?_
                          refine J_block ?_
                          refine J_stp (stp_accm eOp 52 7) ?_
                          try simp only [aQ]
                          refine J_loopx (f := Tryd.f11) (n := Tryd.f11.ntmps) (fun x : EyeI OpT => [(2, .val (.pointer (some (⟨nu1 0, 0, none⟩)))), (3, .val (.pointer (some (⟨nu1 1, 0, none⟩)))), (5, .val (.pointer (some (⟨nu2 0, 0, none⟩)))), (67, .val (.int .i64 no)), (68, .val (.int .i64 x.i))]) (fun x : EyeI OpT => [(nu1 0, .cells #[.int .i64 fm, .int .i64 to, .int .i64 sh, .int .i64 sq, .int .i64 ti, .bool be, .slice av k cv, .int .i64 pl, .slice x.a x.k x.c] 34 (0, 0)), (nu1 1, .cells #[.nilIface] 31 (0, 0))]) (fun x : EyeI OpT => [cObj (nu2 0) (eyeC x.s), cAcc (.slice x.a x.k x.c) 52 7 (x.l.map eOp)]) (fun x : EyeI OpT => [(.nilIface, (dC er ebs)), (.pointer (some (⟨1, 0, none⟩)), (D.ptr [D.v (Value.iface 122 (Value.pointer (some (er 1))))])), (.pointer (some (⟨2, 0, none⟩)), (D.ptr [D.v (Value.iface 122 (Value.pointer (some (er 8))))])), (.slice av k cv, (D.sl 1 (List.map eI l)))]) (fun x : EyeI OpT => (no - x.i).toNat) (fun x : EyeI OpT => (0 ≤ x.i ∧ x.i ≤ no ∧ x.s.size ≤ 90000 ∧ (x.l.length : Int) = x.i ∧ rdRep (rdOp 24) no.toNat t9.data.toList = (rdRep (rdOp 24) (no - x.i).toNat x.s.data.toList).map fun q => (x.l ++ q.1, q.2))) ⟨0, none, 0, 0, t9, []⟩ [2, 3, 5, 67, 68] [0, 1] [0, 1] [0, 1, 2, 3] ?_ (by kernel_rfl) rfl rfl rfl ?_
                          · refine ⟨by simp, hm9b, by simp only; omega, by simp, ?_⟩
                            simp only [Int.sub_zero]
                            cases rdRep (rdOp 24) no.toNat t9.data.toList <;> rfl
                          rintro ⟨j, ao, ko, co, sy, lo⟩ ⟨hj0, hj, hsz2, hll2, hr2⟩
                          dsimp only at hj0 hj hsz2 hll2 hr2 ⊢
                          refine J_stpx (stp_acclen 1 rfl) fun _ hk2 => ?_
                          rw [List.length_map] at hk2
                          have hsy : sy.data.toList.length = sy.size := by simp
                          refine J_seq ?_
                          refine Za [.rd 0 [] 0 0] [] [(69, .val (.bool (decide (j < no))))] ?_
                          refine J_seq ?_
                          refine J_cond (f := Tryd.f11) (n := Tryd.f11.ntmps) (t := decide (j < no)) (by kernel_rfl) (by kernel_rfl) (fun hlt => ?_) (fun hlt => ?_)
                          · have hlt2 : j < no := by simpa using hlt
                            refine J_skip ?_
                            refine J_seq ?_
                            refine J_block ?_
                            refine jT [(0, true), (1, true), (2, true), (3, true), (4, false), (5, false), (6, false), (7, true), (8, true), (9, false)] [(4, []), (6, []), (9, [0])] ?_
                            refine Ya (f := Tryd.f11) (n := Tryd.f11.ntmps) (id := 16) (rest := [(4, false), (5, false), (6, false), (7, true), (8, true), (9, false)]) [.rd 0 [] 0 0, .rd 1 [] 0 0, .rd 2 [.o 0 none] 0 0, .rd 3 [] 0 0] [69] [(72, .val (.slice ao ko co)), (73, .val (.pointer (some (⟨nu2 0, 0, none⟩))))] ?_
                            refine JR_callpan [] [0] 30 #[.pointer (some (⟨nu2 0, 0, none⟩))] (some 74) (by kernel_rfl) (by kernel_rfl) (by decide) (fun w S M hP hG _ => ?_)
                            refine (eyeOp (s0 := sy) (by omega) hP).mono ?_
                            rintro e40 w40 (⟨o, s8, b1, m1, d1, g1, hR⟩ | ⟨g1, hR⟩)
                            · refine .inl ⟨_, _, _, hR, ?_⟩
                              have hz8 : s8.data.toList.length = s8.size := by simp
                              have hle8b := (codecOp 24 (by decide) (by decide)).le g1
                              refine JN [cAcc (.slice ao ko co) 52 7 (List.map eOp lo), cObj (nu2 0) (.cells #[.string s8] 74 (0, 0))] ?_
                              try simp only [aQ]
                              refine Ym (f := Tryd.f11) (n := Tryd.f11.ntmps) (id := 16) (rest := [(6, false), (7, true), (8, true), (9, false)]) [.wr 5 [] 0] [74, 73] (fun nu3 => [(75, .val (.slice (some (⟨nu3 0, 0, none⟩)) 1 1))]) (fun nu3 => [(nu1 0, .cells #[.int .i64 fm, .int .i64 to, .int .i64 sh, .int .i64 sq, .int .i64 ti, .bool be, .slice av k cv, .int .i64 pl, .slice ao ko co] 34 (0, 0)), (nu1 1, .cells #[.nilIface] 31 (0, 0)), (nu3 0, .cells #[.int .i64 o.no, .string o.key, .int .i64 o.kind, .string o.text, .int .i64 o.n, .bool o.remove, .slice b1 m1 d1] 52 (0, 0))]) [(6, []), (9, [0])] (fun nu3 => ?_)
                              refine JR_appm (f := Tryd.f11) (n := Tryd.f11.ntmps) 0 23 52 7 88 (.agg #[.int .i64 0, .string (ByteArray.mk #[]), .int .i64 0, .string (ByteArray.mk #[]), .int .i64 0, .bool false, .slice none 0 0]) (a0 := ao) (len := ko) (cap0 := co) (ax := (some (⟨nu3 0, 0, none⟩))) (m := 1) (c := 1) (dst := (some 76)) [(o : OpT)] (by kernel_rfl) (by kernel_rfl) (by kernel_rfl) (by kernel_rfl) rfl (by decide) rfl (fun _ _ _ s => src_one s 2 rfl rfl ⟨.inl ⟨rfl, rfl⟩, ⟨.inl ⟨rfl, rfl⟩, ⟨.inl ⟨rfl, rfl⟩, ⟨.inl ⟨rfl, rfl⟩, ⟨.inl ⟨rfl, rfl⟩, ⟨.inl ⟨rfl, rfl⟩, ⟨.inr (.inl (List.mem_of_getElem? (i := 4) rfl)), trivial⟩⟩⟩⟩⟩⟩⟩) (by simp only [maxLen]; omega) (by omega) (fun av1 cv1 => ?_)
                              try simp only [aQ]
                              refine Ym (f := Tryd.f11) (n := Tryd.f11.ntmps) (id := 16) (rest := []) [.rd 7 [] 0 0, .rd 8 [] 0 0, .wr 9 [.o 0 none] 0] [76, 75, 72] (fun _ => []) (fun _ => [(nu1 0, .cells #[.int .i64 fm, .int .i64 to, .int .i64 sh, .int .i64 sq, .int .i64 ti, .bool be, .slice av k cv, .int .i64 pl, .slice av1 (ko + 1) cv1] 34 (0, 0)), (nu1 1, .cells #[.nilIface] 31 (0, 0)), (nu3 0, .cells #[.int .i64 o.no, .string o.key, .int .i64 o.kind, .string o.text, .int .i64 o.n, .bool o.remove, .slice b1 m1 d1] 52 (0, 0))]) [] (fun _ => ?_)
                              try simp only [aQ]
                              refine JR_end ?_
                              try simp only [aQ]
                              refine J_eb ?_
                              try simp only [aQ]
                              refine Zp [.rd 0 [] 0 1, .rd 1 [] 0 0] [] [(68, .val (.int .i64 (j + 1)))] [IntKind.i64.wrap (j + (1 : Int)) = j + (1 : Int)] ⟨wrap_i64 (by omega) (by omega), trivial⟩ ?_
                              try simp only [aQ]
                              refine J_backx (f := Tryd.f11) (n := Tryd.f11.ntmps) ⟨j + 1, av1, ko + 1, cv1, s8, lo ++ [o]⟩ [2, 3, 5, 67, 68] [0, 1] [0, 1] [0, 1, 2, 3] ?_ ?_ (by kernel_rfl) rfl rfl rfl
                              · refine ⟨by simp only; omega, by simp only; omega, by simp only; omega, by simp; omega, ?_⟩
                                simp only
                                rw [hr2, rep_step hlt2 hj0 g1, Option.map_map]
                                congr 1
                                funext q
                                simp
                              · simp only
                                omega
                            · refine .inr ⟨_, hR, fun a w s => hpan ?_ s (by kernel_rfl) rfl rfl⟩
                              simp only [parse, rdMsg, andR, h1, h2, h3, h4, h5, h6, hw, h8, Option.bind_some]
                              simp only [rdL, h9, Option.bind_some]
                              rw [hr2, rep_none hlt2 hj0 g1]
                              rfl
                          · obtain rfl : j = no := by simp at hlt; omega
                            refine J_stp (stp_freeze 1 rfl) ?_
                            rw [Int.sub_self] at hr2
                            have ho : rdL 56 (rdOp 24) t8.data.toList = some (lo, sy.data.toList) := by
                              simp only [rdL, h9, Option.bind_some]
                              rw [hr2]
                              simp [rdRep]
                            try simp only [aQ]
                            refine J_exit rfl ?_
                            refine J_seq ?_
                            refine Nm [cObj (nu2 0) (.cells #[.string sy] 74 (0, 0))] ?_
                            refine J_show 0 rfl ?_
                            refine jT [(0, true), (1, true), (2, true), (3, true), (4, true), (5, false)] [] ?_
                            refine Ya (f := Tryd.f11) (n := Tryd.f11.ntmps) (id := 18) (rest := [(5, false)]) (Rds 0 3 ++ [.rd 3 [.o 2 none] 0 0, .rd 4 [] 0 0]) [69, 5, 67, 68] [(84, .val (.bool (sy.toList == (ByteArray.mk #[]).toList)))] ?_
                            refine JR_callpanp [] 31 #[.bool (sy.toList == (ByteArray.mk #[]).toList)] (some 85) (by kernel_rfl) (fun w S hG => ?_)
                            refine (mustW (S := S)).mono ?_
                            rintro e50 w50 (⟨hb, hR⟩ | ⟨hb, hR⟩)
                            · refine .inl ⟨_, _, _, hR, ?_⟩
                              have hnil : sy.data.toList = [] := by
                                rw [ByteArray.toList_eq, ByteArray.toList_eq] at hb
                                simpa using hb
                              have hp : parse 8 56 24 t0.data.toList = some ⟨fm, to, sh, sq, ti, be, ⟨l, pl, lo⟩⟩ := by
                                simp only [parse, rdMsg, andR, h1, h2, h3, h4, h5, h6, hw, h8, ho, Option.bind_some]
                                rw [if_pos hnil]
                              try simp only [aQ]
                              refine JR_end ?_
                              refine J_seq ?_
                              refine Zm [.rd 0 [.o 0 none, .o 0 none, .o 0 none, .o 0 none, .o 0 none, .o 0 none, .o 0 none, .o 0 none, .o 0 none] 0 0, .wr 1 [.o 0 none, .o 0 none, .o 0 none, .o 0 none, .o 0 none, .o 0 none, .o 0 none, .o 0 none, .o 0 none] 0, .wr 2 [.o 1 none] 0] [(1, [0]), (2, [1])] [85, 84] (fun _ => []) (fun _ => [(nu1 0, .cells #[.int .i64 fm, .int .i64 to, .int .i64 sh, .int .i64 sq, .int .i64 ti, .bool be, .slice av k cv, .int .i64 pl, .slice ao ko co] 34 (0, 0)), (nu1 1, .cells #[.nilIface] 31 (0, 0)), (nu2 0, .cells #[.string sy] 74 (0, 0))]) (fun _ => ?_)
                              refine J_ret fun a w s => decRet [3, 4] s hds1 (by kernel_rfl) rfl rfl fun E' a' w' s => ⟨⟨fm, to, sh, sq, ti, be, ⟨l, pl, lo⟩⟩, 0, _, _, _, _, _, _, _, by rw [hdec, hp], .inl ⟨rfl, rfl⟩, mret s⟩
                            · refine .inr ⟨_, hR, fun a w s => hpan ?_ s (by kernel_rfl) rfl rfl⟩
                              have hnil : sy.data.toList ≠ [] := fun he => by
                                rw [ByteArray.toList_eq, ByteArray.toList_eq, he] at hb
                                simp at hb
                              simp only [parse, rdMsg, andR, h1, h2, h3, h4, h5, h6, hw, h8, ho, Option.bind_some]
                              rw [if_neg hnil]
                        · refine .inr ⟨_, hR, fun a w s => hpan ?_ s (by kernel_rfl) rfl rfl⟩
                          simp only [parse, rdMsg, andR, h1, h2, h3, h4, h5, h6, hw, h8, Option.bind_some, Option.bind_none]
                          simp only [rdL, h9, Option.bind_none]
                      · refine .inr ⟨_, hR, fun a w s => hpan ?_ s (by kernel_rfl) rfl rfl⟩
                        simp only [parse, rdMsg, andR, h1, h2, h3, h4, h5, h6, hw, h8, Option.bind_some, Option.bind_none]
                  · refine .inr ⟨_, hR, fun a w s => hpan ?_ s (by kernel_rfl) rfl rfl⟩
                    simp only [parse, rdMsg, andR, rdL, h1, h2, h3, h4, h5, h6, h7, Option.bind_some, Option.bind_none]
                · refine .inr ⟨_, hR, fun a w s => hpan ?_ s (by kernel_rfl) rfl rfl⟩
                  simp only [parse, rdMsg, andR, h1, h2, h3, h4, h5, h6, Option.bind_some, Option.bind_none]
              · refine .inr ⟨_, hR, fun a w s => hpan ?_ s (by kernel_rfl) rfl rfl⟩
                simp only [parse, rdMsg, andR, h1, h2, h3, h4, h5, Option.bind_some, Option.bind_none]
            · refine .inr ⟨_, hR, fun a w s => hpan ?_ s (by kernel_rfl) rfl rfl⟩
              simp only [parse, rdMsg, andR, h1, h2, h3, h4, Option.bind_some, Option.bind_none]
          · refine .inr ⟨_, hR, fun a w s => hpan ?_ s (by kernel_rfl) rfl rfl⟩
            simp only [parse, rdMsg, andR, h1, h2, h3, Option.bind_some, Option.bind_none]
        · refine .inr ⟨_, hR, fun a w s => hpan ?_ s (by kernel_rfl) rfl rfl⟩
          simp only [parse, rdMsg, andR, h1, h2, Option.bind_some, Option.bind_none]
      · refine .inr ⟨_, hR, fun a w s => hpan ?_ s (by kernel_rfl) rfl rfl⟩
        simp only [parse, rdMsg, andR, h1, Option.bind_some, Option.bind_none]
end Go.Proofs.YtonhcoeneahpaaaDoor
end
section
namespace Go.Proofs.YtonhcoeneahpaaaDoor
open Go Go.Sx
theorem byteI_shr {n d : Int} (k : Nat) (hd : d = 2 ^ (8 * k)) : byteI (n.fdiv d) 0 = byteI n k := by
  unfold byteI
  rw [hd, Int.fdiv_eq_ediv_of_nonneg _ (Int.pow_nonneg (by decide)), Nat.mul_zero, Int.pow_zero, Int.ediv_one]
end Go.Proofs.YtonhcoeneahpaaaDoor
end
section
namespace Go.Proofs.YtonhcoeneahpaaaDoor
open Go Go.Sx
set_option maxHeartbeats 4000000 in
theorem sumRB {w : World} {S : Nat → Prop} {s0 : ByteArray} (h9 : s0.size ≤ 100000) : Calls Tryd.prog 14 #[.string s0] w fun e w' => Ret [] w S w' e (.int .i64 (sumN s0.data.toList)) [] [] :=
  (crcRW (S := S) h9).mono fun e w' h => by rw [crcR_sum] at h; exact h
theorem baSize (l : List UInt8) : (ByteArray.mk l.toArray).size = l.length := by
  show l.toArray.size = l.length
  simp
end Go.Proofs.YtonhcoeneahpaaaDoor
end
section
namespace Go.Proofs.YtonhcoeneahpaaaDoor
open Go Go.Sx
abbrev rdC (s : ByteArray) (b : Bool) : Obj := .cells #[.string s, .bool b] 81 (0, 0)
set_option maxHeartbeats 4000000 in
theorem rNumber {w0 : World} {S : Nat → Prop} {M : List Nat} {pb : Nat} {s0 : ByteArray} {b0 : Bool} (hs : s0.size ≤ 1000000) (hP : Pre w0 S M [cObj pb (rdC s0 b0)]) :
    Calls Tryd.prog 33 #[.pointer (some ⟨pb, 0, none⟩)] w0 fun e w' => ∃ n s1 b1, rN (s0.data.toList, b0) = (n, (s1.data.toList, b1)) ∧ s1.size ≤ s0.size ∧ Ret M w0 S w' e (.int .i64 n) [cObj pb (rdC s1 b1)] [] := by
  have hz : s0.data.toList.length = s0.size := by simp
  refine en33 (args := [.pointer (some ⟨pb, 0, none⟩)]) (S := S) (C := [cObj pb (rdC s0 b0)]) (G := []) (by kernel_rfl) hP (AllG.nil w0 S) ?_
  refine J_show 0 rfl ?_
  refine J_seq ?_
  refine Za [.rd 0 [] 0 0] [] [(2, .val (.int .i64 0))] ?_
  refine J_seq ?_
  refine J_seq ?_
  refine Za (Rds 0 3 ++ [.rd 3 [.o 0 none] 0 0, .rd 4 [] 0 0, .rd 5 [] 2 0, .rd 6 [] 2 0, .rd 7 [] 2 0, .rd 8 [.o 0 none] 2 0, .rd 9 [] 2 0, .rd 10 [] 2 0, .rd 11 [] 0 3]) [] [(16, .val (.bool (b0 || decide ((↑s0.size : Int) < 8))))] ?_
  refine J_cond (t := b0 || decide ((↑s0.size : Int) < 8)) (by kernel_rfl) (by kernel_rfl) (fun hbad => ?_) (fun hbad => ?_)
  · refine J_seq ?_
    refine Zm (Rds 0 3 ++ [.wr 3 [.o 0 none] 0]) [(3, [0])] [16] (fun _ => []) (fun _ => [(pb, .cells #[.string s0, .bool true] 81 (0, 0))]) (fun _ => ?_)
    refine J_seq ?_
    refine Za [.rd 0 [] 0 0] [] [] ?_
    refine Yr [[]] (.int .i64 0) fun a w s => ?_
    refine ⟨0, s0, true, ?_, Nat.le_refl _, (s.hide 0 rfl).ret (by simp) [0] [] rfl rfl⟩
    rw [rN, if_pos]
    simp at hbad ⊢
    rcases hbad with h | h
    · exact .inl h
    · exact .inr (by omega)
  · have hb8 : b0 = false ∧ 8 ≤ s0.size := by
      simp at hbad
      exact ⟨hbad.1, by omega⟩
    refine J_skip ?_
    refine J_seq ?_
    refine Za [.rd 0 [] 0 0] [16] [(3, .val (.int .i64 0))] ?_
    refine J_seq ?_
    refine J_seq ?_
    refine Za [.rd 0 [] 0 0] [] [(4, .val (.int .i64 0))] ?_
    refine J_block ?_
    refine J_loopx (fun x : Int × Int => [(0, .val (.pointer (some (⟨pb, 0, none⟩)))), (2, .val (.int .i64 0)), (3, .val (.int .i64 x.1)), (4, .val (.int .i64 x.2))]) (fun x : Int × Int => [(pb, .cells #[.string s0, .bool b0] 81 (0, 0))]) (fun x : Int × Int => []) (fun x : Int × Int => []) (fun x : Int × Int => (8 - x.2).toNat) (fun x : Int × Int => (0 ≤ x.2 ∧ x.2 ≤ 8 ∧ x.1 = numOf (s0.data.toList.take x.2.toNat))) (0, 0) [0, 2, 3, 4] [0] [] [] ?_ (by kernel_rfl) rfl rfl rfl ?_
    · exact ⟨by simp, by simp, rfl⟩
    rintro ⟨n, i⟩ ⟨hi0, hi, hn⟩
    dsimp only at hi0 hi hn ⊢
    refine J_seq ?_
    refine J_seq ?_
    refine Za [.rd 0 [] 0 0, .rd 1 [] 0 0] [] [(21, .val (.bool (decide (i < 8))))] ?_
    refine J_cond (t := decide (i < 8)) (by kernel_rfl) (by kernel_rfl) (fun hlt => ?_) (fun hlt => ?_)
    · have hlt2 : i < 8 := by simpa using hlt
      obtain ⟨b, hb⟩ : ∃ x, s0.data.toList[i.toNat]? = some x := ⟨_, List.getElem?_eq_getElem (by omega)⟩
      refine J_skip ?_
      refine J_seq ?_
      refine J_block ?_
      refine jT [(0, true), (1, true), (2, true), (3, true), (4, true), (5, true), (6, true), (7, false), (8, true), (9, true), (10, true)] [] ?_
      refine Ya (id := 8) (rest := [(7, false), (8, true), (9, true), (10, true)]) (Rds 0 5 ++ [.rd 5 [.o 0 none] 0 0, .rd 6 [] 0 0]) [21] [(25, .val (.int .i64 (IntKind.i64.wrap (n * 2 ^ min (Int.toNat 8) IntKind.i64.bits)))), (29, .val (.string s0)), (30, .val (.int .i64 i))] ?_
      refine JR_idx 9 s0 i _ (some 31) (by kernel_rfl) (by kernel_rfl) hi0 hb ?_
      refine Ya (id := 8) (rest := []) (Rds 8 11) [31, 25, 29, 30] [(3, .val (.int .i64 (IntKind.i64.wrap (↑(BitVec.ofInt IntKind.i64.bits (IntKind.i64.wrap (n * 2 ^ min (Int.toNat 8) IntKind.i64.bits)) ||| BitVec.ofInt IntKind.i64.bits (IntKind.i64.wrap (↑b.toNat : Int))).toNat : Int))))] ?_
      refine JR_end ?_
      refine J_eb ?_
      refine Zp [.rd 0 [] 0 0, .rd 1 [] 0 1, .rd 2 [] 0 0] [] [(4, .val (.int .i64 (i + 1)))] [IntKind.i64.wrap (i + (1 : Int)) = i + (1 : Int)] ⟨wrap_i64 (by omega) (by omega), trivial⟩ ?_
      refine J_backx (hornI n b, i + 1) [0, 2, 3, 4] [0] [] [] ?_ ?_ (by kernel_rfl) rfl rfl rfl
      · refine ⟨by simp only; omega, by simp only; omega, ?_⟩
        simp only
        rw [num_snoc hi0 hb, ← hn]
      · simp only
        omega
    · obtain rfl : i = 8 := by simp at hlt; omega
      refine J_exit rfl ?_
      refine J_seq ?_
      refine Zn (Rds 0 4 ++ [.rd 4 [.o 0 none] 0 0, .rd 5 [] 0 4, .rd 6 [] 0 0, .rd 7 [] 0 0, .wr 8 [.o 0 none] 0]) [(8, [0])] [21, 0, 4] (fun _ => []) (fun _ => [(pb, .cells #[.string (s0.extract (Int.toNat 8) s0.size), .bool b0] 81 (0, 0))]) (fun _ => [(0 : Int) ≤ (8 : Int), (8 : Int) ≤ (↑s0.size : Int)]) (fun _ => ⟨hi0, by omega, trivial⟩) (fun _ => ?_)
      refine J_seq ?_
      refine Za [.rd 0 [] 0 0, .rd 1 [] 0 0] [3] [(2, .val (.int .i64 n))] ?_
      refine Yr [[]] (.int .i64 n) fun a w s => ?_
      refine ⟨n, _, b0, ?_, ?_, (s.hide 0 rfl).ret (by simp) [0] [] rfl rfl⟩
      · rw [rN, if_neg (by rw [hb8.1]; simp; omega), hn, ext_drop, hb8.1]
        rfl
      · simp
set_option maxHeartbeats 4000000 in
theorem rManyC {w0 : World} {S : Nat → Prop} {M : List Nat} {pb : Nat} {s0 : ByteArray} {b0 : Bool} (hs : s0.size ≤ 1000000) (hP : Pre w0 S M [cObj pb (rdC s0 b0)]) :
    Calls Tryd.prog 35 #[.pointer (some ⟨pb, 0, none⟩)] w0 fun e w' => ∃ n s1 b1, rMany (s0.data.toList, b0) = (n, (s1.data.toList, b1)) ∧ 0 ≤ n ∧ n ≤ s1.size ∧ s1.size ≤ s0.size ∧ Ret M w0 S w' e (.int .i64 n) [cObj pb (rdC s1 b1)] [] := by
  refine en35 (args := [.pointer (some ⟨pb, 0, none⟩)]) (S := S) (C := [cObj pb (rdC s0 b0)]) (G := []) (by kernel_rfl) hP (AllG.nil w0 S) ?_
  refine J_seq ?_
  refine Za [.rd 0 [] 0 0] [] [(2, .val (.int .i64 0))] ?_
  refine J_seq ?_
  refine jT [(0, true), (1, false), (2, true)] [] ?_
  refine Ya (id := 1) (rest := [(1, false), (2, true)]) [.rd 0 [] 0 0] [] [(4, .val (.pointer (some (⟨pb, 0, none⟩))))] ?_
  refine JR_call [] [0] 33 #[.pointer (some (⟨pb, 0, none⟩))] (some 5) (by kernel_rfl) (by kernel_rfl) (by decide) (fun w S M hP hG _ => ?_)
  refine (rNumber hs hP).mono ?_
  rintro e1 w1 ⟨n, s1, b1, hn, hle, hR⟩
  refine ⟨_, _, _, hR, ?_⟩
  have hz1 : s1.data.toList.length = s1.size := by simp
  try simp only [aQ]
  refine Ya (id := 1) (rest := []) [.rd 2 [] 0 0] [5, 4] [(3, .val (.int .i64 n))] ?_
  try simp only [aQ]
  refine JR_end ?_
  try simp only [aQ]
  refine J_seq ?_
  try simp only [aQ]
  refine J_seq ?_
  try simp only [aQ]
  refine Nm [cObj pb (.cells #[.string s1, .bool b1] 81 (0, 0))] ?_
  refine J_show 0 rfl ?_
  refine Za (Rds 0 3 ++ [.rd 3 [] 2 0, .rd 4 [] 2 0, .rd 5 [] 2 0, .rd 6 [] 2 0, .rd 7 [.o 0 none] 2 0, .rd 8 [] 2 0, .rd 9 [] 2 0, .rd 10 [] 0 3]) [] [(16, .val (.bool (decide (n < 0) || decide (n > (↑s1.size : Int)))))] ?_
  refine J_cond (t := decide (n < 0) || decide (n > (↑s1.size : Int))) (by kernel_rfl) (by kernel_rfl) (fun hbad => ?_) (fun hbad => ?_)
  · have hb2 : n < 0 ∨ n > (s1.data.toList.length : Int) := by
      rw [hz1]
      simpa using hbad
    refine J_seq ?_
    refine Zm (Rds 0 3 ++ [.wr 3 [.o 0 none] 0]) [(3, [0])] [16, 0] (fun _ => []) (fun _ => [(pb, .cells #[.string s1, .bool true] 81 (0, 0))]) (fun _ => ?_)
    refine J_seq ?_
    refine Za [.rd 0 [] 0 0] [] [] ?_
    refine Yr [[]] (.int .i64 0) fun a w s => ?_
    refine ⟨0, s1, true, ?_, by omega, by omega, hle, (s.hide 0 rfl).ret (by simp) [0] [] rfl rfl⟩
    rw [rMany, hn, if_pos hb2]
  · have hb2 : ¬ (n < 0 ∨ n > (s1.data.toList.length : Int)) := by
      rw [hz1]
      simp at hbad
      omega
    refine J_skip ?_
    refine J_seq ?_
    refine Za [.rd 0 [] 0 0, .rd 1 [] 0 0] [16, 3, 0] [(2, .val (.int .i64 n))] ?_
    refine Yr [[]] (.int .i64 n) fun a w s => ?_
    refine ⟨n, s1, b1, ?_, by omega, by omega, hle, (s.hide 0 rfl).ret (by simp) [0] [] rfl rfl⟩
    rw [rMany, hn, if_neg hb2]
set_option maxHeartbeats 4000000 in
theorem rTextC {w0 : World} {S : Nat → Prop} {M : List Nat} {pb : Nat} {s0 : ByteArray} {b0 : Bool} (hs : s0.size ≤ 1000000) (hP : Pre w0 S M [cObj pb (rdC s0 b0)]) :
    Calls Tryd.prog 36 #[.pointer (some ⟨pb, 0, none⟩)] w0 fun e w' => ∃ t s1 b1, rT (s0.data.toList, b0) = (t, (s1.data.toList, b1)) ∧ s1.size ≤ s0.size ∧ Ret M w0 S w' e (.string t) [cObj pb (rdC s1 b1)] [] := by
  refine en36 (args := [.pointer (some ⟨pb, 0, none⟩)]) (S := S) (C := [cObj pb (rdC s0 b0)]) (G := []) (by kernel_rfl) hP (AllG.nil w0 S) ?_
  refine J_seq ?_
  refine Za [.rd 0 [] 0 0] [] [(2, .val (.string (ByteArray.mk #[])))] ?_
  refine J_seq ?_
  refine jT [(0, true), (1, false), (2, true)] [] ?_
  refine Ya (id := 1) (rest := [(1, false), (2, true)]) [.rd 0 [] 0 0] [] [(5, .val (.pointer (some (⟨pb, 0, none⟩))))] ?_
  refine JR_call [] [0] 35 #[.pointer (some (⟨pb, 0, none⟩))] (some 6) (by kernel_rfl) (by kernel_rfl) (by decide) (fun w S M hP hG _ => ?_)
  refine (rManyC hs hP).mono ?_
  rintro e1 w1 ⟨n, s1, b1, hn, h0, h1, hle, hR⟩
  refine ⟨_, _, _, hR, ?_⟩
  try simp only [aQ]
  refine Ya (id := 1) (rest := []) [.rd 2 [] 0 0] [6, 5] [(3, .val (.int .i64 n))] ?_
  try simp only [aQ]
  refine JR_end ?_
  try simp only [aQ]
  refine J_seq ?_
  try simp only [aQ]
  refine Nm [cObj pb (.cells #[.string s1, .bool b1] 81 (0, 0))] ?_
  refine J_show 0 rfl ?_
  refine Zp (Rds 0 3 ++ [.rd 3 [.o 0 none] 0 0, .rd 4 [] 0 0, .rd 5 [] 0 4, .rd 6 [] 0 0]) [] [(4, .val (.string (s1.extract 0 n.toNat)))] [(0 : Int) ≤ n, n ≤ (↑s1.size : Int)] ⟨h0, h1, trivial⟩ ?_
  refine J_seq ?_
  refine Zn (Rds 0 4 ++ [.rd 4 [.o 0 none] 0 0, .rd 5 [] 0 0, .rd 6 [] 0 4, .rd 7 [] 0 0, .rd 8 [] 0 0, .wr 9 [.o 0 none] 0]) [(9, [0])] [3, 0] (fun _ => []) (fun _ => [(pb, .cells #[.string (s1.extract n.toNat s1.size), .bool b1] 81 (0, 0))]) (fun _ => [(0 : Int) ≤ n, n ≤ (↑s1.size : Int)]) (fun _ => ⟨h0, h1, trivial⟩) (fun _ => ?_)
  refine J_seq ?_
  refine Za [.rd 0 [] 0 0, .rd 1 [] 0 0] [4] [(2, .val (.string (s1.extract 0 n.toNat)))] ?_
  refine Yr [[]] (.string (s1.extract 0 n.toNat)) fun a w s => ?_
  refine ⟨_, _, b1, ?_, ?_, (s.hide 0 rfl).ret (by simp) [0] [] rfl rfl⟩
  · rw [rT, hn, ext_drop, ← ext_take, ← ba_of rfl]
  · refine Nat.le_trans ?_ hle
    simp
set_option maxHeartbeats 4000000 in
theorem rFlagC {w0 : World} {S : Nat → Prop} {M : List Nat} {pb : Nat} {s0 : ByteArray} {b0 : Bool} (hs : s0.size ≤ 1000000) (hP : Pre w0 S M [cObj pb (rdC s0 b0)]) :
    Calls Tryd.prog 34 #[.pointer (some ⟨pb, 0, none⟩)] w0 fun e w' => ∃ b s1 b1, rF (s0.data.toList, b0) = (b, (s1.data.toList, b1)) ∧ s1.size ≤ s0.size ∧ Ret M w0 S w' e (.bool b) [cObj pb (rdC s1 b1)] [] := by
  refine en34 (args := [.pointer (some ⟨pb, 0, none⟩)]) (S := S) (C := [cObj pb (rdC s0 b0)]) (G := []) (by kernel_rfl) hP (AllG.nil w0 S) ?_
  refine J_seq ?_
  refine Za [.rd 0 [] 0 0] [] [(2, .val (.bool false))] ?_
  refine J_seq ?_
  refine jT [(0, true), (1, false), (2, true)] [] ?_
  refine Ya (id := 1) (rest := [(1, false), (2, true)]) [.rd 0 [] 0 0] [] [(4, .val (.pointer (some (⟨pb, 0, none⟩))))] ?_
  refine JR_call [] [0] 33 #[.pointer (some (⟨pb, 0, none⟩))] (some 5) (by kernel_rfl) (by kernel_rfl) (by decide) (fun w S M hP hG _ => ?_)
  refine (rNumber hs hP).mono ?_
  rintro e1 w1 ⟨n, s1, b1, hn, hle, hR⟩
  refine ⟨_, _, _, hR, ?_⟩
  try simp only [aQ]
  refine Ya (id := 1) (rest := []) [.rd 2 [] 0 0] [5, 4] [(3, .val (.int .i64 n))] ?_
  try simp only [aQ]
  refine JR_end ?_
  try simp only [aQ]
  refine J_seq ?_
  try simp only [aQ]
  refine J_seq ?_
  try simp only [aQ]
  refine Nm [cObj pb (.cells #[.string s1, .bool b1] 81 (0, 0))] ?_
  refine J_show 0 rfl ?_
  refine Za (Rds 0 3 ++ [.rd 3 [] 2 0, .rd 4 [] 2 0, .rd 5 [] 0 3]) [] [(11, .val (.bool (decide (n < 0) || decide (n > 1))))] ?_
  refine J_cond (t := decide (n < 0) || decide (n > 1)) (by kernel_rfl) (by kernel_rfl) (fun hbad => ?_) (fun hbad => ?_)
  · have hb2 : n < 0 ∨ n > 1 := by simpa using hbad
    refine Zm (Rds 0 3 ++ [.wr 3 [.o 0 none] 0]) [(3, [0])] [11, 0] (fun _ => []) (fun _ => [(pb, .cells #[.string s1, .bool true] 81 (0, 0))]) (fun _ => ?_)
    refine J_seq ?_
    refine Za (Rds 0 3) [3] [(2, .val (.bool (n == 1)))] ?_
    refine Yr [[]] (.bool (n == 1)) fun a w s => ?_
    refine ⟨_, s1, true, ?_, hle, (s.hide 0 rfl).ret (by simp) [0] [] rfl rfl⟩
    rw [rF, hn, if_pos hb2]
  · have hb2 : ¬ (n < 0 ∨ n > 1) := by
      simp at hbad
      omega
    refine J_skip ?_
    refine J_seq ?_
    refine Za (Rds 0 3) [11, 3, 0] [(2, .val (.bool (n == 1)))] ?_
    refine Yr [[]] (.bool (n == 1)) fun a w s => ?_
    refine ⟨_, s1, b1, ?_, hle, (s.hide 0 rfl).ret (by simp) [0] [] rfl rfl⟩
    rw [rF, hn, if_neg hb2]
end Go.Proofs.YtonhcoeneahpaaaDoor
end
