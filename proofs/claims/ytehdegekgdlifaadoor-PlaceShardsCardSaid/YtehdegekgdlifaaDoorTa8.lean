/- Part 8 of the texts of a claim: Put PartP Read Cut AckD Send Send3 PlV PlC. -/
import Derived.Test.YtehdegekgdlifaaDoorTa7
section
namespace Go.Sx
open Go
structure PutS where
  i : Int
  es : Array MapEntry
  clock : Nat
  ks : List ByteArray
  F : ByteArray → Value
  es1 : Array MapEntry
  clock1 : Nat
end Go.Sx
namespace Go.Proofs.YtehdegekgdlifaaDoor
open Go Go.Sx
def exiAt (L : List PutT) (c : ComT) (i : Nat) : Nat := match c.ops[i]? with
  | none => 0
  | some o => if dotOf c o ∈ L.map dotP then 6 else 0
def putFault (p : Nat) (base : List Int) (L : List PutT) (c : ComT) : FT :=
  if (comFault c).code ≠ 0 then comFault c
  else if c.when.length ≠ p then ⟨3, -1⟩
  else if inL c.when base = true then ⟨9, -1⟩
  else scanF (exiAt L c) c.ops.length 0
def putsOf (c : ComT) (l : List OpT) : List PutT := l.map fun o => ⟨c.when, c.place, o⟩
theorem keyC_snoc (A : List PutT) (q : PutT) (t : ByteArray) : keyC (A ++ [q]) t = keyC A t ++ if q.op.key = t then [oneC q] else [] := by
  rw [keyC, keyC, List.filter_append, List.map_append]
  congr 1
  by_cases h : q.op.key = t <;> simp [h]
theorem keyC_len (A : List PutT) (t : ByteArray) : (keyC A t).length ≤ A.length := by
  rw [keyC, List.length_map]
  exact List.length_filter_le _ _
set_option maxHeartbeats 4000000 in
theorem verDot {w : World} {S : Nat → Prop} {a1 a2 : Option Addr} {n1 c1 n2 c2 : Nat} {c : ComT} {o : OpT} {v : Value} (ov : v.oneCell' = true) (h1 : Rep w S (.slice a1 n1 c1) (dInts c.when)) (hp0 : 0 ≤ c.place) (hp1 : c.place < c.when.length) :
    Calls Tryd.prog 38 #[.agg #[.slice a1 n1 c1, .int .i64 c.place, .slice a2 n2 c2], opA o v] w fun e w' => Ret [] w S w' e (dotV (dotOf c o)) [] [] := by
  obtain rfl := rep_ints_len h1
  refine ep38 (args := [.agg #[.slice a1 c.when.length c1, .int .i64 c.place, .slice a2 n2 c2], opA o v]) (S := S) (G := [(_, dInts c.when)]) (by kernel_rfl) (.cons h1 (.nil _ _)) ?_
  obtain ⟨t, ht⟩ : ∃ t, c.when[c.place.toNat]? = some t := ⟨_, List.getElem?_eq_getElem (by omega)⟩
  have hd : dotOf c o = ⟨c.place, t, o.no⟩ := by simp [dotOf, List.getD_eq_getElem?_getD, ht]
  refine J_read0 0 rfl c.place.toNat (map_at ht) (by kernel_rfl) (fun b1 off1 cs1 ty1 fz1 ha1 hrd1 => ?_)
  cases ha1
  have hrd1_0 := rd0 (hrd1 0 _ rfl)
  try simp only [aQ]
  refine J_seq ?_
  refine Zm [.wr 0 [] 0, .wr 1 [] 0, .wr 2 [] 0] [] [0, 1] (fun nu1 => [(2, .val (.pointer (some (⟨nu1 0, 0, none⟩)))), (3, .val (.pointer (some (⟨nu1 1, 0, none⟩)))), (4, .val (.pointer (some (⟨nu1 2, 0, none⟩))))]) (fun nu1 => [(nu1 0, .cells #[.slice (some (⟨b1, off1, none⟩)) c.when.length c1, .int .i64 c.place, .slice a2 n2 c2] 37 (0, 0)), (nu1 1, .cells #[.int .i64 o.no, .string o.key, .int .i64 o.kind, .string o.text, .int .i64 o.n, .bool o.remove, v] 43 (0, 0)), (nu1 2, .cells #[.int .i64 0, .int .i64 0, .int .i64 0] 106 (0, 0))]) (fun nu1 => ?_)
  refine J_seq ?_
  all_goals first | assumption | skip
  refine Zn [.rd 0 [] 0 0, .rd 1 [.o 0 none] 0 0, .rd 2 [] 0 0, .rd 3 [.o 0 none] 0 0, .rd 4 [] 0 0, .rd 5 [.o 0 none] 0 0, .rd 6 [] 0 2, .rd 7 [.r 0 (some (.int .i64 t))] 0 0, .rd 8 [] 0 0, .rd 9 [.o 1 none] 0 0, .rd 10 [] 0 0, .wr 11 [.o 2 none, .o 2 none, .o 2 none] 0] [(11, [2])] [2, 3] (fun _ => []) (fun _ => [(nu1 0, .cells #[.slice (some (⟨b1, off1, none⟩)) c.when.length c1, .int .i64 c.place, .slice a2 n2 c2] 37 (0, 0)), (nu1 1, .cells #[.int .i64 o.no, .string o.key, .int .i64 o.kind, .string o.text, .int .i64 o.n, .bool o.remove, v] 43 (0, 0)), (nu1 2, .cells #[.int .i64 c.place, .int .i64 t, .int .i64 o.no] 106 (0, 0))]) (fun _ => [(0 : Int) ≤ c.place, c.place < (↑c.when.length : Int), cs1[off1 + c.place.toNat * (1 : Nat)]? = some (Value.int IntKind.i64 t)]) (fun _ => ⟨hp0, hp1, hrd1_0, trivial⟩) (fun _ => ?_)
  refine Yr [[.o 2 none, .o 2 none, .o 2 none]] (.agg #[.int .i64 c.place, .int .i64 t, .int .i64 o.no]) fun a w s => ?_
  rw [hd]
  exact s.ret (by simp) [] [] rfl rfl
set_option maxHeartbeats 4000000 in
theorem vPut {w : World} {S : Nat → Prop} {M : List Nat} {er : Nat → Addr} {eb : Nat → Array Value × TypeId} {b mk md : Nat} {ba a1 a2 : Option Addr} {p nb cb n1 c1 n2 c2 clock : Nat} {base : List Int} {es : Array MapEntry} {ks : List ByteArray} {F : ByteArray → Value} {L : List PutT} {c : ComT} (hC : Rep w S .nilIface (dC er eb))
    (hP : Pre w S M [cObj b (.cells #[.int .i64 p, .slice ba nb cb, .map (some mk), .map (some md)] 89 (0, 0)), cObj mk (.map es clock), cStar (ks.map fun t => cAcc (F t) 37 3 ((keyC L t).map eCom)), cMapG md okDot (dotSet (L.map dotP))])
    (hb : Rep w S (.slice ba nb cb) (dInts base)) (hbv : vecErr base = 0) (hbl : base.length = p) (h1 : Rep w S (.slice a1 n1 c1) (dInts c.when)) (h2 : Rep w S (.slice a2 n2 c2) (.sl 7 (c.ops.map eOp))) (hl1 : c.when.length ≤ 1000000) (hl2 : c.ops.length ≤ 1000000) (hl3 : ∀ o ∈ c.ops, o.dots.length ≤ 1000000) (hL : L.length ≤ 1000000)
    (hm : MapG (MapKept.IsKey .string) es (strG ks F)) (hst : MapKept.Stamped es clock) (hnd : ks.Nodup) (hiff : ∀ t, t ∈ ks ↔ keyC L t ≠ []) :
    Calls Tryd.prog 23 #[.pointer (some ⟨b, 0, none⟩), .agg #[.slice a1 n1 c1, .int .i64 c.place, .slice a2 n2 c2]] w fun e w' =>
      ((putFault p base L c).code ≠ 0 ∧ ∃ v G, Ret M w S w' e v [cObj b (.cells #[.int .i64 p, .slice ba nb cb, .map (some mk), .map (some md)] 89 (0, 0)), cObj mk (.map es clock), cStar (ks.map fun t => cAcc (F t) 37 3 ((keyC L t).map eCom)), cMapG md okDot (dotSet (L.map dotP))] G ∧
        (((putFault p base L c).at' = -1 ∧ ErrIs 156 er (putFault p base L c).code v ∧ G = []) ∨ (1 ≤ (putFault p base L c).code ∧ 0 ≤ (putFault p base L c).at' ∧ ∃ pb, v = .iface 79 (.pointer (some ⟨pb, 0, none⟩)) ∧ G = [(.pointer (some ⟨pb, 0, none⟩), .ptr [.v (.int .i64 (putFault p base L c).at'), .v (.iface 156 (.pointer (some (er (putFault p base L c).code))))])]))) ∨
      ((putFault p base L c).code = 0 ∧ ∃ es' clock' ks' F', Ret M w S w' e .nilIface [cObj b (.cells #[.int .i64 p, .slice ba nb cb, .map (some mk), .map (some md)] 89 (0, 0)), cObj mk (.map es' clock'), cStar (ks'.map fun t => cAcc (F' t) 37 3 ((keyC (L ++ putsOf c c.ops) t).map eCom)), cMapG md okDot (dotSet ((L ++ putsOf c c.ops).map dotP))] [] ∧
        MapG (MapKept.IsKey .string) es' (strG ks' F') ∧ MapKept.Stamped es' clock' ∧ ks'.Nodup ∧ ∀ t, t ∈ ks' ↔ keyC (L ++ putsOf c c.ops) t ≠ []) := by
  obtain rfl := rep_ints_len h1
  obtain rfl := rep_ints_len hb
  subst hbl
  have e2 := h2.slen
  rw [List.length_map] at e2
  subst e2
  refine en23 (args := [.pointer (some ⟨b, 0, none⟩), .agg #[.slice a1 c.when.length c1, .int .i64 c.place, .slice a2 c.ops.length c2]]) (S := S) (G := [(_, dC er eb), (_, dInts c.when), (_, .sl 7 (c.ops.map eOp)), (_, dInts base)]) (by kernel_rfl) hP (.cons hC (.cons h1 (.cons h2 (.cons hb (.nil _ _))))) ?_
  refine J_show 0 rfl ?_
  refine J_stp (stp_all 0 [2, 8, 5] rfl rfl) ?_
  refine J_glob 4 rfl (fun csg1 tyg1 fzg1 hglob1 => ?_)
  refine J_glob 5 rfl (fun csg2 tyg2 fzg2 hglob2 => ?_)
  refine J_glob 6 rfl (fun csg3 tyg3 fzg3 hglob3 => ?_)
  try simp only [aQ]
  refine J_seq ?_
  refine Zm [.wr 0 [] 0, .rd 1 [] 0 0] [] [1] (fun nu1 => [(3, .val (.pointer (some (⟨nu1 0, 0, none⟩)))), (4, .val (.nilIface))]) (fun nu1 => [(b, .cells #[.int .i64 (↑base.length : Int), .slice ba base.length cb, .map (some mk), .map (some md)] 89 (0, 0)), (nu1 0, .cells #[.slice a1 c.when.length c1, .int .i64 c.place, .slice a2 c.ops.length c2] 37 (0, 0))]) (fun nu1 => ?_)
  refine J_seq ?_
  refine J_seq ?_
  refine jT [(0, true), (1, false), (2, true)] [] ?_
  refine Ya (id := 1) (rest := [(1, false), (2, true)]) [.rd 0 [.o 1 none, .o 1 none, .o 1 none] 0 0] [] [(13, .val (.agg #[.slice a1 c.when.length c1, .int .i64 c.place, .slice a2 c.ops.length c2]))] ?_
  refine Yc 22 #[.agg #[.slice a1 c.when.length c1, .int .i64 c.place, .slice a2 c.ops.length c2]] (some 14) fun w S hG => ?_
  refine (checkCommit (c := c) (hG.at 0 rfl) (hG.at 1 rfl) (hG.at 2 rfl) hl1 hl2).mono ?_
  rintro e1 w1 (⟨ha, v, hR, hv⟩ | ⟨hc1, h0, pb, hR⟩)
  case inr =>
    have hpf : putFault base.length base L c = comFault c := by rw [putFault, if_pos (by omega)]
    rw [hpf]
    refine ⟨_, _, _, hR, ?_⟩
    try simp only [aQ]
    refine Ya (id := 1) (rest := []) [.rd 2 [] 0 0] [14, 13] [(5, .val (.iface 79 (.pointer (some (⟨pb, 0, none⟩)))))] ?_
    refine JR_end ?_
    refine J_seq ?_
    refine Za [.rd 0 [] 0 0, .rd 1 [] 0 0] [] [(16, .val (.bool true))] ?_
    refine J_cond_t (by kernel_rfl) (by kernel_rfl) ?_
    refine J_seq ?_
    refine Za [.rd 0 [] 0 0, .rd 1 [] 0 0] [16, 5] [(4, .val (.iface 79 (.pointer (some (⟨pb, 0, none⟩)))))] ?_
    refine Yr [[]] (.iface 79 (.pointer (some (⟨pb, 0, none⟩)))) fun a w s => ?_
    exact .inl ⟨by omega, _, _, (s.hide 0 rfl).ret (by simp) [3, 0, 1, 2] [7] rfl rfl, .inr ⟨hc1, h0, pb, rfl, rfl⟩⟩
  refine ⟨_, _, _, hR, ?_⟩
  obtain ⟨hv0, rfl⟩ | ⟨hv0, rfl⟩ := hv
  case inr =>
    have hpf : putFault base.length base L c = comFault c := by rw [putFault, if_pos hv0]
    rw [hpf]
    try simp only [aQ]
    refine Ya (id := 1) (rest := []) [.rd 2 [] 0 0] [14, 13] [(5, .val (.iface 156 (.pointer (some (er (comFault c).code)))))] ?_
    refine JR_end ?_
    refine J_seq ?_
    refine Za [.rd 0 [] 0 0, .rd 1 [] 0 0] [] [(16, .val (.bool true))] ?_
    refine J_cond_t (by kernel_rfl) (by kernel_rfl) ?_
    refine J_seq ?_
    refine Za [.rd 0 [] 0 0, .rd 1 [] 0 0] [16, 5] [(4, .val (.iface 156 (.pointer (some (er (comFault c).code)))))] ?_
    refine Yr [[]] (.iface 156 (.pointer (some (er (comFault c).code)))) fun a w s => ?_
    exact .inl ⟨hv0, _, _, (s.hide 0 rfl).ret (by simp) [3, 0, 1, 2] [] rfl rfl, .inl ⟨ha, .inr ⟨hv0, rfl⟩, rfl⟩⟩
  have hrc := right_of hv0
  by_cases hwl : c.when.length = base.length
  case neg =>
    have hpf : putFault base.length base L c = ⟨3, -1⟩ := by rw [putFault, if_neg (by simp [hv0]), if_pos hwl]
    have hwl2 : ¬ (c.when.length : Int) = base.length := by omega
    rw [hpf]
    try simp only [aQ]
    refine Ya (id := 1) (rest := []) [.rd 2 [] 0 0] [14, 13] [(5, .val (.nilIface))] ?_
    refine JR_end ?_
    refine J_seq ?_
    refine Za [.rd 0 [] 0 0, .rd 1 [] 0 0] [] [(16, .val (.bool false))] ?_
    refine J_cond_f (by kernel_rfl) (by kernel_rfl) ?_
    refine J_skip ?_
    refine J_seq ?_
    refine J_seq ?_
    refine Zp ([.rd 0 [] 0 0, .rd 1 [.o 1 none] 0 0] ++ Rds 2 6 ++ [.rd 6 [.o 0 none] 0 0, .rd 7 [] 0 6]) [16, 5] [(25, .val (.bool true))] [((↑c.when.length : Int) != (↑base.length : Int)) = true] ⟨by simp; omega, trivial⟩ ?_
    refine J_cond_t (by kernel_rfl) (by kernel_rfl) ?_
    refine J_seq ?_
    refine Zp [.rd 0 [.r 0 (some (.iface 156 (.pointer (some (er 3)))))] 0 0, .rd 1 [] 0 0] [25] [(4, .val (.iface 156 (.pointer (some (er 3)))))] [csg1[(0 : Nat)]? = some (Value.iface (156 : Nat) (Value.pointer (some (er (3 : Nat)))))] ⟨hglob1, trivial⟩ ?_
    refine Yr [[]] (.iface 156 (.pointer (some (er 3)))) fun a w s => ?_
    exact .inl ⟨by decide, _, _, (s.hide 0 rfl).ret (by simp) [3, 0, 1, 2] [] rfl rfl, .inl ⟨by first | rfl | trivial, .inr ⟨by decide, rfl⟩, rfl⟩⟩
  have htw : twoErr c.when base = 0 := by rw [twoErr, if_neg (by simp [hrc.vec]), if_neg (by simp [hbv]), if_neg (by simp [hwl])]
  have hvl := vecErr_len hbv
  have hwl2 : (c.when.length : Int) = base.length := by omega
  try simp only [aQ]
  refine Ya (id := 1) (rest := []) [.rd 2 [] 0 0] [14, 13] [(5, .val (.nilIface))] ?_
  refine JR_end ?_
  refine J_seq ?_
  refine Za [.rd 0 [] 0 0, .rd 1 [] 0 0] [] [(16, .val (.bool false))] ?_
  refine J_cond_f (by kernel_rfl) (by kernel_rfl) ?_
  refine J_skip ?_
  refine J_seq ?_
  refine J_seq ?_
  refine Zp ([.rd 0 [] 0 0, .rd 1 [.o 1 none] 0 0] ++ Rds 2 6 ++ [.rd 6 [.o 0 none] 0 0, .rd 7 [] 0 7]) [16, 5] [(25, .val (.bool false))] [((↑c.when.length : Int) != (↑base.length : Int)) = false] ⟨by simp; omega, trivial⟩ ?_
  refine J_cond_f (by kernel_rfl) (by kernel_rfl) ?_
  refine J_skip ?_
  refine J_seq ?_
  refine J_seq ?_
  refine jT [(0, true), (1, true), (2, true), (3, true), (4, true), (5, true), (6, false), (7, true), (8, true), (9, true), (10, true), (11, true)] [] ?_
  refine Ya (id := 6) (rest := [(6, false), (7, true), (8, true), (9, true), (10, true), (11, true)]) ([.rd 0 [] 0 0, .rd 1 [.o 1 none] 0 0] ++ Rds 2 5 ++ [.rd 5 [.o 0 none] 0 0]) [25] [(29, .val (.slice a1 c.when.length c1)), (33, .val (.slice ba base.length cb))] ?_
  refine Yc 32 #[.slice a1 c.when.length c1, .slice ba base.length cb] (some 34) fun w S hG => ?_
  refine (vwithin (globs_of (hG.at 0 rfl)) (hG.at 1 rfl) (hG.at 3 rfl) hl1 (by omega)).mono ?_
  rintro e2 w2 (⟨htw2, _⟩ | ⟨_, hR⟩)
  · exact absurd htw htw2
  refine ⟨_, _, _, hR, ?_⟩
  cases hin : inL c.when base with
  | true =>
    have hpf : putFault base.length base L c = ⟨9, -1⟩ := by rw [putFault, if_neg (by simp [hv0]), if_neg (by simp [hwl]), if_pos hin]
    rw [hpf]
    try simp only [aQ]
    refine Ya (id := 6) (rest := []) (Rds 7 12) [34, 29, 33] [(6, .val (.bool true))] ?_
    refine JR_end ?_
    refine J_seq ?_
    refine Za [.rd 0 [] 0 0] [6] [(37, .val (.bool true))] ?_
    refine J_cond_t (by kernel_rfl) (by kernel_rfl) ?_
    refine J_seq ?_
    refine Zp [.rd 0 [.r 1 (some (.iface 156 (.pointer (some (er 9)))))] 0 0, .rd 1 [] 0 0] [37] [(4, .val (.iface 156 (.pointer (some (er 9)))))] [csg2[(0 : Nat)]? = some (Value.iface (156 : Nat) (Value.pointer (some (er (9 : Nat)))))] ⟨hglob2, trivial⟩ ?_
    refine Yr [[]] (.iface 156 (.pointer (some (er 9)))) fun a w s => ?_
    exact .inl ⟨by decide, _, _, (s.hide 0 rfl).ret (by simp) [3, 0, 1, 2] [] rfl rfl, .inl ⟨by first | rfl | trivial, .inr ⟨by decide, rfl⟩, rfl⟩⟩
  | false =>
    have hpf : putFault base.length base L c = scanF (exiAt L c) c.ops.length 0 := by rw [putFault, if_neg (by simp [hv0]), if_neg (by simp [hwl]), if_neg (by simp [hin])]
    rw [hpf]
    try simp only [aQ]
    refine Ya (id := 6) (rest := []) (Rds 7 12) [34, 29, 33] [(6, .val (.bool false))] ?_
    refine JR_end ?_
    refine J_seq ?_
    refine Za [.rd 0 [] 0 0] [6] [(37, .val (.bool false))] ?_
    refine J_cond_f (by kernel_rfl) (by kernel_rfl) ?_
    refine J_skip ?_
    refine J_seq ?_
    refine J_seq ?_
    refine J_openmapg 2 rfl fun es1 clock1 hm1 => ?_
    refine Nm [cObj mk (Obj.map es clock), (cStar (List.map (fun t => cAcc (F t) 37 3 (List.map eCom (keyC L t))) ks))] ?_
    refine Za [.rd 0 [] 0 0, .rd 1 [.o 1 none] 0 0, .rd 2 [] 0 0, .rd 3 [] 0 0] [37] [(40, .val (.slice a2 c.ops.length c2)), (41, .val (.int .i64 (↑c.ops.length : Int))), (42, .val (.int .i64 0))] ?_
    refine J_block ?_
    refine J_loopx (fun i : Int => [(0, .val (.pointer (some (⟨b, 0, none⟩)))), (3, .val (.pointer (some (⟨nu1 0, 0, none⟩)))), (4, .val (.nilIface)), (40, .val (.slice a2 c.ops.length c2)), (41, .val (.int .i64 (↑c.ops.length : Int))), (42, .val (.int .i64 i))]) (fun i : Int => [(b, .cells #[.int .i64 (↑base.length : Int), .slice ba base.length cb, .map (some mk), .map (some md)] 89 (0, 0)), (nu1 0, .cells #[.slice a1 c.when.length c1, .int .i64 c.place, .slice a2 c.ops.length c2] 37 (0, 0)), (md, Obj.map es1 clock1)]) (fun i : Int => [cObj mk (.map es clock), cStar (ks.map fun t => cAcc (F t) 37 3 ((keyC L t).map eCom))]) (fun i : Int => [(.nilIface, (dC er eb)), (.slice a1 c.when.length c1, (dInts c.when)), (.slice a2 c.ops.length c2, (D.sl 7 (List.map eOp c.ops))), (.slice ba base.length cb, (dInts base)), (.pointer (some (⟨3, 0, none⟩)), (D.ptr [D.v (Value.iface 156 (Value.pointer (some (er 3))))])), (.pointer (some (⟨8, 0, none⟩)), (D.ptr [D.v (Value.iface 156 (Value.pointer (some (er 9))))])), (.pointer (some (⟨5, 0, none⟩)), (D.ptr [D.v (Value.iface 156 (Value.pointer (some (er 6))))]))]) (fun i : Int => (c.ops.length - i).toNat) (fun i : Int => (0 ≤ i ∧ i ≤ c.ops.length ∧ ∀ j : Nat, j < i.toNat → exiAt L c j = 0)) 0 [0, 3, 4, 40, 41, 42] [0, 1, 2] [0, 1] [0, 1, 2, 3, 4, 5, 6] ?_ (by kernel_rfl) rfl rfl rfl ?_
    · exact ⟨by simp, by simp, by simp⟩
    rintro i ⟨hi0, hi, hex⟩
    refine J_seq ?_
    refine Za [.rd 0 [] 0 0] [] [(43, .val (.bool (decide (i < (↑c.ops.length : Int)))))] ?_
    refine J_seq ?_
    refine J_cond (t := decide (i < (↑c.ops.length : Int))) (by kernel_rfl) (by kernel_rfl) (fun hlt => ?_) (fun hlt => ?_)
    · have hlt2 : i < c.ops.length := by simpa using hlt
      obtain ⟨o, ho⟩ : ∃ o, c.ops[i.toNat]? = some o := ⟨_, List.getElem?_eq_getElem (by omega)⟩
      refine J_read1 2 rfl i.toNat (map_at ho) (by kernel_rfl) (fun b1 off1 cs1 ty1 fz1 a1_0 c1_0 ha1 hrd1 => ?_)
      cases ha1
      have hrd1_0 := rd0 (hrd1 0 _ rfl)
      have hrd1_1 := hrd1 1 _ rfl
      have hrd1_2 := hrd1 2 _ rfl
      have hrd1_3 := hrd1 3 _ rfl
      have hrd1_4 := hrd1 4 _ rfl
      have hrd1_5 := hrd1 5 _ rfl
      have hrd1_6 := hrd1 6 _ rfl
      try simp only [aQ]
      refine J_skip ?_
      refine J_seq ?_
      refine J_block ?_
      refine J_seq ?_
      refine Zn [.rd 0 [] 0 0, .rd 1 [] 0 2, .rd 2 [.r 3 (some (.int .i64 o.no)), .r 3 (some (.string o.key)), .r 3 (some (.int .i64 o.kind)), .r 3 (some (.string o.text)), .r 3 (some (.int .i64 o.n)), .r 3 (some (.bool o.remove)), .r 3 (some (.slice (a1_0, c1_0).fst ((List.map eDot o.dots).length) c1_0))] 0 0, .wr 3 [] 0, .rd 4 [] 0 0, .wr 5 [.o 3 none, .o 3 none, .o 3 none, .o 3 none, .o 3 none, .o 3 none, .o 3 none] 0] [(5, [])] [43] (fun nu2 => [(8, .val (.int .i64 i)), (9, .val (.pointer (some (⟨nu2 0, 0, none⟩))))]) (fun nu2 => [(b, .cells #[.int .i64 (↑base.length : Int), .slice ba base.length cb, .map (some mk), .map (some md)] 89 (0, 0)), (nu1 0, .cells #[.slice a1 c.when.length c1, .int .i64 c.place, .slice (some (⟨b1, off1, none⟩)) c.ops.length c2] 37 (0, 0)), (md, Obj.map es1 clock1), (nu2 0, .cells #[.int .i64 o.no, .string o.key, .int .i64 o.kind, .string o.text, .int .i64 o.n, .bool o.remove, .slice (a1_0, c1_0).fst ((List.map eDot o.dots).length) c1_0] 43 (0, 0))]) (fun nu2 => [(0 : Int) ≤ i, i < (↑c.ops.length : Int), cs1[off1 + i.toNat * (7 : Nat)]? = some (Value.int IntKind.i64 o.no), cs1[off1 + i.toNat * (7 : Nat) + (1 : Nat)]? = some (Value.string o.key), cs1[off1 + i.toNat * (7 : Nat) + (2 : Nat)]? = some (Value.int IntKind.i64 o.kind), cs1[off1 + i.toNat * (7 : Nat) + (3 : Nat)]? = some (Value.string o.text), cs1[off1 + i.toNat * (7 : Nat) + (4 : Nat)]? = some (Value.int IntKind.i64 o.n), cs1[off1 + i.toNat * (7 : Nat) + (5 : Nat)]? = some (Value.bool o.remove), cs1[off1 + i.toNat * (7 : Nat) + (6 : Nat)]? = some (Value.slice (a1_0, c1_0).fst (List.map eDot o.dots).length (a1_0, c1_0).snd)]) (fun _ => ⟨hi0, hlt2, hrd1_0, hrd1_1, hrd1_2, hrd1_3, hrd1_4, hrd1_5, hrd1_6, trivial⟩) (fun nu2 => ?_)
      refine J_seq ?_
      refine jT [(0, true), (1, true), (2, true), (3, true), (4, true), (5, true), (6, false), (7, true)] [] ?_
      refine Ya (id := 12) (rest := [(6, false), (7, true)]) (Rds 0 3 ++ [.rd 3 [.o 0 none] 0 0, .rd 4 [.o 1 none, .o 1 none, .o 1 none] 0 0, .rd 5 [.o 3 none, .o 3 none, .o 3 none, .o 3 none, .o 3 none, .o 3 none, .o 3 none] 0 0]) [] [(50, .val (.map (some md))), (51, .val (.agg #[.slice a1 c.when.length c1, .int .i64 c.place, .slice (some (⟨b1, off1, none⟩)) c.ops.length c2])), (52, .val (.agg #[.int .i64 o.no, .string o.key, .int .i64 o.kind, .string o.text, .int .i64 o.n, .bool o.remove, .slice (a1_0, c1_0).fst ((List.map eDot o.dots).length) c1_0]))] ?_
      refine Yc 38 #[.agg #[.slice a1 c.when.length c1, .int .i64 c.place, .slice (some (⟨b1, off1, none⟩)) c.ops.length c2], .agg #[.int .i64 o.no, .string o.key, .int .i64 o.kind, .string o.text, .int .i64 o.n, .bool o.remove, .slice (a1_0, c1_0).fst ((List.map eDot o.dots).length) c1_0]] (some 53) fun w S hG => ?_
      refine (verDot (c := c) (o := o) rfl (hG.at 1 rfl) hrc.p0 hrc.p1).mono ?_
      rintro e3 w3 hR
      refine ⟨_, _, _, hR, ?_⟩
      refine JRg_lookr (.o 2 none) md 87 106 4 okDot (.agg #[.int .i64 ((dotOf c o).place), .int .i64 ((dotOf c o).time), .int .i64 ((dotOf c o).no)]) (.bool false) false (some 54) (by kernel_rfl) (by kernel_rfl) (by kernel_rfl) keyOk_106 (by first | exact ⟨_, _, _, rfl⟩ | simp [MapKept.IsKey]) (by kernel_rfl) rfl hm1 (fun hno => ?_) (fun v hv => ?_)
      · have hnd : dotOf c o ∉ L.map dotP := fun h => by
          rw [dotSet_in h] at hno
          cases hno
        have hz : exiAt L c i.toNat = 0 := by simp [exiAt, ho, hnd]
        try simp only [aQ]
        refine JR_end ?_
        refine J_cond_f (by kernel_rfl) (by kernel_rfl) ?_
        refine J_skip ?_
        refine J_eb ?_
        refine Zp [.rd 0 [] 0 1, .rd 1 [] 0 0] [54] [(42, .val (.int .i64 (i + 1)))] [IntKind.i64.wrap (i + (1 : Int)) = i + (1 : Int)] ⟨wrap_i64 (by omega) (by omega), trivial⟩ ?_
        refine J_backx (i + 1) [0, 3, 4, 40, 41, 42] [0, 1, 2] [0, 1] [0, 1, 2, 3, 4, 5, 6] ?_ ?_ (by kernel_rfl) rfl rfl rfl
        · refine ⟨by omega, by omega, fun j hj => ?_⟩
          by_cases hji : j = i.toNat
          · rw [hji]
            exact hz
          · exact hex j (by omega)
        · omega
      · have hin2 : dotOf c o ∈ L.map dotP := Classical.byContradiction fun h => by
          rw [dotSet_out h] at hv
          cases hv
        rw [dotSet_in hin2] at hv
        cases hv
        have hz : exiAt L c i.toNat = 6 := by simp [exiAt, ho, hin2]
        have hsc : scanF (exiAt L c) c.ops.length 0 = ⟨6, i⟩ := by
          rw [(scanF_from c.ops.length 0 i.toNat (Nat.zero_le _) fun j _ hj => hex j hj).2 (by omega) (by omega), hz]
          congr 1
          omega
        rw [hsc]
        try simp only [aQ]
        refine JR_end ?_
        refine J_cond_t (by kernel_rfl) (by kernel_rfl) ?_
        refine J_seq ?_
        refine Zn [.rd 0 [] 0 0, .rd 1 [.r 2 (some (.iface 156 (.pointer (some (er 6)))))] 0 0, .rd 2 [] 0 0, .wr 3 [] 0, .rd 4 [] 0 0, .rd 5 [] 0 0] [] [54] (fun nu3 => [(4, .val (.iface 79 (.pointer (some (⟨nu3 0, 0, none⟩)))))]) (fun nu3 => [(b, .cells #[.int .i64 (↑base.length : Int), .slice ba base.length cb, .map (some mk), .map (some md)] 89 (0, 0)), (nu1 0, .cells #[.slice a1 c.when.length c1, .int .i64 c.place, .slice (some (⟨b1, off1, none⟩)) c.ops.length c2] 37 (0, 0)), (md, Obj.map es1 clock1), (nu2 0, .cells #[.int .i64 o.no, .string o.key, .int .i64 o.kind, .string o.text, .int .i64 o.n, .bool o.remove, .slice a1_0 ((List.map eDot o.dots).length) c1_0] 43 (0, 0)), (nu3 0, .cells #[.int .i64 i, .iface 156 (.pointer (some (er 6)))] 83 (0, 0))]) (fun nu3 => [csg3[(0 : Nat)]? = some (Value.iface (156 : Nat) (Value.pointer (some (er (6 : Nat)))))]) (fun _ => ⟨hglob3, trivial⟩) (fun nu3 => ?_)
        refine Yr [[]] (.iface 79 (.pointer (some (⟨nu3 0, 0, none⟩)))) fun a w s => ?_
        exact .inl ⟨by decide, _, _, (((((s.share 4 rfl).stp (stp_fact fun w S H => ptr_of_obj rfl rfl (H (_, _) (List.mem_of_getElem? (i := 8) rfl)))).hide 0 rfl).hide 1 rfl).stp (stp_conv 3 rfl (mapg_eqv hm1))).ret (by simp) [2, 0, 1, 3] [9] rfl rfl, .inr ⟨by decide, hi0, _, rfl, rfl⟩⟩
    · have hil : i = c.ops.length := by simp at hlt; omega
      subst hil
      have hsc : (scanF (exiAt L c) c.ops.length 0).code = 0 := by
        rw [(scanF_from c.ops.length 0 c.ops.length (Nat.zero_le _) fun j _ hj => hex j (by omega)).1 (by omega)]
      refine J_exit rfl ?_
      refine J_seq ?_
      refine jT [(0, true), (1, false), (2, false)] [] ?_
      refine Ya (id := 15) (rest := [(1, false), (2, false)]) [.rd 0 [.o 1 none, .o 1 none, .o 1 none] 0 0] [43, 40, 41, 42] [(61, .val (.agg #[.slice a1 c.when.length c1, .int .i64 c.place, .slice a2 c.ops.length c2]))] ?_
      refine Yc 21 #[.agg #[.slice a1 c.when.length c1, .int .i64 c.place, .slice a2 c.ops.length c2]] (some 62) fun w S hG => ?_
      refine (vOwn (c := c) (hG.at 1 rfl) (hG.at 2 rfl) hl1 hl2 hl3).mono ?_
      rintro e3 w3 ⟨u1, d1, u2, d2, hR⟩
      refine ⟨_, _, _, hR, ?_⟩
      try simp only [aQ]
      refine Ym (id := 15) (rest := []) [.wr 2 [.o 1 none, .o 1 none, .o 1 none] 0] [62, 61] (fun _ => []) (fun _ => [(b, .cells #[.int .i64 (↑base.length : Int), .slice ba base.length cb, .map (some mk), .map (some md)] 89 (0, 0)), (nu1 0, .cells #[.slice u1 c.when.length d1, .int .i64 c.place, .slice u2 c.ops.length d2] 37 (0, 0)), (md, Obj.map es1 clock1)]) [] (fun _ => ?_)
      refine JR_end ?_
      refine J_seq ?_
      refine J_seq ?_
      refine J_stpx (stp_know (p := c.ops.length ≤ d2) fun _ _ H => (H.g (_, _) (List.mem_of_getElem? (i := 8) rfl)).cap) fun _ hd2 => ?_
      refine J_stpx (stp_know (p := ∃ bq oq, u2 = some ⟨bq, oq, none⟩) fun _ _ H => Rep.someA (H.g (.slice u2 c.ops.length d2, .sl 7 (c.ops.map eOp)) (List.mem_of_getElem? (i := 8) rfl)) (fun h => by rw [List.map_eq_nil_iff] at h; have := hrc.o1; rw [h] at this; simp at this)) fun _ hu2 => ?_
      obtain ⟨bq, oq, rfl⟩ := hu2
      refine J_show 0 rfl ?_
      have eK : (fun t => cAcc (F t) 37 3 ((keyC L t).map eCom)) = fun t => cAcc (F t) 37 3 ((keyC (L ++ putsOf c (c.ops.take (0 : Int).toNat)) t).map eCom) := by simp [putsOf]
      rw [eK]
      refine Nm [(cStar (List.map (fun t => cAcc (F t) 37 3 (List.map eCom (keyC (L ++ putsOf c (List.take (Int.toNat 0) c.ops)) t))) ks))] ?_
      refine Za [.rd 0 [] 0 0, .rd 1 [.o 1 none] 0 0, .rd 2 [] 0 0, .rd 3 [] 0 0] [] [(64, .val (.slice (some (⟨bq, oq, none⟩)) c.ops.length d2)), (65, .val (.int .i64 (↑c.ops.length : Int))), (66, .val (.int .i64 0))] ?_
      refine J_block ?_
      refine J_loopx (fun y : PutS => [(0, .val (.pointer (some (⟨b, 0, none⟩)))), (3, .val (.pointer (some (⟨nu1 0, 0, none⟩)))), (4, .val (.nilIface)), (64, .val (.slice (some (⟨bq, oq, none⟩)) c.ops.length d2)), (65, .val (.int .i64 (↑c.ops.length : Int))), (66, .val (.int .i64 y.i))]) (fun y : PutS => [(b, .cells #[.int .i64 (↑base.length : Int), .slice ba base.length cb, .map (some mk), .map (some md)] 89 (0, 0)), (nu1 0, .cells #[.slice u1 c.when.length d1, .int .i64 c.place, .slice (some (⟨bq, oq, none⟩)) c.ops.length d2] 37 (0, 0)), (md, .map y.es1 y.clock1), (mk, .map y.es y.clock)]) (fun y : PutS => [cStar (y.ks.map fun t => cAcc (y.F t) 37 3 ((keyC (L ++ putsOf c (c.ops.take y.i.toNat)) t).map eCom))]) (fun y : PutS => [(.nilIface, (dC er eb)), (.slice a1 c.when.length c1, (dInts c.when)), (.slice a2 c.ops.length c2, (D.sl 7 (List.map eOp c.ops))), (.slice ba base.length cb, (dInts base)), (.pointer (some (⟨3, 0, none⟩)), (D.ptr [D.v (Value.iface 156 (Value.pointer (some (er 3))))])), (.pointer (some (⟨8, 0, none⟩)), (D.ptr [D.v (Value.iface 156 (Value.pointer (some (er 9))))])), (.pointer (some (⟨5, 0, none⟩)), (D.ptr [D.v (Value.iface 156 (Value.pointer (some (er 6))))])), (.slice u1 c.when.length d1, (dInts c.when)), (.slice (some (⟨bq, oq, none⟩)) c.ops.length d2, (D.sl 7 (List.map eOp c.ops)))]) (fun y : PutS => (c.ops.length - y.i).toNat) (fun y : PutS => (0 ≤ y.i ∧ y.i ≤ c.ops.length ∧ MapG (MapKept.IsKey .string) y.es (strG y.ks y.F) ∧ MapKept.Stamped y.es y.clock ∧ y.ks.Nodup ∧ (∀ t, t ∈ y.ks ↔ keyC (L ++ putsOf c (c.ops.take y.i.toNat)) t ≠ []) ∧ MapG okDot y.es1 (dotSet ((L ++ putsOf c (c.ops.take y.i.toNat)).map dotP)))) ⟨0, es, clock, ks, F, es1, clock1⟩ [0, 3, 4, 64, 65, 66] [0, 1, 2, 3] [0] [0, 1, 2, 3, 4, 5, 6, 7, 8] ?_ (by kernel_rfl) rfl rfl rfl ?_
      · exact ⟨by simp, by simp, hm, hst, hnd, by simpa [putsOf] using hiff, by simpa [putsOf] using hm1⟩
      rintro ⟨i, es2, clock2, ks2, F2, es3, clock3⟩ ⟨hi0, hi, hmo, hst2, hnd2, hiff2, hmd⟩
      dsimp only at hi0 hi hmo hst2 hnd2 hiff2 hmd ⊢
      refine J_seq ?_
      refine Za [.rd 0 [] 0 0] [] [(67, .val (.bool (decide (i < (↑c.ops.length : Int)))))] ?_
      refine J_seq ?_
      refine J_cond (t := decide (i < (↑c.ops.length : Int))) (by kernel_rfl) (by kernel_rfl) (fun hlt5 => ?_) (fun hlt5 => ?_)
      · have hlt6 : i < c.ops.length := by simpa using hlt5
        obtain ⟨o, ho⟩ : ∃ o, c.ops[i.toNat]? = some o := ⟨_, List.getElem?_eq_getElem (by omega)⟩
        refine J_read1 8 rfl i.toNat (map_at ho) (by kernel_rfl) (fun b1 off1 cs1 ty1 fz1 a1_0 c1_0 ha1 hrd1 => ?_)
        cases ha1
        have hrd1_0 := rd0 (hrd1 0 _ rfl)
        have hrd1_1 := hrd1 1 _ rfl
        have hrd1_2 := hrd1 2 _ rfl
        have hrd1_3 := hrd1 3 _ rfl
        have hrd1_4 := hrd1 4 _ rfl
        have hrd1_5 := hrd1 5 _ rfl
        have hrd1_6 := hrd1 6 _ rfl
        try simp only [aQ]
        refine J_skip ?_
        refine J_seq ?_
        refine J_block ?_
        refine J_seq ?_
        refine Zn [.rd 0 [] 0 0, .rd 1 [] 0 2, .rd 2 [.r 3 (some (.int .i64 o.no)), .r 3 (some (.string o.key)), .r 3 (some (.int .i64 o.kind)), .r 3 (some (.string o.text)), .r 3 (some (.int .i64 o.n)), .r 3 (some (.bool o.remove)), .r 3 (some (.slice (a1_0, c1_0).fst ((List.map eDot o.dots).length) c1_0))] 0 0, .wr 3 [] 0, .rd 4 [] 0 0, .wr 5 [.o 4 none, .o 4 none, .o 4 none, .o 4 none, .o 4 none, .o 4 none, .o 4 none] 0] [(5, [])] [67] (fun nu2 => [(10, .val (.int .i64 i)), (11, .val (.pointer (some (⟨nu2 0, 0, none⟩))))]) (fun nu2 => [(b, .cells #[.int .i64 (↑base.length : Int), .slice ba base.length cb, .map (some mk), .map (some md)] 89 (0, 0)), (nu1 0, .cells #[.slice u1 c.when.length d1, .int .i64 c.place, .slice (some (⟨bq, oq, none⟩)) c.ops.length d2] 37 (0, 0)), (md, Obj.map es3 clock3), (mk, Obj.map es2 clock2), (nu2 0, .cells #[.int .i64 o.no, .string o.key, .int .i64 o.kind, .string o.text, .int .i64 o.n, .bool o.remove, .slice (a1_0, c1_0).fst ((List.map eDot o.dots).length) c1_0] 43 (0, 0))]) (fun nu2 => [(0 : Int) ≤ i, i < (↑c.ops.length : Int), cs1[oq + i.toNat * (7 : Nat)]? = some (Value.int IntKind.i64 o.no), cs1[oq + i.toNat * (7 : Nat) + (1 : Nat)]? = some (Value.string o.key), cs1[oq + i.toNat * (7 : Nat) + (2 : Nat)]? = some (Value.int IntKind.i64 o.kind), cs1[oq + i.toNat * (7 : Nat) + (3 : Nat)]? = some (Value.string o.text), cs1[oq + i.toNat * (7 : Nat) + (4 : Nat)]? = some (Value.int IntKind.i64 o.n), cs1[oq + i.toNat * (7 : Nat) + (5 : Nat)]? = some (Value.bool o.remove), cs1[oq + i.toNat * (7 : Nat) + (6 : Nat)]? = some (Value.slice (a1_0, c1_0).fst (List.map eDot o.dots).length (a1_0, c1_0).snd)]) (fun _ => ⟨hi0, hlt6, hrd1_0, hrd1_1, hrd1_2, hrd1_3, hrd1_4, hrd1_5, hrd1_6, trivial⟩) (fun nu2 => ?_)
        refine J_seq ?_
        refine jT [(0, true), (1, true), (2, true), (3, true), (4, true), (5, true), (6, false), (7, false)] [(7, [2])] ?_
        refine Ya (id := 19) (rest := [(6, false), (7, false)]) (Rds 0 3 ++ [.rd 3 [.o 0 none] 0 0, .rd 4 [.o 1 none, .o 1 none, .o 1 none] 0 0, .rd 5 [.o 4 none, .o 4 none, .o 4 none, .o 4 none, .o 4 none, .o 4 none, .o 4 none] 0 0]) [] [(74, .val (.map (some md))), (75, .val (.agg #[.slice u1 c.when.length d1, .int .i64 c.place, .slice (some (⟨bq, oq, none⟩)) c.ops.length d2])), (76, .val (.agg #[.int .i64 o.no, .string o.key, .int .i64 o.kind, .string o.text, .int .i64 o.n, .bool o.remove, .slice (a1_0, c1_0).fst ((List.map eDot o.dots).length) c1_0]))] ?_
        refine Yc 38 #[.agg #[.slice u1 c.when.length d1, .int .i64 c.place, .slice (some (⟨bq, oq, none⟩)) c.ops.length d2], .agg #[.int .i64 o.no, .string o.key, .int .i64 o.kind, .string o.text, .int .i64 o.n, .bool o.remove, .slice (a1_0, c1_0).fst ((List.map eDot o.dots).length) c1_0]] (some 77) fun w S hG => ?_
        refine (verDot (c := c) (o := o) rfl (hG.at 7 rfl) hrc.p0 hrc.p1).mono ?_
        rintro e4 w4 hR
        refine ⟨_, _, _, hR, ?_⟩
        try simp only [aQ]
        refine JRg_put 2 md 87 106 4 okDot (.agg #[.int .i64 ((dotOf c o).place), .int .i64 ((dotOf c o).time), .int .i64 ((dotOf c o).no)]) (.bool true) none (by kernel_rfl) (by kernel_rfl) (by kernel_rfl) keyOk_106 (by first | exact ⟨_, _, _, rfl⟩ | simp [MapKept.IsKey]) rfl hmd (fun es4 clock4 hm4 hsz4 => ?_)
        refine JR_end ?_
        refine J_seq ?_
        refine Zm [.rd 0 [.o 1 none, .o 1 none, .o 1 none] 0 0, .wr 1 [] 0, .wr 2 [.o 5 none, .o 5 none, .o 5 none] 0] [(2, [])] [] (fun nu3 => [(12, .val (.pointer (some (⟨nu3 0, 0, none⟩))))]) (fun nu3 => [(b, .cells #[.int .i64 (↑base.length : Int), .slice ba base.length cb, .map (some mk), .map (some md)] 89 (0, 0)), (nu1 0, .cells #[.slice u1 c.when.length d1, .int .i64 c.place, .slice (some (⟨bq, oq, none⟩)) c.ops.length d2] 37 (0, 0)), (md, Obj.map es4 clock4), (mk, Obj.map es2 clock2), (nu2 0, .cells #[.int .i64 o.no, .string o.key, .int .i64 o.kind, .string o.text, .int .i64 o.n, .bool o.remove, .slice a1_0 ((List.map eDot o.dots).length) c1_0] 43 (0, 0)), (nu3 0, .cells #[.slice u1 c.when.length d1, .int .i64 c.place, .slice (some (⟨bq, oq, none⟩)) c.ops.length d2] 37 (0, 0))]) (fun nu3 => ?_)
        refine J_seq ?_
        refine Zn [.rd 0 [] 0 0, .rd 1 [.o 1 none] 0 0, .rd 2 [] 0 0, .rd 3 [] 0 0, .rd 4 [] 0 1, .rd 5 [] 0 4, .rd 6 [] 0 0, .wr 7 [.o 5 none] 0] [(7, [5])] [] (fun _ => []) (fun _ => [(b, .cells #[.int .i64 (↑base.length : Int), .slice ba base.length cb, .map (some mk), .map (some md)] 89 (0, 0)), (nu1 0, .cells #[.slice u1 c.when.length d1, .int .i64 c.place, .slice (some (⟨bq, oq, none⟩)) c.ops.length d2] 37 (0, 0)), (md, Obj.map es4 clock4), (mk, Obj.map es2 clock2), (nu2 0, .cells #[.int .i64 o.no, .string o.key, .int .i64 o.kind, .string o.text, .int .i64 o.n, .bool o.remove, .slice a1_0 ((List.map eDot o.dots).length) c1_0] 43 (0, 0)), (nu3 0, .cells #[.slice u1 c.when.length d1, .int .i64 c.place, .slice (some (⟨bq, oq + i.toNat * 7, none⟩)) ((i + 1).toNat - i.toNat) (d2 - i.toNat)] 37 (0, 0))]) (fun _ => [IntKind.i64.wrap (i + (1 : Int)) = i + (1 : Int), (0 : Int) ≤ i, i ≤ i + (1 : Int), i + (1 : Int) ≤ (↑d2 : Int), i < (↑d2 : Int)]) (fun _ => ⟨wrap_i64 (by omega) (by omega), hi0, by omega, by omega, by omega, trivial⟩) (fun _ => ?_)
        have hA2 : L ++ putsOf c (c.ops.take (i + 1).toNat) = (L ++ putsOf c (c.ops.take i.toNat)) ++ [⟨c.when, c.place, o⟩] := by
          rw [← take_snoc hi0 ho, putsOf, putsOf, List.map_append, ← List.append_assoc]
          rfl
        have hAl : (L ++ putsOf c (c.ops.take i.toNat)).length ≤ 1000020 := by
          have := hrc.o2
          rw [List.length_append, putsOf, List.length_map, List.length_take]
          omega
        have hone : (c.ops.drop i.toNat).take 1 = [o] := by
          rw [List.drop_eq_getElem_cons (by omega)]
          have := (List.getElem?_eq_some_iff.1 ho).2
          simp [this]
        refine J_stp (stp_fact fun w S H => (H (_, _) (List.mem_of_getElem? (i := 8) rfl)).dropM i.toNat (by omega)) ?_
        have h11 : (i + 1).toNat - i.toNat = 1 := by omega
        rw [h11]
        refine J_stp (stp_fact fun w S H => (H (_, _) (List.mem_of_getElem? (i := 10) rfl)).takeM 1 (by rw [List.length_drop]; omega)) ?_
        rw [hone]
        generalize L ++ putsOf c (c.ops.take i.toNat) = A at hA2 hAl hiff2 hmd hm4 ⊢
        have hkl := keyC_len A o.key
        have hmd2 : MapG okDot es4 (dotSet ((A ++ [(⟨c.when, c.place, o⟩ : PutT)]).map dotP)) := by
          rw [List.map_append]
          exact hm4.congr (dotSet_snoc (d := dotOf c o))
        have hko : ∀ t, t ≠ o.key → keyC (A ++ [(⟨c.when, c.place, o⟩ : PutT)]) t = keyC A t := fun t ht => by
          rw [keyC_snoc, if_neg fun h => ht h.symm, List.append_nil]
        have hkn : keyC (A ++ [(⟨c.when, c.place, o⟩ : PutT)]) o.key = keyC A o.key ++ [⟨c.when, c.place, [o]⟩] := by
          rw [keyC_snoc, if_pos rfl]
          rfl
        by_cases hT2 : o.key ∈ ks2
        · obtain ⟨i2, hit2⟩ := List.getElem?_of_mem hT2
          refine J_stp (stp_take (c := cAcc (F2 o.key) 37 3 ((keyC A o.key).map eCom)) 0 i2 rfl (by rw [List.getElem?_map, hit2]; rfl)) ?_
          refine J_stpx (stp_accform 0 rfl) fun y hF => ?_
          obtain ⟨av, nv, cv⟩ := y
          obtain ⟨hF, hn⟩ := hF
          dsimp only at hF hn
          rw [List.length_map] at hn
          have hnb : nv ≤ 4000000 := by omega
          rw [hF]
          refine Nm [cAcc (.slice av nv cv) 37 3 (List.map eCom (keyC A o.key)), (cStar ((List.map (fun t => cAcc (F2 t) 37 3 (List.map eCom (keyC A t))) ks2).eraseIdx i2))] ?_
          try simp only [aQ]
          refine jT [(0, true), (1, true), (2, true), (3, true), (4, true), (5, true), (6, true), (7, true), (8, true), (9, true), (10, true), (11, true), (12, true), (13, true), (14, false), (15, false), (16, false)] [(15, []), (16, [3])] ?_
          refine Ya (id := 22) (rest := [(12, true), (13, true), (14, false), (15, false), (16, false)]) (Rds 0 3 ++ [.rd 3 [.o 0 none] 0 0, .rd 4 [] 0 0, .rd 5 [.o 4 none] 0 0] ++ Rds 6 9 ++ [.rd 9 [.o 0 none] 0 0, .rd 10 [] 0 0, .rd 11 [.o 4 none] 0 0]) [] [(89, .val (.map (some mk))), (91, .val (.string o.key)), (95, .val (.map (some mk))), (97, .val (.string o.key))] ?_
          refine JRg_lookr (.o 3 none) mk 86 9 109 (MapKept.IsKey TypeDesc.string) (.string o.key) (.slice none 0 0) false (some 98) (by kernel_rfl) (by kernel_rfl) (by kernel_rfl) keyOk_9 (by first | exact ⟨_, _, _, rfl⟩ | simp [MapKept.IsKey]) (by kernel_rfl) rfl hmo (fun hno => ?_) (fun v hv => ?_)
          · rw [strG_in hT2] at hno
            cases hno
          · rw [strG_in hT2, hF] at hv
            cases hv
            refine Ym (id := 22) (rest := [(15, false), (16, false)]) [.rd 13 [.o 5 none, .o 5 none, .o 5 none] 0 0, .wr 14 [] 0] [95, 97] (fun nu4 => [(100, .val (.slice (some (⟨nu4 0, 0, none⟩)) 1 1))]) (fun nu4 => [(b, .cells #[.int .i64 (↑base.length : Int), .slice ba base.length cb, .map (some mk), .map (some md)] 89 (0, 0)), (nu1 0, .cells #[.slice u1 c.when.length d1, .int .i64 c.place, .slice (some (⟨bq, oq, none⟩)) c.ops.length d2] 37 (0, 0)), (md, Obj.map es4 clock4), (mk, Obj.map es2 clock2), (nu2 0, .cells #[.int .i64 o.no, .string o.key, .int .i64 o.kind, .string o.text, .int .i64 o.n, .bool o.remove, .slice a1_0 ((List.map eDot o.dots).length) c1_0] 43 (0, 0)), (nu3 0, .cells #[.slice u1 c.when.length d1, .int .i64 c.place, .slice (some (⟨bq, oq + i.toNat * 7, none⟩)) 1 (d2 - i.toNat)] 37 (0, 0)), (nu4 0, .cells #[.slice u1 c.when.length d1, .int .i64 c.place, .slice (some (⟨bq, oq + i.toNat * 7, none⟩)) 1 (d2 - i.toNat)] 37 (0, 0))]) [(15, []), (16, [3])] (fun nu4 => ?_)
            refine JR_appm 0 109 37 3 56 (.agg #[.slice none 0 0, .int .i64 0, .slice none 0 0]) (a0 := av) (len := nv) (cap0 := cv) (ax := (some (⟨nu4 0, 0, none⟩))) (m := 1) (c := 1) (dst := (some 101)) [(⟨c.when, c.place, [o]⟩ : ComT)] (by kernel_rfl) (by kernel_rfl) (by kernel_rfl) (by kernel_rfl) rfl (by decide) rfl (fun _ _ _ s => src_one s 6 rfl rfl ⟨.inr (.inl (List.mem_of_getElem? (i := 7) rfl)), ⟨.inl ⟨rfl, rfl⟩, ⟨.inr (.inl (List.mem_of_getElem? (i := 11) rfl)), trivial⟩⟩⟩) (by simp only [maxLen]; omega) (by omega) (fun av1 cv1 => ?_)
            try simp only [aQ]
            refine JRg_puts 3 mk 86 9 109 (MapKept.IsKey TypeDesc.string) (.string o.key) (.slice av1 (nv + 1) cv1) none (by kernel_rfl) (by kernel_rfl) (by kernel_rfl) keyOk_9 (by first | exact ⟨_, _, _, rfl⟩ | simp [MapKept.IsKey]) rfl hmo (fun es5 clock5 hm5 hsz5 hst5 => ?_)
            try simp only [aQ]
            refine JR_end ?_
            try simp only [aQ]
            refine J_eb ?_
            try simp only [aQ]
            refine Zp [.rd 0 [] 0 1, .rd 1 [] 0 0] [] [(66, .val (.int .i64 (i + 1)))] [IntKind.i64.wrap (i + (1 : Int)) = i + (1 : Int)] ⟨wrap_i64 (by omega) (by omega), trivial⟩ ?_
            try simp only [aQ]
            refine Nm [(cStar ((List.map (fun t => cAcc (F2 t) 37 3 (List.map eCom (keyC A t))) ks2).eraseIdx i2)), cAcc (.slice av1 (nv + 1) cv1) 37 3 (List.map eCom (keyC A o.key ++ [ComT.mk c.when c.place [o]]))] ?_
            have hE2 := map_out (Q := fun t => cAcc (F2 t) 37 3 ((keyC A t).map eCom)) (Q' := fun t => cAcc (upd F2 o.key (.slice av1 (nv + 1) cv1) t) 37 3 ((keyC (A ++ [(⟨c.when, c.place, o⟩ : PutT)]) t).map eCom)) hnd2 hit2 fun s hs => by
              show cAcc (upd F2 o.key (.slice av1 (nv + 1) cv1) s) _ 3 ((keyC (A ++ [(⟨c.when, c.place, o⟩ : PutT)]) s).map eCom) = cAcc (F2 s) _ 3 ((keyC A s).map eCom)
              rw [upd_ne _ _ hs, hko s hs]
            refine J_stp (stp_join 1 0 i2 (cs' := ks2.map fun t => cAcc (upd F2 o.key (.slice av1 (nv + 1) cv1) t) 37 3 ((keyC (A ++ [(⟨c.when, c.place, o⟩ : PutT)]) t).map eCom)) rfl rfl (by decide) (by
              rw [List.getElem?_map, hit2]
              show some (cAcc (upd F2 o.key (.slice av1 (nv + 1) cv1) o.key) _ 3 ((keyC (A ++ [(⟨c.when, c.place, o⟩ : PutT)]) o.key).map eCom)) = _
              rw [upd_at, hkn]) hE2) ?_
            rw [← hA2]
            refine Nm [(cStar (List.map (fun t => cAcc (upd F2 o.key (Value.slice av1 (nv + 1) cv1) t) 37 3 (List.map eCom (keyC (L ++ putsOf c (List.take (i + 1).toNat c.ops)) t))) ks2))] ?_
            refine J_backx ⟨i + 1, _, _, ks2, upd F2 o.key (.slice av1 (nv + 1) cv1), _, _⟩ [0, 3, 4, 64, 65, 66] [0, 1, 2, 3] [0] [0, 1, 2, 3, 4, 5, 6, 7, 8] ?_ ?_ (by kernel_rfl) rfl rfl rfl
            · refine ⟨by simp only; omega, by simp only; omega, hm5.congr (strG_set hT2), hst5 hst2, hnd2, fun t => ?_, ?_⟩
              · dsimp only
                rw [hA2]
                by_cases hs : t = o.key
                · subst hs
                  rw [hkn]
                  simp [hT2]
                · rw [hko t hs]
                  exact hiff2 t
              · dsimp only
                rw [hA2]
                exact hmd2
            · simp only
              omega
        · have ho0 : keyC A o.key = [] := Classical.byContradiction fun h => hT2 ((hiff2 _).2 h)
          refine J_stp (stp_accm eCom 37 3) ?_
          refine Nm [(cStar (List.map (fun t => cAcc (F2 t) 37 3 (List.map eCom (keyC A t))) ks2)), cAcc (.slice none 0 0) 37 3 (List.map eCom [])] ?_
          try simp only [aQ]
          refine jT [(0, true), (1, true), (2, true), (3, true), (4, true), (5, true), (6, true), (7, true), (8, true), (9, true), (10, true), (11, true), (12, true), (13, true), (14, false), (15, false), (16, false)] [(15, []), (16, [3])] ?_
          refine Ya (id := 22) (rest := [(12, true), (13, true), (14, false), (15, false), (16, false)]) (Rds 0 3 ++ [.rd 3 [.o 0 none] 0 0, .rd 4 [] 0 0, .rd 5 [.o 4 none] 0 0] ++ Rds 6 9 ++ [.rd 9 [.o 0 none] 0 0, .rd 10 [] 0 0, .rd 11 [.o 4 none] 0 0]) [] [(89, .val (.map (some mk))), (91, .val (.string o.key)), (95, .val (.map (some mk))), (97, .val (.string o.key))] ?_
          refine JRg_lookr (.o 3 none) mk 86 9 109 (MapKept.IsKey TypeDesc.string) (.string o.key) (.slice none 0 0) false (some 98) (by kernel_rfl) (by kernel_rfl) (by kernel_rfl) keyOk_9 (by first | exact ⟨_, _, _, rfl⟩ | simp [MapKept.IsKey]) (by kernel_rfl) rfl hmo (fun hno => ?_) (fun v hv => ?_)
          · refine Ym (id := 22) (rest := [(15, false), (16, false)]) [.rd 13 [.o 5 none, .o 5 none, .o 5 none] 0 0, .wr 14 [] 0] [95, 97] (fun nu4 => [(100, .val (.slice (some (⟨nu4 0, 0, none⟩)) 1 1))]) (fun nu4 => [(b, .cells #[.int .i64 (↑base.length : Int), .slice ba base.length cb, .map (some mk), .map (some md)] 89 (0, 0)), (nu1 0, .cells #[.slice u1 c.when.length d1, .int .i64 c.place, .slice (some (⟨bq, oq, none⟩)) c.ops.length d2] 37 (0, 0)), (md, Obj.map es4 clock4), (mk, Obj.map es2 clock2), (nu2 0, .cells #[.int .i64 o.no, .string o.key, .int .i64 o.kind, .string o.text, .int .i64 o.n, .bool o.remove, .slice a1_0 ((List.map eDot o.dots).length) c1_0] 43 (0, 0)), (nu3 0, .cells #[.slice u1 c.when.length d1, .int .i64 c.place, .slice (some (⟨bq, oq + i.toNat * 7, none⟩)) 1 (d2 - i.toNat)] 37 (0, 0)), (nu4 0, .cells #[.slice u1 c.when.length d1, .int .i64 c.place, .slice (some (⟨bq, oq + i.toNat * 7, none⟩)) 1 (d2 - i.toNat)] 37 (0, 0))]) [(15, []), (16, [3])] (fun nu4 => ?_)
            refine JR_appm 1 109 37 3 56 (.agg #[.slice none 0 0, .int .i64 0, .slice none 0 0]) (a0 := none) (len := 0) (cap0 := 0) (ax := (some (⟨nu4 0, 0, none⟩))) (m := 1) (c := 1) (dst := (some 101)) [(⟨c.when, c.place, [o]⟩ : ComT)] (by kernel_rfl) (by kernel_rfl) (by kernel_rfl) (by kernel_rfl) rfl (by decide) rfl (fun _ _ _ s => src_one s 6 rfl rfl ⟨.inr (.inl (List.mem_of_getElem? (i := 7) rfl)), ⟨.inl ⟨rfl, rfl⟩, ⟨.inr (.inl (List.mem_of_getElem? (i := 11) rfl)), trivial⟩⟩⟩) (by simp only [maxLen]; omega) (by omega) (fun av1 cv1 => ?_)
            try simp only [aQ]
            refine JRg_puts 3 mk 86 9 109 (MapKept.IsKey TypeDesc.string) (.string o.key) (.slice av1 1 cv1) none (by kernel_rfl) (by kernel_rfl) (by kernel_rfl) keyOk_9 (by first | exact ⟨_, _, _, rfl⟩ | simp [MapKept.IsKey]) rfl hmo (fun es5 clock5 hm5 hsz5 hst5 => ?_)
            try simp only [aQ]
            refine JR_end ?_
            try simp only [aQ]
            refine J_eb ?_
            try simp only [aQ]
            refine Zp [.rd 0 [] 0 1, .rd 1 [] 0 0] [] [(66, .val (.int .i64 (i + 1)))] [IntKind.i64.wrap (i + (1 : Int)) = i + (1 : Int)] ⟨wrap_i64 (by omega) (by omega), trivial⟩ ?_
            try simp only [aQ]
            refine Nm [(cStar (List.map (fun t => cAcc (F2 t) 37 3 (List.map eCom (keyC A t))) ks2)), cAcc (.slice av1 1 cv1) 37 3 (List.map eCom [ComT.mk c.when c.place [o]])] ?_
            have hE2 := map_new (t := o.key) (Q := fun t => cAcc (F2 t) 37 3 ((keyC A t).map eCom)) (Q' := fun t => cAcc (upd F2 o.key (.slice av1 1 cv1) t) 37 3 ((keyC (A ++ [(⟨c.when, c.place, o⟩ : PutT)]) t).map eCom)) (ks := ks2) fun s hs => by
              have hne : s ≠ o.key := fun he => hT2 (he ▸ hs)
              show cAcc (upd F2 o.key (.slice av1 1 cv1) s) _ 3 ((keyC (A ++ [(⟨c.when, c.place, o⟩ : PutT)]) s).map eCom) = cAcc (F2 s) _ 3 ((keyC A s).map eCom)
              rw [upd_ne _ _ hne, hko s hne]
            refine J_stp (stp_join 1 0 ks2.length (cs' := (ks2 ++ [o.key]).map fun t => cAcc (upd F2 o.key (.slice av1 1 cv1) t) 37 3 ((keyC (A ++ [(⟨c.when, c.place, o⟩ : PutT)]) t).map eCom)) rfl rfl (by decide) (by
              rw [List.getElem?_map, show (ks2 ++ [o.key])[ks2.length]? = some o.key by simp]
              show some (cAcc (upd F2 o.key (.slice av1 1 cv1) o.key) _ 3 ((keyC (A ++ [(⟨c.when, c.place, o⟩ : PutT)]) o.key).map eCom)) = _
              rw [upd_at, hkn, ho0]
              rfl) hE2) ?_
            rw [← hA2]
            refine Nm [(cStar (List.map (fun t => cAcc (upd F2 o.key (Value.slice av1 1 cv1) t) 37 3 (List.map eCom (keyC (L ++ putsOf c (List.take (i + 1).toNat c.ops)) t))) (ks2 ++ [o.key])))] ?_
            refine J_backx ⟨i + 1, _, _, ks2 ++ [o.key], upd F2 o.key (.slice av1 1 cv1), _, _⟩ [0, 3, 4, 64, 65, 66] [0, 1, 2, 3] [0] [0, 1, 2, 3, 4, 5, 6, 7, 8] ?_ ?_ (by kernel_rfl) rfl rfl rfl
            · refine ⟨by simp only; omega, by simp only; omega, hm5.congr (strG_new hT2), hst5 hst2, List.nodup_append.2 ⟨hnd2, by simp, fun a ha b hb => ?_⟩, fun t => ?_, ?_⟩
              · rw [List.mem_singleton] at hb
                subst hb
                exact fun he => hT2 (by rw [← he]; exact ha)
              · dsimp only
                rw [hA2]
                by_cases hs : t = o.key
                · subst hs
                  rw [hkn]
                  simp
                · rw [hko t hs, List.mem_append, List.mem_singleton]
                  exact ⟨fun h => h.elim (hiff2 t).1 fun h => absurd h hs, fun h => .inl ((hiff2 t).2 h)⟩
              · dsimp only
                rw [hA2]
                exact hmd2
            · simp only
              omega
          · rw [strG_out hT2] at hv
            cases hv
      · have hil6 : c.ops.take i.toNat = c.ops := List.take_of_length_le (by simp at hlt5; omega)
        rw [hil6] at hiff2 hmd
        rw [hil6]
        refine J_exit rfl ?_
        refine J_seq ?_
        refine Za [.rd 0 [] 0 0] [67, 0, 3, 64, 65, 66] [] ?_
        refine Yr [[]] (.nilIface) fun a w s => ?_
        exact .inr ⟨hsc, _, _, ks2, F2, ((((s.hide 0 rfl).hide 1 rfl).hide 1 rfl).stp (stp_conv 2 rfl (mapg_eqv hmd))).ret (by simp) [1, 3, 0, 2] [] rfl rfl, hmo, hst2, hnd2, hiff2⟩
end Go.Proofs.YtehdegekgdlifaaDoor
end
section
namespace Go.Proofs.YtehdegekgdlifaaDoor
open Go Go.Sx
theorem opErrAt_iff {l : List OpT} {p : Int} {i : Nat} {o : OpT} (h : l[i]? = some o) : opErrAt l p i = 0 ↔ opErr o p = 0 ∧ ∀ q, 0 < i → l[i - 1]? = some q → q.no < o.no := by
  by_cases h0 : opErr o p = 0
  · cases i with
    | zero => exact ⟨fun _ => ⟨h0, fun q h => absurd h (by omega)⟩, fun _ => opErrAt_first h h0⟩
    | succ i =>
      have hi := (List.getElem?_eq_some_iff.1 h).1
      obtain ⟨q, hq⟩ : ∃ q, l[i]? = some q := ⟨_, List.getElem?_eq_getElem (by omega)⟩
      rw [opErrAt_next h hq h0]
      constructor
      · intro h1
        refine ⟨h0, fun q' _ hq' => ?_⟩
        rw [Nat.add_sub_cancel, hq] at hq'
        cases hq'
        split at h1
        · cases h1
        · omega
      · rintro ⟨_, h1⟩
        have := h1 q (by omega) (by rw [Nat.add_sub_cancel]; exact hq)
        rw [if_neg (by omega)]
  · rw [opErrAt_own h h0]
    exact ⟨fun h1 => absurd h1 h0, fun h1 => absurd h1.1 h0⟩
theorem ops_fine {l : List OpT} {p : Int} : (∀ j, j < l.length → opErrAt l p j = 0) ↔ (∀ o ∈ l, opErr o p = 0) ∧ l.Pairwise fun a b => a.no < b.no := by
  constructor
  · intro h
    have h1 : ∀ j (hj : j < l.length), opErr l[j] p = 0 ∧ ∀ q, 0 < j → l[j - 1]? = some q → q.no < l[j].no := fun j hj => (opErrAt_iff (List.getElem?_eq_getElem hj)).1 (h j hj)
    have h2 : ∀ j (hj : j < l.length) i (hi : i < j), (l[i]'(by omega)).no < l[j].no := by
      intro j
      induction j with
      | zero => exact fun _ i hi => absurd hi (by omega)
      | succ j ih =>
        intro hj i hi
        have h3 := (h1 (j + 1) hj).2 (l[j]'(by omega)) (by omega) (by rw [Nat.add_sub_cancel]; exact List.getElem?_eq_getElem _)
        rcases Nat.lt_or_ge i j with h4 | h4
        · exact Int.lt_trans (ih (by omega) i h4) h3
        · obtain rfl : i = j := by omega
          exact h3
    refine ⟨fun o ho => ?_, List.pairwise_iff_getElem.2 fun i j hi hj hij => h2 j hj i hij⟩
    obtain ⟨j, hj, rfl⟩ := List.getElem_of_mem ho
    exact (h1 j hj).1
  · rintro ⟨h1, h2⟩ j hj
    refine (opErrAt_iff (List.getElem?_eq_getElem hj)).2 ⟨h1 _ (List.getElem_mem _), fun q h0 hq => ?_⟩
    obtain ⟨hq1, rfl⟩ := List.getElem?_eq_some_iff.1 hq
    exact List.pairwise_iff_getElem.1 h2 (j - 1) j hq1 hj (by omega)
theorem comFault_mk {c : ComT} (h1 : vecErr c.when = 0) (h2 : 0 ≤ c.place) (h3 : c.place < c.when.length) (h4 : c.ops.length ≤ 12) (h5 : c.when[c.place.toNat]? ≠ some 0) (h6 : c.ops ≠ []) (h7 : ∀ o ∈ c.ops, opErr o c.when.length = 0) (h8 : c.ops.Pairwise fun a b => a.no < b.no) : (comFault c).code = 0 := by
  have h9 : ¬ c.ops.length = 0 := fun h => h6 (List.length_eq_zero_iff.1 h)
  have h10 := ops_fine.2 ⟨h7, h8⟩
  rw [comFault, if_neg (by simp [h1]), if_neg (by omega), if_neg h5, if_neg h9, (opsFault_from c.ops.length 0 c.ops.length (Nat.zero_le _) fun j _ hj => h10 j hj).1 (by omega)]
theorem right_pair {c : ComT} (h : (comFault c).code = 0) : c.ops.Pairwise fun a b => a.no < b.no := by
  have hr := right_of h
  rw [← hr.op] at h
  exact (ops_fine.1 (opsFault_zero h)).2
structure PartOf (c' c : ComT) : Prop where
  place : c'.place = c.place
  time : c'.when = c.when
  ne : c'.ops ≠ []
  ops : c'.ops.Sublist c.ops
theorem PartOf.fault {c' c : ComT} (h : PartOf c' c) (hc : (comFault c).code = 0) : (comFault c').code = 0 := by
  have hr := right_of hc
  obtain ⟨h1, h2, h3, h4⟩ := h
  refine comFault_mk (by rw [h2]; exact hr.vec) (by rw [h1]; exact hr.p0) (by rw [h1, h2]; exact hr.p1) (Nat.le_trans h4.length_le hr.o2) (by rw [h1, h2]; exact hr.t0) h3 (fun o ho => ?_) ((right_pair hc).sublist h4)
  rw [h2]
  exact right_ops hc o (h4.subset ho)
theorem mem_allDone {l : List ComT} {x : DoneT} : x ∈ allDone l ↔ ∃ c ∈ l, ∃ o ∈ c.ops, x = doneOf c o := by
  unfold allDone
  rw [List.mem_flatMap]
  constructor
  · rintro ⟨c, hc, h⟩
    obtain ⟨o, ho, rfl⟩ := List.mem_map.1 h
    exact ⟨c, hc, o, ho, rfl⟩
  · rintro ⟨c, hc, o, ho, rfl⟩
    exact ⟨c, hc, List.mem_map_of_mem ho⟩
theorem PartOf.done {c' c : ComT} (h : PartOf c' c) (o : OpT) : doneOf c' o = doneOf c o := by
  simp only [doneOf, dotOf, h.place, h.time]
def Apart (l : List ComT) : Prop := ∀ (i k : Nat) (c d : ComT), k < i → l[i]? = some c → l[k]? = some d → ¬ (d.place = c.place ∧ d.when.getD d.place.toNat 0 = c.when.getD c.place.toNat 0)
theorem Apart.fun {l : List ComT} (h : Apart l) (hr : ∀ c ∈ l, (comFault c).code = 0) : ∀ x ∈ allDone l, ∀ y ∈ allDone l, x.d = y.d → x = y := by
  intro x hx y hy he
  obtain ⟨c, hc, o, ho, rfl⟩ := mem_allDone.1 hx
  obtain ⟨d, hd, q, hq, rfl⟩ := mem_allDone.1 hy
  obtain ⟨i, hi⟩ := List.getElem?_of_mem hc
  obtain ⟨k, hk⟩ := List.getElem?_of_mem hd
  simp only [doneOf, dotOf, DotT.mk.injEq] at he
  obtain ⟨e1, e2, e3⟩ := he
  have hik : i = k := by
    rcases Nat.lt_trichotomy i k with hlt | heq | hlt
    · exact absurd ⟨e1, e2⟩ (h k i d c hlt hk hi)
    · exact heq
    · exact absurd ⟨e1.symm, e2.symm⟩ (h i k c d hlt hi hk)
  subst hik
  rw [hi] at hk
  cases hk
  have hp := right_pair (hr c hc)
  obtain ⟨a, ha, rfl⟩ := List.getElem_of_mem ho
  obtain ⟨b, hb, rfl⟩ := List.getElem_of_mem hq
  have hab : a = b := by
    rcases Nat.lt_trichotomy a b with hlt | heq | hlt
    · have := List.pairwise_iff_getElem.1 hp a b ha hb hlt
      omega
    · exact heq
    · have := List.pairwise_iff_getElem.1 hp b a hb ha hlt
      omega
  subst hab
  rfl
end Go.Proofs.YtehdegekgdlifaaDoor
end
section
namespace Go.Proofs.YtehdegekgdlifaaDoor
open Go Go.Sx
noncomputable abbrev chV (b mk md : Nat) (ba : Option Addr) (p nb cb clock : Nat) (es : Array MapEntry) (ks : List ByteArray) (F : ByteArray → Value) (L : List PutT) : List Chunk := [cObj b (.cells #[.int .i64 p, .slice ba nb cb, .map (some mk), .map (some md)] 89 (0, 0)), cObj mk (.map es clock), cStar (ks.map fun t => cAcc (F t) 37 3 ((keyC L t).map eCom)), cMapG md okDot (dotSet (L.map dotP))]
end Go.Proofs.YtehdegekgdlifaaDoor
end
section
namespace Go.Sx
open Go
theorem Rep.take {w : World} {S : Nat → Prop} {a : Option Addr} {n c k : Nat} {rows : List (List D)} (h : Rep w S (.slice a n c) (.sl k rows)) {i c' : Nat} (hi : i ≤ n) (hc' : n ≤ c') : Rep w S (.slice a i c') (.sl k (rows.take i)) := by
  have hn := h.slen
  cases h with
  | nil =>
    obtain rfl : i = 0 := by omega
    exact .nil
  | sl u hb hS hc hk hl hcell hrep =>
    have hlen : (rows.take i).length = i := by rw [List.length_take]; omega
    have hx := Rep.sl (rows := rows.take i) (cap := c') u hb hS (by rw [hlen]; omega) hk (fun row hr => hl row (List.mem_of_mem_take hr)) (fun p j hp hj => hcell p j (by rw [hlen] at hp; omega) hj) (fun p j row d hp hj => hrep p j row d (by
      rw [List.getElem?_take] at hp
      split at hp
      · exact hp
      · cases hp) hj)
    rwa [hlen] at hx
theorem Rep.drop {w : World} {S : Nat → Prop} {b off n c k : Nat} {rows : List (List D)} (h : Rep w S (.slice (some ⟨b, off, none⟩) n c) (.sl k rows)) {i c' : Nat} (hi : i ≤ n) (hc' : n - i ≤ c') : Rep w S (.slice (some ⟨b, off + i * k, none⟩) (n - i) c') (.sl k (rows.drop i)) := by
  have hn := h.slen
  cases h with
  | nil =>
    obtain rfl : i = 0 := by omega
    exact .nil
  | sl u hb hS hc hk hl hcell hrep =>
    have hlen : (rows.drop i).length = rows.length - i := by rw [List.length_drop]
    have hx := Rep.sl (rows := rows.drop i) (cap := c') (off := off + i * k) (fun p j => u (p + i) j) hb hS (by rw [hlen]; omega) hk (fun row hr => hl row (List.mem_of_mem_drop hr)) (fun p j hp hj => by
      have h1 := hcell (p + i) j (by rw [hlen] at hp; omega) hj
      rw [show off + i * k + (p * k + j) = off + ((p + i) * k + j) by rw [Nat.add_mul]; omega]
      exact h1) (fun p j row d hp hj => hrep (p + i) j row d (by
      rw [List.getElem?_drop] at hp
      rwa [Nat.add_comm]) hj)
    rwa [hlen] at hx
theorem hit {k : Int} : ∀ {L : List MsgT} {i : Nat} {x : MsgT}, L[i]? = some x → x.seq = k → (∀ m ∈ L.take i, m.seq ≠ k) → kept L k = some x ∧ L.take i ++ L.drop (i + 1) = dropK L k
  | [], i, x, h, _, _ => by simp at h
  | m :: L, 0, x, h, hs, _ => by
    simp only [List.getElem?_cons_zero, Option.some.injEq] at h
    subst h
    simp [kept, dropK, hs]
  | m :: L, i + 1, x, h, hs, hn => by
    have hm : m.seq ≠ k := hn m (by simp)
    obtain ⟨h1, h2⟩ := hit (by simpa using h) hs fun y hy => hn y (by simp [hy])
    refine ⟨by simpa [kept, hm] using h1, ?_⟩
    simp only [List.take_succ_cons, List.drop_succ_cons, List.cons_append, h2]
    simp [dropK, hm]
end Go.Sx
end
section
namespace Go.Proofs.YtehdegekgdlifaaDoor
open Go Go.Sx
def keepL (L : List MsgT) (seq : Int) : List MsgT := L.filter fun m => decide (seq < m.seq)
theorem keepL_snoc {L : List MsgT} {seq : Int} {x : MsgT} : keepL (L ++ [x]) seq = keepL L seq ++ if seq < x.seq then [x] else [] := by
  unfold keepL
  rw [List.filter_append]
  congr 1
  by_cases h : seq < x.seq <;> simp [h]
theorem set_take {L : List MsgT} {i : Nat} {x : MsgT} (hi : i < L.length) : (L.set i x).take (i + 1) = L.take i ++ [x] := by
  rw [List.take_add_one, List.take_set_of_le (Nat.le_refl _)]
  simp [hi]
theorem set_drop {L : List MsgT} {i j : Nat} {x : MsgT} (hi : i < j) : (L.set i x).drop j = L.drop j := List.drop_set_of_lt hi
structure DelInv (L : List MsgT) (seq : Int) (i j : Int) (Lc : List MsgT) : Prop where
  len : Lc.length = L.length
  take : Lc.take i.toNat = keepL (L.take j.toNat) seq
  drop : Lc.drop j.toNat = L.drop j.toNat
theorem DelInv.at {L Lc : List MsgT} {seq i j : Int} {x : MsgT} (h : DelInv L seq i j Lc) (hx : L[j.toNat]? = some x) : Lc[j.toNat]? = some x := by
  have h1 : (Lc.drop j.toNat)[0]? = (L.drop j.toNat)[0]? := by rw [h.drop]
  rw [List.getElem?_drop, List.getElem?_drop, Nat.add_zero] at h1
  rw [h1, hx]
theorem DelInv.skip {L Lc : List MsgT} {seq i j : Int} {x : MsgT} (h : DelInv L seq i j Lc) (hj : 0 ≤ j) (hx : L[j.toNat]? = some x) (hk : ¬ seq < x.seq) : DelInv L seq i (j + 1) Lc := by
  refine ⟨h.len, ?_, ?_⟩
  · rw [h.take, ← take_snoc hj hx, keepL_snoc, if_neg hk, List.append_nil]
  · rw [show (j + 1).toNat = j.toNat + 1 by omega, ← List.drop_drop, ← List.drop_drop, h.drop]
theorem DelInv.keep {L Lc : List MsgT} {seq i j : Int} {x : MsgT} (h : DelInv L seq i j Lc) (hi : 0 ≤ i) (hij : i < j) (hj : j < L.length) (hx : L[j.toNat]? = some x) (hk : seq < x.seq) : DelInv L seq (i + 1) (j + 1) (Lc.set i.toNat x) := by
  refine ⟨by rw [List.length_set]; exact h.len, ?_, ?_⟩
  · rw [show (i + 1).toNat = i.toNat + 1 by omega, set_take (by have := h.len; omega), h.take, ← take_snoc (by omega) hx, keepL_snoc, if_pos hk]
  · rw [set_drop (by omega), show (j + 1).toNat = j.toNat + 1 by omega, ← List.drop_drop, ← List.drop_drop, h.drop]
end Go.Proofs.YtehdegekgdlifaaDoor
end
section
namespace Go.Proofs.YtehdegekgdlifaaDoor
open Go Go.Sx
abbrev sCells (fm to sh q t : Int) (l : Value) : Obj := .cells #[.int .i64 fm, .int .i64 to, .int .i64 sh, .int .i64 q, .int .i64 t, l] 95 (0, 0)
set_option maxHeartbeats 4000000 in
theorem newSender {w0 : World} {S : Nat → Prop} {er : Nat → Addr} {fm to sh : Int} (hE : AllG w0 S (globs er)) (h0 : wayErr fm to sh = 0) :
    Calls Tryd.prog 18 #[.int .i64 fm, .int .i64 to, .int .i64 sh] w0 fun e w' => ∃ b,
      Ret [] w0 S w' e (.tuple #[.pointer (some ⟨b, 0, none⟩), .nilIface]) [cObj b (sCells fm to sh 0 0 (.slice none 0 0))] [] := by
  refine ep18 (args := [.int .i64 fm, .int .i64 to, .int .i64 sh]) (G := globs er) (by kernel_rfl) hE ?_
  refine J_seq ?_
  refine Za [.rd 0 [] 0 0, .rd 1 [] 0 0] [] [(6, .val (.pointer none)), (7, .val (.nilIface))] ?_
  refine J_seq ?_
  refine jT [(0, true), (1, true), (2, true), (3, false), (4, true), (5, true), (6, true), (7, false), (8, false), (9, true)] [] ?_
  refine Ya (id := 1) (rest := [(3, false), (4, true), (5, true), (6, true), (7, false), (8, false), (9, true)]) (Rds 0 3) [0, 1, 2] [(11, .val (.int .i64 fm)), (12, .val (.int .i64 to)), (13, .val (.int .i64 sh))] ?_
  refine Yc 30 #[.int .i64 fm, .int .i64 to, .int .i64 sh] (some 14) fun w S hG => ?_
  refine (newWay (hG.pick [0, 1, 2] rfl)).mono ?_
  rintro e1 w1 (⟨h1, hR⟩ | ⟨h1, hR⟩)
  · exact absurd h0 h1
  refine ⟨_, _, _, hR, ?_⟩
  try simp only [aQ]
  refine Ym (id := 1) (rest := []) (Rds 4 7 ++ [.wr 7 [] 0, .wr 8 [.o 0 none, .o 0 none, .o 0 none] 0, .rd 9 [] 0 0]) [14, 11, 12, 13] (fun nu1 => [(8, .val (.pointer (some (⟨nu1 0, 0, none⟩)))), (9, .val (.nilIface))]) (fun nu1 => [(nu1 0, .cells #[.int .i64 fm, .int .i64 to, .int .i64 sh] 91 (0, 0))]) [] (fun nu1 => ?_)
  refine JR_end ?_
  refine J_seq ?_
  refine J_seq ?_
  refine Za [.rd 0 [] 0 0, .rd 1 [] 0 0] [] [(18, .val (.bool false))] ?_
  refine J_cond_f (by kernel_rfl) (by kernel_rfl) ?_
  refine J_skip ?_
  refine J_seq ?_
  refine Zm [.rd 0 [.o 0 none, .o 0 none, .o 0 none] 0 0, .rd 1 [] 0 0, .wr 2 [] 0, .rd 3 [] 0 0, .rd 4 [] 0 0] [] [18, 8, 9] (fun nu2 => [(6, .val (.pointer (some (⟨nu2 0, 0, none⟩))))]) (fun nu2 => [(nu1 0, .cells #[.int .i64 fm, .int .i64 to, .int .i64 sh] 91 (0, 0)), (nu2 0, .cells #[.int .i64 fm, .int .i64 to, .int .i64 sh, .int .i64 0, .int .i64 0, .slice none 0 0] 95 (0, 0))]) (fun nu2 => ?_)
  refine Yr [[], []] (.tuple #[.pointer (some (⟨nu2 0, 0, none⟩)), .nilIface]) fun a w s => ?_
  exact ⟨_, (s.hide 1 rfl).ret (by simp) [0] [] rfl rfl⟩
set_option maxHeartbeats 4000000 in
theorem snext {w0 : World} {S : Nat → Prop} {M : List Nat} {b : Nat} {fm to sh q t time : Int} {beat : Bool} {a : Option Addr} {k cc : Nat} {L : List MsgT} {c : ComT} {a1 a2 : Option Addr} {n1 c1 n2 c2 : Nat}
    (hP : Pre w0 S M [cObj b (sCells fm to sh q t (.slice a k cc)), cAcc (.slice a k cc) 45 9 (L.map eMsg)]) (h1 : Rep w0 S (.slice a1 n1 c1) (dInts c.when)) (h2 : Rep w0 S (.slice a2 n2 c2) (.sl 7 (c.ops.map eOp))) (hl1 : c.when.length ≤ 1000000) (hl2 : c.ops.length ≤ 1000000) (hl3 : ∀ o ∈ c.ops, o.dots.length ≤ 1000000)
    (hq0 : 0 ≤ q) (hq1 : q < 1000000) (hL : L.length < 1000000) :
    Calls Tryd.prog 41 #[.pointer (some ⟨b, 0, none⟩), .int .i64 time, .agg #[.slice a1 n1 c1, .int .i64 c.place, .slice a2 n2 c2], .bool beat] w0 fun e w' => ∃ a' k' c' u1 d1 u2 d2,
      Ret M w0 S w' e (.agg #[.int .i64 fm, .int .i64 to, .int .i64 sh, .int .i64 (q + 1), .int .i64 time, .bool beat, .slice u1 n1 d1, .int .i64 c.place, .slice u2 n2 d2])
        [cObj b (sCells fm to sh (q + 1) time (.slice a' k' c')), cAcc (.slice a' k' c') 45 9 ((L ++ [(⟨fm, to, sh, q + 1, time, beat, c⟩ : MsgT)]).map eMsg)] [(.slice u1 n1 d1, dInts c.when), (.slice u2 n2 d2, .sl 7 (c.ops.map eOp))] := by
  refine en41 (args := [.pointer (some ⟨b, 0, none⟩), .int .i64 time, .agg #[.slice a1 n1 c1, .int .i64 c.place, .slice a2 n2 c2], .bool beat]) (S := S) (C := [cObj b (sCells fm to sh q t (.slice a k cc)), cAcc (.slice a k cc) 45 9 (L.map eMsg)]) (G := [(_, dInts c.when), (_, .sl 7 (c.ops.map eOp))]) (by kernel_rfl) hP (.cons h1 (.cons h2 (.nil _ _))) ?_
  refine J_show 0 rfl ?_
  refine J_stpx (stp_acclen 0 rfl) fun _ hk => ?_
  rw [List.length_map] at hk
  refine J_seq ?_
  refine Zm [.wr 0 [] 0, .wr 1 [] 0] [] [2] (fun nu1 => [(6, .val (.pointer (some (⟨nu1 0, 0, none⟩)))), (8, .val (.pointer (some (⟨nu1 1, 0, none⟩))))]) (fun nu1 => [(b, .cells #[.int .i64 fm, .int .i64 to, .int .i64 sh, .int .i64 q, .int .i64 t, .slice a k cc] 95 (0, 0)), (nu1 0, .cells #[.slice a1 n1 c1, .int .i64 c.place, .slice a2 n2 c2] 37 (0, 0)), (nu1 1, .cells #[.int .i64 0, .int .i64 0, .int .i64 0, .int .i64 0, .int .i64 0, .bool false, .slice none 0 0, .int .i64 0, .slice none 0 0] 45 (0, 0))]) (fun nu1 => ?_)
  refine J_seq ?_
  refine Zn (Rds 0 3 ++ [.rd 3 [.o 0 none] 0 0, .rd 4 [] 0 1, .rd 5 [] 0 0, .rd 6 [] 0 0, .wr 7 [.o 0 none] 0]) [(7, [0])] [] (fun _ => []) (fun _ => [(b, .cells #[.int .i64 fm, .int .i64 to, .int .i64 sh, .int .i64 (q + 1), .int .i64 t, .slice a k cc] 95 (0, 0)), (nu1 0, .cells #[.slice a1 n1 c1, .int .i64 c.place, .slice a2 n2 c2] 37 (0, 0)), (nu1 1, .cells #[.int .i64 0, .int .i64 0, .int .i64 0, .int .i64 0, .int .i64 0, .bool false, .slice none 0 0, .int .i64 0, .slice none 0 0] 45 (0, 0))]) (fun _ => [IntKind.i64.wrap (q + (1 : Int)) = q + (1 : Int)]) (fun _ => ⟨wrap_i64 (by omega) (by omega), trivial⟩) (fun _ => ?_)
  refine J_seq ?_
  refine Zm (Rds 0 4 ++ [.wr 4 [.o 0 none] 0]) [(4, [0])] [] (fun _ => []) (fun _ => [(b, .cells #[.int .i64 fm, .int .i64 to, .int .i64 sh, .int .i64 (q + 1), .int .i64 time, .slice a k cc] 95 (0, 0)), (nu1 0, .cells #[.slice a1 n1 c1, .int .i64 c.place, .slice a2 n2 c2] 37 (0, 0)), (nu1 1, .cells #[.int .i64 0, .int .i64 0, .int .i64 0, .int .i64 0, .int .i64 0, .bool false, .slice none 0 0, .int .i64 0, .slice none 0 0] 45 (0, 0))]) (fun _ => ?_)
  refine J_seq ?_
  refine Zm (Rds 0 4 ++ [.rd 4 [.o 0 none] 0 0] ++ Rds 5 9 ++ [.rd 9 [.o 0 none] 0 0] ++ Rds 10 14 ++ [.rd 14 [.o 0 none] 0 0] ++ Rds 15 18 ++ [.rd 18 [.o 0 none] 0 0, .rd 19 [] 0 0, .rd 20 [] 0 0, .rd 21 [.o 1 none, .o 1 none, .o 1 none] 0 0, .rd 22 [] 0 0, .wr 23 [] 0, .wr 24 [.o 3 none, .o 3 none, .o 3 none, .o 3 none, .o 3 none, .o 3 none, .o 3 none, .o 3 none, .o 3 none] 0]) [(24, [])] [6, 1, 3] (fun nu2 => [(9, .val (.pointer (some (⟨nu2 0, 0, none⟩))))]) (fun nu2 => [(b, .cells #[.int .i64 fm, .int .i64 to, .int .i64 sh, .int .i64 (q + 1), .int .i64 time, .slice a k cc] 95 (0, 0)), (nu1 0, .cells #[.slice a1 n1 c1, .int .i64 c.place, .slice a2 n2 c2] 37 (0, 0)), (nu1 1, .cells #[.int .i64 0, .int .i64 0, .int .i64 0, .int .i64 0, .int .i64 0, .bool false, .slice none 0 0, .int .i64 0, .slice none 0 0] 45 (0, 0)), (nu2 0, .cells #[.int .i64 fm, .int .i64 to, .int .i64 sh, .int .i64 (q + 1), .int .i64 time, .bool beat, .slice a1 n1 c1, .int .i64 c.place, .slice a2 n2 c2] 45 (0, 0))]) (fun nu2 => ?_)
  refine J_seq ?_
  refine jT [(0, true), (1, true), (2, true), (3, true), (4, true), (5, true), (6, false), (7, false), (8, false), (9, true), (10, true), (11, false)] [(8, []), (11, [0])] ?_
  refine Ya (id := 4) (rest := [(6, false), (7, false), (8, false), (9, true), (10, true), (11, false)]) (Rds 0 4 ++ [.rd 4 [.o 0 none] 0 0, .rd 5 [.o 3 none, .o 3 none, .o 3 none, .o 3 none, .o 3 none, .o 3 none, .o 3 none, .o 3 none, .o 3 none] 0 0]) [0] [(44, .val (.pointer (some (⟨b, 0, none⟩)))), (48, .val (.slice a k cc)), (49, .val (.agg #[.int .i64 fm, .int .i64 to, .int .i64 sh, .int .i64 (q + 1), .int .i64 time, .bool beat, .slice a1 n1 c1, .int .i64 c.place, .slice a2 n2 c2]))] ?_
  refine Yc 61 #[.agg #[.int .i64 fm, .int .i64 to, .int .i64 sh, .int .i64 (q + 1), .int .i64 time, .bool beat, .slice a1 n1 c1, .int .i64 c.place, .slice a2 n2 c2]] (some 50) fun w S hG => ?_
  refine (sOwn (m := ⟨fm, to, sh, q + 1, time, beat, c⟩) (hG.at 0 rfl) (hG.at 1 rfl) hl1 hl2 hl3).mono ?_
  rintro e1 w1 ⟨u1, d1, u2, d2, hR⟩
  refine ⟨_, _, _, hR, ?_⟩
  try simp only [aQ]
  refine Ym (id := 4) (rest := [(8, false), (9, true), (10, true), (11, false)]) [.wr 7 [] 0] [50, 49] (fun nu3 => [(51, .val (.slice (some (⟨nu3 0, 0, none⟩)) 1 1))]) (fun nu3 => [(b, .cells #[.int .i64 fm, .int .i64 to, .int .i64 sh, .int .i64 (q + 1), .int .i64 time, .slice a k cc] 95 (0, 0)), (nu1 0, .cells #[.slice a1 n1 c1, .int .i64 c.place, .slice a2 n2 c2] 37 (0, 0)), (nu1 1, .cells #[.int .i64 0, .int .i64 0, .int .i64 0, .int .i64 0, .int .i64 0, .bool false, .slice none 0 0, .int .i64 0, .slice none 0 0] 45 (0, 0)), (nu2 0, .cells #[.int .i64 fm, .int .i64 to, .int .i64 sh, .int .i64 (q + 1), .int .i64 time, .bool beat, .slice a1 n1 c1, .int .i64 c.place, .slice a2 n2 c2] 45 (0, 0)), (nu3 0, .cells #[.int .i64 fm, .int .i64 to, .int .i64 sh, .int .i64 (q + 1), .int .i64 time, .bool beat, .slice u1 n1 d1, .int .i64 c.place, .slice u2 n2 d2] 45 (0, 0))]) [(8, []), (11, [0])] (fun nu3 => ?_)
  refine JR_appm 0 38 45 9 104 (.agg #[.int .i64 0, .int .i64 0, .int .i64 0, .int .i64 0, .int .i64 0, .bool false, .slice none 0 0, .int .i64 0, .slice none 0 0]) (a0 := a) (len := k) (cap0 := cc) (ax := (some (⟨nu3 0, 0, none⟩))) (m := 1) (c := 1) (dst := (some 52)) [(⟨fm, to, sh, q + 1, time, beat, c⟩ : MsgT)] (by kernel_rfl) (by kernel_rfl) (by kernel_rfl) (by kernel_rfl) rfl (by decide) rfl (fun _ _ _ s => src_one s 4 rfl rfl ⟨.inl ⟨rfl, rfl⟩, ⟨.inl ⟨rfl, rfl⟩, ⟨.inl ⟨rfl, rfl⟩, ⟨.inl ⟨rfl, rfl⟩, ⟨.inl ⟨rfl, rfl⟩, ⟨.inl ⟨rfl, rfl⟩, ⟨.inr (.inl (List.mem_of_getElem? (i := 2) rfl)), ⟨.inl ⟨rfl, rfl⟩, ⟨.inr (.inl (List.mem_of_getElem? (i := 3) rfl)), trivial⟩⟩⟩⟩⟩⟩⟩⟩⟩) (by simp only [maxLen]; omega) (by omega) (fun av1 cv1 => ?_)
  try simp only [aQ]
  refine Ym (id := 4) (rest := []) [.rd 9 [] 0 0, .rd 10 [] 0 0, .wr 11 [.o 0 none] 0] [52, 51, 44, 48] (fun _ => []) (fun _ => [(b, .cells #[.int .i64 fm, .int .i64 to, .int .i64 sh, .int .i64 (q + 1), .int .i64 time, .slice av1 (k + 1) cv1] 95 (0, 0)), (nu1 0, .cells #[.slice a1 n1 c1, .int .i64 c.place, .slice a2 n2 c2] 37 (0, 0)), (nu1 1, .cells #[.int .i64 0, .int .i64 0, .int .i64 0, .int .i64 0, .int .i64 0, .bool false, .slice none 0 0, .int .i64 0, .slice none 0 0] 45 (0, 0)), (nu2 0, .cells #[.int .i64 fm, .int .i64 to, .int .i64 sh, .int .i64 (q + 1), .int .i64 time, .bool beat, .slice a1 n1 c1, .int .i64 c.place, .slice a2 n2 c2] 45 (0, 0)), (nu3 0, .cells #[.int .i64 fm, .int .i64 to, .int .i64 sh, .int .i64 (q + 1), .int .i64 time, .bool beat, .slice u1 n1 d1, .int .i64 c.place, .slice u2 n2 d2] 45 (0, 0))]) [] (fun _ => ?_)
  try simp only [aQ]
  refine JR_end ?_
  try simp only [aQ]
  refine J_seq ?_
  try simp only [aQ]
  refine jT [(0, true), (1, false), (2, false)] [] ?_
  refine Ya (id := 5) (rest := [(1, false), (2, false)]) [.rd 0 [.o 3 none, .o 3 none, .o 3 none, .o 3 none, .o 3 none, .o 3 none, .o 3 none, .o 3 none, .o 3 none] 0 0] [9] [(55, .val (.agg #[.int .i64 fm, .int .i64 to, .int .i64 sh, .int .i64 (q + 1), .int .i64 time, .bool beat, .slice a1 n1 c1, .int .i64 c.place, .slice a2 n2 c2]))] ?_
  refine Yc 61 #[.agg #[.int .i64 fm, .int .i64 to, .int .i64 sh, .int .i64 (q + 1), .int .i64 time, .bool beat, .slice a1 n1 c1, .int .i64 c.place, .slice a2 n2 c2]] (some 56) fun w S hG => ?_
  refine (sOwn (m := ⟨fm, to, sh, q + 1, time, beat, c⟩) (hG.at 0 rfl) (hG.at 1 rfl) hl1 hl2 hl3).mono ?_
  rintro e2 w2 ⟨u3, d3, u4, d4, hR⟩
  refine ⟨_, _, _, hR, ?_⟩
  try simp only [aQ]
  refine Ym (id := 5) (rest := []) [.wr 2 [.o 2 none, .o 2 none, .o 2 none, .o 2 none, .o 2 none, .o 2 none, .o 2 none, .o 2 none, .o 2 none] 0] [56, 55] (fun _ => []) (fun _ => [(b, .cells #[.int .i64 fm, .int .i64 to, .int .i64 sh, .int .i64 (q + 1), .int .i64 time, .slice av1 (k + 1) cv1] 95 (0, 0)), (nu1 0, .cells #[.slice a1 n1 c1, .int .i64 c.place, .slice a2 n2 c2] 37 (0, 0)), (nu1 1, .cells #[.int .i64 fm, .int .i64 to, .int .i64 sh, .int .i64 (q + 1), .int .i64 time, .bool beat, .slice u3 n1 d3, .int .i64 c.place, .slice u4 n2 d4] 45 (0, 0)), (nu2 0, .cells #[.int .i64 fm, .int .i64 to, .int .i64 sh, .int .i64 (q + 1), .int .i64 time, .bool beat, .slice a1 n1 c1, .int .i64 c.place, .slice a2 n2 c2] 45 (0, 0)), (nu3 0, .cells #[.int .i64 fm, .int .i64 to, .int .i64 sh, .int .i64 (q + 1), .int .i64 time, .bool beat, .slice u1 n1 d1, .int .i64 c.place, .slice u2 n2 d2] 45 (0, 0))]) [] (fun _ => ?_)
  try simp only [aQ]
  refine JR_end ?_
  try simp only [aQ]
  refine Yr [[.o 2 none, .o 2 none, .o 2 none, .o 2 none, .o 2 none, .o 2 none, .o 2 none, .o 2 none, .o 2 none]] (.agg #[.int .i64 fm, .int .i64 to, .int .i64 sh, .int .i64 (q + 1), .int .i64 time, .bool beat, .slice u3 n1 d3, .int .i64 c.place, .slice u4 n2 d4]) fun a w s => ?_
  exact ⟨_, _, _, u3, d3, u4, d4, (s.hide 0 rfl).ret (by simp) [1, 0] [4, 5] rfl rfl⟩
end Go.Proofs.YtehdegekgdlifaaDoor
end
section
namespace Go.Proofs.YtehdegekgdlifaaDoor
open Go Go.Sx
def FErrV (er : Nat → Addr) (f : FT) (v : Value) (G : List (Value × D)) : Prop :=
  (f.at' = -1 ∧ ErrIs 156 er f.code v ∧ G = []) ∨
  (1 ≤ f.code ∧ 0 ≤ f.at' ∧ ∃ pb, v = .iface 79 (.pointer (some ⟨pb, 0, none⟩)) ∧ G = [(.pointer (some ⟨pb, 0, none⟩), .ptr [.v (.int .i64 f.at'), .v (.iface 156 (.pointer (some (er f.code))))])])
def scomErr (c : ComT) (fm t : Int) : FT :=
  if (comFault c).code ≠ 0 then comFault c
  else if c.place ≠ fm then ⟨3, -1⟩
  else if c.when.getD c.place.toNat 0 ≤ t then ⟨9, -1⟩
  else ⟨0, -1⟩
theorem comFault_ok {c : ComT} (h : (comFault c).code = 0) : comFault c = ⟨0, -1⟩ ∧ 0 ≤ c.place ∧ c.place < c.when.length := by
  unfold comFault at h ⊢
  split at h
  · rename_i h1; exact absurd h h1
  rw [if_neg (by assumption)]
  split at h
  · cases h
  rw [if_neg (by assumption)]
  rename_i h2
  split at h
  · cases h
  rw [if_neg (by assumption)]
  split at h
  · cases h
  rw [if_neg (by assumption)]
  refine ⟨?_, by omega, by omega⟩
  obtain ⟨h3, h4⟩ := opsFault_from (l := c.ops) (places := c.when.length) c.ops.length 0 c.ops.length (Nat.zero_le _) fun j _ hj => by
    have key : ∀ n k, (opsFault c.ops c.when.length n k).code = 0 → ∀ j, k ≤ j → j < k + n → opErrAt c.ops c.when.length j = 0 := by
      intro n
      induction n with
      | zero => intro k _ j h1 h2; omega
      | succ n ih =>
        intro k hk j h1 h2
        unfold opsFault at hk
        split at hk
        · rename_i h0
          rcases Nat.eq_or_lt_of_le h1 with rfl | hlt
          · exact h0
          · exact ih (k + 1) hk j hlt (by omega)
        · rename_i h0
          exact absurd hk h0
    exact key _ _ h j (Nat.zero_le _) (by omega)
  exact h3 (by omega)
abbrev zMsg : Value := .agg #[.int .i64 0, .int .i64 0, .int .i64 0, .int .i64 0, .int .i64 0, .bool false, .slice none 0 0, .int .i64 0, .slice none 0 0]
set_option maxHeartbeats 2000000 in
theorem scommit {w0 : World} {S : Nat → Prop} {M : List Nat} {er : Nat → Addr} {eb : Nat → Array Value × TypeId} {b : Nat} {fm to sh q t : Int} {a : Option Addr} {k cc : Nat} {L : List MsgT} {c : ComT} {a1 a2 : Option Addr} {n1 c1 n2 c2 : Nat} (hC : Rep w0 S .nilIface (dC er eb))
    (hP : Pre w0 S M [cObj b (sCells fm to sh q t (.slice a k cc)), cAcc (.slice a k cc) 45 9 (L.map eMsg)]) (h1 : Rep w0 S (.slice a1 n1 c1) (dInts c.when)) (h2 : Rep w0 S (.slice a2 n2 c2) (.sl 7 (c.ops.map eOp))) (hl1 : c.when.length ≤ 1000000) (hl2 : c.ops.length ≤ 1000000) (hl3 : ∀ o ∈ c.ops, o.dots.length ≤ 1000000)
    (hq0 : 0 ≤ q) (hq1 : q < 1000000) (hL : L.length < 1000000) :
    Calls Tryd.prog 25 #[.pointer (some ⟨b, 0, none⟩), .agg #[.slice a1 n1 c1, .int .i64 c.place, .slice a2 n2 c2]] w0 fun e w' =>
      ((scomErr c fm t).code ≠ 0 ∧ ∃ v G', Ret M w0 S w' e (.tuple #[zMsg, v]) [cObj b (sCells fm to sh q t (.slice a k cc)), cAcc (.slice a k cc) 45 9 (L.map eMsg)] G' ∧ FErrV er (scomErr c fm t) v G') ∨
      (scomErr c fm t = ⟨0, -1⟩ ∧ ∃ a' k' c' u1 d1 u2 d2,
      Ret M w0 S w' e (.tuple #[.agg #[.int .i64 fm, .int .i64 to, .int .i64 sh, .int .i64 (q + 1), .int .i64 (c.when.getD c.place.toNat 0), .bool false, .slice u1 n1 d1, .int .i64 c.place, .slice u2 n2 d2], .nilIface])
        [cObj b (sCells fm to sh (q + 1) (c.when.getD c.place.toNat 0) (.slice a' k' c')), cAcc (.slice a' k' c') 45 9 ((L ++ [(⟨fm, to, sh, q + 1, c.when.getD c.place.toNat 0, false, c⟩ : MsgT)]).map eMsg)] [(.slice u1 n1 d1, dInts c.when), (.slice u2 n2 d2, .sl 7 (c.ops.map eOp))]) := by
  obtain rfl := rep_ints_len h1
  refine en25 (args := [.pointer (some ⟨b, 0, none⟩), .agg #[.slice a1 c.when.length c1, .int .i64 c.place, .slice a2 n2 c2]]) (S := S) (C := [cObj b (sCells fm to sh q t (.slice a k cc)), cAcc (.slice a k cc) 45 9 (L.map eMsg)]) (G := [(_, dC er eb), (_, dInts c.when), (_, .sl 7 (c.ops.map eOp))]) (by kernel_rfl) hP (.cons hC (.cons h1 (.cons h2 (.nil _ _)))) ?_
  refine J_show 0 rfl ?_
  refine J_stp (stp_all 0 [2, 8] rfl rfl) ?_
  refine J_glob 3 rfl (fun csg1 tyg1 fzg1 hglob1 => ?_)
  refine J_glob 4 rfl (fun csg2 tyg2 fzg2 hglob2 => ?_)
  try simp only [aQ]
  refine J_seq ?_
  refine Zm [.wr 0 [] 0, .wr 1 [] 0, .rd 2 [] 0 0] [] [1] (fun nu1 => [(3, .val (.pointer (some (⟨nu1 0, 0, none⟩)))), (4, .val (.pointer (some (⟨nu1 1, 0, none⟩)))), (5, .val (.nilIface))]) (fun nu1 => [(b, .cells #[.int .i64 fm, .int .i64 to, .int .i64 sh, .int .i64 q, .int .i64 t, .slice a k cc] 95 (0, 0)), (nu1 0, .cells #[.slice a1 c.when.length c1, .int .i64 c.place, .slice a2 n2 c2] 37 (0, 0)), (nu1 1, .cells #[.int .i64 0, .int .i64 0, .int .i64 0, .int .i64 0, .int .i64 0, .bool false, .slice none 0 0, .int .i64 0, .slice none 0 0] 45 (0, 0))]) (fun nu1 => ?_)
  refine J_seq ?_
  refine J_seq ?_
  refine jT [(0, true), (1, false), (2, true)] [] ?_
  refine Ya (id := 1) (rest := [(1, false), (2, true)]) [.rd 0 [.o 1 none, .o 1 none, .o 1 none] 0 0] [] [(7, .val (.agg #[.slice a1 c.when.length c1, .int .i64 c.place, .slice a2 n2 c2]))] ?_
  refine Yc 22 #[.agg #[.slice a1 c.when.length c1, .int .i64 c.place, .slice a2 n2 c2]] (some 8) fun w S hG => ?_
  refine (checkCommit (c := c) (hG.at 0 rfl) (hG.at 1 rfl) (hG.at 2 rfl) hl1 hl2).mono ?_
  rintro e1 w1 (⟨hat, v, hR, hv⟩ | ⟨hc1, hc2, pb, hR⟩)
  · refine ⟨_, _, _, hR, ?_⟩
    obtain ⟨hc0, rfl⟩ | ⟨hc0, rfl⟩ := hv
    · obtain ⟨hcf, hp0, hp1⟩ := comFault_ok hc0
      try simp only [aQ]
      refine Ya (id := 1) (rest := []) [.rd 2 [] 0 0] [8, 7] [(6, .val (.nilIface))] ?_
      refine JR_end ?_
      refine J_seq ?_
      refine Za [.rd 0 [] 0 0, .rd 1 [] 0 0] [] [(10, .val (.bool false))] ?_
      refine J_cond_f (by kernel_rfl) (by kernel_rfl) ?_
      refine J_skip ?_
      refine J_seq ?_
      refine J_seq ?_
      refine Za ([.rd 0 [] 0 0, .rd 1 [.o 1 none] 0 0] ++ Rds 2 6 ++ [.rd 6 [.o 0 none] 0 0, .rd 7 [] 0 0]) [10, 6] [(20, .val (.bool (c.place != fm)))] ?_
      have hcc : ¬ ((comFault c).code ≠ 0) := by simp [hc0]
      refine J_cond (t := c.place != fm) (by kernel_rfl) (by kernel_rfl) (fun hpl => ?_) (fun hpl => ?_)
      · have e : scomErr c fm t = ⟨3, -1⟩ := by rw [scomErr, if_neg hcc, if_pos (by simpa using hpl)]
        rw [e]
        refine J_seq ?_
        refine Zn [.rd 0 [] 0 0, .rd 1 [.r 0 (some (.iface 156 (.pointer (some (er 3)))))] 0 0, .wr 2 [.o 2 none, .o 2 none, .o 2 none, .o 2 none, .o 2 none, .o 2 none, .o 2 none, .o 2 none, .o 2 none] 0, .rd 3 [] 0 0] [(2, [2])] [20] (fun _ => [(5, .val (.iface 156 (.pointer (some (er 3)))))]) (fun _ => [(b, .cells #[.int .i64 fm, .int .i64 to, .int .i64 sh, .int .i64 q, .int .i64 t, .slice a k cc] 95 (0, 0)), (nu1 0, .cells #[.slice a1 c.when.length c1, .int .i64 c.place, .slice a2 n2 c2] 37 (0, 0)), (nu1 1, .cells #[.int .i64 0, .int .i64 0, .int .i64 0, .int .i64 0, .int .i64 0, .bool false, .slice none 0 0, .int .i64 0, .slice none 0 0] 45 (0, 0))]) (fun _ => [csg1[(0 : Nat)]? = some (Value.iface (156 : Nat) (Value.pointer (some (er (3 : Nat)))))]) (fun _ => ⟨hglob1, trivial⟩) (fun _ => ?_)
        refine Yr [[.o 2 none, .o 2 none, .o 2 none, .o 2 none, .o 2 none, .o 2 none, .o 2 none, .o 2 none, .o 2 none], []] (.tuple #[.agg #[.int .i64 0, .int .i64 0, .int .i64 0, .int .i64 0, .int .i64 0, .bool false, .slice none 0 0, .int .i64 0, .slice none 0 0], .iface 156 (.pointer (some (er 3)))]) fun a w s => ?_
        exact .inl ⟨by decide, _, _, (s.hide 0 rfl).ret (by simp) [1, 0] [] rfl rfl, .inl ⟨rfl, .inr ⟨by decide, rfl⟩, rfl⟩⟩
      have hpl2 : ¬ c.place ≠ fm := by simpa using hpl
      obtain ⟨t1, ht1⟩ : ∃ t1, c.when[c.place.toNat]? = some t1 := ⟨_, List.getElem?_eq_getElem (by omega)⟩
      have hgd : c.when.getD c.place.toNat 0 = t1 := by rw [List.getD_eq_getElem?_getD, ht1]; rfl
      rw [hgd]
      refine J_read0 1 rfl c.place.toNat (map_at ht1) (by kernel_rfl) (fun b1 off1 cs1 ty1 fz1 ha1 hrd1 => ?_)
      cases ha1
      have hrd1_0 := rd0 (hrd1 0 _ rfl)
      try simp only [aQ]
      refine J_skip ?_
      refine J_seq ?_
      refine J_seq ?_
      refine Zp ([.rd 0 [] 0 0, .rd 1 [.o 1 none] 0 0, .rd 2 [] 0 0, .rd 3 [.o 1 none] 0 0, .rd 4 [] 0 2, .rd 5 [.r 2 (some (.int .i64 t1))] 0 0] ++ Rds 6 9 ++ [.rd 9 [.o 0 none] 0 0, .rd 10 [] 0 0]) [20] [(33, .val (.bool (decide (t1 ≤ t))))] [(0 : Int) ≤ c.place, c.place < (↑c.when.length : Int), cs1[off1 + c.place.toNat * (1 : Nat)]? = some (Value.int IntKind.i64 t1)] ⟨hp0, hp1, hrd1_0, trivial⟩ ?_
      refine J_cond (t := decide (t1 ≤ t)) (by kernel_rfl) (by kernel_rfl) (fun hold => ?_) (fun hold => ?_)
      · have e : scomErr c fm t = ⟨9, -1⟩ := by rw [scomErr, if_neg hcc, if_neg hpl2, hgd, if_pos (by simpa using hold)]
        rw [e]
        refine J_seq ?_
        refine Zn [.rd 0 [] 0 0, .rd 1 [.r 1 (some (.iface 156 (.pointer (some (er 9)))))] 0 0, .wr 2 [.o 2 none, .o 2 none, .o 2 none, .o 2 none, .o 2 none, .o 2 none, .o 2 none, .o 2 none, .o 2 none] 0, .rd 3 [] 0 0] [(2, [2])] [33] (fun _ => [(5, .val (.iface 156 (.pointer (some (er 9)))))]) (fun _ => [(b, .cells #[.int .i64 fm, .int .i64 to, .int .i64 sh, .int .i64 q, .int .i64 t, .slice a k cc] 95 (0, 0)), (nu1 0, .cells #[.slice (some (⟨b1, off1, none⟩)) c.when.length c1, .int .i64 c.place, .slice a2 n2 c2] 37 (0, 0)), (nu1 1, .cells #[.int .i64 0, .int .i64 0, .int .i64 0, .int .i64 0, .int .i64 0, .bool false, .slice none 0 0, .int .i64 0, .slice none 0 0] 45 (0, 0))]) (fun _ => [csg2[(0 : Nat)]? = some (Value.iface (156 : Nat) (Value.pointer (some (er (9 : Nat)))))]) (fun _ => ⟨hglob2, trivial⟩) (fun _ => ?_)
        refine Yr [[.o 2 none, .o 2 none, .o 2 none, .o 2 none, .o 2 none, .o 2 none, .o 2 none, .o 2 none, .o 2 none], []] (.tuple #[.agg #[.int .i64 0, .int .i64 0, .int .i64 0, .int .i64 0, .int .i64 0, .bool false, .slice none 0 0, .int .i64 0, .slice none 0 0], .iface 156 (.pointer (some (er 9)))]) fun a w s => ?_
        exact .inl ⟨by decide, _, _, (s.hide 0 rfl).ret (by simp) [1, 0] [] rfl rfl, .inl ⟨rfl, .inr ⟨by decide, rfl⟩, rfl⟩⟩
      have e : scomErr c fm t = ⟨0, -1⟩ := by rw [scomErr, if_neg hcc, if_neg hpl2, hgd, if_neg (by simpa using hold)]
      refine J_skip ?_
      refine J_seq ?_
      refine J_hide 0 rfl ?_
      try simp only [aQ]
      refine jT [(0, true), (1, true), (2, true), (3, true), (4, true), (5, true), (6, true), (7, true), (8, false), (9, false), (10, true)] [(8, []), (9, [1])] ?_
      refine Yp (id := 8) (rest := [(8, false), (9, false), (10, true)]) [.rd 0 [] 0 0, .rd 1 [] 0 0, .rd 2 [.o 0 none] 0 0, .rd 3 [] 0 0, .rd 4 [.o 0 none] 0 0, .rd 5 [] 0 2, .rd 6 [.r 2 (some (.int .i64 t1))] 0 0, .rd 7 [.o 0 none, .o 0 none, .o 0 none] 0 0] [33, 3, 0] [(36, .val (.pointer (some (⟨b, 0, none⟩)))), (42, .val (.int .i64 t1)), (43, .val (.agg #[.slice (some (⟨b1, off1, none⟩)) c.when.length c1, .int .i64 c.place, .slice a2 n2 c2]))] [(0 : Int) ≤ c.place, c.place < (↑c.when.length : Int), cs1[off1 + c.place.toNat * (1 : Nat)]? = some (Value.int IntKind.i64 t1)] ⟨hp0, hp1, hrd1_0, trivial⟩ ?_
      refine JR_call [] [1, 0] 41 #[.pointer (some (⟨b, 0, none⟩)), .int .i64 t1, .agg #[.slice (some (⟨b1, off1, none⟩)) c.when.length c1, .int .i64 c.place, .slice a2 n2 c2], .bool false] (some 44) (by kernel_rfl) (by kernel_rfl) (by decide) (fun w S M hP hG _ => ?_)
      refine (snext (c := c) hP (hG.at 1 rfl) (hG.at 2 rfl) hl1 hl2 hl3 hq0 hq1 hL).mono ?_
      rintro e2 w2 ⟨a', k', c', u1, d1, u2, d2, hR⟩
      refine ⟨_, _, _, hR, ?_⟩
      try simp only [aQ]
      refine Ym (id := 8) (rest := []) [.wr 9 [.o 1 none, .o 1 none, .o 1 none, .o 1 none, .o 1 none, .o 1 none, .o 1 none, .o 1 none, .o 1 none] 0, .rd 10 [] 0 0] [44, 36, 42, 43] (fun _ => []) (fun _ => [(nu1 0, .cells #[.slice (some (⟨b1, off1, none⟩)) c.when.length c1, .int .i64 c.place, .slice a2 n2 c2] 37 (0, 0)), (nu1 1, .cells #[.int .i64 fm, .int .i64 to, .int .i64 sh, .int .i64 (q + 1), .int .i64 t1, .bool false, .slice u1 c.when.length d1, .int .i64 c.place, .slice u2 n2 d2] 45 (0, 0))]) [] (fun _ => ?_)
      try simp only [aQ]
      refine JR_end ?_
      try simp only [aQ]
      refine Yr [[.o 1 none, .o 1 none, .o 1 none, .o 1 none, .o 1 none, .o 1 none, .o 1 none, .o 1 none, .o 1 none], []] (.tuple #[.agg #[.int .i64 fm, .int .i64 to, .int .i64 sh, .int .i64 (q + 1), .int .i64 t1, .bool false, .slice u1 c.when.length d1, .int .i64 c.place, .slice u2 n2 d2], .nilIface]) fun a w s => ?_
      exact .inr ⟨e, a', k', c', u1, d1, u2, d2, s.ret (by simp) [0, 1] [5, 6] rfl rfl⟩
    · have e : scomErr c fm t = comFault c := by rw [scomErr, if_pos hc0]
      rw [e]
      try simp only [aQ]
      refine Ya (id := 1) (rest := []) [.rd 2 [] 0 0] [8, 7] [(6, .val (.iface 156 (.pointer (some (er (comFault c).code)))))] ?_
      refine JR_end ?_
      refine J_seq ?_
      refine Za [.rd 0 [] 0 0, .rd 1 [] 0 0] [] [(10, .val (.bool true))] ?_
      refine J_cond_t (by kernel_rfl) (by kernel_rfl) ?_
      refine J_seq ?_
      refine Zm [.rd 0 [] 0 0, .rd 1 [] 0 0, .wr 2 [.o 2 none, .o 2 none, .o 2 none, .o 2 none, .o 2 none, .o 2 none, .o 2 none, .o 2 none, .o 2 none] 0, .rd 3 [] 0 0] [(2, [2])] [10, 6] (fun _ => [(5, .val (.iface 156 (.pointer (some (er (comFault c).code)))))]) (fun _ => [(b, .cells #[.int .i64 fm, .int .i64 to, .int .i64 sh, .int .i64 q, .int .i64 t, .slice a k cc] 95 (0, 0)), (nu1 0, .cells #[.slice a1 c.when.length c1, .int .i64 c.place, .slice a2 n2 c2] 37 (0, 0)), (nu1 1, .cells #[.int .i64 0, .int .i64 0, .int .i64 0, .int .i64 0, .int .i64 0, .bool false, .slice none 0 0, .int .i64 0, .slice none 0 0] 45 (0, 0))]) (fun _ => ?_)
      refine Yr [[.o 2 none, .o 2 none, .o 2 none, .o 2 none, .o 2 none, .o 2 none, .o 2 none, .o 2 none, .o 2 none], []] (.tuple #[.agg #[.int .i64 0, .int .i64 0, .int .i64 0, .int .i64 0, .int .i64 0, .bool false, .slice none 0 0, .int .i64 0, .slice none 0 0], .iface 156 (.pointer (some (er (comFault c).code)))]) fun a w s => ?_
      exact .inl ⟨hc0, _, _, (s.hide 0 rfl).ret (by simp) [1, 0] [] rfl rfl, .inl ⟨hat, .inr ⟨hc0, rfl⟩, rfl⟩⟩
  · refine ⟨_, _, _, hR, ?_⟩
    have hc0 : (comFault c).code ≠ 0 := by omega
    have e : scomErr c fm t = comFault c := by rw [scomErr, if_pos hc0]
    rw [e]
    try simp only [aQ]
    refine Ya (id := 1) (rest := []) [.rd 2 [] 0 0] [8, 7] [(6, .val (.iface 79 (.pointer (some (⟨pb, 0, none⟩)))))] ?_
    refine JR_end ?_
    refine J_seq ?_
    refine Za [.rd 0 [] 0 0, .rd 1 [] 0 0] [] [(10, .val (.bool true))] ?_
    refine J_cond_t (by kernel_rfl) (by kernel_rfl) ?_
    refine J_seq ?_
    refine Zm [.rd 0 [] 0 0, .rd 1 [] 0 0, .wr 2 [.o 2 none, .o 2 none, .o 2 none, .o 2 none, .o 2 none, .o 2 none, .o 2 none, .o 2 none, .o 2 none] 0, .rd 3 [] 0 0] [(2, [2])] [10, 6] (fun _ => [(5, .val (.iface 79 (.pointer (some (⟨pb, 0, none⟩)))))]) (fun _ => [(b, .cells #[.int .i64 fm, .int .i64 to, .int .i64 sh, .int .i64 q, .int .i64 t, .slice a k cc] 95 (0, 0)), (nu1 0, .cells #[.slice a1 c.when.length c1, .int .i64 c.place, .slice a2 n2 c2] 37 (0, 0)), (nu1 1, .cells #[.int .i64 0, .int .i64 0, .int .i64 0, .int .i64 0, .int .i64 0, .bool false, .slice none 0 0, .int .i64 0, .slice none 0 0] 45 (0, 0))]) (fun _ => ?_)
    refine Yr [[.o 2 none, .o 2 none, .o 2 none, .o 2 none, .o 2 none, .o 2 none, .o 2 none, .o 2 none, .o 2 none], []] (.tuple #[.agg #[.int .i64 0, .int .i64 0, .int .i64 0, .int .i64 0, .int .i64 0, .bool false, .slice none 0 0, .int .i64 0, .slice none 0 0], .iface 79 (.pointer (some (⟨pb, 0, none⟩)))]) fun a w s => ?_
    exact .inl ⟨hc0, _, _, (s.hide 0 rfl).ret (by simp) [1, 0] [5] rfl rfl, .inr ⟨hc1, hc2, pb, rfl, rfl⟩⟩
end Go.Proofs.YtehdegekgdlifaaDoor
end
section
namespace Go.Sx
open Go
structure VerP where
  kb : Nat
  db : Nat
  ba : Option Addr
  nb : Nat
  cb : Nat
  clock : Nat
  es : Array MapEntry
  ks : List ByteArray
  F : ByteArray → Value
end Go.Sx
namespace Go.Proofs.YtehdegekgdlifaaDoor
open Go Go.Sx
structure VerOk (L : List PutT) (v : VerP) : Prop where
  m : MapG (MapKept.IsKey .string) v.es (strG v.ks v.F)
  st : MapKept.Stamped v.es v.clock
  nd : v.ks.Nodup
  iff : ∀ t, t ∈ v.ks ↔ keyC L t ≠ []
noncomputable def cVer (b p : Nat) (base : List Int) (L : List PutT) : Chunk := cBox (VerOk L) (fun v => [(.slice v.ba v.nb v.cb, dInts base)]) fun v => chV b v.kb v.db v.ba p v.nb v.cb v.clock v.es v.ks v.F L
structure VerI (p : Nat) (base : List Int) (L : List PutT) : Prop where
  bok : vecErr base = 0
  basel : base.length = p
  few : L.length ≤ 300000
  put : ∀ q ∈ L, (comFault (oneC q)).code = 0 ∧ q.when.length = p
def putL (p : Nat) (base : List Int) (L : List PutT) (c : ComT) : List PutT := if (putFault p base L c).code = 0 then L ++ putsOf c c.ops else L
theorem scanF_ok {f : Nat → Nat} : ∀ (n k : Nat), (scanF f n k).code = 0 → scanF f n k = ⟨0, -1⟩
  | 0, _, _ => rfl
  | n + 1, k, h => by
    unfold scanF at h ⊢
    split at h
    · rename_i h0
      rw [if_pos h0]
      exact scanF_ok n (k + 1) h
    · rename_i h0
      exact absurd h h0
theorem putFault_ok {p : Nat} {base : List Int} {L : List PutT} {c : ComT} (h : (putFault p base L c).code = 0) : putFault p base L c = ⟨0, -1⟩ := by
  unfold putFault at h ⊢
  split at h
  · rename_i h1
    exact absurd h h1
  rw [if_neg (by assumption)]
  split at h
  · cases h
  rw [if_neg (by assumption)]
  split at h
  · cases h
  rw [if_neg (by assumption)]
  exact scanF_ok _ _ h
section vers
variable {w : World} {S : Nat → Prop} {M : List Nat} {er : Nat → Addr} {eb : Nat → Array Value × TypeId} {b p : Nat} {base : List Int} {L : List PutT}
theorem verPut {a1 a2 : Option Addr} {n1 c1 n2 c2 : Nat} {c : ComT} (hC : Rep w S .nilIface (dC er eb)) (hP : Pre w S M [cVer b p base L]) (h : VerI p base L) (h1 : Rep w S (.slice a1 n1 c1) (dInts c.when)) (h2 : Rep w S (.slice a2 n2 c2) (.sl 7 (c.ops.map eOp))) (hl1 : c.when.length ≤ 1000000) (hl2 : c.ops.length ≤ 1000000) (hl3 : ∀ o ∈ c.ops, o.dots.length ≤ 1000000) :
    Calls Tryd.prog 23 #[.pointer (some ⟨b, 0, none⟩), .agg #[.slice a1 n1 c1, .int .i64 c.place, .slice a2 n2 c2]] w fun e w' => ∃ v G, Ret M w S w' e v [cVer b p base (putL p base L c)] G ∧ FErrV er (putFault p base L c) v G := by
  obtain ⟨x, hx, hG, hP2⟩ := hP.open1
  have hf0 := h.few
  refine (vPut hC hP2 (hG.at 0 rfl) h.bok h.basel h1 h2 hl1 hl2 hl3 (by omega) hx.m hx.st hx.nd hx.iff).mono ?_
  rintro e w' (⟨hf, v, G, hR, hv⟩ | ⟨hf, es, ck, ks, F, hR, hm, hst, hnd, hiff⟩)
  · refine ⟨v, G, ?_, hv⟩
    rw [putL, if_neg hf]
    exact hR.close1 x hx hG hP.no
  · refine ⟨_, [], ?_, .inl ⟨?_, .inl ⟨hf, rfl⟩, rfl⟩⟩
    · rw [putL, if_pos hf]
      exact hR.close1 ⟨x.kb, x.db, x.ba, x.nb, x.cb, ck, es, ks, F⟩ ⟨hm, hst, hnd, hiff⟩ hG hP.no
    · rw [putFault_ok hf]
theorem verNew {p : Int} (hC : Rep w S .nilIface (dC er eb)) (h1 : 1 ≤ p) (h6 : p ≤ 6) :
    Calls Tryd.prog 17 #[.int .i64 p] w fun e w' => ∃ b, Ret [] w S w' e (.tuple #[.pointer (some ⟨b, 0, none⟩), .nilIface]) [cVer b p.toNat (List.replicate p.toNat 0) []] [] := by
  refine (vNew (p := p) hC).mono ?_
  rintro e w' (⟨h, _⟩ | ⟨_, b, ba, mk, md, hR⟩)
  · omega
  · have hm0 : MapG (MapKept.IsKey .string) #[] (strG [] fun _ => .nilIface) := (MapG.empty _).congr fun k => (strG_nil _ k).symm
    obtain ⟨n, rfl⟩ : ∃ n : Nat, p = n := ⟨p.toNat, by omega⟩
    exact ⟨b, (hR.close1g ⟨mk, md, some ⟨ba, 0, none⟩, n, n, 0, #[], [], fun _ => .nilIface⟩ ⟨hm0, MapKept.stamped_empty 0, by simp, by simp [keyC]⟩ fun y hy => hy).less (by simp)⟩
end vers
end Go.Proofs.YtehdegekgdlifaaDoor
end
section
namespace Go.Sx
open Go
theorem zip_at {α β : Type} {us : List α} {bs : List β} {p : Nat} {a : α} {b : β} (h1 : us[p]? = some a) (h2 : bs[p]? = some b) : (us.zip bs)[p]? = some (a, b) := by
  rw [List.getElem?_zip_eq_some]
  exact ⟨h1, h2⟩
theorem zip_map_at {α β γ : Type} {us : List α} {bs : List β} {f : α × β → γ} {p : Nat} {a : α} {b : β} (h1 : us[p]? = some a) (h2 : bs[p]? = some b) : ((us.zip bs).map f)[p]? = some (f (a, b)) := by
  rw [List.getElem?_map, zip_at h1 h2]
  rfl
theorem zip_put {α β γ : Type} {f : α × β → γ} {a : α} {b : β} : ∀ {us : List α} {bs : List β} {p : Nat}, us[p]? = some a → ((us.zip bs).map f).set p (f (a, b)) = (us.zip (bs.set p b)).map f
  | [], _, _, h => by simp at h
  | _ :: _, [], _, _ => by simp
  | _ :: _, _ :: _, 0, h => by
    simp only [List.getElem?_cons_zero, Option.some.injEq] at h
    simp [h]
  | _ :: us, _ :: bs, p + 1, h => by
    have ih := zip_put (f := f) (b := b) (us := us) (bs := bs) (p := p) (by simpa using h)
    simp only [List.zip_cons_cons, List.map_cons, List.set_cons_succ, ih]
end Go.Sx
namespace Go.Proofs.YtehdegekgdlifaaDoor
open Go Go.Sx
abbrev eP (b : Nat) : List D := [.v (.pointer (some ⟨b, 0, none⟩))]
abbrev dPtrs (bs : List Nat) : D := .sl 1 (bs.map eP)
abbrev eRow (bs : List Nat) : List D := [dPtrs bs]
abbrev dRows (rows : List (List Nat)) : D := .sl 1 (rows.map eRow)
def cSnd (y : Nat × SndT) : Chunk := cBox (α := Option Addr × Nat × Nat) (fun _ => True) (fun _ => []) fun v => [cObj y.1 (sCells y.2.fm y.2.to y.2.sh y.2.q y.2.t (.slice v.1 v.2.1 v.2.2)), cAcc (.slice v.1 v.2.1 v.2.2) 45 9 (y.2.l.map eMsg)]
def cRcv (y : Nat × RcvT) : Chunk := cBox (α := Nat) (fun _ => True) (fun _ => []) fun mb => [cObj y.1 (rCells y.2.fm y.2.to y.2.sh y.2.q y.2.t mb), cMap mb (.int .i64) (KL y.2.l)]
set_option maxHeartbeats 4000000 in
theorem stp_closeRcv {h r : List (Nat × Obj)} {F : List (List Nat × World)} {S0 : Nat → Prop} {C0 : List Chunk} {G0 : List (Value × D)} {y : Nat × RcvT} {mb : Nat} (ps : List Nat) (hC : pick C0 ps = [cObj y.1 (rCells y.2.fm y.2.to y.2.sh y.2.q y.2.t mb), cMap mb (.int .i64) (KL y.2.l)]) (hnd : ps.Nodup := by decide) :
    Stp h r F ⟨S0, C0, G0⟩ (fun _ : Unit => True) fun _ => ⟨S0, restC C0 ps ++ [cRcv y], G0⟩ := stp_closebox ps mb hC (fun _ h => by cases h) trivial hnd
def cSnds (bs : List Nat) (ss : List SndT) : Chunk := cStar ((bs.zip ss).map cSnd)
def cRcvs (bs : List Nat) (rs : List RcvT) : Chunk := cStar ((bs.zip rs).map cRcv)
abbrev plC (vb : Nat) (id places shards clock : Int) (o i : Value) : Obj := .cells #[.pointer (some ⟨vb, 0, none⟩), .int .i64 id, .int .i64 places, .int .i64 shards, .int .i64 clock, o, i] 59 (0, 0)
end Go.Proofs.YtehdegekgdlifaaDoor
end
