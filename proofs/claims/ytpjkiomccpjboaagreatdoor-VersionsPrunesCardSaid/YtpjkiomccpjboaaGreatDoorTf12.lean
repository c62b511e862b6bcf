/- Part 12 of the texts of a claim: Put. -/
import Derived.Test.YtpjkiomccpjboaaGreatDoorTf11
section
namespace Go.Sx
open Go
structure PutS where
 i : Int
 es : Array MapEntry
 clock : Nat
 ks : List ByteArray
 F : ByteArray → Value
 es1 : Array MapEntry
 clock1 : Nat
end Go.Sx
namespace Go.Proofs.YtpjkiomccpjboaaGreatDoor
open Go Go.Sx
def exiAt (L : List PutT) (c : ComT) (i : Nat) : Nat := match c.ops[i]? with
 | none => 0
 | some o => if dotOf c o ∈ L.map dotP then 6 else 0
def putFault (p : Nat) (base : List Int) (L : List PutT) (c : ComT) : FT :=
 if (comFault c).code ≠ 0 then comFault c
 else if c.when.length ≠ p then ⟨3, -1⟩
 else if inL c.when base = true then ⟨9, -1⟩
 else scanF (exiAt L c) c.ops.length 0
def putsOf (c : ComT) (l : List OpT) : List PutT := l.map fun o => ⟨c.when, c.place, o⟩
theorem keyC_snoc (A : List PutT) (q : PutT) (t : ByteArray) : keyC (A ++ [q]) t = keyC A t ++ if q.op.key = t then [oneC q] else [] := by
 rw [keyC, keyC, List.filter_append, List.map_append]
 congr 1
 by_cases h : q.op.key = t <;> simp [h]
theorem keyC_len (A : List PutT) (t : ByteArray) : (keyC A t).length ≤ A.length := by
 rw [keyC, List.length_map]
 exact List.length_filter_le _ _
theorem verDot {w : World} {S : Nat → Prop} {a1 a2 : Option Addr} {n1 c1 n2 c2 : Nat} {c : ComT} {o : OpT} {v : Value} (ov : v.oneCell' = true) (h1 : Rep w S (.slice a1 n1 c1) (dInts c.when)) (hp0 : 0 ≤ c.place) (hp1 : c.place < c.when.length) :
  Calls Tryz.prog 74 #[.agg #[.slice a1 n1 c1, .int .i64 c.place, .slice a2 n2 c2], opA o v] w fun e w' => Ret [] w S w' e (dotV (dotOf c o)) [] [] := by
 obtain rfl := rep_ints_len h1
 refine ep74 (args := [.agg #[.slice a1 c.when.length c1, .int .i64 c.place, .slice a2 n2 c2], opA o v]) (S := S) (G := [(_, dInts c.when)]) (by kernel_rfl) (.cons h1 (.nil _ _)) ?_
 obtain ⟨t, ht⟩ : ∃ t, c.when[c.place.toNat]? = some t := ⟨_, List.getElem?_eq_getElem (by omega)⟩
 have hd : dotOf c o = ⟨c.place, t, o.no⟩ := by simp [dotOf, List.getD_eq_getElem?_getD, ht]
 refine J_read0 0 rfl c.place.toNat (map_at ht) (by kernel_rfl) (fun b1 off1 cs1 ty1 fz1 ha1 hrd1 => ?_)
 cases ha1
 have hrd1_0 := rd0 (hrd1 0 _ rfl)
 try simp only [cAp, nAp, aNl]
 refine Sq mixed [.wr 0 [] 0, .wr 1 [] 0, .wr 2 [] 0] [] [2, 3, 4] (fun nu1 => [zP 2 (nu1 0), zP 3 (nu1 1), zP 4 (nu1 2)]) (fun nu1 => [(nu1 0, .cells #[.slice (sA b1 off1) c.when.length c1, nI c.place, .slice a2 n2 c2] 28 (0, 0)), (nu1 1, .cells #[nI o.no, .string o.key, nI o.kind, .string o.text, nI o.n, .bool o.remove, v] 24 (0, 0)), (nu1 2, .cells #[nI 0, nI 0, nI 0] 65 (0, 0))]) (fun nu1 => ?_)
 refine J_seq ?_
 all_goals first | assumption | skip
 refine Gp mixed [zR 0, .rd 1 [.o 0 none] 0 0, zR 2, .rd 3 [.o 0 none] 0 0, zR 4, .rd 5 [.o 0 none] 0 0, .rd 6 [] 0 2, .rd 7 [.r 0 (some (nI t))] 0 0, zR 8, .rd 9 [.o 1 none] 0 0, zR 10, .wr 11 [.o 2 none, .o 2 none, .o 2 none] 0] [(11, [2])] [4] (fun _ => [zP 4 (nu1 2)]) (fun _ => [(nu1 0, .cells #[.slice (sA b1 off1) c.when.length c1, nI c.place, .slice a2 n2 c2] 28 (0, 0)), (nu1 1, .cells #[nI o.no, .string o.key, nI o.kind, .string o.text, nI o.n, .bool o.remove, v] 24 (0, 0)), (nu1 2, .cells #[nI c.place, nI t, nI o.no] 65 (0, 0))]) (fun _ => [(0 : Int) ≤ c.place, c.place < (↑c.when.length : Int), cs1[off1 + c.place.toNat * (1 : Nat)]? = some (nI t)]) (fun _ => ⟨hp0, hp1, hrd1_0, trivial⟩) (fun _ => ?_)
 refine J_return [[.o 2 none, .o 2 none, .o 2 none]] (.agg #[.int .i64 c.place, .int .i64 t, .int .i64 o.no]) (by kernel_rfl) (fun a w s => ?_)
 rw [hd]
 exact s.ret (by simp) [] [] rfl rfl
set_option maxHeartbeats 4000000 in
theorem vPut {w : World} {S : Nat → Prop} {M : List Nat} {er : Nat → Addr} {eb : Nat → Array Value × TypeId} {b mk md : Nat} {ba a1 a2 : Option Addr} {p nb cb n1 c1 n2 c2 clock : Nat} {base : List Int} {es : Array MapEntry} {ks : List ByteArray} {F : ByteArray → Value} {L : List PutT} {c : ComT} (hC : Rep w S .nilIface (dC er eb))
  (hP : Pre w S M [cObj b (.cells #[.int .i64 p, .slice ba nb cb, .map (some mk), .map (some md)] 133 (0, 0)), cObj mk (.map es clock), cStar (ks.map fun t => cAcc (F t) 28 3 ((keyC L t).map eCom)), cMapG md okDot (dotSet (L.map dotP))])
  (hb : Rep w S (.slice ba nb cb) (dInts base)) (hbv : vecErr base = 0) (hbl : base.length = p) (h1 : Rep w S (.slice a1 n1 c1) (dInts c.when)) (h2 : Rep w S (.slice a2 n2 c2) (.sl 7 (c.ops.map eOp))) (hl1 : c.when.length ≤ 1000000) (hl2 : c.ops.length ≤ 1000000) (hl3 : ∀ o ∈ c.ops, o.dots.length ≤ 1000000) (hL : L.length ≤ 1000000)
  (hm : MapG (MapKept.IsKey .string) es (strG ks F)) (hst : MapKept.Stamped es clock) (hnd : ks.Nodup) (hiff : ∀ t, t ∈ ks ↔ keyC L t ≠ []) :
  Calls Tryz.prog 36 #[.pointer (some ⟨b, 0, none⟩), .agg #[.slice a1 n1 c1, .int .i64 c.place, .slice a2 n2 c2]] w fun e w' =>
   ((putFault p base L c).code ≠ 0 ∧ ∃ v G, Ret M w S w' e v [cObj b (.cells #[.int .i64 p, .slice ba nb cb, .map (some mk), .map (some md)] 133 (0, 0)), cObj mk (.map es clock), cStar (ks.map fun t => cAcc (F t) 28 3 ((keyC L t).map eCom)), cMapG md okDot (dotSet (L.map dotP))] G ∧
    (((putFault p base L c).at' = -1 ∧ ErrIs 243 er (putFault p base L c).code v ∧ G = []) ∨ (1 ≤ (putFault p base L c).code ∧ 0 ≤ (putFault p base L c).at' ∧ ∃ pb, v = .iface 102 (.pointer (some ⟨pb, 0, none⟩)) ∧ G = [(.pointer (some ⟨pb, 0, none⟩), .ptr [.v (.int .i64 (putFault p base L c).at'), .v (.iface 243 (.pointer (some (er (putFault p base L c).code))))])]))) ∨
   ((putFault p base L c).code = 0 ∧ ∃ es' clock' ks' F', Ret M w S w' e .nilIface [cObj b (.cells #[.int .i64 p, .slice ba nb cb, .map (some mk), .map (some md)] 133 (0, 0)), cObj mk (.map es' clock'), cStar (ks'.map fun t => cAcc (F' t) 28 3 ((keyC (L ++ putsOf c c.ops) t).map eCom)), cMapG md okDot (dotSet ((L ++ putsOf c c.ops).map dotP))] [] ∧
    MapG (MapKept.IsKey .string) es' (strG ks' F') ∧ MapKept.Stamped es' clock' ∧ ks'.Nodup ∧ ∀ t, t ∈ ks' ↔ keyC (L ++ putsOf c c.ops) t ≠ []) := by
 obtain rfl := rep_ints_len h1
 obtain rfl := rep_ints_len hb
 subst hbl
 have e2 := h2.slen
 rw [List.length_map] at e2
 subst e2
 refine en36 (args := [.pointer (some ⟨b, 0, none⟩), .agg #[.slice a1 c.when.length c1, .int .i64 c.place, .slice a2 c.ops.length c2]]) (S := S) (G := [(_, dC er eb), (_, dInts c.when), (_, .sl 7 (c.ops.map eOp)), (_, dInts base)]) (by kernel_rfl) hP (.cons hC (.cons h1 (.cons h2 (.cons hb (.nil _ _))))) ?_
 refine J_show 0 rfl ?_
 refine J_stp (stp_all 0 [2, 8, 5] rfl rfl) ?_
 refine J_glob 4 rfl (fun csg1 tyg1 fzg1 hglob1 => ?_)
 refine J_glob 5 rfl (fun csg2 tyg2 fzg2 hglob2 => ?_)
 refine J_glob 6 rfl (fun csg3 tyg3 fzg3 hglob3 => ?_)
 try simp only [cAp, nAp, aNl]
 refine Sq mixed [.wr 0 [] 0, zR 1] [] [0, 3, 4] (fun nu1 => [zP 0 b, zP 3 (nu1 0), zV 4 .nilIface]) (fun nu1 => [(b, .cells #[nI (↑base.length : Int), .slice ba base.length cb, .map (some mk), .map (some md)] 133 (0, 0)), (nu1 0, .cells #[.slice a1 c.when.length c1, nI c.place, .slice a2 c.ops.length c2] 28 (0, 0))]) (fun nu1 => ?_)
 refine J_seq ?_
 refine J_seq ?_
 refine jB mixed [(0, true), (1, false), (2, true)] [] ?_
 refine Gr (id := 1) (rest := [(1, false), (2, true)]) [.rd 0 [.o 1 none, .o 1 none, .o 1 none] 0 0] [0, 3, 4, 13] (fun _ => [zP 0 b, zP 3 (nu1 0), zV 4 .nilIface, zV 13 (.agg #[.slice a1 c.when.length c1, nI c.place, .slice a2 c.ops.length c2])]) (fun _ => [(b, .cells #[nI (↑base.length : Int), .slice ba base.length cb, .map (some mk), .map (some md)] 133 (0, 0)), (nu1 0, .cells #[.slice a1 c.when.length c1, nI c.place, .slice a2 c.ops.length c2] 28 (0, 0))]) (fun _ => ?_)
 refine JR_callp [] 17 #[.agg #[.slice a1 c.when.length c1, .int .i64 c.place, .slice a2 c.ops.length c2]] (some 14) (by kernel_rfl) (fun w S hG => ?_)
 refine (checkCommit (c := c) (hG.at 0 rfl) (hG.at 1 rfl) (hG.at 2 rfl) hl1 hl2).mono ?_
 rintro e1 w1 (⟨ha, v, hR, hv⟩ | ⟨hc1, h0, pb, hR⟩)
 case inr =>
  have hpf : putFault base.length base L c = comFault c := by rw [putFault, if_pos (by omega)]
  rw [hpf]
  refine ⟨_, _, _, hR, ?_⟩
  try simp only [cAp, nAp, aNl]
  refine Gr (id := 1) (rest := []) [zR 2] [0, 3, 4, 5] (fun _ => [zP 0 b, zP 3 (nu1 0), zV 4 .nilIface, zV 5 (.iface 102 (.pointer (sA pb 0)))]) (fun _ => [(b, .cells #[nI (↑base.length : Int), .slice ba base.length cb, .map (some mk), .map (some md)] 133 (0, 0)), (nu1 0, .cells #[.slice a1 c.when.length c1, nI c.place, .slice a2 c.ops.length c2] 28 (0, 0))]) (fun _ => ?_)
  refine JR_end ?_
  refine Sq mixed [zR 0, zR 1] [] [0, 3, 4, 5, 16] (fun _ => [zP 0 b, zP 3 (nu1 0), zV 4 .nilIface, zV 5 (.iface 102 (.pointer (sA pb 0))), zB 16 true]) (fun _ => [(b, .cells #[nI (↑base.length : Int), .slice ba base.length cb, .map (some mk), .map (some md)] 133 (0, 0)), (nu1 0, .cells #[.slice a1 c.when.length c1, nI c.place, .slice a2 c.ops.length c2] 28 (0, 0))]) (fun _ => ?_)
  refine cTt ?_
  refine Sq mixed [zR 0, zR 1] [] [0, 3, 4] (fun _ => [zP 0 b, zP 3 (nu1 0), zV 4 (.iface 102 (.pointer (sA pb 0)))]) (fun _ => [(b, .cells #[nI (↑base.length : Int), .slice ba base.length cb, .map (some mk), .map (some md)] 133 (0, 0)), (nu1 0, .cells #[.slice a1 c.when.length c1, nI c.place, .slice a2 c.ops.length c2] 28 (0, 0))]) (fun _ => ?_)
  refine J_return [[]] (.iface 102 (.pointer (some (⟨pb, 0, none⟩)))) (by kernel_rfl) (fun a w s => ?_)
  exact .inl ⟨by omega, _, _, (s.hide 0 rfl).ret (by simp) [3, 0, 1, 2] [7] rfl rfl, .inr ⟨hc1, h0, pb, rfl, rfl⟩⟩
 refine ⟨_, _, _, hR, ?_⟩
 obtain ⟨hv0, rfl⟩ | ⟨hv0, rfl⟩ := hv
 case inr =>
  have hpf : putFault base.length base L c = comFault c := by rw [putFault, if_pos hv0]
  rw [hpf]
  try simp only [cAp, nAp, aNl]
  refine Gr (id := 1) (rest := []) [zR 2] [0, 3, 4, 5] (fun _ => [zP 0 b, zP 3 (nu1 0), zV 4 .nilIface, zV 5 (.iface 243 (.pointer (some (er (comFault c).code))))]) (fun _ => [(b, .cells #[nI (↑base.length : Int), .slice ba base.length cb, .map (some mk), .map (some md)] 133 (0, 0)), (nu1 0, .cells #[.slice a1 c.when.length c1, nI c.place, .slice a2 c.ops.length c2] 28 (0, 0))]) (fun _ => ?_)
  refine JR_end ?_
  refine Sq mixed [zR 0, zR 1] [] [0, 3, 4, 5, 16] (fun _ => [zP 0 b, zP 3 (nu1 0), zV 4 .nilIface, zV 5 (.iface 243 (.pointer (some (er (comFault c).code)))), zB 16 true]) (fun _ => [(b, .cells #[nI (↑base.length : Int), .slice ba base.length cb, .map (some mk), .map (some md)] 133 (0, 0)), (nu1 0, .cells #[.slice a1 c.when.length c1, nI c.place, .slice a2 c.ops.length c2] 28 (0, 0))]) (fun _ => ?_)
  refine cTt ?_
  refine Sq mixed [zR 0, zR 1] [] [0, 3, 4] (fun _ => [zP 0 b, zP 3 (nu1 0), zV 4 (.iface 243 (.pointer (some (er (comFault c).code))))]) (fun _ => [(b, .cells #[nI (↑base.length : Int), .slice ba base.length cb, .map (some mk), .map (some md)] 133 (0, 0)), (nu1 0, .cells #[.slice a1 c.when.length c1, nI c.place, .slice a2 c.ops.length c2] 28 (0, 0))]) (fun _ => ?_)
  refine J_return [[]] (.iface 243 (.pointer (some (er (comFault c).code)))) (by kernel_rfl) (fun a w s => ?_)
  exact .inl ⟨hv0, _, _, (s.hide 0 rfl).ret (by simp) [3, 0, 1, 2] [] rfl rfl, .inl ⟨ha, .inr ⟨hv0, rfl⟩, rfl⟩⟩
 have hrc := right_of hv0
 by_cases hwl : c.when.length = base.length
 case neg =>
  have hpf : putFault base.length base L c = ⟨3, -1⟩ := by rw [putFault, if_neg (by simp [hv0]), if_pos hwl]
  have hwl2 : ¬ (c.when.length : Int) = base.length := by omega
  rw [hpf]
  try simp only [cAp, nAp, aNl]
  refine Gr (id := 1) (rest := []) [zR 2] [0, 3, 4, 5] (fun _ => [zP 0 b, zP 3 (nu1 0), zV 4 .nilIface, zV 5 .nilIface]) (fun _ => [(b, .cells #[nI (↑base.length : Int), .slice ba base.length cb, .map (some mk), .map (some md)] 133 (0, 0)), (nu1 0, .cells #[.slice a1 c.when.length c1, nI c.place, .slice a2 c.ops.length c2] 28 (0, 0))]) (fun _ => ?_)
  refine JR_end ?_
  refine Sq mixed [zR 0, zR 1] [] [0, 3, 4, 5, 16] (fun _ => [zP 0 b, zP 3 (nu1 0), zV 4 .nilIface, zV 5 .nilIface, zB 16 false]) (fun _ => [(b, .cells #[nI (↑base.length : Int), .slice ba base.length cb, .map (some mk), .map (some md)] 133 (0, 0)), (nu1 0, .cells #[.slice a1 c.when.length c1, nI c.place, .slice a2 c.ops.length c2] 28 (0, 0))]) (fun _ => ?_)
  refine cF ?_
  refine J_skip ?_
  refine J_seq ?_
  refine Sp mixed [zR 0, .rd 1 [.o 1 none] 0 0, zR 2, zR 3, zR 4, zR 5, .rd 6 [.o 0 none] 0 0, .rd 7 [] 0 6] [] [0, 3, 4, 25] (fun _ => [zP 0 b, zP 3 (nu1 0), zV 4 .nilIface, zB 25 true]) (fun _ => [(b, .cells #[nI (↑base.length : Int), .slice ba base.length cb, .map (some mk), .map (some md)] 133 (0, 0)), (nu1 0, .cells #[.slice a1 c.when.length c1, nI c.place, .slice a2 c.ops.length c2] 28 (0, 0))]) (fun _ => [((↑c.when.length : Int) != (↑base.length : Int)) = true]) (fun _ => ⟨by simp; omega, trivial⟩) (fun _ => ?_)
  refine cTt ?_
  refine Sp mixed [.rd 0 [.r 0 (some (.iface 243 (.pointer (some (er 3)))))] 0 0, zR 1] [] [0, 3, 4] (fun _ => [zP 0 b, zP 3 (nu1 0), zV 4 (.iface 243 (.pointer (some (er 3))))]) (fun _ => [(b, .cells #[nI (↑base.length : Int), .slice ba base.length cb, .map (some mk), .map (some md)] 133 (0, 0)), (nu1 0, .cells #[.slice a1 c.when.length c1, nI c.place, .slice a2 c.ops.length c2] 28 (0, 0))]) (fun _ => [csg1[(0 : Nat)]? = some (Value.iface (243 : Nat) (Value.pointer (some (er (3 : Nat)))))]) (fun _ => ⟨hglob1, trivial⟩) (fun _ => ?_)
  refine J_return [[]] (.iface 243 (.pointer (some (er 3)))) (by kernel_rfl) (fun a w s => ?_)
  exact .inl ⟨by decide, _, _, (s.hide 0 rfl).ret (by simp) [3, 0, 1, 2] [] rfl rfl, .inl ⟨by first | rfl | trivial, .inr ⟨by decide, rfl⟩, rfl⟩⟩
 have htw : twoErr c.when base = 0 := by rw [twoErr, if_neg (by simp [hrc.vec]), if_neg (by simp [hbv]), if_neg (by simp [hwl])]
 have hvl := vecErr_len hbv
 have hwl2 : (c.when.length : Int) = base.length := by omega
 try simp only [cAp, nAp, aNl]
 refine Gr (id := 1) (rest := []) [zR 2] [0, 3, 4, 5] (fun _ => [zP 0 b, zP 3 (nu1 0), zV 4 .nilIface, zV 5 .nilIface]) (fun _ => [(b, .cells #[nI (↑base.length : Int), .slice ba base.length cb, .map (some mk), .map (some md)] 133 (0, 0)), (nu1 0, .cells #[.slice a1 c.when.length c1, nI c.place, .slice a2 c.ops.length c2] 28 (0, 0))]) (fun _ => ?_)
 refine JR_end ?_
 refine Sq mixed [zR 0, zR 1] [] [0, 3, 4, 5, 16] (fun _ => [zP 0 b, zP 3 (nu1 0), zV 4 .nilIface, zV 5 .nilIface, zB 16 false]) (fun _ => [(b, .cells #[nI (↑base.length : Int), .slice ba base.length cb, .map (some mk), .map (some md)] 133 (0, 0)), (nu1 0, .cells #[.slice a1 c.when.length c1, nI c.place, .slice a2 c.ops.length c2] 28 (0, 0))]) (fun _ => ?_)
 refine cF ?_
 refine J_skip ?_
 refine J_seq ?_
 refine Sp mixed [zR 0, .rd 1 [.o 1 none] 0 0, zR 2, zR 3, zR 4, zR 5, .rd 6 [.o 0 none] 0 0, .rd 7 [] 0 7] [] [0, 3, 4, 25] (fun _ => [zP 0 b, zP 3 (nu1 0), zV 4 .nilIface, zB 25 false]) (fun _ => [(b, .cells #[nI (↑base.length : Int), .slice ba base.length cb, .map (some mk), .map (some md)] 133 (0, 0)), (nu1 0, .cells #[.slice a1 c.when.length c1, nI c.place, .slice a2 c.ops.length c2] 28 (0, 0))]) (fun _ => [((↑c.when.length : Int) != (↑base.length : Int)) = false]) (fun _ => ⟨by simp; omega, trivial⟩) (fun _ => ?_)
 refine cF ?_
 refine J_skip ?_
 refine J_seq ?_
 refine J_seq ?_
 refine jB mixed [(0, true), (1, true), (2, true), (3, true), (4, true), (5, true), (6, false), (7, true), (8, true), (9, true), (10, true), (11, true)] [] ?_
 refine Gr (id := 6) (rest := [(6, false), (7, true), (8, true), (9, true), (10, true), (11, true)]) [zR 0, .rd 1 [.o 1 none] 0 0, zR 2, zR 3, zR 4, .rd 5 [.o 0 none] 0 0] [0, 3, 4, 29, 33] (fun _ => [zP 0 b, zP 3 (nu1 0), zV 4 .nilIface, zS 29 a1 c.when.length c1, zS 33 ba base.length cb]) (fun _ => [(b, .cells #[nI (↑base.length : Int), .slice ba base.length cb, .map (some mk), .map (some md)] 133 (0, 0)), (nu1 0, .cells #[.slice a1 c.when.length c1, nI c.place, .slice a2 c.ops.length c2] 28 (0, 0))]) (fun _ => ?_)
 refine JR_callp [] 52 #[.slice a1 c.when.length c1, .slice ba base.length cb] (some 34) (by kernel_rfl) (fun w S hG => ?_)
 refine (vwithin (globs_of (hG.at 0 rfl)) (hG.at 1 rfl) (hG.at 3 rfl) hl1 (by omega)).mono ?_
 rintro e2 w2 (⟨htw2, _⟩ | ⟨_, hR⟩)
 ·exact absurd htw htw2
 refine ⟨_, _, _, hR, ?_⟩
 cases hin : inL c.when base with
 | true =>
  have hpf : putFault base.length base L c = ⟨9, -1⟩ := by rw [putFault, if_neg (by simp [hv0]), if_neg (by simp [hwl]), if_pos hin]
  rw [hpf]
  try simp only [cAp, nAp, aNl]
  refine Gr (id := 6) (rest := []) [zR 7, zR 8, zR 9, zR 10, zR 11] [0, 3, 4, 6] (fun _ => [zP 0 b, zP 3 (nu1 0), zV 4 .nilIface, zB 6 true]) (fun _ => [(b, .cells #[nI (↑base.length : Int), .slice ba base.length cb, .map (some mk), .map (some md)] 133 (0, 0)), (nu1 0, .cells #[.slice a1 c.when.length c1, nI c.place, .slice a2 c.ops.length c2] 28 (0, 0))]) (fun _ => ?_)
  refine JR_end ?_
  refine Sq mixed [zR 0] [] [0, 3, 4, 37] (fun _ => [zP 0 b, zP 3 (nu1 0), zV 4 .nilIface, zB 37 true]) (fun _ => [(b, .cells #[nI (↑base.length : Int), .slice ba base.length cb, .map (some mk), .map (some md)] 133 (0, 0)), (nu1 0, .cells #[.slice a1 c.when.length c1, nI c.place, .slice a2 c.ops.length c2] 28 (0, 0))]) (fun _ => ?_)
  refine cTt ?_
  refine Sp mixed [.rd 0 [.r 1 (some (.iface 243 (.pointer (some (er 9)))))] 0 0, zR 1] [] [0, 3, 4] (fun _ => [zP 0 b, zP 3 (nu1 0), zV 4 (.iface 243 (.pointer (some (er 9))))]) (fun _ => [(b, .cells #[nI (↑base.length : Int), .slice ba base.length cb, .map (some mk), .map (some md)] 133 (0, 0)), (nu1 0, .cells #[.slice a1 c.when.length c1, nI c.place, .slice a2 c.ops.length c2] 28 (0, 0))]) (fun _ => [csg2[(0 : Nat)]? = some (Value.iface (243 : Nat) (Value.pointer (some (er (9 : Nat)))))]) (fun _ => ⟨hglob2, trivial⟩) (fun _ => ?_)
  refine J_return [[]] (.iface 243 (.pointer (some (er 9)))) (by kernel_rfl) (fun a w s => ?_)
  exact .inl ⟨by decide, _, _, (s.hide 0 rfl).ret (by simp) [3, 0, 1, 2] [] rfl rfl, .inl ⟨by first | rfl | trivial, .inr ⟨by decide, rfl⟩, rfl⟩⟩
 | false =>
  have hpf : putFault base.length base L c = scanF (exiAt L c) c.ops.length 0 := by rw [putFault, if_neg (by simp [hv0]), if_neg (by simp [hwl]), if_neg (by simp [hin])]
  rw [hpf]
  try simp only [cAp, nAp, aNl]
  refine Gr (id := 6) (rest := []) [zR 7, zR 8, zR 9, zR 10, zR 11] [0, 3, 4, 6] (fun _ => [zP 0 b, zP 3 (nu1 0), zV 4 .nilIface, zB 6 false]) (fun _ => [(b, .cells #[nI (↑base.length : Int), .slice ba base.length cb, .map (some mk), .map (some md)] 133 (0, 0)), (nu1 0, .cells #[.slice a1 c.when.length c1, nI c.place, .slice a2 c.ops.length c2] 28 (0, 0))]) (fun _ => ?_)
  refine JR_end ?_
  refine Sq mixed [zR 0] [] [0, 3, 4, 37] (fun _ => [zP 0 b, zP 3 (nu1 0), zV 4 .nilIface, zB 37 false]) (fun _ => [(b, .cells #[nI (↑base.length : Int), .slice ba base.length cb, .map (some mk), .map (some md)] 133 (0, 0)), (nu1 0, .cells #[.slice a1 c.when.length c1, nI c.place, .slice a2 c.ops.length c2] 28 (0, 0))]) (fun _ => ?_)
  refine cF ?_
  refine J_skip ?_
  refine J_seq ?_
  refine J_seq ?_
  refine J_openmapg 2 rfl fun es1 clock1 hm1 => ?_
  refine J_norm (C' := [cObj mk (Obj.map es clock), (cStar (List.map (fun t => cAcc (F t) 28 3 (List.map eCom (keyC L t))) ks))]) (G' := [(.nilIface, (dC er eb)), (.slice a1 c.when.length c1, (dInts c.when)), (.slice a2 c.ops.length c2, (D.sl 7 (List.map eOp c.ops))), (.slice ba base.length cb, (dInts base)), (.pointer (some (⟨3, 0, none⟩)), (D.ptr [D.v (Value.iface 243 (Value.pointer (some (er 3))))])), (.pointer (some (⟨4, 0, none⟩)), (D.ptr [D.v (Value.iface 243 (Value.pointer (some (er 9))))])), (.pointer (some (⟨5, 0, none⟩)), (D.ptr [D.v (Value.iface 243 (Value.pointer (some (er 6))))]))]) (by kernel_rfl) (by kernel_rfl) ?_
  refine Gq mixed [zR 0, .rd 1 [.o 1 none] 0 0, zR 2, zR 3] [] [0, 3, 4, 40, 41, 42] (fun _ => [zP 0 b, zP 3 (nu1 0), zV 4 .nilIface, zS 40 a2 c.ops.length c2, zI 41 (↑c.ops.length : Int), zI 42 0]) (fun _ => [(b, .cells #[nI (↑base.length : Int), .slice ba base.length cb, .map (some mk), .map (some md)] 133 (0, 0)), (nu1 0, .cells #[.slice a1 c.when.length c1, nI c.place, .slice a2 c.ops.length c2] 28 (0, 0)), (md, Obj.map es1 clock1)]) (fun _ => ?_)
  refine J_block ?_
  refine J_loopx (fun i : Int => [zP 0 b, zP 3 (nu1 0), zV 4 .nilIface, zS 40 a2 c.ops.length c2, zI 41 (↑c.ops.length : Int), zI 42 i]) (fun i : Int => [(b, .cells #[nI (↑base.length : Int), .slice ba base.length cb, .map (some mk), .map (some md)] 133 (0, 0)), (nu1 0, .cells #[.slice a1 c.when.length c1, nI c.place, .slice a2 c.ops.length c2] 28 (0, 0)), (md, Obj.map es1 clock1)]) (fun i : Int => [cObj mk (.map es clock), cStar (ks.map fun t => cAcc (F t) 28 3 ((keyC L t).map eCom))]) (fun i : Int => [(.nilIface, (dC er eb)), (.slice a1 c.when.length c1, (dInts c.when)), (.slice a2 c.ops.length c2, (D.sl 7 (List.map eOp c.ops))), (.slice ba base.length cb, (dInts base)), (.pointer (sA 3 0), (D.ptr [D.v (Value.iface 243 (Value.pointer (some (er 3))))])), (.pointer (sA 4 0), (D.ptr [D.v (Value.iface 243 (Value.pointer (some (er 9))))])), (.pointer (sA 5 0), (D.ptr [D.v (Value.iface 243 (Value.pointer (some (er 6))))]))]) (fun i : Int => (c.ops.length - i).toNat) (fun i : Int => (0 ≤ i ∧ i ≤ c.ops.length ∧ ∀ j : Nat, j < i.toNat → exiAt L c j = 0)) 0 [0, 3, 4, 40, 41, 42] [0, 1, 2] [0, 1] [0, 1, 2, 3, 4, 5, 6] ?_ (by kernel_rfl) rfl rfl rfl ?_
  ·exact ⟨by simp, by simp, by simp⟩
  rintro i ⟨hi0, hi, hex⟩
  refine Sq mixed [zR 0] [] [0, 3, 4, 40, 41, 42, 43] (fun _ => [zP 0 b, zP 3 (nu1 0), zV 4 .nilIface, zS 40 a2 c.ops.length c2, zI 41 (↑c.ops.length : Int), zI 42 i, zB 43 (decide (i < (↑c.ops.length : Int)))]) (fun _ => [(b, .cells #[nI (↑base.length : Int), .slice ba base.length cb, .map (some mk), .map (some md)] 133 (0, 0)), (nu1 0, .cells #[.slice a1 c.when.length c1, nI c.place, .slice a2 c.ops.length c2] 28 (0, 0)), (md, Obj.map es1 clock1)]) (fun _ => ?_)
  refine J_seq ?_
  refine cC (t := decide (i < (↑c.ops.length : Int))) (fun hlt => ?_) (fun hlt => ?_)
  ·have hlt2 : i < c.ops.length := by simpa using hlt
   obtain ⟨o, ho⟩ : ∃ o, c.ops[i.toNat]? = some o := ⟨_, List.getElem?_eq_getElem (by omega)⟩
   refine J_read1 2 rfl i.toNat (map_at ho) (by kernel_rfl) (fun b1 off1 cs1 ty1 fz1 a1_0 c1_0 ha1 hrd1 => ?_)
   cases ha1
   have hrd1_0 := rd0 (hrd1 0 _ rfl)
   have hrd1_1 := hrd1 1 _ rfl
   have hrd1_2 := hrd1 2 _ rfl
   have hrd1_3 := hrd1 3 _ rfl
   have hrd1_4 := hrd1 4 _ rfl
   have hrd1_5 := hrd1 5 _ rfl
   have hrd1_6 := hrd1 6 _ rfl
   try simp only [cAp, nAp, aNl]
   refine J_skip ?_
   refine J_seq ?_
   refine J_block ?_
   refine Sp mixed [zR 0, .rd 1 [] 0 2, .rd 2 [.r 3 (some (nI o.no)), .r 3 (some (.string o.key)), .r 3 (some (nI o.kind)), .r 3 (some (.string o.text)), .r 3 (some (nI o.n)), .r 3 (some (.bool o.remove)), .r 3 (some (.slice (a1_0, c1_0).fst ((List.map eDot o.dots).length) c1_0))] 0 0, .wr 3 [] 0, zR 4, .wr 5 [.o 3 none, .o 3 none, .o 3 none, .o 3 none, .o 3 none, .o 3 none, .o 3 none] 0] [(5, [])] [0, 3, 4, 8, 9, 40, 41, 42] (fun nu2 => [zP 0 b, zP 3 (nu1 0), zV 4 .nilIface, zI 8 i, zP 9 (nu2 0), zS 40 (sA b1 off1) c.ops.length c2, zI 41 (↑c.ops.length : Int), zI 42 i]) (fun nu2 => [(b, .cells #[nI (↑base.length : Int), .slice ba base.length cb, .map (some mk), .map (some md)] 133 (0, 0)), (nu1 0, .cells #[.slice a1 c.when.length c1, nI c.place, .slice (sA b1 off1) c.ops.length c2] 28 (0, 0)), (md, Obj.map es1 clock1), (nu2 0, .cells #[nI o.no, .string o.key, nI o.kind, .string o.text, nI o.n, .bool o.remove, .slice (a1_0, c1_0).fst ((List.map eDot o.dots).length) c1_0] 24 (0, 0))]) (fun nu2 => [(0 : Int) ≤ i, i < (↑c.ops.length : Int), cs1[off1 + i.toNat * (7 : Nat)]? = some (nI o.no), cs1[off1 + i.toNat * (7 : Nat) + (1 : Nat)]? = some (Value.string o.key), cs1[off1 + i.toNat * (7 : Nat) + (2 : Nat)]? = some (nI o.kind), cs1[off1 + i.toNat * (7 : Nat) + (3 : Nat)]? = some (Value.string o.text), cs1[off1 + i.toNat * (7 : Nat) + (4 : Nat)]? = some (nI o.n), cs1[off1 + i.toNat * (7 : Nat) + (5 : Nat)]? = some (Value.bool o.remove), cs1[off1 + i.toNat * (7 : Nat) + (6 : Nat)]? = some (Value.slice (a1_0, c1_0).fst (List.map eDot o.dots).length (a1_0, c1_0).snd)]) (fun _ => ⟨hi0, hlt2, hrd1_0, hrd1_1, hrd1_2, hrd1_3, hrd1_4, hrd1_5, hrd1_6, trivial⟩) (fun nu2 => ?_)
   refine J_seq ?_
   refine jB mixed [(0, true), (1, true), (2, true), (3, true), (4, true), (5, true), (6, false), (7, true)] [] ?_
   refine Gr (id := 12) (rest := [(6, false), (7, true)]) [zR 0, zR 1, zR 2, .rd 3 [.o 0 none] 0 0, .rd 4 [.o 1 none, .o 1 none, .o 1 none] 0 0, .rd 5 [.o 3 none, .o 3 none, .o 3 none, .o 3 none, .o 3 none, .o 3 none, .o 3 none] 0 0] [0, 3, 4, 8, 9, 40, 41, 42, 50, 51, 52] (fun _ => [zP 0 b, zP 3 (nu1 0), zV 4 .nilIface, zI 8 i, zP 9 (nu2 0), zS 40 (sA b1 off1) c.ops.length c2, zI 41 (↑c.ops.length : Int), zI 42 i, zV 50 (.map (some md)), zV 51 (.agg #[.slice a1 c.when.length c1, nI c.place, .slice (sA b1 off1) c.ops.length c2]), zV 52 (.agg #[nI o.no, .string o.key, nI o.kind, .string o.text, nI o.n, .bool o.remove, .slice (a1_0, c1_0).fst ((List.map eDot o.dots).length) c1_0])]) (fun _ => [(b, .cells #[nI (↑base.length : Int), .slice ba base.length cb, .map (some mk), .map (some md)] 133 (0, 0)), (nu1 0, .cells #[.slice a1 c.when.length c1, nI c.place, .slice (sA b1 off1) c.ops.length c2] 28 (0, 0)), (md, Obj.map es1 clock1), (nu2 0, .cells #[nI o.no, .string o.key, nI o.kind, .string o.text, nI o.n, .bool o.remove, .slice (a1_0, c1_0).fst ((List.map eDot o.dots).length) c1_0] 24 (0, 0))]) (fun _ => ?_)
   refine JR_callp [] 74 #[.agg #[.slice a1 c.when.length c1, .int .i64 c.place, .slice (some (⟨b1, off1, none⟩)) c.ops.length c2], .agg #[.int .i64 o.no, .string o.key, .int .i64 o.kind, .string o.text, .int .i64 o.n, .bool o.remove, .slice (a1_0, c1_0).fst ((List.map eDot o.dots).length) c1_0]] (some 53) (by kernel_rfl) (fun w S hG => ?_)
   refine (verDot (c := c) (o := o) rfl (hG.at 1 rfl) hrc.p0 hrc.p1).mono ?_
   rintro e3 w3 hR
   refine ⟨_, _, _, hR, ?_⟩
   refine JRg_lookr (.o 2 none) md 131 65 4 okDot (.agg #[.int .i64 ((dotOf c o).place), .int .i64 ((dotOf c o).time), .int .i64 ((dotOf c o).no)]) (.bool false) false (some 54) (by kernel_rfl) (by kernel_rfl) (by kernel_rfl) keyOk_65 (by first | exact ⟨_, _, _, rfl⟩ | simp [MapKept.IsKey]) (by kernel_rfl) rfl hm1 (fun hno => ?_) (fun v hv => ?_)
   ·have hnd : dotOf c o ∉ L.map dotP := fun h => by
     rw [dotSet_in h] at hno
     cases hno
    have hz : exiAt L c i.toNat = 0 := by simp [exiAt, ho, hnd]
    try simp only [cAp, nAp, aNl]
    refine JR_end ?_
    refine cF ?_
    refine J_skip ?_
    refine J_eb ?_
    refine Gp mixed [.rd 0 [] 0 1, zR 1] [] [0, 3, 4, 8, 9, 40, 41, 42, 50, 51, 52, 53] (fun _ => [zP 0 b, zP 3 (nu1 0), zV 4 .nilIface, zI 8 i, zP 9 (nu2 0), zS 40 (sA b1 off1) c.ops.length c2, zI 41 (↑c.ops.length : Int), zI 42 (i + 1), zV 50 (.map (some md)), zV 51 (.agg #[.slice a1 c.when.length c1, nI c.place, .slice (sA b1 off1) c.ops.length c2]), zV 52 (.agg #[nI o.no, .string o.key, nI o.kind, .string o.text, nI o.n, .bool o.remove, .slice a1_0 ((List.map eDot o.dots).length) c1_0]), zV 53 (.agg #[nI ((dotOf c o).place), nI ((dotOf c o).time), nI ((dotOf c o).no)])]) (fun _ => [(b, .cells #[nI (↑base.length : Int), .slice ba base.length cb, .map (some mk), .map (some md)] 133 (0, 0)), (nu1 0, .cells #[.slice a1 c.when.length c1, nI c.place, .slice (sA b1 off1) c.ops.length c2] 28 (0, 0)), (md, Obj.map es1 clock1), (nu2 0, .cells #[nI o.no, .string o.key, nI o.kind, .string o.text, nI o.n, .bool o.remove, .slice a1_0 ((List.map eDot o.dots).length) c1_0] 24 (0, 0))]) (fun _ => [IntKind.i64.wrap (i + (1 : Int)) = i + (1 : Int)]) (fun _ => ⟨wrap_i64 (by omega) (by omega), trivial⟩) (fun _ => ?_)
    refine J_backx (i + 1) [0, 3, 4, 40, 41, 42] [0, 1, 2] [0, 1] [0, 1, 2, 3, 4, 5, 6] ?_ ?_ (by kernel_rfl) rfl rfl rfl
    ·refine ⟨by omega, by omega, fun j hj => ?_⟩
     by_cases hji : j = i.toNat
     ·rw [hji]
      exact hz
     ·exact hex j (by omega)
    ·omega
   ·have hin2 : dotOf c o ∈ L.map dotP := Classical.byContradiction fun h => by
     rw [dotSet_out h] at hv
     cases hv
    rw [dotSet_in hin2] at hv
    cases hv
    have hz : exiAt L c i.toNat = 6 := by simp [exiAt, ho, hin2]
    have hsc : scanF (exiAt L c) c.ops.length 0 = ⟨6, i⟩ := by
     rw [(scanF_from c.ops.length 0 i.toNat (Nat.zero_le _) fun j _ hj => hex j hj).2 (by omega) (by omega), hz]
     congr 1
     omega
    rw [hsc]
    try simp only [cAp, nAp, aNl]
    refine JR_end ?_
    refine cTt ?_
    refine Sp mixed [zR 0, .rd 1 [.r 2 (some (.iface 243 (.pointer (some (er 6)))))] 0 0, zR 2, .wr 3 [] 0, zR 4, zR 5] [] [0, 3, 4, 8, 9, 40, 41, 42, 50, 51, 52, 53] (fun nu3 => [zP 0 b, zP 3 (nu1 0), zV 4 (.iface 102 (.pointer (sA (nu3 0) 0))), zI 8 i, zP 9 (nu2 0), zS 40 (sA b1 off1) c.ops.length c2, zI 41 (↑c.ops.length : Int), zI 42 i, zV 50 (.map (some md)), zV 51 (.agg #[.slice a1 c.when.length c1, nI c.place, .slice (sA b1 off1) c.ops.length c2]), zV 52 (.agg #[nI o.no, .string o.key, nI o.kind, .string o.text, nI o.n, .bool o.remove, .slice a1_0 ((List.map eDot o.dots).length) c1_0]), zV 53 (.agg #[nI ((dotOf c o).place), nI ((dotOf c o).time), nI ((dotOf c o).no)])]) (fun nu3 => [(b, .cells #[nI (↑base.length : Int), .slice ba base.length cb, .map (some mk), .map (some md)] 133 (0, 0)), (nu1 0, .cells #[.slice a1 c.when.length c1, nI c.place, .slice (sA b1 off1) c.ops.length c2] 28 (0, 0)), (md, Obj.map es1 clock1), (nu2 0, .cells #[nI o.no, .string o.key, nI o.kind, .string o.text, nI o.n, .bool o.remove, .slice a1_0 ((List.map eDot o.dots).length) c1_0] 24 (0, 0)), (nu3 0, .cells #[nI i, .iface 243 (.pointer (some (er 6)))] 104 (0, 0))]) (fun nu3 => [csg3[(0 : Nat)]? = some (Value.iface (243 : Nat) (Value.pointer (some (er (6 : Nat)))))]) (fun _ => ⟨hglob3, trivial⟩) (fun nu3 => ?_)
    refine J_return [[]] (.iface 102 (.pointer (some (⟨nu3 0, 0, none⟩)))) (by kernel_rfl) (fun a w s => ?_)
    exact .inl ⟨by decide, _, _, (((((s.share 4 rfl).stp (stp_fact fun w S H => ptr_of_obj rfl rfl (H (_, _) (List.mem_of_getElem? (i := 8) rfl)))).hide 0 rfl).hide 1 rfl).stp (stp_conv 3 rfl (mapg_eqv hm1))).ret (by simp) [2, 0, 1, 3] [9] rfl rfl, .inr ⟨by decide, hi0, _, rfl, rfl⟩⟩
  ·have hil : i = c.ops.length := by simp at hlt; omega
   subst hil
   have hsc : (scanF (exiAt L c) c.ops.length 0).code = 0 := by
    rw [(scanF_from c.ops.length 0 c.ops.length (Nat.zero_le _) fun j _ hj => hex j (by omega)).1 (by omega)]
   refine J_exit rfl ?_
   refine J_seq ?_
   refine jB mixed [(0, true), (1, false), (2, false)] [] ?_
   refine Gr (id := 15) (rest := [(1, false), (2, false)]) [.rd 0 [.o 1 none, .o 1 none, .o 1 none] 0 0] [0, 3, 4, 61] (fun _ => [zP 0 b, zP 3 (nu1 0), zV 4 .nilIface, zV 61 (.agg #[.slice a1 c.when.length c1, nI c.place, .slice a2 c.ops.length c2])]) (fun _ => [(b, .cells #[nI (↑base.length : Int), .slice ba base.length cb, .map (some mk), .map (some md)] 133 (0, 0)), (nu1 0, .cells #[.slice a1 c.when.length c1, nI c.place, .slice a2 c.ops.length c2] 28 (0, 0)), (md, Obj.map es1 clock1)]) (fun _ => ?_)
   refine JR_callp [] 75 #[.agg #[.slice a1 c.when.length c1, .int .i64 c.place, .slice a2 c.ops.length c2]] (some 62) (by kernel_rfl) (fun w S hG => ?_)
   refine (vOwn (c := c) (hG.at 1 rfl) (hG.at 2 rfl) hl1 hl2 hl3).mono ?_
   rintro e3 w3 ⟨u1, d1, u2, d2, hR⟩
   refine ⟨_, _, _, hR, ?_⟩
   try simp only [cAp, nAp, aNl]
   refine Gr (id := 15) (rest := []) [.wr 2 [.o 1 none, .o 1 none, .o 1 none] 0] [0, 3, 4] (fun _ => [zP 0 b, zP 3 (nu1 0), zV 4 .nilIface]) (fun _ => [(b, .cells #[nI (↑base.length : Int), .slice ba base.length cb, .map (some mk), .map (some md)] 133 (0, 0)), (nu1 0, .cells #[.slice u1 c.when.length d1, nI c.place, .slice u2 c.ops.length d2] 28 (0, 0)), (md, Obj.map es1 clock1)]) (fun _ => ?_)
   refine JR_end ?_
   refine J_seq ?_
   refine J_seq ?_
   refine J_stpx (stp_know (p := c.ops.length ≤ d2) fun _ _ H => (H.g (_, _) (List.mem_of_getElem? (i := 8) rfl)).cap) fun _ hd2 => ?_
   refine J_stpx (stp_know (p := ∃ bq oq, u2 = some ⟨bq, oq, none⟩) fun _ _ H => Rep.someA (H.g (.slice u2 c.ops.length d2, .sl 7 (c.ops.map eOp)) (List.mem_of_getElem? (i := 8) rfl)) (fun h => by rw [List.map_eq_nil_iff] at h; have := hrc.o1; rw [h] at this; simp at this)) fun _ hu2 => ?_
   obtain ⟨bq, oq, rfl⟩ := hu2
   refine J_show 0 rfl ?_
   have eK : (fun t => cAcc (F t) 28 3 ((keyC L t).map eCom)) = fun t => cAcc (F t) 28 3 ((keyC (L ++ putsOf c (c.ops.take (0 : Int).toNat)) t).map eCom) := by simp [putsOf]
   rw [eK]
   refine J_norm (C' := [(cStar (List.map (fun t => cAcc (F t) 28 3 (List.map eCom (keyC (L ++ putsOf c (List.take (Int.toNat 0) c.ops)) t))) ks))]) (G' := [(.nilIface, (dC er eb)), (.slice a1 c.when.length c1, (dInts c.when)), (.slice a2 c.ops.length c2, (D.sl 7 (List.map eOp c.ops))), (.slice ba base.length cb, (dInts base)), (.pointer (some (⟨3, 0, none⟩)), (D.ptr [D.v (Value.iface 243 (Value.pointer (some (er 3))))])), (.pointer (some (⟨4, 0, none⟩)), (D.ptr [D.v (Value.iface 243 (Value.pointer (some (er 9))))])), (.pointer (some (⟨5, 0, none⟩)), (D.ptr [D.v (Value.iface 243 (Value.pointer (some (er 6))))])), (.slice u1 c.when.length d1, (dInts c.when)), (.slice (some (⟨bq, oq, none⟩)) c.ops.length d2, (D.sl 7 (List.map eOp c.ops)))]) (by kernel_rfl) (by kernel_rfl) ?_
   refine Gq mixed [zR 0, .rd 1 [.o 1 none] 0 0, zR 2, zR 3] [] [0, 3, 4, 64, 65, 66] (fun _ => [zP 0 b, zP 3 (nu1 0), zV 4 .nilIface, zS 64 (sA bq oq) c.ops.length d2, zI 65 (↑c.ops.length : Int), zI 66 0]) (fun _ => [(b, .cells #[nI (↑base.length : Int), .slice ba base.length cb, .map (some mk), .map (some md)] 133 (0, 0)), (nu1 0, .cells #[.slice u1 c.when.length d1, nI c.place, .slice (sA bq oq) c.ops.length d2] 28 (0, 0)), (md, Obj.map es1 clock1), (mk, Obj.map es clock)]) (fun _ => ?_)
   refine J_block ?_
   refine J_loopx (fun y : PutS => [zP 0 b, zP 3 (nu1 0), zV 4 .nilIface, zS 64 (sA bq oq) c.ops.length d2, zI 65 (↑c.ops.length : Int), zI 66 y.i]) (fun y : PutS => [(b, .cells #[nI (↑base.length : Int), .slice ba base.length cb, .map (some mk), .map (some md)] 133 (0, 0)), (nu1 0, .cells #[.slice u1 c.when.length d1, nI c.place, .slice (sA bq oq) c.ops.length d2] 28 (0, 0)), (md, .map y.es1 y.clock1), (mk, .map y.es y.clock)]) (fun y : PutS => [cStar (y.ks.map fun t => cAcc (y.F t) 28 3 ((keyC (L ++ putsOf c (c.ops.take y.i.toNat)) t).map eCom))]) (fun y : PutS => [(.nilIface, (dC er eb)), (.slice a1 c.when.length c1, (dInts c.when)), (.slice a2 c.ops.length c2, (D.sl 7 (List.map eOp c.ops))), (.slice ba base.length cb, (dInts base)), (.pointer (sA 3 0), (D.ptr [D.v (Value.iface 243 (Value.pointer (some (er 3))))])), (.pointer (sA 4 0), (D.ptr [D.v (Value.iface 243 (Value.pointer (some (er 9))))])), (.pointer (sA 5 0), (D.ptr [D.v (Value.iface 243 (Value.pointer (some (er 6))))])), (.slice u1 c.when.length d1, (dInts c.when)), (.slice (sA bq oq) c.ops.length d2, (D.sl 7 (List.map eOp c.ops)))]) (fun y : PutS => (c.ops.length - y.i).toNat) (fun y : PutS => (0 ≤ y.i ∧ y.i ≤ c.ops.length ∧ MapG (MapKept.IsKey .string) y.es (strG y.ks y.F) ∧ MapKept.Stamped y.es y.clock ∧ y.ks.Nodup ∧ (∀ t, t ∈ y.ks ↔ keyC (L ++ putsOf c (c.ops.take y.i.toNat)) t ≠ []) ∧ MapG okDot y.es1 (dotSet ((L ++ putsOf c (c.ops.take y.i.toNat)).map dotP)))) ⟨0, es, clock, ks, F, es1, clock1⟩ [0, 3, 4, 64, 65, 66] [0, 1, 2, 3] [0] [0, 1, 2, 3, 4, 5, 6, 7, 8] ?_ (by kernel_rfl) rfl rfl rfl ?_
   ·exact ⟨by simp, by simp, hm, hst, hnd, by simpa [putsOf] using hiff, by simpa [putsOf] using hm1⟩
   rintro ⟨i, es2, clock2, ks2, F2, es3, clock3⟩ ⟨hi0, hi, hmo, hst2, hnd2, hiff2, hmd⟩
   dsimp only at hi0 hi hmo hst2 hnd2 hiff2 hmd ⊢
   refine Sq mixed [zR 0] [] [0, 3, 4, 64, 65, 66, 67] (fun _ => [zP 0 b, zP 3 (nu1 0), zV 4 .nilIface, zS 64 (sA bq oq) c.ops.length d2, zI 65 (↑c.ops.length : Int), zI 66 i, zB 67 (decide (i < (↑c.ops.length : Int)))]) (fun _ => [(b, .cells #[nI (↑base.length : Int), .slice ba base.length cb, .map (some mk), .map (some md)] 133 (0, 0)), (nu1 0, .cells #[.slice u1 c.when.length d1, nI c.place, .slice (sA bq oq) c.ops.length d2] 28 (0, 0)), (md, Obj.map es3 clock3), (mk, Obj.map es2 clock2)]) (fun _ => ?_)
   refine J_seq ?_
   refine cC (t := decide (i < (↑c.ops.length : Int))) (fun hlt5 => ?_) (fun hlt5 => ?_)
   ·have hlt6 : i < c.ops.length := by simpa using hlt5
    obtain ⟨o, ho⟩ : ∃ o, c.ops[i.toNat]? = some o := ⟨_, List.getElem?_eq_getElem (by omega)⟩
    refine J_read1 8 rfl i.toNat (map_at ho) (by kernel_rfl) (fun b1 off1 cs1 ty1 fz1 a1_0 c1_0 ha1 hrd1 => ?_)
    cases ha1
    have hrd1_0 := rd0 (hrd1 0 _ rfl)
    have hrd1_1 := hrd1 1 _ rfl
    have hrd1_2 := hrd1 2 _ rfl
    have hrd1_3 := hrd1 3 _ rfl
    have hrd1_4 := hrd1 4 _ rfl
    have hrd1_5 := hrd1 5 _ rfl
    have hrd1_6 := hrd1 6 _ rfl
    try simp only [cAp, nAp, aNl]
    refine J_skip ?_
    refine J_seq ?_
    refine J_block ?_
    refine Sp mixed [zR 0, .rd 1 [] 0 2, .rd 2 [.r 3 (some (nI o.no)), .r 3 (some (.string o.key)), .r 3 (some (nI o.kind)), .r 3 (some (.string o.text)), .r 3 (some (nI o.n)), .r 3 (some (.bool o.remove)), .r 3 (some (.slice (a1_0, c1_0).fst ((List.map eDot o.dots).length) c1_0))] 0 0, .wr 3 [] 0, zR 4, .wr 5 [.o 4 none, .o 4 none, .o 4 none, .o 4 none, .o 4 none, .o 4 none, .o 4 none] 0] [(5, [])] [0, 3, 4, 10, 11, 64, 65, 66] (fun nu2 => [zP 0 b, zP 3 (nu1 0), zV 4 .nilIface, zI 10 i, zP 11 (nu2 0), zS 64 (sA bq oq) c.ops.length d2, zI 65 (↑c.ops.length : Int), zI 66 i]) (fun nu2 => [(b, .cells #[nI (↑base.length : Int), .slice ba base.length cb, .map (some mk), .map (some md)] 133 (0, 0)), (nu1 0, .cells #[.slice u1 c.when.length d1, nI c.place, .slice (sA bq oq) c.ops.length d2] 28 (0, 0)), (md, Obj.map es3 clock3), (mk, Obj.map es2 clock2), (nu2 0, .cells #[nI o.no, .string o.key, nI o.kind, .string o.text, nI o.n, .bool o.remove, .slice (a1_0, c1_0).fst ((List.map eDot o.dots).length) c1_0] 24 (0, 0))]) (fun nu2 => [(0 : Int) ≤ i, i < (↑c.ops.length : Int), cs1[oq + i.toNat * (7 : Nat)]? = some (nI o.no), cs1[oq + i.toNat * (7 : Nat) + (1 : Nat)]? = some (Value.string o.key), cs1[oq + i.toNat * (7 : Nat) + (2 : Nat)]? = some (nI o.kind), cs1[oq + i.toNat * (7 : Nat) + (3 : Nat)]? = some (Value.string o.text), cs1[oq + i.toNat * (7 : Nat) + (4 : Nat)]? = some (nI o.n), cs1[oq + i.toNat * (7 : Nat) + (5 : Nat)]? = some (Value.bool o.remove), cs1[oq + i.toNat * (7 : Nat) + (6 : Nat)]? = some (Value.slice (a1_0, c1_0).fst (List.map eDot o.dots).length (a1_0, c1_0).snd)]) (fun _ => ⟨hi0, hlt6, hrd1_0, hrd1_1, hrd1_2, hrd1_3, hrd1_4, hrd1_5, hrd1_6, trivial⟩) (fun nu2 => ?_)
    refine J_seq ?_
    refine jB mixed [(0, true), (1, true), (2, true), (3, true), (4, true), (5, true), (6, false), (7, false)] [(7, [2])] ?_
    refine JR_run (id := 19) (rest := [(6, false), (7, false)]) [.rd 0 [] 0 0, .rd 1 [] 0 0, .rd 2 [] 0 0, .rd 3 [.o 0 none] 0 0, .rd 4 [.o 1 none, .o 1 none, .o 1 none] 0 0, .rd 5 [.o 4 none, .o 4 none, .o 4 none, .o 4 none, .o 4 none, .o 4 none, .o 4 none] 0 0] [0, 3, 4, 10, 11, 64, 65, 66, 74, 75, 76] (E1 := fun _ => [(0, .val (.pointer (some (⟨b, 0, none⟩)))), (3, .val (.pointer (some (⟨nu1 0, 0, none⟩)))), (4, .val (.nilIface)), (10, .val (.int .i64 i)), (11, .val (.pointer (some (⟨nu2 0, 0, none⟩)))), (64, .val (.slice (some (⟨bq, oq, none⟩)) c.ops.length d2)), (65, .val (.int .i64 (↑c.ops.length : Int))), (66, .val (.int .i64 i)), (74, .val (.map (some md))), (75, .val (.agg #[.slice u1 c.when.length d1, .int .i64 c.place, .slice (some (⟨bq, oq, none⟩)) c.ops.length d2])), (76, .val (.agg #[.int .i64 o.no, .string o.key, .int .i64 o.kind, .string o.text, .int .i64 o.n, .bool o.remove, .slice (a1_0, c1_0).fst ((List.map eDot o.dots).length) c1_0]))]) (h1 := fun _ => [(b, .cells #[.int .i64 (↑base.length : Int), .slice ba base.length cb, .map (some mk), .map (some md)] 133 (0, 0)), (nu1 0, .cells #[.slice u1 c.when.length d1, .int .i64 c.place, .slice (some (⟨bq, oq, none⟩)) c.ops.length d2] 28 (0, 0)), (md, Obj.map es3 clock3), (mk, Obj.map es2 clock2), (nu2 0, .cells #[.int .i64 o.no, .string o.key, .int .i64 o.kind, .string o.text, .int .i64 o.n, .bool o.remove, .slice (a1_0, c1_0).fst ((List.map eDot o.dots).length) c1_0] 24 (0, 0))]) (p1 := fun _ => []) (W1 := [(7, [2])]) (fun _ => by kernel_rfl) (fun _ => trivial) (fun _ => ?_)
    refine JR_callp [] 74 #[.agg #[.slice u1 c.when.length d1, .int .i64 c.place, .slice (some (⟨bq, oq, none⟩)) c.ops.length d2], .agg #[.int .i64 o.no, .string o.key, .int .i64 o.kind, .string o.text, .int .i64 o.n, .bool o.remove, .slice (a1_0, c1_0).fst ((List.map eDot o.dots).length) c1_0]] (some 77) (by kernel_rfl) (fun w S hG => ?_)
    refine (verDot (c := c) (o := o) rfl (hG.at 7 rfl) hrc.p0 hrc.p1).mono ?_
    rintro e4 w4 hR
    refine ⟨_, _, _, hR, ?_⟩
    try simp only [cAp, nAp, aNl]
    refine JRg_put 2 md 131 65 4 okDot (.agg #[.int .i64 ((dotOf c o).place), .int .i64 ((dotOf c o).time), .int .i64 ((dotOf c o).no)]) (.bool true) none (by kernel_rfl) (by kernel_rfl) (by kernel_rfl) keyOk_65 (by first | exact ⟨_, _, _, rfl⟩ | simp [MapKept.IsKey]) rfl hmd (fun es4 clock4 hm4 hsz4 => ?_)
    refine JR_end ?_
    refine Sq mixed [.rd 0 [.o 1 none, .o 1 none, .o 1 none] 0 0, .wr 1 [] 0, .wr 2 [.o 5 none, .o 5 none, .o 5 none] 0] [(2, [])] [0, 3, 4, 10, 11, 12, 64, 65, 66, 74, 75, 76, 77] (fun nu3 => [zP 0 b, zP 3 (nu1 0), zV 4 .nilIface, zI 10 i, zP 11 (nu2 0), zP 12 (nu3 0), zS 64 (sA bq oq) c.ops.length d2, zI 65 (↑c.ops.length : Int), zI 66 i, zV 74 (.map (some md)), zV 75 (.agg #[.slice u1 c.when.length d1, nI c.place, .slice (sA bq oq) c.ops.length d2]), zV 76 (.agg #[nI o.no, .string o.key, nI o.kind, .string o.text, nI o.n, .bool o.remove, .slice a1_0 ((List.map eDot o.dots).length) c1_0]), zV 77 (.agg #[nI ((dotOf c o).place), nI ((dotOf c o).time), nI ((dotOf c o).no)])]) (fun nu3 => [(b, .cells #[nI (↑base.length : Int), .slice ba base.length cb, .map (some mk), .map (some md)] 133 (0, 0)), (nu1 0, .cells #[.slice u1 c.when.length d1, nI c.place, .slice (sA bq oq) c.ops.length d2] 28 (0, 0)), (md, Obj.map es4 clock4), (mk, Obj.map es2 clock2), (nu2 0, .cells #[nI o.no, .string o.key, nI o.kind, .string o.text, nI o.n, .bool o.remove, .slice a1_0 ((List.map eDot o.dots).length) c1_0] 24 (0, 0)), (nu3 0, .cells #[.slice u1 c.when.length d1, nI c.place, .slice (sA bq oq) c.ops.length d2] 28 (0, 0))]) (fun nu3 => ?_)
    refine Sp mixed [zR 0, .rd 1 [.o 1 none] 0 0, zR 2, zR 3, .rd 4 [] 0 1, .rd 5 [] 0 4, zR 6, .wr 7 [.o 5 none] 0] [(7, [5])] [0, 3, 4, 10, 11, 12, 64, 65, 66, 74, 75, 76, 77] (fun _ => [zP 0 b, zP 3 (nu1 0), zV 4 .nilIface, zI 10 i, zP 11 (nu2 0), zP 12 (nu3 0), zS 64 (sA bq oq) c.ops.length d2, zI 65 (↑c.ops.length : Int), zI 66 i, zV 74 (.map (some md)), zV 75 (.agg #[.slice u1 c.when.length d1, nI c.place, .slice (sA bq oq) c.ops.length d2]), zV 76 (.agg #[nI o.no, .string o.key, nI o.kind, .string o.text, nI o.n, .bool o.remove, .slice a1_0 ((List.map eDot o.dots).length) c1_0]), zV 77 (.agg #[nI ((dotOf c o).place), nI ((dotOf c o).time), nI ((dotOf c o).no)])]) (fun _ => [(b, .cells #[nI (↑base.length : Int), .slice ba base.length cb, .map (some mk), .map (some md)] 133 (0, 0)), (nu1 0, .cells #[.slice u1 c.when.length d1, nI c.place, .slice (sA bq oq) c.ops.length d2] 28 (0, 0)), (md, Obj.map es4 clock4), (mk, Obj.map es2 clock2), (nu2 0, .cells #[nI o.no, .string o.key, nI o.kind, .string o.text, nI o.n, .bool o.remove, .slice a1_0 ((List.map eDot o.dots).length) c1_0] 24 (0, 0)), (nu3 0, .cells #[.slice u1 c.when.length d1, nI c.place, .slice (sA bq (oq + i.toNat * 7)) ((i + 1).toNat - i.toNat) (d2 - i.toNat)] 28 (0, 0))]) (fun _ => [IntKind.i64.wrap (i + (1 : Int)) = i + (1 : Int), (0 : Int) ≤ i, i ≤ i + (1 : Int), i + (1 : Int) ≤ (↑d2 : Int), i < (↑d2 : Int)]) (fun _ => ⟨wrap_i64 (by omega) (by omega), hi0, by omega, by omega, by omega, trivial⟩) (fun _ => ?_)
    have hA2 : L ++ putsOf c (c.ops.take (i + 1).toNat) = (L ++ putsOf c (c.ops.take i.toNat)) ++ [⟨c.when, c.place, o⟩] := by
     rw [← take_snoc hi0 ho, putsOf, putsOf, List.map_append, ← List.append_assoc]
     rfl
    have hAl : (L ++ putsOf c (c.ops.take i.toNat)).length ≤ 1000020 := by
     have := hrc.o2
     rw [List.length_append, putsOf, List.length_map, List.length_take]
     omega
    have hone : (c.ops.drop i.toNat).take 1 = [o] := by
     rw [List.drop_eq_getElem_cons (by omega)]
     have := (List.getElem?_eq_some_iff.1 ho).2
     simp [this]
    refine J_stp (stp_fact fun w S H => (H (_, _) (List.mem_of_getElem? (i := 8) rfl)).dropM i.toNat (by omega)) ?_
    have h11 : (i + 1).toNat - i.toNat = 1 := by omega
    rw [h11]
    refine J_stp (stp_fact fun w S H => (H (_, _) (List.mem_of_getElem? (i := 10) rfl)).takeM 1 (by rw [List.length_drop]; omega)) ?_
    rw [hone]
    generalize L ++ putsOf c (c.ops.take i.toNat) = A at hA2 hAl hiff2 hmd hm4 ⊢
    have hkl := keyC_len A o.key
    have hmd2 : MapG okDot es4 (dotSet ((A ++ [(⟨c.when, c.place, o⟩ : PutT)]).map dotP)) := by
     rw [List.map_append]
     exact hm4.congr (dotSet_snoc (d := dotOf c o))
    have hko : ∀ t, t ≠ o.key → keyC (A ++ [(⟨c.when, c.place, o⟩ : PutT)]) t = keyC A t := fun t ht => by
     rw [keyC_snoc, if_neg fun h => ht h.symm, List.append_nil]
    have hkn : keyC (A ++ [(⟨c.when, c.place, o⟩ : PutT)]) o.key = keyC A o.key ++ [⟨c.when, c.place, [o]⟩] := by
     rw [keyC_snoc, if_pos rfl]
     rfl
    by_cases hT2 : o.key ∈ ks2
    ·obtain ⟨i2, hit2⟩ := List.getElem?_of_mem hT2
     refine J_stp (stp_take (c := cAcc (F2 o.key) 28 3 ((keyC A o.key).map eCom)) 0 i2 rfl (by rw [List.getElem?_map, hit2]; rfl)) ?_
     refine J_stpx (stp_accform 0 rfl) fun y hF => ?_
     obtain ⟨av, nv, cv⟩ := y
     obtain ⟨hF, hn⟩ := hF
     dsimp only at hF hn
     rw [List.length_map] at hn
     have hnb : nv ≤ 4000000 := by omega
     rw [hF]
     refine J_norm (C' := [cAcc (.slice av nv cv) 28 3 (List.map eCom (keyC A o.key)), (cStar ((List.map (fun t => cAcc (F2 t) 28 3 (List.map eCom (keyC A t))) ks2).eraseIdx i2))]) (G' := [(.nilIface, (dC er eb)), (.slice a1 c.when.length c1, (dInts c.when)), (.slice a2 c.ops.length c2, (D.sl 7 (List.map eOp c.ops))), (.slice ba base.length cb, (dInts base)), (.pointer (some (⟨3, 0, none⟩)), (D.ptr [D.v (Value.iface 243 (Value.pointer (some (er 3))))])), (.pointer (some (⟨4, 0, none⟩)), (D.ptr [D.v (Value.iface 243 (Value.pointer (some (er 9))))])), (.pointer (some (⟨5, 0, none⟩)), (D.ptr [D.v (Value.iface 243 (Value.pointer (some (er 6))))])), (.slice u1 c.when.length d1, (dInts c.when)), (.slice (some (⟨bq, oq, none⟩)) c.ops.length d2, (D.sl 7 (List.map eOp c.ops))), (.slice (a1_0, c1_0).fst ((List.map eDot o.dots).length) c1_0, (D.sl 3 (List.map eDot o.dots))), (.slice (some (⟨bq, oq + i.toNat * 7, none⟩)) (c.ops.length - i.toNat) (d2 - i.toNat), (D.sl 7 (List.map eOp (List.drop i.toNat c.ops)))), (.slice (some (⟨bq, oq + i.toNat * 7, none⟩)) 1 (d2 - i.toNat), (D.sl 7 (List.map eOp [o])))]) (by kernel_rfl) (by kernel_rfl) ?_
     refine jB mixed [(0, true), (1, true), (2, true), (3, true), (4, true), (5, true), (6, true), (7, true), (8, true), (9, true), (10, true), (11, true), (12, true), (13, true), (14, false), (15, false), (16, false)] [(15, []), (16, [3])] ?_
     refine JR_run (id := 22) (rest := [(12, true), (13, true), (14, false), (15, false), (16, false)]) [.rd 0 [] 0 0, .rd 1 [] 0 0, .rd 2 [] 0 0, .rd 3 [.o 0 none] 0 0, .rd 4 [] 0 0, .rd 5 [.o 4 none] 0 0, .rd 6 [] 0 0, .rd 7 [] 0 0, .rd 8 [] 0 0, .rd 9 [.o 0 none] 0 0, .rd 10 [] 0 0, .rd 11 [.o 4 none] 0 0] [0, 3, 4, 10, 11, 12, 64, 65, 66, 74, 75, 76, 77, 89, 91, 95, 97] (E1 := fun _ => [(0, .val (.pointer (some (⟨b, 0, none⟩)))), (3, .val (.pointer (some (⟨nu1 0, 0, none⟩)))), (4, .val (.nilIface)), (10, .val (.int .i64 i)), (11, .val (.pointer (some (⟨nu2 0, 0, none⟩)))), (12, .val (.pointer (some (⟨nu3 0, 0, none⟩)))), (64, .val (.slice (some (⟨bq, oq, none⟩)) c.ops.length d2)), (65, .val (.int .i64 (↑c.ops.length : Int))), (66, .val (.int .i64 i)), (74, .val (.map (some md))), (75, .val (.agg #[.slice u1 c.when.length d1, .int .i64 c.place, .slice (some (⟨bq, oq, none⟩)) c.ops.length d2])), (76, .val (.agg #[.int .i64 o.no, .string o.key, .int .i64 o.kind, .string o.text, .int .i64 o.n, .bool o.remove, .slice a1_0 ((List.map eDot o.dots).length) c1_0])), (77, .val (.agg #[.int .i64 ((dotOf c o).place), .int .i64 ((dotOf c o).time), .int .i64 ((dotOf c o).no)])), (89, .val (.map (some mk))), (91, .val (.string o.key)), (95, .val (.map (some mk))), (97, .val (.string o.key))]) (h1 := fun _ => [(b, .cells #[.int .i64 (↑base.length : Int), .slice ba base.length cb, .map (some mk), .map (some md)] 133 (0, 0)), (nu1 0, .cells #[.slice u1 c.when.length d1, .int .i64 c.place, .slice (some (⟨bq, oq, none⟩)) c.ops.length d2] 28 (0, 0)), (md, Obj.map es4 clock4), (mk, Obj.map es2 clock2), (nu2 0, .cells #[.int .i64 o.no, .string o.key, .int .i64 o.kind, .string o.text, .int .i64 o.n, .bool o.remove, .slice a1_0 ((List.map eDot o.dots).length) c1_0] 24 (0, 0)), (nu3 0, .cells #[.slice u1 c.when.length d1, .int .i64 c.place, .slice (some (⟨bq, oq + i.toNat * 7, none⟩)) 1 (d2 - i.toNat)] 28 (0, 0))]) (p1 := fun _ => []) (W1 := [(15, []), (16, [3])]) (fun _ => by kernel_rfl) (fun _ => trivial) (fun _ => ?_)
     refine JRg_lookr (.o 3 none) mk 130 9 43 (MapKept.IsKey TypeDesc.string) (.string o.key) (.slice none 0 0) false (some 98) (by kernel_rfl) (by kernel_rfl) (by kernel_rfl) keyOk_9 (by first | exact ⟨_, _, _, rfl⟩ | simp [MapKept.IsKey]) (by kernel_rfl) rfl hmo (fun hno => ?_) (fun v hv => ?_)
     ·rw [strG_in hT2] at hno
      cases hno
     ·rw [strG_in hT2, hF] at hv
      cases hv
      refine JR_run (id := 22) (rest := [(15, false), (16, false)]) [.rd 13 [.o 5 none, .o 5 none, .o 5 none] 0 0, .wr 14 [] 0] [0, 3, 4, 10, 11, 12, 64, 65, 66, 74, 75, 76, 77, 89, 91, 98, 100] (E1 := fun nu4 => [(0, .val (.pointer (some (⟨b, 0, none⟩)))), (3, .val (.pointer (some (⟨nu1 0, 0, none⟩)))), (4, .val (.nilIface)), (10, .val (.int .i64 i)), (11, .val (.pointer (some (⟨nu2 0, 0, none⟩)))), (12, .val (.pointer (some (⟨nu3 0, 0, none⟩)))), (64, .val (.slice (some (⟨bq, oq, none⟩)) c.ops.length d2)), (65, .val (.int .i64 (↑c.ops.length : Int))), (66, .val (.int .i64 i)), (74, .val (.map (some md))), (75, .val (.agg #[.slice u1 c.when.length d1, .int .i64 c.place, .slice (some (⟨bq, oq, none⟩)) c.ops.length d2])), (76, .val (.agg #[.int .i64 o.no, .string o.key, .int .i64 o.kind, .string o.text, .int .i64 o.n, .bool o.remove, .slice a1_0 ((List.map eDot o.dots).length) c1_0])), (77, .val (.agg #[.int .i64 ((dotOf c o).place), .int .i64 ((dotOf c o).time), .int .i64 ((dotOf c o).no)])), (89, .val (.map (some mk))), (91, .val (.string o.key)), (98, .val (.slice av nv cv)), (100, .val (.slice (some (⟨nu4 0, 0, none⟩)) 1 1))]) (h1 := fun nu4 => [(b, .cells #[.int .i64 (↑base.length : Int), .slice ba base.length cb, .map (some mk), .map (some md)] 133 (0, 0)), (nu1 0, .cells #[.slice u1 c.when.length d1, .int .i64 c.place, .slice (some (⟨bq, oq, none⟩)) c.ops.length d2] 28 (0, 0)), (md, Obj.map es4 clock4), (mk, Obj.map es2 clock2), (nu2 0, .cells #[.int .i64 o.no, .string o.key, .int .i64 o.kind, .string o.text, .int .i64 o.n, .bool o.remove, .slice a1_0 ((List.map eDot o.dots).length) c1_0] 24 (0, 0)), (nu3 0, .cells #[.slice u1 c.when.length d1, .int .i64 c.place, .slice (some (⟨bq, oq + i.toNat * 7, none⟩)) 1 (d2 - i.toNat)] 28 (0, 0)), (nu4 0, .cells #[.slice u1 c.when.length d1, .int .i64 c.place, .slice (some (⟨bq, oq + i.toNat * 7, none⟩)) 1 (d2 - i.toNat)] 28 (0, 0))]) (p1 := fun nu4 => []) (W1 := [(15, []), (16, [3])]) (fun _ => by kernel_rfl) (fun _ => trivial) (fun nu4 => ?_)
      refine JR_appm 0 43 28 3 56 (.agg #[.slice none 0 0, .int .i64 0, .slice none 0 0]) (a0 := av) (len := nv) (cap0 := cv) (ax := (some (⟨nu4 0, 0, none⟩))) (m := 1) (c := 1) (dst := (some 101)) [(⟨c.when, c.place, [o]⟩ : ComT)] (by kernel_rfl) (by kernel_rfl) (by kernel_rfl) (by kernel_rfl) rfl (by decide) rfl (fun _ _ _ s => src_one s 6 rfl rfl ⟨.inr (.inl (List.mem_of_getElem? (i := 7) rfl)), ⟨.inl ⟨rfl, rfl⟩, ⟨.inr (.inl (List.mem_of_getElem? (i := 11) rfl)), trivial⟩⟩⟩) (by simp only [maxLen]; omega) (by omega) (fun av1 cv1 => ?_)
      try simp only [cAp, nAp, aNl]
      refine JRg_puts 3 mk 130 9 43 (MapKept.IsKey TypeDesc.string) (.string o.key) (.slice av1 (nv + 1) cv1) none (by kernel_rfl) (by kernel_rfl) (by kernel_rfl) keyOk_9 (by first | exact ⟨_, _, _, rfl⟩ | simp [MapKept.IsKey]) rfl hmo (fun es5 clock5 hm5 hsz5 hst5 => ?_)
      try simp only [cAp, nAp, aNl]
      refine JR_end ?_
      try simp only [cAp, nAp, aNl]
      refine J_eb ?_
      try simp only [cAp, nAp, aNl]
      refine Gp mixed [.rd 0 [] 0 1, zR 1] [] [0, 3, 4, 10, 11, 12, 64, 65, 66, 74, 75, 76, 77, 89, 91, 98, 100, 101] (fun _ => [zP 0 b, zP 3 (nu1 0), zV 4 .nilIface, zI 10 i, zP 11 (nu2 0), zP 12 (nu3 0), zS 64 (sA bq oq) c.ops.length d2, zI 65 (↑c.ops.length : Int), zI 66 (i + 1), zV 74 (.map (some md)), zV 75 (.agg #[.slice u1 c.when.length d1, nI c.place, .slice (sA bq oq) c.ops.length d2]), zV 76 (.agg #[nI o.no, .string o.key, nI o.kind, .string o.text, nI o.n, .bool o.remove, .slice a1_0 ((List.map eDot o.dots).length) c1_0]), zV 77 (.agg #[nI ((dotOf c o).place), nI ((dotOf c o).time), nI ((dotOf c o).no)]), zV 89 (.map (some mk)), zV 91 (.string o.key), zS 98 av nv cv, zS 100 (sA (nu4 0) 0) 1 1, zS 101 av1 (nv + 1) cv1]) (fun _ => [(b, .cells #[nI (↑base.length : Int), .slice ba base.length cb, .map (some mk), .map (some md)] 133 (0, 0)), (nu1 0, .cells #[.slice u1 c.when.length d1, nI c.place, .slice (sA bq oq) c.ops.length d2] 28 (0, 0)), (md, Obj.map es4 clock4), (mk, Obj.map es5 clock5), (nu2 0, .cells #[nI o.no, .string o.key, nI o.kind, .string o.text, nI o.n, .bool o.remove, .slice a1_0 ((List.map eDot o.dots).length) c1_0] 24 (0, 0)), (nu3 0, .cells #[.slice u1 c.when.length d1, nI c.place, .slice (sA bq (oq + i.toNat * 7)) 1 (d2 - i.toNat)] 28 (0, 0)), (nu4 0, .cells #[.slice u1 c.when.length d1, nI c.place, .slice (sA bq (oq + i.toNat * 7)) 1 (d2 - i.toNat)] 28 (0, 0))]) (fun _ => [IntKind.i64.wrap (i + (1 : Int)) = i + (1 : Int)]) (fun _ => ⟨wrap_i64 (by omega) (by omega), trivial⟩) (fun _ => ?_)
      try simp only [cAp, nAp, aNl]
      refine J_norm (C' := [(cStar ((List.map (fun t => cAcc (F2 t) 28 3 (List.map eCom (keyC A t))) ks2).eraseIdx i2)), cAcc (.slice av1 (nv + 1) cv1) 28 3 (List.map eCom (keyC A o.key ++ [ComT.mk c.when c.place [o]]))]) (G' := [(.nilIface, (dC er eb)), (.slice a1 c.when.length c1, (dInts c.when)), (.slice a2 c.ops.length c2, (D.sl 7 (List.map eOp c.ops))), (.slice ba base.length cb, (dInts base)), (.pointer (some (⟨3, 0, none⟩)), (D.ptr [D.v (Value.iface 243 (Value.pointer (some (er 3))))])), (.pointer (some (⟨4, 0, none⟩)), (D.ptr [D.v (Value.iface 243 (Value.pointer (some (er 9))))])), (.pointer (some (⟨5, 0, none⟩)), (D.ptr [D.v (Value.iface 243 (Value.pointer (some (er 6))))])), (.slice u1 c.when.length d1, (dInts c.when)), (.slice (some (⟨bq, oq, none⟩)) c.ops.length d2, (D.sl 7 (List.map eOp c.ops))), (.slice a1_0 ((List.map eDot o.dots).length) c1_0, (D.sl 3 (List.map eDot o.dots))), (.slice (some (⟨bq, oq + i.toNat * 7, none⟩)) (c.ops.length - i.toNat) (d2 - i.toNat), (D.sl 7 (List.map eOp (List.drop i.toNat c.ops)))), (.slice (some (⟨bq, oq + i.toNat * 7, none⟩)) 1 (d2 - i.toNat), (D.sl 7 (List.map eOp [o])))]) (by kernel_rfl) (by kernel_rfl) ?_
      have hE2 := map_out (Q := fun t => cAcc (F2 t) 28 3 ((keyC A t).map eCom)) (Q' := fun t => cAcc (upd F2 o.key (.slice av1 (nv + 1) cv1) t) 28 3 ((keyC (A ++ [(⟨c.when, c.place, o⟩ : PutT)]) t).map eCom)) hnd2 hit2 fun s hs => by
       show cAcc (upd F2 o.key (.slice av1 (nv + 1) cv1) s) _ 3 ((keyC (A ++ [(⟨c.when, c.place, o⟩ : PutT)]) s).map eCom) = cAcc (F2 s) _ 3 ((keyC A s).map eCom)
       rw [upd_ne _ _ hs, hko s hs]
      refine J_stp (stp_join 1 0 i2 (cs' := ks2.map fun t => cAcc (upd F2 o.key (.slice av1 (nv + 1) cv1) t) 28 3 ((keyC (A ++ [(⟨c.when, c.place, o⟩ : PutT)]) t).map eCom)) rfl rfl (by decide) (by
       rw [List.getElem?_map, hit2]
       show some (cAcc (upd F2 o.key (.slice av1 (nv + 1) cv1) o.key) _ 3 ((keyC (A ++ [(⟨c.when, c.place, o⟩ : PutT)]) o.key).map eCom)) = _
       rw [upd_at, hkn]) hE2) ?_
      rw [← hA2]
      refine J_norm (C' := [(cStar (List.map (fun t => cAcc (upd F2 o.key (Value.slice av1 (nv + 1) cv1) t) 28 3 (List.map eCom (keyC (L ++ putsOf c (List.take (i + 1).toNat c.ops)) t))) ks2))]) (G' := [(.nilIface, (dC er eb)), (.slice a1 c.when.length c1, (dInts c.when)), (.slice a2 c.ops.length c2, (D.sl 7 (List.map eOp c.ops))), (.slice ba base.length cb, (dInts base)), (.pointer (some (⟨3, 0, none⟩)), (D.ptr [D.v (Value.iface 243 (Value.pointer (some (er 3))))])), (.pointer (some (⟨4, 0, none⟩)), (D.ptr [D.v (Value.iface 243 (Value.pointer (some (er 9))))])), (.pointer (some (⟨5, 0, none⟩)), (D.ptr [D.v (Value.iface 243 (Value.pointer (some (er 6))))])), (.slice u1 c.when.length d1, (dInts c.when)), (.slice (some (⟨bq, oq, none⟩)) c.ops.length d2, (D.sl 7 (List.map eOp c.ops))), (.slice a1_0 ((List.map eDot o.dots).length) c1_0, (D.sl 3 (List.map eDot o.dots))), (.slice (some (⟨bq, oq + i.toNat * 7, none⟩)) (c.ops.length - i.toNat) (d2 - i.toNat), (D.sl 7 (List.map eOp (List.drop i.toNat c.ops)))), (.slice (some (⟨bq, oq + i.toNat * 7, none⟩)) 1 (d2 - i.toNat), (D.sl 7 (List.map eOp [o])))]) (by kernel_rfl) (by kernel_rfl) ?_
      refine J_backx ⟨i + 1, _, _, ks2, upd F2 o.key (.slice av1 (nv + 1) cv1), _, _⟩ [0, 3, 4, 64, 65, 66] [0, 1, 2, 3] [0] [0, 1, 2, 3, 4, 5, 6, 7, 8] ?_ ?_ (by kernel_rfl) rfl rfl rfl
      ·refine ⟨by simp only; omega, by simp only; omega, hm5.congr (strG_set hT2), hst5 hst2, hnd2, fun t => ?_, ?_⟩
       ·dsimp only
        rw [hA2]
        by_cases hs : t = o.key
        ·subst hs
         rw [hkn]
         simp [hT2]
        ·rw [hko t hs]
         exact hiff2 t
       ·dsimp only
        rw [hA2]
        exact hmd2
      ·simp only
       omega
    ·have ho0 : keyC A o.key = [] := Classical.byContradiction fun h => hT2 ((hiff2 _).2 h)
     refine J_stp (stp_accm eCom 28 3) ?_
     refine J_norm (C' := [(cStar (List.map (fun t => cAcc (F2 t) 28 3 (List.map eCom (keyC A t))) ks2)), cAcc (.slice none 0 0) 28 3 (List.map eCom [])]) (G' := [(.nilIface, (dC er eb)), (.slice a1 c.when.length c1, (dInts c.when)), (.slice a2 c.ops.length c2, (D.sl 7 (List.map eOp c.ops))), (.slice ba base.length cb, (dInts base)), (.pointer (some (⟨3, 0, none⟩)), (D.ptr [D.v (Value.iface 243 (Value.pointer (some (er 3))))])), (.pointer (some (⟨4, 0, none⟩)), (D.ptr [D.v (Value.iface 243 (Value.pointer (some (er 9))))])), (.pointer (some (⟨5, 0, none⟩)), (D.ptr [D.v (Value.iface 243 (Value.pointer (some (er 6))))])), (.slice u1 c.when.length d1, (dInts c.when)), (.slice (some (⟨bq, oq, none⟩)) c.ops.length d2, (D.sl 7 (List.map eOp c.ops))), (.slice (a1_0, c1_0).fst ((List.map eDot o.dots).length) c1_0, (D.sl 3 (List.map eDot o.dots))), (.slice (some (⟨bq, oq + i.toNat * 7, none⟩)) (c.ops.length - i.toNat) (d2 - i.toNat), (D.sl 7 (List.map eOp (List.drop i.toNat c.ops)))), (.slice (some (⟨bq, oq + i.toNat * 7, none⟩)) 1 (d2 - i.toNat), (D.sl 7 (List.map eOp [o])))]) (by kernel_rfl) (by kernel_rfl) ?_
     refine jB mixed [(0, true), (1, true), (2, true), (3, true), (4, true), (5, true), (6, true), (7, true), (8, true), (9, true), (10, true), (11, true), (12, true), (13, true), (14, false), (15, false), (16, false)] [(15, []), (16, [3])] ?_
     refine JR_run (id := 22) (rest := [(12, true), (13, true), (14, false), (15, false), (16, false)]) [.rd 0 [] 0 0, .rd 1 [] 0 0, .rd 2 [] 0 0, .rd 3 [.o 0 none] 0 0, .rd 4 [] 0 0, .rd 5 [.o 4 none] 0 0, .rd 6 [] 0 0, .rd 7 [] 0 0, .rd 8 [] 0 0, .rd 9 [.o 0 none] 0 0, .rd 10 [] 0 0, .rd 11 [.o 4 none] 0 0] [0, 3, 4, 10, 11, 12, 64, 65, 66, 74, 75, 76, 77, 89, 91, 95, 97] (E1 := fun _ => [(0, .val (.pointer (some (⟨b, 0, none⟩)))), (3, .val (.pointer (some (⟨nu1 0, 0, none⟩)))), (4, .val (.nilIface)), (10, .val (.int .i64 i)), (11, .val (.pointer (some (⟨nu2 0, 0, none⟩)))), (12, .val (.pointer (some (⟨nu3 0, 0, none⟩)))), (64, .val (.slice (some (⟨bq, oq, none⟩)) c.ops.length d2)), (65, .val (.int .i64 (↑c.ops.length : Int))), (66, .val (.int .i64 i)), (74, .val (.map (some md))), (75, .val (.agg #[.slice u1 c.when.length d1, .int .i64 c.place, .slice (some (⟨bq, oq, none⟩)) c.ops.length d2])), (76, .val (.agg #[.int .i64 o.no, .string o.key, .int .i64 o.kind, .string o.text, .int .i64 o.n, .bool o.remove, .slice a1_0 ((List.map eDot o.dots).length) c1_0])), (77, .val (.agg #[.int .i64 ((dotOf c o).place), .int .i64 ((dotOf c o).time), .int .i64 ((dotOf c o).no)])), (89, .val (.map (some mk))), (91, .val (.string o.key)), (95, .val (.map (some mk))), (97, .val (.string o.key))]) (h1 := fun _ => [(b, .cells #[.int .i64 (↑base.length : Int), .slice ba base.length cb, .map (some mk), .map (some md)] 133 (0, 0)), (nu1 0, .cells #[.slice u1 c.when.length d1, .int .i64 c.place, .slice (some (⟨bq, oq, none⟩)) c.ops.length d2] 28 (0, 0)), (md, Obj.map es4 clock4), (mk, Obj.map es2 clock2), (nu2 0, .cells #[.int .i64 o.no, .string o.key, .int .i64 o.kind, .string o.text, .int .i64 o.n, .bool o.remove, .slice a1_0 ((List.map eDot o.dots).length) c1_0] 24 (0, 0)), (nu3 0, .cells #[.slice u1 c.when.length d1, .int .i64 c.place, .slice (some (⟨bq, oq + i.toNat * 7, none⟩)) 1 (d2 - i.toNat)] 28 (0, 0))]) (p1 := fun _ => []) (W1 := [(15, []), (16, [3])]) (fun _ => by kernel_rfl) (fun _ => trivial) (fun _ => ?_)
     refine JRg_lookr (.o 3 none) mk 130 9 43 (MapKept.IsKey TypeDesc.string) (.string o.key) (.slice none 0 0) false (some 98) (by kernel_rfl) (by kernel_rfl) (by kernel_rfl) keyOk_9 (by first | exact ⟨_, _, _, rfl⟩ | simp [MapKept.IsKey]) (by kernel_rfl) rfl hmo (fun hno => ?_) (fun v hv => ?_)
     ·refine JR_run (id := 22) (rest := [(15, false), (16, false)]) [.rd 13 [.o 5 none, .o 5 none, .o 5 none] 0 0, .wr 14 [] 0] [0, 3, 4, 10, 11, 12, 64, 65, 66, 74, 75, 76, 77, 89, 91, 98, 100] (E1 := fun nu4 => [(0, .val (.pointer (some (⟨b, 0, none⟩)))), (3, .val (.pointer (some (⟨nu1 0, 0, none⟩)))), (4, .val (.nilIface)), (10, .val (.int .i64 i)), (11, .val (.pointer (some (⟨nu2 0, 0, none⟩)))), (12, .val (.pointer (some (⟨nu3 0, 0, none⟩)))), (64, .val (.slice (some (⟨bq, oq, none⟩)) c.ops.length d2)), (65, .val (.int .i64 (↑c.ops.length : Int))), (66, .val (.int .i64 i)), (74, .val (.map (some md))), (75, .val (.agg #[.slice u1 c.when.length d1, .int .i64 c.place, .slice (some (⟨bq, oq, none⟩)) c.ops.length d2])), (76, .val (.agg #[.int .i64 o.no, .string o.key, .int .i64 o.kind, .string o.text, .int .i64 o.n, .bool o.remove, .slice a1_0 ((List.map eDot o.dots).length) c1_0])), (77, .val (.agg #[.int .i64 ((dotOf c o).place), .int .i64 ((dotOf c o).time), .int .i64 ((dotOf c o).no)])), (89, .val (.map (some mk))), (91, .val (.string o.key)), (98, .val (.slice none 0 0)), (100, .val (.slice (some (⟨nu4 0, 0, none⟩)) 1 1))]) (h1 := fun nu4 => [(b, .cells #[.int .i64 (↑base.length : Int), .slice ba base.length cb, .map (some mk), .map (some md)] 133 (0, 0)), (nu1 0, .cells #[.slice u1 c.when.length d1, .int .i64 c.place, .slice (some (⟨bq, oq, none⟩)) c.ops.length d2] 28 (0, 0)), (md, Obj.map es4 clock4), (mk, Obj.map es2 clock2), (nu2 0, .cells #[.int .i64 o.no, .string o.key, .int .i64 o.kind, .string o.text, .int .i64 o.n, .bool o.remove, .slice a1_0 ((List.map eDot o.dots).length) c1_0] 24 (0, 0)), (nu3 0, .cells #[.slice u1 c.when.length d1, .int .i64 c.place, .slice (some (⟨bq, oq + i.toNat * 7, none⟩)) 1 (d2 - i.toNat)] 28 (0, 0)), (nu4 0, .cells #[.slice u1 c.when.length d1, .int .i64 c.place, .slice (some (⟨bq, oq + i.toNat * 7, none⟩)) 1 (d2 - i.toNat)] 28 (0, 0))]) (p1 := fun nu4 => []) (W1 := [(15, []), (16, [3])]) (fun _ => by kernel_rfl) (fun _ => trivial) (fun nu4 => ?_)
      refine JR_appm 1 43 28 3 56 (.agg #[.slice none 0 0, .int .i64 0, .slice none 0 0]) (a0 := none) (len := 0) (cap0 := 0) (ax := (some (⟨nu4 0, 0, none⟩))) (m := 1) (c := 1) (dst := (some 101)) [(⟨c.when, c.place, [o]⟩ : ComT)] (by kernel_rfl) (by kernel_rfl) (by kernel_rfl) (by kernel_rfl) rfl (by decide) rfl (fun _ _ _ s => src_one s 6 rfl rfl ⟨.inr (.inl (List.mem_of_getElem? (i := 7) rfl)), ⟨.inl ⟨rfl, rfl⟩, ⟨.inr (.inl (List.mem_of_getElem? (i := 11) rfl)), trivial⟩⟩⟩) (by simp only [maxLen]; omega) (by omega) (fun av1 cv1 => ?_)
      try simp only [cAp, nAp, aNl]
      refine JRg_puts 3 mk 130 9 43 (MapKept.IsKey TypeDesc.string) (.string o.key) (.slice av1 1 cv1) none (by kernel_rfl) (by kernel_rfl) (by kernel_rfl) keyOk_9 (by first | exact ⟨_, _, _, rfl⟩ | simp [MapKept.IsKey]) rfl hmo (fun es5 clock5 hm5 hsz5 hst5 => ?_)
      try simp only [cAp, nAp, aNl]
      refine JR_end ?_
      try simp only [cAp, nAp, aNl]
      refine J_eb ?_
      try simp only [cAp, nAp, aNl]
      refine Gp mixed [.rd 0 [] 0 1, zR 1] [] [0, 3, 4, 10, 11, 12, 64, 65, 66, 74, 75, 76, 77, 89, 91, 98, 100, 101] (fun _ => [zP 0 b, zP 3 (nu1 0), zV 4 .nilIface, zI 10 i, zP 11 (nu2 0), zP 12 (nu3 0), zS 64 (sA bq oq) c.ops.length d2, zI 65 (↑c.ops.length : Int), zI 66 (i + 1), zV 74 (.map (some md)), zV 75 (.agg #[.slice u1 c.when.length d1, nI c.place, .slice (sA bq oq) c.ops.length d2]), zV 76 (.agg #[nI o.no, .string o.key, nI o.kind, .string o.text, nI o.n, .bool o.remove, .slice a1_0 ((List.map eDot o.dots).length) c1_0]), zV 77 (.agg #[nI ((dotOf c o).place), nI ((dotOf c o).time), nI ((dotOf c o).no)]), zV 89 (.map (some mk)), zV 91 (.string o.key), zS 98 none 0 0, zS 100 (sA (nu4 0) 0) 1 1, zS 101 av1 1 cv1]) (fun _ => [(b, .cells #[nI (↑base.length : Int), .slice ba base.length cb, .map (some mk), .map (some md)] 133 (0, 0)), (nu1 0, .cells #[.slice u1 c.when.length d1, nI c.place, .slice (sA bq oq) c.ops.length d2] 28 (0, 0)), (md, Obj.map es4 clock4), (mk, Obj.map es5 clock5), (nu2 0, .cells #[nI o.no, .string o.key, nI o.kind, .string o.text, nI o.n, .bool o.remove, .slice a1_0 ((List.map eDot o.dots).length) c1_0] 24 (0, 0)), (nu3 0, .cells #[.slice u1 c.when.length d1, nI c.place, .slice (sA bq (oq + i.toNat * 7)) 1 (d2 - i.toNat)] 28 (0, 0)), (nu4 0, .cells #[.slice u1 c.when.length d1, nI c.place, .slice (sA bq (oq + i.toNat * 7)) 1 (d2 - i.toNat)] 28 (0, 0))]) (fun _ => [IntKind.i64.wrap (i + (1 : Int)) = i + (1 : Int)]) (fun _ => ⟨wrap_i64 (by omega) (by omega), trivial⟩) (fun _ => ?_)
      try simp only [cAp, nAp, aNl]
      refine J_norm (C' := [(cStar (List.map (fun t => cAcc (F2 t) 28 3 (List.map eCom (keyC A t))) ks2)), cAcc (.slice av1 1 cv1) 28 3 (List.map eCom [ComT.mk c.when c.place [o]])]) (G' := [(.nilIface, (dC er eb)), (.slice a1 c.when.length c1, (dInts c.when)), (.slice a2 c.ops.length c2, (D.sl 7 (List.map eOp c.ops))), (.slice ba base.length cb, (dInts base)), (.pointer (some (⟨3, 0, none⟩)), (D.ptr [D.v (Value.iface 243 (Value.pointer (some (er 3))))])), (.pointer (some (⟨4, 0, none⟩)), (D.ptr [D.v (Value.iface 243 (Value.pointer (some (er 9))))])), (.pointer (some (⟨5, 0, none⟩)), (D.ptr [D.v (Value.iface 243 (Value.pointer (some (er 6))))])), (.slice u1 c.when.length d1, (dInts c.when)), (.slice (some (⟨bq, oq, none⟩)) c.ops.length d2, (D.sl 7 (List.map eOp c.ops))), (.slice a1_0 ((List.map eDot o.dots).length) c1_0, (D.sl 3 (List.map eDot o.dots))), (.slice (some (⟨bq, oq + i.toNat * 7, none⟩)) (c.ops.length - i.toNat) (d2 - i.toNat), (D.sl 7 (List.map eOp (List.drop i.toNat c.ops)))), (.slice (some (⟨bq, oq + i.toNat * 7, none⟩)) 1 (d2 - i.toNat), (D.sl 7 (List.map eOp [o])))]) (by kernel_rfl) (by kernel_rfl) ?_
      have hE2 := map_new (t := o.key) (Q := fun t => cAcc (F2 t) 28 3 ((keyC A t).map eCom)) (Q' := fun t => cAcc (upd F2 o.key (.slice av1 1 cv1) t) 28 3 ((keyC (A ++ [(⟨c.when, c.place, o⟩ : PutT)]) t).map eCom)) (ks := ks2) fun s hs => by
       have hne : s ≠ o.key := fun he => hT2 (he ▸ hs)
       show cAcc (upd F2 o.key (.slice av1 1 cv1) s) _ 3 ((keyC (A ++ [(⟨c.when, c.place, o⟩ : PutT)]) s).map eCom) = cAcc (F2 s) _ 3 ((keyC A s).map eCom)
       rw [upd_ne _ _ hne, hko s hne]
      refine J_stp (stp_join 1 0 ks2.length (cs' := (ks2 ++ [o.key]).map fun t => cAcc (upd F2 o.key (.slice av1 1 cv1) t) 28 3 ((keyC (A ++ [(⟨c.when, c.place, o⟩ : PutT)]) t).map eCom)) rfl rfl (by decide) (by
       rw [List.getElem?_map, show (ks2 ++ [o.key])[ks2.length]? = some o.key by simp]
       show some (cAcc (upd F2 o.key (.slice av1 1 cv1) o.key) _ 3 ((keyC (A ++ [(⟨c.when, c.place, o⟩ : PutT)]) o.key).map eCom)) = _
       rw [upd_at, hkn, ho0]
       rfl) hE2) ?_
      rw [← hA2]
      refine J_norm (C' := [(cStar (List.map (fun t => cAcc (upd F2 o.key (Value.slice av1 1 cv1) t) 28 3 (List.map eCom (keyC (L ++ putsOf c (List.take (i + 1).toNat c.ops)) t))) (ks2 ++ [o.key])))]) (G' := [(.nilIface, (dC er eb)), (.slice a1 c.when.length c1, (dInts c.when)), (.slice a2 c.ops.length c2, (D.sl 7 (List.map eOp c.ops))), (.slice ba base.length cb, (dInts base)), (.pointer (some (⟨3, 0, none⟩)), (D.ptr [D.v (Value.iface 243 (Value.pointer (some (er 3))))])), (.pointer (some (⟨4, 0, none⟩)), (D.ptr [D.v (Value.iface 243 (Value.pointer (some (er 9))))])), (.pointer (some (⟨5, 0, none⟩)), (D.ptr [D.v (Value.iface 243 (Value.pointer (some (er 6))))])), (.slice u1 c.when.length d1, (dInts c.when)), (.slice (some (⟨bq, oq, none⟩)) c.ops.length d2, (D.sl 7 (List.map eOp c.ops))), (.slice a1_0 ((List.map eDot o.dots).length) c1_0, (D.sl 3 (List.map eDot o.dots))), (.slice (some (⟨bq, oq + i.toNat * 7, none⟩)) (c.ops.length - i.toNat) (d2 - i.toNat), (D.sl 7 (List.map eOp (List.drop i.toNat c.ops)))), (.slice (some (⟨bq, oq + i.toNat * 7, none⟩)) 1 (d2 - i.toNat), (D.sl 7 (List.map eOp [o])))]) (by kernel_rfl) (by kernel_rfl) ?_
      refine J_backx ⟨i + 1, _, _, ks2 ++ [o.key], upd F2 o.key (.slice av1 1 cv1), _, _⟩ [0, 3, 4, 64, 65, 66] [0, 1, 2, 3] [0] [0, 1, 2, 3, 4, 5, 6, 7, 8] ?_ ?_ (by kernel_rfl) rfl rfl rfl
      ·refine ⟨by simp only; omega, by simp only; omega, hm5.congr (strG_new hT2), hst5 hst2, List.nodup_append.2 ⟨hnd2, by simp, fun a ha b hb => ?_⟩, fun t => ?_, ?_⟩
       ·rw [List.mem_singleton] at hb
        subst hb
        exact fun he => hT2 (by rw [← he]; exact ha)
       ·dsimp only
        rw [hA2]
        by_cases hs : t = o.key
        ·subst hs
         rw [hkn]
         simp
        ·rw [hko t hs, List.mem_append, List.mem_singleton]
         exact ⟨fun h => h.elim (hiff2 t).1 fun h => absurd h hs, fun h => .inl ((hiff2 t).2 h)⟩
       ·dsimp only
        rw [hA2]
        exact hmd2
      ·simp only
       omega
     ·rw [strG_out hT2] at hv
      cases hv
   ·have hil6 : c.ops.take i.toNat = c.ops := List.take_of_length_le (by simp at hlt5; omega)
    rw [hil6] at hiff2 hmd
    rw [hil6]
    refine J_exit rfl ?_
    refine Sq mixed [zR 0] [] [4] (fun _ => [zV 4 .nilIface]) (fun _ => [(b, .cells #[nI (↑base.length : Int), .slice ba base.length cb, .map (some mk), .map (some md)] 133 (0, 0)), (nu1 0, .cells #[.slice u1 c.when.length d1, nI c.place, .slice (sA bq oq) c.ops.length d2] 28 (0, 0)), (md, Obj.map es3 clock3), (mk, Obj.map es2 clock2)]) (fun _ => ?_)
    refine J_return [[]] (.nilIface) (by kernel_rfl) (fun a w s => ?_)
    exact .inr ⟨hsc, _, _, ks2, F2, ((((s.hide 0 rfl).hide 1 rfl).hide 1 rfl).stp (stp_conv 2 rfl (mapg_eqv hmd))).ret (by simp) [1, 3, 0, 2] [] rfl rfl, hmo, hst2, hnd2, hiff2⟩
end Go.Proofs.YtpjkiomccpjboaaGreatDoor
end
