/- Part 13 of the texts of a claim: Tx18 Sorted SetP Ord Ref2 Tx19. -/
import Derived.Test.YtpjkiomccpjboaaGreatDoorShelf
import Derived.Test.YtpjkiomccpjboaaGreatDoorTd12
section
namespace Go.Sx
open Go
def zero (w : World) : World := { w with drawn := 0 }
theorem zero_all {M : List Nat} {w : World} : ∀ f ∈ [(M, zero w)], f.2.drawn = 0 := fun f hf => by
 rw [List.mem_singleton] at hf
 subst hf
 rfl
theorem Rep.zero {w : World} {S : Nat → Prop} {x : Value} {d : D} (h : Rep w S x d) : Rep (zero w) S x d := h.mono fun _ hb _ => ⟨hb, rfl⟩
theorem Fr.zero {M : List Nat} {a b : World} (h : Fr M a b) : Fr M (zero a) b := ⟨h.os, h.tape, h.output, h.size, h.block, Nat.zero_le _⟩
section
variable {P : Program} {f : Func} {R : Act → World → Prop} {n : Nat} {k : List Itm} {E : Env} {h r : List (Nat × Obj)} {F : List (List Nat × World)} {Y : Ghost}
theorem StF.zero {a : Act} {w : World} {fps : List (List Nat)} (s : StF n E h r F Y a w fps) (hz : ∀ f ∈ F, f.2.drawn = 0) : StF n E h r F Y a (Sx.zero w) fps :=
 ⟨s.ag, ⟨s.own.own, s.own.nodup, s.own.ro, s.own.apart⟩, fun f hf => ⟨(s.fr f hf).os, (s.fr f hf).tape, (s.fr f hf).output, (s.fr f hf).size, (s.fr f hf).block, by rw [hz f hf]; exact Nat.zero_le _⟩, s.may,
  ⟨s.gh.chs.mono (fun _ _ => rfl) (fun _ hb _ => ⟨hb, rfl⟩), s.gh.nodup, s.gh.disj, s.gh.apart, s.gh.may, s.gh.lt, s.gh.own, s.gh.hid, s.gh.top, fun x hx => (s.gh.g x hx).zero⟩⟩
theorem J_zero {M : List Nat} {w0 : World} (H : J P f R n k E h r [(M, zero w0)] Y) : J P f R n k E h r [(M, w0)] Y := fun a w ⟨fps, s⟩ =>
 H a w ⟨fps, s.ag, s.own, fun g hg => by
  rw [List.mem_singleton] at hg
  subst hg
  exact (s.fr (M, w0) (List.mem_singleton.2 rfl)).zero, fun g hg => by
  rw [List.mem_singleton] at hg
  subst hg
  exact s.may (M, w0) (List.mem_singleton.2 rfl), ⟨s.gh.chs, s.gh.nodup, s.gh.disj, s.gh.apart, fun g hg => by
   rw [List.mem_singleton] at hg
   subst hg
   exact s.gh.may (M, w0) (List.mem_singleton.2 rfl), s.gh.lt, s.gh.own, s.gh.hid, s.gh.top, s.gh.g⟩⟩
theorem JR_callz {S0 : Nat → Prop} {C0 : List Chunk} {G0 : List (Value × D)} {id L0 i : Nat} {ck : Bool} {Wp : List (Nat × List Nat)} {rest : List (Nat × Bool)} (hs : List Hn) (cs : List Nat) (fid : FuncId) (args : Array Value) (dst : Option Tmp)
  (hz : ∀ f ∈ F, f.2.drawn = 0) (he : chkC (callOf P n (rgOf f id) h r E i hs) = (some (fid, args, dst), trivC (callOf P n (rgOf f id) h r E i hs), 0)) (hok : (!ck || (Wp.lookup i).isSome || cs.isEmpty) = true) (hcs : cs.Nodup)
  (C : ∀ w S M, Pre w S M (pick C0 cs) → AllG w S G0 → (cs = [] → M = []) → Calls P fid args w fun e w' => ∃ v C' G', Ret M (zero w) S w' e v C' G' ∧
   JR P f R n (rgOf f id) L0 ck rest (Wp.filter (·.1 != i)) k (E.put dst (.val v)) h r F ⟨S0, restC C0 cs ++ C', G0 ++ G'⟩) :
  JR P f R n (rgOf f id) L0 ck ((i, false) :: rest) Wp k E h r F ⟨S0, C0, G0⟩ := by
 obtain ⟨p, he, hp⟩ := chkC_sound he
 intro B Hd fps a w s hH hR hN hW
 simp only [PW]
 refine callOf_sound he hp s ((C w (Sd ⟨S0, C0, G0⟩ h fps) (pick fps cs).flatten (Pre.of s hcs) s.gh.g (fun h => by rw [h]; simp [pick])).mono fun e w' hh => ?_)
 obtain ⟨v, C', G', hRet, H⟩ := hh
 have hf := hRet.fr
 refine ⟨v, hRet.ret, fun E' hE a' hA => ⟨fun hck b hb hl => ?_, ?_⟩⟩
 ·refine hf.block b hb fun hm => ?_
  have hm2 := pick_flat_sub hm
  cases hWl : Wp.lookup i with
  | none =>
   rw [hWl, hck] at hok
   simp at hok
   subst hok
   simp [pick] at hm
  | some ps =>
   rw [lookup_idsW, hWl] at hl
   obtain ⟨h1, h2⟩ := hl _ rfl
   rcases hH b hm2 with h3 | h3
   ·exact h2 (List.mem_append_right _ h3)
   ·omega
 ·subst hE
  rw [filter_idsW]
  obtain ⟨fps', h3, s'⟩ := (s.zero hz).called (cs := cs) hA hRet
  refine H B Hd _ a' w' s' (fun b hb => ?_) ⟨hR.old, hR.ro, hR.len, Nat.le_trans hR.size hf.size⟩ hN (okWp_filter hW)
  rw [List.flatten_append] at hb
  rcases List.mem_append.1 hb with hb | hb
  ·exact hH b (pick_flat_sub hb)
  ·rcases h3 b hb with h1 | h1
   ·exact hH b (pick_flat_sub h1)
   ·exact .inr (Nat.le_trans hR.size h1)
theorem JR_callzp {S0 : Nat → Prop} {C0 : List Chunk} {G0 : List (Value × D)} {id L0 i : Nat} {ck : Bool} {Wp : List (Nat × List Nat)} {rest : List (Nat × Bool)} (hs : List Hn) (fid : FuncId) (args : Array Value) (dst : Option Tmp)
  (hz : ∀ f ∈ F, f.2.drawn = 0) (he : chkC (callOf P n (rgOf f id) h r E i hs) = (some (fid, args, dst), trivC (callOf P n (rgOf f id) h r E i hs), 0))
  (C : ∀ w S, AllG w S G0 → Calls P fid args w fun e w' => ∃ v C' G', Ret [] (zero w) S w' e v C' G' ∧
   JR P f R n (rgOf f id) L0 ck rest (Wp.filter (·.1 != i)) k (E.put dst (.val v)) h r F ⟨S0, C0 ++ C', G0 ++ G'⟩) :
  JR P f R n (rgOf f id) L0 ck ((i, false) :: rest) Wp k E h r F ⟨S0, C0, G0⟩ := by
 refine JR_callz hs [] fid args dst hz he (by simp) (by simp) fun w S M _ hG hM => ?_
 obtain rfl := hM rfl
 refine (C w S hG).mono fun e w' ⟨v, C', G', hR, H⟩ => ⟨v, C', G', hR, ?_⟩
 have : pick C0 (others C0.length []) = C0 := by
  have h1 : others C0.length [] = List.range C0.length := by simp [others]
  rw [h1, pick_all]
 unfold restC
 rw [this]
 exact H
end
end Go.Sx
end
section
namespace Go.Sx
open Go Go.Maps Go.WideElems Go.MapKept
open Go.Proofs (encStr)
def sortB (l : List ByteArray) : List ByteArray := ((l.map fun t => t.data.toList).mergeSort leB).map fun x => ⟨x.toArray⟩
theorem sortB_perm {l l' : List ByteArray} (h : l.Perm l') : sortB l = sortB l' := by
  unfold sortB
  rw [mergeSort_of_perm (h.map _)]
def keyB : Value → ByteArray
  | .string t => t
  | _ => ⟨#[]⟩
abbrev RZ : Value → Option (DataW Unit × List MemPlace) := fun _ => some (.nil, [])
theorem owns_of {P : Program} {k : TypeId} (hk : P.underlying k = some .string) {w : World} {b : Nat} {es : Array MapEntry} {clock : Nat} (hb : w.heap[b]? = some (.map es clock)) (hkey : ∀ x ∈ es.toList, IsKey .string x.key) (hst : Stamped es clock) (hn : es.size ≤ 4000000) (hsz : ∀ x ∈ es.toList, (keyB x.key).size ≤ 1000000) :
    ∃ D0 : DataW Unit, w.ownsMap P k RZ b es.size D0 ∧ Maps.size D0 = es.size ∧ (strKeys D0).Perm (es.toList.map fun x => (keyB x.key).data.toList) := by
  have hrd : ∀ x ∈ es.toList, WideElems.rd P k RZ x = some (.string (keyB x.key).data.toList, .nil) := fun x hx => by
    have h1 := hkey x hx
    have h2 := hsz x hx
    cases hq : x.key <;> rw [hq] at h1 <;> simp only [IsKey] at h1
    rename_i s
    rw [hq] at h2
    simp only [keyB] at h2
    have h3 : s.size ≤ maxLen := by unfold maxLen; omega
    simp [WideElems.rd, keyOf, hk, mapKey, hq, h3, keyB]
  refine ⟨_, ⟨es, clock, hb, ⟨by unfold maxLen; omega, hst, fun x hx => ⟨_, hrd x hx⟩⟩, Nat.le_refl _, rfl⟩, ?_, ?_⟩
  · simp [Maps.size, length_sorted]
  · show (List.map (fun p : Lit × DataW Unit => strOf p.1) _).Perm _
    refine ((WideShapes.sorted_perm _).map _).trans ?_
    rw [List.map_map]
    refine List.Perm.of_eq (List.map_congr_left fun x hx => ?_)
    simp [rg_of (hrd x hx), strOf]
theorem rep_row {w' : World} {S : Nat → Prop} {base e : Nat} {v : Value} {ss : List (List UInt8)} (h : w'.ownsRow base e 1 v ss.length (ss.map encStr)) (hS : ∀ b, base ≤ b → S b) : Rep w' S v (dStrs (ss.map fun x => ⟨x.toArray⟩)) := by
  rcases h.2 with ⟨rfl, h0⟩ | ⟨g, cap, cur, rfl, hbase, hg, hle, _, hcs, htake⟩
  · obtain rfl := List.length_eq_zero_iff.1 h0
    exact .nil
  · have hl : (List.map eS (ss.map fun x => (⟨x.toArray⟩ : ByteArray))).length = ss.length := by simp
    have := Rep.sl (w := w') (S := S) (off := 0) (cap := cap) (k := 1) (rows := List.map eS (ss.map fun x => (⟨x.toArray⟩ : ByteArray))) (fun i j => cur.getD (0 + (i * 1 + j)) undef) hg (hS g hbase) (by omega) (by omega) (fun row hr => ?_) (fun i j hi hj => ?_) (fun i j row d hi hj => ?_)
    · rwa [hl] at this
    · obtain ⟨x, _, rfl⟩ := List.mem_map.1 hr
      rfl
    · have : 0 + (i * 1 + j) < cur.size := by omega
      rw [Array.getElem?_eq_getElem this, Array.getD_eq_getD_getElem?, Array.getElem?_eq_getElem this]
      rfl
    · rw [List.map_map, List.getElem?_map] at hi
      obtain ⟨x, hx, rfl⟩ := Option.map_eq_some_iff.1 hi
      match j, hj with
      | 0, hj =>
        simp only [Function.comp_apply, List.getElem?_cons_zero, Option.some.injEq] at hj
        subst hj
        have hil := (List.getElem?_eq_some_iff.1 hx).1
        have h3 : (cur.toList.take (ss.length * 1))[i]? = some (encStr x) := by rw [htake, List.getElem?_map, hx]; rfl
        rw [List.getElem?_take, if_pos (by omega), Array.getElem?_toList] at h3
        have h4 : cur.getD (0 + (i * 1 + 0)) undef = encStr x := by
          rw [Array.getD_eq_getD_getElem?, show 0 + (i * 1 + 0) = i by omega, h3]
          rfl
        rw [h4]
        exact .v rfl
      | j + 1, hj => simp at hj
end Go.Sx
namespace Go.Proofs.YtpjkiomccpjboaaGreatDoor
open Go Go.Sx Go.RowKit Go.Maps Go.Sort Go.Shelf
theorem vKeys {w : World} {S : Nat → Prop} {mb : Nat} : Calls Tryz.prog 64 #[.map (some mb)] w fun e w' => ∃ b ty, Ret [] w S w' e (.func (.func 102) #[] #[.pointer (some ⟨b, 0, none⟩)]) [] [(.pointer (some ⟨b, 0, none⟩), .obj (.cells #[.map (some mb)] ty (0, 0)))] := by
  refine ep64 (args := [.map (some mb)]) (S := S) (G := []) (by kernel_rfl) (.nil _ _) ?_
  refine Sq mixed [.wr 0 [] 0, zR 1] [] [1, 2] (fun nu1 => [zP 1 (nu1 0), zV 2 .nilFunc]) (fun nu1 => [(nu1 0, .cells #[.map (some mb)] 117 (0, 0))]) (fun nu1 => ?_)
  refine Sq mixed [zR 0, zR 1] [] [2] (fun _ => [zV 2 (.func (.func 102) #[] #[.pointer (sA (nu1 0) 0)])]) (fun _ => [(nu1 0, .cells #[.map (some mb)] 117 (0, 0))]) (fun _ => ?_)
  refine J_return [[]] (.func (.func 102) #[] #[.pointer (some (⟨nu1 0, 0, none⟩))]) (by kernel_rfl) (fun a w s => ?_)
  exact ⟨_, _, (s.share 0 rfl).ret (by simp) [] [0] rfl rfl⟩
theorem sortsS (m : Nat) : AnyZ.SortsIn Tryz.prog Tryz.sorted_ren Fence.wide m :=
  ⟨fun blk off cap ss W hH hblk hsz => callsIn_wide.2 (AnyM.slices_Sort_string Tryz.sortS blk off cap ss W hH hblk hsz),
   fun p cap W => callsIn_wide.2 (AnyM.slices_Sort_string_none Tryz.sortS p cap W)⟩
theorem sortedKeys {w : World} {S : Nat → Prop} {M : List Nat} {mb bx clock : Nat} {es : Array MapEntry} {ty : TypeId} (hP : Pre w S M [cObj mb (.map es clock)]) (hkey : ∀ x ∈ es.toList, MapKept.IsKey .string x.key) (hst : MapKept.Stamped es clock) (hn : es.size ≤ 4000000) (hsz : ∀ x ∈ es.toList, (keyB x.key).size ≤ 1000000) (hbx : Rep w S (.pointer (some ⟨bx, 0, none⟩)) (.obj (.cells #[.map (some mb)] ty (0, 0)))) :
    Calls Tryz.prog 63 #[.func (.func 102) #[] #[.pointer (some ⟨bx, 0, none⟩)]] w fun e w' => ∃ ua un uc, Ret M (zero w) S w' e (.slice ua un uc) [] [(.slice ua un uc, dStrs (sortB (es.toList.map fun x => keyB x.key)))] := by
  obtain ⟨fps, hch, rfl, hnd, hM⟩ := hP
  match fps, hch with
  | [fp], ⟨⟨hfp, hmb⟩, _⟩ =>
    subst hfp
    obtain ⟨D0, hown, hsD, hperm⟩ := owns_of (k := 9) (P := Tryz.prog) Tryz.underlying9 hmb hkey hst hn hsz
    have hbx2 := blk_of hbx
    have hlt := (Array.getElem?_eq_some_iff.1 hbx2).1
    have hseq : SeqGives Fence.wide 2 Tryz.prog 102 #[.pointer (some ⟨bx, 0, none⟩)] encStr (fun ss => ss.Perm (strKeys D0)) (Maps.size D0) w :=
      AnyZ.keys_gives (ρ := Tryz.keysA_ren) { Tryz.keysA with } Fence.wide _ trivial rfl (by omega) bx mb es.size D0 w hlt (by simp [World.cell?, hbx2]) hown
    have cS := AnyZ.sorted_in Tryz.sorted Fence.wide 5 trivial trivial trivial trivial rfl (by omega) (sortsS _) (enters_of Tryz.func101 (by kernel_rfl) rfl) 102 #[.pointer (some ⟨bx, 0, none⟩)] trivial (enters_of Tryz.func102 (by kernel_rfl) rfl) _ _ (by rw [hsD]; unfold maxLen; omega) (by rw [hsD]; omega) w hseq
    change CallsIn _ _ Tryz.prog 63 _ _ _ at cS
    refine (callsIn_wide.1 cS).mono ?_
    rintro e w' ⟨v, ss, rfl, hS, hrow, _, hb⟩
    have e1 : sortB (es.toList.map fun x => keyB x.key) = (ss.mergeSort leB).map fun x => ⟨x.toArray⟩ := by
      unfold sortB
      rw [List.map_map, mergeSort_of_perm (hS.trans hperm)]
      rfl
    have hrep : Rep w' (retS S ([[mb]] : List (List Nat)).flatten (zero w) []) v (dStrs (sortB (es.toList.map fun x => keyB x.key))) := by
      rw [e1]
      refine rep_row (base := w.heap.size) (e := 9) ?_ fun b hb2 => ⟨.inr (.inr hb2), by simp⟩
      rw [List.length_mergeSort]
      exact hrow
    obtain ⟨ua, uc, rfl, _⟩ := hrep.form
    refine ⟨ua, _, uc, rfl, ⟨hb.os, hb.tape, hb.output, hb.size, fun b hb2 _ => hb.block b hb2, Nat.zero_le _⟩, [], trivial, by simp, by simp, fun x hx => ?_⟩
    obtain rfl := List.mem_singleton.1 hx
    exact hrep
  | [], h => exact h.elim
  | _ :: _ :: _, h => exact h.2.elim
end Go.Proofs.YtpjkiomccpjboaaGreatDoor
end
section
namespace Go.Sx
open Go
theorem eq_of_sorted {α : Type} {lt : α → α → Prop} (asym : ∀ a b, lt a b → lt b a → False) {l l' : List α} (h : l.Pairwise lt) (h' : l'.Pairwise lt) (hm : ∀ x, x ∈ l ↔ x ∈ l') : l = l' := by
 have irr : ∀ {p : List α}, p.Pairwise lt → p.Nodup := fun hp => hp.imp fun {a b} hab he => by subst he; exact asym a a hab hab
 exact ((List.perm_ext_iff_of_nodup (irr h) (irr h')).2 hm).eq_of_pairwise (le := lt) (fun a b _ _ h1 h2 => (asym a b h1 h2).elim) h h'
theorem bLt_iff {a b : ByteArray} : bLt a b = true ↔ a.toList < b.toList := decide_eq_true_iff
theorem bLt_asym (a b : ByteArray) (h1 : bLt a b = true) (h2 : bLt b a = true) : False :=
 List.lt_asymm (bLt_iff.1 h1) (bLt_iff.1 h2)
theorem bLt_trans {a b c : ByteArray} (h1 : bLt a b = true) (h2 : bLt b c = true) : bLt a c = true :=
 bLt_iff.2 (List.lt_trans (bLt_iff.1 h1) (bLt_iff.1 h2))
theorem byte_inj {a b : ByteArray} (h : a.toList = b.toList) : a = b := by
 have := strEq a b
 rw [h] at this
 simpa using this.symm
theorem bLt_tri {a b : ByteArray} (h1 : ¬ bLt a b = true) (h2 : a ≠ b) : bLt b a = true := by
 rw [bLt_iff] at *
 exact Classical.byContradiction fun h3 => h2 (byte_inj (List.le_antisymm h3 h1))
theorem enterB_mem {l : List ByteArray} {s t : ByteArray} : t ∈ enterB l s ↔ t = s ∨ t ∈ l := by
 induction l with
 | nil => simp [enterB]
 | cons x l ih =>
  unfold enterB
  split
  ·rw [List.mem_cons, ih, List.mem_cons]
   constructor
   ·rintro (h | h | h)
    ·exact .inr (.inl h)
    ·exact .inl h
    ·exact .inr (.inr h)
   ·rintro (h | h | h)
    ·exact .inr (.inl h)
    ·exact .inl h
    ·exact .inr (.inr h)
  ·split
   ·rename_i h
    subst h
    rw [List.mem_cons]
    constructor
    ·exact .inr
    ·rintro (h | h)
     ·exact .inl h
     ·exact h
   ·rw [List.mem_cons]
theorem enterB_sorted {l : List ByteArray} {s : ByteArray} (h : l.Pairwise fun a b => bLt a b = true) : (enterB l s).Pairwise fun a b => bLt a b = true := by
 induction l with
 | nil => simp [enterB]
 | cons x l ih =>
  unfold enterB
  have h1 := List.pairwise_cons.1 h
  split
  ·rename_i hx
   refine List.pairwise_cons.2 ⟨fun y hy => ?_, ih h1.2⟩
   rcases enterB_mem.1 hy with rfl | hy
   ·exact hx
   ·exact h1.1 y hy
  ·rename_i hx
   split
   ·exact h
   ·rename_i hne
    have hsx := bLt_tri hx hne
    refine List.pairwise_cons.2 ⟨fun y hy => ?_, h⟩
    rcases List.mem_cons.1 hy with rfl | hy
    ·exact hsx
    ·exact bLt_trans hsx (h1.1 y hy)
theorem setOf_go {p : List ByteArray} : ∀ {l : List ByteArray}, (p.Pairwise fun a b => bLt a b = true) → ((l.foldl enterB p).Pairwise fun a b => bLt a b = true) ∧ ∀ t, t ∈ l.foldl enterB p ↔ t ∈ p ∨ t ∈ l := by
 intro l
 induction l generalizing p with
 | nil => exact fun h => ⟨h, fun t => by simp⟩
 | cons x l ih =>
  intro h
  obtain ⟨h1, h2⟩ := ih (p := enterB p x) (enterB_sorted h)
  refine ⟨h1, fun t => ?_⟩
  rw [List.foldl_cons, h2, enterB_mem, List.mem_cons]
  constructor
  ·rintro ((h | h) | h)
   ·exact .inr (.inl h)
   ·exact .inl h
   ·exact .inr (.inr h)
  ·rintro (h | h | h)
   ·exact .inl (.inr h)
   ·exact .inl (.inl h)
   ·exact .inr h
theorem setOf_sorted (l : List ByteArray) : (setOf l).Pairwise fun a b => bLt a b = true := (setOf_go List.Pairwise.nil).1
theorem setOf_mem {l : List ByteArray} {t : ByteArray} : t ∈ setOf l ↔ t ∈ l := by
 unfold setOf
 rw [(setOf_go List.Pairwise.nil).2]
 simp
theorem sortB_mem {l : List ByteArray} {t : ByteArray} : t ∈ sortB l ↔ t ∈ l := by
 unfold sortB
 rw [List.mem_map]
 constructor
 ·rintro ⟨x, hx, rfl⟩
  rw [List.mem_mergeSort] at hx
  obtain ⟨y, hy, rfl⟩ := List.mem_map.1 hx
  exact hy
 ·intro h
  exact ⟨t.data.toList, List.mem_mergeSort.2 (List.mem_map.2 ⟨t, h, rfl⟩), rfl⟩
theorem sortB_sorted {l : List ByteArray} (hn : l.Nodup) : (sortB l).Pairwise fun a b => bLt a b = true := by
 have tr : ∀ a b c : List UInt8, leB a b = true → leB b c = true → leB a c = true := fun a b c h1 h2 => by simp only [leB, decide_eq_true_eq] at *; exact List.le_trans h1 h2
 have to : ∀ a b : List UInt8, (leB a b || leB b a) = true := fun a b => by simp only [leB, Bool.or_eq_true, decide_eq_true_eq]; exact List.le_total a b
 have hnd : ((l.map fun t => t.data.toList).mergeSort leB).Nodup := (List.mergeSort_perm _ _).nodup_iff.2 (List.pairwise_map.2 (hn.imp fun {a b} hne he => hne (byte_inj (by rw [ByteArray.toList_eq, ByteArray.toList_eq]; exact he))))
 unfold sortB
 refine List.pairwise_map.2 (((List.pairwise_mergeSort tr to _).and hnd).imp fun {a b} h => ?_)
 rw [bLt_iff, ByteArray.toList_eq, ByteArray.toList_eq]
 have h1 : a ≤ b := by simpa [leB] using h.1
 exact Classical.byContradiction fun h2 => h.2 (List.le_antisymm h1 h2)
theorem sortB_set {ks l : List ByteArray} (hn : ks.Nodup) (hm : ∀ t, t ∈ ks ↔ t ∈ l) : sortB ks = setOf l :=
 eq_of_sorted bLt_asym (sortB_sorted hn) (setOf_sorted l) fun t => by rw [sortB_mem, setOf_mem, hm]
theorem textDots_ne {l : List DoneT} {t : ByteArray} : textDots l t ≠ [] ↔ t ∈ (liveL l).map (·.o.text) := by
 unfold textDots
 rw [ne_eq, List.map_eq_nil_iff, List.filter_eq_nil_iff, List.mem_map]
 constructor
 ·intro h
  refine Classical.byContradiction fun h2 => h fun x hx he => h2 ⟨x, hx, by simpa using he⟩
 ·rintro ⟨x, hx, he⟩ h
  exact h x hx (by simpa using he)
end Go.Sx
end
section
namespace Go.Sx
open Go
section generic
variable {α : Type} (lt : α → α → Bool)
def insG (l : List α) (x : α) : List α := l.takeWhile (fun y => lt y x) ++ x :: l.dropWhile (fun y => lt y x)
theorem insG_mem {l : List α} {x z : α} : z ∈ insG lt l x ↔ z = x ∨ z ∈ l := by
 unfold insG
 have h : z ∈ l ↔ z ∈ l.takeWhile (fun y => lt y x) ∨ z ∈ l.dropWhile (fun y => lt y x) := by
  rw [← List.mem_append, List.takeWhile_append_dropWhile]
 rw [h, List.mem_append, List.mem_cons]
 constructor
 ·rintro (h | h | h)
  ·exact .inr (.inl h)
  ·exact .inl h
  ·exact .inr (.inr h)
 ·rintro (h | h | h)
  ·exact .inr (.inl h)
  ·exact .inl h
  ·exact .inr (.inr h)
theorem insG_sorted (tr : ∀ a b c, lt a b = true → lt b c = true → lt a c = true) {x : α} : ∀ {l : List α}, (∀ y ∈ l, lt y x = true ∨ lt x y = true) → (l.Pairwise fun a b => lt a b = true) → (insG lt l x).Pairwise fun a b => lt a b = true
 | [], _, _ => by simp [insG]
 | y :: l, hx, h => by
  have h1 := List.pairwise_cons.1 h
  unfold insG
  by_cases hy : lt y x = true
  ·rw [List.takeWhile_cons_of_pos (p := fun y => lt y x) hy, List.dropWhile_cons_of_pos (p := fun y => lt y x) hy, List.cons_append]
   refine List.pairwise_cons.2 ⟨fun z hz => ?_, insG_sorted tr (fun z hz => hx z (List.mem_cons_of_mem _ hz)) h1.2⟩
   rcases (insG_mem lt).1 hz with rfl | hz
   ·exact hy
   ·exact h1.1 z hz
  ·rw [List.takeWhile_cons_of_neg (p := fun y => lt y x) hy, List.dropWhile_cons_of_neg (p := fun y => lt y x) hy, List.nil_append]
   have hxy := (hx y (List.mem_cons_self ..)).resolve_left hy
   refine List.pairwise_cons.2 ⟨fun z hz => ?_, h⟩
   rcases List.mem_cons.1 hz with rfl | hz
   ·exact hxy
   ·exact tr _ _ _ hxy (h1.1 z hz)
theorem insG_fold (tr : ∀ a b c, lt a b = true → lt b c = true → lt a c = true) : ∀ {raw p : List α}, (p.Pairwise fun a b => lt a b = true) → (∀ a ∈ p, ∀ b ∈ raw, lt a b = true ∨ lt b a = true) → (raw.Pairwise fun a b => lt a b = true ∨ lt b a = true) →
  ((raw.foldl (insG lt) p).Pairwise fun a b => lt a b = true) ∧ ∀ z, z ∈ raw.foldl (insG lt) p ↔ z ∈ p ∨ z ∈ raw
 | [], p, hp, _, _ => ⟨hp, fun z => by simp⟩
 | x :: raw, p, hp, hc, hr => by
  have h1 := List.pairwise_cons.1 hr
  have h2 := insG_sorted lt tr (x := x) (fun y hy => hc y hy x (List.mem_cons_self ..)) hp
  obtain ⟨h3, h4⟩ := insG_fold tr h2 (raw := raw) (fun a ha b hb => by
   rcases (insG_mem lt).1 ha with rfl | ha
   ·exact h1.1 b hb
   ·exact hc a ha b (List.mem_cons_of_mem _ hb)) h1.2
  refine ⟨h3, fun z => ?_⟩
  rw [List.foldl_cons, h4, insG_mem, List.mem_cons]
  constructor
  ·rintro ((h | h) | h)
   ·exact .inr (.inl h)
   ·exact .inl h
   ·exact .inr (.inr h)
  ·rintro (h | h | h)
   ·exact .inl (.inr h)
   ·exact .inl (.inl h)
   ·exact .inr h
theorem merge_strict (asy : ∀ a b, lt a b = true → lt b a = true → False) (ntr : ∀ a b c, lt b a = false → lt c b = false → lt c a = false) {l : List α} (hl : l.Pairwise fun a b => lt a b = true ∨ lt b a = true) :
  (l.mergeSort fun x y => !lt y x).Pairwise fun a b => lt a b = true := by
 have h1 := List.pairwise_mergeSort (le := fun x y => !lt y x) (fun a b c h1 h2 => by simp only [Bool.not_eq_true'] at *; exact ntr a b c h1 h2) (fun a b => by
  cases h : lt b a with
  | false => rfl
  | true =>
   cases h2 : lt a b with
   | false => rfl
   | true => exact (asy _ _ h h2).elim) l
 have h2 : (l.mergeSort fun x y => !lt y x).Pairwise fun a b => lt a b = true ∨ lt b a = true :=
  (List.mergeSort_perm l _).symm.pairwise hl fun h => h.symm
 refine (h1.and h2).imp fun {a b} h => ?_
 have h3 : lt b a = false := by simpa using h.1
 rcases h.2 with h4 | h4
 ·exact h4
 ·rw [h3] at h4; cases h4
theorem ins_sort (tr : ∀ a b c, lt a b = true → lt b c = true → lt a c = true) (asy : ∀ a b, lt a b = true → lt b a = true → False) (ntr : ∀ a b c, lt b a = false → lt c b = false → lt c a = false) {l : List α} (hl : l.Pairwise fun a b => lt a b = true ∨ lt b a = true) :
  l.foldl (insG lt) [] = l.mergeSort fun x y => !lt y x := by
 obtain ⟨h1, h2⟩ := insG_fold lt tr (raw := l) (p := []) List.Pairwise.nil (by simp) hl
 refine eq_of_sorted (lt := fun a b => lt a b = true) asy h1 (merge_strict lt asy ntr hl) fun x => ?_
 rw [h2, List.mem_mergeSort]
 simp
theorem insG_at {x : α} : ∀ {l : List α} {k : Nat}, (∀ y ∈ l.take k, lt y x = true) → (∀ y, l[k]? = some y → lt y x = false) → insG lt l x = l.take k ++ x :: l.drop k
 | [], k, _, _ => by simp [insG]
 | y :: l, 0, _, h2 => by
  have hy : ¬ lt y x = true := by rw [h2 y rfl]; exact Bool.false_ne_true
  unfold insG
  rw [List.takeWhile_cons_of_neg (p := fun y => lt y x) hy, List.dropWhile_cons_of_neg (p := fun y => lt y x) hy]
  rfl
 | y :: l, k + 1, h1, h2 => by
  have hy : lt y x = true := h1 y (by simp)
  have ih := insG_at (l := l) (k := k) (fun z hz => h1 z (by rw [List.take_succ_cons]; exact List.mem_cons_of_mem _ hz)) (fun z hz => h2 z (by rw [List.getElem?_cons_succ]; exact hz))
  unfold insG at ih ⊢
  rw [List.takeWhile_cons_of_pos (p := fun y => lt y x) hy, List.dropWhile_cons_of_pos (p := fun y => lt y x) hy, List.cons_append, ih, List.take_succ_cons, List.drop_succ_cons, List.cons_append]
end generic
theorem enterB_at {s : ByteArray} : ∀ {l : List ByteArray} {k : Nat}, (∀ y ∈ l.take k, bLt y s = true) → (∀ y, l[k]? = some y → bLt y s = false) → enterB l s = if l[k]? = some s then l else l.take k ++ s :: l.drop k
 | [], k, _, _ => by simp [enterB]
 | y :: l, 0, _, h2 => by
  have hy : ¬ bLt y s = true := by rw [h2 y rfl]; exact Bool.false_ne_true
  unfold enterB
  rw [if_neg hy]
  by_cases he : y = s
  ·simp [he]
  ·rw [if_neg he, if_neg (by simp [he])]
   rfl
 | y :: l, k + 1, h1, h2 => by
  have hy : bLt y s = true := h1 y (by simp)
  have ih := enterB_at (l := l) (k := k) (fun z hz => h1 z (by rw [List.take_succ_cons]; exact List.mem_cons_of_mem _ hz)) (fun z hz => h2 z (by rw [List.getElem?_cons_succ]; exact hz))
  unfold enterB
  rw [if_pos hy, ih, List.getElem?_cons_succ]
  split
  ·rfl
  ·rw [List.take_succ_cons, List.drop_succ_cons, List.cons_append]
theorem lex_ntr {xs ys zs : List Int} (h1 : xs.length = ys.length) (h2 : ys.length = zs.length) (h : ¬ lexC ys xs < 0) (h' : ¬ lexC zs ys < 0) : ¬ lexC zs xs < 0 := fun hc => by
 rcases lexC_tri h1 with h3 | h3 | h3
 ·rcases lexC_tri h2 with h4 | h4 | h4
  ·exact lexC_asymm (lexC_trans h3 h4) hc
  ·rw [h4] at h3
   exact lexC_asymm h3 hc
  ·exact h' h4
 ·rw [← h3] at h'
  exact h' hc
 ·exact h h3
theorem sort_done {l : List DoneT} (h : (l.map (·.d)).Nodup) : l.foldl (insG doneLt) [] = sortDone l := by
 refine ins_sort doneLt (fun _ _ _ => doneLt_trans) (fun _ _ => doneLt_asymm) (fun a b c h1 h2 => ?_) ((List.pairwise_map.1 h).imp fun {a b} hne => ?_)
 ·have h3 : ¬ lexC (doneKey b) (doneKey a) < 0 := fun hc => by rw [doneLt_iff.2 hc] at h1; cases h1
  have h4 : ¬ lexC (doneKey c) (doneKey b) < 0 := fun hc => by rw [doneLt_iff.2 hc] at h2; cases h2
  exact Bool.eq_false_iff.2 fun hc => lex_ntr (xs := doneKey a) (ys := doneKey b) (zs := doneKey c) rfl rfl h3 h4 (doneLt_iff.1 hc)
 ·rcases doneLt_tri a b with h1 | h1 | h1
  ·exact .inl h1
  ·exact absurd (doneKey_dot h1) hne
  ·exact .inr h1
theorem sort_dots {l : List DotT} (h : l.Nodup) : l.foldl (insG dotLt) [] = sortDots l := by
 refine ins_sort dotLt (fun _ _ _ => dotLt_trans) (fun _ _ => dotLt_asymm) (fun a b c h1 h2 => ?_) (h.imp fun {a b} hne => ?_)
 ·have h3 : ¬ lexC (dotKey b) (dotKey a) < 0 := fun hc => by rw [dotLt_iff.2 hc] at h1; cases h1
  have h4 : ¬ lexC (dotKey c) (dotKey b) < 0 := fun hc => by rw [dotLt_iff.2 hc] at h2; cases h2
  exact Bool.eq_false_iff.2 fun hc => lex_ntr (xs := dotKey a) (ys := dotKey b) (zs := dotKey c) rfl rfl h3 h4 (dotLt_iff.1 hc)
 ·rcases dotLt_tri a b with h1 | h1 | h1
  ·exact .inl h1
  ·exact absurd h1 hne
  ·exact .inr h1
end Go.Sx
end
section
namespace Go.Sx
open Go
theorem Rep.takeS {w : World} {S : Nat → Prop} {a : Option Addr} {n c k : Nat} {rows : List (List D)} (h : Rep w S (.slice a n c) (.sl k rows)) (i : Nat) (hi : i ≤ rows.length) : Rep w S (.slice a i c) (.sl k (rows.take i)) := by
 cases h with
 | nil =>
  obtain rfl : i = 0 := by simpa using hi
  exact .nil
 | sl u hb hS hc hk hl hcell hrep =>
  have := Rep.sl (rows := rows.take i) u hb hS (Nat.le_trans (by rw [List.length_take]; exact Nat.min_le_right ..) hc) hk (fun row hr => hl row (List.mem_of_mem_take hr)) (fun j q hj hq => hcell j q (by rw [List.length_take] at hj; omega) hq) (fun j q row d hj hd => hrep j q row d (by
   rw [List.getElem?_take] at hj
   split at hj
   ·exact hj
   ·cases hj) hd)
  have e : (rows.take i).length = i := by rw [List.length_take]; omega
  rw [e] at this
  exact this
theorem Rep.dropS {w : World} {S : Nat → Prop} {b off n c k : Nat} {rows : List (List D)} (h : Rep w S (.slice (some ⟨b, off, none⟩) n c) (.sl k rows)) (i : Nat) (hi : i ≤ rows.length) : Rep w S (.slice (some ⟨b, off + i * k, none⟩) (n - i) (c - i)) (.sl k (rows.drop i)) := by
 cases h with
 | nil =>
  obtain rfl : i = 0 := by simpa using hi
  exact .nil
 | sl u hb hS hc hk hl hcell hrep =>
  have := Rep.sl (rows := rows.drop i) (off := off + i * k) (cap := c - i) (fun j q => u (i + j) q) hb hS (by rw [List.length_drop]; omega) hk (fun row hr => hl row (List.mem_of_mem_drop hr)) (fun j q hj hq => by
   have h1 := hcell (i + j) q (by rw [List.length_drop] at hj; omega) hq
   rw [← h1, Nat.add_mul]
   congr 1
   omega) (fun j q row d hj hd => hrep (i + j) q row d (by rw [List.getElem?_drop] at hj; exact hj) hd)
  rwa [List.length_drop] at this
theorem Rep.takeM {β : Type} {enc : β → List D} {l : List β} {w : World} {S : Nat → Prop} {a : Option Addr} {n c k : Nat} (h : Rep w S (.slice a n c) (.sl k (l.map enc))) (i : Nat) (hi : i ≤ l.length) : Rep w S (.slice a i c) (.sl k ((l.take i).map enc)) := by
 rw [List.map_take]
 exact h.takeS i (by rw [List.length_map]; exact hi)
theorem Rep.dropM {β : Type} {enc : β → List D} {l : List β} {w : World} {S : Nat → Prop} {b off n c k : Nat} (h : Rep w S (.slice (some ⟨b, off, none⟩) n c) (.sl k (l.map enc))) (i : Nat) (hi : i ≤ l.length) : Rep w S (.slice (some ⟨b, off + i * k, none⟩) (n - i) (c - i)) (.sl k ((l.drop i).map enc)) := by
 rw [List.map_drop]
 exact h.dropS i (by rw [List.length_map]; exact hi)
theorem Rep.cap {w : World} {S : Nat → Prop} {a : Option Addr} {n c k : Nat} {rows : List (List D)} (h : Rep w S (.slice a n c) (.sl k rows)) : n ≤ c := by
 cases h with
 | nil => exact Nat.zero_le _
 | sl u hb hS hc => exact hc
theorem bytesLess_eq : ∀ a b : List UInt8, Op.bytesLess a b = decide (a < b)
 | _, [] => by simp [Op.bytesLess]
 | [], _ :: _ => by simp [Op.bytesLess]
 | a :: x, b :: y => by
  rw [Op.bytesLess, bytesLess_eq x y, Bool.eq_iff_iff]
  simp only [Bool.or_eq_true, Bool.and_eq_true, decide_eq_true_eq, beq_iff_eq, List.cons_lt_cons_iff]
theorem bytesLess_b (a b : ByteArray) : Op.bytesLess a.toList b.toList = bLt a b := bytesLess_eq _ _
def GoodS (a : Option Addr) (c : Nat) : Prop := (a = none ∧ c = 0) ∨ ∃ b off, a = some ⟨b, off, none⟩
theorem acc_good {w : World} {S : Nat → Prop} {fp : List Nat} {v : Value} {e k : Nat} {rows : List (List D)} (hP : (cAcc v e k rows).P w S fp) : ∃ a c, v = .slice a rows.length c ∧ GoodS a c := by
 obtain ⟨_, hP⟩ := hP
 rcases hP with ⟨h1, h2, _⟩ | ⟨g, cap, cur, xs, h2, _⟩
 ·subst h1
  exact ⟨none, 0, h2, .inl ⟨rfl, rfl⟩⟩
 ·exact ⟨some ⟨g, 0, none⟩, cap, h2, .inr ⟨g, 0, rfl⟩⟩
theorem St.accgood {n : Nat} {E : Env} {h r : List (Nat × Obj)} {F : List (List Nat × World)} {S0 : Nat → Prop} {C0 : List Chunk} {G0 : List (Value × D)} {ac : Act} {w : World} (s : St n E h r F ⟨S0, C0, G0⟩ ac w) (q : Nat) {a : Option Addr} {m c e k : Nat} {rows : List (List D)} (hq : C0[q]? = some (cAcc (.slice a m c) e k rows)) : GoodS a c := by
 obtain ⟨_, s⟩ := s
 obtain ⟨_, _, hP⟩ := s.gh.chs.at hq
 obtain ⟨a', c', he, hg⟩ := acc_good hP
 simp only [Value.slice.injEq] at he
 obtain ⟨rfl, _, rfl⟩ := he
 exact hg
theorem goneB_snoc (p : List DoneT) (y : DoneT) (t : ByteArray) (d : DotT) : goneB (p ++ [y]) t d = (goneB p t d || (y.o.remove && (decide (y.o.text = t) && decide (d ∈ y.o.dots)))) := by
 simp [goneB]
end Go.Sx
namespace Go.Proofs.YtpjkiomccpjboaaGreatDoor
open Go Go.Sx
theorem eqRun_eql_65 {x y : Operand} {a b c a' b' c' : Int} : eqRun Tryz.prog .eql 65 x y (.agg #[.int .i64 a, .int .i64 b, .int .i64 c]) (.agg #[.int .i64 a', .int .i64 b', .int .i64 c']) (.bool (decide (a = a' ∧ b = b' ∧ c = c'))) := fun w => by
 have h : (Op.equal 65 (.agg #[.int .i64 a, .int .i64 b, .int .i64 c]) (.agg #[.int .i64 a', .int .i64 b', .int .i64 c'])).run Tryz.prog w = .ok (decide (a = a' ∧ b = b' ∧ c = c')) w := eqDot 9998 a b c a' b' c' w
 refine ⟨?_, by simp only [binOp, Sem.run_bind, h, Result.andThen_ok, Sem.run_pure]⟩
 have hg : Tryz.prog.eqGuardType Tryz.prog.depth 65 = false := by kernel_rfl
 simp [eqGuard, hg]
theorem rLive {w : World} {S : Nat → Prop} {a : Option Addr} {n c : Nat} {l : List DoneT} {x : DoneT} {v : Value} (h : Rep w S (.slice a n c) (.sl 11 (l.map eDone))) (hl : l.length ≤ 4000000) (hdl : ∀ y ∈ l, y.o.dots.length ≤ 1000000) (ov : v.oneCell' = true) :
  Calls Tryz.prog 71 #[.slice a n c, doneA x v] w fun e w' => Ret [] w S w' e (.bool (!x.o.remove && !goneB l x.o.text x.d)) [] [] := by
 have e1 := h.slen
 rw [List.length_map] at e1
 subst e1
 refine ep71 (args := [.slice a l.length c, doneA x v]) (S := S) (G := [(_, .sl 11 (l.map eDone))]) (by kernel_rfl) (.cons h (.nil _ _)) ?_
 refine Sq mixed [.wr 0 [] 0, zR 1] [] [0, 3, 4] (fun nu1 => [zS 0 a l.length c, zP 3 (nu1 0), zB 4 false]) (fun nu1 => [(nu1 0, .cells #[nI x.o.no, .string x.o.key, nI x.o.kind, .string x.o.text, nI x.o.n, .bool x.o.remove, v, nI x.d.place, nI x.d.time, nI x.d.no, nI x.w] 126 (0, 0))]) (fun nu1 => ?_)
 refine J_seq ?_
 refine Sq mixed [zR 0] [] [0, 3, 4, 5] (fun _ => [zS 0 a l.length c, zP 3 (nu1 0), zB 4 false, zI 5 0]) (fun _ => [(nu1 0, .cells #[nI x.o.no, .string x.o.key, nI x.o.kind, .string x.o.text, nI x.o.n, .bool x.o.remove, v, nI x.d.place, nI x.d.time, nI x.d.no, nI x.w] 126 (0, 0))]) (fun _ => ?_)
 refine J_block ?_
 refine J_loopx (fun i : Int => [zS 0 a l.length c, zP 3 (nu1 0), zB 4 false, zI 5 i]) (fun i : Int => [(nu1 0, .cells #[nI x.o.no, .string x.o.key, nI x.o.kind, .string x.o.text, nI x.o.n, .bool x.o.remove, v, nI x.d.place, nI x.d.time, nI x.d.no, nI x.w] 126 (0, 0))]) (fun i : Int => []) (fun i : Int => [(.slice a l.length c, (D.sl 11 (List.map eDone l)))]) (fun i : Int => (l.length - i).toNat) (fun i : Int => (0 ≤ i ∧ i ≤ l.length ∧ goneB (l.take i.toNat) x.o.text x.d = false)) 0 [0, 3, 4, 5] [0] [] [0] ?_ (by kernel_rfl) rfl rfl rfl ?_
 ·exact ⟨by simp, by simp, rfl⟩
 rintro i ⟨hi0, hi, hno⟩
 refine J_seq ?_
 refine Sq mixed [zR 0, zR 1, zR 2, zR 3] [] [0, 3, 4, 5, 10] (fun _ => [zS 0 a l.length c, zP 3 (nu1 0), zB 4 false, zI 5 i, zB 10 (decide (i < (↑l.length : Int)))]) (fun _ => [(nu1 0, .cells #[nI x.o.no, .string x.o.key, nI x.o.kind, .string x.o.text, nI x.o.n, .bool x.o.remove, v, nI x.d.place, nI x.d.time, nI x.d.no, nI x.w] 126 (0, 0))]) (fun _ => ?_)
 refine cC (t := decide (i < (↑l.length : Int))) (fun hlt => ?_) (fun hlt => ?_)
 ·have hlt2 : i < l.length := by simpa using hlt
  obtain ⟨y, hy⟩ : ∃ y, l[i.toNat]? = some y := ⟨_, List.getElem?_eq_getElem (by omega)⟩
  have hdy := hdl y (List.mem_of_getElem? hy)
  refine J_read1 0 rfl i.toNat (map_at hy) (by kernel_rfl) (fun b1 off1 cs1 ty1 fz1 a1_0 c1_0 ha1 hrd1 => ?_)
  cases ha1
  have hrd1_0 := rd0 (hrd1 0 _ rfl)
  have hrd1_1 := hrd1 1 _ rfl
  have hrd1_2 := hrd1 2 _ rfl
  have hrd1_3 := hrd1 3 _ rfl
  have hrd1_4 := hrd1 4 _ rfl
  have hrd1_5 := hrd1 5 _ rfl
  have hrd1_6 := hrd1 6 _ rfl
  have hrd1_7 := hrd1 7 _ rfl
  have hrd1_8 := hrd1 8 _ rfl
  have hrd1_9 := hrd1 9 _ rfl
  have hrd1_10 := hrd1 10 _ rfl
  have next : (y.o.remove = true → y.o.text = x.o.text → x.d ∉ y.o.dots) → goneB (l.take (i + 1).toNat) x.o.text x.d = false := fun hh => by
   rw [← take_snoc hi0 hy, goneB_snoc, hno, Bool.false_or]
   cases hr : y.o.remove with
   | false => rfl
   | true =>
    by_cases ht : y.o.text = x.o.text
    ·rw [decide_eq_false (hh hr ht)]
     simp
    ·rw [decide_eq_false ht]
     rfl
  cases hr : y.o.remove with
  | false =>
   try simp only [cAp, nAp, aNl]
   refine J_skip ?_
   refine J_seq ?_
   refine J_block ?_
   refine J_seq ?_
   refine Sp mixed [zR 0, zR 1, .rd 2 [] 0 2, zR 3, zR 4, .rd 5 [.r 0 (some (.bool y.o.remove))] 0 0, .rd 6 [] 0 6, zR 7, .rd 8 [] 1 0, .rd 9 [] 1 0, .rd 10 [] 1 0, .rd 11 [] 1 0, .rd 12 [] 1 0, .rd 13 [] 1 0, .rd 14 [] 1 0, .rd 15 [] 1 0, .rd 16 [] 1 0, .rd 17 [] 1 0, zR 18] [] [0, 3, 4, 5, 31] (fun _ => [zS 0 (sA b1 off1) l.length c, zP 3 (nu1 0), zB 4 false, zI 5 i, zB 31 true]) (fun _ => [(nu1 0, .cells #[nI x.o.no, .string x.o.key, nI x.o.kind, .string x.o.text, nI x.o.n, .bool x.o.remove, v, nI x.d.place, nI x.d.time, nI x.d.no, nI x.w] 126 (0, 0))]) (fun _ => [(0 : Int) ≤ i, i < (↑l.length : Int), cs1[off1 + i.toNat * (11 : Nat) + (5 : Nat)]? = some (Value.bool y.o.remove), (!y.o.remove) = true]) (fun _ => ⟨hi0, hlt2, hrd1_5, by simp; omega, trivial⟩) (fun _ => ?_)
   refine cTt ?_
   refine J_exit rfl ?_
   refine Gp mixed [zR 0, .rd 1 [] 0 1, zR 2] [] [0, 3, 4, 5] (fun _ => [zS 0 (sA b1 off1) l.length c, zP 3 (nu1 0), zB 4 false, zI 5 (i + 1)]) (fun _ => [(nu1 0, .cells #[nI x.o.no, .string x.o.key, nI x.o.kind, .string x.o.text, nI x.o.n, .bool x.o.remove, v, nI x.d.place, nI x.d.time, nI x.d.no, nI x.w] 126 (0, 0))]) (fun _ => [IntKind.i64.wrap (i + (1 : Int)) = i + (1 : Int)]) (fun _ => ⟨wrap_i64 (by omega) (by omega), trivial⟩) (fun _ => ?_)
   refine J_backx (i + 1) [0, 3, 4, 5] [0] [] [0] ?_ ?_ (by kernel_rfl) rfl rfl rfl
   ·exact ⟨by omega, by omega, next fun h1 => by rw [hr] at h1; cases h1⟩
   ·omega
  | true =>
   by_cases ht : y.o.text = x.o.text
   ·have htb : (y.o.text.toList == x.o.text.toList) = true := by rw [strEq, decide_eq_true ht]
    try simp only [cAp, nAp, aNl]
    refine J_skip ?_
    refine J_seq ?_
    refine J_block ?_
    refine J_seq ?_
    refine Sp mixed [zR 0, zR 1, .rd 2 [] 0 2, zR 3, zR 4, .rd 5 [.r 0 (some (.bool y.o.remove))] 0 0, .rd 6 [] 0 7, zR 7, zR 8, zR 9, .rd 10 [] 0 2, zR 11, zR 12, .rd 13 [.r 0 (some (.string y.o.text))] 0 0, zR 14, zR 15, .rd 16 [.o 0 none] 0 0, .rd 17 [] 0 7, zR 18] [] [0, 3, 4, 5, 31] (fun _ => [zS 0 (sA b1 off1) l.length c, zP 3 (nu1 0), zB 4 false, zI 5 i, zB 31 false]) (fun _ => [(nu1 0, .cells #[nI x.o.no, .string x.o.key, nI x.o.kind, .string x.o.text, nI x.o.n, .bool x.o.remove, v, nI x.d.place, nI x.d.time, nI x.d.no, nI x.w] 126 (0, 0))]) (fun _ => [(0 : Int) ≤ i, i < (↑l.length : Int), cs1[off1 + i.toNat * (11 : Nat) + (5 : Nat)]? = some (Value.bool y.o.remove), (!y.o.remove) = false, (0 : Int) ≤ i, i < (↑l.length : Int), cs1[off1 + i.toNat * (11 : Nat) + (3 : Nat)]? = some (Value.string y.o.text), (!y.o.text.toList == x.o.text.toList) = false]) (fun _ => ⟨hi0, hlt2, hrd1_5, by simp; omega, hi0, hlt2, hrd1_3, by simp [*]; done, trivial⟩) (fun _ => ?_)
    refine cF ?_
    refine J_skip ?_
    refine Sq mixed [zR 0] [] [0, 3, 4, 5, 6] (fun _ => [zS 0 (sA b1 off1) l.length c, zP 3 (nu1 0), zB 4 false, zI 5 i, zI 6 0]) (fun _ => [(nu1 0, .cells #[nI x.o.no, .string x.o.key, nI x.o.kind, .string x.o.text, nI x.o.n, .bool x.o.remove, v, nI x.d.place, nI x.d.time, nI x.d.no, nI x.w] 126 (0, 0))]) (fun _ => ?_)
    refine J_block ?_
    refine J_loopx (fun k : Int => [zS 0 (sA b1 off1) l.length c, zP 3 (nu1 0), zB 4 false, zI 5 i, zI 6 k]) (fun k : Int => [(nu1 0, .cells #[nI x.o.no, .string x.o.key, nI x.o.kind, .string x.o.text, nI x.o.n, .bool x.o.remove, v, nI x.d.place, nI x.d.time, nI x.d.no, nI x.w] 126 (0, 0))]) (fun k : Int => []) (fun k : Int => [(.slice (sA b1 off1) l.length c, (D.sl 11 (List.map eDone l))), (.slice (a1_0, c1_0).fst ((List.map eDot y.o.dots).length) c1_0, (D.sl 3 (List.map eDot y.o.dots)))]) (fun k : Int => (y.o.dots.length - k).toNat) (fun k : Int => (0 ≤ k ∧ k ≤ y.o.dots.length ∧ ∀ z ∈ y.o.dots.take k.toNat, x.d ≠ z)) 0 [0, 3, 4, 5, 6] [0] [] [0, 1] ?_ (by kernel_rfl) rfl rfl rfl ?_
    ·exact ⟨by simp, by simp, by simp⟩
    rintro k ⟨hk0, hk, hkn⟩
    refine J_seq ?_
    refine Sp mixed [zR 0, zR 1, zR 2, .rd 3 [] 0 2, zR 4, zR 5, .rd 6 [.r 0 (some (.slice (a1_0, c1_0).fst ((List.map eDot y.o.dots).length) c1_0))] 0 0, zR 7, zR 8] [] [0, 3, 4, 5, 6, 40] (fun _ => [zS 0 (sA b1 off1) l.length c, zP 3 (nu1 0), zB 4 false, zI 5 i, zI 6 k, zB 40 (decide (k < (↑(List.map eDot y.o.dots).length : Int)))]) (fun _ => [(nu1 0, .cells #[nI x.o.no, .string x.o.key, nI x.o.kind, .string x.o.text, nI x.o.n, .bool x.o.remove, v, nI x.d.place, nI x.d.time, nI x.d.no, nI x.w] 126 (0, 0))]) (fun _ => [(0 : Int) ≤ i, i < (↑l.length : Int), cs1[off1 + i.toNat * (11 : Nat) + (6 : Nat)]? = some (Value.slice (a1_0, c1_0).fst (List.map eDot y.o.dots).length (a1_0, c1_0).snd)]) (fun _ => ⟨hi0, hlt2, hrd1_6, trivial⟩) (fun _ => ?_)
    refine cC (t := decide (k < (↑(List.map eDot y.o.dots).length : Int))) (fun hlt1 => ?_) (fun hlt1 => ?_)
    ·have hlt3 : k < y.o.dots.length := by simpa using hlt1
     obtain ⟨z, hz⟩ : ∃ z, y.o.dots[k.toNat]? = some z := ⟨_, List.getElem?_eq_getElem (by omega)⟩
     refine J_read0 1 rfl k.toNat (map_at hz) (by kernel_rfl) (fun b2 off2 cs2 ty2 fz2 ha2 hrd2 => ?_)
     cases ha2
     have hrd2_0 := rd0 (hrd2 0 _ rfl)
     have hrd2_1 := hrd2 1 _ rfl
     have hrd2_2 := hrd2 2 _ rfl
     try simp only [cAp, nAp, aNl]
     refine J_skip ?_
     refine J_seq ?_
     refine J_block ?_
     refine Sp mixed [zR 0, zR 1, .rd 2 [] 0 2, zR 3, zR 4, .rd 5 [.r 0 (some (.slice (sA b2 off2) ((List.map eDot y.o.dots).length) c1_0))] 0 0, zR 6, .rd 7 [] 0 2, .rd 8 [.r 1 (some (nI z.place)), .r 1 (some (nI z.time)), .r 1 (some (nI z.no))] 0 0, zR 9, .rd 10 [.o 0 none, .o 0 none, .o 0 none] 0 0, .rd 11 [.r 0 (some (.bool (decide (z.place = x.d.place ∧ z.time = x.d.time ∧ z.no = x.d.no))))] 0 10] [] [0, 3, 4, 5, 6, 54] (fun _ => [zS 0 (sA b1 off1) l.length c, zP 3 (nu1 0), zB 4 false, zI 5 i, zI 6 k, zB 54 (decide (z.place = x.d.place ∧ z.time = x.d.time ∧ z.no = x.d.no))]) (fun _ => [(nu1 0, .cells #[nI x.o.no, .string x.o.key, nI x.o.kind, .string x.o.text, nI x.o.n, .bool x.o.remove, v, nI x.d.place, nI x.d.time, nI x.d.no, nI x.w] 126 (0, 0))]) (fun _ => [(0 : Int) ≤ i, i < (↑l.length : Int), cs1[off1 + i.toNat * (11 : Nat) + (6 : Nat)]? = some (Value.slice (some (Addr.mk b2 off2 none), c1_0).fst (List.map eDot y.o.dots).length (some (Addr.mk b2 off2 none), c1_0).snd), (0 : Int) ≤ k, k < (↑(List.map eDot y.o.dots).length : Int), cs2[off2 + k.toNat * (3 : Nat)]? = some (nI z.place), cs2[off2 + k.toNat * (3 : Nat) + (1 : Nat)]? = some (nI z.time), cs2[off2 + k.toNat * (3 : Nat) + (2 : Nat)]? = some (nI z.no), eqRun Tryz.prog .eql 65 (Operand.tmp 51) (Operand.tmp 53) (.agg #[nI z.place, nI z.time, nI z.no]) (.agg #[nI x.d.place, nI x.d.time, nI x.d.no]) (.bool (decide (z.place = x.d.place ∧ z.time = x.d.time ∧ z.no = x.d.no)))]) (fun _ => ⟨hi0, hlt2, hrd1_6, hk0, by simp; omega, hrd2_0, hrd2_1, hrd2_2, eqRun_eql_65, trivial⟩) (fun _ => ?_)
     refine cC (t := decide (z.place = x.d.place ∧ z.time = x.d.time ∧ z.no = x.d.no)) (fun he => ?_) (fun he => ?_)
     ·have hzx : z = x.d := by
       simp only [decide_eq_true_eq] at he
       cases z; cases hxd : x.d; simp_all
      have e : (!x.o.remove && !goneB l x.o.text x.d) = false := by
       have : goneB l x.o.text x.d = true := by
        simp only [goneB, List.any_eq_true]
        refine ⟨y, List.mem_of_getElem? hy, ?_⟩
        rw [hr, decide_eq_true ht, decide_eq_true (by rw [← hzx]; exact List.mem_of_getElem? hz)]
        rfl
       rw [this]
       simp
      rw [e]
      refine Sq mixed [zR 0] [] [0, 3, 4, 5, 6] (fun _ => [zS 0 (sA b1 off1) l.length c, zP 3 (nu1 0), zB 4 false, zI 5 i, zI 6 k]) (fun _ => [(nu1 0, .cells #[nI x.o.no, .string x.o.key, nI x.o.kind, .string x.o.text, nI x.o.n, .bool x.o.remove, v, nI x.d.place, nI x.d.time, nI x.d.no, nI x.w] 126 (0, 0))]) (fun _ => ?_)
      refine J_return [[]] (.bool false) (by kernel_rfl) (fun a w s => ?_)
      exact s.ret (by simp) [] [] rfl rfl
     ·have hzx : x.d ≠ z := fun h => by subst h; simp at he
      refine J_skip ?_
      refine J_eb ?_
      refine Gp mixed [zR 0, .rd 1 [] 0 1, zR 2] [] [0, 3, 4, 5, 6] (fun _ => [zS 0 (sA b1 off1) l.length c, zP 3 (nu1 0), zB 4 false, zI 5 i, zI 6 (k + 1)]) (fun _ => [(nu1 0, .cells #[nI x.o.no, .string x.o.key, nI x.o.kind, .string x.o.text, nI x.o.n, .bool x.o.remove, v, nI x.d.place, nI x.d.time, nI x.d.no, nI x.w] 126 (0, 0))]) (fun _ => [IntKind.i64.wrap (k + (1 : Int)) = k + (1 : Int)]) (fun _ => ⟨wrap_i64 (by omega) (by omega), trivial⟩) (fun _ => ?_)
      refine J_backx (k + 1) [0, 3, 4, 5, 6] [0] [] [0, 1] ?_ ?_ (by kernel_rfl) rfl rfl rfl
      ·refine ⟨by omega, by omega, fun q hq => ?_⟩
       rw [← take_snoc hk0 hz, List.mem_append, List.mem_singleton] at hq
       rcases hq with hq | rfl
       ·exact hkn q hq
       ·exact hzx
      ·omega
    ·have hkl : y.o.dots.take k.toNat = y.o.dots := List.take_of_length_le (by simp at hlt1; omega)
     rw [hkl] at hkn
     refine J_exit rfl ?_
     refine J_eb ?_
     refine Gp mixed [zR 0, .rd 1 [] 0 1, zR 2] [] [0, 3, 4, 5, 6] (fun _ => [zS 0 (sA b1 off1) l.length c, zP 3 (nu1 0), zB 4 false, zI 5 (i + 1), zI 6 k]) (fun _ => [(nu1 0, .cells #[nI x.o.no, .string x.o.key, nI x.o.kind, .string x.o.text, nI x.o.n, .bool x.o.remove, v, nI x.d.place, nI x.d.time, nI x.d.no, nI x.w] 126 (0, 0))]) (fun _ => [IntKind.i64.wrap (i + (1 : Int)) = i + (1 : Int)]) (fun _ => ⟨wrap_i64 (by omega) (by omega), trivial⟩) (fun _ => ?_)
     refine J_backx (i + 1) [0, 3, 4, 5] [0] [] [0] ?_ ?_ (by kernel_rfl) rfl rfl rfl
     ·exact ⟨by omega, by omega, next fun _ _ hm => hkn _ hm rfl⟩
     ·omega
   ·have htb : (y.o.text.toList == x.o.text.toList) = false := by rw [strEq, decide_eq_false ht]
    try simp only [cAp, nAp, aNl]
    refine J_skip ?_
    refine J_seq ?_
    refine J_block ?_
    refine J_seq ?_
    refine Sp mixed [zR 0, zR 1, .rd 2 [] 0 2, zR 3, zR 4, .rd 5 [.r 0 (some (.bool y.o.remove))] 0 0, .rd 6 [] 0 7, zR 7, zR 8, zR 9, .rd 10 [] 0 2, zR 11, zR 12, .rd 13 [.r 0 (some (.string y.o.text))] 0 0, zR 14, zR 15, .rd 16 [.o 0 none] 0 0, .rd 17 [] 0 6, zR 18] [] [0, 3, 4, 5, 31] (fun _ => [zS 0 (sA b1 off1) l.length c, zP 3 (nu1 0), zB 4 false, zI 5 i, zB 31 true]) (fun _ => [(nu1 0, .cells #[nI x.o.no, .string x.o.key, nI x.o.kind, .string x.o.text, nI x.o.n, .bool x.o.remove, v, nI x.d.place, nI x.d.time, nI x.d.no, nI x.w] 126 (0, 0))]) (fun _ => [(0 : Int) ≤ i, i < (↑l.length : Int), cs1[off1 + i.toNat * (11 : Nat) + (5 : Nat)]? = some (Value.bool y.o.remove), (!y.o.remove) = false, (0 : Int) ≤ i, i < (↑l.length : Int), cs1[off1 + i.toNat * (11 : Nat) + (3 : Nat)]? = some (Value.string y.o.text), (!y.o.text.toList == x.o.text.toList) = true]) (fun _ => ⟨hi0, hlt2, hrd1_5, by simp; omega, hi0, hlt2, hrd1_3, by simp [*]; done, trivial⟩) (fun _ => ?_)
    refine cTt ?_
    refine J_exit rfl ?_
    refine Gp mixed [zR 0, .rd 1 [] 0 1, zR 2] [] [0, 3, 4, 5] (fun _ => [zS 0 (sA b1 off1) l.length c, zP 3 (nu1 0), zB 4 false, zI 5 (i + 1)]) (fun _ => [(nu1 0, .cells #[nI x.o.no, .string x.o.key, nI x.o.kind, .string x.o.text, nI x.o.n, .bool x.o.remove, v, nI x.d.place, nI x.d.time, nI x.d.no, nI x.w] 126 (0, 0))]) (fun _ => [IntKind.i64.wrap (i + (1 : Int)) = i + (1 : Int)]) (fun _ => ⟨wrap_i64 (by omega) (by omega), trivial⟩) (fun _ => ?_)
    refine J_backx (i + 1) [0, 3, 4, 5] [0] [] [0] ?_ ?_ (by kernel_rfl) rfl rfl rfl
    ·exact ⟨by omega, by omega, next fun _ h2 => absurd h2 ht⟩
    ·omega
 ·have hil : l.take i.toNat = l := List.take_of_length_le (by simp at hlt; omega)
  rw [hil] at hno
  rw [hno]
  refine J_exit rfl ?_
  refine Sq mixed [zR 0, zR 1, .rd 2 [.o 0 none] 0 0, zR 3, zR 4] [] [4] (fun _ => [zB 4 !x.o.remove]) (fun _ => [(nu1 0, .cells #[nI x.o.no, .string x.o.key, nI x.o.kind, .string x.o.text, nI x.o.n, .bool x.o.remove, v, nI x.d.place, nI x.d.time, nI x.d.no, nI x.w] 126 (0, 0))]) (fun _ => ?_)
  refine J_return [[]] (.bool !x.o.remove) (by kernel_rfl) (fun a w s => ?_)
  have e : (!x.o.remove && !false) = !x.o.remove := by simp
  rw [e]
  exact s.ret (by simp) [] [] rfl rfl
theorem rEnter {w : World} {S : Nat → Prop} {a : Option Addr} {n c : Nat} {l : List ByteArray} {t : ByteArray} (h : Rep w S (.slice a n c) (dStrs l)) (hl : l.length ≤ 4000000) (hg : GoodS a c) :
  Calls Tryz.prog 72 #[.slice a n c, .string t] w fun e w' => ∃ ua un uc, Ret [] w S w' e (.slice ua un uc) [] [(.slice ua un uc, dStrs (enterB l t))] ∧ GoodS ua uc := by
 have e1 := h.slen
 rw [List.length_map] at e1
 subst e1
 refine ep72 (args := [.slice a l.length c, .string t]) (S := S) (G := [(_, dStrs l)]) (by kernel_rfl) (.cons h (.nil _ _)) ?_
 refine Sq mixed [zR 0] [] [0, 1, 4] (fun _ => [zS 0 a l.length c, zV 1 (.string t), zS 4 none 0 0]) (fun _ => []) (fun _ => ?_)
 refine Sq mixed [zR 0] [] [0, 1, 4, 5] (fun _ => [zS 0 a l.length c, zV 1 (.string t), zS 4 none 0 0, zI 5 0]) (fun _ => []) (fun _ => ?_)
 refine J_seq ?_
 refine J_block ?_
 refine J_loopx (fun k : Int => [zS 0 a l.length c, zV 1 (.string t), zS 4 none 0 0, zI 5 k]) (fun k : Int => []) (fun k : Int => []) (fun k : Int => [(.slice a l.length c, (dStrs l))]) (fun k : Int => (l.length - k).toNat) (fun k : Int => (0 ≤ k ∧ k ≤ l.length ∧ ∀ y ∈ l.take k.toNat, bLt y t = true)) 0 [0, 1, 4, 5] [] [] [0] ?_ (by kernel_rfl) rfl rfl rfl ?_
 ·exact ⟨by simp, by simp, by simp⟩
 rintro k ⟨hk0, hk, hkn⟩
 have hcap := h.cap
 by_cases hlt : k < l.length
 ·obtain ⟨x, hx⟩ : ∃ x, l[k.toNat]? = some x := ⟨_, List.getElem?_eq_getElem (by omega)⟩
  refine J_read0 0 rfl k.toNat (map_at hx) (by kernel_rfl) (fun b1 off1 cs1 ty1 fz1 ha1 hrd1 => ?_)
  cases ha1
  have hrd1_0 := rd0 (hrd1 0 _ rfl)
  cases hb : bLt x t with
  | true =>
   have hb2 : Op.bytesLess x.toList t.toList = true := by rw [bytesLess_b, hb]
   try simp only [cAp, nAp, aNl]
   refine J_seq ?_
   refine Sp mixed [zR 0, zR 1, zR 2, .rd 3 [] 0 6, zR 4, zR 5, zR 6, .rd 7 [] 0 2, .rd 8 [.r 0 (some (.string x))] 0 0, zR 9, .rd 10 [] 0 6, zR 11] [] [0, 1, 4, 5, 18] (fun _ => [zS 0 (sA b1 off1) l.length c, zV 1 (.string t), zS 4 none 0 0, zI 5 k, zB 18 true]) (fun _ => []) (fun _ => [decide (k < (↑l.length : Int)) = true, (0 : Int) ≤ k, k < (↑l.length : Int), cs1[off1 + k.toNat * (1 : Nat)]? = some (Value.string x), Op.bytesLess x.toList t.toList = true]) (fun _ => ⟨by simp; omega, hk0, hlt, hrd1_0, by assumption, trivial⟩) (fun _ => ?_)
   refine cTt ?_
   refine J_skip ?_
   refine J_block ?_
   refine Gp mixed [zR 0, .rd 1 [] 0 1, zR 2] [] [0, 1, 4, 5] (fun _ => [zS 0 (sA b1 off1) l.length c, zV 1 (.string t), zS 4 none 0 0, zI 5 (k + 1)]) (fun _ => []) (fun _ => [IntKind.i64.wrap (k + (1 : Int)) = k + (1 : Int)]) (fun _ => ⟨wrap_i64 (by omega) (by omega), trivial⟩) (fun _ => ?_)
   refine J_eb ?_
   refine J_backx (k + 1) [0, 1, 4, 5] [] [] [0] ?_ ?_ (by kernel_rfl) rfl rfl rfl
   ·refine ⟨by omega, by omega, fun y hy => ?_⟩
    rw [← take_snoc hk0 hx, List.mem_append, List.mem_singleton] at hy
    rcases hy with hy | rfl
    ·exact hkn y hy
    ·exact hb
   ·omega
  | false =>
   have hb2 : Op.bytesLess x.toList t.toList = false := by rw [bytesLess_b, hb]
   have hen := enterB_at (s := t) (k := k.toNat) hkn fun y hy => by rw [hx] at hy; cases hy; exact hb
   by_cases hxt : x = t
   ·have hq : (x.toList == t.toList) = true := by rw [strEq, decide_eq_true hxt]
    try simp only [cAp, nAp, aNl]
    refine J_seq ?_
    refine Sp mixed [zR 0, zR 1, zR 2, .rd 3 [] 0 6, zR 4, zR 5, zR 6, .rd 7 [] 0 2, .rd 8 [.r 0 (some (.string x))] 0 0, zR 9, .rd 10 [] 0 7, zR 11] [] [0, 1, 4, 5, 18] (fun _ => [zS 0 (sA b1 off1) l.length c, zV 1 (.string t), zS 4 none 0 0, zI 5 k, zB 18 false]) (fun _ => []) (fun _ => [decide (k < (↑l.length : Int)) = true, (0 : Int) ≤ k, k < (↑l.length : Int), cs1[off1 + k.toNat * (1 : Nat)]? = some (Value.string x), Op.bytesLess x.toList t.toList = false]) (fun _ => ⟨by simp; omega, hk0, hlt, hrd1_0, by assumption, trivial⟩) (fun _ => ?_)
    refine cF ?_
    refine J_exit rfl ?_
    refine J_seq ?_
    refine Sp mixed [zR 0, zR 1, zR 2, .rd 3 [] 0 6, zR 4, zR 5, zR 6, .rd 7 [] 0 2, .rd 8 [.r 0 (some (.string x))] 0 0, zR 9, .rd 10 [] 0 6, zR 11] [] [0, 1, 4, 5, 32] (fun _ => [zS 0 (sA b1 off1) l.length c, zV 1 (.string t), zS 4 none 0 0, zI 5 k, zB 32 true]) (fun _ => []) (fun _ => [decide (k < (↑l.length : Int)) = true, (0 : Int) ≤ k, k < (↑l.length : Int), cs1[off1 + k.toNat * (1 : Nat)]? = some (Value.string x), (x.toList == t.toList) = true]) (fun _ => ⟨by simp; omega, hk0, hlt, hrd1_0, by assumption, trivial⟩) (fun _ => ?_)
    refine cTt ?_
    refine Sq mixed [zR 0, zR 1] [] [0, 1, 4, 5] (fun _ => [zS 0 (sA b1 off1) l.length c, zV 1 (.string t), zS 4 (sA b1 off1) l.length c, zI 5 k]) (fun _ => []) (fun _ => ?_)
    refine J_return [[]] (.slice (some (⟨b1, off1, none⟩)) l.length c) (by kernel_rfl) (fun a w s => ?_)
    rw [hen, if_pos (by rw [hx, hxt])]
    exact ⟨_, _, _, s.ret (by simp) [] [0] rfl rfl, .inr ⟨_, _, rfl⟩⟩
   ·have hq : (x.toList == t.toList) = false := by rw [strEq, decide_eq_false hxt]
    rw [if_neg (by rw [hx]; exact fun hc => hxt (Option.some.inj hc))] at hen
    rw [hen, show l.take k.toNat ++ t :: l.drop k.toNat = l.take k.toNat ++ [t] ++ l.drop k.toNat by simp]
    try simp only [cAp, nAp, aNl]
    refine J_seq ?_
    refine Sp mixed [zR 0, zR 1, zR 2, .rd 3 [] 0 6, zR 4, zR 5, zR 6, .rd 7 [] 0 2, .rd 8 [.r 0 (some (.string x))] 0 0, zR 9, .rd 10 [] 0 7, zR 11] [] [0, 1, 4, 5, 18] (fun _ => [zS 0 (sA b1 off1) l.length c, zV 1 (.string t), zS 4 none 0 0, zI 5 k, zB 18 false]) (fun _ => []) (fun _ => [decide (k < (↑l.length : Int)) = true, (0 : Int) ≤ k, k < (↑l.length : Int), cs1[off1 + k.toNat * (1 : Nat)]? = some (Value.string x), Op.bytesLess x.toList t.toList = false]) (fun _ => ⟨by simp; omega, hk0, hlt, hrd1_0, by assumption, trivial⟩) (fun _ => ?_)
    refine cF ?_
    refine J_exit rfl ?_
    refine J_seq ?_
    refine Sp mixed [zR 0, zR 1, zR 2, .rd 3 [] 0 6, zR 4, zR 5, zR 6, .rd 7 [] 0 2, .rd 8 [.r 0 (some (.string x))] 0 0, zR 9, .rd 10 [] 0 7, zR 11] [] [0, 1, 4, 5, 32] (fun _ => [zS 0 (sA b1 off1) l.length c, zV 1 (.string t), zS 4 none 0 0, zI 5 k, zB 32 false]) (fun _ => []) (fun _ => [decide (k < (↑l.length : Int)) = true, (0 : Int) ≤ k, k < (↑l.length : Int), cs1[off1 + k.toNat * (1 : Nat)]? = some (Value.string x), (x.toList == t.toList) = false]) (fun _ => ⟨by simp; omega, hk0, hlt, hrd1_0, by assumption, trivial⟩) (fun _ => ?_)
    refine cF ?_
    refine J_skip ?_
    refine Sq mixed [zR 0] [] [0, 1, 4, 5, 6] (fun _ => [zS 0 (sA b1 off1) l.length c, zV 1 (.string t), zS 4 none 0 0, zI 5 k, zS 6 none 0 0]) (fun _ => []) (fun _ => ?_)
    refine J_seq ?_
    refine J_stp (stp_fact fun w S H => (H (_, _) (List.mem_of_getElem? (i := 0) rfl)).takeM k.toNat (by omega)) ?_
    refine J_stp (stp_accm eS 9 1) ?_
    refine J_norm (C' := [cAcc (.slice none 0 0) 9 1 (List.map eS [])]) (G' := [(.slice (some (⟨b1, off1, none⟩)) l.length c, (dStrs l)), (.slice (some (⟨b1, off1, none⟩)) k.toNat c, (D.sl 1 (List.map eS (List.take k.toNat l))))]) (by kernel_rfl) (by kernel_rfl) ?_
    refine jB mixed [(0, true), (1, true), (2, true), (3, true), (4, false), (5, true)] [] ?_
    refine Gs (id := 7) (rest := [(4, false), (5, true)]) [zR 0, zR 1, zR 2, .rd 3 [] 0 4] [0, 1, 4, 5, 6, 34, 37] (fun _ => [zS 0 (sA b1 off1) l.length c, zV 1 (.string t), zS 4 none 0 0, zI 5 k, zS 6 none 0 0, zS 34 none 0 0, zS 37 (sA b1 off1) k.toNat c]) (fun _ => []) (fun _ => [(0 : Int) ≤ k, k ≤ (↑c : Int)]) (fun _ => ⟨hk0, by omega, trivial⟩) (fun _ => ?_)
    refine JR_appm 0 45 9 1 16 (.string (ByteArray.mk #[])) (a0 := none) (len := 0) (cap0 := 0) (ax := (some (⟨b1, off1, none⟩))) (m := k.toNat) (c := c) (dst := (some 38)) (List.take k.toNat l) (by kernel_rfl) (by kernel_rfl) (by kernel_rfl) (by kernel_rfl) rfl (by decide) rfl (fun _ _ _ s => src_fact s 1 rfl (by decide)) (by simp only [maxLen]; omega) (by omega) (fun av1 cv1 => ?_)
    rw [Nat.zero_add]
    try simp only [cAp, nAp, aNl]
    refine Gr (id := 7) (rest := []) [zR 5] [0, 1, 4, 5, 6] (fun _ => [zS 0 (sA b1 off1) l.length c, zV 1 (.string t), zS 4 none 0 0, zI 5 k, zS 6 av1 k.toNat cv1]) (fun _ => []) (fun _ => ?_)
    try simp only [cAp, nAp, aNl]
    refine JR_end ?_
    try simp only [cAp, nAp, aNl]
    refine J_seq ?_
    try simp only [cAp, nAp, aNl]
    refine jB mixed [(0, true), (1, true), (2, false), (3, false), (4, true)] [] ?_
    refine Gr (id := 8) (rest := [(3, false), (4, true)]) [zR 0, zR 1, .wr 2 [] 0] [0, 4, 5, 6, 39, 41] (fun nu1 => [zS 0 (sA b1 off1) l.length c, zS 4 none 0 0, zI 5 k, zS 6 av1 k.toNat cv1, zS 39 av1 k.toNat cv1, zS 41 (sA (nu1 0) 0) 1 1]) (fun nu1 => [(nu1 0, .cells #[.string t] 9 (0, 0))]) (fun nu1 => ?_)
    refine JR_appm 0 45 9 1 16 (.string (ByteArray.mk #[])) (a0 := av1) (len := k.toNat) (cap0 := cv1) (ax := (some (⟨nu1 0, 0, none⟩))) (m := 1) (c := 1) (dst := (some 42)) [t] (by kernel_rfl) (by kernel_rfl) (by kernel_rfl) (by kernel_rfl) rfl (by decide) rfl (fun _ _ _ s => src_one s 0 rfl rfl ⟨.inl ⟨rfl, rfl⟩, trivial⟩) (by simp only [maxLen]; omega) (by omega) (fun av2 cv2 => ?_)
    try simp only [cAp, nAp, aNl]
    refine Gr (id := 8) (rest := []) [zR 4] [0, 4, 5, 6] (fun _ => [zS 0 (sA b1 off1) l.length c, zS 4 none 0 0, zI 5 k, zS 6 av2 (k.toNat + 1) cv2]) (fun _ => [(nu1 0, .cells #[.string t] 9 (0, 0))]) (fun _ => ?_)
    try simp only [cAp, nAp, aNl]
    refine JR_end ?_
    try simp only [cAp, nAp, aNl]
    refine J_seq ?_
    try simp only [cAp, nAp, aNl]
    refine J_stp (stp_fact fun w S H => (H (_, _) (List.mem_of_getElem? (i := 0) rfl)).dropM k.toNat (by omega)) ?_
    refine J_norm (C' := [cAcc (.slice av2 (k.toNat + 1) cv2) 9 1 (List.map eS (List.take k.toNat l ++ [t]))]) (G' := [(.slice (some (⟨b1, off1, none⟩)) l.length c, (dStrs l)), (.slice (some (⟨b1, off1, none⟩)) k.toNat c, (D.sl 1 (List.map eS (List.take k.toNat l)))), (.slice (some (⟨b1, off1 + k.toNat * 1, none⟩)) (l.length - k.toNat) (c - k.toNat), (D.sl 1 (List.map eS (List.drop k.toNat l))))]) (by kernel_rfl) (by kernel_rfl) ?_
    refine jB mixed [(0, true), (1, true), (2, true), (3, true), (4, false), (5, true)] [] ?_
    refine Gs (id := 9) (rest := [(4, false), (5, true)]) [zR 0, zR 1, zR 2, .rd 3 [] 0 4] [4, 43, 46] (fun _ => [zS 4 none 0 0, zS 43 av2 (k.toNat + 1) cv2, zS 46 (sA b1 (off1 + k.toNat * 1)) (l.length - k.toNat) (c - k.toNat)]) (fun _ => [(nu1 0, .cells #[.string t] 9 (0, 0))]) (fun _ => [(0 : Int) ≤ k, k ≤ (↑l.length : Int), k < (↑c : Int)]) (fun _ => ⟨hk0, hk, by omega, trivial⟩) (fun _ => ?_)
    refine JR_appm 0 45 9 1 16 (.string (ByteArray.mk #[])) (a0 := av2) (len := k.toNat + 1) (cap0 := cv2) (ax := (some (⟨b1, off1 + k.toNat * 1, none⟩))) (m := l.length - k.toNat) (c := c - k.toNat) (dst := (some 47)) (List.drop k.toNat l) (by kernel_rfl) (by kernel_rfl) (by kernel_rfl) (by kernel_rfl) rfl (by decide) rfl (fun _ _ _ s => src_fact s 2 rfl (by decide)) (by simp only [maxLen]; omega) (by omega) (fun av3 cv3 => ?_)
    try simp only [cAp, nAp, aNl]
    refine Gr (id := 9) (rest := []) [zR 5] [4] (fun _ => [zS 4 av3 (k.toNat + 1 + (l.length - k.toNat)) cv3]) (fun _ => [(nu1 0, .cells #[.string t] 9 (0, 0))]) (fun _ => ?_)
    try simp only [cAp, nAp, aNl]
    refine JR_end ?_
    try simp only [cAp, nAp, aNl]
    refine J_return [[]] (.slice av3 (k.toNat + 1 + (l.length - k.toNat)) cv3) (by kernel_rfl) (fun a w s => ?_)
    have hga := s.accgood 0 rfl
    exact ⟨_, _, _, (s.stp (stp_freeze 0 rfl)).ret (by simp) [] [3] rfl rfl, hga⟩
 ·have hen := enterB_at (l := l) (s := t) (k := k.toNat) hkn fun y hy => by
   have := (List.getElem?_eq_some_iff.1 hy).1
   omega
  rw [if_neg (by rw [List.getElem?_eq_none (by omega)]; simp)] at hen
  rw [hen, show l.take k.toNat ++ t :: l.drop k.toNat = l.take k.toNat ++ [t] ++ l.drop k.toNat by simp]
  refine J_seq ?_
  refine Sp mixed [zR 0, zR 1, zR 2, .rd 3 [] 0 7, zR 4, .rd 5 [] 1 0, .rd 6 [] 1 0, .rd 7 [] 1 0, .rd 8 [] 1 0, .rd 9 [] 1 0, .rd 10 [] 1 0, zR 11] [] [0, 1, 4, 5, 18] (fun _ => [zS 0 a l.length c, zV 1 (.string t), zS 4 none 0 0, zI 5 k, zB 18 false]) (fun _ => []) (fun _ => [decide (k < (↑l.length : Int)) = false]) (fun _ => ⟨by simp; omega, trivial⟩) (fun _ => ?_)
  refine cF ?_
  refine J_exit rfl ?_
  refine J_seq ?_
  refine Sp mixed [zR 0, zR 1, zR 2, .rd 3 [] 0 7, zR 4, .rd 5 [] 1 0, .rd 6 [] 1 0, .rd 7 [] 1 0, .rd 8 [] 1 0, .rd 9 [] 1 0, .rd 10 [] 1 0, zR 11] [] [0, 1, 4, 5, 32] (fun _ => [zS 0 a l.length c, zV 1 (.string t), zS 4 none 0 0, zI 5 k, zB 32 false]) (fun _ => []) (fun _ => [decide (k < (↑l.length : Int)) = false]) (fun _ => ⟨by simp; omega, trivial⟩) (fun _ => ?_)
  refine cF ?_
  refine J_skip ?_
  refine Sq mixed [zR 0] [] [0, 1, 4, 5, 6] (fun _ => [zS 0 a l.length c, zV 1 (.string t), zS 4 none 0 0, zI 5 k, zS 6 none 0 0]) (fun _ => []) (fun _ => ?_)
  refine J_seq ?_
  refine J_stp (stp_fact fun w S H => (H (_, _) (List.mem_of_getElem? (i := 0) rfl)).takeM k.toNat (by omega)) ?_
  refine J_stp (stp_accm eS 9 1) ?_
  refine J_norm (C' := [cAcc (.slice none 0 0) 9 1 (List.map eS [])]) (G' := [(.slice a l.length c, (dStrs l)), (.slice a k.toNat c, (D.sl 1 (List.map eS (List.take k.toNat l))))]) (by kernel_rfl) (by kernel_rfl) ?_
  refine jB mixed [(0, true), (1, true), (2, true), (3, true), (4, false), (5, true)] [] ?_
  refine Gs (id := 7) (rest := [(4, false), (5, true)]) [zR 0, zR 1, zR 2, .rd 3 [] 0 4] [0, 1, 4, 5, 6, 34, 37] (fun _ => [zS 0 a l.length c, zV 1 (.string t), zS 4 none 0 0, zI 5 k, zS 6 none 0 0, zS 34 none 0 0, zS 37 a k.toNat c]) (fun _ => []) (fun _ => [(0 : Int) ≤ k, k ≤ (↑c : Int)]) (fun _ => ⟨hk0, by omega, trivial⟩) (fun _ => ?_)
  refine JR_appm 0 45 9 1 16 (.string (ByteArray.mk #[])) (a0 := none) (len := 0) (cap0 := 0) (ax := a) (m := k.toNat) (c := c) (dst := (some 38)) (List.take k.toNat l) (by kernel_rfl) (by kernel_rfl) (by kernel_rfl) (by kernel_rfl) rfl (by decide) rfl (fun _ _ _ s => src_fact s 1 rfl (by decide)) (by simp only [maxLen]; omega) (by omega) (fun av1 cv1 => ?_)
  rw [Nat.zero_add]
  try simp only [cAp, nAp, aNl]
  refine Gr (id := 7) (rest := []) [zR 5] [0, 1, 4, 5, 6] (fun _ => [zS 0 a l.length c, zV 1 (.string t), zS 4 none 0 0, zI 5 k, zS 6 av1 k.toNat cv1]) (fun _ => []) (fun _ => ?_)
  try simp only [cAp, nAp, aNl]
  refine JR_end ?_
  try simp only [cAp, nAp, aNl]
  refine J_seq ?_
  try simp only [cAp, nAp, aNl]
  refine jB mixed [(0, true), (1, true), (2, false), (3, false), (4, true)] [] ?_
  refine Gr (id := 8) (rest := [(3, false), (4, true)]) [zR 0, zR 1, .wr 2 [] 0] [0, 4, 5, 6, 39, 41] (fun nu1 => [zS 0 a l.length c, zS 4 none 0 0, zI 5 k, zS 6 av1 k.toNat cv1, zS 39 av1 k.toNat cv1, zS 41 (sA (nu1 0) 0) 1 1]) (fun nu1 => [(nu1 0, .cells #[.string t] 9 (0, 0))]) (fun nu1 => ?_)
  refine JR_appm 0 45 9 1 16 (.string (ByteArray.mk #[])) (a0 := av1) (len := k.toNat) (cap0 := cv1) (ax := (some (⟨nu1 0, 0, none⟩))) (m := 1) (c := 1) (dst := (some 42)) [t] (by kernel_rfl) (by kernel_rfl) (by kernel_rfl) (by kernel_rfl) rfl (by decide) rfl (fun _ _ _ s => src_one s 0 rfl rfl ⟨.inl ⟨rfl, rfl⟩, trivial⟩) (by simp only [maxLen]; omega) (by omega) (fun av2 cv2 => ?_)
  try simp only [cAp, nAp, aNl]
  refine Gr (id := 8) (rest := []) [zR 4] [0, 4, 5, 6] (fun _ => [zS 0 a l.length c, zS 4 none 0 0, zI 5 k, zS 6 av2 (k.toNat + 1) cv2]) (fun _ => [(nu1 0, .cells #[.string t] 9 (0, 0))]) (fun _ => ?_)
  try simp only [cAp, nAp, aNl]
  refine JR_end ?_
  try simp only [cAp, nAp, aNl]
  refine J_seq ?_
  try simp only [cAp, nAp, aNl]
  have hkl : k = l.length := by omega
  have hnil : ∀ w S, Rep w S (.slice a 0 0) (dStrs (l.drop k.toNat)) := fun w S => by
   rw [List.drop_of_length_le (by omega)]
   exact .nil
  by_cases hcl : l.length = c
  ·refine J_stp (stp_fact fun w S _ => hnil w S) ?_
   refine J_norm (C' := [cAcc (.slice av2 (k.toNat + 1) cv2) 9 1 (List.map eS (List.take k.toNat l ++ [t]))]) (G' := [(.slice a l.length c, (dStrs l)), (.slice a k.toNat c, (D.sl 1 (List.map eS (List.take k.toNat l)))), (.slice a 0 0, (dStrs (List.drop k.toNat l)))]) (by kernel_rfl) (by kernel_rfl) ?_
   refine jB mixed [(0, true), (1, true), (2, true), (3, true), (4, false), (5, true)] [] ?_
   refine Gs (id := 9) (rest := [(4, false), (5, true)]) [zR 0, zR 1, zR 2, .rd 3 [] 0 5] [4, 43, 46] (fun _ => [zS 4 none 0 0, zS 43 av2 (k.toNat + 1) cv2, zS 46 a 0 0]) (fun _ => [(nu1 0, .cells #[.string t] 9 (0, 0))]) (fun _ => [k = (↑c : Int), l.length = c]) (fun _ => ⟨by omega, hcl, trivial⟩) (fun _ => ?_)
   refine JR_appm 0 45 9 1 16 (.string (ByteArray.mk #[])) (a0 := av2) (len := k.toNat + 1) (cap0 := cv2) (ax := a) (m := 0) (c := 0) (dst := (some 47)) (List.drop k.toNat l) (by kernel_rfl) (by kernel_rfl) (by kernel_rfl) (by kernel_rfl) rfl (by decide) rfl (fun _ _ _ s => src_fact s 2 rfl (by decide)) (by simp only [maxLen]; omega) (by omega) (fun av3 cv3 => ?_)
   try simp only [cAp, nAp, aNl]
   refine Gr (id := 9) (rest := []) [zR 5] [4] (fun _ => [zS 4 av3 (k.toNat + 1) cv3]) (fun _ => [(nu1 0, .cells #[.string t] 9 (0, 0))]) (fun _ => ?_)
   try simp only [cAp, nAp, aNl]
   refine JR_end ?_
   try simp only [cAp, nAp, aNl]
   refine J_return [[]] (.slice av3 (k.toNat + 1) cv3) (by kernel_rfl) (fun a w s => ?_)
   have hga := s.accgood 0 rfl
   exact ⟨_, _, _, (s.stp (stp_freeze 0 rfl)).ret (by simp) [] [3] rfl rfl, hga⟩
  ·rcases hg with ⟨rfl, rfl⟩ | ⟨b, off, rfl⟩
   ·omega
   ·refine J_stp (stp_fact fun w S H => (H (_, _) (List.mem_of_getElem? (i := 0) rfl)).dropM k.toNat (by omega)) ?_
    refine J_norm (C' := [cAcc (.slice av2 (k.toNat + 1) cv2) 9 1 (List.map eS (List.take k.toNat l ++ [t]))]) (G' := [(.slice (some (⟨b, off, none⟩)) l.length c, (dStrs l)), (.slice (some (⟨b, off, none⟩)) k.toNat c, (D.sl 1 (List.map eS (List.take k.toNat l)))), (.slice (some (⟨b, off + k.toNat * 1, none⟩)) (l.length - k.toNat) (c - k.toNat), (D.sl 1 (List.map eS (List.drop k.toNat l))))]) (by kernel_rfl) (by kernel_rfl) ?_
    refine jB mixed [(0, true), (1, true), (2, true), (3, true), (4, false), (5, true)] [] ?_
    refine Gs (id := 9) (rest := [(4, false), (5, true)]) [zR 0, zR 1, zR 2, .rd 3 [] 0 4] [4, 43, 46] (fun _ => [zS 4 none 0 0, zS 43 av2 (k.toNat + 1) cv2, zS 46 (sA b (off + k.toNat * 1)) (l.length - k.toNat) (c - k.toNat)]) (fun _ => [(nu1 0, .cells #[.string t] 9 (0, 0))]) (fun _ => [(0 : Int) ≤ k, k ≤ (↑l.length : Int), k < (↑c : Int)]) (fun _ => ⟨hk0, hk, by omega, trivial⟩) (fun _ => ?_)
    refine JR_appm 0 45 9 1 16 (.string (ByteArray.mk #[])) (a0 := av2) (len := k.toNat + 1) (cap0 := cv2) (ax := (some (⟨b, off + k.toNat * 1, none⟩))) (m := l.length - k.toNat) (c := c - k.toNat) (dst := (some 47)) (List.drop k.toNat l) (by kernel_rfl) (by kernel_rfl) (by kernel_rfl) (by kernel_rfl) rfl (by decide) rfl (fun _ _ _ s => src_fact s 2 rfl (by decide)) (by simp only [maxLen]; omega) (by omega) (fun av3 cv3 => ?_)
    try simp only [cAp, nAp, aNl]
    refine Gr (id := 9) (rest := []) [zR 5] [4] (fun _ => [zS 4 av3 (k.toNat + 1 + (l.length - k.toNat)) cv3]) (fun _ => [(nu1 0, .cells #[.string t] 9 (0, 0))]) (fun _ => ?_)
    try simp only [cAp, nAp, aNl]
    refine JR_end ?_
    try simp only [cAp, nAp, aNl]
    refine J_return [[]] (.slice av3 (k.toNat + 1 + (l.length - k.toNat)) cv3) (by kernel_rfl) (fun a w s => ?_)
    have hga := s.accgood 0 rfl
    exact ⟨_, _, _, (s.stp (stp_freeze 0 rfl)).ret (by simp) [] [3] rfl rfl, hga⟩
end Go.Proofs.YtpjkiomccpjboaaGreatDoor
end
section
namespace Go.Sx
open Go
section fork
variable {P : Program} {ops : Array Oper} {Q : Exit → Act → World → Prop}
theorem yields_det {us us' : List (Nat × Obj)} {o : Oper} {v v' : Value} {a : Act} {w : World} (h : YieldsIf P ops (Hp us) o v a) (h' : YieldsIf P ops (Hp us') o v' a) (hw : Hp us w) (hw' : Hp us' w) : v = v' := by
 rcases h with ⟨h1, h2⟩ | ⟨h1, h2⟩ <;> rcases h' with ⟨h3, h4⟩ | ⟨h3, h4⟩
 ·have := (h2 w hw).symm.trans (h4 w hw')
  simpa using this
 ·rw [h1] at h3; cases h3
 ·rw [h1] at h3; cases h3
 ·rw [h2, h4]
def planF (ops : Array Oper) : Nat → List (Nat × Bool) → List (Nat × Bool) → Array Bool → Bool
 | 0, (i, false) :: r1, (j, false) :: r2, listed => Region.ready .any ops listed == [i, j] && planOk ops r1 (listed.setIfInBounds i true) && planOk ops r2 (listed.setIfInBounds j true)
 | m + 1, (i, true) :: r1, (j, true) :: r2, listed => Nat.beq i j && (Region.ready .any ops listed).contains i && Region.free .any ops listed i && planF ops m r1 r2 (listed.setIfInBounds i true)
 | _, _, _, _ => false
theorem unlisted_after {listed : Array Bool} {i k : Nat} (hk : (listed.setIfInBounds i true).getD k true = false) : i ≠ k ∧ listed.getD k true = false := by
 have hik : i ≠ k := by
  rintro rfl
  rcases Nat.lt_or_ge i listed.size with h' | h'
  ·simp [h'] at hk
  ·simp [h'] at hk
 rw [getD_set_ne true hik] at hk
 exact ⟨hik, hk⟩
theorem step_write (hs : Region.noSelect ops = true) (hQ : ∀ c a d v w, Q (.panic c) (a.put d v) w → Q (.panic c) a w) {B : Nat} (W0 : Nat → Option (List Nat)) {i : Nat} {rest : List (Nat × Bool)} {W : List (Nat × List Nat)} {listed : Array Bool} {a : Act} {w : World}
  (hr : i ∈ Region.ready .any ops listed) (hp : planOk ops rest (listed.setIfInBounds i true) = true) (hdown : Down .any ops listed) (hW : ∀ j, listed.getD j true = false → W.lookup j = W0 j) (h : PW P ops Q B true ((i, false) :: rest) W a w) :
  wpOp P ops Q i (fun a' w' => BG B (W0 i) w w' ∧ wpAnyG P .any ops Q B W0 rest.length (listed.setIfInBounds i true) a' w') a w := by
 have hun : listed.getD i true = false := (mem_ready.1 hr).1
 refine wpOp_mono (fun a' w' hh => ⟨?_, wpAnyG_of_plan hs hQ W0 rest (W.filter (·.1 != i)) _ _ _ hp (hdown.list hr) (fun k hk => ?_) hh.2⟩) h
 ·rw [← hW i hun]; exact hh.1 rfl
 ·obtain ⟨hik, hk2⟩ := unlisted_after hk
  rw [lookup_filter_ne i k (Ne.symm hik)]
  exact hW k hk2
theorem wpAnyG_of_fork (hs : Region.noSelect ops = true) (hQ : ∀ c a d v w, Q (.panic c) (a.put d v) w → Q (.panic c) a w) {B : Nat} (W0 : Nat → Option (List Nat)) :
  ∀ (m : Nat) (q1 q2 : List (Nat × Bool)) (W : List (Nat × List Nat)) (listed : Array Bool) (a : Act) (w : World), planF ops m q1 q2 listed = true → q2.length = q1.length → Down .any ops listed →
   (∀ j, listed.getD j true = false → W.lookup j = W0 j) → PW P ops Q B true q1 W a w → PW P ops Q B true q2 W a w → wpAnyG P .any ops Q B W0 q1.length listed a w
 | 0, (i, false) :: r1, (j, false) :: r2, W, listed, a, w, hp, hl, hdown, hW, h1, h2 => by
  simp only [planF, Bool.and_eq_true, beq_iff_eq] at hp
  obtain ⟨⟨hr, hp1⟩, hp2⟩ := hp
  have hi : i ∈ Region.ready .any ops listed := by rw [hr]; simp
  have hj : j ∈ Region.ready .any ops listed := by rw [hr]; simp
  have hl2 : r2.length = r1.length := by simpa using hl
  refine ⟨fun h0 => absurd h0 (by rw [hr]; simp), fun k hk => ?_⟩
  rw [hr] at hk
  rcases List.mem_cons.1 hk with rfl | hk
  ·exact step_write hs hQ W0 hi hp1 hdown hW h1
  ·obtain rfl := List.mem_singleton.1 hk
   have := step_write hs hQ W0 hj hp2 hdown hW h2
   rw [hl2] at this
   exact this
 | m + 1, (i, true) :: r1, (j, true) :: r2, W, listed, a, w, hp, hl, hdown, hW, h1, h2 => by
  simp only [planF, Bool.and_eq_true] at hp
  obtain ⟨⟨⟨hij, hr⟩, hf⟩, hp'⟩ := hp
  obtain rfl := Nat.eq_of_beq_eq_true hij
  obtain ⟨o, v, us, ho, hy, hS, hd, hrest⟩ := h1
  obtain ⟨o', v', us', ho', hy', hS', _, hrest'⟩ := h2
  rw [ho] at ho'
  cases ho'
  obtain rfl := yields_det hy hy' hS hS'
  refine wpAnyG_first (us := us) ho (Region.noSelect_spec hs) (fun c a w => hQ c a _ v w) r1.length listed a w ?_ hdown (by simpa using hr) hy hS ?_
  ·intro k ok hok hki hun hno
   refine ⟨Region.free_spec ho hf k ok hok hki hun hno, fun l hl => ?_⟩
   rw [← hW k hun] at hl
   exact hd rfl _ (mem_of_lookup hl)
  ·exact wpAnyG_of_fork hs hQ W0 m r1 r2 W _ _ _ hp' (by simpa using hl) (hdown.list (by simpa using hr)) (fun k hk => hW k (unlisted_after hk).2) hrest hrest'
 | 0, [], _, _, _, _, _, hp, _, _, _, _, _ => by simp [planF] at hp
 | 0, (_, true) :: _, _, _, _, _, _, hp, _, _, _, _, _ => by simp [planF] at hp
 | 0, (_, false) :: _, [], _, _, _, _, hp, _, _, _, _, _ => by simp [planF] at hp
 | 0, (_, false) :: _, (_, true) :: _, _, _, _, _, hp, _, _, _, _, _ => by simp [planF] at hp
 | _ + 1, [], _, _, _, _, _, hp, _, _, _, _, _ => by simp [planF] at hp
 | _ + 1, (_, false) :: _, _, _, _, _, _, hp, _, _, _, _, _ => by simp [planF] at hp
 | _ + 1, (_, true) :: _, [], _, _, _, _, hp, _, _, _, _, _ => by simp [planF] at hp
 | _ + 1, (_, true) :: _, (_, false) :: _, _, _, _, _, hp, _, _, _, _, _ => by simp [planF] at hp
def forkOk (ops : Array Oper) (m : Nat) (q1 q2 : List (Nat × Bool)) : Bool :=
 Region.noSelect ops && Nat.beq q1.length ops.size && Nat.beq q2.length q1.length && planF ops m q1 q2 (Array.replicate ops.size false)
theorem wp_region_fork {id : Nat} {a : Act} {w : World} (hm : P.follows .mixedOrders = true) (hQ : ∀ c a d v w, Q (.panic c) (a.put d v) w → Q (.panic c) a w) (m : Nat) (q1 q2 : List (Nat × Bool)) (W : List (Nat × List Nat)) (hok : forkOk ops m q1 q2 = true) {B : Nat}
  (h1 : PW P ops Q B true q1 W a { w with drawn := w.drawn + 1 }) (h2 : PW P ops Q B true q2 W a { w with drawn := w.drawn + 1 }) : (Code.region id ops true).wp P Q a w := by
 simp only [forkOk, Bool.and_eq_true] at hok
 obtain ⟨⟨⟨hs, hl1⟩, hl2⟩, hp⟩ := hok
 have hlen := Nat.eq_of_beq_eq_true hl1
 refine wp_region_any hm (wpAny_of_G (B := B) (W := fun j => W.lookup j) _ _ _ _ ?_)
 rw [← hlen]
 rw [← hlen] at hp
 refine wpAnyG_of_fork hs hQ _ m q1 q2 W _ _ _ hp (Nat.eq_of_beq_eq_true hl2) (fun j o ho hl => ?_) (fun _ _ => rfl) h1 h2
 have hlt := (Array.getElem?_eq_some_iff.1 ho).1
 rw [hlen] at hl
 simp [hlt] at hl
end fork
section rule
variable {P : Program} {f : Func} {R : Act → World → Prop} {n : Nat} {k : List Itm} {E : Env} {h r : List (Nat × Obj)} {F : List (List Nat × World)} {Y : Ghost}
theorem J_fork (hm : P.follows .mixedOrders = true) {id : Nat} (m : Nat) (q1 q2 : List (Nat × Bool)) (Wp : List (Nat × List Nat)) (hok : forkOk (rgOf f id) m q1 q2 = true) (hWp : okWp h.length Wp = true)
  (H1 : JR P f R n (rgOf f id) h.length true q1 Wp k E h r F Y) (H2 : JR P f R n (rgOf f id) h.length true q2 Wp k E h r F Y) : J P f R n (.c (.rg id true) :: k) E h r F Y := fun a w ⟨fps, s⟩ => by
 have key : ∀ {q} (H : JR P f R n (rgOf f id) h.length true q Wp k E h r F Y) w, StF n E h r F Y a w fps → PW P (rgOf f id) (wpK P f R k) w.heap.size true q (idsW fps.flatten h Wp) a w := fun H w s =>
  H w.heap.size fps.flatten fps a w s (fun b hb => .inl hb) ⟨fun i _ x hx => ⟨s.own.own.lt (List.mem_of_getElem? hx), fun hm => s.gh.disj _ hm (List.mem_map.2 ⟨x, List.mem_of_getElem? hx, rfl⟩)⟩, fun x hx => ⟨s.own.ro.lt hx, s.gh.apart x hx⟩, Nat.le_refl _, Nat.le_refl _⟩
   (fun j hj x hx => by rw [List.getElem?_eq_none hj] at hx; cases hx) hWp
 simp only [wpK, Sk.code]
 exact wp_region_fork hm (fun c a d v w hq => absurd hq (wpK_panic _ _ _ _)) m q1 q2 _ hok (key H1 _ s.drew) (key H2 _ s.drew)
end rule
end Go.Sx
end
