/- Part 11 of the texts of a claim: Tx18 Sorted SetP VOf Ref Worth Light OwnT Ver Ref2. -/
import Derived.Test.YtpjkiomccpjboaaGreatDoorShelf
import Derived.Test.YtpjkiomccpjboaaGreatDoorTf10
section
namespace Go.Sx
open Go
def zero (w : World) : World := { w with drawn := 0 }
theorem zero_all {M : List Nat} {w : World} : ∀ f ∈ [(M, zero w)], f.2.drawn = 0 := fun f hf => by
 rw [List.mem_singleton] at hf
 subst hf
 rfl
theorem Rep.zero {w : World} {S : Nat → Prop} {x : Value} {d : D} (h : Rep w S x d) : Rep (zero w) S x d := h.mono fun _ hb _ => ⟨hb, rfl⟩
theorem Fr.zero {M : List Nat} {a b : World} (h : Fr M a b) : Fr M (zero a) b := ⟨h.os, h.tape, h.output, h.size, h.block, Nat.zero_le _⟩
section
variable {P : Program} {f : Func} {R : Act → World → Prop} {n : Nat} {k : List Itm} {E : Env} {h r : List (Nat × Obj)} {F : List (List Nat × World)} {Y : Ghost}
theorem StF.zero {a : Act} {w : World} {fps : List (List Nat)} (s : StF n E h r F Y a w fps) (hz : ∀ f ∈ F, f.2.drawn = 0) : StF n E h r F Y a (Sx.zero w) fps :=
 ⟨s.ag, ⟨s.own.own, s.own.nodup, s.own.ro, s.own.apart⟩, fun f hf => ⟨(s.fr f hf).os, (s.fr f hf).tape, (s.fr f hf).output, (s.fr f hf).size, (s.fr f hf).block, by rw [hz f hf]; exact Nat.zero_le _⟩, s.may,
  ⟨s.gh.chs.mono (fun _ _ => rfl) (fun _ hb _ => ⟨hb, rfl⟩), s.gh.nodup, s.gh.disj, s.gh.apart, s.gh.may, s.gh.lt, s.gh.own, s.gh.hid, s.gh.top, fun x hx => (s.gh.g x hx).zero⟩⟩
theorem J_zero {M : List Nat} {w0 : World} (H : J P f R n k E h r [(M, zero w0)] Y) : J P f R n k E h r [(M, w0)] Y := fun a w ⟨fps, s⟩ =>
 H a w ⟨fps, s.ag, s.own, fun g hg => by
  rw [List.mem_singleton] at hg
  subst hg
  exact (s.fr (M, w0) (List.mem_singleton.2 rfl)).zero, fun g hg => by
  rw [List.mem_singleton] at hg
  subst hg
  exact s.may (M, w0) (List.mem_singleton.2 rfl), ⟨s.gh.chs, s.gh.nodup, s.gh.disj, s.gh.apart, fun g hg => by
   rw [List.mem_singleton] at hg
   subst hg
   exact s.gh.may (M, w0) (List.mem_singleton.2 rfl), s.gh.lt, s.gh.own, s.gh.hid, s.gh.top, s.gh.g⟩⟩
theorem JR_callz {S0 : Nat → Prop} {C0 : List Chunk} {G0 : List (Value × D)} {id L0 i : Nat} {ck : Bool} {Wp : List (Nat × List Nat)} {rest : List (Nat × Bool)} (hs : List Hn) (cs : List Nat) (fid : FuncId) (args : Array Value) (dst : Option Tmp)
  (hz : ∀ f ∈ F, f.2.drawn = 0) (he : chkC (callOf P n (rgOf f id) h r E i hs) = (some (fid, args, dst), trivC (callOf P n (rgOf f id) h r E i hs), 0)) (hok : (!ck || (Wp.lookup i).isSome || cs.isEmpty) = true) (hcs : cs.Nodup)
  (C : ∀ w S M, Pre w S M (pick C0 cs) → AllG w S G0 → (cs = [] → M = []) → Calls P fid args w fun e w' => ∃ v C' G', Ret M (zero w) S w' e v C' G' ∧
   JR P f R n (rgOf f id) L0 ck rest (Wp.filter (·.1 != i)) k (E.put dst (.val v)) h r F ⟨S0, restC C0 cs ++ C', G0 ++ G'⟩) :
  JR P f R n (rgOf f id) L0 ck ((i, false) :: rest) Wp k E h r F ⟨S0, C0, G0⟩ := by
 obtain ⟨p, he, hp⟩ := chkC_sound he
 intro B Hd fps a w s hH hR hN hW
 simp only [PW]
 refine callOf_sound he hp s ((C w (Sd ⟨S0, C0, G0⟩ h fps) (pick fps cs).flatten (Pre.of s hcs) s.gh.g (fun h => by rw [h]; simp [pick])).mono fun e w' hh => ?_)
 obtain ⟨v, C', G', hRet, H⟩ := hh
 have hf := hRet.fr
 refine ⟨v, hRet.ret, fun E' hE a' hA => ⟨fun hck b hb hl => ?_, ?_⟩⟩
 ·refine hf.block b hb fun hm => ?_
  have hm2 := pick_flat_sub hm
  cases hWl : Wp.lookup i with
  | none =>
   rw [hWl, hck] at hok
   simp at hok
   subst hok
   simp [pick] at hm
  | some ps =>
   rw [lookup_idsW, hWl] at hl
   obtain ⟨h1, h2⟩ := hl _ rfl
   rcases hH b hm2 with h3 | h3
   ·exact h2 (List.mem_append_right _ h3)
   ·omega
 ·subst hE
  rw [filter_idsW]
  obtain ⟨fps', h3, s'⟩ := (s.zero hz).called (cs := cs) hA hRet
  refine H B Hd _ a' w' s' (fun b hb => ?_) ⟨hR.old, hR.ro, hR.len, Nat.le_trans hR.size hf.size⟩ hN (okWp_filter hW)
  rw [List.flatten_append] at hb
  rcases List.mem_append.1 hb with hb | hb
  ·exact hH b (pick_flat_sub hb)
  ·rcases h3 b hb with h1 | h1
   ·exact hH b (pick_flat_sub h1)
   ·exact .inr (Nat.le_trans hR.size h1)
theorem JR_callzp {S0 : Nat → Prop} {C0 : List Chunk} {G0 : List (Value × D)} {id L0 i : Nat} {ck : Bool} {Wp : List (Nat × List Nat)} {rest : List (Nat × Bool)} (hs : List Hn) (fid : FuncId) (args : Array Value) (dst : Option Tmp)
  (hz : ∀ f ∈ F, f.2.drawn = 0) (he : chkC (callOf P n (rgOf f id) h r E i hs) = (some (fid, args, dst), trivC (callOf P n (rgOf f id) h r E i hs), 0))
  (C : ∀ w S, AllG w S G0 → Calls P fid args w fun e w' => ∃ v C' G', Ret [] (zero w) S w' e v C' G' ∧
   JR P f R n (rgOf f id) L0 ck rest (Wp.filter (·.1 != i)) k (E.put dst (.val v)) h r F ⟨S0, C0 ++ C', G0 ++ G'⟩) :
  JR P f R n (rgOf f id) L0 ck ((i, false) :: rest) Wp k E h r F ⟨S0, C0, G0⟩ := by
 refine JR_callz hs [] fid args dst hz he (by simp) (by simp) fun w S M _ hG hM => ?_
 obtain rfl := hM rfl
 refine (C w S hG).mono fun e w' ⟨v, C', G', hR, H⟩ => ⟨v, C', G', hR, ?_⟩
 have : pick C0 (others C0.length []) = C0 := by
  have h1 : others C0.length [] = List.range C0.length := by simp [others]
  rw [h1, pick_all]
 unfold restC
 rw [this]
 exact H
end
end Go.Sx
end
section
namespace Go.Sx
open Go Go.Maps Go.WideElems Go.MapKept
open Go.Proofs (encStr)
def sortB (l : List ByteArray) : List ByteArray := ((l.map fun t => t.data.toList).mergeSort leB).map fun x => ⟨x.toArray⟩
theorem sortB_perm {l l' : List ByteArray} (h : l.Perm l') : sortB l = sortB l' := by
  unfold sortB
  rw [mergeSort_of_perm (h.map _)]
def keyB : Value → ByteArray
  | .string t => t
  | _ => ⟨#[]⟩
abbrev RZ : Value → Option (DataW Unit × List MemPlace) := fun _ => some (.nil, [])
theorem owns_of {P : Program} {k : TypeId} (hk : P.underlying k = some .string) {w : World} {b : Nat} {es : Array MapEntry} {clock : Nat} (hb : w.heap[b]? = some (.map es clock)) (hkey : ∀ x ∈ es.toList, IsKey .string x.key) (hst : Stamped es clock) (hn : es.size ≤ 4000000) (hsz : ∀ x ∈ es.toList, (keyB x.key).size ≤ 1000000) :
    ∃ D0 : DataW Unit, w.ownsMap P k RZ b es.size D0 ∧ Maps.size D0 = es.size ∧ (strKeys D0).Perm (es.toList.map fun x => (keyB x.key).data.toList) := by
  have hrd : ∀ x ∈ es.toList, WideElems.rd P k RZ x = some (.string (keyB x.key).data.toList, .nil) := fun x hx => by
    have h1 := hkey x hx
    have h2 := hsz x hx
    cases hq : x.key <;> rw [hq] at h1 <;> simp only [IsKey] at h1
    rename_i s
    rw [hq] at h2
    simp only [keyB] at h2
    have h3 : s.size ≤ maxLen := by unfold maxLen; omega
    simp [WideElems.rd, keyOf, hk, mapKey, hq, h3, keyB]
  refine ⟨_, ⟨es, clock, hb, ⟨by unfold maxLen; omega, hst, fun x hx => ⟨_, hrd x hx⟩⟩, Nat.le_refl _, rfl⟩, ?_, ?_⟩
  · simp [Maps.size, length_sorted]
  · show (List.map (fun p : Lit × DataW Unit => strOf p.1) _).Perm _
    refine ((WideShapes.sorted_perm _).map _).trans ?_
    rw [List.map_map]
    refine List.Perm.of_eq (List.map_congr_left fun x hx => ?_)
    simp [rg_of (hrd x hx), strOf]
theorem rep_row {w' : World} {S : Nat → Prop} {base e : Nat} {v : Value} {ss : List (List UInt8)} (h : w'.ownsRow base e 1 v ss.length (ss.map encStr)) (hS : ∀ b, base ≤ b → S b) : Rep w' S v (dStrs (ss.map fun x => ⟨x.toArray⟩)) := by
  rcases h.2 with ⟨rfl, h0⟩ | ⟨g, cap, cur, rfl, hbase, hg, hle, _, hcs, htake⟩
  · obtain rfl := List.length_eq_zero_iff.1 h0
    exact .nil
  · have hl : (List.map eS (ss.map fun x => (⟨x.toArray⟩ : ByteArray))).length = ss.length := by simp
    have := Rep.sl (w := w') (S := S) (off := 0) (cap := cap) (k := 1) (rows := List.map eS (ss.map fun x => (⟨x.toArray⟩ : ByteArray))) (fun i j => cur.getD (0 + (i * 1 + j)) undef) hg (hS g hbase) (by omega) (by omega) (fun row hr => ?_) (fun i j hi hj => ?_) (fun i j row d hi hj => ?_)
    · rwa [hl] at this
    · obtain ⟨x, _, rfl⟩ := List.mem_map.1 hr
      rfl
    · have : 0 + (i * 1 + j) < cur.size := by omega
      rw [Array.getElem?_eq_getElem this, Array.getD_eq_getD_getElem?, Array.getElem?_eq_getElem this]
      rfl
    · rw [List.map_map, List.getElem?_map] at hi
      obtain ⟨x, hx, rfl⟩ := Option.map_eq_some_iff.1 hi
      match j, hj with
      | 0, hj =>
        simp only [Function.comp_apply, List.getElem?_cons_zero, Option.some.injEq] at hj
        subst hj
        have hil := (List.getElem?_eq_some_iff.1 hx).1
        have h3 : (cur.toList.take (ss.length * 1))[i]? = some (encStr x) := by rw [htake, List.getElem?_map, hx]; rfl
        rw [List.getElem?_take, if_pos (by omega), Array.getElem?_toList] at h3
        have h4 : cur.getD (0 + (i * 1 + 0)) undef = encStr x := by
          rw [Array.getD_eq_getD_getElem?, show 0 + (i * 1 + 0) = i by omega, h3]
          rfl
        rw [h4]
        exact .v rfl
      | j + 1, hj => simp at hj
end Go.Sx
namespace Go.Proofs.YtpjkiomccpjboaaGreatDoor
open Go Go.Sx Go.RowKit Go.Maps Go.Sort Go.Shelf
theorem vKeys {w : World} {S : Nat → Prop} {mb : Nat} : Calls Tryz.prog 64 #[.map (some mb)] w fun e w' => ∃ b ty, Ret [] w S w' e (.func (.func 102) #[] #[.pointer (some ⟨b, 0, none⟩)]) [] [(.pointer (some ⟨b, 0, none⟩), .obj (.cells #[.map (some mb)] ty (0, 0)))] := by
  refine ep64 (args := [.map (some mb)]) (S := S) (G := []) (by kernel_rfl) (.nil _ _) ?_
  refine Sq mixed [.wr 0 [] 0, zR 1] [] [1, 2] (fun nu1 => [zP 1 (nu1 0), zV 2 .nilFunc]) (fun nu1 => [(nu1 0, .cells #[.map (some mb)] 117 (0, 0))]) (fun nu1 => ?_)
  refine Sq mixed [zR 0, zR 1] [] [2] (fun _ => [zV 2 (.func (.func 102) #[] #[.pointer (sA (nu1 0) 0)])]) (fun _ => [(nu1 0, .cells #[.map (some mb)] 117 (0, 0))]) (fun _ => ?_)
  refine J_return [[]] (.func (.func 102) #[] #[.pointer (some (⟨nu1 0, 0, none⟩))]) (by kernel_rfl) (fun a w s => ?_)
  exact ⟨_, _, (s.share 0 rfl).ret (by simp) [] [0] rfl rfl⟩
theorem sortsS (m : Nat) : AnyZ.SortsIn Tryz.prog Tryz.sorted_ren Fence.wide m :=
  ⟨fun blk off cap ss W hH hblk hsz => callsIn_wide.2 (AnyM.slices_Sort_string Tryz.sortS blk off cap ss W hH hblk hsz),
   fun p cap W => callsIn_wide.2 (AnyM.slices_Sort_string_none Tryz.sortS p cap W)⟩
theorem sortedKeys {w : World} {S : Nat → Prop} {M : List Nat} {mb bx clock : Nat} {es : Array MapEntry} {ty : TypeId} (hP : Pre w S M [cObj mb (.map es clock)]) (hkey : ∀ x ∈ es.toList, MapKept.IsKey .string x.key) (hst : MapKept.Stamped es clock) (hn : es.size ≤ 4000000) (hsz : ∀ x ∈ es.toList, (keyB x.key).size ≤ 1000000) (hbx : Rep w S (.pointer (some ⟨bx, 0, none⟩)) (.obj (.cells #[.map (some mb)] ty (0, 0)))) :
    Calls Tryz.prog 63 #[.func (.func 102) #[] #[.pointer (some ⟨bx, 0, none⟩)]] w fun e w' => ∃ ua un uc, Ret M (zero w) S w' e (.slice ua un uc) [] [(.slice ua un uc, dStrs (sortB (es.toList.map fun x => keyB x.key)))] := by
  obtain ⟨fps, hch, rfl, hnd, hM⟩ := hP
  match fps, hch with
  | [fp], ⟨⟨hfp, hmb⟩, _⟩ =>
    subst hfp
    obtain ⟨D0, hown, hsD, hperm⟩ := owns_of (k := 9) (P := Tryz.prog) Tryz.underlying9 hmb hkey hst hn hsz
    have hbx2 := blk_of hbx
    have hlt := (Array.getElem?_eq_some_iff.1 hbx2).1
    have hseq : SeqGives Fence.wide 2 Tryz.prog 102 #[.pointer (some ⟨bx, 0, none⟩)] encStr (fun ss => ss.Perm (strKeys D0)) (Maps.size D0) w :=
      AnyZ.keys_gives (ρ := Tryz.keysA_ren) { Tryz.keysA with } Fence.wide _ trivial rfl (by omega) bx mb es.size D0 w hlt (by simp [World.cell?, hbx2]) hown
    have cS := AnyZ.sorted_in Tryz.sorted Fence.wide 5 trivial trivial trivial trivial rfl (by omega) (sortsS _) (enters_of Tryz.func101 (by kernel_rfl) rfl) 102 #[.pointer (some ⟨bx, 0, none⟩)] trivial (enters_of Tryz.func102 (by kernel_rfl) rfl) _ _ (by rw [hsD]; unfold maxLen; omega) (by rw [hsD]; omega) w hseq
    change CallsIn _ _ Tryz.prog 63 _ _ _ at cS
    refine (callsIn_wide.1 cS).mono ?_
    rintro e w' ⟨v, ss, rfl, hS, hrow, _, hb⟩
    have e1 : sortB (es.toList.map fun x => keyB x.key) = (ss.mergeSort leB).map fun x => ⟨x.toArray⟩ := by
      unfold sortB
      rw [List.map_map, mergeSort_of_perm (hS.trans hperm)]
      rfl
    have hrep : Rep w' (retS S ([[mb]] : List (List Nat)).flatten (zero w) []) v (dStrs (sortB (es.toList.map fun x => keyB x.key))) := by
      rw [e1]
      refine rep_row (base := w.heap.size) (e := 9) ?_ fun b hb2 => ⟨.inr (.inr hb2), by simp⟩
      rw [List.length_mergeSort]
      exact hrow
    obtain ⟨ua, uc, rfl, _⟩ := hrep.form
    refine ⟨ua, _, uc, rfl, ⟨hb.os, hb.tape, hb.output, hb.size, fun b hb2 _ => hb.block b hb2, Nat.zero_le _⟩, [], trivial, by simp, by simp, fun x hx => ?_⟩
    obtain rfl := List.mem_singleton.1 hx
    exact hrep
  | [], h => exact h.elim
  | _ :: _ :: _, h => exact h.2.elim
end Go.Proofs.YtpjkiomccpjboaaGreatDoor
end
section
namespace Go.Sx
open Go
theorem eq_of_sorted {α : Type} {lt : α → α → Prop} (asym : ∀ a b, lt a b → lt b a → False) {l l' : List α} (h : l.Pairwise lt) (h' : l'.Pairwise lt) (hm : ∀ x, x ∈ l ↔ x ∈ l') : l = l' := by
 have irr : ∀ {p : List α}, p.Pairwise lt → p.Nodup := fun hp => hp.imp fun {a b} hab he => by subst he; exact asym a a hab hab
 exact ((List.perm_ext_iff_of_nodup (irr h) (irr h')).2 hm).eq_of_pairwise (le := lt) (fun a b _ _ h1 h2 => (asym a b h1 h2).elim) h h'
theorem bLt_iff {a b : ByteArray} : bLt a b = true ↔ a.toList < b.toList := decide_eq_true_iff
theorem bLt_asym (a b : ByteArray) (h1 : bLt a b = true) (h2 : bLt b a = true) : False :=
 List.lt_asymm (bLt_iff.1 h1) (bLt_iff.1 h2)
theorem bLt_trans {a b c : ByteArray} (h1 : bLt a b = true) (h2 : bLt b c = true) : bLt a c = true :=
 bLt_iff.2 (List.lt_trans (bLt_iff.1 h1) (bLt_iff.1 h2))
theorem byte_inj {a b : ByteArray} (h : a.toList = b.toList) : a = b := by
 have := strEq a b
 rw [h] at this
 simpa using this.symm
theorem bLt_tri {a b : ByteArray} (h1 : ¬ bLt a b = true) (h2 : a ≠ b) : bLt b a = true := by
 rw [bLt_iff] at *
 exact Classical.byContradiction fun h3 => h2 (byte_inj (List.le_antisymm h3 h1))
theorem enterB_mem {l : List ByteArray} {s t : ByteArray} : t ∈ enterB l s ↔ t = s ∨ t ∈ l := by
 induction l with
 | nil => simp [enterB]
 | cons x l ih =>
  unfold enterB
  split
  ·rw [List.mem_cons, ih, List.mem_cons]
   constructor
   ·rintro (h | h | h)
    ·exact .inr (.inl h)
    ·exact .inl h
    ·exact .inr (.inr h)
   ·rintro (h | h | h)
    ·exact .inr (.inl h)
    ·exact .inl h
    ·exact .inr (.inr h)
  ·split
   ·rename_i h
    subst h
    rw [List.mem_cons]
    constructor
    ·exact .inr
    ·rintro (h | h)
     ·exact .inl h
     ·exact h
   ·rw [List.mem_cons]
theorem enterB_sorted {l : List ByteArray} {s : ByteArray} (h : l.Pairwise fun a b => bLt a b = true) : (enterB l s).Pairwise fun a b => bLt a b = true := by
 induction l with
 | nil => simp [enterB]
 | cons x l ih =>
  unfold enterB
  have h1 := List.pairwise_cons.1 h
  split
  ·rename_i hx
   refine List.pairwise_cons.2 ⟨fun y hy => ?_, ih h1.2⟩
   rcases enterB_mem.1 hy with rfl | hy
   ·exact hx
   ·exact h1.1 y hy
  ·rename_i hx
   split
   ·exact h
   ·rename_i hne
    have hsx := bLt_tri hx hne
    refine List.pairwise_cons.2 ⟨fun y hy => ?_, h⟩
    rcases List.mem_cons.1 hy with rfl | hy
    ·exact hsx
    ·exact bLt_trans hsx (h1.1 y hy)
theorem setOf_go {p : List ByteArray} : ∀ {l : List ByteArray}, (p.Pairwise fun a b => bLt a b = true) → ((l.foldl enterB p).Pairwise fun a b => bLt a b = true) ∧ ∀ t, t ∈ l.foldl enterB p ↔ t ∈ p ∨ t ∈ l := by
 intro l
 induction l generalizing p with
 | nil => exact fun h => ⟨h, fun t => by simp⟩
 | cons x l ih =>
  intro h
  obtain ⟨h1, h2⟩ := ih (p := enterB p x) (enterB_sorted h)
  refine ⟨h1, fun t => ?_⟩
  rw [List.foldl_cons, h2, enterB_mem, List.mem_cons]
  constructor
  ·rintro ((h | h) | h)
   ·exact .inr (.inl h)
   ·exact .inl h
   ·exact .inr (.inr h)
  ·rintro (h | h | h)
   ·exact .inl (.inr h)
   ·exact .inl (.inl h)
   ·exact .inr h
theorem setOf_sorted (l : List ByteArray) : (setOf l).Pairwise fun a b => bLt a b = true := (setOf_go List.Pairwise.nil).1
theorem setOf_mem {l : List ByteArray} {t : ByteArray} : t ∈ setOf l ↔ t ∈ l := by
 unfold setOf
 rw [(setOf_go List.Pairwise.nil).2]
 simp
theorem sortB_mem {l : List ByteArray} {t : ByteArray} : t ∈ sortB l ↔ t ∈ l := by
 unfold sortB
 rw [List.mem_map]
 constructor
 ·rintro ⟨x, hx, rfl⟩
  rw [List.mem_mergeSort] at hx
  obtain ⟨y, hy, rfl⟩ := List.mem_map.1 hx
  exact hy
 ·intro h
  exact ⟨t.data.toList, List.mem_mergeSort.2 (List.mem_map.2 ⟨t, h, rfl⟩), rfl⟩
theorem sortB_sorted {l : List ByteArray} (hn : l.Nodup) : (sortB l).Pairwise fun a b => bLt a b = true := by
 have tr : ∀ a b c : List UInt8, leB a b = true → leB b c = true → leB a c = true := fun a b c h1 h2 => by simp only [leB, decide_eq_true_eq] at *; exact List.le_trans h1 h2
 have to : ∀ a b : List UInt8, (leB a b || leB b a) = true := fun a b => by simp only [leB, Bool.or_eq_true, decide_eq_true_eq]; exact List.le_total a b
 have hnd : ((l.map fun t => t.data.toList).mergeSort leB).Nodup := (List.mergeSort_perm _ _).nodup_iff.2 (List.pairwise_map.2 (hn.imp fun {a b} hne he => hne (byte_inj (by rw [ByteArray.toList_eq, ByteArray.toList_eq]; exact he))))
 unfold sortB
 refine List.pairwise_map.2 (((List.pairwise_mergeSort tr to _).and hnd).imp fun {a b} h => ?_)
 rw [bLt_iff, ByteArray.toList_eq, ByteArray.toList_eq]
 have h1 : a ≤ b := by simpa [leB] using h.1
 exact Classical.byContradiction fun h2 => h.2 (List.le_antisymm h1 h2)
theorem sortB_set {ks l : List ByteArray} (hn : ks.Nodup) (hm : ∀ t, t ∈ ks ↔ t ∈ l) : sortB ks = setOf l :=
 eq_of_sorted bLt_asym (sortB_sorted hn) (setOf_sorted l) fun t => by rw [sortB_mem, setOf_mem, hm]
theorem textDots_ne {l : List DoneT} {t : ByteArray} : textDots l t ≠ [] ↔ t ∈ (liveL l).map (·.o.text) := by
 unfold textDots
 rw [ne_eq, List.map_eq_nil_iff, List.filter_eq_nil_iff, List.mem_map]
 constructor
 ·intro h
  refine Classical.byContradiction fun h2 => h fun x hx he => h2 ⟨x, hx, by simpa using he⟩
 ·rintro ⟨x, hx, he⟩ h
  exact h x hx (by simpa using he)
end Go.Sx
end
section
namespace Go.Sx
open Go
theorem St.retz {n : Nat} {E : Env} {h r : List (Nat × Obj)} {F : List (List Nat × World)} {C C' : List Chunk} {G G' : List (Value × D)} {S : Nat → Prop} {M : List Nat} {w0 : World} {a : Act} {w : World} {v : Value} (s : St n E h r F ⟨newS S M w0, C, G⟩ a w) (hF : (M, zero w0) ∈ F) (cs gs : List Nat)
  (hC : pick C cs = C') (hG : pick G gs = G') (hcs : cs.Nodup := by decide) : Ret M (zero w0) S w (.returned v) v C' G' := St.ret (w0 := zero w0) s hF cs gs hC hG hcs
end Go.Sx
namespace Go.Proofs.YtpjkiomccpjboaaGreatDoor
open Go Go.Sx
theorem ret_zero {M : List Nat} {w : World} {S : Nat → Prop} {w' : World} {e : Ending} {v : Value} {C : List Chunk} {G : List (Value × D)} (h : Ret M w S w' e v C G) : Ret M (zero w) S w' e v C G := ⟨h.ret, h.fr.zero, h.gh⟩
theorem fval_zero {w : World} {S : Nat → Prop} {w' : World} {e : Ending} {er : Nat → Addr} {f : FT} {mk : Value → Value} (h : FVal w S w' e er f mk) : FVal (zero w) S w' e er f mk := by
 rcases h with ⟨h1, v, h2, h3⟩ | ⟨h1, h2, pb, h3⟩
 ·exact .inl ⟨h1, v, ret_zero h2, h3⟩
 ·exact .inr ⟨h1, h2, pb, ret_zero h3⟩
theorem ks_len {es : Array MapEntry} {ks : List ByteArray} {F : ByteArray → Value} (hm : MapG (MapKept.IsKey .string) es (strG ks F)) (hnd : ks.Nodup) : (es.toList.map fun x => keyB x.key).Perm ks := by
 have hk : ∀ x ∈ es.toList, x.key = .string (keyB x.key) ∧ keyB x.key ∈ ks := fun x hx => by
  have h1 := hm.key x hx
  have h2 := hm.val x hx
  cases hq : x.key <;> rw [hq] at h1 h2 <;> simp only [MapKept.IsKey] at h1
  rename_i s
  refine ⟨rfl, ?_⟩
  show s ∈ ks
  exact Classical.byContradiction fun hn => by rw [strG_out hn] at h2; cases h2
 refine (List.perm_ext_iff_of_nodup ?_ hnd).2 fun t => ?_
 ·have h1 : (es.toList.map fun x => x.key) = (es.toList.map fun x => keyB x.key).map Value.string := by
   rw [List.map_map]
   exact List.map_congr_left fun x hx => (hk x hx).1
  have h2 := hm.nodup
  rw [h1] at h2
  exact (List.pairwise_map.1 h2).imp fun {a b} hne he => hne (by rw [he])
 ·rw [List.mem_map]
  constructor
  ·rintro ⟨x, hx, rfl⟩
   exact (hk x hx).2
  ·intro h
   obtain ⟨x, hx, he⟩ := hm.has (.string t) (F t) (strG_in h)
   exact ⟨x, hx, by rw [he]; rfl⟩
theorem vOf3 {w : World} {S : Nat → Prop} {er : Nat → Addr} {eb : Nat → Array Value × TypeId} {a : Option Addr} {n c : Nat} {key : ByteArray} {l : List ComT} (hC : Rep w S .nilIface (dC er eb)) (h : Rep w S (.slice a n c) (.sl 3 (l.map eCom))) (hl : l.length ≤ 300000) (hl1 : ∀ x ∈ l, x.when.length ≤ 1000000) (hl2 : ∀ x ∈ l, x.ops.length ≤ 1000000) (hk3 : kindOf (opsOf key l) = 3) :
  Calls Tryz.prog 21 #[.string key, .slice a n c] w fun e w' => ((valFault key l).code ≠ 0 ∧ FVal (zero w) S w' e er (valFault key l) fun v => .tuple #[valZ, v]) ∨ ((valFault key l).code = 0 ∧ ∃ ua un uc, Ret [] (zero w) S w' e (.tuple #[valA (Sx.valOf key l) (.slice ua un uc), .nilIface]) [] [(.slice ua un uc, dStrs (Sx.valOf key l).set)]) := by
 refine ep21 (args := [.string key, .slice a n c]) (G := [(_, dC er eb), (_, .sl 3 (l.map eCom))]) (by kernel_rfl) (.cons hC (.cons h (.nil _ _))) ?_
 refine J_zero ?_
 refine Sq mixed [.wr 0 [] 0, zR 1] [] [0, 1, 4, 5] (fun nu1 => [zV 0 (.string key), zS 1 a n c, zP 4 (nu1 0), zV 5 .nilIface]) (fun nu1 => [(nu1 0, .cells #[nI 0, .string (ByteArray.mk #[]), nI 0, .slice none 0 0] 47 (0, 0))]) (fun nu1 => ?_)
 refine J_seq ?_
 refine jB mixed [(0, true), (1, true), (2, false), (3, true), (4, true), (5, true), (6, true), (7, true)] [] ?_
 refine Gr (id := 1) (rest := [(2, false), (3, true), (4, true), (5, true), (6, true), (7, true)]) [zR 0, zR 1] [4, 5, 13, 14] (fun _ => [zP 4 (nu1 0), zV 5 .nilIface, zV 13 (.string key), zS 14 a n c]) (fun _ => [(nu1 0, .cells #[nI 0, .string (ByteArray.mk #[]), nI 0, .slice none 0 0] 47 (0, 0))]) (fun _ => ?_)
 refine JR_callp [] 61 #[.string key, .slice a n c] (some 15) (by kernel_rfl) (fun w S hG => ?_)
 refine (vOps (hG.at 0 rfl) (hG.at 1 rfl) hl hl1 hl2).mono ?_
 rintro e1 w1 (⟨hc, ⟨hat, v, hR, hv⟩ | ⟨hc1, hat, pb, hR⟩⟩ | ⟨hc, a1, n1, c1, hR⟩)
 ·refine ⟨_, _, _, hR, ?_⟩
  rcases hv with ⟨hv0, rfl⟩ | ⟨hv0, rfl⟩
  ·exact absurd hv0 hc
  ·try simp only [List.cons_append, List.nil_append, List.append_nil]
   refine Gr (id := 1) (rest := []) [zR 3, zR 4, zR 5, zR 6, zR 7] [4, 5, 6, 7] (fun _ => [zP 4 (nu1 0), zV 5 .nilIface, zS 6 none 0 0, zV 7 (.iface 243 (.pointer (some (er (valFault key l).code))))]) (fun _ => [(nu1 0, .cells #[nI 0, .string (ByteArray.mk #[]), nI 0, .slice none 0 0] 47 (0, 0))]) (fun _ => ?_)
   refine JR_end ?_
   refine J_seq ?_
   refine Sq mixed [zR 0, zR 1] [] [4, 5, 6, 7, 19] (fun _ => [zP 4 (nu1 0), zV 5 .nilIface, zS 6 none 0 0, zV 7 (.iface 243 (.pointer (some (er (valFault key l).code)))), zB 19 true]) (fun _ => [(nu1 0, .cells #[nI 0, .string (ByteArray.mk #[]), nI 0, .slice none 0 0] 47 (0, 0))]) (fun _ => ?_)
   refine cTt ?_
   refine Sq mixed [zR 0, zR 1, .wr 2 [.o 0 none, .o 0 none, .o 0 none, .o 0 none] 0, zR 3] [(2, [0])] [4, 5, 6] (fun _ => [zP 4 (nu1 0), zV 5 (.iface 243 (.pointer (some (er (valFault key l).code)))), zS 6 none 0 0]) (fun _ => [(nu1 0, .cells #[nI 0, .string (ByteArray.mk #[]), nI 0, .slice none 0 0] 47 (0, 0))]) (fun _ => ?_)
   refine J_return [[.o 0 none, .o 0 none, .o 0 none, .o 0 none], []] (.tuple #[.agg #[.int .i64 0, .string (ByteArray.mk #[]), .int .i64 0, .slice none 0 0], .iface 243 (.pointer (some (er (valFault key l).code)))]) (by kernel_rfl) (fun a w s => ?_)
   exact .inl ⟨hc, .inl ⟨hat, _, s.retz (by simp) [] [] rfl rfl, .inr ⟨hv0, rfl⟩⟩⟩
 ·refine ⟨_, _, _, hR, ?_⟩
  try simp only [cAp, nAp, aNl]
  refine Gr (id := 1) (rest := []) [zR 3, zR 4, zR 5, zR 6, zR 7] [4, 5, 6, 7] (fun _ => [zP 4 (nu1 0), zV 5 .nilIface, zS 6 none 0 0, zV 7 (.iface 102 (.pointer (sA pb 0)))]) (fun _ => [(nu1 0, .cells #[nI 0, .string (ByteArray.mk #[]), nI 0, .slice none 0 0] 47 (0, 0))]) (fun _ => ?_)
  refine JR_end ?_
  refine J_seq ?_
  refine Sq mixed [zR 0, zR 1] [] [4, 5, 6, 7, 19] (fun _ => [zP 4 (nu1 0), zV 5 .nilIface, zS 6 none 0 0, zV 7 (.iface 102 (.pointer (sA pb 0))), zB 19 true]) (fun _ => [(nu1 0, .cells #[nI 0, .string (ByteArray.mk #[]), nI 0, .slice none 0 0] 47 (0, 0))]) (fun _ => ?_)
  refine cTt ?_
  refine Sq mixed [zR 0, zR 1, .wr 2 [.o 0 none, .o 0 none, .o 0 none, .o 0 none] 0, zR 3] [(2, [0])] [4, 5, 6] (fun _ => [zP 4 (nu1 0), zV 5 (.iface 102 (.pointer (sA pb 0))), zS 6 none 0 0]) (fun _ => [(nu1 0, .cells #[nI 0, .string (ByteArray.mk #[]), nI 0, .slice none 0 0] 47 (0, 0))]) (fun _ => ?_)
  refine J_return [[.o 0 none, .o 0 none, .o 0 none, .o 0 none], []] (.tuple #[.agg #[.int .i64 0, .string (ByteArray.mk #[]), .int .i64 0, .slice none 0 0], .iface 102 (.pointer (some (⟨pb, 0, none⟩)))]) (by kernel_rfl) (fun a w s => ?_)
  exact .inl ⟨hc, .inr ⟨hc1, hat, _, s.retz (by simp) [] [2] rfl rfl⟩⟩
 ·refine ⟨_, _, _, hR, ?_⟩
  have hlo := opsOf_len hc
  have hlk := ofKey_len hc
  try simp only [cAp, nAp, aNl]
  refine Gr (id := 1) (rest := []) [zR 3, zR 4, zR 5, zR 6, zR 7] [4, 5, 6, 7] (fun _ => [zP 4 (nu1 0), zV 5 .nilIface, zS 6 a1 n1 c1, zV 7 .nilIface]) (fun _ => [(nu1 0, .cells #[nI 0, .string (ByteArray.mk #[]), nI 0, .slice none 0 0] 47 (0, 0))]) (fun _ => ?_)
  refine JR_end ?_
  refine J_seq ?_
  refine Sq mixed [zR 0, zR 1] [] [4, 5, 6, 7, 19] (fun _ => [zP 4 (nu1 0), zV 5 .nilIface, zS 6 a1 n1 c1, zV 7 .nilIface, zB 19 false]) (fun _ => [(nu1 0, .cells #[nI 0, .string (ByteArray.mk #[]), nI 0, .slice none 0 0] 47 (0, 0))]) (fun _ => ?_)
  refine cF ?_
  refine J_skip ?_
  refine J_seq ?_
  refine jB mixed [(0, true), (1, false), (2, true), (3, true), (4, true), (5, true), (6, true)] [] ?_
  refine Gr (id := 4) (rest := [(1, false), (2, true), (3, true), (4, true), (5, true), (6, true)]) [zR 0] [4, 5, 6, 23] (fun _ => [zP 4 (nu1 0), zV 5 .nilIface, zS 6 a1 n1 c1, zS 23 a1 n1 c1]) (fun _ => [(nu1 0, .cells #[nI 0, .string (ByteArray.mk #[]), nI 0, .slice none 0 0] 47 (0, 0))]) (fun _ => ?_)
  refine JR_callp [] 62 #[.slice a1 n1 c1] (some 24) (by kernel_rfl) (fun w S hG => ?_)
  refine (vKind (hG.at 2 rfl) (by omega)).mono ?_
  rintro e2 w2 ⟨a2, n2, c2, hR⟩
  refine ⟨_, _, _, hR, ?_⟩
  try simp only [cAp, nAp, aNl]
  refine Gr (id := 4) (rest := []) [zR 2, zR 3, zR 4, zR 5, zR 6] [4, 5, 6, 8] (fun _ => [zP 4 (nu1 0), zV 5 .nilIface, zS 6 a2 n2 c2, zI 8 (kindOf (opsOf key l))]) (fun _ => [(nu1 0, .cells #[nI 0, .string (ByteArray.mk #[]), nI 0, .slice none 0 0] 47 (0, 0))]) (fun _ => ?_)
  refine JR_end ?_
  refine Sq mixed [zR 0, zR 1, .wr 2 [] 0, .wr 3 [.o 1 none, .o 1 none, .o 1 none, .o 1 none] 0] [(3, [])] [4, 5, 6, 8, 9] (fun nu2 => [zP 4 (nu1 0), zV 5 .nilIface, zS 6 a2 n2 c2, zI 8 (kindOf (opsOf key l)), zP 9 (nu2 0)]) (fun nu2 => [(nu1 0, .cells #[nI 0, .string (ByteArray.mk #[]), nI 0, .slice none 0 0] 47 (0, 0)), (nu2 0, .cells #[nI (kindOf (opsOf key l)), .string (ByteArray.mk #[]), nI 0, .slice none 0 0] 47 (0, 0))]) (fun nu2 => ?_)
  refine J_seq ?_
  refine Sq mixed [zR 0, zR 1, zR 2] [] [4, 5, 6, 8, 9, 29, 30, 31] (fun _ => [zP 4 (nu1 0), zV 5 .nilIface, zS 6 a2 n2 c2, zI 8 (kindOf (opsOf key l)), zP 9 (nu2 0), zS 29 a2 n2 c2, zI 30 (↑n2 : Int), zI 31 0]) (fun _ => [(nu1 0, .cells #[nI 0, .string (ByteArray.mk #[]), nI 0, .slice none 0 0] 47 (0, 0)), (nu2 0, .cells #[nI (kindOf (opsOf key l)), .string (ByteArray.mk #[]), nI 0, .slice none 0 0] 47 (0, 0))]) (fun _ => ?_)
  refine J_block ?_
  refine J_stpx (stp_replen 3 rfl) fun _ hn2 => ?_
  rw [List.length_map] at hn2
  have hn3 : n2 = (ofKey key l).length := hn2
  subst hn3
  have hA : kindL (opsOf key l) = ofKey key l := rfl
  rw [hA]
  clear hn2
  have hval : Sx.valOf key l = ⟨3, ByteArray.mk #[], 0, setOf ((liveL (ofKey key l)).map (·.o.text))⟩ := by
   simp [Sx.valOf, hk3]
  rw [hk3]
  have hdl : ∀ x ∈ ofKey key l, x.o.dots.length ≤ 1000000 := fun x hx => by
   obtain ⟨p, hp⟩ := fine_mem hc (mem_ofKey hx)
   have := opErr_fine hp
   omega
  refine J_loopx (fun i : Int => [zP 4 (nu1 0), zV 5 .nilIface, zS 6 a2 ((ofKey key l).length) c2, zI 8 3, zP 9 (nu2 0), zS 29 a2 ((ofKey key l).length) c2, zI 30 ((↑(ofKey key l).length : Int)), zI 31 i]) (fun i : Int => [(nu1 0, .cells #[nI 0, .string (ByteArray.mk #[]), nI 0, .slice none 0 0] 47 (0, 0)), (nu2 0, .cells #[nI 3, .string (ByteArray.mk #[]), nI 0, .slice none 0 0] 47 (0, 0))]) (fun i : Int => []) (fun i : Int => [(.nilIface, (dC er eb)), (.slice a n c, (D.sl 3 (List.map eCom l))), (.slice a1 n1 c1, (D.sl 11 (List.map eDone (opsOf key l)))), (.slice a2 ((ofKey key l).length) c2, (D.sl 11 (List.map eDone (ofKey key l))))]) (fun i : Int => ((ofKey key l).length - i).toNat) (fun i : Int => (0 ≤ i ∧ i ≤ (ofKey key l).length)) 0 [4, 5, 6, 8, 9, 29, 30, 31] [0, 1] [] [0, 1, 2, 3] ?_ (by kernel_rfl) rfl rfl rfl ?_
  ·exact ⟨by simp, by simp⟩
  rintro i ⟨hi0, hi⟩
  refine Sq mixed [zR 0] [] [4, 5, 6, 8, 9, 29, 30, 31, 32] (fun _ => [zP 4 (nu1 0), zV 5 .nilIface, zS 6 a2 ((ofKey key l).length) c2, zI 8 3, zP 9 (nu2 0), zS 29 a2 ((ofKey key l).length) c2, zI 30 ((↑(ofKey key l).length : Int)), zI 31 i, zB 32 (decide (i < (↑(ofKey key l).length : Int)))]) (fun _ => [(nu1 0, .cells #[nI 0, .string (ByteArray.mk #[]), nI 0, .slice none 0 0] 47 (0, 0)), (nu2 0, .cells #[nI 3, .string (ByteArray.mk #[]), nI 0, .slice none 0 0] 47 (0, 0))]) (fun _ => ?_)
  refine J_seq ?_
  refine cC (t := decide (i < (↑(ofKey key l).length : Int))) (fun hlt => ?_) (fun hlt => ?_)
  ·have hlt2 : i < (ofKey key l).length := by simpa using hlt
   obtain ⟨x, hx⟩ : ∃ x, (ofKey key l)[i.toNat]? = some x := ⟨_, List.getElem?_eq_getElem (by omega)⟩
   refine J_read1 3 rfl i.toNat (map_at hx) (by kernel_rfl) (fun b1 off1 cs1 ty1 fz1 a1_0 c1_0 ha1 hrd1 => ?_)
   cases ha1
   have hrd1_0 := rd0 (hrd1 0 _ rfl)
   have hrd1_1 := hrd1 1 _ rfl
   have hrd1_2 := hrd1 2 _ rfl
   have hrd1_3 := hrd1 3 _ rfl
   have hrd1_4 := hrd1 4 _ rfl
   have hrd1_5 := hrd1 5 _ rfl
   have hrd1_6 := hrd1 6 _ rfl
   have hrd1_7 := hrd1 7 _ rfl
   have hrd1_8 := hrd1 8 _ rfl
   have hrd1_9 := hrd1 9 _ rfl
   have hrd1_10 := hrd1 10 _ rfl
   try simp only [cAp, nAp, aNl]
   refine J_skip ?_
   refine J_seq ?_
   refine J_block ?_
   refine Sp mixed [.rd 0 [] 0 2, .rd 1 [.r 0 (some (nI x.o.no)), .r 0 (some (.string x.o.key)), .r 0 (some (nI x.o.kind)), .r 0 (some (.string x.o.text)), .r 0 (some (nI x.o.n)), .r 0 (some (.bool x.o.remove)), .r 0 (some (.slice (a1_0, c1_0).fst ((List.map eDot x.o.dots).length) c1_0)), .r 0 (some (nI x.d.place)), .r 0 (some (nI x.d.time)), .r 0 (some (nI x.d.no)), .r 0 (some (nI x.w))] 0 0, .wr 2 [] 0, .wr 3 [.o 2 none, .o 2 none, .o 2 none, .o 2 none, .o 2 none, .o 2 none, .o 2 none, .o 2 none, .o 2 none, .o 2 none, .o 2 none] 0] [(3, [])] [4, 5, 6, 8, 9, 11, 29, 30, 31] (fun nu3 => [zP 4 (nu1 0), zV 5 .nilIface, zS 6 (sA b1 off1) ((ofKey key l).length) c2, zI 8 3, zP 9 (nu2 0), zP 11 (nu3 0), zS 29 (sA b1 off1) ((ofKey key l).length) c2, zI 30 ((↑(ofKey key l).length : Int)), zI 31 i]) (fun nu3 => [(nu1 0, .cells #[nI 0, .string (ByteArray.mk #[]), nI 0, .slice none 0 0] 47 (0, 0)), (nu2 0, .cells #[nI 3, .string (ByteArray.mk #[]), nI 0, .slice none 0 0] 47 (0, 0)), (nu3 0, .cells #[nI x.o.no, .string x.o.key, nI x.o.kind, .string x.o.text, nI x.o.n, .bool x.o.remove, .slice (a1_0, c1_0).fst ((List.map eDot x.o.dots).length) c1_0, nI x.d.place, nI x.d.time, nI x.d.no, nI x.w] 112 (0, 0))]) (fun nu3 => [(0 : Int) ≤ i, i < (↑(ofKey key l).length : Int), cs1[off1 + i.toNat * (11 : Nat)]? = some (nI x.o.no), cs1[off1 + i.toNat * (11 : Nat) + (1 : Nat)]? = some (Value.string x.o.key), cs1[off1 + i.toNat * (11 : Nat) + (2 : Nat)]? = some (nI x.o.kind), cs1[off1 + i.toNat * (11 : Nat) + (3 : Nat)]? = some (Value.string x.o.text), cs1[off1 + i.toNat * (11 : Nat) + (4 : Nat)]? = some (nI x.o.n), cs1[off1 + i.toNat * (11 : Nat) + (5 : Nat)]? = some (Value.bool x.o.remove), cs1[off1 + i.toNat * (11 : Nat) + (6 : Nat)]? = some (Value.slice (a1_0, c1_0).fst (List.map eDot x.o.dots).length (a1_0, c1_0).snd), cs1[off1 + i.toNat * (11 : Nat) + (7 : Nat)]? = some (nI x.d.place), cs1[off1 + i.toNat * (11 : Nat) + (8 : Nat)]? = some (nI x.d.time), cs1[off1 + i.toNat * (11 : Nat) + (9 : Nat)]? = some (nI x.d.no), cs1[off1 + i.toNat * (11 : Nat) + (10 : Nat)]? = some (nI x.w)]) (fun _ => ⟨hi0, hlt2, hrd1_0, hrd1_1, hrd1_2, hrd1_3, hrd1_4, hrd1_5, hrd1_6, hrd1_7, hrd1_8, hrd1_9, hrd1_10, trivial⟩) (fun nu3 => ?_)
   refine Sq mixed [zR 0] [] [4, 5, 6, 8, 9, 11, 29, 30, 31, 35] (fun _ => [zP 4 (nu1 0), zV 5 .nilIface, zS 6 (sA b1 off1) ((ofKey key l).length) c2, zI 8 3, zP 9 (nu2 0), zP 11 (nu3 0), zS 29 (sA b1 off1) ((ofKey key l).length) c2, zI 30 ((↑(ofKey key l).length : Int)), zI 31 i, zI 35 3]) (fun _ => [(nu1 0, .cells #[nI 0, .string (ByteArray.mk #[]), nI 0, .slice none 0 0] 47 (0, 0)), (nu2 0, .cells #[nI 3, .string (ByteArray.mk #[]), nI 0, .slice none 0 0] 47 (0, 0)), (nu3 0, .cells #[nI x.o.no, .string x.o.key, nI x.o.kind, .string x.o.text, nI x.o.n, .bool x.o.remove, .slice (a1_0, c1_0).fst ((List.map eDot x.o.dots).length) c1_0, nI x.d.place, nI x.d.time, nI x.d.no, nI x.w] 112 (0, 0))]) (fun _ => ?_)
   refine J_block ?_
   refine Sq mixed [zR 0, zR 1] [] [4, 5, 6, 8, 9, 11, 29, 30, 31, 35, 36] (fun _ => [zP 4 (nu1 0), zV 5 .nilIface, zS 6 (sA b1 off1) ((ofKey key l).length) c2, zI 8 3, zP 9 (nu2 0), zP 11 (nu3 0), zS 29 (sA b1 off1) ((ofKey key l).length) c2, zI 30 ((↑(ofKey key l).length : Int)), zI 31 i, zI 35 3, zB 36 false]) (fun _ => [(nu1 0, .cells #[nI 0, .string (ByteArray.mk #[]), nI 0, .slice none 0 0] 47 (0, 0)), (nu2 0, .cells #[nI 3, .string (ByteArray.mk #[]), nI 0, .slice none 0 0] 47 (0, 0)), (nu3 0, .cells #[nI x.o.no, .string x.o.key, nI x.o.kind, .string x.o.text, nI x.o.n, .bool x.o.remove, .slice (a1_0, c1_0).fst ((List.map eDot x.o.dots).length) c1_0, nI x.d.place, nI x.d.time, nI x.d.no, nI x.w] 112 (0, 0))]) (fun _ => ?_)
   refine cF ?_
   refine Sq mixed [zR 0, zR 1] [] [4, 5, 6, 8, 9, 11, 29, 30, 31, 35, 42] (fun _ => [zP 4 (nu1 0), zV 5 .nilIface, zS 6 (sA b1 off1) ((ofKey key l).length) c2, zI 8 3, zP 9 (nu2 0), zP 11 (nu3 0), zS 29 (sA b1 off1) ((ofKey key l).length) c2, zI 30 ((↑(ofKey key l).length : Int)), zI 31 i, zI 35 3, zB 42 false]) (fun _ => [(nu1 0, .cells #[nI 0, .string (ByteArray.mk #[]), nI 0, .slice none 0 0] 47 (0, 0)), (nu2 0, .cells #[nI 3, .string (ByteArray.mk #[]), nI 0, .slice none 0 0] 47 (0, 0)), (nu3 0, .cells #[nI x.o.no, .string x.o.key, nI x.o.kind, .string x.o.text, nI x.o.n, .bool x.o.remove, .slice (a1_0, c1_0).fst ((List.map eDot x.o.dots).length) c1_0, nI x.d.place, nI x.d.time, nI x.d.no, nI x.w] 112 (0, 0))]) (fun _ => ?_)
   refine cF ?_
   refine J_skip ?_
   refine J_eb ?_
   refine J_eb ?_
   refine Gp mixed [.rd 0 [] 0 1, zR 1] [] [4, 5, 6, 8, 9, 11, 29, 30, 31, 35] (fun _ => [zP 4 (nu1 0), zV 5 .nilIface, zS 6 (sA b1 off1) ((ofKey key l).length) c2, zI 8 3, zP 9 (nu2 0), zP 11 (nu3 0), zS 29 (sA b1 off1) ((ofKey key l).length) c2, zI 30 ((↑(ofKey key l).length : Int)), zI 31 (i + 1), zI 35 3]) (fun _ => [(nu1 0, .cells #[nI 0, .string (ByteArray.mk #[]), nI 0, .slice none 0 0] 47 (0, 0)), (nu2 0, .cells #[nI 3, .string (ByteArray.mk #[]), nI 0, .slice none 0 0] 47 (0, 0)), (nu3 0, .cells #[nI x.o.no, .string x.o.key, nI x.o.kind, .string x.o.text, nI x.o.n, .bool x.o.remove, .slice (a1_0, c1_0).fst ((List.map eDot x.o.dots).length) c1_0, nI x.d.place, nI x.d.time, nI x.d.no, nI x.w] 112 (0, 0))]) (fun _ => [IntKind.i64.wrap (i + (1 : Int)) = i + (1 : Int)]) (fun _ => ⟨wrap_i64 (by omega) (by omega), trivial⟩) (fun _ => ?_)
   refine J_backx (i + 1) [4, 5, 6, 8, 9, 29, 30, 31] [0, 1] [] [0, 1, 2, 3] ?_ ?_ (by kernel_rfl) rfl rfl rfl
   ·exact ⟨by omega, by omega⟩
   ·omega
  ·refine J_exit rfl ?_
   refine J_seq ?_
   refine Sq mixed [zR 0, zR 1] [] [4, 5, 6, 9, 53] (fun _ => [zP 4 (nu1 0), zV 5 .nilIface, zS 6 a2 ((ofKey key l).length) c2, zP 9 (nu2 0), zB 53 true]) (fun _ => [(nu1 0, .cells #[nI 0, .string (ByteArray.mk #[]), nI 0, .slice none 0 0] 47 (0, 0)), (nu2 0, .cells #[nI 3, .string (ByteArray.mk #[]), nI 0, .slice none 0 0] 47 (0, 0))]) (fun _ => ?_)
   refine cTt ?_
   refine jB mixed [(0, true), (1, false), (2, false), (3, false), (4, true), (5, false)] [] ?_
   refine Gr (id := 16) (rest := [(1, false), (2, false), (3, false), (4, true), (5, false)]) [zR 0] [4, 5, 9, 54] (fun _ => [zP 4 (nu1 0), zV 5 .nilIface, zP 9 (nu2 0), zS 54 a2 ((ofKey key l).length) c2]) (fun _ => [(nu1 0, .cells #[nI 0, .string (ByteArray.mk #[]), nI 0, .slice none 0 0] 47 (0, 0)), (nu2 0, .cells #[nI 3, .string (ByteArray.mk #[]), nI 0, .slice none 0 0] 47 (0, 0))]) (fun _ => ?_)
   refine JR_callp [] 65 #[.slice a2 ((ofKey key l).length) c2] (some 55) (by kernel_rfl) (fun w S hG => ?_)
   refine (vLive (hG.at 3 rfl) (by omega) hdl).mono ?_
   rintro e3 w3 ⟨mb, es, clock, ks, F, hR, hm, hst, hnd, hiff⟩
   refine ⟨_, _, _, hR, ?_⟩
   have hp := ks_len hm hnd
   have hkt : ∀ t, t ∈ ks ↔ t ∈ (liveL (ofKey key l)).map (·.o.text) := fun t => by rw [hiff, textDots_ne]
   have hkl : ks.length ≤ (ofKey key l).length := by
    have h1 : ks.length ≤ ((liveL (ofKey key l)).map (·.o.text)).length := hnd.length_le_of_subset fun t ht => (hkt t).1 ht
    rw [List.length_map] at h1
    exact Nat.le_trans h1 (List.length_filter_le _ _)
   have hes : es.size ≤ 4000000 := by
    have h1 := hp.length_eq
    rw [List.length_map, Array.length_toList] at h1
    omega
   have hksz : ∀ x ∈ es.toList, (keyB x.key).size ≤ 1000000 := fun x hx => by
    have h1 := (hkt _).1 (hp.mem_iff.1 (List.mem_map.2 ⟨x, hx, rfl⟩))
    obtain ⟨y, hy, he⟩ := List.mem_map.1 h1
    obtain ⟨p, hp2⟩ := fine_mem hc (mem_ofKey (List.mem_filter.1 hy).1)
    have h2 := opErr_fine hp2
    rw [← he]
    omega
   try simp only [cAp, nAp, aNl]
   refine JR_callp [] 64 #[.map (some mb)] (some 56) (by kernel_rfl) (fun w S hG => ?_)
   refine (vKeys (w := w) (S := S) (mb := mb)).mono ?_
   rintro e4 w4 ⟨bx, ty, hR⟩
   refine ⟨_, _, _, hR, ?_⟩
   try simp only [cAp, nAp, aNl]
   refine JR_callz [] [0] 63 #[.func (.func 102) #[] #[.pointer (some (⟨bx, 0, none⟩))]] (some 57) zero_all (by kernel_rfl) (by kernel_rfl) (by decide) (fun w S M hP hG _ => ?_)
   refine (sortedKeys hP hm.key hst hes hksz (hG.at 4 rfl)).mono ?_
   rintro e5 w5 ⟨ua, un, uc, hR⟩
   rw [sortB_perm hp, sortB_set hnd hkt] at hR
   refine ⟨_, _, _, hR, ?_⟩
   try simp only [cAp, nAp, aNl]
   refine Gr (id := 16) (rest := []) [zR 4, .wr 5 [.o 1 none] 0] [4, 5, 9] (fun _ => [zP 4 (nu1 0), zV 5 .nilIface, zP 9 (nu2 0)]) (fun _ => [(nu1 0, .cells #[nI 0, .string (ByteArray.mk #[]), nI 0, .slice none 0 0] 47 (0, 0)), (nu2 0, .cells #[nI 3, .string (ByteArray.mk #[]), nI 0, .slice ua un uc] 47 (0, 0))]) (fun _ => ?_)
   refine JR_end ?_
   refine Sq mixed [.rd 0 [.o 1 none, .o 1 none, .o 1 none, .o 1 none] 0 0, .wr 1 [.o 0 none, .o 0 none, .o 0 none, .o 0 none] 0, zR 2] [(1, [0])] [4, 5] (fun _ => [zP 4 (nu1 0), zV 5 .nilIface]) (fun _ => [(nu1 0, .cells #[nI 3, .string (ByteArray.mk #[]), nI 0, .slice ua un uc] 47 (0, 0)), (nu2 0, .cells #[nI 3, .string (ByteArray.mk #[]), nI 0, .slice ua un uc] 47 (0, 0))]) (fun _ => ?_)
   refine J_return [[.o 0 none, .o 0 none, .o 0 none, .o 0 none], []] (.tuple #[.agg #[.int .i64 3, .string (ByteArray.mk #[]), .int .i64 0, .slice ua un uc], .nilIface]) (by kernel_rfl) (fun a w s => ?_)
   rw [hval]
   exact .inr ⟨hc, _, _, _, s.retz (by simp) [] [5] rfl rfl⟩
theorem vOf {w : World} {S : Nat → Prop} {er : Nat → Addr} {eb : Nat → Array Value × TypeId} {a : Option Addr} {n c : Nat} {key : ByteArray} {l : List ComT} (hC : Rep w S .nilIface (dC er eb)) (h : Rep w S (.slice a n c) (.sl 3 (l.map eCom))) (hl : l.length ≤ 300000) (hl1 : ∀ x ∈ l, x.when.length ≤ 1000000) (hl2 : ∀ x ∈ l, x.ops.length ≤ 1000000) :
  Calls Tryz.prog 21 #[.string key, .slice a n c] w fun e w' => ((valFault key l).code ≠ 0 ∧ FVal (zero w) S w' e er (valFault key l) fun v => .tuple #[valZ, v]) ∨ ((valFault key l).code = 0 ∧ ∃ ua un uc, Ret [] (zero w) S w' e (.tuple #[valA (Sx.valOf key l) (.slice ua un uc), .nilIface]) [] [(.slice ua un uc, dStrs (Sx.valOf key l).set)]) := by
 by_cases hk3 : kindOf (opsOf key l) = 3
 ·exact vOf3 hC h hl hl1 hl2 hk3
 ·refine (vOfR hC h hl hl1 hl2 hk3).mono ?_
  rintro e w' (⟨h1, h2⟩ | ⟨h1, h2⟩)
  ·exact .inl ⟨h1, fval_zero h2⟩
  ·have hs : (Sx.valOf key l).set = [] := by simp only [Sx.valOf, if_neg hk3]
   refine .inr ⟨h1, none, 0, 0, ?_⟩
   rw [hs]
   have hz := ret_zero h2
   obtain ⟨fps, q1, q2, q3, q4⟩ := hz.gh
   exact ⟨hz.ret, hz.fr, fps, q1, q2, q3, fun x hx => by
    obtain rfl := List.mem_singleton.1 hx
    exact .nil⟩
end Go.Proofs.YtpjkiomccpjboaaGreatDoor
end
section
namespace Go.Proofs.YtpjkiomccpjboaaGreatDoor
open Go Go.Sx
theorem sameTexts_eq {w0 : World} {S : Nat → Prop} {a b : Option Addr} {n m c d : Nat} {l : List ByteArray} (ha : Rep w0 S (.slice a n c) (dStrs l)) (hb : Rep w0 S (.slice b m d) (dStrs l)) (hl : l.length ≤ 4000000) :
  Calls Tryz.prog 32 #[.slice a n c, .slice b m d] w0 fun e w' => Ret [] w0 S w' e (.bool true) [] [] := by
 have e1 := ha.slen
 have e2 := hb.slen
 rw [List.length_map] at e1 e2
 subst e1 e2
 refine ep32 (args := [.slice a l.length c, .slice b l.length d]) (G := [(_, dStrs l), (_, dStrs l)]) (by kernel_rfl) (.cons ha (.cons hb (.nil _ _))) ?_
 refine Sq mixed [zR 0] [] [0, 1, 4] (fun _ => [zS 0 a l.length c, zS 1 b l.length d, zB 4 false]) (fun _ => []) (fun _ => ?_)
 refine J_seq ?_
 refine Sp mixed [zR 0, zR 1, zR 2, zR 3, .rd 4 [] 0 7] [] [0, 1, 4, 10] (fun _ => [zS 0 a l.length c, zS 1 b l.length d, zB 4 false, zB 10 false]) (fun _ => []) (fun _ => [((↑l.length : Int) != (↑l.length : Int)) = false]) (fun _ => ⟨by simp, trivial⟩) (fun _ => ?_)
 refine cF ?_
 refine J_skip ?_
 refine J_seq ?_
 refine Sq mixed [zR 0] [] [0, 1, 4, 5] (fun _ => [zS 0 a l.length c, zS 1 b l.length d, zB 4 false, zI 5 0]) (fun _ => []) (fun _ => ?_)
 refine J_block ?_
 refine J_loopx (fun i : Int => [zS 0 a l.length c, zS 1 b l.length d, zB 4 false, zI 5 i]) (fun i : Int => []) (fun i : Int => []) (fun i : Int => [(.slice a l.length c, (dStrs l)), (.slice b l.length d, (dStrs l))]) (fun i : Int => (l.length - i).toNat) (fun i : Int => (0 ≤ i ∧ i ≤ l.length)) 0 [0, 1, 4, 5] [] [] [0, 1] ?_ (by kernel_rfl) rfl rfl rfl ?_
 ·exact ⟨by omega, by omega⟩
 rintro i ⟨hi0, hi⟩
 refine J_seq ?_
 refine Sq mixed [zR 0, zR 1, zR 2, zR 3] [] [0, 1, 4, 5, 14] (fun _ => [zS 0 a l.length c, zS 1 b l.length d, zB 4 false, zI 5 i, zB 14 (decide (i < (↑l.length : Int)))]) (fun _ => []) (fun _ => ?_)
 refine cC (t := decide (i < (↑l.length : Int))) (fun hlt => ?_) (fun hlt => ?_)
 ·have hlt2 : i < l.length := by simpa using hlt
  obtain ⟨x, hx⟩ : ∃ x, l[i.toNat]? = some x := ⟨_, List.getElem?_eq_getElem (by omega)⟩
  refine J_read0 0 rfl i.toNat (map_at hx) (by kernel_rfl) (fun b1 off1 cs1 ty1 fz1 ha1 hrd1 => ?_)
  cases ha1
  have hrd1_0 := rd0 (hrd1 0 _ rfl)
  refine J_read0 1 rfl i.toNat (map_at hx) (by kernel_rfl) (fun b2 off2 cs2 ty2 fz2 ha2 hrd2 => ?_)
  cases ha2
  have hrd2_0 := rd0 (hrd2 0 _ rfl)
  try simp only [cAp, nAp, aNl]
  refine J_skip ?_
  refine J_seq ?_
  refine J_block ?_
  refine Sp mixed [zR 0, zR 1, .rd 2 [] 0 2, .rd 3 [.r 0 (some (.string x))] 0 0, zR 4, zR 5, .rd 6 [] 0 2, .rd 7 [.r 1 (some (.string x))] 0 0, .rd 8 [] 0 7] [] [0, 1, 4, 5, 25] (fun _ => [zS 0 (sA b1 off1) l.length c, zS 1 (sA b2 off2) l.length d, zB 4 false, zI 5 i, zB 25 false]) (fun _ => []) (fun _ => [(0 : Int) ≤ i, i < (↑l.length : Int), cs1[off1 + i.toNat * (1 : Nat)]? = some (Value.string x), (0 : Int) ≤ i, i < (↑l.length : Int), cs2[off2 + i.toNat * (1 : Nat)]? = some (Value.string x), (!x.toList == x.toList) = false]) (fun _ => ⟨hi0, hlt2, hrd1_0, hi0, hlt2, hrd2_0, by simp, trivial⟩) (fun _ => ?_)
  refine cF ?_
  refine J_skip ?_
  refine J_eb ?_
  refine Gp mixed [zR 0, .rd 1 [] 0 1, zR 2] [] [0, 1, 4, 5] (fun _ => [zS 0 (sA b1 off1) l.length c, zS 1 (sA b2 off2) l.length d, zB 4 false, zI 5 (i + 1)]) (fun _ => []) (fun _ => [IntKind.i64.wrap (i + (1 : Int)) = i + (1 : Int)]) (fun _ => ⟨wrap_i64 (by omega) (by omega), trivial⟩) (fun _ => ?_)
  refine J_backx (i + 1) [0, 1, 4, 5] [] [] [0, 1] ?_ ?_ (by kernel_rfl) rfl rfl rfl
  ·exact ⟨by omega, by omega⟩
  ·omega
 ·refine J_exit rfl ?_
  refine Sq mixed [zR 0] [] [4] (fun _ => [zB 4 true]) (fun _ => []) (fun _ => ?_)
  refine J_return [[]] (.bool true) (by kernel_rfl) (fun a w s => ?_)
  exact s.ret (by simp) [] [] rfl rfl
theorem sameValue_eq {w0 : World} {S : Nat → Prop} {a b : Option Addr} {n m c d : Nat} {v : ValT} (ha : Rep w0 S (.slice a n c) (dStrs v.set)) (hb : Rep w0 S (.slice b m d) (dStrs v.set)) (hl : v.set.length ≤ 4000000) :
  Calls Tryz.prog 27 #[valA v (.slice a n c), valA v (.slice b m d)] w0 fun e w' => Ret [] w0 S w' e (.bool true) [] [] := by
 refine ep27 (args := [valA v (.slice a n c), valA v (.slice b m d)]) (G := [(_, dStrs v.set), (_, dStrs v.set)]) (by kernel_rfl) (.cons ha (.cons hb (.nil _ _))) ?_
 refine Sq mixed [.wr 0 [] 0, .wr 1 [] 0, zR 2] [] [2, 3, 4] (fun nu1 => [zP 2 (nu1 0), zP 3 (nu1 1), zB 4 false]) (fun nu1 => [(nu1 0, .cells #[nI v.kind, .string v.text, nI v.n, .slice a n c] 47 (0, 0)), (nu1 1, .cells #[nI v.kind, .string v.text, nI v.n, .slice b m d] 47 (0, 0))]) (fun nu1 => ?_)
 refine J_seq ?_
 refine jB mixed [(0, true), (1, true), (2, true), (3, true), (4, true), (5, true), (6, true), (7, true), (8, true), (9, true), (10, true), (11, true), (12, true), (13, true), (14, true), (15, true), (16, true), (17, true), (18, true), (19, true), (20, true), (21, true), (22, true), (23, true), (24, false), (25, true), (26, true)] [] ?_
 refine Gs (id := 1) (rest := [(24, false), (25, true), (26, true)]) [zR 0, .rd 1 [.o 0 none] 0 0, zR 2, .rd 3 [.o 1 none] 0 0, .rd 4 [] 0 6, zR 5, zR 6, .rd 7 [.o 0 none] 0 0, zR 8, .rd 9 [.o 1 none] 0 0, .rd 10 [] 0 6, zR 11, zR 12, zR 13, .rd 14 [.o 0 none] 0 0, zR 15, .rd 16 [.o 1 none] 0 0, .rd 17 [] 0 6, zR 18, zR 19, zR 20, .rd 21 [.o 0 none] 0 0, zR 22, .rd 23 [.o 1 none] 0 0] [4, 24, 26, 28] (fun _ => [zB 4 false, zB 24 true, zS 26 a n c, zS 28 b m d]) (fun _ => [(nu1 0, .cells #[nI v.kind, .string v.text, nI v.n, .slice a n c] 47 (0, 0)), (nu1 1, .cells #[nI v.kind, .string v.text, nI v.n, .slice b m d] 47 (0, 0))]) (fun _ => [(v.kind == v.kind) = true, (v.text.toList == v.text.toList) = true, (v.n == v.n) = true]) (fun _ => ⟨by simp, by simp, by simp, trivial⟩) (fun _ => ?_)
 refine JR_callp [] 32 #[.slice a n c, .slice b m d] (some 29) (by kernel_rfl) (fun w S hG => ?_)
 refine (sameTexts_eq (hG.at 0 rfl) (hG.at 1 rfl) hl).mono ?_
 rintro e1 w1 hR
 refine ⟨_, _, _, hR, ?_⟩
 try simp only [cAp, nAp, aNl]
 refine Gr (id := 1) (rest := []) [zR 25, zR 26] [4] (fun _ => [zB 4 true]) (fun _ => [(nu1 0, .cells #[nI v.kind, .string v.text, nI v.n, .slice a n c] 47 (0, 0)), (nu1 1, .cells #[nI v.kind, .string v.text, nI v.n, .slice b m d] 47 (0, 0))]) (fun _ => ?_)
 refine JR_end ?_
 refine J_return [[]] (.bool true) (by kernel_rfl) (fun a w s => ?_)
 exact s.ret (by simp) [] [] rfl rfl
def heavyL (l : List ComT) : Bool := decide (30 < (l.length : Int)) || l.any fun c => decide (0 < heavyC c)
theorem heavyB {w : World} {S : Nat → Prop} {a : Option Addr} {n c : Nat} {l : List ComT} (h : Rep w S (.slice a n c) (.sl 3 (l.map eCom))) :
  Calls Tryz.prog 20 #[.slice a n c] w fun e w' => Ret [] w S w' e (.bool (heavyL l)) [] [] := by
 have e1 := h.slen
 rw [List.length_map] at e1
 subst e1
 refine ep20 (args := [.slice a l.length c]) (G := [(_, .sl 3 (l.map eCom))]) (by kernel_rfl) (.cons h (.nil _ _)) ?_
 refine Sq mixed [zR 0] [] [0, 2] (fun _ => [zS 0 a l.length c, zB 2 false]) (fun _ => []) (fun _ => ?_)
 refine J_seq ?_
 refine Sq mixed [zR 0, zR 1, zR 2] [] [0, 2, 6] (fun _ => [zS 0 a l.length c, zB 2 false, zB 6 (decide ((↑l.length : Int) > 30))]) (fun _ => []) (fun _ => ?_)
 refine cC (t := decide ((↑l.length : Int) > 30)) (fun hb => ?_) (fun hb => ?_)
 ·have e : heavyL l = true := by simp only [heavyL, Bool.or_eq_true]; exact .inl (by simpa using hb)
  rw [e]
  refine Sq mixed [zR 0] [] [0, 2] (fun _ => [zS 0 a l.length c, zB 2 true]) (fun _ => []) (fun _ => ?_)
  refine J_return [[]] (.bool true) (by kernel_rfl) (fun a w s => ?_)
  exact s.ret (by simp) [] [] rfl rfl
 have hb2 : l.length ≤ 30 := by simp at hb; omega
 refine J_skip ?_
 refine J_seq ?_
 refine Sq mixed [zR 0] [] [0, 2, 3] (fun _ => [zS 0 a l.length c, zB 2 false, zI 3 0]) (fun _ => []) (fun _ => ?_)
 refine J_block ?_
 refine J_loopx (fun i : Int => [zS 0 a l.length c, zB 2 false, zI 3 i]) (fun i : Int => []) (fun i : Int => []) (fun i : Int => [(.slice a l.length c, (D.sl 3 (List.map eCom l)))]) (fun i : Int => (l.length - i).toNat) (fun i : Int => (0 ≤ i ∧ i ≤ l.length ∧ ∀ x ∈ l.take i.toNat, heavyC x = 0)) 0 [0, 2, 3] [] [] [0] ?_ (by kernel_rfl) rfl rfl rfl ?_
 ·exact ⟨by simp, by simp, by simp⟩
 rintro i ⟨hi0, hi, hno⟩
 refine J_seq ?_
 refine Sq mixed [zR 0, zR 1, zR 2, zR 3] [] [0, 2, 3, 10] (fun _ => [zS 0 a l.length c, zB 2 false, zI 3 i, zB 10 (decide (i < (↑l.length : Int)))]) (fun _ => []) (fun _ => ?_)
 refine cC (t := decide (i < (↑l.length : Int))) (fun hlt => ?_) (fun hlt => ?_)
 ·have hlt2 : i < l.length := by simpa using hlt
  obtain ⟨x, hx⟩ : ∃ x, l[i.toNat]? = some x := ⟨_, List.getElem?_eq_getElem (by omega)⟩
  refine J_read2 0 rfl i.toNat (map_at hx) (by kernel_rfl) (fun b1 off1 cs1 ty1 fz1 a1_0 c1_0 a1_1 c1_1 ha1 hrd1 => ?_)
  cases ha1
  have hrd1_0 := rd0 (hrd1 0 _ rfl)
  have hrd1_1 := hrd1 1 _ rfl
  have hrd1_2 := hrd1 2 _ rfl
  try simp only [cAp, nAp, aNl]
  refine J_skip ?_
  refine J_seq ?_
  refine J_block ?_
  refine J_seq ?_
  refine jB mixed [(0, true), (1, true), (2, true), (3, true), (4, false), (5, true)] [] ?_
  refine Gs (id := 6) (rest := [(4, false), (5, true)]) [zR 0, zR 1, .rd 2 [] 0 2, .rd 3 [.r 0 (some (.slice (a1_0, c1_0).fst ((List.map eI x.when).length) c1_0)), .r 0 (some (nI x.place)), .r 0 (some (.slice (a1_1, c1_1).fst ((List.map eOp x.ops).length) c1_1))] 0 0] [0, 2, 3, 16] (fun _ => [zS 0 (sA b1 off1) l.length c, zB 2 false, zI 3 i, zV 16 (.agg #[.slice (a1_0, c1_0).fst ((List.map eI x.when).length) c1_0, nI x.place, .slice (a1_1, c1_1).fst ((List.map eOp x.ops).length) c1_1])]) (fun _ => []) (fun _ => [(0 : Int) ≤ i, i < (↑l.length : Int), cs1[off1 + i.toNat * (3 : Nat)]? = some (Value.slice (a1_0, c1_0).fst (List.map eI x.when).length (a1_0, c1_0).snd), cs1[off1 + i.toNat * (3 : Nat) + (1 : Nat)]? = some (nI x.place), cs1[off1 + i.toNat * (3 : Nat) + (2 : Nat)]? = some (Value.slice (a1_1, c1_1).fst (List.map eOp x.ops).length (a1_1, c1_1).snd)]) (fun _ => ⟨hi0, hlt2, hrd1_0, hrd1_1, hrd1_2, trivial⟩) (fun _ => ?_)
  refine JR_callp [] 12 #[.agg #[.slice (a1_0, c1_0).fst ((List.map eI x.when).length) c1_0, .int .i64 x.place, .slice (a1_1, c1_1).fst ((List.map eOp x.ops).length) c1_1]] (some 17) (by kernel_rfl) (fun w S hG => ?_)
  refine (heavyCommit (c := x) (hG.at 1 rfl) (hG.at 2 rfl)).mono ?_
  rintro e2 w2 hR
  refine ⟨_, _, _, hR, ?_⟩
  try simp only [cAp, nAp, aNl]
  refine Gr (id := 6) (rest := []) [zR 5] [0, 2, 3, 18] (fun _ => [zS 0 (sA b1 off1) l.length c, zB 2 false, zI 3 i, zB 18 (decide (heavyC x > 0))]) (fun _ => []) (fun _ => ?_)
  refine JR_end ?_
  refine cC (t := decide (heavyC x > 0)) (fun hv => ?_) (fun hv => ?_)
  ·have e : heavyL l = true := by
    simp only [heavyL, Bool.or_eq_true]
    exact .inr (List.any_eq_true.2 ⟨x, List.mem_of_getElem? hx, by simpa using hv⟩)
   rw [e]
   refine Sq mixed [zR 0] [] [0, 2, 3] (fun _ => [zS 0 (sA b1 off1) l.length c, zB 2 true, zI 3 i]) (fun _ => []) (fun _ => ?_)
   refine J_return [[]] (.bool true) (by kernel_rfl) (fun a w s => ?_)
   exact s.ret (by simp) [] [] rfl rfl
  ·refine J_skip ?_
   refine J_eb ?_
   refine Gp mixed [zR 0, .rd 1 [] 0 1, zR 2] [] [0, 2, 3] (fun _ => [zS 0 (sA b1 off1) l.length c, zB 2 false, zI 3 (i + 1)]) (fun _ => []) (fun _ => [IntKind.i64.wrap (i + (1 : Int)) = i + (1 : Int)]) (fun _ => ⟨wrap_i64 (by omega) (by omega), trivial⟩) (fun _ => ?_)
   refine J_backx (i + 1) [0, 2, 3] [] [] [0] ?_ ?_ (by kernel_rfl) rfl rfl rfl
   ·refine ⟨by omega, by omega, fun z hz => ?_⟩
    rw [← take_snoc hi0 hx, List.mem_append, List.mem_singleton] at hz
    rcases hz with hz | rfl
    ·exact hno z hz
    ·have h1 : ¬ heavyC z > 0 := by simpa using hv
     have h2 : heavyC z = 0 ∨ heavyC z = 1 := by
      unfold heavyC
      split
      ·exact .inr rfl
      ·split
       ·exact .inr rfl
       ·exact .inl rfl
     omega
   ·omega
 ·have hil : l.take i.toNat = l := List.take_of_length_le (by simp at hlt; omega)
  rw [hil] at hno
  have e : heavyL l = false := by
   simp only [heavyL, Bool.or_eq_false_iff, List.any_eq_false]
   refine ⟨by simp; omega, fun x hx => by simp [hno x hx]⟩
  rw [e]
  refine J_exit rfl ?_
  refine Sq mixed [zR 0] [] [2] (fun _ => [zB 2 false]) (fun _ => []) (fun _ => ?_)
  refine J_return [[]] (.bool false) (by kernel_rfl) (fun a w s => ?_)
  exact s.ret (by simp) [] [] rfl rfl
end Go.Proofs.YtpjkiomccpjboaaGreatDoor
end
section
namespace Go.Proofs.YtpjkiomccpjboaaGreatDoor
open Go Go.Sx
abbrev keyK : ByteArray := ByteArray.mk #[107]
theorem nameK : nameOk keyK = true := by decide
end Go.Proofs.YtpjkiomccpjboaaGreatDoor
end
section
namespace Go.Proofs.YtpjkiomccpjboaaGreatDoor
open Go Go.Sx
theorem light {l : List ComT} (h : heavyL l = false) : l.length ≤ 30 ∧ ∀ c ∈ l, heavyC c = 0 := by
 simp only [heavyL, Bool.or_eq_false_iff, List.any_eq_false, decide_eq_false_iff_not, decide_eq_true_eq] at h
 obtain ⟨h1, h2⟩ := h
 refine ⟨by omega, fun c hc => ?_⟩
 have h3 := h2 c hc
 unfold heavyC at h3 ⊢
 split at h3
 ·omega
 ·split at h3
  ·omega
  ·rename_i h5 h6
   rw [if_neg h5, if_neg h6]
theorem light_com {c : ComT} (h : heavyC c = 0) : c.when.length ≤ 20 ∧ c.ops.length ≤ 20 ∧ ∀ o ∈ c.ops, o.dots.length ≤ 70 := by
 unfold heavyC at h
 split at h
 ·cases h
 ·split at h
  ·cases h
  ·rename_i h1 h2
   refine ⟨by omega, by omega, fun o ho => ?_⟩
   have h3 : heavyOp o = false := by
    cases h4 : heavyOp o with
    | false => rfl
    | true => exact absurd (List.any_eq_true.2 ⟨o, ho, h4⟩) h2
   simp [heavyOp] at h3
   omega
theorem enterB_len (l : List ByteArray) (s : ByteArray) : (enterB l s).length ≤ l.length + 1 := by
 induction l with
 | nil => simp [enterB]
 | cons x l ih =>
  unfold enterB
  split
  ·rw [List.length_cons, List.length_cons]
   omega
  ·split
   ·omega
   ·simp
theorem setOf_lenF : ∀ (l p : List ByteArray), (l.foldl enterB p).length ≤ p.length + l.length
 | [], p => by simp
 | x :: l, p => by
  have h1 := setOf_lenF l (enterB p x)
  have h2 := enterB_len p x
  rw [List.foldl_cons, List.length_cons]
  omega
theorem valOf_len {key : ByteArray} {l : List ComT} (h : (valFault key l).code = 0) : (Sx.valOf key l).set.length ≤ 12 * l.length := by
 unfold Sx.valOf
 dsimp only
 split
 ·refine Nat.le_trans (setOf_lenF _ _) ?_
  rw [List.length_map, List.length_nil, Nat.zero_add]
  exact Nat.le_trans (List.length_filter_le _ _) (ofKey_len h)
 ·simp
theorem Rep.someA {w : World} {S : Nat → Prop} {a : Option Addr} {n c k : Nat} {rows : List (List D)} (h : Rep w S (.slice a n c) (.sl k rows)) (h0 : rows ≠ []) : ∃ b off, a = some ⟨b, off, none⟩ := by
 cases h with
 | nil => exact absurd rfl h0
 | sl u hb hS hc => exact ⟨_, _, rfl⟩
end Go.Proofs.YtpjkiomccpjboaaGreatDoor
end
section
namespace Go.Proofs.YtpjkiomccpjboaaGreatDoor
open Go Go.Sx
theorem vOwn {w0 : World} {S : Nat → Prop} {a1 a2 : Option Addr} {n1 c1 n2 c2 : Nat} {c : ComT} (h1 : Rep w0 S (.slice a1 n1 c1) (dInts c.when)) (h2 : Rep w0 S (.slice a2 n2 c2) (.sl 7 (c.ops.map eOp))) (hl1 : c.when.length ≤ 1000000) (hl2 : c.ops.length ≤ 1000000) (hl3 : ∀ o ∈ c.ops, o.dots.length ≤ 1000000) :
  Calls Tryz.prog 75 #[.agg #[.slice a1 n1 c1, .int .i64 c.place, .slice a2 n2 c2]] w0 fun e w' => ∃ u1 d1 u2 d2, Ret [] w0 S w' e (.agg #[.slice u1 n1 d1, .int .i64 c.place, .slice u2 n2 d2]) [] [(.slice u1 n1 d1, dInts c.when), (.slice u2 n2 d2, .sl 7 (c.ops.map eOp))] := by
 obtain rfl := rep_ints_len h1
 have e2 := h2.slen
 rw [List.length_map] at e2
 subst e2
 refine ep75 (args := [.agg #[.slice a1 c.when.length c1, .int .i64 c.place, .slice a2 c.ops.length c2]]) (G := [(_, dInts c.when), (_, .sl 7 (c.ops.map eOp))]) (by kernel_rfl) (.cons h1 (.cons h2 (.nil _ _))) ?_
 refine Sq mixed [.wr 0 [] 0, .wr 1 [] 0] [] [1, 2] (fun nu1 => [zP 1 (nu1 0), zP 2 (nu1 1)]) (fun nu1 => [(nu1 0, .cells #[.slice a1 c.when.length c1, nI c.place, .slice a2 c.ops.length c2] 28 (0, 0)), (nu1 1, .cells #[.slice none 0 0, nI 0, .slice none 0 0] 28 (0, 0))]) (fun nu1 => ?_)
 refine J_seq ?_
 refine jB mixed [(0, true), (1, true), (2, false), (3, true), (4, false)] [] ?_
 refine Gr (id := 1) (rest := [(2, false), (3, true), (4, false)]) [zR 0, .rd 1 [.o 0 none] 0 0] [1, 2, 5] (fun _ => [zP 1 (nu1 0), zP 2 (nu1 1), zS 5 a1 c.when.length c1]) (fun _ => [(nu1 0, .cells #[.slice a1 c.when.length c1, nI c.place, .slice a2 c.ops.length c2] 28 (0, 0)), (nu1 1, .cells #[.slice none 0 0, nI 0, .slice none 0 0] 28 (0, 0))]) (fun _ => ?_)
 refine JR_callp [] 80 #[.slice a1 c.when.length c1] (some 6) (by kernel_rfl) (fun w S hG => ?_)
 refine (cloneInts (hG.at 0 rfl) hl1).mono ?_
 rintro e1 w1 ⟨u1, d1, hR⟩
 refine ⟨_, _, _, hR, ?_⟩
 try simp only [cAp, nAp, aNl]
 refine Gr (id := 1) (rest := []) [zR 3, .wr 4 [.o 0 none] 0] [1, 2] (fun _ => [zP 1 (nu1 0), zP 2 (nu1 1)]) (fun _ => [(nu1 0, .cells #[.slice u1 c.when.length d1, nI c.place, .slice a2 c.ops.length c2] 28 (0, 0)), (nu1 1, .cells #[.slice none 0 0, nI 0, .slice none 0 0] 28 (0, 0))]) (fun _ => ?_)
 refine JR_end ?_
 refine J_seq ?_
 refine jB mixed [(0, true), (1, true), (2, false), (3, true), (4, false)] [] ?_
 refine Gr (id := 2) (rest := [(2, false), (3, true), (4, false)]) [zR 0, .rd 1 [.o 0 none] 0 0] [1, 2, 9] (fun _ => [zP 1 (nu1 0), zP 2 (nu1 1), zS 9 a2 c.ops.length c2]) (fun _ => [(nu1 0, .cells #[.slice u1 c.when.length d1, nI c.place, .slice a2 c.ops.length c2] 28 (0, 0)), (nu1 1, .cells #[.slice none 0 0, nI 0, .slice none 0 0] 28 (0, 0))]) (fun _ => ?_)
 refine JR_callp [] 108 #[.slice a2 c.ops.length c2] (some 10) (by kernel_rfl) (fun w S hG => ?_)
 refine (cloneOps (hG.at 1 rfl) hl2).mono ?_
 rintro e3 w3 ⟨u2, d2, hR⟩
 refine ⟨_, _, _, hR, ?_⟩
 try simp only [cAp, nAp, aNl]
 refine Gr (id := 2) (rest := []) [zR 3, .wr 4 [.o 0 none] 0] [1, 2] (fun _ => [zP 1 (nu1 0), zP 2 (nu1 1)]) (fun _ => [(nu1 0, .cells #[.slice u1 c.when.length d1, nI c.place, .slice u2 c.ops.length d2] 28 (0, 0)), (nu1 1, .cells #[.slice none 0 0, nI 0, .slice none 0 0] 28 (0, 0))]) (fun _ => ?_)
 refine JR_end ?_
 refine J_seq ?_
 refine Sq mixed [zR 0, .rd 1 [.o 0 none] 0 0, zR 2, zR 3] [] [1, 2, 14, 15] (fun _ => [zP 1 (nu1 0), zP 2 (nu1 1), zI 14 (↑c.ops.length : Int), zI 15 0]) (fun _ => [(nu1 0, .cells #[.slice u1 c.when.length d1, nI c.place, .slice u2 c.ops.length d2] 28 (0, 0)), (nu1 1, .cells #[.slice none 0 0, nI 0, .slice none 0 0] 28 (0, 0))]) (fun _ => ?_)
 refine J_block ?_
 refine J_loopx (fun i : Int => [zP 1 (nu1 0), zP 2 (nu1 1), zI 14 (↑c.ops.length : Int), zI 15 i]) (fun i : Int => [(nu1 0, .cells #[.slice u1 c.when.length d1, nI c.place, .slice u2 c.ops.length d2] 28 (0, 0)), (nu1 1, .cells #[.slice none 0 0, nI 0, .slice none 0 0] 28 (0, 0))]) (fun i : Int => [cAcc (.slice u1 c.when.length d1) 3 1 (List.map eI c.when), cAcc (.slice u2 c.ops.length d2) 24 7 (List.map eOp c.ops)]) (fun i : Int => [(.slice a1 c.when.length c1, (dInts c.when)), (.slice a2 c.ops.length c2, (D.sl 7 (List.map eOp c.ops)))]) (fun i : Int => (c.ops.length - i).toNat) (fun i : Int => (0 ≤ i ∧ i ≤ c.ops.length)) 0 [1, 2, 14, 15] [0, 1] [0, 1] [0, 1] ?_ (by kernel_rfl) rfl rfl rfl ?_
 ·exact ⟨by omega, by omega⟩
 rintro i ⟨hi0, hi⟩
 refine Sq mixed [zR 0] [] [1, 2, 14, 15, 16] (fun _ => [zP 1 (nu1 0), zP 2 (nu1 1), zI 14 (↑c.ops.length : Int), zI 15 i, zB 16 (decide (i < (↑c.ops.length : Int)))]) (fun _ => [(nu1 0, .cells #[.slice u1 c.when.length d1, nI c.place, .slice u2 c.ops.length d2] 28 (0, 0)), (nu1 1, .cells #[.slice none 0 0, nI 0, .slice none 0 0] 28 (0, 0))]) (fun _ => ?_)
 refine J_seq ?_
 refine cC (t := decide (i < (↑c.ops.length : Int))) (fun hlt => ?_) (fun hlt => ?_)
 ·have hlt2 : i < c.ops.length := by simpa using hlt
  obtain ⟨o, ho⟩ : ∃ o, c.ops[i.toNat]? = some o := ⟨_, List.getElem?_eq_getElem (by omega)⟩
  refine J_openacc 1 rfl (by intro h0; rw [List.map_eq_nil_iff] at h0; rw [h0] at ho; simp at ho) fun g cur xs hu _ _ hrow => ?_
  subst hu
  refine J_stpx (stp_readrows 1 rfl i.toNat (map_at ho)) fun ls hls => ?_
  obtain ⟨hls1, hls2⟩ := hls
  obtain ⟨⟨da, dc⟩, rfl⟩ : ∃ l0, ls = [l0] := List.length_eq_one_iff.1 hls1
  have hcur : cur[0 + i.toNat * 7 + 6]? = some (.slice da (o.dots.map eDot).length dc) := by rw [Nat.zero_add]; exact hrow.atx (hls2 6 _ rfl)
  have hsz : 0 + i.toNat * 7 + 6 + 1 ≤ cur.size := (Array.getElem?_eq_some_iff.1 hcur).1
  try simp only [cAp, nAp, aNl]
  refine J_skip ?_
  try simp only [cAp, nAp, aNl]
  refine J_seq ?_
  try simp only [cAp, nAp, aNl]
  refine J_block ?_
  try simp only [cAp, nAp, aNl]
  refine J_seq ?_
  try simp only [cAp, nAp, aNl]
  refine Gq mixed [zR 0, zR 1] [] [1, 2, 3, 14, 15] (fun _ => [zP 1 (nu1 0), zP 2 (nu1 1), zI 3 i, zI 14 (↑c.ops.length : Int), zI 15 i]) (fun _ => [(nu1 0, .cells #[.slice u1 c.when.length d1, nI c.place, .slice (sA g 0) c.ops.length d2] 28 (0, 0)), (nu1 1, .cells #[.slice none 0 0, nI 0, .slice none 0 0] 28 (0, 0)), (g, .cells cur 24 (0, 0))]) (fun _ => ?_)
  try simp only [cAp, nAp, aNl]
  refine jB mixed [(0, true), (1, true), (2, true), (3, true), (4, true), (5, true), (6, true), (7, true), (8, true), (9, false), (10, true), (11, true), (12, false)] [(12, [2])] ?_
  refine JR_run (id := 6) (rest := [(9, false), (10, true), (11, true), (12, false)]) [.rd 0 [] 0 0, .rd 1 [.o 0 none] 0 0, .rd 2 [] 0 0, .rd 3 [] 0 0, .rd 4 [.o 0 none] 0 0, .rd 5 [] 0 0, .rd 6 [] 0 2, .rd 7 [] 0 0, .rd 8 [.o 2 (some (.slice da ((List.map eDot o.dots).length) dc))] 0 0] [1, 2, 3, 14, 15, 19, 20, 26] (E1 := fun _ => [(1, .val (.pointer (some (⟨nu1 0, 0, none⟩)))), (2, .val (.pointer (some (⟨nu1 1, 0, none⟩)))), (3, .val (.int .i64 i)), (14, .val (.int .i64 (↑c.ops.length : Int))), (15, .val (.int .i64 i)), (19, .val (.slice (some (⟨g, 0, none⟩)) c.ops.length d2)), (20, .val (.int .i64 i)), (26, .val (.slice da ((List.map eDot o.dots).length) dc))]) (h1 := fun _ => [(nu1 0, .cells #[.slice u1 c.when.length d1, .int .i64 c.place, .slice (some (⟨g, 0, none⟩)) c.ops.length d2] 28 (0, 0)), (nu1 1, .cells #[.slice none 0 0, .int .i64 0, .slice none 0 0] 28 (0, 0)), (g, .cells cur 24 (0, 0))]) (p1 := fun _ => [(0 : Int) ≤ i, i < (↑c.ops.length : Int), cur[(0 : Nat) + i.toNat * (7 : Nat) + (6 : Nat)]? = some (Value.slice da (List.map eDot o.dots).length dc)]) (W1 := [(12, [2])]) (fun _ => by kernel_rfl) (fun _ => ⟨hi0, hlt2, hcur, trivial⟩) (fun _ => ?_)
  refine JR_callp [] 109 #[.slice da ((List.map eDot o.dots).length) dc] (some 27) (by kernel_rfl) (fun w S hG => ?_)
  refine (cloneDots (xs := o.dots) (hG.at 2 rfl) (hl3 o (List.mem_of_getElem? ho))).mono ?_
  rintro e4 w4 ⟨u3, d3, hR⟩
  refine ⟨_, _, _, hR, ?_⟩
  try simp only [cAp, nAp, aNl]
  refine Gs (id := 6) (rest := []) [.rd 10 [] 0 2, zR 11, .wr 12 [.o 2 (some (.slice u3 ((List.map eDot o.dots).length) d3))] 0] [1, 2, 3, 14, 15] (fun _ => [zP 1 (nu1 0), zP 2 (nu1 1), zI 3 i, zI 14 (↑c.ops.length : Int), zI 15 i]) (fun _ => [(nu1 0, .cells #[.slice u1 c.when.length d1, nI c.place, .slice (sA g 0) c.ops.length d2] 28 (0, 0)), (nu1 1, .cells #[.slice none 0 0, nI 0, .slice none 0 0] 28 (0, 0)), (g, .cells (cur.setIfInBounds (0 + i.toNat * 7 + 6) (Value.slice u3 (List.map eDot o.dots).length d3)) 24 (0, 0))]) (fun _ => [(0 : Int) ≤ i, i < (↑c.ops.length : Int), (Value.slice u3 (List.map eDot o.dots).length d3).oneCell' = true, (0 : Nat) + i.toNat * (7 : Nat) + (6 : Nat) < cur.size]) (fun _ => ⟨hi0, hlt2, ?_, by omega, trivial⟩) (fun _ => ?_)
  ·rfl
  try simp only [cAp, nAp, aNl]
  refine JR_end ?_
  try simp only [cAp, nAp, aNl]
  refine J_eb ?_
  try simp only [cAp, nAp, aNl]
  refine Gp mixed [.rd 0 [] 0 1, zR 1] [] [1, 2, 3, 14, 15] (fun _ => [zP 1 (nu1 0), zP 2 (nu1 1), zI 3 i, zI 14 (↑c.ops.length : Int), zI 15 (i + 1)]) (fun _ => [(nu1 0, .cells #[.slice u1 c.when.length d1, nI c.place, .slice (sA g 0) c.ops.length d2] 28 (0, 0)), (nu1 1, .cells #[.slice none 0 0, nI 0, .slice none 0 0] 28 (0, 0)), (g, .cells (cur.setIfInBounds (0 + i.toNat * 7 + 6) (Value.slice u3 (List.map eDot o.dots).length d3)) 24 (0, 0))]) (fun _ => [IntKind.i64.wrap (i + (1 : Int)) = i + (1 : Int)]) (fun _ => ⟨wrap_i64 (by omega) (by omega), trivial⟩) (fun _ => ?_)
  try simp only [cAp, nAp, aNl]
  refine J_stp (stp_freeze 2 rfl) ?_
  have hsame : (List.map eOp c.ops).set i.toNat ((eOp o).set 6 (.sl 3 (o.dots.map eDot))) = List.map eOp c.ops := set_same (map_at ho)
  refine J_stp (stp_setrows 1 3 i.toNat 6 rfl hrow.len (map_at ho) (by decide) rfl) ?_
  rw [hsame]
  refine J_hide 2 rfl ?_
  have hrow2 : Row (cur.setIfInBounds (0 + i.toNat * 7 + 6) (.slice u3 (o.dots.map eDot).length d3)) d2 (c.ops.map eOp).length 7 (xs.set (i.toNat * 7 + 6) (.slice u3 (o.dots.map eDot).length d3)) := by rw [Nat.zero_add]; exact hrow.set1 _ _
  refine J_stp (stp_closeacc 2 1 rfl rfl hrow2 (by decide)) ?_
  rw [show (List.map eOp c.ops).length = c.ops.length from List.length_map ..]
  refine J_backx (i + 1) [1, 2, 14, 15] [0, 1] [0, 1] [0, 1] ?_ ?_ (by kernel_rfl) rfl rfl rfl
  ·exact ⟨by omega, by omega⟩
  ·omega
 ·refine J_exit rfl ?_
  refine Sq mixed [.rd 0 [.o 0 none, .o 0 none, .o 0 none] 0 0, .wr 1 [.o 1 none, .o 1 none, .o 1 none] 0] [(1, [1])] [2] (fun _ => [zP 2 (nu1 1)]) (fun _ => [(nu1 0, .cells #[.slice u1 c.when.length d1, nI c.place, .slice u2 c.ops.length d2] 28 (0, 0)), (nu1 1, .cells #[.slice u1 c.when.length d1, nI c.place, .slice u2 c.ops.length d2] 28 (0, 0))]) (fun _ => ?_)
  refine J_return [[.o 1 none, .o 1 none, .o 1 none]] (.agg #[.slice u1 c.when.length d1, .int .i64 c.place, .slice u2 c.ops.length d2]) (by kernel_rfl) (fun a w s => ?_)
  have s2 := (s.stp (stp_freeze 0 rfl)).stp (stp_freeze 0 rfl)
  exact ⟨_, _, _, _, s2.ret (by simp) [] [2, 3] rfl rfl⟩
end Go.Proofs.YtpjkiomccpjboaaGreatDoor
end
section
namespace Go.Sx
open Go
structure PutT where
 when : List Int
 place : Int
 op : OpT
def oneC (p : PutT) : ComT := ⟨p.when, p.place, [p.op]⟩
def dotP (p : PutT) : DotT := ⟨p.place, p.when.getD p.place.toNat 0, p.op.no⟩
def keyC (L : List PutT) (key : ByteArray) : List ComT := (L.filter fun p => decide (p.op.key = key)).map oneC
end Go.Sx
namespace Go.Proofs.YtpjkiomccpjboaaGreatDoor
open Go Go.Sx
theorem rowG_zero {G : List (Value × D)} : ∀ n : Nat, RowG G (List.replicate n (.int .i64 0)) ((List.replicate n (0 : Int)).map eI).flatten
 | 0 => trivial
 | n + 1 => ⟨.inl ⟨rfl, rfl⟩, rowG_zero n⟩
theorem newFin {nn : Nat} {E : Env} {S : Nat → Prop} {w0 : World} {a : Act} {w : World} {g : Value × D} {c0 c1 c2 c3 : Nat} (n : Nat) {cs : Array Value} {v : Value} (s : St nn E [(c0, .cells cs 3 (0, 0)), (c1, .map #[] 0), (c2, .map #[] 0), (c3, .cells #[.int .i64 n, .slice (some ⟨c0, 0, none⟩) n n, .map (some c1), .map (some c2)] 133 (0, 0))] [] [([], w0)] ⟨newS S [] w0, [], [g]⟩ a w) (hR : RowG [g] cs.toList ((List.replicate n (0 : Int)).map eI).flatten) :
  Ret [] w0 S w (.returned v) v [cObj c3 (.cells #[.int .i64 n, .slice (some ⟨c0, 0, none⟩) n n, .map (some c1), .map (some c2)] 133 (0, 0)), cObj c1 (.map #[] 0), cStar [], cMapG c2 okDot (dotSet [])] [(.slice (some ⟨c0, 0, none⟩) n n, dInts (List.replicate n 0))] := by
 obtain ⟨fps, s⟩ := s
 have s1 := s.data (cap := n) (rows := (List.replicate n (0 : Int)).map eI) (size := 1) 0 rfl (by decide) (by intro row h; obtain ⟨x, _, rfl⟩ := List.mem_map.1 h; rfl) (by simp) hR
 rw [show ((List.replicate n (0 : Int)).map eI).length = n by simp] at s1
 have s2 := St.hide ⟨_, s1⟩ 2 rfl
 have s3 := s2.hide 0 rfl
 have s4 := s3.stp (stp_add (cStar []) star_nil)
 have s5 := s4.hide 0 rfl
 have s6 := s5.stp (stp_conv 3 rfl (mapg_eqv ((MapG.empty okDot).congr dotSet_nil)))
 exact s6.ret (by simp) [0, 1, 2, 3] [1] rfl rfl
theorem vNew {w : World} {S : Nat → Prop} {er : Nat → Addr} {eb : Nat → Array Value × TypeId} {p : Int} (hC : Rep w S .nilIface (dC er eb)) :
  Calls Tryz.prog 34 #[.int .i64 p] w fun e w' => ((p < 1 ∨ 6 < p) ∧ Ret [] w S w' e (.tuple #[.pointer none, .iface 243 (.pointer (some (er 2)))]) [] []) ∨
   ((1 ≤ p ∧ p ≤ 6) ∧ ∃ b ba mk md, Ret [] w S w' e (.tuple #[.pointer (some ⟨b, 0, none⟩), .nilIface]) [cObj b (.cells #[.int .i64 p, .slice (some ⟨ba, 0, none⟩) p.toNat p.toNat, .map (some mk), .map (some md)] 133 (0, 0)), cObj mk (.map #[] 0), cStar [], cMapG md okDot (dotSet [])] [(.slice (some ⟨ba, 0, none⟩) p.toNat p.toNat, dInts (List.replicate p.toNat 0))]) := by
 refine ep34 (args := [.int .i64 p]) (S := S) (G := [(_, dC er eb)]) (by kernel_rfl) (.cons hC (.nil _ _)) ?_
 by_cases h1 : p < 1
 ·refine J_stp (stp_all 0 [1] rfl rfl) ?_
  refine J_glob 1 rfl (fun csg1 tyg1 fzg1 hglob1 => ?_)
  try simp only [cAp, nAp, aNl]
  refine Sq mixed [zR 0, zR 1] [] [0, 2, 3] (fun _ => [zI 0 p, zV 2 (.pointer none), zV 3 .nilIface]) (fun _ => []) (fun _ => ?_)
  refine J_seq ?_
  refine Sp mixed [zR 0, .rd 1 [] 0 6, zR 2, .rd 3 [] 1 0, .rd 4 [] 1 0, zR 5] [] [0, 2, 3, 9] (fun _ => [zI 0 p, zV 2 (.pointer none), zV 3 .nilIface, zB 9 true]) (fun _ => []) (fun _ => [decide (p < (1 : Int)) = true]) (fun _ => ⟨by simp; omega, trivial⟩) (fun _ => ?_)
  refine cTt ?_
  refine Sp mixed [.rd 0 [.r 0 (some (.iface 243 (.pointer (some (er 2)))))] 0 0, zR 1, zR 2] [] [0, 2, 3] (fun _ => [zI 0 p, zV 2 (.pointer none), zV 3 (.iface 243 (.pointer (some (er 2))))]) (fun _ => []) (fun _ => [csg1[(0 : Nat)]? = some (Value.iface (243 : Nat) (Value.pointer (some (er (2 : Nat)))))]) (fun _ => ⟨hglob1, trivial⟩) (fun _ => ?_)
  refine J_return [[], []] (.tuple #[.pointer none, .iface 243 (.pointer (some (er 2)))]) (by kernel_rfl) (fun a w s => ?_)
  exact .inl ⟨.inl h1, s.ret (by simp) [] [] rfl rfl⟩
 by_cases h6 : 6 < p
 ·refine J_stp (stp_all 0 [1] rfl rfl) ?_
  refine J_glob 1 rfl (fun csg1 tyg1 fzg1 hglob1 => ?_)
  try simp only [cAp, nAp, aNl]
  refine Sq mixed [zR 0, zR 1] [] [0, 2, 3] (fun _ => [zI 0 p, zV 2 (.pointer none), zV 3 .nilIface]) (fun _ => []) (fun _ => ?_)
  refine J_seq ?_
  refine Sp mixed [zR 0, .rd 1 [] 0 7, zR 2, zR 3, .rd 4 [] 0 6, zR 5] [] [0, 2, 3, 9] (fun _ => [zI 0 p, zV 2 (.pointer none), zV 3 .nilIface, zB 9 true]) (fun _ => []) (fun _ => [decide (p < (1 : Int)) = false, decide (p > (6 : Int)) = true]) (fun _ => ⟨by simp; omega, by simp; omega, trivial⟩) (fun _ => ?_)
  refine cTt ?_
  refine Sp mixed [.rd 0 [.r 0 (some (.iface 243 (.pointer (some (er 2)))))] 0 0, zR 1, zR 2] [] [0, 2, 3] (fun _ => [zI 0 p, zV 2 (.pointer none), zV 3 (.iface 243 (.pointer (some (er 2))))]) (fun _ => []) (fun _ => [csg1[(0 : Nat)]? = some (Value.iface (243 : Nat) (Value.pointer (some (er (2 : Nat)))))]) (fun _ => ⟨hglob1, trivial⟩) (fun _ => ?_)
  refine J_return [[], []] (.tuple #[.pointer none, .iface 243 (.pointer (some (er 2)))]) (by kernel_rfl) (fun a w s => ?_)
  exact .inl ⟨.inr h6, s.ret (by simp) [] [] rfl rfl⟩
 obtain ⟨n, rfl⟩ : ∃ n : Nat, p = n := ⟨p.toNat, by omega⟩
 refine Sq mixed [zR 0, zR 1] [] [0, 2, 3] (fun _ => [zI 0 (↑n : Int), zV 2 (.pointer none), zV 3 .nilIface]) (fun _ => []) (fun _ => ?_)
 refine J_seq ?_
 refine Sp mixed [zR 0, .rd 1 [] 0 7, zR 2, zR 3, .rd 4 [] 0 7, zR 5] [] [0, 2, 3, 9] (fun _ => [zI 0 (↑n : Int), zV 2 (.pointer none), zV 3 .nilIface, zB 9 false]) (fun _ => []) (fun _ => [decide ((↑n : Int) < (1 : Int)) = false, decide ((↑n : Int) > (6 : Int)) = false]) (fun _ => ⟨by simp; omega, by simp; omega, trivial⟩) (fun _ => ?_)
 refine cF ?_
 refine J_skip ?_
 refine J_seq ?_
 rcases (by omega : n = 1 ∨ n = 2 ∨ n = 3 ∨ n = 4 ∨ n = 5 ∨ n = 6) with rfl | rfl | rfl | rfl | rfl | rfl
 ·refine J_reg mixed [.rd 0 [] 0 0, .rd 1 [] 0 0, .wr 2 [] 0, .wr 3 [] 0, .wr 4 [] 0, .rd 5 [] 0 0, .wr 6 [] 0, .rd 7 [] 0 0, .rd 8 [] 0 0] [] [2, 3] (E1 := fun nu1 => [(2, .val (.pointer (some (⟨nu1 3, 0, none⟩)))), (3, .val (.nilIface))]) (h1 := fun nu1 => [(nu1 0, .cells #[.int .i64 0] 3 (0, 0)), (nu1 1, Obj.map #[] 0), (nu1 2, Obj.map #[] 0), (nu1 3, .cells #[.int .i64 1, .slice (some (⟨nu1 0, 0, none⟩)) 1 1, .map (some (nu1 1)), .map (some (nu1 2))] 133 (0, 0))]) (p1 := fun nu1 => []) (W1 := []) (by kernel_rfl) (fun _ => by kernel_rfl) (fun _ => trivial) (fun nu1 => ?_)
  refine J_return [[], []] (.tuple #[.pointer (some (⟨nu1 3, 0, none⟩)), .nilIface]) (by kernel_rfl) (fun a w s => ?_)
  exact .inr ⟨by omega, _, _, _, _, newFin 1 s (rowG_zero 1)⟩
 ·refine J_reg mixed [.rd 0 [] 0 0, .rd 1 [] 0 0, .wr 2 [] 0, .wr 3 [] 0, .wr 4 [] 0, .rd 5 [] 0 0, .wr 6 [] 0, .rd 7 [] 0 0, .rd 8 [] 0 0] [] [2, 3] (E1 := fun nu1 => [(2, .val (.pointer (some (⟨nu1 3, 0, none⟩)))), (3, .val (.nilIface))]) (h1 := fun nu1 => [(nu1 0, .cells #[.int .i64 0, .int .i64 0] 3 (0, 0)), (nu1 1, Obj.map #[] 0), (nu1 2, Obj.map #[] 0), (nu1 3, .cells #[.int .i64 2, .slice (some (⟨nu1 0, 0, none⟩)) 2 2, .map (some (nu1 1)), .map (some (nu1 2))] 133 (0, 0))]) (p1 := fun nu1 => []) (W1 := []) (by kernel_rfl) (fun _ => by kernel_rfl) (fun _ => trivial) (fun nu1 => ?_)
  refine J_return [[], []] (.tuple #[.pointer (some (⟨nu1 3, 0, none⟩)), .nilIface]) (by kernel_rfl) (fun a w s => ?_)
  exact .inr ⟨by omega, _, _, _, _, newFin 2 s (rowG_zero 2)⟩
 ·refine J_reg mixed [.rd 0 [] 0 0, .rd 1 [] 0 0, .wr 2 [] 0, .wr 3 [] 0, .wr 4 [] 0, .rd 5 [] 0 0, .wr 6 [] 0, .rd 7 [] 0 0, .rd 8 [] 0 0] [] [2, 3] (E1 := fun nu1 => [(2, .val (.pointer (some (⟨nu1 3, 0, none⟩)))), (3, .val (.nilIface))]) (h1 := fun nu1 => [(nu1 0, .cells #[.int .i64 0, .int .i64 0, .int .i64 0] 3 (0, 0)), (nu1 1, Obj.map #[] 0), (nu1 2, Obj.map #[] 0), (nu1 3, .cells #[.int .i64 3, .slice (some (⟨nu1 0, 0, none⟩)) 3 3, .map (some (nu1 1)), .map (some (nu1 2))] 133 (0, 0))]) (p1 := fun nu1 => []) (W1 := []) (by kernel_rfl) (fun _ => by kernel_rfl) (fun _ => trivial) (fun nu1 => ?_)
  refine J_return [[], []] (.tuple #[.pointer (some (⟨nu1 3, 0, none⟩)), .nilIface]) (by kernel_rfl) (fun a w s => ?_)
  exact .inr ⟨by omega, _, _, _, _, newFin 3 s (rowG_zero 3)⟩
 ·refine J_reg mixed [.rd 0 [] 0 0, .rd 1 [] 0 0, .wr 2 [] 0, .wr 3 [] 0, .wr 4 [] 0, .rd 5 [] 0 0, .wr 6 [] 0, .rd 7 [] 0 0, .rd 8 [] 0 0] [] [2, 3] (E1 := fun nu1 => [(2, .val (.pointer (some (⟨nu1 3, 0, none⟩)))), (3, .val (.nilIface))]) (h1 := fun nu1 => [(nu1 0, .cells #[.int .i64 0, .int .i64 0, .int .i64 0, .int .i64 0] 3 (0, 0)), (nu1 1, Obj.map #[] 0), (nu1 2, Obj.map #[] 0), (nu1 3, .cells #[.int .i64 4, .slice (some (⟨nu1 0, 0, none⟩)) 4 4, .map (some (nu1 1)), .map (some (nu1 2))] 133 (0, 0))]) (p1 := fun nu1 => []) (W1 := []) (by kernel_rfl) (fun _ => by kernel_rfl) (fun _ => trivial) (fun nu1 => ?_)
  refine J_return [[], []] (.tuple #[.pointer (some (⟨nu1 3, 0, none⟩)), .nilIface]) (by kernel_rfl) (fun a w s => ?_)
  exact .inr ⟨by omega, _, _, _, _, newFin 4 s (rowG_zero 4)⟩
 ·refine J_reg mixed [.rd 0 [] 0 0, .rd 1 [] 0 0, .wr 2 [] 0, .wr 3 [] 0, .wr 4 [] 0, .rd 5 [] 0 0, .wr 6 [] 0, .rd 7 [] 0 0, .rd 8 [] 0 0] [] [2, 3] (E1 := fun nu1 => [(2, .val (.pointer (some (⟨nu1 3, 0, none⟩)))), (3, .val (.nilIface))]) (h1 := fun nu1 => [(nu1 0, .cells #[.int .i64 0, .int .i64 0, .int .i64 0, .int .i64 0, .int .i64 0] 3 (0, 0)), (nu1 1, Obj.map #[] 0), (nu1 2, Obj.map #[] 0), (nu1 3, .cells #[.int .i64 5, .slice (some (⟨nu1 0, 0, none⟩)) 5 5, .map (some (nu1 1)), .map (some (nu1 2))] 133 (0, 0))]) (p1 := fun nu1 => []) (W1 := []) (by kernel_rfl) (fun _ => by kernel_rfl) (fun _ => trivial) (fun nu1 => ?_)
  refine J_return [[], []] (.tuple #[.pointer (some (⟨nu1 3, 0, none⟩)), .nilIface]) (by kernel_rfl) (fun a w s => ?_)
  exact .inr ⟨by omega, _, _, _, _, newFin 5 s (rowG_zero 5)⟩
 ·refine J_reg mixed [.rd 0 [] 0 0, .rd 1 [] 0 0, .wr 2 [] 0, .wr 3 [] 0, .wr 4 [] 0, .rd 5 [] 0 0, .wr 6 [] 0, .rd 7 [] 0 0, .rd 8 [] 0 0] [] [2, 3] (E1 := fun nu1 => [(2, .val (.pointer (some (⟨nu1 3, 0, none⟩)))), (3, .val (.nilIface))]) (h1 := fun nu1 => [(nu1 0, .cells #[.int .i64 0, .int .i64 0, .int .i64 0, .int .i64 0, .int .i64 0, .int .i64 0] 3 (0, 0)), (nu1 1, Obj.map #[] 0), (nu1 2, Obj.map #[] 0), (nu1 3, .cells #[.int .i64 6, .slice (some (⟨nu1 0, 0, none⟩)) 6 6, .map (some (nu1 1)), .map (some (nu1 2))] 133 (0, 0))]) (p1 := fun nu1 => []) (W1 := []) (by kernel_rfl) (fun _ => by kernel_rfl) (fun _ => trivial) (fun nu1 => ?_)
  refine J_return [[], []] (.tuple #[.pointer (some (⟨nu1 3, 0, none⟩)), .nilIface]) (by kernel_rfl) (fun a w s => ?_)
  exact .inr ⟨by omega, _, _, _, _, newFin 6 s (rowG_zero 6)⟩
end Go.Proofs.YtpjkiomccpjboaaGreatDoor
end
section
namespace Go.Sx
open Go
theorem Rep.takeS {w : World} {S : Nat → Prop} {a : Option Addr} {n c k : Nat} {rows : List (List D)} (h : Rep w S (.slice a n c) (.sl k rows)) (i : Nat) (hi : i ≤ rows.length) : Rep w S (.slice a i c) (.sl k (rows.take i)) := by
 cases h with
 | nil =>
  obtain rfl : i = 0 := by simpa using hi
  exact .nil
 | sl u hb hS hc hk hl hcell hrep =>
  have := Rep.sl (rows := rows.take i) u hb hS (Nat.le_trans (by rw [List.length_take]; exact Nat.min_le_right ..) hc) hk (fun row hr => hl row (List.mem_of_mem_take hr)) (fun j q hj hq => hcell j q (by rw [List.length_take] at hj; omega) hq) (fun j q row d hj hd => hrep j q row d (by
   rw [List.getElem?_take] at hj
   split at hj
   ·exact hj
   ·cases hj) hd)
  have e : (rows.take i).length = i := by rw [List.length_take]; omega
  rw [e] at this
  exact this
theorem Rep.dropS {w : World} {S : Nat → Prop} {b off n c k : Nat} {rows : List (List D)} (h : Rep w S (.slice (some ⟨b, off, none⟩) n c) (.sl k rows)) (i : Nat) (hi : i ≤ rows.length) : Rep w S (.slice (some ⟨b, off + i * k, none⟩) (n - i) (c - i)) (.sl k (rows.drop i)) := by
 cases h with
 | nil =>
  obtain rfl : i = 0 := by simpa using hi
  exact .nil
 | sl u hb hS hc hk hl hcell hrep =>
  have := Rep.sl (rows := rows.drop i) (off := off + i * k) (cap := c - i) (fun j q => u (i + j) q) hb hS (by rw [List.length_drop]; omega) hk (fun row hr => hl row (List.mem_of_mem_drop hr)) (fun j q hj hq => by
   have h1 := hcell (i + j) q (by rw [List.length_drop] at hj; omega) hq
   rw [← h1, Nat.add_mul]
   congr 1
   omega) (fun j q row d hj hd => hrep (i + j) q row d (by rw [List.getElem?_drop] at hj; exact hj) hd)
  rwa [List.length_drop] at this
theorem Rep.takeM {β : Type} {enc : β → List D} {l : List β} {w : World} {S : Nat → Prop} {a : Option Addr} {n c k : Nat} (h : Rep w S (.slice a n c) (.sl k (l.map enc))) (i : Nat) (hi : i ≤ l.length) : Rep w S (.slice a i c) (.sl k ((l.take i).map enc)) := by
 rw [List.map_take]
 exact h.takeS i (by rw [List.length_map]; exact hi)
theorem Rep.dropM {β : Type} {enc : β → List D} {l : List β} {w : World} {S : Nat → Prop} {b off n c k : Nat} (h : Rep w S (.slice (some ⟨b, off, none⟩) n c) (.sl k (l.map enc))) (i : Nat) (hi : i ≤ l.length) : Rep w S (.slice (some ⟨b, off + i * k, none⟩) (n - i) (c - i)) (.sl k ((l.drop i).map enc)) := by
 rw [List.map_drop]
 exact h.dropS i (by rw [List.length_map]; exact hi)
theorem Rep.cap {w : World} {S : Nat → Prop} {a : Option Addr} {n c k : Nat} {rows : List (List D)} (h : Rep w S (.slice a n c) (.sl k rows)) : n ≤ c := by
 cases h with
 | nil => exact Nat.zero_le _
 | sl u hb hS hc => exact hc
end Go.Sx
end
