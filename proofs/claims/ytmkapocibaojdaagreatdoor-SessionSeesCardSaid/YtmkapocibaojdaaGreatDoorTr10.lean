/- Part 10 of the texts of a claim: PartP Read DotsV Cut AckD Send Send2 Send3 PlV PlC PlR PlK PlN PlS Tx26. -/
import Derived.Test.YtmkapocibaojdaaGreatDoorTr9
open Bool renaming or_eq_true → j8
open ByteArray renaming mk → aL
open Int renaming toNat → nj, toNat_zero → mU
open List renaming any_eq_true → gL, append_nil → bf, cons_append → iO, drop_drop → fH, filter_append → dm, filter_eq_self → fk, filter_sublist → dw, getD_eq_getElem?_getD → aO, getElem?_cons_zero → aV, getElem?_drop → cq, getElem?_eq_getElem → ak, getElem?_eq_some_iff → ai, getElem?_map → aF, getElem?_of_mem → aJ, getElem?_take → cL, getElem?_zip_eq_some → jd, getElem_mem → cz, getElem_of_mem → jy, length → fo, length_append → bA, length_drop → gm, length_eq_zero_iff → eV, length_filter_le → cH, length_map → aA, length_set → jg, length_take → bp, map → aj, map_append → bw, map_cons → cj, map_eq_nil_iff → cM, map_set → mS, map_take → jt, mem_append → au, mem_cons_self → bl, mem_filter → aP, mem_flatMap → gM, mem_map → aB, mem_map_of_mem → eT, mem_mergeSort → me, mem_of_getElem? → ae, mem_of_mem_take → jo, mem_range → dX, mem_singleton → ay, pairwise_iff_getElem → bV, pairwise_map → fU, range → bD, range_succ → jh, replicate → aD, take → bZ, take_add_one → cV, take_of_length_le → br
open List.Pairwise renaming nil → jq
open Nat renaming add_mul → jR, add_zero → dZ, le_refl → aX, le_trans → aZ, lt_or_ge → dP, zero_add → aK, zero_le → eo
open Option.some renaming injEq → az
section
namespace Go.Proofs.YtmkapocibaojdaaGreatDoor
open Go Go.Sx
theorem wk {l:List fP} {p:Int} {i:Nat} {o:fP} (h:l[i]?=some o):ik l p i=0↔fE o p=0∧∀q,0<i→l[i - 1]?=some q→q.no<o.no:=by
 by_cases h0:fE o p=0
 ·cases i with
  | zero=>exact⟨fun _=>⟨h0,fun q h=>absurd h (by omega)⟩,fun _=>sV h h0⟩
  | succ i=>
   have hi:=(ai.1 h).1
   obtain⟨q,hq⟩:∃q,l[i]?=some q:=⟨_,ak (by omega)⟩
   rw[uC h hq h0]
   constructor
   ·intro h1
    refine⟨h0,fun q' _ LO=>?_⟩
    rw[Nat.add_sub_cancel,hq]at LO
    cases LO
    split at h1
    ·cases h1
    ·omega
   ·rintro⟨_,h1⟩
    have:=h1 q (by omega) (by rw[Nat.add_sub_cancel];exact hq)
    rw[if_neg (by omega)]
 ·rw[o7 h h0]
  exact⟨fun h1=>absurd h1 h0,fun h1=>absurd h1.1 h0⟩
theorem B3 {l:List fP} {p:Int}:(∀j,j<l.length→ik l p j=0)↔(∀o∈l,fE o p=0)∧l.Pairwise fun a b=>a.no<b.no:=by
 constructor
 ·intro h
  have h1:∀j (hj:j<l.length),fE l[j] p=0∧∀q,0<j→l[j - 1]?=some q→q.no<l[j].no:=fun j hj=>(wk (ak hj)).1 (h j hj)
  have h2:∀j (hj:j<l.length) i (hi:i<j),(l[i]'(by omega)).no<l[j].no:=by
   intro j
   induction j with
   | zero=>exact fun _ i hi=>absurd hi (by omega)
   | succ j ih=>
    intro hj i hi
    have h3:=(h1 (j+1) hj).2 (l[j]'(by omega)) (by omega) (by rw[Nat.add_sub_cancel];exact ak _)
    rcases dP i j with h4|h4
    ·exact Int.lt_trans (ih (by omega) i h4) h3
    ·obtain rfl:i=j:=by omega
     exact h3
  refine⟨fun o ho=>?_,bV.2 fun i j hi hj hij=>h2 j hj i hij⟩
  obtain⟨j,hj,rfl⟩:=jy ho
  exact(h1 j hj).1
 ·rintro⟨h1,h2⟩ j hj
  refine(wk (ak hj)).2 ⟨h1 _ (cz _),fun q h0 hq=>?_⟩
  obtain⟨wF,rfl⟩:=ai.1 hq
  exact bV.1 h2 (j - 1) j wF hj (by omega)
theorem nC {c:bO} (h1:b8 c.when=0) (h2:0≤c.place) (h3:c.place<c.when.length) (h4:c.ops.length≤12) (h5:c.when[c.place.toNat]?≠some 0) (h6:c.ops≠[]) (h7:∀o∈c.ops,fE o c.when.length=0) (h8:c.ops.Pairwise fun a b=>a.no<b.no):(aY c).code=0:=by
 have h9:¬c.ops.length=0:=fun h=>h6 (eV.1 h)
 have h10:=B3.2 ⟨h7,h8⟩
 rw[aY,if_neg (by simp[h1]),if_neg (by omega),if_neg h5,if_neg h9,(kf c.ops.length 0 c.ops.length (eo _) fun j _ hj=>h10 j hj).1 (by omega)]
theorem qw {c:bO} (h:(aY c).code=0):c.ops.Pairwise fun a b=>a.no<b.no:=by
 have hr:=iy h
 rw[←hr.op]at h
 exact(B3.1 (sS h)).2
theorem q7 {key:ByteArray} {l:List bO} (hk:dS key=true) (h:∀c∈l,(aY c).code=0) (m:Nat) (hm:∀c∈l,c.when.length=m):(cZ key l).code=0:=by
 rw[cZ,if_neg (by simp[hk]),ru fun j hj=>?_]
 have hj2:l[j]?=some l[j]:=ak hj
 refine tf hj2 (h _ (cz _)) ?_
 rw[hm _ (cz _)]
 match l,hj,hm with
 | c::r,_,hm=>exact(hm c (bl ..)).symm
structure vV (c' c:bO):Prop where
 place:c'.place=c.place
 time:c'.when=c.when
 ne:c'.ops≠[]
 ops:c'.ops.Sublist c.ops
theorem vV.fault {c' c:bO} (h:vV c' c) (hc:(aY c).code=0):(aY c').code=0:=by
 have hr:=iy hc
 obtain⟨h1,h2,h3,h4⟩:=h
 refine nC (by rw[h2];exact hr.vec) (by rw[h1];exact hr.p0) (by rw[h1,h2];exact hr.p1) (aZ h4.length_le hr.o2) (by rw[h1,h2];exact hr.t0) h3 (fun o ho=>?_) ((qw hc).sublist h4)
 rw[h2]
 exact sj hc o (h4.subset ho)
theorem fF {l:List bO} {x:bE}:x∈bM l↔∃c∈l,∃o∈c.ops,x=eD c o:=by
 unfold bM
 rw[gM]
 constructor
 ·rintro⟨c,hc,h⟩
  obtain⟨o,ho,rfl⟩:=aB.1 h
  exact⟨c,hc,o,ho,rfl⟩
 ·rintro⟨c,hc,o,ho,rfl⟩
  exact⟨c,hc,eT ho⟩
theorem vV.done {c' c:bO} (h:vV c' c) (o:fP):eD c' o=eD c o:=by
 simp only[eD,iV,h.place,h.time]
theorem tL {A:List bE} (hf:∀x∈A,∀y∈A,x.d=y.d→x=y) {x:bE}:x∈gx [] A↔x∈A:=by
 refine⟨fun h=>(nh h).1,fun h=>?_⟩
 obtain⟨y,hy,he⟩:=DL (s:=[]) h (by simp)
 obtain rfl:=hf y (nh hy).1 x h he
 exact hy
theorem AK (key:ByteArray) (l:List bO):((nN key l).map (·.d)).Nodup:=(qI (s:=[]) (l:=bM l)).sublist ((dw ..).map _)
theorem mH (key:ByteArray) (l:List bO):(opsOf key l).Pairwise fun a b=>gW a b=true:=by
 have hn:=AK key l
 rw[opsOf,←Fc hn]
 refine(vK gW (fun _ _ _=>uW) jq (by simp) ((fU.1 hn).imp fun{a b} hne=>?_)).1
 rcases tS a b with h1|h1|h1
 ·exact .inl h1
 ·exact absurd (rM h1) hne
 ·exact .inr h1
theorem mY {key:ByteArray} {l:List bO} {x:bE}:x∈opsOf key l↔x∈gx [] (bM l)∧x.o.key=key:=by
 rw[opsOf,sortDone,me,nN,aP,decide_eq_true_eq]
theorem C3 {key:ByteArray} {l l':List bO} (h:opsOf key l'=opsOf key l):Sx.valOf key l'=Sx.valOf key l:=by
 simp only[Sx.valOf,eL,h]
def L7 (l:List bO):Prop:=∀(i k:Nat) (c d:bO),k<i→l[i]?=some c→l[k]?=some d→¬(d.place=c.place∧d.when.getD d.place.toNat 0=c.when.getD c.place.toNat 0)
theorem L7.fun {l:List bO} (h:L7 l) (hr:∀c∈l,(aY c).code=0):∀x∈bM l,∀y∈bM l,x.d=y.d→x=y:=by
 intro x hx y hy he
 obtain⟨c,hc,o,ho,rfl⟩:=fF.1 hx
 obtain⟨d,hd,q,hq,rfl⟩:=fF.1 hy
 obtain⟨i,hi⟩:=aJ hc
 obtain⟨k,hk⟩:=aJ hd
 simp only[eD,iV,gi.mk.injEq]at he
 obtain⟨e1,e2,e3⟩:=he
 have N5:i=k:=by
  rcases Nat.lt_trichotomy i k with hlt|heq|hlt
  ·exact absurd ⟨e1,e2⟩ (h k i d c hlt hk hi)
  ·exact heq
  ·exact absurd ⟨e1.symm,e2.symm⟩ (h i k c d hlt hi hk)
 subst N5
 rw[hi]at hk
 cases hk
 have hp:=qw (hr c hc)
 obtain⟨a,ha,rfl⟩:=jy ho
 obtain⟨b,hb,rfl⟩:=jy hq
 have hab:a=b:=by
  rcases Nat.lt_trichotomy a b with hlt|heq|hlt
  ·have:=bV.1 hp a b ha hb hlt
   omega
  ·exact heq
  ·have:=bV.1 hp b a hb ha hlt
   omega
 subst hab
 rfl
end Go.Proofs.YtmkapocibaojdaaGreatDoor
end
section
namespace Go.Proofs.YtmkapocibaojdaaGreatDoor
open Go Go.Sx
theorem uj {L:List fG} {key:ByteArray} {at':List Int} {p:Nat} (hk:dS key=true) (h:∀q∈L,(aY (lI q)).code=0∧q.when.length=p):(cZ key (aW L key at')).code=0:=by
 refine q7 hk (fun c hc=>?_) p fun c hc=>?_
 ·obtain⟨q,hq,rfl⟩:=iz (aP.1 hc).1
  exact(h q hq).1
 ·obtain⟨q,hq,rfl⟩:=iz (aP.1 hc).1
  exact(h q hq).2
theorem v7 (L:List fG) (key:ByteArray) (at':List Int):(aW L key at').length≤L.length:=
 aZ (cH _ _) (xP L key)
noncomputable abbrev JI (b mk md:Nat) (ba:Option Addr) (p nb cb clock:Nat) (es:Array MapEntry) (ks:List ByteArray) (F:ByteArray→Value) (L:List fG):List Chunk:=[bL b (.cells #[.int .i64 p,.slice ba nb cb,.map (some mk),.map (some md)] 218 (0,0)),bL mk (.map es clock),cA (ks.map fun t=>aT (F t) 35 3 ((ey L t).map eW)),eX md dA (cI (L.map ku))]
set_option maxHeartbeats 4000000 in
theorem Oj {w:World} {S:Nat→Prop} {M:List Nat} {er:Nat→Addr} {eb:Nat→Array Value×TypeId} {b mk md:Nat} {ba a1:Option Addr} {p nb cb n1 c1 clock:Nat} {base at':List Int} {es:Array MapEntry} {ks:List ByteArray} {F:ByteArray→Value} {L:List fG} {key:ByteArray} (hC:cm w S .nilIface (dC er eb))
  (hP:Pre w S M (JI b mk md ba p nb cb clock es ks F L))
  (hb:cm w S (.slice ba nb cb) (aS base)) (DF:b8 base=0) (AZ:base.length=p) (h1:cm w S (.slice a1 n1 c1) (aS at')) (ja:at'.length≤1000000) (hL:L.length≤300000) (KM:∀q∈L,(aY (lI q)).code=0∧q.when.length=p)
  (hm:fM (MapKept.IsKey .string) es (mB ks F)) (hnd:ks.Nodup) (k7:∀t,t∈ks↔ey L t≠[]) :
  Calls Tryz.prog 95 #[.pointer (some ⟨b,0,none⟩),.string key,.slice a1 n1 c1] w fun e w'=>
   (eA p base key at'≠0∧cQ M (zero w) S w' e (.tuple #[CZ,.iface 390 (.pointer (some (er (eA p base key at'))))]) (JI b mk md ba p nb cb clock es ks F L) []) ∨
   (eA p base key at'=0∧∃ua un uc,cQ M (zero w) S w' e (.tuple #[w8 (Sx.valOf key (aW L key at')) (.slice ua un uc),.nilIface]) (JI b mk md ba p nb cb clock es ks F L) [(.slice ua un uc,pe (Sx.valOf key (aW L key at')).set)]):=by
 have KK:∀q∈L,b8 q.when=0∧q.when.length=p:=fun q hq=>⟨(iy (KM q hq).1).vec,(KM q hq).2⟩
 have hvl:=jV DF
 refine pW Tryz.func95 UD (args:=[.pointer (some ⟨b,0,none⟩),.string key,.slice a1 n1 c1]) (S:=S) (G:=[(_,dC er eb),(_,aS at'),(_,aS base)]) (by kernel_rfl) hP (.cons hC (.cons h1 (.cons hb (.nil _ _)))) ?_
 refine tZ ?_
 refine Zv [.wr 0 [] 0,zR 1] [] [] (fun aN=>[zP 6 (aN 0),zV 7 .nilIface]) o0 (fun aN=>[(aN 0,.cells #[nI 0,.string (aL #[]),nI 0,.slice none 0 0] 64 (0,0))]) (fun aN=>?_)
 refine jS [(0,true),(1,true),(2,true),(3,false),(4,true),(5,true),(6,true),(7,true),(8,true)] [] ?_
 refine Ya (bh 0 3) [0,2] [zP 11 b,zV 12 (.string key),zS 13 a1 n1 c1] ?_
 refine cn [] [0,1,2,3] 155 #[.pointer (some (⟨b,0,none⟩)),.string key,.slice a1 n1 c1] (some 14) (by kernel_rfl) (by kernel_rfl) (by decide) (fun w S M hP hG _=>?_)
 refine(Bu (key:=key) (hG.at 0 rfl) hP (hG.at 2 rfl) DF AZ (hG.at 1 rfl) ja (by omega) KK hm hnd k7).mono ?_
 rintro e1 w1 (⟨oE,hR⟩|⟨oE,ua,un,uc,hR⟩)
 ·refine⟨_,_,_,hR,?_⟩
  try simp only[aQ]
  refine Ya (bh 4 9) [14,11,12,13] [zS 8 none 0 0,zV 9 (.iface 390 (.pointer (some (er (eA p base key at')))))] ?_
  try simp only[aQ]
  refine aC ?_
  try simp only[aQ]
  refine aq ?_
  try simp only[aQ]
  refine aq ?_
  try simp only[aQ]
  refine Za [zR 0,zR 1] [] [zB 18 true] ?_
  try simp only[aQ]
  refine gR ?_
  try simp only[aQ]
  refine aq ?_
  try simp only[aQ]
  refine Zm [zR 0,zR 1,.wr 2 (ek 0 4) 0,zR 3] [(2,[0])] [18,9] (fun _=>[zV 7 (.iface 390 (.pointer (some (er (eA p base key at')))))]) o0 o0 (fun _=>?_)
  try simp only[aQ]
  refine Yr [(ek 0 4),[]] (.tuple #[.agg #[nI 0,.string (aL #[]),nI 0,.slice none 0 0],.iface 390 (.pointer (some (er (eA p base key at'))))]) fun a w s=>?_
  exact .inl ⟨oE,s.pB (by simp) [0,1,2,3] [] rfl rfl⟩
 ·have hnm:dS key=true:=by
   cases hn:dS key with
   | true=>rfl
   | false=>
    rw[eA,if_pos hn]at oE
    cases oE
  have TD:=uj (key:=key) (at':=at') hnm KM
  have xZ:=v7 L key at'
  have PX:∀x∈aW L key at',x.when.length≤1000000∧x.ops.length≤1000000:=fun x hx=>by
   obtain⟨q,hq,rfl⟩:=iz (aP.1 hx).1
   refine⟨?_,by simp[lI]⟩
   show q.when.length≤1000000
   have:=(KM q hq).2
   omega
  refine⟨_,_,_,hR,?_⟩
  try simp only[aQ]
  refine Ya (bh 4 9) [14,11,12,13] [zS 8 ua un uc,zV 9 .nilIface] ?_
  try simp only[aQ]
  refine aC ?_
  try simp only[aQ]
  refine aq ?_
  try simp only[aQ]
  refine aq ?_
  try simp only[aQ]
  refine Za [zR 0,zR 1] [] [zB 18 false] ?_
  try simp only[aQ]
  refine cF ?_
  try simp only[aQ]
  refine aG ?_
  try simp only[aQ]
  refine aq ?_
  try simp only[aQ]
  refine jT [(0,true),(1,true),(2,false),(3,true),(4,true),(5,false),(6,true)] [] ?_
  refine Ya [zR 0,zR 1] [18,8,9,1] [zV 21 (.string key),zS 22 ua un uc] ?_
  refine vY [] 105 #[.string key,.slice ua un uc] (some 23) lG (by kernel_rfl) (fun w S hG=>?_)
  refine(Vi (key:=key) (hG.at 0 rfl) (hG.at 3 rfl) (by omega) (fun x hx=>(PX x hx).1) (fun x hx=>(PX x hx).2)).mono ?_
  rintro e2 w2 (⟨hc,_⟩|⟨hc,va,vn,vc,hR⟩)
  ·exact absurd TD hc
  refine⟨_,_,_,hR,?_⟩
  try simp only[aQ]
  refine Ym [zR 3,zR 4,.wr 5 (ek 0 4) 0,zR 6] [23,21,22] (fun _=>[]) (fun _=>[(0,.cells #[nI ((Sx.valOf key (aW L key at')).kind),.string ((Sx.valOf key (aW L key at')).text),nI ((Sx.valOf key (aW L key at')).n),.slice va vn vc] 64 (0,0))]) o0 [] (fun _=>?_)
  try simp only[aQ]
  refine aC ?_
  try simp only[aQ]
  refine Yr [(ek 0 4),[]] (.tuple #[.agg #[nI ((Sx.valOf key (aW L key at')).kind),.string ((Sx.valOf key (aW L key at')).text),nI ((Sx.valOf key (aW L key at')).n),.slice va vn vc],.nilIface]) fun a w s=>?_
  exact .inr ⟨oE,_,_,_,s.pB (by simp) [0,1,2,3] [4] rfl rfl⟩
end Go.Proofs.YtmkapocibaojdaaGreatDoor
end
section
namespace Go.Proofs.YtmkapocibaojdaaGreatDoor
open Go Go.Sx
set_option maxHeartbeats 4000000 in
theorem Ma {w:World} {S:Nat→Prop} {M:List Nat} {er:Nat→Addr} {eb:Nat→Array Value×TypeId} {b mk md:Nat} {ba a1:Option Addr} {p nb cb n1 c1 clock:Nat} {base at':List Int} {es:Array MapEntry} {ks:List ByteArray} {F:ByteArray→Value} {L:List fG} {key text:ByteArray} (hC:cm w S .nilIface (dC er eb))
  (hP:Pre w S M (JI b mk md ba p nb cb clock es ks F L))
  (hb:cm w S (.slice ba nb cb) (aS base)) (DF:b8 base=0) (AZ:base.length=p) (h1:cm w S (.slice a1 n1 c1) (aS at')) (ja:at'.length≤1000000) (hL:L.length≤300000) (KM:∀q∈L,(aY (lI q)).code=0∧q.when.length=p)
  (hm:fM (MapKept.IsKey .string) es (mB ks F)) (hnd:ks.Nodup) (k7:∀t,t∈ks↔ey L t≠[]) :
  Calls Tryz.prog 138 #[.pointer (some ⟨b,0,none⟩),.string key,.string text,.slice a1 n1 c1] w fun e w'=>
   (eA p base key at'≠0∧cQ M w S w' e (.tuple #[.slice none 0 0,.iface 390 (.pointer (some (er (eA p base key at'))))]) (JI b mk md ba p nb cb clock es ks F L) []) ∨
   (eA p base key at'=0∧∃ua un uc,cQ M w S w' e (.tuple #[.slice ua un uc,.nilIface]) (JI b mk md ba p nb cb clock es ks F L) [(.slice ua un uc,.sl 3 ((oH key text (aW L key at')).map bK))]):=by
 have KK:∀q∈L,b8 q.when=0∧q.when.length=p:=fun q hq=>⟨(iy (KM q hq).1).vec,(KM q hq).2⟩
 have hvl:=jV DF
 refine pW Tryz.func138 RK (args:=[.pointer (some ⟨b,0,none⟩),.string key,.string text,.slice a1 n1 c1]) (S:=S) (G:=[(_,dC er eb),(_,aS at'),(_,aS base)]) (by kernel_rfl) hP (.cons hC (.cons h1 (.cons hb (.nil _ _)))) ?_
 refine Zs [zR 0,zR 1] [] [zS 8 none 0 0,zV 9 .nilIface] ?_
 refine jS [(0,true),(1,true),(2,true),(3,false),(4,true),(5,true),(6,true),(7,true),(8,true)] [] ?_
 refine Ya (bh 0 3) [0,3] [zP 13 b,zV 14 (.string key),zS 15 a1 n1 c1] ?_
 refine cn [] [0,1,2,3] 155 #[.pointer (some (⟨b,0,none⟩)),.string key,.slice a1 n1 c1] (some 16) (by kernel_rfl) (by kernel_rfl) (by decide) (fun w S M hP hG _=>?_)
 refine(Bu (key:=key) (hG.at 0 rfl) hP (hG.at 2 rfl) DF AZ (hG.at 1 rfl) ja (by omega) KK hm hnd k7).mono ?_
 rintro e1 w1 (⟨oE,hR⟩|⟨oE,ua,un,uc,hR⟩)
 ·refine⟨_,_,_,hR,?_⟩
  try simp only[aQ]
  refine Ya (bh 4 9) [16,13,14,15] [zS 10 none 0 0,zV 11 (.iface 390 (.pointer (some (er (eA p base key at')))))] ?_
  try simp only[aQ]
  refine aC ?_
  try simp only[aQ]
  refine aq ?_
  try simp only[aQ]
  refine aq ?_
  try simp only[aQ]
  refine Za [zR 0,zR 1] [] [zB 20 true] ?_
  try simp only[aQ]
  refine gR ?_
  try simp only[aQ]
  refine aq ?_
  try simp only[aQ]
  refine Za (bh 0 3) [20,11] [zV 9 (.iface 390 (.pointer (some (er (eA p base key at')))))] ?_
  try simp only[aQ]
  refine Yr [[],[]] (.tuple #[.slice none 0 0,.iface 390 (.pointer (some (er (eA p base key at'))))]) fun a w s=>?_
  exact .inl ⟨oE,s.ret (by simp) [0,1,2,3] [] rfl rfl⟩
 ·have hnm:dS key=true:=by
   cases hn:dS key with
   | true=>rfl
   | false=>
    rw[eA,if_pos hn]at oE
    cases oE
  have TD:=uj (key:=key) (at':=at') hnm KM
  have xZ:=v7 L key at'
  have PX:∀x∈aW L key at',x.when.length≤1000000∧x.ops.length≤1000000:=fun x hx=>by
   obtain⟨q,hq,rfl⟩:=iz (aP.1 hx).1
   refine⟨?_,by simp[lI]⟩
   show q.when.length≤1000000
   have:=(KM q hq).2
   omega
  refine⟨_,_,_,hR,?_⟩
  try simp only[aQ]
  refine Ya (bh 4 9) [16,13,14,15] [zS 10 ua un uc,zV 11 .nilIface] ?_
  try simp only[aQ]
  refine aC ?_
  try simp only[aQ]
  refine aq ?_
  try simp only[aQ]
  refine aq ?_
  try simp only[aQ]
  refine Za [zR 0,zR 1] [] [zB 20 false] ?_
  try simp only[aQ]
  refine cF ?_
  try simp only[aQ]
  refine aG ?_
  try simp only[aQ]
  refine aq ?_
  try simp only[aQ]
  refine jT [(0,true),(1,true),(2,true),(3,false),(4,true),(5,true),(6,true),(7,true)] [] ?_
  refine Ya (bh 0 3) [20,10,11,1,2] [zV 22 (.string key),zV 23 (.string text),zS 24 ua un uc] ?_
  refine Yc 180 #[.string key,.string text,.slice ua un uc] (some 25) fun w S hG=>?_
  refine(On (key:=key) (text:=text) (hG.at 0 rfl) (hG.at 3 rfl) (by omega) (fun x hx=>(PX x hx).1) (fun x hx=>(PX x hx).2)).mono ?_
  rintro e2 w2 (⟨hc,_⟩|⟨hc,va,vn,vc,hR⟩)
  ·exact absurd TD hc
  refine⟨_,_,_,hR,?_⟩
  try simp only[aQ]
  refine Ya (bh 4 8) [25,22,23,24] [zS 8 va vn vc] ?_
  try simp only[aQ]
  refine aC ?_
  try simp only[aQ]
  refine Yr [[],[]] (.tuple #[.slice va vn vc,.nilIface]) fun a w s=>?_
  exact .inr ⟨oE,_,_,_,s.ret (by simp) [0,1,2,3] [4] rfl rfl⟩
end Go.Proofs.YtmkapocibaojdaaGreatDoor
end
section
namespace Go.Sx
open Go
theorem cm.take {w:World} {S:Nat→Prop} {a:Option Addr} {n c k:Nat} {rows:List (List D)} (h:cm w S (.slice a n c) (.sl k rows)) {i c':Nat} (hi:i≤n) (KF:n≤c'):cm w S (.slice a i c') (.sl k (rows.take i)):=by
 have hn:=h.pA
 cases h with
 | nil=>
  obtain rfl:i=0:=by omega
  exact .nil
 | sl u hb hS hc hk hl hcell mL=>
  have hlen:(rows.take i).length=i:=by rw[bp];omega
  have hx:=cm.sl (rows:=rows.take i) (cap:=c') u hb hS (by rw[hlen];omega) hk (fun row hr=>hl row (jo hr)) (fun p j hp hj=>hcell p j (by rw[hlen]at hp;omega) hj) (fun p j row d hp hj=>mL p j row d (by
   rw[cL]at hp
   split at hp
   ·exact hp
   ·cases hp) hj)
  rwa[hlen]at hx
theorem cm.drop {w:World} {S:Nat→Prop} {b off n c k:Nat} {rows:List (List D)} (h:cm w S (.slice (some ⟨b,off,none⟩) n c) (.sl k rows)) {i c':Nat} (hi:i≤n) (KF:n - i≤c'):cm w S (.slice (some ⟨b,off+i*k,none⟩) (n - i) c') (.sl k (rows.drop i)):=by
 have hn:=h.pA
 cases h with
 | nil=>
  obtain rfl:i=0:=by omega
  exact .nil
 | sl u hb hS hc hk hl hcell mL=>
  have hlen:(rows.drop i).length=rows.length - i:=by rw[gm]
  have hx:=cm.sl (rows:=rows.drop i) (cap:=c') (off:=off+i*k) (fun p j=>u (p+i) j) hb hS (by rw[hlen];omega) hk (fun row hr=>hl row (List.mem_of_mem_drop hr)) (fun p j hp hj=>by
   have h1:=hcell (p+i) j (by rw[hlen]at hp;omega) hj
   rw[show off+i*k+(p*k+j)=off+((p+i)*k+j)by rw[jR];omega]
   exact h1) (fun p j row d hp hj=>mL (p+i) j row d (by
   rw[cq]at hp
   rwa[Nat.add_comm]) hj)
  rwa[hlen]at hx
theorem hit {k:Int}:∀{L:List bN} {i:Nat} {x:bN},L[i]?=some x→x.seq=k→(∀m∈L.take i,m.seq≠k)→kept L k=some x∧L.take i++L.drop (i+1)=gF L k
 | [],i,x,h,_,_=>by simp at h
 | m::L,0,x,h,hs,_=>by
  simp only[aV,az]at h
  subst h
  simp[kept,gF,hs]
 | m::L,i+1,x,h,hs,hn=>by
  have hm:m.seq≠k:=hn m (by simp)
  obtain⟨h1,h2⟩:=hit (by simpa using h) hs fun y hy=>hn y (by simp[hy])
  refine⟨by simpa [kept,hm]using h1,?_⟩
  simp only[List.take_succ_cons,List.drop_succ_cons,iO,h2]
  simp[gF,hm]
end Go.Sx
end
section
namespace Go.Proofs.YtmkapocibaojdaaGreatDoor
open Go Go.Sx
set_option maxHeartbeats 4000000 in
theorem RV {w:World} {S:Nat→Prop} {m:bN} {v1 v2:Value} {seq:Int} {b:Nat} (o1:v1.oneCell'=true) (o2:v2.oneCell'=true) (h:cm w S (.pointer (some ⟨b,0,none⟩)) (.ptr [.v (.int .i64 seq)])):Calls Tryz.prog 152 #[y6 m v1 v2,.pointer (some ⟨b,0,none⟩)] w fun e w'=>cQ [] w S w' e (.bool (decide (m.seq≤seq))) [] []:=by
 refine jL Tryz.func152 Rz (args:=[y6 m v1 v2,.pointer (some ⟨b,0,none⟩)]) (G:=[(_,.ptr [.v (.int .i64 seq)])]) (by kernel_rfl) (.cons h (.nil _ _)) ?_
 refine di 0 rfl (fun ni mW ng dh=>?_)
 refine Zv [.wr 0 [] 0,zR 1] [] [0] (fun aN=>[zP 2 (aN 0),zB 3 false]) o0 (fun aN=>[(aN 0,.cells #[nI m.fm,nI m.to,nI m.de,nI m.seq,nI m.time,.bool m.dW,v1,nI m.c.place,v2] 62 (0,0))]) (fun aN=>?_)
 refine Zt [zR 0,.rd 1 [.o 0 none] 0 0,.rd 2 [.r 0 (some (nI seq))] 0 0,zR 3,zR 4] [2,1] [zB 3 (decide (m.seq≤seq))] (oC dh oN) ?_
 refine Yr [[]] (.bool (decide (m.seq≤seq))) fun a w s=>?_
 all_goals first|assumption|exact s.ret (by simp) [] [] rfl rfl
set_option maxHeartbeats 4000000 in
theorem Ic {w:World} {S:Nat→Prop} {M:List Nat} {a:Option Addr} {n c:Nat} {L:List bN} {seq:Int} {b:Nat} (hP:Pre w S M [aT (.slice a n c) 62 9 (L.map fC)]) (hl:L.length≤1000000) (h:cm w S (.pointer (some ⟨b,0,none⟩)) (.ptr [.v (.int .i64 seq)])) :
  Calls Tryz.prog 190 #[.slice a n c,.func (.func 152) #[] #[.pointer (some ⟨b,0,none⟩)]] w fun e w'=>∃r:Int,cQ M w S w' e (.int .i64 r) [aT (.slice a n c) 62 9 (L.map fC)] [] ∧
   ((r = -1∧∀x∈L,seq<x.seq)∨(0≤r∧r<L.length∧(∃x,L[r.toNat]?=some x∧x.seq≤seq)∧∀x∈L.take r.toNat,seq<x.seq)):=by
 refine pW Tryz.func190 Rf (args:=[.slice a n c,.func (.func 152) #[] #[.pointer (some ⟨b,0,none⟩)]]) (S:=S) (C:=[aT (.slice a n c) 62 9 (L.map fC)]) (G:=[(_,.ptr [.v (.int .i64 seq)])]) (by kernel_rfl) hP (.cons h (.nil _ _)) ?_
 refine b9 (eC 0 rfl) fun _ hk=>?_
 rw[aA]at hk
 subst hk
 refine Zs [zR 0] [] [zI 4 0] ?_
 refine aq ?_
 refine Zs (bh 0 3) [] [zI 7 (↑L.length:Int),zI 8 0] ?_
 refine aM ?_
 refine cU (fun i:Int=>[zS 0 a L.length c,zV 1 (.func (.func 152) #[] #[.pointer (sA b 0)]),zI 4 0,zI 7 (↑L.length:Int),zI 8 i]) (fun i:Int=>[]) (fun i:Int=>[aT (.slice a L.length c) 62 9 (L.map fC)]) (fun i:Int=>[(.pointer (sA b 0),(D.ptr [D.v (nI seq)]))]) (fun i:Int=>(L.length - i).toNat) (fun i:Int=>(0≤i∧i≤L.length∧∀x∈L.take i.toNat,seq<x.seq)) 0 [0,1,4,7,8] [] [0] [0] ?_ (by kernel_rfl) rfl rfl rfl ?_
 ·exact⟨by simp,by omega,by simp⟩
 rintro i ⟨hi0,hi,hno⟩
 refine Zs [zR 0] [] [zB 9 (decide (i<(↑L.length:Int)))] ?_
 refine aq ?_
 refine cC (t:=decide (i<(↑L.length:Int))) (fun hlt=>?_) (fun hlt=>?_)
 ·have fa:i<L.length:=by simpa using hlt
  obtain⟨x,hx⟩:∃x,L[i.toNat]?=some x:=⟨_,ak (by omega)⟩
  refine kj 0 rfl (by intro h0;rw[cM]at h0;rw[h0]at hx;simp at hx) fun g cur xs hu _ _ hrow=>?_
  subst hu
  refine b9 (jj 0 rfl i.toNat (dD hx)) fun ls hls=>?_
  obtain⟨qD,oU⟩:=hls
  obtain⟨⟨xa,xc⟩,⟨ya,yc⟩,rfl⟩:∃l0 l1,ls=[l0,l1]:=HV qD
  have f:=fun(j:Nat) v h=>hrow.L6 (oU j v h)
  have r0:cur[0+i.toNat*9]?=some (.int .i64 x.fm):=by rw[aK];exact f 0 _ rfl
  have r1:cur[0+i.toNat*9+1]?=some (.int .i64 x.to):=by rw[aK];exact f 1 _ rfl
  have r2:cur[0+i.toNat*9+2]?=some (.int .i64 x.de):=by rw[aK];exact f 2 _ rfl
  have r3:cur[0+i.toNat*9+3]?=some (.int .i64 x.seq):=by rw[aK];exact f 3 _ rfl
  have r4:cur[0+i.toNat*9+4]?=some (.int .i64 x.time):=by rw[aK];exact f 4 _ rfl
  have r5:cur[0+i.toNat*9+5]?=some (.bool x.dW):=by rw[aK];exact f 5 _ rfl
  have r6:cur[0+i.toNat*9+6]?=some (.slice xa (x.c.when.map eI).length xc):=by rw[aK];exact f 6 _ rfl
  have r7:cur[0+i.toNat*9+7]?=some (.int .i64 x.c.place):=by rw[aK];exact f 7 _ rfl
  have r8:cur[0+i.toNat*9+8]?=some (.slice ya (x.c.ops.map fe).length yc):=by rw[aK];exact f 8 _ rfl
  try simp only[aQ]
  refine aG ?_
  try simp only[aQ]
  refine aq ?_
  try simp only[aQ]
  refine aM ?_
  try simp only[aQ]
  refine aq ?_
  try simp only[aQ]
  refine Za [zR 0,zR 1] [9] [zI 5 i] ?_
  try simp only[aQ]
  refine aq ?_
  try simp only[aQ]
  refine jT [(0,true),(1,true),(2,true),(3,true),(4,true),(5,false)] [] ?_
  refine Yp (bh 0 3++[.rd 3 [] 0 2,.rd 4 [.o 0 (some (nI x.fm)),.o 0 (some (nI x.to)),.o 0 (some (nI x.de)),.o 0 (some (nI x.seq)),.o 0 (some (nI x.time)),.o 0 (some (.bool x.dW)),.o 0 (some (.slice xa ((aj eI x.c.when).length) xc)),.o 0 (some (nI x.c.place)),.o 0 (some (.slice ya ((aj fe x.c.ops).length) yc))] 0 0]) [] [zV 11 (.func (.func 152) #[] #[.pointer (sA b 0)]),zV 15 (.agg #[nI x.fm,nI x.to,nI x.de,nI x.seq,nI x.time,.bool x.dW,.slice xa ((aj eI x.c.when).length) xc,nI x.c.place,.slice ya ((aj fe x.c.ops).length) yc])] (oC hi0 (oC fa (oC r0 (oC r1 (oC r2 (oC r3 (oC r4 (oC r5 (oC r6 (oC r7 (oC r8 oN))))))))))) ?_
  refine Yc 152 #[.agg #[nI x.fm,nI x.to,nI x.de,nI x.seq,nI x.time,.bool x.dW,.slice xa ((aj eI x.c.when).length) xc,nI x.c.place,.slice ya ((aj fe x.c.ops).length) yc],.pointer (sA b 0)] (some 16) fun w S hG=>?_
  refine(RV (m:=x) rfl rfl (hG.at 0 rfl)).mono ?_
  rintro e w2 hR
  refine⟨_,_,_,hR,?_⟩
  try simp only[aQ]
  refine aC ?_
  try simp only[aQ]
  refine js 0 rfl ?_
  refine bH (gw 1 0 rfl rfl hrow (by decide)) ?_
  rw[show(aj fC L).length=L.length from aA ..]
  refine cC (t:=decide (x.seq≤seq)) (fun hb=>?_) (fun hb=>?_)
  ·try simp only[aQ]
   refine aq ?_
   try simp only[aQ]
   refine Za [zR 0,zR 1] [16] [zI 4 i] ?_
   try simp only[aQ]
   refine Yr [[]] (nI i) fun a w s=>?_
   exact⟨i,s.ret (by simp) [0] [] rfl rfl,.inr ⟨hi0,fa,⟨x,hx,by simpa using hb⟩,hno⟩⟩
  ·try simp only[aQ]
   refine aG ?_
   try simp only[aQ]
   refine eu ?_
   try simp only[aQ]
   refine Zp [.rd 0 [] 0 1,zR 1] [16] [zI 8 (i+1)] (oC (show IntKind.i64.wrap (i+1)=i+1 from wrap_i64 (by omega) (by omega)) oN) ?_
   try simp only[aQ]
   refine bC (i+1) [0,1,4,7,8] [] [0] [0] ?_ ?_ (by kernel_rfl) rfl rfl rfl
   ·refine⟨by omega,by omega,fun y hy=>?_⟩
    rw[←dz hi0 hx,au,ay]at hy
    rcases hy with hy|rfl
    ·exact hno y hy
    ·simpa using hb
   ·omega
 ·have e:bZ i.toNat L=L:=br (by simp at hlt;omega)
  rw[e]at hno
  refine dO rfl ?_
  refine Zs [zR 0] [9,0,1,7,8] [zI 4 (-1)] ?_
  refine Yr [[]] (nI (-1)) fun a w s=>?_
  exact⟨-1,s.ret (by simp) [0] [] rfl rfl,.inl ⟨rfl,hno⟩⟩
def rA (L:List bN) (seq:Int):List bN:=L.filter fun m=>decide (seq<m.seq)
theorem zO {L:List bN} {seq:Int} (h:∀x∈L,seq<x.seq):rA L seq=L:=fk.2 fun x hx=>by simpa using h x hx
theorem tD {L:List bN} {seq:Int} {x:bN}:rA (L++[x]) seq=rA L seq++if seq<x.seq then [x]else []:=by
 unfold rA
 rw[dm]
 congr 1
 by_cases h:seq<x.seq <;> simp[h]
theorem Ho {L:List bN} {i:Nat} {x:bN} (hi:i<L.length):(L.set i x).take (i+1)=L.take i++[x]:=by
 rw[cV,List.take_set_of_le (aX _)]
 simp[hi]
theorem set_drop {L:List bN} {i j:Nat} {x:bN} (hi:i<j):(L.set i x).drop j=L.drop j:=List.drop_set_of_lt hi
structure GA where
 i:Int
 j:Int
 cur:Array Value
 xs:List Value
 Lc:List bN
structure qL (L:List bN) (seq:Int) (i j:Int) (Lc:List bN):Prop where
 len:Lc.length=L.length
 take:Lc.take i.toNat=rA (L.take j.toNat) seq
 drop:Lc.drop j.toNat=L.drop j.toNat
theorem qL.at {L Lc:List bN} {seq i j:Int} {x:bN} (h:qL L seq i j Lc) (hx:L[j.toNat]?=some x):Lc[j.toNat]?=some x:=by
 have h1:(Lc.drop j.toNat)[0]?=(L.drop j.toNat)[0]?:=by rw[h.drop]
 rw[cq,cq,dZ]at h1
 rw[h1,hx]
theorem qL.skip {L Lc:List bN} {seq i j:Int} {x:bN} (h:qL L seq i j Lc) (hj:0≤j) (hx:L[j.toNat]?=some x) (hk:¬seq<x.seq):qL L seq i (j+1) Lc:=by
 refine⟨h.len,?_,?_⟩
 ·rw[h.take,←dz hj hx,tD,if_neg hk,bf]
 ·rw[show(j+1).toNat=j.toNat+1 by omega,←fH,←fH,h.drop]
theorem qL.keep {L Lc:List bN} {seq i j:Int} {x:bN} (h:qL L seq i j Lc) (hi:0≤i) (hij:i<j) (hj:j<L.length) (hx:L[j.toNat]?=some x) (hk:seq<x.seq):qL L seq (i+1) (j+1) (Lc.set i.toNat x):=by
 refine⟨by rw[jg];exact h.len,?_,?_⟩
 ·rw[show(i+1).toNat=i.toNat+1 by omega,Ho (by have:=h.len;omega),h.take,←dz (by omega) hx,tD,if_pos hk]
 ·rw[set_drop (by omega),show(j+1).toNat=j.toNat+1 by omega,←fH,←fH,h.drop]
set_option maxHeartbeats 4000000 in
theorem F5 {w:World} {S:Nat→Prop} {M:List Nat} {a:Option Addr} {n c:Nat} {L:List bN} {seq:Int} {b:Nat} (hP:Pre w S M [aT (.slice a n c) 62 9 (L.map fC)]) (hl:L.length≤1000000) (h:cm w S (.pointer (some ⟨b,0,none⟩)) (.ptr [.v (.int .i64 seq)])) :
  Calls Tryz.prog 151 #[.slice a n c,.func (.func 152) #[] #[.pointer (some ⟨b,0,none⟩)]] w fun e w'=>∃a' n' c',cQ M w S w' e (.slice a' n' c') [aT (.slice a' n' c') 62 9 ((rA L seq).map fC)] []:=by
 refine pW Tryz.func151 RA (args:=[.slice a n c,.func (.func 152) #[] #[.pointer (some ⟨b,0,none⟩)]]) (S:=S) (C:=[aT (.slice a n c) 62 9 (L.map fC)]) (G:=[(_,.ptr [.v (.int .i64 seq)])]) (by kernel_rfl) hP (.cons h (.nil _ _)) ?_
 refine b9 (eC 0 rfl) fun _ hk=>?_
 rw[aA]at hk
 subst hk
 refine Zs [zR 0] [] [zS 4 none 0 0] ?_
 refine jS [(0,true),(1,true),(2,false),(3,true)] [] ?_
 refine Ya [zR 0,zR 1] [] [zS 8 a L.length c,zV 9 (.func (.func 152) #[] #[.pointer (sA b 0)])] ?_
 refine cn [] [0] 190 #[.slice a L.length c,.func (.func 152) #[] #[.pointer (some (⟨b,0,none⟩))]] (some 10) (by kernel_rfl) (by kernel_rfl) (by decide) (fun w S M hP hG _=>?_)
 refine(Ic hP hl (hG.at 0 rfl)).mono ?_
 rintro e1 w1 ⟨r,hR,hr⟩
 refine⟨_,_,_,hR,?_⟩
 obtain⟨rfl,hall⟩|⟨FR,VB,⟨y,hy,hys⟩,Ig⟩:=hr
 ·try simp only[aQ]
  refine Ya [zR 3] [10,8,9] [zI 5 (-1)] ?_
  try simp only[aQ]
  refine aC ?_
  try simp only[aQ]
  refine aq ?_
  try simp only[aQ]
  refine aq ?_
  try simp only[aQ]
  refine Za [zR 0,zR 1] [] [zB 12 true] ?_
  try simp only[aQ]
  refine gR ?_
  try simp only[aQ]
  refine aq ?_
  try simp only[aQ]
  refine Za [zR 0,zR 1] [12] [zS 4 a L.length c] ?_
  try simp only[aQ]
  refine Yr [[]] (.slice a L.length c) fun a w s=>?_
  rw[zO hall]
  exact⟨_,_,_,s.ret (by simp) [0] [] rfl rfl⟩
 ·have Vz:¬r = -1:=by omega
  try simp only[aQ]
  refine Ya [zR 3] [10,8,9] [zI 5 r] ?_
  try simp only[aQ]
  refine aC ?_
  try simp only[aQ]
  refine aq ?_
  try simp only[aQ]
  refine aq ?_
  try simp only[aQ]
  refine Zp [zR 0,.rd 1 [] 0 7] [] [zB 12 false] (oC (show(r==(-1:Int))=false from by simp;omega) oN) ?_
  try simp only[aQ]
  refine cF ?_
  try simp only[aQ]
  refine aG ?_
  try simp only[aQ]
  refine aq ?_
  try simp only[aQ]
  refine aq ?_
  try simp only[aQ]
  refine Zp [zR 0,.rd 1 [] 0 1,zR 2] [12] [zI 6 (r+1)] (oC (show IntKind.i64.wrap (r+1)=r+1 from wrap_i64 (by omega) (by omega)) oN) ?_
  try simp only[aQ]
  refine aM ?_
  try simp only[aQ]
  refine kj 0 rfl (by intro h0;rw[cM]at h0;rw[h0]at hy;simp at hy) fun g IJ Oi hu _ _ rD=>?_
  subst hu
  rw[aA]at rD
  have hcap:L.length≤c:=rD.le
  have sZ:(L.take (r+1).toNat).filter (fun m=>decide (seq<m.seq))=L.take r.toNat:=by
   have:=tD (L:=L.take r.toNat) (seq:=seq) (x:=y)
   rw[dz FR hy,zO Ig,if_neg (by omega),bf]at this
   exact this
  refine cU (fun x:GA=>[zS 0 (sA g 0) L.length c,zV 1 (.func (.func 152) #[] #[.pointer (sA b 0)]),zS 4 none 0 0,zI 5 x.i,zI 6 x.j]) (fun x:GA=>[(g,.cells x.cur 62 (0,0))]) (fun x:GA=>[kM x.xs 9 (x.Lc.map fC)]) (fun x:GA=>[(.pointer (sA b 0),(D.ptr [D.v (nI seq)]))]) (fun x:GA=>(L.length - x.j).toNat) (fun x:GA=>(0≤x.i∧x.i<x.j∧x.j≤L.length∧Row x.cur c L.length 9 x.xs∧qL L seq x.i x.j x.Lc)) ⟨r,r+1,IJ,Oi,L⟩ [0,1,4,5,6] [0] [0] [0] ?_ (by kernel_rfl) rfl rfl rfl ?_
  ·exact⟨FR,by simp only;omega,by simp only;omega,rD,⟨rfl,sZ.symm,rfl⟩⟩
  rintro⟨i,j,cu,xs,Lc⟩ ⟨hi0,hij,hj,hrow,hinv⟩
  dsimp only at hi0 hij hj hrow hinv ⊢
  refine aq ?_
  refine Zs (bh 0 4) [] [zB 19 (decide (j<(↑L.length:Int)))] ?_
  refine cC (t:=decide (j<(↑L.length:Int))) (fun hlt=>?_) (fun hlt=>?_)
  ·have fa:j<L.length:=by simpa using hlt
   obtain⟨x,hx⟩:∃x,L[j.toNat]?=some x:=⟨_,ak (by omega)⟩
   have PU:=hinv.at hx
   refine b9 (jj 0 rfl j.toNat (dD PU)) fun ls hls=>?_
   obtain⟨qD,oU⟩:=hls
   obtain⟨⟨xa,xc⟩,⟨ya,yc⟩,rfl⟩:∃l0 l1,ls=[l0,l1]:=HV qD
   have f:=fun(j:Nat) v h=>hrow.L6 (oU j v h)
   have r0:cu[0+j.toNat*9]?=some (.int .i64 x.fm):=by rw[aK];exact f 0 _ rfl
   have r1:cu[0+j.toNat*9+1]?=some (.int .i64 x.to):=by rw[aK];exact f 1 _ rfl
   have r2:cu[0+j.toNat*9+2]?=some (.int .i64 x.de):=by rw[aK];exact f 2 _ rfl
   have r3:cu[0+j.toNat*9+3]?=some (.int .i64 x.seq):=by rw[aK];exact f 3 _ rfl
   have r4:cu[0+j.toNat*9+4]?=some (.int .i64 x.time):=by rw[aK];exact f 4 _ rfl
   have r5:cu[0+j.toNat*9+5]?=some (.bool x.dW):=by rw[aK];exact f 5 _ rfl
   have r6:cu[0+j.toNat*9+6]?=some (.slice xa (x.c.when.map eI).length xc):=by rw[aK];exact f 6 _ rfl
   have r7:cu[0+j.toNat*9+7]?=some (.int .i64 x.c.place):=by rw[aK];exact f 7 _ rfl
   have r8:cu[0+j.toNat*9+8]?=some (.slice ya (x.c.ops.map fe).length yc):=by rw[aK];exact f 8 _ rfl
   try simp only[aQ]
   refine aG (aq (aM ?_))
   refine Zu [zR 0,zR 1,.rd 2 [] 0 2,.rd 3 [.o 0 (some (nI x.fm)),.o 0 (some (nI x.to)),.o 0 (some (nI x.de)),.o 0 (some (nI x.seq)),.o 0 (some (nI x.time)),.o 0 (some (.bool x.dW)),.o 0 (some (.slice xa ((aj eI x.c.when).length) xc)),.o 0 (some (nI x.c.place)),.o 0 (some (.slice ya ((aj fe x.c.ops).length) yc))] 0 0,.wr 4 [] 0,.wr 5 (ek 1 9) 0] [(5,[])] [19] (fun aN=>[zP 7 (aN 0)]) o0 (fun aN=>[(aN 0,.cells #[nI x.fm,nI x.to,nI x.de,nI x.seq,nI x.time,.bool x.dW,.slice xa ((aj eI x.c.when).length) xc,nI x.c.place,.slice ya ((aj fe x.c.ops).length) yc] 62 (0,0))]) (fun aN=>(oC (show 0≤j from by omega) (oC fa (oC r0 (oC r1 (oC r2 (oC r3 (oC r4 (oC r5 (oC r6 (oC r7 (oC r8 oN)))))))))))) (fun aN=>?_)
   refine jS [(0,true),(1,true),(2,false),(3,true)] [] ?_
   refine Ya [zR 0,.rd 1 (ek 1 9) 0 0] [] [zV 26 (.func (.func 152) #[] #[.pointer (sA b 0)]),zV 27 (.agg #[nI x.fm,nI x.to,nI x.de,nI x.seq,nI x.time,.bool x.dW,.slice xa ((aj eI x.c.when).length) xc,nI x.c.place,.slice ya ((aj fe x.c.ops).length) yc])] ?_
   refine Yc 152 #[.agg #[nI x.fm,nI x.to,nI x.de,nI x.seq,nI x.time,.bool x.dW,.slice xa ((aj eI x.c.when).length) xc,nI x.c.place,.slice ya ((aj fe x.c.ops).length) yc],.pointer (sA b 0)] (some 28) fun w S hG=>?_
   refine(RV (m:=x) rfl rfl (hG.at 0 rfl)).mono ?_
   rintro e w2 hR
   refine⟨_,_,_,hR,?_⟩
   try simp only[aQ]
   refine Ya [zR 3] [28,26,27] [zB 29 (!decide (x.seq≤seq))] ?_
   refine aC ?_
   refine cC (t:=!decide (x.seq≤seq)) (fun hb=>?_) (fun hb=>?_)
   ·have hkeep:seq<x.seq:=by simpa using hb
    have hsz:=hrow.Ei
    have LR:=hinv.len
    have T9:0+i.toNat*9+9≤cu.size:=by omega
    refine jS [(0,true),(1,true),(2,true),(3,true),(4,false)] [] ?_
    refine Yp [zR 0,zR 1,.rd 2 (ek 1 9) 0 0,.rd 3 [] 0 2] [29] [zV 32 (.agg #[nI x.fm,nI x.to,nI x.de,nI x.seq,nI x.time,.bool x.dW,.slice xa ((aj eI x.c.when).length) xc,nI x.c.place,.slice ya ((aj fe x.c.ops).length) yc]),zV 33 (.pointer (sA g (0+i.toNat*9)))] (oC hi0 (oC (show i<(↑L.length:Int) from by omega) oN)) ?_
    refine rW 0 g (0+i.toNat*9) 62 62 (.agg #[.int .i64 x.fm,.int .i64 x.to,.int .i64 x.de,.int .i64 x.seq,.int .i64 x.time,.bool x.dW,.slice xa ((aj eI x.c.when).length) xc,.int .i64 x.c.place,.slice ya ((aj fe x.c.ops).length) yc]) [.int .i64 x.fm,.int .i64 x.to,.int .i64 x.de,.int .i64 x.seq,.int .i64 x.time,.bool x.dW,.slice xa ((aj eI x.c.when).length) xc,.int .i64 x.c.place,.slice ya ((aj fe x.c.ops).length) yc] none (by kernel_rfl) (by kernel_rfl) (by kernel_rfl) rfl rfl rfl T9 (by simp[Value.oneCell']) ?_
    refine aC ?_
    rw[aK]
    refine bH (tj 0 i.toNat (vs:=[.int .i64 x.fm,.int .i64 x.to,.int .i64 x.de,.int .i64 x.seq,.int .i64 x.time,.bool x.dW,.slice xa (x.c.when.map eI).length xc,.int .i64 x.c.place,.slice ya (x.c.ops.map fe).length yc]) (row:=fC x) rfl (by rw[hrow.len,aA,LR]) (by rw[aA];omega) rfl ⟨.inl ⟨rfl,rfl⟩,.inl ⟨rfl,rfl⟩,.inl ⟨rfl,rfl⟩,.inl ⟨rfl,rfl⟩,.inl ⟨rfl,rfl⟩,.inl ⟨rfl,rfl⟩,.inr (.inl (ae (i:=1) rfl)),.inl ⟨rfl,rfl⟩,.inr (.inl (ae (i:=2) rfl)),trivial⟩) ?_
    rw[show(aj fC Lc).set i.toNat (fC x)=aj fC (Lc.set i.toNat x) from mS.symm]
    refine Zp [zR 0,.rd 1 [] 0 1,zR 2] [] [zI 5 (i+1)] (oC (show IntKind.i64.wrap (i+1)=i+1 from wrap_i64 (by omega) (by omega)) oN) ?_
    refine eu ?_
    refine Zp [zR 0,.rd 1 [] 0 1,zR 2] [] [zI 6 (j+1)] (oC (show IntKind.i64.wrap (j+1)=j+1 from wrap_i64 (by omega) (by omega)) oN) ?_
    refine bC ⟨i+1,j+1,_,_,Lc.set i.toNat x⟩ [0,1,4,5,6] [0] [0] [0] ?_ ?_ (by kernel_rfl) rfl rfl rfl
    ·exact⟨by simp only;omega,by simp only;omega,by simp only;omega,hrow.By (by omega) rfl,hinv.keep hi0 hij fa hx hkeep⟩
    ·simp only
     omega
   ·have Is:¬seq<x.seq:=by simpa using hb
    refine aG (eu ?_)
    refine Zp [zR 0,.rd 1 [] 0 1,zR 2] [29] [zI 6 (j+1)] (oC (show IntKind.i64.wrap (j+1)=j+1 from wrap_i64 (by omega) (by omega)) oN) ?_
    refine bC ⟨i,j+1,cu,xs,Lc⟩ [0,1,4,5,6] [0] [0] [0] ?_ ?_ (by kernel_rfl) rfl rfl rfl
    ·exact⟨hi0,by simp only;omega,by simp only;omega,hrow,hinv.skip (by omega) hx Is⟩
    ·simp only
     omega
  ·have oP:j=L.length:=by simp at hlt;omega
   have hsz:=hrow.Ei
   have LR:=hinv.len
   have vM:i<L.length:=by omega
   have Qw:i<c:=by omega
   have yf:Lc.take i.toNat=rA L seq:=by
    rw[hinv.take,oP,br (by simp)]
   have wQ:0+i.toNat*9+(L.length - i.toNat)*9≤cu.size:=by omega
   refine dO rfl ?_
   refine jS [(0,true),(1,true),(2,true),(3,false)] [] ?_
   refine Yp [zR 0,zR 1,.rd 2 [] 0 4] [19,1,6] [zS 38 (sA g (0+i.toNat*9)) (L.length - i.toNat) (c - i.toNat)] (oC hi0 (oC (show i≤(↑L.length:Int) from by omega) (oC Qw oN))) ?_
   refine yR (size:=9) (bytes:=104) 0 g (0+i.toNat*9) (L.length - i.toNat) (c - i.toNat) 56 62 (.agg #[.int .i64 0,.int .i64 0,.int .i64 0,.int .i64 0,.int .i64 0,.bool false,.slice none 0 0,.int .i64 0,.slice none 0 0]) none (by kernel_rfl) (by kernel_rfl) (by kernel_rfl) (by kernel_rfl) (by omega) rfl rfl wQ (by simp[Value.cells,Value.oneCell']) (fun NY Ie=>?_)
   refine aC (aq ?_)
   rw[aK]
   refine bH (rh 0 i.toNat rfl) ?_
   refine js 0 rfl ?_
   refine Nm [(kM (bZ (i.toNat*9) xs) 9 (bZ i.toNat (aj fC Lc))),bL g (.cells (xx cu (i.toNat*9) NY) 62 (0,0))] ?_
   rw[show bZ i.toNat (aj fC Lc)=aj fC (rA L seq)by rw[←jt,yf]]
   have uM:=hrow.Uz (i:=i.toNat) (by omega) Ie
   have z6:(aj fC (rA L seq)).length=i.toNat:=by rw[←yf];simp;omega
   refine bH (gw 1 0 rfl rfl (by rw[z6];exact uM) (by decide)) ?_
   rw[z6]
   try simp only[aQ]
   refine Zp [zR 0,zR 1,.rd 2 [] 0 4,zR 3] [38,0,5] [zS 4 (sA g 0) i.toNat c] (oC hi0 (oC (show i≤(↑c:Int) from by omega) oN)) ?_
   try simp only[aQ]
   refine Yr [[]] (.slice (sA g 0) i.toNat c) fun a w s=>?_
   exact⟨_,_,_,s.ret (by simp) [0] [] rfl rfl⟩
end Go.Proofs.YtmkapocibaojdaaGreatDoor
end
section
namespace Go.Proofs.YtmkapocibaojdaaGreatDoor
open Go Go.Sx
abbrev lz (fm to sh q t:Int) (l:Value):Obj:=.cells #[.int .i64 fm,.int .i64 to,.int .i64 sh,.int .i64 q,.int .i64 t,l] 224 (0,0)
set_option maxHeartbeats 4000000 in
theorem FC {w0:World} {S:Nat→Prop} {er:Nat→Addr} {fm to sh:Int} (hE:gl w0 S (oF er)) (h0:jU fm to sh=0) :
  Calls Tryz.prog 58 #[.int .i64 fm,.int .i64 to,.int .i64 sh] w0 fun e w'=>∃b,
   cQ [] w0 S w' e (.tuple #[.pointer (some ⟨b,0,none⟩),.nilIface]) [bL b (lz fm to sh 0 0 (.slice none 0 0))] []:=by
 refine jL Tryz.func58 UW (args:=[.int .i64 fm,.int .i64 to,.int .i64 sh]) (G:=oF er) (by kernel_rfl) hE ?_
 refine Zs [zR 0,zR 1] [] [zV 6 (.pointer none),zV 7 .nilIface] ?_
 refine jS [(0,true),(1,true),(2,true),(3,false),(4,true),(5,true),(6,true),(7,false),(8,false),(9,true)] [] ?_
 refine Ya (bh 0 3) [0,1,2] [zI 11 fm,zI 12 to,zI 13 sh] ?_
 refine Yc 122 #[nI fm,nI to,nI sh] (some 14) fun w S hG=>?_
 refine(HP (hG.pick [0,1,2] rfl)).mono ?_
 rintro e1 w1 (⟨h1,hR⟩|⟨h1,hR⟩)
 ·exact absurd h0 h1
 refine⟨_,_,_,hR,?_⟩
 try simp only[aQ]
 refine Ym (bh 4 7++[.wr 7 [] 0,.wr 8 (ek 0 3) 0,zR 9]) [14,11,12,13] (fun aN=>[zP 8 (aN 0),zV 9 .nilIface]) o0 (fun aN=>[(aN 0,.cells #[nI fm,nI to,nI sh] 220 (0,0))]) [] (fun aN=>?_)
 refine aC (aq ?_)
 refine Zs [zR 0,zR 1] [] [zB 18 false] ?_
 refine cF ?_
 refine aG ?_
 refine Zv [.rd 0 (ek 0 3) 0 0,zR 1,.wr 2 [] 0,zR 3,zR 4] [] [18,8,9] (fun dy=>[zP 6 (dy 0)]) o0 (fun dy=>[(dy 0,.cells #[nI fm,nI to,nI sh,nI 0,nI 0,.slice none 0 0] 224 (0,0))]) (fun dy=>?_)
 refine Yr [[],[]] (.tuple #[.pointer (sA (dy 0) 0),.nilIface]) fun a w s=>?_
 exact⟨_,(s.dY 1 rfl).ret (by simp) [0] [] rfl rfl⟩
set_option maxHeartbeats 4000000 in
theorem Lx {w0:World} {S:Nat→Prop} {M:List Nat} {b:Nat} {fm to sh q t time:Int} {dW:Bool} {a:Option Addr} {k cc:Nat} {L:List bN} {c:bO} {a1 a2:Option Addr} {n1 c1 n2 c2:Nat}
  (hP:Pre w0 S M [bL b (lz fm to sh q t (.slice a k cc)),aT (.slice a k cc) 62 9 (L.map fC)]) (h1:cm w0 S (.slice a1 n1 c1) (aS c.when)) (h2:cm w0 S (.slice a2 n2 c2) (.sl 7 (c.ops.map fe))) (ja:c.when.length≤1000000) (kS:c.ops.length≤1000000) (qE:∀o∈c.ops,o.bF.length≤1000000)
  (qj:0≤q) (wF:q<1000000) (hL:L.length<1000000) :
  Calls Tryz.prog 149 #[.pointer (some ⟨b,0,none⟩),.int .i64 time,.agg #[.slice a1 n1 c1,.int .i64 c.place,.slice a2 n2 c2],.bool dW] w0 fun e w'=>∃a' k' c' u1 d1 u2 d2,
   cQ M w0 S w' e (.agg #[.int .i64 fm,.int .i64 to,.int .i64 sh,.int .i64 (q+1),.int .i64 time,.bool dW,.slice u1 n1 d1,.int .i64 c.place,.slice u2 n2 d2])
    [bL b (lz fm to sh (q+1) time (.slice a' k' c')),aT (.slice a' k' c') 62 9 ((L++[(⟨fm,to,sh,q+1,time,dW,c⟩:bN)]).map fC)] [(.slice u1 n1 d1,aS c.when),(.slice u2 n2 d2,.sl 7 (c.ops.map fe))]:=by
 refine pW Tryz.func149 RC (args:=[.pointer (some ⟨b,0,none⟩),.int .i64 time,.agg #[.slice a1 n1 c1,.int .i64 c.place,.slice a2 n2 c2],.bool dW]) (S:=S) (C:=[bL b (lz fm to sh q t (.slice a k cc)),aT (.slice a k cc) 62 9 (L.map fC)]) (G:=[(_,aS c.when),(_,.sl 7 (c.ops.map fe))]) (by kernel_rfl) hP (.cons h1 (.cons h2 (.nil _ _))) ?_
 refine fh 0 rfl ?_
 refine b9 (eC 0 rfl) fun _ hk=>?_
 rw[aA]at hk
 refine Zv [.wr 0 [] 0,.wr 1 [] 0] [] [2] (fun aN=>[zP 6 (aN 0),zP 8 (aN 1)]) o0 (fun aN=>[(aN 0,.cells #[.slice a1 n1 c1,nI c.place,.slice a2 n2 c2] 35 (0,0)),(aN 1,.cells #[nI 0,nI 0,nI 0,nI 0,nI 0,.bool false,.slice none 0 0,nI 0,.slice none 0 0] 62 (0,0))]) (fun aN=>?_)
 refine Zu (bh 0 3++[.rd 3 [.o 0 none] 0 0,.rd 4 [] 0 1,zR 5,zR 6,.wr 7 [.o 0 none] 0]) [(7,[0])] [] (fun _=>[]) (fun _=>[(0,.cells #[nI fm,nI to,nI sh,nI (q+1),nI t,.slice a k cc] 224 (0,0))]) o0 (fun _=>(oC (show IntKind.i64.wrap (q+1)=q+1 from wrap_i64 (by omega) (by omega)) oN)) (fun _=>?_)
 refine Zv (bh 0 4++[.wr 4 [.o 0 none] 0]) [(4,[0])] [] (fun _=>[]) (fun _=>[(0,.cells #[nI fm,nI to,nI sh,nI (q+1),nI time,.slice a k cc] 224 (0,0))]) o0 (fun _=>?_)
 refine Zv (bh 0 4++[.rd 4 [.o 0 none] 0 0]++bh 5 9++[.rd 9 [.o 0 none] 0 0]++bh 10 14++[.rd 14 [.o 0 none] 0 0]++bh 15 18++[.rd 18 [.o 0 none] 0 0,zR 19,zR 20,.rd 21 (ek 1 3) 0 0,zR 22,.wr 23 [] 0,.wr 24 (ek 3 9) 0]) [(24,[])] [6,1,3] (fun dy=>[zP 9 (dy 0)]) o0 (fun dy=>[(dy 0,.cells #[nI fm,nI to,nI sh,nI (q+1),nI time,.bool dW,.slice a1 n1 c1,nI c.place,.slice a2 n2 c2] 62 (0,0))]) (fun dy=>?_)
 refine jS [(0,true),(1,true),(2,true),(3,true),(4,true),(5,true),(6,false),(7,false),(8,false),(9,true),(10,true),(11,false)] [(8,[]),(11,[0])] ?_
 refine Ya (bh 0 4++[.rd 4 [.o 0 none] 0 0,.rd 5 (ek 3 9) 0 0]) [0] [zP 44 b,zS 48 a k cc,zV 49 (.agg #[nI fm,nI to,nI sh,nI (q+1),nI time,.bool dW,.slice a1 n1 c1,nI c.place,.slice a2 n2 c2])] ?_
 refine Yc 153 #[.agg #[nI fm,nI to,nI sh,nI (q+1),nI time,.bool dW,.slice a1 n1 c1,nI c.place,.slice a2 n2 c2]] (some 50) fun w S hG=>?_
 refine(Mu (m:=⟨fm,to,sh,q+1,time,dW,c⟩) (hG.at 0 rfl) (hG.at 1 rfl) ja kS qE).mono ?_
 rintro e1 w1 ⟨u1,d1,u2,d2,hR⟩
 refine⟨_,_,_,hR,?_⟩
 try simp only[aQ]
 refine Ym [.wr 7 [] 0] [50,49] (fun eR=>[zS 51 (sA (eR 0) 0) 1 1]) o0 (fun eR=>[(eR 0,.cells #[nI fm,nI to,nI sh,nI (q+1),nI time,.bool dW,.slice u1 n1 d1,nI c.place,.slice u2 n2 d2] 62 (0,0))]) [(8,[]),(11,[0])] (fun eR=>?_)
 refine eY 0 56 62 9 104 (.agg #[.int .i64 0,.int .i64 0,.int .i64 0,.int .i64 0,.int .i64 0,.bool false,.slice none 0 0,.int .i64 0,.slice none 0 0]) (a0:=a) (len:=k) (iB:=cc) (ax:=(some (⟨eR 0,0,none⟩))) (m:=1) (c:=1) (dst:=(some 52)) [(⟨fm,to,sh,q+1,time,dW,c⟩:bN)] (by kernel_rfl) (by kernel_rfl) (by kernel_rfl) (by kernel_rfl) rfl (by decide) rfl (fun _ _ _ s=>fK s 4 rfl rfl ⟨.inl ⟨rfl,rfl⟩,⟨.inl ⟨rfl,rfl⟩,⟨.inl ⟨rfl,rfl⟩,⟨.inl ⟨rfl,rfl⟩,⟨.inl ⟨rfl,rfl⟩,⟨.inl ⟨rfl,rfl⟩,⟨.inr (.inl (ae (i:=2) rfl)),⟨.inl ⟨rfl,rfl⟩,⟨.inr (.inl (ae (i:=3) rfl)),trivial⟩⟩⟩⟩⟩⟩⟩⟩⟩) (by simp only[maxLen];omega) (by omega) (fun gq gp=>?_)
 try simp only[aQ]
 refine Ym [zR 9,zR 10,.wr 11 [.o 0 none] 0] [52,51,44,48] (fun _=>[]) (fun _=>[(0,.cells #[nI fm,nI to,nI sh,nI (q+1),nI time,.slice gq (k+1) gp] 224 (0,0))]) o0 [] (fun _=>?_)
 try simp only[aQ]
 refine aC ?_
 try simp only[aQ]
 refine aq ?_
 try simp only[aQ]
 refine jT [(0,true),(1,false),(2,false)] [] ?_
 refine Ya [.rd 0 (ek 3 9) 0 0] [9] [zV 55 (.agg #[nI fm,nI to,nI sh,nI (q+1),nI time,.bool dW,.slice a1 n1 c1,nI c.place,.slice a2 n2 c2])] ?_
 refine Yc 153 #[.agg #[nI fm,nI to,nI sh,nI (q+1),nI time,.bool dW,.slice a1 n1 c1,nI c.place,.slice a2 n2 c2]] (some 56) fun w S hG=>?_
 refine(Mu (m:=⟨fm,to,sh,q+1,time,dW,c⟩) (hG.at 0 rfl) (hG.at 1 rfl) ja kS qE).mono ?_
 rintro e2 w2 ⟨u3,d3,u4,d4,hR⟩
 refine⟨_,_,_,hR,?_⟩
 try simp only[aQ]
 refine Ym [.wr 2 (ek 2 9) 0] [56,55] (fun _=>[]) (fun _=>[(2,.cells #[nI fm,nI to,nI sh,nI (q+1),nI time,.bool dW,.slice u3 n1 d3,nI c.place,.slice u4 n2 d4] 62 (0,0))]) o0 [] (fun _=>?_)
 try simp only[aQ]
 refine aC ?_
 try simp only[aQ]
 refine Yr [(ek 2 9)] (.agg #[nI fm,nI to,nI sh,nI (q+1),nI time,.bool dW,.slice u3 n1 d3,nI c.place,.slice u4 n2 d4]) fun a w s=>?_
 exact⟨_,_,_,u3,d3,u4,d4,(s.dY 0 rfl).ret (by simp) [1,0] [4,5] rfl rfl⟩
end Go.Proofs.YtmkapocibaojdaaGreatDoor
end
section
namespace Go.Proofs.YtmkapocibaojdaaGreatDoor
open Go Go.Sx
def lQ (t time:Int):Nat:=if time<0∨1099511627776<time then 2 else if time<t then 9 else 0
set_option maxHeartbeats 4000000 in
theorem Px {w0:World} {S:Nat→Prop} {M:List Nat} {er:Nat→Addr} {eb:Nat→Array Value×TypeId} {b:Nat} {fm to sh q t time:Int} {a:Option Addr} {k cc:Nat} {L:List bN} (hC:cm w0 S .nilIface (dC er eb))
  (hP:Pre w0 S M [bL b (lz fm to sh q t (.slice a k cc)),aT (.slice a k cc) 62 9 (L.map fC)]) (qj:0≤q) (wF:q<1000000) (hL:L.length<1000000) :
  Calls Tryz.prog 90 #[.pointer (some ⟨b,0,none⟩),.int .i64 time] w0 fun e w'=>
   (lQ t time≠0∧cQ M w0 S w' e (.tuple #[.agg #[.int .i64 0,.int .i64 0,.int .i64 0,.int .i64 0,.int .i64 0,.bool false,.slice none 0 0,.int .i64 0,.slice none 0 0],KR 390 er (lQ t time)])
    [bL b (lz fm to sh q t (.slice a k cc)),aT (.slice a k cc) 62 9 (L.map fC)] []) ∨
   (lQ t time=0∧∃a' k' c' u1 d1 u2 d2,
   cQ M w0 S w' e (.tuple #[.agg #[.int .i64 fm,.int .i64 to,.int .i64 sh,.int .i64 (q+1),.int .i64 time,.bool true,.slice u1 0 d1,.int .i64 0,.slice u2 0 d2],.nilIface])
    [bL b (lz fm to sh (q+1) time (.slice a' k' c')),aT (.slice a' k' c') 62 9 ((L++[(⟨fm,to,sh,q+1,time,true,⟨[],0,[]⟩⟩:bN)]).map fC)] [(.slice u1 0 d1,aS []),(.slice u2 0 d2,.sl 7 (([]:List fP).map fe))]):=by
 refine pW Tryz.func90 UI (args:=[.pointer (some ⟨b,0,none⟩),.int .i64 time]) (S:=S) (C:=[bL b (lz fm to sh q t (.slice a k cc)),aT (.slice a k cc) 62 9 (L.map fC)]) (G:=[(_,dC er eb)]) (by kernel_rfl) hP (.cons hC (.nil _ _)) ?_
 refine fh 0 rfl ?_
 refine bH (ij 0 [1,8] rfl rfl) ?_
 refine di 1 rfl (fun ni mW ng dh=>?_)
 refine di 2 rfl (fun uY uq uS gu=>?_)
 try simp only[aQ]
 refine Zv [.wr 0 [] 0,zR 1] [] [] (fun aN=>[zP 4 (aN 0),zV 5 .nilIface]) o0 (fun aN=>[(aN 0,.cells #[nI 0,nI 0,nI 0,nI 0,nI 0,.bool false,.slice none 0 0,nI 0,.slice none 0 0] 62 (0,0))]) (fun aN=>?_)
 refine aq (aM ?_)
 refine Zs (bh 0 3++[.rd 3 [] 2 0,.rd 4 [] 2 0,.rd 5 [] 0 3,zR 6]) [] [zB 6 (decide (time<0)||decide (time>1099511627776))] ?_
 refine cC (t:=decide (time<0)||decide (time>1099511627776)) (fun hb=>?_) (fun hb=>?_)
 ·have e1:lQ t time=2:=by rw[lQ,if_pos (by simp at hb;omega)]
  refine Zu [zR 0,.rd 1 [.r 0 (some (.iface 390 (.pointer (some (er 2)))))] 0 0,.wr 2 (ek 1 9) 0,zR 3] [(2,[1])] [6] (fun _=>[zV 5 (.iface 390 (.pointer (some (er 2))))]) o0 o0 (fun _=>(oC dh oN)) (fun _=>?_)
  refine Yr [(ek 1 9),[]] (.tuple #[.agg #[nI 0,nI 0,nI 0,nI 0,nI 0,.bool false,.slice none 0 0,nI 0,.slice none 0 0],.iface 390 (.pointer (some (er 2)))]) fun a w s=>?_
  refine .inl ⟨by rw[e1];decide,?_⟩
  rw[e1]
  exact(s.dY 0 rfl).ret (by simp) [1,0] [] rfl rfl
 ·have hn:¬(time<0∨1099511627776<time):=by simp at hb;omega
  refine Zs (bh 0 4++[.rd 4 [.o 0 none] 0 0,zR 5,zR 6]) [6] [zB 15 (decide (time<t))] ?_
  refine cC (t:=decide (time<t)) (fun ho=>?_) (fun ho=>?_)
  ·have e1:lQ t time=9:=by rw[lQ,if_neg hn,if_pos (by simpa using ho)]
   refine Zu [zR 0,.rd 1 [.r 1 (some (.iface 390 (.pointer (some (er 9)))))] 0 0,.wr 2 (ek 1 9) 0,zR 3] [(2,[1])] [15] (fun _=>[zV 5 (.iface 390 (.pointer (some (er 9))))]) o0 o0 (fun _=>(oC gu oN)) (fun _=>?_)
   refine Yr [(ek 1 9),[]] (.tuple #[.agg #[nI 0,nI 0,nI 0,nI 0,nI 0,.bool false,.slice none 0 0,nI 0,.slice none 0 0],.iface 390 (.pointer (some (er 9)))]) fun a w s=>?_
   refine .inl ⟨by rw[e1];decide,?_⟩
   rw[e1]
   exact(s.dY 0 rfl).ret (by simp) [1,0] [] rfl rfl
  ·have e1:lQ t time=0:=by rw[lQ,if_neg hn,if_neg (by simpa using ho)]
   refine aG (eu (aq ?_))
   refine js 0 rfl ?_
   try simp only[aQ]
   refine jT [(0,true),(1,true),(2,true),(3,false),(4,false),(5,true)] [] ?_
   refine Ya (bh 0 3) [15,0,1] [zP 24 b,zI 25 time,zV 26 (.agg #[.slice none 0 0,nI 0,.slice none 0 0])] ?_
   refine cn [] [1,0] 149 #[.pointer (some (⟨b,0,none⟩)),.int .i64 time,.agg #[.slice none 0 0,.int .i64 0,.slice none 0 0],.bool true] (some 27) (by kernel_rfl) (by kernel_rfl) (by decide) (fun w S M hP hG _=>?_)
   refine(Lx (c:=⟨[],0,[]⟩) hP .nil .nil (by simp) (by simp) (by simp) qj wF hL).mono ?_
   rintro e2 w2 ⟨a',k',c',u1,d1,u2,d2,hR⟩
   refine⟨_,_,_,hR,?_⟩
   try simp only[aQ]
   refine Ym [.wr 4 (ek 0 9) 0,zR 5] [27,24,25,26] (fun _=>[]) (fun _=>[(0,.cells #[nI fm,nI to,nI sh,nI (q+1),nI time,.bool true,.slice u1 0 d1,nI 0,.slice u2 0 d2] 62 (0,0))]) o0 [] (fun _=>?_)
   try simp only[aQ]
   refine aC ?_
   try simp only[aQ]
   refine Yr [(ek 0 9),[]] (.tuple #[.agg #[nI fm,nI to,nI sh,nI (q+1),nI time,.bool true,.slice u1 0 d1,nI 0,.slice u2 0 d2],.nilIface]) fun a w s=>?_
   exact .inr ⟨e1,a',k',c',u1,d1,u2,d2,s.ret (by simp) [0,1] [3,4] rfl rfl⟩
end Go.Proofs.YtmkapocibaojdaaGreatDoor
end
section
namespace Go.Proofs.YtmkapocibaojdaaGreatDoor
open Go Go.Sx
def oJ (q seq:Int):Nat:=if seq<0∨q<seq then 2 else 0
def CO (q seq:Int) (L:List bN):List bN:=if oJ q seq=0 then rA L seq else L
set_option maxHeartbeats 4000000 in
theorem Mt {w0:World} {S:Nat→Prop} {M:List Nat} {er:Nat→Addr} {eb:Nat→Array Value×TypeId} {b:Nat} {fm to sh q t seq:Int} {a:Option Addr} {k cc:Nat} {L:List bN} (hC:cm w0 S .nilIface (dC er eb))
  (hP:Pre w0 S M [bL b (lz fm to sh q t (.slice a k cc)),aT (.slice a k cc) 62 9 (L.map fC)]) (hL:L.length≤1000000) :
  Calls Tryz.prog 91 #[.pointer (some ⟨b,0,none⟩),.int .i64 seq] w0 fun e w'=>∃a' k' c' v,cQ M w0 S w' e v [bL b (lz fm to sh q t (.slice a' k' c')),aT (.slice a' k' c') 62 9 ((CO q seq L).map fC)] []∧lq 390 er (oJ q seq) v:=by
 refine pW Tryz.func91 UH (args:=[.pointer (some ⟨b,0,none⟩),.int .i64 seq]) (S:=S) (C:=[bL b (lz fm to sh q t (.slice a k cc)),aT (.slice a k cc) 62 9 (L.map fC)]) (G:=[(_,dC er eb)]) (by kernel_rfl) hP (.cons hC (.nil _ _)) ?_
 refine fh 0 rfl ?_
 refine bH (ij 0 [1] rfl rfl) ?_
 refine di 1 rfl (fun ni mW ng dh=>?_)
 try simp only[aQ]
 refine Zv [.wr 0 [] 0,zR 1] [] [1] (fun aN=>[zP 3 (aN 0),zV 4 .nilIface]) o0 (fun aN=>[(aN 0,.cells #[nI seq] 3 (0,0))]) (fun aN=>?_)
 refine aq ?_
 refine Zs [.rd 0 [.o 1 none] 0 0,zR 1,zR 2,.rd 3 [.o 1 none] 2 0,.rd 4 [] 2 0,.rd 5 [] 2 0,.rd 6 [] 2 0,.rd 7 [.o 0 none] 2 0,.rd 8 [] 2 0,.rd 9 [] 0 3] [] [zB 14 (decide (seq<0)||decide (seq>q))] ?_
 refine cC (t:=decide (seq<0)||decide (seq>q)) (fun hb=>?_) (fun hb=>?_)
 ·have e1:oJ q seq=2:=by rw[oJ,if_pos (by simp at hb;omega)]
  have e2:CO q seq L=L:=by rw[CO,if_neg (by rw[e1];decide)]
  rw[e1,e2]
  refine Zt [.rd 0 [.r 0 (some (.iface 390 (.pointer (some (er 2)))))] 0 0,zR 1] [14] [zV 4 (.iface 390 (.pointer (some (er 2))))] (oC dh oN) ?_
  refine Yr [[]] (.iface 390 (.pointer (some (er 2)))) fun a w s=>?_
  exact⟨_,_,_,_,(s.dY 0 rfl).ret (by simp) [1,0] [] rfl rfl,.inr ⟨by decide,rfl⟩⟩
 ·have e1:oJ q seq=0:=by rw[oJ,if_neg (by simp at hb;omega)]
  have e2:CO q seq L=rA L seq:=by rw[CO,if_pos e1]
  rw[e1,e2]
  refine aG (aq ?_)
  refine ve 1 rfl ?_
  refine bH (fB (v:=.pointer (some ⟨aN 0,0,none⟩)) (d:=.ptr [.v (.int .i64 seq)]) fun w S H=>uD (H _ (ae (i:=2) rfl)) rfl) ?_
  try simp only[aQ]
  refine jT [(0,true),(1,true),(2,true),(3,true),(4,true),(5,true),(6,false),(7,true),(8,true),(9,false)] [] ?_
  refine Ya (bh 0 4++[.rd 4 [.o 0 none] 0 0,zR 5]) [14,3,0] [zP 16 b,zS 20 a k cc,zV 21 (.func (.func 152) #[] #[.pointer (sA (aN 0) 0)])] ?_
  refine cn [] [0] 151 #[.slice a k cc,.func (.func 152) #[] #[.pointer (some (⟨aN 0,0,none⟩))]] (some 22) (by kernel_rfl) (by kernel_rfl) (by decide) (fun w S M hP hG _=>?_)
  refine(F5 hP hL (hG.at 3 rfl)).mono ?_
  rintro e3 w3 ⟨a',n',c',hR⟩
  refine⟨_,_,_,hR,?_⟩
  try simp only[aQ]
  refine Ym [zR 7,zR 8,.wr 9 [.o 0 none] 0] [22,16,20,21] (fun _=>[]) (fun _=>[(0,.cells #[nI fm,nI to,nI sh,nI q,nI t,.slice a' n' c'] 224 (0,0))]) o0 [] (fun _=>?_)
  try simp only[aQ]
  refine aC ?_
  try simp only[aQ]
  refine aq ?_
  try simp only[aQ]
  refine Za [zR 0] [] [] ?_
  try simp only[aQ]
  refine Yr [[]] (.nilIface) fun a w s=>?_
  exact⟨_,_,_,_,(s.dY 0 rfl).ret (by simp) [1,0] [] rfl rfl,.inl ⟨rfl,rfl⟩⟩
def ER (er:Nat→Addr) (f:FT) (v:Value) (G:List (Value×D)):Prop:=
 (f.at' = -1∧lq 390 er f.code v∧G=[]) ∨
 (1≤f.code∧0≤f.at'∧∃pb,v=.iface 202 (.pointer (some ⟨pb,0,none⟩))∧G=[(.pointer (some ⟨pb,0,none⟩),.ptr [.v (.int .i64 f.at'),.v (.iface 390 (.pointer (some (er f.code))))])])
def jw (c:bO) (fm t:Int):FT:=
 if (aY c).code≠0 then aY c
 else if c.place≠fm then ⟨3,-1⟩
 else if c.when.getD c.place.toNat 0≤t then ⟨9,-1⟩
 else ⟨0,-1⟩
theorem Cu {c:bO} (h:(aY c).code=0):aY c=⟨0,-1⟩∧0≤c.place∧c.place<c.when.length:=by
 unfold aY at h ⊢
 split at h
 ·rename_i h1;exact absurd h h1
 rw[if_neg (by assumption)]
 split at h
 ·cases h
 rw[if_neg (by assumption)]
 rename_i h2
 split at h
 ·cases h
 rw[if_neg (by assumption)]
 split at h
 ·cases h
 rw[if_neg (by assumption)]
 refine⟨?_,by omega,by omega⟩
 obtain⟨h3,h4⟩:=kf (l:=c.ops) (places:=c.when.length) c.ops.length 0 c.ops.length (eo _) fun j _ hj=>by
  have key:∀n k,(j5 c.ops c.when.length n k).code=0→∀j,k≤j→j<k+n→ik c.ops c.when.length j=0:=by
   intro n
   induction n with
   | zero=>intro k _ j h1 h2;omega
   | succ n ih=>
    intro k hk j h1 h2
    unfold j5 at hk
    split at hk
    ·rename_i h0
     rcases Nat.eq_or_lt_of_le h1 with rfl|hlt
     ·exact h0
     ·exact ih (k+1) hk j hlt (by omega)
    ·rename_i h0
     exact absurd hk h0
  exact key _ _ h j (eo _) (by omega)
 exact h3 (by omega)
abbrev Sr:Value:=.agg #[.int .i64 0,.int .i64 0,.int .i64 0,.int .i64 0,.int .i64 0,.bool false,.slice none 0 0,.int .i64 0,.slice none 0 0]
set_option maxHeartbeats 2000000 in
theorem J1 {w0:World} {S:Nat→Prop} {M:List Nat} {er:Nat→Addr} {eb:Nat→Array Value×TypeId} {b:Nat} {fm to sh q t:Int} {a:Option Addr} {k cc:Nat} {L:List bN} {c:bO} {a1 a2:Option Addr} {n1 c1 n2 c2:Nat} (hC:cm w0 S .nilIface (dC er eb))
  (hP:Pre w0 S M [bL b (lz fm to sh q t (.slice a k cc)),aT (.slice a k cc) 62 9 (L.map fC)]) (h1:cm w0 S (.slice a1 n1 c1) (aS c.when)) (h2:cm w0 S (.slice a2 n2 c2) (.sl 7 (c.ops.map fe))) (ja:c.when.length≤1000000) (kS:c.ops.length≤1000000) (qE:∀o∈c.ops,o.bF.length≤1000000)
  (qj:0≤q) (wF:q<1000000) (hL:L.length<1000000) :
  Calls Tryz.prog 88 #[.pointer (some ⟨b,0,none⟩),.agg #[.slice a1 n1 c1,.int .i64 c.place,.slice a2 n2 c2]] w0 fun e w'=>
   ((jw c fm t).code≠0∧∃v G',cQ M w0 S w' e (.tuple #[Sr,v]) [bL b (lz fm to sh q t (.slice a k cc)),aT (.slice a k cc) 62 9 (L.map fC)] G'∧ER er (jw c fm t) v G') ∨
   (jw c fm t=⟨0,-1⟩∧∃a' k' c' u1 d1 u2 d2,
   cQ M w0 S w' e (.tuple #[.agg #[.int .i64 fm,.int .i64 to,.int .i64 sh,.int .i64 (q+1),.int .i64 (c.when.getD c.place.toNat 0),.bool false,.slice u1 n1 d1,.int .i64 c.place,.slice u2 n2 d2],.nilIface])
    [bL b (lz fm to sh (q+1) (c.when.getD c.place.toNat 0) (.slice a' k' c')),aT (.slice a' k' c') 62 9 ((L++[(⟨fm,to,sh,q+1,c.when.getD c.place.toNat 0,false,c⟩:bN)]).map fC)] [(.slice u1 n1 d1,aS c.when),(.slice u2 n2 d2,.sl 7 (c.ops.map fe))]):=by
 obtain rfl:=dJ h1
 refine pW Tryz.func88 UK (args:=[.pointer (some ⟨b,0,none⟩),.agg #[.slice a1 c.when.length c1,.int .i64 c.place,.slice a2 n2 c2]]) (S:=S) (C:=[bL b (lz fm to sh q t (.slice a k cc)),aT (.slice a k cc) 62 9 (L.map fC)]) (G:=[(_,dC er eb),(_,aS c.when),(_,.sl 7 (c.ops.map fe))]) (by kernel_rfl) hP (.cons hC (.cons h1 (.cons h2 (.nil _ _)))) ?_
 refine fh 0 rfl ?_
 refine bH (ij 0 [2,8] rfl rfl) ?_
 refine di 3 rfl (fun ni mW ng dh=>?_)
 refine di 4 rfl (fun uY uq uS gu=>?_)
 try simp only[aQ]
 refine Zv [.wr 0 [] 0,.wr 1 [] 0,zR 2] [] [1] (fun aN=>[zP 3 (aN 0),zP 4 (aN 1),zV 5 .nilIface]) o0 (fun aN=>[(aN 0,.cells #[.slice a1 c.when.length c1,nI c.place,.slice a2 n2 c2] 35 (0,0)),(aN 1,.cells #[nI 0,nI 0,nI 0,nI 0,nI 0,.bool false,.slice none 0 0,nI 0,.slice none 0 0] 62 (0,0))]) (fun aN=>?_)
 refine aq ?_
 refine jS [(0,true),(1,false),(2,true)] [] ?_
 refine Ya [.rd 0 (ek 1 3) 0 0] [] [zV 7 (.agg #[.slice a1 c.when.length c1,nI c.place,.slice a2 n2 c2])] ?_
 refine Yc 85 #[.agg #[.slice a1 c.when.length c1,nI c.place,.slice a2 n2 c2]] (some 8) fun w S hG=>?_
 refine(pg (c:=c) (hG.at 0 rfl) (hG.at 1 rfl) (hG.at 2 rfl) ja kS).mono ?_
 rintro e1 w1 (⟨hat,v,hR,hv⟩|⟨zb,GH,pb,hR⟩)
 ·refine⟨_,_,_,hR,?_⟩
  obtain⟨hc0,rfl⟩|⟨hc0,rfl⟩:=hv
  ·obtain⟨X8,M8,hp1⟩:=Cu hc0
   try simp only[aQ]
   refine Ya [zR 2] [8,7] [zV 6 .nilIface] ?_
   refine aC ?_
   refine Zs [zR 0,zR 1] [] [zB 10 false] ?_
   refine cF ?_
   refine aG (aq ?_)
   refine Zs ([zR 0,.rd 1 [.o 1 none] 0 0]++bh 2 6++[.rd 6 [.o 0 none] 0 0,zR 7]) [10,6] [zB 20 (c.place != fm)] ?_
   have Uh:¬((aY c).code≠0):=by simp[hc0]
   refine cC (t:=c.place != fm) (fun pS=>?_) (fun pS=>?_)
   ·have e:jw c fm t=⟨3,-1⟩:=by rw[jw,if_neg Uh,if_pos (by simpa using pS)]
    rw[e]
    refine Zu [zR 0,.rd 1 [.r 0 (some (.iface 390 (.pointer (some (er 3)))))] 0 0,.wr 2 (ek 2 9) 0,zR 3] [(2,[2])] [20] (fun _=>[zV 5 (.iface 390 (.pointer (some (er 3))))]) o0 o0 (fun _=>(oC dh oN)) (fun _=>?_)
    refine Yr [(ek 2 9),[]] (.tuple #[.agg #[nI 0,nI 0,nI 0,nI 0,nI 0,.bool false,.slice none 0 0,nI 0,.slice none 0 0],.iface 390 (.pointer (some (er 3)))]) fun a w s=>?_
    exact .inl ⟨by decide,_,_,(s.dY 0 rfl).ret (by simp) [1,0] [] rfl rfl,.inl ⟨rfl,.inr ⟨by decide,rfl⟩,rfl⟩⟩
   have Qg:¬c.place≠fm:=by simpa using pS
   obtain⟨t1,ht1⟩:∃t1,c.when[c.place.toNat]?=some t1:=⟨_,ak (by omega)⟩
   have hgd:c.when.getD c.place.toNat 0=t1:=by rw[aO,ht1];rfl
   rw[hgd]
   refine gr 1 rfl c.place.toNat (dD ht1) (by kernel_rfl) (fun b1 fu uf vi vm ha1 cP=>?_)
   cases ha1
   have cg:=oO (cP 0 _ rfl)
   try simp only[aQ]
   refine aG (aq ?_)
   refine Zt ([zR 0,.rd 1 [.o 1 none] 0 0,zR 2,.rd 3 [.o 1 none] 0 0,.rd 4 [] 0 2,.rd 5 [.r 2 (some (nI t1))] 0 0]++bh 6 9++[.rd 9 [.o 0 none] 0 0,zR 10]) [20] [zB 33 (decide (t1≤t))] (oC M8 (oC hp1 (oC cg oN))) ?_
   refine cC (t:=decide (t1≤t)) (fun hold=>?_) (fun hold=>?_)
   ·have e:jw c fm t=⟨9,-1⟩:=by rw[jw,if_neg Uh,if_neg Qg,hgd,if_pos (by simpa using hold)]
    rw[e]
    refine Zu [zR 0,.rd 1 [.r 1 (some (.iface 390 (.pointer (some (er 9)))))] 0 0,.wr 2 (ek 2 9) 0,zR 3] [(2,[2])] [33] (fun _=>[zV 5 (.iface 390 (.pointer (some (er 9))))]) o0 o0 (fun _=>(oC gu oN)) (fun _=>?_)
    refine Yr [(ek 2 9),[]] (.tuple #[.agg #[nI 0,nI 0,nI 0,nI 0,nI 0,.bool false,.slice none 0 0,nI 0,.slice none 0 0],.iface 390 (.pointer (some (er 9)))]) fun a w s=>?_
    exact .inl ⟨by decide,_,_,(s.dY 0 rfl).ret (by simp) [1,0] [] rfl rfl,.inl ⟨rfl,.inr ⟨by decide,rfl⟩,rfl⟩⟩
   have e:jw c fm t=⟨0,-1⟩:=by rw[jw,if_neg Uh,if_neg Qg,hgd,if_neg (by simpa using hold)]
   refine aG (aq ?_)
   refine js 0 rfl ?_
   try simp only[aQ]
   refine jT [(0,true),(1,true),(2,true),(3,true),(4,true),(5,true),(6,true),(7,true),(8,false),(9,false),(10,true)] [(8,[]),(9,[1])] ?_
   refine Yp [zR 0,zR 1,.rd 2 [.o 0 none] 0 0,zR 3,.rd 4 [.o 0 none] 0 0,.rd 5 [] 0 2,.rd 6 [.r 2 (some (nI t1))] 0 0,.rd 7 (ek 0 3) 0 0] [33,3,0] [zP 36 b,zI 42 t1,zV 43 (.agg #[.slice (sA b1 fu) c.when.length c1,nI c.place,.slice a2 n2 c2])] (oC M8 (oC hp1 (oC cg oN))) ?_
   refine cn [] [1,0] 149 #[.pointer (some (⟨b,0,none⟩)),.int .i64 t1,.agg #[.slice (some (⟨b1,fu,none⟩)) c.when.length c1,.int .i64 c.place,.slice a2 n2 c2],.bool false] (some 44) (by kernel_rfl) (by kernel_rfl) (by decide) (fun w S M hP hG _=>?_)
   refine(Lx (c:=c) hP (hG.at 1 rfl) (hG.at 2 rfl) ja kS qE qj wF hL).mono ?_
   rintro e2 w2 ⟨a',k',c',u1,d1,u2,d2,hR⟩
   refine⟨_,_,_,hR,?_⟩
   try simp only[aQ]
   refine Ym [.wr 9 (ek 1 9) 0,zR 10] [44,36,42,43] (fun _=>[]) (fun _=>[(1,.cells #[nI fm,nI to,nI sh,nI (q+1),nI t1,.bool false,.slice u1 c.when.length d1,nI c.place,.slice u2 n2 d2] 62 (0,0))]) o0 [] (fun _=>?_)
   try simp only[aQ]
   refine aC ?_
   try simp only[aQ]
   refine Yr [(ek 1 9),[]] (.tuple #[.agg #[nI fm,nI to,nI sh,nI (q+1),nI t1,.bool false,.slice u1 c.when.length d1,nI c.place,.slice u2 n2 d2],.nilIface]) fun a w s=>?_
   exact .inr ⟨e,a',k',c',u1,d1,u2,d2,s.ret (by simp) [0,1] [5,6] rfl rfl⟩
  ·have e:jw c fm t=aY c:=by rw[jw,if_pos hc0]
   rw[e]
   try simp only[aQ]
   refine Ya [zR 2] [8,7] [zV 6 (.iface 390 (.pointer (some (er (aY c).code))))] ?_
   refine aC ?_
   refine Zs [zR 0,zR 1] [] [zB 10 true] ?_
   refine gR ?_
   refine Zv [zR 0,zR 1,.wr 2 (ek 2 9) 0,zR 3] [(2,[2])] [10,6] (fun _=>[zV 5 (.iface 390 (.pointer (some (er (aY c).code))))]) o0 o0 (fun _=>?_)
   refine Yr [(ek 2 9),[]] (.tuple #[.agg #[nI 0,nI 0,nI 0,nI 0,nI 0,.bool false,.slice none 0 0,nI 0,.slice none 0 0],.iface 390 (.pointer (some (er (aY c).code)))]) fun a w s=>?_
   exact .inl ⟨hc0,_,_,(s.dY 0 rfl).ret (by simp) [1,0] [] rfl rfl,.inl ⟨hat,.inr ⟨hc0,rfl⟩,rfl⟩⟩
 ·refine⟨_,_,_,hR,?_⟩
  have hc0:(aY c).code≠0:=by omega
  have e:jw c fm t=aY c:=by rw[jw,if_pos hc0]
  rw[e]
  try simp only[aQ]
  refine Ya [zR 2] [8,7] [zV 6 (.iface 202 (.pointer (sA pb 0)))] ?_
  refine aC ?_
  refine Zs [zR 0,zR 1] [] [zB 10 true] ?_
  refine gR ?_
  refine Zv [zR 0,zR 1,.wr 2 (ek 2 9) 0,zR 3] [(2,[2])] [10,6] (fun _=>[zV 5 (.iface 202 (.pointer (sA pb 0)))]) o0 o0 (fun _=>?_)
  refine Yr [(ek 2 9),[]] (.tuple #[.agg #[nI 0,nI 0,nI 0,nI 0,nI 0,.bool false,.slice none 0 0,nI 0,.slice none 0 0],.iface 202 (.pointer (sA pb 0))]) fun a w s=>?_
  exact .inl ⟨hc0,_,_,(s.dY 0 rfl).ret (by simp) [1,0] [5] rfl rfl,.inr ⟨zb,GH,pb,rfl,rfl⟩⟩
end Go.Proofs.YtmkapocibaojdaaGreatDoor
end
section
namespace Go.Sx
open Go
structure Vf where
 kb:Nat
 db:Nat
 ba:Option Addr
 nb:Nat
 cb:Nat
 clock:Nat
 es:Array MapEntry
 ks:List ByteArray
 F:ByteArray→Value
end Go.Sx
namespace Go.Proofs.YtmkapocibaojdaaGreatDoor
open Go Go.Sx
structure RW (L:List fG) (v:Vf):Prop where
 m:fM (MapKept.IsKey .string) v.es (mB v.ks v.F)
 st:MapKept.Stamped v.es v.clock
 nd:v.ks.Nodup
 iff:∀t,t∈v.ks↔ey L t≠[]
noncomputable def fT (b p:Nat) (base:List Int) (L:List fG):Chunk:=tX (RW L) (fun v=>[(.slice v.ba v.nb v.cb,aS base)]) fun v=>JI b v.kb v.db v.ba p v.nb v.cb v.clock v.es v.ks v.F L
structure Gk (p:Nat) (base:List Int) (L:List fG):Prop where
 Sp:b8 base=0
 rS:base.length=p
 CW:L.length≤300000
 put:∀q∈L,(aY (lI q)).code=0∧q.when.length=p
def sI (p:Nat) (base:List Int) (L:List fG) (c:bO):List fG:=if (e8 p base L c).code=0 then L++eM c c.ops else L
theorem BR {f:Nat→Nat}:∀(n k:Nat),(oZ f n k).code=0→oZ f n k=⟨0,-1⟩
 | 0,_,_=>rfl
 | n+1,k,h=>by
  unfold oZ at h ⊢
  split at h
  ·rename_i h0
   rw[if_pos h0]
   exact BR n (k+1) h
  ·rename_i h0
   exact absurd h h0
theorem wg {p:Nat} {base:List Int} {L:List fG} {c:bO} (h:(e8 p base L c).code=0):e8 p base L c=⟨0,-1⟩:=by
 unfold e8 at h ⊢
 split at h
 ·rename_i h1
  exact absurd h h1
 rw[if_neg (by assumption)]
 split at h
 ·cases h
 rw[if_neg (by assumption)]
 split at h
 ·cases h
 rw[if_neg (by assumption)]
 exact BR _ _ h
section Sw
variable {w:World} {S:Nat→Prop} {M:List Nat} {er:Nat→Addr} {eb:Nat→Array Value×TypeId} {b p:Nat} {base:List Int} {L:List fG}
theorem GP {a1 a2:Option Addr} {n1 c1 n2 c2:Nat} {c:bO} (hC:cm w S .nilIface (dC er eb)) (hP:Pre w S M [fT b p base L]) (h:Gk p base L) (h1:cm w S (.slice a1 n1 c1) (aS c.when)) (h2:cm w S (.slice a2 n2 c2) (.sl 7 (c.ops.map fe))) (ja:c.when.length≤1000000) (kS:c.ops.length≤1000000) (qE:∀o∈c.ops,o.bF.length≤1000000) :
  Calls Tryz.prog 86 #[.pointer (some ⟨b,0,none⟩),.agg #[.slice a1 n1 c1,.int .i64 c.place,.slice a2 n2 c2]] w fun e w'=>∃v G,cQ M w S w' e v [fT b p base (sI p base L c)] G∧ER er (e8 p base L c) v G:=by
 obtain⟨x,hx,hG,A1⟩:=hP.sU
 have VM:=h.CW
 refine(SA hC A1 (hG.at 0 rfl) h.Sp h.rS h1 h2 ja kS qE (by omega) hx.m hx.st hx.nd hx.iff).mono ?_
 rintro e w' (⟨hf,v,G,hR,hv⟩|⟨hf,es,ck,ks,F,hR,hm,hst,hnd,k7⟩)
 ·refine⟨v,G,?_,hv⟩
  rw[sI,if_neg hf]
  exact hR.rO x hx hG hP.no
 ·refine⟨_,[],?_,.inl ⟨?_,.inl ⟨hf,rfl⟩,rfl⟩⟩
  ·rw[sI,if_pos hf]
   exact hR.rO ⟨x.kb,x.db,x.ba,x.nb,x.cb,ck,es,ks,F⟩ ⟨hm,hst,hnd,k7⟩ hG hP.no
  ·rw[wg hf]
theorem JP {a1:Option Addr} {n1 c1:Nat} {key:ByteArray} {at':List Int} (hC:cm w S .nilIface (dC er eb)) (hP:Pre w S M [fT b p base L]) (h:Gk p base L) (h1:cm w S (.slice a1 n1 c1) (aS at')) (ja:at'.length≤1000000) :
  Calls Tryz.prog 95 #[.pointer (some ⟨b,0,none⟩),.string key,.slice a1 n1 c1] w fun e w'=>
   (eA p base key at'≠0∧cQ M (zero w) S w' e (.tuple #[CZ,.iface 390 (.pointer (some (er (eA p base key at'))))]) [fT b p base L] []) ∨
   (eA p base key at'=0∧∃ua un uc,cQ M (zero w) S w' e (.tuple #[w8 (Sx.valOf key (aW L key at')) (.slice ua un uc),.nilIface]) [fT b p base L] [(.slice ua un uc,pe (Sx.valOf key (aW L key at')).set)]):=by
 obtain⟨x,hx,hG,A1⟩:=hP.sU
 refine(Oj hC A1 (hG.at 0 rfl) h.Sp h.rS h1 ja h.CW h.put hx.m hx.nd hx.iff).mono ?_
 rintro e w' (⟨hf,hR⟩|⟨hf,ua,un,uc,hR⟩)
 ·exact .inl ⟨hf,hR.rO x hx hG.zero hP.no⟩
 ·exact .inr ⟨hf,ua,un,uc,hR.rO x hx hG.zero hP.no⟩
theorem JQ {a1:Option Addr} {n1 c1:Nat} {key text:ByteArray} {at':List Int} (hC:cm w S .nilIface (dC er eb)) (hP:Pre w S M [fT b p base L]) (h:Gk p base L) (h1:cm w S (.slice a1 n1 c1) (aS at')) (ja:at'.length≤1000000) :
  Calls Tryz.prog 138 #[.pointer (some ⟨b,0,none⟩),.string key,.string text,.slice a1 n1 c1] w fun e w'=>
   (eA p base key at'≠0∧cQ M w S w' e (.tuple #[.slice none 0 0,.iface 390 (.pointer (some (er (eA p base key at'))))]) [fT b p base L] []) ∨
   (eA p base key at'=0∧∃ua un uc,cQ M w S w' e (.tuple #[.slice ua un uc,.nilIface]) [fT b p base L] [(.slice ua un uc,.sl 3 ((oH key text (aW L key at')).map bK))]):=by
 obtain⟨x,hx,hG,A1⟩:=hP.sU
 refine(Ma hC A1 (hG.at 0 rfl) h.Sp h.rS h1 ja h.CW h.put hx.m hx.nd hx.iff).mono ?_
 rintro e w' (⟨hf,hR⟩|⟨hf,ua,un,uc,hR⟩)
 ·exact .inl ⟨hf,hR.rO x hx hG hP.no⟩
 ·exact .inr ⟨hf,ua,un,uc,hR.rO x hx hG hP.no⟩
theorem L9 {p:Int} (hC:cm w S .nilIface (dC er eb)) (h1:1≤p) (h6:p≤6) :
  Calls Tryz.prog 57 #[.int .i64 p] w fun e w'=>∃b,cQ [] w S w' e (.tuple #[.pointer (some ⟨b,0,none⟩),.nilIface]) [fT b p.toNat (aD p.toNat 0) []] []:=by
 refine(SD (p:=p) hC).mono ?_
 rintro e w' (⟨h,_⟩|⟨_,b,ba,mk,md,hR⟩)
 ·omega
 ·have hm0:fM (MapKept.IsKey .string) #[] (mB [] fun _=>.nilIface):=(fM.empty _).congr fun k=>(xj _ k).symm
  obtain⟨n,rfl⟩:∃n:Nat,p=n:=⟨p.toNat,by omega⟩
  exact⟨b,(hR.nY ⟨mk,md,some ⟨ba,0,none⟩,n,n,0,#[],[],fun _=>.nilIface⟩ ⟨hm0,MapKept.stamped_empty 0,by simp,by simp[ey]⟩ fun y hy=>hy).less (by simp)⟩
end Sw
end Go.Proofs.YtmkapocibaojdaaGreatDoor
end
section
namespace Go.Sx
open Go
theorem CX {α β:Type} {us:List α} {bs:List β} {p:Nat} {a:α} {b:β} (h1:us[p]?=some a) (h2:bs[p]?=some b):(us.zip bs)[p]?=some (a,b):=by
 rw[jd]
 exact⟨h1,h2⟩
theorem lY {α β γ:Type} {us:List α} {bs:List β} {f:α×β→γ} {p:Nat} {a:α} {b:β} (h1:us[p]?=some a) (h2:bs[p]?=some b):((us.zip bs).map f)[p]?=some (f (a,b)):=by
 rw[aF,CX h1 h2]
 rfl
theorem rX {α β γ:Type} {f:α×β→γ} {a:α} {b:β}:∀{us:List α} {bs:List β} {p:Nat},us[p]?=some a→((us.zip bs).map f).set p (f (a,b))=(us.zip (bs.set p b)).map f
 | [],_,_,h=>by simp at h
 | _::_,[],_,_=>by simp
 | _::_,_::_,0,h=>by
  simp only[aV,az]at h
  simp[h]
 | _::us,_::bs,p+1,h=>by
  have ih:=rX (f:=f) (b:=b) (us:=us) (bs:=bs) (p:=p) (by simpa using h)
  simp only[List.zip_cons_cons,cj,List.set_cons_succ,ih]
end Go.Sx
namespace Go.Proofs.YtmkapocibaojdaaGreatDoor
open Go Go.Sx
abbrev eP (b:Nat):List D:=[.v (.pointer (some ⟨b,0,none⟩))]
abbrev EG (bs:List Nat):D:=.sl 1 (bs.map eP)
abbrev kq (bs:List Nat):List D:=[EG bs]
abbrev jI (rows:List (List Nat)):D:=.sl 1 (rows.map kq)
def CC (y:Nat×dL):Chunk:=tX (α:=Option Addr×Nat×Nat) (fun _=>True) (fun _=>[]) fun v=>[bL y.1 (lz y.2.fm y.2.to y.2.sh y.2.q y.2.t (.slice v.1 v.2.1 v.2.2)),aT (.slice v.1 v.2.1 v.2.2) 62 9 (y.2.l.map fC)]
def DX (y:Nat×bB):Chunk:=tX (α:=Nat) (fun _=>True) (fun _=>[]) fun mb=>[bL y.1 (tu y.2.fm y.2.to y.2.sh y.2.q y.2.t mb),yG mb (.int .i64) (KL y.2.l)]
set_option maxHeartbeats 4000000 in
theorem Ay {h r:List (Nat×Obj)} {F:List (List Nat×World)} {S0:Nat→Prop} {C0:List Chunk} {G0:List (Value×D)} {y:Nat×bB} {mb:Nat} (ps:List Nat) (hC:pick C0 ps=[bL y.1 (tu y.2.fm y.2.to y.2.sh y.2.q y.2.t mb),yG mb (.int .i64) (KL y.2.l)]) (hnd:ps.Nodup:=by decide) :
  nP h r F ⟨S0,C0,G0⟩ (fun _:Unit=>True) fun _=>⟨S0,o4 C0 ps++[DX y],G0⟩:=dH ps mb hC (fun _ h=>by cases h) trivial hnd
def dN (bs:List Nat) (ss:List dL):Chunk:=cA ((bs.zip ss).map CC)
def c8 (bs:List Nat) (rs:List bB):Chunk:=cA ((bs.zip rs).map DX)
abbrev xB (vb:Nat) (id places ah clock:Int) (o i:Value):Obj:=.cells #[.pointer (some ⟨vb,0,none⟩),.int .i64 id,.int .i64 places,.int .i64 ah,.int .i64 clock,o,i] 124 (0,0)
end Go.Proofs.YtmkapocibaojdaaGreatDoor
end
section
namespace Go.Sx
open Go
def gf (x:fJ) (k:Nat):Int:=if k=x.id then x.clock else sL ((x.rs.filter fun r=>decide (r.fm.toNat=k)).map (·.t))
def bG (x:fJ):List Int:=(bD x.places).map (gf x)
def Av (rs:List bB):Prop:=∀x∈rs,0≤x.t∧x.t≤1099511627776
structure Gq where
 i:Int
 j:Nat
 b:Nat
end Go.Sx
namespace Go.Proofs.YtmkapocibaojdaaGreatDoor
open Go Go.Sx
set_option maxHeartbeats 4000000 in
theorem AG {w:World} {S:Nat→Prop} {M:List Nat} {bs:List Nat} {rs:List bB} {p b:Nat} {x:bB} (hP:Pre w S M [c8 bs rs]) (hb:bs[p]?=some b) (hx:rs[p]?=some x) :
  Calls Tryz.prog 82 #[.pointer (some ⟨b,0,none⟩)] w fun e w'=>cQ M w S w' e (.int .i64 x.t) [c8 bs rs] []:=by
 refine pW Tryz.func82 UQ (args:=[.pointer (some ⟨b,0,none⟩)]) (S:=S) (C:=[c8 bs rs]) (G:=[]) (by kernel_rfl) hP (.nil _ _) ?_
 refine bH (nr 0 p rfl (lY hb hx)) ?_
 refine b9 (eZ 0 rfl) fun mb _=>?_
 refine fh 1 rfl ?_
 try simp only[aQ]
 refine Zs [zR 0] [] [zI 2 0] ?_
 refine Zs (bh 0 3++[.rd 3 [.o 0 none] 0 0,zR 4]) [0] [zI 2 x.t] ?_
 refine Yr [[]] (nI x.t) fun a w s=>?_
 have s2:=(s.dY 0 rfl).jz (Ay (y:=(b,x)) (mb:=mb) [2,1] rfl)
 have s3:=s2.jz (j3 1 0 p rfl rfl (by decide) (lY hb hx) rfl)
 exact s3.ret (by simp) [0] [] rfl rfl
set_option maxHeartbeats 4000000 in
theorem Hj {w:World} {S:Nat→Prop} {M:List Nat} {bs:List Nat} {rs:List bB} {p b p2 b2:Nat} {x x2:bB} (hP:Pre w S M [c8 bs rs]) (hb:bs[p]?=some b) (hx:rs[p]?=some x) (oQ:bs[p2]?=some b2) (LK:rs[p2]?=some x2) (ht:Av rs) :
  Calls Tryz.prog 81 #[.pointer (some ⟨b,0,none⟩),.pointer (some ⟨b2,0,none⟩)] w fun e w'=>cQ M w S w' e (.int .i64 (x.t - x2.t)) [c8 bs rs] []:=by
 have h1:=ht x (ae hx)
 have h2:=ht x2 (ae LK)
 refine pW Tryz.func81 UR (args:=[.pointer (some ⟨b,0,none⟩),.pointer (some ⟨b2,0,none⟩)]) (S:=S) (C:=[c8 bs rs]) (G:=[]) (by kernel_rfl) hP (.nil _ _) ?_
 refine Zs [zR 0] [] [zI 4 0] ?_
 refine jS [(0,true),(1,false),(2,true),(3,false),(4,true),(5,true)] [] ?_
 refine Ya [zR 0] [0] [zP 5 b] ?_
 refine cn [] [0] 82 #[.pointer (some (⟨b,0,none⟩))] (some 6) (by kernel_rfl) (by kernel_rfl) (by decide) (fun w S M hP hG _=>?_)
 refine(AG hP hb hx).mono ?_
 rintro e1 w1 hR
 refine⟨_,_,_,hR,?_⟩
 try simp only[aQ]
 refine Ya [zR 2] [5,1] [zP 7 b2] ?_
 try simp only[aQ]
 refine cn [] [0] 82 #[.pointer (some (⟨b2,0,none⟩))] (some 8) (by kernel_rfl) (by kernel_rfl) (by decide) (fun w S M hP hG _=>?_)
 refine(AG hP oQ LK).mono ?_
 rintro e2 w2 hR
 refine⟨_,_,_,hR,?_⟩
 try simp only[aQ]
 refine Yp [.rd 4 [] 0 1,zR 5] [8,7,6] [zI 4 (x.t - x2.t)] (oC (show IntKind.i64.wrap (x.t - x2.t)=x.t - x2.t from wrap_i64 (by omega) (by omega)) oN) ?_
 try simp only[aQ]
 refine aC ?_
 try simp only[aQ]
 refine Yr [[]] (nI (x.t - x2.t)) fun a w s=>?_
 exact s.ret (by simp) [0] [] rfl rfl
theorem xe {rs:List bB} {p0 j:Nat} {x:bB} (hx:rs[p0+j]?=some x):((rs.drop p0).take (j+1)).map (·.t)=((rs.drop p0).take j).map (·.t)++[x.t]:=by
 have h:(rs.drop p0)[j]?=some x:=by rw[cq];exact hx
 rw[cV,h,bw]
 rfl
set_option maxHeartbeats 4000000 in
theorem MQ {w:World} {S:Nat→Prop} {M:List Nat} {bs r:List Nat} {rs:List bB} {p0 n c:Nat} {a:Option Addr} (hP:Pre w S M [c8 bs rs]) (hr:cm w S (.slice a n c) (EG r)) (hne:r≠[]) (hat:∀i b,r[i]?=some b→bs[p0+i]?=some b) (hl:bs.length=rs.length) (ht:Av rs) (hlen:r.length≤1000000) :
  Calls Tryz.prog 80 #[.slice a n c,.func (.func 81) #[] #[]] w fun e w'=>∃(j b:Nat),cQ M w S w' e (.pointer (some ⟨b,0,none⟩)) [c8 bs rs] []∧bs[j]?=some b∧∃x,rs[j]?=some x∧x.t=sL (((rs.drop p0).take r.length).map (·.t)):=by
 have hn:=hr.pA
 rw[aA]at hn
 subst hn
 have hpos:1≤r.length:=by
  have:=List.length_pos_iff.2 hne
  omega
 have hval:∀i b,r[i]?=some b→∃x,rs[p0+i]?=some x:=fun i b h=>by
  have:=(ai.1 (hat i b h)).1
  exact⟨_,ak (by omega)⟩
 obtain⟨b0,hb0⟩:∃b,r[(0:Int).toNat]?=some b:=⟨_,ak (by show 0<r.length;omega)⟩
 obtain⟨x0,hx0⟩:=hval 0 b0 hb0
 refine pW Tryz.func80 US (args:=[.slice a r.length c,.func (.func 81) #[] #[]]) (S:=S) (C:=[c8 bs rs]) (G:=[(_,EG r)]) (by kernel_rfl) hP (.cons hr (.nil _ _)) ?_
 have hp1:¬((r.length:Int)<1):=by omega
 refine Zs [zR 0] [] [zV 4 (.pointer none)] ?_
 refine aq ?_
 refine Zt [zR 0,zR 1,.rd 2 [] 0 7] [] [zB 9 false] (oC (show decide ((↑r.length:Int)<(1:Int))=false from by simp;omega) oN) ?_
 refine cF ?_
 refine aG (aq ?_)
 refine gr 0 rfl (nj 0) (dD hb0) (by kernel_rfl) (fun b1 fu uf vi vm ha1 cP=>?_)
 cases ha1
 have cg:=oO (cP 0 _ rfl)
 simp only[mU,Nat.zero_mul,dZ]at cg
 try simp only[aQ]
 refine Zp [zR 0,.rd 1 [] 0 2,.rd 2 [.r 0 (some (.pointer (sA b0 0)))] 0 0,zR 3] [9] [zP 5 b0] (oC (show(0:Int)≤(0:Int) from by omega) (oC (show(0:Int)<(↑r.length:Int) from by omega) (oC cg oN))) ?_
 refine aq ?_
 refine Zs [zR 0] [] [zI 6 1] ?_
 refine aM ?_
 refine cU (fun x:Gq=>[zS 0 (sA b1 fu) r.length c,zV 1 (.func (.func 81) #[] #[]),zV 4 (.pointer none),zV 5 (.pointer (some ⟨x.b,0,none⟩)),zI 6 x.i]) (fun x:Gq=>[]) (fun x:Gq=>[c8 bs rs]) (fun x:Gq=>[(.slice (sA b1 fu) r.length c,(EG r))]) (fun x:Gq=>(r.length - x.i).toNat) (fun x:Gq=>(1≤x.i∧x.i≤r.length∧bs[p0+x.j]?=some x.b∧∃y,rs[p0+x.j]?=some y∧y.t=sL (((rs.drop p0).take x.i.toNat).map (·.t)))) ⟨1,0,b0⟩ [0,1,4,5,6] [] [0] [0] ?_ (by kernel_rfl) rfl rfl rfl ?_
 ·exact⟨by simp,by simp only;omega,hat 0 b0 hb0,x0,hx0,by
   have:=xe (rs:=rs) (p0:=p0) (j:=0) (x:=x0) hx0
   simp only[show(1:Int).toNat=0+1 from rfl,this]
   rfl⟩
 rintro⟨i,j,b⟩ ⟨hi0,hi,hb,y,hy,Jw⟩
 dsimp only at hi0 hi hb hy Jw ⊢
 refine aq ?_
 refine Zs (bh 0 4) [] [zB 17 (decide (i<(↑r.length:Int)))] ?_
 refine cC (t:=decide (i<(↑r.length:Int))) (fun hlt=>?_) (fun hlt=>?_)
 ·have fa:i<r.length:=by simpa using hlt
  obtain⟨b1,GI⟩:∃b,r[i.toNat]?=some b:=⟨_,ak (by omega)⟩
  obtain⟨x1,Ks⟩:=hval _ _ GI
  have pT:((rs.drop p0).take i.toNat).map (·.t)≠[]:=by
   intro h0
   have h3:=congrArg fo h0
   have:=(ai.1 Ks).1
   simp at h3
   omega
  have GD:=vF pT x1.t
  rw[←xe Ks]at GD
  refine CR 0 rfl 0 rfl i.toNat (dD GI) (by kernel_rfl) (fun kK=>?_)
  have gI:=oO (kK 0 _ rfl)
  try simp only[aQ]
  refine aG (aq (aM ?_))
  refine jS [(0,true),(1,true),(2,true),(3,true),(4,true),(5,true),(6,false),(7,true)] [] ?_
  refine Yp (bh 0 3++[.rd 3 [] 0 2,.rd 4 [.r 0 (some (.pointer (sA b1 0)))] 0 0,zR 5]) [17] [zV 20 (.func (.func 81) #[] #[]),zP 24 b1,zP 25 b] (oC (show 0≤i from by omega) (oC fa (oC gI oN))) ?_
  refine cn [] [0] 81 #[.pointer (some (⟨b1,0,none⟩)),.pointer (some (⟨b,0,none⟩))] (some 26) (by kernel_rfl) (by kernel_rfl) (by decide) (fun w S M hP hG _=>?_)
  refine(Hj hP (hat _ _ GI) Ks hb hy ht).mono ?_
  rintro e1 w1 hR
  refine⟨_,_,_,hR,?_⟩
  try simp only[aQ]
  refine Ya [zR 7] [26,20,24,25] [zB 27 (decide (x1.t - y.t<0))] ?_
  try simp only[aQ]
  refine aC ?_
  try simp only[aQ]
  refine cC (t:=decide (x1.t - y.t<0)) (fun hm=>?_) (fun hm=>?_)
  ·refine CR 0 rfl 0 rfl i.toNat (dD GI) (by kernel_rfl) (fun nf=>?_)
   have rE:=oO (nf 0 _ rfl)
   try simp only[aQ]
   refine Zp [zR 0,zR 1,.rd 2 [] 0 2,.rd 3 [.r 0 (some (.pointer (sA b1 0)))] 0 0,zR 4] [27] [zP 5 b1] (oC (show 0≤i from by omega) (oC fa (oC gI oN))) ?_
   try simp only[aQ]
   refine eu ?_
   try simp only[aQ]
   refine Zp [zR 0,.rd 1 [] 0 1,zR 2] [] [zI 6 (i+1)] (oC (show IntKind.i64.wrap (i+1)=i+1 from wrap_i64 (by omega) (by omega)) oN) ?_
   try simp only[aQ]
   refine bC ⟨i+1,i.toNat,b1⟩ [0,1,4,5,6] [] [0] [0] ?_ ?_ (by kernel_rfl) rfl rfl rfl
   ·refine⟨by simp only;omega,by simp only;omega,hat _ _ GI,x1,Ks,?_⟩
    rw[show(i+1).toNat=i.toNat+1 by omega,GD,if_pos (by simp at hm;omega)]
   ·simp only
    omega
  ·try simp only[aQ]
   refine aG ?_
   try simp only[aQ]
   refine eu ?_
   try simp only[aQ]
   refine Zp [zR 0,.rd 1 [] 0 1,zR 2] [27] [zI 6 (i+1)] (oC (show IntKind.i64.wrap (i+1)=i+1 from wrap_i64 (by omega) (by omega)) oN) ?_
   try simp only[aQ]
   refine bC ⟨i+1,j,b⟩ [0,1,4,5,6] [] [0] [0] ?_ ?_ (by kernel_rfl) rfl rfl rfl
   ·refine⟨by simp only;omega,by simp only;omega,hb,y,hy,?_⟩
    rw[show(i+1).toNat=i.toNat+1 by omega,GD,if_neg (by simp at hm;omega),Jw]
   ·simp only
    omega
 ·have hie:i=r.length:=by simp at hlt;omega
  rw[hie]at Jw
  refine dO rfl ?_
  refine Zs [zR 0,zR 1] [17,0,1,5,6] [zP 4 b] ?_
  refine Yr [[]] (.pointer (sA b 0)) fun a w s=>?_
  exact⟨_,_,s.ret (by simp) [0] [] rfl rfl,hb,y,hy,Jw⟩
end Go.Proofs.YtmkapocibaojdaaGreatDoor
end
section
namespace Go.Proofs.YtmkapocibaojdaaGreatDoor
open Go Go.Sx
def ff (x:fJ) (at':List Int):Nat:=if b8 at'≠0 then b8 at' else if at'.length≠x.places then 3 else if lF at' (bG x)=true then 0 else 11
structure yM (x:fJ):Prop where
 p1:1≤x.places
 p6:x.places≤6
 s1:1≤x.ah
 s6:x.ah≤6
 id:x.id<x.places
 c0:0≤x.clock
 c1:x.clock≤1099511627776
 base:b8 x.base=0
 rS:x.base.length=x.places
 ss:x.ss.map fJ.pair=cR x.id x.ah x.places
 rs:x.rs.map fJ.nS=cR x.id x.ah x.places
 ts:Av x.rs
theorem BL {x:fJ} (h:yM x) {k:Nat} (hk:k<x.places):0≤gf x k∧gf x k≤1099511627776:=by
 unfold gf
 split
 ·exact⟨h.c0,h.c1⟩
 ·rename_i hne
  have e:=Ep h.rs hk
  have hlen:((x.rs.drop (fZ x.id x.ah k)).take (iD x.id x.ah k).length).length≠0:=by
   have hl:=congrArg fo h.rs
   rw[aA]at hl
   obtain⟨B,hB,_⟩:=uA (id:=x.id) (ah:=x.ah) hk
   rw[hB]at hl
   simp only[bA]at hl
   have h1:=h.s1
   have h2:(iD x.id x.ah k).length=x.ah:=by rw[kI,if_neg hne]
   rw[bp,gm]
   unfold fZ
   omega
  have hm:sL ((x.rs.filter fun r=>decide (r.fm.toNat=k)).map (·.t))∈(x.rs.filter fun r=>decide (r.fm.toNat=k)).map (·.t):=xG (by
   intro h0
   rw[cM]at h0
   rw[show(fun r:bB=>decide (r.fm.toNat=k))=fun r=>decide ((fJ.nS r).1=k) from rfl,←e]at h0
   rw[h0]at hlen
   exact hlen rfl)
  obtain⟨y,hy,Jw⟩:=aB.1 hm
  rw[←Jw]
  exact h.ts y (aP.1 hy).1
theorem uv {x:fJ} (h:yM x):b8 (bG x)=0:=by
 unfold b8
 have h1:=h.p1
 have h6:=h.p6
 rw[if_neg (by simp[bG];omega),if_neg]
 intro ha
 obtain⟨t,ht,hb⟩:=gL.1 ha
 obtain⟨k,hk,rfl⟩:=aB.1 ht
 have:=BL h (dX.1 hk)
 simp only[u7,j8,decide_eq_true_eq]at hb
 omega
set_option maxHeartbeats 4000000 in
theorem zJ {w:World} {S:Nat→Prop} {M:List Nat} {x:fJ} {b vb ic:Nat} {o:Value} {ia:Option Addr} {rows:List (List Nat)} (hP:Pre w S M [bL b (xB vb x.id x.places x.ah x.clock o (.slice ia x.places ic)),c8 rows.flatten x.rs]) (hi:cm w S (.slice ia x.places ic) (jI rows)) (hok:iu x.id x.ah x.places rows) (h:yM x) :
  Calls Tryz.prog 19 #[.pointer (some ⟨b,0,none⟩)] w fun e w'=>∃a' n' c',cQ M w S w' e (.slice a' n' c') [bL b (xB vb x.id x.places x.ah x.clock o (.slice ia x.places ic)),c8 rows.flatten x.rs] [(.slice a' n' c',aS (bG x))]:=by
 have y9:=h.p6
 have FQ:=h.s6
 have kS:rows.flatten.length=x.rs.length:=by
  have:=congrArg fo h.rs
  rw[aA]at this
  rw[hok.DJ,this]
  rfl
 refine pW Tryz.func19 U' (args:=[.pointer (some ⟨b,0,none⟩)]) (S:=S) (G:=[(_,jI rows)]) (by kernel_rfl) hP (.cons hi (.nil _ _)) ?_
 refine fh 0 rfl ?_
 refine Zs [zR 0] [] [zS 2 none 0 0] ?_
 refine Zs [zR 0] [] [zS 3 none 0 0] ?_
 refine aq ?_
 refine Zs (bh 0 3++[.rd 3 [.o 0 none] 0 0,zR 4,zR 5]) [] [zS 10 ia x.places ic,zI 11 (↑x.places:Int),zI 12 0] ?_
 refine aM ?_
 refine bH (Ed 3 1) ?_
 refine cU (fun y:my=>[zP 0 b,zS 2 none 0 0,zS 3 y.a y.k y.c,zS 10 ia x.places ic,zI 11 (↑x.places:Int),zI 12 y.i]) (fun y:my=>[(b,.cells #[.pointer (sA vb 0),nI (↑x.id:Int),nI (↑x.places:Int),nI (↑x.ah:Int),nI x.clock,o,.slice ia x.places ic] 124 (0,0))]) (fun y:my=>[c8 rows.flatten x.rs,aT (.slice y.a y.k y.c) 3 1 (((bD y.i.toNat).map (gf x)).map eI)]) (fun y:my=>[(.slice ia x.places ic,(jI rows))]) (fun y:my=>(x.places - y.i).toNat) (fun y:my=>(0≤y.i∧y.i≤x.places)) ⟨0,none,0,0⟩ [0,2,3,10,11,12] [0] [0,1] [0] ?_ (by kernel_rfl) rfl rfl rfl ?_
 ·exact⟨by simp,by simp⟩
 rintro⟨i,av,k,cv⟩ ⟨hi0,hi1⟩
 dsimp only at hi0 hi1 ⊢
 refine b9 (eC 1 rfl) fun _ hk=>?_
 have JC:k≤6:=by simp at hk;omega
 refine Zs [zR 0] [] [zB 13 (decide (i<(↑x.places:Int)))] ?_
 refine aq ?_
 refine cC (t:=decide (i<(↑x.places:Int))) (fun hlt=>?_) (fun hlt=>?_)
 ·have fa:i<x.places:=by simpa using hlt
  have VK:i.toNat<x.places:=by omega
  obtain⟨r,hr⟩:∃r,rows[i.toNat]?=some r:=⟨_,ak (by rw[hok.len];exact VK)⟩
  have Bo:=hok.row hr
  have CU:(bD (i+1).toNat).map (gf x)=(bD i.toNat).map (gf x)++[gf x i.toNat]:=by
   rw[show(i+1).toNat=i.toNat+1 by omega,jh,bw]
   rfl
  refine j0 0 rfl i.toNat (dD hr) (by kernel_rfl) (fun b1 fu uf vi vm fg cJ ha1 cP=>?_)
  cases ha1
  have cg:=oO (cP 0 _ rfl)
  try simp only[aQ]
  refine aG (aq (aM ?_))
  refine Zt [zR 0,.rd 1 [] 0 2,.rd 2 [.r 0 (some (.slice (fg,cJ).fst ((aj eP r).length) cJ))] 0 0,zR 3,zR 4] [13] [zI 4 i,zS 5 (fg,cJ).fst ((aj eP r).length) cJ] (oC hi0 (oC fa (oC cg oN))) ?_
  refine Zs (bh 0 3++[.rd 3 [.o 0 none] 0 0,zR 4]) [] [zI 6 x.clock] ?_
  refine aq ?_
  refine Zs (bh 0 4++[.rd 4 [.o 0 none] 0 0,zR 5]) [] [zB 26 (i != (↑x.id:Int))] ?_
  refine cC (t:=i != (↑x.id:Int)) (fun hne=>?_) (fun hne=>?_)
  ·have pT:i.toNat≠x.id:=by
    intro h0
    apply (by simpa using hne:¬i=x.id)
    omega
   rw[if_neg pT]at Bo
   have hs1:=h.s1
   refine jT [(0,true),(1,false),(2,false),(3,true)] [] ?_
   refine Ya [zR 0] [26] [zS 27 (fg,cJ).fst ((aj eP r).length) cJ] ?_
   refine cn [] [0] 80 #[.slice (fg,cJ).fst ((aj eP r).length) cJ,.func (.func 81) #[] #[]] (some 28) (by kernel_rfl) (by kernel_rfl) (by decide) (fun w S M hP hG _=>?_)
   refine(MQ (p0:=fZ x.id x.ah i.toNat) (r:=r) hP (hG.at 1 rfl) (fun h0=>by rw[h0]at Bo;simp at Bo;omega) (fun j b hb=>hok.at hr hb) kS h.ts (by omega)).mono ?_
   rintro e1 w1 ⟨j,b2,hR,oQ,y,hy,Jw⟩
   have hst:y.t=gf x i.toNat:=by
    rw[Jw,gf,if_neg pT,show(fun r:bB=>decide (r.fm.toNat=i.toNat))=fun r=>decide ((fJ.nS r).1=i.toNat) from rfl,←Ep h.rs VK,kI,if_neg pT,Bo]
   refine⟨_,_,_,hR,?_⟩
   try simp only[aQ]
   refine cn [] [1] 82 #[.pointer (some (⟨b2,0,none⟩))] (some 29) (by kernel_rfl) (by kernel_rfl) (by decide) (fun w S M hP hG _=>?_)
   refine(AG hP oQ hy).mono ?_
   rintro e2 w2 hR
   refine⟨_,_,_,hR,?_⟩
   rw[hst]
   try simp only[aQ]
   refine Ya [zR 3] [29,28,27] [zI 6 (gf x i.toNat)] ?_
   try simp only[aQ]
   refine aC ?_
   try simp only[aQ]
   refine jT [(0,true),(1,true),(2,false),(3,false),(4,true)] [] ?_
   refine Ym [zR 0,zR 1,.wr 2 [] 0] [] (fun aN=>[zS 30 av k cv,zS 32 (sA (aN 0) 0) 1 1]) o0 (fun aN=>[(aN 0,.cells #[nI (gf x i.toNat)] 3 (0,0))]) [] (fun aN=>?_)
   refine eY 0 32 3 1 8 (.int .i64 0) (a0:=av) (len:=k) (iB:=cv) (ax:=(some (⟨aN 0,0,none⟩))) (m:=1) (c:=1) (dst:=(some 33)) [(gf x i.toNat)] (by kernel_rfl) (by kernel_rfl) (by kernel_rfl) (by kernel_rfl) rfl (by decide) rfl (fun _ _ _ s=>fK s 1 rfl rfl ⟨.inl ⟨rfl,rfl⟩,trivial⟩) (by simp only[maxLen];omega) (by omega) (fun gq gp=>?_)
   try simp only[aQ]
   refine Ya [zR 4] [33,30,32] [zS 3 gq (k+1) gp] ?_
   try simp only[aQ]
   refine aC ?_
   try simp only[aQ]
   refine eu ?_
   try simp only[aQ]
   refine Zp [.rd 0 [] 0 1,zR 1] [] [zI 12 (i+1)] (oC (show IntKind.i64.wrap (i+1)=i+1 from wrap_i64 (by omega) (by omega)) oN) ?_
   try simp only[aQ]
   rw[←CU]
   refine bC ⟨i+1,gq,k+1,gp⟩ [0,2,3,10,11,12] [0] [0,1] [0] ?_ ?_ (by kernel_rfl) rfl rfl rfl
   ·exact⟨by simp only;omega,by simp only;omega⟩
   ·simp only
    omega
  ·have kT:i.toNat=x.id:=by
    have:i=x.id:=by simpa using hne
    omega
   have hst:x.clock=gf x i.toNat:=by rw[gf,if_pos kT]
   refine aG ?_
   refine jT [(0,true),(1,true),(2,false),(3,false),(4,true)] [] ?_
   refine Ym [zR 0,zR 1,.wr 2 [] 0] [26] (fun aN=>[zS 30 av k cv,zS 32 (sA (aN 0) 0) 1 1]) o0 (fun aN=>[(aN 0,.cells #[nI x.clock] 3 (0,0))]) [] (fun aN=>?_)
   rw[hst]
   refine eY 1 32 3 1 8 (.int .i64 0) (a0:=av) (len:=k) (iB:=cv) (ax:=(some (⟨aN 0,0,none⟩))) (m:=1) (c:=1) (dst:=(some 33)) [(gf x i.toNat)] (by kernel_rfl) (by kernel_rfl) (by kernel_rfl) (by kernel_rfl) rfl (by decide) rfl (fun _ _ _ s=>fK s 1 rfl rfl ⟨.inl ⟨rfl,rfl⟩,trivial⟩) (by simp only[maxLen];omega) (by omega) (fun gq gp=>?_)
   try simp only[aQ]
   refine Ya [zR 4] [33,30,32] [zS 3 gq (k+1) gp] ?_
   try simp only[aQ]
   refine aC ?_
   try simp only[aQ]
   refine eu ?_
   try simp only[aQ]
   refine Zp [.rd 0 [] 0 1,zR 1] [] [zI 12 (i+1)] (oC (show IntKind.i64.wrap (i+1)=i+1 from wrap_i64 (by omega) (by omega)) oN) ?_
   try simp only[aQ]
   rw[←CU]
   refine bC ⟨i+1,gq,k+1,gp⟩ [0,2,3,10,11,12] [0] [0,1] [0] ?_ ?_ (by kernel_rfl) rfl rfl rfl
   ·exact⟨by simp only;omega,by simp only;omega⟩
   ·simp only
    omega
 ·have hie:i.toNat=x.places:=by simp at hlt;omega
  rw[hie]
  refine dO rfl ?_
  refine Zs [zR 0,zR 1] [13,0,3,10,11,12] [zS 2 av k cv] ?_
  refine Yr [[]] (.slice av k cv) fun a w s=>?_
  have s2:=(s.jz (dg 1 rfl)).dY 0 rfl
  exact⟨_,_,_,s2.ret (by simp) [1,0] [1] rfl rfl⟩
end Go.Proofs.YtmkapocibaojdaaGreatDoor
end
section
namespace Go.Proofs.YtmkapocibaojdaaGreatDoor
open Go Go.Sx
set_option maxHeartbeats 4000000 in
theorem HH {w:World} {S:Nat→Prop} {M:List Nat} {er:Nat→Addr} {eb:Nat→Array Value×TypeId} {x:fJ} {b vb ic n1 c1:Nat} {o:Value} {ia a1:Option Addr} {rows:List (List Nat)} {at':List Int} (hC:cm w S .nilIface (dC er eb)) (hP:Pre w S M [bL b (xB vb x.id x.places x.ah x.clock o (.slice ia x.places ic)),c8 rows.flatten x.rs]) (hi:cm w S (.slice ia x.places ic) (jI rows)) (h1:cm w S (.slice a1 n1 c1) (aS at')) (hok:iu x.id x.ah x.places rows) (h:yM x) (ja:at'.length≤1000000) :
  Calls Tryz.prog 83 #[.pointer (some ⟨b,0,none⟩),.slice a1 n1 c1] w fun e w'=>∃v,cQ M w S w' e v [bL b (xB vb x.id x.places x.ah x.clock o (.slice ia x.places ic)),c8 rows.flatten x.rs] []∧lq 390 er (ff x at') v:=by
 obtain rfl:=dJ h1
 have CU:=uv h
 have y9:=h.p6
 have Bn:(bG x).length=x.places:=by simp[bG]
 refine pW Tryz.func83 UP (args:=[.pointer (some ⟨b,0,none⟩),.slice a1 at'.length c1]) (S:=S) (G:=[(_,dC er eb),(_,jI rows),(_,aS at')]) (by kernel_rfl) hP (.cons hC (.cons hi (.cons h1 (.nil _ _)))) ?_
 refine bH (ij 0 [2,10] rfl rfl) ?_
 refine di 3 rfl (fun ni mW ng dh=>?_)
 refine di 4 rfl (fun uY uq uS gu=>?_)
 try simp only[aQ]
 refine Zs [zR 0] [] [zV 4 .nilIface] ?_
 refine aq ?_
 refine jS [(0,true),(1,false),(2,true)] [] ?_
 refine Ya [zR 0] [] [zS 8 a1 at'.length c1] ?_
 refine Yc 141 #[.slice a1 at'.length c1] (some 9) fun w S hG=>?_
 refine(vp (kL (hG.at 0 rfl)) (hG.at 2 rfl) ja).mono ?_
 rintro e1 w1 ⟨v,hR,hv⟩
 refine⟨_,_,_,hR,?_⟩
 obtain⟨nc,rfl⟩|⟨nc,rfl⟩:=hv
 case inr=>
  have oE:ff x at'=b8 at':=by rw[ff,if_pos nc]
  rw[oE]
  try simp only[aQ]
  refine Ya [zR 2] [9,8] [zV 5 (.iface 390 (.pointer (some (er (b8 at')))))] ?_
  refine aC ?_
  refine Zs [zR 0,zR 1] [] [zB 11 true] ?_
  refine gR ?_
  refine Zs [zR 0,zR 1] [11,5] [zV 4 (.iface 390 (.pointer (some (er (b8 at')))))] ?_
  refine Yr [[]] (.iface 390 (.pointer (some (er (b8 at'))))) fun a w s=>?_
  exact⟨_,s.ret (by simp) [0,1] [] rfl rfl,.inr ⟨nc,rfl⟩⟩
 try simp only[aQ]
 refine Ya [zR 2] [9,8] [zV 5 .nilIface] ?_
 refine aC ?_
 refine Zs [zR 0,zR 1] [] [zB 11 false] ?_
 refine cF ?_
 refine aG (aq (aq ?_))
 refine Nm [bL b (.cells #[.pointer (sA vb 0),nI (↑x.id:Int),nI (↑x.places:Int),nI (↑x.ah:Int),nI x.clock,o,.slice ia x.places ic] 124 (0,0)),(c8 rows.flatten x.rs)] ?_
 refine fh 0 rfl ?_
 by_cases hal:at'.length=x.places
 case neg=>
  have oE:ff x at'=3:=by rw[ff,if_neg (by simp[nc]),if_pos hal]
  have Nv:¬(at'.length:Int)=x.places:=by omega
  rw[oE]
  refine Zp (bh 0 5++[.rd 5 [.o 0 none] 0 0,.rd 6 [] 0 6]) [11,5] [zB 19 true] (oC (show((↑at'.length:Int) != (↑x.places:Int))=true from by simp;omega) oN) ?_
  refine gR ?_
  refine Zt [.rd 0 [.r 0 (some (.iface 390 (.pointer (some (er 3)))))] 0 0,zR 1] [19] [zV 4 (.iface 390 (.pointer (some (er 3))))] (oC dh oN) ?_
  refine Yr [[]] (.iface 390 (.pointer (some (er 3)))) fun a w s=>?_
  exact⟨_,(s.dY 0 rfl).ret (by simp) [1,0] [] rfl rfl,.inr ⟨by decide,rfl⟩⟩
 have Nv:(at'.length:Int)=x.places:=by omega
 have MZ:iQ at' (bG x)=0:=by rw[iQ,if_neg (by simp[nc]),if_neg (by simp[CU]),if_neg (by simp[hal,Bn])]
 refine Zp (bh 0 5++[.rd 5 [.o 0 none] 0 0,.rd 6 [] 0 7]) [11,5] [zB 19 false] (oC (show((↑at'.length:Int) != (↑x.places:Int))=false from by simp;omega) oN) ?_
 refine cF ?_
 refine aG (aq (aq ?_))
 refine js 0 rfl ?_
 refine Nm [(c8 rows.flatten x.rs),bL b (.cells #[.pointer (sA vb 0),nI (↑x.id:Int),nI (↑x.places:Int),nI (↑x.ah:Int),nI x.clock,o,.slice ia x.places ic] 124 (0,0))] ?_
 refine jT [(0,true),(1,true),(2,false),(3,false),(4,true),(5,true),(6,true),(7,true),(8,true)] [] ?_
 refine Ya [zR 0,zR 1] [19,0,1] [zS 22 a1 at'.length c1,zP 23 b] ?_
 refine cn [] [1,0] 19 #[.pointer (some (⟨b,0,none⟩))] (some 24) (by kernel_rfl) (by kernel_rfl) (by decide) (fun w S M hP hG _=>?_)
 refine(zJ hP (hG.at 1 rfl) hok h).mono ?_
 rintro e2 w2 ⟨a2,n2,c2,hR⟩
 refine⟨_,_,_,hR,?_⟩
 try simp only[aQ]
 refine Yc 100 #[.slice a1 at'.length c1,.slice a2 n2 c2] (some 25) fun w S hG=>?_
 refine(uk (kL (hG.at 0 rfl)) (hG.at 2 rfl) (hG.at 5 rfl) ja (by omega)).mono ?_
 rintro e3 w3 (⟨If,_⟩|⟨_,hR⟩)
 ·exact absurd MZ If
 refine⟨_,_,_,hR,?_⟩
 cases hin:lF at' (bG x)with
 | true=>
  have oE:ff x at'=0:=by rw[ff,if_neg (by simp[nc]),if_neg (by simp[hal]),if_pos hin]
  rw[oE]
  try simp only[aQ]
  refine Ya (bh 4 9) [25,24,22,23] [zB 6 true] ?_
  try simp only[aQ]
  refine aC ?_
  try simp only[aQ]
  refine aq ?_
  try simp only[aQ]
  refine Za [zR 0,zR 1] [6] [zB 29 false] ?_
  try simp only[aQ]
  refine cF ?_
  try simp only[aQ]
  refine aG ?_
  try simp only[aQ]
  refine aq ?_
  try simp only[aQ]
  refine Za [zR 0] [29] [] ?_
  try simp only[aQ]
  refine Yr [[]] (.nilIface) fun a w s=>?_
  exact⟨_,s.ret (by simp) [0,1] [] rfl rfl,.inl ⟨rfl,rfl⟩⟩
 | false=>
  have oE:ff x at'=11:=by rw[ff,if_neg (by simp[nc]),if_neg (by simp[hal]),if_neg (by simp[hin])]
  rw[oE]
  try simp only[aQ]
  refine Ya (bh 4 9) [25,24,22,23] [zB 6 false] ?_
  try simp only[aQ]
  refine aC ?_
  try simp only[aQ]
  refine aq ?_
  try simp only[aQ]
  refine Za [zR 0,zR 1] [6] [zB 29 true] ?_
  try simp only[aQ]
  refine gR ?_
  try simp only[aQ]
  refine aq ?_
  try simp only[aQ]
  refine Zp [.rd 0 [.r 1 (some (.iface 390 (.pointer (some (er 11)))))] 0 0,zR 1] [29] [zV 4 (.iface 390 (.pointer (some (er 11))))] (oC gu oN) ?_
  try simp only[aQ]
  refine Yr [[]] (.iface 390 (.pointer (some (er 11)))) fun a w s=>?_
  exact⟨_,s.ret (by simp) [0,1] [] rfl rfl,.inr ⟨by decide,rfl⟩⟩
end Go.Proofs.YtmkapocibaojdaaGreatDoor
end
section
namespace Go.Proofs.YtmkapocibaojdaaGreatDoor
open Go Go.Sx
def dL.msg (y:dL) (c:bO):bN:=⟨y.fm,y.to,y.sh,y.q+1,c.when.getD c.place.toNat 0,false,c⟩
def dL.tg (y:dL) (c:bO):dL:={ y with q:=y.q+1,t:=c.when.getD c.place.toNat 0,l:=y.l++[dL.msg y c] }
def dL.kC (y:dL) (t:Int):bN:=⟨y.fm,y.to,y.sh,y.q+1,t,true,⟨[],0,[]⟩⟩
def dL.dW (y:dL) (t:Int):dL:={ y with q:=y.q+1,t:=t,l:=y.l++[dL.kC y t] }
def dL.Oe (y:dL) (seq:Int):dL:={ y with l:=CO y.q seq y.l }
def bB.dK (y:bB) (m:bN):Nat×List bN×Lg:=gO y.fm y.to y.sh ⟨y.l,y.q,y.t⟩ m
def bB.heard (y:bB) (m:bN):bB:={ y with l:=(bB.dK y m).2.2.L,q:=(bB.dK y m).2.2.q,t:=(bB.dK y m).2.2.t }
section Mh
variable {w:World} {S:Nat→Prop} {M:List Nat} {er:Nat→Addr} {eb:Nat→Array Value×TypeId} {bs:List Nat} {ss:List dL} {rs:List bB} {p b:Nat}
theorem MI {fm to sh:Int} (hC:cm w S .nilIface (dC er eb)) (h0:jU fm to sh=0) :
  Calls Tryz.prog 58 #[.int .i64 fm,.int .i64 to,.int .i64 sh] w fun e w'=>∃b,cQ [] w S w' e (.tuple #[.pointer (some ⟨b,0,none⟩),.nilIface]) [CC (b,⟨fm,to,sh,0,0,[]⟩)] []:=
 (FC (kL hC) h0).mono fun e w' ⟨b,hR⟩=>⟨b,(hR.add (aT (.slice none 0 0) 62 9 (([]:List bN).map fC)) fun _ _=>⟨by decide,.inl ⟨rfl,rfl,rfl⟩⟩).nY (none,0,0) trivial fun _ h=>by cases h⟩
theorem MJ {fm to sh:Int} (hC:cm w S .nilIface (dC er eb)) (h0:jU fm to sh=0) :
  Calls Tryz.prog 59 #[.int .i64 fm,.int .i64 to,.int .i64 sh] w fun e w'=>∃b,cQ [] w S w' e (.tuple #[.pointer (some ⟨b,0,none⟩),.nilIface]) [DX (b,⟨fm,to,sh,0,0,[]⟩)] []:=
 (B9 (kL hC) h0).mono fun e w' ⟨b,mb,hR⟩=>⟨b,hR.nY mb trivial fun _ h=>by cases h⟩
theorem Mi {fm to sh:Int} (hC:cm w S .nilIface (dC er eb)) (hP:Pre w S M [dN bs ss]) (hl:bs.length=ss.length) (h0:jU fm to sh=0) :
  Calls Tryz.prog 58 #[.int .i64 fm,.int .i64 to,.int .i64 sh] w fun e w'=>∃b,cQ M w S w' e (.tuple #[.pointer (some ⟨b,0,none⟩),.nilIface]) [dN (bs++[b]) (ss++[⟨fm,to,sh,0,0,[]⟩])] []:=
 (MI hC h0).mono fun e w' ⟨b,hR⟩=>⟨b,by
  have h:=(hP.frame hR).push
  rwa[dN,List.zip_append hl,bw]⟩
theorem Mx {fm to sh:Int} (hC:cm w S .nilIface (dC er eb)) (hP:Pre w S M [c8 bs rs]) (hl:bs.length=rs.length) (h0:jU fm to sh=0) :
  Calls Tryz.prog 59 #[.int .i64 fm,.int .i64 to,.int .i64 sh] w fun e w'=>∃b,cQ M w S w' e (.tuple #[.pointer (some ⟨b,0,none⟩),.nilIface]) [c8 (bs++[b]) (rs++[⟨fm,to,sh,0,0,[]⟩])] []:=
 (MJ hC h0).mono fun e w' ⟨b,hR⟩=>⟨b,by
  have h:=(hP.frame hR).push
  rwa[c8,List.zip_append hl,bw]⟩
theorem Mj {y:dL} {c:bO} {a1 a2:Option Addr} {n1 c1 n2 c2:Nat} (hC:cm w S .nilIface (dC er eb)) (hP:Pre w S M [dN bs ss]) (hb:bs[p]?=some b) (hy:ss[p]?=some y) (h1:cm w S (.slice a1 n1 c1) (aS c.when)) (h2:cm w S (.slice a2 n2 c2) (.sl 7 (c.ops.map fe))) (ja:c.when.length≤1000000) (kS:c.ops.length≤1000000) (qE:∀o∈c.ops,o.bF.length≤1000000)
  (qj:0≤y.q) (wF:y.q<1000000) (hL:y.l.length<1000000) (hf:jw c y.fm y.t=⟨0,-1⟩) :
  Calls Tryz.prog 88 #[.pointer (some ⟨b,0,none⟩),.agg #[.slice a1 n1 c1,.int .i64 c.place,.slice a2 n2 c2]] w fun e w'=>∃u1 d1 u2 d2,
   cQ M w S w' e (.tuple #[y6 (dL.msg y c) (.slice u1 n1 d1) (.slice u2 n2 d2),.nilIface]) [dN bs (ss.set p (dL.tg y c))] [(.slice u1 n1 d1,aS c.when),(.slice u2 n2 d2,.sl 7 (c.ops.map fe))]:=by
 obtain⟨M1,yh,rG⟩:=hP.take (lY hb hy)
 obtain⟨v,_,_,A1⟩:=yh.sU
 refine(J1 (c:=c) hC A1 h1 h2 ja kS qE qj wF hL).mono ?_
 rintro e w' (⟨h,_⟩|⟨_,a',k',c',u1,d1,u2,d2,hR⟩)
 ·rw[hf]at h
  exact absurd rfl h
 ·refine⟨u1,d1,u2,d2,?_⟩
  have h3:cQ M1 w S w' e _ [CC (b,dL.tg y c)] _:=hR.nY (a',k',c') trivial fun _ h=>by cases h
  rw[dN,←rX (f:=CC) hb]
  exact rG h3
end Mh
end Go.Proofs.YtmkapocibaojdaaGreatDoor
end
section
namespace Go.Sx
open Go
section
variable {P:Program} {ops:Array Oper} {Q:Exit→Act→World→Prop}
def MT:Op→Bool
 | .buildSlice ..=>true
 | _=>false
theorem H9 {o:Oper} (h:MT o.op=true) (ρ:Operand→Value) (w:World):(∃x w',(execOp ρ o).run P w=.ok (.value x) w')∨∃x w',(execOp ρ o).run P w=.halt x w':=by
 obtain⟨d,op,t,pos,af,g⟩:=o
 cases op <;> first|cases h|skip
 simp only[execOp,Sem.run_bind]
 generalize (Instr.buildSlice _ _ _).run P w=r
 cases r with
 | ok x w'=>exact .inl ⟨x,w',rfl⟩
 | halt x w'=>exact .inr ⟨x,w',rfl⟩
theorem GN {i:Nat} {o:Oper} {K1 K2:Act→World→Prop} {a:Act} {w:World} (ho:ops[i]?=some o) (hb:MT o.op=true) (h1:wpOp P ops Q i K1 a w) (h2:wpOp P ops Q i K2 a w):wpOp P ops Q i (fun a w=>K1 a w∧K2 a w) a w:=by
 unfold wpOp at *
 simp only[ho]at h1 h2 ⊢
 split
 ·rename_i hw
  simp only[hw,if_true]at h1 h2
  rcases h1 with h1|h1
  ·rcases h2 with h2|h2
   ·left
    unfold Oper.wp at *
    rcases H9 (P:=P) hb a.eval w with ⟨x,w',hr⟩|⟨x,w',hr⟩
    ·rw[hr]at h1 h2 ⊢
     exact⟨h1,h2⟩
    ·rw[hr]at h1 h2 ⊢
     cases x <;> exact h1
   ·exact .inr h2
  ·exact .inr h1
 ·rename_i hw
  simp only[hw]at h1 h2
  exact⟨h1,h2⟩
end
def tY (ops:Array Oper) (i:Nat):Bool:=match ops[i]? with
 | some o=>MT o.op
 | none=>false
section rule
variable {P:Program} {f:Func} {R:Act→World→Prop} {n:Nat} {k:List oR} {E:Env} {h r:List (Nat×Obj)} {F:List (List Nat×World)} {Y:fQ}
theorem Lt {id L0 i:Nat} {q1 q2:List (Nat×Bool)} {Wp:List (Nat×List Nat)} (hb:tY (bS f id) i=true) (H1:JR P f R n (bS f id) L0 true ((i,false)::q1) Wp k E h r F Y) (H2:JR P f R n (bS f id) L0 true ((i,false)::q2) Wp k E h r F Y) :
  V5 P f R n (bS f id) L0 i q1 q2 Wp k E h r F Y:=by
 intro B Hd aU a w s hH hR hN hW
 have k1:=H1 B Hd aU a w s hH hR hN hW
 have k2:=H2 B Hd aU a w s hH hR hN hW
 unfold tY at hb
 split at hb
 ·rename_i o ho
  exact wpOp_mono (fun a w h=>⟨h.1.1 rfl,h.1.2,h.2.2⟩) (GN ho hb k1 k2)
 ·cases hb
end rule
end Go.Sx
end
