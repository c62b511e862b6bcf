/- Part 9 of the texts of a claim: Hear VDots Ord Ref2 Put Within. -/
import Derived.Test.YtmkapocibaojdaaGreatDoorTr8
open Bool renaming not_eq_true' → kD
open Classical renaming byContradiction → bU
open Int renaming toNat → nj
open List renaming append_assoc → bY, append_nil → bf, cons_append → iO, drop_eq_getElem_cons → gD, filter → mo, filter_append → dm, filter_sublist → dw, foldl_cons → iw, getD_eq_getElem?_getD → aO, getElem?_drop → cq, getElem?_eq_getElem → ak, getElem?_eq_some_iff → ai, getElem?_map → aF, getElem?_of_mem → aJ, getElem?_take → cL, length_append → bA, length_drop → gm, length_filter_le → cH, length_map → aA, length_take → bp, map → aj, map_append → bw, map_eq_nil_iff → cM, map_take → jt, mem_append → au, mem_cons → cE, mem_cons_of_mem → bk, mem_cons_self → bl, mem_filter → aP, mem_map → aB, mem_mergeSort → me, mem_of_getElem? → ae, mem_of_mem_take → jo, mem_singleton → ay, mergeSort_perm → gB, nil_append → j9, nodup_append → be, pairwise_cons → gN, pairwise_map → fU, take → bZ, take_length → iP, take_of_length_le → br
open List.Pairwise renaming nil → jq
open Nat renaming add_mul → jR, add_zero → dZ, le_trans → aZ, zero_add → aK, zero_le → eo
open Option renaming map_eq_some_iff → aI
open Option.some renaming injEq → az
open Prod.mk renaming injEq → aH
section
namespace Go.Proofs.YtmkapocibaojdaaGreatDoor
open Go Go.Sx
section
variable {h r:List (Nat×Obj)} {F:List (List Nat×World)}
theorem qu {S0:Nat→Prop} {C0:List Chunk} {G0:List (Value×D)} (q:Nat) {g:Value→Option Value} {K:Value→Option (List D)} (hq:C0[q]?=some (oI g K)) (key:Value) (hK:K key=none):nP h r F ⟨S0,C0,G0⟩ (fun _:Unit=>g key=none) fun _=>⟨S0,C0,G0⟩:=by
 intro w aU hO H
 obtain⟨fp,og,_,hP⟩:=H.kF.at hq
 exact⟨(),aU,hP.1 key hK,fun _ hb=>hb,H⟩
end
structure qR where
 a:Option Addr
 k:Nat
 c:Nat
 out:List bN
 L:List bN
 q:Int
 t:Int
 es:Array MapEntry
 clock:Nat
 g:Value→Option Value
abbrev tu (fm to sh q t:Int) (mb:Nat):Obj:=.cells #[.int .i64 fm,.int .i64 to,.int .i64 sh,.int .i64 q,.int .i64 t,.map (some mb)] 227 (0,0)
set_option maxHeartbeats 8000000 in
theorem dK {w0:World} {S:Nat→Prop} {M:List Nat} {er:Nat→Addr} {eb:Nat→Array Value×TypeId} {b mb:Nat} {fm to sh q t:Int} {L:List bN} {m:bN} {a1 a2:Option Addr} {n1 c1 n2 c2:Nat} (hC:cm w0 S .nilIface (dC er eb))
  (hP:Pre w0 S M [bL b (tu fm to sh q t mb),yG mb (.int .i64) (KL L)]) (hd:nQ L) (h1:cm w0 S (.slice a1 n1 c1) (aS m.c.when)) (h2:cm w0 S (.slice a2 n2 c2) (.sl 7 (m.c.ops.map fe))) (ja:m.c.when.length≤1000000) (kS:m.c.ops.length≤1000000) (qE:∀o∈m.c.ops,o.bF.length≤1000000)
  (qj:0≤q) (wF:q+L.length<1000000) (GD:-9223372036854775808≤m.seq∧m.seq≤9223372036854775807) :
  Calls Tryz.prog 92 #[.pointer (some ⟨b,0,none⟩),y6 m (.slice a1 n1 c1) (.slice a2 n2 c2)] w0 fun e w'=>∃a' n' c' v,
   cQ M w0 S w' e (.tuple #[.slice a' n' c',v]) [bL b (tu fm to sh (gO fm to sh ⟨L,q,t⟩ m).2.2.q (gO fm to sh ⟨L,q,t⟩ m).2.2.t mb),yG mb (.int .i64) (KL (gO fm to sh ⟨L,q,t⟩ m).2.2.L)] [(.slice a' n' c',.sl 9 ((gO fm to sh ⟨L,q,t⟩ m).2.1.map fC))] ∧
   lq 390 er (gO fm to sh ⟨L,q,t⟩ m).1 v:=by
 refine pW Tryz.func92 UG (args:=[.pointer (some ⟨b,0,none⟩),y6 m (.slice a1 n1 c1) (.slice a2 n2 c2)]) (S:=S) (C:=[bL b (tu fm to sh q t mb),yG mb (.int .i64) (KL L)]) (G:=[(_,dC er eb),(_,aS m.c.when),(_,.sl 7 (m.c.ops.map fe))]) (by kernel_rfl) hP (.cons hC (.cons h1 (.cons h2 (.nil _ _)))) ?_
 refine fh 0 rfl ?_
 refine Gr 0 rfl fun es clock g hm=>?_
 refine bH (ij 0 [1,2,6] rfl rfl) ?_
 refine di 3 rfl (fun ni mW ng dh=>?_)
 refine di 4 rfl (fun uY uq uS gu=>?_)
 refine di 5 rfl (fun IK G2 IB pE=>?_)
 try simp only[aQ]
 refine aq ?_
 try simp only[aQ]
 refine Zm [.wr 0 [] 0,zR 1,zR 2] [] [1] (fun aN=>[zP 3 (aN 0),zS 4 none 0 0,zV 5 .nilIface]) o0 (fun aN=>[(aN 0,.cells #[nI m.fm,nI m.to,nI m.de,nI m.seq,nI m.time,.bool m.dW,.slice a1 n1 c1,nI m.c.place,.slice a2 n2 c2] 62 (0,0))]) (fun aN=>?_)
 try simp only[aQ]
 refine aq ?_
 try simp only[aQ]
 refine aM ?_
 try simp only[aQ]
 refine aq ?_
 try simp only[aQ]
 refine Za ([zR 0,.rd 1 [.o 2 none] 0 0]++bh 2 6++[.rd 6 [.o 0 none] 0 0,zR 7,zR 8,.rd 9 [] 2 0,.rd 10 [.o 2 none] 2 0,.rd 11 [] 2 0,.rd 12 [] 2 0,.rd 13 [] 2 0,.rd 14 [] 2 0,.rd 15 [.o 0 none] 2 0,.rd 16 [] 2 0,.rd 17 [] 0 3,zR 18,.rd 19 [] 2 0,.rd 20 [.o 2 none] 2 0,.rd 21 [] 2 0,.rd 22 [] 2 0,.rd 23 [] 2 0,.rd 24 [] 2 0,.rd 25 [.o 0 none] 2 0,.rd 26 [] 2 0,.rd 27 [] 0 3,zR 28]) [] [zB 10 (m.fm != fm||m.to != to||m.de != sh)] ?_
 try simp only[aQ]
 refine cC (t:=m.fm != fm||m.to != to||m.de != sh) (fun hw=>?_) (fun hw=>?_)
 ·have hT:gO fm to sh ⟨L,q,t⟩ m=(3,[],⟨L,q,t⟩):=by
   rw[gO,if_pos]
   simp at hw
   omega
  rw[hT]
  try simp only[aQ]
  refine aq ?_
  try simp only[aQ]
  refine Zp [.rd 0 [.r 1 (some (.iface 390 (.pointer (some (er 3)))))] 0 0,zR 1,zR 2] [10] [zV 5 (.iface 390 (.pointer (some (er 3))))] (oC gu oN) ?_
  try simp only[aQ]
  refine Yr [[],[]] (.tuple #[.slice none 0 0,.iface 390 (.pointer (some (er 3)))]) fun a w s=>?_
  have s1:=(((s.dY 1 rfl).dY 0 rfl).jz (kV 1 0 rfl rfl hm)).jz (fB (v:=.slice none 0 0) (d:=.sl 9 []) fun _ _ _=>.nil)
  exact⟨_,_,_,_,s1.ret (by simp) [0,1] [6] rfl rfl,.inr ⟨by decide,rfl⟩⟩
 ·have Jy:¬(m.fm≠fm∨m.to≠to∨m.de≠sh):=by simp at hw;omega
  try simp only[aQ]
  refine aq ?_
  try simp only[aQ]
  refine Za [zR 0,.rd 1 [.o 2 none] 0 0,zR 2,zR 3,.rd 4 [] 2 0,.rd 5 [.o 2 none] 2 0,.rd 6 [] 2 0,.rd 7 [] 0 3,zR 8,.rd 9 [] 2 0,.rd 10 [.o 2 none] 2 0,.rd 11 [] 2 0,.rd 12 [] 0 3,zR 13] [10] [zB 40 (decide (m.seq<1)||decide (m.time<0)||decide (m.time>1099511627776))] ?_
  try simp only[aQ]
  refine cC (t:=decide (m.seq<1)||decide (m.time<0)||decide (m.time>1099511627776)) (fun hb=>?_) (fun hb=>?_)
  ·have hT:gO fm to sh ⟨L,q,t⟩ m=(2,[],⟨L,q,t⟩):=by
    rw[gO,if_neg Jy,if_pos]
    simp at hb
    omega
   rw[hT]
   try simp only[aQ]
   refine aq ?_
   try simp only[aQ]
   refine Zp [.rd 0 [.r 0 (some (.iface 390 (.pointer (some (er 2)))))] 0 0,zR 1,zR 2] [40] [zV 5 (.iface 390 (.pointer (some (er 2))))] (oC dh oN) ?_
   try simp only[aQ]
   refine Yr [[],[]] (.tuple #[.slice none 0 0,.iface 390 (.pointer (some (er 2)))]) fun a w s=>?_
   have s1:=(((s.dY 1 rfl).dY 0 rfl).jz (kV 1 0 rfl rfl hm)).jz (fB (v:=.slice none 0 0) (d:=.sl 9 []) fun _ _ _=>.nil)
   exact⟨_,_,_,_,s1.ret (by simp) [0,1] [6] rfl rfl,.inr ⟨by decide,rfl⟩⟩
  ·have oQ:¬(m.seq<1∨m.time<0∨1099511627776<m.time):=by simp at hb;omega
   try simp only[aQ]
   refine aq ?_
   try simp only[aQ]
   refine Za ([zR 0,.rd 1 [.o 2 none] 0 0]++bh 2 5++[.rd 5 [.o 0 none] 0 0,zR 6,zR 7]) [40] [zB 55 (decide (m.seq≤q))] ?_
   try simp only[aQ]
   refine cC (t:=decide (m.seq≤q)) (fun ho=>?_) (fun ho=>?_)
   ·have hT:gO fm to sh ⟨L,q,t⟩ m=(0,[],⟨L,q,t⟩):=by
     rw[gO,if_neg Jy,if_neg oQ,if_pos (by simpa using ho)]
    rw[hT]
    try simp only[aQ]
    refine aq ?_
    try simp only[aQ]
    refine Za [zR 0,zR 1] [55] [] ?_
    try simp only[aQ]
    refine Yr [[],[]] (.tuple #[.slice none 0 0,.nilIface]) fun a w s=>?_
    have s1:=(((s.dY 1 rfl).dY 0 rfl).jz (kV 1 0 rfl rfl hm)).jz (fB (v:=.slice none 0 0) (d:=.sl 9 []) fun _ _ _=>.nil)
    exact⟨_,_,_,_,s1.ret (by simp) [0,1] [6] rfl rfl,.inl ⟨rfl,rfl⟩⟩
   ·have JB:q<m.seq:=by simpa using ho
    try simp only[aQ]
    refine aq ?_
    try simp only[aQ]
    refine Zp ([zR 0,.rd 1 [.o 2 none] 0 0]++bh 2 5++[.rd 5 [.o 0 none] 0 0,.rd 6 [] 0 1,zR 7,zR 8]) [55] [zB 63 (decide (m.seq - q>201))] (oC (show IntKind.i64.wrap (m.seq - q)=m.seq - q from wrap_i64 (by omega) (by omega)) oN) ?_
    try simp only[aQ]
    refine cC (t:=decide (m.seq - q>201)) (fun hf=>?_) (fun hf=>?_)
    ·have hT:gO fm to sh ⟨L,q,t⟩ m=(7,[],⟨L,q,t⟩):=by
      rw[gO,if_neg Jy,if_neg oQ,if_neg (by simp;omega),if_pos (by simpa using hf)]
     rw[hT]
     try simp only[aQ]
     refine aq ?_
     try simp only[aQ]
     refine Zp [.rd 0 [.r 2 (some (.iface 390 (.pointer (some (er 7)))))] 0 0,zR 1,zR 2] [63] [zV 5 (.iface 390 (.pointer (some (er 7))))] (oC pE oN) ?_
     try simp only[aQ]
     refine Yr [[],[]] (.tuple #[.slice none 0 0,.iface 390 (.pointer (some (er 7)))]) fun a w s=>?_
     have s1:=(((s.dY 1 rfl).dY 0 rfl).jz (kV 1 0 rfl rfl hm)).jz (fB (v:=.slice none 0 0) (d:=.sl 9 []) fun _ _ _=>.nil)
     exact⟨_,_,_,_,s1.ret (by simp) [0,1] [6] rfl rfl,.inr ⟨by decide,rfl⟩⟩
    ·have JE:¬201<m.seq - q:=by simp at hf;omega
     cases hk:kept L m.seq with
     | none=>
      refine b9 (qu 0 rfl (.int .i64 m.seq) (by simp[KL,hk])) fun _ hg=>?_
      try simp only[aQ]
      refine aG ?_
      try simp only[aQ]
      refine eu ?_
      try simp only[aQ]
      refine aq ?_
      try simp only[aQ]
      refine aq ?_
      try simp only[aQ]
      refine jT [(0,true),(1,true),(2,true),(3,true),(4,true),(5,true),(6,true),(7,true),(8,true),(9,true),(10,false),(11,false),(12,true)] [(11,[])] ?_
      refine Ya (bh 0 3++[.rd 3 [.o 0 none] 0 0,zR 4,.rd 5 [.o 2 none] 0 0]) [63] [zV 77 (.map (some mb)),zI 79 m.seq] ?_
      refine qg (.o 1 none) mb 225 3 62 (TypeDesc.int IntKind.i64) (.int .i64 m.seq) (.agg #[.int .i64 0,.int .i64 0,.int .i64 0,.int .i64 0,.int .i64 0,.bool false,.slice none 0 0,.int .i64 0,.slice none 0 0]) true (some 80) (by kernel_rfl) (by kernel_rfl) (by kernel_rfl) (by kernel_rfl) (by simp[MapKept.IsKey]) (by kernel_rfl) rfl hm (fun hno=>?_) (fun v hv=>?_)
      ·try simp only[aQ]
       refine Ym (bh 7 10++[.wr 10 [] 0,.wr 11 (ek 3 9) 0,zR 12]) [80,77,79] (fun dy=>[zB 7 false]) o0 (fun dy=>[(dy 0,.cells #[nI 0,nI 0,nI 0,nI 0,nI 0,.bool false,.slice none 0 0,nI 0,.slice none 0 0] 62 (0,0))]) [] (fun dy=>?_)
       try simp only[aQ]
       refine aC ?_
       try simp only[aQ]
       refine aq ?_
       try simp only[aQ]
       refine Za [zR 0,zR 1] [7] [zB 84 true] ?_
       try simp only[aQ]
       refine gR ?_
       try simp only[aQ]
       refine jT [(0,true),(1,true),(2,true),(3,true),(4,true),(5,true),(6,true),(7,false),(8,false)] [(8,[1])] ?_
       refine Ya (bh 0 3++[.rd 3 [.o 0 none] 0 0,zR 4,.rd 5 [.o 2 none] 0 0,.rd 6 (ek 2 9) 0 0]) [84,3] [zV 88 (.map (some mb)),zI 90 m.seq,zV 91 (.agg #[nI m.fm,nI m.to,nI m.de,nI m.seq,nI m.time,.bool m.dW,.slice a1 n1 c1,nI m.c.place,.slice a2 n2 c2])] ?_
       refine Yc 153 #[.agg #[nI m.fm,nI m.to,nI m.de,nI m.seq,nI m.time,.bool m.dW,.slice a1 n1 c1,nI m.c.place,.slice a2 n2 c2]] (some 92) fun w S hG=>?_
       refine(Mu (m:=m) (hG.at 1 rfl) (hG.at 2 rfl) ja kS qE).mono ?_
       rintro e2 w2 ⟨u1,d1,u2,d2,hR⟩
       refine⟨_,_,_,hR,?_⟩
       try simp only[aQ]
       refine NV 1 mb 225 3 62 (TypeDesc.int IntKind.i64) (.int .i64 m.seq) (.agg #[.int .i64 m.fm,.int .i64 m.to,.int .i64 m.de,.int .i64 m.seq,.int .i64 m.time,.bool m.dW,.slice u1 n1 d1,.int .i64 m.c.place,.slice u2 n2 d2]) none (by kernel_rfl) (by kernel_rfl) (by kernel_rfl) (by kernel_rfl) (by simp[MapKept.IsKey]) rfl hm (fun F0 nO qU y8=>?_)
       try simp only[aQ]
       refine aC ?_
       try simp only[aQ]
       refine aM ?_
       try simp only[aQ]
       refine bH (BD 0 rfl (.int .i64 m.seq) (us:=[.int .i64 m.fm,.int .i64 m.to,.int .i64 m.de,.int .i64 m.seq,.int .i64 m.time,.bool m.dW,.slice u1 n1 d1,.int .i64 m.c.place,.slice u2 n2 d2]) (row:=fC m) ⟨.inl ⟨rfl,rfl⟩,.inl ⟨rfl,rfl⟩,.inl ⟨rfl,rfl⟩,.inl ⟨rfl,rfl⟩,.inl ⟨rfl,rfl⟩,.inl ⟨rfl,rfl⟩,.inr (by simp),.inl ⟨rfl,rfl⟩,.inr (by simp),trivial⟩) ?_
       rw[NR hk]
       refine bH (fO fC 62 9) ?_
       refine cU (fun x:qR=>[zP 0 b,zS 4 x.a x.k x.c,zV 5 .nilIface]) (fun x:qR=>[(b,tu fm to sh x.q x.t mb),(mb,.map x.es x.clock)]) (fun x:qR=>[oI x.g (KL x.L),aT (.slice x.a x.k x.c) 62 9 (x.out.map fC)]) (fun x:qR=>[(.nilIface,(dC er eb))]) (fun x:qR=>x.L.length) (fun x:qR=>(gP (.int .i64) x.es x.g∧nQ x.L∧0≤x.q∧x.q+x.L.length≤1000000∧x.out.length+x.L.length≤1000000∧ez (L++[m]) q t=(x.out++(ez x.L x.q x.t).1,(ez x.L x.q x.t).2))) ⟨none,0,0,[],L++[m],q,t,F0,nO,_⟩ [0,4,5] [0,1] [0,1] [0] ?_ (by kernel_rfl) rfl rfl rfl ?_
       ·exact⟨qU,hd.app hk,qj,by simp;omega,by simp;omega,by simp⟩
       rintro⟨a5,k5,c5,out,L5,q5,t5,Ut,cl5,g5⟩ ⟨DB,Nr,TQ,Uj,Ip,KD⟩
       dsimp only at DB Nr TQ Uj Ip KD ⊢
       refine b9 (eC 1 rfl) fun _ T3=>?_
       rw[aA]at T3
       cases hkp:kept L5 (q5+1)with
       | none=>
        refine b9 (qu 0 rfl (.int .i64 (q5+1)) (by simp[KL,hkp])) fun _ Ub=>?_
        refine aM ?_
        refine jS [(0,true),(1,true),(2,true),(3,true),(4,true),(5,true),(6,true),(7,true),(8,true),(9,true),(10,true),(11,true),(12,true),(13,false),(14,false),(15,true)] [(14,[])] ?_
        refine Yp (bh 0 3++[.rd 3 [.o 0 none] 0 0]++bh 4 7++[.rd 7 [.o 0 none] 0 0,.rd 8 [] 0 1]) [] [zV 97 (.map (some mb)),zI 102 (q5+1)] (oC (show IntKind.i64.wrap (q5+1)=q5+1 from wrap_i64 (by omega) (by omega)) oN) ?_
        refine qg (.o 1 none) mb 225 3 62 (TypeDesc.int IntKind.i64) (.int .i64 (q5+1)) (.agg #[.int .i64 0,.int .i64 0,.int .i64 0,.int .i64 0,.int .i64 0,.bool false,.slice none 0 0,.int .i64 0,.slice none 0 0]) true (some 103) (by kernel_rfl) (by kernel_rfl) (by kernel_rfl) (by kernel_rfl) (by simp[MapKept.IsKey]) (by kernel_rfl) rfl DB (fun hno=>?_) (fun v hv=>?_)
        ·refine Ym (bh 10 13++[.wr 13 [] 0,.wr 14 [.o 2 none,.o 2 none,.o 2 none,.o 2 none,.o 2 none,.o 2 none,.o 2 none,.o 2 none,.o 2 none] 0,.rd 15 [] 0 0]) [103,97,102] (fun eR=>[(8,.val (.pointer (some (⟨eR 0,0,none⟩)))),(9,.val (.bool false))]) o0 (fun eR=>[(eR 0,.cells #[.int .i64 0,.int .i64 0,.int .i64 0,.int .i64 0,.int .i64 0,.bool false,.slice none 0 0,.int .i64 0,.slice none 0 0] 62 (0,0))]) [] (fun eR=>?_)
         refine aC (aq ?_)
         refine Zs [zR 0,zR 1] [] [zB 107 true] ?_
         refine gR ?_
         refine Zs (bh 0 3) [107] [] ?_
         refine Yr [[],[]] (.tuple #[.slice a5 k5 c5,.nilIface]) fun a w s=>?_
         have hT:gO fm to sh ⟨L,q,t⟩ m=(0,out,⟨L5,q5,t5⟩):=by
          rw[gO,if_neg Jy,if_neg oQ,if_neg (by simp;omega),if_neg (by simpa using JE)]
          simp only[hk]
          rw[KD,yx hkp]
          simp
         rw[hT]
         have s1:=((((s.dY 1 rfl).dY 0 rfl).jz (kV 2 0 rfl rfl DB))).jz (dg 0 rfl)
         exact⟨_,_,_,_,s1.ret (by simp) [0,1] [1] rfl rfl,.inl ⟨rfl,rfl⟩⟩
        ·rw[Ub]at hv
         cases hv
       | some x=>
        have hxs:=pP hkp
        refine b9 (qt 0 rfl (.int .i64 (q5+1)) (row:=fC x) (by simp[KL,hkp])) fun ls hls=>?_
        obtain⟨qD,oU⟩:=hls
        obtain⟨⟨xa,xc⟩,⟨ya,yc⟩,rfl⟩:∃l0 l1,ls=[l0,l1]:=HV qD
        try simp only[aQ]
        refine aM ?_
        refine jS [(0,true),(1,true),(2,true),(3,true),(4,true),(5,true),(6,true),(7,true),(8,true),(9,true),(10,true),(11,true),(12,true),(13,false),(14,false),(15,true)] [(14,[])] ?_
        refine Yp (bh 0 3++[.rd 3 [.o 0 none] 0 0]++bh 4 7++[.rd 7 [.o 0 none] 0 0,.rd 8 [] 0 1]) [] [zV 97 (.map (some mb)),zI 102 (q5+1)] (oC (show IntKind.i64.wrap (q5+1)=q5+1 from wrap_i64 (by omega) (by omega)) oN) ?_
        refine qg (.o 1 none) mb 225 3 62 (TypeDesc.int IntKind.i64) (.int .i64 (q5+1)) (.agg #[.int .i64 0,.int .i64 0,.int .i64 0,.int .i64 0,.int .i64 0,.bool false,.slice none 0 0,.int .i64 0,.slice none 0 0]) true (some 103) (by kernel_rfl) (by kernel_rfl) (by kernel_rfl) (by kernel_rfl) (by simp[MapKept.IsKey]) (by kernel_rfl) rfl DB (fun hno=>?_) (fun v hv=>?_)
        ·rw[oU]at hno
         cases hno
        ·rw[oU]at hv
         cases hv
         refine Ym (bh 10 13++[.wr 13 [] 0,.wr 14 (ek 2 9) 0,zR 15]) [103,97,102] (fun eR=>[zP 8 (eR 0),zB 9 true]) o0 (fun eR=>[(eR 0,.cells #[nI x.fm,nI x.to,nI x.de,nI x.seq,nI x.time,.bool x.dW,.slice (xa,xc).fst ((aj eI x.c.when).length) xc,nI x.c.place,.slice (ya,yc).fst ((aj fe x.c.ops).length) yc] 62 (0,0))]) [] (fun eR=>?_)
         refine aC (aq ?_)
         refine Zs [zR 0,zR 1] [] [zB 107 false] ?_
         refine cF ?_
         refine aG ?_
         refine jS [(0,true),(1,true),(2,true),(3,true),(4,true),(5,true),(6,false)] [(6,[1])] ?_
         refine Ya (bh 0 3++[.rd 3 [.o 0 none] 0 0,zR 4,.rd 5 [.o 2 none] 0 0]) [107] [zV 112 (.map (some mb)),zI 114 x.seq] ?_
         refine Jl 1 mb 225 3 62 (TypeDesc.int IntKind.i64) (.int .i64 x.seq) none (by kernel_rfl) (by kernel_rfl) (by kernel_rfl) (by kernel_rfl) (by simp[MapKept.IsKey]) rfl DB (fun QK GF P4=>?_)
         refine aC ?_
         refine Zv (bh 0 3++[.rd 3 [.o 2 none] 0 0,zR 4,.rd 5 [.o 2 none] 0 0,zR 6,zR 7,.wr 8 [.o 0 none] 0,zR 9,zR 10,.wr 11 [.o 0 none] 0]) [(8,[0]),(11,[0])] [] (fun _=>[]) (fun _=>[(0,.cells #[nI fm,nI to,nI sh,nI x.seq,nI x.time,.map (some mb)] 227 (0,0))]) o0 (fun _=>?_)
         refine jT [(0,true),(1,true),(2,false),(3,false),(4,true)] [] ?_
         refine Ym [zR 0,.rd 1 (ek 2 9) 0 0,.wr 2 [] 0] [] (fun kR=>[zS 125 a5 k5 c5,zS 127 (sA (kR 0) 0) 1 1]) o0 (fun kR=>[(kR 0,.cells #[nI x.fm,nI x.to,nI x.de,nI x.seq,nI x.time,.bool x.dW,.slice (xa,xc).fst ((aj eI x.c.when).length) xc,nI x.c.place,.slice (ya,yc).fst ((aj fe x.c.ops).length) yc] 62 (0,0))]) [] (fun kR=>?_)
         refine eY 1 56 62 9 104 (.agg #[.int .i64 0,.int .i64 0,.int .i64 0,.int .i64 0,.int .i64 0,.bool false,.slice none 0 0,.int .i64 0,.slice none 0 0]) (a0:=a5) (len:=k5) (iB:=c5) (ax:=(some (⟨kR 0,0,none⟩))) (m:=1) (c:=1) (dst:=(some 128)) [x] (by kernel_rfl) (by kernel_rfl) (by kernel_rfl) (by kernel_rfl) rfl (by decide) rfl (fun _ _ _ s=>fK s 3 rfl rfl ⟨.inl ⟨rfl,rfl⟩,⟨.inl ⟨rfl,rfl⟩,⟨.inl ⟨rfl,rfl⟩,⟨.inl ⟨rfl,rfl⟩,⟨.inl ⟨rfl,rfl⟩,⟨.inl ⟨rfl,rfl⟩,⟨.inr (.inl (ae (i:=1) rfl)),⟨.inl ⟨rfl,rfl⟩,⟨.inr (.inl (ae (i:=2) rfl)),trivial⟩⟩⟩⟩⟩⟩⟩⟩⟩) (by simp only[maxLen];omega) (by omega) (fun gq gp=>?_)
         try simp only[aQ]
         refine Ya [zR 4] [128,125,127] [zS 4 gq (k5+1) gp] ?_
         try simp only[aQ]
         refine aC ?_
         try simp only[aQ]
         refine eu ?_
         try simp only[aQ]
         refine bH (wc 0 rfl (.int .i64 x.seq)) ?_
         rw[I7 Nr]
         have JF:=pZ hkp
         refine bC ⟨gq,k5+1,gp,out++[x],gF L5 x.seq,x.seq,x.time,QK,cl5,_⟩ [0,4,5] [0,1] [0,1] [0] ?_ ?_ (by kernel_rfl) rfl rfl rfl
         ·refine⟨GF,Nr.drop _,by simp only;omega,?_,?_,?_⟩
          ·rw[hxs]
           simp only
           omega
          ·rw[hxs]
           simp
           omega
          ·rw[KD,yu hkp,hxs]
           simp
         ·rw[hxs]
          simp only
          omega
      ·rw[hg]at hv
       cases hv
     | some x0=>
      refine b9 (qt 0 rfl (.int .i64 m.seq) (row:=fC x0) (by simp[KL,hk])) fun Wj TX=>?_
      obtain⟨Qn,LQ⟩:=TX
      obtain⟨⟨pa,pc⟩,⟨ra,rc⟩,rfl⟩:∃l0 l1,Wj=[l0,l1]:=HV Qn
      try simp only[aQ]
      refine aG ?_
      try simp only[aQ]
      refine eu ?_
      try simp only[aQ]
      refine aq ?_
      try simp only[aQ]
      refine aq ?_
      try simp only[aQ]
      refine jT [(0,true),(1,true),(2,true),(3,true),(4,true),(5,true),(6,true),(7,true),(8,true),(9,true),(10,false),(11,false),(12,true)] [(11,[])] ?_
      refine Ya (bh 0 3++[.rd 3 [.o 0 none] 0 0,zR 4,.rd 5 [.o 2 none] 0 0]) [63] [zV 77 (.map (some mb)),zI 79 m.seq] ?_
      refine qg (.o 1 none) mb 225 3 62 (TypeDesc.int IntKind.i64) (.int .i64 m.seq) (.agg #[.int .i64 0,.int .i64 0,.int .i64 0,.int .i64 0,.int .i64 0,.bool false,.slice none 0 0,.int .i64 0,.slice none 0 0]) true (some 80) (by kernel_rfl) (by kernel_rfl) (by kernel_rfl) (by kernel_rfl) (by simp[MapKept.IsKey]) (by kernel_rfl) rfl hm (fun hno=>?_) (fun v hv=>?_)
      ·rw[LQ]at hno
       cases hno
      ·rw[LQ]at hv
       cases hv
       try simp only[aQ]
       refine Ym (bh 7 10++[.wr 10 [] 0,.wr 11 (ek 3 9) 0,zR 12]) [80,77,79] (fun dy=>[zB 7 true]) o0 (fun dy=>[(dy 0,.cells #[nI x0.fm,nI x0.to,nI x0.de,nI x0.seq,nI x0.time,.bool x0.dW,.slice (pa,pc).fst ((aj eI x0.c.when).length) pc,nI x0.c.place,.slice (ra,rc).fst ((aj fe x0.c.ops).length) rc] 62 (0,0))]) [] (fun dy=>?_)
       try simp only[aQ]
       refine aC ?_
       try simp only[aQ]
       refine aq ?_
       try simp only[aQ]
       refine Za [zR 0,zR 1] [7] [zB 84 false] ?_
       try simp only[aQ]
       refine cF ?_
       try simp only[aQ]
       refine aG ?_
       try simp only[aQ]
       refine aM ?_
       try simp only[aQ]
       refine bH (fO fC 62 9) ?_
       refine cU (fun x:qR=>[zP 0 b,zS 4 x.a x.k x.c,zV 5 .nilIface]) (fun x:qR=>[(b,tu fm to sh x.q x.t mb),(mb,.map x.es x.clock)]) (fun x:qR=>[oI x.g (KL x.L),aT (.slice x.a x.k x.c) 62 9 (x.out.map fC)]) (fun x:qR=>[(.nilIface,(dC er eb))]) (fun x:qR=>x.L.length) (fun x:qR=>(gP (.int .i64) x.es x.g∧nQ x.L∧0≤x.q∧x.q+x.L.length≤1000000∧x.out.length+x.L.length≤1000000∧ez (L) q t=(x.out++(ez x.L x.q x.t).1,(ez x.L x.q x.t).2))) ⟨none,0,0,[],L,q,t,es,clock,g⟩ [0,4,5] [0,1] [0,1] [0] ?_ (by kernel_rfl) rfl rfl rfl ?_
       ·exact⟨hm,hd,qj,by simp;omega,by simp;omega,by simp⟩
       rintro⟨a5,k5,c5,out,L5,q5,t5,Ut,cl5,g5⟩ ⟨DB,Nr,TQ,Uj,Ip,KD⟩
       dsimp only at DB Nr TQ Uj Ip KD ⊢
       refine b9 (eC 1 rfl) fun _ T3=>?_
       rw[aA]at T3
       cases hkp:kept L5 (q5+1)with
       | none=>
        refine b9 (qu 0 rfl (.int .i64 (q5+1)) (by simp[KL,hkp])) fun _ Ub=>?_
        refine aM ?_
        refine jS [(0,true),(1,true),(2,true),(3,true),(4,true),(5,true),(6,true),(7,true),(8,true),(9,true),(10,true),(11,true),(12,true),(13,false),(14,false),(15,true)] [(14,[])] ?_
        refine Yp (bh 0 3++[.rd 3 [.o 0 none] 0 0]++bh 4 7++[.rd 7 [.o 0 none] 0 0,.rd 8 [] 0 1]) [] [zV 97 (.map (some mb)),zI 102 (q5+1)] (oC (show IntKind.i64.wrap (q5+1)=q5+1 from wrap_i64 (by omega) (by omega)) oN) ?_
        refine qg (.o 1 none) mb 225 3 62 (TypeDesc.int IntKind.i64) (.int .i64 (q5+1)) (.agg #[.int .i64 0,.int .i64 0,.int .i64 0,.int .i64 0,.int .i64 0,.bool false,.slice none 0 0,.int .i64 0,.slice none 0 0]) true (some 103) (by kernel_rfl) (by kernel_rfl) (by kernel_rfl) (by kernel_rfl) (by simp[MapKept.IsKey]) (by kernel_rfl) rfl DB (fun hno=>?_) (fun v hv=>?_)
        ·refine Ym (bh 10 13++[.wr 13 [] 0,.wr 14 [.o 2 none,.o 2 none,.o 2 none,.o 2 none,.o 2 none,.o 2 none,.o 2 none,.o 2 none,.o 2 none] 0,.rd 15 [] 0 0]) [103,97,102] (fun eR=>[(8,.val (.pointer (some (⟨eR 0,0,none⟩)))),(9,.val (.bool false))]) o0 (fun eR=>[(eR 0,.cells #[.int .i64 0,.int .i64 0,.int .i64 0,.int .i64 0,.int .i64 0,.bool false,.slice none 0 0,.int .i64 0,.slice none 0 0] 62 (0,0))]) [] (fun eR=>?_)
         refine aC (aq ?_)
         refine Zs [zR 0,zR 1] [] [zB 107 true] ?_
         refine gR ?_
         refine Zs (bh 0 3) [107] [] ?_
         refine Yr [[],[]] (.tuple #[.slice a5 k5 c5,.nilIface]) fun a w s=>?_
         have hT:gO fm to sh ⟨L,q,t⟩ m=(0,out,⟨L5,q5,t5⟩):=by
          rw[gO,if_neg Jy,if_neg oQ,if_neg (by simp;omega),if_neg (by simpa using JE)]
          simp only[hk]
          rw[KD,yx hkp]
          simp
         rw[hT]
         have s1:=((((s.dY 1 rfl).dY 0 rfl).jz (kV 2 0 rfl rfl DB))).jz (dg 0 rfl)
         exact⟨_,_,_,_,s1.ret (by simp) [0,1] [1] rfl rfl,.inl ⟨rfl,rfl⟩⟩
        ·rw[Ub]at hv
         cases hv
       | some x=>
        have hxs:=pP hkp
        refine b9 (qt 0 rfl (.int .i64 (q5+1)) (row:=fC x) (by simp[KL,hkp])) fun ls hls=>?_
        obtain⟨qD,oU⟩:=hls
        obtain⟨⟨xa,xc⟩,⟨ya,yc⟩,rfl⟩:∃l0 l1,ls=[l0,l1]:=HV qD
        try simp only[aQ]
        refine aM ?_
        refine jS [(0,true),(1,true),(2,true),(3,true),(4,true),(5,true),(6,true),(7,true),(8,true),(9,true),(10,true),(11,true),(12,true),(13,false),(14,false),(15,true)] [(14,[])] ?_
        refine Yp (bh 0 3++[.rd 3 [.o 0 none] 0 0]++bh 4 7++[.rd 7 [.o 0 none] 0 0,.rd 8 [] 0 1]) [] [zV 97 (.map (some mb)),zI 102 (q5+1)] (oC (show IntKind.i64.wrap (q5+1)=q5+1 from wrap_i64 (by omega) (by omega)) oN) ?_
        refine qg (.o 1 none) mb 225 3 62 (TypeDesc.int IntKind.i64) (.int .i64 (q5+1)) (.agg #[.int .i64 0,.int .i64 0,.int .i64 0,.int .i64 0,.int .i64 0,.bool false,.slice none 0 0,.int .i64 0,.slice none 0 0]) true (some 103) (by kernel_rfl) (by kernel_rfl) (by kernel_rfl) (by kernel_rfl) (by simp[MapKept.IsKey]) (by kernel_rfl) rfl DB (fun hno=>?_) (fun v hv=>?_)
        ·rw[oU]at hno
         cases hno
        ·rw[oU]at hv
         cases hv
         refine Ym (bh 10 13++[.wr 13 [] 0,.wr 14 (ek 2 9) 0,zR 15]) [103,97,102] (fun eR=>[zP 8 (eR 0),zB 9 true]) o0 (fun eR=>[(eR 0,.cells #[nI x.fm,nI x.to,nI x.de,nI x.seq,nI x.time,.bool x.dW,.slice (xa,xc).fst ((aj eI x.c.when).length) xc,nI x.c.place,.slice (ya,yc).fst ((aj fe x.c.ops).length) yc] 62 (0,0))]) [] (fun eR=>?_)
         refine aC (aq ?_)
         refine Zs [zR 0,zR 1] [] [zB 107 false] ?_
         refine cF ?_
         refine aG ?_
         refine jS [(0,true),(1,true),(2,true),(3,true),(4,true),(5,true),(6,false)] [(6,[1])] ?_
         refine Ya (bh 0 3++[.rd 3 [.o 0 none] 0 0,zR 4,.rd 5 [.o 2 none] 0 0]) [107] [zV 112 (.map (some mb)),zI 114 x.seq] ?_
         refine Jl 1 mb 225 3 62 (TypeDesc.int IntKind.i64) (.int .i64 x.seq) none (by kernel_rfl) (by kernel_rfl) (by kernel_rfl) (by kernel_rfl) (by simp[MapKept.IsKey]) rfl DB (fun QK GF P4=>?_)
         refine aC ?_
         refine Zv (bh 0 3++[.rd 3 [.o 2 none] 0 0,zR 4,.rd 5 [.o 2 none] 0 0,zR 6,zR 7,.wr 8 [.o 0 none] 0,zR 9,zR 10,.wr 11 [.o 0 none] 0]) [(8,[0]),(11,[0])] [] (fun _=>[]) (fun _=>[(0,.cells #[nI fm,nI to,nI sh,nI x.seq,nI x.time,.map (some mb)] 227 (0,0))]) o0 (fun _=>?_)
         refine jT [(0,true),(1,true),(2,false),(3,false),(4,true)] [] ?_
         refine Ym [zR 0,.rd 1 (ek 2 9) 0 0,.wr 2 [] 0] [] (fun kR=>[zS 125 a5 k5 c5,zS 127 (sA (kR 0) 0) 1 1]) o0 (fun kR=>[(kR 0,.cells #[nI x.fm,nI x.to,nI x.de,nI x.seq,nI x.time,.bool x.dW,.slice (xa,xc).fst ((aj eI x.c.when).length) xc,nI x.c.place,.slice (ya,yc).fst ((aj fe x.c.ops).length) yc] 62 (0,0))]) [] (fun kR=>?_)
         refine eY 1 56 62 9 104 (.agg #[.int .i64 0,.int .i64 0,.int .i64 0,.int .i64 0,.int .i64 0,.bool false,.slice none 0 0,.int .i64 0,.slice none 0 0]) (a0:=a5) (len:=k5) (iB:=c5) (ax:=(some (⟨kR 0,0,none⟩))) (m:=1) (c:=1) (dst:=(some 128)) [x] (by kernel_rfl) (by kernel_rfl) (by kernel_rfl) (by kernel_rfl) rfl (by decide) rfl (fun _ _ _ s=>fK s 3 rfl rfl ⟨.inl ⟨rfl,rfl⟩,⟨.inl ⟨rfl,rfl⟩,⟨.inl ⟨rfl,rfl⟩,⟨.inl ⟨rfl,rfl⟩,⟨.inl ⟨rfl,rfl⟩,⟨.inl ⟨rfl,rfl⟩,⟨.inr (.inl (ae (i:=1) rfl)),⟨.inl ⟨rfl,rfl⟩,⟨.inr (.inl (ae (i:=2) rfl)),trivial⟩⟩⟩⟩⟩⟩⟩⟩⟩) (by simp only[maxLen];omega) (by omega) (fun gq gp=>?_)
         try simp only[aQ]
         refine Ya [zR 4] [128,125,127] [zS 4 gq (k5+1) gp] ?_
         try simp only[aQ]
         refine aC ?_
         try simp only[aQ]
         refine eu ?_
         try simp only[aQ]
         refine bH (wc 0 rfl (.int .i64 x.seq)) ?_
         rw[I7 Nr]
         have JF:=pZ hkp
         refine bC ⟨gq,k5+1,gp,out++[x],gF L5 x.seq,x.seq,x.time,QK,cl5,_⟩ [0,4,5] [0,1] [0,1] [0] ?_ ?_ (by kernel_rfl) rfl rfl rfl
         ·refine⟨GF,Nr.drop _,by simp only;omega,?_,?_,?_⟩
          ·rw[hxs]
           simp only
           omega
          ·rw[hxs]
           simp
           omega
          ·rw[KD,yu hkp,hxs]
           simp
         ·rw[hxs]
          simp only
          omega
end Go.Proofs.YtmkapocibaojdaaGreatDoor
end
section
namespace Go.Sx
open Go Go.MapKept
section look
variable {P:Program} {f:Func} {R:Act→World→Prop} {n:Nat} {k:List oR} {E:Env} {h r:List (Nat×Obj)} {F:List (List Nat×World)} {Y:fQ}
theorem D4 {S0:Nat→Prop} {C0:List Chunk} {G0:List (Value×D)} {id L0 i:Nat} {Wp:List (Nat×List Nat)} {rest:List (Nat×Bool)} (q b t kt et:Nat) (ok:Value→Prop) (key z:Value) (c:Bool) (dst:Option Tmp) {es:Array MapEntry} {clock:Nat} {g:Value→Option Value}
  (he:vG n (bS f id) E i=some (.map (some b),key,t,c,dst)) (ht:P.underlying t=some (.map kt et)) (hK:qb P kt ok) (hk:ok key) (hi:(P.info? et).map (·.zero)=some (some z))
  (WC:C0[q]?=some (bL b (.map es clock))) (hm:fM ok es g)
  (A:g key=none→JR P f R n (bS f id) L0 false rest Wp k (E.put dst (.val (vH c z false))) h r F ⟨S0,C0,G0⟩)
  (B:∀v,g key=some v→JR P f R n (bS f id) L0 false rest Wp k (E.put dst (.val (vH c v true))) h r F ⟨S0,C0,G0⟩) :
  JR P f R n (bS f id) L0 false ((i,true)::rest) Wp k E h r F ⟨S0,C0,G0⟩:=by
 intro BB Hd aU a w s hH hR hN hW
 simp only[PW]
 obtain⟨inf,qF,hz⟩:=aI.1 hi
 have hzero:∀w,(zeroValue et).run P w=.ok z w:=fun w=>by simp[zeroValue,typeInfo,qF,hz]
 obtain⟨_,_,vl⟩:=s.gh.kF.at WC
 have Nx:Hp [(b,Obj.map es clock)] w:=fun y hy=>by
  obtain rfl:=ay.1 hy
  exact vl.2
 unfold vG at he
 split at he
 ·cases he
 rename_i o ho
 split at he
 case isFalse=>cases he
 rename_i AX
 split at he
 ·cases he
 rename_i hg
 split at he
 case h_2=>cases he
 rename_i t' m x c' hc
 split at he
 case h_2=>cases he
 rename_i hq
 simp only[az,aH]at he
 obtain⟨e1,e2,rfl,rfl,rfl⟩:=he
 have uP:=eG s.ag (fun c w h=>by cases h) _ _ hq trivial
 have e1:a.eval m=.map (some b):=(uP m (by simp)).trans e1
 have e2:a.eval x=key:=(uP x (by simp)).trans e2
 have fin:∀v,(∀w,Hp [(b,Obj.map es clock)] w→(Instr.lookup t' (.map (some b)) key c').run P w=.ok v w)→JR P f R n (bS f id) L0 false rest Wp k (E.put o.dst (.val v)) h r F ⟨S0,C0,G0⟩ →
   ∃o' v' us,(bS f id)[i]?=some o'∧YieldsIf P (bS f id) (Hp us) o' v' a∧Hp us w∧(false=true→∀y∈kp Hd h Wp,later (bS f id) i 3 y.1=true∨∀x∈us,x.1<BB∧x.1∉y.2)∧PW P (bS f id) (mq P f R k) BB false rest (kp Hd h Wp) (a.put o'.dst v') w:=fun v hv H=>by
  refine⟨o,v,[(b,Obj.map es clock)],ho,.inl ⟨by simp[Region.wanted,hg],fun w hw=>?_⟩,Nx,(fun uQ=>absurd uQ Bool.false_ne_true),?_⟩
  ·unfold execOp
   simp only[hc,Sem.run_bind,Sem.run_pure,Result.andThen_ok,e1,e2,hv w hw]
  ·exact H BB Hd aU _ w ⟨s.ag.put AX (.val v),s.own,s.fr,s.may,s.gh⟩ hH hR hN hW
 have Iu:∀w,Hp [(b,Obj.map es clock)] w→w.heap[b]?=some (.map es clock):=fun w hw=>hw (b,.map es clock) (by simp)
 rcases hm.look hK hk with ⟨h1,h2,_⟩|⟨j,e,h1,_,_,h2⟩
 ·refine fin (vH c' z false) (fun w hw=>?_) (A h2)
  cases c' <;> simp[Instr.lookup,run_underlying ht,MapKept.run_getObj_map (Iu w hw),hK.DV _ _ hk,h1,hzero,Result.andThen,vH]
 ·refine fin (vH c' e.val true) (fun w hw=>?_) (B _ h2)
  cases c' <;> simp[Instr.lookup,run_underlying ht,MapKept.run_getObj_map (Iu w hw),hK.DV _ _ hk,h1,Result.andThen,vH]
end look
theorem B5 (key:ByteArray) (l:List bO):((opsOf key l).map (·.d)).Nodup:=by
 have h1:((nN key l).map (·.d)).Nodup:=(qI (s:=[]) (l:=bM l)).sublist ((dw ..).map _)
 exact(((gB (nN key l) fun x y=>!gW y x).map (·.d)).nodup_iff).2 h1
theorem B7 (key:ByteArray) (l:List bO):((eL key l).map (·.d)).Nodup:=(B5 key l).sublist ((dw ..).map _)
theorem xd {l:List bE} (h:(l.map (·.d)).Nodup) (t:ByteArray):(ji l t).Nodup:=h.sublist (((dw ..).trans (dw ..)).map _)
theorem Aw (l:List bE) (t:ByteArray):(ji l t).length≤l.length:=by
 unfold ji
 rw[aA]
 exact aZ (cH _ _) (cH _ _)
end Go.Sx
namespace Go.Proofs.YtmkapocibaojdaaGreatDoor
open Go Go.Sx
set_option maxHeartbeats 4000000 in
theorem On {w:World} {S:Nat→Prop} {er:Nat→Addr} {eb:Nat→Array Value×TypeId} {a:Option Addr} {n c:Nat} {key text:ByteArray} {l:List bO} (hC:cm w S .nilIface (dC er eb)) (h:cm w S (.slice a n c) (.sl 3 (l.map eW))) (hl:l.length≤300000) (ja:∀x∈l,x.when.length≤1000000) (kS:∀x∈l,x.ops.length≤1000000) :
  Calls Tryz.prog 180 #[.string key,.string text,.slice a n c] w fun e w'=>((cZ key l).code≠0∧D7 w S w' e er (cZ key l) fun v=>.tuple #[.slice none 0 0,v])∨((cZ key l).code=0∧∃ua un uc,cQ [] w S w' e (.tuple #[.slice ua un uc,.nilIface]) [] [(.slice ua un uc,.sl 3 ((oH key text l).map bK))]):=by
 refine jL Tryz.func180 Ro (args:=[.string key,.string text,.slice a n c]) (G:=[(_,dC er eb),(_,.sl 3 (l.map eW))]) (by kernel_rfl) (.cons hC (.cons h (.nil _ _))) ?_
 refine Zs [zR 0,zR 1] [] [zS 6 none 0 0,zV 7 .nilIface] ?_
 refine jS [(0,true),(1,true),(2,false),(3,true),(4,true),(5,true),(6,true),(7,true)] [] ?_
 refine Ya [zR 0,zR 1] [0,2] [zV 13 (.string key),zS 14 a n c] ?_
 refine Yc 159 #[.string key,.slice a n c] (some 15) fun w S hG=>?_
 refine(Mc (hG.at 0 rfl) (hG.at 1 rfl) hl ja kS).mono ?_
 rintro e1 w1 (⟨hc,⟨hat,v,hR,hv⟩|⟨zb,hat,pb,hR⟩⟩|⟨hc,a1,n1,c1,hR⟩)
 ·refine⟨_,_,_,hR,?_⟩
  rcases hv with ⟨nc,rfl⟩|⟨nc,rfl⟩
  ·exact absurd nc hc
  ·try simp only[aQ]
   refine Ya (bh 3 8) [15,13,14] [zS 8 none 0 0,zV 9 (.iface 390 (.pointer (some (er (cZ key l).code))))] ?_
   refine aC (aq ?_)
   refine Zs [zR 0,zR 1] [] [zB 19 true] ?_
   refine gR ?_
   refine Zs (bh 0 3) [19,9] [zV 7 (.iface 390 (.pointer (some (er (cZ key l).code))))] ?_
   refine Yr [[],[]] (.tuple #[.slice none 0 0,.iface 390 (.pointer (some (er (cZ key l).code)))]) fun a w s=>?_
   exact .inl ⟨hc,.inl ⟨hat,_,s.ret (by simp) [] [] rfl rfl,.inr ⟨nc,rfl⟩⟩⟩
 ·refine⟨_,_,_,hR,?_⟩
  try simp only[aQ]
  refine Ya (bh 3 8) [15,13,14] [zS 8 none 0 0,zV 9 (.iface 202 (.pointer (sA pb 0)))] ?_
  refine aC (aq ?_)
  refine Zs [zR 0,zR 1] [] [zB 19 true] ?_
  refine gR ?_
  refine Zs (bh 0 3) [19,9] [zV 7 (.iface 202 (.pointer (sA pb 0)))] ?_
  refine Yr [[],[]] (.tuple #[.slice none 0 0,.iface 202 (.pointer (sA pb 0))]) fun a w s=>?_
  exact .inl ⟨hc,.inr ⟨zb,hat,_,s.ret (by simp) [] [2] rfl rfl⟩⟩
 ·refine⟨_,_,_,hR,?_⟩
  have hlo:=sx hc
  have hlk:=vC hc
  try simp only[aQ]
  refine Ya (bh 3 8) [15,13,14] [zS 8 a1 n1 c1,zV 9 .nilIface] ?_
  refine aC (aq ?_)
  refine Zs [zR 0,zR 1] [] [zB 19 false] ?_
  refine cF ?_
  refine aG ?_
  refine jS [(0,true),(1,false),(2,true),(3,true),(4,true),(5,true),(6,true)] [] ?_
  refine Ya [zR 0] [19,9] [zS 22 a1 n1 c1] ?_
  refine Yc 160 #[.slice a1 n1 c1] (some 23) fun w S hG=>?_
  refine(GX (hG.at 2 rfl) (by omega)).mono ?_
  rintro e2 w2 ⟨a2,n2,c2,hR⟩
  refine⟨_,_,_,hR,?_⟩
  have hA:j6 (opsOf key l)=eL key l:=rfl
  rw[hA]
  by_cases Cj:kindOf (opsOf key l)=3
  ·have hd:oH key text l=xq (ji (eL key l) text):=by rw[oH,if_pos Cj]
   rw[Cj]
   have JF:∀x∈eL key l,x.o.bF.length≤1000000:=fun x hx=>by
    obtain⟨p,hp⟩:=uT hc (sB hx)
    have:=qA hp
    omega
   try simp only[aQ]
   refine Ya (bh 2 7) [23,22] [zS 8 a2 n2 c2,zI 10 3] ?_
   refine aC (aq ?_)
   refine Zs [zR 0,zR 1] [10] [zB 27 false] ?_
   refine cF ?_
   refine aG ?_
   refine jS [(0,true),(1,false),(2,true),(3,true),(4,true)] [] ?_
   refine Ya [zR 0] [27,8] [zS 28 a2 n2 c2] ?_
   refine Yc 163 #[.slice a2 n2 c2] (some 29) fun w S hG=>?_
   refine(Lv (hG.at 3 rfl) (by omega) JF).mono ?_
   rintro e3 w3 ⟨mb,es,clock,ks,F,hR,hm,hst,hnd,k7⟩
   refine⟨_,_,_,hR,?_⟩
   try simp only[aQ]
   refine Ya [zR 2] [28,1] [zV 30 (.string text)] ?_
   have tJ:=xd (B7 key l) text
   have WN:=Aw (eL key l) text
   refine D4 0 mb 276 9 53 (MapKept.IsKey .string) (.string text) (.slice none 0 0) false (some 31) (by kernel_rfl) (by kernel_rfl) gC (by simp[MapKept.IsKey]) (by kernel_rfl) rfl hm (fun hno=>?_) (fun v hv=>?_)
   ·have hT:text∉ks:=fun h=>by rw[gQ h]at hno;cases hno
    have LX:ji (eL key l) text=[]:=bU fun h=>hT ((k7 _).2 h)
    refine Ya [zR 4] [31,30,29] [zS 11 none 0 0] ?_
    refine aC (aq ?_)
    refine bH (fO bK 177 3) ?_
    refine Nm [bL mb (Obj.map es clock),(cA (aj (fun t=>aT (F t) 177 3 (aj bK (ji (eL key l) t))) ks)),aT (.slice none 0 0) 177 3 (aj bK [])] ?_
    refine jT [(0,true),(1,false)] [] ?_
    refine Ya [zR 0] [] [zS 32 none 0 0] ?_
    refine cn [] [2] 210 #[.slice none 0 0,.func (.func 211) #[] #[]] (some 33) (by kernel_rfl) (by kernel_rfl) (by decide) (fun w S M hP hG _=>?_)
    refine(xu (l:=[]) hP (by simp) (by simp)).mono ?_
    rintro e4 w4 hR
    refine⟨_,_,_,hR,?_⟩
    try simp only[aQ]
    refine aC ?_
    try simp only[aQ]
    refine aq ?_
    try simp only[aQ]
    refine Za (bh 0 3) [33,32,11] [] ?_
    try simp only[aQ]
    refine Yr [[],[]] (.tuple #[.slice none 0 0,.nilIface]) fun a w s=>?_
    rw[hd,LX]
    exact .inr ⟨hc,_,_,_,(s.jz (dg 2 rfl)).ret (by simp) [] [4] rfl rfl⟩
   ·have hT:text∈ks:=bU fun h=>by rw[nq h]at hv;cases hv
    rw[gQ hT]at hv
    cases hv
    obtain⟨iT,hit⟩:=aJ hT
    refine Ya [zR 4] [31,30,29] [zV 11 (F text)] ?_
    refine aC (aq ?_)
    refine bH (nr (c:=aT (F text) 177 3 ((ji (eL key l) text).map bK)) 1 iT rfl (by rw[aF,hit];rfl)) ?_
    refine b9 (nt 1 rfl) fun y hF=>?_
    obtain⟨hF,hn⟩:=hF
    obtain⟨av,nv,cv⟩:=y
    dsimp only at hF hn
    rw[hF]
    refine Nm [bL mb (Obj.map es clock),aT (.slice av nv cv) 177 3 (aj bK (ji (eL key l) text)),(cA ((aj (fun t=>aT (F t) 177 3 (aj bK (ji (eL key l) t))) ks).eraseIdx iT))] ?_
    refine jT [(0,true),(1,false)] [] ?_
    refine Ya [zR 0] [] [zS 32 av nv cv] ?_
    refine cn [] [1] 210 #[.slice av nv cv,.func (.func 211) #[] #[]] (some 33) (by kernel_rfl) (by kernel_rfl) (by decide) (fun w S M hP hG _=>?_)
    refine(xu hP (by omega) tJ).mono ?_
    rintro e4 w4 hR
    refine⟨_,_,_,hR,?_⟩
    try simp only[aQ]
    refine aC ?_
    try simp only[aQ]
    refine aq ?_
    try simp only[aQ]
    refine Za (bh 0 3) [33,32,11] [zS 6 av nv cv] ?_
    try simp only[aQ]
    refine Yr [[],[]] (.tuple #[.slice av nv cv,.nilIface]) fun a w s=>?_
    rw[hd]
    exact .inr ⟨hc,_,_,_,(s.jz (dg 2 rfl)).ret (by simp) [] [4] rfl rfl⟩
  ·have hd:oH key text l=[]:=by rw[oH,if_neg Cj]
   try simp only[aQ]
   refine Ya (bh 2 7) [23,22] [zS 8 a2 n2 c2,zI 10 (kindOf (opsOf key l))] ?_
   refine aC (aq ?_)
   refine Zt [zR 0,.rd 1 [] 0 6] [10] [zB 27 true] (oC (show(kindOf (opsOf key l) != (3:Int))=true from by simp;omega) oN) ?_
   refine gR ?_
   refine Zs [zR 0,zR 1] [27] [] ?_
   refine Yr [[],[]] (.tuple #[.slice none 0 0,.nilIface]) fun a w s=>?_
   rw[hd]
   exact .inr ⟨hc,_,_,_,(s.jz (fB (v:=.slice none 0 0) (d:=.sl 3 []) fun _ _ _=>.nil)).ret (by simp) [] [4] rfl rfl⟩
end Go.Proofs.YtmkapocibaojdaaGreatDoor
end
section
namespace Go.Sx
open Go
section generic
variable {α:Type} (lt:α→α→Bool)
def AR (l:List α) (x:α):List α:=l.takeWhile (fun y=>lt y x)++x::l.dropWhile (fun y=>lt y x)
theorem xU {l:List α} {x z:α}:z∈AR lt l x↔z=x∨z∈l:=by
 unfold AR
 have h:z∈l↔z∈l.takeWhile (fun y=>lt y x)∨z∈l.dropWhile (fun y=>lt y x):=by
  rw[←au,List.takeWhile_append_dropWhile]
 rw[h,au,cE]
 constructor
 ·rintro(h|h|h)
  ·exact .inr (.inl h)
  ·exact .inl h
  ·exact .inr (.inr h)
 ·rintro(h|h|h)
  ·exact .inr (.inl h)
  ·exact .inl h
  ·exact .inr (.inr h)
theorem wq (tr:∀a b c,lt a b=true→lt b c=true→lt a c=true) {x:α}:∀{l:List α},(∀y∈l,lt y x=true∨lt x y=true)→(l.Pairwise fun a b=>lt a b=true)→(AR lt l x).Pairwise fun a b=>lt a b=true
 | [],_,_=>by simp[AR]
 | y::l,hx,h=>by
  have h1:=gN.1 h
  unfold AR
  by_cases hy:lt y x=true
  ·rw[List.takeWhile_cons_of_pos (p:=fun y=>lt y x) hy,List.dropWhile_cons_of_pos (p:=fun y=>lt y x) hy,iO]
   refine gN.2 ⟨fun z hz=>?_,wq tr (fun z hz=>hx z (bk _ hz)) h1.2⟩
   rcases(xU lt).1 hz with rfl|hz
   ·exact hy
   ·exact h1.1 z hz
  ·rw[List.takeWhile_cons_of_neg (p:=fun y=>lt y x) hy,List.dropWhile_cons_of_neg (p:=fun y=>lt y x) hy,j9]
   have hxy:=(hx y (bl ..)).resolve_left hy
   refine gN.2 ⟨fun z hz=>?_,h⟩
   rcases cE.1 hz with rfl|hz
   ·exact hxy
   ·exact tr _ _ _ hxy (h1.1 z hz)
theorem vK (tr:∀a b c,lt a b=true→lt b c=true→lt a c=true):∀{raw p:List α},(p.Pairwise fun a b=>lt a b=true)→(∀a∈p,∀b∈raw,lt a b=true∨lt b a=true)→(raw.Pairwise fun a b=>lt a b=true∨lt b a=true) →
  ((raw.foldl (AR lt) p).Pairwise fun a b=>lt a b=true)∧∀z,z∈raw.foldl (AR lt) p↔z∈p∨z∈raw
 | [],p,hp,_,_=>⟨hp,fun z=>by simp⟩
 | x::raw,p,hp,hc,hr=>by
  have h1:=gN.1 hr
  have h2:=wq lt tr (x:=x) (fun y hy=>hc y hy x (bl ..)) hp
  obtain⟨h3,h4⟩:=vK tr h2 (raw:=raw) (fun a ha b hb=>by
   rcases(xU lt).1 ha with rfl|ha
   ·exact h1.1 b hb
   ·exact hc a ha b (bk _ hb)) h1.2
  refine⟨h3,fun z=>?_⟩
  rw[iw,h4,xU,cE]
  constructor
  ·rintro((h|h)|h)
   ·exact .inr (.inl h)
   ·exact .inl h
   ·exact .inr (.inr h)
  ·rintro(h|h|h)
   ·exact .inl (.inr h)
   ·exact .inl (.inl h)
   ·exact .inr h
theorem AQ (Sq:∀a b,lt a b=true→lt b a=true→False) (Tt:∀a b c,lt b a=false→lt c b=false→lt c a=false) {l:List α} (hl:l.Pairwise fun a b=>lt a b=true∨lt b a=true) :
  (l.mergeSort fun x y=>!lt y x).Pairwise fun a b=>lt a b=true:=by
 have h1:=List.pairwise_mergeSort (le:=fun x y=>!lt y x) (fun a b c h1 h2=>by simp only[kD]at *;exact Tt a b c h1 h2) (fun a b=>by
  cases h:lt b a with
  | false=>rfl
  | true=>
   cases h2:lt a b with
   | false=>rfl
   | true=>exact(Sq _ _ h h2).elim) l
 have h2:(l.mergeSort fun x y=>!lt y x).Pairwise fun a b=>lt a b=true∨lt b a=true:=
  (gB l _).symm.pairwise hl fun h=>h.symm
 refine(h1.and h2).imp fun{a b} h=>?_
 have h3:lt b a=false:=by simpa using h.1
 rcases h.2 with h4|h4
 ·exact h4
 ·rw[h3]at h4;cases h4
theorem Ia (tr:∀a b c,lt a b=true→lt b c=true→lt a c=true) (Sq:∀a b,lt a b=true→lt b a=true→False) (Tt:∀a b c,lt b a=false→lt c b=false→lt c a=false) {l:List α} (hl:l.Pairwise fun a b=>lt a b=true∨lt b a=true) :
  l.foldl (AR lt) []=l.mergeSort fun x y=>!lt y x:=by
 obtain⟨h1,h2⟩:=vK lt tr (raw:=l) (p:=[]) jq (by simp) hl
 refine mP (lt:=fun a b=>lt a b=true) Sq h1 (AQ lt Sq Tt hl) fun x=>?_
 rw[h2,me]
 simp
end generic
theorem Kn {xs ys zs:List Int} (h1:xs.length=ys.length) (h2:ys.length=zs.length) (h:¬mu ys xs<0) (h':¬mu zs ys<0):¬mu zs xs<0:=fun hc=>by
 rcases ry h1 with h3|h3|h3
 ·rcases ry h2 with h4|h4|h4
  ·exact tC (mZ h3 h4) hc
  ·rw[h4]at h3
   exact tC h3 hc
  ·exact h' h4
 ·rw[←h3]at h'
  exact h' hc
 ·exact h h3
theorem Fc {l:List bE} (h:(l.map (·.d)).Nodup):l.foldl (AR gW) []=sortDone l:=by
 refine Ia gW (fun _ _ _=>uW) (fun _ _=>nX) (fun a b c h1 h2=>?_) ((fU.1 h).imp fun{a b} hne=>?_)
 ·have h3:¬mu (iq b) (iq a)<0:=fun hc=>by rw[jr.2 hc]at h1;cases h1
  have h4:¬mu (iq c) (iq b)<0:=fun hc=>by rw[jr.2 hc]at h2;cases h2
  exact Bool.eq_false_iff.2 fun hc=>Kn (xs:=iq a) (ys:=iq b) (zs:=iq c) rfl rfl h3 h4 (jr.1 hc)
 ·rcases tS a b with h1|h1|h1
  ·exact .inl h1
  ·exact absurd (rM h1) hne
  ·exact .inr h1
end Go.Sx
end
section
namespace Go.Sx
open Go
theorem cm.Oo {w:World} {S:Nat→Prop} {a:Option Addr} {n c k:Nat} {rows:List (List D)} (h:cm w S (.slice a n c) (.sl k rows)) (i:Nat) (hi:i≤rows.length):cm w S (.slice a i c) (.sl k (rows.take i)):=by
 cases h with
 | nil=>
  obtain rfl:i=0:=by simpa using hi
  exact .nil
 | sl u hb hS hc hk hl hcell mL=>
  have:=cm.sl (rows:=rows.take i) u hb hS (aZ (by rw[bp];exact Nat.min_le_right ..) hc) hk (fun row hr=>hl row (jo hr)) (fun j q hj hq=>hcell j q (by rw[bp]at hj;omega) hq) (fun j q row d hj hd=>mL j q row d (by
   rw[cL]at hj
   split at hj
   ·exact hj
   ·cases hj) hd)
  have e:(rows.take i).length=i:=by rw[bp];omega
  rw[e]at this
  exact this
theorem cm.QO {w:World} {S:Nat→Prop} {b off n c k:Nat} {rows:List (List D)} (h:cm w S (.slice (some ⟨b,off,none⟩) n c) (.sl k rows)) (i:Nat) (hi:i≤rows.length):cm w S (.slice (some ⟨b,off+i*k,none⟩) (n - i) (c - i)) (.sl k (rows.drop i)):=by
 cases h with
 | nil=>
  obtain rfl:i=0:=by simpa using hi
  exact .nil
 | sl u hb hS hc hk hl hcell mL=>
  have:=cm.sl (rows:=rows.drop i) (off:=off+i*k) (cap:=c - i) (fun j q=>u (i+j) q) hb hS (by rw[gm];omega) hk (fun row hr=>hl row (List.mem_of_mem_drop hr)) (fun j q hj hq=>by
   have h1:=hcell (i+j) q (by rw[gm]at hj;omega) hq
   rw[←h1,jR]
   congr 1
   omega) (fun j q row d hj hd=>mL (i+j) q row d (by rw[cq]at hj;exact hj) hd)
  rwa[gm]at this
theorem cm.Oq {β:Type} {enc:β→List D} {l:List β} {w:World} {S:Nat→Prop} {a:Option Addr} {n c k:Nat} (h:cm w S (.slice a n c) (.sl k (l.map enc))) (i:Nat) (hi:i≤l.length):cm w S (.slice a i c) (.sl k ((l.take i).map enc)):=by
 rw[jt]
 exact h.Oo i (by rw[aA];exact hi)
theorem cm.QS {β:Type} {enc:β→List D} {l:List β} {w:World} {S:Nat→Prop} {b off n c k:Nat} (h:cm w S (.slice (some ⟨b,off,none⟩) n c) (.sl k (l.map enc))) (i:Nat) (hi:i≤l.length):cm w S (.slice (some ⟨b,off+i*k,none⟩) (n - i) (c - i)) (.sl k ((l.drop i).map enc)):=by
 rw[List.map_drop]
 exact h.QO i (by rw[aA];exact hi)
theorem cm.cap {w:World} {S:Nat→Prop} {a:Option Addr} {n c k:Nat} {rows:List (List D)} (h:cm w S (.slice a n c) (.sl k rows)):n≤c:=by
 cases h with
 | nil=>exact eo _
 | sl u hb hS hc=>exact hc
end Go.Sx
end
section
namespace Go.Sx
open Go
structure Gl where
 i:Int
 es:Array MapEntry
 clock:Nat
 ks:List ByteArray
 F:ByteArray→Value
 KP:Array MapEntry
 rP:Nat
end Go.Sx
namespace Go.Proofs.YtmkapocibaojdaaGreatDoor
open Go Go.Sx
def qQ (L:List fG) (c:bO) (i:Nat):Nat:=match c.ops[i]? with
 | none=>0
 | some o=>if iV c o∈L.map ku then 6 else 0
def e8 (p:Nat) (base:List Int) (L:List fG) (c:bO):FT:=
 if (aY c).code≠0 then aY c
 else if c.when.length≠p then ⟨3,-1⟩
 else if lF c.when base=true then ⟨9,-1⟩
 else oZ (qQ L c) c.ops.length 0
def eM (c:bO) (l:List fP):List fG:=l.map fun o=>⟨c.when,c.place,o⟩
theorem zN (A:List fG) (q:fG) (t:ByteArray):ey (A++[q]) t=ey A t++if q.op.key=t then [lI q]else []:=by
 rw[ey,ey,dm,bw]
 congr 1
 by_cases h:q.op.key=t <;> simp[h]
theorem xP (A:List fG) (t:ByteArray):(ey A t).length≤A.length:=by
 rw[ey,aA]
 exact cH _ _
set_option maxHeartbeats 4000000 in
theorem GQ {w:World} {S:Nat→Prop} {a1 a2:Option Addr} {n1 c1 n2 c2:Nat} {c:bO} {o:fP} {v:Value} (ov:v.oneCell'=true) (h1:cm w S (.slice a1 n1 c1) (aS c.when)) (M8:0≤c.place) (hp1:c.place<c.when.length) :
  Calls Tryz.prog 145 #[.agg #[.slice a1 n1 c1,.int .i64 c.place,.slice a2 n2 c2],LH o v] w fun e w'=>cQ [] w S w' e (F1 (iV c o)) [] []:=by
 obtain rfl:=dJ h1
 refine jL Tryz.func145 RG (args:=[.agg #[.slice a1 c.when.length c1,.int .i64 c.place,.slice a2 n2 c2],LH o v]) (S:=S) (G:=[(_,aS c.when)]) (by kernel_rfl) (.cons h1 (.nil _ _)) ?_
 obtain⟨t,ht⟩:∃t,c.when[c.place.toNat]?=some t:=⟨_,ak (by omega)⟩
 have hd:iV c o=⟨c.place,t,o.no⟩:=by simp[iV,aO,ht]
 refine gr 0 rfl c.place.toNat (dD ht) (by kernel_rfl) (fun b1 fu uf vi vm ha1 cP=>?_)
 cases ha1
 have cg:=oO (cP 0 _ rfl)
 try simp only[aQ]
 refine Zv [.wr 0 [] 0,.wr 1 [] 0,.wr 2 [] 0] [] [0,1] (fun aN=>[zP 2 (aN 0),zP 3 (aN 1),zP 4 (aN 2)]) o0 (fun aN=>[(aN 0,.cells #[.slice (sA b1 fu) c.when.length c1,nI c.place,.slice a2 n2 c2] 35 (0,0)),(aN 1,.cells #[nI o.no,.string o.key,nI o.kind,.string o.text,nI o.n,.bool o.remove,v] 55 (0,0)),(aN 2,.cells #[nI 0,nI 0,nI 0] 177 (0,0))]) (fun aN=>?_)
 refine aq ?_
 all_goals first|assumption|skip
 refine Zn [zR 0,.rd 1 [.o 0 none] 0 0,zR 2,.rd 3 [.o 0 none] 0 0,zR 4,.rd 5 [.o 0 none] 0 0,.rd 6 [] 0 2,.rd 7 [.r 0 (some (nI t))] 0 0,zR 8,.rd 9 [.o 1 none] 0 0,zR 10,.wr 11 (ek 2 3) 0] [(11,[2])] [2,3] (fun _=>[]) (fun _=>[(2,.cells #[nI c.place,nI t,nI o.no] 177 (0,0))]) o0 (fun _=>(oC M8 (oC hp1 (oC cg oN)))) (fun _=>?_)
 refine Yr [(ek 2 3)] (.agg #[nI c.place,nI t,nI o.no]) fun a w s=>?_
 rw[hd]
 exact s.ret (by simp) [] [] rfl rfl
set_option maxHeartbeats 4000000 in
theorem SA {w:World} {S:Nat→Prop} {M:List Nat} {er:Nat→Addr} {eb:Nat→Array Value×TypeId} {b mk md:Nat} {ba a1 a2:Option Addr} {p nb cb n1 c1 n2 c2 clock:Nat} {base:List Int} {es:Array MapEntry} {ks:List ByteArray} {F:ByteArray→Value} {L:List fG} {c:bO} (hC:cm w S .nilIface (dC er eb))
  (hP:Pre w S M [bL b (.cells #[.int .i64 p,.slice ba nb cb,.map (some mk),.map (some md)] 218 (0,0)),bL mk (.map es clock),cA (ks.map fun t=>aT (F t) 35 3 ((ey L t).map eW)),eX md dA (cI (L.map ku))])
  (hb:cm w S (.slice ba nb cb) (aS base)) (DF:b8 base=0) (AZ:base.length=p) (h1:cm w S (.slice a1 n1 c1) (aS c.when)) (h2:cm w S (.slice a2 n2 c2) (.sl 7 (c.ops.map fe))) (ja:c.when.length≤1000000) (kS:c.ops.length≤1000000) (qE:∀o∈c.ops,o.bF.length≤1000000) (hL:L.length≤1000000)
  (hm:fM (MapKept.IsKey .string) es (mB ks F)) (hst:MapKept.Stamped es clock) (hnd:ks.Nodup) (k7:∀t,t∈ks↔ey L t≠[]) :
  Calls Tryz.prog 86 #[.pointer (some ⟨b,0,none⟩),.agg #[.slice a1 n1 c1,.int .i64 c.place,.slice a2 n2 c2]] w fun e w'=>
   ((e8 p base L c).code≠0∧∃v G,cQ M w S w' e v [bL b (.cells #[.int .i64 p,.slice ba nb cb,.map (some mk),.map (some md)] 218 (0,0)),bL mk (.map es clock),cA (ks.map fun t=>aT (F t) 35 3 ((ey L t).map eW)),eX md dA (cI (L.map ku))] G ∧
    (((e8 p base L c).at' = -1∧lq 390 er (e8 p base L c).code v∧G=[])∨(1≤(e8 p base L c).code∧0≤(e8 p base L c).at'∧∃pb,v=.iface 202 (.pointer (some ⟨pb,0,none⟩))∧G=[(.pointer (some ⟨pb,0,none⟩),.ptr [.v (.int .i64 (e8 p base L c).at'),.v (.iface 390 (.pointer (some (er (e8 p base L c).code))))])]))) ∨
   ((e8 p base L c).code=0∧∃es' clock' ks' F',cQ M w S w' e .nilIface [bL b (.cells #[.int .i64 p,.slice ba nb cb,.map (some mk),.map (some md)] 218 (0,0)),bL mk (.map es' clock'),cA (ks'.map fun t=>aT (F' t) 35 3 ((ey (L++eM c c.ops) t).map eW)),eX md dA (cI ((L++eM c c.ops).map ku))] [] ∧
    fM (MapKept.IsKey .string) es' (mB ks' F')∧MapKept.Stamped es' clock'∧ks'.Nodup∧∀t,t∈ks'↔ey (L++eM c c.ops) t≠[]):=by
 obtain rfl:=dJ h1
 obtain rfl:=dJ hb
 subst AZ
 have e2:=h2.pA
 rw[aA]at e2
 subst e2
 refine pW Tryz.func86 UM (args:=[.pointer (some ⟨b,0,none⟩),.agg #[.slice a1 c.when.length c1,.int .i64 c.place,.slice a2 c.ops.length c2]]) (S:=S) (G:=[(_,dC er eb),(_,aS c.when),(_,.sl 7 (c.ops.map fe)),(_,aS base)]) (by kernel_rfl) hP (.cons hC (.cons h1 (.cons h2 (.cons hb (.nil _ _))))) ?_
 refine fh 0 rfl ?_
 refine bH (ij 0 [2,8,5] rfl rfl) ?_
 refine di 4 rfl (fun ni mW ng dh=>?_)
 refine di 5 rfl (fun uY uq uS gu=>?_)
 refine di 6 rfl (fun IK G2 IB pE=>?_)
 try simp only[aQ]
 refine Zv [.wr 0 [] 0,zR 1] [] [1] (fun aN=>[zP 3 (aN 0),zV 4 .nilIface]) o0 (fun aN=>[(aN 0,.cells #[.slice a1 c.when.length c1,nI c.place,.slice a2 c.ops.length c2] 35 (0,0))]) (fun aN=>?_)
 refine aq ?_
 refine jS [(0,true),(1,false),(2,true)] [] ?_
 refine Ya [.rd 0 (ek 1 3) 0 0] [] [zV 13 (.agg #[.slice a1 c.when.length c1,nI c.place,.slice a2 c.ops.length c2])] ?_
 refine Yc 85 #[.agg #[.slice a1 c.when.length c1,nI c.place,.slice a2 c.ops.length c2]] (some 14) fun w S hG=>?_
 refine(pg (c:=c) (hG.at 0 rfl) (hG.at 1 rfl) (hG.at 2 rfl) ja kS).mono ?_
 rintro e1 w1 (⟨ha,v,hR,hv⟩|⟨zb,h0,pb,hR⟩)
 case inr=>
  have hpf:e8 base.length base L c=aY c:=by rw[e8,if_pos (by omega)]
  rw[hpf]
  refine⟨_,_,_,hR,?_⟩
  try simp only[aQ]
  refine Ya [zR 2] [14,13] [zV 5 (.iface 202 (.pointer (sA pb 0)))] ?_
  refine aC ?_
  refine Zs [zR 0,zR 1] [] [zB 16 true] ?_
  refine gR ?_
  refine Zs [zR 0,zR 1] [16,5] [zV 4 (.iface 202 (.pointer (sA pb 0)))] ?_
  refine Yr [[]] (.iface 202 (.pointer (sA pb 0))) fun a w s=>?_
  exact .inl ⟨by omega,_,_,(s.dY 0 rfl).ret (by simp) [3,0,1,2] [7] rfl rfl,.inr ⟨zb,h0,pb,rfl,rfl⟩⟩
 refine⟨_,_,_,hR,?_⟩
 obtain⟨nc,rfl⟩|⟨nc,rfl⟩:=hv
 case inr=>
  have hpf:e8 base.length base L c=aY c:=by rw[e8,if_pos nc]
  rw[hpf]
  try simp only[aQ]
  refine Ya [zR 2] [14,13] [zV 5 (.iface 390 (.pointer (some (er (aY c).code))))] ?_
  refine aC ?_
  refine Zs [zR 0,zR 1] [] [zB 16 true] ?_
  refine gR ?_
  refine Zs [zR 0,zR 1] [16,5] [zV 4 (.iface 390 (.pointer (some (er (aY c).code))))] ?_
  refine Yr [[]] (.iface 390 (.pointer (some (er (aY c).code)))) fun a w s=>?_
  exact .inl ⟨nc,_,_,(s.dY 0 rfl).ret (by simp) [3,0,1,2] [] rfl rfl,.inl ⟨ha,.inr ⟨nc,rfl⟩,rfl⟩⟩
 have hrc:=iy nc
 by_cases xZ:c.when.length=base.length
 case neg=>
  have hpf:e8 base.length base L c=⟨3,-1⟩:=by rw[e8,if_neg (by simp[nc]),if_pos xZ]
  have TC:¬(c.when.length:Int)=base.length:=by omega
  rw[hpf]
  try simp only[aQ]
  refine Ya [zR 2] [14,13] [zV 5 .nilIface] ?_
  refine aC ?_
  refine Zs [zR 0,zR 1] [] [zB 16 false] ?_
  refine cF ?_
  refine aG (aq ?_)
  refine Zt ([zR 0,.rd 1 [.o 1 none] 0 0]++bh 2 6++[.rd 6 [.o 0 none] 0 0,.rd 7 [] 0 6]) [16,5] [zB 25 true] (oC (show((↑c.when.length:Int) != (↑base.length:Int))=true from by simp;omega) oN) ?_
  refine gR ?_
  refine Zt [.rd 0 [.r 0 (some (.iface 390 (.pointer (some (er 3)))))] 0 0,zR 1] [25] [zV 4 (.iface 390 (.pointer (some (er 3))))] (oC dh oN) ?_
  refine Yr [[]] (.iface 390 (.pointer (some (er 3)))) fun a w s=>?_
  exact .inl ⟨by decide,_,_,(s.dY 0 rfl).ret (by simp) [3,0,1,2] [] rfl rfl,.inl ⟨by first|rfl|trivial,.inr ⟨by decide,rfl⟩,rfl⟩⟩
 have MZ:iQ c.when base=0:=by rw[iQ,if_neg (by simp[hrc.vec]),if_neg (by simp[DF]),if_neg (by simp[xZ])]
 have hvl:=jV DF
 have TC:(c.when.length:Int)=base.length:=by omega
 try simp only[aQ]
 refine Ya [zR 2] [14,13] [zV 5 .nilIface] ?_
 refine aC ?_
 refine Zs [zR 0,zR 1] [] [zB 16 false] ?_
 refine cF ?_
 refine aG (aq ?_)
 refine Zt ([zR 0,.rd 1 [.o 1 none] 0 0]++bh 2 6++[.rd 6 [.o 0 none] 0 0,.rd 7 [] 0 7]) [16,5] [zB 25 false] (oC (show((↑c.when.length:Int) != (↑base.length:Int))=false from by simp;omega) oN) ?_
 refine cF ?_
 refine aG (aq ?_)
 refine jS [(0,true),(1,true),(2,true),(3,true),(4,true),(5,true),(6,false),(7,true),(8,true),(9,true),(10,true),(11,true)] [] ?_
 refine Ya ([zR 0,.rd 1 [.o 1 none] 0 0]++bh 2 5++[.rd 5 [.o 0 none] 0 0]) [25] [zS 29 a1 c.when.length c1,zS 33 ba base.length cb] ?_
 refine Yc 100 #[.slice a1 c.when.length c1,.slice ba base.length cb] (some 34) fun w S hG=>?_
 refine(uk (kL (hG.at 0 rfl)) (hG.at 1 rfl) (hG.at 3 rfl) ja (by omega)).mono ?_
 rintro e2 w2 (⟨If,_⟩|⟨_,hR⟩)
 ·exact absurd MZ If
 refine⟨_,_,_,hR,?_⟩
 cases hin:lF c.when base with
 | true=>
  have hpf:e8 base.length base L c=⟨9,-1⟩:=by rw[e8,if_neg (by simp[nc]),if_neg (by simp[xZ]),if_pos hin]
  rw[hpf]
  try simp only[aQ]
  refine Ya (bh 7 12) [34,29,33] [zB 6 true] ?_
  refine aC ?_
  refine Zs [zR 0] [6] [zB 37 true] ?_
  refine gR ?_
  refine Zt [.rd 0 [.r 1 (some (.iface 390 (.pointer (some (er 9)))))] 0 0,zR 1] [37] [zV 4 (.iface 390 (.pointer (some (er 9))))] (oC gu oN) ?_
  refine Yr [[]] (.iface 390 (.pointer (some (er 9)))) fun a w s=>?_
  exact .inl ⟨by decide,_,_,(s.dY 0 rfl).ret (by simp) [3,0,1,2] [] rfl rfl,.inl ⟨by first|rfl|trivial,.inr ⟨by decide,rfl⟩,rfl⟩⟩
 | false=>
  have hpf:e8 base.length base L c=oZ (qQ L c) c.ops.length 0:=by rw[e8,if_neg (by simp[nc]),if_neg (by simp[xZ]),if_neg (by simp[hin])]
  rw[hpf]
  try simp only[aQ]
  refine Ya (bh 7 12) [34,29,33] [zB 6 false] ?_
  refine aC ?_
  refine Zs [zR 0] [6] [zB 37 false] ?_
  refine cF ?_
  refine aG (aq (aq ?_))
  refine ud 2 rfl fun KP rP GG=>?_
  refine Nm [bL mk (Obj.map es clock),(cA (aj (fun t=>aT (F t) 35 3 (aj eW (ey L t))) ks))] ?_
  refine Za [zR 0,.rd 1 [.o 1 none] 0 0,zR 2,zR 3] [37] [zS 40 a2 c.ops.length c2,zI 41 (↑c.ops.length:Int),zI 42 0] ?_
  refine aM ?_
  refine cU (fun i:Int=>[zP 0 b,zP 3 (aN 0),zV 4 .nilIface,zS 40 a2 c.ops.length c2,zI 41 (↑c.ops.length:Int),zI 42 i]) (fun i:Int=>[(b,.cells #[nI (↑base.length:Int),.slice ba base.length cb,.map (some mk),.map (some md)] 218 (0,0)),(aN 0,.cells #[.slice a1 c.when.length c1,nI c.place,.slice a2 c.ops.length c2] 35 (0,0)),(md,Obj.map KP rP)]) (fun i:Int=>[bL mk (.map es clock),cA (ks.map fun t=>aT (F t) 35 3 ((ey L t).map eW))]) (fun i:Int=>[(.nilIface,(dC er eb)),(.slice a1 c.when.length c1,(aS c.when)),(.slice a2 c.ops.length c2,(D.sl 7 (aj fe c.ops))),(.slice ba base.length cb,(aS base)),(.pointer (sA 1 0),(D.ptr [D.v (Value.iface 390 (Value.pointer (some (er 3))))])),(.pointer (sA 5 0),(D.ptr [D.v (Value.iface 390 (Value.pointer (some (er 9))))])),(.pointer (sA 9 0),(D.ptr [D.v (Value.iface 390 (Value.pointer (some (er 6))))]))]) (fun i:Int=>(c.ops.length - i).toNat) (fun i:Int=>(0≤i∧i≤c.ops.length∧∀j:Nat,j<i.toNat→qQ L c j=0)) 0 [0,3,4,40,41,42] [0,1,2] [0,1] [0,1,2,3,4,5,6] ?_ (by kernel_rfl) rfl rfl rfl ?_
  ·exact⟨by simp,by simp,by simp⟩
  rintro i ⟨hi0,hi,hex⟩
  refine Zs [zR 0] [] [zB 43 (decide (i<(↑c.ops.length:Int)))] ?_
  refine aq ?_
  refine cC (t:=decide (i<(↑c.ops.length:Int))) (fun hlt=>?_) (fun hlt=>?_)
  ·have fa:i<c.ops.length:=by simpa using hlt
   obtain⟨o,ho⟩:∃o,c.ops[i.toNat]?=some o:=⟨_,ak (by omega)⟩
   refine j0 2 rfl i.toNat (dD ho) (by kernel_rfl) (fun b1 fu uf vi vm fg cJ ha1 cP=>?_)
   cases ha1
   have cg:=oO (cP 0 _ rfl)
   have gJ:=cP 1 _ rfl
   have gV:=cP 2 _ rfl
   have jH:=cP 3 _ rfl
   have jG:=cP 4 _ rfl
   have jF:=cP 5 _ rfl
   have jE:=cP 6 _ rfl
   try simp only[aQ]
   refine aG (aq (aM ?_))
   refine Zu [zR 0,.rd 1 [] 0 2,.rd 2 [.r 3 (some (nI o.no)),.r 3 (some (.string o.key)),.r 3 (some (nI o.kind)),.r 3 (some (.string o.text)),.r 3 (some (nI o.n)),.r 3 (some (.bool o.remove)),.r 3 (some (.slice (fg,cJ).fst ((aj bK o.bF).length) cJ))] 0 0,.wr 3 [] 0,zR 4,.wr 5 (ek 3 7) 0] [(5,[])] [43] (fun dy=>[zI 8 i,zP 9 (dy 0)]) o0 (fun dy=>[(dy 0,.cells #[nI o.no,.string o.key,nI o.kind,.string o.text,nI o.n,.bool o.remove,.slice (fg,cJ).fst ((aj bK o.bF).length) cJ] 55 (0,0))]) (fun dy=>(oC hi0 (oC fa (oC cg (oC gJ (oC gV (oC jH (oC jG (oC jF (oC jE oN)))))))))) (fun dy=>?_)
   refine jS [(0,true),(1,true),(2,true),(3,true),(4,true),(5,true),(6,false),(7,true)] [] ?_
   refine Ya (bh 0 3++[.rd 3 [.o 0 none] 0 0,.rd 4 (ek 1 3) 0 0,.rd 5 (ek 3 7) 0 0]) [] [zV 50 (.map (some md)),zV 51 (.agg #[.slice a1 c.when.length c1,nI c.place,.slice (sA b1 fu) c.ops.length c2]),zV 52 (.agg #[nI o.no,.string o.key,nI o.kind,.string o.text,nI o.n,.bool o.remove,.slice (fg,cJ).fst ((aj bK o.bF).length) cJ])] ?_
   refine Yc 145 #[.agg #[.slice a1 c.when.length c1,nI c.place,.slice (sA b1 fu) c.ops.length c2],.agg #[nI o.no,.string o.key,nI o.kind,.string o.text,nI o.n,.bool o.remove,.slice (fg,cJ).fst ((aj bK o.bF).length) cJ]] (some 53) fun w S hG=>?_
   refine(GQ (c:=c) (o:=o) rfl (hG.at 1 rfl) hrc.p0 hrc.p1).mono ?_
   rintro e3 w3 hR
   refine⟨_,_,_,hR,?_⟩
   refine gK (.o 2 none) md 216 177 4 dA (.agg #[.int .i64 ((iV c o).place),.int .i64 ((iV c o).time),.int .i64 ((iV c o).no)]) (.bool false) false (some 54) (by kernel_rfl) (by kernel_rfl) (by kernel_rfl) jC (by first|exact⟨_,_,_,rfl⟩|simp[MapKept.IsKey]) (by kernel_rfl) rfl GG (fun hno=>?_) (fun v hv=>?_)
   ·have hnd:iV c o∉L.map ku:=fun h=>by
     rw[oh h]at hno
     cases hno
    have hz:qQ L c i.toNat=0:=by simp[qQ,ho,hnd]
    try simp only[aQ]
    refine aC ?_
    refine cF ?_
    refine aG (eu ?_)
    refine Zp [.rd 0 [] 0 1,zR 1] [54] [zI 42 (i+1)] (oC (show IntKind.i64.wrap (i+1)=i+1 from wrap_i64 (by omega) (by omega)) oN) ?_
    refine bC (i+1) [0,3,4,40,41,42] [0,1,2] [0,1] [0,1,2,3,4,5,6] ?_ ?_ (by kernel_rfl) rfl rfl rfl
    ·refine⟨by omega,by omega,fun j hj=>?_⟩
     by_cases uO:j=i.toNat
     ·rw[uO]
      exact hz
     ·exact hex j (by omega)
    ·omega
   ·have Ky:iV c o∈L.map ku:=bU fun h=>by
     rw[tQ h]at hv
     cases hv
    rw[oh Ky]at hv
    cases hv
    have hz:qQ L c i.toNat=6:=by simp[qQ,ho,Ky]
    have hsc:oZ (qQ L c) c.ops.length 0=⟨6,i⟩:=by
     rw[(lZ c.ops.length 0 i.toNat (eo _) fun j _ hj=>hex j hj).2 (by omega) (by omega),hz]
     congr 1
     omega
    rw[hsc]
    try simp only[aQ]
    refine aC ?_
    refine gR ?_
    refine Zu [zR 0,.rd 1 [.r 2 (some (.iface 390 (.pointer (some (er 6)))))] 0 0,zR 2,.wr 3 [] 0,zR 4,zR 5] [] [54] (fun eR=>[zV 4 (.iface 202 (.pointer (sA (eR 0) 0)))]) o0 (fun eR=>[(eR 0,.cells #[nI i,.iface 390 (.pointer (some (er 6)))] 204 (0,0))]) (fun eR=>(oC pE oN)) (fun eR=>?_)
    refine Yr [[]] (.iface 202 (.pointer (sA (eR 0) 0))) fun a w s=>?_
    exact .inl ⟨by decide,_,_,(((((s.share 4 rfl).jz (fB fun w S H=>l6 rfl rfl (H (_,_) (ae (i:=8) rfl)))).dY 0 rfl).dY 1 rfl).jz (j4 3 rfl (oB GG))).ret (by simp) [2,0,1,3] [9] rfl rfl,.inr ⟨by decide,hi0,_,rfl,rfl⟩⟩
  ·have vM:i=c.ops.length:=by simp at hlt;omega
   subst vM
   have hsc:(oZ (qQ L c) c.ops.length 0).code=0:=by
    rw[(lZ c.ops.length 0 c.ops.length (eo _) fun j _ hj=>hex j (by omega)).1 (by omega)]
   refine dO rfl ?_
   refine jS [(0,true),(1,false),(2,false)] [] ?_
   refine Ya [.rd 0 (ek 1 3) 0 0] [43,40,41,42] [zV 61 (.agg #[.slice a1 c.when.length c1,nI c.place,.slice a2 c.ops.length c2])] ?_
   refine Yc 84 #[.agg #[.slice a1 c.when.length c1,nI c.place,.slice a2 c.ops.length c2]] (some 62) fun w S hG=>?_
   refine(Ol (c:=c) (hG.at 1 rfl) (hG.at 2 rfl) ja kS qE).mono ?_
   rintro e3 w3 ⟨u1,d1,u2,d2,hR⟩
   refine⟨_,_,_,hR,?_⟩
   try simp only[aQ]
   refine Ym [.wr 2 (ek 1 3) 0] [62,61] (fun _=>[]) (fun _=>[(1,.cells #[.slice u1 c.when.length d1,nI c.place,.slice u2 c.ops.length d2] 35 (0,0))]) o0 [] (fun _=>?_)
   refine aC (aq (aq ?_))
   refine b9 (rf (p:=c.ops.length≤d2) fun _ _ H=>(H.g (_,_) (ae (i:=8) rfl)).cap) fun _ JG=>?_
   refine b9 (rf (p:=∃bq oq,u2=some ⟨bq,oq,none⟩) fun _ _ H=>cm.Ou (H.g (.slice u2 c.ops.length d2,.sl 7 (c.ops.map fe)) (ae (i:=8) rfl)) (fun h=>by rw[cM]at h;have:=hrc.o1;rw[h]at this;simp at this)) fun _ Jz=>?_
   obtain⟨bq,oq,rfl⟩:=Jz
   refine fh 0 rfl ?_
   have eK:(fun t=>aT (F t) 35 3 ((ey L t).map eW))=fun t=>aT (F t) 35 3 ((ey (L++eM c (c.ops.take (0:Int).toNat)) t).map eW):=by simp[eM]
   rw[eK]
   refine Nm [(cA (aj (fun t=>aT (F t) 35 3 (aj eW (ey (L++eM c (bZ (nj 0) c.ops)) t))) ks))] ?_
   refine Za [zR 0,.rd 1 [.o 1 none] 0 0,zR 2,zR 3] [] [zS 64 (sA bq oq) c.ops.length d2,zI 65 (↑c.ops.length:Int),zI 66 0] ?_
   refine aM ?_
   refine cU (fun y:Gl=>[zP 0 b,zP 3 (aN 0),zV 4 .nilIface,zS 64 (sA bq oq) c.ops.length d2,zI 65 (↑c.ops.length:Int),zI 66 y.i]) (fun y:Gl=>[(b,.cells #[nI (↑base.length:Int),.slice ba base.length cb,.map (some mk),.map (some md)] 218 (0,0)),(aN 0,.cells #[.slice u1 c.when.length d1,nI c.place,.slice (sA bq oq) c.ops.length d2] 35 (0,0)),(md,.map y.KP y.rP),(mk,.map y.es y.clock)]) (fun y:Gl=>[cA (y.ks.map fun t=>aT (y.F t) 35 3 ((ey (L++eM c (c.ops.take y.i.toNat)) t).map eW))]) (fun y:Gl=>[(.nilIface,(dC er eb)),(.slice a1 c.when.length c1,(aS c.when)),(.slice a2 c.ops.length c2,(D.sl 7 (aj fe c.ops))),(.slice ba base.length cb,(aS base)),(.pointer (sA 1 0),(D.ptr [D.v (Value.iface 390 (Value.pointer (some (er 3))))])),(.pointer (sA 5 0),(D.ptr [D.v (Value.iface 390 (Value.pointer (some (er 9))))])),(.pointer (sA 9 0),(D.ptr [D.v (Value.iface 390 (Value.pointer (some (er 6))))])),(.slice u1 c.when.length d1,(aS c.when)),(.slice (sA bq oq) c.ops.length d2,(D.sl 7 (aj fe c.ops)))]) (fun y:Gl=>(c.ops.length - y.i).toNat) (fun y:Gl=>(0≤y.i∧y.i≤c.ops.length∧fM (MapKept.IsKey .string) y.es (mB y.ks y.F)∧MapKept.Stamped y.es y.clock∧y.ks.Nodup∧(∀t,t∈y.ks↔ey (L++eM c (c.ops.take y.i.toNat)) t≠[])∧fM dA y.KP (cI ((L++eM c (c.ops.take y.i.toNat)).map ku)))) ⟨0,es,clock,ks,F,KP,rP⟩ [0,3,4,64,65,66] [0,1,2,3] [0] [0,1,2,3,4,5,6,7,8] ?_ (by kernel_rfl) rfl rfl rfl ?_
   ·exact⟨by simp,by simp,hm,hst,hnd,by simpa [eM]using k7,by simpa [eM]using GG⟩
   rintro⟨i,F0,nO,CS,F2,QK,NF⟩ ⟨hi0,hi,hmo,uL,tJ,wv,Ql⟩
   dsimp only at hi0 hi hmo uL tJ wv Ql ⊢
   refine Zs [zR 0] [] [zB 67 (decide (i<(↑c.ops.length:Int)))] ?_
   refine aq ?_
   refine cC (t:=decide (i<(↑c.ops.length:Int))) (fun Nf=>?_) (fun Nf=>?_)
   ·have TW:i<c.ops.length:=by simpa using Nf
    obtain⟨o,ho⟩:∃o,c.ops[i.toNat]?=some o:=⟨_,ak (by omega)⟩
    refine j0 8 rfl i.toNat (dD ho) (by kernel_rfl) (fun b1 fu uf vi vm fg cJ ha1 cP=>?_)
    cases ha1
    have cg:=oO (cP 0 _ rfl)
    have gJ:=cP 1 _ rfl
    have gV:=cP 2 _ rfl
    have jH:=cP 3 _ rfl
    have jG:=cP 4 _ rfl
    have jF:=cP 5 _ rfl
    have jE:=cP 6 _ rfl
    try simp only[aQ]
    refine aG (aq (aM ?_))
    refine Zu [zR 0,.rd 1 [] 0 2,.rd 2 [.r 3 (some (nI o.no)),.r 3 (some (.string o.key)),.r 3 (some (nI o.kind)),.r 3 (some (.string o.text)),.r 3 (some (nI o.n)),.r 3 (some (.bool o.remove)),.r 3 (some (.slice (fg,cJ).fst ((aj bK o.bF).length) cJ))] 0 0,.wr 3 [] 0,zR 4,.wr 5 (ek 4 7) 0] [(5,[])] [67] (fun dy=>[zI 10 i,zP 11 (dy 0)]) o0 (fun dy=>[(dy 0,.cells #[nI o.no,.string o.key,nI o.kind,.string o.text,nI o.n,.bool o.remove,.slice (fg,cJ).fst ((aj bK o.bF).length) cJ] 55 (0,0))]) (fun dy=>(oC hi0 (oC TW (oC cg (oC gJ (oC gV (oC jH (oC jG (oC jF (oC jE oN)))))))))) (fun dy=>?_)
    refine jS [(0,true),(1,true),(2,true),(3,true),(4,true),(5,true),(6,false),(7,false)] [(7,[2])] ?_
    refine Ya (bh 0 3++[.rd 3 [.o 0 none] 0 0,.rd 4 (ek 1 3) 0 0,.rd 5 (ek 4 7) 0 0]) [] [zV 74 (.map (some md)),zV 75 (.agg #[.slice u1 c.when.length d1,nI c.place,.slice (sA bq oq) c.ops.length d2]),zV 76 (.agg #[nI o.no,.string o.key,nI o.kind,.string o.text,nI o.n,.bool o.remove,.slice (fg,cJ).fst ((aj bK o.bF).length) cJ])] ?_
    refine Yc 145 #[.agg #[.slice u1 c.when.length d1,nI c.place,.slice (sA bq oq) c.ops.length d2],.agg #[nI o.no,.string o.key,nI o.kind,.string o.text,nI o.n,.bool o.remove,.slice (fg,cJ).fst ((aj bK o.bF).length) cJ]] (some 77) fun w S hG=>?_
    refine(GQ (c:=c) (o:=o) rfl (hG.at 7 rfl) hrc.p0 hrc.p1).mono ?_
    rintro e4 w4 hR
    refine⟨_,_,_,hR,?_⟩
    try simp only[aQ]
    refine qK 2 md 216 177 4 dA (.agg #[.int .i64 ((iV c o).place),.int .i64 ((iV c o).time),.int .i64 ((iV c o).no)]) (.bool true) none (by kernel_rfl) (by kernel_rfl) (by kernel_rfl) jC (by first|exact⟨_,_,_,rfl⟩|simp[MapKept.IsKey]) rfl Ql (fun Uu IU Sa Wx=>?_)
    refine aC ?_
    refine Zv [.rd 0 (ek 1 3) 0 0,.wr 1 [] 0,.wr 2 (ek 5 3) 0] [(2,[])] [] (fun eR=>[zP 12 (eR 0)]) o0 (fun eR=>[(eR 0,.cells #[.slice u1 c.when.length d1,nI c.place,.slice (sA bq oq) c.ops.length d2] 35 (0,0))]) (fun eR=>?_)
    refine Zu [zR 0,.rd 1 [.o 1 none] 0 0,zR 2,zR 3,.rd 4 [] 0 1,.rd 5 [] 0 4,zR 6,.wr 7 [.o 5 none] 0] [(7,[5])] [] (fun _=>[]) (fun _=>[(5,.cells #[.slice u1 c.when.length d1,nI c.place,.slice (sA bq (oq+i.toNat*7)) ((i+1).toNat - i.toNat) (d2 - i.toNat)] 35 (0,0))]) o0 (fun _=>(oC (show IntKind.i64.wrap (i+1)=i+1 from wrap_i64 (by omega) (by omega)) (oC hi0 (oC (show i≤i+1 from by omega) (oC (show i+1≤(↑d2:Int) from by omega) (oC (show i<(↑d2:Int) from by omega) oN)))))) (fun _=>?_)
    have Ny:L++eM c (c.ops.take (i+1).toNat)=(L++eM c (c.ops.take i.toNat))++[⟨c.when,c.place,o⟩]:=by
     rw[←dz hi0 ho,eM,eM,bw,←bY]
     rfl
    have Xq:(L++eM c (c.ops.take i.toNat)).length≤1000020:=by
     have:=hrc.o2
     rw[bA,eM,aA,bp]
     omega
    have hone:(c.ops.drop i.toNat).take 1=[o]:=by
     rw[gD (by omega)]
     have:=(ai.1 ho).2
     simp[this]
    refine bH (fB fun w S H=>(H (_,_) (ae (i:=8) rfl)).QS i.toNat (by omega)) ?_
    have h11:(i+1).toNat - i.toNat=1:=by omega
    rw[h11]
    refine bH (fB fun w S H=>(H (_,_) (ae (i:=10) rfl)).Oq 1 (by rw[gm];omega)) ?_
    rw[hone]
    generalize L++eM c (c.ops.take i.toNat)=A at Ny Xq wv Ql Sa ⊢
    have z6:=xP A o.key
    have Qk:fM dA Uu (cI ((A++[(⟨c.when,c.place,o⟩:fG)]).map ku)):=by
     rw[bw]
     exact Sa.congr (o9 (d:=iV c o))
    have Sb:∀t,t≠o.key→ey (A++[(⟨c.when,c.place,o⟩:fG)]) t=ey A t:=fun t ht=>by
     rw[zN,if_neg fun h=>ht h.symm,bf]
    have hkn:ey (A++[(⟨c.when,c.place,o⟩:fG)]) o.key=ey A o.key++[⟨c.when,c.place,[o]⟩]:=by
     rw[zN,if_pos rfl]
     rfl
    by_cases s7:o.key∈CS
    ·obtain⟨i2,ye⟩:=aJ s7
     refine bH (nr (c:=aT (F2 o.key) 35 3 ((ey A o.key).map eW)) 0 i2 rfl (by rw[aF,ye];rfl)) ?_
     refine b9 (nt 0 rfl) fun y hF=>?_
     obtain⟨av,nv,cv⟩:=y
     obtain⟨hF,hn⟩:=hF
     dsimp only at hF hn
     rw[aA]at hn
     have hnb:nv≤4000000:=by omega
     rw[hF]
     refine Nm [aT (.slice av nv cv) 35 3 (aj eW (ey A o.key)),(cA ((aj (fun t=>aT (F2 t) 35 3 (aj eW (ey A t))) CS).eraseIdx i2))] ?_
     try simp only[aQ]
     refine jT [(0,true),(1,true),(2,true),(3,true),(4,true),(5,true),(6,true),(7,true),(8,true),(9,true),(10,true),(11,true),(12,true),(13,true),(14,false),(15,false),(16,false)] [(15,[]),(16,[3])] ?_
     refine Ya (bh 0 3++[.rd 3 [.o 0 none] 0 0,zR 4,.rd 5 [.o 4 none] 0 0]++bh 6 9++[.rd 9 [.o 0 none] 0 0,zR 10,.rd 11 [.o 4 none] 0 0]) [] [zV 89 (.map (some mk)),zV 91 (.string o.key),zV 95 (.map (some mk)),zV 97 (.string o.key)] ?_
     refine gK (.o 3 none) mk 215 9 153 (MapKept.IsKey TypeDesc.string) (.string o.key) (.slice none 0 0) false (some 98) (by kernel_rfl) (by kernel_rfl) (by kernel_rfl) gC (by first|exact⟨_,_,_,rfl⟩|simp[MapKept.IsKey]) (by kernel_rfl) rfl hmo (fun hno=>?_) (fun v hv=>?_)
     ·rw[gQ s7]at hno
      cases hno
     ·rw[gQ s7,hF]at hv
      cases hv
      refine Ym [.rd 13 (ek 5 3) 0 0,.wr 14 [] 0] [95,97] (fun kR=>[zS 100 (sA (kR 0) 0) 1 1]) o0 (fun kR=>[(kR 0,.cells #[.slice u1 c.when.length d1,nI c.place,.slice (sA bq (oq+i.toNat*7)) 1 (d2 - i.toNat)] 35 (0,0))]) [(15,[]),(16,[3])] (fun kR=>?_)
      refine eY 0 153 35 3 56 (.agg #[.slice none 0 0,.int .i64 0,.slice none 0 0]) (a0:=av) (len:=nv) (iB:=cv) (ax:=(some (⟨kR 0,0,none⟩))) (m:=1) (c:=1) (dst:=(some 101)) [(⟨c.when,c.place,[o]⟩:bO)] (by kernel_rfl) (by kernel_rfl) (by kernel_rfl) (by kernel_rfl) rfl (by decide) rfl (fun _ _ _ s=>fK s 6 rfl rfl ⟨.inr (.inl (ae (i:=7) rfl)),⟨.inl ⟨rfl,rfl⟩,⟨.inr (.inl (ae (i:=11) rfl)),trivial⟩⟩⟩) (by simp only[maxLen];omega) (by omega) (fun gq gp=>?_)
      try simp only[aQ]
      refine qf 3 mk 215 9 153 (MapKept.IsKey TypeDesc.string) (.string o.key) (.slice gq (nv+1) gp) none (by kernel_rfl) (by kernel_rfl) (by kernel_rfl) gC (by first|exact⟨_,_,_,rfl⟩|simp[MapKept.IsKey]) rfl hmo (fun Ut ND DB TG M3=>?_)
      try simp only[aQ]
      refine aC ?_
      try simp only[aQ]
      refine eu ?_
      try simp only[aQ]
      refine Zp [.rd 0 [] 0 1,zR 1] [] [zI 66 (i+1)] (oC (show IntKind.i64.wrap (i+1)=i+1 from wrap_i64 (by omega) (by omega)) oN) ?_
      try simp only[aQ]
      refine Nm [(cA ((aj (fun t=>aT (F2 t) 35 3 (aj eW (ey A t))) CS).eraseIdx i2)),aT (.slice gq (nv+1) gp) 35 3 (aj eW (ey A o.key++[bO.mk c.when c.place [o]]))] ?_
      have Iz:=wN (Q:=fun t=>aT (F2 t) 35 3 ((ey A t).map eW)) (Q':=fun t=>aT (ju F2 o.key (.slice gq (nv+1) gp) t) 35 3 ((ey (A++[(⟨c.when,c.place,o⟩:fG)]) t).map eW)) tJ ye fun s hs=>by
       show aT (ju F2 o.key (.slice gq (nv+1) gp) s) _ 3 ((ey (A++[(⟨c.when,c.place,o⟩:fG)]) s).map eW)=aT (F2 s) _ 3 ((ey A s).map eW)
       rw[qo _ _ hs,Sb s hs]
      refine bH (j3 1 0 i2 (cs':=CS.map fun t=>aT (ju F2 o.key (.slice gq (nv+1) gp) t) 35 3 ((ey (A++[(⟨c.when,c.place,o⟩:fG)]) t).map eW)) rfl rfl (by decide) (by
       rw[aF,ye]
       show some (aT (ju F2 o.key (.slice gq (nv+1) gp) o.key) _ 3 ((ey (A++[(⟨c.when,c.place,o⟩:fG)]) o.key).map eW))=_
       rw[pq,hkn]) Iz) ?_
      rw[←Ny]
      refine Nm [(cA (aj (fun t=>aT (ju F2 o.key (Value.slice gq (nv+1) gp) t) 35 3 (aj eW (ey (L++eM c (bZ (i+1).toNat c.ops)) t))) CS))] ?_
      refine bC ⟨i+1,_,_,CS,ju F2 o.key (.slice gq (nv+1) gp),_,_⟩ [0,3,4,64,65,66] [0,1,2,3] [0] [0,1,2,3,4,5,6,7,8] ?_ ?_ (by kernel_rfl) rfl rfl rfl
      ·refine⟨by simp only;omega,by simp only;omega,DB.congr (xh s7),M3 uL,tJ,fun t=>?_,?_⟩
       ·dsimp only
        rw[Ny]
        by_cases hs:t=o.key
        ·subst hs
         rw[hkn]
         simp[s7]
        ·rw[Sb t hs]
         exact wv t
       ·dsimp only
        rw[Ny]
        exact Qk
      ·simp only
       omega
    ·have Na:ey A o.key=[]:=bU fun h=>s7 ((wv _).2 h)
     refine bH (fO eW 35 3) ?_
     refine Nm [(cA (aj (fun t=>aT (F2 t) 35 3 (aj eW (ey A t))) CS)),aT (.slice none 0 0) 35 3 (aj eW [])] ?_
     try simp only[aQ]
     refine jT [(0,true),(1,true),(2,true),(3,true),(4,true),(5,true),(6,true),(7,true),(8,true),(9,true),(10,true),(11,true),(12,true),(13,true),(14,false),(15,false),(16,false)] [(15,[]),(16,[3])] ?_
     refine Ya (bh 0 3++[.rd 3 [.o 0 none] 0 0,zR 4,.rd 5 [.o 4 none] 0 0]++bh 6 9++[.rd 9 [.o 0 none] 0 0,zR 10,.rd 11 [.o 4 none] 0 0]) [] [zV 89 (.map (some mk)),zV 91 (.string o.key),zV 95 (.map (some mk)),zV 97 (.string o.key)] ?_
     refine gK (.o 3 none) mk 215 9 153 (MapKept.IsKey TypeDesc.string) (.string o.key) (.slice none 0 0) false (some 98) (by kernel_rfl) (by kernel_rfl) (by kernel_rfl) gC (by first|exact⟨_,_,_,rfl⟩|simp[MapKept.IsKey]) (by kernel_rfl) rfl hmo (fun hno=>?_) (fun v hv=>?_)
     ·refine Ym [.rd 13 [.o 5 none,.o 5 none,.o 5 none] 0 0,.wr 14 [] 0] [95,97] (fun kR=>[(100,.val (.slice (some (⟨kR 0,0,none⟩)) 1 1))]) o0 (fun kR=>[(kR 0,.cells #[.slice u1 c.when.length d1,.int .i64 c.place,.slice (some (⟨bq,oq+i.toNat*7,none⟩)) 1 (d2 - i.toNat)] 35 (0,0))]) [(15,[]),(16,[3])] (fun kR=>?_)
      refine eY 1 153 35 3 56 (.agg #[.slice none 0 0,.int .i64 0,.slice none 0 0]) (a0:=none) (len:=0) (iB:=0) (ax:=(some (⟨kR 0,0,none⟩))) (m:=1) (c:=1) (dst:=(some 101)) [(⟨c.when,c.place,[o]⟩:bO)] (by kernel_rfl) (by kernel_rfl) (by kernel_rfl) (by kernel_rfl) rfl (by decide) rfl (fun _ _ _ s=>fK s 6 rfl rfl ⟨.inr (.inl (ae (i:=7) rfl)),⟨.inl ⟨rfl,rfl⟩,⟨.inr (.inl (ae (i:=11) rfl)),trivial⟩⟩⟩) (by simp only[maxLen];omega) (by omega) (fun gq gp=>?_)
      try simp only[aQ]
      refine qf 3 mk 215 9 153 (MapKept.IsKey TypeDesc.string) (.string o.key) (.slice gq 1 gp) none (by kernel_rfl) (by kernel_rfl) (by kernel_rfl) gC (by first|exact⟨_,_,_,rfl⟩|simp[MapKept.IsKey]) rfl hmo (fun Ut ND DB TG M3=>?_)
      try simp only[aQ]
      refine aC ?_
      try simp only[aQ]
      refine eu ?_
      try simp only[aQ]
      refine Zp [.rd 0 [] 0 1,zR 1] [] [zI 66 (i+1)] (oC (show IntKind.i64.wrap (i+1)=i+1 from wrap_i64 (by omega) (by omega)) oN) ?_
      try simp only[aQ]
      refine Nm [(cA (aj (fun t=>aT (F2 t) 35 3 (aj eW (ey A t))) CS)),aT (.slice gq 1 gp) 35 3 (aj eW [bO.mk c.when c.place [o]])] ?_
      have Iz:=wO (t:=o.key) (Q:=fun t=>aT (F2 t) 35 3 ((ey A t).map eW)) (Q':=fun t=>aT (ju F2 o.key (.slice gq 1 gp) t) 35 3 ((ey (A++[(⟨c.when,c.place,o⟩:fG)]) t).map eW)) (ks:=CS) fun s hs=>by
       have hne:s≠o.key:=fun he=>s7 (he ▸ hs)
       show aT (ju F2 o.key (.slice gq 1 gp) s) _ 3 ((ey (A++[(⟨c.when,c.place,o⟩:fG)]) s).map eW)=aT (F2 s) _ 3 ((ey A s).map eW)
       rw[qo _ _ hne,Sb s hne]
      refine bH (j3 1 0 CS.length (cs':=(CS++[o.key]).map fun t=>aT (ju F2 o.key (.slice gq 1 gp) t) 35 3 ((ey (A++[(⟨c.when,c.place,o⟩:fG)]) t).map eW)) rfl rfl (by decide) (by
       rw[aF,show(CS++[o.key])[CS.length]?=some o.key by simp]
       show some (aT (ju F2 o.key (.slice gq 1 gp) o.key) _ 3 ((ey (A++[(⟨c.when,c.place,o⟩:fG)]) o.key).map eW))=_
       rw[pq,hkn,Na]
       rfl) Iz) ?_
      rw[←Ny]
      refine Nm [(cA (aj (fun t=>aT (ju F2 o.key (Value.slice gq 1 gp) t) 35 3 (aj eW (ey (L++eM c (bZ (i+1).toNat c.ops)) t))) (CS++[o.key])))] ?_
      refine bC ⟨i+1,_,_,CS++[o.key],ju F2 o.key (.slice gq 1 gp),_,_⟩ [0,3,4,64,65,66] [0,1,2,3] [0] [0,1,2,3,4,5,6,7,8] ?_ ?_ (by kernel_rfl) rfl rfl rfl
      ·refine⟨by simp only;omega,by simp only;omega,DB.congr (uu s7),M3 uL,be.2 ⟨tJ,by simp,fun a ha b hb=>?_⟩,fun t=>?_,?_⟩
       ·rw[ay]at hb
        subst hb
        exact fun he=>s7 (by rw[←he];exact ha)
       ·dsimp only
        rw[Ny]
        by_cases hs:t=o.key
        ·subst hs
         rw[hkn]
         simp
        ·rw[Sb t hs,au,ay]
         exact⟨fun h=>h.elim (wv t).1 fun h=>absurd h hs,fun h=>.inl ((wv t).2 h)⟩
       ·dsimp only
        rw[Ny]
        exact Qk
      ·simp only
       omega
     ·rw[nq s7]at hv
      cases hv
   ·have Qt:c.ops.take i.toNat=c.ops:=br (by simp at Nf;omega)
    rw[Qt]at wv Ql
    rw[Qt]
    refine dO rfl ?_
    refine Zs [zR 0] [67,0,3,64,65,66] [] ?_
    refine Yr [[]] (.nilIface) fun a w s=>?_
    exact .inr ⟨hsc,_,_,CS,F2,((((s.dY 0 rfl).dY 1 rfl).dY 1 rfl).jz (j4 2 rfl (oB Ql))).ret (by simp) [1,3,0,2] [] rfl rfl,hmo,uL,tJ,wv⟩
end Go.Proofs.YtmkapocibaojdaaGreatDoor
end
section
namespace Go.Proofs.YtmkapocibaojdaaGreatDoor
open Go Go.Sx
def eA (p:Nat) (base:List Int) (key:ByteArray) (at':List Int):Nat:=
 if dS key=false then 4 else if b8 at'≠0 then b8 at' else if at'.length≠p then 3 else if lF base at'=false then 9 else 0
def aW (L:List fG) (key:ByteArray) (at':List Int):List bO:=(ey L key).filter fun c=>lF c.when at'
theorem PK {α:Type} {l:List α} (h:l.length=2):∃x y,l=[x,y]:=by
 match l,h with
 | [x,y],_=>exact⟨x,y,rfl⟩
theorem iz {L:List fG} {key:ByteArray} {x:bO} (h:x∈ey L key):∃q∈L,x=lI q:=by
 obtain⟨q,hq,rfl⟩:=aB.1 h
 exact⟨q,(aP.1 hq).1,rfl⟩
structure Am where
 i:Int
 a:Option Addr
 k:Nat
 c:Nat
set_option maxHeartbeats 4000000 in
theorem Bv {w:World} {S:Nat→Prop} {M:List Nat} {er:Nat→Addr} {eb:Nat→Array Value×TypeId} {b mk md:Nat} {ba a1:Option Addr} {p nb cb n1 c1 clock:Nat} {base at':List Int} {es:Array MapEntry} {ks:List ByteArray} {F:ByteArray→Value} {L:List fG} {key:ByteArray} (hC:cm w S .nilIface (dC er eb))
  (hP:Pre w S M [bL b (.cells #[.int .i64 p,.slice ba nb cb,.map (some mk),.map (some md)] 218 (0,0)),bL mk (.map es clock),cA (ks.map fun t=>aT (F t) 35 3 ((ey L t).map eW)),eX md dA (cI (L.map ku))])
  (hb:cm w S (.slice ba nb cb) (aS base)) (DF:b8 base=0) (AZ:base.length=p) (h1:cm w S (.slice a1 n1 c1) (aS at')) (ja:at'.length≤1000000) (hL:L.length≤1000000) (KK:∀q∈L,b8 q.when=0∧q.when.length=p)
  (hm:fM (MapKept.IsKey .string) es (mB ks F)) (hnd:ks.Nodup) (k7:∀t,t∈ks↔ey L t≠[]) :
  Calls Tryz.prog 155 #[.pointer (some ⟨b,0,none⟩),.string key,.slice a1 n1 c1] w fun e w'=>
   (eA p base key at'≠0∧cQ M w S w' e (.tuple #[.slice none 0 0,.iface 390 (.pointer (some (er (eA p base key at'))))]) [bL b (.cells #[.int .i64 p,.slice ba nb cb,.map (some mk),.map (some md)] 218 (0,0)),bL mk (.map es clock),cA (ks.map fun t=>aT (F t) 35 3 ((ey L t).map eW)),eX md dA (cI (L.map ku))] []) ∨
   (eA p base key at'=0∧∃ua un uc,cQ M w S w' e (.tuple #[.slice ua un uc,.nilIface]) [aT (.slice ua un uc) 35 3 ((aW L key at').map eW),bL b (.cells #[.int .i64 p,.slice ba nb cb,.map (some mk),.map (some md)] 218 (0,0)),bL mk (.map es clock),cA (ks.map fun t=>aT (F t) 35 3 ((ey L t).map eW)),eX md dA (cI (L.map ku))] []):=by
 obtain rfl:=dJ h1
 obtain rfl:=dJ hb
 subst AZ
 refine pW Tryz.func155 Rw (args:=[.pointer (some ⟨b,0,none⟩),.string key,.slice a1 at'.length c1]) (S:=S) (G:=[(_,dC er eb),(_,aS at'),(_,aS base)]) (by kernel_rfl) hP (.cons hC (.cons h1 (.cons hb (.nil _ _)))) ?_
 refine fh 0 rfl ?_
 refine bH (ij 0 [3,2,8] rfl rfl) ?_
 refine di 3 rfl (fun ni mW ng dh=>?_)
 refine di 4 rfl (fun uY uq uS gu=>?_)
 refine di 5 rfl (fun IK G2 IB pE=>?_)
 try simp only[aQ]
 refine Zs [zR 0,zR 1] [] [zS 6 none 0 0,zV 7 .nilIface] ?_
 refine aq ?_
 refine jS [(0,true),(1,false),(2,true)] [] ?_
 refine Ya [zR 0] [] [zV 16 (.string key)] ?_
 refine Yc 154 #[.string key] (some 17) fun w S hG=>?_
 refine(Bw (w:=w) (S:=S) (s0:=key)).mono ?_
 rintro e1 w1 hR
 refine⟨_,_,_,hR,?_⟩
 cases hnm:dS key with
 | false=>
  have oE:eA base.length base key at'=4:=by rw[eA,if_pos hnm]
  rw[oE]
  try simp only[aQ]
  refine Ya [zR 2] [17,16] [zB 18 true] ?_
  refine aC ?_
  refine gR ?_
  refine Zt [.rd 0 [.r 0 (some (.iface 390 (.pointer (some (er 4)))))] 0 0,zR 1,zR 2] [18] [zV 7 (.iface 390 (.pointer (some (er 4))))] (oC dh oN) ?_
  refine Yr [[],[]] (.tuple #[.slice none 0 0,.iface 390 (.pointer (some (er 4)))]) fun a w s=>?_
  exact .inl ⟨by decide,(s.dY 0 rfl).ret (by simp) [3,0,1,2] [] rfl rfl⟩
 | true=>
 try simp only[aQ]
 refine Ya [zR 2] [17,16] [zB 18 false] ?_
 refine aC ?_
 refine cF ?_
 refine aG (aq ?_)
 refine jS [(0,true),(1,false),(2,true)] [] ?_
 refine Ya [zR 0] [18] [zS 20 a1 at'.length c1] ?_
 refine Yc 141 #[.slice a1 at'.length c1] (some 21) fun w S hG=>?_
 refine(vp (kL (hG.at 0 rfl)) (hG.at 1 rfl) ja).mono ?_
 rintro e2 w2 ⟨v,hR,hv⟩
 refine⟨_,_,_,hR,?_⟩
 obtain⟨nc,rfl⟩|⟨nc,rfl⟩:=hv
 case inr=>
  have oE:eA base.length base key at'=b8 at':=by rw[eA,if_neg (by simp[hnm]),if_pos nc]
  rw[oE]
  try simp only[aQ]
  refine Ya [zR 2] [21,20] [zV 8 (.iface 390 (.pointer (some (er (b8 at')))))] ?_
  refine aC ?_
  refine Zs [zR 0,zR 1] [] [zB 23 true] ?_
  refine gR ?_
  refine Zs (bh 0 3) [23,8] [zV 7 (.iface 390 (.pointer (some (er (b8 at')))))] ?_
  refine Yr [[],[]] (.tuple #[.slice none 0 0,.iface 390 (.pointer (some (er (b8 at'))))]) fun a w s=>?_
  exact .inl ⟨nc,(s.dY 0 rfl).ret (by simp) [3,0,1,2] [] rfl rfl⟩
 by_cases hal:at'.length=base.length
 case neg=>
  have oE:eA base.length base key at'=3:=by rw[eA,if_neg (by simp[hnm]),if_neg (by simp[nc]),if_pos hal]
  have Nv:¬(at'.length:Int)=base.length:=by omega
  rw[oE]
  try simp only[aQ]
  refine Ya [zR 2] [21,20] [zV 8 .nilIface] ?_
  refine aC ?_
  refine Zs [zR 0,zR 1] [] [zB 23 false] ?_
  refine cF ?_
  refine aG (aq ?_)
  refine Zt (bh 0 5++[.rd 5 [.o 0 none] 0 0,.rd 6 [] 0 6]) [23,8] [zB 31 true] (oC (show((↑at'.length:Int) != (↑base.length:Int))=true from by simp;omega) oN) ?_
  refine gR ?_
  refine Zt [.rd 0 [.r 1 (some (.iface 390 (.pointer (some (er 3)))))] 0 0,zR 1,zR 2] [31] [zV 7 (.iface 390 (.pointer (some (er 3))))] (oC gu oN) ?_
  refine Yr [[],[]] (.tuple #[.slice none 0 0,.iface 390 (.pointer (some (er 3)))]) fun a w s=>?_
  exact .inl ⟨by decide,(s.dY 0 rfl).ret (by simp) [3,0,1,2] [] rfl rfl⟩
 have MZ:iQ base at'=0:=by rw[iQ,if_neg (by simp[DF]),if_neg (by simp[nc]),if_neg (by simp[hal])]
 have hvl:=jV DF
 have Nv:(at'.length:Int)=base.length:=by omega
 try simp only[aQ]
 refine Ya [zR 2] [21,20] [zV 8 .nilIface] ?_
 refine aC ?_
 refine Zs [zR 0,zR 1] [] [zB 23 false] ?_
 refine cF ?_
 refine aG (aq ?_)
 refine Zt (bh 0 5++[.rd 5 [.o 0 none] 0 0,.rd 6 [] 0 7]) [23,8] [zB 31 false] (oC (show((↑at'.length:Int) != (↑base.length:Int))=false from by simp;omega) oN) ?_
 refine cF ?_
 refine aG (aq ?_)
 refine jS [(0,true),(1,true),(2,true),(3,true),(4,true),(5,false),(6,true),(7,true),(8,true),(9,true),(10,true)] [] ?_
 refine Ya (bh 0 3++[.rd 3 [.o 0 none] 0 0,zR 4]) [31] [zS 37 ba base.length cb,zS 38 a1 at'.length c1] ?_
 refine Yc 100 #[.slice ba base.length cb,.slice a1 at'.length c1] (some 39) fun w S hG=>?_
 refine(uk (kL (hG.at 0 rfl)) (hG.at 2 rfl) (hG.at 1 rfl) (by omega) ja).mono ?_
 rintro e3 w3 (⟨If,_⟩|⟨_,hR⟩)
 ·exact absurd MZ If
 refine⟨_,_,_,hR,?_⟩
 cases hin:lF base at' with
 | false=>
  have oE:eA base.length base key at'=9:=by rw[eA,if_neg (by simp[hnm]),if_neg (by simp[nc]),if_neg (by simp[hal]),if_pos hin]
  rw[oE]
  try simp only[aQ]
  refine Ya (bh 6 11) [39,37,38] [zB 9 false] ?_
  refine aC ?_
  refine Zs [zR 0,zR 1] [9] [zB 43 true] ?_
  refine gR ?_
  refine Zt [.rd 0 [.r 2 (some (.iface 390 (.pointer (some (er 9)))))] 0 0,zR 1,zR 2] [43] [zV 7 (.iface 390 (.pointer (some (er 9))))] (oC pE oN) ?_
  refine Yr [[],[]] (.tuple #[.slice none 0 0,.iface 390 (.pointer (some (er 9)))]) fun a w s=>?_
  exact .inl ⟨by decide,(s.dY 0 rfl).ret (by simp) [3,0,1,2] [] rfl rfl⟩
 | true=>
  have oE:eA base.length base key at'=0:=by rw[eA,if_neg (by simp[hnm]),if_neg (by simp[nc]),if_neg (by simp[hal]),if_neg (by simp[hin])]
  rw[oE]
  try simp only[aQ]
  refine Ya (bh 6 11) [39,37,38] [zB 9 true] ?_
  refine aC ?_
  refine Zs [zR 0,zR 1] [9] [zB 43 false] ?_
  refine cF ?_
  refine aG ?_
  refine Zs [zR 0] [43] [zS 11 none 0 0] ?_
  refine aq (aq ?_)
  refine fh 0 rfl ?_
  by_cases hT:key∈ks
  ·obtain⟨iT,hit⟩:=aJ hT
   refine Nm [(cA (aj (fun t=>aT (F t) 35 3 (aj eW (ey L t))) ks)),(eX md dA (cI (aj ku L)))] ?_
   refine bH (nr (c:=aT (F key) 35 3 ((ey L key).map eW)) 0 iT rfl (by rw[aF,hit];rfl)) ?_
   refine b9 (nt 1 rfl) fun y hF=>?_
   obtain⟨av,nv,cv⟩:=y
   obtain⟨hF,hn⟩:=hF
   dsimp only at hF hn
   rw[aA]at hn
   rw[hF]
   refine bH (fO eW 35 3) ?_
   refine Nm [(eX md dA (cI (aj ku L))),aT (.slice av nv cv) 35 3 (aj eW (ey L key)),(cA ((aj (fun t=>aT (F t) 35 3 (aj eW (ey L t))) ks).eraseIdx iT)),aT (.slice none 0 0) 35 3 (aj eW [])] ?_
   refine jT [(0,true),(1,true),(2,true),(3,true),(4,true),(5,true),(6,true),(7,true)] [] ?_
   refine Ya (bh 0 3++[.rd 3 [.o 0 none] 0 0,zR 4]) [0,1] [zV 48 (.map (some mk)),zV 49 (.string key)] ?_
   refine gK (.o 1 none) mk 215 9 153 (MapKept.IsKey TypeDesc.string) (.string key) (.slice none 0 0) false (some 50) (by kernel_rfl) (by kernel_rfl) (by kernel_rfl) gC (by first|exact⟨_,_,_,rfl⟩|simp[MapKept.IsKey]) (by kernel_rfl) rfl hm (fun hno=>?_) (fun v hv=>?_)
   ·rw[gQ hT]at hno
    cases hno
   ·rw[gQ hT,hF]at hv
    cases hv
    have z6:=xP L key
    subst hn
    refine Ya [zR 6,zR 7] [48,49] [zI 51 ((↑(ey L key).length:Int)),zI 52 0] ?_
    refine aC (aM ?_)
    have Ws:aW L key at'=((ey L key).take (ey L key).length).filter fun c=>lF c.when at':=by rw[iP];rfl
    rw[Ws]
    have VR:∀x∈ey L key,iQ x.when at'=0∧x.when.length≤6:=fun x hx=>by
     obtain⟨q,hq,rfl⟩:=iz hx
     obtain⟨h1,h2⟩:=KK q hq
     have h3:(lI q).when=q.when:=rfl
     rw[h3]
     refine⟨?_,?_⟩
     ·rw[iQ,if_neg (by simp[h1]),if_neg (by simp[nc]),if_neg (by simp[h2,hal])]
     ·omega
    generalize Xo:ey L key=KL at z6 VR ⊢
    refine cU (fun x:Am=>[zS 2 a1 at'.length c1,zS 6 none 0 0,zV 7 .nilIface,zS 11 x.a x.k x.c,zS 50 av KL.length cv,zI 51 (↑KL.length:Int),zI 52 x.i]) (fun x:Am=>[(b,.cells #[nI (↑base.length:Int),.slice ba base.length cb,.map (some mk),.map (some md)] 218 (0,0)),(mk,Obj.map es clock)]) (fun x:Am=>[eX md dA (cI (L.map ku)),aT (.slice av KL.length cv) 35 3 (KL.map eW),cA ((ks.map fun t=>aT (F t) 35 3 ((ey L t).map eW)).eraseIdx iT),aT (.slice x.a x.k x.c) 35 3 (((KL.take x.i.toNat).filter fun c=>lF c.when at').map eW)]) (fun x:Am=>[(.nilIface,(dC er eb)),(.slice a1 at'.length c1,(aS at')),(.slice ba base.length cb,(aS base)),(.pointer (sA 8 0),(D.ptr [D.v (Value.iface 390 (Value.pointer (some (er 4))))])),(.pointer (sA 1 0),(D.ptr [D.v (Value.iface 390 (Value.pointer (some (er 3))))])),(.pointer (sA 5 0),(D.ptr [D.v (Value.iface 390 (Value.pointer (some (er 9))))]))]) (fun x:Am=>(KL.length - x.i).toNat) (fun x:Am=>(0≤x.i∧x.i≤KL.length)) ⟨0,none,0,0⟩ [2,6,7,11,50,51,52] [0,1] [0,1,2,3] [0,1,2,3,4,5] ?_ (by kernel_rfl) rfl rfl rfl ?_
    ·exact⟨by simp,by simp⟩
    rintro⟨i,a3,k3,c3⟩ ⟨hi0,hi⟩
    dsimp only at hi0 hi ⊢
    refine b9 (eC 3 rfl) fun _ Cj=>?_
    have X4:k3≤1000000:=by
     rw[aA]at Cj
     have h1:=cH (fun c:bO=>lF c.when at') (KL.take i.toNat)
     rw[bp]at h1
     omega
    refine Zs [zR 0] [] [zB 53 (decide (i<(↑KL.length:Int)))] ?_
    refine aq ?_
    refine cC (t:=decide (i<(↑KL.length:Int))) (fun hlt=>?_) (fun hlt=>?_)
    ·have fa:i<KL.length:=by simpa using hlt
     obtain⟨x,hx⟩:∃x,KL[i.toNat]?=some x:=⟨_,ak (by omega)⟩
     obtain⟨Ks,LK⟩:=VR x (ae hx)
     refine kj 1 rfl (by intro h0;rw[cM]at h0;rw[h0]at hx;simp at hx) fun g cur xs hu _ _ hrow=>?_
     subst hu
     refine b9 (jj 3 rfl i.toNat (dD hx)) fun ls hls=>?_
     obtain⟨qD,oU⟩:=hls
     obtain⟨⟨xa,xc⟩,⟨ya,yc⟩,rfl⟩:=PK qD
     have f:=fun(j:Nat) v h=>hrow.L6 (oU j v h)
     have r0:=f 0 _ rfl
     have r1:=f 1 _ rfl
     have r2:=f 2 _ rfl
     rw[dZ]at r0
     rw[←aK (i.toNat*3)]at r0 r1 r2
     refine Nm [(eX md dA (cI (aj ku L))),(cA ((aj (fun t=>aT (F t) 35 3 (aj eW (ey L t))) ks).eraseIdx iT)),aT (.slice a3 k3 c3) 35 3 (aj eW (mo (fun c=>lF c.when at') (bZ i.toNat KL))),(kM xs 3 (aj eW KL))] ?_
     try simp only[aQ]
     refine aG (aq (aM ?_))
     refine Zu [.rd 0 [] 0 2,.rd 1 [.o 2 (some (.slice (xa,xc).fst ((aj eI x.when).length) xc)),.o 2 (some (nI x.place)),.o 2 (some (.slice (ya,yc).fst ((aj fe x.ops).length) yc))] 0 0,.wr 2 [] 0,.wr 3 (ek 3 3) 0] [(3,[])] [53] (fun aN=>[zP 13 (aN 0)]) o0 (fun aN=>[(aN 0,.cells #[.slice (xa,xc).fst ((aj eI x.when).length) xc,nI x.place,.slice (ya,yc).fst ((aj fe x.ops).length) yc] 35 (0,0))]) (fun aN=>(oC hi0 (oC fa (oC r0 (oC r1 (oC r2 oN)))))) (fun aN=>?_)
     refine aq ?_
     refine js 2 rfl ?_
     refine bH (gw 4 3 rfl rfl hrow (by decide)) ?_
     rw[show(aj eW KL).length=KL.length from aA ..]
     refine Nm [(eX md dA (cI (aj ku L))),(cA ((aj (fun t=>aT (F t) 35 3 (aj eW (ey L t))) ks).eraseIdx iT)),aT (.slice a3 k3 c3) 35 3 (aj eW (mo (fun c=>lF c.when at') (bZ i.toNat KL))),aT (.slice (sA g 0) KL.length cv) 35 3 (aj eW KL)] ?_
     refine jT [(0,true),(1,true),(2,true),(3,false),(4,true),(5,true),(6,true),(7,true),(8,true)] [] ?_
     refine Ya [zR 0,.rd 1 [.o 2 none] 0 0,zR 2] [] [zS 58 (xa,xc).fst ((aj eI x.when).length) xc,zS 59 a1 at'.length c1] ?_
     refine Yc 100 #[.slice (xa,xc).fst ((aj eI x.when).length) xc,.slice a1 at'.length c1] (some 60) fun w S hG=>?_
     refine(uk (kL (hG.at 0 rfl)) (hG.at 6 rfl) (hG.at 1 rfl) (by omega) ja).mono ?_
     rintro e4 w4 (⟨Wo,_⟩|⟨_,hR⟩)
     ·exact absurd Ks Wo
     refine⟨_,_,_,hR,?_⟩
     cases Vt:lF x.when at' with
     | false=>
      have e9:(KL.take i.toNat).filter (fun c=>lF c.when at')=(KL.take (i+1).toNat).filter fun c=>lF c.when at':=by
       rw[←dz hi0 hx,dm]
       simp[Vt]
      try simp only[aQ]
      refine Ya (bh 4 9) [60,58,59] [zB 14 false] ?_
      refine aC ?_
      refine Zs [zR 0] [] [zB 63 false] ?_
      refine cF ?_
      refine aG (eu ?_)
      refine Zp [.rd 0 [] 0 1,zR 1] [63] [zI 52 (i+1)] (oC (show IntKind.i64.wrap (i+1)=i+1 from wrap_i64 (by omega) (by omega)) oN) ?_
      rw[e9]
      refine bC ⟨i+1,_,_,_⟩ [2,6,7,11,50,51,52] [0,1] [0,3,1,2] [0,1,2,3,4,5] ?_ ?_ (by kernel_rfl) rfl rfl rfl
      ·exact⟨by simp only;omega,by simp only;omega⟩
      ·simp only
       omega
     | true=>
      have e9:(KL.take i.toNat).filter (fun c=>lF c.when at')++[x]=(KL.take (i+1).toNat).filter fun c=>lF c.when at':=by
       rw[←dz hi0 hx,dm]
       simp[Vt]
      try simp only[aQ]
      refine Ya (bh 4 9) [60,58,59] [zB 14 true] ?_
      refine aC ?_
      refine Zs [zR 0] [] [zB 63 true] ?_
      refine gR ?_
      refine jT [(0,true),(1,true),(2,false),(3,false),(4,true)] [] ?_
      refine Ym [zR 0,.rd 1 (ek 2 3) 0 0,.wr 2 [] 0] [63] (fun dy=>[zS 64 a3 k3 c3,zS 66 (sA (dy 0) 0) 1 1]) o0 (fun dy=>[(dy 0,.cells #[.slice xa ((aj eI x.when).length) xc,nI x.place,.slice ya ((aj fe x.ops).length) yc] 35 (0,0))]) [] (fun dy=>?_)
      refine eY 2 153 35 3 56 (.agg #[.slice none 0 0,.int .i64 0,.slice none 0 0]) (a0:=a3) (len:=k3) (iB:=c3) (ax:=(some (⟨dy 0,0,none⟩))) (m:=1) (c:=1) (dst:=(some 67)) [x] (by kernel_rfl) (by kernel_rfl) (by kernel_rfl) (by kernel_rfl) rfl (by decide) rfl (fun _ _ _ s=>fK s 3 rfl rfl ⟨.inr (.inl (ae (i:=6) rfl)),⟨.inl ⟨rfl,rfl⟩,⟨.inr (.inl (ae (i:=7) rfl)),trivial⟩⟩⟩) (by simp only[maxLen];omega) (by omega) (fun gq gp=>?_)
      rw[e9]
      try simp only[aQ]
      refine Ya [zR 4] [67,64,66] [zS 11 gq (k3+1) gp] ?_
      try simp only[aQ]
      refine aC ?_
      try simp only[aQ]
      refine eu ?_
      try simp only[aQ]
      refine Zp [.rd 0 [] 0 1,zR 1] [] [zI 52 (i+1)] (oC (show IntKind.i64.wrap (i+1)=i+1 from wrap_i64 (by omega) (by omega)) oN) ?_
      try simp only[aQ]
      refine bC ⟨i+1,_,_,_⟩ [2,6,7,11,50,51,52] [0,1] [0,2,1,3] [0,1,2,3,4,5] ?_ ?_ (by kernel_rfl) rfl rfl rfl
      ·exact⟨by simp only;omega,by simp only;omega⟩
      ·simp only
       omega
    ·have vM:KL.take i.toNat=KL:=br (by simp at hlt;omega)
     rw[vM,iP]
     refine dO rfl ?_
     refine Zs (bh 0 3) [53,2,11,50,51,52] [zS 6 a3 k3 c3] ?_
     refine Yr [[],[]] (.tuple #[.slice a3 k3 c3,.nilIface]) fun a w s=>?_
     have WT:(ks.map fun t=>aT (F t) 35 3 ((ey L t).map eW))[iT]?=some (aT (.slice av KL.length cv) 35 3 (KL.map eW)):=by
      rw[aF,hit]
      show some (aT (F key) _ 3 ((ey L key).map eW))=_
      rw[hF,Xo]
     exact .inr ⟨by first|rfl|trivial,_,_,_,(((s.jz (j3 1 2 iT (cs':=ks.map fun t=>aT (F t) 35 3 ((ey L t).map eW)) rfl rfl (by decide) WT rfl)).dY 0 rfl).dY 0 rfl).ret (by simp) [1,3,4,2,0] [] rfl rfl⟩
  ·have Na:ey L key=[]:=bU fun h=>hT ((k7 _).2 h)
   refine jT [(0,true),(1,true),(2,true),(3,true),(4,true),(5,true),(6,true),(7,true)] [] ?_
   refine Ya (bh 0 3++[.rd 3 [.o 0 none] 0 0,zR 4]) [0,1] [zV 48 (.map (some mk)),zV 49 (.string key)] ?_
   refine gK (.o 1 none) mk 215 9 153 (MapKept.IsKey TypeDesc.string) (.string key) (.slice none 0 0) false (some 50) (by kernel_rfl) (by kernel_rfl) (by kernel_rfl) gC (by first|exact⟨_,_,_,rfl⟩|simp[MapKept.IsKey]) (by kernel_rfl) rfl hm (fun hno=>?_) (fun v hv=>?_)
   ·have Wu:aW L key at'=[]:=by rw[aW,Na];rfl
    rw[Wu]
    refine Ya [zR 6,zR 7] [48,49] [zI 51 0,zI 52 0] ?_
    refine aC (aM ?_)
    refine EP fun I=>?_
    refine Zs [zR 0] [] [zB 53 false] ?_
    refine aq ?_
    refine cF ?_
    refine dO rfl ?_
    refine Zs (bh 0 3) [53,51,52,50,11,2] [] ?_
    refine Yr [[],[]] (.tuple #[.slice none 0 0,.nilIface]) fun a w s=>?_
    exact .inr ⟨by first|rfl|trivial,_,_,_,(((s.jz (fO eW 35 3)).dY 0 rfl).dY 0 rfl).ret (by simp) [2,3,4,0,1] [] rfl rfl⟩
   ·rw[nq hT]at hv
    cases hv
set_option maxHeartbeats 4000000 in
theorem Bu {w:World} {S:Nat→Prop} {M:List Nat} {er:Nat→Addr} {eb:Nat→Array Value×TypeId} {b mk md:Nat} {ba a1:Option Addr} {p nb cb n1 c1 clock:Nat} {base at':List Int} {es:Array MapEntry} {ks:List ByteArray} {F:ByteArray→Value} {L:List fG} {key:ByteArray} (hC:cm w S .nilIface (dC er eb))
  (hP:Pre w S M [bL b (.cells #[.int .i64 p,.slice ba nb cb,.map (some mk),.map (some md)] 218 (0,0)),bL mk (.map es clock),cA (ks.map fun t=>aT (F t) 35 3 ((ey L t).map eW)),eX md dA (cI (L.map ku))])
  (hb:cm w S (.slice ba nb cb) (aS base)) (DF:b8 base=0) (AZ:base.length=p) (h1:cm w S (.slice a1 n1 c1) (aS at')) (ja:at'.length≤1000000) (hL:L.length≤1000000) (KK:∀q∈L,b8 q.when=0∧q.when.length=p)
  (hm:fM (MapKept.IsKey .string) es (mB ks F)) (hnd:ks.Nodup) (k7:∀t,t∈ks↔ey L t≠[]) :
  Calls Tryz.prog 155 #[.pointer (some ⟨b,0,none⟩),.string key,.slice a1 n1 c1] w fun e w'=>
   (eA p base key at'≠0∧cQ M w S w' e (.tuple #[.slice none 0 0,.iface 390 (.pointer (some (er (eA p base key at'))))]) [bL b (.cells #[.int .i64 p,.slice ba nb cb,.map (some mk),.map (some md)] 218 (0,0)),bL mk (.map es clock),cA (ks.map fun t=>aT (F t) 35 3 ((ey L t).map eW)),eX md dA (cI (L.map ku))] []) ∨
   (eA p base key at'=0∧∃ua un uc,cQ M w S w' e (.tuple #[.slice ua un uc,.nilIface]) [bL b (.cells #[.int .i64 p,.slice ba nb cb,.map (some mk),.map (some md)] 218 (0,0)),bL mk (.map es clock),cA (ks.map fun t=>aT (F t) 35 3 ((ey L t).map eW)),eX md dA (cI (L.map ku))] [(.slice ua un uc,.sl 3 ((aW L key at').map eW))]):=by
 refine(Bv hC hP hb DF AZ h1 ja hL KK hm hnd k7).mono ?_
 rintro e w' (h|⟨h0,ua,un,uc,hR⟩)
 ·exact .inl h
 ·exact .inr ⟨h0,ua,un,uc,hR.freeze⟩
end Go.Proofs.YtmkapocibaojdaaGreatDoor
end
