/- Part 14 of the texts of a claim: PlE Tx27 PlG PlO PlB Net Net2 Net3 Net4. -/
import Derived.Lib.AppendZeros
import Derived.Test.YtmkapocibaojdaaGreatDoorTr13
open Array renaming getElem?_push → jx, toArray_toList → eJ
open Int renaming le_refl → fq, toNat_natCast → aR, toNat_of_nonneg → cW, toNat_zero → mU
open List renaming all_eq_true → dF, append_assoc → bY, append_nil → bf, drop_eq_getElem_cons → gD, filter_eq_nil_iff → gz, flatten_append → bj, foldl_cons → iw, getD_eq_getElem?_getD → aO, getElem?_append_left → bz, getElem?_append_right → bt, getElem?_drop → cq, getElem?_eq_getElem → ak, getElem?_eq_some_iff → ai, getElem?_inj → dQ, getElem?_map → aF, getElem?_of_mem → aJ, getElem?_set_ne → cN, getElem?_set_self → bX, getElem?_take → cL, getElem?_zip_eq_some → jd, getElem_of_mem → jy, length → fo, length_append → bA, length_cons → eF, length_eq_zero_iff → eV, length_filter_le → cH, length_map → aA, length_nil → lW, length_range → ir, length_take → bp, map → aj, map_append → bw, map_cons → cj, map_eq_nil_iff → cM, map_nil → gy, map_toArray → lg, mem_append → au, mem_cons_of_mem → bk, mem_cons_self → bl, mem_filter → aP, mem_flatMap → gM, mem_flatten → cK, mem_map → aB, mem_map_of_mem → eT, mem_of_getElem? → ae, mem_range → dX, mem_singleton → ay, nodup_append → be, pairwise_iff_getElem → bV, range → bD, take → bZ, take_add_one → cV, take_append_drop → iZ, take_length → iP, take_of_length_le → br
open List.Pairwise renaming nil → jq
open Nat renaming add_mul → jR, add_zero → dZ, le_refl → aX, lt_or_ge → dP, min_eq_left → lX, sub_self → ec
open Option renaming getD_some → jK, map_eq_some_iff → aI, map_some → dU
open Option.some renaming inj → dG, injEq → az
open Prod.mk renaming inj → kP, injEq → aH
section
namespace Go.Proofs.YtmkapocibaojdaaGreatDoor
open Go Go.Sx
theorem xA {p:Nat} {base:List Int} {fm:Int} {L:List fG} {l:List bN} {m:bN}:iS p base fm L (l++[m])=if m.dW=false∧m.c.place=fm then sI p base (iS p base fm L l) m.c else iS p base fm L l:=by
 rw[iS,List.foldl_append]
 rfl
theorem JO {x:fJ} {n:Nat} (hx:iW x n) (hn:n≤600) (fm:Int) {l:List bN} (hl:l.length≤700):Gk x.places x.base (iS x.places x.base fm x.L l):=by
 have h1:=sr x.places x.base fm l x.L
 have h2:=hx.len
 refine⟨hx.base,hx.rS,by omega,fun q hq=>?_⟩
 rcases sq hq with hq|⟨z,_,_,_,h1,h2,h3,h4,h5⟩
 ·exact hx.put q hq
 ·exact⟨vA h1 h2 h3 h4,by rw[h2];exact h5⟩
theorem iW.Wf {x:fJ} {n:Nat} (h:iW x n):x.rs.length=fZ x.id x.ah x.places:=by
 have h3:=congrArg fo h.rs
 rwa[aA]at h3
theorem DD {y:bB} {m:bN} (h:(bB.dK y m).1≠0):bB.heard y m=y:=by
 obtain⟨_,h2⟩:=DE h
 simp[bB.heard,bB.dK,h2]
set_option maxHeartbeats 8000000 in
theorem Fw {w:World} {S:Nat→Prop} {M:List Nat} {er:Nat→Addr} {eb:Nat→Array Value×TypeId} {x:fJ} {b n n1 c1 n2 c2:Nat} {a1 a2:Option Addr} {m:bN} (hC:cm w S .nilIface (dC er eb)) (hP:Pre w S M [bQ b x]) (hx:iW x n) (hn:n<600) (h1:cm w S (.slice a1 n1 c1) (aS m.c.when)) (h2:cm w S (.slice a2 n2 c2) (.sl 7 (m.c.ops.map fe))) (hm:Fit m) (GD:-9223372036854775808≤m.seq∧m.seq≤9223372036854775807) :
  Calls Tryz.prog 24 #[.pointer (some ⟨b,0,none⟩),y6 m (.slice a1 n1 c1) (.slice a2 n2 c2)] w fun e w'=>∃ua un uc v,
   cQ M w S w' e (.tuple #[.slice ua un uc,v]) [bQ b (ep x m).2.2] [(.slice ua un uc,.sl 9 ((ep x m).2.1.map fC))]∧lq 390 er (ep x m).1 v:=by
 refine pW Tryz.func24 U7 (args:=[.pointer (some ⟨b,0,none⟩),y6 m (.slice a1 n1 c1) (.slice a2 n2 c2)]) (S:=S) (C:=[bQ b x]) (G:=[(_,dC er eb),(_,aS m.c.when),(_,.sl 7 (m.c.ops.map fe))]) (by kernel_rfl) hP (.cons hC (.cons h1 (.cons h2 (.nil _ _)))) ?_
 refine b9 (eZ 0 rfl) fun y hy=>?_
 obtain⟨vb,oa,oc,ia,ic,om,im⟩:=y
 refine bH (ij 0 [1,2] rfl rfl) ?_
 refine di 5 rfl (fun ni mW ng dh=>?_)
 refine di 6 rfl (fun uY uq uS gu=>?_)
 refine Nm [bL b (.cells #[.pointer (sA vb 0),nI (↑x.id:Int),nI (↑x.places:Int),nI (↑x.ah:Int),nI x.clock,.slice (iN.mk vb oa oc ia ic om im).oa x.places oc,.slice (iN.mk vb oa oc ia ic om im).ia x.places ic] 124 (0,0)),(fT (iN.mk vb oa oc ia ic om im).vb x.places x.base x.L),(dN (iN.mk vb oa oc ia ic om im).om.flatten x.ss),(c8 (iN.mk vb oa oc ia ic om im).im.flatten x.rs)] ?_
 refine fh 0 rfl ?_
 refine bH (fB (v:=.slice none 0 0) (d:=.sl 9 (([]:List bN).map fC)) fun _ _ _=>.nil) ?_
 refine Nm [(fT (iN.mk vb oa oc ia ic om im).vb x.places x.base x.L),(dN (iN.mk vb oa oc ia ic om im).om.flatten x.ss),(c8 (iN.mk vb oa oc ia ic om im).im.flatten x.rs)] ?_
 have y9:=hx.p6
 have FQ:=hx.s6
 try simp only[aQ]
 refine Zv [.wr 0 [] 0,zR 1,zR 2] [] [1] (fun aN=>[zP 3 (aN 0),zS 4 none 0 0,zV 5 .nilIface]) o0 (fun aN=>[(aN 0,.cells #[nI m.fm,nI m.to,nI m.de,nI m.seq,nI m.time,.bool m.dW,.slice a1 n1 c1,nI m.c.place,.slice a2 n2 c2] 62 (0,0))]) (fun aN=>?_)
 refine aq (aM ?_)
 refine Zs [zR 0,.rd 1 [.o 1 none] 0 0,zR 2,zR 3,.rd 4 [] 2 0,.rd 5 [.o 1 none] 2 0,.rd 6 [] 2 0,.rd 7 [] 2 0,.rd 8 [] 2 0,.rd 9 [.o 0 none] 2 0,.rd 10 [] 2 0,.rd 11 [] 0 3,zR 12,.rd 13 [] 2 0,.rd 14 [.o 1 none] 2 0,.rd 15 [] 2 0,.rd 16 [] 0 3,zR 17,.rd 18 [] 2 0,.rd 19 [.o 1 none] 2 0,.rd 20 [] 2 0,.rd 21 [] 2 0,.rd 22 [] 2 0,.rd 23 [.o 0 none] 2 0,.rd 24 [] 2 0,.rd 25 [] 0 3,zR 26,.rd 27 [] 2 0,.rd 28 [.o 1 none] 2 0,.rd 29 [] 2 0,.rd 30 [] 2 0,.rd 31 [] 2 0,.rd 32 [.o 0 none] 2 0,.rd 33 [] 2 0,.rd 34 [] 0 3,zR 35] [] [zB 11 (decide (m.fm<0)||decide (m.fm≥(↑x.places:Int))||decide (m.de<0)||decide (m.de≥(↑x.ah:Int))||m.fm==(↑x.id:Int))] ?_
 refine cC (t:=decide (m.fm<0)||decide (m.fm≥(↑x.places:Int))||decide (m.de<0)||decide (m.de≥(↑x.ah:Int))||m.fm==(↑x.id:Int)) (fun hb=>?_) (fun hb=>?_)
 ·have hw:kB x m=2:=by rw[kB,if_pos (by simp at hb;omega)]
  have hE:ep x m=(2,[],x):=by rw[ep,if_pos (by rw[hw];decide),hw]
  rw[hE]
  refine Zt [.rd 0 [.r 0 (some (.iface 390 (.pointer (some (er 2)))))] 0 0,zR 1,zR 2] [11] [zV 5 (.iface 390 (.pointer (some (er 2))))] (oC dh oN) ?_
  refine Yr [[],[]] (.tuple #[.slice none 0 0,.iface 390 (.pointer (some (er 2)))]) fun a w s=>?_
  have s2:=(s.dY 0 rfl).jz (ee (x:=x) ⟨vb,oa,oc,ia,ic,om,im⟩ [3,0,1,2] 3 4 rfl rfl rfl hy)
  exact⟨_,_,_,_,s2.ret (by simp) [0] [7] rfl rfl,.inr ⟨Nat.succ_ne_zero _,rfl⟩⟩
 have oQ:¬(m.fm<0∨x.places≤m.fm∨m.de<0∨x.ah≤m.de∨m.fm=x.id):=by simp at hb;omega
 refine Zs ([zR 0,.rd 1 [.o 1 none] 0 0]++bh 2 5++[.rd 5 [.o 0 none] 0 0,zR 6,zR 7]) [11] [zB 48 (m.to != (↑x.id:Int))] ?_
 refine cC (t:=m.to != (↑x.id:Int)) (fun hto=>?_) (fun hto=>?_)
 ·have hw:kB x m=3:=by rw[kB,if_neg oQ,if_pos (by simpa using hto)]
  have hE:ep x m=(3,[],x):=by rw[ep,if_pos (by rw[hw];decide),hw]
  rw[hE]
  refine Zt [.rd 0 [.r 1 (some (.iface 390 (.pointer (some (er 3)))))] 0 0,zR 1,zR 2] [48] [zV 5 (.iface 390 (.pointer (some (er 3))))] (oC gu oN) ?_
  refine Yr [[],[]] (.tuple #[.slice none 0 0,.iface 390 (.pointer (some (er 3)))]) fun a w s=>?_
  have s2:=(s.dY 0 rfl).jz (ee (x:=x) ⟨vb,oa,oc,ia,ic,om,im⟩ [3,0,1,2] 3 4 rfl rfl rfl hy)
  exact⟨_,_,_,_,s2.ret (by simp) [0] [7] rfl rfl,.inr ⟨Nat.succ_ne_zero _,rfl⟩⟩
 have hw:kB x m=0:=by rw[kB,if_neg oQ,if_neg (by simpa using hto)]
 have hne:m.fm.toNat≠x.id:=by omega
 obtain⟨r,hr⟩:∃r,om[m.fm.toNat]?=some r:=⟨_,ak (by rw[hy.om.len];show m.fm.toNat<x.places;omega)⟩
 have Bo:=hy.om.row hr
 rw[if_neg hne]at Bo
 obtain⟨bb,JH⟩:∃bb,r[m.de.toNat]?=some bb:=⟨_,ak (by omega)⟩
 have KI:=hy.om.at hr JH
 obtain⟨r2,Ch⟩:∃r,im[m.fm.toNat]?=some r:=⟨_,ak (by rw[hy.im.len];show m.fm.toNat<x.places;omega)⟩
 have TL:=hy.im.row Ch
 rw[if_neg hne]at TL
 obtain⟨NL,Iv⟩:∃bb,r2[m.de.toNat]?=some bb:=⟨_,ak (by omega)⟩
 have Ns:=hy.im.at Ch Iv
 obtain⟨y0,hy0⟩:∃y0,x.ss[sJ x m]?=some y0:=by
  have h4:=(ai.1 KI).1
  rw[hy.om.DJ]at h4
  exact⟨_,ak (by rw[hx.Ot.1];exact h4)⟩
 obtain⟨z0,Ey⟩:∃z0,x.rs[sJ x m]?=some z0:=by
  have h4:=(ai.1 Ns).1
  rw[hy.im.DJ]at h4
  exact⟨_,ak (by rw[hx.Wf];exact h4)⟩
 refine Zs [zR 0,.rd 1 [.o 1 none] 0 0,zR 2,zR 3] [48] [zB 57 (m.time == -1)] ?_
 refine cC (t:=m.time == -1) (fun ht=>?_) (fun ht=>?_)
 ·have hE:ep x m=(oJ y0.q m.seq,[],{ x with ss:=x.ss.set (sJ x m) (dL.Oe y0 m.seq) }):=by rw[ep,if_neg (by rw[hw];decide),if_pos (by simpa using ht),hy0]
  rw[hE]
  have Jx:Ju { x with ss:=x.ss.set (sJ x m) (dL.Oe y0 m.seq) } ⟨vb,oa,oc,ia,ic,om,im⟩:=⟨hy.om,hy.im⟩
  refine j0 3 rfl m.fm.toNat (dD hr) (by kernel_rfl) (fun b1 fu uf vi vm fg cJ ha1 cP=>?_)
  cases ha1
  have cg:=oO (cP 0 _ rfl)
  have Ig:(aj eP r).length=r.length:=aA ..
  refine gr 8 rfl m.de.toNat (dD JH) (by kernel_rfl) (fun b2 pN Bq JT IC ha2 kK=>?_)
  cases ha2
  have gI:=oO (kK 0 _ rfl)
  refine Nm [(fT vb x.places x.base x.L),(dN om.flatten x.ss),(c8 im.flatten x.rs)] ?_
  try simp only[aQ]
  refine jS [(0,true),(1,true),(2,true),(3,true),(4,true),(5,true),(6,true),(7,true),(8,true),(9,true),(10,true),(11,true),(12,true),(13,true),(14,false),(15,true),(16,true)] [(14,[]),(15,[]),(16,[])] ?_
  refine Yp (bh 0 3++[.rd 3 [.o 0 none] 0 0,zR 4,.rd 5 [.o 1 none] 0 0,.rd 6 [] 0 2,.rd 7 [.r 2 (some (.slice (sA b2 pN) ((aj eP r).length) cJ))] 0 0,zR 8,.rd 9 [.o 1 none] 0 0,.rd 10 [] 0 2,.rd 11 [.r 3 (some (.pointer (sA bb 0)))] 0 0,zR 12,.rd 13 [.o 1 none] 0 0]) [57] [zP 72 bb,zI 74 m.seq] (oC (show 0≤m.fm from by omega) (oC (show m.fm<(↑x.places:Int) from by omega) (oC cg (oC (show 0≤m.de from by omega) (oC (show m.de<(↑(aj eP r).length:Int) from by omega) (oC gI oN)))))) ?_
  refine cn [] [1] 91 #[.pointer (some (⟨bb,0,none⟩)),.int .i64 m.seq] (some 75) (by kernel_rfl) (by kernel_rfl) (by decide) (fun w S M hP hG _=>?_)
  refine(Mk (hG.at 0 rfl) hP KI hy0 (by have:=(hx.snd y0 (ae hy0)).2.2.2.2;omega)).mono ?_
  rintro e1 w1 ⟨v,hR,hv⟩
  refine⟨_,_,_,hR,?_⟩
  obtain⟨sZ,rfl⟩|⟨sZ,rfl⟩:=hv
  ·try simp only[aQ]
   refine Ya [zR 15,zR 16] [75,72,74] [] ?_
   try simp only[aQ]
   refine aC ?_
   try simp only[aQ]
   refine Yr [[],[]] (.tuple #[.slice none 0 0,.nilIface]) fun a w s=>?_
   have s2:=(s.dY 0 rfl).jz (ee _ [3,0,2,1] 3 4 rfl rfl rfl Jx)
   exact⟨_,_,_,_,s2.ret (by simp) [0] [7] rfl rfl,.inl ⟨sZ,rfl⟩⟩
  ·try simp only[aQ]
   refine Ya [zR 15,zR 16] [75,72,74] [zV 5 (.iface 390 (.pointer (some (er (oJ y0.q m.seq)))))] ?_
   try simp only[aQ]
   refine aC ?_
   try simp only[aQ]
   refine Yr [[],[]] (.tuple #[.slice none 0 0,.iface 390 (.pointer (some (er (oJ y0.q m.seq))))]) fun a w s=>?_
   have s2:=(s.dY 0 rfl).jz (ee _ [3,0,2,1] 3 4 rfl rfl rfl Jx)
   exact⟨_,_,_,_,s2.ret (by simp) [0] [7] rfl rfl,.inr ⟨sZ,rfl⟩⟩
 ·have Si:ep x m=if (bB.dK z0 m).1≠0 then ((bB.dK z0 m).1,[],x)else (0,[Gi x m (bB.heard z0 m).q],{ x with rs:=x.rs.set (sJ x m) (bB.heard z0 m),L:=iS x.places x.base m.fm x.L (bB.dK z0 m).2.1 }):=by
   rw[ep,if_neg (by rw[hw];decide),if_neg (by simpa using ht),Ey]
  have Wn:Ju { x with rs:=x.rs.set (sJ x m) (bB.heard z0 m),L:=iS x.places x.base m.fm x.L (bB.dK z0 m).2.1 } ⟨vb,oa,oc,ia,ic,om,im⟩:=⟨hy.om,hy.im⟩
  refine j0 4 rfl m.fm.toNat (dD Ch) (by kernel_rfl) (fun b1 fu uf vi vm fg cJ ha1 cP=>?_)
  cases ha1
  have cg:=oO (cP 0 _ rfl)
  have Ig:(aj eP r2).length=r2.length:=aA ..
  refine gr 8 rfl m.de.toNat (dD Iv) (by kernel_rfl) (fun b2 pN Bq JT IC ha2 kK=>?_)
  cases ha2
  have gI:=oO (kK 0 _ rfl)
  refine Nm [(fT vb x.places x.base x.L),(dN om.flatten x.ss),(c8 im.flatten x.rs)] ?_
  try simp only[aQ]
  refine aG (eu ?_)
  refine Zt (bh 0 3++[.rd 3 [.o 0 none] 0 0,zR 4,.rd 5 [.o 1 none] 0 0,.rd 6 [] 0 2,.rd 7 [.r 2 (some (.slice (sA b2 pN) ((aj eP r2).length) cJ))] 0 0,zR 8,.rd 9 [.o 1 none] 0 0,.rd 10 [] 0 2,.rd 11 [.r 3 (some (.pointer (sA NL 0)))] 0 0,zR 12]) [57] [zP 6 NL] (oC (show 0≤m.fm from by omega) (oC (show m.fm<(↑x.places:Int) from by omega) (oC cg (oC (show 0≤m.de from by omega) (oC (show m.de<(↑(aj eP r2).length:Int) from by omega) (oC gI oN)))))) ?_
  refine jS [(0,true),(1,true),(2,false),(3,true),(4,true),(5,true),(6,true),(7,true)] [] ?_
  refine Ya [zR 0,.rd 1 (ek 1 9) 0 0] [] [zP 89 NL,zV 90 (.agg #[nI m.fm,nI m.to,nI m.de,nI m.seq,nI m.time,.bool m.dW,.slice a1 n1 c1,nI m.c.place,.slice a2 n2 c2])] ?_
  refine cn [] [2] 92 #[.pointer (some (⟨NL,0,none⟩)),.agg #[.int .i64 m.fm,.int .i64 m.to,.int .i64 m.de,.int .i64 m.seq,.int .i64 m.time,.bool m.dW,.slice a1 n1 c1,.int .i64 m.c.place,.slice a2 n2 c2]] (some 91) (by kernel_rfl) (by kernel_rfl) (by decide) (fun w S M hP hG _=>?_)
  have hd:=hx.vj z0 (ae Ey)
  obtain⟨GG,qU,GF⟩:=hm
  have hh:=AV z0 m
  have X5:=hh.len
  refine(J6 (m:=m) (hG.at 0 rfl) hP Ns Ey hd.2.2 (hG.at 1 rfl) (hG.at 2 rfl) GG qU GF hd.1 (by omega) GD).mono ?_
  rintro e1 w1 ⟨ua,un,uc,v,hR,hv⟩
  refine⟨_,_,_,hR,?_⟩
  obtain⟨sZ,rfl⟩|⟨sZ,rfl⟩:=hv
  case inr=>
   have hE:ep x m=((bB.dK z0 m).1,[],x):=by rw[Si,if_pos sZ]
   rw[hE,DD sZ,kG (show x.rs[fZ x.id x.ah m.fm.toNat+m.de.toNat]?=some z0 from Ey)]
   try simp only[aQ]
   refine Ya (bh 3 8) [91,89,90] [zS 7 ua un uc,zV 8 (.iface 390 (.pointer (some (er (bB.dK z0 m).fst))))] ?_
   try simp only[aQ]
   refine aC ?_
   try simp only[aQ]
   refine aq ?_
   try simp only[aQ]
   refine aq ?_
   try simp only[aQ]
   refine Za [zR 0,zR 1] [] [zB 95 true] ?_
   try simp only[aQ]
   refine gR ?_
   try simp only[aQ]
   refine aq ?_
   try simp only[aQ]
   refine Za (bh 0 3) [95,8] [zV 5 (.iface 390 (.pointer (some (er (bB.dK z0 m).fst))))] ?_
   try simp only[aQ]
   refine Yr [[],[]] (.tuple #[.slice none 0 0,.iface 390 (.pointer (some (er (bB.dK z0 m).fst)))]) fun a w s=>?_
   have s2:=(s.dY 0 rfl).jz (ee (x:=x) _ [3,0,1,2] 3 4 rfl rfl rfl hy)
   exact⟨_,_,_,_,s2.ret (by simp) [0] [7] rfl rfl,.inr ⟨sZ,rfl⟩⟩
  have hE:ep x m=(0,[Gi x m (bB.heard z0 m).q],{ x with rs:=x.rs.set (sJ x m) (bB.heard z0 m),L:=iS x.places x.base m.fm x.L (bB.dK z0 m).2.1 }):=by rw[Si,if_neg (by omega)]
  rw[hE]
  try simp only[aQ]
  refine Ya (bh 3 8) [91,89,90] [zS 7 ua un uc,zV 8 .nilIface] ?_
  try simp only[aQ]
  refine aC ?_
  try simp only[aQ]
  refine aq ?_
  try simp only[aQ]
  refine aq ?_
  try simp only[aQ]
  refine Za [zR 0,zR 1] [] [zB 95 false] ?_
  try simp only[aQ]
  refine cF ?_
  try simp only[aQ]
  refine aG ?_
  try simp only[aQ]
  refine aq ?_
  try simp only[aQ]
  refine aq ?_
  try simp only[aQ]
  refine Za (bh 0 3) [95,7,8] [zS 97 ua un uc,zI 98 (↑un:Int),zI 99 0] ?_
  try simp only[aQ]
  refine aM ?_
  try simp only[aQ]
  refine b9 (jY 9 rfl) fun _ hun=>?_
  rw[aA]at hun
  subst hun
  rw[show fT vb x.places x.base x.L=fT vb x.places x.base (iS x.places x.base m.fm x.L ((bB.dK z0 m).2.1.take (0:Int).toNat))by rw[mU,List.take_zero];rfl]
  refine cU (fun i:Int=>[zP 0 b,zP 3 (aN 0),zS 4 none 0 0,zV 5 .nilIface,zP 6 NL,zS 97 ua ((bB.dK z0 m).snd.fst.length) uc,zI 98 ((↑(bB.dK z0 m).snd.fst.length:Int)),zI 99 i]) (fun i:Int=>[(b,.cells #[.pointer (sA vb 0),nI (↑x.id:Int),nI (↑x.places:Int),nI (↑x.ah:Int),nI x.clock,.slice oa x.places oc,.slice (sA b1 fu) x.places ic] 124 (0,0)),(aN 0,.cells #[nI m.fm,nI m.to,nI m.de,nI m.seq,nI m.time,.bool m.dW,.slice a1 n1 c1,nI m.c.place,.slice a2 n2 c2] 62 (0,0))]) (fun i:Int=>[fT vb x.places x.base (iS x.places x.base m.fm x.L ((bB.dK z0 m).2.1.take i.toNat)),dN om.flatten x.ss,c8 im.flatten (x.rs.set (fZ x.id x.ah m.fm.toNat+m.de.toNat) (bB.heard z0 m))]) (fun i:Int=>[(.nilIface,(dC er eb)),(.slice a1 n1 c1,(aS m.c.when)),(.slice a2 n2 c2,(D.sl 7 (aj fe m.c.ops))),(.slice oa x.places oc,(jI om)),(.slice (sA b1 fu) x.places ic,(jI im)),(.pointer (sA 0 0),(D.ptr [D.v (Value.iface 390 (Value.pointer (some (er 2))))])),(.pointer (sA 1 0),(D.ptr [D.v (Value.iface 390 (Value.pointer (some (er 3))))])),(.slice none 0 0,(D.sl 9 (aj fC []))),(.slice (sA b2 pN) ((aj eP r2).length) cJ,(D.sl 1 (aj eP r2))),(.slice ua ((bB.dK z0 m).snd.fst.length) uc,(D.sl 9 (aj fC (bB.dK z0 m).snd.fst)))]) (fun i:Int=>((bB.dK z0 m).2.1.length - i).toNat) (fun i:Int=>(0≤i∧i≤(bB.dK z0 m).2.1.length)) 0 [0,3,4,5,6,97,98,99] [0,1] [0,1,2] [0,1,2,3,4,5,6,7,8,9] ?_ (by kernel_rfl) rfl rfl rfl ?_
  ·exact⟨by omega,by omega⟩
  rintro i ⟨hi0,hi⟩
  refine Zs [zR 0] [] [zB 100 (decide (i<(↑(bB.dK z0 m).snd.fst.length:Int)))] ?_
  refine aq ?_
  refine cC (t:=decide (i<(↑(bB.dK z0 m).snd.fst.length:Int))) (fun hlt=>?_) (fun hlt=>?_)
  ·have fa:i<(bB.dK z0 m).2.1.length:=by simpa using hlt
   obtain⟨xm,TB⟩:∃xm,(bB.dK z0 m).2.1[i.toNat]?=some xm:=⟨_,ak (by omega)⟩
   have W3:Fit xm:=by
    rcases hh.out xm (ae TB)with h|⟨rfl,_⟩
    ·exact(hx.kept z0 (ae Ey) xm h).2.2
    ·exact⟨GG,qU,GF⟩
   obtain⟨f1,f2,f3⟩:=W3
   have R7:(bB.dK z0 m).2.1.take (i+1).toNat=(bB.dK z0 m).2.1.take i.toNat++[xm]:=by rw[show(i+1).toNat=i.toNat+1 by omega,cV,TB];rfl
   refine Bh 9 rfl i.toNat (dD TB) (by kernel_rfl) (fun b3 Ts XL Wc XB yK p8 Le CD Uk nf=>?_)
   cases Uk
   have rE:=oO (nf 0 _ rfl)
   have x9:=nf 1 _ rfl
   have x8:=nf 2 _ rfl
   have x7:=nf 3 _ rfl
   have x6:=nf 4 _ rfl
   have x5:=nf 5 _ rfl
   have x4:=nf 6 _ rfl
   have M6:=nf 7 _ rfl
   have M5:=nf 8 _ rfl
   try simp only[aQ]
   refine aG (aq (aM ?_))
   refine Zu [.rd 0 [] 0 2,.rd 1 [.r 4 (some (nI xm.fm)),.r 4 (some (nI xm.to)),.r 4 (some (nI xm.de)),.r 4 (some (nI xm.seq)),.r 4 (some (nI xm.time)),.r 4 (some (.bool xm.dW)),.r 4 (some (.slice (yK,p8).fst ((aj eI xm.c.when).length) p8)),.r 4 (some (nI xm.c.place)),.r 4 (some (.slice (Le,CD).fst ((aj fe xm.c.ops).length) CD))] 0 0,.wr 2 [] 0,.wr 3 (ek 2 9) 0] [(3,[])] [100] (fun dy=>[zP 10 (dy 0)]) o0 (fun dy=>[(dy 0,.cells #[nI xm.fm,nI xm.to,nI xm.de,nI xm.seq,nI xm.time,.bool xm.dW,.slice (yK,p8).fst ((aj eI xm.c.when).length) p8,nI xm.c.place,.slice (Le,CD).fst ((aj fe xm.c.ops).length) CD] 62 (0,0))]) (fun dy=>(oC hi0 (oC fa (oC rE (oC x9 (oC x8 (oC x7 (oC x6 (oC x5 (oC x4 (oC M6 (oC M5 oN)))))))))))) (fun dy=>?_)
   refine Zs [zR 0,.rd 1 [.o 2 none] 0 0,zR 2,zR 3,.rd 4 [] 2 0,.rd 5 [] 2 0,.rd 6 [.o 2 none] 2 0,.rd 7 [] 2 0,.rd 8 [.o 1 none] 2 0,.rd 9 [] 2 0,.rd 10 [] 0 3] [] [zB 113 (!xm.dW&&xm.c.place==m.fm)] ?_
   refine cC (t:=!xm.dW&&xm.c.place==m.fm) (fun hput=>?_) (fun hput=>?_)
   ·have Qe:xm.dW=false∧xm.c.place=m.fm:=by simpa using hput
    refine Nm [(fT vb x.places x.base (iS x.places x.base m.fm x.L (bZ i.toNat (bB.dK z0 m).snd.fst))),(dN om.flatten x.ss),(c8 im.flatten (x.rs.set (fZ x.id x.ah m.fm.toNat+m.de.toNat) (bB.heard z0 m)))] ?_
    refine jT [(0,true),(1,true),(2,true),(3,true),(4,true),(5,true),(6,false)] [(6,[])] ?_
    refine Ya (bh 0 3++[.rd 3 [.o 0 none] 0 0,zR 4,.rd 5 (ek 2 3) 0 0]) [113] [zP 117 vb,zV 119 (.agg #[.slice (yK,p8).fst ((aj eI xm.c.when).length) p8,nI xm.c.place,.slice (Le,CD).fst ((aj fe xm.c.ops).length) CD])] ?_
    refine cn [] [0] 86 #[.pointer (some (⟨vb,0,none⟩)),.agg #[.slice (yK,p8).fst ((aj eI xm.c.when).length) p8,.int .i64 xm.c.place,.slice (Le,CD).fst ((aj fe xm.c.ops).length) CD]] (some 120) (by kernel_rfl) (by kernel_rfl) (by decide) (fun w S M hP hG _=>?_)
    refine(GP (c:=xm.c) (hG.at 0 rfl) hP (JO hx (by omega) m.fm (l:=(bB.dK z0 m).2.1.take i.toNat) (by rw[bp];omega)) (hG.at 10 rfl) (hG.at 11 rfl) f1 f2 f3).mono ?_
    rintro e2 w2 ⟨v,G',hR,hv⟩
    have Qf:sI x.places x.base (iS x.places x.base m.fm x.L ((bB.dK z0 m).2.1.take i.toNat)) xm.c=iS x.places x.base m.fm x.L ((bB.dK z0 m).2.1.take (i+1).toNat):=by rw[R7,xA,if_pos Qe]
    rw[Qf]at hR
    have Iy:=hR.less (G0:=[]) (by simp)
    refine⟨_,_,_,Iy,?_⟩
    try simp only[aQ]
    refine aC ?_
    try simp only[aQ]
    refine eu ?_
    try simp only[aQ]
    refine Zp [.rd 0 [] 0 1,zR 1] [120] [zI 99 (i+1)] (oC (show IntKind.i64.wrap (i+1)=i+1 from wrap_i64 (by omega) (by omega)) oN) ?_
    try simp only[aQ]
    refine bC (i+1) [0,3,4,5,6,97,98,99] [0,1] [2,0,1] [0,1,2,3,4,5,6,7,8,9] ?_ ?_ (by kernel_rfl) rfl rfl rfl
    ·exact⟨by omega,by omega⟩
    ·omega
   ·have Qf:iS x.places x.base m.fm x.L ((bB.dK z0 m).2.1.take i.toNat)=iS x.places x.base m.fm x.L ((bB.dK z0 m).2.1.take (i+1).toNat):=by rw[R7,xA,if_neg (by simpa using hput)]
    rw[Qf]
    refine aG (eu ?_)
    refine Zp [.rd 0 [] 0 1,zR 1] [113] [zI 99 (i+1)] (oC (show IntKind.i64.wrap (i+1)=i+1 from wrap_i64 (by omega) (by omega)) oN) ?_
    refine bC (i+1) [0,3,4,5,6,97,98,99] [0,1] [0,1,2] [0,1,2,3,4,5,6,7,8,9] ?_ ?_ (by kernel_rfl) rfl rfl rfl
    ·exact⟨by omega,by omega⟩
    ·omega
  ·have hie:i.toNat=(bB.dK z0 m).2.1.length:=by simp at hlt;omega
   rw[hie,iP]
   refine dO rfl ?_
   refine aq ?_
   refine Nm [(fT vb x.places x.base (iS x.places x.base m.fm x.L (bB.dK z0 m).snd.fst)),(dN om.flatten x.ss),(c8 im.flatten (x.rs.set (fZ x.id x.ah m.fm.toNat+m.de.toNat) (bB.heard z0 m)))] ?_
   refine jT [(0,true),(1,true),(2,true),(3,true),(4,true),(5,true),(6,true),(7,true),(8,true),(9,false),(10,true),(11,false),(12,true),(13,true)] [(9,[])] ?_
   refine Ya (bh 0 3++[.rd 3 [.o 0 none] 0 0,zR 4,.rd 5 [.o 1 none] 0 0,zR 6,.rd 7 [.o 1 none] 0 0,zR 8]) [100,0,3,6,97,98,99] [zI 125 (↑x.id:Int),zI 127 m.fm,zI 129 m.de,zP 130 NL] ?_
   refine cn [] [2] 93 #[.pointer (some (⟨NL,0,none⟩))] (some 131) (by kernel_rfl) (by kernel_rfl) (by decide) (fun w S M hP hG _=>?_)
   refine(Mw (y:=bB.heard z0 m) hP Ns (bX (ai.1 (show x.rs[fZ x.id x.ah m.fm.toNat+m.de.toNat]?=some z0 from Ey)).1)).mono ?_
   rintro e2 w2 hR
   refine⟨_,_,_,hR,?_⟩
   try simp only[aQ]
   refine Ym [zR 10,.wr 11 [] 0,zR 12,zR 13] [131,125,127,129,130] (fun dy=>[zS 4 (sA (dy 0) 0) 1 1]) o0 (fun dy=>[(dy 0,.cells #[nI (↑x.id:Int),nI m.fm,nI m.de,nI ((bB.heard z0 m).q),nI (-1),.bool false,.slice none 0 0,nI 0,.slice none 0 0] 62 (0,0))]) [] (fun dy=>?_)
   try simp only[aQ]
   refine aC ?_
   try simp only[aQ]
   refine Yr [[],[]] (.tuple #[.slice (sA (dy 0) 0) 1 1,.nilIface]) fun a w s=>?_
   obtain⟨aU,s0⟩:=s
   have s1:=s0.data (cap:=1) 2 (rows:=[fC (Gi x m (bB.heard z0 m).q)]) rfl (show 0<9 by decide) (fun row hrow=>by rw[ay.1 hrow];rfl) (by simp) ⟨.inl ⟨rfl,rfl⟩,.inl ⟨rfl,rfl⟩,.inl ⟨rfl,rfl⟩,.inl ⟨rfl,rfl⟩,.inl ⟨rfl,rfl⟩,.inl ⟨rfl,rfl⟩,.inr (.inr ⟨_,_,_,rfl,rfl⟩),.inl ⟨rfl,rfl⟩,.inr (.inr ⟨_,_,_,rfl,rfl⟩),trivial⟩
   have s2:=(St.dY ⟨aU,s1⟩ 0 rfl).jz (ee _ [3,0,1,2] 3 4 rfl rfl rfl Wn)
   exact⟨_,_,_,_,s2.ret (by simp) [0] [10] rfl rfl,.inl ⟨rfl,rfl⟩⟩
end Go.Proofs.YtmkapocibaojdaaGreatDoor
end
section
namespace Go.Sx
open Go
def Bg (n:Nat) (ops:Array Oper) (E:Env) (i:Nat):Option (Value×Value×TypeId×TypeId×Option Tmp):=
 match ops[i]? with
 | none=>none
 | some o=>if nT n o.dst then match o.guard with
  | some _=>none
  | none=>match o.op with
   | .call c=>match c.callee with
    | .builtin .append=>match jN E none c.args.toList with
     | some []=>match c.args.toList,c.argTypes.toList with
      | [s,x],[t,u]=>some (mG E s,mG E x,t,u,o.dst)
      | _,_=>none
     | _=>none
    | _=>none
   | _=>none
  else none
theorem Bf {P:Program} {f:Func} [Pan f] {R:Act→World→Prop} {n:Nat} [Dfr n] {ops:Array Oper} {i:Nat} {E:Env} {h r:List (Nat×Obj)} {F:List (List Nat×World)} {Y:fQ} {sv xv:Value} {t tn:TypeId} {dst:Option Tmp} (he:Bg n ops E i=some (sv,xv,t,tn,dst))
  {a:Act} {w:World} (s:St n E h r F Y a w) {K:Act→World→Prop} {k:List oR}
  (H:∀ty,∃v' w',(Builtin.append_ #[t,tn] ty #[sv,xv]).run P w=.ok v' w'∧∀a',Ag n (E.put dst (.val v')) a'→K a' w'):wpOp P ops (mq P f R k) i K a w:=by
 unfold Bg at he
 split at he
 ·cases he
 rename_i o ho
 split at he
 case isFalse=>cases he
 rename_i hd
 split at he
 ·cases he
 rename_i hg
 split at he
 case h_2=>cases he
 rename_i c hc
 split at he
 case h_2=>cases he
 rename_i AY
 split at he
 case h_2=>cases he
 rename_i hq
 split at he
 case h_2=>cases he
 rename_i xs x t' u hargs AT
 simp only[az,aH]at he
 obtain⟨rfl,rfl,rfl,rfl,rfl⟩:=he
 have uP:=eG s.ag (fun c w h=>by cases h) _ _ hq trivial
 have e1:a.eval xs=mG E xs:=uP xs (by rw[hargs];simp)
 have e2:a.eval x=mG E x:=uP x (by rw[hargs];simp)
 have hca:c.args = #[xs,x]:=by rw[←eJ (xs:=c.args),hargs]
 have hct:c.argTypes = #[t',u]:=by rw[←eJ (xs:=c.argTypes),AT]
 obtain⟨v',w',hrun,hk⟩:=H o.type
 unfold wpOp
 simp only[ho]
 rw[if_pos (by simp[Region.wanted,hg])]
 refine .inl ?_
 unfold Oper.wp execOp
 simp only[hc,resolve,AY,hca,hct,invoke,builtin,Sem.run_bind,Sem.run_pure,Result.andThen_ok,lg,cj,gy,e1,e2,hrun]
 exact hk _ (s.ag.put hd (.val v'))
section app
variable {P:Program} {f:Func} [Pan f] {R:Act→World→Prop} {n:Nat} [Dfr n] {k:List oR} {E:Env} {h r:List (Nat×Obj)} {F:List (List Nat×World)} {Y:fQ}
theorem Gz {id L0 i:Nat} {ck:Bool} {Wp:List (Nat×List Nat)} {rest:List (Nat×Bool)} {m:Nat} {t tn e:TypeId} {kn:IntKind} {inf:TypeInfo} {z:Value} {dst:Option Tmp}
  (he:Bg n (bS f id) E i=some (.slice none 0 0,.int kn m,t,tn,dst)) (hok:(!ck||okW L0 (Wp.lookup i) [])=true)
  (ht:P.underlying t=some (.slice e)) (htn:P.underlying tn=some (.int kn)) (hi:P.info? e=some inf) (hz:inf.zero=some z) (hzs:z.cells.size=inf.size) (hs0:0<inf.size) (hm:0<m)
  (wG:m≤maxLen) (hby:m*inf.bytes≤140737488355328)
  (B:∀g' cap' cur',Row cur' cap' 0 inf.size []→m≤cap'→JR P f R n (bS f id) L0 ck rest (Wp.filter (·.1 != i)) k (E.put dst (.val (.slice (some ⟨g',0,none⟩) m cap'))) (h++[(g',.cells cur' e (0,0))]) r F Y) :
  JR P f R n (bS f id) L0 ck ((i,false)::rest) Wp k E h r F Y:=by
 intro BB Hd aU a w s hH hR hN hW
 simp only[PW]
 refine Bf he s.st fun ty=>?_
 have hrun:=Go.Lib.run_append_nil_zeros (P:=P) w t tn ty e inf z kn kn ht htn hi hz m hm hs0 (by simp[maxLen]at wG;omega) (by omega)
 refine⟨_,_,hrun,fun a' hA=>?_⟩
 have hle:=grownCap_ge w m 0 e
 have R9:=grownCap_le_maxLen w m 0 e wG
 generalize grownCap w m 0 e=cap at hrun hA hle R9 ⊢
 generalize Ck:Builtin.zeroCells z.cells m++Builtin.zeroCells z.cells (cap - m)=cur at hrun hA ⊢
 have hsz:cur.size=cap*inf.size:=by
  rw[←Ck,Array.size_append,Ar,Ar,hzs,←jR]
  congr 1
  omega
 have hrow:Row cur cap 0 inf.size []:=⟨by simp,hsz,by omega,R9,by simp⟩
 have hheap:(w.drew.alloc (.cells cur e)).heap=w.heap.push (.cells cur e):=rfl
 have hall:∀b,b<w.heap.size→(w.drew.alloc (.cells cur e)).heap[b]?=w.heap[b]?:=fun b hb=>by
  rw[hheap,jx]
  rw[if_neg (by omega)]
 have N8:(w.drew.alloc (.cells cur e)).heap[w.heap.size]?=some (.cells cur e (0,0)):=by
  rw[hheap,jx,if_pos rfl]
 have Xk:wA (h++[(w.heap.size,.cells cur e (0,0))]) r (w.drew.alloc (.cells cur e)):=by
  refine MB s.own (fun x hx=>hall _ (s.own.ro.lt hx)) (fun x hx=>?_) ?_ (fun x hx hm=>?_)
  ·rcases au.1 hx with hx|hx
   ·exact(hall _ (s.own.own.lt hx)).trans (s.own.own x hx)
   ·rw[ay]at hx;subst hx;exact N8
  ·rw[bw,be]
   refine⟨s.own.nodup,by simp,fun x hx y hy=>?_⟩
   simp at hy;subst hy
   obtain⟨u,hu,rfl⟩:=aB.1 hx
   have:=s.own.own.lt hu
   omega
  ·rw[bw]at hm
   rcases au.1 hm with hm|hm
   ·exact s.own.apart x hx hm
   ·simp at hm
    have:=s.own.ro.lt hx
    omega
 have d:wU h (h++[(w.heap.size,.cells cur e (0,0))]) [] w (w.drew.alloc (.cells cur e)):=by
  refine⟨rfl,rfl,rfl,by rw[hheap,Array.size_push];omega,fun b hb _=>hall b hb,fun j hj=>?_,by simp,fun j hj x hx=>?_,Sem.gA hrun⟩
  ·rw[bz hj]
  ·rw[bt hj]at hx
   have:=ae hx
   simp at this
   rw[this]
   exact aX _
 refine⟨fun uQ=>vB d (by simpa [uQ]using hok) hN,?_⟩
 rw[jP,←xX hR.len d _ (gT hW)]
 exact B _ cap cur hrow hle BB Hd aU a' _ (s.go hA Xk d.dd) hH (hR.kE d) (hN.kE hR.size d) (gT hW)
theorem Jq {id L0 i:Nat} {ck:Bool} {Wp:List (Nat×List Nat)} {rest:List (Nat×Bool)} (t tn e size bytes:Nat) (m:Nat) (kn:IntKind) (z:Value) {dst:Option Tmp}
  (he:Bg n (bS f id) E i=some (.slice none 0 0,.int kn m,t,tn,dst)) (hok:(!ck||okW L0 (Wp.lookup i) [])=true)
  (ht:P.underlying t=some (.slice e)) (htn:P.underlying tn=some (.int kn)) (hi:(P.info? e).map (fun i=>(i.zero,i.size,i.bytes))=some (some z,size,bytes)) (hzs:z.cells.size=size) (hs0:0<size) (hm:0<m)
  (wG:m≤maxLen) (hby:m*bytes≤140737488355328)
  (B:∀g' cap' cur',Row cur' cap' 0 size []→m≤cap'→JR P f R n (bS f id) L0 ck rest (Wp.filter (·.1 != i)) k (E.put dst (.val (.slice (some ⟨g',0,none⟩) m cap'))) (h++[(g',.cells cur' e (0,0))]) r F Y) :
  JR P f R n (bS f id) L0 ck ((i,false)::rest) Wp k E h r F Y:=by
 obtain⟨inf,EF,FX,rfl,rfl⟩:=vL hi
 exact Gz he hok ht htn EF FX hzs hs0 hm wG hby B
end app
end Go.Sx
end
section
namespace Go.Proofs.YtmkapocibaojdaaGreatDoor
open Go Go.Sx
set_option maxHeartbeats 4000000 in
theorem KN {w:World} {S:Nat→Prop} {n:Nat} (h1:n≤1000000) :
  Calls Tryz.prog 150 #[.slice none 0 0,.int .i64 n] w fun e w'=>∃a c,
   cQ [] w S w' e (.slice a 0 c) [aT (.slice a 0 c) 127 1 (([]:List Nat).map eP)] []:=by
 refine jL Tryz.func150 RB (args:=[.slice none 0 0,.int .i64 n]) (S:=S) (G:=[]) (by kernel_rfl) (.nil _ _) ?_
 refine Zs [zR 0] [] [zS 4 none 0 0] ?_
 refine aq ?_
 refine Zs [zR 0,zR 1] [] [zB 6 false] ?_
 refine cF ?_
 refine aG (aq ?_)
 refine Zt (bh 0 6++[.rd 6 [] 0 1,zR 7]) [6] [zI 1 ((↑n:Int) - 0)] (oC (show IntKind.i64.wrap ((↑n:Int) - 0)=(↑n:Int) - 0 from wrap_i64 (by omega) (by omega)) oN) ?_
 refine Zs [zR 0,zR 1] [] [zB 16 (decide ((↑n:Int) - 0>0))] ?_
 refine cC (t:=decide ((↑n:Int) - 0>0)) (fun hp=>?_) (fun hp=>?_)
 ·refine jT [(0,true),(1,true),(2,true),(3,true),(4,true),(5,false),(6,true),(7,true),(8,true),(9,true)] [] ?_
  refine Yp (bh 0 3++[.rd 3 [] 0 4,zR 4]) [16,1] [zS 20 none 0 0,zI 21 ((↑n:Int) - 0)] (oC (show(0:Int)≤(0:Int) from by omega) (oC (show(0:Int)≤(↑(0:Nat):Int) from by omega) oN)) ?_
  refine Jq 125 3 127 1 8 n .i64 (.pointer none) (dst:=some 22) (by kernel_rfl) (by kernel_rfl) (by kernel_rfl) (by kernel_rfl) (by kernel_rfl) rfl (by decide) (by simp at hp;omega) (by simp only[maxLen];omega) (by omega) fun g cap cur hrow hle=>?_
  refine Yp [zR 6,zR 7,.rd 8 [] 0 4,zR 9] [22,20,21] [zS 0 (sA g 0) 0 cap] (oC (show(0:Int)≤(0:Int) from by omega) (oC (show(0:Int)≤(↑cap:Int) from by omega) oN)) ?_
  refine aC ?_
  refine Zs [zR 0,zR 1] [0] [zS 4 (sA g 0) 0 cap] ?_
  refine Yr [[]] (.slice (sA g 0) 0 cap) fun a w s=>?_
  have s1:=(s.dY 0 rfl).jz (oW (kM [] 1 []) fun _ _=>⟨rfl,gv.nil _ _ _ _⟩)
  have s2:=s1.jz (gw 0 1 rfl rfl (rows:=[]) hrow (by decide))
  exact⟨_,_,s2.ret (by simp) [0] [] rfl rfl⟩
 ·refine bH (fO eP 127 1) ?_
  refine Nm [aT (.slice none 0 0) 127 1 (aj eP [])] ?_
  refine aG ?_
  refine Zs [zR 0,zR 1] [16,1,0] [] ?_
  refine Yr [[]] (.slice none 0 0) fun a w s=>?_
  exact⟨_,_,s.ret (by simp) [0] [] rfl rfl⟩
end Go.Proofs.YtmkapocibaojdaaGreatDoor
end
section
namespace Go.Proofs.YtmkapocibaojdaaGreatDoor
open Go Go.Sx
theorem vN {om:List (List Nat)} {i:Nat} {r:List Nat} (h:om[i]?=some r):(om.take (i+1)).flatten=(om.take i).flatten++r:=by rw[cV,h,bj];simp
theorem wR (om:List (List Nat)) (i:Nat):(om.take i).flatten.length≤om.flatten.length:=by
 conv=>rhs;rw[←iZ i om,bj,bA]
 omega
set_option maxHeartbeats 4000000 in
theorem KY {w:World} {S:Nat→Prop} {om:List (List Nat)} {a:Option Addr} {p c:Nat} (h:cm w S (.slice a p c) (jI om)) (hp:p≤6) (hl:om.flatten.length≤36) :
  Calls Tryz.prog 89 #[.slice a p c] w fun e w'=>∃ua uc,
   cQ [] w S w' e (.slice ua om.flatten.length uc) [aT (.slice ua om.flatten.length uc) 127 1 (om.flatten.map eP)] []:=by
 have pS:=h.pA
 rw[aA]at pS
 subst pS
 refine jL Tryz.func89 UJ (args:=[.slice a om.length c]) (S:=S) (G:=[(_,jI om)]) (by kernel_rfl) (.cons h (.nil _ _)) ?_
 refine Zs [zR 0] [] [zS 2 none 0 0] ?_
 refine Zs [zR 0] [] [zI 3 0] ?_
 refine aq ?_
 refine Zs (bh 0 3) [] [zS 9 a om.length c,zI 10 (↑om.length:Int),zI 11 0] ?_
 refine aM ?_
 refine cU (fun i:Int=>[zS 0 a om.length c,zS 2 none 0 0,zI 3 ((om.take i.toNat).flatten.length:Int),zS 9 a om.length c,zI 10 (↑om.length:Int),zI 11 i]) (fun i:Int=>[]) (fun i:Int=>[]) (fun i:Int=>[(.slice a om.length c,(jI om))]) (fun i:Int=>(om.length - i).toNat) (fun i:Int=>(0≤i∧i≤om.length)) 0 [0,2,3,9,10,11] [] [] [0] ?_ (by kernel_rfl) rfl rfl rfl ?_
 ·exact⟨by omega,by omega⟩
 rintro i ⟨hi0,hi⟩
 have hfl:=wR om i.toNat
 refine Zs [zR 0] [] [zB 12 (decide (i<(↑om.length:Int)))] ?_
 refine aq ?_
 refine cC (t:=decide (i<(↑om.length:Int))) (fun hlt=>?_) (fun hlt=>?_)
 ·have fa:i<om.length:=by simpa using hlt
  obtain⟨r,hr⟩:∃r,om[i.toNat]?=some r:=⟨_,ak (by omega)⟩
  have Ud:=wR om (i.toNat+1)
  have hsc:=congrArg fo (vN hr)
  rw[bA]at hsc
  refine j0 0 rfl i.toNat (dD hr) (by kernel_rfl) (fun b1 fu uf vi vm fg cJ ha1 cP=>?_)
  cases ha1
  have cg:=oO (cP 0 _ rfl)
  have Ig:(aj eP r).length=r.length:=aA ..
  try simp only[aQ]
  refine aG (aq (aM ?_))
  refine Zt [.rd 0 [] 0 2,.rd 1 [.r 0 (some (.slice (fg,cJ).fst ((aj eP r).length) cJ))] 0 0,zR 2] [12] [zS 5 (fg,cJ).fst ((aj eP r).length) cJ] (oC hi0 (oC fa (oC cg oN))) ?_
  refine Zt (bh 0 3++[.rd 3 [] 0 1,zR 4]) [] [zI 3 ((↑(bZ i.toNat om).flatten.length:Int)+(↑(aj eP r).length:Int))] (oC (show IntKind.i64.wrap ((↑(bZ i.toNat om).flatten.length:Int)+(↑(aj eP r).length:Int))=(↑(bZ i.toNat om).flatten.length:Int)+(↑(aj eP r).length:Int) from wrap_i64 (by omega) (by omega)) oN) ?_
  refine Zs [zR 0,zR 1] [] [zB 20 false] ?_
  refine cF ?_
  refine aG (eu ?_)
  refine Zp [.rd 0 [] 0 1,zR 1] [20] [zI 11 (i+1)] (oC (show IntKind.i64.wrap (i+1)=i+1 from wrap_i64 (by omega) (by omega)) oN) ?_
  have e3:((om.take i.toNat).flatten.length:Int)+((aj eP r).length:Int)=((om.take (i+1).toNat).flatten.length:Int):=by rw[show(i+1).toNat=i.toNat+1 by omega];omega
  rw[e3]
  refine bC (i+1) [0,2,3,9,10,11] [] [] [0] ?_ ?_ (by kernel_rfl) rfl rfl rfl
  ·exact⟨by omega,by omega⟩
  ·omega
 ·have hie:i.toNat=om.length:=by simp at hlt;omega
  rw[hie,iP]
  refine dO rfl ?_
  refine jS [(0,true),(1,false),(2,true)] [] ?_
  refine Ya [zR 0] [12,3,9,10,11] [zI 23 (↑om.flatten.length:Int)] ?_
  refine Yc 150 #[.slice none 0 0,nI (↑om.flatten.length:Int)] (some 24) fun w S hG=>?_
  refine(KN (S:=S) (n:=om.flatten.length) (by omega)).mono ?_
  rintro e1 w1 ⟨ga,gc,hR⟩
  refine⟨_,_,_,hR,?_⟩
  try simp only[aQ]
  refine Ya [zR 2] [24,23] [zS 6 ga 0 gc] ?_
  refine aC (aq ?_)
  refine Zs (bh 0 3) [0] [zS 25 a om.length c,zI 26 (↑om.length:Int),zI 27 0] ?_
  refine aM ?_
  refine cU (fun z:my=>[zS 2 none 0 0,zS 6 z.a z.k z.c,zS 25 a om.length c,zI 26 (↑om.length:Int),zI 27 z.i]) (fun z:my=>[]) (fun z:my=>[aT (.slice z.a z.k z.c) 127 1 ((om.take z.i.toNat).flatten.map eP)]) (fun z:my=>[(.slice a om.length c,(jI om))]) (fun z:my=>(om.length - z.i).toNat) (fun z:my=>(0≤z.i∧z.i≤om.length)) ⟨0,ga,0,gc⟩ [2,6,25,26,27] [] [0] [0] ?_ (by kernel_rfl) rfl rfl rfl ?_
  ·exact⟨by simp,by simp⟩
  rintro⟨j,av,k,cv⟩ ⟨Bp,hj⟩
  dsimp only at Bp hj ⊢
  refine b9 (eC 0 rfl) fun _ hk=>?_
  rw[aA]at hk
  have X6:=wR om j.toNat
  refine Zs [zR 0] [] [zB 28 (decide (j<(↑om.length:Int)))] ?_
  refine aq ?_
  refine cC (t:=decide (j<(↑om.length:Int))) (fun fa=>?_) (fun fa=>?_)
  ·have yd:j<om.length:=by simpa using fa
   obtain⟨r,hr⟩:∃r,om[j.toNat]?=some r:=⟨_,ak (by omega)⟩
   have Ud:=wR om (j.toNat+1)
   have hsc:=congrArg fo (vN hr)
   rw[bA]at hsc
   refine j0 0 rfl j.toNat (dD hr) (by kernel_rfl) (fun b1 fu uf vi vm fg cJ ha1 cP=>?_)
   cases ha1
   have cg:=oO (cP 0 _ rfl)
   have Ig:(aj eP r).length=r.length:=aA ..
   refine Nm [aT (.slice av k cv) 127 1 (aj eP (bZ j.toNat om).flatten)] ?_
   try simp only[aQ]
   refine aG (aq (aM ?_))
   refine Zt [.rd 0 [] 0 2,.rd 1 [.r 0 (some (.slice (fg,cJ).fst ((aj eP r).length) cJ))] 0 0,zR 2] [28] [zS 8 (fg,cJ).fst ((aj eP r).length) cJ] (oC Bp (oC yd (oC cg oN))) ?_
   refine jT [(0,true),(1,true),(2,false),(3,true)] [] ?_
   refine Ya [zR 0,zR 1] [] [zS 31 av k cv,zS 32 (fg,cJ).fst ((aj eP r).length) cJ] ?_
   refine eY 0 125 127 1 8 (.pointer none) (a0:=av) (len:=k) (iB:=cv) (ax:=(fg,cJ).fst) (m:=(aj eP r).length) (c:=cJ) (dst:=(some 33)) r (by kernel_rfl) (by kernel_rfl) (by kernel_rfl) (by kernel_rfl) rfl (by decide) rfl (fun _ _ _ s=>pK s 1 rfl (by decide)) (by simp only[maxLen];omega) (by omega) (fun gq gp=>?_)
   try simp only[aQ]
   refine Ya [zR 3] [33,31,32] [zS 6 gq (k+(aj eP r).length) gp] ?_
   try simp only[aQ]
   refine aC ?_
   try simp only[aQ]
   refine eu ?_
   try simp only[aQ]
   refine Zp [.rd 0 [] 0 1,zR 1] [] [zI 27 (j+1)] (oC (show IntKind.i64.wrap (j+1)=j+1 from wrap_i64 (by omega) (by omega)) oN) ?_
   try simp only[aQ]
   have e4:(om.take j.toNat).flatten++r=(om.take (j+1).toNat).flatten:=by rw[show(j+1).toNat=j.toNat+1 by omega,vN hr]
   rw[e4]
   refine bC ⟨j+1,_,k+(aj eP r).length,_⟩ [2,6,25,26,27] [] [0] [0] ?_ ?_ (by kernel_rfl) rfl rfl rfl
   ·exact⟨by simp only;omega,by simp only;omega⟩
   ·simp only
    omega
  ·have Se:j.toNat=om.length:=by simp at fa;omega
   rw[Se,iP]at hk ⊢
   subst hk
   refine dO rfl ?_
   refine Zs [zR 0,zR 1] [28,6,25,26,27] [zS 2 av om.flatten.length cv] ?_
   refine Yr [[]] (.slice av om.flatten.length cv) fun a w s=>?_
   exact⟨_,_,s.ret (by simp) [0] [] rfl rfl⟩
end Go.Proofs.YtmkapocibaojdaaGreatDoor
end
section
namespace Go.Proofs.YtmkapocibaojdaaGreatDoor
open Go Go.Sx
def tY (x:fJ) (p:Nat):List dL:=(x.ss.take p).map (fun y=>dL.dW y x.clock)++x.ss.drop p
def yH (x:fJ) (p:Nat):List bN:=(x.ss.take p).map fun y=>dL.kC y x.clock
theorem IZ (x:fJ) {p:Nat} (h:x.ss.length≤p):tY x p=(vR x).ss:=by rw[tY,br h,List.drop_of_length_le h,bf];rfl
theorem CG (x:fJ) {p:Nat} (h:x.ss.length≤p):yH x p=iE x:=by rw[yH,br h];rfl
theorem K6 {x:fJ} {p:Nat} {y:dL} (h:x.ss[p]?=some y):(tY x p)[p]?=some y:=by
 have hi:=(ai.1 h).1
 rw[tY,bt (by rw[aA,bp];omega),aA,bp,lX (by omega),ec,cq]
 exact h
theorem Gd {x:fJ} {p:Nat} {y:dL} (h:x.ss[p]?=some y):(tY x p).set p (dL.dW y x.clock)=tY x (p+1):=by
 obtain⟨hi,he⟩:=ai.1 h
 have hl:((x.ss.take p).map fun y=>dL.dW y x.clock).length=p:=by rw[aA,bp];omega
 rw[tY,tY,List.set_append_right _ _ (by omega),hl,ec,gD hi,he,cV,h,bw,bY]
 rfl
theorem Ge {x:fJ} {p:Nat} {y:dL} (h:x.ss[p]?=some y):yH x p++[dL.kC y x.clock]=yH x (p+1):=by
 rw[yH,yH,cV,h,bw]
 rfl
theorem F9 (x:fJ) (c:bO):(lM x c).length≤x.ss.length:=by
 have h:=Ca x c x.ss.length
 rwa[Cb x c (aX _)]at h
theorem D1 {x:fJ} {n:Nat} (hx:iW x n):(iE x).length≤36:=by
 have h:=hx.Ot.2
 rwa[iE,aA]
theorem CI {x:fJ} {n:Nat} (hx:iW x n) {y:dL} (hy:y∈x.ss):lQ y.t x.clock=0:=by
 have h1:=(hx.snd y hy).2.1
 have h2:=hx.c0
 have h3:=hx.c1
 rw[lQ,if_neg (by omega),if_neg (by omega)]
set_option maxHeartbeats 4000000 in
theorem Fy {w:World} {S:Nat→Prop} {M:List Nat} {er:Nat→Addr} {eb:Nat→Array Value×TypeId} {x:fJ} {b n:Nat} (hC:cm w S .nilIface (dC er eb)) (hP:Pre w S M [bQ b x]) (hx:iW x n) (hn:n<600) :
  Calls Tryz.prog 23 #[.pointer (some ⟨b,0,none⟩)] w fun e w'=>∃ua uc,
   cQ M w S w' e (.slice ua (iE x).length uc) [bQ b (vR x)] [(.slice ua (iE x).length uc,.sl 9 ((iE x).map fC))]:=by
 refine pW Tryz.func23 U8 (args:=[.pointer (some ⟨b,0,none⟩)]) (S:=S) (C:=[bQ b x]) (G:=[(_,dC er eb)]) (by kernel_rfl) hP (.cons hC (.nil _ _)) ?_
 refine b9 (eZ 0 rfl) fun y hy=>?_
 obtain⟨vb,oa,oc,ia,ic,om,im⟩:=y
 refine Nm [bL b (.cells #[.pointer (sA vb 0),nI (↑x.id:Int),nI (↑x.places:Int),nI (↑x.ah:Int),nI x.clock,.slice (iN.mk vb oa oc ia ic om im).oa x.places oc,.slice (iN.mk vb oa oc ia ic om im).ia x.places ic] 124 (0,0)),(fT (iN.mk vb oa oc ia ic om im).vb x.places x.base x.L),(dN (iN.mk vb oa oc ia ic om im).om.flatten x.ss),(c8 (iN.mk vb oa oc ia ic om im).im.flatten x.rs)] ?_
 refine fh 0 rfl ?_
 refine bH (fO fC 62 9) ?_
 refine Nm [(fT (iN.mk vb oa oc ia ic om im).vb x.places x.base x.L),(dN (iN.mk vb oa oc ia ic om im).om.flatten x.ss),(c8 (iN.mk vb oa oc ia ic om im).im.flatten x.rs),aT (.slice none 0 0) 62 9 (aj fC [])] ?_
 have y9:=hx.p6
 have FQ:=hx.s6
 obtain⟨Bn,TJ⟩:=hx.Ot
 have VD:=hy.om.DJ
 have X2:om.flatten.length=x.ss.length:=by rw[Bn];exact VD
 try simp only[aQ]
 refine Zs [zR 0] [] [zS 2 none 0 0] ?_
 refine Zs [zR 0] [] [zS 3 none 0 0] ?_
 refine aq ?_
 refine jS [(0,true),(1,true),(2,true),(3,true),(4,false),(5,true),(6,true)] [] ?_
 refine Ya (bh 0 3++[.rd 3 [.o 0 none] 0 0]) [] [zS 11 oa x.places oc] ?_
 refine Yc 89 #[.slice oa x.places oc] (some 12) fun w S hG=>?_
 refine(KY (om:=om) (hG.at 1 rfl) y9 (by omega)).mono ?_
 rintro e1 w1 ⟨ua,uc,hR⟩
 refine⟨_,_,_,hR,?_⟩
 try simp only[aQ]
 refine Ya [zR 5,zR 6] [11] [zI 13 (↑om.flatten.length:Int),zI 14 0] ?_
 refine aC (aM ?_)
 refine bH (dg 4 rfl) ?_
 refine Nm [(fT vb x.places x.base x.L),(dN om.flatten x.ss),(c8 im.flatten x.rs),aT (.slice none 0 0) 62 9 (aj fC [])] ?_
 refine cU (fun z:my=>[zP 0 b,zS 2 none 0 0,zS 3 z.a z.k z.c,zS 12 ua om.flatten.length uc,zI 13 (↑om.flatten.length:Int),zI 14 z.i]) (fun z:my=>[(b,.cells #[.pointer (sA vb 0),nI (↑x.id:Int),nI (↑x.places:Int),nI (↑x.ah:Int),nI x.clock,.slice oa x.places oc,.slice ia x.places ic] 124 (0,0))]) (fun z:my=>[fT vb x.places x.base x.L,dN om.flatten (tY x z.i.toNat),c8 im.flatten x.rs,aT (.slice z.a z.k z.c) 62 9 ((yH x z.i.toNat).map fC)]) (fun z:my=>[(.nilIface,(dC er eb)),(.slice oa x.places oc,(jI om)),(.slice ia x.places ic,(jI im)),(.slice ua om.flatten.length uc,(D.sl 1 (aj eP om.flatten)))]) (fun z:my=>(om.flatten.length - z.i).toNat) (fun z:my=>(0≤z.i∧z.i≤om.flatten.length)) ⟨0,none,0,0⟩ [0,2,3,12,13,14] [0] [0,1,2,3] [0,1,2,3] ?_ (by kernel_rfl) rfl rfl rfl ?_
 ·exact⟨by simp,by simp⟩
 rintro⟨j,av,k,cv⟩ ⟨Bp,hj⟩
 dsimp only at Bp hj ⊢
 refine b9 (eC 3 rfl) fun _ hk=>?_
 have JC:k≤36:=by simp[yH]at hk;omega
 refine Zs [zR 0] [] [zB 15 (decide (j<(↑om.flatten.length:Int)))] ?_
 refine aq ?_
 refine cC (t:=decide (j<(↑om.flatten.length:Int))) (fun hlt=>?_) (fun hlt=>?_)
 ·have fa:j<om.flatten.length:=by simpa using hlt
  obtain⟨bb,JH⟩:∃bb,om.flatten[j.toNat]?=some bb:=⟨_,ak (by omega)⟩
  obtain⟨y0,hy0⟩:∃y0,x.ss[j.toNat]?=some y0:=⟨_,ak (by omega)⟩
  have Wy:=hx.snd y0 (ae hy0)
  refine gr 3 rfl j.toNat (dD JH) (by kernel_rfl) (fun b1 fu uf vi vm ha1 cP=>?_)
  cases ha1
  have cg:=oO (cP 0 _ rfl)
  refine Nm [(fT vb x.places x.base x.L),(dN om.flatten (tY x j.toNat)),(c8 im.flatten x.rs),aT (.slice av k cv) 62 9 (aj fC (yH x j.toNat))] ?_
  try simp only[aQ]
  refine aG (aq (aM ?_))
  refine Zt [.rd 0 [] 0 2,.rd 1 [.r 0 (some (.pointer (sA bb 0)))] 0 0,zR 2] [15] [zP 5 bb] (oC Bp (oC fa (oC cg oN))) ?_
  refine jS [(0,true),(1,true),(2,true),(3,true),(4,true),(5,false),(6,true),(7,true),(8,true),(9,false),(10,false),(11,true)] [] ?_
  refine Ya (bh 0 4++[.rd 4 [.o 0 none] 0 0]) [] [zP 19 bb,zI 23 x.clock] ?_
  refine cn [] [1] 90 #[.pointer (some (⟨bb,0,none⟩)),.int .i64 x.clock] (some 24) (by kernel_rfl) (by kernel_rfl) (by decide) (fun w S M hP hG _=>?_)
  refine(JZ (time:=x.clock) (hG.at 0 rfl) hP JH (K6 hy0) Wy.2.2.1 (by omega) (by omega) (CI hx (ae hy0))).mono ?_
  rintro e2 w2 ⟨u1,d1,u2,d2,hR⟩
  have JD:j.toNat+1=(j+1).toNat:=by omega
  rw[Gd hy0,JD]at hR
  refine⟨_,_,_,hR,?_⟩
  try simp only[aQ]
  refine Ym (bh 6 9++[.wr 9 [] 0,.wr 10 (ek 1 9) 0,zR 11]) [24,19,23] (fun aN=>[zP 6 (aN 0)]) o0 (fun aN=>[(aN 0,.cells #[nI ((dL.kC y0 x.clock).fm),nI ((dL.kC y0 x.clock).to),nI ((dL.kC y0 x.clock).de),nI ((dL.kC y0 x.clock).seq),nI ((dL.kC y0 x.clock).time),.bool true,.slice u1 0 d1,nI ((dL.kC y0 x.clock).c.place),.slice u2 0 d2] 62 (0,0))]) [] (fun aN=>?_)
  try simp only[aQ]
  refine aC ?_
  try simp only[aQ]
  refine jT [(0,true),(1,true),(2,false),(3,false),(4,true)] [] ?_
  refine Ym [zR 0,.rd 1 (ek 1 9) 0 0,.wr 2 [] 0] [] (fun dy=>[zS 27 av k cv,zS 29 (sA (dy 0) 0) 1 1]) o0 (fun dy=>[(dy 0,.cells #[nI ((dL.kC y0 x.clock).fm),nI ((dL.kC y0 x.clock).to),nI ((dL.kC y0 x.clock).de),nI ((dL.kC y0 x.clock).seq),nI ((dL.kC y0 x.clock).time),.bool true,.slice u1 0 d1,nI ((dL.kC y0 x.clock).c.place),.slice u2 0 d2] 62 (0,0))]) [] (fun dy=>?_)
  refine JN [(fT vb x.places x.base x.L),(c8 im.flatten x.rs),aT (.slice av k cv) 62 9 (aj fC (yH x j.toNat)),(dN om.flatten (tY x (j+1).toNat))] ?_
  refine eY 2 56 62 9 104 (.agg #[.int .i64 0,.int .i64 0,.int .i64 0,.int .i64 0,.int .i64 0,.bool false,.slice none 0 0,.int .i64 0,.slice none 0 0]) (a0:=av) (len:=k) (iB:=cv) (ax:=(some (⟨dy 0,0,none⟩))) (m:=1) (c:=1) (dst:=(some 30)) [(dL.kC y0 x.clock)] (by kernel_rfl) (by kernel_rfl) (by kernel_rfl) (by kernel_rfl) rfl (by decide) rfl (fun _ _ _ s=>fK s 2 rfl rfl ⟨.inl ⟨rfl,rfl⟩,⟨.inl ⟨rfl,rfl⟩,⟨.inl ⟨rfl,rfl⟩,⟨.inl ⟨rfl,rfl⟩,⟨.inl ⟨rfl,rfl⟩,⟨.inl ⟨rfl,rfl⟩,⟨.inr (.inl (ae (i:=4) rfl)),⟨.inl ⟨rfl,rfl⟩,⟨.inr (.inl (ae (i:=5) rfl)),trivial⟩⟩⟩⟩⟩⟩⟩⟩⟩) (by simp only[maxLen];omega) (by omega) (fun gq gp=>?_)
  rw[Ge hy0,JD]
  refine JN [(fT vb x.places x.base x.L),(c8 im.flatten x.rs),(dN om.flatten (tY x (j+1).toNat)),aT (.slice gq (k+1) gp) 62 9 (aj fC (yH x (j+1).toNat))] ?_
  try simp only[aQ]
  refine Ya [zR 4] [30,27,29] [zS 3 gq (k+1) gp] ?_
  refine aC (eu ?_)
  refine Zp [.rd 0 [] 0 1,zR 1] [] [zI 14 (j+1)] (oC (show IntKind.i64.wrap (j+1)=j+1 from wrap_i64 (by omega) (by omega)) oN) ?_
  refine bC ⟨j+1,_,k+1,_⟩ [0,2,3,12,13,14] [0] [0,2,1,3] [0,1,2,3] ?_ ?_ (by kernel_rfl) rfl rfl rfl
  ·exact⟨by simp only;omega,by simp only;omega⟩
  ·simp only
   omega
 ·have Se:j.toNat=x.ss.length:=by have:=of_decide_eq_false hlt;omega
  rw[Se,CG x (aX _),aA]at hk
  subst hk
  rw[Se,IZ x (aX _),CG x (aX _)]
  refine dO rfl ?_
  refine Zs [zR 0,zR 1] [15,0,3,12,13,14] [zS 2 av ((iE x).length) cv] ?_
  refine Yr [[]] (.slice av ((iE x).length) cv) fun a w s=>?_
  have s2:=((s.jz (dg 3 rfl)).dY 0 rfl).jz (ee (x:=vR x) ⟨vb,oa,oc,ia,ic,om,im⟩ [3,0,1,2] 1 2 rfl rfl rfl ⟨hy.om,hy.im⟩)
  exact⟨_,_,s2.ret (by simp) [0] [4] rfl rfl⟩
end Go.Proofs.YtmkapocibaojdaaGreatDoor
end
section
namespace Go.Sx
open Go
structure Net where
 P:Nat→fJ
 H:Nat→Nat→Nat→List bN
 K:Nat→List bO
def iC (l:List bN):Nat→Int
 | 0=>0
 | k+1=>((l[k]?).map (·.time)).getD 0
theorem uG {l:List Int} {a:Int} (h:a∈l):sL l≤a:=by
 have:∀n (l:List Int),l.length=n→a∈l→sL l≤a:=by
  intro n
  induction n with
  | zero=>
   intro l hl h
   rw[eV.1 hl]at h
   cases h
  | succ n ih=>
   intro l hl h
   have hne:l≠[]:=fun h0=>by rw[h0]at hl;cases hl
   rw[←List.dropLast_concat_getLast hne]at h ⊢
   by_cases h0:l.dropLast=[]
   ·rw[h0]at h ⊢
    simp at h
    simp[sL,h]
   ·rw[vF h0]
    rcases au.1 h with h|h
    ·have:=ih l.dropLast (by rw[List.length_dropLast];omega) h
     split <;> omega
    ·simp at h
     split <;> omega
 exact this _ l rfl h
end Go.Sx
namespace Go.Proofs.YtmkapocibaojdaaGreatDoor
open Go Go.Sx
theorem B4 {key:ByteArray} {l l':List bO} (hf:∀x∈bM l,∀y∈bM l,x.d=y.d→x=y) (wP:∀x∈bM l',∀y∈bM l',x.d=y.d→x=y) (hm:∀x:bE,x.o.key=key→(x∈bM l'↔x∈bM l)):opsOf key l'=opsOf key l:=by
 refine mP (lt:=fun a b=>gW a b=true) (fun _ _=>nX) (mH key l') (mH key l) fun x=>?_
 rw[mY,mY,tL hf,tL wP]
 exact⟨fun⟨h1,h2⟩=>⟨(hm x h2).1 h1,h2⟩,fun⟨h1,h2⟩=>⟨(hm x h2).2 h1,h2⟩⟩
theorem Fh {key:ByteArray} {n:Int} (h:1≤n):0≤mX key n∧mX key n<n:=by
 unfold mX
 split
 ·unfold AA
  have h0:(0:Int)≤ko key.data.toList:=by omega
  rw[Int.tmod_eq_emod_of_nonneg h0]
  exact⟨Int.emod_nonneg _ (by omega),Int.emod_lt_of_pos _ (by omega)⟩
 ·omega
structure sO (K:List bO) (ah f t sh:Nat) (l:List bN):Prop where
 at':∀(j:Nat) m,l[j]?=some m→m.fm=f∧m.to=t∧m.de=sh∧m.seq=j+1∧0≤m.time∧m.time≤K.length∧((m.dW=true∧m.c=⟨[],0,[]⟩)∨(m.dW=false∧∃C∈K,m.c=ei ah C sh∧m.c.ops≠[]∧m.time=C.when.getD f 0))
 inc:l.Pairwise fun a b=>a.time≤b.time∧(b.dW=false→a.time<b.time)
 all:∀C∈K,(ei ah C sh).ops≠[]→∃m∈l,m.dW=false∧m.c=ei ah C sh∧m.time=C.when.getD f 0
structure EO (s:dL) (l:List bN):Prop where
 q:s.q=l.length
 t:s.t=iC l l.length
 l:∃a,a≤l.length∧s.l=l.drop a
structure rV (r:bB) (l:List bN):Prop where
 q:r.q≤l.length
 t:r.t=iC l r.q.toNat
 l:∀m∈r.l,∃j:Nat,l[j]?=some m∧r.q≤j
def NQ (K:List bO) (q:fG):Prop:=∃C∈K,∃o∈C.ops,q=⟨C.when,C.place,o⟩
def yU (l:List bN) (k:Int) (q:fG):Prop:=∃(j:Nat) (m:bN),l[j]?=some m∧(j:Int)<k∧m.dW=false∧∃o∈m.c.ops,q=⟨m.c.when,m.c.place,o⟩
structure cw (places ah:Nat) (x:Net) (n:Nat):Prop where
 kY:∀i<places,iW (x.P i) n
 pid:∀i<places,(x.P i).id=i∧(x.P i).places=places∧(x.P i).ah=ah
 tW:∀i<places,((x.K i).length:Int)=(x.P i).clock
 tg:∀i<places,∀(j:Nat) C,(x.K i)[j]?=some C→C.place=i∧C.when.getD i 0=j+1∧(aY C).code=0∧C.when.length=places
 msg:∀f<places,∀t<places,t≠f→∀sh<ah,sO (x.K f) ah f t sh (x.H f t sh)
 snd:∀f<places,∀s∈(x.P f).ss,EO s (x.H f s.to.toNat s.sh.toNat)
 vj:∀t<places,∀r∈(x.P t).rs,rV r (x.H r.fm.toNat t r.sh.toNat)
 L:∀t<places,∀q,q∈(x.P t).L↔NQ (x.K t) q∨∃r∈(x.P t).rs,yU (x.H r.fm.toNat t r.sh.toNat) r.q q
 nodup:∀t<places,((x.P t).L.map ku).Nodup
 base:∀t<places,∀u<places,lF (x.P t).base (bG (x.P u))=true
def mF (K:Nat→List bO) (places:Nat) (at':List Int):List bO:=(bD places).flatMap fun f=>(K f).filter fun C=>lF C.when at'
theorem kZ {K:Nat→List bO} {places:Nat} {at':List Int} {C:bO}:C∈mF K places at'↔∃f<places,C∈K f∧lF C.when at'=true:=by
 simp[mF,gM,aP,dX]
theorem AS {xs ys:List Int} (h:lF xs ys=true) {j:Nat} {a b:Int} (ha:xs[j]?=some a) (hb:ys[j]?=some b):a≤b:=
 of_decide_eq_true (dF.1 h _ (ae (CX ha hb)))
theorem xV {xs ys:List Int} (h:lF xs ys=true) {j:Nat} (h1:j<xs.length) (h2:j<ys.length):xs.getD j 0≤ys.getD j 0:=by
 have:=AS h (ak h1) (ak h2)
 simpa [aO,h1,h2]using this
section lA
variable {places ah n:Nat} {x:Net}
theorem cw.mem (h:cw places ah x n) {i:Nat} (hi:i<places) {C:bO} (hC:C∈x.K i):C.place=i∧1≤C.when.getD i 0∧C.when.getD i 0≤(x.K i).length∧(aY C).code=0∧C.when.length=places:=by
 obtain⟨j,hj⟩:=aJ hC
 obtain⟨h1,h2,h3,h4⟩:=h.tg i hi j C hj
 have:=(ai.1 hj).1
 exact⟨h1,by omega,by omega,h3,h4⟩
theorem cw.uniq (h:cw places ah x n) {i:Nat} (hi:i<places) {C D:bO} (hC:C∈x.K i) (hD:D∈x.K i) (he:C.when.getD i 0=D.when.getD i 0):C=D:=by
 obtain⟨j,hj⟩:=aJ hC
 obtain⟨k,hk⟩:=aJ hD
 have h1:=(h.tg i hi j C hj).2.1
 have h2:=(h.tg i hi k D hk).2.1
 have:j=k:=by omega
 subst this
 rw[hj]at hk
 exact dG hk
theorem AL {C:bO} (h:(aY C).code=0) {a b:fP} (ha:a∈C.ops) (hb:b∈C.ops) (he:a.no=b.no):a=b:=by
 have hp:=qw h
 obtain⟨i,hi,rfl⟩:=jy ha
 obtain⟨j,hj,rfl⟩:=jy hb
 have:i=j:=by
  rcases Nat.lt_trichotomy i j with hlt|heq|hlt
  ·have:=bV.1 hp i j hi hj hlt
   omega
  ·exact heq
  ·have:=bV.1 hp j i hj hi hlt
   omega
 subst this
 rfl
theorem cw.recv (h:cw places ah x n) {t f sh:Nat} (ht:t<places) (hf:f<places) (hne:f≠t) (hs:sh<ah):∃r∈(x.P t).rs,r.fm.toNat=f∧r.sh.toNat=sh:=by
 obtain⟨h1,h2,h3⟩:=h.pid t ht
 have hr:=(h.kY t ht).rs
 rw[h1,h2,h3]at hr
 have hm:(f,sh)∈cR t ah places:=ae (sw hf hne hs)
 rw[←hr]at hm
 obtain⟨r,hr,he⟩:=aB.1 hm
 obtain⟨e1,e2⟩:=kP he
 exact⟨r,hr,e1,e2⟩
theorem cw.pair (h:cw places ah x n) {t:Nat} (ht:t<places) {r:bB} (hr:r∈(x.P t).rs):r.fm.toNat<places∧r.fm.toNat≠t∧r.sh.toNat<ah:=by
 obtain⟨h1,h2,h3⟩:=h.pid t ht
 have hp:=(h.kY t ht).rs
 rw[h1,h2,h3]at hp
 have hm:fJ.nS r∈cR t ah places:=by rw[←hp];exact eT hr
 obtain⟨rows,hrow,hm⟩:=cK.1 hm
 obtain⟨k,hk,rfl⟩:=aB.1 hrow
 unfold iD at hm
 split at hm
 ·cases hm
 ·rename_i EB
  obtain⟨i,hi,he⟩:=aB.1 hm
  obtain⟨e1,e2⟩:=kP he
  rw[←e1,←e2]
  exact⟨dX.1 hk,EB,dX.1 hi⟩
theorem cw.CB (h:cw places ah x n) {t f:Nat} (ht:t<places) (hf:f<places) (hne:f≠t) {C:bO} (hC:C∈x.K f) (hle:C.when.getD f 0≤gf (x.P t) f) {o:fP} (ho:o∈C.ops):(⟨C.when,C.place,o⟩:fG)∈(x.P t).L:=by
 obtain⟨kT,pS,hsh⟩:=h.pid t ht
 obtain⟨c1,c2,c3,c4,c5⟩:=h.mem hf hC
 have hs1:1≤ah:=by
  have:=(h.kY t ht).s1
  omega
 obtain⟨e0,e1⟩:=Fh (key:=o.key) (n:=ah) (by omega)
 obtain⟨sh,Cf⟩:∃sh:Nat,mX o.key ah=sh:=⟨(mX o.key ah).toNat,by omega⟩
 have P8:sh<ah:=by omega
 have hop:o∈(ei ah C sh).ops:=aP.2 ⟨ho,by simp[yW,Cf]⟩
 have hst:=h.msg f hf t ht (Ne.symm hne) sh P8
 obtain⟨m,hm,hb,N3,X3⟩:=hst.all C hC fun h0=>by rw[h0]at hop;cases hop
 obtain⟨j,hj⟩:=aJ hm
 obtain⟨r,hr,hrf,EA⟩:=h.recv ht hf hne P8
 have hrc:=h.vj t ht r hr
 rw[hrf,EA]at hrc
 refine(h.L t ht _).2 (.inr ⟨r,hr,j,m,by rw[hrf,EA];exact hj,?_,hb,o,by rw[N3];exact hop,by rw[N3];rfl⟩)
 apply Int.lt_of_not_ge
 intro hge
 have uL:gf (x.P t) f≤r.t:=by
  rw[gf,if_neg (by rw[kT];exact hne)]
  exact uG (aB.2 ⟨r,aP.2 ⟨hr,by simp[hrf]⟩,rfl⟩)
 have h0:=((h.kY t ht).vj r hr).1
 cases hk:r.q.toNat with
 | zero=>
  have:=hrc.t
  rw[hk]at this
  simp[iC]at this
  omega
 | succ k=>
  have z6:k<(x.H f t sh).length:=by
   have:=hrc.q
   omega
  have Sc:k<j:=by omega
  have oP:=(ai.1 hj).1
  have hlt:=(bV.1 hst.inc k j z6 oP Sc).2
  rw[(ai.1 hj).2]at hlt
  have h1:=hlt hb
  have h2:=hrc.t
  rw[hk]at h2
  simp[iC,z6]at h2
  omega
theorem cw.read (h:cw places ah x n) {t:Nat} (ht:t<places) {at':List Int} (hl:at'.length=places) (hs:lF at' (bG (x.P t))=true) (key:ByteArray):opsOf key (aW (x.P t).L key at')=opsOf key (mF x.K places at'):=by
 obtain⟨kT,pS,hsh⟩:=h.pid t ht
 refine B4 (fun a ha b hb he=>?_) (fun a ha b hb he=>?_) fun a hk=>?_
 ·obtain⟨C,hC,o,ho,rfl⟩:=fF.1 ha
  obtain⟨D,hD,p,hp,rfl⟩:=fF.1 hb
  obtain⟨f,hf,hC,_⟩:=kZ.1 hC
  obtain⟨g,hg,hD,_⟩:=kZ.1 hD
  simp only[eD,iV,gi.mk.injEq]at he
  obtain⟨e1,e2,e3⟩:=he
  obtain⟨c1,_,_,c4,_⟩:=h.mem hf hC
  obtain⟨d1,_,_,_,_⟩:=h.mem hg hD
  have hfg:f=g:=by omega
  subst hfg
  rw[c1,d1,aR]at e2
  obtain rfl:=h.uniq hf hC hD e2
  rw[AL c4 ho hp e3]
 ·obtain⟨q,hq,rfl⟩:=vZ ha
  obtain⟨q',LO,rfl⟩:=vZ hb
  have hn:=h.nodup t ht
  obtain⟨i,hi⟩:=aJ hq
  obtain⟨j,hj⟩:=aJ LO
  have hi2:((x.P t).L.map ku)[i]?=some (ku q):=by rw[aF,hi];rfl
  have hj2:((x.P t).L.map ku)[j]?=some (ku q'):=by rw[aF,hj];rfl
  have hij:i=j:=(dQ (ai.1 hi2).1 hn).1 (hi2.trans (by rw[hj2];exact congrArg some he))
  subst hij
  rw[hi]at hj
  cases hj
  rfl
 ·constructor
  ·intro ha
   obtain⟨c,hc,o,ho,rfl⟩:=fF.1 ha
   obtain⟨zb,GH⟩:=aP.1 hc
   obtain⟨q,hq,rfl⟩:=iz zb
   obtain rfl:=ay.1 ho
   clear ho
   rcases(h.L t ht q).1 hq with ⟨C,hC,p,hp,rfl⟩|⟨r,hr,j,m,hm,_,hb,p,hp,rfl⟩
   ·exact fF.2 ⟨C,kZ.2 ⟨t,ht,hC,GH⟩,p,hp,rfl⟩
   ·obtain⟨p1,p2,p3⟩:=h.pair ht hr
    obtain⟨_,_,_,_,_,_,hbody⟩:=(h.msg _ p1 t ht (Ne.symm p2) _ p3).at' j m hm
    rcases hbody with ⟨oQ,_⟩|⟨_,C,hC,N3,_,_⟩
    ·rw[hb]at oQ
     cases oQ
    ·rw[N3]at hp GH ⊢
     exact fF.2 ⟨C,kZ.2 ⟨_,p1,hC,GH⟩,p,(aP.1 hp).1,rfl⟩
  ·intro ha
   obtain⟨C,hC,o,ho,rfl⟩:=fF.1 ha
   obtain⟨f,hf,hC,hin⟩:=kZ.1 hC
   obtain⟨c1,c2,c3,c4,c5⟩:=h.mem hf hC
   have hq:(⟨C.when,C.place,o⟩:fG)∈(x.P t).L:=by
    by_cases hft:f=t
    ·subst hft
     exact(h.L f hf _).2 (.inl ⟨C,hC,o,ho,rfl⟩)
    ·refine h.CB ht hf hft hC ?_ ho
     have h1:=xV hin (j:=f) (by omega) (by omega)
     have h2:=xV hs (j:=f) (by omega) (by rw[bG,aA,ir];omega)
     have h3:(bG (x.P t)).getD f 0=gf (x.P t) f:=by
      rw[bG,aO]
      simp[pS,hf]
     omega
   refine fF.2 ⟨lI ⟨C.when,C.place,o⟩,aP.2 ⟨aB.2 ⟨_,aP.2 ⟨hq,decide_eq_true hk⟩,rfl⟩,hin⟩,o,by simp[lI],rfl⟩
end lA
end Go.Proofs.YtmkapocibaojdaaGreatDoor
end
section
namespace Go.Sx
open Go
theorem tN {H:List bN}:∀(n:Nat) (L:List bN) (q:Nat) (t:Int),nQ L→(∀m∈L,∃j:Nat,H[j]?=some m∧q≤j∧m.seq=j+1) →
  (drain n L q t).1=(H.drop q).take (drain n L q t).1.length∧(drain n L q t).2.2.2=(if (drain n L q t).1.length=0 then t else iC H (q+(drain n L q t).1.length))∧(∀m∈(drain n L q t).2.1,∃j:Nat,H[j]?=some m∧q+(drain n L q t).1.length≤j)∧((drain n L q t).1.length=0∨q+(drain n L q t).1.length≤H.length)
 | 0,L,q,t,_,h=>by
  simp only[drain,lW,List.take_zero,if_pos,true_and,dZ,true_or,and_true]
  exact fun m hm=>by
   obtain⟨j,h1,h2,_⟩:=h m hm
   exact⟨j,h1,h2⟩
 | n+1,L,q,t,hd,h=>by
  unfold drain
  cases hk:kept L ((q:Int)+1)with
  | none=>
   simp only[lW,List.take_zero,if_pos,true_and,dZ,true_or,and_true]
   exact fun m hm=>by
    obtain⟨j,h1,h2,_⟩:=h m hm
    exact⟨j,h1,h2⟩
  | some m=>
   obtain⟨j,hj,Qd,hs⟩:=h m (pQ hk)
   have Ku:=pP hk
   have WS:j=q:=by omega
   subst WS
   have hL:∀z∈gF L ((j:Int)+1),∃i:Nat,H[i]?=some z∧j+1≤i∧z.seq=i+1:=fun z hz=>by
    obtain⟨i,hi,R8,hzs⟩:=h z ((pY L _).subset hz)
    have hne:=sD.1 (show kept (gF L ((j:Int)+1)) ((j:Int)+1)=none by rw[vJ hd,if_pos rfl]) z hz
    exact⟨i,hi,by omega,hzs⟩
   obtain⟨R6,R5,Vr,Vq⟩:=tN n (gF L ((j:Int)+1)) (j+1) m.time (hd.drop _) hL
   rw[show((j+1:Nat):Int)=(j:Int)+1 from rfl]at R6 R5 Vr Vq
   have oP:=(ai.1 hj).1
   have KD:H.drop j=m::H.drop (j+1):=by rw[gD oP,(ai.1 hj).2]
   simp only[eF]
   refine⟨?_,?_,fun z hz=>?_,.inr ?_⟩
   ·rw[KD,List.take_succ_cons,←R6]
   ·rw[if_neg (by omega),R5]
    split
    ·rename_i h0
     rw[h0]
     simp[iC,hj]
    ·congr 1
     omega
   ·obtain⟨i,h1,h2⟩:=Vr z hz
    exact⟨i,h1,by omega⟩
   ·rcases Vq with h0|h0 <;> omega
end Go.Sx
namespace Go.Proofs.YtmkapocibaojdaaGreatDoor
open Go Go.Sx
section strm
variable {K:List bO} {ah f t sh:Nat} {H:List bN}
theorem sO.ET (hs:sO K ah f t sh H) {a b:Nat} (hab:a≤b) (hb:b≤H.length):iC H a≤iC H b:=by
 cases a with
 | zero=>
  cases b with
  | zero=>exact fq _
  | succ k=>
   have h:=hs.at' k _ (ak (by omega))
   simp only[iC,ak (show k<H.length by omega),dU,jK]
   exact h.2.2.2.2.1
 | succ i=>
  cases b with
  | zero=>omega
  | succ k=>
   simp only[iC,ak (show k<H.length by omega),ak (show i<H.length by omega),dU,jK]
   rcases dP i k with h|h
   ·exact(bV.1 hs.inc i k (by omega) (by omega) h).1
   ·have:i=k:=by omega
    subst this
    exact fq _
theorem FV (hs:sO K ah f t sh H) {y:bB} {m:bN} {j:Nat} (hr:rV y H) (h1:y.fm=f) (h2:y.to=t) (h3:y.sh=sh) (hd:nQ y.l) (hq:0≤y.q) (hm:H[j]?=some m) (hK:(K.length:Int)≤1099511627776) :
  rV (bB.heard y m) H∧(bB.dK y m).2.1=(H.drop y.q.toNat).take (bB.dK y m).2.1.length∧y.q≤(bB.heard y m).q∧((bB.dK y m).1=0∨((bB.dK y m).1=7∧201<m.seq - y.q)):=by
 obtain⟨m1,m2,m3,m4,m5,m6,_⟩:=hs.at' j m hm
 have C5:∀k,bB.dK y m=(k,[],⟨y.l,y.q,y.t⟩)→(k=0∨(k=7∧201<m.seq - y.q))→_:=fun k h hk=>by
  have e:bB.heard y m=y:=by simp[bB.heard,h]
  refine(⟨by rw[e];exact hr,by rw[h];simp,by rw[e];exact fq _,by rw[h];exact hk⟩:rV (bB.heard y m) H∧(bB.dK y m).2.1=(H.drop y.q.toNat).take (bB.dK y m).2.1.length∧y.q≤(bB.heard y m).q∧((bB.dK y m).1=0∨((bB.dK y m).1=7∧201<m.seq - y.q)))
 have c1:¬(m.fm≠y.fm∨m.to≠y.to∨m.de≠y.sh):=by omega
 have c2:¬(m.seq<1∨m.time<0∨1099511627776<m.time):=by omega
 by_cases c3:m.seq≤y.q
 ·exact C5 0 (by rw[bB.dK,gO,if_neg c1,if_neg c2,if_pos c3]) (.inl rfl)
 by_cases c4:201<m.seq - y.q
 ·exact C5 7 (by rw[bB.dK,gO,if_neg c1,if_neg c2,if_neg c3,if_pos c4]) (.inr ⟨rfl,c4⟩)
 have key:∀L1:List bN,bB.dK y m=(0,(ez L1 y.q y.t).1,⟨(ez L1 y.q y.t).2.1,(ez L1 y.q y.t).2.2.1,(ez L1 y.q y.t).2.2.2⟩)→nQ L1→(∀z∈L1,∃i:Nat,H[i]?=some z∧y.q≤i)→rV (bB.heard y m) H∧(bB.dK y m).2.1=(H.drop y.q.toNat).take (bB.dK y m).2.1.length∧y.q≤(bB.heard y m).q∧((bB.dK y m).1=0∨((bB.dK y m).1=7∧201<m.seq - y.q)):=fun L1 h Qz QH=>by
  have TN:((y.q.toNat:Nat):Int)=y.q:=cW hq
  obtain⟨d1,d2,d3,d4⟩:=tN (L1.length+1) L1 y.q.toNat y.t Qz fun z hz=>by
   obtain⟨i,hi,R8⟩:=QH z hz
   exact⟨i,hi,by omega,(hs.at' i z hi).2.2.2.1⟩
  rw[TN]at d1 d2 d3 d4
  have dq:=wS (L1.length+1) L1 y.q y.t
  have hl:=hr.q
  refine⟨⟨?_,?_,fun z hz=>?_⟩,?_,?_,?_⟩ <;> simp only[bB.heard,h,ez]at *
  ·rcases d4 with h0|h0 <;> omega
  ·rw[d2,dq]
   split
   ·rename_i h0
    rw[h0,hr.t]
    simp
   ·congr 1
    omega
  ·obtain⟨i,h4,h5⟩:=d3 z hz
   exact⟨i,h4,by omega⟩
  ·exact d1
  ·omega
  ·exact .inl trivial
 cases hk:kept y.l m.seq with
 | none=>
  refine key (y.l++[m]) (by rw[bB.dK,gO,if_neg c1,if_neg c2,if_neg c3,if_neg c4];simp only[hk]) (hd.app hk) fun z hz=>?_
  rcases au.1 hz with hz|hz
  ·exact hr.l z hz
  ·obtain rfl:=ay.1 hz
   exact⟨j,hm,by omega⟩
 | some z=>exact key y.l (by rw[bB.dK,gO,if_neg c1,if_neg c2,if_neg c3,if_neg c4];simp only[hk]) hd fun z hz=>hr.l z hz
end strm
def l7 (l:List bN):List fG:=l.flatMap fun m=>if m.dW then []else eM m.c m.c.ops
theorem vw {p:Nat} {base:List Int} {fm:Int}:∀{l:List bN} {L:List fG},(∀m∈l,m.dW=false→m.c.place=fm∧(aY m.c).code=0∧m.c.when.length=p∧lF m.c.when base=false)→((L++l7 l).map ku).Nodup→iS p base fm L l=L++l7 l
 | [],L,_,_=>by simp[iS,l7]
 | m::l,L,h,hn=>by
  have hm:=h m (bl ..)
  have hl:=fun z hz=>h z (bk _ hz)
  cases hb:m.dW with
  | true=>
   have e:l7 (m::l)=l7 l:=by simp[l7,hb]
   rw[e]at hn ⊢
   rw[←vw hl hn,iS,iw,if_neg (by simp[hb])]
   rfl
  | false=>
   obtain⟨h1,h2,h3,h4⟩:=hm hb
   have e:l7 (m::l)=eM m.c m.c.ops++l7 l:=by simp[l7,hb]
   rw[e,←bY]at hn ⊢
   have hp:sI p base L m.c=L++eM m.c m.c.ops:=by
    rw[sI,if_pos (lH.2 ⟨h2,h3,h4,fun o ho hd=>?_⟩)]
    rw[bw,bw,sF]at hn
    have rF:=(be.1 hn).1
    exact(be.1 rF).2.2 _ hd _ (eT ho) rfl
   rw[←vw hl hn,iS,iw,if_pos ⟨hb,h1⟩,hp]
   rfl
end Go.Proofs.YtmkapocibaojdaaGreatDoor
end
section
namespace Go.Sx
open Go
def Net.ox (x:Net) (t:Nat) (p:fJ):Net:={ x with P:=fun i=>if i=t then p else x.P i }
theorem kz (x:Net) (t:Nat) (p:fJ):(x.ox t p).P t=p:=if_pos rfl
theorem kW (x:Net) {t i:Nat} (p:fJ) (h:i≠t):(x.ox t p).P i=x.P i:=if_neg h
theorem zz (x:Net) (t:Nat):x.ox t (x.P t)=x:=by
 unfold Net.ox
 congr
 funext i
 split
 ·rename_i h
  rw[h]
 ·rfl
theorem tB {H:List bN} {q k:Nat} {z:bN}:z∈(H.drop q).take k↔∃i,q≤i∧i<q+k∧H[i]?=some z:=by
 constructor
 ·intro h
  obtain⟨i,hi⟩:=aJ h
  rw[cL]at hi
  split at hi
  ·rw[cq]at hi
   exact⟨q+i,by omega,by omega,hi⟩
  ·cases hi
 ·rintro⟨i,h1,h2,h3⟩
  refine ae (i:=i - q) ?_
  rw[cL,if_pos (by omega),cq,show q+(i - q)=i by omega]
  exact h3
end Go.Sx
namespace Go.Proofs.YtmkapocibaojdaaGreatDoor
open Go Go.Sx
section lA
variable {places ah n:Nat} {x:Net}
theorem cw.mono (h:cw places ah x n) {k:Nat} (hk:n≤k):cw places ah x k:={ h with kY:=fun i hi=>(h.kY i hi).mono hk }
theorem cw.before (h:cw places ah x n) {t f sh:Nat} (ht:t<places) (hf:f<places) (hne:f≠t) (hs:sh<ah) {r:bB} (hr:r∈(x.P t).rs) (hrf:r.fm.toNat=f) (EA:r.sh.toNat=sh) {i:Nat} {z:bN} (hz:(x.H f t sh)[i]?=some z) (hb:z.dW=false) (h1:1≤z.time) (hle:z.time≤gf (x.P t) f):(i:Int)<r.q:=by
 have hst:=h.msg f hf t ht (Ne.symm hne) sh hs
 have hrc:=h.vj t ht r hr
 rw[hrf,EA]at hrc
 apply Int.lt_of_not_ge
 intro hge
 have uL:gf (x.P t) f≤r.t:=by
  rw[gf,if_neg (by rw[(h.pid t ht).1];exact hne)]
  exact uG (aB.2 ⟨r,aP.2 ⟨hr,by simp[hrf]⟩,rfl⟩)
 have h0:=((h.kY t ht).vj r hr).1
 cases hk:r.q.toNat with
 | zero=>
  have:=hrc.t
  rw[hk]at this
  simp[iC]at this
  omega
 | succ k=>
  have z6:k<(x.H f t sh).length:=by
   have:=hrc.q
   omega
  have oP:=(ai.1 hz).1
  have hlt:=(bV.1 hst.inc k i z6 oP (by omega)).2
  rw[(ai.1 hz).2]at hlt
  have h1:=hlt hb
  have h2:=hrc.t
  rw[hk]at h2
  simp[iC,z6]at h2
  omega
theorem cw.vu (h:cw places ah x n) {t:Nat} (ht:t<places) {r y:bB} (hr:r∈(x.P t).rs) (hy:y∈(x.P t).rs) (he:fJ.nS r=fJ.nS y):r=y:=by
 have hn:=(qy (x.P t).id (x.P t).ah (x.P t).places).1
 have hp:(x.P t).rs.map fJ.nS=cR (x.P t).id (x.P t).ah (x.P t).places:=(h.kY t ht).rs
 rw[←hp]at hn
 obtain⟨i,hi⟩:=aJ hr
 obtain⟨j,hj⟩:=aJ hy
 have hi2:((x.P t).rs.map fJ.nS)[i]?=some (fJ.nS r):=by rw[aF,hi];rfl
 have hj2:((x.P t).rs.map fJ.nS)[j]?=some (fJ.nS y):=by rw[aF,hj];rfl
 have hij:i=j:=(dQ (ai.1 hi2).1 hn).1 (hi2.trans (by rw[hj2,he]))
 subst hij
 rw[hi]at hj
 exact dG hj
theorem mh {a b c:List Int} (h1:lF a b=true) (h2:lF b c=true) (hl:a.length≤b.length):lF a c=true:=by
 unfold lF
 rw[dF]
 rintro⟨u,v⟩ hm
 obtain⟨i,hi⟩:=aJ hm
 obtain⟨hu,hv⟩:=jd.1 hi
 have vM:=(ai.1 hu).1
 have hw:=ak (show i<b.length by omega)
 have:=AS h1 hu hw
 have:=AS h2 hw hv
 exact decide_eq_true (by omega)
theorem BM {p p':fJ} (hp:p'.places=p.places) (h:∀k<p.places,gf p k≤gf p' k):lF (bG p) (bG p')=true:=by
 refine rB (by simp[bG,hp]) fun j a b ha hb=>?_
 unfold bG at ha hb
 rw[aF]at ha hb
 obtain⟨u,hu,rfl⟩:=aI.1 ha
 obtain⟨v,hv,rfl⟩:=aI.1 hb
 obtain⟨JA,Jz⟩:=ai.1 hu
 obtain⟨MY,Bl⟩:=ai.1 hv
 simp at Jz Bl JA
 subst Jz Bl
 exact h _ JA
theorem Fg {p:fJ} {i:Nat} {y y':bB} (hy:p.rs[i]?=some y) (hf:y'.fm=y.fm) (ht:y.t≤y'.t) (L:List fG) (k:Nat) (hk:k=p.id∨∃r∈p.rs,r.fm.toNat=k):gf p k≤gf { p with rs:=p.rs.set i y',L:=L } k:=by
 unfold gf
 split
 ·exact fq _
 ·rename_i hne
  obtain h|⟨r,hr,VA⟩:=hk
  ·exact absurd h hne
  have pT:((p.rs.set i y').filter fun r=>decide (r.fm.toNat=k)).map (·.t)≠[]:=by
   obtain⟨j,hj⟩:=aJ hr
   have oP:=(ai.1 hj).1
   intro h0
   rw[cM,gz]at h0
   by_cases hij:i=j
   ·subst hij
    rw[hy]at hj
    cases hj
    exact h0 y' (ae (i:=i) (by rw[bX oP])) (by simp[hf,VA])
   ·exact h0 r (ae (i:=j) (by rw[cN hij];exact hj)) (by simp[VA])
  obtain⟨z,hz,zY⟩:=aB.1 (xG pT)
  obtain⟨Tz,Jv⟩:=aP.1 hz
  show _≤sL (((p.rs.set i y').filter fun r=>decide (r.fm.toNat=k)).map (·.t))
  rw[←zY]
  rcases mD Tz with h1|rfl
  ·exact uG (aB.2 ⟨z,aP.2 ⟨h1,Jv⟩,rfl⟩)
  ·exact Int.le_trans (uG (aB.2 ⟨y,aP.2 ⟨ae hy,by rw[←hf];exact Jv⟩,rfl⟩)) ht
theorem Dq {o:fP} {p:Int} (h:fE o p=0):dS o.key=true∧o.text.size≤60∧o.bF.length≤60∧(o.kind=1∨o.kind=2∨o.kind=3):=by
 unfold fE at h
 split at h
 ·cases h
 split at h
 ·cases h
 rename_i hn
 split at h
 ·cases h
 split at h
 ·cases h
 split at h
 ·cases h
 refine⟨by simpa using hn,by omega,by omega,by omega⟩
theorem KZ {C:bO} (h:(aY C).code=0):C.when.length≤6∧C.ops.length≤12∧∀o∈C.ops,o.bF.length≤60:=by
 have hr:=iy h
 exact⟨(jV hr.vec).2,hr.o2,fun o ho=>(Dq (sj h o ho)).2.2.1⟩
theorem cw.fit (h:cw places ah x n) {t f sh j:Nat} {m:bN} (ht:t<places) (hf:f<places) (hne:f≠t) (hs:sh<ah) (hm:(x.H f t sh)[j]?=some m):Fit m:=by
 obtain⟨_,_,_,_,_,_,hb⟩:=(h.msg f hf t ht (Ne.symm hne) sh hs).at' j m hm
 rcases hb with ⟨_,hc⟩|⟨_,C,hC,hc,_,_⟩
 ·rw[Fit,hc]
  simp
 ·obtain⟨h1,h2,h3⟩:=KZ (h.mem hf hC).2.2.2.1
  have h4:(ei ah C sh).ops.length≤C.ops.length:=cH _ _
  rw[Fit,hc]
  refine⟨?_,by omega,fun o ho=>?_⟩
  ·show C.when.length≤_
   omega
  ·have:=h3 o (aP.1 ho).1
   omega
theorem cw.HB (h:cw places ah x n) {t f sh:Nat} (ht:t<places) (hf:f<places) (hne:f≠t) (hs:sh<ah):∃y,(x.P t).rs[fZ t ah f+sh]?=some y∧y.fm=f∧y.sh=sh∧y.to=t:=by
 obtain⟨h1,h2,h3⟩:=h.pid t ht
 have hp:=(h.kY t ht).rs
 rw[h1,h2,h3]at hp
 have hat:=sw (id:=t) (ah:=ah) (places:=places) hf hne hs
 rw[←hp,aF]at hat
 obtain⟨y,hy,he⟩:=aI.1 hat
 obtain⟨e1,e2⟩:=kP he
 have hw:=(h.kY t ht).JL y (ae hy)
 refine⟨y,hy,by omega,by omega,?_⟩
 rw[hw.2.2,h1]
theorem cw.dK (h:cw places ah x n) {t f sh j:Nat} {m:bN} (ht:t<places) (hf:f<places) (hne:f≠t) (hs:sh<ah) (hm:(x.H f t sh)[j]?=some m) :
  cw places ah (x.ox t (ep (x.P t) m).2.2) (n+1)∧((x.H f t sh).length≤201→(ep (x.P t) m).1=0):=by
 obtain⟨i1,i2,i3⟩:=h.pid t ht
 have hst:=h.msg f hf t ht (Ne.symm hne) sh hs
 obtain⟨m1,m2,m3,m4,m5,m6,_⟩:=hst.at' j m hm
 have oP:=(ai.1 hm).1
 obtain⟨y,hy,y1,y2,y3⟩:=h.HB ht hf hne hs
 have hmem:=ae hy
 have Im:=KC (h.kY t ht) (h.fit ht hf hne hs hm)
 have MX:kB (x.P t) m=0:=by rw[kB,i1,i2,i3,if_neg (by omega),if_neg (by omega)]
 have hpos:sJ (x.P t) m=fZ t ah f+sh:=by rw[sJ,i1,i3,m1,m3,aR,aR]
 have hrc:=h.vj t ht y hmem
 rw[y1,y2,aR,aR]at hrc
 obtain⟨r1,r2,r3⟩:=(h.kY t ht).vj y hmem
 have hK:((x.K f).length:Int)≤1099511627776:=by
  rw[h.tW f hf]
  exact(h.kY f hf).c1
 obtain⟨g1,g2,g3,g4⟩:=FV hst hrc y1 y3 y2 r3 r1 hm hK
 have hE:ep (x.P t) m=if (bB.dK y m).1≠0 then ((bB.dK y m).1,[],x.P t)else (0,[Gi (x.P t) m (bB.heard y m).q],{ x.P t with rs:=(x.P t).rs.set (fZ t ah f+sh) (bB.heard y m),L:=iS (x.P t).places (x.P t).base m.fm (x.P t).L (bB.dK y m).2.1 }):=by
  rw[ep,if_neg (by simp[MX]),if_neg (by omega),hpos,hy]
 rw[hE]at Im ⊢
 by_cases hc:(bB.dK y m).1≠0
 ·rw[if_pos hc]
  refine⟨?_,fun hl=>?_⟩
  ·simp only[zz]
   exact h.mono (by omega)
  ·rcases g4 with g4|⟨_,g4⟩
   ·exact absurd g4 hc
   ·omega
 rw[if_neg hc]at Im ⊢
 refine⟨?_,fun _=>rfl⟩
 simp only at Im ⊢
 have hq:=(AV y m).q
 have Qc:∀z∈(bB.dK y m).2.1,∃i:Nat,y.q≤i∧(i:Int)<(bB.heard y m).q∧(x.H f t sh)[i]?=some z:=fun z hz=>by
  rw[g2]at hz
  obtain⟨i,h1,h2,h3⟩:=tB.1 hz
  exact⟨i,by omega,by omega,h3⟩
 have hbody:∀z∈(bB.dK y m).2.1,z.dW=false→∃(i:Nat) (C:bO),y.q≤i∧(x.H f t sh)[i]?=some z∧C∈x.K f∧z.c=ei ah C sh∧z.c.ops≠[]∧z.time=C.when.getD f 0:=fun z hz hb=>by
  obtain⟨i,h1,_,h3⟩:=Qc z hz
  obtain⟨_,_,_,_,_,_,PO⟩:=hst.at' i z h3
  rcases PO with ⟨oQ,_⟩|⟨_,C,hC,h4,h5,h6⟩
  ·rw[hb]at oQ
   cases oQ
  ·exact⟨i,C,h1,h3,hC,h4,h5,h6⟩
 have hA:∀z∈(bB.dK y m).2.1,z.dW=false→z.c.place=m.fm∧(aY z.c).code=0∧z.c.when.length=(x.P t).places∧lF z.c.when (x.P t).base=false:=fun z hz hb=>by
  obtain⟨i,C,h1,h3,hC,h4,h5,h6⟩:=hbody z hz hb
  obtain⟨c1,c2,c3,c4,c5⟩:=h.mem hf hC
  rw[h4]at h5 ⊢
  refine⟨by rw[m1];exact c1,(B0 h5).fault c4,by rw[i2];exact c5,?_⟩
  rw[Bool.eq_false_iff]
  intro hin
  have GI:=(h.kY t ht).rS
  have Ky:lF C.when (bG (x.P t))=true:=mh hin (h.base t ht t ht) (by show C.when.length≤_;omega)
  have h7:=xV Ky (j:=f) (by omega) (by rw[bG,aA,ir];omega)
  have h8:(bG (x.P t)).getD f 0=gf (x.P t) f:=by
   rw[bG,aO]
   simp[i2,hf]
  have h9:=h.before ht hf hne hs hmem (by omega) (by omega) h3 hb (by omega) (by omega)
  omega
 have hN:(((x.P t).L++l7 (bB.dK y m).2.1).map ku).Nodup:=by
  have hsub:(bB.dK y m).2.1.Sublist (x.H f t sh):=by
   rw[g2]
   exact(List.take_sublist _ _).trans (List.drop_sublist _ _)
  rw[bw,be]
  refine⟨h.nodup t ht,?_,fun d hd d' hd' W8=>?_⟩
  ·rw[l7,List.map_flatMap,List.nodup_iff_pairwise_ne,List.pairwise_flatMap]
   refine⟨fun z hz=>?_,(hst.inc.sublist hsub).imp_of_mem fun{a b} ha hb hab u hu v hv huv=>?_⟩
   ·split
    ·exact jq
    ·rename_i hb
     rw[sF,←List.nodup_iff_pairwise_ne]
     exact Co (hA z hz (by simpa using hb)).2.1
   ·split at hu
    ·cases hu
    rename_i hba
    split at hv
    ·cases hv
    rename_i JH
    have Ui:a.dW=false:=by simpa using hba
    have Iv:b.dW=false:=by simpa using JH
    rw[sF]at hu hv
    obtain⟨o,ho,rfl⟩:=aB.1 hu
    obtain⟨p,hp,rfl⟩:=aB.1 hv
    obtain⟨_,C,_,_,hC,c1,_,c2⟩:=hbody a ha Ui
    obtain⟨_,D,_,_,hD,d1,_,d2⟩:=hbody b hb Iv
    have:=hab.2 Iv
    simp only[iV,gi.mk.injEq,c1,d1]at huv
    have e1:(ei ah C sh).place=f:=(h.mem hf hC).1
    have e2:(ei ah D sh).place=f:=(h.mem hf hD).1
    rw[e1,e2,aR]at huv
    have e3:C.when.getD f 0=D.when.getD f 0:=huv.2.1
    omega
  ·subst W8
   obtain⟨q,WB,TP⟩:=aB.1 hd
   obtain⟨q',TO,rfl⟩:=aB.1 hd'
   obtain⟨z,hz,MU⟩:=gM.1 TO
   split at MU
   ·cases MU
   rename_i PO
   have PN:z.dW=false:=by simpa using PO
   obtain⟨o,ho,rfl⟩:=aB.1 MU
   obtain⟨i,C,hi,Vs,hC,zb,_,GH⟩:=hbody z hz PN
   obtain⟨k1,_,_,k4,_⟩:=h.mem hf hC
   rw[zb]at ho TP
   simp only[ku,gi.mk.injEq]at TP
   obtain⟨e1,e2,e3⟩:=TP
   have e0:(ei ah C sh).place=f:=k1
   rw[e0]at e1 e2
   rw[e1,aR]at e2
   rcases(h.L t ht q).1 WB with ⟨D,hD,p,hp,rfl⟩|⟨r,hr,j',z',MV,hj',hb',p,hp,rfl⟩
   ·have:=(h.mem ht hD).1
    simp only at e1
    omega
   ·obtain⟨p1,p2,p3⟩:=h.pair ht hr
    obtain⟨_,_,_,_,_,_,Ty⟩:=(h.msg _ p1 t ht (Ne.symm p2) _ p3).at' j' z' MV
    rcases Ty with ⟨oQ,_⟩|⟨_,D,hD,Qz,_,JG⟩
    ·rw[hb']at oQ
     cases oQ
    ·rw[Qz]at hp e1 e2 e3
     have X':=(h.mem p1 hD).1
     have ED:r.fm.toNat=f:=by
      have:(ei ah D r.sh.toNat).place=D.place:=rfl
      simp only at e1
      omega
     rw[ED]at MV hD JG
     have Xp:D=C:=h.uniq hf hD hC e2
     subst Xp
     have hop:p=o:=AL k4 (aP.1 hp).1 (aP.1 ho).1 e3
     subst hop
     have s1:=of_decide_eq_true (aP.1 hp).2
     have s2:=of_decide_eq_true (aP.1 ho).2
     have hss:r.sh.toNat=sh:=by omega
     rw[hss]at MV
     have WA:r=y:=h.vu ht hr hmem (by rw[fJ.nS,fJ.nS,ED,hss,y1,y2,aR,aR])
     subst WA
     have hlt:=(bV.1 hst.inc j' i (ai.1 MV).1 (ai.1 Vs).1 (by omega)).2
     rw[(ai.1 MV).2,(ai.1 Vs).2]at hlt
     have:=hlt PN
     omega
 have hL:iS (x.P t).places (x.P t).base m.fm (x.P t).L (bB.dK y m).2.1=(x.P t).L++l7 (bB.dK y m).2.1:=vw hA hN
 rw[hL]at Im ⊢
 have PS:=(ai.1 hy).1
 have PR:bB.heard y m∈(x.P t).rs.set (fZ t ah f+sh) (bB.heard y m):=ae (bX PS)
 have M9:∀r∈(x.P t).rs,r=y∨r∈(x.P t).rs.set (fZ t ah f+sh) (bB.heard y m):=fun r hr=>by
  obtain⟨i,hi⟩:=aJ hr
  by_cases VJ:fZ t ah f+sh=i
  ·rw[←VJ,hy]at hi
   exact .inl (dG hi).symm
  ·exact .inr (ae (i:=i) (by rw[cN VJ];exact hi))
 have Jw:y.t≤(bB.heard y m).t:=by
  rw[hrc.t,g1.t]
  have:=g1.q
  exact hst.ET (by omega) (by omega)
 have CU:lF (bG (x.P t)) (bG { x.P t with rs:=(x.P t).rs.set (fZ t ah f+sh) (bB.heard y m),L:=(x.P t).L++l7 (bB.dK y m).2.1 })=true:=by
  refine BM rfl fun k hk=>Fg (y':=bB.heard y m) hy rfl Jw _ k ?_
  rw[i2]at hk
  rw[i1]
  by_cases EB:k=t
  ·exact .inl EB
  ·have hs1:=(h.kY t ht).s1
   rw[i3]at hs1
   obtain⟨r,hr,h1,_⟩:=h.recv ht hk EB (show 0<ah by omega)
   exact .inr ⟨r,hr,h1⟩
 refine⟨fun i hi=>?_,fun i hi=>?_,fun i hi=>?_,h.tg,h.msg,fun i hi=>?_,fun i hi r hr=>?_,fun i hi q=>?_,fun i hi=>?_,fun i hi u hu=>?_⟩
 ·by_cases hit:i=t
  ·subst hit
   rw[kz]
   exact Im
  ·rw[kW _ _ hit]
   exact(h.kY i hi).mono (by omega)
 ·by_cases hit:i=t
  ·subst hit
   rw[kz]
   exact⟨i1,i2,i3⟩
  ·rw[kW _ _ hit]
   exact h.pid i hi
 ·by_cases hit:i=t
  ·subst hit
   rw[kz]
   exact h.tW i hi
  ·rw[kW _ _ hit]
   exact h.tW i hi
 ·by_cases hit:i=t
  ·subst hit
   rw[kz]
   exact h.snd i hi
  ·rw[kW _ _ hit]
   exact h.snd i hi
 ·by_cases hit:i=t
  ·subst hit
   rw[kz]at hr
   rcases mD hr with hr|rfl
   ·exact h.vj i hi r hr
   ·show rV _ (x.H y.fm.toNat i y.sh.toNat)
    rw[y1,y2,aR,aR]
    exact g1
  ·rw[kW _ _ hit]at hr
   exact h.vj i hi r hr
 ·by_cases hit:i=t
  ·subst hit
   rw[kz]
   show q∈(x.P i).L++l7 (bB.dK y m).2.1↔NQ (x.K i) q∨∃r∈(x.P i).rs.set (fZ i ah f+sh) (bB.heard y m),yU (x.H r.fm.toNat i r.sh.toNat) r.q q
   rw[au,h.L i hi q]
   have Sh:x.H (bB.heard y m).fm.toNat i (bB.heard y m).sh.toNat=x.H f i sh:=by
    show x.H y.fm.toNat i y.sh.toNat=_
    rw[y1,y2,aR,aR]
   have QI:x.H y.fm.toNat i y.sh.toNat=x.H f i sh:=Sh
   constructor
   ·rintro((h1|⟨r,hr,j',z',h1,h2,h3⟩)|h1)
    ·exact .inl h1
    ·rcases M9 r hr with rfl|Ch
     ·exact .inr ⟨_,PR,j',z',by rw[Sh,←QI];exact h1,by omega,h3⟩
     ·exact .inr ⟨r,Ch,j',z',h1,h2,h3⟩
    ·obtain⟨z,hz,MU⟩:=gM.1 h1
     split at MU
     ·cases MU
     rename_i PO
     obtain⟨o,ho,rfl⟩:=aB.1 MU
     obtain⟨k,_,JC,Cj⟩:=Qc z hz
     exact .inr ⟨_,PR,k,z,by rw[Sh];exact Cj,JC,by simpa using PO,o,ho,rfl⟩
   ·rintro(h1|⟨r,hr,j',z',h1,h2,h3,o,ho,rfl⟩)
    ·exact .inl (.inl h1)
    ·rcases mD hr with hr|rfl
     ·exact .inl (.inr ⟨r,hr,j',z',h1,h2,h3,o,ho,rfl⟩)
     ·rw[Sh]at h1
      by_cases T4:(j':Int)<y.q
      ·exact .inl (.inr ⟨y,hmem,j',z',by rw[QI];exact h1,T4,h3,o,ho,rfl⟩)
      ·refine .inr (gM.2 ⟨z',?_,?_⟩)
       ·rw[g2]
        exact tB.2 ⟨j',by omega,by omega,h1⟩
       ·rw[if_neg (by simp[h3])]
        exact eT ho
  ·rw[kW _ _ hit]
   exact h.L i hi q
 ·by_cases hit:i=t
  ·subst hit
   rw[kz]
   exact hN
  ·rw[kW _ _ hit]
   exact h.nodup i hi
 ·have hb:((x.ox t { x.P t with rs:=(x.P t).rs.set (fZ t ah f+sh) (bB.heard y m),L:=(x.P t).L++l7 (bB.dK y m).2.1 }).P i).base=(x.P i).base:=by
   by_cases hit:i=t
   ·subst hit
    rw[kz]
   ·rw[kW _ _ hit]
  rw[hb]
  by_cases PY:u=t
  ·subst PY
   rw[kz]
   have AZ:=(h.kY i hi).rS
   have hpi:=(h.pid i hi).2.1
   exact mh (h.base i hi u hu) CU (by rw[bG,aA,ir];omega)
  ·rw[kW _ _ PY]
   exact h.base i hi u hu
end lA
end Go.Proofs.YtmkapocibaojdaaGreatDoor
end
section
namespace Go.Sx
open Go
def Net.ju (x:Net) (f:Nat) (p:fJ) (K':List bO) (X:Nat→Nat→List bN):Net:=
 { P:=fun i=>if i=f then p else x.P i,K:=fun i=>if i=f then K' else x.K i,H:=fun a t sh=>if a=f then x.H a t sh++X t sh else x.H a t sh }
section ju
variable {x:Net} {f:Nat} {p:fJ} {K':List bO} {X:Nat→Nat→List bN}
theorem jX:(x.ju f p K' X).P f=p:=if_pos rfl
theorem jW {i:Nat} (h:i≠f):(x.ju f p K' X).P i=x.P i:=if_neg h
theorem qq:(x.ju f p K' X).K f=K':=if_pos rfl
theorem qp {i:Nat} (h:i≠f):(x.ju f p K' X).K i=x.K i:=if_neg h
theorem lP {t sh:Nat}:(x.ju f p K' X).H f t sh=x.H f t sh++X t sh:=if_pos rfl
theorem kU {i t sh:Nat} (h:i≠f):(x.ju f p K' X).H i t sh=x.H i t sh:=if_neg h
end ju
theorem C6 {l X:List bN} {q:Nat} (h:q≤l.length):iC (l++X) q=iC l q:=by
 cases q with
 | zero=>rfl
 | succ k=>simp only[iC,bz (show k<l.length by omega)]
theorem v8 {l:List bN} {m:bN}:iC (l++[m]) (l++[m]).length=m.time:=by
 simp[iC]
end Go.Sx
namespace Go.Proofs.YtmkapocibaojdaaGreatDoor
open Go Go.Sx
theorem rV.app {r:bB} {l X:List bN} (h:rV r l) (h0:0≤r.q):rV r (l++X):=by
 have hq:=h.q
 refine⟨by simp;omega,by rw[C6 (by omega)];exact h.t,fun m hm=>?_⟩
 obtain⟨j,h1,h2⟩:=h.l m hm
 exact⟨j,by rw[bz (ai.1 h1).1];exact h1,h2⟩
theorem GC {l X:List bN} {k:Int} {q:fG} (hk:k≤l.length):yU (l++X) k q↔yU l k q:=by
 constructor
 ·rintro⟨j,m,h1,h2,h3⟩
  exact⟨j,m,by rwa[bz (by omega)]at h1,h2,h3⟩
 ·rintro⟨j,m,h1,h2,h3⟩
  exact⟨j,m,by rw[bz (ai.1 h1).1];exact h1,h2,h3⟩
section lA
variable {places ah n:Nat} {x:Net}
theorem cw.ju (h:cw places ah x n) {f:Nat} (hf:f<places) {p:fJ} {K':List bO} {X:Nat→Nat→List bN} (hp:iW p (n+1)) (kT:p.id=f∧p.places=places∧p.ah=ah) (QA:(K'.length:Int)=p.clock)
  (Ug:∀(j:Nat) C,K'[j]?=some C→C.place=f∧C.when.getD f 0=j+1∧(aY C).code=0∧C.when.length=places)
  (TU:∀t<places,t≠f→∀sh<ah,sO K' ah f t sh (x.H f t sh++X t sh)) (TH:∀s∈p.ss,EO s (x.H f s.to.toNat s.sh.toNat++X s.to.toNat s.sh.toNat)) (EA:p.rs=(x.P f).rs)
  (hL:∀q,q∈p.L↔NQ K' q∨∃r∈(x.P f).rs,yU (x.H r.fm.toNat f r.sh.toNat) r.q q) (hn:(p.L.map ku).Nodup) (hbase:p.base=(x.P f).base) (uQ:(x.P f).clock≤p.clock) :
  cw places ah (x.ju f p K' X) (n+1):=by
 obtain⟨i1,i2,i3⟩:=h.pid f hf
 have CU:lF (bG (x.P f)) (bG p)=true:=by
  refine BM (by rw[kT.2.1,i2]) fun k hk=>?_
  unfold gf
  rw[kT.1,i1,EA]
  split
  ·exact uQ
  ·exact fq _
 refine⟨fun i hi=>?_,fun i hi=>?_,fun i hi=>?_,fun i hi=>?_,fun a ha t ht hne sh hs=>?_,fun i hi s hs=>?_,fun i hi r hr=>?_,fun i hi q=>?_,fun i hi=>?_,fun i hi u hu=>?_⟩
 ·by_cases hif:i=f
  ·subst hif
   rw[jX]
   exact hp
  ·rw[jW hif]
   exact(h.kY i hi).mono (by omega)
 ·by_cases hif:i=f
  ·subst hif
   rw[jX]
   exact kT
  ·rw[jW hif]
   exact h.pid i hi
 ·by_cases hif:i=f
  ·subst hif
   rw[jX,qq]
   exact QA
  ·rw[jW hif,qp hif]
   exact h.tW i hi
 ·by_cases hif:i=f
  ·subst hif
   rw[qq]
   exact Ug
  ·rw[qp hif]
   exact h.tg i hi
 ·by_cases hif:a=f
  ·subst hif
   rw[qq,lP]
   exact TU t ht hne sh hs
  ·rw[qp hif,kU hif]
   exact h.msg a ha t ht hne sh hs
 ·by_cases hif:i=f
  ·subst hif
   rw[jX]at hs
   rw[lP]
   exact TH s hs
  ·rw[jW hif]at hs
   rw[kU hif]
   exact h.snd i hi s hs
 ·have FR:r∈(x.P i).rs:=by
   by_cases hif:i=f
   ·subst hif
    rw[jX,EA]at hr
    exact hr
   ·rwa[jW hif]at hr
  have h1:=h.vj i hi r FR
  have h2:=((h.kY i hi).vj r FR).1
  by_cases hrf:r.fm.toNat=f
  ·rw[hrf]at h1 ⊢
   rw[lP]
   exact h1.app h2
  ·rw[kU hrf]
   exact h1
 ·by_cases hif:i=f
  ·subst hif
   rw[jX,qq,hL,EA]
   have:∀r∈(x.P i).rs,(x.ju i p K' X).H r.fm.toNat i r.sh.toNat=x.H r.fm.toNat i r.sh.toNat:=fun r hr=>kU (h.pair hi hr).2.1
   constructor
   ·rintro(h1|⟨r,hr,h1⟩)
    ·exact .inl h1
    ·exact .inr ⟨r,hr,by rw[this r hr];exact h1⟩
   ·rintro(h1|⟨r,hr,h1⟩)
    ·exact .inl h1
    ·exact .inr ⟨r,hr,by rw[this r hr]at h1;exact h1⟩
  ·rw[jW hif,qp hif,h.L i hi q]
   have:∀r∈(x.P i).rs,(yU ((x.ju f p K' X).H r.fm.toNat i r.sh.toNat) r.q q↔yU (x.H r.fm.toNat i r.sh.toNat) r.q q):=fun r hr=>by
    by_cases hrf:r.fm.toNat=f
    ·have h1:=(h.vj i hi r hr).q
     rw[hrf]at h1 ⊢
     rw[lP]
     exact GC h1
    ·rw[kU hrf]
   constructor
   ·rintro(h1|⟨r,hr,h1⟩)
    ·exact .inl h1
    ·exact .inr ⟨r,hr,(this r hr).2 h1⟩
   ·rintro(h1|⟨r,hr,h1⟩)
    ·exact .inl h1
    ·exact .inr ⟨r,hr,(this r hr).1 h1⟩
 ·by_cases hif:i=f
  ·subst hif
   rw[jX]
   exact hn
  ·rw[jW hif]
   exact h.nodup i hi
 ·have hb:((x.ju f p K' X).P i).base=(x.P i).base:=by
   by_cases hif:i=f
   ·subst hif
    rw[jX]
    exact hbase
   ·rw[jW hif]
  rw[hb]
  by_cases PZ:u=f
  ·subst PZ
   rw[jX]
   have AZ:=(h.kY i hi).rS
   have hpi:=(h.pid i hi).2.1
   exact mh (h.base i hi u hu) CU (by rw[bG,aA,ir];omega)
  ·rw[jW PZ]
   exact h.base i hi u hu
theorem sO.more {K:List bO} {f t sh:Nat} {l:List bN} (h:sO K ah f t sh l) (C:bO) (hC:(ei ah C sh).ops=[]):sO (K++[C]) ah f t sh l:=by
 refine⟨fun j m hm=>?_,h.inc,fun D hD hne=>?_⟩
 ·obtain⟨h1,h2,h3,h4,h5,h6,h7⟩:=h.at' j m hm
  refine⟨h1,h2,h3,h4,h5,by simp;omega,h7.imp id fun⟨h8,D,hD,h9⟩=>⟨h8,D,au.2 (.inl hD),h9⟩⟩
 ·rcases au.1 hD with hD|hD
  ·exact h.all D hD hne
  ·obtain rfl:=ay.1 hD
   exact absurd hC hne
theorem sO.tg {K:List bO} {f t sh:Nat} {l:List bN} (h:sO K ah f t sh l) {C:bO} (hC:(ei ah C sh).ops≠[]) (hw:C.when.getD f 0=K.length+1):sO (K++[C]) ah f t sh (l++[⟨f,t,sh,l.length+1,C.when.getD f 0,false,ei ah C sh⟩]):=by
 refine⟨fun j m hm=>?_,?_,fun D hD hne=>?_⟩
 ·rcases dP j l.length with hj|hj
  ·rw[bz hj]at hm
   obtain⟨h1,h2,h3,h4,h5,h6,h7⟩:=h.at' j m hm
   exact⟨h1,h2,h3,h4,h5,by simp;omega,h7.imp id fun⟨h8,D,hD,h9⟩=>⟨h8,D,au.2 (.inl hD),h9⟩⟩
  ·have oP:=(ai.1 hm).1
   simp at oP
   have:j=l.length:=by omega
   subst this
   simp at hm
   subst hm
   refine⟨rfl,rfl,rfl,rfl,?_,?_,.inr ⟨rfl,C,by simp,rfl,hC,rfl⟩⟩
   ·show 0≤C.when.getD f 0
    omega
   ·have h8:((K++[C]).length:Int)=K.length+1:=by simp
    show C.when.getD f 0≤((K++[C]).length:Int)
    omega
 ·rw[List.pairwise_append]
  refine⟨h.inc,by simp,fun a ha b hb=>?_⟩
  obtain rfl:=ay.1 hb
  obtain⟨j,hj⟩:=aJ ha
  obtain⟨_,_,_,_,_,h6,_⟩:=h.at' j a hj
  exact⟨by show a.time≤C.when.getD f 0;omega,fun _=>by show a.time<C.when.getD f 0;omega⟩
 ·rcases au.1 hD with hD|hD
  ·obtain⟨m,hm,h1⟩:=h.all D hD hne
   exact⟨m,au.2 (.inl hm),h1⟩
  ·obtain rfl:=ay.1 hD
   exact⟨_,au.2 (.inr (ay.2 rfl)),rfl,rfl,rfl⟩
theorem sO.dW {K:List bO} {f t sh:Nat} {l:List bN} (h:sO K ah f t sh l):sO K ah f t sh (l++[⟨f,t,sh,l.length+1,K.length,true,⟨[],0,[]⟩⟩]):=by
 refine⟨fun j m hm=>?_,?_,fun D hD hne=>?_⟩
 ·rcases dP j l.length with hj|hj
  ·rw[bz hj]at hm
   exact h.at' j m hm
  ·have oP:=(ai.1 hm).1
   simp at oP
   have:j=l.length:=by omega
   subst this
   simp at hm
   subst hm
   exact⟨rfl,rfl,rfl,rfl,by show(0:Int)≤K.length;omega,fq _,.inl ⟨rfl,rfl⟩⟩
 ·rw[List.pairwise_append]
  refine⟨h.inc,by simp,fun a ha b hb=>?_⟩
  obtain rfl:=ay.1 hb
  obtain⟨j,hj⟩:=aJ ha
  obtain⟨_,_,_,_,_,h6,_⟩:=h.at' j a hj
  exact⟨h6,fun h=>by cases h⟩
 ·obtain⟨m,hm,h1⟩:=h.all D hD hne
  exact⟨m,au.2 (.inl hm),h1⟩
def Cs (x:Net) (ah f:Nat) (C:bO) (t sh:Nat):List bN:=if (ei ah C sh).ops=[]then []else [⟨f,t,sh,(x.H f t sh).length+1,C.when.getD f 0,false,ei ah C sh⟩]
def gU (x:Net) (ah f:Nat) (C:bO):Net:=x.ju f (p4 (x.P f) C) (x.K f++[C]) (Cs x ah f C)
def Ah (x:Net) (f:Nat) (t sh:Nat):List bN:=[⟨f,t,sh,(x.H f t sh).length+1,(x.K f).length,true,⟨[],0,[]⟩⟩]
def gb (x:Net) (f:Nat):Net:=x.ju f (vR (x.P f)) (x.K f) (Ah x f)
theorem cw.B1 (h:cw places ah x n) {f:Nat} (hf:f<places) {s:dL} (hs:s∈(x.P f).ss):s.to.toNat<places∧s.to.toNat≠f∧s.sh.toNat<ah:=by
 obtain⟨h1,h2,h3⟩:=h.pid f hf
 have hp:=(h.kY f hf).ss
 rw[h1,h2,h3]at hp
 have hm:fJ.pair s∈cR f ah places:=by rw[←hp];exact eT hs
 obtain⟨rows,hrow,hm⟩:=cK.1 hm
 obtain⟨k,hk,rfl⟩:=aB.1 hrow
 unfold iD at hm
 split at hm
 ·cases hm
 ·rename_i EB
  obtain⟨i,hi,he⟩:=aB.1 hm
  obtain⟨e1,e2⟩:=kP he
  rw[←e1,←e2]
  exact⟨dX.1 hk,EB,dX.1 hi⟩
theorem cw.NA (h:cw places ah x n) {f:Nat} (hf:f<places) {at':List Int} {ops:List fP} (hc:(gY (x.P f) at' ops).code=0) (hd:∀o∈ops,o.bF.length≤1000000):cw places ah (gU x ah f (bI (x.P f) at' ops)) (n+1):=by
 obtain⟨i1,i2,i3⟩:=h.pid f hf
 obtain⟨e1,e2,e3⟩:=p5 hc
 obtain⟨_,e4,_⟩:=od e1
 have Sg:=Ct (h.kY f hf) hc
 have hw:=sG (x:=x.P f) (ops:=ops) (show(x.P f).id<at'.length by omega)
 rw[i1]at hw
 have uQ:=h.tW f hf
 have Jy:(bI (x.P f) at' ops).when.getD f 0=(x.K f).length+1:=by omega
 have pS:(bI (x.P f) at' ops).place=f:=by
  show(((x.P f).id:Nat):Int)=f
  omega
 refine h.ju hf (IP (h.kY f hf) hc hd) ⟨i1,i2,i3⟩ ?_ (fun j C hC=>?_) (fun t ht hne sh hs=>?_) (fun s hs=>?_) rfl (fun q=>?_) (Sg.nodup (h.nodup f hf)) rfl ?_
 ·show((x.K f++[bI (x.P f) at' ops]).length:Int)=(x.P f).clock+1
  simp
  omega
 ·rcases dP j (x.K f).length with hj|hj
  ·rw[bz hj]at hC
   exact h.tg f hf j C hC
  ·have oP:=(ai.1 hC).1
   simp at oP
   have:j=(x.K f).length:=by omega
   subst this
   simp at hC
   subst hC
   exact⟨pS,Jy,e3,by simp[bI,e4,i2]⟩
 ·unfold Cs
  split
  ·rename_i h0
   rw[bf]
   exact(h.msg f hf t ht hne sh hs).more _ h0
  ·rename_i h0
   exact(h.msg f hf t ht hne sh hs).tg h0 Jy
 ·obtain⟨y,hy,rfl⟩:=aB.1 hs
  have CT:=h.snd f hf y hy
  obtain⟨p1,p2,p3⟩:=h.B1 hf hy
  obtain⟨w1,w2⟩:=(h.kY f hf).way y hy
  have hsh:((y.sh.toNat:Nat):Int)=y.sh:=cW w2
  have hto:((y.to.toNat:Nat):Int)=y.to:=cW w1
  unfold pL
  rw[i3]
  split
  ·rename_i h0
   rw[Cs,if_pos (by rw[hsh];exact h0),bf]
   exact CT
  ·rename_i h0
   have e:Cs x ah f (bI (x.P f) at' ops) (dL.tg y (ei ah (bI (x.P f) at' ops) y.sh)).to.toNat (dL.tg y (ei ah (bI (x.P f) at' ops) y.sh)).sh.toNat=[dL.msg y (ei ah (bI (x.P f) at' ops) y.sh)]:=by
    show Cs x ah f (bI (x.P f) at' ops) y.to.toNat y.sh.toNat=_
    rw[Cs,if_neg (by rw[hsh];exact h0),hsh,hto,dL.msg,CT.q]
    have h1:(ei ah (bI (x.P f) at' ops) y.sh).when.getD (ei ah (bI (x.P f) at' ops) y.sh).place.toNat 0=(bI (x.P f) at' ops).when.getD f 0:=by
     show(bI (x.P f) at' ops).when.getD (bI (x.P f) at' ops).place.toNat 0=_
     rw[pS,aR]
    have h2:=((h.kY f hf).snd y hy).1
    rw[h1,h2,i1]
   rw[e]
   obtain⟨a,ha,hl⟩:=CT.l
   show EO _ (x.H f y.to.toNat y.sh.toNat++_)
   refine⟨?_,?_,a,by simp;omega,?_⟩
   ·show y.q+1=_
    rw[CT.q]
    simp
   ·rw[v8]
    rfl
   ·show y.l++_=_
    rw[hl,List.drop_append_of_le_length ha]
 ·show q∈(x.P f).L++eM _ _↔_
  rw[au,h.L f hf q]
  constructor
  ·rintro((⟨C,hC,h1⟩|h1)|h1)
   ·exact .inl ⟨C,au.2 (.inl hC),h1⟩
   ·exact .inr h1
   ·obtain⟨o,ho,rfl⟩:=aB.1 h1
    exact .inl ⟨_,au.2 (.inr (ay.2 rfl)),o,ho,rfl⟩
  ·rintro(⟨C,hC,o,ho,rfl⟩|h1)
   ·rcases au.1 hC with hC|hC
    ·exact .inl (.inl ⟨C,hC,o,ho,rfl⟩)
    ·obtain rfl:=ay.1 hC
     exact .inr (eT ho)
   ·exact .inl (.inr h1)
 ·show(x.P f).clock≤(x.P f).clock+1
  omega
theorem cw.K7 (h:cw places ah x n) {f:Nat} (hf:f<places):cw places ah (gb x f) (n+1):=by
 obtain⟨i1,i2,i3⟩:=h.pid f hf
 have uQ:=h.tW f hf
 refine h.ju hf (K8 (h.kY f hf)) ⟨i1,i2,i3⟩ uQ (h.tg f hf) (fun t ht hne sh hs=>(h.msg f hf t ht hne sh hs).dW) (fun s hs=>?_) rfl (h.L f hf) (h.nodup f hf) rfl (fq _)
 obtain⟨y,hy,rfl⟩:=aB.1 hs
 have CT:=h.snd f hf y hy
 obtain⟨w1,w2⟩:=(h.kY f hf).way y hy
 have hsh:((y.sh.toNat:Nat):Int)=y.sh:=cW w2
 have hto:((y.to.toNat:Nat):Int)=y.to:=cW w1
 have e:Ah x f (dL.dW y (x.P f).clock).to.toNat (dL.dW y (x.P f).clock).sh.toNat=[dL.kC y (x.P f).clock]:=by
  show Ah x f y.to.toNat y.sh.toNat=_
  have h2:=((h.kY f hf).snd y hy).1
  rw[Ah,dL.kC,hsh,hto,CT.q,h2,i1,uQ]
 rw[e]
 obtain⟨a,ha,hl⟩:=CT.l
 show EO _ (x.H f y.to.toNat y.sh.toNat++_)
 refine⟨?_,?_,a,by simp;omega,?_⟩
 ·show y.q+1=_
  rw[CT.q]
  simp
 ·rw[v8]
  rfl
 ·show y.l++_=_
  rw[hl,List.drop_append_of_le_length ha]
end lA
end Go.Proofs.YtmkapocibaojdaaGreatDoor
end
