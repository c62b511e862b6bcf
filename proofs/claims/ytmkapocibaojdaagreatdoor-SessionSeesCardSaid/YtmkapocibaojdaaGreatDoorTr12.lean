/- Part 12 of the texts of a claim: PlX PlH PlL AddsP SkP Tx29 SeR SeC SeB SeW. -/
import Derived.Laws.IdiomCopy
import Derived.Test.YtmkapocibaojdaaGreatDoorTr11
open Array renaming toArray_toList → eJ
open Bool renaming and_eq_true → bT
open ByteArray renaming mk → aL
open Int renaming le_refl → fq, toNat → nj, toNat_of_nonneg → cW, toNat_zero → mU
open List renaming any_eq_true → gL, append_nil → bf, cons_append → iO, filter_append → dm, filter_eq_self → fk, filter_map → lU, filter_sublist → dw, getD_eq_getElem?_getD → aO, getElem?_eq_getElem → ak, getElem?_eq_some_iff → ai, getElem?_map → aF, getElem?_take → cL, length_eq_zero_iff → eV, length_filter_le → cH, length_map → aA, length_take → bp, map → aj, map_append → bw, map_congr_left → cB, map_cons → cj, map_eq_nil_iff → cM, map_map → fc, map_nil → gy, map_set → mS, map_take → jt, map_toArray → lg, mem_append → au, mem_cons → cE, mem_cons_of_mem → bk, mem_cons_self → bl, mem_filter → aP, mem_map → aB, mem_map_of_mem → eT, mem_of_getElem? → ae, mem_singleton → ay, mergeSort_perm → gB, nil_append → j9, nodup_cons → jf, pairwise_map → fU, replicate → aD, take → bZ
open List.Perm renaming cons → mT
open Nat renaming add_zero → dZ, beq → lR, eq_of_beq_eq_true → dR, le_refl → aX, le_trans → aZ, zero_add → aK
open Option renaming map_eq_some_iff → aI
open Option.some renaming injEq → az
open Prod.mk renaming injEq → aH
section
namespace Go.Proofs.YtmkapocibaojdaaGreatDoor
open Go Go.Sx
abbrev QX:Value:=.agg #[.slice none 0 0,.int .i64 0,.slice none 0 0]
set_option maxHeartbeats 4000000 in
theorem AH {w:World} {S:Nat→Prop} {M:List Nat} {er:Nat→Addr} {eb:Nat→Array Value×TypeId} {x:fJ} {b n n1 c1 n2 c2:Nat} {a1 a2:Option Addr} {at':List Int} {ops:List fP} (hC:cm w S .nilIface (dC er eb)) (hP:Pre w S M [bQ b x]) (hx:iW x n) (hn:n<600) (h1:cm w S (.slice a1 n1 c1) (aS at')) (h2:cm w S (.slice a2 n2 c2) (.sl 7 (ops.map fe))) (ja:at'.length≤1000000) (kS:ops.length≤1000000) (qE:∀o∈ops,o.bF.length≤1000000) :
  Calls Tryz.prog 22 #[.pointer (some ⟨b,0,none⟩),.slice a1 n1 c1,.slice a2 n2 c2] w fun e w'=>
   ((gY x at' ops).code≠0∧∃v G',cQ M w S w' e (.tuple #[QX,.slice none 0 0,v]) [bQ b x] G'∧ER er (gY x at' ops) v G') ∨
   ((gY x at' ops).code=0∧∃u1 m1 d1 u2 m2 d2 u3 m3 d3,cQ M w S w' e (.tuple #[.agg #[.slice u1 m1 d1,.int .i64 x.id,.slice u2 m2 d2],.slice u3 m3 d3,.nilIface]) [aT (.slice u3 m3 d3) 62 9 ((lM x (bI x at' ops)).map fC),bQ b (p4 x (bI x at' ops))]
    [(.slice u1 m1 d1,aS (bI x at' ops).when),(.slice u2 m2 d2,.sl 7 ((bI x at' ops).ops.map fe))]):=by
 obtain rfl:=dJ h1
 have e2:=h2.pA
 rw[aA]at e2
 subst e2
 refine pW Tryz.func22 U9 (args:=[.pointer (some ⟨b,0,none⟩),.slice a1 at'.length c1,.slice a2 ops.length c2]) (S:=S) (C:=[bQ b x]) (G:=[(_,dC er eb),(_,aS at'),(_,.sl 7 (ops.map fe))]) (by kernel_rfl) hP (.cons hC (.cons h1 (.cons h2 (.nil _ _)))) ?_
 refine b9 (eZ 0 rfl) fun y hy=>?_
 obtain⟨vb,oa,oc,ia,ic,om,im⟩:=y
 refine bH (ij 0 [1] rfl rfl) ?_
 refine di 5 rfl (fun ni mW ng dh=>?_)
 refine Nm [bL b (.cells #[.pointer (sA vb 0),nI (↑x.id:Int),nI (↑x.places:Int),nI (↑x.ah:Int),nI x.clock,.slice (iN.mk vb oa oc ia ic om im).oa x.places oc,.slice (iN.mk vb oa oc ia ic om im).ia x.places ic] 124 (0,0)),(fT (iN.mk vb oa oc ia ic om im).vb x.places x.base x.L),(dN (iN.mk vb oa oc ia ic om im).om.flatten x.ss),(c8 (iN.mk vb oa oc ia ic om im).im.flatten x.rs)] ?_
 try simp only[aQ]
 refine Zv [.wr 0 [] 0,zR 1,zR 2] [] [] (fun aN=>[zP 6 (aN 0),zS 7 none 0 0,zV 8 .nilIface]) o0 (fun aN=>[(aN 0,.cells #[.slice none 0 0,nI 0,.slice none 0 0] 35 (0,0))]) (fun aN=>?_)
 refine aq ?_
 refine jS [(0,true),(1,true),(2,false),(3,true)] [] ?_
 refine Ya [zR 0,zR 1] [] [zP 23 b,zS 24 a1 at'.length c1] ?_
 refine cn [] [0,3] 83 #[.pointer (some (⟨b,0,none⟩)),.slice a1 at'.length c1] (some 25) (by kernel_rfl) (by kernel_rfl) (by decide) (fun w S M hP hG _=>?_)
 refine(HH (hG.at 0 rfl) hP (hG.at 4 rfl) (hG.at 1 rfl) hy.im hx.toyM ja).mono ?_
 rintro e1 w1 ⟨v,hR,hv⟩
 refine⟨_,_,_,hR,?_⟩
 obtain⟨sZ,rfl⟩|⟨sZ,rfl⟩:=hv
 case inr=>
  have oE:gY x at' ops=⟨ff x at',-1⟩:=by rw[gY,if_pos sZ]
  rw[oE]
  try simp only[aQ]
  refine Ya [zR 3] [25,23,24] [zV 9 (.iface 390 (.pointer (some (er (ff x at')))))] ?_
  try simp only[aQ]
  refine aC ?_
  try simp only[aQ]
  refine aq ?_
  try simp only[aQ]
  refine Za [zR 0,zR 1] [] [zB 27 true] ?_
  try simp only[aQ]
  refine gR ?_
  try simp only[aQ]
  refine aq ?_
  try simp only[aQ]
  refine Zm [zR 0,zR 1,.wr 2 (ek 0 3) 0,zR 3,zR 4] [(2,[0])] [27,9] (fun _=>[zV 8 (.iface 390 (.pointer (some (er (ff x at')))))]) o0 o0 (fun _=>?_)
  try simp only[aQ]
  refine Yr [(ek 0 3),[],[]] (.tuple #[.agg #[.slice none 0 0,nI 0,.slice none 0 0],.slice none 0 0,.iface 390 (.pointer (some (er (ff x at'))))]) fun a w s=>?_
  have s2:=s.jz (ee (x:=x) ⟨vb,oa,oc,ia,ic,om,im⟩ [2,0,1,3] 3 4 rfl rfl rfl hy)
  exact .inl ⟨sZ,_,_,s2.ret (by simp) [0] [] rfl rfl,.inl ⟨rfl,.inr ⟨sZ,rfl⟩,rfl⟩⟩
 try simp only[aQ]
 refine Ya [zR 3] [25,23,24] [zV 9 .nilIface] ?_
 try simp only[aQ]
 refine aC ?_
 try simp only[aQ]
 refine aq ?_
 try simp only[aQ]
 refine Za [zR 0,zR 1] [] [zB 27 false] ?_
 try simp only[aQ]
 refine cF ?_
 try simp only[aQ]
 refine aG ?_
 try simp only[aQ]
 refine aq ?_
 try simp only[aQ]
 refine aq ?_
 try simp only[aQ]
 refine Nm [(fT vb x.places x.base x.L),(dN om.flatten x.ss),bL b (.cells #[.pointer (sA vb 0),nI (↑x.id:Int),nI (↑x.places:Int),nI (↑x.ah:Int),nI x.clock,.slice oa x.places oc,.slice ia x.places ic] 124 (0,0)),(c8 im.flatten x.rs)] ?_
 refine fh 2 rfl ?_
 obtain⟨nc,hal,hin⟩:=od sZ
 have QA:=hx.tW
 have hc0:=hx.c0
 have kT:=hx.id
 have wQ:¬(x.clock≥1099511627776):=by omega
 have oE:gY x at' ops=aY (bI x at' ops):=by rw[gY,if_neg (by simp[sZ]),if_neg (by omega)]
 refine Zp (bh 0 3++[.rd 3 [.o 1 none] 0 0,.rd 4 [] 0 7]) [27,9] [zB 34 false] (oC (show decide (x.clock≥(1099511627776:Int))=false from by simp;omega) oN) ?_
 refine cF ?_
 refine aG ?_
 refine jS [(0,true),(1,true),(2,true),(3,true),(4,true),(5,true),(6,true),(7,false),(8,false),(9,false)] [] ?_
 refine Ya (bh 0 4++[.rd 4 [.o 1 none] 0 0,zR 5,zR 6]) [34,1,2] [zV 43 (.agg #[.slice a1 at'.length c1,nI (↑x.id:Int),.slice a2 ops.length c2])] ?_
 refine Yc 84 #[.agg #[.slice a1 at'.length c1,nI (↑x.id:Int),.slice a2 ops.length c2]] (some 44) fun w S hG=>?_
 refine(Ea (c:=⟨at',x.id,ops⟩) (hG.at 1 rfl) (hG.at 2 rfl) ja kS qE).mono ?_
 rintro e2 w2 ⟨u1,d1,u2,d2,hR⟩
 refine⟨_,_,_,hR,?_⟩
 try simp only[aQ]
 refine Ym [.wr 8 [] 0,.wr 9 (ek 2 3) 0] [44,43] (fun dy=>[zP 10 (dy 0)]) o0 (fun dy=>[(dy 0,.cells #[.slice u1 at'.length d1,nI (↑x.id:Int),.slice u2 ops.length d2] 35 (0,0))]) [] (fun dy=>?_)
 try simp only[aQ]
 refine aC ?_
 try simp only[aQ]
 refine aq ?_
 try simp only[aQ]
 refine Nm [(fT vb x.places x.base x.L),(dN om.flatten x.ss),(c8 im.flatten x.rs),aT (.slice u1 at'.length d1) 3 1 (aj eI at'),aT (.slice u2 ops.length d2) 55 7 (aj fe ops)] ?_
 refine kj 3 rfl (by intro h0;rw[cM]at h0;simp[h0]at hal;omega) fun g cur xs hu _ _ hrow=>?_
 subst hu
 have T8:(x.id:Int)<at'.length:=by omega
 have Qv:(0:Int)≤x.id:=by omega
 have hle:=hrow.le
 rw[aA]at hle
 have hsz:0+(x.id:Int).toNat*1+1≤cur.size:=by rw[hrow.Ei];omega
 obtain⟨tt,M0⟩:∃tt,at'[(x.id:Int).toNat]?=some tt:=⟨_,ak (by omega)⟩
 try simp only[aQ]
 refine Zn ([zR 0,.rd 1 [.o 2 none] 0 0]++bh 2 5++[.rd 5 [.o 1 none] 0 0]++bh 6 9++[.rd 9 [.o 1 none] 0 0,.rd 10 [] 0 1,.rd 11 [] 0 2,.wr 12 [.o 3 (some (nI (x.clock+1)))] 0]) [(12,[3])] [] (fun _=>[]) (fun _=>[(3,.cells (cur.setIfInBounds (0+(↑x.id:Int).toNat*1) (nI (x.clock+1))) 3 (0,0))]) o0 (fun _=>(oC (show IntKind.i64.wrap (x.clock+1)=x.clock+1 from wrap_i64 (by omega) (by omega)) (oC Qv (oC T8 (oC (show(nI (x.clock+1)).oneCell'=true from ?_) (oC (show(0:Nat)+(↑x.id:Int).toNat*1<cur.size from by omega) oN)))))) (fun _=>?_)
 ·rfl
 refine bH (fB (v:=.int .i64 (x.clock+1)) (d:=dI (x.clock+1)) fun _ _ _=>.v rfl) ?_
 refine bH (q9 4 6 (x.id:Int).toNat 0 rfl hrow.len (dD M0) (by decide) rfl) ?_
 have TI:(aj eI at').set (x.id:Int).toNat ((eI tt).set 0 (dI (x.clock+1)))=aj eI (bI x at' ops).when:=(mS (f:=eI)).symm
 rw[TI]
 have xZ:(bI x at' ops).when.length=at'.length:=by simp[bI]
 try simp only[aQ]
 refine aq (aq ?_)
 have uM:Row (cur.setIfInBounds (0+(x.id:Int).toNat*1) (.int .i64 (x.clock+1))) d1 (aj eI (bI x at' ops).when).length 1 (xs.set ((x.id:Int).toNat*1+0) (.int .i64 (x.clock+1))):=by
  rw[aK,dZ,aA,xZ]
  have:=hrow.Mq ((x.id:Int).toNat*1) (.int .i64 (x.clock+1))
  rwa[aA]at this
 refine js 3 rfl ?_
 refine bH (gw 5 4 rfl rfl uM (by decide)) ?_
 rw[show(aj eI (bI x at' ops).when).length=at'.length by rw[aA,xZ]]
 refine bH (dg 4 rfl) ?_
 refine Nm [(fT vb x.places x.base x.L),(dN om.flatten x.ss),(c8 im.flatten x.rs),aT (.slice u2 ops.length d2) 55 7 (aj fe ops)] ?_
 try simp only[aQ]
 refine Za [zR 0,.rd 1 [.o 2 none] 0 0,zR 2,zR 3] [] [zI 59 (↑ops.length:Int),zI 60 0] ?_
 refine aM ?_
 refine cU (fun i:Int=>[zP 0 b,zP 6 (aN 0),zS 7 none 0 0,zV 8 .nilIface,zP 10 (dy 0),zI 59 (↑ops.length:Int),zI 60 i]) (fun i:Int=>[(aN 0,.cells #[.slice none 0 0,nI 0,.slice none 0 0] 35 (0,0)),(b,.cells #[.pointer (sA vb 0),nI (↑x.id:Int),nI (↑x.places:Int),nI (↑x.ah:Int),nI x.clock,.slice oa x.places oc,.slice ia x.places ic] 124 (0,0)),(dy 0,.cells #[.slice (sA g 0) at'.length d1,nI (↑x.id:Int),.slice u2 ops.length d2] 35 (0,0))]) (fun i:Int=>[fT vb x.places x.base x.L,dN om.flatten x.ss,c8 im.flatten x.rs,aT (.slice u2 ops.length d2) 55 7 ((lu ops i.toNat).map fe)]) (fun i:Int=>[(.nilIface,(dC er eb)),(.slice a1 at'.length c1,(aS at')),(.slice a2 ops.length c2,(D.sl 7 (aj fe ops))),(.slice oa x.places oc,(jI om)),(.slice ia x.places ic,(jI im)),(.pointer (sA 0 0),(D.ptr [D.v (Value.iface 390 (Value.pointer (some (er 2))))])),(nI (x.clock+1),(dI (x.clock+1))),(.slice (sA g 0) at'.length d1,(D.sl 1 (aj eI (bI x at' ops).when)))]) (fun i:Int=>(ops.length - i).toNat) (fun i:Int=>(0≤i∧i≤ops.length)) 0 [0,6,7,8,10,59,60] [0,1,2] [0,1,2,3] [0,1,2,3,4,5,6,7] ?_ (by kernel_rfl) rfl rfl rfl ?_
 ·exact⟨by omega,by omega⟩
 rintro i ⟨hi0,hi⟩
 refine Zs [zR 0] [] [zB 61 (decide (i<(↑ops.length:Int)))] ?_
 refine aq ?_
 refine cC (t:=decide (i<(↑ops.length:Int))) (fun hlt=>?_) (fun hlt=>?_)
 ·have fa:i<ops.length:=by simpa using hlt
  obtain⟨o,ho⟩:∃o,ops[i.toNat]?=some o:=⟨_,ak (by omega)⟩
  refine kj 3 rfl (by intro h0;rw[cM]at h0;have:=zq ho;rw[h0]at this;simp at this) fun g2 KW V6 hu _ _ Cg=>?_
  subst hu
  have hnl:((lu ops i.toNat).map fe).length=ops.length:=by rw[aA,xp (by omega)]
  rw[hnl]at Cg
  have WO:=Cg.le
  have y8:0+i.toNat*7+1≤KW.size:=by rw[Cg.Ei];omega
  try simp only[aQ]
  refine aG ?_
  try simp only[aQ]
  refine aq ?_
  try simp only[aQ]
  refine aM ?_
  try simp only[aQ]
  refine aq ?_
  try simp only[aQ]
  refine Za [zR 0,zR 1] [61] [zI 11 i] ?_
  try simp only[aQ]
  refine Zn [zR 0,.rd 1 [.o 2 none] 0 0,zR 2,zR 3,.rd 4 [] 0 2,zR 5,.wr 6 [.o 3 (some (nI i))] 0] [(6,[3])] [] (fun _=>[]) (fun _=>[(3,.cells (KW.setIfInBounds (0+i.toNat*7) (nI i)) 55 (0,0))]) o0 (fun _=>(oC hi0 (oC fa (oC (show(nI i).oneCell'=true from ?_) (oC (show(0:Nat)+i.toNat*7<KW.size from by omega) oN))))) (fun _=>?_)
  ·rfl
  have hno:({ o with no:=(i.toNat:Int) }:fP)={ o with no:=i }:=by rw[cW hi0]
  have P9:(aj fe (lu ops i.toNat)).set i.toNat ((fe o).set 0 (dI i))=aj fe (lu ops (i+1).toNat):=by
   rw[show(i+1).toNat=i.toNat+1 by omega,←C8 ho,hno,mS]
   rfl
  have Qj:((lu ops (i+1).toNat).map fe).length=ops.length:=by rw[aA,xp (by omega)]
  refine bH (fB (v:=.int .i64 i) (d:=dI i) fun _ _ _=>.v rfl) ?_
  refine bH (q9 3 8 i.toNat 0 rfl (by rw[hnl];exact Cg.len) (dD (zq ho)) (by decide) rfl) ?_
  rw[P9]
  refine js 3 rfl ?_
  have Qb:Row (KW.setIfInBounds (0+i.toNat*7) (.int .i64 i)) d2 (aj fe (lu ops (i+1).toNat)).length 7 (V6.set (i.toNat*7+0) (.int .i64 i)):=by
   rw[aK,dZ,Qj]
   exact Cg.Mq _ _
  refine bH (gw 4 3 rfl rfl Qb (by decide)) ?_
  rw[Qj]
  try simp only[aQ]
  refine eu ?_
  try simp only[aQ]
  refine Zp [.rd 0 [] 0 1,zR 1] [] [zI 60 (i+1)] (oC (show IntKind.i64.wrap (i+1)=i+1 from wrap_i64 (by omega) (by omega)) oN) ?_
  try simp only[aQ]
  refine bC (i+1) [0,6,7,8,10,59,60] [0,1,2] [0,1,2,3] [0,1,2,3,4,5,6,7] ?_ ?_ (by kernel_rfl) rfl rfl rfl
  ·exact⟨by omega,by omega⟩
  ·omega
 ·have hie:i.toNat=ops.length:=by simp at hlt;omega
  rw[hie,C9]
  refine dO rfl ?_
  refine aq (aq ?_)
  refine bH (dg 3 rfl) ?_
  refine Nm [(fT vb x.places x.base x.L),(dN om.flatten x.ss),(c8 im.flatten x.rs)] ?_
  try simp only[aQ]
  refine jT [(0,true),(1,false),(2,true)] [] ?_
  refine Ya [.rd 0 (ek 2 3) 0 0] [61,59,60] [zV 70 (.agg #[.slice (sA g 0) at'.length d1,nI (↑x.id:Int),.slice u2 ops.length d2])] ?_
  refine Yc 85 #[.agg #[.slice (sA g 0) at'.length d1,nI (↑x.id:Int),.slice u2 ops.length d2]] (some 71) fun w S hG=>?_
  refine(pg (c:=bI x at' ops) (hG.at 0 rfl) (hG.at 7 rfl) (hG.at 8 rfl) (by rw[xZ];exact ja) (by rw[bI,iL];exact kS)).mono ?_
  rintro e3 w3 (⟨ha,v,hR,hv⟩|⟨Np,JE,pb,hR⟩)
  case inr=>
   refine⟨_,_,_,hR,?_⟩
   have hc0:(aY (bI x at' ops)).code≠0:=by omega
   rw[oE]
   try simp only[aQ]
   refine Ya [zR 2] [71,70] [zV 12 (.iface 202 (.pointer (sA pb 0)))] ?_
   refine aC ?_
   refine Zs [zR 0,zR 1] [] [zB 73 true] ?_
   refine gR ?_
   refine Zv [zR 0,zR 1,.wr 2 (ek 0 3) 0,zR 3,zR 4] [(2,[0])] [73,12] (fun _=>[zV 8 (.iface 202 (.pointer (sA pb 0)))]) o0 o0 (fun _=>?_)
   refine Yr [(ek 0 3),[],[]] (.tuple #[.agg #[.slice none 0 0,nI 0,.slice none 0 0],.slice none 0 0,.iface 202 (.pointer (sA pb 0))]) fun a w s=>?_
   have s2:=(s.dY 1 rfl).jz (ee (x:=x) ⟨vb,oa,oc,ia,ic,om,im⟩ [3,0,1,2] 3 4 rfl rfl rfl hy)
   exact .inl ⟨hc0,_,_,s2.ret (by simp) [0] [9] rfl rfl,.inr ⟨Np,JE,pb,rfl,rfl⟩⟩
  refine⟨_,_,_,hR,?_⟩
  obtain⟨hc0,rfl⟩|⟨hc0,rfl⟩:=hv
  case inr=>
   rw[oE]
   try simp only[aQ]
   refine Ya [zR 2] [71,70] [zV 12 (.iface 390 (.pointer (some (er (aY (bI x at' ops)).code))))] ?_
   refine aC ?_
   refine Zs [zR 0,zR 1] [] [zB 73 true] ?_
   refine gR ?_
   refine Zv [zR 0,zR 1,.wr 2 (ek 0 3) 0,zR 3,zR 4] [(2,[0])] [73,12] (fun _=>[zV 8 (.iface 390 (.pointer (some (er (aY (bI x at' ops)).code))))]) o0 o0 (fun _=>?_)
   refine Yr [(ek 0 3),[],[]] (.tuple #[.agg #[.slice none 0 0,nI 0,.slice none 0 0],.slice none 0 0,.iface 390 (.pointer (some (er (aY (bI x at' ops)).code)))]) fun a w s=>?_
   have s2:=(s.dY 1 rfl).jz (ee (x:=x) ⟨vb,oa,oc,ia,ic,om,im⟩ [3,0,1,2] 3 4 rfl rfl rfl hy)
   exact .inl ⟨hc0,_,_,s2.ret (by simp) [0] [] rfl rfl,.inl ⟨ha,.inr ⟨hc0,rfl⟩,rfl⟩⟩
  have hok:(gY x at' ops).code=0:=by rw[oE];exact hc0
  have Sg:=Ct hx hok
  try simp only[aQ]
  refine Ya [zR 2] [71,70] [zV 12 .nilIface] ?_
  refine aC ?_
  refine Zs [zR 0,zR 1] [] [zB 73 false] ?_
  refine cF ?_
  refine aG (aq ?_)
  refine jS [(0,true),(1,true),(2,true),(3,true),(4,true),(5,false),(6,true)] [(5,[])] ?_
  refine Ya (bh 0 3++[.rd 3 [.o 1 none] 0 0,.rd 4 (ek 2 3) 0 0]) [73,12] [zP 79 vb,zV 80 (.agg #[.slice (sA g 0) at'.length d1,nI (↑x.id:Int),.slice u2 ops.length d2])] ?_
  refine cn [] [0] 86 #[.pointer (some (⟨vb,0,none⟩)),.agg #[.slice (some (⟨g,0,none⟩)) at'.length d1,.int .i64 (↑x.id:Int),.slice u2 ops.length d2]] (some 81) (by kernel_rfl) (by kernel_rfl) (by decide) (fun w S M hP hG _=>?_)
  refine(GP (c:=bI x at' ops) (hG.at 0 rfl) hP (hx.R2 (by omega)) (hG.at 7 rfl) (hG.at 8 rfl) (by rw[xZ];exact ja) (by rw[bI,iL];exact kS) (oz qE)).mono ?_
  rintro e4 w4 ⟨v,G',hR,hv⟩
  rw[wg (lH.2 Sg)]at hv
  rw[sI,if_pos (lH.2 Sg)]at hR
  obtain⟨_,⟨_,rfl⟩|⟨h0,_⟩,rfl⟩|⟨h0,_⟩:=hv
  case inl.inr=>exact absurd rfl h0
  case inr=>simp at h0
  refine⟨_,_,_,hR,?_⟩
  try simp only[aQ]
  refine Ya [zR 6] [81,79,80] [zV 13 .nilIface] ?_
  try simp only[aQ]
  refine aC ?_
  try simp only[aQ]
  refine aq ?_
  try simp only[aQ]
  refine Za [zR 0,zR 1] [] [zB 83 false] ?_
  try simp only[aQ]
  refine cF ?_
  try simp only[aQ]
  refine aG ?_
  try simp only[aQ]
  refine aq ?_
  try simp only[aQ]
  refine Zn (bh 0 3++[.rd 3 [.o 1 none] 0 0,.rd 4 [] 0 1,zR 5,zR 6,.wr 7 [.o 1 none] 0]) [(7,[1])] [83,13] (fun _=>[]) (fun _=>[(1,.cells #[.pointer (sA vb 0),nI (↑x.id:Int),nI (↑x.places:Int),nI (↑x.ah:Int),nI (x.clock+1),.slice oa x.places oc,.slice ia x.places ic] 124 (0,0))]) o0 (fun _=>(oC (show IntKind.i64.wrap (x.clock+1)=x.clock+1 from wrap_i64 (by omega) (by omega)) oN)) (fun _=>?_)
  try simp only[aQ]
  refine aq ?_
  try simp only[aQ]
  refine Za [zR 0] [] [zS 14 none 0 0] ?_
  try simp only[aQ]
  refine aq ?_
  try simp only[aQ]
  refine aq ?_
  try simp only[aQ]
  obtain⟨Bn,TJ⟩:=hx.Ot
  have y9:=hx.p6
  have FQ:=hx.s6
  rw[show dN om.flatten x.ss=dN om.flatten (qv x (bI x at' ops) (fZ x.id x.ah (0:Int).toNat))by rw[mU,zD,E8]]
  refine bH (fO fC 62 9) ?_
  refine Nm [(dN om.flatten (qv x (bI x at' ops) (fZ x.id x.ah (nj 0)))),(c8 im.flatten x.rs),(fT vb x.places x.base (x.L++eM (bI x at' ops) (bI x at' ops).ops)),aT (.slice none 0 0) 62 9 (aj fC [])] ?_
  refine Za (bh 0 3++[.rd 3 [.o 1 none] 0 0,zR 4,zR 5]) [] [zS 96 oa x.places oc,zI 97 (↑x.places:Int),zI 98 0] ?_
  refine aM ?_
  refine cU (fun z:my=>[zP 0 b,zP 6 (aN 0),zS 7 none 0 0,zV 8 .nilIface,zP 10 (dy 0),zS 14 z.a z.k z.c,zS 96 oa x.places oc,zI 97 (↑x.places:Int),zI 98 z.i]) (fun z:my=>[(aN 0,.cells #[.slice none 0 0,nI 0,.slice none 0 0] 35 (0,0)),(b,.cells #[.pointer (sA vb 0),nI (↑x.id:Int),nI (↑x.places:Int),nI (↑x.ah:Int),nI (x.clock+1),.slice oa x.places oc,.slice ia x.places ic] 124 (0,0)),(dy 0,.cells #[.slice (sA g 0) at'.length d1,nI (↑x.id:Int),.slice u2 ops.length d2] 35 (0,0))]) (fun z:my=>[dN om.flatten (qv x (bI x at' ops) (fZ x.id x.ah z.i.toNat)),c8 im.flatten x.rs,fT vb x.places x.base (x.L++eM (bI x at' ops) (bI x at' ops).ops),aT (.slice z.a z.k z.c) 62 9 ((uF x (bI x at' ops) (fZ x.id x.ah z.i.toNat)).map fC)]) (fun z:my=>[(.nilIface,(dC er eb)),(.slice a1 at'.length c1,(aS at')),(.slice a2 ops.length c2,(D.sl 7 (aj fe ops))),(.slice oa x.places oc,(jI om)),(.slice ia x.places ic,(jI im)),(.pointer (sA 0 0),(D.ptr [D.v (Value.iface 390 (Value.pointer (some (er 2))))])),(nI (x.clock+1),(dI (x.clock+1))),(.slice (sA g 0) at'.length d1,(D.sl 1 (aj eI (bI x at' ops).when))),(.slice u2 ops.length d2,(D.sl 7 (aj fe (lp ops))))]) (fun z:my=>(x.places - z.i).toNat) (fun z:my=>(0≤z.i∧z.i≤x.places)) ⟨0,none,0,0⟩ [0,6,7,8,10,14,96,97,98] [0,1,2] [0,1,2,3] [0,1,2,3,4,5,6,7,8] ?_ (by kernel_rfl) rfl rfl rfl ?_
  ·exact⟨by simp,by simp⟩
  rintro⟨k,av,m,cv⟩ ⟨Qr,Qq⟩
  dsimp only at Qr Qq ⊢
  refine Zs [zR 0] [] [zB 99 (decide (k<(↑x.places:Int)))] ?_
  refine aq ?_
  refine cC (t:=decide (k<(↑x.places:Int))) (fun hlk=>?_) (fun hlk=>?_)
  ·have TY:k<x.places:=by simpa using hlk
   obtain⟨r,hr⟩:∃r,om[k.toNat]?=some r:=⟨_,ak (by rw[hy.om.len];show k.toNat<x.places;omega)⟩
   have Bo:=hy.om.row hr
   refine j0 3 rfl k.toNat (dD hr) (by kernel_rfl) (fun b1 fu uf vi vm fg cJ ha1 cP=>?_)
   cases ha1
   have cg:=oO (cP 0 _ rfl)
   try simp only[aQ]
   refine aG (aq (aM ?_))
   refine Zt [.rd 0 [] 0 2,.rd 1 [.r 1 (some (.slice (fg,cJ).fst ((aj eP r).length) cJ))] 0 0,zR 2] [99] [zS 16 (fg,cJ).fst ((aj eP r).length) cJ] (oC Qr (oC TY (oC cg oN))) ?_
   refine Zs (bh 0 3) [] [zS 102 (fg,cJ).fst ((aj eP r).length) cJ,zI 103 ((↑(aj eP r).length:Int)),zI 104 0] ?_
   refine aM ?_
   have Ig:(aj eP r).length=r.length:=aA ..
   rw[Ig]
   refine cU (fun z:my=>[zP 0 b,zP 6 (aN 0),zS 7 none 0 0,zV 8 .nilIface,zP 10 (dy 0),zS 14 z.a z.k z.c,zS 16 (fg,cJ).fst r.length cJ,zS 96 (sA b1 fu) x.places oc,zI 97 (↑x.places:Int),zI 98 k,zS 102 (fg,cJ).fst r.length cJ,zI 103 (↑r.length:Int),zI 104 z.i]) (fun z:my=>[(aN 0,.cells #[.slice none 0 0,nI 0,.slice none 0 0] 35 (0,0)),(b,.cells #[.pointer (sA vb 0),nI (↑x.id:Int),nI (↑x.places:Int),nI (↑x.ah:Int),nI (x.clock+1),.slice (sA b1 fu) x.places oc,.slice ia x.places ic] 124 (0,0)),(dy 0,.cells #[.slice (sA g 0) at'.length d1,nI (↑x.id:Int),.slice u2 ops.length d2] 35 (0,0))]) (fun z:my=>[dN om.flatten (qv x (bI x at' ops) (fZ x.id x.ah k.toNat+z.i.toNat)),c8 im.flatten x.rs,fT vb x.places x.base (x.L++eM (bI x at' ops) (bI x at' ops).ops),aT (.slice z.a z.k z.c) 62 9 ((uF x (bI x at' ops) (fZ x.id x.ah k.toNat+z.i.toNat)).map fC)]) (fun z:my=>[(.nilIface,(dC er eb)),(.slice a1 at'.length c1,(aS at')),(.slice a2 ops.length c2,(D.sl 7 (aj fe ops))),(.slice (sA b1 fu) x.places oc,(jI om)),(.slice ia x.places ic,(jI im)),(.pointer (sA 0 0),(D.ptr [D.v (Value.iface 390 (Value.pointer (some (er 2))))])),(nI (x.clock+1),(dI (x.clock+1))),(.slice (sA g 0) at'.length d1,(D.sl 1 (aj eI (bI x at' ops).when))),(.slice u2 ops.length d2,(D.sl 7 (aj fe (lp ops)))),(.slice (fg,cJ).fst ((aj eP r).length) cJ,(D.sl 1 (aj eP r)))]) (fun z:my=>(r.length - z.i).toNat) (fun z:my=>(0≤z.i∧z.i≤r.length)) ⟨0,av,m,cv⟩ [0,6,7,8,10,14,16,96,97,98,102,103,104] [0,1,2] [0,1,2,3] [0,1,2,3,4,5,6,7,8,9] ?_ (by kernel_rfl) rfl rfl rfl ?_
   ·exact⟨by simp,by simp⟩
   rintro⟨i,zi,m2,zg⟩ ⟨hi0,hi⟩
   dsimp only at hi0 hi ⊢
   refine b9 (eC 3 rfl) fun _ qU=>?_
   have GF:=Ca x (bI x at' ops) (fZ x.id x.ah k.toNat+i.toNat)
   rw[aA]at qU
   refine Zs [zR 0] [] [zB 105 (decide (i<(↑r.length:Int)))] ?_
   refine aq ?_
   refine cC (t:=decide (i<(↑r.length:Int))) (fun T0=>?_) (fun T0=>?_)
   ·have TZ:i<r.length:=by simpa using T0
    obtain⟨bb,JH⟩:∃bb,r[i.toNat]?=some bb:=⟨_,ak (by omega)⟩
    have hne:k.toNat≠x.id:=by
     intro h0
     rw[if_pos h0]at Bo
     omega
    rw[if_neg hne]at Bo
    have KI:=hy.om.at hr JH
    obtain⟨y0,hy0⟩:∃y0,x.ss[fZ x.id x.ah k.toNat+i.toNat]?=some y0:=by
     have h4:=(ai.1 KI).1
     rw[hy.om.DJ]at h4
     exact⟨_,ak (by rw[Bn];exact h4)⟩
    obtain⟨hto,hsh⟩:=hx.zw (by omega) hne (by omega) hy0
    refine gr 9 rfl i.toNat (dD JH) (by kernel_rfl) (fun b2 pN Bq JT IC ha2 kK=>?_)
    cases ha2
    have gI:=oO (kK 0 _ rfl)
    try simp only[aQ]
    refine aG (aq (aM ?_))
    refine Zt [zR 0,.rd 1 [] 0 2,.rd 2 [.r 2 (some (.pointer (sA bb 0)))] 0 0,zR 3,zR 4] [105] [zI 17 i,zP 18 bb] (oC hi0 (oC TZ (oC gI oN))) ?_
    refine aq ?_
    have Cf:y0.sh=i:=by omega
    refine js 1 rfl ?_
    refine Nm [(dN om.flatten (qv x (bI x at' ops) (fZ x.id x.ah k.toNat+i.toNat))),(c8 im.flatten x.rs),(fT vb x.places x.base (x.L++eM (bI x at' ops) (bI x at' ops).ops)),aT (.slice zi m2 zg) 62 9 (aj fC (uF x (bI x at' ops) (fZ x.id x.ah k.toNat+i.toNat))),bL b (.cells #[.pointer (sA vb 0),nI (↑x.id:Int),nI (↑x.places:Int),nI (↑x.ah:Int),nI (x.clock+1),.slice (sA b1 fu) x.places oc,.slice ia x.places ic] 124 (0,0))] ?_
    refine jT [(0,true),(1,true),(2,true),(3,false),(4,true),(5,true),(6,true),(7,false),(8,false),(9,true)] [] ?_
    refine Ya [zR 0,.rd 1 (ek 1 3) 0 0,zR 2] [] [zP 110 b,zV 111 (.agg #[.slice (sA g 0) at'.length d1,nI (↑x.id:Int),.slice u2 ops.length d2]),zI 112 i] ?_
    refine cn [] [4] 87 #[.pointer (some (⟨b,0,none⟩)),.agg #[.slice (some (⟨g,0,none⟩)) at'.length d1,.int .i64 (↑x.id:Int),.slice u2 ops.length d2],.int .i64 i] (some 113) (by kernel_rfl) (by kernel_rfl) (by decide) (fun w S M hP hG _=>?_)
    refine(PB (c:=bI x at' ops) (sh:=i) (hG.at 0 rfl) hP (hG.at 8 rfl) (by rw[bI,iL];exact kS) (by have:=hx.s1;omega) (by have:=hx.s6;omega)).mono ?_
    rintro e5 w5 ⟨u4,d4,hR⟩
    refine⟨_,_,_,hR,?_⟩
    try simp only[aQ]
    refine Ym (bh 4 7++[.wr 7 [] 0,.wr 8 (ek 2 3) 0,zR 9]) [113,110,111,112] (fun eR=>[zP 19 (eR 0),zB 20 (decide ((↑(ei (↑x.ah:Int) (bI x at' ops) i).ops.length:Int)>0))]) o0 (fun eR=>[(eR 0,.cells #[.slice (sA g 0) at'.length d1,nI ((bI x at' ops).place),.slice u4 ((ei (↑x.ah:Int) (bI x at' ops) i).ops.length) d4] 35 (0,0))]) [] (fun eR=>?_)
    try simp only[aQ]
    refine aC ?_
    try simp only[aQ]
    refine aq ?_
    try simp only[aQ]
    refine Za [zR 0] [] [zB 116 (decide ((↑(ei (↑x.ah:Int) (bI x at' ops) i).ops.length:Int)>0))] ?_
    try simp only[aQ]
    refine cC (t:=decide ((↑(ei (↑x.ah:Int) (bI x at' ops) i).ops.length:Int)>0)) (fun M7=>?_) (fun M7=>?_)
    ·have pT:(ei x.ah (bI x at' ops) i).ops≠[]:=by
      intro h0
      rw[h0]at M7
      simp at M7
     obtain⟨VL,Ww,qj,wF,wE⟩:=hx.snd y0 (ae hy0)
     have LN:=F8 hx hok (ae hy0) (by rw[Cf];exact pT)
     rw[Cf]at LN
     have N3:tA x.ah (bI x at' ops) y0=[dL.msg y0 (ei x.ah (bI x at' ops) i)]:=by rw[tA,Cf,if_neg pT]
     have hsc:pL x.ah (bI x at' ops) y0=dL.tg y0 (ei x.ah (bI x at' ops) i):=by rw[pL,Cf,if_neg pT]
     have hps:fZ x.id x.ah k.toNat+i.toNat+1=fZ x.id x.ah k.toNat+(i+1).toNat:=by omega
     try simp only[aQ]
     refine aq ?_
     try simp only[aQ]
     refine jT [(0,true),(1,true),(2,false),(3,true),(4,true),(5,true),(6,false),(7,false),(8,true)] [] ?_
     refine Ya [zR 0,.rd 1 (ek 2 3) 0 0] [116] [zP 118 bb,zV 119 (.agg #[.slice (sA g 0) at'.length d1,nI ((bI x at' ops).place),.slice u4 ((ei (↑x.ah:Int) (bI x at' ops) i).ops.length) d4])] ?_
     refine cn [] [0] 88 #[.pointer (some (⟨bb,0,none⟩)),.agg #[.slice (some (⟨g,0,none⟩)) at'.length d1,.int .i64 ((bI x at' ops).place),.slice u4 ((ei (↑x.ah:Int) (bI x at' ops) i).ops.length) d4]] (some 120) (by kernel_rfl) (by kernel_rfl) (by decide) (fun w S M hP hG _=>?_)
     refine(Mj (c:=ei x.ah (bI x at' ops) i) (hG.at 0 rfl) hP KI (Ef hy0) (hG.at 7 rfl) (hG.at 10 rfl) (by show(bI x at' ops).when.length≤_;omega) (aZ (cH _ _) (by rw[bI,iL];exact kS)) (fun o ho=>oz qE o (aP.1 ho).1) qj (by omega) (by omega) LN).mono ?_
     rintro e6 w6 ⟨u5,d5,u6,d6,hR⟩
     refine⟨_,_,_,hR,?_⟩
     rw[←hsc,zv hy0,hps]
     try simp only[aQ]
     refine Ym (bh 3 6++[.wr 6 [] 0,.wr 7 (ek 3 9) 0,zR 8]) [120,118,119] (fun kR=>[zP 21 (kR 0)]) o0 (fun kR=>[(kR 0,.cells #[nI ((dL.msg y0 (ei (↑x.ah:Int) (bI x at' ops) i)).fm),nI ((dL.msg y0 (ei (↑x.ah:Int) (bI x at' ops) i)).to),nI ((dL.msg y0 (ei (↑x.ah:Int) (bI x at' ops) i)).de),nI ((dL.msg y0 (ei (↑x.ah:Int) (bI x at' ops) i)).seq),nI ((dL.msg y0 (ei (↑x.ah:Int) (bI x at' ops) i)).time),.bool false,.slice u5 at'.length d5,nI ((dL.msg y0 (ei (↑x.ah:Int) (bI x at' ops) i)).c.place),.slice u6 ((ei (↑x.ah:Int) (bI x at' ops) i).ops.length) d6] 62 (0,0))]) [] (fun kR=>?_)
     try simp only[aQ]
     refine aC ?_
     try simp only[aQ]
     refine jT [(0,true),(1,true),(2,false),(3,false),(4,true)] [] ?_
     refine Ym [zR 0,.rd 1 (ek 3 9) 0 0,.wr 2 [] 0] [] (fun HN=>[zS 123 zi m2 zg,zS 125 (sA (HN 0) 0) 1 1]) o0 (fun HN=>[(HN 0,.cells #[nI ((dL.msg y0 (ei (↑x.ah:Int) (bI x at' ops) i)).fm),nI ((dL.msg y0 (ei (↑x.ah:Int) (bI x at' ops) i)).to),nI ((dL.msg y0 (ei (↑x.ah:Int) (bI x at' ops) i)).de),nI ((dL.msg y0 (ei (↑x.ah:Int) (bI x at' ops) i)).seq),nI ((dL.msg y0 (ei (↑x.ah:Int) (bI x at' ops) i)).time),.bool false,.slice u5 at'.length d5,nI ((dL.msg y0 (ei (↑x.ah:Int) (bI x at' ops) i)).c.place),.slice u6 ((ei (↑x.ah:Int) (bI x at' ops) i).ops.length) d6] 62 (0,0))]) [] (fun HN=>?_)
     refine JN [(c8 im.flatten x.rs),(fT vb x.places x.base (x.L++eM (bI x at' ops) (bI x at' ops).ops)),aT (.slice zi m2 zg) 62 9 (aj fC (uF x (bI x at' ops) (fZ x.id x.ah k.toNat+i.toNat))),bL b (.cells #[.pointer (some (⟨vb,0,none⟩)),.int .i64 (↑x.id:Int),.int .i64 (↑x.places:Int),.int .i64 (↑x.ah:Int),.int .i64 (x.clock+1),.slice (some (⟨b1,fu,none⟩)) x.places oc,.slice ia x.places ic] 124 (0,0)),(dN om.flatten (qv x (bI x at' ops) (fZ x.id x.ah k.toNat+(i+1).toNat)))] ?_
     refine eY 2 56 62 9 104 (.agg #[.int .i64 0,.int .i64 0,.int .i64 0,.int .i64 0,.int .i64 0,.bool false,.slice none 0 0,.int .i64 0,.slice none 0 0]) (a0:=zi) (len:=m2) (iB:=zg) (ax:=(some (⟨HN 0,0,none⟩))) (m:=1) (c:=1) (dst:=(some 126)) [(dL.msg y0 (ei x.ah (bI x at' ops) i))] (by kernel_rfl) (by kernel_rfl) (by kernel_rfl) (by kernel_rfl) rfl (by decide) rfl (fun _ _ _ s=>fK s 4 rfl rfl ⟨.inl ⟨rfl,rfl⟩,⟨.inl ⟨rfl,rfl⟩,⟨.inl ⟨rfl,rfl⟩,⟨.inl ⟨rfl,rfl⟩,⟨.inl ⟨rfl,rfl⟩,⟨.inl ⟨rfl,rfl⟩,⟨.inr (.inl (ae (i:=11) rfl)),⟨.inl ⟨rfl,rfl⟩,⟨.inr (.inl (ae (i:=12) rfl)),trivial⟩⟩⟩⟩⟩⟩⟩⟩⟩) (by simp only[maxLen];omega) (by omega) (fun gq gp=>?_)
     rw[←N3,zL hy0,hps]
     refine JN [(c8 im.flatten x.rs),(fT vb x.places x.base (x.L++eM (bI x at' ops) (bI x at' ops).ops)),bL b (.cells #[.pointer (some (⟨vb,0,none⟩)),.int .i64 (↑x.id:Int),.int .i64 (↑x.places:Int),.int .i64 (↑x.ah:Int),.int .i64 (x.clock+1),.slice (some (⟨b1,fu,none⟩)) x.places oc,.slice ia x.places ic] 124 (0,0)),(dN om.flatten (qv x (bI x at' ops) (fZ x.id x.ah k.toNat+(i+1).toNat))),aT (.slice gq (m2+1) gp) 62 9 (aj fC (uF x (bI x at' ops) (fZ x.id x.ah k.toNat+(i+1).toNat)))] ?_
     try simp only[aQ]
     refine Ya [zR 4] [126,123,125] [zS 14 gq (m2+1) gp] ?_
     refine aC (eu ?_)
     refine Zp [.rd 0 [] 0 1,zR 1] [] [zI 104 (i+1)] (oC (show IntKind.i64.wrap (i+1)=i+1 from wrap_i64 (by omega) (by omega)) oN) ?_
     refine fh 2 rfl ?_
     refine bC ⟨i+1,_,m2+1,_⟩ [0,6,7,8,10,14,16,96,97,98,102,103,104] [0,5,1] [2,0,1,3] [0,1,2,3,4,5,6,7,8,9] ?_ ?_ (by kernel_rfl) rfl rfl rfl
     ·exact⟨by simp only;omega,by simp only;omega⟩
     ·simp only
      omega
    ·have pT:(ei x.ah (bI x at' ops) i).ops=[]:=by
      apply eV.1
      simp at M7
      simpa using M7
     have hps:fZ x.id x.ah k.toNat+i.toNat+1=fZ x.id x.ah k.toNat+(i+1).toNat:=by omega
     have hs1:qv x (bI x at' ops) (fZ x.id x.ah k.toNat+i.toNat)=qv x (bI x at' ops) (fZ x.id x.ah k.toNat+(i+1).toNat):=by
      rw[←hps,←zv hy0,show pL x.ah (bI x at' ops) y0=y0 by rw[pL,Cf,if_pos pT],kG (Ef hy0)]
     have Ku:uF x (bI x at' ops) (fZ x.id x.ah k.toNat+i.toNat)=uF x (bI x at' ops) (fZ x.id x.ah k.toNat+(i+1).toNat):=by
      rw[←hps,←zL hy0,show tA x.ah (bI x at' ops) y0=[]by rw[tA,Cf,if_pos pT],bf]
     try simp only[aQ]
     refine aG ?_
     try simp only[aQ]
     refine eu ?_
     try simp only[aQ]
     refine Zp [.rd 0 [] 0 1,zR 1] [116] [zI 104 (i+1)] (oC (show IntKind.i64.wrap (i+1)=i+1 from wrap_i64 (by omega) (by omega)) oN) ?_
     try simp only[aQ]
     rw[hs1,Ku]
     refine fh 4 rfl ?_
     refine bC ⟨i+1,zi,m2,zg⟩ [0,6,7,8,10,14,16,96,97,98,102,103,104] [0,3,1] [0,1,2,3] [0,1,2,3,4,5,6,7,8,9] ?_ ?_ (by kernel_rfl) rfl rfl rfl
     ·exact⟨by simp only;omega,by simp only;omega⟩
     ·simp only
      omega
   ·have T7:i.toNat=(if k.toNat=x.id then 0 else x.ah):=by rw[←Bo];simp at T0;omega
    have hps:fZ x.id x.ah k.toNat+i.toNat=fZ x.id x.ah (k+1).toNat:=by rw[T7,show(k+1).toNat=k.toNat+1 by omega,zF]
    rw[hps]
    refine dO rfl ?_
    refine eu ?_
    refine Zp [.rd 0 [] 0 1,zR 1] [105] [zI 98 (k+1)] (oC (show IntKind.i64.wrap (k+1)=k+1 from wrap_i64 (by omega) (by omega)) oN) ?_
    refine bC ⟨k+1,zi,m2,zg⟩ [0,6,7,8,10,14,96,97,98] [0,1,2] [0,1,2,3] [0,1,2,3,4,5,6,7,8] ?_ ?_ (by kernel_rfl) rfl rfl rfl
    ·exact⟨by simp only;omega,by simp only;omega⟩
    ·simp only
     omega
  ·have hke:k.toNat=x.places:=by simp at hlk;omega
   rw[hke,←Bn,Hg _ _ (aX _),Cb _ _ (aX _)]
   refine dO rfl ?_
   refine aq ?_
   refine b9 (eC 3 rfl) fun _ qU=>?_
   refine Zm [.rd 0 (ek 2 3) 0 0,zR 1,.wr 2 (ek 0 3) 0,zR 3,zR 4] [(2,[0])] [99,0,10,14,96,97,98] (fun _=>[zS 7 av m cv]) (fun _=>[(0,.cells #[.slice (sA g 0) at'.length d1,nI (↑x.id:Int),.slice u2 ops.length d2] 35 (0,0))]) o0 (fun _=>?_)
   refine Yr [(ek 0 3),[],[]] (.tuple #[.agg #[.slice (sA g 0) at'.length d1,nI (↑x.id:Int),.slice u2 ops.length d2],.slice av m cv,.nilIface]) fun a w s=>?_
   have s2:=(s.dY 1 rfl).jz (ee (x:=p4 x (bI x at' ops)) ⟨vb,oa,oc,ia,ic,om,im⟩ [4,2,0,1] 3 4 rfl rfl rfl ⟨hy.om,hy.im⟩)
   exact .inr ⟨hok,_,_,_,_,_,_,_,_,_,s2.ret (by simp) [0,1] [7,8] rfl rfl⟩
theorem wh {w:World} {S:Nat→Prop} {M:List Nat} {er:Nat→Addr} {eb:Nat→Array Value×TypeId} {x:fJ} {b n n1 c1 n2 c2:Nat} {a1 a2:Option Addr} {at':List Int} {ops:List fP} (hC:cm w S .nilIface (dC er eb)) (hP:Pre w S M [bQ b x]) (hx:iW x n) (hn:n<600) (h1:cm w S (.slice a1 n1 c1) (aS at')) (h2:cm w S (.slice a2 n2 c2) (.sl 7 (ops.map fe))) (ja:at'.length≤1000000) (kS:ops.length≤1000000) (qE:∀o∈ops,o.bF.length≤1000000) :
  Calls Tryz.prog 22 #[.pointer (some ⟨b,0,none⟩),.slice a1 n1 c1,.slice a2 n2 c2] w fun e w'=>
   ((gY x at' ops).code≠0∧∃v G',cQ M w S w' e (.tuple #[QX,.slice none 0 0,v]) [bQ b x] G'∧ER er (gY x at' ops) v G') ∨
   ((gY x at' ops).code=0∧∃u1 m1 d1 u2 m2 d2 u3 m3 d3,cQ M w S w' e (.tuple #[.agg #[.slice u1 m1 d1,.int .i64 x.id,.slice u2 m2 d2],.slice u3 m3 d3,.nilIface]) [bQ b (p4 x (bI x at' ops))]
    [(.slice u1 m1 d1,aS (bI x at' ops).when),(.slice u2 m2 d2,.sl 7 ((bI x at' ops).ops.map fe)),(.slice u3 m3 d3,.sl 9 ((lM x (bI x at' ops)).map fC))]):=by
 refine(AH hC hP hx hn h1 h2 ja kS qE).mono ?_
 rintro e w' (h|⟨hok,u1,m1,d1,u2,m2,d2,u3,m3,d3,hR⟩)
 ·exact .inl h
 ·exact .inr ⟨hok,u1,m1,d1,u2,m2,d2,u3,m3,d3,hR.freeze⟩
end Go.Proofs.YtmkapocibaojdaaGreatDoor
end
section
namespace Go.Proofs.YtmkapocibaojdaaGreatDoor
open Go Go.Sx
theorem Br {p:Nat} (h1:1≤p) (h6:p≤6):b8 (aD p (0:Int))=0:=by
 rw[b8,if_neg (by simp;omega),if_neg (by simp[u7])]
theorem AO {id places ah:Nat} (n:Nat) (hp1:1≤places) (y9:places≤6) (hs1:1≤ah) (FQ:ah≤6) (kT:id<places):iW (iM id places ah) n:=by
 have hs:∀s∈(iM id places ah).ss,∃a b:Nat,s=⟨id,a,b,0,0,[]⟩:=fun s hs=>by
  obtain⟨q,_,rfl⟩:=aB.1 hs
  exact⟨_,_,rfl⟩
 have hr:∀s∈(iM id places ah).rs,∃a b:Nat,s=⟨a,id,b,0,0,[]⟩:=fun s hs=>by
  obtain⟨q,_,rfl⟩:=aB.1 hs
  exact⟨_,_,rfl⟩
 refine⟨⟨hp1,y9,hs1,FQ,kT,by simp[iM],by simp[iM],Br hp1 y9,by simp[iM],?_,?_,fun r h=>?_⟩,by simp[iM],?_,by simp[iM],by simp[iM],fun s h=>?_,fun s h=>?_,fun r h=>?_,fun s h=>?_,fun r h=>?_,fun r h=>?_,?_⟩
 ·simp only[iM,jO,fc]
  exact(cB fun q _=>rfl).trans (List.map_id _)
 ·simp only[iM,jA,fc]
  exact(cB fun q _=>rfl).trans (List.map_id _)
 ·obtain⟨a,b,rfl⟩:=hr r h
  simp
 ·simp[iM,aO,List.getElem?_replicate]
  split <;> simp
 ·obtain⟨a,b,rfl⟩:=hs s h
  simp[iM]
 ·obtain⟨a,b,rfl⟩:=hs s h
  simp
 ·obtain⟨a,b,rfl⟩:=hr r h
  simp[iM]
 ·obtain⟨a,b,rfl⟩:=hs s h
  simp
 ·obtain⟨a,b,rfl⟩:=hr r h
  simp[nQ]
 ·obtain⟨a,b,rfl⟩:=hr r h
  simp
 ·have:((iM id places ah).rs.map (·.q)).sum=0:=by
   simp only[iM,jA,fc]
   induction cR id ah places with
   | nil=>rfl
   | cons a l ih=>simpa using ih
  rw[this]
  simp[iM]
end Go.Proofs.YtmkapocibaojdaaGreatDoor
end
section
namespace Go.Proofs.YtmkapocibaojdaaGreatDoor
open Go Go.Sx
theorem LD {α:Type} (a b c d:α):[a,b,c,d].Perm ([a,d]++[b,c]):=mT a (List.perm_middle (l₁:=[b,c]) (l₂:=[]) (a:=d))
set_option maxHeartbeats 4000000 in
theorem y4 {w:World} {S:Nat→Prop} {M:List Nat} {x:fJ} {b:Nat} (hP:Pre w S M [bQ b x]) (h:yM x) :
  Calls Tryz.prog 19 #[.pointer (some ⟨b,0,none⟩)] w fun e w'=>∃a' n' c',cQ M w S w' e (.slice a' n' c') [bQ b x] [(.slice a' n' c',aS (bG x))]:=by
 obtain⟨y,hy,hG,A1⟩:=hP.sU
 obtain⟨M1,Xm,Um⟩:=A1.perm (LD _ _ _ _)
 obtain⟨M2,Xi,rG⟩:=Um.part
 refine(zJ Xi (hG.at 1 rfl) hy.im h).mono ?_
 rintro e w' ⟨a',n',c',hR⟩
 exact⟨a',n',c',cQ.rO y ((rG hR).perm (LD _ _ _ _).symm Xm.symm) hy hG hP.no⟩
def jk (x:fJ) (key:ByteArray) (at':List Int):Nat:=if dS key=true then ff x at' else 4
set_option maxHeartbeats 4000000 in
theorem LG {w:World} {S:Nat→Prop} {M:List Nat} {er:Nat→Addr} {eb:Nat→Array Value×TypeId} {x:fJ} {b vb ic n1 c1:Nat} {o:Value} {ia a1:Option Addr} {rows:List (List Nat)} {key:ByteArray} {at':List Int} (hC:cm w S .nilIface (dC er eb)) (hP:Pre w S M [bL b (xB vb x.id x.places x.ah x.clock o (.slice ia x.places ic)),c8 rows.flatten x.rs]) (hi:cm w S (.slice ia x.places ic) (jI rows)) (h1:cm w S (.slice a1 n1 c1) (aS at')) (hok:iu x.id x.ah x.places rows) (h:yM x) (ja:at'.length≤1000000) :
  Calls Tryz.prog 94 #[.pointer (some ⟨b,0,none⟩),.string key,.slice a1 n1 c1] w fun e w'=>∃v,cQ M w S w' e v [bL b (xB vb x.id x.places x.ah x.clock o (.slice ia x.places ic)),c8 rows.flatten x.rs] []∧lq 390 er (jk x key at') v:=by
 refine pW Tryz.func94 UE (args:=[.pointer (some ⟨b,0,none⟩),.string key,.slice a1 n1 c1]) (S:=S) (G:=[(_,dC er eb),(_,jI rows),(_,aS at')]) (by kernel_rfl) hP (.cons hC (.cons hi (.cons h1 (.nil _ _)))) ?_
 refine bH (ij 0 [3] rfl rfl) ?_
 refine di 3 rfl (fun ni mW ng dh=>?_)
 try simp only[aQ]
 refine Zs [zR 0] [] [zV 6 .nilIface] ?_
 refine aq ?_
 refine jS [(0,true),(1,false),(2,true)] [] ?_
 refine Ya [zR 0] [1] [zV 7 (.string key)] ?_
 refine Yc 154 #[.string key] (some 8) fun w S hG=>?_
 refine(Bw (S:=S)).mono ?_
 rintro e1 w1 hR
 refine⟨_,_,_,hR,?_⟩
 cases hn:dS key with
 | false=>
  have oE:jk x key at'=4:=by rw[jk,if_neg (by simp[hn])]
  rw[oE]
  try simp only[aQ]
  refine Ya [zR 2] [8,7] [zB 9 true] ?_
  refine aC ?_
  refine gR ?_
  refine Zt [.rd 0 [.r 0 (some (.iface 390 (.pointer (some (er 4)))))] 0 0,zR 1] [9] [zV 6 (.iface 390 (.pointer (some (er 4))))] (oC dh oN) ?_
  refine Yr [[]] (.iface 390 (.pointer (some (er 4)))) fun a w s=>?_
  exact⟨_,s.ret (by simp) [0,1] [] rfl rfl,.inr ⟨by decide,rfl⟩⟩
 | true=>
  have oE:jk x key at'=ff x at':=by rw[jk,if_pos hn]
  rw[oE]
  try simp only[aQ]
  refine Ya [zR 2] [8,7] [zB 9 false] ?_
  refine aC ?_
  refine cF ?_
  refine aG ?_
  refine jS [(0,true),(1,true),(2,false),(3,true)] [] ?_
  refine Ya [zR 0,zR 1] [9,0,2] [zP 11 b,zS 12 a1 n1 c1] ?_
  refine cn [] [0,1] 83 #[.pointer (some (⟨b,0,none⟩)),.slice a1 n1 c1] (some 13) (by kernel_rfl) (by kernel_rfl) (by decide) (fun w S M hP hG _=>?_)
  refine(HH (hG.at 0 rfl) hP (hG.at 1 rfl) (hG.at 2 rfl) hok h ja).mono ?_
  rintro e2 w2 ⟨v,hR,hv⟩
  refine⟨_,_,_,hR,?_⟩
  try simp only[aQ]
  refine Ya [zR 3] [13,11,12] [zV 6 v] ?_
  try simp only[aQ]
  refine aC ?_
  try simp only[aQ]
  refine Yr [[]] (v) fun a w s=>?_
  exact⟨_,s.ret (by simp) [0,1] [] rfl rfl,hv⟩
def iR (x:fJ) (key:ByteArray) (at':List Int):Nat:=if jk x key at'≠0 then jk x key at' else eA x.places x.base key at'
set_option maxHeartbeats 4000000 in
theorem zH {w:World} {S:Nat→Prop} {M:List Nat} {er:Nat→Addr} {eb:Nat→Array Value×TypeId} {x:fJ} {b n n1 c1:Nat} {a1:Option Addr} {key:ByteArray} {at':List Int} (hC:cm w S .nilIface (dC er eb)) (hP:Pre w S M [bQ b x]) (hx:iW x n) (hn:n≤600) (h1:cm w S (.slice a1 n1 c1) (aS at')) (ja:at'.length≤1000000) :
  Calls Tryz.prog 25 #[.pointer (some ⟨b,0,none⟩),.string key,.slice a1 n1 c1] w fun e w'=>
   (iR x key at'≠0∧cQ M (zero w) S w' e (.tuple #[CZ,.iface 390 (.pointer (some (er (iR x key at'))))]) [bQ b x] []) ∨
   (iR x key at'=0∧∃ua un uc,cQ M (zero w) S w' e (.tuple #[w8 (Sx.valOf key (aW x.L key at')) (.slice ua un uc),.nilIface]) [bQ b x] [(.slice ua un uc,pe (Sx.valOf key (aW x.L key at')).set)]):=by
 refine pW Tryz.func25 U6 (args:=[.pointer (some ⟨b,0,none⟩),.string key,.slice a1 n1 c1]) (S:=S) (C:=[bQ b x]) (G:=[(_,dC er eb),(_,aS at')]) (by kernel_rfl) hP (.cons hC (.cons h1 (.nil _ _))) ?_
 refine tZ ?_
 refine b9 (eZ 0 rfl) fun y hy=>?_
 obtain⟨vb,oa,oc,ia,ic,om,im⟩:=y
 refine Nm [bL b (.cells #[.pointer (sA vb 0),nI (↑x.id:Int),nI (↑x.places:Int),nI (↑x.ah:Int),nI x.clock,.slice (iN.mk vb oa oc ia ic om im).oa x.places oc,.slice (iN.mk vb oa oc ia ic om im).ia x.places ic] 124 (0,0)),(fT (iN.mk vb oa oc ia ic om im).vb x.places x.base x.L),(dN (iN.mk vb oa oc ia ic om im).om.flatten x.ss),(c8 (iN.mk vb oa oc ia ic om im).im.flatten x.rs)] ?_
 try simp only[aQ]
 refine Zv [.wr 0 [] 0,zR 1] [] [] (fun aN=>[zP 6 (aN 0),zV 7 .nilIface]) o0 (fun aN=>[(aN 0,.cells #[nI 0,.string (aL #[]),nI 0,.slice none 0 0] 64 (0,0))]) (fun aN=>?_)
 refine aq ?_
 refine jS [(0,true),(1,true),(2,true),(3,false),(4,true)] [] ?_
 refine Ya (bh 0 3) [] [zP 9 b,zV 10 (.string key),zS 11 a1 n1 c1] ?_
 refine cn [] [0,3] 94 #[.pointer (some (⟨b,0,none⟩)),.string key,.slice a1 n1 c1] (some 12) (by kernel_rfl) (by kernel_rfl) (by decide) (fun w S M hP hG _=>?_)
 refine(LG (hG.at 0 rfl) hP (hG.at 3 rfl) (hG.at 1 rfl) hy.im hx.toyM ja).mono ?_
 rintro e1 w1 ⟨v,hR,hv⟩
 refine⟨_,_,_,hR,?_⟩
 obtain⟨sZ,rfl⟩|⟨sZ,rfl⟩:=hv
 case inr=>
  have oE:iR x key at'=jk x key at':=by rw[iR,if_pos sZ]
  rw[oE]
  try simp only[aQ]
  refine Ya [zR 4] [12,9,10,11] [zV 8 (.iface 390 (.pointer (some (er (jk x key at')))))] ?_
  try simp only[aQ]
  refine aC ?_
  try simp only[aQ]
  refine aq ?_
  try simp only[aQ]
  refine Za [zR 0,zR 1] [] [zB 14 true] ?_
  try simp only[aQ]
  refine gR ?_
  try simp only[aQ]
  refine aq ?_
  try simp only[aQ]
  refine Zm [zR 0,zR 1,.wr 2 (ek 0 4) 0,zR 3] [(2,[0])] [14,8] (fun _=>[zV 7 (.iface 390 (.pointer (some (er (jk x key at')))))]) o0 o0 (fun _=>?_)
  try simp only[aQ]
  refine Yr [(ek 0 4),[]] (.tuple #[.agg #[nI 0,.string (aL #[]),nI 0,.slice none 0 0],.iface 390 (.pointer (some (er (jk x key at'))))]) fun a w s=>?_
  have s2:=s.jz (ee (x:=x) ⟨vb,oa,oc,ia,ic,om,im⟩ [2,0,1,3] 2 3 rfl rfl rfl hy)
  exact .inl ⟨sZ,s2.pB (by simp) [0] [] rfl rfl⟩
 have oE:iR x key at'=eA x.places x.base key at':=by rw[iR,if_neg (by omega)]
 rw[oE]
 try simp only[aQ]
 refine Ya [zR 4] [12,9,10,11] [zV 8 .nilIface] ?_
 try simp only[aQ]
 refine aC ?_
 try simp only[aQ]
 refine aq ?_
 try simp only[aQ]
 refine Za [zR 0,zR 1] [] [zB 14 false] ?_
 try simp only[aQ]
 refine cF ?_
 try simp only[aQ]
 refine aG ?_
 try simp only[aQ]
 refine aq ?_
 try simp only[aQ]
 refine Nm [(fT vb x.places x.base x.L),(dN om.flatten x.ss),bL b (.cells #[.pointer (sA vb 0),nI (↑x.id:Int),nI (↑x.places:Int),nI (↑x.ah:Int),nI x.clock,.slice oa x.places oc,.slice ia x.places ic] 124 (0,0)),(c8 im.flatten x.rs)] ?_
 refine fh 2 rfl ?_
 refine jT [(0,true),(1,true),(2,true),(3,true),(4,true),(5,true),(6,false),(7,true),(8,true),(9,false),(10,true)] [] ?_
 refine Ya (bh 0 3++[.rd 3 [.o 1 none] 0 0,zR 4,zR 5]) [14,8,0,1,2] [zP 20 vb,zV 21 (.string key),zS 22 a1 n1 c1] ?_
 refine nJ [] [0] 95 #[.pointer (some (⟨vb,0,none⟩)),.string key,.slice a1 n1 c1] (some 23) lG (by kernel_rfl) (by kernel_rfl) (by decide) (fun w S M hP hG _=>?_)
 refine(JP (hG.at 0 rfl) hP (hx.R2 (by omega)) (hG.at 1 rfl) ja).mono ?_
 rintro e2 w2 (⟨hf,hR⟩|⟨hf,ua,un,uc,hR⟩)
 ·refine⟨_,_,_,hR,?_⟩
  try simp only[aQ]
  refine Ya [zR 7,zR 8,.wr 9 (ek 0 4) 0,zR 10] [23,20,21,22] [zV 7 (.iface 390 (.pointer (some (er (eA x.places x.base key at')))))] ?_
  try simp only[aQ]
  refine aC ?_
  try simp only[aQ]
  refine Yr [(ek 0 4),[]] (.tuple #[.agg #[nI 0,.string (aL #[]),nI 0,.slice none 0 0],.iface 390 (.pointer (some (er (eA x.places x.base key at'))))]) fun a w s=>?_
  have s2:=(s.dY 1 rfl).jz (ee (x:=x) ⟨vb,oa,oc,ia,ic,om,im⟩ [3,2,0,1] 2 3 rfl rfl rfl hy)
  exact .inl ⟨hf,s2.pB (by simp) [0] [] rfl rfl⟩
 ·refine⟨_,_,_,hR,?_⟩
  try simp only[aQ]
  refine Ym [zR 7,zR 8,.wr 9 (ek 0 4) 0,zR 10] [23,20,21,22] (fun _=>[]) (fun _=>[(0,.cells #[nI ((Sx.valOf key (aW x.L key at')).kind),.string ((Sx.valOf key (aW x.L key at')).text),nI ((Sx.valOf key (aW x.L key at')).n),.slice ua un uc] 64 (0,0))]) o0 [] (fun _=>?_)
  try simp only[aQ]
  refine aC ?_
  try simp only[aQ]
  refine Yr [(ek 0 4),[]] (.tuple #[.agg #[nI ((Sx.valOf key (aW x.L key at')).kind),.string ((Sx.valOf key (aW x.L key at')).text),nI ((Sx.valOf key (aW x.L key at')).n),.slice ua un uc],.nilIface]) fun a w s=>?_
  have s2:=(s.dY 1 rfl).jz (ee (x:=x) ⟨vb,oa,oc,ia,ic,om,im⟩ [3,2,0,1] 2 3 rfl rfl rfl hy)
  exact .inr ⟨hf,_,_,_,s2.pB (by simp) [0] [4] rfl rfl⟩
end Go.Proofs.YtmkapocibaojdaaGreatDoor
end
section
namespace Go.Proofs.YtmkapocibaojdaaGreatDoor
open Go Go.Sx
theorem z8 {A:List bE}:∀{s:List gi},(A.map (·.d)).Nodup→(∀x∈A,x.d∉s)→gx s A=A:=by
 induction A with
 | nil=>exact fun _ _=>rfl
 | cons x r ih=>
  intro s hn hs
  have h1:=jf.1 (by rw[cj]at hn;exact hn)
  rw[gx,if_neg (hs x (bl ..)),ih h1.2 fun y hy h=>?_]
  rcases cE.1 h with h|h
  ·exact h1.1 (h ▸ eT hy)
  ·exact hs y (bk _ hy) h
theorem Dp {key:ByteArray} {l:List bO} (hn:((bM l).map (·.d)).Nodup) (hk:∀x∈bM l,x.o.key=key):(opsOf key l).Perm (bM l):=by
 have h1:nN key l=bM l:=by
  rw[nN,z8 hn (by simp)]
  exact fk.2 fun x hx=>by simpa using hk x hx
 rw[opsOf,sortDone,h1]
 exact gB _ _
theorem xN {L:List bE} {k:Int} (h:∀x∈L,x.o.kind=k) (hne:L≠[]):kindOf L=k:=by
 cases L with
 | nil=>exact absurd rfl hne
 | cons x r=>exact h x (bl ..)
end Go.Proofs.YtmkapocibaojdaaGreatDoor
end
section
namespace Go.Proofs.YtmkapocibaojdaaGreatDoor
open Go Go.Sx
theorem tM {b:List bE} (hn:(b.map (·.d)).Nodup):∀{a:List bE} {s:List gi},(∀x∈b,x.d∉s∧x.d∉a.map (·.d))→gx s (a++b)=gx s a++b
 | [],s,h=>by
  rw[j9,z8 hn fun x hx=>(h x hx).1]
  rfl
 | x::r,s,h=>by
  have hr:∀y∈b,y.d∉r.map (·.d):=fun y hy hm=>(h y hy).2 (by rw[cj];exact bk _ hm)
  rw[iO,gx,gx]
  split
  ·exact tM hn fun y hy=>⟨(h y hy).1,hr y hy⟩
  ·rw[tM hn (s:=x.d::s) fun y hy=>⟨fun hm=>?_,hr y hy⟩,iO]
   rcases cE.1 hm with he|hm
   ·exact(h y hy).2 (by rw[cj,he];exact bl ..)
   ·exact(h y hy).1 hm
theorem Et {key:ByteArray} {l m:List bO} (hn:((bM m).map (·.d)).Nodup) (hs:(bM m).Pairwise fun a b=>gW a b=true) (hlt:∀x∈bM l,∀y∈bM m,gW x y=true∧x.d≠y.d):opsOf key (l++m)=opsOf key l++(bM m).filter fun x=>decide (x.o.key=key):=by
 refine mP (lt:=fun a b=>gW a b=true) (fun _ _=>nX) (mH _ _) (List.pairwise_append.2 ⟨mH _ _,hs.sublist dw,fun x hx y hy=>(hlt x (nh (mY.1 hx).1).1 y (aP.1 hy).1).1⟩) fun x=>?_
 have ha:bM (l++m)=bM l++bM m:=by simp[bM]
 rw[mY,au,mY,aP,ha,tM hn fun y hy=>⟨by simp,fun hm=>?_⟩,au,decide_eq_true_eq]
 ·exact or_and_right
 ·obtain⟨z,hz,he⟩:=aB.1 hm
  exact(hlt z hz y hy).2 he
def GV (l:List bE):Lf:=⟨kindOf l,if kindOf l=1 then lJ (j6 l)else aL #[],if kindOf l=2 then Sx.ko (j6 l)else 0,if kindOf l=3 then setOf ((rq (j6 l)).map (·.o.text))else []⟩
theorem uo (key:ByteArray) (l:List bO):Sx.valOf key l=GV (opsOf key l):=rfl
theorem FY {g:bE→bE} (hg:∀x,(g x).o=x.o) (m:List bE) (t:ByteArray) (d:gi):rI (m.map g) t d=rI m t d:=by
 unfold rI
 rw[List.any_map]
 congr 1
 funext x
 simp[hg]
theorem DH {m:List bE} {t:ByteArray} {d d':gi} (h:∀r∈m,(d∈r.o.bF↔d'∈r.o.bF)):rI m t d=rI m t d':=by
 rw[Bool.eq_iff_iff]
 unfold rI
 rw[gL,gL]
 constructor
 ·rintro⟨r,hr,hh⟩
  refine⟨r,hr,?_⟩
  simp only[bT,decide_eq_true_eq]at hh ⊢
  exact⟨hh.1,hh.2.1,(h r hr).1 hh.2.2⟩
 ·rintro⟨r,hr,hh⟩
  refine⟨r,hr,?_⟩
  simp only[bT,decide_eq_true_eq]at hh ⊢
  exact⟨hh.1,hh.2.1,(h r hr).2 hh.2.2⟩
theorem GU {g:bE→bE} (hg:∀x,(g x).o=x.o) {l:List bE} (hd:∀x∈l,∀r∈l,(x.d∈r.o.bF↔(g x).d∈r.o.bF)):GV (l.map g)=GV l:=by
 have hk:kindOf (l.map g)=kindOf l:=by
  cases l with
  | nil=>rfl
  | cons a l=>simp[kindOf,hg]
 have hL:j6 (l.map g)=(j6 l).map g:=by
  rw[j6,j6,lU,hk]
  congr 1
  congr 1
  funext x
  simp[hg]
 have Qp:lJ ((j6 l).map g)=lJ (j6 l):=by
  rw[lJ,lJ,List.foldl_map]
  congr 1
  funext _ x
  rw[hg]
 have hsum:Sx.ko ((j6 l).map g)=Sx.ko (j6 l):=by
  rw[Sx.ko,Sx.ko,List.foldl_map]
  congr 1
  funext _ x
  rw[hg]
 have Qo:(rq ((j6 l).map g)).map (·.o.text)=(rq (j6 l)).map (·.o.text):=by
  rw[rq,rq,lU,fc]
  have h1:(fun x:bE=>((fun y:bE=>y.o.text)∘g) x)=fun x:bE=>x.o.text:=by
   funext x
   simp[hg]
  rw[show((fun y:bE=>y.o.text)∘g)=fun x:bE=>x.o.text from h1]
  congr 1
  refine List.filter_congr fun x hx=>?_
  have LK:x∈l:=(aP.1 hx).1
  simp only[Function.comp,hg,FY hg]
  rw[DH (m:=j6 l) (d:=(g x).d) (d':=x.d) fun r hr=>(hd x LK r (aP.1 hr).1).symm]
 unfold GV
 rw[hk,hL,Qp,hsum,Qo]
def nM (t:Int) (o:fP):bE:=⟨o,⟨0,t,o.no⟩,t⟩
theorem Cp (t:Int) (ops:List fP):bM [⟨[t],0,ops⟩]=ops.map (nM t):=by
 simp only[bM,List.flatMap_cons,List.flatMap_nil,bf]
 refine cB fun o _=>?_
 simp[eD,iV,nM,wW]
theorem MA {s t:Int} {o p:fP} (h:s<t):gW (nM s o) (nM t p)=true:=by
 rw[jr]
 simp[nM,iq,mu,gZ,h]
theorem Mz {t:Int} {o p:fP} (h:o.no<p.no):gW (nM t o) (nM t p)=true:=by
 rw[jr]
 simp[nM,iq,mu,gZ,h]
structure yN (L:List fG) (t:Int):Prop where
 at':∀q∈L,∃s,q.when=[s]∧q.place=0∧s≤t
 bF:∀q∈L,∀d∈q.op.bF,d.time≤t
theorem yN.all {L:List fG} {t u:Int} (h:yN L t) (hu:t≤u) (key:ByteArray):aW L key [u]=ey L key:=by
 rw[aW,fk]
 intro c hc
 obtain⟨q,hq,rfl⟩:=iz hc
 obtain⟨s,hs,_,hle⟩:=h.at' q hq
 simp only[lI,hs,lF]
 simp
 omega
theorem yN.done {L:List fG} {t:Int} (h:yN L t) {key:ByteArray} {x:bE} (hx:x∈bM (ey L key)):∃q∈L,∃s,s≤t∧x=nM s q.op:=by
 obtain⟨c,hc,o,ho,rfl⟩:=fF.1 hx
 obtain⟨q,hq,rfl⟩:=iz hc
 obtain rfl:=ay.1 ho
 obtain⟨s,hs,hp,hle⟩:=h.at' q hq
 refine⟨q,hq,s,hle,?_⟩
 simp[eD,iV,lI,nM,hs,hp,wW]
theorem HI {t:Int} {ops:List fP} (hp:ops.Pairwise fun a b=>a.no<b.no):((ops.map (nM t)).Pairwise fun a b=>gW a b=true)∧((ops.map (nM t)).map (·.d)).Nodup:=by
 refine⟨fU.2 (hp.imp Mz),?_⟩
 rw[fc]
 refine fU.2 (hp.imp fun{a b} h=>?_)
 simp only[Function.comp,nM,ne_eq,gi.mk.injEq,not_and]
 intro _ _
 omega
theorem yN.ops {L:List fG} {t u:Int} (h:yN L t) (hu:t<u) {key:ByteArray} {m:List bO} {os:List fP} (hm:bM m=os.map (nM u)) (hp:os.Pairwise fun a b=>a.no<b.no):opsOf key (ey L key++m)=opsOf key (ey L key)++(os.filter fun o=>decide (o.key=key)).map (nM u):=by
 obtain⟨h1,h2⟩:=HI (t:=u) hp
 rw[Et (by rw[hm];exact h2) (by rw[hm];exact h1) fun x hx y hy=>?_,hm,lU]
 ·rfl
 ·obtain⟨q,_,s,hle,rfl⟩:=h.done hx
  rw[hm]at hy
  obtain⟨o,_,rfl⟩:=aB.1 hy
  refine⟨MA (by omega),fun he=>?_⟩
  simp only[nM,gi.mk.injEq]at he
  omega
theorem FG {L:List fG} {c:bO} {key:ByteArray}:ey (L++eM c c.ops) key=ey L key++(c.ops.filter fun o=>decide (o.key=key)).map fun o=>lI ⟨c.when,c.place,o⟩:=by
 rw[ey,ey,dm,bw,eM,lU,fc]
 rfl
theorem F4 {t:Int} {ops:List fP}:bM (ops.map fun o=>lI ⟨[t],0,o⟩)=ops.map (nM t):=by
 rw[bM,List.flatMap_map]
 induction ops with
 | nil=>rfl
 | cons o l ih=>
  rw[List.flatMap_cons,ih]
  simp[eD,iV,nM,wW,lI]
theorem yN.put {L:List fG} {t:Int} (h:yN L t) {ops:List fP} (ho:∀o∈ops,∀d∈o.bF,d.time≤t):yN (L++eM ⟨[t+1],0,ops⟩ ops) (t+1):=by
 constructor
 ·intro q hq
  rcases au.1 hq with hq|hq
  ·obtain⟨s,h1,h2,h3⟩:=h.at' q hq
   exact⟨s,h1,h2,by omega⟩
  ·obtain⟨o,_,rfl⟩:=aB.1 hq
   exact⟨_,rfl,rfl,by omega⟩
 ·intro q hq d hd
  rcases au.1 hq with hq|hq
  ·have:=h.bF q hq d hd
   omega
  ·obtain⟨o,hm,rfl⟩:=aB.1 hq
   have:=ho o hm d hd
   omega
theorem FH {L:List fG} {t u:Int} (h:yN L t) (hu:t+1<u) {key:ByteArray} {ops:List fP} (ho:∀o∈ops,∀d∈o.bF,d.time≤t) (hp:ops.Pairwise fun a b=>a.no<b.no) :
  Sx.valOf key (aW (L++eM ⟨[t+1],0,ops⟩ ops) key [t+1])=Sx.valOf key (aW L key [t]++[⟨[u],0,ops⟩]):=by
 have h1:=FG (L:=L) (c:=⟨[t+1],0,ops⟩) (key:=key)
 have hpf:(ops.filter fun o=>decide (o.key=key)).Pairwise fun a b=>a.no<b.no:=hp.sublist dw
 rw[(h.put ho).all (fq _),h.all (fq _),h1,uo,uo,h.ops (by omega) F4 hpf,h.ops (by omega) (Cp u ops) hp]
 rw[List.filter_filter]
 simp only[Bool.and_self]
 have hA:∀x∈opsOf key (ey L key),∃q∈L,∃s,s≤t∧x=nM s q.op:=fun x hx=>h.done (nh (mY.1 hx).1).1
 let g:bE→bE:=fun x=>if x.d.time=u then nM (t+1) x.o else x
 have hg:∀x,(g x).o=x.o:=fun x=>by
  show(if x.d.time=u then nM (t+1) x.o else x).o=x.o
  split <;> rfl
 have e1:(opsOf key (ey L key)).map g=opsOf key (ey L key):=by
  refine(cB fun x hx=>?_).trans (List.map_id _)
  obtain⟨q,_,s,hle,rfl⟩:=hA x hx
  exact if_neg (by simp only[nM];omega)
 have e2:((ops.filter fun o=>decide (o.key=key)).map (nM u)).map g=(ops.filter fun o=>decide (o.key=key)).map (nM (t+1)):=by
  rw[fc]
  refine cB fun o _=>?_
  exact if_pos rfl
 rw[←e1,←e2,←bw]
 rw[e1]
 refine GU hg fun x hx r hr=>?_
 have hold:∀d∈r.o.bF,d.time≤t:=by
  rcases au.1 hr with hr|hr
  ·obtain⟨q,hq,s,_,rfl⟩:=hA r hr
   exact h.bF q hq
  ·obtain⟨o,hm,rfl⟩:=aB.1 hr
   exact ho o (aP.1 hm).1
 by_cases LK:x.d.time=u
 ·have e3:(g x).d.time=t+1:=by
   show(if x.d.time=u then nM (t+1) x.o else x).d.time=t+1
   rw[if_pos LK]
   rfl
  exact⟨fun hm=>absurd (hold _ hm) (by omega),fun hm=>absurd (hold _ hm) (by omega)⟩
 ·have e3:g x=x:=if_neg LK
  rw[e3]
end Go.Proofs.YtmkapocibaojdaaGreatDoor
end
section
namespace Go.Sx
open Go
def KX (n:Nat) (ops:Array Oper) (E:Env) (i:Nat):Option (Value×Value×TypeId×Option Tmp):=
 match ops[i]? with
 | none=>none
 | some o=>if nT n o.dst then match o.guard with
  | some _=>none
  | none=>match o.op with
   | .call c=>match c.callee with
    | .builtin .copy=>match jN E none c.args.toList with
     | some []=>match c.args.toList,c.argTypes.toList with
      | [x,y],[t,u]=>if lR t u=true then some (mG E x,mG E y,t,o.dst)else none
      | _,_=>none
     | _=>none
    | _=>none
   | _=>none
  else none
section rows
variable {P:Program} {f:Func} [Pan f] {R:Act→World→Prop} {n:Nat} [Dfr n] {k:List oR} {E:Env} {h r:List (Nat×Obj)} {F:List (List Nat×World)} {Y:fQ}
theorem yC {ops:Array Oper} {i:Nat} {dv sv:Value} {t:TypeId} {dst:Option Tmp} (he:KX n ops E i=some (dv,sv,t,dst))
  {a:Act} {w:World} {aU:List (List Nat)} (s:nH n E h r F Y a w aU) {K:Act→World→Prop}
  (H:∀ty,∃v' w',(Builtin.copy_ #[t,t] ty #[dv,sv]).run P w=.ok v' w'∧∀a',Ag n (E.put dst (.val v')) a'→K a' w'):wpOp P ops (mq P f R k) i K a w:=by
 unfold KX at he
 split at he
 ·cases he
 rename_i o ho
 split at he
 case isFalse=>cases he
 rename_i hd
 split at he
 ·cases he
 rename_i hg
 split at he
 case h_2=>cases he
 rename_i c hc
 split at he
 case h_2=>cases he
 rename_i AY
 split at he
 case h_2=>cases he
 rename_i hq
 split at he
 case h_2=>cases he
 rename_i x y t' u hargs AT
 split at he
 case isFalse=>cases he
 rename_i htu
 simp only[az,aH]at he
 obtain⟨rfl,rfl,rfl,rfl⟩:=he
 obtain rfl:=dR htu
 have uP:=eG s.ag (fun c w h=>by cases h) _ _ hq trivial
 have e1:a.eval x=mG E x:=uP x (by rw[hargs];simp)
 have e2:a.eval y=mG E y:=uP y (by rw[hargs];simp)
 have hca:c.args = #[x,y]:=by rw[←eJ (xs:=c.args),hargs]
 have hct:c.argTypes = #[t',t']:=by rw[←eJ (xs:=c.argTypes),AT]
 obtain⟨v',w',hrun,hk⟩:=H o.type
 unfold wpOp
 simp only[ho]
 rw[if_pos (by simp[Region.wanted,hg])]
 refine .inl ?_
 unfold Oper.wp execOp
 simp only[hc,resolve,AY,hca,hct,invoke,builtin,Sem.run_bind,Sem.run_pure,Result.andThen_ok,lg,cj,gy,e1,e2,hrun]
 exact hk _ (s.ag.put hd (.val v'))
theorem Hh {w:World} {S:Nat→Prop} {ad:Addr} {us:List Value} {xs:List Int} (hc:∀(j:Nat) u,us[j]?=some u→w.cell? (ad.add j)=some u) (hr:gv w S us 1 (xs.map eI)):∀(j:Nat) u,(xs.map (Value.int .i64))[j]?=some u→w.cell? (ad.add j)=some u:=fun j u hu=>by
 rw[aF]at hu
 obtain⟨x,hx,rfl⟩:=aI.1 hu
 obtain⟨v,h1,h2⟩:=hr.El j 0 (eI x) (dI x) (by rw[aF,hx];rfl) rfl
 rw[Nat.mul_one,dZ]at h1
 cases h2
 exact hc j _ h1
theorem qh {id L0 i:Nat} {ck:Bool} {Wp:List (Nat×List Nat)} {rest:List (Nat×Bool)} (p q g o dn dc sn sc t e k0:Nat) {ax:Option Addr} {xs:List Int} (cur':Array Value) {cur:Array Value} {dst:Option Tmp}
  (he:KX n (bS f id) E i=some (.slice (some ⟨g,o,none⟩) dn dc,.slice ax sn sc,t,dst)) (hok:(!ck||okW L0 (Wp.lookup i) [p])=true) (ht:P.underlying t=some (.slice e)) (hi:(P.info? e).map (·.size)=some 1)
  (hp:h[p]?=some (g,.cells cur e (0,0))) (hq:Y.G[q]?=some (.slice ax sn sc,aS xs)) (hk:Nat.min sn dn=k0) (Qq:0<k0) (hl:o+k0≤cur.size) (Ck:xx cur o ((xs.take k0).map (Value.int .i64))=cur')
  (A:JR P f R n (bS f id) L0 ck rest (Wp.filter (·.1 != i)) k (E.put dst (.val (.int .i64 (k0:Nat)))) (h.set p (g,.cells cur' e (0,0))) r F Y) :
  JR P f R n (bS f id) L0 ck ((i,false)::rest) Wp k E h r F Y:=by
 subst Ck
 intro BB Hd aU a w s hH hR hN hW
 simp only[PW]
 have hb:w.heap[g]?=some (.cells cur e (0,0)):=s.own.own _ (ae hp)
 have hS:=pK s q hq (by decide)
 obtain⟨hm,⟨rfl,hm0⟩|⟨ad,us,rfl,TF,hcell,hrow⟩⟩:=hS
 ·rw[hm0]at hk
  have:=Nat.min_le_left 0 dn
  have h2:Nat.min 0 dn=0:=Nat.le_zero.1 this
  omega
 ·have Ez:xs.length=sn:=by simpa using hm
  have WQ:k0≤sn:=by rw[←hk];exact Nat.min_le_left _ _
  generalize hcs:(xs.take k0).map (Value.int .i64)=cs at A
  have wQ:cs.length=k0:=by rw[←hcs,aA,bp];omega
  have hsrc:∀j v,cs[j]?=some v→w.cell? (ad.add j)=some v:=fun j v hv=>by
   refine Hh hcell hrow j v ?_
   rw[←hcs,aF,cL]at hv
   rw[aF]
   split at hv
   ·exact hv
   ·cases hv
  have h1:∀u∈cs,u.oneCell'=true:=fun u hu=>by
   rw[←hcs]at hu
   obtain⟨x,_,rfl⟩:=aB.1 hu
   rfl
  have Ci:=run_loadCells_list (P:=P) w ad cs hsrc
  have hrun:=run_storeCells_at (P:=P) g o e cs 0 cur w hb (by omega) h1
  rw[rZ hb,dZ]at hrun
  refine yC he s fun ty=>⟨.int .i64 (k0:Nat),{ w with heap:=w.heap.setIfInBounds g (.cells (xx cur o cs) e (0,0)) },?_,fun a' hA=>je hok hp s hH hR hN hW hA A⟩
  cases qF:P.info? e with
  | none=>simp[qF]at hi
  | some inf=>
   have Nh:inf.size=1:=by simpa [qF]using hi
   have hn:cs.length=Nat.min sn dn:=by rw[wQ,hk]
   rw[wQ]at Ci
   simp[Builtin.copy_,run_underlying ht,Builtin.lenOf,Builtin.firstCells,sizeOf,typeInfo,qF,Nh,←hn,Ci,hrun,wQ]
   refine⟨rfl,?_⟩
   simp[xx,wQ]
end rows
end Go.Sx
end
section
namespace Go.Proofs.YtmkapocibaojdaaGreatDoor
open Go Go.Sx
set_option maxHeartbeats 4000000 in
theorem PI {w:World} {S:Nat→Prop}:Calls Tryz.prog 194 #[.int .u64 1,.int .u64 1] w fun e w'=>cQ [] w S w' e (.tuple #[.int .u64 0,.int .u64 1]) [] []:=by
 refine jL Tryz.func194 Ai (args:=[.int .u64 1,.int .u64 1]) (S:=S) (G:=[]) (by kernel_rfl) (gl.nil w S) ?_
 refine Zs [zR 0,zR 1] [] [zV 4 (.int .u64 0),zV 5 (.int .u64 0)] ?_
 refine Zs (bh 0 3) [] [zV 6 (.int .u64 1)] ?_
 refine Zs (bh 0 3) [] [zV 7 (.int .u64 0)] ?_
 refine Zs (bh 0 3) [] [zV 8 (.int .u64 1)] ?_
 refine Zs (bh 0 3) [] [zV 9 (.int .u64 0)] ?_
 refine Zs (bh 0 4) [] [zV 10 (.int .u64 1)] ?_
 refine Zs (bh 0 7) [10,8] [zV 11 (.int .u64 0)] ?_
 refine Zs (bh 0 3) [] [zV 12 (.int .u64 0)] ?_
 refine Zs (bh 0 3) [11] [zV 13 (.int .u64 0)] ?_
 refine Zs (bh 0 6) [6] [] ?_
 refine Zs (bh 0 9) [13,12,9,7] [] ?_
 refine Zs (bh 0 4) [0,1] [zV 5 (.int .u64 1)] ?_
 refine Yr [[],[]] (.tuple #[.int .u64 0,.int .u64 1]) fun a w s=>?_
 exact s.ret (by simp) [] [] rfl rfl
set_option maxHeartbeats 4000000 in
theorem Tv {w:World} {S:Nat→Prop}:Calls Tryz.prog 158 #[.int .u64 1,.int .u64 1] w fun e w'=>cQ [] w S w' e (.tuple #[.int .u64 0,.int .u64 1]) [] []:=by
 refine jL Tryz.func158 Aj (args:=[.int .u64 1,.int .u64 1]) (S:=S) (G:=[]) (by kernel_rfl) (gl.nil w S) ?_
 refine Zs [zR 0,zR 1] [] [zV 4 (.int .u64 0),zV 5 (.int .u64 0)] ?_
 refine aq ?_
 refine cF ?_
 refine aG ?_
 refine jS [(0,true),(1,true),(2,false),(3,true),(4,true),(5,true),(6,true),(7,true)] [] ?_
 refine Ya [zR 0,zR 1] [0,1] [zV 23 (.int .u64 1),zV 24 (.int .u64 1)] ?_
 refine Yc 194 #[.int .u64 1,.int .u64 1] (some 25) fun w S hG=>?_
 refine(PI (S:=S)).mono ?_
 rintro e1 w1 hR
 refine⟨_,_,_,hR,?_⟩
 try simp only[aQ]
 refine Ya (bh 3 8) [25,23,24] [zV 8 (.int .u64 0),zV 9 (.int .u64 1)] ?_
 refine aC ?_
 refine Zs (bh 0 4) [8,9] [zV 5 (.int .u64 1)] ?_
 refine Yr [[],[]] (.tuple #[.int .u64 0,.int .u64 1]) fun a w s=>?_
 exact s.ret (by simp) [] [] rfl rfl
set_option maxHeartbeats 4000000 in
theorem J4 {w:World} {S:Nat→Prop} {a:Option Addr} {c:Nat} {z:Int} (h:cm w S (.slice a 1 c) (aS [z])) :
  Calls Tryz.prog 104 #[.slice a 1 c,.int .i64 1] w fun e w'=>∃ua un uc,cQ [] w S w' e (.slice ua un uc) [] [(.slice ua un uc,aS [z])]:=by
 refine jL Tryz.func104 Ak (args:=[.slice a 1 c,.int .i64 1]) (S:=S) (G:=[(_,aS [z])]) (by kernel_rfl) (.cons h (.nil _ _)) ?_
 refine Zs [zR 0] [] [zS 4 none 0 0] ?_
 refine aq ?_
 refine Zs [zR 0,zR 1] [] [zB 10 false] ?_
 refine cF ?_
 refine aG ?_
 refine jS [(0,true),(1,true),(2,true),(3,true),(4,true),(5,false),(6,true),(7,true),(8,true),(9,true),(10,true)] [] ?_
 refine Ya (bh 0 5) [10,1] [zV 15 (.int .u64 1),zV 17 (.int .u64 1)] ?_
 refine Yc 158 #[.int .u64 1,.int .u64 1] (some 18) fun w S hG=>?_
 refine(Tv (S:=S)).mono ?_
 rintro e1 w1 hR
 refine⟨_,_,_,hR,?_⟩
 try simp only[aQ]
 refine Ya (bh 6 11) [18,15,17] [zV 5 (.int .u64 0),zV 6 (.int .u64 1)] ?_
 refine aC (aq ?_)
 refine Zs (bh 0 6) [5] [zB 26 false] ?_
 refine cF ?_
 refine aG ?_
 refine Zv [zR 0,zR 1,.wr 2 [] 0,zR 3] [] [26,6] (fun aN=>[zS 7 (sA (aN 0) 0) 1 1]) o0 (fun aN=>[(aN 0,.cells #[nI 0] 3 (0,0))]) (fun aN=>?_)
 refine jS [(0,true),(1,true),(2,false),(3,true)] [] ?_
 refine Ya [zR 0,zR 1] [0] [zS 31 (sA (aN 0) 0) 1 1,zS 32 a 1 c] ?_
 refine qh 0 0 (aN 0) 0 1 1 1 c 32 3 _ #[.int .i64 z] (dst:=(some 33)) (by kernel_rfl) (by kernel_rfl) (by kernel_rfl) (by kernel_rfl) rfl rfl rfl (by decide) (by decide) rfl ?_
 refine Ya [zR 3] [33,31,32] [zI 8 1] ?_
 refine aC (aq (aM ?_))
 refine EP fun I=>?_
 refine aq ?_
 refine Zs (bh 0 4) [] [zB 37 false] ?_
 refine cF ?_
 refine dO rfl ?_
 refine aq ?_
 refine ue (size:=1) 0 eI [z] 1 rfl (by decide) (by intro x _;rfl) (by simp) ⟨.inl ⟨rfl,rfl⟩,trivial⟩ ?_
 try simp only[aQ]
 refine Za [zR 0,zR 1] [37,8,7] [zS 4 (sA (aN 0) 0) 1 1] ?_
 refine Yr [[]] (.slice (sA (aN 0) 0) 1 1) fun a w s=>?_
 exact⟨_,_,_,s.ret (by simp) [] [1] rfl rfl⟩
end Go.Proofs.YtmkapocibaojdaaGreatDoor
end
section
namespace Go.Sx
open Go
structure j7 where
 ta:Option Addr
 tn:Nat
 tc:Nat
 tb:Nat
 aa:Option Addr
 an:Nat
 ac:Nat
 oa:Option Addr
 on:Nat
 oc:Nat
end Go.Sx
namespace Go.Proofs.YtmkapocibaojdaaGreatDoor
open Go Go.Sx
abbrev oS (tb:Option Addr) (t:Value):Obj:=.cells #[.pointer tb,t] 181 (0,0)
abbrev ot (pb:Nat) (a o:Value):Obj:=.cells #[.pointer (some ⟨pb,0,none⟩),a,o] 184 (0,0)
def jQ (b:Nat) (tok:List Int):Chunk:=tX (fun _:j7=>True) (fun y=>[(.slice y.ta y.tn y.tc,aS tok)]) fun y=>[bL b (oS none (.slice y.ta y.tn y.tc))]
def lN (b:Nat) (tok:List Int) (pb:Nat) (at':List Int) (ops:List fP):Chunk:=tX (fun _:j7=>True) (fun y=>[(.slice y.ta y.tn y.tc,aS tok),(.slice y.aa y.an y.ac,aS at')]) fun y=>
 [bL b (oS (some ⟨y.tb,0,none⟩) (.slice y.ta y.tn y.tc)),bL y.tb (ot pb (.slice y.aa y.an y.ac) (.slice y.oa y.on y.oc)),aT (.slice y.oa y.on y.oc) 55 7 (ops.map fe)]
def nD (b:Nat) (tok:List Int) (pb:Nat) (at':List Int) (ops:List fP):Chunk:=tX (fun _:j7=>True) (fun y=>[(.slice y.ta y.tn y.tc,aS tok),(.slice y.aa y.an y.ac,aS at'),(.slice y.oa y.on y.oc,.sl 7 (ops.map fe))]) fun y=>
 [bL b (oS (some ⟨y.tb,0,none⟩) (.slice y.ta y.tn y.tc)),bL y.tb (ot pb (.slice y.aa y.an y.ac) (.slice y.oa y.on y.oc))]
set_option maxHeartbeats 4000000 in
theorem vr {nn:Nat} {E:Env} {S:Nat→Prop} {w0:World} {a:Act} {w:World} {g:Value×D} {c0 c1:Nat} (n:Nat) {cs:Array Value} {v:Value} (s:St nn E [(c0,.cells cs 3 (0,0)),(c1,oS none (.slice (some ⟨c0,0,none⟩) n n))] [] [([],w0)] ⟨sK S [] w0,[],[g]⟩ a w) (hR:qV [g] cs.toList ((aD n (0:Int)).map eI).flatten) :
  cQ [] w0 S w (.returned v) v [jQ c1 (aD n 0)] []:=by
 obtain⟨aU,s⟩:=s
 have s1:=s.data (cap:=n) (rows:=(aD n (0:Int)).map eI) (size:=1) 0 rfl (by decide) (by intro row h;obtain⟨x,_,rfl⟩:=aB.1 h;rfl) (by simp) hR
 rw[show((aD n (0:Int)).map eI).length=n by simp]at s1
 have s2:=St.dY ⟨_,s1⟩ 0 rfl
 have s3:=s2.jz (dH (C:=fun y:j7=>[bL c1 (oS none (.slice y.ta y.tn y.tc))]) (G:=fun y:j7=>[(.slice y.ta y.tn y.tc,aS (aD n 0))]) (p:=fun _=>True) [0] ⟨some ⟨c0,0,none⟩,n,n,0,none,0,0,none,0,0⟩ rfl (by simp) trivial)
 exact s3.ret (by simp) [0] [] rfl rfl
set_option maxHeartbeats 4000000 in
theorem Hr {w:World} {S:Nat→Prop} {er:Nat→Addr} {eb:Nat→Array Value×TypeId} {p:Int} (hC:cm w S .nilIface (dC er eb)) (h1:1≤p) (h6:p≤6) :
  Calls Tryz.prog 32 #[.int .i64 p] w fun e w'=>∃b,cQ [] w S w' e (.tuple #[.pointer (some ⟨b,0,none⟩),.nilIface]) [jQ b (aD p.toNat 0)] []:=by
 refine jL Tryz.func32 U4 (args:=[.int .i64 p]) (S:=S) (G:=[(_,dC er eb)]) (by kernel_rfl) (.cons hC (.nil _ _)) ?_
 have h2:¬p<1:=by omega
 have h3:¬6<p:=by omega
 obtain⟨n,rfl⟩:∃n:Nat,p=n:=⟨p.toNat,by omega⟩
 refine Zs [zR 0,zR 1] [] [zV 2 (.pointer none),zV 3 .nilIface] ?_
 refine aq ?_
 refine Zt [zR 0,.rd 1 [] 0 7,zR 2,zR 3,.rd 4 [] 0 7,zR 5] [] [zB 9 false] (oC (show decide ((↑n:Int)<(1:Int))=false from by simp;omega) (oC (show decide ((↑n:Int)>(6:Int))=false from by simp;omega) oN)) ?_
 refine cF ?_
 refine aG (aq ?_)
 rcases(by omega:n=1∨n=2∨n=3∨n=4∨n=5∨n=6)with rfl|rfl|rfl|rfl|rfl|rfl
 ·refine Zm [.rd 0 [] 0 0,.wr 1 [] 0,.rd 2 [] 0 0,.wr 3 [] 0,.rd 4 [] 0 0,.rd 5 [] 0 0] [] [9,0] (fun aN=>[(2,.val (.pointer (some (⟨aN 1,0,none⟩))))]) o0 (fun aN=>[(aN 0,.cells #[.int .i64 0] 3 (0,0)),(aN 1,.cells #[.pointer none,.slice (some (⟨aN 0,0,none⟩)) 1 1] 181 (0,0))]) (fun aN=>?_)
  refine Yr [[],[]] (.tuple #[.pointer (sA (aN 1) 0),.nilIface]) fun a w s=>?_
  exact⟨_,vr 1 s (iK 1)⟩
 ·refine Zm [.rd 0 [] 0 0,.wr 1 [] 0,.rd 2 [] 0 0,.wr 3 [] 0,.rd 4 [] 0 0,.rd 5 [] 0 0] [] [9,0] (fun aN=>[(2,.val (.pointer (some (⟨aN 1,0,none⟩))))]) o0 (fun aN=>[(aN 0,.cells #[.int .i64 0,.int .i64 0] 3 (0,0)),(aN 1,.cells #[.pointer none,.slice (some (⟨aN 0,0,none⟩)) 2 2] 181 (0,0))]) (fun aN=>?_)
  refine Yr [[],[]] (.tuple #[.pointer (sA (aN 1) 0),.nilIface]) fun a w s=>?_
  exact⟨_,vr 2 s (iK 2)⟩
 ·refine Zm [.rd 0 [] 0 0,.wr 1 [] 0,.rd 2 [] 0 0,.wr 3 [] 0,.rd 4 [] 0 0,.rd 5 [] 0 0] [] [9,0] (fun aN=>[(2,.val (.pointer (some (⟨aN 1,0,none⟩))))]) o0 (fun aN=>[(aN 0,.cells #[.int .i64 0,.int .i64 0,.int .i64 0] 3 (0,0)),(aN 1,.cells #[.pointer none,.slice (some (⟨aN 0,0,none⟩)) 3 3] 181 (0,0))]) (fun aN=>?_)
  refine Yr [[],[]] (.tuple #[.pointer (sA (aN 1) 0),.nilIface]) fun a w s=>?_
  exact⟨_,vr 3 s (iK 3)⟩
 ·refine Zm [.rd 0 [] 0 0,.wr 1 [] 0,.rd 2 [] 0 0,.wr 3 [] 0,.rd 4 [] 0 0,.rd 5 [] 0 0] [] [9,0] (fun aN=>[(2,.val (.pointer (some (⟨aN 1,0,none⟩))))]) o0 (fun aN=>[(aN 0,.cells #[.int .i64 0,.int .i64 0,.int .i64 0,.int .i64 0] 3 (0,0)),(aN 1,.cells #[.pointer none,.slice (some (⟨aN 0,0,none⟩)) 4 4] 181 (0,0))]) (fun aN=>?_)
  refine Yr [[],[]] (.tuple #[.pointer (sA (aN 1) 0),.nilIface]) fun a w s=>?_
  exact⟨_,vr 4 s (iK 4)⟩
 ·refine Zm [.rd 0 [] 0 0,.wr 1 [] 0,.rd 2 [] 0 0,.wr 3 [] 0,.rd 4 [] 0 0,.rd 5 [] 0 0] [] [9,0] (fun aN=>[(2,.val (.pointer (some (⟨aN 1,0,none⟩))))]) o0 (fun aN=>[(aN 0,.cells #[.int .i64 0,.int .i64 0,.int .i64 0,.int .i64 0,.int .i64 0] 3 (0,0)),(aN 1,.cells #[.pointer none,.slice (some (⟨aN 0,0,none⟩)) 5 5] 181 (0,0))]) (fun aN=>?_)
  refine Yr [[],[]] (.tuple #[.pointer (sA (aN 1) 0),.nilIface]) fun a w s=>?_
  exact⟨_,vr 5 s (iK 5)⟩
 ·refine Zm [.rd 0 [] 0 0,.wr 1 [] 0,.rd 2 [] 0 0,.wr 3 [] 0,.rd 4 [] 0 0,.rd 5 [] 0 0] [] [9,0] (fun aN=>[(2,.val (.pointer (some (⟨aN 1,0,none⟩))))]) o0 (fun aN=>[(aN 0,.cells #[.int .i64 0,.int .i64 0,.int .i64 0,.int .i64 0,.int .i64 0,.int .i64 0] 3 (0,0)),(aN 1,.cells #[.pointer none,.slice (some (⟨aN 0,0,none⟩)) 6 6] 181 (0,0))]) (fun aN=>?_)
  refine Yr [[],[]] (.tuple #[.pointer (sA (aN 1) 0),.nilIface]) fun a w s=>?_
  exact⟨_,vr 6 s (iK 6)⟩
end Go.Proofs.YtmkapocibaojdaaGreatDoor
end
section
namespace Go.Proofs.YtmkapocibaojdaaGreatDoor
open Go Go.Sx
section Fo
variable {w:World} {S:Nat→Prop} {M:List Nat} {er:Nat→Addr} {eb:Nat→Array Value×TypeId} {x:fJ} {b pb sb n:Nat} {tok at':List Int} {ops:List fP}
theorem BX (hP:Pre w S M [bQ b x]) :
  Calls Tryz.prog 99 #[.pointer (some ⟨b,0,none⟩)] w fun e w'=>cQ M w S w' e (.int .i64 x.places) [bQ b x] []:=by
 refine pW Tryz.func99 UC (args:=[.pointer (some ⟨b,0,none⟩)]) (S:=S) (C:=[bQ b x]) (G:=[]) (by kernel_rfl) hP (gl.nil w S) ?_
 refine b9 (eZ 0 rfl) fun y hy=>?_
 obtain⟨vb,oa,oc,ia,ic,om,im⟩:=y
 refine Nm [bL b (.cells #[.pointer (sA vb 0),nI (↑x.id:Int),nI (↑x.places:Int),nI (↑x.ah:Int),nI x.clock,.slice (iN.mk vb oa oc ia ic om im).oa x.places oc,.slice (iN.mk vb oa oc ia ic om im).ia x.places ic] 124 (0,0)),(fT (iN.mk vb oa oc ia ic om im).vb x.places x.base x.L),(dN (iN.mk vb oa oc ia ic om im).om.flatten x.ss),(c8 (iN.mk vb oa oc ia ic om im).im.flatten x.rs)] ?_
 refine fh 0 rfl ?_
 try simp only[aQ]
 refine Zs [zR 0] [] [zI 2 0] ?_
 refine Zs (bh 0 3++[.rd 3 [.o 0 none] 0 0,zR 4]) [0] [zI 2 (↑x.places:Int)] ?_
 refine Yr [[]] (nI (↑x.places:Int)) fun a w s=>?_
 have s2:=(s.dY 0 rfl).jz (ee (x:=x) ⟨vb,oa,oc,ia,ic,om,im⟩ [3,0,1,2] 0 1 rfl rfl rfl hy)
 exact s2.ret (by simp) [0] [] rfl rfl
theorem En (hP:Pre w S M [bQ b x]) :
  Calls Tryz.prog 106 #[.pointer (some ⟨b,0,none⟩)] w fun e w'=>cQ M w S w' e (.int .i64 x.id) [bQ b x] []:=by
 refine pW Tryz.func106 RN (args:=[.pointer (some ⟨b,0,none⟩)]) (S:=S) (C:=[bQ b x]) (G:=[]) (by kernel_rfl) hP (gl.nil w S) ?_
 refine b9 (eZ 0 rfl) fun y hy=>?_
 obtain⟨vb,oa,oc,ia,ic,om,im⟩:=y
 refine Nm [bL b (.cells #[.pointer (sA vb 0),nI (↑x.id:Int),nI (↑x.places:Int),nI (↑x.ah:Int),nI x.clock,.slice (iN.mk vb oa oc ia ic om im).oa x.places oc,.slice (iN.mk vb oa oc ia ic om im).ia x.places ic] 124 (0,0)),(fT (iN.mk vb oa oc ia ic om im).vb x.places x.base x.L),(dN (iN.mk vb oa oc ia ic om im).om.flatten x.ss),(c8 (iN.mk vb oa oc ia ic om im).im.flatten x.rs)] ?_
 refine fh 0 rfl ?_
 try simp only[aQ]
 refine Zs [zR 0] [] [zI 2 0] ?_
 refine Zs (bh 0 3++[.rd 3 [.o 0 none] 0 0,zR 4]) [0] [zI 2 (↑x.id:Int)] ?_
 refine Yr [[]] (nI (↑x.id:Int)) fun a w s=>?_
 have s2:=(s.dY 0 rfl).jz (ee (x:=x) ⟨vb,oa,oc,ia,ic,om,im⟩ [3,0,1,2] 0 1 rfl rfl rfl hy)
 exact s2.ret (by simp) [0] [] rfl rfl
theorem J0 (hP:Pre w S M [nD b tok pb at' ops]) :
  Calls Tryz.prog 43 #[.pointer (some ⟨b,0,none⟩)] w fun e w'=>cQ M w S w' e (.bool true) [nD b tok pb at' ops] []:=by
 refine pW Tryz.func43 UY (args:=[.pointer (some ⟨b,0,none⟩)]) (S:=S) (C:=[nD b tok pb at' ops]) (G:=[]) (by kernel_rfl) hP (gl.nil w S) ?_
 refine b9 (eZ 0 rfl) fun y _=>?_
 refine Nm [bL b (.cells #[.pointer (sA y.tb 0),.slice y.ta y.tn y.tc] 181 (0,0)),bL y.tb (.cells #[.pointer (sA pb 0),.slice y.aa y.an y.ac,.slice y.oa y.on y.oc] 184 (0,0))] ?_
 refine fh 0 rfl ?_
 try simp only[aQ]
 refine Zs [zR 0] [] [zB 2 false] ?_
 refine Zs (bh 0 3++[.rd 3 [.o 0 none] 0 0,zR 4,zR 5]) [0] [zB 2 true] ?_
 refine Yr [[]] (.bool true) fun a w s=>?_
 have s2:=(s.dY 0 rfl).jz (dH (C:=fun y:j7=>[bL b (oS (some ⟨y.tb,0,none⟩) (.slice y.ta y.tn y.tc)),bL y.tb (ot pb (.slice y.aa y.an y.ac) (.slice y.oa y.on y.oc))]) (G:=fun y:j7=>[(.slice y.ta y.tn y.tc,aS tok),(.slice y.aa y.an y.ac,aS at'),(.slice y.oa y.on y.oc,.sl 7 (ops.map fe))]) (p:=fun _=>True) [1,0] y rfl (by simp) trivial)
 exact s2.ret (by simp) [0] [] rfl rfl
set_option maxHeartbeats 4000000 in
theorem BQ (hC:cm w S .nilIface (dC er eb)) (hP:Pre w S M [bQ pb x,jQ sb tok]) (hx:yM x) (hv:b8 tok=0) (hl:tok.length=x.places) :
  Calls Tryz.prog 33 #[.pointer (some ⟨sb,0,none⟩),.pointer (some ⟨pb,0,none⟩)] w fun e w'=>
   (lF tok (bG x)=false∧cQ M w S w' e (.tuple #[.slice none 0 0,.iface 390 (.pointer (some (er 11)))]) [bQ pb x,jQ sb tok] []) ∨
   (lF tok (bG x)=true∧∃a' n' c',cQ M w S w' e (.tuple #[.slice a' n' c',.nilIface]) [bQ pb x,lN sb (bG x) pb (bG x) []] [(.slice a' n' c',aS (bG x))]):=by
 refine pW Tryz.func33 U3 (args:=[.pointer (some ⟨sb,0,none⟩),.pointer (some ⟨pb,0,none⟩)]) (S:=S) (C:=[bQ pb x,jQ sb tok]) (G:=[(_,dC er eb)]) (by kernel_rfl) hP (.cons hC (.nil _ _)) ?_
 refine b9 (eZ 1 rfl) fun y _=>?_
 obtain⟨ta,tn,tc,_,_,_,_,_,_,_⟩:=y
 dsimp only
 refine Nm [(bQ pb x),bL sb (.cells #[.pointer none,.slice ta tn tc] 181 (0,0))] ?_
 refine fh 1 rfl ?_
 try simp only[aQ]
 refine Zs [zR 0,zR 1] [] [zS 4 none 0 0,zV 5 .nilIface] ?_
 refine aq (aM ?_)
 refine Zs (bh 0 3++[.rd 3 [.o 0 none] 0 0,zR 4,zR 5]) [] [zB 9 false] ?_
 refine cF ?_
 refine jS [(0,true),(2,true),(3,true),(4,true),(5,true),(6,true),(1,false),(7,true),(8,true)] [(1,[])] ?_
 refine Ya ([zR 0]++bh 2 5++[.rd 5 [.o 0 none] 0 0,zR 6]) [9] [zP 17 pb,zI 23 (↑tn:Int)] ?_
 refine cn [] [0] 99 #[.pointer (some (⟨pb,0,none⟩))] (some 18) (by kernel_rfl) (by kernel_rfl) (by decide) (fun w S M hP hG _=>?_)
 refine(BX hP).mono ?_
 rintro e1 w1 hR
 refine⟨_,_,_,hR,?_⟩
 have htn:=dJ (hG.at 1 rfl)
 subst htn
 have hne:¬(x.places:Int)≠tok.length:=by omega
 have Bn:(bG x).length=x.places:=by simp[bG]
 have MZ:iQ tok (bG x)=0:=by rw[iQ,if_neg (by simp[hv]),if_neg (by simp[uv hx]),if_neg (by omega)]
 have h6:=hx.p6
 try simp only[aQ]
 refine Yp [.rd 7 [] 0 7,zR 8] [18,17,23] [zB 16 false] (oC (show((↑x.places:Int) != (↑tok.length:Int))=false from by simp;omega) oN) ?_
 try simp only[aQ]
 refine aC ?_
 try simp only[aQ]
 refine cF ?_
 try simp only[aQ]
 refine aG ?_
 try simp only[aQ]
 refine eu ?_
 try simp only[aQ]
 refine aq ?_
 try simp only[aQ]
 refine jT [(0,true),(1,false),(2,true)] [] ?_
 refine Ya [zR 0] [16] [zP 26 pb] ?_
 refine cn [] [0] 19 #[.pointer (some (⟨pb,0,none⟩))] (some 27) (by kernel_rfl) (by kernel_rfl) (by decide) (fun w S M hP hG _=>?_)
 refine(y4 hP hx).mono ?_
 rintro e2 w2 ⟨a2,n2,c2,hR⟩
 refine⟨_,_,_,hR,?_⟩
 try simp only[aQ]
 refine Ya [zR 2] [27,26] [zS 6 a2 n2 c2] ?_
 try simp only[aQ]
 refine aC ?_
 try simp only[aQ]
 refine aq ?_
 try simp only[aQ]
 refine aq ?_
 try simp only[aQ]
 refine jT [(0,true),(1,true),(2,true),(3,true),(4,true),(5,false),(6,true),(7,true),(8,true),(9,true),(10,true)] [] ?_
 refine Ya (bh 0 3++[.rd 3 [.o 0 none] 0 0,zR 4]) [] [zS 32 ta tok.length tc,zS 33 a2 n2 c2] ?_
 refine Yc 100 #[.slice ta tok.length tc,.slice a2 n2 c2] (some 34) fun w S hG=>?_
 refine(uk (kL (hG.at 0 rfl)) (hG.at 1 rfl) (hG.at 2 rfl) (by omega) (by omega)).mono ?_
 rintro e3 w3 (⟨h0,_⟩|⟨_,hR⟩)
 ·exact absurd MZ h0
 refine⟨_,_,_,hR,?_⟩
 cases hin:lF tok (bG x)with
 | false=>
  try simp only[aQ]
  refine Ya (bh 6 11) [34,32,33] [zB 7 false] ?_
  try simp only[aQ]
  refine aC ?_
  try simp only[aQ]
  refine aq ?_
  try simp only[aQ]
  refine Za [zR 0,zR 1] [7] [zB 38 true] ?_
  try simp only[aQ]
  refine gR ?_
  try simp only[aQ]
  refine aq ?_
  try simp only[aQ]
  refine bH (ij 0 [10] rfl rfl) ?_
  refine di 3 rfl (fun ni mW ng dh=>?_)
  try simp only[aQ]
  refine Zp [.rd 0 [.r 0 (some (.iface 390 (.pointer (some (er 11)))))] 0 0,zR 1,zR 2] [38] [zV 5 (.iface 390 (.pointer (some (er 11))))] (oC dh oN) ?_
  try simp only[aQ]
  refine Yr [[],[]] (.tuple #[.slice none 0 0,.iface 390 (.pointer (some (er 11)))]) fun a w s=>?_
  have s2:=(s.dY 0 rfl).jz (dH (C:=fun y:j7=>[bL sb (oS none (.slice y.ta y.tn y.tc))]) (G:=fun y:j7=>[(.slice y.ta y.tn y.tc,aS tok)]) (p:=fun _=>True) [1] ⟨ta,tok.length,tc,0,none,0,0,none,0,0⟩ rfl (by simp) trivial)
  exact .inl ⟨by first|rfl|trivial,s2.ret (by simp) [0,1] [] rfl rfl⟩
 | true=>
  try simp only[aQ]
  refine Ya (bh 6 11) [34,32,33] [zB 7 true] ?_
  try simp only[aQ]
  refine aC ?_
  try simp only[aQ]
  refine aq ?_
  try simp only[aQ]
  refine Za [zR 0,zR 1] [7] [zB 38 false] ?_
  try simp only[aQ]
  refine cF ?_
  try simp only[aQ]
  refine aG ?_
  try simp only[aQ]
  refine aq ?_
  try simp only[aQ]
  refine Zm (bh 0 4++[.wr 4 [.o 0 none] 0]) [(4,[0])] [38] (fun _=>[]) (fun _=>[(0,.cells #[.pointer none,.slice a2 n2 c2] 181 (0,0))]) o0 (fun _=>?_)
  try simp only[aQ]
  refine aq ?_
  try simp only[aQ]
  refine jT [(0,true),(1,true),(2,true),(3,false),(4,true),(5,false),(6,true),(7,true),(8,false)] [] ?_
  refine Ya (bh 0 3) [0,1] [zP 44 sb,zP 45 pb,zS 46 a2 n2 c2] ?_
  refine Yc 101 #[.slice a2 n2 c2] (some 47) fun w S hG=>?_
  refine(p7 (hG.at 2 rfl) (by omega)).mono ?_
  rintro e4 w4 ⟨a4,c4,hR⟩
  refine⟨_,_,_,hR,?_⟩
  try simp only[aQ]
  refine Ym [zR 4,.wr 5 [] 0,zR 6,zR 7,.wr 8 [.o 0 none] 0] [47,44,45,46] (fun aN=>[]) (fun aN=>[(0,.cells #[.pointer (sA (aN 0) 0),.slice a2 n2 c2] 181 (0,0))]) (fun aN=>[(aN 0,.cells #[.pointer (sA pb 0),.slice a4 n2 c4,.slice none 0 0] 184 (0,0))]) [] (fun aN=>?_)
  try simp only[aQ]
  refine aC ?_
  try simp only[aQ]
  refine aq ?_
  try simp only[aQ]
  refine bH (dg 1 rfl) ?_
  refine bH (fO fe 55 7) ?_
  refine Nm [(bQ pb x),aT (.slice none 0 0) 55 7 (aj fe [])] ?_
  try simp only[aQ]
  refine jT [(0,true),(1,false),(2,true),(3,true)] [] ?_
  refine Ya [zR 0] [6] [zS 52 a2 n2 c2] ?_
  refine Yc 101 #[.slice a2 n2 c2] (some 53) fun w S hG=>?_
  refine(p7 (hG.at 2 rfl) (by omega)).mono ?_
  rintro e5 w5 ⟨a5,c5,hR⟩
  refine⟨_,_,_,hR,?_⟩
  try simp only[aQ]
  refine Ya [zR 2,zR 3] [53,52] [zS 4 a5 n2 c5] ?_
  refine aC ?_
  refine Yr [[],[]] (.tuple #[.slice a5 n2 c5,.nilIface]) fun a w s=>?_
  have s2:=((s.jz (dg 2 rfl)).dY 0 rfl).dY 0 rfl
  have s3:=s2.jz (dH (C:=fun y:j7=>[bL sb (oS (some ⟨y.tb,0,none⟩) (.slice y.ta y.tn y.tc)),bL y.tb (ot pb (.slice y.aa y.an y.ac) (.slice y.oa y.on y.oc)),aT (.slice y.oa y.on y.oc) 55 7 (([]:List fP).map fe)]) (G:=fun y:j7=>[(.slice y.ta y.tn y.tc,aS (bG x)),(.slice y.aa y.an y.ac,aS (bG x))]) (p:=fun _=>True) [2,3,1] ⟨a2,n2,c2,aN 0,a4,n2,c4,none,0,0⟩ rfl (by simp) trivial)
  exact .inr ⟨by first|rfl|trivial,_,_,_,s3.ret (by simp) [0,1] [4] rfl rfl⟩
end Fo
end Go.Proofs.YtmkapocibaojdaaGreatDoor
end
section
namespace Go.Proofs.YtmkapocibaojdaaGreatDoor
open Go Go.Sx
section Fo
variable {w:World} {S:Nat→Prop} {M:List Nat} {er:Nat→Addr} {eb:Nat→Array Value×TypeId} {x:fJ} {b pb sb n:Nat} {tok at':List Int} {ops:List fP}
set_option maxHeartbeats 4000000 in
theorem Fx {n1 c1:Nat} {a1:Option Addr} {key text:ByteArray} (hC:cm w S .nilIface (dC er eb)) (hP:Pre w S M [bQ b x]) (hx:iW x n) (hn:n≤600) (h1:cm w S (.slice a1 n1 c1) (aS at')) (ja:at'.length≤1000000) :
  Calls Tryz.prog 74 #[.pointer (some ⟨b,0,none⟩),.string key,.string text,.slice a1 n1 c1] w fun e w'=>
   (iR x key at'≠0∧cQ M w S w' e (.tuple #[.slice none 0 0,.iface 390 (.pointer (some (er (iR x key at'))))]) [bQ b x] []) ∨
   (iR x key at'=0∧∃ua un uc,cQ M w S w' e (.tuple #[.slice ua un uc,.nilIface]) [bQ b x] [(.slice ua un uc,.sl 3 ((oH key text (aW x.L key at')).map bK))]):=by
 refine pW Tryz.func74 UT (args:=[.pointer (some ⟨b,0,none⟩),.string key,.string text,.slice a1 n1 c1]) (S:=S) (C:=[bQ b x]) (G:=[(_,dC er eb),(_,aS at')]) (by kernel_rfl) hP (.cons hC (.cons h1 (.nil _ _))) ?_
 refine b9 (eZ 0 rfl) fun y hy=>?_
 obtain⟨vb,oa,oc,ia,ic,om,im⟩:=y
 refine Nm [bL b (.cells #[.pointer (sA vb 0),nI (↑x.id:Int),nI (↑x.places:Int),nI (↑x.ah:Int),nI x.clock,.slice (iN.mk vb oa oc ia ic om im).oa x.places oc,.slice (iN.mk vb oa oc ia ic om im).ia x.places ic] 124 (0,0)),(fT (iN.mk vb oa oc ia ic om im).vb x.places x.base x.L),(dN (iN.mk vb oa oc ia ic om im).om.flatten x.ss),(c8 (iN.mk vb oa oc ia ic om im).im.flatten x.rs)] ?_
 try simp only[aQ]
 refine Zs [zR 0,zR 1] [] [zS 8 none 0 0,zV 9 .nilIface] ?_
 refine aq ?_
 refine jS [(0,true),(1,true),(2,true),(3,false),(4,true)] [] ?_
 refine Ya (bh 0 3) [] [zP 11 b,zV 12 (.string key),zS 13 a1 n1 c1] ?_
 refine cn [] [0,3] 94 #[.pointer (some (⟨b,0,none⟩)),.string key,.slice a1 n1 c1] (some 14) (by kernel_rfl) (by kernel_rfl) (by decide) (fun w S M hP hG _=>?_)
 refine(LG (hG.at 0 rfl) hP (hG.at 3 rfl) (hG.at 1 rfl) hy.im hx.toyM ja).mono ?_
 rintro e1 w1 ⟨v,hR,hv⟩
 refine⟨_,_,_,hR,?_⟩
 obtain⟨sZ,rfl⟩|⟨sZ,rfl⟩:=hv
 case inr=>
  have oE:iR x key at'=jk x key at':=by rw[iR,if_pos sZ]
  rw[oE]
  try simp only[aQ]
  refine Ya [zR 4] [14,11,12,13] [zV 10 (.iface 390 (.pointer (some (er (jk x key at')))))] ?_
  try simp only[aQ]
  refine aC ?_
  try simp only[aQ]
  refine aq ?_
  try simp only[aQ]
  refine Za [zR 0,zR 1] [] [zB 16 true] ?_
  try simp only[aQ]
  refine gR ?_
  try simp only[aQ]
  refine aq ?_
  try simp only[aQ]
  refine Za (bh 0 3) [16,10] [zV 9 (.iface 390 (.pointer (some (er (jk x key at')))))] ?_
  try simp only[aQ]
  refine Yr [[],[]] (.tuple #[.slice none 0 0,.iface 390 (.pointer (some (er (jk x key at'))))]) fun a w s=>?_
  have s2:=s.jz (ee (x:=x) ⟨vb,oa,oc,ia,ic,om,im⟩ [2,0,1,3] 2 3 rfl rfl rfl hy)
  exact .inl ⟨sZ,s2.ret (by simp) [0] [] rfl rfl⟩
 have oE:iR x key at'=eA x.places x.base key at':=by rw[iR,if_neg (by omega)]
 rw[oE]
 try simp only[aQ]
 refine Ya [zR 4] [14,11,12,13] [zV 10 .nilIface] ?_
 try simp only[aQ]
 refine aC ?_
 try simp only[aQ]
 refine aq ?_
 try simp only[aQ]
 refine Za [zR 0,zR 1] [] [zB 16 false] ?_
 try simp only[aQ]
 refine cF ?_
 try simp only[aQ]
 refine aG ?_
 try simp only[aQ]
 refine aq ?_
 try simp only[aQ]
 refine Nm [(fT vb x.places x.base x.L),(dN om.flatten x.ss),bL b (.cells #[.pointer (sA vb 0),nI (↑x.id:Int),nI (↑x.places:Int),nI (↑x.ah:Int),nI x.clock,.slice oa x.places oc,.slice ia x.places ic] 124 (0,0)),(c8 im.flatten x.rs)] ?_
 refine fh 2 rfl ?_
 refine jT [(0,true),(1,true),(2,true),(3,true),(4,true),(5,true),(6,true),(7,false),(8,true),(9,true),(10,true),(11,true)] [] ?_
 refine Ya (bh 0 3++[.rd 3 [.o 0 none] 0 0]++bh 4 7) [16,10,0,1,2,3] [zP 21 vb,zV 22 (.string key),zV 23 (.string text),zS 24 a1 n1 c1] ?_
 refine cn [] [0] 138 #[.pointer (some (⟨vb,0,none⟩)),.string key,.string text,.slice a1 n1 c1] (some 25) (by kernel_rfl) (by kernel_rfl) (by decide) (fun w S M hP hG _=>?_)
 refine(JQ (hG.at 0 rfl) hP (hx.R2 (by omega)) (hG.at 1 rfl) ja).mono ?_
 rintro e2 w2 (⟨hf,hR⟩|⟨hf,ua,un,uc,hR⟩)
 ·refine⟨_,_,_,hR,?_⟩
  try simp only[aQ]
  refine Ya (bh 8 12) [25,21,22,23,24] [zV 9 (.iface 390 (.pointer (some (er (eA x.places x.base key at')))))] ?_
  try simp only[aQ]
  refine aC ?_
  try simp only[aQ]
  refine Yr [[],[]] (.tuple #[.slice none 0 0,.iface 390 (.pointer (some (er (eA x.places x.base key at'))))]) fun a w s=>?_
  have s2:=(s.dY 0 rfl).jz (ee (x:=x) ⟨vb,oa,oc,ia,ic,om,im⟩ [3,2,0,1] 2 3 rfl rfl rfl hy)
  exact .inl ⟨hf,s2.ret (by simp) [0] [] rfl rfl⟩
 ·refine⟨_,_,_,hR,?_⟩
  try simp only[aQ]
  refine Ya (bh 8 12) [25,21,22,23,24] [zS 8 ua un uc] ?_
  try simp only[aQ]
  refine aC ?_
  try simp only[aQ]
  refine Yr [[],[]] (.tuple #[.slice ua un uc,.nilIface]) fun a w s=>?_
  have s2:=(s.dY 0 rfl).jz (ee (x:=x) ⟨vb,oa,oc,ia,ic,om,im⟩ [3,2,0,1] 2 3 rfl rfl rfl hy)
  exact .inr ⟨hf,_,_,_,s2.ret (by simp) [0] [4] rfl rfl⟩
set_option maxHeartbeats 4000000 in
theorem C7 {h r:List (Nat×Obj)} {F:List (List Nat×World)} {S0:Nat→Prop} {C0:List Chunk} {G0:List (Value×D)} (i:Nat) {a:Option Addr} {m c k:Nat} {rows:List (List D)} (hi:G0[i]?=some (.slice a m c,.sl k rows)):nP h r F ⟨S0,C0,G0⟩ (fun _:Unit=>m≤c) fun _=>⟨S0,C0,G0⟩:=
 rf fun _ _ H=>(H.g _ (ae hi)).cap
def oy (ops:List fP) (o:fP):fP:={ o with no:=ops.length }
def jZ (x:fJ) (at':List Int) (ops:List fP) (o:fP):Nat:=if 12≤ops.length then 7 else if fE (oy ops o) at'.length≠0 then fE (oy ops o) at'.length else if o.remove=true then iR x o.key at' else 0
def xw (x:fJ) (at':List Int) (ops:List fP) (o:fP):fP:=if o.remove=true then { oy ops o with bF:=(oH o.key o.text (aW x.L o.key at')).take 60 }else oy ops o
def kH (x:fJ) (at':List Int) (ops:List fP) (o:fP):List fP:=if jZ x at' ops o=0 then ops++[xw x at' ops o]else ops
set_option maxHeartbeats 8000000 in
theorem BP {z kd nn:Int} {ky tx:ByteArray} {rm:Bool} (hC:cm w S .nilIface (dC er eb)) (hP:Pre w S M [bQ pb x,lN sb tok pb at' ops]) (hx:iW x n) (hn:n≤600) (ja:at'.length≤1000000) (hl:ops.length≤1000000) :
  Calls Tryz.prog 102 #[.pointer (some ⟨sb,0,none⟩),.agg #[.int .i64 z,.string ky,.int .i64 kd,.string tx,.int .i64 nn,.bool rm,.slice none 0 0]] w fun e w'=>∃v,cQ M w S w' e v [bQ pb x,lN sb tok pb at' (kH x at' ops ⟨z,ky,kd,tx,nn,rm,[]⟩)] []∧lq 390 er (jZ x at' ops ⟨z,ky,kd,tx,nn,rm,[]⟩) v:=by
 refine pW Tryz.func102 RP (args:=[.pointer (some ⟨sb,0,none⟩),.agg #[.int .i64 z,.string ky,.int .i64 kd,.string tx,.int .i64 nn,.bool rm,.slice none 0 0]]) (S:=S) (C:=[bQ pb x,lN sb tok pb at' ops]) (G:=[(_,dC er eb)]) (by kernel_rfl) hP (.cons hC (.nil _ _)) ?_
 refine bH (ij 0 [6] rfl rfl) ?_
 refine di 1 rfl (fun ni mW ng dh=>?_)
 refine b9 (eZ 1 rfl) fun y _=>?_
 obtain⟨ta,tn,tc,tb,aa,an,ac,oa,on,oc⟩:=y
 dsimp only
 refine Nm [(bQ pb x),bL sb (.cells #[.pointer (sA tb 0),.slice ta tn tc] 181 (0,0)),bL tb (.cells #[.pointer (sA pb 0),.slice aa an ac,.slice oa on oc] 184 (0,0)),aT (.slice oa on oc) 55 7 (aj fe ops)] ?_
 refine b9 (eC 3 rfl) fun _ Io=>?_
 rw[aA]at Io
 subst Io
 refine b9 (jY 3 rfl) fun _ QD=>?_
 rw[aA]at QD
 subst QD
 refine fh 1 rfl ?_
 refine fh 1 rfl ?_
 try simp only[aQ]
 refine Zv [.wr 0 [] 0,zR 1] [] [1] (fun aN=>[zP 3 (aN 0),zV 4 .nilIface]) o0 (fun aN=>[(aN 0,.cells #[nI z,.string ky,nI kd,.string tx,nI nn,.bool rm,.slice none 0 0] 55 (0,0))]) (fun aN=>?_)
 refine aq ?_
 refine Zs (bh 0 3++[.rd 3 [.o 0 none] 0 0,zR 4]) [] [zB 12 false] ?_
 refine cF ?_
 refine aG (aq ?_)
 refine Zs (bh 0 3++[.rd 3 [.o 0 none] 0 0,zR 4,zR 5,.rd 6 [.o 1 none] 0 0,zR 7,zR 8]) [12] [zB 22 (decide ((↑ops.length:Int)≥12))] ?_
 refine cC (t:=decide ((↑ops.length:Int)≥12)) (fun hfull=>?_) (fun hfull=>?_)
 ·have h12:12≤ops.length:=by simp at hfull;omega
  have he:jZ x at' ops ⟨z,ky,kd,tx,nn,rm,[]⟩=7:=by rw[jZ,if_pos h12]
  have ho:kH x at' ops ⟨z,ky,kd,tx,nn,rm,[]⟩=ops:=by rw[kH,he,if_neg (by decide)]
  rw[he,ho]
  refine Zt [.rd 0 [.r 0 (some (.iface 390 (.pointer (some (er 7)))))] 0 0,zR 1] [22] [zV 4 (.iface 390 (.pointer (some (er 7))))] (oC dh oN) ?_
  refine Yr [[]] (.iface 390 (.pointer (some (er 7)))) fun a w s=>?_
  have s2:=((s.dY 0 rfl).dY 0 rfl).jz (dH (C:=fun y:j7=>[bL sb (oS (some ⟨y.tb,0,none⟩) (.slice y.ta y.tn y.tc)),bL y.tb (ot pb (.slice y.aa y.an y.ac) (.slice y.oa y.on y.oc)),aT (.slice y.oa y.on y.oc) 55 7 (ops.map fe)]) (G:=fun y:j7=>[(.slice y.ta y.tn y.tc,aS tok),(.slice y.aa y.an y.ac,aS at')]) (p:=fun _=>True) [2,3,1] ⟨ta,tn,tc,tb,aa,at'.length,ac,oa,ops.length,oc⟩ rfl (by simp) trivial)
  exact⟨_,s2.ret (by simp) [0,1] [] rfl rfl,.inr ⟨by decide,rfl⟩⟩
 have h12:¬12≤ops.length:=by simp at hfull;omega
 refine aG ?_
 refine Zv (bh 0 3++[.rd 3 [.o 0 none] 0 0,zR 4,zR 5,.rd 6 [.o 1 none] 0 0,zR 7,zR 8,.wr 9 [.o 2 none] 0]) [(9,[2])] [22] (fun _=>[]) (fun _=>[(2,.cells #[nI (↑ops.length:Int),.string ky,nI kd,.string tx,nI nn,.bool rm,.slice none 0 0] 55 (0,0))]) o0 (fun _=>?_)
 refine aq ?_
 refine jS [(0,true),(1,true),(2,true),(3,true),(4,true),(5,true),(6,true),(7,true),(8,true),(9,false),(10,true)] [] ?_
 refine Ya ([.rd 0 (ek 2 7) 0 0]++bh 1 4++[.rd 4 [.o 0 none] 0 0,zR 5,zR 6,.rd 7 [.o 1 none] 0 0,zR 8]) [] [zV 33 (.agg #[nI (↑ops.length:Int),.string ky,nI kd,.string tx,nI nn,.bool rm,.slice none 0 0]),zI 41 (↑at'.length:Int)] ?_
 refine Yc 144 #[.agg #[nI (↑ops.length:Int),.string ky,nI kd,.string tx,nI nn,.bool rm,.slice none 0 0],nI (↑at'.length:Int)] (some 42) fun w S hG=>?_
 refine(w9 (o:=oy ops ⟨z,ky,kd,tx,nn,rm,[]⟩) (hG.at 0 rfl) (show cm _ _ (.slice none 0 0) (.sl 3 ((oy ops ⟨z,ky,kd,tx,nn,rm,[]⟩).bF.map bK)) from .nil)).mono ?_
 rintro e3 w3 ⟨v,hR,hv⟩
 refine⟨_,_,_,hR,?_⟩
 obtain⟨nc,rfl⟩|⟨nc,rfl⟩:=hv
 case inr=>
  have he:jZ x at' ops ⟨z,ky,kd,tx,nn,rm,[]⟩=fE (oy ops ⟨z,ky,kd,tx,nn,rm,[]⟩) at'.length:=by rw[jZ,if_neg h12,if_pos nc]
  have ho:kH x at' ops ⟨z,ky,kd,tx,nn,rm,[]⟩=ops:=by rw[kH,he,if_neg nc]
  rw[he,ho]
  try simp only[aQ]
  refine Ya [zR 10] [42,33,41] [zV 5 (.iface 390 (.pointer (some (er (fE (oy ops (fP.mk z ky kd tx nn rm [])) (↑at'.length:Int))))))] ?_
  refine aC ?_
  refine Zs [zR 0,zR 1] [] [zB 44 true] ?_
  refine gR ?_
  refine Zs [zR 0,zR 1] [44,5] [zV 4 (.iface 390 (.pointer (some (er (fE (oy ops (fP.mk z ky kd tx nn rm [])) (↑at'.length:Int))))))] ?_
  refine Yr [[]] (.iface 390 (.pointer (some (er (fE (oy ops (fP.mk z ky kd tx nn rm [])) (↑at'.length:Int)))))) fun a w s=>?_
  have s2:=((s.dY 0 rfl).dY 0 rfl).jz (dH (C:=fun y:j7=>[bL sb (oS (some ⟨y.tb,0,none⟩) (.slice y.ta y.tn y.tc)),bL y.tb (ot pb (.slice y.aa y.an y.ac) (.slice y.oa y.on y.oc)),aT (.slice y.oa y.on y.oc) 55 7 (ops.map fe)]) (G:=fun y:j7=>[(.slice y.ta y.tn y.tc,aS tok),(.slice y.aa y.an y.ac,aS at')]) (p:=fun _=>True) [2,3,1] ⟨ta,tn,tc,tb,aa,at'.length,ac,oa,ops.length,oc⟩ rfl (by simp) trivial)
  exact⟨_,s2.ret (by simp) [0,1] [] rfl rfl,.inr ⟨nc,rfl⟩⟩
 cases rm with
 | true=>
  try simp only[aQ]
  refine Ya [zR 10] [42,33,41] [zV 5 .nilIface] ?_
  refine aC ?_
  refine Zs [zR 0,zR 1] [] [zB 44 false] ?_
  refine cF ?_
  refine aG (aq ?_)
  refine Zs [zR 0,.rd 1 [.o 2 none] 0 0] [44,5] [zB 47 true] ?_
  refine gR ?_
  refine jS [(0,true),(1,true),(2,true),(3,true),(4,true),(5,true),(6,true),(7,true),(8,true),(9,true),(10,true),(11,true),(12,true),(13,true),(14,true),(15,true),(16,true),(17,true),(18,false),(19,true),(20,true),(21,true),(22,true),(23,true)] [(18,[])] ?_
  refine Ya (bh 0 3++[.rd 3 [.o 0 none] 0 0,zR 4,zR 5,.rd 6 [.o 1 none] 0 0,zR 7,.rd 8 [.o 2 none] 0 0,zR 9,.rd 10 [.o 2 none] 0 0]++bh 11 14++[.rd 14 [.o 0 none] 0 0,zR 15,zR 16,.rd 17 [.o 1 none] 0 0]) [47] [zP 55 pb,zV 57 (.string ky),zV 59 (.string tx),zS 66 aa at'.length ac] ?_
  refine cn [] [0] 74 #[.pointer (some (⟨pb,0,none⟩)),.string ky,.string tx,.slice aa at'.length ac] (some 67) (by kernel_rfl) (by kernel_rfl) (by decide) (fun w S M hP hG _=>?_)
  refine(Fx (hG.at 0 rfl) hP hx hn (hG.at 3 rfl) ja).mono ?_
  rintro e4 w4 (⟨hf,hR⟩|⟨hf,ua,un,uc,hR⟩)
  ·have he:jZ x at' ops ⟨z,ky,kd,tx,nn,true,[]⟩=iR x ky at':=by rw[jZ,if_neg h12,if_neg (by simp[nc]),if_pos rfl]
   have ho:kH x at' ops ⟨z,ky,kd,tx,nn,true,[]⟩=ops:=by rw[kH,he,if_neg hf]
   rw[he,ho]
   refine⟨_,_,_,hR,?_⟩
   try simp only[aQ]
   refine Ya (bh 19 24) [67,55,57,59,66] [zS 6 none 0 0,zV 7 (.iface 390 (.pointer (some (er (iR x ky at')))))] ?_
   try simp only[aQ]
   refine aC ?_
   try simp only[aQ]
   refine aq ?_
   try simp only[aQ]
   refine aq ?_
   try simp only[aQ]
   refine Za [zR 0,zR 1] [] [zB 71 true] ?_
   try simp only[aQ]
   refine gR ?_
   try simp only[aQ]
   refine aq ?_
   try simp only[aQ]
   refine Za [zR 0,zR 1] [71,7] [zV 4 (.iface 390 (.pointer (some (er (iR x ky at')))))] ?_
   try simp only[aQ]
   refine Yr [[]] (.iface 390 (.pointer (some (er (iR x ky at'))))) fun a w s=>?_
   have s2:=((s.dY 0 rfl).dY 0 rfl).jz (dH (C:=fun y:j7=>[bL sb (oS (some ⟨y.tb,0,none⟩) (.slice y.ta y.tn y.tc)),bL y.tb (ot pb (.slice y.aa y.an y.ac) (.slice y.oa y.on y.oc)),aT (.slice y.oa y.on y.oc) 55 7 (ops.map fe)]) (G:=fun y:j7=>[(.slice y.ta y.tn y.tc,aS tok),(.slice y.aa y.an y.ac,aS at')]) (p:=fun _=>True) [2,3,0] ⟨ta,tn,tc,tb,aa,at'.length,ac,oa,ops.length,oc⟩ rfl (by simp) trivial)
   exact⟨_,s2.ret (by simp) [0,1] [] rfl rfl,.inr ⟨hf,rfl⟩⟩
  ·refine⟨_,_,_,hR,?_⟩
   have he:jZ x at' ops ⟨z,ky,kd,tx,nn,true,[]⟩=0:=by rw[jZ,if_neg h12,if_neg (by simp[nc]),if_pos rfl,hf]
   have ho:kH x at' ops ⟨z,ky,kd,tx,nn,true,[]⟩=ops++[xw x at' ops ⟨z,ky,kd,tx,nn,true,[]⟩]:=by rw[kH,if_pos he]
   rw[he,ho,show xw x at' ops ⟨z,ky,kd,tx,nn,true,[]⟩=⟨ops.length,ky,kd,tx,nn,true,(oH ky tx (aW x.L ky at')).take 60⟩ from rfl]
   generalize oH ky tx (aW x.L ky at')=D
   try simp only[aQ]
   refine Ya (bh 19 24) [67,55,57,59,66] [zS 6 ua un uc,zV 7 .nilIface] ?_
   try simp only[aQ]
   refine aC ?_
   try simp only[aQ]
   refine aq ?_
   try simp only[aQ]
   refine aq ?_
   try simp only[aQ]
   refine Za [zR 0,zR 1] [] [zB 71 false] ?_
   try simp only[aQ]
   refine cF ?_
   try simp only[aQ]
   refine aG ?_
   try simp only[aQ]
   refine Nm [aT (.slice oa ops.length oc) 55 7 (aj fe ops),(bQ pb x)] ?_
   refine b9 (jY 4 rfl) fun _ hun=>?_
   rw[aA]at hun
   subst hun
   refine b9 (C7 4 rfl) fun _ hcap=>?_
   have hk:(if (60:Int)<(D.length:Int)then (60:Int)else (D.length:Int)).toNat=(D.take 60).length:=by
    rw[bp]
    split <;> omega
   have JC:(D.map bK).take (D.take 60).length=(D.take 60).map bK:=by
    rw[bp,←jt]
    congr 1
    rw[List.take_eq_take_iff]
    omega
   refine Zn (bh 0 4++[.rd 4 [] 0 4,zR 5,.wr 6 [.o 2 none] 0]) [(6,[2])] [71,6,7] (fun _=>[]) (fun _=>[(2,.cells #[nI (↑ops.length:Int),.string ky,nI kd,.string tx,nI nn,.bool true,.slice ua ((if 60<(↑D.length:Int)then 60 else (↑D.length:Int)).toNat) uc] 55 (0,0))]) o0 (fun _=>(oC (show 0≤if (60:Int)<(↑D.length:Int)then (60:Int)else (↑D.length:Int) from by omega) (oC (show(if (60:Int)<(↑D.length:Int)then (60:Int)else (↑D.length:Int))≤(↑uc:Int) from by omega) oN))) (fun _=>?_)
   refine aq ?_
   refine Nm [aT (.slice oa ops.length oc) 55 7 (aj fe ops),(bQ pb x)] ?_
   rw[hk]
   refine bH (fB (v:=.slice ua (D.take 60).length uc) (d:=.sl 3 ((D.take 60).map bK)) fun w S hG=>?_) ?_
   ·have:=(hG (.slice ua D.length uc,.sl 3 (D.map bK)) (by simp)).take (i:=(D.take 60).length) (c':=uc) (by rw[bp];omega) hcap
    rwa[JC]at this
   refine Nm [aT (.slice oa ops.length oc) 55 7 (aj fe ops),(bQ pb x)] ?_
   try simp only[aQ]
   refine jT [(0,true),(1,true),(2,true),(3,true),(4,true),(5,true),(6,true),(7,true),(8,true),(9,true),(10,true),(11,true),(12,false),(13,false),(14,true),(15,true),(16,false)] [(13,[]),(16,[1])] ?_
   refine Ym (bh 0 3++[.rd 3 [.o 0 none] 0 0]++bh 4 7++[.rd 7 [.o 0 none] 0 0,zR 8,zR 9,.rd 10 [.o 1 none] 0 0,.rd 11 (ek 2 7) 0 0,.wr 12 [] 0]) [3,0] (fun dy=>[zP 82 tb,zS 89 oa ops.length oc,zS 91 (sA (dy 0) 0) 1 1]) o0 (fun dy=>[(dy 0,.cells #[nI (↑ops.length:Int),.string ky,nI kd,.string tx,nI nn,.bool true,.slice ua ((bZ 60 D).length) uc] 55 (0,0))]) [(13,[]),(16,[1])] (fun dy=>?_)
   refine eY 0 33 55 7 88 (.agg #[.int .i64 0,.string (aL #[]),.int .i64 0,.string (aL #[]),.int .i64 0,.bool false,.slice none 0 0]) (a0:=oa) (len:=ops.length) (iB:=oc) (ax:=(some (⟨dy 0,0,none⟩))) (m:=1) (c:=1) (dst:=(some 92)) [⟨ops.length,ky,kd,tx,nn,true,D.take 60⟩] (by kernel_rfl) (by kernel_rfl) (by kernel_rfl) (by kernel_rfl) rfl (by decide) rfl (fun _ _ _ s=>fK s 3 rfl rfl ⟨.inl ⟨rfl,rfl⟩,⟨.inl ⟨rfl,rfl⟩,⟨.inl ⟨rfl,rfl⟩,⟨.inl ⟨rfl,rfl⟩,⟨.inl ⟨rfl,rfl⟩,⟨.inl ⟨rfl,rfl⟩,⟨.inr (.inl (ae (i:=5) rfl)),trivial⟩⟩⟩⟩⟩⟩⟩) (by simp only[maxLen];omega) (by omega) (fun gq gp=>?_)
   try simp only[aQ]
   refine Ym [zR 14,zR 15,.wr 16 [.o 1 none] 0] [92,82,89,91] (fun _=>[]) (fun _=>[(1,.cells #[.pointer (sA pb 0),.slice aa at'.length ac,.slice gq (ops.length+1) gp] 184 (0,0))]) o0 [] (fun _=>?_)
   try simp only[aQ]
   refine aC ?_
   try simp only[aQ]
   refine aq ?_
   try simp only[aQ]
   refine Za [zR 0] [] [] ?_
   try simp only[aQ]
   refine Yr [[]] (.nilIface) fun a w s=>?_
   have s2:=((s.dY 0 rfl).dY 0 rfl).jz (dH (C:=fun y:j7=>[bL sb (oS (some ⟨y.tb,0,none⟩) (.slice y.ta y.tn y.tc)),bL y.tb (ot pb (.slice y.aa y.an y.ac) (.slice y.oa y.on y.oc)),aT (.slice y.oa y.on y.oc) 55 7 ((ops++[(⟨ops.length,ky,kd,tx,nn,true,D.take 60⟩:fP)]).map fe)]) (G:=fun y:j7=>[(.slice y.ta y.tn y.tc,aS tok),(.slice y.aa y.an y.ac,aS at')]) (p:=fun _=>True) [2,3,1] ⟨ta,tn,tc,tb,aa,at'.length,ac,gq,ops.length+1,gp⟩ rfl (by simp) trivial)
   exact⟨_,s2.ret (by simp) [0,1] [] rfl rfl,.inl ⟨rfl,rfl⟩⟩
 | false=>
  have he:jZ x at' ops ⟨z,ky,kd,tx,nn,false,[]⟩=0:=by rw[jZ,if_neg h12,if_neg (by simp[nc]),if_neg (by simp)]
  have ho:kH x at' ops ⟨z,ky,kd,tx,nn,false,[]⟩=ops++[xw x at' ops ⟨z,ky,kd,tx,nn,false,[]⟩]:=by rw[kH,if_pos he]
  rw[he,ho,show xw x at' ops ⟨z,ky,kd,tx,nn,false,[]⟩=⟨ops.length,ky,kd,tx,nn,false,[]⟩ from rfl]
  try simp only[aQ]
  refine Ya [zR 10] [42,33,41] [zV 5 .nilIface] ?_
  refine aC ?_
  refine Zs [zR 0,zR 1] [] [zB 44 false] ?_
  refine cF ?_
  refine aG (aq ?_)
  refine Zs [zR 0,.rd 1 [.o 2 none] 0 0] [44,5] [zB 47 false] ?_
  refine cF ?_
  refine aG ?_
  refine jS [(0,true),(1,true),(2,true),(3,true),(4,true),(5,true),(6,true),(7,true),(8,true),(9,true),(10,true),(11,true),(12,false),(13,false),(14,true),(15,true),(16,false)] [(13,[]),(16,[1])] ?_
  refine Ym (bh 0 3++[.rd 3 [.o 0 none] 0 0]++bh 4 7++[.rd 7 [.o 0 none] 0 0,zR 8,zR 9,.rd 10 [.o 1 none] 0 0,.rd 11 (ek 2 7) 0 0,.wr 12 [] 0]) [47,3,0] (fun dy=>[zP 82 tb,zS 89 oa ops.length oc,zS 91 (sA (dy 0) 0) 1 1]) o0 (fun dy=>[(dy 0,.cells #[nI (↑ops.length:Int),.string ky,nI kd,.string tx,nI nn,.bool false,.slice none 0 0] 55 (0,0))]) [(13,[]),(16,[1])] (fun dy=>?_)
  refine eY 1 33 55 7 88 (.agg #[.int .i64 0,.string (aL #[]),.int .i64 0,.string (aL #[]),.int .i64 0,.bool false,.slice none 0 0]) (a0:=oa) (len:=ops.length) (iB:=oc) (ax:=(some (⟨dy 0,0,none⟩))) (m:=1) (c:=1) (dst:=(some 92)) [⟨ops.length,ky,kd,tx,nn,false,[]⟩] (by kernel_rfl) (by kernel_rfl) (by kernel_rfl) (by kernel_rfl) rfl (by decide) rfl (fun _ _ _ s=>fK s 3 rfl rfl ⟨.inl ⟨rfl,rfl⟩,⟨.inl ⟨rfl,rfl⟩,⟨.inl ⟨rfl,rfl⟩,⟨.inl ⟨rfl,rfl⟩,⟨.inl ⟨rfl,rfl⟩,⟨.inl ⟨rfl,rfl⟩,⟨.inr (.inr ⟨_,_,_,rfl,rfl⟩),trivial⟩⟩⟩⟩⟩⟩⟩) (by simp only[maxLen];omega) (by omega) (fun gq gp=>?_)
  try simp only[aQ]
  refine Ym [zR 14,zR 15,.wr 16 [.o 1 none] 0] [92,82,89,91] (fun _=>[]) (fun _=>[(1,.cells #[.pointer (sA pb 0),.slice aa at'.length ac,.slice gq (ops.length+1) gp] 184 (0,0))]) o0 [] (fun _=>?_)
  try simp only[aQ]
  refine aC ?_
  try simp only[aQ]
  refine aq ?_
  try simp only[aQ]
  refine Za [zR 0] [] [] ?_
  try simp only[aQ]
  refine Yr [[]] (.nilIface) fun a w s=>?_
  have s2:=((s.dY 0 rfl).dY 0 rfl).jz (dH (C:=fun y:j7=>[bL sb (oS (some ⟨y.tb,0,none⟩) (.slice y.ta y.tn y.tc)),bL y.tb (ot pb (.slice y.aa y.an y.ac) (.slice y.oa y.on y.oc)),aT (.slice y.oa y.on y.oc) 55 7 ((ops++[(⟨ops.length,ky,kd,tx,nn,false,[]⟩:fP)]).map fe)]) (G:=fun y:j7=>[(.slice y.ta y.tn y.tc,aS tok),(.slice y.aa y.an y.ac,aS at')]) (p:=fun _=>True) [2,3,1] ⟨ta,tn,tc,tb,aa,at'.length,ac,gq,ops.length+1,gp⟩ rfl (by simp) trivial)
  exact⟨_,s2.ret (by simp) [0,1] [] rfl rfl,.inl ⟨rfl,rfl⟩⟩
end Fo
end Go.Proofs.YtmkapocibaojdaaGreatDoor
end
