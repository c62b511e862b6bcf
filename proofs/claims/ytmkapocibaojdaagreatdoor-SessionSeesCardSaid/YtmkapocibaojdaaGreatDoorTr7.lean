/- Part 7 of the texts of a claim: OfR Tx17 Live Tx18 Sorted SetP. -/
import Derived.Test.YtmkapocibaojdaaGreatDoorShelf
import Derived.Test.YtmkapocibaojdaaGreatDoorTr6
open Array renaming getD_eq_getD_getElem? → dB, getElem?_eq_getElem → fR, getElem?_eq_some_iff → bJ, getElem?_toList → kx
open Bool renaming and_eq_true → bT, not_eq_true' → kD, or_eq_true → j8
open ByteArray renaming mk → aL
open Classical renaming byContradiction → bU
open List renaming any_eq_true → gL, append_assoc → bY, append_nil → bf, eq_nil_of_length_eq_zero → ct, eraseIdx_append_of_length_le → dM, eraseIdx_cons_zero → fD, filter_append → dm, filter_eq_nil_iff → gz, flatten_append → bj, foldl_cons → iw, getElem?_cons_zero → aV, getElem?_eq_getElem → ak, getElem?_eq_some_iff → ai, getElem?_map → aF, getElem?_of_mem → aJ, getElem?_take → cL, length_eq_zero_iff → eV, length_filter_le → cH, length_map → aA, length_take → bp, map → aj, map_append → bw, map_congr_left → cB, map_cons → cj, map_eq_nil_iff → cM, map_map → fc, map_nil → gy, mem_append → au, mem_append_left → ig, mem_append_right → fW, mem_cons → cE, mem_filter → aP, mem_filterMap → dV, mem_flatMap → gM, mem_map → aB, mem_mergeSort → me, mem_of_getElem? → ae, mem_singleton → ay, mergeSort_perm → gB, nodup_append → be, pairwise_cons → gN, pairwise_map → fU, range → bD, take → bZ, take_add_one → cV, take_of_length_le → br
open List.Pairwise renaming nil → jq
open Nat renaming eq_zero_or_pos → iX, le_refl → aX, le_trans → aZ, sub_self → ec, zero_le → eo
open Option renaming map_eq_some_iff → aI
open Option.some renaming injEq → az
open Prod.mk renaming injEq → aH
section
namespace Go.Proofs.YtmkapocibaojdaaGreatDoor
open Go Go.Sx
theorem qA {o:fP} {p:Int} (h:fE o p=0):dS o.key=true∧(o.kind=1∨o.kind=2∨o.kind=3)∧mC o=true∧o.text.size≤60∧-1099511627776≤o.n∧o.n≤1099511627776∧o.bF.length≤60∧nl p o.bF=false:=by
 unfold fE at h
 split at h
 ·cases h
 ·split at h
  ·cases h
  ·rename_i h2
   split at h
   ·cases h
   ·rename_i h3
    split at h
    ·cases h
    ·rename_i h4
     split at h
     ·cases h
     ·rename_i h5
      split at h
      ·cases h
      ·rename_i h6
       exact⟨by simpa using h2,by omega,by simpa using h4,by omega,by omega,by omega,by omega,by simpa using h6⟩
theorem sS {l:List fP} {p:Int} (h:(j5 l p l.length 0).code=0):∀j,j<l.length→ik l p j=0:=by
 intro j
 induction j using Nat.strongRecOn with
 | ind j ih=>
  intro hj
  rcases iX (ik l p j)with h0|h0
  ·exact h0
  ·have:=(kf (l:=l) (places:=p) l.length 0 j (eo _) fun i _ hi=>ih i hi (by omega)).2 (by omega) (by omega)
   rw[this]at h
   exact h
theorem sj {c:bO} (h:(aY c).code=0):∀o∈c.ops,fE o c.when.length=0:=fun o ho=>by
 have hr:=iy h
 have h1:=sS (l:=c.ops) (p:=c.when.length) (by rw[hr.op];exact h)
 obtain⟨j,hj⟩:=aJ ho
 have h2:=h1 j (ai.1 hj).1
 rcases iX (fE o c.when.length)with h0|h0
 ·exact h0
 ·rw[o7 hj (by omega)]at h2
  omega
theorem FD {key:ByteArray} {l:List bO} {x:bE} (h:x∈opsOf key l):(∃c∈l,∃o∈c.ops,x=eD c o)∧x.o.key=key:=by
 have h1:x∈nN key l:=(gB _ _).mem_iff.1 h
 unfold nN at h1
 rw[aP]at h1
 obtain⟨h2,h3⟩:=h1
 obtain⟨h4,_⟩:=nh h2
 unfold bM at h4
 obtain⟨c,hc,h5⟩:=gM.1 h4
 obtain⟨o,ho,rfl⟩:=aB.1 h5
 exact⟨⟨c,hc,o,ho,rfl⟩,by simpa using h3⟩
theorem sB {key:ByteArray} {l:List bO} {x:bE} (h:x∈eL key l):x∈opsOf key l:=(aP.1 h).1
theorem I4 {key:ByteArray} {l:List bO} (h:(cZ key l).code=0):dS key=true∧∀j,j<l.length→gX l j=0:=by
 unfold cZ at h
 split at h
 ·cases h
 ·rename_i h1
  exact⟨by simpa using h1,xJ h⟩
theorem zA {key:ByteArray} {l:List bO} (h:(cZ key l).code=0) {c:bO} (hc:c∈l):(aY c).code=0:=by
 obtain⟨j,hj⟩:=aJ hc
 exact(td hj ((I4 h).2 j (ai.1 hj).1)).1
theorem uT {key:ByteArray} {l:List bO} (h:(cZ key l).code=0) {x:bE} (hx:x∈opsOf key l):∃p:Nat,fE x.o p=0:=by
 obtain⟨⟨c,hc,o,ho,rfl⟩,_⟩:=FD hx
 exact⟨c.when.length,sj (zA h hc) o ho⟩
theorem sx {key:ByteArray} {l:List bO} (h:(cZ key l).code=0):(opsOf key l).length≤12*l.length:=by
 have h1:(opsOf key l).length=(nN key l).length:=(gB _ _).length_eq
 have h2:=qC key (bM l)
 have h3:=rT fun c hc=>iy (zA h (l:=l) hc)
 have h4:nN key l=iA key (bM l):=rfl
 rw[h1,h4]
 omega
theorem vC {key:ByteArray} {l:List bO} (h:(cZ key l).code=0):(eL key l).length≤12*l.length:=
 aZ (cH _ _) (sx h)
theorem y7 (p:List bE) (x:bE):lJ (p++[x])=x.o.text:=by simp[lJ]
theorem zn (p:List bE) (x:bE):ko (p++[x])=ko p+x.o.n:=by simp[ko]
theorem JW {p:List bE} (h:∀x∈p,-1099511627776≤x.o.n∧x.o.n≤1099511627776) (i:Nat):-(1099511627776*i)≤ko (p.take i)∧ko (p.take i)≤1099511627776*i:=by
 induction i with
 | zero=>simp[ko]
 | succ i ih=>
  cases hx:p[i]? with
  | none=>
   rw[cV,hx]
   simp only[Option.toList_none,bf]
   omega
  | some x=>
   rw[cV,hx]
   have:=h x (ae hx)
   simp only[Option.toList_some,zn]
   omega
abbrev w8 (v:Lf) (s:Value):Value:=.agg #[.int .i64 v.kind,.string v.text,.int .i64 v.n,s]
abbrev CZ:Value:=.agg #[.int .i64 0,.string (aL #[]),.int .i64 0,.slice none 0 0]
structure Oh where
 i:Int
 text:ByteArray
 n:Int
set_option maxHeartbeats 4000000 in
theorem SB {w:World} {S:Nat→Prop} {er:Nat→Addr} {eb:Nat→Array Value×TypeId} {a:Option Addr} {n c:Nat} {key:ByteArray} {l:List bO} (hC:cm w S .nilIface (dC er eb)) (h:cm w S (.slice a n c) (.sl 3 (l.map eW))) (hl:l.length≤300000) (ja:∀x∈l,x.when.length≤1000000) (kS:∀x∈l,x.ops.length≤1000000) (Cj:kindOf (opsOf key l)≠3) :
  Calls Tryz.prog 105 #[.string key,.slice a n c] w fun e w'=>((cZ key l).code≠0∧D7 w S w' e er (cZ key l) fun v=>.tuple #[CZ,v])∨((cZ key l).code=0∧cQ [] w S w' e (.tuple #[w8 (Sx.valOf key l) (.slice none 0 0),.nilIface]) [] []):=by
 refine jL Tryz.func105 L3 (args:=[.string key,.slice a n c]) (G:=[(_,dC er eb),(_,.sl 3 (l.map eW))]) (by kernel_rfl) (.cons hC (.cons h (.nil _ _))) ?_
 refine Zv [.wr 0 [] 0,zR 1] [] [] (fun aN=>[zP 4 (aN 0),zV 5 .nilIface]) o0 (fun aN=>[(aN 0,.cells #[nI 0,.string (aL #[]),nI 0,.slice none 0 0] 64 (0,0))]) (fun aN=>?_)
 refine jS [(0,true),(1,true),(2,false),(3,true),(4,true),(5,true),(6,true),(7,true)] [] ?_
 refine Ya [zR 0,zR 1] [0,1] [zV 13 (.string key),zS 14 a n c] ?_
 refine Yc 159 #[.string key,.slice a n c] (some 15) fun w S hG=>?_
 refine(Mc (hG.at 0 rfl) (hG.at 1 rfl) hl ja kS).mono ?_
 rintro e1 w1 (⟨hc,⟨hat,v,hR,hv⟩|⟨zb,hat,pb,hR⟩⟩|⟨hc,a1,n1,c1,hR⟩)
 ·refine⟨_,_,_,hR,?_⟩
  rcases hv with ⟨nc,rfl⟩|⟨nc,rfl⟩
  ·exact absurd nc hc
  ·try simp only[aQ]
   refine Ya (bh 3 8) [15,13,14] [zS 6 none 0 0,zV 7 (.iface 390 (.pointer (some (er (cZ key l).code))))] ?_
   refine aC (aq ?_)
   refine Zs [zR 0,zR 1] [] [zB 19 true] ?_
   refine gR ?_
   refine Zv [zR 0,zR 1,.wr 2 (ek 0 4) 0,zR 3] [(2,[0])] [19,7] (fun _=>[zV 5 (.iface 390 (.pointer (some (er (cZ key l).code))))]) o0 o0 (fun _=>?_)
   refine Yr [(ek 0 4),[]] (.tuple #[.agg #[nI 0,.string (aL #[]),nI 0,.slice none 0 0],.iface 390 (.pointer (some (er (cZ key l).code)))]) fun a w s=>?_
   exact .inl ⟨hc,.inl ⟨hat,_,s.ret (by simp) [] [] rfl rfl,.inr ⟨nc,rfl⟩⟩⟩
 ·refine⟨_,_,_,hR,?_⟩
  try simp only[aQ]
  refine Ya (bh 3 8) [15,13,14] [zS 6 none 0 0,zV 7 (.iface 202 (.pointer (sA pb 0)))] ?_
  refine aC (aq ?_)
  refine Zs [zR 0,zR 1] [] [zB 19 true] ?_
  refine gR ?_
  refine Zv [zR 0,zR 1,.wr 2 (ek 0 4) 0,zR 3] [(2,[0])] [19,7] (fun _=>[zV 5 (.iface 202 (.pointer (sA pb 0)))]) o0 o0 (fun _=>?_)
  refine Yr [(ek 0 4),[]] (.tuple #[.agg #[nI 0,.string (aL #[]),nI 0,.slice none 0 0],.iface 202 (.pointer (sA pb 0))]) fun a w s=>?_
  exact .inl ⟨hc,.inr ⟨zb,hat,_,s.ret (by simp) [] [2] rfl rfl⟩⟩
 ·refine⟨_,_,_,hR,?_⟩
  have hlo:=sx hc
  have hlk:=vC hc
  have yf:∀x∈eL key l,-1099511627776≤x.o.n∧x.o.n≤1099511627776:=fun x hx=>by
   obtain⟨p,hp⟩:=uT hc (sB hx)
   have:=qA hp
   omega
  try simp only[aQ]
  refine Ya (bh 3 8) [15,13,14] [zS 6 a1 n1 c1,zV 7 .nilIface] ?_
  refine aC (aq ?_)
  refine Zs [zR 0,zR 1] [] [zB 19 false] ?_
  refine cF ?_
  refine aG ?_
  refine jS [(0,true),(1,false),(2,true),(3,true),(4,true),(5,true),(6,true)] [] ?_
  refine Ya [zR 0] [19,7] [zS 23 a1 n1 c1] ?_
  refine Yc 160 #[.slice a1 n1 c1] (some 24) fun w S hG=>?_
  refine(GX (hG.at 2 rfl) (by omega)).mono ?_
  rintro e2 w2 ⟨a2,n2,c2,hR⟩
  refine⟨_,_,_,hR,?_⟩
  try simp only[aQ]
  refine Ya (bh 2 7) [24,23] [zS 6 a2 n2 c2,zI 8 (kindOf (opsOf key l))] ?_
  refine aC ?_
  refine Zv [zR 0,zR 1,.wr 2 [] 0,.wr 3 (ek 1 4) 0] [(3,[])] [] (fun dy=>[zP 9 (dy 0)]) o0 (fun dy=>[(dy 0,.cells #[nI (kindOf (opsOf key l)),.string (aL #[]),nI 0,.slice none 0 0] 64 (0,0))]) (fun dy=>?_)
  refine aq ?_
  refine Zs (bh 0 3) [] [zS 29 a2 n2 c2,zI 30 (↑n2:Int),zI 31 0] ?_
  refine aM ?_
  refine b9 (jY 3 rfl) fun _ rF=>?_
  rw[aA]at rF
  have Nc:n2=(eL key l).length:=rF
  subst Nc
  have hA:j6 (opsOf key l)=eL key l:=rfl
  rw[hA]
  clear rF
  generalize hK:kindOf (opsOf key l)=K at Cj
  have hval:Sx.valOf key l=⟨K,if K=1 then lJ (eL key l)else aL #[],if K=2 then ko (eL key l)else 0,[]⟩:=by
   simp only[Sx.valOf,hK,if_neg Cj]
  refine cU (fun y:Oh=>[zP 4 (aN 0),zV 5 .nilIface,zS 6 a2 ((eL key l).length) c2,zI 8 K,zP 9 (dy 0),zS 29 a2 ((eL key l).length) c2,zI 30 ((↑(eL key l).length:Int)),zI 31 y.i]) (fun y:Oh=>[(aN 0,.cells #[nI 0,.string (aL #[]),nI 0,.slice none 0 0] 64 (0,0)),(dy 0,.cells #[nI K,.string y.text,nI y.n,.slice none 0 0] 64 (0,0))]) (fun y:Oh=>[]) (fun y:Oh=>[(.nilIface,(dC er eb)),(.slice a n c,(D.sl 3 (aj eW l))),(.slice a1 n1 c1,(D.sl 11 (aj gg (opsOf key l)))),(.slice a2 ((eL key l).length) c2,(D.sl 11 (aj gg (eL key l))))]) (fun y:Oh=>((eL key l).length - y.i).toNat) (fun y:Oh=>(0≤y.i∧y.i≤(eL key l).length∧y.text=(if K=1 then lJ ((eL key l).take y.i.toNat)else aL #[])∧y.n=(if K=2 then ko ((eL key l).take y.i.toNat)else 0))) ⟨0,aL #[],0⟩ [4,5,6,8,9,29,30,31] [0,1] [] [0,1,2,3] ?_ (by kernel_rfl) rfl rfl rfl ?_
  ·exact⟨by simp,by simp,by split <;> rfl,by split <;> rfl⟩
  rintro⟨i,tx,m⟩ ⟨hi0,hi,P0,hm⟩
  dsimp only at hi0 hi P0 hm ⊢
  refine Zs [zR 0] [] [zB 32 (decide (i<(↑(eL key l).length:Int)))] ?_
  refine aq ?_
  refine cC (t:=decide (i<(↑(eL key l).length:Int))) (fun hlt=>?_) (fun hlt=>?_)
  ·have fa:i<(eL key l).length:=by simpa using hlt
   obtain⟨x,hx⟩:∃x,(eL key l)[i.toNat]?=some x:=⟨_,ak (by omega)⟩
   have X0:=yf x (ae hx)
   have hs:=JW yf i.toNat
   refine j0 3 rfl i.toNat (dD hx) (by kernel_rfl) (fun b1 fu uf vi vm fg cJ ha1 cP=>?_)
   cases ha1
   have cg:=oO (cP 0 _ rfl)
   have gJ:=cP 1 _ rfl
   have gV:=cP 2 _ rfl
   have jH:=cP 3 _ rfl
   have jG:=cP 4 _ rfl
   have jF:=cP 5 _ rfl
   have jE:=cP 6 _ rfl
   have lC:=cP 7 _ rfl
   have lB:=cP 8 _ rfl
   have mM:=cP 9 _ rfl
   have kA:=cP 10 _ rfl
   by_cases h1:K=1
   ·have h2:¬K=2:=by omega
    rw[if_neg h2]at hm
    try simp only[aQ]
    refine aG (aq (aM ?_))
    refine Zu [.rd 0 [] 0 2,.rd 1 [.r 0 (some (nI x.o.no)),.r 0 (some (.string x.o.key)),.r 0 (some (nI x.o.kind)),.r 0 (some (.string x.o.text)),.r 0 (some (nI x.o.n)),.r 0 (some (.bool x.o.remove)),.r 0 (some (.slice (fg,cJ).fst ((aj bK x.o.bF).length) cJ)),.r 0 (some (nI x.d.place)),.r 0 (some (nI x.d.time)),.r 0 (some (nI x.d.no)),.r 0 (some (nI x.w))] 0 0,.wr 2 [] 0,.wr 3 (ek 2 11) 0] [(3,[])] [32] (fun eR=>[zP 11 (eR 0)]) o0 (fun eR=>[(eR 0,.cells #[nI x.o.no,.string x.o.key,nI x.o.kind,.string x.o.text,nI x.o.n,.bool x.o.remove,.slice (fg,cJ).fst ((aj bK x.o.bF).length) cJ,nI x.d.place,nI x.d.time,nI x.d.no,nI x.w] 271 (0,0))]) (fun eR=>(oC hi0 (oC fa (oC cg (oC gJ (oC gV (oC jH (oC jG (oC jF (oC jE (oC lC (oC lB (oC mM (oC kA oN)))))))))))))) (fun eR=>?_)
    refine Zs [zR 0] [] [zI 35 K] ?_
    refine aM ?_
    refine Zt [.rd 0 [] 0 6,zR 1] [] [zB 36 true] (oC (show(K==(1:Int))=true from by simp;omega) oN) ?_
    refine gR ?_
    refine Zm [zR 0,zR 1,.rd 2 [.o 2 none] 0 0,zR 3,.wr 4 [.o 1 none] 0] [(4,[1])] [36] (fun _=>[]) (fun _=>[(1,.cells #[nI K,.string x.o.text,nI m,.slice none 0 0] 64 (0,0))]) o0 (fun _=>?_)
    refine eu (eu ?_)
    refine Zp [.rd 0 [] 0 1,zR 1] [] [zI 31 (i+1)] (oC (show IntKind.i64.wrap (i+1)=i+1 from wrap_i64 (by omega) (by omega)) oN) ?_
    refine bC ⟨i+1,x.o.text,m⟩ [4,5,6,8,9,29,30,31] [0,1] [] [0,1,2,3] ?_ ?_ (by kernel_rfl) rfl rfl rfl
    ·refine⟨by simp only;omega,by simp only;omega,?_,?_⟩
     ·dsimp only
      rw[if_pos h1,←dz hi0 hx,y7]
     ·dsimp only
      rw[if_neg h2,hm]
    ·simp only
     omega
   ·by_cases h2:K=2
    ·rw[if_pos h2]at hm
     have hmb:-9223372036854775808≤m+x.o.n∧m+x.o.n≤9223372036854775807:=by omega
     try simp only[aQ]
     refine aG (aq (aM ?_))
     refine Zu [.rd 0 [] 0 2,.rd 1 [.r 0 (some (nI x.o.no)),.r 0 (some (.string x.o.key)),.r 0 (some (nI x.o.kind)),.r 0 (some (.string x.o.text)),.r 0 (some (nI x.o.n)),.r 0 (some (.bool x.o.remove)),.r 0 (some (.slice (fg,cJ).fst ((aj bK x.o.bF).length) cJ)),.r 0 (some (nI x.d.place)),.r 0 (some (nI x.d.time)),.r 0 (some (nI x.d.no)),.r 0 (some (nI x.w))] 0 0,.wr 2 [] 0,.wr 3 (ek 2 11) 0] [(3,[])] [32] (fun eR=>[zP 11 (eR 0)]) o0 (fun eR=>[(eR 0,.cells #[nI x.o.no,.string x.o.key,nI x.o.kind,.string x.o.text,nI x.o.n,.bool x.o.remove,.slice (fg,cJ).fst ((aj bK x.o.bF).length) cJ,nI x.d.place,nI x.d.time,nI x.d.no,nI x.w] 271 (0,0))]) (fun eR=>(oC hi0 (oC fa (oC cg (oC gJ (oC gV (oC jH (oC jG (oC jF (oC jE (oC lC (oC lB (oC mM (oC kA oN)))))))))))))) (fun eR=>?_)
     refine Zs [zR 0] [] [zI 35 K] ?_
     refine aM ?_
     refine Zt [.rd 0 [] 0 7,zR 1] [] [zB 36 false] (oC (show(K==(1:Int))=false from by simp;omega) oN) ?_
     refine cF ?_
     refine Zt [.rd 0 [] 0 6,zR 1] [36] [zB 42 true] (oC (show(K==(2:Int))=true from by simp;omega) oN) ?_
     refine gR ?_
     refine Zn [zR 0,.rd 1 [.o 1 none] 0 0,zR 2,zR 3,.rd 4 [.o 2 none] 0 0,.rd 5 [] 0 1,zR 6,.wr 7 [.o 1 none] 0] [(7,[1])] [42] (fun _=>[]) (fun _=>[(1,.cells #[nI K,.string tx,nI (m+x.o.n),.slice none 0 0] 64 (0,0))]) o0 (fun _=>(oC (show IntKind.i64.wrap (m+x.o.n)=m+x.o.n from wrap_i64 (by omega) (by omega)) oN)) (fun _=>?_)
     refine eu (eu ?_)
     refine Zp [.rd 0 [] 0 1,zR 1] [] [zI 31 (i+1)] (oC (show IntKind.i64.wrap (i+1)=i+1 from wrap_i64 (by omega) (by omega)) oN) ?_
     refine bC ⟨i+1,tx,m+x.o.n⟩ [4,5,6,8,9,29,30,31] [0,1] [] [0,1,2,3] ?_ ?_ (by kernel_rfl) rfl rfl rfl
     ·refine⟨by simp only;omega,by simp only;omega,?_,?_⟩
      ·dsimp only
       rw[if_neg h1,P0,if_neg h1]
      ·dsimp only
       rw[if_pos h2,←dz hi0 hx,zn,hm]
     ·simp only
      omega
    ·try simp only[aQ]
     refine aG (aq (aM ?_))
     refine Zu [.rd 0 [] 0 2,.rd 1 [.r 0 (some (nI x.o.no)),.r 0 (some (.string x.o.key)),.r 0 (some (nI x.o.kind)),.r 0 (some (.string x.o.text)),.r 0 (some (nI x.o.n)),.r 0 (some (.bool x.o.remove)),.r 0 (some (.slice (fg,cJ).fst ((aj bK x.o.bF).length) cJ)),.r 0 (some (nI x.d.place)),.r 0 (some (nI x.d.time)),.r 0 (some (nI x.d.no)),.r 0 (some (nI x.w))] 0 0,.wr 2 [] 0,.wr 3 (ek 2 11) 0] [(3,[])] [32] (fun eR=>[zP 11 (eR 0)]) o0 (fun eR=>[(eR 0,.cells #[nI x.o.no,.string x.o.key,nI x.o.kind,.string x.o.text,nI x.o.n,.bool x.o.remove,.slice (fg,cJ).fst ((aj bK x.o.bF).length) cJ,nI x.d.place,nI x.d.time,nI x.d.no,nI x.w] 271 (0,0))]) (fun eR=>(oC hi0 (oC fa (oC cg (oC gJ (oC gV (oC jH (oC jG (oC jF (oC jE (oC lC (oC lB (oC mM (oC kA oN)))))))))))))) (fun eR=>?_)
     refine Zs [zR 0] [] [zI 35 K] ?_
     refine aM ?_
     refine Zt [.rd 0 [] 0 7,zR 1] [] [zB 36 false] (oC (show(K==(1:Int))=false from by simp;omega) oN) ?_
     refine cF ?_
     refine Zt [.rd 0 [] 0 7,zR 1] [36] [zB 42 false] (oC (show(K==(2:Int))=false from by simp;omega) oN) ?_
     refine cF ?_
     refine aG (eu (eu ?_))
     refine Zp [.rd 0 [] 0 1,zR 1] [42] [zI 31 (i+1)] (oC (show IntKind.i64.wrap (i+1)=i+1 from wrap_i64 (by omega) (by omega)) oN) ?_
     refine bC ⟨i+1,tx,m⟩ [4,5,6,8,9,29,30,31] [0,1] [] [0,1,2,3] ?_ ?_ (by kernel_rfl) rfl rfl rfl
     ·refine⟨by simp only;omega,by simp only;omega,?_,?_⟩
      ·dsimp only
       rw[if_neg h1,P0,if_neg h1]
      ·dsimp only
       rw[if_neg h2,hm,if_neg h2]
     ·simp only
      omega
  ·have vM:(eL key l).take i.toNat=eL key l:=br (by simp at hlt;omega)
   rw[vM]at P0 hm
   refine dO rfl ?_
   refine aq ?_
   refine Zt [zR 0,.rd 1 [] 0 7] [32,8,29,30,31] [zB 53 false] (oC (show(K==(3:Int))=false from by simp;omega) oN) ?_
   refine cF ?_
   refine aG ?_
   refine Zv [.rd 0 (ek 1 4) 0 0,.wr 1 (ek 0 4) 0,zR 2] [(1,[0])] [53,6,9] (fun _=>[]) (fun _=>[(0,.cells #[nI K,.string tx,nI m,.slice none 0 0] 64 (0,0))]) o0 (fun _=>?_)
   refine Yr [(ek 0 4),[]] (.tuple #[.agg #[nI K,.string tx,nI m,.slice none 0 0],.nilIface]) fun a w s=>?_
   rw[hval,←P0,←hm]
   exact .inr ⟨hc,s.ret (by simp) [] [] rfl rfl⟩
end Go.Proofs.YtmkapocibaojdaaGreatDoor
end
section
namespace Go.Sx
open Go Go.MapKept
def FE (n:Nat) (ops:Array Oper) (E:Env) (i:Nat):Option (TypeId×Value×Value×Bool×Option Tmp×List Ob):=
 match ops[i]? with
 | none=>none
 | some o=>if nT n o.dst&&!zX o.op then match (match o.guard with
   | none=>some (none,[])
   | some (j,want)=>(guardOf E ops j).map fun c=>(some (c,want),[.bb c want]))with
  | none=>none
  | some (cd,g)=>match jN E cd o.op.operands.toList with
   | none=>none
   | some q=>match o.op with
    | .lookup t m x c=>some (t,mG E m,mG E x,c,o.dst,g++q)
    | _=>none
  else none
def Cw (x:Option (TypeId×Value×Value×Bool×Option Tmp×List Ob)):Option (TypeId×Value×Value×Bool×Option Tmp)×(List Nat×List Bool×List (Option Nat))×Nat:=match x with
 | some y=>(some (y.1,y.2.1,y.2.2.1,y.2.2.2.1,y.2.2.2.2.1),AN y.2.2.2.2.2,(Kb y.2.2.2.2.2).length)
 | none=>(none,([],[],[]),0)
def As (x:Option (TypeId×Value×Value×Bool×Option Tmp×List Ob)):List Nat×List Bool×List (Option Nat):=match x with
 | some y=>AM y.2.2.2.2.2
 | none=>([],[],[])
theorem wz {x:Option (TypeId×Value×Value×Bool×Option Tmp×List Ob)} {src:TypeId} {dt v:Value} {cc:Bool} {dst:Option Tmp} (h:Cw x=(some (src,dt,v,cc,dst),As x,0)):∃p,x=some (src,dt,v,cc,dst,p)∧th p:=by
 cases x with
 | none=>simp[Cw]at h
 | some y=>
  obtain⟨a,b,c,d,e,p⟩:=y
  simp only[Cw,As,aH,az]at h
  obtain⟨⟨rfl,rfl,rfl,rfl,rfl⟩,h2,h3⟩:=h
  refine⟨p,rfl,oM p h2 ?_⟩
  rw[ct h3]
  trivial
section
variable {P:Program} {f:Func} [Pan f] {R:Act→World→Prop} {n:Nat} [Dfr n] {k:List oR} {E:Env} {h r:List (Nat×Obj)} {F:List (List Nat×World)} {Y:fQ}
theorem wm {ops:Array Oper} {i:Nat} {src:TypeId} {dt xv:Value} {cc:Bool} {dst:Option Tmp} {p:List Ob} (he:FE n ops E i=some (src,dt,xv,cc,dst,p)) (hp:th p) {a:Act} (hA:Ag n E a) :
  ∃o,ops[i]?=some o∧Region.wanted o (yielded ops a.tmps)=true∧nT n o.dst=true∧o.dst=dst∧∀w v w',(Instr.lookup src dt xv cc).run P w=.ok v w'→(execOp a.eval o).run P w=.ok (.value v) w':=by
 unfold FE at he
 split at he
 ·cases he
 rename_i o ho
 split at he
 case isFalse=>cases he
 rename_i hd
 simp only[bT,kD]at hd
 split at he
 ·cases he
 rename_i cd g hg
 split at he
 ·cases he
 rename_i q hq
 split at he
 case h_2=>cases he
 rename_i src' VZ x Yj hc
 simp only[az,aH]at he
 obtain⟨rfl,rfl,rfl,rfl,rfl,rfl⟩:=he
 obtain⟨hg1,wF⟩:=gj hp
 have rC:Region.wanted o (yielded ops a.tmps)=true∧∀c wn,cd=some (c,wn)→c=wn:=by
  cases hgd:o.guard with
  | none=>
   rw[hgd]at hg
   simp only[az,aH]at hg
   refine⟨by simp[Region.wanted,hgd],fun c wn h=>?_⟩
   rw[←hg.1]at h
   cases h
  | some y=>
   obtain⟨j,want⟩:=y
   rw[hgd]at hg
   obtain⟨c,hc,It⟩:=aI.1 hg
   simp only[aH]at It
   obtain⟨rfl,rfl⟩:=It
   have hy:=ki hA hc
   have vl:c=want:=hg1.1
   refine⟨by simp[Region.wanted,hgd,hy,vl],fun c' wn h=>?_⟩
   injection h with h
   injection h with h1 h2
   rw[←h1,←h2]
   exact vl
 refine⟨o,ho,rC.1,hd.1,rfl,fun w v w' hrun=>?_⟩
 have pF:execOp a.eval o=execOp (mG E) o:=execOp_congr o (fun cs b hc=>by have:=hd.2;rw[hc]at this;cases this) (fun x hx=>eG hA rC.2 _ _ hq wF x (by simpa using hx))
 rw[pF]
 unfold execOp
 simp only[hc,Sem.run_bind,hrun,Result.andThen_ok,Sem.run_pure]
theorem vX {id L0 i:Nat} {ck:Bool} {Wp:List (Nat×List Nat)} {rest:List (Nat×Bool)} (hn:Hn) (b t kt et:Nat) (ok:Value→Prop) (key z:Value) (c:Bool) (dst:Option Tmp) {es:Array MapEntry} {clock:Nat} {g:Value→Option Value}
  (he:Cw (FE n (bS f id) E i)=(some (t,.map (some b),key,c,dst),As (FE n (bS f id) E i),0)) (hok:(!ck||ME L0 (Wp.filter fun y=>!later (bS f id) i 3 y.1) [hn])=true) (ht:P.underlying t=some (.map kt et)) (hK:qb P kt ok) (hk:ok key) (hi:(P.info? et).map (·.zero)=some (some z))
  (hp:hn.get h r=some (b,.map es clock)) (hm:fM ok es g)
  (A:g key=none→JR P f R n (bS f id) L0 ck rest Wp k (E.put dst (.val (vH c z false))) h r F Y)
  (B:∀v,g key=some v→JR P f R n (bS f id) L0 ck rest Wp k (E.put dst (.val (vH c v true))) h r F Y) :
  JR P f R n (bS f id) L0 ck ((i,true)::rest) Wp k E h r F Y:=by
 obtain⟨p,he,TS⟩:=wz he
 intro BB Hd aU a w s hH hR hN hW
 simp only[PW]
 obtain⟨inf,qF,hz⟩:=aI.1 hi
 have hzero:∀w,(zeroValue et).run P w=.ok z w:=fun w=>by simp[zeroValue,typeInfo,qF,hz]
 have Kt:used h r [hn]=[(b,.map es clock)]:=by simp[used,hp]
 have Nx:Hp (used h r [hn]) w:=fun y hy=>by
  obtain⟨hn',_,hg⟩:=dV.1 hy
  exact s.own.get hg
 obtain⟨o,ho,hw,AX,Uf,hrun⟩:=wm (P:=P) he TS s.ag
 subst Uf
 have fin:∀v,(∀w,Hp (used h r [hn]) w→(Instr.lookup t (.map (some b)) key c).run P w=.ok v w)→JR P f R n (bS f id) L0 ck rest Wp k (E.put o.dst (.val v)) h r F Y →
   ∃o' v' us,(bS f id)[i]?=some o'∧YieldsIf P (bS f id) (Hp us) o' v' a∧Hp us w∧(ck=true→∀y∈kp Hd h Wp,later (bS f id) i 3 y.1=true∨∀x∈us,x.1<BB∧x.1∉y.2)∧PW P (bS f id) (mq P f R k) BB ck rest (kp Hd h Wp) (a.put o'.dst v') w:=fun v hv H=>by
  refine⟨o,v,used h r [hn],ho,.inl ⟨hw,fun w hw=>hrun _ _ _ (hv w hw)⟩,Nx,fun uQ y hy=>sy (fun j=>later (bS f id) i 3 j) s.own hR (by simpa [uQ]using hok) y hy,?_⟩
  exact H BB Hd aU _ w ⟨s.ag.put AX (.val v),s.own,s.fr,s.may,s.gh⟩ hH hR hN hW
 have Iu:∀w,Hp (used h r [hn]) w→w.heap[b]?=some (.map es clock):=fun w hw=>hw (b,.map es clock) (by rw[Kt];simp)
 rcases hm.look hK hk with ⟨h1,h2,_⟩|⟨j,e,h1,_,_,h2⟩
 ·refine fin (vH c z false) (fun w hw=>?_) (A h2)
  cases c <;> simp[Instr.lookup,run_underlying ht,MapKept.run_getObj_map (Iu w hw),hK.DV _ _ hk,h1,hzero,Result.andThen,vH]
 ·refine fin (vH c e.val true) (fun w hw=>?_) (B _ h2)
  cases c <;> simp[Instr.lookup,run_underlying ht,MapKept.run_getObj_map (Iu w hw),hK.DV _ _ hk,h1,Result.andThen,vH]
theorem D5 {id L0 i:Nat} {ck:Bool} {Wp:List (Nat×List Nat)} {rest:List (Nat×Bool)} (t kt et:Nat) (ok:Value→Prop) (key z:Value) (c:Bool) (dst:Option Tmp)
  (he:Cw (FE n (bS f id) E i)=(some (t,.map none,key,c,dst),As (FE n (bS f id) E i),0)) (ht:P.underlying t=some (.map kt et)) (hK:qb P kt ok) (hk:ok key) (hi:(P.info? et).map (·.zero)=some (some z))
  (A:JR P f R n (bS f id) L0 ck rest Wp k (E.put dst (.val (vH c z false))) h r F Y) :
  JR P f R n (bS f id) L0 ck ((i,true)::rest) Wp k E h r F Y:=by
 obtain⟨p,he,TS⟩:=wz he
 intro BB Hd aU a w s hH hR hN hW
 simp only[PW]
 obtain⟨inf,qF,hz⟩:=aI.1 hi
 have hzero:∀w,(zeroValue et).run P w=.ok z w:=fun w=>by simp[zeroValue,typeInfo,qF,hz]
 obtain⟨o,ho,hw,AX,Uf,hrun⟩:=wm (P:=P) he TS s.ag
 subst Uf
 have h1:∀w,(Instr.findKey kt key []).run P w=.ok none w:=fun w=>by
  rcases hK.find key [] hk (by simp)with ⟨h1,_⟩|⟨j,e,_,h2,_⟩
  ·exact h1 w
  ·simp at h2
 refine⟨o,vH c z false,[],ho,.inl ⟨hw,fun w _=>hrun _ _ _ ?_⟩,(fun y hy=>nomatch hy),(fun _ y _=>.inr fun x hx=>nomatch hx),A BB Hd aU _ w ⟨s.ag.put AX (.val _),s.own,s.fr,s.may,s.gh⟩ hH hR hN hW⟩
 cases c <;> simp[Instr.lookup,run_underlying ht,hK.DV _ _ hk,h1,hzero,Result.andThen,vH]
end
end Go.Sx
end
section
namespace Go.Sx
open Go Go.MapKept
open Classical in
noncomputable def mB (ks:List ByteArray) (F:ByteArray→Value):Value→Option Value:=fun v=>match v with
 | .string t=>if t∈ks then some (F t)else none
 | _=>none
theorem gQ {ks:List ByteArray} {F:ByteArray→Value} {t:ByteArray} (h:t∈ks):mB ks F (.string t)=some (F t):=if_pos h
theorem nq {ks:List ByteArray} {F:ByteArray→Value} {t:ByteArray} (h:t∉ks):mB ks F (.string t)=none:=if_neg h
theorem xj (F:ByteArray→Value) (k:Value):mB [] F k=none:=by unfold mB;split <;> simp
def ju {α:Type} (F:ByteArray→α) (t:ByteArray) (v:α):ByteArray→α:=fun s=>if s=t then v else F s
theorem pq {α:Type} (F:ByteArray→α) (t:ByteArray) (v:α):ju F t v t=v:=if_pos rfl
theorem qo {α:Type} (F:ByteArray→α) {t s:ByteArray} (v:α) (h:s≠t):ju F t v s=F s:=if_neg h
theorem uu {ks:List ByteArray} {F:ByteArray→Value} {t:ByteArray} {v:Value} (h:t∉ks) (k:Value):lK (mB ks F) (.string t) v k=mB (ks++[t]) (ju F t v) k:=by
 unfold lK
 by_cases hk:k=.string t
 ·subst hk
  rw[if_pos rfl,gQ (by simp),pq]
 ·rw[if_neg hk]
  unfold mB
  split
  ·rename_i s
   have hs:s≠t:=fun he=>hk (by rw[he])
   by_cases h2:s∈ks
   ·rw[if_pos h2,if_pos (by simp[h2]),qo _ _ hs]
   ·rw[if_neg h2,if_neg (by simp[h2,hs])]
  ·rfl
theorem EX {ks:List ByteArray} {mb:ByteArray→Nat} {t:ByteArray} {b:Nat} (h:t∉ks) (k:Value):lK (mB ks fun s=>.map (some (mb s))) (.string t) (.map (some b)) k=mB (ks++[t]) (fun s=>.map (some (ju mb t b s))) k:=by
 rw[uu h]
 congr 1
 funext s
 unfold ju
 split <;> rfl
theorem wO {α β:Type} {ks:List α} {t:α} {Q Q':α→β} (h:∀s∈ks,Q' s=Q s):((ks++[t]).map Q').eraseIdx ks.length=ks.map Q:=by
 rw[bw,dM (by simp)]
 simp only[aA,ec,cj,gy,fD,bf]
 exact cB h
theorem xh {ks:List ByteArray} {F:ByteArray→Value} {t:ByteArray} {v:Value} (h:t∈ks) (k:Value):lK (mB ks F) (.string t) v k=mB ks (ju F t v) k:=by
 unfold lK
 by_cases hk:k=.string t
 ·subst hk
  rw[if_pos rfl,gQ h,pq]
 ·rw[if_neg hk]
  unfold mB
  split
  ·rename_i s
   have hs:s≠t:=fun he=>hk (by rw[he])
   rw[qo _ _ hs]
  ·rfl
def bR (p:List bE) (t:ByteArray):List gi:=(p.filter fun x=>x.o.remove&&decide (x.o.text=t)).flatMap (·.o.bF)
theorem pG (p:List bE) (x:bE) (t:ByteArray):bR (p++[x]) t=bR p t++if x.o.remove=true∧x.o.text=t then x.o.bF else []:=by
 unfold bR
 rw[dm,List.flatMap_append]
 congr 1
 by_cases h1:x.o.remove=true
 ·by_cases h2:x.o.text=t
  ·simp[h1,h2]
  ·simp[h1,h2]
 ·simp[h1]
theorem zc {l:List bE} {i:Int} {x:bE} (hx:l[i.toNat]?=some x) (hi:0≤i) (hr:x.o.remove=false) (t:ByteArray):bR (l.take (i+1).toNat) t=bR (l.take i.toNat) t:=by
 rw[←dz hi hx,pG,if_neg (by simp[hr]),bf]
theorem uR {l:List bE} {i:Int} {x:bE} (hx:l[i.toNat]?=some x) (hi:0≤i) (hr:x.o.remove=true):bR (l.take (i+1).toNat) x.o.text=bR (l.take i.toNat) x.o.text++x.o.bF:=by
 rw[←dz hi hx,pG,if_pos ⟨hr,rfl⟩]
theorem rH {l:List bE} {i:Int} {x:bE} (hx:l[i.toNat]?=some x) (hi:0≤i) {t:ByteArray} (ht:t≠x.o.text):bR (l.take (i+1).toNat) t=bR (l.take i.toNat) t:=by
 rw[←dz hi hx,pG,if_neg (fun h=>ht h.2.symm),bf]
theorem s8 {p:List bE} {t:ByteArray} (h:∀z∈p,z.o.remove=true→z.o.text≠t):bR p t=[]:=by
 unfold bR
 rw[gz.2]
 ·rfl
 ·intro z hz
  simp only[bT,decide_eq_true_eq,not_and]
  exact fun hr=>h z hz hr
theorem z7 {l:List bE} {t:ByteArray} {d:gi}:rI l t d=true↔d∈bR l t:=by
 simp only[rI,bR,gL,gM,aP,bT,decide_eq_true_eq]
 constructor
 ·rintro⟨x,h1,h2,h3,h4⟩
  exact⟨x,⟨h1,h2,h3⟩,h4⟩
 ·rintro⟨x,⟨h1,h2,h3⟩,h4⟩
  exact⟨x,h1,h2,h3,h4⟩
def bW (l p:List bE) (t:ByteArray):List gi:=((p.filter fun a=>!a.o.remove&&!rI l a.o.text a.d).filter fun a=>decide (a.o.text=t)).map (·.d)
theorem qz (l p:List bE) (x:bE) (t:ByteArray):bW l (p++[x]) t=bW l p t++if (x.o.remove=false∧x.d∉bR l x.o.text)∧x.o.text=t then [x.d]else []:=by
 unfold bW
 rw[dm,dm,bw]
 congr 1
 by_cases h3:x.d∈bR l x.o.text
 ·have hb:=z7.2 h3
  rw[if_neg (fun h=>h.1.2 h3)]
  simp only[List.filter_cons,List.filter_nil,hb,Bool.not_true,Bool.and_false,if_neg (Bool.false_ne_true),gy]
 ·have hb:rI l x.o.text x.d=false:=by
   rw[Bool.eq_false_iff]
   exact fun hc=>h3 (z7.1 hc)
  cases h1:x.o.remove with
  | true=>
   rw[if_neg (fun h=>by cases h.1.1)]
   simp only[List.filter_cons,List.filter_nil,hb,h1,Bool.not_true,Bool.false_and,if_neg (Bool.false_ne_true),gy]
  | false=>
   simp only[List.filter_cons,List.filter_nil,hb,h1,Bool.not_false,Bool.and_self,if_true]
   by_cases h2:x.o.text=t
   ·rw[if_pos (decide_eq_true h2),if_pos ⟨⟨trivial,h3⟩,h2⟩]
    rfl
   ·rw[if_neg (show ¬decide (x.o.text=t)=true by simpa using h2),if_neg (fun h=>h2 h.2)]
    rfl
theorem nU {l:List bE} {i:Int} {x:bE} (hx:l[i.toNat]?=some x) (hi:0≤i) (h:x.o.remove=true∨x.d∈bR l x.o.text) (t:ByteArray):bW l (l.take (i+1).toNat) t=bW l (l.take i.toNat) t:=by
 rw[←dz hi hx,qz,if_neg,bf]
 rintro⟨⟨h1,h2⟩,_⟩
 rcases h with h|h
 ·rw[h]at h1;cases h1
 ·exact h2 h
theorem jM {l:List bE} {i:Int} {x:bE} (hx:l[i.toNat]?=some x) (hi:0≤i) (h1:x.o.remove=false) (h2:x.d∉bR l x.o.text):bW l (l.take (i+1).toNat) x.o.text=bW l (l.take i.toNat) x.o.text++[x.d]:=by
 rw[←dz hi hx,qz,if_pos ⟨⟨h1,h2⟩,rfl⟩]
theorem iG {l:List bE} {i:Int} {x:bE} (hx:l[i.toNat]?=some x) (hi:0≤i) {t:ByteArray} (ht:t≠x.o.text):bW l (l.take (i+1).toNat) t=bW l (l.take i.toNat) t:=by
 rw[←dz hi hx,qz,if_neg (fun h=>ht h.2.symm),bf]
theorem wj (l p:List bE) (t:ByteArray):(bW l p t).length≤p.length:=by
 unfold bW
 rw[aA]
 exact aZ (cH _ _) (cH _ _)
set_option maxHeartbeats 4000000 in
theorem nt {h r:List (Nat×Obj)} {F:List (List Nat×World)} {S0:Nat→Prop} {C0:List Chunk} {G0:List (Value×D)} (q:Nat) {v:Value} {e k:Nat} {rows:List (List D)} (hq:C0[q]?=some (aT v e k rows)):nP h r F ⟨S0,C0,G0⟩ (fun x:Option Addr×Nat×Nat=>v=.slice x.1 x.2.1 x.2.2∧x.2.1=rows.length) fun _=>⟨S0,C0,G0⟩:=by
 intro w aU hO H
 obtain⟨fp,_,_,hP⟩:=H.kF.at hq
 rcases hP with ⟨h1,h2,_⟩|⟨g,cap,cur,xs,h2,_⟩
 ·exact⟨(none,0,0),aU,⟨h2,by rw[h1];rfl⟩,fun _ hb=>hb,H⟩
 ·exact⟨(some ⟨g,0,none⟩,rows.length,cap),aU,⟨h2,rfl⟩,fun _ hb=>hb,H⟩
set_option maxHeartbeats 4000000 in
theorem xn {h r:List (Nat×Obj)} {F:List (List Nat×World)} {S0:Nat→Prop} {C0:List Chunk} {G0:List (Value×D)} (cs:List Nat) {C':List Chunk} (hC:pick C0 cs=C') (hcs:cs.Nodup:=by decide):nP h r F ⟨S0,C0,G0⟩ (fun _:Unit=>True) fun _=>⟨S0,C',G0⟩:=by
 intro w aU hO H
 subst hC
 have hS:∀b,Sd ⟨S0,C0,G0⟩ h aU b→Sd ⟨S0,C0,G0⟩ h (pick aU cs) b:=fun b hb=>mQ (fun b hb=>bu hb) hb
 exact⟨(),pick aU cs,trivial,fun b hb=>bu hb,H.less (fun b hb=>bu hb) (fI H.nodup hcs) ((H.kF.pick cs).mono (fun _ _=>rfl) fun b hb _=>⟨hS b hb,rfl⟩) fun x hx=>(H.g x hx).mono fun b hb _=>⟨hS b hb,rfl⟩⟩
structure An where
 i:Int
 es:Array MapEntry
 clock:Nat
 ks:List ByteArray
 mb:ByteArray→Nat
structure qS where
 i:Int
 es:Array MapEntry
 clock:Nat
structure Gm where
 i:Int
 es:Array MapEntry
 clock:Nat
 ks:List ByteArray
 F:ByteArray→Value
section Tq
variable {P:Program} {f:Func} {R:Act→World→Prop} {n:Nat} {k:List oR} {E:Env} {h r:List (Nat×Obj)} {F:List (List Nat×World)} {Y:fQ}
theorem qf {id L0 i:Nat} {ck:Bool} {Wp:List (Nat×List Nat)} {rest:List (Nat×Bool)} (p b t kt et:Nat) (ok:Value→Prop) (key val:Value) (dst:Option Tmp) {es:Array MapEntry} {clock:Nat} {g:Value→Option Value}
  (he:BU n (bS f id) E i=some (.map (some b),key,val,t,dst)) (hok:(!ck||okW L0 (Wp.lookup i) [p])=true) (ht:P.underlying t=some (.map kt et)) (hK:qb P kt ok) (hk:ok key)
  (hp:h[p]?=some (b,.map es clock)) (hm:fM ok es g)
  (A:∀es' clock',fM ok es' (lK g key val)→es'.size≤es.size+1→(Stamped es clock→Stamped es' clock')→JR P f R n (bS f id) L0 ck rest (Wp.filter (·.1 != i)) k (E.put dst (.val undef)) (h.set p (b,.map es' clock')) r F Y) :
  JR P f R n (bS f id) L0 ck ((i,false)::rest) Wp k E h r F Y:=by
 intro BB Hd aU a w s hH hR hN hW
 simp only[PW]
 have hb:w.heap[b]?=some (.map es clock):=s.own.own _ (ae hp)
 refine ri he s ?_
 rcases hm.look hK hk with ⟨h1,_,h2⟩|⟨j,e,h1,h2,h3,_⟩
 ·refine⟨{ w with heap:=w.heap.setIfInBounds b (.map (es.push ⟨key,val,clock⟩) (clock+1)) },?_,fun a' hA=>je hok hp s hH hR hN hW hA (A _ _ (hm.push hk h2) (by simp) fun hst=>stamped_push hst h2)⟩
  simp[Instr.mapUpdate,run_underlying ht,MapKept.run_getObj_map hb,hK.DV _ _ hk,h1,MapKept.run_setObj_map _ hb,Result.andThen]
 ·have hj:es[j]?=some e:=by simpa using h2
  refine⟨{ w with heap:=w.heap.setIfInBounds b (.map (es.modify j fun x=>{ x with key:=key,val:=val }) clock) },?_,fun a' hA=>je hok hp s hH hR hN hW hA (A _ _ (hm.By h2 h3) (by simp) fun hst=>stamped_modify hst j _ (fun _ _=>rfl) fun x _ hx=>by rw[hj]at hx;cases hx;exact h3.symm)⟩
  simp[Instr.mapUpdate,run_underlying ht,MapKept.run_getObj_map hb,hK.DV _ _ hk,h1,hj,h3,hK.stays _ hk,MapKept.run_setObj_map _ hb,Result.andThen]
end Tq
end Go.Sx
namespace Go.Proofs.YtmkapocibaojdaaGreatDoor
open Go Go.Sx Go.MapKept
set_option maxHeartbeats 4000000 in
theorem Lv {w:World} {S:Nat→Prop} {a:Option Addr} {n c:Nat} {l:List bE} (h:cm w S (.slice a n c) (.sl 11 (l.map gg))) (hl:l.length≤4000000) (JF:∀x∈l,x.o.bF.length≤1000000) :
  Calls Tryz.prog 163 #[.slice a n c] w fun e w'=>∃mb es clock ks F,cQ [] w S w' e (.map (some mb)) [bL mb (.map es clock),cA (ks.map fun t=>aT (F t) 177 3 ((ji l t).map bK))] []∧fM (IsKey .string) es (mB ks F)∧MapKept.Stamped es clock∧ks.Nodup∧(∀t,t∈ks↔ji l t≠[]):=by
 have e1:=h.pA
 rw[aA]at e1
 subst e1
 refine jL Tryz.func163 Rp (args:=[.slice a l.length c]) (G:=[(_,.sl 11 (l.map gg))]) (by kernel_rfl) (.cons h (.nil _ _)) ?_
 refine Zs [zR 0] [] [zV 2 (.map none)] ?_
 refine Zv [.wr 0 [] 0,zR 1] [] [] (fun aN=>[zV 3 (.map (some (aN 0)))]) o0 (fun aN=>[(aN 0,Obj.map #[] 0)]) (fun aN=>?_)
 refine aq ?_
 refine Zs (bh 0 3) [] [zS 12 a l.length c,zI 13 (↑l.length:Int),zI 14 0] ?_
 refine aM ?_
 refine bH (oW (cA []) pJ) ?_
 have hm0:fM (IsKey .string) #[] (mB [] fun t=>.map (some ((fun _=>0:ByteArray→Nat) t))):=(fM.empty _).congr fun k=>(xj _ k).symm
 refine cU (fun x:An=>[zS 0 a l.length c,zV 2 (.map none),zV 3 (.map (some (aN 0))),zS 12 a l.length c,zI 13 (↑l.length:Int),zI 14 x.i]) (fun x:An=>[(aN 0,.map x.es x.clock)]) (fun x:An=>[cA (x.ks.map fun t=>eX (x.mb t) dA (cI (bR (l.take x.i.toNat) t)))]) (fun x:An=>[(.slice a l.length c,(D.sl 11 (aj gg l)))]) (fun x:An=>(l.length - x.i).toNat) (fun x:An=>(0≤x.i∧x.i≤l.length∧fM (IsKey .string) x.es (mB x.ks fun t=>.map (some (x.mb t)))∧x.ks.Nodup∧∀z∈l.take x.i.toNat,z.o.remove=true→z.o.text∈x.ks)) ⟨0,#[],0,[],fun _=>0⟩ [0,2,3,12,13,14] [0] [0] [0] ?_ (by kernel_rfl) rfl rfl rfl ?_
 ·exact⟨by simp,by simp,hm0,by simp,by simp⟩
 rintro⟨i,es,clock,ks,mb⟩ ⟨hi0,hi,hm,hnd,hall⟩
 dsimp only at hi0 hi hm hnd hall ⊢
 refine Zs [zR 0] [] [zB 15 (decide (i<(↑l.length:Int)))] ?_
 refine aq ?_
 refine cC (t:=decide (i<(↑l.length:Int))) (fun hlt=>?_) (fun hlt=>?_)
 ·have fa:i<l.length:=by simpa using hlt
  obtain⟨x,hx⟩:∃x,l[i.toNat]?=some x:=⟨_,ak (by omega)⟩
  have W6:=JF x (ae hx)
  refine j0 0 rfl i.toNat (dD hx) (by kernel_rfl) (fun b1 fu uf vi vm fg cJ ha1 cP=>?_)
  cases ha1
  have cg:=oO (cP 0 _ rfl)
  have gJ:=cP 1 _ rfl
  have gV:=cP 2 _ rfl
  have jH:=cP 3 _ rfl
  have jG:=cP 4 _ rfl
  have jF:=cP 5 _ rfl
  have jE:=cP 6 _ rfl
  have lC:=cP 7 _ rfl
  have lB:=cP 8 _ rfl
  have mM:=cP 9 _ rfl
  have kA:=cP 10 _ rfl
  cases tG:x.o.remove with
  | false=>
   try simp only[aQ]
   refine aG (aq (aM ?_))
   refine Zu [.rd 0 [] 0 2,.rd 1 [.r 0 (some (nI x.o.no)),.r 0 (some (.string x.o.key)),.r 0 (some (nI x.o.kind)),.r 0 (some (.string x.o.text)),.r 0 (some (nI x.o.n)),.r 0 (some (.bool x.o.remove)),.r 0 (some (.slice (fg,cJ).fst ((aj bK x.o.bF).length) cJ)),.r 0 (some (nI x.d.place)),.r 0 (some (nI x.d.time)),.r 0 (some (nI x.d.no)),.r 0 (some (nI x.w))] 0 0,.wr 2 [] 0,.wr 3 (ek 1 11) 0] [(3,[])] [15] (fun dy=>[zP 5 (dy 0)]) o0 (fun dy=>[(dy 0,.cells #[nI x.o.no,.string x.o.key,nI x.o.kind,.string x.o.text,nI x.o.n,.bool x.o.remove,.slice (fg,cJ).fst ((aj bK x.o.bF).length) cJ,nI x.d.place,nI x.d.time,nI x.d.no,nI x.w] 271 (0,0))]) (fun dy=>(oC hi0 (oC fa (oC cg (oC gJ (oC gV (oC jH (oC jG (oC jF (oC jE (oC lC (oC lB (oC mM (oC kA oN)))))))))))))) (fun dy=>?_)
   refine Zs [zR 0,zR 1,.rd 2 [.o 1 none] 0 0] [] [zB 20 x.o.remove] ?_
   refine Lp x.o.remove (by kernel_rfl) (by kernel_rfl) (by simpa using ‹_›) ?_
   refine aG (eu ?_)
   refine Zp [.rd 0 [] 0 1,zR 1] [20] [zI 14 (i+1)] (oC (show IntKind.i64.wrap (i+1)=i+1 from wrap_i64 (by omega) (by omega)) oN) ?_
   have e4:(fun t=>eX (mb t) dA (cI (bR (l.take i.toNat) t)))=fun t=>eX (mb t) dA (cI (bR (l.take (i+1).toNat) t)):=funext fun t=>by rw[zc hx hi0 tG]
   rw[e4]
   refine bC ⟨i+1,_,_,ks,mb⟩ [0,2,3,12,13,14] [0] [0] [0] ?_ ?_ (by kernel_rfl) rfl rfl rfl
   ·refine⟨by simp only;omega,by simp only;omega,hm,hnd,fun z hz DA=>?_⟩
    rw[←dz hi0 hx,au,ay]at hz
    rcases hz with hz|rfl
    ·exact hall z hz DA
    ·rw[tG]at DA;cases DA
   ·simp only
    omega
  | true=>
   by_cases LX:x.o.text∈ks
   ·have hT:=LX
    obtain⟨iT,hit⟩:=aJ hT
    try simp only[aQ]
    refine aG (aq (aM ?_))
    refine Zu [.rd 0 [] 0 2,.rd 1 [.r 0 (some (nI x.o.no)),.r 0 (some (.string x.o.key)),.r 0 (some (nI x.o.kind)),.r 0 (some (.string x.o.text)),.r 0 (some (nI x.o.n)),.r 0 (some (.bool x.o.remove)),.r 0 (some (.slice (fg,cJ).fst ((aj bK x.o.bF).length) cJ)),.r 0 (some (nI x.d.place)),.r 0 (some (nI x.d.time)),.r 0 (some (nI x.d.no)),.r 0 (some (nI x.w))] 0 0,.wr 2 [] 0,.wr 3 (ek 1 11) 0] [(3,[])] [15] (fun dy=>[zP 5 (dy 0)]) o0 (fun dy=>[(dy 0,.cells #[nI x.o.no,.string x.o.key,nI x.o.kind,.string x.o.text,nI x.o.n,.bool x.o.remove,.slice (fg,cJ).fst ((aj bK x.o.bF).length) cJ,nI x.d.place,nI x.d.time,nI x.d.no,nI x.w] 271 (0,0))]) (fun dy=>(oC hi0 (oC fa (oC cg (oC gJ (oC gV (oC jH (oC jG (oC jF (oC jE (oC lC (oC lB (oC mM (oC kA oN)))))))))))))) (fun dy=>?_)
    refine aq ?_
    refine bH (nr 0 iT rfl (by rw[aF,hit];rfl)) ?_
    refine ud 0 rfl fun KP rP GG=>?_
    have N7:=hm
    have tJ:=hnd
    have Iw:∀z∈l.take (i+1).toNat,z.o.remove=true→z.o.text∈ks:=fun z hz DA=>by
     rw[←dz hi0 hx,au,ay]at hz
     rcases hz with hz|rfl
     ·exact hall z hz DA
     ·exact hT
    have hE:=wN (Q':=fun t=>eX (mb t) dA (cI (bR (l.take (i+1).toNat) t))) (Q:=fun t=>eX (mb t) dA (cI (bR (l.take i.toNat) t))) hnd hit fun s hs=>by
     show eX (mb s) dA (cI (bR (l.take (i+1).toNat) s))=eX (mb s) dA (cI (bR (l.take i.toNat) s))
     rw[rH hx hi0 hs]
    refine Za [zR 0,zR 1,.rd 2 [.o 1 none] 0 0] [] [zB 20 x.o.remove] ?_
    refine Bi x.o.remove (by kernel_rfl) (by kernel_rfl) (by simpa using ‹_›) ?_
    refine aq ?_
    refine jS [(0,true),(1,true),(2,true),(3,true),(4,true),(5,true)] [] ?_
    refine Ya (bh 0 3++[.rd 3 [.o 1 none] 0 0]) [20] [zV 21 (.map (some (aN 0))),zV 24 (.string x.o.text)] ?_
    refine gK (.o 0 none) (aN 0) 327 9 216 (IsKey TypeDesc.string) (.string x.o.text) (.map none) false (some 25) (by kernel_rfl) (by kernel_rfl) (by kernel_rfl) gC (by first|exact⟨_,_,_,rfl⟩|simp[MapKept.IsKey]) (by kernel_rfl) rfl N7 (fun hno=>?_) (fun v hv=>?_)
    ·rw[gQ hT]at hno
     cases hno
    ·rw[gQ hT]at hv
     cases hv
     refine Ya [zR 5] [25,21,24] [zB 26 false] ?_
     refine aC ?_
     refine cF ?_
     refine aG ?_
     refine Zs [zR 0,zR 1,.rd 2 [.o 1 none] 0 0,zR 3,zR 4] [26] [zS 34 (fg,cJ).fst ((aj bK x.o.bF).length) cJ,zI 35 ((↑(aj bK x.o.bF).length:Int)),zI 36 0] ?_
     refine aM ?_
     refine cU (fun y:qS=>[zS 0 (sA b1 fu) l.length c,zV 2 (.map none),zV 3 (.map (some (aN 0))),zP 5 (dy 0),zS 12 (sA b1 fu) l.length c,zI 13 (↑l.length:Int),zI 14 i,zS 34 (fg,cJ).fst ((aj bK x.o.bF).length) cJ,zI 35 ((↑(aj bK x.o.bF).length:Int)),zI 36 y.i]) (fun y:qS=>[(aN 0,Obj.map es clock),(dy 0,.cells #[nI x.o.no,.string x.o.key,nI x.o.kind,.string x.o.text,nI x.o.n,.bool x.o.remove,.slice (fg,cJ).fst ((aj bK x.o.bF).length) cJ,nI x.d.place,nI x.d.time,nI x.d.no,nI x.w] 271 (0,0)),(mb x.o.text,.map y.es y.clock)]) (fun y:qS=>[cA ((ks.map fun t=>eX (mb t) dA (cI (bR (l.take i.toNat) t))).eraseIdx iT)]) (fun y:qS=>[(.slice (sA b1 fu) l.length c,(D.sl 11 (aj gg l))),(.slice (fg,cJ).fst ((aj bK x.o.bF).length) cJ,(D.sl 3 (aj bK x.o.bF)))]) (fun y:qS=>(x.o.bF.length - y.i).toNat) (fun y:qS=>(0≤y.i∧y.i≤x.o.bF.length∧fM dA y.es (cI (bR (l.take i.toNat) x.o.text++x.o.bF.take y.i.toNat)))) ⟨0,KP,rP⟩ [0,2,3,5,12,13,14,34,35,36] [0,1,2] [0] [0,1] ?_ (by kernel_rfl) rfl rfl rfl ?_
     ·exact⟨by simp,by simp,by simpa using GG⟩
     rintro⟨j,Uu,IU⟩ ⟨Bp,hj,yb⟩
     dsimp only at Bp hj yb ⊢
     refine Zs [zR 0] [] [zB 37 (decide (j<(↑(aj bK x.o.bF).length:Int)))] ?_
     refine aq ?_
     refine cC (t:=decide (j<(↑(aj bK x.o.bF).length:Int))) (fun tK=>?_) (fun tK=>?_)
     ·have yd:j<x.o.bF.length:=by simpa using tK
      obtain⟨d,hd⟩:∃d,x.o.bF[j.toNat]?=some d:=⟨_,ak (by omega)⟩
      refine gr 1 rfl j.toNat (dD hd) (by kernel_rfl) (fun b2 pN Bq JT IC ha2 kK=>?_)
      cases ha2
      have gI:=oO (kK 0 _ rfl)
      have tI:=kK 1 _ rfl
      have tH:=kK 2 _ rfl
      try simp only[aQ]
      refine aG (aq (aM ?_))
      refine Zu [.rd 0 [] 0 2,.rd 1 [.r 1 (some (nI d.place)),.r 1 (some (nI d.time)),.r 1 (some (nI d.no))] 0 0,.wr 2 [] 0,.wr 3 (ek 3 3) 0] [(3,[])] [37] (fun eR=>[zP 7 (eR 0)]) o0 (fun eR=>[(eR 0,.cells #[nI d.place,nI d.time,nI d.no] 177 (0,0))]) (fun eR=>(oC Bp (oC (show j<(↑(aj bK x.o.bF).length:Int) from by simp;omega) (oC gI (oC tI (oC tH oN)))))) (fun eR=>?_)
      refine jT [(0,true),(1,true),(2,true),(3,true),(4,true),(5,true),(6,false)] [] ?_
      refine Ya (bh 0 3++[.rd 3 [.o 1 none] 0 0]) [] [zV 40 (.map (some (aN 0))),zV 43 (.string x.o.text)] ?_
      refine gK (.o 0 none) (aN 0) 327 9 216 (IsKey TypeDesc.string) (.string x.o.text) (.map none) false (some 44) (by kernel_rfl) (by kernel_rfl) (by kernel_rfl) gC (by first|exact⟨_,_,_,rfl⟩|simp[MapKept.IsKey]) (by kernel_rfl) rfl N7 (fun hno=>?_) (fun v hv=>?_)
      ·rw[gQ hT]at hno
       cases hno
      ·rw[gQ hT]at hv
       cases hv
       refine Ya [.rd 5 (ek 3 3) 0 0] [40,43] [zV 45 (.agg #[nI d.place,nI d.time,nI d.no])] ?_
       refine qK 2 (mb x.o.text) 216 177 4 dA (.agg #[.int .i64 d.place,.int .i64 d.time,.int .i64 d.no]) (.bool true) none (by kernel_rfl) (by kernel_rfl) (by kernel_rfl) jC (by first|exact⟨_,_,_,rfl⟩|simp[MapKept.IsKey]) rfl yb (fun F0 nO qU y8=>?_)
       refine aC (eu ?_)
       refine Zp [.rd 0 [] 0 1,zR 1] [] [zI 36 (j+1)] (oC (show IntKind.i64.wrap (j+1)=j+1 from wrap_i64 (by omega) (by omega)) oN) ?_
       refine bC ⟨j+1,_,_⟩ [0,2,3,5,12,13,14,34,35,36] [0,1,2] [0] [0,1] ?_ ?_ (by kernel_rfl) rfl rfl rfl
       ·refine⟨by simp only;omega,by simp only;omega,?_⟩
        dsimp only
        rw[←dz Bp hd,←bY]
        exact qU.congr (o9 (d:=d))
       ·simp only
        omega
     ·have oP:(x.o.bF.take j.toNat)=x.o.bF:=br (by simp at tK;omega)
      rw[oP,←uR hx hi0 tG]at yb
      refine dO rfl ?_
      refine eu ?_
      refine js 2 rfl ?_
      refine bH (j4 1 rfl (oB yb)) ?_
      refine bH (j3 1 0 iT (cs':=(ks).map fun t=>eX (mb t) dA (cI (bR (l.take (i+1).toNat) t))) rfl rfl (by decide) (by rw[aF,hit];rfl) hE) ?_
      try simp only[aQ]
      refine Zp [.rd 0 [] 0 1,zR 1] [37] [zI 14 (i+1)] (oC (show IntKind.i64.wrap (i+1)=i+1 from wrap_i64 (by omega) (by omega)) oN) ?_
      try simp only[aQ]
      refine bC ⟨i+1,_,_,ks,mb⟩ [0,2,3,12,13,14] [0] [0] [0] ?_ ?_ (by kernel_rfl) rfl rfl rfl
      ·exact⟨by simp only;omega,by simp only;omega,N7,tJ,fun z hz DA=>Iw z hz DA⟩
      ·simp only
       omega
   ·have hT:x.o.text∈ks++[x.o.text]:=by simp
    have hit:(ks++[x.o.text])[ks.length]?=some x.o.text:=by simp
    have tJ:(ks++[x.o.text]).Nodup:=be.2 ⟨hnd,by simp,fun a ha b hb=>by
     rw[ay]at hb
     subst hb
     exact fun he=>LX (by rw[←he];exact ha)⟩
    have Iw:∀z∈l.take (i+1).toNat,z.o.remove=true→z.o.text∈ks++[x.o.text]:=fun z hz DA=>by
     rw[←dz hi0 hx,au,ay]at hz
     rcases hz with hz|rfl
     ·exact ig _ (hall z hz DA)
     ·exact hT
    have hg0:bR (l.take i.toNat) x.o.text=[]:=s8 fun z hz DA he=>LX (he ▸ hall z hz DA)
    try simp only[aQ]
    refine aG (aq (aM ?_))
    refine Zu [.rd 0 [] 0 2,.rd 1 [.r 0 (some (nI x.o.no)),.r 0 (some (.string x.o.key)),.r 0 (some (nI x.o.kind)),.r 0 (some (.string x.o.text)),.r 0 (some (nI x.o.n)),.r 0 (some (.bool x.o.remove)),.r 0 (some (.slice (fg,cJ).fst ((aj bK x.o.bF).length) cJ)),.r 0 (some (nI x.d.place)),.r 0 (some (nI x.d.time)),.r 0 (some (nI x.d.no)),.r 0 (some (nI x.w))] 0 0,.wr 2 [] 0,.wr 3 (ek 1 11) 0] [(3,[])] [15] (fun dy=>[zP 5 (dy 0)]) o0 (fun dy=>[(dy 0,.cells #[nI x.o.no,.string x.o.key,nI x.o.kind,.string x.o.text,nI x.o.n,.bool x.o.remove,.slice (fg,cJ).fst ((aj bK x.o.bF).length) cJ,nI x.d.place,nI x.d.time,nI x.d.no,nI x.w] 271 (0,0))]) (fun dy=>(oC hi0 (oC fa (oC cg (oC gJ (oC gV (oC jH (oC jG (oC jF (oC jE (oC lC (oC lB (oC mM (oC kA oN)))))))))))))) (fun dy=>?_)
    refine Zs [zR 0,zR 1,.rd 2 [.o 1 none] 0 0] [] [zB 20 x.o.remove] ?_
    refine Bi x.o.remove (by kernel_rfl) (by kernel_rfl) (by simpa using ‹_›) ?_
    refine aq ?_
    refine jS [(0,true),(1,true),(2,true),(3,true),(4,true),(5,true)] [] ?_
    refine Ya (bh 0 3++[.rd 3 [.o 1 none] 0 0]) [20] [zV 21 (.map (some (aN 0))),zV 24 (.string x.o.text)] ?_
    refine gK (.o 0 none) (aN 0) 327 9 216 (IsKey TypeDesc.string) (.string x.o.text) (.map none) false (some 25) (by kernel_rfl) (by kernel_rfl) (by kernel_rfl) gC (by first|exact⟨_,_,_,rfl⟩|simp[MapKept.IsKey]) (by kernel_rfl) rfl hm (fun hno=>?_) (fun v hv=>?_)
    ·refine Ya [.rd 5 [] 0 0] [25,21,24] [(26,.val (.bool true))] ?_
     refine aC ?_
     refine gR ?_
     refine jT [(0,true),(1,true),(2,true),(3,true),(4,false),(5,false)] [] ?_
     refine Ym (bh 0 3++[.rd 3 [.o 1 none] 0 0,.wr 4 [] 0]) [26] (fun eR=>[zV 27 (.map (some (aN 0))),zV 30 (.string x.o.text),zV 31 (.map (some (eR 0)))]) o0 (fun eR=>[(eR 0,Obj.map #[] 0)]) [] (fun eR=>?_)
     refine qK 0 (aN 0) 327 9 216 (IsKey TypeDesc.string) (.string x.o.text) (.map (some (eR 0))) none (by kernel_rfl) (by kernel_rfl) (by kernel_rfl) gC (by first|exact⟨_,_,_,rfl⟩|simp[MapKept.IsKey]) rfl hm (fun F0 nO qU y8=>?_)
     refine aC ?_
     refine Zs [zR 0,zR 1,.rd 2 [.o 1 none] 0 0,zR 3,zR 4] [] [zS 34 (fg,cJ).fst ((aj bK x.o.bF).length) cJ,zI 35 ((↑(aj bK x.o.bF).length:Int)),zI 36 0] ?_
     refine aM ?_
     have N7:fM (IsKey .string) F0 (mB (ks++[x.o.text]) fun t=>.map (some (ju mb x.o.text (eR 0) t))):=qU.congr (EX LX)
     have GG:fM dA #[] (cI (bR (l.take i.toNat) x.o.text)):=by
      rw[hg0]
      exact(fM.empty _).congr tR
     have hE:=wO (t:=x.o.text) (Q':=fun t=>eX (ju mb x.o.text (eR 0) t) dA (cI (bR (l.take (i+1).toNat) t))) (Q:=fun t=>eX (mb t) dA (cI (bR (l.take i.toNat) t))) (ks:=ks) fun s hs=>by
      have hne:s≠x.o.text:=fun he=>LX (he ▸ hs)
      show eX (ju mb x.o.text (eR 0) s) dA (cI (bR (l.take (i+1).toNat) s))=eX (mb s) dA (cI (bR (l.take i.toNat) s))
      rw[rH hx hi0 hne,qo _ _ hne]
     refine cU (fun y:qS=>[zS 0 (sA b1 fu) l.length c,zV 2 (.map none),zV 3 (.map (some (aN 0))),zP 5 (dy 0),zS 12 (sA b1 fu) l.length c,zI 13 (↑l.length:Int),zI 14 i,zV 27 (.map (some (aN 0))),zV 30 (.string x.o.text),zV 31 (.map (some (eR 0))),zS 34 (fg,cJ).fst ((aj bK x.o.bF).length) cJ,zI 35 ((↑(aj bK x.o.bF).length:Int)),zI 36 y.i]) (fun y:qS=>[(aN 0,Obj.map F0 nO),(dy 0,.cells #[nI x.o.no,.string x.o.key,nI x.o.kind,.string x.o.text,nI x.o.n,.bool x.o.remove,.slice (fg,cJ).fst ((aj bK x.o.bF).length) cJ,nI x.d.place,nI x.d.time,nI x.d.no,nI x.w] 271 (0,0)),(eR 0,.map y.es y.clock)]) (fun y:qS=>[cA (ks.map fun t=>eX (mb t) dA (cI (bR (l.take i.toNat) t)))]) (fun y:qS=>[(.slice (sA b1 fu) l.length c,(D.sl 11 (aj gg l))),(.slice (fg,cJ).fst ((aj bK x.o.bF).length) cJ,(D.sl 3 (aj bK x.o.bF)))]) (fun y:qS=>(x.o.bF.length - y.i).toNat) (fun y:qS=>(0≤y.i∧y.i≤x.o.bF.length∧fM dA y.es (cI (bR (l.take i.toNat) x.o.text++x.o.bF.take y.i.toNat)))) ⟨0,#[],0⟩ [0,2,3,5,12,13,14,27,30,31,34,35,36] [0,1,2] [0] [0,1] ?_ (by kernel_rfl) rfl rfl rfl ?_
     ·exact⟨by simp,by simp,by simpa using GG⟩
     rintro⟨j,Uu,IU⟩ ⟨Bp,hj,yb⟩
     dsimp only at Bp hj yb ⊢
     refine Zs [zR 0] [] [zB 37 (decide (j<(↑(aj bK x.o.bF).length:Int)))] ?_
     refine aq ?_
     refine cC (t:=decide (j<(↑(aj bK x.o.bF).length:Int))) (fun tK=>?_) (fun tK=>?_)
     ·have yd:j<x.o.bF.length:=by simpa using tK
      obtain⟨d,hd⟩:∃d,x.o.bF[j.toNat]?=some d:=⟨_,ak (by omega)⟩
      refine gr 1 rfl j.toNat (dD hd) (by kernel_rfl) (fun b2 pN Bq JT IC ha2 kK=>?_)
      cases ha2
      have gI:=oO (kK 0 _ rfl)
      have tI:=kK 1 _ rfl
      have tH:=kK 2 _ rfl
      try simp only[aQ]
      refine aG (aq (aM ?_))
      refine Zu [.rd 0 [] 0 2,.rd 1 [.r 1 (some (nI d.place)),.r 1 (some (nI d.time)),.r 1 (some (nI d.no))] 0 0,.wr 2 [] 0,.wr 3 (ek 3 3) 0] [(3,[])] [37] (fun kR=>[zP 7 (kR 0)]) o0 (fun kR=>[(kR 0,.cells #[nI d.place,nI d.time,nI d.no] 177 (0,0))]) (fun kR=>(oC Bp (oC (show j<(↑(aj bK x.o.bF).length:Int) from by simp;omega) (oC gI (oC tI (oC tH oN)))))) (fun kR=>?_)
      refine jT [(0,true),(1,true),(2,true),(3,true),(4,true),(5,true),(6,false)] [] ?_
      refine Ya (bh 0 3++[.rd 3 [.o 1 none] 0 0]) [] [zV 40 (.map (some (aN 0))),zV 43 (.string x.o.text)] ?_
      refine gK (.o 0 none) (aN 0) 327 9 216 (IsKey TypeDesc.string) (.string x.o.text) (.map none) false (some 44) (by kernel_rfl) (by kernel_rfl) (by kernel_rfl) gC (by first|exact⟨_,_,_,rfl⟩|simp[MapKept.IsKey]) (by kernel_rfl) rfl N7 (fun hno=>?_) (fun v hv=>?_)
      ·rw[gQ hT]at hno
       cases hno
      ·rw[gQ hT,pq]at hv
       cases hv
       refine Ya [.rd 5 (ek 3 3) 0 0] [40,43] [zV 45 (.agg #[nI d.place,nI d.time,nI d.no])] ?_
       refine qK 2 (eR 0) 216 177 4 dA (.agg #[.int .i64 d.place,.int .i64 d.time,.int .i64 d.no]) (.bool true) none (by kernel_rfl) (by kernel_rfl) (by kernel_rfl) jC (by first|exact⟨_,_,_,rfl⟩|simp[MapKept.IsKey]) rfl yb (fun QK NF GF P4=>?_)
       refine aC (eu ?_)
       refine Zp [.rd 0 [] 0 1,zR 1] [] [zI 36 (j+1)] (oC (show IntKind.i64.wrap (j+1)=j+1 from wrap_i64 (by omega) (by omega)) oN) ?_
       refine bC ⟨j+1,_,_⟩ [0,2,3,5,12,13,14,27,30,31,34,35,36] [0,1,2] [0] [0,1] ?_ ?_ (by kernel_rfl) rfl rfl rfl
       ·refine⟨by simp only;omega,by simp only;omega,?_⟩
        dsimp only
        rw[←dz Bp hd,←bY]
        exact GF.congr (o9 (d:=d))
       ·simp only
        omega
     ·have oP:(x.o.bF.take j.toNat)=x.o.bF:=br (by simp at tK;omega)
      rw[oP,←uR hx hi0 tG]at yb
      refine dO rfl ?_
      refine eu ?_
      refine js 2 rfl ?_
      refine bH (j4 1 rfl (oB yb)) ?_
      refine bH (j3 1 0 ks.length (cs':=(ks++[x.o.text]).map fun t=>eX ((ju mb x.o.text (eR 0)) t) dA (cI (bR (l.take (i+1).toNat) t))) rfl rfl (by decide) (by rw[aF,hit];show some (eX (ju mb _ _ _) _ _)=_;rw[pq]) hE) ?_
      try simp only[aQ]
      refine Zp [.rd 0 [] 0 1,zR 1] [37] [zI 14 (i+1)] (oC (show IntKind.i64.wrap (i+1)=i+1 from wrap_i64 (by omega) (by omega)) oN) ?_
      try simp only[aQ]
      refine bC ⟨i+1,_,_,ks++[x.o.text],(ju mb x.o.text (eR 0))⟩ [0,2,3,12,13,14] [0] [0] [0] ?_ ?_ (by kernel_rfl) rfl rfl rfl
      ·exact⟨by simp only;omega,by simp only;omega,N7,tJ,fun z hz DA=>Iw z hz DA⟩
      ·simp only
       omega
    ·rw[nq LX]at hv
     cases hv
 ·have vM:l.take i.toNat=l:=br (by simp at hlt;omega)
  rw[vM]at hall
  rw[vM]
  refine dO rfl ?_
  refine Zv [.wr 0 [] 0,zR 1] [] [15,12,13,14] (fun dy=>[zV 8 (.map (some (dy 0)))]) o0 (fun dy=>[(dy 0,Obj.map #[] 0)]) (fun dy=>?_)
  refine aq ?_
  refine Zs (bh 0 3) [0] [zS 49 a l.length c,zI 50 (↑l.length:Int),zI 51 0] ?_
  refine aM ?_
  refine bH (oW (cA []) pJ) ?_
  refine bH (xn [1,0] rfl) ?_
  have Sa:fM (IsKey .string) #[] (mB [] fun _=>.nilIface):=(fM.empty _).congr fun k=>(xj _ k).symm
  refine cU (fun y:Gm=>[zV 2 (.map none),zV 3 (.map (some (aN 0))),zV 8 (.map (some (dy 0))),zS 49 a l.length c,zI 50 (↑l.length:Int),zI 51 y.i]) (fun y:Gm=>[(aN 0,Obj.map es clock),(dy 0,.map y.es y.clock)]) (fun y:Gm=>[cA (y.ks.map fun t=>aT (y.F t) 177 3 ((bW l (l.take y.i.toNat) t).map bK)),cA (ks.map fun t=>eX (mb t) dA (cI (bR l t)))]) (fun y:Gm=>[(.slice a l.length c,(D.sl 11 (aj gg l)))]) (fun y:Gm=>(l.length - y.i).toNat) (fun y:Gm=>(0≤y.i∧y.i≤l.length∧fM (IsKey .string) y.es (mB y.ks y.F)∧MapKept.Stamped y.es y.clock∧y.ks.Nodup∧∀t,t∈y.ks↔bW l (l.take y.i.toNat) t≠[])) ⟨0,#[],0,[],fun _=>.nilIface⟩ [2,3,8,49,50,51] [0,1] [0,1] [0] ?_ (by kernel_rfl) rfl rfl rfl ?_
  ·exact⟨by simp,by simp,Sa,MapKept.stamped_empty 0,by simp,by simp[bW]⟩
  rintro⟨q,KP,rP,rz,F⟩ ⟨qj,hq,hmo,hst,za,k7⟩
  dsimp only at qj hq hmo hst za k7 ⊢
  refine Zs [zR 0] [] [zB 52 (decide (q<(↑l.length:Int)))] ?_
  refine aq ?_
  refine cC (t:=decide (q<(↑l.length:Int))) (fun tK=>?_) (fun tK=>?_)
  ·have yd:q<l.length:=by simpa using tK
   obtain⟨x,hx⟩:∃x,l[q.toNat]?=some x:=⟨_,ak (by omega)⟩
   have W6:=JF x (ae hx)
   refine j0 0 rfl q.toNat (dD hx) (by kernel_rfl) (fun b1 fu uf vi vm fg cJ ha1 cP=>?_)
   cases ha1
   have cg:=oO (cP 0 _ rfl)
   have gJ:=cP 1 _ rfl
   have gV:=cP 2 _ rfl
   have jH:=cP 3 _ rfl
   have jG:=cP 4 _ rfl
   have jF:=cP 5 _ rfl
   have jE:=cP 6 _ rfl
   have lC:=cP 7 _ rfl
   have lB:=cP 8 _ rfl
   have mM:=cP 9 _ rfl
   have kA:=cP 10 _ rfl
   cases tG:x.o.remove with
   | true=>
    try simp only[aQ]
    refine aG (aq (aM ?_))
    refine Zu [.rd 0 [] 0 2,.rd 1 [.r 0 (some (nI x.o.no)),.r 0 (some (.string x.o.key)),.r 0 (some (nI x.o.kind)),.r 0 (some (.string x.o.text)),.r 0 (some (nI x.o.n)),.r 0 (some (.bool x.o.remove)),.r 0 (some (.slice (fg,cJ).fst ((aj bK x.o.bF).length) cJ)),.r 0 (some (nI x.d.place)),.r 0 (some (nI x.d.time)),.r 0 (some (nI x.d.no)),.r 0 (some (nI x.w))] 0 0,.wr 2 [] 0,.wr 3 (ek 2 11) 0] [(3,[])] [52] (fun eR=>[zP 10 (eR 0)]) o0 (fun eR=>[(eR 0,.cells #[nI x.o.no,.string x.o.key,nI x.o.kind,.string x.o.text,nI x.o.n,.bool x.o.remove,.slice (fg,cJ).fst ((aj bK x.o.bF).length) cJ,nI x.d.place,nI x.d.time,nI x.d.no,nI x.w] 271 (0,0))]) (fun eR=>(oC qj (oC yd (oC cg (oC gJ (oC gV (oC jH (oC jG (oC jF (oC jE (oC lC (oC lB (oC mM (oC kA oN)))))))))))))) (fun eR=>?_)
    refine Zt [zR 0,zR 1,.rd 2 [.o 2 none] 0 0,.rd 3 [] 0 7,zR 4,.rd 5 [] 1 0,.rd 6 [] 1 0,.rd 7 [] 1 0,.rd 8 [] 1 0,.rd 9 [] 1 0,.rd 10 [] 1 0,.rd 11 [] 1 0,.rd 12 [] 1 0,.rd 13 [] 1 0,zR 14] [] [zB 69 false] (oC (show(!x.o.remove)=false from by simp;omega) oN) ?_
    refine cF ?_
    refine aG (eu ?_)
    refine Zp [.rd 0 [] 0 1,zR 1] [69] [zI 51 (q+1)] (oC (show IntKind.i64.wrap (q+1)=q+1 from wrap_i64 (by omega) (by omega)) oN) ?_
    have e4:(fun t=>aT (F t) 177 3 ((bW l (l.take q.toNat) t).map bK))=fun t=>aT (F t) 177 3 ((bW l (l.take (q+1).toNat) t).map bK):=funext fun t=>by rw[nU hx qj (.inl tG)]
    rw[e4]
    refine bC ⟨q+1,_,_,rz,F⟩ [2,3,8,49,50,51] [0,1] [0,1] [0] ?_ ?_ (by kernel_rfl) rfl rfl rfl
    ·exact⟨by simp only;omega,by simp only;omega,hmo,hst,za,fun t=>by rw[nU hx qj (.inl tG)];exact k7 t⟩
    ·simp only
     omega
   | false=>
    by_cases hT:x.o.text∈ks
    ·obtain⟨iT,hit⟩:=aJ hT
     try simp only[aQ]
     refine aG (aq (aM ?_))
     refine Zu [.rd 0 [] 0 2,.rd 1 [.r 0 (some (nI x.o.no)),.r 0 (some (.string x.o.key)),.r 0 (some (nI x.o.kind)),.r 0 (some (.string x.o.text)),.r 0 (some (nI x.o.n)),.r 0 (some (.bool x.o.remove)),.r 0 (some (.slice (fg,cJ).fst ((aj bK x.o.bF).length) cJ)),.r 0 (some (nI x.d.place)),.r 0 (some (nI x.d.time)),.r 0 (some (nI x.d.no)),.r 0 (some (nI x.w))] 0 0,.wr 2 [] 0,.wr 3 (ek 2 11) 0] [(3,[])] [52] (fun eR=>[zP 10 (eR 0)]) o0 (fun eR=>[(eR 0,.cells #[nI x.o.no,.string x.o.key,nI x.o.kind,.string x.o.text,nI x.o.n,.bool x.o.remove,.slice (fg,cJ).fst ((aj bK x.o.bF).length) cJ,nI x.d.place,nI x.d.time,nI x.d.no,nI x.w] 271 (0,0))]) (fun eR=>(oC qj (oC yd (oC cg (oC gJ (oC gV (oC jH (oC jG (oC jF (oC jE (oC lC (oC lB (oC mM (oC kA oN)))))))))))))) (fun eR=>?_)
     refine aq ?_
     refine bH (nr 1 iT rfl (by rw[aF,hit];rfl)) ?_
     refine ud 1 rfl fun Yd UA TV=>?_
     refine jT [(0,true),(1,true),(2,true),(3,true),(4,true),(5,true),(6,true),(7,true),(8,true),(9,true),(10,true),(11,true),(12,true),(13,true),(14,true)] [] ?_
     refine Yp ([zR 0,zR 1,.rd 2 [.o 2 none] 0 0,.rd 3 [] 0 6]++bh 4 8++[.rd 8 [.o 2 none] 0 0]) [] [zB 59 true,zV 60 (.map (some (aN 0))),zV 63 (.string x.o.text)] (oC (show(!x.o.remove)=true from by simp;omega) oN) ?_
     refine vX (.o 0 none) (aN 0) 327 9 216 (IsKey TypeDesc.string) (.string x.o.text) (.map none) false (some 64) (by kernel_rfl) (by kernel_rfl) (by kernel_rfl) gC (by first|exact⟨_,_,_,rfl⟩|simp[MapKept.IsKey]) (by kernel_rfl) rfl hm (fun hno=>?_) (fun v hv=>?_)
     ·rw[gQ hT]at hno
      cases hno
     ·rw[gQ hT]at hv
      cases hv
      refine Ya [zR 10,.rd 11 (ek 2 3) 0 0] [60,63] [zV 66 (.agg #[nI x.d.place,nI x.d.time,nI x.d.no])] ?_
      refine vX (.o 3 none) (mb x.o.text) 216 177 4 dA (.agg #[.int .i64 x.d.place,.int .i64 x.d.time,.int .i64 x.d.no]) (.bool false) false (some 67) (by kernel_rfl) (by kernel_rfl) (by kernel_rfl) jC (by first|exact⟨_,_,_,rfl⟩|simp[MapKept.IsKey]) (by kernel_rfl) rfl TV (fun hno=>?_) (fun v hv=>?_)
      ·have hout:x.d∉bR l x.o.text:=fun h=>by
        rw[oh h]at hno
        cases hno
       refine Ya [zR 13,zR 14] [67,66,64,59] [zB 69 true] ?_
       refine aC ?_
       refine gR ?_
       refine js 3 rfl ?_
       refine bH (j4 2 rfl (oB TV)) ?_
       refine bH (j3 2 1 iT (cs':=ks.map fun t=>eX (mb t) dA (cI (bR l t))) rfl rfl (by decide) (by rw[aF,hit];rfl) rfl) ?_
       have hlen:=wj l (l.take q.toNat) x.o.text
       rw[bp]at hlen
       by_cases s7:x.o.text∈rz
       ·obtain⟨i2,ye⟩:=aJ s7
        refine bH (nr (c:=aT (F x.o.text) 177 3 ((bW l (l.take q.toNat) x.o.text).map bK)) 0 i2 rfl (by rw[aF,ye];rfl)) ?_
        refine b9 (nt 1 rfl) fun y hF=>?_
        obtain⟨av,nv,cv⟩:=y
        obtain⟨hF,hn⟩:=hF
        dsimp only at hF hn
        rw[aA]at hn
        have hnb:nv≤4000000:=by omega
        rw[hF]
        refine Nm [(cA (aj (fun t=>eX (mb t) dA (cI (bR l t))) ks)),aT (.slice av nv cv) 177 3 (aj bK (bW l (bZ q.toNat l) x.o.text)),(cA ((aj (fun t=>aT (F t) 177 3 (aj bK (bW l (bZ q.toNat l) t))) rz).eraseIdx i2))] ?_
        refine jT [(0,true),(1,true),(2,true),(3,true),(4,true),(5,true),(6,true),(7,true),(8,true),(9,true),(10,true),(11,false),(12,false),(13,false)] [(12,[]),(13,[1])] ?_
        refine Ya (bh 0 3++[.rd 3 [.o 2 none] 0 0]++bh 4 7++[.rd 7 [.o 2 none] 0 0]) [69] [zV 70 (.map (some (dy 0))),zV 73 (.string x.o.text),zV 74 (.map (some (dy 0))),zV 77 (.string x.o.text)] ?_
        refine gK (.o 1 none) (dy 0) 276 9 53 (IsKey TypeDesc.string) (.string x.o.text) (.slice none 0 0) false (some 78) (by kernel_rfl) (by kernel_rfl) (by kernel_rfl) gC (by first|exact⟨_,_,_,rfl⟩|simp[MapKept.IsKey]) (by kernel_rfl) rfl hmo (fun hno=>?_) (fun v hv=>?_)
        ·rw[gQ s7]at hno
         cases hno
        ·rw[gQ s7,hF]at hv
         cases hv
         refine Ym [zR 9,.rd 10 (ek 2 3) 0 0,.wr 11 [] 0] [74,77] (fun kR=>[zS 81 (sA (kR 0) 0) 1 1]) o0 (fun kR=>[(kR 0,.cells #[nI x.d.place,nI x.d.time,nI x.d.no] 177 (0,0))]) [(12,[]),(13,[1])] (fun kR=>?_)
         refine eY 1 53 177 3 24 (.agg #[.int .i64 0,.int .i64 0,.int .i64 0]) (a0:=av) (len:=nv) (iB:=cv) (ax:=(some (⟨kR 0,0,none⟩))) (m:=1) (c:=1) (dst:=(some 82)) [x.d] (by kernel_rfl) (by kernel_rfl) (by kernel_rfl) (by kernel_rfl) rfl (by decide) rfl (fun _ _ _ s=>fK s 3 rfl rfl ⟨.inl ⟨rfl,rfl⟩,⟨.inl ⟨rfl,rfl⟩,⟨.inl ⟨rfl,rfl⟩,trivial⟩⟩⟩) (by simp only[maxLen];omega) (by omega) (fun gq gp=>?_)
         try simp only[aQ]
         refine qf 1 (dy 0) 276 9 53 (IsKey TypeDesc.string) (.string x.o.text) (.slice gq (nv+1) gp) none (by kernel_rfl) (by kernel_rfl) (by kernel_rfl) gC (by first|exact⟨_,_,_,rfl⟩|simp[MapKept.IsKey]) rfl hmo (fun F0 nO qU y8 uL=>?_)
         try simp only[aQ]
         refine aC ?_
         try simp only[aQ]
         refine eu ?_
         try simp only[aQ]
         refine Zp [.rd 0 [] 0 1,zR 1] [] [zI 51 (q+1)] (oC (show IntKind.i64.wrap (q+1)=q+1 from wrap_i64 (by omega) (by omega)) oN) ?_
         try simp only[aQ]
         refine Nm [(cA (aj (fun t=>eX (mb t) dA (cI (bR l t))) ks)),(cA ((aj (fun t=>aT (F t) 177 3 (aj bK (bW l (bZ q.toNat l) t))) rz).eraseIdx i2)),aT (.slice gq (nv+1) gp) 177 3 (aj bK (bW l (bZ q.toNat l) x.o.text++[x.d]))] ?_
         have Iz:=wN (Q:=fun t=>aT (F t) 177 3 ((bW l (l.take q.toNat) t).map bK)) (Q':=fun t=>aT (ju F x.o.text (.slice gq (nv+1) gp) t) 177 3 ((bW l (l.take (q+1).toNat) t).map bK)) za ye fun s hs=>by
          show aT (ju F x.o.text (.slice gq (nv+1) gp) s) _ 3 ((bW l (l.take (q+1).toNat) s).map bK)=aT (F s) _ 3 ((bW l (l.take q.toNat) s).map bK)
          rw[qo _ _ hs,iG hx qj hs]
         refine bH (j3 2 1 i2 (cs':=rz.map fun t=>aT (ju F x.o.text (.slice gq (nv+1) gp) t) 177 3 ((bW l (l.take (q+1).toNat) t).map bK)) rfl rfl (by decide) (by
          rw[aF,ye]
          show some (aT (ju F x.o.text (.slice gq (nv+1) gp) x.o.text) _ 3 ((bW l (l.take (q+1).toNat) x.o.text).map bK))=_
          rw[pq,jM hx qj tG hout]) Iz) ?_
         refine Nm [(cA (aj (fun t=>eX (mb t) dA (cI (bR l t))) ks)),(cA (aj (fun t=>aT (ju F x.o.text (Value.slice gq (nv+1) gp) t) 177 3 (aj bK (bW l (bZ (q+1).toNat l) t))) rz))] ?_
         refine bH (xn [1,0] rfl) ?_
         refine Nm [(cA (aj (fun t=>aT (ju F x.o.text (Value.slice gq (nv+1) gp) t) 177 3 (aj bK (bW l (bZ (q+1).toNat l) t))) rz)),(cA (aj (fun t=>eX (mb t) dA (cI (bR l t))) ks))] ?_
         refine bC ⟨q+1,_,_,rz,ju F x.o.text (.slice gq (nv+1) gp)⟩ [2,3,8,49,50,51] [0,1] [0,1] [0] ?_ ?_ (by kernel_rfl) rfl rfl rfl
         ·refine⟨by simp only;omega,by simp only;omega,qU.congr (xh s7),uL hst,za,fun t=>?_⟩
          by_cases hs:t=x.o.text
          ·subst hs
           simp only[jM hx qj tG hout]
           simp[s7]
          ·simp only[iG hx qj hs]
           exact k7 t
         ·simp only
          omega
       ·have Na:bW l (l.take q.toNat) x.o.text=[]:=bU fun h=>s7 ((k7 _).2 h)
        refine bH (fO bK 177 3) ?_
        refine Nm [(cA (aj (fun t=>aT (F t) 177 3 (aj bK (bW l (bZ q.toNat l) t))) rz)),(cA (aj (fun t=>eX (mb t) dA (cI (bR l t))) ks)),aT (.slice none 0 0) 177 3 (aj bK [])] ?_
        refine jT [(0,true),(1,true),(2,true),(3,true),(4,true),(5,true),(6,true),(7,true),(8,true),(9,true),(10,true),(11,false),(12,false),(13,false)] [(12,[]),(13,[1])] ?_
        refine Ya (bh 0 3++[.rd 3 [.o 2 none] 0 0]++bh 4 7++[.rd 7 [.o 2 none] 0 0]) [69] [zV 70 (.map (some (dy 0))),zV 73 (.string x.o.text),zV 74 (.map (some (dy 0))),zV 77 (.string x.o.text)] ?_
        refine gK (.o 1 none) (dy 0) 276 9 53 (IsKey TypeDesc.string) (.string x.o.text) (.slice none 0 0) false (some 78) (by kernel_rfl) (by kernel_rfl) (by kernel_rfl) gC (by first|exact⟨_,_,_,rfl⟩|simp[MapKept.IsKey]) (by kernel_rfl) rfl hmo (fun hno=>?_) (fun v hv=>?_)
        ·refine Ym [.rd 9 [] 0 0,.rd 10 [.o 2 none,.o 2 none,.o 2 none] 0 0,.wr 11 [] 0] [74,77] (fun kR=>[(81,.val (.slice (some (⟨kR 0,0,none⟩)) 1 1))]) o0 (fun kR=>[(kR 0,.cells #[.int .i64 x.d.place,.int .i64 x.d.time,.int .i64 x.d.no] 177 (0,0))]) [(12,[]),(13,[1])] (fun kR=>?_)
         refine eY 2 53 177 3 24 (.agg #[.int .i64 0,.int .i64 0,.int .i64 0]) (a0:=none) (len:=0) (iB:=0) (ax:=(some (⟨kR 0,0,none⟩))) (m:=1) (c:=1) (dst:=(some 82)) [x.d] (by kernel_rfl) (by kernel_rfl) (by kernel_rfl) (by kernel_rfl) rfl (by decide) rfl (fun _ _ _ s=>fK s 3 rfl rfl ⟨.inl ⟨rfl,rfl⟩,⟨.inl ⟨rfl,rfl⟩,⟨.inl ⟨rfl,rfl⟩,trivial⟩⟩⟩) (by simp only[maxLen];omega) (by omega) (fun gq gp=>?_)
         try simp only[aQ]
         refine qf 1 (dy 0) 276 9 53 (IsKey TypeDesc.string) (.string x.o.text) (.slice gq 1 gp) none (by kernel_rfl) (by kernel_rfl) (by kernel_rfl) gC (by first|exact⟨_,_,_,rfl⟩|simp[MapKept.IsKey]) rfl hmo (fun F0 nO qU y8 uL=>?_)
         try simp only[aQ]
         refine aC ?_
         try simp only[aQ]
         refine eu ?_
         try simp only[aQ]
         refine Zp [.rd 0 [] 0 1,zR 1] [] [zI 51 (q+1)] (oC (show IntKind.i64.wrap (q+1)=q+1 from wrap_i64 (by omega) (by omega)) oN) ?_
         try simp only[aQ]
         refine Nm [(cA (aj (fun t=>aT (F t) 177 3 (aj bK (bW l (bZ q.toNat l) t))) rz)),(cA (aj (fun t=>eX (mb t) dA (cI (bR l t))) ks)),aT (.slice gq 1 gp) 177 3 (aj bK [x.d])] ?_
         have Iz:=wO (t:=x.o.text) (Q:=fun t=>aT (F t) 177 3 ((bW l (l.take q.toNat) t).map bK)) (Q':=fun t=>aT (ju F x.o.text (.slice gq 1 gp) t) 177 3 ((bW l (l.take (q+1).toNat) t).map bK)) (ks:=rz) fun s hs=>by
          have hne:s≠x.o.text:=fun he=>s7 (he ▸ hs)
          show aT (ju F x.o.text (.slice gq 1 gp) s) _ 3 ((bW l (l.take (q+1).toNat) s).map bK)=aT (F s) _ 3 ((bW l (l.take q.toNat) s).map bK)
          rw[qo _ _ hne,iG hx qj hne]
         refine bH (j3 2 0 rz.length (cs':=(rz++[x.o.text]).map fun t=>aT (ju F x.o.text (.slice gq 1 gp) t) 177 3 ((bW l (l.take (q+1).toNat) t).map bK)) rfl rfl (by decide) (by
          rw[aF,show(rz++[x.o.text])[rz.length]?=some x.o.text by simp]
          show some (aT (ju F x.o.text (.slice gq 1 gp) x.o.text) _ 3 ((bW l (l.take (q+1).toNat) x.o.text).map bK))=_
          rw[pq,jM hx qj tG hout,Na]
          rfl) Iz) ?_
         refine Nm [(cA (aj (fun t=>eX (mb t) dA (cI (bR l t))) ks)),(cA (aj (fun t=>aT (ju F x.o.text (Value.slice gq 1 gp) t) 177 3 (aj bK (bW l (bZ (q+1).toNat l) t))) (rz++[x.o.text])))] ?_
         refine bH (xn [1,0] rfl) ?_
         refine Nm [(cA (aj (fun t=>aT (ju F x.o.text (Value.slice gq 1 gp) t) 177 3 (aj bK (bW l (bZ (q+1).toNat l) t))) (rz++[x.o.text]))),(cA (aj (fun t=>eX (mb t) dA (cI (bR l t))) ks))] ?_
         refine bC ⟨q+1,_,_,rz++[x.o.text],ju F x.o.text (.slice gq 1 gp)⟩ [2,3,8,49,50,51] [0,1] [0,1] [0] ?_ ?_ (by kernel_rfl) rfl rfl rfl
         ·refine⟨by simp only;omega,by simp only;omega,qU.congr (uu s7),uL hst,be.2 ⟨za,by simp,fun a ha b hb=>?_⟩,fun t=>?_⟩
          ·rw[ay]at hb
           subst hb
           exact fun he=>s7 (by rw[←he];exact ha)
          by_cases hs:t=x.o.text
          ·subst hs
           simp only[jM hx qj tG hout]
           simp
          ·simp only[iG hx qj hs]
           rw[au,ay]
           exact⟨fun h=>h.elim (k7 t).1 fun h=>absurd h hs,fun h=>.inl ((k7 t).2 h)⟩
         ·simp only
          omega
        ·rw[nq s7]at hv
         cases hv
      ·have hin:x.d∈bR l x.o.text:=bU fun h=>by
        rw[tQ h]at hv
        cases hv
       rw[oh hin]at hv
       cases hv
       refine Ya [zR 13,zR 14] [67,66,64,59] [zB 69 false] ?_
       refine aC ?_
       refine cF ?_
       refine aG (eu ?_)
       refine Zp [.rd 0 [] 0 1,zR 1] [69] [zI 51 (q+1)] (oC (show IntKind.i64.wrap (q+1)=q+1 from wrap_i64 (by omega) (by omega)) oN) ?_
       refine js 3 rfl ?_
       refine bH (j4 2 rfl (oB TV)) ?_
       refine bH (j3 2 1 iT (cs':=ks.map fun t=>eX (mb t) dA (cI (bR l t))) rfl rfl (by decide) (by rw[aF,hit];rfl) rfl) ?_
       have e4:(fun t=>aT (F t) 177 3 ((bW l (l.take q.toNat) t).map bK))=fun t=>aT (F t) 177 3 ((bW l (l.take (q+1).toNat) t).map bK):=funext fun t=>by rw[nU hx qj (.inr hin)]
       rw[e4]
       refine bC ⟨q+1,_,_,rz,F⟩ [2,3,8,49,50,51] [0,1] [0,1] [0] ?_ ?_ (by kernel_rfl) rfl rfl rfl
       ·exact⟨by simp only;omega,by simp only;omega,hmo,hst,za,fun t=>by rw[nU hx qj (.inr hin)];exact k7 t⟩
       ·simp only
        omega
    ·try simp only[aQ]
     refine aG (aq (aM ?_))
     refine Zu [.rd 0 [] 0 2,.rd 1 [.r 0 (some (nI x.o.no)),.r 0 (some (.string x.o.key)),.r 0 (some (nI x.o.kind)),.r 0 (some (.string x.o.text)),.r 0 (some (nI x.o.n)),.r 0 (some (.bool x.o.remove)),.r 0 (some (.slice (fg,cJ).fst ((aj bK x.o.bF).length) cJ)),.r 0 (some (nI x.d.place)),.r 0 (some (nI x.d.time)),.r 0 (some (nI x.d.no)),.r 0 (some (nI x.w))] 0 0,.wr 2 [] 0,.wr 3 (ek 2 11) 0] [(3,[])] [52] (fun eR=>[zP 10 (eR 0)]) o0 (fun eR=>[(eR 0,.cells #[nI x.o.no,.string x.o.key,nI x.o.kind,.string x.o.text,nI x.o.n,.bool x.o.remove,.slice (fg,cJ).fst ((aj bK x.o.bF).length) cJ,nI x.d.place,nI x.d.time,nI x.d.no,nI x.w] 271 (0,0))]) (fun eR=>(oC qj (oC yd (oC cg (oC gJ (oC gV (oC jH (oC jG (oC jF (oC jE (oC lC (oC lB (oC mM (oC kA oN)))))))))))))) (fun eR=>?_)
     refine jS [(0,true),(1,true),(2,true),(3,true),(4,true),(5,true),(6,true),(7,true),(8,true),(9,true),(10,true),(11,true),(12,true),(13,true),(14,true)] [] ?_
     refine Yp ([zR 0,zR 1,.rd 2 [.o 2 none] 0 0,.rd 3 [] 0 6]++bh 4 8++[.rd 8 [.o 2 none] 0 0]) [] [zB 59 true,zV 60 (.map (some (aN 0))),zV 63 (.string x.o.text)] (oC (show(!x.o.remove)=true from by simp;omega) oN) ?_
     refine vX (.o 0 none) (aN 0) 327 9 216 (IsKey TypeDesc.string) (.string x.o.text) (.map none) false (some 64) (by kernel_rfl) (by kernel_rfl) (by kernel_rfl) gC (by first|exact⟨_,_,_,rfl⟩|simp[MapKept.IsKey]) (by kernel_rfl) rfl hm (fun hno=>?_) (fun v hv=>?_)
     ·refine Ya [.rd 10 [] 0 0,.rd 11 [.o 2 none,.o 2 none,.o 2 none] 0 0] [60,63] [(66,.val (.agg #[.int .i64 x.d.place,.int .i64 x.d.time,.int .i64 x.d.no]))] ?_
      refine D5 216 177 4 _ (.agg #[.int .i64 x.d.place,.int .i64 x.d.time,.int .i64 x.d.no]) (.bool false) false (some 67) (by kernel_rfl) (by kernel_rfl) jC (by first|exact⟨_,_,_,rfl⟩|simp[MapKept.IsKey]) (by kernel_rfl) ?_
      refine Ya [zR 13,zR 14] [67,66,64,59] [zB 69 true] ?_
      refine aC ?_
      refine gR ?_
      have hg0:bR l x.o.text=[]:=s8 fun z hz DA he=>hT (he ▸ hall z hz DA)
      have hout:x.d∉bR l x.o.text:=by rw[hg0];simp
      have hlen:=wj l (l.take q.toNat) x.o.text
      rw[bp]at hlen
      by_cases s7:x.o.text∈rz
      ·obtain⟨i2,ye⟩:=aJ s7
       refine bH (nr (c:=aT (F x.o.text) 177 3 ((bW l (l.take q.toNat) x.o.text).map bK)) 0 i2 rfl (by rw[aF,ye];rfl)) ?_
       refine b9 (nt 1 rfl) fun y hF=>?_
       obtain⟨av,nv,cv⟩:=y
       obtain⟨hF,hn⟩:=hF
       dsimp only at hF hn
       rw[aA]at hn
       have hnb:nv≤4000000:=by omega
       rw[hF]
       try simp only[aQ]
       refine jT [(0,true),(1,true),(2,true),(3,true),(4,true),(5,true),(6,true),(7,true),(8,true),(9,true),(10,true),(11,false),(12,false),(13,false)] [(12,[]),(13,[1])] ?_
       refine Ya (bh 0 3++[.rd 3 [.o 2 none] 0 0]++bh 4 7++[.rd 7 [.o 2 none] 0 0]) [69] [zV 70 (.map (some (dy 0))),zV 73 (.string x.o.text),zV 74 (.map (some (dy 0))),zV 77 (.string x.o.text)] ?_
       refine gK (.o 1 none) (dy 0) 276 9 53 (IsKey TypeDesc.string) (.string x.o.text) (.slice none 0 0) false (some 78) (by kernel_rfl) (by kernel_rfl) (by kernel_rfl) gC (by first|exact⟨_,_,_,rfl⟩|simp[MapKept.IsKey]) (by kernel_rfl) rfl hmo (fun hno=>?_) (fun v hv=>?_)
       ·rw[gQ s7]at hno
        cases hno
       ·rw[gQ s7,hF]at hv
        cases hv
        try simp only[aQ]
        refine Ym [zR 9,.rd 10 (ek 2 3) 0 0,.wr 11 [] 0] [74,77] (fun kR=>[zS 81 (sA (kR 0) 0) 1 1]) o0 (fun kR=>[(kR 0,.cells #[nI x.d.place,nI x.d.time,nI x.d.no] 177 (0,0))]) [(12,[]),(13,[1])] (fun kR=>?_)
        try simp only[aQ]
        refine eY 1 53 177 3 24 (.agg #[.int .i64 0,.int .i64 0,.int .i64 0]) (a0:=av) (len:=nv) (iB:=cv) (ax:=(some (⟨kR 0,0,none⟩))) (m:=1) (c:=1) (dst:=(some 82)) [x.d] (by kernel_rfl) (by kernel_rfl) (by kernel_rfl) (by kernel_rfl) rfl (by decide) rfl (fun _ _ _ s=>fK s 3 rfl rfl ⟨.inl ⟨rfl,rfl⟩,⟨.inl ⟨rfl,rfl⟩,⟨.inl ⟨rfl,rfl⟩,trivial⟩⟩⟩) (by simp only[maxLen];omega) (by omega) (fun gq gp=>?_)
        try simp only[aQ]
        refine qf 1 (dy 0) 276 9 53 (IsKey TypeDesc.string) (.string x.o.text) (.slice gq (nv+1) gp) none (by kernel_rfl) (by kernel_rfl) (by kernel_rfl) gC (by first|exact⟨_,_,_,rfl⟩|simp[MapKept.IsKey]) rfl hmo (fun F0 nO qU y8 uL=>?_)
        try simp only[aQ]
        refine aC ?_
        try simp only[aQ]
        refine eu ?_
        try simp only[aQ]
        refine Zp [.rd 0 [] 0 1,zR 1] [] [zI 51 (q+1)] (oC (show IntKind.i64.wrap (q+1)=q+1 from wrap_i64 (by omega) (by omega)) oN) ?_
        try simp only[aQ]
        refine Nm [(cA (aj (fun t=>eX (mb t) dA (cI (bR l t))) ks)),(cA ((aj (fun t=>aT (F t) 177 3 (aj bK (bW l (bZ q.toNat l) t))) rz).eraseIdx i2)),aT (.slice gq (nv+1) gp) 177 3 (aj bK (bW l (bZ q.toNat l) x.o.text++[x.d]))] ?_
        have Iz:=wN (Q:=fun t=>aT (F t) 177 3 ((bW l (l.take q.toNat) t).map bK)) (Q':=fun t=>aT (ju F x.o.text (.slice gq (nv+1) gp) t) 177 3 ((bW l (l.take (q+1).toNat) t).map bK)) za ye fun s hs=>by
         show aT (ju F x.o.text (.slice gq (nv+1) gp) s) _ 3 ((bW l (l.take (q+1).toNat) s).map bK)=aT (F s) _ 3 ((bW l (l.take q.toNat) s).map bK)
         rw[qo _ _ hs,iG hx qj hs]
        refine bH (j3 2 1 i2 (cs':=rz.map fun t=>aT (ju F x.o.text (.slice gq (nv+1) gp) t) 177 3 ((bW l (l.take (q+1).toNat) t).map bK)) rfl rfl (by decide) (by
         rw[aF,ye]
         show some (aT (ju F x.o.text (.slice gq (nv+1) gp) x.o.text) _ 3 ((bW l (l.take (q+1).toNat) x.o.text).map bK))=_
         rw[pq,jM hx qj tG hout]) Iz) ?_
        refine Nm [(cA (aj (fun t=>eX (mb t) dA (cI (bR l t))) ks)),(cA (aj (fun t=>aT (ju F x.o.text (Value.slice gq (nv+1) gp) t) 177 3 (aj bK (bW l (bZ (q+1).toNat l) t))) rz))] ?_
        refine bH (xn [1,0] rfl) ?_
        refine Nm [(cA (aj (fun t=>aT (ju F x.o.text (Value.slice gq (nv+1) gp) t) 177 3 (aj bK (bW l (bZ (q+1).toNat l) t))) rz)),(cA (aj (fun t=>eX (mb t) dA (cI (bR l t))) ks))] ?_
        refine bC ⟨q+1,_,_,rz,ju F x.o.text (.slice gq (nv+1) gp)⟩ [2,3,8,49,50,51] [0,1] [0,1] [0] ?_ ?_ (by kernel_rfl) rfl rfl rfl
        ·refine⟨by simp only;omega,by simp only;omega,qU.congr (xh s7),uL hst,za,fun t=>?_⟩
         by_cases hs:t=x.o.text
         ·subst hs
          simp only[jM hx qj tG hout]
          simp[s7]
         ·simp only[iG hx qj hs]
          exact k7 t
        ·simp only
         omega
      ·have Na:bW l (l.take q.toNat) x.o.text=[]:=bU fun h=>s7 ((k7 _).2 h)
       refine bH (fO bK 177 3) ?_
       try simp only[aQ]
       refine jT [(0,true),(1,true),(2,true),(3,true),(4,true),(5,true),(6,true),(7,true),(8,true),(9,true),(10,true),(11,false),(12,false),(13,false)] [(12,[]),(13,[1])] ?_
       refine Ya (bh 0 3++[.rd 3 [.o 2 none] 0 0]++bh 4 7++[.rd 7 [.o 2 none] 0 0]) [69] [zV 70 (.map (some (dy 0))),zV 73 (.string x.o.text),zV 74 (.map (some (dy 0))),zV 77 (.string x.o.text)] ?_
       refine gK (.o 1 none) (dy 0) 276 9 53 (IsKey TypeDesc.string) (.string x.o.text) (.slice none 0 0) false (some 78) (by kernel_rfl) (by kernel_rfl) (by kernel_rfl) gC (by first|exact⟨_,_,_,rfl⟩|simp[MapKept.IsKey]) (by kernel_rfl) rfl hmo (fun hno=>?_) (fun v hv=>?_)
       ·refine Ym [.rd 9 [] 0 0,.rd 10 [.o 2 none,.o 2 none,.o 2 none] 0 0,.wr 11 [] 0] [74,77] (fun kR=>[(81,.val (.slice (some (⟨kR 0,0,none⟩)) 1 1))]) o0 (fun kR=>[(kR 0,.cells #[.int .i64 x.d.place,.int .i64 x.d.time,.int .i64 x.d.no] 177 (0,0))]) [(12,[]),(13,[1])] (fun kR=>?_)
        refine eY 2 53 177 3 24 (.agg #[.int .i64 0,.int .i64 0,.int .i64 0]) (a0:=none) (len:=0) (iB:=0) (ax:=(some (⟨kR 0,0,none⟩))) (m:=1) (c:=1) (dst:=(some 82)) [x.d] (by kernel_rfl) (by kernel_rfl) (by kernel_rfl) (by kernel_rfl) rfl (by decide) rfl (fun _ _ _ s=>fK s 3 rfl rfl ⟨.inl ⟨rfl,rfl⟩,⟨.inl ⟨rfl,rfl⟩,⟨.inl ⟨rfl,rfl⟩,trivial⟩⟩⟩) (by simp only[maxLen];omega) (by omega) (fun gq gp=>?_)
        try simp only[aQ]
        refine qf 1 (dy 0) 276 9 53 (IsKey TypeDesc.string) (.string x.o.text) (.slice gq 1 gp) none (by kernel_rfl) (by kernel_rfl) (by kernel_rfl) gC (by first|exact⟨_,_,_,rfl⟩|simp[MapKept.IsKey]) rfl hmo (fun F0 nO qU y8 uL=>?_)
        try simp only[aQ]
        refine aC ?_
        try simp only[aQ]
        refine eu ?_
        try simp only[aQ]
        refine Zp [.rd 0 [] 0 1,zR 1] [] [zI 51 (q+1)] (oC (show IntKind.i64.wrap (q+1)=q+1 from wrap_i64 (by omega) (by omega)) oN) ?_
        try simp only[aQ]
        refine Nm [(cA (aj (fun t=>aT (F t) 177 3 (aj bK (bW l (bZ q.toNat l) t))) rz)),(cA (aj (fun t=>eX (mb t) dA (cI (bR l t))) ks)),aT (.slice gq 1 gp) 177 3 (aj bK [x.d])] ?_
        have Iz:=wO (t:=x.o.text) (Q:=fun t=>aT (F t) 177 3 ((bW l (l.take q.toNat) t).map bK)) (Q':=fun t=>aT (ju F x.o.text (.slice gq 1 gp) t) 177 3 ((bW l (l.take (q+1).toNat) t).map bK)) (ks:=rz) fun s hs=>by
         have hne:s≠x.o.text:=fun he=>s7 (he ▸ hs)
         show aT (ju F x.o.text (.slice gq 1 gp) s) _ 3 ((bW l (l.take (q+1).toNat) s).map bK)=aT (F s) _ 3 ((bW l (l.take q.toNat) s).map bK)
         rw[qo _ _ hne,iG hx qj hne]
        refine bH (j3 2 0 rz.length (cs':=(rz++[x.o.text]).map fun t=>aT (ju F x.o.text (.slice gq 1 gp) t) 177 3 ((bW l (l.take (q+1).toNat) t).map bK)) rfl rfl (by decide) (by
         rw[aF,show(rz++[x.o.text])[rz.length]?=some x.o.text by simp]
         show some (aT (ju F x.o.text (.slice gq 1 gp) x.o.text) _ 3 ((bW l (l.take (q+1).toNat) x.o.text).map bK))=_
         rw[pq,jM hx qj tG hout,Na]
         rfl) Iz) ?_
        refine Nm [(cA (aj (fun t=>eX (mb t) dA (cI (bR l t))) ks)),(cA (aj (fun t=>aT (ju F x.o.text (Value.slice gq 1 gp) t) 177 3 (aj bK (bW l (bZ (q+1).toNat l) t))) (rz++[x.o.text])))] ?_
        refine bH (xn [1,0] rfl) ?_
        refine Nm [(cA (aj (fun t=>aT (ju F x.o.text (Value.slice gq 1 gp) t) 177 3 (aj bK (bW l (bZ (q+1).toNat l) t))) (rz++[x.o.text]))),(cA (aj (fun t=>eX (mb t) dA (cI (bR l t))) ks))] ?_
        refine bC ⟨q+1,_,_,rz++[x.o.text],ju F x.o.text (.slice gq 1 gp)⟩ [2,3,8,49,50,51] [0,1] [0,1] [0] ?_ ?_ (by kernel_rfl) rfl rfl rfl
        ·refine⟨by simp only;omega,by simp only;omega,qU.congr (uu s7),uL hst,be.2 ⟨za,by simp,fun a ha b hb=>?_⟩,fun t=>?_⟩
         ·rw[ay]at hb
          subst hb
          exact fun he=>s7 (by rw[←he];exact ha)
         by_cases hs:t=x.o.text
         ·subst hs
          simp only[jM hx qj tG hout]
          simp
         ·simp only[iG hx qj hs]
          rw[au,ay]
          exact⟨fun h=>h.elim (k7 t).1 fun h=>absurd h hs,fun h=>.inl ((k7 t).2 h)⟩
        ·simp only
         omega
       ·rw[nq s7]at hv
        cases hv
     ·rw[nq hT]at hv
      cases hv
  ·have wE:l.take q.toNat=l:=br (by simp at tK;omega)
   rw[wE]
   rw[wE]at k7
   refine dO rfl ?_
   refine Zs [zR 0,zR 1] [52,3,8,49,50,51] [zV 2 (.map (some (dy 0)))] ?_
   refine Yr [[]] (.map (some (dy 0))) fun a w s=>?_
   exact⟨_,_,_,rz,F,(s.dY 1 rfl).ret (by simp) [2,0] [] rfl rfl,hmo,hst,za,k7⟩
end Go.Proofs.YtmkapocibaojdaaGreatDoor
end
section
namespace Go.Sx
open Go
def zero (w:World):World:={ w with drawn:=0 }
theorem lG {M:List Nat} {w:World}:∀f∈[(M,zero w)],f.2.drawn=0:=fun f hf=>by
 rw[ay]at hf
 subst hf
 rfl
theorem cm.zero {w:World} {S:Nat→Prop} {x:Value} {d:D} (h:cm w S x d):cm (zero w) S x d:=h.mono fun _ hb _=>⟨hb,rfl⟩
theorem Fr.zero {M:List Nat} {a b:World} (h:Fr M a b):Fr M (zero a) b:=⟨h.os,h.tape,h.output,h.size,h.block,eo _⟩
section
variable {P:Program} {f:Func} [Pan f] {R:Act→World→Prop} {n:Nat} [Dfr n] {k:List oR} {E:Env} {h r:List (Nat×Obj)} {F:List (List Nat×World)} {Y:fQ}
theorem nH.zero {a:Act} {w:World} {aU:List (List Nat)} (s:nH n E h r F Y a w aU) (hz:∀f∈F,f.2.drawn=0):nH n E h r F Y a (Sx.zero w) aU:=
 ⟨s.ag,⟨s.own.own,s.own.nodup,s.own.ro,s.own.apart⟩,fun f hf=>⟨(s.fr f hf).os,(s.fr f hf).tape,(s.fr f hf).output,(s.fr f hf).size,(s.fr f hf).block,by rw[hz f hf];exact eo _⟩,s.may,
  ⟨s.gh.kF.mono (fun _ _=>rfl) (fun _ hb _=>⟨hb,rfl⟩),s.gh.nodup,s.gh.mw,s.gh.apart,s.gh.may,s.gh.lt,s.gh.own,s.gh.kT,s.gh.top,fun x hx=>(s.gh.g x hx).zero⟩⟩
theorem tZ {M:List Nat} {w0:World} (H:J P f R n k E h r [(M,zero w0)] Y):J P f R n k E h r [(M,w0)] Y:=fun a w ⟨aU,s⟩=>
 H a w ⟨aU,s.ag,s.own,fun g hg=>by
  rw[ay]at hg
  subst hg
  exact(s.fr (M,w0) (ay.2 rfl)).zero,fun g hg=>by
  rw[ay]at hg
  subst hg
  exact s.may (M,w0) (ay.2 rfl),⟨s.gh.kF,s.gh.nodup,s.gh.mw,s.gh.apart,fun g hg=>by
   rw[ay]at hg
   subst hg
   exact s.gh.may (M,w0) (ay.2 rfl),s.gh.lt,s.gh.own,s.gh.kT,s.gh.top,s.gh.g⟩⟩
theorem nJ {S0:Nat→Prop} {C0:List Chunk} {G0:List (Value×D)} {id L0 i:Nat} {ck:Bool} {Wp:List (Nat×List Nat)} {rest:List (Nat×Bool)} (hs:List Hn) (cs:List Nat) (fid:FuncId) (args:Array Value) (dst:Option Tmp)
  (hz:∀f∈F,f.2.drawn=0) (he:zh (lD P n (bS f id) h r E i hs)=(some (fid,args,dst),ur (lD P n (bS f id) h r E i hs),0)) (hok:(!ck||(Wp.lookup i).isSome||cs.isEmpty)=true) (hcs:cs.Nodup)
  (C:∀w S M,Pre w S M (pick C0 cs)→gl w S G0→(cs=[]→M=[])→Calls P fid args w fun e w'=>∃v C' G',cQ M (zero w) S w' e v C' G' ∧
   JR P f R n (bS f id) L0 ck rest (Wp.filter (·.1 != i)) k (E.put dst (.val v)) h r F ⟨S0,o4 C0 cs++C',G0++G'⟩) :
  JR P f R n (bS f id) L0 ck ((i,false)::rest) Wp k E h r F ⟨S0,C0,G0⟩:=by
 obtain⟨p,he,hp⟩:=yD he
 intro B Hd aU a w s hH hR hN hW
 simp only[PW]
 refine u0 he hp s ((C w (Sd ⟨S0,C0,G0⟩ h aU) (pick aU cs).flatten (Pre.of s hcs) s.gh.g (fun h=>by rw[h];simp[pick])).mono fun e w' hh=>?_)
 obtain⟨v,C',G',wH,H⟩:=hh
 have hf:=wH.fr
 refine⟨v,wH.ret,fun E' hE a' hA=>⟨fun uQ b hb hl=>?_,?_⟩⟩
 ·refine hf.block b hb fun hm=>?_
  have qU:=bu hm
  cases LW:Wp.lookup i with
  | none=>
   rw[LW,uQ]at hok
   simp at hok
   subst hok
   simp[pick]at hm
  | some ps=>
   rw[ny,LW]at hl
   obtain⟨h1,h2⟩:=hl _ rfl
   rcases hH b qU with h3|h3
   ·exact h2 (fW _ h3)
   ·omega
 ·subst hE
  rw[jP]
  obtain⟨gE,h3,s'⟩:=(s.zero hz).called (cs:=cs) hA wH
  refine H B Hd _ a' w' s' (fun b hb=>?_) ⟨hR.old,hR.ro,hR.len,aZ hR.size hf.size⟩ hN (gT hW)
  rw[bj]at hb
  rcases au.1 hb with hb|hb
  ·exact hH b (bu hb)
  ·rcases h3 b hb with h1|h1
   ·exact hH b (bu h1)
   ·exact .inr (aZ hR.size h1)
theorem vY {S0:Nat→Prop} {C0:List Chunk} {G0:List (Value×D)} {id L0 i:Nat} {ck:Bool} {Wp:List (Nat×List Nat)} {rest:List (Nat×Bool)} (hs:List Hn) (fid:FuncId) (args:Array Value) (dst:Option Tmp)
  (hz:∀f∈F,f.2.drawn=0) (he:zh (lD P n (bS f id) h r E i hs)=(some (fid,args,dst),ur (lD P n (bS f id) h r E i hs),0))
  (C:∀w S,gl w S G0→Calls P fid args w fun e w'=>∃v C' G',cQ [] (zero w) S w' e v C' G' ∧
   JR P f R n (bS f id) L0 ck rest (Wp.filter (·.1 != i)) k (E.put dst (.val v)) h r F ⟨S0,C0++C',G0++G'⟩) :
  JR P f R n (bS f id) L0 ck ((i,false)::rest) Wp k E h r F ⟨S0,C0,G0⟩:=by
 refine nJ hs [] fid args dst hz he (by simp) (by simp) fun w S M _ hG hM=>?_
 obtain rfl:=hM rfl
 refine(C w S hG).mono fun e w' ⟨v,C',G',hR,H⟩=>⟨v,C',G',hR,?_⟩
 have:pick C0 (others C0.length [])=C0:=by
  have h1:others C0.length []=bD C0.length:=by simp[others]
  rw[h1,uz]
 unfold o4
 rw[this]
 exact H
end
end Go.Sx
end
section
namespace Go.Sx
open Go Go.Maps Go.WideElems Go.MapKept
open Go.Proofs (encStr)
def qN (l:List ByteArray):List ByteArray:=((l.map fun t=>t.data.toList).mergeSort leB).map fun x=>⟨x.toArray⟩
theorem De {l l':List ByteArray} (h:l.Perm l'):qN l=qN l':=by
  unfold qN
  rw[mergeSort_of_perm (h.map _)]
def uI:Value→ByteArray
  | .string t=>t
  | _=>⟨#[]⟩
abbrev RZ:Value→Option (DataW Unit×List MemPlace):=fun _=>some (.nil,[])
set_option maxHeartbeats 4000000 in
theorem J8 {P:Program} {k:TypeId} (hk:P.underlying k=some .string) {w:World} {b:Nat} {es:Array MapEntry} {clock:Nat} (hb:w.heap[b]?=some (.map es clock)) (hkey:∀x∈es.toList,IsKey .string x.key) (hst:Stamped es clock) (hn:es.size≤4000000) (hsz:∀x∈es.toList,(uI x.key).size≤1000000) :
    ∃D0:DataW Unit,w.ownsMap P k RZ b es.size D0∧Maps.size D0=es.size∧(strKeys D0).Perm (es.toList.map fun x=>(uI x.key).data.toList):=by
  have hrd:∀x∈es.toList,WideElems.rd P k RZ x=some (.string (uI x.key).data.toList,.nil):=fun x hx=>by
    have h1:=hkey x hx
    have h2:=hsz x hx
    cases hq:x.key <;> rw[hq]at h1 <;> simp only[IsKey]at h1
    rename_i s
    rw[hq]at h2
    simp only[uI]at h2
    have h3:s.size≤maxLen:=by unfold maxLen;omega
    simp[WideElems.rd,keyOf,hk,mapKey,hq,h3,uI]
  refine⟨_,⟨es,clock,hb,⟨by unfold maxLen;omega,hst,fun x hx=>⟨_,hrd x hx⟩⟩,aX _,rfl⟩,?_,?_⟩
  · simp[Maps.size,length_sorted]
  · show(aj (fun p:Lit×DataW Unit=>strOf p.1) _).Perm _
    refine((WideShapes.sorted_perm _).map _).trans ?_
    rw[fc]
    refine List.Perm.of_eq (cB fun x hx=>?_)
    simp[rg_of (hrd x hx),strOf]
set_option maxHeartbeats 4000000 in
theorem J5 {w':World} {S:Nat→Prop} {base e:Nat} {v:Value} {ss:List (List UInt8)} (h:w'.ownsRow base e 1 v ss.length (ss.map encStr)) (hS:∀b,base≤b→S b):cm w' S v (pe (ss.map fun x=>⟨x.toArray⟩)):=by
  rcases h.2 with ⟨rfl,h0⟩|⟨g,cap,cur,rfl,hbase,hg,hle,_,hcs,P3⟩
  · obtain rfl:=eV.1 h0
    exact .nil
  · have hl:(aj eS (ss.map fun x=>(⟨x.toArray⟩:ByteArray))).length=ss.length:=by simp
    have:=cm.sl (w:=w') (S:=S) (off:=0) (cap:=cap) (k:=1) (rows:=aj eS (ss.map fun x=>(⟨x.toArray⟩:ByteArray))) (fun i j=>cur.getD (0+(i*1+j)) undef) hg (hS g hbase) (by omega) (by omega) (fun row hr=>?_) (fun i j hi hj=>?_) (fun i j row d hi hj=>?_)
    · rwa[hl]at this
    · obtain⟨x,_,rfl⟩:=aB.1 hr
      rfl
    · have:0+(i*1+j)<cur.size:=by omega
      rw[fR this,dB,fR this]
      rfl
    · rw[fc,aF]at hi
      obtain⟨x,hx,rfl⟩:=aI.1 hi
      match j,hj with
      | 0,hj=>
        simp only[Function.comp_apply,aV,az]at hj
        subst hj
        have vM:=(ai.1 hx).1
        have h3:(cur.toList.take (ss.length*1))[i]?=some (encStr x):=by rw[P3,aF,hx];rfl
        rw[cL,if_pos (by omega),kx]at h3
        have h4:cur.getD (0+(i*1+0)) undef=encStr x:=by
          rw[dB,show 0+(i*1+0)=i by omega,h3]
          rfl
        rw[h4]
        exact .v rfl
      | j+1,hj=>simp at hj
end Go.Sx
namespace Go.Proofs.YtmkapocibaojdaaGreatDoor
open Go Go.Sx Go.RowKit Go.Maps Go.Sort Go.Shelf
set_option maxHeartbeats 4000000 in
theorem Om {w:World} {S:Nat→Prop} {mb:Nat}:Calls Tryz.prog 162 #[.map (some mb)] w fun e w'=>∃b ty,cQ [] w S w' e (.func (.func 205) #[] #[.pointer (some ⟨b,0,none⟩)]) [] [(.pointer (some ⟨b,0,none⟩),.obj (.cells #[.map (some mb)] ty (0,0)))]:=by
  refine jL Tryz.func162 Rq (args:=[.map (some mb)]) (S:=S) (G:=[]) (by kernel_rfl) (.nil _ _) ?_
  refine Zv [.wr 0 [] 0,zR 1] [] [0] (fun aN=>[zP 1 (aN 0),zV 2 .nilFunc]) o0 (fun aN=>[(aN 0,.cells #[.map (some mb)] 276 (0,0))]) (fun aN=>?_)
  refine Zs [zR 0,zR 1] [1] [zV 2 (.func (.func 205) #[] #[.pointer (sA (aN 0) 0)])] ?_
  refine Yr [[]] (.func (.func 205) #[] #[.pointer (sA (aN 0) 0)]) fun a w s=>?_
  exact⟨_,_,(s.share 0 rfl).ret (by simp) [] [0] rfl rfl⟩
theorem Mg (m:Nat):AnyZ.SortsIn Tryz.prog Tryz.sorted_ren Fence.wide m:=
  ⟨fun blk off cap ss W hH hblk hsz=>callsIn_wide.2 (AnyM.slices_Sort_string Tryz.sortS blk off cap ss W hH hblk hsz),
   fun p cap W=>callsIn_wide.2 (AnyM.slices_Sort_string_none Tryz.sortS p cap W)⟩
set_option maxHeartbeats 4000000 in
theorem Dc {w:World} {S:Nat→Prop} {M:List Nat} {mb bx clock:Nat} {es:Array MapEntry} {ty:TypeId} (hP:Pre w S M [bL mb (.map es clock)]) (hkey:∀x∈es.toList,MapKept.IsKey .string x.key) (hst:MapKept.Stamped es clock) (hn:es.size≤4000000) (hsz:∀x∈es.toList,(uI x.key).size≤1000000) (KG:cm w S (.pointer (some ⟨bx,0,none⟩)) (.obj (.cells #[.map (some mb)] ty (0,0)))) :
    Calls Tryz.prog 161 #[.func (.func 205) #[] #[.pointer (some ⟨bx,0,none⟩)]] w fun e w'=>∃ua un uc,cQ M (zero w) S w' e (.slice ua un uc) [] [(.slice ua un uc,pe (qN (es.toList.map fun x=>uI x.key)))]:=by
  obtain⟨aU,hch,rfl,hnd,hM⟩:=hP
  match aU,hch with
  | [fp],⟨⟨og,hmb⟩,_⟩=>
    subst og
    obtain⟨D0,hown,Vy,zZ⟩:=J8 (k:=9) (P:=Tryz.prog) Tryz.underlying9 hmb hkey hst hn hsz
    have QB:=DY KG
    have hlt:=(bJ.1 QB).1
    have hseq:SeqGives Fence.wide 2 Tryz.prog 205 #[.pointer (some ⟨bx,0,none⟩)] encStr (fun ss=>ss.Perm (strKeys D0)) (Maps.size D0) w:=
      AnyZ.keys_gives (ρ:=Tryz.keysA_ren) { Tryz.keysA with } Fence.wide _ trivial rfl (by omega) bx mb es.size D0 w hlt (by simp[World.cell?,QB]) hown
    have cS:=AnyZ.sorted_in Tryz.sorted Fence.wide 5 trivial trivial trivial trivial rfl (by omega) (Mg _) (enters_of Tryz.func204 (by kernel_rfl) rfl) 205 #[.pointer (some ⟨bx,0,none⟩)] trivial (enters_of Tryz.func205 (by kernel_rfl) rfl) _ _ (by rw[Vy];unfold maxLen;omega) (by rw[Vy];omega) w hseq
    change CallsIn _ _ Tryz.prog 161 _ _ _ at cS
    refine(callsIn_wide.1 cS).mono ?_
    rintro e w' ⟨v,ss,rfl,hS,hrow,_,hb⟩
    have e1:qN (es.toList.map fun x=>uI x.key)=(ss.mergeSort leB).map fun x=>⟨x.toArray⟩:=by
      unfold qN
      rw[fc,mergeSort_of_perm (hS.trans zZ)]
      rfl
    have mL:cm w' (l5 S ([[mb]]:List (List Nat)).flatten (zero w) []) v (pe (qN (es.toList.map fun x=>uI x.key))):=by
      rw[e1]
      refine J5 (base:=w.heap.size) (e:=9) ?_ fun b oQ=>⟨.inr (.inr oQ),by simp⟩
      rw[List.length_mergeSort]
      exact hrow
    obtain⟨ua,uc,rfl,_⟩:=mL.form
    refine⟨ua,_,uc,rfl,⟨hb.os,hb.tape,hb.output,hb.size,fun b oQ _=>hb.block b oQ,eo _⟩,[],trivial,by simp,by simp,fun x hx=>?_⟩
    obtain rfl:=ay.1 hx
    exact mL
  | [],h=>exact h.elim
  | _::_::_,h=>exact h.2.elim
end Go.Proofs.YtmkapocibaojdaaGreatDoor
end
section
namespace Go.Sx
open Go
theorem mP {α:Type} {lt:α→α→Prop} (asym:∀a b,lt a b→lt b a→False) {l l':List α} (h:l.Pairwise lt) (h':l'.Pairwise lt) (hm:∀x,x∈l↔x∈l'):l=l':=by
 have Vp:∀{p:List α},p.Pairwise lt→p.Nodup:=fun hp=>hp.imp fun{a b} hab he=>by subst he;exact asym a a hab hab
 exact((List.perm_ext_iff_of_nodup (Vp h) (Vp h')).2 hm).eq_of_pairwise (le:=lt) (fun a b _ _ h1 h2=>(asym a b h1 h2).elim) h h'
theorem qJ {a b:ByteArray}:D2 a b=true↔a.toList<b.toList:=decide_eq_true_iff
theorem I1 (a b:ByteArray) (h1:D2 a b=true) (h2:D2 b a=true):False:=
 List.lt_asymm (qJ.1 h1) (qJ.1 h2)
theorem Gg {a b c:ByteArray} (h1:D2 a b=true) (h2:D2 b c=true):D2 a c=true:=
 qJ.2 (List.lt_trans (qJ.1 h1) (qJ.1 h2))
theorem CE {a b:ByteArray} (h:a.toList=b.toList):a=b:=by
 have:=G4 a b
 rw[h]at this
 simpa using this.symm
theorem La {a b:ByteArray} (h1:¬D2 a b=true) (h2:a≠b):D2 b a=true:=by
 rw[qJ]at *
 exact bU fun h3=>h2 (CE (List.le_antisymm h3 h1))
theorem yp {l:List ByteArray} {s t:ByteArray}:t∈oG l s↔t=s∨t∈l:=by
 induction l with
 | nil=>simp[oG]
 | cons x l ih=>
  unfold oG
  split
  ·rw[cE,ih,cE]
   constructor
   ·rintro(h|h|h)
    ·exact .inr (.inl h)
    ·exact .inl h
    ·exact .inr (.inr h)
   ·rintro(h|h|h)
    ·exact .inr (.inl h)
    ·exact .inl h
    ·exact .inr (.inr h)
  ·split
   ·rename_i h
    subst h
    rw[cE]
    constructor
    ·exact .inr
    ·rintro(h|h)
     ·exact .inl h
     ·exact h
   ·rw[cE]
theorem zf {l:List ByteArray} {s:ByteArray} (h:l.Pairwise fun a b=>D2 a b=true):(oG l s).Pairwise fun a b=>D2 a b=true:=by
 induction l with
 | nil=>simp[oG]
 | cons x l ih=>
  unfold oG
  have h1:=gN.1 h
  split
  ·rename_i hx
   refine gN.2 ⟨fun y hy=>?_,ih h1.2⟩
   rcases yp.1 hy with rfl|hy
   ·exact hx
   ·exact h1.1 y hy
  ·rename_i hx
   split
   ·exact h
   ·rename_i hne
    have Vx:=La hx hne
    refine gN.2 ⟨fun y hy=>?_,h⟩
    rcases cE.1 hy with rfl|hy
    ·exact Vx
    ·exact Gg Vx (h1.1 y hy)
theorem BN {p:List ByteArray}:∀{l:List ByteArray},(p.Pairwise fun a b=>D2 a b=true)→((l.foldl oG p).Pairwise fun a b=>D2 a b=true)∧∀t,t∈l.foldl oG p↔t∈p∨t∈l:=by
 intro l
 induction l generalizing p with
 | nil=>exact fun h=>⟨h,fun t=>by simp⟩
 | cons x l ih=>
  intro h
  obtain⟨h1,h2⟩:=ih (p:=oG p x) (zf h)
  refine⟨h1,fun t=>?_⟩
  rw[iw,h2,yp,cE]
  constructor
  ·rintro((h|h)|h)
   ·exact .inr (.inl h)
   ·exact .inl h
   ·exact .inr (.inr h)
  ·rintro(h|h|h)
   ·exact .inl (.inr h)
   ·exact .inl (.inl h)
   ·exact .inr h
theorem AB (l:List ByteArray):(setOf l).Pairwise fun a b=>D2 a b=true:=(BN jq).1
theorem Fk {l:List ByteArray} {t:ByteArray}:t∈setOf l↔t∈l:=by
 unfold setOf
 rw[(BN jq).2]
 simp
theorem Ff {l:List ByteArray} {t:ByteArray}:t∈qN l↔t∈l:=by
 unfold qN
 rw[aB]
 constructor
 ·rintro⟨x,hx,rfl⟩
  rw[me]at hx
  obtain⟨y,hy,rfl⟩:=aB.1 hx
  exact hy
 ·intro h
  exact⟨t.data.toList,me.2 (aB.2 ⟨t,h,rfl⟩),rfl⟩
theorem Az {l:List ByteArray} (hn:l.Nodup):(qN l).Pairwise fun a b=>D2 a b=true:=by
 have tr:∀a b c:List UInt8,leB a b=true→leB b c=true→leB a c=true:=fun a b c h1 h2=>by simp only[leB,decide_eq_true_eq]at *;exact List.le_trans h1 h2
 have to:∀a b:List UInt8,(leB a b||leB b a)=true:=fun a b=>by simp only[leB,j8,decide_eq_true_eq];exact List.le_total a b
 have hnd:((l.map fun t=>t.data.toList).mergeSort leB).Nodup:=(gB _ _).nodup_iff.2 (fU.2 (hn.imp fun{a b} hne he=>hne (CE (by rw[ByteArray.toList_eq,ByteArray.toList_eq];exact he))))
 unfold qN
 refine fU.2 (((List.pairwise_mergeSort tr to _).and hnd).imp fun{a b} h=>?_)
 rw[qJ,ByteArray.toList_eq,ByteArray.toList_eq]
 have h1:a≤b:=by simpa [leB]using h.1
 exact bU fun h2=>h.2 (List.le_antisymm h1 h2)
theorem Fe {ks l:List ByteArray} (hn:ks.Nodup) (hm:∀t,t∈ks↔t∈l):qN ks=setOf l:=
 mP I1 (Az hn) (AB l) fun t=>by rw[Ff,Fk,hm]
theorem Bz {l:List bE} {t:ByteArray}:ji l t≠[]↔t∈(rq l).map (·.o.text):=by
 unfold ji
 rw[ne_eq,cM,gz,aB]
 constructor
 ·intro h
  refine bU fun h2=>h fun x hx he=>h2 ⟨x,hx,by simpa using he⟩
 ·rintro⟨x,hx,he⟩ h
  exact h x hx (by simpa using he)
end Go.Sx
end
