/- Part 8 of the texts of a claim: VOf Light Tx19 Tx21 Tx22 Tx23 Tx24 Tx25 OwnT Ver PlP HearP Way. -/
import Derived.Recover
import Derived.Lib.AppendStr
import Derived.Laws.IdiomStrings
import Derived.Laws.Concat
import Derived.KernelRfl
import Derived.Test.YtmkapocibaojdaaGreatDoorTr7
open Array renaming getD_eq_getD_getElem? → dB, getElem?_eq_getElem → fR, getElem?_eq_some_iff → bJ, getElem?_setIfInBounds → iv, replicate → lS
open Bool renaming and_eq_true → bT
open ByteArray renaming mk → aL
open Classical renaming byContradiction → bU
open List renaming append_assoc → bY, append_nil → bf, eraseIdx_sublist → cG, filter_append → dm, filter_eq_nil_iff → gz, filter_eq_self → fk, filter_sublist → dw, flatten_append → bj, flatten_cons → cr, getElem?_append → kQ, getElem?_append_right → bt, getElem?_cons_succ → eU, getElem?_cons_zero → aV, getElem?_eq_getElem → ak, getElem?_eq_none → cO, getElem?_eq_some_iff → ai, getElem?_map → aF, length → fo, length_append → bA, length_cons → eF, length_eq_zero_iff → eV, length_filter_le → cH, length_map → aA, length_nil → lW, map → aj, map_append → bw, map_congr_left → cB, map_cons → cj, map_eq_nil_iff → cM, map_map → fc, map_take → jt, mem_append → au, mem_cons → cE, mem_cons_of_mem → bk, mem_cons_self → bl, mem_filter → aP, mem_flatten → cK, mem_map → aB, mem_of_getElem? → ae, mem_singleton → ay, nil_append → j9, nodup_append → be, nodup_cons → jf, nodup_range → jJ, pairwise_map → fU, perm_append_comm → fA, range → bD, range_succ → jh, replicate → aD, sum_cons → lO
open List.Nodup renaming sublist → l9
open List.Perm renaming cons → mT
open Nat renaming add_mul → jR, add_zero → dZ, beq → lR, eq_of_beq_eq_true → dR, le_refl → aX, le_trans → aZ, lt_of_lt_of_le → ej, lt_or_ge → dP, min_eq_left → lX, one_mul → nK, zero_add → aK
open Option renaming getD_some → jK, map_some → dU
open Option.some renaming inj → dG, injEq → az
open Prod.mk renaming inj → kP, injEq → aH
section
namespace Go.Sx
open Go
theorem St.pB {n:Nat} {E:Env} {h r:List (Nat×Obj)} {F:List (List Nat×World)} {C C':List Chunk} {G G':List (Value×D)} {S:Nat→Prop} {M:List Nat} {w0:World} {a:Act} {w:World} {v:Value} (s:St n E h r F ⟨sK S M w0,C,G⟩ a w) (hF:(M,zero w0)∈F) (cs gs:List Nat)
  (hC:pick C cs=C') (hG:pick G gs=G') (hcs:cs.Nodup:=by decide):cQ M (zero w0) S w (.returned v) v C' G':=St.ret (w0:=zero w0) s hF cs gs hC hG hcs
end Go.Sx
namespace Go.Proofs.YtmkapocibaojdaaGreatDoor
open Go Go.Sx
set_option maxHeartbeats 4000000 in
theorem xy {M:List Nat} {w:World} {S:Nat→Prop} {w':World} {e:Ending} {v:Value} {C:List Chunk} {G:List (Value×D)} (h:cQ M w S w' e v C G):cQ M (zero w) S w' e v C G:=⟨h.ret,h.fr.zero,h.gh⟩
set_option maxHeartbeats 4000000 in
theorem FZ {w:World} {S:Nat→Prop} {w':World} {e:Ending} {er:Nat→Addr} {f:FT} {mk:Value→Value} (h:D7 w S w' e er f mk):D7 (zero w) S w' e er f mk:=by
 rcases h with ⟨h1,v,h2,h3⟩|⟨h1,h2,pb,h3⟩
 ·exact .inl ⟨h1,v,xy h2,h3⟩
 ·exact .inr ⟨h1,h2,pb,xy h3⟩
theorem MS {es:Array MapEntry} {ks:List ByteArray} {F:ByteArray→Value} (hm:fM (MapKept.IsKey .string) es (mB ks F)) (hnd:ks.Nodup):(es.toList.map fun x=>uI x.key).Perm ks:=by
 have hk:∀x∈es.toList,x.key=.string (uI x.key)∧uI x.key∈ks:=fun x hx=>by
  have h1:=hm.key x hx
  have h2:=hm.val x hx
  cases hq:x.key <;> rw[hq]at h1 h2 <;> simp only[MapKept.IsKey]at h1
  rename_i s
  refine⟨rfl,?_⟩
  show s∈ks
  exact bU fun hn=>by rw[nq hn]at h2;cases h2
 refine(List.perm_ext_iff_of_nodup ?_ hnd).2 fun t=>?_
 ·have h1:(es.toList.map fun x=>x.key)=(es.toList.map fun x=>uI x.key).map Value.string:=by
   rw[fc]
   exact cB fun x hx=>(hk x hx).1
  have h2:=hm.nodup
  rw[h1]at h2
  exact(fU.1 h2).imp fun{a b} hne he=>hne (by rw[he])
 ·rw[aB]
  constructor
  ·rintro⟨x,hx,rfl⟩
   exact(hk x hx).2
  ·intro h
   obtain⟨x,hx,he⟩:=hm.has (.string t) (F t) (gQ h)
   exact⟨x,hx,by rw[he];rfl⟩
set_option maxHeartbeats 4000000 in
theorem SC {w:World} {S:Nat→Prop} {er:Nat→Addr} {eb:Nat→Array Value×TypeId} {a:Option Addr} {n c:Nat} {key:ByteArray} {l:List bO} (hC:cm w S .nilIface (dC er eb)) (h:cm w S (.slice a n c) (.sl 3 (l.map eW))) (hl:l.length≤300000) (ja:∀x∈l,x.when.length≤1000000) (kS:∀x∈l,x.ops.length≤1000000) (Cj:kindOf (opsOf key l)=3) :
  Calls Tryz.prog 105 #[.string key,.slice a n c] w fun e w'=>((cZ key l).code≠0∧D7 (zero w) S w' e er (cZ key l) fun v=>.tuple #[CZ,v])∨((cZ key l).code=0∧∃ua un uc,cQ [] (zero w) S w' e (.tuple #[w8 (Sx.valOf key l) (.slice ua un uc),.nilIface]) [] [(.slice ua un uc,pe (Sx.valOf key l).set)]):=by
 refine jL Tryz.func105 L3 (args:=[.string key,.slice a n c]) (G:=[(_,dC er eb),(_,.sl 3 (l.map eW))]) (by kernel_rfl) (.cons hC (.cons h (.nil _ _))) ?_
 refine tZ ?_
 refine Zv [.wr 0 [] 0,zR 1] [] [] (fun aN=>[zP 4 (aN 0),zV 5 .nilIface]) o0 (fun aN=>[(aN 0,.cells #[nI 0,.string (aL #[]),nI 0,.slice none 0 0] 64 (0,0))]) (fun aN=>?_)
 refine jS [(0,true),(1,true),(2,false),(3,true),(4,true),(5,true),(6,true),(7,true)] [] ?_
 refine Ya [zR 0,zR 1] [0,1] [zV 13 (.string key),zS 14 a n c] ?_
 refine Yc 159 #[.string key,.slice a n c] (some 15) fun w S hG=>?_
 refine(Mc (hG.at 0 rfl) (hG.at 1 rfl) hl ja kS).mono ?_
 rintro e1 w1 (⟨hc,⟨hat,v,hR,hv⟩|⟨zb,hat,pb,hR⟩⟩|⟨hc,a1,n1,c1,hR⟩)
 ·refine⟨_,_,_,hR,?_⟩
  rcases hv with ⟨nc,rfl⟩|⟨nc,rfl⟩
  ·exact absurd nc hc
  ·try simp only[aQ]
   refine Ya (bh 3 8) [15,13,14] [zS 6 none 0 0,zV 7 (.iface 390 (.pointer (some (er (cZ key l).code))))] ?_
   refine aC (aq ?_)
   refine Zs [zR 0,zR 1] [] [zB 19 true] ?_
   refine gR ?_
   refine Zv [zR 0,zR 1,.wr 2 (ek 0 4) 0,zR 3] [(2,[0])] [19,7] (fun _=>[zV 5 (.iface 390 (.pointer (some (er (cZ key l).code))))]) o0 o0 (fun _=>?_)
   refine Yr [(ek 0 4),[]] (.tuple #[.agg #[nI 0,.string (aL #[]),nI 0,.slice none 0 0],.iface 390 (.pointer (some (er (cZ key l).code)))]) fun a w s=>?_
   exact .inl ⟨hc,.inl ⟨hat,_,s.pB (by simp) [] [] rfl rfl,.inr ⟨nc,rfl⟩⟩⟩
 ·refine⟨_,_,_,hR,?_⟩
  try simp only[aQ]
  refine Ya (bh 3 8) [15,13,14] [zS 6 none 0 0,zV 7 (.iface 202 (.pointer (sA pb 0)))] ?_
  refine aC (aq ?_)
  refine Zs [zR 0,zR 1] [] [zB 19 true] ?_
  refine gR ?_
  refine Zv [zR 0,zR 1,.wr 2 (ek 0 4) 0,zR 3] [(2,[0])] [19,7] (fun _=>[zV 5 (.iface 202 (.pointer (sA pb 0)))]) o0 o0 (fun _=>?_)
  refine Yr [(ek 0 4),[]] (.tuple #[.agg #[nI 0,.string (aL #[]),nI 0,.slice none 0 0],.iface 202 (.pointer (sA pb 0))]) fun a w s=>?_
  exact .inl ⟨hc,.inr ⟨zb,hat,_,s.pB (by simp) [] [2] rfl rfl⟩⟩
 ·refine⟨_,_,_,hR,?_⟩
  have hlo:=sx hc
  have hlk:=vC hc
  try simp only[aQ]
  refine Ya (bh 3 8) [15,13,14] [zS 6 a1 n1 c1,zV 7 .nilIface] ?_
  refine aC (aq ?_)
  refine Zs [zR 0,zR 1] [] [zB 19 false] ?_
  refine cF ?_
  refine aG ?_
  refine jS [(0,true),(1,false),(2,true),(3,true),(4,true),(5,true),(6,true)] [] ?_
  refine Ya [zR 0] [19,7] [zS 23 a1 n1 c1] ?_
  refine Yc 160 #[.slice a1 n1 c1] (some 24) fun w S hG=>?_
  refine(GX (hG.at 2 rfl) (by omega)).mono ?_
  rintro e2 w2 ⟨a2,n2,c2,hR⟩
  refine⟨_,_,_,hR,?_⟩
  try simp only[aQ]
  refine Ya (bh 2 7) [24,23] [zS 6 a2 n2 c2,zI 8 (kindOf (opsOf key l))] ?_
  refine aC ?_
  refine Zv [zR 0,zR 1,.wr 2 [] 0,.wr 3 (ek 1 4) 0] [(3,[])] [] (fun dy=>[zP 9 (dy 0)]) o0 (fun dy=>[(dy 0,.cells #[nI (kindOf (opsOf key l)),.string (aL #[]),nI 0,.slice none 0 0] 64 (0,0))]) (fun dy=>?_)
  refine aq ?_
  refine Zs (bh 0 3) [] [zS 29 a2 n2 c2,zI 30 (↑n2:Int),zI 31 0] ?_
  refine aM ?_
  refine b9 (jY 3 rfl) fun _ rF=>?_
  rw[aA]at rF
  have Nc:n2=(eL key l).length:=rF
  subst Nc
  have hA:j6 (opsOf key l)=eL key l:=rfl
  rw[hA]
  clear rF
  have hval:Sx.valOf key l=⟨3,aL #[],0,setOf ((rq (eL key l)).map (·.o.text))⟩:=by
   simp[Sx.valOf,Cj]
  rw[Cj]
  have JF:∀x∈eL key l,x.o.bF.length≤1000000:=fun x hx=>by
   obtain⟨p,hp⟩:=uT hc (sB hx)
   have:=qA hp
   omega
  refine cU (fun i:Int=>[zP 4 (aN 0),zV 5 .nilIface,zS 6 a2 ((eL key l).length) c2,zI 8 3,zP 9 (dy 0),zS 29 a2 ((eL key l).length) c2,zI 30 ((↑(eL key l).length:Int)),zI 31 i]) (fun i:Int=>[(aN 0,.cells #[nI 0,.string (aL #[]),nI 0,.slice none 0 0] 64 (0,0)),(dy 0,.cells #[nI 3,.string (aL #[]),nI 0,.slice none 0 0] 64 (0,0))]) (fun i:Int=>[]) (fun i:Int=>[(.nilIface,(dC er eb)),(.slice a n c,(D.sl 3 (aj eW l))),(.slice a1 n1 c1,(D.sl 11 (aj gg (opsOf key l)))),(.slice a2 ((eL key l).length) c2,(D.sl 11 (aj gg (eL key l))))]) (fun i:Int=>((eL key l).length - i).toNat) (fun i:Int=>(0≤i∧i≤(eL key l).length)) 0 [4,5,6,8,9,29,30,31] [0,1] [] [0,1,2,3] ?_ (by kernel_rfl) rfl rfl rfl ?_
  ·exact⟨by simp,by simp⟩
  rintro i ⟨hi0,hi⟩
  refine Zs [zR 0] [] [zB 32 (decide (i<(↑(eL key l).length:Int)))] ?_
  refine aq ?_
  refine cC (t:=decide (i<(↑(eL key l).length:Int))) (fun hlt=>?_) (fun hlt=>?_)
  ·have fa:i<(eL key l).length:=by simpa using hlt
   obtain⟨x,hx⟩:∃x,(eL key l)[i.toNat]?=some x:=⟨_,ak (by omega)⟩
   refine j0 3 rfl i.toNat (dD hx) (by kernel_rfl) (fun b1 fu uf vi vm fg cJ ha1 cP=>?_)
   cases ha1
   have cg:=oO (cP 0 _ rfl)
   have gJ:=cP 1 _ rfl
   have gV:=cP 2 _ rfl
   have jH:=cP 3 _ rfl
   have jG:=cP 4 _ rfl
   have jF:=cP 5 _ rfl
   have jE:=cP 6 _ rfl
   have lC:=cP 7 _ rfl
   have lB:=cP 8 _ rfl
   have mM:=cP 9 _ rfl
   have kA:=cP 10 _ rfl
   try simp only[aQ]
   refine aG (aq (aM ?_))
   refine Zu [.rd 0 [] 0 2,.rd 1 [.r 0 (some (nI x.o.no)),.r 0 (some (.string x.o.key)),.r 0 (some (nI x.o.kind)),.r 0 (some (.string x.o.text)),.r 0 (some (nI x.o.n)),.r 0 (some (.bool x.o.remove)),.r 0 (some (.slice (fg,cJ).fst ((aj bK x.o.bF).length) cJ)),.r 0 (some (nI x.d.place)),.r 0 (some (nI x.d.time)),.r 0 (some (nI x.d.no)),.r 0 (some (nI x.w))] 0 0,.wr 2 [] 0,.wr 3 (ek 2 11) 0] [(3,[])] [32] (fun eR=>[zP 11 (eR 0)]) o0 (fun eR=>[(eR 0,.cells #[nI x.o.no,.string x.o.key,nI x.o.kind,.string x.o.text,nI x.o.n,.bool x.o.remove,.slice (fg,cJ).fst ((aj bK x.o.bF).length) cJ,nI x.d.place,nI x.d.time,nI x.d.no,nI x.w] 271 (0,0))]) (fun eR=>(oC hi0 (oC fa (oC cg (oC gJ (oC gV (oC jH (oC jG (oC jF (oC jE (oC lC (oC lB (oC mM (oC kA oN)))))))))))))) (fun eR=>?_)
   refine Zs [zR 0] [] [zI 35 3] ?_
   refine aM ?_
   refine Zs [zR 0,zR 1] [] [zB 36 false] ?_
   refine cF ?_
   refine Zs [zR 0,zR 1] [36] [zB 42 false] ?_
   refine cF ?_
   refine aG (eu (eu ?_))
   refine Zp [.rd 0 [] 0 1,zR 1] [42] [zI 31 (i+1)] (oC (show IntKind.i64.wrap (i+1)=i+1 from wrap_i64 (by omega) (by omega)) oN) ?_
   refine bC (i+1) [4,5,6,8,9,29,30,31] [0,1] [] [0,1,2,3] ?_ ?_ (by kernel_rfl) rfl rfl rfl
   ·exact⟨by omega,by omega⟩
   ·omega
  ·refine dO rfl ?_
   refine aq ?_
   refine Zs [zR 0,zR 1] [32,8,29,30,31] [zB 53 true] ?_
   refine gR ?_
   refine jT [(0,true),(1,false),(2,false),(3,false),(4,true),(5,false)] [] ?_
   refine Ya [zR 0] [53,6] [zS 54 a2 ((eL key l).length) c2] ?_
   refine Yc 163 #[.slice a2 ((eL key l).length) c2] (some 55) fun w S hG=>?_
   refine(Lv (hG.at 3 rfl) (by omega) JF).mono ?_
   rintro e3 w3 ⟨mb,es,clock,ks,F,hR,hm,hst,hnd,k7⟩
   refine⟨_,_,_,hR,?_⟩
   have hp:=MS hm hnd
   have EB:∀t,t∈ks↔t∈(rq (eL key l)).map (·.o.text):=fun t=>by rw[k7,Bz]
   have z6:ks.length≤(eL key l).length:=by
    have h1:ks.length≤((rq (eL key l)).map (·.o.text)).length:=hnd.length_le_of_subset fun t ht=>(EB t).1 ht
    rw[aA]at h1
    exact aZ h1 (cH _ _)
   have N9:es.size≤4000000:=by
    have h1:=hp.length_eq
    rw[aA,Array.length_toList]at h1
    omega
   have T1:∀x∈es.toList,(uI x.key).size≤1000000:=fun x hx=>by
    have h1:=(EB _).1 (hp.mem_iff.1 (aB.2 ⟨x,hx,rfl⟩))
    obtain⟨y,hy,he⟩:=aB.1 h1
    obtain⟨p,hp2⟩:=uT hc (sB (aP.1 hy).1)
    have h2:=qA hp2
    rw[←he]
    omega
   try simp only[aQ]
   refine Yc 162 #[.map (some mb)] (some 56) fun w S hG=>?_
   refine(Om (w:=w) (S:=S) (mb:=mb)).mono ?_
   rintro e4 w4 ⟨bx,ty,hR⟩
   refine⟨_,_,_,hR,?_⟩
   try simp only[aQ]
   refine nJ [] [0] 161 #[.func (.func 205) #[] #[.pointer (some (⟨bx,0,none⟩))]] (some 57) lG (by kernel_rfl) (by kernel_rfl) (by decide) (fun w S M hP hG _=>?_)
   refine(Dc hP hm.key hst N9 T1 (hG.at 4 rfl)).mono ?_
   rintro e5 w5 ⟨ua,un,uc,hR⟩
   rw[De hp,Fe hnd EB]at hR
   refine⟨_,_,_,hR,?_⟩
   try simp only[aQ]
   refine Ym [zR 4,.wr 5 [.o 1 none] 0] [57,56,55,54] (fun _=>[]) (fun _=>[(1,.cells #[nI 3,.string (aL #[]),nI 0,.slice ua un uc] 64 (0,0))]) o0 [] (fun _=>?_)
   refine aC ?_
   refine Zv [.rd 0 (ek 1 4) 0 0,.wr 1 (ek 0 4) 0,zR 2] [(1,[0])] [9] (fun _=>[]) (fun _=>[(0,.cells #[nI 3,.string (aL #[]),nI 0,.slice ua un uc] 64 (0,0))]) o0 (fun _=>?_)
   refine Yr [(ek 0 4),[]] (.tuple #[.agg #[nI 3,.string (aL #[]),nI 0,.slice ua un uc],.nilIface]) fun a w s=>?_
   rw[hval]
   exact .inr ⟨hc,_,_,_,s.pB (by simp) [] [5] rfl rfl⟩
set_option maxHeartbeats 4000000 in
theorem Vi {w:World} {S:Nat→Prop} {er:Nat→Addr} {eb:Nat→Array Value×TypeId} {a:Option Addr} {n c:Nat} {key:ByteArray} {l:List bO} (hC:cm w S .nilIface (dC er eb)) (h:cm w S (.slice a n c) (.sl 3 (l.map eW))) (hl:l.length≤300000) (ja:∀x∈l,x.when.length≤1000000) (kS:∀x∈l,x.ops.length≤1000000) :
  Calls Tryz.prog 105 #[.string key,.slice a n c] w fun e w'=>((cZ key l).code≠0∧D7 (zero w) S w' e er (cZ key l) fun v=>.tuple #[CZ,v])∨((cZ key l).code=0∧∃ua un uc,cQ [] (zero w) S w' e (.tuple #[w8 (Sx.valOf key l) (.slice ua un uc),.nilIface]) [] [(.slice ua un uc,pe (Sx.valOf key l).set)]):=by
 by_cases Cj:kindOf (opsOf key l)=3
 ·exact SC hC h hl ja kS Cj
 ·refine(SB hC h hl ja kS Cj).mono ?_
  rintro e w' (⟨h1,h2⟩|⟨h1,h2⟩)
  ·exact .inl ⟨h1,FZ h2⟩
  ·have hs:(Sx.valOf key l).set=[]:=by simp only[Sx.valOf,if_neg Cj]
   refine .inr ⟨h1,none,0,0,?_⟩
   rw[hs]
   have hz:=xy h2
   obtain⟨aU,q1,q2,q3,q4⟩:=hz.gh
   exact⟨hz.ret,hz.fr,aU,q1,q2,q3,fun x hx=>by
    obtain rfl:=ay.1 hx
    exact .nil⟩
end Go.Proofs.YtmkapocibaojdaaGreatDoor
end
section
namespace Go.Proofs.YtmkapocibaojdaaGreatDoor
open Go Go.Sx
theorem cm.Ou {w:World} {S:Nat→Prop} {a:Option Addr} {n c k:Nat} {rows:List (List D)} (h:cm w S (.slice a n c) (.sl k rows)) (h0:rows≠[]):∃b off,a=some ⟨b,off,none⟩:=by
 cases h with
 | nil=>exact absurd rfl h0
 | sl u hb hS hc=>exact⟨_,_,rfl⟩
end Go.Proofs.YtmkapocibaojdaaGreatDoor
end
section
namespace Go.Sx
open Go
section fork
variable {P:Program} {ops:Array Oper} {Q:Exit→Act→World→Prop}
theorem CY {us us':List (Nat×Obj)} {o:Oper} {v v':Value} {a:Act} {w:World} (h:YieldsIf P ops (Hp us) o v a) (h':YieldsIf P ops (Hp us') o v' a) (hw:Hp us w) (hw':Hp us' w):v=v':=by
 rcases h with ⟨h1,h2⟩|⟨h1,h2⟩ <;> rcases h' with ⟨h3,h4⟩|⟨h3,h4⟩
 ·have:=(h2 w hw).symm.trans (h4 w hw')
  simpa using this
 ·rw[h1]at h3;cases h3
 ·rw[h1]at h3;cases h3
 ·rw[h2,h4]
def o6 (ops:Array Oper):Nat→List (Nat×Bool)→List (Nat×Bool)→Array Bool→Bool
 | 0,(i,false)::r1,(j,false)::r2,listed=>Region.ready .any ops listed==[i,j]&&nL ops r1 (listed.setIfInBounds i true)&&nL ops r2 (listed.setIfInBounds j true)
 | m+1,(i,true)::r1,(j,true)::r2,listed=>lR i j&&(Region.ready .any ops listed).contains i&&Region.free .any ops listed i&&o6 ops m r1 r2 (listed.setIfInBounds i true)
 | _,_,_,_=>false
theorem mz {listed:Array Bool} {i k:Nat} (hk:(listed.setIfInBounds i true).getD k true=false):i≠k∧listed.getD k true=false:=by
 have N5:i≠k:=by
  rintro rfl
  rcases dP i listed.size with h'|h'
  ·simp[h']at hk
  ·simp[h']at hk
 rw[getD_set_ne true N5]at hk
 exact⟨N5,hk⟩
theorem tq (hs:Region.noSelect ops=true) (hQ:∀(i:Nat) (o:Oper),ops[i]?=some o→∀c a v w,Q (.panic c) (a.put o.dst v) w→Q (.panic c) a w) {B:Nat} (W0:Nat→Option (List Nat)) {i:Nat} {rest:List (Nat×Bool)} {W:List (Nat×List Nat)} {listed:Array Bool} {a:Act} {w:World}
  (hr:i∈Region.ready .any ops listed) (hp:nL ops rest (listed.setIfInBounds i true)=true) (mj:Down .any ops listed) (hW:∀j,listed.getD j true=false→W.lookup j=W0 j) (h:PW P ops Q B true ((i,false)::rest) W a w) :
  wpOp P ops Q i (fun a' w'=>BG B (W0 i) w w'∧qZ P .any ops Q B W0 rest.length (listed.setIfInBounds i true) a' w') a w:=by
 have hun:listed.getD i true=false:=(mem_ready.1 hr).1
 refine wpOp_mono (fun a' w' hh=>⟨?_,qY hs hQ W0 rest (W.filter (·.1 != i)) _ _ _ hp (mj.list hr) (fun k hk=>?_) hh.2⟩) h
 ·rw[←hW i hun];exact hh.1 rfl
 ·obtain⟨N5,JC⟩:=mz hk
  rw[jB i k (Ne.symm N5)]
  exact hW k JC
theorem oo (hs:Region.noSelect ops=true) (hQ:∀(i:Nat) (o:Oper),ops[i]?=some o→∀c a v w,Q (.panic c) (a.put o.dst v) w→Q (.panic c) a w) {B:Nat} (W0:Nat→Option (List Nat)) :
  ∀(m:Nat) (q1 q2:List (Nat×Bool)) (W:List (Nat×List Nat)) (listed:Array Bool) (a:Act) (w:World),o6 ops m q1 q2 listed=true→q2.length=q1.length→Down .any ops listed →
   (∀j,listed.getD j true=false→W.lookup j=W0 j)→PW P ops Q B true q1 W a w→PW P ops Q B true q2 W a w→qZ P .any ops Q B W0 q1.length listed a w
 | 0,(i,false)::r1,(j,false)::r2,W,listed,a,w,hp,hl,mj,hW,h1,h2=>by
  simp only[o6,bT,beq_iff_eq]at hp
  obtain⟨⟨hr,hp1⟩,hp2⟩:=hp
  have hi:i∈Region.ready .any ops listed:=by rw[hr];simp
  have hj:j∈Region.ready .any ops listed:=by rw[hr];simp
  have kS:r2.length=r1.length:=by simpa using hl
  refine⟨fun h0=>absurd h0 (by rw[hr];simp),fun k hk=>?_⟩
  rw[hr]at hk
  rcases cE.1 hk with rfl|hk
  ·exact tq hs hQ W0 hi hp1 mj hW h1
  ·obtain rfl:=ay.1 hk
   have:=tq hs hQ W0 hj hp2 mj hW h2
   rw[kS]at this
   exact this
 | m+1,(i,true)::r1,(j,true)::r2,W,listed,a,w,hp,hl,mj,hW,h1,h2=>by
  simp only[o6,bT]at hp
  obtain⟨⟨⟨hij,hr⟩,hf⟩,hp'⟩:=hp
  obtain rfl:=dR hij
  obtain⟨o,v,us,ho,hy,hS,hd,sY⟩:=h1
  obtain⟨o',v',us',Nb,hy',KJ,_,M4⟩:=h2
  rw[ho]at Nb
  cases Nb
  obtain rfl:=CY hy hy' hS KJ
  refine qn (us:=us) ho (Region.noSelect_spec hs) (fun c a w=>hQ _ _ ho c a v w) r1.length listed a w ?_ mj (by simpa using hr) hy hS ?_
  ·intro k ok hok LS hun hno
   refine⟨Region.free_spec ho hf k ok hok LS hun hno,fun l hl=>?_⟩
   rw[←hW k hun]at hl
   exact hd rfl _ (nk hl)
  ·exact oo hs hQ W0 m r1 r2 W _ _ _ hp' (by simpa using hl) (mj.list (by simpa using hr)) (fun k hk=>hW k (mz hk).2) sY M4
 | 0,[],_,_,_,_,_,hp,_,_,_,_,_=>by simp[o6]at hp
 | 0,(_,true)::_,_,_,_,_,_,hp,_,_,_,_,_=>by simp[o6]at hp
 | 0,(_,false)::_,[],_,_,_,_,hp,_,_,_,_,_=>by simp[o6]at hp
 | 0,(_,false)::_,(_,true)::_,_,_,_,_,hp,_,_,_,_,_=>by simp[o6]at hp
 | _+1,[],_,_,_,_,_,hp,_,_,_,_,_=>by simp[o6]at hp
 | _+1,(_,false)::_,_,_,_,_,_,hp,_,_,_,_,_=>by simp[o6]at hp
 | _+1,(_,true)::_,[],_,_,_,_,hp,_,_,_,_,_=>by simp[o6]at hp
 | _+1,(_,true)::_,(_,false)::_,_,_,_,_,hp,_,_,_,_,_=>by simp[o6]at hp
def DI (ops:Array Oper) (m:Nat) (q1 q2:List (Nat×Bool)):Bool:=
 Region.noSelect ops&&lR q1.length ops.size&&lR q2.length q1.length&&o6 ops m q1 q2 (lS ops.size false)
theorem wZ {id:Nat} {a:Act} {w:World} (hm:P.follows .mixedOrders=true) (hQ:∀(i:Nat) (o:Oper),ops[i]?=some o→∀c a v w,Q (.panic c) (a.put o.dst v) w→Q (.panic c) a w) (m:Nat) (q1 q2:List (Nat×Bool)) (W:List (Nat×List Nat)) (hok:DI ops m q1 q2=true) {B:Nat}
  (h1:PW P ops Q B true q1 W a { w with drawn:=w.drawn+1 }) (h2:PW P ops Q B true q2 W a { w with drawn:=w.drawn+1 }):(Code.region id ops true).wp P Q a w:=by
 simp only[DI,bT]at hok
 obtain⟨⟨⟨hs,ja⟩,kS⟩,hp⟩:=hok
 have hlen:=dR ja
 refine wp_region_any hm (ql (B:=B) (W:=fun j=>W.lookup j) _ _ _ _ ?_)
 rw[←hlen]
 rw[←hlen]at hp
 refine oo hs hQ _ m q1 q2 W _ _ _ hp (dR kS) (fun j o ho hl=>?_) (fun _ _=>rfl) h1 h2
 have hlt:=(bJ.1 ho).1
 rw[hlen]at hl
 simp[hlt]at hl
end fork
section rule
variable {P:Program} {f:Func} {R:Act→World→Prop} {n:Nat} {k:List oR} {E:Env} {h r:List (Nat×Obj)} {F:List (List Nat×World)} {Y:fQ}
theorem NT (hm:P.follows .mixedOrders=true) {id:Nat} (m:Nat) (q1 q2:List (Nat×Bool)) (Wp:List (Nat×List Nat)) (hok:DI (bS f id) m q1 q2=true) (Ix:oT h.length Wp=true)
  (H1:JR P f R n (bS f id) h.length true q1 Wp k E h r F Y) (H2:JR P f R n (bS f id) h.length true q2 Wp k E h r F Y):J P f R n (.c (.rg id true)::k) E h r F Y:=fun a w ⟨aU,s⟩=>by
 have key:∀{q} (H:JR P f R n (bS f id) h.length true q Wp k E h r F Y) w,nH n E h r F Y a w aU→PW P (bS f id) (mq P f R k) w.heap.size true q (kp aU.flatten h Wp) a w:=fun H w s=>
  H w.heap.size aU.flatten aU a w s (fun b hb=>.inl hb) ⟨fun i _ x hx=>⟨s.own.own.lt (ae hx),fun hm=>s.gh.mw _ hm (aB.2 ⟨x,ae hx,rfl⟩)⟩,fun x hx=>⟨s.own.ro.lt hx,s.gh.apart x hx⟩,aX _,aX _⟩
   (fun j hj x hx=>by rw[cO hj]at hx;cases hx) Ix
 simp only[mq,Sk.code]
 exact wZ hm (fun i o ho c a v w hq=>absurd hq (pI _ _ _ _)) m q1 q2 _ hok (key H1 _ s.drew) (key H2 _ s.drew)
end rule
end Go.Sx
end
section
namespace Go.Sx
open Go
section QJ
variable {P:Program} {ops:Array Oper} {Q:Exit→Act→World→Prop}
def BW (ops:Array Oper):List (Nat×Bool)→Array Bool→Option (Array Bool)
 | [],listed=>some listed
 | (i,true)::rest,listed=>if ((Region.ready .any ops listed).contains i&&Region.free .any ops listed i)=true then BW ops rest (listed.setIfInBounds i true)else none
 | (_,false)::_,_=>none
def zG (ops:Array Oper) (rs:List (Nat×Bool)) (i:Nat) (q1 q2:List (Nat×Bool)) (j:Nat) (q3:List (Nat×Bool)) (listed:Array Bool):Bool:=match BW ops rs listed with
 | some l=>Region.ready .any ops l==[i,j]&&o6 ops 0 q1 q2 (l.setIfInBounds i true)&&nL ops q3 (l.setIfInBounds j true)
 | none=>false
def Lu (P:Program) (ops:Array Oper) (Q:Exit→Act→World→Prop) (B i:Nat) (q1 q2:List (Nat×Bool)) (W:List (Nat×List Nat)) (a:Act) (w:World):Prop:=
 wpOp P ops Q i (fun a' w'=>BG B (W.lookup i) w w'∧PW P ops Q B true q1 (W.filter (·.1 != i)) a' w'∧PW P ops Q B true q2 (W.filter (·.1 != i)) a' w') a w
theorem qM (hs:Region.noSelect ops=true) (hQ:∀(i:Nat) (o:Oper),ops[i]?=some o→∀c a v w,Q (.panic c) (a.put o.dst v) w→Q (.panic c) a w) {B:Nat} (W0:Nat→Option (List Nat)) {i j:Nat} {q1 q2 q3:List (Nat×Bool)} (kS:q2.length=q1.length) (qE:q3.length=q1.length) (W:List (Nat×List Nat)) :
  ∀(rs:List (Nat×Bool)) (listed:Array Bool) (a:Act) (w:World),zG ops rs i q1 q2 j q3 listed=true→Down .any ops listed→(∀j,listed.getD j true=false→W.lookup j=W0 j) →
   PW P ops (fun _ a w=>Lu P ops Q B i q1 q2 W a w∧PW P ops Q B true ((j,false)::q3) W a w) B true rs W a w→qZ P .any ops Q B W0 (rs.length+(q1.length+1)) listed a w
 | [],listed,a,w,hp,mj,hW,h=>by
  simp only[zG,BW,bT,beq_iff_eq]at hp
  obtain⟨⟨hr,hF⟩,WE⟩:=hp
  obtain⟨h1,h2⟩:=h
  have hi:i∈Region.ready .any ops listed:=by rw[hr];simp
  have hj:j∈Region.ready .any ops listed:=by rw[hr];simp
  rw[lW,aK]
  refine⟨fun h0=>absurd h0 (by rw[hr];simp),fun k hk=>?_⟩
  rw[hr]at hk
  rcases cE.1 hk with rfl|hk
  ·have hun:listed.getD k true=false:=(mem_ready.1 hi).1
   refine wpOp_mono (fun a' w' hh=>⟨?_,?_⟩) h1
   ·rw[←hW k hun]
    exact hh.1
   ·refine oo hs hQ W0 0 q1 q2 _ _ _ _ hF kS (mj.list hi) (fun l hl=>?_) hh.2.1 hh.2.2
    obtain⟨z6,kS⟩:=mz hl
    rw[jB k l (Ne.symm z6)]
    exact hW l kS
  ·obtain rfl:=ay.1 hk
   have:=tq hs hQ W0 hj WE mj hW h2
   rw[qE]at this
   exact this
 | (r,true)::rs,listed,a,w,hp,mj,hW,h=>by
  have hp':((Region.ready .any ops listed).contains r&&Region.free .any ops listed r)=true∧zG ops rs i q1 q2 j q3 (listed.setIfInBounds r true)=true:=by
   simp only[zG,BW]at hp ⊢
   split at hp
   ·rename_i l hl
    split at hl
    ·rename_i hc
     exact⟨hc,by rw[hl];exact hp⟩
    ·cases hl
   ·cases hp
  obtain⟨hc,hp'⟩:=hp'
  rw[bT]at hc
  obtain⟨hr,hf⟩:=hc
  obtain⟨o,v,us,ho,hy,hS,hd,sY⟩:=h
  rw[eF,Nat.add_right_comm]
  refine qn (us:=us) ho (Region.noSelect_spec hs) (fun c a w=>hQ _ _ ho c a v w) (rs.length+(q1.length+1)) listed a w ?_ mj (by simpa using hr) hy hS ?_
  ·intro k ok hok LS hun hno
   refine⟨Region.free_spec ho hf k ok hok LS hun hno,fun l hl=>?_⟩
   rw[←hW k hun]at hl
   exact hd rfl _ (nk hl)
  ·exact qM hs hQ W0 kS qE W rs _ _ _ hp' (mj.list (by simpa using hr)) (fun k hk=>hW k (mz hk).2) sY
 | (_,false)::_,_,_,_,hp,_,_,_=>by simp[zG,BW]at hp
def A3 (ops:Array Oper) (rs:List (Nat×Bool)) (i:Nat) (q1 q2:List (Nat×Bool)) (j:Nat) (q3:List (Nat×Bool)):Bool:=
 Region.noSelect ops&&lR (rs.length+(q1.length+1)) ops.size&&lR q2.length q1.length&&lR q3.length q1.length&&zG ops rs i q1 q2 j q3 (lS ops.size false)
theorem wC {id:Nat} {a:Act} {w:World} (hm:P.follows .mixedOrders=true) (hQ:∀(i:Nat) (o:Oper),ops[i]?=some o→∀c a v w,Q (.panic c) (a.put o.dst v) w→Q (.panic c) a w) {rs:List (Nat×Bool)} {i j:Nat} {q1 q2 q3:List (Nat×Bool)} (W:List (Nat×List Nat)) (hok:A3 ops rs i q1 q2 j q3=true) {B:Nat}
  (h:PW P ops (fun _ a w=>Lu P ops Q B i q1 q2 W a w∧PW P ops Q B true ((j,false)::q3) W a w) B true rs W a { w with drawn:=w.drawn+1 }):(Code.region id ops true).wp P Q a w:=by
 simp only[A3,bT]at hok
 obtain⟨⟨⟨⟨hs,ja⟩,kS⟩,qE⟩,hp⟩:=hok
 have hlen:=dR ja
 refine wp_region_any hm (ql (B:=B) (W:=fun j=>W.lookup j) _ _ _ _ ?_)
 rw[←hlen]
 rw[←hlen]at hp
 refine qM hs hQ _ (dR kS) (dR qE) W rs _ _ _ hp (fun j o ho hl=>?_) (fun _ _=>rfl) h
 have hlt:=(bJ.1 ho).1
 rw[hlen]at hl
 simp[hlt]at hl
end QJ
section rule
variable {P:Program} {f:Func} {R:Act→World→Prop} {n:Nat} {k:List oR} {E:Env} {h r:List (Nat×Obj)} {F:List (List Nat×World)} {Y:fQ}
def V5 (P:Program) (f:Func) (R:Act→World→Prop) (n:Nat) (ops:Array Oper) (L0:Nat) (i:Nat) (q1 q2:List (Nat×Bool)) (Wp:List (Nat×List Nat)) (k:List oR) (E:Env) (h r:List (Nat×Obj)) (F:List (List Nat×World)) (Y:fQ):Prop:=
 ∀B Hd aU a w,nH n E h r F Y a w aU→(∀b∈aU.flatten,b∈Hd∨B≤b)→RI Hd B L0 h r w→Lh B L0 h→oT L0 Wp=true→Lu P ops (mq P f R k) B i q1 q2 (kp Hd h Wp) a w
theorem Ln (hm:P.follows .mixedOrders=true) {id:Nat} (pl:List Pl) (i j:Nat) (q1 q2 q3:List (Nat×Bool)) (Wp:List (Nat×List Nat)) (keep:List Nat) {E1:(Nat→Nat)→Env} {p1:(Nat→Nat)→List Prop} (hok:A3 (bS f id) (pl.map Pl.key) i q1 q2 j q3=true) (Ix:oT h.length Wp=true)
  (hr:∀nu,(packed (ef P n nu f id h.length true pl Wp E h r keep),ow (ef P n nu f id h.length true pl Wp E h r keep))=(some (E1 nu,h,p1 nu,Wp),ou (ef P n nu f id h.length true pl Wp E h r keep))) (hp:∀nu,vh (p1 nu))
  (H1:∀nu,V5 P f R n (bS f id) h.length i q1 q2 Wp k (E1 nu) h r F Y) (H3:∀nu,JR P f R n (bS f id) h.length true ((j,false)::q3) Wp k (E1 nu) h r F Y):J P f R n (.c (.rg id true)::k) E h r F Y:=fun a w ⟨aU,s0⟩=>by
 have s:=s0.drew
 have hH:∀b∈aU.flatten,b∈aU.flatten∨w.heap.size≤b:=fun b hb=>.inl hb
 have hR:RI aU.flatten w.heap.size h.length h r { w with drawn:=w.drawn+1 }:=⟨fun i _ x hx=>⟨s0.own.own.lt (ae hx),fun hm=>s0.gh.mw _ hm (aB.2 ⟨x,ae hx,rfl⟩)⟩,fun x hx=>⟨s0.own.ro.lt hx,s0.gh.apart x hx⟩,aX _,aX _⟩
 have hN:Lh w.heap.size h.length h:=fun j hj x hx=>by rw[cO hj]at hx;cases hx
 simp only[mq,Sk.code]
 refine wC (B:=w.heap.size) (rs:=pl.map Pl.key) hm (fun i o ho c a v w hq=>absurd hq (pI _ _ _ _)) (kp aU.flatten h Wp) hok ?_
 obtain⟨h2,h3⟩:=kP (hr (fun j=>w.heap.size+j))
 unfold ef at h2 h3
 split at h2
 ·rename_i E' x' W' p hrun
  rw[hrun]at h3
  simp only[packed,az,aH]at h2
  obtain⟨e1,e2,e3,e4⟩:=h2
  have key:=AF (Q:=fun _ a w'=>Lu P (bS f id) (mq P f R k) w.heap.size i q1 q2 (kp aU.flatten h Wp) a w'∧PW P (bS f id) (mq P f R k) w.heap.size true ((j,false)::q3) (kp aU.flatten h Wp) a w') (rest:=[]) pl Wp E ⟨h,0,[]⟩ E' x' W' p hrun (oM p h3 (by rw[e3];exact hp _)) Ix a { w with drawn:=w.drawn+1 } s.ag s.own (fun j=>by simp) hR hN fun a' w' hA hO _ Oc Od hd Nw=>?_
  ·rw[bf]at key
   exact key
  ·rw[e2]at hO Oc Od hd
   have Xr:Ag n (E1 fun j=>w.heap.size+j) a':=hA.sub (by rw[←e1];exact oe E' keep)
   have s':=s.go Xr hO hd
   exact⟨H1 _ w.heap.size aU.flatten aU a' w' s' hH Oc Od Ix,H3 _ w.heap.size aU.flatten aU a' w' s' hH Oc Od Ix⟩
 ·cases h2
end rule
end Go.Sx
end
section
namespace Go.Sx
open Go
section reads
variable {P:Program} {f:Func} {R:Act→World→Prop} {n:Nat} {kk:List oR} {E:Env} {h r:List (Nat×Obj)} {F:List (List Nat×World)}
theorem nH.show {Y:fQ} {a:Act} {w:World} {aU:List (List Nat)} (s:nH n E h r F Y a w aU) (i:Nat) {b:Nat} {o:Obj} (hi:Y.C[i]?=some (bL b o)):nH n E (h++[(b,o)]) r F ⟨Y.S,Y.C.eraseIdx i,Y.G⟩ a w (aU.eraseIdx i):=by
 obtain⟨fp,og,rfl,hb⟩:=s.gh.kF.at hi
 have hm:b∈aU.flatten:=cK.2 ⟨_,ae og,by simp⟩
 have hnb:b∉(aU.eraseIdx i).flatten:=fun hc=>by
  obtain⟨j,x,hj,hx,KG⟩:=kJ hc
  exact hj (qH s.gh.nodup hx og KG (by simp))
 have sM:(h++[(b,o)]).map (·.1)=h.map (·.1)++[b]:=by simp
 have hS:∀c,Sd Y h aU c→Sd Y (h++[(b,o)]) (aU.eraseIdx i) c:=fun c hc=>⟨hc.1,fun hx=>by
  rw[sM]at hx
  rcases au.1 hx with hx|hx
  ·exact hc.2.1 hx
  ·rw[ay]at hx
   subst hx
   exact hc.2.2 hm,fun hx=>hc.2.2 (c7 hx)⟩
 have hin:∀x∈h++[(b,o)],x∈h∨x=(b,o):=fun x hx=>by simpa using hx
 refine⟨s.ag,⟨fun x hx=>?_,?_,s.own.ro,fun x hx hc=>?_⟩,s.fr,fun f hf x hx=>?_,
  ⟨s.gh.kF.erase.mono (fun _ _=>rfl) fun c hc _=>⟨hS c hc,rfl⟩,gH s.gh.nodup (cG _ _),fun c hc hx=>?_,fun x hx hc=>s.gh.apart x hx (c7 hc),fun f hf c hc=>s.gh.may f hf c (c7 hc),fun c hc=>s.gh.lt c (c7 hc),fun x hx=>?_,fun c hc=>s.gh.kT c (c7 hc),s.gh.top,fun x hx=>(s.gh.g x hx).mono fun c hc _=>⟨hS c hc,rfl⟩⟩⟩
 ·rcases hin x hx with h1|rfl
  ·exact s.own.own x h1
  ·exact hb
 ·rw[sM,be]
  refine⟨s.own.nodup,by simp,fun x hx y hy hxy=>?_⟩
  simp at hy
  subst hy hxy
  exact s.gh.mw _ hm hx
 ·rw[sM]at hc
  rcases au.1 hc with hc|hc
  ·exact s.own.apart x hx hc
  ·rw[ay]at hc
   exact s.gh.apart x hx (by rw[hc];exact hm)
 ·rcases hin x hx with h1|rfl
  ·exact s.may f hf x h1
  ·exact s.gh.may f hf _ hm
 ·rw[sM]at hx
  rcases au.1 hx with hx|hx
  ·exact s.gh.mw c (c7 hc) hx
  ·rw[ay]at hx
   subst hx
   exact hnb hc
 ·rcases hin x hx with h1|rfl
  ·exact s.gh.own x h1
  ·exact s.gh.kT _ hm
end reads
end Go.Sx
end
section
namespace Go.Sx
open Go
section
variable {P:Program} {f:Func} [Pan f] {R:Act→World→Prop} {n:Nat} [Dfr n] {k:List oR} {E:Env} {h r:List (Nat×Obj)} {F:List (List Nat×World)} {Y:fQ}
theorem JN {S0:Nat→Prop} {C0:List Chunk} {G0:List (Value×D)} {ops:Array Oper} {L0:Nat} {ck:Bool} {fb:List (Nat×Bool)} {Wp:List (Nat×List Nat)} (C':List Chunk) (H:JR P f R n ops L0 ck fb Wp k E h r F ⟨S0,C',G0⟩) (hC:C0=C':=by kernel_rfl):JR P f R n ops L0 ck fb Wp k E h r F ⟨S0,C0,G0⟩:=by
 subst hC
 exact H
end
def MR (P:Program) (fn:Func) (Rr:Ending→World→Prop) (u:FrameMode) (a:Act) (w:World):Prop:=∀tmps:Array Value,tmps.size=a.tmps.size→(∀p∈pins fn,tmps.getD p undef=a.tmps.getD p undef)→Leaves P fn tmps Rr a.defers u w
theorem HF {fn:Func} {a:Act} {d:Option Tmp} {v:Value} (hd:qx fn d=true):∀p∈pins fn,(a.put d v).tmps.getD p undef=a.tmps.getD p undef:=by
 intro p hp
 cases d with
 | none=>rfl
 | some d=>
  have hne:d≠p:=by
   rintro rfl
   simp[qx,hp]at hd
  simp only[Act.put,dB,iv,if_neg hne]
@[reducible] def PA (P:Program) (fn:Func) (Rr:Ending→World→Prop):Pan fn where
 NZ c a w:=MR P fn Rr (.panicking c) a w
 put c a d v w hd h tmps hs ht:=by
  have:=h tmps (hs.trans (by cases d <;> simp[Act.put])) fun p hp=>(ht p hp).trans (HF hd p hp).symm
  cases d <;> exact this
theorem St.frame {n n':Nat} [Dfr n] [Dfr n'] {E E':Env} {h r:List (Nat×Obj)} {F:List (List Nat×World)} {Y:fQ} {a a':Act} {w:World} (s:St n E h r F Y a w) (hA:Ag n' E' a'):St n' E' h r F Y a' w:=by
 obtain⟨aU,s⟩:=s
 exact⟨aU,hA,s.own,s.fr,s.may,s.gh⟩
theorem tF (E:Env) {t:Nat} {ev:EV}:∀ts:List Nat,(nB E ts).lookup t=some ev→t∈ts
 | [],h=>by cases h
 | u::ts,h=>by
  unfold nB at h
  split at h
  ·by_cases ht:t=u
   ·subst ht
    exact bl ..
   ·rw[mJ _ _ ht]at h
    exact bk _ (tF E ts h)
  ·exact bk _ (tF E ts h)
theorem Ag.pinned {n:Nat} {inst:Dfr n} {fn:Func} {E:Env} {a:Act} {tmps:Array Value} (hA:@Ag n inst E a) (hs:tmps.size=a.tmps.size) (ht:∀p∈pins fn,tmps.getD p undef=a.tmps.getD p undef):@Ag n (instDfr n) (nB E (pins fn)) ⟨tmps,[]⟩:=by
 refine @Ag.mk n (instDfr n) _ _ rfl (hs.trans hA.size) fun t ev he=>?_
 have h1:=tF E _ he
 have h2:=hA.look t ev (oe E _ t ev he)
 have h3:=ht t h1
 have hlt:t<a.tmps.size:=(bJ.1 h2).1
 have fa:t<tmps.size:=by omega
 simp only[dB,h2,fR fa,jK]at h3
 rw[fR fa,h3]
end Go.Sx
end
section
namespace Go.Sx
open Go
def tX {α:Type} (p:α→Prop) (G:α→List (Value×D)) (C:α→List Chunk):Chunk where
 P w S fp:=∃x aU,fp=aU.flatten∧p x∧(∀y∈G x,cm w S y.1 y.2)∧mV w S (C x) aU
 mono:=by
  intro w w' S S' fp h hb hS
  obtain⟨x,aU,h1,h2,h3,h4⟩:=h
  exact⟨x,aU,h1,h2,fun y hy=>(h3 y hy).mono hS,h4.mono (fun b hm=>hb b (by rw[h1];exact hm)) hS⟩
section boxes
variable {h r:List (Nat×Obj)} {F:List (List Nat×World)}
theorem eZ {S0:Nat→Prop} {C0:List Chunk} {G0:List (Value×D)} (q:Nat) {α:Type} {p:α→Prop} {G:α→List (Value×D)} {C:α→List Chunk} (hq:C0[q]?=some (tX p G C)) :
  nP h r F ⟨S0,C0,G0⟩ p fun x=>⟨S0,C0.eraseIdx q++C x,G0++G x⟩:=by
 intro w aU hO H
 obtain⟨fp,og,x,ze,rfl,hp,hG,hP⟩:=H.kF.at hq
 have zZ:(aU.eraseIdx q++ze).flatten.Perm aU.flatten:=by
  rw[bj]
  exact fA.trans (yj og).symm
 have hsub:∀b∈(aU.eraseIdx q++ze).flatten,b∈aU.flatten:=fun b hb=>zZ.mem_iff.1 hb
 have hS:∀b,Sd ⟨S0,C0,G0⟩ h aU b→Sd ⟨S0,C0,G0⟩ h (aU.eraseIdx q++ze) b:=fun b hb=>mQ hsub hb
 refine⟨x,_,hp,hsub,H.less hsub (zZ.nodup_iff.2 H.nodup) ((H.kF.erase.app hP).mono (fun _ _=>rfl) fun b hb _=>⟨hS b hb,rfl⟩) fun y hy=>?_⟩
 rcases au.1 hy with hy|hy
 ·exact(H.g y hy).mono fun b hb _=>⟨hS b hb,rfl⟩
 ·exact(hG y hy).mono fun b hb _=>⟨hS b hb,rfl⟩
theorem vz (n:Nat) {ps:List Nat} (hnd:ps.Nodup):(others n ps++ps).Nodup:=by
 rw[be]
 refine⟨l9 dw jJ,hnd,fun x hx y hy hxy=>?_⟩
 subst hxy
 simp[others]at hx
 exact hx.2 hy
theorem dH {S0:Nat→Prop} {C0:List Chunk} {G0:List (Value×D)} (ps:List Nat) {α:Type} {p:α→Prop} {G:α→List (Value×D)} {C:α→List Chunk} (x:α) (hC:pick C0 ps=C x) (hG:∀y∈G x,y∈G0) (hp:p x) (hnd:ps.Nodup:=by decide) :
  nP h r F ⟨S0,C0,G0⟩ (fun _:Unit=>True) fun _=>⟨S0,o4 C0 ps++[tX p G C],G0⟩:=by
 intro w aU hO H
 have hE:(pick aU (others C0.length ps)++[(pick aU ps).flatten]).flatten=(pick aU (others C0.length ps++ps)).flatten:=by
  rw[uy,bj,bj]
  simp
 have hsub:∀b∈(pick aU (others C0.length ps)++[(pick aU ps).flatten]).flatten,b∈aU.flatten:=fun b hb=>by
  rw[hE]at hb
  exact bu hb
 have hS:∀b,Sd ⟨S0,C0,G0⟩ h aU b→Sd ⟨S0,C0,G0⟩ h (pick aU (others C0.length ps)++[(pick aU ps).flatten]) b:=fun b hb=>mQ hsub hb
 have hj:mV w (Sd ⟨S0,C0,G0⟩ h aU) [tX p G C] [(pick aU ps).flatten]:=
  ⟨⟨x,_,rfl,hp,fun y hy=>H.g y (hG y hy),hC ▸ H.kF.pick ps⟩,trivial⟩
 refine⟨(),_,trivial,hsub,H.less hsub ?_ (((H.kF.pick _).app hj).mono (fun _ _=>rfl) fun b hb _=>⟨hS b hb,rfl⟩) fun y hy=>(H.g y hy).mono fun b hb _=>⟨hS b hb,rfl⟩⟩
 rw[hE]
 exact fI H.nodup (vz _ hnd)
end boxes
end Go.Sx
end
section
namespace Go.Sx
open Go
section frames
variable {w w':World} {S:Nat→Prop} {M M1:List Nat} {e:Ending} {v:Value} {C C1 C2:List Chunk} {G G0:List (Value×D)}
theorem Pre.no (h:Pre w S M C):∀b∈M,¬S b:=fun b hb=>by
 obtain⟨_,_,_,_,h4⟩:=h
 exact(h4 b hb).2
theorem cQ.more (h:cQ M w S w' e v C G) (hM:∀b∈M,¬S b) (hG:gl w S G0):cQ M w S w' e v C (G++G0):=by
 obtain⟨h1,h2,aU,h3,h4,h5,h6⟩:=h
 refine⟨h1,h2,aU,h3,h4,h5,fun x hx=>?_⟩
 rcases au.1 hx with hx|hx
 ·exact h6 x hx
 ·refine(hG x hx).mono fun b hb hlt=>⟨⟨.inl hb,fun hf=>?_⟩,h2.block b hlt fun hm=>hM b hm hb⟩
  rcases(h5 b hf).1 with h7|h7
  ·exact hM b h7 hb
  ·omega
theorem cQ.less (h:cQ M w S w' e v C G) (hG:∀x∈G0,x∈G):cQ M w S w' e v C G0:=by
 obtain⟨h1,h2,aU,h3,h4,h5,h6⟩:=h
 exact⟨h1,h2,aU,h3,h4,h5,fun x hx=>h6 x (hG x hx)⟩
theorem Pre.open {α:Type} {p:α→Prop} {Gx:α→List (Value×D)} {Cx:α→List Chunk} (h:Pre w S M (tX p Gx Cx::C)):∃x,p x∧gl w S (Gx x)∧Pre w S M (Cx x++C):=by
 obtain⟨aU,hc,rfl,hn,hs⟩:=h
 match aU,hc with
 | _::aU,⟨⟨x,fi,rfl,hp,hG,hC⟩,hr⟩=>exact⟨x,hp,hG,fi++aU,hC.app hr,by simp,hn,hs⟩
theorem cQ.close {α:Type} {p:α→Prop} {Gx:α→List (Value×D)} {Cx:α→List Chunk} (x:α) (h:cQ M w S w' e v (Cx x++C) G) (hp:p x) (hG:∀y∈Gx x,y∈G):cQ M w S w' e v (tX p Gx Cx::C) G:=by
 obtain⟨h1,h2,aU,h3,h4,h5,h6⟩:=h
 obtain⟨f1,f2,rfl,h7,h8⟩:=h3.split
 have he:(f1.flatten::f2).flatten=(f1++f2).flatten:=by simp
 have hr:l5 S M w (f1.flatten::f2)=l5 S M w (f1++f2):=by unfold l5;rw[he]
 refine⟨h1,h2,f1.flatten::f2,?_,by rw[he];exact h4,by rw[he];exact h5,by rw[hr];exact h6⟩
 rw[hr]
 exact⟨⟨x,f1,rfl,hp,fun y hy=>h6 y (hG y hy),h7⟩,h8⟩
theorem mV.perm {cs cs':List Chunk} (hp:cs.Perm cs'):∀{aU:List (List Nat)},mV w S cs aU→∃gE,gE.flatten.Perm aU.flatten∧mV w S cs' gE:=by
 induction hp with
 | nil=>exact fun{aU} h=>⟨aU,.refl _,h⟩
 | cons c _ ih=>
  intro aU h
  match aU,h with
  | fp::aU,⟨h1,h2⟩=>
   obtain⟨f',hp,h3⟩:=ih h2
   exact⟨fp::f',by simpa using hp.append_left fp,h1,h3⟩
 | swap a b _=>
  intro aU h
  match aU,h with
  | f1::f2::aU,⟨h1,h2,h3⟩=>exact⟨f2::f1::aU,by simp only[cr,←bY];exact fA.append_right _,h2,h1,h3⟩
 | trans _ _ R6 R5=>
  intro aU h
  obtain⟨f1,hp1,h1⟩:=R6 h
  obtain⟨f2,hp2,h2⟩:=R5 h1
  exact⟨f2,hp2.trans hp1,h2⟩
theorem Pre.perm {C':List Chunk} (h:Pre w S M C) (hp:C.Perm C'):∃M',M'.Perm M∧Pre w S M' C':=by
 obtain⟨aU,hc,rfl,hn,hs⟩:=h
 obtain⟨f',hp',KF⟩:=hc.perm hp
 exact⟨_,hp',f',KF,rfl,hp'.nodup_iff.2 hn,fun b hb=>hs b (hp'.mem_iff.1 hb)⟩
theorem J2 {M':List Nat} {f f':List (List Nat)} (hM:∀b,b∈M'↔b∈M) (hf:∀b,b∈f'.flatten↔b∈f.flatten):l5 S M' w f'=l5 S M w f:=by
 funext b
 simp only[l5,sK,hM,hf]
theorem cQ.perm {C':List Chunk} {M':List Nat} (h:cQ M w S w' e v C G) (hp:C.Perm C') (hM:M'.Perm M):cQ M' w S w' e v C' G:=by
 obtain⟨h1,h2,aU,h3,h4,h5,h6⟩:=h
 obtain⟨f',hp',KF⟩:=h3.perm hp
 have hr:l5 S M' w f'=l5 S M w aU:=J2 (fun b=>hM.mem_iff) fun b=>hp'.mem_iff
 refine⟨h1,h2.mono fun x hx=>.inl (hM.mem_iff.2 hx),f',by rw[hr];exact KF,hp'.nodup_iff.2 h4,fun b hb=>?_,by rw[hr];exact h6⟩
 rw[hM.mem_iff]
 exact h5 b (hp'.mem_iff.1 hb)
theorem Pre.part (h:Pre w S M (C1++C2)):∃M1,Pre w S M1 C1∧∀{w':World} {e:Ending} {v:Value} {C':List Chunk} {G:List (Value×D)},cQ M1 w S w' e v C' G→cQ M w S w' e v (C'++C2) G:=by
 obtain⟨aU,hc,rfl,hn,hs⟩:=h
 obtain⟨f1,f2,rfl,zb,GH⟩:=hc.split
 rw[bj]at hn hs
 obtain⟨N2,rF,Nc⟩:=be.1 hn
 refine⟨f1.flatten,⟨f1,zb,rfl,N2,fun b hb=>hs b (au.2 (.inl hb))⟩,?_⟩
 intro w' e v C' G h
 obtain⟨h1,h2,aU,h3,h4,h5,h6⟩:=h
 have hout:∀b∈f2.flatten,b∉f1.flatten∧b<w.heap.size∧¬S b:=fun b hb=>⟨fun hm=>Nc b hm b hb rfl,hs b (au.2 (.inr hb))⟩
 have hS:∀b,l5 S f1.flatten w aU b→b<w'.heap.size→l5 S (f1++f2).flatten w (aU++f2) b∧w'.heap[b]?=w'.heap[b]?:=fun b hb _=>by
  obtain⟨GI,oQ⟩:=hb
  refine⟨⟨?_,?_⟩,rfl⟩
  ·rcases GI with h|h|h
   ·exact .inl h
   ·exact .inr (.inl (by rw[bj];exact au.2 (.inl h)))
   ·exact .inr (.inr h)
  ·rw[bj]
   intro hm
   rcases au.1 hm with hm|hm
   ·exact oQ hm
   ·obtain⟨ha,hb,hc⟩:=hout b hm
    rcases GI with h|h|h
    ·exact hc h
    ·exact ha h
    ·omega
 have hfr:Fr f1.flatten w w':=h2
 refine⟨h1,h2.mono fun x hx=>.inl (by rw[bj];exact au.2 (.inl hx)),aU++f2,?_,?_,?_,?_⟩
 ·refine(h3.mono (fun _ _=>rfl) hS).app (GH.mono (fun b hb=>hfr.block b (hout b hb).2.1 (hout b hb).1) fun b hb hlt=>⟨⟨.inl hb,?_⟩,hfr.block b hlt fun hm=>(hs b (au.2 (.inl hm))).2 hb⟩)
  rw[bj]
  intro hm
  rcases au.1 hm with hm|hm
  ·rcases(h5 b hm).1 with h|h
   ·exact(hs b (au.2 (.inl h))).2 hb
   ·omega
  ·exact(hout b hm).2.2 hb
 ·rw[bj]
  refine be.2 ⟨h4,rF,fun a ha b hb hab=>?_⟩
  subst hab
  rcases(h5 a ha).1 with h|h
  ·exact(hout a hb).1 h
  ·have:=(hout a hb).2.1
   omega
 ·intro b hb
  rw[bj]at hb ⊢
  rcases au.1 hb with hb|hb
  ·obtain⟨h7,h8⟩:=h5 b hb
   exact⟨h7.imp (fun h=>au.2 (.inl h)) id,h8⟩
  ·exact⟨.inl (au.2 (.inr hb)),ej (hout b hb).2.1 hfr.size⟩
 ·exact fun x hx=>(h6 x hx).mono hS
theorem Pre.star {cs:List Chunk} (h:Pre w S M (cA cs::C)):Pre w S M (cs++C):=by
 obtain⟨aU,hc,rfl,hn,hs⟩:=h
 match aU,hc with
 | _::aU,⟨⟨fi,rfl,hC⟩,hr⟩=>exact⟨fi++aU,hC.app hr,by simp,hn,hs⟩
theorem cQ.star {cs:List Chunk} (h:cQ M w S w' e v (cs++C) G):cQ M w S w' e v (cA cs::C) G:=by
 obtain⟨h1,h2,aU,h3,h4,h5,h6⟩:=h
 obtain⟨f1,f2,rfl,h7,h8⟩:=h3.split
 have he:(f1.flatten::f2).flatten=(f1++f2).flatten:=by simp
 have hr:l5 S M w (f1.flatten::f2)=l5 S M w (f1++f2):=by unfold l5;rw[he]
 refine⟨h1,h2,f1.flatten::f2,?_,by rw[he];exact h4,by rw[he];exact h5,by rw[hr];exact h6⟩
 rw[hr]
 exact⟨⟨f1,rfl,h7⟩,h8⟩
theorem set_perm {α:Type} {c':α}:∀{cs:List α} {i:Nat},i<cs.length→(c'::cs.eraseIdx i).Perm (cs.set i c')
 | _::_,0,_=>.refl _
 | a::_,_+1,h=>(List.Perm.swap a c' _).trans ((set_perm (Nat.lt_of_succ_lt_succ h)).cons a)
theorem Pre.take {cs:List Chunk} {i:Nat} {c:Chunk} (h:Pre w S M (cA cs::C)) (hi:cs[i]?=some c):∃M1,Pre w S M1 [c]∧∀{w':World} {e:Ending} {v:Value} {c':Chunk} {C2:List Chunk} {G:List (Value×D)},cQ M1 w S w' e v (c'::C2) G→cQ M w S w' e v (cA (cs.set i c')::C++C2) G:=by
 obtain⟨hl,he⟩:=ai.1 hi
 have h0:=set_perm (c':=c) hl
 rw[←he,List.set_getElem_self]at h0
 rw[he]at h0
 obtain⟨M',hM,h2⟩:=h.star.perm (C':=[c]++(cs.eraseIdx i++C)) (by simpa using h0.symm.append_right C)
 obtain⟨M1,h3,h4⟩:=h2.part
 refine⟨M1,h3,fun{w' e v c' C2 G} hr=>?_⟩
 refine((h4 hr).perm (C':=cs.set i c'++(C++C2)) ?_ hM.symm).star
 have h5:=set_perm (c':=c') hl
 have h7:(C2++(cs.eraseIdx i++C)).Perm (cs.eraseIdx i++(C++C2)):=by
  rw[←bY (cs.eraseIdx i)]
  exact fA
 exact(mT c' h7).trans (h5.append_right _)
theorem Pre.sU {α:Type} {p:α→Prop} {Gx:α→List (Value×D)} {Cx:α→List Chunk} (h:Pre w S M [tX p Gx Cx]):∃x,p x∧gl w S (Gx x)∧Pre w S M (Cx x):=by
 obtain⟨x,h1,h2,h3⟩:=h.open
 exact⟨x,h1,h2,by rwa[bf]at h3⟩
theorem cQ.nY {α:Type} {p:α→Prop} {Gx:α→List (Value×D)} {Cx:α→List Chunk} (x:α) (h:cQ M w S w' e v (Cx x) G) (hp:p x) (hG:∀y∈Gx x,y∈G):cQ M w S w' e v [tX p Gx Cx] G:=
 cQ.close x (by rwa[bf]) hp hG
theorem cQ.rO {α:Type} {p:α→Prop} {Gx:α→List (Value×D)} {Cx:α→List Chunk} (x:α) (h:cQ M w S w' e v (Cx x) G) (hp:p x) (hG:gl w S (Gx x)) (hM:∀b∈M,¬S b):cQ M w S w' e v [tX p Gx Cx] G:=
 ((h.more hM hG).nY x hp fun y hy=>au.2 (.inr hy)).less fun x hx=>au.2 (.inl hx)
theorem Pre.Es {c:Chunk} (h:Pre w S M (c::C)):∃M1,Pre w S M1 [c]∧∀{w':World} {e:Ending} {v:Value} {c':Chunk} {G:List (Value×D)},cQ M1 w S w' e v [c'] G→cQ M w S w' e v (c'::C) G:=by
 obtain⟨M1,h1,h2⟩:=Pre.part (C1:=[c]) h
 exact⟨M1,h1,fun hR=>h2 hR⟩
theorem gl.zero (h:gl w S G):gl (zero w) S G:=fun x hx=>(h x hx).mono fun _ hb _=>⟨hb,rfl⟩
theorem cQ.add (h:cQ M w S w' e v C G) (c:Chunk) (hc:∀w S,c.P w S []):cQ M w S w' e v (C++[c]) G:=by
 obtain⟨h1,h2,aU,h3,h4,h5,h6⟩:=h
 have he:(aU++[[]]).flatten=aU.flatten:=by simp
 have hr:l5 S M w (aU++[[]])=l5 S M w aU:=by unfold l5;rw[he]
 refine⟨h1,h2,aU++[[]],?_,by rw[he];exact h4,by rw[he];exact h5,by rw[hr];exact h6⟩
 rw[hr]
 exact h3.app ⟨hc _ _,trivial⟩
theorem cQ.Md {cs:List Chunk} (h:cQ M w S w' e v (cA cs::C) G):cQ M w S w' e v (cs++C) G:=by
 obtain⟨h1,h2,aU,h3,h4,h5,h6⟩:=h
 match aU,h3 with
 | _::aU,⟨⟨fi,rfl,hC⟩,hr⟩=>
  have he:(fi++aU).flatten=(fi.flatten::aU).flatten:=by simp
  have hq:l5 S M w (fi++aU)=l5 S M w (fi.flatten::aU):=by unfold l5;rw[he]
  refine⟨h1,h2,fi++aU,?_,by rw[he];exact h4,by rw[he];exact h5,by rw[hq];exact h6⟩
  rw[hq]
  exact hC.app hr
theorem cQ.push {c:Chunk} {cs:List Chunk} (h:cQ M w S w' e v [c,cA cs] G):cQ M w S w' e v [cA (cs++[c])] G:=by
 have h1:=(h.perm (C':=[cA cs,c]) (List.Perm.swap _ _ _) (.refl M)).Md
 exact cQ.star (by simpa using h1)
theorem Pre.frame (h:Pre w S M C):∀{w':World} {e:Ending} {v:Value} {C':List Chunk} {G:List (Value×D)},cQ [] w S w' e v C' G→cQ M w S w' e v (C'++C) G:=by
 obtain⟨M1,h1,h2⟩:=Pre.part (C1:=[]) (C2:=C) h
 obtain⟨aU,hc,rfl,_⟩:=h1
 match aU,hc with
 | [],_=>exact fun{_ _ _ _ _} hR=>h2 hR
theorem cQ.freeze {u:Value} {t k:Nat} {rows:List (List D)} (h:cQ M w S w' e v (aT u t k rows::C) G):cQ M w S w' e v C (G++[(u,.sl k rows)]):=by
 obtain⟨h1,h2,aU,h3,h4,h5,h6⟩:=h
 match aU,h3 with
 | fp::aU,⟨⟨hk,hP⟩,hr⟩=>
  rw[cr]at h4 h5
  obtain⟨N2,rF,Nc⟩:=be.1 h4
  have hsub:∀b,l5 S M w (fp::aU) b→l5 S M w aU b:=fun b hb=>⟨hb.1,fun hm=>hb.2 (by rw[cr,au];exact .inr hm)⟩
  refine⟨h1,h2,aU,hr.mono (fun _ _=>rfl) fun b hb _=>⟨hsub b hb,rfl⟩,rF,fun b hb=>h5 b (au.2 (.inr hb)),fun x hx=>?_⟩
  rcases au.1 hx with hx|hx
  ·exact(h6 x hx).mono fun b hb _=>⟨hsub b hb,rfl⟩
  ·rw[ay]at hx
   subst hx
   rcases hP with ⟨rfl,rfl,_⟩|⟨g,cap,cur,xs,rfl,rfl,hg,hrow,hR⟩
   ·exact .nil
   ·refine cm.HM hg ⟨.inr (h5 g (by simp)).1,fun hm=>Nc g (by simp) g hm rfl⟩ hrow hk hR.len fun i j row d h1 h2=>?_
    obtain⟨u,hu,hr⟩:=hR.El i j row d h1 h2
    exact⟨u,hu,hr.mono fun b hb _=>⟨hsub b hb,rfl⟩⟩
end frames
end Go.Sx
end
section
namespace Go.Proofs.YtmkapocibaojdaaGreatDoor
open Go Go.Sx
set_option maxHeartbeats 4000000 in
theorem Ea {w0:World} {S:Nat→Prop} {a1 a2:Option Addr} {n1 c1 n2 c2:Nat} {c:bO} (h1:cm w0 S (.slice a1 n1 c1) (aS c.when)) (h2:cm w0 S (.slice a2 n2 c2) (.sl 7 (c.ops.map fe))) (ja:c.when.length≤1000000) (kS:c.ops.length≤1000000) (qE:∀o∈c.ops,o.bF.length≤1000000) :
  Calls Tryz.prog 84 #[.agg #[.slice a1 n1 c1,.int .i64 c.place,.slice a2 n2 c2]] w0 fun e w'=>∃u1 d1 u2 d2,cQ [] w0 S w' e (.agg #[.slice u1 n1 d1,.int .i64 c.place,.slice u2 n2 d2]) [aT (.slice u1 n1 d1) 3 1 (c.when.map eI),aT (.slice u2 n2 d2) 55 7 (c.ops.map fe)] []:=by
 obtain rfl:=dJ h1
 have e2:=h2.pA
 rw[aA]at e2
 subst e2
 refine jL Tryz.func84 UO (args:=[.agg #[.slice a1 c.when.length c1,.int .i64 c.place,.slice a2 c.ops.length c2]]) (G:=[(_,aS c.when),(_,.sl 7 (c.ops.map fe))]) (by kernel_rfl) (.cons h1 (.cons h2 (.nil _ _))) ?_
 refine Zv [.wr 0 [] 0,.wr 1 [] 0] [] [0] (fun aN=>[zP 1 (aN 0),zP 2 (aN 1)]) o0 (fun aN=>[(aN 0,.cells #[.slice a1 c.when.length c1,nI c.place,.slice a2 c.ops.length c2] 35 (0,0)),(aN 1,.cells #[.slice none 0 0,nI 0,.slice none 0 0] 35 (0,0))]) (fun aN=>?_)
 refine jS [(0,true),(1,true),(2,false),(3,true),(4,false)] [] ?_
 refine Ya [zR 0,.rd 1 [.o 0 none] 0 0] [] [zS 5 a1 c.when.length c1] ?_
 refine Yc 101 #[.slice a1 c.when.length c1] (some 6) fun w S hG=>?_
 refine(p7 (hG.at 0 rfl) ja).mono ?_
 rintro e1 w1 ⟨u1,d1,hR⟩
 refine⟨_,_,_,hR,?_⟩
 try simp only[aQ]
 refine Ym [zR 3,.wr 4 [.o 0 none] 0] [6,5] (fun _=>[]) (fun _=>[(0,.cells #[.slice u1 c.when.length d1,nI c.place,.slice a2 c.ops.length c2] 35 (0,0))]) o0 [] (fun _=>?_)
 refine aC ?_
 refine jS [(0,true),(1,true),(2,false),(3,true),(4,false)] [] ?_
 refine Ya [zR 0,.rd 1 [.o 0 none] 0 0] [] [zS 9 a2 c.ops.length c2] ?_
 refine Yc 142 #[.slice a2 c.ops.length c2] (some 10) fun w S hG=>?_
 refine(Cv (hG.at 1 rfl) kS).mono ?_
 rintro e3 w3 ⟨u2,d2,hR⟩
 refine⟨_,_,_,hR,?_⟩
 try simp only[aQ]
 refine Ym [zR 3,.wr 4 [.o 0 none] 0] [10,9] (fun _=>[]) (fun _=>[(0,.cells #[.slice u1 c.when.length d1,nI c.place,.slice u2 c.ops.length d2] 35 (0,0))]) o0 [] (fun _=>?_)
 refine aC (aq ?_)
 refine Zs [zR 0,.rd 1 [.o 0 none] 0 0,zR 2,zR 3] [] [zI 14 (↑c.ops.length:Int),zI 15 0] ?_
 refine aM ?_
 refine cU (fun i:Int=>[zP 1 (aN 0),zP 2 (aN 1),zI 14 (↑c.ops.length:Int),zI 15 i]) (fun i:Int=>[(aN 0,.cells #[.slice u1 c.when.length d1,nI c.place,.slice u2 c.ops.length d2] 35 (0,0)),(aN 1,.cells #[.slice none 0 0,nI 0,.slice none 0 0] 35 (0,0))]) (fun i:Int=>[aT (.slice u1 c.when.length d1) 3 1 (aj eI c.when),aT (.slice u2 c.ops.length d2) 55 7 (aj fe c.ops)]) (fun i:Int=>[(.slice a1 c.when.length c1,(aS c.when)),(.slice a2 c.ops.length c2,(D.sl 7 (aj fe c.ops)))]) (fun i:Int=>(c.ops.length - i).toNat) (fun i:Int=>(0≤i∧i≤c.ops.length)) 0 [1,2,14,15] [0,1] [0,1] [0,1] ?_ (by kernel_rfl) rfl rfl rfl ?_
 ·exact⟨by omega,by omega⟩
 rintro i ⟨hi0,hi⟩
 refine Zs [zR 0] [] [zB 16 (decide (i<(↑c.ops.length:Int)))] ?_
 refine aq ?_
 refine cC (t:=decide (i<(↑c.ops.length:Int))) (fun hlt=>?_) (fun hlt=>?_)
 ·have fa:i<c.ops.length:=by simpa using hlt
  obtain⟨o,ho⟩:∃o,c.ops[i.toNat]?=some o:=⟨_,ak (by omega)⟩
  refine kj 1 rfl (by intro h0;rw[cM]at h0;rw[h0]at ho;simp at ho) fun g cur xs hu _ _ hrow=>?_
  subst hu
  refine b9 (jj 1 rfl i.toNat (dD ho)) fun ls hls=>?_
  obtain⟨qD,oU⟩:=hls
  obtain⟨⟨da,dc⟩,rfl⟩:∃l0,ls=[l0]:=List.length_eq_one_iff.1 qD
  have Ck:cur[0+i.toNat*7+6]?=some (.slice da (o.bF.map bK).length dc):=by rw[aK];exact hrow.L6 (oU 6 _ rfl)
  have hsz:0+i.toNat*7+6+1≤cur.size:=(bJ.1 Ck).1
  try simp only[aQ]
  refine aG ?_
  try simp only[aQ]
  refine aq ?_
  try simp only[aQ]
  refine aM ?_
  try simp only[aQ]
  refine aq ?_
  try simp only[aQ]
  refine Za [zR 0,zR 1] [16] [zI 3 i] ?_
  try simp only[aQ]
  refine jT [(0,true),(1,true),(2,true),(3,true),(4,true),(5,true),(6,true),(7,true),(8,true),(9,false),(10,true),(11,true),(12,false)] [(12,[2])] ?_
  refine Yp [zR 0,.rd 1 [.o 0 none] 0 0,zR 2,zR 3,.rd 4 [.o 0 none] 0 0,zR 5,.rd 6 [] 0 2,zR 7,.rd 8 [.o 2 (some (.slice da ((aj bK o.bF).length) dc))] 0 0] [] [zS 19 (sA g 0) c.ops.length d2,zI 20 i,zS 26 da ((aj bK o.bF).length) dc] (oC hi0 (oC fa (oC Ck oN))) ?_
  refine Yc 143 #[.slice da ((aj bK o.bF).length) dc] (some 27) fun w S hG=>?_
  refine(Ga (xs:=o.bF) (hG.at 2 rfl) (qE o (ae ho))).mono ?_
  rintro e4 w4 ⟨u3,d3,hR⟩
  refine⟨_,_,_,hR,?_⟩
  try simp only[aQ]
  refine Yn [.rd 10 [] 0 2,zR 11,.wr 12 [.o 2 (some (.slice u3 ((aj bK o.bF).length) d3))] 0] [27,19,20,26] (fun _=>[]) (fun _=>[(2,.cells (cur.setIfInBounds (0+i.toNat*7+6) (Value.slice u3 (aj bK o.bF).length d3)) 55 (0,0))]) o0 [] (fun _=>(oC hi0 (oC fa (oC (show(Value.slice u3 (aj bK o.bF).length d3).oneCell'=true from ?_) (oC (show(0:Nat)+i.toNat*7+(6:Nat)<cur.size from by omega) oN))))) (fun _=>?_)
  ·rfl
  try simp only[aQ]
  refine aC ?_
  try simp only[aQ]
  refine eu ?_
  try simp only[aQ]
  refine Zp [.rd 0 [] 0 1,zR 1] [] [zI 15 (i+1)] (oC (show IntKind.i64.wrap (i+1)=i+1 from wrap_i64 (by omega) (by omega)) oN) ?_
  try simp only[aQ]
  refine bH (dg 2 rfl) ?_
  have hsame:(aj fe c.ops).set i.toNat ((fe o).set 6 (.sl 3 (o.bF.map bK)))=aj fe c.ops:=kG (dD ho)
  refine bH (q9 1 3 i.toNat 6 rfl hrow.len (dD ho) (by decide) rfl) ?_
  rw[hsame]
  refine js 2 rfl ?_
  have uM:Row (cur.setIfInBounds (0+i.toNat*7+6) (.slice u3 (o.bF.map bK).length d3)) d2 (c.ops.map fe).length 7 (xs.set (i.toNat*7+6) (.slice u3 (o.bF.map bK).length d3)):=by rw[aK];exact hrow.Mq _ _
  refine bH (gw 2 1 rfl rfl uM (by decide)) ?_
  rw[show(aj fe c.ops).length=c.ops.length from aA ..]
  refine bC (i+1) [1,2,14,15] [0,1] [0,1] [0,1] ?_ ?_ (by kernel_rfl) rfl rfl rfl
  ·exact⟨by omega,by omega⟩
  ·omega
 ·refine dO rfl ?_
  refine Zv [.rd 0 (ek 0 3) 0 0,.wr 1 (ek 1 3) 0] [(1,[1])] [16,1,14,15] (fun _=>[]) (fun _=>[(1,.cells #[.slice u1 c.when.length d1,nI c.place,.slice u2 c.ops.length d2] 35 (0,0))]) o0 (fun _=>?_)
  refine Yr [(ek 1 3)] (.agg #[.slice u1 c.when.length d1,nI c.place,.slice u2 c.ops.length d2]) fun a w s=>?_
  exact⟨_,_,_,_,s.ret (by simp) [0,1] [] rfl rfl⟩
set_option maxHeartbeats 4000000 in
theorem Ol {w0:World} {S:Nat→Prop} {a1 a2:Option Addr} {n1 c1 n2 c2:Nat} {c:bO} (h1:cm w0 S (.slice a1 n1 c1) (aS c.when)) (h2:cm w0 S (.slice a2 n2 c2) (.sl 7 (c.ops.map fe))) (ja:c.when.length≤1000000) (kS:c.ops.length≤1000000) (qE:∀o∈c.ops,o.bF.length≤1000000) :
  Calls Tryz.prog 84 #[.agg #[.slice a1 n1 c1,.int .i64 c.place,.slice a2 n2 c2]] w0 fun e w'=>∃u1 d1 u2 d2,cQ [] w0 S w' e (.agg #[.slice u1 n1 d1,.int .i64 c.place,.slice u2 n2 d2]) [] [(.slice u1 n1 d1,aS c.when),(.slice u2 n2 d2,.sl 7 (c.ops.map fe))]:=
 (Ea h1 h2 ja kS qE).mono fun e w' ⟨_,_,_,_,hR⟩=>⟨_,_,_,_,hR.freeze.freeze⟩
set_option maxHeartbeats 4000000 in
theorem Mu {w0:World} {S:Nat→Prop} {a1 a2:Option Addr} {n1 c1 n2 c2:Nat} {m:bN} (h1:cm w0 S (.slice a1 n1 c1) (aS m.c.when)) (h2:cm w0 S (.slice a2 n2 c2) (.sl 7 (m.c.ops.map fe))) (ja:m.c.when.length≤1000000) (kS:m.c.ops.length≤1000000) (qE:∀o∈m.c.ops,o.bF.length≤1000000) :
  Calls Tryz.prog 153 #[.agg #[.int .i64 m.fm,.int .i64 m.to,.int .i64 m.de,.int .i64 m.seq,.int .i64 m.time,.bool m.dW,.slice a1 n1 c1,.int .i64 m.c.place,.slice a2 n2 c2]] w0 fun e w'=>∃u1 d1 u2 d2,
   cQ [] w0 S w' e (.agg #[.int .i64 m.fm,.int .i64 m.to,.int .i64 m.de,.int .i64 m.seq,.int .i64 m.time,.bool m.dW,.slice u1 n1 d1,.int .i64 m.c.place,.slice u2 n2 d2]) [] [(.slice u1 n1 d1,aS m.c.when),(.slice u2 n2 d2,.sl 7 (m.c.ops.map fe))]:=by
 refine jL Tryz.func153 Ry (args:=[.agg #[.int .i64 m.fm,.int .i64 m.to,.int .i64 m.de,.int .i64 m.seq,.int .i64 m.time,.bool m.dW,.slice a1 n1 c1,.int .i64 m.c.place,.slice a2 n2 c2]]) (G:=[(_,aS m.c.when),(_,.sl 7 (m.c.ops.map fe))]) (by kernel_rfl) (.cons h1 (.cons h2 (.nil _ _))) ?_
 refine Zv [.wr 0 [] 0,.wr 1 [] 0] [] [0] (fun aN=>[zP 1 (aN 0),zP 2 (aN 1)]) o0 (fun aN=>[(aN 0,.cells #[nI m.fm,nI m.to,nI m.de,nI m.seq,nI m.time,.bool m.dW,.slice a1 n1 c1,nI m.c.place,.slice a2 n2 c2] 62 (0,0)),(aN 1,.cells #[nI 0,nI 0,nI 0,nI 0,nI 0,.bool false,.slice none 0 0,nI 0,.slice none 0 0] 62 (0,0))]) (fun aN=>?_)
 refine jS [(0,true),(1,true),(2,false),(3,true),(4,false)] [] ?_
 refine Ya [zR 0,.rd 1 (ek 0 3) 0 0] [] [zV 4 (.agg #[.slice a1 n1 c1,nI m.c.place,.slice a2 n2 c2])] ?_
 refine Yc 84 #[.agg #[.slice a1 n1 c1,nI m.c.place,.slice a2 n2 c2]] (some 5) fun w S hG=>?_
 refine(Ol (c:=m.c) (hG.at 0 rfl) (hG.at 1 rfl) ja kS qE).mono ?_
 rintro e1 w1 ⟨u1,d1,u2,d2,hR⟩
 refine⟨_,_,_,hR,?_⟩
 try simp only[aQ]
 refine Ym [zR 3,.wr 4 (ek 0 3) 0] [5,4] (fun _=>[]) (fun _=>[(0,.cells #[nI m.fm,nI m.to,nI m.de,nI m.seq,nI m.time,.bool m.dW,.slice u1 n1 d1,nI m.c.place,.slice u2 n2 d2] 62 (0,0))]) o0 [] (fun _=>?_)
 refine aC ?_
 refine Zv [.rd 0 (ek 0 9) 0 0,.wr 1 (ek 1 9) 0] [(1,[1])] [1] (fun _=>[]) (fun _=>[(1,.cells #[nI m.fm,nI m.to,nI m.de,nI m.seq,nI m.time,.bool m.dW,.slice u1 n1 d1,nI m.c.place,.slice u2 n2 d2] 62 (0,0))]) o0 (fun _=>?_)
 refine Yr [(ek 1 9)] (.agg #[nI m.fm,nI m.to,nI m.de,nI m.seq,nI m.time,.bool m.dW,.slice u1 n1 d1,nI m.c.place,.slice u2 n2 d2]) fun a w s=>?_
 exact⟨u1,d1,u2,d2,s.ret (by simp) [] [2,3] rfl rfl⟩
end Go.Proofs.YtmkapocibaojdaaGreatDoor
end
section
namespace Go.Sx
open Go
structure fG where
 when:List Int
 place:Int
 op:fP
def lI (p:fG):bO:=⟨p.when,p.place,[p.op]⟩
def ku (p:fG):gi:=⟨p.place,p.when.getD p.place.toNat 0,p.op.no⟩
def ey (L:List fG) (key:ByteArray):List bO:=(L.filter fun p=>decide (p.op.key=key)).map lI
end Go.Sx
namespace Go.Proofs.YtmkapocibaojdaaGreatDoor
open Go Go.Sx
theorem iK {G:List (Value×D)}:∀n:Nat,qV G (aD n (.int .i64 0)) ((aD n (0:Int)).map eI).flatten
 | 0=>trivial
 | n+1=>⟨.inl ⟨rfl,rfl⟩,iK n⟩
set_option maxHeartbeats 4000000 in
theorem vD {nn:Nat} {E:Env} {S:Nat→Prop} {w0:World} {a:Act} {w:World} {g:Value×D} {c0 c1 c2 c3:Nat} (n:Nat) {cs:Array Value} {v:Value} (s:St nn E [(c0,.cells cs 3 (0,0)),(c1,.map #[] 0),(c2,.map #[] 0),(c3,.cells #[.int .i64 n,.slice (some ⟨c0,0,none⟩) n n,.map (some c1),.map (some c2)] 218 (0,0))] [] [([],w0)] ⟨sK S [] w0,[],[g]⟩ a w) (hR:qV [g] cs.toList ((aD n (0:Int)).map eI).flatten) :
  cQ [] w0 S w (.returned v) v [bL c3 (.cells #[.int .i64 n,.slice (some ⟨c0,0,none⟩) n n,.map (some c1),.map (some c2)] 218 (0,0)),bL c1 (.map #[] 0),cA [],eX c2 dA (cI [])] [(.slice (some ⟨c0,0,none⟩) n n,aS (aD n 0))]:=by
 obtain⟨aU,s⟩:=s
 have s1:=s.data (cap:=n) (rows:=(aD n (0:Int)).map eI) (size:=1) 0 rfl (by decide) (by intro row h;obtain⟨x,_,rfl⟩:=aB.1 h;rfl) (by simp) hR
 rw[show((aD n (0:Int)).map eI).length=n by simp]at s1
 have s2:=St.dY ⟨_,s1⟩ 2 rfl
 have s3:=s2.dY 0 rfl
 have s4:=s3.jz (oW (cA []) pJ)
 have s5:=s4.dY 0 rfl
 have s6:=s5.jz (j4 3 rfl (oB ((fM.empty dA).congr tR)))
 exact s6.ret (by simp) [0,1,2,3] [1] rfl rfl
set_option maxHeartbeats 4000000 in
theorem SD {w:World} {S:Nat→Prop} {er:Nat→Addr} {eb:Nat→Array Value×TypeId} {p:Int} (hC:cm w S .nilIface (dC er eb)) :
  Calls Tryz.prog 57 #[.int .i64 p] w fun e w'=>((p<1∨6<p)∧cQ [] w S w' e (.tuple #[.pointer none,.iface 390 (.pointer (some (er 2)))]) [] []) ∨
   ((1≤p∧p≤6)∧∃b ba mk md,cQ [] w S w' e (.tuple #[.pointer (some ⟨b,0,none⟩),.nilIface]) [bL b (.cells #[.int .i64 p,.slice (some ⟨ba,0,none⟩) p.toNat p.toNat,.map (some mk),.map (some md)] 218 (0,0)),bL mk (.map #[] 0),cA [],eX md dA (cI [])] [(.slice (some ⟨ba,0,none⟩) p.toNat p.toNat,aS (aD p.toNat 0))]):=by
 refine jL Tryz.func57 UX (args:=[.int .i64 p]) (S:=S) (G:=[(_,dC er eb)]) (by kernel_rfl) (.cons hC (.nil _ _)) ?_
 by_cases h1:p<1
 ·refine bH (ij 0 [1] rfl rfl) ?_
  refine di 1 rfl (fun ni mW ng dh=>?_)
  try simp only[aQ]
  refine Zs [zR 0,zR 1] [] [zV 2 (.pointer none),zV 3 .nilIface] ?_
  refine aq ?_
  refine Zt [zR 0,.rd 1 [] 0 6,zR 2,.rd 3 [] 1 0,.rd 4 [] 1 0,zR 5] [] [zB 9 true] (oC (show decide (p<(1:Int))=true from by simp;omega) oN) ?_
  refine gR ?_
  refine Zt [.rd 0 [.r 0 (some (.iface 390 (.pointer (some (er 2)))))] 0 0,zR 1,zR 2] [9] [zV 3 (.iface 390 (.pointer (some (er 2))))] (oC dh oN) ?_
  refine Yr [[],[]] (.tuple #[.pointer none,.iface 390 (.pointer (some (er 2)))]) fun a w s=>?_
  exact .inl ⟨.inl h1,s.ret (by simp) [] [] rfl rfl⟩
 by_cases h6:6<p
 ·refine bH (ij 0 [1] rfl rfl) ?_
  refine di 1 rfl (fun ni mW ng dh=>?_)
  try simp only[aQ]
  refine Zs [zR 0,zR 1] [] [zV 2 (.pointer none),zV 3 .nilIface] ?_
  refine aq ?_
  refine Zt [zR 0,.rd 1 [] 0 7,zR 2,zR 3,.rd 4 [] 0 6,zR 5] [] [zB 9 true] (oC (show decide (p<(1:Int))=false from by simp;omega) (oC (show decide (p>(6:Int))=true from by simp;omega) oN)) ?_
  refine gR ?_
  refine Zt [.rd 0 [.r 0 (some (.iface 390 (.pointer (some (er 2)))))] 0 0,zR 1,zR 2] [9] [zV 3 (.iface 390 (.pointer (some (er 2))))] (oC dh oN) ?_
  refine Yr [[],[]] (.tuple #[.pointer none,.iface 390 (.pointer (some (er 2)))]) fun a w s=>?_
  exact .inl ⟨.inr h6,s.ret (by simp) [] [] rfl rfl⟩
 obtain⟨n,rfl⟩:∃n:Nat,p=n:=⟨p.toNat,by omega⟩
 refine Zs [zR 0,zR 1] [] [zV 2 (.pointer none),zV 3 .nilIface] ?_
 refine aq ?_
 refine Zt [zR 0,.rd 1 [] 0 7,zR 2,zR 3,.rd 4 [] 0 7,zR 5] [] [zB 9 false] (oC (show decide ((↑n:Int)<(1:Int))=false from by simp;omega) (oC (show decide ((↑n:Int)>(6:Int))=false from by simp;omega) oN)) ?_
 refine cF ?_
 refine aG (aq ?_)
 rcases(by omega:n=1∨n=2∨n=3∨n=4∨n=5∨n=6)with rfl|rfl|rfl|rfl|rfl|rfl
 ·refine Zm [.rd 0 [] 0 0,.rd 1 [] 0 0,.wr 2 [] 0,.wr 3 [] 0,.wr 4 [] 0,.rd 5 [] 0 0,.wr 6 [] 0,.rd 7 [] 0 0,.rd 8 [] 0 0] [] [9,0] (fun aN=>[(2,.val (.pointer (some (⟨aN 3,0,none⟩))))]) o0 (fun aN=>[(aN 0,.cells #[.int .i64 0] 3 (0,0)),(aN 1,Obj.map #[] 0),(aN 2,Obj.map #[] 0),(aN 3,.cells #[.int .i64 1,.slice (some (⟨aN 0,0,none⟩)) 1 1,.map (some (aN 1)),.map (some (aN 2))] 218 (0,0))]) (fun aN=>?_)
  refine Yr [[],[]] (.tuple #[.pointer (sA (aN 3) 0),.nilIface]) fun a w s=>?_
  exact .inr ⟨by omega,_,_,_,_,vD 1 s (iK 1)⟩
 ·refine Zm [.rd 0 [] 0 0,.rd 1 [] 0 0,.wr 2 [] 0,.wr 3 [] 0,.wr 4 [] 0,.rd 5 [] 0 0,.wr 6 [] 0,.rd 7 [] 0 0,.rd 8 [] 0 0] [] [9,0] (fun aN=>[(2,.val (.pointer (some (⟨aN 3,0,none⟩))))]) o0 (fun aN=>[(aN 0,.cells #[.int .i64 0,.int .i64 0] 3 (0,0)),(aN 1,Obj.map #[] 0),(aN 2,Obj.map #[] 0),(aN 3,.cells #[.int .i64 2,.slice (some (⟨aN 0,0,none⟩)) 2 2,.map (some (aN 1)),.map (some (aN 2))] 218 (0,0))]) (fun aN=>?_)
  refine Yr [[],[]] (.tuple #[.pointer (sA (aN 3) 0),.nilIface]) fun a w s=>?_
  exact .inr ⟨by omega,_,_,_,_,vD 2 s (iK 2)⟩
 ·refine Zm [.rd 0 [] 0 0,.rd 1 [] 0 0,.wr 2 [] 0,.wr 3 [] 0,.wr 4 [] 0,.rd 5 [] 0 0,.wr 6 [] 0,.rd 7 [] 0 0,.rd 8 [] 0 0] [] [9,0] (fun aN=>[(2,.val (.pointer (some (⟨aN 3,0,none⟩))))]) o0 (fun aN=>[(aN 0,.cells #[.int .i64 0,.int .i64 0,.int .i64 0] 3 (0,0)),(aN 1,Obj.map #[] 0),(aN 2,Obj.map #[] 0),(aN 3,.cells #[.int .i64 3,.slice (some (⟨aN 0,0,none⟩)) 3 3,.map (some (aN 1)),.map (some (aN 2))] 218 (0,0))]) (fun aN=>?_)
  refine Yr [[],[]] (.tuple #[.pointer (sA (aN 3) 0),.nilIface]) fun a w s=>?_
  exact .inr ⟨by omega,_,_,_,_,vD 3 s (iK 3)⟩
 ·refine Zm [.rd 0 [] 0 0,.rd 1 [] 0 0,.wr 2 [] 0,.wr 3 [] 0,.wr 4 [] 0,.rd 5 [] 0 0,.wr 6 [] 0,.rd 7 [] 0 0,.rd 8 [] 0 0] [] [9,0] (fun aN=>[(2,.val (.pointer (some (⟨aN 3,0,none⟩))))]) o0 (fun aN=>[(aN 0,.cells #[.int .i64 0,.int .i64 0,.int .i64 0,.int .i64 0] 3 (0,0)),(aN 1,Obj.map #[] 0),(aN 2,Obj.map #[] 0),(aN 3,.cells #[.int .i64 4,.slice (some (⟨aN 0,0,none⟩)) 4 4,.map (some (aN 1)),.map (some (aN 2))] 218 (0,0))]) (fun aN=>?_)
  refine Yr [[],[]] (.tuple #[.pointer (sA (aN 3) 0),.nilIface]) fun a w s=>?_
  exact .inr ⟨by omega,_,_,_,_,vD 4 s (iK 4)⟩
 ·refine Zm [.rd 0 [] 0 0,.rd 1 [] 0 0,.wr 2 [] 0,.wr 3 [] 0,.wr 4 [] 0,.rd 5 [] 0 0,.wr 6 [] 0,.rd 7 [] 0 0,.rd 8 [] 0 0] [] [9,0] (fun aN=>[(2,.val (.pointer (some (⟨aN 3,0,none⟩))))]) o0 (fun aN=>[(aN 0,.cells #[.int .i64 0,.int .i64 0,.int .i64 0,.int .i64 0,.int .i64 0] 3 (0,0)),(aN 1,Obj.map #[] 0),(aN 2,Obj.map #[] 0),(aN 3,.cells #[.int .i64 5,.slice (some (⟨aN 0,0,none⟩)) 5 5,.map (some (aN 1)),.map (some (aN 2))] 218 (0,0))]) (fun aN=>?_)
  refine Yr [[],[]] (.tuple #[.pointer (sA (aN 3) 0),.nilIface]) fun a w s=>?_
  exact .inr ⟨by omega,_,_,_,_,vD 5 s (iK 5)⟩
 ·refine Zm [.rd 0 [] 0 0,.rd 1 [] 0 0,.wr 2 [] 0,.wr 3 [] 0,.wr 4 [] 0,.rd 5 [] 0 0,.wr 6 [] 0,.rd 7 [] 0 0,.rd 8 [] 0 0] [] [9,0] (fun aN=>[(2,.val (.pointer (some (⟨aN 3,0,none⟩))))]) o0 (fun aN=>[(aN 0,.cells #[.int .i64 0,.int .i64 0,.int .i64 0,.int .i64 0,.int .i64 0,.int .i64 0] 3 (0,0)),(aN 1,Obj.map #[] 0),(aN 2,Obj.map #[] 0),(aN 3,.cells #[.int .i64 6,.slice (some (⟨aN 0,0,none⟩)) 6 6,.map (some (aN 1)),.map (some (aN 2))] 218 (0,0))]) (fun aN=>?_)
  refine Yr [[],[]] (.tuple #[.pointer (sA (aN 3) 0),.nilIface]) fun a w s=>?_
  exact .inr ⟨by omega,_,_,_,_,vD 6 s (iK 6)⟩
end Go.Proofs.YtmkapocibaojdaaGreatDoor
end
section
namespace Go.Sx
open Go
structure dL where
 fm:Int
 to:Int
 sh:Int
 q:Int
 t:Int
 l:List bN
structure bB where
 fm:Int
 to:Int
 sh:Int
 q:Int
 t:Int
 l:List bN
def iD (id ah k:Nat):List (Nat×Nat):=if k=id then []else (bD ah).map fun i=>(k,i)
def qO (id ah k:Nat):List (List (Nat×Nat)):=(bD k).map (iD id ah)
def cR (id ah k:Nat):List (Nat×Nat):=(qO id ah k).flatten
theorem nx (id ah k:Nat):cR id ah (k+1)=cR id ah k++iD id ah k:=by
 simp[cR,qO,jh]
theorem kI (id ah k:Nat):(iD id ah k).length=if k=id then 0 else ah:=by
 unfold iD
 split <;> simp
theorem Fp (id j k:Nat) (h:k≠id):iD id (j+1) k=iD id j k++[(k,j)]:=by
 simp[iD,h,jh]
theorem Cm {α:Type}:∀{rows:List (List α)} {k i:Nat} {r:List α},rows[k]?=some r→i<r.length→rows.flatten[((rows.take k).map fo).sum+i]?=r[i]?
 | [],k,i,r,h,_=>by simp at h
 | x::rows,0,i,r,h,hi=>by
  simp only[aV,az]at h
  subst h
  simp[kQ,hi]
 | x::rows,k+1,i,r,h,hi=>by
  simp only[eU]at h
  have ih:=Cm h hi
  simp only[cr,List.take_succ_cons,cj,lO]
  rw[bt (by omega),←ih]
  congr 1
  omega
def fZ (id ah k:Nat):Nat:=(cR id ah k).length
theorem zD (id ah:Nat):fZ id ah 0=0:=rfl
theorem zF (id ah k:Nat):fZ id ah (k+1)=fZ id ah k+if k=id then 0 else ah:=by
 rw[fZ,nx,bA,kI]
 rfl
theorem Em (id ah k:Nat):fZ id ah k≤k*ah:=by
 induction k with
 | zero=>simp[zD]
 | succ k ih=>
  rw[zF,jR,nK]
  split <;> omega
def iu {α:Type} (id ah places:Nat) (rows:List (List α)):Prop:=rows.map fo=(qO id ah places).map fo
theorem iu.nil {α:Type} (id ah:Nat):iu (α:=α) id ah 0 []:=rfl
theorem iu.snoc {α:Type} {id ah k:Nat} {rows:List (List α)} {r:List α} (h:iu id ah k rows) (hr:r.length=if k=id then 0 else ah):iu id ah (k+1) (rows++[r]):=by
 unfold iu at h ⊢
 rw[bw,h]
 simp[qO,jh,kI,hr]
theorem iu.len {α:Type} {id ah places:Nat} {rows:List (List α)} (h:iu id ah places rows):rows.length=places:=by
 have:=congrArg fo h
 simpa [qO]using this
theorem iu.DJ {α:Type} {id ah places:Nat} {rows:List (List α)} (h:iu id ah places rows):rows.flatten.length=fZ id ah places:=by
 rw[fZ,cR,List.length_flatten,List.length_flatten,h]
theorem iu.row {α:Type} {id ah places:Nat} {rows:List (List α)} (h:iu id ah places rows) {k:Nat} {r:List α} (hr:rows[k]?=some r):r.length=if k=id then 0 else ah:=by
 have hk:k<places:=by
  have:=(ai.1 hr).1
  have:=h.len
  omega
 have e1:(rows.map fo)[k]?=some r.length:=by rw[aF,hr];rfl
 rw[show rows.map fo=_ from h,aF]at e1
 have e2:(qO id ah places)[k]?=some (iD id ah k):=by simp[qO,hk]
 rw[e2,dU,kI]at e1
 exact(dG e1).symm
theorem EU {α:Type} {id ah places:Nat} {rows:List (List α)} (h:iu id ah places rows) {k:Nat} (hk:k≤places):((rows.take k).map fo).sum=fZ id ah k:=by
 rw[fZ,cR,List.length_flatten,jt,show rows.map fo=_ from h,←jt]
 congr 2
 rw[qO,←jt,List.take_range,lX hk,qO]
theorem iu.at {α:Type} {id ah places:Nat} {rows:List (List α)} (h:iu id ah places rows) {k i:Nat} {r:List α} (hr:rows[k]?=some r) {b:α} (hb:r[i]?=some b):rows.flatten[fZ id ah k+i]?=some b:=by
 have hi:=(ai.1 hb).1
 have hk:k<places:=by
  have:=(ai.1 hr).1
  have:=h.len
  omega
 rw[←EU h (Nat.le_of_lt hk),Cm hr hi,hb]
theorem sw {id ah places k i:Nat} (hk:k<places) (hne:k≠id) (hi:i<ah):(cR id ah places)[fZ id ah k+i]?=some (k,i):=by
 have h:iu id ah places (qO id ah places):=rfl
 exact h.at (k:=k) (i:=i) (r:=iD id ah k) (by simp[qO,hk]) (by simp[iD,hne,hi])
theorem uA {id ah places k:Nat} (hk:k<places):∃B,cR id ah places=cR id ah k++iD id ah k++B∧∀y∈B,k<y.1:=by
 obtain⟨d,rfl⟩:∃d,places=k+1+d:=⟨places - (k+1),by omega⟩
 clear hk
 induction d with
 | zero=>exact⟨[],by rw[dZ,nx,bf],by simp⟩
 | succ d ih=>
  obtain⟨B,hB,hlt⟩:=ih
  refine⟨B++iD id ah (k+1+d),by rw[←Nat.add_assoc,nx,hB,bY],fun y hy=>?_⟩
  rcases au.1 hy with hy|hy
  ·exact hlt y hy
  ·unfold iD at hy
   split at hy
   ·cases hy
   ·obtain⟨i,_,rfl⟩:=aB.1 hy
    show k<k+1+d
    omega
theorem qy (id ah:Nat):∀k,(cR id ah k).Nodup∧∀p∈cR id ah k,p.1<k
 | 0=>by simp[cR,qO]
 | k+1=>by
  obtain⟨h1,h2⟩:=qy id ah k
  rw[nx]
  have h3:(iD id ah k).Nodup:=by
   unfold iD
   split
   ·simp
   ·exact List.Pairwise.map (fun i=>(k,i)) (fun a b (h:a≠b) e=>h (by simpa using e)) jJ
  have h4:∀p∈iD id ah k,p.1=k:=by
   intro p hp
   unfold iD at hp
   split at hp
   ·cases hp
   ·obtain⟨i,_,rfl⟩:=aB.1 hp
    rfl
  refine⟨be.2 ⟨h1,h3,fun a ha b hb hab=>?_⟩,fun p hp=>?_⟩
  ·subst hab
   have:=h2 a ha
   have:=h4 a hb
   omega
  ·rcases au.1 hp with hp|hp
   ·have:=h2 p hp
    omega
   ·have:=h4 p hp
    omega
def sL (l:List Int):Int:=l.tail.foldl (fun m a=>if a<m then a else m) (l.headD 0)
theorem vF {l:List Int} (h:l≠[]) (a:Int):sL (l++[a])=if a<sL l then a else sL l:=by
 cases l with
 | nil=>exact absurd rfl h
 | cons b l=>simp[sL,List.foldl_append]
theorem xG {l:List Int} (h:l≠[]):sL l∈l:=by
 have:∀n (l:List Int),l.length=n→l≠[]→sL l∈l:=by
  intro n
  induction n with
  | zero=>intro l hl hn;exact absurd (eV.1 hl) hn
  | succ n ih=>
   intro l hl hn
   rw[←List.dropLast_concat_getLast hn]
   by_cases h0:l.dropLast=[]
   ·rw[h0]
    simp[sL]
   ·rw[vF h0]
    split
    ·simp
    ·exact au.2 (.inl (ih _ (by rw[List.length_dropLast];omega) h0))
 exact this _ l rfl h
theorem Ep {α:Type} {id ah places k:Nat} {l:List α} {f:α→Nat×Nat} (h:l.map f=cR id ah places) (hk:k<places):(l.drop (fZ id ah k)).take (iD id ah k).length=l.filter fun x=>decide ((f x).1=k):=by
 obtain⟨B,hB,hlt⟩:=uA (id:=id) (ah:=ah) hk
 rw[hB]at h
 obtain⟨l1,l2,rfl,h1,h2⟩:=List.map_eq_append_iff.1 h
 obtain⟨l3,l4,rfl,h3,h4⟩:=List.map_eq_append_iff.1 h1
 have e1:l3.length=fZ id ah k:=by rw[fZ,←h3,aA]
 have e2:l4.length=(iD id ah k).length:=by rw[←h4,aA]
 have f1:l3.filter (fun x=>decide ((f x).1=k))=[]:=gz.2 fun x hx=>by
  have:=(qy id ah k).2 (f x) (by rw[←h3];exact aB.2 ⟨x,hx,rfl⟩)
  simp
  omega
 have f2:l4.filter (fun x=>decide ((f x).1=k))=l4:=fk.2 fun x hx=>by
  have hm:f x∈iD id ah k:=by rw[←h4];exact aB.2 ⟨x,hx,rfl⟩
  unfold iD at hm
  split at hm
  ·cases hm
  ·obtain⟨i,_,hi⟩:=aB.1 hm
   rw[←hi]
   simp
 have f3:l2.filter (fun x=>decide ((f x).1=k))=[]:=gz.2 fun x hx=>by
  have:=hlt (f x) (by rw[←h2];exact aB.2 ⟨x,hx,rfl⟩)
  simp
  omega
 rw[dm,dm,f1,f2,f3,bf,j9,bY,←e1,List.drop_left,←e2,List.take_left]
structure fJ where
 id:Nat
 places:Nat
 ah:Nat
 clock:Int
 base:List Int
 L:List fG
 ss:List dL
 rs:List bB
def fJ.pair (s:dL):Nat×Nat:=(s.to.toNat,s.sh.toNat)
def fJ.nS (s:bB):Nat×Nat:=(s.fm.toNat,s.sh.toNat)
end Go.Sx
end
section
namespace Go.Sx
open Go
def kept (L:List bN) (k:Int):Option bN:=L.find? fun m=>m.seq==k
def gF (L:List bN) (k:Int):List bN:=L.eraseP fun m=>m.seq==k
def nQ (L:List bN):Prop:=(L.map (·.seq)).Nodup
theorem pP {L:List bN} {k:Int} {m:bN} (h:kept L k=some m):m.seq=k:=by
 have:=List.find?_some h
 simpa using this
theorem pQ {L:List bN} {k:Int} {m:bN} (h:kept L k=some m):m∈L:=List.mem_of_find?_eq_some h
theorem sD {L:List bN} {k:Int}:kept L k=none↔∀m∈L,m.seq≠k:=by
 unfold kept
 rw[List.find?_eq_none]
 simp
theorem pZ {L:List bN} {k:Int} {m:bN} (h:kept L k=some m):(gF L k).length+1=L.length:=by
 unfold gF
 have hm:=pQ h
 have hs:=pP h
 rw[List.length_eraseP_of_mem hm (by simpa using hs)]
 have:0<L.length:=List.length_pos_of_mem hm
 omega
theorem pY (L:List bN) (k:Int):(gF L k).Sublist L:=List.eraseP_sublist
theorem nQ.drop {L:List bN} (h:nQ L) (k:Int):nQ (gF L k):=((pY L k).map _).nodup h
theorem nQ.app {L:List bN} (h:nQ L) {m:bN} (hm:kept L m.seq=none):nQ (L++[m]):=by
 unfold nQ
 rw[bw,be]
 refine⟨h,by simp,fun a ha b hb=>?_⟩
 obtain⟨x,hx,rfl⟩:=aB.1 ha
 simp at hb
 subst hb
 exact sD.1 hm x hx
theorem Cd {L:List bN} {m:bN} (hm:kept L m.seq=none) (k:Int):kept (L++[m]) k=if m.seq=k then some m else kept L k:=by
 unfold kept at hm ⊢
 rw[List.find?_append]
 by_cases hk:m.seq=k
 ·subst hk
  simp[hm]
 ·simp[hk]
theorem vJ {L:List bN} (h:nQ L) (k j:Int):kept (gF L k) j=if k=j then none else kept L j:=by
 induction L with
 | nil=>simp[gF,kept]
 | cons m L ih=>
  have hd:nQ L:=(jf.1 h).2
  have hn:m.seq∉L.map (·.seq):=(jf.1 h).1
  by_cases hk:m.seq=k
  ·have e:gF (m::L) k=L:=by simp[gF,hk]
   rw[e]
   by_cases hj:k=j
   ·subst hj
    rw[if_pos rfl,sD]
    intro x hx xY
    exact hn (aB.2 ⟨x,hx,by rw[xY,hk]⟩)
   ·rw[if_neg hj]
    have:¬m.seq=j:=by rw[hk];exact hj
    simp[kept,this]
  ·have e:gF (m::L) k=m::gF L k:=by simp[gF,hk]
   rw[e]
   by_cases yb:m.seq=j
   ·have:¬k=j:=by rw[←yb];exact fun h=>hk h.symm
    simp[kept,yb,this]
   ·have e1:kept (m::gF L k) j=kept (gF L k) j:=by simp[kept,yb]
    have e2:kept (m::L) j=kept L j:=by simp[kept,yb]
    rw[e1,e2,ih hd]
def drain:Nat→List bN→Int→Int→List bN×List bN×Int×Int
 | 0,L,q,t=>([],L,q,t)
 | n+1,L,q,t=>match kept L (q+1)with
  | none=>([],L,q,t)
  | some m=>(m::(drain n (gF L (q+1)) (q+1) m.time).1,(drain n (gF L (q+1)) (q+1) m.time).2)
def ez (L:List bN) (q t:Int):List bN×List bN×Int×Int:=drain (L.length+1) L q t
theorem yx {L:List bN} {q t:Int} (h:kept L (q+1)=none):ez L q t=([],L,q,t):=by
 unfold ez drain
 rw[h]
theorem yu {L:List bN} {q t:Int} {m:bN} (h:kept L (q+1)=some m):ez L q t=(m::(ez (gF L (q+1)) (q+1) m.time).1,(ez (gF L (q+1)) (q+1) m.time).2):=by
 unfold ez
 rw[drain,h,pZ h]
structure Lg where
 L:List bN
 q:Int
 t:Int
def gO (fm to de:Int) (r:Lg) (m:bN):Nat×List bN×Lg:=
 if m.fm≠fm∨m.to≠to∨m.de≠de then (3,[],r)
 else if m.seq<1∨m.time<0∨1099511627776<m.time then (2,[],r)
 else if m.seq≤r.q then (0,[],r)
 else if 201<m.seq - r.q then (7,[],r)
 else
  let L1:=match kept r.L m.seq with
   | none=>r.L++[m]
   | some _=>r.L
  let d:=ez L1 r.q r.t
  (0,d.1,⟨d.2.1,d.2.2.1,d.2.2.2⟩)
def KL (L:List bN):Value→Option (List D)
 | .int .i64 k=>(kept L k).map fC
 | _=>none
theorem NS:KL []=fun _=>none:=by
 funext x
 unfold KL
 split <;> rfl
theorem NR {L:List bN} {m:bN} (h:kept L m.seq=none):FF (KL L) (.int .i64 m.seq) (fC m)=KL (L++[m]):=by
 funext x
 unfold FF
 split
 ·rename_i he
  subst he
  simp only[KL]
  rw[Cd h,if_pos rfl]
  rfl
 ·rename_i hne
  unfold KL
  split
  ·rename_i k
   rw[Cd h,if_neg]
   intro he
   exact hne (by rw[he])
  ·rfl
theorem I7 {L:List bN} (hd:nQ L) (k:Int):FJ (KL L) (.int .i64 k)=KL (gF L k):=by
 funext x
 unfold FJ
 split
 ·rename_i he
  subst he
  simp only[KL]
  rw[vJ hd,if_pos rfl]
  rfl
 ·rename_i hne
  unfold KL
  split
  ·rename_i j
   rw[vJ hd,if_neg]
   intro he
   exact hne (by rw[he])
  ·rfl
end Go.Sx
namespace Go.Proofs.YtmkapocibaojdaaGreatDoor
open Go Go.Sx
theorem HV {α:Type} {l:List α} (h:l.length=2):∃x y,l=[x,y]:=by
 match l,h with
 | [x,y],_=>exact⟨x,y,rfl⟩
def Fit (m:bN):Prop:=m.c.when.length≤1000000∧m.c.ops.length≤1000000∧∀o∈m.c.ops,o.bF.length≤1000000
abbrev y6 (m:bN) (v1 v2:Value):Value:=.agg #[.int .i64 m.fm,.int .i64 m.to,.int .i64 m.de,.int .i64 m.seq,.int .i64 m.time,.bool m.dW,v1,.int .i64 m.c.place,v2]
end Go.Proofs.YtmkapocibaojdaaGreatDoor
end
section
namespace Go.Proofs.YtmkapocibaojdaaGreatDoor
open Go Go.Sx
def jU (fm to sh:Int):Nat:=if fm<0∨6≤fm∨to<0∨6≤to∨sh<0∨6≤sh then 2 else if fm=to then 3 else 0
set_option maxHeartbeats 4000000 in
theorem HP {w0:World} {S:Nat→Prop} {er:Nat→Addr} {fm to sh:Int} (hE:gl w0 S (oF er)) :
  Calls Tryz.prog 122 #[.int .i64 fm,.int .i64 to,.int .i64 sh] w0 fun e w'=>
   (jU fm to sh≠0∧cQ [] w0 S w' e (.tuple #[.agg #[.int .i64 0,.int .i64 0,.int .i64 0],KR 390 er (jU fm to sh)]) [] []) ∨
   (jU fm to sh=0∧cQ [] w0 S w' e (.tuple #[.agg #[.int .i64 fm,.int .i64 to,.int .i64 sh],.nilIface]) [] []):=by
 refine jL Tryz.func122 RM (args:=[.int .i64 fm,.int .i64 to,.int .i64 sh]) (G:=oF er) (by kernel_rfl) hE ?_
 refine di 1 rfl (fun ni mW ng dh=>?_)
 refine di 2 rfl (fun uY uq uS gu=>?_)
 refine Zv [.wr 0 [] 0,zR 1] [] [] (fun aN=>[zP 6 (aN 0),zV 7 .nilIface]) o0 (fun aN=>[(aN 0,.cells #[nI 0,nI 0,nI 0] 220 (0,0))]) (fun aN=>?_)
 refine aq ?_
 refine Zs (bh 0 3++[.rd 3 [] 2 0,.rd 4 [] 2 0,.rd 5 [] 0 3,zR 6,.rd 7 [] 2 0,.rd 8 [] 2 0,.rd 9 [] 0 3,zR 10,.rd 11 [] 2 0,.rd 12 [] 2 0,.rd 13 [] 0 3,zR 14,.rd 15 [] 2 0,.rd 16 [] 2 0,.rd 17 [] 0 3,zR 18,.rd 19 [] 2 0,.rd 20 [] 2 0,.rd 21 [] 0 3]) [] [zB 29 (decide (fm<0)||decide (fm≥6)||decide (to<0)||decide (to≥6)||decide (sh<0)||decide (sh≥6))] ?_
 refine cC (t:=decide (fm<0)||decide (fm≥6)||decide (to<0)||decide (to≥6)||decide (sh<0)||decide (sh≥6)) (fun hb=>?_) (fun hb=>?_)
 ·have e1:jU fm to sh=2:=by rw[jU,if_pos (by simp at hb;omega)]
  refine Zu [zR 0,.rd 1 [.r 0 (some (.iface 390 (.pointer (some (er 2)))))] 0 0,.wr 2 (ek 0 3) 0,zR 3] [(2,[0])] [29] (fun _=>[zV 7 (.iface 390 (.pointer (some (er 2))))]) o0 o0 (fun _=>(oC dh oN)) (fun _=>?_)
  refine Yr [(ek 0 3),[]] (.tuple #[.agg #[nI 0,nI 0,nI 0],.iface 390 (.pointer (some (er 2)))]) fun a w s=>?_
  refine .inl ⟨by rw[e1];decide,?_⟩
  rw[e1]
  exact s.ret (by simp) [] [] rfl rfl
 ·have hn:¬(fm<0∨6≤fm∨to<0∨6≤to∨sh<0∨6≤sh):=by simp at hb;omega
  refine aG (aq ?_)
  refine Zs (bh 0 3) [29] [zB 34 (fm==to)] ?_
  refine cC (t:=fm==to) (fun hs=>?_) (fun hs=>?_)
  ·have e1:jU fm to sh=3:=by rw[jU,if_neg hn,if_pos (by simpa using hs)]
   refine Zu [zR 0,.rd 1 [.r 1 (some (.iface 390 (.pointer (some (er 3)))))] 0 0,.wr 2 (ek 0 3) 0,zR 3] [(2,[0])] [34] (fun _=>[zV 7 (.iface 390 (.pointer (some (er 3))))]) o0 o0 (fun _=>(oC gu oN)) (fun _=>?_)
   refine Yr [(ek 0 3),[]] (.tuple #[.agg #[nI 0,nI 0,nI 0],.iface 390 (.pointer (some (er 3)))]) fun a w s=>?_
   refine .inl ⟨by rw[e1];decide,?_⟩
   rw[e1]
   exact s.ret (by simp) [] [] rfl rfl
  ·have e1:jU fm to sh=0:=by rw[jU,if_neg hn,if_neg (by simpa using hs)]
   refine aG ?_
   refine Zv (bh 0 4++[.wr 4 (ek 0 3) 0,zR 5]) [(4,[0])] [34,0,1,2] (fun _=>[]) (fun _=>[(0,.cells #[nI fm,nI to,nI sh] 220 (0,0))]) o0 (fun _=>?_)
   refine Yr [(ek 0 3),[]] (.tuple #[.agg #[nI fm,nI to,nI sh],.nilIface]) fun a w s=>?_
   exact .inr ⟨e1,s.ret (by simp) [] [] rfl rfl⟩
set_option maxHeartbeats 4000000 in
theorem B9 {w0:World} {S:Nat→Prop} {er:Nat→Addr} {fm to sh:Int} (hE:gl w0 S (oF er)) (h0:jU fm to sh=0) :
  Calls Tryz.prog 59 #[.int .i64 fm,.int .i64 to,.int .i64 sh] w0 fun e w'=>∃b mb,
   cQ [] w0 S w' e (.tuple #[.pointer (some ⟨b,0,none⟩),.nilIface]) [bL b (.cells #[.int .i64 fm,.int .i64 to,.int .i64 sh,.int .i64 0,.int .i64 0,.map (some mb)] 227 (0,0)),yG mb (.int .i64) (KL [])] []:=by
 refine jL Tryz.func59 UU (args:=[.int .i64 fm,.int .i64 to,.int .i64 sh]) (G:=oF er) (by kernel_rfl) hE ?_
 refine Zs [zR 0,zR 1] [] [zV 6 (.pointer none),zV 7 .nilIface] ?_
 refine jS [(0,true),(1,true),(2,true),(3,false),(4,true),(5,true),(6,true),(7,false),(8,false),(9,true)] [] ?_
 refine Ya (bh 0 3) [0,1,2] [zI 11 fm,zI 12 to,zI 13 sh] ?_
 refine Yc 122 #[nI fm,nI to,nI sh] (some 14) fun w S hG=>?_
 refine(HP (hG.pick [0,1,2] rfl)).mono ?_
 rintro e1 w1 (⟨h1,hR⟩|⟨h1,hR⟩)
 ·exact absurd h0 h1
 refine⟨_,_,_,hR,?_⟩
 try simp only[aQ]
 refine Ym (bh 4 7++[.wr 7 [] 0,.wr 8 (ek 0 3) 0,zR 9]) [14,11,12,13] (fun aN=>[zP 8 (aN 0),zV 9 .nilIface]) o0 (fun aN=>[(aN 0,.cells #[nI fm,nI to,nI sh] 220 (0,0))]) [] (fun aN=>?_)
 refine aC (aq ?_)
 refine Zs [zR 0,zR 1] [] [zB 18 false] ?_
 refine cF ?_
 refine aG ?_
 refine Zv [.rd 0 (ek 0 3) 0 0,.wr 1 [] 0,zR 2,.wr 3 [] 0,zR 4,zR 5] [] [18,8,9] (fun dy=>[zP 6 (dy 1)]) o0 (fun dy=>[(dy 0,Obj.map #[] 0),(dy 1,.cells #[nI fm,nI to,nI sh,nI 0,nI 0,.map (some (dy 0))] 227 (0,0))]) (fun dy=>?_)
 refine Yr [[],[]] (.tuple #[.pointer (sA (dy 1) 0),.nilIface]) fun a w s=>?_
 have s1:=((s.dY 2 rfl).dY 1 rfl).jz (j4 1 rfl (HU _ _ (.int .i64)))
 rw[NS]
 exact⟨_,_,s1.ret (by simp) [0,1] [] rfl rfl⟩
end Go.Proofs.YtmkapocibaojdaaGreatDoor
end
