/- Part 11 of the texts of a claim: PlW Crc WireP CrcP Shard PlD PlQ PartsV PlI. -/
import Derived.Test.YtmkapocibaojdaaGreatDoorTr10
open Bool renaming and_eq_true → bT
open ByteArray renaming mk → aL
open Int renaming toNat → nj, toNat_natCast → aR, toNat_of_nonneg → cW, toNat_zero → mU
open List renaming all_eq_true → dF, append_assoc → bY, append_nil → bf, drop_drop → fH, drop_eq_getElem_cons → gD, filter → mo, filter_append → dm, filter_eq_self → fk, filter_sublist → dw, flatten_append → bj, flatten_cons → cr, foldl_cons → iw, getD_eq_getElem?_getD → aO, getElem?_append_right → bt, getElem?_drop → cq, getElem?_eq_getElem → ak, getElem?_eq_some_iff → ai, getElem?_map → aF, getElem?_of_mem → aJ, getElem_mem → cz, length → fo, length_append → bA, length_cons → eF, length_map → aA, length_set → jg, length_take → bp, map → aj, map_append → bw, map_cons → cj, map_eq_nil_iff → cM, map_map → fc, map_set → mS, map_take → jt, mem_append → au, mem_cons → cE, mem_cons_of_mem → bk, mem_cons_self → bl, mem_filter → aP, mem_map → aB, mem_of_getElem? → ae, mem_singleton → ay, nodup_append → be, pairwise_map → fU, replicate → aD, sum_cons → lO, take → bZ, take_add_one → cV, take_of_length_le → br
open Nat renaming add_zero → dZ, eq_zero_or_pos → iX, le_refl → aX, le_trans → aZ, min_eq_left → lX, shiftRight_eq_div_pow → fS, sub_self → ec, zero_add → aK, zero_le → eo
open Option.some renaming inj → dG
open Prod.mk renaming inj → kP
section
namespace Go.Sx
open Go
structure Gn where
 k:Int
 n:Nat
 oa:Option Addr
 oc:Nat
 ia:Option Addr
 ic:Nat
 om:List (List Nat)
 im:List (List Nat)
structure Gp where
 i:Int
 n:Nat
 oa:Option Addr
 oc:Nat
 ia:Option Addr
 ic:Nat
 om:List Nat
 im:List Nat
def jO (id:Nat) (q:List (Nat×Nat)):List dL:=q.map fun p=>⟨id,p.1,p.2,0,0,[]⟩
def jA (id:Nat) (q:List (Nat×Nat)):List bB:=q.map fun p=>⟨p.1,id,p.2,0,0,[]⟩
theorem Dr (id:Nat) (q:List (Nat×Nat)) (k i:Int) (hk:0≤k) (hi:0≤i):jO id q++[⟨id,k,i,0,0,[]⟩]=jO id (q++[(k.toNat,i.toNat)]):=by
 simp[jO,cW hk,cW hi]
theorem Ds (id:Nat) (q:List (Nat×Nat)) (k i:Int) (hk:0≤k) (hi:0≤i):jA id q++[⟨k,id,i,0,0,[]⟩]=jA id (q++[(k.toNat,i.toNat)]):=by
 simp[jA,cW hk,cW hi]
theorem Eu {α:Type} {l:List α} {a b:α} (h1:a∈l) (h2:b∈l):∀y∈[a,b],y∈l:=fun y hy=>by
 rcases cE.1 hy with rfl|hy
 ·exact h1
 ·obtain rfl:=ay.1 hy
  exact h2
def iM (id places ah:Nat):fJ:=⟨id,places,ah,0,aD places 0,[],jO id (cR id ah places),jA id (cR id ah places)⟩
structure iN where
 vb:Nat
 oa:Option Addr
 oc:Nat
 ia:Option Addr
 ic:Nat
 om:List (List Nat)
 im:List (List Nat)
structure Ju (x:fJ) (y:iN):Prop where
 om:iu x.id x.ah x.places y.om
 im:iu x.id x.ah x.places y.im
theorem si (id k:Nat):iD id 0 k=[]:=by
 unfold iD
 split <;> simp
theorem pM (id j:Nat):iD id j id=[]:=if_pos rfl
end Go.Sx
namespace Go.Proofs.YtmkapocibaojdaaGreatDoor
open Go Go.Sx
noncomputable def bQ (b:Nat) (x:fJ):Chunk:=tX (Ju x) (fun y=>[(.slice y.oa x.places y.oc,jI y.om),(.slice y.ia x.places y.ic,jI y.im)]) fun y=>[bL b (xB y.vb x.id x.places x.ah x.clock (.slice y.oa x.places y.oc) (.slice y.ia x.places y.ic)),fT y.vb x.places x.base x.L,dN y.om.flatten x.ss,c8 y.im.flatten x.rs]
set_option maxHeartbeats 4000000 in
theorem BY {w:World} {S:Nat→Prop} {er:Nat→Addr} {eb:Nat→Array Value×TypeId} {id places ah:Int} (hC:cm w S .nilIface (dC er eb)) :
  Calls Tryz.prog 12 #[.int .i64 id,.int .i64 places,.int .i64 ah] w fun e w'=>
   (¬(1≤places∧places≤6∧1≤ah∧ah≤6∧0≤id∧id<places)∧cQ [] w S w' e (.tuple #[.pointer none,.iface 390 (.pointer (some (er 2)))]) [] []) ∨
   ((1≤places∧places≤6∧1≤ah∧ah≤6∧0≤id∧id<places)∧∃b,cQ [] w S w' e (.tuple #[.pointer (some ⟨b,0,none⟩),.nilIface]) [bQ b (iM id.toNat places.toNat ah.toNat)] []):=by
 refine jL Tryz.func12 Vb (args:=[.int .i64 id,.int .i64 places,.int .i64 ah]) (S:=S) (G:=[(_,dC er eb)]) (by kernel_rfl) (.cons hC (.nil _ _)) ?_
 refine bH (ij 0 [1] rfl rfl) ?_
 refine di 1 rfl (fun ni mW ng dh=>?_)
 try simp only[aQ]
 refine Zs [zR 0,zR 1] [] [zV 6 (.pointer none),zV 7 .nilIface] ?_
 refine aq ?_
 refine Zs (bh 0 3++[.rd 3 [] 2 0,.rd 4 [] 2 0,.rd 5 [] 0 3,zR 6,.rd 7 [] 2 0,.rd 8 [] 2 0,.rd 9 [] 0 3,zR 10,.rd 11 [] 2 0,.rd 12 [] 2 0,.rd 13 [] 0 3,zR 14,.rd 15 [] 2 0,.rd 16 [] 2 0,.rd 17 [] 0 3,zR 18,.rd 19 [] 2 0,.rd 20 [] 2 0,.rd 21 [] 2 0,.rd 22 [] 0 3]) [] [zB 41 (decide (places<1)||decide (places>6)||decide (ah<1)||decide (ah>6)||decide (id<0)||decide (id≥places))] ?_
 refine cC (t:=decide (places<1)||decide (places>6)||decide (ah<1)||decide (ah>6)||decide (id<0)||decide (id≥places)) (fun hb=>?_) (fun hb=>?_)
 ·refine aq ?_
  refine Zp [.rd 0 [.r 0 (some (.iface 390 (.pointer (some (er 2)))))] 0 0,zR 1,zR 2] [41] [zV 7 (.iface 390 (.pointer (some (er 2))))] (oC dh oN) ?_
  refine Yr [[],[]] (.tuple #[.pointer none,.iface 390 (.pointer (some (er 2)))]) fun a w s=>?_
  exact .inl ⟨by simp at hb;omega,s.ret (by simp) [] [] rfl rfl⟩
 have hok:1≤places∧places≤6∧1≤ah∧ah≤6∧0≤id∧id<places:=by simp at hb;omega
 obtain⟨hp1,y9,hs1,FQ,Qv,WW⟩:=hok
 obtain⟨id,rfl⟩:∃n:Nat,id=n:=⟨id.toNat,by omega⟩
 obtain⟨places,rfl⟩:∃n:Nat,places=n:=⟨places.toNat,by omega⟩
 obtain⟨ah,rfl⟩:∃n:Nat,ah=n:=⟨ah.toNat,by omega⟩
 simp only[aR]
 refine aG ?_
 refine jS [(0,true),(1,false),(2,true),(3,true),(4,true),(5,true),(6,true)] [] ?_
 refine Ya [zR 0] [41] [zI 44 (↑places:Int)] ?_
 refine Yc 57 #[nI (↑places:Int)] (some 45) fun w S hG=>?_
 refine(L9 (hG.at 0 rfl) hp1 y9).mono ?_
 rintro e1 w1 ⟨vb,hR⟩
 refine⟨_,_,_,hR,?_⟩
 rw[aR]
 try simp only[aQ]
 refine Ya (bh 2 7) [45,44] [zP 8 vb,zV 9 .nilIface] ?_
 refine aC (aq ?_)
 refine Zs [zR 0,zR 1] [] [zB 49 false] ?_
 refine cF ?_
 refine aG ?_
 refine Zv (bh 0 5++[.wr 5 [] 0,zR 6]) [] [49,8,9] (fun aN=>[zP 10 (aN 0)]) o0 (fun aN=>[(aN 0,.cells #[.pointer (sA vb 0),nI (↑id:Int),nI (↑places:Int),nI (↑ah:Int),nI 0,.slice none 0 0,.slice none 0 0] 124 (0,0))]) (fun aN=>?_)
 refine aq (aq ?_)
 refine bH (fO kq 125 1) ?_
 refine bH (fO kq 126 1) ?_
 refine bH (oW (dN [] []) pJ) ?_
 refine bH (oW (c8 [] []) pJ) ?_
 refine Nm [(fT vb places (aD places 0) []),aT (.slice none 0 0) 125 1 (aj kq []),aT (.slice none 0 0) 126 1 (aj kq []),(dN [] []),(c8 [] [])] ?_
 refine Za [zR 0,zR 1] [1] [zI 57 (↑places:Int),zI 58 0] ?_
 refine aM ?_
 refine cU (fun x:Gn=>[zI 0 (↑id:Int),zI 2 (↑ah:Int),zV 6 (.pointer none),zV 7 .nilIface,zP 10 (aN 0),zI 57 (↑places:Int),zI 58 x.k]) (fun x:Gn=>[(aN 0,xB vb id places ah 0 (.slice x.oa x.n x.oc) (.slice x.ia x.n x.ic))]) (fun x:Gn=>[fT vb places (aD places 0) [],aT (.slice x.oa x.n x.oc) 125 1 (x.om.map kq),aT (.slice x.ia x.n x.ic) 126 1 (x.im.map kq),dN x.om.flatten (jO id (cR id ah x.k.toNat)),c8 x.im.flatten (jA id (cR id ah x.k.toNat))]) (fun x:Gn=>[(.nilIface,(dC er eb)),(.pointer (sA 0 0),(D.ptr [D.v (Value.iface 390 (Value.pointer (some (er 2))))]))]) (fun x:Gn=>(places - x.k).toNat) (fun x:Gn=>(0≤x.k∧x.k≤places∧x.n=x.k.toNat∧iu id ah x.k.toNat x.om∧iu id ah x.k.toNat x.im)) ⟨0,0,none,0,none,0,[],[]⟩ [0,2,6,7,10,57,58] [0] [0,1,2,3,4] [0,1] ?_ (by kernel_rfl) rfl rfl rfl ?_
 ·exact⟨by simp,by simp,by simp,.nil _ _,.nil _ _⟩
 rintro⟨k,n,oa,oc,ia,ic,om,im⟩ ⟨sZ,Qq,hn,ho,hi⟩
 dsimp only at sZ Qq hn ho hi ⊢
 have VD:=ho.len
 have vM:=hi.len
 refine Zs [zR 0] [] [zB 59 (decide (k<(↑places:Int)))] ?_
 refine aq ?_
 refine cC (t:=decide (k<(↑places:Int))) (fun hlt=>?_) (fun hlt=>?_)
 ·have fa:k<places:=by simpa using hlt
  refine aG (aq (aM ?_))
  refine Zs [zR 0,zR 1] [59] [zI 11 k] ?_
  refine Zs [zR 0] [] [zS 12 none 0 0] ?_
  refine Zs [zR 0] [] [zS 13 none 0 0] ?_
  refine aq (aq ?_)
  refine bH (fO eP 127 1) ?_
  refine bH (fO eP 130 1) ?_
  refine Nm [(fT vb places (aD places 0) []),aT (.slice oa n oc) 125 1 (aj kq om),aT (.slice ia n ic) 126 1 (aj kq im),(dN om.flatten (jO id (cR id ah k.toNat))),(c8 im.flatten (jA id (cR id ah k.toNat))),aT (.slice none 0 0) 127 1 (aj eP []),aT (.slice none 0 0) 130 1 (aj eP [])] ?_
  rw[show dN om.flatten (jO id (cR id ah k.toNat))=dN (om.flatten++[]) (jO id (cR id ah k.toNat++iD id (0:Int).toNat k.toNat))by rw[mU,si,bf,bf],show c8 im.flatten (jA id (cR id ah k.toNat))=c8 (im.flatten++[]) (jA id (cR id ah k.toNat++iD id (0:Int).toNat k.toNat))by rw[mU,si,bf,bf]]
  refine Za [zR 0,zR 1] [] [zI 61 (↑ah:Int),zI 62 0] ?_
  refine aM ?_
  refine cU (fun y:Gp=>[zI 0 (↑id:Int),zI 2 (↑ah:Int),zV 6 (.pointer none),zV 7 .nilIface,zP 10 (aN 0),zI 11 k,zS 12 y.oa y.n y.oc,zS 13 y.ia y.n y.ic,zI 57 (↑places:Int),zI 58 k,zI 61 (↑ah:Int),zI 62 y.i]) (fun y:Gp=>[(aN 0,.cells #[.pointer (sA vb 0),nI (↑id:Int),nI (↑places:Int),nI (↑ah:Int),nI 0,.slice oa n oc,.slice ia n ic] 124 (0,0))]) (fun y:Gp=>[fT vb places (aD places 0) [],aT (.slice oa n oc) 125 1 (om.map kq),aT (.slice ia n ic) 126 1 (im.map kq),dN (om.flatten++y.om) (jO id (cR id ah k.toNat++iD id y.i.toNat k.toNat)),c8 (im.flatten++y.im) (jA id (cR id ah k.toNat++iD id y.i.toNat k.toNat)),aT (.slice y.oa y.n y.oc) 127 1 (y.om.map eP),aT (.slice y.ia y.n y.ic) 130 1 (y.im.map eP)]) (fun y:Gp=>[(.nilIface,(dC er eb)),(.pointer (sA 0 0),(D.ptr [D.v (Value.iface 390 (Value.pointer (some (er 2))))]))]) (fun y:Gp=>(ah - y.i).toNat) (fun y:Gp=>(0≤y.i∧y.i≤ah∧y.om.length=(iD id y.i.toNat k.toNat).length∧y.im.length=(iD id y.i.toNat k.toNat).length∧y.n≤ah)) ⟨0,0,none,0,none,0,[],[]⟩ [0,2,6,7,10,11,12,13,57,58,61,62] [0] [0,1,2,3,4,5,6] [0,1] ?_ (by kernel_rfl) rfl rfl rfl ?_
  ·exact⟨by simp,by simp,by simp[si],by simp[si],by simp⟩
  rintro⟨i,m,pa,pc,qa,qc,pm,qm⟩ ⟨hi0,hi1,pS,wE,VF⟩
  dsimp only at hi0 hi1 pS wE VF ⊢
  refine b9 (eC 5 rfl) fun _ hm=>?_
  rw[aA]at hm
  refine Zs [zR 0] [] [zB 63 (decide (i<(↑ah:Int)))] ?_
  refine aq ?_
  refine cC (t:=decide (i<(↑ah:Int))) (fun hls=>?_) (fun hls=>?_)
  ·have oU:i<ah:=by simpa using hls
   refine aG (aq (aM ?_))
   refine Zs [zR 0,zR 1] [63] [zI 14 i] ?_
   refine Zs (bh 0 3) [] [zB 67 (k != (↑id:Int))] ?_
   refine cC (t:=k != (↑id:Int)) (fun hne=>?_) (fun hne=>?_)
   ·have pT:k.toNat≠id:=by
     intro h0
     apply (by simpa using hne:¬k=id)
     omega
    have Bo:(iD id i.toNat k.toNat).length=i.toNat:=by rw[kI,if_neg pT]
    rw[Bo]at pS wE
    have EA:iD id (i+1).toNat k.toNat=iD id i.toNat k.toNat++[(k.toNat,i.toNat)]:=by rw[show(i+1).toNat=i.toNat+1 by omega,Fp _ _ _ pT]
    have Wt:jU id k i=0:=by rw[jU,if_neg (by omega),if_neg (by omega)]
    have Jy:jU k id i=0:=by rw[jU,if_neg (by omega),if_neg (by omega)]
    have hfo:(om.flatten++pm).length=(jO id (cR id ah k.toNat++iD id i.toNat k.toNat)).length:=by
     rw[jO,aA,bA,bA,ho.DJ,pS,Bo]
     rfl
    have Ue:(im.flatten++qm).length=(jA id (cR id ah k.toNat++iD id i.toNat k.toNat)).length:=by
     rw[jA,aA,bA,bA,hi.DJ,wE,Bo]
     rfl
    refine jS [(0,true),(1,true),(2,true),(3,false),(4,true),(5,true),(6,true),(7,true),(8,true)] [] ?_
    refine Ya (bh 0 3) [67] [zI 69 (↑id:Int),zI 70 k,zI 71 i] ?_
    refine cn [] [3] 58 #[.int .i64 (↑id:Int),.int .i64 k,.int .i64 i] (some 72) (by kernel_rfl) (by kernel_rfl) (by decide) (fun w S M hP hG _=>?_)
    refine(Mi (hG.at 0 rfl) hP hfo Wt).mono ?_
    rintro e2 w2 ⟨b1,hR⟩
    refine⟨_,_,_,hR,?_⟩
    try simp only[aQ]
    refine Ya (bh 4 9) [72,69,70,71] [zP 15 b1] ?_
    try simp only[aQ]
    refine aC ?_
    try simp only[aQ]
    refine aq ?_
    try simp only[aQ]
    refine jT [(0,true),(1,true),(2,true),(3,false),(4,true),(5,true),(6,true),(7,true),(8,true)] [] ?_
    refine Ya (bh 0 3) [] [zI 76 k,zI 77 (↑id:Int),zI 78 i] ?_
    refine cn [] [3] 59 #[.int .i64 k,.int .i64 (↑id:Int),.int .i64 i] (some 79) (by kernel_rfl) (by kernel_rfl) (by decide) (fun w S M hP hG _=>?_)
    refine(Mx (hG.at 0 rfl) hP Ue Jy).mono ?_
    rintro e3 w3 ⟨b2,hR⟩
    refine⟨_,_,_,hR,?_⟩
    rw[Dr _ _ _ _ sZ hi0,Ds _ _ _ _ sZ hi0,bY om.flatten,bY im.flatten,bY (cR id ah k.toNat),←EA]
    try simp only[aQ]
    refine Ya (bh 4 9) [79,76,77,78] [zP 17 b2] ?_
    try simp only[aQ]
    refine aC ?_
    try simp only[aQ]
    refine jT [(0,true),(1,true),(2,false),(3,false),(4,true),(5,true),(6,false),(7,false),(8,true),(9,true)] [] ?_
    refine Ym [zR 0,zR 1,.wr 2 [] 0] [] (fun dy=>[zS 82 pa m pc,zS 84 (sA (dy 0) 0) 1 1]) o0 (fun dy=>[(dy 0,.cells #[.pointer (sA b1 0)] 127 (0,0))]) [] (fun dy=>?_)
    refine JN [(fT vb places (aD places 0) []),aT (.slice oa n oc) 125 1 (aj kq om),aT (.slice ia n ic) 126 1 (aj kq im),aT (.slice pa m pc) 127 1 (aj eP pm),aT (.slice qa m qc) 130 1 (aj eP qm),(dN (om.flatten++(pm++[b1])) (jO id (cR id ah k.toNat++iD id (i+1).toNat k.toNat))),(c8 (im.flatten++(qm++[b2])) (jA id (cR id ah k.toNat++iD id (i+1).toNat k.toNat)))] ?_
    refine eY 3 125 127 1 8 (.pointer none) (a0:=pa) (len:=m) (iB:=pc) (ax:=(some (⟨dy 0,0,none⟩))) (m:=1) (c:=1) (dst:=(some 85)) [b1] (by kernel_rfl) (by kernel_rfl) (by kernel_rfl) (by kernel_rfl) rfl (by decide) rfl (fun _ _ _ s=>fK s 1 rfl rfl ⟨.inl ⟨rfl,rfl⟩,trivial⟩) (by simp only[maxLen];omega) (by omega) (fun gq gp=>?_)
    refine JN [(fT vb places (aD places 0) []),aT (.slice oa n oc) 125 1 (aj kq om),aT (.slice ia n ic) 126 1 (aj kq im),aT (.slice qa m qc) 130 1 (aj eP qm),(dN (om.flatten++(pm++[b1])) (jO id (cR id ah k.toNat++iD id (i+1).toNat k.toNat))),(c8 (im.flatten++(qm++[b2])) (jA id (cR id ah k.toNat++iD id (i+1).toNat k.toNat))),aT (.slice gq (m+1) gp) 127 1 (aj eP (pm++[b1]))] ?_
    try simp only[aQ]
    refine Ym [zR 4,zR 5,.wr 6 [] 0] [82,84] (fun eR=>[zS 86 qa m qc,zS 88 (sA (eR 0) 0) 1 1]) o0 (fun eR=>[(eR 0,.cells #[.pointer (sA b2 0)] 130 (0,0))]) [] (fun eR=>?_)
    refine eY 3 126 130 1 8 (.pointer none) (a0:=qa) (len:=m) (iB:=qc) (ax:=(some (⟨eR 0,0,none⟩))) (m:=1) (c:=1) (dst:=(some 89)) [b2] (by kernel_rfl) (by kernel_rfl) (by kernel_rfl) (by kernel_rfl) rfl (by decide) rfl (fun _ _ _ s=>fK s 2 rfl rfl ⟨.inl ⟨rfl,rfl⟩,trivial⟩) (by simp only[maxLen];omega) (by omega) (fun zi zg=>?_)
    refine JN [(fT vb places (aD places 0) []),aT (.slice oa n oc) 125 1 (aj kq om),aT (.slice ia n ic) 126 1 (aj kq im),(dN (om.flatten++(pm++[b1])) (jO id (cR id ah k.toNat++iD id (i+1).toNat k.toNat))),(c8 (im.flatten++(qm++[b2])) (jA id (cR id ah k.toNat++iD id (i+1).toNat k.toNat))),aT (.slice gq (m+1) gp) 127 1 (aj eP (pm++[b1])),aT (.slice zi (m+1) zg) 130 1 (aj eP (qm++[b2]))] ?_
    try simp only[aQ]
    refine Ya [zR 8,zR 9] [89,86,88,85] [zS 12 gq (m+1) gp,zS 13 zi (m+1) zg] ?_
    refine aC (eu ?_)
    refine Zp [.rd 0 [] 0 1,zR 1] [] [zI 62 (i+1)] (oC (show IntKind.i64.wrap (i+1)=i+1 from wrap_i64 (by omega) (by omega)) oN) ?_
    refine bC ⟨i+1,m+1,gq,gp,zi,zg,pm++[b1],qm++[b2]⟩ [0,2,6,7,10,11,12,13,57,58,61,62] [0] [0,1,2,3,4,5,6] [0,1] ?_ ?_ (by kernel_rfl) rfl rfl rfl
    ·refine⟨by simp only;omega,by simp only;omega,?_,?_,by simp only;omega⟩
     ·rw[EA,bA,bA,pS,Bo]
      rfl
     ·rw[EA,bA,bA,wE,Bo]
      rfl
    ·simp only
     omega
   ·have kT:k.toNat=id:=by
     have:k=id:=by simpa using hne
     omega
    rw[kT,pM]at pS wE
    refine aG (eu ?_)
    refine Zp [.rd 0 [] 0 1,zR 1] [67] [zI 62 (i+1)] (oC (show IntKind.i64.wrap (i+1)=i+1 from wrap_i64 (by omega) (by omega)) oN) ?_
    rw[kT,show iD id i.toNat id=iD id (i+1).toNat id by rw[pM,pM],←kT]
    refine bC ⟨i+1,m,pa,pc,qa,qc,pm,qm⟩ [0,2,6,7,10,11,12,13,57,58,61,62] [0] [0,1,2,3,4,5,6] [0,1] ?_ ?_ (by kernel_rfl) rfl rfl rfl
    ·refine⟨by simp only;omega,by simp only;omega,?_,?_,VF⟩
     ·rw[kT,pM]
      exact pS
     ·rw[kT,pM]
      exact wE
    ·simp only
     omega
  ·have hie:i=ah:=by simp at hls;omega
   have hrw:iD id i.toNat k.toNat=iD id ah k.toNat:=by rw[hie,aR]
   rw[hrw]at pS wE ⊢
   rw[kI]at pS wE
   have Ng:k.toNat+1=(k+1).toNat:=by omega
   have CT:iu id ah (k+1).toNat (om++[pm]):=Ng ▸ ho.snoc pS
   have hsi:iu id ah (k+1).toNat (im++[qm]):=Ng ▸ hi.snoc wE
   rw[←nx,Ng,show om.flatten++pm=(om++[pm]).flatten by simp,show im.flatten++qm=(im++[qm]).flatten by simp]
   refine dO rfl ?_
   refine bH (dg 5 rfl) ?_
   refine bH (dg 5 rfl) ?_
   refine Nm [(fT vb places (aD places 0) []),aT (.slice oa n oc) 125 1 (aj kq om),aT (.slice ia n ic) 126 1 (aj kq im),(dN (om++[pm]).flatten (jO id (cR id ah (k+1).toNat))),(c8 (im++[qm]).flatten (jA id (cR id ah (k+1).toNat)))] ?_
   refine Ln mixed [.rd 0 [] 0 0,.rd 1 [] 0 0,.rd 2 [] 0 0,.rd 3 [] 0 0,.rd 4 [] 0 0,.rd 5 [.o 0 none] 0 0,.rd 6 [] 0 0,.rd 9 [] 0 0,.rd 10 [] 0 0,.rd 11 [] 0 0,.rd 12 [.o 0 none] 0 0,.rd 13 [] 0 0] 7 14 [(8,false),(14,false),(15,false),(16,true),(17,true),(18,false),(19,true),(20,true),(21,false)] [(14,false),(8,false),(15,false),(16,true),(17,true),(18,false),(19,true),(20,true),(21,false)] [(7,false),(8,false),(15,false),(16,true),(17,true),(18,false),(19,true),(20,true),(21,false)] [(8,[]),(15,[]),(18,[0]),(21,[0])] [0,2,6,7,10,11,12,13,57,58,61,62,91,92,96,97,103,104] (E1:=fun _=>[(0,.val (.int .i64 (↑id:Int))),(2,.val (.int .i64 (↑ah:Int))),(6,.val (.pointer none)),(7,.val (.nilIface)),(10,.val (.pointer (some (⟨aN 0,0,none⟩)))),(11,.val (.int .i64 k)),(12,.val (.slice pa m pc)),(13,.val (.slice qa m qc)),(57,.val (.int .i64 (↑places:Int))),(58,.val (.int .i64 k)),(61,.val (.int .i64 (↑ah:Int))),(62,.val (.int .i64 i)),(91,.val (.pointer (some (⟨aN 0,0,none⟩)))),(92,.val (.pointer (some (⟨aN 0,0,none⟩)))),(96,.val (.slice oa n oc)),(97,.val (.slice pa m pc)),(103,.val (.slice ia n ic)),(104,.val (.slice qa m qc))]) (p1:=fun _=>[]) (by kernel_rfl) (by kernel_rfl) (fun _=>by kernel_rfl) (fun _=>trivial) (fun _=>?_) (fun _=>?_)
   ·refine Lt (by kernel_rfl) ?_ ?_
    ·try simp only[aQ]
     refine Ym [.wr 7 [] 0] [97] (fun dy=>[zS 98 (sA (dy 0) 0) 1 1]) o0 (fun dy=>[(dy 0,.cells #[.slice pa m pc] 125 (0,0))]) [(8,[]),(15,[]),(18,[0]),(21,[0])] (fun dy=>?_)
     refine JN [(fT vb places (aD places 0) []),aT (.slice oa n oc) 125 1 (aj kq om),aT (.slice ia n ic) 126 1 (aj kq im),(dN (om++[pm]).flatten (jO id (cR id ah (k+1).toNat))),(c8 (im++[qm]).flatten (jA id (cR id ah (k+1).toNat)))] ?_
     refine eY 1 121 125 1 24 (.slice none 0 0) (a0:=oa) (len:=n) (iB:=oc) (ax:=(some (⟨dy 0,0,none⟩))) (m:=1) (c:=1) (dst:=(some 99)) [pm] (by kernel_rfl) (by kernel_rfl) (by kernel_rfl) (by kernel_rfl) rfl (by decide) rfl (fun _ _ _ s=>fK s 1 rfl rfl ⟨.inr (.inl (ae (i:=2) rfl)),trivial⟩) (by simp only[maxLen];omega) (by omega) (fun gq gp=>?_)
     refine JN [(fT vb places (aD places 0) []),aT (.slice ia n ic) 126 1 (aj kq im),(dN (om++[pm]).flatten (jO id (cR id ah (k+1).toNat))),(c8 (im++[qm]).flatten (jA id (cR id ah (k+1).toNat))),aT (.slice gq (n+1) gp) 125 1 (aj kq (om++[pm]))] ?_
     try simp only[aQ]
     refine Ym [.wr 14 [] 0] [98,96,104] (fun eR=>[zS 105 (sA (eR 0) 0) 1 1]) o0 (fun eR=>[(eR 0,.cells #[.slice qa m qc] 126 (0,0))]) [(15,[]),(18,[0]),(21,[0])] (fun eR=>?_)
     refine eY 1 122 126 1 24 (.slice none 0 0) (a0:=ia) (len:=n) (iB:=ic) (ax:=(some (⟨eR 0,0,none⟩))) (m:=1) (c:=1) (dst:=(some 106)) [qm] (by kernel_rfl) (by kernel_rfl) (by kernel_rfl) (by kernel_rfl) rfl (by decide) rfl (fun _ _ _ s=>fK s 2 rfl rfl ⟨.inr (.inl (ae (i:=3) rfl)),trivial⟩) (by simp only[maxLen];omega) (by omega) (fun zi zg=>?_)
     refine JN [(fT vb places (aD places 0) []),(dN (om++[pm]).flatten (jO id (cR id ah (k+1).toNat))),(c8 (im++[qm]).flatten (jA id (cR id ah (k+1).toNat))),aT (.slice gq (n+1) gp) 125 1 (aj kq (om++[pm])),aT (.slice zi (n+1) zg) 126 1 (aj kq (im++[qm]))] ?_
     try simp only[aQ]
     refine Ym [zR 16,zR 17,.wr 18 [.o 0 none] 0,zR 19,zR 20,.wr 21 [.o 0 none] 0] [106,105,99,91,92,103] (fun _=>[]) (fun _=>[(0,.cells #[.pointer (sA vb 0),nI (↑id:Int),nI (↑places:Int),nI (↑ah:Int),nI 0,.slice gq (n+1) gp,.slice zi (n+1) zg] 124 (0,0))]) o0 [] (fun _=>?_)
     refine aC (eu ?_)
     refine Zp [.rd 0 [] 0 1,zR 1] [] [zI 58 (k+1)] (oC (show IntKind.i64.wrap (k+1)=k+1 from wrap_i64 (by omega) (by omega)) oN) ?_
     refine bC ⟨k+1,n+1,_,_,_,_,om++[pm],im++[qm]⟩ [0,2,6,7,10,57,58] [0] [0,3,4,1,2] [0,1] ?_ ?_ (by kernel_rfl) rfl rfl rfl
     ·exact⟨by simp only;omega,by simp only;omega,by simp only;omega,CT,hsi⟩
     ·simp only
      omega
    ·try simp only[aQ]
     refine Ym [.wr 7 [] 0,.wr 14 [] 0] [97,104] (fun dy=>[zS 98 (sA (dy 0) 0) 1 1,zS 105 (sA (dy 1) 0) 1 1]) o0 (fun dy=>[(dy 0,.cells #[.slice pa m pc] 125 (0,0)),(dy 1,.cells #[.slice qa m qc] 126 (0,0))]) [(8,[]),(15,[]),(18,[0]),(21,[0])] (fun dy=>?_)
     refine JN [(fT vb places (aD places 0) []),aT (.slice oa n oc) 125 1 (aj kq om),aT (.slice ia n ic) 126 1 (aj kq im),(dN (om++[pm]).flatten (jO id (cR id ah (k+1).toNat))),(c8 (im++[qm]).flatten (jA id (cR id ah (k+1).toNat)))] ?_
     refine eY 1 121 125 1 24 (.slice none 0 0) (a0:=oa) (len:=n) (iB:=oc) (ax:=(some (⟨dy 0,0,none⟩))) (m:=1) (c:=1) (dst:=(some 99)) [pm] (by kernel_rfl) (by kernel_rfl) (by kernel_rfl) (by kernel_rfl) rfl (by decide) rfl (fun _ _ _ s=>fK s 1 rfl rfl ⟨.inr (.inl (ae (i:=2) rfl)),trivial⟩) (by simp only[maxLen];omega) (by omega) (fun gq gp=>?_)
     refine JN [(fT vb places (aD places 0) []),aT (.slice ia n ic) 126 1 (aj kq im),(dN (om++[pm]).flatten (jO id (cR id ah (k+1).toNat))),(c8 (im++[qm]).flatten (jA id (cR id ah (k+1).toNat))),aT (.slice gq (n+1) gp) 125 1 (aj kq (om++[pm]))] ?_
     try simp only[aQ]
     refine eY 1 122 126 1 24 (.slice none 0 0) (a0:=ia) (len:=n) (iB:=ic) (ax:=(some (⟨dy 1,0,none⟩))) (m:=1) (c:=1) (dst:=(some 106)) [qm] (by kernel_rfl) (by kernel_rfl) (by kernel_rfl) (by kernel_rfl) rfl (by decide) rfl (fun _ _ _ s=>fK s 2 rfl rfl ⟨.inr (.inl (ae (i:=3) rfl)),trivial⟩) (by simp only[maxLen];omega) (by omega) (fun zi zg=>?_)
     refine JN [(fT vb places (aD places 0) []),(dN (om++[pm]).flatten (jO id (cR id ah (k+1).toNat))),(c8 (im++[qm]).flatten (jA id (cR id ah (k+1).toNat))),aT (.slice gq (n+1) gp) 125 1 (aj kq (om++[pm])),aT (.slice zi (n+1) zg) 126 1 (aj kq (im++[qm]))] ?_
     try simp only[aQ]
     refine Ym [zR 16,zR 17,.wr 18 [.o 0 none] 0,zR 19,zR 20,.wr 21 [.o 0 none] 0] [106,99,98,105,91,92,96,103] (fun _=>[]) (fun _=>[(0,.cells #[.pointer (sA vb 0),nI (↑id:Int),nI (↑places:Int),nI (↑ah:Int),nI 0,.slice gq (n+1) gp,.slice zi (n+1) zg] 124 (0,0))]) o0 [] (fun _=>?_)
     refine aC (eu ?_)
     refine Zp [.rd 0 [] 0 1,zR 1] [] [zI 58 (k+1)] (oC (show IntKind.i64.wrap (k+1)=k+1 from wrap_i64 (by omega) (by omega)) oN) ?_
     refine bC ⟨k+1,n+1,_,_,_,_,om++[pm],im++[qm]⟩ [0,2,6,7,10,57,58] [0] [0,3,4,1,2] [0,1] ?_ ?_ (by kernel_rfl) rfl rfl rfl
     ·exact⟨by simp only;omega,by simp only;omega,by simp only;omega,CT,hsi⟩
     ·simp only
      omega
   ·try simp only[aQ]
    refine Ym [.wr 14 [] 0,.wr 7 [] 0] [97,104] (fun dy=>[zS 98 (sA (dy 1) 0) 1 1,zS 105 (sA (dy 0) 0) 1 1]) o0 (fun dy=>[(dy 0,.cells #[.slice qa m qc] 126 (0,0)),(dy 1,.cells #[.slice pa m pc] 125 (0,0))]) [(8,[]),(15,[]),(18,[0]),(21,[0])] (fun dy=>?_)
    refine JN [(fT vb places (aD places 0) []),aT (.slice oa n oc) 125 1 (aj kq om),aT (.slice ia n ic) 126 1 (aj kq im),(dN (om++[pm]).flatten (jO id (cR id ah (k+1).toNat))),(c8 (im++[qm]).flatten (jA id (cR id ah (k+1).toNat)))] ?_
    refine eY 1 121 125 1 24 (.slice none 0 0) (a0:=oa) (len:=n) (iB:=oc) (ax:=(some (⟨dy 1,0,none⟩))) (m:=1) (c:=1) (dst:=(some 99)) [pm] (by kernel_rfl) (by kernel_rfl) (by kernel_rfl) (by kernel_rfl) rfl (by decide) rfl (fun _ _ _ s=>fK s 2 rfl rfl ⟨.inr (.inl (ae (i:=2) rfl)),trivial⟩) (by simp only[maxLen];omega) (by omega) (fun gq gp=>?_)
    refine JN [(fT vb places (aD places 0) []),aT (.slice ia n ic) 126 1 (aj kq im),(dN (om++[pm]).flatten (jO id (cR id ah (k+1).toNat))),(c8 (im++[qm]).flatten (jA id (cR id ah (k+1).toNat))),aT (.slice gq (n+1) gp) 125 1 (aj kq (om++[pm]))] ?_
    try simp only[aQ]
    refine eY 1 122 126 1 24 (.slice none 0 0) (a0:=ia) (len:=n) (iB:=ic) (ax:=(some (⟨dy 0,0,none⟩))) (m:=1) (c:=1) (dst:=(some 106)) [qm] (by kernel_rfl) (by kernel_rfl) (by kernel_rfl) (by kernel_rfl) rfl (by decide) rfl (fun _ _ _ s=>fK s 1 rfl rfl ⟨.inr (.inl (ae (i:=3) rfl)),trivial⟩) (by simp only[maxLen];omega) (by omega) (fun zi zg=>?_)
    refine JN [(fT vb places (aD places 0) []),(dN (om++[pm]).flatten (jO id (cR id ah (k+1).toNat))),(c8 (im++[qm]).flatten (jA id (cR id ah (k+1).toNat))),aT (.slice gq (n+1) gp) 125 1 (aj kq (om++[pm])),aT (.slice zi (n+1) zg) 126 1 (aj kq (im++[qm]))] ?_
    try simp only[aQ]
    refine Ym [zR 16,zR 17,.wr 18 [.o 0 none] 0,zR 19,zR 20,.wr 21 [.o 0 none] 0] [106,99,98,105,91,92,96,103] (fun _=>[]) (fun _=>[(0,.cells #[.pointer (sA vb 0),nI (↑id:Int),nI (↑places:Int),nI (↑ah:Int),nI 0,.slice gq (n+1) gp,.slice zi (n+1) zg] 124 (0,0))]) o0 [] (fun _=>?_)
    refine aC (eu ?_)
    refine Zp [.rd 0 [] 0 1,zR 1] [] [zI 58 (k+1)] (oC (show IntKind.i64.wrap (k+1)=k+1 from wrap_i64 (by omega) (by omega)) oN) ?_
    refine bC ⟨k+1,n+1,_,_,_,_,om++[pm],im++[qm]⟩ [0,2,6,7,10,57,58] [0] [0,3,4,1,2] [0,1] ?_ ?_ (by kernel_rfl) rfl rfl rfl
    ·exact⟨by simp only;omega,by simp only;omega,by simp only;omega,CT,hsi⟩
    ·simp only
     omega
 ·have hke:k.toNat=places:=by simp at hlt;omega
  rw[hke]at ho hi hn ⊢
  subst hn
  refine dO rfl ?_
  refine Zs (bh 0 3) [59,0,2,10,57,58] [zP 6 (aN 0)] ?_
  refine Yr [[],[]] (.tuple #[.pointer (sA (aN 0) 0),.nilIface]) fun a w s=>?_
  have s2:=((s.jz (dg 1 rfl)).jz (dg 1 rfl)).dY 0 rfl
  have s3:=s2.jz (dH [3,0,1,2] (p:=Ju (iM id n ah)) (G:=fun y=>[(.slice y.oa n y.oc,jI y.om),(.slice y.ia n y.ic,jI y.im)]) (C:=fun y=>[bL (aN 0) (xB y.vb id n ah 0 (.slice y.oa n y.oc) (.slice y.ia n y.ic)),fT y.vb n (aD n 0) [],dN y.om.flatten (jO id (cR id ah n)),c8 y.im.flatten (jA id (cR id ah n))]) ⟨vb,oa,oc,ia,ic,om,im⟩ rfl (Eu (ae (i:=2) rfl) (ae (i:=3) rfl)) ⟨ho,hi⟩)
  exact .inr ⟨by omega,_,s3.ret (by simp) [0] [] rfl rfl⟩
end Go.Proofs.YtmkapocibaojdaaGreatDoor
end
section
namespace Go.Proofs.YtmkapocibaojdaaGreatDoor
open Go Go.Sx
def yX (a b:Int):Int:=IntKind.u32.wrap (BitVec.ofInt IntKind.u32.bits a ^^^ BitVec.ofInt IntKind.u32.bits b).toNat
def Ld (a b:Int):Int:=IntKind.u32.wrap (BitVec.ofInt IntKind.u32.bits a &&& BitVec.ofInt IntKind.u32.bits b).toNat
def Ee (d:Int):Int:=yX (d.fdiv (2 ^ min (nj 1) IntKind.u32.bits)) (IntKind.u32.wrap (3988292384*Ld d 1))
def sX:Nat→Int→Int
 | 0,d=>d
 | n+1,d=>Ee (sX n d)
def MG (c:Int):Int:=yX (if IntKind.u32.signed=true then -1 else IntKind.u32.max) c
def A7 (l:List UInt8):Int:=l.foldl (fun c b=>sX 8 (yX c (IntKind.u32.wrap (b.toNat:Int)))) 4294967295
theorem F7 {l:List UInt8} {i:Nat} {b:UInt8} (h:l[i]?=some b):A7 (l.take (i+1))=sX 8 (yX (A7 (l.take i)) (IntKind.u32.wrap (b.toNat:Int))):=by
 rw[cV,h]
 simp[A7,List.foldl_append]
def GK (a b:Int):Int:=IntKind.i64.wrap (BitVec.ofInt IntKind.i64.bits a ^^^ BitVec.ofInt IntKind.i64.bits b).toNat
def NJ (d:Int) (b:UInt8) (k:Int):Int:=(GK d ((IntKind.i64.wrap (b.toNat:Int)).fdiv (2 ^ min (nj k) IntKind.i64.bits))).tmod 2
def xo (d:Int) (b:UInt8) (k:Int):Int:=if (NJ d b k==1)=true then GK (IntKind.i64.wrap (d.tdiv 2)) 3988292384 else IntKind.i64.wrap (d.tdiv 2)
def Ev (c:Int) (b:UInt8):Nat→Int
 | 0=>c
 | n+1=>xo (Ev c b n) b n
set_option maxHeartbeats 4000000 in
theorem QW {w:World} {S:Nat→Prop} {s0:ByteArray} (h9:s0.size≤100000):Calls Tryz.prog 189 #[.string s0] w fun e w'=>cQ [] w S w' e (.int .u32 (MG (A7 s0.data.toList))) [] []:=by
 refine jL Tryz.func189 Rg (args:=[.string s0]) (G:=[]) (by kernel_rfl) (gl.nil w S) ?_
 have hz:s0.data.toList.length=s0.size:=by simp
 refine Zs [zR 0] [] [zV 2 (.int .u32 0)] ?_
 refine Zs [zR 0] [] [zV 3 (.int .u32 4294967295)] ?_
 refine aq ?_
 refine Zs (bh 0 3) [] [zI 6 (↑s0.size:Int),zI 7 0] ?_
 refine aM ?_
 refine cU (fun x:Int×Int=>[zV 0 (.string s0),zV 2 (.int .u32 0),zV 3 (.int .u32 x.2),zI 6 (↑s0.size:Int),zI 7 x.1]) (fun x:Int×Int=>[]) (fun x:Int×Int=>[]) (fun x:Int×Int=>[]) (fun x:Int×Int=>(s0.size - x.1).toNat) (fun x:Int×Int=>(0≤x.1∧x.1≤s0.size∧x.2=A7 (s0.data.toList.take x.1.toNat))) (0,4294967295) [0,2,3,6,7] [] [] [] ?_ (by kernel_rfl) rfl rfl rfl ?_
 ·exact⟨by simp,by omega,by simp[A7]⟩
 rintro⟨i,c⟩ ⟨hi0,hi,hc⟩
 refine Zs [zR 0] [] [zB 8 (decide (i<(↑s0.size:Int)))] ?_
 refine aq ?_
 refine cC (t:=decide (i<(↑s0.size:Int))) (fun hlt=>?_) (fun hlt=>?_)
 ·have fa:i<s0.size:=by simpa using hlt
  obtain⟨b,hb⟩:∃x,s0.data.toList[i.toNat]?=some x:=⟨_,ak (by omega)⟩
  refine aG (aq (aM ?_))
  refine Zs [zR 0,zR 1] [8] [zI 4 i] ?_
  refine jS [(0,true),(1,true),(2,true),(3,false),(4,true),(5,true),(6,true)] [] ?_
  refine Ya (bh 0 3) [] [zV 10 (.int .u32 c),zV 11 (.string s0),zI 12 i] ?_
  refine NW 9 s0 i _ (some 13) (by kernel_rfl) (by kernel_rfl) hi0 hb ?_
  refine Ya (bh 4 7) [13,10,11,12] [zV 3 (.int .u32 (IntKind.u32.wrap (↑(BitVec.ofInt IntKind.u32.bits c ^^^ BitVec.ofInt IntKind.u32.bits (IntKind.u32.wrap (↑b.toNat:Int))).toNat:Int)))] ?_
  refine aC ?_
  refine Zs [zR 0] [] [zI 16 0] ?_
  refine aM ?_
  refine cU (fun y:Int×Int=>[zV 0 (.string s0),zV 2 (.int .u32 0),zV 3 (.int .u32 y.2),zI 4 i,zI 6 (↑s0.size:Int),zI 7 i,zI 16 y.1]) (fun y:Int×Int=>[]) (fun y:Int×Int=>[]) (fun y:Int×Int=>[]) (fun y:Int×Int=>(8 - y.1).toNat) (fun y:Int×Int=>(0≤y.1∧y.1≤8∧y.2=sX y.1.toNat (yX c (IntKind.u32.wrap b.toNat)))) (0,yX c (IntKind.u32.wrap b.toNat)) [0,2,3,4,6,7,16] [] [] [] ?_ (by kernel_rfl) rfl rfl rfl ?_
  ·exact⟨by simp,by simp,by simp[sX]⟩
  rintro⟨k,d⟩ ⟨sZ,hk,hd⟩
  refine Zs [zR 0] [] [zB 17 (decide (k<8))] ?_
  refine aq ?_
  refine cC (t:=decide (k<8)) (fun T2=>?_) (fun T2=>?_)
  ·have WR:k<8:=by simpa using T2
   refine aG (aq (aM ?_))
   refine Za (bh 0 7) [17] [zV 3 (.int .u32 (IntKind.u32.wrap (↑(BitVec.ofInt IntKind.u32.bits (d.fdiv (2 ^ min (nj 1) IntKind.u32.bits)) ^^^ BitVec.ofInt IntKind.u32.bits (IntKind.u32.wrap (3988292384*IntKind.u32.wrap (↑(BitVec.ofInt IntKind.u32.bits d &&& BitVec.ofInt IntKind.u32.bits 1).toNat:Int)))).toNat:Int)))] ?_
   refine eu ?_
   refine Zp [.rd 0 [] 0 1,zR 1] [] [zI 16 (k+1)] (oC (show IntKind.i64.wrap (k+1)=k+1 from wrap_i64 (by omega) (by omega)) oN) ?_
   refine bC (k+1,Ee d) [0,2,3,4,6,7,16] [] [] [] ?_ ?_ (by kernel_rfl) rfl rfl rfl
   ·refine⟨by simp only;omega,by simp only;omega,?_⟩
    simp only at hd ⊢
    rw[show(k+1).toNat=k.toNat+1 by omega,sX,←hd]
   ·simp only
    omega
  ·obtain rfl:k=8:=by simp at T2;omega
   refine dO rfl ?_
   refine eu ?_
   refine Zp [.rd 0 [] 0 1,zR 1] [17] [zI 7 (i+1)] (oC (show IntKind.i64.wrap (i+1)=i+1 from wrap_i64 (by omega) (by omega)) oN) ?_
   refine bC (i+1,d) [0,2,3,6,7] [] [] [] ?_ ?_ (by kernel_rfl) rfl rfl rfl
   ·refine⟨by simp only;omega,by simp only;omega,?_⟩
    simp only at hd hc ⊢
    rw[show(i+1).toNat=i.toNat+1 by omega,F7 hb,←hc,hd]
    rfl
   ·simp only
    omega
 ·obtain rfl:i=s0.size:=by simp at hlt;omega
  refine dO rfl ?_
  refine Zs (bh 0 3) [8,0,3,6,7] [zV 2 (.int .u32 (IntKind.u32.wrap (↑(BitVec.ofInt IntKind.u32.bits (if IntKind.u32.signed=true then -1 else IntKind.u32.max) ^^^ BitVec.ofInt IntKind.u32.bits c).toNat:Int)))] ?_
  refine Yr [[]] (.int .u32 (IntKind.u32.wrap (↑(BitVec.ofInt IntKind.u32.bits (if IntKind.u32.signed=true then -1 else IntKind.u32.max) ^^^ BitVec.ofInt IntKind.u32.bits c).toNat:Int))) fun a w s=>?_
  have e:c=A7 s0.data.toList:=by
   simp only at hc
   rw[hc,br (by omega)]
  rw[←e]
  exact s.ret (by simp) [] [] rfl rfl
end Go.Proofs.YtmkapocibaojdaaGreatDoor
end
section
namespace Go.Sx
open Go
theorem JK (x:Int):IntKind.i64.wrap x=if x % 18446744073709551616≥9223372036854775808 then x % 18446744073709551616 - 18446744073709551616 else x % 18446744073709551616:=by
 simp[IntKind.wrap,IntKind.signed,IntKind.bits]
abbrev Rd (α:Type):=List UInt8→Option (α×List UInt8)
def NP {α β:Type} (rd:Rd α) (q:α→Rd β):Rd β:=fun l=>(rd l).bind fun p=>q p.1 p.2
abbrev GJ:=List UInt8×Bool
def NO {α β:Type} (r:GJ→α×GJ) (q:α→GJ→β×GJ):GJ→β×GJ:=fun s=>q (r s).1 (r s).2
structure Good {α:Type} (rd:Rd α) (r:GJ→α×GJ):Prop where
 ok:∀l x l',rd l=some (x,l')→r (l,false)=(x,(l',false))
 no:∀l,rd l=none→(r (l,false)).2.2=true
 bad:∀s,s.2=true→(r s).2.2=true
theorem Good.and {α β:Type} {rd:Rd α} {r:GJ→α×GJ} {qd:α→Rd β} {q:α→GJ→β×GJ} (h:Good rd r) (h2:∀x,Good (qd x) (q x)):Good (NP rd qd) (NO r q):=by
 refine⟨fun l x l' he=>?_,fun l he=>?_,fun s hs=>(h2 _).bad _ (h.bad s hs)⟩
 ·unfold NP at he
  cases h1:rd l with
  | none=>rw[h1]at he;cases he
  | some p=>
   rw[h1]at he
   unfold NO
   rw[h.ok l p.1 p.2 h1]
   exact(h2 p.1).ok p.2 x l' he
 ·unfold NP at he
  cases h1:rd l with
  | none=>exact(h2 _).bad _ (h.no l h1)
  | some p=>
   rw[h1]at he
   unfold NO
   rw[h.ok l p.1 p.2 h1]
   exact(h2 p.1).no p.2 he
theorem Good.pure {α:Type} (x:α):Good (fun l=>some (x,l)) fun s=>(x,s):=⟨fun l y l' h=>(by cases h;rfl),fun l h=>(by cases h),fun s hs=>hs⟩
end Go.Sx
end
section
namespace Go.Proofs.YtmkapocibaojdaaGreatDoor
open Go Go.Sx
theorem ofInt32 {a:Nat} (h:a<4294967296):(BitVec.ofInt 32 (a:Int)).toNat=a:=by
 rw[BitVec.toNat_ofInt]
 omega
theorem ofInt64 {a:Nat} (h:a<4294967296):(BitVec.ofInt 64 (a:Int)).toNat=a:=by
 rw[BitVec.toNat_ofInt]
 omega
theorem D8 {a:Nat} (h:a<4294967296):IntKind.u32.wrap (a:Int)=(a:Int):=by
 simp[IntKind.wrap,IntKind.signed,IntKind.bits]
 omega
theorem D9 {a:Nat} (h:a<4294967296):IntKind.i64.wrap (a:Int)=(a:Int):=by
 rw[JK]
 omega
theorem zj {a b:Nat} (ha:a<4294967296) (hb:b<4294967296):a ^^^ b<4294967296:=Nat.xor_lt_two_pow (n:=32) ha hb
theorem wV {a b:Nat} (ha:a<4294967296) (hb:b<4294967296):yX (a:Int) (b:Int)=((a ^^^ b:Nat):Int):=by
 have e:(BitVec.ofInt IntKind.u32.bits (a:Int) ^^^ BitVec.ofInt IntKind.u32.bits (b:Int)).toNat=a ^^^ b:=by
  rw[BitVec.toNat_xor]
  exact congr (congrArg HXor.hXor (ofInt32 ha)) (ofInt32 hb)
 unfold yX
 rw[e]
 exact D8 (zj ha hb)
theorem I3 {a b:Nat} (ha:a<4294967296) (hb:b<4294967296):Ld (a:Int) (b:Int)=((a &&& b:Nat):Int):=by
 have e:(BitVec.ofInt IntKind.u32.bits (a:Int) &&& BitVec.ofInt IntKind.u32.bits (b:Int)).toNat=a &&& b:=by
  rw[BitVec.toNat_and]
  exact congr (congrArg HAnd.hAnd (ofInt32 ha)) (ofInt32 hb)
 unfold Ld
 rw[e]
 exact D8 (Nat.lt_of_le_of_lt Nat.and_le_left ha)
theorem Bt {a b:Nat} (ha:a<4294967296) (hb:b<4294967296):GK (a:Int) (b:Int)=((a ^^^ b:Nat):Int):=by
 have e:(BitVec.ofInt IntKind.i64.bits (a:Int) ^^^ BitVec.ofInt IntKind.i64.bits (b:Int)).toNat=a ^^^ b:=by
  rw[BitVec.toNat_xor]
  exact congr (congrArg HXor.hXor (ofInt64 ha)) (ofInt64 hb)
 unfold GK
 rw[e]
 exact D9 (zj ha hb)
def BJ (a:Nat):Nat:=a >>> 1 ^^^ 3988292384*(a &&& 1)
theorem Vd (a:Nat):a &&& 1=0∨a &&& 1=1:=by
 rw[Nat.and_one_is_mod]
 omega
theorem zy {a:Nat} (h:a<4294967296):a >>> 1<4294967296:=by
 rw[fS]
 omega
theorem Dl (a:Nat):3988292384*(a &&& 1)<4294967296:=by
 rcases Vd a with h|h <;> rw[h] <;> decide
theorem He {a:Nat} (h:a<4294967296):BJ a<4294967296:=zj (zy h) (Dl a)
theorem E6 {a:Nat} (h:a<4294967296):Ee (a:Int)=(BJ a:Int):=by
 unfold Ee BJ
 have e1:(a:Int).fdiv (2 ^ min (nj 1) IntKind.u32.bits)=((a >>> 1:Nat):Int):=by
  rw[fS]
  show(a:Int).fdiv 2=_
  rw[Int.fdiv_eq_ediv_of_nonneg _ (by decide)]
  simp
 have e2:Ld (a:Int) 1=((a &&& 1:Nat):Int):=I3 h (b:=1) (by decide)
 have e3:(3988292384:Int)*((a &&& 1:Nat):Int)=((3988292384*(a &&& 1):Nat):Int):=by simp
 rw[e1,e2,e3,D8 (Dl a)]
 exact wV (zy h) (Dl a)
def xQ:Nat→Nat→Nat
 | 0,d=>d
 | n+1,d=>BJ (xQ n d)
theorem Ce {a:Nat} (h:a<4294967296):∀k,xQ k a<4294967296
 | 0=>h
 | k+1=>He (Ce h k)
theorem zU {a:Nat} (h:a<4294967296):∀k,sX k (a:Int)=(xQ k a:Int)
 | 0=>rfl
 | k+1=>by
  unfold sX xQ
  rw[zU h k]
  exact E6 (Ce h k)
def zu (d b k:Nat):Nat:=if (d ^^^ b >>> k) % 2=1 then d >>> 1 ^^^ 3988292384 else d >>> 1
def pR (c b:Nat):Nat→Nat
 | 0=>c
 | n+1=>zu (pR c b n) b n
theorem Hf {d:Nat} (h:d<4294967296) (b k:Nat):zu d b k<4294967296:=by
 unfold zu
 split
 ·exact zj (zy h) (by decide)
 ·exact zy h
theorem xR {c:Nat} (h:c<4294967296) (b:Nat):∀k,pR c b k<4294967296
 | 0=>h
 | k+1=>Hf (xR h b k) b k
theorem Mm {b:Nat} (h:b<4294967296) (k:Nat):b >>> k<4294967296:=by
 rw[fS]
 exact Nat.lt_of_le_of_lt (Nat.div_le_self _ _) h
theorem E7 {d:Nat} (h:d<4294967296) (b:UInt8) {k:Nat} (hk:k≤63):xo (d:Int) b (k:Int)=(zu d b.toNat k:Int):=by
 have hb:b.toNat<4294967296:=by have:=b.toNat_lt;omega
 have e0:IntKind.i64.wrap ((b.toNat:Nat):Int)=(b.toNat:Int):=D9 hb
 have e1:(IntKind.i64.wrap ((b.toNat:Nat):Int)).fdiv (2 ^ min (nj (k:Int)) IntKind.i64.bits)=((b.toNat >>> k:Nat):Int):=by
  rw[e0,fS,aR,show min k IntKind.i64.bits=k from lX (by show k≤64;omega)]
  rw[Int.fdiv_eq_ediv_of_nonneg _ (Int.pow_nonneg (by decide))]
  simp
 have e2:GK (d:Int) ((b.toNat >>> k:Nat):Int)=((d ^^^ b.toNat >>> k:Nat):Int):=Bt h (Mm hb k)
 have e3:NJ (d:Int) b (k:Int)=(((d ^^^ b.toNat >>> k) % 2:Nat):Int):=by
  unfold NJ
  rw[e1,e2]
  rw[Int.tmod_eq_emod_of_nonneg (by omega)]
  simp
 have e4:IntKind.i64.wrap ((d:Int).tdiv 2)=((d >>> 1:Nat):Int):=by
  have:(d:Int).tdiv 2=((d >>> 1:Nat):Int):=by
   rw[Int.tdiv_eq_ediv_of_nonneg (by omega),fS]
   simp
  rw[this]
  exact D9 (zy h)
 unfold xo zu
 rw[e3,e4]
 by_cases hc:(d ^^^ b.toNat >>> k) % 2=1
 ·rw[if_pos hc,if_pos (by simp[hc])]
  exact Bt (zy h) (b:=3988292384) (by decide)
 ·rw[if_neg hc,if_neg]
  have:(d ^^^ b.toNat >>> k) % 2=0:=by omega
  rw[this]
  decide
theorem zW {c:Nat} (h:c<4294967296) (b:UInt8):∀k,k≤64→Ev (c:Int) b k=(pR c b.toNat k:Int)
 | 0,_=>rfl
 | k+1,hk=>by
  unfold Ev pR
  rw[zW h b k (by omega)]
  exact E7 (xR h _ k) b (by omega)
theorem zT (c b:Nat):∀k,xQ k (c ^^^ b)=pR c b k ^^^ b >>> k
 | 0=>by simp[xQ,pR]
 | k+1=>by
  have ih:=zT c b k
  unfold xQ pR
  rw[ih]
  generalize pR c b k=d
  unfold BJ zu
  have e1:(d ^^^ b >>> k) >>> 1=d >>> 1 ^^^ b >>> (k+1):=by
   rw[Nat.shiftRight_xor_distrib,Nat.shiftRight_add]
  rw[e1,Nat.and_one_is_mod]
  by_cases hc:(d ^^^ b >>> k) % 2=1
  ·rw[if_pos hc,hc,Nat.mul_one]
   rw[Nat.xor_assoc,Nat.xor_assoc]
   congr 1
   exact Nat.xor_comm _ _
  ·rw[if_neg hc]
   have:(d ^^^ b >>> k) % 2=0:=by omega
   rw[this,Nat.mul_zero,Nat.xor_zero]
def Nz (l:List UInt8):Nat:=l.foldl (fun c b=>pR c b.toNat 8) 4294967295
theorem IL (l:List UInt8):∀{c:Nat},c<4294967296→l.foldl (fun c b=>sX 8 (yX c (IntKind.u32.wrap (b.toNat:Int)))) (c:Int)=((l.foldl (fun c b=>pR c b.toNat 8) c:Nat):Int)∧l.foldl (fun c b=>Ev c b 8) (c:Int)=((l.foldl (fun c b=>pR c b.toNat 8) c:Nat):Int)∧l.foldl (fun c b=>pR c b.toNat 8) c<4294967296:=by
 induction l with
 | nil=>exact fun h=>⟨rfl,rfl,h⟩
 | cons b l ih=>
  intro c h
  have hb:b.toNat<4294967296:=by have:=b.toNat_lt;omega
  simp only[iw]
  have e1:sX 8 (yX (c:Int) (IntKind.u32.wrap (b.toNat:Int)))=(pR c b.toNat 8:Int):=by
   rw[D8 hb,wV h hb,zU (zj h hb),zT]
   have:b.toNat >>> 8=0:=by
    rw[fS]
    have:=b.toNat_lt
    omega
   rw[this,Nat.xor_zero]
  rw[e1,zW h b 8 (by decide)]
  exact ih (xR h _ 8)
def ko (l:List UInt8):Nat:=Nz l ^^^ 4294967295
theorem EH (l:List UInt8):Nz l<4294967296:=(IL l (c:=4294967295) (by decide)).2.2
theorem JV (l:List UInt8):ko l<4294967296:=zj (EH l) (by decide)
theorem IM (l:List UInt8):MG (A7 l)=(ko l:Int):=by
 have e:A7 l=(Nz l:Int):=(IL l (c:=4294967295) (by decide)).1
 unfold MG ko
 rw[e,Nat.xor_comm]
 exact wV (a:=4294967295) (by decide) (EH l)
end Go.Proofs.YtmkapocibaojdaaGreatDoor
end
section
namespace Go.Proofs.YtmkapocibaojdaaGreatDoor
open Go Go.Sx
set_option maxHeartbeats 4000000 in
theorem zm {w:World} {S:Nat→Prop} {s0:ByteArray} (h9:s0.size≤100000):Calls Tryz.prog 189 #[.string s0] w fun e w'=>cQ [] w S w' e (.int .u32 (ko s0.data.toList)) [] []:=
 (QW (S:=S) h9).mono fun e w' h=>by rw[IM]at h;exact h
def AA (key:ByteArray) (n:Int):Int:=(ko key.data.toList:Int).tmod n
theorem mg {key:ByteArray} {n:Int} (h1:1≤n) (h6:n≤6):(IntKind.i64.wrap (ko key.data.toList:Int)).tmod n=AA key n:=by
 rw[D9 (JV key.data.toList)]
 rfl
theorem Du {s:ByteArray} (h:dS s=true):s.size≤16:=by
 simp only[dS,bT,decide_eq_true_eq]at h
 exact h.1.2
def mX (key:ByteArray) (n:Int):Int:=if dS key=true then AA key n else 0
set_option maxHeartbeats 4000000 in
theorem Mn {w:World} {S:Nat→Prop} {er:Nat→Addr} {eb:Nat→Array Value×TypeId} {key:ByteArray} {n:Int} (hC:cm w S .nilIface (dC er eb)) :
  Calls Tryz.prog 148 #[.string key,.int .i64 n] w fun e w'=>
   (dS key=false∧cQ [] w S w' e (.tuple #[.int .i64 0,.iface 390 (.pointer (some (er 4)))]) [] []) ∨
   (dS key=true∧(n<1∨6<n)∧cQ [] w S w' e (.tuple #[.int .i64 0,.iface 390 (.pointer (some (er 2)))]) [] []) ∨
   (dS key=true∧(1≤n∧n≤6)∧cQ [] w S w' e (.tuple #[.int .i64 (AA key n),.nilIface]) [] []):=by
 refine jL Tryz.func148 RD (args:=[.string key,.int .i64 n]) (G:=[(_,dC er eb)]) (by kernel_rfl) (.cons hC (.nil _ _)) ?_
 refine bH (ij 0 [1,3] rfl rfl) ?_
 refine di 1 rfl (fun ni mW ng dh=>?_)
 refine di 2 rfl (fun uY uq uS gu=>?_)
 try simp only[aQ]
 refine Zs [zR 0,zR 1] [] [zI 4 0,zV 5 .nilIface] ?_
 refine aq ?_
 refine jS [(0,true),(1,false),(2,true)] [] ?_
 refine Ya [zR 0] [] [zV 6 (.string key)] ?_
 refine Yc 154 #[.string key] (some 7) fun w S hG=>?_
 refine(Bw (S:=S)).mono ?_
 rintro e1 w1 hR
 refine⟨_,_,_,hR,?_⟩
 try simp only[aQ]
 refine Ya [zR 2] [7,6] [zB 8 (!dS key)] ?_
 refine aC ?_
 refine cC (t:=!dS key) (fun hn=>?_) (fun hn=>?_)
 ·have rF:dS key=false:=by simpa using hn
  refine Zt [.rd 0 [.r 1 (some (.iface 390 (.pointer (some (er 4)))))] 0 0,zR 1,zR 2] [8] [zV 5 (.iface 390 (.pointer (some (er 4))))] (oC gu oN) ?_
  refine Yr [[],[]] (.tuple #[nI 0,.iface 390 (.pointer (some (er 4)))]) fun a w s=>?_
  exact .inl ⟨rF,s.ret (by simp) [] [] rfl rfl⟩
 ·have rF:dS key=true:=by simpa using hn
  have hk:=Du rF
  refine aG (aq ?_)
  refine Zs (bh 0 3++[.rd 3 [] 2 0,.rd 4 [] 2 0,.rd 5 [] 0 3]) [8] [zB 15 (decide (n<1)||decide (n>6))] ?_
  refine cC (t:=decide (n<1)||decide (n>6)) (fun hb=>?_) (fun hb=>?_)
  ·refine aq ?_
   refine Zp [.rd 0 [.r 0 (some (.iface 390 (.pointer (some (er 2)))))] 0 0,zR 1,zR 2] [15] [zV 5 (.iface 390 (.pointer (some (er 2))))] (oC dh oN) ?_
   refine Yr [[],[]] (.tuple #[nI 0,.iface 390 (.pointer (some (er 2)))]) fun a w s=>?_
   exact .inr (.inl ⟨rF,by simp at hb;omega,s.ret (by simp) [] [] rfl rfl⟩)
  ·have oQ:1≤n∧n≤6:=by simp at hb;omega
   obtain h|h|h|h|h|h:n=1∨n=2∨n=3∨n=4∨n=5∨n=6:=by omega
   ·subst h
    refine aG ?_
    refine jS [(0,true),(1,false),(2,true),(3,true),(4,true),(5,true),(6,true)] [] ?_
    refine Ya [zR 0] [15,0] [zV 17 (.string key)] ?_
    refine Yc 189 #[.string key] (some 18) fun w S hG=>?_
    refine(zm (S:=S) (by omega)).mono ?_
    rintro e2 w2 hR
    refine⟨_,_,_,hR,?_⟩
    try simp only[aQ]
    refine Ya (bh 2 7) [18,17,1] [zI 4 ((IntKind.i64.wrap (↑(ko key.data.toList):Int)).tmod 1)] ?_
    refine aC ?_
    refine Yr [[],[]] (.tuple #[nI ((IntKind.i64.wrap (↑(ko key.data.toList):Int)).tmod 1),.nilIface]) fun a w s=>?_
    rw[mg (by decide) (by decide)]
    exact .inr (.inr ⟨rF,oQ,s.ret (by simp) [] [] rfl rfl⟩)
   ·subst h
    refine aG ?_
    refine jS [(0,true),(1,false),(2,true),(3,true),(4,true),(5,true),(6,true)] [] ?_
    refine Ya [zR 0] [15,0] [zV 17 (.string key)] ?_
    refine Yc 189 #[.string key] (some 18) fun w S hG=>?_
    refine(zm (S:=S) (by omega)).mono ?_
    rintro e2 w2 hR
    refine⟨_,_,_,hR,?_⟩
    try simp only[aQ]
    refine Ya (bh 2 7) [18,17,1] [zI 4 ((IntKind.i64.wrap (↑(ko key.data.toList):Int)).tmod 2)] ?_
    refine aC ?_
    refine Yr [[],[]] (.tuple #[nI ((IntKind.i64.wrap (↑(ko key.data.toList):Int)).tmod 2),.nilIface]) fun a w s=>?_
    rw[mg (by decide) (by decide)]
    exact .inr (.inr ⟨rF,oQ,s.ret (by simp) [] [] rfl rfl⟩)
   ·subst h
    refine aG ?_
    refine jS [(0,true),(1,false),(2,true),(3,true),(4,true),(5,true),(6,true)] [] ?_
    refine Ya [zR 0] [15,0] [zV 17 (.string key)] ?_
    refine Yc 189 #[.string key] (some 18) fun w S hG=>?_
    refine(zm (S:=S) (by omega)).mono ?_
    rintro e2 w2 hR
    refine⟨_,_,_,hR,?_⟩
    try simp only[aQ]
    refine Ya (bh 2 7) [18,17,1] [zI 4 ((IntKind.i64.wrap (↑(ko key.data.toList):Int)).tmod 3)] ?_
    refine aC ?_
    refine Yr [[],[]] (.tuple #[nI ((IntKind.i64.wrap (↑(ko key.data.toList):Int)).tmod 3),.nilIface]) fun a w s=>?_
    rw[mg (by decide) (by decide)]
    exact .inr (.inr ⟨rF,oQ,s.ret (by simp) [] [] rfl rfl⟩)
   ·subst h
    refine aG ?_
    refine jS [(0,true),(1,false),(2,true),(3,true),(4,true),(5,true),(6,true)] [] ?_
    refine Ya [zR 0] [15,0] [zV 17 (.string key)] ?_
    refine Yc 189 #[.string key] (some 18) fun w S hG=>?_
    refine(zm (S:=S) (by omega)).mono ?_
    rintro e2 w2 hR
    refine⟨_,_,_,hR,?_⟩
    try simp only[aQ]
    refine Ya (bh 2 7) [18,17,1] [zI 4 ((IntKind.i64.wrap (↑(ko key.data.toList):Int)).tmod 4)] ?_
    refine aC ?_
    refine Yr [[],[]] (.tuple #[nI ((IntKind.i64.wrap (↑(ko key.data.toList):Int)).tmod 4),.nilIface]) fun a w s=>?_
    rw[mg (by decide) (by decide)]
    exact .inr (.inr ⟨rF,oQ,s.ret (by simp) [] [] rfl rfl⟩)
   ·subst h
    refine aG ?_
    refine jS [(0,true),(1,false),(2,true),(3,true),(4,true),(5,true),(6,true)] [] ?_
    refine Ya [zR 0] [15,0] [zV 17 (.string key)] ?_
    refine Yc 189 #[.string key] (some 18) fun w S hG=>?_
    refine(zm (S:=S) (by omega)).mono ?_
    rintro e2 w2 hR
    refine⟨_,_,_,hR,?_⟩
    try simp only[aQ]
    refine Ya (bh 2 7) [18,17,1] [zI 4 ((IntKind.i64.wrap (↑(ko key.data.toList):Int)).tmod 5)] ?_
    refine aC ?_
    refine Yr [[],[]] (.tuple #[nI ((IntKind.i64.wrap (↑(ko key.data.toList):Int)).tmod 5),.nilIface]) fun a w s=>?_
    rw[mg (by decide) (by decide)]
    exact .inr (.inr ⟨rF,oQ,s.ret (by simp) [] [] rfl rfl⟩)
   ·subst h
    refine aG ?_
    refine jS [(0,true),(1,false),(2,true),(3,true),(4,true),(5,true),(6,true)] [] ?_
    refine Ya [zR 0] [15,0] [zV 17 (.string key)] ?_
    refine Yc 189 #[.string key] (some 18) fun w S hG=>?_
    refine(zm (S:=S) (by omega)).mono ?_
    rintro e2 w2 hR
    refine⟨_,_,_,hR,?_⟩
    try simp only[aQ]
    refine Ya (bh 2 7) [18,17,1] [zI 4 ((IntKind.i64.wrap (↑(ko key.data.toList):Int)).tmod 6)] ?_
    refine aC ?_
    refine Yr [[],[]] (.tuple #[nI ((IntKind.i64.wrap (↑(ko key.data.toList):Int)).tmod 6),.nilIface]) fun a w s=>?_
    rw[mg (by decide) (by decide)]
    exact .inr (.inr ⟨rF,oQ,s.ret (by simp) [] [] rfl rfl⟩)
set_option maxHeartbeats 4000000 in
theorem Mo {w:World} {S:Nat→Prop} {er:Nat→Addr} {eb:Nat→Array Value×TypeId} {key:ByteArray} {n:Int} (hC:cm w S .nilIface (dC er eb)) (h1:1≤n) (h6:n≤6) :
  Calls Tryz.prog 148 #[.string key,.int .i64 n] w fun e w'=>∃v,cQ [] w S w' e (.tuple #[.int .i64 (mX key n),v]) [] []:=
 (Mn hC).mono fun e w' h=>by
  rcases h with ⟨hn,h⟩|⟨_,hb,_⟩|⟨hn,_,h⟩
  ·exact⟨_,by rw[mX,if_neg (by simp[hn])];exact h⟩
  ·omega
  ·exact⟨_,by rw[mX,if_pos hn];exact h⟩
end Go.Proofs.YtmkapocibaojdaaGreatDoor
end
section
namespace Go.Proofs.YtmkapocibaojdaaGreatDoor
open Go Go.Sx
def yW (n i:Int) (o:fP):Bool:=decide (mX o.key n=i)
structure GB (α:Type) where
 i:Int
 j:Int
 cur:Array Value
 xs:List Value
 Lc:List α
structure yT {α:Type} (p:α→Bool) (L:List α) (i j:Int) (Lc:List α):Prop where
 len:Lc.length=L.length
 take:Lc.take i.toNat=(L.take j.toNat).filter p
 drop:Lc.drop j.toNat=L.drop j.toNat
section Ux
variable {α:Type} {p:α→Bool} {L Lc:List α} {i j:Int} {x:α}
theorem yT.at (h:yT p L i j Lc) (hx:L[j.toNat]?=some x):Lc[j.toNat]?=some x:=by
 have h1:(Lc.drop j.toNat)[0]?=(L.drop j.toNat)[0]?:=by rw[h.drop]
 rw[cq,cq,dZ]at h1
 rw[h1,hx]
theorem yT.skip (h:yT p L i j Lc) (hj:0≤j) (hx:L[j.toNat]?=some x) (hk:p x=false):yT p L i (j+1) Lc:=by
 refine⟨h.len,?_,?_⟩
 ·rw[h.take,←dz hj hx,dm]
  simp[hk]
 ·rw[show(j+1).toNat=j.toNat+1 by omega,←fH,←fH,h.drop]
theorem yT.keep (h:yT p L i j Lc) (hi:0≤i) (hij:i<j) (hj:j<L.length) (hx:L[j.toNat]?=some x) (hk:p x=true):yT p L (i+1) (j+1) (Lc.set i.toNat x):=by
 refine⟨by rw[jg];exact h.len,?_,?_⟩
 ·have hl:=h.len
  have h1:(Lc.set i.toNat x).take (i.toNat+1)=Lc.take i.toNat++[x]:=by
   rw[cV,List.take_set_of_le (aX _)]
   simp[show i.toNat<Lc.length by omega]
  rw[show(i+1).toNat=i.toNat+1 by omega,h1,h.take,←dz (by omega) hx,dm]
  simp[hk]
 ·rw[List.drop_set_of_lt (by omega),show(j+1).toNat=j.toNat+1 by omega,←fH,←fH,h.drop]
theorem yT.first {r:Int} (FR:0≤r) (hx:L[r.toNat]?=some x) (hk:p x=false) (hn:∀y∈L.take r.toNat,p y=true):yT p L r (r+1) L:=by
 refine⟨rfl,?_,rfl⟩
 rw[←dz FR hx,dm,fk.2 hn]
 simp[hk]
end Ux
set_option maxHeartbeats 4000000 in
theorem Es {w:World} {S:Nat→Prop} {M:List Nat} {er:Nat→Addr} {eb:Nat→Array Value×TypeId} {op:fP} {v o i:Value} {b vb b3 b5:Nat} {id places ah clock sh:Int} (ov:v.oneCell'=true) (hC:cm w S .nilIface (dC er eb)) (h3:cm w S (.pointer (some ⟨b3,0,none⟩)) (.ptr [.v (.pointer (some ⟨b,0,none⟩))])) (h5:cm w S (.pointer (some ⟨b5,0,none⟩)) (.ptr [.v (.int .i64 sh)]))
  (hP:Pre w S M [bL b (xB vb id places ah clock o i)]) (s1:1≤ah) (s6:ah≤6) :
  Calls Tryz.prog 147 #[LH op v,.pointer (some ⟨b3,0,none⟩),.pointer (some ⟨b5,0,none⟩)] w fun e w'=>cQ M w S w' e (.bool (!yW ah sh op)) [bL b (xB vb id places ah clock o i)] []:=by
 refine pW Tryz.func147 RE (args:=[LH op v,.pointer (some ⟨b3,0,none⟩),.pointer (some ⟨b5,0,none⟩)]) (S:=S) (G:=[(_,dC er eb),(_,.ptr [.v (.pointer (some ⟨b,0,none⟩))]),(_,.ptr [.v (.int .i64 sh)])]) (by kernel_rfl) hP (.cons hC (.cons h3 (.cons h5 (.nil _ _)))) ?_
 refine fh 0 rfl ?_
 refine di 1 rfl (fun ni mW ng dh=>?_)
 refine di 2 rfl (fun uY uq uS gu=>?_)
 refine Zv [.wr 0 [] 0,zR 1] [] [0] (fun aN=>[zP 3 (aN 0),zB 4 false]) o0 (fun aN=>[(aN 0,.cells #[nI op.no,.string op.key,nI op.kind,.string op.text,nI op.n,.bool op.remove,v] 55 (0,0))]) (fun aN=>?_)
 refine jS [(0,true),(1,true),(2,true),(3,true),(4,true),(5,true),(6,false),(7,true),(8,true),(9,true),(10,true),(11,true)] [] ?_
 refine Yp [zR 0,.rd 1 [.o 1 none] 0 0,.rd 2 [.r 0 (some (.pointer (sA b 0)))] 0 0,zR 3,zR 4,.rd 5 [.o 0 none] 0 0] [3,1] [zV 9 (.string op.key),zI 13 ah] (oC dh oN) ?_
 refine Yc 148 #[.string op.key,nI ah] (some 14) fun w S hG=>?_
 refine(Mo (hG.at 0 rfl) s1 s6).mono ?_
 rintro e1 w1 ⟨v2,hR⟩
 refine⟨_,_,_,hR,?_⟩
 try simp only[aQ]
 refine Ya (bh 7 12) [14,9,13] [zI 5 (mX op.key ah)] ?_
 refine aC ?_
 refine Zt [zR 0,.rd 1 [.r 1 (some (nI sh))] 0 0,zR 2,zR 3] [5,2] [zB 4 (mX op.key ah != sh)] (oC gu oN) ?_
 refine Yr [[]] (.bool (mX op.key ah != sh)) fun a w s=>?_
 have e:(!yW ah sh op)=(mX op.key ah != sh):=rfl
 rw[e]
 exact(s.dY 0 rfl).ret (by simp) [0] [] rfl rfl
abbrev Sm (b3 b5:Nat):Value:=.func (.func 147) #[] #[.pointer (some ⟨b3,0,none⟩),.pointer (some ⟨b5,0,none⟩)]
set_option maxHeartbeats 4000000 in
theorem FL {w:World} {S:Nat→Prop} {M:List Nat} {er:Nat→Addr} {eb:Nat→Array Value×TypeId} {a:Option Addr} {n c:Nat} {L:List fP} {o i:Value} {b vb b3 b5:Nat} {id places ah clock sh:Int} (hC:cm w S .nilIface (dC er eb)) (h3:cm w S (.pointer (some ⟨b3,0,none⟩)) (.ptr [.v (.pointer (some ⟨b,0,none⟩))])) (h5:cm w S (.pointer (some ⟨b5,0,none⟩)) (.ptr [.v (.int .i64 sh)]))
  (hP:Pre w S M [aT (.slice a n c) 55 7 (L.map fe),bL b (xB vb id places ah clock o i)]) (s1:1≤ah) (s6:ah≤6) (hl:L.length≤1000000) :
  Calls Tryz.prog 188 #[.slice a n c,Sm b3 b5] w fun e w'=>∃r:Int,cQ M w S w' e (.int .i64 r) [aT (.slice a n c) 55 7 (L.map fe),bL b (xB vb id places ah clock o i)] [] ∧
   ((r = -1∧∀x∈L,yW ah sh x=true)∨(0≤r∧r<L.length∧(∃x,L[r.toNat]?=some x∧yW ah sh x=false)∧∀x∈L.take r.toNat,yW ah sh x=true)):=by
 refine pW Tryz.func188 Rh (args:=[.slice a n c,Sm b3 b5]) (S:=S) (C:=[aT (.slice a n c) 55 7 (L.map fe),bL b (xB vb id places ah clock o i)]) (G:=[(_,dC er eb),(_,.ptr [.v (.pointer (some ⟨b,0,none⟩))]),(_,.ptr [.v (.int .i64 sh)])]) (by kernel_rfl) hP (.cons hC (.cons h3 (.cons h5 (.nil _ _)))) ?_
 refine b9 (eC 0 rfl) fun _ hk=>?_
 rw[aA]at hk
 subst hk
 refine Zs [zR 0] [] [zI 4 0] ?_
 refine aq ?_
 refine Zs (bh 0 3) [] [zI 7 (↑L.length:Int),zI 8 0] ?_
 refine aM ?_
 refine cU (fun i2:Int=>[zS 0 a L.length c,zV 1 (.func (.func 147) #[] #[.pointer (sA b3 0),.pointer (sA b5 0)]),zI 4 0,zI 7 (↑L.length:Int),zI 8 i2]) (fun i2:Int=>[]) (fun i2:Int=>[aT (.slice a L.length c) 55 7 (L.map fe),bL b (xB vb id places ah clock o i)]) (fun i2:Int=>[(.nilIface,(dC er eb)),(.pointer (sA b3 0),(D.ptr [D.v (Value.pointer (some (Addr.mk b 0 none)))])),(.pointer (sA b5 0),(D.ptr [D.v (nI sh)]))]) (fun i2:Int=>(L.length - i2).toNat) (fun i2:Int=>(0≤i2∧i2≤L.length∧∀x∈L.take i2.toNat,yW ah sh x=true)) 0 [0,1,4,7,8] [] [0,1] [0,1,2] ?_ (by kernel_rfl) rfl rfl rfl ?_
 ·exact⟨by simp,by omega,by simp⟩
 rintro i2 ⟨hi0,hi,hno⟩
 refine Zs [zR 0] [] [zB 9 (decide (i2<(↑L.length:Int)))] ?_
 refine aq ?_
 refine cC (t:=decide (i2<(↑L.length:Int))) (fun hlt=>?_) (fun hlt=>?_)
 ·have fa:i2<L.length:=by simpa using hlt
  obtain⟨x,hx⟩:∃x,L[i2.toNat]?=some x:=⟨_,ak (by omega)⟩
  refine kj 0 rfl (by intro h0;rw[cM]at h0;rw[h0]at hx;simp at hx) fun g cur xs hu _ _ hrow=>?_
  subst hu
  refine b9 (jj 1 rfl i2.toNat (dD hx)) fun ls hls=>?_
  obtain⟨qD,oU⟩:=hls
  obtain⟨⟨xa,xc⟩,rfl⟩:∃l0,ls=[l0]:=Ko qD
  have f:=fun(j:Nat) v h=>hrow.L6 (oU j v h)
  have r0:cur[0+i2.toNat*7]?=some (.int .i64 x.no):=by rw[aK];exact f 0 _ rfl
  have r1:cur[0+i2.toNat*7+1]?=some (.string x.key):=by rw[aK];exact f 1 _ rfl
  have r2:cur[0+i2.toNat*7+2]?=some (.int .i64 x.kind):=by rw[aK];exact f 2 _ rfl
  have r3:cur[0+i2.toNat*7+3]?=some (.string x.text):=by rw[aK];exact f 3 _ rfl
  have r4:cur[0+i2.toNat*7+4]?=some (.int .i64 x.n):=by rw[aK];exact f 4 _ rfl
  have r5:cur[0+i2.toNat*7+5]?=some (.bool x.remove):=by rw[aK];exact f 5 _ rfl
  have r6:cur[0+i2.toNat*7+6]?=some (.slice xa (x.bF.map bK).length xc):=by rw[aK];exact f 6 _ rfl
  try simp only[aQ]
  refine aG ?_
  try simp only[aQ]
  refine aq ?_
  try simp only[aQ]
  refine aM ?_
  try simp only[aQ]
  refine aq ?_
  try simp only[aQ]
  refine Za [zR 0,zR 1] [9] [zI 5 i2] ?_
  try simp only[aQ]
  refine aq ?_
  try simp only[aQ]
  refine jT [(0,true),(1,true),(2,true),(3,true),(4,true),(5,false)] [] ?_
  refine Yp (bh 0 3++[.rd 3 [] 0 2,.rd 4 [.o 0 (some (nI x.no)),.o 0 (some (.string x.key)),.o 0 (some (nI x.kind)),.o 0 (some (.string x.text)),.o 0 (some (nI x.n)),.o 0 (some (.bool x.remove)),.o 0 (some (.slice xa ((aj bK x.bF).length) xc))] 0 0]) [] [zV 11 (.func (.func 147) #[] #[.pointer (sA b3 0),.pointer (sA b5 0)]),zV 15 (.agg #[nI x.no,.string x.key,nI x.kind,.string x.text,nI x.n,.bool x.remove,.slice xa ((aj bK x.bF).length) xc])] (oC hi0 (oC fa (oC r0 (oC r1 (oC r2 (oC r3 (oC r4 (oC r5 (oC r6 oN))))))))) ?_
  refine cn [] [0] 147 #[.agg #[.int .i64 x.no,.string x.key,.int .i64 x.kind,.string x.text,.int .i64 x.n,.bool x.remove,.slice xa ((aj bK x.bF).length) xc],.pointer (some (⟨b3,0,none⟩)),.pointer (some (⟨b5,0,none⟩))] (some 16) (by kernel_rfl) (by kernel_rfl) (by decide) (fun w S M hP hG _=>?_)
  refine(Es (op:=x) rfl (hG.at 0 rfl) (hG.at 1 rfl) (hG.at 2 rfl) hP s1 s6).mono ?_
  rintro e w2 hR
  refine⟨_,_,_,hR,?_⟩
  try simp only[aQ]
  refine aC ?_
  try simp only[aQ]
  refine js 0 rfl ?_
  refine bH (gw 2 0 rfl rfl hrow (by decide)) ?_
  rw[show(aj fe L).length=L.length from aA ..]
  refine cC (t:=!yW ah sh x) (fun hb=>?_) (fun hb=>?_)
  ·try simp only[aQ]
   refine aq ?_
   try simp only[aQ]
   refine Za [zR 0,zR 1] [16] [zI 4 i2] ?_
   try simp only[aQ]
   refine Yr [[]] (nI i2) fun a w s=>?_
   exact⟨i2,s.ret (by simp) [1,0] [] rfl rfl,.inr ⟨hi0,fa,⟨x,hx,by simpa using hb⟩,hno⟩⟩
  ·try simp only[aQ]
   refine aG ?_
   try simp only[aQ]
   refine eu ?_
   try simp only[aQ]
   refine Zp [.rd 0 [] 0 1,zR 1] [16] [zI 8 (i2+1)] (oC (show IntKind.i64.wrap (i2+1)=i2+1 from wrap_i64 (by omega) (by omega)) oN) ?_
   try simp only[aQ]
   refine bC (i2+1) [0,1,4,7,8] [] [1,0] [0,1,2] ?_ ?_ (by kernel_rfl) rfl rfl rfl
   ·refine⟨by omega,by omega,fun y hy=>?_⟩
    rw[←dz hi0 hx,au,ay]at hy
    rcases hy with hy|rfl
    ·exact hno y hy
    ·simpa using hb
   ·omega
 ·have e:bZ i2.toNat L=L:=br (by simp at hlt;omega)
  rw[e]at hno
  refine dO rfl ?_
  refine Zs [zR 0] [9,0,1,7,8] [zI 4 (-1)] ?_
  refine Yr [[]] (nI (-1)) fun a w s=>?_
  exact⟨-1,s.ret (by simp) [0,1] [] rfl rfl,.inl ⟨rfl,hno⟩⟩
set_option maxHeartbeats 4000000 in
theorem DO {w:World} {S:Nat→Prop} {M:List Nat} {er:Nat→Addr} {eb:Nat→Array Value×TypeId} {a:Option Addr} {n c:Nat} {L:List fP} {o i:Value} {b vb b3 b5:Nat} {id places ah clock sh:Int} (hC:cm w S .nilIface (dC er eb)) (h3:cm w S (.pointer (some ⟨b3,0,none⟩)) (.ptr [.v (.pointer (some ⟨b,0,none⟩))])) (h5:cm w S (.pointer (some ⟨b5,0,none⟩)) (.ptr [.v (.int .i64 sh)]))
  (hP:Pre w S M [aT (.slice a n c) 55 7 (L.map fe),bL b (xB vb id places ah clock o i)]) (s1:1≤ah) (s6:ah≤6) (hl:L.length≤1000000) :
  Calls Tryz.prog 146 #[.slice a n c,Sm b3 b5] w fun e w'=>∃a' n' c',cQ M w S w' e (.slice a' n' c') [aT (.slice a' n' c') 55 7 ((L.filter (yW ah sh)).map fe),bL b (xB vb id places ah clock o i)] []:=by
 refine pW Tryz.func146 RF (args:=[.slice a n c,Sm b3 b5]) (S:=S) (C:=[aT (.slice a n c) 55 7 (L.map fe),bL b (xB vb id places ah clock o i)]) (G:=[(_,dC er eb),(_,.ptr [.v (.pointer (some ⟨b,0,none⟩))]),(_,.ptr [.v (.int .i64 sh)])]) (by kernel_rfl) hP (.cons hC (.cons h3 (.cons h5 (.nil _ _)))) ?_
 refine b9 (eC 0 rfl) fun _ hk=>?_
 rw[aA]at hk
 subst hk
 refine Zs [zR 0] [] [zS 4 none 0 0] ?_
 refine jS [(0,true),(1,true),(2,false),(3,true)] [] ?_
 refine Ya [zR 0,zR 1] [] [zS 8 a L.length c,zV 9 (.func (.func 147) #[] #[.pointer (sA b3 0),.pointer (sA b5 0)])] ?_
 refine cn [] [0,1] 188 #[.slice a L.length c,.func (.func 147) #[] #[.pointer (some (⟨b3,0,none⟩)),.pointer (some (⟨b5,0,none⟩))]] (some 10) (by kernel_rfl) (by kernel_rfl) (by decide) (fun w S M hP hG _=>?_)
 refine(FL (hG.at 0 rfl) (hG.at 1 rfl) (hG.at 2 rfl) hP s1 s6 hl).mono ?_
 rintro e1 w1 ⟨r,hR,hr⟩
 refine⟨_,_,_,hR,?_⟩
 obtain⟨rfl,hall⟩|⟨FR,VB,⟨y,hy,hys⟩,Ig⟩:=hr
 ·try simp only[aQ]
  refine Ya [zR 3] [10,8,9] [zI 5 (-1)] ?_
  try simp only[aQ]
  refine aC ?_
  try simp only[aQ]
  refine aq ?_
  try simp only[aQ]
  refine aq ?_
  try simp only[aQ]
  refine Za [zR 0,zR 1] [] [zB 12 true] ?_
  try simp only[aQ]
  refine gR ?_
  try simp only[aQ]
  refine aq ?_
  try simp only[aQ]
  refine Za [zR 0,zR 1] [12] [zS 4 a L.length c] ?_
  try simp only[aQ]
  refine Yr [[]] (.slice a L.length c) fun a w s=>?_
  rw[fk.2 hall]
  exact⟨_,_,_,s.ret (by simp) [0,1] [] rfl rfl⟩
 ·have Vz:¬r = -1:=by omega
  try simp only[aQ]
  refine Ya [zR 3] [10,8,9] [zI 5 r] ?_
  try simp only[aQ]
  refine aC ?_
  try simp only[aQ]
  refine aq ?_
  try simp only[aQ]
  refine aq ?_
  try simp only[aQ]
  refine Zp [zR 0,.rd 1 [] 0 7] [] [zB 12 false] (oC (show(r==(-1:Int))=false from by simp;omega) oN) ?_
  try simp only[aQ]
  refine cF ?_
  try simp only[aQ]
  refine aG ?_
  try simp only[aQ]
  refine aq ?_
  try simp only[aQ]
  refine aq ?_
  try simp only[aQ]
  refine Zp [zR 0,.rd 1 [] 0 1,zR 2] [12] [zI 6 (r+1)] (oC (show IntKind.i64.wrap (r+1)=r+1 from wrap_i64 (by omega) (by omega)) oN) ?_
  try simp only[aQ]
  refine aM ?_
  try simp only[aQ]
  refine kj 0 rfl (by intro h0;rw[cM]at h0;rw[h0]at hy;simp at hy) fun g IJ Oi hu _ _ rD=>?_
  subst hu
  rw[aA]at rD
  have hcap:L.length≤c:=rD.le
  refine cU (fun x:GB fP=>[zS 0 (sA g 0) L.length c,zV 1 (.func (.func 147) #[] #[.pointer (sA b3 0),.pointer (sA b5 0)]),zS 4 none 0 0,zI 5 x.i,zI 6 x.j]) (fun x:GB fP=>[(g,.cells x.cur 55 (0,0))]) (fun x:GB fP=>[bL b (xB vb id places ah clock o i),kM x.xs 7 (x.Lc.map fe)]) (fun x:GB fP=>[(.nilIface,(dC er eb)),(.pointer (sA b3 0),(D.ptr [D.v (Value.pointer (some (Addr.mk b 0 none)))])),(.pointer (sA b5 0),(D.ptr [D.v (nI sh)]))]) (fun x:GB fP=>(L.length - x.j).toNat) (fun x:GB fP=>(0≤x.i∧x.i<x.j∧x.j≤L.length∧Row x.cur c L.length 7 x.xs∧yT (yW ah sh) L x.i x.j x.Lc)) ⟨r,r+1,IJ,Oi,L⟩ [0,1,4,5,6] [0] [0,1] [0,1,2] ?_ (by kernel_rfl) rfl rfl rfl ?_
  ·exact⟨FR,by simp only;omega,by simp only;omega,rD,.first FR hy hys Ig⟩
  rintro⟨i2,j,cu,xs,Lc⟩ ⟨hi0,hij,hj,hrow,hinv⟩
  dsimp only at hi0 hij hj hrow hinv ⊢
  refine aq ?_
  refine Zs (bh 0 4) [] [zB 19 (decide (j<(↑L.length:Int)))] ?_
  refine cC (t:=decide (j<(↑L.length:Int))) (fun hlt=>?_) (fun hlt=>?_)
  ·have fa:j<L.length:=by simpa using hlt
   obtain⟨x,hx⟩:∃x,L[j.toNat]?=some x:=⟨_,ak (by omega)⟩
   have PU:=hinv.at hx
   refine b9 (jj 1 rfl j.toNat (dD PU)) fun ls hls=>?_
   obtain⟨qD,oU⟩:=hls
   obtain⟨⟨xa,xc⟩,rfl⟩:∃l0,ls=[l0]:=Ko qD
   have f:=fun(j:Nat) v h=>hrow.L6 (oU j v h)
   have r0:cu[0+j.toNat*7]?=some (.int .i64 x.no):=by rw[aK];exact f 0 _ rfl
   have r1:cu[0+j.toNat*7+1]?=some (.string x.key):=by rw[aK];exact f 1 _ rfl
   have r2:cu[0+j.toNat*7+2]?=some (.int .i64 x.kind):=by rw[aK];exact f 2 _ rfl
   have r3:cu[0+j.toNat*7+3]?=some (.string x.text):=by rw[aK];exact f 3 _ rfl
   have r4:cu[0+j.toNat*7+4]?=some (.int .i64 x.n):=by rw[aK];exact f 4 _ rfl
   have r5:cu[0+j.toNat*7+5]?=some (.bool x.remove):=by rw[aK];exact f 5 _ rfl
   have r6:cu[0+j.toNat*7+6]?=some (.slice xa (x.bF.map bK).length xc):=by rw[aK];exact f 6 _ rfl
   try simp only[aQ]
   refine aG (aq (aM ?_))
   refine Zu [zR 0,zR 1,.rd 2 [] 0 2,.rd 3 [.o 0 (some (nI x.no)),.o 0 (some (.string x.key)),.o 0 (some (nI x.kind)),.o 0 (some (.string x.text)),.o 0 (some (nI x.n)),.o 0 (some (.bool x.remove)),.o 0 (some (.slice xa ((aj bK x.bF).length) xc))] 0 0,.wr 4 [] 0,.wr 5 (ek 1 7) 0] [(5,[])] [19] (fun aN=>[zP 7 (aN 0)]) o0 (fun aN=>[(aN 0,.cells #[nI x.no,.string x.key,nI x.kind,.string x.text,nI x.n,.bool x.remove,.slice xa ((aj bK x.bF).length) xc] 55 (0,0))]) (fun aN=>(oC (show 0≤j from by omega) (oC fa (oC r0 (oC r1 (oC r2 (oC r3 (oC r4 (oC r5 (oC r6 oN)))))))))) (fun aN=>?_)
   refine jS [(0,true),(1,true),(2,false),(3,true)] [] ?_
   refine Ya [zR 0,.rd 1 (ek 1 7) 0 0] [] [zV 26 (.func (.func 147) #[] #[.pointer (sA b3 0),.pointer (sA b5 0)]),zV 27 (.agg #[nI x.no,.string x.key,nI x.kind,.string x.text,nI x.n,.bool x.remove,.slice xa ((aj bK x.bF).length) xc])] ?_
   refine cn [] [0] 147 #[.agg #[.int .i64 x.no,.string x.key,.int .i64 x.kind,.string x.text,.int .i64 x.n,.bool x.remove,.slice xa ((aj bK x.bF).length) xc],.pointer (some (⟨b3,0,none⟩)),.pointer (some (⟨b5,0,none⟩))] (some 28) (by kernel_rfl) (by kernel_rfl) (by decide) (fun w S M hP hG _=>?_)
   refine(Es (op:=x) rfl (hG.at 0 rfl) (hG.at 1 rfl) (hG.at 2 rfl) hP s1 s6).mono ?_
   rintro e w2 hR
   refine⟨_,_,_,hR,?_⟩
   try simp only[aQ]
   refine Ya [zR 3] [28,26,27] [zB 29 (!!yW ah sh x)] ?_
   try simp only[aQ]
   refine aC ?_
   try simp only[aQ]
   refine cC (t:=!!yW ah sh x) (fun hb=>?_) (fun hb=>?_)
   ·have hkeep:yW ah sh x=true:=by simpa using hb
    have hsz:=hrow.Ei
    have LR:=hinv.len
    have WX:0+i2.toNat*7+7≤cu.size:=by omega
    try simp only[aQ]
    refine aq ?_
    try simp only[aQ]
    refine jT [(0,true),(1,true),(2,true),(3,true),(4,false)] [] ?_
    refine Yp [zR 0,zR 1,.rd 2 (ek 1 7) 0 0,.rd 3 [] 0 2] [29] [zV 32 (.agg #[nI x.no,.string x.key,nI x.kind,.string x.text,nI x.n,.bool x.remove,.slice xa ((aj bK x.bF).length) xc]),zV 33 (.pointer (sA g (0+i2.toNat*7)))] (oC hi0 (oC (show i2<(↑L.length:Int) from by omega) oN)) ?_
    refine rW 0 g (0+i2.toNat*7) 55 55 (.agg #[.int .i64 x.no,.string x.key,.int .i64 x.kind,.string x.text,.int .i64 x.n,.bool x.remove,.slice xa ((aj bK x.bF).length) xc]) [.int .i64 x.no,.string x.key,.int .i64 x.kind,.string x.text,.int .i64 x.n,.bool x.remove,.slice xa ((aj bK x.bF).length) xc] none (by kernel_rfl) (by kernel_rfl) (by kernel_rfl) rfl rfl rfl WX (by simp[Value.oneCell']) ?_
    try simp only[aQ]
    refine aC ?_
    try simp only[aQ]
    rw[aK]
    refine bH (tj 0 i2.toNat (vs:=[.int .i64 x.no,.string x.key,.int .i64 x.kind,.string x.text,.int .i64 x.n,.bool x.remove,.slice xa (x.bF.map bK).length xc]) (row:=fe x) rfl (by rw[hrow.len,aA,LR]) (by rw[aA];omega) rfl ⟨.inl ⟨rfl,rfl⟩,.inl ⟨rfl,rfl⟩,.inl ⟨rfl,rfl⟩,.inl ⟨rfl,rfl⟩,.inl ⟨rfl,rfl⟩,.inl ⟨rfl,rfl⟩,.inr (.inl (ae (i:=3) rfl)),trivial⟩) ?_
    rw[show(aj fe Lc).set i2.toNat (fe x)=aj fe (Lc.set i2.toNat x) from mS.symm]
    refine Zp [zR 0,.rd 1 [] 0 1,zR 2] [] [zI 5 (i2+1)] (oC (show IntKind.i64.wrap (i2+1)=i2+1 from wrap_i64 (by omega) (by omega)) oN) ?_
    refine eu ?_
    refine Zp [zR 0,.rd 1 [] 0 1,zR 2] [] [zI 6 (j+1)] (oC (show IntKind.i64.wrap (j+1)=j+1 from wrap_i64 (by omega) (by omega)) oN) ?_
    refine bC ⟨i2+1,j+1,_,_,Lc.set i2.toNat x⟩ [0,1,4,5,6] [0] [1,0] [0,1,2] ?_ ?_ (by kernel_rfl) rfl rfl rfl
    ·exact⟨by simp only;omega,by simp only;omega,by simp only;omega,hrow.By (by omega) rfl,hinv.keep hi0 hij fa hx hkeep⟩
    ·simp only
     omega
   ·have Is:yW ah sh x=false:=by simpa using hb
    try simp only[aQ]
    refine aG ?_
    try simp only[aQ]
    refine eu ?_
    try simp only[aQ]
    refine Zp [zR 0,.rd 1 [] 0 1,zR 2] [29] [zI 6 (j+1)] (oC (show IntKind.i64.wrap (j+1)=j+1 from wrap_i64 (by omega) (by omega)) oN) ?_
    try simp only[aQ]
    refine bC ⟨i2,j+1,cu,xs,Lc⟩ [0,1,4,5,6] [0] [1,0] [0,1,2] ?_ ?_ (by kernel_rfl) rfl rfl rfl
    ·exact⟨hi0,by simp only;omega,by simp only;omega,hrow,hinv.skip (by omega) hx Is⟩
    ·simp only
     omega
  ·have oP:j=L.length:=by simp at hlt;omega
   have hsz:=hrow.Ei
   have LR:=hinv.len
   have vM:i2<L.length:=by omega
   have Qw:i2<c:=by omega
   have yf:Lc.take i2.toNat=L.filter (yW ah sh):=by
    rw[hinv.take,oP,br (by simp)]
   have wQ:0+i2.toNat*7+(L.length - i2.toNat)*7≤cu.size:=by omega
   refine dO rfl ?_
   refine jS [(0,true),(1,true),(2,true),(3,false)] [] ?_
   refine Yp [zR 0,zR 1,.rd 2 [] 0 4] [19,1,6] [zS 38 (sA g (0+i2.toNat*7)) (L.length - i2.toNat) (c - i2.toNat)] (oC hi0 (oC (show i2≤(↑L.length:Int) from by omega) (oC Qw oN))) ?_
   refine yR (size:=7) (bytes:=88) 0 g (0+i2.toNat*7) (L.length - i2.toNat) (c - i2.toNat) 33 55 (.agg #[.int .i64 0,.string (aL #[]),.int .i64 0,.string (aL #[]),.int .i64 0,.bool false,.slice none 0 0]) none (by kernel_rfl) (by kernel_rfl) (by kernel_rfl) (by kernel_rfl) (by omega) rfl rfl wQ (by simp[Value.cells,Value.oneCell']) (fun NY Ie=>?_)
   refine aC (aq ?_)
   rw[aK]
   refine bH (rh 1 i2.toNat rfl) ?_
   refine js 0 rfl ?_
   refine Nm [bL b (.cells #[.pointer (sA vb 0),nI id,nI places,nI ah,nI clock,o,i] 124 (0,0)),(kM (bZ (i2.toNat*7) xs) 7 (bZ i2.toNat (aj fe Lc))),bL g (.cells (xx cu (i2.toNat*7) NY) 55 (0,0))] ?_
   rw[show bZ i2.toNat (aj fe Lc)=aj fe (L.filter (yW ah sh))by rw[←jt,yf]]
   have uM:=hrow.Uz (i:=i2.toNat) (by omega) Ie
   have z6:(aj fe (L.filter (yW ah sh))).length=i2.toNat:=by rw[←yf];simp;omega
   refine bH (gw 2 1 rfl rfl (by rw[z6];exact uM) (by decide)) ?_
   rw[z6]
   try simp only[aQ]
   refine Zp [zR 0,zR 1,.rd 2 [] 0 4,zR 3] [38,0,5] [zS 4 (sA g 0) i2.toNat c] (oC hi0 (oC (show i2≤(↑c:Int) from by omega) oN)) ?_
   try simp only[aQ]
   refine Yr [[]] (.slice (sA g 0) i2.toNat c) fun a w s=>?_
   exact⟨_,_,_,s.ret (by simp) [1,0] [] rfl rfl⟩
end Go.Proofs.YtmkapocibaojdaaGreatDoor
end
section
namespace Go.Proofs.YtmkapocibaojdaaGreatDoor
open Go Go.Sx
def ei (n:Int) (c:bO) (sh:Int):bO:=⟨c.when,c.place,c.ops.filter (yW n sh)⟩
set_option maxHeartbeats 4000000 in
theorem PB {w:World} {S:Nat→Prop} {M:List Nat} {er:Nat→Addr} {eb:Nat→Array Value×TypeId} {c:bO} {a1 a2:Option Addr} {n1 c1 n2 c2:Nat} {o i:Value} {b vb:Nat} {id places ah clock sh:Int} (hC:cm w S .nilIface (dC er eb)) (hP:Pre w S M [bL b (xB vb id places ah clock o i)]) (h2:cm w S (.slice a2 n2 c2) (.sl 7 (c.ops.map fe))) (kS:c.ops.length≤1000000) (s1:1≤ah) (s6:ah≤6) :
  Calls Tryz.prog 87 #[.pointer (some ⟨b,0,none⟩),.agg #[.slice a1 n1 c1,.int .i64 c.place,.slice a2 n2 c2],.int .i64 sh] w fun e w'=>∃u d,
   cQ M w S w' e (.tuple #[.agg #[.slice a1 n1 c1,.int .i64 c.place,.slice u (ei ah c sh).ops.length d],.bool (decide (((ei ah c sh).ops.length:Int)>0))]) [bL b (xB vb id places ah clock o i)] [(.slice u (ei ah c sh).ops.length d,.sl 7 ((ei ah c sh).ops.map fe))]:=by
 refine pW Tryz.func87 UL (args:=[.pointer (some ⟨b,0,none⟩),.agg #[.slice a1 n1 c1,.int .i64 c.place,.slice a2 n2 c2],.int .i64 sh]) (S:=S) (C:=[bL b (xB vb id places ah clock o i)]) (G:=[(_,dC er eb),(_,.sl 7 (c.ops.map fe))]) (by kernel_rfl) hP (.cons hC (.cons h2 (.nil _ _))) ?_
 refine Zv [.wr 0 [] 0,.wr 1 [] 0,.wr 2 [] 0,.wr 3 [] 0,zR 4] [] [0,1,2] (fun aN=>[zP 3 (aN 0),zP 4 (aN 1),zP 5 (aN 2),zP 6 (aN 3),zB 7 false]) o0 (fun aN=>[(aN 0,.cells #[.pointer (sA b 0)] 24 (0,0)),(aN 1,.cells #[.slice a1 n1 c1,nI c.place,.slice a2 n2 c2] 35 (0,0)),(aN 2,.cells #[nI sh] 3 (0,0)),(aN 3,.cells #[.slice none 0 0,nI 0,.slice none 0 0] 35 (0,0))]) (fun aN=>?_)
 refine aq ?_
 refine ve 0 rfl ?_
 refine ve 1 rfl ?_
 refine bH (fB (v:=.pointer (some ⟨aN 0,0,none⟩)) (d:=.ptr [.v (.pointer (some ⟨b,0,none⟩))]) fun w S H=>uD (H _ (ae (i:=2) rfl)) rfl) ?_
 refine bH (fB (v:=.pointer (some ⟨aN 2,0,none⟩)) (d:=.ptr [.v (.int .i64 sh)]) fun w S H=>uD (H _ (ae (i:=3) rfl)) rfl) ?_
 refine Nm [bL b (.cells #[.pointer (sA vb 0),nI id,nI places,nI ah,nI clock,o,i] 124 (0,0))] ?_
 try simp only[aQ]
 refine jT [(0,true),(1,true),(2,false),(3,true),(4,false),(5,true),(6,false)] [] ?_
 refine Ya [zR 0,.rd 1 [.o 0 none] 0 0] [] [zS 9 a2 n2 c2] ?_
 refine Yc 142 #[.slice a2 n2 c2] (some 10) fun w S hG=>?_
 refine(Cv (hG.at 1 rfl) kS).mono ?_
 rintro e1 w1 ⟨u1,d1,hR⟩
 refine⟨_,_,_,hR,?_⟩
 try simp only[aQ]
 refine Ya [zR 3] [9,3,5] [zV 11 (.func (.func 147) #[] #[.pointer (sA (aN 0) 0),.pointer (sA (aN 2) 0)])] ?_
 refine cn [] [1,0] 146 #[.slice u1 n2 d1,.func (.func 147) #[] #[.pointer (some (⟨aN 0,0,none⟩)),.pointer (some (⟨aN 2,0,none⟩))]] (some 12) (by kernel_rfl) (by kernel_rfl) (by decide) (fun w S M hP hG _=>?_)
 refine(DO (hG.at 0 rfl) (hG.at 4 rfl) (hG.at 5 rfl) hP s1 s6 kS).mono ?_
 rintro e2 w2 ⟨u2,n3,d2,hR⟩
 refine⟨_,_,_,hR,?_⟩
 try simp only[aQ]
 refine Ym [zR 5,.wr 6 [.o 0 none] 0] [12,11,10] (fun _=>[]) (fun _=>[(0,.cells #[.slice a1 n1 c1,nI c.place,.slice u2 n3 d2] 35 (0,0))]) o0 [] (fun _=>?_)
 try simp only[aQ]
 refine aC ?_
 try simp only[aQ]
 refine aq ?_
 try simp only[aQ]
 refine b9 (eC 0 rfl) fun _ hk=>?_
 rw[aA]at hk
 subst hk
 refine bH (dg 0 rfl) ?_
 refine Nm [bL b (.cells #[.pointer (sA vb 0),nI id,nI places,nI ah,nI clock,o,i] 124 (0,0))] ?_
 try simp only[aQ]
 refine Zm [.rd 0 (ek 0 3) 0 0,zR 1,.rd 2 [.o 0 none] 0 0,zR 3,zR 4,.wr 5 (ek 1 3) 0,zR 6] [(5,[1])] [4] (fun _=>[zB 7 (decide ((↑(mo (yW ah sh) c.ops).length:Int)>0))]) (fun _=>[(1,.cells #[.slice a1 n1 c1,nI c.place,.slice u2 ((mo (yW ah sh) c.ops).length) d2] 35 (0,0))]) o0 (fun _=>?_)
 refine Yr [(ek 1 3),[]] (.tuple #[.agg #[.slice a1 n1 c1,nI c.place,.slice u2 ((mo (yW ah sh) c.ops).length) d2],.bool (decide ((↑(mo (yW ah sh) c.ops).length:Int)>0))]) fun a w s=>?_
 exact⟨u2,d2,s.ret (by simp) [0] [6] rfl rfl⟩
end Go.Proofs.YtmkapocibaojdaaGreatDoor
end
section
namespace Go.Proofs.YtmkapocibaojdaaGreatDoor
open Go Go.Sx
theorem sF (c:bO) (l:List fP):(eM c l).map ku=l.map (iV c):=by
 rw[eM,fc]
 rfl
theorem ym {L:List fG} {c:bO}:(∀j,j<c.ops.length→qQ L c j=0)↔∀o∈c.ops,iV c o∉L.map ku:=by
 constructor
 ·intro h o ho
  obtain⟨j,hj⟩:=aJ ho
  have:=h j (ai.1 hj).1
  simp only[qQ,hj]at this
  split at this
  ·cases this
  ·assumption
 ·intro h j hj
  have h1:c.ops[j]?=some c.ops[j]:=ak hj
  simp only[qQ,h1]
  rw[if_neg (h _ (cz hj))]
structure Bk (p:Nat) (base:List Int) (L:List fG) (c:bO):Prop where
 tg:(aY c).code=0
 len:c.when.length=p
 new:lF c.when base=false
 bF:∀o∈c.ops,iV c o∉L.map ku
theorem Dg {f:Nat→Nat} {n:Nat} (h:(oZ f n 0).code=0):∀j,j<n→f j=0:=by
 intro j
 induction j using Nat.strongRecOn with
 | ind j ih=>
  intro hj
  rcases iX (f j)with h0|h0
  ·exact h0
  ·have:=(lZ n 0 j (eo _) fun i _ hi=>ih i hi (by omega)).2 (by omega) (by omega)
   rw[this]at h
   exact h
theorem lH {p:Nat} {base:List Int} {L:List fG} {c:bO}:(e8 p base L c).code=0↔Bk p base L c:=by
 constructor
 ·intro h
  unfold e8 at h
  split at h
  ·exact absurd h ‹_›
  ·split at h
   ·cases h
   ·split at h
    ·cases h
    ·rename_i h1 h2 h3
     exact⟨by simpa using h1,by simpa using h2,by simpa using h3,ym.1 (Dg h)⟩
 ·rintro⟨h1,h2,h3,h4⟩
  rw[e8,if_neg (by simp[h1]),if_neg (by simp[h2]),if_neg (by simp[h3]),(lZ c.ops.length 0 c.ops.length (eo _) fun j _ hj=>ym.2 h4 j hj).1 (by omega)]
theorem Co {c:bO} (h:(aY c).code=0):(c.ops.map (iV c)).Nodup:=by
 rw[List.nodup_iff_pairwise_ne,fU]
 refine(qw h).imp fun{a b} hab he=>?_
 simp only[iV,gi.mk.injEq]at he
 omega
theorem Bk.nodup {p:Nat} {base:List Int} {L:List fG} {c:bO} (h:Bk p base L c) (hn:(L.map ku).Nodup):((L++eM c c.ops).map ku).Nodup:=by
 rw[bw,sF,be]
 refine⟨hn,Co h.tg,fun x hx y hy he=>?_⟩
 subst he
 obtain⟨o,ho,rfl⟩:=aB.1 hy
 exact h.bF o ho hx
theorem vZ {L:List fG} {key:ByteArray} {at':List Int} {x:bE} (h:x∈bM (aW L key at')):∃q∈L,x=⟨q.op,ku q,wW q.when⟩:=by
 obtain⟨c,hc,o,ho,rfl⟩:=fF.1 h
 obtain⟨q,hq,rfl⟩:=iz (aP.1 hc).1
 obtain rfl:=ay.1 ho
 exact⟨q,hq,rfl⟩
end Go.Proofs.YtmkapocibaojdaaGreatDoor
end
section
namespace Go.Proofs.YtmkapocibaojdaaGreatDoor
open Go Go.Sx
def lp (ops:List fP):List fP:=ops.mapIdx fun i o=>{ o with no:=i }
def lu (ops:List fP) (i:Nat):List fP:=(lp ops).take i++ops.drop i
theorem iL (ops:List fP):(lp ops).length=ops.length:=by simp[lp]
theorem Fs {ops:List fP} {o:fP} (h:o∈lp ops):∃o2∈ops,∃i:Nat,o={ o2 with no:=i }:=by
 obtain⟨i,hi,he⟩:=List.mem_mapIdx.1 h
 exact⟨_,cz hi,i,he.symm⟩
theorem oz {ops:List fP} (h:∀o∈ops,o.bF.length≤1000000):∀o∈lp ops,o.bF.length≤1000000:=fun o ho=>by
 obtain⟨o2,h2,i,rfl⟩:=Fs ho
 exact h o2 h2
theorem BT {ops:List fP} {i:Nat} {o:fP} (h:ops[i]?=some o):(lp ops)[i]?=some { o with no:=i }:=by simp[lp,h]
theorem xp {ops:List fP} {i:Nat} (hi:i≤ops.length):(lu ops i).length=ops.length:=by
 have:=iL ops
 simp[lu]
 omega
theorem zq {ops:List fP} {i:Nat} {o:fP} (h:ops[i]?=some o):(lu ops i)[i]?=some o:=by
 have hi:=(ai.1 h).1
 have hl:((lp ops).take i).length=i:=by rw[bp,iL];omega
 rw[lu,bt (by omega),hl,ec,cq]
 exact h
theorem C8 {ops:List fP} {i:Nat} {o:fP} (h:ops[i]?=some o):(lu ops i).set i { o with no:=i }=lu ops (i+1):=by
 obtain⟨hi,he⟩:=ai.1 h
 have hl:((lp ops).take i).length=i:=by rw[bp,iL];omega
 have h1:(lp ops).take (i+1)=(lp ops).take i++[{ o with no:=i }]:=by rw[cV,BT h];rfl
 rw[lu,lu,h1,List.set_append_right _ _ (by omega),hl,ec,gD hi,bY]
 rfl
theorem C9 (ops:List fP):lu ops ops.length=lp ops:=by
 rw[lu,List.drop_length,bf,br (by rw[iL];exact aX _)]
def bI (x:fJ) (at':List Int) (ops:List fP):bO:=⟨at'.set x.id (x.clock+1),x.id,lp ops⟩
def gY (x:fJ) (at':List Int) (ops:List fP):FT:=
 if ff x at'≠0 then ⟨ff x at',-1⟩else if 1099511627776≤x.clock then ⟨2,-1⟩else aY (bI x at' ops)
def pL (n:Int) (c:bO) (y:dL):dL:=if (ei n c y.sh).ops=[]then y else dL.tg y (ei n c y.sh)
def tA (n:Int) (c:bO) (y:dL):List bN:=if (ei n c y.sh).ops=[]then []else [dL.msg y (ei n c y.sh)]
def p4 (x:fJ) (c:bO):fJ:={ x with clock:=x.clock+1,L:=x.L++eM c c.ops,ss:=x.ss.map (pL x.ah c) }
def lM (x:fJ) (c:bO):List bN:=(x.ss.map (tA x.ah c)).flatten
def qv (x:fJ) (c:bO) (p:Nat):List dL:=(x.ss.take p).map (pL x.ah c)++x.ss.drop p
def uF (x:fJ) (c:bO) (p:Nat):List bN:=((x.ss.take p).map (tA x.ah c)).flatten
theorem E8 (x:fJ) (c:bO):qv x c 0=x.ss:=by simp[qv]
theorem Hg (x:fJ) (c:bO) {p:Nat} (h:x.ss.length≤p):qv x c p=x.ss.map (pL x.ah c):=by rw[qv,br h,List.drop_of_length_le h,bf]
theorem Cb (x:fJ) (c:bO) {p:Nat} (h:x.ss.length≤p):uF x c p=lM x c:=by rw[uF,br h,lM]
theorem Ef {x:fJ} {c:bO} {p:Nat} {y:dL} (h:x.ss[p]?=some y):(qv x c p)[p]?=some y:=by
 have hi:=(ai.1 h).1
 rw[qv,bt (by rw[aA,bp];omega),aA,bp,lX (by omega),ec,cq]
 exact h
theorem zv {x:fJ} {c:bO} {p:Nat} {y:dL} (h:x.ss[p]?=some y):(qv x c p).set p (pL x.ah c y)=qv x c (p+1):=by
 obtain⟨hi,he⟩:=ai.1 h
 have hl:((x.ss.take p).map (pL x.ah c)).length=p:=by rw[aA,bp];omega
 rw[qv,qv,List.set_append_right _ _ (by omega),hl,ec,gD hi,he,cV,h,bw,bY]
 rfl
theorem zL {x:fJ} {c:bO} {p:Nat} {y:dL} (h:x.ss[p]?=some y):uF x c p++tA x.ah c y=uF x c (p+1):=by
 rw[uF,uF,cV,h,bw,bj]
 simp
structure iW (x:fJ) (n:Nat):Prop extends yM x where
 tW:x.clock≤n
 NK:x.base.getD x.id 0≤x.clock
 bF:∀q∈x.L,q.place=x.id→q.when.getD x.id 0≤x.clock
 put:∀q∈x.L,(aY (lI q)).code=0∧q.when.length=x.places
 snd:∀s∈x.ss,s.fm=x.id∧s.t≤x.clock∧0≤s.q∧s.q≤n∧s.l.length≤n
 way:∀s∈x.ss,0≤s.to∧0≤s.sh
 JL:∀r∈x.rs,0≤r.fm∧0≤r.sh∧r.to=x.id
 fit:∀s∈x.ss,∀m∈s.l,Fit m
 vj:∀r∈x.rs,0≤r.q∧r.q+r.l.length≤n∧nQ r.l
 kept:∀r∈x.rs,∀m∈r.l,0≤m.time∧m.time≤1099511627776∧Fit m
 CW:(x.L.length:Int)≤12*(x.clock+(x.rs.map (·.q)).sum)
theorem Me {l:List bB} {n:Nat} (h:∀r∈l,r.q≤n):(l.map (·.q)).sum≤l.length*n:=by
 induction l with
 | nil=>simp
 | cons a l ih=>
  have h1:=h a (bl ..)
  have h2:=ih fun r hr=>h r (bk _ hr)
  simp only[cj,lO,eF,Int.natCast_add,Int.add_mul]
  omega
theorem iW.Ot {x:fJ} {n:Nat} (h:iW x n):x.ss.length=fZ x.id x.ah x.places∧x.ss.length≤36:=by
 have h3:=congrArg fo h.ss
 rw[aA]at h3
 have h4:=Em x.id x.ah x.places
 refine⟨h3,?_⟩
 rw[h3]
 exact aZ h4 (aZ (Nat.mul_le_mul h.p6 h.s6) (by decide))
theorem iW.zw {x:fJ} {n:Nat} (h:iW x n) {k i:Nat} {y:dL} (hk:k<x.places) (hne:k≠x.id) (hi:i<x.ah) (hy:x.ss[fZ x.id x.ah k+i]?=some y):y.to=k∧y.sh=i:=by
 have h1:(x.ss.map fJ.pair)[fZ x.id x.ah k+i]?=some (fJ.pair y):=by rw[aF,hy];rfl
 rw[h.ss,sw hk hne hi]at h1
 obtain⟨h2,h3⟩:=kP (dG h1)
 obtain⟨h4,h5⟩:=h.way y (ae hy)
 omega
theorem Ca (x:fJ) (c:bO) (p:Nat):(uF x c p).length≤x.ss.length:=by
 have:∀l:List dL,((l.map (tA x.ah c)).flatten).length≤l.length:=by
  intro l
  induction l with
  | nil=>simp
  | cons a l ih=>
   have h1:(tA x.ah c a).length≤1:=by
    unfold tA
    split <;> simp
   simp only[cj,cr,bA,eF]
   omega
 exact aZ (this _) (by rw[bp];omega)
theorem iW.len {x:fJ} {n:Nat} (h:iW x n):x.L.length≤444*n:=by
 have h1:=h.CW
 have h2:=Me fun r hr=>(by have:=h.vj r hr;omega:r.q≤n)
 have h3:=congrArg fo h.rs
 rw[aA]at h3
 have h4:=Em x.id x.ah x.places
 unfold fZ at h4
 have h5:x.rs.length≤36:=by
  rw[h3]
  exact aZ h4 (aZ (Nat.mul_le_mul h.p6 h.s6) (by decide))
 have h6:(x.rs.length:Int)*n≤36*n:=Int.mul_le_mul_of_nonneg_right (by omega) (by omega)
 have h7:=h.tW
 omega
theorem iW.R2 {x:fJ} {n:Nat} (h:iW x n) (hn:n≤600):Gk x.places x.base x.L:=⟨h.base,h.rS,by have:=h.len;omega,h.put⟩
theorem p5 {x:fJ} {at':List Int} {ops:List fP} (h:(gY x at' ops).code=0):ff x at'=0∧x.clock<1099511627776∧(aY (bI x at' ops)).code=0:=by
 unfold gY at h
 split at h
 ·rename_i h1
  exact absurd h h1
 split at h
 ·cases h
 ·exact⟨by omega,by omega,h⟩
theorem od {x:fJ} {at':List Int} (h:ff x at'=0):b8 at'=0∧at'.length=x.places∧lF at' (bG x)=true:=by
 unfold ff at h
 split at h
 ·rename_i h1
  exact absurd h h1
 split at h
 ·cases h
 split at h
 ·rename_i h3
  exact⟨by omega,by omega,h3⟩
 ·cases h
theorem sG {x:fJ} {at':List Int} {ops:List fP} (h:x.id<at'.length):(bI x at' ops).when.getD x.id 0=x.clock+1:=by
 rw[bI,aO]
 simp[h]
theorem Ct {x:fJ} {n:Nat} {at':List Int} {ops:List fP} (hx:iW x n) (h:(gY x at' ops).code=0):Bk x.places x.base x.L (bI x at' ops):=by
 obtain⟨h1,h2,h3⟩:=p5 h
 obtain⟨_,h4,_⟩:=od h1
 have kT:=hx.id
 have hw:=sG (ops:=ops) (by omega:x.id<at'.length)
 refine⟨h3,by simp[bI,h4],?_,fun o ho hm=>?_⟩
 ·rw[Bool.eq_false_iff]
  intro hin
  have hb:x.base[x.id]?=some (x.base.getD x.id 0):=by
   rw[aO,ak (by rw[hx.rS];exact kT)]
   rfl
  have hc:(bI x at' ops).when[x.id]?=some (x.clock+1):=by
   rw[bI]
   simp[h4,kT]
  have:=dF.1 hin _ (ae (CX hc hb))
  have h5:=hx.NK
  have h8:x.clock+1≤x.base.getD x.id 0:=of_decide_eq_true this
  omega
 ·obtain⟨q,hq,hd⟩:=aB.1 hm
  unfold ku iV at hd
  simp only[gi.mk.injEq]at hd
  have hp:q.place=x.id:=hd.1
  have h5:=hx.bF q hq hp
  have h6:=hd.2.1
  rw[hp,show(bI x at' ops).place=(x.id:Int) from rfl,aR,hw]at h6
  omega
theorem B0 {n:Int} {c:bO} {sh:Int} (h:(ei n c sh).ops≠[]):vV (ei n c sh) c:=⟨rfl,rfl,h,dw⟩
theorem F8 {x:fJ} {n:Nat} {at':List Int} {ops:List fP} (hx:iW x n) (h:(gY x at' ops).code=0) {y:dL} (hy:y∈x.ss) (hne:(ei x.ah (bI x at' ops) y.sh).ops≠[]):jw (ei x.ah (bI x at' ops) y.sh) y.fm y.t=⟨0,-1⟩:=by
 obtain⟨h1,h2,h3⟩:=p5 h
 obtain⟨_,h4,_⟩:=od h1
 have kT:=hx.id
 have hw:=sG (ops:=ops) (by omega:x.id<at'.length)
 obtain⟨hf,ht,_⟩:=hx.snd y hy
 have hp:(ei x.ah (bI x at' ops) y.sh).place=x.id:=rfl
 rw[jw,if_neg (by simp[(B0 hne).fault h3]),if_neg (by rw[hp,hf];simp),if_neg]
 rw[hp,aR]
 show ¬(bI x at' ops).when.getD x.id 0≤y.t
 rw[hw]
 omega
theorem ee {h r:List (Nat×Obj)} {F:List (List Nat×World)} {S0:Nat→Prop} {C0:List Chunk} {G0:List (Value×D)} {b:Nat} {x:fJ} (y:iN) (ps:List Nat) (i j:Nat) (hC:pick C0 ps=[bL b (xB y.vb x.id x.places x.ah x.clock (.slice y.oa x.places y.oc) (.slice y.ia x.places y.ic)),fT y.vb x.places x.base x.L,dN y.om.flatten x.ss,c8 y.im.flatten x.rs]) (hi:G0[i]?=some (.slice y.oa x.places y.oc,jI y.om)) (hj:G0[j]?=some (.slice y.ia x.places y.ic,jI y.im)) (hy:Ju x y) (hnd:ps.Nodup:=by decide) :
  nP h r F ⟨S0,C0,G0⟩ (fun _:Unit=>True) fun _=>⟨S0,o4 C0 ps++[bQ b x],G0⟩:=
 dH ps y hC (Eu (ae hi) (ae hj)) hy hnd
end Go.Proofs.YtmkapocibaojdaaGreatDoor
end
