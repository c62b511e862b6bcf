/- Part 12 of the texts of a claim: PlW PlQ PartsV PlI PlJ Again Backs PlT PlE Tx27 PlG. -/
import Derived.Lib.AppendZeros
import Derived.Test.YtmkapocibaojdaaGreatDoorTt11
section
namespace Go.Sx
open Go
structure NewS where
 k:Int
 n:Nat
 oa:Option Addr
 oc:Nat
 ia:Option Addr
 ic:Nat
 om:List (List Nat)
 im:List (List Nat)
structure NewR where
 i:Int
 n:Nat
 oa:Option Addr
 oc:Nat
 ia:Option Addr
 ic:Nat
 om:List Nat
 im:List Nat
def newSs (id:Nat) (q:List (Nat×Nat)):List SndT:=q.map fun p=>⟨id,p.1,p.2,0,0,[]⟩
def newRs (id:Nat) (q:List (Nat×Nat)):List RcvT:=q.map fun p=>⟨p.1,id,p.2,0,0,[]⟩
theorem newSs_snoc (id:Nat) (q:List (Nat×Nat)) (k i:Int) (hk:0≤k) (hi:0≤i):newSs id q++[⟨id,k,i,0,0,[]⟩]=newSs id (q++[(k.toNat,i.toNat)]):=by
 simp[newSs,Int.toNat_of_nonneg hk,Int.toNat_of_nonneg hi]
theorem newRs_snoc (id:Nat) (q:List (Nat×Nat)) (k i:Int) (hk:0≤k) (hi:0≤i):newRs id q++[⟨k,id,i,0,0,[]⟩]=newRs id (q++[(k.toNat,i.toNat)]):=by
 simp[newRs,Int.toNat_of_nonneg hk,Int.toNat_of_nonneg hi]
theorem mem_two {α:Type} {l:List α} {a b:α} (h1:a∈l) (h2:b∈l):∀y∈[a,b],y∈l:=fun y hy=>by
 rcases List.mem_cons.1 hy with rfl|hy
 ·exact h1
 ·obtain rfl:=List.mem_singleton.1 hy
  exact h2
def newP (id places shards:Nat):PlT:=⟨id,places,shards,0,List.replicate places 0,[],newSs id (pairsP id shards places),newRs id (pairsP id shards places)⟩
structure PlBx where
 vb:Nat
 oa:Option Addr
 oc:Nat
 ia:Option Addr
 ic:Nat
 om:List (List Nat)
 im:List (List Nat)
structure BxOk (x:PlT) (y:PlBx):Prop where
 om:RowsOk x.id x.shards x.places y.om
 im:RowsOk x.id x.shards x.places y.im
theorem rowP_zero (id k:Nat):rowP id 0 k=[]:=by
 unfold rowP
 split <;> simp
theorem rowP_self (id j:Nat):rowP id j id=[]:=if_pos rfl
end Go.Sx
namespace Go.Proofs.YtmkapocibaojdaaGreatDoor
open Go Go.Sx
noncomputable def cPlace (b:Nat) (x:PlT):Chunk:=cBox (BxOk x) (fun y=>[(.slice y.oa x.places y.oc,dRows y.om),(.slice y.ia x.places y.ic,dRows y.im)]) fun y=>[cObj b (plC y.vb x.id x.places x.shards x.clock (.slice y.oa x.places y.oc) (.slice y.ia x.places y.ic)),cVer y.vb x.places x.base x.L,cSnds y.om.flatten x.ss,cRcvs y.im.flatten x.rs]
set_option maxHeartbeats 4000000 in
theorem placeNew {w:World} {S:Nat→Prop} {er:Nat→Addr} {eb:Nat→Array Value×TypeId} {id places shards:Int} (hC:Rep w S .nilIface (dC er eb)) :
  Calls Tryz.prog 12 #[.int .i64 id,.int .i64 places,.int .i64 shards] w fun e w'=>
   (¬(1≤places∧places≤6∧1≤shards∧shards≤6∧0≤id∧id<places)∧Ret [] w S w' e (.tuple #[.pointer none,.iface 390 (.pointer (some (er 2)))]) [] []) ∨
   ((1≤places∧places≤6∧1≤shards∧shards≤6∧0≤id∧id<places)∧∃b,Ret [] w S w' e (.tuple #[.pointer (some ⟨b,0,none⟩),.nilIface]) [cPlace b (newP id.toNat places.toNat shards.toNat)] []):=by
 refine epG Tryz.func12 bd12 (args:=[.int .i64 id,.int .i64 places,.int .i64 shards]) (S:=S) (G:=[(_,dC er eb)]) (by kernel_rfl) (.cons hC (.nil _ _)) ?_
 refine J_stp (stp_all 0 [1] rfl rfl) ?_
 refine J_glob 1 rfl (fun csg1 tyg1 fzg1 hglob1=>?_)
 try simp only[aQ]
 refine Zs [zR 0,zR 1] [] [zV 6 (.pointer none),zV 7 .nilIface] ?_
 refine J_seq ?_
 refine Zs (Rds 0 3++[.rd 3 [] 2 0,.rd 4 [] 2 0,.rd 5 [] 0 3,zR 6,.rd 7 [] 2 0,.rd 8 [] 2 0,.rd 9 [] 0 3,zR 10,.rd 11 [] 2 0,.rd 12 [] 2 0,.rd 13 [] 0 3,zR 14,.rd 15 [] 2 0,.rd 16 [] 2 0,.rd 17 [] 0 3,zR 18,.rd 19 [] 2 0,.rd 20 [] 2 0,.rd 21 [] 2 0,.rd 22 [] 0 3]) [] [zB 41 (decide (places<1)||decide (places>6)||decide (shards<1)||decide (shards>6)||decide (id<0)||decide (id≥places))] ?_
 refine cC (t:=decide (places<1)||decide (places>6)||decide (shards<1)||decide (shards>6)||decide (id<0)||decide (id≥places)) (fun hb=>?_) (fun hb=>?_)
 ·refine J_seq ?_
  refine Zp [.rd 0 [.r 0 (some (.iface 390 (.pointer (some (er 2)))))] 0 0,zR 1,zR 2] [41] [zV 7 (.iface 390 (.pointer (some (er 2))))] (oC hglob1 oN) ?_
  refine Yr [[],[]] (.tuple #[.pointer none,.iface 390 (.pointer (some (er 2)))]) fun a w s=>?_
  exact .inl ⟨by simp at hb;omega,s.ret (by simp) [] [] rfl rfl⟩
 have hok:1≤places∧places≤6∧1≤shards∧shards≤6∧0≤id∧id<places:=by simp at hb;omega
 obtain⟨hp1,hp6,hs1,hs6,hid0,hid1⟩:=hok
 obtain⟨id,rfl⟩:∃n:Nat,id=n:=⟨id.toNat,by omega⟩
 obtain⟨places,rfl⟩:∃n:Nat,places=n:=⟨places.toNat,by omega⟩
 obtain⟨shards,rfl⟩:∃n:Nat,shards=n:=⟨shards.toNat,by omega⟩
 simp only[Int.toNat_natCast]
 refine J_skip ?_
 refine jS [(0,true),(1,false),(2,true),(3,true),(4,true),(5,true),(6,true)] [] ?_
 refine Ya [zR 0] [41] [zI 44 (↑places:Int)] ?_
 refine Yc 57 #[nI (↑places:Int)] (some 45) fun w S hG=>?_
 refine(verNew (hG.at 0 rfl) hp1 hp6).mono ?_
 rintro e1 w1 ⟨vb,hR⟩
 refine⟨_,_,_,hR,?_⟩
 rw[Int.toNat_natCast]
 try simp only[aQ]
 refine Ya (Rds 2 7) [45,44] [zP 8 vb,zV 9 .nilIface] ?_
 refine JR_end (J_seq ?_)
 refine Zs [zR 0,zR 1] [] [zB 49 false] ?_
 refine cF ?_
 refine J_skip ?_
 refine Zv (Rds 0 5++[.wr 5 [] 0,zR 6]) [] [49,8,9] (fun nu1=>[zP 10 (nu1 0)]) o0 (fun nu1=>[(nu1 0,.cells #[.pointer (sA vb 0),nI (↑id:Int),nI (↑places:Int),nI (↑shards:Int),nI 0,.slice none 0 0,.slice none 0 0] 124 (0,0))]) (fun nu1=>?_)
 refine J_seq (J_seq ?_)
 refine J_stp (stp_accm eRow 125 1) ?_
 refine J_stp (stp_accm eRow 126 1) ?_
 refine J_stp (stp_add (cSnds [] []) star_nil) ?_
 refine J_stp (stp_add (cRcvs [] []) star_nil) ?_
 refine Nm [(cVer vb places (List.replicate places 0) []),cAcc (.slice none 0 0) 125 1 (List.map eRow []),cAcc (.slice none 0 0) 126 1 (List.map eRow []),(cSnds [] []),(cRcvs [] [])] ?_
 refine Za [zR 0,zR 1] [1] [zI 57 (↑places:Int),zI 58 0] ?_
 refine J_block ?_
 refine J_loopx (fun x:NewS=>[zI 0 (↑id:Int),zI 2 (↑shards:Int),zV 6 (.pointer none),zV 7 .nilIface,zP 10 (nu1 0),zI 57 (↑places:Int),zI 58 x.k]) (fun x:NewS=>[(nu1 0,plC vb id places shards 0 (.slice x.oa x.n x.oc) (.slice x.ia x.n x.ic))]) (fun x:NewS=>[cVer vb places (List.replicate places 0) [],cAcc (.slice x.oa x.n x.oc) 125 1 (x.om.map eRow),cAcc (.slice x.ia x.n x.ic) 126 1 (x.im.map eRow),cSnds x.om.flatten (newSs id (pairsP id shards x.k.toNat)),cRcvs x.im.flatten (newRs id (pairsP id shards x.k.toNat))]) (fun x:NewS=>[(.nilIface,(dC er eb)),(.pointer (sA 0 0),(D.ptr [D.v (Value.iface 390 (Value.pointer (some (er 2))))]))]) (fun x:NewS=>(places - x.k).toNat) (fun x:NewS=>(0≤x.k∧x.k≤places∧x.n=x.k.toNat∧RowsOk id shards x.k.toNat x.om∧RowsOk id shards x.k.toNat x.im)) ⟨0,0,none,0,none,0,[],[]⟩ [0,2,6,7,10,57,58] [0] [0,1,2,3,4] [0,1] ?_ (by kernel_rfl) rfl rfl rfl ?_
 ·exact⟨by simp,by simp,by simp,.nil _ _,.nil _ _⟩
 rintro⟨k,n,oa,oc,ia,ic,om,im⟩ ⟨hk0,hk1,hn,ho,hi⟩
 dsimp only at hk0 hk1 hn ho hi ⊢
 have hol:=ho.len
 have hil:=hi.len
 refine Zs [zR 0] [] [zB 59 (decide (k<(↑places:Int)))] ?_
 refine J_seq ?_
 refine cC (t:=decide (k<(↑places:Int))) (fun hlt=>?_) (fun hlt=>?_)
 ·have hlt2:k<places:=by simpa using hlt
  refine J_skip (J_seq (J_block ?_))
  refine Zs [zR 0,zR 1] [59] [zI 11 k] ?_
  refine Zs [zR 0] [] [zS 12 none 0 0] ?_
  refine Zs [zR 0] [] [zS 13 none 0 0] ?_
  refine J_seq (J_seq ?_)
  refine J_stp (stp_accm eP 127 1) ?_
  refine J_stp (stp_accm eP 130 1) ?_
  refine Nm [(cVer vb places (List.replicate places 0) []),cAcc (.slice oa n oc) 125 1 (List.map eRow om),cAcc (.slice ia n ic) 126 1 (List.map eRow im),(cSnds om.flatten (newSs id (pairsP id shards k.toNat))),(cRcvs im.flatten (newRs id (pairsP id shards k.toNat))),cAcc (.slice none 0 0) 127 1 (List.map eP []),cAcc (.slice none 0 0) 130 1 (List.map eP [])] ?_
  rw[show cSnds om.flatten (newSs id (pairsP id shards k.toNat))=cSnds (om.flatten++[]) (newSs id (pairsP id shards k.toNat++rowP id (0:Int).toNat k.toNat))by rw[Int.toNat_zero,rowP_zero,List.append_nil,List.append_nil],show cRcvs im.flatten (newRs id (pairsP id shards k.toNat))=cRcvs (im.flatten++[]) (newRs id (pairsP id shards k.toNat++rowP id (0:Int).toNat k.toNat))by rw[Int.toNat_zero,rowP_zero,List.append_nil,List.append_nil]]
  refine Za [zR 0,zR 1] [] [zI 61 (↑shards:Int),zI 62 0] ?_
  refine J_block ?_
  refine J_loopx (fun y:NewR=>[zI 0 (↑id:Int),zI 2 (↑shards:Int),zV 6 (.pointer none),zV 7 .nilIface,zP 10 (nu1 0),zI 11 k,zS 12 y.oa y.n y.oc,zS 13 y.ia y.n y.ic,zI 57 (↑places:Int),zI 58 k,zI 61 (↑shards:Int),zI 62 y.i]) (fun y:NewR=>[(nu1 0,.cells #[.pointer (sA vb 0),nI (↑id:Int),nI (↑places:Int),nI (↑shards:Int),nI 0,.slice oa n oc,.slice ia n ic] 124 (0,0))]) (fun y:NewR=>[cVer vb places (List.replicate places 0) [],cAcc (.slice oa n oc) 125 1 (om.map eRow),cAcc (.slice ia n ic) 126 1 (im.map eRow),cSnds (om.flatten++y.om) (newSs id (pairsP id shards k.toNat++rowP id y.i.toNat k.toNat)),cRcvs (im.flatten++y.im) (newRs id (pairsP id shards k.toNat++rowP id y.i.toNat k.toNat)),cAcc (.slice y.oa y.n y.oc) 127 1 (y.om.map eP),cAcc (.slice y.ia y.n y.ic) 130 1 (y.im.map eP)]) (fun y:NewR=>[(.nilIface,(dC er eb)),(.pointer (sA 0 0),(D.ptr [D.v (Value.iface 390 (Value.pointer (some (er 2))))]))]) (fun y:NewR=>(shards - y.i).toNat) (fun y:NewR=>(0≤y.i∧y.i≤shards∧y.om.length=(rowP id y.i.toNat k.toNat).length∧y.im.length=(rowP id y.i.toNat k.toNat).length∧y.n≤shards)) ⟨0,0,none,0,none,0,[],[]⟩ [0,2,6,7,10,11,12,13,57,58,61,62] [0] [0,1,2,3,4,5,6] [0,1] ?_ (by kernel_rfl) rfl rfl rfl ?_
  ·exact⟨by simp,by simp,by simp[rowP_zero],by simp[rowP_zero],by simp⟩
  rintro⟨i,m,pa,pc,qa,qc,pm,qm⟩ ⟨hi0,hi1,hpl,hql,hm6⟩
  dsimp only at hi0 hi1 hpl hql hm6 ⊢
  refine J_stpx (stp_acclen 5 rfl) fun _ hm=>?_
  rw[List.length_map]at hm
  refine Zs [zR 0] [] [zB 63 (decide (i<(↑shards:Int)))] ?_
  refine J_seq ?_
  refine cC (t:=decide (i<(↑shards:Int))) (fun hls=>?_) (fun hls=>?_)
  ·have hls2:i<shards:=by simpa using hls
   refine J_skip (J_seq (J_block ?_))
   refine Zs [zR 0,zR 1] [63] [zI 14 i] ?_
   refine Zs (Rds 0 3) [] [zB 67 (k != (↑id:Int))] ?_
   refine cC (t:=k != (↑id:Int)) (fun hne=>?_) (fun hne=>?_)
   ·have hne2:k.toNat≠id:=by
     intro h0
     apply (by simpa using hne:¬k=id)
     omega
    have hrl:(rowP id i.toNat k.toNat).length=i.toNat:=by rw[rowP_length,if_neg hne2]
    rw[hrl]at hpl hql
    have hrs:rowP id (i+1).toNat k.toNat=rowP id i.toNat k.toNat++[(k.toNat,i.toNat)]:=by rw[show(i+1).toNat=i.toNat+1 by omega,rowP_succ _ _ _ hne2]
    have hw1:wayErr id k i=0:=by rw[wayErr,if_neg (by omega),if_neg (by omega)]
    have hw2:wayErr k id i=0:=by rw[wayErr,if_neg (by omega),if_neg (by omega)]
    have hfo:(om.flatten++pm).length=(newSs id (pairsP id shards k.toNat++rowP id i.toNat k.toNat)).length:=by
     rw[newSs,List.length_map,List.length_append,List.length_append,ho.flen,hpl,hrl]
     rfl
    have hfi:(im.flatten++qm).length=(newRs id (pairsP id shards k.toNat++rowP id i.toNat k.toNat)).length:=by
     rw[newRs,List.length_map,List.length_append,List.length_append,hi.flen,hql,hrl]
     rfl
    refine jS [(0,true),(1,true),(2,true),(3,false),(4,true),(5,true),(6,true),(7,true),(8,true)] [] ?_
    refine Ya (Rds 0 3) [67] [zI 69 (↑id:Int),zI 70 k,zI 71 i] ?_
    refine JR_call [] [3] 58 #[.int .i64 (↑id:Int),.int .i64 k,.int .i64 i] (some 72) (by kernel_rfl) (by kernel_rfl) (by decide) (fun w S M hP hG _=>?_)
    refine(sndNew (hG.at 0 rfl) hP hfo hw1).mono ?_
    rintro e2 w2 ⟨b1,hR⟩
    refine⟨_,_,_,hR,?_⟩
    try simp only[aQ]
    refine Ya (Rds 4 9) [72,69,70,71] [zP 15 b1] ?_
    try simp only[aQ]
    refine JR_end ?_
    try simp only[aQ]
    refine J_seq ?_
    try simp only[aQ]
    refine jT [(0,true),(1,true),(2,true),(3,false),(4,true),(5,true),(6,true),(7,true),(8,true)] [] ?_
    refine Ya (Rds 0 3) [] [zI 76 k,zI 77 (↑id:Int),zI 78 i] ?_
    refine JR_call [] [3] 59 #[.int .i64 k,.int .i64 (↑id:Int),.int .i64 i] (some 79) (by kernel_rfl) (by kernel_rfl) (by decide) (fun w S M hP hG _=>?_)
    refine(rcvNew (hG.at 0 rfl) hP hfi hw2).mono ?_
    rintro e3 w3 ⟨b2,hR⟩
    refine⟨_,_,_,hR,?_⟩
    rw[newSs_snoc _ _ _ _ hk0 hi0,newRs_snoc _ _ _ _ hk0 hi0,List.append_assoc om.flatten,List.append_assoc im.flatten,List.append_assoc (pairsP id shards k.toNat),←hrs]
    try simp only[aQ]
    refine Ya (Rds 4 9) [79,76,77,78] [zP 17 b2] ?_
    try simp only[aQ]
    refine JR_end ?_
    try simp only[aQ]
    refine jT [(0,true),(1,true),(2,false),(3,false),(4,true),(5,true),(6,false),(7,false),(8,true),(9,true)] [] ?_
    refine Ym [zR 0,zR 1,.wr 2 [] 0] [] (fun nu2=>[zS 82 pa m pc,zS 84 (sA (nu2 0) 0) 1 1]) o0 (fun nu2=>[(nu2 0,.cells #[.pointer (sA b1 0)] 127 (0,0))]) [] (fun nu2=>?_)
    refine JN [(cVer vb places (List.replicate places 0) []),cAcc (.slice oa n oc) 125 1 (List.map eRow om),cAcc (.slice ia n ic) 126 1 (List.map eRow im),cAcc (.slice pa m pc) 127 1 (List.map eP pm),cAcc (.slice qa m qc) 130 1 (List.map eP qm),(cSnds (om.flatten++(pm++[b1])) (newSs id (pairsP id shards k.toNat++rowP id (i+1).toNat k.toNat))),(cRcvs (im.flatten++(qm++[b2])) (newRs id (pairsP id shards k.toNat++rowP id (i+1).toNat k.toNat)))] ?_
    refine JR_appm 3 125 127 1 8 (.pointer none) (a0:=pa) (len:=m) (cap0:=pc) (ax:=(some (⟨nu2 0,0,none⟩))) (m:=1) (c:=1) (dst:=(some 85)) [b1] (by kernel_rfl) (by kernel_rfl) (by kernel_rfl) (by kernel_rfl) rfl (by decide) rfl (fun _ _ _ s=>src_one s 1 rfl rfl ⟨.inl ⟨rfl,rfl⟩,trivial⟩) (by simp only[maxLen];omega) (by omega) (fun av1 cv1=>?_)
    refine JN [(cVer vb places (List.replicate places 0) []),cAcc (.slice oa n oc) 125 1 (List.map eRow om),cAcc (.slice ia n ic) 126 1 (List.map eRow im),cAcc (.slice qa m qc) 130 1 (List.map eP qm),(cSnds (om.flatten++(pm++[b1])) (newSs id (pairsP id shards k.toNat++rowP id (i+1).toNat k.toNat))),(cRcvs (im.flatten++(qm++[b2])) (newRs id (pairsP id shards k.toNat++rowP id (i+1).toNat k.toNat))),cAcc (.slice av1 (m+1) cv1) 127 1 (List.map eP (pm++[b1]))] ?_
    try simp only[aQ]
    refine Ym [zR 4,zR 5,.wr 6 [] 0] [82,84] (fun nu3=>[zS 86 qa m qc,zS 88 (sA (nu3 0) 0) 1 1]) o0 (fun nu3=>[(nu3 0,.cells #[.pointer (sA b2 0)] 130 (0,0))]) [] (fun nu3=>?_)
    refine JR_appm 3 126 130 1 8 (.pointer none) (a0:=qa) (len:=m) (cap0:=qc) (ax:=(some (⟨nu3 0,0,none⟩))) (m:=1) (c:=1) (dst:=(some 89)) [b2] (by kernel_rfl) (by kernel_rfl) (by kernel_rfl) (by kernel_rfl) rfl (by decide) rfl (fun _ _ _ s=>src_one s 2 rfl rfl ⟨.inl ⟨rfl,rfl⟩,trivial⟩) (by simp only[maxLen];omega) (by omega) (fun av2 cv2=>?_)
    refine JN [(cVer vb places (List.replicate places 0) []),cAcc (.slice oa n oc) 125 1 (List.map eRow om),cAcc (.slice ia n ic) 126 1 (List.map eRow im),(cSnds (om.flatten++(pm++[b1])) (newSs id (pairsP id shards k.toNat++rowP id (i+1).toNat k.toNat))),(cRcvs (im.flatten++(qm++[b2])) (newRs id (pairsP id shards k.toNat++rowP id (i+1).toNat k.toNat))),cAcc (.slice av1 (m+1) cv1) 127 1 (List.map eP (pm++[b1])),cAcc (.slice av2 (m+1) cv2) 130 1 (List.map eP (qm++[b2]))] ?_
    try simp only[aQ]
    refine Ya [zR 8,zR 9] [89,86,88,85] [zS 12 av1 (m+1) cv1,zS 13 av2 (m+1) cv2] ?_
    refine JR_end (J_eb ?_)
    refine Zp [.rd 0 [] 0 1,zR 1] [] [zI 62 (i+1)] (oC (show IntKind.i64.wrap (i+1)=i+1 from wrap_i64 (by omega) (by omega)) oN) ?_
    refine J_backx ⟨i+1,m+1,av1,cv1,av2,cv2,pm++[b1],qm++[b2]⟩ [0,2,6,7,10,11,12,13,57,58,61,62] [0] [0,1,2,3,4,5,6] [0,1] ?_ ?_ (by kernel_rfl) rfl rfl rfl
    ·refine⟨by simp only;omega,by simp only;omega,?_,?_,by simp only;omega⟩
     ·rw[hrs,List.length_append,List.length_append,hpl,hrl]
      rfl
     ·rw[hrs,List.length_append,List.length_append,hql,hrl]
      rfl
    ·simp only
     omega
   ·have hid:k.toNat=id:=by
     have:k=id:=by simpa using hne
     omega
    rw[hid,rowP_self]at hpl hql
    refine J_skip (J_eb ?_)
    refine Zp [.rd 0 [] 0 1,zR 1] [67] [zI 62 (i+1)] (oC (show IntKind.i64.wrap (i+1)=i+1 from wrap_i64 (by omega) (by omega)) oN) ?_
    rw[hid,show rowP id i.toNat id=rowP id (i+1).toNat id by rw[rowP_self,rowP_self],←hid]
    refine J_backx ⟨i+1,m,pa,pc,qa,qc,pm,qm⟩ [0,2,6,7,10,11,12,13,57,58,61,62] [0] [0,1,2,3,4,5,6] [0,1] ?_ ?_ (by kernel_rfl) rfl rfl rfl
    ·refine⟨by simp only;omega,by simp only;omega,?_,?_,hm6⟩
     ·rw[hid,rowP_self]
      exact hpl
     ·rw[hid,rowP_self]
      exact hql
    ·simp only
     omega
  ·have hie:i=shards:=by simp at hls;omega
   have hrw:rowP id i.toNat k.toNat=rowP id shards k.toNat:=by rw[hie,Int.toNat_natCast]
   rw[hrw]at hpl hql ⊢
   rw[rowP_length]at hpl hql
   have hk1n:k.toNat+1=(k+1).toNat:=by omega
   have hso:RowsOk id shards (k+1).toNat (om++[pm]):=hk1n ▸ ho.snoc hpl
   have hsi:RowsOk id shards (k+1).toNat (im++[qm]):=hk1n ▸ hi.snoc hql
   rw[←pairsP_succ,hk1n,show om.flatten++pm=(om++[pm]).flatten by simp,show im.flatten++qm=(im++[qm]).flatten by simp]
   refine J_exit rfl ?_
   refine J_stp (stp_freeze 5 rfl) ?_
   refine J_stp (stp_freeze 5 rfl) ?_
   refine Nm [(cVer vb places (List.replicate places 0) []),cAcc (.slice oa n oc) 125 1 (List.map eRow om),cAcc (.slice ia n ic) 126 1 (List.map eRow im),(cSnds (om++[pm]).flatten (newSs id (pairsP id shards (k+1).toNat))),(cRcvs (im++[qm]).flatten (newRs id (pairsP id shards (k+1).toNat)))] ?_
   refine J_fork3 mixed [.rd 0 [] 0 0,.rd 1 [] 0 0,.rd 2 [] 0 0,.rd 3 [] 0 0,.rd 4 [] 0 0,.rd 5 [.o 0 none] 0 0,.rd 6 [] 0 0,.rd 9 [] 0 0,.rd 10 [] 0 0,.rd 11 [] 0 0,.rd 12 [.o 0 none] 0 0,.rd 13 [] 0 0] 7 14 [(8,false),(14,false),(15,false),(16,true),(17,true),(18,false),(19,true),(20,true),(21,false)] [(14,false),(8,false),(15,false),(16,true),(17,true),(18,false),(19,true),(20,true),(21,false)] [(7,false),(8,false),(15,false),(16,true),(17,true),(18,false),(19,true),(20,true),(21,false)] [(8,[]),(15,[]),(18,[0]),(21,[0])] [0,2,6,7,10,11,12,13,57,58,61,62,91,92,96,97,103,104] (E1:=fun _=>[(0,.val (.int .i64 (↑id:Int))),(2,.val (.int .i64 (↑shards:Int))),(6,.val (.pointer none)),(7,.val (.nilIface)),(10,.val (.pointer (some (⟨nu1 0,0,none⟩)))),(11,.val (.int .i64 k)),(12,.val (.slice pa m pc)),(13,.val (.slice qa m qc)),(57,.val (.int .i64 (↑places:Int))),(58,.val (.int .i64 k)),(61,.val (.int .i64 (↑shards:Int))),(62,.val (.int .i64 i)),(91,.val (.pointer (some (⟨nu1 0,0,none⟩)))),(92,.val (.pointer (some (⟨nu1 0,0,none⟩)))),(96,.val (.slice oa n oc)),(97,.val (.slice pa m pc)),(103,.val (.slice ia n ic)),(104,.val (.slice qa m qc))]) (p1:=fun _=>[]) (by kernel_rfl) (by kernel_rfl) (fun _=>by kernel_rfl) (fun _=>trivial) (fun _=>?_) (fun _=>?_)
   ·refine JR2_two (by kernel_rfl) ?_ ?_
    ·try simp only[aQ]
     refine Ym [.wr 7 [] 0] [97] (fun nu2=>[zS 98 (sA (nu2 0) 0) 1 1]) o0 (fun nu2=>[(nu2 0,.cells #[.slice pa m pc] 125 (0,0))]) [(8,[]),(15,[]),(18,[0]),(21,[0])] (fun nu2=>?_)
     refine JN [(cVer vb places (List.replicate places 0) []),cAcc (.slice oa n oc) 125 1 (List.map eRow om),cAcc (.slice ia n ic) 126 1 (List.map eRow im),(cSnds (om++[pm]).flatten (newSs id (pairsP id shards (k+1).toNat))),(cRcvs (im++[qm]).flatten (newRs id (pairsP id shards (k+1).toNat)))] ?_
     refine JR_appm 1 121 125 1 24 (.slice none 0 0) (a0:=oa) (len:=n) (cap0:=oc) (ax:=(some (⟨nu2 0,0,none⟩))) (m:=1) (c:=1) (dst:=(some 99)) [pm] (by kernel_rfl) (by kernel_rfl) (by kernel_rfl) (by kernel_rfl) rfl (by decide) rfl (fun _ _ _ s=>src_one s 1 rfl rfl ⟨.inr (.inl (List.mem_of_getElem? (i:=2) rfl)),trivial⟩) (by simp only[maxLen];omega) (by omega) (fun av1 cv1=>?_)
     refine JN [(cVer vb places (List.replicate places 0) []),cAcc (.slice ia n ic) 126 1 (List.map eRow im),(cSnds (om++[pm]).flatten (newSs id (pairsP id shards (k+1).toNat))),(cRcvs (im++[qm]).flatten (newRs id (pairsP id shards (k+1).toNat))),cAcc (.slice av1 (n+1) cv1) 125 1 (List.map eRow (om++[pm]))] ?_
     try simp only[aQ]
     refine Ym [.wr 14 [] 0] [98,96,104] (fun nu3=>[zS 105 (sA (nu3 0) 0) 1 1]) o0 (fun nu3=>[(nu3 0,.cells #[.slice qa m qc] 126 (0,0))]) [(15,[]),(18,[0]),(21,[0])] (fun nu3=>?_)
     refine JR_appm 1 122 126 1 24 (.slice none 0 0) (a0:=ia) (len:=n) (cap0:=ic) (ax:=(some (⟨nu3 0,0,none⟩))) (m:=1) (c:=1) (dst:=(some 106)) [qm] (by kernel_rfl) (by kernel_rfl) (by kernel_rfl) (by kernel_rfl) rfl (by decide) rfl (fun _ _ _ s=>src_one s 2 rfl rfl ⟨.inr (.inl (List.mem_of_getElem? (i:=3) rfl)),trivial⟩) (by simp only[maxLen];omega) (by omega) (fun av2 cv2=>?_)
     refine JN [(cVer vb places (List.replicate places 0) []),(cSnds (om++[pm]).flatten (newSs id (pairsP id shards (k+1).toNat))),(cRcvs (im++[qm]).flatten (newRs id (pairsP id shards (k+1).toNat))),cAcc (.slice av1 (n+1) cv1) 125 1 (List.map eRow (om++[pm])),cAcc (.slice av2 (n+1) cv2) 126 1 (List.map eRow (im++[qm]))] ?_
     try simp only[aQ]
     refine Ym [zR 16,zR 17,.wr 18 [.o 0 none] 0,zR 19,zR 20,.wr 21 [.o 0 none] 0] [106,105,99,91,92,103] (fun _=>[]) (fun _=>[(0,.cells #[.pointer (sA vb 0),nI (↑id:Int),nI (↑places:Int),nI (↑shards:Int),nI 0,.slice av1 (n+1) cv1,.slice av2 (n+1) cv2] 124 (0,0))]) o0 [] (fun _=>?_)
     refine JR_end (J_eb ?_)
     refine Zp [.rd 0 [] 0 1,zR 1] [] [zI 58 (k+1)] (oC (show IntKind.i64.wrap (k+1)=k+1 from wrap_i64 (by omega) (by omega)) oN) ?_
     refine J_backx ⟨k+1,n+1,_,_,_,_,om++[pm],im++[qm]⟩ [0,2,6,7,10,57,58] [0] [0,3,4,1,2] [0,1] ?_ ?_ (by kernel_rfl) rfl rfl rfl
     ·exact⟨by simp only;omega,by simp only;omega,by simp only;omega,hso,hsi⟩
     ·simp only
      omega
    ·try simp only[aQ]
     refine Ym [.wr 7 [] 0,.wr 14 [] 0] [97,104] (fun nu2=>[zS 98 (sA (nu2 0) 0) 1 1,zS 105 (sA (nu2 1) 0) 1 1]) o0 (fun nu2=>[(nu2 0,.cells #[.slice pa m pc] 125 (0,0)),(nu2 1,.cells #[.slice qa m qc] 126 (0,0))]) [(8,[]),(15,[]),(18,[0]),(21,[0])] (fun nu2=>?_)
     refine JN [(cVer vb places (List.replicate places 0) []),cAcc (.slice oa n oc) 125 1 (List.map eRow om),cAcc (.slice ia n ic) 126 1 (List.map eRow im),(cSnds (om++[pm]).flatten (newSs id (pairsP id shards (k+1).toNat))),(cRcvs (im++[qm]).flatten (newRs id (pairsP id shards (k+1).toNat)))] ?_
     refine JR_appm 1 121 125 1 24 (.slice none 0 0) (a0:=oa) (len:=n) (cap0:=oc) (ax:=(some (⟨nu2 0,0,none⟩))) (m:=1) (c:=1) (dst:=(some 99)) [pm] (by kernel_rfl) (by kernel_rfl) (by kernel_rfl) (by kernel_rfl) rfl (by decide) rfl (fun _ _ _ s=>src_one s 1 rfl rfl ⟨.inr (.inl (List.mem_of_getElem? (i:=2) rfl)),trivial⟩) (by simp only[maxLen];omega) (by omega) (fun av1 cv1=>?_)
     refine JN [(cVer vb places (List.replicate places 0) []),cAcc (.slice ia n ic) 126 1 (List.map eRow im),(cSnds (om++[pm]).flatten (newSs id (pairsP id shards (k+1).toNat))),(cRcvs (im++[qm]).flatten (newRs id (pairsP id shards (k+1).toNat))),cAcc (.slice av1 (n+1) cv1) 125 1 (List.map eRow (om++[pm]))] ?_
     try simp only[aQ]
     refine JR_appm 1 122 126 1 24 (.slice none 0 0) (a0:=ia) (len:=n) (cap0:=ic) (ax:=(some (⟨nu2 1,0,none⟩))) (m:=1) (c:=1) (dst:=(some 106)) [qm] (by kernel_rfl) (by kernel_rfl) (by kernel_rfl) (by kernel_rfl) rfl (by decide) rfl (fun _ _ _ s=>src_one s 2 rfl rfl ⟨.inr (.inl (List.mem_of_getElem? (i:=3) rfl)),trivial⟩) (by simp only[maxLen];omega) (by omega) (fun av2 cv2=>?_)
     refine JN [(cVer vb places (List.replicate places 0) []),(cSnds (om++[pm]).flatten (newSs id (pairsP id shards (k+1).toNat))),(cRcvs (im++[qm]).flatten (newRs id (pairsP id shards (k+1).toNat))),cAcc (.slice av1 (n+1) cv1) 125 1 (List.map eRow (om++[pm])),cAcc (.slice av2 (n+1) cv2) 126 1 (List.map eRow (im++[qm]))] ?_
     try simp only[aQ]
     refine Ym [zR 16,zR 17,.wr 18 [.o 0 none] 0,zR 19,zR 20,.wr 21 [.o 0 none] 0] [106,99,98,105,91,92,96,103] (fun _=>[]) (fun _=>[(0,.cells #[.pointer (sA vb 0),nI (↑id:Int),nI (↑places:Int),nI (↑shards:Int),nI 0,.slice av1 (n+1) cv1,.slice av2 (n+1) cv2] 124 (0,0))]) o0 [] (fun _=>?_)
     refine JR_end (J_eb ?_)
     refine Zp [.rd 0 [] 0 1,zR 1] [] [zI 58 (k+1)] (oC (show IntKind.i64.wrap (k+1)=k+1 from wrap_i64 (by omega) (by omega)) oN) ?_
     refine J_backx ⟨k+1,n+1,_,_,_,_,om++[pm],im++[qm]⟩ [0,2,6,7,10,57,58] [0] [0,3,4,1,2] [0,1] ?_ ?_ (by kernel_rfl) rfl rfl rfl
     ·exact⟨by simp only;omega,by simp only;omega,by simp only;omega,hso,hsi⟩
     ·simp only
      omega
   ·try simp only[aQ]
    refine Ym [.wr 14 [] 0,.wr 7 [] 0] [97,104] (fun nu2=>[zS 98 (sA (nu2 1) 0) 1 1,zS 105 (sA (nu2 0) 0) 1 1]) o0 (fun nu2=>[(nu2 0,.cells #[.slice qa m qc] 126 (0,0)),(nu2 1,.cells #[.slice pa m pc] 125 (0,0))]) [(8,[]),(15,[]),(18,[0]),(21,[0])] (fun nu2=>?_)
    refine JN [(cVer vb places (List.replicate places 0) []),cAcc (.slice oa n oc) 125 1 (List.map eRow om),cAcc (.slice ia n ic) 126 1 (List.map eRow im),(cSnds (om++[pm]).flatten (newSs id (pairsP id shards (k+1).toNat))),(cRcvs (im++[qm]).flatten (newRs id (pairsP id shards (k+1).toNat)))] ?_
    refine JR_appm 1 121 125 1 24 (.slice none 0 0) (a0:=oa) (len:=n) (cap0:=oc) (ax:=(some (⟨nu2 1,0,none⟩))) (m:=1) (c:=1) (dst:=(some 99)) [pm] (by kernel_rfl) (by kernel_rfl) (by kernel_rfl) (by kernel_rfl) rfl (by decide) rfl (fun _ _ _ s=>src_one s 2 rfl rfl ⟨.inr (.inl (List.mem_of_getElem? (i:=2) rfl)),trivial⟩) (by simp only[maxLen];omega) (by omega) (fun av1 cv1=>?_)
    refine JN [(cVer vb places (List.replicate places 0) []),cAcc (.slice ia n ic) 126 1 (List.map eRow im),(cSnds (om++[pm]).flatten (newSs id (pairsP id shards (k+1).toNat))),(cRcvs (im++[qm]).flatten (newRs id (pairsP id shards (k+1).toNat))),cAcc (.slice av1 (n+1) cv1) 125 1 (List.map eRow (om++[pm]))] ?_
    try simp only[aQ]
    refine JR_appm 1 122 126 1 24 (.slice none 0 0) (a0:=ia) (len:=n) (cap0:=ic) (ax:=(some (⟨nu2 0,0,none⟩))) (m:=1) (c:=1) (dst:=(some 106)) [qm] (by kernel_rfl) (by kernel_rfl) (by kernel_rfl) (by kernel_rfl) rfl (by decide) rfl (fun _ _ _ s=>src_one s 1 rfl rfl ⟨.inr (.inl (List.mem_of_getElem? (i:=3) rfl)),trivial⟩) (by simp only[maxLen];omega) (by omega) (fun av2 cv2=>?_)
    refine JN [(cVer vb places (List.replicate places 0) []),(cSnds (om++[pm]).flatten (newSs id (pairsP id shards (k+1).toNat))),(cRcvs (im++[qm]).flatten (newRs id (pairsP id shards (k+1).toNat))),cAcc (.slice av1 (n+1) cv1) 125 1 (List.map eRow (om++[pm])),cAcc (.slice av2 (n+1) cv2) 126 1 (List.map eRow (im++[qm]))] ?_
    try simp only[aQ]
    refine Ym [zR 16,zR 17,.wr 18 [.o 0 none] 0,zR 19,zR 20,.wr 21 [.o 0 none] 0] [106,99,98,105,91,92,96,103] (fun _=>[]) (fun _=>[(0,.cells #[.pointer (sA vb 0),nI (↑id:Int),nI (↑places:Int),nI (↑shards:Int),nI 0,.slice av1 (n+1) cv1,.slice av2 (n+1) cv2] 124 (0,0))]) o0 [] (fun _=>?_)
    refine JR_end (J_eb ?_)
    refine Zp [.rd 0 [] 0 1,zR 1] [] [zI 58 (k+1)] (oC (show IntKind.i64.wrap (k+1)=k+1 from wrap_i64 (by omega) (by omega)) oN) ?_
    refine J_backx ⟨k+1,n+1,_,_,_,_,om++[pm],im++[qm]⟩ [0,2,6,7,10,57,58] [0] [0,3,4,1,2] [0,1] ?_ ?_ (by kernel_rfl) rfl rfl rfl
    ·exact⟨by simp only;omega,by simp only;omega,by simp only;omega,hso,hsi⟩
    ·simp only
     omega
 ·have hke:k.toNat=places:=by simp at hlt;omega
  rw[hke]at ho hi hn ⊢
  subst hn
  refine J_exit rfl ?_
  refine Zs (Rds 0 3) [59,0,2,10,57,58] [zP 6 (nu1 0)] ?_
  refine Yr [[],[]] (.tuple #[.pointer (sA (nu1 0) 0),.nilIface]) fun a w s=>?_
  have s2:=((s.stp (stp_freeze 1 rfl)).stp (stp_freeze 1 rfl)).hide 0 rfl
  have s3:=s2.stp (stp_closebox [3,0,1,2] (p:=BxOk (newP id n shards)) (G:=fun y=>[(.slice y.oa n y.oc,dRows y.om),(.slice y.ia n y.ic,dRows y.im)]) (C:=fun y=>[cObj (nu1 0) (plC y.vb id n shards 0 (.slice y.oa n y.oc) (.slice y.ia n y.ic)),cVer y.vb n (List.replicate n 0) [],cSnds y.om.flatten (newSs id (pairsP id shards n)),cRcvs y.im.flatten (newRs id (pairsP id shards n))]) ⟨vb,oa,oc,ia,ic,om,im⟩ rfl (mem_two (List.mem_of_getElem? (i:=2) rfl) (List.mem_of_getElem? (i:=3) rfl)) ⟨ho,hi⟩)
  exact .inr ⟨by omega,_,s3.ret (by simp) [0] [] rfl rfl⟩
end Go.Proofs.YtmkapocibaojdaaGreatDoor
end
section
namespace Go.Proofs.YtmkapocibaojdaaGreatDoor
open Go Go.Sx
def partC (n:Int) (c:ComT) (sh:Int):ComT:=⟨c.when,c.place,c.ops.filter (inS n sh)⟩
set_option maxHeartbeats 4000000 in
theorem pPart {w:World} {S:Nat→Prop} {M:List Nat} {er:Nat→Addr} {eb:Nat→Array Value×TypeId} {c:ComT} {a1 a2:Option Addr} {n1 c1 n2 c2:Nat} {o i:Value} {b vb:Nat} {id places shards clock sh:Int} (hC:Rep w S .nilIface (dC er eb)) (hP:Pre w S M [cObj b (plC vb id places shards clock o i)]) (h2:Rep w S (.slice a2 n2 c2) (.sl 7 (c.ops.map eOp))) (hl2:c.ops.length≤1000000) (s1:1≤shards) (s6:shards≤6) :
  Calls Tryz.prog 87 #[.pointer (some ⟨b,0,none⟩),.agg #[.slice a1 n1 c1,.int .i64 c.place,.slice a2 n2 c2],.int .i64 sh] w fun e w'=>∃u d,
   Ret M w S w' e (.tuple #[.agg #[.slice a1 n1 c1,.int .i64 c.place,.slice u (partC shards c sh).ops.length d],.bool (decide (((partC shards c sh).ops.length:Int)>0))]) [cObj b (plC vb id places shards clock o i)] [(.slice u (partC shards c sh).ops.length d,.sl 7 ((partC shards c sh).ops.map eOp))]:=by
 refine enG Tryz.func87 bd87 (args:=[.pointer (some ⟨b,0,none⟩),.agg #[.slice a1 n1 c1,.int .i64 c.place,.slice a2 n2 c2],.int .i64 sh]) (S:=S) (C:=[cObj b (plC vb id places shards clock o i)]) (G:=[(_,dC er eb),(_,.sl 7 (c.ops.map eOp))]) (by kernel_rfl) hP (.cons hC (.cons h2 (.nil _ _))) ?_
 refine Zv [.wr 0 [] 0,.wr 1 [] 0,.wr 2 [] 0,.wr 3 [] 0,zR 4] [] [0,1,2] (fun nu1=>[zP 3 (nu1 0),zP 4 (nu1 1),zP 5 (nu1 2),zP 6 (nu1 3),zB 7 false]) o0 (fun nu1=>[(nu1 0,.cells #[.pointer (sA b 0)] 24 (0,0)),(nu1 1,.cells #[.slice a1 n1 c1,nI c.place,.slice a2 n2 c2] 35 (0,0)),(nu1 2,.cells #[nI sh] 3 (0,0)),(nu1 3,.cells #[.slice none 0 0,nI 0,.slice none 0 0] 35 (0,0))]) (fun nu1=>?_)
 refine J_seq ?_
 refine J_share 0 rfl ?_
 refine J_share 1 rfl ?_
 refine J_stp (stp_fact (v:=.pointer (some ⟨nu1 0,0,none⟩)) (d:=.ptr [.v (.pointer (some ⟨b,0,none⟩))]) fun w S H=>obj_ptr (H _ (List.mem_of_getElem? (i:=2) rfl)) rfl) ?_
 refine J_stp (stp_fact (v:=.pointer (some ⟨nu1 2,0,none⟩)) (d:=.ptr [.v (.int .i64 sh)]) fun w S H=>obj_ptr (H _ (List.mem_of_getElem? (i:=3) rfl)) rfl) ?_
 refine Nm [cObj b (.cells #[.pointer (sA vb 0),nI id,nI places,nI shards,nI clock,o,i] 124 (0,0))] ?_
 try simp only[aQ]
 refine jT [(0,true),(1,true),(2,false),(3,true),(4,false),(5,true),(6,false)] [] ?_
 refine Ya [zR 0,.rd 1 [.o 0 none] 0 0] [] [zS 9 a2 n2 c2] ?_
 refine Yc 142 #[.slice a2 n2 c2] (some 10) fun w S hG=>?_
 refine(cloneOps (hG.at 1 rfl) hl2).mono ?_
 rintro e1 w1 ⟨u1,d1,hR⟩
 refine⟨_,_,_,hR,?_⟩
 try simp only[aQ]
 refine Ya [zR 3] [9,3,5] [zV 11 (.func (.func 147) #[] #[.pointer (sA (nu1 0) 0),.pointer (sA (nu1 2) 0)])] ?_
 refine JR_call [] [1,0] 146 #[.slice u1 n2 d1,.func (.func 147) #[] #[.pointer (some (⟨nu1 0,0,none⟩)),.pointer (some (⟨nu1 2,0,none⟩))]] (some 12) (by kernel_rfl) (by kernel_rfl) (by decide) (fun w S M hP hG _=>?_)
 refine(deletePart (hG.at 0 rfl) (hG.at 4 rfl) (hG.at 5 rfl) hP s1 s6 hl2).mono ?_
 rintro e2 w2 ⟨u2,n3,d2,hR⟩
 refine⟨_,_,_,hR,?_⟩
 try simp only[aQ]
 refine Ym [zR 5,.wr 6 [.o 0 none] 0] [12,11,10] (fun _=>[]) (fun _=>[(0,.cells #[.slice a1 n1 c1,nI c.place,.slice u2 n3 d2] 35 (0,0))]) o0 [] (fun _=>?_)
 try simp only[aQ]
 refine JR_end ?_
 try simp only[aQ]
 refine J_seq ?_
 try simp only[aQ]
 refine J_stpx (stp_acclen 0 rfl) fun _ hk=>?_
 rw[List.length_map]at hk
 subst hk
 refine J_stp (stp_freeze 0 rfl) ?_
 refine Nm [cObj b (.cells #[.pointer (sA vb 0),nI id,nI places,nI shards,nI clock,o,i] 124 (0,0))] ?_
 try simp only[aQ]
 refine Zm [.rd 0 (hnO 0 3) 0 0,zR 1,.rd 2 [.o 0 none] 0 0,zR 3,zR 4,.wr 5 (hnO 1 3) 0,zR 6] [(5,[1])] [4] (fun _=>[zB 7 (decide ((↑(List.filter (inS shards sh) c.ops).length:Int)>0))]) (fun _=>[(1,.cells #[.slice a1 n1 c1,nI c.place,.slice u2 ((List.filter (inS shards sh) c.ops).length) d2] 35 (0,0))]) o0 (fun _=>?_)
 refine Yr [(hnO 1 3),[]] (.tuple #[.agg #[.slice a1 n1 c1,nI c.place,.slice u2 ((List.filter (inS shards sh) c.ops).length) d2],.bool (decide ((↑(List.filter (inS shards sh) c.ops).length:Int)>0))]) fun a w s=>?_
 exact⟨u2,d2,s.ret (by simp) [0] [6] rfl rfl⟩
end Go.Proofs.YtmkapocibaojdaaGreatDoor
end
section
namespace Go.Proofs.YtmkapocibaojdaaGreatDoor
open Go Go.Sx
theorem dotP_puts (c:ComT) (l:List OpT):(putsOf c l).map dotP=l.map (dotOf c):=by
 rw[putsOf,List.map_map]
 rfl
theorem exiAt_zero {L:List PutT} {c:ComT}:(∀j,j<c.ops.length→exiAt L c j=0)↔∀o∈c.ops,dotOf c o∉L.map dotP:=by
 constructor
 ·intro h o ho
  obtain⟨j,hj⟩:=List.getElem?_of_mem ho
  have:=h j (List.getElem?_eq_some_iff.1 hj).1
  simp only[exiAt,hj]at this
  split at this
  ·cases this
  ·assumption
 ·intro h j hj
  have h1:c.ops[j]?=some c.ops[j]:=List.getElem?_eq_getElem hj
  simp only[exiAt,h1]
  rw[if_neg (h _ (List.getElem_mem hj))]
structure CanPut (p:Nat) (base:List Int) (L:List PutT) (c:ComT):Prop where
 com:(comFault c).code=0
 len:c.when.length=p
 new:inL c.when base=false
 dots:∀o∈c.ops,dotOf c o∉L.map dotP
theorem scanF_zero {f:Nat→Nat} {n:Nat} (h:(scanF f n 0).code=0):∀j,j<n→f j=0:=by
 intro j
 induction j using Nat.strongRecOn with
 | ind j ih=>
  intro hj
  rcases Nat.eq_zero_or_pos (f j)with h0|h0
  ·exact h0
  ·have:=(scanF_from n 0 j (Nat.zero_le _) fun i _ hi=>ih i hi (by omega)).2 (by omega) (by omega)
   rw[this]at h
   exact h
theorem putFault_zero {p:Nat} {base:List Int} {L:List PutT} {c:ComT}:(putFault p base L c).code=0↔CanPut p base L c:=by
 constructor
 ·intro h
  unfold putFault at h
  split at h
  ·exact absurd h ‹_›
  ·split at h
   ·cases h
   ·split at h
    ·cases h
    ·rename_i h1 h2 h3
     exact⟨by simpa using h1,by simpa using h2,by simpa using h3,exiAt_zero.1 (scanF_zero h)⟩
 ·rintro⟨h1,h2,h3,h4⟩
  rw[putFault,if_neg (by simp[h1]),if_neg (by simp[h2]),if_neg (by simp[h3]),(scanF_from c.ops.length 0 c.ops.length (Nat.zero_le _) fun j _ hj=>exiAt_zero.2 h4 j hj).1 (by omega)]
theorem dots_own {c:ComT} (h:(comFault c).code=0):(c.ops.map (dotOf c)).Nodup:=by
 rw[List.nodup_iff_pairwise_ne,List.pairwise_map]
 refine(right_pair h).imp fun{a b} hab he=>?_
 simp only[dotOf,DotT.mk.injEq]at he
 omega
theorem CanPut.nodup {p:Nat} {base:List Int} {L:List PutT} {c:ComT} (h:CanPut p base L c) (hn:(L.map dotP).Nodup):((L++putsOf c c.ops).map dotP).Nodup:=by
 rw[List.map_append,dotP_puts,List.nodup_append]
 refine⟨hn,dots_own h.com,fun x hx y hy he=>?_⟩
 subst he
 obtain⟨o,ho,rfl⟩:=List.mem_map.1 hy
 exact h.dots o ho hx
theorem within_done {L:List PutT} {key:ByteArray} {at':List Int} {x:DoneT} (h:x∈allDone (withinC L key at')):∃q∈L,x=⟨q.op,dotP q,wsum q.when⟩:=by
 obtain⟨c,hc,o,ho,rfl⟩:=mem_allDone.1 h
 obtain⟨q,hq,rfl⟩:=mem_keyC (List.mem_filter.1 hc).1
 obtain rfl:=List.mem_singleton.1 ho
 exact⟨q,hq,rfl⟩
end Go.Proofs.YtmkapocibaojdaaGreatDoor
end
section
namespace Go.Proofs.YtmkapocibaojdaaGreatDoor
open Go Go.Sx
def renum (ops:List OpT):List OpT:=ops.mapIdx fun i o=>{ o with no:=i }
def stepNo (ops:List OpT) (i:Nat):List OpT:=(renum ops).take i++ops.drop i
theorem renum_len (ops:List OpT):(renum ops).length=ops.length:=by simp[renum]
theorem renum_mem {ops:List OpT} {o:OpT} (h:o∈renum ops):∃o2∈ops,∃i:Nat,o={ o2 with no:=i }:=by
 obtain⟨i,hi,he⟩:=List.mem_mapIdx.1 h
 exact⟨_,List.getElem_mem hi,i,he.symm⟩
theorem renum_dots {ops:List OpT} (h:∀o∈ops,o.dots.length≤1000000):∀o∈renum ops,o.dots.length≤1000000:=fun o ho=>by
 obtain⟨o2,h2,i,rfl⟩:=renum_mem ho
 exact h o2 h2
theorem renum_at {ops:List OpT} {i:Nat} {o:OpT} (h:ops[i]?=some o):(renum ops)[i]?=some { o with no:=i }:=by simp[renum,h]
theorem stepNo_len {ops:List OpT} {i:Nat} (hi:i≤ops.length):(stepNo ops i).length=ops.length:=by
 have:=renum_len ops
 simp[stepNo]
 omega
theorem stepNo_at {ops:List OpT} {i:Nat} {o:OpT} (h:ops[i]?=some o):(stepNo ops i)[i]?=some o:=by
 have hi:=(List.getElem?_eq_some_iff.1 h).1
 have hl:((renum ops).take i).length=i:=by rw[List.length_take,renum_len];omega
 rw[stepNo,List.getElem?_append_right (by omega),hl,Nat.sub_self,List.getElem?_drop]
 exact h
theorem stepNo_set {ops:List OpT} {i:Nat} {o:OpT} (h:ops[i]?=some o):(stepNo ops i).set i { o with no:=i }=stepNo ops (i+1):=by
 obtain⟨hi,he⟩:=List.getElem?_eq_some_iff.1 h
 have hl:((renum ops).take i).length=i:=by rw[List.length_take,renum_len];omega
 have h1:(renum ops).take (i+1)=(renum ops).take i++[{ o with no:=i }]:=by rw[List.take_add_one,renum_at h];rfl
 rw[stepNo,stepNo,h1,List.set_append_right _ _ (by omega),hl,Nat.sub_self,List.drop_eq_getElem_cons hi,List.append_assoc]
 rfl
theorem stepNo_end (ops:List OpT):stepNo ops ops.length=renum ops:=by
 rw[stepNo,List.drop_length,List.append_nil,List.take_of_length_le (by rw[renum_len];exact Nat.le_refl _)]
def comP (x:PlT) (at':List Int) (ops:List OpT):ComT:=⟨at'.set x.id (x.clock+1),x.id,renum ops⟩
def comErr (x:PlT) (at':List Int) (ops:List OpT):FT:=
 if knownErr x at'≠0 then ⟨knownErr x at',-1⟩else if 1099511627776≤x.clock then ⟨2,-1⟩else comFault (comP x at' ops)
def sndC (n:Int) (c:ComT) (y:SndT):SndT:=if (partC n c y.sh).ops=[]then y else SndT.com y (partC n c y.sh)
def msgC (n:Int) (c:ComT) (y:SndT):List MsgT:=if (partC n c y.sh).ops=[]then []else [SndT.msg y (partC n c y.sh)]
def comPl (x:PlT) (c:ComT):PlT:={ x with clock:=x.clock+1,L:=x.L++putsOf c c.ops,ss:=x.ss.map (sndC x.shards c) }
def comMs (x:PlT) (c:ComT):List MsgT:=(x.ss.map (msgC x.shards c)).flatten
def ssAt (x:PlT) (c:ComT) (p:Nat):List SndT:=(x.ss.take p).map (sndC x.shards c)++x.ss.drop p
def msAt (x:PlT) (c:ComT) (p:Nat):List MsgT:=((x.ss.take p).map (msgC x.shards c)).flatten
theorem ssAt_zero (x:PlT) (c:ComT):ssAt x c 0=x.ss:=by simp[ssAt]
theorem ssAt_end (x:PlT) (c:ComT) {p:Nat} (h:x.ss.length≤p):ssAt x c p=x.ss.map (sndC x.shards c):=by rw[ssAt,List.take_of_length_le h,List.drop_of_length_le h,List.append_nil]
theorem msAt_end (x:PlT) (c:ComT) {p:Nat} (h:x.ss.length≤p):msAt x c p=comMs x c:=by rw[msAt,List.take_of_length_le h,comMs]
theorem ssAt_at {x:PlT} {c:ComT} {p:Nat} {y:SndT} (h:x.ss[p]?=some y):(ssAt x c p)[p]?=some y:=by
 have hi:=(List.getElem?_eq_some_iff.1 h).1
 rw[ssAt,List.getElem?_append_right (by rw[List.length_map,List.length_take];omega),List.length_map,List.length_take,Nat.min_eq_left (by omega),Nat.sub_self,List.getElem?_drop]
 exact h
theorem ssAt_succ {x:PlT} {c:ComT} {p:Nat} {y:SndT} (h:x.ss[p]?=some y):(ssAt x c p).set p (sndC x.shards c y)=ssAt x c (p+1):=by
 obtain⟨hi,he⟩:=List.getElem?_eq_some_iff.1 h
 have hl:((x.ss.take p).map (sndC x.shards c)).length=p:=by rw[List.length_map,List.length_take];omega
 rw[ssAt,ssAt,List.set_append_right _ _ (by omega),hl,Nat.sub_self,List.drop_eq_getElem_cons hi,he,List.take_add_one,h,List.map_append,List.append_assoc]
 rfl
theorem msAt_succ {x:PlT} {c:ComT} {p:Nat} {y:SndT} (h:x.ss[p]?=some y):msAt x c p++msgC x.shards c y=msAt x c (p+1):=by
 rw[msAt,msAt,List.take_add_one,h,List.map_append,List.flatten_append]
 simp
structure PlIn (x:PlT) (n:Nat):Prop extends PlOk x where
 clk:x.clock≤n
 bclk:x.base.getD x.id 0≤x.clock
 dots:∀q∈x.L,q.place=x.id→q.when.getD x.id 0≤x.clock
 put:∀q∈x.L,(comFault (oneC q)).code=0∧q.when.length=x.places
 snd:∀s∈x.ss,s.fm=x.id∧s.t≤x.clock∧0≤s.q∧s.q≤n∧s.l.length≤n
 way:∀s∈x.ss,0≤s.to∧0≤s.sh
 wayR:∀r∈x.rs,0≤r.fm∧0≤r.sh∧r.to=x.id
 fit:∀s∈x.ss,∀m∈s.l,Fit m
 rcv:∀r∈x.rs,0≤r.q∧r.q+r.l.length≤n∧Dist r.l
 kept:∀r∈x.rs,∀m∈r.l,0≤m.time∧m.time≤1099511627776∧Fit m
 few:(x.L.length:Int)≤12*(x.clock+(x.rs.map (·.q)).sum)
theorem sum_le {l:List RcvT} {n:Nat} (h:∀r∈l,r.q≤n):(l.map (·.q)).sum≤l.length*n:=by
 induction l with
 | nil=>simp
 | cons a l ih=>
  have h1:=h a (List.mem_cons_self ..)
  have h2:=ih fun r hr=>h r (List.mem_cons_of_mem _ hr)
  simp only[List.map_cons,List.sum_cons,List.length_cons,Int.natCast_add,Int.add_mul]
  omega
theorem PlIn.ssl {x:PlT} {n:Nat} (h:PlIn x n):x.ss.length=posP x.id x.shards x.places∧x.ss.length≤36:=by
 have h3:=congrArg List.length h.ss
 rw[List.length_map]at h3
 have h4:=posP_le x.id x.shards x.places
 refine⟨h3,?_⟩
 rw[h3]
 exact Nat.le_trans h4 (Nat.le_trans (Nat.mul_le_mul h.p6 h.s6) (by decide))
theorem PlIn.sndAt {x:PlT} {n:Nat} (h:PlIn x n) {k i:Nat} {y:SndT} (hk:k<x.places) (hne:k≠x.id) (hi:i<x.shards) (hy:x.ss[posP x.id x.shards k+i]?=some y):y.to=k∧y.sh=i:=by
 have h1:(x.ss.map PlT.pair)[posP x.id x.shards k+i]?=some (PlT.pair y):=by rw[List.getElem?_map,hy];rfl
 rw[h.ss,pairsP_at hk hne hi]at h1
 obtain⟨h2,h3⟩:=Prod.mk.inj (Option.some.inj h1)
 obtain⟨h4,h5⟩:=h.way y (List.mem_of_getElem? hy)
 omega
theorem msAt_len (x:PlT) (c:ComT) (p:Nat):(msAt x c p).length≤x.ss.length:=by
 have:∀l:List SndT,((l.map (msgC x.shards c)).flatten).length≤l.length:=by
  intro l
  induction l with
  | nil=>simp
  | cons a l ih=>
   have h1:(msgC x.shards c a).length≤1:=by
    unfold msgC
    split <;> simp
   simp only[List.map_cons,List.flatten_cons,List.length_append,List.length_cons]
   omega
 exact Nat.le_trans (this _) (by rw[List.length_take];omega)
theorem PlIn.len {x:PlT} {n:Nat} (h:PlIn x n):x.L.length≤444*n:=by
 have h1:=h.few
 have h2:=sum_le fun r hr=>(by have:=h.rcv r hr;omega:r.q≤n)
 have h3:=congrArg List.length h.rs
 rw[List.length_map]at h3
 have h4:=posP_le x.id x.shards x.places
 unfold posP at h4
 have h5:x.rs.length≤36:=by
  rw[h3]
  exact Nat.le_trans h4 (Nat.le_trans (Nat.mul_le_mul h.p6 h.s6) (by decide))
 have h6:(x.rs.length:Int)*n≤36*n:=Int.mul_le_mul_of_nonneg_right (by omega) (by omega)
 have h7:=h.clk
 omega
theorem PlIn.ver {x:PlT} {n:Nat} (h:PlIn x n) (hn:n≤600):VerI x.places x.base x.L:=⟨h.base,h.basel,by have:=h.len;omega,h.put⟩
theorem comErr_ok {x:PlT} {at':List Int} {ops:List OpT} (h:(comErr x at' ops).code=0):knownErr x at'=0∧x.clock<1099511627776∧(comFault (comP x at' ops)).code=0:=by
 unfold comErr at h
 split at h
 ·rename_i h1
  exact absurd h h1
 split at h
 ·cases h
 ·exact⟨by omega,by omega,h⟩
theorem known_len {x:PlT} {at':List Int} (h:knownErr x at'=0):vecErr at'=0∧at'.length=x.places∧inL at' (snapL x)=true:=by
 unfold knownErr at h
 split at h
 ·rename_i h1
  exact absurd h h1
 split at h
 ·cases h
 split at h
 ·rename_i h3
  exact⟨by omega,by omega,h3⟩
 ·cases h
theorem comP_when {x:PlT} {at':List Int} {ops:List OpT} (h:x.id<at'.length):(comP x at' ops).when.getD x.id 0=x.clock+1:=by
 rw[comP,List.getD_eq_getElem?_getD]
 simp[h]
theorem comP_put {x:PlT} {n:Nat} {at':List Int} {ops:List OpT} (hx:PlIn x n) (h:(comErr x at' ops).code=0):CanPut x.places x.base x.L (comP x at' ops):=by
 obtain⟨h1,h2,h3⟩:=comErr_ok h
 obtain⟨_,h4,_⟩:=known_len h1
 have hid:=hx.id
 have hw:=comP_when (ops:=ops) (by omega:x.id<at'.length)
 refine⟨h3,by simp[comP,h4],?_,fun o ho hm=>?_⟩
 ·rw[Bool.eq_false_iff]
  intro hin
  have hb:x.base[x.id]?=some (x.base.getD x.id 0):=by
   rw[List.getD_eq_getElem?_getD,List.getElem?_eq_getElem (by rw[hx.basel];exact hid)]
   rfl
  have hc:(comP x at' ops).when[x.id]?=some (x.clock+1):=by
   rw[comP]
   simp[h4,hid]
  have:=List.all_eq_true.1 hin _ (List.mem_of_getElem? (zip_at hc hb))
  have h5:=hx.bclk
  have h8:x.clock+1≤x.base.getD x.id 0:=of_decide_eq_true this
  omega
 ·obtain⟨q,hq,hd⟩:=List.mem_map.1 hm
  unfold dotP dotOf at hd
  simp only[DotT.mk.injEq]at hd
  have hp:q.place=x.id:=hd.1
  have h5:=hx.dots q hq hp
  have h6:=hd.2.1
  rw[hp,show(comP x at' ops).place=(x.id:Int) from rfl,Int.toNat_natCast,hw]at h6
  omega
theorem partC_of {n:Int} {c:ComT} {sh:Int} (h:(partC n c sh).ops≠[]):PartOf (partC n c sh) c:=⟨rfl,rfl,h,List.filter_sublist⟩
theorem comP_send {x:PlT} {n:Nat} {at':List Int} {ops:List OpT} (hx:PlIn x n) (h:(comErr x at' ops).code=0) {y:SndT} (hy:y∈x.ss) (hne:(partC x.shards (comP x at' ops) y.sh).ops≠[]):scomErr (partC x.shards (comP x at' ops) y.sh) y.fm y.t=⟨0,-1⟩:=by
 obtain⟨h1,h2,h3⟩:=comErr_ok h
 obtain⟨_,h4,_⟩:=known_len h1
 have hid:=hx.id
 have hw:=comP_when (ops:=ops) (by omega:x.id<at'.length)
 obtain⟨hf,ht,_⟩:=hx.snd y hy
 have hp:(partC x.shards (comP x at' ops) y.sh).place=x.id:=rfl
 rw[scomErr,if_neg (by simp[(partC_of hne).fault h3]),if_neg (by rw[hp,hf];simp),if_neg]
 rw[hp,Int.toNat_natCast]
 show ¬(comP x at' ops).when.getD x.id 0≤y.t
 rw[hw]
 omega
theorem stp_closePl {h r:List (Nat×Obj)} {F:List (List Nat×World)} {S0:Nat→Prop} {C0:List Chunk} {G0:List (Value×D)} {b:Nat} {x:PlT} (y:PlBx) (ps:List Nat) (i j:Nat) (hC:pick C0 ps=[cObj b (plC y.vb x.id x.places x.shards x.clock (.slice y.oa x.places y.oc) (.slice y.ia x.places y.ic)),cVer y.vb x.places x.base x.L,cSnds y.om.flatten x.ss,cRcvs y.im.flatten x.rs]) (hi:G0[i]?=some (.slice y.oa x.places y.oc,dRows y.om)) (hj:G0[j]?=some (.slice y.ia x.places y.ic,dRows y.im)) (hy:BxOk x y) (hnd:ps.Nodup:=by decide) :
  Stp h r F ⟨S0,C0,G0⟩ (fun _:Unit=>True) fun _=>⟨S0,restC C0 ps++[cPlace b x],G0⟩:=
 stp_closebox ps y hC (mem_two (List.mem_of_getElem? hi) (List.mem_of_getElem? hj)) hy hnd
end Go.Proofs.YtmkapocibaojdaaGreatDoor
end
section
namespace Go.Sx
open Go
theorem drain_q:∀(n:Nat) (L:List MsgT) (q t:Int),(drain n L q t).2.2.1=q+(drain n L q t).1.length
 | 0,L,q,t=>by simp[drain]
 | n+1,L,q,t=>by
  unfold drain
  cases kept L (q+1)with
  | none=>simp
  | some m=>
   have ih:=drain_q n (dropK L (q+1)) (q+1) m.time
   simp only[ih,List.length_cons]
   omega
theorem drain_len:∀(n:Nat) (L:List MsgT) (q t:Int),(drain n L q t).2.1.length+(drain n L q t).1.length=L.length
 | 0,L,q,t=>by simp[drain]
 | n+1,L,q,t=>by
  unfold drain
  cases h:kept L (q+1)with
  | none=>simp
  | some m=>
   have ih:=drain_len n (dropK L (q+1)) (q+1) m.time
   have h2:=dropK_len h
   simp only[List.length_cons]
   omega
theorem drain_left:∀(n:Nat) (L:List MsgT) (q t:Int),(drain n L q t).2.1.Sublist L
 | 0,L,q,t=>by simp[drain]
 | n+1,L,q,t=>by
  unfold drain
  cases kept L (q+1)with
  | none=>simp
  | some m=>exact(drain_left n (dropK L (q+1)) (q+1) m.time).trans (dropK_sub L _)
theorem drain_out:∀(n:Nat) (L:List MsgT) (q t:Int),∀m∈(drain n L q t).1,m∈L
 | 0,L,q,t=>by simp[drain]
 | n+1,L,q,t=>by
  unfold drain
  cases h:kept L (q+1)with
  | none=>simp
  | some m=>
   intro x hx
   rcases List.mem_cons.1 hx with rfl|hx
   ·exact kept_mem h
   ·exact(dropK_sub L _).subset (drain_out n (dropK L (q+1)) (q+1) m.time x hx)
theorem drain_time:∀(n:Nat) (L:List MsgT) (q t:Int),(drain n L q t).2.2.2=t∨∃m∈L,(drain n L q t).2.2.2=m.time
 | 0,L,q,t=>by simp[drain]
 | n+1,L,q,t=>by
  unfold drain
  cases h:kept L (q+1)with
  | none=>simp
  | some m=>
   rcases drain_time n (dropK L (q+1)) (q+1) m.time with h1|⟨x,hx,h1⟩
   ·exact .inr ⟨m,kept_mem h,h1⟩
   ·exact .inr ⟨x,(dropK_sub L _).subset hx,h1⟩
theorem map_set_same {α β:Type} {f:α→β}:∀{l:List α} {p:Nat} {a b:α},l[p]?=some a→f b=f a→(l.set p b).map f=l.map f
 | [],_,_,_,h,_=>by simp at h
 | _::_,0,_,_,h,hf=>by
  simp only[List.getElem?_cons_zero,Option.some.injEq]at h
  subst h
  simp[hf]
 | _::l,p+1,a,b,h,hf=>by
  have ih:=map_set_same (l:=l) (p:=p) (by simpa using h) hf
  simp[ih]
theorem sum_set {l:List RcvT}:∀{p:Nat} {a b:RcvT},l[p]?=some a→((l.set p b).map (·.q)).sum=(l.map (·.q)).sum - a.q+b.q:=by
 induction l with
 | nil=>intro p a b h;simp at h
 | cons x l ih=>
  intro p a b h
  cases p with
  | zero=>
   simp only[List.getElem?_cons_zero,Option.some.injEq]at h
   subst h
   simp only[List.set_cons_zero,List.map_cons,List.sum_cons]
   omega
  | succ p=>
   have:=ih (b:=b) (by simpa using h:l[p]?=some a)
   simp only[List.set_cons_succ,List.map_cons,List.sum_cons,this]
   omega
end Go.Sx
namespace Go.Proofs.YtmkapocibaojdaaGreatDoor
open Go Go.Sx
theorem hearT_same {fm to sh:Int} {r:RecT} {m:MsgT} (h:(hearT fm to sh r m).1≠0):(hearT fm to sh r m).2.1=[]∧(hearT fm to sh r m).2.2=r:=by
 unfold hearT at h ⊢
 split
 ·exact⟨rfl,rfl⟩
 rw[if_neg (by assumption)]at h
 split
 ·exact⟨rfl,rfl⟩
 rw[if_neg (by assumption)]at h
 split
 ·exact⟨rfl,rfl⟩
 rw[if_neg (by assumption)]at h
 split
 ·exact⟨rfl,rfl⟩
 rw[if_neg (by assumption)]at h
 exact absurd rfl h
structure HearOk (y:RcvT) (m:MsgT):Prop where
 q:(RcvT.heard y m).q=y.q+(RcvT.hear y m).2.1.length
 len:(RcvT.heard y m).l.length+(RcvT.hear y m).2.1.length≤y.l.length+1
 left:∀x∈(RcvT.heard y m).l,x∈y.l∨(x=m∧0≤m.time∧m.time≤1099511627776)
 out:∀x∈(RcvT.hear y m).2.1,x∈y.l∨(x=m∧0≤m.time∧m.time≤1099511627776)
 dist:Dist y.l→Dist (RcvT.heard y m).l
 time:(RcvT.heard y m).t=y.t∨∃x,(x∈y.l∨(x=m∧0≤m.time∧m.time≤1099511627776))∧(RcvT.heard y m).t=x.time
theorem hear_ok (y:RcvT) (m:MsgT):HearOk y m:=by
 have triv:∀k,RcvT.hear y m=(k,[],⟨y.l,y.q,y.t⟩)→HearOk y m:=fun k h=>by
  refine⟨?_,?_,?_,?_,?_,?_⟩ <;> simp only[RcvT.heard,h]
  ·simp
  ·simp
  ·exact fun x hx=>.inl hx
  ·simp
  ·exact id
  ·exact .inl trivial
 by_cases h1:m.fm≠y.fm∨m.to≠y.to∨m.shard≠y.sh
 ·exact triv 3 (by rw[RcvT.hear,hearT,if_pos h1])
 by_cases h2:m.seq<1∨m.time<0∨1099511627776<m.time
 ·exact triv 2 (by rw[RcvT.hear,hearT,if_neg h1,if_pos h2])
 by_cases h3:m.seq≤y.q
 ·exact triv 0 (by rw[RcvT.hear,hearT,if_neg h1,if_neg h2,if_pos h3])
 by_cases h4:201<m.seq - y.q
 ·exact triv 7 (by rw[RcvT.hear,hearT,if_neg h1,if_neg h2,if_neg h3,if_pos h4])
 have ht:0≤m.time∧m.time≤1099511627776:=by omega
 have key:∀L1:List MsgT,RcvT.hear y m=(0,(drainAll L1 y.q y.t).1,⟨(drainAll L1 y.q y.t).2.1,(drainAll L1 y.q y.t).2.2.1,(drainAll L1 y.q y.t).2.2.2⟩)→(∀x∈L1,x∈y.l∨x=m)→L1.length≤y.l.length+1→(Dist y.l→Dist L1)→HearOk y m:=fun L1 h hm hl hd=>by
  have hm2:∀x∈L1,x∈y.l∨(x=m∧0≤m.time∧m.time≤1099511627776):=fun x hx=>(hm x hx).imp id fun h=>⟨h,ht⟩
  refine⟨?_,?_,?_,?_,?_,?_⟩ <;> simp only[RcvT.heard,h]
  ·exact drain_q _ _ _ _
  ·have:=drain_len (L1.length+1) L1 y.q y.t
   unfold drainAll
   omega
  ·exact fun x hx=>hm2 x ((drain_left _ _ _ _).subset hx)
  ·exact fun x hx=>hm2 x (drain_out _ _ _ _ x hx)
  ·exact fun hy=>((drain_left _ _ _ _).map _).nodup (hd hy)
  ·rcases drain_time (L1.length+1) L1 y.q y.t with h5|⟨x,hx,h5⟩
   ·exact .inl h5
   ·exact .inr ⟨x,hm2 x hx,h5⟩
 cases hk:kept y.l m.seq with
 | none=>
  refine key (y.l++[m]) (by rw[RcvT.hear,hearT,if_neg h1,if_neg h2,if_neg h3,if_neg h4];simp only[hk]) (fun x hx=>?_) (by simp) fun hd=>hd.app hk
  simpa using hx
 | some x=>exact key y.l (by rw[RcvT.hear,hearT,if_neg h1,if_neg h2,if_neg h3,if_neg h4];simp only[hk]) (fun x hx=>.inl hx) (by omega) id
def putMs (places:Nat) (base:List Int) (fm:Int) (L:List PutT) (l:List MsgT):List PutT:=l.foldl (fun L m=>if m.beat=false∧m.c.place=fm then putL places base L m.c else L) L
theorem putL_len (p:Nat) (base:List Int) (L:List PutT) (c:ComT):(putL p base L c).length≤L.length+12:=by
 unfold putL
 split
 ·rename_i h
  have:=(right_of (putFault_zero.1 h).com).o2
  simp[putsOf]
  omega
 ·omega
theorem putL_mem {p:Nat} {base:List Int} {L:List PutT} {c:ComT} {q:PutT} (h:q∈putL p base L c):q∈L∨(q.place=c.place∧q.when=c.when∧q.op∈c.ops∧(comFault c).code=0∧c.when.length=p):=by
 unfold putL at h
 split at h
 ·rename_i hf
  have hc:=putFault_zero.1 hf
  rcases List.mem_append.1 h with h|h
  ·exact .inl h
  ·obtain⟨o,ho,rfl⟩:=List.mem_map.1 h
   exact .inr ⟨rfl,rfl,ho,hc.com,hc.len⟩
 ·exact .inl h
theorem oneC_fine {c:ComT} {q:PutT} (h1:q.place=c.place) (h2:q.when=c.when) (h3:q.op∈c.ops) (hc:(comFault c).code=0):(comFault (oneC q)).code=0:=
 PartOf.fault ⟨h1,h2,by simp[oneC],List.singleton_sublist.2 h3⟩ hc
theorem putMs_len (p:Nat) (base:List Int) (fm:Int):∀(l:List MsgT) (L:List PutT),(putMs p base fm L l).length≤L.length+12*l.length
 | [],L=>by simp[putMs]
 | m::l,L=>by
  have h1:=putL_len p base L m.c
  have e:putMs p base fm L (m::l)=putMs p base fm (if m.beat=false∧m.c.place=fm then putL p base L m.c else L) l:=rfl
  rw[e,List.length_cons]
  by_cases hm:m.beat=false∧m.c.place=fm
  ·rw[if_pos hm]
   have ih:=putMs_len p base fm l (putL p base L m.c)
   omega
  ·rw[if_neg hm]
   have ih:=putMs_len p base fm l L
   omega
theorem putMs_mem {p:Nat} {base:List Int} {fm:Int}:∀{l:List MsgT} {L:List PutT} {q:PutT},q∈putMs p base fm L l→q∈L∨∃m∈l,m.beat=false∧m.c.place=fm∧q.place=m.c.place∧q.when=m.c.when∧q.op∈m.c.ops∧(comFault m.c).code=0∧m.c.when.length=p
 | [],L,q,h=>.inl h
 | m::l,L,q,h=>by
  rcases putMs_mem (l:=l) (show q∈putMs p base fm (if m.beat=false∧m.c.place=fm then putL p base L m.c else L) l from h)with h|⟨x,hx,h⟩
  ·split at h
   ·rename_i hm
    rcases putL_mem h with h|⟨h1,h2,h3,h4,h5⟩
    ·exact .inl h
    ·exact .inr ⟨m,List.mem_cons_self ..,hm.1,hm.2,h1,h2,h3,h4,h5⟩
   ·exact .inl h
  ·exact .inr ⟨x,List.mem_cons_of_mem _ hx,h⟩
def hearWay (x:PlT) (m:MsgT):Nat:=if m.fm<0∨x.places≤m.fm∨m.shard<0∨x.shards≤m.shard∨m.fm=x.id then 2 else if m.to≠x.id then 3 else 0
def posM (x:PlT) (m:MsgT):Nat:=posP x.id x.shards m.fm.toNat+m.shard.toNat
def ackM (x:PlT) (m:MsgT) (q:Int):MsgT:=⟨x.id,m.fm,m.shard,q,-1,false,⟨[],0,[]⟩⟩
def hearPl (x:PlT) (m:MsgT):Nat×List MsgT×PlT:=
 if hearWay x m≠0 then (hearWay x m,[],x)
 else if m.time = -1 then match x.ss[posM x m]? with
  | none=>(0,[],x)
  | some y=>(ackErr y.q m.seq,[],{ x with ss:=x.ss.set (posM x m) (SndT.ack y m.seq) })
 else match x.rs[posM x m]? with
  | none=>(0,[],x)
  | some y=>if (RcvT.hear y m).1≠0 then ((RcvT.hear y m).1,[],x)
   else (0,[ackM x m (RcvT.heard y m).q],{ x with rs:=x.rs.set (posM x m) (RcvT.heard y m),L:=putMs x.places x.base m.fm x.L (RcvT.hear y m).2.1 })
theorem PlIn.mono {x:PlT} {n k:Nat} (h:PlIn x n) (hk:n≤k):PlIn x k:=
 { h with clk:=by have:=h.clk;omega,snd:=fun s hs=>by have:=h.snd s hs;omega,rcv:=fun r hr=>by have:=h.rcv r hr;exact⟨this.1,by omega,this.2.2⟩ }
theorem set_mem {α:Type} {l:List α} {p:Nat} {a b:α} (h:b∈l.set p a):b∈l∨b=a:=by
 rcases List.mem_or_eq_of_mem_set h with h|h
 ·exact .inl h
 ·exact .inr h
theorem ackL_sub (q seq:Int) (L:List MsgT):(ackL q seq L).Sublist L:=by
 unfold ackL
 split
 ·exact List.filter_sublist
 ·exact .refl _
theorem hear_in {x:PlT} {n:Nat} {m:MsgT} (hx:PlIn x n) (hm:Fit m):PlIn (hearPl x m).2.2 (n+1):=by
 unfold hearPl
 split
 ·exact hx.mono (by omega)
 rename_i hw
 have hne:m.fm≠x.id:=by
  intro h0
  apply hw
  rw[hearWay,if_pos (by omega)]
  decide
 split
 ·split
  ·exact hx.mono (by omega)
  ·rename_i y hy
   have h0:=hx.mono (Nat.le_succ n)
   have hmem:=List.mem_of_getElem? hy
   refine{ h0 with ss:=(map_set_same (b:=SndT.ack y m.seq) hy rfl).trans h0.ss,snd:=fun s hs=>?_,way:=fun s hs=>?_,fit:=fun s hs z hz=>?_ }
   ·rcases set_mem hs with hs|rfl
    ·exact h0.snd s hs
    ·have:=h0.snd y hmem
     have h2:=(ackL_sub y.q m.seq y.l).length_le
     exact⟨this.1,this.2.1,this.2.2.1,this.2.2.2.1,Nat.le_trans h2 this.2.2.2.2⟩
   ·rcases set_mem hs with hs|rfl
    ·exact h0.way s hs
    ·exact h0.way y hmem
   ·rcases set_mem hs with hs|rfl
    ·exact h0.fit s hs z hz
    ·exact h0.fit y hmem z ((ackL_sub y.q m.seq y.l).subset hz)
 ·split
  ·exact hx.mono (by omega)
  rename_i y hy
  split
  ·exact hx.mono (by omega)
  have h0:=hx.mono (Nat.le_succ n)
  have hmem:=List.mem_of_getElem? hy
  have hh:=hear_ok y m
  obtain⟨r1,r2,r3⟩:=hx.rcv y hmem
  have hkt:∀z,(z∈y.l∨(z=m∧0≤m.time∧m.time≤1099511627776))→0≤z.time∧z.time≤1099511627776∧Fit z:=fun z hz=>by
   rcases hz with hz|⟨rfl,h1,h2⟩
   ·exact hx.kept y hmem z hz
   ·exact⟨h1,h2,hm⟩
  refine{ h0 with rs:=(map_set_same (b:=RcvT.heard y m) hy rfl).trans h0.rs,ts:=fun r hr=>?_,dots:=fun q hq hp=>?_,wayR:=fun r hr=>?_,put:=fun q hq=>?_,rcv:=fun r hr=>?_,kept:=fun r hr z hz=>?_,few:=?_ }
  ·rcases set_mem hr with hr|rfl
   ·exact h0.ts r hr
   ·rcases hh.time with h1|⟨z,hz,h1⟩
    ·rw[h1]
     exact h0.ts y hmem
    ·rw[h1]
     exact⟨(hkt z hz).1,(hkt z hz).2.1⟩
  ·rcases putMs_mem hq with hq|⟨z,_,_,hz,h1,_⟩
   ·exact h0.dots q hq hp
   ·exact absurd (by rw[←hz,←h1];exact hp) hne
  ·rcases putMs_mem hq with hq|⟨z,_,_,_,h1,h2,h3,h4,h5⟩
   ·exact h0.put q hq
   ·exact⟨oneC_fine h1 h2 h3 h4,by rw[h2];exact h5⟩
  ·rcases set_mem hr with hr|rfl
   ·exact h0.wayR r hr
   ·exact h0.wayR y hmem
  ·rcases set_mem hr with hr|rfl
   ·exact h0.rcv r hr
   ·have h1:=hh.q
    have h2:=hh.len
    exact⟨by omega,by omega,hh.dist r3⟩
  ·rcases set_mem hr with hr|rfl
   ·exact h0.kept r hr z hz
   ·exact hkt z (hh.left z hz)
  ·have h1:=putMs_len x.places x.base m.fm (RcvT.hear y m).2.1 x.L
   have h2:=sum_set (b:=RcvT.heard y m) hy
   have h3:=hx.few
   have h4:=hh.q
   show((putMs x.places x.base m.fm x.L (RcvT.hear y m).2.1).length:Int)≤12*(x.clock+((x.rs.set (posM x m) (RcvT.heard y m)).map (·.q)).sum)
   rw[h2]
   omega
def beatPl (x:PlT):PlT:={ x with ss:=x.ss.map fun y=>SndT.beat y x.clock }
def beatMs (x:PlT):List MsgT:=x.ss.map fun y=>SndT.beatM y x.clock
def againMs (x:PlT):List MsgT:=(x.ss.map (·.l)).flatten
theorem beat_in {x:PlT} {n:Nat} (hx:PlIn x n):PlIn (beatPl x) (n+1):=by
 have h0:=hx.mono (Nat.le_succ n)
 refine{ h0 with ss:=?_,snd:=fun s hs=>?_,way:=fun s hs=>?_,fit:=fun s hs z hz=>?_ }
 ·show(x.ss.map fun y=>SndT.beat y x.clock).map PlT.pair=_
  rw[List.map_map]
  exact h0.ss
 ·obtain⟨y,hy,rfl⟩:=List.mem_map.1 hs
  have:=hx.snd y hy
  refine⟨this.1,Int.le_refl _,?_,?_,?_⟩
  ·show 0≤y.q+1
   omega
  ·show y.q+1≤_
   omega
  ·show(y.l++_).length≤_
   simp
   omega
 ·obtain⟨y,hy,rfl⟩:=List.mem_map.1 hs
  exact hx.way y hy
 ·obtain⟨y,hy,rfl⟩:=List.mem_map.1 hs
  rcases List.mem_append.1 hz with hz|hz
  ·exact hx.fit y hy z hz
  ·obtain rfl:=List.mem_singleton.1 hz
   simp[Fit,SndT.beatM]
theorem com_in {x:PlT} {n:Nat} {at':List Int} {ops:List OpT} (hx:PlIn x n) (h:(comErr x at' ops).code=0) (hd:∀o∈ops,o.dots.length≤1000000):PlIn (comPl x (comP x at' ops)) (n+1):=by
 have h0:=hx.mono (Nat.le_succ n)
 obtain⟨h1,h2,h3⟩:=comErr_ok h
 obtain⟨_,h4,_⟩:=known_len h1
 have hid:=hx.id
 have hw:=comP_when (ops:=ops) (by omega:x.id<at'.length)
 have hr:=right_of h3
 have hwl:(comP x at' ops).when.length=x.places:=by simp[comP,h4]
 have hc:=hx.clk
 have hc0:=hx.c0
 have hp6:=hx.p6
 refine{ h0 with c0:=?_,c1:=?_,ss:=?_,clk:=?_,bclk:=?_,dots:=fun q hq hp=>?_,put:=fun q hq=>?_,snd:=fun s hs=>?_,way:=fun s hs=>?_,fit:=fun s hs z hz=>?_,few:=?_ }
 ·show 0≤x.clock+1
  omega
 ·show x.clock+1≤_
  omega
 ·show(x.ss.map (sndC x.shards (comP x at' ops))).map PlT.pair=_
  rw[List.map_map]
  refine Eq.trans (List.map_congr_left fun y _=>?_) h0.ss
  show PlT.pair (sndC x.shards (comP x at' ops) y)=_
  unfold sndC
  split <;> rfl
 ·show x.clock+1≤_
  omega
 ·have:=hx.bclk
  show x.base.getD x.id 0≤x.clock+1
  omega
 ·show q.when.getD x.id 0≤x.clock+1
  rcases List.mem_append.1 hq with hq|hq
  ·have:=hx.dots q hq hp
   omega
  ·obtain⟨o,ho,rfl⟩:=List.mem_map.1 hq
   show(comP x at' ops).when.getD x.id 0≤_
   omega
 ·rcases List.mem_append.1 hq with hq|hq
  ·exact hx.put q hq
  ·obtain⟨o,ho,rfl⟩:=List.mem_map.1 hq
   exact⟨oneC_fine rfl rfl ho h3,hwl⟩
 ·obtain⟨y,hy,rfl⟩:=List.mem_map.1 hs
  have hy2:=hx.snd y hy
  unfold sndC
  split
  ·refine⟨hy2.1,?_,hy2.2.2.1,by omega,by omega⟩
   show y.t≤x.clock+1
   omega
  ·refine⟨hy2.1,?_,?_,?_,?_⟩
   ·show(comP x at' ops).when.getD (x.id:Int).toNat 0≤x.clock+1
    rw[Int.toNat_natCast,hw]
    exact Int.le_refl _
   ·show 0≤y.q+1
    omega
   ·show y.q+1≤_
    omega
   ·show(y.l++_).length≤_
    simp
    omega
 ·obtain⟨y,hy,rfl⟩:=List.mem_map.1 hs
  have:=hx.way y hy
  unfold sndC
  split <;> exact this
 ·obtain⟨y,hy,rfl⟩:=List.mem_map.1 hs
  unfold sndC at hz
  split at hz
  ·exact hx.fit y hy z hz
  ·rcases List.mem_append.1 hz with hz|hz
   ·exact hx.fit y hy z hz
   ·obtain rfl:=List.mem_singleton.1 hz
    refine⟨?_,?_,fun o ho=>?_⟩
    ·show(comP x at' ops).when.length≤_
     omega
    ·have h5:(partC x.shards (comP x at' ops) y.sh).ops.length≤(comP x at' ops).ops.length:=List.length_filter_le _ _
     have h6:=hr.o2
     show(partC x.shards (comP x at' ops) y.sh).ops.length≤_
     omega
    ·exact renum_dots hd o (List.mem_filter.1 ho).1
 ·have h5:=hx.few
  have h6:=hr.o2
  show((x.L++putsOf (comP x at' ops) (comP x at' ops).ops).length:Int)≤12*(x.clock+1+(x.rs.map (·.q)).sum)
  simp only[List.length_append,putsOf,List.length_map]
  omega
end Go.Proofs.YtmkapocibaojdaaGreatDoor
end
section
namespace Go.Proofs.YtmkapocibaojdaaGreatDoor
open Go Go.Sx
set_option maxHeartbeats 4000000 in
theorem sagain {w0:World} {S:Nat→Prop} {M:List Nat} {b:Nat} {fm to sh q t:Int} {a:Option Addr} {k cc:Nat} {L:List MsgT}
  (hP:Pre w0 S M [cObj b (sCells fm to sh q t (.slice a k cc)),cAcc (.slice a k cc) 62 9 (L.map eMsg)]) (hL:L.length≤1000000) (hf:∀x∈L,Fit x) :
  Calls Tryz.prog 97 #[.pointer (some ⟨b,0,none⟩)] w0 fun e w'=>∃a' c',
   Ret M w0 S w' e (.slice a' L.length c') [cObj b (sCells fm to sh q t (.slice a k cc)),cAcc (.slice a k cc) 62 9 (L.map eMsg)] [(.slice a' L.length c',.sl 9 (L.map eMsg))]:=by
 refine enG Tryz.func97 bd97 (args:=[.pointer (some ⟨b,0,none⟩)]) (S:=S) (C:=[cObj b (sCells fm to sh q t (.slice a k cc)),cAcc (.slice a k cc) 62 9 (L.map eMsg)]) (G:=[]) (by kernel_rfl) hP (.nil _ _) ?_
 refine J_show 0 rfl ?_
 refine J_stpx (stp_acclen 0 rfl) fun _ hk=>?_
 rw[List.length_map]at hk
 subst hk
 refine J_stp (stp_accm eMsg 62 9) ?_
 try simp only[aQ]
 refine J_seq ?_
 try simp only[aQ]
 refine Za [zR 0] [] [zS 2 none 0 0] ?_
 try simp only[aQ]
 refine J_seq ?_
 try simp only[aQ]
 refine Za [zR 0] [] [zS 3 none 0 0] ?_
 try simp only[aQ]
 refine J_seq ?_
 try simp only[aQ]
 refine J_seq ?_
 try simp only[aQ]
 refine Za (Rds 0 3++[.rd 3 [.o 0 none] 0 0,zR 4,zR 5]) [0] [zS 9 a L.length cc,zI 10 (↑L.length:Int),zI 11 0] ?_
 try simp only[aQ]
 refine J_block ?_
 try simp only[aQ]
 refine J_loopx (fun x:AccI=>[zS 2 none 0 0,zS 3 x.a x.k x.c,zS 9 a L.length cc,zI 10 L.length,zI 11 x.i]) (fun x:AccI=>[(b,.cells #[nI fm,nI to,nI sh,nI q,nI t,.slice a L.length cc] 224 (0,0))]) (fun x:AccI=>[cAcc (.slice a L.length cc) 62 9 (L.map eMsg),cAcc (.slice x.a x.k x.c) 62 9 ((List.take x.i.toNat L).map eMsg)]) (fun x:AccI=>[]) (fun x:AccI=>(L.length - x.i).toNat) (fun x:AccI=>(0≤x.i∧x.i≤L.length)) ⟨0,none,0,0⟩ [2,3,9,10,11] [0] [0,1] [] ?_ (by kernel_rfl) rfl rfl rfl ?_
 ·exact⟨by simp,by simp⟩
 rintro⟨i,av,k,cv⟩ ⟨hi0,hi⟩
 dsimp only at hi0 hi ⊢
 refine J_stpx (stp_acclen 1 rfl) fun _ hk=>?_
 have hk2:k≤L.length:=by simp at hk;omega
 refine Zs [zR 0] [] [zB 12 (decide (i<(↑L.length:Int)))] ?_
 refine J_seq ?_
 refine cC (t:=decide (i<(↑L.length:Int))) (fun hlt=>?_) (fun hlt=>?_)
 ·have hlt2:i<L.length:=by simpa using hlt
  obtain⟨x,hx⟩:∃x,L[i.toNat]?=some x:=⟨_,List.getElem?_eq_getElem (by omega)⟩
  obtain⟨f1,f2,f3⟩:=hf x (List.mem_of_getElem? hx)
  refine J_openacc 0 rfl (by intro h0;rw[List.map_eq_nil_iff]at h0;rw[h0]at hx;simp at hx) fun g cur xs hu _ _ hrow=>?_
  subst hu
  refine J_stpx (stp_readrows 1 rfl i.toNat (map_at hx)) fun ls hls=>?_
  obtain⟨hls1,hls2⟩:=hls
  obtain⟨⟨xa,xc⟩,⟨ya,yc⟩,rfl⟩:∃l0 l1,ls=[l0,l1]:=len2 hls1
  have f:=fun(j:Nat) v h=>hrow.atx (hls2 j v h)
  have r0:cur[0+i.toNat*9]?=some (.int .i64 x.fm):=by rw[Nat.zero_add];exact f 0 _ rfl
  have r1:cur[0+i.toNat*9+1]?=some (.int .i64 x.to):=by rw[Nat.zero_add];exact f 1 _ rfl
  have r2:cur[0+i.toNat*9+2]?=some (.int .i64 x.shard):=by rw[Nat.zero_add];exact f 2 _ rfl
  have r3:cur[0+i.toNat*9+3]?=some (.int .i64 x.seq):=by rw[Nat.zero_add];exact f 3 _ rfl
  have r4:cur[0+i.toNat*9+4]?=some (.int .i64 x.time):=by rw[Nat.zero_add];exact f 4 _ rfl
  have r5:cur[0+i.toNat*9+5]?=some (.bool x.beat):=by rw[Nat.zero_add];exact f 5 _ rfl
  have r6:cur[0+i.toNat*9+6]?=some (.slice xa (x.c.when.map eI).length xc):=by rw[Nat.zero_add];exact f 6 _ rfl
  have r7:cur[0+i.toNat*9+7]?=some (.int .i64 x.c.place):=by rw[Nat.zero_add];exact f 7 _ rfl
  have r8:cur[0+i.toNat*9+8]?=some (.slice ya (x.c.ops.map eOp).length yc):=by rw[Nat.zero_add];exact f 8 _ rfl
  try simp only[aQ]
  refine J_skip ?_
  try simp only[aQ]
  refine J_seq ?_
  try simp only[aQ]
  refine J_block ?_
  try simp only[aQ]
  refine J_seq ?_
  try simp only[aQ]
  refine Zn [.rd 0 [] 0 2,.rd 1 [.o 1 (some (nI x.fm)),.o 1 (some (nI x.to)),.o 1 (some (nI x.shard)),.o 1 (some (nI x.seq)),.o 1 (some (nI x.time)),.o 1 (some (.bool x.beat)),.o 1 (some (.slice xa ((List.map eI x.c.when).length) xc)),.o 1 (some (nI x.c.place)),.o 1 (some (.slice ya ((List.map eOp x.c.ops).length) yc))] 0 0,.wr 2 [] 0,.wr 3 (hnO 2 9) 0] [(3,[])] [12] (fun nu1=>[zP 5 (nu1 0)]) o0 (fun nu1=>[(nu1 0,.cells #[nI x.fm,nI x.to,nI x.shard,nI x.seq,nI x.time,.bool x.beat,.slice xa ((List.map eI x.c.when).length) xc,nI x.c.place,.slice ya ((List.map eOp x.c.ops).length) yc] 62 (0,0))]) (fun nu1=>(oC hi0 (oC hlt2 (oC r0 (oC r1 (oC r2 (oC r3 (oC r4 (oC r5 (oC r6 (oC r7 (oC r8 oN)))))))))))) (fun nu1=>?_)
  try simp only[aQ]
  refine jT [(0,true),(1,true),(2,false),(3,false),(4,false),(5,true)] [] ?_
  refine Ya [zR 0,.rd 1 (hnO 2 9) 0 0] [] [zS 15 av k cv,zV 16 (.agg #[nI x.fm,nI x.to,nI x.shard,nI x.seq,nI x.time,.bool x.beat,.slice xa ((List.map eI x.c.when).length) xc,nI x.c.place,.slice ya ((List.map eOp x.c.ops).length) yc])] ?_
  refine Yc 153 #[.agg #[nI x.fm,nI x.to,nI x.shard,nI x.seq,nI x.time,.bool x.beat,.slice xa ((List.map eI x.c.when).length) xc,nI x.c.place,.slice ya ((List.map eOp x.c.ops).length) yc]] (some 17) fun w S hG=>?_
  refine(sOwn (m:=x) (hG.at 0 rfl) (hG.at 1 rfl) f1 f2 f3).mono ?_
  rintro e1 w1 ⟨u1,d1,u2,d2,hR⟩
  refine⟨_,_,_,hR,?_⟩
  try simp only[aQ]
  refine Ym [.wr 3 [] 0] [17,16] (fun nu2=>[zS 18 (sA (nu2 0) 0) 1 1]) o0 (fun nu2=>[(nu2 0,.cells #[nI x.fm,nI x.to,nI x.shard,nI x.seq,nI x.time,.bool x.beat,.slice u1 ((List.map eI x.c.when).length) d1,nI x.c.place,.slice u2 ((List.map eOp x.c.ops).length) d2] 62 (0,0))]) [] (fun nu2=>?_)
  try simp only[aQ]
  refine JR_appm 0 56 62 9 104 (.agg #[.int .i64 0,.int .i64 0,.int .i64 0,.int .i64 0,.int .i64 0,.bool false,.slice none 0 0,.int .i64 0,.slice none 0 0]) (a0:=av) (len:=k) (cap0:=cv) (ax:=(some (⟨nu2 0,0,none⟩))) (m:=1) (c:=1) (dst:=(some 19)) [x] (by kernel_rfl) (by kernel_rfl) (by kernel_rfl) (by kernel_rfl) rfl (by decide) rfl (fun _ _ _ s=>src_one s 3 rfl rfl ⟨.inl ⟨rfl,rfl⟩,⟨.inl ⟨rfl,rfl⟩,⟨.inl ⟨rfl,rfl⟩,⟨.inl ⟨rfl,rfl⟩,⟨.inl ⟨rfl,rfl⟩,⟨.inl ⟨rfl,rfl⟩,⟨.inr (.inl (List.mem_of_getElem? (i:=2) rfl)),⟨.inl ⟨rfl,rfl⟩,⟨.inr (.inl (List.mem_of_getElem? (i:=3) rfl)),trivial⟩⟩⟩⟩⟩⟩⟩⟩⟩) (by simp only[maxLen];omega) (by omega) (fun av1 cv1=>?_)
  try simp only[aQ]
  refine Ya [zR 5] [19,18,15] [zS 3 av1 (k+1) cv1] ?_
  try simp only[aQ]
  refine JR_end ?_
  try simp only[aQ]
  refine J_eb ?_
  try simp only[aQ]
  refine J_hide 1 rfl ?_
  refine J_stp (stp_closeacc 2 0 rfl rfl hrow (by decide)) ?_
  rw[show(List.map eMsg L).length=L.length from List.length_map ..]
  try simp only[aQ]
  refine Zp [.rd 0 [] 0 1,zR 1] [] [zI 11 (i+1)] (oC (show IntKind.i64.wrap (i+1)=i+1 from wrap_i64 (by omega) (by omega)) oN) ?_
  try simp only[aQ]
  rw[take_snoc hi0 hx]
  refine J_backx ⟨i+1,av1,k+1,cv1⟩ [2,3,9,10,11] [0] [1,0] [] ?_ ?_ (by kernel_rfl) rfl rfl rfl
  ·exact⟨by simp only;omega,by simp only;omega⟩
  ·simp only
   omega
 ·refine J_exit rfl ?_
  refine Zs [zR 0,zR 1] [12,3,9,10,11] [zS 2 av k cv] ?_
  refine Yr [[]] (.slice av k cv) fun a w s=>?_
  have e:List.take i.toNat L=L:=List.take_of_length_le (by simp at hlt;omega)
  rw[e]at hk s
  rw[List.length_map]at hk
  subst hk
  have s2:=(s.stp (stp_freeze 1 rfl)).hide 0 rfl
  exact⟨_,_,s2.ret (by simp) [1,0] [0] rfl rfl⟩
end Go.Proofs.YtmkapocibaojdaaGreatDoor
end
section
namespace Go.Proofs.YtmkapocibaojdaaGreatDoor
open Go Go.Sx
set_option maxHeartbeats 4000000 in
theorem rSeq {w0:World} {S:Nat→Prop} {M:List Nat} {b mb:Nat} {fm to sh q t:Int} (hP:Pre w0 S M [cObj b (.cells #[.int .i64 fm,.int .i64 to,.int .i64 sh,.int .i64 q,.int .i64 t,.map (some mb)] 227 (0,0))]) :
  Calls Tryz.prog 93 #[.pointer (some ⟨b,0,none⟩)] w0 fun e w'=>Ret M w0 S w' e (.int .i64 q) [cObj b (.cells #[.int .i64 fm,.int .i64 to,.int .i64 sh,.int .i64 q,.int .i64 t,.map (some mb)] 227 (0,0))] []:=by
 refine enG Tryz.func93 bd93 (args:=[.pointer (some ⟨b,0,none⟩)]) (S:=S) (C:=[cObj b (.cells #[.int .i64 fm,.int .i64 to,.int .i64 sh,.int .i64 q,.int .i64 t,.map (some mb)] 227 (0,0))]) (G:=[]) (by kernel_rfl) hP (.nil _ _) ?_
 refine J_show 0 rfl ?_
 refine Zs [zR 0] [] [zI 2 0] ?_
 refine Zs (Rds 0 3++[.rd 3 [.o 0 none] 0 0,zR 4]) [0] [zI 2 q] ?_
 refine Yr [[]] (nI q) fun a w s=>?_
 exact(s.hide 0 rfl).ret (by simp) [0] [] rfl rfl
end Go.Proofs.YtmkapocibaojdaaGreatDoor
end
section
namespace Go.Proofs.YtmkapocibaojdaaGreatDoor
open Go Go.Sx
section snds
variable {w:World} {S:Nat→Prop} {M:List Nat} {er:Nat→Addr} {eb:Nat→Array Value×TypeId} {bs:List Nat} {ss:List SndT} {rs:List RcvT} {p b:Nat}
theorem sndBeat {y:SndT} {time:Int} (hC:Rep w S .nilIface (dC er eb)) (hP:Pre w S M [cSnds bs ss]) (hb:bs[p]?=some b) (hy:ss[p]?=some y) (hq0:0≤y.q) (hq1:y.q<1000000) (hL:y.l.length<1000000) (hf:beatErr y.t time=0) :
  Calls Tryz.prog 90 #[.pointer (some ⟨b,0,none⟩),.int .i64 time] w fun e w'=>∃u1 d1 u2 d2,
   Ret M w S w' e (.tuple #[mAgg (SndT.beatM y time) (.slice u1 0 d1) (.slice u2 0 d2),.nilIface]) [cSnds bs (ss.set p (SndT.beat y time))] [(.slice u1 0 d1,dInts []),(.slice u2 0 d2,.sl 7 (([]:List OpT).map eOp))]:=by
 obtain⟨M1,hP1,hback⟩:=hP.take (zip_map_at hb hy)
 obtain⟨v,_,_,hP2⟩:=hP1.open1
 refine(sbeat hC hP2 hq0 hq1 hL).mono ?_
 rintro e w' (⟨h,_⟩|⟨_,a',k',c',u1,d1,u2,d2,hR⟩)
 ·exact absurd hf h
 ·refine⟨u1,d1,u2,d2,?_⟩
  have h3:Ret M1 w S w' e _ [cSnd (b,SndT.beat y time)] _:=hR.close1g (a',k',c') trivial fun _ h=>by cases h
  rw[cSnds,←zip_put (f:=cSnd) hb]
  exact hback h3
theorem sndAck {y:SndT} {seq:Int} (hC:Rep w S .nilIface (dC er eb)) (hP:Pre w S M [cSnds bs ss]) (hb:bs[p]?=some b) (hy:ss[p]?=some y) (hL:y.l.length≤1000000) :
  Calls Tryz.prog 91 #[.pointer (some ⟨b,0,none⟩),.int .i64 seq] w fun e w'=>∃v,Ret M w S w' e v [cSnds bs (ss.set p (SndT.ack y seq))] []∧ErrIs 390 er (ackErr y.q seq) v:=by
 obtain⟨M1,hP1,hback⟩:=hP.take (zip_map_at hb hy)
 obtain⟨v,_,_,hP2⟩:=hP1.open1
 refine(sacked hC hP2 hL).mono ?_
 rintro e w' ⟨a',k',c',v,hR,hv⟩
 refine⟨v,?_,hv⟩
 have h3:Ret M1 w S w' e _ [cSnd (b,SndT.ack y seq)] _:=hR.close1g (a',k',c') trivial fun _ h=>by cases h
 rw[cSnds,←zip_put (f:=cSnd) hb]
 exact hback h3
theorem sndAgain {y:SndT} (hP:Pre w S M [cSnds bs ss]) (hb:bs[p]?=some b) (hy:ss[p]?=some y) (hL:y.l.length≤1000000) (hf:∀x∈y.l,Fit x) :
  Calls Tryz.prog 97 #[.pointer (some ⟨b,0,none⟩)] w fun e w'=>∃a' c',Ret M w S w' e (.slice a' y.l.length c') [cSnds bs ss] [(.slice a' y.l.length c',.sl 9 (y.l.map eMsg))]:=by
 obtain⟨M1,hP1,hback⟩:=hP.take (zip_map_at hb hy)
 obtain⟨v,_,_,hP2⟩:=hP1.open1
 refine(sagain hP2 hL hf).mono ?_
 rintro e w' ⟨a',c',hR⟩
 refine⟨a',c',?_⟩
 have h3:Ret M1 w S w' e _ [cSnd (b,y)] _:=hR.close1g v trivial fun _ h=>by cases h
 have h4:=hback h3
 rwa[zip_put (f:=cSnd) hb,set_same hy]at h4
theorem rcvHear {y:RcvT} {m:MsgT} {a1 a2:Option Addr} {n1 c1 n2 c2:Nat} (hC:Rep w S .nilIface (dC er eb)) (hP:Pre w S M [cRcvs bs rs]) (hb:bs[p]?=some b) (hy:rs[p]?=some y) (hd:Dist y.l) (h1:Rep w S (.slice a1 n1 c1) (dInts m.c.when)) (h2:Rep w S (.slice a2 n2 c2) (.sl 7 (m.c.ops.map eOp))) (hl1:m.c.when.length≤1000000) (hl2:m.c.ops.length≤1000000) (hl3:∀o∈m.c.ops,o.dots.length≤1000000)
  (hq0:0≤y.q) (hq1:y.q+y.l.length<1000000) (hms:-9223372036854775808≤m.seq∧m.seq≤9223372036854775807) :
  Calls Tryz.prog 92 #[.pointer (some ⟨b,0,none⟩),mAgg m (.slice a1 n1 c1) (.slice a2 n2 c2)] w fun e w'=>∃a' n' c' v,
   Ret M w S w' e (.tuple #[.slice a' n' c',v]) [cRcvs bs (rs.set p (RcvT.heard y m))] [(.slice a' n' c',.sl 9 ((RcvT.hear y m).2.1.map eMsg))]∧ErrIs 390 er (RcvT.hear y m).1 v:=by
 obtain⟨M1,hP1,hback⟩:=hP.take (zip_map_at hb hy)
 obtain⟨mb,_,_,hP2⟩:=hP1.open1
 refine(hear (m:=m) hC hP2 hd h1 h2 hl1 hl2 hl3 hq0 hq1 hms).mono ?_
 rintro e w' ⟨a',n',c',v,hR,hv⟩
 refine⟨a',n',c',v,?_,hv⟩
 have h3:Ret M1 w S w' e _ [cRcv (b,RcvT.heard y m)] _:=hR.close1g mb trivial fun _ h=>by cases h
 rw[cRcvs,←zip_put (f:=cRcv) hb]
 exact hback h3
theorem rcvSeq {y:RcvT} (hP:Pre w S M [cRcvs bs rs]) (hb:bs[p]?=some b) (hy:rs[p]?=some y) :
  Calls Tryz.prog 93 #[.pointer (some ⟨b,0,none⟩)] w fun e w'=>Ret M w S w' e (.int .i64 y.q) [cRcvs bs rs] []:=by
 obtain⟨M1,hP1,hback⟩:=hP.take (zip_map_at hb hy)
 obtain⟨mb,_,_,hP2⟩:=hP1.open1
 obtain⟨M2,hP3,hback2⟩:=hP2.part1
 refine(rSeq hP3).mono ?_
 rintro e w' hR
 have h3:Ret M1 w S w' e _ [cRcv (b,y)] _:=(hback2 hR).close1g mb trivial fun _ h=>by cases h
 have h4:=hback h3
 rwa[zip_put (f:=cRcv) hb,set_same hy]at h4
end snds
end Go.Proofs.YtmkapocibaojdaaGreatDoor
end
section
namespace Go.Proofs.YtmkapocibaojdaaGreatDoor
open Go Go.Sx
theorem putMs_snoc {p:Nat} {base:List Int} {fm:Int} {L:List PutT} {l:List MsgT} {m:MsgT}:putMs p base fm L (l++[m])=if m.beat=false∧m.c.place=fm then putL p base (putMs p base fm L l) m.c else putMs p base fm L l:=by
 rw[putMs,List.foldl_append]
 rfl
theorem ver_put {x:PlT} {n:Nat} (hx:PlIn x n) (hn:n≤600) (fm:Int) {l:List MsgT} (hl:l.length≤700):VerI x.places x.base (putMs x.places x.base fm x.L l):=by
 have h1:=putMs_len x.places x.base fm l x.L
 have h2:=hx.len
 refine⟨hx.base,hx.basel,by omega,fun q hq=>?_⟩
 rcases putMs_mem hq with hq|⟨z,_,_,_,h1,h2,h3,h4,h5⟩
 ·exact hx.put q hq
 ·exact⟨oneC_fine h1 h2 h3 h4,by rw[h2];exact h5⟩
theorem PlIn.rsl {x:PlT} {n:Nat} (h:PlIn x n):x.rs.length=posP x.id x.shards x.places:=by
 have h3:=congrArg List.length h.rs
 rwa[List.length_map]at h3
theorem heard_same {y:RcvT} {m:MsgT} (h:(RcvT.hear y m).1≠0):RcvT.heard y m=y:=by
 obtain⟨_,h2⟩:=hearT_same h
 simp[RcvT.heard,RcvT.hear,h2]
set_option maxHeartbeats 8000000 in
theorem placeHear {w:World} {S:Nat→Prop} {M:List Nat} {er:Nat→Addr} {eb:Nat→Array Value×TypeId} {x:PlT} {b n n1 c1 n2 c2:Nat} {a1 a2:Option Addr} {m:MsgT} (hC:Rep w S .nilIface (dC er eb)) (hP:Pre w S M [cPlace b x]) (hx:PlIn x n) (hn:n<600) (h1:Rep w S (.slice a1 n1 c1) (dInts m.c.when)) (h2:Rep w S (.slice a2 n2 c2) (.sl 7 (m.c.ops.map eOp))) (hm:Fit m) (hms:-9223372036854775808≤m.seq∧m.seq≤9223372036854775807) :
  Calls Tryz.prog 24 #[.pointer (some ⟨b,0,none⟩),mAgg m (.slice a1 n1 c1) (.slice a2 n2 c2)] w fun e w'=>∃ua un uc v,
   Ret M w S w' e (.tuple #[.slice ua un uc,v]) [cPlace b (hearPl x m).2.2] [(.slice ua un uc,.sl 9 ((hearPl x m).2.1.map eMsg))]∧ErrIs 390 er (hearPl x m).1 v:=by
 refine enG Tryz.func24 bd24 (args:=[.pointer (some ⟨b,0,none⟩),mAgg m (.slice a1 n1 c1) (.slice a2 n2 c2)]) (S:=S) (C:=[cPlace b x]) (G:=[(_,dC er eb),(_,dInts m.c.when),(_,.sl 7 (m.c.ops.map eOp))]) (by kernel_rfl) hP (.cons hC (.cons h1 (.cons h2 (.nil _ _)))) ?_
 refine J_stpx (stp_openbox 0 rfl) fun y hy=>?_
 obtain⟨vb,oa,oc,ia,ic,om,im⟩:=y
 refine J_stp (stp_all 0 [1,2] rfl rfl) ?_
 refine J_glob 5 rfl (fun csg1 tyg1 fzg1 hglob1=>?_)
 refine J_glob 6 rfl (fun csg2 tyg2 fzg2 hglob2=>?_)
 refine Nm [cObj b (.cells #[.pointer (sA vb 0),nI (↑x.id:Int),nI (↑x.places:Int),nI (↑x.shards:Int),nI x.clock,.slice (PlBx.mk vb oa oc ia ic om im).oa x.places oc,.slice (PlBx.mk vb oa oc ia ic om im).ia x.places ic] 124 (0,0)),(cVer (PlBx.mk vb oa oc ia ic om im).vb x.places x.base x.L),(cSnds (PlBx.mk vb oa oc ia ic om im).om.flatten x.ss),(cRcvs (PlBx.mk vb oa oc ia ic om im).im.flatten x.rs)] ?_
 refine J_show 0 rfl ?_
 refine J_stp (stp_fact (v:=.slice none 0 0) (d:=.sl 9 (([]:List MsgT).map eMsg)) fun _ _ _=>.nil) ?_
 refine Nm [(cVer (PlBx.mk vb oa oc ia ic om im).vb x.places x.base x.L),(cSnds (PlBx.mk vb oa oc ia ic om im).om.flatten x.ss),(cRcvs (PlBx.mk vb oa oc ia ic om im).im.flatten x.rs)] ?_
 have hp6:=hx.p6
 have hs6:=hx.s6
 try simp only[aQ]
 refine Zv [.wr 0 [] 0,zR 1,zR 2] [] [1] (fun nu1=>[zP 3 (nu1 0),zS 4 none 0 0,zV 5 .nilIface]) o0 (fun nu1=>[(nu1 0,.cells #[nI m.fm,nI m.to,nI m.shard,nI m.seq,nI m.time,.bool m.beat,.slice a1 n1 c1,nI m.c.place,.slice a2 n2 c2] 62 (0,0))]) (fun nu1=>?_)
 refine J_seq (J_block ?_)
 refine Zs [zR 0,.rd 1 [.o 1 none] 0 0,zR 2,zR 3,.rd 4 [] 2 0,.rd 5 [.o 1 none] 2 0,.rd 6 [] 2 0,.rd 7 [] 2 0,.rd 8 [] 2 0,.rd 9 [.o 0 none] 2 0,.rd 10 [] 2 0,.rd 11 [] 0 3,zR 12,.rd 13 [] 2 0,.rd 14 [.o 1 none] 2 0,.rd 15 [] 2 0,.rd 16 [] 0 3,zR 17,.rd 18 [] 2 0,.rd 19 [.o 1 none] 2 0,.rd 20 [] 2 0,.rd 21 [] 2 0,.rd 22 [] 2 0,.rd 23 [.o 0 none] 2 0,.rd 24 [] 2 0,.rd 25 [] 0 3,zR 26,.rd 27 [] 2 0,.rd 28 [.o 1 none] 2 0,.rd 29 [] 2 0,.rd 30 [] 2 0,.rd 31 [] 2 0,.rd 32 [.o 0 none] 2 0,.rd 33 [] 2 0,.rd 34 [] 0 3,zR 35] [] [zB 11 (decide (m.fm<0)||decide (m.fm≥(↑x.places:Int))||decide (m.shard<0)||decide (m.shard≥(↑x.shards:Int))||m.fm==(↑x.id:Int))] ?_
 refine cC (t:=decide (m.fm<0)||decide (m.fm≥(↑x.places:Int))||decide (m.shard<0)||decide (m.shard≥(↑x.shards:Int))||m.fm==(↑x.id:Int)) (fun hb=>?_) (fun hb=>?_)
 ·have hw:hearWay x m=2:=by rw[hearWay,if_pos (by simp at hb;omega)]
  have hE:hearPl x m=(2,[],x):=by rw[hearPl,if_pos (by rw[hw];decide),hw]
  rw[hE]
  refine Zt [.rd 0 [.r 0 (some (.iface 390 (.pointer (some (er 2)))))] 0 0,zR 1,zR 2] [11] [zV 5 (.iface 390 (.pointer (some (er 2))))] (oC hglob1 oN) ?_
  refine Yr [[],[]] (.tuple #[.slice none 0 0,.iface 390 (.pointer (some (er 2)))]) fun a w s=>?_
  have s2:=(s.hide 0 rfl).stp (stp_closePl (x:=x) ⟨vb,oa,oc,ia,ic,om,im⟩ [3,0,1,2] 3 4 rfl rfl rfl hy)
  exact⟨_,_,_,_,s2.ret (by simp) [0] [7] rfl rfl,.inr ⟨Nat.succ_ne_zero _,rfl⟩⟩
 have hb2:¬(m.fm<0∨x.places≤m.fm∨m.shard<0∨x.shards≤m.shard∨m.fm=x.id):=by simp at hb;omega
 refine Zs ([zR 0,.rd 1 [.o 1 none] 0 0]++Rds 2 5++[.rd 5 [.o 0 none] 0 0,zR 6,zR 7]) [11] [zB 48 (m.to != (↑x.id:Int))] ?_
 refine cC (t:=m.to != (↑x.id:Int)) (fun hto=>?_) (fun hto=>?_)
 ·have hw:hearWay x m=3:=by rw[hearWay,if_neg hb2,if_pos (by simpa using hto)]
  have hE:hearPl x m=(3,[],x):=by rw[hearPl,if_pos (by rw[hw];decide),hw]
  rw[hE]
  refine Zt [.rd 0 [.r 1 (some (.iface 390 (.pointer (some (er 3)))))] 0 0,zR 1,zR 2] [48] [zV 5 (.iface 390 (.pointer (some (er 3))))] (oC hglob2 oN) ?_
  refine Yr [[],[]] (.tuple #[.slice none 0 0,.iface 390 (.pointer (some (er 3)))]) fun a w s=>?_
  have s2:=(s.hide 0 rfl).stp (stp_closePl (x:=x) ⟨vb,oa,oc,ia,ic,om,im⟩ [3,0,1,2] 3 4 rfl rfl rfl hy)
  exact⟨_,_,_,_,s2.ret (by simp) [0] [7] rfl rfl,.inr ⟨Nat.succ_ne_zero _,rfl⟩⟩
 have hw:hearWay x m=0:=by rw[hearWay,if_neg hb2,if_neg (by simpa using hto)]
 have hne:m.fm.toNat≠x.id:=by omega
 obtain⟨r,hr⟩:∃r,om[m.fm.toNat]?=some r:=⟨_,List.getElem?_eq_getElem (by rw[hy.om.len];show m.fm.toNat<x.places;omega)⟩
 have hrl:=hy.om.row hr
 rw[if_neg hne]at hrl
 obtain⟨bb,hbb⟩:∃bb,r[m.shard.toNat]?=some bb:=⟨_,List.getElem?_eq_getElem (by omega)⟩
 have hbf:=hy.om.at hr hbb
 obtain⟨r2,hr2⟩:∃r,im[m.fm.toNat]?=some r:=⟨_,List.getElem?_eq_getElem (by rw[hy.im.len];show m.fm.toNat<x.places;omega)⟩
 have hrl2:=hy.im.row hr2
 rw[if_neg hne]at hrl2
 obtain⟨bb2,hbb2⟩:∃bb,r2[m.shard.toNat]?=some bb:=⟨_,List.getElem?_eq_getElem (by omega)⟩
 have hbf2:=hy.im.at hr2 hbb2
 obtain⟨y0,hy0⟩:∃y0,x.ss[posM x m]?=some y0:=by
  have h4:=(List.getElem?_eq_some_iff.1 hbf).1
  rw[hy.om.flen]at h4
  exact⟨_,List.getElem?_eq_getElem (by rw[hx.ssl.1];exact h4)⟩
 obtain⟨z0,hz0⟩:∃z0,x.rs[posM x m]?=some z0:=by
  have h4:=(List.getElem?_eq_some_iff.1 hbf2).1
  rw[hy.im.flen]at h4
  exact⟨_,List.getElem?_eq_getElem (by rw[hx.rsl];exact h4)⟩
 refine Zs [zR 0,.rd 1 [.o 1 none] 0 0,zR 2,zR 3] [48] [zB 57 (m.time == -1)] ?_
 refine cC (t:=m.time == -1) (fun ht=>?_) (fun ht=>?_)
 ·have hE:hearPl x m=(ackErr y0.q m.seq,[],{ x with ss:=x.ss.set (posM x m) (SndT.ack y0 m.seq) }):=by rw[hearPl,if_neg (by rw[hw];decide),if_pos (by simpa using ht),hy0]
  rw[hE]
  have hy2:BxOk { x with ss:=x.ss.set (posM x m) (SndT.ack y0 m.seq) } ⟨vb,oa,oc,ia,ic,om,im⟩:=⟨hy.om,hy.im⟩
  refine J_read1 3 rfl m.fm.toNat (map_at hr) (by kernel_rfl) (fun b1 off1 cs1 ty1 fz1 a1_0 c1_0 ha1 hrd1=>?_)
  cases ha1
  have hrd1_0:=rd0 (hrd1 0 _ rfl)
  have hrn:(List.map eP r).length=r.length:=List.length_map ..
  refine J_read0 8 rfl m.shard.toNat (map_at hbb) (by kernel_rfl) (fun b2 off2 cs2 ty2 fz2 ha2 hrd2=>?_)
  cases ha2
  have hrd2_0:=rd0 (hrd2 0 _ rfl)
  refine Nm [(cVer vb x.places x.base x.L),(cSnds om.flatten x.ss),(cRcvs im.flatten x.rs)] ?_
  try simp only[aQ]
  refine jS [(0,true),(1,true),(2,true),(3,true),(4,true),(5,true),(6,true),(7,true),(8,true),(9,true),(10,true),(11,true),(12,true),(13,true),(14,false),(15,true),(16,true)] [(14,[]),(15,[]),(16,[])] ?_
  refine Yp (Rds 0 3++[.rd 3 [.o 0 none] 0 0,zR 4,.rd 5 [.o 1 none] 0 0,.rd 6 [] 0 2,.rd 7 [.r 2 (some (.slice (sA b2 off2) ((List.map eP r).length) c1_0))] 0 0,zR 8,.rd 9 [.o 1 none] 0 0,.rd 10 [] 0 2,.rd 11 [.r 3 (some (.pointer (sA bb 0)))] 0 0,zR 12,.rd 13 [.o 1 none] 0 0]) [57] [zP 72 bb,zI 74 m.seq] (oC (show 0≤m.fm from by omega) (oC (show m.fm<(↑x.places:Int) from by omega) (oC hrd1_0 (oC (show 0≤m.shard from by omega) (oC (show m.shard<(↑(List.map eP r).length:Int) from by omega) (oC hrd2_0 oN)))))) ?_
  refine JR_call [] [1] 91 #[.pointer (some (⟨bb,0,none⟩)),.int .i64 m.seq] (some 75) (by kernel_rfl) (by kernel_rfl) (by decide) (fun w S M hP hG _=>?_)
  refine(sndAck (hG.at 0 rfl) hP hbf hy0 (by have:=(hx.snd y0 (List.mem_of_getElem? hy0)).2.2.2.2;omega)).mono ?_
  rintro e1 w1 ⟨v,hR,hv⟩
  refine⟨_,_,_,hR,?_⟩
  obtain⟨hk0,rfl⟩|⟨hk0,rfl⟩:=hv
  ·try simp only[aQ]
   refine Ya [zR 15,zR 16] [75,72,74] [] ?_
   try simp only[aQ]
   refine JR_end ?_
   try simp only[aQ]
   refine Yr [[],[]] (.tuple #[.slice none 0 0,.nilIface]) fun a w s=>?_
   have s2:=(s.hide 0 rfl).stp (stp_closePl _ [3,0,2,1] 3 4 rfl rfl rfl hy2)
   exact⟨_,_,_,_,s2.ret (by simp) [0] [7] rfl rfl,.inl ⟨hk0,rfl⟩⟩
  ·try simp only[aQ]
   refine Ya [zR 15,zR 16] [75,72,74] [zV 5 (.iface 390 (.pointer (some (er (ackErr y0.q m.seq)))))] ?_
   try simp only[aQ]
   refine JR_end ?_
   try simp only[aQ]
   refine Yr [[],[]] (.tuple #[.slice none 0 0,.iface 390 (.pointer (some (er (ackErr y0.q m.seq))))]) fun a w s=>?_
   have s2:=(s.hide 0 rfl).stp (stp_closePl _ [3,0,2,1] 3 4 rfl rfl rfl hy2)
   exact⟨_,_,_,_,s2.ret (by simp) [0] [7] rfl rfl,.inr ⟨hk0,rfl⟩⟩
 ·have hE0:hearPl x m=if (RcvT.hear z0 m).1≠0 then ((RcvT.hear z0 m).1,[],x)else (0,[ackM x m (RcvT.heard z0 m).q],{ x with rs:=x.rs.set (posM x m) (RcvT.heard z0 m),L:=putMs x.places x.base m.fm x.L (RcvT.hear z0 m).2.1 }):=by
   rw[hearPl,if_neg (by rw[hw];decide),if_neg (by simpa using ht),hz0]
  have hy3:BxOk { x with rs:=x.rs.set (posM x m) (RcvT.heard z0 m),L:=putMs x.places x.base m.fm x.L (RcvT.hear z0 m).2.1 } ⟨vb,oa,oc,ia,ic,om,im⟩:=⟨hy.om,hy.im⟩
  refine J_read1 4 rfl m.fm.toNat (map_at hr2) (by kernel_rfl) (fun b1 off1 cs1 ty1 fz1 a1_0 c1_0 ha1 hrd1=>?_)
  cases ha1
  have hrd1_0:=rd0 (hrd1 0 _ rfl)
  have hrn:(List.map eP r2).length=r2.length:=List.length_map ..
  refine J_read0 8 rfl m.shard.toNat (map_at hbb2) (by kernel_rfl) (fun b2 off2 cs2 ty2 fz2 ha2 hrd2=>?_)
  cases ha2
  have hrd2_0:=rd0 (hrd2 0 _ rfl)
  refine Nm [(cVer vb x.places x.base x.L),(cSnds om.flatten x.ss),(cRcvs im.flatten x.rs)] ?_
  try simp only[aQ]
  refine J_skip (J_eb ?_)
  refine Zt (Rds 0 3++[.rd 3 [.o 0 none] 0 0,zR 4,.rd 5 [.o 1 none] 0 0,.rd 6 [] 0 2,.rd 7 [.r 2 (some (.slice (sA b2 off2) ((List.map eP r2).length) c1_0))] 0 0,zR 8,.rd 9 [.o 1 none] 0 0,.rd 10 [] 0 2,.rd 11 [.r 3 (some (.pointer (sA bb2 0)))] 0 0,zR 12]) [57] [zP 6 bb2] (oC (show 0≤m.fm from by omega) (oC (show m.fm<(↑x.places:Int) from by omega) (oC hrd1_0 (oC (show 0≤m.shard from by omega) (oC (show m.shard<(↑(List.map eP r2).length:Int) from by omega) (oC hrd2_0 oN)))))) ?_
  refine jS [(0,true),(1,true),(2,false),(3,true),(4,true),(5,true),(6,true),(7,true)] [] ?_
  refine Ya [zR 0,.rd 1 (hnO 1 9) 0 0] [] [zP 89 bb2,zV 90 (.agg #[nI m.fm,nI m.to,nI m.shard,nI m.seq,nI m.time,.bool m.beat,.slice a1 n1 c1,nI m.c.place,.slice a2 n2 c2])] ?_
  refine JR_call [] [2] 92 #[.pointer (some (⟨bb2,0,none⟩)),.agg #[.int .i64 m.fm,.int .i64 m.to,.int .i64 m.shard,.int .i64 m.seq,.int .i64 m.time,.bool m.beat,.slice a1 n1 c1,.int .i64 m.c.place,.slice a2 n2 c2]] (some 91) (by kernel_rfl) (by kernel_rfl) (by decide) (fun w S M hP hG _=>?_)
  have hd:=hx.rcv z0 (List.mem_of_getElem? hz0)
  obtain⟨hm1,hm2,hm3⟩:=hm
  have hh:=hear_ok z0 m
  have hhl:=hh.len
  refine(rcvHear (m:=m) (hG.at 0 rfl) hP hbf2 hz0 hd.2.2 (hG.at 1 rfl) (hG.at 2 rfl) hm1 hm2 hm3 hd.1 (by omega) hms).mono ?_
  rintro e1 w1 ⟨ua,un,uc,v,hR,hv⟩
  refine⟨_,_,_,hR,?_⟩
  obtain⟨hk0,rfl⟩|⟨hk0,rfl⟩:=hv
  case inr=>
   have hE:hearPl x m=((RcvT.hear z0 m).1,[],x):=by rw[hE0,if_pos hk0]
   rw[hE,heard_same hk0,set_same (show x.rs[posP x.id x.shards m.fm.toNat+m.shard.toNat]?=some z0 from hz0)]
   try simp only[aQ]
   refine Ya (Rds 3 8) [91,89,90] [zS 7 ua un uc,zV 8 (.iface 390 (.pointer (some (er (RcvT.hear z0 m).fst))))] ?_
   try simp only[aQ]
   refine JR_end ?_
   try simp only[aQ]
   refine J_seq ?_
   try simp only[aQ]
   refine J_seq ?_
   try simp only[aQ]
   refine Za [zR 0,zR 1] [] [zB 95 true] ?_
   try simp only[aQ]
   refine cTt ?_
   try simp only[aQ]
   refine J_seq ?_
   try simp only[aQ]
   refine Za (Rds 0 3) [95,8] [zV 5 (.iface 390 (.pointer (some (er (RcvT.hear z0 m).fst))))] ?_
   try simp only[aQ]
   refine Yr [[],[]] (.tuple #[.slice none 0 0,.iface 390 (.pointer (some (er (RcvT.hear z0 m).fst)))]) fun a w s=>?_
   have s2:=(s.hide 0 rfl).stp (stp_closePl (x:=x) _ [3,0,1,2] 3 4 rfl rfl rfl hy)
   exact⟨_,_,_,_,s2.ret (by simp) [0] [7] rfl rfl,.inr ⟨hk0,rfl⟩⟩
  have hE:hearPl x m=(0,[ackM x m (RcvT.heard z0 m).q],{ x with rs:=x.rs.set (posM x m) (RcvT.heard z0 m),L:=putMs x.places x.base m.fm x.L (RcvT.hear z0 m).2.1 }):=by rw[hE0,if_neg (by omega)]
  rw[hE]
  try simp only[aQ]
  refine Ya (Rds 3 8) [91,89,90] [zS 7 ua un uc,zV 8 .nilIface] ?_
  try simp only[aQ]
  refine JR_end ?_
  try simp only[aQ]
  refine J_seq ?_
  try simp only[aQ]
  refine J_seq ?_
  try simp only[aQ]
  refine Za [zR 0,zR 1] [] [zB 95 false] ?_
  try simp only[aQ]
  refine cF ?_
  try simp only[aQ]
  refine J_skip ?_
  try simp only[aQ]
  refine J_seq ?_
  try simp only[aQ]
  refine J_seq ?_
  try simp only[aQ]
  refine Za (Rds 0 3) [95,7,8] [zS 97 ua un uc,zI 98 (↑un:Int),zI 99 0] ?_
  try simp only[aQ]
  refine J_block ?_
  try simp only[aQ]
  refine J_stpx (stp_replen 9 rfl) fun _ hun=>?_
  rw[List.length_map]at hun
  subst hun
  rw[show cVer vb x.places x.base x.L=cVer vb x.places x.base (putMs x.places x.base m.fm x.L ((RcvT.hear z0 m).2.1.take (0:Int).toNat))by rw[Int.toNat_zero,List.take_zero];rfl]
  refine J_loopx (fun i:Int=>[zP 0 b,zP 3 (nu1 0),zS 4 none 0 0,zV 5 .nilIface,zP 6 bb2,zS 97 ua ((RcvT.hear z0 m).snd.fst.length) uc,zI 98 ((↑(RcvT.hear z0 m).snd.fst.length:Int)),zI 99 i]) (fun i:Int=>[(b,.cells #[.pointer (sA vb 0),nI (↑x.id:Int),nI (↑x.places:Int),nI (↑x.shards:Int),nI x.clock,.slice oa x.places oc,.slice (sA b1 off1) x.places ic] 124 (0,0)),(nu1 0,.cells #[nI m.fm,nI m.to,nI m.shard,nI m.seq,nI m.time,.bool m.beat,.slice a1 n1 c1,nI m.c.place,.slice a2 n2 c2] 62 (0,0))]) (fun i:Int=>[cVer vb x.places x.base (putMs x.places x.base m.fm x.L ((RcvT.hear z0 m).2.1.take i.toNat)),cSnds om.flatten x.ss,cRcvs im.flatten (x.rs.set (posP x.id x.shards m.fm.toNat+m.shard.toNat) (RcvT.heard z0 m))]) (fun i:Int=>[(.nilIface,(dC er eb)),(.slice a1 n1 c1,(dInts m.c.when)),(.slice a2 n2 c2,(D.sl 7 (List.map eOp m.c.ops))),(.slice oa x.places oc,(dRows om)),(.slice (sA b1 off1) x.places ic,(dRows im)),(.pointer (sA 0 0),(D.ptr [D.v (Value.iface 390 (Value.pointer (some (er 2))))])),(.pointer (sA 1 0),(D.ptr [D.v (Value.iface 390 (Value.pointer (some (er 3))))])),(.slice none 0 0,(D.sl 9 (List.map eMsg []))),(.slice (sA b2 off2) ((List.map eP r2).length) c1_0,(D.sl 1 (List.map eP r2))),(.slice ua ((RcvT.hear z0 m).snd.fst.length) uc,(D.sl 9 (List.map eMsg (RcvT.hear z0 m).snd.fst)))]) (fun i:Int=>((RcvT.hear z0 m).2.1.length - i).toNat) (fun i:Int=>(0≤i∧i≤(RcvT.hear z0 m).2.1.length)) 0 [0,3,4,5,6,97,98,99] [0,1] [0,1,2] [0,1,2,3,4,5,6,7,8,9] ?_ (by kernel_rfl) rfl rfl rfl ?_
  ·exact⟨by omega,by omega⟩
  rintro i ⟨hi0,hi⟩
  refine Zs [zR 0] [] [zB 100 (decide (i<(↑(RcvT.hear z0 m).snd.fst.length:Int)))] ?_
  refine J_seq ?_
  refine cC (t:=decide (i<(↑(RcvT.hear z0 m).snd.fst.length:Int))) (fun hlt=>?_) (fun hlt=>?_)
  ·have hlt2:i<(RcvT.hear z0 m).2.1.length:=by simpa using hlt
   obtain⟨xm,hxm⟩:∃xm,(RcvT.hear z0 m).2.1[i.toNat]?=some xm:=⟨_,List.getElem?_eq_getElem (by omega)⟩
   have hfx:Fit xm:=by
    rcases hh.out xm (List.mem_of_getElem? hxm)with h|⟨rfl,_⟩
    ·exact(hx.kept z0 (List.mem_of_getElem? hz0) xm h).2.2
    ·exact⟨hm1,hm2,hm3⟩
   obtain⟨f1,f2,f3⟩:=hfx
   have htk:(RcvT.hear z0 m).2.1.take (i+1).toNat=(RcvT.hear z0 m).2.1.take i.toNat++[xm]:=by rw[show(i+1).toNat=i.toNat+1 by omega,List.take_add_one,hxm];rfl
   refine J_read2 9 rfl i.toNat (map_at hxm) (by kernel_rfl) (fun b3 off3 cs3 ty3 fz3 a3_0 c3_0 a3_1 c3_1 ha3 hrd3=>?_)
   cases ha3
   have hrd3_0:=rd0 (hrd3 0 _ rfl)
   have hrd3_1:=hrd3 1 _ rfl
   have hrd3_2:=hrd3 2 _ rfl
   have hrd3_3:=hrd3 3 _ rfl
   have hrd3_4:=hrd3 4 _ rfl
   have hrd3_5:=hrd3 5 _ rfl
   have hrd3_6:=hrd3 6 _ rfl
   have hrd3_7:=hrd3 7 _ rfl
   have hrd3_8:=hrd3 8 _ rfl
   try simp only[aQ]
   refine J_skip (J_seq (J_block ?_))
   refine Zu [.rd 0 [] 0 2,.rd 1 [.r 4 (some (nI xm.fm)),.r 4 (some (nI xm.to)),.r 4 (some (nI xm.shard)),.r 4 (some (nI xm.seq)),.r 4 (some (nI xm.time)),.r 4 (some (.bool xm.beat)),.r 4 (some (.slice (a3_0,c3_0).fst ((List.map eI xm.c.when).length) c3_0)),.r 4 (some (nI xm.c.place)),.r 4 (some (.slice (a3_1,c3_1).fst ((List.map eOp xm.c.ops).length) c3_1))] 0 0,.wr 2 [] 0,.wr 3 (hnO 2 9) 0] [(3,[])] [100] (fun nu2=>[zP 10 (nu2 0)]) o0 (fun nu2=>[(nu2 0,.cells #[nI xm.fm,nI xm.to,nI xm.shard,nI xm.seq,nI xm.time,.bool xm.beat,.slice (a3_0,c3_0).fst ((List.map eI xm.c.when).length) c3_0,nI xm.c.place,.slice (a3_1,c3_1).fst ((List.map eOp xm.c.ops).length) c3_1] 62 (0,0))]) (fun nu2=>(oC hi0 (oC hlt2 (oC hrd3_0 (oC hrd3_1 (oC hrd3_2 (oC hrd3_3 (oC hrd3_4 (oC hrd3_5 (oC hrd3_6 (oC hrd3_7 (oC hrd3_8 oN)))))))))))) (fun nu2=>?_)
   refine Zs [zR 0,.rd 1 [.o 2 none] 0 0,zR 2,zR 3,.rd 4 [] 2 0,.rd 5 [] 2 0,.rd 6 [.o 2 none] 2 0,.rd 7 [] 2 0,.rd 8 [.o 1 none] 2 0,.rd 9 [] 2 0,.rd 10 [] 0 3] [] [zB 113 (!xm.beat&&xm.c.place==m.fm)] ?_
   refine cC (t:=!xm.beat&&xm.c.place==m.fm) (fun hput=>?_) (fun hput=>?_)
   ·have hput2:xm.beat=false∧xm.c.place=m.fm:=by simpa using hput
    refine Nm [(cVer vb x.places x.base (putMs x.places x.base m.fm x.L (List.take i.toNat (RcvT.hear z0 m).snd.fst))),(cSnds om.flatten x.ss),(cRcvs im.flatten (x.rs.set (posP x.id x.shards m.fm.toNat+m.shard.toNat) (RcvT.heard z0 m)))] ?_
    refine jT [(0,true),(1,true),(2,true),(3,true),(4,true),(5,true),(6,false)] [(6,[])] ?_
    refine Ya (Rds 0 3++[.rd 3 [.o 0 none] 0 0,zR 4,.rd 5 (hnO 2 3) 0 0]) [113] [zP 117 vb,zV 119 (.agg #[.slice (a3_0,c3_0).fst ((List.map eI xm.c.when).length) c3_0,nI xm.c.place,.slice (a3_1,c3_1).fst ((List.map eOp xm.c.ops).length) c3_1])] ?_
    refine JR_call [] [0] 86 #[.pointer (some (⟨vb,0,none⟩)),.agg #[.slice (a3_0,c3_0).fst ((List.map eI xm.c.when).length) c3_0,.int .i64 xm.c.place,.slice (a3_1,c3_1).fst ((List.map eOp xm.c.ops).length) c3_1]] (some 120) (by kernel_rfl) (by kernel_rfl) (by decide) (fun w S M hP hG _=>?_)
    refine(verPut (c:=xm.c) (hG.at 0 rfl) hP (ver_put hx (by omega) m.fm (l:=(RcvT.hear z0 m).2.1.take i.toNat) (by rw[List.length_take];omega)) (hG.at 10 rfl) (hG.at 11 rfl) f1 f2 f3).mono ?_
    rintro e2 w2 ⟨v,G',hR,hv⟩
    have hpm:putL x.places x.base (putMs x.places x.base m.fm x.L ((RcvT.hear z0 m).2.1.take i.toNat)) xm.c=putMs x.places x.base m.fm x.L ((RcvT.hear z0 m).2.1.take (i+1).toNat):=by rw[htk,putMs_snoc,if_pos hput2]
    rw[hpm]at hR
    have hR2:=hR.less (G0:=[]) (by simp)
    refine⟨_,_,_,hR2,?_⟩
    try simp only[aQ]
    refine JR_end ?_
    try simp only[aQ]
    refine J_eb ?_
    try simp only[aQ]
    refine Zp [.rd 0 [] 0 1,zR 1] [120] [zI 99 (i+1)] (oC (show IntKind.i64.wrap (i+1)=i+1 from wrap_i64 (by omega) (by omega)) oN) ?_
    try simp only[aQ]
    refine J_backx (i+1) [0,3,4,5,6,97,98,99] [0,1] [2,0,1] [0,1,2,3,4,5,6,7,8,9] ?_ ?_ (by kernel_rfl) rfl rfl rfl
    ·exact⟨by omega,by omega⟩
    ·omega
   ·have hpm:putMs x.places x.base m.fm x.L ((RcvT.hear z0 m).2.1.take i.toNat)=putMs x.places x.base m.fm x.L ((RcvT.hear z0 m).2.1.take (i+1).toNat):=by rw[htk,putMs_snoc,if_neg (by simpa using hput)]
    rw[hpm]
    refine J_skip (J_eb ?_)
    refine Zp [.rd 0 [] 0 1,zR 1] [113] [zI 99 (i+1)] (oC (show IntKind.i64.wrap (i+1)=i+1 from wrap_i64 (by omega) (by omega)) oN) ?_
    refine J_backx (i+1) [0,3,4,5,6,97,98,99] [0,1] [0,1,2] [0,1,2,3,4,5,6,7,8,9] ?_ ?_ (by kernel_rfl) rfl rfl rfl
    ·exact⟨by omega,by omega⟩
    ·omega
  ·have hie:i.toNat=(RcvT.hear z0 m).2.1.length:=by simp at hlt;omega
   rw[hie,List.take_length]
   refine J_exit rfl ?_
   refine J_seq ?_
   refine Nm [(cVer vb x.places x.base (putMs x.places x.base m.fm x.L (RcvT.hear z0 m).snd.fst)),(cSnds om.flatten x.ss),(cRcvs im.flatten (x.rs.set (posP x.id x.shards m.fm.toNat+m.shard.toNat) (RcvT.heard z0 m)))] ?_
   refine jT [(0,true),(1,true),(2,true),(3,true),(4,true),(5,true),(6,true),(7,true),(8,true),(9,false),(10,true),(11,false),(12,true),(13,true)] [(9,[])] ?_
   refine Ya (Rds 0 3++[.rd 3 [.o 0 none] 0 0,zR 4,.rd 5 [.o 1 none] 0 0,zR 6,.rd 7 [.o 1 none] 0 0,zR 8]) [100,0,3,6,97,98,99] [zI 125 (↑x.id:Int),zI 127 m.fm,zI 129 m.shard,zP 130 bb2] ?_
   refine JR_call [] [2] 93 #[.pointer (some (⟨bb2,0,none⟩))] (some 131) (by kernel_rfl) (by kernel_rfl) (by decide) (fun w S M hP hG _=>?_)
   refine(rcvSeq (y:=RcvT.heard z0 m) hP hbf2 (List.getElem?_set_self (List.getElem?_eq_some_iff.1 (show x.rs[posP x.id x.shards m.fm.toNat+m.shard.toNat]?=some z0 from hz0)).1)).mono ?_
   rintro e2 w2 hR
   refine⟨_,_,_,hR,?_⟩
   try simp only[aQ]
   refine Ym [zR 10,.wr 11 [] 0,zR 12,zR 13] [131,125,127,129,130] (fun nu2=>[zS 4 (sA (nu2 0) 0) 1 1]) o0 (fun nu2=>[(nu2 0,.cells #[nI (↑x.id:Int),nI m.fm,nI m.shard,nI ((RcvT.heard z0 m).q),nI (-1),.bool false,.slice none 0 0,nI 0,.slice none 0 0] 62 (0,0))]) [] (fun nu2=>?_)
   try simp only[aQ]
   refine JR_end ?_
   try simp only[aQ]
   refine Yr [[],[]] (.tuple #[.slice (sA (nu2 0) 0) 1 1,.nilIface]) fun a w s=>?_
   obtain⟨fps,s0⟩:=s
   have s1:=s0.data (cap:=1) 2 (rows:=[eMsg (ackM x m (RcvT.heard z0 m).q)]) rfl (show 0<9 by decide) (fun row hrow=>by rw[List.mem_singleton.1 hrow];rfl) (by simp) ⟨.inl ⟨rfl,rfl⟩,.inl ⟨rfl,rfl⟩,.inl ⟨rfl,rfl⟩,.inl ⟨rfl,rfl⟩,.inl ⟨rfl,rfl⟩,.inl ⟨rfl,rfl⟩,.inr (.inr ⟨_,_,_,rfl,rfl⟩),.inl ⟨rfl,rfl⟩,.inr (.inr ⟨_,_,_,rfl,rfl⟩),trivial⟩
   have s2:=(St.hide ⟨fps,s1⟩ 0 rfl).stp (stp_closePl _ [3,0,1,2] 3 4 rfl rfl rfl hy3)
   exact⟨_,_,_,_,s2.ret (by simp) [0] [10] rfl rfl,.inl ⟨rfl,rfl⟩⟩
end Go.Proofs.YtmkapocibaojdaaGreatDoor
end
section
namespace Go.Sx
open Go
def appzOf (n:Nat) (ops:Array Oper) (E:Env) (i:Nat):Option (Value×Value×TypeId×TypeId×Option Tmp):=
 match ops[i]? with
 | none=>none
 | some o=>if dstOk n o.dst then match o.guard with
  | some _=>none
  | none=>match o.op with
   | .call c=>match c.callee with
    | .builtin .append=>match opsOk E none c.args.toList with
     | some []=>match c.args.toList,c.argTypes.toList with
      | [s,x],[t,u]=>some (rho E s,rho E x,t,u,o.dst)
      | _,_=>none
     | _=>none
    | _=>none
   | _=>none
  else none
theorem appzOf_sound {P:Program} {f:Func} [Pan f] {R:Act→World→Prop} {n:Nat} [Dfr n] {ops:Array Oper} {i:Nat} {E:Env} {h r:List (Nat×Obj)} {F:List (List Nat×World)} {Y:Ghost} {sv xv:Value} {t tn:TypeId} {dst:Option Tmp} (he:appzOf n ops E i=some (sv,xv,t,tn,dst))
  {a:Act} {w:World} (s:St n E h r F Y a w) {K:Act→World→Prop} {k:List Itm}
  (H:∀ty,∃v' w',(Builtin.append_ #[t,tn] ty #[sv,xv]).run P w=.ok v' w'∧∀a',Ag n (E.put dst (.val v')) a'→K a' w'):wpOp P ops (wpK P f R k) i K a w:=by
 unfold appzOf at he
 split at he
 ·cases he
 rename_i o ho
 split at he
 case isFalse=>cases he
 rename_i hd
 split at he
 ·cases he
 rename_i hg
 split at he
 case h_2=>cases he
 rename_i c hc
 split at he
 case h_2=>cases he
 rename_i hcal
 split at he
 case h_2=>cases he
 rename_i hq
 split at he
 case h_2=>cases he
 rename_i xs x t' u hargs htys
 simp only[Option.some.injEq,Prod.mk.injEq]at he
 obtain⟨rfl,rfl,rfl,rfl,rfl⟩:=he
 have hev:=opsOk_sound s.ag (fun c w h=>by cases h) _ _ hq trivial
 have e1:a.eval xs=rho E xs:=hev xs (by rw[hargs];simp)
 have e2:a.eval x=rho E x:=hev x (by rw[hargs];simp)
 have hca:c.args = #[xs,x]:=by rw[←Array.toArray_toList (xs:=c.args),hargs]
 have hct:c.argTypes = #[t',u]:=by rw[←Array.toArray_toList (xs:=c.argTypes),htys]
 obtain⟨v',w',hrun,hk⟩:=H o.type
 unfold wpOp
 simp only[ho]
 rw[if_pos (by simp[Region.wanted,hg])]
 refine .inl ?_
 unfold Oper.wp execOp
 simp only[hc,resolve,hcal,hca,hct,invoke,builtin,Sem.run_bind,Sem.run_pure,Result.andThen_ok,List.map_toArray,List.map_cons,List.map_nil,e1,e2,hrun]
 exact hk _ (s.ag.put hd (.val v'))
section app
variable {P:Program} {f:Func} [Pan f] {R:Act→World→Prop} {n:Nat} [Dfr n] {k:List Itm} {E:Env} {h r:List (Nat×Obj)} {F:List (List Nat×World)} {Y:Ghost}
theorem JR_appnz0 {id L0 i:Nat} {ck:Bool} {Wp:List (Nat×List Nat)} {rest:List (Nat×Bool)} {m:Nat} {t tn e:TypeId} {kn:IntKind} {inf:TypeInfo} {z:Value} {dst:Option Tmp}
  (he:appzOf n (rgOf f id) E i=some (.slice none 0 0,.int kn m,t,tn,dst)) (hok:(!ck||okW L0 (Wp.lookup i) [])=true)
  (ht:P.underlying t=some (.slice e)) (htn:P.underlying tn=some (.int kn)) (hi:P.info? e=some inf) (hz:inf.zero=some z) (hzs:z.cells.size=inf.size) (hs0:0<inf.size) (hm:0<m)
  (hmax:m≤maxLen) (hby:m*inf.bytes≤140737488355328)
  (B:∀g' cap' cur',Row cur' cap' 0 inf.size []→m≤cap'→JR P f R n (rgOf f id) L0 ck rest (Wp.filter (·.1 != i)) k (E.put dst (.val (.slice (some ⟨g',0,none⟩) m cap'))) (h++[(g',.cells cur' e (0,0))]) r F Y) :
  JR P f R n (rgOf f id) L0 ck ((i,false)::rest) Wp k E h r F Y:=by
 intro BB Hd fps a w s hH hR hN hW
 simp only[PW]
 refine appzOf_sound he s.st fun ty=>?_
 have hrun:=Go.Lib.run_append_nil_zeros (P:=P) w t tn ty e inf z kn kn ht htn hi hz m hm hs0 (by simp[maxLen]at hmax;omega) (by omega)
 refine⟨_,_,hrun,fun a' hA=>?_⟩
 have hle:=grownCap_ge w m 0 e
 have hmx:=grownCap_le_maxLen w m 0 e hmax
 generalize grownCap w m 0 e=cap at hrun hA hle hmx ⊢
 generalize hcur:Builtin.zeroCells z.cells m++Builtin.zeroCells z.cells (cap - m)=cur at hrun hA ⊢
 have hsz:cur.size=cap*inf.size:=by
  rw[←hcur,Array.size_append,zc_size,zc_size,hzs,←Nat.add_mul]
  congr 1
  omega
 have hrow:Row cur cap 0 inf.size []:=⟨by simp,hsz,by omega,hmx,by simp⟩
 have hheap:(w.drew.alloc (.cells cur e)).heap=w.heap.push (.cells cur e):=rfl
 have hall:∀b,b<w.heap.size→(w.drew.alloc (.cells cur e)).heap[b]?=w.heap[b]?:=fun b hb=>by
  rw[hheap,Array.getElem?_push]
  rw[if_neg (by omega)]
 have hg':(w.drew.alloc (.cells cur e)).heap[w.heap.size]?=some (.cells cur e (0,0)):=by
  rw[hheap,Array.getElem?_push,if_pos rfl]
 have hO':Own (h++[(w.heap.size,.cells cur e (0,0))]) r (w.drew.alloc (.cells cur e)):=by
  refine own_fr s.own (fun x hx=>hall _ (s.own.ro.lt hx)) (fun x hx=>?_) ?_ (fun x hx hm=>?_)
  ·rcases List.mem_append.1 hx with hx|hx
   ·exact(hall _ (s.own.own.lt hx)).trans (s.own.own x hx)
   ·rw[List.mem_singleton]at hx;subst hx;exact hg'
  ·rw[List.map_append,List.nodup_append]
   refine⟨s.own.nodup,by simp,fun x hx y hy=>?_⟩
   simp at hy;subst hy
   obtain⟨u,hu,rfl⟩:=List.mem_map.1 hx
   have:=s.own.own.lt hu
   omega
  ·rw[List.map_append]at hm
   rcases List.mem_append.1 hm with hm|hm
   ·exact s.own.apart x hx hm
   ·simp at hm
    have:=s.own.ro.lt hx
    omega
 have d:Did h (h++[(w.heap.size,.cells cur e (0,0))]) [] w (w.drew.alloc (.cells cur e)):=by
  refine⟨rfl,rfl,rfl,by rw[hheap,Array.size_push];omega,fun b hb _=>hall b hb,fun j hj=>?_,by simp,fun j hj x hx=>?_,Sem.run_drawn hrun⟩
  ·rw[List.getElem?_append_left hj]
  ·rw[List.getElem?_append_right hj]at hx
   have:=List.mem_of_getElem? hx
   simp at this
   rw[this]
   exact Nat.le_refl _
 refine⟨fun hck=>okW_sound d (by simpa [hck]using hok) hN,?_⟩
 rw[filter_idsW,←idsW_did hR.len d _ (okWp_filter hW)]
 exact B _ cap cur hrow hle BB Hd fps a' _ (s.go hA hO' d.dd) hH (hR.did d) (hN.did hR.size d) (okWp_filter hW)
theorem JR_appnz {id L0 i:Nat} {ck:Bool} {Wp:List (Nat×List Nat)} {rest:List (Nat×Bool)} (t tn e size bytes:Nat) (m:Nat) (kn:IntKind) (z:Value) {dst:Option Tmp}
  (he:appzOf n (rgOf f id) E i=some (.slice none 0 0,.int kn m,t,tn,dst)) (hok:(!ck||okW L0 (Wp.lookup i) [])=true)
  (ht:P.underlying t=some (.slice e)) (htn:P.underlying tn=some (.int kn)) (hi:(P.info? e).map (fun i=>(i.zero,i.size,i.bytes))=some (some z,size,bytes)) (hzs:z.cells.size=size) (hs0:0<size) (hm:0<m)
  (hmax:m≤maxLen) (hby:m*bytes≤140737488355328)
  (B:∀g' cap' cur',Row cur' cap' 0 size []→m≤cap'→JR P f R n (rgOf f id) L0 ck rest (Wp.filter (·.1 != i)) k (E.put dst (.val (.slice (some ⟨g',0,none⟩) m cap'))) (h++[(g',.cells cur' e (0,0))]) r F Y) :
  JR P f R n (rgOf f id) L0 ck ((i,false)::rest) Wp k E h r F Y:=by
 obtain⟨inf,h1i,h2i,rfl,rfl⟩:=infoParts hi
 exact JR_appnz0 he hok ht htn h1i h2i hzs hs0 hm hmax hby B
end app
end Go.Sx
end
section
namespace Go.Proofs.YtmkapocibaojdaaGreatDoor
open Go Go.Sx
set_option maxHeartbeats 4000000 in
theorem growNil {w:World} {S:Nat→Prop} {n:Nat} (h1:n≤1000000) :
  Calls Tryz.prog 150 #[.slice none 0 0,.int .i64 n] w fun e w'=>∃a c,
   Ret [] w S w' e (.slice a 0 c) [cAcc (.slice a 0 c) 127 1 (([]:List Nat).map eP)] []:=by
 refine epG Tryz.func150 bd150 (args:=[.slice none 0 0,.int .i64 n]) (S:=S) (G:=[]) (by kernel_rfl) (.nil _ _) ?_
 refine Zs [zR 0] [] [zS 4 none 0 0] ?_
 refine J_seq ?_
 refine Zs [zR 0,zR 1] [] [zB 6 false] ?_
 refine cF ?_
 refine J_skip (J_seq ?_)
 refine Zt (Rds 0 6++[.rd 6 [] 0 1,zR 7]) [6] [zI 1 ((↑n:Int) - 0)] (oC (show IntKind.i64.wrap ((↑n:Int) - 0)=(↑n:Int) - 0 from wrap_i64 (by omega) (by omega)) oN) ?_
 refine Zs [zR 0,zR 1] [] [zB 16 (decide ((↑n:Int) - 0>0))] ?_
 refine cC (t:=decide ((↑n:Int) - 0>0)) (fun hp=>?_) (fun hp=>?_)
 ·refine jT [(0,true),(1,true),(2,true),(3,true),(4,true),(5,false),(6,true),(7,true),(8,true),(9,true)] [] ?_
  refine Yp (Rds 0 3++[.rd 3 [] 0 4,zR 4]) [16,1] [zS 20 none 0 0,zI 21 ((↑n:Int) - 0)] (oC (show(0:Int)≤(0:Int) from by omega) (oC (show(0:Int)≤(↑(0:Nat):Int) from by omega) oN)) ?_
  refine JR_appnz 125 3 127 1 8 n .i64 (.pointer none) (dst:=some 22) (by kernel_rfl) (by kernel_rfl) (by kernel_rfl) (by kernel_rfl) (by kernel_rfl) rfl (by decide) (by simp at hp;omega) (by simp only[maxLen];omega) (by omega) fun g cap cur hrow hle=>?_
  refine Yp [zR 6,zR 7,.rd 8 [] 0 4,zR 9] [22,20,21] [zS 0 (sA g 0) 0 cap] (oC (show(0:Int)≤(0:Int) from by omega) (oC (show(0:Int)≤(↑cap:Int) from by omega) oN)) ?_
  refine JR_end ?_
  refine Zs [zR 0,zR 1] [0] [zS 4 (sA g 0) 0 cap] ?_
  refine Yr [[]] (.slice (sA g 0) 0 cap) fun a w s=>?_
  have s1:=(s.hide 0 rfl).stp (stp_add (cRows [] 1 []) fun _ _=>⟨rfl,RowsAt.nil _ _ _ _⟩)
  have s2:=s1.stp (stp_closeacc 0 1 rfl rfl (rows:=[]) hrow (by decide))
  exact⟨_,_,s2.ret (by simp) [0] [] rfl rfl⟩
 ·refine J_stp (stp_accm eP 127 1) ?_
  refine Nm [cAcc (.slice none 0 0) 127 1 (List.map eP [])] ?_
  refine J_skip ?_
  refine Zs [zR 0,zR 1] [16,1,0] [] ?_
  refine Yr [[]] (.slice none 0 0) fun a w s=>?_
  exact⟨_,_,s.ret (by simp) [0] [] rfl rfl⟩
end Go.Proofs.YtmkapocibaojdaaGreatDoor
end
