/- Part 10 of the texts of a claim: JgC PlP HearP Cut AckD PlC Crc WireP CrcP PlD JgR JgE JgK Lend JgS JgV. -/
import Derived.Test.YtmkapocibaojdaaGreatDoorTj9
section
namespace Go.Proofs.YtmkapocibaojdaaGreatDoor
open Go Go.Sx
theorem lastSes_at {l:List EvT} {i k:Nat} {x:EvT} {s:Int} (hk:k<i) (hx:l[k]?=some x) (hs:x.ses=s) (hn:∀(j:Nat) y,k<j→j<i→l[j]?=some y→y.ses≠s):lastSes l i s=some x:=by
 have hkl:=(List.getElem?_eq_some_iff.1 hx).1
 have h1:l.take i=l.take k++x::(l.take i).drop (k+1):=by
  have h2:=List.take_append_drop k (l.take i)
  rw[List.take_take,Nat.min_eq_left (by omega),List.drop_eq_getElem_cons (by rw[List.length_take];omega)]at h2
  have hxk:(l.take i)[k]'(by rw[List.length_take];omega)=x:=by
   rw[List.getElem_take]
   exact(List.getElem?_eq_some_iff.1 hx).2
  rw[hxk]at h2
  exact h2.symm
 have h3:((l.take i).drop (k+1)).filter (fun e=>decide (e.ses=s))=[]:=List.filter_eq_nil_iff.2 fun y hy=>by
  obtain⟨j,hj⟩:=List.getElem?_of_mem hy
  rw[List.getElem?_drop,List.getElem?_take]at hj
  split at hj
  ·have:=hn (k+1+j) y (by omega) (by omega) hj
   simpa using this
  ·cases hj
 rw[lastSes,h1,List.filter_append,List.filter_cons_of_pos (by simpa using hs),h3]
 simp
theorem lastSes_none {l:List EvT} {i:Nat} {s:Int} (hn:∀(j:Nat) y,j<i→l[j]?=some y→y.ses≠s):lastSes l i s=none:=by
 have h3:(l.take i).filter (fun e=>decide (e.ses=s))=[]:=List.filter_eq_nil_iff.2 fun y hy=>by
  obtain⟨j,hj⟩:=List.getElem?_of_mem hy
  rw[List.getElem?_take]at hj
  split at hj
  ·have:=hn j y (by omega) hj
   simpa using this
  ·cases hj
 rw[lastSes,h3]
 rfl
structure Even6 (l:List EvT):Prop where
 two:∀x∈l,∀y∈l,twoErr x.c.when y.at'=0∧twoErr y.at' x.c.when=0
 len:∀x∈l,x.c.when.length≤6∧x.at'.length≤6
set_option maxHeartbeats 4000000 in
theorem jLate {w:World} {S:Nat→Prop} {er:Nat→Addr} {eb:Nat→Array Value×TypeId} {ua:Option Addr} {n c i:Nat} {l:List EvT} {x:EvT} (hC:Rep w S .nilIface (dC er eb)) (h:Rep w S (.slice ua n c) (.sl 7 (l.map eEv))) (hl:l.length≤1000000) (hx:l[i]?=some x) (hE:Even6 l) :
  Calls Tryz.prog 114 #[.slice ua n c,.int .i64 i] w fun e w'=>Ret [] w S w' e (.bool (lateE l i x)) [] []:=by
 have e1:=h.slen
 rw[List.length_map]at e1
 subst e1
 have hil:=(List.getElem?_eq_some_iff.1 hx).1
 refine epG Tryz.func114 bd114 (args:=[.slice ua l.length c,.int .i64 i]) (S:=S) (G:=[(_,dC er eb),(_,.sl 7 (l.map eEv))]) (by kernel_rfl) (.cons hC (.cons h (.nil _ _))) ?_
 refine Zs [zR 0] [] [zB 4 false] ?_
 refine J_seq ?_
 refine Zt [zR 0,.rd 1 [] 0 1,zR 2] [] [zI 5 ((↑i:Int) - 1)] (oC (show IntKind.i64.wrap ((↑i:Int) - 1)=(↑i:Int) - 1 from wrap_i64 (by omega) (by omega)) oN) ?_
 refine J_block ?_
 refine J_loopx (fun k:Int=>[zS 0 ua l.length c,zI 1 (↑i:Int),zB 4 false,zI 5 k]) (fun k:Int=>[]) (fun k:Int=>[]) (fun k:Int=>[(.nilIface,(dC er eb)),(.slice ua l.length c,(D.sl 7 (List.map eEv l)))]) (fun k:Int=>(k+1).toNat) (fun k:Int=>(-1≤k∧k<i∧∀(j:Nat) y,k<j→j<i→l[j]?=some y→y.ses≠x.ses)) ((i:Int) - 1) [0,1,4,5] [] [] [0,1] ?_ (by kernel_rfl) rfl rfl rfl ?_
 ·exact⟨by omega,by omega,fun j y h1 h2=>by omega⟩
 rintro k ⟨hk0,hk1,hno⟩
 refine J_seq ?_
 refine Zs [zR 0,zR 1] [] [zB 11 (decide (k≥0))] ?_
 refine cC (t:=decide (k≥0)) (fun hlt=>?_) (fun hlt=>?_)
 ·have hlt2:0≤k:=by simpa using hlt
  obtain⟨y,hy⟩:∃y,l[k.toNat]?=some y:=⟨_,List.getElem?_eq_getElem (by omega)⟩
  have hx2:l[(i:Int).toNat]?=some x:=hx
  have htw:=(hE.two y (List.mem_of_getElem? hy) x (List.mem_of_getElem? hx)).1
  have hly:=hE.len y (List.mem_of_getElem? hy)
  have hlx:=hE.len x (List.mem_of_getElem? hx)
  refine J_read4 1 rfl k.toNat (map_at hy) (by kernel_rfl) (fun b1 off1 cs1 ty1 fz1 a1_0 c1_0 a1_1 c1_1 a1_2 c1_2 a1_3 c1_3 ha1 hrd1=>?_)
  cases ha1
  have hrd1_0:=rd0 (hrd1 0 _ rfl)
  have hrd1_1:=hrd1 1 _ rfl
  have hrd1_2:=hrd1 2 _ rfl
  have hrd1_3:=hrd1 3 _ rfl
  have hrd1_4:=hrd1 4 _ rfl
  have hrd1_5:=hrd1 5 _ rfl
  have hrd1_6:=hrd1 6 _ rfl
  refine J_again4 1 rfl 0 rfl ((↑i:Int).toNat) (map_at hx2) (by kernel_rfl) (fun a2_0 c2_0 a2_1 c2_1 a2_2 c2_2 a2_3 c2_3 hrd2=>?_)
  have hrd2_0:=rd0 (hrd2 0 _ rfl)
  have hrd2_1:=hrd2 1 _ rfl
  have hrd2_2:=hrd2 2 _ rfl
  have hrd2_3:=hrd2 3 _ rfl
  have hrd2_4:=hrd2 4 _ rfl
  have hrd2_5:=hrd2 5 _ rfl
  have hrd2_6:=hrd2 6 _ rfl
  try simp only[aQ]
  refine J_skip (J_seq (J_block ?_))
  refine Zt [zR 0,zR 1,.rd 2 [] 0 2,zR 3,.rd 4 [.r 0 (some (nI y.ses))] 0 0,zR 5,zR 6,.rd 7 [] 0 2,zR 8,.rd 9 [.r 0 (some (nI x.ses))] 0 0,zR 10] [11] [zB 24 (y.ses==x.ses)] (oC hlt2 (oC (show k<(↑l.length:Int) from by omega) (oC hrd1_0 (oC (show(0:Int)≤(↑i:Int) from by omega) (oC (show(↑i:Int)<(↑l.length:Int) from by omega) (oC hrd2_0 oN)))))) ?_
  refine cC (t:=y.ses==x.ses) (fun hses=>?_) (fun hses=>?_)
  ·have hs2:y.ses=x.ses:=by simpa using hses
   refine jS [(0,true),(1,true),(2,true),(3,true),(4,true),(5,true),(6,true),(7,true),(8,true),(9,true),(10,true),(11,false),(12,true),(13,true),(14,true),(15,true),(16,true)] [] ?_
   refine Yp [zR 0,zR 1,.rd 2 [] 0 2,zR 3,zR 4,.rd 5 [.r 0 (some (.slice (a1_2,c1_2).fst ((List.map eI y.c.when).length) c1_2))] 0 0,zR 6,zR 7,.rd 8 [] 0 2,zR 9,.rd 10 [.r 0 (some (.slice (a2_0,c2_0).fst ((List.map eI x.at').length) c2_0))] 0 0] [24] [zS 31 (a1_2,c1_2).fst ((List.map eI y.c.when).length) c1_2,zS 36 (a2_0,c2_0).fst ((List.map eI x.at').length) c2_0] (oC hlt2 (oC (show k<(↑l.length:Int) from by omega) (oC hrd1_4 (oC (show(0:Int)≤(↑i:Int) from by omega) (oC (show(↑i:Int)<(↑l.length:Int) from by omega) (oC hrd2_2 oN)))))) ?_
   refine Yc 100 #[.slice (a1_2,c1_2).fst ((List.map eI y.c.when).length) c1_2,.slice (a2_0,c2_0).fst ((List.map eI x.at').length) c2_0] (some 37) fun w S hG=>?_
   refine(vwithin (globs_of (hG.at 0 rfl)) (hG.at 4 rfl) (hG.at 6 rfl) (by omega) (by omega)).mono ?_
   rintro e1 w1 (⟨h,_⟩|⟨_,hR⟩)
   ·exact absurd htw h
   have hlt3:k.toNat<i:=by omega
   have hla:lateE l i x=!inL y.c.when x.at':=by rw[lateE,lastSes_at hlt3 hy hs2 fun j z h1 h2 hz=>hno j z (by omega) h2 hz]
   refine⟨_,_,_,hR,?_⟩
   try simp only[aQ]
   refine Ya (Rds 12 17) [37,31,36] [zB 6 (inL y.c.when x.at')] ?_
   refine JR_end ?_
   refine Zs (Rds 0 3) [] [zB 4 (!inL y.c.when x.at')] ?_
   refine Yr [[]] (.bool (!inL y.c.when x.at')) fun a w s=>?_
   rw[hla]
   exact s.ret (by simp) [] [] rfl rfl
  ·have hs2:y.ses≠x.ses:=by simpa using hses
   refine J_skip (J_eb ?_)
   refine Zp [zR 0,.rd 1 [] 0 1,zR 2] [24] [zI 5 (k - 1)] (oC (show IntKind.i64.wrap (k - 1)=k - 1 from wrap_i64 (by omega) (by omega)) oN) ?_
   refine J_backx (k - 1) [0,1,4,5] [] [] [0,1] ?_ ?_ (by kernel_rfl) rfl rfl rfl
   ·refine⟨by omega,by omega,fun j z h1 h2 hz=>?_⟩
    by_cases hjk:(j:Int)=k
    ·have hjk2:j=k.toNat:=by omega
     subst hjk2
     rw[hy]at hz
     cases hz
     exact hs2
    ·exact hno j z (by omega) h2 hz
   ·omega
 ·have hkm:k = -1:=by have:=of_decide_eq_false hlt;omega
  refine J_exit rfl ?_
  refine Zs [zR 0] [11,0,1,5] [] ?_
  refine Yr [[]] (.bool false) fun a w s=>?_
  rw[lateE,lastSes_none fun j z h2 hz=>hno j z (by omega) h2 hz]
  exact s.ret (by simp) [] [] rfl rfl
end Go.Proofs.YtmkapocibaojdaaGreatDoor
end
section
namespace Go.Sx
open Go
def rowP (id shards k:Nat):List (Nat×Nat):=if k=id then []else (List.range shards).map fun i=>(k,i)
def rowsP (id shards k:Nat):List (List (Nat×Nat)):=(List.range k).map (rowP id shards)
def pairsP (id shards k:Nat):List (Nat×Nat):=(rowsP id shards k).flatten
theorem rowP_length (id shards k:Nat):(rowP id shards k).length=if k=id then 0 else shards:=by
 unfold rowP
 split <;> simp
theorem flat_pos {α:Type}:∀{rows:List (List α)} {k i:Nat} {r:List α},rows[k]?=some r→i<r.length→rows.flatten[((rows.take k).map List.length).sum+i]?=r[i]?
 | [],k,i,r,h,_=>by simp at h
 | x::rows,0,i,r,h,hi=>by
  simp only[List.getElem?_cons_zero,Option.some.injEq]at h
  subst h
  simp[List.getElem?_append,hi]
 | x::rows,k+1,i,r,h,hi=>by
  simp only[List.getElem?_cons_succ]at h
  have ih:=flat_pos h hi
  simp only[List.flatten_cons,List.take_succ_cons,List.map_cons,List.sum_cons]
  rw[List.getElem?_append_right (by omega),←ih]
  congr 1
  omega
def posP (id shards k:Nat):Nat:=(pairsP id shards k).length
def RowsOk {α:Type} (id shards places:Nat) (rows:List (List α)):Prop:=rows.map List.length=(rowsP id shards places).map List.length
theorem RowsOk.nil {α:Type} (id shards:Nat):RowsOk (α:=α) id shards 0 []:=rfl
theorem RowsOk.len {α:Type} {id shards places:Nat} {rows:List (List α)} (h:RowsOk id shards places rows):rows.length=places:=by
 have:=congrArg List.length h
 simpa [rowsP]using this
theorem RowsOk.row {α:Type} {id shards places:Nat} {rows:List (List α)} (h:RowsOk id shards places rows) {k:Nat} {r:List α} (hr:rows[k]?=some r):r.length=if k=id then 0 else shards:=by
 have hk:k<places:=by
  have:=(List.getElem?_eq_some_iff.1 hr).1
  have:=h.len
  omega
 have e1:(rows.map List.length)[k]?=some r.length:=by rw[List.getElem?_map,hr];rfl
 rw[show rows.map List.length=_ from h,List.getElem?_map]at e1
 have e2:(rowsP id shards places)[k]?=some (rowP id shards k):=by simp[rowsP,hk]
 rw[e2,Option.map_some,rowP_length]at e1
 exact(Option.some.inj e1).symm
theorem take_posP {α:Type} {id shards places:Nat} {rows:List (List α)} (h:RowsOk id shards places rows) {k:Nat} (hk:k≤places):((rows.take k).map List.length).sum=posP id shards k:=by
 rw[posP,pairsP,List.length_flatten,List.map_take,show rows.map List.length=_ from h,←List.map_take]
 congr 2
 rw[rowsP,←List.map_take,List.take_range,Nat.min_eq_left hk,rowsP]
theorem RowsOk.at {α:Type} {id shards places:Nat} {rows:List (List α)} (h:RowsOk id shards places rows) {k i:Nat} {r:List α} (hr:rows[k]?=some r) {b:α} (hb:r[i]?=some b):rows.flatten[posP id shards k+i]?=some b:=by
 have hi:=(List.getElem?_eq_some_iff.1 hb).1
 have hk:k<places:=by
  have:=(List.getElem?_eq_some_iff.1 hr).1
  have:=h.len
  omega
 rw[←take_posP h (Nat.le_of_lt hk),flat_pos hr hi,hb]
end Go.Sx
end
section
namespace Go.Sx
open Go
def kept (L:List MsgT) (k:Int):Option MsgT:=L.find? fun m=>m.seq==k
def dropK (L:List MsgT) (k:Int):List MsgT:=L.eraseP fun m=>m.seq==k
def Dist (L:List MsgT):Prop:=(L.map (·.seq)).Nodup
theorem kept_none {L:List MsgT} {k:Int}:kept L k=none↔∀m∈L,m.seq≠k:=by
 unfold kept
 rw[List.find?_eq_none]
 simp
theorem dropK_sub (L:List MsgT) (k:Int):(dropK L k).Sublist L:=List.eraseP_sublist
theorem Dist.drop {L:List MsgT} (h:Dist L) (k:Int):Dist (dropK L k):=((dropK_sub L k).map _).nodup h
theorem Dist.app {L:List MsgT} (h:Dist L) {m:MsgT} (hm:kept L m.seq=none):Dist (L++[m]):=by
 unfold Dist
 rw[List.map_append,List.nodup_append]
 refine⟨h,by simp,fun a ha b hb=>?_⟩
 obtain⟨x,hx,rfl⟩:=List.mem_map.1 ha
 simp at hb
 subst hb
 exact kept_none.1 hm x hx
end Go.Sx
namespace Go.Proofs.YtmkapocibaojdaaGreatDoor
open Go Go.Sx
theorem len2 {α:Type} {l:List α} (h:l.length=2):∃x y,l=[x,y]:=by
 match l,h with
 | [x,y],_=>exact⟨x,y,rfl⟩
end Go.Proofs.YtmkapocibaojdaaGreatDoor
end
section
namespace Go.Sx
open Go
theorem Rep.take {w:World} {S:Nat→Prop} {a:Option Addr} {n c k:Nat} {rows:List (List D)} (h:Rep w S (.slice a n c) (.sl k rows)) {i c':Nat} (hi:i≤n) (hc':n≤c'):Rep w S (.slice a i c') (.sl k (rows.take i)):=by
 have hn:=h.slen
 cases h with
 | nil=>
  obtain rfl:i=0:=by omega
  exact .nil
 | sl u hb hS hc hk hl hcell hrep=>
  have hlen:(rows.take i).length=i:=by rw[List.length_take];omega
  have hx:=Rep.sl (rows:=rows.take i) (cap:=c') u hb hS (by rw[hlen];omega) hk (fun row hr=>hl row (List.mem_of_mem_take hr)) (fun p j hp hj=>hcell p j (by rw[hlen]at hp;omega) hj) (fun p j row d hp hj=>hrep p j row d (by
   rw[List.getElem?_take]at hp
   split at hp
   ·exact hp
   ·cases hp) hj)
  rwa[hlen]at hx
theorem Rep.drop {w:World} {S:Nat→Prop} {b off n c k:Nat} {rows:List (List D)} (h:Rep w S (.slice (some ⟨b,off,none⟩) n c) (.sl k rows)) {i c':Nat} (hi:i≤n) (hc':n - i≤c'):Rep w S (.slice (some ⟨b,off+i*k,none⟩) (n - i) c') (.sl k (rows.drop i)):=by
 have hn:=h.slen
 cases h with
 | nil=>
  obtain rfl:i=0:=by omega
  exact .nil
 | sl u hb hS hc hk hl hcell hrep=>
  have hlen:(rows.drop i).length=rows.length - i:=by rw[List.length_drop]
  have hx:=Rep.sl (rows:=rows.drop i) (cap:=c') (off:=off+i*k) (fun p j=>u (p+i) j) hb hS (by rw[hlen];omega) hk (fun row hr=>hl row (List.mem_of_mem_drop hr)) (fun p j hp hj=>by
   have h1:=hcell (p+i) j (by rw[hlen]at hp;omega) hj
   rw[show off+i*k+(p*k+j)=off+((p+i)*k+j)by rw[Nat.add_mul];omega]
   exact h1) (fun p j row d hp hj=>hrep (p+i) j row d (by
   rw[List.getElem?_drop]at hp
   rwa[Nat.add_comm]) hj)
  rwa[hlen]at hx
theorem hit {k:Int}:∀{L:List MsgT} {i:Nat} {x:MsgT},L[i]?=some x→x.seq=k→(∀m∈L.take i,m.seq≠k)→kept L k=some x∧L.take i++L.drop (i+1)=dropK L k
 | [],i,x,h,_,_=>by simp at h
 | m::L,0,x,h,hs,_=>by
  simp only[List.getElem?_cons_zero,Option.some.injEq]at h
  subst h
  simp[kept,dropK,hs]
 | m::L,i+1,x,h,hs,hn=>by
  have hm:m.seq≠k:=hn m (by simp)
  obtain⟨h1,h2⟩:=hit (by simpa using h) hs fun y hy=>hn y (by simp[hy])
  refine⟨by simpa [kept,hm]using h1,?_⟩
  simp only[List.take_succ_cons,List.drop_succ_cons,List.cons_append,h2]
  simp[dropK,hm]
end Go.Sx
end
section
namespace Go.Proofs.YtmkapocibaojdaaGreatDoor
open Go Go.Sx
def keepL (L:List MsgT) (seq:Int):List MsgT:=L.filter fun m=>decide (seq<m.seq)
theorem keepL_snoc {L:List MsgT} {seq:Int} {x:MsgT}:keepL (L++[x]) seq=keepL L seq++if seq<x.seq then [x]else []:=by
 unfold keepL
 rw[List.filter_append]
 congr 1
 by_cases h:seq<x.seq <;> simp[h]
theorem set_take {L:List MsgT} {i:Nat} {x:MsgT} (hi:i<L.length):(L.set i x).take (i+1)=L.take i++[x]:=by
 rw[List.take_add_one,List.take_set_of_le (Nat.le_refl _)]
 simp[hi]
theorem set_drop {L:List MsgT} {i j:Nat} {x:MsgT} (hi:i<j):(L.set i x).drop j=L.drop j:=List.drop_set_of_lt hi
structure DelInv (L:List MsgT) (seq:Int) (i j:Int) (Lc:List MsgT):Prop where
 len:Lc.length=L.length
 take:Lc.take i.toNat=keepL (L.take j.toNat) seq
 drop:Lc.drop j.toNat=L.drop j.toNat
theorem DelInv.at {L Lc:List MsgT} {seq i j:Int} {x:MsgT} (h:DelInv L seq i j Lc) (hx:L[j.toNat]?=some x):Lc[j.toNat]?=some x:=by
 have h1:(Lc.drop j.toNat)[0]?=(L.drop j.toNat)[0]?:=by rw[h.drop]
 rw[List.getElem?_drop,List.getElem?_drop,Nat.add_zero]at h1
 rw[h1,hx]
theorem DelInv.skip {L Lc:List MsgT} {seq i j:Int} {x:MsgT} (h:DelInv L seq i j Lc) (hj:0≤j) (hx:L[j.toNat]?=some x) (hk:¬seq<x.seq):DelInv L seq i (j+1) Lc:=by
 refine⟨h.len,?_,?_⟩
 ·rw[h.take,←take_snoc hj hx,keepL_snoc,if_neg hk,List.append_nil]
 ·rw[show(j+1).toNat=j.toNat+1 by omega,←List.drop_drop,←List.drop_drop,h.drop]
theorem DelInv.keep {L Lc:List MsgT} {seq i j:Int} {x:MsgT} (h:DelInv L seq i j Lc) (hi:0≤i) (hij:i<j) (hj:j<L.length) (hx:L[j.toNat]?=some x) (hk:seq<x.seq):DelInv L seq (i+1) (j+1) (Lc.set i.toNat x):=by
 refine⟨by rw[List.length_set];exact h.len,?_,?_⟩
 ·rw[show(i+1).toNat=i.toNat+1 by omega,set_take (by have:=h.len;omega),h.take,←take_snoc (by omega) hx,keepL_snoc,if_pos hk]
 ·rw[set_drop (by omega),show(j+1).toNat=j.toNat+1 by omega,←List.drop_drop,←List.drop_drop,h.drop]
end Go.Proofs.YtmkapocibaojdaaGreatDoor
end
section
namespace Go.Sx
open Go
theorem zip_at {α β:Type} {us:List α} {bs:List β} {p:Nat} {a:α} {b:β} (h1:us[p]?=some a) (h2:bs[p]?=some b):(us.zip bs)[p]?=some (a,b):=by
 rw[List.getElem?_zip_eq_some]
 exact⟨h1,h2⟩
end Go.Sx
end
section
namespace Go.Proofs.YtmkapocibaojdaaGreatDoor
open Go Go.Sx
def xorI (a b:Int):Int:=IntKind.i64.wrap (BitVec.ofInt IntKind.i64.bits a ^^^ BitVec.ofInt IntKind.i64.bits b).toNat
def bitR (d:Int) (b:UInt8) (k:Int):Int:=(xorI d ((IntKind.i64.wrap (b.toNat:Int)).fdiv (2 ^ min (Int.toNat k) IntKind.i64.bits))).tmod 2
def stepR (d:Int) (b:UInt8) (k:Int):Int:=if (bitR d b k==1)=true then xorI (IntKind.i64.wrap (d.tdiv 2)) 3988292384 else IntKind.i64.wrap (d.tdiv 2)
end Go.Proofs.YtmkapocibaojdaaGreatDoor
end
section
namespace Go.Sx
open Go
def InR (n:Int):Prop:=-9223372036854775808≤n∧n<9223372036854775808
abbrev Rd (α:Type):=List UInt8→Option (α×List UInt8)
def andR {α β:Type} (rd:Rd α) (q:α→Rd β):Rd β:=fun l=>(rd l).bind fun p=>q p.1 p.2
def OkDot (d:DotT):Prop:=InR d.place∧InR d.time∧InR d.no
def OkOp (o:OpT):Prop:=InR o.no∧(o.key.size:Int)<9223372036854775808∧InR o.kind∧(o.text.size:Int)<9223372036854775808∧InR o.n∧(o.dots.length:Int)<9223372036854775808∧∀d∈o.dots,OkDot d
abbrev St2:=List UInt8×Bool
def andS {α β:Type} (r:St2→α×St2) (q:α→St2→β×St2):St2→β×St2:=fun s=>q (r s).1 (r s).2
structure Good {α:Type} (rd:Rd α) (r:St2→α×St2):Prop where
 ok:∀l x l',rd l=some (x,l')→r (l,false)=(x,(l',false))
 no:∀l,rd l=none→(r (l,false)).2.2=true
 bad:∀s,s.2=true→(r s).2.2=true
theorem Good.and {α β:Type} {rd:Rd α} {r:St2→α×St2} {qd:α→Rd β} {q:α→St2→β×St2} (h:Good rd r) (h2:∀x,Good (qd x) (q x)):Good (andR rd qd) (andS r q):=by
 refine⟨fun l x l' he=>?_,fun l he=>?_,fun s hs=>(h2 _).bad _ (h.bad s hs)⟩
 ·unfold andR at he
  cases h1:rd l with
  | none=>rw[h1]at he;cases he
  | some p=>
   rw[h1]at he
   unfold andS
   rw[h.ok l p.1 p.2 h1]
   exact(h2 p.1).ok p.2 x l' he
 ·unfold andR at he
  cases h1:rd l with
  | none=>exact(h2 _).bad _ (h.no l h1)
  | some p=>
   rw[h1]at he
   unfold andS
   rw[h.ok l p.1 p.2 h1]
   exact(h2 p.1).no p.2 he
theorem Good.pure {α:Type} (x:α):Good (fun l=>some (x,l)) fun s=>(x,s):=⟨fun l y l' h=>(by cases h;rfl),fun l h=>(by cases h),fun s hs=>hs⟩
end Go.Sx
end
section
namespace Go.Proofs.YtmkapocibaojdaaGreatDoor
open Go Go.Sx
def stepD (d b k:Nat):Nat:=if (d ^^^ b >>> k) % 2=1 then d >>> 1 ^^^ 3988292384 else d >>> 1
def iterD (c b:Nat):Nat→Nat
 | 0=>c
 | n+1=>stepD (iterD c b n) b n
def crcN (l:List UInt8):Nat:=l.foldl (fun c b=>iterD c b.toNat 8) 4294967295
def sumN (l:List UInt8):Nat:=crcN l ^^^ 4294967295
end Go.Proofs.YtmkapocibaojdaaGreatDoor
end
section
namespace Go.Proofs.YtmkapocibaojdaaGreatDoor
open Go Go.Sx
structure DelQ (α:Type) where
 i:Int
 j:Int
 cur:Array Value
 xs:List Value
 Lc:List α
structure DelI {α:Type} (p:α→Bool) (L:List α) (i j:Int) (Lc:List α):Prop where
 len:Lc.length=L.length
 take:Lc.take i.toNat=(L.take j.toNat).filter p
 drop:Lc.drop j.toNat=L.drop j.toNat
section delq
variable {α:Type} {p:α→Bool} {L Lc:List α} {i j:Int} {x:α}
theorem DelI.at (h:DelI p L i j Lc) (hx:L[j.toNat]?=some x):Lc[j.toNat]?=some x:=by
 have h1:(Lc.drop j.toNat)[0]?=(L.drop j.toNat)[0]?:=by rw[h.drop]
 rw[List.getElem?_drop,List.getElem?_drop,Nat.add_zero]at h1
 rw[h1,hx]
theorem DelI.skip (h:DelI p L i j Lc) (hj:0≤j) (hx:L[j.toNat]?=some x) (hk:p x=false):DelI p L i (j+1) Lc:=by
 refine⟨h.len,?_,?_⟩
 ·rw[h.take,←take_snoc hj hx,List.filter_append]
  simp[hk]
 ·rw[show(j+1).toNat=j.toNat+1 by omega,←List.drop_drop,←List.drop_drop,h.drop]
theorem DelI.keep (h:DelI p L i j Lc) (hi:0≤i) (hij:i<j) (hj:j<L.length) (hx:L[j.toNat]?=some x) (hk:p x=true):DelI p L (i+1) (j+1) (Lc.set i.toNat x):=by
 refine⟨by rw[List.length_set];exact h.len,?_,?_⟩
 ·have hl:=h.len
  have h1:(Lc.set i.toNat x).take (i.toNat+1)=Lc.take i.toNat++[x]:=by
   rw[List.take_add_one,List.take_set_of_le (Nat.le_refl _)]
   simp[show i.toNat<Lc.length by omega]
  rw[show(i+1).toNat=i.toNat+1 by omega,h1,h.take,←take_snoc (by omega) hx,List.filter_append]
  simp[hk]
 ·rw[List.drop_set_of_lt (by omega),show(j+1).toNat=j.toNat+1 by omega,←List.drop_drop,←List.drop_drop,h.drop]
theorem DelI.first {r:Int} (hr0:0≤r) (hx:L[r.toNat]?=some x) (hk:p x=false) (hn:∀y∈L.take r.toNat,p y=true):DelI p L r (r+1) L:=by
 refine⟨rfl,?_,rfl⟩
 rw[←take_snoc hr0 hx,List.filter_append,List.filter_eq_self.2 hn]
 simp[hk]
end delq
end Go.Proofs.YtmkapocibaojdaaGreatDoor
end
section
namespace Go.Proofs.YtmkapocibaojdaaGreatDoor
open Go Go.Sx
abbrev evPtr (x:EvT) (va vr vw vo:Value):D:=.ptr [.v (.int .i64 x.ses),.v (.int .i64 x.place),.v va,.v vr,.v vw,.v (.int .i64 x.c.place),.v vo]
abbrev clr (b3:Nat):Value:=.func (.func 167) #[] #[.pointer (some ⟨b3,0,none⟩)]
def seenB (xs:List Int) (c:ComT):Bool:=inL c.when xs
section
variable {w:World} {S:Nat→Prop} {er:Nat→Addr} {eb:Nat→Array Value×TypeId} {x:EvT} {b3 n1 c1:Nat} {a1:Option Addr} {vr vw vo:Value}
theorem reads1 {c:ComT} {ua:Option Addr} {un uc:Nat} {v:Value} (ov:v.oneCell'=true) (hC:Rep w S .nilIface (dC er eb)) (h3:Rep w S (.pointer (some ⟨b3,0,none⟩)) (evPtr x (.slice a1 n1 c1) vr vw vo)) (h4:Rep w S (.slice a1 n1 c1) (dInts x.at')) (h5:Rep w S (.slice ua un uc) (dInts c.when)) (ht:twoErr c.when x.at'=0) (hl:c.when.length≤6∧x.at'.length≤6) :
  Calls Tryz.prog 167 #[.agg #[.slice ua un uc,.int .i64 c.place,v],.pointer (some ⟨b3,0,none⟩)] w fun e w'=>Ret [] w S w' e (.bool (!seenB x.at' c)) [] []:=by
 refine epG Tryz.func167 bd167 (args:=[.agg #[.slice ua un uc,.int .i64 c.place,v],.pointer (some ⟨b3,0,none⟩)]) (S:=S) (G:=[(_,dC er eb),(_,evPtr x (.slice a1 n1 c1) vr vw vo),(_,dInts x.at'),(_,dInts c.when)]) (by kernel_rfl) (.cons hC (.cons h3 (.cons h4 (.cons h5 (.nil _ _))))) ?_
 refine J_ptrl 1 rfl fun b off cs e fz ls he hl2 hc=>?_
 cases he
 obtain rfl:ls=[]:=List.eq_nil_of_length_eq_zero hl2
 have hc2:cs[0+2]?=some (.slice a1 n1 c1):=hc 2 _ rfl
 try simp only[aQ]
 refine Zv [.wr 0 [] 0,zR 1] [] [0] (fun nu1=>[zP 2 (nu1 0),zB 3 false]) o0 (fun nu1=>[(nu1 0,.cells #[.slice ua un uc,nI c.place,v] 35 (0,0))]) (fun nu1=>?_)
 refine jS [(0,true),(1,true),(2,true),(3,true),(4,false),(5,true),(6,true),(7,true),(8,true),(9,true)] [] ?_
 refine Yp [zR 0,.rd 1 [.o 0 none] 0 0,zR 2,.rd 3 [.r 0 (some (.slice a1 n1 c1))] 0 0] [2,1] [zS 8 ua un uc,zS 10 a1 n1 c1] (oC hc2 oN) ?_
 refine Yc 100 #[.slice ua un uc,.slice a1 n1 c1] (some 11) fun w S hG=>?_
 refine(vwithin (globs_of (hG.at 0 rfl)) (hG.at 3 rfl) (hG.at 2 rfl) (by omega) (by omega)).mono ?_
 rintro e1 w1 (⟨h,_⟩|⟨_,hR⟩)
 ·exact absurd ht h
 refine⟨_,_,_,hR,?_⟩
 try simp only[aQ]
 refine Ya (Rds 5 10) [11,8,10] [zB 4 (inL c.when x.at')] ?_
 refine JR_end ?_
 refine Zs (Rds 0 3) [4] [zB 3 (!inL c.when x.at')] ?_
 refine Yr [[]] (.bool (!inL c.when x.at')) fun a w s=>?_
 exact s.ret (by simp) [] [] rfl rfl
set_option maxHeartbeats 4000000 in
theorem indexRd {M:List Nat} {ua:Option Addr} {n c:Nat} {L:List ComT} (hC:Rep w S .nilIface (dC er eb)) (h3:Rep w S (.pointer (some ⟨b3,0,none⟩)) (evPtr x (.slice a1 n1 c1) vr vw vo)) (h4:Rep w S (.slice a1 n1 c1) (dInts x.at')) (hP:Pre w S M [cAcc (.slice ua n c) 35 3 (L.map eCom)]) (hl:L.length≤1000000) (ht:∀c∈L,twoErr c.when x.at'=0∧c.when.length≤6∧x.at'.length≤6) :
  Calls Tryz.prog 206 #[.slice ua n c,clr b3] w fun e w'=>∃r:Int,Ret M w S w' e (.int .i64 r) [cAcc (.slice ua n c) 35 3 (L.map eCom)] [] ∧
   ((r = -1∧∀z∈L,seenB x.at' z=true)∨(0≤r∧r<L.length∧(∃z,L[r.toNat]?=some z∧seenB x.at' z=false)∧∀z∈L.take r.toNat,seenB x.at' z=true)):=by
 refine enG Tryz.func206 bd206 (args:=[.slice ua n c,clr b3]) (S:=S) (C:=[cAcc (.slice ua n c) 35 3 (L.map eCom)]) (G:=[(_,dC er eb),(_,evPtr x (.slice a1 n1 c1) vr vw vo),(_,dInts x.at')]) (by kernel_rfl) hP (.cons hC (.cons h3 (.cons h4 (.nil _ _)))) ?_
 refine J_stpx (stp_acclen 0 rfl) fun _ hk=>?_
 rw[List.length_map]at hk
 subst hk
 refine Zs [zR 0] [] [zI 4 0] ?_
 refine J_seq ?_
 refine Zs (Rds 0 3) [] [zI 7 (↑L.length:Int),zI 8 0] ?_
 refine J_block ?_
 refine J_loopx (fun i2:Int=>[zS 0 ua L.length c,zV 1 (.func (.func 167) #[] #[.pointer (sA b3 0)]),zI 4 0,zI 7 (↑L.length:Int),zI 8 i2]) (fun i2:Int=>[]) (fun i2:Int=>[cAcc (.slice ua L.length c) 35 3 (L.map eCom)]) (fun i2:Int=>[(.nilIface,(dC er eb)),(.pointer (sA b3 0),(evPtr x (Value.slice a1 n1 c1) vr vw vo)),(.slice a1 n1 c1,(dInts x.at'))]) (fun i2:Int=>(L.length - i2).toNat) (fun i2:Int=>(0≤i2∧i2≤L.length∧∀z∈L.take i2.toNat,seenB x.at' z=true)) 0 [0,1,4,7,8] [] [0] [0,1,2] ?_ (by kernel_rfl) rfl rfl rfl ?_
 ·exact⟨by simp,by omega,by simp⟩
 rintro i2 ⟨hi0,hi,hno⟩
 refine Zs [zR 0] [] [zB 9 (decide (i2<(↑L.length:Int)))] ?_
 refine J_seq ?_
 refine cC (t:=decide (i2<(↑L.length:Int))) (fun hlt=>?_) (fun hlt=>?_)
 ·have hlt2:i2<L.length:=of_decide_eq_true hlt
  obtain⟨z,hz⟩:∃z,L[i2.toNat]?=some z:=⟨_,List.getElem?_eq_getElem (by omega)⟩
  obtain⟨ht1,ht2⟩:=ht z (List.mem_of_getElem? hz)
  refine J_openacc 0 rfl (by intro h0;rw[List.map_eq_nil_iff]at h0;rw[h0]at hz;simp at hz) fun g cur xs hu _ _ hrow=>?_
  subst hu
  refine J_stpx (stp_readrows 0 rfl i2.toNat (map_at hz)) fun ls hls=>?_
  obtain⟨hls1,hls2⟩:=hls
  obtain⟨⟨xa,xc⟩,⟨ya,yc⟩,rfl⟩:∃l0 l1,ls=[l0,l1]:=len2 hls1
  have f:=fun(j:Nat) v h=>hrow.atx (hls2 j v h)
  have r0:cur[0+i2.toNat*3]?=some (.slice xa (z.when.map eI).length xc):=by rw[Nat.zero_add];exact f 0 _ rfl
  have r1:cur[0+i2.toNat*3+1]?=some (.int .i64 z.place):=by rw[Nat.zero_add];exact f 1 _ rfl
  have r2:cur[0+i2.toNat*3+2]?=some (.slice ya (z.ops.map eOp).length yc):=by rw[Nat.zero_add];exact f 2 _ rfl
  try simp only[aQ]
  refine J_skip ?_
  try simp only[aQ]
  refine J_seq ?_
  try simp only[aQ]
  refine J_block ?_
  try simp only[aQ]
  refine J_seq ?_
  try simp only[aQ]
  refine Za [zR 0,zR 1] [9] [zI 5 i2] ?_
  try simp only[aQ]
  refine J_seq ?_
  try simp only[aQ]
  refine jT [(0,true),(1,true),(2,true),(3,true),(4,true),(5,false)] [] ?_
  refine Yp (Rds 0 3++[.rd 3 [] 0 2,.rd 4 [.o 0 (some (.slice xa ((List.map eI z.when).length) xc)),.o 0 (some (nI z.place)),.o 0 (some (.slice ya ((List.map eOp z.ops).length) yc))] 0 0]) [] [zV 11 (.func (.func 167) #[] #[.pointer (sA b3 0)]),zV 15 (.agg #[.slice xa ((List.map eI z.when).length) xc,nI z.place,.slice ya ((List.map eOp z.ops).length) yc])] (oC hi0 (oC hlt2 (oC r0 (oC r1 (oC r2 oN))))) ?_
  refine Yc 167 #[.agg #[.slice xa ((List.map eI z.when).length) xc,nI z.place,.slice ya ((List.map eOp z.ops).length) yc],.pointer (sA b3 0)] (some 16) fun w S hG=>?_
  refine(reads1 (c:=z) rfl (hG.at 0 rfl) (hG.at 1 rfl) (hG.at 2 rfl) (hG.at 3 rfl) ht1 ht2).mono ?_
  rintro e w2 hR
  refine⟨_,_,_,hR,?_⟩
  try simp only[aQ]
  refine JR_end ?_
  try simp only[aQ]
  refine J_hide 0 rfl ?_
  refine J_stp (stp_closeacc 1 0 rfl rfl hrow (by decide)) ?_
  rw[show(List.map eCom L).length=L.length from List.length_map ..]
  refine cC (t:=!seenB x.at' z) (fun hb=>?_) (fun hb=>?_)
  ·try simp only[aQ]
   refine J_seq ?_
   try simp only[aQ]
   refine Za [zR 0,zR 1] [16] [zI 4 i2] ?_
   try simp only[aQ]
   refine Yr [[]] (nI i2) fun a w s=>?_
   exact⟨i2,s.ret (by simp) [0] [] rfl rfl,.inr ⟨hi0,hlt2,⟨z,hz,by simpa using hb⟩,hno⟩⟩
  ·try simp only[aQ]
   refine J_skip ?_
   try simp only[aQ]
   refine J_eb ?_
   try simp only[aQ]
   refine Zp [.rd 0 [] 0 1,zR 1] [16] [zI 8 (i2+1)] (oC (show IntKind.i64.wrap (i2+1)=i2+1 from wrap_i64 (by omega) (by omega)) oN) ?_
   try simp only[aQ]
   refine J_backx (i2+1) [0,1,4,7,8] [] [0] [0,1,2] ?_ ?_ (by kernel_rfl) rfl rfl rfl
   ·refine⟨by omega,by omega,fun y hy=>?_⟩
    rw[←take_snoc hi0 hz,List.mem_append,List.mem_singleton]at hy
    rcases hy with hy|rfl
    ·exact hno y hy
    ·simpa using hb
   ·omega
 ·have e:List.take i2.toNat L=L:=List.take_of_length_le (by have:=of_decide_eq_false hlt;omega)
  rw[e]at hno
  refine J_exit rfl ?_
  refine Zs [zR 0] [9,0,1,7,8] [zI 4 (-1)] ?_
  refine Yr [[]] (nI (-1)) fun a w s=>?_
  exact⟨-1,s.ret (by simp) [0] [] rfl rfl,.inl ⟨rfl,hno⟩⟩
set_option maxHeartbeats 4000000 in
theorem deleteRd {M:List Nat} {ua:Option Addr} {n c:Nat} {L:List ComT} (hC:Rep w S .nilIface (dC er eb)) (h3:Rep w S (.pointer (some ⟨b3,0,none⟩)) (evPtr x (.slice a1 n1 c1) vr vw vo)) (h4:Rep w S (.slice a1 n1 c1) (dInts x.at')) (hP:Pre w S M [cAcc (.slice ua n c) 35 3 (L.map eCom)]) (hl:L.length≤1000000) (ht:∀c∈L,twoErr c.when x.at'=0∧c.when.length≤6∧x.at'.length≤6) :
  Calls Tryz.prog 165 #[.slice ua n c,clr b3] w fun e w'=>∃a' n' c',Ret M w S w' e (.slice a' n' c') [cAcc (.slice a' n' c') 35 3 ((L.filter (seenB x.at')).map eCom)] []:=by
 refine enG Tryz.func165 bd165 (args:=[.slice ua n c,clr b3]) (S:=S) (C:=[cAcc (.slice ua n c) 35 3 (L.map eCom)]) (G:=[(_,dC er eb),(_,evPtr x (.slice a1 n1 c1) vr vw vo),(_,dInts x.at')]) (by kernel_rfl) hP (.cons hC (.cons h3 (.cons h4 (.nil _ _)))) ?_
 refine J_stpx (stp_acclen 0 rfl) fun _ hk=>?_
 rw[List.length_map]at hk
 subst hk
 refine Zs [zR 0] [] [zS 4 none 0 0] ?_
 refine jS [(0,true),(1,true),(2,false),(3,true)] [] ?_
 refine Ya [zR 0,zR 1] [] [zS 8 ua L.length c,zV 9 (.func (.func 167) #[] #[.pointer (sA b3 0)])] ?_
 refine JR_call [] [0] 206 #[.slice ua L.length c,.func (.func 167) #[] #[.pointer (some (⟨b3,0,none⟩))]] (some 10) (by kernel_rfl) (by kernel_rfl) (by decide) (fun w S M hP hG _=>?_)
 refine(indexRd (hG.at 0 rfl) (hG.at 1 rfl) (hG.at 2 rfl) hP hl ht).mono ?_
 rintro e1 w1 ⟨r,hR,hr⟩
 refine⟨_,_,_,hR,?_⟩
 obtain⟨rfl,hall⟩|⟨hr0,hr1,⟨y,hy,hys⟩,hrn⟩:=hr
 ·try simp only[aQ]
  refine Ya [zR 3] [10,8,9] [zI 5 (-1)] ?_
  try simp only[aQ]
  refine JR_end ?_
  try simp only[aQ]
  refine J_seq ?_
  try simp only[aQ]
  refine J_seq ?_
  try simp only[aQ]
  refine Za [zR 0,zR 1] [] [zB 12 true] ?_
  try simp only[aQ]
  refine cTt ?_
  try simp only[aQ]
  refine J_seq ?_
  try simp only[aQ]
  refine Za [zR 0,zR 1] [12] [zS 4 ua L.length c] ?_
  try simp only[aQ]
  refine Yr [[]] (.slice ua L.length c) fun a w s=>?_
  rw[List.filter_eq_self.2 hall]
  exact⟨_,_,_,s.ret (by simp) [0] [] rfl rfl⟩
 ·have hrm:¬r = -1:=by omega
  try simp only[aQ]
  refine Ya [zR 3] [10,8,9] [zI 5 r] ?_
  try simp only[aQ]
  refine JR_end ?_
  try simp only[aQ]
  refine J_seq ?_
  try simp only[aQ]
  refine J_seq ?_
  try simp only[aQ]
  refine Zp [zR 0,.rd 1 [] 0 7] [] [zB 12 false] (oC (show(r==(-1:Int))=false from by simp;omega) oN) ?_
  try simp only[aQ]
  refine cF ?_
  try simp only[aQ]
  refine J_skip ?_
  try simp only[aQ]
  refine J_seq ?_
  try simp only[aQ]
  refine J_seq ?_
  try simp only[aQ]
  refine Zp [zR 0,.rd 1 [] 0 1,zR 2] [12] [zI 6 (r+1)] (oC (show IntKind.i64.wrap (r+1)=r+1 from wrap_i64 (by omega) (by omega)) oN) ?_
  try simp only[aQ]
  refine J_block ?_
  try simp only[aQ]
  refine J_openacc 0 rfl (by intro h0;rw[List.map_eq_nil_iff]at h0;rw[h0]at hy;simp at hy) fun g cur0 xs0 hu _ _ hrow0=>?_
  subst hu
  rw[List.length_map]at hrow0
  have hcap:L.length≤c:=hrow0.le
  refine J_loopx (fun q:DelQ ComT=>[zS 0 (sA g 0) L.length c,zV 1 (.func (.func 167) #[] #[.pointer (sA b3 0)]),zS 4 none 0 0,zI 5 q.i,zI 6 q.j]) (fun q:DelQ ComT=>[(g,.cells q.cur 35 (0,0))]) (fun q:DelQ ComT=>[cRows q.xs 3 (q.Lc.map eCom)]) (fun q:DelQ ComT=>[(.nilIface,(dC er eb)),(.pointer (sA b3 0),(evPtr x (Value.slice a1 n1 c1) vr vw vo)),(.slice a1 n1 c1,(dInts x.at'))]) (fun q:DelQ ComT=>(L.length - q.j).toNat) (fun q:DelQ ComT=>(0≤q.i∧q.i<q.j∧q.j≤L.length∧Row q.cur c L.length 3 q.xs∧DelI (seenB x.at') L q.i q.j q.Lc)) ⟨r,r+1,cur0,xs0,L⟩ [0,1,4,5,6] [0] [0] [0,1,2] ?_ (by kernel_rfl) rfl rfl rfl ?_
  ·exact⟨hr0,by simp only;omega,by simp only;omega,hrow0,.first hr0 hy hys hrn⟩
  rintro⟨i2,j,cu,xs,Lc⟩ ⟨hi0,hij,hj,hrow,hinv⟩
  dsimp only at hi0 hij hj hrow hinv ⊢
  refine J_seq ?_
  refine Zs (Rds 0 4) [] [zB 19 (decide (j<(↑L.length:Int)))] ?_
  refine cC (t:=decide (j<(↑L.length:Int))) (fun hlt=>?_) (fun hlt=>?_)
  ·have hlt2:j<L.length:=of_decide_eq_true hlt
   obtain⟨z,hz⟩:∃z,L[j.toNat]?=some z:=⟨_,List.getElem?_eq_getElem (by omega)⟩
   obtain⟨ht1,ht2⟩:=ht z (List.mem_of_getElem? hz)
   have hxc:=hinv.at hz
   refine J_stpx (stp_readrows 0 rfl j.toNat (map_at hxc)) fun ls hls=>?_
   obtain⟨hls1,hls2⟩:=hls
   obtain⟨⟨xa,xc⟩,⟨ya,yc⟩,rfl⟩:∃l0 l1,ls=[l0,l1]:=len2 hls1
   have f:=fun(j:Nat) v h=>hrow.atx (hls2 j v h)
   have r0:cu[0+j.toNat*3]?=some (.slice xa (z.when.map eI).length xc):=by rw[Nat.zero_add];exact f 0 _ rfl
   have r1:cu[0+j.toNat*3+1]?=some (.int .i64 z.place):=by rw[Nat.zero_add];exact f 1 _ rfl
   have r2:cu[0+j.toNat*3+2]?=some (.slice ya (z.ops.map eOp).length yc):=by rw[Nat.zero_add];exact f 2 _ rfl
   try simp only[aQ]
   refine J_skip (J_seq (J_block ?_))
   refine Zu [zR 0,zR 1,.rd 2 [] 0 2,.rd 3 [.o 0 (some (.slice xa ((List.map eI z.when).length) xc)),.o 0 (some (nI z.place)),.o 0 (some (.slice ya ((List.map eOp z.ops).length) yc))] 0 0,.wr 4 [] 0,.wr 5 (hnO 1 3) 0] [(5,[])] [19] (fun nu1=>[zP 7 (nu1 0)]) o0 (fun nu1=>[(nu1 0,.cells #[.slice xa ((List.map eI z.when).length) xc,nI z.place,.slice ya ((List.map eOp z.ops).length) yc] 35 (0,0))]) (fun nu1=>(oC (show 0≤j from by omega) (oC hlt2 (oC r0 (oC r1 (oC r2 oN)))))) (fun nu1=>?_)
   refine jS [(0,true),(1,true),(2,false),(3,true)] [] ?_
   refine Ya [zR 0,.rd 1 (hnO 1 3) 0 0] [] [zV 26 (.func (.func 167) #[] #[.pointer (sA b3 0)]),zV 27 (.agg #[.slice xa ((List.map eI z.when).length) xc,nI z.place,.slice ya ((List.map eOp z.ops).length) yc])] ?_
   refine Yc 167 #[.agg #[.slice xa ((List.map eI z.when).length) xc,nI z.place,.slice ya ((List.map eOp z.ops).length) yc],.pointer (sA b3 0)] (some 28) fun w S hG=>?_
   refine(reads1 (c:=z) rfl (hG.at 0 rfl) (hG.at 1 rfl) (hG.at 2 rfl) (hG.at 3 rfl) ht1 ht2).mono ?_
   rintro e w2 hR
   refine⟨_,_,_,hR,?_⟩
   try simp only[aQ]
   refine Ya [zR 3] [28,26,27] [zB 29 (!!seenB x.at' z)] ?_
   refine JR_end ?_
   refine cC (t:=!!seenB x.at' z) (fun hb=>?_) (fun hb=>?_)
   ·have hkeep:seenB x.at' z=true:=by simpa using hb
    have hsz:=hrow.siz
    have hll:=hinv.len
    have hi7:0+i2.toNat*3+3≤cu.size:=by omega
    refine jS [(0,true),(1,true),(2,true),(3,true),(4,false)] [] ?_
    refine Yp [zR 0,zR 1,.rd 2 (hnO 1 3) 0 0,.rd 3 [] 0 2] [29] [zV 32 (.agg #[.slice xa ((List.map eI z.when).length) xc,nI z.place,.slice ya ((List.map eOp z.ops).length) yc]),zV 33 (.pointer (sA g (0+i2.toNat*3)))] (oC hi0 (oC (show i2<(↑L.length:Int) from by omega) oN)) ?_
    refine JR_storerow 0 g (0+i2.toNat*3) 35 35 (.agg #[.slice xa ((List.map eI z.when).length) xc,.int .i64 z.place,.slice ya ((List.map eOp z.ops).length) yc]) [.slice xa ((List.map eI z.when).length) xc,.int .i64 z.place,.slice ya ((List.map eOp z.ops).length) yc] none (by kernel_rfl) (by kernel_rfl) (by kernel_rfl) rfl rfl rfl hi7 (by simp[Value.oneCell']) ?_
    refine JR_end ?_
    rw[Nat.zero_add]
    refine J_stp (stp_putrow 0 i2.toNat (vs:=[.slice xa (z.when.map eI).length xc,.int .i64 z.place,.slice ya (z.ops.map eOp).length yc]) (row:=eCom z) rfl (by rw[hrow.len,List.length_map,hll]) (by rw[List.length_map];omega) rfl ⟨.inr (.inl (List.mem_of_getElem? (i:=3) rfl)),.inl ⟨rfl,rfl⟩,.inr (.inl (List.mem_of_getElem? (i:=4) rfl)),trivial⟩) ?_
    rw[show(List.map eCom Lc).set i2.toNat (eCom z)=List.map eCom (Lc.set i2.toNat z) from List.map_set.symm]
    refine Zp [zR 0,.rd 1 [] 0 1,zR 2] [] [zI 5 (i2+1)] (oC (show IntKind.i64.wrap (i2+1)=i2+1 from wrap_i64 (by omega) (by omega)) oN) ?_
    refine J_eb ?_
    refine Zp [zR 0,.rd 1 [] 0 1,zR 2] [] [zI 6 (j+1)] (oC (show IntKind.i64.wrap (j+1)=j+1 from wrap_i64 (by omega) (by omega)) oN) ?_
    refine J_backx ⟨i2+1,j+1,_,_,Lc.set i2.toNat z⟩ [0,1,4,5,6] [0] [0] [0,1,2] ?_ ?_ (by kernel_rfl) rfl rfl rfl
    ·exact⟨by simp only;omega,by simp only;omega,by simp only;omega,hrow.turn (by omega) rfl,hinv.keep hi0 hij hlt2 hz hkeep⟩
    ·simp only
     omega
   ·have hdel:seenB x.at' z=false:=by simpa using hb
    refine J_skip (J_eb ?_)
    refine Zp [zR 0,.rd 1 [] 0 1,zR 2] [29] [zI 6 (j+1)] (oC (show IntKind.i64.wrap (j+1)=j+1 from wrap_i64 (by omega) (by omega)) oN) ?_
    refine J_backx ⟨i2,j+1,cu,xs,Lc⟩ [0,1,4,5,6] [0] [0] [0,1,2] ?_ ?_ (by kernel_rfl) rfl rfl rfl
    ·exact⟨hi0,by simp only;omega,by simp only;omega,hrow,hinv.skip (by omega) hz hdel⟩
    ·simp only
     omega
  ·have hjl:j=L.length:=by have:=of_decide_eq_false hlt;omega
   have hsz:=hrow.siz
   have hll:=hinv.len
   have hil:i2<L.length:=by omega
   have hic:i2<c:=by omega
   have hfin:Lc.take i2.toNat=L.filter (seenB x.at'):=by
    rw[hinv.take,hjl,List.take_of_length_le (by simp)]
   have hcl:0+i2.toNat*3+(L.length - i2.toNat)*3≤cu.size:=by omega
   refine J_exit rfl ?_
   refine jS [(0,true),(1,true),(2,true),(3,false)] [] ?_
   refine Yp [zR 0,zR 1,.rd 2 [] 0 4] [19,1,6] [zS 38 (sA g (0+i2.toNat*3)) (L.length - i2.toNat) (c - i2.toNat)] (oC hi0 (oC (show i2≤(↑L.length:Int) from by omega) (oC hic oN))) ?_
   refine JR_clear (size:=3) (bytes:=56) 0 g (0+i2.toNat*3) (L.length - i2.toNat) (c - i2.toNat) 153 35 (.agg #[.slice none 0 0,.int .i64 0,.slice none 0 0]) none (by kernel_rfl) (by kernel_rfl) (by kernel_rfl) (by kernel_rfl) (by omega) rfl rfl hcl (by simp[Value.cells,Value.oneCell']) (fun vs1 hvs1=>?_)
   refine JR_end (J_seq ?_)
   rw[Nat.zero_add]
   refine J_stp (stp_cutrows 0 i2.toNat rfl) ?_
   refine J_hide 0 rfl ?_
   refine Nm [(cRows (List.take (i2.toNat*3) xs) 3 (List.take i2.toNat (List.map eCom Lc))),cObj g (.cells (seg cu (i2.toNat*3) vs1) 35 (0,0))] ?_
   rw[show List.take i2.toNat (List.map eCom Lc)=List.map eCom (L.filter (seenB x.at'))by rw[←List.map_take,hfin]]
   have hrow2:=hrow.clr (i:=i2.toNat) (by omega) hvs1
   have hkl:(List.map eCom (L.filter (seenB x.at'))).length=i2.toNat:=by rw[←hfin];simp;omega
   refine J_stp (stp_closeacc 1 0 rfl rfl (by rw[hkl];exact hrow2) (by decide)) ?_
   rw[hkl]
   try simp only[aQ]
   refine Zp [zR 0,zR 1,.rd 2 [] 0 4,zR 3] [38,0,5] [zS 4 (sA g 0) i2.toNat c] (oC hi0 (oC (show i2≤(↑c:Int) from by omega) oN)) ?_
   try simp only[aQ]
   refine Yr [[]] (.slice (sA g 0) i2.toNat c) fun a w s=>?_
   exact⟨_,_,_,s.ret (by simp) [0] [] rfl rfl⟩
end
end Go.Proofs.YtmkapocibaojdaaGreatDoor
end
section
namespace Go.Proofs.YtmkapocibaojdaaGreatDoor
open Go Go.Sx
set_option maxHeartbeats 4000000 in
theorem obj_ptrs {w:World} {S:Nat→Prop} {b:Nat} {vs:List Value} {ty:TypeId} {fz:Nat×Nat} (h:Rep w S (.pointer (some ⟨b,0,none⟩)) (.obj (.cells ⟨vs⟩ ty fz))) (h1:∀v∈vs,v.oneCell'=true):Rep w S (.pointer (some ⟨b,0,none⟩)) (.ptr (vs.map .v)):=by
 cases h with
 | obj hb hS=>
  refine .ptr (fun j=>vs.getD j undef) hb hS (fun j hj=>?_) (fun j d hj=>?_)
  ·rw[List.length_map]at hj
   simp[hj]
  ·rw[List.getElem?_map]at hj
   obtain⟨v,hv,rfl⟩:=Option.map_eq_some_iff.1 hj
   rw[List.getD_eq_getElem?_getD,hv]
   exact .v (h1 v (List.mem_of_getElem? hv))
set_option maxHeartbeats 4000000 in
theorem cloneComs {w0:World} {S:Nat→Prop} {a:Option Addr} {n c:Nat} {xs:List ComT} (ha:Rep w0 S (.slice a n c) (.sl 3 (xs.map eCom))) (hl:xs.length≤1000000) :
  Calls Tryz.prog 166 #[.slice a n c] w0 fun e w'=>∃a' c',Ret [] w0 S w' e (.slice a' n c') [cAcc (.slice a' n c') 35 3 (xs.map eCom)] []:=by
 have hlen:=ha.slen
 rw[List.length_map]at hlen
 subst hlen
 cases a with
 | none=>
  have h0:xs=[]:=by simpa using rep_none ha
  subst h0
  refine epG Tryz.func166 bd166 (args:=[.slice none ([]:List ComT).length c]) (S:=S) (G:=[]) (by kernel_rfl) (.nil _ _) ?_
  refine J_stp (stp_accm eCom 35 3) ?_
  try simp only[aQ]
  refine Zs [zR 0] [] [zS 2 none 0 0] ?_
  refine J_seq ?_
  refine Zs [zR 0,zR 1] [] [zB 4 true] ?_
  refine cTt ?_
  refine Zs [zR 0] [4] [] ?_
  refine Yr [[]] (.slice none 0 0) fun a w s=>?_
  exact⟨none,0,s.ret (by simp) [0] [] rfl rfl⟩
 | some ad=>
  refine epG Tryz.func166 bd166 (args:=[.slice (some ad) xs.length c]) (G:=[(_,.sl 3 (xs.map eCom))]) (by kernel_rfl) (.cons ha (.nil _ _)) ?_
  refine Zs [zR 0] [] [zS 2 none 0 0] ?_
  refine J_seq ?_
  refine Zs [zR 0,zR 1] [] [zB 4 false] ?_
  refine cF ?_
  refine J_skip ?_
  refine jS [(0,false),(1,true),(2,false),(3,true)] [] ?_
  refine Ym [.wr 0 [] 0,zR 1] [4,0] (fun nu1=>[zS 5 (sA (nu1 0) 0) 0 0,zS 6 (some ad) xs.length c]) o0 (fun nu1=>[(nu1 0,.cells #[] 35 (0,0))]) [] (fun nu1=>?_)
  refine JR_acczm eCom 0 3 rfl (by kernel_rfl) (by decide) ?_
  refine JR_appm 0 153 35 3 56 (.agg #[.slice none 0 0,.int .i64 0,.slice none 0 0]) (a0:=(some (⟨nu1 0,0,none⟩))) (len:=0) (cap0:=0) (ax:=(some ad)) (m:=xs.length) (c:=c) (dst:=(some 7)) xs (by kernel_rfl) (by kernel_rfl) (by kernel_rfl) (by kernel_rfl) rfl (by decide) rfl (fun _ _ _ s=>src_fact s 0 rfl (by decide)) (by simp only[maxLen];omega) (by omega) (fun av1 cv1=>?_)
  rw[Nat.zero_add]
  try simp only[aQ]
  refine Ya [zR 3] [7,5,6] [zS 2 av1 xs.length cv1] ?_
  try simp only[aQ]
  refine JR_end ?_
  try simp only[aQ]
  refine Yr [[]] (.slice av1 xs.length cv1) fun a w s=>?_
  exact⟨_,_,s.ret (by simp) [0] [] rfl rfl⟩
set_option maxHeartbeats 4000000 in
theorem jReads {w:World} {S:Nat→Prop} {er:Nat→Addr} {eb:Nat→Array Value×TypeId} {x:EvT} {ua a1 a2 a3 a4:Option Addr} {un uc n1 c1 n2 c2 n3 c3 n4 c4 p:Nat} {L:List ComT} (hC:Rep w S .nilIface (dC er eb)) (h1:Rep w S (.slice a1 n1 c1) (dInts x.at')) (h2:Rep w S (.slice a2 n2 c2) (.sl 5 (x.reads.map eRead))) (h5:Rep w S (.slice ua un uc) (.sl 3 (L.map eCom))) (hl:L.length≤300000) (hrl:x.reads.length≤1000000) (hrs:∀r∈x.reads,r.v.set.length≤1000000) (ht:∀c∈L,twoErr c.when x.at'=0∧c.when.length≤6∧x.at'.length≤6) (hf:∀c∈L,(comFault c).code=0∧c.when.length=p) :
  Calls Tryz.prog 115 #[evA x (.slice a1 n1 c1) (.slice a2 n2 c2) (.slice a3 n3 c3) (.slice a4 n4 c4),.slice ua un uc] w fun e w'=>Ret [] (zero w) S w' e (.bool (x.reads.all (readE (L.filter (seenB x.at'))))) [] []:=by
 have e1:=h5.slen
 have e2:=h2.slen
 rw[List.length_map]at e1 e2
 subst e1 e2
 have hfl:(L.filter (seenB x.at')).length≤L.length:=List.length_filter_le _ _
 have hff:∀c∈L.filter (seenB x.at'),(comFault c).code=0∧c.when.length=p:=fun c hc=>hf c (List.mem_filter.1 hc).1
 refine epG Tryz.func115 bd115 (args:=[evA x (.slice a1 n1 c1) (.slice a2 x.reads.length c2) (.slice a3 n3 c3) (.slice a4 n4 c4),.slice ua L.length uc]) (S:=S) (G:=[(_,dC er eb),(_,dInts x.at'),(_,.sl 5 (x.reads.map eRead)),(_,.sl 3 (L.map eCom))]) (by kernel_rfl) (.cons hC (.cons h1 (.cons h2 (.cons h5 (.nil _ _))))) ?_
 refine J_zero ?_
 refine Zv [.wr 0 [] 0,zR 1] [] [0] (fun nu1=>[zP 2 (nu1 0),zB 4 false]) o0 (fun nu1=>[(nu1 0,.cells #[nI x.ses,nI x.place,.slice a1 n1 c1,.slice a2 x.reads.length c2,.slice a3 n3 c3,nI x.c.place,.slice a4 n4 c4] 200 (0,0))]) (fun nu1=>?_)
 refine J_seq ?_
 refine J_share 0 rfl ?_
 refine J_stp (stp_fact (v:=.pointer (some ⟨nu1 0,0,none⟩)) (d:=evPtr x (.slice a1 n1 c1) (.slice a2 x.reads.length c2) (.slice a3 n3 c3) (.slice a4 n4 c4)) fun w S H=>obj_ptrs (vs:=[.int .i64 x.ses,.int .i64 x.place,.slice a1 n1 c1,.slice a2 x.reads.length c2,.slice a3 n3 c3,.int .i64 x.c.place,.slice a4 n4 c4]) (H _ (List.mem_of_getElem? (i:=4) rfl)) (by simp[Value.oneCell'])) ?_
 refine Nm [] ?_
 try simp only[aQ]
 refine jT [(0,true),(1,false),(2,true),(3,false),(4,true)] [] ?_
 refine Ya [zR 0] [1] [zS 10 ua L.length uc] ?_
 refine Yc 166 #[.slice ua L.length uc] (some 11) fun w S hG=>?_
 refine(cloneComs (hG.at 3 rfl) (by omega)).mono ?_
 rintro e3 w3 ⟨u1,d1,hR⟩
 refine⟨_,_,_,hR,?_⟩
 try simp only[aQ]
 refine Ya [zR 2] [10] [zV 12 (.func (.func 167) #[] #[.pointer (sA (nu1 0) 0)])] ?_
 refine JR_call [] [0] 165 #[.slice u1 L.length d1,.func (.func 167) #[] #[.pointer (some (⟨nu1 0,0,none⟩))]] (some 13) (by kernel_rfl) (by kernel_rfl) (by decide) (fun w S M hP hG _=>?_)
 refine(deleteRd (x:=x) (hG.at 0 rfl) (hG.at 5 rfl) (hG.at 1 rfl) hP (by omega) ht).mono ?_
 rintro e4 w4 ⟨u2,m2,d2,hR⟩
 refine⟨_,_,_,hR,?_⟩
 try simp only[aQ]
 refine Ya [zR 4] [13,12,11] [zS 5 u2 m2 d2] ?_
 try simp only[aQ]
 refine JR_end ?_
 try simp only[aQ]
 refine J_seq ?_
 try simp only[aQ]
 refine J_seq ?_
 try simp only[aQ]
 refine J_stp (stp_freeze 0 rfl) ?_
 refine Nm [] ?_
 refine J_ptrl 5 rfl fun b off cs ey fz ls he hl2 hc=>?_
 cases he
 obtain rfl:ls=[]:=List.eq_nil_of_length_eq_zero hl2
 have hc3:cs[0+3]?=some (.slice a2 x.reads.length c2):=hc 3 _ rfl
 try simp only[aQ]
 refine Zp [zR 0,.rd 1 [.r 0 (some (.slice a2 x.reads.length c2))] 0 0,zR 2,zR 3] [2] [zS 15 a2 x.reads.length c2,zI 16 (↑x.reads.length:Int),zI 17 0] (oC hc3 oN) ?_
 refine J_block ?_
 refine J_loopx (fun i:Int=>[zB 4 false,zS 5 u2 m2 d2,zS 15 a2 x.reads.length c2,zI 16 (↑x.reads.length:Int),zI 17 i]) (fun i:Int=>[]) (fun i:Int=>[]) (fun i:Int=>[(.nilIface,(dC er eb)),(.slice a2 x.reads.length c2,(D.sl 5 (List.map eRead x.reads))),(.slice u2 m2 d2,(D.sl 3 (List.map eCom (List.filter (seenB x.at') L))))]) (fun i:Int=>(x.reads.length - i).toNat) (fun i:Int=>(0≤i∧i≤x.reads.length∧∀r∈x.reads.take i.toNat,readE (L.filter (seenB x.at')) r=true)) 0 [4,5,15,16,17] [] [] [0,2,6] ?_ (by kernel_rfl) rfl rfl rfl ?_
 ·exact⟨by simp,by omega,by simp⟩
 rintro i ⟨hi0,hi,hno⟩
 refine Zs [zR 0] [] [zB 18 (decide (i<(↑x.reads.length:Int)))] ?_
 refine J_seq ?_
 refine cC (t:=decide (i<(↑x.reads.length:Int))) (fun hlt=>?_) (fun hlt=>?_)
 ·have hlt2:i<x.reads.length:=of_decide_eq_true hlt
  obtain⟨r,hr⟩:∃r,x.reads[i.toNat]?=some r:=⟨_,List.getElem?_eq_getElem (by omega)⟩
  have hrm:=List.mem_of_getElem? hr
  have hset:=hrs r hrm
  have hbad:readE (L.filter (seenB x.at')) r=false→x.reads.all (readE (L.filter (seenB x.at')))=false:=fun h=>List.all_eq_false.2 ⟨r,hrm,by simp[h]⟩
  refine J_read1 1 rfl i.toNat (map_at hr) (by kernel_rfl) (fun b1 off1 cs1 ty1 fz1 a1_0 c1_0 ha1 hrd1=>?_)
  cases ha1
  have hrd1_0:=rd0 (hrd1 0 _ rfl)
  have hrd1_1:=hrd1 1 _ rfl
  have hrd1_2:=hrd1 2 _ rfl
  have hrd1_3:=hrd1 3 _ rfl
  have hrd1_4:=hrd1 4 _ rfl
  try simp only[aQ]
  refine J_skip (J_seq (J_block ?_))
  refine Zu [.rd 0 [] 0 2,.rd 1 [.r 1 (some (.string r.key)),.r 1 (some (nI r.v.kind)),.r 1 (some (.string r.v.text)),.r 1 (some (nI r.v.n)),.r 1 (some (.slice (a1_0,c1_0).fst ((List.map eS r.v.set).length) c1_0))] 0 0,.wr 2 [] 0,.wr 3 (hnO 0 5) 0] [(3,[])] [18] (fun nu2=>[zP 7 (nu2 0)]) o0 (fun nu2=>[(nu2 0,.cells #[.string r.key,nI r.v.kind,.string r.v.text,nI r.v.n,.slice (a1_0,c1_0).fst ((List.map eS r.v.set).length) c1_0] 208 (0,0))]) (fun nu2=>(oC hi0 (oC hlt2 (oC hrd1_0 (oC hrd1_1 (oC hrd1_2 (oC hrd1_3 (oC hrd1_4 oN)))))))) (fun nu2=>?_)
  refine jS [(0,true),(1,true),(2,true),(3,false),(4,true),(5,true),(6,true),(7,false),(8,false),(9,true)] [] ?_
  refine Ya [zR 0,.rd 1 [.o 0 none] 0 0,zR 2] [] [zV 23 (.string r.key),zS 24 u2 m2 d2] ?_
  refine JR_callzp [] 105 #[.string r.key,.slice u2 m2 d2] (some 25) zero_all (by kernel_rfl) (fun w S hG=>?_)
  refine(vOf (key:=r.key) (l:=L.filter (seenB x.at')) (hG.at 0 rfl) (hG.at 2 rfl) (by omega) (fun z hz=>by have:=(ht z (List.mem_filter.1 hz).1).2.1;omega) (fun z hz=>by have:=(right_of (hff z hz).1).o2;omega)).mono ?_
  cases hn:nameOk r.key with
  | false=>
   have hvf:valFault r.key (L.filter (seenB x.at'))=⟨4,-1⟩:=by rw[valFault,if_pos hn]
   rintro e5 w5 (⟨hf0,⟨hat,v,hR,hv⟩|⟨_,h0,_⟩⟩|⟨hf0,_⟩)
   case inl.inr=>rw[hvf]at h0;simp at h0
   case inr=>rw[hvf]at hf0;simp at hf0
   rw[hvf]at hv
   obtain⟨h,_⟩|⟨_,rfl⟩:=hv
   ·cases h
   refine⟨_,_,_,hR,?_⟩
   rw[hbad (by simp[readE,hn])]
   try simp only[aQ]
   refine Ym (Rds 4 7++[.wr 7 [] 0,.wr 8 (hnO 1 4) 0,zR 9]) [25,23,24] (fun nu3=>[zP 8 (nu3 0),zV 9 (.iface 390 (.pointer (some (er 4))))]) o0 (fun nu3=>[(nu3 0,.cells #[nI 0,.string (ByteArray.mk #[]),nI 0,.slice none 0 0] 64 (0,0))]) [] (fun nu3=>?_)
   refine JR_end ?_
   refine Zs (Rds 0 3++[.rd 3 [] 1 0,.rd 4 [] 1 0,.rd 5 [] 1 0,.wr 6 [] 1,.rd 7 [] 1 0,zR 8]) [] [zB 36 true] ?_
   refine cTt ?_
   refine Zs [zR 0] [36] [] ?_
   refine Yr [[]] (.bool false) fun a w s=>?_
   exact s.retz (by simp) [] [] rfl rfl
  | true=>
   have hvf:=valFault_mk hn (fun z hz=>(hff z hz).1) p fun z hz=>(hff z hz).2
   rintro e5 w5 (⟨hf0,_⟩|⟨_,u5,m5,d5,hR⟩)
   ·exact absurd hvf hf0
   have hvl:=valOf_len hvf
   refine⟨_,_,_,hR,?_⟩
   try simp only[aQ]
   refine Ym (Rds 4 7++[.wr 7 [] 0,.wr 8 (hnO 1 4) 0,zR 9]) [25,23,24] (fun nu3=>[zP 8 (nu3 0),zV 9 .nilIface]) o0 (fun nu3=>[(nu3 0,.cells #[nI ((Sx.valOf r.key (List.filter (seenB x.at') L)).kind),.string ((Sx.valOf r.key (List.filter (seenB x.at') L)).text),nI ((Sx.valOf r.key (List.filter (seenB x.at') L)).n),.slice u5 m5 d5] 64 (0,0))]) [] (fun nu3=>?_)
   refine JR_end ?_
   refine jS [(0,true),(1,true),(2,true),(3,true),(4,true),(5,true),(6,false),(7,true),(8,true)] [] ?_
   refine Ya (Rds 0 3++[.rd 3 (hnO 1 4) 0 0,zR 4,.rd 5 (hnO 0 4) 0 0]) [] [zB 30 false,zV 31 (.agg #[nI ((Sx.valOf r.key (List.filter (seenB x.at') L)).kind),.string ((Sx.valOf r.key (List.filter (seenB x.at') L)).text),nI ((Sx.valOf r.key (List.filter (seenB x.at') L)).n),.slice u5 m5 d5]),zV 33 (.agg #[nI r.v.kind,.string r.v.text,nI r.v.n,.slice a1_0 ((List.map eS r.v.set).length) c1_0])] ?_
   refine Yc 168 #[.agg #[nI ((Sx.valOf r.key (List.filter (seenB x.at') L)).kind),.string ((Sx.valOf r.key (List.filter (seenB x.at') L)).text),nI ((Sx.valOf r.key (List.filter (seenB x.at') L)).n),.slice u5 m5 d5],.agg #[nI r.v.kind,.string r.v.text,nI r.v.n,.slice a1_0 ((List.map eS r.v.set).length) c1_0]] (some 34) fun w S hG=>?_
   refine(jSame (v1:=Sx.valOf r.key (L.filter (seenB x.at'))) (v2:=r.v) (hG.at 4 rfl) (hG.at 3 rfl) (by omega) (by omega)).mono ?_
   rintro e6 w6 hR
   refine⟨_,_,_,hR,?_⟩
   by_cases hsm:Sx.valOf r.key (L.filter (seenB x.at'))=r.v
   ·rw[decide_eq_true hsm]
    try simp only[aQ]
    refine Ya [zR 7,zR 8] [34,30,31,33] [zB 36 false] ?_
    refine JR_end ?_
    refine cF ?_
    refine J_skip (J_eb ?_)
    refine Zp [.rd 0 [] 0 1,zR 1] [36] [zI 17 (i+1)] (oC (show IntKind.i64.wrap (i+1)=i+1 from wrap_i64 (by omega) (by omega)) oN) ?_
    refine J_backx (i+1) [4,5,15,16,17] [] [] [0,1,2] ?_ ?_ (by kernel_rfl) rfl rfl rfl
    ·refine⟨by omega,by omega,fun y hy=>?_⟩
     rw[←take_snoc hi0 hr,List.mem_append,List.mem_singleton]at hy
     rcases hy with hy|rfl
     ·exact hno y hy
     ·simp[readE,hn,hsm]
    ·omega
   ·rw[decide_eq_false hsm,hbad (by simp[readE,hsm])]
    try simp only[aQ]
    refine Ya [zR 7,zR 8] [34,30,31,33] [zB 36 true] ?_
    refine JR_end ?_
    refine cTt ?_
    refine Zs [zR 0] [36] [] ?_
    refine Yr [[]] (.bool false) fun a w s=>?_
    exact s.retz (by simp) [] [] rfl rfl
 ·have hie:i.toNat=x.reads.length:=by have:=of_decide_eq_false hlt;omega
  rw[hie,List.take_length]at hno
  rw[List.all_eq_true.2 hno]
  refine J_exit rfl ?_
  refine Zs [zR 0] [18,5,15,16,17] [zB 4 true] ?_
  refine Yr [[]] (.bool true) fun a w s=>?_
  exact s.retz (by simp) [] [] rfl rfl
end Go.Proofs.YtmkapocibaojdaaGreatDoor
end
section
namespace Go.Proofs.YtmkapocibaojdaaGreatDoor
open Go Go.Sx
structure Fits (x:EvT):Prop where
 at':x.at'.length≤20
 wh:x.c.when.length≤1000000
 ops:x.c.ops.length≤1000000
 reads:x.reads.length≤20
 sets:∀r∈x.reads,r.v.set.length≤20
theorem shape_ok {p:Int} {x:EvT} (h:shapeE p x=0):vecErr x.at'=0∧(x.at'.length:Int)=p∧vecErr x.c.when=0∧(x.c.when.length:Int)=p∧(x.c.ops≠[]→(comFault x.c).code=0):=by
 unfold shapeE at h
 split at h
 ·cases h
 ·rename_i hn
  refine⟨by omega,by omega,by omega,by omega,fun ho=>?_⟩
  rwa[if_neg ho]at h
theorem two_ok {p:Int} {x y:EvT} (hx:shapeE p x=0) (hy:shapeE p y=0):twoErr x.c.when y.at'=0∧twoErr y.at' x.c.when=0:=by
 obtain⟨_,_,x3,x4,_⟩:=shape_ok hx
 obtain⟨y1,y2,_,_,_⟩:=shape_ok hy
 constructor
 ·rw[twoErr,if_neg (by simp[x3]),if_neg (by simp[y1]),if_neg (by omega)]
 ·rw[twoErr,if_neg (by simp[y1]),if_neg (by simp[x3]),if_neg (by omega)]
theorem even_of {p:Int} {l:List EvT} (h:∀x∈l,shapeE p x=0):Even6 l:=by
 refine⟨fun x hx y hy=>two_ok (h x hx) (h y hy),fun x hx=>?_⟩
 obtain⟨x1,_,x3,_,_⟩:=shape_ok (h x hx)
 exact⟨(vecErr_len x3).2,(vecErr_len x1).2⟩
theorem coms_mem {l:List EvT} {c:ComT} (h:c∈comsE l):∃x∈l,c=x.c∧x.c.ops≠[]:=by
 obtain⟨h1,h2⟩:=List.mem_filter.1 h
 obtain⟨x,hx,rfl⟩:=List.mem_map.1 h1
 exact⟨x,hx,rfl,by simpa using h2⟩
set_option maxHeartbeats 8000000 in
theorem jCheck {w:World} {S:Nat→Prop} {er:Nat→Addr} {eb:Nat→Array Value×TypeId} {ua:Option Addr} {n c:Nat} {places:Int} {l:List EvT} (hC:Rep w S .nilIface (dC er eb)) (h:Rep w S (.slice ua n c) (.sl 7 (l.map eEv))) (hl:l.length≤20) (hf:∀x∈l,Fits x) :
  Calls Tryz.prog 48 #[.int .i64 places,.slice ua n c] w fun e w'=>FRet (zero w) S w' e er (evFault places l):=by
 have e1:=h.slen
 rw[List.length_map]at e1
 subst e1
 refine epG Tryz.func48 bd48 (args:=[.int .i64 places,.slice ua l.length c]) (S:=S) (G:=[(_,dC er eb),(_,.sl 7 (l.map eEv))]) (by kernel_rfl) (.cons hC (.cons h (.nil _ _))) ?_
 refine J_zero ?_
 refine J_stp (stp_all 0 [1,8,7] rfl rfl) ?_
 refine J_glob 2 rfl (fun csg1 tyg1 fzg1 hglob1=>?_)
 refine J_glob 3 rfl (fun csg2 tyg2 fzg2 hglob2=>?_)
 refine J_glob 4 rfl (fun csg3 tyg3 fzg3 hglob3=>?_)
 try simp only[aQ]
 refine Zs [zR 0] [] [zV 4 .nilIface] ?_
 refine J_seq ?_
 refine Zs (Rds 0 3++[.rd 3 [] 2 0,.rd 4 [] 2 0,.rd 5 [] 0 3]) [] [zB 19 (decide (places<1)||decide (places>6))] ?_
 refine cC (t:=decide (places<1)||decide (places>6)) (fun hb=>?_) (fun hb=>?_)
 ·have e:evFault places l=⟨2,-1⟩:=by rw[evFault,if_pos (by simp at hb;omega)]
  refine Zt [.rd 0 [.r 0 (some (.iface 390 (.pointer (some (er 2)))))] 0 0,zR 1] [19] [zV 4 (.iface 390 (.pointer (some (er 2))))] (oC hglob1 oN) ?_
  refine Yr [[]] (.iface 390 (.pointer (some (er 2)))) fun a w s=>?_
  rw[e]
  exact .inl ⟨rfl,_,s.retz (by simp) [] [] rfl rfl,.inr ⟨by decide,rfl⟩⟩
 have hp:¬(places<1∨6<places):=by simp at hb;omega
 refine J_skip (J_seq ?_)
 refine Zs (Rds 0 3) [19] [zS 21 ua l.length c,zI 22 (↑l.length:Int),zI 23 0] ?_
 refine J_block ?_
 refine J_loopx (fun i:Int=>[zI 0 places,zS 1 ua l.length c,zV 4 .nilIface,zS 21 ua l.length c,zI 22 (↑l.length:Int),zI 23 i]) (fun i:Int=>[]) (fun i:Int=>[]) (fun i:Int=>[(.nilIface,(dC er eb)),(.slice ua l.length c,(D.sl 7 (List.map eEv l))),(.pointer (sA 0 0),(D.ptr [D.v (Value.iface 390 (Value.pointer (some (er 2))))])),(.pointer (sA 5 0),(D.ptr [D.v (Value.iface 390 (Value.pointer (some (er 9))))])),(.pointer (sA 6 0),(D.ptr [D.v (Value.iface 390 (Value.pointer (some (er 8))))]))]) (fun i:Int=>(l.length - i).toNat) (fun i:Int=>(0≤i∧i≤l.length∧∀k y,k<i.toNat→l[k]?=some y→shapeE places y=0)) 0 [0,1,4,21,22,23] [] [] [0,1,2,3,4] ?_ (by kernel_rfl) rfl rfl rfl ?_
 ·exact⟨by simp,by omega,by simp⟩
 rintro i ⟨hi0,hi,hno⟩
 refine Zs [zR 0] [] [zB 24 (decide (i<(↑l.length:Int)))] ?_
 refine J_seq ?_
 refine cC (t:=decide (i<(↑l.length:Int))) (fun hlt=>?_) (fun hlt=>?_)
 ·have hlt2:i<l.length:=of_decide_eq_true hlt
  obtain⟨x,hx⟩:∃x,l[i.toNat]?=some x:=⟨_,List.getElem?_eq_getElem (by omega)⟩
  have hfx:=hf x (List.mem_of_getElem? hx)
  have hf1:=hfx.at'
  have hf2:=hfx.wh
  have hf3:=hfx.ops
  refine J_read4 1 rfl i.toNat (map_at hx) (by kernel_rfl) (fun b1 off1 cs1 ty1 fz1 a1_0 c1_0 a1_1 c1_1 a1_2 c1_2 a1_3 c1_3 ha1 hrd1=>?_)
  cases ha1
  have hrd1_0:=rd0 (hrd1 0 _ rfl)
  have hrd1_1:=hrd1 1 _ rfl
  have hrd1_2:=hrd1 2 _ rfl
  have hrd1_3:=hrd1 3 _ rfl
  have hrd1_4:=hrd1 4 _ rfl
  have hrd1_5:=hrd1 5 _ rfl
  have hrd1_6:=hrd1 6 _ rfl
  try simp only[aQ]
  refine J_skip (J_seq (J_block ?_))
  refine Zu [zR 0,.rd 1 [] 0 2,.rd 2 [.r 3 (some (nI x.ses)),.r 3 (some (nI x.place)),.r 3 (some (.slice (a1_0,c1_0).fst ((List.map eI x.at').length) c1_0)),.r 3 (some (.slice (a1_1,c1_1).fst ((List.map eRead x.reads).length) c1_1)),.r 3 (some (.slice (a1_2,c1_2).fst ((List.map eI x.c.when).length) c1_2)),.r 3 (some (nI x.c.place)),.r 3 (some (.slice (a1_3,c1_3).fst ((List.map eOp x.c.ops).length) c1_3))] 0 0,.wr 3 [] 0,zR 4,.wr 5 (hnO 0 7) 0] [(5,[])] [24] (fun nu1=>[zI 5 i,zP 6 (nu1 0)]) o0 (fun nu1=>[(nu1 0,.cells #[nI x.ses,nI x.place,.slice (a1_0,c1_0).fst ((List.map eI x.at').length) c1_0,.slice (a1_1,c1_1).fst ((List.map eRead x.reads).length) c1_1,.slice (a1_2,c1_2).fst ((List.map eI x.c.when).length) c1_2,nI x.c.place,.slice (a1_3,c1_3).fst ((List.map eOp x.c.ops).length) c1_3] 200 (0,0))]) (fun nu1=>(oC hi0 (oC hlt2 (oC hrd1_0 (oC hrd1_1 (oC hrd1_2 (oC hrd1_3 (oC hrd1_4 (oC hrd1_5 (oC hrd1_6 oN)))))))))) (fun nu1=>?_)
  refine jS [(0,true),(1,true),(2,false),(3,true)] [] ?_
  refine Ya [zR 0,.rd 1 (hnO 0 7) 0 0] [] [zI 28 places,zV 29 (.agg #[nI x.ses,nI x.place,.slice (a1_0,c1_0).fst ((List.map eI x.at').length) c1_0,.slice (a1_1,c1_1).fst ((List.map eRead x.reads).length) c1_1,.slice (a1_2,c1_2).fst ((List.map eI x.c.when).length) c1_2,nI x.c.place,.slice (a1_3,c1_3).fst ((List.map eOp x.c.ops).length) c1_3])] ?_
  refine Yc 112 #[nI places,.agg #[nI x.ses,nI x.place,.slice (a1_0,c1_0).fst ((List.map eI x.at').length) c1_0,.slice (a1_1,c1_1).fst ((List.map eRead x.reads).length) c1_1,.slice (a1_2,c1_2).fst ((List.map eI x.c.when).length) c1_2,nI x.c.place,.slice (a1_3,c1_3).fst ((List.map eOp x.c.ops).length) c1_3]] (some 30) fun w S hG=>?_
  refine(jShape (e:=x) (places:=places) (hG.at 0 rfl) (hG.at 5 rfl) (hG.at 7 rfl) (hG.at 8 rfl) (by omega) hf2 hf3).mono ?_
  rintro e1 w1 ⟨v,hR,hv⟩
  refine⟨_,_,_,hR,?_⟩
  obtain⟨hk0,rfl⟩|⟨hk0,rfl⟩:=hv
  ·try simp only[aQ]
   refine Ya [zR 3] [30,28,29] [zV 7 .nilIface] ?_
   refine JR_end ?_
   refine Zs [zR 0,zR 1] [] [zB 32 false] ?_
   refine cF ?_
   refine J_skip (J_eb ?_)
   refine Zp [.rd 0 [] 0 1,zR 1] [32] [zI 23 (i+1)] (oC (show IntKind.i64.wrap (i+1)=i+1 from wrap_i64 (by omega) (by omega)) oN) ?_
   refine J_backx (i+1) [0,1,4,21,22,23] [] [] [0,1,2,3,4] ?_ ?_ (by kernel_rfl) rfl rfl rfl
   ·refine⟨by omega,by omega,fun k y hk hy=>?_⟩
    by_cases hki:k=i.toNat
    ·subst hki
     rw[hx]at hy
     cases hy
     exact hk0
    ·exact hno k y (by omega) hy
   ·omega
  ·have hfa:=firstE_at (f:=fun _=>shapeE places) (i:=0) hx hk0 fun k y hk hy=>hno k y hk hy
   have e:evFault places l=⟨shapeE places x,i⟩:=by
    rw[evFault,if_neg hp,hfa,if_pos hk0,Nat.zero_add,Int.toNat_of_nonneg hi0]
   try simp only[aQ]
   refine Ya [zR 3] [30,28,29] [zV 7 (.iface 390 (.pointer (some (er (shapeE places x)))))] ?_
   refine JR_end ?_
   refine Zs [zR 0,zR 1] [] [zB 32 true] ?_
   refine cTt ?_
   refine Zv (Rds 0 3++[.wr 3 [] 0,zR 4,zR 5]) [] [32] (fun nu2=>[zV 4 (.iface 202 (.pointer (sA (nu2 0) 0)))]) o0 (fun nu2=>[(nu2 0,.cells #[nI i,.iface 390 (.pointer (some (er (shapeE places x))))] 204 (0,0))]) (fun nu2=>?_)
   refine Yr [[]] (.iface 202 (.pointer (sA (nu2 0) 0))) fun a w s=>?_
   rw[e]
   exact .inr ⟨by simp only;omega,hi0,_,((s.share 1 rfl).stp (stp_fact fun w S H=>ptr_of_obj rfl rfl (H (_,_) (List.mem_of_getElem? (i:=9) rfl)))).retz (by simp) [] [10] rfl rfl⟩
 have hie:i.toNat=l.length:=by have:=of_decide_eq_false hlt;omega
 have hall:∀x∈l,shapeE places x=0:=fun x hx=>by
  obtain⟨k,hk⟩:=List.getElem?_of_mem hx
  exact hno k x (by have:=(List.getElem?_eq_some_iff.1 hk).1;omega) hk
 have hev:evFault places l=firstE (fun i e=>eventE l i e) 0 l:=by
  rw[evFault,if_neg hp,firstE_none (f:=fun _=>shapeE places) fun k x hx=>hall x (List.mem_of_getElem? hx),if_neg (by simp)]
 have hE:=even_of hall
 have hcl:(comsE l).length≤20:=by
  have h1:=List.length_filter_le (fun c:ComT=>!c.ops.isEmpty) (l.map (·.c))
  rw[List.length_map]at h1
  exact Nat.le_trans h1 hl
 have hpn:∃p:Nat,places=p:=⟨places.toNat,by omega⟩
 obtain⟨p,rfl⟩:=hpn
 have hcf:∀c∈comsE l,(comFault c).code=0∧c.when.length=p:=fun c hc=>by
  obtain⟨x,hx,rfl,ho⟩:=coms_mem hc
  obtain⟨_,_,_,x4,x5⟩:=shape_ok (hall x hx)
  exact⟨x5 ho,by omega⟩
 rw[hev]
 refine J_exit rfl ?_
 refine jS [(0,true),(1,false),(2,true)] [] ?_
 refine Ya [zR 0] [24,0,21,22,23] [zS 39 ua l.length c] ?_
 refine Yc 113 #[.slice ua l.length c] (some 40) fun w S hG=>?_
 refine(jCommits (l:=l) (hG.at 1 rfl) (by omega)).mono ?_
 rintro e2 w2 ⟨ub,um,ud,hR⟩
 refine⟨_,_,_,hR,?_⟩
 try simp only[aQ]
 refine Ya [zR 2] [40,39] [zS 8 ub um ud] ?_
 refine JR_end (J_seq ?_)
 refine Zs (Rds 0 3) [] [zS 41 ua l.length c,zI 42 (↑l.length:Int),zI 43 0] ?_
 refine J_block ?_
 refine J_loopx (fun i:Int=>[zS 1 ua l.length c,zV 4 .nilIface,zS 8 ub um ud,zS 41 ua l.length c,zI 42 (↑l.length:Int),zI 43 i]) (fun i:Int=>[]) (fun i:Int=>[]) (fun i:Int=>[(.nilIface,(dC er eb)),(.slice ua l.length c,(D.sl 7 (List.map eEv l))),(.pointer (sA 0 0),(D.ptr [D.v (Value.iface 390 (Value.pointer (some (er 2))))])),(.pointer (sA 5 0),(D.ptr [D.v (Value.iface 390 (Value.pointer (some (er 9))))])),(.pointer (sA 6 0),(D.ptr [D.v (Value.iface 390 (Value.pointer (some (er 8))))])),(.slice ub um ud,(D.sl 3 (List.map eCom (comsE l))))]) (fun i:Int=>(l.length - i).toNat) (fun i:Int=>(0≤i∧i≤l.length∧∀k y,k<i.toNat→l[k]?=some y→eventE l k y=0)) 0 [1,4,8,41,42,43] [] [] [0,1,2,3,4,5] ?_ (by kernel_rfl) rfl rfl rfl ?_
 ·exact⟨by simp,by omega,by simp⟩
 rintro i ⟨hi0,hi,hno⟩
 refine Zs [zR 0] [] [zB 44 (decide (i<(↑l.length:Int)))] ?_
 refine J_seq ?_
 refine cC (t:=decide (i<(↑l.length:Int))) (fun hlt=>?_) (fun hlt=>?_)
 ·have hlt2:i<l.length:=of_decide_eq_true hlt
  obtain⟨x,hx⟩:∃x,l[i.toNat]?=some x:=⟨_,List.getElem?_eq_getElem (by omega)⟩
  have hxm:=List.mem_of_getElem? hx
  have hfx:=hf x hxm
  have hf1:=hfx.at'
  have hxl:=hE.len x hxm
  have hbad:∀k:Nat,eventE l i.toNat x=k→k≠0→firstE (fun i e=>eventE l i e) 0 l=⟨k,i⟩:=fun k hk h0=>by
   have:=firstE_at (f:=fun i e=>eventE l i e) (i:=0) hx (by rw[Nat.zero_add,hk];exact h0) fun k y hk hy=>by rw[Nat.zero_add];exact hno k y hk hy
   rw[this,Nat.zero_add,hk,Int.toNat_of_nonneg hi0]
  refine J_read4 1 rfl i.toNat (map_at hx) (by kernel_rfl) (fun b1 off1 cs1 ty1 fz1 a1_0 c1_0 a1_1 c1_1 a1_2 c1_2 a1_3 c1_3 ha1 hrd1=>?_)
  cases ha1
  have hrd1_0:=rd0 (hrd1 0 _ rfl)
  have hrd1_1:=hrd1 1 _ rfl
  have hrd1_2:=hrd1 2 _ rfl
  have hrd1_3:=hrd1 3 _ rfl
  have hrd1_4:=hrd1 4 _ rfl
  have hrd1_5:=hrd1 5 _ rfl
  have hrd1_6:=hrd1 6 _ rfl
  try simp only[aQ]
  refine J_skip (J_seq (J_block ?_))
  refine Zu [zR 0,.rd 1 [] 0 2,.rd 2 [.r 3 (some (nI x.ses)),.r 3 (some (nI x.place)),.r 3 (some (.slice (a1_0,c1_0).fst ((List.map eI x.at').length) c1_0)),.r 3 (some (.slice (a1_1,c1_1).fst ((List.map eRead x.reads).length) c1_1)),.r 3 (some (.slice (a1_2,c1_2).fst ((List.map eI x.c.when).length) c1_2)),.r 3 (some (nI x.c.place)),.r 3 (some (.slice (a1_3,c1_3).fst ((List.map eOp x.c.ops).length) c1_3))] 0 0,.wr 3 [] 0,zR 4,.wr 5 (hnO 0 7) 0] [(5,[])] [44] (fun nu1=>[zI 9 i,zP 10 (nu1 0)]) o0 (fun nu1=>[(nu1 0,.cells #[nI x.ses,nI x.place,.slice (a1_0,c1_0).fst ((List.map eI x.at').length) c1_0,.slice (a1_1,c1_1).fst ((List.map eRead x.reads).length) c1_1,.slice (a1_2,c1_2).fst ((List.map eI x.c.when).length) c1_2,nI x.c.place,.slice (a1_3,c1_3).fst ((List.map eOp x.c.ops).length) c1_3] 200 (0,0))]) (fun nu1=>(oC hi0 (oC hlt2 (oC hrd1_0 (oC hrd1_1 (oC hrd1_2 (oC hrd1_3 (oC hrd1_4 (oC hrd1_5 (oC hrd1_6 oN)))))))))) (fun nu1=>?_)
  refine Zs [zR 0] [] [zV 11 .nilIface] ?_
  refine J_seq ?_
  refine jS [(0,true),(1,true),(2,true),(3,true),(4,true),(5,false),(6,true),(7,true),(8,true),(9,true),(10,true)] [] ?_
  refine Ya [zR 0,.rd 1 [.o 0 none] 0 0,zR 2,zR 3,.rd 4 [.o 0 none] 0 0] [] [zS 50 (a1_0,c1_0).fst ((List.map eI x.at').length) c1_0,zS 53 (a1_2,c1_2).fst ((List.map eI x.c.when).length) c1_2] ?_
  refine Yc 100 #[.slice (a1_0,c1_0).fst ((List.map eI x.at').length) c1_0,.slice (a1_2,c1_2).fst ((List.map eI x.c.when).length) c1_2] (some 54) fun w S hG=>?_
  refine(vwithin (globs_of (hG.at 0 rfl)) (hG.at 6 rfl) (hG.at 8 rfl) (by omega) (by omega)).mono ?_
  rintro e3 w3 (⟨ht,_⟩|⟨_,hR⟩)
  ·exact absurd (hE.two x hxm x hxm).2 ht
  refine⟨_,_,_,hR,?_⟩
  cases hin:inL x.at' x.c.when with
  | false=>
   have hv:eventE l i.toNat x=2:=by rw[eventE,if_pos hin]
   try simp only[aQ]
   refine Ya (Rds 6 11) [54,50,53] [zB 12 false] ?_
   refine JR_end ?_
   refine Zs [zR 0,zR 1] [] [zB 58 true] ?_
   refine cTt ?_
   refine Zp [.rd 0 [.r 0 (some (.iface 390 (.pointer (some (er 2)))))] 0 0,zR 1] [58] [zV 11 (.iface 390 (.pointer (some (er 2))))] (oC hglob1 oN) ?_
   refine Zs [zR 0,zR 1] [] [zB 70 true] ?_
   refine cTt ?_
   refine Zv (Rds 0 3++[.wr 3 [] 0,zR 4,zR 5]) [] [70] (fun nu2=>[zV 4 (.iface 202 (.pointer (sA (nu2 0) 0)))]) o0 (fun nu2=>[(nu2 0,.cells #[nI i,.iface 390 (.pointer (some (er 2)))] 204 (0,0))]) (fun nu2=>?_)
   refine Yr [[]] (.iface 202 (.pointer (sA (nu2 0) 0))) fun a w s=>?_
   rw[hbad 2 hv (by decide)]
   exact .inr ⟨by simp only;omega,hi0,_,((s.share 1 rfl).stp (stp_fact fun w S H=>ptr_of_obj rfl rfl (H (_,_) (List.mem_of_getElem? (i:=10) rfl)))).retz (by simp) [] [11] rfl rfl⟩
  | true=>
  obtain⟨i,rfl⟩:∃k:Nat,i=k:=⟨i.toNat,by omega⟩
  rw[Int.toNat_natCast]at hbad
  try simp only[aQ]
  refine Ya (Rds 6 11) [54,50,53] [zB 12 true] ?_
  refine JR_end ?_
  refine Zs [zR 0,zR 1] [] [zB 58 false] ?_
  refine cF ?_
  refine jS [(0,true),(1,true),(2,false)] [] ?_
  refine Ya [zR 0,zR 1] [58] [zS 60 (sA b1 off1) l.length c,zI 61 (↑i:Int)] ?_
  refine Yc 114 #[.slice (sA b1 off1) l.length c,nI (↑i:Int)] (some 62) fun w S hG=>?_
  refine(jLate (i:=i) (hG.at 0 rfl) (hG.at 1 rfl) (by omega) (show l[i]?=some x from hx) hE).mono ?_
  rintro e4 w4 hR
  refine⟨_,_,_,hR,?_⟩
  cases hla:lateE l i x with
  | true=>
   have hv:eventE l i x=9:=by rw[eventE,if_neg (by simp[hin]),if_pos hla]
   try simp only[aQ]
   refine JR_end ?_
   refine cTt ?_
   refine Zp [.rd 0 [.r 1 (some (.iface 390 (.pointer (some (er 9)))))] 0 0,zR 1] [62] [zV 11 (.iface 390 (.pointer (some (er 9))))] (oC hglob2 oN) ?_
   refine Zs [zR 0,zR 1] [] [zB 70 true] ?_
   refine cTt ?_
   refine Zv (Rds 0 3++[.wr 3 [] 0,zR 4,zR 5]) [] [70] (fun nu2=>[zV 4 (.iface 202 (.pointer (sA (nu2 0) 0)))]) o0 (fun nu2=>[(nu2 0,.cells #[nI (↑i:Int),.iface 390 (.pointer (some (er 9)))] 204 (0,0))]) (fun nu2=>?_)
   refine Yr [[]] (.iface 202 (.pointer (sA (nu2 0) 0))) fun a w s=>?_
   rw[hbad 9 hv (by decide)]
   exact .inr ⟨by simp only;omega,hi0,_,((s.share 1 rfl).stp (stp_fact fun w S H=>ptr_of_obj rfl rfl (H (_,_) (List.mem_of_getElem? (i:=10) rfl)))).retz (by simp) [] [11] rfl rfl⟩
  | false=>
  try simp only[aQ]
  refine JR_end ?_
  refine cF ?_
  refine jS [(0,true),(1,true),(2,false),(3,true)] [] ?_
  refine Ya [.rd 0 (hnO 0 7) 0 0,zR 1] [62] [zV 64 (.agg #[nI x.ses,nI x.place,.slice a1_0 ((List.map eI x.at').length) c1_0,.slice a1_1 ((List.map eRead x.reads).length) c1_1,.slice a1_2 ((List.map eI x.c.when).length) c1_2,nI x.c.place,.slice a1_3 ((List.map eOp x.c.ops).length) c1_3]),zS 65 ub um ud] ?_
  refine JR_callzp [] 115 #[.agg #[.int .i64 x.ses,.int .i64 x.place,.slice a1_0 ((List.map eI x.at').length) c1_0,.slice a1_1 ((List.map eRead x.reads).length) c1_1,.slice a1_2 ((List.map eI x.c.when).length) c1_2,.int .i64 x.c.place,.slice a1_3 ((List.map eOp x.c.ops).length) c1_3],.slice ub um ud] (some 66) zero_all (by kernel_rfl) (fun w S hG=>?_)
  refine(jReads (x:=x) (p:=p) (L:=comsE l) (hG.at 0 rfl) (hG.at 6 rfl) (hG.at 7 rfl) (hG.at 5 rfl) (by omega) (by have:=hfx.reads;omega) (fun r hr=>by have:=hfx.sets r hr;omega) (fun z hz=>by
   obtain⟨y,hy,rfl,_⟩:=coms_mem hz
   exact⟨(hE.two y hy x hxm).1,(hE.len y hy).1,hxl.2⟩) hcf).mono ?_
  rintro e5 w5 hR
  refine⟨_,_,_,hR,?_⟩
  have hse:(comsE l).filter (seenB x.at')=seenE l x.at':=rfl
  rw[hse]
  cases hrd:x.reads.all (readE (seenE l x.at'))with
  | true=>
   have hv:eventE l i x=0:=by rw[eventE,if_neg (by simp[hin]),if_neg (by simp[hla]),if_pos hrd]
   try simp only[aQ]
   refine Ya [zR 3] [66,64,65] [zB 67 false] ?_
   refine JR_end ?_
   refine cF ?_
   refine J_skip ?_
   refine Zs [zR 0,zR 1] [67] [zB 70 false] ?_
   refine cF ?_
   refine J_skip (J_eb ?_)
   refine Zp [.rd 0 [] 0 1,zR 1] [70] [zI 43 ((↑i:Int)+1)] (oC (show IntKind.i64.wrap ((↑i:Int)+1)=(↑i:Int)+1 from wrap_i64 (by omega) (by omega)) oN) ?_
   refine J_backx ((i:Int)+1) [1,4,8,41,42,43] [] [] [0,1,2,3,4,5] ?_ ?_ (by kernel_rfl) rfl rfl rfl
   ·refine⟨by omega,by omega,fun k y hk hy=>?_⟩
    by_cases hki:k=i
    ·subst hki
     rw[show l[k]?=some x from hx]at hy
     cases hy
     exact hv
    ·exact hno k y (by omega) hy
   ·omega
  | false=>
   have hv:eventE l i x=8:=by rw[eventE,if_neg (by simp[hin]),if_neg (by simp[hla]),if_neg (by simp[hrd])]
   try simp only[aQ]
   refine Ya [zR 3] [66,64,65] [zB 67 true] ?_
   refine JR_end ?_
   refine cTt ?_
   refine Zp [.rd 0 [.r 2 (some (.iface 390 (.pointer (some (er 8)))))] 0 0,zR 1] [67] [zV 11 (.iface 390 (.pointer (some (er 8))))] (oC hglob3 oN) ?_
   refine Zs [zR 0,zR 1] [] [zB 70 true] ?_
   refine cTt ?_
   refine Zv (Rds 0 3++[.wr 3 [] 0,zR 4,zR 5]) [] [70] (fun nu2=>[zV 4 (.iface 202 (.pointer (sA (nu2 0) 0)))]) o0 (fun nu2=>[(nu2 0,.cells #[nI (↑i:Int),.iface 390 (.pointer (some (er 8)))] 204 (0,0))]) (fun nu2=>?_)
   refine Yr [[]] (.iface 202 (.pointer (sA (nu2 0) 0))) fun a w s=>?_
   rw[hbad 8 hv (by decide)]
   exact .inr ⟨by simp only;omega,hi0,_,((s.share 1 rfl).stp (stp_fact fun w S H=>ptr_of_obj rfl rfl (H (_,_) (List.mem_of_getElem? (i:=10) rfl)))).retz (by simp) [] [11] rfl rfl⟩
 ·have hie:i.toNat=l.length:=by have:=of_decide_eq_false hlt;omega
  rw[firstE_none (f:=fun i e=>eventE l i e) fun k x hx=>by rw[Nat.zero_add];exact hno k x (by have:=(List.getElem?_eq_some_iff.1 hx).1;omega) hx]
  refine J_exit rfl ?_
  refine Zs [zR 0] [44,1,8,41,42,43] [] ?_
  refine Yr [[]] (.nilIface) fun a w s=>?_
  exact .inl ⟨rfl,_,s.retz (by simp) [] [] rfl rfl,.inl ⟨rfl,rfl⟩⟩
end Go.Proofs.YtmkapocibaojdaaGreatDoor
end
section
namespace Go.Proofs.YtmkapocibaojdaaGreatDoor
open Go Go.Sx
set_option maxHeartbeats 4000000 in
theorem lendRow {P:Program} {fid:FuncId} {args:Array Value} {w:World} {S:Nat→Prop} {M:List Nat} {r:Value} {g ty cap k:Nat} {cur:Array Value} {xs:List Value} {rows:List (List D)} {G:List (Value×D)} (hP:Pre w S M [cObj g (.cells cur ty (0,0)),cRows xs k rows]) (hrow:Row cur cap rows.length k xs) (hk:0<k) (hG:AllG w S G)
  (H:∀S',AllG w S' (G++[(.slice (some ⟨g,0,none⟩) rows.length cap,.sl k rows)])→Calls P fid args w fun en w'=>Ret [] w S' w' en r [] []):Calls P fid args w fun en w'=>Ret M w S w' en r [cObj g (.cells cur ty (0,0)),cRows xs k rows] []:=by
 obtain⟨fps,hch,rfl,hnd,hM⟩:=hP
 match fps,hch with
 | [_,_],⟨⟨rfl,hg⟩,⟨rfl,hR⟩,_⟩=>
  have hfl:([[g],[]]:List (List Nat)).flatten=[g]:=by simp
  rw[hfl]at hnd hM ⊢
  have hgM:=hM g (by simp)
  refine(H (fun b=>S b∨b=g) ?_).mono fun en w' hRt=>?_
  ·intro x hx
   rcases List.mem_append.1 hx with hx|hx
   ·exact(hG x hx).wide fun b hb _=>.inl hb
   ·rw[List.mem_singleton]at hx
    subst hx
    refine Rep.of_row hg (.inr rfl) hrow hk hR.len fun i j row d h1 h2=>?_
    obtain⟨u,hu,hr⟩:=hR.rep i j row d h1 h2
    exact⟨u,hu,hr.wide fun b hb _=>.inl hb⟩
  ·have hf:=hRt.fr
   refine⟨hRt.ret,hf.mono (by simp),[[g],[]],⟨⟨rfl,(hf.block g hgM.1 (by simp)).trans hg⟩,⟨rfl,hR.mono fun b hb hlt=>⟨⟨.inl hb,fun hm=>?_⟩,hf.block b hlt (by simp)⟩⟩,trivial⟩,by simp,fun b hb=>?_,by simp⟩
   ·obtain rfl:b=g:=by simpa using hm
    exact hgM.2 hb
   ·obtain rfl:b=g:=by simpa using hb
    exact⟨.inl (by simp),Nat.lt_of_lt_of_le hgM.1 hf.size⟩
 | [],h=>exact h.elim
 | [_],h=>exact h.2.elim
 | _::_::_::_,h=>exact h.2.2.elim
end Go.Proofs.YtmkapocibaojdaaGreatDoor
end
section
namespace Go.Proofs.YtmkapocibaojdaaGreatDoor
open Go Go.Sx
abbrev eBo (b:Bool):List D:=[.v (.bool b)]
set_option maxHeartbeats 4000000 in
theorem jSeenBad {w:World} {S:Nat→Prop} {er:Nat→Addr} {eb:Nat→Array Value×TypeId} {ua:Option Addr} {un uc:Nat} {l:List EvT} {p q:Int} (hC:Rep w S .nilIface (dC er eb)) (h:Rep w S (.slice ua un uc) (.sl 7 (l.map eEv))) (hpq:p<0∨l.length≤p∨q<0∨l.length≤q) :
  Calls Tryz.prog 51 #[.slice ua un uc,.int .i64 p,.int .i64 q] w fun e w'=>Ret [] w S w' e (.tuple #[.bool false,.iface 390 (.pointer (some (er 2)))]) [] []:=by
 have e1:=h.slen
 rw[List.length_map]at e1
 subst e1
 refine epG Tryz.func51 bd51 (args:=[.slice ua l.length uc,.int .i64 p,.int .i64 q]) (S:=S) (G:=[(_,dC er eb),(_,.sl 7 (l.map eEv))]) (by kernel_rfl) (.cons hC (.cons h (.nil _ _))) ?_
 refine J_stp (stp_all 0 [1] rfl rfl) ?_
 refine J_glob 2 rfl (fun csg1 tyg1 fzg1 hglob1=>?_)
 try simp only[aQ]
 refine Zs [zR 0,zR 1] [] [zB 6 false,zV 7 .nilIface] ?_
 refine J_seq ?_
 refine Zs (Rds 0 3++[.rd 3 [] 2 0,.rd 4 [] 2 0,.rd 5 [] 2 0,.rd 6 [] 2 0,.rd 7 [] 0 3,zR 8,.rd 9 [] 2 0,.rd 10 [] 2 0,.rd 11 [] 0 3,zR 12,.rd 13 [] 2 0,.rd 14 [] 2 0,.rd 15 [] 2 0,.rd 16 [] 2 0,.rd 17 [] 0 3]) [] [zB 25 (decide (p<0)||decide (p≥(↑l.length:Int))||decide (q<0)||decide (q≥(↑l.length:Int)))] ?_
 refine J_condT (decide (p<0)||decide (p≥(↑l.length:Int))||decide (q<0)||decide (q≥(↑l.length:Int))) (by kernel_rfl) (by kernel_rfl) (by simp;omega) ?_
 refine Zt [.rd 0 [.r 0 (some (.iface 390 (.pointer (some (er 2)))))] 0 0,zR 1,zR 2] [25] [zV 7 (.iface 390 (.pointer (some (er 2))))] (oC hglob1 oN) ?_
 refine Yr [[],[]] (.tuple #[.bool false,.iface 390 (.pointer (some (er 2)))]) fun a w s=>?_
 exact s.ret (by simp) [] [] rfl rfl
set_option maxHeartbeats 4000000 in
theorem jSeenOk {w:World} {S:Nat→Prop} {er:Nat→Addr} {eb:Nat→Array Value×TypeId} {ua:Option Addr} {un uc:Nat} {l:List EvT} {p q:Int} {x y:EvT} (hC:Rep w S .nilIface (dC er eb)) (h:Rep w S (.slice ua un uc) (.sl 7 (l.map eEv))) (hp:0≤p) (hq:0≤q) (hx:l[p.toNat]?=some x) (hy:l[q.toNat]?=some y) (hl1:x.c.when.length≤1000000) (hl2:y.at'.length≤1000000) :
  Calls Tryz.prog 51 #[.slice ua un uc,.int .i64 p,.int .i64 q] w fun e w'=>
   (twoErr x.c.when y.at'≠0∧Ret [] w S w' e (.tuple #[.bool false,errV 390 er (twoErr x.c.when y.at')]) [] []) ∨
   (twoErr x.c.when y.at'=0∧Ret [] w S w' e (.tuple #[.bool (inL x.c.when y.at'),.nilIface]) [] []):=by
 have e1:=h.slen
 rw[List.length_map]at e1
 subst e1
 have hpl:=(List.getElem?_eq_some_iff.1 hx).1
 have hql:=(List.getElem?_eq_some_iff.1 hy).1
 refine epG Tryz.func51 bd51 (args:=[.slice ua l.length uc,.int .i64 p,.int .i64 q]) (S:=S) (G:=[(_,dC er eb),(_,.sl 7 (l.map eEv))]) (by kernel_rfl) (.cons hC (.cons h (.nil _ _))) ?_
 refine J_read4 1 rfl p.toNat (map_at hx) (by kernel_rfl) (fun b1 off1 cs1 ty1 fz1 a1_0 c1_0 a1_1 c1_1 a1_2 c1_2 a1_3 c1_3 ha1 hrd1=>?_)
 cases ha1
 have hrd1_0:=rd0 (hrd1 0 _ rfl)
 have hrd1_1:=hrd1 1 _ rfl
 have hrd1_2:=hrd1 2 _ rfl
 have hrd1_3:=hrd1 3 _ rfl
 have hrd1_4:=hrd1 4 _ rfl
 have hrd1_5:=hrd1 5 _ rfl
 have hrd1_6:=hrd1 6 _ rfl
 refine J_again4 1 rfl 0 rfl q.toNat (map_at hy) (by kernel_rfl) (fun a2_0 c2_0 a2_1 c2_1 a2_2 c2_2 a2_3 c2_3 hrd2=>?_)
 have hrd2_0:=rd0 (hrd2 0 _ rfl)
 have hrd2_1:=hrd2 1 _ rfl
 have hrd2_2:=hrd2 2 _ rfl
 have hrd2_3:=hrd2 3 _ rfl
 have hrd2_4:=hrd2 4 _ rfl
 have hrd2_5:=hrd2 5 _ rfl
 have hrd2_6:=hrd2 6 _ rfl
 try simp only[aQ]
 refine Zs [zR 0,zR 1] [] [zB 6 false,zV 7 .nilIface] ?_
 refine J_seq ?_
 refine Zs (Rds 0 3++[.rd 3 [] 2 0,.rd 4 [] 2 0,.rd 5 [] 2 0,.rd 6 [] 2 0,.rd 7 [] 0 3,zR 8,.rd 9 [] 2 0,.rd 10 [] 2 0,.rd 11 [] 0 3,zR 12,.rd 13 [] 2 0,.rd 14 [] 2 0,.rd 15 [] 2 0,.rd 16 [] 2 0,.rd 17 [] 0 3]) [] [zB 25 (decide (p<0)||decide (p≥(↑l.length:Int))||decide (q<0)||decide (q≥(↑l.length:Int)))] ?_
 refine J_condF (decide (p<0)||decide (p≥(↑l.length:Int))||decide (q<0)||decide (q≥(↑l.length:Int))) (by kernel_rfl) (by kernel_rfl) (by simp;omega) ?_
 refine J_skip ?_
 refine jS [(0,true),(1,true),(2,true),(3,true),(4,true),(5,true),(6,true),(7,true),(8,true),(9,true),(10,true),(11,false),(12,true),(13,true),(14,true),(15,true)] [] ?_
 refine Yp [zR 0,zR 1,.rd 2 [] 0 2,zR 3,zR 4,.rd 5 [.r 0 (some (.slice (a1_2,c1_2).fst ((List.map eI x.c.when).length) c1_2))] 0 0,zR 6,zR 7,.rd 8 [] 0 2,zR 9,.rd 10 [.r 0 (some (.slice (a2_0,c2_0).fst ((List.map eI y.at').length) c2_0))] 0 0] [25,0,1,2] [zS 32 (a1_2,c1_2).fst ((List.map eI x.c.when).length) c1_2,zS 37 (a2_0,c2_0).fst ((List.map eI y.at').length) c2_0] (oC hp (oC (show p<(↑l.length:Int) from by omega) (oC hrd1_4 (oC hq (oC (show q<(↑l.length:Int) from by omega) (oC hrd2_2 oN)))))) ?_
 refine Yc 100 #[.slice (a1_2,c1_2).fst ((List.map eI x.c.when).length) c1_2,.slice (a2_0,c2_0).fst ((List.map eI y.at').length) c2_0] (some 38) fun w S hG=>?_
 refine(vwithin (globs_of (hG.at 0 rfl)) (hG.at 4 rfl) (hG.at 6 rfl) hl1 hl2).mono ?_
 rintro e2 w2 (⟨h0,hR⟩|⟨h0,hR⟩)
 ·refine⟨_,_,_,hR,?_⟩
  try simp only[aQ]
  refine Ya (Rds 12 16) [38,32,37] [zV 7 (.iface 390 (.pointer (some (er (twoErr x.c.when y.at')))))] ?_
  refine JR_end ?_
  refine Yr [[],[]] (.tuple #[.bool false,.iface 390 (.pointer (some (er (twoErr x.c.when y.at'))))]) fun a w s=>?_
  exact .inl ⟨h0,s.ret (by simp) [] [] rfl rfl⟩
 ·refine⟨_,_,_,hR,?_⟩
  try simp only[aQ]
  refine Ya (Rds 12 16) [38,32,37] [zB 6 (inL x.c.when y.at')] ?_
  refine JR_end ?_
  refine Yr [[],[]] (.tuple #[.bool (inL x.c.when y.at'),.nilIface]) fun a w s=>?_
  exact .inr ⟨h0,s.ret (by simp) [] [] rfl rfl⟩
theorem waits_at {l:List EvT} {done:List Bool} {i k:Nat} {x y:EvT} (hx:l[i]?=some x) (hy:l[k]?=some y) (hd:done[k]?=some false) (ho:y.c.ops≠[]) (hin:inL y.c.when x.at'=true):waitsE l done i=true:=by
 rw[waitsE,hx]
 exact List.any_eq_true.2 ⟨(y,false),List.mem_of_getElem? (zip_at hy hd),by simp[hin,ho]⟩
theorem waits_no {l:List EvT} {done:List Bool} {i:Nat} {x:EvT} (hx:l[i]?=some x) (h:∀(k:Nat) y,l[k]?=some y→done[k]?=some false→y.c.ops≠[]→inL y.c.when x.at'=false):waitsE l done i=false:=by
 rw[waitsE,hx]
 refine List.any_eq_false.2 fun q hq=>?_
 obtain⟨k,hk⟩:=List.getElem?_of_mem hq
 rw[List.getElem?_zip_eq_some]at hk
 obtain⟨h1,h2⟩:=hk
 obtain⟨y,d⟩:=q
 cases d with
 | true=>simp
 | false=>
  by_cases ho:y.c.ops=[]
  ·simp[ho]
  ·simp[h k y h1 h2 ho]
set_option maxHeartbeats 4000000 in
theorem jWaits {w:World} {S:Nat→Prop} {er:Nat→Addr} {eb:Nat→Array Value×TypeId} {ua da:Option Addr} {un uc dn dc i:Nat} {l:List EvT} {done:List Bool} {x:EvT} (hC:Rep w S .nilIface (dC er eb)) (h:Rep w S (.slice ua un uc) (.sl 7 (l.map eEv))) (hd:Rep w S (.slice da dn dc) (.sl 1 (done.map eBo))) (hl:l.length≤1000000) (hdl:done.length=l.length) (hx:l[i]?=some x) (hE:Even6 l) :
  Calls Tryz.prog 121 #[.slice ua un uc,.slice da dn dc,.int .i64 i] w fun e w'=>Ret [] w S w' e (.bool (waitsE l done i)) [] []:=by
 have e1:=h.slen
 have e2:=hd.slen
 rw[List.length_map]at e1 e2
 subst e1 e2
 have hil:=(List.getElem?_eq_some_iff.1 hx).1
 have hxl:=hE.len x (List.mem_of_getElem? hx)
 refine epG Tryz.func121 bd121 (args:=[.slice ua l.length uc,.slice da done.length dc,.int .i64 i]) (S:=S) (G:=[(_,dC er eb),(_,.sl 7 (l.map eEv)),(_,.sl 1 (done.map eBo))]) (by kernel_rfl) (.cons hC (.cons h (.cons hd (.nil _ _)))) ?_
 refine Zs [zR 0] [] [zB 6 false] ?_
 refine J_seq ?_
 refine Zs (Rds 0 3) [] [zI 11 (↑l.length:Int),zI 12 0] ?_
 refine J_block ?_
 refine J_loopx (fun k:Int=>[zS 0 ua l.length uc,zS 1 da done.length dc,zI 2 (↑i:Int),zB 6 false,zI 11 (↑l.length:Int),zI 12 k]) (fun k:Int=>[]) (fun k:Int=>[]) (fun k:Int=>[(.nilIface,(dC er eb)),(.slice ua l.length uc,(D.sl 7 (List.map eEv l))),(.slice da done.length dc,(D.sl 1 (List.map eBo done)))]) (fun k:Int=>(l.length - k).toNat) (fun k:Int=>(0≤k∧k≤l.length∧∀(j:Nat) y,j<k.toNat→l[j]?=some y→done[j]?=some false→y.c.ops≠[]→inL y.c.when x.at'=false)) 0 [0,1,2,6,11,12] [] [] [0,1,2] ?_ (by kernel_rfl) rfl rfl rfl ?_
 ·exact⟨by simp,by omega,by simp⟩
 rintro k ⟨hk0,hk1,hno⟩
 refine Zs [zR 0] [] [zB 13 (decide (k<(↑l.length:Int)))] ?_
 refine J_seq ?_
 refine cC (t:=decide (k<(↑l.length:Int))) (fun hlt=>?_) (fun hlt=>?_)
 ·have hlt2:k<l.length:=of_decide_eq_true hlt
  obtain⟨y,hy⟩:∃y,l[k.toNat]?=some y:=⟨_,List.getElem?_eq_getElem (by omega)⟩
  obtain⟨d,hdk⟩:∃d,done[k.toNat]?=some d:=⟨_,List.getElem?_eq_getElem (by omega)⟩
  have hyl:=hE.len y (List.mem_of_getElem? hy)
  have htw:=(hE.two y (List.mem_of_getElem? hy) x (List.mem_of_getElem? hx)).1
  have hnext:(d=false→y.c.ops≠[]→inL y.c.when x.at'=false)→∀(j:Nat) z,j<(k+1).toNat→l[j]?=some z→done[j]?=some false→z.c.ops≠[]→inL z.c.when x.at'=false:=fun h0 j z hj hz hdz=>by
   by_cases hjk:j=k.toNat
   ·subst hjk
    rw[hy]at hz
    rw[hdk]at hdz
    cases hz
    cases hdz
    exact h0 rfl
   ·exact hno j z (by omega) hz hdz
  refine J_read4 1 rfl k.toNat (map_at hy) (by kernel_rfl) (fun b1 off1 cs1 ty1 fz1 a1_0 c1_0 a1_1 c1_1 a1_2 c1_2 a1_3 c1_3 ha1 hrd1=>?_)
  cases ha1
  have hrd1_0:=rd0 (hrd1 0 _ rfl)
  have hrd1_1:=hrd1 1 _ rfl
  have hrd1_2:=hrd1 2 _ rfl
  have hrd1_3:=hrd1 3 _ rfl
  have hrd1_4:=hrd1 4 _ rfl
  have hrd1_5:=hrd1 5 _ rfl
  have hrd1_6:=hrd1 6 _ rfl
  refine J_read0 2 rfl k.toNat (map_at hdk) (by kernel_rfl) (fun b2 off2 cs2 ty2 fz2 ha2 hrd2=>?_)
  cases ha2
  have hrd2_0:=rd0 (hrd2 0 _ rfl)
  cases d with
  | true=>
   try simp only[aQ]
   refine J_skip (J_seq (J_block ?_))
   refine Zs [zR 0,zR 1] [13] [zI 7 k] ?_
   refine Zt [zR 0,zR 1,.rd 2 [] 0 2,.rd 3 [.r 1 (some (.bool true))] 0 0,zR 4,zR 5,.rd 6 [] 1 0,.rd 7 [] 1 0,.rd 8 [] 1 0,.rd 9 [] 1 0,.rd 10 [] 1 0,.rd 11 [] 1 0,.rd 12 [] 1 0,.rd 13 [] 1 0,zR 14] [] [zB 29 false] (oC hk0 (oC (show k<(↑done.length:Int) from by omega) (oC hrd2_0 oN))) ?_
   refine cF ?_
   refine J_skip (J_eb ?_)
   refine Zp [.rd 0 [] 0 1,zR 1] [29] [zI 12 (k+1)] (oC (show IntKind.i64.wrap (k+1)=k+1 from wrap_i64 (by omega) (by omega)) oN) ?_
   refine J_backx (k+1) [0,1,2,6,11,12] [] [] [0,1,2] ?_ ?_ (by kernel_rfl) rfl rfl rfl
   ·exact⟨by omega,by omega,hnext fun h=>by cases h⟩
   ·omega
  | false=>
  by_cases ho:(y.c.ops.length:Int)>0
  case neg=>
   have ho2:y.c.ops=[]:=List.length_eq_zero_iff.1 (by omega)
   try simp only[aQ]
   refine J_skip (J_seq (J_block ?_))
   refine Zs [zR 0,zR 1] [13] [zI 7 k] ?_
   refine Zt ([zR 0,zR 1,.rd 2 [] 0 2,.rd 3 [.r 1 (some (.bool false))] 0 0]++Rds 4 8++[.rd 8 [] 0 2,zR 9,zR 10,.rd 11 [.r 0 (some (.slice (a1_3,c1_3).fst ((List.map eOp y.c.ops).length) c1_3))] 0 0,zR 12,.rd 13 [] 0 7,zR 14]) [] [zB 29 false] (oC hk0 (oC (show k<(↑done.length:Int) from by omega) (oC hrd2_0 (oC hk0 (oC hlt2 (oC hrd1_6 (oC (show decide ((↑(List.map eOp y.c.ops).length:Int)>(0:Int))=false from by simp;omega) oN))))))) ?_
   refine cF ?_
   refine J_skip (J_eb ?_)
   refine Zp [.rd 0 [] 0 1,zR 1] [29] [zI 12 (k+1)] (oC (show IntKind.i64.wrap (k+1)=k+1 from wrap_i64 (by omega) (by omega)) oN) ?_
   refine J_backx (k+1) [0,1,2,6,11,12] [] [] [0,1,2] ?_ ?_ (by kernel_rfl) rfl rfl rfl
   ·exact⟨by omega,by omega,hnext fun _ h=>absurd ho2 h⟩
   ·omega
  have ho2:y.c.ops≠[]:=fun h=>by rw[h]at ho;simp at ho
  try simp only[aQ]
  refine J_skip (J_seq (J_block ?_))
  refine Zs [zR 0,zR 1] [13] [zI 7 k] ?_
  refine Zt ([zR 0,zR 1,.rd 2 [] 0 2,.rd 3 [.r 1 (some (.bool false))] 0 0]++Rds 4 8++[.rd 8 [] 0 2,zR 9,zR 10,.rd 11 [.r 0 (some (.slice (a1_3,c1_3).fst ((List.map eOp y.c.ops).length) c1_3))] 0 0,zR 12,.rd 13 [] 0 6,zR 14]) [] [zB 29 true] (oC hk0 (oC (show k<(↑done.length:Int) from by omega) (oC hrd2_0 (oC hk0 (oC hlt2 (oC hrd1_6 (oC (show decide ((↑(List.map eOp y.c.ops).length:Int)>(0:Int))=true from by simp;omega) oN))))))) ?_
  refine cTt ?_
  refine jS [(0,true),(1,true),(2,true),(3,false),(4,true),(5,true),(6,true),(7,true),(8,true)] [] ?_
  refine Ya (Rds 0 3) [29] [zS 31 (sA b1 off1) l.length uc,zI 32 k,zI 33 (↑i:Int)] ?_
  refine Yc 51 #[.slice (sA b1 off1) l.length uc,nI k,nI (↑i:Int)] (some 34) fun w S hG=>?_
  refine(jSeenOk (x:=y) (y:=x) (hG.at 0 rfl) (hG.at 1 rfl) hk0 (by omega) hy (show l[(i:Int).toNat]?=some x from hx) (by omega) (by omega)).mono ?_
  rintro e3 w3 (⟨h0,_⟩|⟨_,hR⟩)
  ·exact absurd htw h0
  refine⟨_,_,_,hR,?_⟩
  cases hin:inL y.c.when x.at' with
  | true=>
   rw[waits_at hx hy hdk ho2 hin]
   try simp only[aQ]
   refine Ya (Rds 4 9) [34,31,32,33] [zB 8 true] ?_
   refine JR_end ?_
   refine Zs [zR 0] [] [zB 37 true] ?_
   refine cTt ?_
   refine Zs [zR 0] [37] [zB 6 true] ?_
   refine Yr [[]] (.bool true) fun a w s=>?_
   exact s.ret (by simp) [] [] rfl rfl
  | false=>
   try simp only[aQ]
   refine Ya (Rds 4 9) [34,31,32,33] [zB 8 false] ?_
   refine JR_end ?_
   refine Zs [zR 0] [] [zB 37 false] ?_
   refine cF ?_
   refine J_skip (J_eb ?_)
   refine Zp [.rd 0 [] 0 1,zR 1] [37] [zI 12 (k+1)] (oC (show IntKind.i64.wrap (k+1)=k+1 from wrap_i64 (by omega) (by omega)) oN) ?_
   refine J_backx (k+1) [0,1,2,6,11,12] [] [] [0,1,2] ?_ ?_ (by kernel_rfl) rfl rfl rfl
   ·exact⟨by omega,by omega,hnext fun _ _=>hin⟩
   ·omega
 ·have hke:k=l.length:=by have:=of_decide_eq_false hlt;omega
  rw[waits_no hx fun j y hy=>hno j y (by have:=(List.getElem?_eq_some_iff.1 hy).1;omega) hy]
  refine J_exit rfl ?_
  refine Zs [zR 0] [13,0,1,2,11,12] [] ?_
  refine Yr [[]] (.bool false) fun a w s=>?_
  exact s.ret (by simp) [] [] rfl rfl
end Go.Proofs.YtmkapocibaojdaaGreatDoor
end
section
namespace Go.Sx
structure CutS where
 L:Int
 a:Option Addr
 k:Nat
 c:Nat
 R:List (List Nat)
 d:List Bool
 cur:Array Value
 xs:List Value
 f:Nat
structure MarkS where
 i:Int
 d:List Bool
 cur:Array Value
 xs:List Value
end Go.Sx
namespace Go.Proofs.YtmkapocibaojdaaGreatDoor
open Go Go.Sx
def intsN (r:List Nat):List Int:=r.map fun n:Nat=>(n:Int)
theorem intsN_snoc (r:List Nat) (i:Nat):intsN (r++[i])=intsN r++[(i:Int)]:=by simp[intsN]
abbrev eRw (r:List Nat):List D:=[dInts (intsN r)]
def roundAt (l:List EvT) (d:List Bool) (i:Nat):List Nat:=(List.range i).filter fun i=>!(d[i]?.getD true)&&!waitsE l d i
theorem roundAt_succ (l:List EvT) (d:List Bool) (i:Nat):roundAt l d (i+1)=if (!(d[i]?.getD true)&&!waitsE l d i)=true then roundAt l d i++[i]else roundAt l d i:=by
 rw[roundAt,List.range_succ,List.filter_append]
 split
 ·rename_i h
  simp[h,roundAt]
 ·rename_i h
  simp[h,roundAt]
theorem roundAt_len (l:List EvT) (d:List Bool) (i:Nat):(roundAt l d i).length≤i:=by
 have:=List.length_filter_le (fun i=>!(d[i]?.getD true)&&!waitsE l d i) (List.range i)
 rwa[List.length_range]at this
theorem markE_snoc (d:List Bool) (r:List Nat) (i:Nat):markE d (r++[i])=(markE d r).set i true:=by
 rw[markE,List.foldl_append]
 rfl
theorem markE_len (d:List Bool) (r:List Nat):(markE d r).length=d.length:=by
 have:∀(r:List Nat) (d:List Bool),(r.foldl (fun d i=>d.set i true) d).length=d.length:=by
  intro r
  induction r with
  | nil=>intro d;rfl
  | cons a r ih=>intro d;rw[List.foldl_cons,ih,List.length_set]
 exact this r d
def RoundsI (l:List EvT) (R:List (List Nat)) (f:Nat) (d:List Bool) (L:Nat):Prop:=
 roundsE l l.length (l.map fun _=>false) l.length=(R++(roundsE l f d L).1,(roundsE l f d L).2)
theorem rounds_zero (l:List EvT) (f:Nat) (d:List Bool):roundsE l f d 0=([],true):=by
 cases f <;> simp[roundsE]
theorem round_lt {l:List EvT} {d:List Bool} {m:Nat} (h:m∈roundE l d):m<l.length:=List.mem_range.1 (List.mem_filter.1 h).1
set_option maxHeartbeats 8000000 in
theorem cutsTail {w0:World} {S0:Nat→Prop} {er:Nat→Addr} {eb:Nat→Array Value×TypeId} {ua:Option Addr} {uc nb:Nat} {l:List EvT} {cur0:Array Value} {xs0:List Value} {n:Nat} (hn:l.length=n) (hE:Even6 l) (hl:l.length≤20) (hr0:Row cur0 n n 1 xs0) {Rr:Ending→World→Prop} (hQ:∀e w',((roundsE l l.length (l.map fun _=>false) l.length).2=true∧∃ra rn rc,Ret [] w0 S0 w' e (.tuple #[.slice ra rn rc,.nilIface]) [] [(.slice ra rn rc,.sl 1 ((roundsE l l.length (l.map fun _=>false) l.length).1.map eRw))])∨((roundsE l l.length (l.map fun _=>false) l.length).2=false∧Ret [] w0 S0 w' e (.tuple #[.slice none 0 0,.iface 390 (.pointer (some (er 10)))]) [] [])→Rr e w') :
  J Tryz.prog Tryz.f55 (retR Tryz.prog Tryz.f55 Rr) Tryz.f55.ntmps [.c (.rg 12 false),.c (.seq (.seq (.rg 13 false) (.block 2 (.loop (.seq (.seq (.rg 14 false) (.cond (.tmp 64) .skip (.exit 2))) (.block 3 (.seq (.rg 15 false) (.seq (.seq (.rg 16 false) (.block 4 (.loop (.seq (.rg 17 false) (.seq (.cond (.tmp 68) .skip (.exit 4)) (.seq (.block 5 (.seq (.rg 18 false) (.seq (.rg 19 false) (.cond (.tmp 81) (.rg 20 false) .skip)))) (.rg 21 false))))))) (.seq (.seq (.rg 22 false) (.cond (.tmp 88) (.seq (.rg 23 true) .ret) .skip)) (.seq (.seq (.rg 24 false) (.block 6 (.loop (.seq (.rg 25 false) (.seq (.cond (.tmp 93) .skip (.exit 6)) (.seq (.block 7 (.seq (.rg 26 false) (.rg 27 false))) (.rg 28 false))))))) (.seq (.rg 29 false) (.rg 30 false))))))))))) (.seq (.rg 31 false) .ret))] [(0,.val (.slice ua n uc)),(10,.val (.slice (some ⟨nb,0,none⟩) n n))] [(nb,.cells cur0 4 (0,0))] [] [([],w0)] ⟨newS S0 [] w0,[cRows xs0 1 ((l.map fun _=>false).map eBo)],[(.nilIface,dC er eb),(.slice ua n uc,.sl 7 (l.map eEv))]⟩:=by
 subst hn
 refine J_stp (stp_all 0 [9] rfl rfl) ?_
 refine J_glob 2 rfl (fun csg1 tyg1 fzg1 hglob1=>?_)
 refine J_stp (stp_accm eRw 32 1) ?_
 refine Nm [(cRows xs0 1 (List.map eBo (List.map (fun x=>false) l))),cAcc (.slice none 0 0) 32 1 (List.map eRw [])] ?_
 try simp only[aQ]
 refine Za [zR 0] [] [zS 11 none 0 0] ?_
 refine J_seq ?_
 refine Zs (Rds 0 3) [] [zI 12 (↑l.length:Int)] ?_
 refine J_block ?_
 refine J_loopx (fun z:CutS=>[zS 0 ua l.length uc,zS 10 (sA nb 0) l.length l.length,zS 11 z.a z.k z.c,zI 12 z.L]) (fun z:CutS=>[(nb,.cells z.cur 4 (0,0))]) (fun z:CutS=>[cRows z.xs 1 (z.d.map eBo),cAcc (.slice z.a z.k z.c) 32 1 (z.R.map eRw)]) (fun z:CutS=>[(.nilIface,(dC er eb)),(.slice ua l.length uc,(D.sl 7 (List.map eEv l))),(.pointer (sA 2 0),(D.ptr [D.v (Value.iface 390 (Value.pointer (some (er 10))))]))]) (fun z:CutS=>z.L.toNat) (fun z:CutS=>(z.d.length=l.length∧Row z.cur l.length l.length 1 z.xs∧z.L.toNat≤z.f∧(z.R.length:Int)+z.L≤l.length∧z.L≤20∧RoundsI l z.R z.f z.d z.L.toNat)) ⟨l.length,none,0,0,[],l.map fun _=>false,cur0,xs0,l.length⟩ [0,10,11,12] [0] [0,1] [0,1,2] ?_ (by kernel_rfl) rfl rfl rfl ?_
 ·exact⟨by simp,hr0,by simp,by simp,by simp only;omega,by simp[RoundsI]⟩
 rintro⟨L,oa,ok,oc,R,d,cur,xs,f⟩ ⟨hdl,hrow,hLf,hRL,hL20,hRI⟩
 dsimp only at hdl hrow hLf hRL hL20 hRI ⊢
 refine J_stpx (stp_acclen 1 rfl) fun _ hok=>?_
 rw[List.length_map]at hok
 refine J_seq ?_
 refine Zs [zR 0,zR 1] [] [zB 64 (decide (L>0))] ?_
 refine cC (t:=decide (L>0)) (fun hlt=>?_) (fun hlt=>?_)
 ·have hlt2:0<L:=by simpa using hlt
  refine J_skip (J_block (J_seq ?_))
  refine J_stp (stp_accm eI 3 1) ?_
  refine Nm [(cRows xs 1 (List.map eBo d)),cAcc (.slice oa ok oc) 32 1 (List.map eRw R),cAcc (.slice none 0 0) 3 1 (List.map eI [])] ?_
  refine Za [zR 0] [64] [zS 13 none 0 0] ?_
  refine J_seq ?_
  refine Zs (Rds 0 3) [] [zI 66 (↑l.length:Int),zI 67 0] ?_
  refine J_block ?_
  refine J_loopx (fun y:AccI=>[zS 0 ua l.length uc,zS 10 (sA nb 0) l.length l.length,zS 11 oa ok oc,zI 12 L,zS 13 y.a y.k y.c,zI 66 (↑l.length:Int),zI 67 y.i]) (fun y:AccI=>[(nb,.cells cur 4 (0,0))]) (fun y:AccI=>[cRows xs 1 (d.map eBo),cAcc (.slice oa ok oc) 32 1 (R.map eRw),cAcc (.slice y.a y.k y.c) 3 1 ((intsN (roundAt l d y.i.toNat)).map eI)]) (fun y:AccI=>[(.nilIface,(dC er eb)),(.slice ua l.length uc,(D.sl 7 (List.map eEv l))),(.pointer (sA 2 0),(D.ptr [D.v (Value.iface 390 (Value.pointer (some (er 10))))]))]) (fun y:AccI=>(l.length - y.i).toNat) (fun y:AccI=>(0≤y.i∧y.i≤l.length∧(roundAt l d y.i.toNat=[]→y.a=none))) ⟨0,none,0,0⟩ [0,10,11,12,13,66,67] [0] [0,1,2] [0,1,2] ?_ (by kernel_rfl) rfl rfl rfl ?_
  ·exact⟨by simp,by simp,fun _=>rfl⟩
  rintro⟨i,av,k,cv⟩ ⟨hi0,hi,hnn⟩
  dsimp only at hi0 hi hnn ⊢
  refine J_stpx (stp_acclen 2 rfl) fun _ hk=>?_
  have hk2:k≤20:=by
   have:=roundAt_len l d i.toNat
   rw[List.length_map,intsN,List.length_map]at hk
   omega
  refine Zs [zR 0] [] [zB 68 (decide (i<(↑l.length:Int)))] ?_
  refine J_seq ?_
  refine cC (t:=decide (i<(↑l.length:Int))) (fun hlt3=>?_) (fun hlt3=>?_)
  ·have hlt4:i<l.length:=of_decide_eq_true hlt3
   obtain⟨i,rfl⟩:∃n:Nat,i=n:=⟨i.toNat,by omega⟩
   obtain⟨x,hx⟩:∃x,l[i]?=some x:=⟨_,List.getElem?_eq_getElem (by omega)⟩
   obtain⟨bd,hbd⟩:∃b,d[i]?=some b:=⟨_,List.getElem?_eq_getElem (by omega)⟩
   have hsc:=roundAt_succ l d i
   rw[hbd,Option.getD_some]at hsc
   refine J_stpx (stp_readrows 0 rfl i (map_at hbd)) fun ls hls=>?_
   obtain⟨hls1,hls2⟩:=hls
   obtain rfl:ls=[]:=List.eq_nil_of_length_eq_zero hls1
   have r0:cur[0+((i:Nat):Int).toNat*1]?=some (.bool bd):=by
    have:=hrow.atx (hls2 0 _ rfl)
    simpa using this
   cases bd with
   | true=>
    rw[if_neg (by simp)]at hsc
    try simp only[aQ]
    refine J_skip (J_seq (J_block ?_))
    refine Zs [zR 0,zR 1] [68] [zI 14 (↑i:Int)] ?_
    refine Zt [zR 0,zR 1,.rd 2 [] 0 2,.rd 3 [.o 0 (some (.bool true))] 0 0,zR 4,zR 5,.rd 6 [] 1 0,.rd 7 [] 1 0,.rd 8 [] 1 0,.wr 9 [] 1,.rd 10 [] 1 0,zR 11] [] [zB 81 false] (oC hi0 (oC hlt4 (oC r0 oN))) ?_
    refine cF ?_
    refine J_skip (J_eb ?_)
    refine Zp [.rd 0 [] 0 1,zR 1] [81] [zI 67 ((↑i:Int)+1)] (oC (show IntKind.i64.wrap ((↑i:Int)+1)=(↑i:Int)+1 from wrap_i64 (by omega) (by omega)) oN) ?_
    rw[show roundAt l d ((i:Nat):Int).toNat=roundAt l d (((i:Nat):Int)+1).toNat by rw[show(((i:Nat):Int)+1).toNat=i+1 by omega,hsc];rfl]
    refine J_backx ⟨(i:Int)+1,av,k,cv⟩ [0,10,11,12,13,66,67] [0] [0,1,2] [0,1,2] ?_ ?_ (by kernel_rfl) rfl rfl rfl
    ·exact⟨by simp only;omega,by simp only;omega,fun h=>hnn (by rw[←h,show(((i:Nat):Int)+1).toNat=i+1 by omega,hsc];rfl)⟩
    ·simp only
     omega
   | false=>
    try simp only[aQ]
    refine J_skip (J_seq (J_block ?_))
    refine Zs [zR 0,zR 1] [68] [zI 14 (↑i:Int)] ?_
    refine J_seq ?_
    refine Nm [(cRows xs 1 (List.map eBo d)),cAcc (.slice oa ok oc) 32 1 (List.map eRw R),cAcc (.slice av k cv) 3 1 (List.map eI (intsN (roundAt l d (↑i:Int).toNat)))] ?_
    refine jT [(0,true),(1,true),(2,true),(3,true),(4,true),(5,true),(6,true),(7,true),(8,true),(9,false),(10,true),(11,true)] [(9,[0])] ?_
    refine Yp ([zR 0,zR 1,.rd 2 [] 0 2,.rd 3 [.o 0 (some (.bool false))] 0 0]++Rds 4 9) [] [zB 75 true,zS 76 ua l.length uc,zS 77 (sA nb 0) l.length l.length,zI 78 (↑i:Int)] (oC hi0 (oC hlt4 (oC r0 oN))) ?_
    refine JR_callh [] 0 121 #[.slice ua l.length uc,.slice (some ⟨nb,0,none⟩) l.length l.length,.int .i64 (i:Nat)] (some 79) (by kernel_rfl) ⟨[0],rfl,by simp⟩ rfl (fun w S M hP hG=>?_)
    refine(lendRow (r:=.bool (waitsE l d i)) hP (by rw[List.length_map,hdl];exact hrow) (by decide) hG fun S' hG'=>?_).mono ?_
    ·have hq:=hG'.at 3 rfl
     rw[List.length_map,hdl]at hq
     exact jWaits (hG'.at 0 rfl) (hG'.at 1 rfl) hq (by omega) hdl hx hE
    rintro e1 w1 hR
    refine⟨_,_,_,hR,?_⟩
    cases hwt:waitsE l d i with
    | true=>
     rw[if_neg (by simp[hwt])]at hsc
     try simp only[aQ]
     refine Ya [zR 10,zR 11] [79,75,76,77,78] [zB 81 false] ?_
     try simp only[aQ]
     refine JR_end ?_
     try simp only[aQ]
     refine cF ?_
     try simp only[aQ]
     refine J_skip ?_
     try simp only[aQ]
     refine J_eb ?_
     try simp only[aQ]
     refine Zp [.rd 0 [] 0 1,zR 1] [81] [zI 67 ((↑i:Int)+1)] (oC (show IntKind.i64.wrap ((↑i:Int)+1)=(↑i:Int)+1 from wrap_i64 (by omega) (by omega)) oN) ?_
     try simp only[aQ]
     rw[show roundAt l d ((i:Nat):Int).toNat=roundAt l d (((i:Nat):Int)+1).toNat by rw[show(((i:Nat):Int)+1).toNat=i+1 by omega,hsc];rfl]
     refine J_backx ⟨(i:Int)+1,av,k,cv⟩ [0,10,11,12,13,66,67] [0] [2,0,1] [0,1,2] ?_ ?_ (by kernel_rfl) rfl rfl rfl
     ·exact⟨by simp only;omega,by simp only;omega,fun h=>hnn (by rw[←h,show(((i:Nat):Int)+1).toNat=i+1 by omega,hsc];rfl)⟩
     ·simp only
      omega
    | false=>
     rw[if_pos (by simp[hwt])]at hsc
     try simp only[aQ]
     refine Ya [zR 10,zR 11] [79,75,76,77,78] [zB 81 true] ?_
     try simp only[aQ]
     refine JR_end ?_
     try simp only[aQ]
     refine cTt ?_
     try simp only[aQ]
     refine jT [(0,true),(1,true),(2,false),(3,false),(4,true)] [] ?_
     refine Ym [zR 0,zR 1,.wr 2 [] 0] [81] (fun nu1=>[zS 82 av k cv,zS 84 (sA (nu1 0) 0) 1 1]) o0 (fun nu1=>[(nu1 0,.cells #[nI (↑i:Int)] 3 (0,0))]) [] (fun nu1=>?_)
     refine JN [cAcc (.slice oa ok oc) 32 1 (List.map eRw R),cAcc (.slice av k cv) 3 1 (List.map eI (intsN (roundAt l d (↑i:Int).toNat))),(cRows xs 1 (List.map eBo d))] ?_
     refine JR_appm 1 32 3 1 8 (.int .i64 0) (a0:=av) (len:=k) (cap0:=cv) (ax:=(some (⟨nu1 0,0,none⟩))) (m:=1) (c:=1) (dst:=(some 85)) [((i:Nat):Int)] (by kernel_rfl) (by kernel_rfl) (by kernel_rfl) (by kernel_rfl) rfl (by decide) rfl (fun _ _ _ s=>src_one s 1 rfl rfl ⟨.inl ⟨rfl,rfl⟩,trivial⟩) (by simp only[maxLen];omega) (by omega) (fun av1 cv1=>?_)
     rw[show intsN (roundAt l d ((i:Nat):Int).toNat)++[((i:Nat):Int)]=intsN (roundAt l d (((i:Nat):Int)+1).toNat)by rw[show(((i:Nat):Int)+1).toNat=i+1 by omega,hsc,intsN_snoc];rfl]
     try simp only[aQ]
     refine Ya [zR 4] [85,82,84] [zS 13 av1 (k+1) cv1] ?_
     try simp only[aQ]
     refine JR_end ?_
     try simp only[aQ]
     refine J_eb ?_
     try simp only[aQ]
     refine Zp [.rd 0 [] 0 1,zR 1] [] [zI 67 ((↑i:Int)+1)] (oC (show IntKind.i64.wrap ((↑i:Int)+1)=(↑i:Int)+1 from wrap_i64 (by omega) (by omega)) oN) ?_
     try simp only[aQ]
     refine J_backx ⟨(i:Int)+1,_,k+1,_⟩ [0,10,11,12,13,66,67] [0] [1,0,2] [0,1,2] ?_ ?_ (by kernel_rfl) rfl rfl rfl
     ·refine⟨by simp only;omega,by simp only;omega,fun h=>?_⟩
      dsimp only at h
      rw[show(((i:Nat):Int)+1).toNat=i+1 by omega,hsc]at h
      simp at h
     ·simp only
      omega
  ·have hie:i.toNat=l.length:=by have:=of_decide_eq_false hlt3;omega
   have hrd:roundAt l d i.toNat=roundE l d:=by rw[hie];rfl
   rw[hrd]at hk ⊢
   rw[List.length_map,intsN,List.length_map]at hk
   subst hk
   rw[hrd]at hnn
   obtain⟨f,rfl⟩:∃n,f=n+1:=⟨f - 1,by omega⟩
   have hL0:¬L.toNat=0:=by omega
   by_cases hre:roundE l d=[]
   ·have hav:=hnn hre
    subst hav
    have hwh:roundsE l l.length (l.map fun _=>false) l.length=(R,false):=by
     rw[hRI,roundsE,if_neg hL0,if_pos hre,List.append_nil]
    refine J_exit rfl ?_
    refine J_seq ?_
    refine Zs [zR 0,zR 1] [68] [zB 88 true] ?_
    refine cTt ?_
    refine Zt [.rd 0 [.r 0 (some (.iface 390 (.pointer (some (er 10)))))] 0 0,zR 1,zR 2] [88] [zS 2 none 0 0,zV 3 (.iface 390 (.pointer (some (er 10))))] (oC hglob1 oN) ?_
    refine Yr [[],[]] (.tuple #[.slice none 0 0,.iface 390 (.pointer (some (er 10)))]) fun a w s=>?_
    exact hQ _ _ (.inr ⟨by rw[hwh],s.ret (by simp) [] [] rfl rfl⟩)
   have hwh:RoundsI l (R++[roundE l d]) f (markE d (roundE l d)) (L.toNat - (roundE l d).length):=by
    rw[RoundsI,hRI,roundsE,if_neg hL0,if_neg hre,List.append_assoc]
    rfl
   have hrl:(roundE l d).length≤l.length:=by rw[←hrd];have:=roundAt_len l d i.toNat;omega
   have hr1:1≤(roundE l d).length:=List.length_pos_iff.2 hre
   refine J_openacc 2 rfl (by intro h0;rw[List.map_eq_nil_iff,intsN,List.map_eq_nil_iff]at h0;exact hre h0) fun g cur2 xs2 hu _ _ hrow2=>?_
   subst hu
   refine J_hide 1 rfl ?_
   refine J_stp (stp_closeacc 3 2 rfl rfl hrow2 (by decide)) ?_
   rw[show(List.map eI (intsN (roundE l d))).length=(roundE l d).length by rw[List.length_map,intsN,List.length_map]]
   refine J_stp (stp_freeze 2 rfl) ?_
   refine Nm [(cRows xs 1 (List.map eBo d)),cAcc (.slice oa ok oc) 32 1 (List.map eRw R)] ?_
   try simp only[aQ]
   refine J_exit rfl ?_
   refine J_seq ?_
   refine Zs [zR 0,zR 1] [68] [zB 88 false] ?_
   refine cF ?_
   refine J_skip (J_seq ?_)
   refine Zs (Rds 0 3) [88] [zS 90 (sA g 0) ((roundE l d).length) cv,zI 91 ((↑(roundE l d).length:Int)),zI 92 0] ?_
   refine J_block ?_
   refine J_loopx (fun q:MarkS=>[zS 0 ua l.length uc,zS 10 (sA nb 0) l.length l.length,zS 11 oa ok oc,zI 12 L,zS 13 (sA g 0) ((roundE l d).length) cv,zI 66 (↑l.length:Int),zI 67 i,zS 90 (sA g 0) ((roundE l d).length) cv,zI 91 ((↑(roundE l d).length:Int)),zI 92 q.i]) (fun q:MarkS=>[(nb,.cells q.cur 4 (0,0))]) (fun q:MarkS=>[cRows q.xs 1 (q.d.map eBo),cAcc (.slice oa ok oc) 32 1 (R.map eRw)]) (fun q:MarkS=>[(.nilIface,(dC er eb)),(.slice ua l.length uc,(D.sl 7 (List.map eEv l))),(.pointer (sA 2 0),(D.ptr [D.v (Value.iface 390 (Value.pointer (some (er 10))))])),(.slice (sA g 0) ((roundE l d).length) cv,(D.sl 1 (List.map eI (intsN (roundE l d)))))]) (fun q:MarkS=>((roundE l d).length - q.i).toNat) (fun q:MarkS=>(0≤q.i∧q.i≤(roundE l d).length∧q.d=markE d ((roundE l d).take q.i.toNat)∧Row q.cur l.length l.length 1 q.xs)) ⟨0,d,cur,xs⟩ [0,10,11,12,13,66,67,90,91,92] [0] [0,1] [0,1,2,3] ?_ (by kernel_rfl) rfl rfl rfl ?_
   ·exact⟨by simp,by simp,by simp[markE],hrow⟩
   rintro⟨j,dq,curq,xq⟩ ⟨hj0,hj,hdq,hrq⟩
   dsimp only at hj0 hj hdq hrq ⊢
   have hql:dq.length=l.length:=by rw[hdq,markE_len,hdl]
   refine Zs [zR 0] [] [zB 93 (decide (j<(↑(roundE l d).length:Int)))] ?_
   refine J_seq ?_
   refine cC (t:=decide (j<(↑(roundE l d).length:Int))) (fun hlt5=>?_) (fun hlt5=>?_)
   ·have hlt6:j<(roundE l d).length:=of_decide_eq_true hlt5
    obtain⟨m,hm⟩:∃m,(roundE l d)[j.toNat]?=some m:=⟨_,List.getElem?_eq_getElem (by omega)⟩
    have hml:=round_lt (List.mem_of_getElem? hm)
    have hmi:(intsN (roundE l d))[j.toNat]?=some ((m:Nat):Int):=by rw[intsN,List.getElem?_map,hm];rfl
    obtain⟨bq,hbq⟩:∃b,dq[m]?=some b:=⟨_,List.getElem?_eq_getElem (by omega)⟩
    have hsz:0+((m:Nat):Int).toNat*1+1≤curq.size:=by rw[hrq.siz];omega
    refine J_read0 3 rfl j.toNat (map_at hmi) (by kernel_rfl) (fun b1 off1 cs1 ty1 fz1 ha1 hrd1=>?_)
    cases ha1
    have hrd1_0:=rd0 (hrd1 0 _ rfl)
    try simp only[aQ]
    refine J_skip (J_seq (J_block ?_))
    refine Zt [.rd 0 [] 0 2,.rd 1 [.r 1 (some (nI (↑m:Int)))] 0 0,zR 2] [93] [zI 16 (↑m:Int)] (oC hj0 (oC hlt6 (oC hrd1_0 oN))) ?_
    refine Zn [zR 0,zR 1,.rd 2 [] 0 2,.wr 3 [.o 0 (some (.bool true))] 0] [(3,[0])] [] (fun _=>[]) (fun _=>[(0,.cells (curq.setIfInBounds (0+(↑m:Int).toNat*1) (Value.bool true)) 4 (0,0))]) o0 (fun _=>(oC (show(0:Int)≤(↑m:Int) from by omega) (oC (show(↑m:Int)<(↑l.length:Int) from by omega) (oC (show(Value.bool true).oneCell'=true from ?_) (oC (show(0:Nat)+(↑m:Int).toNat*1<curq.size from by omega) oN))))) (fun _=>?_)
    ·rfl
    refine J_stp (stp_fact (v:=.bool true) (d:=.v (.bool true)) fun _ _ _=>.v rfl) ?_
    refine J_stp (stp_setrows 0 4 m 0 rfl (by rw[List.length_map,hql];exact hrq.len) (map_at hbq) (by decide) rfl) ?_
    rw[show(List.map eBo dq).set m ((eBo bq).set 0 (.v (.bool true)))=List.map eBo (dq.set m true) from List.map_set.symm]
    refine Nm [(cRows (xq.set (m*1+0) (Value.bool true)) 1 (List.map eBo (dq.set m true))),cAcc (.slice oa ok oc) 32 1 (List.map eRw R)] ?_
    try simp only[aQ]
    refine J_eb ?_
    refine Zp [.rd 0 [] 0 1,zR 1] [] [zI 92 (j+1)] (oC (show IntKind.i64.wrap (j+1)=j+1 from wrap_i64 (by omega) (by omega)) oN) ?_
    refine J_backx ⟨j+1,dq.set m true,curq.setIfInBounds (0+((m:Nat):Int).toNat*1) (.bool true),xq.set (m*1+0) (.bool true)⟩ [0,10,11,12,13,66,67,90,91,92] [0] [0,1] [0,1,2,3] ?_ ?_ (by kernel_rfl) rfl rfl rfl
    ·refine⟨by simp only;omega,by simp only;omega,?_,?_⟩
     ·dsimp only
      rw[←take_snoc hj0 hm,markE_snoc,←hdq]
     ·dsimp only
      rw[Nat.zero_add]
      exact hrq.set1 _ _
    ·simp only
     omega
   have hje:j.toNat=(roundE l d).length:=by have:=of_decide_eq_false hlt5;omega
   rw[hje,List.take_length]at hdq
   refine J_exit rfl ?_
   refine Zt (Rds 0 3++[.rd 3 [] 0 1,zR 4]) [93] [zI 12 (L - (↑(roundE l d).length:Int))] (oC (show IntKind.i64.wrap (L - (↑(roundE l d).length:Int))=L - (↑(roundE l d).length:Int) from wrap_i64 (by omega) (by omega)) oN) ?_
   refine jT [(0,true),(1,true),(2,false),(3,false),(4,true)] [] ?_
   refine Ym [zR 0,zR 1,.wr 2 [] 0] [] (fun nu1=>[zS 104 oa ok oc,zS 106 (sA (nu1 0) 0) 1 1]) o0 (fun nu1=>[(nu1 0,.cells #[.slice (sA g 0) ((roundE l d).length) cv] 32 (0,0))]) [] (fun nu1=>?_)
   refine JR_appm 1 112 32 1 24 (.slice none 0 0) (a0:=oa) (len:=ok) (cap0:=oc) (ax:=(some (⟨nu1 0,0,none⟩))) (m:=1) (c:=1) (dst:=(some 107)) [(roundE l d)] (by kernel_rfl) (by kernel_rfl) (by kernel_rfl) (by kernel_rfl) rfl (by decide) rfl (fun _ _ _ s=>src_one s 1 rfl rfl ⟨.inr (.inl (List.mem_of_getElem? (i:=3) rfl)),trivial⟩) (by simp only[maxLen];omega) (by omega) (fun av1 cv1=>?_)
   try simp only[aQ]
   refine Ya [zR 4] [107,104,106] [zS 11 av1 (ok+1) cv1] ?_
   try simp only[aQ]
   refine JR_end ?_
   try simp only[aQ]
   refine J_eb ?_
   try simp only[aQ]
   refine J_backx ⟨L - (roundE l d).length,_,ok+1,_,R++[roundE l d],dq,curq,xq,f⟩ [0,10,11,12] [0] [0,1] [0,1,2] ?_ ?_ (by kernel_rfl) rfl rfl rfl
   ·refine⟨hql,hrq,by simp only;omega,by simp only[List.length_append,List.length_singleton];omega,by simp only;omega,?_⟩
    dsimp only
    rw[hdq,show(L - ((roundE l d).length:Int)).toNat=L.toNat - (roundE l d).length by omega]
    exact hwh
   ·simp only
    omega
 ·have hL0:L.toNat=0:=by have:=of_decide_eq_false hlt;omega
  have hwh:roundsE l l.length (l.map fun _=>false) l.length=(R,true):=by
   rw[hRI,hL0,rounds_zero,List.append_nil]
  refine J_exit rfl ?_
  refine Zs (Rds 0 3) [64,0,10,11,12] [zS 2 oa ok oc,zV 3 .nilIface] ?_
  refine Yr [[],[]] (.tuple #[.slice oa ok oc,.nilIface]) fun a w s=>?_
  exact hQ _ _ (.inl (by rw[hwh];exact⟨rfl,_,_,_,((s.stp (stp_freeze 1 rfl)).hide 0 rfl).ret (by simp) [] [3] rfl rfl⟩))
end Go.Proofs.YtmkapocibaojdaaGreatDoor
end
