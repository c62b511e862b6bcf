/- Part 10 of the texts of a claim: PlR PlK PlN PlS Tx26 PlW Crc WireP CrcP Shard PlD. -/
import Derived.Test.YtmkapocibaojdaaGreatDoorTs9
section
namespace Go.Sx
open Go
def snapT (x:PlT) (k:Nat):Int:=if k=x.id then x.clock else minT ((x.rs.filter fun r=>decide (r.fm.toNat=k)).map (·.t))
def snapL (x:PlT):List Int:=(List.range x.places).map (snapT x)
def timesOk (rs:List RcvT):Prop:=∀x∈rs,0≤x.t∧x.t≤1099511627776
structure MinS where
 i:Int
 j:Nat
 b:Nat
end Go.Sx
namespace Go.Proofs.YtmkapocibaojdaaGreatDoor
open Go Go.Sx
set_option maxHeartbeats 4000000 in
theorem rTimeIn {w:World} {S:Nat→Prop} {M:List Nat} {bs:List Nat} {rs:List RcvT} {p b:Nat} {x:RcvT} (hP:Pre w S M [cRcvs bs rs]) (hb:bs[p]?=some b) (hx:rs[p]?=some x) :
  Calls Tryz.prog 82 #[.pointer (some ⟨b,0,none⟩)] w fun e w'=>Ret M w S w' e (.int .i64 x.t) [cRcvs bs rs] []:=by
 refine enG Tryz.func82 bd82 (args:=[.pointer (some ⟨b,0,none⟩)]) (S:=S) (C:=[cRcvs bs rs]) (G:=[]) (by kernel_rfl) hP (.nil _ _) ?_
 refine J_stp (stp_take 0 p rfl (zip_map_at hb hx)) ?_
 refine J_stpx (stp_openbox 0 rfl) fun mb _=>?_
 refine J_show 1 rfl ?_
 try simp only[aQ]
 refine Zs [zR 0] [] [zI 2 0] ?_
 refine Zs (Rds 0 3++[.rd 3 [.o 0 none] 0 0,zR 4]) [0] [zI 2 x.t] ?_
 refine Yr [[]] (nI x.t) fun a w s=>?_
 have s2:=(s.hide 0 rfl).stp (stp_closeRcv (y:=(b,x)) (mb:=mb) [2,1] rfl)
 have s3:=s2.stp (stp_join 1 0 p rfl rfl (by decide) (zip_map_at hb hx) rfl)
 exact s3.ret (by simp) [0] [] rfl rfl
set_option maxHeartbeats 4000000 in
theorem snapLess {w:World} {S:Nat→Prop} {M:List Nat} {bs:List Nat} {rs:List RcvT} {p b p2 b2:Nat} {x x2:RcvT} (hP:Pre w S M [cRcvs bs rs]) (hb:bs[p]?=some b) (hx:rs[p]?=some x) (hb2:bs[p2]?=some b2) (hx2:rs[p2]?=some x2) (ht:timesOk rs) :
  Calls Tryz.prog 81 #[.pointer (some ⟨b,0,none⟩),.pointer (some ⟨b2,0,none⟩)] w fun e w'=>Ret M w S w' e (.int .i64 (x.t - x2.t)) [cRcvs bs rs] []:=by
 have h1:=ht x (List.mem_of_getElem? hx)
 have h2:=ht x2 (List.mem_of_getElem? hx2)
 refine enG Tryz.func81 bd81 (args:=[.pointer (some ⟨b,0,none⟩),.pointer (some ⟨b2,0,none⟩)]) (S:=S) (C:=[cRcvs bs rs]) (G:=[]) (by kernel_rfl) hP (.nil _ _) ?_
 refine Zs [zR 0] [] [zI 4 0] ?_
 refine jS [(0,true),(1,false),(2,true),(3,false),(4,true),(5,true)] [] ?_
 refine Ya [zR 0] [0] [zP 5 b] ?_
 refine JR_call [] [0] 82 #[.pointer (some (⟨b,0,none⟩))] (some 6) (by kernel_rfl) (by kernel_rfl) (by decide) (fun w S M hP hG _=>?_)
 refine(rTimeIn hP hb hx).mono ?_
 rintro e1 w1 hR
 refine⟨_,_,_,hR,?_⟩
 try simp only[aQ]
 refine Ya [zR 2] [5,1] [zP 7 b2] ?_
 try simp only[aQ]
 refine JR_call [] [0] 82 #[.pointer (some (⟨b2,0,none⟩))] (some 8) (by kernel_rfl) (by kernel_rfl) (by decide) (fun w S M hP hG _=>?_)
 refine(rTimeIn hP hb2 hx2).mono ?_
 rintro e2 w2 hR
 refine⟨_,_,_,hR,?_⟩
 try simp only[aQ]
 refine Yp [.rd 4 [] 0 1,zR 5] [8,7,6] [zI 4 (x.t - x2.t)] (oC (show IntKind.i64.wrap (x.t - x2.t)=x.t - x2.t from wrap_i64 (by omega) (by omega)) oN) ?_
 try simp only[aQ]
 refine JR_end ?_
 try simp only[aQ]
 refine Yr [[]] (nI (x.t - x2.t)) fun a w s=>?_
 exact s.ret (by simp) [0] [] rfl rfl
theorem take_times {rs:List RcvT} {p0 j:Nat} {x:RcvT} (hx:rs[p0+j]?=some x):((rs.drop p0).take (j+1)).map (·.t)=((rs.drop p0).take j).map (·.t)++[x.t]:=by
 have h:(rs.drop p0)[j]?=some x:=by rw[List.getElem?_drop];exact hx
 rw[List.take_add_one,h,List.map_append]
 rfl
set_option maxHeartbeats 4000000 in
theorem minRcv {w:World} {S:Nat→Prop} {M:List Nat} {bs r:List Nat} {rs:List RcvT} {p0 n c:Nat} {a:Option Addr} (hP:Pre w S M [cRcvs bs rs]) (hr:Rep w S (.slice a n c) (dPtrs r)) (hne:r≠[]) (hat:∀i b,r[i]?=some b→bs[p0+i]?=some b) (hl:bs.length=rs.length) (ht:timesOk rs) (hlen:r.length≤1000000) :
  Calls Tryz.prog 80 #[.slice a n c,.func (.func 81) #[] #[]] w fun e w'=>∃(j b:Nat),Ret M w S w' e (.pointer (some ⟨b,0,none⟩)) [cRcvs bs rs] []∧bs[j]?=some b∧∃x,rs[j]?=some x∧x.t=minT (((rs.drop p0).take r.length).map (·.t)):=by
 have hn:=hr.slen
 rw[List.length_map]at hn
 subst hn
 have hpos:1≤r.length:=by
  have:=List.length_pos_iff.2 hne
  omega
 have hval:∀i b,r[i]?=some b→∃x,rs[p0+i]?=some x:=fun i b h=>by
  have:=(List.getElem?_eq_some_iff.1 (hat i b h)).1
  exact⟨_,List.getElem?_eq_getElem (by omega)⟩
 obtain⟨b0,hb0⟩:∃b,r[(0:Int).toNat]?=some b:=⟨_,List.getElem?_eq_getElem (by show 0<r.length;omega)⟩
 obtain⟨x0,hx0⟩:=hval 0 b0 hb0
 refine enG Tryz.func80 bd80 (args:=[.slice a r.length c,.func (.func 81) #[] #[]]) (S:=S) (C:=[cRcvs bs rs]) (G:=[(_,dPtrs r)]) (by kernel_rfl) hP (.cons hr (.nil _ _)) ?_
 have hp1:¬((r.length:Int)<1):=by omega
 refine Zs [zR 0] [] [zV 4 (.pointer none)] ?_
 refine J_seq ?_
 refine Zt [zR 0,zR 1,.rd 2 [] 0 7] [] [zB 9 false] (oC (show decide ((↑r.length:Int)<(1:Int))=false from by simp;omega) oN) ?_
 refine cF ?_
 refine J_skip (J_seq ?_)
 refine J_read0 0 rfl (Int.toNat 0) (map_at hb0) (by kernel_rfl) (fun b1 off1 cs1 ty1 fz1 ha1 hrd1=>?_)
 cases ha1
 have hrd1_0:=rd0 (hrd1 0 _ rfl)
 simp only[Int.toNat_zero,Nat.zero_mul,Nat.add_zero]at hrd1_0
 try simp only[aQ]
 refine Zp [zR 0,.rd 1 [] 0 2,.rd 2 [.r 0 (some (.pointer (sA b0 0)))] 0 0,zR 3] [9] [zP 5 b0] (oC (show(0:Int)≤(0:Int) from by omega) (oC (show(0:Int)<(↑r.length:Int) from by omega) (oC hrd1_0 oN))) ?_
 refine J_seq ?_
 refine Zs [zR 0] [] [zI 6 1] ?_
 refine J_block ?_
 refine J_loopx (fun x:MinS=>[zS 0 (sA b1 off1) r.length c,zV 1 (.func (.func 81) #[] #[]),zV 4 (.pointer none),zV 5 (.pointer (some ⟨x.b,0,none⟩)),zI 6 x.i]) (fun x:MinS=>[]) (fun x:MinS=>[cRcvs bs rs]) (fun x:MinS=>[(.slice (sA b1 off1) r.length c,(dPtrs r))]) (fun x:MinS=>(r.length - x.i).toNat) (fun x:MinS=>(1≤x.i∧x.i≤r.length∧bs[p0+x.j]?=some x.b∧∃y,rs[p0+x.j]?=some y∧y.t=minT (((rs.drop p0).take x.i.toNat).map (·.t)))) ⟨1,0,b0⟩ [0,1,4,5,6] [] [0] [0] ?_ (by kernel_rfl) rfl rfl rfl ?_
 ·exact⟨by simp,by simp only;omega,hat 0 b0 hb0,x0,hx0,by
   have:=take_times (rs:=rs) (p0:=p0) (j:=0) (x:=x0) hx0
   simp only[show(1:Int).toNat=0+1 from rfl,this]
   rfl⟩
 rintro⟨i,j,b⟩ ⟨hi0,hi,hb,y,hy,hyt⟩
 dsimp only at hi0 hi hb hy hyt ⊢
 refine J_seq ?_
 refine Zs (Rds 0 4) [] [zB 17 (decide (i<(↑r.length:Int)))] ?_
 refine cC (t:=decide (i<(↑r.length:Int))) (fun hlt=>?_) (fun hlt=>?_)
 ·have hlt2:i<r.length:=by simpa using hlt
  obtain⟨b1,hb1⟩:∃b,r[i.toNat]?=some b:=⟨_,List.getElem?_eq_getElem (by omega)⟩
  obtain⟨x1,hx1⟩:=hval _ _ hb1
  have hne2:((rs.drop p0).take i.toNat).map (·.t)≠[]:=by
   intro h0
   have h3:=congrArg List.length h0
   have:=(List.getElem?_eq_some_iff.1 hx1).1
   simp at h3
   omega
  have hms:=minT_snoc hne2 x1.t
  rw[←take_times hx1]at hms
  refine J_again0 0 rfl 0 rfl i.toNat (map_at hb1) (by kernel_rfl) (fun hrd2=>?_)
  have hrd2_0:=rd0 (hrd2 0 _ rfl)
  try simp only[aQ]
  refine J_skip (J_seq (J_block ?_))
  refine jS [(0,true),(1,true),(2,true),(3,true),(4,true),(5,true),(6,false),(7,true)] [] ?_
  refine Yp (Rds 0 3++[.rd 3 [] 0 2,.rd 4 [.r 0 (some (.pointer (sA b1 0)))] 0 0,zR 5]) [17] [zV 20 (.func (.func 81) #[] #[]),zP 24 b1,zP 25 b] (oC (show 0≤i from by omega) (oC hlt2 (oC hrd2_0 oN))) ?_
  refine JR_call [] [0] 81 #[.pointer (some (⟨b1,0,none⟩)),.pointer (some (⟨b,0,none⟩))] (some 26) (by kernel_rfl) (by kernel_rfl) (by decide) (fun w S M hP hG _=>?_)
  refine(snapLess hP (hat _ _ hb1) hx1 hb hy ht).mono ?_
  rintro e1 w1 hR
  refine⟨_,_,_,hR,?_⟩
  try simp only[aQ]
  refine Ya [zR 7] [26,20,24,25] [zB 27 (decide (x1.t - y.t<0))] ?_
  try simp only[aQ]
  refine JR_end ?_
  try simp only[aQ]
  refine cC (t:=decide (x1.t - y.t<0)) (fun hm=>?_) (fun hm=>?_)
  ·refine J_again0 0 rfl 0 rfl i.toNat (map_at hb1) (by kernel_rfl) (fun hrd3=>?_)
   have hrd3_0:=rd0 (hrd3 0 _ rfl)
   try simp only[aQ]
   refine Zp [zR 0,zR 1,.rd 2 [] 0 2,.rd 3 [.r 0 (some (.pointer (sA b1 0)))] 0 0,zR 4] [27] [zP 5 b1] (oC (show 0≤i from by omega) (oC hlt2 (oC hrd2_0 oN))) ?_
   try simp only[aQ]
   refine J_eb ?_
   try simp only[aQ]
   refine Zp [zR 0,.rd 1 [] 0 1,zR 2] [] [zI 6 (i+1)] (oC (show IntKind.i64.wrap (i+1)=i+1 from wrap_i64 (by omega) (by omega)) oN) ?_
   try simp only[aQ]
   refine J_backx ⟨i+1,i.toNat,b1⟩ [0,1,4,5,6] [] [0] [0] ?_ ?_ (by kernel_rfl) rfl rfl rfl
   ·refine⟨by simp only;omega,by simp only;omega,hat _ _ hb1,x1,hx1,?_⟩
    rw[show(i+1).toNat=i.toNat+1 by omega,hms,if_pos (by simp at hm;omega)]
   ·simp only
    omega
  ·try simp only[aQ]
   refine J_skip ?_
   try simp only[aQ]
   refine J_eb ?_
   try simp only[aQ]
   refine Zp [zR 0,.rd 1 [] 0 1,zR 2] [27] [zI 6 (i+1)] (oC (show IntKind.i64.wrap (i+1)=i+1 from wrap_i64 (by omega) (by omega)) oN) ?_
   try simp only[aQ]
   refine J_backx ⟨i+1,j,b⟩ [0,1,4,5,6] [] [0] [0] ?_ ?_ (by kernel_rfl) rfl rfl rfl
   ·refine⟨by simp only;omega,by simp only;omega,hb,y,hy,?_⟩
    rw[show(i+1).toNat=i.toNat+1 by omega,hms,if_neg (by simp at hm;omega),hyt]
   ·simp only
    omega
 ·have hie:i=r.length:=by simp at hlt;omega
  rw[hie]at hyt
  refine J_exit rfl ?_
  refine Zs [zR 0,zR 1] [17,0,1,5,6] [zP 4 b] ?_
  refine Yr [[]] (.pointer (sA b 0)) fun a w s=>?_
  exact⟨_,_,s.ret (by simp) [0] [] rfl rfl,hb,y,hy,hyt⟩
end Go.Proofs.YtmkapocibaojdaaGreatDoor
end
section
namespace Go.Proofs.YtmkapocibaojdaaGreatDoor
open Go Go.Sx
def knownErr (x:PlT) (at':List Int):Nat:=if vecErr at'≠0 then vecErr at' else if at'.length≠x.places then 3 else if inL at' (snapL x)=true then 0 else 11
structure PlOk (x:PlT):Prop where
 p1:1≤x.places
 p6:x.places≤6
 s1:1≤x.shards
 s6:x.shards≤6
 id:x.id<x.places
 c0:0≤x.clock
 c1:x.clock≤1099511627776
 base:vecErr x.base=0
 basel:x.base.length=x.places
 ss:x.ss.map PlT.pair=pairsP x.id x.shards x.places
 rs:x.rs.map PlT.pairR=pairsP x.id x.shards x.places
 ts:timesOk x.rs
theorem snapT_in {x:PlT} (h:PlOk x) {k:Nat} (hk:k<x.places):0≤snapT x k∧snapT x k≤1099511627776:=by
 unfold snapT
 split
 ·exact⟨h.c0,h.c1⟩
 ·rename_i hne
  have e:=part_eq h.rs hk
  have hlen:((x.rs.drop (posP x.id x.shards k)).take (rowP x.id x.shards k).length).length≠0:=by
   have hl:=congrArg List.length h.rs
   rw[List.length_map]at hl
   obtain⟨B,hB,_⟩:=pairsP_split (id:=x.id) (shards:=x.shards) hk
   rw[hB]at hl
   simp only[List.length_append]at hl
   have h1:=h.s1
   have h2:(rowP x.id x.shards k).length=x.shards:=by rw[rowP_length,if_neg hne]
   rw[List.length_take,List.length_drop]
   unfold posP
   omega
  have hm:minT ((x.rs.filter fun r=>decide (r.fm.toNat=k)).map (·.t))∈(x.rs.filter fun r=>decide (r.fm.toNat=k)).map (·.t):=minT_mem (by
   intro h0
   rw[List.map_eq_nil_iff]at h0
   rw[show(fun r:RcvT=>decide (r.fm.toNat=k))=fun r=>decide ((PlT.pairR r).1=k) from rfl,←e]at h0
   rw[h0]at hlen
   exact hlen rfl)
  obtain⟨y,hy,hyt⟩:=List.mem_map.1 hm
  rw[←hyt]
  exact h.ts y (List.mem_filter.1 hy).1
theorem snapL_ok {x:PlT} (h:PlOk x):vecErr (snapL x)=0:=by
 unfold vecErr
 have h1:=h.p1
 have h6:=h.p6
 rw[if_neg (by simp[snapL];omega),if_neg]
 intro ha
 obtain⟨t,ht,hb⟩:=List.any_eq_true.1 ha
 obtain⟨k,hk,rfl⟩:=List.mem_map.1 ht
 have:=snapT_in h (List.mem_range.1 hk)
 simp only[badT,Bool.or_eq_true,decide_eq_true_eq]at hb
 omega
set_option maxHeartbeats 4000000 in
theorem pSnapshot {w:World} {S:Nat→Prop} {M:List Nat} {x:PlT} {b vb ic:Nat} {o:Value} {ia:Option Addr} {rows:List (List Nat)} (hP:Pre w S M [cObj b (plC vb x.id x.places x.shards x.clock o (.slice ia x.places ic)),cRcvs rows.flatten x.rs]) (hi:Rep w S (.slice ia x.places ic) (dRows rows)) (hok:RowsOk x.id x.shards x.places rows) (h:PlOk x) :
  Calls Tryz.prog 19 #[.pointer (some ⟨b,0,none⟩)] w fun e w'=>∃a' n' c',Ret M w S w' e (.slice a' n' c') [cObj b (plC vb x.id x.places x.shards x.clock o (.slice ia x.places ic)),cRcvs rows.flatten x.rs] [(.slice a' n' c',dInts (snapL x))]:=by
 have hp6:=h.p6
 have hs6:=h.s6
 have hl2:rows.flatten.length=x.rs.length:=by
  have:=congrArg List.length h.rs
  rw[List.length_map]at this
  rw[hok.flen,this]
  rfl
 refine enG Tryz.func19 bd19 (args:=[.pointer (some ⟨b,0,none⟩)]) (S:=S) (G:=[(_,dRows rows)]) (by kernel_rfl) hP (.cons hi (.nil _ _)) ?_
 refine J_show 0 rfl ?_
 refine Zs [zR 0] [] [zS 2 none 0 0] ?_
 refine Zs [zR 0] [] [zS 3 none 0 0] ?_
 refine J_seq ?_
 refine Zs (Rds 0 3++[.rd 3 [.o 0 none] 0 0,zR 4,zR 5]) [] [zS 10 ia x.places ic,zI 11 (↑x.places:Int),zI 12 0] ?_
 refine J_block ?_
 refine J_stp (stp_acc 3 1) ?_
 refine J_loopx (fun y:AccI=>[zP 0 b,zS 2 none 0 0,zS 3 y.a y.k y.c,zS 10 ia x.places ic,zI 11 (↑x.places:Int),zI 12 y.i]) (fun y:AccI=>[(b,.cells #[.pointer (sA vb 0),nI (↑x.id:Int),nI (↑x.places:Int),nI (↑x.shards:Int),nI x.clock,o,.slice ia x.places ic] 124 (0,0))]) (fun y:AccI=>[cRcvs rows.flatten x.rs,cAcc (.slice y.a y.k y.c) 3 1 (((List.range y.i.toNat).map (snapT x)).map eI)]) (fun y:AccI=>[(.slice ia x.places ic,(dRows rows))]) (fun y:AccI=>(x.places - y.i).toNat) (fun y:AccI=>(0≤y.i∧y.i≤x.places)) ⟨0,none,0,0⟩ [0,2,3,10,11,12] [0] [0,1] [0] ?_ (by kernel_rfl) rfl rfl rfl ?_
 ·exact⟨by simp,by simp⟩
 rintro⟨i,av,k,cv⟩ ⟨hi0,hi1⟩
 dsimp only at hi0 hi1 ⊢
 refine J_stpx (stp_acclen 1 rfl) fun _ hk=>?_
 have hk2:k≤6:=by simp at hk;omega
 refine Zs [zR 0] [] [zB 13 (decide (i<(↑x.places:Int)))] ?_
 refine J_seq ?_
 refine cC (t:=decide (i<(↑x.places:Int))) (fun hlt=>?_) (fun hlt=>?_)
 ·have hlt2:i<x.places:=by simpa using hlt
  have hiN:i.toNat<x.places:=by omega
  obtain⟨r,hr⟩:∃r,rows[i.toNat]?=some r:=⟨_,List.getElem?_eq_getElem (by rw[hok.len];exact hiN)⟩
  have hrl:=hok.row hr
  have hsn:(List.range (i+1).toNat).map (snapT x)=(List.range i.toNat).map (snapT x)++[snapT x i.toNat]:=by
   rw[show(i+1).toNat=i.toNat+1 by omega,List.range_succ,List.map_append]
   rfl
  refine J_read1 0 rfl i.toNat (map_at hr) (by kernel_rfl) (fun b1 off1 cs1 ty1 fz1 a1_0 c1_0 ha1 hrd1=>?_)
  cases ha1
  have hrd1_0:=rd0 (hrd1 0 _ rfl)
  try simp only[aQ]
  refine J_skip (J_seq (J_block ?_))
  refine Zt [zR 0,.rd 1 [] 0 2,.rd 2 [.r 0 (some (.slice (a1_0,c1_0).fst ((List.map eP r).length) c1_0))] 0 0,zR 3,zR 4] [13] [zI 4 i,zS 5 (a1_0,c1_0).fst ((List.map eP r).length) c1_0] (oC hi0 (oC hlt2 (oC hrd1_0 oN))) ?_
  refine Zs (Rds 0 3++[.rd 3 [.o 0 none] 0 0,zR 4]) [] [zI 6 x.clock] ?_
  refine J_seq ?_
  refine Zs (Rds 0 4++[.rd 4 [.o 0 none] 0 0,zR 5]) [] [zB 26 (i != (↑x.id:Int))] ?_
  refine cC (t:=i != (↑x.id:Int)) (fun hne=>?_) (fun hne=>?_)
  ·have hne2:i.toNat≠x.id:=by
    intro h0
    apply (by simpa using hne:¬i=x.id)
    omega
   rw[if_neg hne2]at hrl
   have hs1:=h.s1
   refine jT [(0,true),(1,false),(2,false),(3,true)] [] ?_
   refine Ya [zR 0] [26] [zS 27 (a1_0,c1_0).fst ((List.map eP r).length) c1_0] ?_
   refine JR_call [] [0] 80 #[.slice (a1_0,c1_0).fst ((List.map eP r).length) c1_0,.func (.func 81) #[] #[]] (some 28) (by kernel_rfl) (by kernel_rfl) (by decide) (fun w S M hP hG _=>?_)
   refine(minRcv (p0:=posP x.id x.shards i.toNat) (r:=r) hP (hG.at 1 rfl) (fun h0=>by rw[h0]at hrl;simp at hrl;omega) (fun j b hb=>hok.at hr hb) hl2 h.ts (by omega)).mono ?_
   rintro e1 w1 ⟨j,b2,hR,hb2,y,hy,hyt⟩
   have hst:y.t=snapT x i.toNat:=by
    rw[hyt,snapT,if_neg hne2,show(fun r:RcvT=>decide (r.fm.toNat=i.toNat))=fun r=>decide ((PlT.pairR r).1=i.toNat) from rfl,←part_eq h.rs hiN,rowP_length,if_neg hne2,hrl]
   refine⟨_,_,_,hR,?_⟩
   try simp only[aQ]
   refine JR_call [] [1] 82 #[.pointer (some (⟨b2,0,none⟩))] (some 29) (by kernel_rfl) (by kernel_rfl) (by decide) (fun w S M hP hG _=>?_)
   refine(rTimeIn hP hb2 hy).mono ?_
   rintro e2 w2 hR
   refine⟨_,_,_,hR,?_⟩
   rw[hst]
   try simp only[aQ]
   refine Ya [zR 3] [29,28,27] [zI 6 (snapT x i.toNat)] ?_
   try simp only[aQ]
   refine JR_end ?_
   try simp only[aQ]
   refine jT [(0,true),(1,true),(2,false),(3,false),(4,true)] [] ?_
   refine Ym [zR 0,zR 1,.wr 2 [] 0] [] (fun nu1=>[zS 30 av k cv,zS 32 (sA (nu1 0) 0) 1 1]) o0 (fun nu1=>[(nu1 0,.cells #[nI (snapT x i.toNat)] 3 (0,0))]) [] (fun nu1=>?_)
   refine JR_appm 0 32 3 1 8 (.int .i64 0) (a0:=av) (len:=k) (cap0:=cv) (ax:=(some (⟨nu1 0,0,none⟩))) (m:=1) (c:=1) (dst:=(some 33)) [(snapT x i.toNat)] (by kernel_rfl) (by kernel_rfl) (by kernel_rfl) (by kernel_rfl) rfl (by decide) rfl (fun _ _ _ s=>src_one s 1 rfl rfl ⟨.inl ⟨rfl,rfl⟩,trivial⟩) (by simp only[maxLen];omega) (by omega) (fun av1 cv1=>?_)
   try simp only[aQ]
   refine Ya [zR 4] [33,30,32] [zS 3 av1 (k+1) cv1] ?_
   try simp only[aQ]
   refine JR_end ?_
   try simp only[aQ]
   refine J_eb ?_
   try simp only[aQ]
   refine Zp [.rd 0 [] 0 1,zR 1] [] [zI 12 (i+1)] (oC (show IntKind.i64.wrap (i+1)=i+1 from wrap_i64 (by omega) (by omega)) oN) ?_
   try simp only[aQ]
   rw[←hsn]
   refine J_backx ⟨i+1,av1,k+1,cv1⟩ [0,2,3,10,11,12] [0] [0,1] [0] ?_ ?_ (by kernel_rfl) rfl rfl rfl
   ·exact⟨by simp only;omega,by simp only;omega⟩
   ·simp only
    omega
  ·have hid:i.toNat=x.id:=by
    have:i=x.id:=by simpa using hne
    omega
   have hst:x.clock=snapT x i.toNat:=by rw[snapT,if_pos hid]
   refine J_skip ?_
   refine jT [(0,true),(1,true),(2,false),(3,false),(4,true)] [] ?_
   refine Ym [zR 0,zR 1,.wr 2 [] 0] [26] (fun nu1=>[zS 30 av k cv,zS 32 (sA (nu1 0) 0) 1 1]) o0 (fun nu1=>[(nu1 0,.cells #[nI x.clock] 3 (0,0))]) [] (fun nu1=>?_)
   rw[hst]
   refine JR_appm 1 32 3 1 8 (.int .i64 0) (a0:=av) (len:=k) (cap0:=cv) (ax:=(some (⟨nu1 0,0,none⟩))) (m:=1) (c:=1) (dst:=(some 33)) [(snapT x i.toNat)] (by kernel_rfl) (by kernel_rfl) (by kernel_rfl) (by kernel_rfl) rfl (by decide) rfl (fun _ _ _ s=>src_one s 1 rfl rfl ⟨.inl ⟨rfl,rfl⟩,trivial⟩) (by simp only[maxLen];omega) (by omega) (fun av1 cv1=>?_)
   try simp only[aQ]
   refine Ya [zR 4] [33,30,32] [zS 3 av1 (k+1) cv1] ?_
   try simp only[aQ]
   refine JR_end ?_
   try simp only[aQ]
   refine J_eb ?_
   try simp only[aQ]
   refine Zp [.rd 0 [] 0 1,zR 1] [] [zI 12 (i+1)] (oC (show IntKind.i64.wrap (i+1)=i+1 from wrap_i64 (by omega) (by omega)) oN) ?_
   try simp only[aQ]
   rw[←hsn]
   refine J_backx ⟨i+1,av1,k+1,cv1⟩ [0,2,3,10,11,12] [0] [0,1] [0] ?_ ?_ (by kernel_rfl) rfl rfl rfl
   ·exact⟨by simp only;omega,by simp only;omega⟩
   ·simp only
    omega
 ·have hie:i.toNat=x.places:=by simp at hlt;omega
  rw[hie]
  refine J_exit rfl ?_
  refine Zs [zR 0,zR 1] [13,0,3,10,11,12] [zS 2 av k cv] ?_
  refine Yr [[]] (.slice av k cv) fun a w s=>?_
  have s2:=(s.stp (stp_freeze 1 rfl)).hide 0 rfl
  exact⟨_,_,_,s2.ret (by simp) [1,0] [1] rfl rfl⟩
end Go.Proofs.YtmkapocibaojdaaGreatDoor
end
section
namespace Go.Proofs.YtmkapocibaojdaaGreatDoor
open Go Go.Sx
set_option maxHeartbeats 4000000 in
theorem pKnown {w:World} {S:Nat→Prop} {M:List Nat} {er:Nat→Addr} {eb:Nat→Array Value×TypeId} {x:PlT} {b vb ic n1 c1:Nat} {o:Value} {ia a1:Option Addr} {rows:List (List Nat)} {at':List Int} (hC:Rep w S .nilIface (dC er eb)) (hP:Pre w S M [cObj b (plC vb x.id x.places x.shards x.clock o (.slice ia x.places ic)),cRcvs rows.flatten x.rs]) (hi:Rep w S (.slice ia x.places ic) (dRows rows)) (h1:Rep w S (.slice a1 n1 c1) (dInts at')) (hok:RowsOk x.id x.shards x.places rows) (h:PlOk x) (hl1:at'.length≤1000000) :
  Calls Tryz.prog 83 #[.pointer (some ⟨b,0,none⟩),.slice a1 n1 c1] w fun e w'=>∃v,Ret M w S w' e v [cObj b (plC vb x.id x.places x.shards x.clock o (.slice ia x.places ic)),cRcvs rows.flatten x.rs] []∧ErrIs 390 er (knownErr x at') v:=by
 obtain rfl:=rep_ints_len h1
 have hsn:=snapL_ok h
 have hp6:=h.p6
 have hsl:(snapL x).length=x.places:=by simp[snapL]
 refine enG Tryz.func83 bd83 (args:=[.pointer (some ⟨b,0,none⟩),.slice a1 at'.length c1]) (S:=S) (G:=[(_,dC er eb),(_,dRows rows),(_,dInts at')]) (by kernel_rfl) hP (.cons hC (.cons hi (.cons h1 (.nil _ _)))) ?_
 refine J_stp (stp_all 0 [2,10] rfl rfl) ?_
 refine J_glob 3 rfl (fun csg1 tyg1 fzg1 hglob1=>?_)
 refine J_glob 4 rfl (fun csg2 tyg2 fzg2 hglob2=>?_)
 try simp only[aQ]
 refine Zs [zR 0] [] [zV 4 .nilIface] ?_
 refine J_seq ?_
 refine jS [(0,true),(1,false),(2,true)] [] ?_
 refine Ya [zR 0] [] [zS 8 a1 at'.length c1] ?_
 refine Yc 141 #[.slice a1 at'.length c1] (some 9) fun w S hG=>?_
 refine(vcheck (globs_of (hG.at 0 rfl)) (hG.at 2 rfl) hl1).mono ?_
 rintro e1 w1 ⟨v,hR,hv⟩
 refine⟨_,_,_,hR,?_⟩
 obtain⟨hv0,rfl⟩|⟨hv0,rfl⟩:=hv
 case inr=>
  have hae:knownErr x at'=vecErr at':=by rw[knownErr,if_pos hv0]
  rw[hae]
  try simp only[aQ]
  refine Ya [zR 2] [9,8] [zV 5 (.iface 390 (.pointer (some (er (vecErr at')))))] ?_
  refine JR_end ?_
  refine Zs [zR 0,zR 1] [] [zB 11 true] ?_
  refine cTt ?_
  refine Zs [zR 0,zR 1] [11,5] [zV 4 (.iface 390 (.pointer (some (er (vecErr at')))))] ?_
  refine Yr [[]] (.iface 390 (.pointer (some (er (vecErr at'))))) fun a w s=>?_
  exact⟨_,s.ret (by simp) [0,1] [] rfl rfl,.inr ⟨hv0,rfl⟩⟩
 try simp only[aQ]
 refine Ya [zR 2] [9,8] [zV 5 .nilIface] ?_
 refine JR_end ?_
 refine Zs [zR 0,zR 1] [] [zB 11 false] ?_
 refine cF ?_
 refine J_skip (J_seq (J_seq ?_))
 refine Nm [cObj b (.cells #[.pointer (sA vb 0),nI (↑x.id:Int),nI (↑x.places:Int),nI (↑x.shards:Int),nI x.clock,o,.slice ia x.places ic] 124 (0,0)),(cRcvs rows.flatten x.rs)] ?_
 refine J_show 0 rfl ?_
 by_cases hal:at'.length=x.places
 case neg=>
  have hae:knownErr x at'=3:=by rw[knownErr,if_neg (by simp[hv0]),if_pos hal]
  have hal2:¬(at'.length:Int)=x.places:=by omega
  rw[hae]
  refine Zp (Rds 0 5++[.rd 5 [.o 0 none] 0 0,.rd 6 [] 0 6]) [11,5] [zB 19 true] (oC (show((↑at'.length:Int) != (↑x.places:Int))=true from by simp;omega) oN) ?_
  refine cTt ?_
  refine Zt [.rd 0 [.r 0 (some (.iface 390 (.pointer (some (er 3)))))] 0 0,zR 1] [19] [zV 4 (.iface 390 (.pointer (some (er 3))))] (oC hglob1 oN) ?_
  refine Yr [[]] (.iface 390 (.pointer (some (er 3)))) fun a w s=>?_
  exact⟨_,(s.hide 0 rfl).ret (by simp) [1,0] [] rfl rfl,.inr ⟨by decide,rfl⟩⟩
 have hal2:(at'.length:Int)=x.places:=by omega
 have htw:twoErr at' (snapL x)=0:=by rw[twoErr,if_neg (by simp[hv0]),if_neg (by simp[hsn]),if_neg (by simp[hal,hsl])]
 refine Zp (Rds 0 5++[.rd 5 [.o 0 none] 0 0,.rd 6 [] 0 7]) [11,5] [zB 19 false] (oC (show((↑at'.length:Int) != (↑x.places:Int))=false from by simp;omega) oN) ?_
 refine cF ?_
 refine J_skip (J_seq (J_seq ?_))
 refine J_hide 0 rfl ?_
 refine Nm [(cRcvs rows.flatten x.rs),cObj b (.cells #[.pointer (sA vb 0),nI (↑x.id:Int),nI (↑x.places:Int),nI (↑x.shards:Int),nI x.clock,o,.slice ia x.places ic] 124 (0,0))] ?_
 refine jT [(0,true),(1,true),(2,false),(3,false),(4,true),(5,true),(6,true),(7,true),(8,true)] [] ?_
 refine Ya [zR 0,zR 1] [19,0,1] [zS 22 a1 at'.length c1,zP 23 b] ?_
 refine JR_call [] [1,0] 19 #[.pointer (some (⟨b,0,none⟩))] (some 24) (by kernel_rfl) (by kernel_rfl) (by decide) (fun w S M hP hG _=>?_)
 refine(pSnapshot hP (hG.at 1 rfl) hok h).mono ?_
 rintro e2 w2 ⟨a2,n2,c2,hR⟩
 refine⟨_,_,_,hR,?_⟩
 try simp only[aQ]
 refine Yc 100 #[.slice a1 at'.length c1,.slice a2 n2 c2] (some 25) fun w S hG=>?_
 refine(vwithin (globs_of (hG.at 0 rfl)) (hG.at 2 rfl) (hG.at 5 rfl) hl1 (by omega)).mono ?_
 rintro e3 w3 (⟨htw2,_⟩|⟨_,hR⟩)
 ·exact absurd htw htw2
 refine⟨_,_,_,hR,?_⟩
 cases hin:inL at' (snapL x)with
 | true=>
  have hae:knownErr x at'=0:=by rw[knownErr,if_neg (by simp[hv0]),if_neg (by simp[hal]),if_pos hin]
  rw[hae]
  try simp only[aQ]
  refine Ya (Rds 4 9) [25,24,22,23] [zB 6 true] ?_
  try simp only[aQ]
  refine JR_end ?_
  try simp only[aQ]
  refine J_seq ?_
  try simp only[aQ]
  refine Za [zR 0,zR 1] [6] [zB 29 false] ?_
  try simp only[aQ]
  refine cF ?_
  try simp only[aQ]
  refine J_skip ?_
  try simp only[aQ]
  refine J_seq ?_
  try simp only[aQ]
  refine Za [zR 0] [29] [] ?_
  try simp only[aQ]
  refine Yr [[]] (.nilIface) fun a w s=>?_
  exact⟨_,s.ret (by simp) [0,1] [] rfl rfl,.inl ⟨rfl,rfl⟩⟩
 | false=>
  have hae:knownErr x at'=11:=by rw[knownErr,if_neg (by simp[hv0]),if_neg (by simp[hal]),if_neg (by simp[hin])]
  rw[hae]
  try simp only[aQ]
  refine Ya (Rds 4 9) [25,24,22,23] [zB 6 false] ?_
  try simp only[aQ]
  refine JR_end ?_
  try simp only[aQ]
  refine J_seq ?_
  try simp only[aQ]
  refine Za [zR 0,zR 1] [6] [zB 29 true] ?_
  try simp only[aQ]
  refine cTt ?_
  try simp only[aQ]
  refine J_seq ?_
  try simp only[aQ]
  refine Zp [.rd 0 [.r 1 (some (.iface 390 (.pointer (some (er 11)))))] 0 0,zR 1] [29] [zV 4 (.iface 390 (.pointer (some (er 11))))] (oC hglob2 oN) ?_
  try simp only[aQ]
  refine Yr [[]] (.iface 390 (.pointer (some (er 11)))) fun a w s=>?_
  exact⟨_,s.ret (by simp) [0,1] [] rfl rfl,.inr ⟨by decide,rfl⟩⟩
end Go.Proofs.YtmkapocibaojdaaGreatDoor
end
section
namespace Go.Proofs.YtmkapocibaojdaaGreatDoor
open Go Go.Sx
def SndT.msg (y:SndT) (c:ComT):MsgT:=⟨y.fm,y.to,y.sh,y.q+1,c.when.getD c.place.toNat 0,false,c⟩
def SndT.com (y:SndT) (c:ComT):SndT:={ y with q:=y.q+1,t:=c.when.getD c.place.toNat 0,l:=y.l++[SndT.msg y c] }
def SndT.beatM (y:SndT) (t:Int):MsgT:=⟨y.fm,y.to,y.sh,y.q+1,t,true,⟨[],0,[]⟩⟩
def SndT.beat (y:SndT) (t:Int):SndT:={ y with q:=y.q+1,t:=t,l:=y.l++[SndT.beatM y t] }
section snds
variable {w:World} {S:Nat→Prop} {M:List Nat} {er:Nat→Addr} {eb:Nat→Array Value×TypeId} {bs:List Nat} {ss:List SndT} {rs:List RcvT} {p b:Nat}
theorem newSnd {fm to sh:Int} (hC:Rep w S .nilIface (dC er eb)) (h0:wayErr fm to sh=0) :
  Calls Tryz.prog 58 #[.int .i64 fm,.int .i64 to,.int .i64 sh] w fun e w'=>∃b,Ret [] w S w' e (.tuple #[.pointer (some ⟨b,0,none⟩),.nilIface]) [cSnd (b,⟨fm,to,sh,0,0,[]⟩)] []:=
 (newSender (globs_of hC) h0).mono fun e w' ⟨b,hR⟩=>⟨b,(hR.add (cAcc (.slice none 0 0) 62 9 (([]:List MsgT).map eMsg)) fun _ _=>⟨by decide,.inl ⟨rfl,rfl,rfl⟩⟩).close1g (none,0,0) trivial fun _ h=>by cases h⟩
theorem newRcv {fm to sh:Int} (hC:Rep w S .nilIface (dC er eb)) (h0:wayErr fm to sh=0) :
  Calls Tryz.prog 59 #[.int .i64 fm,.int .i64 to,.int .i64 sh] w fun e w'=>∃b,Ret [] w S w' e (.tuple #[.pointer (some ⟨b,0,none⟩),.nilIface]) [cRcv (b,⟨fm,to,sh,0,0,[]⟩)] []:=
 (newReceiver (globs_of hC) h0).mono fun e w' ⟨b,mb,hR⟩=>⟨b,hR.close1g mb trivial fun _ h=>by cases h⟩
theorem sndNew {fm to sh:Int} (hC:Rep w S .nilIface (dC er eb)) (hP:Pre w S M [cSnds bs ss]) (hl:bs.length=ss.length) (h0:wayErr fm to sh=0) :
  Calls Tryz.prog 58 #[.int .i64 fm,.int .i64 to,.int .i64 sh] w fun e w'=>∃b,Ret M w S w' e (.tuple #[.pointer (some ⟨b,0,none⟩),.nilIface]) [cSnds (bs++[b]) (ss++[⟨fm,to,sh,0,0,[]⟩])] []:=
 (newSnd hC h0).mono fun e w' ⟨b,hR⟩=>⟨b,by
  have h:=(hP.frame hR).push
  rwa[cSnds,List.zip_append hl,List.map_append]⟩
theorem rcvNew {fm to sh:Int} (hC:Rep w S .nilIface (dC er eb)) (hP:Pre w S M [cRcvs bs rs]) (hl:bs.length=rs.length) (h0:wayErr fm to sh=0) :
  Calls Tryz.prog 59 #[.int .i64 fm,.int .i64 to,.int .i64 sh] w fun e w'=>∃b,Ret M w S w' e (.tuple #[.pointer (some ⟨b,0,none⟩),.nilIface]) [cRcvs (bs++[b]) (rs++[⟨fm,to,sh,0,0,[]⟩])] []:=
 (newRcv hC h0).mono fun e w' ⟨b,hR⟩=>⟨b,by
  have h:=(hP.frame hR).push
  rwa[cRcvs,List.zip_append hl,List.map_append]⟩
theorem sndCom {y:SndT} {c:ComT} {a1 a2:Option Addr} {n1 c1 n2 c2:Nat} (hC:Rep w S .nilIface (dC er eb)) (hP:Pre w S M [cSnds bs ss]) (hb:bs[p]?=some b) (hy:ss[p]?=some y) (h1:Rep w S (.slice a1 n1 c1) (dInts c.when)) (h2:Rep w S (.slice a2 n2 c2) (.sl 7 (c.ops.map eOp))) (hl1:c.when.length≤1000000) (hl2:c.ops.length≤1000000) (hl3:∀o∈c.ops,o.dots.length≤1000000)
  (hq0:0≤y.q) (hq1:y.q<1000000) (hL:y.l.length<1000000) (hf:scomErr c y.fm y.t=⟨0,-1⟩) :
  Calls Tryz.prog 88 #[.pointer (some ⟨b,0,none⟩),.agg #[.slice a1 n1 c1,.int .i64 c.place,.slice a2 n2 c2]] w fun e w'=>∃u1 d1 u2 d2,
   Ret M w S w' e (.tuple #[mAgg (SndT.msg y c) (.slice u1 n1 d1) (.slice u2 n2 d2),.nilIface]) [cSnds bs (ss.set p (SndT.com y c))] [(.slice u1 n1 d1,dInts c.when),(.slice u2 n2 d2,.sl 7 (c.ops.map eOp))]:=by
 obtain⟨M1,hP1,hback⟩:=hP.take (zip_map_at hb hy)
 obtain⟨v,_,_,hP2⟩:=hP1.open1
 refine(scommit (c:=c) hC hP2 h1 h2 hl1 hl2 hl3 hq0 hq1 hL).mono ?_
 rintro e w' (⟨h,_⟩|⟨_,a',k',c',u1,d1,u2,d2,hR⟩)
 ·rw[hf]at h
  exact absurd rfl h
 ·refine⟨u1,d1,u2,d2,?_⟩
  have h3:Ret M1 w S w' e _ [cSnd (b,SndT.com y c)] _:=hR.close1g (a',k',c') trivial fun _ h=>by cases h
  rw[cSnds,←zip_put (f:=cSnd) hb]
  exact hback h3
end snds
end Go.Proofs.YtmkapocibaojdaaGreatDoor
end
section
namespace Go.Sx
open Go
section
variable {P:Program} {ops:Array Oper} {Q:Exit→Act→World→Prop}
def isBS:Op→Bool
 | .buildSlice ..=>true
 | _=>false
theorem isBS_run {o:Oper} (h:isBS o.op=true) (ρ:Operand→Value) (w:World):(∃x w',(execOp ρ o).run P w=.ok (.value x) w')∨∃x w',(execOp ρ o).run P w=.halt x w':=by
 obtain⟨d,op,t,pos,af,g⟩:=o
 cases op <;> first|cases h|skip
 simp only[execOp,Sem.run_bind]
 generalize (Instr.buildSlice _ _ _).run P w=r
 cases r with
 | ok x w'=>exact .inl ⟨x,w',rfl⟩
 | halt x w'=>exact .inr ⟨x,w',rfl⟩
theorem wpOp_two {i:Nat} {o:Oper} {K1 K2:Act→World→Prop} {a:Act} {w:World} (ho:ops[i]?=some o) (hb:isBS o.op=true) (h1:wpOp P ops Q i K1 a w) (h2:wpOp P ops Q i K2 a w):wpOp P ops Q i (fun a w=>K1 a w∧K2 a w) a w:=by
 unfold wpOp at *
 simp only[ho]at h1 h2 ⊢
 split
 ·rename_i hw
  simp only[hw,if_true]at h1 h2
  rcases h1 with h1|h1
  ·rcases h2 with h2|h2
   ·left
    unfold Oper.wp at *
    rcases isBS_run (P:=P) hb a.eval w with ⟨x,w',hr⟩|⟨x,w',hr⟩
    ·rw[hr]at h1 h2 ⊢
     exact⟨h1,h2⟩
    ·rw[hr]at h1 h2 ⊢
     cases x <;> exact h1
   ·exact .inr h2
  ·exact .inr h1
 ·rename_i hw
  simp only[hw]at h1 h2
  exact⟨h1,h2⟩
end
def bsAt (ops:Array Oper) (i:Nat):Bool:=match ops[i]? with
 | some o=>isBS o.op
 | none=>false
section rule
variable {P:Program} {f:Func} {R:Act→World→Prop} {n:Nat} {k:List Itm} {E:Env} {h r:List (Nat×Obj)} {F:List (List Nat×World)} {Y:Ghost}
theorem JR2_two {id L0 i:Nat} {q1 q2:List (Nat×Bool)} {Wp:List (Nat×List Nat)} (hb:bsAt (rgOf f id) i=true) (H1:JR P f R n (rgOf f id) L0 true ((i,false)::q1) Wp k E h r F Y) (H2:JR P f R n (rgOf f id) L0 true ((i,false)::q2) Wp k E h r F Y) :
  JR2 P f R n (rgOf f id) L0 i q1 q2 Wp k E h r F Y:=by
 intro B Hd fps a w s hH hR hN hW
 have k1:=H1 B Hd fps a w s hH hR hN hW
 have k2:=H2 B Hd fps a w s hH hR hN hW
 unfold bsAt at hb
 split at hb
 ·rename_i o ho
  exact wpOp_mono (fun a w h=>⟨h.1.1 rfl,h.1.2,h.2.2⟩) (wpOp_two ho hb k1 k2)
 ·cases hb
end rule
end Go.Sx
end
section
namespace Go.Sx
open Go
structure NewS where
 k:Int
 n:Nat
 oa:Option Addr
 oc:Nat
 ia:Option Addr
 ic:Nat
 om:List (List Nat)
 im:List (List Nat)
structure NewR where
 i:Int
 n:Nat
 oa:Option Addr
 oc:Nat
 ia:Option Addr
 ic:Nat
 om:List Nat
 im:List Nat
def newSs (id:Nat) (q:List (Nat×Nat)):List SndT:=q.map fun p=>⟨id,p.1,p.2,0,0,[]⟩
def newRs (id:Nat) (q:List (Nat×Nat)):List RcvT:=q.map fun p=>⟨p.1,id,p.2,0,0,[]⟩
theorem newSs_snoc (id:Nat) (q:List (Nat×Nat)) (k i:Int) (hk:0≤k) (hi:0≤i):newSs id q++[⟨id,k,i,0,0,[]⟩]=newSs id (q++[(k.toNat,i.toNat)]):=by
 simp[newSs,Int.toNat_of_nonneg hk,Int.toNat_of_nonneg hi]
theorem newRs_snoc (id:Nat) (q:List (Nat×Nat)) (k i:Int) (hk:0≤k) (hi:0≤i):newRs id q++[⟨k,id,i,0,0,[]⟩]=newRs id (q++[(k.toNat,i.toNat)]):=by
 simp[newRs,Int.toNat_of_nonneg hk,Int.toNat_of_nonneg hi]
theorem mem_two {α:Type} {l:List α} {a b:α} (h1:a∈l) (h2:b∈l):∀y∈[a,b],y∈l:=fun y hy=>by
 rcases List.mem_cons.1 hy with rfl|hy
 ·exact h1
 ·obtain rfl:=List.mem_singleton.1 hy
  exact h2
def newP (id places shards:Nat):PlT:=⟨id,places,shards,0,List.replicate places 0,[],newSs id (pairsP id shards places),newRs id (pairsP id shards places)⟩
structure PlBx where
 vb:Nat
 oa:Option Addr
 oc:Nat
 ia:Option Addr
 ic:Nat
 om:List (List Nat)
 im:List (List Nat)
structure BxOk (x:PlT) (y:PlBx):Prop where
 om:RowsOk x.id x.shards x.places y.om
 im:RowsOk x.id x.shards x.places y.im
theorem rowP_zero (id k:Nat):rowP id 0 k=[]:=by
 unfold rowP
 split <;> simp
theorem rowP_self (id j:Nat):rowP id j id=[]:=if_pos rfl
end Go.Sx
namespace Go.Proofs.YtmkapocibaojdaaGreatDoor
open Go Go.Sx
noncomputable def cPlace (b:Nat) (x:PlT):Chunk:=cBox (BxOk x) (fun y=>[(.slice y.oa x.places y.oc,dRows y.om),(.slice y.ia x.places y.ic,dRows y.im)]) fun y=>[cObj b (plC y.vb x.id x.places x.shards x.clock (.slice y.oa x.places y.oc) (.slice y.ia x.places y.ic)),cVer y.vb x.places x.base x.L,cSnds y.om.flatten x.ss,cRcvs y.im.flatten x.rs]
set_option maxHeartbeats 4000000 in
theorem placeNew {w:World} {S:Nat→Prop} {er:Nat→Addr} {eb:Nat→Array Value×TypeId} {id places shards:Int} (hC:Rep w S .nilIface (dC er eb)) :
  Calls Tryz.prog 12 #[.int .i64 id,.int .i64 places,.int .i64 shards] w fun e w'=>
   (¬(1≤places∧places≤6∧1≤shards∧shards≤6∧0≤id∧id<places)∧Ret [] w S w' e (.tuple #[.pointer none,.iface 390 (.pointer (some (er 2)))]) [] []) ∨
   ((1≤places∧places≤6∧1≤shards∧shards≤6∧0≤id∧id<places)∧∃b,Ret [] w S w' e (.tuple #[.pointer (some ⟨b,0,none⟩),.nilIface]) [cPlace b (newP id.toNat places.toNat shards.toNat)] []):=by
 refine epG Tryz.func12 bd12 (args:=[.int .i64 id,.int .i64 places,.int .i64 shards]) (S:=S) (G:=[(_,dC er eb)]) (by kernel_rfl) (.cons hC (.nil _ _)) ?_
 refine J_stp (stp_all 0 [1] rfl rfl) ?_
 refine J_glob 1 rfl (fun csg1 tyg1 fzg1 hglob1=>?_)
 try simp only[aQ]
 refine Zs [zR 0,zR 1] [] [zV 6 (.pointer none),zV 7 .nilIface] ?_
 refine J_seq ?_
 refine Zs (Rds 0 3++[.rd 3 [] 2 0,.rd 4 [] 2 0,.rd 5 [] 0 3,zR 6,.rd 7 [] 2 0,.rd 8 [] 2 0,.rd 9 [] 0 3,zR 10,.rd 11 [] 2 0,.rd 12 [] 2 0,.rd 13 [] 0 3,zR 14,.rd 15 [] 2 0,.rd 16 [] 2 0,.rd 17 [] 0 3,zR 18,.rd 19 [] 2 0,.rd 20 [] 2 0,.rd 21 [] 2 0,.rd 22 [] 0 3]) [] [zB 41 (decide (places<1)||decide (places>6)||decide (shards<1)||decide (shards>6)||decide (id<0)||decide (id≥places))] ?_
 refine cC (t:=decide (places<1)||decide (places>6)||decide (shards<1)||decide (shards>6)||decide (id<0)||decide (id≥places)) (fun hb=>?_) (fun hb=>?_)
 ·refine J_seq ?_
  refine Zp [.rd 0 [.r 0 (some (.iface 390 (.pointer (some (er 2)))))] 0 0,zR 1,zR 2] [41] [zV 7 (.iface 390 (.pointer (some (er 2))))] (oC hglob1 oN) ?_
  refine Yr [[],[]] (.tuple #[.pointer none,.iface 390 (.pointer (some (er 2)))]) fun a w s=>?_
  exact .inl ⟨by simp at hb;omega,s.ret (by simp) [] [] rfl rfl⟩
 have hok:1≤places∧places≤6∧1≤shards∧shards≤6∧0≤id∧id<places:=by simp at hb;omega
 obtain⟨hp1,hp6,hs1,hs6,hid0,hid1⟩:=hok
 obtain⟨id,rfl⟩:∃n:Nat,id=n:=⟨id.toNat,by omega⟩
 obtain⟨places,rfl⟩:∃n:Nat,places=n:=⟨places.toNat,by omega⟩
 obtain⟨shards,rfl⟩:∃n:Nat,shards=n:=⟨shards.toNat,by omega⟩
 simp only[Int.toNat_natCast]
 refine J_skip ?_
 refine jS [(0,true),(1,false),(2,true),(3,true),(4,true),(5,true),(6,true)] [] ?_
 refine Ya [zR 0] [41] [zI 44 (↑places:Int)] ?_
 refine Yc 57 #[nI (↑places:Int)] (some 45) fun w S hG=>?_
 refine(verNew (hG.at 0 rfl) hp1 hp6).mono ?_
 rintro e1 w1 ⟨vb,hR⟩
 refine⟨_,_,_,hR,?_⟩
 rw[Int.toNat_natCast]
 try simp only[aQ]
 refine Ya (Rds 2 7) [45,44] [zP 8 vb,zV 9 .nilIface] ?_
 refine JR_end (J_seq ?_)
 refine Zs [zR 0,zR 1] [] [zB 49 false] ?_
 refine cF ?_
 refine J_skip ?_
 refine Zv (Rds 0 5++[.wr 5 [] 0,zR 6]) [] [49,8,9] (fun nu1=>[zP 10 (nu1 0)]) o0 (fun nu1=>[(nu1 0,.cells #[.pointer (sA vb 0),nI (↑id:Int),nI (↑places:Int),nI (↑shards:Int),nI 0,.slice none 0 0,.slice none 0 0] 124 (0,0))]) (fun nu1=>?_)
 refine J_seq (J_seq ?_)
 refine J_stp (stp_accm eRow 125 1) ?_
 refine J_stp (stp_accm eRow 126 1) ?_
 refine J_stp (stp_add (cSnds [] []) star_nil) ?_
 refine J_stp (stp_add (cRcvs [] []) star_nil) ?_
 refine Nm [(cVer vb places (List.replicate places 0) []),cAcc (.slice none 0 0) 125 1 (List.map eRow []),cAcc (.slice none 0 0) 126 1 (List.map eRow []),(cSnds [] []),(cRcvs [] [])] ?_
 refine Za [zR 0,zR 1] [1] [zI 57 (↑places:Int),zI 58 0] ?_
 refine J_block ?_
 refine J_loopx (fun x:NewS=>[zI 0 (↑id:Int),zI 2 (↑shards:Int),zV 6 (.pointer none),zV 7 .nilIface,zP 10 (nu1 0),zI 57 (↑places:Int),zI 58 x.k]) (fun x:NewS=>[(nu1 0,plC vb id places shards 0 (.slice x.oa x.n x.oc) (.slice x.ia x.n x.ic))]) (fun x:NewS=>[cVer vb places (List.replicate places 0) [],cAcc (.slice x.oa x.n x.oc) 125 1 (x.om.map eRow),cAcc (.slice x.ia x.n x.ic) 126 1 (x.im.map eRow),cSnds x.om.flatten (newSs id (pairsP id shards x.k.toNat)),cRcvs x.im.flatten (newRs id (pairsP id shards x.k.toNat))]) (fun x:NewS=>[(.nilIface,(dC er eb)),(.pointer (sA 0 0),(D.ptr [D.v (Value.iface 390 (Value.pointer (some (er 2))))]))]) (fun x:NewS=>(places - x.k).toNat) (fun x:NewS=>(0≤x.k∧x.k≤places∧x.n=x.k.toNat∧RowsOk id shards x.k.toNat x.om∧RowsOk id shards x.k.toNat x.im)) ⟨0,0,none,0,none,0,[],[]⟩ [0,2,6,7,10,57,58] [0] [0,1,2,3,4] [0,1] ?_ (by kernel_rfl) rfl rfl rfl ?_
 ·exact⟨by simp,by simp,by simp,.nil _ _,.nil _ _⟩
 rintro⟨k,n,oa,oc,ia,ic,om,im⟩ ⟨hk0,hk1,hn,ho,hi⟩
 dsimp only at hk0 hk1 hn ho hi ⊢
 have hol:=ho.len
 have hil:=hi.len
 refine Zs [zR 0] [] [zB 59 (decide (k<(↑places:Int)))] ?_
 refine J_seq ?_
 refine cC (t:=decide (k<(↑places:Int))) (fun hlt=>?_) (fun hlt=>?_)
 ·have hlt2:k<places:=by simpa using hlt
  refine J_skip (J_seq (J_block ?_))
  refine Zs [zR 0,zR 1] [59] [zI 11 k] ?_
  refine Zs [zR 0] [] [zS 12 none 0 0] ?_
  refine Zs [zR 0] [] [zS 13 none 0 0] ?_
  refine J_seq (J_seq ?_)
  refine J_stp (stp_accm eP 127 1) ?_
  refine J_stp (stp_accm eP 130 1) ?_
  refine Nm [(cVer vb places (List.replicate places 0) []),cAcc (.slice oa n oc) 125 1 (List.map eRow om),cAcc (.slice ia n ic) 126 1 (List.map eRow im),(cSnds om.flatten (newSs id (pairsP id shards k.toNat))),(cRcvs im.flatten (newRs id (pairsP id shards k.toNat))),cAcc (.slice none 0 0) 127 1 (List.map eP []),cAcc (.slice none 0 0) 130 1 (List.map eP [])] ?_
  rw[show cSnds om.flatten (newSs id (pairsP id shards k.toNat))=cSnds (om.flatten++[]) (newSs id (pairsP id shards k.toNat++rowP id (0:Int).toNat k.toNat))by rw[Int.toNat_zero,rowP_zero,List.append_nil,List.append_nil],show cRcvs im.flatten (newRs id (pairsP id shards k.toNat))=cRcvs (im.flatten++[]) (newRs id (pairsP id shards k.toNat++rowP id (0:Int).toNat k.toNat))by rw[Int.toNat_zero,rowP_zero,List.append_nil,List.append_nil]]
  refine Za [zR 0,zR 1] [] [zI 61 (↑shards:Int),zI 62 0] ?_
  refine J_block ?_
  refine J_loopx (fun y:NewR=>[zI 0 (↑id:Int),zI 2 (↑shards:Int),zV 6 (.pointer none),zV 7 .nilIface,zP 10 (nu1 0),zI 11 k,zS 12 y.oa y.n y.oc,zS 13 y.ia y.n y.ic,zI 57 (↑places:Int),zI 58 k,zI 61 (↑shards:Int),zI 62 y.i]) (fun y:NewR=>[(nu1 0,.cells #[.pointer (sA vb 0),nI (↑id:Int),nI (↑places:Int),nI (↑shards:Int),nI 0,.slice oa n oc,.slice ia n ic] 124 (0,0))]) (fun y:NewR=>[cVer vb places (List.replicate places 0) [],cAcc (.slice oa n oc) 125 1 (om.map eRow),cAcc (.slice ia n ic) 126 1 (im.map eRow),cSnds (om.flatten++y.om) (newSs id (pairsP id shards k.toNat++rowP id y.i.toNat k.toNat)),cRcvs (im.flatten++y.im) (newRs id (pairsP id shards k.toNat++rowP id y.i.toNat k.toNat)),cAcc (.slice y.oa y.n y.oc) 127 1 (y.om.map eP),cAcc (.slice y.ia y.n y.ic) 130 1 (y.im.map eP)]) (fun y:NewR=>[(.nilIface,(dC er eb)),(.pointer (sA 0 0),(D.ptr [D.v (Value.iface 390 (Value.pointer (some (er 2))))]))]) (fun y:NewR=>(shards - y.i).toNat) (fun y:NewR=>(0≤y.i∧y.i≤shards∧y.om.length=(rowP id y.i.toNat k.toNat).length∧y.im.length=(rowP id y.i.toNat k.toNat).length∧y.n≤shards)) ⟨0,0,none,0,none,0,[],[]⟩ [0,2,6,7,10,11,12,13,57,58,61,62] [0] [0,1,2,3,4,5,6] [0,1] ?_ (by kernel_rfl) rfl rfl rfl ?_
  ·exact⟨by simp,by simp,by simp[rowP_zero],by simp[rowP_zero],by simp⟩
  rintro⟨i,m,pa,pc,qa,qc,pm,qm⟩ ⟨hi0,hi1,hpl,hql,hm6⟩
  dsimp only at hi0 hi1 hpl hql hm6 ⊢
  refine J_stpx (stp_acclen 5 rfl) fun _ hm=>?_
  rw[List.length_map]at hm
  refine Zs [zR 0] [] [zB 63 (decide (i<(↑shards:Int)))] ?_
  refine J_seq ?_
  refine cC (t:=decide (i<(↑shards:Int))) (fun hls=>?_) (fun hls=>?_)
  ·have hls2:i<shards:=by simpa using hls
   refine J_skip (J_seq (J_block ?_))
   refine Zs [zR 0,zR 1] [63] [zI 14 i] ?_
   refine Zs (Rds 0 3) [] [zB 67 (k != (↑id:Int))] ?_
   refine cC (t:=k != (↑id:Int)) (fun hne=>?_) (fun hne=>?_)
   ·have hne2:k.toNat≠id:=by
     intro h0
     apply (by simpa using hne:¬k=id)
     omega
    have hrl:(rowP id i.toNat k.toNat).length=i.toNat:=by rw[rowP_length,if_neg hne2]
    rw[hrl]at hpl hql
    have hrs:rowP id (i+1).toNat k.toNat=rowP id i.toNat k.toNat++[(k.toNat,i.toNat)]:=by rw[show(i+1).toNat=i.toNat+1 by omega,rowP_succ _ _ _ hne2]
    have hw1:wayErr id k i=0:=by rw[wayErr,if_neg (by omega),if_neg (by omega)]
    have hw2:wayErr k id i=0:=by rw[wayErr,if_neg (by omega),if_neg (by omega)]
    have hfo:(om.flatten++pm).length=(newSs id (pairsP id shards k.toNat++rowP id i.toNat k.toNat)).length:=by
     rw[newSs,List.length_map,List.length_append,List.length_append,ho.flen,hpl,hrl]
     rfl
    have hfi:(im.flatten++qm).length=(newRs id (pairsP id shards k.toNat++rowP id i.toNat k.toNat)).length:=by
     rw[newRs,List.length_map,List.length_append,List.length_append,hi.flen,hql,hrl]
     rfl
    refine jS [(0,true),(1,true),(2,true),(3,false),(4,true),(5,true),(6,true),(7,true),(8,true)] [] ?_
    refine Ya (Rds 0 3) [67] [zI 69 (↑id:Int),zI 70 k,zI 71 i] ?_
    refine JR_call [] [3] 58 #[.int .i64 (↑id:Int),.int .i64 k,.int .i64 i] (some 72) (by kernel_rfl) (by kernel_rfl) (by decide) (fun w S M hP hG _=>?_)
    refine(sndNew (hG.at 0 rfl) hP hfo hw1).mono ?_
    rintro e2 w2 ⟨b1,hR⟩
    refine⟨_,_,_,hR,?_⟩
    try simp only[aQ]
    refine Ya (Rds 4 9) [72,69,70,71] [zP 15 b1] ?_
    try simp only[aQ]
    refine JR_end ?_
    try simp only[aQ]
    refine J_seq ?_
    try simp only[aQ]
    refine jT [(0,true),(1,true),(2,true),(3,false),(4,true),(5,true),(6,true),(7,true),(8,true)] [] ?_
    refine Ya (Rds 0 3) [] [zI 76 k,zI 77 (↑id:Int),zI 78 i] ?_
    refine JR_call [] [3] 59 #[.int .i64 k,.int .i64 (↑id:Int),.int .i64 i] (some 79) (by kernel_rfl) (by kernel_rfl) (by decide) (fun w S M hP hG _=>?_)
    refine(rcvNew (hG.at 0 rfl) hP hfi hw2).mono ?_
    rintro e3 w3 ⟨b2,hR⟩
    refine⟨_,_,_,hR,?_⟩
    rw[newSs_snoc _ _ _ _ hk0 hi0,newRs_snoc _ _ _ _ hk0 hi0,List.append_assoc om.flatten,List.append_assoc im.flatten,List.append_assoc (pairsP id shards k.toNat),←hrs]
    try simp only[aQ]
    refine Ya (Rds 4 9) [79,76,77,78] [zP 17 b2] ?_
    try simp only[aQ]
    refine JR_end ?_
    try simp only[aQ]
    refine jT [(0,true),(1,true),(2,false),(3,false),(4,true),(5,true),(6,false),(7,false),(8,true),(9,true)] [] ?_
    refine Ym [zR 0,zR 1,.wr 2 [] 0] [] (fun nu2=>[zS 82 pa m pc,zS 84 (sA (nu2 0) 0) 1 1]) o0 (fun nu2=>[(nu2 0,.cells #[.pointer (sA b1 0)] 127 (0,0))]) [] (fun nu2=>?_)
    refine JN [(cVer vb places (List.replicate places 0) []),cAcc (.slice oa n oc) 125 1 (List.map eRow om),cAcc (.slice ia n ic) 126 1 (List.map eRow im),cAcc (.slice pa m pc) 127 1 (List.map eP pm),cAcc (.slice qa m qc) 130 1 (List.map eP qm),(cSnds (om.flatten++(pm++[b1])) (newSs id (pairsP id shards k.toNat++rowP id (i+1).toNat k.toNat))),(cRcvs (im.flatten++(qm++[b2])) (newRs id (pairsP id shards k.toNat++rowP id (i+1).toNat k.toNat)))] ?_
    refine JR_appm 3 125 127 1 8 (.pointer none) (a0:=pa) (len:=m) (cap0:=pc) (ax:=(some (⟨nu2 0,0,none⟩))) (m:=1) (c:=1) (dst:=(some 85)) [b1] (by kernel_rfl) (by kernel_rfl) (by kernel_rfl) (by kernel_rfl) rfl (by decide) rfl (fun _ _ _ s=>src_one s 1 rfl rfl ⟨.inl ⟨rfl,rfl⟩,trivial⟩) (by simp only[maxLen];omega) (by omega) (fun av1 cv1=>?_)
    refine JN [(cVer vb places (List.replicate places 0) []),cAcc (.slice oa n oc) 125 1 (List.map eRow om),cAcc (.slice ia n ic) 126 1 (List.map eRow im),cAcc (.slice qa m qc) 130 1 (List.map eP qm),(cSnds (om.flatten++(pm++[b1])) (newSs id (pairsP id shards k.toNat++rowP id (i+1).toNat k.toNat))),(cRcvs (im.flatten++(qm++[b2])) (newRs id (pairsP id shards k.toNat++rowP id (i+1).toNat k.toNat))),cAcc (.slice av1 (m+1) cv1) 127 1 (List.map eP (pm++[b1]))] ?_
    try simp only[aQ]
    refine Ym [zR 4,zR 5,.wr 6 [] 0] [82,84] (fun nu3=>[zS 86 qa m qc,zS 88 (sA (nu3 0) 0) 1 1]) o0 (fun nu3=>[(nu3 0,.cells #[.pointer (sA b2 0)] 130 (0,0))]) [] (fun nu3=>?_)
    refine JR_appm 3 126 130 1 8 (.pointer none) (a0:=qa) (len:=m) (cap0:=qc) (ax:=(some (⟨nu3 0,0,none⟩))) (m:=1) (c:=1) (dst:=(some 89)) [b2] (by kernel_rfl) (by kernel_rfl) (by kernel_rfl) (by kernel_rfl) rfl (by decide) rfl (fun _ _ _ s=>src_one s 2 rfl rfl ⟨.inl ⟨rfl,rfl⟩,trivial⟩) (by simp only[maxLen];omega) (by omega) (fun av2 cv2=>?_)
    refine JN [(cVer vb places (List.replicate places 0) []),cAcc (.slice oa n oc) 125 1 (List.map eRow om),cAcc (.slice ia n ic) 126 1 (List.map eRow im),(cSnds (om.flatten++(pm++[b1])) (newSs id (pairsP id shards k.toNat++rowP id (i+1).toNat k.toNat))),(cRcvs (im.flatten++(qm++[b2])) (newRs id (pairsP id shards k.toNat++rowP id (i+1).toNat k.toNat))),cAcc (.slice av1 (m+1) cv1) 127 1 (List.map eP (pm++[b1])),cAcc (.slice av2 (m+1) cv2) 130 1 (List.map eP (qm++[b2]))] ?_
    try simp only[aQ]
    refine Ya [zR 8,zR 9] [89,86,88,85] [zS 12 av1 (m+1) cv1,zS 13 av2 (m+1) cv2] ?_
    refine JR_end (J_eb ?_)
    refine Zp [.rd 0 [] 0 1,zR 1] [] [zI 62 (i+1)] (oC (show IntKind.i64.wrap (i+1)=i+1 from wrap_i64 (by omega) (by omega)) oN) ?_
    refine J_backx ⟨i+1,m+1,av1,cv1,av2,cv2,pm++[b1],qm++[b2]⟩ [0,2,6,7,10,11,12,13,57,58,61,62] [0] [0,1,2,3,4,5,6] [0,1] ?_ ?_ (by kernel_rfl) rfl rfl rfl
    ·refine⟨by simp only;omega,by simp only;omega,?_,?_,by simp only;omega⟩
     ·rw[hrs,List.length_append,List.length_append,hpl,hrl]
      rfl
     ·rw[hrs,List.length_append,List.length_append,hql,hrl]
      rfl
    ·simp only
     omega
   ·have hid:k.toNat=id:=by
     have:k=id:=by simpa using hne
     omega
    rw[hid,rowP_self]at hpl hql
    refine J_skip (J_eb ?_)
    refine Zp [.rd 0 [] 0 1,zR 1] [67] [zI 62 (i+1)] (oC (show IntKind.i64.wrap (i+1)=i+1 from wrap_i64 (by omega) (by omega)) oN) ?_
    rw[hid,show rowP id i.toNat id=rowP id (i+1).toNat id by rw[rowP_self,rowP_self],←hid]
    refine J_backx ⟨i+1,m,pa,pc,qa,qc,pm,qm⟩ [0,2,6,7,10,11,12,13,57,58,61,62] [0] [0,1,2,3,4,5,6] [0,1] ?_ ?_ (by kernel_rfl) rfl rfl rfl
    ·refine⟨by simp only;omega,by simp only;omega,?_,?_,hm6⟩
     ·rw[hid,rowP_self]
      exact hpl
     ·rw[hid,rowP_self]
      exact hql
    ·simp only
     omega
  ·have hie:i=shards:=by simp at hls;omega
   have hrw:rowP id i.toNat k.toNat=rowP id shards k.toNat:=by rw[hie,Int.toNat_natCast]
   rw[hrw]at hpl hql ⊢
   rw[rowP_length]at hpl hql
   have hk1n:k.toNat+1=(k+1).toNat:=by omega
   have hso:RowsOk id shards (k+1).toNat (om++[pm]):=hk1n ▸ ho.snoc hpl
   have hsi:RowsOk id shards (k+1).toNat (im++[qm]):=hk1n ▸ hi.snoc hql
   rw[←pairsP_succ,hk1n,show om.flatten++pm=(om++[pm]).flatten by simp,show im.flatten++qm=(im++[qm]).flatten by simp]
   refine J_exit rfl ?_
   refine J_stp (stp_freeze 5 rfl) ?_
   refine J_stp (stp_freeze 5 rfl) ?_
   refine Nm [(cVer vb places (List.replicate places 0) []),cAcc (.slice oa n oc) 125 1 (List.map eRow om),cAcc (.slice ia n ic) 126 1 (List.map eRow im),(cSnds (om++[pm]).flatten (newSs id (pairsP id shards (k+1).toNat))),(cRcvs (im++[qm]).flatten (newRs id (pairsP id shards (k+1).toNat)))] ?_
   refine J_fork3 mixed [.rd 0 [] 0 0,.rd 1 [] 0 0,.rd 2 [] 0 0,.rd 3 [] 0 0,.rd 4 [] 0 0,.rd 5 [.o 0 none] 0 0,.rd 6 [] 0 0,.rd 9 [] 0 0,.rd 10 [] 0 0,.rd 11 [] 0 0,.rd 12 [.o 0 none] 0 0,.rd 13 [] 0 0] 7 14 [(8,false),(14,false),(15,false),(16,true),(17,true),(18,false),(19,true),(20,true),(21,false)] [(14,false),(8,false),(15,false),(16,true),(17,true),(18,false),(19,true),(20,true),(21,false)] [(7,false),(8,false),(15,false),(16,true),(17,true),(18,false),(19,true),(20,true),(21,false)] [(8,[]),(15,[]),(18,[0]),(21,[0])] [0,2,6,7,10,11,12,13,57,58,61,62,91,92,96,97,103,104] (E1:=fun _=>[(0,.val (.int .i64 (↑id:Int))),(2,.val (.int .i64 (↑shards:Int))),(6,.val (.pointer none)),(7,.val (.nilIface)),(10,.val (.pointer (some (⟨nu1 0,0,none⟩)))),(11,.val (.int .i64 k)),(12,.val (.slice pa m pc)),(13,.val (.slice qa m qc)),(57,.val (.int .i64 (↑places:Int))),(58,.val (.int .i64 k)),(61,.val (.int .i64 (↑shards:Int))),(62,.val (.int .i64 i)),(91,.val (.pointer (some (⟨nu1 0,0,none⟩)))),(92,.val (.pointer (some (⟨nu1 0,0,none⟩)))),(96,.val (.slice oa n oc)),(97,.val (.slice pa m pc)),(103,.val (.slice ia n ic)),(104,.val (.slice qa m qc))]) (p1:=fun _=>[]) (by kernel_rfl) (by kernel_rfl) (fun _=>by kernel_rfl) (fun _=>trivial) (fun _=>?_) (fun _=>?_)
   ·refine JR2_two (by kernel_rfl) ?_ ?_
    ·try simp only[aQ]
     refine Ym [.wr 7 [] 0] [97] (fun nu2=>[zS 98 (sA (nu2 0) 0) 1 1]) o0 (fun nu2=>[(nu2 0,.cells #[.slice pa m pc] 125 (0,0))]) [(8,[]),(15,[]),(18,[0]),(21,[0])] (fun nu2=>?_)
     refine JN [(cVer vb places (List.replicate places 0) []),cAcc (.slice oa n oc) 125 1 (List.map eRow om),cAcc (.slice ia n ic) 126 1 (List.map eRow im),(cSnds (om++[pm]).flatten (newSs id (pairsP id shards (k+1).toNat))),(cRcvs (im++[qm]).flatten (newRs id (pairsP id shards (k+1).toNat)))] ?_
     refine JR_appm 1 121 125 1 24 (.slice none 0 0) (a0:=oa) (len:=n) (cap0:=oc) (ax:=(some (⟨nu2 0,0,none⟩))) (m:=1) (c:=1) (dst:=(some 99)) [pm] (by kernel_rfl) (by kernel_rfl) (by kernel_rfl) (by kernel_rfl) rfl (by decide) rfl (fun _ _ _ s=>src_one s 1 rfl rfl ⟨.inr (.inl (List.mem_of_getElem? (i:=2) rfl)),trivial⟩) (by simp only[maxLen];omega) (by omega) (fun av1 cv1=>?_)
     refine JN [(cVer vb places (List.replicate places 0) []),cAcc (.slice ia n ic) 126 1 (List.map eRow im),(cSnds (om++[pm]).flatten (newSs id (pairsP id shards (k+1).toNat))),(cRcvs (im++[qm]).flatten (newRs id (pairsP id shards (k+1).toNat))),cAcc (.slice av1 (n+1) cv1) 125 1 (List.map eRow (om++[pm]))] ?_
     try simp only[aQ]
     refine Ym [.wr 14 [] 0] [98,96,104] (fun nu3=>[zS 105 (sA (nu3 0) 0) 1 1]) o0 (fun nu3=>[(nu3 0,.cells #[.slice qa m qc] 126 (0,0))]) [(15,[]),(18,[0]),(21,[0])] (fun nu3=>?_)
     refine JR_appm 1 122 126 1 24 (.slice none 0 0) (a0:=ia) (len:=n) (cap0:=ic) (ax:=(some (⟨nu3 0,0,none⟩))) (m:=1) (c:=1) (dst:=(some 106)) [qm] (by kernel_rfl) (by kernel_rfl) (by kernel_rfl) (by kernel_rfl) rfl (by decide) rfl (fun _ _ _ s=>src_one s 2 rfl rfl ⟨.inr (.inl (List.mem_of_getElem? (i:=3) rfl)),trivial⟩) (by simp only[maxLen];omega) (by omega) (fun av2 cv2=>?_)
     refine JN [(cVer vb places (List.replicate places 0) []),(cSnds (om++[pm]).flatten (newSs id (pairsP id shards (k+1).toNat))),(cRcvs (im++[qm]).flatten (newRs id (pairsP id shards (k+1).toNat))),cAcc (.slice av1 (n+1) cv1) 125 1 (List.map eRow (om++[pm])),cAcc (.slice av2 (n+1) cv2) 126 1 (List.map eRow (im++[qm]))] ?_
     try simp only[aQ]
     refine Ym [zR 16,zR 17,.wr 18 [.o 0 none] 0,zR 19,zR 20,.wr 21 [.o 0 none] 0] [106,105,99,91,92,103] (fun _=>[]) (fun _=>[(0,.cells #[.pointer (sA vb 0),nI (↑id:Int),nI (↑places:Int),nI (↑shards:Int),nI 0,.slice av1 (n+1) cv1,.slice av2 (n+1) cv2] 124 (0,0))]) o0 [] (fun _=>?_)
     refine JR_end (J_eb ?_)
     refine Zp [.rd 0 [] 0 1,zR 1] [] [zI 58 (k+1)] (oC (show IntKind.i64.wrap (k+1)=k+1 from wrap_i64 (by omega) (by omega)) oN) ?_
     refine J_backx ⟨k+1,n+1,_,_,_,_,om++[pm],im++[qm]⟩ [0,2,6,7,10,57,58] [0] [0,3,4,1,2] [0,1] ?_ ?_ (by kernel_rfl) rfl rfl rfl
     ·exact⟨by simp only;omega,by simp only;omega,by simp only;omega,hso,hsi⟩
     ·simp only
      omega
    ·try simp only[aQ]
     refine Ym [.wr 7 [] 0,.wr 14 [] 0] [97,104] (fun nu2=>[zS 98 (sA (nu2 0) 0) 1 1,zS 105 (sA (nu2 1) 0) 1 1]) o0 (fun nu2=>[(nu2 0,.cells #[.slice pa m pc] 125 (0,0)),(nu2 1,.cells #[.slice qa m qc] 126 (0,0))]) [(8,[]),(15,[]),(18,[0]),(21,[0])] (fun nu2=>?_)
     refine JN [(cVer vb places (List.replicate places 0) []),cAcc (.slice oa n oc) 125 1 (List.map eRow om),cAcc (.slice ia n ic) 126 1 (List.map eRow im),(cSnds (om++[pm]).flatten (newSs id (pairsP id shards (k+1).toNat))),(cRcvs (im++[qm]).flatten (newRs id (pairsP id shards (k+1).toNat)))] ?_
     refine JR_appm 1 121 125 1 24 (.slice none 0 0) (a0:=oa) (len:=n) (cap0:=oc) (ax:=(some (⟨nu2 0,0,none⟩))) (m:=1) (c:=1) (dst:=(some 99)) [pm] (by kernel_rfl) (by kernel_rfl) (by kernel_rfl) (by kernel_rfl) rfl (by decide) rfl (fun _ _ _ s=>src_one s 1 rfl rfl ⟨.inr (.inl (List.mem_of_getElem? (i:=2) rfl)),trivial⟩) (by simp only[maxLen];omega) (by omega) (fun av1 cv1=>?_)
     refine JN [(cVer vb places (List.replicate places 0) []),cAcc (.slice ia n ic) 126 1 (List.map eRow im),(cSnds (om++[pm]).flatten (newSs id (pairsP id shards (k+1).toNat))),(cRcvs (im++[qm]).flatten (newRs id (pairsP id shards (k+1).toNat))),cAcc (.slice av1 (n+1) cv1) 125 1 (List.map eRow (om++[pm]))] ?_
     try simp only[aQ]
     refine JR_appm 1 122 126 1 24 (.slice none 0 0) (a0:=ia) (len:=n) (cap0:=ic) (ax:=(some (⟨nu2 1,0,none⟩))) (m:=1) (c:=1) (dst:=(some 106)) [qm] (by kernel_rfl) (by kernel_rfl) (by kernel_rfl) (by kernel_rfl) rfl (by decide) rfl (fun _ _ _ s=>src_one s 2 rfl rfl ⟨.inr (.inl (List.mem_of_getElem? (i:=3) rfl)),trivial⟩) (by simp only[maxLen];omega) (by omega) (fun av2 cv2=>?_)
     refine JN [(cVer vb places (List.replicate places 0) []),(cSnds (om++[pm]).flatten (newSs id (pairsP id shards (k+1).toNat))),(cRcvs (im++[qm]).flatten (newRs id (pairsP id shards (k+1).toNat))),cAcc (.slice av1 (n+1) cv1) 125 1 (List.map eRow (om++[pm])),cAcc (.slice av2 (n+1) cv2) 126 1 (List.map eRow (im++[qm]))] ?_
     try simp only[aQ]
     refine Ym [zR 16,zR 17,.wr 18 [.o 0 none] 0,zR 19,zR 20,.wr 21 [.o 0 none] 0] [106,99,98,105,91,92,96,103] (fun _=>[]) (fun _=>[(0,.cells #[.pointer (sA vb 0),nI (↑id:Int),nI (↑places:Int),nI (↑shards:Int),nI 0,.slice av1 (n+1) cv1,.slice av2 (n+1) cv2] 124 (0,0))]) o0 [] (fun _=>?_)
     refine JR_end (J_eb ?_)
     refine Zp [.rd 0 [] 0 1,zR 1] [] [zI 58 (k+1)] (oC (show IntKind.i64.wrap (k+1)=k+1 from wrap_i64 (by omega) (by omega)) oN) ?_
     refine J_backx ⟨k+1,n+1,_,_,_,_,om++[pm],im++[qm]⟩ [0,2,6,7,10,57,58] [0] [0,3,4,1,2] [0,1] ?_ ?_ (by kernel_rfl) rfl rfl rfl
     ·exact⟨by simp only;omega,by simp only;omega,by simp only;omega,hso,hsi⟩
     ·simp only
      omega
   ·try simp only[aQ]
    refine Ym [.wr 14 [] 0,.wr 7 [] 0] [97,104] (fun nu2=>[zS 98 (sA (nu2 1) 0) 1 1,zS 105 (sA (nu2 0) 0) 1 1]) o0 (fun nu2=>[(nu2 0,.cells #[.slice qa m qc] 126 (0,0)),(nu2 1,.cells #[.slice pa m pc] 125 (0,0))]) [(8,[]),(15,[]),(18,[0]),(21,[0])] (fun nu2=>?_)
    refine JN [(cVer vb places (List.replicate places 0) []),cAcc (.slice oa n oc) 125 1 (List.map eRow om),cAcc (.slice ia n ic) 126 1 (List.map eRow im),(cSnds (om++[pm]).flatten (newSs id (pairsP id shards (k+1).toNat))),(cRcvs (im++[qm]).flatten (newRs id (pairsP id shards (k+1).toNat)))] ?_
    refine JR_appm 1 121 125 1 24 (.slice none 0 0) (a0:=oa) (len:=n) (cap0:=oc) (ax:=(some (⟨nu2 1,0,none⟩))) (m:=1) (c:=1) (dst:=(some 99)) [pm] (by kernel_rfl) (by kernel_rfl) (by kernel_rfl) (by kernel_rfl) rfl (by decide) rfl (fun _ _ _ s=>src_one s 2 rfl rfl ⟨.inr (.inl (List.mem_of_getElem? (i:=2) rfl)),trivial⟩) (by simp only[maxLen];omega) (by omega) (fun av1 cv1=>?_)
    refine JN [(cVer vb places (List.replicate places 0) []),cAcc (.slice ia n ic) 126 1 (List.map eRow im),(cSnds (om++[pm]).flatten (newSs id (pairsP id shards (k+1).toNat))),(cRcvs (im++[qm]).flatten (newRs id (pairsP id shards (k+1).toNat))),cAcc (.slice av1 (n+1) cv1) 125 1 (List.map eRow (om++[pm]))] ?_
    try simp only[aQ]
    refine JR_appm 1 122 126 1 24 (.slice none 0 0) (a0:=ia) (len:=n) (cap0:=ic) (ax:=(some (⟨nu2 0,0,none⟩))) (m:=1) (c:=1) (dst:=(some 106)) [qm] (by kernel_rfl) (by kernel_rfl) (by kernel_rfl) (by kernel_rfl) rfl (by decide) rfl (fun _ _ _ s=>src_one s 1 rfl rfl ⟨.inr (.inl (List.mem_of_getElem? (i:=3) rfl)),trivial⟩) (by simp only[maxLen];omega) (by omega) (fun av2 cv2=>?_)
    refine JN [(cVer vb places (List.replicate places 0) []),(cSnds (om++[pm]).flatten (newSs id (pairsP id shards (k+1).toNat))),(cRcvs (im++[qm]).flatten (newRs id (pairsP id shards (k+1).toNat))),cAcc (.slice av1 (n+1) cv1) 125 1 (List.map eRow (om++[pm])),cAcc (.slice av2 (n+1) cv2) 126 1 (List.map eRow (im++[qm]))] ?_
    try simp only[aQ]
    refine Ym [zR 16,zR 17,.wr 18 [.o 0 none] 0,zR 19,zR 20,.wr 21 [.o 0 none] 0] [106,99,98,105,91,92,96,103] (fun _=>[]) (fun _=>[(0,.cells #[.pointer (sA vb 0),nI (↑id:Int),nI (↑places:Int),nI (↑shards:Int),nI 0,.slice av1 (n+1) cv1,.slice av2 (n+1) cv2] 124 (0,0))]) o0 [] (fun _=>?_)
    refine JR_end (J_eb ?_)
    refine Zp [.rd 0 [] 0 1,zR 1] [] [zI 58 (k+1)] (oC (show IntKind.i64.wrap (k+1)=k+1 from wrap_i64 (by omega) (by omega)) oN) ?_
    refine J_backx ⟨k+1,n+1,_,_,_,_,om++[pm],im++[qm]⟩ [0,2,6,7,10,57,58] [0] [0,3,4,1,2] [0,1] ?_ ?_ (by kernel_rfl) rfl rfl rfl
    ·exact⟨by simp only;omega,by simp only;omega,by simp only;omega,hso,hsi⟩
    ·simp only
     omega
 ·have hke:k.toNat=places:=by simp at hlt;omega
  rw[hke]at ho hi hn ⊢
  subst hn
  refine J_exit rfl ?_
  refine Zs (Rds 0 3) [59,0,2,10,57,58] [zP 6 (nu1 0)] ?_
  refine Yr [[],[]] (.tuple #[.pointer (sA (nu1 0) 0),.nilIface]) fun a w s=>?_
  have s2:=((s.stp (stp_freeze 1 rfl)).stp (stp_freeze 1 rfl)).hide 0 rfl
  have s3:=s2.stp (stp_closebox [3,0,1,2] (p:=BxOk (newP id n shards)) (G:=fun y=>[(.slice y.oa n y.oc,dRows y.om),(.slice y.ia n y.ic,dRows y.im)]) (C:=fun y=>[cObj (nu1 0) (plC y.vb id n shards 0 (.slice y.oa n y.oc) (.slice y.ia n y.ic)),cVer y.vb n (List.replicate n 0) [],cSnds y.om.flatten (newSs id (pairsP id shards n)),cRcvs y.im.flatten (newRs id (pairsP id shards n))]) ⟨vb,oa,oc,ia,ic,om,im⟩ rfl (mem_two (List.mem_of_getElem? (i:=2) rfl) (List.mem_of_getElem? (i:=3) rfl)) ⟨ho,hi⟩)
  exact .inr ⟨by omega,_,s3.ret (by simp) [0] [] rfl rfl⟩
end Go.Proofs.YtmkapocibaojdaaGreatDoor
end
section
namespace Go.Proofs.YtmkapocibaojdaaGreatDoor
open Go Go.Sx
def xorU (a b:Int):Int:=IntKind.u32.wrap (BitVec.ofInt IntKind.u32.bits a ^^^ BitVec.ofInt IntKind.u32.bits b).toNat
def andU (a b:Int):Int:=IntKind.u32.wrap (BitVec.ofInt IntKind.u32.bits a &&& BitVec.ofInt IntKind.u32.bits b).toNat
def stepU (d:Int):Int:=xorU (d.fdiv (2 ^ min (Int.toNat 1) IntKind.u32.bits)) (IntKind.u32.wrap (3988292384*andU d 1))
def iterU:Nat→Int→Int
 | 0,d=>d
 | n+1,d=>stepU (iterU n d)
def notU (c:Int):Int:=xorU (if IntKind.u32.signed=true then -1 else IntKind.u32.max) c
def crcU (l:List UInt8):Int:=l.foldl (fun c b=>iterU 8 (xorU c (IntKind.u32.wrap (b.toNat:Int)))) 4294967295
theorem crcU_snoc {l:List UInt8} {i:Nat} {b:UInt8} (h:l[i]?=some b):crcU (l.take (i+1))=iterU 8 (xorU (crcU (l.take i)) (IntKind.u32.wrap (b.toNat:Int))):=by
 rw[List.take_add_one,h]
 simp[crcU,List.foldl_append]
def xorI (a b:Int):Int:=IntKind.i64.wrap (BitVec.ofInt IntKind.i64.bits a ^^^ BitVec.ofInt IntKind.i64.bits b).toNat
def bitR (d:Int) (b:UInt8) (k:Int):Int:=(xorI d ((IntKind.i64.wrap (b.toNat:Int)).fdiv (2 ^ min (Int.toNat k) IntKind.i64.bits))).tmod 2
def stepR (d:Int) (b:UInt8) (k:Int):Int:=if (bitR d b k==1)=true then xorI (IntKind.i64.wrap (d.tdiv 2)) 3988292384 else IntKind.i64.wrap (d.tdiv 2)
def iterR (c:Int) (b:UInt8):Nat→Int
 | 0=>c
 | n+1=>stepR (iterR c b n) b n
set_option maxHeartbeats 4000000 in
theorem crcPW {w:World} {S:Nat→Prop} {s0:ByteArray} (h9:s0.size≤100000):Calls Tryz.prog 189 #[.string s0] w fun e w'=>Ret [] w S w' e (.int .u32 (notU (crcU s0.data.toList))) [] []:=by
 refine epG Tryz.func189 bd189 (args:=[.string s0]) (G:=[]) (by kernel_rfl) (AllG.nil w S) ?_
 have hz:s0.data.toList.length=s0.size:=by simp
 refine Zs [zR 0] [] [zV 2 (.int .u32 0)] ?_
 refine Zs [zR 0] [] [zV 3 (.int .u32 4294967295)] ?_
 refine J_seq ?_
 refine Zs (Rds 0 3) [] [zI 6 (↑s0.size:Int),zI 7 0] ?_
 refine J_block ?_
 refine J_loopx (fun x:Int×Int=>[zV 0 (.string s0),zV 2 (.int .u32 0),zV 3 (.int .u32 x.2),zI 6 (↑s0.size:Int),zI 7 x.1]) (fun x:Int×Int=>[]) (fun x:Int×Int=>[]) (fun x:Int×Int=>[]) (fun x:Int×Int=>(s0.size - x.1).toNat) (fun x:Int×Int=>(0≤x.1∧x.1≤s0.size∧x.2=crcU (s0.data.toList.take x.1.toNat))) (0,4294967295) [0,2,3,6,7] [] [] [] ?_ (by kernel_rfl) rfl rfl rfl ?_
 ·exact⟨by simp,by omega,by simp[crcU]⟩
 rintro⟨i,c⟩ ⟨hi0,hi,hc⟩
 refine Zs [zR 0] [] [zB 8 (decide (i<(↑s0.size:Int)))] ?_
 refine J_seq ?_
 refine cC (t:=decide (i<(↑s0.size:Int))) (fun hlt=>?_) (fun hlt=>?_)
 ·have hlt2:i<s0.size:=by simpa using hlt
  obtain⟨b,hb⟩:∃x,s0.data.toList[i.toNat]?=some x:=⟨_,List.getElem?_eq_getElem (by omega)⟩
  refine J_skip (J_seq (J_block ?_))
  refine Zs [zR 0,zR 1] [8] [zI 4 i] ?_
  refine jS [(0,true),(1,true),(2,true),(3,false),(4,true),(5,true),(6,true)] [] ?_
  refine Ya (Rds 0 3) [] [zV 10 (.int .u32 c),zV 11 (.string s0),zI 12 i] ?_
  refine JR_idx 9 s0 i _ (some 13) (by kernel_rfl) (by kernel_rfl) hi0 hb ?_
  refine Ya (Rds 4 7) [13,10,11,12] [zV 3 (.int .u32 (IntKind.u32.wrap (↑(BitVec.ofInt IntKind.u32.bits c ^^^ BitVec.ofInt IntKind.u32.bits (IntKind.u32.wrap (↑b.toNat:Int))).toNat:Int)))] ?_
  refine JR_end ?_
  refine Zs [zR 0] [] [zI 16 0] ?_
  refine J_block ?_
  refine J_loopx (fun y:Int×Int=>[zV 0 (.string s0),zV 2 (.int .u32 0),zV 3 (.int .u32 y.2),zI 4 i,zI 6 (↑s0.size:Int),zI 7 i,zI 16 y.1]) (fun y:Int×Int=>[]) (fun y:Int×Int=>[]) (fun y:Int×Int=>[]) (fun y:Int×Int=>(8 - y.1).toNat) (fun y:Int×Int=>(0≤y.1∧y.1≤8∧y.2=iterU y.1.toNat (xorU c (IntKind.u32.wrap b.toNat)))) (0,xorU c (IntKind.u32.wrap b.toNat)) [0,2,3,4,6,7,16] [] [] [] ?_ (by kernel_rfl) rfl rfl rfl ?_
  ·exact⟨by simp,by simp,by simp[iterU]⟩
  rintro⟨k,d⟩ ⟨hk0,hk,hd⟩
  refine Zs [zR 0] [] [zB 17 (decide (k<8))] ?_
  refine J_seq ?_
  refine cC (t:=decide (k<8)) (fun hk8=>?_) (fun hk8=>?_)
  ·have hk8':k<8:=by simpa using hk8
   refine J_skip (J_seq (J_block ?_))
   refine Za (Rds 0 7) [17] [zV 3 (.int .u32 (IntKind.u32.wrap (↑(BitVec.ofInt IntKind.u32.bits (d.fdiv (2 ^ min (Int.toNat 1) IntKind.u32.bits)) ^^^ BitVec.ofInt IntKind.u32.bits (IntKind.u32.wrap (3988292384*IntKind.u32.wrap (↑(BitVec.ofInt IntKind.u32.bits d &&& BitVec.ofInt IntKind.u32.bits 1).toNat:Int)))).toNat:Int)))] ?_
   refine J_eb ?_
   refine Zp [.rd 0 [] 0 1,zR 1] [] [zI 16 (k+1)] (oC (show IntKind.i64.wrap (k+1)=k+1 from wrap_i64 (by omega) (by omega)) oN) ?_
   refine J_backx (k+1,stepU d) [0,2,3,4,6,7,16] [] [] [] ?_ ?_ (by kernel_rfl) rfl rfl rfl
   ·refine⟨by simp only;omega,by simp only;omega,?_⟩
    simp only at hd ⊢
    rw[show(k+1).toNat=k.toNat+1 by omega,iterU,←hd]
   ·simp only
    omega
  ·obtain rfl:k=8:=by simp at hk8;omega
   refine J_exit rfl ?_
   refine J_eb ?_
   refine Zp [.rd 0 [] 0 1,zR 1] [17] [zI 7 (i+1)] (oC (show IntKind.i64.wrap (i+1)=i+1 from wrap_i64 (by omega) (by omega)) oN) ?_
   refine J_backx (i+1,d) [0,2,3,6,7] [] [] [] ?_ ?_ (by kernel_rfl) rfl rfl rfl
   ·refine⟨by simp only;omega,by simp only;omega,?_⟩
    simp only at hd hc ⊢
    rw[show(i+1).toNat=i.toNat+1 by omega,crcU_snoc hb,←hc,hd]
    rfl
   ·simp only
    omega
 ·obtain rfl:i=s0.size:=by simp at hlt;omega
  refine J_exit rfl ?_
  refine Zs (Rds 0 3) [8,0,3,6,7] [zV 2 (.int .u32 (IntKind.u32.wrap (↑(BitVec.ofInt IntKind.u32.bits (if IntKind.u32.signed=true then -1 else IntKind.u32.max) ^^^ BitVec.ofInt IntKind.u32.bits c).toNat:Int)))] ?_
  refine Yr [[]] (.int .u32 (IntKind.u32.wrap (↑(BitVec.ofInt IntKind.u32.bits (if IntKind.u32.signed=true then -1 else IntKind.u32.max) ^^^ BitVec.ofInt IntKind.u32.bits c).toNat:Int))) fun a w s=>?_
  have e:c=crcU s0.data.toList:=by
   simp only at hc
   rw[hc,List.take_of_length_le (by omega)]
  rw[←e]
  exact s.ret (by simp) [] [] rfl rfl
end Go.Proofs.YtmkapocibaojdaaGreatDoor
end
section
namespace Go.Sx
open Go
theorem wrap_if (x:Int):IntKind.i64.wrap x=if x % 18446744073709551616≥9223372036854775808 then x % 18446744073709551616 - 18446744073709551616 else x % 18446744073709551616:=by
 simp[IntKind.wrap,IntKind.signed,IntKind.bits]
abbrev Rd (α:Type):=List UInt8→Option (α×List UInt8)
def andR {α β:Type} (rd:Rd α) (q:α→Rd β):Rd β:=fun l=>(rd l).bind fun p=>q p.1 p.2
abbrev St2:=List UInt8×Bool
def andS {α β:Type} (r:St2→α×St2) (q:α→St2→β×St2):St2→β×St2:=fun s=>q (r s).1 (r s).2
structure Good {α:Type} (rd:Rd α) (r:St2→α×St2):Prop where
 ok:∀l x l',rd l=some (x,l')→r (l,false)=(x,(l',false))
 no:∀l,rd l=none→(r (l,false)).2.2=true
 bad:∀s,s.2=true→(r s).2.2=true
theorem Good.and {α β:Type} {rd:Rd α} {r:St2→α×St2} {qd:α→Rd β} {q:α→St2→β×St2} (h:Good rd r) (h2:∀x,Good (qd x) (q x)):Good (andR rd qd) (andS r q):=by
 refine⟨fun l x l' he=>?_,fun l he=>?_,fun s hs=>(h2 _).bad _ (h.bad s hs)⟩
 ·unfold andR at he
  cases h1:rd l with
  | none=>rw[h1]at he;cases he
  | some p=>
   rw[h1]at he
   unfold andS
   rw[h.ok l p.1 p.2 h1]
   exact(h2 p.1).ok p.2 x l' he
 ·unfold andR at he
  cases h1:rd l with
  | none=>exact(h2 _).bad _ (h.no l h1)
  | some p=>
   rw[h1]at he
   unfold andS
   rw[h.ok l p.1 p.2 h1]
   exact(h2 p.1).no p.2 he
theorem Good.pure {α:Type} (x:α):Good (fun l=>some (x,l)) fun s=>(x,s):=⟨fun l y l' h=>(by cases h;rfl),fun l h=>(by cases h),fun s hs=>hs⟩
end Go.Sx
end
section
namespace Go.Proofs.YtmkapocibaojdaaGreatDoor
open Go Go.Sx
theorem ofInt32 {a:Nat} (h:a<4294967296):(BitVec.ofInt 32 (a:Int)).toNat=a:=by
 rw[BitVec.toNat_ofInt]
 omega
theorem ofInt64 {a:Nat} (h:a<4294967296):(BitVec.ofInt 64 (a:Int)).toNat=a:=by
 rw[BitVec.toNat_ofInt]
 omega
theorem wrapU {a:Nat} (h:a<4294967296):IntKind.u32.wrap (a:Int)=(a:Int):=by
 simp[IntKind.wrap,IntKind.signed,IntKind.bits]
 omega
theorem wrapI {a:Nat} (h:a<4294967296):IntKind.i64.wrap (a:Int)=(a:Int):=by
 rw[wrap_if]
 omega
theorem xor32 {a b:Nat} (ha:a<4294967296) (hb:b<4294967296):a ^^^ b<4294967296:=Nat.xor_lt_two_pow (n:=32) ha hb
theorem xorU_nat {a b:Nat} (ha:a<4294967296) (hb:b<4294967296):xorU (a:Int) (b:Int)=((a ^^^ b:Nat):Int):=by
 have e:(BitVec.ofInt IntKind.u32.bits (a:Int) ^^^ BitVec.ofInt IntKind.u32.bits (b:Int)).toNat=a ^^^ b:=by
  rw[BitVec.toNat_xor]
  exact congr (congrArg HXor.hXor (ofInt32 ha)) (ofInt32 hb)
 unfold xorU
 rw[e]
 exact wrapU (xor32 ha hb)
theorem andU_nat {a b:Nat} (ha:a<4294967296) (hb:b<4294967296):andU (a:Int) (b:Int)=((a &&& b:Nat):Int):=by
 have e:(BitVec.ofInt IntKind.u32.bits (a:Int) &&& BitVec.ofInt IntKind.u32.bits (b:Int)).toNat=a &&& b:=by
  rw[BitVec.toNat_and]
  exact congr (congrArg HAnd.hAnd (ofInt32 ha)) (ofInt32 hb)
 unfold andU
 rw[e]
 exact wrapU (Nat.lt_of_le_of_lt Nat.and_le_left ha)
theorem xorI_nat {a b:Nat} (ha:a<4294967296) (hb:b<4294967296):xorI (a:Int) (b:Int)=((a ^^^ b:Nat):Int):=by
 have e:(BitVec.ofInt IntKind.i64.bits (a:Int) ^^^ BitVec.ofInt IntKind.i64.bits (b:Int)).toNat=a ^^^ b:=by
  rw[BitVec.toNat_xor]
  exact congr (congrArg HXor.hXor (ofInt64 ha)) (ofInt64 hb)
 unfold xorI
 rw[e]
 exact wrapI (xor32 ha hb)
def stepN (a:Nat):Nat:=a >>> 1 ^^^ 3988292384*(a &&& 1)
theorem and1 (a:Nat):a &&& 1=0∨a &&& 1=1:=by
 rw[Nat.and_one_is_mod]
 omega
theorem shr32 {a:Nat} (h:a<4294967296):a >>> 1<4294967296:=by
 rw[Nat.shiftRight_eq_div_pow]
 omega
theorem poly32 (a:Nat):3988292384*(a &&& 1)<4294967296:=by
 rcases and1 a with h|h <;> rw[h] <;> decide
theorem stepN_lt {a:Nat} (h:a<4294967296):stepN a<4294967296:=xor32 (shr32 h) (poly32 a)
theorem stepU_nat {a:Nat} (h:a<4294967296):stepU (a:Int)=(stepN a:Int):=by
 unfold stepU stepN
 have e1:(a:Int).fdiv (2 ^ min (Int.toNat 1) IntKind.u32.bits)=((a >>> 1:Nat):Int):=by
  rw[Nat.shiftRight_eq_div_pow]
  show(a:Int).fdiv 2=_
  rw[Int.fdiv_eq_ediv_of_nonneg _ (by decide)]
  simp
 have e2:andU (a:Int) 1=((a &&& 1:Nat):Int):=andU_nat h (b:=1) (by decide)
 have e3:(3988292384:Int)*((a &&& 1:Nat):Int)=((3988292384*(a &&& 1):Nat):Int):=by simp
 rw[e1,e2,e3,wrapU (poly32 a)]
 exact xorU_nat (shr32 h) (poly32 a)
def iterN:Nat→Nat→Nat
 | 0,d=>d
 | n+1,d=>stepN (iterN n d)
theorem iterN_lt {a:Nat} (h:a<4294967296):∀k,iterN k a<4294967296
 | 0=>h
 | k+1=>stepN_lt (iterN_lt h k)
theorem iterU_nat {a:Nat} (h:a<4294967296):∀k,iterU k (a:Int)=(iterN k a:Int)
 | 0=>rfl
 | k+1=>by
  unfold iterU iterN
  rw[iterU_nat h k]
  exact stepU_nat (iterN_lt h k)
def stepD (d b k:Nat):Nat:=if (d ^^^ b >>> k) % 2=1 then d >>> 1 ^^^ 3988292384 else d >>> 1
def iterD (c b:Nat):Nat→Nat
 | 0=>c
 | n+1=>stepD (iterD c b n) b n
theorem stepD_lt {d:Nat} (h:d<4294967296) (b k:Nat):stepD d b k<4294967296:=by
 unfold stepD
 split
 ·exact xor32 (shr32 h) (by decide)
 ·exact shr32 h
theorem iterD_lt {c:Nat} (h:c<4294967296) (b:Nat):∀k,iterD c b k<4294967296
 | 0=>h
 | k+1=>stepD_lt (iterD_lt h b k) b k
theorem shrk32 {b:Nat} (h:b<4294967296) (k:Nat):b >>> k<4294967296:=by
 rw[Nat.shiftRight_eq_div_pow]
 exact Nat.lt_of_le_of_lt (Nat.div_le_self _ _) h
theorem stepR_nat {d:Nat} (h:d<4294967296) (b:UInt8) {k:Nat} (hk:k≤63):stepR (d:Int) b (k:Int)=(stepD d b.toNat k:Int):=by
 have hb:b.toNat<4294967296:=by have:=b.toNat_lt;omega
 have e0:IntKind.i64.wrap ((b.toNat:Nat):Int)=(b.toNat:Int):=wrapI hb
 have e1:(IntKind.i64.wrap ((b.toNat:Nat):Int)).fdiv (2 ^ min (Int.toNat (k:Int)) IntKind.i64.bits)=((b.toNat >>> k:Nat):Int):=by
  rw[e0,Nat.shiftRight_eq_div_pow,Int.toNat_natCast,show min k IntKind.i64.bits=k from Nat.min_eq_left (by show k≤64;omega)]
  rw[Int.fdiv_eq_ediv_of_nonneg _ (Int.pow_nonneg (by decide))]
  simp
 have e2:xorI (d:Int) ((b.toNat >>> k:Nat):Int)=((d ^^^ b.toNat >>> k:Nat):Int):=xorI_nat h (shrk32 hb k)
 have e3:bitR (d:Int) b (k:Int)=(((d ^^^ b.toNat >>> k) % 2:Nat):Int):=by
  unfold bitR
  rw[e1,e2]
  rw[Int.tmod_eq_emod_of_nonneg (by omega)]
  simp
 have e4:IntKind.i64.wrap ((d:Int).tdiv 2)=((d >>> 1:Nat):Int):=by
  have:(d:Int).tdiv 2=((d >>> 1:Nat):Int):=by
   rw[Int.tdiv_eq_ediv_of_nonneg (by omega),Nat.shiftRight_eq_div_pow]
   simp
  rw[this]
  exact wrapI (shr32 h)
 unfold stepR stepD
 rw[e3,e4]
 by_cases hc:(d ^^^ b.toNat >>> k) % 2=1
 ·rw[if_pos hc,if_pos (by simp[hc])]
  exact xorI_nat (shr32 h) (b:=3988292384) (by decide)
 ·rw[if_neg hc,if_neg]
  have:(d ^^^ b.toNat >>> k) % 2=0:=by omega
  rw[this]
  decide
theorem iterR_nat {c:Nat} (h:c<4294967296) (b:UInt8):∀k,k≤64→iterR (c:Int) b k=(iterD c b.toNat k:Int)
 | 0,_=>rfl
 | k+1,hk=>by
  unfold iterR iterD
  rw[iterR_nat h b k (by omega)]
  exact stepR_nat (iterD_lt h _ k) b (by omega)
theorem iter_same (c b:Nat):∀k,iterN k (c ^^^ b)=iterD c b k ^^^ b >>> k
 | 0=>by simp[iterN,iterD]
 | k+1=>by
  have ih:=iter_same c b k
  unfold iterN iterD
  rw[ih]
  generalize iterD c b k=d
  unfold stepN stepD
  have e1:(d ^^^ b >>> k) >>> 1=d >>> 1 ^^^ b >>> (k+1):=by
   rw[Nat.shiftRight_xor_distrib,Nat.shiftRight_add]
  rw[e1,Nat.and_one_is_mod]
  by_cases hc:(d ^^^ b >>> k) % 2=1
  ·rw[if_pos hc,hc,Nat.mul_one]
   rw[Nat.xor_assoc,Nat.xor_assoc]
   congr 1
   exact Nat.xor_comm _ _
  ·rw[if_neg hc]
   have:(d ^^^ b >>> k) % 2=0:=by omega
   rw[this,Nat.mul_zero,Nat.xor_zero]
def crcN (l:List UInt8):Nat:=l.foldl (fun c b=>iterD c b.toNat 8) 4294967295
theorem crc_go (l:List UInt8):∀{c:Nat},c<4294967296→l.foldl (fun c b=>iterU 8 (xorU c (IntKind.u32.wrap (b.toNat:Int)))) (c:Int)=((l.foldl (fun c b=>iterD c b.toNat 8) c:Nat):Int)∧l.foldl (fun c b=>iterR c b 8) (c:Int)=((l.foldl (fun c b=>iterD c b.toNat 8) c:Nat):Int)∧l.foldl (fun c b=>iterD c b.toNat 8) c<4294967296:=by
 induction l with
 | nil=>exact fun h=>⟨rfl,rfl,h⟩
 | cons b l ih=>
  intro c h
  have hb:b.toNat<4294967296:=by have:=b.toNat_lt;omega
  simp only[List.foldl_cons]
  have e1:iterU 8 (xorU (c:Int) (IntKind.u32.wrap (b.toNat:Int)))=(iterD c b.toNat 8:Int):=by
   rw[wrapU hb,xorU_nat h hb,iterU_nat (xor32 h hb),iter_same]
   have:b.toNat >>> 8=0:=by
    rw[Nat.shiftRight_eq_div_pow]
    have:=b.toNat_lt
    omega
   rw[this,Nat.xor_zero]
  rw[e1,iterR_nat h b 8 (by decide)]
  exact ih (iterD_lt h _ 8)
def sumN (l:List UInt8):Nat:=crcN l ^^^ 4294967295
theorem crcN_lt (l:List UInt8):crcN l<4294967296:=(crc_go l (c:=4294967295) (by decide)).2.2
theorem sumN_lt (l:List UInt8):sumN l<4294967296:=xor32 (crcN_lt l) (by decide)
theorem crcU_sum (l:List UInt8):notU (crcU l)=(sumN l:Int):=by
 have e:crcU l=(crcN l:Int):=(crc_go l (c:=4294967295) (by decide)).1
 unfold notU sumN
 rw[e,Nat.xor_comm]
 exact xorU_nat (a:=4294967295) (by decide) (crcN_lt l)
end Go.Proofs.YtmkapocibaojdaaGreatDoor
end
section
namespace Go.Proofs.YtmkapocibaojdaaGreatDoor
open Go Go.Sx
set_option maxHeartbeats 4000000 in
theorem sumWB {w:World} {S:Nat→Prop} {s0:ByteArray} (h9:s0.size≤100000):Calls Tryz.prog 189 #[.string s0] w fun e w'=>Ret [] w S w' e (.int .u32 (sumN s0.data.toList)) [] []:=
 (crcPW (S:=S) h9).mono fun e w' h=>by rw[crcU_sum]at h;exact h
def shardN (key:ByteArray) (n:Int):Int:=(sumN key.data.toList:Int).tmod n
theorem shardN_prog {key:ByteArray} {n:Int} (h1:1≤n) (h6:n≤6):(IntKind.i64.wrap (sumN key.data.toList:Int)).tmod n=shardN key n:=by
 rw[wrapI (sumN_lt key.data.toList)]
 rfl
theorem nameOk_len {s:ByteArray} (h:nameOk s=true):s.size≤16:=by
 simp only[nameOk,Bool.and_eq_true,decide_eq_true_eq]at h
 exact h.1.2
def shardE (key:ByteArray) (n:Int):Int:=if nameOk key=true then shardN key n else 0
set_option maxHeartbeats 4000000 in
theorem shardW {w:World} {S:Nat→Prop} {er:Nat→Addr} {eb:Nat→Array Value×TypeId} {key:ByteArray} {n:Int} (hC:Rep w S .nilIface (dC er eb)) :
  Calls Tryz.prog 148 #[.string key,.int .i64 n] w fun e w'=>
   (nameOk key=false∧Ret [] w S w' e (.tuple #[.int .i64 0,.iface 390 (.pointer (some (er 4)))]) [] []) ∨
   (nameOk key=true∧(n<1∨6<n)∧Ret [] w S w' e (.tuple #[.int .i64 0,.iface 390 (.pointer (some (er 2)))]) [] []) ∨
   (nameOk key=true∧(1≤n∧n≤6)∧Ret [] w S w' e (.tuple #[.int .i64 (shardN key n),.nilIface]) [] []):=by
 refine epG Tryz.func148 bd148 (args:=[.string key,.int .i64 n]) (G:=[(_,dC er eb)]) (by kernel_rfl) (.cons hC (.nil _ _)) ?_
 refine J_stp (stp_all 0 [1,3] rfl rfl) ?_
 refine J_glob 1 rfl (fun csg1 tyg1 fzg1 hglob1=>?_)
 refine J_glob 2 rfl (fun csg2 tyg2 fzg2 hglob2=>?_)
 try simp only[aQ]
 refine Zs [zR 0,zR 1] [] [zI 4 0,zV 5 .nilIface] ?_
 refine J_seq ?_
 refine jS [(0,true),(1,false),(2,true)] [] ?_
 refine Ya [zR 0] [] [zV 6 (.string key)] ?_
 refine Yc 154 #[.string key] (some 7) fun w S hG=>?_
 refine(vName (S:=S)).mono ?_
 rintro e1 w1 hR
 refine⟨_,_,_,hR,?_⟩
 try simp only[aQ]
 refine Ya [zR 2] [7,6] [zB 8 (!nameOk key)] ?_
 refine JR_end ?_
 refine cC (t:=!nameOk key) (fun hn=>?_) (fun hn=>?_)
 ·have hn2:nameOk key=false:=by simpa using hn
  refine Zt [.rd 0 [.r 1 (some (.iface 390 (.pointer (some (er 4)))))] 0 0,zR 1,zR 2] [8] [zV 5 (.iface 390 (.pointer (some (er 4))))] (oC hglob2 oN) ?_
  refine Yr [[],[]] (.tuple #[nI 0,.iface 390 (.pointer (some (er 4)))]) fun a w s=>?_
  exact .inl ⟨hn2,s.ret (by simp) [] [] rfl rfl⟩
 ·have hn2:nameOk key=true:=by simpa using hn
  have hk:=nameOk_len hn2
  refine J_skip (J_seq ?_)
  refine Zs (Rds 0 3++[.rd 3 [] 2 0,.rd 4 [] 2 0,.rd 5 [] 0 3]) [8] [zB 15 (decide (n<1)||decide (n>6))] ?_
  refine cC (t:=decide (n<1)||decide (n>6)) (fun hb=>?_) (fun hb=>?_)
  ·refine J_seq ?_
   refine Zp [.rd 0 [.r 0 (some (.iface 390 (.pointer (some (er 2)))))] 0 0,zR 1,zR 2] [15] [zV 5 (.iface 390 (.pointer (some (er 2))))] (oC hglob1 oN) ?_
   refine Yr [[],[]] (.tuple #[nI 0,.iface 390 (.pointer (some (er 2)))]) fun a w s=>?_
   exact .inr (.inl ⟨hn2,by simp at hb;omega,s.ret (by simp) [] [] rfl rfl⟩)
  ·have hb2:1≤n∧n≤6:=by simp at hb;omega
   obtain h|h|h|h|h|h:n=1∨n=2∨n=3∨n=4∨n=5∨n=6:=by omega
   ·subst h
    refine J_skip ?_
    refine jS [(0,true),(1,false),(2,true),(3,true),(4,true),(5,true),(6,true)] [] ?_
    refine Ya [zR 0] [15,0] [zV 17 (.string key)] ?_
    refine Yc 189 #[.string key] (some 18) fun w S hG=>?_
    refine(sumWB (S:=S) (by omega)).mono ?_
    rintro e2 w2 hR
    refine⟨_,_,_,hR,?_⟩
    try simp only[aQ]
    refine Ya (Rds 2 7) [18,17,1] [zI 4 ((IntKind.i64.wrap (↑(sumN key.data.toList):Int)).tmod 1)] ?_
    refine JR_end ?_
    refine Yr [[],[]] (.tuple #[nI ((IntKind.i64.wrap (↑(sumN key.data.toList):Int)).tmod 1),.nilIface]) fun a w s=>?_
    rw[shardN_prog (by decide) (by decide)]
    exact .inr (.inr ⟨hn2,hb2,s.ret (by simp) [] [] rfl rfl⟩)
   ·subst h
    refine J_skip ?_
    refine jS [(0,true),(1,false),(2,true),(3,true),(4,true),(5,true),(6,true)] [] ?_
    refine Ya [zR 0] [15,0] [zV 17 (.string key)] ?_
    refine Yc 189 #[.string key] (some 18) fun w S hG=>?_
    refine(sumWB (S:=S) (by omega)).mono ?_
    rintro e2 w2 hR
    refine⟨_,_,_,hR,?_⟩
    try simp only[aQ]
    refine Ya (Rds 2 7) [18,17,1] [zI 4 ((IntKind.i64.wrap (↑(sumN key.data.toList):Int)).tmod 2)] ?_
    refine JR_end ?_
    refine Yr [[],[]] (.tuple #[nI ((IntKind.i64.wrap (↑(sumN key.data.toList):Int)).tmod 2),.nilIface]) fun a w s=>?_
    rw[shardN_prog (by decide) (by decide)]
    exact .inr (.inr ⟨hn2,hb2,s.ret (by simp) [] [] rfl rfl⟩)
   ·subst h
    refine J_skip ?_
    refine jS [(0,true),(1,false),(2,true),(3,true),(4,true),(5,true),(6,true)] [] ?_
    refine Ya [zR 0] [15,0] [zV 17 (.string key)] ?_
    refine Yc 189 #[.string key] (some 18) fun w S hG=>?_
    refine(sumWB (S:=S) (by omega)).mono ?_
    rintro e2 w2 hR
    refine⟨_,_,_,hR,?_⟩
    try simp only[aQ]
    refine Ya (Rds 2 7) [18,17,1] [zI 4 ((IntKind.i64.wrap (↑(sumN key.data.toList):Int)).tmod 3)] ?_
    refine JR_end ?_
    refine Yr [[],[]] (.tuple #[nI ((IntKind.i64.wrap (↑(sumN key.data.toList):Int)).tmod 3),.nilIface]) fun a w s=>?_
    rw[shardN_prog (by decide) (by decide)]
    exact .inr (.inr ⟨hn2,hb2,s.ret (by simp) [] [] rfl rfl⟩)
   ·subst h
    refine J_skip ?_
    refine jS [(0,true),(1,false),(2,true),(3,true),(4,true),(5,true),(6,true)] [] ?_
    refine Ya [zR 0] [15,0] [zV 17 (.string key)] ?_
    refine Yc 189 #[.string key] (some 18) fun w S hG=>?_
    refine(sumWB (S:=S) (by omega)).mono ?_
    rintro e2 w2 hR
    refine⟨_,_,_,hR,?_⟩
    try simp only[aQ]
    refine Ya (Rds 2 7) [18,17,1] [zI 4 ((IntKind.i64.wrap (↑(sumN key.data.toList):Int)).tmod 4)] ?_
    refine JR_end ?_
    refine Yr [[],[]] (.tuple #[nI ((IntKind.i64.wrap (↑(sumN key.data.toList):Int)).tmod 4),.nilIface]) fun a w s=>?_
    rw[shardN_prog (by decide) (by decide)]
    exact .inr (.inr ⟨hn2,hb2,s.ret (by simp) [] [] rfl rfl⟩)
   ·subst h
    refine J_skip ?_
    refine jS [(0,true),(1,false),(2,true),(3,true),(4,true),(5,true),(6,true)] [] ?_
    refine Ya [zR 0] [15,0] [zV 17 (.string key)] ?_
    refine Yc 189 #[.string key] (some 18) fun w S hG=>?_
    refine(sumWB (S:=S) (by omega)).mono ?_
    rintro e2 w2 hR
    refine⟨_,_,_,hR,?_⟩
    try simp only[aQ]
    refine Ya (Rds 2 7) [18,17,1] [zI 4 ((IntKind.i64.wrap (↑(sumN key.data.toList):Int)).tmod 5)] ?_
    refine JR_end ?_
    refine Yr [[],[]] (.tuple #[nI ((IntKind.i64.wrap (↑(sumN key.data.toList):Int)).tmod 5),.nilIface]) fun a w s=>?_
    rw[shardN_prog (by decide) (by decide)]
    exact .inr (.inr ⟨hn2,hb2,s.ret (by simp) [] [] rfl rfl⟩)
   ·subst h
    refine J_skip ?_
    refine jS [(0,true),(1,false),(2,true),(3,true),(4,true),(5,true),(6,true)] [] ?_
    refine Ya [zR 0] [15,0] [zV 17 (.string key)] ?_
    refine Yc 189 #[.string key] (some 18) fun w S hG=>?_
    refine(sumWB (S:=S) (by omega)).mono ?_
    rintro e2 w2 hR
    refine⟨_,_,_,hR,?_⟩
    try simp only[aQ]
    refine Ya (Rds 2 7) [18,17,1] [zI 4 ((IntKind.i64.wrap (↑(sumN key.data.toList):Int)).tmod 6)] ?_
    refine JR_end ?_
    refine Yr [[],[]] (.tuple #[nI ((IntKind.i64.wrap (↑(sumN key.data.toList):Int)).tmod 6),.nilIface]) fun a w s=>?_
    rw[shardN_prog (by decide) (by decide)]
    exact .inr (.inr ⟨hn2,hb2,s.ret (by simp) [] [] rfl rfl⟩)
set_option maxHeartbeats 4000000 in
theorem shardV {w:World} {S:Nat→Prop} {er:Nat→Addr} {eb:Nat→Array Value×TypeId} {key:ByteArray} {n:Int} (hC:Rep w S .nilIface (dC er eb)) (h1:1≤n) (h6:n≤6) :
  Calls Tryz.prog 148 #[.string key,.int .i64 n] w fun e w'=>∃v,Ret [] w S w' e (.tuple #[.int .i64 (shardE key n),v]) [] []:=
 (shardW hC).mono fun e w' h=>by
  rcases h with ⟨hn,h⟩|⟨_,hb,_⟩|⟨hn,_,h⟩
  ·exact⟨_,by rw[shardE,if_neg (by simp[hn])];exact h⟩
  ·omega
  ·exact⟨_,by rw[shardE,if_pos hn];exact h⟩
end Go.Proofs.YtmkapocibaojdaaGreatDoor
end
section
namespace Go.Proofs.YtmkapocibaojdaaGreatDoor
open Go Go.Sx
def inS (n i:Int) (o:OpT):Bool:=decide (shardE o.key n=i)
structure DelQ (α:Type) where
 i:Int
 j:Int
 cur:Array Value
 xs:List Value
 Lc:List α
structure DelI {α:Type} (p:α→Bool) (L:List α) (i j:Int) (Lc:List α):Prop where
 len:Lc.length=L.length
 take:Lc.take i.toNat=(L.take j.toNat).filter p
 drop:Lc.drop j.toNat=L.drop j.toNat
section delq
variable {α:Type} {p:α→Bool} {L Lc:List α} {i j:Int} {x:α}
theorem DelI.at (h:DelI p L i j Lc) (hx:L[j.toNat]?=some x):Lc[j.toNat]?=some x:=by
 have h1:(Lc.drop j.toNat)[0]?=(L.drop j.toNat)[0]?:=by rw[h.drop]
 rw[List.getElem?_drop,List.getElem?_drop,Nat.add_zero]at h1
 rw[h1,hx]
theorem DelI.skip (h:DelI p L i j Lc) (hj:0≤j) (hx:L[j.toNat]?=some x) (hk:p x=false):DelI p L i (j+1) Lc:=by
 refine⟨h.len,?_,?_⟩
 ·rw[h.take,←take_snoc hj hx,List.filter_append]
  simp[hk]
 ·rw[show(j+1).toNat=j.toNat+1 by omega,←List.drop_drop,←List.drop_drop,h.drop]
theorem DelI.keep (h:DelI p L i j Lc) (hi:0≤i) (hij:i<j) (hj:j<L.length) (hx:L[j.toNat]?=some x) (hk:p x=true):DelI p L (i+1) (j+1) (Lc.set i.toNat x):=by
 refine⟨by rw[List.length_set];exact h.len,?_,?_⟩
 ·have hl:=h.len
  have h1:(Lc.set i.toNat x).take (i.toNat+1)=Lc.take i.toNat++[x]:=by
   rw[List.take_add_one,List.take_set_of_le (Nat.le_refl _)]
   simp[show i.toNat<Lc.length by omega]
  rw[show(i+1).toNat=i.toNat+1 by omega,h1,h.take,←take_snoc (by omega) hx,List.filter_append]
  simp[hk]
 ·rw[List.drop_set_of_lt (by omega),show(j+1).toNat=j.toNat+1 by omega,←List.drop_drop,←List.drop_drop,h.drop]
theorem DelI.first {r:Int} (hr0:0≤r) (hx:L[r.toNat]?=some x) (hk:p x=false) (hn:∀y∈L.take r.toNat,p y=true):DelI p L r (r+1) L:=by
 refine⟨rfl,?_,rfl⟩
 rw[←take_snoc hr0 hx,List.filter_append,List.filter_eq_self.2 hn]
 simp[hk]
end delq
set_option maxHeartbeats 4000000 in
theorem part1 {w:World} {S:Nat→Prop} {M:List Nat} {er:Nat→Addr} {eb:Nat→Array Value×TypeId} {op:OpT} {v o i:Value} {b vb b3 b5:Nat} {id places shards clock sh:Int} (ov:v.oneCell'=true) (hC:Rep w S .nilIface (dC er eb)) (h3:Rep w S (.pointer (some ⟨b3,0,none⟩)) (.ptr [.v (.pointer (some ⟨b,0,none⟩))])) (h5:Rep w S (.pointer (some ⟨b5,0,none⟩)) (.ptr [.v (.int .i64 sh)]))
  (hP:Pre w S M [cObj b (plC vb id places shards clock o i)]) (s1:1≤shards) (s6:shards≤6) :
  Calls Tryz.prog 147 #[opA op v,.pointer (some ⟨b3,0,none⟩),.pointer (some ⟨b5,0,none⟩)] w fun e w'=>Ret M w S w' e (.bool (!inS shards sh op)) [cObj b (plC vb id places shards clock o i)] []:=by
 refine enG Tryz.func147 bd147 (args:=[opA op v,.pointer (some ⟨b3,0,none⟩),.pointer (some ⟨b5,0,none⟩)]) (S:=S) (G:=[(_,dC er eb),(_,.ptr [.v (.pointer (some ⟨b,0,none⟩))]),(_,.ptr [.v (.int .i64 sh)])]) (by kernel_rfl) hP (.cons hC (.cons h3 (.cons h5 (.nil _ _)))) ?_
 refine J_show 0 rfl ?_
 refine J_glob 1 rfl (fun csg1 tyg1 fzg1 hglob1=>?_)
 refine J_glob 2 rfl (fun csg2 tyg2 fzg2 hglob2=>?_)
 refine Zv [.wr 0 [] 0,zR 1] [] [0] (fun nu1=>[zP 3 (nu1 0),zB 4 false]) o0 (fun nu1=>[(nu1 0,.cells #[nI op.no,.string op.key,nI op.kind,.string op.text,nI op.n,.bool op.remove,v] 55 (0,0))]) (fun nu1=>?_)
 refine jS [(0,true),(1,true),(2,true),(3,true),(4,true),(5,true),(6,false),(7,true),(8,true),(9,true),(10,true),(11,true)] [] ?_
 refine Yp [zR 0,.rd 1 [.o 1 none] 0 0,.rd 2 [.r 0 (some (.pointer (sA b 0)))] 0 0,zR 3,zR 4,.rd 5 [.o 0 none] 0 0] [3,1] [zV 9 (.string op.key),zI 13 shards] (oC hglob1 oN) ?_
 refine Yc 148 #[.string op.key,nI shards] (some 14) fun w S hG=>?_
 refine(shardV (hG.at 0 rfl) s1 s6).mono ?_
 rintro e1 w1 ⟨v2,hR⟩
 refine⟨_,_,_,hR,?_⟩
 try simp only[aQ]
 refine Ya (Rds 7 12) [14,9,13] [zI 5 (shardE op.key shards)] ?_
 refine JR_end ?_
 refine Zt [zR 0,.rd 1 [.r 1 (some (nI sh))] 0 0,zR 2,zR 3] [5,2] [zB 4 (shardE op.key shards != sh)] (oC hglob2 oN) ?_
 refine Yr [[]] (.bool (shardE op.key shards != sh)) fun a w s=>?_
 have e:(!inS shards sh op)=(shardE op.key shards != sh):=rfl
 rw[e]
 exact(s.hide 0 rfl).ret (by simp) [0] [] rfl rfl
abbrev clo (b3 b5:Nat):Value:=.func (.func 147) #[] #[.pointer (some ⟨b3,0,none⟩),.pointer (some ⟨b5,0,none⟩)]
set_option maxHeartbeats 4000000 in
theorem indexPart {w:World} {S:Nat→Prop} {M:List Nat} {er:Nat→Addr} {eb:Nat→Array Value×TypeId} {a:Option Addr} {n c:Nat} {L:List OpT} {o i:Value} {b vb b3 b5:Nat} {id places shards clock sh:Int} (hC:Rep w S .nilIface (dC er eb)) (h3:Rep w S (.pointer (some ⟨b3,0,none⟩)) (.ptr [.v (.pointer (some ⟨b,0,none⟩))])) (h5:Rep w S (.pointer (some ⟨b5,0,none⟩)) (.ptr [.v (.int .i64 sh)]))
  (hP:Pre w S M [cAcc (.slice a n c) 55 7 (L.map eOp),cObj b (plC vb id places shards clock o i)]) (s1:1≤shards) (s6:shards≤6) (hl:L.length≤1000000) :
  Calls Tryz.prog 188 #[.slice a n c,clo b3 b5] w fun e w'=>∃r:Int,Ret M w S w' e (.int .i64 r) [cAcc (.slice a n c) 55 7 (L.map eOp),cObj b (plC vb id places shards clock o i)] [] ∧
   ((r = -1∧∀x∈L,inS shards sh x=true)∨(0≤r∧r<L.length∧(∃x,L[r.toNat]?=some x∧inS shards sh x=false)∧∀x∈L.take r.toNat,inS shards sh x=true)):=by
 refine enG Tryz.func188 bd188 (args:=[.slice a n c,clo b3 b5]) (S:=S) (C:=[cAcc (.slice a n c) 55 7 (L.map eOp),cObj b (plC vb id places shards clock o i)]) (G:=[(_,dC er eb),(_,.ptr [.v (.pointer (some ⟨b,0,none⟩))]),(_,.ptr [.v (.int .i64 sh)])]) (by kernel_rfl) hP (.cons hC (.cons h3 (.cons h5 (.nil _ _)))) ?_
 refine J_stpx (stp_acclen 0 rfl) fun _ hk=>?_
 rw[List.length_map]at hk
 subst hk
 refine Zs [zR 0] [] [zI 4 0] ?_
 refine J_seq ?_
 refine Zs (Rds 0 3) [] [zI 7 (↑L.length:Int),zI 8 0] ?_
 refine J_block ?_
 refine J_loopx (fun i2:Int=>[zS 0 a L.length c,zV 1 (.func (.func 147) #[] #[.pointer (sA b3 0),.pointer (sA b5 0)]),zI 4 0,zI 7 (↑L.length:Int),zI 8 i2]) (fun i2:Int=>[]) (fun i2:Int=>[cAcc (.slice a L.length c) 55 7 (L.map eOp),cObj b (plC vb id places shards clock o i)]) (fun i2:Int=>[(.nilIface,(dC er eb)),(.pointer (sA b3 0),(D.ptr [D.v (Value.pointer (some (Addr.mk b 0 none)))])),(.pointer (sA b5 0),(D.ptr [D.v (nI sh)]))]) (fun i2:Int=>(L.length - i2).toNat) (fun i2:Int=>(0≤i2∧i2≤L.length∧∀x∈L.take i2.toNat,inS shards sh x=true)) 0 [0,1,4,7,8] [] [0,1] [0,1,2] ?_ (by kernel_rfl) rfl rfl rfl ?_
 ·exact⟨by simp,by omega,by simp⟩
 rintro i2 ⟨hi0,hi,hno⟩
 refine Zs [zR 0] [] [zB 9 (decide (i2<(↑L.length:Int)))] ?_
 refine J_seq ?_
 refine cC (t:=decide (i2<(↑L.length:Int))) (fun hlt=>?_) (fun hlt=>?_)
 ·have hlt2:i2<L.length:=by simpa using hlt
  obtain⟨x,hx⟩:∃x,L[i2.toNat]?=some x:=⟨_,List.getElem?_eq_getElem (by omega)⟩
  refine J_openacc 0 rfl (by intro h0;rw[List.map_eq_nil_iff]at h0;rw[h0]at hx;simp at hx) fun g cur xs hu _ _ hrow=>?_
  subst hu
  refine J_stpx (stp_readrows 1 rfl i2.toNat (map_at hx)) fun ls hls=>?_
  obtain⟨hls1,hls2⟩:=hls
  obtain⟨⟨xa,xc⟩,rfl⟩:∃l0,ls=[l0]:=len1 hls1
  have f:=fun(j:Nat) v h=>hrow.atx (hls2 j v h)
  have r0:cur[0+i2.toNat*7]?=some (.int .i64 x.no):=by rw[Nat.zero_add];exact f 0 _ rfl
  have r1:cur[0+i2.toNat*7+1]?=some (.string x.key):=by rw[Nat.zero_add];exact f 1 _ rfl
  have r2:cur[0+i2.toNat*7+2]?=some (.int .i64 x.kind):=by rw[Nat.zero_add];exact f 2 _ rfl
  have r3:cur[0+i2.toNat*7+3]?=some (.string x.text):=by rw[Nat.zero_add];exact f 3 _ rfl
  have r4:cur[0+i2.toNat*7+4]?=some (.int .i64 x.n):=by rw[Nat.zero_add];exact f 4 _ rfl
  have r5:cur[0+i2.toNat*7+5]?=some (.bool x.remove):=by rw[Nat.zero_add];exact f 5 _ rfl
  have r6:cur[0+i2.toNat*7+6]?=some (.slice xa (x.dots.map eDot).length xc):=by rw[Nat.zero_add];exact f 6 _ rfl
  try simp only[aQ]
  refine J_skip ?_
  try simp only[aQ]
  refine J_seq ?_
  try simp only[aQ]
  refine J_block ?_
  try simp only[aQ]
  refine J_seq ?_
  try simp only[aQ]
  refine Za [zR 0,zR 1] [9] [zI 5 i2] ?_
  try simp only[aQ]
  refine J_seq ?_
  try simp only[aQ]
  refine jT [(0,true),(1,true),(2,true),(3,true),(4,true),(5,false)] [] ?_
  refine Yp (Rds 0 3++[.rd 3 [] 0 2,.rd 4 [.o 0 (some (nI x.no)),.o 0 (some (.string x.key)),.o 0 (some (nI x.kind)),.o 0 (some (.string x.text)),.o 0 (some (nI x.n)),.o 0 (some (.bool x.remove)),.o 0 (some (.slice xa ((List.map eDot x.dots).length) xc))] 0 0]) [] [zV 11 (.func (.func 147) #[] #[.pointer (sA b3 0),.pointer (sA b5 0)]),zV 15 (.agg #[nI x.no,.string x.key,nI x.kind,.string x.text,nI x.n,.bool x.remove,.slice xa ((List.map eDot x.dots).length) xc])] (oC hi0 (oC hlt2 (oC r0 (oC r1 (oC r2 (oC r3 (oC r4 (oC r5 (oC r6 oN))))))))) ?_
  refine JR_call [] [0] 147 #[.agg #[.int .i64 x.no,.string x.key,.int .i64 x.kind,.string x.text,.int .i64 x.n,.bool x.remove,.slice xa ((List.map eDot x.dots).length) xc],.pointer (some (⟨b3,0,none⟩)),.pointer (some (⟨b5,0,none⟩))] (some 16) (by kernel_rfl) (by kernel_rfl) (by decide) (fun w S M hP hG _=>?_)
  refine(part1 (op:=x) rfl (hG.at 0 rfl) (hG.at 1 rfl) (hG.at 2 rfl) hP s1 s6).mono ?_
  rintro e w2 hR
  refine⟨_,_,_,hR,?_⟩
  try simp only[aQ]
  refine JR_end ?_
  try simp only[aQ]
  refine J_hide 0 rfl ?_
  refine J_stp (stp_closeacc 2 0 rfl rfl hrow (by decide)) ?_
  rw[show(List.map eOp L).length=L.length from List.length_map ..]
  refine cC (t:=!inS shards sh x) (fun hb=>?_) (fun hb=>?_)
  ·try simp only[aQ]
   refine J_seq ?_
   try simp only[aQ]
   refine Za [zR 0,zR 1] [16] [zI 4 i2] ?_
   try simp only[aQ]
   refine Yr [[]] (nI i2) fun a w s=>?_
   exact⟨i2,s.ret (by simp) [1,0] [] rfl rfl,.inr ⟨hi0,hlt2,⟨x,hx,by simpa using hb⟩,hno⟩⟩
  ·try simp only[aQ]
   refine J_skip ?_
   try simp only[aQ]
   refine J_eb ?_
   try simp only[aQ]
   refine Zp [.rd 0 [] 0 1,zR 1] [16] [zI 8 (i2+1)] (oC (show IntKind.i64.wrap (i2+1)=i2+1 from wrap_i64 (by omega) (by omega)) oN) ?_
   try simp only[aQ]
   refine J_backx (i2+1) [0,1,4,7,8] [] [1,0] [0,1,2] ?_ ?_ (by kernel_rfl) rfl rfl rfl
   ·refine⟨by omega,by omega,fun y hy=>?_⟩
    rw[←take_snoc hi0 hx,List.mem_append,List.mem_singleton]at hy
    rcases hy with hy|rfl
    ·exact hno y hy
    ·simpa using hb
   ·omega
 ·have e:List.take i2.toNat L=L:=List.take_of_length_le (by simp at hlt;omega)
  rw[e]at hno
  refine J_exit rfl ?_
  refine Zs [zR 0] [9,0,1,7,8] [zI 4 (-1)] ?_
  refine Yr [[]] (nI (-1)) fun a w s=>?_
  exact⟨-1,s.ret (by simp) [0,1] [] rfl rfl,.inl ⟨rfl,hno⟩⟩
set_option maxHeartbeats 4000000 in
theorem deletePart {w:World} {S:Nat→Prop} {M:List Nat} {er:Nat→Addr} {eb:Nat→Array Value×TypeId} {a:Option Addr} {n c:Nat} {L:List OpT} {o i:Value} {b vb b3 b5:Nat} {id places shards clock sh:Int} (hC:Rep w S .nilIface (dC er eb)) (h3:Rep w S (.pointer (some ⟨b3,0,none⟩)) (.ptr [.v (.pointer (some ⟨b,0,none⟩))])) (h5:Rep w S (.pointer (some ⟨b5,0,none⟩)) (.ptr [.v (.int .i64 sh)]))
  (hP:Pre w S M [cAcc (.slice a n c) 55 7 (L.map eOp),cObj b (plC vb id places shards clock o i)]) (s1:1≤shards) (s6:shards≤6) (hl:L.length≤1000000) :
  Calls Tryz.prog 146 #[.slice a n c,clo b3 b5] w fun e w'=>∃a' n' c',Ret M w S w' e (.slice a' n' c') [cAcc (.slice a' n' c') 55 7 ((L.filter (inS shards sh)).map eOp),cObj b (plC vb id places shards clock o i)] []:=by
 refine enG Tryz.func146 bd146 (args:=[.slice a n c,clo b3 b5]) (S:=S) (C:=[cAcc (.slice a n c) 55 7 (L.map eOp),cObj b (plC vb id places shards clock o i)]) (G:=[(_,dC er eb),(_,.ptr [.v (.pointer (some ⟨b,0,none⟩))]),(_,.ptr [.v (.int .i64 sh)])]) (by kernel_rfl) hP (.cons hC (.cons h3 (.cons h5 (.nil _ _)))) ?_
 refine J_stpx (stp_acclen 0 rfl) fun _ hk=>?_
 rw[List.length_map]at hk
 subst hk
 refine Zs [zR 0] [] [zS 4 none 0 0] ?_
 refine jS [(0,true),(1,true),(2,false),(3,true)] [] ?_
 refine Ya [zR 0,zR 1] [] [zS 8 a L.length c,zV 9 (.func (.func 147) #[] #[.pointer (sA b3 0),.pointer (sA b5 0)])] ?_
 refine JR_call [] [0,1] 188 #[.slice a L.length c,.func (.func 147) #[] #[.pointer (some (⟨b3,0,none⟩)),.pointer (some (⟨b5,0,none⟩))]] (some 10) (by kernel_rfl) (by kernel_rfl) (by decide) (fun w S M hP hG _=>?_)
 refine(indexPart (hG.at 0 rfl) (hG.at 1 rfl) (hG.at 2 rfl) hP s1 s6 hl).mono ?_
 rintro e1 w1 ⟨r,hR,hr⟩
 refine⟨_,_,_,hR,?_⟩
 obtain⟨rfl,hall⟩|⟨hr0,hr1,⟨y,hy,hys⟩,hrn⟩:=hr
 ·try simp only[aQ]
  refine Ya [zR 3] [10,8,9] [zI 5 (-1)] ?_
  try simp only[aQ]
  refine JR_end ?_
  try simp only[aQ]
  refine J_seq ?_
  try simp only[aQ]
  refine J_seq ?_
  try simp only[aQ]
  refine Za [zR 0,zR 1] [] [zB 12 true] ?_
  try simp only[aQ]
  refine cTt ?_
  try simp only[aQ]
  refine J_seq ?_
  try simp only[aQ]
  refine Za [zR 0,zR 1] [12] [zS 4 a L.length c] ?_
  try simp only[aQ]
  refine Yr [[]] (.slice a L.length c) fun a w s=>?_
  rw[List.filter_eq_self.2 hall]
  exact⟨_,_,_,s.ret (by simp) [0,1] [] rfl rfl⟩
 ·have hrm:¬r = -1:=by omega
  try simp only[aQ]
  refine Ya [zR 3] [10,8,9] [zI 5 r] ?_
  try simp only[aQ]
  refine JR_end ?_
  try simp only[aQ]
  refine J_seq ?_
  try simp only[aQ]
  refine J_seq ?_
  try simp only[aQ]
  refine Zp [zR 0,.rd 1 [] 0 7] [] [zB 12 false] (oC (show(r==(-1:Int))=false from by simp;omega) oN) ?_
  try simp only[aQ]
  refine cF ?_
  try simp only[aQ]
  refine J_skip ?_
  try simp only[aQ]
  refine J_seq ?_
  try simp only[aQ]
  refine J_seq ?_
  try simp only[aQ]
  refine Zp [zR 0,.rd 1 [] 0 1,zR 2] [12] [zI 6 (r+1)] (oC (show IntKind.i64.wrap (r+1)=r+1 from wrap_i64 (by omega) (by omega)) oN) ?_
  try simp only[aQ]
  refine J_block ?_
  try simp only[aQ]
  refine J_openacc 0 rfl (by intro h0;rw[List.map_eq_nil_iff]at h0;rw[h0]at hy;simp at hy) fun g cur0 xs0 hu _ _ hrow0=>?_
  subst hu
  rw[List.length_map]at hrow0
  have hcap:L.length≤c:=hrow0.le
  refine J_loopx (fun x:DelQ OpT=>[zS 0 (sA g 0) L.length c,zV 1 (.func (.func 147) #[] #[.pointer (sA b3 0),.pointer (sA b5 0)]),zS 4 none 0 0,zI 5 x.i,zI 6 x.j]) (fun x:DelQ OpT=>[(g,.cells x.cur 55 (0,0))]) (fun x:DelQ OpT=>[cObj b (plC vb id places shards clock o i),cRows x.xs 7 (x.Lc.map eOp)]) (fun x:DelQ OpT=>[(.nilIface,(dC er eb)),(.pointer (sA b3 0),(D.ptr [D.v (Value.pointer (some (Addr.mk b 0 none)))])),(.pointer (sA b5 0),(D.ptr [D.v (nI sh)]))]) (fun x:DelQ OpT=>(L.length - x.j).toNat) (fun x:DelQ OpT=>(0≤x.i∧x.i<x.j∧x.j≤L.length∧Row x.cur c L.length 7 x.xs∧DelI (inS shards sh) L x.i x.j x.Lc)) ⟨r,r+1,cur0,xs0,L⟩ [0,1,4,5,6] [0] [0,1] [0,1,2] ?_ (by kernel_rfl) rfl rfl rfl ?_
  ·exact⟨hr0,by simp only;omega,by simp only;omega,hrow0,.first hr0 hy hys hrn⟩
  rintro⟨i2,j,cu,xs,Lc⟩ ⟨hi0,hij,hj,hrow,hinv⟩
  dsimp only at hi0 hij hj hrow hinv ⊢
  refine J_seq ?_
  refine Zs (Rds 0 4) [] [zB 19 (decide (j<(↑L.length:Int)))] ?_
  refine cC (t:=decide (j<(↑L.length:Int))) (fun hlt=>?_) (fun hlt=>?_)
  ·have hlt2:j<L.length:=by simpa using hlt
   obtain⟨x,hx⟩:∃x,L[j.toNat]?=some x:=⟨_,List.getElem?_eq_getElem (by omega)⟩
   have hxc:=hinv.at hx
   refine J_stpx (stp_readrows 1 rfl j.toNat (map_at hxc)) fun ls hls=>?_
   obtain⟨hls1,hls2⟩:=hls
   obtain⟨⟨xa,xc⟩,rfl⟩:∃l0,ls=[l0]:=len1 hls1
   have f:=fun(j:Nat) v h=>hrow.atx (hls2 j v h)
   have r0:cu[0+j.toNat*7]?=some (.int .i64 x.no):=by rw[Nat.zero_add];exact f 0 _ rfl
   have r1:cu[0+j.toNat*7+1]?=some (.string x.key):=by rw[Nat.zero_add];exact f 1 _ rfl
   have r2:cu[0+j.toNat*7+2]?=some (.int .i64 x.kind):=by rw[Nat.zero_add];exact f 2 _ rfl
   have r3:cu[0+j.toNat*7+3]?=some (.string x.text):=by rw[Nat.zero_add];exact f 3 _ rfl
   have r4:cu[0+j.toNat*7+4]?=some (.int .i64 x.n):=by rw[Nat.zero_add];exact f 4 _ rfl
   have r5:cu[0+j.toNat*7+5]?=some (.bool x.remove):=by rw[Nat.zero_add];exact f 5 _ rfl
   have r6:cu[0+j.toNat*7+6]?=some (.slice xa (x.dots.map eDot).length xc):=by rw[Nat.zero_add];exact f 6 _ rfl
   try simp only[aQ]
   refine J_skip (J_seq (J_block ?_))
   refine Zu [zR 0,zR 1,.rd 2 [] 0 2,.rd 3 [.o 0 (some (nI x.no)),.o 0 (some (.string x.key)),.o 0 (some (nI x.kind)),.o 0 (some (.string x.text)),.o 0 (some (nI x.n)),.o 0 (some (.bool x.remove)),.o 0 (some (.slice xa ((List.map eDot x.dots).length) xc))] 0 0,.wr 4 [] 0,.wr 5 (hnO 1 7) 0] [(5,[])] [19] (fun nu1=>[zP 7 (nu1 0)]) o0 (fun nu1=>[(nu1 0,.cells #[nI x.no,.string x.key,nI x.kind,.string x.text,nI x.n,.bool x.remove,.slice xa ((List.map eDot x.dots).length) xc] 55 (0,0))]) (fun nu1=>(oC (show 0≤j from by omega) (oC hlt2 (oC r0 (oC r1 (oC r2 (oC r3 (oC r4 (oC r5 (oC r6 oN)))))))))) (fun nu1=>?_)
   refine jS [(0,true),(1,true),(2,false),(3,true)] [] ?_
   refine Ya [zR 0,.rd 1 (hnO 1 7) 0 0] [] [zV 26 (.func (.func 147) #[] #[.pointer (sA b3 0),.pointer (sA b5 0)]),zV 27 (.agg #[nI x.no,.string x.key,nI x.kind,.string x.text,nI x.n,.bool x.remove,.slice xa ((List.map eDot x.dots).length) xc])] ?_
   refine JR_call [] [0] 147 #[.agg #[.int .i64 x.no,.string x.key,.int .i64 x.kind,.string x.text,.int .i64 x.n,.bool x.remove,.slice xa ((List.map eDot x.dots).length) xc],.pointer (some (⟨b3,0,none⟩)),.pointer (some (⟨b5,0,none⟩))] (some 28) (by kernel_rfl) (by kernel_rfl) (by decide) (fun w S M hP hG _=>?_)
   refine(part1 (op:=x) rfl (hG.at 0 rfl) (hG.at 1 rfl) (hG.at 2 rfl) hP s1 s6).mono ?_
   rintro e w2 hR
   refine⟨_,_,_,hR,?_⟩
   try simp only[aQ]
   refine Ya [zR 3] [28,26,27] [zB 29 (!!inS shards sh x)] ?_
   try simp only[aQ]
   refine JR_end ?_
   try simp only[aQ]
   refine cC (t:=!!inS shards sh x) (fun hb=>?_) (fun hb=>?_)
   ·have hkeep:inS shards sh x=true:=by simpa using hb
    have hsz:=hrow.siz
    have hll:=hinv.len
    have hi7:0+i2.toNat*7+7≤cu.size:=by omega
    try simp only[aQ]
    refine J_seq ?_
    try simp only[aQ]
    refine jT [(0,true),(1,true),(2,true),(3,true),(4,false)] [] ?_
    refine Yp [zR 0,zR 1,.rd 2 (hnO 1 7) 0 0,.rd 3 [] 0 2] [29] [zV 32 (.agg #[nI x.no,.string x.key,nI x.kind,.string x.text,nI x.n,.bool x.remove,.slice xa ((List.map eDot x.dots).length) xc]),zV 33 (.pointer (sA g (0+i2.toNat*7)))] (oC hi0 (oC (show i2<(↑L.length:Int) from by omega) oN)) ?_
    refine JR_storerow 0 g (0+i2.toNat*7) 55 55 (.agg #[.int .i64 x.no,.string x.key,.int .i64 x.kind,.string x.text,.int .i64 x.n,.bool x.remove,.slice xa ((List.map eDot x.dots).length) xc]) [.int .i64 x.no,.string x.key,.int .i64 x.kind,.string x.text,.int .i64 x.n,.bool x.remove,.slice xa ((List.map eDot x.dots).length) xc] none (by kernel_rfl) (by kernel_rfl) (by kernel_rfl) rfl rfl rfl hi7 (by simp[Value.oneCell']) ?_
    try simp only[aQ]
    refine JR_end ?_
    try simp only[aQ]
    rw[Nat.zero_add]
    refine J_stp (stp_putrow 0 i2.toNat (vs:=[.int .i64 x.no,.string x.key,.int .i64 x.kind,.string x.text,.int .i64 x.n,.bool x.remove,.slice xa (x.dots.map eDot).length xc]) (row:=eOp x) rfl (by rw[hrow.len,List.length_map,hll]) (by rw[List.length_map];omega) rfl ⟨.inl ⟨rfl,rfl⟩,.inl ⟨rfl,rfl⟩,.inl ⟨rfl,rfl⟩,.inl ⟨rfl,rfl⟩,.inl ⟨rfl,rfl⟩,.inl ⟨rfl,rfl⟩,.inr (.inl (List.mem_of_getElem? (i:=3) rfl)),trivial⟩) ?_
    rw[show(List.map eOp Lc).set i2.toNat (eOp x)=List.map eOp (Lc.set i2.toNat x) from List.map_set.symm]
    refine Zp [zR 0,.rd 1 [] 0 1,zR 2] [] [zI 5 (i2+1)] (oC (show IntKind.i64.wrap (i2+1)=i2+1 from wrap_i64 (by omega) (by omega)) oN) ?_
    refine J_eb ?_
    refine Zp [zR 0,.rd 1 [] 0 1,zR 2] [] [zI 6 (j+1)] (oC (show IntKind.i64.wrap (j+1)=j+1 from wrap_i64 (by omega) (by omega)) oN) ?_
    refine J_backx ⟨i2+1,j+1,_,_,Lc.set i2.toNat x⟩ [0,1,4,5,6] [0] [1,0] [0,1,2] ?_ ?_ (by kernel_rfl) rfl rfl rfl
    ·exact⟨by simp only;omega,by simp only;omega,by simp only;omega,hrow.turn (by omega) rfl,hinv.keep hi0 hij hlt2 hx hkeep⟩
    ·simp only
     omega
   ·have hdel:inS shards sh x=false:=by simpa using hb
    try simp only[aQ]
    refine J_skip ?_
    try simp only[aQ]
    refine J_eb ?_
    try simp only[aQ]
    refine Zp [zR 0,.rd 1 [] 0 1,zR 2] [29] [zI 6 (j+1)] (oC (show IntKind.i64.wrap (j+1)=j+1 from wrap_i64 (by omega) (by omega)) oN) ?_
    try simp only[aQ]
    refine J_backx ⟨i2,j+1,cu,xs,Lc⟩ [0,1,4,5,6] [0] [1,0] [0,1,2] ?_ ?_ (by kernel_rfl) rfl rfl rfl
    ·exact⟨hi0,by simp only;omega,by simp only;omega,hrow,hinv.skip (by omega) hx hdel⟩
    ·simp only
     omega
  ·have hjl:j=L.length:=by simp at hlt;omega
   have hsz:=hrow.siz
   have hll:=hinv.len
   have hil:i2<L.length:=by omega
   have hic:i2<c:=by omega
   have hfin:Lc.take i2.toNat=L.filter (inS shards sh):=by
    rw[hinv.take,hjl,List.take_of_length_le (by simp)]
   have hcl:0+i2.toNat*7+(L.length - i2.toNat)*7≤cu.size:=by omega
   refine J_exit rfl ?_
   refine jS [(0,true),(1,true),(2,true),(3,false)] [] ?_
   refine Yp [zR 0,zR 1,.rd 2 [] 0 4] [19,1,6] [zS 38 (sA g (0+i2.toNat*7)) (L.length - i2.toNat) (c - i2.toNat)] (oC hi0 (oC (show i2≤(↑L.length:Int) from by omega) (oC hic oN))) ?_
   refine JR_clear (size:=7) (bytes:=88) 0 g (0+i2.toNat*7) (L.length - i2.toNat) (c - i2.toNat) 33 55 (.agg #[.int .i64 0,.string (ByteArray.mk #[]),.int .i64 0,.string (ByteArray.mk #[]),.int .i64 0,.bool false,.slice none 0 0]) none (by kernel_rfl) (by kernel_rfl) (by kernel_rfl) (by kernel_rfl) (by omega) rfl rfl hcl (by simp[Value.cells,Value.oneCell']) (fun vs1 hvs1=>?_)
   refine JR_end (J_seq ?_)
   rw[Nat.zero_add]
   refine J_stp (stp_cutrows 1 i2.toNat rfl) ?_
   refine J_hide 0 rfl ?_
   refine Nm [cObj b (.cells #[.pointer (sA vb 0),nI id,nI places,nI shards,nI clock,o,i] 124 (0,0)),(cRows (List.take (i2.toNat*7) xs) 7 (List.take i2.toNat (List.map eOp Lc))),cObj g (.cells (seg cu (i2.toNat*7) vs1) 55 (0,0))] ?_
   rw[show List.take i2.toNat (List.map eOp Lc)=List.map eOp (L.filter (inS shards sh))by rw[←List.map_take,hfin]]
   have hrow2:=hrow.clr (i:=i2.toNat) (by omega) hvs1
   have hkl:(List.map eOp (L.filter (inS shards sh))).length=i2.toNat:=by rw[←hfin];simp;omega
   refine J_stp (stp_closeacc 2 1 rfl rfl (by rw[hkl];exact hrow2) (by decide)) ?_
   rw[hkl]
   try simp only[aQ]
   refine Zp [zR 0,zR 1,.rd 2 [] 0 4,zR 3] [38,0,5] [zS 4 (sA g 0) i2.toNat c] (oC hi0 (oC (show i2≤(↑c:Int) from by omega) oN)) ?_
   try simp only[aQ]
   refine Yr [[]] (.slice (sA g 0) i2.toNat c) fun a w s=>?_
   exact⟨_,_,_,s.ret (by simp) [1,0] [] rfl rfl⟩
end Go.Proofs.YtmkapocibaojdaaGreatDoor
end
