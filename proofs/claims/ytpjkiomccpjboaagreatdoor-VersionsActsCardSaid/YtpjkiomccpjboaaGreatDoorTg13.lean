/- Part 13 of the texts of a claim: RefO RKeys Stored VParts ActsP. -/
import Derived.Test.YtpjkiomccpjboaaGreatDoorTg12
section
namespace Go.Sx
open Go
theorem firsts_dots {p:List DoneT} {d:DotT}:d∈(firsts [] p).map (·.d)↔d∈p.map (·.d):=by
 rw[List.mem_map,List.mem_map]
 constructor
 ·rintro⟨x,hx,rfl⟩
  exact⟨x,(firsts_sub hx).1,rfl⟩
 ·rintro⟨x,hx,rfl⟩
  exact firsts_has hx (by simp)
theorem memStep {A:List DoneT} {d:DotT} {j:Int} {y:DoneT} (hj:0≤j) (hy:A[j.toNat]?=some y) (h:(y.d.place=d.place∧y.d.time=d.time∧y.d.no=d.no)∨d∈(A.take j.toNat).map (·.d)):decide (d∈(A.take (j+1).toNat).map (·.d))=true:=by
 rw[decide_eq_true_eq,←take_snoc hj hy,List.map_append,List.mem_append]
 rcases h with ⟨h1,h2,h3⟩|h
 ·refine .inr ?_
  rw[List.map_singleton,List.mem_singleton]
  cases d;cases hyd:y.d
  simp_all
 ·exact .inl h
theorem memSkip {A:List DoneT} {d:DotT} {j:Int} {y:DoneT} (hj:0≤j) (hy:A[j.toNat]?=some y) (h:y.d.place=d.place→y.d.time=d.time→¬y.d.no=d.no):decide (d∈(A.take (j+1).toNat).map (·.d))=decide (d∈(A.take j.toNat).map (·.d)):=by
 rw[←take_snoc hj hy,List.map_append]
 have:d∉[y].map (·.d):=fun hm=>by
  rw[List.map_singleton,List.mem_singleton]at hm
  subst hm
  exact h rfl rfl rfl
 simp only[List.mem_append,this,or_false]
set_option maxHeartbeats 4000000 in
theorem stp_keep {h r:List (Nat×Obj)} {F:List (List Nat×World)} {S0:Nat→Prop} {C0:List Chunk} {G0:List (Value×D)} (p:Nat) {v:Value} {d:D} (hp:G0[p]?=some (v,d)):Stp h r F ⟨S0,C0,G0⟩ (fun _:Unit=>True) fun _=>⟨S0,C0++[cRep v d],G0⟩:=by
 intro w fps hO H
 have e:(fps++[[]]).flatten=fps.flatten:=by simp
 refine⟨(),fps++[[]],trivial,fun b hb=>by rwa[e]at hb,H.less (fun b hb=>by rwa[e]at hb) (by rw[e];exact H.nodup) ?_ fun x hx=>(H.g x hx).mono fun b hb _=>⟨Sd_sub (fun b hb=>by rwa[e]at hb) hb,rfl⟩⟩
 exact(H.chs.app (show Chs w (Sd ⟨S0,C0,G0⟩ h fps) [cRep v d] [[]] from⟨⟨rfl,H.g _ (List.mem_of_getElem? hp)⟩,trivial⟩)).mono (fun _ _=>rfl) fun b hb _=>⟨Sd_sub (fun b hb=>by rwa[e]at hb) hb,rfl⟩
set_option maxHeartbeats 4000000 in
theorem stp_good {h r:List (Nat×Obj)} {F:List (List Nat×World)} {S0:Nat→Prop} {C0:List Chunk} {G0:List (Value×D)} (q:Nat) {a:Option Addr} {m c e k:Nat} {rows:List (List D)} (hq:C0[q]?=some (cAcc (.slice a m c) e k rows)):Stp h r F ⟨S0,C0,G0⟩ (fun _:Unit=>GoodS a c) fun _=>⟨S0,C0,G0⟩:=stp_know fun w fps H=>by
 obtain⟨fp,_,hP⟩:=H.chs.at hq
 obtain⟨a',c',he,hg⟩:=acc_good hP
 cases he
 exact hg
theorem insG_len {α:Type} (lt:α→α→Bool) (l:List α) (x:α):(insG lt l x).length=l.length+1:=by
 unfold insG
 have h:=congrArg List.length (List.takeWhile_append_dropWhile (p:=fun y=>lt y x) (l:=l))
 rw[List.length_append]at h
 rw[List.length_append,List.length_cons]
 omega
theorem insG_flen {α:Type} (lt:α→α→Bool):∀(l p:List α),(l.foldl (insG lt) p).length=p.length+l.length
 | [],p=>by simp
 | x::l,p=>by
  rw[List.foldl_cons,insG_flen lt l,insG_len,List.length_cons]
  omega
structure OpsR where
 j:Int
 b:Bool
structure OutR where
 i:Int
 a:Option Addr
 n:Nat
 c:Nat
end Go.Sx
namespace Go.Proofs.YtpjkiomccpjboaaGreatDoor
open Go Go.Sx
set_option maxHeartbeats 4000000 in
theorem rOpsOf {w:World} {S:Nat→Prop} {a:Option Addr} {n c:Nat} {key:ByteArray} {l:List ComT} (h:Rep w S (.slice a n c) (.sl 3 (l.map eCom))) (hl:l.length≤300000) (hf:(listFault l).code=0) :
  Calls Tryz.prog 70 #[.string key,.slice a n c] w fun e w'=>∃ua un uc,Ret [] w S w' e (.slice ua un uc) [] [(.slice ua un uc,.sl 11 ((ofKey key l).map eDone))]:=by
 have e1:=h.slen
 rw[List.length_map]at e1
 subst e1
 have hno:=listFault_zero hf
 have hright:∀x∈l,Right x:=fun x hx=>by
  obtain⟨j,hj⟩:=List.getElem?_of_mem hx
  exact right_of (comErrAt_zero hj (hno j (List.getElem?_eq_some_iff.1 hj).1)).1
 refine epG Tryz.func70 bd70 (args:=[.string key,.slice a l.length c]) (S:=S) (G:=[(_,.sl 3 (l.map eCom))]) (by kernel_rfl) (.cons h (.nil _ _)) ?_
 refine J_stp (stp_accm eDone 126 11) ?_
 try simp only[aQ]
 refine Zs [zR 0] [] [zS 4 none 0 0] ?_
 refine Zs [zR 0] [] [zS 5 none 0 0] ?_
 refine J_seq ?_
 refine Zs [zR 0] [] [zI 6 0] ?_
 refine J_block ?_
 refine J_loopx (fun x:AccI=>[zV 0 (.string key),zS 1 a l.length c,zS 4 none 0 0,zS 5 x.a x.k x.c,zI 6 x.i]) (fun x:AccI=>[]) (fun x:AccI=>[cAcc (.slice x.a x.k x.c) 126 11 ((firsts [] (allDone (l.take x.i.toNat))).map eDone)]) (fun x:AccI=>[(.slice a l.length c,(D.sl 3 (List.map eCom l)))]) (fun x:AccI=>(l.length - x.i).toNat) (fun x:AccI=>(0≤x.i∧x.i≤l.length)) ⟨0,none,0,0⟩ [0,1,4,5,6] [] [0] [0] ?_ (by kernel_rfl) rfl rfl rfl ?_
 ·exact⟨by simp,by simp⟩
 rintro⟨i,av,k,cv⟩ ⟨hi0,hi⟩
 dsimp only at hi0 hi ⊢
 refine J_seq ?_
 refine Zs (Rds 0 4) [] [zB 21 (decide (i<(↑l.length:Int)))] ?_
 refine cC (t:=decide (i<(↑l.length:Int))) (fun hlt=>?_) (fun hlt=>?_)
 ·have hlt2:i<l.length:=by simpa using hlt
  obtain⟨x,hx⟩:∃x,l[i.toNat]?=some x:=⟨_,List.getElem?_eq_getElem (by omega)⟩
  have hrt:=hright x (List.mem_of_getElem? hx)
  obtain⟨t,ht⟩:∃t,x.when[x.place.toNat]?=some t:=⟨_,List.getElem?_eq_getElem (by have:=hrt.p0;have:=hrt.p1;omega)⟩
  have ho12:=hrt.o2
  have hp0:=hrt.p0
  have hp1:=hrt.p1
  refine J_read2 0 rfl i.toNat (map_at hx) (by kernel_rfl) (fun b1 off1 cs1 ty1 fz1 a1_0 c1_0 a1_1 c1_1 ha1 hrd1=>?_)
  cases ha1
  have hrd1_0:=rd0 (hrd1 0 _ rfl)
  have hrd1_1:=hrd1 1 _ rfl
  have hrd1_2:=hrd1 2 _ rfl
  try simp only[aQ]
  refine J_skip (J_seq (J_block ?_))
  refine Zs [zR 0] [21] [zI 7 0] ?_
  refine J_block ?_
  have e0:firsts [] (allDone (l.take i.toNat))=firsts [] (allDone (l.take i.toNat)++(x.ops.take (0:Int).toNat).map (doneOf x)):=by simp
  rw[e0]
  refine J_loopx (fun y:AccI=>[zV 0 (.string key),zS 1 (sA b1 off1) l.length c,zS 4 none 0 0,zS 5 y.a y.k y.c,zI 6 i,zI 7 y.i]) (fun y:AccI=>[]) (fun y:AccI=>[cAcc (.slice y.a y.k y.c) 126 11 ((firsts [] (allDone (l.take i.toNat)++(x.ops.take y.i.toNat).map (doneOf x))).map eDone)]) (fun y:AccI=>[(.slice (sA b1 off1) l.length c,(D.sl 3 (List.map eCom l))),(.slice (a1_0,c1_0).fst ((List.map eI x.when).length) c1_0,(D.sl 1 (List.map eI x.when))),(.slice (a1_1,c1_1).fst ((List.map eOp x.ops).length) c1_1,(D.sl 7 (List.map eOp x.ops)))]) (fun y:AccI=>(x.ops.length - y.i).toNat) (fun y:AccI=>(0≤y.i∧y.i≤x.ops.length)) ⟨0,av,k,cv⟩ [0,1,4,5,6,7] [] [0] [0,1,2] ?_ (by kernel_rfl) rfl rfl rfl ?_
  ·exact⟨by simp,by simp⟩
  rintro⟨q,av1,k1,cv1⟩ ⟨hq0,hq⟩
  dsimp only at hq0 hq ⊢
  generalize hALL:firsts [] (allDone (l.take i.toNat)++(x.ops.take q.toNat).map (doneOf x))=ALL
  have hA12:ALL.length≤4000000:=by
   have h1:=firsts_len [] (allDone (l.take i.toNat)++(x.ops.take q.toNat).map (doneOf x))
   have h2:=allDone_len (l:=l.take i.toNat) fun c hc=>hright c (List.mem_of_mem_take hc)
   rw[hALL,List.length_append,List.length_map,List.length_take]at h1
   rw[List.length_take]at h2
   omega
  refine J_stpx (stp_acclen 0 rfl) fun _ hk=>?_
  rw[List.length_map]at hk
  subst hk
  refine J_seq ?_
  refine Zt (Rds 0 3++[.rd 3 [] 0 2,zR 4,.rd 5 [.r 0 (some (.slice (a1_1,c1_1).fst ((List.map eOp x.ops).length) c1_1))] 0 0,zR 6,zR 7]) [] [zB 31 (decide (q<(↑(List.map eOp x.ops).length:Int)))] [0≤i,i<(↑l.length:Int),cs1[off1+i.toNat*3+(2:Nat)]?=some (Value.slice (a1_1,c1_1).fst (List.map eOp x.ops).length (a1_1,c1_1).snd)] ⟨hi0,hlt2,hrd1_2,trivial⟩ ?_
  refine cC (t:=decide (q<(↑(List.map eOp x.ops).length:Int))) (fun hlt1=>?_) (fun hlt1=>?_)
  ·have hlt3:q<x.ops.length:=by simpa using hlt1
   obtain⟨o,ho⟩:∃o,x.ops[q.toNat]?=some o:=⟨_,List.getElem?_eq_getElem (by omega)⟩
   have hdo:doneOf x o=⟨o,⟨x.place,t,o.no⟩,sumL x.when⟩:=by simp[doneOf,dotOf,List.getD_eq_getElem?_getD,ht,wsum,sumL]
   have hstep:firsts [] (allDone (l.take i.toNat)++(x.ops.take (q+1).toNat).map (doneOf x))=ALL++if (⟨x.place,t,o.no⟩:DotT)∈ALL.map (·.d)then []else [⟨o,⟨x.place,t,o.no⟩,sumL x.when⟩]:=by
    rw[←take_snoc hq0 ho,List.map_append,←List.append_assoc,List.map_singleton,hdo,firsts_snoc,hALL]
    have h1:((⟨x.place,t,o.no⟩:DotT)∈([]:List DotT)∨(⟨x.place,t,o.no⟩:DotT)∈(allDone (l.take i.toNat)++(x.ops.take q.toNat).map (doneOf x)).map (·.d))↔(⟨x.place,t,o.no⟩:DotT)∈ALL.map (·.d):=by
     rw[←hALL,firsts_dots]
     simp
    by_cases h2:(⟨x.place,t,o.no⟩:DotT)∈ALL.map (·.d)
    ·rw[if_pos h2,if_pos (h1.2 h2)]
    ·rw[if_neg h2,if_neg fun h=>h2 (h1.1 h)]
   refine J_read1 2 rfl q.toNat (map_at ho) (by kernel_rfl) (fun b2 off2 cs2 ty2 fz2 a2_0 c2_0 ha2 hrd2=>?_)
   cases ha2
   have hrd2_0:=rd0 (hrd2 0 _ rfl)
   have hrd2_1:=hrd2 1 _ rfl
   have hrd2_2:=hrd2 2 _ rfl
   have hrd2_3:=hrd2 3 _ rfl
   have hrd2_4:=hrd2 4 _ rfl
   have hrd2_5:=hrd2 5 _ rfl
   have hrd2_6:=hrd2 6 _ rfl
   refine J_read0 1 rfl x.place.toNat (map_at ht) (by kernel_rfl) (fun b3 off3 cs3 ty3 fz3 ha3 hrd3=>?_)
   cases ha3
   have hrd3_0:=rd0 (hrd3 0 _ rfl)
   try simp only[aQ]
   refine J_skip (J_seq (J_block ?_))
   refine Zu [zR 0,zR 1,.rd 2 [] 0 2,zR 3,.rd 4 [.r 0 (some (.slice (sA b2 off2) ((List.map eOp x.ops).length) c1_1))] 0 0,zR 5,.rd 6 [] 0 2,.rd 7 [.r 1 (some (nI o.no)),.r 1 (some (.string o.key)),.r 1 (some (nI o.kind)),.r 1 (some (.string o.text)),.r 1 (some (nI o.n)),.r 1 (some (.bool o.remove)),.r 1 (some (.slice (a2_0,c2_0).fst ((List.map eDot o.dots).length) c2_0))] 0 0,.wr 8 [] 0,.wr 9 (hnO 0 7) 0] [(9,[])] [31] (fun nu1=>[zP 8 (nu1 0)]) (fun nu1=>[(nu1 0,.cells #[nI o.no,.string o.key,nI o.kind,.string o.text,nI o.n,.bool o.remove,.slice (a2_0,c2_0).fst ((List.map eDot o.dots).length) c2_0] 24 (0,0))]) (fun nu1=>[0≤i,i<(↑l.length:Int),cs1[off1+i.toNat*3+(2:Nat)]?=some (Value.slice (some (Addr.mk b2 off2 none),c1_1).fst (List.map eOp x.ops).length (some (Addr.mk b2 off2 none),c1_1).snd),0≤q,q<(↑(List.map eOp x.ops).length:Int),cs2[off2+q.toNat*7]?=some (nI o.no),cs2[off2+q.toNat*7+(1:Nat)]?=some (Value.string o.key),cs2[off2+q.toNat*7+(2:Nat)]?=some (nI o.kind),cs2[off2+q.toNat*7+(3:Nat)]?=some (Value.string o.text),cs2[off2+q.toNat*7+(4:Nat)]?=some (nI o.n),cs2[off2+q.toNat*7+(5:Nat)]?=some (Value.bool o.remove),cs2[off2+q.toNat*7+(6:Nat)]?=some (Value.slice (a2_0,c2_0).fst (List.map eDot o.dots).length (a2_0,c2_0).snd)]) (fun _=>⟨hi0,hlt2,hrd1_2,hq0,by simp;omega,hrd2_0,hrd2_1,hrd2_2,hrd2_3,hrd2_4,hrd2_5,hrd2_6,trivial⟩) (fun nu1=>?_)
   refine J_seq ?_
   refine J_fork mixed 26 [(0,true),(1,true),(2,true),(3,true),(4,true),(5,true),(6,true),(7,true),(8,true),(9,true),(10,true),(11,true),(12,true),(13,true),(14,true),(15,true),(16,true),(17,true),(18,true),(19,true),(20,true),(21,true),(22,true),(23,true),(24,true),(25,true),(26,false),(27,true),(28,false),(29,false)] [(0,true),(1,true),(2,true),(3,true),(4,true),(5,true),(6,true),(7,true),(8,true),(9,true),(10,true),(11,true),(12,true),(13,true),(14,true),(15,true),(16,true),(17,true),(18,true),(19,true),(20,true),(21,true),(22,true),(23,true),(24,true),(25,true),(28,false),(26,false),(27,true),(29,false)] [(29,[])] (by kernel_rfl) (by kernel_rfl) ?_ ?_
   ·refine Yp (id:=9) (rest:=[(26,false),(27,true),(28,false),(29,false)]) ([.rd 0 [.o 0 none,.o 0 none,.o 0 none,.o 0 none,.o 0 none,.o 0 none,.o 0 none] 0 0,.rd 1 [] 0 0,.rd 2 [] 0 0,.rd 3 [] 0 2,.rd 4 [] 0 0,.rd 5 [.r 0 (some (.int .i64 x.place))] 0 0,.rd 6 [] 0 0,.rd 7 [] 0 0,.rd 8 [] 0 2,.rd 9 [] 0 0,.rd 10 [.r 0 (some (.slice (some (⟨b3,off3,none⟩)) ((List.map eI x.when).length) c1_0))] 0 0,.rd 11 [] 0 0,.rd 12 [] 0 0,.rd 13 [] 0 2,.rd 14 [] 0 0,.rd 15 [.r 0 (some (.int .i64 x.place))] 0 0,.rd 16 [] 0 2,.rd 17 [.r 2 (some (.int .i64 t))] 0 0,.rd 18 [] 0 0,.rd 19 [.o 0 none] 0 0]++Rds 20 23++[.rd 23 [] 0 2,.rd 24 [] 0 0,.rd 25 [.r 0 (some (.slice (some (⟨b3,off3,none⟩)) ((List.map eI x.when).length) c1_0))] 0 0]) [] [(42,.val (.agg #[.int .i64 o.no,.string o.key,.int .i64 o.kind,.string o.text,.int .i64 o.n,.bool o.remove,.slice (a2_0,c2_0).fst ((List.map eDot o.dots).length) c2_0])),(62,.val (.agg #[.int .i64 x.place,.int .i64 t,.int .i64 o.no])),(67,.val (.slice (some (⟨b3,off3,none⟩)) ((List.map eI x.when).length) c1_0))] [(0:Int)≤i,i<(↑l.length:Int),cs1[off1+i.toNat*(3:Nat)+(1:Nat)]?=some (Value.int IntKind.i64 x.place),(0:Int)≤i,i<(↑l.length:Int),cs1[off1+i.toNat*(3:Nat)]?=some (Value.slice (some (Addr.mk b3 off3 none),c1_0).fst (List.map eI x.when).length (some (Addr.mk b3 off3 none),c1_0).snd),(0:Int)≤i,i<(↑l.length:Int),cs1[off1+i.toNat*(3:Nat)+(1:Nat)]?=some (Value.int IntKind.i64 x.place),(0:Int)≤x.place,x.place<(↑(List.map eI x.when).length:Int),cs3[off3+x.place.toNat*(1:Nat)]?=some (Value.int IntKind.i64 t),(0:Int)≤i,i<(↑l.length:Int),cs1[off1+i.toNat*(3:Nat)]?=some (Value.slice (some (Addr.mk b3 off3 none),c1_0).fst (List.map eI x.when).length (some (Addr.mk b3 off3 none),c1_0).snd)] ⟨hi0,hlt2,hrd1_1,hi0,hlt2,hrd1_0,hi0,hlt2,hrd1_1,hp0,by simp;omega,hrd3_0,hi0,hlt2,hrd1_0,trivial⟩ ?_
    refine Yc 106 #[.slice (sA b3 off3) ((List.map eI x.when).length) c1_0] (some 68) fun w S hG=>?_
    refine(rWeight (hG.at 1 rfl) hrt.vec).mono ?_
    rintro e2 w2 hR
    refine⟨_,_,_,hR,?_⟩
    try simp only[aQ]
    refine Ym (id:=9) (rest:=[]) [zR 27,.wr 28 [] 0,.wr 29 (hnO 1 11) 0] [68,42,62,67] (fun nu2=>[zP 9 (nu2 0)]) (fun nu2=>[(nu1 0,.cells #[nI o.no,.string o.key,nI o.kind,.string o.text,nI o.n,.bool o.remove,.slice a2_0 ((List.map eDot o.dots).length) c2_0] 24 (0,0)),(nu2 0,.cells #[nI o.no,.string o.key,nI o.kind,.string o.text,nI o.n,.bool o.remove,.slice a2_0 ((List.map eDot o.dots).length) c2_0,nI x.place,nI t,nI o.no,nI (sumL x.when)] 126 (0,0))]) [] (fun nu2=>?_)
    refine JR_end ?_
    refine Zs [zR 0] [] [zB 10 false] ?_
    refine J_seq ?_
    refine Zs [zR 0] [] [zI 11 0] ?_
    refine J_block ?_
    refine J_loopx (fun z:OpsR=>[zV 0 (.string key),zS 1 (sA b1 off1) l.length c,zS 4 none 0 0,zS 5 av1 ALL.length cv1,zI 6 i,zI 7 q,zP 8 (nu1 0),zP 9 (nu2 0),zB 10 z.b,zI 11 z.j]) (fun z:OpsR=>[(nu1 0,.cells #[nI o.no,.string o.key,nI o.kind,.string o.text,nI o.n,.bool o.remove,.slice a2_0 ((List.map eDot o.dots).length) c2_0] 24 (0,0)),(nu2 0,.cells #[nI o.no,.string o.key,nI o.kind,.string o.text,nI o.n,.bool o.remove,.slice a2_0 ((List.map eDot o.dots).length) c2_0,nI x.place,nI t,nI o.no,nI (sumL x.when)] 126 (0,0))]) (fun z:OpsR=>[cAcc (.slice av1 ALL.length cv1) 126 11 (ALL.map eDone)]) (fun z:OpsR=>[(.slice (sA b1 off1) l.length c,(D.sl 3 (List.map eCom l))),(.slice (sA b3 off3) ((List.map eI x.when).length) c1_0,(D.sl 1 (List.map eI x.when))),(.slice (sA b2 off2) ((List.map eOp x.ops).length) c1_1,(D.sl 7 (List.map eOp x.ops))),(.slice (a2_0,c2_0).fst ((List.map eDot o.dots).length) c2_0,(D.sl 3 (List.map eDot o.dots)))]) (fun z:OpsR=>(ALL.length - z.j).toNat) (fun z:OpsR=>(0≤z.j∧z.j≤ALL.length∧z.b=decide ((⟨x.place,t,o.no⟩:DotT)∈(ALL.take z.j.toNat).map (·.d)))) ⟨0,false⟩ [0,1,4,5,6,7,8,9,10,11] [0,1] [0] [0,1,2,3] ?_ (by kernel_rfl) rfl rfl rfl ?_
    ·exact⟨by simp,by simp,by simp⟩
    rintro⟨j,b⟩ ⟨hj0,hj,hb⟩
    dsimp only at hj0 hj hb ⊢
    refine J_seq ?_
    refine Zs (Rds 0 4) [] [zB 73 (decide (j<(↑ALL.length:Int)))] ?_
    refine cC (t:=decide (j<(↑ALL.length:Int))) (fun hlt2=>?_) (fun hlt2=>?_)
    ·have hlt4:j<ALL.length:=by simpa using hlt2
     obtain⟨y,hy⟩:∃y,ALL[j.toNat]?=some y:=⟨_,List.getElem?_eq_getElem (by omega)⟩
     refine J_openacc 0 rfl (by intro h0;rw[List.map_eq_nil_iff]at h0;rw[h0]at hy;simp at hy) fun g cur xs hu _ _ hrow=>?_
     subst hu
     refine J_stpx (stp_readrows 0 rfl j.toNat (map_at hy)) fun ls hls=>?_
     obtain⟨hls1,hls2⟩:=hls
     obtain⟨⟨xa,xc⟩,rfl⟩:∃l0,ls=[l0]:=len1 hls1
     have f:=fun(j:Nat) v h=>hrow.atx (hls2 j v h)
     have r7:cur[0+j.toNat*11+7]?=some (.int .i64 y.d.place):=by rw[Nat.zero_add];exact f 7 _ rfl
     have r8:cur[0+j.toNat*11+8]?=some (.int .i64 y.d.time):=by rw[Nat.zero_add];exact f 8 _ rfl
     have r9:cur[0+j.toNat*11+9]?=some (.int .i64 y.d.no):=by rw[Nat.zero_add];exact f 9 _ rfl
     try simp only[aQ]
     refine J_skip ?_
     try simp only[aQ]
     refine J_seq ?_
     try simp only[aQ]
     refine J_block ?_
     try simp only[aQ]
     refine J_seq ?_
     try simp only[aQ]
     refine Zp [zR 0,zR 1,.rd 2 [] 0 2,zR 3,.rd 4 [.o 2 (some (nI y.d.place)),.o 2 (some (nI y.d.time)),.o 2 (some (nI y.d.no))] 0 0,zR 5,.rd 6 (hnO 1 3) 0 0,.rd 7 [.r 0 (some (.bool (decide (y.d.place=x.place∧y.d.time=t∧y.d.no=o.no))))] 0 10] [73] [zB 83 (decide (y.d.place=x.place∧y.d.time=t∧y.d.no=o.no))] [0≤j,j<(↑ALL.length:Int),cur[(0:Nat)+j.toNat*11+(7:Nat)]?=some (nI y.d.place),cur[(0:Nat)+j.toNat*11+(8:Nat)]?=some (nI y.d.time),cur[(0:Nat)+j.toNat*11+(9:Nat)]?=some (nI y.d.no),eqRun Tryz.prog .eql 65 (Operand.tmp 80) (Operand.tmp 82) (.agg #[nI y.d.place,nI y.d.time,nI y.d.no]) (.agg #[nI x.place,nI t,nI o.no]) (.bool (decide (y.d.place=x.place∧y.d.time=t∧y.d.no=o.no)))] ⟨hj0,hlt4,r7,r8,r9,eqRun_eql_65,trivial⟩ ?_
     try simp only[aQ]
     refine J_hide 2 rfl ?_
     refine J_stp (stp_closeacc 1 0 rfl rfl hrow (by decide)) ?_
     rw[show(List.map eDone ALL).length=ALL.length from List.length_map ..]
     refine cC (t:=decide (y.d.place=x.place∧y.d.time=t∧y.d.no=o.no)) (fun he=>?_) (fun he=>?_)
     ·try simp only[aQ]
      refine Za [zR 0] [83] [zB 10 true] ?_
      try simp only[aQ]
      refine J_eb ?_
      try simp only[aQ]
      refine Zp [zR 0,.rd 1 [] 0 1,zR 2] [] [zI 11 (j+1)] [IntKind.i64.wrap (j+1)=j+1] ⟨wrap_i64 (by omega) (by omega),trivial⟩ ?_
      try simp only[aQ]
      refine J_backx ⟨j+1,true⟩ [0,1,4,5,6,7,8,9,10,11] [0,1] [0] [0,1,2,3] ?_ ?_ (by kernel_rfl) rfl rfl rfl
      ·exact⟨by simp only;omega,by simp only;omega,(memStep hj0 hy (.inl (by simpa using he))).symm⟩
      ·simp only
       omega
     ·try simp only[aQ]
      refine J_skip ?_
      try simp only[aQ]
      refine J_eb ?_
      try simp only[aQ]
      refine Zp [zR 0,.rd 1 [] 0 1,zR 2] [83] [zI 11 (j+1)] [IntKind.i64.wrap (j+1)=j+1] ⟨wrap_i64 (by omega) (by omega),trivial⟩ ?_
      try simp only[aQ]
      refine J_backx ⟨j+1,b⟩ [0,1,4,5,6,7,8,9,10,11] [0,1] [0] [0,1,2,3] ?_ ?_ (by kernel_rfl) rfl rfl rfl
      ·exact⟨by simp only;omega,by simp only;omega,by dsimp only;rw[hb];exact(memSkip hj0 hy (by simpa using he)).symm⟩
      ·simp only
       omega
    ·have hjl:ALL.take j.toNat=ALL:=List.take_of_length_le (by simp at hlt2;omega)
     rw[hjl]at hb
     by_cases hmem:(⟨x.place,t,o.no⟩:DotT)∈ALL.map (·.d)
     ·rw[decide_eq_true hmem]at hb
      subst hb
      have e5:=hstep
      rw[if_pos hmem,List.append_nil]at e5
      refine J_exit rfl ?_
      refine Zs [zR 0,zR 1] [73] [zB 85 false] ?_
      refine cF ?_
      refine J_skip (J_eb ?_)
      refine Zp [zR 0,.rd 1 [] 0 1,zR 2] [85] [zI 7 (q+1)] [IntKind.i64.wrap (q+1)=q+1] ⟨wrap_i64 (by omega) (by omega),trivial⟩ ?_
      rw[←e5]
      refine J_backx ⟨q+1,_,_,_⟩ [0,1,4,5,6,7] [] [0] [0,1,2] ?_ ?_ (by kernel_rfl) rfl rfl rfl
      ·exact⟨by simp only;omega,by simp only;omega⟩
      ·simp only
       omega
     ·rw[decide_eq_false hmem]at hb
      subst hb
      have e5:=hstep
      rw[if_neg hmem]at e5
      refine J_exit rfl ?_
      refine Zs [zR 0,zR 1] [73] [zB 85 true] ?_
      refine cTt ?_
      refine jT [(0,true),(1,true),(2,false),(3,false),(4,true)] [] ?_
      refine Ym (id:=17) (rest:=[(3,false),(4,true)]) [zR 0,.rd 1 (hnO 1 11) 0 0,.wr 2 [] 0] [85] (fun nu3=>[zS 86 av1 ALL.length cv1,zS 88 (sA (nu3 0) 0) 1 1]) (fun nu3=>[(nu1 0,.cells #[nI o.no,.string o.key,nI o.kind,.string o.text,nI o.n,.bool o.remove,.slice a2_0 ((List.map eDot o.dots).length) c2_0] 24 (0,0)),(nu2 0,.cells #[nI o.no,.string o.key,nI o.kind,.string o.text,nI o.n,.bool o.remove,.slice a2_0 ((List.map eDot o.dots).length) c2_0,nI x.place,nI t,nI o.no,nI (sumL x.when)] 126 (0,0)),(nu3 0,.cells #[nI o.no,.string o.key,nI o.kind,.string o.text,nI o.n,.bool o.remove,.slice a2_0 ((List.map eDot o.dots).length) c2_0,nI x.place,nI t,nI o.no,nI (sumL x.when)] 126 (0,0))]) [] (fun nu3=>?_)
      refine JR_appm 0 123 126 11 120 (.agg #[.int .i64 0,.string (ByteArray.mk #[]),.int .i64 0,.string (ByteArray.mk #[]),.int .i64 0,.bool false,.slice none 0 0,.int .i64 0,.int .i64 0,.int .i64 0,.int .i64 0]) (a0:=av1) (len:=ALL.length) (cap0:=cv1) (ax:=(some (⟨nu3 0,0,none⟩))) (m:=1) (c:=1) (dst:=(some 89)) [(⟨o,⟨x.place,t,o.no⟩,sumL x.when⟩:DoneT)] (by kernel_rfl) (by kernel_rfl) (by kernel_rfl) (by kernel_rfl) rfl (by decide) rfl (fun _ _ _ s=>src_one s 2 rfl rfl ⟨.inl ⟨rfl,rfl⟩,⟨.inl ⟨rfl,rfl⟩,⟨.inl ⟨rfl,rfl⟩,⟨.inl ⟨rfl,rfl⟩,⟨.inl ⟨rfl,rfl⟩,⟨.inl ⟨rfl,rfl⟩,⟨.inr (.inl (List.mem_of_getElem? (i:=3) rfl)),⟨.inl ⟨rfl,rfl⟩,⟨.inl ⟨rfl,rfl⟩,⟨.inl ⟨rfl,rfl⟩,⟨.inl ⟨rfl,rfl⟩,trivial⟩⟩⟩⟩⟩⟩⟩⟩⟩⟩⟩) (by simp only[maxLen];omega) (by omega) (fun av2 cv2=>?_)
      rw[←e5]
      try simp only[aQ]
      refine Ya (id:=17) (rest:=[]) [zR 4] [89,86,88] [zS 5 av2 (ALL.length+1) cv2] ?_
      try simp only[aQ]
      refine JR_end ?_
      try simp only[aQ]
      refine J_eb ?_
      try simp only[aQ]
      refine Zp [zR 0,.rd 1 [] 0 1,zR 2] [] [zI 7 (q+1)] [IntKind.i64.wrap (q+1)=q+1] ⟨wrap_i64 (by omega) (by omega),trivial⟩ ?_
      try simp only[aQ]
      refine J_backx ⟨q+1,_,_,_⟩ [0,1,4,5,6,7] [] [0] [0,1,2] ?_ ?_ (by kernel_rfl) rfl rfl rfl
      ·exact⟨by simp only;omega,by simp only;omega⟩
      ·simp only
       omega
   ·refine Yn (id:=9) (rest:=[(26,false),(27,true),(29,false)]) ([.rd 0 [.o 0 none,.o 0 none,.o 0 none,.o 0 none,.o 0 none,.o 0 none,.o 0 none] 0 0,.rd 1 [] 0 0,.rd 2 [] 0 0,.rd 3 [] 0 2,.rd 4 [] 0 0,.rd 5 [.r 0 (some (.int .i64 x.place))] 0 0,.rd 6 [] 0 0,.rd 7 [] 0 0,.rd 8 [] 0 2,.rd 9 [] 0 0,.rd 10 [.r 0 (some (.slice (some (⟨b3,off3,none⟩)) ((List.map eI x.when).length) c1_0))] 0 0,.rd 11 [] 0 0,.rd 12 [] 0 0,.rd 13 [] 0 2,.rd 14 [] 0 0,.rd 15 [.r 0 (some (.int .i64 x.place))] 0 0,.rd 16 [] 0 2,.rd 17 [.r 2 (some (.int .i64 t))] 0 0,.rd 18 [] 0 0,.rd 19 [.o 0 none] 0 0]++Rds 20 23++[.rd 23 [] 0 2,.rd 24 [] 0 0,.rd 25 [.r 0 (some (.slice (some (⟨b3,off3,none⟩)) ((List.map eI x.when).length) c1_0))] 0 0,.wr 28 [] 0]) [] (fun nu2=>[(9,.val (.pointer (some (⟨nu2 0,0,none⟩)))),(42,.val (.agg #[.int .i64 o.no,.string o.key,.int .i64 o.kind,.string o.text,.int .i64 o.n,.bool o.remove,.slice (a2_0,c2_0).fst ((List.map eDot o.dots).length) c2_0])),(62,.val (.agg #[.int .i64 x.place,.int .i64 t,.int .i64 o.no])),(67,.val (.slice (some (⟨b3,off3,none⟩)) ((List.map eI x.when).length) c1_0))]) (fun nu2=>[(nu1 0,.cells #[.int .i64 o.no,.string o.key,.int .i64 o.kind,.string o.text,.int .i64 o.n,.bool o.remove,.slice (a2_0,c2_0).fst ((List.map eDot o.dots).length) c2_0] 24 (0,0)),(nu2 0,.cells #[.int .i64 0,.string (ByteArray.mk #[]),.int .i64 0,.string (ByteArray.mk #[]),.int .i64 0,.bool false,.slice none 0 0,.int .i64 0,.int .i64 0,.int .i64 0,.int .i64 0] 126 (0,0))]) [(29,[])] (fun nu2=>[(0:Int)≤i,i<(↑l.length:Int),cs1[off1+i.toNat*(3:Nat)+(1:Nat)]?=some (Value.int IntKind.i64 x.place),(0:Int)≤i,i<(↑l.length:Int),cs1[off1+i.toNat*(3:Nat)]?=some (Value.slice (some (Addr.mk b3 off3 none),c1_0).fst (List.map eI x.when).length (some (Addr.mk b3 off3 none),c1_0).snd),(0:Int)≤i,i<(↑l.length:Int),cs1[off1+i.toNat*(3:Nat)+(1:Nat)]?=some (Value.int IntKind.i64 x.place),(0:Int)≤x.place,x.place<(↑(List.map eI x.when).length:Int),cs3[off3+x.place.toNat*(1:Nat)]?=some (Value.int IntKind.i64 t),(0:Int)≤i,i<(↑l.length:Int),cs1[off1+i.toNat*(3:Nat)]?=some (Value.slice (some (Addr.mk b3 off3 none),c1_0).fst (List.map eI x.when).length (some (Addr.mk b3 off3 none),c1_0).snd)]) (fun _=>⟨hi0,hlt2,hrd1_1,hi0,hlt2,hrd1_0,hi0,hlt2,hrd1_1,hp0,by simp;omega,hrd3_0,hi0,hlt2,hrd1_0,trivial⟩) (fun nu2=>?_)
    refine Yc 106 #[.slice (sA b3 off3) ((List.map eI x.when).length) c1_0] (some 68) fun w S hG=>?_
    refine(rWeight (hG.at 1 rfl) hrt.vec).mono ?_
    rintro e2 w2 hR
    refine⟨_,_,_,hR,?_⟩
    try simp only[aQ]
    refine Ym (id:=9) (rest:=[]) [zR 27,.wr 29 (hnO 1 11) 0] [68,42,62,67] (fun _=>[]) (fun _=>[(nu1 0,.cells #[nI o.no,.string o.key,nI o.kind,.string o.text,nI o.n,.bool o.remove,.slice a2_0 ((List.map eDot o.dots).length) c2_0] 24 (0,0)),(nu2 0,.cells #[nI o.no,.string o.key,nI o.kind,.string o.text,nI o.n,.bool o.remove,.slice a2_0 ((List.map eDot o.dots).length) c2_0,nI x.place,nI t,nI o.no,nI (sumL x.when)] 126 (0,0))]) [] (fun _=>?_)
    refine JR_end ?_
    refine Zs [zR 0] [] [zB 10 false] ?_
    refine J_seq ?_
    refine Zs [zR 0] [] [zI 11 0] ?_
    refine J_block ?_
    refine J_loopx (fun z:OpsR=>[zV 0 (.string key),zS 1 (sA b1 off1) l.length c,zS 4 none 0 0,zS 5 av1 ALL.length cv1,zI 6 i,zI 7 q,zP 8 (nu1 0),zP 9 (nu2 0),zB 10 z.b,zI 11 z.j]) (fun z:OpsR=>[(nu1 0,.cells #[nI o.no,.string o.key,nI o.kind,.string o.text,nI o.n,.bool o.remove,.slice a2_0 ((List.map eDot o.dots).length) c2_0] 24 (0,0)),(nu2 0,.cells #[nI o.no,.string o.key,nI o.kind,.string o.text,nI o.n,.bool o.remove,.slice a2_0 ((List.map eDot o.dots).length) c2_0,nI x.place,nI t,nI o.no,nI (sumL x.when)] 126 (0,0))]) (fun z:OpsR=>[cAcc (.slice av1 ALL.length cv1) 126 11 (ALL.map eDone)]) (fun z:OpsR=>[(.slice (sA b1 off1) l.length c,(D.sl 3 (List.map eCom l))),(.slice (sA b3 off3) ((List.map eI x.when).length) c1_0,(D.sl 1 (List.map eI x.when))),(.slice (sA b2 off2) ((List.map eOp x.ops).length) c1_1,(D.sl 7 (List.map eOp x.ops))),(.slice (a2_0,c2_0).fst ((List.map eDot o.dots).length) c2_0,(D.sl 3 (List.map eDot o.dots)))]) (fun z:OpsR=>(ALL.length - z.j).toNat) (fun z:OpsR=>(0≤z.j∧z.j≤ALL.length∧z.b=decide ((⟨x.place,t,o.no⟩:DotT)∈(ALL.take z.j.toNat).map (·.d)))) ⟨0,false⟩ [0,1,4,5,6,7,8,9,10,11] [0,1] [0] [0,1,2,3] ?_ (by kernel_rfl) rfl rfl rfl ?_
    ·exact⟨by simp,by simp,by simp⟩
    rintro⟨j,b⟩ ⟨hj0,hj,hb⟩
    dsimp only at hj0 hj hb ⊢
    refine J_seq ?_
    refine Zs (Rds 0 4) [] [zB 73 (decide (j<(↑ALL.length:Int)))] ?_
    refine cC (t:=decide (j<(↑ALL.length:Int))) (fun hlt2=>?_) (fun hlt2=>?_)
    ·have hlt4:j<ALL.length:=by simpa using hlt2
     obtain⟨y,hy⟩:∃y,ALL[j.toNat]?=some y:=⟨_,List.getElem?_eq_getElem (by omega)⟩
     refine J_openacc 0 rfl (by intro h0;rw[List.map_eq_nil_iff]at h0;rw[h0]at hy;simp at hy) fun g cur xs hu _ _ hrow=>?_
     subst hu
     refine J_stpx (stp_readrows 0 rfl j.toNat (map_at hy)) fun ls hls=>?_
     obtain⟨hls1,hls2⟩:=hls
     obtain⟨⟨xa,xc⟩,rfl⟩:∃l0,ls=[l0]:=len1 hls1
     have f:=fun(j:Nat) v h=>hrow.atx (hls2 j v h)
     have r7:cur[0+j.toNat*11+7]?=some (.int .i64 y.d.place):=by rw[Nat.zero_add];exact f 7 _ rfl
     have r8:cur[0+j.toNat*11+8]?=some (.int .i64 y.d.time):=by rw[Nat.zero_add];exact f 8 _ rfl
     have r9:cur[0+j.toNat*11+9]?=some (.int .i64 y.d.no):=by rw[Nat.zero_add];exact f 9 _ rfl
     try simp only[aQ]
     refine J_skip ?_
     try simp only[aQ]
     refine J_seq ?_
     try simp only[aQ]
     refine J_block ?_
     try simp only[aQ]
     refine J_seq ?_
     try simp only[aQ]
     refine Zp [zR 0,zR 1,.rd 2 [] 0 2,zR 3,.rd 4 [.o 2 (some (nI y.d.place)),.o 2 (some (nI y.d.time)),.o 2 (some (nI y.d.no))] 0 0,zR 5,.rd 6 (hnO 1 3) 0 0,.rd 7 [.r 0 (some (.bool (decide (y.d.place=x.place∧y.d.time=t∧y.d.no=o.no))))] 0 10] [73] [zB 83 (decide (y.d.place=x.place∧y.d.time=t∧y.d.no=o.no))] [0≤j,j<(↑ALL.length:Int),cur[(0:Nat)+j.toNat*11+(7:Nat)]?=some (nI y.d.place),cur[(0:Nat)+j.toNat*11+(8:Nat)]?=some (nI y.d.time),cur[(0:Nat)+j.toNat*11+(9:Nat)]?=some (nI y.d.no),eqRun Tryz.prog .eql 65 (Operand.tmp 80) (Operand.tmp 82) (.agg #[nI y.d.place,nI y.d.time,nI y.d.no]) (.agg #[nI x.place,nI t,nI o.no]) (.bool (decide (y.d.place=x.place∧y.d.time=t∧y.d.no=o.no)))] ⟨hj0,hlt4,r7,r8,r9,eqRun_eql_65,trivial⟩ ?_
     try simp only[aQ]
     refine J_hide 2 rfl ?_
     refine J_stp (stp_closeacc 1 0 rfl rfl hrow (by decide)) ?_
     rw[show(List.map eDone ALL).length=ALL.length from List.length_map ..]
     refine cC (t:=decide (y.d.place=x.place∧y.d.time=t∧y.d.no=o.no)) (fun he=>?_) (fun he=>?_)
     ·try simp only[aQ]
      refine Za [zR 0] [83] [zB 10 true] ?_
      try simp only[aQ]
      refine J_eb ?_
      try simp only[aQ]
      refine Zp [zR 0,.rd 1 [] 0 1,zR 2] [] [zI 11 (j+1)] [IntKind.i64.wrap (j+1)=j+1] ⟨wrap_i64 (by omega) (by omega),trivial⟩ ?_
      try simp only[aQ]
      refine J_backx ⟨j+1,true⟩ [0,1,4,5,6,7,8,9,10,11] [0,1] [0] [0,1,2,3] ?_ ?_ (by kernel_rfl) rfl rfl rfl
      ·exact⟨by simp only;omega,by simp only;omega,(memStep hj0 hy (.inl (by simpa using he))).symm⟩
      ·simp only
       omega
     ·try simp only[aQ]
      refine J_skip ?_
      try simp only[aQ]
      refine J_eb ?_
      try simp only[aQ]
      refine Zp [zR 0,.rd 1 [] 0 1,zR 2] [83] [zI 11 (j+1)] [IntKind.i64.wrap (j+1)=j+1] ⟨wrap_i64 (by omega) (by omega),trivial⟩ ?_
      try simp only[aQ]
      refine J_backx ⟨j+1,b⟩ [0,1,4,5,6,7,8,9,10,11] [0,1] [0] [0,1,2,3] ?_ ?_ (by kernel_rfl) rfl rfl rfl
      ·exact⟨by simp only;omega,by simp only;omega,by dsimp only;rw[hb];exact(memSkip hj0 hy (by simpa using he)).symm⟩
      ·simp only
       omega
    ·have hjl:ALL.take j.toNat=ALL:=List.take_of_length_le (by simp at hlt2;omega)
     rw[hjl]at hb
     by_cases hmem:(⟨x.place,t,o.no⟩:DotT)∈ALL.map (·.d)
     ·rw[decide_eq_true hmem]at hb
      subst hb
      have e5:=hstep
      rw[if_pos hmem,List.append_nil]at e5
      refine J_exit rfl ?_
      refine Zs [zR 0,zR 1] [73] [zB 85 false] ?_
      refine cF ?_
      refine J_skip (J_eb ?_)
      refine Zp [zR 0,.rd 1 [] 0 1,zR 2] [85] [zI 7 (q+1)] [IntKind.i64.wrap (q+1)=q+1] ⟨wrap_i64 (by omega) (by omega),trivial⟩ ?_
      rw[←e5]
      refine J_backx ⟨q+1,_,_,_⟩ [0,1,4,5,6,7] [] [0] [0,1,2] ?_ ?_ (by kernel_rfl) rfl rfl rfl
      ·exact⟨by simp only;omega,by simp only;omega⟩
      ·simp only
       omega
     ·rw[decide_eq_false hmem]at hb
      subst hb
      have e5:=hstep
      rw[if_neg hmem]at e5
      refine J_exit rfl ?_
      refine Zs [zR 0,zR 1] [73] [zB 85 true] ?_
      refine cTt ?_
      refine jT [(0,true),(1,true),(2,false),(3,false),(4,true)] [] ?_
      refine Ym (id:=17) (rest:=[(3,false),(4,true)]) [zR 0,.rd 1 (hnO 1 11) 0 0,.wr 2 [] 0] [85] (fun nu3=>[zS 86 av1 ALL.length cv1,zS 88 (sA (nu3 0) 0) 1 1]) (fun nu3=>[(nu1 0,.cells #[nI o.no,.string o.key,nI o.kind,.string o.text,nI o.n,.bool o.remove,.slice a2_0 ((List.map eDot o.dots).length) c2_0] 24 (0,0)),(nu2 0,.cells #[nI o.no,.string o.key,nI o.kind,.string o.text,nI o.n,.bool o.remove,.slice a2_0 ((List.map eDot o.dots).length) c2_0,nI x.place,nI t,nI o.no,nI (sumL x.when)] 126 (0,0)),(nu3 0,.cells #[nI o.no,.string o.key,nI o.kind,.string o.text,nI o.n,.bool o.remove,.slice a2_0 ((List.map eDot o.dots).length) c2_0,nI x.place,nI t,nI o.no,nI (sumL x.when)] 126 (0,0))]) [] (fun nu3=>?_)
      refine JR_appm 0 123 126 11 120 (.agg #[.int .i64 0,.string (ByteArray.mk #[]),.int .i64 0,.string (ByteArray.mk #[]),.int .i64 0,.bool false,.slice none 0 0,.int .i64 0,.int .i64 0,.int .i64 0,.int .i64 0]) (a0:=av1) (len:=ALL.length) (cap0:=cv1) (ax:=(some (⟨nu3 0,0,none⟩))) (m:=1) (c:=1) (dst:=(some 89)) [(⟨o,⟨x.place,t,o.no⟩,sumL x.when⟩:DoneT)] (by kernel_rfl) (by kernel_rfl) (by kernel_rfl) (by kernel_rfl) rfl (by decide) rfl (fun _ _ _ s=>src_one s 2 rfl rfl ⟨.inl ⟨rfl,rfl⟩,⟨.inl ⟨rfl,rfl⟩,⟨.inl ⟨rfl,rfl⟩,⟨.inl ⟨rfl,rfl⟩,⟨.inl ⟨rfl,rfl⟩,⟨.inl ⟨rfl,rfl⟩,⟨.inr (.inl (List.mem_of_getElem? (i:=3) rfl)),⟨.inl ⟨rfl,rfl⟩,⟨.inl ⟨rfl,rfl⟩,⟨.inl ⟨rfl,rfl⟩,⟨.inl ⟨rfl,rfl⟩,trivial⟩⟩⟩⟩⟩⟩⟩⟩⟩⟩⟩) (by simp only[maxLen];omega) (by omega) (fun av2 cv2=>?_)
      rw[←e5]
      try simp only[aQ]
      refine Ya (id:=17) (rest:=[]) [zR 4] [89,86,88] [zS 5 av2 (ALL.length+1) cv2] ?_
      try simp only[aQ]
      refine JR_end ?_
      try simp only[aQ]
      refine J_eb ?_
      try simp only[aQ]
      refine Zp [zR 0,.rd 1 [] 0 1,zR 2] [] [zI 7 (q+1)] [IntKind.i64.wrap (q+1)=q+1] ⟨wrap_i64 (by omega) (by omega),trivial⟩ ?_
      try simp only[aQ]
      refine J_backx ⟨q+1,_,_,_⟩ [0,1,4,5,6,7] [] [0] [0,1,2] ?_ ?_ (by kernel_rfl) rfl rfl rfl
      ·exact⟨by simp only;omega,by simp only;omega⟩
      ·simp only
       omega
  ·have hql:x.ops.take q.toNat=x.ops:=List.take_of_length_le (by simp at hlt1;omega)
   rw[hql,allDone_snoc hi0 hx]at hALL
   rw[←hALL]
   refine J_exit rfl ?_
   refine J_eb ?_
   refine Zp [zR 0,.rd 1 [] 0 1,zR 2] [31] [zI 6 (i+1)] [IntKind.i64.wrap (i+1)=i+1] ⟨wrap_i64 (by omega) (by omega),trivial⟩ ?_
   refine J_backx ⟨i+1,_,_,_⟩ [0,1,4,5,6] [] [0] [0] ?_ ?_ (by kernel_rfl) rfl rfl rfl
   ·exact⟨by simp only;omega,by simp only;omega⟩
   ·simp only
    omega
 ·have hil:l.take i.toNat=l:=List.take_of_length_le (by simp at hlt;omega)
  rw[hil]
  refine J_exit rfl ?_
  refine Zs [zR 0] [21,1,6] [zS 12 none 0 0] ?_
  refine J_seq ?_
  refine Zs [zR 0] [] [zI 13 0] ?_
  refine J_block ?_
  generalize hALL:firsts [] (allDone l)=ALL
  refine J_stpx (stp_acclen 0 rfl) fun _ hk=>?_
  rw[List.length_map]at hk
  subst hk
  have hA12:ALL.length≤4000000:=by
   have h1:=firsts_len [] (allDone l)
   have h2:=allDone_len hright
   rw[hALL]at h1
   omega
  refine J_stp (stp_freeze 0 rfl) ?_
  refine J_stp (stp_add (cRep (.slice none 0 0) (.sl 11 (([]:List DoneT).map eDone))) fun _ _=>⟨rfl,.nil⟩) ?_
  refine Nm [(cRep (Value.slice none 0 0) (D.sl 11 (List.map eDone [])))] ?_
  refine J_loopx (fun x:OutR=>[zV 0 (.string key),zS 4 none 0 0,zS 5 av ALL.length cv,zS 12 x.a x.n x.c,zI 13 x.i]) (fun x:OutR=>[]) (fun x:OutR=>[cRep (.slice x.a x.n x.c) (.sl 11 ((((ALL.take x.i.toNat).filter fun z=>decide (z.o.key=key)).foldl (insG doneLt) []).map eDone))]) (fun x:OutR=>[(.slice a l.length c,(D.sl 3 (List.map eCom l))),(.slice av ALL.length cv,(D.sl 11 (List.map eDone ALL)))]) (fun x:OutR=>(ALL.length - x.i).toNat) (fun x:OutR=>(0≤x.i∧x.i≤ALL.length∧GoodS x.a x.c)) ⟨0,none,0,0⟩ [0,4,5,12,13] [] [0] [0,1] ?_ (by kernel_rfl) rfl rfl rfl ?_
  ·exact⟨by simp,by simp,.inl ⟨rfl,rfl⟩⟩
  rintro⟨i2,a2,n2,c2⟩ ⟨hi20,hi2,hg2⟩
  dsimp only at hi20 hi2 hg2 ⊢
  refine J_seq ?_
  refine Zs (Rds 0 4) [] [zB 93 (decide (i2<(↑ALL.length:Int)))] ?_
  refine cC (t:=decide (i2<(↑ALL.length:Int))) (fun hlt3=>?_) (fun hlt3=>?_)
  ·have hlt4:i2<ALL.length:=by simpa using hlt3
   obtain⟨y,hy⟩:∃y,ALL[i2.toNat]?=some y:=⟨_,List.getElem?_eq_getElem (by omega)⟩
   have hO12:(((ALL.take i2.toNat).filter fun z=>decide (z.o.key=key)).foldl (insG doneLt) []).length≤4000000:=by
    rw[insG_flen,List.length_nil,Nat.zero_add]
    refine Nat.le_trans (List.length_filter_le _ _) ?_
    rw[List.length_take]
    omega
   generalize hOUT:((ALL.take i2.toNat).filter fun z=>decide (z.o.key=key)).foldl (insG doneLt) []=OUT at hO12
   refine J_read1 1 rfl i2.toNat (map_at hy) (by kernel_rfl) (fun b1 off1 cs1 ty1 fz1 a1_0 c1_0 ha1 hrd1=>?_)
   cases ha1
   have hrd1_0:=rd0 (hrd1 0 _ rfl)
   have hrd1_1:=hrd1 1 _ rfl
   have hrd1_2:=hrd1 2 _ rfl
   have hrd1_3:=hrd1 3 _ rfl
   have hrd1_4:=hrd1 4 _ rfl
   have hrd1_5:=hrd1 5 _ rfl
   have hrd1_6:=hrd1 6 _ rfl
   have hrd1_7:=hrd1 7 _ rfl
   have hrd1_8:=hrd1 8 _ rfl
   have hrd1_9:=hrd1 9 _ rfl
   have hrd1_10:=hrd1 10 _ rfl
   by_cases hkey:y.o.key=key
   ·have hkb:(y.o.key.toList==key.toList)=true:=by rw[strEq,decide_eq_true hkey]
    have e6:insG doneLt OUT y=((ALL.take (i2+1).toNat).filter fun z=>decide (z.o.key=key)).foldl (insG doneLt) []:=by
     rw[←hOUT,←take_snoc hi20 hy,List.filter_append,List.foldl_append]
     simp[hkey]
    try simp only[aQ]
    refine J_skip (J_seq (J_block (J_seq ?_)))
    refine Zt [zR 0,zR 1,.rd 2 [] 0 2,zR 3,zR 4,.rd 5 [.r 0 (some (.string y.o.key))] 0 0,zR 6,.rd 7 [] 0 7] [93] [zB 103 false] [0≤i2,i2<(↑ALL.length:Int),cs1[off1+i2.toNat*11+(1:Nat)]?=some (Value.string y.o.key),(!y.o.key.toList==key.toList)=false] ⟨hi20,hlt4,hrd1_1,by simp[*];done,trivial⟩ ?_
    refine cF ?_
    refine J_skip ?_
    refine Zs [zR 0] [103] [zI 14 0] ?_
    refine J_seq (J_block ?_)
    refine J_stp (stp_rep 0 rfl) ?_
    refine Nm [] ?_
    refine J_stpx (stp_replen 3 rfl) fun _ hn2=>?_
    rw[List.length_map]at hn2
    subst hn2
    refine J_stpx (stp_know (p:=OUT.length≤c2) fun _ _ H=>(H.g (_,_) (List.mem_of_getElem? (i:=3) rfl)).cap) fun _ hcap2=>?_
    refine J_loopx (fun k:Int=>[zV 0 (.string key),zS 4 none 0 0,zS 5 (sA b1 off1) ALL.length cv,zS 12 a2 OUT.length c2,zI 13 i2,zI 14 k]) (fun k:Int=>[]) (fun k:Int=>[]) (fun k:Int=>[(.slice a l.length c,(D.sl 3 (List.map eCom l))),(.slice (sA b1 off1) ALL.length cv,(D.sl 11 (List.map eDone ALL))),(.slice (a1_0,c1_0).fst ((List.map eDot y.o.dots).length) c1_0,(D.sl 3 (List.map eDot y.o.dots))),(.slice a2 OUT.length c2,(D.sl 11 (List.map eDone OUT)))]) (fun k:Int=>(OUT.length - k).toNat) (fun k:Int=>(0≤k∧k≤OUT.length∧∀z∈OUT.take k.toNat,doneLt z y=true)) 0 [0,4,5,12,13,14] [] [] [0,1,2,3] ?_ (by kernel_rfl) rfl rfl rfl ?_
    ·exact⟨by simp,by simp,by simp⟩
    rintro k ⟨hk0,hk,hkn⟩
    by_cases hlt5:k<OUT.length
    ·obtain⟨z,hz⟩:∃z,OUT[k.toNat]?=some z:=⟨_,List.getElem?_eq_getElem (by omega)⟩
     refine J_read1 3 rfl k.toNat (map_at hz) (by kernel_rfl) (fun b2 off2 cs2 ty2 fz2 a2_0 c2_0 ha2 hrd2=>?_)
     cases ha2
     have hrd2_0:=rd0 (hrd2 0 _ rfl)
     have hrd2_1:=hrd2 1 _ rfl
     have hrd2_2:=hrd2 2 _ rfl
     have hrd2_3:=hrd2 3 _ rfl
     have hrd2_4:=hrd2 4 _ rfl
     have hrd2_5:=hrd2 5 _ rfl
     have hrd2_6:=hrd2 6 _ rfl
     have hrd2_7:=hrd2 7 _ rfl
     have hrd2_8:=hrd2 8 _ rfl
     have hrd2_9:=hrd2 9 _ rfl
     have hrd2_10:=hrd2 10 _ rfl
     try simp only[aQ]
     refine J_seq ?_
     refine jS [(0,true),(1,true),(2,true),(3,true),(4,true),(5,true),(6,true),(7,true),(8,true),(9,true),(10,true),(11,true),(12,true),(13,false),(14,true)] [] ?_
     refine Yp (id:=24) (rest:=[(13,false),(14,true)]) (Rds 0 3++[.rd 3 [] 0 6]++Rds 4 7++[.rd 7 [] 0 2,.rd 8 [.r 1 (some (nI z.o.no)),.r 1 (some (.string z.o.key)),.r 1 (some (nI z.o.kind)),.r 1 (some (.string z.o.text)),.r 1 (some (nI z.o.n)),.r 1 (some (.bool z.o.remove)),.r 1 (some (.slice (a2_0,c2_0).fst ((List.map eDot z.o.dots).length) c2_0)),.r 1 (some (nI z.d.place)),.r 1 (some (nI z.d.time)),.r 1 (some (nI z.d.no)),.r 1 (some (nI z.w))] 0 0,zR 9,zR 10,.rd 11 [] 0 2,.rd 12 [.r 0 (some (nI y.o.no)),.r 0 (some (.string y.o.key)),.r 0 (some (nI y.o.kind)),.r 0 (some (.string y.o.text)),.r 0 (some (nI y.o.n)),.r 0 (some (.bool y.o.remove)),.r 0 (some (.slice (a1_0,c1_0).fst ((List.map eDot y.o.dots).length) c1_0)),.r 0 (some (nI y.d.place)),.r 0 (some (nI y.d.time)),.r 0 (some (nI y.d.no)),.r 0 (some (nI y.w))] 0 0]) [] [zB 108 true,zV 112 (.agg #[nI z.o.no,.string z.o.key,nI z.o.kind,.string z.o.text,nI z.o.n,.bool z.o.remove,.slice (a2_0,c2_0).fst ((List.map eDot z.o.dots).length) c2_0,nI z.d.place,nI z.d.time,nI z.d.no,nI z.w]),zV 116 (.agg #[nI y.o.no,.string y.o.key,nI y.o.kind,.string y.o.text,nI y.o.n,.bool y.o.remove,.slice (a1_0,c1_0).fst ((List.map eDot y.o.dots).length) c1_0,nI y.d.place,nI y.d.time,nI y.d.no,nI y.w])] [decide (k<(↑OUT.length:Int))=true,0≤k,k<(↑OUT.length:Int),cs2[off2+k.toNat*11]?=some (nI z.o.no),cs2[off2+k.toNat*11+(1:Nat)]?=some (Value.string z.o.key),cs2[off2+k.toNat*11+(2:Nat)]?=some (nI z.o.kind),cs2[off2+k.toNat*11+(3:Nat)]?=some (Value.string z.o.text),cs2[off2+k.toNat*11+(4:Nat)]?=some (nI z.o.n),cs2[off2+k.toNat*11+(5:Nat)]?=some (Value.bool z.o.remove),cs2[off2+k.toNat*11+(6:Nat)]?=some (Value.slice (a2_0,c2_0).fst (List.map eDot z.o.dots).length (a2_0,c2_0).snd),cs2[off2+k.toNat*11+(7:Nat)]?=some (nI z.d.place),cs2[off2+k.toNat*11+(8:Nat)]?=some (nI z.d.time),cs2[off2+k.toNat*11+(9:Nat)]?=some (nI z.d.no),cs2[off2+k.toNat*11+(10:Nat)]?=some (nI z.w),0≤i2,i2<(↑ALL.length:Int),cs1[off1+i2.toNat*11]?=some (nI y.o.no),cs1[off1+i2.toNat*11+(1:Nat)]?=some (Value.string y.o.key),cs1[off1+i2.toNat*11+(2:Nat)]?=some (nI y.o.kind),cs1[off1+i2.toNat*11+(3:Nat)]?=some (Value.string y.o.text),cs1[off1+i2.toNat*11+(4:Nat)]?=some (nI y.o.n),cs1[off1+i2.toNat*11+(5:Nat)]?=some (Value.bool y.o.remove),cs1[off1+i2.toNat*11+(6:Nat)]?=some (Value.slice (a1_0,c1_0).fst (List.map eDot y.o.dots).length (a1_0,c1_0).snd),cs1[off1+i2.toNat*11+(7:Nat)]?=some (nI y.d.place),cs1[off1+i2.toNat*11+(8:Nat)]?=some (nI y.d.time),cs1[off1+i2.toNat*11+(9:Nat)]?=some (nI y.d.no),cs1[off1+i2.toNat*11+(10:Nat)]?=some (nI y.w)] ⟨by simp;omega,hk0,hlt5,hrd2_0,hrd2_1,hrd2_2,hrd2_3,hrd2_4,hrd2_5,hrd2_6,hrd2_7,hrd2_8,hrd2_9,hrd2_10,hi20,hlt4,hrd1_0,hrd1_1,hrd1_2,hrd1_3,hrd1_4,hrd1_5,hrd1_6,hrd1_7,hrd1_8,hrd1_9,hrd1_10,trivial⟩ ?_
     refine Yc 107 #[.agg #[nI z.o.no,.string z.o.key,nI z.o.kind,.string z.o.text,nI z.o.n,.bool z.o.remove,.slice (a2_0,c2_0).fst ((List.map eDot z.o.dots).length) c2_0,nI z.d.place,nI z.d.time,nI z.d.no,nI z.w],.agg #[nI y.o.no,.string y.o.key,nI y.o.kind,.string y.o.text,nI y.o.n,.bool y.o.remove,.slice (a1_0,c1_0).fst ((List.map eDot y.o.dots).length) c1_0,nI y.d.place,nI y.d.time,nI y.d.no,nI y.w]] (some 117) fun w S hG=>?_
     refine(rAhead (w:=w) (S:=S) (x:=z) (y:=y) rfl rfl).mono ?_
     rintro e3 w3 hR
     refine⟨_,_,_,hR,?_⟩
     cases hzy:doneLt z y with
     | true=>
      try simp only[aQ]
      refine Ya (id:=24) (rest:=[]) [zR 14] [117,108,112,116] [zB 118 true] ?_
      refine JR_end ?_
      refine cTt ?_
      refine J_skip (J_block ?_)
      refine Zp [zR 0,.rd 1 [] 0 1,zR 2] [118] [zI 14 (k+1)] [IntKind.i64.wrap (k+1)=k+1] ⟨wrap_i64 (by omega) (by omega),trivial⟩ ?_
      refine J_eb ?_
      refine J_backx (k+1) [0,4,5,12,13,14] [] [] [0,1,2,3] ?_ ?_ (by kernel_rfl) rfl rfl rfl
      ·refine⟨by omega,by omega,fun q hq=>?_⟩
       rw[←take_snoc hk0 hz,List.mem_append,List.mem_singleton]at hq
       rcases hq with hq|rfl
       ·exact hkn q hq
       ·exact hzy
      ·omega
     | false=>
      have hins:=insG_at doneLt (l:=OUT) (x:=y) (k:=k.toNat) hkn fun q hq=>by rw[hz]at hq;cases hq;exact hzy
      rw[e6]at hins
      have e8:OUT.take k.toNat++[y]++OUT.drop k.toNat=((ALL.take (i2+1).toNat).filter fun z=>decide (z.o.key=key)).foldl (insG doneLt) []:=by
       rw[List.append_assoc,List.singleton_append]
       exact hins.symm
      try simp only[aQ]
      refine Ya (id:=24) (rest:=[]) [zR 14] [117,108,112,116] [zB 118 false] ?_
      refine JR_end ?_
      refine cF ?_
      refine J_exit rfl ?_
      refine Zs [zR 0] [118] [zS 15 none 0 0] ?_
      refine J_seq ?_
      refine J_stp (stp_fact fun w S H=>(H (_,_) (List.mem_of_getElem? (i:=3) rfl)).takeM k.toNat (by omega)) ?_
      refine J_stp (stp_accm eDone 126 11) ?_
      refine Nm [cAcc (.slice none 0 0) 126 11 (List.map eDone [])] ?_
      try simp only[aQ]
      refine jT [(0,true),(1,true),(2,true),(3,true),(4,false),(5,true)] [] ?_
      refine Yp (id:=27) (rest:=[(4,false),(5,true)]) (Rds 0 3++[.rd 3 [] 0 4]) [] [zS 121 none 0 0,zS 124 (sA b2 off2) k.toNat c2] [0≤k,k≤(↑c2:Int)] ⟨hk0,by omega,trivial⟩ ?_
      refine JR_appm 0 123 126 11 120 (.agg #[.int .i64 0,.string (ByteArray.mk #[]),.int .i64 0,.string (ByteArray.mk #[]),.int .i64 0,.bool false,.slice none 0 0,.int .i64 0,.int .i64 0,.int .i64 0,.int .i64 0]) (a0:=none) (len:=0) (cap0:=0) (ax:=(some (⟨b2,off2,none⟩))) (m:=k.toNat) (c:=c2) (dst:=(some 125)) (List.take k.toNat OUT) (by kernel_rfl) (by kernel_rfl) (by kernel_rfl) (by kernel_rfl) rfl (by decide) rfl (fun _ _ _ s=>src_fact s 5 rfl (by decide)) (by simp only[maxLen];omega) (by omega) (fun av1 cv1=>?_)
      rw[Nat.zero_add]
      try simp only[aQ]
      refine Ya (id:=27) (rest:=[]) [zR 5] [125,121,124] [zS 15 av1 k.toNat cv1] ?_
      try simp only[aQ]
      refine JR_end ?_
      try simp only[aQ]
      refine J_seq ?_
      try simp only[aQ]
      refine J_again1 1 rfl 0 rfl i2.toNat (map_at hy) (by kernel_rfl) (fun a3_0 c3_0 hrd3=>?_)
      have hrd3_0:=rd0 (hrd3 0 _ rfl)
      have hrd3_1:=hrd3 1 _ rfl
      have hrd3_2:=hrd3 2 _ rfl
      have hrd3_3:=hrd3 3 _ rfl
      have hrd3_4:=hrd3 4 _ rfl
      have hrd3_5:=hrd3 5 _ rfl
      have hrd3_6:=hrd3 6 _ rfl
      have hrd3_7:=hrd3 7 _ rfl
      have hrd3_8:=hrd3 8 _ rfl
      have hrd3_9:=hrd3 9 _ rfl
      have hrd3_10:=hrd3 10 _ rfl
      try simp only[aQ]
      refine jT [(0,true),(1,true),(2,true),(3,true),(4,true),(5,false),(6,false),(7,true)] [] ?_
      refine Yn (id:=28) (rest:=[(6,false),(7,true)]) (Rds 0 3++[.rd 3 [] 0 2,.rd 4 [.r 0 (some (nI y.o.no)),.r 0 (some (.string y.o.key)),.r 0 (some (nI y.o.kind)),.r 0 (some (.string y.o.text)),.r 0 (some (nI y.o.n)),.r 0 (some (.bool y.o.remove)),.r 0 (some (.slice (a1_0,c1_0).fst ((List.map eDot y.o.dots).length) c1_0)),.r 0 (some (nI y.d.place)),.r 0 (some (nI y.d.time)),.r 0 (some (nI y.d.no)),.r 0 (some (nI y.w))] 0 0,.wr 5 [] 0]) [] (fun nu1=>[zS 126 av1 k.toNat cv1,zS 131 (sA (nu1 0) 0) 1 1]) (fun nu1=>[(nu1 0,.cells #[nI y.o.no,.string y.o.key,nI y.o.kind,.string y.o.text,nI y.o.n,.bool y.o.remove,.slice (a1_0,c1_0).fst ((List.map eDot y.o.dots).length) c1_0,nI y.d.place,nI y.d.time,nI y.d.no,nI y.w] 126 (0,0))]) [] (fun nu1=>[0≤i2,i2<(↑ALL.length:Int),cs1[off1+i2.toNat*11]?=some (nI y.o.no),cs1[off1+i2.toNat*11+(1:Nat)]?=some (Value.string y.o.key),cs1[off1+i2.toNat*11+(2:Nat)]?=some (nI y.o.kind),cs1[off1+i2.toNat*11+(3:Nat)]?=some (Value.string y.o.text),cs1[off1+i2.toNat*11+(4:Nat)]?=some (nI y.o.n),cs1[off1+i2.toNat*11+(5:Nat)]?=some (Value.bool y.o.remove),cs1[off1+i2.toNat*11+(6:Nat)]?=some (Value.slice (a1_0,c1_0).fst (List.map eDot y.o.dots).length (a1_0,c1_0).snd),cs1[off1+i2.toNat*11+(7:Nat)]?=some (nI y.d.place),cs1[off1+i2.toNat*11+(8:Nat)]?=some (nI y.d.time),cs1[off1+i2.toNat*11+(9:Nat)]?=some (nI y.d.no),cs1[off1+i2.toNat*11+(10:Nat)]?=some (nI y.w)]) (fun _=>⟨hi20,hlt4,hrd1_0,hrd1_1,hrd1_2,hrd1_3,hrd1_4,hrd1_5,hrd1_6,hrd1_7,hrd1_8,hrd1_9,hrd1_10,trivial⟩) (fun nu1=>?_)
      refine JR_appm 0 123 126 11 120 (.agg #[.int .i64 0,.string (ByteArray.mk #[]),.int .i64 0,.string (ByteArray.mk #[]),.int .i64 0,.bool false,.slice none 0 0,.int .i64 0,.int .i64 0,.int .i64 0,.int .i64 0]) (a0:=av1) (len:=k.toNat) (cap0:=cv1) (ax:=(some (⟨nu1 0,0,none⟩))) (m:=1) (c:=1) (dst:=(some 132)) [y] (by kernel_rfl) (by kernel_rfl) (by kernel_rfl) (by kernel_rfl) rfl (by decide) rfl (fun _ _ _ s=>src_one s 0 rfl rfl ⟨.inl ⟨rfl,rfl⟩,⟨.inl ⟨rfl,rfl⟩,⟨.inl ⟨rfl,rfl⟩,⟨.inl ⟨rfl,rfl⟩,⟨.inl ⟨rfl,rfl⟩,⟨.inl ⟨rfl,rfl⟩,⟨.inr (.inl (List.mem_of_getElem? (i:=2) rfl)),⟨.inl ⟨rfl,rfl⟩,⟨.inl ⟨rfl,rfl⟩,⟨.inl ⟨rfl,rfl⟩,⟨.inl ⟨rfl,rfl⟩,trivial⟩⟩⟩⟩⟩⟩⟩⟩⟩⟩⟩) (by simp only[maxLen];omega) (by omega) (fun av2 cv2=>?_)
      try simp only[aQ]
      refine Ya (id:=28) (rest:=[]) [zR 7] [132,126,131] [zS 15 av2 (k.toNat+1) cv2] ?_
      try simp only[aQ]
      refine JR_end ?_
      try simp only[aQ]
      refine J_stp (stp_fact fun w S H=>(H (_,_) (List.mem_of_getElem? (i:=3) rfl)).dropM k.toNat (by omega)) ?_
      refine Nm [cAcc (.slice av2 (k.toNat+1) cv2) 126 11 (List.map eDone (List.take k.toNat OUT++[y]))] ?_
      try simp only[aQ]
      refine jT [(0,true),(1,true),(2,true),(3,true),(4,false),(5,true)] [] ?_
      refine Yp (id:=29) (rest:=[(4,false),(5,true)]) (Rds 0 3++[.rd 3 [] 0 4]) [] [zS 133 av2 (k.toNat+1) cv2,zS 136 (sA b2 (off2+k.toNat*11)) (OUT.length - k.toNat) (c2 - k.toNat)] [0≤k,k≤(↑OUT.length:Int),k<(↑c2:Int)] ⟨hk0,hk,by omega,trivial⟩ ?_
      refine JR_appm 0 123 126 11 120 (.agg #[.int .i64 0,.string (ByteArray.mk #[]),.int .i64 0,.string (ByteArray.mk #[]),.int .i64 0,.bool false,.slice none 0 0,.int .i64 0,.int .i64 0,.int .i64 0,.int .i64 0]) (a0:=av2) (len:=k.toNat+1) (cap0:=cv2) (ax:=(some (⟨b2,off2+k.toNat*11,none⟩))) (m:=OUT.length - k.toNat) (c:=c2 - k.toNat) (dst:=(some 137)) (List.drop k.toNat OUT) (by kernel_rfl) (by kernel_rfl) (by kernel_rfl) (by kernel_rfl) rfl (by decide) rfl (fun _ _ _ s=>src_fact s 7 rfl (by decide)) (by simp only[maxLen];omega) (by omega) (fun av3 cv3=>?_)
      rw[e8]
      try simp only[aQ]
      refine Ya (id:=29) (rest:=[]) [zR 5] [137,133,136] [zS 12 av3 (k.toNat+1+(OUT.length - k.toNat)) cv3] ?_
      try simp only[aQ]
      refine JR_end ?_
      try simp only[aQ]
      refine J_eb ?_
      try simp only[aQ]
      refine Zp [zR 0,.rd 1 [] 0 1,zR 2] [] [zI 13 (i2+1)] [IntKind.i64.wrap (i2+1)=i2+1] ⟨wrap_i64 (by omega) (by omega),trivial⟩ ?_
      try simp only[aQ]
      refine J_stpx (stp_good 0 rfl) fun _ hga=>?_
      refine J_stp (stp_freeze 0 rfl) ?_
      refine Nm [] ?_
      refine J_stp (stp_keep 8 rfl) ?_
      refine Nm [(cRep (Value.slice av3 (k.toNat+1+(OUT.length - k.toNat)) cv3) (D.sl 11 (List.map eDone (List.foldl (insG doneLt) [] (List.filter (fun z=>decide (z.o.key=key)) (List.take (i2+1).toNat ALL))))))] ?_
      refine J_backx ⟨i2+1,_,_,_⟩ [0,4,5,12,13] [] [0] [0,1] ?_ ?_ (by kernel_rfl) rfl rfl rfl
      ·exact⟨by simp only;omega,by simp only;omega,hga⟩
      ·simp only
       omega
    ·have hins:=insG_at doneLt (l:=OUT) (x:=y) (k:=k.toNat) hkn fun q hq=>by
      have:=(List.getElem?_eq_some_iff.1 hq).1
      omega
     rw[e6]at hins
     have e8:OUT.take k.toNat++[y]++OUT.drop k.toNat=((ALL.take (i2+1).toNat).filter fun z=>decide (z.o.key=key)).foldl (insG doneLt) []:=by
      rw[List.append_assoc,List.singleton_append]
      exact hins.symm
     refine J_seq ?_
     refine Zt (Rds 0 3++[.rd 3 [] 0 7,zR 4,.rd 5 [] 1 0,.rd 6 [] 1 0,.rd 7 [] 1 0,.rd 8 [] 1 0,.rd 9 [] 1 0,.rd 10 [] 1 0,.rd 11 [] 1 0,.rd 12 [] 1 0,.wr 13 [] 1,zR 14]) [] [zB 118 false] [decide (k<(↑OUT.length:Int))=false] ⟨by simp;omega,trivial⟩ ?_
     refine cF ?_
     refine J_exit rfl ?_
     refine Zs [zR 0] [118] [zS 15 none 0 0] ?_
     refine J_seq ?_
     refine J_stp (stp_fact fun w S H=>(H (_,_) (List.mem_of_getElem? (i:=3) rfl)).takeM k.toNat (by omega)) ?_
     refine J_stp (stp_accm eDone 126 11) ?_
     refine Nm [cAcc (.slice none 0 0) 126 11 (List.map eDone [])] ?_
     try simp only[aQ]
     refine jT [(0,true),(1,true),(2,true),(3,true),(4,false),(5,true)] [] ?_
     refine Yp (id:=27) (rest:=[(4,false),(5,true)]) (Rds 0 3++[.rd 3 [] 0 4]) [] [zS 121 none 0 0,zS 124 a2 k.toNat c2] [0≤k,k≤(↑c2:Int)] ⟨hk0,by omega,trivial⟩ ?_
     refine JR_appm 0 123 126 11 120 (.agg #[.int .i64 0,.string (ByteArray.mk #[]),.int .i64 0,.string (ByteArray.mk #[]),.int .i64 0,.bool false,.slice none 0 0,.int .i64 0,.int .i64 0,.int .i64 0,.int .i64 0]) (a0:=none) (len:=0) (cap0:=0) (ax:=a2) (m:=k.toNat) (c:=c2) (dst:=(some 125)) (List.take k.toNat OUT) (by kernel_rfl) (by kernel_rfl) (by kernel_rfl) (by kernel_rfl) rfl (by decide) rfl (fun _ _ _ s=>src_fact s 4 rfl (by decide)) (by simp only[maxLen];omega) (by omega) (fun av1 cv1=>?_)
     rw[Nat.zero_add]
     try simp only[aQ]
     refine Ya (id:=27) (rest:=[]) [zR 5] [125,121,124] [zS 15 av1 k.toNat cv1] ?_
     try simp only[aQ]
     refine JR_end ?_
     try simp only[aQ]
     refine J_seq ?_
     try simp only[aQ]
     refine J_again1 1 rfl 0 rfl i2.toNat (map_at hy) (by kernel_rfl) (fun a2_0 c2_0 hrd2=>?_)
     have hrd2_0:=rd0 (hrd2 0 _ rfl)
     have hrd2_1:=hrd2 1 _ rfl
     have hrd2_2:=hrd2 2 _ rfl
     have hrd2_3:=hrd2 3 _ rfl
     have hrd2_4:=hrd2 4 _ rfl
     have hrd2_5:=hrd2 5 _ rfl
     have hrd2_6:=hrd2 6 _ rfl
     have hrd2_7:=hrd2 7 _ rfl
     have hrd2_8:=hrd2 8 _ rfl
     have hrd2_9:=hrd2 9 _ rfl
     have hrd2_10:=hrd2 10 _ rfl
     try simp only[aQ]
     refine jT [(0,true),(1,true),(2,true),(3,true),(4,true),(5,false),(6,false),(7,true)] [] ?_
     refine Yn (id:=28) (rest:=[(6,false),(7,true)]) (Rds 0 3++[.rd 3 [] 0 2,.rd 4 [.r 0 (some (nI y.o.no)),.r 0 (some (.string y.o.key)),.r 0 (some (nI y.o.kind)),.r 0 (some (.string y.o.text)),.r 0 (some (nI y.o.n)),.r 0 (some (.bool y.o.remove)),.r 0 (some (.slice (a1_0,c1_0).fst ((List.map eDot y.o.dots).length) c1_0)),.r 0 (some (nI y.d.place)),.r 0 (some (nI y.d.time)),.r 0 (some (nI y.d.no)),.r 0 (some (nI y.w))] 0 0,.wr 5 [] 0]) [] (fun nu1=>[zS 126 av1 k.toNat cv1,zS 131 (sA (nu1 0) 0) 1 1]) (fun nu1=>[(nu1 0,.cells #[nI y.o.no,.string y.o.key,nI y.o.kind,.string y.o.text,nI y.o.n,.bool y.o.remove,.slice (a1_0,c1_0).fst ((List.map eDot y.o.dots).length) c1_0,nI y.d.place,nI y.d.time,nI y.d.no,nI y.w] 126 (0,0))]) [] (fun nu1=>[0≤i2,i2<(↑ALL.length:Int),cs1[off1+i2.toNat*11]?=some (nI y.o.no),cs1[off1+i2.toNat*11+(1:Nat)]?=some (Value.string y.o.key),cs1[off1+i2.toNat*11+(2:Nat)]?=some (nI y.o.kind),cs1[off1+i2.toNat*11+(3:Nat)]?=some (Value.string y.o.text),cs1[off1+i2.toNat*11+(4:Nat)]?=some (nI y.o.n),cs1[off1+i2.toNat*11+(5:Nat)]?=some (Value.bool y.o.remove),cs1[off1+i2.toNat*11+(6:Nat)]?=some (Value.slice (a1_0,c1_0).fst (List.map eDot y.o.dots).length (a1_0,c1_0).snd),cs1[off1+i2.toNat*11+(7:Nat)]?=some (nI y.d.place),cs1[off1+i2.toNat*11+(8:Nat)]?=some (nI y.d.time),cs1[off1+i2.toNat*11+(9:Nat)]?=some (nI y.d.no),cs1[off1+i2.toNat*11+(10:Nat)]?=some (nI y.w)]) (fun _=>⟨hi20,hlt4,hrd1_0,hrd1_1,hrd1_2,hrd1_3,hrd1_4,hrd1_5,hrd1_6,hrd1_7,hrd1_8,hrd1_9,hrd1_10,trivial⟩) (fun nu1=>?_)
     refine JR_appm 0 123 126 11 120 (.agg #[.int .i64 0,.string (ByteArray.mk #[]),.int .i64 0,.string (ByteArray.mk #[]),.int .i64 0,.bool false,.slice none 0 0,.int .i64 0,.int .i64 0,.int .i64 0,.int .i64 0]) (a0:=av1) (len:=k.toNat) (cap0:=cv1) (ax:=(some (⟨nu1 0,0,none⟩))) (m:=1) (c:=1) (dst:=(some 132)) [y] (by kernel_rfl) (by kernel_rfl) (by kernel_rfl) (by kernel_rfl) rfl (by decide) rfl (fun _ _ _ s=>src_one s 0 rfl rfl ⟨.inl ⟨rfl,rfl⟩,⟨.inl ⟨rfl,rfl⟩,⟨.inl ⟨rfl,rfl⟩,⟨.inl ⟨rfl,rfl⟩,⟨.inl ⟨rfl,rfl⟩,⟨.inl ⟨rfl,rfl⟩,⟨.inr (.inl (List.mem_of_getElem? (i:=2) rfl)),⟨.inl ⟨rfl,rfl⟩,⟨.inl ⟨rfl,rfl⟩,⟨.inl ⟨rfl,rfl⟩,⟨.inl ⟨rfl,rfl⟩,trivial⟩⟩⟩⟩⟩⟩⟩⟩⟩⟩⟩) (by simp only[maxLen];omega) (by omega) (fun av2 cv2=>?_)
     try simp only[aQ]
     refine Ya (id:=28) (rest:=[]) [zR 7] [132,126,131] [zS 15 av2 (k.toNat+1) cv2] ?_
     try simp only[aQ]
     refine JR_end ?_
     try simp only[aQ]
     have hkl:k=OUT.length:=by omega
     have hnil:∀w S,Rep w S (.slice a2 0 0) (.sl 11 ((OUT.drop k.toNat).map eDone)):=fun w S=>by
      rw[List.drop_of_length_le (by omega)]
      exact .nil
     by_cases hcc:OUT.length=c2
     ·refine J_stp (stp_fact fun w S _=>hnil w S) ?_
      refine Nm [cAcc (.slice av2 (k.toNat+1) cv2) 126 11 (List.map eDone (List.take k.toNat OUT++[y]))] ?_
      try simp only[aQ]
      refine jT [(0,true),(1,true),(2,true),(3,true),(4,false),(5,true)] [] ?_
      refine Yp (id:=29) (rest:=[(4,false),(5,true)]) (Rds 0 3++[.rd 3 [] 0 5]) [] [zS 133 av2 (k.toNat+1) cv2,zS 136 a2 0 0] [k=(↑c2:Int),OUT.length=c2] ⟨by omega,hcc,trivial⟩ ?_
      refine JR_appm 0 123 126 11 120 (.agg #[.int .i64 0,.string (ByteArray.mk #[]),.int .i64 0,.string (ByteArray.mk #[]),.int .i64 0,.bool false,.slice none 0 0,.int .i64 0,.int .i64 0,.int .i64 0,.int .i64 0]) (a0:=av2) (len:=k.toNat+1) (cap0:=cv2) (ax:=a2) (m:=0) (c:=0) (dst:=(some 137)) (List.drop k.toNat OUT) (by kernel_rfl) (by kernel_rfl) (by kernel_rfl) (by kernel_rfl) rfl (by decide) rfl (fun _ _ _ s=>src_fact s 6 rfl (by decide)) (by simp only[maxLen];omega) (by omega) (fun av3 cv3=>?_)
      rw[e8]
      try simp only[aQ]
      refine Ya (id:=29) (rest:=[]) [zR 5] [137,133,136] [zS 12 av3 (k.toNat+1) cv3] ?_
      try simp only[aQ]
      refine JR_end ?_
      try simp only[aQ]
      refine J_eb ?_
      try simp only[aQ]
      refine Zp [zR 0,.rd 1 [] 0 1,zR 2] [] [zI 13 (i2+1)] [IntKind.i64.wrap (i2+1)=i2+1] ⟨wrap_i64 (by omega) (by omega),trivial⟩ ?_
      try simp only[aQ]
      refine J_stpx (stp_good 0 rfl) fun _ hga=>?_
      refine J_stp (stp_freeze 0 rfl) ?_
      refine Nm [] ?_
      refine J_stp (stp_keep 7 rfl) ?_
      refine Nm [(cRep (Value.slice av3 (k.toNat+1+0) cv3) (D.sl 11 (List.map eDone (List.foldl (insG doneLt) [] (List.filter (fun z=>decide (z.o.key=key)) (List.take (i2+1).toNat ALL))))))] ?_
      refine J_backx ⟨i2+1,_,_,_⟩ [0,4,5,12,13] [] [0] [0,1] ?_ ?_ (by kernel_rfl) rfl rfl rfl
      ·exact⟨by simp only;omega,by simp only;omega,hga⟩
      ·simp only
       omega
     ·rcases hg2 with ⟨rfl,rfl⟩|⟨b,off,rfl⟩
      ·omega
      ·refine J_stp (stp_fact fun w S H=>(H (_,_) (List.mem_of_getElem? (i:=3) rfl)).dropM k.toNat (by omega)) ?_
       refine Nm [cAcc (.slice av2 (k.toNat+1) cv2) 126 11 (List.map eDone (List.take k.toNat OUT++[y]))] ?_
       try simp only[aQ]
       refine jT [(0,true),(1,true),(2,true),(3,true),(4,false),(5,true)] [] ?_
       refine Yp (id:=29) (rest:=[(4,false),(5,true)]) (Rds 0 3++[.rd 3 [] 0 4]) [] [zS 133 av2 (k.toNat+1) cv2,zS 136 (sA b (off+k.toNat*11)) (OUT.length - k.toNat) (c2 - k.toNat)] [0≤k,k≤(↑OUT.length:Int),k<(↑c2:Int)] ⟨hk0,hk,by omega,trivial⟩ ?_
       refine JR_appm 0 123 126 11 120 (.agg #[.int .i64 0,.string (ByteArray.mk #[]),.int .i64 0,.string (ByteArray.mk #[]),.int .i64 0,.bool false,.slice none 0 0,.int .i64 0,.int .i64 0,.int .i64 0,.int .i64 0]) (a0:=av2) (len:=k.toNat+1) (cap0:=cv2) (ax:=(some (⟨b,off+k.toNat*11,none⟩))) (m:=OUT.length - k.toNat) (c:=c2 - k.toNat) (dst:=(some 137)) (List.drop k.toNat OUT) (by kernel_rfl) (by kernel_rfl) (by kernel_rfl) (by kernel_rfl) rfl (by decide) rfl (fun _ _ _ s=>src_fact s 6 rfl (by decide)) (by simp only[maxLen];omega) (by omega) (fun av3 cv3=>?_)
       rw[e8]
       try simp only[aQ]
       refine Ya (id:=29) (rest:=[]) [zR 5] [137,133,136] [zS 12 av3 (k.toNat+1+(OUT.length - k.toNat)) cv3] ?_
       try simp only[aQ]
       refine JR_end ?_
       try simp only[aQ]
       refine J_eb ?_
       try simp only[aQ]
       refine Zp [zR 0,.rd 1 [] 0 1,zR 2] [] [zI 13 (i2+1)] [IntKind.i64.wrap (i2+1)=i2+1] ⟨wrap_i64 (by omega) (by omega),trivial⟩ ?_
       try simp only[aQ]
       refine J_stpx (stp_good 0 rfl) fun _ hga=>?_
       refine J_stp (stp_freeze 0 rfl) ?_
       refine Nm [] ?_
       refine J_stp (stp_keep 7 rfl) ?_
       refine Nm [(cRep (Value.slice av3 (k.toNat+1+(OUT.length - k.toNat)) cv3) (D.sl 11 (List.map eDone (List.foldl (insG doneLt) [] (List.filter (fun z=>decide (z.o.key=key)) (List.take (i2+1).toNat ALL))))))] ?_
       refine J_backx ⟨i2+1,_,_,_⟩ [0,4,5,12,13] [] [0] [0,1] ?_ ?_ (by kernel_rfl) rfl rfl rfl
       ·exact⟨by simp only;omega,by simp only;omega,hga⟩
       ·simp only
        omega
   ·have hkb:(y.o.key.toList==key.toList)=false:=by rw[strEq,decide_eq_false hkey]
    have e6:OUT=((ALL.take (i2+1).toNat).filter fun z=>decide (z.o.key=key)).foldl (insG doneLt) []:=by
     rw[←hOUT,←take_snoc hi20 hy,List.filter_append]
     simp[hkey]
    try simp only[aQ]
    refine J_skip (J_seq (J_block (J_seq ?_)))
    refine Zt [zR 0,zR 1,.rd 2 [] 0 2,zR 3,zR 4,.rd 5 [.r 0 (some (.string y.o.key))] 0 0,zR 6,.rd 7 [] 0 6] [93] [zB 103 true] [0≤i2,i2<(↑ALL.length:Int),cs1[off1+i2.toNat*11+(1:Nat)]?=some (Value.string y.o.key),(!y.o.key.toList==key.toList)=true] ⟨hi20,hlt4,hrd1_1,by simp[*];done,trivial⟩ ?_
    refine cTt ?_
    refine J_exit rfl ?_
    refine Zp [zR 0,.rd 1 [] 0 1,zR 2] [103] [zI 13 (i2+1)] [IntKind.i64.wrap (i2+1)=i2+1] ⟨wrap_i64 (by omega) (by omega),trivial⟩ ?_
    rw[e6]
    refine J_backx ⟨i2+1,_,_,_⟩ [0,4,5,12,13] [] [0] [0,1] ?_ ?_ (by kernel_rfl) rfl rfl rfl
    ·exact⟨by simp only;omega,by simp only;omega,hg2⟩
    ·simp only
     omega
  ·have hi3:ALL.take i2.toNat=ALL:=List.take_of_length_le (by simp at hlt3;omega)
   rw[hi3]
   have hO:(ALL.filter fun z=>decide (z.o.key=key)).foldl (insG doneLt) []=opsOf key l:=by
    rw[←hALL]
    exact sort_done ((firsts_nodup (s:=[]) (l:=allDone l)).sublist ((List.filter_sublist ..).map _))
   rw[hO]
   have hO12:(opsOf key l).length≤4000000:=by
    rw[←hO,insG_flen,List.length_nil,Nat.zero_add]
    exact Nat.le_trans (List.length_filter_le _ _) hA12
   have hofk:ofKey key l=(opsOf key l).filter fun z=>decide (z.o.kind=kindOf (opsOf key l)):=rfl
   rw[hofk]
   generalize opsOf key l=OUT at hO12
   refine J_stp (stp_rep 0 rfl) ?_
   refine J_stp (stp_accm eDone 126 11) ?_
   refine Nm [cAcc (.slice none 0 0) 126 11 (List.map eDone [])] ?_
   refine J_stpx (stp_replen 2 rfl) fun _ hn2=>?_
   rw[List.length_map]at hn2
   subst hn2
   try simp only[aQ]
   refine J_exit rfl ?_
   refine Zs [zR 0] [93,0,5,13] [zS 16 none 0 0] ?_
   refine J_seq ?_
   refine Zs [zR 0] [] [zI 17 0] ?_
   refine J_block ?_
   refine J_loopx (fun x:AccI=>[zS 4 none 0 0,zS 12 a2 OUT.length c2,zS 16 x.a x.k x.c,zI 17 x.i]) (fun x:AccI=>[]) (fun x:AccI=>[cAcc (.slice x.a x.k x.c) 126 11 (((OUT.take x.i.toNat).filter fun z=>decide (z.o.kind=kindOf OUT)).map eDone)]) (fun x:AccI=>[(.slice a l.length c,(D.sl 3 (List.map eCom l))),(.slice av ALL.length cv,(D.sl 11 (List.map eDone ALL))),(.slice a2 OUT.length c2,(D.sl 11 (List.map eDone OUT)))]) (fun x:AccI=>(OUT.length - x.i).toNat) (fun x:AccI=>(0≤x.i∧x.i≤OUT.length)) ⟨0,none,0,0⟩ [4,12,16,17] [] [0] [0,1,2] ?_ (by kernel_rfl) rfl rfl rfl ?_
   ·exact⟨by simp,by simp⟩
   rintro⟨i3,av3,k3,cv3⟩ ⟨hi30,hi3⟩
   dsimp only at hi30 hi3 ⊢
   refine J_stpx (stp_acclen 0 rfl) fun _ hk3=>?_
   have hk4:k3≤4000000:=by
    rw[List.length_map]at hk3
    have h1:=List.length_filter_le (fun z=>decide (z.o.kind=kindOf OUT)) (OUT.take i3.toNat)
    rw[List.length_take]at h1
    omega
   refine J_seq ?_
   refine Zs (Rds 0 4) [] [zB 141 (decide (i3<(↑OUT.length:Int)))] ?_
   refine cC (t:=decide (i3<(↑OUT.length:Int))) (fun hlt4=>?_) (fun hlt4=>?_)
   ·have hlt5:i3<OUT.length:=by simpa using hlt4
    obtain⟨z,hz⟩:∃z,OUT[i3.toNat]?=some z:=⟨_,List.getElem?_eq_getElem (by omega)⟩
    obtain⟨z0,hz0⟩:∃z,OUT[0]?=some z:=⟨_,List.getElem?_eq_getElem (by omega)⟩
    have hk0:kindOf OUT=z0.o.kind:=by
     cases OUT with
     | nil=>simp at hz0
     | cons q r=>
      simp only[List.getElem?_cons_zero,Option.some.injEq]at hz0
      subst hz0
      rfl
    refine J_read1 2 rfl i3.toNat (map_at hz) (by kernel_rfl) (fun b1 off1 cs1 ty1 fz1 a1_0 c1_0 ha1 hrd1=>?_)
    cases ha1
    have hrd1_0:=rd0 (hrd1 0 _ rfl)
    have hrd1_1:=hrd1 1 _ rfl
    have hrd1_2:=hrd1 2 _ rfl
    have hrd1_3:=hrd1 3 _ rfl
    have hrd1_4:=hrd1 4 _ rfl
    have hrd1_5:=hrd1 5 _ rfl
    have hrd1_6:=hrd1 6 _ rfl
    have hrd1_7:=hrd1 7 _ rfl
    have hrd1_8:=hrd1 8 _ rfl
    have hrd1_9:=hrd1 9 _ rfl
    have hrd1_10:=hrd1 10 _ rfl
    refine J_again1 2 rfl 0 rfl 0 (map_at hz0) (by kernel_rfl) (fun a2_0 c2_0 hrd2=>?_)
    have hrd2_0:=rd0 (hrd2 0 _ rfl)
    have hrd2_1:=hrd2 1 _ rfl
    have hrd2_2:=hrd2 2 _ rfl
    have hrd2_3:=hrd2 3 _ rfl
    have hrd2_4:=hrd2 4 _ rfl
    have hrd2_5:=hrd2 5 _ rfl
    have hrd2_6:=hrd2 6 _ rfl
    have hrd2_7:=hrd2 7 _ rfl
    have hrd2_8:=hrd2 8 _ rfl
    have hrd2_9:=hrd2 9 _ rfl
    have hrd2_10:=hrd2 10 _ rfl
    by_cases hkk:z.o.kind=z0.o.kind
    ·have e9:(OUT.take i3.toNat).filter (fun z=>decide (z.o.kind=kindOf OUT))++[z]=(OUT.take (i3+1).toNat).filter fun z=>decide (z.o.kind=kindOf OUT):=by
      rw[←take_snoc hi30 hz,List.filter_append]
      simp[hk0,hkk]
     try simp only[aQ]
     refine J_skip (J_seq (J_block ?_))
     refine Zt [zR 0,zR 1,.rd 2 [] 0 2,zR 3,zR 4,.rd 5 [.r 0 (some (nI z.o.kind))] 0 0,zR 6,.rd 7 [] 0 2,zR 8,zR 9,.rd 10 [.r 0 (some (nI z0.o.kind))] 0 0,.rd 11 [] 0 6] [141] [zB 155 true] [0≤i3,i3<(↑OUT.length:Int),cs1[off1+i3.toNat*11+(2:Nat)]?=some (nI z.o.kind),(0:Int)≤(0:Int),(0:Int)<(↑OUT.length:Int),cs1[off1+(0:Nat)*11+(2:Nat)]?=some (nI z0.o.kind),(z.o.kind==z0.o.kind)=true] ⟨hi30,hlt5,hrd1_2,by omega,by omega,hrd2_2,by simp;omega,trivial⟩ ?_
     refine cTt ?_
     refine jT [(0,true),(1,true),(2,true),(3,true),(4,true),(5,false),(6,false),(7,true)] [] ?_
     refine Yn (id:=35) (rest:=[(6,false),(7,true)]) (Rds 0 3++[.rd 3 [] 0 2,.rd 4 [.r 0 (some (nI z.o.no)),.r 0 (some (.string z.o.key)),.r 0 (some (nI z.o.kind)),.r 0 (some (.string z.o.text)),.r 0 (some (nI z.o.n)),.r 0 (some (.bool z.o.remove)),.r 0 (some (.slice (a1_0,c1_0).fst ((List.map eDot z.o.dots).length) c1_0)),.r 0 (some (nI z.d.place)),.r 0 (some (nI z.d.time)),.r 0 (some (nI z.d.no)),.r 0 (some (nI z.w))] 0 0,.wr 5 [] 0]) [155] (fun nu1=>[zS 156 av3 k3 cv3,zS 161 (sA (nu1 0) 0) 1 1]) (fun nu1=>[(nu1 0,.cells #[nI z.o.no,.string z.o.key,nI z.o.kind,.string z.o.text,nI z.o.n,.bool z.o.remove,.slice (a1_0,c1_0).fst ((List.map eDot z.o.dots).length) c1_0,nI z.d.place,nI z.d.time,nI z.d.no,nI z.w] 126 (0,0))]) [] (fun nu1=>[0≤i3,i3<(↑OUT.length:Int),cs1[off1+i3.toNat*11]?=some (nI z.o.no),cs1[off1+i3.toNat*11+(1:Nat)]?=some (Value.string z.o.key),cs1[off1+i3.toNat*11+(2:Nat)]?=some (nI z.o.kind),cs1[off1+i3.toNat*11+(3:Nat)]?=some (Value.string z.o.text),cs1[off1+i3.toNat*11+(4:Nat)]?=some (nI z.o.n),cs1[off1+i3.toNat*11+(5:Nat)]?=some (Value.bool z.o.remove),cs1[off1+i3.toNat*11+(6:Nat)]?=some (Value.slice (a1_0,c1_0).fst (List.map eDot z.o.dots).length (a1_0,c1_0).snd),cs1[off1+i3.toNat*11+(7:Nat)]?=some (nI z.d.place),cs1[off1+i3.toNat*11+(8:Nat)]?=some (nI z.d.time),cs1[off1+i3.toNat*11+(9:Nat)]?=some (nI z.d.no),cs1[off1+i3.toNat*11+(10:Nat)]?=some (nI z.w)]) (fun _=>⟨hi30,hlt5,hrd1_0,hrd1_1,hrd1_2,hrd1_3,hrd1_4,hrd1_5,hrd1_6,hrd1_7,hrd1_8,hrd1_9,hrd1_10,trivial⟩) (fun nu1=>?_)
     refine JR_appm 0 123 126 11 120 (.agg #[.int .i64 0,.string (ByteArray.mk #[]),.int .i64 0,.string (ByteArray.mk #[]),.int .i64 0,.bool false,.slice none 0 0,.int .i64 0,.int .i64 0,.int .i64 0,.int .i64 0]) (a0:=av3) (len:=k3) (cap0:=cv3) (ax:=(some (⟨nu1 0,0,none⟩))) (m:=1) (c:=1) (dst:=(some 162)) [z] (by kernel_rfl) (by kernel_rfl) (by kernel_rfl) (by kernel_rfl) rfl (by decide) rfl (fun _ _ _ s=>src_one s 0 rfl rfl ⟨.inl ⟨rfl,rfl⟩,⟨.inl ⟨rfl,rfl⟩,⟨.inl ⟨rfl,rfl⟩,⟨.inl ⟨rfl,rfl⟩,⟨.inl ⟨rfl,rfl⟩,⟨.inl ⟨rfl,rfl⟩,⟨.inr (.inl (List.mem_of_getElem? (i:=3) rfl)),⟨.inl ⟨rfl,rfl⟩,⟨.inl ⟨rfl,rfl⟩,⟨.inl ⟨rfl,rfl⟩,⟨.inl ⟨rfl,rfl⟩,trivial⟩⟩⟩⟩⟩⟩⟩⟩⟩⟩⟩) (by simp only[maxLen];omega) (by omega) (fun av1 cv1=>?_)
     rw[e9]
     try simp only[aQ]
     refine Ya (id:=35) (rest:=[]) [zR 7] [162,156,161] [zS 16 av1 (k3+1) cv1] ?_
     try simp only[aQ]
     refine JR_end ?_
     try simp only[aQ]
     refine J_eb ?_
     try simp only[aQ]
     refine Zp [zR 0,.rd 1 [] 0 1,zR 2] [] [zI 17 (i3+1)] [IntKind.i64.wrap (i3+1)=i3+1] ⟨wrap_i64 (by omega) (by omega),trivial⟩ ?_
     try simp only[aQ]
     refine J_backx ⟨i3+1,_,_,_⟩ [4,12,16,17] [] [0] [0,1,2] ?_ ?_ (by kernel_rfl) rfl rfl rfl
     ·exact⟨by simp only;omega,by simp only;omega⟩
     ·simp only
      omega
    ·have e9:(OUT.take i3.toNat).filter (fun z=>decide (z.o.kind=kindOf OUT))=(OUT.take (i3+1).toNat).filter fun z=>decide (z.o.kind=kindOf OUT):=by
      rw[←take_snoc hi30 hz,List.filter_append]
      simp[hk0,hkk]
     try simp only[aQ]
     refine J_skip (J_seq (J_block ?_))
     refine Zt [zR 0,zR 1,.rd 2 [] 0 2,zR 3,zR 4,.rd 5 [.r 0 (some (nI z.o.kind))] 0 0,zR 6,.rd 7 [] 0 2,zR 8,zR 9,.rd 10 [.r 0 (some (nI z0.o.kind))] 0 0,.rd 11 [] 0 7] [141] [zB 155 false] [0≤i3,i3<(↑OUT.length:Int),cs1[off1+i3.toNat*11+(2:Nat)]?=some (nI z.o.kind),(0:Int)≤(0:Int),(0:Int)<(↑OUT.length:Int),cs1[off1+(0:Nat)*11+(2:Nat)]?=some (nI z0.o.kind),(z.o.kind==z0.o.kind)=false] ⟨hi30,hlt5,hrd1_2,by omega,by omega,hrd2_2,by simp;omega,trivial⟩ ?_
     refine cF ?_
     refine J_skip (J_eb ?_)
     refine Zp [zR 0,.rd 1 [] 0 1,zR 2] [155] [zI 17 (i3+1)] [IntKind.i64.wrap (i3+1)=i3+1] ⟨wrap_i64 (by omega) (by omega),trivial⟩ ?_
     rw[e9]
     refine J_backx ⟨i3+1,_,_,_⟩ [4,12,16,17] [] [0] [0,1,2] ?_ ?_ (by kernel_rfl) rfl rfl rfl
     ·exact⟨by simp only;omega,by simp only;omega⟩
     ·simp only
      omega
   ·have hil3:OUT.take i3.toNat=OUT:=List.take_of_length_le (by simp at hlt4;omega)
    rw[hil3]
    refine J_exit rfl ?_
    refine Zs [zR 0,zR 1] [141,12,16,17] [zS 4 av3 k3 cv3] ?_
    refine Yr [[]] (.slice av3 k3 cv3) fun a w s=>?_
    exact⟨_,_,_,(s.stp (stp_freeze 0 rfl)).ret (by simp) [] [3] rfl rfl⟩
end Go.Proofs.YtpjkiomccpjboaaGreatDoor
end
section
namespace Go.Sx
open Go
structure KeyS where
 i:Int
 st:List ByteArray
 a:Option Addr
 n:Nat
 c:Nat
end Go.Sx
namespace Go.Proofs.YtpjkiomccpjboaaGreatDoor
open Go Go.Sx
def keysL (K:List ComT):List ByteArray:=(K.flatMap fun c=>c.ops.map (·.key)).foldl enterB []
theorem keysL_snoc (A:List ComT) (x:ComT):keysL (A++[x])=(x.ops.map (·.key)).foldl enterB (keysL A):=by
 simp[keysL,List.foldl_append]
theorem keysL_len {K:List ComT} (h:∀c∈K,c.ops.length≤20):(keysL K).length≤20*K.length:=by
 have h1:=setOf_lenF (K.flatMap fun c=>c.ops.map (·.key)) []
 have h2:(K.flatMap fun c=>c.ops.map (·.key)).length≤20*K.length:=by
  clear h1
  induction K with
  | nil=>simp
  | cons c K ih=>
   have h3:=ih fun d hd=>h d (List.mem_cons_of_mem _ hd)
   have h4:=h c (List.mem_cons_self ..)
   rw[List.flatMap_cons,List.length_append,List.length_map,List.length_cons]
   omega
 rw[keysL]
 simp only[List.length_nil]at h1
 omega
set_option maxHeartbeats 4000000 in
theorem rKeysV {w:World} {S:Nat→Prop} {M:List Nat} {mb:Nat} {ba la:Option Addr} {nb cb lk lc:Nat} {K:List ComT} (hP:Pre w S M [cObj mb (.cells #[.slice ba nb cb,.slice la lk lc] 85 (0,0)),cAcc (.slice la lk lc) 28 3 (K.map eCom)])
  (hKl:K.length≤1000) (hK:∀c∈K,c.ops.length≤20) :
  Calls Tryz.prog 51 #[.pointer (some ⟨mb,0,none⟩)] w fun e w'=>∃ua un uc,Ret M w S w' e (.slice ua un uc) [cObj mb (.cells #[.slice ba nb cb,.slice la lk lc] 85 (0,0)),cAcc (.slice la lk lc) 28 3 (K.map eCom)] [(.slice ua un uc,dStrs (keysL K))]:=by
 refine enG Tryz.func51 bd51 (args:=[.pointer (some ⟨mb,0,none⟩)]) (S:=S) (G:=[]) (by kernel_rfl) hP (.nil _ _) ?_
 refine J_stpx (stp_acclen 1 rfl) fun _ hk=>?_
 rw[List.length_map]at hk
 subst hk
 refine J_show 0 rfl ?_
 by_cases hK0:K=[]
 ·subst hK0
  refine Zs [zR 0] [] [zS 2 none 0 0] ?_
  refine Zs [zR 0] [] [zS 3 none 0 0] ?_
  refine J_seq ?_
  refine Zs [zR 0] [] [zI 4 0] ?_
  refine J_block ?_
  refine J_loop1 fun I=>?_
  refine J_seq ?_
  refine Zs (Rds 0 4++[.rd 4 [.o 0 none] 0 0,zR 5,zR 6]) [] [zB 12 false] ?_
  refine cF ?_
  refine J_exit rfl ?_
  refine Zs [zR 0,zR 1] [12,4,3,0] [] ?_
  refine Yr [[]] (.slice none 0 0) fun a w s=>?_
  exact⟨_,_,_,((s.hide 0 rfl).stp (stp_fact (v:=.slice none 0 0) (d:=dStrs (keysL [])) fun _ _ _=>.nil)).ret (by simp) [1,0] [0] rfl rfl⟩
 ·refine J_openacc 0 rfl (by simpa using hK0) fun g cur xs hu _ _ hrow=>?_
  subst hu
  refine J_stp (stp_add (cRep (.slice none 0 0) (dStrs [])) fun _ _=>⟨rfl,.nil⟩) ?_
  try simp only[aQ]
  refine J_seq ?_
  try simp only[aQ]
  refine Za [zR 0] [] [zS 2 none 0 0] ?_
  try simp only[aQ]
  refine J_seq ?_
  try simp only[aQ]
  refine Za [zR 0] [] [zS 3 none 0 0] ?_
  try simp only[aQ]
  refine J_seq ?_
  try simp only[aQ]
  refine J_seq ?_
  try simp only[aQ]
  refine Za [zR 0] [] [zI 4 0] ?_
  try simp only[aQ]
  refine J_block ?_
  try simp only[aQ]
  refine J_loopx (fun y:KeyS=>[zP 0 mb,zS 2 none 0 0,zS 3 y.a y.n y.c,zI 4 y.i]) (fun y:KeyS=>[(mb,.cells #[.slice ba nb cb,.slice (sA g 0) K.length lc] 85 (0,0)),(g,.cells cur 28 (0,0))]) (fun y:KeyS=>[cRows xs 3 (K.map eCom),cRep (.slice y.a y.n y.c) (dStrs y.st)]) (fun y:KeyS=>[]) (fun y:KeyS=>(K.length - y.i).toNat) (fun y:KeyS=>(0≤y.i∧y.i≤K.length∧y.st=keysL (K.take y.i.toNat)∧GoodS y.a y.c)) ⟨0,[],none,0,0⟩ [0,2,3,4] [0,1] [0,1] [] ?_ (by kernel_rfl) rfl rfl rfl ?_
  ·exact⟨by simp,by simp,rfl,.inl ⟨rfl,rfl⟩⟩
  rintro⟨i,st,av,nv,cv⟩ ⟨hi0,hi,hst,hg⟩
  dsimp only at hi0 hi hst hg ⊢
  refine J_seq ?_
  refine Zs (Rds 0 4++[.rd 4 [.o 0 none] 0 0,zR 5,zR 6]) [] [zB 12 (decide (i<(↑K.length:Int)))] ?_
  refine cC (t:=decide (i<(↑K.length:Int))) (fun hlt=>?_) (fun hlt=>?_)
  ·have hlt2:i<K.length:=by simpa using hlt
   obtain⟨x,hx⟩:∃x,K[i.toNat]?=some x:=⟨_,List.getElem?_eq_getElem (by omega)⟩
   have hxo:=hK x (List.mem_of_getElem? hx)
   have hsl:st.length≤20000:=by
    rw[hst]
    refine Nat.le_trans (keysL_len fun c hc=>hK c (List.mem_of_mem_take hc)) ?_
    rw[List.length_take]
    omega
   have hnx:keysL (K.take (i+1).toNat)=(x.ops.map (·.key)).foldl enterB st:=by
    rw[←take_snoc hi0 hx,keysL_snoc,hst]
   refine J_stpx (stp_readrows 0 rfl i.toNat (map_at hx)) fun ls hls=>?_
   obtain⟨hls1,hls2⟩:=hls
   obtain⟨⟨xa,xc⟩,⟨ya,yc⟩,rfl⟩:=pairL hls1
   have f:=fun(j:Nat) v h=>hrow.atx (hls2 j v h)
   have r0:=f 0 _ rfl
   have r1:=f 1 _ rfl
   have r2:=f 2 _ rfl
   rw[Nat.add_zero]at r0
   rw[←Nat.zero_add (i.toNat*3)]at r0 r1 r2
   refine Nm [(cRows xs 3 (List.map eCom K)),(cRep (Value.slice av nv cv) (dStrs st))] ?_
   try simp only[aQ]
   refine J_skip (J_seq (J_block ?_))
   refine Zs [zR 0] [12] [zI 5 0] ?_
   refine J_block ?_
   refine J_loopx (fun z:KeyS=>[zP 0 mb,zS 2 none 0 0,zS 3 z.a z.n z.c,zI 4 i,zI 5 z.i]) (fun z:KeyS=>[(mb,.cells #[.slice ba nb cb,.slice (sA g 0) K.length lc] 85 (0,0)),(g,.cells cur 28 (0,0))]) (fun z:KeyS=>[cRows xs 3 (K.map eCom),cRep (.slice z.a z.n z.c) (dStrs z.st)]) (fun z:KeyS=>[(.slice (xa,xc).fst ((List.map eI x.when).length) xc,(D.sl 1 (List.map eI x.when))),(.slice (ya,yc).fst ((List.map eOp x.ops).length) yc,(D.sl 7 (List.map eOp x.ops)))]) (fun z:KeyS=>(x.ops.length - z.i).toNat) (fun z:KeyS=>(0≤z.i∧z.i≤x.ops.length∧z.st=((x.ops.take z.i.toNat).map (·.key)).foldl enterB st∧GoodS z.a z.c)) ⟨0,st,av,nv,cv⟩ [0,2,3,4,5] [0,1] [0,1] [0,1] ?_ (by kernel_rfl) rfl rfl rfl ?_
   ·exact⟨by simp,by simp,rfl,hg⟩
   rintro⟨k,s2,a2,n2,c2⟩ ⟨hk0,hk,hs2,hg2⟩
   dsimp only at hk0 hk hs2 hg2 ⊢
   refine J_seq ?_
   refine Zt (Rds 0 4++[.rd 4 [.o 0 none] 0 0,zR 5,.rd 6 [] 0 2,zR 7,.rd 8 [.o 1 (some (.slice (ya,yc).fst ((List.map eOp x.ops).length) yc))] 0 0,zR 9,zR 10]) [] [zB 25 (decide (k<(↑(List.map eOp x.ops).length:Int)))] [0≤i,i<(↑K.length:Int),cur[(0:Nat)+i.toNat*3+(2:Nat)]?=some (Value.slice (ya,yc).fst (List.map eOp x.ops).length (ya,yc).snd)] ⟨hi0,hlt2,r2,trivial⟩ ?_
   refine cC (t:=decide (k<(↑(List.map eOp x.ops).length:Int))) (fun hlk=>?_) (fun hlk=>?_)
   ·have hlk2:k<x.ops.length:=by simpa using hlk
    obtain⟨o,ho⟩:∃o,x.ops[k.toNat]?=some o:=⟨_,List.getElem?_eq_getElem (by omega)⟩
    have hsl2:s2.length≤4000000:=by
     rw[hs2]
     refine Nat.le_trans (setOf_lenF _ _) ?_
     rw[List.length_map,List.length_take]
     omega
    refine J_stp (stp_rep 1 rfl) ?_
    refine Nm [(cRows xs 3 (List.map eCom K))] ?_
    refine J_read1 1 rfl k.toNat (map_at ho) (by kernel_rfl) (fun b1 off1 cs1 ty1 fz1 a1_0 c1_0 ha1 hrd1=>?_)
    cases ha1
    have hrd1_0:=rd0 (hrd1 0 _ rfl)
    have hrd1_1:=hrd1 1 _ rfl
    have hrd1_2:=hrd1 2 _ rfl
    have hrd1_3:=hrd1 3 _ rfl
    have hrd1_4:=hrd1 4 _ rfl
    have hrd1_5:=hrd1 5 _ rfl
    have hrd1_6:=hrd1 6 _ rfl
    try simp only[aQ]
    refine J_skip (J_seq (J_block ?_))
    refine jT [(0,true),(1,true),(2,true),(3,true),(4,true),(5,true),(6,true),(7,true),(8,true),(9,true),(10,true),(11,true),(12,true),(13,false),(14,true)] [] ?_
    refine Yp (id:=8) (rest:=[(13,false),(14,true)]) (Rds 0 4++[.rd 4 [.o 0 none] 0 0,zR 5,.rd 6 [] 0 2,zR 7,.rd 8 [.o 1 (some (.slice (sA b1 off1) ((List.map eOp x.ops).length) yc))] 0 0,zR 9,.rd 10 [] 0 2,zR 11,.rd 12 [.r 0 (some (.string o.key))] 0 0]) [25] [zS 28 a2 n2 c2,zV 40 (.string o.key)] [0≤i,i<(↑K.length:Int),cur[(0:Nat)+i.toNat*3+(2:Nat)]?=some (Value.slice (some (Addr.mk b1 off1 none),yc).fst (List.map eOp x.ops).length (some (Addr.mk b1 off1 none),yc).snd),0≤k,k<(↑(List.map eOp x.ops).length:Int),cs1[off1+k.toNat*7+(1:Nat)]?=some (Value.string o.key)] ⟨hi0,hlt2,r2,hk0,by simp;omega,hrd1_1,trivial⟩ ?_
    refine Yc 72 #[.slice a2 n2 c2,.string o.key] (some 41) fun w S hG=>?_
    refine(rEnter (t:=o.key) (hG.at 2 rfl) hsl2 hg2).mono ?_
    rintro e3 w3 ⟨ua,un,uc,hR,hg3⟩
    refine⟨_,_,_,hR,?_⟩
    try simp only[aQ]
    refine Ya (id:=8) (rest:=[]) [zR 14] [41,28,40] [zS 3 ua un uc] ?_
    refine JR_end (J_eb ?_)
    refine Zp [zR 0,.rd 1 [] 0 1,zR 2] [] [zI 5 (k+1)] [IntKind.i64.wrap (k+1)=k+1] ⟨wrap_i64 (by omega) (by omega),trivial⟩ ?_
    refine J_stp (stp_keep 4 rfl) ?_
    refine Nm [(cRows xs 3 (List.map eCom K)),(cRep (Value.slice ua un uc) (dStrs (enterB s2 o.key)))] ?_
    refine J_backx ⟨k+1,enterB s2 o.key,_,_,_⟩ [0,2,3,4,5] [0,1] [0,1] [0,1] ?_ ?_ (by kernel_rfl) rfl rfl rfl
    ·refine⟨by simp only;omega,by simp only;omega,?_,hg3⟩
     dsimp only
     rw[←take_snoc hk0 ho,List.map_append,List.foldl_append,hs2]
     rfl
    ·simp only
     omega
   ·rw[List.take_of_length_le (by simp at hlk;omega)]at hs2
    refine J_exit rfl ?_
    refine J_eb ?_
    refine Zp [zR 0,.rd 1 [] 0 1,zR 2] [25] [zI 4 (i+1)] [IntKind.i64.wrap (i+1)=i+1] ⟨wrap_i64 (by omega) (by omega),trivial⟩ ?_
    refine J_backx ⟨i+1,s2,a2,n2,c2⟩ [0,2,3,4] [0,1] [0,1] [] ?_ ?_ (by kernel_rfl) rfl rfl rfl
    ·exact⟨by simp only;omega,by simp only;omega,by dsimp only;rw[hnx,hs2],hg2⟩
    ·simp only
     omega
  ·rw[List.take_of_length_le (by simp at hlt;omega)]at hst
   subst hst
   refine J_exit rfl ?_
   refine Zs [zR 0,zR 1] [12,0,3,4] [zS 2 av nv cv] ?_
   refine Yr [[]] (.slice av nv cv) fun a w s=>?_
   have s1:=(s.hide 1 rfl).stp (stp_closeacc 2 0 rfl rfl hrow (by decide))
   rw[show(List.map eCom K).length=K.length from List.length_map ..]at s1
   exact⟨_,_,_,((s1.stp (stp_rep 0 rfl)).hide 0 rfl).ret (by simp) [1,0] [0] rfl rfl⟩
end Go.Proofs.YtpjkiomccpjboaaGreatDoor
end
section
namespace Go.Proofs.YtpjkiomccpjboaaGreatDoor
open Go Go.Sx
abbrev opK5:OpT:=⟨0,keyK,2,ByteArray.mk #[],5,false,[]⟩
abbrev comK5:ComT:=⟨[1],0,[opK5]⟩
theorem opK5_fine:opErr opK5 ((1:Nat):Int)=0:=by
 have h0:(ByteArray.mk #[]).size=0:=rfl
 rw[opRest (by simp) nameK (.inr (.inl rfl)) (by simp[shapeOk,h0]),if_neg (by simp only[List.length_nil,h0];omega),if_neg (by simp[badDots])]
theorem comK5_fine:(comFault comK5).code=0:=comFault_mk (by decide) (by simp) (by simp) (by simp) (by simp) (by simp) (fun o ho=>by obtain rfl:=List.mem_singleton.1 ho;exact opK5_fine) (by simp)
theorem comK5_put:(putFault 1 [0] [] comK5).code=0:=putFault_zero.2 ⟨comK5_fine,rfl,by decide,by simp⟩
theorem atK {t:Int} (h0:t=0∨t=1):atErr 1 [0] keyK [t]=0:=by
 rcases h0 with rfl|rfl <;> (rw[atErr,if_neg (by rw[nameK];decide)];decide)
theorem valK5:(Sx.valOf keyK (withinC [⟨[1],0,opK5⟩] keyK [1])).n=5:=by
 have h1:withinC [⟨[1],0,opK5⟩] keyK [1]=[comK5]:=by
  simp[withinC,keyC,oneC,inL]
 have h2:opsOf keyK [comK5]=[⟨opK5,⟨0,1,0⟩,1⟩]:=by simp[opsOf,sortDone,opsRaw,allDone,firsts,doneOf,dotOf,wsum]
 rw[h1]
 simp[Sx.valOf,h2,kindOf,ofKey,kindL,sumN]
theorem valK0:(Sx.valOf keyK (withinC [⟨[1],0,opK5⟩] keyK [0])).kind=0:=by
 have h1:withinC [⟨[1],0,opK5⟩] keyK [0]=[]:=by
  simp[withinC,keyC,oneC,inL]
 rw[h1]
 simp[Sx.valOf,opsOf,sortDone,opsRaw,allDone,firsts,kindOf]
set_option maxHeartbeats 4000000 in
theorem stored {w:World} {S:Nat→Prop} {er:Nat→Addr} {eb:Nat→Array Value×TypeId} (hC:Rep w S .nilIface (dC er eb)) :
  Calls Tryz.prog 33 #[] w fun e w'=>Ret [] (zero w) S w' e (.bool true) [] []:=by
 refine epG Tryz.func33 bd33 (args:=[]) (G:=[(_,dC er eb)]) (by kernel_rfl) (.cons hC (.nil _ _)) ?_
 refine J_zero ?_
 refine Zs [zR 0] [] [zB 0 false] ?_
 refine jS [(0,false),(1,true),(2,true),(3,true),(4,true),(5,true)] [] ?_
 refine Yc 34 #[nI 1] (some 9) fun w S hG=>?_
 refine(vNew (p:=1) (hG.at 0 rfl)).mono ?_
 rintro e1 w1 (⟨h,_⟩|⟨_,b,ba,mk,md,hR⟩)
 ·omega
 refine⟨_,_,_,hR,?_⟩
 try simp only[aQ]
 refine Ya (id:=1) (rest:=[]) (Rds 1 6) [9] [zP 1 b,zV 2 .nilIface] ?_
 refine JR_end (J_seq ?_)
 refine Zs (Rds 0 6) [2] [zB 17 false] ?_
 refine cF ?_
 refine J_skip ?_
 refine jS [(0,true),(1,false),(2,true),(3,false),(4,true),(5,false),(6,true)] [] ?_
 refine Ym (id:=4) (rest:=[(5,false),(6,true)]) [zR 0,.wr 1 [] 0,zR 2,.wr 3 [] 0,zR 4] [17] (fun nu1=>[zP 18 b,zV 22 (.agg #[.slice (sA (nu1 0) 0) 1 1,nI 0,.slice (sA (nu1 1) 0) 1 1])]) (fun nu1=>[(nu1 0,.cells #[nI 1] 3 (0,0)),(nu1 1,.cells #[nI 0,.string (ByteArray.mk #[107]),nI 2,.string (ByteArray.mk #[]),nI 5,.bool false,.slice none 0 0] 24 (0,0))]) [] (fun nu1=>?_)
 refine JR_data (size:=1) 0 eI [(1:Int)] 1 rfl (by kernel_rfl) (by decide) (by intro x _;rfl) (by simp) ⟨.inl ⟨rfl,rfl⟩,trivial⟩ ?_
 refine JR_data (size:=7) 0 eOp [opK5] 1 rfl (by kernel_rfl) (by decide) (by intro x _;rfl) (by simp) ⟨.inl ⟨rfl,rfl⟩,⟨.inl ⟨rfl,rfl⟩,⟨.inl ⟨rfl,rfl⟩,⟨.inl ⟨rfl,rfl⟩,⟨.inl ⟨rfl,rfl⟩,⟨.inl ⟨rfl,rfl⟩,⟨.inr (.inr ⟨_,_,_,rfl,rfl⟩),trivial⟩⟩⟩⟩⟩⟩⟩ ?_
 refine JR_call [] [0,1,2,3] 36 #[.pointer (some (⟨b,0,none⟩)),.agg #[.slice (some (⟨nu1 0,0,none⟩)) 1 1,.int .i64 0,.slice (some (⟨nu1 1,0,none⟩)) 1 1]] (some 23) (by kernel_rfl) (by kernel_rfl) (by decide) (fun w S M hP hG _=>?_)
 have hm0:MapG (MapKept.IsKey .string) #[] (strG [] fun _=>.nilIface):=(MapG.empty _).congr fun k=>(strG_nil _ k).symm
 refine(vPut (p:=1) (base:=[0]) (L:=[]) (ks:=[]) (F:=fun _=>.nilIface) (c:=comK5) (hG.at 0 rfl) hP (hG.at 1 rfl) (by decide) rfl (hG.at 2 rfl) (hG.at 3 rfl) (by simp) (by simp) (by simp) (by simp) hm0 (MapKept.stamped_empty 0) (by simp) (by simp[keyC])).mono ?_
 rintro e2 w2 (⟨hf,_⟩|⟨_,es1,ck1,ks1,F1,hR,hm1,hst1,hnd1,hiff1⟩)
 ·exact absurd comK5_put hf
 refine⟨_,_,_,hR,?_⟩
 have hLr:∀q∈([]++putsOf comK5 comK5.ops:List PutT),(comFault (oneC q)).code=0∧q.when.length=1:=fun q hq=>by
  obtain rfl:=List.mem_singleton.1 hq
  exact⟨comK5_fine,rfl⟩
 try simp only[aQ]
 refine Ya (id:=4) (rest:=[]) [zR 6] [23,18,22] [zV 3 .nilIface] ?_
 try simp only[aQ]
 refine JR_end ?_
 try simp only[aQ]
 refine J_seq ?_
 try simp only[aQ]
 refine jT [(0,true),(1,false),(2,false),(3,true),(4,true),(5,true),(6,false),(7,false),(8,true)] [] ?_
 refine Ym (id:=5) (rest:=[(2,false),(3,true),(4,true),(5,true),(6,false),(7,false),(8,true)]) [zR 0,.wr 1 [] 0] [] (fun nu2=>[zP 25 b,zS 26 (sA (nu2 0) 0) 1 1]) (fun nu2=>[(nu2 0,.cells #[nI 1] 3 (0,0))]) [] (fun nu2=>?_)
 refine JR_data (size:=1) 0 eI [(1:Int)] 1 rfl (by kernel_rfl) (by decide) (by intro x _;rfl) (by simp) ⟨.inl ⟨rfl,rfl⟩,trivial⟩ ?_
 refine JR_callz [] [0,1,2,3] 38 #[.pointer (some (⟨b,0,none⟩)),.string (ByteArray.mk #[107]),.slice (some (⟨nu2 0,0,none⟩)) 1 1] (some 27) zero_all (by kernel_rfl) (by kernel_rfl) (by decide) (fun w S M hP hG _=>?_)
 refine(vRead (p:=1) (base:=[0]) (at':=[1]) (key:=keyK) (hG.at 0 rfl) hP (hG.at 1 rfl) (by decide) rfl (hG.at 4 rfl) (by simp) (by simp[putsOf]) hLr hm1 hnd1 hiff1).mono ?_
 rintro e3 w3 (⟨h,_⟩|⟨_,ua,un,uc,hR⟩)
 ·exact absurd (atK (.inr rfl)) h
 refine⟨_,_,_,hR,?_⟩
 try simp only[aQ]
 refine Ym (id:=5) (rest:=[]) (Rds 3 6++[.wr 6 [] 0,.wr 7 (hnO 0 4) 0,zR 8]) [27,25,26] (fun nu3=>[zP 4 (nu3 0),zV 5 .nilIface]) (fun nu3=>[(nu3 0,.cells #[nI 2,.string ((Sx.valOf keyK (withinC (putsOf comK5 [opK5]) keyK [1])).text),nI 5,.slice ua un uc] 47 (0,0))]) [] (fun nu3=>?_)
 try simp only[aQ]
 refine JR_end ?_
 try simp only[aQ]
 refine J_seq ?_
 try simp only[aQ]
 refine jT [(0,true),(1,false),(2,false),(3,true),(4,true),(5,true),(6,false),(7,false),(8,true)] [] ?_
 refine Ym (id:=6) (rest:=[(2,false),(3,true),(4,true),(5,true),(6,false),(7,false),(8,true)]) [zR 0,.wr 1 [] 0] [1] (fun nu4=>[zP 31 b,zS 32 (sA (nu4 0) 0) 1 1]) (fun nu4=>[(nu3 0,.cells #[nI 2,.string ((Sx.valOf keyK (withinC (putsOf comK5 [opK5]) keyK [1])).text),nI 5,.slice ua un uc] 47 (0,0)),(nu4 0,.cells #[nI 0] 3 (0,0))]) [] (fun nu4=>?_)
 refine JR_data (size:=1) 1 eI [(0:Int)] 1 rfl (by kernel_rfl) (by decide) (by intro x _;rfl) (by simp) ⟨.inl ⟨rfl,rfl⟩,trivial⟩ ?_
 refine JR_callz [] [0,1,2,3] 38 #[.pointer (some (⟨b,0,none⟩)),.string (ByteArray.mk #[107]),.slice (some (⟨nu4 0,0,none⟩)) 1 1] (some 33) zero_all (by kernel_rfl) (by kernel_rfl) (by decide) (fun w S M hP hG _=>?_)
 refine(vRead (p:=1) (base:=[0]) (at':=[0]) (key:=keyK) (hG.at 0 rfl) hP (hG.at 1 rfl) (by decide) rfl (hG.at 6 rfl) (by simp) (by simp[putsOf]) hLr hm1 hnd1 hiff1).mono ?_
 rintro e4 w4 (⟨h,_⟩|⟨_,va,vn,vc,hR⟩)
 ·exact absurd (atK (.inl rfl)) h
 refine⟨_,_,_,hR,?_⟩
 have hv5:(Sx.valOf keyK (withinC ([]++putsOf comK5 comK5.ops) keyK [1])).n=5:=valK5
 have hv0:(Sx.valOf keyK (withinC ([]++putsOf comK5 comK5.ops) keyK [0])).kind=0:=valK0
 try simp only[aQ]
 refine Ym (id:=6) (rest:=[]) (Rds 3 6++[.wr 6 [] 0,.wr 7 (hnO 1 4) 0,zR 8]) [33,31,32] (fun nu5=>[zP 6 (nu5 0),zV 7 .nilIface]) (fun nu5=>[(nu3 0,.cells #[nI 2,.string ((Sx.valOf keyK (withinC (putsOf comK5 [opK5]) keyK [1])).text),nI 5,.slice ua un uc] 47 (0,0)),(nu5 0,.cells #[nI 0,.string ((Sx.valOf keyK (withinC (putsOf comK5 [opK5]) keyK [0])).text),nI 0,.slice va vn vc] 47 (0,0))]) [] (fun nu5=>?_)
 try simp only[aQ]
 refine JR_end ?_
 try simp only[aQ]
 refine J_seq ?_
 try simp only[aQ]
 refine Za (Rds 0 12++[.rd 12 [.o 0 none] 0 0]++Rds 13 17++[.rd 17 [.o 1 none] 0 0]++Rds 18 21) [6,7,4,5,3] [zB 0 true] ?_
 try simp only[aQ]
 refine Yr [[]] (.bool true) fun a w s=>?_
 exact s.retz (by simp) [] [] rfl rfl
end Go.Proofs.YtpjkiomccpjboaaGreatDoor
end
section
namespace Go.Proofs.YtpjkiomccpjboaaGreatDoor
open Go Go.Sx
structure KeptA (p:Nat) (l:List ComT) (K:List ComT):Prop where
 mem:∀c∈K,c∈l
 ok:∀c∈K,(comFault c).code=0∧c.when.length=p∧inL c.when (List.replicate p 0)=false
 nodup:((putsAll K).map dotP).Nodup
theorem ret_drop {M:List Nat} {w:World} {S:Nat→Prop} {w':World} {e:Ending} {v:Value} {C:List Chunk} {G:List (Value×D)} (h:Ret M w S w' e v C G):Ret M w S w' e v C []:=by
 obtain⟨fps,h1,h2,h3,_⟩:=h.gh
 exact⟨h.ret,h.fr,fps,h1,h2,h3,fun x hx=>by cases hx⟩
theorem nodup_len {α:Type} [DecidableEq α]:∀(ks M:List α),ks.Nodup→(∀t∈ks,t∈M)→ks.length≤M.length
 | [],M,_,_=>Nat.zero_le _
 | t::r,M,hn,hs=>by
  have h1:=List.nodup_cons.1 hn
  have htM:=hs t (List.mem_cons_self ..)
  have h2:=nodup_len r (M.erase t) h1.2 fun x hx=>(List.mem_erase_of_ne fun he=>h1.1 (by rw[←he];exact hx)).2 (hs x (List.mem_cons_of_mem _ hx))
  have h3:=List.length_erase_of_mem htM
  have h4:0<M.length:=List.length_pos_of_mem htM
  rw[List.length_cons]
  omega
theorem key_of {L:List PutT} {t:ByteArray} (h:keyC L t≠[]):∃q∈L,q.op.key=t:=by
 obtain⟨x,hx⟩:=List.exists_mem_of_ne_nil _ h
 obtain⟨q,hq,rfl⟩:=List.mem_map.1 hx
 have:=List.mem_filter.1 hq
 exact⟨q,this.1,by simpa using this.2⟩
theorem ks_len2 {L:List PutT} {ks:List ByteArray} (hn:ks.Nodup) (h:∀t,t∈ks↔keyC L t≠[]):ks.length≤L.length:=by
 have:=nodup_len ks (L.map (·.op.key)) hn fun t ht=>by
  obtain⟨q,hq,rfl⟩:=key_of ((h t).1 ht)
  exact List.mem_map_of_mem hq
 rwa[List.length_map]at this
theorem mem_putsAll {K:List ComT} {q:PutT} (h:q∈putsAll K):∃c∈K,∃o∈c.ops,q=⟨c.when,c.place,o⟩:=by
 obtain⟨c,hc,hq⟩:=List.mem_flatMap.1 h
 obtain⟨o,ho,rfl⟩:=List.mem_map.1 hq
 exact⟨c,hc,o,ho,rfl⟩
theorem KeptA.right {p:Nat} {l K:List ComT} (h:KeptA p l K) {q:PutT} (hq:q∈putsAll K):(comFault (oneC q)).code=0∧q.when.length=p:=by
 obtain⟨c,hc,o,ho,rfl⟩:=mem_putsAll hq
 have h1:=h.ok c hc
 exact⟨PartOf.fault (c':=oneC ⟨c.when,c.place,o⟩) (c:=c) ⟨rfl,rfl,by simp[oneC],List.singleton_sublist.2 ho⟩ h1.1,h1.2.1⟩
theorem KeptA.key {p:Nat} {l K:List ComT} (h:KeptA p l K) {q:PutT} (hq:q∈putsAll K):q.op.key.size≤1000000:=by
 obtain⟨c,hc,o,ho,rfl⟩:=mem_putsAll hq
 have h1:=(opErr_fine (right_ops (h.ok c hc).1 o ho)).1
 show o.key.size≤1000000
 simp[nameOk]at h1
 omega
theorem putsAll_len {K:List ComT} (h:∀c∈K,(comFault c).code=0):(putsAll K).length≤12*K.length:=by
 induction K with
 | nil=>simp[putsAll]
 | cons c K ih=>
  have h1:=(right_of (h c (List.mem_cons_self ..))).o2
  have h2:=ih fun d hd=>h d (List.mem_cons_of_mem _ hd)
  have h3:putsAll (c::K)=putsOf c c.ops++putsAll K:=rfl
  rw[h3,List.length_append,putsOf,List.length_map,List.length_cons]
  omega
end Go.Proofs.YtpjkiomccpjboaaGreatDoor
end
section
namespace Go.Proofs.YtpjkiomccpjboaaGreatDoor
open Go Go.Sx
theorem has_puts {K:List ComT} {d:DotT}:hasL K d=true↔d∈(putsAll K).map dotP:=by
 rw[hasL,List.any_eq_true,List.mem_map]
 constructor
 ·rintro⟨c,hc,h⟩
  rw[hasC,Bool.and_eq_true,Bool.and_eq_true,decide_eq_true_eq,decide_eq_true_eq,List.any_eq_true]at h
  obtain⟨⟨h1,h2⟩,o,ho,h3⟩:=h
  rw[decide_eq_true_eq]at h3
  refine⟨⟨c.when,c.place,o⟩,List.mem_flatMap.2 ⟨c,hc,List.mem_map_of_mem ho⟩,?_⟩
  rw[dotP,h2,h1,h3]
 ·rintro⟨q,hq,rfl⟩
  obtain⟨c,hc,o,ho,rfl⟩:=mem_putsAll hq
  refine⟨c,hc,?_⟩
  rw[hasC,Bool.and_eq_true,Bool.and_eq_true,decide_eq_true_eq,decide_eq_true_eq,List.any_eq_true]
  exact⟨⟨rfl,rfl⟩,o,ho,by simp[dotP]⟩
theorem hasAt_puts (K:List ComT) (c:ComT):hasAt K c=exiAt (putsAll K) c:=by
 funext i
 unfold hasAt exiAt
 cases c.ops[i]? with
 | none=>rfl
 | some o=>
  by_cases h:dotOf c o∈(putsAll K).map dotP
  ·simp only[if_pos h,if_pos (has_puts.2 h)]
  ·have h2:¬hasL K (dotOf c o)=true:=fun hh=>h (has_puts.1 hh)
   simp only[if_neg h,if_neg h2]
theorem rPutF_puts (p:Nat) (base:List Int) (K:List ComT) (c:ComT):rPutF p base K c=putFault p base (putsAll K) c:=by
 rw[rPutF,putFault,hasAt_puts]
theorem atE_at (p:Nat) (base:List Int) (key:ByteArray) (at':List Int):atE p base key at'=atErr p base key at':=rfl
theorem keys_puts {K:List ComT} {ks:List ByteArray} (hn:ks.Nodup) (hk:∀t,t∈ks↔keyC (putsAll K) t≠[]):keysL K=sortB ks:=by
 refine(sortB_set hn fun t=>?_).symm
 rw[hk,List.mem_flatMap]
 constructor
 ·intro h
  obtain⟨q,hq,rfl⟩:=key_of h
  obtain⟨c,hc,o,ho,rfl⟩:=mem_putsAll hq
  exact⟨c,hc,List.mem_map_of_mem ho⟩
 ·rintro⟨c,hc,h⟩
  obtain⟨o,ho,rfl⟩:=List.mem_map.1 h
  intro h0
  have:oneC ⟨c.when,c.place,o⟩∈keyC (putsAll K) o.key:=List.mem_map_of_mem (List.mem_filter.2 ⟨List.mem_flatMap.2 ⟨c,hc,List.mem_map_of_mem ho⟩,by simp⟩)
  rw[h0]at this
  cases this
theorem done_puts {K:List ComT} {x:DoneT}:x∈allDone K↔∃q∈putsAll K,x=⟨q.op,dotP q,wsum q.when⟩:=by
 rw[mem_allDone]
 constructor
 ·rintro⟨c,hc,o,ho,rfl⟩
  exact⟨⟨c.when,c.place,o⟩,List.mem_flatMap.2 ⟨c,hc,List.mem_map_of_mem ho⟩,rfl⟩
 ·rintro⟨q,hq,rfl⟩
  obtain⟨c,hc,o,ho,rfl⟩:=mem_putsAll hq
  exact⟨c,hc,o,ho,rfl⟩
theorem done_within {L:List PutT} {key:ByteArray} {at':List Int} {x:DoneT}:x∈allDone (withinC L key at')↔∃q∈L,q.op.key=key∧inL q.when at'=true∧x=⟨q.op,dotP q,wsum q.when⟩:=by
 rw[mem_allDone]
 constructor
 ·rintro⟨c,hc,o,ho,rfl⟩
  obtain⟨h1,h2⟩:=List.mem_filter.1 hc
  obtain⟨q,hq,rfl⟩:=List.mem_map.1 h1
  obtain⟨hqL,hqk⟩:=List.mem_filter.1 hq
  obtain rfl:=List.mem_singleton.1 ho
  exact⟨q,hqL,by simpa using hqk,h2,rfl⟩
 ·rintro⟨q,hq,hk,hi,rfl⟩
  exact⟨oneC q,List.mem_filter.2 ⟨List.mem_map_of_mem (List.mem_filter.2 ⟨hq,by simpa using hk⟩),hi⟩,q.op,List.mem_singleton.2 rfl,rfl⟩
theorem filter_puts {K:List ComT} {at':List Int} {q:PutT}:q∈putsAll (K.filter fun c=>inL c.when at')↔q∈putsAll K∧inL q.when at'=true:=by
 constructor
 ·intro h
  obtain⟨c,hc,o,ho,rfl⟩:=mem_putsAll h
  obtain⟨h1,h2⟩:=List.mem_filter.1 hc
  exact⟨List.mem_flatMap.2 ⟨c,h1,List.mem_map_of_mem ho⟩,h2⟩
 ·rintro⟨h,h2⟩
  obtain⟨c,hc,o,ho,rfl⟩:=mem_putsAll h
  exact List.mem_flatMap.2 ⟨c,List.mem_filter.2 ⟨hc,h2⟩,List.mem_map_of_mem ho⟩
theorem puts_fun {L:List PutT} (hn:(L.map dotP).Nodup) {q q':PutT} (hq:q∈L) (hq':q'∈L) (h:dotP q=dotP q'):q=q':=by
 obtain⟨i,hi⟩:=List.getElem?_of_mem hq
 obtain⟨j,hj⟩:=List.getElem?_of_mem hq'
 have hi2:(L.map dotP)[i]?=some (dotP q):=by rw[List.getElem?_map,hi];rfl
 have hj2:(L.map dotP)[j]?=some (dotP q'):=by rw[List.getElem?_map,hj];rfl
 have hij:i=j:=(List.getElem?_inj (List.getElem?_eq_some_iff.1 hi2).1 hn).1 (hi2.trans (by rw[hj2,h]))
 subst hij
 rw[hi]at hj
 exact Option.some.inj hj
theorem ops_doc {K:List ComT} (hn:((putsAll K).map dotP).Nodup) (key:ByteArray) (at':List Int):opsOf key (K.filter fun c=>inL c.when at')=opsOf key (withinC (putsAll K) key at'):=by
 have hf1:∀x∈allDone (K.filter fun c=>inL c.when at'),∀y∈allDone (K.filter fun c=>inL c.when at'),x.d=y.d→x=y:=fun x hx y hy he=>by
  obtain⟨q,hq,rfl⟩:=done_puts.1 hx
  obtain⟨q',hq',rfl⟩:=done_puts.1 hy
  rw[puts_fun hn (filter_puts.1 hq).1 (filter_puts.1 hq').1 he]
 have hf2:∀x∈allDone (withinC (putsAll K) key at'),∀y∈allDone (withinC (putsAll K) key at'),x.d=y.d→x=y:=fun x hx y hy he=>by
  obtain⟨q,hq,_,_,rfl⟩:=done_within.1 hx
  obtain⟨q',hq',_,_,rfl⟩:=done_within.1 hy
  rw[puts_fun hn hq hq' he]
 refine eq_of_sorted (lt:=fun a b=>doneLt a b=true) (fun _ _=>doneLt_asymm) (opsOf_strict key _) (opsOf_strict key _) fun x=>?_
 rw[opsOf_mem,opsOf_mem,firsts_mem hf1,firsts_mem hf2,done_puts,done_within]
 constructor
 ·rintro⟨⟨q,hq,rfl⟩,hk⟩
  obtain⟨h1,h2⟩:=filter_puts.1 hq
  exact⟨⟨q,h1,hk,h2,rfl⟩,hk⟩
 ·rintro⟨⟨q,hq,hk,hi,rfl⟩,hk2⟩
  exact⟨⟨q,filter_puts.2 ⟨hq,hi⟩,rfl⟩,hk2⟩
theorem val_doc {K:List ComT} (hn:((putsAll K).map dotP).Nodup) (key:ByteArray) (at':List Int):Sx.valOf key (K.filter fun c=>inL c.when at')=Sx.valOf key (withinC (putsAll K) key at'):=valOf_same (ops_doc hn key at')
theorem dots_doc {K:List ComT} (hn:((putsAll K).map dotP).Nodup) (key text:ByteArray) (at':List Int):dotsOf key text (K.filter fun c=>inL c.when at')=dotsOf key text (withinC (putsAll K) key at'):=by
 simp only[dotsOf,ofKey,ops_doc hn key at']
theorem filter_fine {K:List ComT} {key:ByteArray} {at':List Int} {p:Nat} (hk:nameOk key=true) (h:∀c∈K,(comFault c).code=0∧c.when.length=p):(valFault key (K.filter fun c=>inL c.when at')).code=0:=
 valFault_mk hk (fun c hc=>(h c (List.mem_filter.1 hc).1).1) p fun c hc=>(h c (List.mem_filter.1 hc).1).2
theorem comFault_fine {c:ComT} (h:(comFault c).code=0):comFault c=⟨0,-1⟩:=by
 unfold comFault at h ⊢
 split at h
 ·exact absurd h ‹_›
 ·rename_i h1
  rw[if_neg h1]
  split at h
  ·cases h
  ·rename_i h2
   rw[if_neg h2]
   split at h
   ·cases h
   ·rename_i h3
    rw[if_neg h3]
    split at h
    ·cases h
    ·rename_i h4
     rw[if_neg h4]
     exact(opsFault_from c.ops.length 0 c.ops.length (Nat.zero_le _) fun j _ hj=>opsFault_zero h j hj).1 (by omega)
structure ActsOk (p n:Nat) (base:List Int) (K:List ComT):Prop where
 vec:vecErr base=0
 len:base.length=p
 few:K.length≤n
 ok:∀c∈K,(comFault c).code=0∧c.when.length=p
 nodup:((putsAll K).map dotP).Nodup
theorem ActsOk.next {p n:Nat} {base:List Int} {K:List ComT} (h:ActsOk p n base K):ActsOk p (n+1) base K:=⟨h.vec,h.len,Nat.le_succ_of_le h.few,h.ok,h.nodup⟩
theorem ActsOk.put {p n:Nat} {base:List Int} {K:List ComT} {c:ComT} (h:ActsOk p n base K) (hc:CanPut p base (putsAll K) c):ActsOk p (n+1) base (K++[c]):=by
 refine⟨h.vec,h.len,by rw[List.length_append,List.length_singleton];have:=h.few;omega,fun d hd=>?_,?_⟩
 ·rcases List.mem_append.1 hd with hd|hd
  ·exact h.ok d hd
  ·obtain rfl:=List.mem_singleton.1 hd
   exact⟨hc.com,hc.len⟩
 ·rw[putsAll_snoc]
  exact hc.nodup h.nodup
theorem ActsOk.prune {p n:Nat} {base at':List Int} {K:List ComT} (h:ActsOk p n base K) (ha:pruneErr p at'=0):ActsOk p (n+1) (List.zipWith max base at') K:=by
 obtain⟨h1,h2⟩:=prune_fine ha
 have hl:base.length=at'.length:=by rw[h.len,h2]
 exact⟨zip_fine max_or h.vec h1 hl,by rw[zip_len hl,h.len],Nat.le_succ_of_le h.few,h.ok,h.nodup⟩
theorem ActsOk.right {p n:Nat} {base:List Int} {K:List ComT} (h:ActsOk p n base K) {q:PutT} (hq:q∈putsAll K):(comFault (oneC q)).code=0∧q.when.length=p:=by
 obtain⟨c,hc,o,ho,rfl⟩:=mem_putsAll hq
 have h1:=h.ok c hc
 exact⟨PartOf.fault (c':=oneC ⟨c.when,c.place,o⟩) (c:=c) ⟨rfl,rfl,by simp[oneC],List.singleton_sublist.2 ho⟩ h1.1,h1.2⟩
theorem ActsOk.key {p n:Nat} {base:List Int} {K:List ComT} (h:ActsOk p n base K) {q:PutT} (hq:q∈putsAll K):q.op.key.size≤1000000:=by
 obtain⟨c,hc,o,ho,rfl⟩:=mem_putsAll hq
 have h1:=(opErr_fine (right_ops (h.ok c hc).1 o ho)).1
 show o.key.size≤1000000
 simp[nameOk]at h1
 omega
theorem ActsOk.puts {p n:Nat} {base:List Int} {K:List ComT} (h:ActsOk p n base K):(putsAll K).length≤12*n:=by
 have h1:=putsAll_len fun c hc=>(h.ok c hc).1
 have h2:=h.few
 omega
theorem ActsOk.place {p n:Nat} {base:List Int} {K:List ComT} (h:ActsOk p n base K):∀c∈K,0≤c.place∧c.place<c.when.length∧c.ops.length≤1000000:=fun c hc=>by
 have h1:=right_of (h.ok c hc).1
 exact⟨h1.p0,h1.p1,by have:=h1.o2;omega⟩
end Go.Proofs.YtpjkiomccpjboaaGreatDoor
end
