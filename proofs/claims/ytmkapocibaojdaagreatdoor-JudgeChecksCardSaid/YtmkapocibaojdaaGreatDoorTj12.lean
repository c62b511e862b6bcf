/- Part 12 of the texts of a claim: JgW RefO RefV. -/
import Derived.Test.YtmkapocibaojdaaGreatDoorTj11
section
namespace Go.Proofs.YtmkapocibaojdaaGreatDoor
open Go Go.Sx
set_option maxHeartbeats 4000000 in
theorem rows_zero {w:World} {S:Nat→Prop} (n:Nat):RowsAt w S (List.replicate n (.int .i64 0)) 1 ((List.replicate n 0).map eI):=by
 refine⟨fun row h=>?_,fun i j row d h1 h2=>?_⟩
 ·obtain⟨b,_,rfl⟩:=List.mem_map.1 h
  rfl
 ·rw[List.getElem?_map,Option.map_eq_some_iff]at h1
  obtain⟨b,hb,rfl⟩:=h1
  obtain⟨hi,rfl⟩:=List.getElem?_eq_some_iff.1 hb
  rw[List.length_replicate]at hi
  rw[List.getElem_replicate]at h2
  cases j with
  | zero=>
   cases h2
   exact⟨.int .i64 0,by simp[hi],.v rfl⟩
  | succ j=>cases h2
set_option maxHeartbeats 16000000 in
theorem rCuts {w:World} {S:Nat→Prop} {ua:Option Addr} {un uc:Nat} {l:List EvT} (h:Rep w S (.slice ua un uc) (.sl 7 (l.map eEv))) (hl:l.length≤20) (hf:∀x∈l,Fits x) :
  Calls Tryz.prog 56 #[.slice ua un uc] w fun e w'=>∃ra rn rc,Ret [] w S w' e (.tuple #[.slice ra rn rc,.agg #[.int .i64 (cutsE l).2.code,.int .i64 (cutsE l).2.at']]) [] [(.slice ra rn rc,.sl 1 ((cutsE l).1.map eRw))]:=by
 have e1:=h.slen
 rw[List.length_map]at e1
 subst e1
 refine epG Tryz.func56 bd56 (args:=[.slice ua l.length uc]) (S:=S) (G:=[(_,.sl 7 (l.map eEv))]) (by kernel_rfl) (.cons h (.nil _ _)) ?_
 refine Zv [zR 0,.wr 1 [] 0] [] [] (fun nu1=>[zS 2 none 0 0,zP 3 (nu1 0)]) o0 (fun nu1=>[(nu1 0,.cells #[nI 0,nI 0] 105 (0,0))]) (fun nu1=>?_)
 refine J_seq ?_
 refine Zs [zR 0] [] [zI 4 0] ?_
 refine J_block ?_
 refine J_loopx (fun i:Int=>[zS 0 ua l.length uc,zS 2 none 0 0,zP 3 (nu1 0),zI 4 i]) (fun i:Int=>[(nu1 0,.cells #[nI 0,nI 0] 105 (0,0))]) (fun i:Int=>[]) (fun i:Int=>[(.slice ua l.length uc,(D.sl 7 (List.map eEv l)))]) (fun i:Int=>(l.length - i).toNat) (fun i:Int=>(0≤i∧i≤l.length∧∀k y,k<i.toNat→l[k]?=some y→cutE l y=0)) 0 [0,2,3,4] [0] [] [0] ?_ (by kernel_rfl) rfl rfl rfl ?_
 ·exact⟨by simp,by omega,by simp⟩
 rintro i ⟨hi0,hi,hno⟩
 refine J_seq ?_
 refine Zs (Rds 0 4) [] [zB 20 (decide (i<(↑l.length:Int)))] ?_
 refine cC (t:=decide (i<(↑l.length:Int))) (fun hlt=>?_) (fun hlt=>?_)
 ·have hlt2:i<l.length:=of_decide_eq_true hlt
  obtain⟨x,hx⟩:∃x,l[i.toNat]?=some x:=⟨_,List.getElem?_eq_getElem (by omega)⟩
  obtain⟨x0,hx0⟩:∃x,l[0]?=some x:=⟨_,List.getElem?_eq_getElem (by omega)⟩
  have hxm:=List.mem_of_getElem? hx
  have hfx:=hf x hxm
  have hf1:=hfx.at'
  have hf2:=hfx.wh
  have hh:((l.head?).map (·.at'.length)).getD 0=x0.at'.length:=by
   rw[List.head?_eq_getElem?,hx0]
   rfl
  have hbad:∀k:Nat,cutE l x=k→k≠0→cutsE l=([],⟨k,i⟩):=fun k hk h0=>by
   have:=firstE_at (f:=fun _=>cutE l) (i:=0) hx (by rw[hk];exact h0) fun k y hk hy=>hno k y hk hy
   rw[cutsE,this,Nat.zero_add,hk,Int.toNat_of_nonneg hi0,if_pos h0]
  have hnext:cutE l x=0→∀k y,k<(i+1).toNat→l[k]?=some y→cutE l y=0:=fun h0 k y hk hy=>by
   by_cases hki:k=i.toNat
   ·subst hki
    rw[hx]at hy
    cases hy
    exact h0
   ·exact hno k y (by omega) hy
  refine J_read4 0 rfl i.toNat (map_at hx) (by kernel_rfl) (fun b1 off1 cs1 ty1 fz1 a1_0 c1_0 a1_1 c1_1 a1_2 c1_2 a1_3 c1_3 ha1 hrd1=>?_)
  cases ha1
  have hrd1_0:=rd0 (hrd1 0 _ rfl)
  have hrd1_1:=hrd1 1 _ rfl
  have hrd1_2:=hrd1 2 _ rfl
  have hrd1_3:=hrd1 3 _ rfl
  have hrd1_4:=hrd1 4 _ rfl
  have hrd1_5:=hrd1 5 _ rfl
  have hrd1_6:=hrd1 6 _ rfl
  try simp only[aQ]
  refine J_skip (J_seq (J_block ?_))
  refine jS [(0,true),(1,true),(2,true),(3,true),(4,true),(5,true),(6,true),(7,true),(8,true),(9,true),(10,true),(11,false),(12,true)] [] ?_
  refine Yp [zR 0,zR 1,.rd 2 [] 0 2,zR 3,zR 4,.rd 5 [.r 0 (some (.slice (a1_2,c1_2).fst ((List.map eI x.c.when).length) c1_2))] 0 0,zR 6,zR 7,.rd 8 [] 0 2,zR 9,.rd 10 [.r 0 (some (.slice (a1_0,c1_0).fst ((List.map eI x.at').length) c1_0))] 0 0] [20] [zS 28 (a1_2,c1_2).fst ((List.map eI x.c.when).length) c1_2,zS 33 (a1_0,c1_0).fst ((List.map eI x.at').length) c1_0] (oC hi0 (oC hlt2 (oC hrd1_4 (oC hi0 (oC hlt2 (oC hrd1_2 oN)))))) ?_
  refine Yc 53 #[.slice (a1_2,c1_2).fst ((List.map eI x.c.when).length) c1_2,.slice (a1_0,c1_0).fst ((List.map eI x.at').length) c1_0] (some 34) fun w S hG=>?_
  refine(rTwoErr (hG.at 3 rfl) (hG.at 1 rfl) (by omega) (by omega)).mono ?_
  rintro e3 w3 hR
  refine⟨_,_,_,hR,?_⟩
  try simp only[aQ]
  refine Ya [zR 12] [34,28,33] [zI 5 ((↑(twoErr x.c.when x.at'):Int))] ?_
  refine JR_end (J_seq (J_seq ?_))
  refine J_again4 0 rfl 0 rfl 0 (map_at hx0) (by kernel_rfl) (fun a2_0 c2_0 a2_1 c2_1 a2_2 c2_2 a2_3 c2_3 hrd2=>?_)
  have hrd2_0:=rd0 (hrd2 0 _ rfl)
  have hrd2_1:=hrd2 1 _ rfl
  have hrd2_2:=hrd2 2 _ rfl
  have hrd2_3:=hrd2 3 _ rfl
  have hrd2_4:=hrd2 4 _ rfl
  have hrd2_5:=hrd2 5 _ rfl
  have hrd2_6:=hrd2 6 _ rfl
  have hz0:cs1[off1+2]?=some (.slice a2_0 (x0.at'.map eI).length c2_0):=hrd2_2
  rw[List.length_map]at hz0
  by_cases ht:twoErr x.c.when x.at'=0
  ·by_cases hle:x.at'.length=x0.at'.length
   ·have hk:cutE l x=0:=by rw[cutE,if_neg (by simp[ht]),hh,if_neg (by simp[hle])]
    rw[ht]
    try simp only[aQ]
    refine Zp (Rds 0 5++[.rd 5 [] 0 2,zR 6,.rd 7 [.r 0 (some (.slice (a1_0,c1_0).fst ((List.map eI x.at').length) c1_0))] 0 0,zR 8,zR 9,.rd 10 [] 0 2,zR 11,.rd 12 [.r 0 (some (.slice (a2_0,c2_0).fst ((List.map eI x0.at').length) c2_0))] 0 0,zR 13,.rd 14 [] 0 7,zR 15]) [] [zB 50 false] (oC hi0 (oC hlt2 (oC hrd1_2 (oC (show(0:Int)≤(0:Int) from by omega) (oC (show(0:Int)<(↑l.length:Int) from by omega) (oC hrd2_2 (oC (show((↑(List.map eI x.at').length:Int) != (↑(List.map eI x0.at').length:Int))=false from by simp;omega) oN))))))) ?_
    refine cF ?_
    refine J_skip ?_
    refine Zs [zR 0,zR 1] [50] [zB 52 false] ?_
    refine cF ?_
    refine J_skip (J_eb ?_)
    refine Zp [zR 0,.rd 1 [] 0 1,zR 2] [52] [zI 4 (i+1)] (oC (show IntKind.i64.wrap (i+1)=i+1 from wrap_i64 (by omega) (by omega)) oN) ?_
    refine J_backx (i+1) [0,2,3,4] [0] [] [0] ?_ ?_ (by kernel_rfl) rfl rfl rfl
    ·exact⟨by omega,by omega,hnext hk⟩
    ·omega
   ·have hk:cutE l x=3:=by rw[cutE,if_neg (by simp[ht]),hh,if_pos hle]
    rw[ht]
    try simp only[aQ]
    refine Zp (Rds 0 5++[.rd 5 [] 0 2,zR 6,.rd 7 [.r 0 (some (.slice (a1_0,c1_0).fst ((List.map eI x.at').length) c1_0))] 0 0,zR 8,zR 9,.rd 10 [] 0 2,zR 11,.rd 12 [.r 0 (some (.slice (a2_0,c2_0).fst ((List.map eI x0.at').length) c2_0))] 0 0,zR 13,.rd 14 [] 0 6,zR 15]) [] [zB 50 true] (oC hi0 (oC hlt2 (oC hrd1_2 (oC (show(0:Int)≤(0:Int) from by omega) (oC (show(0:Int)<(↑l.length:Int) from by omega) (oC hrd2_2 (oC (show((↑(List.map eI x.at').length:Int) != (↑(List.map eI x0.at').length:Int))=true from by simp;omega) oN))))))) ?_
    refine cTt ?_
    refine Za [zR 0] [50] [zI 5 3] ?_
    refine Zs [zR 0,zR 1] [] [zB 52 true] ?_
    refine cTt ?_
    refine Zv (Rds 0 4++[.wr 4 [.o 0 none,.o 0 none] 0]) [(4,[0])] [52] (fun _=>[]) (fun _=>[(0,.cells #[nI 3,nI i] 105 (0,0))]) o0 (fun _=>?_)
    refine Yr [[],[.o 0 none,.o 0 none]] (.tuple #[.slice none 0 0,.agg #[nI 3,nI i]]) fun a w s=>?_
    rw[hbad _ hk (by decide)]
    exact⟨_,_,_,(s.stp (stp_fact (v:=.slice none 0 0) (d:=.sl 1 []) fun _ _ _=>.nil)).ret (by simp) [] [9] rfl rfl⟩
  ·have hk:cutE l x=twoErr x.c.when x.at':=by rw[cutE,if_pos ht]
   try simp only[aQ]
   refine Zp [zR 0,.rd 1 [] 0 7,zR 2,.rd 3 [] 1 0,.rd 4 [] 1 0,.rd 5 [] 1 0,.rd 6 [] 1 0,.rd 7 [] 1 0,.rd 8 [] 1 0,.rd 9 [] 1 0,.rd 10 [] 1 0,.rd 11 [] 1 0,.rd 12 [] 1 0,.rd 13 [] 1 0,.rd 14 [] 1 0,zR 15] [] [zB 50 false] (oC (show((↑(twoErr x.c.when x.at'):Int)==(0:Int))=false from by simp;omega) oN) ?_
   refine cF ?_
   refine J_skip ?_
   refine Zt [zR 0,.rd 1 [] 0 6] [50] [zB 52 true] (oC (show decide ((↑(twoErr x.c.when x.at'):Int)>(0:Int))=true from by simp;omega) oN) ?_
   refine cTt ?_
   refine Zv (Rds 0 4++[.wr 4 [.o 0 none,.o 0 none] 0]) [(4,[0])] [52] (fun _=>[]) (fun _=>[(0,.cells #[nI ((↑(twoErr x.c.when x.at'):Int)),nI i] 105 (0,0))]) o0 (fun _=>?_)
   refine Yr [[],[.o 0 none,.o 0 none]] (.tuple #[.slice none 0 0,.agg #[nI ((↑(twoErr x.c.when x.at'):Int)),nI i]]) fun a w s=>?_
   rw[hbad _ hk ht]
   exact⟨_,_,_,(s.stp (stp_fact (v:=.slice none 0 0) (d:=.sl 1 []) fun _ _ _=>.nil)).ret (by simp) [] [9] rfl rfl⟩
 have hie:i.toNat=l.length:=by have:=of_decide_eq_false hlt;omega
 have hall:∀x∈l,cutE l x=0:=fun x hx=>by
  obtain⟨k,hk⟩:=List.getElem?_of_mem hx
  exact hno k x (by have:=(List.getElem?_eq_some_iff.1 hk).1;omega) hk
 have hce:cutsE l=if (roundsE l l.length (l.map fun _=>false) l.length).2 then ((roundsE l l.length (l.map fun _=>false) l.length).1,⟨0,-1⟩)else ([],⟨10,-1⟩):=by
  rw[cutsE,firstE_none (f:=fun _=>cutE l) fun k x hx=>hall x (List.mem_of_getElem? hx),if_neg (by simp)]
 have hE:=even_cut hall
 refine J_exit rfl ?_
 refine J_seq ?_
 have hQ:∀e w',(∃ra rn rc,Ret [] w S w' e (.tuple #[.slice ra rn rc,.agg #[.int .i64 (if (roundsE l l.length (l.map fun _=>false) l.length).2 then 0 else 10),.int .i64 (-1)]]) [] [(.slice ra rn rc,.sl 1 ((if (roundsE l l.length (l.map fun _=>false) l.length).2 then (roundsE l l.length (l.map fun _=>false) l.length).1 else []).map eRw))])→∃ra rn rc,Ret [] w S w' e (.tuple #[.slice ra rn rc,.agg #[.int .i64 (cutsE l).2.code,.int .i64 (cutsE l).2.at']]) [] [(.slice ra rn rc,.sl 1 ((cutsE l).1.map eRw))]:=fun e w' hh=>by
  rw[hce]
  cases hb:(roundsE l l.length (l.map fun _=>false) l.length).2 with
  | true=>
   rw[hb]at hh
   exact hh
  | false=>
   rw[hb]at hh
   exact hh
 rcases(by omega:l.length=0∨l.length=1∨l.length=2∨l.length=3∨l.length=4∨l.length=5∨l.length=6∨l.length=7∨l.length=8∨l.length=9∨l.length=10∨l.length=11∨l.length=12∨l.length=13∨l.length=14∨l.length=15∨l.length=16∨l.length=17∨l.length=18∨l.length=19∨l.length=20)with hk|hk|hk|hk|hk|hk|hk|hk|hk|hk|hk|hk|hk|hk|hk|hk|hk|hk|hk|hk|hk
 ·rw[hk]
  refine Zm [zR 0,zR 1,.wr 2 [] 0,zR 3] [] [20,4] (fun nu2=>[zS 6 (sA (nu2 0) 0) 0 0]) o0 (fun nu2=>[(nu2 0,.cells #[] 3 (0,0))]) (fun nu2=>?_)
  refine J_seq (J_seq ?_)
  refine J_stp (stp_add (cRows (List.replicate 0 (.int .i64 0)) 1 ((List.replicate 0 0).map eI)) fun _ _=>⟨rfl,rows_zero 0⟩) ?_
  refine Nm [(cRows (List.replicate 0 (nI 0)) 1 (List.map eI (List.replicate 0 0)))] ?_
  have hr:Row (List.replicate 0 (Value.int .i64 0)).toArray 0 0 1 (List.replicate 0 (.int .i64 0)):=⟨rfl,rfl,Nat.le_refl _,by decide,rfl⟩
  have ht:=fun np nb=>rCutsTail (w0:=w) (S0:=S) (ua:=ua) (uc:=uc) (np:=np) (nb:=nb) hk hE hl hr hQ
  rw[hk]at ht
  exact J_keep [0,2,3,6] (ht _ _)
 ·rw[hk]
  refine Zm [zR 0,zR 1,.wr 2 [] 0,zR 3] [] [20,4] (fun nu2=>[zS 6 (sA (nu2 0) 0) 1 1]) o0 (fun nu2=>[(nu2 0,.cells #[nI 0] 3 (0,0))]) (fun nu2=>?_)
  refine J_seq (J_seq ?_)
  refine J_stp (stp_add (cRows (List.replicate 1 (.int .i64 0)) 1 ((List.replicate 1 0).map eI)) fun _ _=>⟨rfl,rows_zero 1⟩) ?_
  refine Nm [(cRows (List.replicate 1 (nI 0)) 1 (List.map eI (List.replicate 1 0)))] ?_
  have hr:Row (List.replicate 1 (Value.int .i64 0)).toArray 1 1 1 (List.replicate 1 (.int .i64 0)):=⟨rfl,rfl,Nat.le_refl _,by decide,rfl⟩
  have ht:=fun np nb=>rCutsTail (w0:=w) (S0:=S) (ua:=ua) (uc:=uc) (np:=np) (nb:=nb) hk hE hl hr hQ
  rw[hk]at ht
  exact J_keep [0,2,3,6] (ht _ _)
 ·rw[hk]
  refine Zm [zR 0,zR 1,.wr 2 [] 0,zR 3] [] [20,4] (fun nu2=>[zS 6 (sA (nu2 0) 0) 2 2]) o0 (fun nu2=>[(nu2 0,.cells #[nI 0,nI 0] 3 (0,0))]) (fun nu2=>?_)
  refine J_seq (J_seq ?_)
  refine J_stp (stp_add (cRows (List.replicate 2 (.int .i64 0)) 1 ((List.replicate 2 0).map eI)) fun _ _=>⟨rfl,rows_zero 2⟩) ?_
  refine Nm [(cRows (List.replicate 2 (nI 0)) 1 (List.map eI (List.replicate 2 0)))] ?_
  have hr:Row (List.replicate 2 (Value.int .i64 0)).toArray 2 2 1 (List.replicate 2 (.int .i64 0)):=⟨rfl,rfl,Nat.le_refl _,by decide,rfl⟩
  have ht:=fun np nb=>rCutsTail (w0:=w) (S0:=S) (ua:=ua) (uc:=uc) (np:=np) (nb:=nb) hk hE hl hr hQ
  rw[hk]at ht
  exact J_keep [0,2,3,6] (ht _ _)
 ·rw[hk]
  refine Zm [zR 0,zR 1,.wr 2 [] 0,zR 3] [] [20,4] (fun nu2=>[zS 6 (sA (nu2 0) 0) 3 3]) o0 (fun nu2=>[(nu2 0,.cells #[nI 0,nI 0,nI 0] 3 (0,0))]) (fun nu2=>?_)
  refine J_seq (J_seq ?_)
  refine J_stp (stp_add (cRows (List.replicate 3 (.int .i64 0)) 1 ((List.replicate 3 0).map eI)) fun _ _=>⟨rfl,rows_zero 3⟩) ?_
  refine Nm [(cRows (List.replicate 3 (nI 0)) 1 (List.map eI (List.replicate 3 0)))] ?_
  have hr:Row (List.replicate 3 (Value.int .i64 0)).toArray 3 3 1 (List.replicate 3 (.int .i64 0)):=⟨rfl,rfl,Nat.le_refl _,by decide,rfl⟩
  have ht:=fun np nb=>rCutsTail (w0:=w) (S0:=S) (ua:=ua) (uc:=uc) (np:=np) (nb:=nb) hk hE hl hr hQ
  rw[hk]at ht
  exact J_keep [0,2,3,6] (ht _ _)
 ·rw[hk]
  refine Zm [zR 0,zR 1,.wr 2 [] 0,zR 3] [] [20,4] (fun nu2=>[zS 6 (sA (nu2 0) 0) 4 4]) o0 (fun nu2=>[(nu2 0,.cells #[nI 0,nI 0,nI 0,nI 0] 3 (0,0))]) (fun nu2=>?_)
  refine J_seq (J_seq ?_)
  refine J_stp (stp_add (cRows (List.replicate 4 (.int .i64 0)) 1 ((List.replicate 4 0).map eI)) fun _ _=>⟨rfl,rows_zero 4⟩) ?_
  refine Nm [(cRows (List.replicate 4 (nI 0)) 1 (List.map eI (List.replicate 4 0)))] ?_
  have hr:Row (List.replicate 4 (Value.int .i64 0)).toArray 4 4 1 (List.replicate 4 (.int .i64 0)):=⟨rfl,rfl,Nat.le_refl _,by decide,rfl⟩
  have ht:=fun np nb=>rCutsTail (w0:=w) (S0:=S) (ua:=ua) (uc:=uc) (np:=np) (nb:=nb) hk hE hl hr hQ
  rw[hk]at ht
  exact J_keep [0,2,3,6] (ht _ _)
 ·rw[hk]
  refine Zm [zR 0,zR 1,.wr 2 [] 0,zR 3] [] [20,4] (fun nu2=>[zS 6 (sA (nu2 0) 0) 5 5]) o0 (fun nu2=>[(nu2 0,.cells #[nI 0,nI 0,nI 0,nI 0,nI 0] 3 (0,0))]) (fun nu2=>?_)
  refine J_seq (J_seq ?_)
  refine J_stp (stp_add (cRows (List.replicate 5 (.int .i64 0)) 1 ((List.replicate 5 0).map eI)) fun _ _=>⟨rfl,rows_zero 5⟩) ?_
  refine Nm [(cRows (List.replicate 5 (nI 0)) 1 (List.map eI (List.replicate 5 0)))] ?_
  have hr:Row (List.replicate 5 (Value.int .i64 0)).toArray 5 5 1 (List.replicate 5 (.int .i64 0)):=⟨rfl,rfl,Nat.le_refl _,by decide,rfl⟩
  have ht:=fun np nb=>rCutsTail (w0:=w) (S0:=S) (ua:=ua) (uc:=uc) (np:=np) (nb:=nb) hk hE hl hr hQ
  rw[hk]at ht
  exact J_keep [0,2,3,6] (ht _ _)
 ·rw[hk]
  refine Zm [zR 0,zR 1,.wr 2 [] 0,zR 3] [] [20,4] (fun nu2=>[zS 6 (sA (nu2 0) 0) 6 6]) o0 (fun nu2=>[(nu2 0,.cells #[nI 0,nI 0,nI 0,nI 0,nI 0,nI 0] 3 (0,0))]) (fun nu2=>?_)
  refine J_seq (J_seq ?_)
  refine J_stp (stp_add (cRows (List.replicate 6 (.int .i64 0)) 1 ((List.replicate 6 0).map eI)) fun _ _=>⟨rfl,rows_zero 6⟩) ?_
  refine Nm [(cRows (List.replicate 6 (nI 0)) 1 (List.map eI (List.replicate 6 0)))] ?_
  have hr:Row (List.replicate 6 (Value.int .i64 0)).toArray 6 6 1 (List.replicate 6 (.int .i64 0)):=⟨rfl,rfl,Nat.le_refl _,by decide,rfl⟩
  have ht:=fun np nb=>rCutsTail (w0:=w) (S0:=S) (ua:=ua) (uc:=uc) (np:=np) (nb:=nb) hk hE hl hr hQ
  rw[hk]at ht
  exact J_keep [0,2,3,6] (ht _ _)
 ·rw[hk]
  refine Zm [zR 0,zR 1,.wr 2 [] 0,zR 3] [] [20,4] (fun nu2=>[zS 6 (sA (nu2 0) 0) 7 7]) o0 (fun nu2=>[(nu2 0,.cells #[nI 0,nI 0,nI 0,nI 0,nI 0,nI 0,nI 0] 3 (0,0))]) (fun nu2=>?_)
  refine J_seq (J_seq ?_)
  refine J_stp (stp_add (cRows (List.replicate 7 (.int .i64 0)) 1 ((List.replicate 7 0).map eI)) fun _ _=>⟨rfl,rows_zero 7⟩) ?_
  refine Nm [(cRows (List.replicate 7 (nI 0)) 1 (List.map eI (List.replicate 7 0)))] ?_
  have hr:Row (List.replicate 7 (Value.int .i64 0)).toArray 7 7 1 (List.replicate 7 (.int .i64 0)):=⟨rfl,rfl,Nat.le_refl _,by decide,rfl⟩
  have ht:=fun np nb=>rCutsTail (w0:=w) (S0:=S) (ua:=ua) (uc:=uc) (np:=np) (nb:=nb) hk hE hl hr hQ
  rw[hk]at ht
  exact J_keep [0,2,3,6] (ht _ _)
 ·rw[hk]
  refine Zm [zR 0,zR 1,.wr 2 [] 0,zR 3] [] [20,4] (fun nu2=>[zS 6 (sA (nu2 0) 0) 8 8]) o0 (fun nu2=>[(nu2 0,.cells #[nI 0,nI 0,nI 0,nI 0,nI 0,nI 0,nI 0,nI 0] 3 (0,0))]) (fun nu2=>?_)
  refine J_seq (J_seq ?_)
  refine J_stp (stp_add (cRows (List.replicate 8 (.int .i64 0)) 1 ((List.replicate 8 0).map eI)) fun _ _=>⟨rfl,rows_zero 8⟩) ?_
  refine Nm [(cRows (List.replicate 8 (nI 0)) 1 (List.map eI (List.replicate 8 0)))] ?_
  have hr:Row (List.replicate 8 (Value.int .i64 0)).toArray 8 8 1 (List.replicate 8 (.int .i64 0)):=⟨rfl,rfl,Nat.le_refl _,by decide,rfl⟩
  have ht:=fun np nb=>rCutsTail (w0:=w) (S0:=S) (ua:=ua) (uc:=uc) (np:=np) (nb:=nb) hk hE hl hr hQ
  rw[hk]at ht
  exact J_keep [0,2,3,6] (ht _ _)
 ·rw[hk]
  refine Zm [zR 0,zR 1,.wr 2 [] 0,zR 3] [] [20,4] (fun nu2=>[zS 6 (sA (nu2 0) 0) 9 9]) o0 (fun nu2=>[(nu2 0,.cells #[nI 0,nI 0,nI 0,nI 0,nI 0,nI 0,nI 0,nI 0,nI 0] 3 (0,0))]) (fun nu2=>?_)
  refine J_seq (J_seq ?_)
  refine J_stp (stp_add (cRows (List.replicate 9 (.int .i64 0)) 1 ((List.replicate 9 0).map eI)) fun _ _=>⟨rfl,rows_zero 9⟩) ?_
  refine Nm [(cRows (List.replicate 9 (nI 0)) 1 (List.map eI (List.replicate 9 0)))] ?_
  have hr:Row (List.replicate 9 (Value.int .i64 0)).toArray 9 9 1 (List.replicate 9 (.int .i64 0)):=⟨rfl,rfl,Nat.le_refl _,by decide,rfl⟩
  have ht:=fun np nb=>rCutsTail (w0:=w) (S0:=S) (ua:=ua) (uc:=uc) (np:=np) (nb:=nb) hk hE hl hr hQ
  rw[hk]at ht
  exact J_keep [0,2,3,6] (ht _ _)
 ·rw[hk]
  refine Zm [zR 0,zR 1,.wr 2 [] 0,zR 3] [] [20,4] (fun nu2=>[zS 6 (sA (nu2 0) 0) 10 10]) o0 (fun nu2=>[(nu2 0,.cells #[nI 0,nI 0,nI 0,nI 0,nI 0,nI 0,nI 0,nI 0,nI 0,nI 0] 3 (0,0))]) (fun nu2=>?_)
  refine J_seq (J_seq ?_)
  refine J_stp (stp_add (cRows (List.replicate 10 (.int .i64 0)) 1 ((List.replicate 10 0).map eI)) fun _ _=>⟨rfl,rows_zero 10⟩) ?_
  refine Nm [(cRows (List.replicate 10 (nI 0)) 1 (List.map eI (List.replicate 10 0)))] ?_
  have hr:Row (List.replicate 10 (Value.int .i64 0)).toArray 10 10 1 (List.replicate 10 (.int .i64 0)):=⟨rfl,rfl,Nat.le_refl _,by decide,rfl⟩
  have ht:=fun np nb=>rCutsTail (w0:=w) (S0:=S) (ua:=ua) (uc:=uc) (np:=np) (nb:=nb) hk hE hl hr hQ
  rw[hk]at ht
  exact J_keep [0,2,3,6] (ht _ _)
 ·rw[hk]
  refine Zm [zR 0,zR 1,.wr 2 [] 0,zR 3] [] [20,4] (fun nu2=>[zS 6 (sA (nu2 0) 0) 11 11]) o0 (fun nu2=>[(nu2 0,.cells #[nI 0,nI 0,nI 0,nI 0,nI 0,nI 0,nI 0,nI 0,nI 0,nI 0,nI 0] 3 (0,0))]) (fun nu2=>?_)
  refine J_seq (J_seq ?_)
  refine J_stp (stp_add (cRows (List.replicate 11 (.int .i64 0)) 1 ((List.replicate 11 0).map eI)) fun _ _=>⟨rfl,rows_zero 11⟩) ?_
  refine Nm [(cRows (List.replicate 11 (nI 0)) 1 (List.map eI (List.replicate 11 0)))] ?_
  have hr:Row (List.replicate 11 (Value.int .i64 0)).toArray 11 11 1 (List.replicate 11 (.int .i64 0)):=⟨rfl,rfl,Nat.le_refl _,by decide,rfl⟩
  have ht:=fun np nb=>rCutsTail (w0:=w) (S0:=S) (ua:=ua) (uc:=uc) (np:=np) (nb:=nb) hk hE hl hr hQ
  rw[hk]at ht
  exact J_keep [0,2,3,6] (ht _ _)
 ·rw[hk]
  refine Zm [zR 0,zR 1,.wr 2 [] 0,zR 3] [] [20,4] (fun nu2=>[zS 6 (sA (nu2 0) 0) 12 12]) o0 (fun nu2=>[(nu2 0,.cells #[nI 0,nI 0,nI 0,nI 0,nI 0,nI 0,nI 0,nI 0,nI 0,nI 0,nI 0,nI 0] 3 (0,0))]) (fun nu2=>?_)
  refine J_seq (J_seq ?_)
  refine J_stp (stp_add (cRows (List.replicate 12 (.int .i64 0)) 1 ((List.replicate 12 0).map eI)) fun _ _=>⟨rfl,rows_zero 12⟩) ?_
  refine Nm [(cRows (List.replicate 12 (nI 0)) 1 (List.map eI (List.replicate 12 0)))] ?_
  have hr:Row (List.replicate 12 (Value.int .i64 0)).toArray 12 12 1 (List.replicate 12 (.int .i64 0)):=⟨rfl,rfl,Nat.le_refl _,by decide,rfl⟩
  have ht:=fun np nb=>rCutsTail (w0:=w) (S0:=S) (ua:=ua) (uc:=uc) (np:=np) (nb:=nb) hk hE hl hr hQ
  rw[hk]at ht
  exact J_keep [0,2,3,6] (ht _ _)
 ·rw[hk]
  refine Zm [zR 0,zR 1,.wr 2 [] 0,zR 3] [] [20,4] (fun nu2=>[zS 6 (sA (nu2 0) 0) 13 13]) o0 (fun nu2=>[(nu2 0,.cells #[nI 0,nI 0,nI 0,nI 0,nI 0,nI 0,nI 0,nI 0,nI 0,nI 0,nI 0,nI 0,nI 0] 3 (0,0))]) (fun nu2=>?_)
  refine J_seq (J_seq ?_)
  refine J_stp (stp_add (cRows (List.replicate 13 (.int .i64 0)) 1 ((List.replicate 13 0).map eI)) fun _ _=>⟨rfl,rows_zero 13⟩) ?_
  refine Nm [(cRows (List.replicate 13 (nI 0)) 1 (List.map eI (List.replicate 13 0)))] ?_
  have hr:Row (List.replicate 13 (Value.int .i64 0)).toArray 13 13 1 (List.replicate 13 (.int .i64 0)):=⟨rfl,rfl,Nat.le_refl _,by decide,rfl⟩
  have ht:=fun np nb=>rCutsTail (w0:=w) (S0:=S) (ua:=ua) (uc:=uc) (np:=np) (nb:=nb) hk hE hl hr hQ
  rw[hk]at ht
  exact J_keep [0,2,3,6] (ht _ _)
 ·rw[hk]
  refine Zm [zR 0,zR 1,.wr 2 [] 0,zR 3] [] [20,4] (fun nu2=>[zS 6 (sA (nu2 0) 0) 14 14]) o0 (fun nu2=>[(nu2 0,.cells #[nI 0,nI 0,nI 0,nI 0,nI 0,nI 0,nI 0,nI 0,nI 0,nI 0,nI 0,nI 0,nI 0,nI 0] 3 (0,0))]) (fun nu2=>?_)
  refine J_seq (J_seq ?_)
  refine J_stp (stp_add (cRows (List.replicate 14 (.int .i64 0)) 1 ((List.replicate 14 0).map eI)) fun _ _=>⟨rfl,rows_zero 14⟩) ?_
  refine Nm [(cRows (List.replicate 14 (nI 0)) 1 (List.map eI (List.replicate 14 0)))] ?_
  have hr:Row (List.replicate 14 (Value.int .i64 0)).toArray 14 14 1 (List.replicate 14 (.int .i64 0)):=⟨rfl,rfl,Nat.le_refl _,by decide,rfl⟩
  have ht:=fun np nb=>rCutsTail (w0:=w) (S0:=S) (ua:=ua) (uc:=uc) (np:=np) (nb:=nb) hk hE hl hr hQ
  rw[hk]at ht
  exact J_keep [0,2,3,6] (ht _ _)
 ·rw[hk]
  refine Zm [zR 0,zR 1,.wr 2 [] 0,zR 3] [] [20,4] (fun nu2=>[zS 6 (sA (nu2 0) 0) 15 15]) o0 (fun nu2=>[(nu2 0,.cells #[nI 0,nI 0,nI 0,nI 0,nI 0,nI 0,nI 0,nI 0,nI 0,nI 0,nI 0,nI 0,nI 0,nI 0,nI 0] 3 (0,0))]) (fun nu2=>?_)
  refine J_seq (J_seq ?_)
  refine J_stp (stp_add (cRows (List.replicate 15 (.int .i64 0)) 1 ((List.replicate 15 0).map eI)) fun _ _=>⟨rfl,rows_zero 15⟩) ?_
  refine Nm [(cRows (List.replicate 15 (nI 0)) 1 (List.map eI (List.replicate 15 0)))] ?_
  have hr:Row (List.replicate 15 (Value.int .i64 0)).toArray 15 15 1 (List.replicate 15 (.int .i64 0)):=⟨rfl,rfl,Nat.le_refl _,by decide,rfl⟩
  have ht:=fun np nb=>rCutsTail (w0:=w) (S0:=S) (ua:=ua) (uc:=uc) (np:=np) (nb:=nb) hk hE hl hr hQ
  rw[hk]at ht
  exact J_keep [0,2,3,6] (ht _ _)
 ·rw[hk]
  refine Zm [zR 0,zR 1,.wr 2 [] 0,zR 3] [] [20,4] (fun nu2=>[zS 6 (sA (nu2 0) 0) 16 16]) o0 (fun nu2=>[(nu2 0,.cells #[nI 0,nI 0,nI 0,nI 0,nI 0,nI 0,nI 0,nI 0,nI 0,nI 0,nI 0,nI 0,nI 0,nI 0,nI 0,nI 0] 3 (0,0))]) (fun nu2=>?_)
  refine J_seq (J_seq ?_)
  refine J_stp (stp_add (cRows (List.replicate 16 (.int .i64 0)) 1 ((List.replicate 16 0).map eI)) fun _ _=>⟨rfl,rows_zero 16⟩) ?_
  refine Nm [(cRows (List.replicate 16 (nI 0)) 1 (List.map eI (List.replicate 16 0)))] ?_
  have hr:Row (List.replicate 16 (Value.int .i64 0)).toArray 16 16 1 (List.replicate 16 (.int .i64 0)):=⟨rfl,rfl,Nat.le_refl _,by decide,rfl⟩
  have ht:=fun np nb=>rCutsTail (w0:=w) (S0:=S) (ua:=ua) (uc:=uc) (np:=np) (nb:=nb) hk hE hl hr hQ
  rw[hk]at ht
  exact J_keep [0,2,3,6] (ht _ _)
 ·rw[hk]
  refine Zm [zR 0,zR 1,.wr 2 [] 0,zR 3] [] [20,4] (fun nu2=>[zS 6 (sA (nu2 0) 0) 17 17]) o0 (fun nu2=>[(nu2 0,.cells #[nI 0,nI 0,nI 0,nI 0,nI 0,nI 0,nI 0,nI 0,nI 0,nI 0,nI 0,nI 0,nI 0,nI 0,nI 0,nI 0,nI 0] 3 (0,0))]) (fun nu2=>?_)
  refine J_seq (J_seq ?_)
  refine J_stp (stp_add (cRows (List.replicate 17 (.int .i64 0)) 1 ((List.replicate 17 0).map eI)) fun _ _=>⟨rfl,rows_zero 17⟩) ?_
  refine Nm [(cRows (List.replicate 17 (nI 0)) 1 (List.map eI (List.replicate 17 0)))] ?_
  have hr:Row (List.replicate 17 (Value.int .i64 0)).toArray 17 17 1 (List.replicate 17 (.int .i64 0)):=⟨rfl,rfl,Nat.le_refl _,by decide,rfl⟩
  have ht:=fun np nb=>rCutsTail (w0:=w) (S0:=S) (ua:=ua) (uc:=uc) (np:=np) (nb:=nb) hk hE hl hr hQ
  rw[hk]at ht
  exact J_keep [0,2,3,6] (ht _ _)
 ·rw[hk]
  refine Zm [zR 0,zR 1,.wr 2 [] 0,zR 3] [] [20,4] (fun nu2=>[zS 6 (sA (nu2 0) 0) 18 18]) o0 (fun nu2=>[(nu2 0,.cells #[nI 0,nI 0,nI 0,nI 0,nI 0,nI 0,nI 0,nI 0,nI 0,nI 0,nI 0,nI 0,nI 0,nI 0,nI 0,nI 0,nI 0,nI 0] 3 (0,0))]) (fun nu2=>?_)
  refine J_seq (J_seq ?_)
  refine J_stp (stp_add (cRows (List.replicate 18 (.int .i64 0)) 1 ((List.replicate 18 0).map eI)) fun _ _=>⟨rfl,rows_zero 18⟩) ?_
  refine Nm [(cRows (List.replicate 18 (nI 0)) 1 (List.map eI (List.replicate 18 0)))] ?_
  have hr:Row (List.replicate 18 (Value.int .i64 0)).toArray 18 18 1 (List.replicate 18 (.int .i64 0)):=⟨rfl,rfl,Nat.le_refl _,by decide,rfl⟩
  have ht:=fun np nb=>rCutsTail (w0:=w) (S0:=S) (ua:=ua) (uc:=uc) (np:=np) (nb:=nb) hk hE hl hr hQ
  rw[hk]at ht
  exact J_keep [0,2,3,6] (ht _ _)
 ·rw[hk]
  refine Zm [zR 0,zR 1,.wr 2 [] 0,zR 3] [] [20,4] (fun nu2=>[zS 6 (sA (nu2 0) 0) 19 19]) o0 (fun nu2=>[(nu2 0,.cells #[nI 0,nI 0,nI 0,nI 0,nI 0,nI 0,nI 0,nI 0,nI 0,nI 0,nI 0,nI 0,nI 0,nI 0,nI 0,nI 0,nI 0,nI 0,nI 0] 3 (0,0))]) (fun nu2=>?_)
  refine J_seq (J_seq ?_)
  refine J_stp (stp_add (cRows (List.replicate 19 (.int .i64 0)) 1 ((List.replicate 19 0).map eI)) fun _ _=>⟨rfl,rows_zero 19⟩) ?_
  refine Nm [(cRows (List.replicate 19 (nI 0)) 1 (List.map eI (List.replicate 19 0)))] ?_
  have hr:Row (List.replicate 19 (Value.int .i64 0)).toArray 19 19 1 (List.replicate 19 (.int .i64 0)):=⟨rfl,rfl,Nat.le_refl _,by decide,rfl⟩
  have ht:=fun np nb=>rCutsTail (w0:=w) (S0:=S) (ua:=ua) (uc:=uc) (np:=np) (nb:=nb) hk hE hl hr hQ
  rw[hk]at ht
  exact J_keep [0,2,3,6] (ht _ _)
 ·rw[hk]
  refine Zm [zR 0,zR 1,.wr 2 [] 0,zR 3] [] [20,4] (fun nu2=>[zS 6 (sA (nu2 0) 0) 20 20]) o0 (fun nu2=>[(nu2 0,.cells #[nI 0,nI 0,nI 0,nI 0,nI 0,nI 0,nI 0,nI 0,nI 0,nI 0,nI 0,nI 0,nI 0,nI 0,nI 0,nI 0,nI 0,nI 0,nI 0,nI 0] 3 (0,0))]) (fun nu2=>?_)
  refine J_seq (J_seq ?_)
  refine J_stp (stp_add (cRows (List.replicate 20 (.int .i64 0)) 1 ((List.replicate 20 0).map eI)) fun _ _=>⟨rfl,rows_zero 20⟩) ?_
  refine Nm [(cRows (List.replicate 20 (nI 0)) 1 (List.map eI (List.replicate 20 0)))] ?_
  have hr:Row (List.replicate 20 (Value.int .i64 0)).toArray 20 20 1 (List.replicate 20 (.int .i64 0)):=⟨rfl,rfl,Nat.le_refl _,by decide,rfl⟩
  have ht:=fun np nb=>rCutsTail (w0:=w) (S0:=S) (ua:=ua) (uc:=uc) (np:=np) (nb:=nb) hk hE hl hr hQ
  rw[hk]at ht
  exact J_keep [0,2,3,6] (ht _ _)
end Go.Proofs.YtmkapocibaojdaaGreatDoor
end
section
namespace Go.Sx
open Go
theorem firsts_dots {p:List DoneT} {d:DotT}:d∈(firsts [] p).map (·.d)↔d∈p.map (·.d):=by
 rw[List.mem_map,List.mem_map]
 constructor
 ·rintro⟨x,hx,rfl⟩
  exact⟨x,(firsts_sub hx).1,rfl⟩
 ·rintro⟨x,hx,rfl⟩
  exact firsts_has hx (by simp)
theorem memStep {A:List DoneT} {d:DotT} {j:Int} {y:DoneT} (hj:0≤j) (hy:A[j.toNat]?=some y) (h:(y.d.place=d.place∧y.d.time=d.time∧y.d.no=d.no)∨d∈(A.take j.toNat).map (·.d)):decide (d∈(A.take (j+1).toNat).map (·.d))=true:=by
 rw[decide_eq_true_eq,←take_snoc hj hy,List.map_append,List.mem_append]
 rcases h with ⟨h1,h2,h3⟩|h
 ·refine .inr ?_
  rw[List.map_singleton,List.mem_singleton]
  cases d;cases hyd:y.d
  simp_all
 ·exact .inl h
theorem memSkip {A:List DoneT} {d:DotT} {j:Int} {y:DoneT} (hj:0≤j) (hy:A[j.toNat]?=some y) (h:y.d.place=d.place→y.d.time=d.time→¬y.d.no=d.no):decide (d∈(A.take (j+1).toNat).map (·.d))=decide (d∈(A.take j.toNat).map (·.d)):=by
 rw[←take_snoc hj hy,List.map_append]
 have:d∉[y].map (·.d):=fun hm=>by
  rw[List.map_singleton,List.mem_singleton]at hm
  subst hm
  exact h rfl rfl rfl
 simp only[List.mem_append,this,or_false]
set_option maxHeartbeats 4000000 in
theorem stp_keep {h r:List (Nat×Obj)} {F:List (List Nat×World)} {S0:Nat→Prop} {C0:List Chunk} {G0:List (Value×D)} (p:Nat) {v:Value} {d:D} (hp:G0[p]?=some (v,d)):Stp h r F ⟨S0,C0,G0⟩ (fun _:Unit=>True) fun _=>⟨S0,C0++[cRep v d],G0⟩:=by
 intro w fps hO H
 have e:(fps++[[]]).flatten=fps.flatten:=by simp
 refine⟨(),fps++[[]],trivial,fun b hb=>by rwa[e]at hb,H.less (fun b hb=>by rwa[e]at hb) (by rw[e];exact H.nodup) ?_ fun x hx=>(H.g x hx).mono fun b hb _=>⟨Sd_sub (fun b hb=>by rwa[e]at hb) hb,rfl⟩⟩
 exact(H.chs.app (show Chs w (Sd ⟨S0,C0,G0⟩ h fps) [cRep v d] [[]] from⟨⟨rfl,H.g _ (List.mem_of_getElem? hp)⟩,trivial⟩)).mono (fun _ _=>rfl) fun b hb _=>⟨Sd_sub (fun b hb=>by rwa[e]at hb) hb,rfl⟩
set_option maxHeartbeats 4000000 in
theorem stp_good {h r:List (Nat×Obj)} {F:List (List Nat×World)} {S0:Nat→Prop} {C0:List Chunk} {G0:List (Value×D)} (q:Nat) {a:Option Addr} {m c e k:Nat} {rows:List (List D)} (hq:C0[q]?=some (cAcc (.slice a m c) e k rows)):Stp h r F ⟨S0,C0,G0⟩ (fun _:Unit=>GoodS a c) fun _=>⟨S0,C0,G0⟩:=stp_know fun w fps H=>by
 obtain⟨fp,_,hP⟩:=H.chs.at hq
 obtain⟨a',c',he,hg⟩:=acc_good hP
 cases he
 exact hg
theorem insG_len {α:Type} (lt:α→α→Bool) (l:List α) (x:α):(insG lt l x).length=l.length+1:=by
 unfold insG
 have h:=congrArg List.length (List.takeWhile_append_dropWhile (p:=fun y=>lt y x) (l:=l))
 rw[List.length_append]at h
 rw[List.length_append,List.length_cons]
 omega
theorem insG_flen {α:Type} (lt:α→α→Bool):∀(l p:List α),(l.foldl (insG lt) p).length=p.length+l.length
 | [],p=>by simp
 | x::l,p=>by
  rw[List.foldl_cons,insG_flen lt l,insG_len,List.length_cons]
  omega
structure OpsR where
 j:Int
 b:Bool
structure OutR where
 i:Int
 a:Option Addr
 n:Nat
 c:Nat
end Go.Sx
namespace Go.Proofs.YtmkapocibaojdaaGreatDoor
open Go Go.Sx
set_option maxHeartbeats 4000000 in
theorem rOpsOf {w:World} {S:Nat→Prop} {a:Option Addr} {n c:Nat} {key:ByteArray} {l:List ComT} (h:Rep w S (.slice a n c) (.sl 3 (l.map eCom))) (hl:l.length≤300000) (hf:(listFault l).code=0) :
  Calls Tryz.prog 135 #[.string key,.slice a n c] w fun e w'=>∃ua un uc,Ret [] w S w' e (.slice ua un uc) [] [(.slice ua un uc,.sl 11 ((ofKey key l).map eDone))]:=by
 have e1:=h.slen
 rw[List.length_map]at e1
 subst e1
 have hno:=listFault_zero hf
 have hright:∀x∈l,Right x:=fun x hx=>by
  obtain⟨j,hj⟩:=List.getElem?_of_mem hx
  exact right_of (comErrAt_zero hj (hno j (List.getElem?_eq_some_iff.1 hj).1)).1
 refine epG Tryz.func135 bd135 (args:=[.string key,.slice a l.length c]) (S:=S) (G:=[(_,.sl 3 (l.map eCom))]) (by kernel_rfl) (.cons h (.nil _ _)) ?_
 refine J_stp (stp_accm eDone 244 11) ?_
 try simp only[aQ]
 refine Zs [zR 0] [] [zS 4 none 0 0] ?_
 refine Zs [zR 0] [] [zS 5 none 0 0] ?_
 refine J_seq ?_
 refine Zs [zR 0] [] [zI 6 0] ?_
 refine J_block ?_
 refine J_loopx (fun x:AccI=>[zV 0 (.string key),zS 1 a l.length c,zS 4 none 0 0,zS 5 x.a x.k x.c,zI 6 x.i]) (fun x:AccI=>[]) (fun x:AccI=>[cAcc (.slice x.a x.k x.c) 244 11 ((firsts [] (allDone (l.take x.i.toNat))).map eDone)]) (fun x:AccI=>[(.slice a l.length c,(D.sl 3 (List.map eCom l)))]) (fun x:AccI=>(l.length - x.i).toNat) (fun x:AccI=>(0≤x.i∧x.i≤l.length)) ⟨0,none,0,0⟩ [0,1,4,5,6] [] [0] [0] ?_ (by kernel_rfl) rfl rfl rfl ?_
 ·exact⟨by simp,by simp⟩
 rintro⟨i,av,k,cv⟩ ⟨hi0,hi⟩
 dsimp only at hi0 hi ⊢
 refine J_seq ?_
 refine Zs (Rds 0 4) [] [zB 21 (decide (i<(↑l.length:Int)))] ?_
 refine cC (t:=decide (i<(↑l.length:Int))) (fun hlt=>?_) (fun hlt=>?_)
 ·have hlt2:i<l.length:=by simpa using hlt
  obtain⟨x,hx⟩:∃x,l[i.toNat]?=some x:=⟨_,List.getElem?_eq_getElem (by omega)⟩
  have hrt:=hright x (List.mem_of_getElem? hx)
  obtain⟨t,ht⟩:∃t,x.when[x.place.toNat]?=some t:=⟨_,List.getElem?_eq_getElem (by have:=hrt.p0;have:=hrt.p1;omega)⟩
  have ho12:=hrt.o2
  have hp0:=hrt.p0
  have hp1:=hrt.p1
  refine J_read2 0 rfl i.toNat (map_at hx) (by kernel_rfl) (fun b1 off1 cs1 ty1 fz1 a1_0 c1_0 a1_1 c1_1 ha1 hrd1=>?_)
  cases ha1
  have hrd1_0:=rd0 (hrd1 0 _ rfl)
  have hrd1_1:=hrd1 1 _ rfl
  have hrd1_2:=hrd1 2 _ rfl
  try simp only[aQ]
  refine J_skip (J_seq (J_block ?_))
  refine Zs [zR 0] [21] [zI 7 0] ?_
  refine J_block ?_
  have e0:firsts [] (allDone (l.take i.toNat))=firsts [] (allDone (l.take i.toNat)++(x.ops.take (0:Int).toNat).map (doneOf x)):=by simp
  rw[e0]
  refine J_loopx (fun y:AccI=>[zV 0 (.string key),zS 1 (sA b1 off1) l.length c,zS 4 none 0 0,zS 5 y.a y.k y.c,zI 6 i,zI 7 y.i]) (fun y:AccI=>[]) (fun y:AccI=>[cAcc (.slice y.a y.k y.c) 244 11 ((firsts [] (allDone (l.take i.toNat)++(x.ops.take y.i.toNat).map (doneOf x))).map eDone)]) (fun y:AccI=>[(.slice (sA b1 off1) l.length c,(D.sl 3 (List.map eCom l))),(.slice (a1_0,c1_0).fst ((List.map eI x.when).length) c1_0,(D.sl 1 (List.map eI x.when))),(.slice (a1_1,c1_1).fst ((List.map eOp x.ops).length) c1_1,(D.sl 7 (List.map eOp x.ops)))]) (fun y:AccI=>(x.ops.length - y.i).toNat) (fun y:AccI=>(0≤y.i∧y.i≤x.ops.length)) ⟨0,av,k,cv⟩ [0,1,4,5,6,7] [] [0] [0,1,2] ?_ (by kernel_rfl) rfl rfl rfl ?_
  ·exact⟨by simp,by simp⟩
  rintro⟨q,av1,k1,cv1⟩ ⟨hq0,hq⟩
  dsimp only at hq0 hq ⊢
  generalize hALL:firsts [] (allDone (l.take i.toNat)++(x.ops.take q.toNat).map (doneOf x))=ALL
  have hA12:ALL.length≤4000000:=by
   have h1:=firsts_len [] (allDone (l.take i.toNat)++(x.ops.take q.toNat).map (doneOf x))
   have h2:=allDone_len (l:=l.take i.toNat) fun c hc=>hright c (List.mem_of_mem_take hc)
   rw[hALL,List.length_append,List.length_map,List.length_take]at h1
   rw[List.length_take]at h2
   omega
  refine J_stpx (stp_acclen 0 rfl) fun _ hk=>?_
  rw[List.length_map]at hk
  subst hk
  refine J_seq ?_
  refine Zt (Rds 0 3++[.rd 3 [] 0 2,zR 4,.rd 5 [.r 0 (some (.slice (a1_1,c1_1).fst ((List.map eOp x.ops).length) c1_1))] 0 0,zR 6,zR 7]) [] [zB 31 (decide (q<(↑(List.map eOp x.ops).length:Int)))] (oC hi0 (oC hlt2 (oC hrd1_2 oN))) ?_
  refine cC (t:=decide (q<(↑(List.map eOp x.ops).length:Int))) (fun hlt1=>?_) (fun hlt1=>?_)
  ·have hlt3:q<x.ops.length:=by simpa using hlt1
   obtain⟨o,ho⟩:∃o,x.ops[q.toNat]?=some o:=⟨_,List.getElem?_eq_getElem (by omega)⟩
   have hdo:doneOf x o=⟨o,⟨x.place,t,o.no⟩,sumL x.when⟩:=by simp[doneOf,dotOf,List.getD_eq_getElem?_getD,ht,wsum,sumL]
   have hstep:firsts [] (allDone (l.take i.toNat)++(x.ops.take (q+1).toNat).map (doneOf x))=ALL++if (⟨x.place,t,o.no⟩:DotT)∈ALL.map (·.d)then []else [⟨o,⟨x.place,t,o.no⟩,sumL x.when⟩]:=by
    rw[←take_snoc hq0 ho,List.map_append,←List.append_assoc,List.map_singleton,hdo,firsts_snoc,hALL]
    have h1:((⟨x.place,t,o.no⟩:DotT)∈([]:List DotT)∨(⟨x.place,t,o.no⟩:DotT)∈(allDone (l.take i.toNat)++(x.ops.take q.toNat).map (doneOf x)).map (·.d))↔(⟨x.place,t,o.no⟩:DotT)∈ALL.map (·.d):=by
     rw[←hALL,firsts_dots]
     simp
    by_cases h2:(⟨x.place,t,o.no⟩:DotT)∈ALL.map (·.d)
    ·rw[if_pos h2,if_pos (h1.2 h2)]
    ·rw[if_neg h2,if_neg fun h=>h2 (h1.1 h)]
   refine J_read1 2 rfl q.toNat (map_at ho) (by kernel_rfl) (fun b2 off2 cs2 ty2 fz2 a2_0 c2_0 ha2 hrd2=>?_)
   cases ha2
   have hrd2_0:=rd0 (hrd2 0 _ rfl)
   have hrd2_1:=hrd2 1 _ rfl
   have hrd2_2:=hrd2 2 _ rfl
   have hrd2_3:=hrd2 3 _ rfl
   have hrd2_4:=hrd2 4 _ rfl
   have hrd2_5:=hrd2 5 _ rfl
   have hrd2_6:=hrd2 6 _ rfl
   refine J_read0 1 rfl x.place.toNat (map_at ht) (by kernel_rfl) (fun b3 off3 cs3 ty3 fz3 ha3 hrd3=>?_)
   cases ha3
   have hrd3_0:=rd0 (hrd3 0 _ rfl)
   try simp only[aQ]
   refine J_skip (J_seq (J_block ?_))
   refine Zu [zR 0,zR 1,.rd 2 [] 0 2,zR 3,.rd 4 [.r 0 (some (.slice (sA b2 off2) ((List.map eOp x.ops).length) c1_1))] 0 0,zR 5,.rd 6 [] 0 2,.rd 7 [.r 1 (some (nI o.no)),.r 1 (some (.string o.key)),.r 1 (some (nI o.kind)),.r 1 (some (.string o.text)),.r 1 (some (nI o.n)),.r 1 (some (.bool o.remove)),.r 1 (some (.slice (a2_0,c2_0).fst ((List.map eDot o.dots).length) c2_0))] 0 0,.wr 8 [] 0,.wr 9 (hnO 0 7) 0] [(9,[])] [31] (fun nu1=>[zP 8 (nu1 0)]) o0 (fun nu1=>[(nu1 0,.cells #[nI o.no,.string o.key,nI o.kind,.string o.text,nI o.n,.bool o.remove,.slice (a2_0,c2_0).fst ((List.map eDot o.dots).length) c2_0] 55 (0,0))]) (fun nu1=>(oC hi0 (oC hlt2 (oC hrd1_2 (oC hq0 (oC (show q<(↑(List.map eOp x.ops).length:Int) from by simp;omega) (oC hrd2_0 (oC hrd2_1 (oC hrd2_2 (oC hrd2_3 (oC hrd2_4 (oC hrd2_5 (oC hrd2_6 oN))))))))))))) (fun nu1=>?_)
   refine J_seq ?_
   refine J_fork mixed 26 [(0,true),(1,true),(2,true),(3,true),(4,true),(5,true),(6,true),(7,true),(8,true),(9,true),(10,true),(11,true),(12,true),(13,true),(14,true),(15,true),(16,true),(17,true),(18,true),(19,true),(20,true),(21,true),(22,true),(23,true),(24,true),(25,true),(26,false),(27,true),(28,false),(29,false)] [(0,true),(1,true),(2,true),(3,true),(4,true),(5,true),(6,true),(7,true),(8,true),(9,true),(10,true),(11,true),(12,true),(13,true),(14,true),(15,true),(16,true),(17,true),(18,true),(19,true),(20,true),(21,true),(22,true),(23,true),(24,true),(25,true),(28,false),(26,false),(27,true),(29,false)] [(29,[])] (by kernel_rfl) (by kernel_rfl) ?_ ?_
   ·refine Yp ([.rd 0 [.o 0 none,.o 0 none,.o 0 none,.o 0 none,.o 0 none,.o 0 none,.o 0 none] 0 0,.rd 1 [] 0 0,.rd 2 [] 0 0,.rd 3 [] 0 2,.rd 4 [] 0 0,.rd 5 [.r 0 (some (.int .i64 x.place))] 0 0,.rd 6 [] 0 0,.rd 7 [] 0 0,.rd 8 [] 0 2,.rd 9 [] 0 0,.rd 10 [.r 0 (some (.slice (some (⟨b3,off3,none⟩)) ((List.map eI x.when).length) c1_0))] 0 0,.rd 11 [] 0 0,.rd 12 [] 0 0,.rd 13 [] 0 2,.rd 14 [] 0 0,.rd 15 [.r 0 (some (.int .i64 x.place))] 0 0,.rd 16 [] 0 2,.rd 17 [.r 2 (some (.int .i64 t))] 0 0,.rd 18 [] 0 0,.rd 19 [.o 0 none] 0 0]++Rds 20 23++[.rd 23 [] 0 2,.rd 24 [] 0 0,.rd 25 [.r 0 (some (.slice (some (⟨b3,off3,none⟩)) ((List.map eI x.when).length) c1_0))] 0 0]) [] [(42,.val (.agg #[.int .i64 o.no,.string o.key,.int .i64 o.kind,.string o.text,.int .i64 o.n,.bool o.remove,.slice (a2_0,c2_0).fst ((List.map eDot o.dots).length) c2_0])),(62,.val (.agg #[.int .i64 x.place,.int .i64 t,.int .i64 o.no])),(67,.val (.slice (some (⟨b3,off3,none⟩)) ((List.map eI x.when).length) c1_0))] (oC hi0 (oC hlt2 (oC hrd1_1 (oC hi0 (oC hlt2 (oC hrd1_0 (oC hi0 (oC hlt2 (oC hrd1_1 (oC hp0 (oC (show x.place<(↑(List.map eI x.when).length:Int) from by simp;omega) (oC hrd3_0 (oC hi0 (oC hlt2 (oC hrd1_0 oN))))))))))))))) ?_
    refine Yc 178 #[.slice (sA b3 off3) ((List.map eI x.when).length) c1_0] (some 68) fun w S hG=>?_
    refine(rWeight (hG.at 1 rfl) hrt.vec).mono ?_
    rintro e2 w2 hR
    refine⟨_,_,_,hR,?_⟩
    try simp only[aQ]
    refine Ym [zR 27,.wr 28 [] 0,.wr 29 (hnO 1 11) 0] [68,42,62,67] (fun nu2=>[zP 9 (nu2 0)]) o0 (fun nu2=>[(nu2 0,.cells #[nI o.no,.string o.key,nI o.kind,.string o.text,nI o.n,.bool o.remove,.slice a2_0 ((List.map eDot o.dots).length) c2_0,nI x.place,nI t,nI o.no,nI (sumL x.when)] 244 (0,0))]) [] (fun nu2=>?_)
    refine JR_end ?_
    refine Zs [zR 0] [] [zB 10 false] ?_
    refine J_seq ?_
    refine Zs [zR 0] [] [zI 11 0] ?_
    refine J_block ?_
    refine J_loopx (fun z:OpsR=>[zV 0 (.string key),zS 1 (sA b1 off1) l.length c,zS 4 none 0 0,zS 5 av1 ALL.length cv1,zI 6 i,zI 7 q,zP 8 (nu1 0),zP 9 (nu2 0),zB 10 z.b,zI 11 z.j]) (fun z:OpsR=>[(nu1 0,.cells #[nI o.no,.string o.key,nI o.kind,.string o.text,nI o.n,.bool o.remove,.slice a2_0 ((List.map eDot o.dots).length) c2_0] 55 (0,0)),(nu2 0,.cells #[nI o.no,.string o.key,nI o.kind,.string o.text,nI o.n,.bool o.remove,.slice a2_0 ((List.map eDot o.dots).length) c2_0,nI x.place,nI t,nI o.no,nI (sumL x.when)] 244 (0,0))]) (fun z:OpsR=>[cAcc (.slice av1 ALL.length cv1) 244 11 (ALL.map eDone)]) (fun z:OpsR=>[(.slice (sA b1 off1) l.length c,(D.sl 3 (List.map eCom l))),(.slice (sA b3 off3) ((List.map eI x.when).length) c1_0,(D.sl 1 (List.map eI x.when))),(.slice (sA b2 off2) ((List.map eOp x.ops).length) c1_1,(D.sl 7 (List.map eOp x.ops))),(.slice (a2_0,c2_0).fst ((List.map eDot o.dots).length) c2_0,(D.sl 3 (List.map eDot o.dots)))]) (fun z:OpsR=>(ALL.length - z.j).toNat) (fun z:OpsR=>(0≤z.j∧z.j≤ALL.length∧z.b=decide ((⟨x.place,t,o.no⟩:DotT)∈(ALL.take z.j.toNat).map (·.d)))) ⟨0,false⟩ [0,1,4,5,6,7,8,9,10,11] [0,1] [0] [0,1,2,3] ?_ (by kernel_rfl) rfl rfl rfl ?_
    ·exact⟨by simp,by simp,by simp⟩
    rintro⟨j,b⟩ ⟨hj0,hj,hb⟩
    dsimp only at hj0 hj hb ⊢
    refine J_seq ?_
    refine Zs (Rds 0 4) [] [zB 73 (decide (j<(↑ALL.length:Int)))] ?_
    refine cC (t:=decide (j<(↑ALL.length:Int))) (fun hlt2=>?_) (fun hlt2=>?_)
    ·have hlt4:j<ALL.length:=by simpa using hlt2
     obtain⟨y,hy⟩:∃y,ALL[j.toNat]?=some y:=⟨_,List.getElem?_eq_getElem (by omega)⟩
     refine J_openacc 0 rfl (by intro h0;rw[List.map_eq_nil_iff]at h0;rw[h0]at hy;simp at hy) fun g cur xs hu _ _ hrow=>?_
     subst hu
     refine J_stpx (stp_readrows 0 rfl j.toNat (map_at hy)) fun ls hls=>?_
     obtain⟨hls1,hls2⟩:=hls
     obtain⟨⟨xa,xc⟩,rfl⟩:∃l0,ls=[l0]:=len1 hls1
     have f:=fun(j:Nat) v h=>hrow.atx (hls2 j v h)
     have r7:cur[0+j.toNat*11+7]?=some (.int .i64 y.d.place):=by rw[Nat.zero_add];exact f 7 _ rfl
     have r8:cur[0+j.toNat*11+8]?=some (.int .i64 y.d.time):=by rw[Nat.zero_add];exact f 8 _ rfl
     have r9:cur[0+j.toNat*11+9]?=some (.int .i64 y.d.no):=by rw[Nat.zero_add];exact f 9 _ rfl
     try simp only[aQ]
     refine J_skip ?_
     try simp only[aQ]
     refine J_seq ?_
     try simp only[aQ]
     refine J_block ?_
     try simp only[aQ]
     refine J_seq ?_
     try simp only[aQ]
     refine Zp [zR 0,zR 1,.rd 2 [] 0 2,zR 3,.rd 4 [.o 2 (some (nI y.d.place)),.o 2 (some (nI y.d.time)),.o 2 (some (nI y.d.no))] 0 0,zR 5,.rd 6 (hnO 1 3) 0 0,.rd 7 [.r 0 (some (.bool (decide (y.d.place=x.place∧y.d.time=t∧y.d.no=o.no))))] 0 10] [73] [zB 83 (decide (y.d.place=x.place∧y.d.time=t∧y.d.no=o.no))] (oC hj0 (oC hlt4 (oC r7 (oC r8 (oC r9 (oC (show eqRun Tryz.prog .eql 177 (Operand.tmp 80) (Operand.tmp 82) (.agg #[nI y.d.place,nI y.d.time,nI y.d.no]) (.agg #[nI x.place,nI t,nI o.no]) (.bool (decide (y.d.place=x.place∧y.d.time=t∧y.d.no=o.no))) from eqRun_eql_177) oN)))))) ?_
     try simp only[aQ]
     refine J_hide 2 rfl ?_
     refine J_stp (stp_closeacc 1 0 rfl rfl hrow (by decide)) ?_
     rw[show(List.map eDone ALL).length=ALL.length from List.length_map ..]
     refine cC (t:=decide (y.d.place=x.place∧y.d.time=t∧y.d.no=o.no)) (fun he=>?_) (fun he=>?_)
     ·try simp only[aQ]
      refine Za [zR 0] [83] [zB 10 true] ?_
      try simp only[aQ]
      refine J_eb ?_
      try simp only[aQ]
      refine Zp [zR 0,.rd 1 [] 0 1,zR 2] [] [zI 11 (j+1)] (oC (show IntKind.i64.wrap (j+1)=j+1 from wrap_i64 (by omega) (by omega)) oN) ?_
      try simp only[aQ]
      refine J_backx ⟨j+1,true⟩ [0,1,4,5,6,7,8,9,10,11] [0,1] [0] [0,1,2,3] ?_ ?_ (by kernel_rfl) rfl rfl rfl
      ·exact⟨by simp only;omega,by simp only;omega,(memStep hj0 hy (.inl (by simpa using he))).symm⟩
      ·simp only
       omega
     ·try simp only[aQ]
      refine J_skip ?_
      try simp only[aQ]
      refine J_eb ?_
      try simp only[aQ]
      refine Zp [zR 0,.rd 1 [] 0 1,zR 2] [83] [zI 11 (j+1)] (oC (show IntKind.i64.wrap (j+1)=j+1 from wrap_i64 (by omega) (by omega)) oN) ?_
      try simp only[aQ]
      refine J_backx ⟨j+1,b⟩ [0,1,4,5,6,7,8,9,10,11] [0,1] [0] [0,1,2,3] ?_ ?_ (by kernel_rfl) rfl rfl rfl
      ·exact⟨by simp only;omega,by simp only;omega,by dsimp only;rw[hb];exact(memSkip hj0 hy (by simpa using he)).symm⟩
      ·simp only
       omega
    ·have hjl:ALL.take j.toNat=ALL:=List.take_of_length_le (by simp at hlt2;omega)
     rw[hjl]at hb
     by_cases hmem:(⟨x.place,t,o.no⟩:DotT)∈ALL.map (·.d)
     ·rw[decide_eq_true hmem]at hb
      subst hb
      have e5:=hstep
      rw[if_pos hmem,List.append_nil]at e5
      refine J_exit rfl ?_
      refine Zs [zR 0,zR 1] [73] [zB 85 false] ?_
      refine cF ?_
      refine J_skip (J_eb ?_)
      refine Zp [zR 0,.rd 1 [] 0 1,zR 2] [85] [zI 7 (q+1)] (oC (show IntKind.i64.wrap (q+1)=q+1 from wrap_i64 (by omega) (by omega)) oN) ?_
      rw[←e5]
      refine J_backx ⟨q+1,_,_,_⟩ [0,1,4,5,6,7] [] [0] [0,1,2] ?_ ?_ (by kernel_rfl) rfl rfl rfl
      ·exact⟨by simp only;omega,by simp only;omega⟩
      ·simp only
       omega
     ·rw[decide_eq_false hmem]at hb
      subst hb
      have e5:=hstep
      rw[if_neg hmem]at e5
      refine J_exit rfl ?_
      refine Zs [zR 0,zR 1] [73] [zB 85 true] ?_
      refine cTt ?_
      refine jT [(0,true),(1,true),(2,false),(3,false),(4,true)] [] ?_
      refine Ym [zR 0,.rd 1 (hnO 1 11) 0 0,.wr 2 [] 0] [85] (fun nu3=>[zS 86 av1 ALL.length cv1,zS 88 (sA (nu3 0) 0) 1 1]) o0 (fun nu3=>[(nu3 0,.cells #[nI o.no,.string o.key,nI o.kind,.string o.text,nI o.n,.bool o.remove,.slice a2_0 ((List.map eDot o.dots).length) c2_0,nI x.place,nI t,nI o.no,nI (sumL x.when)] 244 (0,0))]) [] (fun nu3=>?_)
      refine JR_appm 0 241 244 11 120 (.agg #[.int .i64 0,.string (ByteArray.mk #[]),.int .i64 0,.string (ByteArray.mk #[]),.int .i64 0,.bool false,.slice none 0 0,.int .i64 0,.int .i64 0,.int .i64 0,.int .i64 0]) (a0:=av1) (len:=ALL.length) (cap0:=cv1) (ax:=(some (⟨nu3 0,0,none⟩))) (m:=1) (c:=1) (dst:=(some 89)) [(⟨o,⟨x.place,t,o.no⟩,sumL x.when⟩:DoneT)] (by kernel_rfl) (by kernel_rfl) (by kernel_rfl) (by kernel_rfl) rfl (by decide) rfl (fun _ _ _ s=>src_one s 2 rfl rfl ⟨.inl ⟨rfl,rfl⟩,⟨.inl ⟨rfl,rfl⟩,⟨.inl ⟨rfl,rfl⟩,⟨.inl ⟨rfl,rfl⟩,⟨.inl ⟨rfl,rfl⟩,⟨.inl ⟨rfl,rfl⟩,⟨.inr (.inl (List.mem_of_getElem? (i:=3) rfl)),⟨.inl ⟨rfl,rfl⟩,⟨.inl ⟨rfl,rfl⟩,⟨.inl ⟨rfl,rfl⟩,⟨.inl ⟨rfl,rfl⟩,trivial⟩⟩⟩⟩⟩⟩⟩⟩⟩⟩⟩) (by simp only[maxLen];omega) (by omega) (fun av2 cv2=>?_)
      rw[←e5]
      try simp only[aQ]
      refine Ya [zR 4] [89,86,88] [zS 5 av2 (ALL.length+1) cv2] ?_
      try simp only[aQ]
      refine JR_end ?_
      try simp only[aQ]
      refine J_eb ?_
      try simp only[aQ]
      refine Zp [zR 0,.rd 1 [] 0 1,zR 2] [] [zI 7 (q+1)] (oC (show IntKind.i64.wrap (q+1)=q+1 from wrap_i64 (by omega) (by omega)) oN) ?_
      try simp only[aQ]
      refine J_backx ⟨q+1,_,_,_⟩ [0,1,4,5,6,7] [] [0] [0,1,2] ?_ ?_ (by kernel_rfl) rfl rfl rfl
      ·exact⟨by simp only;omega,by simp only;omega⟩
      ·simp only
       omega
   ·refine Yn ([.rd 0 [.o 0 none,.o 0 none,.o 0 none,.o 0 none,.o 0 none,.o 0 none,.o 0 none] 0 0,.rd 1 [] 0 0,.rd 2 [] 0 0,.rd 3 [] 0 2,.rd 4 [] 0 0,.rd 5 [.r 0 (some (.int .i64 x.place))] 0 0,.rd 6 [] 0 0,.rd 7 [] 0 0,.rd 8 [] 0 2,.rd 9 [] 0 0,.rd 10 [.r 0 (some (.slice (some (⟨b3,off3,none⟩)) ((List.map eI x.when).length) c1_0))] 0 0,.rd 11 [] 0 0,.rd 12 [] 0 0,.rd 13 [] 0 2,.rd 14 [] 0 0,.rd 15 [.r 0 (some (.int .i64 x.place))] 0 0,.rd 16 [] 0 2,.rd 17 [.r 2 (some (.int .i64 t))] 0 0,.rd 18 [] 0 0,.rd 19 [.o 0 none] 0 0]++Rds 20 23++[.rd 23 [] 0 2,.rd 24 [] 0 0,.rd 25 [.r 0 (some (.slice (some (⟨b3,off3,none⟩)) ((List.map eI x.when).length) c1_0))] 0 0,.wr 28 [] 0]) [] (fun nu2=>[(9,.val (.pointer (some (⟨nu2 0,0,none⟩)))),(42,.val (.agg #[.int .i64 o.no,.string o.key,.int .i64 o.kind,.string o.text,.int .i64 o.n,.bool o.remove,.slice (a2_0,c2_0).fst ((List.map eDot o.dots).length) c2_0])),(62,.val (.agg #[.int .i64 x.place,.int .i64 t,.int .i64 o.no])),(67,.val (.slice (some (⟨b3,off3,none⟩)) ((List.map eI x.when).length) c1_0))]) o0 (fun nu2=>[(nu2 0,.cells #[.int .i64 0,.string (ByteArray.mk #[]),.int .i64 0,.string (ByteArray.mk #[]),.int .i64 0,.bool false,.slice none 0 0,.int .i64 0,.int .i64 0,.int .i64 0,.int .i64 0] 244 (0,0))]) [(29,[])] (fun nu2=>(oC hi0 (oC hlt2 (oC hrd1_1 (oC hi0 (oC hlt2 (oC hrd1_0 (oC hi0 (oC hlt2 (oC hrd1_1 (oC hp0 (oC (show x.place<(↑(List.map eI x.when).length:Int) from by simp;omega) (oC hrd3_0 (oC hi0 (oC hlt2 (oC hrd1_0 oN)))))))))))))))) (fun nu2=>?_)
    refine Yc 178 #[.slice (sA b3 off3) ((List.map eI x.when).length) c1_0] (some 68) fun w S hG=>?_
    refine(rWeight (hG.at 1 rfl) hrt.vec).mono ?_
    rintro e2 w2 hR
    refine⟨_,_,_,hR,?_⟩
    try simp only[aQ]
    refine Ym [zR 27,.wr 29 (hnO 1 11) 0] [68,42,62,67] (fun _=>[]) (fun _=>[(1,.cells #[nI o.no,.string o.key,nI o.kind,.string o.text,nI o.n,.bool o.remove,.slice a2_0 ((List.map eDot o.dots).length) c2_0,nI x.place,nI t,nI o.no,nI (sumL x.when)] 244 (0,0))]) o0 [] (fun _=>?_)
    refine JR_end ?_
    refine Zs [zR 0] [] [zB 10 false] ?_
    refine J_seq ?_
    refine Zs [zR 0] [] [zI 11 0] ?_
    refine J_block ?_
    refine J_loopx (fun z:OpsR=>[zV 0 (.string key),zS 1 (sA b1 off1) l.length c,zS 4 none 0 0,zS 5 av1 ALL.length cv1,zI 6 i,zI 7 q,zP 8 (nu1 0),zP 9 (nu2 0),zB 10 z.b,zI 11 z.j]) (fun z:OpsR=>[(nu1 0,.cells #[nI o.no,.string o.key,nI o.kind,.string o.text,nI o.n,.bool o.remove,.slice a2_0 ((List.map eDot o.dots).length) c2_0] 55 (0,0)),(nu2 0,.cells #[nI o.no,.string o.key,nI o.kind,.string o.text,nI o.n,.bool o.remove,.slice a2_0 ((List.map eDot o.dots).length) c2_0,nI x.place,nI t,nI o.no,nI (sumL x.when)] 244 (0,0))]) (fun z:OpsR=>[cAcc (.slice av1 ALL.length cv1) 244 11 (ALL.map eDone)]) (fun z:OpsR=>[(.slice (sA b1 off1) l.length c,(D.sl 3 (List.map eCom l))),(.slice (sA b3 off3) ((List.map eI x.when).length) c1_0,(D.sl 1 (List.map eI x.when))),(.slice (sA b2 off2) ((List.map eOp x.ops).length) c1_1,(D.sl 7 (List.map eOp x.ops))),(.slice (a2_0,c2_0).fst ((List.map eDot o.dots).length) c2_0,(D.sl 3 (List.map eDot o.dots)))]) (fun z:OpsR=>(ALL.length - z.j).toNat) (fun z:OpsR=>(0≤z.j∧z.j≤ALL.length∧z.b=decide ((⟨x.place,t,o.no⟩:DotT)∈(ALL.take z.j.toNat).map (·.d)))) ⟨0,false⟩ [0,1,4,5,6,7,8,9,10,11] [0,1] [0] [0,1,2,3] ?_ (by kernel_rfl) rfl rfl rfl ?_
    ·exact⟨by simp,by simp,by simp⟩
    rintro⟨j,b⟩ ⟨hj0,hj,hb⟩
    dsimp only at hj0 hj hb ⊢
    refine J_seq ?_
    refine Zs (Rds 0 4) [] [zB 73 (decide (j<(↑ALL.length:Int)))] ?_
    refine cC (t:=decide (j<(↑ALL.length:Int))) (fun hlt2=>?_) (fun hlt2=>?_)
    ·have hlt4:j<ALL.length:=by simpa using hlt2
     obtain⟨y,hy⟩:∃y,ALL[j.toNat]?=some y:=⟨_,List.getElem?_eq_getElem (by omega)⟩
     refine J_openacc 0 rfl (by intro h0;rw[List.map_eq_nil_iff]at h0;rw[h0]at hy;simp at hy) fun g cur xs hu _ _ hrow=>?_
     subst hu
     refine J_stpx (stp_readrows 0 rfl j.toNat (map_at hy)) fun ls hls=>?_
     obtain⟨hls1,hls2⟩:=hls
     obtain⟨⟨xa,xc⟩,rfl⟩:∃l0,ls=[l0]:=len1 hls1
     have f:=fun(j:Nat) v h=>hrow.atx (hls2 j v h)
     have r7:cur[0+j.toNat*11+7]?=some (.int .i64 y.d.place):=by rw[Nat.zero_add];exact f 7 _ rfl
     have r8:cur[0+j.toNat*11+8]?=some (.int .i64 y.d.time):=by rw[Nat.zero_add];exact f 8 _ rfl
     have r9:cur[0+j.toNat*11+9]?=some (.int .i64 y.d.no):=by rw[Nat.zero_add];exact f 9 _ rfl
     try simp only[aQ]
     refine J_skip ?_
     try simp only[aQ]
     refine J_seq ?_
     try simp only[aQ]
     refine J_block ?_
     try simp only[aQ]
     refine J_seq ?_
     try simp only[aQ]
     refine Zp [zR 0,zR 1,.rd 2 [] 0 2,zR 3,.rd 4 [.o 2 (some (nI y.d.place)),.o 2 (some (nI y.d.time)),.o 2 (some (nI y.d.no))] 0 0,zR 5,.rd 6 (hnO 1 3) 0 0,.rd 7 [.r 0 (some (.bool (decide (y.d.place=x.place∧y.d.time=t∧y.d.no=o.no))))] 0 10] [73] [zB 83 (decide (y.d.place=x.place∧y.d.time=t∧y.d.no=o.no))] (oC hj0 (oC hlt4 (oC r7 (oC r8 (oC r9 (oC (show eqRun Tryz.prog .eql 177 (Operand.tmp 80) (Operand.tmp 82) (.agg #[nI y.d.place,nI y.d.time,nI y.d.no]) (.agg #[nI x.place,nI t,nI o.no]) (.bool (decide (y.d.place=x.place∧y.d.time=t∧y.d.no=o.no))) from eqRun_eql_177) oN)))))) ?_
     try simp only[aQ]
     refine J_hide 2 rfl ?_
     refine J_stp (stp_closeacc 1 0 rfl rfl hrow (by decide)) ?_
     rw[show(List.map eDone ALL).length=ALL.length from List.length_map ..]
     refine cC (t:=decide (y.d.place=x.place∧y.d.time=t∧y.d.no=o.no)) (fun he=>?_) (fun he=>?_)
     ·try simp only[aQ]
      refine Za [zR 0] [83] [zB 10 true] ?_
      try simp only[aQ]
      refine J_eb ?_
      try simp only[aQ]
      refine Zp [zR 0,.rd 1 [] 0 1,zR 2] [] [zI 11 (j+1)] (oC (show IntKind.i64.wrap (j+1)=j+1 from wrap_i64 (by omega) (by omega)) oN) ?_
      try simp only[aQ]
      refine J_backx ⟨j+1,true⟩ [0,1,4,5,6,7,8,9,10,11] [0,1] [0] [0,1,2,3] ?_ ?_ (by kernel_rfl) rfl rfl rfl
      ·exact⟨by simp only;omega,by simp only;omega,(memStep hj0 hy (.inl (by simpa using he))).symm⟩
      ·simp only
       omega
     ·try simp only[aQ]
      refine J_skip ?_
      try simp only[aQ]
      refine J_eb ?_
      try simp only[aQ]
      refine Zp [zR 0,.rd 1 [] 0 1,zR 2] [83] [zI 11 (j+1)] (oC (show IntKind.i64.wrap (j+1)=j+1 from wrap_i64 (by omega) (by omega)) oN) ?_
      try simp only[aQ]
      refine J_backx ⟨j+1,b⟩ [0,1,4,5,6,7,8,9,10,11] [0,1] [0] [0,1,2,3] ?_ ?_ (by kernel_rfl) rfl rfl rfl
      ·exact⟨by simp only;omega,by simp only;omega,by dsimp only;rw[hb];exact(memSkip hj0 hy (by simpa using he)).symm⟩
      ·simp only
       omega
    ·have hjl:ALL.take j.toNat=ALL:=List.take_of_length_le (by simp at hlt2;omega)
     rw[hjl]at hb
     by_cases hmem:(⟨x.place,t,o.no⟩:DotT)∈ALL.map (·.d)
     ·rw[decide_eq_true hmem]at hb
      subst hb
      have e5:=hstep
      rw[if_pos hmem,List.append_nil]at e5
      refine J_exit rfl ?_
      refine Zs [zR 0,zR 1] [73] [zB 85 false] ?_
      refine cF ?_
      refine J_skip (J_eb ?_)
      refine Zp [zR 0,.rd 1 [] 0 1,zR 2] [85] [zI 7 (q+1)] (oC (show IntKind.i64.wrap (q+1)=q+1 from wrap_i64 (by omega) (by omega)) oN) ?_
      rw[←e5]
      refine J_backx ⟨q+1,_,_,_⟩ [0,1,4,5,6,7] [] [0] [0,1,2] ?_ ?_ (by kernel_rfl) rfl rfl rfl
      ·exact⟨by simp only;omega,by simp only;omega⟩
      ·simp only
       omega
     ·rw[decide_eq_false hmem]at hb
      subst hb
      have e5:=hstep
      rw[if_neg hmem]at e5
      refine J_exit rfl ?_
      refine Zs [zR 0,zR 1] [73] [zB 85 true] ?_
      refine cTt ?_
      refine jT [(0,true),(1,true),(2,false),(3,false),(4,true)] [] ?_
      refine Ym [zR 0,.rd 1 (hnO 1 11) 0 0,.wr 2 [] 0] [85] (fun nu3=>[zS 86 av1 ALL.length cv1,zS 88 (sA (nu3 0) 0) 1 1]) o0 (fun nu3=>[(nu3 0,.cells #[nI o.no,.string o.key,nI o.kind,.string o.text,nI o.n,.bool o.remove,.slice a2_0 ((List.map eDot o.dots).length) c2_0,nI x.place,nI t,nI o.no,nI (sumL x.when)] 244 (0,0))]) [] (fun nu3=>?_)
      refine JR_appm 0 241 244 11 120 (.agg #[.int .i64 0,.string (ByteArray.mk #[]),.int .i64 0,.string (ByteArray.mk #[]),.int .i64 0,.bool false,.slice none 0 0,.int .i64 0,.int .i64 0,.int .i64 0,.int .i64 0]) (a0:=av1) (len:=ALL.length) (cap0:=cv1) (ax:=(some (⟨nu3 0,0,none⟩))) (m:=1) (c:=1) (dst:=(some 89)) [(⟨o,⟨x.place,t,o.no⟩,sumL x.when⟩:DoneT)] (by kernel_rfl) (by kernel_rfl) (by kernel_rfl) (by kernel_rfl) rfl (by decide) rfl (fun _ _ _ s=>src_one s 2 rfl rfl ⟨.inl ⟨rfl,rfl⟩,⟨.inl ⟨rfl,rfl⟩,⟨.inl ⟨rfl,rfl⟩,⟨.inl ⟨rfl,rfl⟩,⟨.inl ⟨rfl,rfl⟩,⟨.inl ⟨rfl,rfl⟩,⟨.inr (.inl (List.mem_of_getElem? (i:=3) rfl)),⟨.inl ⟨rfl,rfl⟩,⟨.inl ⟨rfl,rfl⟩,⟨.inl ⟨rfl,rfl⟩,⟨.inl ⟨rfl,rfl⟩,trivial⟩⟩⟩⟩⟩⟩⟩⟩⟩⟩⟩) (by simp only[maxLen];omega) (by omega) (fun av2 cv2=>?_)
      rw[←e5]
      try simp only[aQ]
      refine Ya [zR 4] [89,86,88] [zS 5 av2 (ALL.length+1) cv2] ?_
      try simp only[aQ]
      refine JR_end ?_
      try simp only[aQ]
      refine J_eb ?_
      try simp only[aQ]
      refine Zp [zR 0,.rd 1 [] 0 1,zR 2] [] [zI 7 (q+1)] (oC (show IntKind.i64.wrap (q+1)=q+1 from wrap_i64 (by omega) (by omega)) oN) ?_
      try simp only[aQ]
      refine J_backx ⟨q+1,_,_,_⟩ [0,1,4,5,6,7] [] [0] [0,1,2] ?_ ?_ (by kernel_rfl) rfl rfl rfl
      ·exact⟨by simp only;omega,by simp only;omega⟩
      ·simp only
       omega
  ·have hql:x.ops.take q.toNat=x.ops:=List.take_of_length_le (by simp at hlt1;omega)
   rw[hql,allDone_snoc hi0 hx]at hALL
   rw[←hALL]
   refine J_exit rfl ?_
   refine J_eb ?_
   refine Zp [zR 0,.rd 1 [] 0 1,zR 2] [31] [zI 6 (i+1)] (oC (show IntKind.i64.wrap (i+1)=i+1 from wrap_i64 (by omega) (by omega)) oN) ?_
   refine J_backx ⟨i+1,_,_,_⟩ [0,1,4,5,6] [] [0] [0] ?_ ?_ (by kernel_rfl) rfl rfl rfl
   ·exact⟨by simp only;omega,by simp only;omega⟩
   ·simp only
    omega
 ·have hil:l.take i.toNat=l:=List.take_of_length_le (by simp at hlt;omega)
  rw[hil]
  refine J_exit rfl ?_
  refine Zs [zR 0] [21,1,6] [zS 12 none 0 0] ?_
  refine J_seq ?_
  refine Zs [zR 0] [] [zI 13 0] ?_
  refine J_block ?_
  generalize hALL:firsts [] (allDone l)=ALL
  refine J_stpx (stp_acclen 0 rfl) fun _ hk=>?_
  rw[List.length_map]at hk
  subst hk
  have hA12:ALL.length≤4000000:=by
   have h1:=firsts_len [] (allDone l)
   have h2:=allDone_len hright
   rw[hALL]at h1
   omega
  refine J_stp (stp_freeze 0 rfl) ?_
  refine J_stp (stp_add (cRep (.slice none 0 0) (.sl 11 (([]:List DoneT).map eDone))) fun _ _=>⟨rfl,.nil⟩) ?_
  refine Nm [(cRep (Value.slice none 0 0) (D.sl 11 (List.map eDone [])))] ?_
  refine J_loopx (fun x:OutR=>[zV 0 (.string key),zS 4 none 0 0,zS 5 av ALL.length cv,zS 12 x.a x.n x.c,zI 13 x.i]) (fun x:OutR=>[]) (fun x:OutR=>[cRep (.slice x.a x.n x.c) (.sl 11 ((((ALL.take x.i.toNat).filter fun z=>decide (z.o.key=key)).foldl (insG doneLt) []).map eDone))]) (fun x:OutR=>[(.slice a l.length c,(D.sl 3 (List.map eCom l))),(.slice av ALL.length cv,(D.sl 11 (List.map eDone ALL)))]) (fun x:OutR=>(ALL.length - x.i).toNat) (fun x:OutR=>(0≤x.i∧x.i≤ALL.length∧GoodS x.a x.c)) ⟨0,none,0,0⟩ [0,4,5,12,13] [] [0] [0,1] ?_ (by kernel_rfl) rfl rfl rfl ?_
  ·exact⟨by simp,by simp,.inl ⟨rfl,rfl⟩⟩
  rintro⟨i2,a2,n2,c2⟩ ⟨hi20,hi2,hg2⟩
  dsimp only at hi20 hi2 hg2 ⊢
  refine J_seq ?_
  refine Zs (Rds 0 4) [] [zB 93 (decide (i2<(↑ALL.length:Int)))] ?_
  refine cC (t:=decide (i2<(↑ALL.length:Int))) (fun hlt3=>?_) (fun hlt3=>?_)
  ·have hlt4:i2<ALL.length:=by simpa using hlt3
   obtain⟨y,hy⟩:∃y,ALL[i2.toNat]?=some y:=⟨_,List.getElem?_eq_getElem (by omega)⟩
   have hO12:(((ALL.take i2.toNat).filter fun z=>decide (z.o.key=key)).foldl (insG doneLt) []).length≤4000000:=by
    rw[insG_flen,List.length_nil,Nat.zero_add]
    refine Nat.le_trans (List.length_filter_le _ _) ?_
    rw[List.length_take]
    omega
   generalize hOUT:((ALL.take i2.toNat).filter fun z=>decide (z.o.key=key)).foldl (insG doneLt) []=OUT at hO12
   refine J_read1 1 rfl i2.toNat (map_at hy) (by kernel_rfl) (fun b1 off1 cs1 ty1 fz1 a1_0 c1_0 ha1 hrd1=>?_)
   cases ha1
   have hrd1_0:=rd0 (hrd1 0 _ rfl)
   have hrd1_1:=hrd1 1 _ rfl
   have hrd1_2:=hrd1 2 _ rfl
   have hrd1_3:=hrd1 3 _ rfl
   have hrd1_4:=hrd1 4 _ rfl
   have hrd1_5:=hrd1 5 _ rfl
   have hrd1_6:=hrd1 6 _ rfl
   have hrd1_7:=hrd1 7 _ rfl
   have hrd1_8:=hrd1 8 _ rfl
   have hrd1_9:=hrd1 9 _ rfl
   have hrd1_10:=hrd1 10 _ rfl
   by_cases hkey:y.o.key=key
   ·have hkb:(y.o.key.toList==key.toList)=true:=by rw[strEq,decide_eq_true hkey]
    have e6:insG doneLt OUT y=((ALL.take (i2+1).toNat).filter fun z=>decide (z.o.key=key)).foldl (insG doneLt) []:=by
     rw[←hOUT,←take_snoc hi20 hy,List.filter_append,List.foldl_append]
     simp[hkey]
    try simp only[aQ]
    refine J_skip (J_seq (J_block (J_seq ?_)))
    refine Zt [zR 0,zR 1,.rd 2 [] 0 2,zR 3,zR 4,.rd 5 [.r 0 (some (.string y.o.key))] 0 0,zR 6,.rd 7 [] 0 7] [93] [zB 103 false] (oC hi20 (oC hlt4 (oC hrd1_1 (oC (show(!y.o.key.toList==key.toList)=false from by simp[*];done) oN)))) ?_
    refine cF ?_
    refine J_skip ?_
    refine Zs [zR 0] [103] [zI 14 0] ?_
    refine J_seq (J_block ?_)
    refine J_stp (stp_rep 0 rfl) ?_
    refine Nm [] ?_
    refine J_stpx (stp_replen 3 rfl) fun _ hn2=>?_
    rw[List.length_map]at hn2
    subst hn2
    refine J_stpx (stp_know (p:=OUT.length≤c2) fun _ _ H=>(H.g (_,_) (List.mem_of_getElem? (i:=3) rfl)).cap) fun _ hcap2=>?_
    refine J_loopx (fun k:Int=>[zV 0 (.string key),zS 4 none 0 0,zS 5 (sA b1 off1) ALL.length cv,zS 12 a2 OUT.length c2,zI 13 i2,zI 14 k]) (fun k:Int=>[]) (fun k:Int=>[]) (fun k:Int=>[(.slice a l.length c,(D.sl 3 (List.map eCom l))),(.slice (sA b1 off1) ALL.length cv,(D.sl 11 (List.map eDone ALL))),(.slice (a1_0,c1_0).fst ((List.map eDot y.o.dots).length) c1_0,(D.sl 3 (List.map eDot y.o.dots))),(.slice a2 OUT.length c2,(D.sl 11 (List.map eDone OUT)))]) (fun k:Int=>(OUT.length - k).toNat) (fun k:Int=>(0≤k∧k≤OUT.length∧∀z∈OUT.take k.toNat,doneLt z y=true)) 0 [0,4,5,12,13,14] [] [] [0,1,2,3] ?_ (by kernel_rfl) rfl rfl rfl ?_
    ·exact⟨by simp,by simp,by simp⟩
    rintro k ⟨hk0,hk,hkn⟩
    by_cases hlt5:k<OUT.length
    ·obtain⟨z,hz⟩:∃z,OUT[k.toNat]?=some z:=⟨_,List.getElem?_eq_getElem (by omega)⟩
     refine J_read1 3 rfl k.toNat (map_at hz) (by kernel_rfl) (fun b2 off2 cs2 ty2 fz2 a2_0 c2_0 ha2 hrd2=>?_)
     cases ha2
     have hrd2_0:=rd0 (hrd2 0 _ rfl)
     have hrd2_1:=hrd2 1 _ rfl
     have hrd2_2:=hrd2 2 _ rfl
     have hrd2_3:=hrd2 3 _ rfl
     have hrd2_4:=hrd2 4 _ rfl
     have hrd2_5:=hrd2 5 _ rfl
     have hrd2_6:=hrd2 6 _ rfl
     have hrd2_7:=hrd2 7 _ rfl
     have hrd2_8:=hrd2 8 _ rfl
     have hrd2_9:=hrd2 9 _ rfl
     have hrd2_10:=hrd2 10 _ rfl
     try simp only[aQ]
     refine J_seq ?_
     refine jS [(0,true),(1,true),(2,true),(3,true),(4,true),(5,true),(6,true),(7,true),(8,true),(9,true),(10,true),(11,true),(12,true),(13,false),(14,true)] [] ?_
     refine Yp (Rds 0 3++[.rd 3 [] 0 6]++Rds 4 7++[.rd 7 [] 0 2,.rd 8 [.r 1 (some (nI z.o.no)),.r 1 (some (.string z.o.key)),.r 1 (some (nI z.o.kind)),.r 1 (some (.string z.o.text)),.r 1 (some (nI z.o.n)),.r 1 (some (.bool z.o.remove)),.r 1 (some (.slice (a2_0,c2_0).fst ((List.map eDot z.o.dots).length) c2_0)),.r 1 (some (nI z.d.place)),.r 1 (some (nI z.d.time)),.r 1 (some (nI z.d.no)),.r 1 (some (nI z.w))] 0 0,zR 9,zR 10,.rd 11 [] 0 2,.rd 12 [.r 0 (some (nI y.o.no)),.r 0 (some (.string y.o.key)),.r 0 (some (nI y.o.kind)),.r 0 (some (.string y.o.text)),.r 0 (some (nI y.o.n)),.r 0 (some (.bool y.o.remove)),.r 0 (some (.slice (a1_0,c1_0).fst ((List.map eDot y.o.dots).length) c1_0)),.r 0 (some (nI y.d.place)),.r 0 (some (nI y.d.time)),.r 0 (some (nI y.d.no)),.r 0 (some (nI y.w))] 0 0]) [] [zB 108 true,zV 112 (.agg #[nI z.o.no,.string z.o.key,nI z.o.kind,.string z.o.text,nI z.o.n,.bool z.o.remove,.slice (a2_0,c2_0).fst ((List.map eDot z.o.dots).length) c2_0,nI z.d.place,nI z.d.time,nI z.d.no,nI z.w]),zV 116 (.agg #[nI y.o.no,.string y.o.key,nI y.o.kind,.string y.o.text,nI y.o.n,.bool y.o.remove,.slice (a1_0,c1_0).fst ((List.map eDot y.o.dots).length) c1_0,nI y.d.place,nI y.d.time,nI y.d.no,nI y.w])] (oC (show decide (k<(↑OUT.length:Int))=true from by simp;omega) (oC hk0 (oC hlt5 (oC hrd2_0 (oC hrd2_1 (oC hrd2_2 (oC hrd2_3 (oC hrd2_4 (oC hrd2_5 (oC hrd2_6 (oC hrd2_7 (oC hrd2_8 (oC hrd2_9 (oC hrd2_10 (oC hi20 (oC hlt4 (oC hrd1_0 (oC hrd1_1 (oC hrd1_2 (oC hrd1_3 (oC hrd1_4 (oC hrd1_5 (oC hrd1_6 (oC hrd1_7 (oC hrd1_8 (oC hrd1_9 (oC hrd1_10 oN))))))))))))))))))))))))))) ?_
     refine Yc 179 #[.agg #[nI z.o.no,.string z.o.key,nI z.o.kind,.string z.o.text,nI z.o.n,.bool z.o.remove,.slice (a2_0,c2_0).fst ((List.map eDot z.o.dots).length) c2_0,nI z.d.place,nI z.d.time,nI z.d.no,nI z.w],.agg #[nI y.o.no,.string y.o.key,nI y.o.kind,.string y.o.text,nI y.o.n,.bool y.o.remove,.slice (a1_0,c1_0).fst ((List.map eDot y.o.dots).length) c1_0,nI y.d.place,nI y.d.time,nI y.d.no,nI y.w]] (some 117) fun w S hG=>?_
     refine(rAhead (w:=w) (S:=S) (x:=z) (y:=y) rfl rfl).mono ?_
     rintro e3 w3 hR
     refine⟨_,_,_,hR,?_⟩
     cases hzy:doneLt z y with
     | true=>
      try simp only[aQ]
      refine Ya [zR 14] [117,108,112,116] [zB 118 true] ?_
      refine JR_end ?_
      refine cTt ?_
      refine J_skip (J_block ?_)
      refine Zp [zR 0,.rd 1 [] 0 1,zR 2] [118] [zI 14 (k+1)] (oC (show IntKind.i64.wrap (k+1)=k+1 from wrap_i64 (by omega) (by omega)) oN) ?_
      refine J_eb ?_
      refine J_backx (k+1) [0,4,5,12,13,14] [] [] [0,1,2,3] ?_ ?_ (by kernel_rfl) rfl rfl rfl
      ·refine⟨by omega,by omega,fun q hq=>?_⟩
       rw[←take_snoc hk0 hz,List.mem_append,List.mem_singleton]at hq
       rcases hq with hq|rfl
       ·exact hkn q hq
       ·exact hzy
      ·omega
     | false=>
      have hins:=insG_at doneLt (l:=OUT) (x:=y) (k:=k.toNat) hkn fun q hq=>by rw[hz]at hq;cases hq;exact hzy
      rw[e6]at hins
      have e8:OUT.take k.toNat++[y]++OUT.drop k.toNat=((ALL.take (i2+1).toNat).filter fun z=>decide (z.o.key=key)).foldl (insG doneLt) []:=by
       rw[List.append_assoc,List.singleton_append]
       exact hins.symm
      try simp only[aQ]
      refine Ya [zR 14] [117,108,112,116] [zB 118 false] ?_
      refine JR_end ?_
      refine cF ?_
      refine J_exit rfl ?_
      refine Zs [zR 0] [118] [zS 15 none 0 0] ?_
      refine J_seq ?_
      refine J_stp (stp_fact fun w S H=>(H (_,_) (List.mem_of_getElem? (i:=3) rfl)).takeM k.toNat (by omega)) ?_
      refine J_stp (stp_accm eDone 244 11) ?_
      refine Nm [cAcc (.slice none 0 0) 244 11 (List.map eDone [])] ?_
      try simp only[aQ]
      refine jT [(0,true),(1,true),(2,true),(3,true),(4,false),(5,true)] [] ?_
      refine Yp (Rds 0 3++[.rd 3 [] 0 4]) [] [zS 121 none 0 0,zS 124 (sA b2 off2) k.toNat c2] (oC hk0 (oC (show k≤(↑c2:Int) from by omega) oN)) ?_
      refine JR_appm 0 241 244 11 120 (.agg #[.int .i64 0,.string (ByteArray.mk #[]),.int .i64 0,.string (ByteArray.mk #[]),.int .i64 0,.bool false,.slice none 0 0,.int .i64 0,.int .i64 0,.int .i64 0,.int .i64 0]) (a0:=none) (len:=0) (cap0:=0) (ax:=(some (⟨b2,off2,none⟩))) (m:=k.toNat) (c:=c2) (dst:=(some 125)) (List.take k.toNat OUT) (by kernel_rfl) (by kernel_rfl) (by kernel_rfl) (by kernel_rfl) rfl (by decide) rfl (fun _ _ _ s=>src_fact s 5 rfl (by decide)) (by simp only[maxLen];omega) (by omega) (fun av1 cv1=>?_)
      rw[Nat.zero_add]
      try simp only[aQ]
      refine Ya [zR 5] [125,121,124] [zS 15 av1 k.toNat cv1] ?_
      try simp only[aQ]
      refine JR_end ?_
      try simp only[aQ]
      refine J_seq ?_
      try simp only[aQ]
      refine J_again1 1 rfl 0 rfl i2.toNat (map_at hy) (by kernel_rfl) (fun a3_0 c3_0 hrd3=>?_)
      have hrd3_0:=rd0 (hrd3 0 _ rfl)
      have hrd3_1:=hrd3 1 _ rfl
      have hrd3_2:=hrd3 2 _ rfl
      have hrd3_3:=hrd3 3 _ rfl
      have hrd3_4:=hrd3 4 _ rfl
      have hrd3_5:=hrd3 5 _ rfl
      have hrd3_6:=hrd3 6 _ rfl
      have hrd3_7:=hrd3 7 _ rfl
      have hrd3_8:=hrd3 8 _ rfl
      have hrd3_9:=hrd3 9 _ rfl
      have hrd3_10:=hrd3 10 _ rfl
      try simp only[aQ]
      refine jT [(0,true),(1,true),(2,true),(3,true),(4,true),(5,false),(6,false),(7,true)] [] ?_
      refine Yn (Rds 0 3++[.rd 3 [] 0 2,.rd 4 [.r 0 (some (nI y.o.no)),.r 0 (some (.string y.o.key)),.r 0 (some (nI y.o.kind)),.r 0 (some (.string y.o.text)),.r 0 (some (nI y.o.n)),.r 0 (some (.bool y.o.remove)),.r 0 (some (.slice (a1_0,c1_0).fst ((List.map eDot y.o.dots).length) c1_0)),.r 0 (some (nI y.d.place)),.r 0 (some (nI y.d.time)),.r 0 (some (nI y.d.no)),.r 0 (some (nI y.w))] 0 0,.wr 5 [] 0]) [] (fun nu1=>[zS 126 av1 k.toNat cv1,zS 131 (sA (nu1 0) 0) 1 1]) o0 (fun nu1=>[(nu1 0,.cells #[nI y.o.no,.string y.o.key,nI y.o.kind,.string y.o.text,nI y.o.n,.bool y.o.remove,.slice (a1_0,c1_0).fst ((List.map eDot y.o.dots).length) c1_0,nI y.d.place,nI y.d.time,nI y.d.no,nI y.w] 244 (0,0))]) [] (fun nu1=>(oC hi20 (oC hlt4 (oC hrd1_0 (oC hrd1_1 (oC hrd1_2 (oC hrd1_3 (oC hrd1_4 (oC hrd1_5 (oC hrd1_6 (oC hrd1_7 (oC hrd1_8 (oC hrd1_9 (oC hrd1_10 oN)))))))))))))) (fun nu1=>?_)
      refine JR_appm 0 241 244 11 120 (.agg #[.int .i64 0,.string (ByteArray.mk #[]),.int .i64 0,.string (ByteArray.mk #[]),.int .i64 0,.bool false,.slice none 0 0,.int .i64 0,.int .i64 0,.int .i64 0,.int .i64 0]) (a0:=av1) (len:=k.toNat) (cap0:=cv1) (ax:=(some (⟨nu1 0,0,none⟩))) (m:=1) (c:=1) (dst:=(some 132)) [y] (by kernel_rfl) (by kernel_rfl) (by kernel_rfl) (by kernel_rfl) rfl (by decide) rfl (fun _ _ _ s=>src_one s 0 rfl rfl ⟨.inl ⟨rfl,rfl⟩,⟨.inl ⟨rfl,rfl⟩,⟨.inl ⟨rfl,rfl⟩,⟨.inl ⟨rfl,rfl⟩,⟨.inl ⟨rfl,rfl⟩,⟨.inl ⟨rfl,rfl⟩,⟨.inr (.inl (List.mem_of_getElem? (i:=2) rfl)),⟨.inl ⟨rfl,rfl⟩,⟨.inl ⟨rfl,rfl⟩,⟨.inl ⟨rfl,rfl⟩,⟨.inl ⟨rfl,rfl⟩,trivial⟩⟩⟩⟩⟩⟩⟩⟩⟩⟩⟩) (by simp only[maxLen];omega) (by omega) (fun av2 cv2=>?_)
      try simp only[aQ]
      refine Ya [zR 7] [132,126,131] [zS 15 av2 (k.toNat+1) cv2] ?_
      try simp only[aQ]
      refine JR_end ?_
      try simp only[aQ]
      refine J_stp (stp_fact fun w S H=>(H (_,_) (List.mem_of_getElem? (i:=3) rfl)).dropM k.toNat (by omega)) ?_
      refine Nm [cAcc (.slice av2 (k.toNat+1) cv2) 244 11 (List.map eDone (List.take k.toNat OUT++[y]))] ?_
      try simp only[aQ]
      refine jT [(0,true),(1,true),(2,true),(3,true),(4,false),(5,true)] [] ?_
      refine Yp (Rds 0 3++[.rd 3 [] 0 4]) [] [zS 133 av2 (k.toNat+1) cv2,zS 136 (sA b2 (off2+k.toNat*11)) (OUT.length - k.toNat) (c2 - k.toNat)] (oC hk0 (oC hk (oC (show k<(↑c2:Int) from by omega) oN))) ?_
      refine JR_appm 0 241 244 11 120 (.agg #[.int .i64 0,.string (ByteArray.mk #[]),.int .i64 0,.string (ByteArray.mk #[]),.int .i64 0,.bool false,.slice none 0 0,.int .i64 0,.int .i64 0,.int .i64 0,.int .i64 0]) (a0:=av2) (len:=k.toNat+1) (cap0:=cv2) (ax:=(some (⟨b2,off2+k.toNat*11,none⟩))) (m:=OUT.length - k.toNat) (c:=c2 - k.toNat) (dst:=(some 137)) (List.drop k.toNat OUT) (by kernel_rfl) (by kernel_rfl) (by kernel_rfl) (by kernel_rfl) rfl (by decide) rfl (fun _ _ _ s=>src_fact s 7 rfl (by decide)) (by simp only[maxLen];omega) (by omega) (fun av3 cv3=>?_)
      rw[e8]
      try simp only[aQ]
      refine Ya [zR 5] [137,133,136] [zS 12 av3 (k.toNat+1+(OUT.length - k.toNat)) cv3] ?_
      try simp only[aQ]
      refine JR_end ?_
      try simp only[aQ]
      refine J_eb ?_
      try simp only[aQ]
      refine Zp [zR 0,.rd 1 [] 0 1,zR 2] [] [zI 13 (i2+1)] (oC (show IntKind.i64.wrap (i2+1)=i2+1 from wrap_i64 (by omega) (by omega)) oN) ?_
      try simp only[aQ]
      refine J_stpx (stp_good 0 rfl) fun _ hga=>?_
      refine J_stp (stp_freeze 0 rfl) ?_
      refine Nm [] ?_
      refine J_stp (stp_keep 8 rfl) ?_
      refine Nm [(cRep (Value.slice av3 (k.toNat+1+(OUT.length - k.toNat)) cv3) (D.sl 11 (List.map eDone (List.foldl (insG doneLt) [] (List.filter (fun z=>decide (z.o.key=key)) (List.take (i2+1).toNat ALL))))))] ?_
      refine J_backx ⟨i2+1,_,_,_⟩ [0,4,5,12,13] [] [0] [0,1] ?_ ?_ (by kernel_rfl) rfl rfl rfl
      ·exact⟨by simp only;omega,by simp only;omega,hga⟩
      ·simp only
       omega
    ·have hins:=insG_at doneLt (l:=OUT) (x:=y) (k:=k.toNat) hkn fun q hq=>by
      have:=(List.getElem?_eq_some_iff.1 hq).1
      omega
     rw[e6]at hins
     have e8:OUT.take k.toNat++[y]++OUT.drop k.toNat=((ALL.take (i2+1).toNat).filter fun z=>decide (z.o.key=key)).foldl (insG doneLt) []:=by
      rw[List.append_assoc,List.singleton_append]
      exact hins.symm
     refine J_seq ?_
     refine Zt (Rds 0 3++[.rd 3 [] 0 7,zR 4,.rd 5 [] 1 0,.rd 6 [] 1 0,.rd 7 [] 1 0,.rd 8 [] 1 0,.rd 9 [] 1 0,.rd 10 [] 1 0,.rd 11 [] 1 0,.rd 12 [] 1 0,.wr 13 [] 1,zR 14]) [] [zB 118 false] (oC (show decide (k<(↑OUT.length:Int))=false from by simp;omega) oN) ?_
     refine cF ?_
     refine J_exit rfl ?_
     refine Zs [zR 0] [118] [zS 15 none 0 0] ?_
     refine J_seq ?_
     refine J_stp (stp_fact fun w S H=>(H (_,_) (List.mem_of_getElem? (i:=3) rfl)).takeM k.toNat (by omega)) ?_
     refine J_stp (stp_accm eDone 244 11) ?_
     refine Nm [cAcc (.slice none 0 0) 244 11 (List.map eDone [])] ?_
     try simp only[aQ]
     refine jT [(0,true),(1,true),(2,true),(3,true),(4,false),(5,true)] [] ?_
     refine Yp (Rds 0 3++[.rd 3 [] 0 4]) [] [zS 121 none 0 0,zS 124 a2 k.toNat c2] (oC hk0 (oC (show k≤(↑c2:Int) from by omega) oN)) ?_
     refine JR_appm 0 241 244 11 120 (.agg #[.int .i64 0,.string (ByteArray.mk #[]),.int .i64 0,.string (ByteArray.mk #[]),.int .i64 0,.bool false,.slice none 0 0,.int .i64 0,.int .i64 0,.int .i64 0,.int .i64 0]) (a0:=none) (len:=0) (cap0:=0) (ax:=a2) (m:=k.toNat) (c:=c2) (dst:=(some 125)) (List.take k.toNat OUT) (by kernel_rfl) (by kernel_rfl) (by kernel_rfl) (by kernel_rfl) rfl (by decide) rfl (fun _ _ _ s=>src_fact s 4 rfl (by decide)) (by simp only[maxLen];omega) (by omega) (fun av1 cv1=>?_)
     rw[Nat.zero_add]
     try simp only[aQ]
     refine Ya [zR 5] [125,121,124] [zS 15 av1 k.toNat cv1] ?_
     try simp only[aQ]
     refine JR_end ?_
     try simp only[aQ]
     refine J_seq ?_
     try simp only[aQ]
     refine J_again1 1 rfl 0 rfl i2.toNat (map_at hy) (by kernel_rfl) (fun a2_0 c2_0 hrd2=>?_)
     have hrd2_0:=rd0 (hrd2 0 _ rfl)
     have hrd2_1:=hrd2 1 _ rfl
     have hrd2_2:=hrd2 2 _ rfl
     have hrd2_3:=hrd2 3 _ rfl
     have hrd2_4:=hrd2 4 _ rfl
     have hrd2_5:=hrd2 5 _ rfl
     have hrd2_6:=hrd2 6 _ rfl
     have hrd2_7:=hrd2 7 _ rfl
     have hrd2_8:=hrd2 8 _ rfl
     have hrd2_9:=hrd2 9 _ rfl
     have hrd2_10:=hrd2 10 _ rfl
     try simp only[aQ]
     refine jT [(0,true),(1,true),(2,true),(3,true),(4,true),(5,false),(6,false),(7,true)] [] ?_
     refine Yn (Rds 0 3++[.rd 3 [] 0 2,.rd 4 [.r 0 (some (nI y.o.no)),.r 0 (some (.string y.o.key)),.r 0 (some (nI y.o.kind)),.r 0 (some (.string y.o.text)),.r 0 (some (nI y.o.n)),.r 0 (some (.bool y.o.remove)),.r 0 (some (.slice (a1_0,c1_0).fst ((List.map eDot y.o.dots).length) c1_0)),.r 0 (some (nI y.d.place)),.r 0 (some (nI y.d.time)),.r 0 (some (nI y.d.no)),.r 0 (some (nI y.w))] 0 0,.wr 5 [] 0]) [] (fun nu1=>[zS 126 av1 k.toNat cv1,zS 131 (sA (nu1 0) 0) 1 1]) o0 (fun nu1=>[(nu1 0,.cells #[nI y.o.no,.string y.o.key,nI y.o.kind,.string y.o.text,nI y.o.n,.bool y.o.remove,.slice (a1_0,c1_0).fst ((List.map eDot y.o.dots).length) c1_0,nI y.d.place,nI y.d.time,nI y.d.no,nI y.w] 244 (0,0))]) [] (fun nu1=>(oC hi20 (oC hlt4 (oC hrd1_0 (oC hrd1_1 (oC hrd1_2 (oC hrd1_3 (oC hrd1_4 (oC hrd1_5 (oC hrd1_6 (oC hrd1_7 (oC hrd1_8 (oC hrd1_9 (oC hrd1_10 oN)))))))))))))) (fun nu1=>?_)
     refine JR_appm 0 241 244 11 120 (.agg #[.int .i64 0,.string (ByteArray.mk #[]),.int .i64 0,.string (ByteArray.mk #[]),.int .i64 0,.bool false,.slice none 0 0,.int .i64 0,.int .i64 0,.int .i64 0,.int .i64 0]) (a0:=av1) (len:=k.toNat) (cap0:=cv1) (ax:=(some (⟨nu1 0,0,none⟩))) (m:=1) (c:=1) (dst:=(some 132)) [y] (by kernel_rfl) (by kernel_rfl) (by kernel_rfl) (by kernel_rfl) rfl (by decide) rfl (fun _ _ _ s=>src_one s 0 rfl rfl ⟨.inl ⟨rfl,rfl⟩,⟨.inl ⟨rfl,rfl⟩,⟨.inl ⟨rfl,rfl⟩,⟨.inl ⟨rfl,rfl⟩,⟨.inl ⟨rfl,rfl⟩,⟨.inl ⟨rfl,rfl⟩,⟨.inr (.inl (List.mem_of_getElem? (i:=2) rfl)),⟨.inl ⟨rfl,rfl⟩,⟨.inl ⟨rfl,rfl⟩,⟨.inl ⟨rfl,rfl⟩,⟨.inl ⟨rfl,rfl⟩,trivial⟩⟩⟩⟩⟩⟩⟩⟩⟩⟩⟩) (by simp only[maxLen];omega) (by omega) (fun av2 cv2=>?_)
     try simp only[aQ]
     refine Ya [zR 7] [132,126,131] [zS 15 av2 (k.toNat+1) cv2] ?_
     try simp only[aQ]
     refine JR_end ?_
     try simp only[aQ]
     have hkl:k=OUT.length:=by omega
     have hnil:∀w S,Rep w S (.slice a2 0 0) (.sl 11 ((OUT.drop k.toNat).map eDone)):=fun w S=>by
      rw[List.drop_of_length_le (by omega)]
      exact .nil
     by_cases hcc:OUT.length=c2
     ·refine J_stp (stp_fact fun w S _=>hnil w S) ?_
      refine Nm [cAcc (.slice av2 (k.toNat+1) cv2) 244 11 (List.map eDone (List.take k.toNat OUT++[y]))] ?_
      try simp only[aQ]
      refine jT [(0,true),(1,true),(2,true),(3,true),(4,false),(5,true)] [] ?_
      refine Yp (Rds 0 3++[.rd 3 [] 0 5]) [] [zS 133 av2 (k.toNat+1) cv2,zS 136 a2 0 0] (oC (show k=(↑c2:Int) from by omega) (oC hcc oN)) ?_
      refine JR_appm 0 241 244 11 120 (.agg #[.int .i64 0,.string (ByteArray.mk #[]),.int .i64 0,.string (ByteArray.mk #[]),.int .i64 0,.bool false,.slice none 0 0,.int .i64 0,.int .i64 0,.int .i64 0,.int .i64 0]) (a0:=av2) (len:=k.toNat+1) (cap0:=cv2) (ax:=a2) (m:=0) (c:=0) (dst:=(some 137)) (List.drop k.toNat OUT) (by kernel_rfl) (by kernel_rfl) (by kernel_rfl) (by kernel_rfl) rfl (by decide) rfl (fun _ _ _ s=>src_fact s 6 rfl (by decide)) (by simp only[maxLen];omega) (by omega) (fun av3 cv3=>?_)
      rw[e8]
      try simp only[aQ]
      refine Ya [zR 5] [137,133,136] [zS 12 av3 (k.toNat+1) cv3] ?_
      try simp only[aQ]
      refine JR_end ?_
      try simp only[aQ]
      refine J_eb ?_
      try simp only[aQ]
      refine Zp [zR 0,.rd 1 [] 0 1,zR 2] [] [zI 13 (i2+1)] (oC (show IntKind.i64.wrap (i2+1)=i2+1 from wrap_i64 (by omega) (by omega)) oN) ?_
      try simp only[aQ]
      refine J_stpx (stp_good 0 rfl) fun _ hga=>?_
      refine J_stp (stp_freeze 0 rfl) ?_
      refine Nm [] ?_
      refine J_stp (stp_keep 7 rfl) ?_
      refine Nm [(cRep (Value.slice av3 (k.toNat+1+0) cv3) (D.sl 11 (List.map eDone (List.foldl (insG doneLt) [] (List.filter (fun z=>decide (z.o.key=key)) (List.take (i2+1).toNat ALL))))))] ?_
      refine J_backx ⟨i2+1,_,_,_⟩ [0,4,5,12,13] [] [0] [0,1] ?_ ?_ (by kernel_rfl) rfl rfl rfl
      ·exact⟨by simp only;omega,by simp only;omega,hga⟩
      ·simp only
       omega
     ·rcases hg2 with ⟨rfl,rfl⟩|⟨b,off,rfl⟩
      ·omega
      ·refine J_stp (stp_fact fun w S H=>(H (_,_) (List.mem_of_getElem? (i:=3) rfl)).dropM k.toNat (by omega)) ?_
       refine Nm [cAcc (.slice av2 (k.toNat+1) cv2) 244 11 (List.map eDone (List.take k.toNat OUT++[y]))] ?_
       try simp only[aQ]
       refine jT [(0,true),(1,true),(2,true),(3,true),(4,false),(5,true)] [] ?_
       refine Yp (Rds 0 3++[.rd 3 [] 0 4]) [] [zS 133 av2 (k.toNat+1) cv2,zS 136 (sA b (off+k.toNat*11)) (OUT.length - k.toNat) (c2 - k.toNat)] (oC hk0 (oC hk (oC (show k<(↑c2:Int) from by omega) oN))) ?_
       refine JR_appm 0 241 244 11 120 (.agg #[.int .i64 0,.string (ByteArray.mk #[]),.int .i64 0,.string (ByteArray.mk #[]),.int .i64 0,.bool false,.slice none 0 0,.int .i64 0,.int .i64 0,.int .i64 0,.int .i64 0]) (a0:=av2) (len:=k.toNat+1) (cap0:=cv2) (ax:=(some (⟨b,off+k.toNat*11,none⟩))) (m:=OUT.length - k.toNat) (c:=c2 - k.toNat) (dst:=(some 137)) (List.drop k.toNat OUT) (by kernel_rfl) (by kernel_rfl) (by kernel_rfl) (by kernel_rfl) rfl (by decide) rfl (fun _ _ _ s=>src_fact s 6 rfl (by decide)) (by simp only[maxLen];omega) (by omega) (fun av3 cv3=>?_)
       rw[e8]
       try simp only[aQ]
       refine Ya [zR 5] [137,133,136] [zS 12 av3 (k.toNat+1+(OUT.length - k.toNat)) cv3] ?_
       try simp only[aQ]
       refine JR_end ?_
       try simp only[aQ]
       refine J_eb ?_
       try simp only[aQ]
       refine Zp [zR 0,.rd 1 [] 0 1,zR 2] [] [zI 13 (i2+1)] (oC (show IntKind.i64.wrap (i2+1)=i2+1 from wrap_i64 (by omega) (by omega)) oN) ?_
       try simp only[aQ]
       refine J_stpx (stp_good 0 rfl) fun _ hga=>?_
       refine J_stp (stp_freeze 0 rfl) ?_
       refine Nm [] ?_
       refine J_stp (stp_keep 7 rfl) ?_
       refine Nm [(cRep (Value.slice av3 (k.toNat+1+(OUT.length - k.toNat)) cv3) (D.sl 11 (List.map eDone (List.foldl (insG doneLt) [] (List.filter (fun z=>decide (z.o.key=key)) (List.take (i2+1).toNat ALL))))))] ?_
       refine J_backx ⟨i2+1,_,_,_⟩ [0,4,5,12,13] [] [0] [0,1] ?_ ?_ (by kernel_rfl) rfl rfl rfl
       ·exact⟨by simp only;omega,by simp only;omega,hga⟩
       ·simp only
        omega
   ·have hkb:(y.o.key.toList==key.toList)=false:=by rw[strEq,decide_eq_false hkey]
    have e6:OUT=((ALL.take (i2+1).toNat).filter fun z=>decide (z.o.key=key)).foldl (insG doneLt) []:=by
     rw[←hOUT,←take_snoc hi20 hy,List.filter_append]
     simp[hkey]
    try simp only[aQ]
    refine J_skip (J_seq (J_block (J_seq ?_)))
    refine Zt [zR 0,zR 1,.rd 2 [] 0 2,zR 3,zR 4,.rd 5 [.r 0 (some (.string y.o.key))] 0 0,zR 6,.rd 7 [] 0 6] [93] [zB 103 true] (oC hi20 (oC hlt4 (oC hrd1_1 (oC (show(!y.o.key.toList==key.toList)=true from by simp[*];done) oN)))) ?_
    refine cTt ?_
    refine J_exit rfl ?_
    refine Zp [zR 0,.rd 1 [] 0 1,zR 2] [103] [zI 13 (i2+1)] (oC (show IntKind.i64.wrap (i2+1)=i2+1 from wrap_i64 (by omega) (by omega)) oN) ?_
    rw[e6]
    refine J_backx ⟨i2+1,_,_,_⟩ [0,4,5,12,13] [] [0] [0,1] ?_ ?_ (by kernel_rfl) rfl rfl rfl
    ·exact⟨by simp only;omega,by simp only;omega,hg2⟩
    ·simp only
     omega
  ·have hi3:ALL.take i2.toNat=ALL:=List.take_of_length_le (by simp at hlt3;omega)
   rw[hi3]
   have hO:(ALL.filter fun z=>decide (z.o.key=key)).foldl (insG doneLt) []=opsOf key l:=by
    rw[←hALL]
    exact sort_done ((firsts_nodup (s:=[]) (l:=allDone l)).sublist ((List.filter_sublist ..).map _))
   rw[hO]
   have hO12:(opsOf key l).length≤4000000:=by
    rw[←hO,insG_flen,List.length_nil,Nat.zero_add]
    exact Nat.le_trans (List.length_filter_le _ _) hA12
   have hofk:ofKey key l=(opsOf key l).filter fun z=>decide (z.o.kind=kindOf (opsOf key l)):=rfl
   rw[hofk]
   generalize opsOf key l=OUT at hO12
   refine J_stp (stp_rep 0 rfl) ?_
   refine J_stp (stp_accm eDone 244 11) ?_
   refine Nm [cAcc (.slice none 0 0) 244 11 (List.map eDone [])] ?_
   refine J_stpx (stp_replen 2 rfl) fun _ hn2=>?_
   rw[List.length_map]at hn2
   subst hn2
   try simp only[aQ]
   refine J_exit rfl ?_
   refine Zs [zR 0] [93,0,5,13] [zS 16 none 0 0] ?_
   refine J_seq ?_
   refine Zs [zR 0] [] [zI 17 0] ?_
   refine J_block ?_
   refine J_loopx (fun x:AccI=>[zS 4 none 0 0,zS 12 a2 OUT.length c2,zS 16 x.a x.k x.c,zI 17 x.i]) (fun x:AccI=>[]) (fun x:AccI=>[cAcc (.slice x.a x.k x.c) 244 11 (((OUT.take x.i.toNat).filter fun z=>decide (z.o.kind=kindOf OUT)).map eDone)]) (fun x:AccI=>[(.slice a l.length c,(D.sl 3 (List.map eCom l))),(.slice av ALL.length cv,(D.sl 11 (List.map eDone ALL))),(.slice a2 OUT.length c2,(D.sl 11 (List.map eDone OUT)))]) (fun x:AccI=>(OUT.length - x.i).toNat) (fun x:AccI=>(0≤x.i∧x.i≤OUT.length)) ⟨0,none,0,0⟩ [4,12,16,17] [] [0] [0,1,2] ?_ (by kernel_rfl) rfl rfl rfl ?_
   ·exact⟨by simp,by simp⟩
   rintro⟨i3,av3,k3,cv3⟩ ⟨hi30,hi3⟩
   dsimp only at hi30 hi3 ⊢
   refine J_stpx (stp_acclen 0 rfl) fun _ hk3=>?_
   have hk4:k3≤4000000:=by
    rw[List.length_map]at hk3
    have h1:=List.length_filter_le (fun z=>decide (z.o.kind=kindOf OUT)) (OUT.take i3.toNat)
    rw[List.length_take]at h1
    omega
   refine J_seq ?_
   refine Zs (Rds 0 4) [] [zB 141 (decide (i3<(↑OUT.length:Int)))] ?_
   refine cC (t:=decide (i3<(↑OUT.length:Int))) (fun hlt4=>?_) (fun hlt4=>?_)
   ·have hlt5:i3<OUT.length:=by simpa using hlt4
    obtain⟨z,hz⟩:∃z,OUT[i3.toNat]?=some z:=⟨_,List.getElem?_eq_getElem (by omega)⟩
    obtain⟨z0,hz0⟩:∃z,OUT[0]?=some z:=⟨_,List.getElem?_eq_getElem (by omega)⟩
    have hk0:kindOf OUT=z0.o.kind:=by
     cases OUT with
     | nil=>simp at hz0
     | cons q r=>
      simp only[List.getElem?_cons_zero,Option.some.injEq]at hz0
      subst hz0
      rfl
    refine J_read1 2 rfl i3.toNat (map_at hz) (by kernel_rfl) (fun b1 off1 cs1 ty1 fz1 a1_0 c1_0 ha1 hrd1=>?_)
    cases ha1
    have hrd1_0:=rd0 (hrd1 0 _ rfl)
    have hrd1_1:=hrd1 1 _ rfl
    have hrd1_2:=hrd1 2 _ rfl
    have hrd1_3:=hrd1 3 _ rfl
    have hrd1_4:=hrd1 4 _ rfl
    have hrd1_5:=hrd1 5 _ rfl
    have hrd1_6:=hrd1 6 _ rfl
    have hrd1_7:=hrd1 7 _ rfl
    have hrd1_8:=hrd1 8 _ rfl
    have hrd1_9:=hrd1 9 _ rfl
    have hrd1_10:=hrd1 10 _ rfl
    refine J_again1 2 rfl 0 rfl 0 (map_at hz0) (by kernel_rfl) (fun a2_0 c2_0 hrd2=>?_)
    have hrd2_0:=rd0 (hrd2 0 _ rfl)
    have hrd2_1:=hrd2 1 _ rfl
    have hrd2_2:=hrd2 2 _ rfl
    have hrd2_3:=hrd2 3 _ rfl
    have hrd2_4:=hrd2 4 _ rfl
    have hrd2_5:=hrd2 5 _ rfl
    have hrd2_6:=hrd2 6 _ rfl
    have hrd2_7:=hrd2 7 _ rfl
    have hrd2_8:=hrd2 8 _ rfl
    have hrd2_9:=hrd2 9 _ rfl
    have hrd2_10:=hrd2 10 _ rfl
    by_cases hkk:z.o.kind=z0.o.kind
    ·have e9:(OUT.take i3.toNat).filter (fun z=>decide (z.o.kind=kindOf OUT))++[z]=(OUT.take (i3+1).toNat).filter fun z=>decide (z.o.kind=kindOf OUT):=by
      rw[←take_snoc hi30 hz,List.filter_append]
      simp[hk0,hkk]
     try simp only[aQ]
     refine J_skip (J_seq (J_block ?_))
     refine Zt [zR 0,zR 1,.rd 2 [] 0 2,zR 3,zR 4,.rd 5 [.r 0 (some (nI z.o.kind))] 0 0,zR 6,.rd 7 [] 0 2,zR 8,zR 9,.rd 10 [.r 0 (some (nI z0.o.kind))] 0 0,.rd 11 [] 0 6] [141] [zB 155 true] (oC hi30 (oC hlt5 (oC hrd1_2 (oC (show(0:Int)≤(0:Int) from by omega) (oC (show(0:Int)<(↑OUT.length:Int) from by omega) (oC hrd2_2 (oC (show(z.o.kind==z0.o.kind)=true from by simp;omega) oN))))))) ?_
     refine cTt ?_
     refine jT [(0,true),(1,true),(2,true),(3,true),(4,true),(5,false),(6,false),(7,true)] [] ?_
     refine Yn (Rds 0 3++[.rd 3 [] 0 2,.rd 4 [.r 0 (some (nI z.o.no)),.r 0 (some (.string z.o.key)),.r 0 (some (nI z.o.kind)),.r 0 (some (.string z.o.text)),.r 0 (some (nI z.o.n)),.r 0 (some (.bool z.o.remove)),.r 0 (some (.slice (a1_0,c1_0).fst ((List.map eDot z.o.dots).length) c1_0)),.r 0 (some (nI z.d.place)),.r 0 (some (nI z.d.time)),.r 0 (some (nI z.d.no)),.r 0 (some (nI z.w))] 0 0,.wr 5 [] 0]) [155] (fun nu1=>[zS 156 av3 k3 cv3,zS 161 (sA (nu1 0) 0) 1 1]) o0 (fun nu1=>[(nu1 0,.cells #[nI z.o.no,.string z.o.key,nI z.o.kind,.string z.o.text,nI z.o.n,.bool z.o.remove,.slice (a1_0,c1_0).fst ((List.map eDot z.o.dots).length) c1_0,nI z.d.place,nI z.d.time,nI z.d.no,nI z.w] 244 (0,0))]) [] (fun nu1=>(oC hi30 (oC hlt5 (oC hrd1_0 (oC hrd1_1 (oC hrd1_2 (oC hrd1_3 (oC hrd1_4 (oC hrd1_5 (oC hrd1_6 (oC hrd1_7 (oC hrd1_8 (oC hrd1_9 (oC hrd1_10 oN)))))))))))))) (fun nu1=>?_)
     refine JR_appm 0 241 244 11 120 (.agg #[.int .i64 0,.string (ByteArray.mk #[]),.int .i64 0,.string (ByteArray.mk #[]),.int .i64 0,.bool false,.slice none 0 0,.int .i64 0,.int .i64 0,.int .i64 0,.int .i64 0]) (a0:=av3) (len:=k3) (cap0:=cv3) (ax:=(some (⟨nu1 0,0,none⟩))) (m:=1) (c:=1) (dst:=(some 162)) [z] (by kernel_rfl) (by kernel_rfl) (by kernel_rfl) (by kernel_rfl) rfl (by decide) rfl (fun _ _ _ s=>src_one s 0 rfl rfl ⟨.inl ⟨rfl,rfl⟩,⟨.inl ⟨rfl,rfl⟩,⟨.inl ⟨rfl,rfl⟩,⟨.inl ⟨rfl,rfl⟩,⟨.inl ⟨rfl,rfl⟩,⟨.inl ⟨rfl,rfl⟩,⟨.inr (.inl (List.mem_of_getElem? (i:=3) rfl)),⟨.inl ⟨rfl,rfl⟩,⟨.inl ⟨rfl,rfl⟩,⟨.inl ⟨rfl,rfl⟩,⟨.inl ⟨rfl,rfl⟩,trivial⟩⟩⟩⟩⟩⟩⟩⟩⟩⟩⟩) (by simp only[maxLen];omega) (by omega) (fun av1 cv1=>?_)
     rw[e9]
     try simp only[aQ]
     refine Ya [zR 7] [162,156,161] [zS 16 av1 (k3+1) cv1] ?_
     try simp only[aQ]
     refine JR_end ?_
     try simp only[aQ]
     refine J_eb ?_
     try simp only[aQ]
     refine Zp [zR 0,.rd 1 [] 0 1,zR 2] [] [zI 17 (i3+1)] (oC (show IntKind.i64.wrap (i3+1)=i3+1 from wrap_i64 (by omega) (by omega)) oN) ?_
     try simp only[aQ]
     refine J_backx ⟨i3+1,_,_,_⟩ [4,12,16,17] [] [0] [0,1,2] ?_ ?_ (by kernel_rfl) rfl rfl rfl
     ·exact⟨by simp only;omega,by simp only;omega⟩
     ·simp only
      omega
    ·have e9:(OUT.take i3.toNat).filter (fun z=>decide (z.o.kind=kindOf OUT))=(OUT.take (i3+1).toNat).filter fun z=>decide (z.o.kind=kindOf OUT):=by
      rw[←take_snoc hi30 hz,List.filter_append]
      simp[hk0,hkk]
     try simp only[aQ]
     refine J_skip (J_seq (J_block ?_))
     refine Zt [zR 0,zR 1,.rd 2 [] 0 2,zR 3,zR 4,.rd 5 [.r 0 (some (nI z.o.kind))] 0 0,zR 6,.rd 7 [] 0 2,zR 8,zR 9,.rd 10 [.r 0 (some (nI z0.o.kind))] 0 0,.rd 11 [] 0 7] [141] [zB 155 false] (oC hi30 (oC hlt5 (oC hrd1_2 (oC (show(0:Int)≤(0:Int) from by omega) (oC (show(0:Int)<(↑OUT.length:Int) from by omega) (oC hrd2_2 (oC (show(z.o.kind==z0.o.kind)=false from by simp;omega) oN))))))) ?_
     refine cF ?_
     refine J_skip (J_eb ?_)
     refine Zp [zR 0,.rd 1 [] 0 1,zR 2] [155] [zI 17 (i3+1)] (oC (show IntKind.i64.wrap (i3+1)=i3+1 from wrap_i64 (by omega) (by omega)) oN) ?_
     rw[e9]
     refine J_backx ⟨i3+1,_,_,_⟩ [4,12,16,17] [] [0] [0,1,2] ?_ ?_ (by kernel_rfl) rfl rfl rfl
     ·exact⟨by simp only;omega,by simp only;omega⟩
     ·simp only
      omega
   ·have hil3:OUT.take i3.toNat=OUT:=List.take_of_length_le (by simp at hlt4;omega)
    rw[hil3]
    refine J_exit rfl ?_
    refine Zs [zR 0,zR 1] [141,12,16,17] [zS 4 av3 k3 cv3] ?_
    refine Yr [[]] (.slice av3 k3 cv3) fun a w s=>?_
    exact⟨_,_,_,(s.stp (stp_freeze 0 rfl)).ret (by simp) [] [3] rfl rfl⟩
end Go.Proofs.YtmkapocibaojdaaGreatDoor
end
section
namespace Go.Sx
open Go
theorem ofKey_kind {key:ByteArray} {l:List ComT} {x:DoneT} (h:x∈ofKey key l):x.o.kind=kindOf (opsOf key l):=by simpa using(List.mem_filter.1 h).2
def livesU (L P:List DoneT):List DoneT:=P.filter fun a=>!a.o.remove&&!goneB L a.o.text a.d
theorem livesU_snoc (L P:List DoneT) (x:DoneT):livesU L (P++[x])=livesU L P++if (!x.o.remove&&!goneB L x.o.text x.d)=true then [x]else []:=by
 rw[livesU,livesU,List.filter_append]
 congr 1
 cases hb:(!x.o.remove&&!goneB L x.o.text x.d) <;> simp[List.filter,hb]
structure ValS where
 i:Int
 kd:Int
 text:ByteArray
 n:Int
 set:List ByteArray
 a:Option Addr
 m:Nat
 c:Nat
end Go.Sx
namespace Go.Proofs.YtmkapocibaojdaaGreatDoor
open Go Go.Sx
set_option maxHeartbeats 4000000 in
theorem rValueOf {w:World} {S:Nat→Prop} {a:Option Addr} {n c:Nat} {key:ByteArray} {l:List ComT} (h:Rep w S (.slice a n c) (.sl 3 (l.map eCom))) (hl:l.length≤300000) (hc:(valFault key l).code=0) :
  Calls Tryz.prog 72 #[.string key,.slice a n c] w fun e w'=>∃ua un uc,Ret [] w S w' e (valA (Sx.valOf key l) (.slice ua un uc)) [] [(.slice ua un uc,dStrs (Sx.valOf key l).set)]:=by
 refine epG Tryz.func72 bd72 (args:=[.string key,.slice a n c]) (S:=S) (G:=[(_,.sl 3 (l.map eCom))]) (by kernel_rfl) (.cons h (.nil _ _)) ?_
 have hf:(listFault l).code=0:=by
  have h1:=allRight hc
  rw[listFault_none h1.2]
 have hfin:∀x∈ofKey key l,(x.o.kind=1∨x.o.kind=2∨x.o.kind=3)∧(-1099511627776≤x.o.n∧x.o.n≤1099511627776)∧x.o.dots.length≤1000000:=fun x hx=>by
  obtain⟨p,hp⟩:=fine_mem hc (mem_ofKey hx)
  have:=opErr_fine hp
  omega
 have hlk:=ofKey_len hc
 refine Zv [.wr 0 [] 0] [] [] (fun nu1=>[zP 4 (nu1 0)]) o0 (fun nu1=>[(nu1 0,.cells #[nI 0,.string (ByteArray.mk #[]),nI 0,.slice none 0 0] 64 (0,0))]) (fun nu1=>?_)
 refine jS [(0,true),(1,true),(2,false),(3,true)] [] ?_
 refine Ya [zR 0,zR 1] [0,1] [zV 10 (.string key),zS 11 a n c] ?_
 refine Yc 135 #[.string key,.slice a n c] (some 12) fun w S hG=>?_
 refine(rOpsOf (hG.at 0 rfl) hl hf).mono ?_
 rintro e1 w1 ⟨a1,n1,c1,hR⟩
 refine⟨_,_,_,hR,?_⟩
 try simp only[aQ]
 refine Ya [zR 3] [12,10,11] [zS 5 a1 n1 c1] ?_
 refine JR_end ?_
 refine Zv [zR 0,.wr 1 [] 0,.wr 2 (hnO 1 4) 0] [(2,[])] [] (fun nu2=>[zP 6 (nu2 0)]) o0 (fun nu2=>[(nu2 0,.cells #[nI 0,.string (ByteArray.mk #[]),nI 0,.slice none 0 0] 64 (0,0))]) (fun nu2=>?_)
 refine J_seq ?_
 refine Zs [zR 0] [] [zI 7 0] ?_
 refine J_block ?_
 refine J_stpx (stp_replen 1 rfl) fun _ hn1=>?_
 rw[List.length_map]at hn1
 subst hn1
 have hval:Sx.valOf key l=⟨kindOf (opsOf key l),if kindOf (opsOf key l)=1 then lastText (ofKey key l)else ByteArray.mk #[],if kindOf (opsOf key l)=2 then Sx.sumN (ofKey key l)else 0,if kindOf (opsOf key l)=3 then setOf ((livesU (ofKey key l) (ofKey key l)).map (·.o.text))else []⟩:=rfl
 have hemp:ofKey key l=[]→kindOf (opsOf key l)=0:=fun h0=>by
  cases ho:opsOf key l with
  | nil=>rfl
  | cons x r=>
   have:x∈ofKey key l:=List.mem_filter.2 ⟨by rw[ho];exact List.mem_cons_self ..,by rw[ho];simp[kindOf]⟩
   rw[h0]at this
   cases this
 have hkd:=fun(x:DoneT) (hx:x∈ofKey key l)=>ofKey_kind hx
 rw[hval]
 generalize kindOf (opsOf key l)=K at hkd hemp
 generalize ofKey key l=L at hfin hlk hkd hemp
 refine J_stp (stp_add (cRep (.slice none 0 0) (dStrs [])) fun _ _=>⟨rfl,.nil⟩) ?_
 refine Nm [(cRep (Value.slice none 0 0) (dStrs []))] ?_
 refine J_loopx (fun y:ValS=>[zP 4 (nu1 0),zS 5 a1 L.length c1,zP 6 (nu2 0),zI 7 y.i]) (fun y:ValS=>[(nu1 0,.cells #[nI 0,.string (ByteArray.mk #[]),nI 0,.slice none 0 0] 64 (0,0)),(nu2 0,.cells #[nI y.kd,.string y.text,nI y.n,.slice y.a y.m y.c] 64 (0,0))]) (fun y:ValS=>[cRep (.slice y.a y.m y.c) (dStrs y.set)]) (fun y:ValS=>[(.slice a n c,(D.sl 3 (List.map eCom l))),(.slice a1 L.length c1,(D.sl 11 (List.map eDone L)))]) (fun y:ValS=>(L.length - y.i).toNat) (fun y:ValS=>(0≤y.i∧y.i≤L.length∧y.kd=(if y.i=0 then 0 else K)∧y.text=(if K=1 then lastText (L.take y.i.toNat)else ByteArray.mk #[])∧y.n=(if K=2 then Sx.sumN (L.take y.i.toNat)else 0)∧y.set=(if K=3 then setOf ((livesU L (L.take y.i.toNat)).map (·.o.text))else [])∧GoodS y.a y.c)) ⟨0,0,ByteArray.mk #[],0,[],none,0,0⟩ [4,5,6,7] [0,1] [0] [0,1] ?_ (by kernel_rfl) rfl rfl rfl ?_
 ·exact⟨by simp,by simp,by simp,by split <;> rfl,by split <;> rfl,by split <;> rfl,.inl ⟨rfl,rfl⟩⟩
 rintro⟨i,kd,tx,m,st,av,mv,cv⟩ ⟨hi0,hi,hkd2,htx,hm,hst,hg⟩
 dsimp only at hi0 hi hkd2 htx hm hst hg ⊢
 refine J_seq ?_
 refine Zs (Rds 0 4) [] [zB 17 (decide (i<(↑L.length:Int)))] ?_
 refine cC (t:=decide (i<(↑L.length:Int))) (fun hlt=>?_) (fun hlt=>?_)
 ·have hlt2:i<L.length:=by simpa using hlt
  obtain⟨x,hx⟩:∃x,L[i.toNat]?=some x:=⟨_,List.getElem?_eq_getElem (by omega)⟩
  have hxm:=List.mem_of_getElem? hx
  have hxk:=hkd x hxm
  have hxf:=hfin x hxm
  have hs:=sumN_le (p:=L) (fun z hz=>(hfin z hz).2.1) i.toNat
  have hi1:¬i+1=0:=by omega
  refine J_read1 1 rfl i.toNat (map_at hx) (by kernel_rfl) (fun b1 off1 cs1 ty1 fz1 a1_0 c1_0 ha1 hrd1=>?_)
  cases ha1
  have hrd1_0:=rd0 (hrd1 0 _ rfl)
  have hrd1_1:=hrd1 1 _ rfl
  have hrd1_2:=hrd1 2 _ rfl
  have hrd1_3:=hrd1 3 _ rfl
  have hrd1_4:=hrd1 4 _ rfl
  have hrd1_5:=hrd1 5 _ rfl
  have hrd1_6:=hrd1 6 _ rfl
  have hrd1_7:=hrd1 7 _ rfl
  have hrd1_8:=hrd1 8 _ rfl
  have hrd1_9:=hrd1 9 _ rfl
  have hrd1_10:=hrd1 10 _ rfl
  by_cases h1:K=1
  ·have h2:¬K=2:=by omega
   have h3:¬K=3:=by omega
   rw[h1]at hxk
   rw[if_neg h2]at hm
   rw[if_neg h3]at hst
   try simp only[aQ]
   refine J_skip (J_seq (J_block ?_))
   refine Zu [zR 0,zR 1,.rd 2 [] 0 2,zR 3,.rd 4 [.r 0 (some (nI x.o.no)),.r 0 (some (.string x.o.key)),.r 0 (some (nI x.o.kind)),.r 0 (some (.string x.o.text)),.r 0 (some (nI x.o.n)),.r 0 (some (.bool x.o.remove)),.r 0 (some (.slice (a1_0,c1_0).fst ((List.map eDot x.o.dots).length) c1_0))] 0 0,.wr 5 [] 0,.wr 6 (hnO 2 7) 0] [(6,[])] [17] (fun nu3=>[zP 8 (nu3 0)]) o0 (fun nu3=>[(nu3 0,.cells #[nI x.o.no,.string x.o.key,nI x.o.kind,.string x.o.text,nI x.o.n,.bool x.o.remove,.slice (a1_0,c1_0).fst ((List.map eDot x.o.dots).length) c1_0] 55 (0,0))]) (fun nu3=>(oC hi0 (oC hlt2 (oC hrd1_0 (oC hrd1_1 (oC hrd1_2 (oC hrd1_3 (oC hrd1_4 (oC hrd1_5 (oC hrd1_6 oN)))))))))) (fun nu3=>?_)
   refine Zv [zR 0,.rd 1 [.o 2 none] 0 0,zR 2,.wr 3 [.o 1 none] 0] [(3,[1])] [] (fun _=>[]) (fun _=>[(1,.cells #[nI x.o.kind,.string tx,nI m,.slice av mv cv] 64 (0,0))]) o0 (fun _=>?_)
   refine Zs [zR 0,.rd 1 [.o 2 none] 0 0] [] [zI 29 x.o.kind] ?_
   refine J_block ?_
   refine Zt [.rd 0 [] 0 6,zR 1] [] [zB 30 true] (oC (show(x.o.kind==(1:Int))=true from by simp;omega) oN) ?_
   refine cTt ?_
   refine Zm [zR 0,.rd 1 [.o 2 none] 0 0,zR 2,.wr 3 [.o 1 none] 0] [(3,[1])] [30] (fun _=>[]) (fun _=>[(1,.cells #[nI x.o.kind,.string x.o.text,nI m,.slice av mv cv] 64 (0,0))]) o0 (fun _=>?_)
   refine J_eb (J_eb ?_)
   refine Zp [zR 0,.rd 1 [] 0 1,zR 2] [] [zI 7 (i+1)] (oC (show IntKind.i64.wrap (i+1)=i+1 from wrap_i64 (by omega) (by omega)) oN) ?_
   refine J_backx ⟨i+1,x.o.kind,x.o.text,m,st,_,_,_⟩ [4,5,6,7] [0,1] [0] [0,1] ?_ ?_ (by kernel_rfl) rfl rfl rfl
   ·refine⟨by simp only;omega,by simp only;omega,?_,?_,?_,?_,hg⟩
    ·dsimp only
     rw[if_neg hi1,h1,hxk]
    ·dsimp only
     rw[if_pos h1,←take_snoc hi0 hx,lastText_snoc]
    ·dsimp only
     rw[if_neg h2,hm]
    ·dsimp only
     rw[if_neg h3,hst]
   ·simp only
    omega
  ·rw[if_neg h1]at htx
   by_cases h2:K=2
   ·have h3:¬K=3:=by omega
    rw[h2]at hxk
    rw[if_pos h2]at hm
    rw[if_neg h3]at hst
    have hmb:-9223372036854775808≤m+x.o.n∧m+x.o.n≤9223372036854775807:=by omega
    try simp only[aQ]
    refine J_skip (J_seq (J_block ?_))
    refine Zu [zR 0,zR 1,.rd 2 [] 0 2,zR 3,.rd 4 [.r 0 (some (nI x.o.no)),.r 0 (some (.string x.o.key)),.r 0 (some (nI x.o.kind)),.r 0 (some (.string x.o.text)),.r 0 (some (nI x.o.n)),.r 0 (some (.bool x.o.remove)),.r 0 (some (.slice (a1_0,c1_0).fst ((List.map eDot x.o.dots).length) c1_0))] 0 0,.wr 5 [] 0,.wr 6 (hnO 2 7) 0] [(6,[])] [17] (fun nu3=>[zP 8 (nu3 0)]) o0 (fun nu3=>[(nu3 0,.cells #[nI x.o.no,.string x.o.key,nI x.o.kind,.string x.o.text,nI x.o.n,.bool x.o.remove,.slice (a1_0,c1_0).fst ((List.map eDot x.o.dots).length) c1_0] 55 (0,0))]) (fun nu3=>(oC hi0 (oC hlt2 (oC hrd1_0 (oC hrd1_1 (oC hrd1_2 (oC hrd1_3 (oC hrd1_4 (oC hrd1_5 (oC hrd1_6 oN)))))))))) (fun nu3=>?_)
    refine Zv [zR 0,.rd 1 [.o 2 none] 0 0,zR 2,.wr 3 [.o 1 none] 0] [(3,[1])] [] (fun _=>[]) (fun _=>[(1,.cells #[nI x.o.kind,.string tx,nI m,.slice av mv cv] 64 (0,0))]) o0 (fun _=>?_)
    refine Zs [zR 0,.rd 1 [.o 2 none] 0 0] [] [zI 29 x.o.kind] ?_
    refine J_block ?_
    refine Zt [.rd 0 [] 0 7,zR 1] [] [zB 30 false] (oC (show(x.o.kind==(1:Int))=false from by simp;omega) oN) ?_
    refine cF ?_
    refine Zt [.rd 0 [] 0 6,zR 1] [30] [zB 35 true] (oC (show(x.o.kind==(2:Int))=true from by simp;omega) oN) ?_
    refine cTt ?_
    refine Zn [zR 0,.rd 1 [.o 1 none] 0 0,zR 2,.rd 3 [.o 2 none] 0 0,.rd 4 [] 0 1,zR 5,.wr 6 [.o 1 none] 0] [(6,[1])] [35] (fun _=>[]) (fun _=>[(1,.cells #[nI x.o.kind,.string tx,nI (m+x.o.n),.slice av mv cv] 64 (0,0))]) o0 (fun _=>(oC (show IntKind.i64.wrap (m+x.o.n)=m+x.o.n from wrap_i64 (by omega) (by omega)) oN)) (fun _=>?_)
    refine J_eb (J_eb ?_)
    refine Zp [zR 0,.rd 1 [] 0 1,zR 2] [] [zI 7 (i+1)] (oC (show IntKind.i64.wrap (i+1)=i+1 from wrap_i64 (by omega) (by omega)) oN) ?_
    refine J_backx ⟨i+1,x.o.kind,tx,m+x.o.n,st,_,_,_⟩ [4,5,6,7] [0,1] [0] [0,1] ?_ ?_ (by kernel_rfl) rfl rfl rfl
    ·refine⟨by simp only;omega,by simp only;omega,?_,?_,?_,?_,hg⟩
     ·dsimp only
      rw[if_neg hi1,h2,hxk]
     ·dsimp only
      rw[if_neg h1,htx]
     ·dsimp only
      rw[if_pos h2,←take_snoc hi0 hx,sumN_snoc,hm]
     ·dsimp only
      rw[if_neg h3,hst]
    ·simp only
     omega
   ·have h3:K=3:=by omega
    rw[h3]at hxk
    rw[if_neg h2]at hm
    rw[if_pos h3]at hst
    have hsl:st.length≤4000000:=by
     rw[hst]
     refine Nat.le_trans (setOf_lenF _ _) ?_
     rw[List.length_nil,Nat.zero_add,List.length_map]
     refine Nat.le_trans (List.length_filter_le _ _) ?_
     rw[List.length_take]
     omega
    have hsn:=livesU_snoc L (L.take i.toNat) x
    rw[take_snoc hi0 hx]at hsn
    try simp only[aQ]
    refine J_skip (J_seq (J_block ?_))
    refine Zu [zR 0,zR 1,.rd 2 [] 0 2,zR 3,.rd 4 [.r 0 (some (nI x.o.no)),.r 0 (some (.string x.o.key)),.r 0 (some (nI x.o.kind)),.r 0 (some (.string x.o.text)),.r 0 (some (nI x.o.n)),.r 0 (some (.bool x.o.remove)),.r 0 (some (.slice (a1_0,c1_0).fst ((List.map eDot x.o.dots).length) c1_0))] 0 0,.wr 5 [] 0,.wr 6 (hnO 2 7) 0] [(6,[])] [17] (fun nu3=>[zP 8 (nu3 0)]) o0 (fun nu3=>[(nu3 0,.cells #[nI x.o.no,.string x.o.key,nI x.o.kind,.string x.o.text,nI x.o.n,.bool x.o.remove,.slice (a1_0,c1_0).fst ((List.map eDot x.o.dots).length) c1_0] 55 (0,0))]) (fun nu3=>(oC hi0 (oC hlt2 (oC hrd1_0 (oC hrd1_1 (oC hrd1_2 (oC hrd1_3 (oC hrd1_4 (oC hrd1_5 (oC hrd1_6 oN)))))))))) (fun nu3=>?_)
    refine Zv [zR 0,.rd 1 [.o 2 none] 0 0,zR 2,.wr 3 [.o 1 none] 0] [(3,[1])] [] (fun _=>[]) (fun _=>[(1,.cells #[nI x.o.kind,.string tx,nI m,.slice av mv cv] 64 (0,0))]) o0 (fun _=>?_)
    refine Zs [zR 0,.rd 1 [.o 2 none] 0 0] [] [zI 29 x.o.kind] ?_
    refine J_block ?_
    refine Zt [.rd 0 [] 0 7,zR 1] [] [zB 30 false] (oC (show(x.o.kind==(1:Int))=false from by simp;omega) oN) ?_
    refine cF ?_
    refine Zt [.rd 0 [] 0 7,zR 1] [30] [zB 35 false] (oC (show(x.o.kind==(2:Int))=false from by simp;omega) oN) ?_
    refine cF ?_
    refine Zt [.rd 0 [] 0 6,zR 1] [35] [zB 43 true] (oC (show(x.o.kind==(3:Int))=true from by simp;omega) oN) ?_
    refine cTt ?_
    refine jS [(0,true),(1,true),(2,true),(3,true),(4,true),(5,false),(6,true)] [] ?_
    refine Yp (Rds 0 3++[.rd 3 [] 0 2,.rd 4 [.r 0 (some (nI x.o.no)),.r 0 (some (.string x.o.key)),.r 0 (some (nI x.o.kind)),.r 0 (some (.string x.o.text)),.r 0 (some (nI x.o.n)),.r 0 (some (.bool x.o.remove)),.r 0 (some (.slice (a1_0,c1_0).fst ((List.map eDot x.o.dots).length) c1_0)),.r 0 (some (nI x.d.place)),.r 0 (some (nI x.d.time)),.r 0 (some (nI x.d.no)),.r 0 (some (nI x.w))] 0 0]) [43] [zS 45 (sA b1 off1) L.length c1,zV 49 (.agg #[nI x.o.no,.string x.o.key,nI x.o.kind,.string x.o.text,nI x.o.n,.bool x.o.remove,.slice (a1_0,c1_0).fst ((List.map eDot x.o.dots).length) c1_0,nI x.d.place,nI x.d.time,nI x.d.no,nI x.w])] (oC hi0 (oC hlt2 (oC hrd1_0 (oC hrd1_1 (oC hrd1_2 (oC hrd1_3 (oC hrd1_4 (oC hrd1_5 (oC hrd1_6 (oC hrd1_7 (oC hrd1_8 (oC hrd1_9 (oC hrd1_10 oN))))))))))))) ?_
    refine Yc 136 #[.slice (sA b1 off1) L.length c1,.agg #[nI x.o.no,.string x.o.key,nI x.o.kind,.string x.o.text,nI x.o.n,.bool x.o.remove,.slice (a1_0,c1_0).fst ((List.map eDot x.o.dots).length) c1_0,nI x.d.place,nI x.d.time,nI x.d.no,nI x.w]] (some 50) fun w S hG=>?_
    refine(rLive (x:=x) (hG.at 1 rfl) (by omega) (fun y hy=>(hfin y hy).2.2) rfl).mono ?_
    rintro e2 w2 hR
    refine⟨_,_,_,hR,?_⟩
    cases hlv:(!x.o.remove&&!goneB L x.o.text x.d)with
    | false=>
     rw[hlv,if_neg (by decide),List.append_nil]at hsn
     try simp only[aQ]
     refine Ya [zR 6] [50,45,49] [zB 9 false] ?_
     refine JR_end ?_
     refine Zs [zR 0] [] [zB 51 false] ?_
     refine cF ?_
     refine J_skip (J_eb (J_eb ?_))
     refine Zp [zR 0,.rd 1 [] 0 1,zR 2] [51] [zI 7 (i+1)] (oC (show IntKind.i64.wrap (i+1)=i+1 from wrap_i64 (by omega) (by omega)) oN) ?_
     refine J_backx ⟨i+1,x.o.kind,tx,m,st,_,_,_⟩ [4,5,6,7] [0,1] [0] [0,1] ?_ ?_ (by kernel_rfl) rfl rfl rfl
     ·refine⟨by simp only;omega,by simp only;omega,?_,?_,?_,?_,hg⟩
      ·dsimp only
       rw[if_neg hi1,h3,hxk]
      ·dsimp only
       rw[if_neg h1,htx]
      ·dsimp only
       rw[if_neg h2,hm]
      ·dsimp only
       rw[if_pos h3,hst,hsn]
     ·simp only
      omega
    | true=>
     rw[hlv,if_pos rfl]at hsn
     try simp only[aQ]
     refine Ya [zR 6] [50,45,49] [zB 9 true] ?_
     refine JR_end ?_
     refine Zs [zR 0] [] [zB 51 true] ?_
     refine cTt ?_
     refine J_stp (stp_rep 0 rfl) ?_
     refine Nm [] ?_
     try simp only[aQ]
     refine jT [(0,true),(1,true),(2,true),(3,true),(4,false),(5,true),(6,false)] [] ?_
     refine Ya [zR 0,.rd 1 [.o 1 none] 0 0,zR 2,.rd 3 [.o 2 none] 0 0] [51] [zS 53 av mv cv,zV 55 (.string x.o.text)] ?_
     refine Yc 137 #[.slice av mv cv,.string x.o.text] (some 56) fun w S hG=>?_
     refine(rEnter (t:=x.o.text) (hG.at 3 rfl) hsl hg).mono ?_
     rintro e3 w3 ⟨ua,un,uc,hR,hg2⟩
     refine⟨_,_,_,hR,?_⟩
     try simp only[aQ]
     refine Ym [zR 5,.wr 6 [.o 1 none] 0] [56,53,55] (fun _=>[]) (fun _=>[(1,.cells #[nI x.o.kind,.string tx,nI m,.slice ua un uc] 64 (0,0))]) o0 [] (fun _=>?_)
     refine JR_end (J_eb (J_eb ?_))
     refine Zp [zR 0,.rd 1 [] 0 1,zR 2] [] [zI 7 (i+1)] (oC (show IntKind.i64.wrap (i+1)=i+1 from wrap_i64 (by omega) (by omega)) oN) ?_
     refine J_stp (stp_keep 4 rfl) ?_
     refine Nm [(cRep (Value.slice ua un uc) (dStrs (enterB st x.o.text)))] ?_
     refine J_backx ⟨i+1,x.o.kind,tx,m,enterB st x.o.text,_,_,_⟩ [4,5,6,7] [0,1] [0] [0,1] ?_ ?_ (by kernel_rfl) rfl rfl rfl
     ·refine⟨by simp only;omega,by simp only;omega,?_,?_,?_,?_,hg2⟩
      ·dsimp only
       rw[if_neg hi1,h3,hxk]
      ·dsimp only
       rw[if_neg h1,htx]
      ·dsimp only
       rw[if_neg h2,hm]
      ·dsimp only
       rw[if_pos h3,hst,hsn,List.map_append,setOf,setOf,List.foldl_append]
       rfl
     ·simp only
      omega
 ·have hil:L.take i.toNat=L:=List.take_of_length_le (by simp at hlt;omega)
  rw[hil]at htx hm hst
  have hkK:kd=K:=by
   rw[hkd2]
   split
   ·exact(hemp (List.length_eq_zero_iff.1 (by simp at hlt;omega))).symm
   ·rfl
  refine J_exit rfl ?_
  refine Zv [.rd 0 (hnO 1 4) 0 0,.wr 1 (hnO 0 4) 0] [(1,[0])] [17,5,6,7] (fun _=>[]) (fun _=>[(0,.cells #[nI kd,.string tx,nI m,.slice av mv cv] 64 (0,0))]) o0 (fun _=>?_)
  refine Yr [(hnO 0 4)] (.agg #[nI kd,.string tx,nI m,.slice av mv cv]) fun a w s=>?_
  rw[←htx,←hm,←hst,←hkK]
  exact⟨_,_,_,(s.stp (stp_rep 0 rfl)).ret (by simp) [] [2] rfl rfl⟩
end Go.Proofs.YtmkapocibaojdaaGreatDoor
end
