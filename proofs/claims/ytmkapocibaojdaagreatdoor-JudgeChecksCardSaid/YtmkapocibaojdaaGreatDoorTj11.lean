/- Part 11 of the texts of a claim: JgU JgL JgM JgN JgQ JgP JgT RVec JgO. -/
import Derived.Test.YtmkapocibaojdaaGreatDoorTj10
section
namespace Go.Proofs.YtmkapocibaojdaaGreatDoor
open Go Go.Sx
set_option maxHeartbeats 4000000 in
theorem rows_false {w:World} {S:Nat→Prop} (n:Nat):RowsAt w S (List.replicate n (.bool false)) 1 ((List.replicate n false).map eBo):=by
 refine⟨fun row h=>?_,fun i j row d h1 h2=>?_⟩
 ·obtain⟨b,_,rfl⟩:=List.mem_map.1 h
  rfl
 ·rw[List.getElem?_map,Option.map_eq_some_iff]at h1
  obtain⟨b,hb,rfl⟩:=h1
  obtain⟨hi,rfl⟩:=List.getElem?_eq_some_iff.1 hb
  rw[List.length_replicate]at hi
  rw[List.getElem_replicate]at h2
  cases j with
  | zero=>
   cases h2
   exact⟨.bool false,by simp[hi],.v rfl⟩
  | succ j=>cases h2
theorem two_of {xs ys:List Int} (h:twoErr xs ys=0):vecErr xs=0∧vecErr ys=0∧xs.length=ys.length:=by
 unfold twoErr at h
 split at h
 ·rename_i h0
  exact absurd h h0
 ·rename_i h0
  split at h
  ·rename_i h4
   exact absurd h h4
  ·rename_i h4
   split at h
   ·cases h
   ·rename_i h5
    exact⟨by simpa using h0,by simpa using h4,by simpa using h5⟩
theorem two_eq {xs ys:List Int} (h1:vecErr xs=0) (h2:vecErr ys=0):twoErr xs ys=if ys.length≠xs.length then 3 else 0:=by
 rw[twoErr,if_neg (by simp[h1]),if_neg (by simp[h2])]
 by_cases h:xs.length=ys.length
 ·rw[if_neg (by simp[h]),if_neg (by simp[h])]
 ·rw[if_pos h,if_pos (Ne.symm h)]
theorem cut_ok {l:List EvT} {x:EvT} (h:cutE l x=0):twoErr x.c.when x.at'=0∧x.at'.length=((l.head?).map (·.at'.length)).getD 0:=by
 unfold cutE at h
 split at h
 ·rename_i h0
  exact absurd h h0
 ·rename_i h0
  refine⟨by simpa using h0,?_⟩
  split at h
  ·cases h
  ·rename_i h2
   simpa using h2
theorem even_cut {l:List EvT} (h:∀x∈l,cutE l x=0):Even6 l:=by
 refine⟨fun x hx y hy=>?_,fun x hx=>?_⟩
 ·obtain⟨x1,x2,x3⟩:=two_of (cut_ok (h x hx)).1
  obtain⟨y1,y2,y3⟩:=two_of (cut_ok (h y hy)).1
  have ex:=(cut_ok (h x hx)).2
  have ey:=(cut_ok (h y hy)).2
  constructor
  ·rw[two_eq x1 y2,if_neg (by omega)]
  ·rw[two_eq y2 x1,if_neg (by omega)]
 ·obtain⟨x1,x2,_⟩:=two_of (cut_ok (h x hx)).1
  exact⟨(vecErr_len x1).2,(vecErr_len x2).2⟩
def CutsRet (w:World) (S:Nat→Prop) (w':World) (e:Ending) (er:Nat→Addr) (c:List (List Nat)×FT):Prop:=
 (c.2=⟨0,-1⟩∧∃ra rn rc,Ret [] w S w' e (.tuple #[.slice ra rn rc,.nilIface]) [] [(.slice ra rn rc,.sl 1 (c.1.map eRw))]) ∨
 (c.2=⟨10,-1⟩∧Ret [] w S w' e (.tuple #[.slice none 0 0,.iface 390 (.pointer (some (er 10)))]) [] []) ∨
 (1≤c.2.code∧0≤c.2.at'∧∃pb,Ret [] w S w' e (.tuple #[.slice none 0 0,.iface 202 (.pointer (some ⟨pb,0,none⟩))]) [] [(.pointer (some ⟨pb,0,none⟩),.ptr [.v (.int .i64 c.2.at'),.v (.iface 390 (.pointer (some (er c.2.code))))])])
set_option maxHeartbeats 16000000 in
theorem jCuts {w:World} {S:Nat→Prop} {er:Nat→Addr} {eb:Nat→Array Value×TypeId} {ua:Option Addr} {un uc:Nat} {l:List EvT} (hC:Rep w S .nilIface (dC er eb)) (h:Rep w S (.slice ua un uc) (.sl 7 (l.map eEv))) (hl:l.length≤20) (hf:∀x∈l,Fits x) :
  Calls Tryz.prog 55 #[.slice ua un uc] w fun e w'=>CutsRet w S w' e er (cutsE l):=by
 have e1:=h.slen
 rw[List.length_map]at e1
 subst e1
 refine epG Tryz.func55 bd55 (args:=[.slice ua l.length uc]) (S:=S) (G:=[(_,dC er eb),(_,.sl 7 (l.map eEv))]) (by kernel_rfl) (.cons hC (.cons h (.nil _ _))) ?_
 refine Zs [zR 0,zR 1] [] [zS 2 none 0 0,zV 3 .nilIface] ?_
 refine J_seq ?_
 refine Zs (Rds 0 3) [] [zS 17 ua l.length uc,zI 18 (↑l.length:Int),zI 19 0] ?_
 refine J_block ?_
 refine J_loopx (fun i:Int=>[zS 0 ua l.length uc,zS 2 none 0 0,zV 3 .nilIface,zS 17 ua l.length uc,zI 18 (↑l.length:Int),zI 19 i]) (fun i:Int=>[]) (fun i:Int=>[]) (fun i:Int=>[(.nilIface,(dC er eb)),(.slice ua l.length uc,(D.sl 7 (List.map eEv l)))]) (fun i:Int=>(l.length - i).toNat) (fun i:Int=>(0≤i∧i≤l.length∧∀k y,k<i.toNat→l[k]?=some y→cutE l y=0)) 0 [0,2,3,17,18,19] [] [] [0,1] ?_ (by kernel_rfl) rfl rfl rfl ?_
 ·exact⟨by simp,by omega,by simp⟩
 rintro i ⟨hi0,hi,hno⟩
 refine Zs [zR 0] [] [zB 20 (decide (i<(↑l.length:Int)))] ?_
 refine J_seq ?_
 refine cC (t:=decide (i<(↑l.length:Int))) (fun hlt=>?_) (fun hlt=>?_)
 ·have hlt2:i<l.length:=of_decide_eq_true hlt
  obtain⟨x,hx⟩:∃x,l[i.toNat]?=some x:=⟨_,List.getElem?_eq_getElem (by omega)⟩
  have hxm:=List.mem_of_getElem? hx
  have hfx:=hf x hxm
  have hf1:=hfx.at'
  have hf2:=hfx.wh
  have hbad:∀k:Nat,cutE l x=k→k≠0→cutsE l=([],⟨k,i⟩):=fun k hk h0=>by
   have:=firstE_at (f:=fun _=>cutE l) (i:=0) hx (by rw[hk];exact h0) fun k y hk hy=>hno k y hk hy
   rw[cutsE,this,Nat.zero_add,hk,Int.toNat_of_nonneg hi0,if_pos h0]
  refine J_read4 1 rfl i.toNat (map_at hx) (by kernel_rfl) (fun b1 off1 cs1 ty1 fz1 a1_0 c1_0 a1_1 c1_1 a1_2 c1_2 a1_3 c1_3 ha1 hrd1=>?_)
  cases ha1
  have hrd1_0:=rd0 (hrd1 0 _ rfl)
  have hrd1_1:=hrd1 1 _ rfl
  have hrd1_2:=hrd1 2 _ rfl
  have hrd1_3:=hrd1 3 _ rfl
  have hrd1_4:=hrd1 4 _ rfl
  have hrd1_5:=hrd1 5 _ rfl
  have hrd1_6:=hrd1 6 _ rfl
  try simp only[aQ]
  refine J_skip (J_seq (J_block ?_))
  refine Zu [zR 0,.rd 1 [] 0 2,.rd 2 [.r 0 (some (nI x.ses)),.r 0 (some (nI x.place)),.r 0 (some (.slice (a1_0,c1_0).fst ((List.map eI x.at').length) c1_0)),.r 0 (some (.slice (a1_1,c1_1).fst ((List.map eRead x.reads).length) c1_1)),.r 0 (some (.slice (a1_2,c1_2).fst ((List.map eI x.c.when).length) c1_2)),.r 0 (some (nI x.c.place)),.r 0 (some (.slice (a1_3,c1_3).fst ((List.map eOp x.c.ops).length) c1_3))] 0 0,.wr 3 [] 0,zR 4,.wr 5 (hnO 0 7) 0] [(5,[])] [20] (fun nu1=>[zI 4 i,zP 5 (nu1 0)]) o0 (fun nu1=>[(nu1 0,.cells #[nI x.ses,nI x.place,.slice (a1_0,c1_0).fst ((List.map eI x.at').length) c1_0,.slice (a1_1,c1_1).fst ((List.map eRead x.reads).length) c1_1,.slice (a1_2,c1_2).fst ((List.map eI x.c.when).length) c1_2,nI x.c.place,.slice (a1_3,c1_3).fst ((List.map eOp x.c.ops).length) c1_3] 200 (0,0))]) (fun nu1=>(oC hi0 (oC hlt2 (oC hrd1_0 (oC hrd1_1 (oC hrd1_2 (oC hrd1_3 (oC hrd1_4 (oC hrd1_5 (oC hrd1_6 oN)))))))))) (fun nu1=>?_)
  refine J_seq ?_
  refine jS [(0,true),(1,true),(2,true),(3,true),(4,true),(5,false),(6,true),(7,true),(8,true),(9,true),(10,true)] [] ?_
  refine Ya [zR 0,zR 1,.rd 2 [.o 0 none] 0 0,zR 3,.rd 4 [.o 0 none] 0 0] [] [zS 27 (a1_2,c1_2).fst ((List.map eI x.c.when).length) c1_2,zS 29 (a1_0,c1_0).fst ((List.map eI x.at').length) c1_0] ?_
  refine Yc 100 #[.slice (a1_2,c1_2).fst ((List.map eI x.c.when).length) c1_2,.slice (a1_0,c1_0).fst ((List.map eI x.at').length) c1_0] (some 30) fun w S hG=>?_
  refine(vwithin (globs_of (hG.at 0 rfl)) (hG.at 4 rfl) (hG.at 2 rfl) (by omega) (by omega)).mono ?_
  rintro e3 w3 (⟨ht,hR⟩|⟨ht,hR⟩)
  ·refine⟨_,_,_,hR,?_⟩
   try simp only[aQ]
   refine Ya (Rds 6 11) [30,27,29] [zV 7 (.iface 390 (.pointer (some (er (twoErr x.c.when x.at')))))] ?_
   refine JR_end ?_
   refine Zs [zR 0,zR 1] [] [zB 34 true] ?_
   refine cTt ?_
   refine Zv (Rds 0 3++[.wr 3 [] 0]++Rds 4 7) [] [34] (fun nu2=>[zV 3 (.iface 202 (.pointer (sA (nu2 0) 0)))]) o0 (fun nu2=>[(nu2 0,.cells #[nI i,.iface 390 (.pointer (some (er (twoErr x.c.when x.at'))))] 204 (0,0))]) (fun nu2=>?_)
   refine Yr [[],[]] (.tuple #[.slice none 0 0,.iface 202 (.pointer (sA (nu2 0) 0))]) fun a w s=>?_
   have hk:cutE l x=twoErr x.c.when x.at':=by rw[cutE,if_pos ht]
   rw[hbad _ hk ht]
   exact .inr (.inr ⟨by simp only;omega,hi0,_,((s.share 1 rfl).stp (stp_fact fun w S H=>ptr_of_obj rfl rfl (H (_,_) (List.mem_of_getElem? (i:=6) rfl)))).ret (by simp) [] [7] rfl rfl⟩)
  refine⟨_,_,_,hR,?_⟩
  try simp only[aQ]
  refine Ya (Rds 6 11) [30,27,29] [zV 7 .nilIface] ?_
  refine JR_end ?_
  refine Zs [zR 0,zR 1] [] [zB 34 false] ?_
  refine cF ?_
  refine J_skip (J_seq ?_)
  obtain⟨x0,hx0⟩:∃x,l[0]?=some x:=⟨_,List.getElem?_eq_getElem (by omega)⟩
  have hx0m:=List.mem_of_getElem? hx0
  have hf0:=(hf x0 hx0m).at'
  have hh:((l.head?).map (·.at'.length)).getD 0=x0.at'.length:=by
   rw[List.head?_eq_getElem?,hx0]
   rfl
  obtain⟨v1,v2,v3⟩:=two_of ht
  have v0:vecErr x0.at'=0:=by
   by_cases hi00:i.toNat=0
   ·rw[hi00,hx0]at hx
    cases hx
    exact v2
   ·exact(two_of (cut_ok (hno 0 x0 (by omega) hx0)).1).2.1
  have hcx:cutE l x=twoErr x0.at' x.at':=by
   rw[cutE,if_neg (by simp[ht]),hh,two_eq v0 v2]
  refine J_again4 1 rfl 0 rfl 0 (map_at hx0) (by kernel_rfl) (fun a2_0 c2_0 a2_1 c2_1 a2_2 c2_2 a2_3 c2_3 hrd2=>?_)
  have hrd2_0:=rd0 (hrd2 0 _ rfl)
  have hrd2_1:=hrd2 1 _ rfl
  have hrd2_2:=hrd2 2 _ rfl
  have hrd2_3:=hrd2 3 _ rfl
  have hrd2_4:=hrd2 4 _ rfl
  have hrd2_5:=hrd2 5 _ rfl
  have hrd2_6:=hrd2 6 _ rfl
  have hz0:cs1[off1+2]?=some (.slice a2_0 (x0.at'.map eI).length c2_0):=hrd2_2
  try simp only[aQ]
  refine jT [(0,true),(1,true),(2,true),(3,true),(4,true),(5,true),(6,false),(7,true),(8,true),(9,true),(10,true),(11,true)] [] ?_
  refine Yp [zR 0,.rd 1 [] 0 2,zR 2,.rd 3 [.r 0 (some (.slice (a2_0,c2_0).fst ((List.map eI x0.at').length) c2_0))] 0 0,zR 4,.rd 5 [.o 0 none] 0 0] [34] [zS 44 (a2_0,c2_0).fst ((List.map eI x0.at').length) c2_0,zS 46 a1_0 ((List.map eI x.at').length) c1_0] (oC (show(0:Int)≤(0:Int) from by omega) (oC (show(0:Int)<(↑l.length:Int) from by omega) (oC hrd2_2 oN))) ?_
  refine Yc 100 #[.slice (a2_0,c2_0).fst ((List.map eI x0.at').length) c2_0,.slice a1_0 ((List.map eI x.at').length) c1_0] (some 47) fun w S hG=>?_
  refine(vwithin (globs_of (hG.at 0 rfl)) (hG.at 6 rfl) (hG.at 2 rfl) (by omega) (by omega)).mono ?_
  rintro e4 w4 (⟨ht2,hR⟩|⟨ht2,hR⟩)
  ·refine⟨_,_,_,hR,?_⟩
   try simp only[aQ]
   refine Ya (Rds 7 12) [47,44,46] [zV 9 (.iface 390 (.pointer (some (er (twoErr x0.at' x.at')))))] ?_
   refine JR_end ?_
   refine Zs [zR 0,zR 1] [] [zB 51 true] ?_
   refine cTt ?_
   refine Zv (Rds 0 3++[.wr 3 [] 0]++Rds 4 7) [] [51] (fun nu2=>[zV 3 (.iface 202 (.pointer (sA (nu2 0) 0)))]) o0 (fun nu2=>[(nu2 0,.cells #[nI i,.iface 390 (.pointer (some (er (twoErr x0.at' x.at'))))] 204 (0,0))]) (fun nu2=>?_)
   refine Yr [[],[]] (.tuple #[.slice none 0 0,.iface 202 (.pointer (sA (nu2 0) 0))]) fun a w s=>?_
   rw[hbad _ hcx ht2]
   exact .inr (.inr ⟨by simp only;omega,hi0,_,((s.share 1 rfl).stp (stp_fact fun w S H=>ptr_of_obj rfl rfl (H (_,_) (List.mem_of_getElem? (i:=10) rfl)))).ret (by simp) [] [11] rfl rfl⟩)
  refine⟨_,_,_,hR,?_⟩
  try simp only[aQ]
  refine Ya (Rds 7 12) [47,44,46] [zV 9 .nilIface] ?_
  refine JR_end ?_
  refine Zs [zR 0,zR 1] [] [zB 51 false] ?_
  refine cF ?_
  refine J_skip (J_eb ?_)
  refine Zp [.rd 0 [] 0 1,zR 1] [51] [zI 19 (i+1)] (oC (show IntKind.i64.wrap (i+1)=i+1 from wrap_i64 (by omega) (by omega)) oN) ?_
  refine J_backx (i+1) [0,2,3,17,18,19] [] [] [0,1] ?_ ?_ (by kernel_rfl) rfl rfl rfl
  ·refine⟨by omega,by omega,fun k y hk hy=>?_⟩
   by_cases hki:k=i.toNat
   ·subst hki
    rw[hx]at hy
    cases hy
    rw[hcx,ht2]
   ·exact hno k y (by omega) hy
  ·omega
 have hie:i.toNat=l.length:=by have:=of_decide_eq_false hlt;omega
 have hall:∀x∈l,cutE l x=0:=fun x hx=>by
  obtain⟨k,hk⟩:=List.getElem?_of_mem hx
  exact hno k x (by have:=(List.getElem?_eq_some_iff.1 hk).1;omega) hk
 have hce:cutsE l=if (roundsE l l.length (l.map fun _=>false) l.length).2 then ((roundsE l l.length (l.map fun _=>false) l.length).1,⟨0,-1⟩)else ([],⟨10,-1⟩):=by
  rw[cutsE,firstE_none (f:=fun _=>cutE l) fun k x hx=>hall x (List.mem_of_getElem? hx),if_neg (by simp)]
 have hE:=even_cut hall
 have hrf:∀{w S},RowsAt w S (List.replicate l.length (.bool false)) 1 ((l.map fun _=>false).map eBo):=fun{w S}=>by
  have:=rows_false (w:=w) (S:=S) l.length
  rwa[show List.replicate l.length false=l.map fun _=>false from(List.map_const' ..).symm]at this
 refine J_exit rfl ?_
 refine J_seq ?_
 have hQ:∀e w',((roundsE l l.length (l.map fun _=>false) l.length).2=true∧∃ra rn rc,Ret [] w S w' e (.tuple #[.slice ra rn rc,.nilIface]) [] [(.slice ra rn rc,.sl 1 ((roundsE l l.length (l.map fun _=>false) l.length).1.map eRw))])∨((roundsE l l.length (l.map fun _=>false) l.length).2=false∧Ret [] w S w' e (.tuple #[.slice none 0 0,.iface 390 (.pointer (some (er 10)))]) [] [])→CutsRet w S w' e er (cutsE l):=fun e w' hh=>by
  rcases hh with ⟨h1,h2⟩|⟨h1,h2⟩
  ·rw[hce,if_pos h1]
   exact .inl ⟨rfl,h2⟩
  ·rw[hce,if_neg (by simp[h1])]
   exact .inr (.inl ⟨rfl,h2⟩)
 rcases(by omega:l.length=0∨l.length=1∨l.length=2∨l.length=3∨l.length=4∨l.length=5∨l.length=6∨l.length=7∨l.length=8∨l.length=9∨l.length=10∨l.length=11∨l.length=12∨l.length=13∨l.length=14∨l.length=15∨l.length=16∨l.length=17∨l.length=18∨l.length=19∨l.length=20)with hk|hk|hk|hk|hk|hk|hk|hk|hk|hk|hk|hk|hk|hk|hk|hk|hk|hk|hk|hk|hk
 ·rw[hk]
  refine Zm [zR 0,zR 1,.wr 2 [] 0,zR 3] [] [20,17,18,19] (fun nu1=>[zS 10 (sA (nu1 0) 0) 0 0]) o0 (fun nu1=>[(nu1 0,.cells #[] 4 (0,0))]) (fun nu1=>?_)
  refine J_seq ?_
  rw[hk]at hrf
  refine J_stp (stp_add (cRows (List.replicate 0 (.bool false)) 1 ((l.map fun _=>false).map eBo)) fun _ _=>⟨rfl,hrf⟩) ?_
  refine Nm [(cRows (List.replicate 0 (Value.bool false)) 1 (List.map eBo (List.map (fun x=>false) l)))] ?_
  refine J_keep [0,10] (cutsTail hk hE hl ?_ hQ)
  exact⟨rfl,rfl,Nat.le_refl _,by decide,rfl⟩
 ·rw[hk]
  refine Zm [zR 0,zR 1,.wr 2 [] 0,zR 3] [] [20,17,18,19] (fun nu1=>[zS 10 (sA (nu1 0) 0) 1 1]) o0 (fun nu1=>[(nu1 0,.cells #[.bool false] 4 (0,0))]) (fun nu1=>?_)
  refine J_seq ?_
  rw[hk]at hrf
  refine J_stp (stp_add (cRows (List.replicate 1 (.bool false)) 1 ((l.map fun _=>false).map eBo)) fun _ _=>⟨rfl,hrf⟩) ?_
  refine Nm [(cRows (List.replicate 1 (Value.bool false)) 1 (List.map eBo (List.map (fun x=>false) l)))] ?_
  refine J_keep [0,10] (cutsTail hk hE hl ?_ hQ)
  exact⟨rfl,rfl,Nat.le_refl _,by decide,rfl⟩
 ·rw[hk]
  refine Zm [zR 0,zR 1,.wr 2 [] 0,zR 3] [] [20,17,18,19] (fun nu1=>[zS 10 (sA (nu1 0) 0) 2 2]) o0 (fun nu1=>[(nu1 0,.cells #[.bool false,.bool false] 4 (0,0))]) (fun nu1=>?_)
  refine J_seq ?_
  rw[hk]at hrf
  refine J_stp (stp_add (cRows (List.replicate 2 (.bool false)) 1 ((l.map fun _=>false).map eBo)) fun _ _=>⟨rfl,hrf⟩) ?_
  refine Nm [(cRows (List.replicate 2 (Value.bool false)) 1 (List.map eBo (List.map (fun x=>false) l)))] ?_
  refine J_keep [0,10] (cutsTail hk hE hl ?_ hQ)
  exact⟨rfl,rfl,Nat.le_refl _,by decide,rfl⟩
 ·rw[hk]
  refine Zm [zR 0,zR 1,.wr 2 [] 0,zR 3] [] [20,17,18,19] (fun nu1=>[zS 10 (sA (nu1 0) 0) 3 3]) o0 (fun nu1=>[(nu1 0,.cells #[.bool false,.bool false,.bool false] 4 (0,0))]) (fun nu1=>?_)
  refine J_seq ?_
  rw[hk]at hrf
  refine J_stp (stp_add (cRows (List.replicate 3 (.bool false)) 1 ((l.map fun _=>false).map eBo)) fun _ _=>⟨rfl,hrf⟩) ?_
  refine Nm [(cRows (List.replicate 3 (Value.bool false)) 1 (List.map eBo (List.map (fun x=>false) l)))] ?_
  refine J_keep [0,10] (cutsTail hk hE hl ?_ hQ)
  exact⟨rfl,rfl,Nat.le_refl _,by decide,rfl⟩
 ·rw[hk]
  refine Zm [zR 0,zR 1,.wr 2 [] 0,zR 3] [] [20,17,18,19] (fun nu1=>[zS 10 (sA (nu1 0) 0) 4 4]) o0 (fun nu1=>[(nu1 0,.cells #[.bool false,.bool false,.bool false,.bool false] 4 (0,0))]) (fun nu1=>?_)
  refine J_seq ?_
  rw[hk]at hrf
  refine J_stp (stp_add (cRows (List.replicate 4 (.bool false)) 1 ((l.map fun _=>false).map eBo)) fun _ _=>⟨rfl,hrf⟩) ?_
  refine Nm [(cRows (List.replicate 4 (Value.bool false)) 1 (List.map eBo (List.map (fun x=>false) l)))] ?_
  refine J_keep [0,10] (cutsTail hk hE hl ?_ hQ)
  exact⟨rfl,rfl,Nat.le_refl _,by decide,rfl⟩
 ·rw[hk]
  refine Zm [zR 0,zR 1,.wr 2 [] 0,zR 3] [] [20,17,18,19] (fun nu1=>[zS 10 (sA (nu1 0) 0) 5 5]) o0 (fun nu1=>[(nu1 0,.cells #[.bool false,.bool false,.bool false,.bool false,.bool false] 4 (0,0))]) (fun nu1=>?_)
  refine J_seq ?_
  rw[hk]at hrf
  refine J_stp (stp_add (cRows (List.replicate 5 (.bool false)) 1 ((l.map fun _=>false).map eBo)) fun _ _=>⟨rfl,hrf⟩) ?_
  refine Nm [(cRows (List.replicate 5 (Value.bool false)) 1 (List.map eBo (List.map (fun x=>false) l)))] ?_
  refine J_keep [0,10] (cutsTail hk hE hl ?_ hQ)
  exact⟨rfl,rfl,Nat.le_refl _,by decide,rfl⟩
 ·rw[hk]
  refine Zm [zR 0,zR 1,.wr 2 [] 0,zR 3] [] [20,17,18,19] (fun nu1=>[zS 10 (sA (nu1 0) 0) 6 6]) o0 (fun nu1=>[(nu1 0,.cells #[.bool false,.bool false,.bool false,.bool false,.bool false,.bool false] 4 (0,0))]) (fun nu1=>?_)
  refine J_seq ?_
  rw[hk]at hrf
  refine J_stp (stp_add (cRows (List.replicate 6 (.bool false)) 1 ((l.map fun _=>false).map eBo)) fun _ _=>⟨rfl,hrf⟩) ?_
  refine Nm [(cRows (List.replicate 6 (Value.bool false)) 1 (List.map eBo (List.map (fun x=>false) l)))] ?_
  refine J_keep [0,10] (cutsTail hk hE hl ?_ hQ)
  exact⟨rfl,rfl,Nat.le_refl _,by decide,rfl⟩
 ·rw[hk]
  refine Zm [zR 0,zR 1,.wr 2 [] 0,zR 3] [] [20,17,18,19] (fun nu1=>[zS 10 (sA (nu1 0) 0) 7 7]) o0 (fun nu1=>[(nu1 0,.cells #[.bool false,.bool false,.bool false,.bool false,.bool false,.bool false,.bool false] 4 (0,0))]) (fun nu1=>?_)
  refine J_seq ?_
  rw[hk]at hrf
  refine J_stp (stp_add (cRows (List.replicate 7 (.bool false)) 1 ((l.map fun _=>false).map eBo)) fun _ _=>⟨rfl,hrf⟩) ?_
  refine Nm [(cRows (List.replicate 7 (Value.bool false)) 1 (List.map eBo (List.map (fun x=>false) l)))] ?_
  refine J_keep [0,10] (cutsTail hk hE hl ?_ hQ)
  exact⟨rfl,rfl,Nat.le_refl _,by decide,rfl⟩
 ·rw[hk]
  refine Zm [zR 0,zR 1,.wr 2 [] 0,zR 3] [] [20,17,18,19] (fun nu1=>[zS 10 (sA (nu1 0) 0) 8 8]) o0 (fun nu1=>[(nu1 0,.cells #[.bool false,.bool false,.bool false,.bool false,.bool false,.bool false,.bool false,.bool false] 4 (0,0))]) (fun nu1=>?_)
  refine J_seq ?_
  rw[hk]at hrf
  refine J_stp (stp_add (cRows (List.replicate 8 (.bool false)) 1 ((l.map fun _=>false).map eBo)) fun _ _=>⟨rfl,hrf⟩) ?_
  refine Nm [(cRows (List.replicate 8 (Value.bool false)) 1 (List.map eBo (List.map (fun x=>false) l)))] ?_
  refine J_keep [0,10] (cutsTail hk hE hl ?_ hQ)
  exact⟨rfl,rfl,Nat.le_refl _,by decide,rfl⟩
 ·rw[hk]
  refine Zm [zR 0,zR 1,.wr 2 [] 0,zR 3] [] [20,17,18,19] (fun nu1=>[zS 10 (sA (nu1 0) 0) 9 9]) o0 (fun nu1=>[(nu1 0,.cells #[.bool false,.bool false,.bool false,.bool false,.bool false,.bool false,.bool false,.bool false,.bool false] 4 (0,0))]) (fun nu1=>?_)
  refine J_seq ?_
  rw[hk]at hrf
  refine J_stp (stp_add (cRows (List.replicate 9 (.bool false)) 1 ((l.map fun _=>false).map eBo)) fun _ _=>⟨rfl,hrf⟩) ?_
  refine Nm [(cRows (List.replicate 9 (Value.bool false)) 1 (List.map eBo (List.map (fun x=>false) l)))] ?_
  refine J_keep [0,10] (cutsTail hk hE hl ?_ hQ)
  exact⟨rfl,rfl,Nat.le_refl _,by decide,rfl⟩
 ·rw[hk]
  refine Zm [zR 0,zR 1,.wr 2 [] 0,zR 3] [] [20,17,18,19] (fun nu1=>[zS 10 (sA (nu1 0) 0) 10 10]) o0 (fun nu1=>[(nu1 0,.cells #[.bool false,.bool false,.bool false,.bool false,.bool false,.bool false,.bool false,.bool false,.bool false,.bool false] 4 (0,0))]) (fun nu1=>?_)
  refine J_seq ?_
  rw[hk]at hrf
  refine J_stp (stp_add (cRows (List.replicate 10 (.bool false)) 1 ((l.map fun _=>false).map eBo)) fun _ _=>⟨rfl,hrf⟩) ?_
  refine Nm [(cRows (List.replicate 10 (Value.bool false)) 1 (List.map eBo (List.map (fun x=>false) l)))] ?_
  refine J_keep [0,10] (cutsTail hk hE hl ?_ hQ)
  exact⟨rfl,rfl,Nat.le_refl _,by decide,rfl⟩
 ·rw[hk]
  refine Zm [zR 0,zR 1,.wr 2 [] 0,zR 3] [] [20,17,18,19] (fun nu1=>[zS 10 (sA (nu1 0) 0) 11 11]) o0 (fun nu1=>[(nu1 0,.cells #[.bool false,.bool false,.bool false,.bool false,.bool false,.bool false,.bool false,.bool false,.bool false,.bool false,.bool false] 4 (0,0))]) (fun nu1=>?_)
  refine J_seq ?_
  rw[hk]at hrf
  refine J_stp (stp_add (cRows (List.replicate 11 (.bool false)) 1 ((l.map fun _=>false).map eBo)) fun _ _=>⟨rfl,hrf⟩) ?_
  refine Nm [(cRows (List.replicate 11 (Value.bool false)) 1 (List.map eBo (List.map (fun x=>false) l)))] ?_
  refine J_keep [0,10] (cutsTail hk hE hl ?_ hQ)
  exact⟨rfl,rfl,Nat.le_refl _,by decide,rfl⟩
 ·rw[hk]
  refine Zm [zR 0,zR 1,.wr 2 [] 0,zR 3] [] [20,17,18,19] (fun nu1=>[zS 10 (sA (nu1 0) 0) 12 12]) o0 (fun nu1=>[(nu1 0,.cells #[.bool false,.bool false,.bool false,.bool false,.bool false,.bool false,.bool false,.bool false,.bool false,.bool false,.bool false,.bool false] 4 (0,0))]) (fun nu1=>?_)
  refine J_seq ?_
  rw[hk]at hrf
  refine J_stp (stp_add (cRows (List.replicate 12 (.bool false)) 1 ((l.map fun _=>false).map eBo)) fun _ _=>⟨rfl,hrf⟩) ?_
  refine Nm [(cRows (List.replicate 12 (Value.bool false)) 1 (List.map eBo (List.map (fun x=>false) l)))] ?_
  refine J_keep [0,10] (cutsTail hk hE hl ?_ hQ)
  exact⟨rfl,rfl,Nat.le_refl _,by decide,rfl⟩
 ·rw[hk]
  refine Zm [zR 0,zR 1,.wr 2 [] 0,zR 3] [] [20,17,18,19] (fun nu1=>[zS 10 (sA (nu1 0) 0) 13 13]) o0 (fun nu1=>[(nu1 0,.cells #[.bool false,.bool false,.bool false,.bool false,.bool false,.bool false,.bool false,.bool false,.bool false,.bool false,.bool false,.bool false,.bool false] 4 (0,0))]) (fun nu1=>?_)
  refine J_seq ?_
  rw[hk]at hrf
  refine J_stp (stp_add (cRows (List.replicate 13 (.bool false)) 1 ((l.map fun _=>false).map eBo)) fun _ _=>⟨rfl,hrf⟩) ?_
  refine Nm [(cRows (List.replicate 13 (Value.bool false)) 1 (List.map eBo (List.map (fun x=>false) l)))] ?_
  refine J_keep [0,10] (cutsTail hk hE hl ?_ hQ)
  exact⟨rfl,rfl,Nat.le_refl _,by decide,rfl⟩
 ·rw[hk]
  refine Zm [zR 0,zR 1,.wr 2 [] 0,zR 3] [] [20,17,18,19] (fun nu1=>[zS 10 (sA (nu1 0) 0) 14 14]) o0 (fun nu1=>[(nu1 0,.cells #[.bool false,.bool false,.bool false,.bool false,.bool false,.bool false,.bool false,.bool false,.bool false,.bool false,.bool false,.bool false,.bool false,.bool false] 4 (0,0))]) (fun nu1=>?_)
  refine J_seq ?_
  rw[hk]at hrf
  refine J_stp (stp_add (cRows (List.replicate 14 (.bool false)) 1 ((l.map fun _=>false).map eBo)) fun _ _=>⟨rfl,hrf⟩) ?_
  refine Nm [(cRows (List.replicate 14 (Value.bool false)) 1 (List.map eBo (List.map (fun x=>false) l)))] ?_
  refine J_keep [0,10] (cutsTail hk hE hl ?_ hQ)
  exact⟨rfl,rfl,Nat.le_refl _,by decide,rfl⟩
 ·rw[hk]
  refine Zm [zR 0,zR 1,.wr 2 [] 0,zR 3] [] [20,17,18,19] (fun nu1=>[zS 10 (sA (nu1 0) 0) 15 15]) o0 (fun nu1=>[(nu1 0,.cells #[.bool false,.bool false,.bool false,.bool false,.bool false,.bool false,.bool false,.bool false,.bool false,.bool false,.bool false,.bool false,.bool false,.bool false,.bool false] 4 (0,0))]) (fun nu1=>?_)
  refine J_seq ?_
  rw[hk]at hrf
  refine J_stp (stp_add (cRows (List.replicate 15 (.bool false)) 1 ((l.map fun _=>false).map eBo)) fun _ _=>⟨rfl,hrf⟩) ?_
  refine Nm [(cRows (List.replicate 15 (Value.bool false)) 1 (List.map eBo (List.map (fun x=>false) l)))] ?_
  refine J_keep [0,10] (cutsTail hk hE hl ?_ hQ)
  exact⟨rfl,rfl,Nat.le_refl _,by decide,rfl⟩
 ·rw[hk]
  refine Zm [zR 0,zR 1,.wr 2 [] 0,zR 3] [] [20,17,18,19] (fun nu1=>[zS 10 (sA (nu1 0) 0) 16 16]) o0 (fun nu1=>[(nu1 0,.cells #[.bool false,.bool false,.bool false,.bool false,.bool false,.bool false,.bool false,.bool false,.bool false,.bool false,.bool false,.bool false,.bool false,.bool false,.bool false,.bool false] 4 (0,0))]) (fun nu1=>?_)
  refine J_seq ?_
  rw[hk]at hrf
  refine J_stp (stp_add (cRows (List.replicate 16 (.bool false)) 1 ((l.map fun _=>false).map eBo)) fun _ _=>⟨rfl,hrf⟩) ?_
  refine Nm [(cRows (List.replicate 16 (Value.bool false)) 1 (List.map eBo (List.map (fun x=>false) l)))] ?_
  refine J_keep [0,10] (cutsTail hk hE hl ?_ hQ)
  exact⟨rfl,rfl,Nat.le_refl _,by decide,rfl⟩
 ·rw[hk]
  refine Zm [zR 0,zR 1,.wr 2 [] 0,zR 3] [] [20,17,18,19] (fun nu1=>[zS 10 (sA (nu1 0) 0) 17 17]) o0 (fun nu1=>[(nu1 0,.cells #[.bool false,.bool false,.bool false,.bool false,.bool false,.bool false,.bool false,.bool false,.bool false,.bool false,.bool false,.bool false,.bool false,.bool false,.bool false,.bool false,.bool false] 4 (0,0))]) (fun nu1=>?_)
  refine J_seq ?_
  rw[hk]at hrf
  refine J_stp (stp_add (cRows (List.replicate 17 (.bool false)) 1 ((l.map fun _=>false).map eBo)) fun _ _=>⟨rfl,hrf⟩) ?_
  refine Nm [(cRows (List.replicate 17 (Value.bool false)) 1 (List.map eBo (List.map (fun x=>false) l)))] ?_
  refine J_keep [0,10] (cutsTail hk hE hl ?_ hQ)
  exact⟨rfl,rfl,Nat.le_refl _,by decide,rfl⟩
 ·rw[hk]
  refine Zm [zR 0,zR 1,.wr 2 [] 0,zR 3] [] [20,17,18,19] (fun nu1=>[zS 10 (sA (nu1 0) 0) 18 18]) o0 (fun nu1=>[(nu1 0,.cells #[.bool false,.bool false,.bool false,.bool false,.bool false,.bool false,.bool false,.bool false,.bool false,.bool false,.bool false,.bool false,.bool false,.bool false,.bool false,.bool false,.bool false,.bool false] 4 (0,0))]) (fun nu1=>?_)
  refine J_seq ?_
  rw[hk]at hrf
  refine J_stp (stp_add (cRows (List.replicate 18 (.bool false)) 1 ((l.map fun _=>false).map eBo)) fun _ _=>⟨rfl,hrf⟩) ?_
  refine Nm [(cRows (List.replicate 18 (Value.bool false)) 1 (List.map eBo (List.map (fun x=>false) l)))] ?_
  refine J_keep [0,10] (cutsTail hk hE hl ?_ hQ)
  exact⟨rfl,rfl,Nat.le_refl _,by decide,rfl⟩
 ·rw[hk]
  refine Zm [zR 0,zR 1,.wr 2 [] 0,zR 3] [] [20,17,18,19] (fun nu1=>[zS 10 (sA (nu1 0) 0) 19 19]) o0 (fun nu1=>[(nu1 0,.cells #[.bool false,.bool false,.bool false,.bool false,.bool false,.bool false,.bool false,.bool false,.bool false,.bool false,.bool false,.bool false,.bool false,.bool false,.bool false,.bool false,.bool false,.bool false,.bool false] 4 (0,0))]) (fun nu1=>?_)
  refine J_seq ?_
  rw[hk]at hrf
  refine J_stp (stp_add (cRows (List.replicate 19 (.bool false)) 1 ((l.map fun _=>false).map eBo)) fun _ _=>⟨rfl,hrf⟩) ?_
  refine Nm [(cRows (List.replicate 19 (Value.bool false)) 1 (List.map eBo (List.map (fun x=>false) l)))] ?_
  refine J_keep [0,10] (cutsTail hk hE hl ?_ hQ)
  exact⟨rfl,rfl,Nat.le_refl _,by decide,rfl⟩
 ·rw[hk]
  refine Zm [zR 0,zR 1,.wr 2 [] 0,zR 3] [] [20,17,18,19] (fun nu1=>[zS 10 (sA (nu1 0) 0) 20 20]) o0 (fun nu1=>[(nu1 0,.cells #[.bool false,.bool false,.bool false,.bool false,.bool false,.bool false,.bool false,.bool false,.bool false,.bool false,.bool false,.bool false,.bool false,.bool false,.bool false,.bool false,.bool false,.bool false,.bool false,.bool false] 4 (0,0))]) (fun nu1=>?_)
  refine J_seq ?_
  rw[hk]at hrf
  refine J_stp (stp_add (cRows (List.replicate 20 (.bool false)) 1 ((l.map fun _=>false).map eBo)) fun _ _=>⟨rfl,hrf⟩) ?_
  refine Nm [(cRows (List.replicate 20 (Value.bool false)) 1 (List.map eBo (List.map (fun x=>false) l)))] ?_
  refine J_keep [0,10] (cutsTail hk hE hl ?_ hQ)
  exact⟨rfl,rfl,Nat.le_refl _,by decide,rfl⟩
end Go.Proofs.YtmkapocibaojdaaGreatDoor
end
section
namespace Go.Proofs.YtmkapocibaojdaaGreatDoor
open Go Go.Sx
set_option maxHeartbeats 4000000 in
theorem jCoded {w:World} {S:Nat→Prop} {er:Nat→Addr} {eb:Nat→Array Value×TypeId} {k:Nat} {c:Int} {v:Value} (hC:Rep w S .nilIface (dC er eb)) (hI:Inj er) (hk:k≤12) (hv:ErrIs 390 er k v) :
  Calls Tryz.prog 52 #[v,.int .i64 c] w fun e w'=>Ret [] w S w' e (.bool (decide ((k:Int)=c))) [] []:=by
 refine epG Tryz.func52 bd52 (args:=[v,.int .i64 c]) (G:=[(_,dC er eb)]) (by kernel_rfl) (.cons hC (.nil _ _)) ?_
 refine Zs [zR 0] [] [zB 4 false] ?_
 refine jS [(0,true),(1,false),(2,true),(3,true),(4,true),(5,true),(6,true)] [] ?_
 refine Ya [zR 0] [0] [zV 8 v] ?_
 refine Yc 60 #[v] (some 9) fun w S hG=>?_
 refine(codeErr (er:=er) (eb:=eb) (k:=k) (hG.at 0 rfl) hI hk hv).mono ?_
 rintro e1 w1 hR
 refine⟨_,_,_,hR,?_⟩
 try simp only[aQ]
 refine Ya (Rds 2 7) [9,8] [zI 5 (↑k:Int),zI 6 (-1)] ?_
 refine JR_end ?_
 refine Zs (Rds 0 4++[.rd 4 [] 2 0,.rd 5 [] 2 0,.rd 6 [] 0 3,zR 7]) [5,6,1] [zB 4 ((↑k:Int)==c&&true)] ?_
 refine Yr [[]] (.bool ((↑k:Int)==c&&true)) fun a w s=>?_
 have e:decide ((k:Int)=c)=(decide ((k:Int)=c)&&true):=by simp
 rw[e]
 exact s.ret (by simp) [] [] rfl rfl
set_option maxHeartbeats 4000000 in
theorem jFaultedErr {w:World} {S:Nat→Prop} {er:Nat→Addr} {eb:Nat→Array Value×TypeId} {k:Nat} {a:Int} {v:Value} (hC:Rep w S .nilIface (dC er eb)) (hI:Inj er) (hk:k≤12) (hv:ErrIs 390 er k v) (ha:a = -1) :
  Calls Tryz.prog 47 #[v,.agg #[.int .i64 k,.int .i64 a]] w fun e w'=>Ret [] w S w' e (.bool true) [] []:=by
 subst ha
 have hv1:v.oneCell'=true:=by rcases hv with ⟨_,rfl⟩|⟨_,rfl⟩ <;> rfl
 refine epG Tryz.func47 bd47 (args:=[v,.agg #[.int .i64 k,.int .i64 (-1)]]) (G:=[(_,dC er eb)]) (by kernel_rfl) (.cons hC (.nil _ _)) ?_
 refine Zv [.wr 0 [] 0,zR 1] [] [1] (fun nu1=>[zP 3 (nu1 0),zB 4 false]) o0 (fun nu1=>[(nu1 0,.cells #[nI (↑k:Int),nI (-1)] 105 (0,0))]) (fun nu1=>?_)
 refine jS [(0,true),(1,false),(2,true),(3,true),(4,true),(5,true),(6,true)] [] ?_
 refine Ya [zR 0] [0] [zV 8 v] ?_
 refine Yc 60 #[v] (some 9) fun w S hG=>?_
 refine(codeErr (hG.at 0 rfl) hI hk hv).mono ?_
 rintro e1 w1 hR
 refine⟨_,_,_,hR,?_⟩
 by_cases h0:k=0
 ·subst h0
  try simp only[aQ]
  refine Ya (Rds 2 7) [9,8] [zI 5 0,zI 6 (-1)] ?_
  refine JR_end ?_
  refine Zs ([zR 0,zR 1,.rd 2 [.o 0 none] 0 0]++Rds 3 8++[.rd 8 [] 1 0,.rd 9 [] 1 0,.rd 10 [] 1 0,.rd 11 [] 1 0]++Rds 12 15) [5,6,3] [zB 4 true] ?_
  refine Yr [[]] (.bool true) fun a w s=>?_
  exact s.ret (by simp) [] [] rfl rfl
 ·try simp only[aQ]
  refine Ya (Rds 2 7) [9,8] [zI 5 (↑k:Int),zI 6 (-1)] ?_
  refine JR_end ?_
  refine Zt ([zR 0,zR 1,.rd 2 [.o 0 none] 0 0,.rd 3 [] 0 6,zR 4,zR 5,.rd 6 [] 0 7]++Rds 7 10++[.rd 10 [.o 0 none] 0 0]++Rds 11 15) [5,6,3] [zB 4 true] (oC (show((↑k:Int)==(↑k:Int))=true from by simp) (oC (show((↑k:Int)==(0:Int))=false from by simp;omega) oN)) ?_
  refine Yr [[]] (.bool true) fun a w s=>?_
  exact s.ret (by simp) [] [] rfl rfl
set_option maxHeartbeats 4000000 in
theorem jFaultedAt {w:World} {S:Nat→Prop} {er:Nat→Addr} {eb:Nat→Array Value×TypeId} {k pb:Nat} {at':Int} (hC:Rep w S .nilIface (dC er eb)) (hI:Inj er) (h1:1≤k) (hk:k≤12) (hp:Rep w S (.pointer (some ⟨pb,0,none⟩)) (.ptr [.v (.int .i64 at'),.v (.iface 390 (.pointer (some (er k))))])) :
  Calls Tryz.prog 47 #[.iface 202 (.pointer (some ⟨pb,0,none⟩)),.agg #[.int .i64 k,.int .i64 at']] w fun e w'=>Ret [] w S w' e (.bool true) [] []:=by
 refine epG Tryz.func47 bd47 (args:=[.iface 202 (.pointer (some ⟨pb,0,none⟩)),.agg #[.int .i64 k,.int .i64 at']]) (G:=[(_,dC er eb),(_,.ptr [.v (.int .i64 at'),.v (.iface 390 (.pointer (some (er k))))])]) (by kernel_rfl) (.cons hC (.cons hp (.nil _ _))) ?_
 refine Zv [.wr 0 [] 0,zR 1] [] [1] (fun nu1=>[zP 3 (nu1 0),zB 4 false]) o0 (fun nu1=>[(nu1 0,.cells #[nI (↑k:Int),nI at'] 105 (0,0))]) (fun nu1=>?_)
 refine jS [(0,true),(1,false),(2,true),(3,true),(4,true),(5,true),(6,true)] [] ?_
 refine Ya [zR 0] [0] [zV 8 (.iface 202 (.pointer (sA pb 0)))] ?_
 refine Yc 60 #[.iface 202 (.pointer (sA pb 0))] (some 9) fun w S hG=>?_
 refine(codeFault (hG.at 0 rfl) hI h1 hk (hG.at 1 rfl)).mono ?_
 rintro e1 w1 hR
 refine⟨_,_,_,hR,?_⟩
 have h0:¬k=0:=by omega
 try simp only[aQ]
 refine Ya (Rds 2 7) [9,8] [zI 5 (↑k:Int),zI 6 at'] ?_
 refine JR_end ?_
 refine Zt ([zR 0,zR 1,.rd 2 [.o 0 none] 0 0,.rd 3 [] 0 6,zR 4,zR 5,.rd 6 [] 0 7]++Rds 7 10++[.rd 10 [.o 0 none] 0 0,.rd 11 [] 0 6]++Rds 12 15) [5,6,3] [zB 4 true] (oC (show((↑k:Int)==(↑k:Int))=true from by simp) (oC (show((↑k:Int)==(0:Int))=false from by simp;omega) (oC (show(at'==at')=true from by simp) oN))) ?_
 refine Yr [[]] (.bool true) fun a w s=>?_
 exact s.ret (by simp) [] [] rfl rfl
end Go.Proofs.YtmkapocibaojdaaGreatDoor
end
section
namespace Go.Proofs.YtmkapocibaojdaaGreatDoor
open Go Go.Sx
theorem ev_nil1:evFault 1 []=⟨0,-1⟩:=rfl
theorem ev_nil0:evFault 0 []=⟨2,-1⟩:=rfl
theorem cuts_nil:cutsE []=([],⟨0,-1⟩):=rfl
set_option maxHeartbeats 4000000 in
theorem jJudged {w:World} {S:Nat→Prop} {er:Nat→Addr} {eb:Nat→Array Value×TypeId} (hC:Rep w S .nilIface (dC er eb)) (hI:Inj er) :
  Calls Tryz.prog 45 #[] w fun e w'=>Ret [] (zero w) S w' e (.bool true) [] []:=by
 refine epG Tryz.func45 bd45 (args:=[]) (S:=S) (G:=[(_,dC er eb)]) (by kernel_rfl) (.cons hC (.nil _ _)) ?_
 refine J_zero ?_
 refine Zs [zR 0] [] [zB 0 false] ?_
 refine jS [(0,false),(1,true),(2,true),(3,true),(4,true),(5,true)] [] ?_
 refine Yc 55 #[.slice none 0 0] (some 4) fun w S hG=>?_
 refine(jCuts (l:=[]) (hG.at 0 rfl) .nil (by simp) (by simp)).mono ?_
 rintro e1 w1 hh
 rw[cuts_nil]at hh
 obtain⟨_,ra,rn,rc,hR⟩|⟨h2,_⟩|⟨h1,_⟩:=hh
 rotate_left
 ·cases h2
 ·exact absurd h1 (by decide)
 have e0:=(hR.gh.choose_spec.2.2.2 _ (List.mem_cons_self ..)).slen
 subst e0
 refine⟨_,_,_,hR,?_⟩
 try simp only[aQ]
 refine Ya (Rds 1 6) [4] [zS 1 ra 0 rc,zV 2 .nilIface] ?_
 refine JR_end ?_
 refine jS [(0,true),(1,true),(2,true),(3,true),(4,true),(5,true),(6,true),(7,true),(8,false),(9,true),(10,true),(11,true),(12,false),(13,false),(14,true),(15,true)] [] ?_
 refine Ya (Rds 0 8) [1,2] [zB 14 true] ?_
 refine JR_callzp [] 48 #[.int .i64 1,.slice none 0 0] (some 15) zero_all (by kernel_rfl) (fun w S hG=>?_)
 refine(jCheck (places:=1) (l:=[]) (hG.at 0 rfl) .nil (by simp) (by simp)).mono ?_
 rintro e2 w2 hh
 rw[ev_nil1]at hh
 obtain⟨_,v,hR,hv⟩|⟨h1,_⟩:=hh
 rotate_left
 ·exact absurd h1 (by decide)
 obtain⟨_,rfl⟩|⟨h0,_⟩:=hv
 rotate_left
 ·exact absurd rfl h0
 refine⟨_,_,_,hR,?_⟩
 try simp only[aQ]
 refine Ya (Rds 9 12) [15,14] [zB 18 true] ?_
 refine JR_callzp [] 48 #[.int .i64 0,.slice none 0 0] (some 19) zero_all (by kernel_rfl) (fun w S hG=>?_)
 refine(jCheck (places:=0) (l:=[]) (hG.at 0 rfl) .nil (by simp) (by simp)).mono ?_
 rintro e3 w3 hh
 rw[ev_nil0]at hh
 obtain⟨_,v,hR,hv⟩|⟨_,h1,_⟩:=hh
 rotate_left
 ·exact absurd h1 (by decide)
 have hv1:v.oneCell'=true:=by rcases hv with ⟨_,rfl⟩|⟨_,rfl⟩ <;> rfl
 refine⟨_,_,_,hR,?_⟩
 try simp only[aQ]
 refine Yc 52 #[v,nI 2] (some 20) fun w S hG=>?_
 refine(jCoded (k:=2) (hG.at 0 rfl) hI (by decide) hv).mono ?_
 rintro e4 w4 hR
 refine⟨_,_,_,hR,?_⟩
 try simp only[aQ]
 refine Ya [zR 14,zR 15] [20,19,18] [zB 0 true] ?_
 refine JR_end ?_
 refine Yr [[]] (.bool true) fun a w s=>?_
 exact s.retz (by simp) [] [] rfl rfl
end Go.Proofs.YtmkapocibaojdaaGreatDoor
end
section
namespace Go.Proofs.YtmkapocibaojdaaGreatDoor
open Go Go.Sx
def bigR (r:ReadT):Bool:=decide (60<(r.key.size:Int))||decide (20<(r.v.set.length:Int))||decide (200<(r.v.text.size:Int))
def bigV (x:EvT):Bool:=decide (0<heavyC x.c)||decide (20<(x.at'.length:Int))||decide (20<(x.reads.length:Int))
def fitE (l:List EvT):Bool:=(l.all fun x=>!bigV x&&x.reads.all fun r=>!bigR r)&&decide ((l.length:Int)≤20)
theorem fit_not {l:List EvT} {x:EvT} (hx:x∈l) (h:bigV x=true∨∃r∈x.reads,bigR r=true):fitE l=false:=by
 rw[fitE,Bool.and_eq_false_iff]
 left
 rw[List.all_eq_false]
 refine⟨x,hx,?_⟩
 rcases h with h|⟨r,hr,h⟩
 ·simp[h]
 ·rw[Bool.and_eq_true,List.all_eq_true]
  intro hh
  have:=hh.2 r hr
  simp[h]at this
set_option maxHeartbeats 4000000 in
theorem jFit {w:World} {S:Nat→Prop} {ua:Option Addr} {un uc:Nat} {l:List EvT} (h:Rep w S (.slice ua un uc) (.sl 7 (l.map eEv))) (hl:l.length≤9223372036854775807) :
  Calls Tryz.prog 46 #[.slice ua un uc] w fun e w'=>Ret [] w S w' e (.bool (fitE l)) [] []:=by
 have e1:=h.slen
 rw[List.length_map]at e1
 subst e1
 refine epG Tryz.func46 bd46 (args:=[.slice ua l.length uc]) (S:=S) (G:=[(_,.sl 7 (l.map eEv))]) (by kernel_rfl) (.cons h (.nil _ _)) ?_
 refine Zs [zR 0] [] [zB 2 false] ?_
 refine J_seq ?_
 refine Zs [zR 0] [] [zI 3 0] ?_
 refine J_block ?_
 refine J_loopx (fun i:Int=>[zS 0 ua l.length uc,zB 2 false,zI 3 i]) (fun i:Int=>[]) (fun i:Int=>[]) (fun i:Int=>[(.slice ua l.length uc,(D.sl 7 (List.map eEv l)))]) (fun i:Int=>(l.length - i).toNat) (fun i:Int=>(0≤i∧i≤l.length∧∀k y,k<i.toNat→l[k]?=some y→bigV y=false∧∀r∈y.reads,bigR r=false)) 0 [0,2,3] [] [] [0] ?_ (by kernel_rfl) rfl rfl rfl ?_
 ·exact⟨by simp,by omega,by simp⟩
 rintro i ⟨hi0,hi,hno⟩
 refine J_seq ?_
 refine Zs (Rds 0 4) [] [zB 9 (decide (i<(↑l.length:Int)))] ?_
 refine cC (t:=decide (i<(↑l.length:Int))) (fun hlt=>?_) (fun hlt=>?_)
 ·have hlt2:i<l.length:=of_decide_eq_true hlt
  obtain⟨x,hx⟩:∃x,l[i.toNat]?=some x:=⟨_,List.getElem?_eq_getElem (by omega)⟩
  have hxm:=List.mem_of_getElem? hx
  refine J_read4 0 rfl i.toNat (map_at hx) (by kernel_rfl) (fun b1 off1 cs1 ty1 fz1 a1_0 c1_0 a1_1 c1_1 a1_2 c1_2 a1_3 c1_3 ha1 hrd1=>?_)
  cases ha1
  have hrd1_0:=rd0 (hrd1 0 _ rfl)
  have hrd1_1:=hrd1 1 _ rfl
  have hrd1_2:=hrd1 2 _ rfl
  have hrd1_3:=hrd1 3 _ rfl
  have hrd1_4:=hrd1 4 _ rfl
  have hrd1_5:=hrd1 5 _ rfl
  have hrd1_6:=hrd1 6 _ rfl
  try simp only[aQ]
  refine J_skip (J_seq (J_block (J_seq ?_)))
  refine jS [(0,true),(1,true),(2,true),(3,true),(4,true),(5,false),(6,true),(7,true),(8,true),(9,true),(10,true),(11,true),(12,true),(13,true),(14,true),(15,true),(16,true),(17,true),(18,true),(19,true),(20,true),(21,true),(22,true),(23,true),(24,true)] [] ?_
  refine Yp [zR 0,zR 1,.rd 2 [] 0 2,zR 3,.rd 4 [.r 0 (some (.slice (a1_2,c1_2).fst ((List.map eI x.c.when).length) c1_2)),.r 0 (some (nI x.c.place)),.r 0 (some (.slice (a1_3,c1_3).fst ((List.map eOp x.c.ops).length) c1_3))] 0 0] [9] [zV 16 (.agg #[.slice (a1_2,c1_2).fst ((List.map eI x.c.when).length) c1_2,nI x.c.place,.slice (a1_3,c1_3).fst ((List.map eOp x.c.ops).length) c1_3])] (oC hi0 (oC hlt2 (oC hrd1_4 (oC hrd1_5 (oC hrd1_6 oN))))) ?_
  refine Yc 15 #[.agg #[.slice (a1_2,c1_2).fst ((List.map eI x.c.when).length) c1_2,nI x.c.place,.slice (a1_3,c1_3).fst ((List.map eOp x.c.ops).length) c1_3]] (some 17) fun w S hG=>?_
  refine(heavyCommit (c:=x.c) (hG.at 3 rfl) (hG.at 4 rfl)).mono ?_
  rintro e1 w1 hR
  refine⟨_,_,_,hR,?_⟩
  try simp only[aQ]
  refine Yp [zR 6,zR 7,.rd 8 [] 2 0,.rd 9 [] 2 0,.rd 10 [] 2 2,.rd 11 [] 2 0,.rd 12 [.r 0 (some (.slice (a1_0,c1_0).fst ((List.map eI x.at').length) c1_0))] 2 0,.rd 13 [] 2 0,.rd 14 [] 2 0,.rd 15 [] 0 3,zR 16,.rd 17 [] 2 0,.rd 18 [] 2 0,.rd 19 [] 2 2,.rd 20 [] 2 0,.rd 21 [.r 0 (some (.slice (a1_1,c1_1).fst ((List.map eRead x.reads).length) c1_1))] 2 0,.rd 22 [] 2 0,.rd 23 [] 2 0,.rd 24 [] 0 3] [17,16] [zB 36 (decide (heavyC x.c>0)||decide ((↑(List.map eI x.at').length:Int)>20)||decide ((↑(List.map eRead x.reads).length:Int)>20))] (oC (show(decide (heavyC x.c>0))=false→0≤i from(fun _=>hi0)) (oC (show(decide (heavyC x.c>0))=false→i<(↑l.length:Int) from(fun _=>hlt2)) (oC (show(decide (heavyC x.c>0))=false→cs1[off1+i.toNat*7+(2:Nat)]?=some (Value.slice (a1_0,c1_0).fst (List.map eI x.at').length (a1_0,c1_0).snd) from(fun _=>hrd1_2)) (oC (show(decide (heavyC x.c>0)||decide ((↑(List.map eI x.at').length:Int)>20))=false→0≤i from(fun _=>hi0)) (oC (show(decide (heavyC x.c>0)||decide ((↑(List.map eI x.at').length:Int)>20))=false→i<(↑l.length:Int) from(fun _=>hlt2)) (oC (show(decide (heavyC x.c>0)||decide ((↑(List.map eI x.at').length:Int)>20))=false→cs1[off1+i.toNat*7+(3:Nat)]?=some (Value.slice (a1_1,c1_1).fst (List.map eRead x.reads).length (a1_1,c1_1).snd) from(fun _=>hrd1_3)) oN)))))) ?_
  refine JR_end ?_
  refine cC (t:=decide (heavyC x.c>0)||decide ((↑(List.map eI x.at').length:Int)>20)||decide ((↑(List.map eRead x.reads).length:Int)>20)) (fun hb=>?_) (fun hb=>?_)
  ·refine J_seq ?_
   refine Za [zR 0] [36] [] ?_
   refine Yr [[]] (.bool false) fun a w s=>?_
   rw[fit_not hxm (.inl (by simpa [bigV]using hb))]
   exact s.ret (by simp) [] [] rfl rfl
  have hrl:x.reads.length≤20:=by simp at hb;omega
  refine J_skip ?_
  refine Zs [zR 0] [36] [zI 4 0] ?_
  refine J_block ?_
  refine J_loopx (fun k:Int=>[zS 0 (sA b1 off1) l.length uc,zB 2 false,zI 3 i,zI 4 k]) (fun k:Int=>[]) (fun k:Int=>[]) (fun k:Int=>[(.slice (sA b1 off1) l.length uc,(D.sl 7 (List.map eEv l))),(.slice (a1_0,c1_0).fst ((List.map eI x.at').length) c1_0,(D.sl 1 (List.map eI x.at'))),(.slice (a1_1,c1_1).fst ((List.map eRead x.reads).length) c1_1,(D.sl 5 (List.map eRead x.reads))),(.slice (a1_2,c1_2).fst ((List.map eI x.c.when).length) c1_2,(D.sl 1 (List.map eI x.c.when))),(.slice (a1_3,c1_3).fst ((List.map eOp x.c.ops).length) c1_3,(D.sl 7 (List.map eOp x.c.ops)))]) (fun k:Int=>(x.reads.length - k).toNat) (fun k:Int=>(0≤k∧k≤x.reads.length∧∀j r,j<k.toNat→x.reads[j]?=some r→bigR r=false)) 0 [0,2,3,4] [] [] [0,1,2,3,4] ?_ (by kernel_rfl) rfl rfl rfl ?_
  ·exact⟨by simp,by omega,by simp⟩
  rintro k ⟨hk0,hk,hno2⟩
  refine J_seq ?_
  refine Zt (Rds 0 3++[.rd 3 [] 0 2,zR 4,.rd 5 [.r 0 (some (.slice (a1_1,c1_1).fst ((List.map eRead x.reads).length) c1_1))] 0 0,zR 6,zR 7]) [] [zB 44 (decide (k<(↑(List.map eRead x.reads).length:Int)))] (oC hi0 (oC hlt2 (oC hrd1_3 oN))) ?_
  refine cC (t:=decide (k<(↑(List.map eRead x.reads).length:Int))) (fun hlt3=>?_) (fun hlt3=>?_)
  ·have hlt4:k<x.reads.length:=by simpa using hlt3
   obtain⟨y,hy⟩:∃y,x.reads[k.toNat]?=some y:=⟨_,List.getElem?_eq_getElem (by omega)⟩
   refine J_read1 2 rfl k.toNat (map_at hy) (by kernel_rfl) (fun b2 off2 cs2 ty2 fz2 a2_0 c2_0 ha2 hrd2=>?_)
   cases ha2
   have hrd2_0:=rd0 (hrd2 0 _ rfl)
   have hrd2_1:=hrd2 1 _ rfl
   have hrd2_2:=hrd2 2 _ rfl
   have hrd2_3:=hrd2 3 _ rfl
   have hrd2_4:=hrd2 4 _ rfl
   try simp only[aQ]
   refine J_skip (J_seq (J_block ?_))
   refine Zu [zR 0,zR 1,.rd 2 [] 0 2,zR 3,.rd 4 [.r 0 (some (.slice (sA b2 off2) ((List.map eRead x.reads).length) c1_1))] 0 0,zR 5,.rd 6 [] 0 2,.rd 7 [.r 1 (some (.string y.key)),.r 1 (some (nI y.v.kind)),.r 1 (some (.string y.v.text)),.r 1 (some (nI y.v.n)),.r 1 (some (.slice (a2_0,c2_0).fst ((List.map eS y.v.set).length) c2_0))] 0 0,.wr 8 [] 0,.wr 9 (hnO 0 5) 0] [(9,[])] [44] (fun nu1=>[zP 5 (nu1 0)]) o0 (fun nu1=>[(nu1 0,.cells #[.string y.key,nI y.v.kind,.string y.v.text,nI y.v.n,.slice (a2_0,c2_0).fst ((List.map eS y.v.set).length) c2_0] 197 (0,0))]) (fun nu1=>(oC hi0 (oC hlt2 (oC hrd1_3 (oC hk0 (oC (show k<(↑(List.map eRead x.reads).length:Int) from by simp;omega) (oC hrd2_0 (oC hrd2_1 (oC hrd2_2 (oC hrd2_3 (oC hrd2_4 oN))))))))))) (fun nu1=>?_)
   refine Zs ([zR 0,.rd 1 [.o 0 none] 0 0]++Rds 2 5++[.rd 5 [] 2 0,.rd 6 [] 2 0,.rd 7 [.o 0 none] 2 0,.rd 8 [] 2 0,.rd 9 [] 2 0,.rd 10 [] 0 3,zR 11,.rd 12 [] 2 0,.rd 13 [] 2 0,.rd 14 [.o 0 none] 2 0,.rd 15 [] 2 0,.rd 16 [] 2 0,.rd 17 [] 0 3]) [] [zB 72 (decide ((↑y.key.size:Int)>60)||decide ((↑(List.map eS y.v.set).length:Int)>20)||decide ((↑y.v.text.size:Int)>200))] ?_
   refine cC (t:=decide ((↑y.key.size:Int)>60)||decide ((↑(List.map eS y.v.set).length:Int)>20)||decide ((↑y.v.text.size:Int)>200)) (fun hb2=>?_) (fun hb2=>?_)
   ·refine J_seq ?_
    refine Za [zR 0] [72] [] ?_
    refine Yr [[]] (.bool false) fun a w s=>?_
    rw[fit_not hxm (.inr ⟨y,List.mem_of_getElem? hy,by simpa [bigR]using hb2⟩)]
    exact s.ret (by simp) [] [] rfl rfl
   refine J_skip (J_eb ?_)
   refine Zp [zR 0,.rd 1 [] 0 1,zR 2] [72] [zI 4 (k+1)] (oC (show IntKind.i64.wrap (k+1)=k+1 from wrap_i64 (by omega) (by omega)) oN) ?_
   refine J_backx (k+1) [0,2,3,4] [] [] [0,1,2,3,4] ?_ ?_ (by kernel_rfl) rfl rfl rfl
   ·refine⟨by omega,by omega,fun j r hj hr=>?_⟩
    by_cases hjk:j=k.toNat
    ·subst hjk
     rw[hy]at hr
     cases hr
     simpa [bigR]using hb2
    ·exact hno2 j r (by omega) hr
   ·omega
  have hke:k.toNat=x.reads.length:=by simp at hlt3;omega
  refine J_exit rfl ?_
  refine J_eb ?_
  refine Zp [zR 0,.rd 1 [] 0 1,zR 2] [44] [zI 3 (i+1)] (oC (show IntKind.i64.wrap (i+1)=i+1 from wrap_i64 (by omega) (by omega)) oN) ?_
  refine J_backx (i+1) [0,2,3] [] [] [0] ?_ ?_ (by kernel_rfl) rfl rfl rfl
  ·refine⟨by omega,by omega,fun j y hj hy=>?_⟩
   by_cases hji:j=i.toNat
   ·subst hji
    rw[hx]at hy
    cases hy
    refine⟨by simpa [bigV]using hb,fun r hr=>?_⟩
    obtain⟨q,hq⟩:=List.getElem?_of_mem hr
    exact hno2 q r (by have:=(List.getElem?_eq_some_iff.1 hq).1;omega) hq
   ·exact hno j y (by omega) hy
  ·omega
 ·have hie:i.toNat=l.length:=by have:=of_decide_eq_false hlt;omega
  have hall:(l.all fun x=>!bigV x&&x.reads.all fun r=>!bigR r)=true:=by
   rw[List.all_eq_true]
   intro x hx
   obtain⟨k,hk⟩:=List.getElem?_of_mem hx
   obtain⟨h1,h2⟩:=hno k x (by have:=(List.getElem?_eq_some_iff.1 hk).1;omega) hk
   rw[h1,Bool.and_eq_true,List.all_eq_true]
   exact⟨rfl,fun r hr=>by simp[h2 r hr]⟩
  refine J_exit rfl ?_
  refine Zs (Rds 0 4) [9,0,3] [zB 2 (decide ((↑l.length:Int)≤20))] ?_
  refine Yr [[]] (.bool (decide ((↑l.length:Int)≤20))) fun a w s=>?_
  rw[fitE,hall,Bool.true_and]
  exact s.ret (by simp) [] [] rfl rfl
end Go.Proofs.YtmkapocibaojdaaGreatDoor
end
section
namespace Go.Proofs.YtmkapocibaojdaaGreatDoor
open Go Go.Sx
set_option maxHeartbeats 16000000 in
theorem evRound {R:Act→World→Prop} {kr:List Itm} {w0:World} {S0:Nat→Prop} {eb0 eo0 uc nx ny ok oc vn vc on2 oc2 n1 c1 n2 c2 n3 c3 n4 c4:Nat} {oa va oa2 a1 a2 a3 a4:Option Addr} {i:Int} {l L:List EvT} {x:EvT} (hf:Fits x) (hok:ok≤20)
  (H:∀oa' oc',J Tryz.prog Tryz.f49 R Tryz.f49.ntmps kr [(0,.val (.slice (some ⟨eb0,eo0,none⟩) l.length uc)),(2,.val (.slice none 0 0)),(3,.val (.slice oa' (ok+1) oc')),(4,.val (.int .i64 i))] [] [] [([],w0)] ⟨newS S0 [] w0,[cAcc (.slice oa' (ok+1) oc') 200 7 ((L++[x]).map eEv)],[(.slice (some ⟨eb0,eo0,none⟩) l.length uc,.sl 7 (l.map eEv))]⟩) :
  J Tryz.prog Tryz.f49 R Tryz.f49.ntmps (.c (.rg 7 false)::.c (.seq (.seq (.rg 8 false) (.block 2 (.loop (.seq (.seq (.rg 9 false) (.cond (.tmp 38) .skip (.exit 2))) (.seq (.block 3 (.seq (.rg 11 false) (.seq (.rg 12 false) (.seq (.rg 13 false) (.rg 14 true))))) (.rg 10 false)))))) (.rg 15 false))::kr) [(0,.val (.slice (some ⟨eb0,eo0,none⟩) l.length uc)),(2,.val (.slice none 0 0)),(3,.val (.slice oa ok oc)),(4,.val (.int .i64 i)),(5,.val (.pointer (some ⟨nx,0,none⟩))),(6,.val (.pointer (some ⟨ny,0,none⟩)))]
   [(nx,.cells #[.int .i64 x.ses,.int .i64 x.place,.slice a1 n1 c1,.slice a2 n2 c2,.slice a3 n3 c3,.int .i64 x.c.place,.slice a4 n4 c4] 111 (0,0)),(ny,.cells #[.int .i64 x.ses,.int .i64 x.place,.slice none 0 0,.slice none 0 0,.slice va vn vc,.int .i64 x.c.place,.slice oa2 on2 oc2] 200 (0,0))] [] [([],w0)]
   ⟨newS S0 [] w0,[cAcc (.slice oa ok oc) 200 7 (L.map eEv)],[(.slice (some ⟨eb0,eo0,none⟩) l.length uc,.sl 7 (l.map eEv)),(.slice a1 n1 c1,dInts x.at'),(.slice a2 n2 c2,.sl 5 (x.reads.map eRead)),(.slice va vn vc,dInts x.c.when),(.slice oa2 on2 oc2,.sl 7 (x.c.ops.map eOp))]⟩:=by
 have hf1:=hf.at'
 have hf4:=hf.reads
 refine J_stpx (stp_replen 1 rfl) fun _ hn1=>?_
 refine J_stpx (stp_replen 2 rfl) fun _ hn2=>?_
 subst hn1 hn2
 have hl1:(x.at'.map eI).length≤1000000:=by rw[List.length_map];omega
 refine J_stp (stp_accm eI 3 1) ?_
 refine Nm [cAcc (.slice oa ok oc) 200 7 (List.map eEv L),cAcc (.slice none 0 0) 3 1 (List.map eI [])] ?_
 refine jT [(0,true),(1,true),(2,true),(3,true),(4,false),(5,true),(6,false)] [] ?_
 refine Ya [zR 0,.rd 1 [.o 1 none] 0 0,zR 2,.rd 3 [.o 0 none] 0 0] [] [zV 28 (.pointer (sA ny (0+2))),zS 29 none 0 0,zV 30 (.pointer (sA nx (0+2))),zS 31 a1 ((List.map eI x.at').length) c1] ?_
 refine JR_appm 1 32 3 1 8 (.int .i64 0) (a0:=none) (len:=0) (cap0:=0) (ax:=a1) (m:=(List.map eI x.at').length) (c:=c1) (dst:=(some 32)) x.at' (by kernel_rfl) (by kernel_rfl) (by kernel_rfl) (by kernel_rfl) rfl (by decide) rfl (fun _ _ _ s=>src_fact s 1 rfl (by decide)) (by simp only[maxLen];omega) (by omega) (fun av1 cv1=>?_)
 rw[Nat.zero_add]
 try simp only[aQ]
 refine Ym [zR 5,.wr 6 [.o 1 none] 0] [] (fun _=>[zV 33 (.pointer (sA ny (0+2)))]) (fun _=>[(1,.cells #[nI x.ses,nI x.place,.slice av1 (0+(List.map eI x.at').length) cv1,.slice none 0 0,.slice va vn vc,nI x.c.place,.slice oa2 on2 oc2] 200 (0,0))]) o0 [] (fun _=>?_)
 try simp only[aQ]
 refine JR_end ?_
 try simp only[aQ]
 refine J_seq ?_
 try simp only[aQ]
 refine J_seq ?_
 try simp only[aQ]
 refine J_stp (stp_freeze 1 rfl) ?_
 refine Nm [cAcc (.slice oa ok oc) 200 7 (List.map eEv L)] ?_
 refine J_stp (stp_accm eRead 208 5) ?_
 refine Nm [cAcc (.slice oa ok oc) 200 7 (List.map eEv L),cAcc (.slice none 0 0) 208 5 (List.map eRead [])] ?_
 try simp only[aQ]
 refine Za [zR 0] [] [zI 7 0] ?_
 refine J_block ?_
 refine J_loopx (fun z:AccI=>[zS 0 (sA eb0 eo0) l.length uc,zS 2 none 0 0,zS 3 oa ok oc,zI 4 i,zP 5 nx,zP 6 ny,zI 7 z.i,zV 28 (.pointer (sA ny 2)),zS 29 none 0 0,zV 30 (.pointer (sA nx 2)),zS 31 a1 ((List.map eI x.at').length) c1,zS 32 av1 (0+(List.map eI x.at').length) cv1,zV 33 (.pointer (sA ny 2))]) (fun z:AccI=>[(nx,.cells #[nI x.ses,nI x.place,.slice a1 ((List.map eI x.at').length) c1,.slice a2 ((List.map eRead x.reads).length) c2,.slice a3 n3 c3,nI x.c.place,.slice a4 n4 c4] 111 (0,0)),(ny,.cells #[nI x.ses,nI x.place,.slice av1 (0+(x.at'.map eI).length) cv1,.slice z.a z.k z.c,.slice va vn vc,nI x.c.place,.slice oa2 on2 oc2] 200 (0,0))]) (fun z:AccI=>[cAcc (.slice oa ok oc) 200 7 (L.map eEv),cAcc (.slice z.a z.k z.c) 208 5 ((List.take z.i.toNat x.reads).map eRead)]) (fun z:AccI=>[(.slice (sA eb0 eo0) l.length uc,(D.sl 7 (List.map eEv l))),(.slice a1 ((List.map eI x.at').length) c1,(dInts x.at')),(.slice a2 ((List.map eRead x.reads).length) c2,(D.sl 5 (List.map eRead x.reads))),(.slice va vn vc,(dInts x.c.when)),(.slice oa2 on2 oc2,(D.sl 7 (List.map eOp x.c.ops))),(.slice av1 (0+(List.map eI x.at').length) cv1,(D.sl 1 (List.map eI x.at')))]) (fun z:AccI=>(x.reads.length - z.i).toNat) (fun z:AccI=>(0≤z.i∧z.i≤x.reads.length)) ⟨0,none,0,0⟩ [0,2,3,4,5,6,7,28,29,30,31,32,33] [0,1] [0,1] [0,1,2,3,4,5] ?_ (by kernel_rfl) rfl rfl rfl ?_
 ·exact⟨by simp,by simp⟩
 rintro⟨k,ra,rk,rc⟩ ⟨hk0,hk⟩
 dsimp only at hk0 hk ⊢
 refine J_stpx (stp_acclen 1 rfl) fun _ hrk=>?_
 have hrk2:rk≤20:=by simp at hrk;omega
 refine J_seq ?_
 refine Zs [zR 0,zR 1,.rd 2 [.o 0 none] 0 0,zR 3,zR 4] [] [zI 34 k,zV 35 (.pointer (sA nx (0+3))),zS 36 a2 ((List.map eRead x.reads).length) c2,zI 37 ((↑(List.map eRead x.reads).length:Int)),zB 38 (decide (k<(↑(List.map eRead x.reads).length:Int)))] ?_
 refine cC (t:=decide (k<(↑(List.map eRead x.reads).length:Int))) (fun hlt=>?_) (fun hlt=>?_)
 ·have hlt2:k<x.reads.length:=by simpa using hlt
  obtain⟨y,hy⟩:∃y,x.reads[k.toNat]?=some y:=⟨_,List.getElem?_eq_getElem (by omega)⟩
  have hys:(y.v.set.map eS).length≤1000000:=by rw[List.length_map];have:=hf.sets y (List.mem_of_getElem? hy);omega
  refine J_read1 2 rfl k.toNat (map_at hy) (by kernel_rfl) (fun b1 off1 cs1 ty1 fz1 a1_0 c1_0 ha1 hrd1=>?_)
  cases ha1
  have hrd1_0:=rd0 (hrd1 0 _ rfl)
  have hrd1_1:=hrd1 1 _ rfl
  have hrd1_2:=hrd1 2 _ rfl
  have hrd1_3:=hrd1 3 _ rfl
  have hrd1_4:=hrd1 4 _ rfl
  try simp only[aQ]
  refine J_skip (J_seq (J_block ?_))
  refine Zu [zR 0,.rd 1 [.o 0 none] 0 0,zR 2,.rd 3 [] 0 2,zR 4,.rd 5 [.r 0 (some (nI y.v.kind)),.r 0 (some (.string y.v.text)),.r 0 (some (nI y.v.n)),.r 0 (some (.slice (a1_0,c1_0).fst ((List.map eS y.v.set).length) c1_0))] 0 0,.wr 6 [] 0,.wr 7 (hnO 2 4) 0] [(7,[])] [] (fun nu1=>[zP 8 (nu1 0),zV 41 (.pointer (sA nx (0+3))),zS 42 (sA b1 off1) ((List.map eRead x.reads).length) c2,zI 43 k,zV 44 (.pointer (sA b1 (off1+k.toNat*5))),zV 45 (.pointer (sA b1 (off1+k.toNat*5+1))),zV 46 (.agg #[nI y.v.kind,.string y.v.text,nI y.v.n,.slice (a1_0,c1_0).fst ((List.map eS y.v.set).length) c1_0])]) o0 (fun nu1=>[(nu1 0,.cells #[nI y.v.kind,.string y.v.text,nI y.v.n,.slice (a1_0,c1_0).fst ((List.map eS y.v.set).length) c1_0] 64 (0,0))]) (fun nu1=>(oC hk0 (oC (show k<(↑(List.map eRead x.reads).length:Int) from by simp;omega) (oC hrd1_1 (oC hrd1_2 (oC hrd1_3 (oC hrd1_4 oN))))))) (fun nu1=>?_)
  refine Zs [zR 0] [] [zS 9 none 0 0] ?_
  refine J_seq ?_
  refine J_stp (stp_accm eS 9 1) ?_
  refine Nm [cAcc (.slice oa ok oc) 200 7 (List.map eEv L),cAcc (.slice ra rk rc) 208 5 (List.map eRead (List.take k.toNat x.reads)),cAcc (.slice none 0 0) 9 1 (List.map eS [])] ?_
  refine jT [(0,true),(1,true),(2,true),(3,false),(4,true),(5,false)] [] ?_
  refine Ya [zR 0,zR 1,.rd 2 [.o 2 none] 0 0] [] [zS 47 none 0 0,zV 48 (.pointer (sA (nu1 0) (0+3))),zS 49 (a1_0,c1_0).fst ((List.map eS y.v.set).length) c1_0] ?_
  refine JR_appm 2 51 9 1 16 (.string (ByteArray.mk #[])) (a0:=none) (len:=0) (cap0:=0) (ax:=(a1_0,c1_0).fst) (m:=(List.map eS y.v.set).length) (c:=c1_0) (dst:=(some 50)) y.v.set (by kernel_rfl) (by kernel_rfl) (by kernel_rfl) (by kernel_rfl) rfl (by decide) rfl (fun _ _ _ s=>src_fact s 6 rfl (by decide)) (by simp only[maxLen];omega) (by omega) (fun av2 cv2=>?_)
  rw[Nat.zero_add]
  try simp only[aQ]
  refine Ym [zR 4,.wr 5 [.o 2 none] 0] [] (fun _=>[zV 51 (.pointer (sA (nu1 0) (0+3)))]) (fun _=>[(2,.cells #[nI y.v.kind,.string y.v.text,nI y.v.n,.slice av2 (0+(List.map eS y.v.set).length) cv2] 64 (0,0))]) o0 [] (fun _=>?_)
  try simp only[aQ]
  refine JR_end ?_
  try simp only[aQ]
  refine J_stp (stp_freeze 2 rfl) ?_
  refine Nm [cAcc (.slice oa ok oc) 200 7 (List.map eEv L),cAcc (.slice ra rk rc) 208 5 (List.map eRead (List.take k.toNat x.reads))] ?_
  try simp only[aQ]
  refine jT [(0,true),(1,true),(2,true),(3,true),(4,true),(5,true),(6,true),(7,true),(8,true),(9,true),(10,false),(11,false),(12,true),(13,false)] [(11,[]),(13,[1])] ?_
  refine Yn [zR 0,.rd 1 [.o 1 none] 0 0,zR 2,.rd 3 [.o 0 none] 0 0,zR 4,.rd 5 [] 0 2,zR 6,.rd 7 [.r 0 (some (.string y.key))] 0 0,.rd 8 (hnO 2 4) 0 0,zR 9,.wr 10 [] 0] [] (fun nu2=>[zV 52 (.pointer (sA ny (0+3))),zS 53 ra rk rc,zV 54 (.pointer (sA nx (0+3))),zS 55 (sA b1 off1) ((List.map eRead x.reads).length) c2,zI 56 k,zV 57 (.pointer (sA b1 (off1+k.toNat*5))),zV 58 (.pointer (sA b1 (off1+k.toNat*5))),zV 59 (.string y.key),zV 60 (.agg #[nI y.v.kind,.string y.v.text,nI y.v.n,.slice av2 (0+(List.map eS y.v.set).length) cv2]),zV 61 (.agg #[.string y.key,nI y.v.kind,.string y.v.text,nI y.v.n,.slice av2 (0+(List.map eS y.v.set).length) cv2]),zS 62 (sA (nu2 0) 0) 1 1]) o0 (fun nu2=>[(nu2 0,.cells #[.string y.key,nI y.v.kind,.string y.v.text,nI y.v.n,.slice av2 (0+(List.map eS y.v.set).length) cv2] 208 (0,0))]) [(11,[]),(13,[1])] (fun nu2=>(oC hk0 (oC (show k<(↑(List.map eRead x.reads).length:Int) from by simp;omega) (oC hrd1_0 oN)))) (fun nu2=>?_)
  refine JR_appm 1 198 208 5 72 (.agg #[.string (ByteArray.mk #[]),.int .i64 0,.string (ByteArray.mk #[]),.int .i64 0,.slice none 0 0]) (a0:=ra) (len:=rk) (cap0:=rc) (ax:=(some (⟨nu2 0,0,none⟩))) (m:=1) (c:=1) (dst:=(some 63)) [y] (by kernel_rfl) (by kernel_rfl) (by kernel_rfl) (by kernel_rfl) rfl (by decide) rfl (fun _ _ _ s=>src_one s 3 rfl rfl ⟨.inl ⟨rfl,rfl⟩,⟨.inl ⟨rfl,rfl⟩,⟨.inl ⟨rfl,rfl⟩,⟨.inl ⟨rfl,rfl⟩,⟨.inr (.inl (List.mem_of_getElem? (i:=7) rfl)),trivial⟩⟩⟩⟩⟩) (by simp only[maxLen];omega) (by omega) (fun av3 cv3=>?_)
  rw[take_snoc hk0 hy]
  try simp only[aQ]
  refine Ym [zR 12,.wr 13 [.o 1 none] 0] [] (fun _=>[zV 64 (.pointer (sA ny (0+3)))]) (fun _=>[(1,.cells #[nI x.ses,nI x.place,.slice av1 ((List.map eI x.at').length) cv1,.slice av3 (rk+1) cv3,.slice va vn vc,nI x.c.place,.slice oa2 on2 oc2] 200 (0,0))]) o0 [] (fun _=>?_)
  try simp only[aQ]
  refine JR_end ?_
  try simp only[aQ]
  refine J_eb ?_
  try simp only[aQ]
  refine Zp [zR 0,.rd 1 [] 0 1,zR 2] [] [zI 7 (k+1),zI 39 k,zI 40 (k+1)] (oC (show IntKind.i64.wrap (k+1)=k+1 from wrap_i64 (by omega) (by omega)) oN) ?_
  try simp only[aQ]
  refine J_backx ⟨k+1,_,rk+1,_⟩ [0,2,3,4,5,6,7,28,29,30,31,32,33] [0,1] [0,1] [0,1,2,3,4,5] ?_ ?_ (by kernel_rfl) rfl rfl rfl
  ·exact⟨by simp only;omega,by simp only;omega⟩
  ·simp only
   omega
 ·have hke:k.toNat=x.reads.length:=by simp at hlt;omega
  rw[hke,List.take_length]at hrk ⊢
  rw[List.length_map]at hrk
  subst hrk
  refine J_exit rfl ?_
  refine J_stp (stp_freeze 1 rfl) ?_
  refine Nm [cAcc (.slice oa ok oc) 200 7 (List.map eEv L)] ?_
  try simp only[aQ]
  refine jT [(0,true),(1,true),(2,false),(3,false),(4,true)] [] ?_
  refine Ym [zR 0,.rd 1 (hnO 1 7) 0 0,.wr 2 [] 0] [] (fun nu1=>[zS 65 oa ok oc,zV 66 (.agg #[nI x.ses,nI x.place,.slice av1 (0+(List.map eI x.at').length) cv1,.slice ra x.reads.length rc,.slice va vn vc,nI x.c.place,.slice oa2 on2 oc2]),zS 67 (sA (nu1 0) 0) 1 1]) o0 (fun nu1=>[(nu1 0,.cells #[nI x.ses,nI x.place,.slice av1 (0+(List.map eI x.at').length) cv1,.slice ra x.reads.length rc,.slice va vn vc,nI x.c.place,.slice oa2 on2 oc2] 200 (0,0))]) [] (fun nu1=>?_)
  refine JR_appm 0 102 200 7 120 (.agg #[.int .i64 0,.int .i64 0,.slice none 0 0,.slice none 0 0,.slice none 0 0,.int .i64 0,.slice none 0 0]) (a0:=oa) (len:=ok) (cap0:=oc) (ax:=(some (⟨nu1 0,0,none⟩))) (m:=1) (c:=1) (dst:=(some 68)) [x] (by kernel_rfl) (by kernel_rfl) (by kernel_rfl) (by kernel_rfl) rfl (by decide) rfl (fun _ _ _ s=>src_one s 2 rfl rfl ⟨.inl ⟨rfl,rfl⟩,⟨.inl ⟨rfl,rfl⟩,⟨.inr (.inl (List.mem_of_getElem? (i:=5) rfl)),⟨.inr (.inl (List.mem_of_getElem? (i:=6) rfl)),⟨.inr (.inl (List.mem_of_getElem? (i:=3) rfl)),⟨.inl ⟨rfl,rfl⟩,⟨.inr (.inl (List.mem_of_getElem? (i:=4) rfl)),trivial⟩⟩⟩⟩⟩⟩⟩) (by simp only[maxLen];omega) (by omega) (fun av2 cv2=>?_)
  try simp only[aQ]
  refine Ya [zR 4] [] [zS 3 av2 (ok+1) cv2] ?_
  try simp only[aQ]
  refine JR_end ?_
  try simp only[aQ]
  exact J_cut [0,2,3,4] [] [0] [0] rfl rfl rfl rfl (H _ _)
end Go.Proofs.YtmkapocibaojdaaGreatDoor
end
section
namespace Go.Proofs.YtmkapocibaojdaaGreatDoor
open Go Go.Sx
set_option maxHeartbeats 16000000 in
theorem jEventsOf {w:World} {S:Nat→Prop} {ua:Option Addr} {un uc:Nat} {l:List EvT} (h:Rep w S (.slice ua un uc) (.sl 7 (l.map eEv))) (hl:l.length≤20) (hf:∀x∈l,Fits x) (hd:∀x∈l,∀o∈x.c.ops,o.dots.length≤1000000) :
  Calls Tryz.prog 49 #[.slice ua un uc] w fun e w'=>∃ra rc,Ret [] w S w' e (.slice ra l.length rc) [] [(.slice ra l.length rc,.sl 7 (l.map eEv))]:=by
 have e1:=h.slen
 rw[List.length_map]at e1
 subst e1
 refine epG Tryz.func49 bd49 (args:=[.slice ua l.length uc]) (S:=S) (G:=[(_,.sl 7 (l.map eEv))]) (by kernel_rfl) (.cons h (.nil _ _)) ?_
 refine J_stp (stp_accm eEv 200 7) ?_
 try simp only[aQ]
 refine Zs [zR 0] [] [zS 2 none 0 0] ?_
 refine Zs [zR 0] [] [zS 3 none 0 0] ?_
 refine J_seq ?_
 refine Zs [zR 0] [] [zI 4 0] ?_
 refine J_block ?_
 refine J_loopx (fun z:AccI=>[zS 0 ua l.length uc,zS 2 none 0 0,zS 3 z.a z.k z.c,zI 4 z.i]) (fun z:AccI=>[]) (fun z:AccI=>[cAcc (.slice z.a z.k z.c) 200 7 ((List.take z.i.toNat l).map eEv)]) (fun z:AccI=>[(.slice ua l.length uc,(D.sl 7 (List.map eEv l)))]) (fun z:AccI=>(l.length - z.i).toNat) (fun z:AccI=>(0≤z.i∧z.i≤l.length)) ⟨0,none,0,0⟩ [0,2,3,4] [] [0] [0] ?_ (by kernel_rfl) rfl rfl rfl ?_
 ·exact⟨by simp,by simp⟩
 rintro⟨i,oa,ok,oc⟩ ⟨hi0,hi⟩
 dsimp only at hi0 hi ⊢
 refine J_stpx (stp_acclen 0 rfl) fun _ hok=>?_
 have hok2:ok≤20:=by simp at hok;omega
 refine J_seq ?_
 refine Zs (Rds 0 4) [] [zB 13 (decide (i<(↑l.length:Int)))] ?_
 refine cC (t:=decide (i<(↑l.length:Int))) (fun hlt=>?_) (fun hlt=>?_)
 ·have hlt2:i<l.length:=of_decide_eq_true hlt
  obtain⟨x,hx⟩:∃x,l[i.toNat]?=some x:=⟨_,List.getElem?_eq_getElem (by omega)⟩
  have hxm:=List.mem_of_getElem? hx
  have hfx:=hf x hxm
  have hf1:=hfx.at'
  have hf2:=hfx.wh
  have hf3:=hfx.ops
  have hf4:=hfx.reads
  refine J_read4 0 rfl i.toNat (map_at hx) (by kernel_rfl) (fun b1 off1 cs1 ty1 fz1 a1_0 c1_0 a1_1 c1_1 a1_2 c1_2 a1_3 c1_3 ha1 hrd1=>?_)
  cases ha1
  have hrd1_0:=rd0 (hrd1 0 _ rfl)
  have hrd1_1:=hrd1 1 _ rfl
  have hrd1_2:=hrd1 2 _ rfl
  have hrd1_3:=hrd1 3 _ rfl
  have hrd1_4:=hrd1 4 _ rfl
  have hrd1_5:=hrd1 5 _ rfl
  have hrd1_6:=hrd1 6 _ rfl
  try simp only[aQ]
  refine J_skip (J_seq (J_block ?_))
  refine Zu [zR 0,zR 1,.rd 2 [] 0 2,.rd 3 [.r 0 (some (nI x.ses)),.r 0 (some (nI x.place)),.r 0 (some (.slice (a1_0,c1_0).fst ((List.map eI x.at').length) c1_0)),.r 0 (some (.slice (a1_1,c1_1).fst ((List.map eRead x.reads).length) c1_1)),.r 0 (some (.slice (a1_2,c1_2).fst ((List.map eI x.c.when).length) c1_2)),.r 0 (some (nI x.c.place)),.r 0 (some (.slice (a1_3,c1_3).fst ((List.map eOp x.c.ops).length) c1_3))] 0 0,.wr 4 [] 0,.wr 5 (hnO 0 7) 0] [(5,[])] [13] (fun nu1=>[zP 5 (nu1 0)]) o0 (fun nu1=>[(nu1 0,.cells #[nI x.ses,nI x.place,.slice (a1_0,c1_0).fst ((List.map eI x.at').length) c1_0,.slice (a1_1,c1_1).fst ((List.map eRead x.reads).length) c1_1,.slice (a1_2,c1_2).fst ((List.map eI x.c.when).length) c1_2,nI x.c.place,.slice (a1_3,c1_3).fst ((List.map eOp x.c.ops).length) c1_3] 111 (0,0))]) (fun nu1=>(oC hi0 (oC hlt2 (oC hrd1_0 (oC hrd1_1 (oC hrd1_2 (oC hrd1_3 (oC hrd1_4 (oC hrd1_5 (oC hrd1_6 oN)))))))))) (fun nu1=>?_)
  refine J_seq ?_
  refine J_fork mixed 6 [(0,true),(1,true),(2,true),(3,true),(4,true),(5,true),(6,false),(7,true),(8,false),(9,false)] [(0,true),(1,true),(2,true),(3,true),(4,true),(5,true),(8,false),(6,false),(7,true),(9,false)] [(6,[]),(9,[])] (by kernel_rfl) (by kernel_rfl) ?_ ?_
  ·refine Ya [.rd 0 [] 0 0,.rd 1 [.o 0 none] 0 0,.rd 2 [] 0 0,.rd 3 [.o 0 none] 0 0,.rd 4 [] 0 0,.rd 5 [.o 0 none,.o 0 none,.o 0 none] 0 0] [] [(21,.val (.int .i64 x.ses)),(23,.val (.int .i64 x.place)),(25,.val (.agg #[.slice (a1_2,c1_2).fst ((List.map eI x.c.when).length) c1_2,.int .i64 x.c.place,.slice (a1_3,c1_3).fst ((List.map eOp x.c.ops).length) c1_3]))] ?_
   refine Yc 96 #[.agg #[.slice (a1_2,c1_2).fst ((List.map eI x.c.when).length) c1_2,nI x.c.place,.slice (a1_3,c1_3).fst ((List.map eOp x.c.ops).length) c1_3]] (some 26) fun w S hG=>?_
   refine(ownCommit (c:=x.c) (hG.at 3 rfl) (hG.at 4 rfl) hf2 hf3 (hd x hxm)).mono ?_
   rintro e1 w1 ⟨va,vn,vc,oa2,on2,oc2,hR⟩
   refine⟨_,_,_,hR,?_⟩
   try simp only[aQ]
   refine Ym [zR 7,.wr 8 [] 0,.wr 9 (hnO 1 7) 0] [26,21,23,25] (fun nu2=>[zP 6 (nu2 0)]) o0 (fun nu2=>[(nu2 0,.cells #[nI x.ses,nI x.place,.slice none 0 0,.slice none 0 0,.slice va vn vc,nI x.c.place,.slice oa2 on2 oc2] 200 (0,0))]) [] (fun nu2=>?_)
   refine JR_end (J_seq ?_)
   refine Nm [cAcc (.slice oa ok oc) 200 7 (List.map eEv (List.take i.toNat l))] ?_
   refine J_cut (E':=[zS 0 (some ⟨b1,off1,none⟩) l.length uc,zS 2 none 0 0,zS 3 oa ok oc,zI 4 i,zV 5 (.pointer (some ⟨nu1 0,0,none⟩)),zV 6 (.pointer (some ⟨nu2 0,0,none⟩))]) (h':=[_,_]) (C':=[_]) (G':=[_,_,_,_,_]) [0,2,3,4,5,6] [0,1] [0] [0,1,2,5,6] (by kernel_rfl) rfl rfl rfl ?_
   refine evRound (x:=x) hfx hok2 fun oa' oc'=>?_
   rw[take_snoc hi0 hx]
   refine J_eb ?_
   refine Zp [zR 0,.rd 1 [] 0 1,zR 2] [] [zI 4 (i+1)] (oC (show IntKind.i64.wrap (i+1)=i+1 from wrap_i64 (by omega) (by omega)) oN) ?_
   refine J_backx ⟨i+1,oa',ok+1,oc'⟩ [0,2,3,4] [] [0] [0] ?_ ?_ (by kernel_rfl) rfl rfl rfl
   ·exact⟨by simp only;omega,by simp only;omega⟩
   ·simp only
    omega
  ·refine Ym [.rd 0 [] 0 0,.rd 1 [.o 0 none] 0 0,.rd 2 [] 0 0,.rd 3 [.o 0 none] 0 0,.rd 4 [] 0 0,.rd 5 [.o 0 none,.o 0 none,.o 0 none] 0 0,.wr 8 [] 0] [] (fun nu2=>[(6,.val (.pointer (some (⟨nu2 0,0,none⟩)))),(21,.val (.int .i64 x.ses)),(23,.val (.int .i64 x.place)),(25,.val (.agg #[.slice (a1_2,c1_2).fst ((List.map eI x.c.when).length) c1_2,.int .i64 x.c.place,.slice (a1_3,c1_3).fst ((List.map eOp x.c.ops).length) c1_3]))]) o0 (fun nu2=>[(nu2 0,.cells #[.int .i64 0,.int .i64 0,.slice none 0 0,.slice none 0 0,.slice none 0 0,.int .i64 0,.slice none 0 0] 200 (0,0))]) [(6,[]),(9,[])] (fun nu2=>?_)
   refine Yc 96 #[.agg #[.slice (a1_2,c1_2).fst ((List.map eI x.c.when).length) c1_2,nI x.c.place,.slice (a1_3,c1_3).fst ((List.map eOp x.c.ops).length) c1_3]] (some 26) fun w S hG=>?_
   refine(ownCommit (c:=x.c) (hG.at 3 rfl) (hG.at 4 rfl) hf2 hf3 (hd x hxm)).mono ?_
   rintro e1 w1 ⟨va,vn,vc,oa2,on2,oc2,hR⟩
   refine⟨_,_,_,hR,?_⟩
   try simp only[aQ]
   refine Ym [zR 7,.wr 9 (hnO 1 7) 0] [26,21,23,25] (fun _=>[]) (fun _=>[(1,.cells #[nI x.ses,nI x.place,.slice none 0 0,.slice none 0 0,.slice va vn vc,nI x.c.place,.slice oa2 on2 oc2] 200 (0,0))]) o0 [] (fun _=>?_)
   refine JR_end (J_seq ?_)
   refine Nm [cAcc (.slice oa ok oc) 200 7 (List.map eEv (List.take i.toNat l))] ?_
   refine J_cut (E':=[zS 0 (some ⟨b1,off1,none⟩) l.length uc,zS 2 none 0 0,zS 3 oa ok oc,zI 4 i,zV 5 (.pointer (some ⟨nu1 0,0,none⟩)),zV 6 (.pointer (some ⟨nu2 0,0,none⟩))]) (h':=[_,_]) (C':=[_]) (G':=[_,_,_,_,_]) [0,2,3,4,5,6] [0,1] [0] [0,1,2,5,6] (by kernel_rfl) rfl rfl rfl ?_
   refine evRound (x:=x) hfx hok2 fun oa' oc'=>?_
   rw[take_snoc hi0 hx]
   refine J_eb ?_
   refine Zp [zR 0,.rd 1 [] 0 1,zR 2] [] [zI 4 (i+1)] (oC (show IntKind.i64.wrap (i+1)=i+1 from wrap_i64 (by omega) (by omega)) oN) ?_
   refine J_backx ⟨i+1,oa',ok+1,oc'⟩ [0,2,3,4] [] [0] [0] ?_ ?_ (by kernel_rfl) rfl rfl rfl
   ·exact⟨by simp only;omega,by simp only;omega⟩
   ·simp only
    omega
 ·have hie:i.toNat=l.length:=by have:=of_decide_eq_false hlt;omega
  rw[hie,List.take_length]
  rw[hie,List.take_length,List.length_map]at hok
  subst hok
  refine J_exit rfl ?_
  refine Zs [zR 0,zR 1] [13,0,3,4] [zS 2 oa l.length oc] ?_
  refine Yr [[]] (.slice oa l.length oc) fun a w s=>?_
  exact⟨_,_,(s.stp (stp_freeze 0 rfl)).ret (by simp) [] [1] rfl rfl⟩
end Go.Proofs.YtmkapocibaojdaaGreatDoor
end
section
namespace Go.Proofs.YtmkapocibaojdaaGreatDoor
open Go Go.Sx
set_option maxHeartbeats 4000000 in
theorem rTwoErr {w:World} {S:Nat→Prop} {a b:Option Addr} {n m c d:Nat} {xs ys:List Int} (ha:Rep w S (.slice a n c) (dInts xs)) (hb:Rep w S (.slice b m d) (dInts ys)) (hl:xs.length≤1000000) (hl2:ys.length≤1000000) :
  Calls Tryz.prog 53 #[.slice a n c,.slice b m d] w fun e w'=>Ret [] w S w' e (.int .i64 (twoErr xs ys)) [] []:=by
 obtain rfl:=rep_ints_len ha
 obtain rfl:=rep_ints_len hb
 refine epG Tryz.func53 bd53 (args:=[.slice a xs.length c,.slice b ys.length d]) (G:=[(_,dInts xs),(_,dInts ys)]) (by kernel_rfl) (.cons ha (.cons hb (.nil _ _))) ?_
 refine Zs [zR 0] [] [zI 4 0] ?_
 refine jS [(0,true),(1,false),(2,true)] [] ?_
 refine Ya [zR 0] [] [zS 6 a xs.length c] ?_
 refine Yc 117 #[.slice a xs.length c] (some 7) fun w S hG=>?_
 refine(rVecErr (hG.at 0 rfl) hl).mono ?_
 rintro e1 w1 hR
 refine⟨_,_,_,hR,?_⟩
 try simp only[aQ]
 refine Ya [zR 2] [7,6] [zI 5 ((↑(vecErr xs):Int))] ?_
 refine JR_end (J_seq ?_)
 refine Zs [zR 0,zR 1] [] [zB 9 ((↑(vecErr xs):Int)==0)] ?_
 refine cC (t:=(↑(vecErr xs):Int)==0) (fun h0=>?_) (fun h0=>?_)
 ·have hx0:vecErr xs=0:=by simpa using h0
  refine jT [(0,true),(1,false),(2,true)] [] ?_
  refine Ya [zR 0] [9] [zS 10 b ys.length d] ?_
  refine Yc 117 #[.slice b ys.length d] (some 11) fun w S hG=>?_
  refine(rVecErr (hG.at 1 rfl) hl2).mono ?_
  rintro e2 w2 hR
  refine⟨_,_,_,hR,?_⟩
  try simp only[aQ]
  refine Ya [zR 2] [11,10] [zI 5 ((↑(vecErr ys):Int))] ?_
  refine JR_end (J_seq ?_)
  refine Zs (Rds 0 3++[.rd 3 [] 2 0,.rd 4 [] 2 0,.rd 5 [] 2 0,.rd 6 [] 2 0,.rd 7 [] 2 0,.rd 8 [] 0 3]) [0,1] [zB 20 ((↑(vecErr ys):Int)==0&&(↑xs.length:Int) != (↑ys.length:Int))] ?_
  refine cC (t:=(↑(vecErr ys):Int)==0&&(↑xs.length:Int) != (↑ys.length:Int)) (fun h1=>?_) (fun h1=>?_)
  ·have h2:vecErr ys=0∧xs.length≠ys.length:=by simp at h1;omega
   refine Za [zR 0] [20] [zI 5 3] ?_
   refine Zs [zR 0,zR 1] [5] [zI 4 3] ?_
   refine Yr [[]] (nI 3) fun a w s=>?_
   have e1:twoErr xs ys=3:=by simp[twoErr,hx0,h2.1,h2.2]
   rw[e1]
   exact s.ret (by simp) [] [] rfl rfl
  ·refine J_skip ?_
   refine Zs [zR 0,zR 1] [20,5] [zI 4 ((↑(vecErr ys):Int))] ?_
   refine Yr [[]] (nI ((↑(vecErr ys):Int))) fun a w s=>?_
   have e1:twoErr xs ys=vecErr ys:=by
    unfold twoErr
    rw[if_neg (by simp[hx0])]
    by_cases hy:vecErr ys=0
    ·have h2:xs.length=ys.length:=by simp[hy]at h1;omega
     simp[hy,h2]
    ·simp[hy]
   rw[e1]
   exact s.ret (by simp) [] [] rfl rfl
 ·have hx0:vecErr xs≠0:=by simpa using h0
  refine J_skip (J_seq ?_)
  refine Zs (Rds 0 3++[.rd 3 [] 2 0,.rd 4 [] 2 0,.rd 5 [] 2 0,.rd 6 [] 2 0,.rd 7 [] 2 0,.rd 8 [] 0 3]) [9,0,1] [zB 20 ((↑(vecErr xs):Int)==0&&(↑xs.length:Int) != (↑ys.length:Int))] ?_
  refine J_condF ((↑(vecErr xs):Int)==0&&(↑xs.length:Int) != (↑ys.length:Int)) (by kernel_rfl) (by kernel_rfl) (by simp;omega) ?_
  refine J_skip ?_
  refine Zs [zR 0,zR 1] [20,5] [zI 4 ((↑(vecErr xs):Int))] ?_
  refine Yr [[]] (nI ((↑(vecErr xs):Int))) fun a w s=>?_
  have e1:twoErr xs ys=vecErr xs:=by simp[twoErr,hx0]
  rw[e1]
  exact s.ret (by simp) [] [] rfl rfl
end Go.Proofs.YtmkapocibaojdaaGreatDoor
end
section
namespace Go.Proofs.YtmkapocibaojdaaGreatDoor
open Go Go.Sx
set_option maxHeartbeats 4000000 in
theorem rIn {w:World} {S:Nat→Prop} {a b:Option Addr} {n m c d:Nat} {xs ys:List Int} (ha:Rep w S (.slice a n c) (dInts xs)) (hb:Rep w S (.slice b m d) (dInts ys)) (hl:xs.length≤1000000) (hxy:xs.length=ys.length) :
  Calls Tryz.prog 54 #[.slice a n c,.slice b m d] w fun e w'=>Ret [] w S w' e (.bool (inL xs ys)) [] []:=by
 obtain rfl:=rep_ints_len ha
 obtain rfl:=rep_ints_len hb
 refine epG Tryz.func54 bd54 (args:=[.slice a xs.length c,.slice b ys.length d]) (G:=[(_,dInts xs),(_,dInts ys)]) (by kernel_rfl) (.cons ha (.cons hb (.nil _ _))) ?_
 refine Zs [zR 0] [] [zB 4 false] ?_
 refine J_seq ?_
 refine Zs [zR 0] [] [zI 5 0] ?_
 refine J_block ?_
 refine J_loopx (fun i:Int=>[zS 0 a xs.length c,zS 1 b ys.length d,zB 4 false,zI 5 i]) (fun i:Int=>[]) (fun i:Int=>[]) (fun i:Int=>[(.slice a xs.length c,(dInts xs)),(.slice b ys.length d,(dInts ys))]) (fun i:Int=>(xs.length - i).toNat) (fun i:Int=>(0≤i∧i≤xs.length∧∀j:Nat,j<i.toNat→∀x y,xs[j]?=some x→ys[j]?=some y→x≤y)) 0 [0,1,4,5] [] [] [0,1] ?_ (by kernel_rfl) rfl rfl rfl ?_
 ·exact⟨by simp,by omega,by simp⟩
 rintro i ⟨hi0,hi,hno⟩
 refine J_seq ?_
 refine Zs (Rds 0 4) [] [zB 9 (decide (i<(↑xs.length:Int)))] ?_
 refine cC (t:=decide (i<(↑xs.length:Int))) (fun hlt=>?_) (fun hlt=>?_)
 ·have hlt2:i<xs.length:=by simpa using hlt
  obtain⟨x,hx⟩:∃x,xs[i.toNat]?=some x:=⟨_,List.getElem?_eq_getElem (by omega)⟩
  obtain⟨y,hy⟩:∃y,ys[i.toNat]?=some y:=⟨_,List.getElem?_eq_getElem (by omega)⟩
  refine J_read0 0 rfl i.toNat (map_at hx) (by kernel_rfl) (fun b1 off1 cs1 ty1 fz1 ha1 hrd1=>?_)
  cases ha1
  have hrd1_0:=rd0 (hrd1 0 _ rfl)
  refine J_read0 1 rfl i.toNat (map_at hy) (by kernel_rfl) (fun b2 off2 cs2 ty2 fz2 ha2 hrd2=>?_)
  cases ha2
  have hrd2_0:=rd0 (hrd2 0 _ rfl)
  try simp only[aQ]
  refine J_skip (J_seq (J_block ?_))
  refine Zt [zR 0,zR 1,.rd 2 [] 0 2,.rd 3 [.r 0 (some (nI x))] 0 0,zR 4,zR 5,.rd 6 [] 0 2,.rd 7 [.r 1 (some (nI y))] 0 0,zR 8] [9] [zB 20 (decide (x>y))] (oC hi0 (oC hlt2 (oC hrd1_0 (oC hi0 (oC (show i<(↑ys.length:Int) from by omega) (oC hrd2_0 oN)))))) ?_
  refine cC (t:=decide (x>y)) (fun hgt=>?_) (fun hgt=>?_)
  ·refine J_seq ?_
   refine Za [zR 0] [20] [] ?_
   refine Yr [[]] (.bool false) fun a w s=>?_
   rw[inL_false hx hy (by simpa using hgt)]
   exact s.ret (by simp) [] [] rfl rfl
  ·refine J_skip ?_
   refine J_eb ?_
   refine Zp [zR 0,.rd 1 [] 0 1,zR 2] [20] [zI 5 (i+1)] (oC (show IntKind.i64.wrap (i+1)=i+1 from wrap_i64 (by omega) (by omega)) oN) ?_
   refine J_backx (i+1) [0,1,4,5] [] [] [0,1] ?_ ?_ (by kernel_rfl) rfl rfl rfl
   ·refine⟨by omega,by omega,fun j hj x' y' hx' hy'=>?_⟩
    by_cases hji:j=i.toNat
    ·subst hji
     rw[hx]at hx'
     rw[hy]at hy'
     cases hx'
     cases hy'
     simpa using hgt
    ·exact hno j (by omega) x' y' hx' hy'
   ·omega
 ·refine J_exit rfl ?_
  refine Zs [zR 0] [9,0,1,5] [zB 4 true] ?_
  refine Yr [[]] (.bool true) fun a w s=>?_
  rw[inL_true hxy fun j x y hx hy=>hno j (by have:=(List.getElem?_eq_some_iff.1 hx).1;simp at hlt;omega) x y hx hy]
  exact s.ret (by simp) [] [] rfl rfl
end Go.Proofs.YtmkapocibaojdaaGreatDoor
end
section
namespace Go.Sx
structure FillS where
 i:Int
 v:List Int
 cur:Array Value
 xs:List Value
structure FreeS where
 k:Int
 b:Bool
structure CutR where
 n:Int
 L:Int
 a:Option Addr
 k:Nat
 c:Nat
 R:List (List Nat)
 v:List Int
 cur:Array Value
 xs:List Value
 f:Nat
end Go.Sx
namespace Go.Proofs.YtmkapocibaojdaaGreatDoor
open Go Go.Sx
def doneV (v:List Int):List Bool:=v.map fun z=>decide (0≤z)
set_option maxHeartbeats 16000000 in
theorem rCutsTail {w0:World} {S0:Nat→Prop} {ua:Option Addr} {uc np nb n:Nat} {l:List EvT} {cur0:Array Value} {xs0:List Value} (hn:l.length=n) (hE:Even6 l) (hl:l.length≤20) (hr0:Row cur0 n n 1 xs0) {Rr:Ending→World→Prop} (hQ:∀e w',(∃ra rn rc,Ret [] w0 S0 w' e (.tuple #[.slice ra rn rc,.agg #[.int .i64 (if (roundsE l l.length (l.map fun _=>false) l.length).2 then 0 else 10),.int .i64 (-1)]]) [] [(.slice ra rn rc,.sl 1 ((if (roundsE l l.length (l.map fun _=>false) l.length).2 then (roundsE l l.length (l.map fun _=>false) l.length).1 else []).map eRw))])→Rr e w') :
  J Tryz.prog Tryz.f56 (retR Tryz.prog Tryz.f56 Rr) Tryz.f56.ntmps [.c (.rg 10 false),.c (.block 2 (.loop (.seq (.seq (.rg 11 false) (.cond (.tmp 62) .skip (.exit 2))) (.seq (.block 3 (.rg 13 false)) (.rg 12 false))))),.c (.seq (.rg 14 false) (.seq (.rg 15 false) (.seq (.seq (.rg 16 false) (.block 4 (.loop (.seq (.seq (.rg 17 false) (.cond (.tmp 71) .skip (.exit 4))) (.seq (.block 5 (.seq (.rg 19 false) (.seq (.seq (.rg 20 false) (.block 6 (.loop (.seq (.seq (.rg 21 false) (.cond (.tmp 77) .skip (.exit 6))) (.seq (.block 7 (.seq (.seq (.rg 23 false) (.cond (.tmp 84) (.exit 7) .skip)) (.seq (.rg 24 false) (.seq (.seq (.rg 25 false) (.block 8 (.loop (.seq (.seq (.rg 26 false) (.cond (.tmp 88) .skip (.exit 8))) (.seq (.block 9 (.seq (.rg 28 true) (.seq (.rg 29 false) (.cond (.tmp 128) (.rg 30 false) .skip)))) (.rg 27 false)))))) (.seq (.rg 31 false) (.cond (.tmp 129) (.rg 32 false) .skip)))))) (.rg 22 false)))))) (.seq (.seq (.rg 33 false) (.cond (.tmp 136) (.seq (.rg 34 false) .ret) .skip)) (.seq (.seq (.rg 35 false) (.block 10 (.loop (.seq (.seq (.rg 36 false) (.cond (.tmp 141) .skip (.exit 10))) (.seq (.block 11 (.rg 38 false)) (.rg 37 false)))))) (.seq (.rg 39 false) (.rg 40 false))))))) (.rg 18 false)))))) (.seq (.rg 41 false) .ret))))] [(0,.val (.slice ua n uc)),(2,.val (.slice none 0 0)),(3,.val (.pointer (some ⟨np,0,none⟩))),(6,.val (.slice (some ⟨nb,0,none⟩) n n))] [(np,.cells #[.int .i64 0,.int .i64 0] 105 (0,0)),(nb,.cells cur0 3 (0,0))] [] [([],w0)] ⟨newS S0 [] w0,[cRows xs0 1 ((List.replicate l.length 0).map eI)],[(.slice ua n uc,.sl 7 (l.map eEv))]⟩:=by
 subst hn
 refine Za [zR 0] [] [zI 7 0] ?_
 refine J_block ?_
 refine J_loopx (fun z:FillS=>[zS 0 ua l.length uc,zS 2 none 0 0,zP 3 np,zS 6 (sA nb 0) l.length l.length,zI 7 z.i]) (fun z:FillS=>[(np,.cells #[nI 0,nI 0] 105 (0,0)),(nb,.cells z.cur 3 (0,0))]) (fun z:FillS=>[cRows z.xs 1 (z.v.map eI)]) (fun z:FillS=>[(.slice ua l.length uc,(D.sl 7 (List.map eEv l)))]) (fun z:FillS=>(l.length - z.i).toNat) (fun z:FillS=>(0≤z.i∧z.i≤l.length∧z.v.length=l.length∧(∀k,k<z.i.toNat→z.v[k]?=some (-1))∧Row z.cur l.length l.length 1 z.xs)) ⟨0,List.replicate l.length 0,cur0,xs0⟩ [0,2,3,6,7] [0,1] [0] [0] ?_ (by kernel_rfl) rfl rfl rfl ?_
 ·exact⟨by simp,by simp,by simp,by simp,hr0⟩
 rintro⟨i,v,cur,xs⟩ ⟨hi0,hi,hvl,hv,hrow⟩
 dsimp only at hi0 hi hvl hv hrow ⊢
 refine J_seq ?_
 refine Zs (Rds 0 4) [] [zB 62 (decide (i<(↑l.length:Int)))] ?_
 refine cC (t:=decide (i<(↑l.length:Int))) (fun hlt=>?_) (fun hlt=>?_)
 ·have hlt2:i<l.length:=of_decide_eq_true hlt
  obtain⟨i,rfl⟩:∃n:Nat,i=n:=⟨i.toNat,by omega⟩
  obtain⟨b,hb⟩:∃b,v[i]?=some b:=⟨_,List.getElem?_eq_getElem (by omega)⟩
  have hsz:0+((i:Nat):Int).toNat*1+1≤cur.size:=by rw[hrow.siz];omega
  refine J_skip (J_seq (J_block ?_))
  refine Zn [zR 0,zR 1,.rd 2 [] 0 2,.wr 3 [.o 1 (some (nI (-1)))] 0] [(3,[1])] [62] (fun _=>[]) (fun _=>[(1,.cells (cur.setIfInBounds (0+(↑i:Int).toNat*1) (nI (-1))) 3 (0,0))]) o0 (fun _=>(oC hi0 (oC hlt2 (oC (show(nI (-1:Int)).oneCell'=true from ?_) (oC (show(0:Nat)+(↑i:Int).toNat*1<cur.size from by omega) oN))))) (fun _=>?_)
  ·rfl
  refine J_stp (stp_fact (v:=.int .i64 (-1)) (d:=.v (.int .i64 (-1))) fun _ _ _=>.v rfl) ?_
  refine J_stp (stp_setrows 0 1 i 0 rfl (by rw[List.length_map,hvl];exact hrow.len) (map_at hb) (by decide) rfl) ?_
  rw[show(List.map eI v).set i ((eI b).set 0 (.v (.int .i64 (-1))))=List.map eI (v.set i (-1)) from List.map_set.symm]
  refine Nm [(cRows (xs.set (i*1+0) (nI (-1))) 1 (List.map eI (v.set i (-1))))] ?_
  try simp only[aQ]
  refine J_eb ?_
  refine Zp [zR 0,.rd 1 [] 0 1,zR 2] [] [zI 7 ((↑i:Int)+1)] (oC (show IntKind.i64.wrap ((↑i:Int)+1)=(↑i:Int)+1 from wrap_i64 (by omega) (by omega)) oN) ?_
  refine J_backx ⟨(i:Int)+1,v.set i (-1),cur.setIfInBounds (0+((i:Nat):Int).toNat*1) (.int .i64 (-1)),xs.set (i*1+0) (.int .i64 (-1))⟩ [0,2,3,6,7] [0,1] [0] [0] ?_ ?_ (by kernel_rfl) rfl rfl rfl
  ·refine⟨by simp only;omega,by simp only;omega,by simpa using hvl,fun k hk=>?_,?_⟩
   ·dsimp only at hk ⊢
    by_cases hki:k=i
    ·subst hki
     rw[List.getElem?_set_self (by omega)]
    ·rw[List.getElem?_set_ne (Ne.symm hki)]
     exact hv k (by omega)
   ·dsimp only
    rw[Nat.zero_add]
    exact hrow.set1 _ _
  ·simp only
   omega
 have hie:i.toNat=l.length:=by have:=of_decide_eq_false hlt;omega
 have hv1:v=List.replicate l.length (-1):=by
  refine List.ext_getElem? fun k=>?_
  by_cases hk:k<l.length
  ·rw[hv k (by omega),List.getElem?_replicate,if_pos hk]
  ·rw[List.getElem?_eq_none (by omega),List.getElem?_eq_none (by simp;omega)]
 have hd1:doneV v=l.map fun _=>false:=by
  rw[hv1,doneV,List.map_replicate]
  exact(List.map_const' ..).symm
 refine J_stp (stp_accm eRw 32 1) ?_
 refine Nm [(cRows xs 1 (List.map eI v)),cAcc (.slice none 0 0) 32 1 (List.map eRw [])] ?_
 refine J_exit rfl ?_
 refine Zs [zR 0] [62,7] [zS 8 none 0 0] ?_
 refine Zs (Rds 0 3) [] [zI 9 (↑l.length:Int)] ?_
 refine J_seq ?_
 refine Zs [zR 0] [] [zI 10 0] ?_
 refine J_block ?_
 refine J_loopx (fun z:CutR=>[zS 0 ua l.length uc,zS 2 none 0 0,zP 3 np,zS 6 (sA nb 0) l.length l.length,zS 8 z.a z.k z.c,zI 9 z.L,zI 10 z.n]) (fun z:CutR=>[(np,.cells #[nI 0,nI 0] 105 (0,0)),(nb,.cells z.cur 3 (0,0))]) (fun z:CutR=>[cRows z.xs 1 (z.v.map eI),cAcc (.slice z.a z.k z.c) 32 1 (z.R.map eRw)]) (fun z:CutR=>[(.slice ua l.length uc,(D.sl 7 (List.map eEv l)))]) (fun z:CutR=>z.L.toNat) (fun z:CutR=>(z.v.length=l.length∧Row z.cur l.length l.length 1 z.xs∧z.L.toNat≤z.f∧(z.R.length:Int)+z.L≤l.length∧z.L≤20∧z.n=z.R.length∧(∀y∈z.v,y<z.n)∧RoundsI l z.R z.f (doneV z.v) z.L.toNat)) ⟨0,l.length,none,0,0,[],v,cur,xs,l.length⟩ [0,2,3,6,8,9,10] [0,1] [0,1] [0] ?_ (by kernel_rfl) rfl rfl rfl ?_
 ·exact⟨hvl,hrow,by simp,by simp,by simp only;omega,rfl,fun y hy=>by rw[hv1]at hy;simp[List.eq_of_mem_replicate hy],by rw[RoundsI,hd1];simp⟩
 clear hv hrow hv1 hd1 hvl
 rintro⟨n,L,oa,ok,oc,R,v,cur,xs,f⟩ ⟨hvl,hrow,hLf,hRL,hL20,hnR,hvn,hRI⟩
 dsimp only at hvl hrow hLf hRL hL20 hnR hvn hRI ⊢
 refine J_stpx (stp_acclen 1 rfl) fun _ hok=>?_
 rw[List.length_map]at hok
 refine J_seq ?_
 refine Zs [zR 0,zR 1] [] [zB 71 (decide (L>0))] ?_
 refine cC (t:=decide (L>0)) (fun hltL=>?_) (fun hltL=>?_)
 ·have hltL2:0<L:=by simpa using hltL
  refine J_skip (J_seq (J_block (J_seq ?_)))
  refine J_stp (stp_accm eI 3 1) ?_
  refine Nm [(cRows xs 1 (List.map eI v)),cAcc (.slice oa ok oc) 32 1 (List.map eRw R),cAcc (.slice none 0 0) 3 1 (List.map eI [])] ?_
  refine Za [zR 0] [71] [zS 11 none 0 0] ?_
  refine J_seq ?_
  refine Zs [zR 0] [] [zI 12 0] ?_
  refine J_block ?_
  refine J_loopx (fun y:AccI=>[zS 0 ua l.length uc,zS 2 none 0 0,zP 3 np,zS 6 (sA nb 0) l.length l.length,zS 8 oa ok oc,zI 9 L,zI 10 n,zS 11 y.a y.k y.c,zI 12 y.i]) (fun y:AccI=>[(np,.cells #[nI 0,nI 0] 105 (0,0)),(nb,.cells cur 3 (0,0))]) (fun y:AccI=>[cRows xs 1 (v.map eI),cAcc (.slice oa ok oc) 32 1 (R.map eRw),cAcc (.slice y.a y.k y.c) 3 1 ((intsN (roundAt l (doneV v) y.i.toNat)).map eI)]) (fun y:AccI=>[(.slice ua l.length uc,(D.sl 7 (List.map eEv l)))]) (fun y:AccI=>(l.length - y.i).toNat) (fun y:AccI=>(0≤y.i∧y.i≤l.length)) ⟨0,none,0,0⟩ [0,2,3,6,8,9,10,11,12] [0,1] [0,1,2] [0] ?_ (by kernel_rfl) rfl rfl rfl ?_
  ·exact⟨by simp,by simp⟩
  rintro⟨i,av,k,cv⟩ ⟨hi0,hi⟩
  dsimp only at hi0 hi ⊢
  refine J_stpx (stp_acclen 2 rfl) fun _ hk=>?_
  have hk2:k≤20:=by
   have:=roundAt_len l (doneV v) i.toNat
   rw[List.length_map,intsN,List.length_map]at hk
   omega
  refine J_seq ?_
  refine Zs (Rds 0 4) [] [zB 77 (decide (i<(↑l.length:Int)))] ?_
  refine cC (t:=decide (i<(↑l.length:Int))) (fun hlt3=>?_) (fun hlt3=>?_)
  ·have hlt4:i<l.length:=of_decide_eq_true hlt3
   obtain⟨i,rfl⟩:∃n:Nat,i=n:=⟨i.toNat,by omega⟩
   obtain⟨x,hx⟩:∃x,l[i]?=some x:=⟨_,List.getElem?_eq_getElem (by omega)⟩
   obtain⟨bv,hbv⟩:∃b,v[i]?=some b:=⟨_,List.getElem?_eq_getElem (by omega)⟩
   have hbd:(doneV v)[i]?=some (decide (0≤bv)):=by rw[doneV,List.getElem?_map,hbv];rfl
   have hsc:=roundAt_succ l (doneV v) i
   rw[hbd,Option.getD_some]at hsc
   refine J_stpx (stp_readrows 0 rfl i (map_at hbv)) fun ls hls=>?_
   obtain⟨hls1,hls2⟩:=hls
   obtain rfl:ls=[]:=List.eq_nil_of_length_eq_zero hls1
   have r0:cur[0+((i:Nat):Int).toNat*1]?=some (.int .i64 bv):=by
    have:=hrow.atx (hls2 0 _ rfl)
    simpa using this
   by_cases hb0:0≤bv
   ·rw[if_neg (by simp[hb0])]at hsc
    try simp only[aQ]
    refine J_skip (J_seq (J_block (J_seq ?_)))
    refine Zt [zR 0,zR 1,.rd 2 [] 0 2,.rd 3 [.o 1 (some (nI bv))] 0 0,.rd 4 [] 0 6] [77] [zB 84 true] (oC hi0 (oC hlt4 (oC r0 (oC (show decide (bv≥(0:Int))=true from by simp;omega) oN)))) ?_
    refine cTt ?_
    refine J_exit rfl ?_
    refine Zp [zR 0,.rd 1 [] 0 1,zR 2] [84] [zI 12 ((↑i:Int)+1)] (oC (show IntKind.i64.wrap ((↑i:Int)+1)=(↑i:Int)+1 from wrap_i64 (by omega) (by omega)) oN) ?_
    rw[show roundAt l (doneV v) ((i:Nat):Int).toNat=roundAt l (doneV v) (((i:Nat):Int)+1).toNat by rw[show(((i:Nat):Int)+1).toNat=i+1 by omega,hsc];rfl]
    refine J_backx ⟨(i:Int)+1,av,k,cv⟩ [0,2,3,6,8,9,10,11,12] [0,1] [0,1,2] [0] ?_ ?_ (by kernel_rfl) rfl rfl rfl
    ·exact⟨by simp only;omega,by simp only;omega⟩
    ·simp only
     omega
   ·try simp only[aQ]
    refine J_skip (J_seq (J_block (J_seq ?_)))
    refine Zt [zR 0,zR 1,.rd 2 [] 0 2,.rd 3 [.o 1 (some (nI bv))] 0 0,.rd 4 [] 0 7] [77] [zB 84 false] (oC hi0 (oC hlt4 (oC r0 (oC (show decide (bv≥(0:Int))=false from by simp;omega) oN)))) ?_
    refine cF ?_
    refine J_skip ?_
    refine Zs [zR 0] [84] [zB 13 true] ?_
    refine J_seq ?_
    refine Zs [zR 0] [] [zI 14 0] ?_
    refine J_block ?_
    refine J_loopx (fun q:FreeS=>[zS 0 ua l.length uc,zS 2 none 0 0,zP 3 np,zS 6 (sA nb 0) l.length l.length,zS 8 oa ok oc,zI 9 L,zI 10 n,zS 11 av k cv,zI 12 (↑i:Int),zB 13 q.b,zI 14 q.k]) (fun q:FreeS=>[(np,.cells #[nI 0,nI 0] 105 (0,0)),(nb,.cells cur 3 (0,0))]) (fun q:FreeS=>[cRows xs 1 (v.map eI),cAcc (.slice oa ok oc) 32 1 (R.map eRw),cAcc (.slice av k cv) 3 1 ((intsN (roundAt l (doneV v) ((i:Nat):Int).toNat)).map eI)]) (fun q:FreeS=>[(.slice ua l.length uc,(D.sl 7 (List.map eEv l)))]) (fun q:FreeS=>(l.length - q.k).toNat) (fun q:FreeS=>(0≤q.k∧q.k≤l.length∧(q.b=true→∀(j:Nat) y,j<q.k.toNat→l[j]?=some y→(doneV v)[j]?=some false→y.c.ops≠[]→inL y.c.when x.at'=false)∧(q.b=false→waitsE l (doneV v) i=true))) ⟨0,true⟩ [0,2,3,6,8,9,10,11,12,13,14] [0,1] [0,1,2] [0] ?_ (by kernel_rfl) rfl rfl rfl ?_
    ·exact⟨by simp,by simp,by simp,by simp⟩
    rintro⟨m,b⟩ ⟨hm0,hm,hbt,hbf⟩
    dsimp only at hm0 hm hbt hbf ⊢
    refine J_seq ?_
    refine Zs (Rds 0 4) [] [zB 88 (decide (m<(↑l.length:Int)))] ?_
    refine cC (t:=decide (m<(↑l.length:Int))) (fun hlt5=>?_) (fun hlt5=>?_)
    ·have hlt6:m<l.length:=of_decide_eq_true hlt5
     obtain⟨m,rfl⟩:∃n:Nat,m=n:=⟨m.toNat,by omega⟩
     obtain⟨y,hy⟩:∃y,l[m]?=some y:=⟨_,List.getElem?_eq_getElem (by omega)⟩
     obtain⟨cv2,hcv⟩:∃b,v[m]?=some b:=⟨_,List.getElem?_eq_getElem (by omega)⟩
     have hcd:(doneV v)[m]?=some (decide (0≤cv2)):=by rw[doneV,List.getElem?_map,hcv];rfl
     have hcn:=hvn cv2 (List.mem_of_getElem? hcv)
     have hyl:=hE.len y (List.mem_of_getElem? hy)
     have hxl:=hE.len x (List.mem_of_getElem? hx)
     refine J_stpx (stp_readrows 0 rfl m (map_at hcv)) fun ls hls=>?_
     obtain⟨hls3,hls4⟩:=hls
     obtain rfl:ls=[]:=List.eq_nil_of_length_eq_zero hls3
     have r1:cur[0+((m:Nat):Int).toNat*1]?=some (.int .i64 cv2):=by
      have:=hrow.atx (hls4 0 _ rfl)
      simpa using this
     have hym:l[((m:Nat):Int).toNat]?=some y:=hy
     have hxm:l[((i:Nat):Int).toNat]?=some x:=hx
     refine J_read4 0 rfl ((↑m:Int).toNat) (map_at hym) (by kernel_rfl) (fun b1 off1 cs1 ty1 fz1 a1_0 c1_0 a1_1 c1_1 a1_2 c1_2 a1_3 c1_3 ha1 hrd1=>?_)
     cases ha1
     have hrd1_0:=rd0 (hrd1 0 _ rfl)
     have hrd1_1:=hrd1 1 _ rfl
     have hrd1_2:=hrd1 2 _ rfl
     have hrd1_3:=hrd1 3 _ rfl
     have hrd1_4:=hrd1 4 _ rfl
     have hrd1_5:=hrd1 5 _ rfl
     have hrd1_6:=hrd1 6 _ rfl
     refine J_again4 0 rfl 0 rfl ((↑i:Int).toNat) (map_at hxm) (by kernel_rfl) (fun a2_0 c2_0 a2_1 c2_1 a2_2 c2_2 a2_3 c2_3 hrd2=>?_)
     have hrd2_0:=rd0 (hrd2 0 _ rfl)
     have hrd2_1:=hrd2 1 _ rfl
     have hrd2_2:=hrd2 2 _ rfl
     have hrd2_3:=hrd2 3 _ rfl
     have hrd2_4:=hrd2 4 _ rfl
     have hrd2_5:=hrd2 5 _ rfl
     have hrd2_6:=hrd2 6 _ rfl
     try simp only[aQ]
     refine J_skip (J_seq (J_block ?_))
     refine jS [(0,true),(1,true),(2,true),(3,true),(4,true),(5,true),(6,true),(7,true),(8,true),(9,true),(10,true),(11,false),(12,true)] [] ?_
     refine Yp [zR 0,zR 1,.rd 2 [] 0 2,zR 3,zR 4,.rd 5 [.r 0 (some (.slice (a1_2,c1_2).fst ((List.map eI y.c.when).length) c1_2))] 0 0,zR 6,zR 7,.rd 8 [] 0 2,zR 9,.rd 10 [.r 0 (some (.slice (a2_0,c2_0).fst ((List.map eI x.at').length) c2_0))] 0 0] [88] [zS 96 (a1_2,c1_2).fst ((List.map eI y.c.when).length) c1_2,zS 101 (a2_0,c2_0).fst ((List.map eI x.at').length) c2_0] (oC hm0 (oC hlt6 (oC hrd1_4 (oC hi0 (oC hlt4 (oC hrd2_2 oN)))))) ?_
     refine Yc 54 #[.slice (a1_2,c1_2).fst ((List.map eI y.c.when).length) c1_2,.slice (a2_0,c2_0).fst ((List.map eI x.at').length) c2_0] (some 102) fun w S hG=>?_
     refine(rIn (xs:=y.c.when) (ys:=x.at') (hG.at 3 rfl) (hG.at 5 rfl) (by omega) (two_of (hE.two y (List.mem_of_getElem? hy) x (List.mem_of_getElem? hx)).1).2.2).mono ?_
     rintro e3 w3 hR
     refine⟨_,_,_,hR,?_⟩
     have hnx:((doneV v)[m]?=some false→y.c.ops≠[]→inL y.c.when x.at'=false)→(b=true→∀(j:Nat) z,j<((m:Int)+1).toNat→l[j]?=some z→(doneV v)[j]?=some false→z.c.ops≠[]→inL z.c.when x.at'=false):=fun hw2 hb1 j z hj hz hdz hoz=>by
      by_cases hjm:j=m
      ·subst hjm
       rw[hy]at hz
       cases hz
       exact hw2 hdz hoz
      ·exact hbt hb1 j z (by omega) hz hdz hoz
     by_cases ho:(y.c.ops.length:Int)>0
     case neg=>
      have ho2:y.c.ops=[]:=List.length_eq_zero_iff.1 (by omega)
      try simp only[aQ]
      refine Ya [zR 12] [102,96,101] [zB 15 (inL y.c.when x.at')] ?_
      refine JR_end ?_
      refine Zt [zR 0,zR 1,.rd 2 [] 0 2,zR 3,zR 4,.rd 5 [.r 0 (some (.slice (a1_3,c1_3).fst ((List.map eOp y.c.ops).length) c1_3))] 0 0,zR 6,.rd 7 [] 0 7,zR 8,.rd 9 [] 1 0,zR 10,zR 11,.rd 12 [] 1 0,.rd 13 [] 1 0,.rd 14 [] 1 0,.rd 15 [] 1 0,.rd 16 [] 1 0,.rd 17 [] 1 0,.rd 18 [] 1 0,.rd 19 [] 1 0,.rd 20 [] 1 0,.rd 21 [] 1 0,.rd 22 [] 1 0,.rd 23 [] 1 0,.rd 24 [] 1 0,zR 25] [] [zB 128 false] (oC hm0 (oC hlt6 (oC hrd1_6 (oC (show decide ((↑(List.map eOp y.c.ops).length:Int)>(0:Int))=false from by simp;omega) oN)))) ?_
      refine cF ?_
      refine J_skip (J_eb ?_)
      refine Zp [zR 0,.rd 1 [] 0 1,zR 2] [128] [zI 14 ((↑m:Int)+1)] (oC (show IntKind.i64.wrap ((↑m:Int)+1)=(↑m:Int)+1 from wrap_i64 (by omega) (by omega)) oN) ?_
      refine J_backx ⟨(m:Int)+1,b⟩ [0,2,3,6,8,9,10,11,12,13,14] [0,1] [0,1,2] [0] ?_ ?_ (by kernel_rfl) rfl rfl rfl
      ·exact⟨by simp only;omega,by simp only;omega,hnx fun _ h=>absurd ho2 h,hbf⟩
      ·simp only
       omega
     have ho2:y.c.ops≠[]:=fun h=>by rw[h]at ho;simp at ho
     cases hin:inL y.c.when x.at' with
     | false=>
      try simp only[aQ]
      refine Ya [zR 12] [102,96,101] [zB 15 false] ?_
      refine JR_end ?_
      refine Zt ([zR 0,zR 1,.rd 2 [] 0 2,zR 3,zR 4,.rd 5 [.r 0 (some (.slice (a1_3,c1_3).fst ((List.map eOp y.c.ops).length) c1_3))] 0 0,zR 6,.rd 7 [] 0 6]++Rds 8 12++[.rd 12 [] 1 0,.rd 13 [] 1 0,.rd 14 [] 1 0,.rd 15 [] 1 0,.rd 16 [] 1 0,.rd 17 [] 1 0,.rd 18 [] 1 0,.rd 19 [] 1 0,.rd 20 [] 1 0,.rd 21 [] 1 0,.rd 22 [] 1 0,.rd 23 [] 1 0,.rd 24 [] 1 0,zR 25]) [] [zB 128 false] (oC hm0 (oC hlt6 (oC hrd1_6 (oC (show decide ((↑(List.map eOp y.c.ops).length:Int)>(0:Int))=true from by simp;omega) oN)))) ?_
      refine cF ?_
      refine J_skip (J_eb ?_)
      refine Zp [zR 0,.rd 1 [] 0 1,zR 2] [128] [zI 14 ((↑m:Int)+1)] (oC (show IntKind.i64.wrap ((↑m:Int)+1)=(↑m:Int)+1 from wrap_i64 (by omega) (by omega)) oN) ?_
      refine J_backx ⟨(m:Int)+1,b⟩ [0,2,3,6,8,9,10,11,12,13,14] [0,1] [0,1,2] [0] ?_ ?_ (by kernel_rfl) rfl rfl rfl
      ·exact⟨by simp only;omega,by simp only;omega,hnx fun _ _=>hin,hbf⟩
      ·simp only
       omega
     | true=>
     by_cases hc0:cv2<0
     ·try simp only[aQ]
      refine Ya [zR 12] [102,96,101] [zB 15 true] ?_
      refine JR_end ?_
      refine Zt ([zR 0,zR 1,.rd 2 [] 0 2,zR 3,zR 4,.rd 5 [.r 0 (some (.slice (a1_3,c1_3).fst ((List.map eOp y.c.ops).length) c1_3))] 0 0,zR 6,.rd 7 [] 0 6]++Rds 8 14++[.rd 14 [] 0 2,.rd 15 [.o 1 (some (nI cv2))] 0 0,.rd 16 [] 0 6,zR 17,.rd 18 [] 1 0,.rd 19 [] 1 0,.rd 20 [] 1 0,.rd 21 [] 1 0,.rd 22 [] 1 0,.rd 23 [] 1 0,zR 24,zR 25]) [] [zB 128 true] (oC hm0 (oC hlt6 (oC hrd1_6 (oC (show decide ((↑(List.map eOp y.c.ops).length:Int)>(0:Int))=true from by simp;omega) (oC hm0 (oC hlt6 (oC r1 (oC (show decide (cv2<(0:Int))=true from by simp;omega) oN)))))))) ?_
      refine cTt ?_
      refine Za [zR 0] [128] [zB 13 false] ?_
      refine J_eb ?_
      refine Zp [zR 0,.rd 1 [] 0 1,zR 2] [] [zI 14 ((↑m:Int)+1)] (oC (show IntKind.i64.wrap ((↑m:Int)+1)=(↑m:Int)+1 from wrap_i64 (by omega) (by omega)) oN) ?_
      refine J_backx ⟨(m:Int)+1,false⟩ [0,2,3,6,8,9,10,11,12,13,14] [0,1] [0,1,2] [0] ?_ ?_ (by kernel_rfl) rfl rfl rfl
      ·exact⟨by simp only;omega,by simp only;omega,by simp,fun _=>waits_at hx hy (by rw[hcd,decide_eq_false (by omega)]) ho2 hin⟩
      ·simp only
       omega
     ·have hc1:¬cv2≥n:=by omega
      try simp only[aQ]
      refine Ya [zR 12] [102,96,101] [zB 15 true] ?_
      refine JR_end ?_
      refine Zt ([zR 0,zR 1,.rd 2 [] 0 2,zR 3,zR 4,.rd 5 [.r 0 (some (.slice (a1_3,c1_3).fst ((List.map eOp y.c.ops).length) c1_3))] 0 0,zR 6,.rd 7 [] 0 6]++Rds 8 14++[.rd 14 [] 0 2,.rd 15 [.o 1 (some (nI cv2))] 0 0,.rd 16 [] 0 7]++Rds 17 20++[.rd 20 [] 0 2,.rd 21 [.o 1 (some (nI cv2))] 0 0,zR 22,.rd 23 [] 0 7,zR 24,zR 25]) [] [zB 128 false] (oC hm0 (oC hlt6 (oC hrd1_6 (oC (show decide ((↑(List.map eOp y.c.ops).length:Int)>(0:Int))=true from by simp;omega) (oC hm0 (oC hlt6 (oC r1 (oC (show decide (cv2<(0:Int))=false from by simp;omega) (oC hm0 (oC hlt6 (oC r1 (oC (show decide (cv2≥n)=false from by simp;omega) oN)))))))))))) ?_
      refine cF ?_
      refine J_skip (J_eb ?_)
      refine Zp [zR 0,.rd 1 [] 0 1,zR 2] [128] [zI 14 ((↑m:Int)+1)] (oC (show IntKind.i64.wrap ((↑m:Int)+1)=(↑m:Int)+1 from wrap_i64 (by omega) (by omega)) oN) ?_
      refine J_backx ⟨(m:Int)+1,b⟩ [0,2,3,6,8,9,10,11,12,13,14] [0,1] [0,1,2] [0] ?_ ?_ (by kernel_rfl) rfl rfl rfl
      ·exact⟨by simp only;omega,by simp only;omega,hnx (fun h1 _=>absurd h1 (by rw[hcd,decide_eq_true (by omega)];simp)),hbf⟩
      ·simp only
       omega
    ·have hme:m.toNat=l.length:=by have:=of_decide_eq_false hlt5;omega
     cases b with
     | true=>
      have hwt:waitsE l (doneV v) i=false:=waits_no hx fun j y hy=>hbt rfl j y (by have:=(List.getElem?_eq_some_iff.1 hy).1;omega) hy
      rw[if_pos (by simp[hwt,hb0])]at hsc
      refine J_exit rfl ?_
      refine Zs [zR 0] [88] [zB 129 true] ?_
      refine cTt ?_
      refine jT [(0,true),(1,true),(2,false),(3,false),(4,true)] [] ?_
      refine Ym [zR 0,zR 1,.wr 2 [] 0] [129] (fun nu1=>[zS 130 av k cv,zS 132 (sA (nu1 0) 0) 1 1]) o0 (fun nu1=>[(nu1 0,.cells #[nI (↑i:Int)] 3 (0,0))]) [] (fun nu1=>?_)
      refine JR_appm 2 32 3 1 8 (.int .i64 0) (a0:=av) (len:=k) (cap0:=cv) (ax:=(some (⟨nu1 0,0,none⟩))) (m:=1) (c:=1) (dst:=(some 133)) [((i:Nat):Int)] (by kernel_rfl) (by kernel_rfl) (by kernel_rfl) (by kernel_rfl) rfl (by decide) rfl (fun _ _ _ s=>src_one s 2 rfl rfl ⟨.inl ⟨rfl,rfl⟩,trivial⟩) (by simp only[maxLen];omega) (by omega) (fun av1 cv1=>?_)
      rw[show intsN (roundAt l (doneV v) ((i:Nat):Int).toNat)++[((i:Nat):Int)]=intsN (roundAt l (doneV v) (((i:Nat):Int)+1).toNat)by rw[show(((i:Nat):Int)+1).toNat=i+1 by omega,hsc,intsN_snoc];rfl]
      try simp only[aQ]
      refine Ya [zR 4] [133,130,132] [zS 11 av1 (k+1) cv1] ?_
      try simp only[aQ]
      refine JR_end ?_
      try simp only[aQ]
      refine J_eb ?_
      try simp only[aQ]
      refine Zp [zR 0,.rd 1 [] 0 1,zR 2] [] [zI 12 ((↑i:Int)+1)] (oC (show IntKind.i64.wrap ((↑i:Int)+1)=(↑i:Int)+1 from wrap_i64 (by omega) (by omega)) oN) ?_
      try simp only[aQ]
      refine J_backx ⟨(i:Int)+1,_,k+1,_⟩ [0,2,3,6,8,9,10,11,12] [0,1] [0,1,2] [0] ?_ ?_ (by kernel_rfl) rfl rfl rfl
      ·exact⟨by simp only;omega,by simp only;omega⟩
      ·simp only
       omega
     | false=>
      have hwt:=hbf rfl
      rw[if_neg (by simp[hwt])]at hsc
      refine J_exit rfl ?_
      refine Zs [zR 0] [88] [zB 129 false] ?_
      refine cF ?_
      refine J_skip (J_eb ?_)
      refine Zp [zR 0,.rd 1 [] 0 1,zR 2] [129] [zI 12 ((↑i:Int)+1)] (oC (show IntKind.i64.wrap ((↑i:Int)+1)=(↑i:Int)+1 from wrap_i64 (by omega) (by omega)) oN) ?_
      rw[show roundAt l (doneV v) ((i:Nat):Int).toNat=roundAt l (doneV v) (((i:Nat):Int)+1).toNat by rw[show(((i:Nat):Int)+1).toNat=i+1 by omega,hsc];rfl]
      refine J_backx ⟨(i:Int)+1,av,k,cv⟩ [0,2,3,6,8,9,10,11,12] [0,1] [0,1,2] [0] ?_ ?_ (by kernel_rfl) rfl rfl rfl
      ·exact⟨by simp only;omega,by simp only;omega⟩
      ·simp only
       omega
  ·have hie:i.toNat=l.length:=by have:=of_decide_eq_false hlt3;omega
   have hrd:roundAt l (doneV v) i.toNat=roundE l (doneV v):=by rw[hie];rfl
   rw[hrd]at hk ⊢
   rw[List.length_map,intsN,List.length_map]at hk
   subst hk
   obtain⟨f,rfl⟩:∃n,f=n+1:=⟨f - 1,by omega⟩
   have hL0:¬L.toNat=0:=by omega
   by_cases hre:roundE l (doneV v)=[]
   ·have hwh:roundsE l l.length (l.map fun _=>false) l.length=(R,false):=by
     rw[hRI,roundsE,if_neg hL0,if_pos hre,List.append_nil]
    have h0:((roundE l (doneV v)).length:Int)=0:=by rw[hre];rfl
    refine J_exit rfl ?_
    refine J_seq ?_
    refine Zt [zR 0,zR 1,.rd 2 [] 0 6] [77] [zB 136 true] (oC (show((↑(roundE l (doneV v)).length:Int)==(0:Int))=true from by simp;omega) oN) ?_
    refine cTt ?_
    refine jS [(0,false),(1,true),(2,false)] [] ?_
    refine Yc 116 #[nI 10] (some 137) fun w S hG=>?_
    refine(rBare (S:=S)).mono ?_
    rintro e3 w3 hR
    refine⟨_,_,_,hR,?_⟩
    try simp only[aQ]
    refine Ym [zR 1,.wr 2 [.o 0 none,.o 0 none] 0] [137,136] (fun _=>[]) (fun _=>[(0,.cells #[nI 10,nI (-1)] 105 (0,0))]) o0 [] (fun _=>?_)
    refine JR_end ?_
    refine Yr [[],[.o 0 none,.o 0 none]] (.tuple #[.slice none 0 0,.agg #[nI 10,nI (-1)]]) fun a w s=>?_
    exact hQ _ _ (by rw[hwh];exact⟨_,_,_,(s.stp (stp_fact (v:=.slice none 0 0) (d:=.sl 1 []) fun _ _ _=>.nil)).ret (by simp) [] [1] rfl rfl⟩)
   have hwh:RoundsI l (R++[roundE l (doneV v)]) f (markE (doneV v) (roundE l (doneV v))) (L.toNat - (roundE l (doneV v)).length):=by
    rw[RoundsI,hRI,roundsE,if_neg hL0,if_neg hre,List.append_assoc]
    rfl
   have hrl:(roundE l (doneV v)).length≤l.length:=by rw[←hrd];have:=roundAt_len l (doneV v) i.toNat;omega
   have hr1:1≤(roundE l (doneV v)).length:=List.length_pos_iff.2 hre
   have h0:¬((roundE l (doneV v)).length:Int)=0:=by omega
   refine J_stp (stp_freeze 2 rfl) ?_
   refine Nm [(cRows xs 1 (List.map eI v)),cAcc (.slice oa ok oc) 32 1 (List.map eRw R)] ?_
   try simp only[aQ]
   refine J_exit rfl ?_
   refine J_seq ?_
   refine Zt [zR 0,zR 1,.rd 2 [] 0 7] [77] [zB 136 false] (oC (show((↑(roundE l (doneV v)).length:Int)==(0:Int))=false from by simp;omega) oN) ?_
   refine cF ?_
   refine J_skip (J_seq ?_)
   refine Zs [zR 0] [136] [zI 16 0] ?_
   refine J_block ?_
   have hn0:0≤n:=by omega
   have hdl:(doneV v).length=l.length:=by rw[doneV,List.length_map,hvl]
   refine J_loopx (fun q:FillS=>[zS 0 ua l.length uc,zS 2 none 0 0,zP 3 np,zS 6 (sA nb 0) l.length l.length,zS 8 oa ok oc,zI 9 L,zI 10 n,zS 11 av ((roundE l (doneV v)).length) cv,zI 12 i,zI 16 q.i]) (fun q:FillS=>[(np,.cells #[nI 0,nI 0] 105 (0,0)),(nb,.cells q.cur 3 (0,0))]) (fun q:FillS=>[cRows q.xs 1 (q.v.map eI),cAcc (.slice oa ok oc) 32 1 (R.map eRw)]) (fun q:FillS=>[(.slice ua l.length uc,(D.sl 7 (List.map eEv l))),(.slice av ((roundE l (doneV v)).length) cv,(D.sl 1 (List.map eI (intsN (roundE l (doneV v))))))]) (fun q:FillS=>((roundE l (doneV v)).length - q.i).toNat) (fun q:FillS=>(0≤q.i∧q.i≤(roundE l (doneV v)).length∧q.v.length=l.length∧doneV q.v=markE (doneV v) ((roundE l (doneV v)).take q.i.toNat)∧(∀y∈q.v,y<n+1)∧Row q.cur l.length l.length 1 q.xs)) ⟨0,v,cur,xs⟩ [0,2,3,6,8,9,10,11,12,16] [0,1] [0,1] [0,1] ?_ (by kernel_rfl) rfl rfl rfl ?_
   ·exact⟨by simp,by simp,hvl,by simp[markE],fun y hy=>by have:=hvn y hy;omega,hrow⟩
   rintro⟨j,vq,curq,xq⟩ ⟨hj0,hj,hql,hdq,hnq,hrq⟩
   dsimp only at hj0 hj hql hdq hnq hrq ⊢
   refine J_seq ?_
   refine Zs (Rds 0 4) [] [zB 141 (decide (j<(↑(roundE l (doneV v)).length:Int)))] ?_
   refine cC (t:=decide (j<(↑(roundE l (doneV v)).length:Int))) (fun hlt5=>?_) (fun hlt5=>?_)
   ·have hlt6:j<(roundE l (doneV v)).length:=of_decide_eq_true hlt5
    obtain⟨m,hm⟩:∃m,(roundE l (doneV v))[j.toNat]?=some m:=⟨_,List.getElem?_eq_getElem (by omega)⟩
    have hml:=round_lt (List.mem_of_getElem? hm)
    have hmi:(intsN (roundE l (doneV v)))[j.toNat]?=some ((m:Nat):Int):=by rw[intsN,List.getElem?_map,hm];rfl
    obtain⟨bq,hbq⟩:∃b,vq[m]?=some b:=⟨_,List.getElem?_eq_getElem (by omega)⟩
    have hsz:0+((m:Nat):Int).toNat*1+1≤curq.size:=by rw[hrq.siz];omega
    refine J_read0 1 rfl j.toNat (map_at hmi) (by kernel_rfl) (fun b1 off1 cs1 ty1 fz1 ha1 hrd1=>?_)
    cases ha1
    have hrd1_0:=rd0 (hrd1 0 _ rfl)
    try simp only[aQ]
    refine J_skip (J_seq (J_block ?_))
    refine Zn (Rds 0 3++[.rd 3 [] 0 2,.rd 4 [.r 0 (some (nI (↑m:Int)))] 0 0,zR 5,.rd 6 [] 0 2,.wr 7 [.o 1 (some (nI n))] 0]) [(7,[1])] [141] (fun _=>[]) (fun _=>[(1,.cells (curq.setIfInBounds (0+(↑m:Int).toNat*1) (nI n)) 3 (0,0))]) o0 (fun _=>(oC hj0 (oC hlt6 (oC hrd1_0 (oC (show(0:Int)≤(↑m:Int) from by omega) (oC (show(↑m:Int)<(↑l.length:Int) from by omega) (oC (show(nI n).oneCell'=true from ?_) (oC (show(0:Nat)+(↑m:Int).toNat*1<curq.size from by omega) oN)))))))) (fun _=>?_)
    ·rfl
    refine J_stp (stp_fact (v:=.int .i64 n) (d:=.v (.int .i64 n)) fun _ _ _=>.v rfl) ?_
    refine J_stp (stp_setrows 0 2 m 0 rfl (by rw[List.length_map,hql];exact hrq.len) (map_at hbq) (by decide) rfl) ?_
    rw[show(List.map eI vq).set m ((eI bq).set 0 (.v (.int .i64 n)))=List.map eI (vq.set m n) from List.map_set.symm]
    refine Nm [(cRows (xq.set (m*1+0) (nI n)) 1 (List.map eI (vq.set m n))),cAcc (.slice oa ok oc) 32 1 (List.map eRw R)] ?_
    try simp only[aQ]
    refine J_eb ?_
    refine Zp [zR 0,.rd 1 [] 0 1,zR 2] [] [zI 16 (j+1)] (oC (show IntKind.i64.wrap (j+1)=j+1 from wrap_i64 (by omega) (by omega)) oN) ?_
    refine J_backx ⟨j+1,vq.set m n,curq.setIfInBounds (0+((m:Nat):Int).toNat*1) (.int .i64 n),xq.set (m*1+0) (.int .i64 n)⟩ [0,2,3,6,8,9,10,11,12,16] [0,1] [0,1] [0,1] ?_ ?_ (by kernel_rfl) rfl rfl rfl
    ·refine⟨by simp only;omega,by simp only;omega,by simpa using hql,?_,fun y hy=>?_,?_⟩
     ·dsimp only
      rw[←take_snoc hj0 hm,markE_snoc,←hdq,doneV,doneV,List.map_set,decide_eq_true hn0]
     ·dsimp only at hy
      rcases List.mem_or_eq_of_mem_set hy with h1|h1
      ·exact hnq y h1
      ·omega
     ·dsimp only
      rw[Nat.zero_add]
      exact hrq.set1 _ _
    ·simp only
     omega
   have hje:j.toNat=(roundE l (doneV v)).length:=by have:=of_decide_eq_false hlt5;omega
   rw[hje,List.take_length]at hdq
   refine J_exit rfl ?_
   refine Zt (Rds 0 3++[.rd 3 [] 0 1,zR 4]) [141] [zI 9 (L - (↑(roundE l (doneV v)).length:Int))] (oC (show IntKind.i64.wrap (L - (↑(roundE l (doneV v)).length:Int))=L - (↑(roundE l (doneV v)).length:Int) from wrap_i64 (by omega) (by omega)) oN) ?_
   refine jT [(0,true),(1,true),(2,false),(3,false),(4,true)] [] ?_
   refine Ym [zR 0,zR 1,.wr 2 [] 0] [] (fun nu1=>[zS 155 oa ok oc,zS 157 (sA (nu1 0) 0) 1 1]) o0 (fun nu1=>[(nu1 0,.cells #[.slice av ((roundE l (doneV v)).length) cv] 32 (0,0))]) [] (fun nu1=>?_)
   refine JR_appm 1 112 32 1 24 (.slice none 0 0) (a0:=oa) (len:=ok) (cap0:=oc) (ax:=(some (⟨nu1 0,0,none⟩))) (m:=1) (c:=1) (dst:=(some 158)) [(roundE l (doneV v))] (by kernel_rfl) (by kernel_rfl) (by kernel_rfl) (by kernel_rfl) rfl (by decide) rfl (fun _ _ _ s=>src_one s 2 rfl rfl ⟨.inr (.inl (List.mem_of_getElem? (i:=1) rfl)),trivial⟩) (by simp only[maxLen];omega) (by omega) (fun av1 cv1=>?_)
   try simp only[aQ]
   refine Ya [zR 4] [158,155,157] [zS 8 av1 (ok+1) cv1] ?_
   try simp only[aQ]
   refine JR_end ?_
   try simp only[aQ]
   refine J_eb ?_
   try simp only[aQ]
   refine Zp [zR 0,.rd 1 [] 0 1,zR 2] [] [zI 10 (n+1)] (oC (show IntKind.i64.wrap (n+1)=n+1 from wrap_i64 (by omega) (by omega)) oN) ?_
   try simp only[aQ]
   refine J_backx ⟨n+1,L - (roundE l (doneV v)).length,_,ok+1,_,R++[roundE l (doneV v)],vq,curq,xq,f⟩ [0,2,3,6,8,9,10] [0,1] [0,1] [0] ?_ ?_ (by kernel_rfl) rfl rfl rfl
   ·refine⟨hql,hrq,by simp only;omega,by simp only[List.length_append,List.length_singleton];omega,by simp only;omega,by simp only[List.length_append,List.length_singleton];omega,hnq,?_⟩
    dsimp only
    rw[hdq,show(L - ((roundE l (doneV v)).length:Int)).toNat=L.toNat - (roundE l (doneV v)).length by omega]
    exact hwh
   ·simp only
    omega
 ·have hL0:L.toNat=0:=by have:=of_decide_eq_false hltL;omega
  have hwh:roundsE l l.length (l.map fun _=>false) l.length=(R,true):=by
   rw[hRI,hL0,rounds_zero,List.append_nil]
  refine J_exit rfl ?_
  refine jS [(0,true),(1,false),(2,true),(3,false)] [] ?_
  refine Ya [zR 0] [71,0,6,8,9,10] [zS 159 oa ok oc] ?_
  refine Yc 120 #[] (some 160) fun w S hG=>?_
  refine(rFine (S:=S)).mono ?_
  rintro e3 w3 hR
  refine⟨_,_,_,hR,?_⟩
  try simp only[aQ]
  refine Ym [zR 2,.wr 3 [.o 0 none,.o 0 none] 0] [160,159] (fun _=>[zS 2 oa ok oc]) (fun _=>[(0,.cells #[nI 0,nI (-1)] 105 (0,0))]) o0 [] (fun _=>?_)
  refine JR_end ?_
  refine Yr [[],[.o 0 none,.o 0 none]] (.tuple #[.slice oa ok oc,.agg #[nI 0,nI (-1)]]) fun a w s=>?_
  exact hQ _ _ (by rw[hwh];exact⟨_,_,_,(s.stp (stp_freeze 1 rfl)).ret (by simp) [] [1] rfl rfl⟩)
end Go.Proofs.YtmkapocibaojdaaGreatDoor
end
