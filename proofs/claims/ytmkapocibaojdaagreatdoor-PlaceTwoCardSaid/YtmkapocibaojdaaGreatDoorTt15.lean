/- Part 15 of the texts of a claim: PTwoE PTwo Tx9. -/
import Derived.Stop.LaidErr
import Derived.Below
import Derived.Carry
import Derived.ChangeSame
import Derived.OpenShut
import Derived.ChangeSlices
import Derived.Test.YtmkapocibaojdaaGreatDoorTt14
section
namespace Go.Proofs.YtmkapocibaojdaaGreatDoor
open Go Go.Sx
structure TwoC (sh:Nat) (x:Net) (n f t:Nat) (L:List MsgT) (P:Nat→Prop):Prop where
 b:TwoB sh x n
 ag:againMs (x.P f)=L
 came:∀k,P k→∀m,L[k]?=some m→Came sh x f t m
theorem againMs_hear {p:PlT} {m:MsgT} (hm:m.time≠-1):againMs (hearPl p m).2.2=againMs p:=by rw[againMs,hearPl_ss hm,againMs]
theorem TwoC.step {sh n f t k:Nat} {x:Net} {L:List MsgT} {P P':Nat→Prop} {m:MsgT} (h:TwoC sh x n f t L P) (hf:f<2) (ht:t<2) (hne:t≠f) (hm:L[k]?=some m) (hP:∀j,P' j→P j∨j=k) :
  TwoC sh (x.setP t (hearPl (x.P t) m).2.2) (n+1) f t L P'∧(hearPl (x.P t) m).1=0∧Fit m∧1≤m.seq∧m.seq≤n∧(∀f' t' z,Came sh x f' t' z→Came sh (x.setP t (hearPl (x.P t) m).2.2) f' t' z)∧againMs ((x.setP t (hearPl (x.P t) m).2.2).P t)=againMs (x.P t):=by
 have hmem:m∈againMs (x.P f):=by rw[h.ag];exact List.mem_of_getElem? hm
 obtain⟨h1,h2,h3,h4,h5,h6,h7⟩:=h.b.hear hf ht hne hmem
 have hs:=(h.b.sent hf ht hne hmem).fine h.b.sys.net hf ht hne
 refine⟨⟨h1,?_,fun j hj z hz=>?_⟩,h2,h3,h4,h5,h7,?_⟩
 ·rw[setP_ne _ _ (Ne.symm hne)]
  exact h.ag
 ·rcases hP j hj with hj|rfl
  ·exact h7 _ _ _ (h.came j hj z hz)
  ·rw[hm]at hz
   cases hz
   exact h6
 ·rw[setP_at]
  exact againMs_hear (by have:=hs.2.2.2.2.2;omega)
theorem TwoC.all {sh n f t:Nat} {x:Net} {L:List MsgT} {P:Nat→Prop} (h:TwoC sh x n f t L P) (hP:∀k,k<L.length→P k):CameAll sh x f t (againMs (x.P f)):=fun m hm=>by
 rw[h.ag]at hm
 obtain⟨k,hk⟩:=List.getElem?_of_mem hm
 exact h.came k (hP k (List.getElem?_eq_some_iff.1 hk).1) m hk
theorem again_len6 {x:PlT} {n:Nat} (hx:PlIn x n) (hp:x.places=2):(againMs x).length≤6*n:=by
 have h1:∀l:List SndT,(∀s∈l,s.l.length≤n)→((l.map (·.l)).flatten).length≤l.length*n:=by
  intro l
  induction l with
  | nil=>intro _;simp
  | cons a l ih=>
   intro h
   have h1:=h a (List.mem_cons_self ..)
   have h2:=ih fun s hs=>h s (List.mem_cons_of_mem _ hs)
   simp only[List.map_cons,List.flatten_cons,List.length_append,List.length_cons,Nat.add_mul]
   omega
 have h2:=h1 x.ss fun s hs=>(hx.snd s hs).2.2.2.2
 have hid:=hx.id
 have hs6:=hx.s6
 have h3:x.ss.length≤6:=by
  rw[hx.ssl.1,hp,posP_succ,posP_succ,posP_zero]
  split <;> split <;> omega
 exact Nat.le_trans h2 (Nat.mul_le_mul_right n h3)
set_option maxHeartbeats 8000000 in
theorem twoEnd {w0:World} {S0:Nat→Prop} {er:Nat→Addr} {eb:Nat→Array Value×TypeId} {sh n:Nat} {x:Net} {ky:ByteArray} {pb qb:Nat} (hI:Inj er) (hA:TwoA sh x n) (hn:n≤16) :
  J Tryz.prog Tryz.f6 (retR Tryz.prog Tryz.f6 fun e w'=>Ret [] (zero w0) S0 w' e (.bool true) [] []) Tryz.f6.ntmps [.c (.rg 19 false),.c (.seq (.rg 20 false) (.seq (.rg 21 false) (.seq (.seq (.rg 22 false) (.block 2 (.loop (.seq (.seq (.rg 23 false) (.cond (.tmp 146) .skip (.exit 2))) (.seq (.block 3 (.seq (.rg 25 false) (.seq (.rg 26 false) (.cond (.tmp 159) (.seq (.rg 27 false) .ret) .skip)))) (.rg 24 false)))))) (.seq (.rg 28 false) (.seq (.seq (.rg 29 false) (.block 4 (.loop (.seq (.seq (.rg 30 false) (.cond (.tmp 165) .skip (.exit 4))) (.seq (.block 5 (.seq (.rg 32 false) (.seq (.rg 33 false) (.cond (.tmp 178) (.seq (.rg 34 false) .ret) .skip)))) (.rg 31 false)))))) (.seq (.seq (.rg 35 false) (.cond (.tmp 184) (.seq (.rg 36 false) .ret) .skip)) (.seq (.rg 37 false) (.seq (.rg 38 false) (.seq (.seq (.rg 39 false) (.cond (.tmp 206) (.seq (.rg 40 false) .ret) .skip)) (.seq (.rg 41 false) .ret))))))))))] [(3,.val (.string ky)),(8,.val (.bool false)),(10,.val (.pointer (some ⟨pb,0,none⟩))),(12,.val (.pointer (some ⟨qb,0,none⟩)))] [] [] [([],zero w0)] ⟨newS S0 [] w0,[cPlace pb (x.P 0),cPlace qb (x.P 1)],[(.nilIface,dC er eb)]⟩:=by
 have hB:=hA.beat (by omega)
 have hx0:=hA.sys.net.pin 0 (by decide)
 have hx1:=hA.sys.net.pin 1 (by decide)
 have hb0:=beat_in hx0
 refine jT [(0,true),(1,false)] [] ?_
 refine Ya [zR 0] [] [zP 136 pb] ?_
 refine JR_call [] [0] 23 #[.pointer (some (⟨pb,0,none⟩))] (some 137) (by kernel_rfl) (by kernel_rfl) (by decide) (fun w S M hP hG _=>?_)
 refine(placeBeat (n:=n) (hG.at 0 rfl) hP hx0 (by omega)).mono ?_
 rintro e1 w1 ⟨u1,d1,hR⟩
 refine⟨_,_,_,hR,?_⟩
 try simp only[aQ]
 refine JR_end ?_
 try simp only[aQ]
 refine J_seq ?_
 try simp only[aQ]
 refine jT [(0,true),(1,false)] [] ?_
 refine Ya [zR 0] [137,136] [zP 138 qb] ?_
 refine JR_call [] [0] 23 #[.pointer (some (⟨qb,0,none⟩))] (some 139) (by kernel_rfl) (by kernel_rfl) (by decide) (fun w S M hP hG _=>?_)
 refine(placeBeat (n:=n) (hG.at 0 rfl) hP hx1 (by omega)).mono ?_
 rintro e2 w2 ⟨u2,d2,hR⟩
 refine⟨_,_,_,hR,?_⟩
 try simp only[aQ]
 refine JR_end ?_
 try simp only[aQ]
 refine J_seq ?_
 try simp only[aQ]
 refine jT [(0,true),(1,false),(2,true)] [] ?_
 refine Ya [zR 0] [139,138] [zP 140 pb] ?_
 refine JR_call [] [0] 29 #[.pointer (some (⟨pb,0,none⟩))] (some 141) (by kernel_rfl) (by kernel_rfl) (by decide) (fun w S M hP hG _=>?_)
 refine(placeAgain (n:=n+1) hP hb0 (by omega)).mono ?_
 rintro e3 w3 ⟨u3,d3,hR⟩
 refine⟨_,_,_,hR,?_⟩
 have hb1:=beat_in hx1
 have hl6:=again_len6 hb0 (hA.sys.net.pid 0 (by decide)).2.1
 have hk6:=again_len6 hb1 (hA.sys.net.pid 1 (by decide)).2.1
 generalize hL:againMs (beatPl (x.P 0))=L at hl6 ⊢
 generalize hK:againMs (beatPl (x.P 1))=K at hk6
 have hC0:TwoC sh (netBeat (netBeat x 0) 1) (n+2) 0 1 L fun k=>(L.length:Int) - 1<k:=⟨hB,hL,fun k hk m hm=>by
  have:=(List.getElem?_eq_some_iff.1 hm).1
  omega⟩
 try simp only[aQ]
 refine Ya [zR 2] [141,140] [zS 15 u3 L.length d3] ?_
 try simp only[aQ]
 refine JR_end ?_
 try simp only[aQ]
 refine J_seq ?_
 try simp only[aQ]
 refine J_seq ?_
 try simp only[aQ]
 refine Zp [zR 0,zR 1,.rd 2 [] 0 1,zR 3] [] [zI 16 ((↑L.length:Int) - 1)] (oC (show IntKind.i64.wrap ((↑L.length:Int) - 1)=(↑L.length:Int) - 1 from wrap_i64 (by omega) (by omega)) oN) ?_
 try simp only[aQ]
 refine J_block ?_
 try simp only[aQ]
 refine J_loopx (fun z:NetS=>[zV 3 (.string ky),zB 8 false,zP 10 pb,zP 12 qb,zS 15 u3 L.length d3,zI 16 z.i]) (fun z:NetS=>[]) (fun z:NetS=>[cPlace qb (z.x.P 1),cPlace pb (z.x.P 0)]) (fun z:NetS=>[(.nilIface,(dC er eb)),(.slice u3 L.length d3,(D.sl 9 (List.map eMsg L)))]) (fun z:NetS=>(z.i+1).toNat) (fun z:NetS=>(-1≤z.i∧z.i<L.length∧TwoC sh z.x (n+2+(L.length - 1 - z.i).toNat) 0 1 L (fun k=>z.i<k)∧againMs (z.x.P 1)=K)) ⟨(L.length:Int) - 1,netBeat (netBeat x 0) 1⟩ [3,8,10,12,15,16] [] [0,1] [0,3] ?_ (by kernel_rfl) rfl rfl rfl ?_
 ·refine⟨by simp only;omega,by simp only;omega,?_,hK⟩
  dsimp only
  rw[show(L.length:Int) - 1 - ((L.length:Int) - 1)=0 by omega]
  exact hC0
 clear hB hC0
 rintro⟨i,x⟩ ⟨hi0,hi,hC1,hk⟩
 dsimp only at hi0 hi hC1 hk ⊢
 refine J_seq ?_
 refine Zs [zR 0,zR 1] [] [zB 146 (decide (i≥0))] ?_
 refine cC (t:=decide (i≥0)) (fun hlt=>?_) (fun hlt=>?_)
 ·have hlt2:0≤i:=by simpa using hlt
  obtain⟨m,hm⟩:∃m,L[i.toNat]?=some m:=⟨_,List.getElem?_eq_getElem (by omega)⟩
  obtain⟨hC2,he0,hfit,hsq1,hsq2,_,hag⟩:=hC1.step (P':=fun k=>i - 1<k) (by decide) (by decide) (by decide) hm (fun j hj=>by omega)
  refine J_read2 1 rfl i.toNat (map_at hm) (by kernel_rfl) (fun b1 off1 cs1 ty1 fz1 a1_0 c1_0 a1_1 c1_1 ha1 hrd1=>?_)
  cases ha1
  have hrd1_0:=rd0 (hrd1 0 _ rfl)
  have hrd1_1:=hrd1 1 _ rfl
  have hrd1_2:=hrd1 2 _ rfl
  have hrd1_3:=hrd1 3 _ rfl
  have hrd1_4:=hrd1 4 _ rfl
  have hrd1_5:=hrd1 5 _ rfl
  have hrd1_6:=hrd1 6 _ rfl
  have hrd1_7:=hrd1 7 _ rfl
  have hrd1_8:=hrd1 8 _ rfl
  try simp only[aQ]
  refine J_skip (J_seq (J_block ?_))
  refine jS [(0,true),(1,true),(2,true),(3,true),(4,true),(5,false),(6,true),(7,true),(8,true),(9,true),(10,true)] [] ?_
  refine Yp (Rds 0 3++[.rd 3 [] 0 2,.rd 4 [.r 0 (some (nI m.fm)),.r 0 (some (nI m.to)),.r 0 (some (nI m.shard)),.r 0 (some (nI m.seq)),.r 0 (some (nI m.time)),.r 0 (some (.bool m.beat)),.r 0 (some (.slice (a1_0,c1_0).fst ((List.map eI m.c.when).length) c1_0)),.r 0 (some (nI m.c.place)),.r 0 (some (.slice (a1_1,c1_1).fst ((List.map eOp m.c.ops).length) c1_1))] 0 0]) [146] [zP 150 qb,zV 154 (.agg #[nI m.fm,nI m.to,nI m.shard,nI m.seq,nI m.time,.bool m.beat,.slice (a1_0,c1_0).fst ((List.map eI m.c.when).length) c1_0,nI m.c.place,.slice (a1_1,c1_1).fst ((List.map eOp m.c.ops).length) c1_1])] (oC hlt2 (oC hi (oC hrd1_0 (oC hrd1_1 (oC hrd1_2 (oC hrd1_3 (oC hrd1_4 (oC hrd1_5 (oC hrd1_6 (oC hrd1_7 (oC hrd1_8 oN))))))))))) ?_
  refine JR_call [] [0] 24 #[.pointer (some (⟨qb,0,none⟩)),.agg #[.int .i64 m.fm,.int .i64 m.to,.int .i64 m.shard,.int .i64 m.seq,.int .i64 m.time,.bool m.beat,.slice (a1_0,c1_0).fst ((List.map eI m.c.when).length) c1_0,.int .i64 m.c.place,.slice (a1_1,c1_1).fst ((List.map eOp m.c.ops).length) c1_1]] (some 155) (by kernel_rfl) (by kernel_rfl) (by decide) (fun w S M hP hG _=>?_)
  refine(placeHear (m:=m) (n:=n+2+(L.length - 1 - i).toNat) (hG.at 0 rfl) hP (hC1.b.sys.net.pin 1 (by decide)) (by omega) (hG.at 2 rfl) (hG.at 3 rfl) hfit (by omega)).mono ?_
  rintro e4 w4 ⟨ua,un,uc,v,hR,hv⟩
  rw[he0]at hv
  obtain⟨_,rfl⟩|⟨h,_⟩:=hv
  case inr=>exact absurd rfl h
  rw[show cPlace qb (hearPl (x.P 1) m).2.2=cPlace qb ((x.setP 1 (hearPl (x.P 1) m).2.2).P 1)by rw[setP_at]]at hR
  refine⟨_,_,_,hR,?_⟩
  rw[show cPlace pb (x.P 0)=cPlace pb ((x.setP 1 (hearPl (x.P 1) m).2.2).P 0)by rw[setP_ne _ _ (by decide)]]
  try simp only[aQ]
  refine Ya (Rds 6 11) [155,150,154] [zV 18 .nilIface] ?_
  try simp only[aQ]
  refine JR_end ?_
  try simp only[aQ]
  refine J_seq ?_
  try simp only[aQ]
  refine Za [zR 0,zR 1] [] [zB 159 false] ?_
  try simp only[aQ]
  refine cF ?_
  try simp only[aQ]
  refine J_skip ?_
  try simp only[aQ]
  refine J_eb ?_
  try simp only[aQ]
  refine Zp [zR 0,.rd 1 [] 0 1,zR 2] [159] [zI 16 (i - 1)] (oC (show IntKind.i64.wrap (i - 1)=i - 1 from wrap_i64 (by omega) (by omega)) oN) ?_
  try simp only[aQ]
  refine J_backx ⟨i - 1,x.setP 1 (hearPl (x.P 1) m).2.2⟩ [3,8,10,12,15,16] [] [1,0] [0,1] ?_ ?_ (by kernel_rfl) rfl rfl rfl
  ·refine⟨by simp only;omega,by simp only;omega,?_,hag.trans hk⟩
   dsimp only
   rw[show(L.length - 1 - (i - 1)).toNat=(L.length - 1 - i).toNat+1 by omega]
   exact hC2
  ·simp only
   omega
 have him:i = -1:=by
  have:=of_decide_eq_false hlt
  omega
 subst him
 have h0:CameAll sh x 0 1 (againMs (x.P 0)):=hC1.all fun k _=>by omega
 have hN:=hC1.b.mono (show n+2+(L.length - 1 - (-1:Int)).toNat≤140 by omega)
 have hC3:TwoC sh x 140 1 0 K fun k=>(k:Int)<0:=⟨hN,hk,fun k hk=>by omega⟩
 refine J_exit rfl ?_
 refine jS [(0,true),(1,false),(2,true)] [] ?_
 refine Ya [zR 0] [146,15,16] [zP 160 qb] ?_
 refine JR_call [] [0] 29 #[.pointer (some (⟨qb,0,none⟩))] (some 161) (by kernel_rfl) (by kernel_rfl) (by decide) (fun w S M hP hG _=>?_)
 refine(placeAgain (n:=140) hP (hN.sys.net.pin 1 (by decide)) (by omega)).mono ?_
 rintro e5 w5 ⟨u5,d5,hR⟩
 refine⟨_,_,_,hR,?_⟩
 rw[hk]
 try simp only[aQ]
 refine Ya [zR 2] [161,160] [zS 19 u5 K.length d5] ?_
 try simp only[aQ]
 refine JR_end ?_
 try simp only[aQ]
 refine J_seq ?_
 try simp only[aQ]
 refine J_seq ?_
 try simp only[aQ]
 refine Za [zR 0] [] [zI 20 0] ?_
 try simp only[aQ]
 refine J_block ?_
 try simp only[aQ]
 refine J_loopx (fun z:NetS=>[zV 3 (.string ky),zB 8 false,zP 10 pb,zP 12 qb,zS 19 u5 K.length d5,zI 20 z.i]) (fun z:NetS=>[]) (fun z:NetS=>[cPlace pb (z.x.P 0),cPlace qb (z.x.P 1)]) (fun z:NetS=>[(.nilIface,(dC er eb)),(.slice u3 L.length d3,(D.sl 9 (List.map eMsg L))),(.slice u5 K.length d5,(D.sl 9 (List.map eMsg K)))]) (fun z:NetS=>(K.length - z.i).toNat) (fun z:NetS=>(0≤z.i∧z.i≤K.length∧TwoC sh z.x (140+z.i.toNat) 1 0 K (fun k=>(k:Int)<z.i)∧CameAll sh z.x 0 1 (againMs (z.x.P 0)))) ⟨0,x⟩ [3,8,10,12,19,20] [] [0,1] [0,1,2] ?_ (by kernel_rfl) rfl rfl rfl ?_
 ·exact⟨by simp,by simp,hC3,h0⟩
 clear hC3 h0 hN hC1 hk
 rintro⟨i,x⟩ ⟨hi0,hi,hC1,h0⟩
 dsimp only at hi0 hi hC1 h0 ⊢
 refine J_seq ?_
 refine Zs (Rds 0 4) [] [zB 165 (decide (i<(↑K.length:Int)))] ?_
 refine cC (t:=decide (i<(↑K.length:Int))) (fun hlt=>?_) (fun hlt=>?_)
 ·have hlt2:i<K.length:=of_decide_eq_true hlt
  obtain⟨m,hm⟩:∃m,K[i.toNat]?=some m:=⟨_,List.getElem?_eq_getElem (by omega)⟩
  obtain⟨hC2,he0,hfit,hsq1,hsq2,hcm,hag⟩:=hC1.step (P':=fun k=>(k:Int)<i+1) (by decide) (by decide) (by decide) hm (fun j hj=>by omega)
  refine J_read2 2 rfl i.toNat (map_at hm) (by kernel_rfl) (fun b1 off1 cs1 ty1 fz1 a1_0 c1_0 a1_1 c1_1 ha1 hrd1=>?_)
  cases ha1
  have hrd1_0:=rd0 (hrd1 0 _ rfl)
  have hrd1_1:=hrd1 1 _ rfl
  have hrd1_2:=hrd1 2 _ rfl
  have hrd1_3:=hrd1 3 _ rfl
  have hrd1_4:=hrd1 4 _ rfl
  have hrd1_5:=hrd1 5 _ rfl
  have hrd1_6:=hrd1 6 _ rfl
  have hrd1_7:=hrd1 7 _ rfl
  have hrd1_8:=hrd1 8 _ rfl
  refine Nm [(cPlace pb (x.P 0)),(cPlace qb (x.P 1))] ?_
  try simp only[aQ]
  refine J_skip (J_seq (J_block ?_))
  refine jS [(0,true),(1,true),(2,true),(3,true),(4,true),(5,false),(6,true),(7,true),(8,true),(9,true),(10,true)] [] ?_
  refine Yp (Rds 0 3++[.rd 3 [] 0 2,.rd 4 [.r 0 (some (nI m.fm)),.r 0 (some (nI m.to)),.r 0 (some (nI m.shard)),.r 0 (some (nI m.seq)),.r 0 (some (nI m.time)),.r 0 (some (.bool m.beat)),.r 0 (some (.slice (a1_0,c1_0).fst ((List.map eI m.c.when).length) c1_0)),.r 0 (some (nI m.c.place)),.r 0 (some (.slice (a1_1,c1_1).fst ((List.map eOp m.c.ops).length) c1_1))] 0 0]) [165] [zP 169 pb,zV 173 (.agg #[nI m.fm,nI m.to,nI m.shard,nI m.seq,nI m.time,.bool m.beat,.slice (a1_0,c1_0).fst ((List.map eI m.c.when).length) c1_0,nI m.c.place,.slice (a1_1,c1_1).fst ((List.map eOp m.c.ops).length) c1_1])] (oC hi0 (oC hlt2 (oC hrd1_0 (oC hrd1_1 (oC hrd1_2 (oC hrd1_3 (oC hrd1_4 (oC hrd1_5 (oC hrd1_6 (oC hrd1_7 (oC hrd1_8 oN))))))))))) ?_
  refine JR_call [] [0] 24 #[.pointer (some (⟨pb,0,none⟩)),.agg #[.int .i64 m.fm,.int .i64 m.to,.int .i64 m.shard,.int .i64 m.seq,.int .i64 m.time,.bool m.beat,.slice (a1_0,c1_0).fst ((List.map eI m.c.when).length) c1_0,.int .i64 m.c.place,.slice (a1_1,c1_1).fst ((List.map eOp m.c.ops).length) c1_1]] (some 174) (by kernel_rfl) (by kernel_rfl) (by decide) (fun w S M hP hG _=>?_)
  refine(placeHear (m:=m) (n:=140+i.toNat) (hG.at 0 rfl) hP (hC1.b.sys.net.pin 0 (by decide)) (by omega) (hG.at 3 rfl) (hG.at 4 rfl) hfit (by omega)).mono ?_
  rintro e4 w4 ⟨ua,un,uc,v,hR,hv⟩
  rw[he0]at hv
  obtain⟨_,rfl⟩|⟨h,_⟩:=hv
  case inr=>exact absurd rfl h
  rw[show cPlace pb (hearPl (x.P 0) m).2.2=cPlace pb ((x.setP 0 (hearPl (x.P 0) m).2.2).P 0)by rw[setP_at]]at hR
  refine⟨_,_,_,hR,?_⟩
  rw[show cPlace qb (x.P 1)=cPlace qb ((x.setP 0 (hearPl (x.P 0) m).2.2).P 1)by rw[setP_ne _ _ (by decide)]]
  try simp only[aQ]
  refine Ya (Rds 6 11) [174,169,173] [zV 22 .nilIface] ?_
  try simp only[aQ]
  refine JR_end ?_
  try simp only[aQ]
  refine J_seq ?_
  try simp only[aQ]
  refine Za [zR 0,zR 1] [] [zB 178 false] ?_
  try simp only[aQ]
  refine cF ?_
  try simp only[aQ]
  refine J_skip ?_
  try simp only[aQ]
  refine J_eb ?_
  try simp only[aQ]
  refine Zp [zR 0,.rd 1 [] 0 1,zR 2] [178] [zI 20 (i+1)] (oC (show IntKind.i64.wrap (i+1)=i+1 from wrap_i64 (by omega) (by omega)) oN) ?_
  try simp only[aQ]
  refine J_backx ⟨i+1,x.setP 0 (hearPl (x.P 0) m).2.2⟩ [3,8,10,12,19,20] [] [1,0] [0,1,2] ?_ ?_ (by kernel_rfl) rfl rfl rfl
  ·refine⟨by simp only;omega,by simp only;omega,?_,fun z hz=>?_⟩
   ·dsimp only
    rw[show(i+1).toNat=i.toNat+1 by omega]
    exact hC2
   ·dsimp only at hz
    rw[hag]at hz
    exact hcm _ _ _ (h0 z hz)
  ·simp only
   omega
 have hie:i=K.length:=by
  have:=of_decide_eq_false hlt
  omega
 subst hie
 have h1:CameAll sh x 1 0 (againMs (x.P 1)):=hC1.all fun k hk=>by omega
 have hsn:=hC1.b.end h0 h1
 have hN:=hC1.b.mono (show 140+((K.length:Nat):Int).toNat≤300 by omega)
 have hp0:=hN.sys.net.pin 0 (by decide)
 have hp1:=hN.sys.net.pin 1 (by decide)
 have hl0:=snapL_len (x.P 0)
 have hl1:=snapL_len (x.P 1)
 have hz0:=hp0.p6
 have hz1:=hp1.p6
 have hval:=hN.same hsn ky
 refine J_exit rfl ?_
 refine J_seq ?_
 refine jS [(0,true),(1,false),(2,true),(3,false),(4,false),(5,true)] [] ?_
 refine Ya [zR 0] [165,19,20] [zP 179 pb] ?_
 refine JR_call [] [0] 19 #[.pointer (some (⟨pb,0,none⟩))] (some 180) (by kernel_rfl) (by kernel_rfl) (by decide) (fun w S M hP hG _=>?_)
 refine(placeSnapshot hP hp0.toPlOk).mono ?_
 rintro e6 w6 ⟨a6,n6,c6,hR⟩
 refine⟨_,_,_,hR,?_⟩
 try simp only[aQ]
 refine Ya [zR 2] [179] [zP 181 qb] ?_
 try simp only[aQ]
 refine JR_call [] [0] 19 #[.pointer (some (⟨qb,0,none⟩))] (some 182) (by kernel_rfl) (by kernel_rfl) (by decide) (fun w S M hP hG _=>?_)
 refine(placeSnapshot hP hp1.toPlOk).mono ?_
 rintro e7 w7 ⟨a7,n7,c7,hR⟩
 refine⟨_,_,_,hR,?_⟩
 try simp only[aQ]
 refine Yc 18 #[.slice a6 n6 c6,.slice a7 n7 c7] (some 183) fun w S hG=>?_
 refine(sameInts (hG.at 3 rfl) (hG.at 4 rfl) (by omega)).mono ?_
 rintro e8 w8 hR
 rw[decide_eq_true hsn]at hR
 refine⟨_,_,_,hR,?_⟩
 try simp only[aQ]
 refine Ya [zR 5] [183,182,181,180] [zB 184 false] ?_
 try simp only[aQ]
 refine JR_end ?_
 try simp only[aQ]
 refine cF ?_
 try simp only[aQ]
 refine J_skip ?_
 try simp only[aQ]
 refine J_seq ?_
 try simp only[aQ]
 refine Nm [(cPlace pb (x.P 0)),(cPlace qb (x.P 1))] ?_
 cases hnm:nameOk ky with
 | false=>
  have hk4:∀p at',readK p ky at'=4:=fun p at'=>by
   have h4:readErr p ky at'=4:=by rw[readErr,if_neg (by simp[hnm])]
   rw[readK,h4,if_pos (by decide)]
  refine jT [(0,true),(1,true),(2,true),(3,false),(4,false),(5,true),(6,true),(7,true),(8,false),(9,false),(10,true)] [] ?_
  refine Ya (Rds 0 3) [184,10] [zP 186 pb,zV 187 (.string ky),zP 188 pb] ?_
  refine JR_call [] [0] 19 #[.pointer (some (⟨pb,0,none⟩))] (some 189) (by kernel_rfl) (by kernel_rfl) (by decide) (fun w S M hP hG _=>?_)
  refine(placeSnapshot hP hp0.toPlOk).mono ?_
  rintro e9 w9 ⟨a9,n9,c9,hR⟩
  refine⟨_,_,_,hR,?_⟩
  try simp only[aQ]
  refine JR_callz [] [1] 25 #[.pointer (some (⟨pb,0,none⟩)),.string ky,.slice a9 n9 c9] (some 190) zero_all (by kernel_rfl) (by kernel_rfl) (by decide) (fun w S M hP hG _=>?_)
  refine(placeRead (n:=300) (at':=snapL (x.P 0)) (key:=ky) (hG.at 0 rfl) hP hp0 (by omega) (hG.at 5 rfl) (by omega)).mono ?_
  rintro e10 w10 (⟨_,hR⟩|⟨h,_⟩)
  case inr=>rw[hk4]at h;cases h
  rw[hk4]at hR
  refine⟨_,_,_,hR,?_⟩
  try simp only[aQ]
  refine Ym (Rds 5 8++[.wr 8 [] 0,.wr 9 (hnO 0 4) 0,zR 10]) [190,189,186,187,188] (fun nu1=>[zV 11 (.iface 390 (.pointer (some (er 4)))),zP 23 (nu1 0)]) o0 (fun nu1=>[(nu1 0,.cells #[nI 0,.string (ByteArray.mk #[]),nI 0,.slice none 0 0] 64 (0,0))]) [] (fun nu1=>?_)
  try simp only[aQ]
  refine JR_end ?_
  try simp only[aQ]
  refine J_seq ?_
  try simp only[aQ]
  refine jT [(0,true),(1,true),(2,true),(3,false),(4,false),(5,true),(6,true),(7,true),(8,false),(9,false),(10,true)] [] ?_
  refine Ya (Rds 0 3) [3,12] [zP 194 qb,zV 195 (.string ky),zP 196 qb] ?_
  refine JR_call [] [0] 19 #[.pointer (some (⟨qb,0,none⟩))] (some 197) (by kernel_rfl) (by kernel_rfl) (by decide) (fun w S M hP hG _=>?_)
  refine(placeSnapshot hP hp1.toPlOk).mono ?_
  rintro e11 w11 ⟨a11,n11,c11,hR⟩
  refine⟨_,_,_,hR,?_⟩
  try simp only[aQ]
  refine JR_callz [] [1] 25 #[.pointer (some (⟨qb,0,none⟩)),.string ky,.slice a11 n11 c11] (some 198) zero_all (by kernel_rfl) (by kernel_rfl) (by decide) (fun w S M hP hG _=>?_)
  refine(placeRead (n:=300) (at':=snapL (x.P 1)) (key:=ky) (hG.at 0 rfl) hP hp1 (by omega) (hG.at 6 rfl) (by omega)).mono ?_
  rintro e12 w12 (⟨_,hR⟩|⟨h,_⟩)
  case inr=>rw[hk4]at h;cases h
  rw[hk4]at hR
  refine⟨_,_,_,hR,?_⟩
  try simp only[aQ]
  refine Ym (Rds 5 8++[.wr 8 [] 0,.wr 9 (hnO 1 4) 0,zR 10]) [198,197,194,195,196] (fun nu2=>[zV 13 (.iface 390 (.pointer (some (er 4)))),zP 24 (nu2 0)]) o0 (fun nu2=>[(nu2 0,.cells #[nI 0,.string (ByteArray.mk #[]),nI 0,.slice none 0 0] 64 (0,0))]) [] (fun nu2=>?_)
  try simp only[aQ]
  refine JR_end ?_
  try simp only[aQ]
  refine J_seq ?_
  try simp only[aQ]
  refine J_seq ?_
  try simp only[aQ]
  refine Za (Rds 0 3++[.rd 3 [] 1 0,.rd 4 [] 1 0,zR 5]) [] [zB 206 true] ?_
  try simp only[aQ]
  refine cTt ?_
  try simp only[aQ]
  refine J_seq ?_
  try simp only[aQ]
  refine jT [(0,true),(1,false),(2,true),(3,true),(4,false),(5,true),(6,true)] [] ?_
  refine Ya [zR 0] [206,11] [zV 207 (.iface 390 (.pointer (some (er 4))))] ?_
  refine Yc 13 #[.iface 390 (.pointer (some (er 4))),nI 4] (some 208) fun w S hG=>?_
  refine(codedErr (k:=4) (c:=4) (hG.at 0 rfl) hI (by decide) (.inr ⟨by decide,rfl⟩)).mono ?_
  rintro e13 w13 hR
  refine⟨_,_,_,hR,?_⟩
  try simp only[aQ]
  refine Ya [zR 2,zR 3] [208,207,13] [zB 209 true,zV 210 (.iface 390 (.pointer (some (er 4))))] ?_
  try simp only[aQ]
  refine Yc 13 #[.iface 390 (.pointer (some (er 4))),nI 4] (some 211) fun w S hG=>?_
  refine(codedErr (k:=4) (c:=4) (hG.at 0 rfl) hI (by decide) (.inr ⟨by decide,rfl⟩)).mono ?_
  rintro e14 w14 hR
  refine⟨_,_,_,hR,?_⟩
  try simp only[aQ]
  refine Ya [zR 5,zR 6] [211,209,210] [zB 8 true] ?_
  try simp only[aQ]
  refine JR_end ?_
  try simp only[aQ]
  refine Yr [[]] (.bool true) fun a w s=>?_
  exact s.retz (by simp) [] [] rfl rfl
 | true=>
  have hk0:=readK_snap hp0.toPlOk (hN.sys.net.base 0 (by decide) 0 (by decide)) hnm
  have hvl:=valOf_len (withinC_fine (at':=snapL (x.P 0)) hnm hp0.put)
  have hwl:=withinC_len (x.P 0).L ky (snapL (x.P 0))
  have hpl:=hp0.len
  have hk1:=readK_snap hp1.toPlOk (hN.sys.net.base 1 (by decide) 1 (by decide)) hnm
  refine jT [(0,true),(1,true),(2,true),(3,false),(4,false),(5,true),(6,true),(7,true),(8,false),(9,false),(10,true)] [] ?_
  refine Ya (Rds 0 3) [184,10] [zP 186 pb,zV 187 (.string ky),zP 188 pb] ?_
  refine JR_call [] [0] 19 #[.pointer (some (⟨pb,0,none⟩))] (some 189) (by kernel_rfl) (by kernel_rfl) (by decide) (fun w S M hP hG _=>?_)
  refine(placeSnapshot hP hp0.toPlOk).mono ?_
  rintro e9 w9 ⟨a9,n9,c9,hR⟩
  refine⟨_,_,_,hR,?_⟩
  try simp only[aQ]
  refine JR_callz [] [1] 25 #[.pointer (some (⟨pb,0,none⟩)),.string ky,.slice a9 n9 c9] (some 190) zero_all (by kernel_rfl) (by kernel_rfl) (by decide) (fun w S M hP hG _=>?_)
  refine(placeRead (n:=300) (at':=snapL (x.P 0)) (key:=ky) (hG.at 0 rfl) hP hp0 (by omega) (hG.at 5 rfl) (by omega)).mono ?_
  rintro e10 w10 (⟨h,_⟩|⟨_,ua,un,uc,hR⟩)
  ·exact absurd hk0 h
  refine⟨_,_,_,hR,?_⟩
  try simp only[aQ]
  refine Ym (Rds 5 8++[.wr 8 [] 0,.wr 9 (hnO 0 4) 0,zR 10]) [190,189,186,187,188] (fun nu1=>[zV 11 .nilIface,zP 23 (nu1 0)]) o0 (fun nu1=>[(nu1 0,.cells #[nI ((Sx.valOf ky (withinC (x.P 0).L ky (snapL (x.P 0)))).kind),.string ((Sx.valOf ky (withinC (x.P 0).L ky (snapL (x.P 0)))).text),nI ((Sx.valOf ky (withinC (x.P 0).L ky (snapL (x.P 0)))).n),.slice ua un uc] 64 (0,0))]) [] (fun nu1=>?_)
  try simp only[aQ]
  refine JR_end ?_
  try simp only[aQ]
  refine J_seq ?_
  try simp only[aQ]
  refine jT [(0,true),(1,true),(2,true),(3,false),(4,false),(5,true),(6,true),(7,true),(8,false),(9,false),(10,true)] [] ?_
  refine Ya (Rds 0 3) [3,12] [zP 194 qb,zV 195 (.string ky),zP 196 qb] ?_
  refine JR_call [] [0] 19 #[.pointer (some (⟨qb,0,none⟩))] (some 197) (by kernel_rfl) (by kernel_rfl) (by decide) (fun w S M hP hG _=>?_)
  refine(placeSnapshot hP hp1.toPlOk).mono ?_
  rintro e11 w11 ⟨a11,n11,c11,hR⟩
  refine⟨_,_,_,hR,?_⟩
  try simp only[aQ]
  refine JR_callz [] [1] 25 #[.pointer (some (⟨qb,0,none⟩)),.string ky,.slice a11 n11 c11] (some 198) zero_all (by kernel_rfl) (by kernel_rfl) (by decide) (fun w S M hP hG _=>?_)
  refine(placeRead (n:=300) (at':=snapL (x.P 1)) (key:=ky) (hG.at 0 rfl) hP hp1 (by omega) (hG.at 7 rfl) (by omega)).mono ?_
  rintro e12 w12 (⟨h,_⟩|⟨_,ub,um,ud,hR⟩)
  ·exact absurd hk1 h
  rw[←hval]at hR
  refine⟨_,_,_,hR,?_⟩
  try simp only[aQ]
  refine Ym (Rds 5 8++[.wr 8 [] 0,.wr 9 (hnO 1 4) 0,zR 10]) [198,197,194,195,196] (fun nu2=>[zV 13 .nilIface,zP 24 (nu2 0)]) o0 (fun nu2=>[(nu2 0,.cells #[nI ((Sx.valOf ky (withinC (x.P 0).L ky (snapL (x.P 0)))).kind),.string ((Sx.valOf ky (withinC (x.P 0).L ky (snapL (x.P 0)))).text),nI ((Sx.valOf ky (withinC (x.P 0).L ky (snapL (x.P 0)))).n),.slice ub um ud] 64 (0,0))]) [] (fun nu2=>?_)
  try simp only[aQ]
  refine JR_end ?_
  try simp only[aQ]
  refine J_seq ?_
  try simp only[aQ]
  refine J_seq ?_
  try simp only[aQ]
  refine Za (Rds 0 6) [] [zB 206 false] ?_
  try simp only[aQ]
  refine cF ?_
  try simp only[aQ]
  refine J_skip ?_
  try simp only[aQ]
  refine J_seq ?_
  try simp only[aQ]
  refine jT [(0,true),(1,true),(2,false),(3,true)] [] ?_
  refine Ya [.rd 0 (hnO 0 4) 0 0,.rd 1 (hnO 1 4) 0 0] [206,13,24,11,23] [zV 213 (.agg #[nI ((Sx.valOf ky (withinC (x.P 0).L ky (snapL (x.P 0)))).kind),.string ((Sx.valOf ky (withinC (x.P 0).L ky (snapL (x.P 0)))).text),nI ((Sx.valOf ky (withinC (x.P 0).L ky (snapL (x.P 0)))).n),.slice ua un uc]),zV 214 (.agg #[nI ((Sx.valOf ky (withinC (x.P 0).L ky (snapL (x.P 0)))).kind),.string ((Sx.valOf ky (withinC (x.P 0).L ky (snapL (x.P 0)))).text),nI ((Sx.valOf ky (withinC (x.P 0).L ky (snapL (x.P 0)))).n),.slice ub um ud])] ?_
  refine Yc 30 #[.agg #[nI ((Sx.valOf ky (withinC (x.P 0).L ky (snapL (x.P 0)))).kind),.string ((Sx.valOf ky (withinC (x.P 0).L ky (snapL (x.P 0)))).text),nI ((Sx.valOf ky (withinC (x.P 0).L ky (snapL (x.P 0)))).n),.slice ua un uc],.agg #[nI ((Sx.valOf ky (withinC (x.P 0).L ky (snapL (x.P 0)))).kind),.string ((Sx.valOf ky (withinC (x.P 0).L ky (snapL (x.P 0)))).text),nI ((Sx.valOf ky (withinC (x.P 0).L ky (snapL (x.P 0)))).n),.slice ub um ud]] (some 215) fun w S hG=>?_
  refine(sameValue_eq (v:=Sx.valOf ky (withinC (x.P 0).L ky (snapL (x.P 0)))) (hG.at 6 rfl) (hG.at 8 rfl) (by omega)).mono ?_
  rintro e13 w13 hR
  refine⟨_,_,_,hR,?_⟩
  try simp only[aQ]
  refine Ya [zR 3] [215,213,214] [zB 8 true] ?_
  try simp only[aQ]
  refine JR_end ?_
  try simp only[aQ]
  refine Yr [[]] (.bool true) fun a w s=>?_
  exact s.retz (by simp) [] [] rfl rfl
end Go.Proofs.YtmkapocibaojdaaGreatDoor
end
section
namespace Go.Proofs.YtmkapocibaojdaaGreatDoor
open Go Go.Sx
set_option maxHeartbeats 8000000 in
theorem placeTwo {w:World} {S:Nat→Prop} {er:Nat→Addr} {eb:Nat→Array Value×TypeId} {sh:Int} {fa sa:Option Addr} {fn fc sn sc:Nat} {ky:ByteArray} {first second:List OpT} (hC:Rep w S .nilIface (dC er eb)) (hI:Inj er) (h1:Rep w S (.slice fa fn fc) (.sl 7 (first.map eOp))) (h2:Rep w S (.slice sa sn sc) (.sl 7 (second.map eOp))) :
  Calls Tryz.prog 6 #[.int .i64 sh,.slice fa fn fc,.slice sa sn sc,.string ky] w fun e w'=>Ret [] (zero w) S w' e (.bool true) [] []:=by
 have e1:=h1.slen
 have e2:=h2.slen
 have hfc:=Rep.scap h1
 have hsc:=Rep.scap h2
 rw[List.length_map]at e1 e2
 subst e1 e2
 refine epG Tryz.func6 bd6 (args:=[.int .i64 sh,.slice fa first.length fc,.slice sa second.length sc,.string ky]) (S:=S) (G:=[(_,dC er eb),(_,.sl 7 (first.map eOp)),(_,.sl 7 (second.map eOp))]) (by kernel_rfl) (.cons hC (.cons h1 (.cons h2 (.nil _ _)))) ?_
 refine J_zero ?_
 refine Zs [zR 0] [] [zB 8 false] ?_
 refine jS [(0,false),(1,true)] [] ?_
 refine Yc 11 #[] (some 25) fun w S hG=>?_
 refine(placed (hG.at 0 rfl)).mono ?_
 rintro e3 w1 hR
 refine⟨_,_,_,hR,?_⟩
 try simp only[aQ]
 refine Ya [zR 1] [25] [zB 9 true] ?_
 refine JR_end (J_seq ?_)
 refine Zs (Rds 0 7++[.rd 7 [] 2 0,.rd 8 [] 2 0,.rd 9 [] 0 3,zR 10,.rd 11 [] 2 0,.rd 12 [] 2 0,.rd 13 [] 2 0,.rd 14 [] 0 3,zR 15,.rd 16 [] 2 0,.rd 17 [] 2 0,.rd 18 [] 2 0,.rd 19 [] 0 3,zR 20,.rd 21 [] 2 0,.rd 22 [] 2 0,.rd 23 [] 2 0,.rd 24 [] 0 3]) [] [zB 50 (decide (sh<1)||decide (sh>6)||decide ((↑first.length:Int)>8)||decide ((↑second.length:Int)>8)||decide ((↑ky.size:Int)>60))] ?_
 refine cC (t:=decide (sh<1)||decide (sh>6)||decide ((↑first.length:Int)>8)||decide ((↑second.length:Int)>8)||decide ((↑ky.size:Int)>60)) (fun hb=>?_) (fun hb=>?_)
 ·refine J_seq ?_
  refine Za [zR 0,zR 1] [50,9] [zB 8 true] ?_
  refine Yr [[]] (.bool true) fun a w s=>?_
  exact s.retz (by simp) [] [] rfl rfl
 have hok:1≤sh∧sh≤6∧first.length≤8∧second.length≤8:=by simp at hb;omega
 obtain⟨hs1,hs6,hf8,hs8⟩:=hok
 obtain⟨sh,rfl⟩:∃n:Nat,sh=n:=⟨sh.toNat,by omega⟩
 refine J_skip ?_
 refine jS [(0,true),(1,false),(2,true),(3,true),(4,true),(5,true),(6,true)] [] ?_
 refine Ya [zR 0] [50,9] [zI 53 (↑sh:Int)] ?_
 refine Yc 12 #[nI 0,nI 2,nI (↑sh:Int)] (some 54) fun w S hG=>?_
 refine(placeNew (id:=0) (places:=2) (shards:=sh) (hG.at 0 rfl)).mono ?_
 rintro e4 w4 (⟨h,_⟩|⟨_,pb,hR⟩)
 ·exact absurd (by omega) h
 refine⟨_,_,_,hR,?_⟩
 rw[show newP (0:Int).toNat (2:Int).toNat (sh:Int).toNat=newP 0 2 sh from rfl]
 try simp only[aQ]
 refine Ya (Rds 2 7) [54,53] [zP 10 pb,zV 11 .nilIface] ?_
 refine JR_end ?_
 refine jS [(0,true),(1,false),(2,true),(3,true),(4,true),(5,true),(6,true)] [] ?_
 refine Ya [zR 0] [0] [zI 58 (↑sh:Int)] ?_
 refine Yc 12 #[nI 1,nI 2,nI (↑sh:Int)] (some 59) fun w S hG=>?_
 refine(placeNew (id:=1) (places:=2) (shards:=sh) (hG.at 0 rfl)).mono ?_
 rintro e5 w5 (⟨h,_⟩|⟨_,qb,hR⟩)
 ·exact absurd (by omega) h
 refine⟨_,_,_,hR,?_⟩
 rw[show newP (1:Int).toNat (2:Int).toNat (sh:Int).toNat=newP 1 2 sh from rfl]
 have hA0:=two_new (sh:=sh) (by omega) (by omega)
 try simp only[aQ]
 refine Ya (Rds 2 7) [59,58] [zP 12 qb,zV 13 .nilIface] ?_
 refine JR_end (J_seq ?_)
 refine Zs (Rds 0 14) [] [zB 75 false] ?_
 refine cF ?_
 refine J_skip (J_seq (J_seq ?_))
 refine Nm [(cPlace pb (newP 0 2 sh)),(cPlace qb (newP 1 2 sh))] ?_
 refine J_cut (E':=[zS 1 fa first.length fc,zS 2 sa second.length sc,zV 3 (.string ky),zB 8 false,zV 10 (.pointer (some ⟨pb,0,none⟩)),zV 12 (.pointer (some ⟨qb,0,none⟩))]) (h':=[]) (C':=[_,_]) (G':=[_,_,_]) [1,2,3,8,10,12] [] [0,1] [0,1,2] (by kernel_rfl) rfl rfl rfl ?_
 refine Za [zR 0] [] [zI 14 0] ?_
 refine J_block ?_
 refine J_loopx (fun z:NetS=>[zS 1 fa first.length fc,zS 2 sa second.length sc,zV 3 (.string ky),zB 8 false,zP 10 pb,zP 12 qb,zI 14 z.i]) (fun z:NetS=>[]) (fun z:NetS=>[cPlace pb (z.x.P 0),cPlace qb (z.x.P 1)]) (fun z:NetS=>[(.nilIface,(dC er eb)),(.slice fa first.length fc,(D.sl 7 (List.map eOp first))),(.slice sa second.length sc,(D.sl 7 (List.map eOp second)))]) (fun z:NetS=>(8 - z.i).toNat) (fun z:NetS=>(0≤z.i∧z.i≤8∧TwoA sh z.x (2*z.i.toNat))) ⟨0,newNet 2 sh⟩ [1,2,3,8,10,12,14] [] [0,1] [0,1,2] ?_ (by kernel_rfl) rfl rfl rfl ?_
 ·exact⟨by simp,by simp,hA0⟩
 clear hA0
 rintro⟨i,x⟩ ⟨hi0,hi8,hA⟩
 dsimp only at hi0 hi8 hA ⊢
 refine J_seq ?_
 refine Zs (Rds 0 5++[.rd 5 [] 2 0,.rd 6 [] 2 0,.rd 7 [] 2 0,.rd 8 [] 2 0,.rd 9 [] 0 3]) [] [zB 85 (decide (i<(↑first.length:Int))||decide (i<(↑second.length:Int)))] ?_
 refine cC (t:=decide (i<(↑first.length:Int))||decide (i<(↑second.length:Int))) (fun hlt=>?_) (fun hlt=>?_)
 ·have hlt2:i<8:=by simp at hlt;omega
  refine J_skip (J_seq (J_block (J_seq (J_seq ?_))))
  refine Nm [(cPlace pb (x.P 0)),(cPlace qb (x.P 1))] ?_
  refine J_cut (E':=[zS 1 fa first.length fc,zS 2 sa second.length sc,zV 3 (.string ky),zB 8 false,zV 10 (.pointer (some ⟨pb,0,none⟩)),zV 12 (.pointer (some ⟨qb,0,none⟩)),zI 14 i]) (h':=[]) (C':=[_,_]) (G':=[_,_,_]) [1,2,3,8,10,12,14] [] [0,1] [0,1,2] (by kernel_rfl) rfl rfl rfl ?_
  refine twoFst hA (by omega) hi0 hi8 hf8 hs8 hfc fun x1 hA1=>?_
  refine twoSnd hA1 (by omega) hi0 hi8 hf8 hs8 hsc fun x2 hA2=>?_
  refine Zp [zR 0,.rd 1 [] 0 1,zR 2] [] [zI 14 (i+1)] (oC (show IntKind.i64.wrap (i+1)=i+1 from wrap_i64 (by omega) (by omega)) oN) ?_
  refine J_backx ⟨i+1,x2⟩ [1,2,3,8,10,12,14] [] [0,1] [0,1,2] ?_ ?_ (by kernel_rfl) rfl rfl rfl
  ·refine⟨by simp only;omega,by simp only;omega,?_⟩
   dsimp only
   rw[show 2*(i+1).toNat=2*i.toNat+1+1 by omega]
   exact hA2
  ·simp only
   omega
 ·refine J_exit rfl ?_
  refine J_seq ?_
  refine Nm [(cPlace pb (x.P 0)),(cPlace qb (x.P 1))] ?_
  refine J_cut (E':=[zV 3 (.string ky),zB 8 false,zV 10 (.pointer (some ⟨pb,0,none⟩)),zV 12 (.pointer (some ⟨qb,0,none⟩))]) (h':=[]) (C':=[_,_]) (G':=[_]) [3,8,10,12] [] [0,1] [0] (by kernel_rfl) rfl rfl rfl ?_
  exact twoEnd hI hA (by omega)
end Go.Proofs.YtmkapocibaojdaaGreatDoor
end
section
namespace Go.Sx
open Go Go.RowKit Go.ChangeShapes Go.WideShapes
theorem Fr.below {w w':World} (h:Fr [] w w'):Below w.heap.size w w':=⟨h.os,h.tape,h.output,h.size,fun b hb=>h.block b hb (by simp)⟩
theorem cell_blk {w:World} {a:Addr} {v:Value} (h:w.cell? a=some v):∃cs ty fz,w.heap[a.block]?=some (.cells cs ty fz)∧a.spot=none∧cs[a.off]?=some v:=by
 unfold World.cell? at h
 split at h
 ·rename_i cs ty fz hb
  split at h
  ·cases h
  ·rename_i hs
   exact⟨cs,ty,fz,hb,by simpa using hs,h⟩
 ·cases h
section
variable {H:Type} {enc:TypeId×Value→H} {P:Program}
theorem rep_var {W:World} {n:String} {g:Nat} {x:Value} (hg:P.globalNamed n=some g) (h:W.var? P n=some #[x]) (hx:x.oneCell'=true):Rep W (fun _=>True) (.pointer (some ⟨g,0,none⟩)) (.ptr [.v x]):=by
 unfold World.var? at h
 simp only[hg,Option.bind_some]at h
 split at h
 ·rename_i cs ty fz hb
  cases h
  refine .ptr (fun _=>x) hb trivial (fun j hj=>?_) (fun j d hj=>?_)
  ·obtain rfl:j=0:=by simpa using hj
   rfl
  ·match j,hj with
   | 0,hj=>
    simp only[List.getElem?_cons_zero,Option.some.injEq]at hj
    subst hj
    exact .v hx
   | j+1,hj=>simp at hj
 ·cases h
theorem sents {W:World} {ti tp te ts:TypeId} {ms:Array (String×TypeId)} {nm:String} {f:Field} (hi:P.underlying ti=some (.interface ms)) (hrow:∀u,P.typeName? 3 u=some nm→u=tp)
  (hp:P.underlying tp=some (.pointer te)) (he:P.underlying te=some (.struct #[f])) (hft:f.type=ts) (hfo:f.offset=0) (hs:P.underlying ts=some .string) (hc:P.cellsOf te=1) (hcs:P.cellsOf ts=1) :
  ∀(ns:List (String×List UInt8)) (ps:List MemPlace),DataW.LaidVars P W (ns.map fun x=>(x.1,DataW.iface nm (.ptr (.agg [.lit (.string x.2)])))) ps →
   ns.all (fun x=>match P.globalNamed x.1 with
    | some g=>(P.globals[g]?).map (·.type)==some ti
    | none=>false)=true →
   (∀b off,MemPlace.cell b off∈ps→∀u v,W.cell? ⟨b,off,none⟩=some (.iface u v)→Value.okWide P W .any 0 u v) →
   ∃adz:List Addr,adz.length=ns.length∧(∀(i:Nat) x a,ns[i]?=some x→adz[i]?=some a→W.var? P x.1=some #[.iface tp (.pointer (some a))]∧a.spot=none)∧(adz.map fun a=>MemPlace.cell a.block a.off).Sublist ps
 | [],ps,_,_,_=>⟨[],rfl,by simp,by simp⟩
 | (n,text)::ns,ps,h,hg,hr=>by
  rw[List.map_cons]at h
  obtain⟨g0,t0,cs0,f0,p0,q0,hg0,ht0,hv0,hd0,hq,e0⟩:=h
  rw[List.all_cons,Bool.and_eq_true]at hg
  obtain⟨hg1,hg2⟩:=hg
  simp only[hg0,ht0,beq_iff_eq,Option.some.injEq]at hg1
  subst hg1 e0
  obtain⟨l0⟩:=cs0
  have ok0:∀u v,l0=[.iface u v]→Value.okWide P W .any 0 u v:=fun u v e=>by
   subst e
   exact hr g0 0 (by simp[MemPlace.row]) u v (by simpa using World.var?_cell hg0 hv0 0)
  obtain⟨a0,s0,rfl,hc0,hs0,hz0,rfl⟩:=errorString_of_trod hi hrow hp he hft hfo hs hc hcs hd0 ok0
  obtain⟨adz,h1,h2,h3⟩:=sents hi hrow hp he hft hfo hs hc hcs ns q0 hq hg2 fun b off hm=>hr b off (List.mem_append_right _ hm)
  obtain⟨_,_,_,_,hspot,_⟩:=cell_blk hc0
  refine⟨a0::adz,by simp[h1],fun i x a hx ha=>?_,?_⟩
  ·cases i with
   | zero=>
    simp only[List.getElem?_cons_zero,Option.some.injEq]at hx ha
    subst hx ha
    exact⟨hv0,hspot⟩
   | succ i=>
    simp only[List.getElem?_cons_succ]at hx ha
    exact h2 i x a hx ha
  ·rw[List.map_cons,List.append_assoc]
   refine(List.Sublist.cons_cons _ h3).trans (?_:List.Sublist _ (MemPlace.row a0 1++q0)) |>.trans (List.sublist_append_right _ _)
   simp[MemPlace.row]
theorem errs_of {W:World} {ti tp te ts:TypeId} {ms:Array (String×TypeId)} {nm:String} {f:Field} (hi:P.underlying ti=some (.interface ms)) (hrow:∀u,P.typeName? 3 u=some nm→u=tp)
  (hp:P.underlying tp=some (.pointer te)) (he:P.underlying te=some (.struct #[f])) (hft:f.type=ts) (hfo:f.offset=0) (hs:P.underlying ts=some .string) (hc:P.cellsOf te=1) (hcs:P.cellsOf ts=1)
  (ns:List (String×List UInt8)) (h:laidMet P (ns.map fun x=>(x.1,DataW.iface nm (.ptr (.agg [.lit (.string x.2)])))) W)
  (hg:ns.all (fun x=>match P.globalNamed x.1 with
    | some g=>(P.globals[g]?).map (·.type)==some ti
    | none=>false)=true) :
  ∃(er:Nat→Addr) (eb:Nat→Array Value×TypeId),(∀(i:Nat) x,ns[i]?=some x→W.var? P x.1=some #[.iface tp (.pointer (some (er (i+1))))]∧W.heap[(er (i+1)).block]?=some (.cells (eb (i+1)).1 (eb (i+1)).2 (0,0))) ∧
   ∀i j,1≤i→i≤ns.length→1≤j→j≤ns.length→er i=er j→i=j:=by
 obtain⟨ps,hv,hnd,hrows⟩:=h
 obtain⟨adz,h1,h2,h3⟩:=sents hi hrow hp he hft hfo hs hc hcs ns ps hv hg fun b off hm=>(hrows b off hm).2
 have hnd2:=h3.nodup hnd
 have key:∀i:Nat,i<ns.length→∃a,adz[i]?=some a:=fun i hi=>⟨_,List.getElem?_eq_getElem (by omega)⟩
 have hcell:∀(i:Nat) a,adz[i]?=some a→∃c:Array Value×TypeId,W.heap[a.block]?=some (.cells c.1 c.2 (0,0)):=fun i a ha=>by
  obtain⟨c,t,hct⟩:=(hrows a.block a.off (h3.subset (List.mem_map.2 ⟨a,List.mem_of_getElem? ha,rfl⟩))).1
  exact⟨(c,t),hct⟩
 classical
 refine⟨fun k=>adz.getD (k - 1) ⟨0,0,none⟩,fun k=>if hx:∃c:Array Value×TypeId,W.heap[(adz.getD (k - 1) ⟨0,0,none⟩).block]?=some (.cells c.1 c.2 (0,0))then hx.choose else (#[],0),fun i x hx=>?_,fun i j hi1 hi2 hj1 hj2 he=>?_⟩
 ·obtain⟨a,ha⟩:=key i (List.getElem?_eq_some_iff.1 hx).1
  have e:adz.getD (i+1 - 1) ⟨0,0,none⟩=a:=by simp[List.getD_eq_getElem?_getD,ha]
  have hh:=hcell i a ha
  simp only[e]
  refine⟨(h2 i x a hx ha).1,?_⟩
  rw[dif_pos hh]
  exact hh.choose_spec
 ·obtain⟨a,ha⟩:=key (i - 1) (by omega)
  obtain⟨b,hb⟩:=key (j - 1) (by omega)
  simp only[List.getD_eq_getElem?_getD,ha,hb,Option.getD_some]at he
  subst he
  have e1:(adz.map fun a=>MemPlace.cell a.block a.off)[i - 1]?=some (.cell a.block a.off):=by simp[ha]
  have e2:(adz.map fun a=>MemPlace.cell a.block a.off)[j - 1]?=some (.cell a.block a.off):=by simp[hb]
  have:=(List.getElem?_inj (List.getElem?_eq_some_iff.1 e1).1 hnd2).1 (e1.trans e2.symm)
  omega
theorem trodAll_again (hl:laidOutB P=true) {W W':World} {sp:Nat→Bool} (hb:Below W.heap.size W W'):∀{ts:List TypeId} {vs:List Value} {ds:List (DataW H)} {ps:List MemPlace},
  (∀t∈ts,P.readableRec t=true∧t<P.types.size)→DataW.TrodAll enc P W 0 (fun _=>true) true ts vs ds ps→(∀x∈ps,x.block<W.heap.size)→(∀x∈ps,sp x.block=true)→DataW.TrodAll enc P W' 0 sp true ts vs ds ps
 | [],vs,ds,ps,_,h,_,_=>by
  obtain⟨rfl,rfl,rfl⟩:=trodAll_nil h
  exact trodAll_mk0
 | t::ts,vs,ds,ps,ht,h,hlt,hsp=>by
  obtain⟨v,vs',d,ds',p,q,rfl,rfl,rfl,h0,h1⟩:=trodAll_cons h
  obtain⟨hr,hrow⟩:=ht t (List.mem_cons_self ..)
  refine trodAll_cons_mk (WideElems.Trod_stays hl hr hrow h0 (fun x hx=>hb.same (hlt x (List.mem_append_left _ hx))) fun x hx=>hsp x (List.mem_append_left _ hx)) ?_
  exact trodAll_again hl hb (fun t ht'=>ht t (List.mem_cons_of_mem _ ht')) h1 (fun x hx=>hlt x (List.mem_append_right _ hx)) fun x hx=>hsp x (List.mem_append_right _ hx)
theorem law_post {f:Func} {s:ChangeSpec} {apart fresh handsOn again:Bool} {W W':World} {args:Array Value} {ds gs:List (DataW H)} {before:List MemPlace} {tb:TypeId}
  (hl:laidOutB P=true) (hts:f.params.toList.all (fun t=>P.readableRec t&&Nat.blt t P.types.size)=true) (hb4:P.underlying tb=some .bool) (hrt:f.resultTypes = #[tb]) (hvs:s.vars=[])
  (hW:DataW.Whole enc P f.params.toList s.vars apart W args.toList ds gs before) (hfn:∀gs,gs=[]→s.fn H (ds++gs)={ results:=[.lit (.bool true)],args:=ds })
  (hb:Below W.heap.size W W'):s.post enc P f apart fresh handsOn again W args (.bool true) W':=by
 have hlt:∀x∈before,x.block<W.heap.size:=fun x hx=>hW.lt x hx
 have hold:∀x∈before,(fun b=>decide (b<W.heap.size)) x.block=true:=fun x hx=>by simpa using hlt x hx
 have hW':=hW
 obtain⟨p,q,hA,hV,hpq,hz,hn⟩:=hW'
 rw[hvs]at hV
 obtain⟨rfl,rfl⟩:=trodVars_none hV
 rw[List.append_nil]at hpq
 subst hpq
 have hfn:=hfn [] rfl
 have htt:∀t∈f.params.toList,P.readableRec t=true∧t<P.types.size:=fun t ht=>by
  have:=List.all_eq_true.1 hts t ht
  simp only[Bool.and_eq_true]at this
  exact⟨this.1,Nat.lt_of_succ_le (Nat.le_of_ble_eq_true this.2)⟩
 have hres:∀(b:Nat) (sp:Nat→Bool) (hd:Bool),DataW.TrodAll enc P W' b sp hd f.resultTypes.toList ((Value.bool true).resultList f.resultTypes.size) (s.fn H (ds++[])).results []:=fun b sp hd=>by
  rw[hfn,hrt]
  exact trodAll_mk1 ⟨1,by simp[DataW.trod,Value.cells,hb4]⟩
 have hargs:∀sp:Nat→Bool,(∀x∈before,sp x.block=true)→DataW.TrodAll enc P W' 0 sp true f.params.toList args.toList (s.fn H (ds++[])).args before:=fun sp hsp=>by
  rw[hfn]
  exact trodAll_again hl hb htt hA hlt hsp
 have hvars:∀sp:Nat→Bool,DataW.TrodVars enc P W' sp s.vars (s.fn H (ds++[])).vars []:=fun sp=>by
  rw[hvs,hfn]
  rfl
 refine⟨ds,[],before,[],before,[],hW,hres _ _ _,hargs _ hold,hvars _,World.keptBut_mono (fun x hx=>⟨hx,.inr (.inl hx)⟩) (hb.frame (·∈before)),fun _=>?_⟩
 refine⟨?_,_,_,([]++before)++[],⟨[]++before,[],trodAll_append (hargs _ (fun _ _=>rfl)) (hres _ _ _),hvars _,rfl,?_,?_⟩,?_⟩
 ·intro j t r hj hv
  rw[hrt]at hj hv
  match j,hj,hv with
  | 0,hj,hv=>
   simp[Value.resultList]at hj hv
   subst hj;subst hv
   simp[Value.okWide,hb4,Cell.okWide,Cell.ok]
  | j+1,hj,hv=>simp at hj
 ·intro b off hp
  have hin:MemPlace.cell b off∈before:=by simpa using hp
  rw[hb.frozen (hlt _ hin)]
  exact hz b off hin
 ·intro ha
  simpa using hn ha
 ·intro x hx _
  simpa using hx
end
end Go.Sx
end
