/- Part 13 of the texts of a claim: JgX JgY JgZ JgF JgD JgG JgI JgH Tx9. -/
import Derived.Stop.LaidErr
import Derived.Below
import Derived.Carry
import Derived.ChangeSame
import Derived.OpenShut
import Derived.ChangeSlices
import Derived.Test.YtmkapocibaojdaaGreatDoorTj12
section
namespace Go.Proofs.YtmkapocibaojdaaGreatDoor
open Go Go.Sx
set_option maxHeartbeats 4000000 in
theorem rSameTexts {w:World} {S:Nat→Prop} {ua ub:Option Addr} {n m c d:Nat} {xs ys:List ByteArray} (ha:Rep w S (.slice ua n c) (dStrs xs)) (hb:Rep w S (.slice ub m d) (dStrs ys)) (hl:xs.length≤4000000) (hl2:ys.length≤4000000) :
  Calls Tryz.prog 98 #[.slice ua n c,.slice ub m d] w fun e w'=>Ret [] w S w' e (.bool (decide (xs=ys))) [] []:=by
 have e1:=ha.slen
 have e2:=hb.slen
 rw[List.length_map]at e1 e2
 subst e1 e2
 refine epG Tryz.func98 bd98 (args:=[.slice ua xs.length c,.slice ub ys.length d]) (S:=S) (G:=[(_,dStrs xs),(_,dStrs ys)]) (by kernel_rfl) (.cons ha (.cons hb (.nil _ _))) ?_
 refine Zs [zR 0] [] [zB 4 false] ?_
 refine J_seq ?_
 refine Zs (Rds 0 5) [] [zB 10 ((↑xs.length:Int) != (↑ys.length:Int))] ?_
 refine cC (t:=(↑xs.length:Int) != (↑ys.length:Int)) (fun hne=>?_) (fun hne=>?_)
 ·refine J_seq ?_
  refine Za [zR 0] [10] [] ?_
  refine Yr [[]] (.bool false) fun a w s=>?_
  rw[decide_eq_false (fun h=>by subst h;simp at hne)]
  exact s.ret (by simp) [] [] rfl rfl
 have hle:xs.length=ys.length:=by
  have h:(xs.length:Int)=ys.length:=by simpa using hne
  omega
 refine J_skip (J_seq ?_)
 refine Zs [zR 0] [10] [zI 5 0] ?_
 refine J_block ?_
 refine J_loopx (fun i:Int=>[zS 0 ua xs.length c,zS 1 ub ys.length d,zB 4 false,zI 5 i]) (fun i:Int=>[]) (fun i:Int=>[]) (fun i:Int=>[(.slice ua xs.length c,(dStrs xs)),(.slice ub ys.length d,(dStrs ys))]) (fun i:Int=>(xs.length - i).toNat) (fun i:Int=>(0≤i∧i≤xs.length∧xs.take i.toNat=ys.take i.toNat)) 0 [0,1,4,5] [] [] [0,1] ?_ (by kernel_rfl) rfl rfl rfl ?_
 ·exact⟨by simp,by omega,by simp⟩
 rintro i ⟨hi0,hi,hno⟩
 refine J_seq ?_
 refine Zs (Rds 0 4) [] [zB 14 (decide (i<(↑xs.length:Int)))] ?_
 refine cC (t:=decide (i<(↑xs.length:Int))) (fun hlt=>?_) (fun hlt=>?_)
 ·have hlt2:i<xs.length:=of_decide_eq_true hlt
  obtain⟨x,hx⟩:∃x,xs[i.toNat]?=some x:=⟨_,List.getElem?_eq_getElem (by omega)⟩
  obtain⟨y,hy⟩:∃y,ys[i.toNat]?=some y:=⟨_,List.getElem?_eq_getElem (by omega)⟩
  refine J_read0 0 rfl i.toNat (map_at hx) (by kernel_rfl) (fun b1 off1 cs1 ty1 fz1 ha1 hrd1=>?_)
  cases ha1
  have hrd1_0:=rd0 (hrd1 0 _ rfl)
  refine J_read0 1 rfl i.toNat (map_at hy) (by kernel_rfl) (fun b2 off2 cs2 ty2 fz2 ha2 hrd2=>?_)
  cases ha2
  have hrd2_0:=rd0 (hrd2 0 _ rfl)
  try simp only[aQ]
  refine J_skip (J_seq (J_block ?_))
  refine Zt [zR 0,zR 1,.rd 2 [] 0 2,.rd 3 [.r 0 (some (.string x))] 0 0,zR 4,zR 5,.rd 6 [] 0 2,.rd 7 [.r 1 (some (.string y))] 0 0,zR 8] [14] [zB 25 (!x.toList==y.toList)] (oC hi0 (oC hlt2 (oC hrd1_0 (oC hi0 (oC (show i<(↑ys.length:Int) from by omega) (oC hrd2_0 oN)))))) ?_
  refine cC (t:=!x.toList==y.toList) (fun hxy=>?_) (fun hxy=>?_)
  ·have hxy2:x≠y:=fun h=>by subst h;simp at hxy
   refine Zs [zR 0] [25] [] ?_
   refine Yr [[]] (.bool false) fun a w s=>?_
   rw[decide_eq_false (fun h=>by subst h;rw[hx]at hy;exact hxy2 (Option.some.inj hy))]
   exact s.ret (by simp) [] [] rfl rfl
  ·have hxy2:x=y:=by
    have h1:x.toList=y.toList:=by simpa using hxy
    exact byte_inj h1
   refine J_skip (J_eb ?_)
   refine Zp [zR 0,.rd 1 [] 0 1,zR 2] [25] [zI 5 (i+1)] (oC (show IntKind.i64.wrap (i+1)=i+1 from wrap_i64 (by omega) (by omega)) oN) ?_
   refine J_backx (i+1) [0,1,4,5] [] [] [0,1] ?_ ?_ (by kernel_rfl) rfl rfl rfl
   ·refine⟨by omega,by omega,?_⟩
    rw[←take_snoc hi0 hx,←take_snoc hi0 hy,hno,hxy2]
   ·omega
 ·have hie:i.toNat=xs.length:=by have:=of_decide_eq_false hlt;omega
  rw[hie,List.take_length,hle,List.take_length]at hno
  refine J_exit rfl ?_
  refine Zs [zR 0] [14,0,1,5] [zB 4 true] ?_
  refine Yr [[]] (.bool true) fun a w s=>?_
  rw[decide_eq_true hno]
  exact s.ret (by simp) [] [] rfl rfl
set_option maxHeartbeats 4000000 in
theorem rSameValue {w:World} {S:Nat→Prop} {ua ub:Option Addr} {n m c d:Nat} {v1 v2:ValT} (ha:Rep w S (.slice ua n c) (dStrs v1.set)) (hb:Rep w S (.slice ub m d) (dStrs v2.set)) (hl:v1.set.length≤4000000) (hl2:v2.set.length≤4000000) :
  Calls Tryz.prog 30 #[valA v1 (.slice ua n c),valA v2 (.slice ub m d)] w fun e w'=>Ret [] w S w' e (.bool (decide (v1=v2))) [] []:=by
 refine epG Tryz.func30 bd30 (args:=[valA v1 (.slice ua n c),valA v2 (.slice ub m d)]) (S:=S) (G:=[(_,dStrs v1.set),(_,dStrs v2.set)]) (by kernel_rfl) (.cons ha (.cons hb (.nil _ _))) ?_
 by_cases hk:v1.kind=v2.kind
 case neg=>
  refine Zv [.wr 0 [] 0,.wr 1 [] 0,zR 2] [] [0,1] (fun nu1=>[zP 2 (nu1 0),zP 3 (nu1 1),zB 4 false]) o0 (fun nu1=>[(nu1 0,.cells #[nI v1.kind,.string v1.text,nI v1.n,.slice ua n c] 64 (0,0)),(nu1 1,.cells #[nI v2.kind,.string v2.text,nI v2.n,.slice ub m d] 64 (0,0))]) (fun nu1=>?_)
  refine Zt [zR 0,.rd 1 [.o 0 none] 0 0,zR 2,.rd 3 [.o 1 none] 0 0,.rd 4 [] 0 7,zR 5,.rd 6 [] 1 0,.rd 7 [] 1 0,.rd 8 [] 1 0,.rd 9 [] 1 0,.rd 10 [] 1 0,zR 11,zR 12,.rd 13 [] 1 0,.rd 14 [] 1 0,.rd 15 [] 1 0,.rd 16 [] 1 0,.rd 17 [] 1 0,zR 18,zR 19,.rd 20 [] 1 0,.rd 21 [] 1 0,.rd 22 [] 1 0,.rd 23 [] 1 0,.wr 24 [] 1,zR 25,zR 26] [2,3] [] (oC (show(v1.kind==v2.kind)=false from by simp;omega) oN) ?_
  refine Yr [[]] (.bool false) fun a w s=>?_
  rw[decide_eq_false (fun h=>hk (by rw[h]))]
  exact s.ret (by simp) [] [] rfl rfl
 cases ht:(v1.text.toList==v2.text.toList)with
 | false=>
  refine Zv [.wr 0 [] 0,.wr 1 [] 0,zR 2] [] [0,1] (fun nu1=>[zP 2 (nu1 0),zP 3 (nu1 1),zB 4 false]) o0 (fun nu1=>[(nu1 0,.cells #[nI v1.kind,.string v1.text,nI v1.n,.slice ua n c] 64 (0,0)),(nu1 1,.cells #[nI v2.kind,.string v2.text,nI v2.n,.slice ub m d] 64 (0,0))]) (fun nu1=>?_)
  refine Zt [zR 0,.rd 1 [.o 0 none] 0 0,zR 2,.rd 3 [.o 1 none] 0 0,.rd 4 [] 0 6,zR 5,zR 6,.rd 7 [.o 0 none] 0 0,zR 8,.rd 9 [.o 1 none] 0 0,.rd 10 [] 0 7,zR 11,zR 12,.rd 13 [] 1 0,.rd 14 [] 1 0,.rd 15 [] 1 0,.rd 16 [] 1 0,.rd 17 [] 1 0,zR 18,zR 19,.rd 20 [] 1 0,.rd 21 [] 1 0,.rd 22 [] 1 0,.rd 23 [] 1 0,.wr 24 [] 1,zR 25,zR 26] [2,3] [] (oC (show(v1.kind==v2.kind)=true from by simp;omega) (oC (show(v1.text.toList==v2.text.toList)=false from by assumption) oN)) ?_
  refine Yr [[]] (.bool false) fun a w s=>?_
  rw[decide_eq_false (fun h=>by subst h;simp at ht)]
  exact s.ret (by simp) [] [] rfl rfl
 | true=>
 by_cases hn:v1.n=v2.n
 case neg=>
  refine Zv [.wr 0 [] 0,.wr 1 [] 0,zR 2] [] [0,1] (fun nu1=>[zP 2 (nu1 0),zP 3 (nu1 1),zB 4 false]) o0 (fun nu1=>[(nu1 0,.cells #[nI v1.kind,.string v1.text,nI v1.n,.slice ua n c] 64 (0,0)),(nu1 1,.cells #[nI v2.kind,.string v2.text,nI v2.n,.slice ub m d] 64 (0,0))]) (fun nu1=>?_)
  refine Zt ([zR 0,.rd 1 [.o 0 none] 0 0,zR 2,.rd 3 [.o 1 none] 0 0,.rd 4 [] 0 6,zR 5,zR 6,.rd 7 [.o 0 none] 0 0,zR 8,.rd 9 [.o 1 none] 0 0,.rd 10 [] 0 6]++Rds 11 14++[.rd 14 [.o 0 none] 0 0,zR 15,.rd 16 [.o 1 none] 0 0,.rd 17 [] 0 7,zR 18,zR 19,.rd 20 [] 1 0,.rd 21 [] 1 0,.rd 22 [] 1 0,.rd 23 [] 1 0,.wr 24 [] 1,zR 25,zR 26]) [2,3] [] (oC (show(v1.kind==v2.kind)=true from by simp;omega) (oC (show(v1.text.toList==v2.text.toList)=true from by assumption) (oC (show(v1.n==v2.n)=false from by simp;omega) oN))) ?_
  refine Yr [[]] (.bool false) fun a w s=>?_
  rw[decide_eq_false (fun h=>hn (by rw[h]))]
  exact s.ret (by simp) [] [] rfl rfl
 refine Zv [.wr 0 [] 0,.wr 1 [] 0,zR 2] [] [0,1] (fun nu1=>[zP 2 (nu1 0),zP 3 (nu1 1),zB 4 false]) o0 (fun nu1=>[(nu1 0,.cells #[nI v1.kind,.string v1.text,nI v1.n,.slice ua n c] 64 (0,0)),(nu1 1,.cells #[nI v2.kind,.string v2.text,nI v2.n,.slice ub m d] 64 (0,0))]) (fun nu1=>?_)
 refine jS [(0,true),(1,true),(2,true),(3,true),(4,true),(5,true),(6,true),(7,true),(8,true),(9,true),(10,true),(11,true),(12,true),(13,true),(14,true),(15,true),(16,true),(17,true),(18,true),(19,true),(20,true),(21,true),(22,true),(23,true),(24,false),(25,true),(26,true)] [] ?_
 refine Yp ([zR 0,.rd 1 [.o 0 none] 0 0,zR 2,.rd 3 [.o 1 none] 0 0,.rd 4 [] 0 6,zR 5,zR 6,.rd 7 [.o 0 none] 0 0,zR 8,.rd 9 [.o 1 none] 0 0,.rd 10 [] 0 6]++Rds 11 14++[.rd 14 [.o 0 none] 0 0,zR 15,.rd 16 [.o 1 none] 0 0,.rd 17 [] 0 6]++Rds 18 21++[.rd 21 [.o 0 none] 0 0,zR 22,.rd 23 [.o 1 none] 0 0]) [2,3] [zB 24 true,zS 26 ua n c,zS 28 ub m d] (oC (show(v1.kind==v2.kind)=true from by simp;omega) (oC (show(v1.text.toList==v2.text.toList)=true from by assumption) (oC (show(v1.n==v2.n)=true from by simp;omega) oN))) ?_
 refine Yc 98 #[.slice ua n c,.slice ub m d] (some 29) fun w S hG=>?_
 refine(rSameTexts (hG.at 0 rfl) (hG.at 1 rfl) hl hl2).mono ?_
 rintro e1 w1 hR
 have hte:v1.text=v2.text:=byte_inj (by simpa using ht)
 have he:decide (v1.set=v2.set)=decide (v1=v2):=by
  by_cases hs:v1.set=v2.set
  ·rw[decide_eq_true hs,decide_eq_true (by cases v1;cases v2;simp_all)]
  ·rw[decide_eq_false hs,decide_eq_false (fun h=>hs (by rw[h]))]
 rw[he]at hR
 refine⟨_,_,_,hR,?_⟩
 try simp only[aQ]
 refine Ya [zR 25,zR 26] [29,24,26,28] [zB 4 (decide (v1=v2))] ?_
 refine JR_end ?_
 refine Yr [[]] (.bool (decide (v1=v2))) fun a w s=>?_
 exact s.ret (by simp) [] [] rfl rfl
def lastIx (l:List EvT) (s:Int):Nat→Int
 | 0=>-1
 | k+1=>if (l[k]?.map (·.ses))=some s then k else lastIx l s k
theorem lastIx_cases (l:List EvT) (s:Int):∀i,i≤l.length→(lastIx l s i = -1∧∀(j:Nat) y,j<i→l[j]?=some y→y.ses≠s)∨(∃(k:Nat) (y:EvT),lastIx l s i=k∧k<i∧l[k]?=some y∧y.ses=s∧∀(j:Nat) z,k<j→j<i→l[j]?=some z→z.ses≠s)
 | 0,_=>.inl ⟨rfl,fun j y h=>by omega⟩
 | i+1,hi=>by
  have hl:l[i]?=some l[i]:=List.getElem?_eq_getElem (by omega)
  by_cases hs:l[i].ses=s
  ·refine .inr ⟨i,l[i],?_,by omega,hl,hs,fun j z h1 h2=>by omega⟩
   rw[lastIx,hl,Option.map_some,if_pos (by rw[hs])]
  ·have he:lastIx l s (i+1)=lastIx l s i:=by rw[lastIx,hl,Option.map_some,if_neg (by simpa using hs)]
   rw[he]
   rcases lastIx_cases l s i (by omega)with ⟨h1,h2⟩|⟨k,y,h1,h2,h3,h4,h5⟩
   ·refine .inl ⟨h1,fun j y hj hy=>?_⟩
    by_cases hji:j=i
    ·subst hji
     rw[hl]at hy
     cases hy
     exact hs
    ·exact h2 j y (by omega) hy
   ·refine .inr ⟨k,y,h1,by omega,h3,h4,fun j z ha hb hz=>?_⟩
    by_cases hji:j=i
    ·subst hji
     rw[hl]at hz
     cases hz
     exact hs
    ·exact h5 j z ha (by omega) hz
theorem lastIx_succ {l:List EvT} {s k:Int} {y:EvT} (hk:0≤k) (hy:l[k.toNat]?=some y):lastIx l s (k+1).toNat=if y.ses=s then k else lastIx l s k.toNat:=by
 rw[show(k+1).toNat=k.toNat+1 by omega,lastIx,hy,Option.map_some]
 by_cases h:y.ses=s
 ·rw[if_pos (by rw[h]),if_pos h]
  omega
 ·rw[if_neg (by simpa using h),if_neg h]
theorem seenE_snoc {l:List EvT} {i:Int} {x:EvT} {xs:List Int} (hi:0≤i) (hx:l[i.toNat]?=some x):seenE (l.take (i+1).toNat) xs=if x.c.ops≠[]∧inL x.c.when xs=true then seenE (l.take i.toNat) xs++[x.c]else seenE (l.take i.toNat) xs:=by
 rw[seenE,comsE_snoc hi hx]
 by_cases ho:x.c.ops=[]
 ·rw[if_pos ho,if_neg (by simp[ho])]
  rfl
 ·rw[if_neg ho,List.filter_append]
  by_cases hin:inL x.c.when xs=true
  ·rw[if_pos ⟨ho,hin⟩]
   simp[seenE,hin]
  ·rw[if_neg (by simp[hin])]
   simp[seenE,hin]
end Go.Proofs.YtmkapocibaojdaaGreatDoor
end
section
namespace Go.Proofs.YtmkapocibaojdaaGreatDoor
open Go Go.Sx
theorem two_len {xs ys:List Int} (h:twoErr xs ys=0):xs.length=ys.length:=by
 unfold twoErr at h
 split at h
 ·exact absurd h ‹_›
 split at h
 ·exact absurd h ‹_›
 split at h
 ·cases h
 ·omega
theorem seenE_len (l:List EvT) (xs:List Int):(seenE l xs).length≤l.length:=by
 have h1:=List.length_filter_le (fun c:ComT=>inL c.when xs) (comsE l)
 have h2:=List.length_filter_le (fun c:ComT=>!c.ops.isEmpty) (l.map (·.c))
 rw[List.length_map]at h2
 exact Nat.le_trans h1 h2
set_option maxHeartbeats 8000000 in
theorem evTail {w0:World} {S0:Nat→Prop} {ua ka ra wa oa:Option Addr} {uc nk ck rc nw cw no oc nb p:Nat} {l:List EvT} {x:EvT} (hx:x∈l) (hE:Even6 l) (hl:l.length≤20) (hrl:x.reads.length≤20) (hrs:∀r∈x.reads,r.v.set.length≤20) (hcf:∀c∈comsE l,(comFault c).code=0∧c.when.length=p) :
  J Tryz.prog Tryz.f119 (retR Tryz.prog Tryz.f119 fun e w'=>Ret [] w0 S0 w' e (.int .i64 ((if x.reads.all (readE (seenE l x.at'))then 0 else 8:Nat):Int)) [] []) Tryz.f119.ntmps [.c (.rg 13 false),.c (.seq (.seq (.rg 14 false) (.block 2 (.loop (.seq (.seq (.rg 15 false) (.cond (.tmp 57) .skip (.exit 2))) (.seq (.block 3 (.seq (.rg 17 true) (.seq (.rg 18 false) (.cond (.tmp 79) (.rg 19 false) .skip)))) (.rg 16 false)))))) (.seq (.seq (.rg 20 false) (.block 4 (.loop (.seq (.seq (.rg 21 false) (.cond (.tmp 92) .skip (.exit 4))) (.seq (.block 5 (.seq (.rg 23 false) (.seq (.rg 24 true) (.cond (.tmp 121) (.seq (.rg 25 false) .ret) .skip)))) (.rg 22 false)))))) (.seq (.rg 26 false) .ret)))] [(0,.val (.slice ua l.length uc)),(5,.val (.pointer (some ⟨nb,0,none⟩)))] [(nb,(.cells #[.int .i64 x.ses,.int .i64 x.place,.slice ka nk ck,.slice ra x.reads.length rc,.slice wa nw cw,.int .i64 x.c.place,.slice oa no oc] 111 (0,0)))] [] [([],w0)] ⟨newS S0 [] w0,[],[(.slice ua l.length uc,.sl 7 (l.map eEv)),(.slice ka nk ck,dInts x.at'),(.slice ra x.reads.length rc,.sl 5 (x.reads.map eRead))]⟩:=by
 have hxl:=hE.len x hx
 refine J_stp (stp_accm eCom 35 3) ?_
 try simp only[aQ]
 refine Za [zR 0] [] [zS 9 none 0 0] ?_
 refine J_seq ?_
 refine Zs [zR 0] [] [zI 10 0] ?_
 refine J_block ?_
 refine J_loopx (fun z:AccI=>[zS 0 ua l.length uc,zP 5 nb,zS 9 z.a z.k z.c,zI 10 z.i]) (fun z:AccI=>[(nb,.cells #[nI x.ses,nI x.place,.slice ka nk ck,.slice ra x.reads.length rc,.slice wa nw cw,nI x.c.place,.slice oa no oc] 111 (0,0))]) (fun z:AccI=>[cAcc (.slice z.a z.k z.c) 35 3 ((seenE (l.take z.i.toNat) x.at').map eCom)]) (fun z:AccI=>[(.slice ua l.length uc,(D.sl 7 (List.map eEv l))),(.slice ka nk ck,(dInts x.at')),(.slice ra x.reads.length rc,(D.sl 5 (List.map eRead x.reads)))]) (fun z:AccI=>(l.length - z.i).toNat) (fun z:AccI=>(0≤z.i∧z.i≤l.length)) ⟨0,none,0,0⟩ [0,5,9,10] [0] [0] [0,1,2] ?_ (by kernel_rfl) rfl rfl rfl ?_
 ·exact⟨by simp,by simp⟩
 rintro⟨i,av,k,cv⟩ ⟨hi0,hi⟩
 dsimp only at hi0 hi ⊢
 refine J_stpx (stp_acclen 0 rfl) fun _ hk=>?_
 have hk2:k≤20:=by
  rw[List.length_map]at hk
  have:=seenE_len (l.take i.toNat) x.at'
  rw[List.length_take]at this
  omega
 refine J_seq ?_
 refine Zs (Rds 0 4) [] [zB 57 (decide (i<(↑l.length:Int)))] ?_
 refine cC (t:=decide (i<(↑l.length:Int))) (fun hlt=>?_) (fun hlt=>?_)
 ·have hlt2:i<l.length:=of_decide_eq_true hlt
  obtain⟨y,hy⟩:∃y,l[i.toNat]?=some y:=⟨_,List.getElem?_eq_getElem (by omega)⟩
  have hyl:=hE.len y (List.mem_of_getElem? hy)
  have htw:=two_len (hE.two y (List.mem_of_getElem? hy) x hx).1
  have hsn:=seenE_snoc (xs:=x.at') hi0 hy
  refine J_read4 0 rfl i.toNat (map_at hy) (by kernel_rfl) (fun b1 off1 cs1 ty1 fz1 a1_0 c1_0 a1_1 c1_1 a1_2 c1_2 a1_3 c1_3 ha1 hrd1=>?_)
  cases ha1
  have hrd1_0:=rd0 (hrd1 0 _ rfl)
  have hrd1_1:=hrd1 1 _ rfl
  have hrd1_2:=hrd1 2 _ rfl
  have hrd1_3:=hrd1 3 _ rfl
  have hrd1_4:=hrd1 4 _ rfl
  have hrd1_5:=hrd1 5 _ rfl
  have hrd1_6:=hrd1 6 _ rfl
  try simp only[aQ]
  refine J_skip (J_seq (J_block ?_))
  refine jS [(0,true),(1,true),(2,true),(3,true),(4,true),(5,true),(6,true),(7,true),(8,false),(9,true)] [] ?_
  refine Yp [zR 0,zR 1,.rd 2 [] 0 2,zR 3,zR 4,.rd 5 [.r 0 (some (.slice (a1_2,c1_2).fst ((List.map eI y.c.when).length) c1_2))] 0 0,zR 6,.rd 7 [.o 0 none] 0 0] [57] [zS 65 (a1_2,c1_2).fst ((List.map eI y.c.when).length) c1_2,zS 67 ka nk ck] (oC hi0 (oC hlt2 (oC hrd1_4 oN))) ?_
  refine Yc 54 #[.slice (a1_2,c1_2).fst ((List.map eI y.c.when).length) c1_2,.slice ka nk ck] (some 68) fun w S hG=>?_
  refine(rIn (xs:=y.c.when) (ys:=x.at') (hG.at 5 rfl) (hG.at 1 rfl) (by omega) htw).mono ?_
  rintro e1 w1 hR
  refine⟨_,_,_,hR,?_⟩
  by_cases ho:(y.c.ops.length:Int)>0
  case neg=>
   have ho2:y.c.ops=[]:=List.length_eq_zero_iff.1 (by omega)
   rw[if_neg (by simp[ho2])]at hsn
   try simp only[aQ]
   refine Ya [zR 9] [68,65,67] [zB 11 (inL y.c.when x.at')] ?_
   refine JR_end ?_
   refine Zt [zR 0,zR 1,.rd 2 [] 0 2,zR 3,zR 4,.rd 5 [.r 0 (some (.slice (a1_3,c1_3).fst ((List.map eOp y.c.ops).length) c1_3))] 0 0,zR 6,.rd 7 [] 0 7,zR 8,.rd 9 [] 1 0,zR 10] [] [zB 79 false] (oC hi0 (oC hlt2 (oC hrd1_6 (oC (show decide ((↑(List.map eOp y.c.ops).length:Int)>(0:Int))=false from by simp;omega) oN)))) ?_
   refine cF ?_
   refine J_skip (J_eb ?_)
   refine Zp [zR 0,.rd 1 [] 0 1,zR 2] [79] [zI 10 (i+1)] (oC (show IntKind.i64.wrap (i+1)=i+1 from wrap_i64 (by omega) (by omega)) oN) ?_
   rw[←hsn]
   refine J_backx ⟨i+1,av,k,cv⟩ [0,5,9,10] [0] [0] [0,1,2] ?_ ?_ (by kernel_rfl) rfl rfl rfl
   ·exact⟨by simp only;omega,by simp only;omega⟩
   ·simp only
    omega
  have ho2:y.c.ops≠[]:=fun h=>by rw[h]at ho;simp at ho
  cases hin:inL y.c.when x.at' with
  | false=>
   rw[if_neg (by simp[hin])]at hsn
   try simp only[aQ]
   refine Ya [zR 9] [68,65,67] [zB 11 false] ?_
   refine JR_end ?_
   refine Zt ([zR 0,zR 1,.rd 2 [] 0 2,zR 3,zR 4,.rd 5 [.r 0 (some (.slice (a1_3,c1_3).fst ((List.map eOp y.c.ops).length) c1_3))] 0 0,zR 6,.rd 7 [] 0 6]++Rds 8 11) [] [zB 79 false] (oC hi0 (oC hlt2 (oC hrd1_6 (oC (show decide ((↑(List.map eOp y.c.ops).length:Int)>(0:Int))=true from by simp;omega) oN)))) ?_
   refine cF ?_
   refine J_skip (J_eb ?_)
   refine Zp [zR 0,.rd 1 [] 0 1,zR 2] [79] [zI 10 (i+1)] (oC (show IntKind.i64.wrap (i+1)=i+1 from wrap_i64 (by omega) (by omega)) oN) ?_
   rw[←hsn]
   refine J_backx ⟨i+1,av,k,cv⟩ [0,5,9,10] [0] [0] [0,1,2] ?_ ?_ (by kernel_rfl) rfl rfl rfl
   ·exact⟨by simp only;omega,by simp only;omega⟩
   ·simp only
    omega
  | true=>
   rw[if_pos ⟨ho2,hin⟩]at hsn
   try simp only[aQ]
   refine Ya [zR 9] [68,65,67] [zB 11 true] ?_
   refine JR_end ?_
   refine Zt ([zR 0,zR 1,.rd 2 [] 0 2,zR 3,zR 4,.rd 5 [.r 0 (some (.slice (a1_3,c1_3).fst ((List.map eOp y.c.ops).length) c1_3))] 0 0,zR 6,.rd 7 [] 0 6]++Rds 8 11) [] [zB 79 true] (oC hi0 (oC hlt2 (oC hrd1_6 (oC (show decide ((↑(List.map eOp y.c.ops).length:Int)>(0:Int))=true from by simp;omega) oN)))) ?_
   refine cTt ?_
   refine jT [(0,true),(1,true),(2,true),(3,true),(4,true),(5,true),(6,false),(7,false),(8,true)] [] ?_
   refine Yn (Rds 0 3++[.rd 3 [] 0 2,zR 4,.rd 5 [.r 0 (some (.slice (a1_2,c1_2).fst ((List.map eI y.c.when).length) c1_2)),.r 0 (some (nI y.c.place)),.r 0 (some (.slice (a1_3,c1_3).fst ((List.map eOp y.c.ops).length) c1_3))] 0 0,.wr 6 [] 0]) [79] (fun nu1=>[zS 80 av k cv,zS 86 (sA (nu1 0) 0) 1 1]) o0 (fun nu1=>[(nu1 0,.cells #[.slice (a1_2,c1_2).fst ((List.map eI y.c.when).length) c1_2,nI y.c.place,.slice (a1_3,c1_3).fst ((List.map eOp y.c.ops).length) c1_3] 35 (0,0))]) [] (fun nu1=>(oC hi0 (oC hlt2 (oC hrd1_4 (oC hrd1_5 (oC hrd1_6 oN)))))) (fun nu1=>?_)
   refine JR_appm 0 153 35 3 56 (.agg #[.slice none 0 0,.int .i64 0,.slice none 0 0]) (a0:=av) (len:=k) (cap0:=cv) (ax:=(some (⟨nu1 0,0,none⟩))) (m:=1) (c:=1) (dst:=(some 87)) [y.c] (by kernel_rfl) (by kernel_rfl) (by kernel_rfl) (by kernel_rfl) rfl (by decide) rfl (fun _ _ _ s=>src_one s 1 rfl rfl ⟨.inr (.inl (List.mem_of_getElem? (i:=5) rfl)),⟨.inl ⟨rfl,rfl⟩,⟨.inr (.inl (List.mem_of_getElem? (i:=6) rfl)),trivial⟩⟩⟩) (by simp only[maxLen];omega) (by omega) (fun av1 cv1=>?_)
   rw[←hsn]
   try simp only[aQ]
   refine Ya [zR 8] [87,80,86] [zS 9 av1 (k+1) cv1] ?_
   try simp only[aQ]
   refine JR_end ?_
   try simp only[aQ]
   refine J_eb ?_
   try simp only[aQ]
   refine Zp [zR 0,.rd 1 [] 0 1,zR 2] [] [zI 10 (i+1)] (oC (show IntKind.i64.wrap (i+1)=i+1 from wrap_i64 (by omega) (by omega)) oN) ?_
   try simp only[aQ]
   refine J_backx ⟨i+1,_,k+1,_⟩ [0,5,9,10] [0] [0] [0,1,2] ?_ ?_ (by kernel_rfl) rfl rfl rfl
   ·exact⟨by simp only;omega,by simp only;omega⟩
   ·simp only
    omega
 have hie:i.toNat=l.length:=by have:=of_decide_eq_false hlt;omega
 rw[hie,List.take_length]
 have hsl:=seenE_len l x.at'
 have hsf:∀c∈seenE l x.at',(comFault c).code=0∧c.when.length=p:=fun c hc=>hcf c (List.mem_filter.1 hc).1
 refine J_exit rfl ?_
 refine J_seq (J_seq ?_)
 refine J_stp (stp_freeze 0 rfl) ?_
 refine Nm [] ?_
 try simp only[aQ]
 refine Za [zR 0] [57,0,10] [zI 12 0] ?_
 refine J_block ?_
 refine J_loopx (fun i:Int=>[zP 5 nb,zS 9 av k cv,zI 12 i]) (fun i:Int=>[(nb,.cells #[nI x.ses,nI x.place,.slice ka nk ck,.slice ra x.reads.length rc,.slice wa nw cw,nI x.c.place,.slice oa no oc] 111 (0,0))]) (fun i:Int=>[]) (fun i:Int=>[(.slice ua l.length uc,(D.sl 7 (List.map eEv l))),(.slice ka nk ck,(dInts x.at')),(.slice ra x.reads.length rc,(D.sl 5 (List.map eRead x.reads))),(.slice av k cv,(D.sl 3 (List.map eCom (seenE l x.at'))))]) (fun i:Int=>(x.reads.length - i).toNat) (fun i:Int=>(0≤i∧i≤x.reads.length∧∀r∈x.reads.take i.toNat,readE (seenE l x.at') r=true)) 0 [5,9,12] [0] [] [0,1,2,3] ?_ (by kernel_rfl) rfl rfl rfl ?_
 ·exact⟨by simp,by omega,by simp⟩
 rintro i ⟨hi0,hi,hno⟩
 refine J_seq ?_
 refine Zs [zR 0,zR 1,.rd 2 [.o 0 none] 0 0,zR 3,zR 4] [] [zB 92 (decide (i<(↑x.reads.length:Int)))] ?_
 refine cC (t:=decide (i<(↑x.reads.length:Int))) (fun hlt=>?_) (fun hlt=>?_)
 ·have hlt2:i<x.reads.length:=of_decide_eq_true hlt
  obtain⟨r,hr⟩:∃r,x.reads[i.toNat]?=some r:=⟨_,List.getElem?_eq_getElem (by omega)⟩
  have hrm:=List.mem_of_getElem? hr
  have hset:=hrs r hrm
  have hbad:readE (seenE l x.at') r=false→(if x.reads.all (readE (seenE l x.at'))then 0 else 8:Nat)=8:=fun h=>if_neg (by rw[List.all_eq_false.2 ⟨r,hrm,by simp[h]⟩];decide)
  refine J_read1 2 rfl i.toNat (map_at hr) (by kernel_rfl) (fun b1 off1 cs1 ty1 fz1 a1_0 c1_0 ha1 hrd1=>?_)
  cases ha1
  have hrd1_0:=rd0 (hrd1 0 _ rfl)
  have hrd1_1:=hrd1 1 _ rfl
  have hrd1_2:=hrd1 2 _ rfl
  have hrd1_3:=hrd1 3 _ rfl
  have hrd1_4:=hrd1 4 _ rfl
  try simp only[aQ]
  refine J_skip (J_seq (J_block ?_))
  refine jS [(0,true),(1,true),(2,true),(3,true),(4,true),(5,true),(6,false),(7,true)] [] ?_
  refine Yp [zR 0,.rd 1 [.o 0 none] 0 0,zR 2,.rd 3 [] 0 2,zR 4,.rd 5 [.r 0 (some (.string r.key))] 0 0] [92] [zV 100 (.string r.key)] (oC hi0 (oC hlt2 (oC hrd1_0 oN))) ?_
  refine Yc 21 #[.string r.key] (some 101) fun w S hG=>?_
  refine(isName (S:=S)).mono ?_
  rintro e2 w2 hR
  refine⟨_,_,_,hR,?_⟩
  cases hn:nameOk r.key with
  | false=>
   rw[hbad (by simp[readE,hn])]
   try simp only[aQ]
   refine Ya [zR 7] [101,100] [zB 13 false] ?_
   refine JR_end ?_
   refine Zs (Rds 0 3++[.rd 3 [] 1 0,.rd 4 [] 1 0,.rd 5 [] 1 0,.rd 6 [] 1 0,.rd 7 [] 1 0,.rd 8 [] 1 0,.rd 9 [] 1 0,.rd 11 [] 1 0,.rd 12 [] 1 0,.rd 13 [] 1 0,.rd 14 [] 1 0,.rd 15 [] 1 0,.rd 16 [] 1 0,.wr 10 [] 1,.wr 17 [] 1,.rd 18 [] 1 0,zR 19]) [] [zB 121 true] ?_
   refine cTt ?_
   refine Zs [zR 0] [121] [zI 4 8] ?_
   refine Yr [[]] (nI 8) fun a w s=>?_
   exact s.ret (by simp) [] [] rfl rfl
  | true=>
  have hvf:=valFault_mk hn (fun z hz=>(hsf z hz).1) p fun z hz=>(hsf z hz).2
  have hvl:=valOf_len hvf
  try simp only[aQ]
  refine Ya [zR 7] [101,100] [zB 13 true] ?_
  refine JR_end ?_
  refine jS [(0,true),(1,true),(2,true),(3,true),(4,true),(5,true),(6,true),(7,true),(8,true),(9,true),(11,true),(12,true),(13,true),(14,true),(15,true),(16,true),(10,false),(17,false),(18,true),(19,true)] [] ?_
  refine Yp (Rds 0 4++[.rd 4 [.o 0 none] 0 0,zR 5,.rd 6 [] 0 2,zR 7,.rd 8 [.r 0 (some (.string r.key))] 0 0,zR 9,zR 11,.rd 12 [.o 0 none] 0 0,zR 13,.rd 14 [] 0 2,zR 15,.rd 16 [.r 0 (some (nI r.v.kind)),.r 0 (some (.string r.v.text)),.r 0 (some (nI r.v.n)),.r 0 (some (.slice (a1_0,c1_0).fst ((List.map eS r.v.set).length) c1_0))] 0 0]) [] [zB 104 false,zV 110 (.string r.key),zS 111 av k cv,zV 118 (.agg #[nI r.v.kind,.string r.v.text,nI r.v.n,.slice (a1_0,c1_0).fst ((List.map eS r.v.set).length) c1_0])] (oC hi0 (oC hlt2 (oC hrd1_0 (oC hi0 (oC hlt2 (oC hrd1_1 (oC hrd1_2 (oC hrd1_3 (oC hrd1_4 oN))))))))) ?_
  refine Yc 72 #[.string r.key,.slice av k cv] (some 112) fun w S hG=>?_
  refine(rValueOf (key:=r.key) (l:=seenE l x.at') (hG.at 3 rfl) (by omega) hvf).mono ?_
  rintro e3 w3 ⟨va,vn,vc,hR⟩
  refine⟨_,_,_,hR,?_⟩
  try simp only[aQ]
  refine Yc 30 #[.agg #[nI ((Sx.valOf r.key (seenE l x.at')).kind),.string ((Sx.valOf r.key (seenE l x.at')).text),nI ((Sx.valOf r.key (seenE l x.at')).n),.slice va vn vc],.agg #[nI r.v.kind,.string r.v.text,nI r.v.n,.slice a1_0 ((List.map eS r.v.set).length) c1_0]] (some 119) fun w S hG=>?_
  refine(rSameValue (v1:=Sx.valOf r.key (seenE l x.at')) (v2:=r.v) (hG.at 5 rfl) (hG.at 4 rfl) (by omega) (by omega)).mono ?_
  rintro e4 w4 hR
  refine⟨_,_,_,hR,?_⟩
  by_cases hsm:Sx.valOf r.key (seenE l x.at')=r.v
  ·rw[decide_eq_true hsm]
   try simp only[aQ]
   refine Ya [zR 18,zR 19] [119,112,104,110,111,118] [zB 121 false] ?_
   refine JR_end ?_
   refine cF ?_
   refine J_skip (J_eb ?_)
   refine Zp [zR 0,.rd 1 [] 0 1,zR 2] [121] [zI 12 (i+1)] (oC (show IntKind.i64.wrap (i+1)=i+1 from wrap_i64 (by omega) (by omega)) oN) ?_
   refine J_backx (i+1) [5,9,12] [0] [] [0,1,2,3] ?_ ?_ (by kernel_rfl) rfl rfl rfl
   ·refine⟨by omega,by omega,fun y hy=>?_⟩
    rw[←take_snoc hi0 hr,List.mem_append,List.mem_singleton]at hy
    rcases hy with hy|rfl
    ·exact hno y hy
    ·simp[readE,hn,hsm]
   ·omega
  ·rw[decide_eq_false hsm,hbad (by simp[readE,hsm])]
   try simp only[aQ]
   refine Ya [zR 18,zR 19] [119,112,104,110,111,118] [zB 121 true] ?_
   refine JR_end ?_
   refine cTt ?_
   refine Zs [zR 0] [121] [zI 4 8] ?_
   refine Yr [[]] (nI 8) fun a w s=>?_
   exact s.ret (by simp) [] [] rfl rfl
 ·have hie:i.toNat=x.reads.length:=by have:=of_decide_eq_false hlt;omega
  rw[hie,List.take_length]at hno
  rw[if_pos (List.all_eq_true.2 hno)]
  refine J_exit rfl ?_
  refine Zs [zR 0] [92,5,9,12] [zI 4 0] ?_
  refine Yr [[]] (nI 0) fun a w s=>?_
  exact s.ret (by simp) [] [] rfl rfl
end Go.Proofs.YtmkapocibaojdaaGreatDoor
end
section
namespace Go.Sx
structure LastS where
 k:Int
 v:Int
end Go.Sx
namespace Go.Proofs.YtmkapocibaojdaaGreatDoor
open Go Go.Sx
set_option maxHeartbeats 8000000 in
theorem rEventError {w:World} {S:Nat→Prop} {ua:Option Addr} {un uc i p:Nat} {l:List EvT} {x:EvT} (h:Rep w S (.slice ua un uc) (.sl 7 (l.map eEv))) (hx:l[i]?=some x) (hE:Even6 l) (hl:l.length≤20) (hrl:x.reads.length≤20) (hrs:∀r∈x.reads,r.v.set.length≤20) (hcf:∀c∈comsE l,(comFault c).code=0∧c.when.length=p) :
  Calls Tryz.prog 119 #[.slice ua un uc,.int .i64 i] w fun e w'=>Ret [] w S w' e (.int .i64 (eventE l i x)) [] []:=by
 have e1:=h.slen
 rw[List.length_map]at e1
 subst e1
 have hxm:=List.mem_of_getElem? hx
 have hxl:=hE.len x hxm
 have hil:=(List.getElem?_eq_some_iff.1 hx).1
 have hx2:l[(i:Int).toNat]?=some x:=hx
 have htx:=two_len (hE.two x hxm x hxm).2
 refine epG Tryz.func119 bd119 (args:=[.slice ua l.length uc,.int .i64 i]) (S:=S) (G:=[(_,.sl 7 (l.map eEv))]) (by kernel_rfl) (.cons h (.nil _ _)) ?_
 refine J_read4 0 rfl ((↑i:Int).toNat) (map_at hx2) (by kernel_rfl) (fun b1 off1 cs1 ty1 fz1 a1_0 c1_0 a1_1 c1_1 a1_2 c1_2 a1_3 c1_3 ha1 hrd1=>?_)
 cases ha1
 have hrd1_0:=rd0 (hrd1 0 _ rfl)
 have hrd1_1:=hrd1 1 _ rfl
 have hrd1_2:=hrd1 2 _ rfl
 have hrd1_3:=hrd1 3 _ rfl
 have hrd1_4:=hrd1 4 _ rfl
 have hrd1_5:=hrd1 5 _ rfl
 have hrd1_6:=hrd1 6 _ rfl
 try simp only[aQ]
 refine Zs [zR 0] [] [zI 4 0] ?_
 refine Zu [zR 0,zR 1,.rd 2 [] 0 2,.rd 3 [.r 0 (some (nI x.ses)),.r 0 (some (nI x.place)),.r 0 (some (.slice (a1_0,c1_0).fst ((List.map eI x.at').length) c1_0)),.r 0 (some (.slice (a1_1,c1_1).fst ((List.map eRead x.reads).length) c1_1)),.r 0 (some (.slice (a1_2,c1_2).fst ((List.map eI x.c.when).length) c1_2)),.r 0 (some (nI x.c.place)),.r 0 (some (.slice (a1_3,c1_3).fst ((List.map eOp x.c.ops).length) c1_3))] 0 0,.wr 4 [] 0,.wr 5 (hnO 0 7) 0] [(5,[])] [] (fun nu1=>[zP 5 (nu1 0)]) o0 (fun nu1=>[(nu1 0,.cells #[nI x.ses,nI x.place,.slice (a1_0,c1_0).fst ((List.map eI x.at').length) c1_0,.slice (a1_1,c1_1).fst ((List.map eRead x.reads).length) c1_1,.slice (a1_2,c1_2).fst ((List.map eI x.c.when).length) c1_2,nI x.c.place,.slice (a1_3,c1_3).fst ((List.map eOp x.c.ops).length) c1_3] 111 (0,0))]) (fun nu1=>(oC (show(0:Int)≤(↑i:Int) from by omega) (oC (show(↑i:Int)<(↑l.length:Int) from by omega) (oC hrd1_0 (oC hrd1_1 (oC hrd1_2 (oC hrd1_3 (oC hrd1_4 (oC hrd1_5 (oC hrd1_6 oN)))))))))) (fun nu1=>?_)
 refine jS [(0,true),(1,true),(2,true),(3,true),(4,true),(5,false),(6,true)] [] ?_
 refine Ya [zR 0,.rd 1 [.o 0 none] 0 0,zR 2,zR 3,.rd 4 [.o 0 none] 0 0] [] [zS 19 (a1_0,c1_0).fst ((List.map eI x.at').length) c1_0,zS 22 (a1_2,c1_2).fst ((List.map eI x.c.when).length) c1_2] ?_
 refine Yc 54 #[.slice (a1_0,c1_0).fst ((List.map eI x.at').length) c1_0,.slice (a1_2,c1_2).fst ((List.map eI x.c.when).length) c1_2] (some 23) fun w S hG=>?_
 refine(rIn (xs:=x.at') (ys:=x.c.when) (hG.at 1 rfl) (hG.at 3 rfl) (by omega) htx).mono ?_
 rintro e2 w2 hR
 refine⟨_,_,_,hR,?_⟩
 cases hin:inL x.at' x.c.when with
 | false=>
  have hev:eventE l i x=2:=by rw[eventE,if_pos hin]
  rw[hev]
  try simp only[aQ]
  refine Ya [zR 6] [23,19,22] [zB 6 false] ?_
  refine JR_end (J_seq ?_)
  refine Zs [zR 0,zR 1] [6] [zB 25 true] ?_
  refine cTt ?_
  refine Zs [zR 0] [25] [zI 4 2] ?_
  refine Yr [[]] (nI 2) fun a w s=>?_
  exact s.ret (by simp) [] [] rfl rfl
 | true=>
 try simp only[aQ]
 refine Ya [zR 6] [23,19,22] [zB 6 true] ?_
 refine JR_end (J_seq ?_)
 refine Zs [zR 0,zR 1] [6] [zB 25 false] ?_
 refine cF ?_
 refine J_skip ?_
 refine Zs [zR 0] [25] [zI 7 (-1)] ?_
 refine J_seq ?_
 refine Zs [zR 0] [] [zI 8 0] ?_
 refine J_block ?_
 refine J_loopx (fun z:LastS=>[zS 0 (sA b1 off1) l.length uc,zI 1 (↑i:Int),zI 4 0,zP 5 (nu1 0),zI 7 z.v,zI 8 z.k]) (fun z:LastS=>[(nu1 0,.cells #[nI x.ses,nI x.place,.slice a1_0 ((List.map eI x.at').length) c1_0,.slice a1_1 ((List.map eRead x.reads).length) c1_1,.slice a1_2 ((List.map eI x.c.when).length) c1_2,nI x.c.place,.slice a1_3 ((List.map eOp x.c.ops).length) c1_3] 111 (0,0))]) (fun z:LastS=>[]) (fun z:LastS=>[(.slice (sA b1 off1) l.length uc,(D.sl 7 (List.map eEv l))),(.slice (a1_0,c1_0).fst ((List.map eI x.at').length) c1_0,(D.sl 1 (List.map eI x.at'))),(.slice (a1_1,c1_1).fst ((List.map eRead x.reads).length) c1_1,(D.sl 5 (List.map eRead x.reads))),(.slice (a1_2,c1_2).fst ((List.map eI x.c.when).length) c1_2,(D.sl 1 (List.map eI x.c.when))),(.slice (a1_3,c1_3).fst ((List.map eOp x.c.ops).length) c1_3,(D.sl 7 (List.map eOp x.c.ops)))]) (fun z:LastS=>((i:Int) - z.k).toNat) (fun z:LastS=>(0≤z.k∧z.k≤i∧z.v=lastIx l x.ses z.k.toNat)) ⟨0,-1⟩ [0,1,4,5,7,8] [0] [] [0,1,2,3,4] ?_ (by kernel_rfl) rfl rfl rfl ?_
 ·exact⟨by simp,by simp,rfl⟩
 rintro⟨k,v⟩ ⟨hk0,hk1,hv⟩
 dsimp only at hk0 hk1 hv ⊢
 refine J_seq ?_
 refine Zs (Rds 0 3) [] [zB 28 (decide (k<(↑i:Int)))] ?_
 refine cC (t:=decide (k<(↑i:Int))) (fun hlt=>?_) (fun hlt=>?_)
 ·have hlt2:k<i:=of_decide_eq_true hlt
  obtain⟨y,hy⟩:∃y,l[k.toNat]?=some y:=⟨_,List.getElem?_eq_getElem (by omega)⟩
  have hsc:=lastIx_succ (s:=x.ses) hk0 hy
  refine J_again4 0 rfl 0 rfl k.toNat (map_at hy) (by kernel_rfl) (fun a2_0 c2_0 a2_1 c2_1 a2_2 c2_2 a2_3 c2_3 hrd2=>?_)
  have hrd2_0:=rd0 (hrd2 0 _ rfl)
  have hrd2_1:=hrd2 1 _ rfl
  have hrd2_2:=hrd2 2 _ rfl
  have hrd2_3:=hrd2 3 _ rfl
  have hrd2_4:=hrd2 4 _ rfl
  have hrd2_5:=hrd2 5 _ rfl
  have hrd2_6:=hrd2 6 _ rfl
  try simp only[aQ]
  refine J_skip (J_seq (J_block ?_))
  refine Zt [zR 0,zR 1,.rd 2 [] 0 2,zR 3,.rd 4 [.r 0 (some (nI y.ses))] 0 0,zR 5,.rd 6 [.o 0 none] 0 0,zR 7] [28] [zB 38 (y.ses==x.ses)] (oC hk0 (oC (show k<(↑l.length:Int) from by omega) (oC hrd2_0 oN))) ?_
  refine cC (t:=y.ses==x.ses) (fun hses=>?_) (fun hses=>?_)
  ·have hs2:y.ses=x.ses:=by simpa using hses
   rw[if_pos hs2]at hsc
   refine Za [zR 0,zR 1] [38] [zI 7 k] ?_
   refine J_eb ?_
   refine Zp [zR 0,.rd 1 [] 0 1,zR 2] [] [zI 8 (k+1)] (oC (show IntKind.i64.wrap (k+1)=k+1 from wrap_i64 (by omega) (by omega)) oN) ?_
   refine J_backx ⟨k+1,k⟩ [0,1,4,5,7,8] [0] [] [0,1,2,3,4] ?_ ?_ (by kernel_rfl) rfl rfl rfl
   ·exact⟨by simp only;omega,by simp only;omega,hsc.symm⟩
   ·simp only
    omega
  ·have hs2:y.ses≠x.ses:=by simpa using hses
   rw[if_neg hs2]at hsc
   refine J_skip (J_eb ?_)
   refine Zp [zR 0,.rd 1 [] 0 1,zR 2] [38] [zI 8 (k+1)] (oC (show IntKind.i64.wrap (k+1)=k+1 from wrap_i64 (by omega) (by omega)) oN) ?_
   refine J_backx ⟨k+1,v⟩ [0,1,4,5,7,8] [0] [] [0,1,2,3,4] ?_ ?_ (by kernel_rfl) rfl rfl rfl
   ·exact⟨by simp only;omega,by simp only;omega,hv.trans hsc.symm⟩
   ·simp only
    omega
 have hki:k=i:=by have:=of_decide_eq_false hlt;omega
 subst hki
 rw[Int.toNat_natCast]at hv
 rcases lastIx_cases l x.ses i (by omega)with ⟨hlv,hln⟩|⟨q,y,hlv,hq,hy,hys,hln⟩
 ·rw[hlv]at hv
  subst hv
  have hev:eventE l i x=if x.reads.all (readE (seenE l x.at'))then 0 else 8:=by
   rw[eventE,if_neg (by simp[hin]),if_neg (by simp[lateE,lastSes_none hln])]
  rw[hev]
  refine J_exit rfl ?_
  refine J_seq ?_
  refine Zs (Rds 0 3++[.rd 3 [] 1 0,.rd 4 [] 1 0,.rd 5 [] 1 0,.rd 6 [] 1 0,.rd 7 [] 1 0,.rd 8 [] 1 0,.rd 9 [] 1 0,.rd 10 [] 1 0,.wr 11 [] 1,.rd 12 [] 1 0,zR 13]) [28,1,7,8] [zB 53 false] ?_
  refine cF ?_
  refine J_skip (J_seq ?_)
  refine Nm [] ?_
  rw[show(List.map eRead x.reads).length=x.reads.length from List.length_map ..]
  refine J_cut (E':=[zS 0 (some ⟨b1,off1,none⟩) l.length uc,zV 5 (.pointer (some ⟨nu1 0,0,none⟩))]) (h':=[_]) (C':=[]) (G':=[_,_,_]) [0,5] [0] [] [0,1,2] (by kernel_rfl) rfl rfl rfl ?_
  exact evTail hxm hE hl hrl hrs hcf
 ·rw[hlv]at hv
  subst hv
  have hym:=List.mem_of_getElem? hy
  have hyl:=hE.len y hym
  have hty:=two_len (hE.two y hym x hxm).1
  have hq0:((q:Nat):Int)≥0:=by omega
  have hy2:l[((q:Nat):Int).toNat]?=some y:=hy
  have hla:lateE l i x=!inL y.c.when x.at':=by rw[lateE,lastSes_at hq hy hys hln]
  refine J_exit rfl ?_
  refine J_seq (J_seq ?_)
  refine J_again4 0 rfl 0 rfl ((↑q:Int).toNat) (map_at hy2) (by kernel_rfl) (fun a2_0 c2_0 a2_1 c2_1 a2_2 c2_2 a2_3 c2_3 hrd2=>?_)
  have hrd2_0:=rd0 (hrd2 0 _ rfl)
  have hrd2_1:=hrd2 1 _ rfl
  have hrd2_2:=hrd2 2 _ rfl
  have hrd2_3:=hrd2 3 _ rfl
  have hrd2_4:=hrd2 4 _ rfl
  have hrd2_5:=hrd2 5 _ rfl
  have hrd2_6:=hrd2 6 _ rfl
  try simp only[aQ]
  refine jT [(0,true),(1,true),(2,true),(3,true),(4,true),(5,true),(6,true),(7,true),(8,true),(9,true),(10,true),(11,false),(12,true),(13,true)] [] ?_
  refine Yp (Rds 0 5++[.rd 5 [] 0 2,zR 6,zR 7,.rd 8 [.r 0 (some (.slice (a2_2,c2_2).fst ((List.map eI y.c.when).length) c2_2))] 0 0,zR 9,.rd 10 [.o 0 none] 0 0]) [28,1,7,8] [zB 42 true,zS 48 (a2_2,c2_2).fst ((List.map eI y.c.when).length) c2_2,zS 50 a1_0 ((List.map eI x.at').length) c1_0] (oC (show(0:Int)≤(↑q:Int) from by omega) (oC (show(↑q:Int)<(↑l.length:Int) from by omega) (oC hrd2_4 oN))) ?_
  refine Yc 54 #[.slice (a2_2,c2_2).fst ((List.map eI y.c.when).length) c2_2,.slice a1_0 ((List.map eI x.at').length) c1_0] (some 51) fun w S hG=>?_
  refine(rIn (xs:=y.c.when) (ys:=x.at') (hG.at 7 rfl) (hG.at 1 rfl) (by omega) hty).mono ?_
  rintro e3 w3 hR
  refine⟨_,_,_,hR,?_⟩
  cases hin2:inL y.c.when x.at' with
  | false=>
   have hev:eventE l i x=9:=by rw[eventE,if_neg (by simp[hin]),if_pos (by rw[hla,hin2];rfl)]
   rw[hev]
   try simp only[aQ]
   refine Ya [zR 12,zR 13] [51,42,48,50] [zB 53 true] ?_
   refine JR_end ?_
   refine cTt ?_
   refine Zs [zR 0] [53] [zI 4 9] ?_
   refine Yr [[]] (nI 9) fun a w s=>?_
   exact s.ret (by simp) [] [] rfl rfl
  | true=>
  have hev:eventE l i x=if x.reads.all (readE (seenE l x.at'))then 0 else 8:=by
   rw[eventE,if_neg (by simp[hin]),if_neg (by rw[hla,hin2];decide)]
  rw[hev]
  try simp only[aQ]
  refine Ya [zR 12,zR 13] [51,42,48,50] [zB 53 false] ?_
  refine JR_end ?_
  refine cF ?_
  refine J_skip (J_seq ?_)
  refine Nm [] ?_
  rw[show(List.map eRead x.reads).length=x.reads.length from List.length_map ..]
  refine J_cut (E':=[zS 0 (some ⟨b1,off1,none⟩) l.length uc,zV 5 (.pointer (some ⟨nu1 0,0,none⟩))]) (h':=[_]) (C':=[]) (G':=[_,_,_]) [0,5] [0] [] [0,1,2] (by kernel_rfl) rfl rfl rfl ?_
  exact evTail hxm hE hl hrl hrs hcf
end Go.Proofs.YtmkapocibaojdaaGreatDoor
end
section
namespace Go.Proofs.YtmkapocibaojdaaGreatDoor
open Go Go.Sx
set_option maxHeartbeats 8000000 in
theorem rEventsFault {w:World} {S:Nat→Prop} {ua:Option Addr} {un uc:Nat} {places:Int} {l:List EvT} (h:Rep w S (.slice ua un uc) (.sl 7 (l.map eEv))) (hl:l.length≤20) (hf:∀x∈l,Fits x) :
  Calls Tryz.prog 50 #[.int .i64 places,.slice ua un uc] w fun e w'=>Ret [] w S w' e (fA (evFault places l)) [] []:=by
 have e1:=h.slen
 rw[List.length_map]at e1
 subst e1
 refine epG Tryz.func50 bd50 (args:=[.int .i64 places,.slice ua l.length uc]) (S:=S) (G:=[(_,.sl 7 (l.map eEv))]) (by kernel_rfl) (.cons h (.nil _ _)) ?_
 refine Zv [.wr 0 [] 0] [] [] (fun nu1=>[zP 4 (nu1 0)]) o0 (fun nu1=>[(nu1 0,.cells #[nI 0,nI 0] 105 (0,0))]) (fun nu1=>?_)
 refine J_seq ?_
 refine Zs (Rds 0 3++[.rd 3 [] 2 0,.rd 4 [] 2 0,.rd 5 [] 0 3]) [] [zB 15 (decide (places<1)||decide (places>6))] ?_
 refine cC (t:=decide (places<1)||decide (places>6)) (fun hb=>?_) (fun hb=>?_)
 ·have e:evFault places l=⟨2,-1⟩:=by rw[evFault,if_pos (by simp at hb;omega)]
  refine jS [(0,false),(1,false)] [] ?_
  refine Yc 116 #[nI 2] (some 16) fun w S hG=>?_
  refine(rBare (S:=S)).mono ?_
  rintro e2 w2 hR
  refine⟨_,_,_,hR,?_⟩
  try simp only[aQ]
  refine Ym [.wr 1 [.o 0 none,.o 0 none] 0] [16,15] (fun _=>[]) (fun _=>[(0,.cells #[nI 2,nI (-1)] 105 (0,0))]) o0 [] (fun _=>?_)
  refine JR_end ?_
  refine Yr [[.o 0 none,.o 0 none]] (.agg #[nI 2,nI (-1)]) fun a w s=>?_
  rw[e]
  exact s.ret (by simp) [] [] rfl rfl
 have hp:¬(places<1∨6<places):=by simp at hb;omega
 refine J_skip (J_seq ?_)
 refine Zs [zR 0] [15] [zI 5 0] ?_
 refine J_block ?_
 refine J_loopx (fun i:Int=>[zI 0 places,zS 1 ua l.length uc,zP 4 (nu1 0),zI 5 i]) (fun i:Int=>[(nu1 0,.cells #[nI 0,nI 0] 105 (0,0))]) (fun i:Int=>[]) (fun i:Int=>[(.slice ua l.length uc,(D.sl 7 (List.map eEv l)))]) (fun i:Int=>(l.length - i).toNat) (fun i:Int=>(0≤i∧i≤l.length∧∀k y,k<i.toNat→l[k]?=some y→shapeE places y=0)) 0 [0,1,4,5] [0] [] [0] ?_ (by kernel_rfl) rfl rfl rfl ?_
 ·exact⟨by simp,by omega,by simp⟩
 rintro i ⟨hi0,hi,hno⟩
 refine J_seq ?_
 refine Zs (Rds 0 4) [] [zB 20 (decide (i<(↑l.length:Int)))] ?_
 refine cC (t:=decide (i<(↑l.length:Int))) (fun hlt=>?_) (fun hlt=>?_)
 ·have hlt2:i<l.length:=of_decide_eq_true hlt
  obtain⟨x,hx⟩:∃x,l[i.toNat]?=some x:=⟨_,List.getElem?_eq_getElem (by omega)⟩
  have hfx:=hf x (List.mem_of_getElem? hx)
  have hf1:=hfx.at'
  have hf2:=hfx.wh
  have hf3:=hfx.ops
  have hbad:∀k:Nat,shapeE places x=k→k≠0→evFault places l=⟨k,i⟩:=fun k hk h0=>by
   have hfa:=firstE_at (f:=fun _=>shapeE places) (i:=0) hx (by rw[hk];exact h0) fun k y hk hy=>hno k y hk hy
   rw[evFault,if_neg hp,hfa,if_pos (by rw[hk];exact h0),hk,Nat.zero_add,Int.toNat_of_nonneg hi0]
  have hnext:shapeE places x=0→∀k y,k<(i+1).toNat→l[k]?=some y→shapeE places y=0:=fun h0 k y hk hy=>by
   by_cases hki:k=i.toNat
   ·subst hki
    rw[hx]at hy
    cases hy
    exact h0
   ·exact hno k y (by omega) hy
  refine J_read4 0 rfl i.toNat (map_at hx) (by kernel_rfl) (fun b1 off1 cs1 ty1 fz1 a1_0 c1_0 a1_1 c1_1 a1_2 c1_2 a1_3 c1_3 ha1 hrd1=>?_)
  cases ha1
  have hrd1_0:=rd0 (hrd1 0 _ rfl)
  have hrd1_1:=hrd1 1 _ rfl
  have hrd1_2:=hrd1 2 _ rfl
  have hrd1_3:=hrd1 3 _ rfl
  have hrd1_4:=hrd1 4 _ rfl
  have hrd1_5:=hrd1 5 _ rfl
  have hrd1_6:=hrd1 6 _ rfl
  try simp only[aQ]
  refine J_skip (J_seq (J_block ?_))
  refine Zu [zR 0,zR 1,.rd 2 [] 0 2,.rd 3 [.r 0 (some (nI x.ses)),.r 0 (some (nI x.place)),.r 0 (some (.slice (a1_0,c1_0).fst ((List.map eI x.at').length) c1_0)),.r 0 (some (.slice (a1_1,c1_1).fst ((List.map eRead x.reads).length) c1_1)),.r 0 (some (.slice (a1_2,c1_2).fst ((List.map eI x.c.when).length) c1_2)),.r 0 (some (nI x.c.place)),.r 0 (some (.slice (a1_3,c1_3).fst ((List.map eOp x.c.ops).length) c1_3))] 0 0,.wr 4 [] 0,.wr 5 (hnO 1 7) 0] [(5,[])] [20] (fun nu2=>[zP 6 (nu2 0)]) o0 (fun nu2=>[(nu2 0,.cells #[nI x.ses,nI x.place,.slice (a1_0,c1_0).fst ((List.map eI x.at').length) c1_0,.slice (a1_1,c1_1).fst ((List.map eRead x.reads).length) c1_1,.slice (a1_2,c1_2).fst ((List.map eI x.c.when).length) c1_2,nI x.c.place,.slice (a1_3,c1_3).fst ((List.map eOp x.c.ops).length) c1_3] 111 (0,0))]) (fun nu2=>(oC hi0 (oC hlt2 (oC hrd1_0 (oC hrd1_1 (oC hrd1_2 (oC hrd1_3 (oC hrd1_4 (oC hrd1_5 (oC hrd1_6 oN)))))))))) (fun nu2=>?_)
  refine J_seq ?_
  refine jS [(0,true),(1,true),(2,false),(3,true),(4,true),(5,true),(6,true),(7,true),(8,true),(9,true),(10,true),(11,true),(12,true),(13,true),(14,true),(15,false),(16,true),(17,true),(18,true),(19,true),(20,true),(21,true),(22,true),(23,true),(24,true),(25,true),(26,true),(27,true),(28,true),(29,true),(30,true),(31,true),(32,true),(33,true),(34,true),(35,true),(36,true)] [] ?_
  refine Ya [zR 0,.rd 1 [.o 1 none] 0 0] [] [zS 28 (a1_0,c1_0).fst ((List.map eI x.at').length) c1_0] ?_
  refine Yc 117 #[.slice (a1_0,c1_0).fst ((List.map eI x.at').length) c1_0] (some 29) fun w S hG=>?_
  refine(rVecErr (hG.at 1 rfl) (by omega)).mono ?_
  rintro e2 w2 hR
  refine⟨_,_,_,hR,?_⟩
  by_cases hv:vecErr x.at'=0
  case neg=>
   have hv2:((vecErr x.at':Nat):Int)>0:=by omega
   try simp only[aQ]
   refine Yp [.rd 3 [] 0 6,zR 4,.rd 5 [] 1 0,.rd 6 [] 1 0,.rd 7 [] 1 0,.rd 8 [] 1 0,.rd 9 [] 1 0,zR 10,zR 11,.rd 12 [] 1 0,.rd 13 [] 1 0,.rd 14 [] 1 0,.wr 15 [] 1,.rd 16 [] 1 0,zR 17,zR 18,.rd 19 [] 1 0,.rd 20 [] 1 0,.rd 21 [] 1 0,.rd 22 [] 1 0,.rd 23 [] 1 0,.rd 24 [] 1 0,zR 25,zR 26,.rd 27 [] 1 0,.rd 28 [] 1 0,.rd 29 [] 1 0,zR 30,zR 31,.rd 32 [] 1 0,.rd 33 [] 1 0,.rd 34 [] 1 0,.rd 35 [] 1 0,zR 36] [29,28] [zB 63 true] (oC (show decide ((↑(vecErr x.at'):Int)>(0:Int))=true from by simp;omega) oN) ?_
   refine JR_end ?_
   refine cTt ?_
   refine Zv [zR 0,zR 1,.wr 2 [.o 0 none,.o 0 none] 0] [(2,[0])] [63] (fun _=>[]) (fun _=>[(0,.cells #[nI 3,nI i] 105 (0,0))]) o0 (fun _=>?_)
   refine Yr [[.o 0 none,.o 0 none]] (.agg #[nI 3,nI i]) fun a w s=>?_
   rw[hbad 3 (by rw[shapeE,if_pos (.inl hv)]) (by decide)]
   exact s.ret (by simp) [] [] rfl rfl
  rw[hv]
  by_cases hal:(x.at'.length:Int)=places
  case neg=>
   try simp only[aQ]
   refine Yp (Rds 3 6++[.rd 6 [.o 1 none] 0 0,zR 7,zR 8,.rd 9 [] 0 6,zR 10,zR 11,.rd 12 [] 1 0,.rd 13 [] 1 0,.rd 14 [] 1 0,.wr 15 [] 1,.rd 16 [] 1 0,zR 17,zR 18,.rd 19 [] 1 0,.rd 20 [] 1 0,.rd 21 [] 1 0,.rd 22 [] 1 0,.rd 23 [] 1 0,.rd 24 [] 1 0,zR 25,zR 26,.rd 27 [] 1 0,.rd 28 [] 1 0,.rd 29 [] 1 0,zR 30,zR 31,.rd 32 [] 1 0,.rd 33 [] 1 0,.rd 34 [] 1 0,.rd 35 [] 1 0,zR 36]) [29,28] [zB 63 true] (oC (show((↑(List.map eI x.at').length:Int) != places)=true from by simp;omega) oN) ?_
   refine JR_end ?_
   refine cTt ?_
   refine Zv [zR 0,zR 1,.wr 2 [.o 0 none,.o 0 none] 0] [(2,[0])] [63] (fun _=>[]) (fun _=>[(0,.cells #[nI 3,nI i] 105 (0,0))]) o0 (fun _=>?_)
   refine Yr [[.o 0 none,.o 0 none]] (.agg #[nI 3,nI i]) fun a w s=>?_
   rw[hbad 3 (by rw[shapeE,if_pos (.inr (.inl hal))]) (by decide)]
   exact s.ret (by simp) [] [] rfl rfl
  try simp only[aQ]
  refine Yp (Rds 3 6++[.rd 6 [.o 1 none] 0 0,zR 7,zR 8,.rd 9 [] 0 7]++Rds 10 14++[.rd 14 [.o 1 none] 0 0]) [29,28] [zB 38 false,zS 41 a1_2 ((List.map eI x.c.when).length) c1_2] (oC (show((↑(List.map eI x.at').length:Int) != places)=false from by simp;omega) oN) ?_
  refine Yc 117 #[.slice a1_2 ((List.map eI x.c.when).length) c1_2] (some 42) fun w S hG=>?_
  refine(rVecErr (hG.at 3 rfl) (by omega)).mono ?_
  rintro e3 w3 hR
  refine⟨_,_,_,hR,?_⟩
  by_cases hv3:vecErr x.c.when=0
  case neg=>
   have hv2:((vecErr x.c.when:Nat):Int)>0:=by omega
   try simp only[aQ]
   refine Yp [.rd 16 [] 0 6,zR 17,zR 18,.rd 19 [] 1 0,.rd 20 [] 1 0,.rd 21 [] 1 0,.rd 22 [] 1 0,.rd 23 [] 1 0,.rd 24 [] 1 0,zR 25,zR 26,.rd 27 [] 1 0,.rd 28 [] 1 0,.rd 29 [] 1 0,zR 30,zR 31,.rd 32 [] 1 0,.rd 33 [] 1 0,.rd 34 [] 1 0,.rd 35 [] 1 0,zR 36] [42,38,41] [zB 63 true] (oC (show decide ((↑(vecErr x.c.when):Int)>(0:Int))=true from by simp;omega) oN) ?_
   refine JR_end ?_
   refine cTt ?_
   refine Zv [zR 0,zR 1,.wr 2 [.o 0 none,.o 0 none] 0] [(2,[0])] [63] (fun _=>[]) (fun _=>[(0,.cells #[nI 3,nI i] 105 (0,0))]) o0 (fun _=>?_)
   refine Yr [[.o 0 none,.o 0 none]] (.agg #[nI 3,nI i]) fun a w s=>?_
   rw[hbad 3 (by rw[shapeE,if_pos (.inr (.inr (.inl hv3)))]) (by decide)]
   exact s.ret (by simp) [] [] rfl rfl
  rw[hv3]
  by_cases hwl:(x.c.when.length:Int)=places
  case neg=>
   try simp only[aQ]
   refine Yp (Rds 16 21++[.rd 21 [.o 1 none] 0 0,zR 22,zR 23,.rd 24 [] 0 6,zR 25,zR 26,.rd 27 [] 1 0,.rd 28 [] 1 0,.rd 29 [] 1 0,zR 30,zR 31,.rd 32 [] 1 0,.rd 33 [] 1 0,.rd 34 [] 1 0,.rd 35 [] 1 0,zR 36]) [42,38,41] [zB 63 true] (oC (show((↑(List.map eI x.c.when).length:Int) != places)=true from by simp;omega) oN) ?_
   refine JR_end ?_
   refine cTt ?_
   refine Zv [zR 0,zR 1,.wr 2 [.o 0 none,.o 0 none] 0] [(2,[0])] [63] (fun _=>[]) (fun _=>[(0,.cells #[nI 3,nI i] 105 (0,0))]) o0 (fun _=>?_)
   refine Yr [[.o 0 none,.o 0 none]] (.agg #[nI 3,nI i]) fun a w s=>?_
   rw[hbad 3 (by rw[shapeE,if_pos (.inr (.inr (.inr (.inl hwl))))]) (by decide)]
   exact s.ret (by simp) [] [] rfl rfl
  by_cases hp0:x.place<0
  case pos=>
   try simp only[aQ]
   refine Yp (Rds 16 21++[.rd 21 [.o 1 none] 0 0,zR 22,zR 23,.rd 24 [] 0 7]++Rds 25 28++[.rd 28 [.o 1 none] 0 0,.rd 29 [] 0 6,zR 30,zR 31,.rd 32 [] 1 0,.rd 33 [] 1 0,.rd 34 [] 1 0,.rd 35 [] 1 0,zR 36]) [42,38,41] [zB 63 true] (oC (show((↑(List.map eI x.c.when).length:Int) != places)=false from by simp;omega) (oC (show decide (x.place<(0:Int))=true from by simp;omega) oN)) ?_
   refine JR_end ?_
   refine cTt ?_
   refine Zv [zR 0,zR 1,.wr 2 [.o 0 none,.o 0 none] 0] [(2,[0])] [63] (fun _=>[]) (fun _=>[(0,.cells #[nI 3,nI i] 105 (0,0))]) o0 (fun _=>?_)
   refine Yr [[.o 0 none,.o 0 none]] (.agg #[nI 3,nI i]) fun a w s=>?_
   rw[hbad 3 (by rw[shapeE,if_pos (by omega)]) (by decide)]
   exact s.ret (by simp) [] [] rfl rfl
  by_cases hp1:x.place≥places
  case pos=>
   try simp only[aQ]
   refine Yp (Rds 16 21++[.rd 21 [.o 1 none] 0 0,zR 22,zR 23,.rd 24 [] 0 7]++Rds 25 28++[.rd 28 [.o 1 none] 0 0,.rd 29 [] 0 7]++Rds 30 33++[.rd 33 [.o 1 none] 0 0,zR 34,.rd 35 [] 0 6,zR 36]) [42,38,41] [zB 63 true] (oC (show((↑(List.map eI x.c.when).length:Int) != places)=false from by simp;omega) (oC (show decide (x.place<(0:Int))=false from by simp;omega) (oC (show decide (x.place≥places)=true from by simp;omega) oN))) ?_
   refine JR_end ?_
   refine cTt ?_
   refine Zv [zR 0,zR 1,.wr 2 [.o 0 none,.o 0 none] 0] [(2,[0])] [63] (fun _=>[]) (fun _=>[(0,.cells #[nI 3,nI i] 105 (0,0))]) o0 (fun _=>?_)
   refine Yr [[.o 0 none,.o 0 none]] (.agg #[nI 3,nI i]) fun a w s=>?_
   rw[hbad 3 (by rw[shapeE,if_pos (by omega)]) (by decide)]
   exact s.ret (by simp) [] [] rfl rfl
  have hne:¬(vecErr x.at'≠0∨(x.at'.length:Int)≠places∨vecErr x.c.when≠0∨(x.c.when.length:Int)≠places∨x.place<0∨places≤x.place):=by omega
  by_cases ho:(x.c.ops.length:Int)>0
  case neg=>
   have ho2:x.c.ops=[]:=List.length_eq_zero_iff.1 (by omega)
   try simp only[aQ]
   refine Yp (Rds 16 21++[.rd 21 [.o 1 none] 0 0,zR 22,zR 23,.rd 24 [] 0 7]++Rds 25 28++[.rd 28 [.o 1 none] 0 0,.rd 29 [] 0 7]++Rds 30 33++[.rd 33 [.o 1 none] 0 0,zR 34,.rd 35 [] 0 7,zR 36]) [42,38,41] [zB 63 false] (oC (show((↑(List.map eI x.c.when).length:Int) != places)=false from by simp;omega) (oC (show decide (x.place<(0:Int))=false from by simp;omega) (oC (show decide (x.place≥places)=false from by simp;omega) oN))) ?_
   refine JR_end ?_
   refine cF ?_
   refine J_skip ?_
   refine Zt [zR 0,zR 1,.rd 2 [.o 1 none] 0 0,zR 3,.rd 4 [] 0 7] [63] [zB 70 false] (oC (show decide ((↑(List.map eOp x.c.ops).length:Int)>(0:Int))=false from by simp;omega) oN) ?_
   refine cF ?_
   refine J_skip (J_eb ?_)
   refine Zp [zR 0,.rd 1 [] 0 1,zR 2] [70] [zI 5 (i+1)] (oC (show IntKind.i64.wrap (i+1)=i+1 from wrap_i64 (by omega) (by omega)) oN) ?_
   refine J_backx (i+1) [0,1,4,5] [0] [] [0] ?_ ?_ (by kernel_rfl) rfl rfl rfl
   ·exact⟨by omega,by omega,hnext (by rw[shapeE,if_neg hne,if_pos ho2])⟩
   ·omega
  have ho2:x.c.ops≠[]:=fun h=>by rw[h]at ho;simp at ho
  have hse:shapeE places x=(comFault x.c).code:=by rw[shapeE,if_neg hne,if_neg ho2]
  try simp only[aQ]
  refine Yp (Rds 16 21++[.rd 21 [.o 1 none] 0 0,zR 22,zR 23,.rd 24 [] 0 7]++Rds 25 28++[.rd 28 [.o 1 none] 0 0,.rd 29 [] 0 7]++Rds 30 33++[.rd 33 [.o 1 none] 0 0,zR 34,.rd 35 [] 0 7,zR 36]) [42,38,41] [zB 63 false] (oC (show((↑(List.map eI x.c.when).length:Int) != places)=false from by simp;omega) (oC (show decide (x.place<(0:Int))=false from by simp;omega) (oC (show decide (x.place≥places)=false from by simp;omega) oN))) ?_
  refine JR_end ?_
  refine cF ?_
  refine J_skip ?_
  refine Zt [zR 0,zR 1,.rd 2 [.o 1 none] 0 0,zR 3,.rd 4 [] 0 6] [63] [zB 70 true] (oC (show decide ((↑(List.map eOp x.c.ops).length:Int)>(0:Int))=true from by simp;omega) oN) ?_
  refine cTt ?_
  refine jS [(0,true),(1,true),(2,false),(3,false),(4,false)] [] ?_
  refine Ya [zR 0,.rd 1 (hnO 1 3) 0 0] [70] [zV 72 (.agg #[.slice a1_2 ((List.map eI x.c.when).length) c1_2,nI x.c.place,.slice a1_3 ((List.map eOp x.c.ops).length) c1_3])] ?_
  refine Yc 118 #[.agg #[.slice a1_2 ((List.map eI x.c.when).length) c1_2,nI x.c.place,.slice a1_3 ((List.map eOp x.c.ops).length) c1_3]] (some 73) fun w S hG=>?_
  refine(commitFault (c:=x.c) (hG.at 3 rfl) (hG.at 4 rfl) (by omega) (by omega)).mono ?_
  rintro e4 w4 hR
  refine⟨_,_,_,hR,?_⟩
  by_cases hc:(comFault x.c).code=0
  ·have hc2:¬(((comFault x.c).code:Nat):Int)>0:=by omega
   try simp only[aQ]
   refine Ym [.wr 3 [] 0,.wr 4 [.o 2 none,.o 2 none] 0] [73,72] (fun nu3=>[zP 7 (nu3 0)]) o0 (fun nu3=>[(nu3 0,.cells #[nI ((↑(comFault x.c).code:Int)),nI ((comFault x.c).at')] 105 (0,0))]) [] (fun nu3=>?_)
   refine JR_end ?_
   refine Zt [zR 0,.rd 1 [.o 2 none] 0 0,.rd 2 [] 0 7] [] [zB 76 false] (oC (show decide ((↑(comFault x.c).code:Int)>(0:Int))=false from by simp;omega) oN) ?_
   refine cF ?_
   refine J_skip (J_eb ?_)
   refine Zp [zR 0,.rd 1 [] 0 1,zR 2] [76] [zI 5 (i+1)] (oC (show IntKind.i64.wrap (i+1)=i+1 from wrap_i64 (by omega) (by omega)) oN) ?_
   refine J_backx (i+1) [0,1,4,5] [0] [] [0] ?_ ?_ (by kernel_rfl) rfl rfl rfl
   ·exact⟨by omega,by omega,hnext (by rw[hse,hc])⟩
   ·omega
  ·have hc2:(((comFault x.c).code:Nat):Int)>0:=by omega
   try simp only[aQ]
   refine Ym [.wr 3 [] 0,.wr 4 [.o 2 none,.o 2 none] 0] [73,72] (fun nu3=>[zP 7 (nu3 0)]) o0 (fun nu3=>[(nu3 0,.cells #[nI ((↑(comFault x.c).code:Int)),nI ((comFault x.c).at')] 105 (0,0))]) [] (fun nu3=>?_)
   refine JR_end ?_
   refine Zt [zR 0,.rd 1 [.o 2 none] 0 0,.rd 2 [] 0 6] [] [zB 76 true] (oC (show decide ((↑(comFault x.c).code:Int)>(0:Int))=true from by simp;omega) oN) ?_
   refine cTt ?_
   refine Zv [zR 0,.rd 1 [.o 2 none] 0 0,zR 2,zR 3,.wr 4 [.o 0 none,.o 0 none] 0] [(4,[0])] [76] (fun _=>[]) (fun _=>[(0,.cells #[nI ((↑(comFault x.c).code:Int)),nI i] 105 (0,0))]) o0 (fun _=>?_)
   refine Yr [[.o 0 none,.o 0 none]] (.agg #[nI ((↑(comFault x.c).code:Int)),nI i]) fun a w s=>?_
   rw[hbad _ hse hc]
   exact s.ret (by simp) [] [] rfl rfl
 have hie:i.toNat=l.length:=by have:=of_decide_eq_false hlt;omega
 have hall:∀x∈l,shapeE places x=0:=fun x hx=>by
  obtain⟨k,hk⟩:=List.getElem?_of_mem hx
  exact hno k x (by have:=(List.getElem?_eq_some_iff.1 hk).1;omega) hk
 have hev:evFault places l=firstE (fun i e=>eventE l i e) 0 l:=by
  rw[evFault,if_neg hp,firstE_none (f:=fun _=>shapeE places) fun k x hx=>hall x (List.mem_of_getElem? hx),if_neg (by simp)]
 have hE:=even_of hall
 obtain⟨p,rfl⟩:∃p:Nat,places=p:=⟨places.toNat,by omega⟩
 have hcf:∀c∈comsE l,(comFault c).code=0∧c.when.length=p:=fun c hc=>by
  obtain⟨x,hx,rfl,ho⟩:=coms_mem hc
  obtain⟨_,_,_,x4,x5⟩:=shape_ok (hall x hx)
  exact⟨x5 ho,by omega⟩
 rw[hev]
 refine J_exit rfl ?_
 refine J_seq ?_
 refine Zs [zR 0] [20,0,5] [zI 8 0] ?_
 refine J_block ?_
 refine J_loopx (fun i:Int=>[zS 1 ua l.length uc,zP 4 (nu1 0),zI 8 i]) (fun i:Int=>[(nu1 0,.cells #[nI 0,nI 0] 105 (0,0))]) (fun i:Int=>[]) (fun i:Int=>[(.slice ua l.length uc,(D.sl 7 (List.map eEv l)))]) (fun i:Int=>(l.length - i).toNat) (fun i:Int=>(0≤i∧i≤l.length∧∀k y,k<i.toNat→l[k]?=some y→eventE l k y=0)) 0 [1,4,8] [0] [] [0] ?_ (by kernel_rfl) rfl rfl rfl ?_
 ·exact⟨by simp,by omega,by simp⟩
 rintro i ⟨hi0,hi,hno⟩
 refine J_seq ?_
 refine Zs (Rds 0 4) [] [zB 84 (decide (i<(↑l.length:Int)))] ?_
 refine cC (t:=decide (i<(↑l.length:Int))) (fun hlt=>?_) (fun hlt=>?_)
 ·have hlt2:i<l.length:=of_decide_eq_true hlt
  obtain⟨i,rfl⟩:∃k:Nat,i=k:=⟨i.toNat,by omega⟩
  obtain⟨x,hx⟩:∃x,l[i]?=some x:=⟨_,List.getElem?_eq_getElem (by omega)⟩
  have hfx:=hf x (List.mem_of_getElem? hx)
  refine J_skip (J_seq (J_block ?_))
  refine jS [(0,true),(1,true),(2,false),(3,true)] [] ?_
  refine Ya [zR 0,zR 1] [84] [zS 87 ua l.length uc,zI 88 (↑i:Int)] ?_
  refine Yc 119 #[.slice ua l.length uc,nI (↑i:Int)] (some 89) fun w S hG=>?_
  refine(rEventError (x:=x) (p:=p) (hG.at 0 rfl) hx hE hl hfx.reads hfx.sets hcf).mono ?_
  rintro e5 w5 hR
  refine⟨_,_,_,hR,?_⟩
  by_cases hz:eventE l i x=0
  ·rw[hz]
   try simp only[aQ]
   refine Ya [zR 3] [89,87,88] [zI 9 0] ?_
   refine JR_end ?_
   refine Zs [zR 0,zR 1] [] [zB 91 false] ?_
   refine cF ?_
   refine J_skip (J_eb ?_)
   refine Zp [zR 0,.rd 1 [] 0 1,zR 2] [91] [zI 8 ((↑i:Int)+1)] (oC (show IntKind.i64.wrap ((↑i:Int)+1)=(↑i:Int)+1 from wrap_i64 (by omega) (by omega)) oN) ?_
   refine J_backx ((i:Int)+1) [1,4,8] [0] [] [0] ?_ ?_ (by kernel_rfl) rfl rfl rfl
   ·refine⟨by omega,by omega,fun k y hk hy=>?_⟩
    by_cases hki:k=i
    ·subst hki
     rw[hx]at hy
     cases hy
     exact hz
    ·exact hno k y (by omega) hy
   ·omega
  ·have hz2:((eventE l i x:Nat):Int)>0:=by omega
   have hfa:=firstE_at (f:=fun i e=>eventE l i e) (i:=0) hx (by rw[Nat.zero_add];exact hz) fun k y hk hy=>by rw[Nat.zero_add];exact hno k y hk hy
   rw[Nat.zero_add]at hfa
   rw[hfa]
   try simp only[aQ]
   refine Ya [zR 3] [89,87,88] [zI 9 ((↑(eventE l i x):Int))] ?_
   refine JR_end ?_
   refine Zt [zR 0,.rd 1 [] 0 6] [] [zB 91 true] (oC (show decide ((↑(eventE l i x):Int)>(0:Int))=true from by simp;omega) oN) ?_
   refine cTt ?_
   refine Zv (Rds 0 3++[.wr 3 [.o 0 none,.o 0 none] 0]) [(3,[0])] [91] (fun _=>[]) (fun _=>[(0,.cells #[nI ((↑(eventE l i x):Int)),nI (↑i:Int)] 105 (0,0))]) o0 (fun _=>?_)
   refine Yr [[.o 0 none,.o 0 none]] (.agg #[nI ((↑(eventE l i x):Int)),nI (↑i:Int)]) fun a w s=>?_
   exact s.ret (by simp) [] [] rfl rfl
 ·have hie:i.toNat=l.length:=by have:=of_decide_eq_false hlt;omega
  rw[firstE_none (f:=fun i e=>eventE l i e) fun k x hx=>by rw[Nat.zero_add];exact hno k x (by have:=(List.getElem?_eq_some_iff.1 hx).1;omega) hx]
  refine J_exit rfl ?_
  refine jS [(0,false),(1,false)] [] ?_
  refine Yc 120 #[] (some 95) fun w S hG=>?_
  refine(rFine (S:=S)).mono ?_
  rintro e6 w6 hR
  refine⟨_,_,_,hR,?_⟩
  try simp only[aQ]
  refine Ym [.wr 1 [.o 0 none,.o 0 none] 0] [95,84,1,8] (fun _=>[]) (fun _=>[(0,.cells #[nI 0,nI (-1)] 105 (0,0))]) o0 [] (fun _=>?_)
  refine JR_end ?_
  refine Yr [[.o 0 none,.o 0 none]] (.agg #[nI 0,nI (-1)]) fun a w s=>?_
  exact s.ret (by simp) [] [] rfl rfl
end Go.Proofs.YtmkapocibaojdaaGreatDoor
end
section
namespace Go.Proofs.YtmkapocibaojdaaGreatDoor
open Go Go.Sx
theorem heavyC_len {c:ComT} (h:heavyC c=0):c.when.length≤20∧c.ops.length≤20∧∀o∈c.ops,o.dots.length≤70:=by
 unfold heavyC at h
 split at h
 ·cases h
 ·split at h
  ·cases h
  ·rename_i h1 h2
   refine⟨by omega,by omega,fun o ho=>?_⟩
   have h3:heavyOp o=false:=by
    cases h4:heavyOp o with
    | false=>rfl
    | true=>exact absurd (List.any_eq_true.2 ⟨o,ho,h4⟩) h2
   simp[heavyOp]at h3
   omega
theorem heavyC_pos {c:ComT} (h:¬0<heavyC c):heavyC c=0:=by
 unfold heavyC at h ⊢
 split at h
 ·exact absurd (by decide) h
 ·split at h
  ·exact absurd (by decide) h
  ·rename_i h1 h2
   rw[if_neg h1,if_neg h2]
theorem fits_of {l:List EvT} (h:fitE l=true):l.length≤20∧(∀x∈l,Fits x)∧∀x∈l,∀o∈x.c.ops,o.dots.length≤1000000:=by
 rw[fitE,Bool.and_eq_true,List.all_eq_true]at h
 have key:∀x∈l,bigV x=false∧∀r∈x.reads,bigR r=false:=by
  intro x hx
  have h2:=h.1 x hx
  rw[Bool.and_eq_true,List.all_eq_true]at h2
  exact⟨by simpa using h2.1,fun r hr=>by simpa using h2.2 r hr⟩
 have big:∀x∈l,heavyC x.c=0∧x.at'.length≤20∧x.reads.length≤20:=by
  intro x hx
  have h3:=(key x hx).1
  simp only[bigV,Bool.or_eq_false_iff,decide_eq_false_iff_not]at h3
  exact⟨heavyC_pos h3.1.1,by omega,by omega⟩
 refine⟨by have:=h.2;simp at this;omega,fun x hx=>?_,fun x hx o ho=>?_⟩
 ·obtain⟨b1,b2,b3⟩:=big x hx
  obtain⟨c1,c2,_⟩:=heavyC_len b1
  refine⟨b2,by omega,by omega,b3,fun r hr=>?_⟩
  have h4:=(key x hx).2 r hr
  simp only[bigR,Bool.or_eq_false_iff,decide_eq_false_iff_not]at h4
  omega
 ·have:=(heavyC_len (big x hx).1).2.2 o ho
  omega
theorem firstE_le {f:Nat→EvT→Nat} {k:Nat} (h:∀i e,f i e≤k):∀(l:List EvT) (i:Nat),(firstE f i l).code≤k
 | [],_=>Nat.zero_le _
 | a::l,i=>by
  rw[firstE]
  split
  ·exact h i a
  ·exact firstE_le h l (i+1)
theorem ev_code (p:Int) (l:List EvT):(evFault p l).code≤12:=by
 unfold evFault
 split
 ·show 2≤12
  omega
 ·split
  ·refine firstE_le (fun _ e=>?_) l 0
   unfold shapeE
   split
   ·omega
   ·split
    ·omega
    ·exact comFault_code e.c
  ·refine firstE_le (fun i e=>?_) l 0
   unfold eventE
   repeat' split
   all_goals omega
theorem two_le (xs ys:List Int):twoErr xs ys≤12:=by
 have h1:=vecErr_le xs
 have h2:=vecErr_le ys
 unfold twoErr
 repeat' split
 all_goals omega
theorem cuts_code (l:List EvT):(cutsE l).2.code≤12:=by
 unfold cutsE
 split
 ·refine firstE_le (fun _ e=>?_) l 0
  unfold cutE
  have:=two_le e.c.when e.at'
  repeat' split
  all_goals omega
 ·split
  ·exact Nat.zero_le _
  ·show 10≤12
   omega
theorem round_len (l:List EvT) (done:List Bool):(roundE l done).length≤l.length:=by
 have:=List.length_filter_le (fun i=>!(done[i]?.getD true)&&!waitsE l done i) (List.range l.length)
 rwa[List.length_range]at this
theorem rounds_len (l:List EvT):∀(n:Nat) (done:List Bool) (left:Nat),(roundsE l n done left).1.length≤n∧∀r∈(roundsE l n done left).1,r.length≤l.length
 | 0,_,_=>⟨Nat.le_refl _,by simp[roundsE]⟩
 | n+1,done,left=>by
  rw[roundsE]
  split
  ·exact⟨by simp,by simp⟩
  ·split
   ·exact⟨by simp,by simp⟩
   ·obtain⟨h1,h2⟩:=rounds_len l n (markE done (roundE l done)) (left - (roundE l done).length)
    refine⟨by simp only[List.length_cons];omega,fun r hr=>?_⟩
    rcases List.mem_cons.1 hr with rfl|hr
    ·exact round_len l done
    ·exact h2 r hr
theorem cuts_len (l:List EvT):(cutsE l).1.length≤l.length∧∀r∈(cutsE l).1,r.length≤l.length:=by
 unfold cutsE
 split
 ·exact⟨by simp,by simp⟩
 ·split
  ·exact rounds_len l _ _ _
  ·exact⟨by simp,by simp⟩
end Go.Proofs.YtmkapocibaojdaaGreatDoor
end
section
namespace Go.Proofs.YtmkapocibaojdaaGreatDoor
open Go Go.Sx
theorem cuts_none {l:List EvT} (h:(cutsE l).2≠⟨0,-1⟩):(cutsE l).1=[]:=by
 unfold cutsE at h ⊢
 split
 ·rfl
 ·split
  ·rename_i h1 h2
   rw[if_neg h1,if_pos h2]at h
   exact absurd rfl h
  ·rfl
set_option maxHeartbeats 8000000 in
theorem judgeEnd {w0:World} {S0:Nat→Prop} {er:Nat→Addr} {eb:Nat→Array Value×TypeId} {ua:Option Addr} {uc:Nat} {l:List EvT} (hI:Inj er) (hl:l.length≤20) (hf:∀x∈l,Fits x) (hd:∀x∈l,∀o∈x.c.ops,o.dots.length≤1000000) :
  J Tryz.prog Tryz.f10 (retR Tryz.prog Tryz.f10 fun e w'=>Ret [] (zero w0) S0 w' e (.bool true) [] []) Tryz.f10.ntmps [.c (.rg 16 false),.c (.seq (.rg 17 false) (.seq (.seq (.rg 18 false) (.cond (.tmp 127) (.seq (.rg 19 false) .ret) .skip)) (.seq (.seq (.rg 20 false) (.block 0 (.loop (.seq (.seq (.rg 21 false) (.cond (.tmp 131) .skip (.exit 0))) (.seq (.block 1 (.seq (.rg 23 true) (.cond (.tmp 143) (.seq (.rg 24 false) .ret) .skip))) (.rg 22 false)))))) (.seq (.rg 25 false) .ret))))]
   [(1,.val (.slice ua l.length uc)),(8,.val (.bool false))] [] [] [([],zero w0)] ⟨newS S0 [] w0,[],[(.nilIface,dC er eb),(.slice ua l.length uc,.sl 7 (l.map eEv))]⟩:=by
 obtain⟨hrl,hrr⟩:=cuts_len l
 have hcc:=cuts_code l
 refine jT [(0,true),(1,false),(2,false),(3,true),(4,true),(5,true),(6,true),(7,true)] [] ?_
 refine Ya [zR 0] [] [zS 107 ua l.length uc] ?_
 refine Yc 49 #[.slice ua l.length uc] (some 108) fun w S hG=>?_
 refine(jEventsOf (hG.at 1 rfl) hl hf hd).mono ?_
 rintro e1 w1 ⟨ra,rc,hR⟩
 refine⟨_,_,_,hR,?_⟩
 try simp only[aQ]
 refine Yc 55 #[.slice ra l.length rc] (some 109) fun w S hG=>?_
 refine(jCuts (hG.at 0 rfl) (hG.at 2 rfl) hl hf).mono ?_
 rintro e2 w2 (⟨hc,xa,xn,xc,hR⟩|⟨hc,hR⟩|⟨hc1,hc2,pb,hR⟩)
 ·have ex:=(hR.gh.choose_spec.2.2.2 _ (List.mem_cons_self ..)).slen
  rw[List.length_map]at ex
  subst ex
  refine⟨_,_,_,hR,?_⟩
  try simp only[aQ]
  refine Ya (Rds 3 8) [109,108,107] [zV 11 .nilIface,zS 13 xa ((cutsE l).fst.length) xc] ?_
  refine JR_end ?_
  refine jS [(0,true),(1,false),(2,true),(3,true),(4,true),(5,false),(6,true),(7,false)] [] ?_
  refine Ya [zR 0] [1] [zS 113 ua l.length uc] ?_
  refine Yc 56 #[.slice ua l.length uc] (some 114) fun w S hG=>?_
  refine(rCuts (hG.at 1 rfl) hl hf).mono ?_
  rintro e3 w3 ⟨ya,yn,yc,hR⟩
  have ey:=(hR.gh.choose_spec.2.2.2 _ (List.mem_cons_self ..)).slen
  rw[List.length_map]at ey
  subst ey
  refine⟨_,_,_,hR,?_⟩
  rw[hc]
  try simp only[aQ]
  refine Ym (Rds 2 5++[.wr 5 [] 0,zR 6,.wr 7 [.o 0 none,.o 0 none] 0]) [114,113] (fun nu1=>[zS 14 ya ((cutsE l).fst.length) yc,zP 15 (nu1 0)]) o0 (fun nu1=>[(nu1 0,.cells #[nI 0,nI (-1)] 105 (0,0))]) [] (fun nu1=>?_)
  refine JR_end (J_seq ?_)
  refine jS [(0,true),(1,true),(2,false),(3,true),(4,true),(5,true),(6,true),(7,true),(8,true),(9,true),(10,true)] [] ?_
  refine Ya [zR 0,.rd 1 [.o 0 none,.o 0 none] 0 0] [15,11] [zV 117 .nilIface,zV 118 (.agg #[nI 0,nI (-1)])] ?_
  refine Yc 47 #[.nilIface,.agg #[nI 0,nI (-1)]] (some 119) fun w S hG=>?_
  refine(jFaultedErr (k:=0) (hG.at 0 rfl) hI (by omega) (.inl ⟨rfl,rfl⟩) rfl).mono ?_
  rintro e4 w4 hR
  refine⟨_,_,_,hR,?_⟩
  have hne:¬((cutsE l).1.length:Int)≠(cutsE l).1.length:=fun h=>h rfl
  try simp only[aQ]
  refine Yp (Rds 3 9++[.rd 9 [] 0 7,zR 10]) [119,117,118] [zB 127 false] (oC (show((↑(cutsE l).fst.length:Int) != (↑(cutsE l).fst.length:Int))=false from by simp) oN) ?_
  refine JR_end ?_
  refine cF ?_
  refine J_skip (J_seq ?_)
  refine Zs [zR 0] [127] [zI 16 0] ?_
  refine J_block ?_
  generalize (cutsE l).1=rows at hrl hrr
  refine J_loopx (fun i:Int=>[zB 8 false,zS 13 xa rows.length xc,zS 14 ya rows.length yc,zI 16 i]) (fun i:Int=>[]) (fun i:Int=>[]) (fun i:Int=>[(.nilIface,(dC er eb)),(.slice ua l.length uc,(D.sl 7 (List.map eEv l))),(.slice ra l.length rc,(D.sl 7 (List.map eEv l))),(.slice xa rows.length xc,(D.sl 1 (List.map eRw rows))),(.slice ya rows.length yc,(D.sl 1 (List.map eRw rows)))]) (fun i:Int=>(rows.length - i).toNat) (fun i:Int=>(0≤i∧i≤rows.length)) 0 [8,13,14,16] [] [] [0,1,2,3,4] ?_ (by kernel_rfl) rfl rfl rfl ?_
  ·exact⟨by simp,by omega⟩
  rintro i ⟨hi0,hi⟩
  refine J_seq ?_
  refine Zs (Rds 0 4) [] [zB 131 (decide (i<(↑rows.length:Int)))] ?_
  refine cC (t:=decide (i<(↑rows.length:Int))) (fun hlt=>?_) (fun hlt=>?_)
  ·have hlt2:i<rows.length:=by simpa using hlt
   obtain⟨x,hx⟩:∃x,rows[i.toNat]?=some x:=⟨_,List.getElem?_eq_getElem (by omega)⟩
   have hxl:=hrr x (List.mem_of_getElem? hx)
   refine J_read1 3 rfl i.toNat (map_at hx) (by kernel_rfl) (fun b1 off1 cs1 ty1 fz1 a1_0 c1_0 ha1 hrd1=>?_)
   cases ha1
   have hrd1_0:=rd0 (hrd1 0 _ rfl)
   refine J_read1 4 rfl i.toNat (map_at hx) (by kernel_rfl) (fun b2 off2 cs2 ty2 fz2 a2_0 c2_0 ha2 hrd2=>?_)
   cases ha2
   have hrd2_0:=rd0 (hrd2 0 _ rfl)
   try simp only[aQ]
   refine J_skip (J_seq (J_block ?_))
   refine jS [(0,true),(1,true),(2,true),(3,true),(4,true),(5,true),(6,true),(7,true),(8,false),(9,true)] [] ?_
   refine Yp [zR 0,zR 1,.rd 2 [] 0 2,.rd 3 [.r 0 (some (.slice (a1_0,c1_0).fst ((List.map eI (intsN x)).length) c1_0))] 0 0,zR 4,zR 5,.rd 6 [] 0 2,.rd 7 [.r 1 (some (.slice (a2_0,c2_0).fst ((List.map eI (intsN x)).length) c2_0))] 0 0] [131] [zS 137 (a1_0,c1_0).fst ((List.map eI (intsN x)).length) c1_0,zS 141 (a2_0,c2_0).fst ((List.map eI (intsN x)).length) c2_0] (oC hi0 (oC hlt2 (oC hrd1_0 (oC hi0 (oC hlt2 (oC hrd2_0 oN)))))) ?_
   refine Yc 18 #[.slice (a1_0,c1_0).fst ((List.map eI (intsN x)).length) c1_0,.slice (a2_0,c2_0).fst ((List.map eI (intsN x)).length) c2_0] (some 142) fun w S hG=>?_
   refine(sameInts (hG.at 5 rfl) (hG.at 6 rfl) (by simp[intsN];omega)).mono ?_
   rintro e5 w5 hR
   rw[decide_eq_true rfl]at hR
   refine⟨_,_,_,hR,?_⟩
   try simp only[aQ]
   refine Ya [zR 9] [142,137,141] [zB 143 false] ?_
   refine JR_end ?_
   refine cF ?_
   refine J_skip (J_eb ?_)
   refine Zp [zR 0,.rd 1 [] 0 1,zR 2] [143] [zI 16 (i+1)] (oC (show IntKind.i64.wrap (i+1)=i+1 from wrap_i64 (by omega) (by omega)) oN) ?_
   refine J_backx (i+1) [8,13,14,16] [] [] [0,1,2,3,4] ?_ ?_ (by kernel_rfl) rfl rfl rfl
   ·exact⟨by omega,by omega⟩
   ·omega
  ·refine J_exit rfl ?_
   refine Zs [zR 0] [131,13,14,16] [zB 8 true] ?_
   refine Yr [[]] (.bool true) fun a w s=>?_
   exact s.retz (by simp) [] [] rfl rfl
 ·refine⟨_,_,_,hR,?_⟩
  try simp only[aQ]
  refine Ya (Rds 3 8) [109,108,107] [zV 11 (.iface 390 (.pointer (some (er 10)))),zS 13 none 0 0] ?_
  refine JR_end ?_
  refine jS [(0,true),(1,false),(2,true),(3,true),(4,true),(5,false),(6,true),(7,false)] [] ?_
  refine Ya [zR 0] [1] [zS 113 ua l.length uc] ?_
  refine Yc 56 #[.slice ua l.length uc] (some 114) fun w S hG=>?_
  refine(rCuts (hG.at 1 rfl) hl hf).mono ?_
  rintro e3 w3 ⟨ya,yn,yc,hR⟩
  have ey:=(hR.gh.choose_spec.2.2.2 _ (List.mem_cons_self ..)).slen
  rw[List.length_map,cuts_none (by rw[hc];intro h;cases h)]at ey
  subst ey
  refine⟨_,_,_,hR,?_⟩
  rw[hc]
  try simp only[aQ]
  refine Ym (Rds 2 5++[.wr 5 [] 0,zR 6,.wr 7 [.o 0 none,.o 0 none] 0]) [114,113] (fun nu1=>[zS 14 ya 0 yc,zP 15 (nu1 0)]) o0 (fun nu1=>[(nu1 0,.cells #[nI 10,nI (-1)] 105 (0,0))]) [] (fun nu1=>?_)
  refine JR_end (J_seq ?_)
  refine jS [(0,true),(1,true),(2,false),(3,true),(4,true),(5,true),(6,true),(7,true),(8,true),(9,true),(10,true)] [] ?_
  refine Ya [zR 0,.rd 1 [.o 0 none,.o 0 none] 0 0] [15,11] [zV 117 (.iface 390 (.pointer (some (er 10)))),zV 118 (.agg #[nI 10,nI (-1)])] ?_
  refine Yc 47 #[.iface 390 (.pointer (some (er 10))),.agg #[nI 10,nI (-1)]] (some 119) fun w S hG=>?_
  refine(jFaultedErr (k:=10) (hG.at 0 rfl) hI (by omega) (.inr ⟨by decide,rfl⟩) rfl).mono ?_
  rintro e4 w4 hR
  refine⟨_,_,_,hR,?_⟩
  try simp only[aQ]
  refine Ya (Rds 3 11) [119,117,118] [zB 127 false] ?_
  refine JR_end ?_
  refine cF ?_
  refine J_skip (J_seq ?_)
  refine Zs [zR 0] [127] [zI 16 0] ?_
  refine J_block ?_
  refine J_loop1 fun I=>?_
  refine J_seq ?_
  refine Zs (Rds 0 4) [] [zB 131 false] ?_
  refine cF ?_
  refine J_exit rfl ?_
  refine Zs [zR 0] [131,16,14,13] [zB 8 true] ?_
  refine Yr [[]] (.bool true) fun a w s=>?_
  exact s.retz (by simp) [] [] rfl rfl
 ·refine⟨_,_,_,hR,?_⟩
  try simp only[aQ]
  refine Ya (Rds 3 8) [109,108,107] [zV 11 (.iface 202 (.pointer (sA pb 0))),zS 13 none 0 0] ?_
  refine JR_end ?_
  refine jS [(0,true),(1,false),(2,true),(3,true),(4,true),(5,false),(6,true),(7,false)] [] ?_
  refine Ya [zR 0] [1] [zS 113 ua l.length uc] ?_
  refine Yc 56 #[.slice ua l.length uc] (some 114) fun w S hG=>?_
  refine(rCuts (hG.at 1 rfl) hl hf).mono ?_
  rintro e3 w3 ⟨ya,yn,yc,hR⟩
  have ey:=(hR.gh.choose_spec.2.2.2 _ (List.mem_cons_self ..)).slen
  rw[List.length_map,cuts_none (fun h=>by rw[h]at hc1;cases hc1)]at ey
  subst ey
  refine⟨_,_,_,hR,?_⟩
  try simp only[aQ]
  refine Ym (Rds 2 5++[.wr 5 [] 0,zR 6,.wr 7 [.o 0 none,.o 0 none] 0]) [114,113] (fun nu1=>[zS 14 ya 0 yc,zP 15 (nu1 0)]) o0 (fun nu1=>[(nu1 0,.cells #[nI ((↑(cutsE l).snd.code:Int)),nI ((cutsE l).snd.at')] 105 (0,0))]) [] (fun nu1=>?_)
  refine JR_end (J_seq ?_)
  refine jS [(0,true),(1,true),(2,false),(3,true),(4,true),(5,true),(6,true),(7,true),(8,true),(9,true),(10,true)] [] ?_
  refine Ya [zR 0,.rd 1 [.o 0 none,.o 0 none] 0 0] [15,11] [zV 117 (.iface 202 (.pointer (sA pb 0))),zV 118 (.agg #[nI ((↑(cutsE l).snd.code:Int)),nI ((cutsE l).snd.at')])] ?_
  refine Yc 47 #[.iface 202 (.pointer (sA pb 0)),.agg #[nI ((↑(cutsE l).snd.code:Int)),nI ((cutsE l).snd.at')]] (some 119) fun w S hG=>?_
  refine(jFaultedAt (hG.at 0 rfl) hI hc1 hcc (hG.at 3 rfl)).mono ?_
  rintro e4 w4 hR
  refine⟨_,_,_,hR,?_⟩
  try simp only[aQ]
  refine Ya (Rds 3 11) [119,117,118] [zB 127 false] ?_
  refine JR_end ?_
  refine cF ?_
  refine J_skip (J_seq ?_)
  refine Zs [zR 0] [127] [zI 16 0] ?_
  refine J_block ?_
  refine J_loop1 fun I=>?_
  refine J_seq ?_
  refine Zs (Rds 0 4) [] [zB 131 false] ?_
  refine cF ?_
  refine J_exit rfl ?_
  refine Zs [zR 0] [131,16,14,13] [zB 8 true] ?_
  refine Yr [[]] (.bool true) fun a w s=>?_
  exact s.retz (by simp) [] [] rfl rfl
end Go.Proofs.YtmkapocibaojdaaGreatDoor
end
section
namespace Go.Proofs.YtmkapocibaojdaaGreatDoor
open Go Go.Sx
set_option maxHeartbeats 4000000 in
theorem judgeBad {R:Act→World→Prop} {kr:List Itm} {w0:World} {S0:Nat→Prop} {er:Nat→Addr} {eb:Nat→Array Value×TypeId} {ua:Option Addr} {uc:Nat} {l:List EvT} (hI:Inj er)
  (H:J Tryz.prog Tryz.f10 R Tryz.f10.ntmps kr [(1,.val (.slice ua l.length uc)),(8,.val (.bool false))] [] [] [([],zero w0)] ⟨newS S0 [] w0,[],[(.nilIface,dC er eb),(.slice ua l.length uc,.sl 7 (l.map eEv))]⟩) :
  J Tryz.prog Tryz.f10 R Tryz.f10.ntmps (.c (.rg 8 false)::.c (.cond (.tmp 66) (.seq (.rg 9 false) .ret) .skip)::kr) [(1,.val (.slice ua l.length uc)),(8,.val (.bool false)),(10,.val (.bool false)),(11,.val (.iface 390 (.pointer (some (er 2)))))] [] [] [([],zero w0)] ⟨newS S0 [] w0,[],[(.nilIface,dC er eb),(.slice ua l.length uc,.sl 7 (l.map eEv))]⟩:=by
 refine jT [(0,true),(1,false),(2,true),(3,true),(4,true),(5,true)] [] ?_
 refine Ya [zR 0] [] [zV 61 (.iface 390 (.pointer (some (er 2))))] ?_
 refine Yc 52 #[.iface 390 (.pointer (some (er 2))),nI 2] (some 62) fun w S hG=>?_
 refine(jCoded (k:=2) (hG.at 0 rfl) hI (by omega) (.inr ⟨by decide,rfl⟩)).mono ?_
 rintro e1 w1 hR
 refine⟨_,_,_,hR,?_⟩
 try simp only[aQ]
 refine Ya (Rds 2 6) [] [zB 63 false,zB 64 false,zB 65 false,zB 66 false] ?_
 refine JR_end ?_
 refine cF ?_
 refine J_skip ?_
 exact J_cut [1,8] [] [] [0,1] rfl rfl rfl rfl H
set_option maxHeartbeats 8000000 in
theorem judgeSeen {w0:World} {S0:Nat→Prop} {er:Nat→Addr} {eb:Nat→Array Value×TypeId} {ua:Option Addr} {uc:Nat} {a b:Int} {l:List EvT} (hI:Inj er) (hl:l.length≤20) (hf:∀x∈l,Fits x) (hd:∀x∈l,∀o∈x.c.ops,o.dots.length≤1000000) :
  J Tryz.prog Tryz.f10 (retR Tryz.prog Tryz.f10 fun e w'=>Ret [] (zero w0) S0 w' e (.bool true) [] []) Tryz.f10.ntmps [.c (.rg 6 false),.c (.seq (.seq (.rg 7 false) (.cond (.tmp 60) (.seq (.rg 8 false) (.cond (.tmp 66) (.seq (.rg 9 false) .ret) .skip)) (.seq (.rg 10 true) (.seq (.rg 11 false) (.cond (.tmp 80) (.seq (.rg 12 false) (.cond (.tmp 87) (.seq (.rg 13 false) .ret) .skip)) (.seq (.rg 14 true) (.cond (.tmp 105) (.seq (.rg 15 false) .ret) .skip))))))) (.seq (.rg 16 false) (.seq (.rg 17 false) (.seq (.seq (.rg 18 false) (.cond (.tmp 127) (.seq (.rg 19 false) .ret) .skip)) (.seq (.seq (.rg 20 false) (.block 0 (.loop (.seq (.seq (.rg 21 false) (.cond (.tmp 131) .skip (.exit 0))) (.seq (.block 1 (.seq (.rg 23 true) (.cond (.tmp 143) (.seq (.rg 24 false) .ret) .skip))) (.rg 22 false)))))) (.seq (.rg 25 false) .ret))))))]
   [(1,.val (.slice ua l.length uc)),(2,.val (.int .i64 a)),(3,.val (.int .i64 b)),(8,.val (.bool false))] [] [] [([],zero w0)] ⟨newS S0 [] w0,[],[(.nilIface,dC er eb),(.slice ua l.length uc,.sl 7 (l.map eEv))]⟩:=by
 refine jT [(0,true),(1,false),(2,true),(3,true),(4,false),(5,true),(6,true),(7,true),(8,true),(9,true)] [] ?_
 refine Ya [zR 0] [] [zS 36 ua l.length uc] ?_
 refine Yc 49 #[.slice ua l.length uc] (some 37) fun w S hG=>?_
 refine(jEventsOf (hG.at 1 rfl) hl hf hd).mono ?_
 rintro e1 w1 ⟨ra,rc,hR⟩
 refine⟨_,_,_,hR,?_⟩
 by_cases hbad:a<0∨l.length≤a∨b<0∨l.length≤b
 ·try simp only[aQ]
  refine Ya [zR 2,zR 3] [36] [zI 38 a,zI 39 b] ?_
  refine Yc 51 #[.slice ra l.length rc,nI a,nI b] (some 40) fun w S hG=>?_
  refine(jSeenBad (hG.at 0 rfl) (hG.at 2 rfl) hbad).mono ?_
  rintro e2 w2 hR
  refine⟨_,_,_,hR,?_⟩
  try simp only[aQ]
  refine Ya (Rds 5 10) [40,38,39,37] [zB 10 false,zV 11 (.iface 390 (.pointer (some (er 2))))] ?_
  refine JR_end (J_seq (J_seq ?_))
  by_cases h1:a<0
  ·refine Zp [.rd 0 [] 0 0,.rd 1 [] 0 6,.rd 2 [] 0 0,.rd 3 [] 1 0,.rd 4 [] 1 0,.rd 5 [] 1 0,.rd 6 [] 1 0,.rd 7 [] 0 0,.rd 8 [] 0 0,.rd 9 [] 1 0,.rd 10 [] 1 0,.rd 11 [] 0 0,.rd 12 [] 0 0,.rd 13 [] 1 0,.rd 14 [] 1 0,.rd 15 [] 1 0,.rd 16 [] 1 0,.rd 17 [] 0 0] [] [(60,.val (.bool true))] (oC (show decide (a<(0:Int))=true from by simp;omega) oN) ?_
   refine cTt ?_
   refine J_seq ?_
   refine Nm [] ?_
   refine J_cut (E':=[zS 1 ua l.length uc,zB 8 false,zB 10 false,zV 11 (.iface 390 (.pointer (some (er 2))))]) (h':=[]) (C':=[]) (G':=[_,_]) [1,8,10,11] [] [] [0,1] (by kernel_rfl) rfl rfl rfl ?_
   refine judgeBad hI ?_
   refine J_seq ?_
   exact judgeEnd hI hl hf hd
  by_cases h2:(l.length:Int)≤a
  ·refine Zp ([.rd 0 [] 0 0,.rd 1 [] 0 7]++Rds 2 6++[.rd 6 [] 0 6,.rd 7 [] 0 0,.rd 8 [] 0 0,.rd 9 [] 1 0,.rd 10 [] 1 0,.rd 11 [] 0 0,.rd 12 [] 0 0,.rd 13 [] 1 0,.rd 14 [] 1 0,.rd 15 [] 1 0,.rd 16 [] 1 0,.rd 17 [] 0 0]) [] [(60,.val (.bool true))] (oC (show decide (a<(0:Int))=false from by simp;omega) (oC (show decide (a≥(↑l.length:Int))=true from by simp;omega) oN)) ?_
   refine cTt ?_
   refine J_seq ?_
   refine Nm [] ?_
   refine J_cut (E':=[zS 1 ua l.length uc,zB 8 false,zB 10 false,zV 11 (.iface 390 (.pointer (some (er 2))))]) (h':=[]) (C':=[]) (G':=[_,_]) [1,8,10,11] [] [] [0,1] (by kernel_rfl) rfl rfl rfl ?_
   refine judgeBad hI ?_
   refine J_seq ?_
   exact judgeEnd hI hl hf hd
  by_cases h3:b<0
  ·refine Zp ([.rd 0 [] 0 0,.rd 1 [] 0 7]++Rds 2 6++[.rd 6 [] 0 7]++Rds 7 10++[.rd 10 [] 0 6,.rd 11 [] 0 0,.rd 12 [] 0 0,.rd 13 [] 1 0,.rd 14 [] 1 0,.rd 15 [] 1 0,.rd 16 [] 1 0,.rd 17 [] 0 0]) [] [(60,.val (.bool true))] (oC (show decide (a<(0:Int))=false from by simp;omega) (oC (show decide (a≥(↑l.length:Int))=false from by simp;omega) (oC (show decide (b<(0:Int))=true from by simp;omega) oN))) ?_
   refine cTt ?_
   refine J_seq ?_
   refine Nm [] ?_
   refine J_cut (E':=[zS 1 ua l.length uc,zB 8 false,zB 10 false,zV 11 (.iface 390 (.pointer (some (er 2))))]) (h':=[]) (C':=[]) (G':=[_,_]) [1,8,10,11] [] [] [0,1] (by kernel_rfl) rfl rfl rfl ?_
   refine judgeBad hI ?_
   refine J_seq ?_
   exact judgeEnd hI hl hf hd
  have h4:(l.length:Int)≤b:=by omega
  refine Zp ([zR 0,.rd 1 [] 0 7]++Rds 2 6++[.rd 6 [] 0 7]++Rds 7 10++[.rd 10 [] 0 7]++Rds 11 16++[.rd 16 [] 0 6,zR 17]) [] [zB 60 true] (oC (show decide (a<(0:Int))=false from by simp;omega) (oC (show decide (a≥(↑l.length:Int))=false from by simp;omega) (oC (show decide (b<(0:Int))=false from by simp;omega) (oC (show decide (b≥(↑l.length:Int))=true from by simp;omega) oN)))) ?_
  refine cTt ?_
  refine J_seq ?_
  refine Nm [] ?_
  refine J_cut (E':=[zS 1 ua l.length uc,zB 8 false,zB 10 false,zV 11 (.iface 390 (.pointer (some (er 2))))]) (h':=[]) (C':=[]) (G':=[_,_]) [1,8,10,11] [] [] [0,1] (by kernel_rfl) rfl rfl rfl ?_
  refine judgeBad hI ?_
  refine J_seq ?_
  exact judgeEnd hI hl hf hd
 ·obtain⟨x,hx⟩:∃x,l[a.toNat]?=some x:=⟨_,List.getElem?_eq_getElem (by omega)⟩
  obtain⟨y,hy⟩:∃y,l[b.toNat]?=some y:=⟨_,List.getElem?_eq_getElem (by omega)⟩
  have hfx:=hf x (List.mem_of_getElem? hx)
  have hfy:=hf y (List.mem_of_getElem? hy)
  have hfw:=hfx.wh
  have hfa:=hfy.at'
  have h1:¬a<0:=by omega
  have h2:¬(l.length:Int)≤a:=by omega
  have h3:¬b<0:=by omega
  have h4:¬(l.length:Int)≤b:=by omega
  try simp only[aQ]
  refine Ya [zR 2,zR 3] [36] [zI 38 a,zI 39 b] ?_
  refine Yc 51 #[.slice ra l.length rc,nI a,nI b] (some 40) fun w S hG=>?_
  refine(jSeenOk (hG.at 0 rfl) (hG.at 2 rfl) (by omega) (by omega) hx hy hfw (by omega)).mono ?_
  rintro e2 w2 (⟨ht,hR⟩|⟨ht,hR⟩)
  ·refine⟨_,_,_,hR,?_⟩
   try simp only[aQ]
   refine Ya (Rds 5 10) [40,38,39,37] [zB 10 false,zV 11 (.iface 390 (.pointer (some (er (twoErr x.c.when y.at')))))] ?_
   refine JR_end (J_seq ?_)
   refine Zt ([zR 0,.rd 1 [] 0 7]++Rds 2 6++[.rd 6 [] 0 7]++Rds 7 10++[.rd 10 [] 0 7]++Rds 11 16++[.rd 16 [] 0 7,zR 17]) [] [zB 60 false] (oC (show decide (a<(0:Int))=false from by simp;omega) (oC (show decide (a≥(↑l.length:Int))=false from by simp;omega) (oC (show decide (b<(0:Int))=false from by simp;omega) (oC (show decide (b≥(↑l.length:Int))=false from by simp;omega) oN)))) ?_
   refine cF ?_
   refine J_seq ?_
   refine J_read4 1 rfl a.toNat (map_at hx) (by kernel_rfl) (fun b1 off1 cs1 ty1 fz1 a1_0 c1_0 a1_1 c1_1 a1_2 c1_2 a1_3 c1_3 ha1 hrd1=>?_)
   cases ha1
   have hrd1_0:=rd0 (hrd1 0 _ rfl)
   have hrd1_1:=hrd1 1 _ rfl
   have hrd1_2:=hrd1 2 _ rfl
   have hrd1_3:=hrd1 3 _ rfl
   have hrd1_4:=hrd1 4 _ rfl
   have hrd1_5:=hrd1 5 _ rfl
   have hrd1_6:=hrd1 6 _ rfl
   refine J_again4 1 rfl 0 rfl b.toNat (map_at hy) (by kernel_rfl) (fun a2_0 c2_0 a2_1 c2_1 a2_2 c2_2 a2_3 c2_3 hrd2=>?_)
   have hrd2_0:=rd0 (hrd2 0 _ rfl)
   have hrd2_1:=hrd2 1 _ rfl
   have hrd2_2:=hrd2 2 _ rfl
   have hrd2_3:=hrd2 3 _ rfl
   have hrd2_4:=hrd2 4 _ rfl
   have hrd2_5:=hrd2 5 _ rfl
   have hrd2_6:=hrd2 6 _ rfl
   try simp only[aQ]
   refine jT [(0,true),(1,true),(2,true),(3,true),(4,true),(5,true),(6,true),(7,true),(8,true),(9,true),(10,true),(11,false),(12,true)] [] ?_
   refine Yp [zR 0,zR 1,.rd 2 [] 0 2,zR 3,zR 4,.rd 5 [.r 0 (some (.slice (a1_2,c1_2).fst ((List.map eI x.c.when).length) c1_2))] 0 0,zR 6,zR 7,.rd 8 [] 0 2,zR 9,.rd 10 [.r 0 (some (.slice (a2_0,c2_0).fst ((List.map eI y.at').length) c2_0))] 0 0] [60] [zS 72 (a1_2,c1_2).fst ((List.map eI x.c.when).length) c1_2,zS 77 (a2_0,c2_0).fst ((List.map eI y.at').length) c2_0] (oC (show 0≤a from by omega) (oC (show a<(↑l.length:Int) from by omega) (oC hrd1_4 (oC (show 0≤b from by omega) (oC (show b<(↑l.length:Int) from by omega) (oC hrd2_2 oN)))))) ?_
   refine Yc 53 #[.slice (a1_2,c1_2).fst ((List.map eI x.c.when).length) c1_2,.slice (a2_0,c2_0).fst ((List.map eI y.at').length) c2_0] (some 78) fun w S hG=>?_
   refine(rTwoErr (hG.at 5 rfl) (hG.at 7 rfl) hfw (by omega)).mono ?_
   rintro e3 w3 hR
   refine⟨_,_,_,hR,?_⟩
   have ht2:(0:Int)<(twoErr x.c.when y.at':Nat):=by omega
   try simp only[aQ]
   refine Ya [zR 12] [78,72,77] [zI 12 ((↑(twoErr x.c.when y.at'):Int))] ?_
   refine JR_end ?_
   refine Zt [zR 0,.rd 1 [] 0 6] [] [zB 80 true] (oC (show decide ((↑(twoErr x.c.when y.at'):Int)>(0:Int))=true from by simp;omega) oN) ?_
   refine cTt ?_
   refine jS [(0,true),(1,true),(2,false),(3,true),(4,true),(5,true),(6,true)] [] ?_
   refine Ya [zR 0,zR 1] [80,12,2,3] [zV 81 (.iface 390 (.pointer (some (er (twoErr x.c.when y.at'))))),zI 82 ((↑(twoErr x.c.when y.at'):Int))] ?_
   refine Yc 52 #[.iface 390 (.pointer (some (er (twoErr x.c.when y.at')))),nI ((↑(twoErr x.c.when y.at'):Int))] (some 83) fun w S hG=>?_
   refine(jCoded (k:=twoErr x.c.when y.at') (hG.at 0 rfl) hI (two_le _ _) (.inr ⟨ht,rfl⟩)).mono ?_
   rintro e4 w4 hR
   rw[decide_eq_true rfl]at hR
   refine⟨_,_,_,hR,?_⟩
   try simp only[aQ]
   refine Ya (Rds 3 7) [83,81,82,10] [zB 87 false] ?_
   refine JR_end ?_
   refine cF ?_
   refine J_skip (J_seq ?_)
   refine Nm [] ?_
   refine J_cut (E':=[zS 1 (some ⟨b1,off1,none⟩) l.length uc,zB 8 false]) (h':=[]) (C':=[]) (G':=[_,_]) [1,8] [] [] [0,1] (by kernel_rfl) rfl rfl rfl ?_
   exact judgeEnd hI hl hf hd
  ·refine⟨_,_,_,hR,?_⟩
   try simp only[aQ]
   refine Ya (Rds 5 10) [40,38,39,37] [zB 10 (inL x.c.when y.at'),zV 11 .nilIface] ?_
   refine JR_end (J_seq ?_)
   refine Zt ([zR 0,.rd 1 [] 0 7]++Rds 2 6++[.rd 6 [] 0 7]++Rds 7 10++[.rd 10 [] 0 7]++Rds 11 16++[.rd 16 [] 0 7,zR 17]) [] [zB 60 false] (oC (show decide (a<(0:Int))=false from by simp;omega) (oC (show decide (a≥(↑l.length:Int))=false from by simp;omega) (oC (show decide (b<(0:Int))=false from by simp;omega) (oC (show decide (b≥(↑l.length:Int))=false from by simp;omega) oN)))) ?_
   refine cF ?_
   refine J_seq ?_
   refine J_read4 1 rfl a.toNat (map_at hx) (by kernel_rfl) (fun b1 off1 cs1 ty1 fz1 a1_0 c1_0 a1_1 c1_1 a1_2 c1_2 a1_3 c1_3 ha1 hrd1=>?_)
   cases ha1
   have hrd1_0:=rd0 (hrd1 0 _ rfl)
   have hrd1_1:=hrd1 1 _ rfl
   have hrd1_2:=hrd1 2 _ rfl
   have hrd1_3:=hrd1 3 _ rfl
   have hrd1_4:=hrd1 4 _ rfl
   have hrd1_5:=hrd1 5 _ rfl
   have hrd1_6:=hrd1 6 _ rfl
   refine J_again4 1 rfl 0 rfl b.toNat (map_at hy) (by kernel_rfl) (fun a2_0 c2_0 a2_1 c2_1 a2_2 c2_2 a2_3 c2_3 hrd2=>?_)
   have hrd2_0:=rd0 (hrd2 0 _ rfl)
   have hrd2_1:=hrd2 1 _ rfl
   have hrd2_2:=hrd2 2 _ rfl
   have hrd2_3:=hrd2 3 _ rfl
   have hrd2_4:=hrd2 4 _ rfl
   have hrd2_5:=hrd2 5 _ rfl
   have hrd2_6:=hrd2 6 _ rfl
   try simp only[aQ]
   refine jT [(0,true),(1,true),(2,true),(3,true),(4,true),(5,true),(6,true),(7,true),(8,true),(9,true),(10,true),(11,false),(12,true)] [] ?_
   refine Yp [zR 0,zR 1,.rd 2 [] 0 2,zR 3,zR 4,.rd 5 [.r 0 (some (.slice (a1_2,c1_2).fst ((List.map eI x.c.when).length) c1_2))] 0 0,zR 6,zR 7,.rd 8 [] 0 2,zR 9,.rd 10 [.r 0 (some (.slice (a2_0,c2_0).fst ((List.map eI y.at').length) c2_0))] 0 0] [60] [zS 72 (a1_2,c1_2).fst ((List.map eI x.c.when).length) c1_2,zS 77 (a2_0,c2_0).fst ((List.map eI y.at').length) c2_0] (oC (show 0≤a from by omega) (oC (show a<(↑l.length:Int) from by omega) (oC hrd1_4 (oC (show 0≤b from by omega) (oC (show b<(↑l.length:Int) from by omega) (oC hrd2_2 oN)))))) ?_
   refine Yc 53 #[.slice (a1_2,c1_2).fst ((List.map eI x.c.when).length) c1_2,.slice (a2_0,c2_0).fst ((List.map eI y.at').length) c2_0] (some 78) fun w S hG=>?_
   refine(rTwoErr (hG.at 5 rfl) (hG.at 7 rfl) hfw (by omega)).mono ?_
   rintro e3 w3 hR
   rw[ht]at hR
   refine⟨_,_,_,hR,?_⟩
   try simp only[aQ]
   refine Ya [zR 12] [78,72,77] [zI 12 0] ?_
   refine JR_end ?_
   refine Zs [zR 0,zR 1] [] [zB 80 false] ?_
   refine cF ?_
   refine jS [(0,true),(1,true),(2,true),(3,true),(4,true),(5,true),(6,true),(7,true),(8,true),(9,true),(10,true),(11,true),(12,true),(13,true),(14,true),(15,false),(16,true),(17,true)] [] ?_
   refine Yp (Rds 0 6++[.rd 6 [] 0 2,zR 7,zR 8,.rd 9 [.r 0 (some (.slice (a1_2,c1_2).fst ((List.map eI x.c.when).length) c1_2))] 0 0,zR 10,zR 11,.rd 12 [] 0 2,zR 13,.rd 14 [.r 0 (some (.slice (a2_0,c2_0).fst ((List.map eI y.at').length) c2_0))] 0 0]) [80,12,10,2,3] [zB 90 false,zB 91 (inL x.c.when y.at'),zS 97 (a1_2,c1_2).fst ((List.map eI x.c.when).length) c1_2,zS 102 (a2_0,c2_0).fst ((List.map eI y.at').length) c2_0] (oC (show 0≤a from by omega) (oC (show a<(↑l.length:Int) from by omega) (oC hrd1_4 (oC (show 0≤b from by omega) (oC (show b<(↑l.length:Int) from by omega) (oC hrd2_2 oN)))))) ?_
   refine Yc 54 #[.slice (a1_2,c1_2).fst ((List.map eI x.c.when).length) c1_2,.slice (a2_0,c2_0).fst ((List.map eI y.at').length) c2_0] (some 103) fun w S hG=>?_
   refine(rIn (hG.at 5 rfl) (hG.at 7 rfl) hfw (two_of ht).2.2).mono ?_
   rintro e4 w4 hR
   refine⟨_,_,_,hR,?_⟩
   cases hin:inL x.c.when y.at' with
   | false=>
     try simp only[aQ]
     refine Ya [zR 16,zR 17] [103,90,91,97,102] [zB 105 false] ?_
     refine JR_end ?_
     refine cF ?_
     refine J_skip (J_seq ?_)
     refine Nm [] ?_
     refine J_cut (E':=[zS 1 (some ⟨b1,off1,none⟩) l.length uc,zB 8 false]) (h':=[]) (C':=[]) (G':=[_,_]) [1,8] [] [] [0,1] (by kernel_rfl) rfl rfl rfl ?_
     exact judgeEnd hI hl hf hd
   | true=>
     try simp only[aQ]
     refine Ya [zR 16,zR 17] [103,90,91,97,102] [zB 105 false] ?_
     refine JR_end ?_
     refine cF ?_
     refine J_skip (J_seq ?_)
     refine Nm [] ?_
     refine J_cut (E':=[zS 1 (some ⟨b1,off1,none⟩) l.length uc,zB 8 false]) (h':=[]) (C':=[]) (G':=[_,_]) [1,8] [] [] [0,1] (by kernel_rfl) rfl rfl rfl ?_
     exact judgeEnd hI hl hf hd
end Go.Proofs.YtmkapocibaojdaaGreatDoor
end
section
namespace Go.Proofs.YtmkapocibaojdaaGreatDoor
open Go Go.Sx
set_option maxHeartbeats 8000000 in
theorem judgeChecks {w:World} {S:Nat→Prop} {er:Nat→Addr} {eb:Nat→Array Value×TypeId} {ua:Option Addr} {un uc:Nat} {places a b:Int} {l:List EvT} (hC:Rep w S .nilIface (dC er eb)) (hI:Inj er) (h:Rep w S (.slice ua un uc) (.sl 7 (l.map eEv))) (hlen:l.length≤9223372036854775807) :
  Calls Tryz.prog 10 #[.int .i64 places,.slice ua un uc,.int .i64 a,.int .i64 b] w fun e w'=>Ret [] (zero w) S w' e (.bool true) [] []:=by
 have e1:=h.slen
 rw[List.length_map]at e1
 subst e1
 refine epG Tryz.func10 bd10 (args:=[.int .i64 places,.slice ua l.length uc,.int .i64 a,.int .i64 b]) (S:=S) (G:=[(_,dC er eb),(_,.sl 7 (l.map eEv))]) (by kernel_rfl) (.cons hC (.cons h (.nil _ _))) ?_
 refine J_zero ?_
 refine Zs [zR 0] [] [zB 8 false] ?_
 refine jS [(0,false),(1,true)] [] ?_
 refine JR_callzp [] 45 #[] (some 17) zero_all (by kernel_rfl) (fun w S hG=>?_)
 refine(jJudged (hG.at 0 rfl) hI).mono ?_
 rintro e1 w1 hR
 refine⟨_,_,_,hR,?_⟩
 try simp only[aQ]
 refine Ya [zR 1] [17] [zB 9 true] ?_
 refine JR_end (J_seq ?_)
 refine jS [(0,true),(1,true),(2,true),(3,true),(4,false),(5,true),(6,true)] [] ?_
 refine Ya (Rds 0 4) [] [zB 20 false,zS 21 ua l.length uc] ?_
 refine Yc 46 #[.slice ua l.length uc] (some 22) fun w S hG=>?_
 refine(jFit (hG.at 1 rfl) hlen).mono ?_
 rintro e2 w2 hR
 refine⟨_,_,_,hR,?_⟩
 cases hfit:fitE l
 ·try simp only[aQ]
  refine Ya [zR 5,zR 6] [22,20,21] [zB 24 true] ?_
  refine JR_end ?_
  refine cTt ?_
  refine Zs [zR 0,zR 1] [24,9] [zB 8 true] ?_
  refine Yr [[]] (.bool true) fun a w s=>?_
  exact s.retz (by simp) [] [] rfl rfl
 obtain⟨hl,hf,hd⟩:=fits_of hfit
 try simp only[aQ]
 refine Ya [zR 5,zR 6] [22,20,21] [zB 24 false] ?_
 refine JR_end ?_
 refine cF ?_
 refine J_skip (J_seq ?_)
 refine jS [(0,true),(1,true),(2,false),(3,false),(4,true),(5,true),(6,false),(7,false),(8,true)] [] ?_
 refine Ya [zR 0,zR 1] [24,9] [zI 26 places,zS 27 ua l.length uc] ?_
 refine Yc 49 #[.slice ua l.length uc] (some 28) fun w S hG=>?_
 refine(jEventsOf (hG.at 1 rfl) hl hf hd).mono ?_
 rintro e3 w3 ⟨ra,rc,hR⟩
 refine⟨_,_,_,hR,?_⟩
 try simp only[aQ]
 refine JR_callzp [] 48 #[.int .i64 places,.slice ra l.length rc] (some 29) zero_all (by kernel_rfl) (fun w S hG=>?_)
 refine(jCheck (places:=places) (hG.at 0 rfl) (hG.at 2 rfl) hl hf).mono ?_
 rintro e4 w4 (⟨ha,v,hR,hv⟩|⟨h1,h0,pb,hR⟩)
 ·have hvo:v.oneCell'=true:=by rcases hv with ⟨_,rfl⟩|⟨_,rfl⟩ <;> rfl
  refine⟨_,_,_,hR,?_⟩
  try simp only[aQ]
  refine Ya [zR 4,zR 5] [28,26,27,0] [zI 30 places,zS 31 ua l.length uc] ?_
  refine Yc 50 #[nI places,.slice ua l.length uc] (some 32) fun w S hG=>?_
  refine(rEventsFault (places:=places) (hG.at 1 rfl) hl hf).mono ?_
  rintro e5 w5 hR
  refine⟨_,_,_,hR,?_⟩
  try simp only[aQ]
  refine Yc 47 #[v,.agg #[nI ((↑(evFault places l).code:Int)),nI ((evFault places l).at')]] (some 33) fun w S hG=>?_
  refine(jFaultedErr (hG.at 0 rfl) hI (ev_code places l) hv ha).mono ?_
  rintro e6 w6 hR
  refine⟨_,_,_,hR,?_⟩
  try simp only[aQ]
  refine Ya [zR 8] [33,32,30,31,29] [zB 34 false] ?_
  refine JR_end ?_
  refine cF ?_
  refine J_skip (J_seq ?_)
  refine Nm [] ?_
  refine J_cut (E':=[zS 1 ua l.length uc,zI 2 a,zI 3 b,zB 8 false]) (h':=[]) (C':=[]) (G':=[_,_]) [1,2,3,8] [] [] [0,1] (by kernel_rfl) rfl rfl rfl ?_
  exact judgeSeen hI hl hf hd
 ·refine⟨_,_,_,hR,?_⟩
  try simp only[aQ]
  refine Ya [zR 4,zR 5] [28,26,27,0] [zI 30 places,zS 31 ua l.length uc] ?_
  refine Yc 50 #[nI places,.slice ua l.length uc] (some 32) fun w S hG=>?_
  refine(rEventsFault (places:=places) (hG.at 1 rfl) hl hf).mono ?_
  rintro e5 w5 hR
  refine⟨_,_,_,hR,?_⟩
  try simp only[aQ]
  refine Yc 47 #[.iface 202 (.pointer (sA pb 0)),.agg #[nI ((↑(evFault places l).code:Int)),nI ((evFault places l).at')]] (some 33) fun w S hG=>?_
  refine(jFaultedAt (hG.at 0 rfl) hI h1 (ev_code places l) (hG.at 3 rfl)).mono ?_
  rintro e6 w6 hR
  refine⟨_,_,_,hR,?_⟩
  try simp only[aQ]
  refine Ya [zR 8] [33,32,30,31,29] [zB 34 false] ?_
  refine JR_end ?_
  refine cF ?_
  refine J_skip (J_seq ?_)
  refine Nm [] ?_
  refine J_cut (E':=[zS 1 ua l.length uc,zI 2 a,zI 3 b,zB 8 false]) (h':=[]) (C':=[]) (G':=[_,_]) [1,2,3,8] [] [] [0,1] (by kernel_rfl) rfl rfl rfl ?_
  exact judgeSeen hI hl hf hd
end Go.Proofs.YtmkapocibaojdaaGreatDoor
end
section
namespace Go.Sx
open Go Go.RowKit Go.ChangeShapes Go.WideShapes
theorem Fr.below {w w':World} (h:Fr [] w w'):Below w.heap.size w w':=⟨h.os,h.tape,h.output,h.size,fun b hb=>h.block b hb (by simp)⟩
theorem cell_blk {w:World} {a:Addr} {v:Value} (h:w.cell? a=some v):∃cs ty fz,w.heap[a.block]?=some (.cells cs ty fz)∧a.spot=none∧cs[a.off]?=some v:=by
 unfold World.cell? at h
 split at h
 ·rename_i cs ty fz hb
  split at h
  ·cases h
  ·rename_i hs
   exact⟨cs,ty,fz,hb,by simpa using hs,h⟩
 ·cases h
section
variable {H:Type} {enc:TypeId×Value→H} {P:Program}
theorem rep_var {W:World} {n:String} {g:Nat} {x:Value} (hg:P.globalNamed n=some g) (h:W.var? P n=some #[x]) (hx:x.oneCell'=true):Rep W (fun _=>True) (.pointer (some ⟨g,0,none⟩)) (.ptr [.v x]):=by
 unfold World.var? at h
 simp only[hg,Option.bind_some]at h
 split at h
 ·rename_i cs ty fz hb
  cases h
  refine .ptr (fun _=>x) hb trivial (fun j hj=>?_) (fun j d hj=>?_)
  ·obtain rfl:j=0:=by simpa using hj
   rfl
  ·match j,hj with
   | 0,hj=>
    simp only[List.getElem?_cons_zero,Option.some.injEq]at hj
    subst hj
    exact .v hx
   | j+1,hj=>simp at hj
 ·cases h
theorem sents {W:World} {ti tp te ts:TypeId} {ms:Array (String×TypeId)} {nm:String} {f:Field} (hi:P.underlying ti=some (.interface ms)) (hrow:∀u,P.typeName? 3 u=some nm→u=tp)
  (hp:P.underlying tp=some (.pointer te)) (he:P.underlying te=some (.struct #[f])) (hft:f.type=ts) (hfo:f.offset=0) (hs:P.underlying ts=some .string) (hc:P.cellsOf te=1) (hcs:P.cellsOf ts=1) :
  ∀(ns:List (String×List UInt8)) (ps:List MemPlace),DataW.LaidVars P W (ns.map fun x=>(x.1,DataW.iface nm (.ptr (.agg [.lit (.string x.2)])))) ps →
   ns.all (fun x=>match P.globalNamed x.1 with
    | some g=>(P.globals[g]?).map (·.type)==some ti
    | none=>false)=true →
   (∀b off,MemPlace.cell b off∈ps→∀u v,W.cell? ⟨b,off,none⟩=some (.iface u v)→Value.okWide P W .any 0 u v) →
   ∃adz:List Addr,adz.length=ns.length∧(∀(i:Nat) x a,ns[i]?=some x→adz[i]?=some a→W.var? P x.1=some #[.iface tp (.pointer (some a))]∧a.spot=none)∧(adz.map fun a=>MemPlace.cell a.block a.off).Sublist ps
 | [],ps,_,_,_=>⟨[],rfl,by simp,by simp⟩
 | (n,text)::ns,ps,h,hg,hr=>by
  rw[List.map_cons]at h
  obtain⟨g0,t0,cs0,f0,p0,q0,hg0,ht0,hv0,hd0,hq,e0⟩:=h
  rw[List.all_cons,Bool.and_eq_true]at hg
  obtain⟨hg1,hg2⟩:=hg
  simp only[hg0,ht0,beq_iff_eq,Option.some.injEq]at hg1
  subst hg1 e0
  obtain⟨l0⟩:=cs0
  have ok0:∀u v,l0=[.iface u v]→Value.okWide P W .any 0 u v:=fun u v e=>by
   subst e
   exact hr g0 0 (by simp[MemPlace.row]) u v (by simpa using World.var?_cell hg0 hv0 0)
  obtain⟨a0,s0,rfl,hc0,hs0,hz0,rfl⟩:=errorString_of_trod hi hrow hp he hft hfo hs hc hcs hd0 ok0
  obtain⟨adz,h1,h2,h3⟩:=sents hi hrow hp he hft hfo hs hc hcs ns q0 hq hg2 fun b off hm=>hr b off (List.mem_append_right _ hm)
  obtain⟨_,_,_,_,hspot,_⟩:=cell_blk hc0
  refine⟨a0::adz,by simp[h1],fun i x a hx ha=>?_,?_⟩
  ·cases i with
   | zero=>
    simp only[List.getElem?_cons_zero,Option.some.injEq]at hx ha
    subst hx ha
    exact⟨hv0,hspot⟩
   | succ i=>
    simp only[List.getElem?_cons_succ]at hx ha
    exact h2 i x a hx ha
  ·rw[List.map_cons,List.append_assoc]
   refine(List.Sublist.cons_cons _ h3).trans (?_:List.Sublist _ (MemPlace.row a0 1++q0)) |>.trans (List.sublist_append_right _ _)
   simp[MemPlace.row]
theorem errs_of {W:World} {ti tp te ts:TypeId} {ms:Array (String×TypeId)} {nm:String} {f:Field} (hi:P.underlying ti=some (.interface ms)) (hrow:∀u,P.typeName? 3 u=some nm→u=tp)
  (hp:P.underlying tp=some (.pointer te)) (he:P.underlying te=some (.struct #[f])) (hft:f.type=ts) (hfo:f.offset=0) (hs:P.underlying ts=some .string) (hc:P.cellsOf te=1) (hcs:P.cellsOf ts=1)
  (ns:List (String×List UInt8)) (h:laidMet P (ns.map fun x=>(x.1,DataW.iface nm (.ptr (.agg [.lit (.string x.2)])))) W)
  (hg:ns.all (fun x=>match P.globalNamed x.1 with
    | some g=>(P.globals[g]?).map (·.type)==some ti
    | none=>false)=true) :
  ∃(er:Nat→Addr) (eb:Nat→Array Value×TypeId),(∀(i:Nat) x,ns[i]?=some x→W.var? P x.1=some #[.iface tp (.pointer (some (er (i+1))))]∧W.heap[(er (i+1)).block]?=some (.cells (eb (i+1)).1 (eb (i+1)).2 (0,0))) ∧
   ∀i j,1≤i→i≤ns.length→1≤j→j≤ns.length→er i=er j→i=j:=by
 obtain⟨ps,hv,hnd,hrows⟩:=h
 obtain⟨adz,h1,h2,h3⟩:=sents hi hrow hp he hft hfo hs hc hcs ns ps hv hg fun b off hm=>(hrows b off hm).2
 have hnd2:=h3.nodup hnd
 have key:∀i:Nat,i<ns.length→∃a,adz[i]?=some a:=fun i hi=>⟨_,List.getElem?_eq_getElem (by omega)⟩
 have hcell:∀(i:Nat) a,adz[i]?=some a→∃c:Array Value×TypeId,W.heap[a.block]?=some (.cells c.1 c.2 (0,0)):=fun i a ha=>by
  obtain⟨c,t,hct⟩:=(hrows a.block a.off (h3.subset (List.mem_map.2 ⟨a,List.mem_of_getElem? ha,rfl⟩))).1
  exact⟨(c,t),hct⟩
 classical
 refine⟨fun k=>adz.getD (k - 1) ⟨0,0,none⟩,fun k=>if hx:∃c:Array Value×TypeId,W.heap[(adz.getD (k - 1) ⟨0,0,none⟩).block]?=some (.cells c.1 c.2 (0,0))then hx.choose else (#[],0),fun i x hx=>?_,fun i j hi1 hi2 hj1 hj2 he=>?_⟩
 ·obtain⟨a,ha⟩:=key i (List.getElem?_eq_some_iff.1 hx).1
  have e:adz.getD (i+1 - 1) ⟨0,0,none⟩=a:=by simp[List.getD_eq_getElem?_getD,ha]
  have hh:=hcell i a ha
  simp only[e]
  refine⟨(h2 i x a hx ha).1,?_⟩
  rw[dif_pos hh]
  exact hh.choose_spec
 ·obtain⟨a,ha⟩:=key (i - 1) (by omega)
  obtain⟨b,hb⟩:=key (j - 1) (by omega)
  simp only[List.getD_eq_getElem?_getD,ha,hb,Option.getD_some]at he
  subst he
  have e1:(adz.map fun a=>MemPlace.cell a.block a.off)[i - 1]?=some (.cell a.block a.off):=by simp[ha]
  have e2:(adz.map fun a=>MemPlace.cell a.block a.off)[j - 1]?=some (.cell a.block a.off):=by simp[hb]
  have:=(List.getElem?_inj (List.getElem?_eq_some_iff.1 e1).1 hnd2).1 (e1.trans e2.symm)
  omega
theorem trodAll_again (hl:laidOutB P=true) {W W':World} {sp:Nat→Bool} (hb:Below W.heap.size W W'):∀{ts:List TypeId} {vs:List Value} {ds:List (DataW H)} {ps:List MemPlace},
  (∀t∈ts,P.readableRec t=true∧t<P.types.size)→DataW.TrodAll enc P W 0 (fun _=>true) true ts vs ds ps→(∀x∈ps,x.block<W.heap.size)→(∀x∈ps,sp x.block=true)→DataW.TrodAll enc P W' 0 sp true ts vs ds ps
 | [],vs,ds,ps,_,h,_,_=>by
  obtain⟨rfl,rfl,rfl⟩:=trodAll_nil h
  exact trodAll_mk0
 | t::ts,vs,ds,ps,ht,h,hlt,hsp=>by
  obtain⟨v,vs',d,ds',p,q,rfl,rfl,rfl,h0,h1⟩:=trodAll_cons h
  obtain⟨hr,hrow⟩:=ht t (List.mem_cons_self ..)
  refine trodAll_cons_mk (WideElems.Trod_stays hl hr hrow h0 (fun x hx=>hb.same (hlt x (List.mem_append_left _ hx))) fun x hx=>hsp x (List.mem_append_left _ hx)) ?_
  exact trodAll_again hl hb (fun t ht'=>ht t (List.mem_cons_of_mem _ ht')) h1 (fun x hx=>hlt x (List.mem_append_right _ hx)) fun x hx=>hsp x (List.mem_append_right _ hx)
theorem law_post {f:Func} {s:ChangeSpec} {apart fresh handsOn again:Bool} {W W':World} {args:Array Value} {ds gs:List (DataW H)} {before:List MemPlace} {tb:TypeId}
  (hl:laidOutB P=true) (hts:f.params.toList.all (fun t=>P.readableRec t&&Nat.blt t P.types.size)=true) (hb4:P.underlying tb=some .bool) (hrt:f.resultTypes = #[tb]) (hvs:s.vars=[])
  (hW:DataW.Whole enc P f.params.toList s.vars apart W args.toList ds gs before) (hfn:∀gs,gs=[]→s.fn H (ds++gs)={ results:=[.lit (.bool true)],args:=ds })
  (hb:Below W.heap.size W W'):s.post enc P f apart fresh handsOn again W args (.bool true) W':=by
 have hlt:∀x∈before,x.block<W.heap.size:=fun x hx=>hW.lt x hx
 have hold:∀x∈before,(fun b=>decide (b<W.heap.size)) x.block=true:=fun x hx=>by simpa using hlt x hx
 have hW':=hW
 obtain⟨p,q,hA,hV,hpq,hz,hn⟩:=hW'
 rw[hvs]at hV
 obtain⟨rfl,rfl⟩:=trodVars_none hV
 rw[List.append_nil]at hpq
 subst hpq
 have hfn:=hfn [] rfl
 have htt:∀t∈f.params.toList,P.readableRec t=true∧t<P.types.size:=fun t ht=>by
  have:=List.all_eq_true.1 hts t ht
  simp only[Bool.and_eq_true]at this
  exact⟨this.1,Nat.lt_of_succ_le (Nat.le_of_ble_eq_true this.2)⟩
 have hres:∀(b:Nat) (sp:Nat→Bool) (hd:Bool),DataW.TrodAll enc P W' b sp hd f.resultTypes.toList ((Value.bool true).resultList f.resultTypes.size) (s.fn H (ds++[])).results []:=fun b sp hd=>by
  rw[hfn,hrt]
  exact trodAll_mk1 ⟨1,by simp[DataW.trod,Value.cells,hb4]⟩
 have hargs:∀sp:Nat→Bool,(∀x∈before,sp x.block=true)→DataW.TrodAll enc P W' 0 sp true f.params.toList args.toList (s.fn H (ds++[])).args before:=fun sp hsp=>by
  rw[hfn]
  exact trodAll_again hl hb htt hA hlt hsp
 have hvars:∀sp:Nat→Bool,DataW.TrodVars enc P W' sp s.vars (s.fn H (ds++[])).vars []:=fun sp=>by
  rw[hvs,hfn]
  rfl
 refine⟨ds,[],before,[],before,[],hW,hres _ _ _,hargs _ hold,hvars _,World.keptBut_mono (fun x hx=>⟨hx,.inr (.inl hx)⟩) (hb.frame (·∈before)),fun _=>?_⟩
 refine⟨?_,_,_,([]++before)++[],⟨[]++before,[],trodAll_append (hargs _ (fun _ _=>rfl)) (hres _ _ _),hvars _,rfl,?_,?_⟩,?_⟩
 ·intro j t r hj hv
  rw[hrt]at hj hv
  match j,hj,hv with
  | 0,hj,hv=>
   simp[Value.resultList]at hj hv
   subst hj;subst hv
   simp[Value.okWide,hb4,Cell.okWide,Cell.ok]
  | j+1,hj,hv=>simp at hj
 ·intro b off hp
  have hin:MemPlace.cell b off∈before:=by simpa using hp
  rw[hb.frozen (hlt _ hin)]
  exact hz b off hin
 ·intro ha
  simpa using hn ha
 ·intro x hx _
  simpa using hx
end
end Go.Sx
end
