/- Part 16 of the texts of a claim: SnM SnL Tx9. -/
import Derived.Stop.LaidErr
import Derived.Below
import Derived.Carry
import Derived.ChangeSame
import Derived.OpenShut
import Derived.ChangeSlices
import Derived.Test.YtmkapocibaojdaaGreatDoorTr15
open Bool renaming and_eq_true → bT
open ByteArray renaming mk → aL
open Int renaming toNat_natCast → aR
open List renaming all_eq_true → dF, append_assoc → bY, append_nil → bf, getD_eq_getElem?_getD → aO, getElem?_cons_succ → eU, getElem?_cons_zero → aV, getElem?_eq_getElem → ak, getElem?_eq_some_iff → ai, getElem?_inj → dQ, getElem?_map → aF, getElem?_range → ew, getElem?_take → cL, length_map → aA, length_range → ir, length_replicate → gG, length_take → bp, map → aj, map_append → bw, map_congr_left → cB, map_cons → cj, map_map → fc, mem_append → au, mem_append_left → ig, mem_append_right → fW, mem_cons_of_mem → bk, mem_cons_self → bl, mem_filter → aP, mem_map → aB, mem_of_getElem? → ae, mem_of_mem_take → jo, mem_range → dX, mem_singleton → ay, range → bD, range_succ → jh, replicate → aD
open Nat renaming add_zero → dZ, le_of_ble_eq_true → bP, min_eq_left → lX
open Option renaming getD_some → jK, map_eq_some_iff → aI
open Option.some renaming injEq → az
section
namespace Go.Proofs.YtmkapocibaojdaaGreatDoor
open Go Go.Sx
section
variable {places ah k t kE:Nat} {x:Net} {tok:List Int}
theorem AP:dS dx=true:=by kernel_rfl
theorem iH.iR (h:iH places ah x k tok kE) (ht:t<places):iR (x.P t) dx (bG (x.P t))=0:=by
 have hx:=(h.q.lA.kY t ht).toyM
 rw[Go.Proofs.YtmkapocibaojdaaGreatDoor.iR,jk,if_pos AP,xM hx,if_neg (by simp)]
 exact yJ hx (h.q.lA.base t ht t ht) AP
theorem iH.Pv (h:iH places ah x k tok kE) (ht:t<places):yZ (x.P t) (bG (x.P t)) [gk] dx=0:=by
 rw[yZ,if_neg (by simp)]
 exact yJ (h.q.lA.kY t ht).toyM (h.q.lA.base t ht t ht) AP
theorem iH.Lz (h:iH places ah x k tok kE) (ht:t<places):qT (x.P t) (bG (x.P t)) [gk] dx=aW (x.P t).L dx (bG (x.P t))++[⟨aD places 1099511627776,t,[gk]⟩]:=by
 obtain⟨kT,pS,_⟩:=h.q.lA.pid t ht
 rw[qT,if_neg (by simp),iJ,pS,kT]
theorem iH.Pw (h:iH places ah x k tok kE) (ht:t<places):jZ (x.P t) (bG (x.P t)) [] ⟨0,dx,2,aL #[],1,false,[]⟩=0∧kH (x.P t) (bG (x.P t)) [] ⟨0,dx,2,aL #[],1,false,[]⟩=[gk]:=by
 obtain⟨kT,pS,_⟩:=h.q.lA.pid t ht
 have hp:=h.q.lA.kY t ht
 have h1:fE (oy [] ⟨0,dx,2,aL #[],1,false,[]⟩) ((bG (x.P t)).length:Int)=0:=by
  rw[iJ]
  exact xE (i:=0) hp.p1 hp.p6 (by decide)
 have h2:jZ (x.P t) (bG (x.P t)) [] ⟨0,dx,2,aL #[],1,false,[]⟩=0:=by
  rw[jZ,if_neg (by simp),if_neg (by simp[h1]),if_neg (by simp)]
 exact⟨h2,by rw[kH,if_pos h2];rfl⟩
theorem iH.PL (h:iH places ah x k tok kE) (ht:t<places):(cZ dx (qT (x.P t) (bG (x.P t)) [gk] dx)).code=0:=by
 obtain⟨kT,pS,_⟩:=h.q.lA.pid t ht
 have hp:=h.q.lA.kY t ht
 have hp1:=hp.p1
 have y9:=hp.p6
 rw[h.Lz ht]
 refine q7 AP (fun c hc=>?_) places fun c hc=>?_
 ·rcases au.1 hc with hc|hc
  ·obtain⟨q,hq,rfl⟩:=iz (aP.1 hc).1
   exact(hp.put q hq).1
  ·rw[ay.1 hc]
   refine nC (zk (by rw[gG];omega) (by rw[gG];omega) fun y hy=>by rw[List.eq_of_mem_replicate hy];omega) (by show(0:Int)≤(t:Int);omega) (by rw[gG];show(t:Int)<places;omega) (by simp) ?_ (by simp) (fun o ho=>?_) (by simp)
   ·show(aD places (1099511627776:Int))[(t:Int).toNat]?≠some 0
    rw[aR,List.getElem?_replicate,if_pos ht]
    simp
   ·rw[ay.1 ho,gG]
    exact xE (i:=0) (by omega) (by omega) (by decide)
 ·rcases au.1 hc with hc|hc
  ·obtain⟨q,hq,rfl⟩:=iz (aP.1 hc).1
   exact(hp.put q hq).2.trans pS
  ·rw[ay.1 hc]
   exact gG
end
set_option maxHeartbeats 16000000 in
theorem Ht {R:Act→World→Prop} {kr:List oR} {w0:World} {S0:Nat→Prop} {er:Nat→Addr} {eb:Nat→Array Value×TypeId} {va ba pa:Option Addr} {vc bn bc pc sb P Q k kE:Nat} {vs bs:List Int} {pb:Nat→Nat} {x:Net} {tok:List Int} {i:Int} {t vb un uc:Nat} {vk vn:Int} {vt:ByteArray} {ua:Option Addr} (hS:iH P Q x k tok kE) (hQ:1≤Q) (hk:k<150) (KE:kE<100) (ht:t<P) (hf:lF tok (bG (x.P t))=true)
  (H:∀x' k' vq tV,iH P Q x' k' vq tV→k'≤k+1→tV≤kE+1→J Tryz.prog Tryz.f8 R Tryz.f8.ntmps kr [(0,.val (.int .i64 (P:Int))),(2,.val (.slice va vs.length vc)),(3,.val (.slice ba bn bc)),(8,.val (.bool false)),(10,.val (.pointer (some ⟨sb,0,none⟩))),(12,.val (.slice pa P pc)),(16,.val (.int .i64 (tV:Int))),(17,.val (.int .i64 i))] [] [] [([],zero w0)] ⟨sK S0 [] w0,[jQ sb vq,jv pb x' P],[(.nilIface,dC er eb),(.slice va vs.length vc,aS vs),(.slice pa P pc,.sl 1 ((bD P).map fun i=>pX (pb i))),(.slice ba bn bc,aS bs)]⟩) :
  J Tryz.prog Tryz.f8 R Tryz.f8.ntmps (.c (.rg 31 false)::.c (.seq (.seq (.rg 32 false) (.cond (.tmp 185) (.seq (.rg 33 false) .ret) .skip)) (.seq (.rg 34 false) (.seq (.seq (.rg 35 false) (.cond (.tmp 199) (.seq (.rg 36 false) .ret) .skip)) (.rg 37 false))))::.eb 3::kr) [(0,.val (.int .i64 (P:Int))),(2,.val (.slice va vs.length vc)),(3,.val (.slice ba bn bc)),(8,.val (.bool false)),(10,.val (.pointer (some ⟨sb,0,none⟩))),(12,.val (.slice pa P pc)),(16,.val (.int .i64 (kE:Int))),(17,.val (.int .i64 i)),(21,.val (.pointer (some ⟨vb,0,none⟩)))]
   [(vb,.cells #[.int .i64 vk,.string vt,.int .i64 vn,.slice ua un uc] 64 (0,0))] [] [([],zero w0)] ⟨sK S0 [] w0,[jv pb x P,lN sb (bG (x.P t)) (pb t) (bG (x.P t)) [gk]],[(.nilIface,dC er eb),(.slice va vs.length vc,aS vs),(.slice pa P pc,.sl 1 ((bD P).map fun i=>pX (pb i))),(.slice ba bn bc,aS bs)]⟩:=by
 have yh:=hS.tl
 have Xh:=jV hS.tv
 have hx:=hS.q.lA.kY _ ht
 have pS:=(hS.q.lA.pid _ ht).2.1
 refine b9 (eZ 1 rfl) fun y _=>?_
 obtain⟨ta,tn,tc,tb,aa,an,ac,oa,on,oc⟩:=y
 dsimp only
 refine Nm [(jv pb x P),bL sb (.cells #[.pointer (sA tb 0),.slice ta tn tc] 181 (0,0)),bL tb (.cells #[.pointer (sA (pb t) 0),.slice aa an ac,.slice oa on oc] 184 (0,0)),aT (.slice oa on oc) 55 7 (aj fe [gk])] ?_
 refine bH (dg 3 rfl) ?_
 refine Nm [(jv pb x P),bL sb (.cells #[.pointer (sA tb 0),.slice ta tn tc] 181 (0,0)),bL tb (.cells #[.pointer (sA (pb t) 0),.slice aa an ac,.slice oa on oc] 184 (0,0))] ?_
 refine bH (we (tok:=bG (x.P t)) (at':=bG (x.P t)) (ops:=[gk]) [1,2] ⟨ta,tn,tc,tb,aa,an,ac,oa,on,oc⟩ rfl (by simp)) ?_
 refine Nm [(jv pb x P),(nD sb (bG (x.P t)) (pb t) (bG (x.P t)) [gk])] ?_
 try simp only[aQ]
 refine jT [(0,true),(1,false),(2,true),(3,true),(4,true),(5,false),(6,true)] [] ?_
 refine Ya [zR 0] [] [zP 173 sb] ?_
 refine nJ [] [0,1] 38 #[.pointer (some (⟨sb,0,none⟩)),.string (aL #[110])] (some 174) lG (by kernel_rfl) (by kernel_rfl) (by decide) (fun w S M hP hG _=>?_)
 refine(Kf (key:=dx) (hG.at 0 rfl) hP ht hx (by omega) (by rw[iJ];omega) (by rw[iJ];omega) (by simp) (fun _ _=>hS.PL ht) (hS.Pv ht)).mono ?_
 rintro e4 w4 ⟨Sz,Sv,Sy,hR⟩
 rw[hS.Lz ht]at hR
 have Bl:=hS.late hQ (by omega) ht hf
 refine⟨_,_,_,hR,?_⟩
 have pT:¬((Sx.valOf dx (aW (x.P t).L dx (bG (x.P t))++[⟨aD P 1099511627776,t,[gk]⟩])).n≠(kE:Int)+1):=fun hc=>hc Bl
 try simp only[aQ]
 refine Ym (bh 2 5++[.wr 5 (ek 0 4) 0,zR 6]) [] (fun _=>[zV 20 .nilIface,zV 172 (.tuple #[.agg #[nI ((Sx.valOf dx (aW (x.P t).L dx (bG (x.P t))++[bO.mk (aD P 1099511627776) (↑t:Int) [gk]])).kind),.string ((Sx.valOf dx (aW (x.P t).L dx (bG (x.P t))++[bO.mk (aD P 1099511627776) (↑t:Int) [gk]])).text),nI ((Sx.valOf dx (aW (x.P t).L dx (bG (x.P t))++[bO.mk (aD P 1099511627776) (↑t:Int) [gk]])).n),.slice Sz Sv Sy],.nilIface]),zV 175 (.agg #[nI ((Sx.valOf dx (aW (x.P t).L dx (bG (x.P t))++[bO.mk (aD P 1099511627776) (↑t:Int) [gk]])).kind),.string ((Sx.valOf dx (aW (x.P t).L dx (bG (x.P t))++[bO.mk (aD P 1099511627776) (↑t:Int) [gk]])).text),nI ((Sx.valOf dx (aW (x.P t).L dx (bG (x.P t))++[bO.mk (aD P 1099511627776) (↑t:Int) [gk]])).n),.slice Sz Sv Sy]),zV 176 .nilIface]) (fun _=>[(0,.cells #[nI ((Sx.valOf dx (aW (x.P t).L dx (bG (x.P t))++[bO.mk (aD P 1099511627776) (↑t:Int) [gk]])).kind),.string ((Sx.valOf dx (aW (x.P t).L dx (bG (x.P t))++[bO.mk (aD P 1099511627776) (↑t:Int) [gk]])).text),nI ((Sx.valOf dx (aW (x.P t).L dx (bG (x.P t))++[bO.mk (aD P 1099511627776) (↑t:Int) [gk]])).n),.slice Sz Sv Sy] 64 (0,0))]) o0 [] (fun _=>?_)
 try simp only[aQ]
 refine aC ?_
 try simp only[aQ]
 refine aq ?_
 try simp only[aQ]
 refine aq ?_
 try simp only[aQ]
 refine Zp (bh 0 4++[.rd 4 [.o 0 none] 0 0,zR 5,.rd 6 [] 0 1,.rd 7 [] 0 7,zR 8]) [] [zV 177 .nilIface,zB 178 false,zB 179 false,zV 180 (.pointer (sA vb (0+2))),zI 181 ((Sx.valOf dx (aW (x.P t).L dx (bG (x.P t))++[bO.mk (aD P 1099511627776) (↑t:Int) [gk]])).n),zI 182 (↑kE:Int),zI 183 ((↑kE:Int)+1),zB 184 false,zB 185 false] (oC (show IntKind.i64.wrap ((↑kE:Int)+1)=(↑kE:Int)+1 from wrap_i64 (by omega) (by omega)) (oC (show((Sx.valOf dx (aW (x.P t).L dx (bG (x.P t))++[bO.mk (aD P (1099511627776:Int)) (↑t:Int) [gk]])).n != (↑kE:Int)+1)=false from by simp;omega) oN)) ?_
 try simp only[aQ]
 refine cF ?_
 try simp only[aQ]
 refine aG ?_
 try simp only[aQ]
 refine aq ?_
 try simp only[aQ]
 refine jT [(0,true),(1,false),(2,true),(3,true),(4,true),(5,true),(6,false),(7,false),(8,true),(9,true)] [] ?_
 refine Ya [zR 0] [] [zP 187 sb] ?_
 refine cn [] [0,1] 39 #[.pointer (some (⟨sb,0,none⟩))] (some 188) (by kernel_rfl) (by kernel_rfl) (by decide) (fun w S M hP hG _=>?_)
 refine(Dt (n:=k) (ops:=[gk]) (hG.at 0 rfl) hP ht hx (by omega) (by rw[iJ];omega) (by simp) (fun o ho=>by rw[ay.1 ho];simp) (by simp) (hS.K0 (by omega) ht) rfl).mono ?_
 rintro e5 w5 ⟨u1,m1,d1,u2,m2,d2,u3,m3,d3,hR⟩
 rw[(hS.q.lA.pid _ ht).2.2]at hR
 obtain⟨hy,Ul⟩:=hS.tg (by omega) ht hf
 refine⟨_,_,_,hR,?_⟩
 try simp only[aQ]
 refine Ym (bh 2 6++[.wr 6 [] 0,.wr 7 (ek 1 3) 0,zR 8,zR 9]) [] (fun aN=>[zP 22 (aN 0),zS 23 u3 m3 d3,zV 186 (.tuple #[.agg #[.slice u1 m1 d1,nI ((↑(x.P t).id:Int)),.slice u2 m2 d2],.slice u3 m3 d3,.nilIface]),zV 189 (.agg #[.slice u1 m1 d1,nI ((↑(x.P t).id:Int)),.slice u2 m2 d2]),zS 190 u3 m3 d3,zV 191 .nilIface]) o0 (fun aN=>[(aN 0,.cells #[.slice u1 m1 d1,nI ((↑(x.P t).id:Int)),.slice u2 m2 d2] 35 (0,0))]) [] (fun aN=>?_)
 try simp only[aQ]
 refine aC ?_
 try simp only[aQ]
 refine aq ?_
 try simp only[aQ]
 refine aq ?_
 try simp only[aQ]
 refine b9 (jY 8 rfl) fun _ GF=>?_
 rw[aA]at GF
 subst GF
 try simp only[aQ]
 refine jT [(0,true),(1,true),(2,true),(3,true),(4,true),(5,false),(6,true),(7,true)] [] ?_
 refine Ya (bh 0 5) [] [zV 192 .nilIface,zB 193 false,zB 194 false,zS 195 pa P pc,zS 196 u3 ((lM (x.P t) (bI (x.P t) (bG (x.P t)) [gk])).length) d3] ?_
 refine cn [] [0] 41 #[.slice pa P pc,.slice u3 ((lM (x.P t) (bI (x.P t) (bG (x.P t)) [gk])).length) d3] (some 197) (by kernel_rfl) (by kernel_rfl) (by decide) (fun w S M hP hG _=>?_)
 refine(EL (ah:=Q) (n:=k+1) (L:=lM (x.P t) (bI (x.P t) (bG (x.P t)) [gk])) (l:=lM (x.P t) (bI (x.P t) (bG (x.P t)) [gk])) (hG.at 0 rfl) hP hy (fun _ hm=>hm) (by have h1:=F9 (x.P t) (bI (x.P t) (bG (x.P t)) [gk]);have h2:=hx.Ot.2;omega) (hG.at 2 rfl) (hG.at 8 rfl)).mono ?_
 rintro e6 w6 hR
 refine⟨_,_,_,hR,?_⟩
 try simp only[aQ]
 refine Ya [zR 6,zR 7] [] [zB 198 false,zB 199 false] ?_
 try simp only[aQ]
 refine aC ?_
 try simp only[aQ]
 refine cF ?_
 try simp only[aQ]
 refine aG ?_
 try simp only[aQ]
 refine Zp [zR 0,.rd 1 [] 0 1,zR 2] [] [zI 16 ((↑kE:Int)+1),zI 200 (↑kE:Int),zI 201 ((↑kE:Int)+1)] (oC (show IntKind.i64.wrap ((↑kE:Int)+1)=(↑kE:Int)+1 from wrap_i64 (by omega) (by omega)) oN) ?_
 try simp only[aQ]
 refine eu ?_
 try simp only[aQ]
 rw[show(kE:Int)+1=((kE+1:Nat):Int)by omega]
 refine Nm [(jQ sb (bI (x.P t) (bG (x.P t)) [gk]).when),(jv pb (fL (gU x Q t (bI (x.P t) (bG (x.P t)) [gk])) (lM (x.P t) (bI (x.P t) (bG (x.P t)) [gk]))) P)] ?_
 refine vf (E':=[zI 0 (P:Int),zS 2 va vs.length vc,zS 3 ba bn bc,zB 8 false,zV 10 (.pointer (some ⟨sb,0,none⟩)),zS 12 pa P pc,zI 16 ((kE+1:Nat):Int),zI 17 i]) (h':=[]) (C':=[_,_]) (G':=[_,_,_,_]) [0,2,3,8,10,12,16,17] [] [0,1] [0,1,2,3] (by kernel_rfl) rfl rfl rfl ?_
 exact H _ (k+1) _ (kE+1) Ul (by omega) (by omega)
set_option maxHeartbeats 16000000 in
theorem sg {R:Act→World→Prop} {kr:List oR} {w0:World} {S0:Nat→Prop} {er:Nat→Addr} {eb:Nat→Array Value×TypeId} {va ba pa:Option Addr} {vc bn bc pc sb P Q k kE:Nat} {vs bs:List Int} {pb:Nat→Nat} {x:Net} {tok:List Int} {i:Int} (hI:RY er) (hS:iH P Q x k tok kE) (hQ:1≤Q) (hk:k<150) (KE:kE<100) (hi0:0≤i) (hi:i<vs.length)
  (H:∀x' k' vq tV,iH P Q x' k' vq tV→k'≤k+1→tV≤kE+1→J Tryz.prog Tryz.f8 R Tryz.f8.ntmps kr [(0,.val (.int .i64 (P:Int))),(2,.val (.slice va vs.length vc)),(3,.val (.slice ba bn bc)),(8,.val (.bool false)),(10,.val (.pointer (some ⟨sb,0,none⟩))),(12,.val (.slice pa P pc)),(16,.val (.int .i64 (tV:Int))),(17,.val (.int .i64 i))] [] [] [([],zero w0)] ⟨sK S0 [] w0,[jQ sb vq,jv pb x' P],[(.nilIface,dC er eb),(.slice va vs.length vc,aS vs),(.slice pa P pc,.sl 1 ((bD P).map fun i=>pX (pb i))),(.slice ba bn bc,aS bs)]⟩) :
  J Tryz.prog Tryz.f8 R Tryz.f8.ntmps (.c (.rg 23 false)::.c (.cond (.tmp 136) (.exit 3) .skip)::.c (.seq (.rg 24 false) (.seq (.seq (.rg 25 false) (.cond (.tmp 150) (.seq (.seq (.rg 26 false) (.cond (.tmp 153) (.seq (.rg 27 false) .ret) .skip)) (.exit 3)) .skip)) (.seq (.rg 28 false) (.seq (.seq (.rg 29 false) (.cond (.tmp 171) (.seq (.rg 30 false) .ret) .skip)) (.seq (.rg 31 false) (.seq (.seq (.rg 32 false) (.cond (.tmp 185) (.seq (.rg 33 false) .ret) .skip)) (.seq (.rg 34 false) (.seq (.seq (.rg 35 false) (.cond (.tmp 199) (.seq (.rg 36 false) .ret) .skip)) (.rg 37 false)))))))))::.eb 3::kr) [(0,.val (.int .i64 (P:Int))),(2,.val (.slice va vs.length vc)),(3,.val (.slice ba bn bc)),(8,.val (.bool false)),(10,.val (.pointer (some ⟨sb,0,none⟩))),(12,.val (.slice pa P pc)),(16,.val (.int .i64 (kE:Int))),(17,.val (.int .i64 i))]
   [] [] [([],zero w0)] ⟨sK S0 [] w0,[jQ sb tok,jv pb x P],[(.nilIface,dC er eb),(.slice va vs.length vc,aS vs),(.slice pa P pc,.sl 1 ((bD P).map fun i=>pX (pb i))),(.slice ba bn bc,aS bs)]⟩:=by
 obtain⟨z,hz⟩:∃z,vs[i.toNat]?=some z:=⟨_,ak (by omega)⟩
 have yh:=hS.tl
 have Xh:=jV hS.tv
 refine gr 1 rfl i.toNat (dD hz) (by kernel_rfl) (fun b1 fu uf vi vm ha1 cP=>?_)
 cases ha1
 have cg:=oO (cP 0 _ rfl)
 by_cases hA:0≤z
 ·by_cases hB:z<P
  ·have zY:z.toNat<P:=by omega
   have TR:((bD P).map fun i=>pX (pb i))[z.toNat]?=some (pX (pb z.toNat)):=by
    rw[aF,ew zY]
    rfl
   have hx:=hS.q.lA.kY _ zY
   have pS:=(hS.q.lA.pid _ zY).2.1
   try simp only[aQ]
   refine Zp ([zR 0,zR 1,.rd 2 [] 0 2,.rd 3 [.r 0 (some (nI z))] 0 0,.rd 4 [] 0 7]++bh 5 8++[.rd 8 [] 0 2,.rd 9 [.r 0 (some (nI z))] 0 0,zR 10,.rd 11 [] 0 7,zR 12]) [] [zS 124 (sA b1 fu) vs.length vc,zI 125 i,zV 126 (.pointer (sA b1 (fu+i.toNat*1))),zI 127 z,zB 128 false,zB 129 false,zS 130 (sA b1 fu) vs.length vc,zI 131 i,zV 132 (.pointer (sA b1 (fu+i.toNat*1))),zI 133 z,zI 134 (↑P:Int),zB 135 false,zB 136 false] (oC hi0 (oC hi (oC cg (oC (show decide (z<(0:Int))=false from by simp;omega) (oC hi0 (oC hi (oC cg (oC (show decide (z≥(↑P:Int))=false from by simp;omega) oN)))))))) ?_
   refine cF ?_
   refine aG (aq ?_)
   refine gr 2 rfl z.toNat TR (by kernel_rfl) (fun b2 pN Bq JT IC ha2 kK=>?_)
   cases ha2
   have gI:=oO (kK 0 _ rfl)
   try simp only[aQ]
   refine jT [(0,true),(1,true),(2,true),(3,true),(4,true),(5,true),(6,true),(7,true),(8,false),(9,true),(10,true),(11,true),(12,true),(13,true)] [] ?_
   refine Yp (bh 0 4++[.rd 4 [] 0 2,.rd 5 [.r 0 (some (nI z))] 0 0,.rd 6 [] 0 2,.rd 7 [.r 1 (some (.pointer (sA (pb z.toNat) 0)))] 0 0]) [] [zP 138 sb,zS 139 (sA b2 pN) P pc,zS 140 (sA b1 fu) vs.length vc,zI 141 i,zV 142 (.pointer (sA b1 (fu+i.toNat*1))),zI 143 z,zV 144 (.pointer (sA b2 (pN+z.toNat*1))),zP 145 (pb z.toNat)] (oC hi0 (oC hi (oC cg (oC hA (oC hB (oC gI oN)))))) ?_
   refine cn [] [1,0] 33 #[.pointer (some (⟨sb,0,none⟩)),.pointer (some (⟨pb z.toNat,0,none⟩))] (some 146) (by kernel_rfl) (by kernel_rfl) (by decide) (fun w S M hP hG _=>?_)
   refine(HS (hG.at 0 rfl) hP zY hx.toyM hS.tv (by omega)).mono ?_
   rintro e1 w1 (⟨hf,hR⟩|⟨hf,Ve,Tu,UB,hR⟩)
   ·refine⟨_,_,_,hR,?_⟩
    try simp only[aQ]
    refine Ya (bh 9 14) [] [zS 19 none 0 0,zV 20 (.iface 390 (.pointer (some (er 11)))),zV 137 (.tuple #[.slice none 0 0,.iface 390 (.pointer (some (er 11)))]),zS 147 none 0 0,zV 148 (.iface 390 (.pointer (some (er 11))))] ?_
    try simp only[aQ]
    refine aC ?_
    try simp only[aQ]
    refine aq ?_
    try simp only[aQ]
    refine aq ?_
    try simp only[aQ]
    refine Za [zR 0,zR 1] [] [zV 149 (.iface 390 (.pointer (some (er 11)))),zB 150 true] ?_
    try simp only[aQ]
    refine gR ?_
    try simp only[aQ]
    refine aq ?_
    try simp only[aQ]
    refine aq ?_
    try simp only[aQ]
    refine jT [(0,true),(1,false),(2,true)] [] ?_
    refine Ya [zR 0] [] [zV 151 (.iface 390 (.pointer (some (er 11))))] ?_
    refine Yc 13 #[.iface 390 (.pointer (some (er 11))),nI 11] (some 152) fun w S hG=>?_
    refine(IS (k:=11) (c:=11) (hG.at 0 rfl) hI (by omega) (.inr ⟨by decide,rfl⟩)).mono ?_
    rintro e2 w2 hR
    refine⟨_,_,_,hR,?_⟩
    try simp only[aQ]
    refine Ya [zR 2] [] [zB 153 false] ?_
    try simp only[aQ]
    refine aC ?_
    try simp only[aQ]
    refine cF ?_
    try simp only[aQ]
    refine aG ?_
    try simp only[aQ]
    refine dO rfl ?_
    try simp only[aQ]
    refine Nm [(jv pb x P),(jQ sb tok)] ?_
    refine vf (E':=[zI 0 (P:Int),zS 2 (some ⟨b1,fu,none⟩) vs.length vc,zS 3 ba bn bc,zB 8 false,zV 10 (.pointer (some ⟨sb,0,none⟩)),zS 12 (some ⟨b2,pN,none⟩) P pc,zI 16 ((kE:Nat):Int),zI 17 i]) (h':=[]) (C':=[_,_]) (G':=[_,_,_,_]) [0,2,3,8,10,12,16,17] [] [1,0] [0,1,2,3] (by kernel_rfl) rfl rfl rfl ?_
    exact H x k tok kE hS (by omega) (by omega)
   ·refine⟨_,_,_,hR,?_⟩
    have MY:=hS.val zY hf
    have WK:¬((Sx.valOf dx (aW (x.P z.toNat).L dx (bG (x.P z.toNat)))).n≠(kE:Int)):=fun hc=>hc MY
    obtain⟨hs1,Ku⟩:=hS.Pw zY
    try simp only[aQ]
    refine Ya (bh 9 14) [] [zS 19 Ve Tu UB,zV 20 .nilIface,zV 137 (.tuple #[.slice Ve Tu UB,.nilIface]),zS 147 Ve Tu UB,zV 148 .nilIface] ?_
    try simp only[aQ]
    refine aC ?_
    try simp only[aQ]
    refine aq ?_
    try simp only[aQ]
    refine aq ?_
    try simp only[aQ]
    refine Za [zR 0,zR 1] [] [zV 149 .nilIface,zB 150 false] ?_
    try simp only[aQ]
    refine cF ?_
    try simp only[aQ]
    refine aG ?_
    try simp only[aQ]
    refine aq ?_
    try simp only[aQ]
    refine jT [(0,true),(1,false),(2,true),(3,true),(4,true),(5,false),(6,false),(7,true)] [] ?_
    refine Ya [zR 0] [] [zP 155 sb] ?_
    refine nJ [] [0,1] 38 #[.pointer (some (⟨sb,0,none⟩)),.string (aL #[110])] (some 156) lG (by kernel_rfl) (by kernel_rfl) (by decide) (fun w S M hP hG _=>?_)
    refine(HQ (key:=dx) (hG.at 0 rfl) hP zY hx (by omega) (by rw[iJ];omega) (hS.iR zY)).mono ?_
    rintro e2 w2 ⟨ua,un,uc,hR⟩
    refine⟨_,_,_,hR,?_⟩
    try simp only[aQ]
    refine Ym (bh 2 5++[.wr 5 [] 0,.wr 6 (ek 0 4) 0,zR 7]) [] (fun aN=>[zP 21 (aN 0),zV 154 (.tuple #[.agg #[nI ((Sx.valOf dx (aW (x.P z.toNat).L dx (bG (x.P z.toNat)))).kind),.string ((Sx.valOf dx (aW (x.P z.toNat).L dx (bG (x.P z.toNat)))).text),nI ((Sx.valOf dx (aW (x.P z.toNat).L dx (bG (x.P z.toNat)))).n),.slice ua un uc],.nilIface]),zV 157 (.agg #[nI ((Sx.valOf dx (aW (x.P z.toNat).L dx (bG (x.P z.toNat)))).kind),.string ((Sx.valOf dx (aW (x.P z.toNat).L dx (bG (x.P z.toNat)))).text),nI ((Sx.valOf dx (aW (x.P z.toNat).L dx (bG (x.P z.toNat)))).n),.slice ua un uc]),zV 158 .nilIface]) o0 (fun aN=>[(aN 0,.cells #[nI ((Sx.valOf dx (aW (x.P z.toNat).L dx (bG (x.P z.toNat)))).kind),.string ((Sx.valOf dx (aW (x.P z.toNat).L dx (bG (x.P z.toNat)))).text),nI ((Sx.valOf dx (aW (x.P z.toNat).L dx (bG (x.P z.toNat)))).n),.slice ua un uc] 64 (0,0))]) [] (fun aN=>?_)
    try simp only[aQ]
    refine aC ?_
    try simp only[aQ]
    refine aq ?_
    try simp only[aQ]
    refine aq ?_
    try simp only[aQ]
    refine jT [(0,true),(1,true),(2,true),(3,true),(4,true),(5,true),(6,true),(7,true),(8,true),(9,true),(10,false),(11,true),(12,true)] [] ?_
    refine Yp (bh 0 4++[.rd 4 [.o 0 none] 0 0,zR 5,.rd 6 [] 0 7]++bh 7 10) [] [zV 159 .nilIface,zB 160 false,zB 161 false,zV 162 (.pointer (sA (aN 0) (0+2))),zI 163 ((Sx.valOf dx (aW (x.P z.toNat).L dx (bG (x.P z.toNat)))).n),zI 164 (↑kE:Int),zB 165 false,zB 166 false,zB 167 false,zP 168 sb] (oC (show((Sx.valOf dx (aW (x.P z.toNat).L dx (bG (x.P z.toNat)))).n != (↑kE:Int))=false from by simp;omega) oN) ?_
    refine cn [] [0,1] 35 #[.pointer (some (⟨sb,0,none⟩)),.string (aL #[110]),.int .i64 1] (some 169) (by kernel_rfl) (by kernel_rfl) (by decide) (fun w S M hP hG _=>?_)
    refine(MK (n:=k) (hG.at 0 rfl) hP zY hx (by omega) (by rw[iJ];omega) (by simp)).mono ?_
    rintro e3 w3 ⟨v,hR,Vu⟩
    rw[hs1]at Vu
    rw[Ku]at hR
    obtain⟨_,rfl⟩|⟨hc,_⟩:=Vu
    rotate_left
    ·exact absurd rfl hc
    refine⟨_,_,_,hR,?_⟩
    try simp only[aQ]
    refine Ya [zR 11,zR 12] [] [zB 170 false,zB 171 false] ?_
    try simp only[aQ]
    refine aC ?_
    try simp only[aQ]
    refine cF ?_
    try simp only[aQ]
    refine aG ?_
    try simp only[aQ]
    refine aq ?_
    try simp only[aQ]
    refine Nm [(jv pb x P),(lN sb (bG (x.P z.toNat)) (pb z.toNat) (bG (x.P z.toNat)) [gk])] ?_
    refine vf (E':=[zI 0 (P:Int),zS 2 (some ⟨b1,fu,none⟩) vs.length vc,zS 3 ba bn bc,zB 8 false,zV 10 (.pointer (some ⟨sb,0,none⟩)),zS 12 (some ⟨b2,pN,none⟩) P pc,zI 16 (kE:Int),zI 17 i,zV 21 (.pointer (some ⟨aN 0,0,none⟩))]) (h':=[_]) (C':=[_,_]) (G':=[_,_,_,_]) [0,2,3,8,10,12,16,17,21] [0] [0,1] [0,1,2,3] (by kernel_rfl) rfl rfl rfl ?_
    exact Ht hS hQ hk KE zY hf H
  ·try simp only[aQ]
   refine Zp ([zR 0,zR 1,.rd 2 [] 0 2,.rd 3 [.r 0 (some (nI z))] 0 0,.rd 4 [] 0 7]++bh 5 8++[.rd 8 [] 0 2,.rd 9 [.r 0 (some (nI z))] 0 0,zR 10,.rd 11 [] 0 6,zR 12]) [] [zS 124 (sA b1 fu) vs.length vc,zI 125 i,zV 126 (.pointer (sA b1 (fu+i.toNat*1))),zI 127 z,zB 128 false,zB 129 false,zS 130 (sA b1 fu) vs.length vc,zI 131 i,zV 132 (.pointer (sA b1 (fu+i.toNat*1))),zI 133 z,zI 134 (↑P:Int),zB 135 true,zB 136 true] (oC hi0 (oC hi (oC cg (oC (show decide (z<(0:Int))=false from by simp;omega) (oC hi0 (oC hi (oC cg (oC (show decide (z≥(↑P:Int))=true from by simp;omega) oN)))))))) ?_
   refine gR ?_
   refine dO rfl ?_
   refine vf (E':=[zI 0 (P:Int),zS 2 _ vs.length vc,zS 3 ba bn bc,zB 8 false,zV 10 (.pointer (some ⟨sb,0,none⟩)),zS 12 _ P pc,zI 16 ((kE:Nat):Int),zI 17 i]) (h':=[]) (C':=[_,_]) (G':=[_,_,_,_]) [0,2,3,8,10,12,16,17] [] [0,1] [0,1,2,3] rfl rfl rfl rfl ?_
   exact H x k tok kE hS (by omega) (by omega)
 ·try simp only[aQ]
  refine Zp [zR 0,zR 1,.rd 2 [] 0 2,.rd 3 [.r 0 (some (nI z))] 0 0,.rd 4 [] 0 6,zR 5,.rd 6 [] 1 0,.rd 7 [] 1 0,.rd 8 [] 1 0,.rd 9 [] 1 0,.rd 10 [] 1 0,.rd 11 [] 1 0,zR 12] [] [zS 124 (sA b1 fu) vs.length vc,zI 125 i,zV 126 (.pointer (sA b1 (fu+i.toNat*1))),zI 127 z,zB 128 true,zB 129 true,zV 130 (.tuple #[]),zV 131 (.tuple #[]),zV 132 (.tuple #[]),zV 133 (.tuple #[]),zV 134 (.tuple #[]),zV 135 (.tuple #[]),zB 136 true] (oC hi0 (oC hi (oC cg (oC (show decide (z<(0:Int))=true from by simp;omega) oN)))) ?_
  refine gR ?_
  refine dO rfl ?_
  refine vf (E':=[zI 0 (P:Int),zS 2 _ vs.length vc,zS 3 ba bn bc,zB 8 false,zV 10 (.pointer (some ⟨sb,0,none⟩)),zS 12 _ P pc,zI 16 ((kE:Nat):Int),zI 17 i]) (h':=[]) (C':=[_,_]) (G':=[_,_,_,_]) [0,2,3,8,10,12,16,17] [] [0,1] [0,1,2,3] rfl rfl rfl rfl ?_
  exact H x k tok kE hS (by omega) (by omega)
end Go.Proofs.YtmkapocibaojdaaGreatDoor
end
section
namespace Go.Proofs.YtmkapocibaojdaaGreatDoor
open Go Go.Sx
structure Og where
 i:Int
 pb:Nat→Nat
 a:Option Addr
 k:Nat
 c:Nat
structure Gj where
 i:Int
 x:Net
 k:Nat
 tok:List Int
 kE:Nat
def xb (pb:Nat→Nat) (i b:Nat):Nat→Nat:=fun j=>if j=i then b else pb j
theorem Fv (pb:Nat→Nat) (i b:Nat):(bD i).map pb++[b]=(bD (i+1)).map (xb pb i b):=by
 rw[jh,bw]
 congr 1
 ·refine cB fun j hj=>?_
  have:=dX.1 hj
  rw[xb,if_neg (by omega)]
 ·simp[xb]
set_option maxHeartbeats 4000000 in
theorem Kh {w:World} {S:Nat→Prop} {M:List Nat} {er:Nat→Addr} {eb:Nat→Array Value×TypeId} {pb:Nat→Nat} {P Q i:Nat} (hC:cm w S .nilIface (dC er eb)) (hP:Pre w S M [jv pb (iU P Q) i]) (hi:i<P) (h1:1≤P) (h6:P≤6) (q1:1≤Q) (q6:Q≤6) :
  Calls Tryz.prog 12 #[.int .i64 i,.int .i64 P,.int .i64 Q] w fun e w'=>∃b,cQ M w S w' e (.tuple #[.pointer (some ⟨b,0,none⟩),.nilIface]) [jv (xb pb i b) (iU P Q) (i+1)] []:=by
 refine(BY (id:=i) (places:=P) (ah:=Q) hC).mono ?_
 rintro e w' (⟨h,_⟩|⟨_,b,hR⟩)
 ·exact absurd (by omega) h
 ·refine⟨b,?_⟩
  have h2:=(hP.frame hR).push
  have h3:((bD i).map fun j=>bQ (pb j) ((iU P Q).P j))++[bQ b (iM (i:Int).toNat (P:Int).toNat (Q:Int).toNat)]=(bD (i+1)).map fun j=>bQ (xb pb i b j) ((iU P Q).P j):=by
   rw[jh,bw]
   congr 1
   ·refine cB fun j hj=>?_
    have:=dX.1 hj
    rw[xb,if_neg (by omega)]
   ·simp[xb,iU]
  rw[h3]at h2
  exact h2
theorem Dk (pb:Nat→Nat) {i:Int} (hi:0≤i) (b:Nat):(bD i.toNat).map pb++[b]=(bD (i+1).toNat).map (xb pb i.toNat b):=by
 rw[Fv,show(i+1).toNat=i.toNat+1 by omega]
set_option maxHeartbeats 4000000 in
theorem Kg {w:World} {S:Nat→Prop} {M:List Nat} {er:Nat→Addr} {eb:Nat→Array Value×TypeId} {pb:Nat→Nat} {P Q:Nat} {i:Int} (hC:cm w S .nilIface (dC er eb)) (hP:Pre w S M [jv pb (iU P Q) i.toNat]) (h0:0≤i) (hi:i<P) (h1:1≤P) (h6:P≤6) (q1:1≤Q) (q6:Q≤6) :
  Calls Tryz.prog 12 #[.int .i64 i,.int .i64 P,.int .i64 Q] w fun e w'=>∃b,cQ M w S w' e (.tuple #[.pointer (some ⟨b,0,none⟩),.nilIface]) [jv (xb pb i.toNat b) (iU P Q) (i+1).toNat] []:=by
 have h:=Kh (i:=i.toNat) hC hP (by omega) h1 h6 q1 q6
 rw[show((i.toNat:Nat):Int)=i by omega]at h
 rw[show(i+1).toNat=i.toNat+1 by omega]
 exact h
set_option maxHeartbeats 16000000 in
theorem BO {w:World} {S:Nat→Prop} {er:Nat→Addr} {eb:Nat→Array Value×TypeId} {va ba:Option Addr} {vn vc bn bc:Nat} {places ah:Int} {vs bs:List Int} (hC:cm w S .nilIface (dC er eb)) (hI:RY er) (hv:cm w S (.slice va vn vc) (aS vs)) (hb:cm w S (.slice ba bn bc) (aS bs)) :
  Calls Tryz.prog 8 #[.int .i64 places,.int .i64 ah,.slice va vn vc,.slice ba bn bc] w fun e w'=>cQ [] (zero w) S w' e (.bool true) [] []:=by
 obtain rfl:=dJ hv
 obtain rfl:=dJ hb
 refine jL Tryz.func8 XO (args:=[.int .i64 places,.int .i64 ah,.slice va vs.length vc,.slice ba bs.length bc]) (S:=S) (G:=[(_,dC er eb),(_,aS vs),(_,aS bs)]) (by kernel_rfl) (.cons hC (.cons hv (.cons hb (.nil _ _)))) ?_
 refine tZ ?_
 refine Zs [zR 0] [] [zB 8 false] ?_
 refine jS [(0,false),(1,true)] [] ?_
 refine vY [] 31 #[] (some 24) lG (by kernel_rfl) (fun w S hG=>?_)
 refine(Fl (hG.at 0 rfl)).mono ?_
 rintro e1 w1 hR
 refine⟨_,_,_,hR,?_⟩
 by_cases h1:places<1
 ·try simp only[aQ]
  refine Ya [zR 1] [24] [zB 9 true] ?_
  refine aC (aq ?_)
  refine Zt (bh 0 4++[.rd 4 [] 0 6,zR 5,zR 6,.rd 7 [] 1 0,.rd 8 [] 1 0,zR 9,zR 10,.rd 11 [] 1 0,.rd 12 [] 1 0,zR 13,zR 14,.rd 15 [] 1 0,.rd 16 [] 1 0,zR 17,zR 18,.rd 19 [] 1 0,.rd 20 [] 1 0,.rd 21 [] 1 0,zR 22,zR 23,.rd 24 [] 1 0,.rd 25 [] 1 0,.rd 26 [] 1 0,zR 27]) [] [zB 52 true] (oC (show decide (places<(1:Int))=true from by simp;omega) oN) ?_
  refine gR ?_
  refine Zs [zR 0,zR 1] [52,9] [zB 8 true] ?_
  refine Yr [[]] (.bool true) fun a w s=>?_
  exact s.pB (by simp) [] [] rfl rfl
 by_cases h2:places>6
 ·try simp only[aQ]
  refine Ya [zR 1] [24] [zB 9 true] ?_
  refine aC (aq ?_)
  refine Zt (bh 0 4++[.rd 4 [] 0 7]++bh 5 8++[.rd 8 [] 0 6,zR 9,zR 10,.rd 11 [] 1 0,.rd 12 [] 1 0,zR 13,zR 14,.rd 15 [] 1 0,.rd 16 [] 1 0,zR 17,zR 18,.rd 19 [] 1 0,.rd 20 [] 1 0,.rd 21 [] 1 0,zR 22,zR 23,.rd 24 [] 1 0,.rd 25 [] 1 0,.rd 26 [] 1 0,zR 27]) [] [zB 52 true] (oC (show decide (places<(1:Int))=false from by simp;omega) (oC (show decide (places>(6:Int))=true from by simp;omega) oN)) ?_
  refine gR ?_
  refine Zs [zR 0,zR 1] [52,9] [zB 8 true] ?_
  refine Yr [[]] (.bool true) fun a w s=>?_
  exact s.pB (by simp) [] [] rfl rfl
 by_cases h3:ah<1
 ·try simp only[aQ]
  refine Ya [zR 1] [24] [zB 9 true] ?_
  refine aC (aq ?_)
  refine Zt (bh 0 4++[.rd 4 [] 0 7]++bh 5 8++[.rd 8 [] 0 7]++bh 9 12++[.rd 12 [] 0 6,zR 13,zR 14,.rd 15 [] 1 0,.rd 16 [] 1 0,zR 17,zR 18,.rd 19 [] 1 0,.rd 20 [] 1 0,.rd 21 [] 1 0,zR 22,zR 23,.rd 24 [] 1 0,.rd 25 [] 1 0,.rd 26 [] 1 0,zR 27]) [] [zB 52 true] (oC (show decide (places<(1:Int))=false from by simp;omega) (oC (show decide (places>(6:Int))=false from by simp;omega) (oC (show decide (ah<(1:Int))=true from by simp;omega) oN))) ?_
  refine gR ?_
  refine Zs [zR 0,zR 1] [52,9] [zB 8 true] ?_
  refine Yr [[]] (.bool true) fun a w s=>?_
  exact s.pB (by simp) [] [] rfl rfl
 by_cases h4:ah>6
 ·try simp only[aQ]
  refine Ya [zR 1] [24] [zB 9 true] ?_
  refine aC (aq ?_)
  refine Zt (bh 0 4++[.rd 4 [] 0 7]++bh 5 8++[.rd 8 [] 0 7]++bh 9 12++[.rd 12 [] 0 7]++bh 13 16++[.rd 16 [] 0 6,zR 17,zR 18,.rd 19 [] 1 0,.rd 20 [] 1 0,.rd 21 [] 1 0,zR 22,zR 23,.rd 24 [] 1 0,.rd 25 [] 1 0,.rd 26 [] 1 0,zR 27]) [] [zB 52 true] (oC (show decide (places<(1:Int))=false from by simp;omega) (oC (show decide (places>(6:Int))=false from by simp;omega) (oC (show decide (ah<(1:Int))=false from by simp;omega) (oC (show decide (ah>(6:Int))=true from by simp;omega) oN)))) ?_
  refine gR ?_
  refine Zs [zR 0,zR 1] [52,9] [zB 8 true] ?_
  refine Yr [[]] (.bool true) fun a w s=>?_
  exact s.pB (by simp) [] [] rfl rfl
 by_cases h5:(vs.length:Int)>20
 ·try simp only[aQ]
  refine Ya [zR 1] [24] [zB 9 true] ?_
  refine aC (aq ?_)
  refine Zt (bh 0 4++[.rd 4 [] 0 7]++bh 5 8++[.rd 8 [] 0 7]++bh 9 12++[.rd 12 [] 0 7]++bh 13 16++[.rd 16 [] 0 7]++bh 17 21++[.rd 21 [] 0 6,zR 22,zR 23,.rd 24 [] 1 0,.rd 25 [] 1 0,.rd 26 [] 1 0,zR 27]) [] [zB 52 true] (oC (show decide (places<(1:Int))=false from by simp;omega) (oC (show decide (places>(6:Int))=false from by simp;omega) (oC (show decide (ah<(1:Int))=false from by simp;omega) (oC (show decide (ah>(6:Int))=false from by simp;omega) (oC (show decide ((↑vs.length:Int)>(20:Int))=true from by simp;omega) oN))))) ?_
  refine gR ?_
  refine Zs [zR 0,zR 1] [52,9] [zB 8 true] ?_
  refine Yr [[]] (.bool true) fun a w s=>?_
  exact s.pB (by simp) [] [] rfl rfl
 by_cases h6:(bs.length:Int)>20
 ·try simp only[aQ]
  refine Ya [zR 1] [24] [zB 9 true] ?_
  refine aC (aq ?_)
  refine Zt (bh 0 4++[.rd 4 [] 0 7]++bh 5 8++[.rd 8 [] 0 7]++bh 9 12++[.rd 12 [] 0 7]++bh 13 16++[.rd 16 [] 0 7]++bh 17 21++[.rd 21 [] 0 7]++bh 22 26++[.rd 26 [] 0 6,zR 27]) [] [zB 52 true] (oC (show decide (places<(1:Int))=false from by simp;omega) (oC (show decide (places>(6:Int))=false from by simp;omega) (oC (show decide (ah<(1:Int))=false from by simp;omega) (oC (show decide (ah>(6:Int))=false from by simp;omega) (oC (show decide ((↑vs.length:Int)>(20:Int))=false from by simp;omega) (oC (show decide ((↑bs.length:Int)>(20:Int))=true from by simp;omega) oN)))))) ?_
  refine gR ?_
  refine Zs [zR 0,zR 1] [52,9] [zB 8 true] ?_
  refine Yr [[]] (.bool true) fun a w s=>?_
  exact s.pB (by simp) [] [] rfl rfl
 obtain⟨P,rfl⟩:∃P:Nat,places=P:=⟨places.toNat,by omega⟩
 obtain⟨Q,rfl⟩:∃Q:Nat,ah=Q:=⟨ah.toNat,by omega⟩
 try simp only[aQ]
 refine Ya [zR 1] [24] [zB 9 true] ?_
 refine aC (aq ?_)
 refine Zt (bh 0 4++[.rd 4 [] 0 7]++bh 5 8++[.rd 8 [] 0 7]++bh 9 12++[.rd 12 [] 0 7]++bh 13 16++[.rd 16 [] 0 7]++bh 17 21++[.rd 21 [] 0 7]++bh 22 26++[.rd 26 [] 0 7,zR 27]) [] [zB 52 false] (oC (show decide ((↑P:Int)<(1:Int))=false from by simp;omega) (oC (show decide ((↑P:Int)>(6:Int))=false from by simp;omega) (oC (show decide ((↑Q:Int)<(1:Int))=false from by simp;omega) (oC (show decide ((↑Q:Int)>(6:Int))=false from by simp;omega) (oC (show decide ((↑vs.length:Int)>(20:Int))=false from by simp;omega) (oC (show decide ((↑bs.length:Int)>(20:Int))=false from by simp;omega) oN)))))) ?_
 refine cF ?_
 refine aG ?_
 refine jS [(0,true),(1,false),(2,true),(3,true),(4,true),(5,true),(6,true)] [] ?_
 refine Ya [zR 0] [52,9] [zI 55 (↑P:Int)] ?_
 refine Yc 32 #[nI (↑P:Int)] (some 56) fun w S hG=>?_
 refine(Hr (p:=P) (hG.at 0 rfl) (by omega) (by omega)).mono ?_
 rintro e2 w2 ⟨sb,hR⟩
 rw[aR]at hR
 refine⟨_,_,_,hR,?_⟩
 try simp only[aQ]
 refine Ya (bh 2 7) [56,55] [zP 10 sb,zV 11 .nilIface] ?_
 refine aC (aq ?_)
 refine Zs (bh 0 6) [11] [zB 64 false] ?_
 refine cF ?_
 refine aG ?_
 refine Zs [zR 0] [64] [zS 12 none 0 0] ?_
 refine aq (aq ?_)
 refine bH (oW (cA []) pJ) ?_
 refine Nm [(jQ sb (aD P 0)),(cA [])] ?_
 refine bH (fO pX 24 1) ?_
 refine Nm [(jQ sb (aD P 0)),(cA []),aT (.slice none 0 0) 24 1 (aj pX [])] ?_
 refine Za [zR 0] [] [zI 13 0] ?_
 refine aM ?_
 refine cU (fun z:Og=>[zI 0 (↑P:Int),zI 1 (↑Q:Int),zS 2 va vs.length vc,zS 3 ba bs.length bc,zB 8 false,zP 10 sb,zS 12 z.a z.k z.c,zI 13 z.i]) (fun z:Og=>[]) (fun z:Og=>[jQ sb (aD P 0),jv z.pb (iU P Q) z.i.toNat,aT (.slice z.a z.k z.c) 24 1 (((bD z.i.toNat).map z.pb).map pX)]) (fun z:Og=>[(.nilIface,(dC er eb)),(.slice va vs.length vc,(aS vs)),(.slice ba bs.length bc,(aS bs))]) (fun z:Og=>(P - z.i).toNat) (fun z:Og=>(0≤z.i∧z.i≤P)) ⟨0,fun _=>0,none,0,0⟩ [0,1,2,3,8,10,12,13] [] [0,1,2] [0,1,2] ?_ (by kernel_rfl) rfl rfl rfl ?_
 ·exact⟨by simp,by simp⟩
 rintro⟨i,pb,pa,pk,pc⟩ ⟨hi0,hi⟩
 dsimp only at hi0 hi ⊢
 refine b9 (eC 2 rfl) fun _ hpk=>?_
 rw[aA,aA,ir]at hpk
 subst hpk
 refine aq ?_
 refine Zs (bh 0 3) [] [zB 67 (decide (i<(↑P:Int)))] ?_
 refine cC (t:=decide (i<(↑P:Int))) (fun hlt=>?_) (fun hlt=>?_)
 ·have fa:i<P:=by simpa using hlt
  refine aG (aq (aM ?_))
  refine jS [(0,true),(1,true),(2,true),(3,false),(4,true),(5,true),(6,true),(7,true),(8,true)] [] ?_
  refine Ya (bh 0 3) [67] [zI 71 i,zI 72 (↑P:Int),zI 73 (↑Q:Int)] ?_
  refine cn [] [1] 12 #[.int .i64 i,.int .i64 (↑P:Int),.int .i64 (↑Q:Int)] (some 74) (by kernel_rfl) (by kernel_rfl) (by decide) (fun w S M hP hG _=>?_)
  refine(Kg (hG.at 0 rfl) hP hi0 fa (by omega) (by omega) (by omega) (by omega)).mono ?_
  rintro e3 w3 ⟨b,hR⟩
  refine⟨_,_,_,hR,?_⟩
  try simp only[aQ]
  refine Ya (bh 4 9) [74,71,72,73] [zP 14 b,zV 15 .nilIface] ?_
  try simp only[aQ]
  refine aC ?_
  try simp only[aQ]
  refine aq ?_
  try simp only[aQ]
  refine aq ?_
  try simp only[aQ]
  refine Za (bh 0 6) [] [zB 82 false] ?_
  try simp only[aQ]
  refine cF ?_
  try simp only[aQ]
  refine aG ?_
  try simp only[aQ]
  refine jT [(0,true),(1,true),(2,false),(3,false),(4,true)] [] ?_
  refine Ym [zR 0,zR 1,.wr 2 [] 0] [82] (fun aN=>[zS 83 pa i.toNat pc,zS 85 (sA (aN 0) 0) 1 1]) o0 (fun aN=>[(aN 0,.cells #[.pointer (sA b 0)] 24 (0,0))]) [] (fun aN=>?_)
  refine JN [(jQ sb (aD P 0)),aT (.slice pa i.toNat pc) 24 1 (aj pX (aj pb (bD i.toNat))),(jv (xb pb i.toNat b) (iU P Q) (i+1).toNat)] ?_
  refine eY 1 88 24 1 8 (.pointer none) (a0:=pa) (len:=i.toNat) (iB:=pc) (ax:=(some (⟨aN 0,0,none⟩))) (m:=1) (c:=1) (dst:=(some 86)) [b] (by kernel_rfl) (by kernel_rfl) (by kernel_rfl) (by kernel_rfl) rfl (by decide) rfl (fun _ _ _ s=>fK s 0 rfl rfl ⟨.inl ⟨rfl,rfl⟩,trivial⟩) (by simp only[maxLen];omega) (by omega) (fun gq gp=>?_)
  rw[Dk pb hi0 b]
  try simp only[aQ]
  refine Ya [zR 4] [86,83,85] [zS 12 gq (i.toNat+1) gp] ?_
  try simp only[aQ]
  refine aC ?_
  try simp only[aQ]
  refine eu ?_
  try simp only[aQ]
  refine Zp [zR 0,.rd 1 [] 0 1,zR 2] [] [zI 13 (i+1)] (oC (show IntKind.i64.wrap (i+1)=i+1 from wrap_i64 (by omega) (by omega)) oN) ?_
  try simp only[aQ]
  refine bC ⟨i+1,xb pb i.toNat b,_,i.toNat+1,_⟩ [0,1,2,3,8,10,12,13] [] [0,1,2] [0,1,2] ?_ ?_ (by kernel_rfl) rfl rfl rfl
  ·exact⟨by simp only;omega,by simp only;omega⟩
  ·simp only
   omega
 ·have hie:i=P:=by simp at hlt;omega
  subst hie
  rw[aR]
  refine dO rfl ?_
  refine aq ?_
  refine bH (dg 2 rfl) ?_
  refine Nm [(jQ sb (aD P 0)),(jv pb (iU P Q) P)] ?_
  have hps:((bD P).map pb).map pX=(bD P).map fun i=>pX (pb i):=by rw[fc];rfl
  rw[hps]
  try simp only[aQ]
  refine Za [zR 0] [67,1,13] [zI 16 0] ?_
  refine aq ?_
  refine Zs [zR 0] [] [zI 17 0] ?_
  refine aM ?_
  refine cU (fun z:Gj=>[zI 0 (↑P:Int),zS 2 va vs.length vc,zS 3 ba bs.length bc,zB 8 false,zP 10 sb,zS 12 pa P pc,zI 16 (z.kE:Int),zI 17 z.i]) (fun z:Gj=>[]) (fun z:Gj=>[jQ sb z.tok,jv pb z.x P]) (fun z:Gj=>[(.nilIface,(dC er eb)),(.slice va vs.length vc,(aS vs)),(.slice ba bs.length bc,(aS bs)),(.slice pa P pc,(D.sl 1 (aj (fun i=>pX (pb i)) (bD P))))]) (fun z:Gj=>(vs.length - z.i).toNat) (fun z:Gj=>(0≤z.i∧z.i≤vs.length∧iH P Q z.x z.k z.tok z.kE∧(z.k:Int)≤2*z.i∧(z.kE:Int)≤z.i)) ⟨0,iU P Q,0,aD P 0,0⟩ [0,2,3,8,10,12,16,17] [] [0,1] [0,1,2,3] ?_ (by kernel_rfl) rfl rfl rfl ?_
  ·exact⟨by simp,by simp,Hs (by omega) (by omega) (by omega) (by omega),by simp,by simp⟩
  rintro⟨i,x,k,tok,kE⟩ ⟨hi0,hi,hS,hk,KE⟩
  dsimp only at hi0 hi hS hk KE ⊢
  refine aq ?_
  refine Zs (bh 0 4) [] [zB 90 (decide (i<(↑vs.length:Int)))] ?_
  refine cC (t:=decide (i<(↑vs.length:Int))) (fun yd=>?_) (fun yd=>?_)
  ·have Kx:i<vs.length:=by simpa using yd
   have Kv:1≤Q:=by omega
   by_cases N':i<bs.length
   ·obtain⟨z,hz⟩:∃z,bs[i.toNat]?=some z:=⟨_,ak (by omega)⟩
    refine gr 2 rfl i.toNat (dD hz) (by kernel_rfl) (fun b1 fu uf vi vm ha1 cP=>?_)
    cases ha1
    have cg:=oO (cP 0 _ rfl)
    by_cases VO:0≤z
    ·by_cases Xc:z<P
     ·have TR:((bD P).map fun i=>pX (pb i))[z.toNat]?=some (pX (pb z.toNat)):=by
       rw[aF,ew (by omega)]
       rfl
      have zY:z.toNat<P:=by omega
      obtain⟨hy,VC⟩:=hS.q.dW (f:=z.toNat) (by omega) zY
      try simp only[aQ]
      refine aG (aq (aM (aq ?_)))
      refine Zt (bh 0 3++[.rd 3 [] 0 6]++bh 4 7++[.rd 7 [] 0 2,.rd 8 [.r 0 (some (nI z))] 0 0,.rd 9 [] 0 6]++bh 10 14++[.rd 14 [] 0 2,.rd 15 [.r 0 (some (nI z))] 0 0,zR 16,.rd 17 [] 0 6,zR 18]) [90] [zB 111 true] (oC (show decide (i<(↑bs.length:Int))=true from by simp;omega) (oC hi0 (oC N' (oC cg (oC (show decide (z≥(0:Int))=true from by simp;omega) (oC hi0 (oC N' (oC cg (oC (show decide (z<(↑P:Int))=true from by simp;omega) oN))))))))) ?_
      refine gR ?_
      refine aq ?_
      refine gr 3 rfl z.toNat TR (by kernel_rfl) (fun b2 pN Bq JT IC ha2 kK=>?_)
      cases ha2
      have gI:=oO (kK 0 _ rfl)
      try simp only[aQ]
      refine jT [(0,true),(1,true),(2,true),(3,true),(4,true),(5,true),(6,true),(7,true),(8,false),(9,false),(10,true)] [] ?_
      refine Yp (bh 0 4++[.rd 4 [] 0 2,.rd 5 [.r 0 (some (nI z))] 0 0,.rd 6 [] 0 2,.rd 7 [.r 1 (some (.pointer (sA (pb z.toNat) 0)))] 0 0]) [111] [zS 112 (sA b2 pN) P pc,zP 119 (pb z.toNat)] (oC hi0 (oC N' (oC cg (oC VO (oC Xc (oC gI oN)))))) ?_
      refine cn [] [1] 23 #[.pointer (some (⟨pb z.toNat,0,none⟩))] (some 120) (by kernel_rfl) (by kernel_rfl) (by decide) (fun w S M hP hG _=>?_)
      refine(HT (n:=k) (hG.at 0 rfl) hP zY (hS.q.lA.kY _ zY) (by omega)).mono ?_
      rintro e5 w5 ⟨ma,mc,hR⟩
      refine⟨_,_,_,hR,?_⟩
      try simp only[aQ]
      refine cn [] [1] 41 #[.slice (some (⟨b2,pN,none⟩)) P pc,.slice ma ((iE (x.P z.toNat)).length) mc] (some 121) (by kernel_rfl) (by kernel_rfl) (by decide) (fun w S M hP hG _=>?_)
      refine(EL (ah:=Q) (n:=k+1) (L:=iE (x.P z.toNat)) (l:=iE (x.P z.toNat)) (hG.at 0 rfl) hP hy (fun _ hm=>hm) (by have:=D1 (hS.q.lA.kY _ zY);omega) (hG.at 3 rfl) (hG.at 4 rfl)).mono ?_
      rintro e6 w6 hR
      refine⟨_,_,_,hR,?_⟩
      try simp only[aQ]
      refine Ya [zR 10] [121,120,112,119] [zB 18 true] ?_
      try simp only[aQ]
      refine aC ?_
      try simp only[aQ]
      refine aq ?_
      try simp only[aQ]
      refine Za [zR 0,zR 1] [] [zB 123 false] ?_
      try simp only[aQ]
      refine cF ?_
      try simp only[aQ]
      refine aG ?_
      try simp only[aQ]
      refine aq ?_
      try simp only[aQ]
      refine aq ?_
      try simp only[aQ]
      refine Nm [(jQ sb tok),(jv pb (fL (gb x z.toNat) (iE (x.P z.toNat))) P)] ?_
      refine vf (E':=[zI 0 (P:Int),zS 2 va vs.length vc,zS 3 (some ⟨b1,fu,none⟩) bs.length bc,zB 8 false,zV 10 (.pointer (some ⟨sb,0,none⟩)),zS 12 (some ⟨b2,pN,none⟩) P pc,zI 16 (kE:Int),zI 17 i]) (h':=[]) (C':=[_,_]) (G':=[_,_,_,_]) [0,2,3,8,10,12,16,17] [] [0,1] [0,1,3,2] (by kernel_rfl) rfl rfl rfl ?_
      refine sg (k:=k+1) hI (hS.dW (by omega) zY) Kv (by omega) (by omega) hi0 Kx ?_
      intro x' k' vq tV KJ hk' hd'
      refine Zp [zR 0,.rd 1 [] 0 1,zR 2] [] [zI 17 (i+1)] (oC (show IntKind.i64.wrap (i+1)=i+1 from wrap_i64 (by omega) (by omega)) oN) ?_
      refine bC ⟨i+1,x',k',vq,tV⟩ [0,2,3,8,10,12,16,17] [] [0,1] [0,1,3,2] ?_ ?_ (by kernel_rfl) rfl rfl rfl
      ·exact⟨by simp only;omega,by simp only;omega,KJ,by simp only;omega,by simp only;omega⟩
      ·simp only
       omega
     ·try simp only[aQ]
      refine aG (aq (aM (aq ?_)))
      refine Zt (bh 0 3++[.rd 3 [] 0 6]++bh 4 7++[.rd 7 [] 0 2,.rd 8 [.r 0 (some (nI z))] 0 0,.rd 9 [] 0 6]++bh 10 14++[.rd 14 [] 0 2,.rd 15 [.r 0 (some (nI z))] 0 0,zR 16,.rd 17 [] 0 7,zR 18]) [90] [zB 111 false] (oC (show decide (i<(↑bs.length:Int))=true from by simp;omega) (oC hi0 (oC N' (oC cg (oC (show decide (z≥(0:Int))=true from by simp;omega) (oC hi0 (oC N' (oC cg (oC (show decide (z<(↑P:Int))=false from by simp;omega) oN))))))))) ?_
      refine cF ?_
      refine aG (aq (aq ?_))
      refine Nm [(jQ sb tok),(jv pb x P)] ?_
      refine vf (E':=[zI 0 (P:Int),zS 2 va vs.length vc,zS 3 (some ⟨b1,fu,none⟩) bs.length bc,zB 8 false,zV 10 (.pointer (some ⟨sb,0,none⟩)),zS 12 pa P pc,zI 16 (kE:Int),zI 17 i]) (h':=[]) (C':=[_,_]) (G':=[_,_,_,_]) [0,2,3,8,10,12,16,17] [] [0,1] [0,1,3,2] (by kernel_rfl) rfl rfl rfl ?_
      refine sg (k:=k) hI hS Kv (by omega) (by omega) hi0 Kx ?_
      intro x' k' vq tV KJ hk' hd'
      refine Zp [zR 0,.rd 1 [] 0 1,zR 2] [] [zI 17 (i+1)] (oC (show IntKind.i64.wrap (i+1)=i+1 from wrap_i64 (by omega) (by omega)) oN) ?_
      refine bC ⟨i+1,x',k',vq,tV⟩ [0,2,3,8,10,12,16,17] [] [0,1] [0,1,3,2] ?_ ?_ (by kernel_rfl) rfl rfl rfl
      ·exact⟨by simp only;omega,by simp only;omega,KJ,by simp only;omega,by simp only;omega⟩
      ·simp only
       omega
    ·try simp only[aQ]
     refine aG (aq (aM (aq ?_)))
     refine Zt (bh 0 3++[.rd 3 [] 0 6]++bh 4 7++[.rd 7 [] 0 2,.rd 8 [.r 0 (some (nI z))] 0 0,.rd 9 [] 0 7,zR 10,zR 11,.rd 12 [] 1 0,.rd 13 [] 1 0,.rd 14 [] 1 0,.rd 15 [] 1 0,.rd 16 [] 1 0,.rd 17 [] 1 0,zR 18]) [90] [zB 111 false] (oC (show decide (i<(↑bs.length:Int))=true from by simp;omega) (oC hi0 (oC N' (oC cg (oC (show decide (z≥(0:Int))=false from by simp;omega) oN))))) ?_
     refine cF ?_
     refine aG (aq (aq ?_))
     refine Nm [(jQ sb tok),(jv pb x P)] ?_
     refine vf (E':=[zI 0 (P:Int),zS 2 va vs.length vc,zS 3 (some ⟨b1,fu,none⟩) bs.length bc,zB 8 false,zV 10 (.pointer (some ⟨sb,0,none⟩)),zS 12 pa P pc,zI 16 (kE:Int),zI 17 i]) (h':=[]) (C':=[_,_]) (G':=[_,_,_,_]) [0,2,3,8,10,12,16,17] [] [0,1] [0,1,3,2] (by kernel_rfl) rfl rfl rfl ?_
     refine sg (k:=k) hI hS Kv (by omega) (by omega) hi0 Kx ?_
     intro x' k' vq tV KJ hk' hd'
     refine Zp [zR 0,.rd 1 [] 0 1,zR 2] [] [zI 17 (i+1)] (oC (show IntKind.i64.wrap (i+1)=i+1 from wrap_i64 (by omega) (by omega)) oN) ?_
     refine bC ⟨i+1,x',k',vq,tV⟩ [0,2,3,8,10,12,16,17] [] [0,1] [0,1,3,2] ?_ ?_ (by kernel_rfl) rfl rfl rfl
     ·exact⟨by simp only;omega,by simp only;omega,KJ,by simp only;omega,by simp only;omega⟩
     ·simp only
      omega
   ·refine aG ?_
    refine aq (aM (aq ?_))
    refine Zt (bh 0 3++[.rd 3 [] 0 7,zR 4,.rd 5 [] 1 0,.rd 6 [] 1 0,.rd 7 [] 1 0,.rd 8 [] 1 0,.rd 9 [] 1 0,zR 10,zR 11,.rd 12 [] 1 0,.rd 13 [] 1 0,.rd 14 [] 1 0,.rd 15 [] 1 0,.rd 16 [] 1 0,.rd 17 [] 1 0,zR 18]) [90] [zB 111 false] (oC (show decide (i<(↑bs.length:Int))=false from by simp;omega) oN) ?_
    refine cF ?_
    refine aG (aq (aq ?_))
    refine Nm [(jQ sb tok),(jv pb x P)] ?_
    refine vf (E':=[zI 0 (P:Int),zS 2 va vs.length vc,zS 3 ba bs.length bc,zB 8 false,zV 10 (.pointer (some ⟨sb,0,none⟩)),zS 12 pa P pc,zI 16 (kE:Int),zI 17 i]) (h':=[]) (C':=[_,_]) (G':=[_,_,_,_]) [0,2,3,8,10,12,16,17] [] [0,1] [0,1,3,2] (by kernel_rfl) rfl rfl rfl ?_
    refine sg (k:=k) hI hS Kv (by omega) (by omega) hi0 Kx ?_
    intro x' k' vq tV KJ hk' hd'
    refine Zp [zR 0,.rd 1 [] 0 1,zR 2] [] [zI 17 (i+1)] (oC (show IntKind.i64.wrap (i+1)=i+1 from wrap_i64 (by omega) (by omega)) oN) ?_
    refine bC ⟨i+1,x',k',vq,tV⟩ [0,2,3,8,10,12,16,17] [] [0,1] [0,1,3,2] ?_ ?_ (by kernel_rfl) rfl rfl rfl
    ·exact⟨by simp only;omega,by simp only;omega,KJ,by simp only;omega,by simp only;omega⟩
    ·simp only
     omega
  ·refine dO rfl ?_
   refine Zs [zR 0] [90,0,2,3,10,12,16,17] [zB 8 true] ?_
   refine Yr [[]] (.bool true) fun a w s=>?_
   exact s.pB (by simp) [] [] rfl rfl
end Go.Proofs.YtmkapocibaojdaaGreatDoor
end
section
namespace Go.Sx
open Go Go.RowKit Go.ChangeShapes Go.WideShapes
theorem Fr.below {w w':World} (h:Fr [] w w'):Below w.heap.size w w':=⟨h.os,h.tape,h.output,h.size,fun b hb=>h.block b hb (by simp)⟩
def NX (w:World) (ad:Option Addr) (zs:List Int):Prop:=zs≠[]→∃bo off cs ty fz,ad=some ⟨bo,off,none⟩∧w.heap[bo]?=some (.cells cs ty fz)∧∀(i:Nat) z,zs[i]?=some z→cs[off+i]?=some (.int .i64 z)
theorem rQ {w:World} {a:Addr} {v:Value} (h:w.cell? a=some v):∃cs ty fz,w.heap[a.block]?=some (.cells cs ty fz)∧a.spot=none∧cs[a.off]?=some v:=by
 unfold World.cell? at h
 split at h
 ·rename_i cs ty fz hb
  split at h
  ·cases h
  ·rename_i hs
   exact⟨cs,ty,fz,hb,by simpa using hs,h⟩
 ·cases h
section
variable {H:Type} {enc:TypeId×Value→H} {P:Program}
theorem B6 {W:World} {base:Nat} {t e:TypeId} {v:Value} {d:DataW H} {ps:List MemPlace} (ht:P.underlying t=some (.slice e)) (he:P.underlying e=some (.int .i64)) (hc:P.cellsOf e=1)
  (hv:Value.okWide P W .any base t v) (h:DataW.Trod enc P W 0 (fun _=>true) true t v d ps):∃ad zs c,v=.slice ad zs.length c∧NX W ad zs∧(∀z∈zs,-9223372036854775808≤z∧z≤9223372036854775807)∧zs.length≤maxLen:=by
 obtain⟨a0,len,cap,rfl⟩:=okWide_slice ht hv
 obtain⟨fuel,hf⟩:=h
 rcases open_ints ht he hc hf with ⟨hcs,hx⟩|⟨a,len',cap',zs,hcs,_,hl,hm,hz,hx,hcell,Wq⟩
 ·simp[Value.cells]at hcs
  obtain⟨rfl,rfl,rfl⟩:=hcs
  exact⟨none,[],0,rfl,fun h=>absurd rfl h,by simp,by simp⟩
 ·simp[Value.cells]at hcs
  obtain⟨rfl,rfl,rfl⟩:=hcs
  simp only[if_true]at hz
  refine⟨some a,zs.take len,cap,by rw[bp,lX (by omega)],fun hne=>?_,fun z hz=>?_,by rw[bp];omega⟩
  ·have hpos:0<zs.length:=by
    rcases zs with _|⟨z,zs⟩
    ·simp at hne
    ·simp
   obtain⟨cs,ty,fz,hb,hs,_⟩:=rQ (hcell 0 hpos)
   have e0:a.add 0=a:=by simp[Addr.add]
   rw[e0]at hb hs
   obtain⟨b,off,sp⟩:=a
   simp only at hb hs
   subst hs
   refine⟨b,off,cs,ty,fz,rfl,hb,fun i z hi=>?_⟩
   rw[cL]at hi
   split at hi
   ·have vM:=(ai.1 hi).1
    obtain⟨cs',ty',XC,hb',_,KF⟩:=rQ (hcell i vM)
    rw[rU]at hb' KF
    simp only at hb' KF
    rw[hb]at hb'
    cases hb'
    rw[KF,aO,hi]
    rfl
   ·cases hi
  ·have:=Wq z (jo hz)
   simp[Lit.wf,IntKind.min,IntKind.max,IntKind.signed,IntKind.bits]at this
   exact this
theorem uB {W:World} {base:Nat} {t e:TypeId} {v:Value} {d:DataW H} {ps:List MemPlace} (ht:P.underlying t=some (.slice e)) (he:P.underlying e=some (.int .i64)) (hc:P.cellsOf e=1)
  (hv:Value.okWide P W .any base t v) (h:DataW.Trod enc P W 0 (fun _=>true) true t v d ps):∃ad zs c,v=.slice ad zs.length c∧cm W (fun _=>True) (.slice ad zs.length c) (aS zs)∧(∀z∈zs,-9223372036854775808≤z∧z≤9223372036854775807)∧zs.length≤maxLen:=by
 obtain⟨a0,len,cap,rfl⟩:=okWide_slice ht hv
 obtain⟨ad,zs,c,hx,hat,hz,hl⟩:=B6 ht he hc hv h
 injection hx with h1 h2 h3
 subst h1 h2 h3
 refine⟨a0,zs,cap,rfl,?_,hz,hl⟩
 by_cases hne:zs=[]
 ·subst hne
  exact .nil
 ·obtain⟨fuel,hf⟩:=h
  have hcap:zs.length≤cap:=by
   rcases open_ints ht he hc hf with ⟨hcs,_⟩|⟨a,len',cap',XV,hcs,_,hl',_⟩
   ·simp[Value.cells]at hcs
    exact absurd hcs.2.1 hne
   ·simp[Value.cells]at hcs
    obtain⟨rfl,rfl,rfl⟩:=hcs
    exact hl'
  obtain⟨bo,off,cs,ty,fz,rfl,hb,hcell⟩:=hat hne
  have hlen:(zs.map eI).length=zs.length:=by simp
  have:=cm.sl (S:=fun _=>True) (off:=off) (cap:=cap) (k:=1) (rows:=zs.map eI) (fun i _=>.int .i64 (zs.getD i 0)) hb trivial (by simpa using hcap) (by decide) (by simp) (fun i j hi hj=>?_) (fun i j row d hi hj=>?_)
  ·simpa using this
  ·obtain rfl:j=0:=by omega
   rw[hlen]at hi
   have:=hcell i (zs[i]) (ak hi)
   rw[Nat.mul_one,dZ,this]
   simp[aO,ak hi]
  ·rw[aF]at hi
   obtain⟨z,MV,rfl⟩:=aI.1 hi
   match j,hj with
   | 0,hj=>
    simp only[aV,az]at hj
    subst hj
    simp only[aO,MV,jK]
    exact .v rfl
   | j+1,hj=>simp at hj
theorem kX {W:World} {n:String} {g:Nat} {x:Value} (hg:P.globalNamed n=some g) (h:W.var? P n=some #[x]) (hx:x.oneCell'=true):cm W (fun _=>True) (.pointer (some ⟨g,0,none⟩)) (.ptr [.v x]):=by
 unfold World.var? at h
 simp only[hg,Option.bind_some]at h
 split at h
 ·rename_i cs ty fz hb
  cases h
  refine .ptr (fun _=>x) hb trivial (fun j hj=>?_) (fun j d hj=>?_)
  ·obtain rfl:j=0:=by simpa using hj
   rfl
  ·match j,hj with
   | 0,hj=>
    simp only[aV,az]at hj
    subst hj
    exact .v hx
   | j+1,hj=>simp at hj
 ·cases h
theorem LA {W:World} {ti tp te ts:TypeId} {ms:Array (String×TypeId)} {nm:String} {f:Field} (hi:P.underlying ti=some (.interface ms)) (hrow:∀u,P.typeName? 3 u=some nm→u=tp)
  (hp:P.underlying tp=some (.pointer te)) (he:P.underlying te=some (.struct #[f])) (hft:f.type=ts) (hfo:f.offset=0) (hs:P.underlying ts=some .string) (hc:P.cellsOf te=1) (hcs:P.cellsOf ts=1) :
  ∀(ns:List (String×List UInt8)) (ps:List MemPlace),DataW.LaidVars P W (ns.map fun x=>(x.1,DataW.iface nm (.ptr (.agg [.lit (.string x.2)])))) ps →
   ns.all (fun x=>match P.globalNamed x.1 with
    | some g=>(P.globals[g]?).map (·.type)==some ti
    | none=>false)=true →
   (∀b off,MemPlace.cell b off∈ps→∀u v,W.cell? ⟨b,off,none⟩=some (.iface u v)→Value.okWide P W .any 0 u v) →
   ∃Gh:List Addr,Gh.length=ns.length∧(∀(i:Nat) x a,ns[i]?=some x→Gh[i]?=some a→W.var? P x.1=some #[.iface tp (.pointer (some a))]∧a.spot=none)∧(Gh.map fun a=>MemPlace.cell a.block a.off).Sublist ps
 | [],ps,_,_,_=>⟨[],rfl,by simp,by simp⟩
 | (n,text)::ns,ps,h,hg,hr=>by
  rw[cj]at h
  obtain⟨g0,t0,V3,f0,p0,q0,hg0,ht0,nc,W9,hq,e0⟩:=h
  rw[List.all_cons,bT]at hg
  obtain⟨hg1,Uc⟩:=hg
  simp only[hg0,ht0,beq_iff_eq,az]at hg1
  subst hg1 e0
  obtain⟨l0⟩:=V3
  have Wg:∀u v,l0=[.iface u v]→Value.okWide P W .any 0 u v:=fun u v e=>by
   subst e
   exact hr g0 0 (by simp[MemPlace.row]) u v (by simpa using World.var?_cell hg0 nc 0)
  obtain⟨a0,s0,rfl,hc0,hs0,Ey,rfl⟩:=errorString_of_trod hi hrow hp he hft hfo hs hc hcs W9 Wg
  obtain⟨Gh,h1,h2,h3⟩:=LA hi hrow hp he hft hfo hs hc hcs ns q0 hq Uc fun b off hm=>hr b off (fW _ hm)
  obtain⟨_,_,_,_,P7,_⟩:=rQ hc0
  refine⟨a0::Gh,by simp[h1],fun i x a hx ha=>?_,?_⟩
  ·cases i with
   | zero=>
    simp only[aV,az]at hx ha
    subst hx ha
    exact⟨nc,P7⟩
   | succ i=>
    simp only[eU]at hx ha
    exact h2 i x a hx ha
  ·rw[cj,bY]
   refine(List.Sublist.cons_cons _ h3).trans (?_:List.Sublist _ (MemPlace.row a0 1++q0)) |>.trans (List.sublist_append_right _ _)
   simp[MemPlace.row]
theorem KQ {W:World} {ti tp te ts:TypeId} {ms:Array (String×TypeId)} {nm:String} {f:Field} (hi:P.underlying ti=some (.interface ms)) (hrow:∀u,P.typeName? 3 u=some nm→u=tp)
  (hp:P.underlying tp=some (.pointer te)) (he:P.underlying te=some (.struct #[f])) (hft:f.type=ts) (hfo:f.offset=0) (hs:P.underlying ts=some .string) (hc:P.cellsOf te=1) (hcs:P.cellsOf ts=1)
  (ns:List (String×List UInt8)) (h:laidMet P (ns.map fun x=>(x.1,DataW.iface nm (.ptr (.agg [.lit (.string x.2)])))) W)
  (hg:ns.all (fun x=>match P.globalNamed x.1 with
    | some g=>(P.globals[g]?).map (·.type)==some ti
    | none=>false)=true) :
  ∃(er:Nat→Addr) (eb:Nat→Array Value×TypeId),(∀(i:Nat) x,ns[i]?=some x→W.var? P x.1=some #[.iface tp (.pointer (some (er (i+1))))]∧W.heap[(er (i+1)).block]?=some (.cells (eb (i+1)).1 (eb (i+1)).2 (0,0))) ∧
   ∀i j,1≤i→i≤ns.length→1≤j→j≤ns.length→er i=er j→i=j:=by
 obtain⟨ps,hv,hnd,hrows⟩:=h
 obtain⟨Gh,h1,h2,h3⟩:=LA hi hrow hp he hft hfo hs hc hcs ns ps hv hg fun b off hm=>(hrows b off hm).2
 have tJ:=h3.nodup hnd
 have key:∀i:Nat,i<ns.length→∃a,Gh[i]?=some a:=fun i hi=>⟨_,ak (by omega)⟩
 have hcell:∀(i:Nat) a,Gh[i]?=some a→∃c:Array Value×TypeId,W.heap[a.block]?=some (.cells c.1 c.2 (0,0)):=fun i a ha=>by
  obtain⟨c,t,hct⟩:=(hrows a.block a.off (h3.subset (aB.2 ⟨a,ae ha,rfl⟩))).1
  exact⟨(c,t),hct⟩
 classical
 refine⟨fun k=>Gh.getD (k - 1) ⟨0,0,none⟩,fun k=>if hx:∃c:Array Value×TypeId,W.heap[(Gh.getD (k - 1) ⟨0,0,none⟩).block]?=some (.cells c.1 c.2 (0,0))then hx.choose else (#[],0),fun i x hx=>?_,fun i j hi1 hi2 JD hj2 he=>?_⟩
 ·obtain⟨a,ha⟩:=key i (ai.1 hx).1
  have e:Gh.getD (i+1 - 1) ⟨0,0,none⟩=a:=by simp[aO,ha]
  have hh:=hcell i a ha
  simp only[e]
  refine⟨(h2 i x a hx ha).1,?_⟩
  rw[dif_pos hh]
  exact hh.choose_spec
 ·obtain⟨a,ha⟩:=key (i - 1) (by omega)
  obtain⟨b,hb⟩:=key (j - 1) (by omega)
  simp only[aO,ha,hb,jK]at he
  subst he
  have e1:(Gh.map fun a=>MemPlace.cell a.block a.off)[i - 1]?=some (.cell a.block a.off):=by simp[ha]
  have e2:(Gh.map fun a=>MemPlace.cell a.block a.off)[j - 1]?=some (.cell a.block a.off):=by simp[hb]
  have:=(dQ (ai.1 e1).1 tJ).1 (e1.trans e2.symm)
  omega
theorem sR (hl:laidOutB P=true) {W W':World} {sp:Nat→Bool} (hb:Below W.heap.size W W'):∀{ts:List TypeId} {vs:List Value} {ds:List (DataW H)} {ps:List MemPlace},
  (∀t∈ts,P.readableRec t=true∧t<P.types.size)→DataW.TrodAll enc P W 0 (fun _=>true) true ts vs ds ps→(∀x∈ps,x.block<W.heap.size)→(∀x∈ps,sp x.block=true)→DataW.TrodAll enc P W' 0 sp true ts vs ds ps
 | [],vs,ds,ps,_,h,_,_=>by
  obtain⟨rfl,rfl,rfl⟩:=trodAll_nil h
  exact trodAll_mk0
 | t::ts,vs,ds,ps,ht,h,hlt,hsp=>by
  obtain⟨v,vs',d,ds',p,q,rfl,rfl,rfl,h0,h1⟩:=trodAll_cons h
  obtain⟨hr,hrow⟩:=ht t (bl ..)
  refine trodAll_cons_mk (WideElems.Trod_stays hl hr hrow h0 (fun x hx=>hb.same (hlt x (ig _ hx))) fun x hx=>hsp x (ig _ hx)) ?_
  exact sR hl hb (fun t ht'=>ht t (bk _ ht')) h1 (fun x hx=>hlt x (fW _ hx)) fun x hx=>hsp x (fW _ hx)
theorem HW {f:Func} {s:ChangeSpec} {apart fresh handsOn again:Bool} {W W':World} {args:Array Value} {ds gs:List (DataW H)} {before:List MemPlace} {tb:TypeId}
  (hl:laidOutB P=true) (hts:f.params.toList.all (fun t=>P.readableRec t&&Nat.blt t P.types.size)=true) (VP:P.underlying tb=some .bool) (Kw:f.resultTypes = #[tb]) (hvs:s.vars=[])
  (hW:DataW.Whole enc P f.params.toList s.vars apart W args.toList ds gs before) (hfn:∀gs,gs=[]→s.fn H (ds++gs)={ results:=[.lit (.bool true)],args:=ds })
  (hb:Below W.heap.size W W'):s.post enc P f apart fresh handsOn again W args (.bool true) W':=by
 have hlt:∀x∈before,x.block<W.heap.size:=fun x hx=>hW.lt x hx
 have hold:∀x∈before,(fun b=>decide (b<W.heap.size)) x.block=true:=fun x hx=>by simpa using hlt x hx
 have Nw:=hW
 obtain⟨p,q,hA,hV,hpq,hz,hn⟩:=Nw
 rw[hvs]at hV
 obtain⟨rfl,rfl⟩:=trodVars_none hV
 rw[bf]at hpq
 subst hpq
 have hfn:=hfn [] rfl
 have M0:∀t∈f.params.toList,P.readableRec t=true∧t<P.types.size:=fun t ht=>by
  have:=dF.1 hts t ht
  simp only[bT]at this
  exact⟨this.1,Nat.lt_of_succ_le (bP this.2)⟩
 have hres:∀(b:Nat) (sp:Nat→Bool) (hd:Bool),DataW.TrodAll enc P W' b sp hd f.resultTypes.toList ((Value.bool true).resultList f.resultTypes.size) (s.fn H (ds++[])).results []:=fun b sp hd=>by
  rw[hfn,Kw]
  exact trodAll_mk1 ⟨1,by simp[DataW.trod,Value.cells,VP]⟩
 have hargs:∀sp:Nat→Bool,(∀x∈before,sp x.block=true)→DataW.TrodAll enc P W' 0 sp true f.params.toList args.toList (s.fn H (ds++[])).args before:=fun sp hsp=>by
  rw[hfn]
  exact sR hl hb M0 hA hlt hsp
 have hvars:∀sp:Nat→Bool,DataW.TrodVars enc P W' sp s.vars (s.fn H (ds++[])).vars []:=fun sp=>by
  rw[hvs,hfn]
  rfl
 refine⟨ds,[],before,[],before,[],hW,hres _ _ _,hargs _ hold,hvars _,World.keptBut_mono (fun x hx=>⟨hx,.inr (.inl hx)⟩) (hb.frame (·∈before)),fun _=>?_⟩
 refine⟨?_,_,_,([]++before)++[],⟨[]++before,[],trodAll_append (hargs _ (fun _ _=>rfl)) (hres _ _ _),hvars _,rfl,?_,?_⟩,?_⟩
 ·intro j t r hj hv
  rw[Kw]at hj hv
  match j,hj,hv with
  | 0,hj,hv=>
   simp[Value.resultList]at hj hv
   subst hj;subst hv
   simp[Value.okWide,VP,Cell.okWide,Cell.ok]
  | j+1,hj,hv=>simp at hj
 ·intro b off hp
  have hin:MemPlace.cell b off∈before:=by simpa using hp
  rw[hb.frozen (hlt _ hin)]
  exact hz b off hin
 ·intro ha
  simpa using hn ha
 ·intro x hx _
  simpa using hx
end
end Go.Sx
end
