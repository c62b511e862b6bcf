/- Part 13 of the texts of a claim: SeS Tx30 SeN SeD SeE PlJ Backs PlT. -/
import Derived.Test.YtmkapocibaojdaaGreatDoorTr12
open ByteArray renaming mk → aL
open Classical renaming byContradiction → bU
open Int renaming le_refl → fq, toNat_natCast → aR
open List renaming filter_sublist → dw, getElem?_cons_zero → aV, getElem?_drop → cq, getElem?_take → cL, length_append → bA, length_cons → eF, length_eq_zero_iff → eV, length_filter_le → cH, length_map → aA, length_replicate → gG, length_set → jg, map → aj, map_congr_left → cB, map_cons → cj, map_map → fc, mem_append → au, mem_cons → cE, mem_cons_of_mem → bk, mem_cons_self → bl, mem_filter → aP, mem_map → aB, mem_of_getElem? → ae, mem_or_eq_of_mem_set → jc, mem_singleton → ay, replicate → aD, sum_cons → lO
open Nat renaming add_zero → dZ, le_of_ble_eq_true → bP, le_succ → mm, le_trans → aZ
open Option.some renaming injEq → az
section
namespace Go.Proofs.YtmkapocibaojdaaGreatDoor
open Go Go.Sx
section Fo
variable {w:World} {S:Nat→Prop} {M:List Nat} {er:Nat→Addr} {eb:Nat→Array Value×TypeId} {x:fJ} {pb sb n:Nat} {tok at':List Int} {ops:List fP} {key text:ByteArray} {z:Int}
theorem Mr (hC:cm w S .nilIface (dC er eb)) (hP:Pre w S M [bQ pb x,lN sb tok pb at' ops]) (hx:iW x n) (hn:n≤600) (ja:at'.length≤1000000) (hl:ops.length≤1000000) :
  Calls Tryz.prog 34 #[.pointer (some ⟨sb,0,none⟩),.string key,.string text] w fun e w'=>∃v,cQ M w S w' e v [bQ pb x,lN sb tok pb at' (kH x at' ops ⟨0,key,1,text,0,false,[]⟩)] []∧lq 390 er (jZ x at' ops ⟨0,key,1,text,0,false,[]⟩) v:=by
 refine pW Tryz.func34 U2 (args:=[.pointer (some ⟨sb,0,none⟩),.string key,.string text]) (S:=S) (C:=[bQ pb x,lN sb tok pb at' ops]) (G:=[(_,dC er eb)]) (by kernel_rfl) hP (.cons hC (.nil _ _)) ?_
 refine Zs [zR 0] [] [zV 6 .nilIface] ?_
 refine jS [(0,true),(1,true),(2,true),(3,true),(4,false),(5,true)] [] ?_
 refine Ya (bh 0 4) [0,1,2] [zP 7 sb,zV 10 (.agg #[nI 0,.string key,nI 1,.string text,nI 0,.bool false,.slice none 0 0])] ?_
 refine cn [] [0,1] 102 #[.pointer (some (⟨sb,0,none⟩)),.agg #[.int .i64 0,.string key,.int .i64 1,.string text,.int .i64 0,.bool false,.slice none 0 0]] (some 11) (by kernel_rfl) (by kernel_rfl) (by decide) (fun w S M hP hG _=>?_)
 refine(BP (hG.at 0 rfl) hP hx hn ja hl).mono ?_
 rintro e1 w1 ⟨v,hR,hv⟩
 refine⟨_,_,_,hR,?_⟩
 try simp only[aQ]
 refine Ya [zR 5] [11,7,10] [zV 6 v] ?_
 try simp only[aQ]
 refine aC ?_
 try simp only[aQ]
 refine Yr [[]] (v) fun a w s=>?_
 exact⟨_,s.ret (by simp) [0,1] [] rfl rfl,hv⟩
theorem Ms (hC:cm w S .nilIface (dC er eb)) (hP:Pre w S M [bQ pb x,lN sb tok pb at' ops]) (hx:iW x n) (hn:n≤600) (ja:at'.length≤1000000) (hl:ops.length≤1000000) :
  Calls Tryz.prog 35 #[.pointer (some ⟨sb,0,none⟩),.string key,.int .i64 z] w fun e w'=>∃v,cQ M w S w' e v [bQ pb x,lN sb tok pb at' (kH x at' ops ⟨0,key,2,aL #[],z,false,[]⟩)] []∧lq 390 er (jZ x at' ops ⟨0,key,2,aL #[],z,false,[]⟩) v:=by
 refine pW Tryz.func35 U1 (args:=[.pointer (some ⟨sb,0,none⟩),.string key,.int .i64 z]) (S:=S) (C:=[bQ pb x,lN sb tok pb at' ops]) (G:=[(_,dC er eb)]) (by kernel_rfl) hP (.cons hC (.nil _ _)) ?_
 refine Zs [zR 0] [] [zV 6 .nilIface] ?_
 refine jS [(0,true),(1,true),(2,true),(3,true),(4,false),(5,true)] [] ?_
 refine Ya (bh 0 4) [0,1,2] [zP 7 sb,zV 10 (.agg #[nI 0,.string key,nI 2,.string (aL #[]),nI z,.bool false,.slice none 0 0])] ?_
 refine cn [] [0,1] 102 #[.pointer (some (⟨sb,0,none⟩)),.agg #[.int .i64 0,.string key,.int .i64 2,.string (aL #[]),.int .i64 z,.bool false,.slice none 0 0]] (some 11) (by kernel_rfl) (by kernel_rfl) (by decide) (fun w S M hP hG _=>?_)
 refine(BP (hG.at 0 rfl) hP hx hn ja hl).mono ?_
 rintro e1 w1 ⟨v,hR,hv⟩
 refine⟨_,_,_,hR,?_⟩
 try simp only[aQ]
 refine Ya [zR 5] [11,7,10] [zV 6 v] ?_
 try simp only[aQ]
 refine aC ?_
 try simp only[aQ]
 refine Yr [[]] (v) fun a w s=>?_
 exact⟨_,s.ret (by simp) [0,1] [] rfl rfl,hv⟩
end Fo
end Go.Proofs.YtmkapocibaojdaaGreatDoor
end
section
namespace Go.Sx
open Go
section rows
variable {P:Program} {f:Func} [Pan f] {R:Act→World→Prop} {n:Nat} [Dfr n] {k:List oR} {E:Env} {h r:List (Nat×Obj)} {F:List (List Nat×World)} {Y:fQ}
theorem kN {id L0 i:Nat} {ck:Bool} {Wp:List (Nat×List Nat)} {rest:List (Nat×Bool)} (p g o dn dc o2 sn sc t e k0:Nat) (vs:List Value) (cur':Array Value) {cur:Array Value} {dst:Option Tmp}
  (he:KX n (bS f id) E i=some (.slice (some ⟨g,o,none⟩) dn dc,.slice (some ⟨g,o2,none⟩) sn sc,t,dst)) (hok:(!ck||okW L0 (Wp.lookup i) [p])=true) (ht:P.underlying t=some (.slice e)) (hi:(P.info? e).map (·.size)=some 1)
  (hp:h[p]?=some (g,.cells cur e (0,0))) (hk:Nat.min sn dn=k0) (hl:o+k0≤cur.size) (hvs:(cur.toList.drop o2).take k0=vs) (hvl:vs.length=k0) (h1:∀u∈vs,u.oneCell'=true) (Ck:xx cur o vs=cur')
  (A:JR P f R n (bS f id) L0 ck rest (Wp.filter (·.1 != i)) k (E.put dst (.val (.int .i64 (k0:Nat)))) (h.set p (g,.cells cur' e (0,0))) r F Y) :
  JR P f R n (bS f id) L0 ck ((i,false)::rest) Wp k E h r F Y:=by
 subst Ck
 intro BB Hd aU a w s hH hR hN hW
 simp only[PW]
 have hb:w.heap[g]?=some (.cells cur e (0,0)):=s.own.own _ (ae hp)
 have hsrc:∀j v,vs[j]?=some v→w.cell? ((⟨g,o2,none⟩:Addr).add j)=some v:=fun j v hv=>by
  have DG:(⟨g,o2,none⟩:Addr).add j=⟨g,o2+j,none⟩:=by unfold Addr.add;split <;> simp_all
  rw[DG]
  refine cell_of rfl hb rfl ?_
  rw[←hvs,cL]at hv
  split at hv
  ·rw[cq]at hv
   simpa using hv
  ·cases hv
 have Ci:=run_loadCells_list (P:=P) w ⟨g,o2,none⟩ vs hsrc
 have hrun:=run_storeCells_at (P:=P) g o e vs 0 cur w hb (by omega) h1
 rw[rZ hb,dZ]at hrun
 refine yC he s fun ty=>⟨.int .i64 (k0:Nat),{ w with heap:=w.heap.setIfInBounds g (.cells (xx cur o vs) e (0,0)) },?_,fun a' hA=>je hok hp s hH hR hN hW hA A⟩
 cases qF:P.info? e with
 | none=>simp[qF]at hi
 | some inf=>
  have Nh:inf.size=1:=by simpa [qF]using hi
  have hn:vs.length=Nat.min sn dn:=by rw[hvl,hk]
  rw[hvl]at Ci
  simp[Builtin.copy_,run_underlying ht,Builtin.lenOf,Builtin.firstCells,sizeOf,typeInfo,qF,Nh,←hn,Ci,hrun,hvl]
  refine⟨rfl,?_⟩
  simp[xx,hvl]
end rows
end Go.Sx
end
section
namespace Go.Proofs.YtmkapocibaojdaaGreatDoor
open Go Go.Sx
def pC (z:Int) (n:Nat) (m:Int):Array Value:=(aD m.toNat (Value.int .i64 z)++aD (n - m.toNat) (Value.int .i64 0)).toArray
set_option maxHeartbeats 4000000 in
theorem Km {w:World} {S:Nat→Prop}:Calls Tryz.prog 194 #[.int .u64 1,.int .u64 2] w fun e w'=>cQ [] w S w' e (.tuple #[.int .u64 0,.int .u64 2]) [] []:=by
 refine jL Tryz.func194 Ai (args:=[.int .u64 1,.int .u64 2]) (S:=S) (G:=[]) (by kernel_rfl) (gl.nil w S) ?_
 refine Zs [zR 0,zR 1] [] [zV 4 (.int .u64 0),zV 5 (.int .u64 0)] ?_
 refine Zs (bh 0 3) [] [zV 6 (.int .u64 1)] ?_
 refine Zs (bh 0 3) [] [zV 7 (.int .u64 0)] ?_
 refine Zs (bh 0 3) [] [zV 8 (.int .u64 2)] ?_
 refine Zs (bh 0 3) [] [zV 9 (.int .u64 0)] ?_
 refine Zs (bh 0 4) [] [zV 10 (.int .u64 2)] ?_
 refine Zs (bh 0 7) [10,8] [zV 11 (.int .u64 0)] ?_
 refine Zs (bh 0 3) [] [zV 12 (.int .u64 0)] ?_
 refine Zs (bh 0 3) [11] [zV 13 (.int .u64 0)] ?_
 refine Zs (bh 0 6) [6] [] ?_
 refine Zs (bh 0 9) [13,12,9,7] [] ?_
 refine Zs (bh 0 4) [0,1] [zV 5 (.int .u64 2)] ?_
 refine Yr [[],[]] (.tuple #[.int .u64 0,.int .u64 2]) fun a w s=>?_
 exact s.ret (by simp) [] [] rfl rfl
set_option maxHeartbeats 4000000 in
theorem MP {w:World} {S:Nat→Prop}:Calls Tryz.prog 158 #[.int .u64 1,.int .u64 2] w fun e w'=>cQ [] w S w' e (.tuple #[.int .u64 0,.int .u64 2]) [] []:=by
 refine jL Tryz.func158 Aj (args:=[.int .u64 1,.int .u64 2]) (S:=S) (G:=[]) (by kernel_rfl) (gl.nil w S) ?_
 refine Zs [zR 0,zR 1] [] [zV 4 (.int .u64 0),zV 5 (.int .u64 0)] ?_
 refine aq ?_
 refine cF ?_
 refine aG ?_
 refine jS [(0,true),(1,true),(2,false),(3,true),(4,true),(5,true),(6,true),(7,true)] [] ?_
 refine Ya [zR 0,zR 1] [0,1] [zV 23 (.int .u64 1),zV 24 (.int .u64 2)] ?_
 refine Yc 194 #[.int .u64 1,.int .u64 2] (some 25) fun w S hG=>?_
 refine(Km (S:=S)).mono ?_
 rintro e1 w1 hR
 refine⟨_,_,_,hR,?_⟩
 try simp only[aQ]
 refine Ya (bh 3 8) [25,23,24] [zV 8 (.int .u64 0),zV 9 (.int .u64 2)] ?_
 refine aC ?_
 refine Zs (bh 0 4) [8,9] [zV 5 (.int .u64 2)] ?_
 refine Yr [[],[]] (.tuple #[.int .u64 0,.int .u64 2]) fun a w s=>?_
 exact s.ret (by simp) [] [] rfl rfl
set_option maxHeartbeats 4000000 in
theorem HA {w:World} {S:Nat→Prop} {a:Option Addr} {c:Nat} {z:Int} (h:cm w S (.slice a 1 c) (aS [z])) :
  Calls Tryz.prog 104 #[.slice a 1 c,.int .i64 2] w fun e w'=>∃ua un uc,cQ [] w S w' e (.slice ua un uc) [] [(.slice ua un uc,aS (aD 2 z))]:=by
 refine jL Tryz.func104 Ak (args:=[.slice a 1 c,.int .i64 2]) (S:=S) (G:=[(_,aS [z])]) (by kernel_rfl) (.cons h (.nil _ _)) ?_
 refine Zs [zR 0] [] [zS 4 none 0 0] ?_
 refine aq ?_
 refine Zs [zR 0,zR 1] [] [zB 10 false] ?_
 refine cF ?_
 refine aG ?_
 refine jS [(0,true),(1,true),(2,true),(3,true),(4,true),(5,false),(6,true),(7,true),(8,true),(9,true),(10,true)] [] ?_
 refine Ya (bh 0 5) [10,1] [zV 15 (.int .u64 1),zV 17 (.int .u64 2)] ?_
 refine Yc 158 #[.int .u64 1,.int .u64 2] (some 18) fun w S hG=>?_
 refine(MP (S:=S)).mono ?_
 rintro e1 w1 hR
 refine⟨_,_,_,hR,?_⟩
 try simp only[aQ]
 refine Ya (bh 6 11) [18,15,17] [zV 5 (.int .u64 0),zV 6 (.int .u64 2)] ?_
 refine aC (aq ?_)
 refine Zs (bh 0 6) [5] [zB 26 false] ?_
 refine cF ?_
 refine aG ?_
 refine Zv [zR 0,zR 1,.wr 2 [] 0,zR 3] [] [26,6] (fun aN=>[zS 7 (sA (aN 0) 0) 2 2]) o0 (fun aN=>[(aN 0,.cells #[nI 0,nI 0] 3 (0,0))]) (fun aN=>?_)
 refine jS [(0,true),(1,true),(2,false),(3,true)] [] ?_
 refine Ya [zR 0,zR 1] [0] [zS 31 (sA (aN 0) 0) 2 2,zS 32 a 1 c] ?_
 refine qh 0 0 (aN 0) 0 2 2 1 c 32 3 _ #[.int .i64 z,.int .i64 0] (dst:=(some 33)) (by kernel_rfl) (by kernel_rfl) (by kernel_rfl) (by kernel_rfl) rfl rfl rfl (by decide) (by decide) rfl ?_
 refine Ya [zR 3] [33,31,32] [zI 8 1] ?_
 refine aC (aq (aM ?_))
 refine cU (fun m:Int=>[zS 4 none 0 0,zS 7 (sA (aN 0) 0) 2 2,zI 8 m]) (fun m:Int=>[(aN 0,.cells (pC z 2 m) 3 (0,0))]) (fun m:Int=>[]) (fun m:Int=>[(.slice a 1 c,(aS [z]))]) (fun m:Int=>(2 - m).toNat) (fun m:Int=>(m=1∨m=2)) 1 [4,7,8] [0] [] [0] ?_ (by kernel_rfl) rfl rfl rfl ?_
 ·exact .inl rfl
 rintro m (rfl|rfl)
 ·rw[show pC z 2 1 = #[.int .i64 z,.int .i64 0] from rfl]
  refine aq ?_
  refine Zs (bh 0 4) [] [zB 37 true] ?_
  refine gR ?_
  refine aG (aM ?_)
  refine jT [(0,true),(1,true),(2,true),(3,true),(4,true),(5,true),(6,true),(7,false),(8,true),(9,true)] [(7,[0])] ?_
  refine Yp (bh 0 3++[.rd 3 [] 0 4,zR 4,zR 5,.rd 6 [] 0 4]) [37] [zI 38 1,zS 41 (sA (aN 0) 1) 1 1,zS 44 (sA (aN 0) 0) 1 2] (oC (show(0:Int)≤(1:Int) from by omega) (oC (show(1:Int)≤(↑(2:Nat):Int) from by omega) (oC (show(1:Int)<(↑(2:Nat):Int) from by omega) (oC (show(0:Int)≤(1:Int) from by omega) (oC (show(1:Int)≤(↑(2:Nat):Int) from by omega) oN))))) ?_
  refine kN 0 (aN 0) 1 1 1 0 1 2 32 3 _ [.int .i64 z] #[.int .i64 z,.int .i64 z] (dst:=(some 45)) (by kernel_rfl) (by kernel_rfl) (by kernel_rfl) (by kernel_rfl) rfl rfl (bP rfl) rfl rfl (by simp[Value.oneCell']) rfl ?_
  refine Ya [zR 8,zR 9] [45,38,41,44] [zI 8 2] ?_
  refine aC (eu ?_)
  refine bC 2 [4,7,8] [0] [] [0] ?_ ?_ (by kernel_rfl) rfl rfl rfl
  ·exact .inr rfl
  ·decide
 ·rw[show pC z 2 2 = #[.int .i64 z,.int .i64 z] from rfl]
  refine aq ?_
  refine Zs (bh 0 4) [] [zB 37 false] ?_
  refine cF ?_
  refine dO rfl ?_
  refine aq ?_
  refine ue (size:=1) 0 eI [z,z] 2 rfl (by decide) (by intro x _;rfl) (by simp) ⟨.inl ⟨rfl,rfl⟩,⟨.inl ⟨rfl,rfl⟩,trivial⟩⟩ ?_
  try simp only[aQ]
  refine Za [zR 0,zR 1] [37,7,8] [zS 4 (sA (aN 0) 0) 2 2] ?_
  refine Yr [[]] (.slice (sA (aN 0) 0) 2 2) fun a w s=>?_
  exact⟨_,_,_,s.ret (by simp) [] [1] rfl rfl⟩
set_option maxHeartbeats 4000000 in
theorem Kl {w:World} {S:Nat→Prop}:Calls Tryz.prog 194 #[.int .u64 1,.int .u64 3] w fun e w'=>cQ [] w S w' e (.tuple #[.int .u64 0,.int .u64 3]) [] []:=by
 refine jL Tryz.func194 Ai (args:=[.int .u64 1,.int .u64 3]) (S:=S) (G:=[]) (by kernel_rfl) (gl.nil w S) ?_
 refine Zs [zR 0,zR 1] [] [zV 4 (.int .u64 0),zV 5 (.int .u64 0)] ?_
 refine Zs (bh 0 3) [] [zV 6 (.int .u64 1)] ?_
 refine Zs (bh 0 3) [] [zV 7 (.int .u64 0)] ?_
 refine Zs (bh 0 3) [] [zV 8 (.int .u64 3)] ?_
 refine Zs (bh 0 3) [] [zV 9 (.int .u64 0)] ?_
 refine Zs (bh 0 4) [] [zV 10 (.int .u64 3)] ?_
 refine Zs (bh 0 7) [10,8] [zV 11 (.int .u64 0)] ?_
 refine Zs (bh 0 3) [] [zV 12 (.int .u64 0)] ?_
 refine Zs (bh 0 3) [11] [zV 13 (.int .u64 0)] ?_
 refine Zs (bh 0 6) [6] [] ?_
 refine Zs (bh 0 9) [13,12,9,7] [] ?_
 refine Zs (bh 0 4) [0,1] [zV 5 (.int .u64 3)] ?_
 refine Yr [[],[]] (.tuple #[.int .u64 0,.int .u64 3]) fun a w s=>?_
 exact s.ret (by simp) [] [] rfl rfl
set_option maxHeartbeats 4000000 in
theorem MO {w:World} {S:Nat→Prop}:Calls Tryz.prog 158 #[.int .u64 1,.int .u64 3] w fun e w'=>cQ [] w S w' e (.tuple #[.int .u64 0,.int .u64 3]) [] []:=by
 refine jL Tryz.func158 Aj (args:=[.int .u64 1,.int .u64 3]) (S:=S) (G:=[]) (by kernel_rfl) (gl.nil w S) ?_
 refine Zs [zR 0,zR 1] [] [zV 4 (.int .u64 0),zV 5 (.int .u64 0)] ?_
 refine aq ?_
 refine cF ?_
 refine aG ?_
 refine jS [(0,true),(1,true),(2,false),(3,true),(4,true),(5,true),(6,true),(7,true)] [] ?_
 refine Ya [zR 0,zR 1] [0,1] [zV 23 (.int .u64 1),zV 24 (.int .u64 3)] ?_
 refine Yc 194 #[.int .u64 1,.int .u64 3] (some 25) fun w S hG=>?_
 refine(Kl (S:=S)).mono ?_
 rintro e1 w1 hR
 refine⟨_,_,_,hR,?_⟩
 try simp only[aQ]
 refine Ya (bh 3 8) [25,23,24] [zV 8 (.int .u64 0),zV 9 (.int .u64 3)] ?_
 refine aC ?_
 refine Zs (bh 0 4) [8,9] [zV 5 (.int .u64 3)] ?_
 refine Yr [[],[]] (.tuple #[.int .u64 0,.int .u64 3]) fun a w s=>?_
 exact s.ret (by simp) [] [] rfl rfl
set_option maxHeartbeats 4000000 in
theorem Hz {w:World} {S:Nat→Prop} {a:Option Addr} {c:Nat} {z:Int} (h:cm w S (.slice a 1 c) (aS [z])) :
  Calls Tryz.prog 104 #[.slice a 1 c,.int .i64 3] w fun e w'=>∃ua un uc,cQ [] w S w' e (.slice ua un uc) [] [(.slice ua un uc,aS (aD 3 z))]:=by
 refine jL Tryz.func104 Ak (args:=[.slice a 1 c,.int .i64 3]) (S:=S) (G:=[(_,aS [z])]) (by kernel_rfl) (.cons h (.nil _ _)) ?_
 refine Zs [zR 0] [] [zS 4 none 0 0] ?_
 refine aq ?_
 refine Zs [zR 0,zR 1] [] [zB 10 false] ?_
 refine cF ?_
 refine aG ?_
 refine jS [(0,true),(1,true),(2,true),(3,true),(4,true),(5,false),(6,true),(7,true),(8,true),(9,true),(10,true)] [] ?_
 refine Ya (bh 0 5) [10,1] [zV 15 (.int .u64 1),zV 17 (.int .u64 3)] ?_
 refine Yc 158 #[.int .u64 1,.int .u64 3] (some 18) fun w S hG=>?_
 refine(MO (S:=S)).mono ?_
 rintro e1 w1 hR
 refine⟨_,_,_,hR,?_⟩
 try simp only[aQ]
 refine Ya (bh 6 11) [18,15,17] [zV 5 (.int .u64 0),zV 6 (.int .u64 3)] ?_
 refine aC (aq ?_)
 refine Zs (bh 0 6) [5] [zB 26 false] ?_
 refine cF ?_
 refine aG ?_
 refine Zv [zR 0,zR 1,.wr 2 [] 0,zR 3] [] [26,6] (fun aN=>[zS 7 (sA (aN 0) 0) 3 3]) o0 (fun aN=>[(aN 0,.cells #[nI 0,nI 0,nI 0] 3 (0,0))]) (fun aN=>?_)
 refine jS [(0,true),(1,true),(2,false),(3,true)] [] ?_
 refine Ya [zR 0,zR 1] [0] [zS 31 (sA (aN 0) 0) 3 3,zS 32 a 1 c] ?_
 refine qh 0 0 (aN 0) 0 3 3 1 c 32 3 _ #[.int .i64 z,.int .i64 0,.int .i64 0] (dst:=(some 33)) (by kernel_rfl) (by kernel_rfl) (by kernel_rfl) (by kernel_rfl) rfl rfl rfl (by decide) (by decide) rfl ?_
 refine Ya [zR 3] [33,31,32] [zI 8 1] ?_
 refine aC (aq (aM ?_))
 refine cU (fun m:Int=>[zS 4 none 0 0,zS 7 (sA (aN 0) 0) 3 3,zI 8 m]) (fun m:Int=>[(aN 0,.cells (pC z 3 m) 3 (0,0))]) (fun m:Int=>[]) (fun m:Int=>[(.slice a 1 c,(aS [z]))]) (fun m:Int=>(3 - m).toNat) (fun m:Int=>(m=1∨m=2∨m=3)) 1 [4,7,8] [0] [] [0] ?_ (by kernel_rfl) rfl rfl rfl ?_
 ·exact .inl rfl
 rintro m (rfl|rfl|rfl)
 ·rw[show pC z 3 1 = #[.int .i64 z,.int .i64 0,.int .i64 0] from rfl]
  refine aq ?_
  refine Zs (bh 0 4) [] [zB 37 true] ?_
  refine gR ?_
  refine aG (aM ?_)
  refine jT [(0,true),(1,true),(2,true),(3,true),(4,true),(5,true),(6,true),(7,false),(8,true),(9,true)] [(7,[0])] ?_
  refine Yp (bh 0 3++[.rd 3 [] 0 4,zR 4,zR 5,.rd 6 [] 0 4]) [37] [zI 38 1,zS 41 (sA (aN 0) 1) 2 2,zS 44 (sA (aN 0) 0) 1 3] (oC (show(0:Int)≤(1:Int) from by omega) (oC (show(1:Int)≤(↑(3:Nat):Int) from by omega) (oC (show(1:Int)<(↑(3:Nat):Int) from by omega) (oC (show(0:Int)≤(1:Int) from by omega) (oC (show(1:Int)≤(↑(3:Nat):Int) from by omega) oN))))) ?_
  refine kN 0 (aN 0) 1 2 2 0 1 3 32 3 _ [.int .i64 z] #[.int .i64 z,.int .i64 z,.int .i64 0] (dst:=(some 45)) (by kernel_rfl) (by kernel_rfl) (by kernel_rfl) (by kernel_rfl) rfl rfl (bP rfl) rfl rfl (by simp[Value.oneCell']) rfl ?_
  refine Ya [zR 8,zR 9] [45,38,41,44] [zI 8 2] ?_
  refine aC (eu ?_)
  refine bC 2 [4,7,8] [0] [] [0] ?_ ?_ (by kernel_rfl) rfl rfl rfl
  ·exact .inr (.inl rfl)
  ·decide
 ·rw[show pC z 3 2 = #[.int .i64 z,.int .i64 z,.int .i64 0] from rfl]
  refine aq ?_
  refine Zs (bh 0 4) [] [zB 37 true] ?_
  refine gR ?_
  refine aG (aM ?_)
  refine jT [(0,true),(1,true),(2,true),(3,true),(4,true),(5,true),(6,true),(7,false),(8,true),(9,true)] [(7,[0])] ?_
  refine Yp (bh 0 3++[.rd 3 [] 0 4,zR 4,zR 5,.rd 6 [] 0 4]) [37] [zI 38 2,zS 41 (sA (aN 0) 2) 1 1,zS 44 (sA (aN 0) 0) 2 3] (oC (show(0:Int)≤(2:Int) from by omega) (oC (show(2:Int)≤(↑(3:Nat):Int) from by omega) (oC (show(2:Int)<(↑(3:Nat):Int) from by omega) (oC (show(0:Int)≤(2:Int) from by omega) (oC (show(2:Int)≤(↑(3:Nat):Int) from by omega) oN))))) ?_
  refine kN 0 (aN 0) 2 1 1 0 2 3 32 3 _ [.int .i64 z] #[.int .i64 z,.int .i64 z,.int .i64 z] (dst:=(some 45)) (by kernel_rfl) (by kernel_rfl) (by kernel_rfl) (by kernel_rfl) rfl rfl (bP rfl) rfl rfl (by simp[Value.oneCell']) rfl ?_
  refine Ya [zR 8,zR 9] [45,38,41,44] [zI 8 3] ?_
  refine aC (eu ?_)
  refine bC 3 [4,7,8] [0] [] [0] ?_ ?_ (by kernel_rfl) rfl rfl rfl
  ·exact .inr (.inr rfl)
  ·decide
 ·rw[show pC z 3 3 = #[.int .i64 z,.int .i64 z,.int .i64 z] from rfl]
  refine aq ?_
  refine Zs (bh 0 4) [] [zB 37 false] ?_
  refine cF ?_
  refine dO rfl ?_
  refine aq ?_
  refine ue (size:=1) 0 eI [z,z,z] 3 rfl (by decide) (by intro x _;rfl) (by simp) ⟨.inl ⟨rfl,rfl⟩,⟨.inl ⟨rfl,rfl⟩,⟨.inl ⟨rfl,rfl⟩,trivial⟩⟩⟩ ?_
  try simp only[aQ]
  refine Za [zR 0,zR 1] [37,7,8] [zS 4 (sA (aN 0) 0) 3 3] ?_
  refine Yr [[]] (.slice (sA (aN 0) 0) 3 3) fun a w s=>?_
  exact⟨_,_,_,s.ret (by simp) [] [1] rfl rfl⟩
set_option maxHeartbeats 4000000 in
theorem Kk {w:World} {S:Nat→Prop}:Calls Tryz.prog 194 #[.int .u64 1,.int .u64 4] w fun e w'=>cQ [] w S w' e (.tuple #[.int .u64 0,.int .u64 4]) [] []:=by
 refine jL Tryz.func194 Ai (args:=[.int .u64 1,.int .u64 4]) (S:=S) (G:=[]) (by kernel_rfl) (gl.nil w S) ?_
 refine Zs [zR 0,zR 1] [] [zV 4 (.int .u64 0),zV 5 (.int .u64 0)] ?_
 refine Zs (bh 0 3) [] [zV 6 (.int .u64 1)] ?_
 refine Zs (bh 0 3) [] [zV 7 (.int .u64 0)] ?_
 refine Zs (bh 0 3) [] [zV 8 (.int .u64 4)] ?_
 refine Zs (bh 0 3) [] [zV 9 (.int .u64 0)] ?_
 refine Zs (bh 0 4) [] [zV 10 (.int .u64 4)] ?_
 refine Zs (bh 0 7) [10,8] [zV 11 (.int .u64 0)] ?_
 refine Zs (bh 0 3) [] [zV 12 (.int .u64 0)] ?_
 refine Zs (bh 0 3) [11] [zV 13 (.int .u64 0)] ?_
 refine Zs (bh 0 6) [6] [] ?_
 refine Zs (bh 0 9) [13,12,9,7] [] ?_
 refine Zs (bh 0 4) [0,1] [zV 5 (.int .u64 4)] ?_
 refine Yr [[],[]] (.tuple #[.int .u64 0,.int .u64 4]) fun a w s=>?_
 exact s.ret (by simp) [] [] rfl rfl
set_option maxHeartbeats 4000000 in
theorem MN {w:World} {S:Nat→Prop}:Calls Tryz.prog 158 #[.int .u64 1,.int .u64 4] w fun e w'=>cQ [] w S w' e (.tuple #[.int .u64 0,.int .u64 4]) [] []:=by
 refine jL Tryz.func158 Aj (args:=[.int .u64 1,.int .u64 4]) (S:=S) (G:=[]) (by kernel_rfl) (gl.nil w S) ?_
 refine Zs [zR 0,zR 1] [] [zV 4 (.int .u64 0),zV 5 (.int .u64 0)] ?_
 refine aq ?_
 refine cF ?_
 refine aG ?_
 refine jS [(0,true),(1,true),(2,false),(3,true),(4,true),(5,true),(6,true),(7,true)] [] ?_
 refine Ya [zR 0,zR 1] [0,1] [zV 23 (.int .u64 1),zV 24 (.int .u64 4)] ?_
 refine Yc 194 #[.int .u64 1,.int .u64 4] (some 25) fun w S hG=>?_
 refine(Kk (S:=S)).mono ?_
 rintro e1 w1 hR
 refine⟨_,_,_,hR,?_⟩
 try simp only[aQ]
 refine Ya (bh 3 8) [25,23,24] [zV 8 (.int .u64 0),zV 9 (.int .u64 4)] ?_
 refine aC ?_
 refine Zs (bh 0 4) [8,9] [zV 5 (.int .u64 4)] ?_
 refine Yr [[],[]] (.tuple #[.int .u64 0,.int .u64 4]) fun a w s=>?_
 exact s.ret (by simp) [] [] rfl rfl
set_option maxHeartbeats 4000000 in
theorem Hy {w:World} {S:Nat→Prop} {a:Option Addr} {c:Nat} {z:Int} (h:cm w S (.slice a 1 c) (aS [z])) :
  Calls Tryz.prog 104 #[.slice a 1 c,.int .i64 4] w fun e w'=>∃ua un uc,cQ [] w S w' e (.slice ua un uc) [] [(.slice ua un uc,aS (aD 4 z))]:=by
 refine jL Tryz.func104 Ak (args:=[.slice a 1 c,.int .i64 4]) (S:=S) (G:=[(_,aS [z])]) (by kernel_rfl) (.cons h (.nil _ _)) ?_
 refine Zs [zR 0] [] [zS 4 none 0 0] ?_
 refine aq ?_
 refine Zs [zR 0,zR 1] [] [zB 10 false] ?_
 refine cF ?_
 refine aG ?_
 refine jS [(0,true),(1,true),(2,true),(3,true),(4,true),(5,false),(6,true),(7,true),(8,true),(9,true),(10,true)] [] ?_
 refine Ya (bh 0 5) [10,1] [zV 15 (.int .u64 1),zV 17 (.int .u64 4)] ?_
 refine Yc 158 #[.int .u64 1,.int .u64 4] (some 18) fun w S hG=>?_
 refine(MN (S:=S)).mono ?_
 rintro e1 w1 hR
 refine⟨_,_,_,hR,?_⟩
 try simp only[aQ]
 refine Ya (bh 6 11) [18,15,17] [zV 5 (.int .u64 0),zV 6 (.int .u64 4)] ?_
 refine aC (aq ?_)
 refine Zs (bh 0 6) [5] [zB 26 false] ?_
 refine cF ?_
 refine aG ?_
 refine Zv [zR 0,zR 1,.wr 2 [] 0,zR 3] [] [26,6] (fun aN=>[zS 7 (sA (aN 0) 0) 4 4]) o0 (fun aN=>[(aN 0,.cells #[nI 0,nI 0,nI 0,nI 0] 3 (0,0))]) (fun aN=>?_)
 refine jS [(0,true),(1,true),(2,false),(3,true)] [] ?_
 refine Ya [zR 0,zR 1] [0] [zS 31 (sA (aN 0) 0) 4 4,zS 32 a 1 c] ?_
 refine qh 0 0 (aN 0) 0 4 4 1 c 32 3 _ #[.int .i64 z,.int .i64 0,.int .i64 0,.int .i64 0] (dst:=(some 33)) (by kernel_rfl) (by kernel_rfl) (by kernel_rfl) (by kernel_rfl) rfl rfl rfl (by decide) (by decide) rfl ?_
 refine Ya [zR 3] [33,31,32] [zI 8 1] ?_
 refine aC (aq (aM ?_))
 refine cU (fun m:Int=>[zS 4 none 0 0,zS 7 (sA (aN 0) 0) 4 4,zI 8 m]) (fun m:Int=>[(aN 0,.cells (pC z 4 m) 3 (0,0))]) (fun m:Int=>[]) (fun m:Int=>[(.slice a 1 c,(aS [z]))]) (fun m:Int=>(4 - m).toNat) (fun m:Int=>(m=1∨m=2∨m=4)) 1 [4,7,8] [0] [] [0] ?_ (by kernel_rfl) rfl rfl rfl ?_
 ·exact .inl rfl
 rintro m (rfl|rfl|rfl)
 ·rw[show pC z 4 1 = #[.int .i64 z,.int .i64 0,.int .i64 0,.int .i64 0] from rfl]
  refine aq ?_
  refine Zs (bh 0 4) [] [zB 37 true] ?_
  refine gR ?_
  refine aG (aM ?_)
  refine jT [(0,true),(1,true),(2,true),(3,true),(4,true),(5,true),(6,true),(7,false),(8,true),(9,true)] [(7,[0])] ?_
  refine Yp (bh 0 3++[.rd 3 [] 0 4,zR 4,zR 5,.rd 6 [] 0 4]) [37] [zI 38 1,zS 41 (sA (aN 0) 1) 3 3,zS 44 (sA (aN 0) 0) 1 4] (oC (show(0:Int)≤(1:Int) from by omega) (oC (show(1:Int)≤(↑(4:Nat):Int) from by omega) (oC (show(1:Int)<(↑(4:Nat):Int) from by omega) (oC (show(0:Int)≤(1:Int) from by omega) (oC (show(1:Int)≤(↑(4:Nat):Int) from by omega) oN))))) ?_
  refine kN 0 (aN 0) 1 3 3 0 1 4 32 3 _ [.int .i64 z] #[.int .i64 z,.int .i64 z,.int .i64 0,.int .i64 0] (dst:=(some 45)) (by kernel_rfl) (by kernel_rfl) (by kernel_rfl) (by kernel_rfl) rfl rfl (bP rfl) rfl rfl (by simp[Value.oneCell']) rfl ?_
  refine Ya [zR 8,zR 9] [45,38,41,44] [zI 8 2] ?_
  refine aC (eu ?_)
  refine bC 2 [4,7,8] [0] [] [0] ?_ ?_ (by kernel_rfl) rfl rfl rfl
  ·exact .inr (.inl rfl)
  ·decide
 ·rw[show pC z 4 2 = #[.int .i64 z,.int .i64 z,.int .i64 0,.int .i64 0] from rfl]
  refine aq ?_
  refine Zs (bh 0 4) [] [zB 37 true] ?_
  refine gR ?_
  refine aG (aM ?_)
  refine jT [(0,true),(1,true),(2,true),(3,true),(4,true),(5,true),(6,true),(7,false),(8,true),(9,true)] [(7,[0])] ?_
  refine Yp (bh 0 3++[.rd 3 [] 0 4,zR 4,zR 5,.rd 6 [] 0 4]) [37] [zI 38 2,zS 41 (sA (aN 0) 2) 2 2,zS 44 (sA (aN 0) 0) 2 4] (oC (show(0:Int)≤(2:Int) from by omega) (oC (show(2:Int)≤(↑(4:Nat):Int) from by omega) (oC (show(2:Int)<(↑(4:Nat):Int) from by omega) (oC (show(0:Int)≤(2:Int) from by omega) (oC (show(2:Int)≤(↑(4:Nat):Int) from by omega) oN))))) ?_
  refine kN 0 (aN 0) 2 2 2 0 2 4 32 3 _ [.int .i64 z,.int .i64 z] #[.int .i64 z,.int .i64 z,.int .i64 z,.int .i64 z] (dst:=(some 45)) (by kernel_rfl) (by kernel_rfl) (by kernel_rfl) (by kernel_rfl) rfl rfl (bP rfl) rfl rfl (by simp[Value.oneCell']) rfl ?_
  refine Ya [zR 8,zR 9] [45,38,41,44] [zI 8 4] ?_
  refine aC (eu ?_)
  refine bC 4 [4,7,8] [0] [] [0] ?_ ?_ (by kernel_rfl) rfl rfl rfl
  ·exact .inr (.inr rfl)
  ·decide
 ·rw[show pC z 4 4 = #[.int .i64 z,.int .i64 z,.int .i64 z,.int .i64 z] from rfl]
  refine aq ?_
  refine Zs (bh 0 4) [] [zB 37 false] ?_
  refine cF ?_
  refine dO rfl ?_
  refine aq ?_
  refine ue (size:=1) 0 eI [z,z,z,z] 4 rfl (by decide) (by intro x _;rfl) (by simp) ⟨.inl ⟨rfl,rfl⟩,⟨.inl ⟨rfl,rfl⟩,⟨.inl ⟨rfl,rfl⟩,⟨.inl ⟨rfl,rfl⟩,trivial⟩⟩⟩⟩ ?_
  try simp only[aQ]
  refine Za [zR 0,zR 1] [37,7,8] [zS 4 (sA (aN 0) 0) 4 4] ?_
  refine Yr [[]] (.slice (sA (aN 0) 0) 4 4) fun a w s=>?_
  exact⟨_,_,_,s.ret (by simp) [] [1] rfl rfl⟩
set_option maxHeartbeats 4000000 in
theorem Kj {w:World} {S:Nat→Prop}:Calls Tryz.prog 194 #[.int .u64 1,.int .u64 5] w fun e w'=>cQ [] w S w' e (.tuple #[.int .u64 0,.int .u64 5]) [] []:=by
 refine jL Tryz.func194 Ai (args:=[.int .u64 1,.int .u64 5]) (S:=S) (G:=[]) (by kernel_rfl) (gl.nil w S) ?_
 refine Zs [zR 0,zR 1] [] [zV 4 (.int .u64 0),zV 5 (.int .u64 0)] ?_
 refine Zs (bh 0 3) [] [zV 6 (.int .u64 1)] ?_
 refine Zs (bh 0 3) [] [zV 7 (.int .u64 0)] ?_
 refine Zs (bh 0 3) [] [zV 8 (.int .u64 5)] ?_
 refine Zs (bh 0 3) [] [zV 9 (.int .u64 0)] ?_
 refine Zs (bh 0 4) [] [zV 10 (.int .u64 5)] ?_
 refine Zs (bh 0 7) [10,8] [zV 11 (.int .u64 0)] ?_
 refine Zs (bh 0 3) [] [zV 12 (.int .u64 0)] ?_
 refine Zs (bh 0 3) [11] [zV 13 (.int .u64 0)] ?_
 refine Zs (bh 0 6) [6] [] ?_
 refine Zs (bh 0 9) [13,12,9,7] [] ?_
 refine Zs (bh 0 4) [0,1] [zV 5 (.int .u64 5)] ?_
 refine Yr [[],[]] (.tuple #[.int .u64 0,.int .u64 5]) fun a w s=>?_
 exact s.ret (by simp) [] [] rfl rfl
set_option maxHeartbeats 4000000 in
theorem MM {w:World} {S:Nat→Prop}:Calls Tryz.prog 158 #[.int .u64 1,.int .u64 5] w fun e w'=>cQ [] w S w' e (.tuple #[.int .u64 0,.int .u64 5]) [] []:=by
 refine jL Tryz.func158 Aj (args:=[.int .u64 1,.int .u64 5]) (S:=S) (G:=[]) (by kernel_rfl) (gl.nil w S) ?_
 refine Zs [zR 0,zR 1] [] [zV 4 (.int .u64 0),zV 5 (.int .u64 0)] ?_
 refine aq ?_
 refine cF ?_
 refine aG ?_
 refine jS [(0,true),(1,true),(2,false),(3,true),(4,true),(5,true),(6,true),(7,true)] [] ?_
 refine Ya [zR 0,zR 1] [0,1] [zV 23 (.int .u64 1),zV 24 (.int .u64 5)] ?_
 refine Yc 194 #[.int .u64 1,.int .u64 5] (some 25) fun w S hG=>?_
 refine(Kj (S:=S)).mono ?_
 rintro e1 w1 hR
 refine⟨_,_,_,hR,?_⟩
 try simp only[aQ]
 refine Ya (bh 3 8) [25,23,24] [zV 8 (.int .u64 0),zV 9 (.int .u64 5)] ?_
 refine aC ?_
 refine Zs (bh 0 4) [8,9] [zV 5 (.int .u64 5)] ?_
 refine Yr [[],[]] (.tuple #[.int .u64 0,.int .u64 5]) fun a w s=>?_
 exact s.ret (by simp) [] [] rfl rfl
set_option maxHeartbeats 4000000 in
theorem Hx {w:World} {S:Nat→Prop} {a:Option Addr} {c:Nat} {z:Int} (h:cm w S (.slice a 1 c) (aS [z])) :
  Calls Tryz.prog 104 #[.slice a 1 c,.int .i64 5] w fun e w'=>∃ua un uc,cQ [] w S w' e (.slice ua un uc) [] [(.slice ua un uc,aS (aD 5 z))]:=by
 refine jL Tryz.func104 Ak (args:=[.slice a 1 c,.int .i64 5]) (S:=S) (G:=[(_,aS [z])]) (by kernel_rfl) (.cons h (.nil _ _)) ?_
 refine Zs [zR 0] [] [zS 4 none 0 0] ?_
 refine aq ?_
 refine Zs [zR 0,zR 1] [] [zB 10 false] ?_
 refine cF ?_
 refine aG ?_
 refine jS [(0,true),(1,true),(2,true),(3,true),(4,true),(5,false),(6,true),(7,true),(8,true),(9,true),(10,true)] [] ?_
 refine Ya (bh 0 5) [10,1] [zV 15 (.int .u64 1),zV 17 (.int .u64 5)] ?_
 refine Yc 158 #[.int .u64 1,.int .u64 5] (some 18) fun w S hG=>?_
 refine(MM (S:=S)).mono ?_
 rintro e1 w1 hR
 refine⟨_,_,_,hR,?_⟩
 try simp only[aQ]
 refine Ya (bh 6 11) [18,15,17] [zV 5 (.int .u64 0),zV 6 (.int .u64 5)] ?_
 refine aC (aq ?_)
 refine Zs (bh 0 6) [5] [zB 26 false] ?_
 refine cF ?_
 refine aG ?_
 refine Zv [zR 0,zR 1,.wr 2 [] 0,zR 3] [] [26,6] (fun aN=>[zS 7 (sA (aN 0) 0) 5 5]) o0 (fun aN=>[(aN 0,.cells #[nI 0,nI 0,nI 0,nI 0,nI 0] 3 (0,0))]) (fun aN=>?_)
 refine jS [(0,true),(1,true),(2,false),(3,true)] [] ?_
 refine Ya [zR 0,zR 1] [0] [zS 31 (sA (aN 0) 0) 5 5,zS 32 a 1 c] ?_
 refine qh 0 0 (aN 0) 0 5 5 1 c 32 3 _ #[.int .i64 z,.int .i64 0,.int .i64 0,.int .i64 0,.int .i64 0] (dst:=(some 33)) (by kernel_rfl) (by kernel_rfl) (by kernel_rfl) (by kernel_rfl) rfl rfl rfl (by decide) (by decide) rfl ?_
 refine Ya [zR 3] [33,31,32] [zI 8 1] ?_
 refine aC (aq (aM ?_))
 refine cU (fun m:Int=>[zS 4 none 0 0,zS 7 (sA (aN 0) 0) 5 5,zI 8 m]) (fun m:Int=>[(aN 0,.cells (pC z 5 m) 3 (0,0))]) (fun m:Int=>[]) (fun m:Int=>[(.slice a 1 c,(aS [z]))]) (fun m:Int=>(5 - m).toNat) (fun m:Int=>(m=1∨m=2∨m=4∨m=5)) 1 [4,7,8] [0] [] [0] ?_ (by kernel_rfl) rfl rfl rfl ?_
 ·exact .inl rfl
 rintro m (rfl|rfl|rfl|rfl)
 ·rw[show pC z 5 1 = #[.int .i64 z,.int .i64 0,.int .i64 0,.int .i64 0,.int .i64 0] from rfl]
  refine aq ?_
  refine Zs (bh 0 4) [] [zB 37 true] ?_
  refine gR ?_
  refine aG (aM ?_)
  refine jT [(0,true),(1,true),(2,true),(3,true),(4,true),(5,true),(6,true),(7,false),(8,true),(9,true)] [(7,[0])] ?_
  refine Yp (bh 0 3++[.rd 3 [] 0 4,zR 4,zR 5,.rd 6 [] 0 4]) [37] [zI 38 1,zS 41 (sA (aN 0) 1) 4 4,zS 44 (sA (aN 0) 0) 1 5] (oC (show(0:Int)≤(1:Int) from by omega) (oC (show(1:Int)≤(↑(5:Nat):Int) from by omega) (oC (show(1:Int)<(↑(5:Nat):Int) from by omega) (oC (show(0:Int)≤(1:Int) from by omega) (oC (show(1:Int)≤(↑(5:Nat):Int) from by omega) oN))))) ?_
  refine kN 0 (aN 0) 1 4 4 0 1 5 32 3 _ [.int .i64 z] #[.int .i64 z,.int .i64 z,.int .i64 0,.int .i64 0,.int .i64 0] (dst:=(some 45)) (by kernel_rfl) (by kernel_rfl) (by kernel_rfl) (by kernel_rfl) rfl rfl (bP rfl) rfl rfl (by simp[Value.oneCell']) rfl ?_
  refine Ya [zR 8,zR 9] [45,38,41,44] [zI 8 2] ?_
  refine aC (eu ?_)
  refine bC 2 [4,7,8] [0] [] [0] ?_ ?_ (by kernel_rfl) rfl rfl rfl
  ·exact .inr (.inl rfl)
  ·decide
 ·rw[show pC z 5 2 = #[.int .i64 z,.int .i64 z,.int .i64 0,.int .i64 0,.int .i64 0] from rfl]
  refine aq ?_
  refine Zs (bh 0 4) [] [zB 37 true] ?_
  refine gR ?_
  refine aG (aM ?_)
  refine jT [(0,true),(1,true),(2,true),(3,true),(4,true),(5,true),(6,true),(7,false),(8,true),(9,true)] [(7,[0])] ?_
  refine Yp (bh 0 3++[.rd 3 [] 0 4,zR 4,zR 5,.rd 6 [] 0 4]) [37] [zI 38 2,zS 41 (sA (aN 0) 2) 3 3,zS 44 (sA (aN 0) 0) 2 5] (oC (show(0:Int)≤(2:Int) from by omega) (oC (show(2:Int)≤(↑(5:Nat):Int) from by omega) (oC (show(2:Int)<(↑(5:Nat):Int) from by omega) (oC (show(0:Int)≤(2:Int) from by omega) (oC (show(2:Int)≤(↑(5:Nat):Int) from by omega) oN))))) ?_
  refine kN 0 (aN 0) 2 3 3 0 2 5 32 3 _ [.int .i64 z,.int .i64 z] #[.int .i64 z,.int .i64 z,.int .i64 z,.int .i64 z,.int .i64 0] (dst:=(some 45)) (by kernel_rfl) (by kernel_rfl) (by kernel_rfl) (by kernel_rfl) rfl rfl (bP rfl) rfl rfl (by simp[Value.oneCell']) rfl ?_
  refine Ya [zR 8,zR 9] [45,38,41,44] [zI 8 4] ?_
  refine aC (eu ?_)
  refine bC 4 [4,7,8] [0] [] [0] ?_ ?_ (by kernel_rfl) rfl rfl rfl
  ·exact .inr (.inr (.inl rfl))
  ·decide
 ·rw[show pC z 5 4 = #[.int .i64 z,.int .i64 z,.int .i64 z,.int .i64 z,.int .i64 0] from rfl]
  refine aq ?_
  refine Zs (bh 0 4) [] [zB 37 true] ?_
  refine gR ?_
  refine aG (aM ?_)
  refine jT [(0,true),(1,true),(2,true),(3,true),(4,true),(5,true),(6,true),(7,false),(8,true),(9,true)] [(7,[0])] ?_
  refine Yp (bh 0 3++[.rd 3 [] 0 4,zR 4,zR 5,.rd 6 [] 0 4]) [37] [zI 38 4,zS 41 (sA (aN 0) 4) 1 1,zS 44 (sA (aN 0) 0) 4 5] (oC (show(0:Int)≤(4:Int) from by omega) (oC (show(4:Int)≤(↑(5:Nat):Int) from by omega) (oC (show(4:Int)<(↑(5:Nat):Int) from by omega) (oC (show(0:Int)≤(4:Int) from by omega) (oC (show(4:Int)≤(↑(5:Nat):Int) from by omega) oN))))) ?_
  refine kN 0 (aN 0) 4 1 1 0 4 5 32 3 _ [.int .i64 z] #[.int .i64 z,.int .i64 z,.int .i64 z,.int .i64 z,.int .i64 z] (dst:=(some 45)) (by kernel_rfl) (by kernel_rfl) (by kernel_rfl) (by kernel_rfl) rfl rfl (bP rfl) rfl rfl (by simp[Value.oneCell']) rfl ?_
  refine Ya [zR 8,zR 9] [45,38,41,44] [zI 8 5] ?_
  refine aC (eu ?_)
  refine bC 5 [4,7,8] [0] [] [0] ?_ ?_ (by kernel_rfl) rfl rfl rfl
  ·exact .inr (.inr (.inr rfl))
  ·decide
 ·rw[show pC z 5 5 = #[.int .i64 z,.int .i64 z,.int .i64 z,.int .i64 z,.int .i64 z] from rfl]
  refine aq ?_
  refine Zs (bh 0 4) [] [zB 37 false] ?_
  refine cF ?_
  refine dO rfl ?_
  refine aq ?_
  refine ue (size:=1) 0 eI [z,z,z,z,z] 5 rfl (by decide) (by intro x _;rfl) (by simp) ⟨.inl ⟨rfl,rfl⟩,⟨.inl ⟨rfl,rfl⟩,⟨.inl ⟨rfl,rfl⟩,⟨.inl ⟨rfl,rfl⟩,⟨.inl ⟨rfl,rfl⟩,trivial⟩⟩⟩⟩⟩ ?_
  try simp only[aQ]
  refine Za [zR 0,zR 1] [37,7,8] [zS 4 (sA (aN 0) 0) 5 5] ?_
  refine Yr [[]] (.slice (sA (aN 0) 0) 5 5) fun a w s=>?_
  exact⟨_,_,_,s.ret (by simp) [] [1] rfl rfl⟩
set_option maxHeartbeats 4000000 in
theorem Ki {w:World} {S:Nat→Prop}:Calls Tryz.prog 194 #[.int .u64 1,.int .u64 6] w fun e w'=>cQ [] w S w' e (.tuple #[.int .u64 0,.int .u64 6]) [] []:=by
 refine jL Tryz.func194 Ai (args:=[.int .u64 1,.int .u64 6]) (S:=S) (G:=[]) (by kernel_rfl) (gl.nil w S) ?_
 refine Zs [zR 0,zR 1] [] [zV 4 (.int .u64 0),zV 5 (.int .u64 0)] ?_
 refine Zs (bh 0 3) [] [zV 6 (.int .u64 1)] ?_
 refine Zs (bh 0 3) [] [zV 7 (.int .u64 0)] ?_
 refine Zs (bh 0 3) [] [zV 8 (.int .u64 6)] ?_
 refine Zs (bh 0 3) [] [zV 9 (.int .u64 0)] ?_
 refine Zs (bh 0 4) [] [zV 10 (.int .u64 6)] ?_
 refine Zs (bh 0 7) [10,8] [zV 11 (.int .u64 0)] ?_
 refine Zs (bh 0 3) [] [zV 12 (.int .u64 0)] ?_
 refine Zs (bh 0 3) [11] [zV 13 (.int .u64 0)] ?_
 refine Zs (bh 0 6) [6] [] ?_
 refine Zs (bh 0 9) [13,12,9,7] [] ?_
 refine Zs (bh 0 4) [0,1] [zV 5 (.int .u64 6)] ?_
 refine Yr [[],[]] (.tuple #[.int .u64 0,.int .u64 6]) fun a w s=>?_
 exact s.ret (by simp) [] [] rfl rfl
set_option maxHeartbeats 4000000 in
theorem ML {w:World} {S:Nat→Prop}:Calls Tryz.prog 158 #[.int .u64 1,.int .u64 6] w fun e w'=>cQ [] w S w' e (.tuple #[.int .u64 0,.int .u64 6]) [] []:=by
 refine jL Tryz.func158 Aj (args:=[.int .u64 1,.int .u64 6]) (S:=S) (G:=[]) (by kernel_rfl) (gl.nil w S) ?_
 refine Zs [zR 0,zR 1] [] [zV 4 (.int .u64 0),zV 5 (.int .u64 0)] ?_
 refine aq ?_
 refine cF ?_
 refine aG ?_
 refine jS [(0,true),(1,true),(2,false),(3,true),(4,true),(5,true),(6,true),(7,true)] [] ?_
 refine Ya [zR 0,zR 1] [0,1] [zV 23 (.int .u64 1),zV 24 (.int .u64 6)] ?_
 refine Yc 194 #[.int .u64 1,.int .u64 6] (some 25) fun w S hG=>?_
 refine(Ki (S:=S)).mono ?_
 rintro e1 w1 hR
 refine⟨_,_,_,hR,?_⟩
 try simp only[aQ]
 refine Ya (bh 3 8) [25,23,24] [zV 8 (.int .u64 0),zV 9 (.int .u64 6)] ?_
 refine aC ?_
 refine Zs (bh 0 4) [8,9] [zV 5 (.int .u64 6)] ?_
 refine Yr [[],[]] (.tuple #[.int .u64 0,.int .u64 6]) fun a w s=>?_
 exact s.ret (by simp) [] [] rfl rfl
set_option maxHeartbeats 4000000 in
theorem Hw {w:World} {S:Nat→Prop} {a:Option Addr} {c:Nat} {z:Int} (h:cm w S (.slice a 1 c) (aS [z])) :
  Calls Tryz.prog 104 #[.slice a 1 c,.int .i64 6] w fun e w'=>∃ua un uc,cQ [] w S w' e (.slice ua un uc) [] [(.slice ua un uc,aS (aD 6 z))]:=by
 refine jL Tryz.func104 Ak (args:=[.slice a 1 c,.int .i64 6]) (S:=S) (G:=[(_,aS [z])]) (by kernel_rfl) (.cons h (.nil _ _)) ?_
 refine Zs [zR 0] [] [zS 4 none 0 0] ?_
 refine aq ?_
 refine Zs [zR 0,zR 1] [] [zB 10 false] ?_
 refine cF ?_
 refine aG ?_
 refine jS [(0,true),(1,true),(2,true),(3,true),(4,true),(5,false),(6,true),(7,true),(8,true),(9,true),(10,true)] [] ?_
 refine Ya (bh 0 5) [10,1] [zV 15 (.int .u64 1),zV 17 (.int .u64 6)] ?_
 refine Yc 158 #[.int .u64 1,.int .u64 6] (some 18) fun w S hG=>?_
 refine(ML (S:=S)).mono ?_
 rintro e1 w1 hR
 refine⟨_,_,_,hR,?_⟩
 try simp only[aQ]
 refine Ya (bh 6 11) [18,15,17] [zV 5 (.int .u64 0),zV 6 (.int .u64 6)] ?_
 refine aC (aq ?_)
 refine Zs (bh 0 6) [5] [zB 26 false] ?_
 refine cF ?_
 refine aG ?_
 refine Zv [zR 0,zR 1,.wr 2 [] 0,zR 3] [] [26,6] (fun aN=>[zS 7 (sA (aN 0) 0) 6 6]) o0 (fun aN=>[(aN 0,.cells #[nI 0,nI 0,nI 0,nI 0,nI 0,nI 0] 3 (0,0))]) (fun aN=>?_)
 refine jS [(0,true),(1,true),(2,false),(3,true)] [] ?_
 refine Ya [zR 0,zR 1] [0] [zS 31 (sA (aN 0) 0) 6 6,zS 32 a 1 c] ?_
 refine qh 0 0 (aN 0) 0 6 6 1 c 32 3 _ #[.int .i64 z,.int .i64 0,.int .i64 0,.int .i64 0,.int .i64 0,.int .i64 0] (dst:=(some 33)) (by kernel_rfl) (by kernel_rfl) (by kernel_rfl) (by kernel_rfl) rfl rfl rfl (by decide) (by decide) rfl ?_
 refine Ya [zR 3] [33,31,32] [zI 8 1] ?_
 refine aC (aq (aM ?_))
 refine cU (fun m:Int=>[zS 4 none 0 0,zS 7 (sA (aN 0) 0) 6 6,zI 8 m]) (fun m:Int=>[(aN 0,.cells (pC z 6 m) 3 (0,0))]) (fun m:Int=>[]) (fun m:Int=>[(.slice a 1 c,(aS [z]))]) (fun m:Int=>(6 - m).toNat) (fun m:Int=>(m=1∨m=2∨m=4∨m=6)) 1 [4,7,8] [0] [] [0] ?_ (by kernel_rfl) rfl rfl rfl ?_
 ·exact .inl rfl
 rintro m (rfl|rfl|rfl|rfl)
 ·rw[show pC z 6 1 = #[.int .i64 z,.int .i64 0,.int .i64 0,.int .i64 0,.int .i64 0,.int .i64 0] from rfl]
  refine aq ?_
  refine Zs (bh 0 4) [] [zB 37 true] ?_
  refine gR ?_
  refine aG (aM ?_)
  refine jT [(0,true),(1,true),(2,true),(3,true),(4,true),(5,true),(6,true),(7,false),(8,true),(9,true)] [(7,[0])] ?_
  refine Yp (bh 0 3++[.rd 3 [] 0 4,zR 4,zR 5,.rd 6 [] 0 4]) [37] [zI 38 1,zS 41 (sA (aN 0) 1) 5 5,zS 44 (sA (aN 0) 0) 1 6] (oC (show(0:Int)≤(1:Int) from by omega) (oC (show(1:Int)≤(↑(6:Nat):Int) from by omega) (oC (show(1:Int)<(↑(6:Nat):Int) from by omega) (oC (show(0:Int)≤(1:Int) from by omega) (oC (show(1:Int)≤(↑(6:Nat):Int) from by omega) oN))))) ?_
  refine kN 0 (aN 0) 1 5 5 0 1 6 32 3 _ [.int .i64 z] #[.int .i64 z,.int .i64 z,.int .i64 0,.int .i64 0,.int .i64 0,.int .i64 0] (dst:=(some 45)) (by kernel_rfl) (by kernel_rfl) (by kernel_rfl) (by kernel_rfl) rfl rfl (bP rfl) rfl rfl (by simp[Value.oneCell']) rfl ?_
  refine Ya [zR 8,zR 9] [45,38,41,44] [zI 8 2] ?_
  refine aC (eu ?_)
  refine bC 2 [4,7,8] [0] [] [0] ?_ ?_ (by kernel_rfl) rfl rfl rfl
  ·exact .inr (.inl rfl)
  ·decide
 ·rw[show pC z 6 2 = #[.int .i64 z,.int .i64 z,.int .i64 0,.int .i64 0,.int .i64 0,.int .i64 0] from rfl]
  refine aq ?_
  refine Zs (bh 0 4) [] [zB 37 true] ?_
  refine gR ?_
  refine aG (aM ?_)
  refine jT [(0,true),(1,true),(2,true),(3,true),(4,true),(5,true),(6,true),(7,false),(8,true),(9,true)] [(7,[0])] ?_
  refine Yp (bh 0 3++[.rd 3 [] 0 4,zR 4,zR 5,.rd 6 [] 0 4]) [37] [zI 38 2,zS 41 (sA (aN 0) 2) 4 4,zS 44 (sA (aN 0) 0) 2 6] (oC (show(0:Int)≤(2:Int) from by omega) (oC (show(2:Int)≤(↑(6:Nat):Int) from by omega) (oC (show(2:Int)<(↑(6:Nat):Int) from by omega) (oC (show(0:Int)≤(2:Int) from by omega) (oC (show(2:Int)≤(↑(6:Nat):Int) from by omega) oN))))) ?_
  refine kN 0 (aN 0) 2 4 4 0 2 6 32 3 _ [.int .i64 z,.int .i64 z] #[.int .i64 z,.int .i64 z,.int .i64 z,.int .i64 z,.int .i64 0,.int .i64 0] (dst:=(some 45)) (by kernel_rfl) (by kernel_rfl) (by kernel_rfl) (by kernel_rfl) rfl rfl (bP rfl) rfl rfl (by simp[Value.oneCell']) rfl ?_
  refine Ya [zR 8,zR 9] [45,38,41,44] [zI 8 4] ?_
  refine aC (eu ?_)
  refine bC 4 [4,7,8] [0] [] [0] ?_ ?_ (by kernel_rfl) rfl rfl rfl
  ·exact .inr (.inr (.inl rfl))
  ·decide
 ·rw[show pC z 6 4 = #[.int .i64 z,.int .i64 z,.int .i64 z,.int .i64 z,.int .i64 0,.int .i64 0] from rfl]
  refine aq ?_
  refine Zs (bh 0 4) [] [zB 37 true] ?_
  refine gR ?_
  refine aG (aM ?_)
  refine jT [(0,true),(1,true),(2,true),(3,true),(4,true),(5,true),(6,true),(7,false),(8,true),(9,true)] [(7,[0])] ?_
  refine Yp (bh 0 3++[.rd 3 [] 0 4,zR 4,zR 5,.rd 6 [] 0 4]) [37] [zI 38 4,zS 41 (sA (aN 0) 4) 2 2,zS 44 (sA (aN 0) 0) 4 6] (oC (show(0:Int)≤(4:Int) from by omega) (oC (show(4:Int)≤(↑(6:Nat):Int) from by omega) (oC (show(4:Int)<(↑(6:Nat):Int) from by omega) (oC (show(0:Int)≤(4:Int) from by omega) (oC (show(4:Int)≤(↑(6:Nat):Int) from by omega) oN))))) ?_
  refine kN 0 (aN 0) 4 2 2 0 4 6 32 3 _ [.int .i64 z,.int .i64 z] #[.int .i64 z,.int .i64 z,.int .i64 z,.int .i64 z,.int .i64 z,.int .i64 z] (dst:=(some 45)) (by kernel_rfl) (by kernel_rfl) (by kernel_rfl) (by kernel_rfl) rfl rfl (bP rfl) rfl rfl (by simp[Value.oneCell']) rfl ?_
  refine Ya [zR 8,zR 9] [45,38,41,44] [zI 8 6] ?_
  refine aC (eu ?_)
  refine bC 6 [4,7,8] [0] [] [0] ?_ ?_ (by kernel_rfl) rfl rfl rfl
  ·exact .inr (.inr (.inr rfl))
  ·decide
 ·rw[show pC z 6 6 = #[.int .i64 z,.int .i64 z,.int .i64 z,.int .i64 z,.int .i64 z,.int .i64 z] from rfl]
  refine aq ?_
  refine Zs (bh 0 4) [] [zB 37 false] ?_
  refine cF ?_
  refine dO rfl ?_
  refine aq ?_
  refine ue (size:=1) 0 eI [z,z,z,z,z,z] 6 rfl (by decide) (by intro x _;rfl) (by simp) ⟨.inl ⟨rfl,rfl⟩,⟨.inl ⟨rfl,rfl⟩,⟨.inl ⟨rfl,rfl⟩,⟨.inl ⟨rfl,rfl⟩,⟨.inl ⟨rfl,rfl⟩,⟨.inl ⟨rfl,rfl⟩,trivial⟩⟩⟩⟩⟩⟩ ?_
  try simp only[aQ]
  refine Za [zR 0,zR 1] [37,7,8] [zS 4 (sA (aN 0) 0) 6 6] ?_
  refine Yr [[]] (.slice (sA (aN 0) 0) 6 6) fun a w s=>?_
  exact⟨_,_,_,s.ret (by simp) [] [1] rfl rfl⟩
set_option maxHeartbeats 4000000 in
theorem J3 {w:World} {S:Nat→Prop} {a:Option Addr} {c n:Nat} {z:Int} (h:cm w S (.slice a 1 c) (aS [z])) (h1:1≤n) (h6:n≤6) :
  Calls Tryz.prog 104 #[.slice a 1 c,.int .i64 n] w fun e w'=>∃ua un uc,cQ [] w S w' e (.slice ua un uc) [] [(.slice ua un uc,aS (aD n z))]:=by
 rcases(by omega:n=1∨n=2∨n=3∨n=4∨n=5∨n=6)with rfl|rfl|rfl|rfl|rfl|rfl
 ·exact J4 h
 ·exact HA h
 ·exact Hz h
 ·exact Hy h
 ·exact Hx h
 ·exact Hw h
end Go.Proofs.YtmkapocibaojdaaGreatDoor
end
section
namespace Go.Proofs.YtmkapocibaojdaaGreatDoor
open Go Go.Sx
section Fo
variable {w:World} {S:Nat→Prop} {M:List Nat} {er:Nat→Addr} {eb:Nat→Array Value×TypeId} {x:fJ} {b pb sb n:Nat} {tok at':List Int} {ops:List fP} {key:ByteArray}
set_option maxHeartbeats 4000000 in
theorem GW {b mk md:Nat} {ba a1:Option Addr} {p nb cb n1 c1 clock:Nat} {base:List Int} {es:Array MapEntry} {ks:List ByteArray} {F:ByteArray→Value} {L:List fG} (hC:cm w S .nilIface (dC er eb))
  (hP:Pre w S M (JI b mk md ba p nb cb clock es ks F L))
  (hb:cm w S (.slice ba nb cb) (aS base)) (DF:b8 base=0) (AZ:base.length=p) (h1:cm w S (.slice a1 n1 c1) (aS at')) (ja:at'.length≤1000000) (hL:L.length≤300000) (KK:∀q∈L,b8 q.when=0∧q.when.length=p)
  (hm:fM (MapKept.IsKey .string) es (mB ks F)) (hnd:ks.Nodup) (k7:∀t,t∈ks↔ey L t≠[]) :
  Calls Tryz.prog 103 #[.pointer (some ⟨b,0,none⟩),.string key,.slice a1 n1 c1] w fun e w'=>
   (eA p base key at'≠0∧cQ M w S w' e (.tuple #[.slice none 0 0,.iface 390 (.pointer (some (er (eA p base key at'))))]) (JI b mk md ba p nb cb clock es ks F L) []) ∨
   (eA p base key at'=0∧∃ua un uc,cQ M w S w' e (.tuple #[.slice ua un uc,.nilIface]) (JI b mk md ba p nb cb clock es ks F L++[aT (.slice ua un uc) 35 3 ((aW L key at').map eW)]) []):=by
 refine pW Tryz.func103 RO (args:=[.pointer (some ⟨b,0,none⟩),.string key,.slice a1 n1 c1]) (S:=S) (G:=[(_,dC er eb),(_,aS at'),(_,aS base)]) (by kernel_rfl) hP (.cons hC (.cons h1 (.cons hb (.nil _ _)))) ?_
 refine Nm [bL b (.cells #[nI (↑p:Int),.slice ba nb cb,.map (some mk),.map (some md)] 218 (0,0)),bL mk (Obj.map es clock),(cA (aj (fun t=>aT (F t) 35 3 (aj eW (ey L t))) ks)),(eX md dA (cI (aj ku L)))] ?_
 refine Zs [zR 0,zR 1] [] [zS 6 none 0 0,zV 7 .nilIface] ?_
 refine jS [(0,true),(1,true),(2,true),(3,false),(4,true),(5,true),(6,true),(7,true)] [] ?_
 refine Ya (bh 0 3) [0,1,2] [zP 8 b,zV 9 (.string key),zS 10 a1 n1 c1] ?_
 refine cn [] [0,1,2,3] 155 #[.pointer (some (⟨b,0,none⟩)),.string key,.slice a1 n1 c1] (some 11) (by kernel_rfl) (by kernel_rfl) (by decide) (fun w S M hP hG _=>?_)
 refine(Bv (hG.at 0 rfl) hP (hG.at 2 rfl) DF AZ (hG.at 1 rfl) ja (by omega) KK hm hnd k7).mono ?_
 rintro e1 w1 (⟨hf,hR⟩|⟨hf,ua,un,uc,hR⟩)
 ·refine⟨_,_,_,hR,?_⟩
  try simp only[aQ]
  refine Ya (bh 4 8) [11,8,9,10] [zV 7 (.iface 390 (.pointer (some (er (eA p base key at')))))] ?_
  try simp only[aQ]
  refine aC ?_
  try simp only[aQ]
  refine Yr [[],[]] (.tuple #[.slice none 0 0,.iface 390 (.pointer (some (er (eA p base key at'))))]) fun a w s=>?_
  exact .inl ⟨hf,s.ret (by simp) [0,1,2,3] [] rfl rfl⟩
 ·refine⟨_,_,_,hR,?_⟩
  try simp only[aQ]
  refine Ya (bh 4 8) [11,8,9,10] [zS 6 ua un uc] ?_
  try simp only[aQ]
  refine aC ?_
  try simp only[aQ]
  refine Yr [[],[]] (.tuple #[.slice ua un uc,.nilIface]) fun a w s=>?_
  exact .inr ⟨hf,_,_,_,s.ret (by simp) [1,2,3,4,0] [] rfl rfl⟩
theorem ES {p:Nat} {base:List Int} {L:List fG} {a1:Option Addr} {n1 c1:Nat} (hC:cm w S .nilIface (dC er eb)) (hP:Pre w S M [fT b p base L]) (h:Gk p base L) (h1:cm w S (.slice a1 n1 c1) (aS at')) (ja:at'.length≤1000000) :
  Calls Tryz.prog 103 #[.pointer (some ⟨b,0,none⟩),.string key,.slice a1 n1 c1] w fun e w'=>
   (eA p base key at'≠0∧cQ M w S w' e (.tuple #[.slice none 0 0,.iface 390 (.pointer (some (er (eA p base key at'))))]) [fT b p base L] []) ∨
   (eA p base key at'=0∧∃ua un uc,cQ M w S w' e (.tuple #[.slice ua un uc,.nilIface]) [fT b p base L,aT (.slice ua un uc) 35 3 ((aW L key at').map eW)] []):=by
 obtain⟨y,hy,hG,A1⟩:=hP.sU
 refine(GW hC A1 (hG.at 0 rfl) h.Sp h.rS h1 ja h.CW (fun q hq=>⟨(iy (h.put q hq).1).vec,(h.put q hq).2⟩) hy.m hy.nd hy.iff).mono ?_
 rintro e w' (⟨hf,hR⟩|⟨hf,ua,un,uc,hR⟩)
 ·exact .inl ⟨hf,hR.rO y hy hG hP.no⟩
 ·exact .inr ⟨hf,ua,un,uc,((hR.more hP.no hG).close y hy fun z hz=>au.2 (.inr hz)).less (by simp)⟩
def yZ (x:fJ) (at':List Int) (ops:List fP) (key:ByteArray):Nat:=if ops=[]then iR x key at' else eA x.places x.base key at'
def qT (x:fJ) (at':List Int) (ops:List fP) (key:ByteArray):List bO:=if ops=[]then aW x.L key at' else aW x.L key at'++[⟨aD at'.length 1099511627776,x.id,ops⟩]
set_option maxHeartbeats 8000000 in
theorem Ej (hC:cm w S .nilIface (dC er eb)) (hP:Pre w S M [bQ pb x,nD sb tok pb at' ops]) (hx:iW x n) (hn:n≤600) (ha1:1≤at'.length) (Oa:at'.length≤6) (hl:ops.length≤1000000) (hv:ops≠[]→dS key=true→(cZ key (qT x at' ops key)).code=0) :
  Calls Tryz.prog 38 #[.pointer (some ⟨sb,0,none⟩),.string key] w fun e w'=>
   (yZ x at' ops key≠0∧cQ M (zero w) S w' e (.tuple #[CZ,.iface 390 (.pointer (some (er (yZ x at' ops key))))]) [bQ pb x,nD sb tok pb at' ops] []) ∨
   (yZ x at' ops key=0∧∃ua un uc,cQ M (zero w) S w' e (.tuple #[w8 (Sx.valOf key (qT x at' ops key)) (.slice ua un uc),.nilIface]) [bQ pb x,nD sb tok pb at' ops] [(.slice ua un uc,pe (Sx.valOf key (qT x at' ops key)).set)]):=by
 refine pW Tryz.func38 QZ (args:=[.pointer (some ⟨sb,0,none⟩),.string key]) (S:=S) (C:=[bQ pb x,nD sb tok pb at' ops]) (G:=[(_,dC er eb)]) (by kernel_rfl) hP (.cons hC (.nil _ _)) ?_
 refine tZ ?_
 refine b9 (eZ 1 rfl) fun y _=>?_
 obtain⟨ta,tn,tc,tb,aa,an,ac,oa,on,oc⟩:=y
 dsimp only
 refine Nm [(bQ pb x),bL sb (.cells #[.pointer (sA tb 0),.slice ta tn tc] 181 (0,0)),bL tb (.cells #[.pointer (sA pb 0),.slice aa an ac,.slice oa on oc] 184 (0,0))] ?_
 refine b9 (jY 3 rfl) fun _ Io=>?_
 rw[aA]at Io
 subst Io
 refine b9 (jY 2 rfl) fun _ QD=>?_
 rw[aA]at QD
 subst QD
 refine fh 1 rfl ?_
 refine fh 1 rfl ?_
 by_cases h0:ops=[]
 ·subst h0
  have hk:yZ x at' [] key=iR x key at':=rfl
  have hL:qT x at' [] key=aW x.L key at':=rfl
  rw[hk,hL]
  try simp only[aQ]
  refine Zv [.wr 0 [] 0,zR 1] [] [] (fun aN=>[zP 4 (aN 0),zV 5 .nilIface]) o0 (fun aN=>[(aN 0,.cells #[nI 0,.string (aL #[]),nI 0,.slice none 0 0] 64 (0,0))]) (fun aN=>?_)
  refine aq ?_
  refine Zs (bh 0 3++[.rd 3 [.o 0 none] 0 0,zR 4]) [] [zB 13 false] ?_
  refine cF ?_
  refine aG (aq ?_)
  refine Zs (bh 0 3++[.rd 3 [.o 0 none] 0 0,zR 4,zR 5,.rd 6 [.o 1 none] 0 0,zR 7,zR 8]) [13] [zB 24 true] ?_
  refine gR ?_
  refine jS [(0,true),(1,true),(2,true),(3,true),(4,true),(5,true),(6,true),(7,true),(8,true),(9,true),(10,true),(11,true),(12,true),(13,true),(14,true),(15,false),(16,true),(17,true),(18,false),(19,true)] [(15,[]),(18,[2])] ?_
  refine Ya (bh 0 3++[.rd 3 [.o 0 none] 0 0,zR 4,zR 5,.rd 6 [.o 1 none] 0 0]++bh 7 11++[.rd 11 [.o 0 none] 0 0,zR 12,zR 13,.rd 14 [.o 1 none] 0 0]) [24] [zP 31 pb,zV 32 (.string key),zS 39 aa at'.length ac] ?_
  refine nJ [] [0] 25 #[.pointer (some (⟨pb,0,none⟩)),.string key,.slice aa at'.length ac] (some 40) lG (by kernel_rfl) (by kernel_rfl) (by decide) (fun w S M hP hG _=>?_)
  refine(zH (hG.at 0 rfl) hP hx hn (hG.at 2 rfl) (by omega)).mono ?_
  rintro e1 w1 (⟨hf,hR⟩|⟨hf,ua,un,uc,hR⟩)
  ·refine⟨_,_,_,hR,?_⟩
   try simp only[aQ]
   refine Ym [zR 16,zR 17,.wr 18 (ek 2 4) 0,zR 19] [40,31,32,39] (fun _=>[zV 5 (.iface 390 (.pointer (some (er (iR x key at')))))]) o0 o0 [] (fun _=>?_)
   try simp only[aQ]
   refine aC ?_
   try simp only[aQ]
   refine Yr [(ek 2 4),[]] (.tuple #[.agg #[nI 0,.string (aL #[]),nI 0,.slice none 0 0],.iface 390 (.pointer (some (er (iR x key at'))))]) fun a w s=>?_
   have s2:=((s.dY 0 rfl).dY 0 rfl).jz (dH (C:=fun y:j7=>[bL sb (oS (some ⟨y.tb,0,none⟩) (.slice y.ta y.tn y.tc)),bL y.tb (ot pb (.slice y.aa y.an y.ac) (.slice y.oa y.on y.oc))]) (G:=fun y:j7=>[(.slice y.ta y.tn y.tc,aS tok),(.slice y.aa y.an y.ac,aS at'),(.slice y.oa y.on y.oc,.sl 7 (([]:List fP).map fe))]) (p:=fun _=>True) [1,2] ⟨ta,tn,tc,tb,aa,at'.length,ac,oa,0,oc⟩ rfl (by simp) trivial)
   exact .inl ⟨hf,s2.pB (by simp) [0,1] [] rfl rfl⟩
  ·refine⟨_,_,_,hR,?_⟩
   try simp only[aQ]
   refine Ym [zR 16,zR 17,.wr 18 (ek 2 4) 0,zR 19] [40,31,32,39] (fun _=>[]) (fun _=>[(2,.cells #[nI ((Sx.valOf key (aW x.L key at')).kind),.string ((Sx.valOf key (aW x.L key at')).text),nI ((Sx.valOf key (aW x.L key at')).n),.slice ua un uc] 64 (0,0))]) o0 [] (fun _=>?_)
   try simp only[aQ]
   refine aC ?_
   try simp only[aQ]
   refine Yr [(ek 2 4),[]] (.tuple #[.agg #[nI ((Sx.valOf key (aW x.L key at')).kind),.string ((Sx.valOf key (aW x.L key at')).text),nI ((Sx.valOf key (aW x.L key at')).n),.slice ua un uc],.nilIface]) fun a w s=>?_
   have s2:=((s.dY 0 rfl).dY 0 rfl).jz (dH (C:=fun y:j7=>[bL sb (oS (some ⟨y.tb,0,none⟩) (.slice y.ta y.tn y.tc)),bL y.tb (ot pb (.slice y.aa y.an y.ac) (.slice y.oa y.on y.oc))]) (G:=fun y:j7=>[(.slice y.ta y.tn y.tc,aS tok),(.slice y.aa y.an y.ac,aS at'),(.slice y.oa y.on y.oc,.sl 7 (([]:List fP).map fe))]) (p:=fun _=>True) [1,2] ⟨ta,tn,tc,tb,aa,at'.length,ac,oa,0,oc⟩ rfl (by simp) trivial)
   exact .inr ⟨hf,_,_,_,s2.pB (by simp) [0,1] [4] rfl rfl⟩
 ·have h1:¬((ops.length:Int)=0):=by
   intro hc
   exact h0 (eV.1 (by omega))
  have hk:yZ x at' ops key=eA x.places x.base key at':=if_neg h0
  have hL:qT x at' ops key=aW x.L key at'++[⟨aD at'.length 1099511627776,x.id,ops⟩]:=by rw[qT,if_neg h0]
  rw[hk]
  try simp only[aQ]
  refine Zv [.wr 0 [] 0,zR 1] [] [] (fun aN=>[zP 4 (aN 0),zV 5 .nilIface]) o0 (fun aN=>[(aN 0,.cells #[nI 0,.string (aL #[]),nI 0,.slice none 0 0] 64 (0,0))]) (fun aN=>?_)
  refine aq ?_
  refine Zs (bh 0 3++[.rd 3 [.o 0 none] 0 0,zR 4]) [] [zB 13 false] ?_
  refine cF ?_
  refine aG (aq ?_)
  refine Zt (bh 0 3++[.rd 3 [.o 0 none] 0 0,zR 4,zR 5,.rd 6 [.o 1 none] 0 0,zR 7,.rd 8 [] 0 7]) [13] [zB 24 false] (oC (show((↑ops.length:Int)==(0:Int))=false from by simp;omega) oN) ?_
  refine cF ?_
  refine aG (aq ?_)
  refine b9 (eZ 0 rfl) fun z hz=>?_
  obtain⟨vb,pa,pc,ia,ic,om,im⟩:=z
  refine Nm [bL pb (.cells #[.pointer (sA vb 0),nI (↑x.id:Int),nI (↑x.places:Int),nI (↑x.ah:Int),nI x.clock,.slice (iN.mk vb pa pc ia ic om im).oa x.places pc,.slice (iN.mk vb pa pc ia ic om im).ia x.places ic] 124 (0,0)),(fT (iN.mk vb pa pc ia ic om im).vb x.places x.base x.L),(dN (iN.mk vb pa pc ia ic om im).om.flatten x.ss),(c8 (iN.mk vb pa pc ia ic om im).im.flatten x.rs)] ?_
  refine fh 0 rfl ?_
  try simp only[aQ]
  refine jT [(0,true),(1,true),(2,true),(3,true),(4,true),(5,true),(6,true),(7,true),(8,true),(9,true),(10,true),(11,true),(12,true),(13,true),(14,true),(15,true),(16,true),(17,true),(18,false),(19,true),(20,true),(21,true),(22,true),(23,true)] [(18,[])] ?_
  refine Ya (bh 0 3++[.rd 3 [.o 0 none] 0 0,zR 4,zR 5,.rd 6 [.o 1 none] 0 0,zR 7,zR 8,.rd 9 [.o 3 none] 0 0]++bh 10 14++[.rd 14 [.o 0 none] 0 0,zR 15,zR 16,.rd 17 [.o 1 none] 0 0]) [24] [zP 53 vb,zV 54 (.string key),zS 61 aa at'.length ac] ?_
  refine cn [] [0] 103 #[.pointer (some (⟨vb,0,none⟩)),.string key,.slice aa at'.length ac] (some 62) (by kernel_rfl) (by kernel_rfl) (by decide) (fun w S M hP hG _=>?_)
  refine(ES (hG.at 0 rfl) hP (hx.R2 (by omega)) (hG.at 2 rfl) (by omega)).mono ?_
  rintro e1 w1 (⟨hf,hR⟩|⟨hf,ua,un,uc,hR⟩)
  ·refine⟨_,_,_,hR,?_⟩
   try simp only[aQ]
   refine Ya (bh 19 24) [62,53,54,61] [zS 6 none 0 0,zV 7 (.iface 390 (.pointer (some (er (eA x.places x.base key at')))))] ?_
   try simp only[aQ]
   refine aC ?_
   try simp only[aQ]
   refine aq ?_
   try simp only[aQ]
   refine aq ?_
   try simp only[aQ]
   refine js 3 rfl ?_
   refine bH (ee (x:=x) ⟨vb,pa,pc,ia,ic,om,im⟩ [3,2,0,1] 4 5 rfl rfl rfl hz) ?_
   refine Nm [(bQ pb x)] ?_
   refine Za [zR 0,zR 1] [] [zB 66 true] ?_
   refine gR ?_
   refine Zv [zR 0,zR 1,.wr 2 (ek 2 4) 0,zR 3] [(2,[2])] [66,7] (fun _=>[zV 5 (.iface 390 (.pointer (some (er (eA x.places x.base key at')))))]) o0 o0 (fun _=>?_)
   refine Yr [(ek 2 4),[]] (.tuple #[.agg #[nI 0,.string (aL #[]),nI 0,.slice none 0 0],.iface 390 (.pointer (some (er (eA x.places x.base key at'))))]) fun a w s=>?_
   have s2:=((s.dY 0 rfl).dY 0 rfl).jz (dH (C:=fun y:j7=>[bL sb (oS (some ⟨y.tb,0,none⟩) (.slice y.ta y.tn y.tc)),bL y.tb (ot pb (.slice y.aa y.an y.ac) (.slice y.oa y.on y.oc))]) (G:=fun y:j7=>[(.slice y.ta y.tn y.tc,aS tok),(.slice y.aa y.an y.ac,aS at'),(.slice y.oa y.on y.oc,.sl 7 (ops.map fe))]) (p:=fun _=>True) [1,2] ⟨ta,tn,tc,tb,aa,at'.length,ac,oa,ops.length,oc⟩ rfl (by simp) trivial)
   exact .inl ⟨hf,s2.pB (by simp) [0,1] [] rfl rfl⟩
  ·refine⟨_,_,_,hR,?_⟩
   rw[hL]
   try simp only[aQ]
   refine Ya (bh 19 24) [62,53,54,61] [zS 6 ua un uc,zV 7 .nilIface] ?_
   try simp only[aQ]
   refine aC ?_
   try simp only[aQ]
   refine aq ?_
   try simp only[aQ]
   refine aq ?_
   try simp only[aQ]
   refine js 3 rfl ?_
   refine bH (ee (x:=x) ⟨vb,pa,pc,ia,ic,om,im⟩ [4,2,0,1] 4 5 rfl rfl rfl hz) ?_
   refine Nm [aT (.slice ua un uc) 35 3 (aj eW (aW x.L key at')),(bQ pb x)] ?_
   refine b9 (eC 0 rfl) fun _ hun=>?_
   rw[aA]at hun
   subst hun
   have xZ:(aW x.L key at').length≤x.L.length:=aZ (cH _ _) (by rw[ey,aA];exact cH _ _)
   have W5:=hx.len
   have hnm:dS key=true:=bU fun hc=>by
    rw[eA,if_pos (by simpa using hc)]at hf
    cases hf
   refine Za [zR 0,zR 1] [] [zB 66 false] ?_
   refine cF ?_
   refine aG ?_
   refine jS [(0,false),(1,true),(2,true),(3,true),(4,true),(5,true),(6,true),(7,true),(8,true),(9,false),(10,true)] [] ?_
   refine Ym ([.wr 0 [] 0]++bh 1 4++[.rd 4 [.o 0 none] 0 0,zR 5,zR 6,.rd 7 [.o 1 none] 0 0,zR 8]) [66,7] (fun dy=>[zS 69 (sA (dy 0) 0) 1 1,zI 77 (↑at'.length:Int)]) o0 (fun dy=>[(dy 0,.cells #[nI 1099511627776] 3 (0,0))]) [] (fun dy=>?_)
   refine Bj (size:=1) 3 eI [(1099511627776:Int)] 1 rfl (by kernel_rfl) (by decide) (by intro x _;rfl) (by simp) ⟨.inl ⟨rfl,rfl⟩,trivial⟩ ?_
   refine Yc 104 #[.slice (sA (dy 0) 0) 1 1,nI (↑at'.length:Int)] (some 78) fun w S hG=>?_
   refine(J3 (n:=at'.length) (hG.at 6 rfl) ha1 Oa).mono ?_
   rintro e2 w2 ⟨ra,rn,rc,hR⟩
   refine⟨_,_,_,hR,?_⟩
   try simp only[aQ]
   refine Ya [zR 10] [78,69,77] [zS 8 ra rn rc] ?_
   refine aC ?_
   refine jS [(0,true),(1,true),(2,true),(3,true),(4,true),(5,true),(6,true),(7,true),(8,true),(9,true),(11,true),(12,true),(13,true),(14,true),(15,true),(16,true),(17,true),(10,false),(18,true),(19,false),(20,false),(21,false),(22,true),(23,true),(24,false),(25,true)] [(10,[]),(20,[]),(21,[]),(24,[2])] ?_
   refine Ya (bh 0 6++[.rd 6 [.o 0 none] 0 0,zR 7,zR 8,.rd 9 [.o 1 none] 0 0]++bh 11 14++[.rd 14 [.o 0 none] 0 0,zR 15,zR 16,.rd 17 [.o 1 none] 0 0]) [8,6,0,1] [zV 79 (.string key),zS 80 ua ((aW x.L key at').length) uc,zS 81 ra rn rc,zP 88 pb,zS 96 oa ops.length oc] ?_
   refine cn [] [1] 106 #[.pointer (some (⟨pb,0,none⟩))] (some 89) (by kernel_rfl) (by kernel_rfl) (by decide) (fun w S M hP hG _=>?_)
   refine(En hP).mono ?_
   rintro e3 w3 hR
   refine⟨_,_,_,hR,?_⟩
   try simp only[aQ]
   refine Ym [zR 18,.wr 19 [] 0] [89,81,88,96] (fun eR=>[zS 98 (sA (eR 0) 0) 1 1]) o0 (fun eR=>[(eR 0,.cells #[.slice ra rn rc,nI (↑x.id:Int),.slice oa ops.length oc] 35 (0,0))]) [(20,[]),(21,[]),(24,[2])] (fun eR=>?_)
   try simp only[aQ]
   refine JN [aT (.slice ua ((aW x.L key at').length) uc) 35 3 (aj eW (aW x.L key at')),(bQ pb x)] ?_
   refine eY 0 153 35 3 56 (.agg #[.slice none 0 0,.int .i64 0,.slice none 0 0]) (a0:=ua) (len:=(aW x.L key at').length) (iB:=uc) (ax:=(some (⟨eR 0,0,none⟩))) (m:=1) (c:=1) (dst:=(some 99)) [(⟨aD at'.length 1099511627776,x.id,ops⟩:bO)] (by kernel_rfl) (by kernel_rfl) (by kernel_rfl) (by kernel_rfl) rfl (by decide) rfl (fun _ _ _ s=>fK s 3 rfl rfl ⟨.inr (.inl (ae (i:=7) rfl)),⟨.inl ⟨rfl,rfl⟩,⟨.inr (.inl (ae (i:=3) rfl)),trivial⟩⟩⟩) (by simp only[maxLen];omega) (by omega) (fun gq gp=>?_)
   refine JN [(bQ pb x),aT (.slice gq ((aW x.L key at').length+1) gp) 35 3 (aj eW (aW x.L key at'++[bO.mk (aD at'.length 1099511627776) (↑x.id:Int) ops]))] ?_
   refine Jk (dg 1 rfl) ?_
   try simp only[aQ]
   refine vY [] 105 #[.string key,.slice gq ((aW x.L key at').length+1) gp] (some 100) lG (by kernel_rfl) (fun w S hG=>?_)
   refine(Vi (key:=key) (hG.at 0 rfl) (hG.at 8 rfl) (by rw[bA,List.length_singleton];omega) (fun c hc=>?_) (fun c hc=>?_)).mono ?_
   ·rcases au.1 hc with hc|hc
    ·obtain⟨q,hq,rfl⟩:=iz (aP.1 hc).1
     have h6:=(jV (iy (hx.put q hq).1).vec).2
     exact aZ h6 (by decide)
    ·rw[ay.1 hc]
     show(aD at'.length (1099511627776:Int)).length≤1000000
     rw[gG]
     omega
   ·rcases au.1 hc with hc|hc
    ·obtain⟨q,hq,rfl⟩:=iz (aP.1 hc).1
     exact(by decide:1≤1000000)
    ·rw[ay.1 hc]
     exact hl
   rintro e4 w4 (⟨JE,_⟩|⟨_,va,vn,vc,hR⟩)
   ·exact absurd (hL ▸ hv h0 hnm) JE
   refine⟨_,_,_,hR,?_⟩
   try simp only[aQ]
   refine Ym [zR 22,zR 23,.wr 24 (ek 2 4) 0,zR 25] [100,99,98,79,80] (fun _=>[]) (fun _=>[(2,.cells #[nI ((Sx.valOf key (aW x.L key at'++[bO.mk (aD at'.length 1099511627776) (↑x.id:Int) ops])).kind),.string ((Sx.valOf key (aW x.L key at'++[bO.mk (aD at'.length 1099511627776) (↑x.id:Int) ops])).text),nI ((Sx.valOf key (aW x.L key at'++[bO.mk (aD at'.length 1099511627776) (↑x.id:Int) ops])).n),.slice va vn vc] 64 (0,0))]) o0 [] (fun _=>?_)
   refine aC ?_
   refine Yr [(ek 2 4),[]] (.tuple #[.agg #[nI ((Sx.valOf key (aW x.L key at'++[bO.mk (aD at'.length 1099511627776) (↑x.id:Int) ops])).kind),.string ((Sx.valOf key (aW x.L key at'++[bO.mk (aD at'.length 1099511627776) (↑x.id:Int) ops])).text),nI ((Sx.valOf key (aW x.L key at'++[bO.mk (aD at'.length 1099511627776) (↑x.id:Int) ops])).n),.slice va vn vc],.nilIface]) fun a w s=>?_
   have s2:=((s.dY 0 rfl).dY 0 rfl).jz (dH (C:=fun y:j7=>[bL sb (oS (some ⟨y.tb,0,none⟩) (.slice y.ta y.tn y.tc)),bL y.tb (ot pb (.slice y.aa y.an y.ac) (.slice y.oa y.on y.oc))]) (G:=fun y:j7=>[(.slice y.ta y.tn y.tc,aS tok),(.slice y.aa y.an y.ac,aS at'),(.slice y.oa y.on y.oc,.sl 7 (ops.map fe))]) (p:=fun _=>True) [1,2] ⟨ta,tn,tc,tb,aa,at'.length,ac,oa,ops.length,oc⟩ rfl (by simp) trivial)
   exact .inr ⟨hf,_,_,_,s2.pB (by simp) [0,1] [9] rfl rfl⟩
end Fo
end Go.Proofs.YtmkapocibaojdaaGreatDoor
end
section
namespace Go.Proofs.YtmkapocibaojdaaGreatDoor
open Go Go.Sx
section Fo
variable {w:World} {S:Nat→Prop} {M:List Nat} {er:Nat→Addr} {eb:Nat→Array Value×TypeId} {x:fJ} {pb sb n:Nat} {tok at':List Int} {ops:List fP}
set_option maxHeartbeats 8000000 in
theorem Fm (hC:cm w S .nilIface (dC er eb)) (hP:Pre w S M [bQ pb x,nD sb tok pb at' ops]) (hx:iW x n) (hn:n<600) (ja:at'.length≤1000000) (kS:ops.length≤1000000) (qE:∀o∈ops,o.bF.length≤1000000) (hc0:ops≠[]→(gY x at' ops).code=0) :
  Calls Tryz.prog 39 #[.pointer (some ⟨sb,0,none⟩)] w fun e w'=>
   (ops=[]∧∃u1 m1 d1,cQ M w S w' e (.tuple #[.agg #[.slice u1 m1 d1,.int .i64 x.id,.slice none 0 0],.slice none 0 0,.nilIface]) [bQ pb x,jQ sb tok] [(.slice u1 m1 d1,aS at')]) ∨
   (ops≠[]∧∃u1 m1 d1 u2 m2 d2 u3 m3 d3,cQ M w S w' e (.tuple #[.agg #[.slice u1 m1 d1,.int .i64 x.id,.slice u2 m2 d2],.slice u3 m3 d3,.nilIface]) [bQ pb (p4 x (bI x at' ops)),jQ sb (bI x at' ops).when]
    [(.slice u1 m1 d1,aS (bI x at' ops).when),(.slice u2 m2 d2,.sl 7 ((bI x at' ops).ops.map fe)),(.slice u3 m3 d3,.sl 9 ((lM x (bI x at' ops)).map fC))]):=by
 refine pW Tryz.func39 U0 (args:=[.pointer (some ⟨sb,0,none⟩)]) (S:=S) (C:=[bQ pb x,nD sb tok pb at' ops]) (G:=[(_,dC er eb)]) (by kernel_rfl) hP (.cons hC (.nil _ _)) ?_
 refine b9 (eZ 1 rfl) fun y _=>?_
 obtain⟨ta,tn,tc,tb,aa,an,ac,oa,on,oc⟩:=y
 dsimp only
 refine Nm [(bQ pb x),bL sb (.cells #[.pointer (sA tb 0),.slice ta tn tc] 181 (0,0)),bL tb (.cells #[.pointer (sA pb 0),.slice aa an ac,.slice oa on oc] 184 (0,0))] ?_
 refine b9 (jY 3 rfl) fun _ Io=>?_
 rw[aA]at Io
 subst Io
 refine fh 1 rfl ?_
 refine fh 1 rfl ?_
 by_cases h0:ops=[]
 ·subst h0
  try simp only[aQ]
  refine Zv [.wr 0 [] 0,zR 1,zR 2] [] [] (fun aN=>[zP 2 (aN 0),zS 3 none 0 0,zV 4 .nilIface]) o0 (fun aN=>[(aN 0,.cells #[.slice none 0 0,nI 0,.slice none 0 0] 35 (0,0))]) (fun aN=>?_)
  refine Zs (bh 0 3++[.rd 3 [.o 0 none] 0 0,zR 4]) [] [zP 5 tb] ?_
  refine aq ?_
  refine Zs [zR 0,zR 1] [] [zB 14 false] ?_
  refine cF ?_
  refine aG ?_
  refine Zv (bh 0 3++[.wr 3 [.o 0 none] 0]) [(3,[0])] [14] (fun _=>[]) (fun _=>[(0,.cells #[.pointer none,.slice ta tn tc] 181 (0,0))]) o0 (fun _=>?_)
  refine aq ?_
  refine Zs (bh 0 3++[.rd 3 [.o 1 none] 0 0,zR 4,zR 5]) [] [zB 25 true] ?_
  refine gR ?_
  refine jS [(0,true),(1,true),(2,true),(3,true),(4,true),(5,true),(6,true),(7,true),(8,false),(9,true),(10,false),(11,true),(12,true)] [(8,[]),(10,[2])] ?_
  refine Ya (bh 0 3++[.rd 3 [.o 1 none] 0 0]++bh 4 7++[.rd 7 [.o 1 none] 0 0]) [25] [zS 29 aa an ac,zP 33 pb] ?_
  refine cn [] [0] 106 #[.pointer (some (⟨pb,0,none⟩))] (some 34) (by kernel_rfl) (by kernel_rfl) (by decide) (fun w S M hP hG _=>?_)
  refine(En hP).mono ?_
  rintro e1 w1 hR
  refine⟨_,_,_,hR,?_⟩
  try simp only[aQ]
  refine Ym [zR 9,.wr 10 (ek 2 3) 0,zR 11,zR 12] [34,29,33] (fun _=>[]) (fun _=>[(2,.cells #[.slice aa an ac,nI (↑x.id:Int),.slice none 0 0] 35 (0,0))]) o0 [] (fun _=>?_)
  try simp only[aQ]
  refine aC ?_
  try simp only[aQ]
  refine Yr [(ek 2 3),[],[]] (.tuple #[.agg #[.slice aa an ac,nI (↑x.id:Int),.slice none 0 0],.slice none 0 0,.nilIface]) fun a w s=>?_
  have s2:=(s.dY 0 rfl).jz (dH (C:=fun y:j7=>[bL sb (oS none (.slice y.ta y.tn y.tc))]) (G:=fun y:j7=>[(.slice y.ta y.tn y.tc,aS tok)]) (p:=fun _=>True) [1] ⟨ta,tn,tc,0,none,0,0,none,0,0⟩ rfl (by simp) trivial)
  exact .inl ⟨trivial,_,_,_,s2.ret (by simp) [0,1] [2] rfl rfl⟩
 ·have h1:¬((ops.length:Int)=0):=by
   intro hc
   exact h0 (eV.1 (by omega))
  try simp only[aQ]
  refine Zv [.wr 0 [] 0,zR 1,zR 2] [] [] (fun aN=>[zP 2 (aN 0),zS 3 none 0 0,zV 4 .nilIface]) o0 (fun aN=>[(aN 0,.cells #[.slice none 0 0,nI 0,.slice none 0 0] 35 (0,0))]) (fun aN=>?_)
  refine Zs (bh 0 3++[.rd 3 [.o 0 none] 0 0,zR 4]) [] [zP 5 tb] ?_
  refine aq ?_
  refine Zs [zR 0,zR 1] [] [zB 14 false] ?_
  refine cF ?_
  refine aG ?_
  refine Zv (bh 0 3++[.wr 3 [.o 0 none] 0]) [(3,[0])] [14] (fun _=>[]) (fun _=>[(0,.cells #[.pointer none,.slice ta tn tc] 181 (0,0))]) o0 (fun _=>?_)
  refine aq ?_
  refine Zt (bh 0 3++[.rd 3 [.o 1 none] 0 0,zR 4,.rd 5 [] 0 7]) [] [zB 25 false] (oC (show((↑ops.length:Int)==(0:Int))=false from by simp;omega) oN) ?_
  refine cF ?_
  refine aG (aq ?_)
  have xZ:(bI x at' ops).when.length≤1000000:=by
   show(at'.set x.id (x.clock+1)).length≤1000000
   rw[jg]
   exact ja
  refine NT mixed 12 [(0,true),(1,true),(2,true),(3,true),(4,true),(5,true),(6,true),(7,true),(8,true),(9,true),(10,true),(11,true),(12,false),(13,true),(14,true),(15,true),(16,true),(17,false),(18,false),(19,true),(20,true)] [(0,true),(1,true),(2,true),(3,true),(4,true),(5,true),(6,true),(7,true),(8,true),(9,true),(10,true),(11,true),(17,false),(12,false),(13,true),(14,true),(15,true),(16,true),(18,false),(19,true),(20,true)] [(12,[]),(18,[])] (by kernel_rfl) (by kernel_rfl) ?_ ?_
  ·refine Ya (bh 0 3++[.rd 3 [.o 1 none] 0 0]++bh 4 7++[.rd 7 [.o 1 none] 0 0]++bh 8 11++[.rd 11 [.o 1 none] 0 0]) [25,5] [(40,.val (.pointer (some (⟨pb,0,none⟩)))),(44,.val (.slice aa an ac)),(48,.val (.slice oa ops.length oc))] ?_
   refine cn [] [0] 22 #[.pointer (some (⟨pb,0,none⟩)),.slice aa an ac,.slice oa ops.length oc] (some 49) (by kernel_rfl) (by kernel_rfl) (by decide) (fun w S M hP hG _=>?_)
   refine(wh (hG.at 0 rfl) hP hx hn (hG.at 2 rfl) (hG.at 3 rfl) ja kS qE).mono ?_
   rintro e1 w1 (⟨hc,_⟩|⟨hok,u1,m1,d1,u2,m2,d2,u3,m3,d3,hR⟩)
   ·exact absurd (hc0 h0) hc
   refine⟨_,_,_,hR,?_⟩
   try simp only[aQ]
   refine Ym (bh 13 17++[.wr 17 [] 0,.wr 18 (ek 3 3) 0,zR 19,zR 20]) [49,40,44,48] (fun dy=>[zP 6 (dy 0),zS 7 u3 m3 d3,zV 8 .nilIface]) o0 (fun dy=>[(dy 0,.cells #[.slice u1 m1 d1,nI (↑x.id:Int),.slice u2 m2 d2] 35 (0,0))]) [] (fun dy=>?_)
   try simp only[aQ]
   refine aC ?_
   try simp only[aQ]
   refine aq ?_
   try simp only[aQ]
   refine aq ?_
   try simp only[aQ]
   refine Za [zR 0,zR 1] [] [zB 54 false] ?_
   try simp only[aQ]
   refine cF ?_
   try simp only[aQ]
   refine aG ?_
   try simp only[aQ]
   refine aq ?_
   try simp only[aQ]
   refine jT [(0,true),(1,true),(2,true),(3,false),(4,true),(5,true),(6,false)] [] ?_
   refine Ya [zR 0,zR 1,.rd 2 [.o 3 none] 0 0] [54,8,0] [zP 57 sb,zS 59 u1 m1 d1] ?_
   refine Yc 101 #[.slice u1 m1 d1] (some 60) fun w S hG=>?_
   refine(p7 (hG.at 4 rfl) xZ).mono ?_
   rintro e2 w2 ⟨a4,c4,hR⟩
   refine⟨_,_,_,hR,?_⟩
   try simp only[aQ]
   refine Ym [zR 4,zR 5,.wr 6 [.o 0 none] 0] [60,57,59] (fun _=>[]) (fun _=>[(0,.cells #[.pointer none,.slice a4 m1 c4] 181 (0,0))]) o0 [] (fun _=>?_)
   try simp only[aQ]
   refine aC ?_
   try simp only[aQ]
   refine aq ?_
   try simp only[aQ]
   refine bH (dg 1 rfl) ?_
   refine Nm [(bQ pb (p4 x (bI x at' ops)))] ?_
   try simp only[aQ]
   refine jT [(0,true),(1,false),(2,true),(3,false),(4,true),(5,true)] [] ?_
   refine Ya [.rd 0 (ek 3 3) 0 0] [6] [zV 63 (.agg #[.slice u1 m1 d1,nI (↑x.id:Int),.slice u2 m2 d2])] ?_
   refine Yc 84 #[.agg #[.slice u1 m1 d1,nI (↑x.id:Int),.slice u2 m2 d2]] (some 64) fun w S hG=>?_
   refine(Ea (c:=bI x at' ops) (hG.at 4 rfl) (hG.at 5 rfl) xZ (by rw[bI,iL];exact kS) (oz qE)).mono ?_
   rintro e3 w3 ⟨v1,z1,v2,z2,hR⟩
   refine⟨_,_,_,hR,?_⟩
   try simp only[aQ]
   refine Ym [zR 2,.wr 3 (ek 2 3) 0,zR 4,zR 5] [64,63,7] (fun _=>[zS 3 u3 m3 d3]) (fun _=>[(2,.cells #[.slice v1 m1 z1,nI ((bI x at' ops).place),.slice v2 m2 z2] 35 (0,0))]) o0 [] (fun _=>?_)
   refine aC ?_
   refine Yr [(ek 2 3),[],[]] (.tuple #[.agg #[.slice v1 m1 z1,nI ((bI x at' ops).place),.slice v2 m2 z2],.slice u3 m3 d3,.nilIface]) fun a w s=>?_
   have s2:=(((s.jz (dg 1 rfl)).jz (dg 1 rfl)).dY 0 rfl).jz (dH (C:=fun y:j7=>[bL sb (oS none (.slice y.ta y.tn y.tc))]) (G:=fun y:j7=>[(.slice y.ta y.tn y.tc,aS (bI x at' ops).when)]) (p:=fun _=>True) [1] ⟨a4,m1,c4,0,none,0,0,none,0,0⟩ rfl (by simp) trivial)
   exact .inr ⟨h0,_,_,_,_,_,_,_,_,_,s2.ret (by simp) [0,1] [8,9,6] rfl rfl⟩
  ·refine Ym (bh 0 3++[.rd 3 [.o 1 none] 0 0]++bh 4 7++[.rd 7 [.o 1 none] 0 0]++bh 8 11++[.rd 11 [.o 1 none] 0 0,.wr 17 [] 0]) [25,5] (fun dy=>[(6,.val (.pointer (some (⟨dy 0,0,none⟩)))),(40,.val (.pointer (some (⟨pb,0,none⟩)))),(44,.val (.slice aa an ac)),(48,.val (.slice oa ops.length oc))]) o0 (fun dy=>[(dy 0,.cells #[.slice none 0 0,.int .i64 0,.slice none 0 0] 35 (0,0))]) [(12,[]),(18,[])] (fun dy=>?_)
   refine cn [] [0] 22 #[.pointer (some (⟨pb,0,none⟩)),.slice aa an ac,.slice oa ops.length oc] (some 49) (by kernel_rfl) (by kernel_rfl) (by decide) (fun w S M hP hG _=>?_)
   refine(wh (hG.at 0 rfl) hP hx hn (hG.at 2 rfl) (hG.at 3 rfl) ja kS qE).mono ?_
   rintro e1 w1 (⟨hc,_⟩|⟨hok,u1,m1,d1,u2,m2,d2,u3,m3,d3,hR⟩)
   ·exact absurd (hc0 h0) hc
   refine⟨_,_,_,hR,?_⟩
   try simp only[aQ]
   refine Ym (bh 13 17++[.wr 18 (ek 3 3) 0,zR 19,zR 20]) [49,40,44,48] (fun _=>[zS 7 u3 m3 d3,zV 8 .nilIface]) (fun _=>[(3,.cells #[.slice u1 m1 d1,nI (↑x.id:Int),.slice u2 m2 d2] 35 (0,0))]) o0 [] (fun _=>?_)
   try simp only[aQ]
   refine aC ?_
   try simp only[aQ]
   refine aq ?_
   try simp only[aQ]
   refine aq ?_
   try simp only[aQ]
   refine Za [zR 0,zR 1] [] [zB 54 false] ?_
   try simp only[aQ]
   refine cF ?_
   try simp only[aQ]
   refine aG ?_
   try simp only[aQ]
   refine aq ?_
   try simp only[aQ]
   refine jT [(0,true),(1,true),(2,true),(3,false),(4,true),(5,true),(6,false)] [] ?_
   refine Ya [zR 0,zR 1,.rd 2 [.o 3 none] 0 0] [54,8,0] [zP 57 sb,zS 59 u1 m1 d1] ?_
   refine Yc 101 #[.slice u1 m1 d1] (some 60) fun w S hG=>?_
   refine(p7 (hG.at 4 rfl) xZ).mono ?_
   rintro e2 w2 ⟨a4,c4,hR⟩
   refine⟨_,_,_,hR,?_⟩
   try simp only[aQ]
   refine Ym [zR 4,zR 5,.wr 6 [.o 0 none] 0] [60,57,59] (fun _=>[]) (fun _=>[(0,.cells #[.pointer none,.slice a4 m1 c4] 181 (0,0))]) o0 [] (fun _=>?_)
   try simp only[aQ]
   refine aC ?_
   try simp only[aQ]
   refine aq ?_
   try simp only[aQ]
   refine bH (dg 1 rfl) ?_
   refine Nm [(bQ pb (p4 x (bI x at' ops)))] ?_
   try simp only[aQ]
   refine jT [(0,true),(1,false),(2,true),(3,false),(4,true),(5,true)] [] ?_
   refine Ya [.rd 0 (ek 3 3) 0 0] [6] [zV 63 (.agg #[.slice u1 m1 d1,nI (↑x.id:Int),.slice u2 m2 d2])] ?_
   refine Yc 84 #[.agg #[.slice u1 m1 d1,nI (↑x.id:Int),.slice u2 m2 d2]] (some 64) fun w S hG=>?_
   refine(Ea (c:=bI x at' ops) (hG.at 4 rfl) (hG.at 5 rfl) xZ (by rw[bI,iL];exact kS) (oz qE)).mono ?_
   rintro e3 w3 ⟨v1,z1,v2,z2,hR⟩
   refine⟨_,_,_,hR,?_⟩
   try simp only[aQ]
   refine Ym [zR 2,.wr 3 (ek 2 3) 0,zR 4,zR 5] [64,63,7] (fun _=>[zS 3 u3 m3 d3]) (fun _=>[(2,.cells #[.slice v1 m1 z1,nI ((bI x at' ops).place),.slice v2 m2 z2] 35 (0,0))]) o0 [] (fun _=>?_)
   refine aC ?_
   refine Yr [(ek 2 3),[],[]] (.tuple #[.agg #[.slice v1 m1 z1,nI ((bI x at' ops).place),.slice v2 m2 z2],.slice u3 m3 d3,.nilIface]) fun a w s=>?_
   have s2:=(((s.jz (dg 1 rfl)).jz (dg 1 rfl)).dY 0 rfl).jz (dH (C:=fun y:j7=>[bL sb (oS none (.slice y.ta y.tn y.tc))]) (G:=fun y:j7=>[(.slice y.ta y.tn y.tc,aS (bI x at' ops).when)]) (p:=fun _=>True) [1] ⟨a4,m1,c4,0,none,0,0,none,0,0⟩ rfl (by simp) trivial)
   exact .inr ⟨h0,_,_,_,_,_,_,_,_,_,s2.ret (by simp) [0,1] [8,9,6] rfl rfl⟩
end Fo
end Go.Proofs.YtmkapocibaojdaaGreatDoor
end
section
namespace Go.Sx
open Go
theorem wS:∀(n:Nat) (L:List bN) (q t:Int),(drain n L q t).2.2.1=q+(drain n L q t).1.length
 | 0,L,q,t=>by simp[drain]
 | n+1,L,q,t=>by
  unfold drain
  cases kept L (q+1)with
  | none=>simp
  | some m=>
   have ih:=wS n (gF L (q+1)) (q+1) m.time
   simp only[ih,eF]
   omega
theorem Ac:∀(n:Nat) (L:List bN) (q t:Int),(drain n L q t).2.1.length+(drain n L q t).1.length=L.length
 | 0,L,q,t=>by simp[drain]
 | n+1,L,q,t=>by
  unfold drain
  cases h:kept L (q+1)with
  | none=>simp
  | some m=>
   have ih:=Ac n (gF L (q+1)) (q+1) m.time
   have h2:=pZ h
   simp only[eF]
   omega
theorem tP:∀(n:Nat) (L:List bN) (q t:Int),(drain n L q t).2.1.Sublist L
 | 0,L,q,t=>by simp[drain]
 | n+1,L,q,t=>by
  unfold drain
  cases kept L (q+1)with
  | none=>simp
  | some m=>exact(tP n (gF L (q+1)) (q+1) m.time).trans (pY L _)
theorem Ab:∀(n:Nat) (L:List bN) (q t:Int),∀m∈(drain n L q t).1,m∈L
 | 0,L,q,t=>by simp[drain]
 | n+1,L,q,t=>by
  unfold drain
  cases h:kept L (q+1)with
  | none=>simp
  | some m=>
   intro x hx
   rcases cE.1 hx with rfl|hx
   ·exact pQ h
   ·exact(pY L _).subset (Ab n (gF L (q+1)) (q+1) m.time x hx)
theorem yq:∀(n:Nat) (L:List bN) (q t:Int),(drain n L q t).2.2.2=t∨∃m∈L,(drain n L q t).2.2.2=m.time
 | 0,L,q,t=>by simp[drain]
 | n+1,L,q,t=>by
  unfold drain
  cases h:kept L (q+1)with
  | none=>simp
  | some m=>
   rcases yq n (gF L (q+1)) (q+1) m.time with h1|⟨x,hx,h1⟩
   ·exact .inr ⟨m,pQ h,h1⟩
   ·exact .inr ⟨x,(pY L _).subset hx,h1⟩
theorem qB {α β:Type} {f:α→β}:∀{l:List α} {p:Nat} {a b:α},l[p]?=some a→f b=f a→(l.set p b).map f=l.map f
 | [],_,_,_,h,_=>by simp at h
 | _::_,0,_,_,h,hf=>by
  simp only[aV,az]at h
  subst h
  simp[hf]
 | _::l,p+1,a,b,h,hf=>by
  have ih:=qB (l:=l) (p:=p) (by simpa using h) hf
  simp[ih]
theorem JU {l:List bB}:∀{p:Nat} {a b:bB},l[p]?=some a→((l.set p b).map (·.q)).sum=(l.map (·.q)).sum - a.q+b.q:=by
 induction l with
 | nil=>intro p a b h;simp at h
 | cons x l ih=>
  intro p a b h
  cases p with
  | zero=>
   simp only[aV,az]at h
   subst h
   simp only[List.set_cons_zero,cj,lO]
   omega
  | succ p=>
   have:=ih (b:=b) (by simpa using h:l[p]?=some a)
   simp only[List.set_cons_succ,cj,lO,this]
   omega
end Go.Sx
namespace Go.Proofs.YtmkapocibaojdaaGreatDoor
open Go Go.Sx
theorem DE {fm to sh:Int} {r:Lg} {m:bN} (h:(gO fm to sh r m).1≠0):(gO fm to sh r m).2.1=[]∧(gO fm to sh r m).2.2=r:=by
 unfold gO at h ⊢
 split
 ·exact⟨rfl,rfl⟩
 rw[if_neg (by assumption)]at h
 split
 ·exact⟨rfl,rfl⟩
 rw[if_neg (by assumption)]at h
 split
 ·exact⟨rfl,rfl⟩
 rw[if_neg (by assumption)]at h
 split
 ·exact⟨rfl,rfl⟩
 rw[if_neg (by assumption)]at h
 exact absurd rfl h
structure D6 (y:bB) (m:bN):Prop where
 q:(bB.heard y m).q=y.q+(bB.dK y m).2.1.length
 len:(bB.heard y m).l.length+(bB.dK y m).2.1.length≤y.l.length+1
 left:∀x∈(bB.heard y m).l,x∈y.l∨(x=m∧0≤m.time∧m.time≤1099511627776)
 out:∀x∈(bB.dK y m).2.1,x∈y.l∨(x=m∧0≤m.time∧m.time≤1099511627776)
 Uw:nQ y.l→nQ (bB.heard y m).l
 time:(bB.heard y m).t=y.t∨∃x,(x∈y.l∨(x=m∧0≤m.time∧m.time≤1099511627776))∧(bB.heard y m).t=x.time
theorem AV (y:bB) (m:bN):D6 y m:=by
 have C5:∀k,bB.dK y m=(k,[],⟨y.l,y.q,y.t⟩)→D6 y m:=fun k h=>by
  refine⟨?_,?_,?_,?_,?_,?_⟩ <;> simp only[bB.heard,h]
  ·simp
  ·simp
  ·exact fun x hx=>.inl hx
  ·simp
  ·exact id
  ·exact .inl trivial
 by_cases h1:m.fm≠y.fm∨m.to≠y.to∨m.de≠y.sh
 ·exact C5 3 (by rw[bB.dK,gO,if_pos h1])
 by_cases h2:m.seq<1∨m.time<0∨1099511627776<m.time
 ·exact C5 2 (by rw[bB.dK,gO,if_neg h1,if_pos h2])
 by_cases h3:m.seq≤y.q
 ·exact C5 0 (by rw[bB.dK,gO,if_neg h1,if_neg h2,if_pos h3])
 by_cases h4:201<m.seq - y.q
 ·exact C5 7 (by rw[bB.dK,gO,if_neg h1,if_neg h2,if_neg h3,if_pos h4])
 have ht:0≤m.time∧m.time≤1099511627776:=by omega
 have key:∀L1:List bN,bB.dK y m=(0,(ez L1 y.q y.t).1,⟨(ez L1 y.q y.t).2.1,(ez L1 y.q y.t).2.2.1,(ez L1 y.q y.t).2.2.2⟩)→(∀x∈L1,x∈y.l∨x=m)→L1.length≤y.l.length+1→(nQ y.l→nQ L1)→D6 y m:=fun L1 h hm hl hd=>by
  have qU:∀x∈L1,x∈y.l∨(x=m∧0≤m.time∧m.time≤1099511627776):=fun x hx=>(hm x hx).imp id fun h=>⟨h,ht⟩
  refine⟨?_,?_,?_,?_,?_,?_⟩ <;> simp only[bB.heard,h]
  ·exact wS _ _ _ _
  ·have:=Ac (L1.length+1) L1 y.q y.t
   unfold ez
   omega
  ·exact fun x hx=>qU x ((tP _ _ _ _).subset hx)
  ·exact fun x hx=>qU x (Ab _ _ _ _ x hx)
  ·exact fun hy=>((tP _ _ _ _).map _).nodup (hd hy)
  ·rcases yq (L1.length+1) L1 y.q y.t with h5|⟨x,hx,h5⟩
   ·exact .inl h5
   ·exact .inr ⟨x,qU x hx,h5⟩
 cases hk:kept y.l m.seq with
 | none=>
  refine key (y.l++[m]) (by rw[bB.dK,gO,if_neg h1,if_neg h2,if_neg h3,if_neg h4];simp only[hk]) (fun x hx=>?_) (by simp) fun hd=>hd.app hk
  simpa using hx
 | some x=>exact key y.l (by rw[bB.dK,gO,if_neg h1,if_neg h2,if_neg h3,if_neg h4];simp only[hk]) (fun x hx=>.inl hx) (by omega) id
def iS (places:Nat) (base:List Int) (fm:Int) (L:List fG) (l:List bN):List fG:=l.foldl (fun L m=>if m.dW=false∧m.c.place=fm then sI places base L m.c else L) L
theorem HE (p:Nat) (base:List Int) (L:List fG) (c:bO):(sI p base L c).length≤L.length+12:=by
 unfold sI
 split
 ·rename_i h
  have:=(iy (lH.1 h).tg).o2
  simp[eM]
  omega
 ·omega
theorem HD {p:Nat} {base:List Int} {L:List fG} {c:bO} {q:fG} (h:q∈sI p base L c):q∈L∨(q.place=c.place∧q.when=c.when∧q.op∈c.ops∧(aY c).code=0∧c.when.length=p):=by
 unfold sI at h
 split at h
 ·rename_i hf
  have hc:=lH.1 hf
  rcases au.1 h with h|h
  ·exact .inl h
  ·obtain⟨o,ho,rfl⟩:=aB.1 h
   exact .inr ⟨rfl,rfl,ho,hc.tg,hc.len⟩
 ·exact .inl h
theorem vA {c:bO} {q:fG} (h1:q.place=c.place) (h2:q.when=c.when) (h3:q.op∈c.ops) (hc:(aY c).code=0):(aY (lI q)).code=0:=
 vV.fault ⟨h1,h2,by simp[lI],List.singleton_sublist.2 h3⟩ hc
theorem sr (p:Nat) (base:List Int) (fm:Int):∀(l:List bN) (L:List fG),(iS p base fm L l).length≤L.length+12*l.length
 | [],L=>by simp[iS]
 | m::l,L=>by
  have h1:=HE p base L m.c
  have e:iS p base fm L (m::l)=iS p base fm (if m.dW=false∧m.c.place=fm then sI p base L m.c else L) l:=rfl
  rw[e,eF]
  by_cases hm:m.dW=false∧m.c.place=fm
  ·rw[if_pos hm]
   have ih:=sr p base fm l (sI p base L m.c)
   omega
  ·rw[if_neg hm]
   have ih:=sr p base fm l L
   omega
theorem sq {p:Nat} {base:List Int} {fm:Int}:∀{l:List bN} {L:List fG} {q:fG},q∈iS p base fm L l→q∈L∨∃m∈l,m.dW=false∧m.c.place=fm∧q.place=m.c.place∧q.when=m.c.when∧q.op∈m.c.ops∧(aY m.c).code=0∧m.c.when.length=p
 | [],L,q,h=>.inl h
 | m::l,L,q,h=>by
  rcases sq (l:=l) (show q∈iS p base fm (if m.dW=false∧m.c.place=fm then sI p base L m.c else L) l from h)with h|⟨x,hx,h⟩
  ·split at h
   ·rename_i hm
    rcases HD h with h|⟨h1,h2,h3,h4,h5⟩
    ·exact .inl h
    ·exact .inr ⟨m,bl ..,hm.1,hm.2,h1,h2,h3,h4,h5⟩
   ·exact .inl h
  ·exact .inr ⟨x,bk _ hx,h⟩
def kB (x:fJ) (m:bN):Nat:=if m.fm<0∨x.places≤m.fm∨m.de<0∨x.ah≤m.de∨m.fm=x.id then 2 else if m.to≠x.id then 3 else 0
def sJ (x:fJ) (m:bN):Nat:=fZ x.id x.ah m.fm.toNat+m.de.toNat
def Gi (x:fJ) (m:bN) (q:Int):bN:=⟨x.id,m.fm,m.de,q,-1,false,⟨[],0,[]⟩⟩
def ep (x:fJ) (m:bN):Nat×List bN×fJ:=
 if kB x m≠0 then (kB x m,[],x)
 else if m.time = -1 then match x.ss[sJ x m]? with
  | none=>(0,[],x)
  | some y=>(oJ y.q m.seq,[],{ x with ss:=x.ss.set (sJ x m) (dL.Oe y m.seq) })
 else match x.rs[sJ x m]? with
  | none=>(0,[],x)
  | some y=>if (bB.dK y m).1≠0 then ((bB.dK y m).1,[],x)
   else (0,[Gi x m (bB.heard y m).q],{ x with rs:=x.rs.set (sJ x m) (bB.heard y m),L:=iS x.places x.base m.fm x.L (bB.dK y m).2.1 })
theorem iW.mono {x:fJ} {n k:Nat} (h:iW x n) (hk:n≤k):iW x k:=
 { h with tW:=by have:=h.tW;omega,snd:=fun s hs=>by have:=h.snd s hs;omega,vj:=fun r hr=>by have:=h.vj r hr;exact⟨this.1,by omega,this.2.2⟩ }
theorem mD {α:Type} {l:List α} {p:Nat} {a b:α} (h:b∈l.set p a):b∈l∨b=a:=by
 rcases jc h with h|h
 ·exact .inl h
 ·exact .inr h
theorem CN (q seq:Int) (L:List bN):(CO q seq L).Sublist L:=by
 unfold CO
 split
 ·exact dw
 ·exact .refl _
theorem KC {x:fJ} {n:Nat} {m:bN} (hx:iW x n) (hm:Fit m):iW (ep x m).2.2 (n+1):=by
 unfold ep
 split
 ·exact hx.mono (by omega)
 rename_i hw
 have hne:m.fm≠x.id:=by
  intro h0
  apply hw
  rw[kB,if_pos (by omega)]
  decide
 split
 ·split
  ·exact hx.mono (by omega)
  ·rename_i y hy
   have h0:=hx.mono (mm n)
   have hmem:=ae hy
   refine{ h0 with ss:=(qB (b:=dL.Oe y m.seq) hy rfl).trans h0.ss,snd:=fun s hs=>?_,way:=fun s hs=>?_,fit:=fun s hs z hz=>?_ }
   ·rcases mD hs with hs|rfl
    ·exact h0.snd s hs
    ·have:=h0.snd y hmem
     have h2:=(CN y.q m.seq y.l).length_le
     exact⟨this.1,this.2.1,this.2.2.1,this.2.2.2.1,aZ h2 this.2.2.2.2⟩
   ·rcases mD hs with hs|rfl
    ·exact h0.way s hs
    ·exact h0.way y hmem
   ·rcases mD hs with hs|rfl
    ·exact h0.fit s hs z hz
    ·exact h0.fit y hmem z ((CN y.q m.seq y.l).subset hz)
 ·split
  ·exact hx.mono (by omega)
  rename_i y hy
  split
  ·exact hx.mono (by omega)
  have h0:=hx.mono (mm n)
  have hmem:=ae hy
  have hh:=AV y m
  obtain⟨r1,r2,r3⟩:=hx.vj y hmem
  have EB:∀z,(z∈y.l∨(z=m∧0≤m.time∧m.time≤1099511627776))→0≤z.time∧z.time≤1099511627776∧Fit z:=fun z hz=>by
   rcases hz with hz|⟨rfl,h1,h2⟩
   ·exact hx.kept y hmem z hz
   ·exact⟨h1,h2,hm⟩
  refine{ h0 with rs:=(qB (b:=bB.heard y m) hy rfl).trans h0.rs,ts:=fun r hr=>?_,bF:=fun q hq hp=>?_,JL:=fun r hr=>?_,put:=fun q hq=>?_,vj:=fun r hr=>?_,kept:=fun r hr z hz=>?_,CW:=?_ }
  ·rcases mD hr with hr|rfl
   ·exact h0.ts r hr
   ·rcases hh.time with h1|⟨z,hz,h1⟩
    ·rw[h1]
     exact h0.ts y hmem
    ·rw[h1]
     exact⟨(EB z hz).1,(EB z hz).2.1⟩
  ·rcases sq hq with hq|⟨z,_,_,hz,h1,_⟩
   ·exact h0.bF q hq hp
   ·exact absurd (by rw[←hz,←h1];exact hp) hne
  ·rcases sq hq with hq|⟨z,_,_,_,h1,h2,h3,h4,h5⟩
   ·exact h0.put q hq
   ·exact⟨vA h1 h2 h3 h4,by rw[h2];exact h5⟩
  ·rcases mD hr with hr|rfl
   ·exact h0.JL r hr
   ·exact h0.JL y hmem
  ·rcases mD hr with hr|rfl
   ·exact h0.vj r hr
   ·have h1:=hh.q
    have h2:=hh.len
    exact⟨by omega,by omega,hh.Uw r3⟩
  ·rcases mD hr with hr|rfl
   ·exact h0.kept r hr z hz
   ·exact EB z (hh.left z hz)
  ·have h1:=sr x.places x.base m.fm (bB.dK y m).2.1 x.L
   have h2:=JU (b:=bB.heard y m) hy
   have h3:=hx.CW
   have h4:=hh.q
   show((iS x.places x.base m.fm x.L (bB.dK y m).2.1).length:Int)≤12*(x.clock+((x.rs.set (sJ x m) (bB.heard y m)).map (·.q)).sum)
   rw[h2]
   omega
def vR (x:fJ):fJ:={ x with ss:=x.ss.map fun y=>dL.dW y x.clock }
def iE (x:fJ):List bN:=x.ss.map fun y=>dL.kC y x.clock
def EM (x:fJ):List bN:=(x.ss.map (·.l)).flatten
theorem K8 {x:fJ} {n:Nat} (hx:iW x n):iW (vR x) (n+1):=by
 have h0:=hx.mono (mm n)
 refine{ h0 with ss:=?_,snd:=fun s hs=>?_,way:=fun s hs=>?_,fit:=fun s hs z hz=>?_ }
 ·show(x.ss.map fun y=>dL.dW y x.clock).map fJ.pair=_
  rw[fc]
  exact h0.ss
 ·obtain⟨y,hy,rfl⟩:=aB.1 hs
  have:=hx.snd y hy
  refine⟨this.1,fq _,?_,?_,?_⟩
  ·show 0≤y.q+1
   omega
  ·show y.q+1≤_
   omega
  ·show(y.l++_).length≤_
   simp
   omega
 ·obtain⟨y,hy,rfl⟩:=aB.1 hs
  exact hx.way y hy
 ·obtain⟨y,hy,rfl⟩:=aB.1 hs
  rcases au.1 hz with hz|hz
  ·exact hx.fit y hy z hz
  ·obtain rfl:=ay.1 hz
   simp[Fit,dL.kC]
theorem IP {x:fJ} {n:Nat} {at':List Int} {ops:List fP} (hx:iW x n) (h:(gY x at' ops).code=0) (hd:∀o∈ops,o.bF.length≤1000000):iW (p4 x (bI x at' ops)) (n+1):=by
 have h0:=hx.mono (mm n)
 obtain⟨h1,h2,h3⟩:=p5 h
 obtain⟨_,h4,_⟩:=od h1
 have kT:=hx.id
 have hw:=sG (ops:=ops) (by omega:x.id<at'.length)
 have hr:=iy h3
 have xZ:(bI x at' ops).when.length=x.places:=by simp[bI,h4]
 have hc:=hx.tW
 have hc0:=hx.c0
 have y9:=hx.p6
 refine{ h0 with c0:=?_,c1:=?_,ss:=?_,tW:=?_,NK:=?_,bF:=fun q hq hp=>?_,put:=fun q hq=>?_,snd:=fun s hs=>?_,way:=fun s hs=>?_,fit:=fun s hs z hz=>?_,CW:=?_ }
 ·show 0≤x.clock+1
  omega
 ·show x.clock+1≤_
  omega
 ·show(x.ss.map (pL x.ah (bI x at' ops))).map fJ.pair=_
  rw[fc]
  refine Eq.trans (cB fun y _=>?_) h0.ss
  show fJ.pair (pL x.ah (bI x at' ops) y)=_
  unfold pL
  split <;> rfl
 ·show x.clock+1≤_
  omega
 ·have:=hx.NK
  show x.base.getD x.id 0≤x.clock+1
  omega
 ·show q.when.getD x.id 0≤x.clock+1
  rcases au.1 hq with hq|hq
  ·have:=hx.bF q hq hp
   omega
  ·obtain⟨o,ho,rfl⟩:=aB.1 hq
   show(bI x at' ops).when.getD x.id 0≤_
   omega
 ·rcases au.1 hq with hq|hq
  ·exact hx.put q hq
  ·obtain⟨o,ho,rfl⟩:=aB.1 hq
   exact⟨vA rfl rfl ho h3,xZ⟩
 ·obtain⟨y,hy,rfl⟩:=aB.1 hs
  have Jx:=hx.snd y hy
  unfold pL
  split
  ·refine⟨Jx.1,?_,Jx.2.2.1,by omega,by omega⟩
   show y.t≤x.clock+1
   omega
  ·refine⟨Jx.1,?_,?_,?_,?_⟩
   ·show(bI x at' ops).when.getD (x.id:Int).toNat 0≤x.clock+1
    rw[aR,hw]
    exact fq _
   ·show 0≤y.q+1
    omega
   ·show y.q+1≤_
    omega
   ·show(y.l++_).length≤_
    simp
    omega
 ·obtain⟨y,hy,rfl⟩:=aB.1 hs
  have:=hx.way y hy
  unfold pL
  split <;> exact this
 ·obtain⟨y,hy,rfl⟩:=aB.1 hs
  unfold pL at hz
  split at hz
  ·exact hx.fit y hy z hz
  ·rcases au.1 hz with hz|hz
   ·exact hx.fit y hy z hz
   ·obtain rfl:=ay.1 hz
    refine⟨?_,?_,fun o ho=>?_⟩
    ·show(bI x at' ops).when.length≤_
     omega
    ·have h5:(ei x.ah (bI x at' ops) y.sh).ops.length≤(bI x at' ops).ops.length:=cH _ _
     have h6:=hr.o2
     show(ei x.ah (bI x at' ops) y.sh).ops.length≤_
     omega
    ·exact oz hd o (aP.1 ho).1
 ·have h5:=hx.CW
  have h6:=hr.o2
  show((x.L++eM (bI x at' ops) (bI x at' ops).ops).length:Int)≤12*(x.clock+1+(x.rs.map (·.q)).sum)
  simp only[bA,eM,aA]
  omega
end Go.Proofs.YtmkapocibaojdaaGreatDoor
end
section
namespace Go.Proofs.YtmkapocibaojdaaGreatDoor
open Go Go.Sx
set_option maxHeartbeats 4000000 in
theorem To {w0:World} {S:Nat→Prop} {M:List Nat} {b mb:Nat} {fm to sh q t:Int} (hP:Pre w0 S M [bL b (.cells #[.int .i64 fm,.int .i64 to,.int .i64 sh,.int .i64 q,.int .i64 t,.map (some mb)] 227 (0,0))]) :
  Calls Tryz.prog 93 #[.pointer (some ⟨b,0,none⟩)] w0 fun e w'=>cQ M w0 S w' e (.int .i64 q) [bL b (.cells #[.int .i64 fm,.int .i64 to,.int .i64 sh,.int .i64 q,.int .i64 t,.map (some mb)] 227 (0,0))] []:=by
 refine pW Tryz.func93 UF (args:=[.pointer (some ⟨b,0,none⟩)]) (S:=S) (C:=[bL b (.cells #[.int .i64 fm,.int .i64 to,.int .i64 sh,.int .i64 q,.int .i64 t,.map (some mb)] 227 (0,0))]) (G:=[]) (by kernel_rfl) hP (.nil _ _) ?_
 refine fh 0 rfl ?_
 refine Zs [zR 0] [] [zI 2 0] ?_
 refine Zs (bh 0 3++[.rd 3 [.o 0 none] 0 0,zR 4]) [0] [zI 2 q] ?_
 refine Yr [[]] (nI q) fun a w s=>?_
 exact(s.dY 0 rfl).ret (by simp) [0] [] rfl rfl
end Go.Proofs.YtmkapocibaojdaaGreatDoor
end
section
namespace Go.Proofs.YtmkapocibaojdaaGreatDoor
open Go Go.Sx
section Mh
variable {w:World} {S:Nat→Prop} {M:List Nat} {er:Nat→Addr} {eb:Nat→Array Value×TypeId} {bs:List Nat} {ss:List dL} {rs:List bB} {p b:Nat}
theorem JZ {y:dL} {time:Int} (hC:cm w S .nilIface (dC er eb)) (hP:Pre w S M [dN bs ss]) (hb:bs[p]?=some b) (hy:ss[p]?=some y) (qj:0≤y.q) (wF:y.q<1000000) (hL:y.l.length<1000000) (hf:lQ y.t time=0) :
  Calls Tryz.prog 90 #[.pointer (some ⟨b,0,none⟩),.int .i64 time] w fun e w'=>∃u1 d1 u2 d2,
   cQ M w S w' e (.tuple #[y6 (dL.kC y time) (.slice u1 0 d1) (.slice u2 0 d2),.nilIface]) [dN bs (ss.set p (dL.dW y time))] [(.slice u1 0 d1,aS []),(.slice u2 0 d2,.sl 7 (([]:List fP).map fe))]:=by
 obtain⟨M1,yh,rG⟩:=hP.take (lY hb hy)
 obtain⟨v,_,_,A1⟩:=yh.sU
 refine(Px hC A1 qj wF hL).mono ?_
 rintro e w' (⟨h,_⟩|⟨_,a',k',c',u1,d1,u2,d2,hR⟩)
 ·exact absurd hf h
 ·refine⟨u1,d1,u2,d2,?_⟩
  have h3:cQ M1 w S w' e _ [CC (b,dL.dW y time)] _:=hR.nY (a',k',c') trivial fun _ h=>by cases h
  rw[dN,←rX (f:=CC) hb]
  exact rG h3
theorem Mk {y:dL} {seq:Int} (hC:cm w S .nilIface (dC er eb)) (hP:Pre w S M [dN bs ss]) (hb:bs[p]?=some b) (hy:ss[p]?=some y) (hL:y.l.length≤1000000) :
  Calls Tryz.prog 91 #[.pointer (some ⟨b,0,none⟩),.int .i64 seq] w fun e w'=>∃v,cQ M w S w' e v [dN bs (ss.set p (dL.Oe y seq))] []∧lq 390 er (oJ y.q seq) v:=by
 obtain⟨M1,yh,rG⟩:=hP.take (lY hb hy)
 obtain⟨v,_,_,A1⟩:=yh.sU
 refine(Mt hC A1 hL).mono ?_
 rintro e w' ⟨a',k',c',v,hR,hv⟩
 refine⟨v,?_,hv⟩
 have h3:cQ M1 w S w' e _ [CC (b,dL.Oe y seq)] _:=hR.nY (a',k',c') trivial fun _ h=>by cases h
 rw[dN,←rX (f:=CC) hb]
 exact rG h3
theorem J6 {y:bB} {m:bN} {a1 a2:Option Addr} {n1 c1 n2 c2:Nat} (hC:cm w S .nilIface (dC er eb)) (hP:Pre w S M [c8 bs rs]) (hb:bs[p]?=some b) (hy:rs[p]?=some y) (hd:nQ y.l) (h1:cm w S (.slice a1 n1 c1) (aS m.c.when)) (h2:cm w S (.slice a2 n2 c2) (.sl 7 (m.c.ops.map fe))) (ja:m.c.when.length≤1000000) (kS:m.c.ops.length≤1000000) (qE:∀o∈m.c.ops,o.bF.length≤1000000)
  (qj:0≤y.q) (wF:y.q+y.l.length<1000000) (GD:-9223372036854775808≤m.seq∧m.seq≤9223372036854775807) :
  Calls Tryz.prog 92 #[.pointer (some ⟨b,0,none⟩),y6 m (.slice a1 n1 c1) (.slice a2 n2 c2)] w fun e w'=>∃a' n' c' v,
   cQ M w S w' e (.tuple #[.slice a' n' c',v]) [c8 bs (rs.set p (bB.heard y m))] [(.slice a' n' c',.sl 9 ((bB.dK y m).2.1.map fC))]∧lq 390 er (bB.dK y m).1 v:=by
 obtain⟨M1,yh,rG⟩:=hP.take (lY hb hy)
 obtain⟨mb,_,_,A1⟩:=yh.sU
 refine(dK (m:=m) hC A1 hd h1 h2 ja kS qE qj wF GD).mono ?_
 rintro e w' ⟨a',n',c',v,hR,hv⟩
 refine⟨a',n',c',v,?_,hv⟩
 have h3:cQ M1 w S w' e _ [DX (b,bB.heard y m)] _:=hR.nY mb trivial fun _ h=>by cases h
 rw[c8,←rX (f:=DX) hb]
 exact rG h3
theorem Mw {y:bB} (hP:Pre w S M [c8 bs rs]) (hb:bs[p]?=some b) (hy:rs[p]?=some y) :
  Calls Tryz.prog 93 #[.pointer (some ⟨b,0,none⟩)] w fun e w'=>cQ M w S w' e (.int .i64 y.q) [c8 bs rs] []:=by
 obtain⟨M1,yh,rG⟩:=hP.take (lY hb hy)
 obtain⟨mb,_,_,A1⟩:=yh.sU
 obtain⟨M2,Um,Nt⟩:=A1.Es
 refine(To Um).mono ?_
 rintro e w' hR
 have h3:cQ M1 w S w' e _ [DX (b,y)] _:=(Nt hR).nY mb trivial fun _ h=>by cases h
 have h4:=rG h3
 rwa[rX (f:=DX) hb,kG hy]at h4
end Mh
end Go.Proofs.YtmkapocibaojdaaGreatDoor
end
