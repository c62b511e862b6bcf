/- Part 6 of the texts of a claim: CmpD ListF SortK SortAt Ops Kind. -/
import Derived.Shelf.SlSortCmp.InsertionK
import Derived.Test.YtmkapocibaojdaaGreatDoorShelf
import Derived.Test.YtmkapocibaojdaaGreatDoorTr5
open Array renaming getElem?_append → iY, getElem?_eq_getElem → fR, getElem?_eq_none → iF, getElem?_eq_some_iff → bJ, getElem?_modify → fV, getElem?_toList → kx
open ByteArray renaming mk → aL
open List renaming append_assoc → bY, append_nil → bf, drop_drop → fH, eq_nil_of_length_eq_zero → ct, ext_getElem? → eH, filter_append → dm, filter_eq_self → fk, filter_sublist → dw, finRange → iI, flatten_cons → cr, getD_eq_getElem?_getD → aO, getElem?_drop → cq, getElem?_eq_getElem → ak, getElem?_eq_none → cO, getElem?_eq_some_iff → ai, getElem?_inj → dQ, getElem?_map → aF, getElem?_of_mem → aJ, getElem?_take → cL, getElem_mem → cz, length_append → bA, length_cons → eF, length_drop → gm, length_filter_le → cH, length_map → aA, length_set → jg, length_take → bp, map → aj, map_append → bw, map_cons → cj, map_eq_nil_iff → cM, map_nil → gy, map_set → mS, map_take → jt, mem_append → au, mem_map → aB, mem_of_getElem? → ae, mem_of_mem_take → jo, mem_singleton → ay, mergeSort_perm → gB, take → bZ, take_add_one → cV, take_length → iP, take_of_length_le → br
open Nat renaming add_mul → jR, add_zero → dZ, div_add_mod → lV, div_lt_of_lt_mul → jl, eq_zero_or_pos → iX, le_refl → aX, le_trans → aZ, lt_of_lt_of_le → ej, mod_lt → l8, mul_comm → fN, mul_le_mul_right → cD, one_mul → nK, succ_mul → j1, zero_add → aK, zero_le → eo
open Option renaming map_eq_some_iff → aI, map_some → dU
section
namespace Go.Proofs.YtmkapocibaojdaaGreatDoor
open Go Go.Sx
set_option maxHeartbeats 4000000 in
theorem isNaN {w:World} {S:Nat→Prop} {x:Int}:Calls Tryz.prog 219 #[.int .i64 x] w fun e w'=>cQ [] w S w' e (.bool false) [] []:=by
 refine jL Tryz.func219 Q1 (args:=[.int .i64 x]) (S:=S) (G:=[]) (by kernel_rfl) (.nil _ _) ?_
 refine Zs [zR 0] [] [zB 2 false] ?_
 refine Zs (bh 0 4) [0] [zB 2 (x != x)] ?_
 refine Yr [[]] (.bool (x != x)) fun a w s=>?_
 have e1:false=!decide (x=x):=by simp
 rw[e1]
 exact s.ret (by simp) [] [] rfl rfl
set_option maxHeartbeats 4000000 in
theorem DR {w:World} {S:Nat→Prop} {x y:Int}:Calls Tryz.prog 199 #[.int .i64 x,.int .i64 y] w fun e w'=>cQ [] w S w' e (.int .i64 (gZ x y)) [] []:=by
 refine jL Tryz.func199 Q8 (args:=[.int .i64 x,.int .i64 y]) (S:=S) (G:=[]) (by kernel_rfl) (.nil _ _) ?_
 refine Zs [zR 0] [] [zI 4 0] ?_
 refine jS [(0,true),(1,false),(2,true)] [] ?_
 refine Ya [zR 0] [] [zI 7 x] ?_
 refine Yc 219 #[nI x] (some 8) fun w S hG=>?_
 refine(isNaN (S:=S)).mono ?_
 rintro e1 w1 hR
 refine⟨_,_,_,hR,?_⟩
 try simp only[aQ]
 refine Ya [zR 2] [8,7] [zB 5 false] ?_
 refine aC ?_
 refine jS [(0,true),(1,false),(2,true)] [] ?_
 refine Ya [zR 0] [] [zI 9 y] ?_
 refine Yc 219 #[nI y] (some 10) fun w S hG=>?_
 refine(isNaN (S:=S)).mono ?_
 rintro e2 w2 hR
 refine⟨_,_,_,hR,?_⟩
 try simp only[aQ]
 refine Ya [zR 2] [10,9] [zB 6 false] ?_
 refine aC (aq ?_)
 refine Zs [zR 0] [5] [zB 11 false] ?_
 refine cF ?_
 refine aG (aq ?_)
 refine Zs [zR 0] [11,6] [zB 13 false] ?_
 refine cF ?_
 refine aG (aq ?_)
 refine Zs (bh 0 3) [13] [zB 16 (decide (x<y))] ?_
 refine cC (t:=decide (x<y)) (fun h1=>?_) (fun h1=>?_)
 ·refine aq ?_
  refine Za [zR 0] [16] [zI 4 (-1)] ?_
  refine Yr [[]] (nI (-1)) fun a w s=>?_
  have e3:gZ x y = -1:=by simp at h1;simp[gZ,h1]
  rw[e3]
  exact s.ret (by simp) [] [] rfl rfl
 ·refine aG ?_
  refine aq ?_
  refine Zs (bh 0 3) [16,0,1] [zB 19 (decide (x>y))] ?_
  refine cC (t:=decide (x>y)) (fun h2=>?_) (fun h2=>?_)
  ·refine aq ?_
   refine Za [zR 0] [19] [zI 4 1] ?_
   refine Yr [[]] (nI 1) fun a w s=>?_
   have e3:gZ x y=1:=by simp at h1 h2;rw[gZ,if_neg (by omega),if_pos (by omega)]
   rw[e3]
   exact s.ret (by simp) [] [] rfl rfl
  ·refine aG ?_
   refine Zs [zR 0] [19] [] ?_
   refine Yr [[]] (nI 0) fun a w s=>?_
   have e3:gZ x y=0:=by simp at h1 h2;rw[gZ,if_neg (by omega),if_neg (by omega)]
   rw[e3]
   exact s.ret (by simp) [] [] rfl rfl
set_option maxHeartbeats 4000000 in
theorem Vn {w:World} {S:Nat→Prop} {a:Option Addr} {n c:Nat} {xs:List Int} (ha:cm w S (.slice a n c) (aS xs)) (hl:xs.length≤1000000) :
  Calls Tryz.prog 198 #[.slice a n c] w fun e w'=>cQ [] w S w' e (.int .i64 (Dn xs)) [] []:=by
 obtain rfl:=dJ ha
 refine jL Tryz.func198 Q9 (args:=[.slice a xs.length c]) (G:=[(_,aS xs)]) (by kernel_rfl) (.cons ha (.nil _ _)) ?_
 refine Zs [zR 0] [] [zI 2 0] ?_
 refine Zs [zR 0] [] [zI 3 0] ?_
 refine aq ?_
 refine Zs (bh 0 3) [0] [zS 6 a xs.length c,zI 7 (↑xs.length:Int),zI 8 0] ?_
 refine aM ?_
 refine cU (fun i:Int=>[zI 2 0,zI 3 0,zS 6 a xs.length c,zI 7 (↑xs.length:Int),zI 8 i]) (fun i:Int=>[]) (fun i:Int=>[]) (fun i:Int=>[(.slice a xs.length c,(aS xs))]) (fun i:Int=>(xs.length - i).toNat) (fun i:Int=>(0≤i∧i≤xs.length∧∀j:Nat,j<i.toNat→∀t,xs[j]?=some t→t=0)) 0 [2,3,6,7,8] [] [] [0] ?_ (by kernel_rfl) rfl rfl rfl ?_
 ·exact⟨by simp,by omega,by simp⟩
 rintro i ⟨hi0,hi,hno⟩
 refine Zs [zR 0] [] [zB 9 (decide (i<(↑xs.length:Int)))] ?_
 refine aq ?_
 refine cC (t:=decide (i<(↑xs.length:Int))) (fun hlt=>?_) (fun hlt=>?_)
 ·have fa:i<xs.length:=by simpa using hlt
  obtain⟨x,hx⟩:∃x,xs[i.toNat]?=some x:=⟨_,ak (by omega)⟩
  refine gr 0 rfl i.toNat (dD hx) (by kernel_rfl) (fun b1 fu uf vi vm ha1 cP=>?_)
  cases ha1
  have cg:=oO (cP 0 _ rfl)
  try simp only[aQ]
  refine aG (aq (aM ?_))
  refine Zt [.rd 0 [] 0 2,.rd 1 [.r 0 (some (nI x))] 0 0,zR 2] [9] [zI 5 x] (oC hi0 (oC fa (oC cg oN))) ?_
  refine Zs (bh 0 3) [] [zB 14 (x != 0)] ?_
  refine cC (t:=x != 0) (fun hb=>?_) (fun hb=>?_)
  ·refine aq ?_
   refine Za [zR 0,zR 1] [14] [zI 2 x] ?_
   refine Yr [[]] (nI x) fun a w s=>?_
   rw[HJ hno hx (by simpa using hb)]
   exact s.ret (by simp) [] [] rfl rfl
  ·refine aG ?_
   refine eu ?_
   refine Zp [.rd 0 [] 0 1,zR 1] [14] [zI 8 (i+1)] (oC (show IntKind.i64.wrap (i+1)=i+1 from wrap_i64 (by omega) (by omega)) oN) ?_
   refine bC (i+1) [2,3,6,7,8] [] [] [0] ?_ ?_ (by kernel_rfl) rfl rfl rfl
   ·refine⟨by omega,by omega,fun j hj t ht=>?_⟩
    by_cases uO:j=i.toNat
    ·subst uO
     rw[hx]at ht
     cases ht
     simpa using hb
    ·exact hno j (by omega) t ht
   ·omega
 ·refine dO rfl ?_
  refine Zs [zR 0,zR 1] [9,3,6,7,8] [] ?_
  refine Yr [[]] (nI 0) fun a w s=>?_
  rw[B2 fun j t ht=>hno j (by have:=(ai.1 ht).1;simp at hlt;omega) t ht]
  exact s.ret (by simp) [] [] rfl rfl
end Go.Proofs.YtmkapocibaojdaaGreatDoor
namespace Go.Proofs.YtmkapocibaojdaaGreatDoor
open Go Go.Sx
abbrev yB (x:bE) (v:Value):Value:=.agg #[.int .i64 x.o.no,.string x.o.key,.int .i64 x.o.kind,.string x.o.text,.int .i64 x.o.n,.bool x.o.remove,v,.int .i64 x.d.place,.int .i64 x.d.time,.int .i64 x.d.no,.int .i64 x.w]
abbrev F1 (d:gi):Value:=.agg #[.int .i64 d.place,.int .i64 d.time,.int .i64 d.no]
set_option maxHeartbeats 4000000 in
theorem K4 {w:World} {S:Nat→Prop} {x y:bE} {v1 v2:Value} (_:v1.oneCell'=true) (_:v2.oneCell'=true):Calls Tryz.prog 197 #[yB x v1,yB y v2] w fun e w'=>cQ [] w S w' e (.int .i64 (uX x y)) [] []:=by
 refine jL Tryz.func197 Ra (args:=[yB x v1,yB y v2]) (S:=S) (G:=[]) (by kernel_rfl) (.nil _ _) ?_
 refine Zv [.wr 0 [] 0,.wr 1 [] 0,zR 2] [] [0,1] (fun aN=>[zP 2 (aN 0),zP 3 (aN 1),zI 4 0]) o0 (fun aN=>[(aN 0,.cells #[nI x.o.no,.string x.o.key,nI x.o.kind,.string x.o.text,nI x.o.n,.bool x.o.remove,v1,nI x.d.place,nI x.d.time,nI x.d.no,nI x.w] 271 (0,0)),(aN 1,.cells #[nI y.o.no,.string y.o.key,nI y.o.kind,.string y.o.text,nI y.o.n,.bool y.o.remove,v2,nI y.d.place,nI y.d.time,nI y.d.no,nI y.w] 271 (0,0))]) (fun aN=>?_)
 refine jS [(0,true),(1,true),(2,true),(3,true),(5,true),(6,true),(7,true),(8,true),(9,true),(10,true),(12,true),(13,true),(14,true),(15,true),(16,true),(17,true),(19,true),(20,true),(21,true),(22,true),(23,true),(24,true),(4,false),(11,false),(18,false),(25,false),(26,false),(27,false),(28,true)] [] ?_
 refine Ya [zR 0,.rd 1 [.o 0 none] 0 0,zR 2,.rd 3 [.o 1 none] 0 0,zR 5,zR 6,.rd 7 [.o 0 none] 0 0,zR 8,zR 9,.rd 10 [.o 1 none] 0 0,zR 12,zR 13,.rd 14 [.o 0 none] 0 0,zR 15,zR 16,.rd 17 [.o 1 none] 0 0,zR 19,zR 20,.rd 21 [.o 0 none] 0 0,zR 22,zR 23,.rd 24 [.o 1 none] 0 0] [2,3] [zI 6 x.w,zI 8 y.w,zI 12 x.d.place,zI 15 y.d.place,zI 19 x.d.time,zI 22 y.d.time,zI 26 x.d.no,zI 29 y.d.no] ?_
 all_goals first|assumption|skip
 refine Yc 199 #[nI x.w,nI y.w] (some 9) fun w S hG=>?_
 refine(DR (S:=S)).mono ?_
 rintro e1 w1 hR
 refine⟨_,_,_,hR,?_⟩
 try simp only[aQ]
 refine Yc 199 #[nI x.d.place,nI y.d.place] (some 16) fun w S hG=>?_
 refine(DR (S:=S)).mono ?_
 rintro e2 w2 hR
 refine⟨_,_,_,hR,?_⟩
 try simp only[aQ]
 refine Yc 199 #[nI x.d.time,nI y.d.time] (some 23) fun w S hG=>?_
 refine(DR (S:=S)).mono ?_
 rintro e3 w3 hR
 refine⟨_,_,_,hR,?_⟩
 try simp only[aQ]
 refine Yc 199 #[nI x.d.no,nI y.d.no] (some 30) fun w S hG=>?_
 refine(DR (S:=S)).mono ?_
 rintro e4 w4 hR
 refine⟨_,_,_,hR,?_⟩
 try simp only[aQ]
 refine Ym [.wr 26 [] 0] [30,23,16,9,6,8,12,15,19,22,26,29] (fun dy=>[zS 31 (sA (dy 0) 0) 4 4]) o0 (fun dy=>[(dy 0,.cells #[nI (gZ x.w y.w),nI (gZ x.d.place y.d.place),nI (gZ x.d.time y.d.time),nI (gZ x.d.no y.d.no)] 3 (0,0))]) [] (fun dy=>?_)
 refine Bj (size:=1) 2 eI [gZ x.w y.w,gZ x.d.place y.d.place,gZ x.d.time y.d.time,gZ x.d.no y.d.no] 4 rfl (by kernel_rfl) (by decide) (by intro x _;rfl) (by simp) ⟨.inl ⟨rfl,rfl⟩,⟨.inl ⟨rfl,rfl⟩,⟨.inl ⟨rfl,rfl⟩,⟨.inl ⟨rfl,rfl⟩,trivial⟩⟩⟩⟩ ?_
 refine Yc 198 #[.slice (sA (dy 0) 0) 4 4] (some 32) fun w S hG=>?_
 refine(Vn (hG.at 0 rfl) (by simp)).mono ?_
 rintro e7 w7 hR
 refine⟨_,_,_,hR,?_⟩
 try simp only[aQ]
 refine Ya [zR 28] [32,31] [zI 4 (Dn [gZ x.w y.w,gZ x.d.place y.d.place,gZ x.d.time y.d.time,gZ x.d.no y.d.no])] ?_
 refine aC ?_
 refine Yr [[]] (nI (Dn [gZ x.w y.w,gZ x.d.place y.d.place,gZ x.d.time y.d.time,gZ x.d.no y.d.no])) fun a w s=>?_
 exact s.ret (by simp) [] [] rfl rfl
set_option maxHeartbeats 4000000 in
theorem NC {w:World} {S:Nat→Prop} {x y:gi}:Calls Tryz.prog 211 #[F1 x,F1 y] w fun e w'=>cQ [] w S w' e (.int .i64 (yA x y)) [] []:=by
 refine jL Tryz.func211 Q5 (args:=[F1 x,F1 y]) (S:=S) (G:=[]) (by kernel_rfl) (.nil _ _) ?_
 refine Zv [.wr 0 [] 0,.wr 1 [] 0,zR 2] [] [0,1] (fun aN=>[zP 2 (aN 0),zP 3 (aN 1),zI 4 0]) o0 (fun aN=>[(aN 0,.cells #[nI x.place,nI x.time,nI x.no] 177 (0,0)),(aN 1,.cells #[nI y.place,nI y.time,nI y.no] 177 (0,0))]) (fun aN=>?_)
 refine jS [(0,true),(1,true),(2,true),(3,true),(5,true),(6,true),(7,true),(8,true),(10,true),(11,true),(12,true),(13,true),(4,false),(9,false),(14,false),(15,false),(16,false),(17,true)] [] ?_
 refine Ya [zR 0,.rd 1 [.o 0 none] 0 0,zR 2,.rd 3 [.o 1 none] 0 0,zR 5,.rd 6 [.o 0 none] 0 0,zR 7,.rd 8 [.o 1 none] 0 0,zR 10,.rd 11 [.o 0 none] 0 0,zR 12,.rd 13 [.o 1 none] 0 0] [2,3] [zI 6 x.place,zI 8 y.place,zI 11 x.time,zI 13 y.time,zI 16 x.no,zI 18 y.no] ?_
 refine Yc 199 #[nI x.place,nI y.place] (some 9) fun w S hG=>?_
 refine(DR (S:=S)).mono ?_
 rintro e1 w1 hR
 refine⟨_,_,_,hR,?_⟩
 try simp only[aQ]
 refine Yc 199 #[nI x.time,nI y.time] (some 14) fun w S hG=>?_
 refine(DR (S:=S)).mono ?_
 rintro e2 w2 hR
 refine⟨_,_,_,hR,?_⟩
 try simp only[aQ]
 refine Yc 199 #[nI x.no,nI y.no] (some 19) fun w S hG=>?_
 refine(DR (S:=S)).mono ?_
 rintro e3 w3 hR
 refine⟨_,_,_,hR,?_⟩
 try simp only[aQ]
 refine Ym [.wr 15 [] 0] [19,14,9,6,8,11,13,16,18] (fun dy=>[zS 20 (sA (dy 0) 0) 3 3]) o0 (fun dy=>[(dy 0,.cells #[nI (gZ x.place y.place),nI (gZ x.time y.time),nI (gZ x.no y.no)] 3 (0,0))]) [] (fun dy=>?_)
 refine Bj (size:=1) 2 eI [gZ x.place y.place,gZ x.time y.time,gZ x.no y.no] 3 rfl (by kernel_rfl) (by decide) (by intro x _;rfl) (by simp) ⟨.inl ⟨rfl,rfl⟩,⟨.inl ⟨rfl,rfl⟩,⟨.inl ⟨rfl,rfl⟩,trivial⟩⟩⟩ ?_
 refine Yc 198 #[.slice (sA (dy 0) 0) 3 3] (some 21) fun w S hG=>?_
 refine(Vn (hG.at 0 rfl) (by simp)).mono ?_
 rintro e7 w7 hR
 refine⟨_,_,_,hR,?_⟩
 try simp only[aQ]
 refine Ya [zR 17] [21,20] [zI 4 (Dn [gZ x.place y.place,gZ x.time y.time,gZ x.no y.no])] ?_
 refine aC ?_
 refine Yr [[]] (nI (Dn [gZ x.place y.place,gZ x.time y.time,gZ x.no y.no])) fun a w s=>?_
 exact s.ret (by simp) [] [] rfl rfl
end Go.Proofs.YtmkapocibaojdaaGreatDoor
end
section
namespace Go.Proofs.YtmkapocibaojdaaGreatDoor
open Go Go.Sx Go.MapKept
def dA (v:Value):Prop:=∃a b c:Int,v=.agg #[.int .i64 a,.int .i64 b,.int .i64 c]
theorem AE (n:Nat) (a b c:Int):Instr.sameBits (n+2) (.agg #[.int .i64 a,.int .i64 b,.int .i64 c]) (.agg #[.int .i64 a,.int .i64 b,.int .i64 c])=true:=by
 simp[Instr.sameBits]
set_option maxHeartbeats 4000000 in
theorem Bb (e:Bool) (n:Nat) (a b c:Int) (w:World):(Instr.checkKey e (n+2) 177 (.agg #[.int .i64 a,.int .i64 b,.int .i64 c])).run Tryz.prog w=.ok () w:=by
 have hi:∀(x:Int) w,(Instr.checkKey e (n+1) 3 (.int .i64 x)).run Tryz.prog w=.ok () w:=fun x w=>run_checkKey Tryz.underlying3 (by simp[IsKey]) e n
 rw[Instr.checkKey]
 simp[run_underlying Tryz.underlying177,hi,LF Tryz.underlying3,Result.andThen]
theorem gC:qb Tryz.prog 9 (IsKey .string):=.plain Tryz.underlying9
theorem jC:qb Tryz.prog 177 dA:=by
 refine .NM Tryz.underlying177 (fun x y _ _=>rfl) (fun e k hk w=>?_) (fun x y hx hy=>?_) fun k hk=>?_
 ·obtain⟨a,b,c,rfl⟩:=hk
  exact Bb e 9998 a b c w
 ·obtain⟨a,b,c,rfl⟩:=hx
  obtain⟨a',b',c',rfl⟩:=hy
  refine⟨decide (a=a'∧b=b'∧c=c'),fun w=>QN 9998 a b c a' b' c' w,?_⟩
  simp
 ·obtain⟨a,b,c,rfl⟩:=hk
  exact AE 9998 a b c
end Go.Proofs.YtmkapocibaojdaaGreatDoor
namespace Go.Proofs.YtmkapocibaojdaaGreatDoor
open Go Go.Sx
def rK (l:List bO):Nat:=match l with
 | []=>0
 | c::_=>c.when.length
def gX (l:List bO) (i:Nat):Nat:=match l[i]? with
 | none=>0
 | some c=>if (aY c).code≠0 then (aY c).code else if c.when.length≠rK l then 3 else 0
def oZ (f:Nat→Nat):Nat→Nat→FT
 | 0,_=>⟨0,-1⟩
 | n+1,i=>if f i=0 then oZ f n (i+1)else ⟨f i,i⟩
theorem lZ {f:Nat→Nat}:∀(n k i:Nat),k≤i→(∀j,k≤j→j<i→f j=0)→(i=k+n→oZ f n k=⟨0,-1⟩)∧(i<k+n→f i≠0→oZ f n k=⟨f i,i⟩)
 | 0,k,i,hk,_=>⟨fun _=>rfl,fun h=>by omega⟩
 | n+1,k,i,hk,h=>by
  rcases Nat.eq_or_lt_of_le hk with rfl|hlt
  ·refine⟨fun he=>by omega,fun _ hne=>?_⟩
   rw[oZ,if_neg hne]
  ·obtain⟨h1,h2⟩:=lZ n (k+1) i hlt fun j JD hj2=>h j (by omega) hj2
   rw[oZ,if_pos (h k (aX _) hlt)]
   exact⟨fun he=>h1 (by omega),fun he=>h2 (by omega)⟩
def k6 (l:List bO):FT:=oZ (gX l) l.length 0
def cZ (key:ByteArray) (l:List bO):FT:=if dS key=false then ⟨4,-1⟩else k6 l
theorem nV {l:List bO} {i:Nat} {k:Nat} (h:∀j,j<i→gX l j=0) (hi:i<l.length) (hk:gX l i=k) (h0:k≠0):k6 l=⟨k,i⟩:=by
 rw[k6,(lZ l.length 0 i (eo _) fun j _ hj=>h j hj).2 (by omega) (by rw[hk];exact h0),hk]
theorem ru {l:List bO} (h:∀j,j<l.length→gX l j=0):k6 l=⟨0,-1⟩:=
 (lZ l.length 0 l.length (eo _) fun j _ hj=>h j hj).1 (by omega)
theorem xJ {l:List bO} (h:(k6 l).code=0):∀j,j<l.length→gX l j=0:=by
 intro j
 induction j using Nat.strongRecOn with
 | ind j ih=>
  intro hj
  rcases iX (gX l j)with h0|h0
  ·exact h0
  ·have:=nV (fun i hi=>ih i hi (by omega)) hj rfl (by omega)
   rw[this]at h
   exact h
theorem uZ {l:List bO} {i:Nat} {c:bO} (h:l[i]?=some c) (he:(aY c).code≠0):gX l i=(aY c).code:=by
 simp only[gX,h,if_pos he]
theorem Ba {l:List bO} {i:Nat} {c:bO} (h:l[i]?=some c) (he:(aY c).code=0) (hl:c.when.length≠rK l):gX l i=3:=by
 simp only[gX,h]
 rw[if_neg (by simp[he]),if_pos hl]
theorem tf {l:List bO} {i:Nat} {c:bO} (h:l[i]?=some c) (he:(aY c).code=0) (hl:c.when.length=rK l):gX l i=0:=by
 simp only[gX,h]
 rw[if_neg (by simp[he]),if_neg (by simp[hl])]
theorem td {l:List bO} {i:Nat} {c:bO} (h:l[i]?=some c) (he:gX l i=0):(aY c).code=0∧c.when.length=rK l:=by
 simp only[gX,h]at he
 split at he
 ·exact absurd he ‹_›
 ·split at he
  ·cases he
  ·rename_i h1 h2
   exact⟨by simpa using h1,by simpa using h2⟩
structure I6 (c:bO):Prop where
 vec:b8 c.when=0
 p0:0≤c.place
 p1:c.place<c.when.length
 t0:c.when[c.place.toNat]?≠some 0
 o1:1≤c.ops.length
 o2:c.ops.length≤12
 op:j5 c.ops c.when.length c.ops.length 0=aY c
theorem iy {c:bO} (h:(aY c).code=0):I6 c:=by
 have key:∀{n:Nat} {a:Int},aY c=⟨n,a⟩→n≠0→False:=fun he h0=>by rw[he]at h;exact h0 h
 by_cases h1:b8 c.when≠0
 ·exact(key (by rw[aY,if_pos h1]) h1).elim
 ·by_cases h2:c.place<0∨c.when.length≤c.place∨12<c.ops.length
  ·exact(key (n:=2) (a:=-1) (by rw[aY,if_neg h1,if_pos h2]) (by decide)).elim
  ·by_cases h3:c.when[c.place.toNat]?=some 0
   ·exact(key (n:=2) (a:=-1) (by rw[aY,if_neg h1,if_neg h2,if_pos h3]) (by decide)).elim
   ·by_cases h4:c.ops.length=0
    ·exact(key (n:=3) (a:=-1) (by rw[aY,if_neg h1,if_neg h2,if_neg h3,if_pos h4]) (by decide)).elim
    ·exact⟨by simpa using h1,by omega,by omega,h3,by omega,by omega,by rw[aY,if_neg h1,if_neg h2,if_neg h3,if_neg h4]⟩
theorem Hu {l:List bO} {i:Nat} (h:∀j,j<i→gX l j=0) (_:i≤l.length):∀c∈l.take i,I6 c:=fun c hc=>by
 obtain⟨j,hj⟩:=aJ hc
 rw[cL]at hj
 split at hj
 ·rename_i uO
  exact iy (td hj (h j uO)).1
 ·cases hj
theorem rT {l:List bO} (h:∀c∈l,I6 c):(bM l).length≤12*l.length:=by
 induction l with
 | nil=>simp[bM]
 | cons c l ih=>
  have h1:=(h c (.head _)).o2
  have h2:=ih fun c hc=>h c (.tail _ hc)
  simp only[bM,List.flatMap_cons,bA,aA,eF]at h2 ⊢
  omega
theorem DK (s:List gi) (l:List bE):(gx s l).length≤l.length:=by
 induction l generalizing s with
 | nil=>simp[gx]
 | cons x r ih=>
  unfold gx
  split
  ·have:=ih s;simp;omega
  ·have:=ih (x.d::s);simp;omega
theorem u9 {l:List bO} {i:Int} {c:bO} (hi:0≤i) (hc:l[i.toNat]?=some c):bM (l.take i.toNat)++c.ops.map (eD c)=bM (l.take (i+1).toNat):=by
 rw[←dz hi hc]
 simp[bM]
def iA (key:ByteArray) (p:List bE):List bE:=(gx [] p).filter fun x=>decide (x.o.key=key)
theorem qC (key:ByteArray) (p:List bE):(iA key p).length≤p.length:=
 aZ (cH _ _) (DK _ _)
theorem pD {key:ByteArray} {p:List bE} {x:bE}:iA key (p++[x])=iA key p++if x.d∉p.map (·.d)∧x.o.key=key then [x]else []:=by
 unfold iA
 rw[rJ,dm]
 congr 1
 by_cases h1:x.d∈p.map (·.d)
 ·simp[h1]
 ·by_cases h2:x.o.key=key
  ·simp[h1,h2]
  ·simp[h1,h2]
theorem xO (key:ByteArray) (p:List bE):((iA key p).map (·.d)).Nodup:=
 (dw.map _).nodup qI
open Classical in
noncomputable def cI (ds:List gi):Value→Option Value:=fun v=>if ∃d∈ds,v=.agg #[.int .i64 d.place,.int .i64 d.time,.int .i64 d.no]then some (.bool true)else none
theorem oh {ds:List gi} {d:gi} (h:d∈ds):cI ds (.agg #[.int .i64 d.place,.int .i64 d.time,.int .i64 d.no])=some (.bool true):=by
 rw[cI,if_pos ⟨d,h,rfl⟩]
theorem tQ {ds:List gi} {d:gi} (h:d∉ds):cI ds (.agg #[.int .i64 d.place,.int .i64 d.time,.int .i64 d.no])=none:=by
 rw[cI,if_neg]
 rintro⟨d',h1,h2⟩
 apply h
 have:d=d':=by
  cases d;cases d'
  simp at h2
  simp[h2]
 rw[this]
 exact h1
theorem o9 {ds:List gi} {d:gi} (v:Value):lK (cI ds) (.agg #[.int .i64 d.place,.int .i64 d.time,.int .i64 d.no]) (.bool true) v=cI (ds++[d]) v:=by
 unfold lK cI
 by_cases hv:v=.agg #[.int .i64 d.place,.int .i64 d.time,.int .i64 d.no]
 ·rw[if_pos hv,if_pos ⟨d,by simp,hv⟩]
 ·rw[if_neg hv]
  by_cases h:∃d∈ds,v=.agg #[.int .i64 d.place,.int .i64 d.time,.int .i64 d.no]
  ·obtain⟨d',h1,h2⟩:=h
   rw[if_pos ⟨d',h1,h2⟩,if_pos ⟨d',by simp[h1],h2⟩]
  ·rw[if_neg h,if_neg]
   rintro⟨d',h1,h2⟩
   rcases au.1 h1 with h1|h1
   ·exact h ⟨d',h1,h2⟩
   ·rw[ay]at h1
    subst h1
    exact hv h2
theorem tR (v:Value):(fun _=>none:Value→Option Value) v=cI [] v:=by simp[cI]
def D7 (w:World) (S:Nat→Prop) (w':World) (e:Ending) (er:Nat→Addr) (f:FT) (mk:Value→Value):Prop:=
 (f.at' = -1∧∃v,cQ [] w S w' e (mk v) [] []∧lq 390 er f.code v) ∨
 (1≤f.code∧0≤f.at'∧∃pb,cQ [] w S w' e (mk (.iface 202 (.pointer (some ⟨pb,0,none⟩)))) [] [(.pointer (some ⟨pb,0,none⟩),.ptr [.v (.int .i64 f.at'),.v (.iface 390 (.pointer (some (er f.code))))])])
end Go.Proofs.YtmkapocibaojdaaGreatDoor
end
section
namespace Go.Sx
open Go Go.Sort Go.Proofs
def n4 (us:List Value) (ds:List D):Prop:=us.length=ds.length∧∀(j:Nat) u d,us[j]?=some u→ds[j]?=some d→∃w S,cm w S u d
theorem n4.plain {us:List Value} {ds:List D} (h:n4 us ds) {j:Nat} {v:Value} (hd:ds[j]?=some (.v v)):us[j]?=some v:=by
 have hj:j<us.length:=by rw[h.1];exact(ai.1 hd).1
 obtain⟨w,S,hr⟩:=h.2 j _ _ (ak hj) hd
 rw[ak hj,hr.plain]
theorem n4.one {us:List Value} {ds:List D} (h:n4 us ds) {j:Nat} {d:D} (hd:ds[j]?=some d):∃u,us[j]?=some u∧u.oneCell'=true:=by
 have hj:j<us.length:=by rw[h.1];exact(ai.1 hd).1
 obtain⟨w,S,hr⟩:=h.2 j _ _ (ak hj) hd
 exact⟨_,ak hj,hr.one⟩
def D3 (P:Program) (fs k:Nat):Prop:=∀{α:Type} [Inhabited α] (enc:α→List Value) (_:∀x,(enc x).length=k) (_:∀x,∀v∈enc x,v.oneCell'=true) (cf:α→α→Int) (_:SWO (ltOf cf)) (g:Nat) (cb:Array Value) (blk off cap:Nat) (d:Array α) (w:World)
  (_:∀args w,(callFunc g args).run P w=.ok (.enter g args) w) (_:CmpLays P g cb enc k cf blk off d.size w) (_:HoldsK enc k w blk off d) (_:blk<w.heap.size) (_:d.size<4611686018427387904) (_:∀x y,(ltOf cf) x y=false→(ltOf cf) y x=false→x=y),
  Calls P fs #[.slice (some ⟨blk,off,none⟩) d.size cap,.func (.func g) #[] cb] w fun e w'=>
   e=.returned (.tuple #[])∧∃n os,w'=sortWorldK enc k w blk off n (d.toList.mergeSort fun x y=>!(ltOf cf) y x).toArray os
def vU (P:Program) (fs:Nat):Prop:=∀(p:Option Addr) (cap:Nat) (fv:Value) (w:World),Calls P fs #[.slice p 0 cap,fv] w fun e w'=>e=.returned (.tuple #[])∧w'=w
theorem ID {W w':World} (h:Fr [] W w'):∃q os',w'=grow (W.drewN q) os':=by
 refine⟨w'.drawn - W.drawn,w'.heap.extract W.heap.size w'.heap.size,?_⟩
 have hh:w'.heap=W.heap++w'.heap.extract W.heap.size w'.heap.size:=by
  apply Array.ext_getElem?
  intro j
  rw[iY]
  split
  ·rename_i hj
   exact h.block j hj (by simp)
  ·rename_i hj
   rw[Array.getElem?_extract]
   by_cases hj2:j<w'.heap.size
   ·rw[if_pos (by omega)]
    congr 1
    omega
   ·rw[if_neg (by omega),iF (by omega)]
 have h1:=h.os
 have h2:=h.tape
 have h3:=h.output
 have h4:=h.drawn
 obtain⟨hp,tp,dr,os,out⟩:=w'
 simp only[grow,World.drewN]at *
 subst h1 h2 h3
 rw[←hh]
 congr 1
 omega
theorem A6 {xs:List Value} {n k i j:Nat} (_:xs.length=n*k) (_:i<n) (hj:j<k):((xs.drop (i*k)).take k)[j]?=xs[i*k+j]?:=by
 rw[cL,if_pos hj,cq]
theorem rN {xs:List Value} {n k i:Nat} (hl:xs.length=n*k) (hi:i<n):((xs.drop (i*k)).take k).length=k:=by
 rw[bp,gm,hl]
 have:(i+1)*k≤n*k:=cD k hi
 rw[jR,nK]at this
 omega
set_option maxHeartbeats 1000000 in
theorem Eg {P:Program} {fs k:Nat} (hS:D3 P fs k) (hN:vU P fs) {w:World} {S:Nat→Prop} {M:List Nat} {a:Option Addr} {n c e:Nat} {β:Type} {l:List β} {enc:β→List D} (CF:β→β→Int) (g:Nat) (cb:Array Value)
  (hP:Pre w S M [aT (.slice a n c) e k (l.map enc)]) (hsz:l.length<4611686018427387904)
  (eg:∀args w,(callFunc g args).run P w=.ok (.enter g args) w)
  (hcmp:∀x y,x∈l→y∈l→∀(us vs:List Value) (W:World),n4 us (enc x)→n4 vs (enc y)→Calls P g (#[.agg us.toArray,.agg vs.toArray]++cb) W fun e w'=>cQ [] W (fun _=>True) w' e (.int .i64 (CF x y)) [] [])
  (T6:∀x,x∈l→¬CF x x<0) (htr:∀x y z,x∈l→y∈l→z∈l→CF x y<0→CF y z<0→CF x z<0) (htot:∀(i j:Nat) x y,i≠j→l[i]?=some x→l[j]?=some y→CF x y<0∨CF y x<0) :
  Calls P fs #[.slice a n c,.func (.func g) #[] cb] w fun e' w'=>cQ M w S w' e' (.tuple #[]) [aT (.slice a n c) e k ((l.mergeSort fun x y=>!decide (CF y x<0)).map enc)] []:=by
 obtain⟨aU,hch,rfl,hnd,hM⟩:=hP
 match aU,hch with
 | [fp],⟨hc,_⟩=>
  have uN:l=[]→n=0→Calls P fs #[.slice a n c,.func (.func g) #[] cb] w fun e' w'=>cQ [fp].flatten w S w' e' (.tuple #[]) [aT (.slice a n c) e k ((l.mergeSort fun x y=>!decide (CF y x<0)).map enc)] []:=by
   intro h0 h1
   subst h0 h1
   refine(hN a c _ w).mono ?_
   rintro e' w' ⟨he,rfl⟩
   refine⟨he,Fr.refl _ _,[fp],⟨?_,trivial⟩,hnd,fun b hb=>⟨.inl hb,(hM b hb).1⟩,by simp⟩
   simp only[List.mergeSort_nil,gy]
   exact(aT _ _ _ _).mono hc (fun _ _=>rfl) fun b hb _=>⟨⟨.inl hb,fun hm=>(hM b hm).2 hb⟩,rfl⟩
  obtain⟨hk,hc⟩:=hc
  rcases hc with ⟨h1,h2,rfl⟩|⟨g0,cap,cur,xs,h2,rfl,h3,h4,h5⟩
  ·cases h2
   exact uN (cM.1 h1) rfl
  ·cases h2
   rcases iX l.length with CV|CV
   ·exact uN (ct CV) (by rw[aA];exact CV)
   ·have N4:(l.map enc).length=l.length:=aA ..
    have Ez:xs.length=l.length*k:=by rw[h4.len,N4]
    have hg0:g0<w.heap.size:=(bJ.1 h3).1
    haveI:Inhabited (Fin l.length):=⟨⟨0,CV⟩⟩
    have PT:∀u∈xs,u.oneCell'=true:=h5.one (by rw[N4];exact Ez)
    let pV:Fin l.length→List Value:=fun i=>(xs.drop (i.1*k)).take k
    let cf:Fin l.length→Fin l.length→Int:=fun i j=>CF l[i] l[j]
    have hcell:∀i:Fin l.length,n4 (pV i) (enc l[i]):=fun i=>by
     have hrow:(enc l[i]).length=k:=h5.len _ (aB.2 ⟨l[i],cz i.2,rfl⟩)
     refine⟨by rw[rN Ez i.2,hrow],fun j u d hu hd=>?_⟩
     have EC:j<k:=by rw[←hrow];exact(ai.1 hd).1
     obtain⟨u',h6,h7⟩:=h5.El i.1 j _ d (by rw[aF,ak i.2];rfl) hd
     rw[A6 Ez i.2 EC,h6]at hu
     cases hu
     exact⟨_,_,h7⟩
    have hlt:∀i j,ltOf cf i j=true↔CF l[i] l[j]<0:=fun i j=>by simp[ltOf,cf]
    have Nd:∀i j,ltOf cf i j=false↔¬CF l[i] l[j]<0:=fun i j=>by simp[ltOf,cf]
    have LM:∀i j:Fin l.length,i≠j→CF l[i] l[j]<0∨CF l[j] l[i]<0:=fun i j hij=>htot i.1 j.1 _ _ (fun h=>hij (Fin.ext h)) (ak i.2) (ak j.2)
    have hO:SWO (ltOf cf):=by
     refine⟨fun x=>(Nd x x).2 (T6 _ (cz x.2)),fun x y z hx hy=>?_,fun x y z hx hy=>?_⟩
     ·exact(hlt x z).2 (htr _ l[y] _ (cz x.2) (cz y.2) (cz z.2) ((hlt x y).1 hx) ((hlt y z).1 hy))
     ·rw[Nd]at hx hy ⊢
      intro hxz
      by_cases hxy:x=y
      ·rw[hxy]at hxz
       exact hy hxz
      ·rcases LM x y hxy with h|h
       ·exact hx h
       ·exact hy (htr _ l[x] _ (cz y.2) (cz x.2) (cz z.2) h hxz)
    have hT:∀x y,ltOf cf x y=false→ltOf cf y x=false→x=y:=fun x y hx hy=>by
     by_cases hxy:x=y
     ·exact hxy
     ·rw[Nd]at hx hy
      rcases LM x y hxy with h|h
      ·exact absurd h hx
      ·exact absurd h hy
    have hds:((iI l.length).toArray).size=l.length:=by simp
    have LV:∀(q:List (Fin l.length)),q.length=l.length→∀j,j<l.length*k→∃i:Fin l.length,q[j / k]?=some i∧(flatK pV k q.toArray)[j]! = xs[i.1*k+j % k]!:=fun q hq j hj=>by
     have h1:j / k<l.length:=jl (by rw[fN];exact hj)
     refine⟨q[j / k]'(by omega),ak _,?_⟩
     rw[get_flatK _ _ _ _ (by simpa [hq]using hj)]
     have e1:(q.toArray[j / k]!)=q[j / k]'(by omega):=by
      rw[getElem!_pos _ _ (by simpa [hq]using h1)]
      simp
     rw[e1]
     have:=A6 (xs:=xs) Ez (q[j / k]'(by omega)).2 (l8 j hk)
     simp only[List.getElem!_eq_getElem?_getD]
     exact congrArg (fun o=>o.getD default) this
    have hH:HoldsK pV k w g0 0 (iI l.length).toArray:=fun j hj=>by
     have hj2:j<l.length*k:=by simpa using hj
     obtain⟨i,hi,hv⟩:=LV (iI l.length) (by simp) j hj2
     have hi2:i.1=j / k:=by
      have:=(ai.1 hi).2
      rw[←this];simp
     rw[hv,hi2,fN,lV]
     refine⟨?_,by simp[World.frozen?,h3]⟩
     have h6:=h4.at (j:=j) (by rw[N4];exact hj2)
     rw[aK]
     simp only[World.cell?,h3,Option.isSome_none,id_eq,h6]
     have VG:j<xs.length:=by omega
     simp[ak VG,getElem!_pos xs j VG]
    have hC:CmpLays P g cb pV k cf g0 0 (iI l.length).toArray.size w:=fun m os dk _ x y=>
     (hcmp l[x] l[y] (cz x.2) (cz y.2) (pV x) (pV y) _ (hcell x) (hcell y)).mono fun e' w' hR=>⟨hR.ret,ID hR.fr⟩
    have hmain:=hS pV (fun x=>rN Ez x.2) (fun x v hv=>PT v (List.mem_of_mem_drop (jo hv))) cf hO g cb g0 0 c (iI l.length).toArray w eg hC hH hg0 (by rw[hds];exact hsz) hT
    rw[hds]at hmain
    rw[N4]
    refine hmain.mono ?_
    rintro e' w' ⟨he,m,os,rfl⟩
    generalize P6:(((iI l.length).toArray.toList.mergeSort fun x y=>!(ltOf cf) y x))=E9
    have zZ:E9.Perm (iI l.length):=by rw[←P6];simpa using gB _ _
    have Bn:E9.length=l.length:=by rw[zZ.length_eq];simp
    have hl':(l.mergeSort fun x y=>!decide (CF y x<0))=E9.map fun i=>l[i.1]'i.2:=by
     rw[←P6]
     have e1:l=(iI l.length).map fun i=>l[i.1]'i.2:=by
      apply List.ext_getElem
      ·simp
      ·intro i h1 h2;simp
     have:=(List.map_mergeSort (r:=fun x y=>!(ltOf cf) y x) (s:=fun x y=>!decide (CF y x<0)) (f:=fun i:Fin l.length=>l[i.1]'i.2) (l:=iI l.length) (fun i _ j _=>by simp[ltOf,cf]))
     simp only[List.toList_toArray]at this ⊢
     rw[this,←e1]
    rw[hl']
    have hblk:(sortWorldK pV k w g0 0 m E9.toArray os).heap[g0]?=some (.cells (putCells id 0 (flatK pV k E9.toArray) cur) e (0,0)):=by
     simp only[sortWorldK,grow,putRowK,putRow,mapBlock,ahead]
     rw[iY,if_pos (by simpa using hg0),fV,if_pos rfl]
     show(w.heap[g0]?).map _=_
     rw[h3]
     rfl
    have hfr:Fr [g0] w (sortWorldK pV k w g0 0 m E9.toArray os):=by
     refine⟨rfl,rfl,rfl,by simp[sortWorldK,grow,putRowK,putRow,mapBlock,ahead],fun b hb hn=>?_,by simp[sortWorldK,grow,putRowK,putRow,mapBlock,ahead]⟩
     have hne:g0≠b:=fun h=>hn (by simp[h])
     simp only[sortWorldK,grow,putRowK,putRow,mapBlock,ahead]
     rw[iY,if_pos (by simpa using hb),fV,if_neg hne]
     rfl
    let xs':List Value:=(E9.map pV).flatten
    have PV:xs'.length=l.length*k:=by
     have:∀q:List (Fin l.length),((q.map pV).flatten).length=q.length*k:=fun q=>by
      induction q with
      | nil=>simp
      | cons i q ih=>simp only[cj,cr,bA,ih,eF,j1];rw[rN Ez i.2,Nat.add_comm]
     rw[this,Bn]
    have LL:∀(p j:Nat) (i:Fin l.length),E9[p]?=some i→j<k→xs'[p*k+j]?=xs[i.1*k+j]?:=fun p j i hi hj=>by
     have h6:(pV i).length=k:=rN Ez i.2
     have h7:=A6 (xs:=xs) Ez i.2 hj
     have h8:(pV i)[j]?=some ((pV i)[j]'(by omega)):=ak _
     have h9:=qG (k:=k) (rows:=E9.map pV) (fun row hr=>by obtain⟨i',_,rfl⟩:=aB.1 hr;exact rN Ez i'.2) (i:=p) (j:=j) (row:=pV i) (by rw[aF,hi];rfl) h8
     rw[show xs'[p*k+j]?=_ from h9,←h7]
     exact h8.symm
    have hrow:Row (putCells id 0 (flatK pV k E9.toArray) cur) c l.length k xs':=by
     have hcs:=h4.Ei
     refine⟨PV,by simp[putCells,hcs],by rw[←N4];exact h4.le,h4.max,?_⟩
     have hle:l.length*k≤cur.size:=by rw[hcs];exact cD k (by rw[←N4];exact h4.le)
     apply eH
     intro j
     rw[cL]
     by_cases hj:j<l.length*k
     ·rw[if_pos hj]
      obtain⟨i,hi,hv⟩:=LV E9 Bn j hj
      have h10:=LL (j / k) (j % k) i hi (l8 j hk)
      rw[fN,lV]at h10
      rw[h10]
      have Sf:i.1*k+j % k<xs.length:=by rw[Ez];exact xW i.2 (l8 j hk)
      have WU:j<cur.size:=by omega
      simp only[putCells,kx,Array.getElem?_mapIdx,fR WU,dU,Nat.sub_zero,aK,id_eq]
      rw[if_pos ⟨eo _,by simpa [Bn]using hj⟩,hv,ak Sf,getElem!_pos xs _ Sf]
     ·rw[if_neg hj,cO (by rw[PV];omega)]
    have Xf:∀b,S b→b<w.heap.size→l5 S [g0] w [[g0]] b∧(sortWorldK pV k w g0 0 m E9.toArray os).heap[b]?=w.heap[b]?:=fun b hb hlt=>by
     have hne:b≠g0:=fun h=>(hM b (by simp[h])).2 hb
     exact⟨⟨.inl hb,by simpa using hne⟩,hfr.block b hlt (by simpa using hne)⟩
    refine⟨he,by simpa using hfr,[[g0]],⟨⟨hk,.inr ⟨g0,c,_,xs',by simp[Bn],rfl,hblk,by simpa [Bn]using hrow,?_⟩⟩,trivial⟩,by simp,fun b hb=>?_,by simp⟩
    ·have Ul:∀b,S b→b<w.heap.size→l5 S ([g0]:List Nat) w [[g0]] b∧(sortWorldK pV k w g0 0 m E9.toArray os).heap[b]?=w.heap[b]?:=Xf
     refine⟨fun row hr=>?_,fun i j row d hi hj=>?_⟩
     ·obtain⟨x,hx,rfl⟩:=aB.1 hr
      obtain⟨i,_,rfl⟩:=aB.1 hx
      exact h5.len _ (aB.2 ⟨_,cz i.2,rfl⟩)
     ·rw[aF,aF]at hi
      obtain⟨x,hx,rfl⟩:=aI.1 hi
      obtain⟨i',hi',rfl⟩:=aI.1 hx
      have EC:j<k:=by
       rw[←h5.len _ (aB.2 ⟨_,cz i'.2,rfl⟩)]
       exact(ai.1 hj).1
      obtain⟨u,h6,h7⟩:=h5.El i'.1 j _ d (by rw[aF,ak i'.2];rfl) hj
      refine⟨u,by rw[LL i j i' hi' EC];exact h6,h7.mono fun b hb hlt=>?_⟩
      simpa using Ul b hb hlt
    ·have hb':b=g0:=by simpa using hb
     subst hb'
     exact⟨.inl (by simp),ej hg0 hfr.size⟩
 | [],h=>exact h.elim
 | _::_::_,h=>exact h.2.elim
end Go.Sx
end
section
namespace Go.Proofs.YtmkapocibaojdaaGreatDoor
open Go Go.Sx Go.Sort Go.Proofs
set_option maxHeartbeats 4000000 in
theorem Dy (w:World):(isAgg 271).run Tryz.prog w=.ok true w:=by simp[isAgg,run_underlying Tryz.underlying271,Result.andThen]
set_option maxHeartbeats 4000000 in
theorem FK (w:World):(isAgg 177).run Tryz.prog w=.ok true w:=by simp[isAgg,run_underlying Tryz.underlying177,Result.andThen]
set_option maxHeartbeats 4000000 in
theorem Eh {P:Program} {t k:Nat} (h:(P.info? t).map (·.size)=some k) (w:World):(Go.sizeOf t).run P w=.ok k w:=by
 obtain⟨i,hi,hs⟩:=aI.1 h
 simp[Go.sizeOf,typeInfo,hi,hs]
theorem Fb:D3 Tryz.prog 196 11:=fun enc hk h1 cf hO g cb blk off cap d w eg hcmp hH hblk hsz hT=>
 AnyQ.slices_SortFunc_total Tryz.sortDone 11 Dy (Eh (by kernel_rfl)) enc hk h1 cf hO g cb blk off cap d w eg hcmp hH hblk hsz hT
theorem Hi:D3 Tryz.prog 210 3:=fun enc hk h1 cf hO g cb blk off cap d w eg hcmp hH hblk hsz hT=>
 AnyQ.slices_SortFunc_total Tryz.sortDot 3 FK (Eh (by kernel_rfl)) enc hk h1 cf hO g cb blk off cap d w eg hcmp hH hblk hsz hT
theorem Db:vU Tryz.prog 196:=fun p cap fv w=>AnyF.slices_SortFunc_none Tryz.sortDone p cap fv w
theorem Fa:vU Tryz.prog 210:=fun p cap fv w=>AnyF.slices_SortFunc_none Tryz.sortDot p cap fv w
theorem yF {us:List Value} {x:bE} (h:n4 us (gg x)):∃v,v.oneCell'=true∧(Value.agg us.toArray)=yB x v:=by
 obtain⟨v,hv,MY⟩:=h.one (j:=6) rfl
 refine⟨v,MY,?_⟩
 have e:us=[.int .i64 x.o.no,.string x.o.key,.int .i64 x.o.kind,.string x.o.text,.int .i64 x.o.n,.bool x.o.remove,v,.int .i64 x.d.place,.int .i64 x.d.time,.int .i64 x.d.no,.int .i64 x.w]:=by
  apply eH
  intro j
  have hl:=h.1
  match j with
  | 0=>exact h.plain rfl
  | 1=>exact h.plain rfl
  | 2=>exact h.plain rfl
  | 3=>exact h.plain rfl
  | 4=>exact h.plain rfl
  | 5=>exact h.plain rfl
  | 6=>exact hv
  | 7=>exact h.plain rfl
  | 8=>exact h.plain rfl
  | 9=>exact h.plain rfl
  | 10=>exact h.plain rfl
  | j+11=>rw[cO (by rw[hl];simp),cO (by simp)]
 rw[e]
theorem Af {us:List Value} {x:gi} (h:n4 us (bK x)):(Value.agg us.toArray)=F1 x:=by
 have e:us=[.int .i64 x.place,.int .i64 x.time,.int .i64 x.no]:=by
  apply eH
  intro j
  have hl:=h.1
  match j with
  | 0=>exact h.plain rfl
  | 1=>exact h.plain rfl
  | 2=>exact h.plain rfl
  | j+3=>rw[cO (by rw[hl];simp),cO (by simp)]
 rw[e]
theorem B8 {α β:Type} {g:α→β} {l:List α} (hn:(l.map g).Nodup) {i j:Nat} {x y:α} (hij:i≠j) (hx:l[i]?=some x) (hy:l[j]?=some y):g x≠g y:=fun he=>by
 have h1:(l.map g)[i]?=some (g x):=by rw[aF,hx];rfl
 have h2:(l.map g)[j]?=some (g x):=by rw[aF,hy,he];rfl
 exact hij ((dQ (ai.1 h1).1 hn).1 (h1.trans h2.symm))
set_option maxHeartbeats 4000000 in
theorem BK {w:World} {S:Nat→Prop} {M:List Nat} {a:Option Addr} {n c:Nat} {l:List bE} (hP:Pre w S M [aT (.slice a n c) 271 11 (l.map gg)]) (hl:l.length≤4000000) (hnd:(l.map (·.d)).Nodup) :
  Calls Tryz.prog 196 #[.slice a n c,.func (.func 197) #[] #[]] w fun e' w'=>cQ M w S w' e' (.tuple #[]) [aT (.slice a n c) 271 11 ((sortDone l).map gg)] []:=by
 refine Eg Fb Db uX _ #[] hP (by omega) (enters_of Tryz.func197 (by kernel_rfl) rfl) (fun x y _ _ us vs W hu hv=>?_) (fun x _=>?_) (fun x y z _ _ _ h1 h2=>?_) fun i j x y hij hx hy=>?_
 ·obtain⟨v1,o1,e1⟩:=yF hu
  obtain⟨v2,o2,e2⟩:=yF hv
  rw[e1,e2]
  exact K4 (S:=fun _=>True) o1 o2
 ·rw[tU,sC];omega
 ·rw[tU]at *
  exact mZ h1 h2
 ·have:=B8 hnd hij hx hy
  rcases tS x y with h|h|h
  ·exact .inl (by simpa [gW]using h)
  ·exact absurd (rM h) this
  ·exact .inr (by simpa [gW]using h)
set_option maxHeartbeats 4000000 in
theorem xu {w:World} {S:Nat→Prop} {M:List Nat} {a:Option Addr} {n c:Nat} {l:List gi} (hP:Pre w S M [aT (.slice a n c) 177 3 (l.map bK)]) (hl:l.length≤4000000) (hnd:l.Nodup) :
  Calls Tryz.prog 210 #[.slice a n c,.func (.func 211) #[] #[]] w fun e' w'=>cQ M w S w' e' (.tuple #[]) [aT (.slice a n c) 177 3 ((xq l).map bK)] []:=by
 refine Eg Hi Fa yA _ #[] hP (by omega) (enters_of Tryz.func211 (by kernel_rfl) rfl) (fun x y _ _ us vs W hu hv=>?_) (fun x _=>?_) (fun x y z _ _ _ h1 h2=>?_) fun i j x y hij hx hy=>?_
 ·rw[Af hu,Af hv]
  exact NC (S:=fun _=>True)
 ·rw[vO,sC];omega
 ·rw[vO]at *
  exact mZ h1 h2
 ·have:x≠y:=B8 (g:=id) (by simpa using hnd) hij hx hy
  rcases F3 x y with h|h|h
  ·exact .inl (by simpa [yz]using h)
  ·exact absurd h this
  ·exact .inr (by simpa [yz]using h)
end Go.Proofs.YtmkapocibaojdaaGreatDoor
end
section
namespace Go.Proofs.YtmkapocibaojdaaGreatDoor
open Go Go.Sx
structure wK where
 i:Int
 es:Array MapEntry
 clock:Nat
 a:Option Addr
 k:Nat
 c:Nat
set_option maxHeartbeats 4000000 in
theorem Mc {w:World} {S:Nat→Prop} {er:Nat→Addr} {eb:Nat→Array Value×TypeId} {a:Option Addr} {n c:Nat} {key:ByteArray} {l:List bO} (hC:cm w S .nilIface (dC er eb)) (h:cm w S (.slice a n c) (.sl 3 (l.map eW))) (hl:l.length≤300000) (ja:∀x∈l,x.when.length≤1000000) (kS:∀x∈l,x.ops.length≤1000000) :
  Calls Tryz.prog 159 #[.string key,.slice a n c] w fun e w'=>((cZ key l).code≠0∧D7 w S w' e er (cZ key l) fun v=>.tuple #[.slice none 0 0,v])∨((cZ key l).code=0∧∃a' n' c',cQ [] w S w' e (.tuple #[.slice a' n' c',.nilIface]) [] [(.slice a' n' c',.sl 11 ((opsOf key l).map gg))]):=by
 have e2:=h.pA
 rw[aA]at e2
 subst e2
 refine jL Tryz.func159 Rt (args:=[.string key,.slice a l.length c]) (G:=[(_,dC er eb),(_,.sl 3 (l.map eW))]) (by kernel_rfl) (.cons hC (.cons h (.nil _ _))) ?_
 refine bH (ij 0 [3,2] rfl rfl) ?_
 refine di 2 rfl (fun ni mW ng dh=>?_)
 refine di 3 rfl (fun uY uq uS gu=>?_)
 try simp only[aQ]
 refine Zs [zR 0,zR 1] [] [zS 4 none 0 0,zV 5 .nilIface] ?_
 refine aq ?_
 refine jS [(0,true),(1,false),(2,true)] [] ?_
 refine Ya [zR 0] [] [zV 16 (.string key)] ?_
 refine Yc 154 #[.string key] (some 17) fun w S hG=>?_
 refine(Bw (S:=S)).mono ?_
 rintro e1 w1 hR
 refine⟨_,_,_,hR,?_⟩
 cases hname:dS key with
 | false=>
  have hv:cZ key l=⟨4,-1⟩:=by rw[cZ,if_pos hname]
  try simp only[aQ]
  refine Ya [zR 2] [17,16] [zB 18 true] ?_
  refine aC ?_
  refine gR ?_
  refine Zt [.rd 0 [.r 0 (some (.iface 390 (.pointer (some (er 4)))))] 0 0,zR 1,zR 2] [18] [zV 5 (.iface 390 (.pointer (some (er 4))))] (oC dh oN) ?_
  refine Yr [[],[]] (.tuple #[.slice none 0 0,.iface 390 (.pointer (some (er 4)))]) fun a w s=>?_
  rw[hv]
  exact .inl ⟨by decide,.inl ⟨rfl,_,s.ret (by simp) [] [] rfl rfl,.inr ⟨by decide,rfl⟩⟩⟩
 | true=>
  have hv:cZ key l=k6 l:=by rw[cZ,if_neg (by simp[hname])]
  rw[hv]
  try simp only[aQ]
  refine Ya [zR 2] [17,16] [zB 18 false] ?_
  refine aC ?_
  refine cF ?_
  refine aG ?_
  refine Zv [.wr 0 [] 0,zR 1] [] [18] (fun aN=>[zV 6 (.map (some (aN 0)))]) o0 (fun aN=>[(aN 0,Obj.map #[] 0)]) (fun aN=>?_)
  refine Zs [zR 0] [] [zS 7 none 0 0] ?_
  refine aq ?_
  refine Zs (bh 0 3) [] [zS 21 a l.length c,zI 22 (↑l.length:Int),zI 23 0] ?_
  refine aM ?_
  refine bH (fO gg 271 11) ?_
  have hm0:fM dA #[] (cI ((bM (l.take (0:Int).toNat)).map (·.d))):=(fM.empty dA).congr tR
  refine cU (fun x:wK=>[zV 0 (.string key),zS 1 a l.length c,zS 4 none 0 0,zV 5 .nilIface,zV 6 (.map (some (aN 0))),zS 7 x.a x.k x.c,zS 21 a l.length c,zI 22 (↑l.length:Int),zI 23 x.i]) (fun x:wK=>[(aN 0,.map x.es x.clock)]) (fun x:wK=>[aT (.slice x.a x.k x.c) 271 11 ((iA key (bM (l.take x.i.toNat))).map gg)]) (fun x:wK=>[(.nilIface,(dC er eb)),(.slice a l.length c,(D.sl 3 (aj eW l))),(.pointer (sA 8 0),(D.ptr [D.v (Value.iface 390 (Value.pointer (some (er 4))))])),(.pointer (sA 1 0),(D.ptr [D.v (Value.iface 390 (Value.pointer (some (er 3))))]))]) (fun x:wK=>(l.length - x.i).toNat) (fun x:wK=>(0≤x.i∧x.i≤l.length∧(∀j,j<x.i.toNat→gX l j=0)∧fM dA x.es (cI ((bM (l.take x.i.toNat)).map (·.d))))) ⟨0,#[],0,none,0,0⟩ [0,1,4,5,6,7,21,22,23] [0] [0] [0,1,2,3] ?_ (by kernel_rfl) rfl rfl rfl ?_
  ·exact⟨by simp,by simp,by simp,hm0⟩
  rintro⟨i,es,clock,av,k,cv⟩ ⟨hi0,hi,hno,hm⟩
  dsimp only at hi0 hi hno hm ⊢
  refine Zs [zR 0] [] [zB 24 (decide (i<(↑l.length:Int)))] ?_
  refine aq ?_
  refine cC (t:=decide (i<(↑l.length:Int))) (fun hlt=>?_) (fun hlt=>?_)
  ·have fa:i<l.length:=by simpa using hlt
   obtain⟨x,hx⟩:∃x,l[i.toNat]?=some x:=⟨_,ak (by omega)⟩
   refine Bh 1 rfl i.toNat (dD hx) (by kernel_rfl) (fun b1 fu uf vi vm fg cJ wJ p9 ha1 cP=>?_)
   cases ha1
   have cg:=oO (cP 0 _ rfl)
   have gJ:=cP 1 _ rfl
   have gV:=cP 2 _ rfl
   try simp only[aQ]
   refine aG (aq (aM ?_))
   refine Zu [zR 0,.rd 1 [] 0 2,.rd 2 [.r 2 (some (.slice (fg,cJ).fst ((aj eI x.when).length) cJ)),.r 2 (some (nI x.place)),.r 2 (some (.slice (wJ,p9).fst ((aj fe x.ops).length) p9))] 0 0,.wr 3 [] 0,zR 4,.wr 5 (ek 1 3) 0] [(5,[])] [24] (fun dy=>[zI 8 i,zP 9 (dy 0)]) o0 (fun dy=>[(dy 0,.cells #[.slice (fg,cJ).fst ((aj eI x.when).length) cJ,nI x.place,.slice (wJ,p9).fst ((aj fe x.ops).length) p9] 35 (0,0))]) (fun dy=>(oC hi0 (oC fa (oC cg (oC gJ (oC gV oN)))))) (fun dy=>?_)
   refine jS [(0,true),(1,false),(2,false),(3,true)] [] ?_
   refine Ya [.rd 0 (ek 1 3) 0 0] [] [zV 28 (.agg #[.slice (fg,cJ).fst ((aj eI x.when).length) cJ,nI x.place,.slice (wJ,p9).fst ((aj fe x.ops).length) p9])] ?_
   refine Yc 85 #[.agg #[.slice (fg,cJ).fst ((aj eI x.when).length) cJ,nI x.place,.slice (wJ,p9).fst ((aj fe x.ops).length) p9]] (some 29) fun w S hG=>?_
   refine(pg (c:=x) (hG.at 0 rfl) (hG.at 4 rfl) (hG.at 5 rfl) (ja x (ae hx)) (kS x (ae hx))).mono ?_
   rintro e1 w1 (⟨hat,v,hR,MY⟩|⟨zb,hat,pb,hR⟩)
   ·refine⟨_,_,_,hR,?_⟩
    try simp only[aQ]
    refine Yc 164 #[v] (some 30) fun w S hG=>?_
    refine(RS (hG.at 0 rfl) MY).mono ?_
    rintro e2 w2 hR
    refine⟨_,_,_,hR,?_⟩
    rcases MY with ⟨Bl,rfl⟩|⟨Bl,rfl⟩
    ·obtain⟨c0,hc0⟩:∃c0,l[0]?=some c0:=⟨_,ak (by omega)⟩
     have hfl:rK l=c0.when.length:=by cases l with
      | nil=>simp at hc0
      | cons y l=>simp at hc0;subst hc0;rfl
     try simp only[aQ]
     refine Ya [zR 3] [30,29,28] [zV 10 .nilIface] ?_
     refine aC (aq (aq ?_))
     refine Ji 1 rfl 2 rfl 0 (dD hc0) (by kernel_rfl) (fun wI oV XQ XM kK=>?_)
     have gI:=oO (kK 0 _ rfl)
     have tI:=kK 1 _ rfl
     have tH:=kK 2 _ rfl
     have Ey:uf[fu]?=some (.slice wI (c0.when.map eI).length oV):=gI
     rw[aA]at Ey
     by_cases hlen:x.when.length=c0.when.length
     ·have Kw:=iy Bl
      obtain⟨t,ht⟩:∃t,x.when[x.place.toNat]?=some t:=⟨_,ak (by have:=Kw.p0;have:=Kw.p1;omega)⟩
      have Un:=rT (Hu (i:=i.toNat) hno (by omega))
      rw[bp]at Un
      have WI:=Kw.o2
      have M8:=Kw.p0
      have hp1:=Kw.p1
      try simp only[aQ]
      refine Zp (bh 0 4++[.rd 4 [.o 1 none] 0 0,zR 5,zR 6,.rd 7 [] 0 2,zR 8,.rd 9 [.r 2 (some (.slice (wI,oV).fst ((aj eI c0.when).length) oV))] 0 0,zR 10,.rd 11 [] 0 7,zR 12]) [] [zB 43 false] (oC (show(0:Int)≤(0:Int) from by omega) (oC (show(0:Int)<(↑l.length:Int) from by omega) (oC gI (oC (show((↑(aj eI x.when).length:Int) != (↑(aj eI c0.when).length:Int))=false from by simp;omega) oN)))) ?_
      refine cF ?_
      refine aG (aq ?_)
      refine Zs [zR 0,zR 1] [43] [zB 46 false] ?_
      refine cF ?_
      refine aG ?_
      refine jS [(0,true),(1,true),(2,false),(3,true),(4,true),(5,true),(6,true),(7,true)] [] ?_
      refine Ya [zR 0,.rd 1 [.o 1 none] 0 0] [46] [zS 54 fg ((aj eI x.when).length) cJ] ?_
      refine Yc 195 #[.slice fg ((aj eI x.when).length) cJ] (some 55) fun w S hG=>?_
      refine(JM (kL (hG.at 0 rfl)) (hG.at 4 rfl) (ja x (ae hx))).mono ?_
      rintro e3 w3 (⟨Vv,hR⟩|⟨Vv,hR⟩)
      ·exact absurd Kw.vec Vv
      refine⟨_,_,_,hR,?_⟩
      try simp only[aQ]
      refine Ya (bh 3 8) [55,54] [zI 11 (pz x.when)] ?_
      refine aC ?_
      refine Zs [zR 0,.rd 1 [.o 1 none] 0 0,zR 2,zR 3] [] [zS 59 wJ ((aj fe x.ops).length) p9,zI 60 ((↑(aj fe x.ops).length:Int)),zI 61 0] ?_
      refine aM ?_
      have GG:fM dA es (cI ((bM (l.take i.toNat)++(x.ops.take (0:Int).toNat).map (eD x)).map (·.d))):=by simpa using hm
      rw[show iA key (bM (l.take i.toNat))=iA key (bM (l.take i.toNat)++(x.ops.take (0:Int).toNat).map (eD x))by simp]
      refine cU (fun y:wK=>[zV 0 (.string key),zS 1 (sA b1 fu) l.length c,zS 4 none 0 0,zV 5 .nilIface,zV 6 (.map (some (aN 0))),zS 7 y.a y.k y.c,zI 8 i,zP 9 (dy 0),zV 10 .nilIface,zI 11 (pz x.when),zS 21 (sA b1 fu) l.length c,zI 22 (↑l.length:Int),zI 23 i,zS 59 wJ ((aj fe x.ops).length) p9,zI 60 ((↑(aj fe x.ops).length:Int)),zI 61 y.i]) (fun y:wK=>[(aN 0,.map y.es y.clock),(dy 0,.cells #[.slice fg ((aj eI x.when).length) cJ,nI x.place,.slice wJ ((aj fe x.ops).length) p9] 35 (0,0))]) (fun y:wK=>[aT (.slice y.a y.k y.c) 271 11 ((iA key (bM (l.take i.toNat)++(x.ops.take y.i.toNat).map (eD x))).map gg)]) (fun y:wK=>[(.nilIface,(dC er eb)),(.slice (sA b1 fu) l.length c,(D.sl 3 (aj eW l))),(.pointer (sA 8 0),(D.ptr [D.v (Value.iface 390 (Value.pointer (some (er 4))))])),(.pointer (sA 1 0),(D.ptr [D.v (Value.iface 390 (Value.pointer (some (er 3))))])),(.slice (fg,cJ).fst ((aj eI x.when).length) cJ,(D.sl 1 (aj eI x.when))),(.slice (wJ,p9).fst ((aj fe x.ops).length) p9,(D.sl 7 (aj fe x.ops)))]) (fun y:wK=>(x.ops.length - y.i).toNat) (fun y:wK=>(0≤y.i∧y.i≤x.ops.length∧fM dA y.es (cI ((bM (l.take i.toNat)++(x.ops.take y.i.toNat).map (eD x)).map (·.d))))) ⟨0,es,clock,av,k,cv⟩ [0,1,4,5,6,7,8,9,10,11,21,22,23,59,60,61] [0,1] [0] [0,1,2,3,4,5] ?_ (by kernel_rfl) rfl rfl rfl ?_
      ·exact⟨by simp,by simp,GG⟩
      rintro⟨j,KP,rP,gq,k1,gp⟩ ⟨Bp,hj,yb⟩
      dsimp only at Bp hj yb ⊢
      refine b9 (eC 0 rfl) fun _ hk=>?_
      have Qq:k1≤4000000:=by
       rw[hk,aA]
       refine aZ (qC _ _) ?_
       rw[bA,aA,bp]
       omega
      clear hk
      refine Zs [zR 0] [] [zB 62 (decide (j<(↑(aj fe x.ops).length:Int)))] ?_
      refine aq ?_
      refine cC (t:=decide (j<(↑(aj fe x.ops).length:Int))) (fun tK=>?_) (fun tK=>?_)
      ·have yd:j<x.ops.length:=by simpa using tK
       obtain⟨o,ho⟩:∃o,x.ops[j.toNat]?=some o:=⟨_,ak (by omega)⟩
       have W7:eD x o=⟨o,⟨x.place,t,o.no⟩,pz x.when⟩:=by simp[eD,iV,aO,ht,wW,pz]
       have CU:(bM (l.take i.toNat)++(x.ops.take (j+1).toNat).map (eD x))=(bM (l.take i.toNat)++(x.ops.take j.toNat).map (eD x))++[⟨o,⟨x.place,t,o.no⟩,pz x.when⟩]:=by
        rw[←dz Bp ho,bw,←bY,List.map_singleton,W7]
       refine j0 5 rfl j.toNat (dD ho) (by kernel_rfl) (fun b3 Ts XL Wc XB yK p8 Uk nf=>?_)
       cases Uk
       have rE:=oO (nf 0 _ rfl)
       have x9:=nf 1 _ rfl
       have x8:=nf 2 _ rfl
       have x7:=nf 3 _ rfl
       have x6:=nf 4 _ rfl
       have x5:=nf 5 _ rfl
       have x4:=nf 6 _ rfl
       refine gr 4 rfl x.place.toNat (dD ht) (by kernel_rfl) (fun b4 Wh Yi XZ Yb Xe TM=>?_)
       cases Xe
       have Ih:=oO (TM 0 _ rfl)
       have hin:∀v es',fM dA es' (lK (cI ((bM (l.take i.toNat)++(x.ops.take j.toNat).map (eD x)).map (·.d))) (.agg #[.int .i64 x.place,.int .i64 t,.int .i64 o.no]) (.bool true))→v=j+1→0≤v∧v≤x.ops.length∧fM dA es' (cI ((bM (l.take i.toNat)++(x.ops.take v.toNat).map (eD x)).map (·.d))):=fun v es' h1 h2=>by
        subst h2
        refine⟨by omega,by omega,?_⟩
        rw[CU,bw]
        exact h1.congr (o9 (d:=⟨x.place,t,o.no⟩))
       by_cases hmem:(⟨x.place,t,o.no⟩:gi)∈(bM (l.take i.toNat)++(x.ops.take j.toNat).map (eD x)).map (·.d)
       ·have e4:iA key (bM (l.take i.toNat)++(x.ops.take j.toNat).map (eD x))=iA key (bM (l.take i.toNat)++(x.ops.take (j+1).toNat).map (eD x)):=by
         rw[CU,pD,if_neg (fun h=>h.1 hmem),bf]
        try simp only[aQ]
        refine aG (aq (aM ?_))
        refine Zu [.rd 0 [] 0 2,.rd 1 [.r 3 (some (nI o.no)),.r 3 (some (.string o.key)),.r 3 (some (nI o.kind)),.r 3 (some (.string o.text)),.r 3 (some (nI o.n)),.r 3 (some (.bool o.remove)),.r 3 (some (.slice (yK,p8).fst ((aj bK o.bF).length) p8))] 0 0,.wr 2 [] 0,.wr 3 (ek 2 7) 0] [(3,[])] [62] (fun eR=>[zP 14 (eR 0)]) o0 (fun eR=>[(eR 0,.cells #[nI o.no,.string o.key,nI o.kind,.string o.text,nI o.n,.bool o.remove,.slice (yK,p8).fst ((aj bK o.bF).length) p8] 55 (0,0))]) (fun eR=>(oC Bp (oC (show j<(↑(aj fe x.ops).length:Int) from by simp;omega) (oC rE (oC x9 (oC x8 (oC x7 (oC x6 (oC x5 (oC x4 oN)))))))))) (fun eR=>?_)
        refine Zu [zR 0,.rd 1 [.o 1 none] 0 0,zR 2,.rd 3 [.o 1 none] 0 0,zR 4,.rd 5 [.o 1 none] 0 0,.rd 6 [] 0 2,.rd 7 [.r 4 (some (nI t))] 0 0,zR 8,.rd 9 [.o 2 none] 0 0,zR 10,.wr 11 [] 0,.wr 12 (ek 3 3) 0] [(12,[])] [] (fun kR=>[zP 15 (kR 0)]) o0 (fun kR=>[(kR 0,.cells #[nI x.place,nI t,nI o.no] 177 (0,0))]) (fun kR=>(oC M8 (oC (show x.place<(↑(aj eI x.when).length:Int) from by simp;omega) (oC Ih oN)))) (fun kR=>?_)
        refine aq ?_
        refine jS [(0,true),(1,true),(2,true),(3,true),(4,true),(5,true),(6,true),(7,true),(8,true),(9,true)] [] ?_
        refine Ya [zR 0,.rd 1 (ek 3 3) 0 0] [] [zV 76 (.map (some (aN 0))),zV 77 (.agg #[nI x.place,nI t,nI o.no])] ?_
        refine gK (.o 0 none) (aN 0) 216 177 4 dA (.agg #[.int .i64 x.place,.int .i64 t,.int .i64 o.no]) (.bool false) false (some 78) (by kernel_rfl) (by kernel_rfl) (by kernel_rfl) jC (by first|exact⟨_,_,_,rfl⟩|simp[MapKept.IsKey]) (by kernel_rfl) rfl yb (fun hno=>?_) (fun v hv=>?_)
        ·rw[oh hmem]at hno
         cases hno
        ·rw[oh hmem]at hv
         cases hv
         refine Ya [zR 3,zR 4,.rd 5 [] 1 0,.rd 6 [] 1 0,.rd 7 [] 1 0,.rd 8 [] 1 0,zR 9] [78,76,77] [zB 85 false] ?_
         refine aC ?_
         refine cF ?_
         refine aG ?_
         refine jT [(0,true),(1,true),(2,false)] [] ?_
         refine Ya [zR 0,.rd 1 (ek 3 3) 0 0] [85] [zV 93 (.map (some (aN 0))),zV 94 (.agg #[nI x.place,nI t,nI o.no])] ?_
         refine qK 0 (aN 0) 216 177 4 dA (.agg #[.int .i64 x.place,.int .i64 t,.int .i64 o.no]) (.bool true) none (by kernel_rfl) (by kernel_rfl) (by kernel_rfl) jC (by first|exact⟨_,_,_,rfl⟩|simp[MapKept.IsKey]) rfl yb (fun F0 nO qU y8=>?_)
         refine aC (eu ?_)
         refine Zp [.rd 0 [] 0 1,zR 1] [] [zI 61 (j+1)] (oC (show IntKind.i64.wrap (j+1)=j+1 from wrap_i64 (by omega) (by omega)) oN) ?_
         rw[e4]
         refine bC ⟨j+1,_,_,_,_,_⟩ [0,1,4,5,6,7,8,9,10,11,21,22,23,59,60,61] [0,1] [0] [0,1,2,3,4,5] ?_ ?_ (by kernel_rfl) rfl rfl rfl
         ·exact hin _ _ qU rfl
         ·simp only
          omega
       ·try simp only[aQ]
        refine aG (aq (aM ?_))
        refine Zu [.rd 0 [] 0 2,.rd 1 [.r 3 (some (nI o.no)),.r 3 (some (.string o.key)),.r 3 (some (nI o.kind)),.r 3 (some (.string o.text)),.r 3 (some (nI o.n)),.r 3 (some (.bool o.remove)),.r 3 (some (.slice (yK,p8).fst ((aj bK o.bF).length) p8))] 0 0,.wr 2 [] 0,.wr 3 (ek 2 7) 0] [(3,[])] [62] (fun eR=>[zP 14 (eR 0)]) o0 (fun eR=>[(eR 0,.cells #[nI o.no,.string o.key,nI o.kind,.string o.text,nI o.n,.bool o.remove,.slice (yK,p8).fst ((aj bK o.bF).length) p8] 55 (0,0))]) (fun eR=>(oC Bp (oC (show j<(↑(aj fe x.ops).length:Int) from by simp;omega) (oC rE (oC x9 (oC x8 (oC x7 (oC x6 (oC x5 (oC x4 oN)))))))))) (fun eR=>?_)
        refine Zu [zR 0,.rd 1 [.o 1 none] 0 0,zR 2,.rd 3 [.o 1 none] 0 0,zR 4,.rd 5 [.o 1 none] 0 0,.rd 6 [] 0 2,.rd 7 [.r 4 (some (nI t))] 0 0,zR 8,.rd 9 [.o 2 none] 0 0,zR 10,.wr 11 [] 0,.wr 12 (ek 3 3) 0] [(12,[])] [] (fun kR=>[zP 15 (kR 0)]) o0 (fun kR=>[(kR 0,.cells #[nI x.place,nI t,nI o.no] 177 (0,0))]) (fun kR=>(oC M8 (oC (show x.place<(↑(aj eI x.when).length:Int) from by simp;omega) (oC Ih oN)))) (fun kR=>?_)
        refine aq ?_
        refine jS [(0,true),(1,true),(2,true),(3,true),(4,true),(5,true),(6,true),(7,true),(8,true),(9,true)] [] ?_
        refine Ya [zR 0,.rd 1 (ek 3 3) 0 0] [] [zV 76 (.map (some (aN 0))),zV 77 (.agg #[nI x.place,nI t,nI o.no])] ?_
        refine gK (.o 0 none) (aN 0) 216 177 4 dA (.agg #[.int .i64 x.place,.int .i64 t,.int .i64 o.no]) (.bool false) false (some 78) (by kernel_rfl) (by kernel_rfl) (by kernel_rfl) jC (by first|exact⟨_,_,_,rfl⟩|simp[MapKept.IsKey]) (by kernel_rfl) rfl yb (fun hno=>?_) (fun v hv=>?_)
        ·by_cases hkey:o.key=key
         ·have hkb:(o.key.toList==key.toList)=true:=by rw[G4,decide_eq_true hkey]
          refine Yp (bh 3 6++[.rd 6 [.o 2 none] 0 0,zR 7,.rd 8 [] 0 6,zR 9]) [78,76,77] [zB 85 true] (oC (show(o.key.toList==key.toList)=true from by assumption) oN) ?_
          refine aC ?_
          refine gR ?_
          refine jT [(0,true),(1,true),(2,true),(3,true),(4,true),(5,false),(6,false),(7,true)] [] ?_
          refine Ym [zR 0,.rd 1 (ek 2 7) 0 0,.rd 2 (ek 3 3) 0 0,zR 3,zR 4,.wr 5 [] 0] [85] (fun HN=>[zS 86 gq k1 gp,zS 91 (sA (HN 0) 0) 1 1]) o0 (fun HN=>[(HN 0,.cells #[nI o.no,.string o.key,nI o.kind,.string o.text,nI o.n,.bool o.remove,.slice (yK,p8).fst ((aj bK o.bF).length) p8,nI x.place,nI t,nI o.no,nI (pz x.when)] 271 (0,0))]) [] (fun HN=>?_)
          refine eY 0 265 271 11 120 (.agg #[.int .i64 0,.string (aL #[]),.int .i64 0,.string (aL #[]),.int .i64 0,.bool false,.slice none 0 0,.int .i64 0,.int .i64 0,.int .i64 0,.int .i64 0]) (a0:=gq) (len:=k1) (iB:=gp) (ax:=(some (⟨HN 0,0,none⟩))) (m:=1) (c:=1) (dst:=(some 92)) [(⟨o,⟨x.place,t,o.no⟩,pz x.when⟩:bE)] (by kernel_rfl) (by kernel_rfl) (by kernel_rfl) (by kernel_rfl) rfl (by decide) rfl (fun _ _ _ s=>fK s 4 rfl rfl ⟨.inl ⟨rfl,rfl⟩,⟨.inl ⟨rfl,rfl⟩,⟨.inl ⟨rfl,rfl⟩,⟨.inl ⟨rfl,rfl⟩,⟨.inl ⟨rfl,rfl⟩,⟨.inl ⟨rfl,rfl⟩,⟨.inr (.inl (ae (i:=6) rfl)),⟨.inl ⟨rfl,rfl⟩,⟨.inl ⟨rfl,rfl⟩,⟨.inl ⟨rfl,rfl⟩,⟨.inl ⟨rfl,rfl⟩,trivial⟩⟩⟩⟩⟩⟩⟩⟩⟩⟩⟩) (by simp only[maxLen];omega) (by omega) (fun zi zg=>?_)
          have e4:iA key (bM (l.take i.toNat)++(x.ops.take j.toNat).map (eD x))++[⟨o,⟨x.place,t,o.no⟩,pz x.when⟩]=iA key (bM (l.take i.toNat)++(x.ops.take (j+1).toNat).map (eD x)):=by
           rw[CU,pD,if_pos ⟨hmem,hkey⟩]
          try simp only[aQ]
          refine Ya [zR 7] [92,86,91] [zS 7 zi (k1+1) zg] ?_
          try simp only[aQ]
          refine aC ?_
          try simp only[aQ]
          refine jT [(0,true),(1,true),(2,false)] [] ?_
          refine Ya [zR 0,.rd 1 (ek 3 3) 0 0] [] [zV 93 (.map (some (aN 0))),zV 94 (.agg #[nI x.place,nI t,nI o.no])] ?_
          refine qK 0 (aN 0) 216 177 4 dA (.agg #[.int .i64 x.place,.int .i64 t,.int .i64 o.no]) (.bool true) none (by kernel_rfl) (by kernel_rfl) (by kernel_rfl) jC (by first|exact⟨_,_,_,rfl⟩|simp[MapKept.IsKey]) rfl yb (fun F0 nO qU y8=>?_)
          try simp only[aQ]
          refine aC ?_
          try simp only[aQ]
          refine eu ?_
          try simp only[aQ]
          refine Zp [.rd 0 [] 0 1,zR 1] [] [zI 61 (j+1)] (oC (show IntKind.i64.wrap (j+1)=j+1 from wrap_i64 (by omega) (by omega)) oN) ?_
          try simp only[aQ]
          rw[e4]
          refine bC ⟨j+1,_,_,_,_,_⟩ [0,1,4,5,6,7,8,9,10,11,21,22,23,59,60,61] [0,1] [0] [0,1,2,3,4,5] ?_ ?_ (by kernel_rfl) rfl rfl rfl
          ·exact hin _ _ qU rfl
          ·simp only
           omega
         ·have hkb:(o.key.toList==key.toList)=false:=by rw[G4,decide_eq_false hkey]
          have e4:iA key (bM (l.take i.toNat)++(x.ops.take j.toNat).map (eD x))=iA key (bM (l.take i.toNat)++(x.ops.take (j+1).toNat).map (eD x)):=by
           rw[CU,pD,if_neg (fun h=>hkey h.2),bf]
          refine Yp (bh 3 6++[.rd 6 [.o 2 none] 0 0,zR 7,.rd 8 [] 0 7,zR 9]) [78,76,77] [zB 85 false] (oC (show(o.key.toList==key.toList)=false from by assumption) oN) ?_
          refine aC ?_
          refine cF ?_
          refine aG ?_
          refine jT [(0,true),(1,true),(2,false)] [] ?_
          refine Ya [zR 0,.rd 1 (ek 3 3) 0 0] [85] [zV 93 (.map (some (aN 0))),zV 94 (.agg #[nI x.place,nI t,nI o.no])] ?_
          refine qK 0 (aN 0) 216 177 4 dA (.agg #[.int .i64 x.place,.int .i64 t,.int .i64 o.no]) (.bool true) none (by kernel_rfl) (by kernel_rfl) (by kernel_rfl) jC (by first|exact⟨_,_,_,rfl⟩|simp[MapKept.IsKey]) rfl yb (fun F0 nO qU y8=>?_)
          refine aC (eu ?_)
          refine Zp [.rd 0 [] 0 1,zR 1] [] [zI 61 (j+1)] (oC (show IntKind.i64.wrap (j+1)=j+1 from wrap_i64 (by omega) (by omega)) oN) ?_
          rw[e4]
          refine bC ⟨j+1,_,_,_,_,_⟩ [0,1,4,5,6,7,8,9,10,11,21,22,23,59,60,61] [0,1] [0] [0,1,2,3,4,5] ?_ ?_ (by kernel_rfl) rfl rfl rfl
          ·exact hin _ _ qU rfl
          ·simp only
           omega
        ·rw[tQ hmem]at hv
         cases hv
      ·have oP:(x.ops.take j.toNat)=x.ops:=br (by simp at tK;omega)
       rw[oP,u9 hi0 hx]at yb
       rw[oP,u9 hi0 hx]
       refine dO rfl ?_
       refine eu ?_
       refine Zp [.rd 0 [] 0 1,zR 1] [62] [zI 23 (i+1)] (oC (show IntKind.i64.wrap (i+1)=i+1 from wrap_i64 (by omega) (by omega)) oN) ?_
       refine bC ⟨i+1,_,_,_,_,_⟩ [0,1,4,5,6,7,21,22,23] [0] [0] [0,1,2,3] ?_ ?_ (by kernel_rfl) rfl rfl rfl
       ·refine⟨by simp only;omega,by simp only;omega,fun q hq=>?_,yb⟩
        by_cases R8:q=i.toNat
        ·subst R8
         exact tf hx Bl (by rw[hfl];exact hlen)
        ·exact hno q (by simp only at hq;omega)
       ·simp only
        omega
     ·have hit:k6 l=⟨3,i⟩:=by rw[nV hno (by omega) (Ba hx Bl (by rw[hfl];exact hlen)) (by decide)];congr 1;omega
      try simp only[aQ]
      refine Zp (bh 0 4++[.rd 4 [.o 1 none] 0 0,zR 5,zR 6,.rd 7 [] 0 2,zR 8,.rd 9 [.r 2 (some (.slice (wI,oV).fst ((aj eI c0.when).length) oV))] 0 0,zR 10,.rd 11 [] 0 6,zR 12]) [] [zB 43 true] (oC (show(0:Int)≤(0:Int) from by omega) (oC (show(0:Int)<(↑l.length:Int) from by omega) (oC gI (oC (show((↑(aj eI x.when).length:Int) != (↑(aj eI c0.when).length:Int))=true from by simp;omega) oN)))) ?_
      refine gR ?_
      refine Zp [.rd 0 [.r 1 (some (.iface 390 (.pointer (some (er 3)))))] 0 0,zR 1] [43] [zV 10 (.iface 390 (.pointer (some (er 3))))] (oC gu oN) ?_
      refine aq ?_
      refine Zs [zR 0,zR 1] [] [zB 46 true] ?_
      refine gR ?_
      refine Zv (bh 0 3++[.wr 3 [] 0]++bh 4 7) [] [46] (fun eR=>[zV 5 (.iface 202 (.pointer (sA (eR 0) 0)))]) o0 (fun eR=>[(eR 0,.cells #[nI i,.iface 390 (.pointer (some (er 3)))] 204 (0,0))]) (fun eR=>?_)
      refine Yr [[],[]] (.tuple #[.slice none 0 0,.iface 202 (.pointer (sA (eR 0) 0))]) fun a w s=>?_
      rw[hit]
      exact .inl ⟨by simp,.inr ⟨by simp,by simp only;omega,_,((s.share 2 rfl).jz (fB fun w S H=>l6 rfl rfl (H (_,_) (ae (i:=8) rfl)))).ret (by simp) [] [9] rfl rfl⟩⟩
    ·have hit:k6 l=⟨(aY x).code,i⟩:=by rw[nV hno (by omega) (uZ hx Bl) Bl];congr 1;omega
     try simp only[aQ]
     refine Ya [zR 3] [30,29,28] [zV 10 (.iface 390 (.pointer (some (er (aY x).code))))] ?_
     refine aC (aq ?_)
     refine Zs (bh 0 3++[.rd 3 [] 1 0,.rd 4 [] 1 0,.rd 5 [] 1 0,.rd 6 [] 1 0,.rd 7 [] 1 0,.rd 8 [] 1 0,.rd 9 [] 1 0,.rd 10 [] 1 0,.rd 11 [] 1 0,zR 12]) [] [zB 43 false] ?_
     refine cF ?_
     refine aG (aq ?_)
     refine Zs [zR 0,zR 1] [43] [zB 46 true] ?_
     refine gR ?_
     refine Zv (bh 0 3++[.wr 3 [] 0]++bh 4 7) [] [46] (fun eR=>[zV 5 (.iface 202 (.pointer (sA (eR 0) 0)))]) o0 (fun eR=>[(eR 0,.cells #[nI i,.iface 390 (.pointer (some (er (aY x).code)))] 204 (0,0))]) (fun eR=>?_)
     refine Yr [[],[]] (.tuple #[.slice none 0 0,.iface 202 (.pointer (sA (eR 0) 0))]) fun a w s=>?_
     rw[hit]
     exact .inl ⟨Bl,.inr ⟨by simp only;omega,by simp only;omega,_,((s.share 2 rfl).jz (fB fun w S H=>l6 rfl rfl (H (_,_) (ae (i:=6) rfl)))).ret (by simp) [] [7] rfl rfl⟩⟩
   ·refine⟨_,_,_,hR,?_⟩
    have Bl:(aY x).code≠0:=by omega
    have hit:k6 l=⟨(aY x).code,i⟩:=by rw[nV hno (by omega) (uZ hx Bl) Bl];congr 1;omega
    try simp only[aQ]
    refine Yc 164 #[.iface 202 (.pointer (sA pb 0))] (some 30) fun w S hG=>?_
    refine(RR (hG.at 0 rfl) (hG.at 6 rfl)).mono ?_
    rintro e2 w2 hR
    refine⟨_,_,_,hR,?_⟩
    try simp only[aQ]
    refine Ya [zR 3] [30,29,28] [zV 10 (.iface 390 (.pointer (some (er (aY x).code))))] ?_
    refine aC (aq ?_)
    refine Zs (bh 0 3++[.rd 3 [] 1 0,.rd 4 [] 1 0,.rd 5 [] 1 0,.rd 6 [] 1 0,.rd 7 [] 1 0,.rd 8 [] 1 0,.rd 9 [] 1 0,.rd 10 [] 1 0,.rd 11 [] 1 0,zR 12]) [] [zB 43 false] ?_
    refine cF ?_
    refine aG (aq ?_)
    refine Zs [zR 0,zR 1] [43] [zB 46 true] ?_
    refine gR ?_
    refine Zv (bh 0 3++[.wr 3 [] 0]++bh 4 7) [] [46] (fun eR=>[zV 5 (.iface 202 (.pointer (sA (eR 0) 0)))]) o0 (fun eR=>[(eR 0,.cells #[nI i,.iface 390 (.pointer (some (er (aY x).code)))] 204 (0,0))]) (fun eR=>?_)
    refine Yr [[],[]] (.tuple #[.slice none 0 0,.iface 202 (.pointer (sA (eR 0) 0))]) fun a w s=>?_
    rw[hit]
    exact .inl ⟨Bl,.inr ⟨by simp only;omega,by simp only;omega,_,((s.share 2 rfl).jz (fB fun w S H=>l6 rfl rfl (H (_,_) (ae (i:=7) rfl)))).ret (by simp) [] [8] rfl rfl⟩⟩
  ·have vM:l.take i.toNat=l:=br (by simp at hlt;omega)
   rw[vM]
   have hz:=ru fun j hj=>hno j (by simp at hlt;omega)
   have EA:=rT (Hu (i:=l.length) (fun j hj=>hno j (by simp at hlt;omega)) (aX _))
   rw[iP]at EA
   rw[hz]
   refine dO rfl ?_
   refine jS [(0,true),(1,false)] [] ?_
   refine Ya [zR 0] [24,0,1,6,21,22,23] [zS 97 av k cv] ?_
   refine cn [] [0] 196 #[.slice av k cv,.func (.func 197) #[] #[]] (some 98) (by kernel_rfl) (by kernel_rfl) (by decide) (fun w S M hP hG _=>?_)
   refine(BK hP (by have:=qC key (bM l);omega) (xO key (bM l))).mono ?_
   rintro e5 w5 hR
   refine⟨_,_,_,hR,?_⟩
   try simp only[aQ]
   refine aC ?_
   try simp only[aQ]
   refine aq ?_
   try simp only[aQ]
   refine Za (bh 0 3) [98,97,7] [zS 4 av k cv] ?_
   try simp only[aQ]
   refine Yr [[],[]] (.tuple #[.slice av k cv,.nilIface]) fun a w s=>?_
   have s2:=s.jz (dg 0 rfl)
   exact .inr ⟨trivial,_,_,_,s2.ret (by simp) [] [4] rfl rfl⟩
end Go.Proofs.YtmkapocibaojdaaGreatDoor
end
section
namespace Go.Proofs.YtmkapocibaojdaaGreatDoor
open Go Go.Sx
theorem Ko {α:Type} {l:List α} (h:l.length=1):∃x,l=[x]:=by
 match l,h with
 | [x],_=>exact⟨x,rfl⟩
set_option maxHeartbeats 4000000 in
theorem Gb {w0:World} {S:Nat→Prop} {a:Option Addr} {n c:Nat} {xs:List bE} (ha:cm w0 S (.slice a n c) (.sl 11 (xs.map gg))) (hl:xs.length≤4000000) :
  Calls Tryz.prog 201 #[.slice a n c] w0 fun e w'=>∃a' c',cQ [] w0 S w' e (.slice a' n c') [aT (.slice a' n c') 271 11 (xs.map gg)] []:=by
 have hlen:=ha.pA
 rw[aA]at hlen
 subst hlen
 cases a with
 | none=>
  have h0:xs=[]:=by simpa using ux ha
  subst h0
  refine jL Tryz.func201 LY (args:=[.slice none ([]:List bE).length c]) (S:=S) (G:=[]) (by kernel_rfl) (.nil _ _) ?_
  refine bH (fO gg 271 11) ?_
  try simp only[aQ]
  refine Zs [zR 0] [] [zS 2 none 0 0] ?_
  refine aq ?_
  refine Zs [zR 0,zR 1] [] [zB 4 true] ?_
  refine gR ?_
  refine Zs [zR 0] [4] [] ?_
  refine Yr [[]] (.slice none 0 0) fun a w s=>?_
  exact⟨none,0,s.ret (by simp) [0] [] rfl rfl⟩
 | some ad=>
  refine jL Tryz.func201 LY (args:=[.slice (some ad) xs.length c]) (G:=[(_,.sl 11 (xs.map gg))]) (by kernel_rfl) (.cons ha (.nil _ _)) ?_
  refine Zs [zR 0] [] [zS 2 none 0 0] ?_
  refine aq ?_
  refine Zs [zR 0,zR 1] [] [zB 4 false] ?_
  refine cF ?_
  refine aG ?_
  refine jS [(0,false),(1,true),(2,false),(3,true)] [] ?_
  refine Ym [.wr 0 [] 0,zR 1] [4,0] (fun aN=>[zS 5 (sA (aN 0) 0) 0 0,zS 6 (some ad) xs.length c]) o0 (fun aN=>[(aN 0,.cells #[] 271 (0,0))]) [] (fun aN=>?_)
  refine vg gg 0 11 rfl (by kernel_rfl) (by decide) ?_
  refine eY 0 265 271 11 120 (.agg #[.int .i64 0,.string (aL #[]),.int .i64 0,.string (aL #[]),.int .i64 0,.bool false,.slice none 0 0,.int .i64 0,.int .i64 0,.int .i64 0,.int .i64 0]) (a0:=(some (⟨aN 0,0,none⟩))) (len:=0) (iB:=0) (ax:=(some ad)) (m:=xs.length) (c:=c) (dst:=(some 7)) xs (by kernel_rfl) (by kernel_rfl) (by kernel_rfl) (by kernel_rfl) rfl (by decide) rfl (fun _ _ _ s=>pK s 0 rfl (by decide)) (by simp only[maxLen];omega) (by omega) (fun gq gp=>?_)
  rw[aK]
  try simp only[aQ]
  refine Ya [zR 3] [7,5,6] [zS 2 gq xs.length gp] ?_
  try simp only[aQ]
  refine aC ?_
  try simp only[aQ]
  refine Yr [[]] (.slice gq xs.length gp) fun a w s=>?_
  exact⟨_,_,s.ret (by simp) [0] [] rfl rfl⟩
set_option maxHeartbeats 4000000 in
theorem LJ {w:World} {S:Nat→Prop} {m:bE} {v1:Value} {seq:Int} {b:Nat} (_:v1.oneCell'=true) (h:cm w S (.pointer (some ⟨b,0,none⟩)) (.ptr [.v (.int .i64 seq)])):Calls Tryz.prog 202 #[yB m v1,.pointer (some ⟨b,0,none⟩)] w fun e w'=>cQ [] w S w' e (.bool (!decide (m.o.kind=seq))) [] []:=by
 refine jL Tryz.func202 Q6 (args:=[yB m v1,.pointer (some ⟨b,0,none⟩)]) (G:=[(_,.ptr [.v (.int .i64 seq)])]) (by kernel_rfl) (.cons h (.nil _ _)) ?_
 refine di 0 rfl (fun ni mW ng dh=>?_)
 refine Zv [.wr 0 [] 0,zR 1] [] [0] (fun aN=>[zP 2 (aN 0),zB 3 false]) o0 (fun aN=>[(aN 0,.cells #[nI m.o.no,.string m.o.key,nI m.o.kind,.string m.o.text,nI m.o.n,.bool m.o.remove,v1,nI m.d.place,nI m.d.time,nI m.d.no,nI m.w] 271 (0,0))]) (fun aN=>?_)
 refine Zt [zR 0,zR 1,.rd 2 [.o 0 none] 0 0,.rd 3 [.r 0 (some (nI seq))] 0 0,zR 4,zR 5] [2,1] [zB 3 (m.o.kind != seq)] (oC dh oN) ?_
 refine Yr [[]] (.bool (m.o.kind != seq)) fun a w s=>?_
 all_goals first|assumption|exact s.ret (by simp) [] [] rfl rfl
set_option maxHeartbeats 4000000 in
theorem FM {w:World} {S:Nat→Prop} {M:List Nat} {a:Option Addr} {n c:Nat} {L:List bE} {seq:Int} {b:Nat} (hP:Pre w S M [aT (.slice a n c) 271 11 (L.map gg)]) (hl:L.length≤4000000) (h:cm w S (.pointer (some ⟨b,0,none⟩)) (.ptr [.v (.int .i64 seq)])) :
  Calls Tryz.prog 220 #[.slice a n c,.func (.func 202) #[] #[.pointer (some ⟨b,0,none⟩)]] w fun e w'=>∃r:Int,cQ M w S w' e (.int .i64 r) [aT (.slice a n c) 271 11 (L.map gg)] [] ∧
   ((r = -1∧∀x∈L,x.o.kind=seq)∨(0≤r∧r<L.length∧(∃x,L[r.toNat]?=some x∧¬x.o.kind=seq)∧∀x∈L.take r.toNat,x.o.kind=seq)):=by
 refine pW Tryz.func220 Q0 (args:=[.slice a n c,.func (.func 202) #[] #[.pointer (some ⟨b,0,none⟩)]]) (S:=S) (C:=[aT (.slice a n c) 271 11 (L.map gg)]) (G:=[(_,.ptr [.v (.int .i64 seq)])]) (by kernel_rfl) hP (.cons h (.nil _ _)) ?_
 refine b9 (eC 0 rfl) fun _ hk=>?_
 rw[aA]at hk
 subst hk
 refine Zs [zR 0] [] [zI 4 0] ?_
 refine aq ?_
 refine Zs (bh 0 3) [] [zI 7 (↑L.length:Int),zI 8 0] ?_
 refine aM ?_
 refine cU (fun i:Int=>[zS 0 a L.length c,zV 1 (.func (.func 202) #[] #[.pointer (sA b 0)]),zI 4 0,zI 7 (↑L.length:Int),zI 8 i]) (fun i:Int=>[]) (fun i:Int=>[aT (.slice a L.length c) 271 11 (L.map gg)]) (fun i:Int=>[(.pointer (sA b 0),(D.ptr [D.v (nI seq)]))]) (fun i:Int=>(L.length - i).toNat) (fun i:Int=>(0≤i∧i≤L.length∧∀x∈L.take i.toNat,x.o.kind=seq)) 0 [0,1,4,7,8] [] [0] [0] ?_ (by kernel_rfl) rfl rfl rfl ?_
 ·exact⟨by simp,by omega,by simp⟩
 rintro i ⟨hi0,hi,hno⟩
 refine Zs [zR 0] [] [zB 9 (decide (i<(↑L.length:Int)))] ?_
 refine aq ?_
 refine cC (t:=decide (i<(↑L.length:Int))) (fun hlt=>?_) (fun hlt=>?_)
 ·have fa:i<L.length:=by simpa using hlt
  obtain⟨x,hx⟩:∃x,L[i.toNat]?=some x:=⟨_,ak (by omega)⟩
  refine kj 0 rfl (by intro h0;rw[cM]at h0;rw[h0]at hx;simp at hx) fun g cur xs hu _ _ hrow=>?_
  subst hu
  refine b9 (jj 0 rfl i.toNat (dD hx)) fun ls hls=>?_
  obtain⟨qD,oU⟩:=hls
  obtain⟨⟨xa,xc⟩,rfl⟩:∃l0,ls=[l0]:=Ko qD
  have f:=fun(j:Nat) v h=>hrow.L6 (oU j v h)
  have r0:cur[0+i.toNat*11]?=some (.int .i64 x.o.no):=by rw[aK];exact f 0 _ rfl
  have r1:cur[0+i.toNat*11+1]?=some (.string x.o.key):=by rw[aK];exact f 1 _ rfl
  have r2:cur[0+i.toNat*11+2]?=some (.int .i64 x.o.kind):=by rw[aK];exact f 2 _ rfl
  have r3:cur[0+i.toNat*11+3]?=some (.string x.o.text):=by rw[aK];exact f 3 _ rfl
  have r4:cur[0+i.toNat*11+4]?=some (.int .i64 x.o.n):=by rw[aK];exact f 4 _ rfl
  have r5:cur[0+i.toNat*11+5]?=some (.bool x.o.remove):=by rw[aK];exact f 5 _ rfl
  have r6:cur[0+i.toNat*11+6]?=some (.slice xa (x.o.bF.map bK).length xc):=by rw[aK];exact f 6 _ rfl
  have r7:cur[0+i.toNat*11+7]?=some (.int .i64 x.d.place):=by rw[aK];exact f 7 _ rfl
  have r8:cur[0+i.toNat*11+8]?=some (.int .i64 x.d.time):=by rw[aK];exact f 8 _ rfl
  have r9:cur[0+i.toNat*11+9]?=some (.int .i64 x.d.no):=by rw[aK];exact f 9 _ rfl
  have Tp:cur[0+i.toNat*11+10]?=some (.int .i64 x.w):=by rw[aK];exact f 10 _ rfl
  try simp only[aQ]
  refine aG ?_
  try simp only[aQ]
  refine aq ?_
  try simp only[aQ]
  refine aM ?_
  try simp only[aQ]
  refine aq ?_
  try simp only[aQ]
  refine Za [zR 0,zR 1] [9] [zI 5 i] ?_
  try simp only[aQ]
  refine aq ?_
  try simp only[aQ]
  refine jT [(0,true),(1,true),(2,true),(3,true),(4,true),(5,false)] [] ?_
  refine Yp (bh 0 3++[.rd 3 [] 0 2,.rd 4 [.o 0 (some (nI x.o.no)),.o 0 (some (.string x.o.key)),.o 0 (some (nI x.o.kind)),.o 0 (some (.string x.o.text)),.o 0 (some (nI x.o.n)),.o 0 (some (.bool x.o.remove)),.o 0 (some (.slice xa ((aj bK x.o.bF).length) xc)),.o 0 (some (nI x.d.place)),.o 0 (some (nI x.d.time)),.o 0 (some (nI x.d.no)),.o 0 (some (nI x.w))] 0 0]) [] [zV 11 (.func (.func 202) #[] #[.pointer (sA b 0)]),zV 15 (.agg #[nI x.o.no,.string x.o.key,nI x.o.kind,.string x.o.text,nI x.o.n,.bool x.o.remove,.slice xa ((aj bK x.o.bF).length) xc,nI x.d.place,nI x.d.time,nI x.d.no,nI x.w])] (oC hi0 (oC fa (oC r0 (oC r1 (oC r2 (oC r3 (oC r4 (oC r5 (oC r6 (oC r7 (oC r8 (oC r9 (oC Tp oN))))))))))))) ?_
  refine Yc 202 #[.agg #[nI x.o.no,.string x.o.key,nI x.o.kind,.string x.o.text,nI x.o.n,.bool x.o.remove,.slice xa ((aj bK x.o.bF).length) xc,nI x.d.place,nI x.d.time,nI x.d.no,nI x.w],.pointer (sA b 0)] (some 16) fun w S hG=>?_
  refine(LJ (m:=x) rfl (hG.at 0 rfl)).mono ?_
  rintro e w2 hR
  refine⟨_,_,_,hR,?_⟩
  try simp only[aQ]
  refine aC ?_
  try simp only[aQ]
  refine js 0 rfl ?_
  refine bH (gw 1 0 rfl rfl hrow (by decide)) ?_
  rw[show(aj gg L).length=L.length from aA ..]
  refine cC (t:=!decide (x.o.kind=seq)) (fun hb=>?_) (fun hb=>?_)
  ·try simp only[aQ]
   refine aq ?_
   try simp only[aQ]
   refine Za [zR 0,zR 1] [16] [zI 4 i] ?_
   try simp only[aQ]
   refine Yr [[]] (nI i) fun a w s=>?_
   exact⟨i,s.ret (by simp) [0] [] rfl rfl,.inr ⟨hi0,fa,⟨x,hx,by simpa using hb⟩,hno⟩⟩
  ·try simp only[aQ]
   refine aG ?_
   try simp only[aQ]
   refine eu ?_
   try simp only[aQ]
   refine Zp [.rd 0 [] 0 1,zR 1] [16] [zI 8 (i+1)] (oC (show IntKind.i64.wrap (i+1)=i+1 from wrap_i64 (by omega) (by omega)) oN) ?_
   try simp only[aQ]
   refine bC (i+1) [0,1,4,7,8] [] [0] [0] ?_ ?_ (by kernel_rfl) rfl rfl rfl
   ·refine⟨by omega,by omega,fun y hy=>?_⟩
    rw[←dz hi0 hx,au,ay]at hy
    rcases hy with hy|rfl
    ·exact hno y hy
    ·simpa using hb
   ·omega
 ·have e:bZ i.toNat L=L:=br (by simp at hlt;omega)
  rw[e]at hno
  refine dO rfl ?_
  refine Zs [zR 0] [9,0,1,7,8] [zI 4 (-1)] ?_
  refine Yr [[]] (nI (-1)) fun a w s=>?_
  exact⟨-1,s.ret (by simp) [0] [] rfl rfl,.inl ⟨rfl,hno⟩⟩
def sW (L:List bE) (seq:Int):List bE:=L.filter fun m=>decide (m.o.kind=seq)
theorem zQ {L:List bE} {seq:Int} (h:∀x∈L,x.o.kind=seq):sW L seq=L:=fk.2 fun x hx=>by simpa using h x hx
theorem tE {L:List bE} {seq:Int} {x:bE}:sW (L++[x]) seq=sW L seq++if x.o.kind=seq then [x]else []:=by
 unfold sW
 rw[dm]
 congr 1
 by_cases h:x.o.kind=seq <;> simp[h]
theorem Fi {L:List bE} {i:Nat} {x:bE} (hi:i<L.length):(L.set i x).take (i+1)=L.take i++[x]:=by
 rw[cV,List.take_set_of_le (aX _)]
 simp[hi]
theorem Fj {L:List bE} {i j:Nat} {x:bE} (hi:i<j):(L.set i x).drop j=L.drop j:=List.drop_set_of_lt hi
structure Ao where
 i:Int
 j:Int
 cur:Array Value
 xs:List Value
 Lc:List bE
structure nZ (L:List bE) (seq:Int) (i j:Int) (Lc:List bE):Prop where
 len:Lc.length=L.length
 take:Lc.take i.toNat=sW (L.take j.toNat) seq
 drop:Lc.drop j.toNat=L.drop j.toNat
theorem nZ.at {L Lc:List bE} {seq i j:Int} {x:bE} (h:nZ L seq i j Lc) (hx:L[j.toNat]?=some x):Lc[j.toNat]?=some x:=by
 have h1:(Lc.drop j.toNat)[0]?=(L.drop j.toNat)[0]?:=by rw[h.drop]
 rw[cq,cq,dZ]at h1
 rw[h1,hx]
theorem nZ.skip {L Lc:List bE} {seq i j:Int} {x:bE} (h:nZ L seq i j Lc) (hj:0≤j) (hx:L[j.toNat]?=some x) (hk:¬x.o.kind=seq):nZ L seq i (j+1) Lc:=by
 refine⟨h.len,?_,?_⟩
 ·rw[h.take,←dz hj hx,tE,if_neg hk,bf]
 ·rw[show(j+1).toNat=j.toNat+1 by omega,←fH,←fH,h.drop]
theorem nZ.keep {L Lc:List bE} {seq i j:Int} {x:bE} (h:nZ L seq i j Lc) (hi:0≤i) (hij:i<j) (hj:j<L.length) (hx:L[j.toNat]?=some x) (hk:x.o.kind=seq):nZ L seq (i+1) (j+1) (Lc.set i.toNat x):=by
 refine⟨by rw[jg];exact h.len,?_,?_⟩
 ·rw[show(i+1).toNat=i.toNat+1 by omega,Fi (by have:=h.len;omega),h.take,←dz (by omega) hx,tE,if_pos hk]
 ·rw[Fj (by omega),show(j+1).toNat=j.toNat+1 by omega,←fH,←fH,h.drop]
set_option maxHeartbeats 4000000 in
theorem DP {w:World} {S:Nat→Prop} {M:List Nat} {a:Option Addr} {n c:Nat} {L:List bE} {seq:Int} {b:Nat} (hP:Pre w S M [aT (.slice a n c) 271 11 (L.map gg)]) (hl:L.length≤4000000) (h:cm w S (.pointer (some ⟨b,0,none⟩)) (.ptr [.v (.int .i64 seq)])) :
  Calls Tryz.prog 200 #[.slice a n c,.func (.func 202) #[] #[.pointer (some ⟨b,0,none⟩)]] w fun e w'=>∃a' n' c',cQ M w S w' e (.slice a' n' c') [aT (.slice a' n' c') 271 11 ((sW L seq).map gg)] []:=by
 refine pW Tryz.func200 Q7 (args:=[.slice a n c,.func (.func 202) #[] #[.pointer (some ⟨b,0,none⟩)]]) (S:=S) (C:=[aT (.slice a n c) 271 11 (L.map gg)]) (G:=[(_,.ptr [.v (.int .i64 seq)])]) (by kernel_rfl) hP (.cons h (.nil _ _)) ?_
 refine b9 (eC 0 rfl) fun _ hk=>?_
 rw[aA]at hk
 subst hk
 refine Zs [zR 0] [] [zS 4 none 0 0] ?_
 refine jS [(0,true),(1,true),(2,false),(3,true)] [] ?_
 refine Ya [zR 0,zR 1] [] [zS 8 a L.length c,zV 9 (.func (.func 202) #[] #[.pointer (sA b 0)])] ?_
 refine cn [] [0] 220 #[.slice a L.length c,.func (.func 202) #[] #[.pointer (some (⟨b,0,none⟩))]] (some 10) (by kernel_rfl) (by kernel_rfl) (by decide) (fun w S M hP hG _=>?_)
 refine(FM hP hl (hG.at 0 rfl)).mono ?_
 rintro e1 w1 ⟨r,hR,hr⟩
 refine⟨_,_,_,hR,?_⟩
 obtain⟨rfl,hall⟩|⟨FR,VB,⟨y,hy,hys⟩,Ig⟩:=hr
 ·try simp only[aQ]
  refine Ya [zR 3] [10,8,9] [zI 5 (-1)] ?_
  try simp only[aQ]
  refine aC ?_
  try simp only[aQ]
  refine aq ?_
  try simp only[aQ]
  refine aq ?_
  try simp only[aQ]
  refine Za [zR 0,zR 1] [] [zB 12 true] ?_
  try simp only[aQ]
  refine gR ?_
  try simp only[aQ]
  refine aq ?_
  try simp only[aQ]
  refine Za [zR 0,zR 1] [12] [zS 4 a L.length c] ?_
  try simp only[aQ]
  refine Yr [[]] (.slice a L.length c) fun a w s=>?_
  rw[zQ hall]
  exact⟨_,_,_,s.ret (by simp) [0] [] rfl rfl⟩
 ·have Vz:¬r = -1:=by omega
  try simp only[aQ]
  refine Ya [zR 3] [10,8,9] [zI 5 r] ?_
  try simp only[aQ]
  refine aC ?_
  try simp only[aQ]
  refine aq ?_
  try simp only[aQ]
  refine aq ?_
  try simp only[aQ]
  refine Zp [zR 0,.rd 1 [] 0 7] [] [zB 12 false] (oC (show(r==(-1:Int))=false from by simp;omega) oN) ?_
  try simp only[aQ]
  refine cF ?_
  try simp only[aQ]
  refine aG ?_
  try simp only[aQ]
  refine aq ?_
  try simp only[aQ]
  refine aq ?_
  try simp only[aQ]
  refine Zp [zR 0,.rd 1 [] 0 1,zR 2] [12] [zI 6 (r+1)] (oC (show IntKind.i64.wrap (r+1)=r+1 from wrap_i64 (by omega) (by omega)) oN) ?_
  try simp only[aQ]
  refine aM ?_
  try simp only[aQ]
  refine kj 0 rfl (by intro h0;rw[cM]at h0;rw[h0]at hy;simp at hy) fun g IJ Oi hu _ _ rD=>?_
  subst hu
  rw[aA]at rD
  have hcap:L.length≤c:=rD.le
  have sZ:(L.take (r+1).toNat).filter (fun m=>decide (m.o.kind=seq))=L.take r.toNat:=by
   have:=tE (L:=L.take r.toNat) (seq:=seq) (x:=y)
   rw[dz FR hy,zQ Ig,if_neg hys,bf]at this
   exact this
  refine cU (fun x:Ao=>[zS 0 (sA g 0) L.length c,zV 1 (.func (.func 202) #[] #[.pointer (sA b 0)]),zS 4 none 0 0,zI 5 x.i,zI 6 x.j]) (fun x:Ao=>[(g,.cells x.cur 271 (0,0))]) (fun x:Ao=>[kM x.xs 11 (x.Lc.map gg)]) (fun x:Ao=>[(.pointer (sA b 0),(D.ptr [D.v (nI seq)]))]) (fun x:Ao=>(L.length - x.j).toNat) (fun x:Ao=>(0≤x.i∧x.i<x.j∧x.j≤L.length∧Row x.cur c L.length 11 x.xs∧nZ L seq x.i x.j x.Lc)) ⟨r,r+1,IJ,Oi,L⟩ [0,1,4,5,6] [0] [0] [0] ?_ (by kernel_rfl) rfl rfl rfl ?_
  ·exact⟨FR,by simp only;omega,by simp only;omega,rD,⟨rfl,sZ.symm,rfl⟩⟩
  rintro⟨i,j,cu,xs,Lc⟩ ⟨hi0,hij,hj,hrow,hinv⟩
  dsimp only at hi0 hij hj hrow hinv ⊢
  refine aq ?_
  refine Zs (bh 0 4) [] [zB 19 (decide (j<(↑L.length:Int)))] ?_
  refine cC (t:=decide (j<(↑L.length:Int))) (fun hlt=>?_) (fun hlt=>?_)
  ·have fa:j<L.length:=by simpa using hlt
   obtain⟨x,hx⟩:∃x,L[j.toNat]?=some x:=⟨_,ak (by omega)⟩
   have PU:=hinv.at hx
   refine b9 (jj 0 rfl j.toNat (dD PU)) fun ls hls=>?_
   obtain⟨qD,oU⟩:=hls
   obtain⟨⟨xa,xc⟩,rfl⟩:∃l0,ls=[l0]:=Ko qD
   have f:=fun(j:Nat) v h=>hrow.L6 (oU j v h)
   have r0:cu[0+j.toNat*11]?=some (.int .i64 x.o.no):=by rw[aK];exact f 0 _ rfl
   have r1:cu[0+j.toNat*11+1]?=some (.string x.o.key):=by rw[aK];exact f 1 _ rfl
   have r2:cu[0+j.toNat*11+2]?=some (.int .i64 x.o.kind):=by rw[aK];exact f 2 _ rfl
   have r3:cu[0+j.toNat*11+3]?=some (.string x.o.text):=by rw[aK];exact f 3 _ rfl
   have r4:cu[0+j.toNat*11+4]?=some (.int .i64 x.o.n):=by rw[aK];exact f 4 _ rfl
   have r5:cu[0+j.toNat*11+5]?=some (.bool x.o.remove):=by rw[aK];exact f 5 _ rfl
   have r6:cu[0+j.toNat*11+6]?=some (.slice xa (x.o.bF.map bK).length xc):=by rw[aK];exact f 6 _ rfl
   have r7:cu[0+j.toNat*11+7]?=some (.int .i64 x.d.place):=by rw[aK];exact f 7 _ rfl
   have r8:cu[0+j.toNat*11+8]?=some (.int .i64 x.d.time):=by rw[aK];exact f 8 _ rfl
   have r9:cu[0+j.toNat*11+9]?=some (.int .i64 x.d.no):=by rw[aK];exact f 9 _ rfl
   have Tp:cu[0+j.toNat*11+10]?=some (.int .i64 x.w):=by rw[aK];exact f 10 _ rfl
   try simp only[aQ]
   refine aG (aq (aM ?_))
   refine Zu [zR 0,zR 1,.rd 2 [] 0 2,.rd 3 [.o 0 (some (nI x.o.no)),.o 0 (some (.string x.o.key)),.o 0 (some (nI x.o.kind)),.o 0 (some (.string x.o.text)),.o 0 (some (nI x.o.n)),.o 0 (some (.bool x.o.remove)),.o 0 (some (.slice xa ((aj bK x.o.bF).length) xc)),.o 0 (some (nI x.d.place)),.o 0 (some (nI x.d.time)),.o 0 (some (nI x.d.no)),.o 0 (some (nI x.w))] 0 0,.wr 4 [] 0,.wr 5 (ek 1 11) 0] [(5,[])] [19] (fun aN=>[zP 7 (aN 0)]) o0 (fun aN=>[(aN 0,.cells #[nI x.o.no,.string x.o.key,nI x.o.kind,.string x.o.text,nI x.o.n,.bool x.o.remove,.slice xa ((aj bK x.o.bF).length) xc,nI x.d.place,nI x.d.time,nI x.d.no,nI x.w] 271 (0,0))]) (fun aN=>(oC (show 0≤j from by omega) (oC fa (oC r0 (oC r1 (oC r2 (oC r3 (oC r4 (oC r5 (oC r6 (oC r7 (oC r8 (oC r9 (oC Tp oN)))))))))))))) (fun aN=>?_)
   refine jS [(0,true),(1,true),(2,false),(3,true)] [] ?_
   refine Ya [zR 0,.rd 1 (ek 1 11) 0 0] [] [zV 26 (.func (.func 202) #[] #[.pointer (sA b 0)]),zV 27 (.agg #[nI x.o.no,.string x.o.key,nI x.o.kind,.string x.o.text,nI x.o.n,.bool x.o.remove,.slice xa ((aj bK x.o.bF).length) xc,nI x.d.place,nI x.d.time,nI x.d.no,nI x.w])] ?_
   refine Yc 202 #[.agg #[nI x.o.no,.string x.o.key,nI x.o.kind,.string x.o.text,nI x.o.n,.bool x.o.remove,.slice xa ((aj bK x.o.bF).length) xc,nI x.d.place,nI x.d.time,nI x.d.no,nI x.w],.pointer (sA b 0)] (some 28) fun w S hG=>?_
   refine(LJ (m:=x) rfl (hG.at 0 rfl)).mono ?_
   rintro e w2 hR
   refine⟨_,_,_,hR,?_⟩
   try simp only[aQ]
   refine Ya [zR 3] [28,26,27] [zB 29 (!!decide (x.o.kind=seq))] ?_
   refine aC ?_
   refine cC (t:=!!decide (x.o.kind=seq)) (fun hb=>?_) (fun hb=>?_)
   ·have hkeep:x.o.kind=seq:=by simpa using hb
    have hsz:=hrow.Ei
    have LR:=hinv.len
    have T9:0+i.toNat*11+11≤cu.size:=by omega
    refine jS [(0,true),(1,true),(2,true),(3,true),(4,false)] [] ?_
    refine Yp [zR 0,zR 1,.rd 2 (ek 1 11) 0 0,.rd 3 [] 0 2] [29] [zV 32 (.agg #[nI x.o.no,.string x.o.key,nI x.o.kind,.string x.o.text,nI x.o.n,.bool x.o.remove,.slice xa ((aj bK x.o.bF).length) xc,nI x.d.place,nI x.d.time,nI x.d.no,nI x.w]),zV 33 (.pointer (sA g (0+i.toNat*11)))] (oC hi0 (oC (show i<(↑L.length:Int) from by omega) oN)) ?_
    refine rW 0 g (0+i.toNat*11) 271 271 (.agg #[.int .i64 x.o.no,.string x.o.key,.int .i64 x.o.kind,.string x.o.text,.int .i64 x.o.n,.bool x.o.remove,.slice xa ((aj bK x.o.bF).length) xc,.int .i64 x.d.place,.int .i64 x.d.time,.int .i64 x.d.no,.int .i64 x.w]) [.int .i64 x.o.no,.string x.o.key,.int .i64 x.o.kind,.string x.o.text,.int .i64 x.o.n,.bool x.o.remove,.slice xa ((aj bK x.o.bF).length) xc,.int .i64 x.d.place,.int .i64 x.d.time,.int .i64 x.d.no,.int .i64 x.w] none (by kernel_rfl) (by kernel_rfl) (by kernel_rfl) rfl rfl rfl T9 (by simp[Value.oneCell']) ?_
    refine aC ?_
    rw[aK]
    refine bH (tj 0 i.toNat (vs:=[.int .i64 x.o.no,.string x.o.key,.int .i64 x.o.kind,.string x.o.text,.int .i64 x.o.n,.bool x.o.remove,.slice xa (x.o.bF.map bK).length xc,.int .i64 x.d.place,.int .i64 x.d.time,.int .i64 x.d.no,.int .i64 x.w]) (row:=gg x) rfl (by rw[hrow.len,aA,LR]) (by rw[aA];omega) rfl ⟨.inl ⟨rfl,rfl⟩,.inl ⟨rfl,rfl⟩,.inl ⟨rfl,rfl⟩,.inl ⟨rfl,rfl⟩,.inl ⟨rfl,rfl⟩,.inl ⟨rfl,rfl⟩,.inr (.inl (ae (i:=1) rfl)),.inl ⟨rfl,rfl⟩,.inl ⟨rfl,rfl⟩,.inl ⟨rfl,rfl⟩,.inl ⟨rfl,rfl⟩,trivial⟩) ?_
    rw[show(aj gg Lc).set i.toNat (gg x)=aj gg (Lc.set i.toNat x) from mS.symm]
    refine Zp [zR 0,.rd 1 [] 0 1,zR 2] [] [zI 5 (i+1)] (oC (show IntKind.i64.wrap (i+1)=i+1 from wrap_i64 (by omega) (by omega)) oN) ?_
    refine eu ?_
    refine Zp [zR 0,.rd 1 [] 0 1,zR 2] [] [zI 6 (j+1)] (oC (show IntKind.i64.wrap (j+1)=j+1 from wrap_i64 (by omega) (by omega)) oN) ?_
    refine bC ⟨i+1,j+1,_,_,Lc.set i.toNat x⟩ [0,1,4,5,6] [0] [0] [0] ?_ ?_ (by kernel_rfl) rfl rfl rfl
    ·exact⟨by simp only;omega,by simp only;omega,by simp only;omega,hrow.By (by omega) rfl,hinv.keep hi0 hij fa hx hkeep⟩
    ·simp only
     omega
   ·have Is:¬x.o.kind=seq:=by simpa using hb
    refine aG (eu ?_)
    refine Zp [zR 0,.rd 1 [] 0 1,zR 2] [29] [zI 6 (j+1)] (oC (show IntKind.i64.wrap (j+1)=j+1 from wrap_i64 (by omega) (by omega)) oN) ?_
    refine bC ⟨i,j+1,cu,xs,Lc⟩ [0,1,4,5,6] [0] [0] [0] ?_ ?_ (by kernel_rfl) rfl rfl rfl
    ·exact⟨hi0,by simp only;omega,by simp only;omega,hrow,hinv.skip (by omega) hx Is⟩
    ·simp only
     omega
  ·have oP:j=L.length:=by simp at hlt;omega
   have hsz:=hrow.Ei
   have LR:=hinv.len
   have vM:i<L.length:=by omega
   have Qw:i<c:=by omega
   have yf:Lc.take i.toNat=sW L seq:=by
    rw[hinv.take,oP,br (by simp)]
   have wQ:0+i.toNat*11+(L.length - i.toNat)*11≤cu.size:=by omega
   refine dO rfl ?_
   refine jS [(0,true),(1,true),(2,true),(3,false)] [] ?_
   refine Yp [zR 0,zR 1,.rd 2 [] 0 4] [19,1,6] [zS 38 (sA g (0+i.toNat*11)) (L.length - i.toNat) (c - i.toNat)] (oC hi0 (oC (show i≤(↑L.length:Int) from by omega) (oC Qw oN))) ?_
   refine yR (size:=11) (bytes:=120) 0 g (0+i.toNat*11) (L.length - i.toNat) (c - i.toNat) 265 271 (.agg #[.int .i64 0,.string (aL #[]),.int .i64 0,.string (aL #[]),.int .i64 0,.bool false,.slice none 0 0,.int .i64 0,.int .i64 0,.int .i64 0,.int .i64 0]) none (by kernel_rfl) (by kernel_rfl) (by kernel_rfl) (by kernel_rfl) (by omega) rfl rfl wQ (by simp[Value.cells,Value.oneCell']) (fun NY Ie=>?_)
   refine aC (aq ?_)
   rw[aK]
   refine bH (rh 0 i.toNat rfl) ?_
   refine js 0 rfl ?_
   refine Nm [(kM (bZ (i.toNat*11) xs) 11 (bZ i.toNat (aj gg Lc))),bL g (.cells (xx cu (i.toNat*11) NY) 271 (0,0))] ?_
   rw[show bZ i.toNat (aj gg Lc)=aj gg (sW L seq)by rw[←jt,yf]]
   have uM:=hrow.Uz (i:=i.toNat) (by omega) Ie
   have z6:(aj gg (sW L seq)).length=i.toNat:=by rw[←yf];simp;omega
   refine bH (gw 1 0 rfl rfl (by rw[z6];exact uM) (by decide)) ?_
   rw[z6]
   try simp only[aQ]
   refine Zp [zR 0,zR 1,.rd 2 [] 0 4,zR 3] [38,0,5] [zS 4 (sA g 0) i.toNat c] (oC hi0 (oC (show i≤(↑c:Int) from by omega) oN)) ?_
   try simp only[aQ]
   refine Yr [[]] (.slice (sA g 0) i.toNat c) fun a w s=>?_
   exact⟨_,_,_,s.ret (by simp) [0] [] rfl rfl⟩
end Go.Proofs.YtmkapocibaojdaaGreatDoor
namespace Go.Proofs.YtmkapocibaojdaaGreatDoor
open Go Go.Sx
set_option maxHeartbeats 4000000 in
theorem GX {w:World} {S:Nat→Prop} {a:Option Addr} {n c:Nat} {l:List bE} (h:cm w S (.slice a n c) (.sl 11 (l.map gg))) (hl:l.length≤4000000) :
  Calls Tryz.prog 160 #[.slice a n c] w fun e w'=>∃a' n' c',cQ [] w S w' e (.tuple #[.int .i64 (kindOf l),.slice a' n' c']) [] [(.slice a' n' c',.sl 11 ((j6 l).map gg))]:=by
 have e1:=h.pA
 rw[aA]at e1
 subst e1
 refine jL Tryz.func160 Rs (args:=[.slice a l.length c]) (G:=[(_,.sl 11 (l.map gg))]) (by kernel_rfl) (.cons h (.nil _ _)) ?_
 cases CV:l with
 | nil=>
  subst CV
  refine Zs [zR 0,zR 1] [] [zI 2 0,zS 3 none 0 0] ?_
  refine aq ?_
  refine Zs (bh 0 3) [] [zB 7 true] ?_
  refine gR ?_
  refine Zs [zR 0,zR 1] [7] [] ?_
  refine Yr [[],[]] (.tuple #[nI 0,.slice none 0 0]) fun a w s=>?_
  exact⟨_,_,_,(s.jz (fB (v:=.slice none 0 0) (d:=.sl 11 []) fun _ _ _=>.nil)).ret (by simp) [] [1] rfl rfl⟩
 | cons x r=>
  have hx:l[0]?=some x:=by rw[CV];rfl
  have hk:kindOf (x::r)=x.o.kind:=rfl
  have hpos:¬((l.length:Int)=0):=by rw[CV];simp;omega
  rw[hk,←CV]
  refine j0 0 rfl 0 (dD hx) (by kernel_rfl) (fun b1 fu uf vi vm fg cJ ha1 cP=>?_)
  cases ha1
  have cg:=oO (cP 0 _ rfl)
  have gJ:=cP 1 _ rfl
  have gV:=cP 2 _ rfl
  have jH:=cP 3 _ rfl
  have jG:=cP 4 _ rfl
  have jF:=cP 5 _ rfl
  have jE:=cP 6 _ rfl
  have lC:=cP 7 _ rfl
  have lB:=cP 8 _ rfl
  have mM:=cP 9 _ rfl
  have kA:=cP 10 _ rfl
  have hz:uf[fu+2]?=some (.int .i64 x.o.kind):=gV
  try simp only[aQ]
  refine Zs [zR 0,zR 1] [] [zI 2 0,zS 3 none 0 0] ?_
  refine aq ?_
  refine Zs (bh 0 3) [] [zB 7 ((↑l.length:Int)==0)] ?_
  refine cC (t:=(↑l.length:Int)==0) (fun Ey=>?_) (fun Ey=>?_)
  ·exact absurd (by simpa using Ey) hpos
  refine aG ?_
  refine Zu [zR 0,.rd 1 [] 0 2,zR 2,zR 3,.rd 4 [.r 0 (some (nI x.o.kind))] 0 0,.wr 5 [] 0,.wr 6 [.o 0 none] 0] [(6,[])] [7] (fun aN=>[zP 4 (aN 0)]) o0 (fun aN=>[(aN 0,.cells #[nI x.o.kind] 3 (0,0))]) (fun aN=>(oC (show(0:Int)≤(0:Int) from by omega) (oC (show(0:Int)<(↑l.length:Int) from by omega) (oC gV oN)))) (fun aN=>?_)
  refine aq ?_
  refine ve 0 rfl ?_
  refine bH (fB fun w S H=>uD (H (_,_) (ae (i:=2) rfl)) rfl) ?_
  refine di 3 rfl (fun ni mW ng dh=>?_)
  try simp only[aQ]
  refine jT [(0,true),(1,true),(3,true),(2,false),(4,false),(5,true),(6,true)] [(4,[])] ?_
  refine Yp [.rd 0 [.r 1 (some (nI x.o.kind))] 0 0,zR 1,zR 3] [4,0] [zI 13 x.o.kind,zS 14 (sA b1 fu) l.length c,zV 16 (.func (.func 202) #[] #[.pointer (sA (aN 0) 0)])] (oC dh oN) ?_
  refine Yc 201 #[.slice (sA b1 fu) l.length c] (some 15) fun w S hG=>?_
  refine(Gb (hG.at 0 rfl) hl).mono ?_
  rintro e2 w2 ⟨a2,c2,hR⟩
  refine⟨_,_,_,hR,?_⟩
  try simp only[aQ]
  refine cn [] [0] 200 #[.slice a2 l.length c2,.func (.func 202) #[] #[.pointer (some (⟨aN 0,0,none⟩))]] (some 17) (by kernel_rfl) (by kernel_rfl) (by decide) (fun w S M hP hG _=>?_)
  refine(DP hP hl (hG.at 3 rfl)).mono ?_
  rintro e3 w3 ⟨a3,n3,c3,hR⟩
  refine⟨_,_,_,hR,?_⟩
  try simp only[aQ]
  refine Ya [zR 5,zR 6] [17,15,13,14,16] [zI 2 x.o.kind,zS 3 a3 n3 c3] ?_
  try simp only[aQ]
  refine aC ?_
  try simp only[aQ]
  refine Yr [[],[]] (.tuple #[nI x.o.kind,.slice a3 n3 c3]) fun a w s=>?_
  have e4:sW l x.o.kind=j6 l:=by rw[j6,CV];rfl
  rw[e4]at s
  have s2:=s.jz (dg 0 rfl)
  exact⟨_,_,_,s2.ret (by simp) [] [4] rfl rfl⟩
end Go.Proofs.YtmkapocibaojdaaGreatDoor
end
